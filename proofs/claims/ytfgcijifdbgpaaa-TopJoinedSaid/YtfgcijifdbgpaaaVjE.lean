/- The theorem of TopJoined, proved; part 5 of 7: its texts, merged. -/
import Derived.Test.YtfgcijifdbgpaaaVjD
set_option linter.unnecessarySimpa false
set_option linter.defProp false
set_option linter.unusedVariables false
set_option linter.unusedSimpArgs false
set_option linter.unusedSectionVars false
set_option maxRecDepth 100000
set_option maxHeartbeats 8000000
namespace Go.Proofs.Ytfgcijifdbgpaaa.P
open Go.RowKit Go.Proofs.YtfgcijifdbgpaaaW.Wd Go.Proofs.YtfgcijifdbgpaaaW.La Go.Proofs.YtfgcijifdbgpaaaW.Mo
attribute [local go_sem] y0x y0v y16 y15 y0q y0p y0w y0u
mutual
def drovewaytop_parting.l0:Nat->Int->List Int->List Int->Int->Option (List Int)
 |0,_,_,_,_=>none
 |k+1,x0,x1,x5,x6=>if x6<(x1.length:Int) then (drovewaytop_parting.l1 k x0 x1 x5 x6 0) else (some x5)
def drovewaytop_parting.l1:Nat->Int->List Int->List Int->Int->Int->Option (List Int)
 |0,_,_,_,_,_=>none
 |k+1,x0,x1,x5,x6,x7=>if x7<x0 then (if 0≤x6 then (if x6<(x1.length:Int) then (if 0≤x7 then (if (Int.tmod (shr .i64 (rd x1 x6) x7) 2)=1 then (if x7<(x5.length:Int) then (drovewaytop_parting.l1 k x0 x1 (x5.set (x7:Int).toNat x6) x6 (wrap64 (x7+1))) else (none)) else (drovewaytop_parting.l1 k x0 x1 x5 x6 (wrap64 (x7+1)))) else (none)) else (none)) else (none)) else (drovewaytop_parting.l0 k x0 x1 x5 (wrap64 (x6+1)))
end
def drovewaytop_parting.f (k:Nat) (a0:Int) (l1:List Int):Option (List Int):=if 0≤a0 then (if (a0:Int).toNat≤35184372088832 then (drovewaytop_parting.l0 k a0 l1 (List.replicate (a0:Int).toNat 0) 0) else (none)) else (none)
theorem drovewaytop_parting.calls (k:Nat) (a0:Int) (A1:Option Addr) (c1:Nat) (l1:List Int) (r:List Int) (w:World) (hr1:Kd.C (Kd.int .i64) w A1 l1.length l1) (hc1:l1.length≤c1) (h:drovewaytop_parting.f k a0 l1=some r) :
  Calls Tra.prog 8 #[.int .i64 a0,.slice A1 l1.length c1] w fun e w'=>∃ v0_:Value,e=.returned (v0_)∧Kd.R (Kd.int .i64) 3 w' w.heap.size (fun _=>True) v0_ r∧Below w.heap.size w w':=by
 have HR1:=As0.mk hr1;have HC1:=As0.mk hc1;clear hr1 hc1;have HB:=As0.mk (Below.refl w.heap.size w);have H:(if 0≤a0 then (if (a0:Int).toNat≤35184372088832 then (drovewaytop_parting.l0 k a0 l1 (List.replicate (a0:Int).toNat 0) 0) else (none)) else (none))=some r:=h;clear h
 by_cases c3:0≤a0
 ·rw [if_pos c3] at H
  have c3b0:=eq_true c3;have c3b1:decide (0≤a0)=true:=zDt c3;clear c3
  by_cases c4:(a0:Int).toNat≤35184372088832
  ·rw [if_pos c4] at H
   have c4b0:=eq_true c4;have c4b1:decide ((a0:Int).toNat≤35184372088832)=true:=zDt c4;clear c4;obtain ⟨y194,hy194⟩:∃ y_:List Int,y_=(List.replicate (a0:Int).toNat 0):=⟨_,rfl⟩
   replace H:(drovewaytop_parting.l0 k a0 l1 y194 0)=some r:=by (rw [hy194];with_reducible exact H)
   have Ny194:=As0.mk hy194;clear hy194;have H':=As0.mk H;clear H;go_enter Tra.func8,Tra.ntmps8
   go_wp2_with (((with_reducible refine y0s (N:=9) rfl ?_);refine Kd.R_make (Kd.int .i64) _ 3 rfl (N:=9) rfl 29 _ _ rfl a0 rfl rfl Tra.underlying29 (.int .i64 0) 8 info3 rfl (by decide) (by omega) 0 (ok:=fun _=>True) (okp:=fun _=>True) rfl (fun _ hk=>hk) trivial (zDo (by with_reducible assumption)) (Nat.le_trans (Nat.mul_le_mul_right _ (zDo (by with_reducible assumption):a0.toNat≤35184372088832)) (by omega)) (Below.refl _ _) (zLe _) ?_;intro v195 w5 ho6 hb hg_ hnew_;clear hg_ hnew_;(rw [← Ny194.out] at ho6);have n0_:=As0.mk (Kd.R_lower ho6 (y05 (by repeat (with_reducible exact HB.out))));have n1_:=As0.mk (y04 (by repeat (with_reducible exact HB.out)) hb);clear HB;have HO196:=n0_;have HB:=n1_;clear n0_ n1_;clear hb ho6))
   go_loopg [6] k (fun kq v6 w'=>∃ (x5_1:List Int) (x6_1:Int),v6=.int .i64 x6_1∧As0 (drovewaytop_parting.l0 kq a0 l1 x5_1 x6_1=some r)∧As0 (kq≤k)∧As0 (Kd.R (Kd.int .i64) 3 w' w.heap.size (fun _=>True) v195 x5_1)∧As0 (Below w.heap.size w w'))
   case atStart=>exact ⟨(y194),(0),(by rfl),H',⟨zLe _⟩,⟨by (with_reducible repeat (first|apply Kd.R_alloc|apply Kd.R_drewN|apply Kd.R_drew));exact HO196.out⟩,⟨by repeat (with_reducible exact HB.out)⟩⟩
   case round =>
    clear H'
    try clear c1
    try clear p2
    try clear c3
    try clear c3b0
    try clear c3b1
    try clear c4
    try clear c4b0
    try clear c4b1
    obtain ⟨x5_1,x6_1,rfl,HA,HK1,HO_5,HB⟩:=hrel;cases gk with
    |zero=>exact absurd HA.out (by simp [drovewaytop_parting.l0])
    |succ k1 =>
     have H:=HA.out;clear HA;simp only [drovewaytop_parting.l0] at H
     by_cases c7:x6_1<(l1.length:Int)
     ·rw [if_pos c7] at H
      have c7b0:decide (x6_1<(l1.length:Int))=true:=zDt c7;clear c7;have H':=As0.mk H;clear H;go_wp2
      go_loopg [7] k1 (fun kq v7 w'=>∃ (x5_2:List Int) (x7_2:Int),v7=.int .i64 x7_2∧As0 (drovewaytop_parting.l1 kq a0 l1 x5_2 x6_1 x7_2=some r)∧As0 (kq≤k1)∧As0 (Kd.R (Kd.int .i64) 3 w' w.heap.size (fun _=>True) v195 x5_2)∧As0 (Below w.heap.size w w'))
      case atStart=>exact ⟨(x5_1),(0),(by rfl),H',⟨zLe _⟩,⟨by (with_reducible repeat (first|apply Kd.R_alloc|apply Kd.R_drewN|apply Kd.R_drew));exact HO_5.out⟩,⟨by repeat (with_reducible exact HB.out)⟩⟩
      case round =>
       clear H'
       try clear c1
       try clear p2
       try clear c3
       try clear c3b0
       try clear c3b1
       try clear c4
       try clear c4b0
       try clear c4b1
       try clear c7
       try clear c7b0
       try clear p2
       obtain ⟨x5_2,x7_2,rfl,HA,HK2,HO_5,HB⟩:=hrel;cases gk with
       |zero=>exact absurd HA.out (by simp [drovewaytop_parting.l1])
       |succ k2 =>
        have H:=HA.out;clear HA;simp only [drovewaytop_parting.l1] at H
        by_cases c8:x7_2<a0
        ·rw [if_pos c8] at H
         have c8b0:decide (x7_2<a0)=true:=zDt c8;clear c8
         by_cases c9:0≤x6_1
         ·rw [if_pos c9] at H
          have c9b0:decide (0≤x6_1)=true:=zDt c9;clear c9
          by_cases c10:x6_1<(l1.length:Int)
          ·rw [if_pos c10] at H
           have c10b0:decide (x6_1<(l1.length:Int))=true:=zDt c10;clear c10
           by_cases c11:0≤x7_2
           ·rw [if_pos c11] at H
            have c11b0:=eq_true c11;have c11b1:decide (0≤x7_2)=true:=zDt c11;clear c11;obtain ⟨ji12,hji12⟩:∃ j_:Int,(shr .i64 (rd l1 x6_1) x7_2)=j_:=⟨_,rfl⟩
            replace H:(if (Int.tmod (ji12) 2)=1 then (if x7_2<(x5_2.length:Int) then (drovewaytop_parting.l1 k2 a0 l1 (x5_2.set (x7_2:Int).toNat x6_1) x6_1 (wrap64 (x7_2+1))) else (none)) else (drovewaytop_parting.l1 k2 a0 l1 x5_2 x6_1 (wrap64 (x7_2+1))))=some r:=by (rw [hji12] at H;exact H)
            have hji12_:((rd l1 x6_1) / 2 ^ min x7_2.toNat 64)=ji12:=hji12;have hji12z:x7_2≤64->((rd l1 x6_1) / 2 ^ x7_2.toNat)=ji12:=y9q hji12
            by_cases c13:(Int.tmod (ji12) 2)=1
            ·rw [if_pos c13] at H
             have c13b0:((Int.tmod (ji12) 2) == 1)=true:=beq_iff_eq.mpr c13;have c13b1:((Int.tmod (ji12) 2) != 1)=false:=bne_eq_false_iff_eq.mpr c13;clear c13
             by_cases c14:x7_2<(x5_2.length:Int)
             ·rw [if_pos c14] at H
              have c14b0:decide (x7_2<(x5_2.length:Int))=true:=zDt c14;clear c14;obtain ⟨y198,hy198⟩:∃ y_:List Int,y_=(x5_2.set (x7_2:Int).toNat x6_1):=⟨_,rfl⟩
              replace H:(drovewaytop_parting.l1 k2 a0 l1 y198 x6_1 (wrap64 (x7_2+1)))=some r:=by (rw [hy198];with_reducible exact H)
              have Ny198:=As0.mk hy198;clear hy198;have H':=As0.mk H;clear H;have p197:0≤(x6_1:Int):=zDo (by with_reducible assumption);have q197:x6_1<(l1.length:Int):=zDo (by with_reducible assumption);obtain ⟨ad197,e197,hx197_0⟩:=Kd.at_int HR1.out x6_1 p197 q197;cases e197
              replace hx197_0:=(HB.out.cell (World.block_lt_of_cell? w _ hx197_0)).trans hx197_0;replace p197:=eq_true p197;replace q197:=eq_true q197;have p15:0≤(x7_2:Int):=zDo (by with_reducible assumption);have q15:(x7_2:Int)<((x5_2.length:Int):Int):=zDo (by with_reducible assumption);obtain ⟨go15,co15,eo15,gb15,gl15,cl15,HG15⟩:=Kd.R_form HO_5.out (by omega)
              (cases eo15)
              have GB15:=As0.mk gb15;have GG15:=As0.mk HG15;clear gb15 gl15 HG15;obtain ⟨hx15_0,hf15_0⟩:=Kd.R_celln 0 HO_5.out (x7_2:Int) p15 q15;replace p15:=eq_true p15;replace q15:=eq_true q15;have HP16:=Kd.R_putg HO_5.out (x7_2:Int) x6_1;go_wp2_with (((with_reducible refine yej (t:=3) (p:=32) rfl ?_);refine yb2 (t:=3) (p:=32) (v:=?vo_w17) (w1:=(wr.setCell ⟨go15,(x7_2:Int).toNat,none⟩ (.int .i64 x6_1))) ?hg ?ho ?hn ?hr ?_;(case ho=>rfl);(case hg=>rfl);(case hn=>rfl);(case hr=>(go_simp;done));intro w17 hw;have hg:wr.grownBy w17 (some go15):=(by rw [hw];exact HP16.2);have hp_:Kd.R (Kd.int .i64) 3 w17 w.heap.size (fun _=>True) (.slice (some ⟨go15,0,none⟩) x5_2.length co15) y198:=(by rw [hw,Ny198.out];exact HP16.1);clear HP16;have n0_:=As0.mk (hp_);have n1_:=As0.mk ((by rw [hw];exact y0j (HB.out) GB15.out:Below w.heap.size w w17));clear HO_5;clear HB;have HO_5:=n0_;have HB:=n1_;clear n0_ n1_;clear hg hw hp_))
              go_roundg k2
              case measure=>have:=HK1.out;have:=HK2.out;omega
              case rel=>exact ⟨(y198),(wrap64 (x7_2+1)),(by rfl),H',⟨by have:=HK1.out;have:=HK2.out;omega⟩,⟨by (with_reducible repeat (first|apply Kd.R_alloc|apply Kd.R_drewN|apply Kd.R_drew));exact HO_5.out⟩,⟨by repeat (with_reducible exact HB.out)⟩⟩
             ·rw [if_neg c14] at H
              exact absurd H (by simp)
            ·rw [if_neg c13] at H
             have c13b0:((Int.tmod (ji12) 2) == 1)=false:=beq_eq_false_iff_ne.mpr c13;have c13b1:((Int.tmod (ji12) 2) != 1)=true:=bne_iff_ne.mpr c13;have H':=As0.mk H;clear H;have p197:0≤(x6_1:Int):=zDo (by with_reducible assumption);have q197:x6_1<(l1.length:Int):=zDo (by with_reducible assumption);obtain ⟨ad197,e197,hx197_0⟩:=Kd.at_int HR1.out x6_1 p197 q197;cases e197
             replace hx197_0:=(HB.out.cell (World.block_lt_of_cell? w _ hx197_0)).trans hx197_0;replace p197:=eq_true p197;replace q197:=eq_true q197;go_wp2
             go_roundg k2
             case measure=>have:=HK1.out;have:=HK2.out;omega
             case rel=>exact ⟨(x5_2),(wrap64 (x7_2+1)),(by rfl),H',⟨by have:=HK1.out;have:=HK2.out;omega⟩,⟨by (with_reducible repeat (first|apply Kd.R_alloc|apply Kd.R_drewN|apply Kd.R_drew));exact HO_5.out⟩,⟨by repeat (with_reducible exact HB.out)⟩⟩
           ·rw [if_neg c11] at H
            exact absurd H (by simp)
          ·rw [if_neg c10] at H
           exact absurd H (by simp)
         ·rw [if_neg c9] at H
          exact absurd H (by simp)
        ·rw [if_neg c8] at H
         have c8b0:decide (x7_2<a0)=false:=zDf c8;clear c8;have H':=As0.mk H;clear H;go_wp2
         go_roundg k2
         case measure=>have:=HK1.out;have:=HK2.out;omega
         case rel=>exact ⟨(x5_2),(wrap64 (x6_1+1)),(by rfl),H',⟨by have:=HK1.out;have:=HK2.out;omega⟩,⟨by (with_reducible repeat (first|apply Kd.R_alloc|apply Kd.R_drewN|apply Kd.R_drew));exact HO_5.out⟩,⟨by repeat (with_reducible exact HB.out)⟩⟩
     ·rw [if_neg c7] at H
      have c7b0:decide (x6_1<(l1.length:Int))=false:=zDf c7;clear c7;obtain rfl:=zSi H;go_wp2
      go_ret
      exact ⟨_,by rfl,by (with_reducible repeat (first|apply Kd.R_alloc|apply Kd.R_drewN|apply Kd.R_drew));exact HO_5.out,by repeat (with_reducible exact HB.out)⟩
  ·rw [if_neg c4] at H
   exact absurd H (by simp)
 ·rw [if_neg c3] at H
  exact absurd H (by simp)
def mobs_IsParting.l0:Nat->Int->List Int->Int->Int->Option (Bool)
 |0,_,_,_,_=>none
 |k+1,x3,x9,x10,x11=>if x11<x10 then (if 0≤x11 then (if x11<(x9.length:Int) then (if (rd x9 x11)<0 then (some false) else (if (rd x9 x11) > x3 then (some false) else (mobs_IsParting.l0 k (mx x3 (wrap64 ((rd x9 x11)+1))) x9 x10 (wrap64 (x11+1))))) else (none)) else (none)) else (some true)
def mobs_IsParting.f (k:Nat) (l0:List Int):Option (Bool):=if (l0.length:Int) > 12 then (some false) else (mobs_IsParting.l0 k 0 l0 (l0.length:Int) 0)
theorem mobs_IsParting.calls (k:Nat) (A0:Option Addr) (c0:Nat) (l0:List Int) (r:Bool) (w:World) (hr0:Kd.C (Kd.int .i64) w A0 l0.length l0) (hc0:l0.length≤c0) (h:mobs_IsParting.f k l0=some r) :
  Calls Tra.prog 36 #[.slice A0 l0.length c0] w fun e w'=>e=.returned (.bool r)∧Below w.heap.size w w':=by
 have HR0:=As0.mk hr0;have HC0:=As0.mk hc0;clear hr0 hc0;have HB:=As0.mk (Below.refl w.heap.size w);have H:(if (l0.length:Int) > 12 then (some false) else (mobs_IsParting.l0 k 0 l0 (l0.length:Int) 0))=some r:=h;clear h
 by_cases c2:(l0.length:Int) > 12
 ·rw [if_pos c2] at H
  have c2b0:decide (12<(l0.length:Int))=true:=zDt c2;have c2b1:decide (12<l0.length)=true:=zDt (by omega);clear c2;obtain rfl:=zSi H;go_enter Tra.func36,Tra.ntmps36
  go_wp2
  go_ret
  exact ⟨by rfl,by repeat (with_reducible exact HB.out)⟩
 ·rw [if_neg c2] at H
  have c2b0:decide (12<(l0.length:Int))=false:=zDf c2;have c2b1:decide (12<l0.length)=false:=zDf (by omega);clear c2;have H':=As0.mk H;clear H;go_enter Tra.func36,Tra.ntmps36
  go_wp2
  go_loopg [3,11] k (fun kq v3 v11 w'=>∃ (x3_1:Int) (x11_1:Int),v3=.int .i64 x3_1∧v11=.int .i64 x11_1∧As0 (mobs_IsParting.l0 kq x3_1 l0 (l0.length:Int) x11_1=some r)∧As0 (kq≤k)∧As0 (Below w.heap.size w w'))
  case atStart=>exact ⟨(0),(0),(by rfl),(by rfl),H',⟨zLe _⟩,⟨by repeat (with_reducible exact HB.out)⟩⟩
  case round =>
   clear H'
   try clear c2
   try clear c2b0
   try clear c2b1
   try clear p2
   obtain ⟨x3_1,x11_1,rfl,rfl,HA,HK1,HB⟩:=hrel;cases gk with
   |zero=>exact absurd HA.out (by simp [mobs_IsParting.l0])
   |succ k1 =>
    have H:=HA.out;clear HA;simp only [mobs_IsParting.l0] at H
    by_cases c3:x11_1<(l0.length:Int)
    ·rw [if_pos c3] at H
     have c3b0:decide (x11_1<(l0.length:Int))=true:=zDt c3;clear c3
     by_cases c4:0≤x11_1
     ·rw [if_pos c4] at H
      have c4b0:decide (0≤x11_1)=true:=zDt c4;clear c4
      by_cases c5:x11_1<(l0.length:Int)
      ·rw [if_pos c5] at H
       have c5b0:decide (x11_1<(l0.length:Int))=true:=zDt c5;clear c5
       by_cases c6:(rd l0 x11_1)<0
       ·rw [if_pos c6] at H
        have c6b0:decide ((rd l0 x11_1)<0)=true:=zDt c6;clear c6;obtain rfl:=zSi H;have p199:0≤(x11_1:Int):=zDo (by with_reducible assumption);have q199:x11_1<(l0.length:Int):=zDo (by with_reducible assumption);obtain ⟨ad199,e199,hx199_0⟩:=Kd.at_int HR0.out x11_1 p199 q199;cases e199
        replace hx199_0:=(HB.out.cell (World.block_lt_of_cell? w _ hx199_0)).trans hx199_0;replace p199:=eq_true p199;replace q199:=eq_true q199;go_wp2
        go_ret
        exact ⟨by rfl,by repeat (with_reducible exact HB.out)⟩
       ·rw [if_neg c6] at H
        have c6b0:decide ((rd l0 x11_1)<0)=false:=zDf c6;clear c6
        by_cases c7:(rd l0 x11_1) > x3_1
        ·rw [if_pos c7] at H
         have c7b0:decide (x3_1<(rd l0 x11_1))=true:=zDt c7;clear c7;obtain rfl:=zSi H;have p199:0≤(x11_1:Int):=zDo (by with_reducible assumption);have q199:x11_1<(l0.length:Int):=zDo (by with_reducible assumption);obtain ⟨ad199,e199,hx199_0⟩:=Kd.at_int HR0.out x11_1 p199 q199;cases e199
         replace hx199_0:=(HB.out.cell (World.block_lt_of_cell? w _ hx199_0)).trans hx199_0;replace p199:=eq_true p199;replace q199:=eq_true q199;go_wp2
         go_ret
         exact ⟨by rfl,by repeat (with_reducible exact HB.out)⟩
        ·rw [if_neg c7] at H
         have c7b0:decide (x3_1<(rd l0 x11_1))=false:=zDf c7;clear c7;obtain ⟨ji8,hji8⟩:∃ j_:Int,(mx x3_1 (wrap64 ((rd l0 x11_1)+1)))=j_:=⟨_,rfl⟩
         replace H:(mobs_IsParting.l0 k1 ji8 l0 (l0.length:Int) (wrap64 (x11_1+1)))=some r:=by (rw [hji8] at H;exact H)
         have hji8_:(if x3_1<(wrap64 ((rd l0 x11_1)+1)) then (wrap64 ((rd l0 x11_1)+1)) else x3_1)=ji8:=hji8;have H':=As0.mk H;clear H;have p199:0≤(x11_1:Int):=zDo (by with_reducible assumption);have q199:x11_1<(l0.length:Int):=zDo (by with_reducible assumption);obtain ⟨ad199,e199,hx199_0⟩:=Kd.at_int HR0.out x11_1 p199 q199;cases e199
         replace hx199_0:=(HB.out.cell (World.block_lt_of_cell? w _ hx199_0)).trans hx199_0;replace p199:=eq_true p199;replace q199:=eq_true q199;go_wp2
         go_roundg k1
         case measure=>have:=HK1.out;omega
         case rel=>exact ⟨(ji8),(wrap64 (x11_1+1)),(by rfl),(by rfl),H',⟨by have:=HK1.out;omega⟩,⟨by repeat (with_reducible exact HB.out)⟩⟩
      ·rw [if_neg c5] at H
       exact absurd H (by simp)
     ·rw [if_neg c4] at H
      exact absurd H (by simp)
    ·rw [if_neg c3] at H
     have c3b0:decide (x11_1<(l0.length:Int))=false:=zDf c3;clear c3;obtain rfl:=zSi H;go_wp2
     go_ret
     exact ⟨by rfl,by repeat (with_reducible exact HB.out)⟩
def mobs_read.l0:Nat->List (List Int)->List (List Int)->Int->Int->Option (Int)
 |0,_,_,_,_=>none
 |k+1,x0,x5,x6,x7=>if x7<x6 then (if 0≤x7 then (if x7<(x5.length:Int) then (if ((y1s x5 x7).length:Int) > 12 then (some 3) else ((mobs_IsParting.f k (y1s x5 x7)).bind fun t203=>(if t203=true then (mobs_read.l0 k x0 x5 x6 (wrap64 (x7+1))) else (some 2)))) else (none)) else (none)) else (if (x0.length:Int)=2 then (if 0<(x0.length:Int) then (if 1<(x0.length:Int) then (if ((y1s x0 0).length:Int)=((y1s x0 1).length:Int) then (some 0) else (some 2)) else (none)) else (none)) else (some 0))
def mobs_read.f (k:Nat) (l0:List (List Int)):Option (Int):=mobs_read.l0 k l0 l0 (l0.length:Int) 0
theorem mobs_read.calls (k:Nat) (A0:Option Addr) (c0:Nat) (l0:List (List Int)) (r:Int) (w:World) (hr0:Kd.C (Kd.slice 3 (Kd.int .i64)) w A0 l0.length l0) (hc0:l0.length≤c0) (h:mobs_read.f k l0=some r) :
  Calls Tra.prog 20 #[.slice A0 l0.length c0] w fun e w'=>e=.returned (.int .i64 r)∧Below w.heap.size w w':=by
 have HR0:=As0.mk hr0;have HC0:=As0.mk hc0;clear hr0 hc0;have HB:=As0.mk (Below.refl w.heap.size w);have H:(mobs_read.l0 k l0 l0 (l0.length:Int) 0)=some r:=h;clear h;have H':=As0.mk H;clear H;go_enter Tra.func20,Tra.ntmps20
 go_wp2
 repeat (go_quiet (fail);try go_wp2)
 go_loopg [7] k (fun kq v7 w'=>∃ (x7_1:Int),v7=.int .i64 x7_1∧As0 (mobs_read.l0 kq l0 l0 (l0.length:Int) x7_1=some r)∧As0 (kq≤k)∧As0 (Below w.heap.size w w'))
 case atStart=>exact ⟨(0),(by rfl),H',⟨zLe _⟩,⟨by repeat (with_reducible exact HB.out)⟩⟩
 case round =>
  clear H';obtain ⟨x7_1,rfl,HA,HK1,HB⟩:=hrel;cases gk with
  |zero=>exact absurd HA.out (by simp [mobs_read.l0])
  |succ k1 =>
   have H:=HA.out;clear HA;simp only [mobs_read.l0] at H
   by_cases c2:x7_1<(l0.length:Int)
   ·rw [if_pos c2] at H
    have c2b0:decide (x7_1<(l0.length:Int))=true:=zDt c2;clear c2
    by_cases c3:0≤x7_1
    ·rw [if_pos c3] at H
     have c3b0:decide (0≤x7_1)=true:=zDt c3;clear c3
     by_cases c4:x7_1<(l0.length:Int)
     ·rw [if_pos c4] at H
      have c4b0:decide (x7_1<(l0.length:Int))=true:=zDt c4;clear c4
      by_cases c5:((y1s l0 x7_1).length:Int) > 12
      ·rw [if_pos c5] at H
       have c5b0:decide (12<((y1s l0 x7_1).length:Int))=true:=zDt c5;have c5b1:decide (12<(y1s l0 x7_1).length)=true:=zDt (by omega);clear c5;obtain rfl:=zSi H;have p202:0≤(x7_1:Int):=zDo (by with_reducible assumption);have q202:x7_1<(l0.length:Int):=zDo (by with_reducible assumption);obtain ⟨ad202,A202_0,c202_0,e202,hx202_0,hl202_0,hi202_0⟩:=ycb HR0.out x7_1 p202 q202;cases e202
       replace hx202_0:=(HB.out.cell (World.block_lt_of_cell? w _ hx202_0)).trans hx202_0;have HR202_0:=As0.mk hi202_0;have HC202_0:=As0.mk hl202_0;clear hi202_0 hl202_0;replace p202:=eq_true p202;replace q202:=eq_true q202;go_wp2
       repeat (go_quiet (fail);try go_wp2)
       go_ret
       exact ⟨by rfl,by repeat (with_reducible exact HB.out)⟩
      ·rw [if_neg c5] at H
       have c5b0:decide (12<((y1s l0 x7_1).length:Int))=false:=zDf c5;have c5b1:decide (12<(y1s l0 x7_1).length)=false:=zDf (by omega);clear c5;replace H:=Option.bind_eq_some_iff.mp H;obtain ⟨t203,A60,H⟩:=H;replace H:(if t203=true then (mobs_read.l0 k1 l0 l0 (l0.length:Int) (wrap64 (x7_1+1))) else (some 2))=some r:=H;have A6:=As0.mk A60;clear A60
       by_cases c7:t203=true
       ·subst c7
        have H1:(mobs_read.l0 k1 l0 l0 (l0.length:Int) (wrap64 (x7_1+1)))=some r:=by rw [if_pos rfl] at H;exact H
        clear H;have H:=H1;clear H1;have H':=As0.mk H;clear H;have p202:0≤(x7_1:Int):=zDo (by with_reducible assumption);have q202:x7_1<(l0.length:Int):=zDo (by with_reducible assumption);obtain ⟨ad202,A202_0,c202_0,e202,hx202_0,hl202_0,hi202_0⟩:=ycb HR0.out x7_1 p202 q202;cases e202
        replace hx202_0:=(HB.out.cell (World.block_lt_of_cell? w _ hx202_0)).trans hx202_0;have HR202_0:=As0.mk hi202_0;have HC202_0:=As0.mk hl202_0;clear hi202_0 hl202_0;replace p202:=eq_true p202;replace q202:=eq_true q202;go_wp2_with ((go_at_call 36;(with_reducible refine (mobs_IsParting.calls k1 _ _ (y1s l0 x7_1) true _ ?side1 ?side2 A6.out).mono ?_);(case side1=>repeat (exact (Kd.C_below HR202_0.out HB.out)));(case side2=>exact HC202_0.out);rintro e w8 ⟨rfl,hb⟩;have n0_:=As0.mk (y04 (by repeat (with_reducible exact HB.out)) hb);clear HB;have HB:=n0_;clear n0_;(try clear hb);(try clear hb2);(try clear hk);(try clear hi)))
        repeat (go_quiet (first|(go_at_call 36;(with_reducible refine (mobs_IsParting.calls k1 _ _ (y1s l0 x7_1) true _ ?side1 ?side2 A6.out).mono ?_);(case side1=>repeat (first|exact (Kd.C_below HR202_0.out HB.out)|(with_reducible refine Kd.C_alloc ?_ _)|(with_reducible refine Kd.C_drewN ?_ _)|(with_reducible refine Kd.C_drew ?_)));(case side2=>exact HC202_0.out);rintro e w8 ⟨rfl,hb⟩;have n0_:=As0.mk (y04 (by repeat (with_reducible first|exact HB.out|apply y01|apply y00|apply y02)) hb);clear HB;have HB:=n0_;clear n0_;(try clear hb);(try clear hb2);(try clear hk);(try clear hi)));try go_wp2_with (first|(go_at_call 36;(with_reducible refine (mobs_IsParting.calls k1 _ _ (y1s l0 x7_1) true _ ?side1 ?side2 A6.out).mono ?_);(case side1=>repeat (first|exact (Kd.C_below HR202_0.out HB.out)|(with_reducible refine Kd.C_alloc ?_ _)|(with_reducible refine Kd.C_drewN ?_ _)|(with_reducible refine Kd.C_drew ?_)));(case side2=>exact HC202_0.out);rintro e w8 ⟨rfl,hb⟩;have n0_:=As0.mk (y04 (by repeat (with_reducible first|exact HB.out|apply y01|apply y00|apply y02)) hb);clear HB;have HB:=n0_;clear n0_;(try clear hb);(try clear hb2);(try clear hk);(try clear hi))))
        go_roundg k1
        case measure=>have:=HK1.out;omega
        case rel=>exact ⟨(wrap64 (x7_1+1)),(by rfl),H',⟨by have:=HK1.out;omega⟩,⟨by repeat (with_reducible exact HB.out)⟩⟩
       ·replace c7:=Bool.eq_false_iff.mpr c7
        subst c7;have H1:(some 2)=some r:=by rw [if_neg (show ¬ (false=true) by decide)] at H;exact H
        clear H;have H:=H1;clear H1;obtain rfl:=zSi H;have p202:0≤(x7_1:Int):=zDo (by with_reducible assumption);have q202:x7_1<(l0.length:Int):=zDo (by with_reducible assumption);obtain ⟨ad202,A202_0,c202_0,e202,hx202_0,hl202_0,hi202_0⟩:=ycb HR0.out x7_1 p202 q202;cases e202
        replace hx202_0:=(HB.out.cell (World.block_lt_of_cell? w _ hx202_0)).trans hx202_0;have HR202_0:=As0.mk hi202_0;have HC202_0:=As0.mk hl202_0;clear hi202_0 hl202_0;replace p202:=eq_true p202;replace q202:=eq_true q202;go_wp2_with ((go_at_call 36;(with_reducible refine (mobs_IsParting.calls k1 _ _ (y1s l0 x7_1) false _ ?side1 ?side2 A6.out).mono ?_);(case side1=>repeat (exact (Kd.C_below HR202_0.out HB.out)));(case side2=>exact HC202_0.out);rintro e w9 ⟨rfl,hb⟩;have n0_:=As0.mk (y04 (by repeat (with_reducible exact HB.out)) hb);clear HB;have HB:=n0_;clear n0_;(try clear hb);(try clear hb2);(try clear hk);(try clear hi)))
        repeat (go_quiet (first|(go_at_call 36;(with_reducible refine (mobs_IsParting.calls k1 _ _ (y1s l0 x7_1) false _ ?side1 ?side2 A6.out).mono ?_);(case side1=>repeat (first|exact (Kd.C_below HR202_0.out HB.out)|(with_reducible refine Kd.C_alloc ?_ _)|(with_reducible refine Kd.C_drewN ?_ _)|(with_reducible refine Kd.C_drew ?_)));(case side2=>exact HC202_0.out);rintro e w9 ⟨rfl,hb⟩;have n0_:=As0.mk (y04 (by repeat (with_reducible first|exact HB.out|apply y01|apply y00|apply y02)) hb);clear HB;have HB:=n0_;clear n0_;(try clear hb);(try clear hb2);(try clear hk);(try clear hi)));try go_wp2_with (first|(go_at_call 36;(with_reducible refine (mobs_IsParting.calls k1 _ _ (y1s l0 x7_1) false _ ?side1 ?side2 A6.out).mono ?_);(case side1=>repeat (first|exact (Kd.C_below HR202_0.out HB.out)|(with_reducible refine Kd.C_alloc ?_ _)|(with_reducible refine Kd.C_drewN ?_ _)|(with_reducible refine Kd.C_drew ?_)));(case side2=>exact HC202_0.out);rintro e w9 ⟨rfl,hb⟩;have n0_:=As0.mk (y04 (by repeat (with_reducible first|exact HB.out|apply y01|apply y00|apply y02)) hb);clear HB;have HB:=n0_;clear n0_;(try clear hb);(try clear hb2);(try clear hk);(try clear hi))))
        go_ret
        exact ⟨by rfl,by repeat (with_reducible exact HB.out)⟩
     ·rw [if_neg c4] at H
      exact absurd H (by simp)
    ·rw [if_neg c3] at H
     exact absurd H (by simp)
   ·rw [if_neg c2] at H
    have c2b0:decide (x7_1<(l0.length:Int))=false:=zDf c2;clear c2
    by_cases c10:(l0.length:Int)=2
    ·rw [if_pos c10] at H
     have c10b0:((l0.length:Int) == 2)=true:=beq_iff_eq.mpr c10;have c10b1:((l0.length:Int) != 2)=false:=bne_eq_false_iff_eq.mpr c10;clear c10
     by_cases c11:0<(l0.length:Int)
     ·rw [if_pos c11] at H
      have c11b0:decide (0<(l0.length:Int))=true:=zDt c11;have c11b1:decide (0<l0.length)=true:=zDt (by omega);clear c11
      by_cases c12:1<(l0.length:Int)
      ·rw [if_pos c12] at H
       have c12b0:decide (1<(l0.length:Int))=true:=zDt c12;have c12b1:decide (1<l0.length)=true:=zDt (by omega);clear c12
       by_cases c13:((y1s l0 0).length:Int)=((y1s l0 1).length:Int)
       ·rw [if_pos c13] at H
        have c13b0:(((y1s l0 0).length:Int) == ((y1s l0 1).length:Int))=true:=beq_iff_eq.mpr c13;have c13b1:(((y1s l0 0).length:Int) != ((y1s l0 1).length:Int))=false:=bne_eq_false_iff_eq.mpr c13;have c13b2:((y1s l0 0).length == (y1s l0 1).length)=true:=by (simp at c13 ⊢;omega)
        clear c13;obtain rfl:=zSi H;have p200:0≤(0:Int):=(by omega)
        have q200:0<(l0.length:Int):=zDo (by with_reducible assumption);obtain ⟨ad200,A200_0,c200_0,e200,hx200_0,hl200_0,hi200_0⟩:=ycb HR0.out 0 p200 q200;cases e200
        have qi200:(0<l0.length)=True:=eq_true (by omega)
        (try rw [show ((0:Int)).toNat=0 from rfl] at hx200_0)
        (try rw [Addr.add_zero'] at hx200_0)
        replace hx200_0:=(HB.out.cell (World.block_lt_of_cell? w _ hx200_0)).trans hx200_0;have HR200_0:=As0.mk hi200_0;have HC200_0:=As0.mk hl200_0;clear hi200_0 hl200_0;replace p200:=eq_true p200;replace q200:=eq_true q200;have p201:0≤(1:Int):=(by omega)
        have q201:1<(l0.length:Int):=zDo (by with_reducible assumption);obtain ⟨ad201,A201_0,c201_0,e201,hx201_0,hl201_0,hi201_0⟩:=ycb HR0.out 1 p201 q201;obtain rfl:ad200=ad201:=(by injection e201)
        (try simp only [show (1:Int).toNat=1 from rfl,Nat.reduceMul,Nat.reduceEqDiff,Go.Addr.add,↓reduceIte] at hx201_0)
        have qi201:(1<l0.length)=True:=eq_true (by omega)
        (try rw [show ((1:Int)).toNat=1 from rfl] at hx201_0)
        replace hx201_0:=(HB.out.cell (World.block_lt_of_cell? w _ hx201_0)).trans hx201_0;have HR201_0:=As0.mk hi201_0;have HC201_0:=As0.mk hl201_0;clear hi201_0 hl201_0;replace p201:=eq_true p201;replace q201:=eq_true q201;go_wp2
        repeat (go_quiet (fail);try go_wp2)
        go_ret
        exact ⟨by rfl,by repeat (with_reducible first|exact HB.out|apply y00)⟩
       ·rw [if_neg c13] at H
        have c13b0:(((y1s l0 0).length:Int) == ((y1s l0 1).length:Int))=false:=beq_eq_false_iff_ne.mpr c13;have c13b1:(((y1s l0 0).length:Int) != ((y1s l0 1).length:Int))=true:=bne_iff_ne.mpr c13;have c13b2:((y1s l0 0).length == (y1s l0 1).length)=false:=by (simp at c13 ⊢;omega)
        obtain rfl:=zSi H;have p200:0≤(0:Int):=(by omega)
        have q200:0<(l0.length:Int):=zDo (by with_reducible assumption);obtain ⟨ad200,A200_0,c200_0,e200,hx200_0,hl200_0,hi200_0⟩:=ycb HR0.out 0 p200 q200;cases e200
        have qi200:(0<l0.length)=True:=eq_true (by omega)
        (try rw [show ((0:Int)).toNat=0 from rfl] at hx200_0)
        (try rw [Addr.add_zero'] at hx200_0)
        replace hx200_0:=(HB.out.cell (World.block_lt_of_cell? w _ hx200_0)).trans hx200_0;have HR200_0:=As0.mk hi200_0;have HC200_0:=As0.mk hl200_0;clear hi200_0 hl200_0;replace p200:=eq_true p200;replace q200:=eq_true q200;have p201:0≤(1:Int):=(by omega)
        have q201:1<(l0.length:Int):=zDo (by with_reducible assumption);obtain ⟨ad201,A201_0,c201_0,e201,hx201_0,hl201_0,hi201_0⟩:=ycb HR0.out 1 p201 q201;obtain rfl:ad200=ad201:=(by injection e201)
        (try simp only [show (1:Int).toNat=1 from rfl,Nat.reduceMul,Nat.reduceEqDiff,Go.Addr.add,↓reduceIte] at hx201_0)
        have qi201:(1<l0.length)=True:=eq_true (by omega)
        (try rw [show ((1:Int)).toNat=1 from rfl] at hx201_0)
        replace hx201_0:=(HB.out.cell (World.block_lt_of_cell? w _ hx201_0)).trans hx201_0;have HR201_0:=As0.mk hi201_0;have HC201_0:=As0.mk hl201_0;clear hi201_0 hl201_0;replace p201:=eq_true p201;replace q201:=eq_true q201;go_wp2
        repeat (go_quiet (fail);try go_wp2)
        go_ret
        exact ⟨by rfl,by repeat (with_reducible first|exact HB.out|apply y00)⟩
      ·rw [if_neg c12] at H
       exact absurd H (by simp)
     ·rw [if_neg c11] at H
      exact absurd H (by simp)
    ·rw [if_neg c10] at H
     have c10b0:((l0.length:Int) == 2)=false:=beq_eq_false_iff_ne.mpr c10;have c10b1:((l0.length:Int) != 2)=true:=bne_iff_ne.mpr c10;obtain rfl:=zSi H;go_wp2
     repeat (go_quiet (fail);try go_wp2)
     go_ret
     exact ⟨by rfl,by repeat (with_reducible first|exact HB.out|apply y00)⟩
def whole0.l0:Nat->List Int->Int->Int->Option (Int)
 |0,_,_,_=>none
 |k+1,x0,x1,x2=>if x2<(x0.length:Int) then (if 0≤x2 then (whole0.l0 k x0 (wrap64 (x1+(rd x0 x2))) (wrap64 (x2+1))) else (none)) else (some x1)
def whole0.f (k:Nat) (l0:List Int):Option (Int):=whole0.l0 k l0 0 0
theorem whole0.calls (k:Nat) (A0:Option Addr) (c0:Nat) (l0:List Int) (r:Int) (w:World) (hr0:Kd.C (Kd.int .i64) w A0 l0.length l0) (hc0:l0.length≤c0) (h:whole0.f k l0=some r) :
  Calls Tra.prog 21 #[.slice A0 l0.length c0] w fun e w'=>e=.returned (.int .i64 r)∧Drawn0 w w':=by
 have HR0:=As0.mk hr0;have HC0:=As0.mk hc0;clear hr0 hc0;have H:(whole0.l0 k l0 0 0)=some r:=h;clear h;have H':=As0.mk H;clear H;go_enter Tra.func21,Tra.ntmps21
 have hq1:(0≤(l0.length:Int))=True:=eq_true (Int.natCast_nonneg _);have hq2:((l0.length:Int)≤(c0:Int))=True:=eq_true (Int.ofNat_le.2 HC0.out);have hq3:(l0.length≤c0)=True:=eq_true HC0.out;go_wp2
 go_loopg [1,2] k (fun kq v1 v2 w'=>∃ (x1_1:Int) (x2_1:Int),v1=.int .i64 x1_1∧v2=.int .i64 x2_1∧As0 (whole0.l0 kq l0 x1_1 x2_1=some r)∧As0 (kq≤k)∧Drawn0 w w')
 case atStart=>exact ⟨(0),(0),(by rfl),(by rfl),H',⟨zLe _⟩,by repeat (exact Drawn0.refl _)⟩
 case round =>
  clear H';obtain ⟨x1_1,x2_1,rfl,rfl,HA,HK1,⟨m1,rfl⟩⟩:=hrel;cases gk with
  |zero=>exact absurd HA.out (by simp [whole0.l0])
  |succ k1 =>
   have H:=HA.out;clear HA;simp only [whole0.l0] at H
   by_cases c2:x2_1<(l0.length:Int)
   ·rw [if_pos c2] at H
    have c2b0:decide (x2_1<(l0.length:Int))=true:=zDt c2;clear c2
    by_cases c3:0≤x2_1
    ·rw [if_pos c3] at H
     have c3b0:decide (0≤x2_1)=true:=zDt c3;clear c3;have H':=As0.mk H;clear H;have p180:0≤(x2_1:Int):=zDo (by with_reducible assumption);have q180:x2_1<(l0.length:Int):=zDo (by with_reducible assumption);obtain ⟨ad180,e180,hx180_0⟩:=Kd.at_int HR0.out x2_1 p180 q180;cases e180
     replace p180:=eq_true p180;replace q180:=eq_true q180;go_wp2
     go_roundg k1
     case measure=>have:=HK1.out;omega
     case rel=>exact ⟨(wrap64 (x1_1+(rd l0 x2_1))),(wrap64 (x2_1+1)),(by rfl),(by rfl),H',⟨by have:=HK1.out;omega⟩,by repeat (first|exact Drawn0.refl _|apply Drawn0.step)⟩
    ·rw [if_neg c3] at H
     exact absurd H (by simp)
   ·rw [if_neg c2] at H
    have c2b0:decide (x2_1<(l0.length:Int))=false:=zDf c2;clear c2;obtain rfl:=zSi H;go_wp2
    go_ret
    exact ⟨by rfl,by repeat (first|exact Drawn0.refl _|apply Drawn0.step)⟩
def sync_WaitGroup_Add.f (k:Nat) (l0:List Int):Option (Int):=whole0.f k l0
theorem sync_WaitGroup_Add.calls (k:Nat) (A0:Option Addr) (c0:Nat) (l0:List Int) (r:Int) (w:World) (hr0:Kd.C (Kd.int .i64) w A0 l0.length l0) (hc0:l0.length≤c0) (h:sync_WaitGroup_Add.f k l0=some r) :
  Calls Tra.prog 21 #[.slice A0 l0.length c0] w fun e w'=>e=.returned (.int .i64 r)∧Below w.heap.size w w':=by
 refine (whole0.calls k A0 c0 l0 r w hr0 hc0 h).mono ?_
 rintro e w' ⟨he,hd⟩
 exact ⟨he,hd.below⟩
def mobs_Meet.f (k:Nat) (l0:List Int) (l1:List Int):Option (List Int × List Int × Int):=(sync_WaitGroup_Add.f k l0).bind fun t204=>((sync_WaitGroup_Add.f k l1).bind fun t205=>((mobs_read.f k (([l0,l1]:List (List Int)))).bind fun t209=>(if t209=0 then ((mobs_below.f k l0 l1).bind fun t210=>((mobs_above.f l0 l1).bind fun t213=>(if ([]:List Int).length+t210.length<17592186044416 then (if ([]:List Int).length+t213.length<17592186044416 then (some ((([]:List Int) ++ t210),(([]:List Int) ++ t213),0)) else (none)) else (none)))) else (some (([]:List Int),([]:List Int),t209)))))
theorem mobs_Meet.calls (k:Nat) (P0_:Nat->Prop) (A0:Option Addr) (c0:Nat) (l0:List Int) (P1_:Nat->Prop) (A1:Option Addr) (c1:Nat) (l1:List Int) (r1:List Int) (r2:List Int) (r3:Int) (w:World) (hs0:Kd.V (Kd.int .i64) 3 w w.heap.size (fun k_=>P0_ k_) (.slice A0 l0.length c0) l0) (hs1:Kd.V (Kd.int .i64) 3 w w.heap.size (fun k_=>P1_ k_) (.slice A1 l1.length c1) l1) (h:mobs_Meet.f k l0 l1=some (r1,r2,r3)) :
  Calls Tra.prog 9 #[.slice A0 l0.length c0,.slice A1 l1.length c1] w fun e w'=>∃ v0_ v1_:Value,e=.returned (.tuple #[v0_,v1_,.int .i64 r3])∧Kd.R (Kd.int .i64) 3 w' w.heap.size (fun k_=>(w.heap.size≤k_)∧some k_≠(v1_:Value).ownBlock) v0_ r1∧Kd.R (Kd.int .i64) 3 w' w.heap.size (fun k_=>(w.heap.size≤k_)∧some k_≠(v0_:Value).ownBlock) v1_ r2∧Below w.heap.size w w':=by
 have HO0:=As0.mk (show Kd.V (Kd.int .i64) 3 w w.heap.size (fun k_=>((P0_ k_∨P1_ k_)∨w.heap.size≤k_)) (.slice A0 l0.length c0) l0 from Kd.V_mono hs0 (fun k_ hk=>.inl (.inl hk)));have HO1:=As0.mk (show Kd.V (Kd.int .i64) 3 w w.heap.size (fun k_=>((P0_ k_∨P1_ k_)∨w.heap.size≤k_)) (.slice A1 l1.length c1) l1 from Kd.V_mono hs1 (fun k_ hk=>.inl (.inr hk)));have HB:=As0.mk (Below.refl w.heap.size w);have H:((sync_WaitGroup_Add.f k l0).bind fun t204=>((sync_WaitGroup_Add.f k l1).bind fun t205=>((mobs_read.f k (([l0,l1]:List (List Int)))).bind fun t209=>(if t209=0 then ((mobs_below.f k l0 l1).bind fun t210=>((mobs_above.f l0 l1).bind fun t213=>(if ([]:List Int).length+t210.length<17592186044416 then (if ([]:List Int).length+t213.length<17592186044416 then (some ((([]:List Int) ++ t210),(([]:List Int) ++ t213),0)) else (none)) else (none)))) else (some (([]:List Int),([]:List Int),t209))))))=some (r1,r2,r3):=h;clear h;replace H:=Option.bind_eq_some_iff.mp H;obtain ⟨t204,A30,H⟩:=H;replace H:((sync_WaitGroup_Add.f k l1).bind fun t205=>((mobs_read.f k (([l0,l1]:List (List Int)))).bind fun t209=>(if t209=0 then ((mobs_below.f k l0 l1).bind fun t210=>((mobs_above.f l0 l1).bind fun t213=>(if ([]:List Int).length+t210.length<17592186044416 then (if ([]:List Int).length+t213.length<17592186044416 then (some ((([]:List Int) ++ t210),(([]:List Int) ++ t213),0)) else (none)) else (none)))) else (some (([]:List Int),([]:List Int),t209)))))=some (r1,r2,r3):=H;have A3:=As0.mk A30;clear A30;replace H:=Option.bind_eq_some_iff.mp H;obtain ⟨t205,A40,H⟩:=H;replace H:((mobs_read.f k (([l0,l1]:List (List Int)))).bind fun t209=>(if t209=0 then ((mobs_below.f k l0 l1).bind fun t210=>((mobs_above.f l0 l1).bind fun t213=>(if ([]:List Int).length+t210.length<17592186044416 then (if ([]:List Int).length+t213.length<17592186044416 then (some ((([]:List Int) ++ t210),(([]:List Int) ++ t213),0)) else (none)) else (none)))) else (some (([]:List Int),([]:List Int),t209))))=some (r1,r2,r3):=H;have A4:=As0.mk A40;clear A40;obtain ⟨y206,hy206⟩:∃ y_:List (List Int),y_=(([l0,l1]:List (List Int))):=⟨_,rfl⟩
 replace H:((mobs_read.f k y206).bind fun t209=>(if t209=0 then ((mobs_below.f k l0 l1).bind fun t210=>((mobs_above.f l0 l1).bind fun t213=>(if ([]:List Int).length+t210.length<17592186044416 then (if ([]:List Int).length+t213.length<17592186044416 then (some ((([]:List Int) ++ t210),(([]:List Int) ++ t213),0)) else (none)) else (none)))) else (some (([]:List Int),([]:List Int),t209))))=some (r1,r2,r3):=by (rw [hy206];with_reducible exact H)
 have Ny206:=As0.mk hy206;clear hy206;replace H:=Option.bind_eq_some_iff.mp H;obtain ⟨t209,A50,H⟩:=H;replace H:(if t209=0 then ((mobs_below.f k l0 l1).bind fun t210=>((mobs_above.f l0 l1).bind fun t213=>(if ([]:List Int).length+t210.length<17592186044416 then (if ([]:List Int).length+t213.length<17592186044416 then (some ((([]:List Int) ++ t210),(([]:List Int) ++ t213),0)) else (none)) else (none)))) else (some (([]:List Int),([]:List Int),t209)))=some (r1,r2,r3):=H;have A5:=As0.mk A50;clear A50
 by_cases c6:t209=0
 ·rw [if_pos c6] at H
  have c6b0:(t209 == 0)=true:=beq_iff_eq.mpr c6;have c6b1:(t209 != 0)=false:=bne_eq_false_iff_eq.mpr c6;clear c6;replace H:=Option.bind_eq_some_iff.mp H;obtain ⟨t210,A70,H⟩:=H;replace H:((mobs_above.f l0 l1).bind fun t213=>(if ([]:List Int).length+t210.length<17592186044416 then (if ([]:List Int).length+t213.length<17592186044416 then (some ((([]:List Int) ++ t210),(([]:List Int) ++ t213),0)) else (none)) else (none)))=some (r1,r2,r3):=H;have A7:=As0.mk A70;clear A70;replace H:=Option.bind_eq_some_iff.mp H;obtain ⟨t213,A80,H⟩:=H;replace H:(if ([]:List Int).length+t210.length<17592186044416 then (if ([]:List Int).length+t213.length<17592186044416 then (some ((([]:List Int) ++ t210),(([]:List Int) ++ t213),0)) else (none)) else (none))=some (r1,r2,r3):=H;have A8:=As0.mk A80;clear A80
  by_cases c9:([]:List Int).length+t210.length<17592186044416
  ·rw [if_pos c9] at H
   have LMc9:=As0.mk c9;clear c9;obtain ⟨y216,hy216⟩:∃ y_:List Int,y_=(([]:List Int) ++ t210):=⟨_,rfl⟩
   replace H:(if ([]:List Int).length+t213.length<17592186044416 then (some (y216,(([]:List Int) ++ t213),0)) else (none))=some (r1,r2,r3):=by (rw [hy216];with_reducible exact H)
   have Ny216:=As0.mk hy216;clear hy216
   by_cases c10:([]:List Int).length+t213.length<17592186044416
   ·rw [if_pos c10] at H
    have LMc10:=As0.mk c10;clear c10;obtain ⟨y219,hy219⟩:∃ y_:List Int,y_=(([]:List Int) ++ t213):=⟨_,rfl⟩
    replace H:(some (y216,y219,0))=some (r1,r2,r3):=by (rw [hy219];with_reducible exact H)
    have Ny219:=As0.mk hy219;clear hy219;simp only [Option.some.injEq,Prod.mk.injEq] at H;obtain ⟨rfl,rfl,rfl⟩:=H;go_enter Tra.func9,Tra.ntmps9
    go_wp2_with (first|((with_reducible refine y08 (f:=21) rfl ?_);refine y0n (some 7) rfl rfl Tra.func21 (by kernel_rfl) rfl #[.slice A0 l0.length c0] rfl (by (try simp only [List.map_toArray,List.map_cons,List.map_nil]);rfl) ?_;(with_reducible refine (sync_WaitGroup_Add.calls k _ _ l0 t204 _ ?side1 ?side2 A3.out).mono ?_);(case side1=>repeat (exact (Kd.V_reads' HO0.out).2.2));(case side2=>exact (Kd.V_reads' HO0.out).2.1);rintro e w11 ⟨rfl,hb⟩;refine ⟨_,rfl,?_⟩;have n0_:=As0.mk (Kd.V_below (by (with_reducible repeat (first|apply Kd.V_alloc|apply Kd.V_drewN|apply Kd.V_drew));exact HO0.out) hb);have n1_:=As0.mk (Kd.V_below (by (with_reducible repeat (first|apply Kd.V_alloc|apply Kd.V_drewN|apply Kd.V_drew));exact HO1.out) hb);have n2_:=As0.mk (y04 (by repeat (with_reducible exact HB.out)) hb);clear HO0;clear HO1;clear HB;have HO0:=n0_;have HO1:=n1_;have HB:=n2_;clear n0_ n1_ n2_;(try clear hb);(try clear hb2);(try clear hk);(try clear hi))|((with_reducible refine y08 (f:=21) rfl ?_);refine y0n (some 7) rfl rfl Tra.func21 (by kernel_rfl) rfl #[.slice A1 l1.length c1] rfl (by (try simp only [List.map_toArray,List.map_cons,List.map_nil]);rfl) ?_;(with_reducible refine (sync_WaitGroup_Add.calls k _ _ l1 t205 _ ?side1 ?side2 A4.out).mono ?_);(case side1=>repeat (exact (Kd.V_reads' HO1.out).2.2));(case side2=>exact (Kd.V_reads' HO1.out).2.1);rintro e w12 ⟨rfl,hb⟩;refine ⟨_,rfl,?_⟩;have n0_:=As0.mk (Kd.V_below (by (with_reducible repeat (first|apply Kd.V_alloc|apply Kd.V_drewN|apply Kd.V_drew));exact HO0.out) hb);have n1_:=As0.mk (Kd.V_below (by (with_reducible repeat (first|apply Kd.V_alloc|apply Kd.V_drewN|apply Kd.V_drew));exact HO1.out) hb);have n2_:=As0.mk (y04 (by repeat (with_reducible exact HB.out)) hb);clear HO0;clear HO1;clear HB;have HO0:=n0_;have HO1:=n1_;have HB:=n2_;clear n0_ n1_ n2_;(try clear hb);(try clear hb2);(try clear hk);(try clear hi))|((with_reducible refine y0s (N:=8) rfl ?_);refine Kd.N_lit (Kd.slice 3 (Kd.int .i64)) _ 29 ?hg (N':=8) ?hd (xs:=([l0,l1]:List (List Int))) (inner:=[.slice A0 l0.length c0,.slice A1 l1.length c1]) (ok:=(fun k_=>((P0_ k_∨P1_ k_)∨w.heap.size≤k_))) (okp:=(fun k_=>((P0_ k_∨P1_ k_)∨w.heap.size≤k_))) ?hr ?hp (fun _ hk=>hk) ((show ∀ k_,w12.heap.size≤k_->(fun k_=>((P0_ k_∨P1_ k_)∨w.heap.size≤k_)) k_ from fun k_ hk=>(.inr (Nat.le_trans (y05 (by repeat (with_reducible exact HB.out))) hk))) _ (zLe _)) (Below.refl _ _) (zLe _) (by simp) ?_;(case hd=>rfl);(case hg=>rfl);(case hr=>(go_simp;done));(case hp=>exact (Reps.one (show Kd.FK (Kd.slice 3 (Kd.int .i64)) _ _ l0 [.slice A0 l0.length c0] from (Kd.FK_slice_mk (Kd.V_reads' (Kd.V_mono (ok':=(fun k_=>((P0_ k_∨P1_ k_)∨w.heap.size≤k_))) (HO0.out) (fun k_ hk=>hk))).2.1 (Kd.V_F (Kd.V_mono (ok':=(fun k_=>((P0_ k_∨P1_ k_)∨w.heap.size≤k_))) (HO0.out) (fun k_ hk=>hk))))) (Reps.one (show Kd.FK (Kd.slice 3 (Kd.int .i64)) _ _ l1 [.slice A1 l1.length c1] from (Kd.FK_slice_mk (Kd.V_reads' (Kd.V_mono (ok':=(fun k_=>((P0_ k_∨P1_ k_)∨w.heap.size≤k_))) (HO1.out) (fun k_ hk=>hk))).2.1 (Kd.V_F (Kd.V_mono (ok':=(fun k_=>((P0_ k_∨P1_ k_)∨w.heap.size≤k_))) (HO1.out) (fun k_ hk=>hk))))) (Reps.none _ _))));intro v207 w13 ho14 hb hg_ hnew_;clear hg_ hnew_;(rw [← Ny206.out] at ho14);have n0_:=As0.mk (Kd.V_elder' (by (with_reducible repeat (first|apply Kd.V_alloc|apply Kd.V_drewN|apply Kd.V_drew));exact HO0.out) (Kd.N_base ho14) hb);have n1_:=As0.mk (Kd.V_elder' (by (with_reducible repeat (first|apply Kd.V_alloc|apply Kd.V_drewN|apply Kd.V_drew));exact HO1.out) (Kd.N_base ho14) hb);have n2_:=As0.mk (Kd.N_lower ho14 (y05 (by repeat (with_reducible exact HB.out))));have n3_:=As0.mk (y04 (by repeat (with_reducible exact HB.out)) hb);clear HO0;clear HO1;clear HB;have HO0:=n0_;have HO1:=n1_;have HO208:=n2_;have HB:=n3_;clear n0_ n1_ n2_ n3_;clear hb ho14;obtain ⟨Ao15,co15,eo15⟩:=Kd.N_slice HO208.out;subst eo15)|((with_reducible refine y08 (f:=20) rfl ?_);refine y0n (some 9) rfl rfl Tra.func20 (by kernel_rfl) rfl #[.slice Ao15 y206.length co15] rfl (by (try simp only [List.map_toArray,List.map_cons,List.map_nil]);rfl) ?_;(with_reducible refine (mobs_read.calls k _ _ y206 t209 _ ?side1 ?side2 A5.out).mono ?_);(case side1=>repeat (exact (Kd.N_reads' HO208.out).2.2));(case side2=>exact (Kd.N_reads' HO208.out).2.1);rintro e w16 ⟨rfl,hb⟩;refine ⟨_,rfl,?_⟩;have n0_:=As0.mk (Kd.V_below (by (with_reducible repeat (first|apply Kd.V_alloc|apply Kd.V_drewN|apply Kd.V_drew));exact HO0.out) hb);have n1_:=As0.mk (Kd.V_below (by (with_reducible repeat (first|apply Kd.V_alloc|apply Kd.V_drewN|apply Kd.V_drew));exact HO1.out) hb);have n2_:=As0.mk (Kd.N_below (by (with_reducible repeat (first|apply Kd.N_alloc|apply Kd.N_drewN|apply Kd.N_drew));exact HO208.out) hb);have n3_:=As0.mk (y04 (by repeat (with_reducible exact HB.out)) hb);clear HO0;clear HO1;clear HO208;clear HB;have HO0:=n0_;have HO1:=n1_;have HO208:=n2_;have HB:=n3_;clear n0_ n1_ n2_ n3_;(try clear hb);(try clear hb2);(try clear hk);(try clear hi))|((with_reducible refine y08 (f:=24) rfl ?_);refine y0n (some 11) rfl rfl Tra.func24 (by kernel_rfl) rfl #[.slice A0 l0.length c0,.slice A1 l1.length c1] rfl (by (try simp only [List.map_toArray,List.map_cons,List.map_nil]);rfl) ?_;(with_reducible refine (mobs_below.calls k _ _ l0 _ _ l1 t210 _ ?side1 ?side2 ?side3 ?side4 A7.out).mono ?_);(case side1=>repeat (exact (Kd.V_reads' HO0.out).2.2));(case side2=>exact (Kd.V_reads' HO0.out).2.1);(case side3=>repeat (exact (Kd.V_reads' HO1.out).2.2));(case side4=>exact (Kd.V_reads' HO1.out).2.1);rintro e w17 ⟨v211,rfl,ho0,hb⟩;refine ⟨_,rfl,?_⟩;have n0_:=As0.mk (Kd.V_elder' (by (with_reducible repeat (first|apply Kd.V_alloc|apply Kd.V_drewN|apply Kd.V_drew));exact HO0.out) (Kd.R_base ho0) hb);have n1_:=As0.mk (Kd.V_elder' (by (with_reducible repeat (first|apply Kd.V_alloc|apply Kd.V_drewN|apply Kd.V_drew));exact HO1.out) (Kd.R_base ho0) hb);have n2_:=As0.mk (Kd.N_elder' (by (with_reducible repeat (first|apply Kd.N_alloc|apply Kd.N_drewN|apply Kd.N_drew));exact HO208.out) (Kd.R_base ho0) hb);have n3_:=As0.mk (Kd.R_lower (Kd.R_newM (M:=fun k_=>(w.heap.size≤k_)) ho0 (y05 (by repeat (with_reducible exact HB.out))) (fun k_ h_=>h_)) (y05 (by repeat (with_reducible exact HB.out))));have n4_:=As0.mk (y04 (by repeat (with_reducible exact HB.out)) hb);clear HO0;clear HO1;clear HO208;clear HB;have HO0:=n0_;have HO1:=n1_;have HO208:=n2_;have HO212:=n3_;have HB:=n4_;clear n0_ n1_ n2_ n3_ n4_;(try clear hb);(try clear hb2);(try clear hk);(try clear hi);(try clear ho0))|((with_reducible refine y08 (f:=26) rfl ?_);refine y0n (some 12) rfl rfl Tra.func26 (by kernel_rfl) rfl #[.slice A0 l0.length c0,.slice A1 l1.length c1] rfl (by (try simp only [List.map_toArray,List.map_cons,List.map_nil]);rfl) ?_;(with_reducible refine (mobs_above.calls _ _ l0 _ _ l1 t213 _ ?side1 ?side2 ?side3 ?side4 A8.out).mono ?_);(case side1=>repeat (exact (Kd.V_reads' HO0.out).2.2));(case side2=>exact (Kd.V_reads' HO0.out).2.1);(case side3=>repeat (exact (Kd.V_reads' HO1.out).2.2));(case side4=>exact (Kd.V_reads' HO1.out).2.1);rintro e w18 ⟨v214,rfl,ho0,hb⟩;refine ⟨_,rfl,?_⟩;have n0_:=As0.mk (Kd.V_elder' (by (with_reducible repeat (first|apply Kd.V_alloc|apply Kd.V_drewN|apply Kd.V_drew));exact HO0.out) (Kd.R_base ho0) hb);have n1_:=As0.mk (Kd.V_elder' (by (with_reducible repeat (first|apply Kd.V_alloc|apply Kd.V_drewN|apply Kd.V_drew));exact HO1.out) (Kd.R_base ho0) hb);have n2_:=As0.mk (Kd.N_elder' (by (with_reducible repeat (first|apply Kd.N_alloc|apply Kd.N_drewN|apply Kd.N_drew));exact HO208.out) (Kd.R_base ho0) hb);have n3_:=As0.mk (Kd.R_elder' (by (with_reducible repeat (first|apply Kd.R_alloc|apply Kd.R_drewN|apply Kd.R_drew));exact HO212.out) (Kd.R_base ho0) hb);have n4_:=As0.mk (Kd.R_lower (Kd.R_new' (Kd.R_newM (M:=fun k_=>(w.heap.size≤k_)) ho0 (y05 (by repeat (with_reducible exact HB.out))) (fun k_ h_=>h_)) (Kd.R_lt (by (with_reducible repeat (first|apply Kd.R_alloc|apply Kd.R_drewN|apply Kd.R_drew));exact HO212.out))) (y05 (by repeat (with_reducible exact HB.out))));have n5_:=As0.mk (y04 (by repeat (with_reducible exact HB.out)) hb);clear HO0;clear HO1;clear HO208;clear HO212;clear HB;have HO0:=n0_;have HO1:=n1_;have HO208:=n2_;have HO212:=n3_;have HO215:=n4_;have HB:=n5_;clear n0_ n1_ n2_ n3_ n4_ n5_;(try clear hb);(try clear hb2);(try clear hk);(try clear hi);(try clear ho0);obtain ⟨Ao20,co20,eo20⟩:=Kd.R_slice HO212.out;subst eo20)|((with_reducible refine y10 (b:=.append) (xs:=#[.tmp 13,.tmp 11]) rfl ?_);at_builtin;refine Kd.R_append_rows (Kd.int .i64) (w0:=w) w.heap.size rfl (.tmp 13) (.tmp 11) 29 3 (.int .i64 0) 8 rfl Tra.underlying29 info3 rfl (by decide) (by omega) (.slice none 0 0) ([]:List Int) t210 _ _ _ (fun k_=>(w.heap.size≤k_)∧some k_≠(.slice Ao20 t210.length co20:Value).ownBlock∧some k_≠(v214:Value).ownBlock) (fun _=>False) rfl rfl ?aO ?aR (fun _ _ h=>h) (fun _ h=>h.elim) ?aF ?aB ?aS ?aL ?_;(case aR=>repeat (exact (Kd.R_reads' HO212.out).2.2));(case aB=>exact (by repeat (with_reducible exact HB.out)));(case aF=>exact (fun k_ hk=>⟨(Nat.le_trans (y05 (by repeat (with_reducible exact HB.out))) hk),Kd.fresh' (Kd.R_lt (by (with_reducible repeat (first|apply Kd.R_alloc|apply Kd.R_drewN|apply Kd.R_drew));exact HO212.out)) k_ hk,Kd.fresh' (Kd.R_lt (by (with_reducible repeat (first|apply Kd.R_alloc|apply Kd.R_drewN|apply Kd.R_drew));exact HO215.out)) k_ hk⟩));(case aO=>exact ((Kd.R_nil _ _ _ _ (fun k_=>(w.heap.size≤k_)∧some k_≠(.slice Ao20 t210.length co20:Value).ownBlock∧some k_≠(v214:Value).ownBlock))));(case aS=>exact (y05 (by repeat (with_reducible exact HB.out))));(case aL=>have:=LMc9.out;omega);intro v217 w19 ho hb hg hat;rw [← Ny216.out] at ho;have n0_:=As0.mk (Kd.V_afterv (Kd.V_apart_nil (by (with_reducible repeat (first|apply Kd.V_alloc|apply Kd.V_drewN|apply Kd.V_drew));exact HO0.out)) hg hat);have n1_:=As0.mk (Kd.V_afterv (Kd.V_apart_nil (by (with_reducible repeat (first|apply Kd.V_alloc|apply Kd.V_drewN|apply Kd.V_drew));exact HO1.out)) hg hat);have n2_:=As0.mk (Kd.N_afterv (Kd.N_apart_nil (by (with_reducible repeat (first|apply Kd.N_alloc|apply Kd.N_drewN|apply Kd.N_drew));exact HO208.out)) hg hat);have n3_:=As0.mk (Kd.R_after (Kd.R_apart_nil (by (with_reducible repeat (first|apply Kd.R_alloc|apply Kd.R_drewN|apply Kd.R_drew));exact HO212.out)) hg hat);have n4_:=As0.mk (Kd.R_after (Kd.R_apart_nil (by (with_reducible repeat (first|apply Kd.R_alloc|apply Kd.R_drewN|apply Kd.R_drew));exact HO215.out)) hg hat);have n5_:=As0.mk (hb);have n6_:=As0.mk (ho);clear HO0;clear HO1;clear HO208;clear HO212;clear HO215;clear HB;have HO0:=n0_;have HO1:=n1_;have HO208:=n2_;have HO212:=n3_;have HO215:=n4_;have HB:=n5_;have HO218:=n6_;clear n0_ n1_ n2_ n3_ n4_ n5_ n6_;clear ho hb hg hat;obtain ⟨Ao22,co22,eo22⟩:=Kd.R_slice HO215.out;subst eo22)|((with_reducible refine y10 (b:=.append) (xs:=#[.tmp 13,.tmp 12]) rfl ?_);at_builtin;refine Kd.R_append_rows (Kd.int .i64) (w0:=w) w.heap.size rfl (.tmp 13) (.tmp 12) 29 3 (.int .i64 0) 8 rfl Tra.underlying29 info3 rfl (by decide) (by omega) (.slice none 0 0) ([]:List Int) t213 _ _ _ (fun k_=>(w.heap.size≤k_)∧some k_≠(.slice Ao20 t210.length co20:Value).ownBlock∧some k_≠(.slice Ao22 t213.length co22:Value).ownBlock∧some k_≠(v217:Value).ownBlock) (fun _=>False) rfl rfl ?aO ?aR (fun _ _ h=>h) (fun _ h=>h.elim) ?aF ?aB ?aS ?aL ?_;(case aR=>repeat (exact (Kd.R_reads' HO215.out).2.2));(case aB=>exact (by repeat (with_reducible exact HB.out)));(case aF=>exact (fun k_ hk=>⟨(Nat.le_trans (y05 (by repeat (with_reducible exact HB.out))) hk),Kd.fresh' (Kd.R_lt (by (with_reducible repeat (first|apply Kd.R_alloc|apply Kd.R_drewN|apply Kd.R_drew));exact HO212.out)) k_ hk,Kd.fresh' (Kd.R_lt (by (with_reducible repeat (first|apply Kd.R_alloc|apply Kd.R_drewN|apply Kd.R_drew));exact HO215.out)) k_ hk,Kd.fresh' (Kd.R_lt (by (with_reducible repeat (first|apply Kd.R_alloc|apply Kd.R_drewN|apply Kd.R_drew));exact HO218.out)) k_ hk⟩));(case aO=>exact ((Kd.R_nil _ _ _ _ (fun k_=>(w.heap.size≤k_)∧some k_≠(.slice Ao20 t210.length co20:Value).ownBlock∧some k_≠(.slice Ao22 t213.length co22:Value).ownBlock∧some k_≠(v217:Value).ownBlock))));(case aS=>exact (y05 (by repeat (with_reducible exact HB.out))));(case aL=>have:=LMc10.out;omega);intro v220 w21 ho hb hg hat;rw [← Ny219.out] at ho;have n0_:=As0.mk (Kd.V_afterv (Kd.V_apart_nil (by (with_reducible repeat (first|apply Kd.V_alloc|apply Kd.V_drewN|apply Kd.V_drew));exact HO0.out)) hg hat);have n1_:=As0.mk (Kd.V_afterv (Kd.V_apart_nil (by (with_reducible repeat (first|apply Kd.V_alloc|apply Kd.V_drewN|apply Kd.V_drew));exact HO1.out)) hg hat);have n2_:=As0.mk (Kd.N_afterv (Kd.N_apart_nil (by (with_reducible repeat (first|apply Kd.N_alloc|apply Kd.N_drewN|apply Kd.N_drew));exact HO208.out)) hg hat);have n3_:=As0.mk (Kd.R_after (Kd.R_apart_nil (by (with_reducible repeat (first|apply Kd.R_alloc|apply Kd.R_drewN|apply Kd.R_drew));exact HO212.out)) hg hat);have n4_:=As0.mk (Kd.R_after (Kd.R_apart_nil (by (with_reducible repeat (first|apply Kd.R_alloc|apply Kd.R_drewN|apply Kd.R_drew));exact HO215.out)) hg hat);have n5_:=As0.mk (Kd.R_after (Kd.R_apart_nil (by (with_reducible repeat (first|apply Kd.R_alloc|apply Kd.R_drewN|apply Kd.R_drew));exact HO218.out)) hg hat);have n6_:=As0.mk (hb);have n7_:=As0.mk (ho);clear HO0;clear HO1;clear HO208;clear HO212;clear HO215;clear HO218;clear HB;have HO0:=n0_;have HO1:=n1_;have HO208:=n2_;have HO212:=n3_;have HO215:=n4_;have HO218:=n5_;have HB:=n6_;have HO221:=n7_;clear n0_ n1_ n2_ n3_ n4_ n5_ n6_ n7_;clear ho hb hg hat))
    go_ret3
    exact ⟨_,_,by rfl,by (with_reducible repeat (first|apply Kd.R_alloc|apply Kd.R_drewN|apply Kd.R_drew));exact Kd.R_mono HO218.out (fun _ hk=>⟨hk.1.1,hk.2⟩),by (with_reducible repeat (first|apply Kd.R_alloc|apply Kd.R_drewN|apply Kd.R_drew));exact Kd.R_mono HO221.out (fun _ hk=>⟨hk.1,hk.2.2.2⟩),by repeat (with_reducible exact HB.out)⟩
   ·rw [if_neg c10] at H
    exact absurd H (by simp)
  ·rw [if_neg c9] at H
   exact absurd H (by simp)
 ·rw [if_neg c6] at H
  have c6b0:(t209 == 0)=false:=beq_eq_false_iff_ne.mpr c6;have c6b1:(t209 != 0)=true:=bne_iff_ne.mpr c6;simp only [Option.some.injEq,Prod.mk.injEq] at H;obtain ⟨rfl,rfl,rfl⟩:=H;go_enter Tra.func9,Tra.ntmps9
  go_wp2_with (first|((with_reducible refine y08 (f:=21) rfl ?_);refine y0n (some 7) rfl rfl Tra.func21 (by kernel_rfl) rfl #[.slice A0 l0.length c0] rfl (by (try simp only [List.map_toArray,List.map_cons,List.map_nil]);rfl) ?_;(with_reducible refine (sync_WaitGroup_Add.calls k _ _ l0 t204 _ ?side1 ?side2 A3.out).mono ?_);(case side1=>repeat (exact (Kd.V_reads' HO0.out).2.2));(case side2=>exact (Kd.V_reads' HO0.out).2.1);rintro e w23 ⟨rfl,hb⟩;refine ⟨_,rfl,?_⟩;have n0_:=As0.mk (Kd.V_below (by (with_reducible repeat (first|apply Kd.V_alloc|apply Kd.V_drewN|apply Kd.V_drew));exact HO0.out) hb);have n1_:=As0.mk (Kd.V_below (by (with_reducible repeat (first|apply Kd.V_alloc|apply Kd.V_drewN|apply Kd.V_drew));exact HO1.out) hb);have n2_:=As0.mk (y04 (by repeat (with_reducible exact HB.out)) hb);clear HO0;clear HO1;clear HB;have HO0:=n0_;have HO1:=n1_;have HB:=n2_;clear n0_ n1_ n2_;(try clear hb);(try clear hb2);(try clear hk);(try clear hi))|((with_reducible refine y08 (f:=21) rfl ?_);refine y0n (some 7) rfl rfl Tra.func21 (by kernel_rfl) rfl #[.slice A1 l1.length c1] rfl (by (try simp only [List.map_toArray,List.map_cons,List.map_nil]);rfl) ?_;(with_reducible refine (sync_WaitGroup_Add.calls k _ _ l1 t205 _ ?side1 ?side2 A4.out).mono ?_);(case side1=>repeat (exact (Kd.V_reads' HO1.out).2.2));(case side2=>exact (Kd.V_reads' HO1.out).2.1);rintro e w24 ⟨rfl,hb⟩;refine ⟨_,rfl,?_⟩;have n0_:=As0.mk (Kd.V_below (by (with_reducible repeat (first|apply Kd.V_alloc|apply Kd.V_drewN|apply Kd.V_drew));exact HO0.out) hb);have n1_:=As0.mk (Kd.V_below (by (with_reducible repeat (first|apply Kd.V_alloc|apply Kd.V_drewN|apply Kd.V_drew));exact HO1.out) hb);have n2_:=As0.mk (y04 (by repeat (with_reducible exact HB.out)) hb);clear HO0;clear HO1;clear HB;have HO0:=n0_;have HO1:=n1_;have HB:=n2_;clear n0_ n1_ n2_;(try clear hb);(try clear hb2);(try clear hk);(try clear hi))|((with_reducible refine y0s (N:=8) rfl ?_);refine Kd.N_lit (Kd.slice 3 (Kd.int .i64)) _ 29 ?hg (N':=8) ?hd (xs:=([l0,l1]:List (List Int))) (inner:=[.slice A0 l0.length c0,.slice A1 l1.length c1]) (ok:=(fun k_=>((P0_ k_∨P1_ k_)∨w.heap.size≤k_))) (okp:=(fun k_=>((P0_ k_∨P1_ k_)∨w.heap.size≤k_))) ?hr ?hp (fun _ hk=>hk) ((show ∀ k_,w24.heap.size≤k_->(fun k_=>((P0_ k_∨P1_ k_)∨w.heap.size≤k_)) k_ from fun k_ hk=>(.inr (Nat.le_trans (y05 (by repeat (with_reducible exact HB.out))) hk))) _ (zLe _)) (Below.refl _ _) (zLe _) (by simp) ?_;(case hd=>rfl);(case hg=>rfl);(case hr=>(go_simp;done));(case hp=>exact (Reps.one (show Kd.FK (Kd.slice 3 (Kd.int .i64)) _ _ l0 [.slice A0 l0.length c0] from (Kd.FK_slice_mk (Kd.V_reads' (Kd.V_mono (ok':=(fun k_=>((P0_ k_∨P1_ k_)∨w.heap.size≤k_))) (HO0.out) (fun k_ hk=>hk))).2.1 (Kd.V_F (Kd.V_mono (ok':=(fun k_=>((P0_ k_∨P1_ k_)∨w.heap.size≤k_))) (HO0.out) (fun k_ hk=>hk))))) (Reps.one (show Kd.FK (Kd.slice 3 (Kd.int .i64)) _ _ l1 [.slice A1 l1.length c1] from (Kd.FK_slice_mk (Kd.V_reads' (Kd.V_mono (ok':=(fun k_=>((P0_ k_∨P1_ k_)∨w.heap.size≤k_))) (HO1.out) (fun k_ hk=>hk))).2.1 (Kd.V_F (Kd.V_mono (ok':=(fun k_=>((P0_ k_∨P1_ k_)∨w.heap.size≤k_))) (HO1.out) (fun k_ hk=>hk))))) (Reps.none _ _))));intro v207 w25 ho26 hb hg_ hnew_;clear hg_ hnew_;(rw [← Ny206.out] at ho26);have n0_:=As0.mk (Kd.V_elder' (by (with_reducible repeat (first|apply Kd.V_alloc|apply Kd.V_drewN|apply Kd.V_drew));exact HO0.out) (Kd.N_base ho26) hb);have n1_:=As0.mk (Kd.V_elder' (by (with_reducible repeat (first|apply Kd.V_alloc|apply Kd.V_drewN|apply Kd.V_drew));exact HO1.out) (Kd.N_base ho26) hb);have n2_:=As0.mk (Kd.N_lower ho26 (y05 (by repeat (with_reducible exact HB.out))));have n3_:=As0.mk (y04 (by repeat (with_reducible exact HB.out)) hb);clear HO0;clear HO1;clear HB;have HO0:=n0_;have HO1:=n1_;have HO208:=n2_;have HB:=n3_;clear n0_ n1_ n2_ n3_;clear hb ho26;obtain ⟨Ao27,co27,eo27⟩:=Kd.N_slice HO208.out;subst eo27)|((with_reducible refine y08 (f:=20) rfl ?_);refine y0n (some 9) rfl rfl Tra.func20 (by kernel_rfl) rfl #[.slice Ao27 y206.length co27] rfl (by (try simp only [List.map_toArray,List.map_cons,List.map_nil]);rfl) ?_;(with_reducible refine (mobs_read.calls k _ _ y206 t209 _ ?side1 ?side2 A5.out).mono ?_);(case side1=>repeat (exact (Kd.N_reads' HO208.out).2.2));(case side2=>exact (Kd.N_reads' HO208.out).2.1);rintro e w28 ⟨rfl,hb⟩;refine ⟨_,rfl,?_⟩;have n0_:=As0.mk (Kd.V_below (by (with_reducible repeat (first|apply Kd.V_alloc|apply Kd.V_drewN|apply Kd.V_drew));exact HO0.out) hb);have n1_:=As0.mk (Kd.V_below (by (with_reducible repeat (first|apply Kd.V_alloc|apply Kd.V_drewN|apply Kd.V_drew));exact HO1.out) hb);have n2_:=As0.mk (Kd.N_below (by (with_reducible repeat (first|apply Kd.N_alloc|apply Kd.N_drewN|apply Kd.N_drew));exact HO208.out) hb);have n3_:=As0.mk (y04 (by repeat (with_reducible exact HB.out)) hb);clear HO0;clear HO1;clear HO208;clear HB;have HO0:=n0_;have HO1:=n1_;have HO208:=n2_;have HB:=n3_;clear n0_ n1_ n2_ n3_;(try clear hb);(try clear hb2);(try clear hk);(try clear hi)))
  go_ret3
  exact ⟨_,_,by rfl,by exact Kd.R_nil _ _ _ _ _,by exact Kd.R_nil _ _ _ _ _,by repeat (with_reducible exact HB.out)⟩
end Go.Proofs.Ytfgcijifdbgpaaa.P
namespace Go.Mt
open Go.Tr Go.Conc Go.ConcN Go.Proofs Go.RowKit
open Go.Proofs.Ytfgcijifdbgpaaa Go.Proofs.Ytfgcijifdbgpaaa.P Go.Proofs.YtfgcijifdbgpaaaW.Wd Go.Proofs.YtfgcijifdbgpaaaW.La Go.Proofs.YtfgcijifdbgpaaaW.Mo
theorem y94 (w:World) (o:Obj) {b:Nat} (h:b<w.heap.size):(w.alloc o).heap[b]?=w.heap[b]?:=by rw [y1c,if_neg (by omega)]
section
variable {P:Program} {Post:FuncId->Array Value->World->Prop} {g0:Goroutine} {u0:World}
theorem At.go' (hP:∀ f t u τ,Post f t u->Post f t (retape u τ)) {fr c:Frame} {cs:List Frame} {u u1:World} {g1:Goroutine} {es:Array Event} (h:At P Post g0 u0 (G fr (c :: (cs ++ [c0]))) u) (τ:Nat->Question->Nat) (hs:stepG P true (G fr (c :: (cs ++ [c0]))) (retape u τ)=.go g1 (retape u1 τ) es):At P Post g0 u0 g1 u1:=by
 refine ⟨?_,h.path.trans (.cons τ hs (.nil (y1j u1)))⟩;have hl:=h.lt;generalize hg:G fr (c :: (cs ++ [c0]))=g at hl;cases hl with
 |fin h1 h2 h3 =>
  obtain ⟨rfl,hc⟩:=y79 hg;have:=congrArg List.length hc;simp at this
 |@step fr' cs' _ nx hn hs' hl =>
  obtain ⟨rfl,rfl⟩:=y79 hg;have h1:=(hs' τ).symm.trans hs;injection h1 with e1 e2 e3
  rw [← e1];exact (hl τ).congr hP (y6j e2.symm _)
theorem At.run (hP:∀ f t u τ,Post f t u->Post f t (retape u τ)) {fr' c:Frame} {cs':List Frame} {u':World}:∀ (n:Nat) (fr:Frame) (cs:List Frame) (u:World),At P Post g0 u0 (G fr cs) u->runN P n (lone fr cs u)=.next (lone fr' (c :: (cs' ++ [c0])) u')->At P Post g0 u0 (G fr' (c :: (cs' ++ [c0]))) u'
 |0,fr,cs,u,h,hr=>by
  simp only [runN] at hr;injection hr with hr
  obtain ⟨rfl,rfl,rfl⟩:=y29 hr;exact h
 |n+1,fr,cs,u,h,hr=>by
  have hl:=h.lt;generalize hg:G fr cs=g at hl;cases hl with
  |fin h1 h2 h3 =>
   exfalso;obtain ⟨rfl,rfl⟩:=y79 hg;obtain ⟨f,tm,td,m,fn,rfl,hf⟩:=h2;have bad:∀ (n:Nat) (u1:World),runN P n (lone { c0 with mode:=.panicking [] } [] u1)≠.next (lone fr' (c :: (cs' ++ [c0])) u'):=by
    intro n u1;cases n with
    |zero =>
     intro h;simp only [runN] at h;injection h with h
     exact absurd (y29 h).2.1 (by simp)
    |succ n =>
     obtain ⟨o,u1,es,h⟩:=y98 (P:=P) [] u1;exact y1o h n _
   have ret:∀ (n:Nat) (td:List Item),runN P (n+1) (lone (frm f tm td .returning) [c0] u)≠.next (lone fr' (c :: (cs' ++ [c0])) u'):=by
    intro n td;have h:=y1r (P:=P) true f tm td c0 [] u hf;rw [Sem.runT_eq] at h;cases hr:(results fn tm).run P u with
    |ok v u1 =>
     rw [hr] at h;rw [y1h h,y76];exact bad n _
    |halt hh u1 =>
     rw [hr] at h;cases hh<;>exact y1o h n _
   rcases h1 with hf'|⟨hf',ht⟩
   ·obtain rfl:m=.returning:=hf'
    exact ret n td hr
   ·obtain rfl:m=.run:=hf'
    obtain rfl:td=[]:=ht;have hs:=y5q (P:=P) true f tm [c0] u;rw [y1h hs] at hr;cases n with
    |zero =>
     simp only [runN] at hr;injection hr with hr
     have:=congrArg List.length (y29 hr).2.1;simp at this
    |succ n=>exact ret n [] hr
  |@step fr1 cs1 _ nx hn hs hl =>
   obtain ⟨rfl,rfl⟩:=y79 hg;have h1:=hs u.tape;rw [y1j] at h1;rw [y1h h1] at hr;refine At.run hP n _ _ _ ⟨?_,h.path.trans (.cons u.tape (by rw [y1j];exact h1) (.nil (y1j _)))⟩ hr;refine (hl u.tape).congr hP ?_;rw [y27];rfl
theorem At.calls (hP:∀ f t u τ,Post f t u->Post f t (retape u τ)) {f:FuncId} {args:Array Value} {b c:Frame} {cs:List Frame} {u:World} {Q:Value->World->Prop} (h:At P Post g0 u0 (G (Frame.enter P f args .normal) (b :: c :: (cs ++ [c0]))) u) (hc:Calls P f args u fun e w=>∃ v,e=.returned v∧Q v w) :
  ∃ v u',Q v u'∧At P Post g0 u0 (G (b.finish v) (c :: (cs ++ [c0]))) u':=by
 obtain ⟨e,w',fr,⟨v,rfl,hq⟩,⟨n,hn⟩,hfn,hleave⟩:=hc (b :: c :: (cs ++ [c0]));have hst:=step_leave_returned (P:=P) (c:=b) (cs:=c :: (cs ++ [c0])) hleave;refine ⟨v,w',hq,At.run hP (n+1) _ _ _ h ?_⟩;rw [runN_add,hn];simp only [runN,hst]
def rowA (xs:List Int) (cap:Nat):Array Value:=(nums .i64 xs).toArray ++ Builtin.zeroCells #[Value.int .i64 0] (cap - xs.length)
theorem ybt {u:World} {B:Nat} {v:Value} {xs:List Int} (h:Ext.OwnI u B v xs):(xs=[]∧v=.slice none 0 0)∨xs≠[]∧∃ g cap,v=.slice (some ⟨g,0,none⟩) xs.length cap∧B≤g∧u.heap[g]?=some (.cells (rowA xs cap) 3 (0,0))∧xs.length≤cap∧cap≤maxLen:=by
 obtain ⟨⟨h1,h2⟩,h3,hnil⟩:=h;rcases h2 with ⟨rfl,h0⟩|⟨g,cap,cur,rfl,hb,hg,hn,hm,hs,ht⟩
 ·exact .inl ⟨List.eq_nil_of_length_eq_zero h0,rfl⟩
 ·refine .inr ⟨fun hx=>by have:=hnil hx;simp at this,g,cap,rfl,hb,?_,hn,hm⟩
  rw [hg];have h4:=(h3 g cur _ rfl hg).2;rw [Nat.mul_one] at hs ht
  congr 2
  apply Array.ext_getElem?;intro i;unfold rowA;have hl:(nums IntKind.i64 xs).toArray.size=xs.length:=by simp [nums]
  have hz:(Builtin.zeroCells #[Value.int .i64 0] (cap - xs.length)).size=cap - xs.length:=by rw [size_zeroCells];simp
  by_cases hi:i<xs.length
  ·rw [Array.getElem?_append_left (by omega)]
   have e:=congrArg (fun l:List Value=>l[i]?) ht;simp only [List.getElem?_take,if_pos hi] at e;simpa using e
  ·rw [Array.getElem?_append_right (by omega),hl]
   by_cases hc:i<cap
   ·rw [h4 i (by omega) (by omega),Array.getElem?_eq_getElem (by omega)]
    exact (congrArg some (Ext.zeros_int _ _ (Array.getElem_mem _))).symm
   ·rw [Array.getElem?_eq_none (by omega),Array.getElem?_eq_none (by omega)]
theorem cut_cap {n cap:Nat} (h1:n≤cap) (h2:cap≤maxLen):n+(cap - n) % (2 ^ 63 - n)=cap:=by
 have:maxLen=9223372036854775807:=rfl;rw [Nat.mod_eq_of_lt (by omega)];omega
theorem yfl {u:World} {B cap:Nat} {v:Value} {xs:List Int} (h:Ext.OwnI u B v xs) (h1:xs.length≤cap) (h2:cap≤maxLen) (h3:xs.length<17592186044416):∃ (τ:Nat->Question->Nat) (y:Value) (u':World),(Builtin.append_ #[29,29] 29 #[.slice none 0 0,v]).run Tra.prog (retape u τ)=.ok y (retape u' τ)∧u'.os=u.os∧u'.output=u.output ∧
  ((xs=[]∧y=.slice none 0 0∧u'.heap=u.heap)∨(xs≠[]∧y=.slice (some ⟨u.heap.size,0,none⟩) xs.length cap∧u'.heap=u.heap.push (.cells (rowA xs cap) 3 (0,0)))):=by
 rcases ybt h with ⟨rfl,rfl⟩|⟨hx,g,cp,rfl,_,hg,hn,_⟩
 ·refine ⟨u.tape,.slice none 0 0,u,?_,rfl,rfl,.inl ⟨rfl,rfl,rfl⟩⟩
  simp [Builtin.append_,go_sem,Tra.runUnderlying29,Tra.sizeOf3,Builtin.lenOf,Builtin.firstCells]
 ·obtain ⟨i,hi⟩:∃ i,Tra.prog.info? 3=some i:=by
   have:=Ext.info3;cases hi:Tra.prog.info? 3 with
   |none=>rw [hi] at this;cases this
   |some i=>exact ⟨i,rfl⟩
  have hinf:=Ext.info3;rw [hi] at hinf;simp only [Option.map_some,Option.some.injEq,Prod.mk.injEq] at hinf;obtain ⟨hz,hs,hb⟩:=hinf;have hpos:0<xs.length:=List.length_pos_iff.2 hx;let τ:Nat->Question->Nat:=fun _ _=>cap - xs.length
  have hr:=run_append_nil (P:=Tra.prog) (retape u τ) 29 29 3 i (.int .i64 0) Tra.underlying29 hi hz ⟨g,0,none⟩ xs.length cp (nums .i64 xs) (by rw [hs];simp [nums]) (fun j x hj=>by
   have hlt:j<xs.length:=by have:=(List.getElem?_eq_some_iff.1 hj).1;simpa [nums] using this
   rw [y2t];have hg':(retape u τ).heap[g]?=some (.cells (rowA xs cp) 3 (0,0)):=hg;rw [cell_of_row _ g _ _ _ _ hg',rowA,Array.getElem?_append_left (by simp [nums];omega)];simpa using hj) hpos (by omega) (by rw [hb];omega)
  have hcap:grownCap (retape u τ) xs.length 0 3=cap:=by
   show xs.length+(cap - xs.length) % (2 ^ 63 - xs.length)=cap;exact cut_cap h1 h2
  rw [hcap] at hr;exact ⟨τ,_,(retape u τ).drew.alloc (.cells (rowA xs cap) 3),hr,rfl,rfl,.inr ⟨hx,rfl,rfl⟩⟩
end
abbrev xa:Array Oper:=#[{ dst:=some 4,op:=Go.Op.assign (Go.Operand.const (Go.Value.slice none 0 0)),type:=29,pos := "", after:=#[],guard:=none },{ dst:=some 5,op:=Go.Op.assign (Go.Operand.const (Go.Value.slice none 0 0)),type:=29,pos := "", after:=#[],guard:=none },{ dst:=some 6,op:=Go.Op.assign (Go.Operand.const (Go.Value.int Go.IntKind.i64 0)),type:=24,pos := "", after:=#[],guard:=none }]
abbrev xb:Array Oper:=#[{ dst:=some 7,op:=Go.Op.call { callee:=Go.Callee.value (Go.Operand.func 21),args:=#[Go.Operand.tmp 0],argTypes:=#[29] },type:=3,pos := "", after:=#[],guard:=none }]
abbrev xc:Array Oper:=#[{ dst:=some 7,op:=Go.Op.call { callee:=Go.Callee.value (Go.Operand.func 21),args:=#[Go.Operand.tmp 1],argTypes:=#[29] },type:=3,pos := "", after:=#[],guard:=none }]
abbrev xd:Array Oper:=#[{ dst:=some 8,op:=Go.Op.buildSlice 79 2 #[(0,Go.Operand.tmp 0),(1,Go.Operand.tmp 1)],type:=79,pos := "", after:=#[],guard:=none },{ dst:=some 9,op:=Go.Op.call { callee:=Go.Callee.value (Go.Operand.func 20),args:=#[Go.Operand.tmp 8],argTypes:=#[79] },type:=24,pos := "", after:=#[{ on:=0,ground:=Go.Ground.data }],guard:=none }]
abbrev xe:Array Oper:=#[{ dst:=some 10,op:=Go.Op.binOp Go.BinOp.neq 24 (Go.Operand.tmp 9) (Go.Operand.const (Go.Value.int Go.IntKind.i64 0)) 24,type:=4,pos := "", after:=#[],guard:=none }]
abbrev xf:Array Oper:=#[{ dst:=some 4,op:=Go.Op.assign (Go.Operand.const (Go.Value.slice none 0 0)),type:=29,pos := "", after:=#[],guard:=none },{ dst:=some 5,op:=Go.Op.assign (Go.Operand.const (Go.Value.slice none 0 0)),type:=29,pos := "", after:=#[],guard:=none },{ dst:=some 6,op:=Go.Op.assign (Go.Operand.tmp 9),type:=24,pos := "", after:=#[],guard:=none }]
abbrev xg:Array Oper:=#[{ dst:=some 11,op:=Go.Op.call { callee:=Go.Callee.value (Go.Operand.func 24),args:=#[Go.Operand.tmp 0,Go.Operand.tmp 1],argTypes:=#[29,29] },type:=29,pos := "", after:=#[],guard:=none }]
abbrev xh:Array Oper:=#[{ dst:=some 12,op:=Go.Op.call { callee:=Go.Callee.value (Go.Operand.func 26),args:=#[Go.Operand.tmp 0,Go.Operand.tmp 1],argTypes:=#[29,29] },type:=29,pos := "", after:=#[],guard:=none }]
abbrev xi:Array Oper:=#[{ dst:=some 13,op:=Go.Op.assign (Go.Operand.const (Go.Value.slice none 0 0)),type:=29,pos := "", after:=#[],guard:=none }]
abbrev xj:Array Oper:=#[{ dst:=some 14,op:=Go.Op.call { callee:=Go.Callee.builtin Go.Builtin.append,args:=#[Go.Operand.tmp 13,Go.Operand.tmp 11],argTypes:=#[29,29] },type:=29,pos := "", after:=#[],guard:=none }]
abbrev xk:Array Oper:=#[{ dst:=some 15,op:=Go.Op.call { callee:=Go.Callee.builtin Go.Builtin.append,args:=#[Go.Operand.tmp 13,Go.Operand.tmp 12],argTypes:=#[29,29] },type:=29,pos := "", after:=#[],guard:=none }]
abbrev xm:Array Oper:=#[{ dst:=some 4,op:=Go.Op.assign (Go.Operand.tmp 14),type:=29,pos := "", after:=#[],guard:=none },{ dst:=some 5,op:=Go.Op.assign (Go.Operand.tmp 15),type:=29,pos := "", after:=#[],guard:=none },{ dst:=some 6,op:=Go.Op.assign (Go.Operand.const (Go.Value.int Go.IntKind.i64 0)),type:=24,pos := "", after:=#[],guard:=none }]
abbrev xS:Code:=((Go.Code.region 6 xg false).seq ((Go.Code.region 7 xh false).seq ((Go.Code.region 8 xi false).seq ((Go.Code.region 9 xj false).seq ((Go.Code.region 10 xk false).seq ((Go.Code.region 11 xm false).seq Go.Code.ret))))))
abbrev xR:Code:=((Go.Code.region 3 xd false).seq (((Go.Code.region 4 xe false).seq (Go.Code.cond (Go.Operand.tmp 10) ((Go.Code.region 5 xf false).seq Go.Code.ret) Go.Code.skip)).seq xS))
abbrev xB:Code:=((Go.Code.region 0 xa false).seq ((Go.Code.region 1 xb false).seq ((Go.Code.region 2 xc false).seq xR)))
theorem body34x:Tra.f9.body=some xB:=rfl
abbrev xa0:Oper:=xa[0]'(by decide)
abbrev xa1:Oper:=xa[1]'(by decide)
abbrev xa2:Oper:=xa[2]'(by decide)
abbrev xb0:Oper:=xb[0]'(by decide)
abbrev xc0:Oper:=xc[0]'(by decide)
abbrev xd0:Oper:=xd[0]'(by decide)
abbrev xd1:Oper:=xd[1]'(by decide)
abbrev xe0:Oper:=xe[0]'(by decide)
abbrev xf0:Oper:=xf[0]'(by decide)
abbrev xf1:Oper:=xf[1]'(by decide)
abbrev xf2:Oper:=xf[2]'(by decide)
abbrev xg0:Oper:=xg[0]'(by decide)
abbrev xh0:Oper:=xh[0]'(by decide)
abbrev xi0:Oper:=xi[0]'(by decide)
abbrev xj0:Oper:=xj[0]'(by decide)
abbrev xk0:Oper:=xk[0]'(by decide)
abbrev xm0:Oper:=xm[0]'(by decide)
abbrev xm1:Oper:=xm[1]'(by decide)
abbrev xm2:Oper:=xm[2]'(by decide)
theorem hands34 (va vb:Value):Frame.enter Tra.prog 9 #[va,vb] .normal=(base 9).at ⟨#[va,vb,undef,undef,undef,undef,undef,undef,undef,undef,undef,undef,undef,undef,undef,undef,undef,undef],[]⟩ [.code xB]:=by
 rw [enter_at _ Tra.func9 body34x,Tra.ntmps9];rfl
abbrev St34 (c:Frame) (cs:List Frame) (tm:Array Value) (k:List Item):Goroutine:=G ((base 9).at ⟨tm,[]⟩ k) (c :: (cs ++ [c0]))
section
variable {Post:FuncId->Array Value->World->Prop} {g0:Goroutine} {u0 u:World} {c:Frame} {cs:List Frame}
def yhm (u:World) (v:Value):Prop:=∃ a n cp,v=.slice a n cp∧n≤cp∧n≤9223372036854775807∧∀ j,j<n->∃ ad x,a=some ad∧u.cell? (ad.add j)=some (.int .i64 x)
theorem in34 (hP:∀ f t u τ,Post f t u->Post f t (retape u τ)) (hcs:∀ x ∈ c :: cs,x.defers=[]) {va vb:Value} (hsa:∀ a n cp,va=.slice a n cp->ycc u a) (hsb:∀ a n cp,vb=.slice a n cp->ycc u a)
  (h:At Tra.prog Post g0 u0 (G (Frame.enter Tra.prog 9 #[va,vb] .normal) (c :: (cs ++ [c0]))) u) :
  yhm u va∧yhm u vb∧∃ s:Int,At Tra.prog Post g0 u0 (St34 c cs #[va,vb,undef,undef,.slice none 0 0,.slice none 0 0,.int .i64 0,.int .i64 s,undef,undef,undef,undef,undef,undef,undef,undef,undef,undef] [.code xR]) u:=by
 rw [hands34] at h;replace h:=h.go hP stepG_seq rfl;replace h:=h.go hP stepG_region rfl;replace h:At Tra.prog Post g0 u0 (St34 c cs #[va,vb,undef,undef,.slice none 0 0,undef,undef,undef,undef,undef,undef,undef,undef,undef,undef,undef,undef,undef] _) u:=h.go hP (stepG_value (o:=xa0) rfl rfl (by decide) (w':=u) (v:=.slice none 0 0) (by unfold execOp;simp [go_sem,Act.eval])) rfl;replace h:At Tra.prog Post g0 u0 (St34 c cs #[va,vb,undef,undef,.slice none 0 0,.slice none 0 0,undef,undef,undef,undef,undef,undef,undef,undef,undef,undef,undef,undef] _) u:=h.go hP (stepG_value (o:=xa1) rfl rfl (by decide) (w':=u) (v:=.slice none 0 0) (by unfold execOp;simp [go_sem,Act.eval])) rfl;replace h:At Tra.prog Post g0 u0 (St34 c cs #[va,vb,undef,undef,.slice none 0 0,.slice none 0 0,.int .i64 0,undef,undef,undef,undef,undef,undef,undef,undef,undef,undef,undef] _) u:=h.go hP (stepG_value (o:=xa2) rfl rfl (by decide) (w':=u) (v:=.int .i64 0) (by unfold execOp;simp [go_sem,Act.eval])) rfl;replace h:=h.go hP stepG_region_end rfl;replace h:=h.go hP stepG_seq rfl;replace h:=h.go hP stepG_region rfl;have e0:(execOp (Act.eval ⟨#[va,vb,undef,undef,.slice none 0 0,.slice none 0 0,.int .i64 0,undef,undef,undef,undef,undef,undef,undef,undef,undef,undef,undef],[]⟩) xb0).run Tra.prog u=.ok (.enter 21 #[va]) u:=by unfold execOp;simp [go_sem,Act.eval,Tra.call21]
 replace h:=h.go hP (stepG_enter (o:=xb0) rfl rfl (by decide) e0) rfl;obtain ⟨a0,n0,c0x,i0,j0,k0,l0,s0,h⟩:=yex (cs:=c :: cs) hP (by intro x hx;rcases List.mem_cons.1 hx with rfl|hx;exact rfl;exact hcs x hx) hsa h;replace h:At Tra.prog Post g0 u0 (St34 c cs #[va,vb,undef,undef,.slice none 0 0,.slice none 0 0,.int .i64 0,.int .i64 s0,undef,undef,undef,undef,undef,undef,undef,undef,undef,undef] (.inRegion xb [] :: _)) u:=h;replace h:=h.go hP stepG_region_end rfl;replace h:=h.go hP stepG_seq rfl;replace h:=h.go hP stepG_region rfl;have e1:(execOp (Act.eval ⟨#[va,vb,undef,undef,.slice none 0 0,.slice none 0 0,.int .i64 0,.int .i64 s0,undef,undef,undef,undef,undef,undef,undef,undef,undef,undef],[]⟩) xc0).run Tra.prog u=.ok (.enter 21 #[vb]) u:=by unfold execOp;simp [go_sem,Act.eval,Tra.call21]
 replace h:=h.go hP (stepG_enter (o:=xc0) rfl rfl (by decide) e1) rfl;obtain ⟨a1,n1,c1,i1,j1,k1,l1,s1,h⟩:=yex (cs:=c :: cs) hP (by intro x hx;rcases List.mem_cons.1 hx with rfl|hx;exact rfl;exact hcs x hx) hsb h;replace h:At Tra.prog Post g0 u0 (St34 c cs #[va,vb,undef,undef,.slice none 0 0,.slice none 0 0,.int .i64 0,.int .i64 s1,undef,undef,undef,undef,undef,undef,undef,undef,undef,undef] (.inRegion xc [] :: _)) u:=h;replace h:=h.go hP stepG_region_end rfl;exact ⟨⟨a0,n0,c0x,i0,j0,k0,l0⟩,⟨a1,n1,c1,i1,j1,k1,l1⟩,s1,h⟩
end
section
variable {Post:FuncId->Array Value->World->Prop} {g0:Goroutine} {u0 u:World} {c:Frame} {cs:List Frame} {a b:Option Addr} {la lb r0 r1:List Int} {ca cb k cap0 cap1:Nat} {er s:Int}
def Made (u u':World) (xs:List Int) (cap:Nat) (y:Value):Prop:=(xs=[]∧y=.slice none 0 0∧u'.heap=u.heap)∨(xs≠[]∧y=.slice (some ⟨u.heap.size,0,none⟩) xs.length cap∧u'.heap=u.heap.push (.cells (rowA xs cap) 3 (0,0)))
structure Old (u u':World):Prop where
 os:u'.os=u.os
 output:u'.output=u.output
 size:u.heap.size≤u'.heap.size
 block:∀ b,b<u.heap.size->u'.heap[b]?=u.heap[b]?
theorem y9v {u u':World} {a:Act} {o:Oper} {s x:Operand} {v y:Value} (ho:o.op=.call { callee:=.builtin .append,args:=#[s,x],argTypes:=#[29,29] }) (ht:o.type=29) (hs:a.eval s=.slice none 0 0) (hx:a.eval x=v) (hr:(Builtin.append_ #[29,29] 29 #[.slice none 0 0,v]).run Tra.prog u=.ok y u'):(execOp a.eval o).run Tra.prog u=.ok (.value y) u':=by
 unfold execOp;simp only [ho,ht,resolve,invoke,builtin,Sem.run_bind,Sem.run_pure,Result.andThen_ok,List.map_toArray,List.map_cons,List.map_nil,hs,hx,hr]
theorem pair_C {u:World} {B:Nat} {fr:Nat × Nat} {a b:Option Addr} {la lb:List Int} {ca cb:Nat} (hB:u.heap[B]?=some (.cells #[.slice a la.length ca,.slice b lb.length cb] 29 fr)) (ha:Kd.C (Kd.int .i64) u a la.length la) (hca:la.length≤ca) (hb:Kd.C (Kd.int .i64) u b lb.length lb) (hcb:lb.length≤cb):Kd.C (Kd.slice 3 (Kd.int .i64)) u (some ⟨B,0,none⟩) 2 [la,lb]:=by
 refine ⟨rfl,by decide,fun _=>⟨_,rfl,fun j p hj=>?_⟩⟩;have e:(Kd.slice 3 (Kd.int .i64)).sz=1:=rfl;have key:∀ (c:Option Addr) (cc:Nat) (zs:List Int) (j:Nat),Kd.C (Kd.int .i64) u c zs.length zs->zs.length≤cc->(#[Value.slice a la.length ca,.slice b lb.length cb]:Array Value)[j]?=some (.slice c zs.length cc)->∃ c,c.length=1∧(Kd.slice 3 (Kd.int .i64)).K u zs c∧∀ i v,c[i]?=some v->u.cell? ((⟨B,0,none⟩:Addr).add (j * 1+i))=some v:=by
  intro c cc zs j hc hz hj;refine ⟨[.slice c zs.length cc],rfl,⟨c,cc,rfl,hz,hc⟩,fun i v hi=>?_⟩;have hi0:i=0:=by
   have:=(List.getElem?_eq_some_iff.1 hi).1;simp at this;omega
  subst hi0;rw [y2t,cell_of_row u B _ _ 29 _ hB,Nat.mul_one,Nat.add_zero,hj];simpa using hi
 rcases j with _|_|j
 ·injection hj with hj
  subst hj;exact key a ca _ 0 ha hca rfl
 ·have hj':lb=p:=by simpa using hj
  subst hj';exact key b cb _ 1 hb hcb rfl
 ·simp at hj
theorem Old.trans {u u1 u2:World} (h:Old u u1) (k:Old u1 u2):Old u u2:=⟨k.os.trans h.os,k.output.trans h.output,Nat.le_trans h.size k.size,fun b hb=>(k.block b (Nat.lt_of_lt_of_le hb h.size)).trans (h.block b hb)⟩
theorem Old.of_below {u u':World} (h:Below u.heap.size u u'):Old u u':=⟨h.os,h.output,h.size,h.block⟩
theorem Made.old {u u':World} {xs:List Int} {cap:Nat} {y:Value} (h:Made u u' xs cap y) (h1:u'.os=u.os) (h2:u'.output=u.output):Old u u':=by
 rcases h with ⟨_,_,h⟩|⟨_,_,h⟩
 ·exact ⟨h1,h2,by rw [h];exact zLe _,fun b _=>by rw [h]⟩
 ·exact ⟨h1,h2,by rw [h,Array.size_push];omega,fun b hb=>by rw [h,Array.getElem?_push,if_neg (by omega)]⟩
theorem yg9 {u u':World} {B:Nat} {v:Value} {xs:List Int} (h:Ext.OwnI u B v xs) (k:Old u u'):Ext.OwnI u' B v xs:=h.move fun g hg=>k.block g (h.lt g hg).2
theorem out34 (hP:∀ f t u τ,Post f t u->Post f t (retape u τ)) (hla:∀ w,Old u w->Kd.C (Kd.int .i64) w a la.length la) (hca:la.length≤ca) (hlb:∀ w,Old u w->Kd.C (Kd.int .i64) w b lb.length lb) (hcb:lb.length≤cb)
  (hrd:mobs_read.f k [la,lb]=some er) (hb0:er=0->mobs_below.f k la lb=some r0) (hb1:er=0->mobs_above.f la lb=some r1) (hn0:r0.length<17592186044416) (hn1:r1.length<17592186044416) (hc0:r0.length≤cap0∧cap0≤maxLen) (hc1:r1.length≤cap1∧cap1≤maxLen)
  (h:At Tra.prog Post g0 u0 (St34 c cs #[.slice a la.length ca,.slice b lb.length cb,undef,undef,.slice none 0 0,.slice none 0 0,.int .i64 0,.int .i64 s,undef,undef,undef,undef,undef,undef,undef,undef,undef,undef] [.code xR]) u) :
  ∃ u' y,At Tra.prog Post g0 u0 (G (c.finish y) (cs ++ [c0])) u'∧((er≠0∧y=.tuple #[.slice none 0 0,.slice none 0 0,.int .i64 er]∧Old u u') ∨
   (er=0∧∃ y0 y1 u1 u2,y=.tuple #[y0,y1,.int .i64 0]∧Old u u1∧Made u1 u2 r0 cap0 y0∧u2.os=u1.os∧u2.output=u1.output∧Made u2 u' r1 cap1 y1∧u'.os=u2.os∧u'.output=u2.output)):=by
 replace h:=h.go hP stepG_seq rfl;replace h:=h.go hP stepG_region rfl;obtain ⟨ub,hub⟩:∃ ub,ub=u.alloc (.cells #[.slice a la.length ca,.slice b lb.length cb] 29 (0,0)):=⟨_,rfl⟩
 have hob:Old u ub:=by rw [hub];exact ⟨rfl,rfl,by rw [y0m];omega,fun b hb=>y94 u _ hb⟩
 have hgb:ub.heap[u.heap.size]?=some (.cells #[.slice a la.length ca,.slice b lb.length cb] 29 (0,0)):=by rw [hub];exact heap_alloc_new u _
 have ed:(execOp (Act.eval ⟨#[.slice a la.length ca,.slice b lb.length cb,undef,undef,.slice none 0 0,.slice none 0 0,.int .i64 0,.int .i64 s,undef,undef,undef,undef,undef,undef,undef,undef,undef,undef],[]⟩) xd0).run Tra.prog u=.ok (.value (.slice (some ⟨u.heap.size,0,none⟩) 2 2)) ub:=by
  rw [hub];unfold execOp;simp [go_sem,Act.eval,Tra.isAgg29,Tra.runUnderlying29,Tra.sizeOf29,Tra.zeroValue29,Tra.runUnderlying79]
 replace h:At Tra.prog Post g0 u0 (St34 c cs #[.slice a la.length ca,.slice b lb.length cb,undef,undef,.slice none 0 0,.slice none 0 0,.int .i64 0,.int .i64 s,.slice (some ⟨u.heap.size,0,none⟩) 2 2,undef,undef,undef,undef,undef,undef,undef,undef,undef] _) ub:=h.go hP (stepG_value (o:=xd0) rfl rfl (by decide) (w':=ub) (v:=.slice (some ⟨u.heap.size,0,none⟩) 2 2) (ed)) (by rw [hub];rfl);have ee:(execOp (Act.eval ⟨#[.slice a la.length ca,.slice b lb.length cb,undef,undef,.slice none 0 0,.slice none 0 0,.int .i64 0,.int .i64 s,.slice (some ⟨u.heap.size,0,none⟩) 2 2,undef,undef,undef,undef,undef,undef,undef,undef,undef],[]⟩) xd1).run Tra.prog ub=.ok (.enter 20 #[.slice (some ⟨u.heap.size,0,none⟩) 2 2]) ub:=by unfold execOp;simp [go_sem,Act.eval,Tra.call20]
 replace h:=h.go hP (stepG_enter (o:=xd1) rfl rfl (by decide) ee) rfl;have hC:=mobs_read.calls k (some ⟨u.heap.size,0,none⟩) 2 [la,lb] er ub (pair_C hgb (hla ub hob) hca (hlb ub hob) hcb) (by simp) hrd;obtain ⟨v9,u3,⟨rfl,hB3⟩,h⟩:=At.calls hP h (Q:=fun v w'=>v=.int .i64 er∧Below ub.heap.size ub w') (hC.mono fun e w' hp=>⟨_,hp.1,rfl,hp.2⟩);have ho3:Old u u3:=hob.trans (Old.of_below hB3);replace h:At Tra.prog Post g0 u0 (St34 c cs #[.slice a la.length ca,.slice b lb.length cb,undef,undef,.slice none 0 0,.slice none 0 0,.int .i64 0,.int .i64 s,.slice (some ⟨u.heap.size,0,none⟩) 2 2,.int .i64 er,undef,undef,undef,undef,undef,undef,undef,undef] (.inRegion xd [] :: _)) u3:=h;replace h:=h.go hP stepG_region_end rfl;replace h:=h.go hP stepG_seq rfl;replace h:=h.go hP stepG_seq rfl;replace h:=h.go hP stepG_region rfl;replace h:At Tra.prog Post g0 u0 (St34 c cs #[.slice a la.length ca,.slice b lb.length cb,undef,undef,.slice none 0 0,.slice none 0 0,.int .i64 0,.int .i64 s,.slice (some ⟨u.heap.size,0,none⟩) 2 2,.int .i64 er,.bool (decide (er≠0)),undef,undef,undef,undef,undef,undef,undef] _) u3:=h.go hP (stepG_value (o:=xe0) rfl rfl (by decide) (w':=u3) (v:=.bool (decide (er≠0))) (by unfold execOp;simp [go_sem,Act.eval,Tra.runUnderlying24];rfl)) rfl;replace h:=h.go hP stepG_region_end rfl;replace h:=h.go hP (stepG_cond (t:=decide (er≠0)) rfl) rfl
 by_cases he:er≠0
 ·rw [zDt he] at h
  replace h:=h.go hP stepG_seq rfl;replace h:=h.go hP stepG_region rfl;replace h:At Tra.prog Post g0 u0 (St34 c cs #[.slice a la.length ca,.slice b lb.length cb,undef,undef,.slice none 0 0,.slice none 0 0,.int .i64 0,.int .i64 s,.slice (some ⟨u.heap.size,0,none⟩) 2 2,.int .i64 er,.bool true,undef,undef,undef,undef,undef,undef,undef] _) u3:=h.go hP (stepG_value (o:=xf0) rfl rfl (by decide) (w':=u3) (v:=.slice none 0 0) (by unfold execOp;simp [go_sem,Act.eval])) rfl;replace h:At Tra.prog Post g0 u0 (St34 c cs #[.slice a la.length ca,.slice b lb.length cb,undef,undef,.slice none 0 0,.slice none 0 0,.int .i64 0,.int .i64 s,.slice (some ⟨u.heap.size,0,none⟩) 2 2,.int .i64 er,.bool true,undef,undef,undef,undef,undef,undef,undef] _) u3:=h.go hP (stepG_value (o:=xf1) rfl rfl (by decide) (w':=u3) (v:=.slice none 0 0) (by unfold execOp;simp [go_sem,Act.eval])) rfl;replace h:At Tra.prog Post g0 u0 (St34 c cs #[.slice a la.length ca,.slice b lb.length cb,undef,undef,.slice none 0 0,.slice none 0 0,.int .i64 er,.int .i64 s,.slice (some ⟨u.heap.size,0,none⟩) 2 2,.int .i64 er,.bool true,undef,undef,undef,undef,undef,undef,undef] _) u3:=h.go hP (stepG_value (o:=xf2) rfl rfl (by decide) (w':=u3) (v:=.int .i64 er) (by unfold execOp;simp [go_sem,Act.eval])) rfl;replace h:=h.go hP stepG_region_end rfl;replace h:=h.go hP stepG_ret' rfl;have e9:∀ td,stepG Tra.prog true (G { (base 9).at ⟨#[.slice a la.length ca,.slice b lb.length cb,undef,undef,.slice none 0 0,.slice none 0 0,.int .i64 er,.int .i64 s,.slice (some ⟨u.heap.size,0,none⟩) 2 2,.int .i64 er,.bool true,undef,undef,undef,undef,undef,undef,undef],[]⟩ td with mode:=.returning } (c :: (cs ++ [c0]))) u3=.go (G (c.finish (.tuple #[.slice none 0 0,.slice none 0 0,.int .i64 er])) (cs ++ [c0])) u3:=fun td=>y24 (i:=4) (j:=5) (k:=6) rfl rfl Tra.func9 (by kernel_rfl)
  exact ⟨u3,_,h.go hP (e9 _) rfl,.inl ⟨he,rfl,ho3⟩⟩
 have he0:er=0:=by omega
 rw [zDf he] at h;replace h:=h.go hP stepG_skip rfl;replace h:=h.go hP stepG_seq rfl;replace h:=h.go hP stepG_region rfl;have eg:(execOp (Act.eval ⟨#[.slice a la.length ca,.slice b lb.length cb,undef,undef,.slice none 0 0,.slice none 0 0,.int .i64 0,.int .i64 s,.slice (some ⟨u.heap.size,0,none⟩) 2 2,.int .i64 er,.bool false,undef,undef,undef,undef,undef,undef,undef],[]⟩) xg0).run Tra.prog u3=.ok (.enter 24 #[.slice a la.length ca,.slice b lb.length cb]) u3:=by unfold execOp;simp [go_sem,Act.eval,Tra.call24]
 replace h:=h.go hP (stepG_enter (o:=xg0) rfl rfl (by decide) eg) rfl;obtain ⟨v11,u4,⟨hO4,hB4⟩,h⟩:=At.calls hP h (Q:=fun v w'=>Ext.OwnI w' u3.heap.size v r0∧Below u3.heap.size u3 w') ((mobs_below.flat k a ca la b cb lb r0 u3 (hla u3 ho3) hca (hlb u3 ho3) hcb (hb0 he0)).mono fun e w' ⟨v,he,hO,hB⟩=>⟨v,he,hO,hB⟩);have ho4:Old u u4:=ho3.trans (Old.of_below hB4);replace h:At Tra.prog Post g0 u0 (St34 c cs #[.slice a la.length ca,.slice b lb.length cb,undef,undef,.slice none 0 0,.slice none 0 0,.int .i64 0,.int .i64 s,.slice (some ⟨u.heap.size,0,none⟩) 2 2,.int .i64 er,.bool false,v11,undef,undef,undef,undef,undef,undef] (.inRegion xg [] :: _)) u4:=h;replace h:=h.go hP stepG_region_end rfl;replace h:=h.go hP stepG_seq rfl;replace h:=h.go hP stepG_region rfl;have eh:(execOp (Act.eval ⟨#[.slice a la.length ca,.slice b lb.length cb,undef,undef,.slice none 0 0,.slice none 0 0,.int .i64 0,.int .i64 s,.slice (some ⟨u.heap.size,0,none⟩) 2 2,.int .i64 er,.bool false,v11,undef,undef,undef,undef,undef,undef],[]⟩) xh0).run Tra.prog u4=.ok (.enter 26 #[.slice a la.length ca,.slice b lb.length cb]) u4:=by unfold execOp;simp [go_sem,Act.eval,Tra.call26]
 replace h:=h.go hP (stepG_enter (o:=xh0) rfl rfl (by decide) eh) rfl;obtain ⟨v12,u5,⟨hO5,hB5⟩,h⟩:=At.calls hP h (Q:=fun v w'=>Ext.OwnI w' u4.heap.size v r1∧Below u4.heap.size u4 w') ((mobs_above.own a ca la b cb lb r1 u4 (hla u4 ho4) hca (hlb u4 ho4) hcb (hb1 he0)).mono fun e w' ⟨v,he,hO,hB⟩=>⟨v,he,hO,hB⟩);have ho45:=Old.of_below hB5;have ho5:Old u u5:=ho4.trans ho45;have hO4':=yg9 hO4 ho45;replace h:At Tra.prog Post g0 u0 (St34 c cs #[.slice a la.length ca,.slice b lb.length cb,undef,undef,.slice none 0 0,.slice none 0 0,.int .i64 0,.int .i64 s,.slice (some ⟨u.heap.size,0,none⟩) 2 2,.int .i64 er,.bool false,v11,v12,undef,undef,undef,undef,undef] (.inRegion xh [] :: _)) u5:=h;replace h:=h.go hP stepG_region_end rfl;replace h:=h.go hP stepG_seq rfl;replace h:=h.go hP stepG_region rfl;replace h:At Tra.prog Post g0 u0 (St34 c cs #[.slice a la.length ca,.slice b lb.length cb,undef,undef,.slice none 0 0,.slice none 0 0,.int .i64 0,.int .i64 s,.slice (some ⟨u.heap.size,0,none⟩) 2 2,.int .i64 er,.bool false,v11,v12,.slice none 0 0,undef,undef,undef,undef] _) u5:=h.go hP (stepG_value (o:=xi0) rfl rfl (by decide) (w':=u5) (v:=.slice none 0 0) (by unfold execOp;simp [go_sem,Act.eval])) rfl;replace h:=h.go hP stepG_region_end rfl;replace h:=h.go hP stepG_seq rfl;replace h:=h.go hP stepG_region rfl;obtain ⟨τ1,y0,u6,er6,hs6,hp6,hm6⟩:=yfl hO4' hc0.1 hc0.2 hn0;have ej:(execOp (Act.eval ⟨#[.slice a la.length ca,.slice b lb.length cb,undef,undef,.slice none 0 0,.slice none 0 0,.int .i64 0,.int .i64 s,.slice (some ⟨u.heap.size,0,none⟩) 2 2,.int .i64 er,.bool false,v11,v12,.slice none 0 0,undef,undef,undef,undef],[]⟩) xj0).run Tra.prog (retape u5 τ1)=.ok (.value y0) (retape u6 τ1):=y9v (o:=xj0) rfl rfl rfl rfl er6;replace h:At Tra.prog Post g0 u0 (St34 c cs #[.slice a la.length ca,.slice b lb.length cb,undef,undef,.slice none 0 0,.slice none 0 0,.int .i64 0,.int .i64 s,.slice (some ⟨u.heap.size,0,none⟩) 2 2,.int .i64 er,.bool false,v11,v12,.slice none 0 0,y0,undef,undef,undef] (.inRegion xj [] :: _)) u6:=h.go' hP τ1 (stepG_value (o:=xj0) rfl rfl (by decide) ej);have ho56:Old u5 u6:=Made.old hm6 hs6 hp6;have hO5':=yg9 hO5 ho56;replace h:=h.go hP stepG_region_end rfl;replace h:=h.go hP stepG_seq rfl;replace h:=h.go hP stepG_region rfl;obtain ⟨τ2,y1,u7,er7,hs7,hp7,hm7⟩:=yfl hO5' hc1.1 hc1.2 hn1;have ek:(execOp (Act.eval ⟨#[.slice a la.length ca,.slice b lb.length cb,undef,undef,.slice none 0 0,.slice none 0 0,.int .i64 0,.int .i64 s,.slice (some ⟨u.heap.size,0,none⟩) 2 2,.int .i64 er,.bool false,v11,v12,.slice none 0 0,y0,undef,undef,undef],[]⟩) xk0).run Tra.prog (retape u6 τ2)=.ok (.value y1) (retape u7 τ2):=y9v (o:=xk0) rfl rfl rfl rfl er7;replace h:At Tra.prog Post g0 u0 (St34 c cs #[.slice a la.length ca,.slice b lb.length cb,undef,undef,.slice none 0 0,.slice none 0 0,.int .i64 0,.int .i64 s,.slice (some ⟨u.heap.size,0,none⟩) 2 2,.int .i64 er,.bool false,v11,v12,.slice none 0 0,y0,y1,undef,undef] (.inRegion xk [] :: _)) u7:=h.go' hP τ2 (stepG_value (o:=xk0) rfl rfl (by decide) ek);replace h:=h.go hP stepG_region_end rfl;replace h:=h.go hP stepG_seq rfl;replace h:=h.go hP stepG_region rfl;replace h:At Tra.prog Post g0 u0 (St34 c cs #[.slice a la.length ca,.slice b lb.length cb,undef,undef,y0,.slice none 0 0,.int .i64 0,.int .i64 s,.slice (some ⟨u.heap.size,0,none⟩) 2 2,.int .i64 er,.bool false,v11,v12,.slice none 0 0,y0,y1,undef,undef] _) u7:=h.go hP (stepG_value (o:=xm0) rfl rfl (by decide) (w':=u7) (v:=y0) (by unfold execOp;simp [go_sem,Act.eval])) rfl;replace h:At Tra.prog Post g0 u0 (St34 c cs #[.slice a la.length ca,.slice b lb.length cb,undef,undef,y0,y1,.int .i64 0,.int .i64 s,.slice (some ⟨u.heap.size,0,none⟩) 2 2,.int .i64 er,.bool false,v11,v12,.slice none 0 0,y0,y1,undef,undef] _) u7:=h.go hP (stepG_value (o:=xm1) rfl rfl (by decide) (w':=u7) (v:=y1) (by unfold execOp;simp [go_sem,Act.eval])) rfl;replace h:At Tra.prog Post g0 u0 (St34 c cs #[.slice a la.length ca,.slice b lb.length cb,undef,undef,y0,y1,.int .i64 0,.int .i64 s,.slice (some ⟨u.heap.size,0,none⟩) 2 2,.int .i64 er,.bool false,v11,v12,.slice none 0 0,y0,y1,undef,undef] _) u7:=h.go hP (stepG_value (o:=xm2) rfl rfl (by decide) (w':=u7) (v:=.int .i64 0) (by unfold execOp;simp [go_sem,Act.eval])) rfl;replace h:=h.go hP stepG_region_end rfl;replace h:=h.go hP stepG_ret' rfl;have e9:∀ td,stepG Tra.prog true (G { (base 9).at ⟨#[.slice a la.length ca,.slice b lb.length cb,undef,undef,y0,y1,.int .i64 0,.int .i64 s,.slice (some ⟨u.heap.size,0,none⟩) 2 2,.int .i64 er,.bool false,v11,v12,.slice none 0 0,y0,y1,undef,undef],[]⟩ td with mode:=.returning } (c :: (cs ++ [c0]))) u7=.go (G (c.finish (.tuple #[y0,y1,.int .i64 0])) (cs ++ [c0])) u7:=fun td=>y24 (i:=4) (j:=5) (k:=6) rfl rfl Tra.func9 (by kernel_rfl)
 exact ⟨u7,_,h.go hP (e9 _) rfl,.inr ⟨he0,y0,y1,u5,u6,rfl,ho5,hm6,hs6,hp6,hm7,hs7,hp7⟩⟩
end
end Go.Mt
namespace Go.Proofs.Ytfgcijifdbgpaaa.P
open Go.RowKit Go.Proofs.YtfgcijifdbgpaaaW.Wd Go.Proofs.YtfgcijifdbgpaaaW.La Go.Proofs.YtfgcijifdbgpaaaW.Mo
section
attribute [local go_sem] y0x y0v y16 y15 y0q y0p y0w y0u
mutual
def drovewayref09_Ties.j0:Nat->Int->List (S28)->Bool->Option (Int)
 |0,_,_,_=>none
 |k+1,x0,x1,x12=>if x12=true then (some 2) else (if (x1.length:Int) > 20 then (some 3) else (drovewayref09_Ties.l0 k x0 x1 0))
def drovewayref09_Ties.l0:Nat->Int->List (S28)->Int->Option (Int)
 |0,_,_,_=>none
 |k+1,x0,x1,x5=>if x5<(x1.length:Int) then (if 0≤x5 then (if ((y0c x1 x5).f0)<0 then (drovewayref09_Ties.j2 k x0 x1 x5 true) else (if ((y0c x1 x5).f0) ≥ ((y0c x1 x5).f1) then (drovewayref09_Ties.j2 k x0 x1 x5 true) else (drovewayref09_Ties.j2 k x0 x1 x5 (decide (((y0c x1 x5).f1) ≥ x0))))) else (none)) else (some 0)
def drovewayref09_Ties.j2:Nat->Int->List (S28)->Int->Bool->Option (Int)
 |0,_,_,_,_=>none
 |k+1,x0,x1,x5,x49=>if x49=true then (some 2) else (drovewayref09_Ties.l1 k x0 x1 x5 0)
def drovewayref09_Ties.l1:Nat->Int->List (S28)->Int->Int->Option (Int)
 |0,_,_,_,_=>none
 |k+1,x0,x1,x5,x6=>if x6<x5 then (if 0≤x6 then (if x6<(x1.length:Int) then (if 0≤x5 then (if x5<(x1.length:Int) then (if ((y0c x1 x6).f0)=((y0c x1 x5).f0) then (if ((y0c x1 x6).f1)=((y0c x1 x5).f1) then (some 2) else (drovewayref09_Ties.l1 k x0 x1 x5 (wrap64 (x6+1)))) else (drovewayref09_Ties.l1 k x0 x1 x5 (wrap64 (x6+1)))) else (none)) else (none)) else (none)) else (none)) else (drovewayref09_Ties.l0 k x0 x1 (wrap64 (x5+1)))
end
def drovewayref09_Ties.f (k:Nat) (a0:Int) (l1:List (S28)):Option (Int):=if a0<1 then (drovewayref09_Ties.j0 k a0 l1 true) else (drovewayref09_Ties.j0 k a0 l1 (decide (a0 > 8)))
theorem drovewayref09_Ties.calls (k:Nat) (a0:Int) (A1:Option Addr) (c1:Nat) (l1:List (S28)) (r:Int) (w:World) (hr1:Kd.C k28 w A1 l1.length l1) (hc1:l1.length≤c1) (h:drovewayref09_Ties.f k a0 l1=some r) :
  Calls Tra.prog 4 #[.int .i64 a0,.slice A1 l1.length c1] w fun e w'=>e=.returned (.int .i64 r)∧Drawn0 w w':=by
 have HR1:=As0.mk hr1;have HC1:=As0.mk hc1;clear hr1 hc1;have H:(if a0<1 then (drovewayref09_Ties.j0 k a0 l1 true) else (drovewayref09_Ties.j0 k a0 l1 (decide (a0 > 8))))=some r:=h;clear h;have HC3:=As0.mk H;clear H;go_enter Tra.func4,Tra.ntmps4
 go_upto_region 1 with (fail)
 repeat (go_quiet (fail);go_upto_region 1 with (fail))
 go_cut [12] (fun v12 wc=>∃ (kq:Nat) (x12_2:Bool),v12=.bool x12_2∧As0 (drovewayref09_Ties.j0 kq a0 l1 x12_2=some r)∧As0 (kq≤k)∧Drawn0 w wc)
 case first =>
  have H:=HC3.out;clear HC3
  by_cases c4:a0<1
  ·rw [if_pos c4] at H
   have c4b0:decide (a0<1)=true:=zDt c4;clear c4
   (skip)
   have H':=As0.mk H;clear H;go_wp2
   repeat (go_quiet (fail);try go_wp2)
   go_meet
   case rel=>exact ⟨_,(true),(by rfl),H',⟨by omega⟩,by repeat (exact Drawn0.refl _)⟩
  ·rw [if_neg c4] at H
   have c4b0:decide (a0<1)=false:=zDf c4;clear c4
   (skip)
   have H':=As0.mk H;clear H;go_wp2
   repeat (go_quiet (fail);try go_wp2)
   go_meet
   case rel=>exact ⟨_,(decide (a0 > 8)),(by rfl),H',⟨by omega⟩,by repeat (exact Drawn0.refl _)⟩
 case rest =>
  clear HC3
  try clear c1
  try clear p2
  try clear c4
  try clear c4b0
  obtain ⟨kq,x12_2,rfl,HA,HJ2,⟨mc2,rfl⟩⟩:=hcut;cases kq with
  |zero=>exact absurd HA.out (by simp [drovewayref09_Ties.j0])
  |succ kj2 =>
   have H:=HA.out;clear HA;simp only [drovewayref09_Ties.j0] at H
   by_cases c5:x12_2=true
   ·subst c5
    have H1:(some 2)=some r:=by rw [if_pos rfl] at H;exact H
    clear H;have H:=H1;clear H1;obtain rfl:=zSi H;go_wp2
    repeat (go_quiet (fail);try go_wp2)
    go_ret
    exact ⟨by rfl,by repeat (first|exact Drawn0.refl _|apply Drawn0.step)⟩
   ·replace c5:=Bool.eq_false_iff.mpr c5
    subst c5;have H1:(if (l1.length:Int) > 20 then (some 3) else (drovewayref09_Ties.l0 kj2 a0 l1 0))=some r:=by rw [if_neg (show ¬ (false=true) by decide)] at H;exact H
    clear H;have H:=H1;clear H1
    by_cases c6:(l1.length:Int) > 20
    ·rw [if_pos c6] at H
     have c6b0:decide (20<(l1.length:Int))=true:=zDt c6;have c6b1:decide (20<l1.length)=true:=zDt (by omega);clear c6;obtain rfl:=zSi H;go_wp2
     repeat (go_quiet (fail);try go_wp2)
     go_ret
     exact ⟨by rfl,by repeat (first|exact Drawn0.refl _|apply Drawn0.step)⟩
    ·rw [if_neg c6] at H
     have c6b0:decide (20<(l1.length:Int))=false:=zDf c6;have c6b1:decide (20<l1.length)=false:=zDf (by omega);clear c6;have H':=As0.mk H;clear H;go_wp2
     repeat (go_quiet (fail);try go_wp2)
     go_loopg [5] kj2 (fun kq v5 w'=>∃ (x5_2:Int),v5=.int .i64 x5_2∧As0 (drovewayref09_Ties.l0 kq a0 l1 x5_2=some r)∧As0 (kq≤kj2)∧Drawn0 w w')
     case atStart=>exact ⟨(0),(by rfl),H',⟨zLe _⟩,by repeat (first|exact Drawn0.refl _|apply Drawn0.step)⟩
     case round =>
      clear H'
      try clear c1
      try clear c2
      try clear p2
      try clear c4
      try clear c4b0
      try clear c5
      try clear c6
      try clear c6b0
      try clear c6b1
      try clear p2
      obtain ⟨x5_2,rfl,HA,HK2,⟨m2,rfl⟩⟩:=hrel;cases gk with
      |zero=>exact absurd HA.out (by simp [drovewayref09_Ties.l0])
      |succ k2 =>
       have H:=HA.out;clear HA;simp only [drovewayref09_Ties.l0] at H
       by_cases c7:x5_2<(l1.length:Int)
       ·rw [if_pos c7] at H
        have c7b0:decide (x5_2<(l1.length:Int))=true:=zDt c7;clear c7;have HC8:=As0.mk H;clear H;go_upto_region 8 with (fail)
        repeat (go_quiet (fail);go_upto_region 8 with (fail))
        go_cut [49] (fun v49 wc=>∃ (kq:Nat) (x49_7:Bool),v49=.bool x49_7∧As0 (drovewayref09_Ties.j2 kq a0 l1 x5_2 x49_7=some r)∧As0 (kq≤k2)∧Drawn0 w wc)
        case first =>
         have H:=HC8.out;clear HC8
         by_cases c9:0≤x5_2
         ·rw [if_pos c9] at H
          have c9b0:decide (0≤x5_2)=true:=zDt c9;clear c9
          (skip)
          by_cases c10:((y0c l1 x5_2).f0)<0
          ·rw [if_pos c10] at H
           have c10b0:decide (((y0c l1 x5_2).f0)<0)=true:=zDt c10;clear c10;have H':=As0.mk H;clear H;have p109:0≤(x5_2:Int):=zDo (by with_reducible assumption);have q109:x5_2<(l1.length:Int):=zDo (by with_reducible assumption);obtain ⟨ad109,e109,hx109_0,hx109_1,hx109_2⟩:=y20 HR1.out x5_2 p109 q109;cases e109
           replace p109:=eq_true p109;replace q109:=eq_true q109;go_wp2
           repeat (go_quiet (fail);try go_wp2)
           go_meet
           case rel=>exact ⟨_,(true),(by rfl),H',⟨by have:=HJ2.out;have:=HK2.out;omega⟩,by repeat (first|exact Drawn0.refl _|apply Drawn0.step)⟩
          ·rw [if_neg c10] at H
           have c10b0:decide (((y0c l1 x5_2).f0)<0)=false:=zDf c10;clear c10
           by_cases c11:((y0c l1 x5_2).f0) ≥ ((y0c l1 x5_2).f1)
           ·rw [if_pos c11] at H
            have c11b0:decide (((y0c l1 x5_2).f1)≤((y0c l1 x5_2).f0))=true:=zDt c11;clear c11;have H':=As0.mk H;clear H;have p109:0≤(x5_2:Int):=zDo (by with_reducible assumption);have q109:x5_2<(l1.length:Int):=zDo (by with_reducible assumption);obtain ⟨ad109,e109,hx109_0,hx109_1,hx109_2⟩:=y20 HR1.out x5_2 p109 q109;cases e109
            replace p109:=eq_true p109;replace q109:=eq_true q109;have p110:0≤(x5_2:Int):=zDo (by with_reducible assumption);have q110:x5_2<(l1.length:Int):=zDo (by with_reducible assumption);obtain ⟨ad110,e110,hx110_0,hx110_1,hx110_2⟩:=y20 HR1.out x5_2 p110 q110;obtain rfl:ad109=ad110:=(by injection e110)
            replace p110:=eq_true p110;replace q110:=eq_true q110;have p111:0≤(x5_2:Int):=zDo (by with_reducible assumption);have q111:x5_2<(l1.length:Int):=zDo (by with_reducible assumption);obtain ⟨ad111,e111,hx111_0,hx111_1,hx111_2⟩:=y20 HR1.out x5_2 p111 q111;obtain rfl:ad109=ad111:=(by injection e111)
            replace p111:=eq_true p111;replace q111:=eq_true q111;go_wp2
            repeat (go_quiet (fail);try go_wp2)
            go_meet
            case rel=>exact ⟨_,(true),(by rfl),H',⟨by have:=HJ2.out;have:=HK2.out;omega⟩,by repeat (first|exact Drawn0.refl _|apply Drawn0.step)⟩
           ·rw [if_neg c11] at H
            have c11b0:decide (((y0c l1 x5_2).f1)≤((y0c l1 x5_2).f0))=false:=zDf c11;clear c11;have H':=As0.mk H;clear H;have p109:0≤(x5_2:Int):=zDo (by with_reducible assumption);have q109:x5_2<(l1.length:Int):=zDo (by with_reducible assumption);obtain ⟨ad109,e109,hx109_0,hx109_1,hx109_2⟩:=y20 HR1.out x5_2 p109 q109;cases e109
            replace p109:=eq_true p109;replace q109:=eq_true q109;have p110:0≤(x5_2:Int):=zDo (by with_reducible assumption);have q110:x5_2<(l1.length:Int):=zDo (by with_reducible assumption);obtain ⟨ad110,e110,hx110_0,hx110_1,hx110_2⟩:=y20 HR1.out x5_2 p110 q110;obtain rfl:ad109=ad110:=(by injection e110)
            replace p110:=eq_true p110;replace q110:=eq_true q110;have p111:0≤(x5_2:Int):=zDo (by with_reducible assumption);have q111:x5_2<(l1.length:Int):=zDo (by with_reducible assumption);obtain ⟨ad111,e111,hx111_0,hx111_1,hx111_2⟩:=y20 HR1.out x5_2 p111 q111;obtain rfl:ad109=ad111:=(by injection e111)
            replace p111:=eq_true p111;replace q111:=eq_true q111;have p112:0≤(x5_2:Int):=zDo (by with_reducible assumption);have q112:x5_2<(l1.length:Int):=zDo (by with_reducible assumption);obtain ⟨ad112,e112,hx112_0,hx112_1,hx112_2⟩:=y20 HR1.out x5_2 p112 q112;obtain rfl:ad109=ad112:=(by injection e112)
            replace p112:=eq_true p112;replace q112:=eq_true q112;go_wp2
            repeat (go_quiet (fail);try go_wp2)
            go_meet
            case rel=>exact ⟨_,(decide (((y0c l1 x5_2).f1) ≥ a0)),(by rfl),H',⟨by have:=HJ2.out;have:=HK2.out;omega⟩,by repeat (first|exact Drawn0.refl _|apply Drawn0.step)⟩
         ·rw [if_neg c9] at H
          exact absurd H (by simp)
        case rest =>
         clear HC8
         try clear c1
         try clear p1
         try clear q1
         try clear hx1
         try clear c2
         try clear p2
         try clear c4
         try clear c4b0
         try clear c5
         try clear c6
         try clear c6b0
         try clear c6b1
         try clear c7
         try clear c7b0
         try clear c9
         try clear c9b0
         try clear c10
         try clear c10b0
         try clear p10
         try clear q10
         try clear hx10
         try clear c11
         try clear c11b0
         try clear p11
         try clear q11
         try clear hx11
         try clear hx109_0
         try clear hx109_1
         try clear hx109_2
         try clear hx110_0
         try clear hx110_1
         try clear hx110_2
         try clear hx111_0
         try clear hx111_1
         try clear hx111_2
         try clear hx112_0
         try clear hx112_1
         try clear hx112_2
         try clear p109
         try clear p110
         try clear p111
         try clear p112
         try clear p2
         try clear q109
         try clear q110
         try clear q111
         try clear q112
         obtain ⟨kq,x49_7,rfl,HA,HJ7,⟨mc7,rfl⟩⟩:=hcut;cases kq with
         |zero=>exact absurd HA.out (by simp [drovewayref09_Ties.j2])
         |succ kj7 =>
          have H:=HA.out;clear HA;simp only [drovewayref09_Ties.j2] at H
          by_cases c12:x49_7=true
          ·subst c12
           have H1:(some 2)=some r:=by rw [if_pos rfl] at H;exact H
           clear H;have H:=H1;clear H1;obtain rfl:=zSi H;go_wp2
           repeat (go_quiet (fail);try go_wp2)
           go_ret
           exact ⟨by rfl,by repeat (first|exact Drawn0.refl _|apply Drawn0.step)⟩
          ·replace c12:=Bool.eq_false_iff.mpr c12
           subst c12;have H1:(drovewayref09_Ties.l1 kj7 a0 l1 x5_2 0)=some r:=by rw [if_neg (show ¬ (false=true) by decide)] at H;exact H
           clear H;have H:=H1;clear H1;have H':=As0.mk H;clear H;go_wp2
           repeat (go_quiet (fail);try go_wp2)
           go_loopg [6] kj7 (fun kq v6 w'=>∃ (x6_4:Int),v6=.int .i64 x6_4∧As0 (drovewayref09_Ties.l1 kq a0 l1 x5_2 x6_4=some r)∧As0 (kq≤kj7)∧Drawn0 w w')
           case atStart=>exact ⟨(0),(by rfl),H',⟨zLe _⟩,by repeat (first|exact Drawn0.refl _|apply Drawn0.step)⟩
           case round =>
            clear H'
            try clear c1
            try clear p1
            try clear q1
            try clear hx1
            try clear c2
            try clear p2
            try clear c4
            try clear c4b0
            try clear c5
            try clear c6
            try clear c6b0
            try clear c6b1
            try clear c7
            try clear c7b0
            try clear c9
            try clear c9b0
            try clear c10
            try clear c10b0
            try clear p10
            try clear q10
            try clear hx10
            try clear c11
            try clear c11b0
            try clear p11
            try clear q11
            try clear hx11
            try clear c12
            try clear hx109_0
            try clear hx109_1
            try clear hx109_2
            try clear hx110_0
            try clear hx110_1
            try clear hx110_2
            try clear hx111_0
            try clear hx111_1
            try clear hx111_2
            try clear hx112_0
            try clear hx112_1
            try clear hx112_2
            try clear p1
            try clear p10
            try clear p109
            try clear p11
            try clear p110
            try clear p111
            try clear p112
            try clear p2
            try clear q1
            try clear q10
            try clear q109
            try clear q11
            try clear q110
            try clear q111
            try clear q112
            obtain ⟨x6_4,rfl,HA,HK4,⟨m4,rfl⟩⟩:=hrel;cases gk with
            |zero=>exact absurd HA.out (by simp [drovewayref09_Ties.l1])
            |succ k4 =>
             have H:=HA.out;clear HA;simp only [drovewayref09_Ties.l1] at H
             by_cases c13:x6_4<x5_2
             ·rw [if_pos c13] at H
              have c13b0:decide (x6_4<x5_2)=true:=zDt c13;clear c13
              by_cases c14:0≤x6_4
              ·rw [if_pos c14] at H
               have c14b0:decide (0≤x6_4)=true:=zDt c14;clear c14
               by_cases c15:x6_4<(l1.length:Int)
               ·rw [if_pos c15] at H
                have c15b0:decide (x6_4<(l1.length:Int))=true:=zDt c15;clear c15
                by_cases c16:0≤x5_2
                ·rw [if_pos c16] at H
                 have c16b0:decide (0≤x5_2)=true:=zDt c16;clear c16
                 by_cases c17:x5_2<(l1.length:Int)
                 ·rw [if_pos c17] at H
                  have c17b0:decide (x5_2<(l1.length:Int))=true:=zDt c17;clear c17
                  by_cases c18:((y0c l1 x6_4).f0)=((y0c l1 x5_2).f0)
                  ·rw [if_pos c18] at H
                   have c18b0:(((y0c l1 x6_4).f0) == ((y0c l1 x5_2).f0))=true:=beq_iff_eq.mpr c18;have c18b1:(((y0c l1 x6_4).f0) != ((y0c l1 x5_2).f0))=false:=bne_eq_false_iff_eq.mpr c18;clear c18
                   by_cases c19:((y0c l1 x6_4).f1)=((y0c l1 x5_2).f1)
                   ·rw [if_pos c19] at H
                    have c19b0:(((y0c l1 x6_4).f1) == ((y0c l1 x5_2).f1))=true:=beq_iff_eq.mpr c19;have c19b1:(((y0c l1 x6_4).f1) != ((y0c l1 x5_2).f1))=false:=bne_eq_false_iff_eq.mpr c19;clear c19;obtain rfl:=zSi H;have p113:0≤(x6_4:Int):=zDo (by with_reducible assumption);have q113:x6_4<(l1.length:Int):=zDo (by with_reducible assumption);obtain ⟨ad113,e113,hx113_0,hx113_1,hx113_2⟩:=y20 HR1.out x6_4 p113 q113;cases e113
                    replace p113:=eq_true p113;replace q113:=eq_true q113;have p114:0≤(x5_2:Int):=zDo (by with_reducible assumption);have q114:x5_2<(l1.length:Int):=zDo (by with_reducible assumption);obtain ⟨ad114,e114,hx114_0,hx114_1,hx114_2⟩:=y20 HR1.out x5_2 p114 q114;obtain rfl:ad113=ad114:=(by injection e114)
                    replace p114:=eq_true p114;replace q114:=eq_true q114;have p115:0≤(x6_4:Int):=zDo (by with_reducible assumption);have q115:x6_4<(l1.length:Int):=zDo (by with_reducible assumption);obtain ⟨ad115,e115,hx115_0,hx115_1,hx115_2⟩:=y20 HR1.out x6_4 p115 q115;obtain rfl:ad113=ad115:=(by injection e115)
                    replace p115:=eq_true p115;replace q115:=eq_true q115;have p116:0≤(x5_2:Int):=zDo (by with_reducible assumption);have q116:x5_2<(l1.length:Int):=zDo (by with_reducible assumption);obtain ⟨ad116,e116,hx116_0,hx116_1,hx116_2⟩:=y20 HR1.out x5_2 p116 q116;obtain rfl:ad113=ad116:=(by injection e116)
                    replace p116:=eq_true p116;replace q116:=eq_true q116;go_wp2
                    repeat (go_quiet (fail);try go_wp2)
                    go_ret
                    exact ⟨by rfl,by repeat (first|exact Drawn0.refl _|apply Drawn0.step)⟩
                   ·rw [if_neg c19] at H
                    have c19b0:(((y0c l1 x6_4).f1) == ((y0c l1 x5_2).f1))=false:=beq_eq_false_iff_ne.mpr c19;have c19b1:(((y0c l1 x6_4).f1) != ((y0c l1 x5_2).f1))=true:=bne_iff_ne.mpr c19;have H':=As0.mk H;clear H;have p113:0≤(x6_4:Int):=zDo (by with_reducible assumption);have q113:x6_4<(l1.length:Int):=zDo (by with_reducible assumption);obtain ⟨ad113,e113,hx113_0,hx113_1,hx113_2⟩:=y20 HR1.out x6_4 p113 q113;cases e113
                    replace p113:=eq_true p113;replace q113:=eq_true q113;have p114:0≤(x5_2:Int):=zDo (by with_reducible assumption);have q114:x5_2<(l1.length:Int):=zDo (by with_reducible assumption);obtain ⟨ad114,e114,hx114_0,hx114_1,hx114_2⟩:=y20 HR1.out x5_2 p114 q114;obtain rfl:ad113=ad114:=(by injection e114)
                    replace p114:=eq_true p114;replace q114:=eq_true q114;have p115:0≤(x6_4:Int):=zDo (by with_reducible assumption);have q115:x6_4<(l1.length:Int):=zDo (by with_reducible assumption);obtain ⟨ad115,e115,hx115_0,hx115_1,hx115_2⟩:=y20 HR1.out x6_4 p115 q115;obtain rfl:ad113=ad115:=(by injection e115)
                    replace p115:=eq_true p115;replace q115:=eq_true q115;have p116:0≤(x5_2:Int):=zDo (by with_reducible assumption);have q116:x5_2<(l1.length:Int):=zDo (by with_reducible assumption);obtain ⟨ad116,e116,hx116_0,hx116_1,hx116_2⟩:=y20 HR1.out x5_2 p116 q116;obtain rfl:ad113=ad116:=(by injection e116)
                    replace p116:=eq_true p116;replace q116:=eq_true q116;go_wp2
                    repeat (go_quiet (fail);try go_wp2)
                    go_roundg k4
                    case measure=>have:=HJ2.out;have:=HK2.out;have:=HJ7.out;have:=HK4.out;omega
                    case rel=>exact ⟨(wrap64 (x6_4+1)),(by rfl),H',⟨by have:=HJ2.out;have:=HK2.out;have:=HJ7.out;have:=HK4.out;omega⟩,by repeat (first|exact Drawn0.refl _|apply Drawn0.step)⟩
                  ·rw [if_neg c18] at H
                   have c18b0:(((y0c l1 x6_4).f0) == ((y0c l1 x5_2).f0))=false:=beq_eq_false_iff_ne.mpr c18;have c18b1:(((y0c l1 x6_4).f0) != ((y0c l1 x5_2).f0))=true:=bne_iff_ne.mpr c18;have H':=As0.mk H;clear H;have p113:0≤(x6_4:Int):=zDo (by with_reducible assumption);have q113:x6_4<(l1.length:Int):=zDo (by with_reducible assumption);obtain ⟨ad113,e113,hx113_0,hx113_1,hx113_2⟩:=y20 HR1.out x6_4 p113 q113;cases e113
                   replace p113:=eq_true p113;replace q113:=eq_true q113;have p114:0≤(x5_2:Int):=zDo (by with_reducible assumption);have q114:x5_2<(l1.length:Int):=zDo (by with_reducible assumption);obtain ⟨ad114,e114,hx114_0,hx114_1,hx114_2⟩:=y20 HR1.out x5_2 p114 q114;obtain rfl:ad113=ad114:=(by injection e114)
                   replace p114:=eq_true p114;replace q114:=eq_true q114;go_wp2
                   repeat (go_quiet (fail);try go_wp2)
                   go_roundg k4
                   case measure=>have:=HJ2.out;have:=HK2.out;have:=HJ7.out;have:=HK4.out;omega
                   case rel=>exact ⟨(wrap64 (x6_4+1)),(by rfl),H',⟨by have:=HJ2.out;have:=HK2.out;have:=HJ7.out;have:=HK4.out;omega⟩,by repeat (first|exact Drawn0.refl _|apply Drawn0.step)⟩
                 ·rw [if_neg c17] at H
                  exact absurd H (by simp)
                ·rw [if_neg c16] at H
                 exact absurd H (by simp)
               ·rw [if_neg c15] at H
                exact absurd H (by simp)
              ·rw [if_neg c14] at H
               exact absurd H (by simp)
             ·rw [if_neg c13] at H
              have c13b0:decide (x6_4<x5_2)=false:=zDf c13;clear c13;have H':=As0.mk H;clear H;go_wp2
              repeat (go_quiet (fail);try go_wp2)
              go_roundg k4
              case measure=>have:=HJ2.out;have:=HK2.out;have:=HJ7.out;have:=HK4.out;omega
              case rel=>exact ⟨(wrap64 (x5_2+1)),(by rfl),H',⟨by have:=HJ2.out;have:=HK2.out;have:=HJ7.out;have:=HK4.out;omega⟩,by repeat (first|exact Drawn0.refl _|apply Drawn0.step)⟩
       ·rw [if_neg c7] at H
        have c7b0:decide (x5_2<(l1.length:Int))=false:=zDf c7;clear c7;obtain rfl:=zSi H;go_wp2
        repeat (go_quiet (fail);try go_wp2)
        go_ret
        exact ⟨by rfl,by repeat (first|exact Drawn0.refl _|apply Drawn0.step)⟩
end
section
attribute [local go_sem] y0x y0v y16 y15 y0q y0p y0w y0u
def bits_Len64.j0:Nat->Int->Int->Option (Int)
 |0,_,_=>none
 |k+1,x0,x2=>if x0 ≥ 65536 then (if (x0 / 65536) ≥ 256 then (if 0≤(((x0 / 65536) / 256) % 256) then (if (((x0 / 65536) / 256) % 256)<256 then (some (wrap64 ((wrap64 ((wrap64 (x2+16))+8))+(wrap64 (bt (⟨#[0,1,2,2,3,3,3,3,4,4,4,4,4,4,4,4,5,5,5,5,5,5,5,5,5,5,5,5,5,5,5,5,6,6,6,6,6,6,6,6,6,6,6,6,6,6,6,6,6,6,6,6,6,6,6,6,6,6,6,6,6,6,6,6,7,7,7,7,7,7,7,7,7,7,7,7,7,7,7,7,7,7,7,7,7,7,7,7,7,7,7,7,7,7,7,7,7,7,7,7,7,7,7,7,7,7,7,7,7,7,7,7,7,7,7,7,7,7,7,7,7,7,7,7,7,7,7,7,8,8,8,8,8,8,8,8,8,8,8,8,8,8,8,8,8,8,8,8,8,8,8,8,8,8,8,8,8,8,8,8,8,8,8,8,8,8,8,8,8,8,8,8,8,8,8,8,8,8,8,8,8,8,8,8,8,8,8,8,8,8,8,8,8,8,8,8,8,8,8,8,8,8,8,8,8,8,8,8,8,8,8,8,8,8,8,8,8,8,8,8,8,8,8,8,8,8,8,8,8,8,8,8,8,8,8,8,8,8,8,8,8,8,8,8,8,8,8,8,8,8,8,8,8,8,8,8]⟩:ByteArray) (((x0 / 65536) / 256) % 256)))))) else (none)) else (none)) else (if 0≤((x0 / 65536) % 256) then (if ((x0 / 65536) % 256)<256 then (some (wrap64 ((wrap64 (x2+16))+(wrap64 (bt (⟨#[0,1,2,2,3,3,3,3,4,4,4,4,4,4,4,4,5,5,5,5,5,5,5,5,5,5,5,5,5,5,5,5,6,6,6,6,6,6,6,6,6,6,6,6,6,6,6,6,6,6,6,6,6,6,6,6,6,6,6,6,6,6,6,6,7,7,7,7,7,7,7,7,7,7,7,7,7,7,7,7,7,7,7,7,7,7,7,7,7,7,7,7,7,7,7,7,7,7,7,7,7,7,7,7,7,7,7,7,7,7,7,7,7,7,7,7,7,7,7,7,7,7,7,7,7,7,7,7,8,8,8,8,8,8,8,8,8,8,8,8,8,8,8,8,8,8,8,8,8,8,8,8,8,8,8,8,8,8,8,8,8,8,8,8,8,8,8,8,8,8,8,8,8,8,8,8,8,8,8,8,8,8,8,8,8,8,8,8,8,8,8,8,8,8,8,8,8,8,8,8,8,8,8,8,8,8,8,8,8,8,8,8,8,8,8,8,8,8,8,8,8,8,8,8,8,8,8,8,8,8,8,8,8,8,8,8,8,8,8,8,8,8,8,8,8,8,8,8,8,8,8,8,8,8,8,8]⟩:ByteArray) ((x0 / 65536) % 256)))))) else (none)) else (none))) else (if x0 ≥ 256 then (if 0≤((x0 / 256) % 256) then (if ((x0 / 256) % 256)<256 then (some (wrap64 ((wrap64 (x2+8))+(wrap64 (bt (⟨#[0,1,2,2,3,3,3,3,4,4,4,4,4,4,4,4,5,5,5,5,5,5,5,5,5,5,5,5,5,5,5,5,6,6,6,6,6,6,6,6,6,6,6,6,6,6,6,6,6,6,6,6,6,6,6,6,6,6,6,6,6,6,6,6,7,7,7,7,7,7,7,7,7,7,7,7,7,7,7,7,7,7,7,7,7,7,7,7,7,7,7,7,7,7,7,7,7,7,7,7,7,7,7,7,7,7,7,7,7,7,7,7,7,7,7,7,7,7,7,7,7,7,7,7,7,7,7,7,8,8,8,8,8,8,8,8,8,8,8,8,8,8,8,8,8,8,8,8,8,8,8,8,8,8,8,8,8,8,8,8,8,8,8,8,8,8,8,8,8,8,8,8,8,8,8,8,8,8,8,8,8,8,8,8,8,8,8,8,8,8,8,8,8,8,8,8,8,8,8,8,8,8,8,8,8,8,8,8,8,8,8,8,8,8,8,8,8,8,8,8,8,8,8,8,8,8,8,8,8,8,8,8,8,8,8,8,8,8,8,8,8,8,8,8,8,8,8,8,8,8,8,8,8,8,8,8]⟩:ByteArray) ((x0 / 256) % 256)))))) else (none)) else (none)) else (if 0≤((x0) % 256) then (if ((x0) % 256)<256 then (some (wrap64 (x2+(wrap64 (bt (⟨#[0,1,2,2,3,3,3,3,4,4,4,4,4,4,4,4,5,5,5,5,5,5,5,5,5,5,5,5,5,5,5,5,6,6,6,6,6,6,6,6,6,6,6,6,6,6,6,6,6,6,6,6,6,6,6,6,6,6,6,6,6,6,6,6,7,7,7,7,7,7,7,7,7,7,7,7,7,7,7,7,7,7,7,7,7,7,7,7,7,7,7,7,7,7,7,7,7,7,7,7,7,7,7,7,7,7,7,7,7,7,7,7,7,7,7,7,7,7,7,7,7,7,7,7,7,7,7,7,8,8,8,8,8,8,8,8,8,8,8,8,8,8,8,8,8,8,8,8,8,8,8,8,8,8,8,8,8,8,8,8,8,8,8,8,8,8,8,8,8,8,8,8,8,8,8,8,8,8,8,8,8,8,8,8,8,8,8,8,8,8,8,8,8,8,8,8,8,8,8,8,8,8,8,8,8,8,8,8,8,8,8,8,8,8,8,8,8,8,8,8,8,8,8,8,8,8,8,8,8,8,8,8,8,8,8,8,8,8,8,8,8,8,8,8,8,8,8,8,8,8,8,8,8,8,8,8]⟩:ByteArray) ((x0) % 256)))))) else (none)) else (none)))
def y2p (l:List S28):List (Int × Int):=l.map fun p=>(p.f0,p.f1)
def OkTies (n:Int) (l:List S28):Prop:=(1≤n∧n≤8∧l.length≤20)∧(∀ p ∈ l,p.f2=false∧0≤p.f0∧p.f0<p.f1∧p.f1<n)∧(y2p l).Nodup
instance (n:Int) (l:List S28):Decidable (OkTies n l):=by unfold OkTies;infer_instance
theorem OkTies.ties {n:Int} {l:List S28} (h:OkTies n l):Gr.TiesOK n (y2p l):=by
 refine ⟨h.1.1,h.1.2.1,by unfold y2p;rw [List.length_map];exact h.1.2.2,fun p hp=>?_,h.2.2⟩;obtain ⟨q,hq,rfl⟩:=List.mem_map.1 hp;exact (h.2.1 q hq).2
theorem yfz {w:World} {A:Option Addr} {l:List S28} (h:Kd.C k28 w A l.length l) (hf:∀ p ∈ l,p.f2=false):Gr.Reads3 w A (y2p l):=by
 intro hn;unfold y2p at hn;rw [List.length_map] at hn;obtain ⟨ad,hA,hc⟩:=h.2.2 hn;refine ⟨ad,hA,fun j p hj=>?_⟩;unfold y2p at hj;rw [List.getElem?_map] at hj;obtain ⟨q,hq,rfl⟩:=Option.map_eq_some_iff.1 hj;obtain ⟨c,hs,hr,hcell⟩:=hc j q hq;obtain rfl:=yd1 hr;have e:k28.sz=3:=rfl;rw [e] at hcell;have e2:=hcell 2 _ rfl;rw [hf q (List.mem_of_getElem? hq)] at e2;exact ⟨hcell 0 _ rfl,hcell 1 _ rfl,e2⟩
def feuds_Clans.f (k:Nat) (a0:Int) (l1:List S28):Option (List Int × Int):=if OkTies a0 l1 then some (Gr.clansL (y2p l1) a0.toNat,0) else none
theorem feuds_Clans.mono:∀ a0 l1 k,LeO (feuds_Clans.f k a0 l1) (feuds_Clans.f (k+1) a0 l1):=fun _ _ _=>LeO.refl _
theorem feuds_Clans.calls (k:Nat) (a0:Int) (A1:Option Addr) (c1:Nat) (l1:List S28) (r1:List Int) (r2:Int) (w:World) (hr1:Kd.C k28 w A1 l1.length l1) (hc1:l1.length≤c1) (h:feuds_Clans.f k a0 l1=some (r1,r2)) :
  Calls Tra.prog 6 #[.int .i64 a0,.slice A1 l1.length c1] w fun e w'=>∃ v0_:Value,e=.returned (.tuple #[v0_,.int .i64 r2])∧Kd.R (Kd.int .i64) 3 w' w.heap.size (fun _=>True) v0_ r1∧Below w.heap.size w w':=by
 unfold feuds_Clans.f at h;split at h
 ·rename_i hL
  injection h with h
  injection h with h1 h2
  subst h1 h2;obtain ⟨N,rfl⟩:∃ N:Nat,a0=(N:Int):=⟨a0.toNat,by have:=hL.1.1;omega⟩
  have hlen:(y2p l1).length=l1.length:=by unfold y2p;rw [List.length_map]
  have:=Gr.clans_calls N A1 c1 (y2p l1) w (yfz hr1 (fun p hp=>(hL.2.1 p hp).1)) hL.ties;rw [hlen] at this;exact this
 ·cases h
mutual
def brands_Count.j0:Nat->Int->Bool->Option (Int × Int)
 |0,_,_=>none
 |k+1,x0,x12=>if x12=true then (some (0,2)) else (brands_Count.l0 k x0 (([1]:List Int)))
def brands_Count.l0:Nat->Int->List Int->Option (Int × Int)
 |0,_,_=>none
 |k+1,x0,x4=>if (x4.length:Int)<(wrap64 (x0 - 1)) then (brands_Count.l1 k x0 x4 0 (x4.length:Int) 0) else (if 0≤(wrap64 (x0 - 2)) then (if (wrap64 (x0 - 2))<(x4.length:Int) then (some (rd x4 (wrap64 (x0 - 2)),0)) else (none)) else (none))
def brands_Count.l1:Nat->Int->List Int->Int->Int->Int->Option (Int × Int)
 |0,_,_,_,_,_=>none
 |k+1,x0,x4,x5,x20,x21=>if x21<x20 then (if 0≤x21 then (if x21<(x4.length:Int) then (if 0≤(wrap64 ((wrap64 ((x4.length:Int) - 1)) - x21)) then (if (wrap64 ((wrap64 ((x4.length:Int) - 1)) - x21))<(x4.length:Int) then (brands_Count.l1 k x0 x4 (wrap64 (x5+(wrap64 ((rd x4 x21) * (rd x4 (wrap64 ((wrap64 ((x4.length:Int) - 1)) - x21))))))) x20 (wrap64 (x21+1))) else (none)) else (none)) else (none)) else (none)) else (if x4.length<17592186044416 then (brands_Count.l0 k x0 (x4 ++ [x5])) else (none))
end
def brands_Count.f (k:Nat) (a0:Int):Option (Int × Int):=if a0<3 then (brands_Count.j0 k a0 true) else (brands_Count.j0 k a0 (decide (a0 > 12)))
theorem brands_Count.mono_l:∀ k,(∀ y0 y1,LeO (brands_Count.j0 k y0 y1) (brands_Count.j0 (k+1) y0 y1))∧(∀ y0 y1,LeO (brands_Count.l0 k y0 y1) (brands_Count.l0 (k+1) y0 y1))∧(∀ y0 y1 y2 y3 y4,LeO (brands_Count.l1 k y0 y1 y2 y3 y4) (brands_Count.l1 (k+1) y0 y1 y2 y3 y4))
 |0=>⟨fun _ _ r h=>by simp [brands_Count.j0] at h,fun _ _ r h=>by simp [brands_Count.l0] at h,fun _ _ _ _ _ r h=>by simp [brands_Count.l1] at h⟩
 |k+1=>by
  obtain ⟨ih0,ih1,ih2⟩:=brands_Count.mono_l k;refine ⟨?_,?_,?_⟩
  ·intro y0 y1
   unfold brands_Count.j0
   repeat' first
   |(with_reducible exact ih0 _ _)
   |(with_reducible exact ih1 _ _)
   |(with_reducible exact ih2 _ _ _ _ _)
   |(with_reducible exact LeO.refl _)
   |(with_reducible exact LeO.none _)
   |(with_reducible refine LeO.ite ?_ ?_)
   |(with_reducible refine LeO.bind ?_ (fun _=>?_))
   |exact ih0 _ _
   |exact ih1 _ _
   |exact ih2 _ _ _ _ _
   |exact LeO.none _
   |refine LeO.ite ?_ ?_
   |refine LeO.bind ?_ (fun _=>?_)
  ·intro y0 y1
   unfold brands_Count.l0
   repeat' first
   |(with_reducible exact ih0 _ _)
   |(with_reducible exact ih1 _ _)
   |(with_reducible exact ih2 _ _ _ _ _)
   |(with_reducible exact LeO.refl _)
   |(with_reducible exact LeO.none _)
   |(with_reducible refine LeO.ite ?_ ?_)
   |(with_reducible refine LeO.bind ?_ (fun _=>?_))
   |exact ih0 _ _
   |exact ih1 _ _
   |exact ih2 _ _ _ _ _
   |exact LeO.none _
   |refine LeO.ite ?_ ?_
   |refine LeO.bind ?_ (fun _=>?_)
  ·intro y0 y1 y2 y3 y4
   unfold brands_Count.l1
   repeat' first
   |(with_reducible exact ih0 _ _)
   |(with_reducible exact ih1 _ _)
   |(with_reducible exact ih2 _ _ _ _ _)
   |(with_reducible exact LeO.refl _)
   |(with_reducible exact LeO.none _)
   |(with_reducible refine LeO.ite ?_ ?_)
   |(with_reducible refine LeO.bind ?_ (fun _=>?_))
   |exact ih0 _ _
   |exact ih1 _ _
   |exact ih2 _ _ _ _ _
   |exact LeO.none _
   |refine LeO.ite ?_ ?_
   |refine LeO.bind ?_ (fun _=>?_)
theorem brands_Count.mono:∀ a0 k,LeO (brands_Count.f k a0) (brands_Count.f (k+1) a0):=by
 intro a0 k;obtain ⟨ih0,ih1,ih2⟩:=brands_Count.mono_l k;unfold brands_Count.f
 repeat' first
   |(with_reducible exact ih0 _ _)
   |(with_reducible exact ih1 _ _)
   |(with_reducible exact ih2 _ _ _ _ _)
   |(with_reducible exact LeO.refl _)
   |(with_reducible exact LeO.none _)
   |(with_reducible refine LeO.ite ?_ ?_)
   |(with_reducible refine LeO.bind ?_ (fun _=>?_))
   |exact ih0 _ _
   |exact ih1 _ _
   |exact ih2 _ _ _ _ _
   |exact LeO.none _
   |refine LeO.ite ?_ ?_
   |refine LeO.bind ?_ (fun _=>?_)
theorem brands_Count.calls (k:Nat) (a0:Int) (r1:Int) (r2:Int) (w:World) (h:brands_Count.f k a0=some (r1,r2)) :
  Calls Tra.prog 10 #[.int .i64 a0] w fun e w'=>e=.returned (.tuple #[.int .i64 r1,.int .i64 r2])∧Below w.heap.size w w':=by
 have HB:=As0.mk (Below.refl w.heap.size w);have H:(if a0<3 then (brands_Count.j0 k a0 true) else (brands_Count.j0 k a0 (decide (a0 > 12))))=some (r1,r2):=h;clear h;have HC2:=As0.mk H;clear H;go_enter Tra.func10,Tra.ntmps10
 go_upto_region 1 with (fail)
 repeat (go_quiet (fail);go_upto_region 1 with (fail))
 go_cut [12] (fun v12 wc=>∃ (kq:Nat) (x12_1:Bool),v12=.bool x12_1∧As0 (brands_Count.j0 kq a0 x12_1=some (r1,r2))∧As0 (kq≤k)∧As0 (Below w.heap.size w wc))
 case first =>
  have H:=HC2.out;clear HC2
  by_cases c3:a0<3
  ·rw [if_pos c3] at H
   have c3b0:decide (a0<3)=true:=zDt c3;clear c3
   (skip)
   have H':=As0.mk H;clear H;go_wp2
   repeat (go_quiet (fail);try go_wp2)
   go_meet
   case rel=>exact ⟨_,(true),(by rfl),H',⟨by omega⟩,⟨by repeat (with_reducible exact HB.out)⟩⟩
  ·rw [if_neg c3] at H
   have c3b0:decide (a0<3)=false:=zDf c3;clear c3
   (skip)
   have H':=As0.mk H;clear H;go_wp2
   repeat (go_quiet (fail);try go_wp2)
   go_meet
   case rel=>exact ⟨_,(decide (a0 > 12)),(by rfl),H',⟨by omega⟩,⟨by repeat (with_reducible exact HB.out)⟩⟩
 case rest =>
  clear HC2
  try clear c1
  try clear p2
  try clear c3
  try clear c3b0
  obtain ⟨kq,x12_1,rfl,HA,HJ1,HB⟩:=hcut;cases kq with
  |zero=>exact absurd HA.out (by simp [brands_Count.j0])
  |succ kj1 =>
   have H:=HA.out;clear HA;simp only [brands_Count.j0] at H
   by_cases c4:x12_1=true
   ·subst c4
    have H1:(some (0,2))=some (r1,r2):=by rw [if_pos rfl] at H;exact H
    clear H;have H:=H1;clear H1;simp only [Option.some.injEq,Prod.mk.injEq] at H;obtain ⟨rfl,rfl⟩:=H;go_wp2
    repeat (go_quiet (fail);try go_wp2)
    go_ret2
    exact ⟨by rfl,by repeat (with_reducible exact HB.out)⟩
   ·replace c4:=Bool.eq_false_iff.mpr c4
    subst c4;have H1:(brands_Count.l0 kj1 a0 (([1]:List Int)))=some (r1,r2):=by rw [if_neg (show ¬ (false=true) by decide)] at H;exact H
    clear H;have H:=H1;clear H1;obtain ⟨y148,hy148⟩:∃ y_:List Int,y_=(([1]:List Int)):=⟨_,rfl⟩
    replace H:(brands_Count.l0 kj1 a0 y148)=some (r1,r2):=by (rw [hy148];with_reducible exact H)
    have Ny148:=As0.mk hy148;clear hy148;have H':=As0.mk H;clear H;go_wp2_with (((with_reducible refine y0s (N:=13) rfl ?_);refine Kd.R_lit (Kd.int .i64) _ 3 ?hg (N:=13) ?hd (xs:=([1]:List Int)) (inner:=[.int .i64 1]) (ok:=fun _=>True) (okp:=fun _=>True) ?hr ?hp (fun _ hk=>hk) trivial (Below.refl _ _) (zLe _) (by simp) ?_;(case hd=>rfl);(case hg=>rfl);(case hr=>(go_simp;done));(case hp=>exact (Reps.one (show Kd.M (Kd.int .i64) _ _ _ 1 [.int .i64 1] from rfl) (Reps.none _ _)));intro v149 w5 ho6 hb hg_ hnew_;clear hg_ hnew_;(rw [← Ny148.out] at ho6);have n0_:=As0.mk (Kd.R_lower ho6 (y05 (by repeat (with_reducible exact HB.out))));have n1_:=As0.mk (y04 (by repeat (with_reducible exact HB.out)) hb);clear HB;have HO150:=n0_;have HB:=n1_;clear n0_ n1_;clear hb ho6))
    repeat (go_quiet (first|((with_reducible refine y0s (N:=13) rfl ?_);refine Kd.R_lit (Kd.int .i64) _ 3 ?hg (N:=13) ?hd (xs:=([1]:List Int)) (inner:=[.int .i64 1]) (ok:=fun _=>True) (okp:=fun _=>True) ?hr ?hp (fun _ hk=>hk) trivial (Below.refl _ _) (zLe _) (by simp) ?_;(case hd=>rfl);(case hg=>rfl);(case hr=>first|(go_simp;done)|(go_simp;rfl));(case hp=>exact (Reps.one (show Kd.M (Kd.int .i64) _ _ _ 1 [.int .i64 1] from rfl) (Reps.none _ _)));intro v149 w5 ho6 hb hg_ hnew_;clear hg_ hnew_;(first|rw [← Ny148.out] at ho6|(simp only [Int.reduceToNat] at ho6;rw [← Ny148.out] at ho6));have n0_:=As0.mk (Kd.R_lower ho6 (y05 (by repeat (with_reducible first|exact HB.out|apply y01|apply y00|apply y02))));have n1_:=As0.mk (y04 (by repeat (with_reducible first|exact HB.out|apply y01|apply y00|apply y02)) hb);clear HB;have HO150:=n0_;have HB:=n1_;clear n0_ n1_;clear hb ho6));try go_wp2_with (first|((with_reducible refine y0s (N:=13) rfl ?_);refine Kd.R_lit (Kd.int .i64) _ 3 ?hg (N:=13) ?hd (xs:=([1]:List Int)) (inner:=[.int .i64 1]) (ok:=fun _=>True) (okp:=fun _=>True) ?hr ?hp (fun _ hk=>hk) trivial (Below.refl _ _) (zLe _) (by simp) ?_;(case hd=>rfl);(case hg=>rfl);(case hr=>first|(go_simp;done)|(go_simp;rfl));(case hp=>exact (Reps.one (show Kd.M (Kd.int .i64) _ _ _ 1 [.int .i64 1] from rfl) (Reps.none _ _)));intro v149 w5 ho6 hb hg_ hnew_;clear hg_ hnew_;(first|rw [← Ny148.out] at ho6|(simp only [Int.reduceToNat] at ho6;rw [← Ny148.out] at ho6));have n0_:=As0.mk (Kd.R_lower ho6 (y05 (by repeat (with_reducible first|exact HB.out|apply y01|apply y00|apply y02))));have n1_:=As0.mk (y04 (by repeat (with_reducible first|exact HB.out|apply y01|apply y00|apply y02)) hb);clear HB;have HO150:=n0_;have HB:=n1_;clear n0_ n1_;clear hb ho6)))
    go_loopg [4] kj1 (fun kq v4 w'=>∃ (x4_2:List Int),As0 (brands_Count.l0 kq a0 x4_2=some (r1,r2))∧As0 (kq≤kj1)∧As0 (Kd.R (Kd.int .i64) 3 w' w.heap.size (fun _=>True) v4 x4_2)∧As0 (Below w.heap.size w w'))
    case atStart=>exact ⟨(y148),H',⟨zLe _⟩,⟨by (with_reducible repeat (first|apply Kd.R_alloc|apply Kd.R_drewN|apply Kd.R_drew));exact HO150.out⟩,⟨by repeat (with_reducible exact HB.out)⟩⟩
    case round =>
     clear H'
     try clear c1
     try clear p2
     try clear c3
     try clear c3b0
     try clear c4
     try clear p2
     obtain ⟨x4_2,HA,HK2,HO_4,HB⟩:=hrel;cases gk with
     |zero=>exact absurd HA.out (by simp [brands_Count.l0])
     |succ k2 =>
      have H:=HA.out;clear HA;simp only [brands_Count.l0] at H
      by_cases c7:(x4_2.length:Int)<(wrap64 (a0 - 1))
      ·rw [if_pos c7] at H
       have c7b0:decide ((x4_2.length:Int)<(wrap64 (a0 - 1)))=true:=zDt c7;clear c7;have H':=As0.mk H;clear H;obtain ⟨Ao8,co8,eo8⟩:=Kd.R_slice HO_4.out;subst eo8;go_wp2
       repeat (go_quiet (fail);try go_wp2)
       go_loopg [5,21] k2 (fun kq v5 v21 w'=>∃ (x5_3:Int) (x21_3:Int),v5=.int .i64 x5_3∧v21=.int .i64 x21_3∧As0 (brands_Count.l1 kq a0 x4_2 x5_3 (x4_2.length:Int) x21_3=some (r1,r2))∧As0 (kq≤k2)∧As0 (Kd.R (Kd.int .i64) 3 w' w.heap.size (fun _=>True) (.slice Ao8 x4_2.length co8) x4_2)∧As0 (Below w.heap.size w w'))
       case atStart=>exact ⟨(0),(0),(by rfl),(by rfl),H',⟨zLe _⟩,⟨by (with_reducible repeat (first|apply Kd.R_alloc|apply Kd.R_drewN|apply Kd.R_drew));exact HO_4.out⟩,⟨by repeat (with_reducible exact HB.out)⟩⟩
       case round =>
        clear H'
        try clear c1
        try clear p2
        try clear c3
        try clear c3b0
        try clear c4
        try clear p6
        try clear c7
        try clear c7b0
        try clear p2
        obtain ⟨x5_3,x21_3,rfl,rfl,HA,HK3,HO_4,HB⟩:=hrel;cases gk with
        |zero=>exact absurd HA.out (by simp [brands_Count.l1])
        |succ k3 =>
         have H:=HA.out;clear HA;simp only [brands_Count.l1] at H
         by_cases c9:x21_3<(x4_2.length:Int)
         ·rw [if_pos c9] at H
          have c9b0:decide (x21_3<(x4_2.length:Int))=true:=zDt c9;clear c9
          by_cases c10:0≤x21_3
          ·rw [if_pos c10] at H
           have c10b0:decide (0≤x21_3)=true:=zDt c10;clear c10
           by_cases c11:x21_3<(x4_2.length:Int)
           ·rw [if_pos c11] at H
            have c11b0:decide (x21_3<(x4_2.length:Int))=true:=zDt c11;clear c11;obtain ⟨ji12,hji12⟩:∃ j_:Int,(wrap64 ((wrap64 ((x4_2.length:Int) - 1)) - x21_3))=j_:=⟨_,rfl⟩
            replace H:(if 0≤(ji12) then (if (ji12)<(x4_2.length:Int) then (brands_Count.l1 k3 a0 x4_2 (wrap64 (x5_3+(wrap64 ((rd x4_2 x21_3) * (rd x4_2 (ji12)))))) (x4_2.length:Int) (wrap64 (x21_3+1))) else (none)) else (none))=some (r1,r2):=by (rw [hji12] at H;exact H)
            have hji12w:(IntKind.i64.wrap ((wrap64 ((x4_2.length:Int) - 1)) - x21_3))=ji12:=(y0a _).trans hji12
            by_cases c13:0≤(ji12)
            ·rw [if_pos c13] at H
             have c13b0:decide (0≤(ji12))=true:=zDt c13;clear c13
             by_cases c14:(ji12)<(x4_2.length:Int)
             ·rw [if_pos c14] at H
              have c14b0:decide ((ji12)<(x4_2.length:Int))=true:=zDt c14;clear c14;have H':=As0.mk H;clear H;have p152:0≤(x21_3:Int):=zDo (by with_reducible assumption);have q152:x21_3<(x4_2.length:Int):=zDo (by with_reducible assumption);obtain ⟨ad152,e152,hx152_0⟩:=Kd.at_int (Kd.R_reads' HO_4.out).2.2 x21_3 p152 q152;cases e152
              replace p152:=eq_true p152;replace q152:=eq_true q152;have p153:0≤((ji12):Int):=zDo (by with_reducible assumption);have q153:(ji12)<(x4_2.length:Int):=zDo (by with_reducible assumption);obtain ⟨ad153,e153,hx153_0⟩:=Kd.at_int (Kd.R_reads' HO_4.out).2.2 (ji12) p153 q153;obtain rfl:ad152=ad153:=(by injection e153)
              replace p153:=eq_true p153;replace q153:=eq_true q153;go_wp2
              repeat (go_quiet (fail);try go_wp2)
              go_roundg k3
              case measure=>have:=HJ1.out;have:=HK2.out;have:=HK3.out;omega
              case rel=>exact ⟨(wrap64 (x5_3+(wrap64 ((rd x4_2 x21_3) * (rd x4_2 (ji12)))))),(wrap64 (x21_3+1)),(by rfl),(by rfl),H',⟨by have:=HJ1.out;have:=HK2.out;have:=HK3.out;omega⟩,⟨by (with_reducible repeat (apply Kd.R_drewN));exact HO_4.out⟩,⟨by repeat (with_reducible first|exact HB.out|apply y00)⟩⟩
             ·rw [if_neg c14] at H
              exact absurd H (by simp)
            ·rw [if_neg c13] at H
             exact absurd H (by simp)
           ·rw [if_neg c11] at H
            exact absurd H (by simp)
          ·rw [if_neg c10] at H
           exact absurd H (by simp)
         ·rw [if_neg c9] at H
          have c9b0:decide (x21_3<(x4_2.length:Int))=false:=zDf c9;clear c9
          by_cases c15:x4_2.length<17592186044416
          ·rw [if_pos c15] at H
           have LMc15:=As0.mk c15;clear c15;obtain ⟨y154,hy154⟩:∃ y_:List Int,y_=(x4_2 ++ [x5_3]):=⟨_,rfl⟩
           replace H:(brands_Count.l0 k3 a0 y154)=some (r1,r2):=by (rw [hy154];with_reducible exact H)
           have Ny154:=As0.mk hy154;clear hy154;have H':=As0.mk H;clear H;go_wp2_with (((with_reducible refine y10 (b:=.append) (xs:=#[.tmp 40,.tmp 42]) rfl ?_);at_builtin;refine Kd.R_append (Kd.int .i64) (w0:=w) w.heap.size rfl (.tmp 40) (.tmp 42) 29 3 (.int .i64 0) 8 rfl Tra.underlying29 info3 rfl (by decide) (by omega) (.slice Ao8 x4_2.length co8) x4_2 x5_3 [.int .i64 x5_3] (fun _=>True) (fun _=>False) rfl rfl ?aP (fun _ hk=>hk.elim) ?aF ?aO ?aB ?aS ?aL ?_;(case aP=>exact rfl);(case aB=>exact (by repeat (with_reducible exact HB.out)));(case aF=>exact (fun _ _=>trivial));(case aO=>exact (by (with_reducible repeat (first|apply Kd.R_alloc|apply Kd.R_drewN|apply Kd.R_drew));exact HO_4.out));(case aS=>exact (y05 (by repeat (with_reducible exact HB.out))));(case aL=>have:=LMc15.out;omega);intro v155 w16 ho hb hg hat;rw [← Ny154.out] at ho;have n0_:=As0.mk (hb);have n1_:=As0.mk (ho);clear HB;clear HO_4;have HB:=n0_;have HO156:=n1_;clear n0_ n1_;clear ho hb hg hat))
           repeat (go_quiet (first|((with_reducible refine y10 (b:=.append) (xs:=#[.tmp 40,.tmp 42]) rfl ?_);at_builtin;refine Kd.R_append (Kd.int .i64) (w0:=w) w.heap.size rfl (.tmp 40) (.tmp 42) 29 3 (.int .i64 0) 8 rfl Tra.underlying29 info3 rfl (by decide) (by omega) (.slice Ao8 x4_2.length co8) x4_2 x5_3 [.int .i64 x5_3] (fun _=>True) (fun _=>False) rfl rfl ?aP (fun _ hk=>hk.elim) ?aF ?aO ?aB ?aS ?aL ?_;(case aP=>exact rfl);(case aB=>exact (by repeat (with_reducible first|exact HB.out|apply y01|apply y00|apply y02)));(case aF=>exact (fun _ _=>trivial));(case aO=>exact (by (with_reducible repeat (first|apply Kd.R_alloc|apply Kd.R_drewN|apply Kd.R_drew));exact HO_4.out));(case aS=>exact (y05 (by repeat (with_reducible first|exact HB.out|apply y01|apply y00|apply y02))));(case aL=>have:=LMc15.out;omega);intro v155 w16 ho hb hg hat;rw [← Ny154.out] at ho;have n0_:=As0.mk (hb);have n1_:=As0.mk (ho);clear HB;clear HO_4;have HB:=n0_;have HO156:=n1_;clear n0_ n1_;clear ho hb hg hat));try go_wp2_with (first|((with_reducible refine y10 (b:=.append) (xs:=#[.tmp 40,.tmp 42]) rfl ?_);at_builtin;refine Kd.R_append (Kd.int .i64) (w0:=w) w.heap.size rfl (.tmp 40) (.tmp 42) 29 3 (.int .i64 0) 8 rfl Tra.underlying29 info3 rfl (by decide) (by omega) (.slice Ao8 x4_2.length co8) x4_2 x5_3 [.int .i64 x5_3] (fun _=>True) (fun _=>False) rfl rfl ?aP (fun _ hk=>hk.elim) ?aF ?aO ?aB ?aS ?aL ?_;(case aP=>exact rfl);(case aB=>exact (by repeat (with_reducible first|exact HB.out|apply y01|apply y00|apply y02)));(case aF=>exact (fun _ _=>trivial));(case aO=>exact (by (with_reducible repeat (first|apply Kd.R_alloc|apply Kd.R_drewN|apply Kd.R_drew));exact HO_4.out));(case aS=>exact (y05 (by repeat (with_reducible first|exact HB.out|apply y01|apply y00|apply y02))));(case aL=>have:=LMc15.out;omega);intro v155 w16 ho hb hg hat;rw [← Ny154.out] at ho;have n0_:=As0.mk (hb);have n1_:=As0.mk (ho);clear HB;clear HO_4;have HB:=n0_;have HO156:=n1_;clear n0_ n1_;clear ho hb hg hat)))
           go_roundg k3
           case measure=>have:=HJ1.out;have:=HK2.out;have:=HK3.out;omega
           case rel=>exact ⟨(y154),H',⟨by have:=HJ1.out;have:=HK2.out;have:=HK3.out;omega⟩,⟨by (with_reducible repeat (first|apply Kd.R_alloc|apply Kd.R_drewN|apply Kd.R_drew));exact HO156.out⟩,⟨by repeat (with_reducible exact HB.out)⟩⟩
          ·rw [if_neg c15] at H
           exact absurd H (by simp)
      ·rw [if_neg c7] at H
       have c7b0:decide ((x4_2.length:Int)<(wrap64 (a0 - 1)))=false:=zDf c7;clear c7;obtain ⟨ji17,hji17⟩:∃ j_:Int,(wrap64 (a0 - 2))=j_:=⟨_,rfl⟩
       replace H:(if 0≤(ji17) then (if (ji17)<(x4_2.length:Int) then (some (rd x4_2 (ji17),0)) else (none)) else (none))=some (r1,r2):=by (rw [hji17] at H;exact H)
       have hji17w:(IntKind.i64.wrap (a0 - 2))=ji17:=(y0a _).trans hji17
       by_cases c18:0≤(ji17)
       ·rw [if_pos c18] at H
        have c18b0:decide (0≤(ji17))=true:=zDt c18;clear c18
        by_cases c19:(ji17)<(x4_2.length:Int)
        ·rw [if_pos c19] at H
         have c19b0:decide ((ji17)<(x4_2.length:Int))=true:=zDt c19;clear c19;simp only [Option.some.injEq,Prod.mk.injEq] at H;obtain ⟨rfl,rfl⟩:=H;obtain ⟨Ao20,co20,eo20⟩:=Kd.R_slice HO_4.out;subst eo20;have p151:0≤((ji17):Int):=zDo (by with_reducible assumption);have q151:(ji17)<(x4_2.length:Int):=zDo (by with_reducible assumption);obtain ⟨ad151,e151,hx151_0⟩:=Kd.at_int (Kd.R_reads' HO_4.out).2.2 (ji17) p151 q151;cases e151
         replace p151:=eq_true p151;replace q151:=eq_true q151;go_wp2
         repeat (go_quiet (fail);try go_wp2)
         go_ret2
         exact ⟨by rfl,by repeat (with_reducible exact HB.out)⟩
        ·rw [if_neg c19] at H
         exact absurd H (by simp)
       ·rw [if_neg c18] at H
        exact absurd H (by simp)
def mobs_counted.f (a0:Int) (a1:Int):Option (Int):=if a0<0 then (some 2) else (if a0 > 12 then (some 2) else (if a1<0 then (some 2) else (if a1 > a0 then (some 2) else (some 0))))
theorem mobs_counted.calls (a0:Int) (a1:Int) (r:Int) (w:World) (h:mobs_counted.f a0 a1=some r) :
  Calls Tra.prog 28 #[.int .i64 a0,.int .i64 a1] w fun e w'=>e=.returned (.int .i64 r)∧Drawn0 w w':=by
 have H:(if a0<0 then (some 2) else (if a0 > 12 then (some 2) else (if a1<0 then (some 2) else (if a1 > a0 then (some 2) else (some 0)))))=some r:=h;clear h
 by_cases c3:a0<0
 ·rw [if_pos c3] at H
  have c3b0:decide (a0<0)=true:=zDt c3;clear c3;obtain rfl:=zSi H;go_enter Tra.func28,Tra.ntmps28
  go_wp2
  go_ret
  exact ⟨by rfl,by repeat (exact Drawn0.refl _)⟩
 ·rw [if_neg c3] at H
  have c3b0:decide (a0<0)=false:=zDf c3;clear c3
  by_cases c4:a0 > 12
  ·rw [if_pos c4] at H
   have c4b0:decide (12<a0)=true:=zDt c4;clear c4;obtain rfl:=zSi H;go_enter Tra.func28,Tra.ntmps28
   go_wp2
   go_ret
   exact ⟨by rfl,by repeat (exact Drawn0.refl _)⟩
  ·rw [if_neg c4] at H
   have c4b0:decide (12<a0)=false:=zDf c4;clear c4
   by_cases c5:a1<0
   ·rw [if_pos c5] at H
    have c5b0:decide (a1<0)=true:=zDt c5;clear c5;obtain rfl:=zSi H;go_enter Tra.func28,Tra.ntmps28
    go_wp2
    go_ret
    exact ⟨by rfl,by repeat (exact Drawn0.refl _)⟩
   ·rw [if_neg c5] at H
    have c5b0:decide (a1<0)=false:=zDf c5;clear c5
    by_cases c6:a1 > a0
    ·rw [if_pos c6] at H
     have c6b0:decide (a0<a1)=true:=zDt c6;clear c6;obtain rfl:=zSi H;go_enter Tra.func28,Tra.ntmps28
     go_wp2
     go_ret
     exact ⟨by rfl,by repeat (exact Drawn0.refl _)⟩
    ·rw [if_neg c6] at H
     have c6b0:decide (a0<a1)=false:=zDf c6;clear c6;obtain rfl:=zSi H;go_enter Tra.func28,Tra.ntmps28
     go_wp2
     go_ret
     exact ⟨by rfl,by repeat (exact Drawn0.refl _)⟩
end
end Go.Proofs.Ytfgcijifdbgpaaa.P
namespace Go.Proofs.Ytfgcijifdbgpaaa.P
open Go.RowKit Go.Proofs.YtfgcijifdbgpaaaW.Wd Go.Proofs.YtfgcijifdbgpaaaW.La Go.Proofs.YtfgcijifdbgpaaaW.Mo
attribute [local go_sem] y0x y0v y16 y15 y0q y0p y0w y0u
mutual
def mobs_choose.j0:Nat->Int->Int->Bool->Option (Int)
 |0,_,_,_=>none
 |k+1,x0,x1,x13=>if x13=true then (some 0) else (mobs_choose.l0 k x0 1 x1 0)
def mobs_choose.l0:Nat->Int->Int->Int->Int->Option (Int)
 |0,_,_,_,_=>none
 |k+1,x0,x5,x14,x15=>if x15<x14 then (if (wrap64 (x15+1))=0 then (none) else (mobs_choose.l0 k x0 (wrap64 (Int.tdiv (wrap64 (x5 * (wrap64 (x0 - x15)))) (wrap64 (x15+1)))) x14 (wrap64 (x15+1)))) else (some x5)
end
def mobs_choose.f (k:Nat) (a0:Int) (a1:Int):Option (Int):=if a1<0 then (mobs_choose.j0 k a0 a1 true) else (mobs_choose.j0 k a0 a1 (decide (a1 > a0)))
theorem mobs_choose.mono_l:∀ k,(∀ y0 y1 y2,LeO (mobs_choose.j0 k y0 y1 y2) (mobs_choose.j0 (k+1) y0 y1 y2))∧(∀ y0 y1 y2 y3,LeO (mobs_choose.l0 k y0 y1 y2 y3) (mobs_choose.l0 (k+1) y0 y1 y2 y3))
 |0=>⟨fun _ _ _ r h=>by simp [mobs_choose.j0] at h,fun _ _ _ _ r h=>by simp [mobs_choose.l0] at h⟩
 |k+1=>by
  obtain ⟨ih0,ih1⟩:=mobs_choose.mono_l k;refine ⟨?_,?_⟩
  ·intro y0 y1 y2
   unfold mobs_choose.j0
   repeat' first
   |(with_reducible exact ih0 _ _ _)
   |(with_reducible exact ih1 _ _ _ _)
   |(with_reducible exact LeO.refl _)
   |(with_reducible exact LeO.none _)
   |(with_reducible refine LeO.ite ?_ ?_)
   |(with_reducible refine LeO.bind ?_ (fun _=>?_))
   |exact ih0 _ _ _
   |exact ih1 _ _ _ _
   |exact LeO.none _
   |refine LeO.ite ?_ ?_
   |refine LeO.bind ?_ (fun _=>?_)
  ·intro y0 y1 y2 y3
   unfold mobs_choose.l0
   repeat' first
   |(with_reducible exact ih0 _ _ _)
   |(with_reducible exact ih1 _ _ _ _)
   |(with_reducible exact LeO.refl _)
   |(with_reducible exact LeO.none _)
   |(with_reducible refine LeO.ite ?_ ?_)
   |(with_reducible refine LeO.bind ?_ (fun _=>?_))
   |exact ih0 _ _ _
   |exact ih1 _ _ _ _
   |exact LeO.none _
   |refine LeO.ite ?_ ?_
   |refine LeO.bind ?_ (fun _=>?_)
theorem mobs_choose.mono:∀ a0 a1 k,LeO (mobs_choose.f k a0 a1) (mobs_choose.f (k+1) a0 a1):=by
 intro a0 a1 k;obtain ⟨ih0,ih1⟩:=mobs_choose.mono_l k;unfold mobs_choose.f
 repeat' first
   |(with_reducible exact ih0 _ _ _)
   |(with_reducible exact ih1 _ _ _ _)
   |(with_reducible exact LeO.refl _)
   |(with_reducible exact LeO.none _)
   |(with_reducible refine LeO.ite ?_ ?_)
   |(with_reducible refine LeO.bind ?_ (fun _=>?_))
   |exact ih0 _ _ _
   |exact ih1 _ _ _ _
   |exact LeO.none _
   |refine LeO.ite ?_ ?_
   |refine LeO.bind ?_ (fun _=>?_)
theorem mobs_choose.calls (k:Nat) (a0:Int) (a1:Int) (r:Int) (w:World) (h:mobs_choose.f k a0 a1=some r) :
  Calls Tra.prog 29 #[.int .i64 a0,.int .i64 a1] w fun e w'=>e=.returned (.int .i64 r)∧Drawn0 w w':=by
 have H:(if a1<0 then (mobs_choose.j0 k a0 a1 true) else (mobs_choose.j0 k a0 a1 (decide (a1 > a0))))=some r:=h;clear h;have HC3:=As0.mk H;clear H;go_enter Tra.func29,Tra.ntmps29
 go_upto_region 1 with (fail)
 go_cut [13] (fun v13 wc=>∃ (kq:Nat) (x13_2:Bool),v13=.bool x13_2∧As0 (mobs_choose.j0 kq a0 a1 x13_2=some r)∧As0 (kq≤k)∧Drawn0 w wc)
 case first =>
  have H:=HC3.out;clear HC3
  by_cases c4:a1<0
  ·rw [if_pos c4] at H
   have c4b0:decide (a1<0)=true:=zDt c4;clear c4
   (skip)
   have H':=As0.mk H;clear H;go_wp2
   go_meet
   case rel=>exact ⟨_,(true),(by rfl),H',⟨by omega⟩,by repeat (exact Drawn0.refl _)⟩
  ·rw [if_neg c4] at H
   have c4b0:decide (a1<0)=false:=zDf c4;clear c4
   (skip)
   have H':=As0.mk H;clear H;go_wp2
   go_meet
   case rel=>exact ⟨_,(decide (a1 > a0)),(by rfl),H',⟨by omega⟩,by repeat (exact Drawn0.refl _)⟩
 case rest =>
  clear HC3
  try clear c2
  try clear p2
  try clear c4
  try clear c4b0
  obtain ⟨kq,x13_2,rfl,HA,HJ2,⟨mc2,rfl⟩⟩:=hcut;cases kq with
  |zero=>exact absurd HA.out (by simp [mobs_choose.j0])
  |succ kj2 =>
   have H:=HA.out;clear HA;simp only [mobs_choose.j0] at H
   by_cases c5:x13_2=true
   ·subst c5
    have H1:(some 0)=some r:=by rw [if_pos rfl] at H;exact H
    clear H;have H:=H1;clear H1;obtain rfl:=zSi H;go_wp2
    go_ret
    exact ⟨by rfl,by repeat (first|exact Drawn0.refl _|apply Drawn0.step)⟩
   ·replace c5:=Bool.eq_false_iff.mpr c5
    subst c5;have H1:(mobs_choose.l0 kj2 a0 1 a1 0)=some r:=by rw [if_neg (show ¬ (false=true) by decide)] at H;exact H
    clear H;have H:=H1;clear H1;have H':=As0.mk H;clear H;go_wp2
    go_loopg [5,15] kj2 (fun kq v5 v15 w'=>∃ (x5_2:Int) (x15_2:Int),v5=.int .i64 x5_2∧v15=.int .i64 x15_2∧As0 (mobs_choose.l0 kq a0 x5_2 a1 x15_2=some r)∧As0 (kq≤kj2)∧Drawn0 w w')
    case atStart=>exact ⟨(1),(0),(by rfl),(by rfl),H',⟨zLe _⟩,by repeat (first|exact Drawn0.refl _|apply Drawn0.step)⟩
    case round =>
     clear H'
     try clear c2
     try clear p2
     try clear c4
     try clear c4b0
     try clear c5
     try clear p2
     obtain ⟨x5_2,x15_2,rfl,rfl,HA,HK2,⟨m2,rfl⟩⟩:=hrel;cases gk with
     |zero=>exact absurd HA.out (by simp [mobs_choose.l0])
     |succ k2 =>
      have H:=HA.out;clear HA;simp only [mobs_choose.l0] at H
      by_cases c6:x15_2<a1
      ·rw [if_pos c6] at H
       have c6b0:decide (x15_2<a1)=true:=zDt c6;clear c6
       by_cases c7:(wrap64 (x15_2+1))=0
       ·rw [if_pos c7] at H
        exact absurd H (by simp)
       ·rw [if_neg c7] at H
        have c7b0:((wrap64 (x15_2+1)) == 0)=false:=beq_eq_false_iff_ne.mpr c7;have c7b1:((wrap64 (x15_2+1)) != 0)=true:=bne_iff_ne.mpr c7;have H':=As0.mk H;clear H;go_wp2
        go_roundg k2
        case measure=>have:=HJ2.out;have:=HK2.out;omega
        case rel=>exact ⟨(wrap64 (Int.tdiv (wrap64 (x5_2 * (wrap64 (a0 - x15_2)))) (wrap64 (x15_2+1)))),(wrap64 (x15_2+1)),(by rfl),(by rfl),H',⟨by have:=HJ2.out;have:=HK2.out;omega⟩,by repeat (first|exact Drawn0.refl _|apply Drawn0.step)⟩
      ·rw [if_neg c6] at H
       have c6b0:decide (x15_2<a1)=false:=zDf c6;clear c6;obtain rfl:=zSi H;go_wp2
       go_ret
       exact ⟨by rfl,by repeat (first|exact Drawn0.refl _|apply Drawn0.step)⟩
def mobs_Plain.f (k:Nat) (a0:Int) (a1:Int):Option (Int × Int):=(mobs_counted.f a0 a1).bind fun t157=>(if t157=0 then (if a0=0 then (some (1,0)) else ((mobs_choose.f k a0 a1).bind fun t158=>((mobs_choose.f k a0 (wrap64 (a1 - 1))).bind fun t159=>(some (wrap64 (Int.tdiv (wrap64 (t158 * t159)) a0),0))))) else (some (0,t157)))
theorem mobs_Plain.mono:∀ a0 a1 k,LeO (mobs_Plain.f k a0 a1) (mobs_Plain.f (k+1) a0 a1):=by
 intro a0 a1 k;unfold mobs_Plain.f
 repeat' first
   |(with_reducible exact mobs_choose.mono _ _ _)
   |(with_reducible exact LeO.refl _)
   |(with_reducible exact LeO.none _)
   |(with_reducible refine LeO.ite ?_ ?_)
   |(with_reducible refine LeO.bind ?_ (fun _=>?_))
   |exact mobs_choose.mono _ _ _
   |exact LeO.none _
   |refine LeO.ite ?_ ?_
   |refine LeO.bind ?_ (fun _=>?_)
theorem mobs_Plain.calls (k:Nat) (a0:Int) (a1:Int) (r1:Int) (r2:Int) (w:World) (h:mobs_Plain.f k a0 a1=some (r1,r2)) :
  Calls Tra.prog 11 #[.int .i64 a0,.int .i64 a1] w fun e w'=>e=.returned (.tuple #[.int .i64 r1,.int .i64 r2])∧Drawn0 w w':=by
 have H:((mobs_counted.f a0 a1).bind fun t157=>(if t157=0 then (if a0=0 then (some (1,0)) else ((mobs_choose.f k a0 a1).bind fun t158=>((mobs_choose.f k a0 (wrap64 (a1 - 1))).bind fun t159=>(some (wrap64 (Int.tdiv (wrap64 (t158 * t159)) a0),0))))) else (some (0,t157))))=some (r1,r2):=h;clear h;replace H:=Option.bind_eq_some_iff.mp H;obtain ⟨t157,A30,H⟩:=H;replace H:(if t157=0 then (if a0=0 then (some (1,0)) else ((mobs_choose.f k a0 a1).bind fun t158=>((mobs_choose.f k a0 (wrap64 (a1 - 1))).bind fun t159=>(some (wrap64 (Int.tdiv (wrap64 (t158 * t159)) a0),0))))) else (some (0,t157)))=some (r1,r2):=H;have A3:=As0.mk A30;clear A30
 by_cases c4:t157=0
 ·rw [if_pos c4] at H
  have c4b0:(t157 == 0)=true:=beq_iff_eq.mpr c4;have c4b1:(t157 != 0)=false:=bne_eq_false_iff_eq.mpr c4;clear c4
  by_cases c5:a0=0
  ·rw [if_pos c5] at H
   have c5b0:(a0 == 0)=true:=beq_iff_eq.mpr c5;have c5b1:(a0 != 0)=false:=bne_eq_false_iff_eq.mpr c5;clear c5;simp only [Option.some.injEq,Prod.mk.injEq] at H;obtain ⟨rfl,rfl⟩:=H;go_enter Tra.func11,Tra.ntmps11
   go_wp2_with (((with_reducible refine y08 (f:=28) rfl ?_);refine y0n (some 9) rfl rfl Tra.func28 (by kernel_rfl) rfl #[.int .i64 a0,.int .i64 a1] rfl (by (try simp only [List.map_toArray,List.map_cons,List.map_nil]);rfl) ?_;(with_reducible refine (mobs_counted.calls a0 a1 t157 _ A3.out).mono ?_);rintro e w' ⟨rfl,⟨nd,rfl⟩⟩;refine ⟨_,rfl,?_⟩))
   go_ret2
   exact ⟨by rfl,by repeat (first|exact Drawn0.refl _|apply Drawn0.step)⟩
  ·rw [if_neg c5] at H
   have c5b0:(a0 == 0)=false:=beq_eq_false_iff_ne.mpr c5;have c5b1:(a0 != 0)=true:=bne_iff_ne.mpr c5;replace H:=Option.bind_eq_some_iff.mp H;obtain ⟨t158,A60,H⟩:=H;replace H:((mobs_choose.f k a0 (wrap64 (a1 - 1))).bind fun t159=>(some (wrap64 (Int.tdiv (wrap64 (t158 * t159)) a0),0)))=some (r1,r2):=H;have A6:=As0.mk A60;clear A60;replace H:=Option.bind_eq_some_iff.mp H;obtain ⟨t159,A70,H⟩:=H;replace H:(some (wrap64 (Int.tdiv (wrap64 (t158 * t159)) a0),0))=some (r1,r2):=H;have A7:=As0.mk A70;clear A70;simp only [Option.some.injEq,Prod.mk.injEq] at H;obtain ⟨rfl,rfl⟩:=H;go_enter Tra.func11,Tra.ntmps11
   go_wp2_with (first|((with_reducible refine y08 (f:=28) rfl ?_);refine y0n (some 9) rfl rfl Tra.func28 (by kernel_rfl) rfl #[.int .i64 a0,.int .i64 a1] rfl (by (try simp only [List.map_toArray,List.map_cons,List.map_nil]);rfl) ?_;(with_reducible refine (mobs_counted.calls a0 a1 t157 _ A3.out).mono ?_);rintro e w' ⟨rfl,⟨nd,rfl⟩⟩;refine ⟨_,rfl,?_⟩)|((with_reducible refine y08 (f:=29) rfl ?_);refine y0n (some 17) rfl rfl Tra.func29 (by kernel_rfl) rfl #[.int .i64 a0,.int .i64 a1] rfl (by (try simp only [List.map_toArray,List.map_cons,List.map_nil]);rfl) ?_;(with_reducible refine (mobs_choose.calls k a0 a1 t158 _ A6.out).mono ?_);rintro e w' ⟨rfl,⟨nd,rfl⟩⟩;refine ⟨_,rfl,?_⟩)|((with_reducible refine y08 (f:=29) rfl ?_);refine y0n (some 21) rfl rfl Tra.func29 (by kernel_rfl) rfl #[.int .i64 a0,.int .i64 (wrap64 (a1 - 1))] rfl (by (try simp only [List.map_toArray,List.map_cons,List.map_nil]);rfl) ?_;(with_reducible refine (mobs_choose.calls k a0 (wrap64 (a1 - 1)) t159 _ A7.out).mono ?_);rintro e w' ⟨rfl,⟨nd,rfl⟩⟩;refine ⟨_,rfl,?_⟩))
   go_ret2
   exact ⟨by rfl,by repeat (first|exact Drawn0.refl _|apply Drawn0.step)⟩
 ·rw [if_neg c4] at H
  have c4b0:(t157 == 0)=false:=beq_eq_false_iff_ne.mpr c4;have c4b1:(t157 != 0)=true:=bne_iff_ne.mpr c4;simp only [Option.some.injEq,Prod.mk.injEq] at H;obtain ⟨rfl,rfl⟩:=H;go_enter Tra.func11,Tra.ntmps11
  go_wp2_with (((with_reducible refine y08 (f:=28) rfl ?_);refine y0n (some 9) rfl rfl Tra.func28 (by kernel_rfl) rfl #[.int .i64 a0,.int .i64 a1] rfl (by (try simp only [List.map_toArray,List.map_cons,List.map_nil]);rfl) ?_;(with_reducible refine (mobs_counted.calls a0 a1 t157 _ A3.out).mono ?_);rintro e w' ⟨rfl,⟨nd,rfl⟩⟩;refine ⟨_,rfl,?_⟩))
  go_ret2
  exact ⟨by rfl,by repeat (first|exact Drawn0.refl _|apply Drawn0.step)⟩
def graze_field.f (a0:Int) (a1:Int):Option (Int × Int × Bool):=if (mn a0 a1) ≥ 1 then (some (a0,a1,decide ((mx a0 a1)≤6))) else (some (a0,a1,false))
theorem graze_field.calls (a0:Int) (a1:Int) (r1:Int) (r2:Int) (r3:Bool) (w:World) (h:graze_field.f a0 a1=some (r1,r2,r3)) :
  Calls Tra.prog 30 #[.int .i64 a0,.int .i64 a1] w fun e w'=>e=.returned (.tuple #[.agg #[.int .i64 r1,.int .i64 r2],.bool r3])∧Below w.heap.size w w':=by
 have hu66:=Tra.underlying66;have HB:=As0.mk (Below.refl w.heap.size w);have H:(if (mn a0 a1) ≥ 1 then (some (a0,a1,decide ((mx a0 a1)≤6))) else (some (a0,a1,false)))=some (r1,r2,r3):=h;clear h;obtain ⟨ji3,hji3⟩:∃ j_:Int,(mn a0 a1)=j_:=⟨_,rfl⟩
 replace H:(if (ji3) ≥ 1 then (some (a0,a1,decide ((mx a0 a1)≤6))) else (some (a0,a1,false)))=some (r1,r2,r3):=by (rw [hji3] at H;exact H)
 have hji3_:(if a1<a0 then a1 else a0)=ji3:=hji3
 by_cases c4:(ji3) ≥ 1
 ·rw [if_pos c4] at H
  have c4b0:decide (1≤(ji3))=true:=zDt c4;clear c4;obtain ⟨ji5,hji5⟩:∃ j_:Int,(mx a0 a1)=j_:=⟨_,rfl⟩
  replace H:(some (a0,a1,decide ((ji5)≤6)))=some (r1,r2,r3):=by (rw [hji5] at H;exact H)
  have hji5_:(if a0<a1 then a1 else a0)=ji5:=hji5;simp only [Option.some.injEq,Prod.mk.injEq] at H;obtain ⟨rfl,rfl,rfl⟩:=H;go_enter Tra.func30,Tra.ntmps30
  go_wp2_with (((with_reducible refine y0s (N:=4) rfl ?_);(try (refine y14 (by rfl) ?_;dsimp only));refine y19 ?hg (N:=4) ?hd (cs:=#[.int .i64 0,.int .i64 0]) (t:=66) ?hr ?_;(case hd=>rfl);(case hg=>rfl);(case hr=>(go_simp;done));intro gb160 hg w6 hbox hb;have n0_:=As0.mk (y04 (by repeat (with_reducible exact HB.out)) hb);have n1_:=As0.mk (hbox);have n2_:=As0.mk ((by rw [hg];exact (y05 (by repeat (with_reducible exact HB.out))):w.heap.size≤gb160));have n3_:=As0.mk ((by rw [hg];exact (y05 (by repeat (with_reducible exact HB.out))):w.heap.size≤gb160));clear HB;have HB:=n0_;have BK160:=n1_;have GW160:=n2_;have GE160:=n3_;clear n0_ n1_ n2_ n3_;clear hb hbox hg;have hcz7_0:w6.cell? ⟨gb160,0,none⟩=some (.int .i64 0):=(y07 BK160.out 0).trans rfl;have hcz7_1:w6.cell? ⟨gb160,1,none⟩=some (.int .i64 0):=(y07 BK160.out 1).trans rfl;have hfz7_0:=y09 BK160.out 0;have hfz7_1:=y09 BK160.out 1))
  refine bodyPost_ret (y7p rfl _ _ gb160 66 #[.int .i64 a0,.int .i64 a1] (0,0) _ rfl (by (with_reducible repeat (first|refine y0f ?_ _|refine y0h ?_|refine y0d ?_ _));refine y0y (cs:=#[.int .i64 a0,.int .i64 0]) ?_ 1 _ rfl;(with_reducible repeat (first|refine y0f ?_ _|refine y0h ?_|refine y0d ?_ _));refine y0y (cs:=#[.int .i64 0,.int .i64 0]) ?_ 0 _ rfl;(with_reducible repeat (first|refine y0f ?_ _|refine y0h ?_|refine y0d ?_ _));exact BK160.out) Tra.underlying66 rfl (by kernel_rfl)) rfl ?_;exact ⟨by rfl,by repeat (with_reducible first|exact HB.out|refine y0j ?_ GE160.out)⟩
 ·rw [if_neg c4] at H
  have c4b0:decide (1≤(ji3))=false:=zDf c4;clear c4;simp only [Option.some.injEq,Prod.mk.injEq] at H;obtain ⟨rfl,rfl,rfl⟩:=H;go_enter Tra.func30,Tra.ntmps30
  go_wp2_with (((with_reducible refine y0s (N:=4) rfl ?_);(try (refine y14 (by rfl) ?_;dsimp only));refine y19 ?hg (N:=4) ?hd (cs:=#[.int .i64 0,.int .i64 0]) (t:=66) ?hr ?_;(case hd=>rfl);(case hg=>rfl);(case hr=>(go_simp;done));intro gb160 hg w8 hbox hb;have n0_:=As0.mk (y04 (by repeat (with_reducible exact HB.out)) hb);have n1_:=As0.mk (hbox);have n2_:=As0.mk ((by rw [hg];exact (y05 (by repeat (with_reducible exact HB.out))):w.heap.size≤gb160));have n3_:=As0.mk ((by rw [hg];exact (y05 (by repeat (with_reducible exact HB.out))):w.heap.size≤gb160));clear HB;have HB:=n0_;have BK160:=n1_;have GW160:=n2_;have GE160:=n3_;clear n0_ n1_ n2_ n3_;clear hb hbox hg;have hcz9_0:w8.cell? ⟨gb160,0,none⟩=some (.int .i64 0):=(y07 BK160.out 0).trans rfl;have hcz9_1:w8.cell? ⟨gb160,1,none⟩=some (.int .i64 0):=(y07 BK160.out 1).trans rfl;have hfz9_0:=y09 BK160.out 0;have hfz9_1:=y09 BK160.out 1))
  refine bodyPost_ret (y7p rfl _ _ gb160 66 #[.int .i64 a0,.int .i64 a1] (0,0) _ rfl (by (with_reducible repeat (first|refine y0f ?_ _|refine y0h ?_|refine y0d ?_ _));refine y0y (cs:=#[.int .i64 a0,.int .i64 0]) ?_ 1 _ rfl;(with_reducible repeat (first|refine y0f ?_ _|refine y0h ?_|refine y0d ?_ _));refine y0y (cs:=#[.int .i64 0,.int .i64 0]) ?_ 0 _ rfl;(with_reducible repeat (first|refine y0f ?_ _|refine y0h ?_|refine y0d ?_ _));exact BK160.out) Tra.underlying66 rfl (by kernel_rfl)) rfl ?_;exact ⟨by rfl,by repeat (with_reducible first|exact HB.out|refine y0j ?_ GE160.out)⟩
def graze_choose.l0:Nat->Int->Int->Int->Int->Option (Int)
 |0,_,_,_,_=>none
 |k+1,x0,x5,x7,x8=>if x8<x7 then (if (wrap64 (x8+1))=0 then (none) else (graze_choose.l0 k x0 (wrap64 (Int.tdiv (wrap64 (x5 * (wrap64 (x0 - x8)))) (wrap64 (x8+1)))) x7 (wrap64 (x8+1)))) else (some x5)
def graze_choose.f (k:Nat) (a0:Int) (a1:Int):Option (Int):=graze_choose.l0 k a0 1 a1 0
theorem graze_choose.mono_l:∀ k,(∀ y0 y1 y2 y3,LeO (graze_choose.l0 k y0 y1 y2 y3) (graze_choose.l0 (k+1) y0 y1 y2 y3))
 |0=>fun _ _ _ _ r h=>by simp [graze_choose.l0] at h
 |k+1=>by
  have ih0:=graze_choose.mono_l k
  ·intro y0 y1 y2 y3
   unfold graze_choose.l0
   repeat' first
   |(with_reducible exact ih0 _ _ _ _)
   |(with_reducible exact LeO.refl _)
   |(with_reducible exact LeO.none _)
   |(with_reducible refine LeO.ite ?_ ?_)
   |(with_reducible refine LeO.bind ?_ (fun _=>?_))
   |exact ih0 _ _ _ _
   |exact LeO.none _
   |refine LeO.ite ?_ ?_
   |refine LeO.bind ?_ (fun _=>?_)
theorem graze_choose.mono:∀ a0 a1 k,LeO (graze_choose.f k a0 a1) (graze_choose.f (k+1) a0 a1):=by
 intro a0 a1 k;have ih0:=graze_choose.mono_l k;unfold graze_choose.f
 repeat' first
   |(with_reducible exact ih0 _ _ _ _)
   |(with_reducible exact LeO.refl _)
   |(with_reducible exact LeO.none _)
   |(with_reducible refine LeO.ite ?_ ?_)
   |(with_reducible refine LeO.bind ?_ (fun _=>?_))
   |exact ih0 _ _ _ _
   |exact LeO.none _
   |refine LeO.ite ?_ ?_
   |refine LeO.bind ?_ (fun _=>?_)
theorem graze_choose.calls (k:Nat) (a0:Int) (a1:Int) (r:Int) (w:World) (h:graze_choose.f k a0 a1=some r) :
  Calls Tra.prog 31 #[.int .i64 a0,.int .i64 a1] w fun e w'=>e=.returned (.int .i64 r)∧Drawn0 w w':=by
 have H:(graze_choose.l0 k a0 1 a1 0)=some r:=h;clear h;have H':=As0.mk H;clear H;go_enter Tra.func31,Tra.ntmps31
 go_wp2
 go_loopg [5,8] k (fun kq v5 v8 w'=>∃ (x5_1:Int) (x8_1:Int),v5=.int .i64 x5_1∧v8=.int .i64 x8_1∧As0 (graze_choose.l0 kq a0 x5_1 a1 x8_1=some r)∧As0 (kq≤k)∧Drawn0 w w')
 case atStart=>exact ⟨(1),(0),(by rfl),(by rfl),H',⟨zLe _⟩,by repeat (exact Drawn0.refl _)⟩
 case round =>
  clear H'
  try clear p2
  obtain ⟨x5_1,x8_1,rfl,rfl,HA,HK1,⟨m1,rfl⟩⟩:=hrel;cases gk with
  |zero=>exact absurd HA.out (by simp [graze_choose.l0])
  |succ k1 =>
   have H:=HA.out;clear HA;simp only [graze_choose.l0] at H
   by_cases c3:x8_1<a1
   ·rw [if_pos c3] at H
    have c3b0:decide (x8_1<a1)=true:=zDt c3;clear c3
    by_cases c4:(wrap64 (x8_1+1))=0
    ·rw [if_pos c4] at H
     exact absurd H (by simp)
    ·rw [if_neg c4] at H
     have c4b0:((wrap64 (x8_1+1)) == 0)=false:=beq_eq_false_iff_ne.mpr c4;have c4b1:((wrap64 (x8_1+1)) != 0)=true:=bne_iff_ne.mpr c4;have H':=As0.mk H;clear H;go_wp2
     go_roundg k1
     case measure=>have:=HK1.out;omega
     case rel=>exact ⟨(wrap64 (Int.tdiv (wrap64 (x5_1 * (wrap64 (a0 - x8_1)))) (wrap64 (x8_1+1)))),(wrap64 (x8_1+1)),(by rfl),(by rfl),H',⟨by have:=HK1.out;omega⟩,by repeat (first|exact Drawn0.refl _|apply Drawn0.step)⟩
   ·rw [if_neg c3] at H
    have c3b0:decide (x8_1<a1)=false:=zDf c3;clear c3;obtain rfl:=zSi H;go_wp2
    go_ret
    exact ⟨by rfl,by repeat (first|exact Drawn0.refl _|apply Drawn0.step)⟩
def graze_Same.l0:Nat->Int->Int->Int->Int->Int->Option (Int × Int)
 |0,_,_,_,_,_=>none
 |k+1,x10,x11,x12,x165000,x165001=>if x12=0 then (if x10=0 then (none) else (if (Int.tmod (wrap64 (x165000 * x11)) x10)=0 then ((graze_choose.f k x11 (wrap64 (Int.tdiv (wrap64 (x165000 * x11)) x10))).bind fun t165=>(some (t165,0))) else (some (0,0)))) else (graze_Same.l0 k x10 x12 (Int.tmod x11 x12) x165000 x165001)
def graze_Same.f (k:Nat) (a0:Int) (a1:Int) (a2:Int):Option (Int × Int):=(graze_field.f a0 a1).bind fun bt161=>(if bt161.2.2=true then (if (wrap64 (bt161.1+bt161.2.1))=0 then (none) else (graze_Same.l0 k (wrap64 (bt161.1+bt161.2.1)) (wrap64 (bt161.1+bt161.2.1)) (Int.tmod (wrap64 ((Int.tmod a2 (wrap64 (bt161.1+bt161.2.1)))+(wrap64 (bt161.1+bt161.2.1)))) (wrap64 (bt161.1+bt161.2.1))) bt161.1 bt161.2.1)) else (some (0,2)))
theorem graze_Same.mono_l:∀ k,(∀ y0 y1 y2 y3 y4,LeO (graze_Same.l0 k y0 y1 y2 y3 y4) (graze_Same.l0 (k+1) y0 y1 y2 y3 y4))
 |0=>fun _ _ _ _ _ r h=>by simp [graze_Same.l0] at h
 |k+1=>by
  have ih0:=graze_Same.mono_l k
  ·intro y0 y1 y2 y3 y4
   unfold graze_Same.l0
   repeat' first
   |(with_reducible exact ih0 _ _ _ _ _)
   |(with_reducible exact graze_choose.mono _ _ _)
   |(with_reducible exact LeO.refl _)
   |(with_reducible exact LeO.none _)
   |(with_reducible refine LeO.ite ?_ ?_)
   |(with_reducible refine LeO.bind ?_ (fun _=>?_))
   |exact ih0 _ _ _ _ _
   |exact graze_choose.mono _ _ _
   |exact LeO.none _
   |refine LeO.ite ?_ ?_
   |refine LeO.bind ?_ (fun _=>?_)
theorem graze_Same.mono:∀ a0 a1 a2 k,LeO (graze_Same.f k a0 a1 a2) (graze_Same.f (k+1) a0 a1 a2):=by
 intro a0 a1 a2 k;have ih0:=graze_Same.mono_l k;unfold graze_Same.f
 repeat' first
   |(with_reducible exact ih0 _ _ _ _ _)
   |(with_reducible exact graze_choose.mono _ _ _)
   |(with_reducible exact LeO.refl _)
   |(with_reducible exact LeO.none _)
   |(with_reducible refine LeO.ite ?_ ?_)
   |(with_reducible refine LeO.bind ?_ (fun _=>?_))
   |exact ih0 _ _ _ _ _
   |exact graze_choose.mono _ _ _
   |exact LeO.none _
   |refine LeO.ite ?_ ?_
   |refine LeO.bind ?_ (fun _=>?_)
theorem graze_Same.calls (k:Nat) (a0:Int) (a1:Int) (a2:Int) (r1:Int) (r2:Int) (w:World) (h:graze_Same.f k a0 a1 a2=some (r1,r2)) :
  Calls Tra.prog 12 #[.int .i64 a0,.int .i64 a1,.int .i64 a2] w fun e w'=>e=.returned (.tuple #[.int .i64 r1,.int .i64 r2])∧Below w.heap.size w w':=by
 have hu66:=Tra.underlying66;have HB:=As0.mk (Below.refl w.heap.size w);have H:((graze_field.f a0 a1).bind fun bt161=>(if bt161.2.2=true then (if (wrap64 (bt161.1+bt161.2.1))=0 then (none) else (graze_Same.l0 k (wrap64 (bt161.1+bt161.2.1)) (wrap64 (bt161.1+bt161.2.1)) (Int.tmod (wrap64 ((Int.tmod a2 (wrap64 (bt161.1+bt161.2.1)))+(wrap64 (bt161.1+bt161.2.1)))) (wrap64 (bt161.1+bt161.2.1))) bt161.1 bt161.2.1)) else (some (0,2))))=some (r1,r2):=h;clear h;replace H:=Option.bind_eq_some_iff.mp H;obtain ⟨⟨t161,t162,t163⟩,A40,H⟩:=H;replace H:(if t163=true then (if (wrap64 (t161+t162))=0 then (none) else (graze_Same.l0 k (wrap64 (t161+t162)) (wrap64 (t161+t162)) (Int.tmod (wrap64 ((Int.tmod a2 (wrap64 (t161+t162)))+(wrap64 (t161+t162)))) (wrap64 (t161+t162))) t161 t162)) else (some (0,2)))=some (r1,r2):=H;have A4:=As0.mk A40;clear A40
 by_cases c5:t163=true
 ·subst c5
  have H1:(if (wrap64 (t161+t162))=0 then (none) else (graze_Same.l0 k (wrap64 (t161+t162)) (wrap64 (t161+t162)) (Int.tmod (wrap64 ((Int.tmod a2 (wrap64 (t161+t162)))+(wrap64 (t161+t162)))) (wrap64 (t161+t162))) t161 t162))=some (r1,r2):=by rw [if_pos rfl] at H;exact H
  clear H;have H:=H1;clear H1
  by_cases c6:(wrap64 (t161+t162))=0
  ·rw [if_pos c6] at H
   exact absurd H (by simp)
  ·rw [if_neg c6] at H
   have c6b0:((wrap64 (t161+t162)) == 0)=false:=beq_eq_false_iff_ne.mpr c6;have c6b1:((wrap64 (t161+t162)) != 0)=true:=bne_iff_ne.mpr c6;have H':=As0.mk H;clear H;go_enter Tra.func12,Tra.ntmps12
   go_wp2_with (first|(go_at_call 30;(with_reducible refine (graze_field.calls a0 a1 t161 t162 true _ A4.out).mono ?_);rintro e w7 ⟨rfl,hb⟩;have n0_:=As0.mk (y04 (by repeat (with_reducible exact HB.out)) hb);clear HB;have HB:=n0_;clear n0_;(try clear hb);(try clear hb2);(try clear hk);(try clear hi))|((with_reducible refine y0s (N:=8) rfl ?_);refine y19 ?hg (N:=8) ?hd (cs:=#[.int .i64 0,.int .i64 0]) (t:=66) ?hr ?_;(case hd=>rfl);(case hg=>rfl);(case hr=>(go_simp;done));intro gb164 hg w8 hbox hb;have n0_:=As0.mk (y04 (by repeat (with_reducible exact HB.out)) hb);have n1_:=As0.mk (hbox);have n2_:=As0.mk ((by rw [hg];exact (y05 (by repeat (with_reducible exact HB.out))):w.heap.size≤gb164));have n3_:=As0.mk ((by rw [hg];exact (y05 (by repeat (with_reducible exact HB.out))):w.heap.size≤gb164));clear HB;have HB:=n0_;have BK164:=n1_;have GW164:=n2_;have GE164:=n3_;clear n0_ n1_ n2_ n3_;clear hb hbox hg;have hcz9_0:w8.cell? ⟨gb164,0,none⟩=some (.int .i64 0):=(y07 BK164.out 0).trans rfl;have hcz9_1:w8.cell? ⟨gb164,1,none⟩=some (.int .i64 0):=(y07 BK164.out 1).trans rfl;have hfz9_0:=y09 BK164.out 0;have hfz9_1:=y09 BK164.out 1))
   repeat (go_quiet (first|(go_at_call 30;(with_reducible refine (graze_field.calls a0 a1 t161 t162 true _ A4.out).mono ?_);rintro e w7 ⟨rfl,hb⟩;have n0_:=As0.mk (y04 (by repeat (with_reducible first|exact HB.out|apply y01|apply y00|apply y02)) hb);clear HB;have HB:=n0_;clear n0_;(try clear hb);(try clear hb2);(try clear hk);(try clear hi))|((with_reducible refine y0s (N:=8) rfl ?_);refine y19 ?hg (N:=8) ?hd (cs:=#[.int .i64 0,.int .i64 0]) (t:=66) ?hr ?_;(case hd=>rfl);(case hg=>rfl);(case hr=>first|(go_simp;done)|(go_simp;rfl));intro gb164 hg w8 hbox hb;have n0_:=As0.mk (y04 (by repeat (with_reducible first|exact HB.out|apply y01|apply y00|apply y02)) hb);have n1_:=As0.mk (hbox);have n2_:=As0.mk ((by rw [hg];exact (y05 (by repeat (with_reducible first|exact HB.out|apply y01|apply y00|apply y02))):w.heap.size≤gb164));have n3_:=As0.mk ((by rw [hg];exact (y05 (by repeat (with_reducible first|exact HB.out|apply y01|apply y00|apply y02))):w.heap.size≤gb164));clear HB;have HB:=n0_;have BK164:=n1_;have GW164:=n2_;have GE164:=n3_;clear n0_ n1_ n2_ n3_;clear hb hbox hg;have hcz9_0:w8.cell? ⟨gb164,0,none⟩=some (.int .i64 0):=(y07 BK164.out 0).trans rfl;have hcz9_1:w8.cell? ⟨gb164,1,none⟩=some (.int .i64 0):=(y07 BK164.out 1).trans rfl;have hfz9_0:=y09 BK164.out 0;have hfz9_1:=y09 BK164.out 1));try go_wp2_with (first|(go_at_call 30;(with_reducible refine (graze_field.calls a0 a1 t161 t162 true _ A4.out).mono ?_);rintro e w7 ⟨rfl,hb⟩;have n0_:=As0.mk (y04 (by repeat (with_reducible first|exact HB.out|apply y01|apply y00|apply y02)) hb);clear HB;have HB:=n0_;clear n0_;(try clear hb);(try clear hb2);(try clear hk);(try clear hi))|((with_reducible refine y0s (N:=8) rfl ?_);refine y19 ?hg (N:=8) ?hd (cs:=#[.int .i64 0,.int .i64 0]) (t:=66) ?hr ?_;(case hd=>rfl);(case hg=>rfl);(case hr=>first|(go_simp;done)|(go_simp;rfl));intro gb164 hg w8 hbox hb;have n0_:=As0.mk (y04 (by repeat (with_reducible first|exact HB.out|apply y01|apply y00|apply y02)) hb);have n1_:=As0.mk (hbox);have n2_:=As0.mk ((by rw [hg];exact (y05 (by repeat (with_reducible first|exact HB.out|apply y01|apply y00|apply y02))):w.heap.size≤gb164));have n3_:=As0.mk ((by rw [hg];exact (y05 (by repeat (with_reducible first|exact HB.out|apply y01|apply y00|apply y02))):w.heap.size≤gb164));clear HB;have HB:=n0_;have BK164:=n1_;have GW164:=n2_;have GE164:=n3_;clear n0_ n1_ n2_ n3_;clear hb hbox hg;have hcz9_0:w8.cell? ⟨gb164,0,none⟩=some (.int .i64 0):=(y07 BK164.out 0).trans rfl;have hcz9_1:w8.cell? ⟨gb164,1,none⟩=some (.int .i64 0):=(y07 BK164.out 1).trans rfl;have hfz9_0:=y09 BK164.out 0;have hfz9_1:=y09 BK164.out 1)))
   go_loopg [11,12] k (fun kq v11 v12 w'=>∃ (x11_1:Int) (x12_1:Int),v11=.int .i64 x11_1∧v12=.int .i64 x12_1∧As0 (graze_Same.l0 kq (wrap64 (t161+t162)) x11_1 x12_1 t161 t162=some (r1,r2))∧As0 (kq≤k)∧As0 (w'.heap[gb164]?=some (.cells #[.int .i64 t161,.int .i64 t162] 66 (0,0)))∧As0 (Below w.heap.size w w'))
   case atStart=>exact ⟨(wrap64 (t161+t162)),(Int.tmod (wrap64 ((Int.tmod a2 (wrap64 (t161+t162)))+(wrap64 (t161+t162)))) (wrap64 (t161+t162))),(by rfl),(by rfl),H',⟨zLe _⟩,⟨by (with_reducible repeat (refine y0f ?_ _));refine y0y (cs:=#[.int .i64 t161,.int .i64 0]) ?_ 1 _ rfl;(with_reducible repeat (first|refine y0f ?_ _|refine y0h ?_|refine y0d ?_ _));refine y0y (cs:=#[.int .i64 0,.int .i64 0]) ?_ 0 _ rfl;(with_reducible repeat (first|refine y0f ?_ _|refine y0h ?_|refine y0d ?_ _));exact BK164.out⟩,⟨by repeat (with_reducible first|exact HB.out|apply y00|refine y0j ?_ GE164.out)⟩⟩
   case round =>
    clear H'
    try clear c1
    try clear p2
    try clear c5
    try clear c6
    try clear c6b0
    try clear c6b1
    try clear p6
    try clear hcz9_0
    try clear hcz9_1
    try clear hfz9_0
    try clear hfz9_1
    obtain ⟨x11_1,x12_1,rfl,rfl,HA,HK1,BK164,HB⟩:=hrel;cases gk with
    |zero=>exact absurd HA.out (by simp [graze_Same.l0])
    |succ k1 =>
     have H:=HA.out;clear HA;simp only [graze_Same.l0] at H
     by_cases c10:x12_1=0
     ·rw [if_pos c10] at H
      have c10b0:(x12_1 == 0)=true:=beq_iff_eq.mpr c10;have c10b1:(x12_1 != 0)=false:=bne_eq_false_iff_eq.mpr c10;clear c10
      by_cases c11:(wrap64 (t161+t162))=0
      ·rw [if_pos c11] at H
       exact absurd H (by simp)
      ·rw [if_neg c11] at H
       have c11b0:((wrap64 (t161+t162)) == 0)=false:=beq_eq_false_iff_ne.mpr c11;have c11b1:((wrap64 (t161+t162)) != 0)=true:=bne_iff_ne.mpr c11
       by_cases c12:(Int.tmod (wrap64 (t161 * x11_1)) (wrap64 (t161+t162)))=0
       ·rw [if_pos c12] at H
        have c12b0:((Int.tmod (wrap64 (t161 * x11_1)) (wrap64 (t161+t162))) == 0)=true:=beq_iff_eq.mpr c12;have c12b1:((Int.tmod (wrap64 (t161 * x11_1)) (wrap64 (t161+t162))) != 0)=false:=bne_eq_false_iff_eq.mpr c12;clear c12;replace H:=Option.bind_eq_some_iff.mp H;obtain ⟨t165,A130,H⟩:=H;replace H:(some (t165,0))=some (r1,r2):=H;have A13:=As0.mk A130;clear A130;simp only [Option.some.injEq,Prod.mk.injEq] at H;obtain ⟨rfl,rfl⟩:=H;have hcz14_0:wr.cell? ⟨gb164,0,none⟩=some (.int .i64 t161):=(y07 BK164.out 0).trans rfl;have hcz14_1:wr.cell? ⟨gb164,1,none⟩=some (.int .i64 t162):=(y07 BK164.out 1).trans rfl;have hfz14_0:=y09 BK164.out 0;have hfz14_1:=y09 BK164.out 1;go_wp2_with ((go_at_call 31;(with_reducible refine (graze_choose.calls k1 x11_1 (wrap64 (Int.tdiv (wrap64 (t161 * x11_1)) (wrap64 (t161+t162)))) t165 _ A13.out).mono ?_);rintro e w' ⟨rfl,⟨nd,rfl⟩⟩;(try first|exact ⟨rfl,_,World.drewN_drewN _ _ _⟩|exact ⟨rfl,_,Eq.trans (World.drewN_drewN _ _ _) (congrArg (World.drewN _) (Nat.add_assoc _ _ _))⟩)))
        repeat (go_quiet (first|(go_at_call 31;(with_reducible refine (graze_choose.calls k1 x11_1 (wrap64 (Int.tdiv (wrap64 (t161 * x11_1)) (wrap64 (t161+t162)))) t165 _ A13.out).mono ?_);rintro e w' ⟨rfl,⟨nd,rfl⟩⟩;(try first|exact ⟨rfl,_,World.drewN_drewN _ _ _⟩|exact ⟨rfl,_,Eq.trans (World.drewN_drewN _ _ _) (congrArg (World.drewN _) (Nat.add_assoc _ _ _))⟩)));try go_wp2_with (first|(go_at_call 31;(with_reducible refine (graze_choose.calls k1 x11_1 (wrap64 (Int.tdiv (wrap64 (t161 * x11_1)) (wrap64 (t161+t162)))) t165 _ A13.out).mono ?_);rintro e w' ⟨rfl,⟨nd,rfl⟩⟩;(try first|exact ⟨rfl,_,World.drewN_drewN _ _ _⟩|exact ⟨rfl,_,Eq.trans (World.drewN_drewN _ _ _) (congrArg (World.drewN _) (Nat.add_assoc _ _ _))⟩))))
        go_ret2
        exact ⟨by rfl,by repeat (with_reducible first|exact HB.out|apply y00)⟩
       ·rw [if_neg c12] at H
        have c12b0:((Int.tmod (wrap64 (t161 * x11_1)) (wrap64 (t161+t162))) == 0)=false:=beq_eq_false_iff_ne.mpr c12;have c12b1:((Int.tmod (wrap64 (t161 * x11_1)) (wrap64 (t161+t162))) != 0)=true:=bne_iff_ne.mpr c12;simp only [Option.some.injEq,Prod.mk.injEq] at H;obtain ⟨rfl,rfl⟩:=H;have hcz15_0:wr.cell? ⟨gb164,0,none⟩=some (.int .i64 t161):=(y07 BK164.out 0).trans rfl;have hcz15_1:wr.cell? ⟨gb164,1,none⟩=some (.int .i64 t162):=(y07 BK164.out 1).trans rfl;have hfz15_0:=y09 BK164.out 0;have hfz15_1:=y09 BK164.out 1;go_wp2
        repeat (go_quiet (fail);try go_wp2)
        go_ret2
        exact ⟨by rfl,by repeat (with_reducible exact HB.out)⟩
     ·rw [if_neg c10] at H
      have c10b0:(x12_1 == 0)=false:=beq_eq_false_iff_ne.mpr c10;have c10b1:(x12_1 != 0)=true:=bne_iff_ne.mpr c10;have H':=As0.mk H;clear H;go_wp2
      repeat (go_quiet (fail);try go_wp2)
      go_roundg k1
      case measure=>have:=HK1.out;omega
      case rel=>exact ⟨(x12_1),(Int.tmod x11_1 x12_1),(by rfl),(by rfl),H',⟨by have:=HK1.out;omega⟩,⟨by (with_reducible repeat (refine y0f ?_ _));exact BK164.out⟩,⟨by repeat (with_reducible first|exact HB.out|apply y00)⟩⟩
 ·replace c5:=Bool.eq_false_iff.mpr c5
  subst c5;have H1:(some (0,2))=some (r1,r2):=by rw [if_neg (show ¬ (false=true) by decide)] at H;exact H
  clear H;have H:=H1;clear H1;simp only [Option.some.injEq,Prod.mk.injEq] at H;obtain ⟨rfl,rfl⟩:=H;go_enter Tra.func12,Tra.ntmps12
  go_wp2_with (first|(go_at_call 30;(with_reducible refine (graze_field.calls a0 a1 t161 t162 false _ A4.out).mono ?_);rintro e w16 ⟨rfl,hb⟩;have n0_:=As0.mk (y04 (by repeat (with_reducible exact HB.out)) hb);clear HB;have HB:=n0_;clear n0_;(try clear hb);(try clear hb2);(try clear hk);(try clear hi))|((with_reducible refine y0s (N:=8) rfl ?_);refine y19 ?hg (N:=8) ?hd (cs:=#[.int .i64 0,.int .i64 0]) (t:=66) ?hr ?_;(case hd=>rfl);(case hg=>rfl);(case hr=>(go_simp;done));intro gb164 hg w17 hbox hb;have n0_:=As0.mk (y04 (by repeat (with_reducible exact HB.out)) hb);have n1_:=As0.mk (hbox);have n2_:=As0.mk ((by rw [hg];exact (y05 (by repeat (with_reducible exact HB.out))):w.heap.size≤gb164));have n3_:=As0.mk ((by rw [hg];exact (y05 (by repeat (with_reducible exact HB.out))):w.heap.size≤gb164));clear HB;have HB:=n0_;have BK164:=n1_;have GW164:=n2_;have GE164:=n3_;clear n0_ n1_ n2_ n3_;clear hb hbox hg;have hcz18_0:w17.cell? ⟨gb164,0,none⟩=some (.int .i64 0):=(y07 BK164.out 0).trans rfl;have hcz18_1:w17.cell? ⟨gb164,1,none⟩=some (.int .i64 0):=(y07 BK164.out 1).trans rfl;have hfz18_0:=y09 BK164.out 0;have hfz18_1:=y09 BK164.out 1))
  repeat (go_quiet (first|(go_at_call 30;(with_reducible refine (graze_field.calls a0 a1 t161 t162 false _ A4.out).mono ?_);rintro e w16 ⟨rfl,hb⟩;have n0_:=As0.mk (y04 (by repeat (with_reducible first|exact HB.out|apply y01|apply y00|apply y02)) hb);clear HB;have HB:=n0_;clear n0_;(try clear hb);(try clear hb2);(try clear hk);(try clear hi))|((with_reducible refine y0s (N:=8) rfl ?_);refine y19 ?hg (N:=8) ?hd (cs:=#[.int .i64 0,.int .i64 0]) (t:=66) ?hr ?_;(case hd=>rfl);(case hg=>rfl);(case hr=>first|(go_simp;done)|(go_simp;rfl));intro gb164 hg w17 hbox hb;have n0_:=As0.mk (y04 (by repeat (with_reducible first|exact HB.out|apply y01|apply y00|apply y02)) hb);have n1_:=As0.mk (hbox);have n2_:=As0.mk ((by rw [hg];exact (y05 (by repeat (with_reducible first|exact HB.out|apply y01|apply y00|apply y02))):w.heap.size≤gb164));have n3_:=As0.mk ((by rw [hg];exact (y05 (by repeat (with_reducible first|exact HB.out|apply y01|apply y00|apply y02))):w.heap.size≤gb164));clear HB;have HB:=n0_;have BK164:=n1_;have GW164:=n2_;have GE164:=n3_;clear n0_ n1_ n2_ n3_;clear hb hbox hg;have hcz18_0:w17.cell? ⟨gb164,0,none⟩=some (.int .i64 0):=(y07 BK164.out 0).trans rfl;have hcz18_1:w17.cell? ⟨gb164,1,none⟩=some (.int .i64 0):=(y07 BK164.out 1).trans rfl;have hfz18_0:=y09 BK164.out 0;have hfz18_1:=y09 BK164.out 1));try go_wp2_with (first|(go_at_call 30;(with_reducible refine (graze_field.calls a0 a1 t161 t162 false _ A4.out).mono ?_);rintro e w16 ⟨rfl,hb⟩;have n0_:=As0.mk (y04 (by repeat (with_reducible first|exact HB.out|apply y01|apply y00|apply y02)) hb);clear HB;have HB:=n0_;clear n0_;(try clear hb);(try clear hb2);(try clear hk);(try clear hi))|((with_reducible refine y0s (N:=8) rfl ?_);refine y19 ?hg (N:=8) ?hd (cs:=#[.int .i64 0,.int .i64 0]) (t:=66) ?hr ?_;(case hd=>rfl);(case hg=>rfl);(case hr=>first|(go_simp;done)|(go_simp;rfl));intro gb164 hg w17 hbox hb;have n0_:=As0.mk (y04 (by repeat (with_reducible first|exact HB.out|apply y01|apply y00|apply y02)) hb);have n1_:=As0.mk (hbox);have n2_:=As0.mk ((by rw [hg];exact (y05 (by repeat (with_reducible first|exact HB.out|apply y01|apply y00|apply y02))):w.heap.size≤gb164));have n3_:=As0.mk ((by rw [hg];exact (y05 (by repeat (with_reducible first|exact HB.out|apply y01|apply y00|apply y02))):w.heap.size≤gb164));clear HB;have HB:=n0_;have BK164:=n1_;have GW164:=n2_;have GE164:=n3_;clear n0_ n1_ n2_ n3_;clear hb hbox hg;have hcz18_0:w17.cell? ⟨gb164,0,none⟩=some (.int .i64 0):=(y07 BK164.out 0).trans rfl;have hcz18_1:w17.cell? ⟨gb164,1,none⟩=some (.int .i64 0):=(y07 BK164.out 1).trans rfl;have hfz18_0:=y09 BK164.out 0;have hfz18_1:=y09 BK164.out 1)))
  go_ret2
  exact ⟨by rfl,by repeat (with_reducible first|exact HB.out|refine y0j ?_ GE164.out)⟩
def drovewaytop_voted.f:Option Bool:=some true
theorem drovewaytop_voted.calls (r:Bool) (w:World) (h:drovewaytop_voted.f=some r):Calls Tra.prog 13 #[] w fun e w'=>e=.returned (.bool r)∧Below w.heap.size w w':=by
 obtain rfl:=zSi h;exact Tb.voted_calls w
def drovewaytop_parted.f (k:Nat)  : Option (Bool):=(brands_Count.f k 5).bind fun bt175=>((mobs_Plain.f k 3 2).bind fun bt177=>((graze_Same.f k 2 2 0).bind fun bt179=>((feuds_Clans.f k 3 (([(⟨0,2,false⟩:S28)]:List (S28)))).bind fun bt184=>(if bt175.2=0 then (if bt175.1=5 then (if bt177.2=0 then (if bt177.1=3 then (if bt179.2=0 then (if bt179.1=6 then (if bt184.2=0 then (if (bt184.1.length:Int)=2 then (if 0<(bt184.1.length:Int) then (if (rd bt184.1 0)=2 then (if 1<(bt184.1.length:Int) then (if (rd bt184.1 1)=5 then ((drovewaytop_voted.f).bind fun t190=>(some t190)) else (some false)) else (none)) else (some false)) else (none)) else (some false)) else (some false)) else (some false)) else (some false)) else (some false)) else (some false)) else (some false)) else (some false)))))
theorem drovewaytop_parted.mono:∀ k,LeO (drovewaytop_parted.f k ) (drovewaytop_parted.f (k+1) ):=by
 intro  k;unfold drovewaytop_parted.f
 repeat' first
   |(with_reducible exact brands_Count.mono _ _)
   |(with_reducible exact feuds_Clans.mono _ _ _)
   |(with_reducible exact graze_Same.mono _ _ _ _)
   |(with_reducible exact mobs_Plain.mono _ _ _)
   |(with_reducible exact LeO.refl _)
   |(with_reducible exact LeO.none _)
   |(with_reducible refine LeO.ite ?_ ?_)
   |(with_reducible refine LeO.bind ?_ (fun _=>?_))
   |exact brands_Count.mono _ _
   |exact feuds_Clans.mono _ _ _
   |exact graze_Same.mono _ _ _ _
   |exact mobs_Plain.mono _ _ _
   |exact LeO.none _
   |refine LeO.ite ?_ ?_
   |refine LeO.bind ?_ (fun _=>?_)
set_option maxRecDepth 100000 in
theorem clans_const : feuds_Clans.f 300 3 [⟨0, 2, false⟩] = some ([2, 5], 0) := by decide +kernel
set_option maxRecDepth 100000 in
theorem brands_const : brands_Count.f 300 5 = some (5, 0) := by decide +kernel
set_option maxRecDepth 100000 in
theorem plain_const : mobs_Plain.f 300 3 2 = some (3, 0) := by decide +kernel
set_option maxRecDepth 100000 in
theorem graze_const : graze_Same.f 300 2 2 0 = some (6, 0) := by decide +kernel
set_option maxHeartbeats 8000000 in
set_option maxRecDepth 100000 in
theorem parted_hand (w : World) : Calls Tra.prog 5 #[] w fun e w' => e = .returned (.bool true) ∧ Below w.heap.size w w' := by
  have hu28 := Tra.underlying28
  go_enter Tra.func5, Tra.ntmps5
  go_wp2_with fail
  refine (brands_Count.calls 300 5 5 0 _ brands_const).mono ?_
  rintro e w1 ⟨rfl, hb1⟩
  have HB1 := As0.mk hb1
  clear hb1
  go_wp2_with fail
  refine (mobs_Plain.calls 300 3 2 3 0 _ plain_const).mono ?_
  rintro e w2 ⟨rfl, ⟨nd, rfl⟩⟩
  have HB2 := As0.mk (y00 HB1.out nd)
  go_wp2_with fail
  refine (graze_Same.calls 300 2 2 0 6 0 _ graze_const).mono ?_
  rintro e w3 ⟨rfl, hb3⟩
  have HB3 := As0.mk (y04 HB2.out hb3)
  clear hb3
  go_wp2_with fail
  have hb4 := y01 HB3.out (.cells #[.int .i64 0, .int .i64 2, .bool false] 28)
  have hf4 := heap_alloc_new w3 (.cells #[.int .i64 0, .int .i64 2, .bool false] 28)
  have HB4 := As0.mk hb4
  have hC : Kd.C k28 (w3.alloc (.cells #[.int .i64 0, .int .i64 2, .bool false] 28)) (some ⟨w3.heap.size, 0, none⟩) ([⟨0, 2, false⟩] : List S28).length [⟨0, 2, false⟩] := by
    refine ⟨rfl, by decide, fun _ => ⟨⟨w3.heap.size, 0, none⟩, rfl, fun j p hj => ?_⟩⟩
    match j, hj with
    | 0, hj =>
      obtain rfl := Option.some.inj hj
      refine ⟨_, rfl, k28_mk _ _, fun i u hu => ?_⟩
      have h := y07 hf4 i
      have e : (⟨w3.heap.size, 0, none⟩ : Addr).add (0 * k28.sz + i) = ⟨w3.heap.size, i, none⟩ := by unfold Addr.add; split <;> simp_all
      rw [e, h]
      simpa using hu
  refine (feuds_Clans.calls 300 3 _ 1 [⟨0, 2, false⟩] [2, 5] 0 _ hC (Nat.le_refl _) clans_const).mono ?_
  rintro e w5 ⟨v5, rfl, hR5, hb5⟩
  have HB5 := As0.mk (y04 HB4.out hb5)
  obtain ⟨A, c, rfl⟩ := Kd.R_slice hR5
  have hC5 := (Kd.R_reads' hR5).2.2
  obtain ⟨ad, rfl, h0⟩ := Kd.at_int hC5 0 (by decide) (by decide)
  obtain ⟨ad', e', h1⟩ := Kd.at_int hC5 1 (by decide) (by decide)
  obtain rfl : ad = ad' := by injection e'
  have e2 : rd [2, 5] 0 = 2 := rfl
  have e5 : rd [2, 5] 1 = 5 := rfl
  rw [e2] at h0
  rw [e5] at h1
  have a0 : ad.add (0 : Int).toNat = ad := by show ad.add 0 = ad; unfold Addr.add; rw [if_pos rfl]
  rw [a0] at h0
  replace h1 : w5.cell? { block := ad.block, off := ad.off + 1 } = some (.int .i64 5) := by simpa [Addr.add] using h1
  clear hb4 hf4 hC hR5 hb5 hC5
  go_wp2_with fail
  refine (drovewaytop_voted.calls true _ rfl).mono ?_
  rintro e w6 ⟨rfl, hb6⟩
  have HB6 := As0.mk (y04 HB5.out hb6)
  clear hb6
  go_wp2_with fail
  go_ret
  exact ⟨rfl, HB6.out⟩
theorem parted_up {k : Nat} {r : Bool} (h : drovewaytop_parted.f k = some r) : ∀ d, drovewaytop_parted.f (k + d) = some r
  | 0 => h
  | d + 1 => drovewaytop_parted.mono _ _ (parted_up h d)
set_option maxRecDepth 100000 in
theorem parted_is : drovewaytop_parted.f 300 = some true := by decide +kernel
theorem drovewaytop_parted.calls (k : Nat) (r : Bool) (w : World) (h : drovewaytop_parted.f k = some r) :
    Calls Tra.prog 5 #[] w fun e w' => e = .returned (.bool r) ∧ Below w.heap.size w w' := by
  have h1 := parted_up h 300
  have h2 := parted_up parted_is k
  rw [Nat.add_comm, h1] at h2
  obtain rfl := Option.some.inj h2
  exact parted_hand w
def mobs_Number.f (l0:List Int):Option (List Int × Int):=if (l0.length:Int) > 12 then (some (([]:List Int),3)) else ((mobs_number_int.f l0).bind fun t191=>(some (t191,0)))
theorem mobs_Number.calls (A0:Option Addr) (c0:Nat) (l0:List Int) (r1:List Int) (r2:Int) (w:World) (hr0:Kd.C (Kd.int .i64) w A0 l0.length l0) (hc0:l0.length≤c0) (h:mobs_Number.f l0=some (r1,r2)) :
  Calls Tra.prog 7 #[.slice A0 l0.length c0] w fun e w'=>∃ v0_:Value,e=.returned (.tuple #[v0_,.int .i64 r2])∧Kd.R (Kd.int .i64) 3 w' w.heap.size (fun _=>True) v0_ r1∧Below w.heap.size w w':=by
 have HR0:=As0.mk hr0;have HC0:=As0.mk hc0;clear hr0 hc0;have HB:=As0.mk (Below.refl w.heap.size w);have H:(if (l0.length:Int) > 12 then (some (([]:List Int),3)) else ((mobs_number_int.f l0).bind fun t191=>(some (t191,0))))=some (r1,r2):=h;clear h
 by_cases c2:(l0.length:Int) > 12
 ·rw [if_pos c2] at H
  have c2b0:decide (12<(l0.length:Int))=true:=zDt c2;have c2b1:decide (12<l0.length)=true:=zDt (by omega);clear c2;simp only [Option.some.injEq,Prod.mk.injEq] at H;obtain ⟨rfl,rfl⟩:=H;go_enter Tra.func7,Tra.ntmps7
  go_wp2
  go_ret2
  exact ⟨_,by rfl,by exact Kd.R_nil _ _ _ _ _,by repeat (with_reducible exact HB.out)⟩
 ·rw [if_neg c2] at H
  have c2b0:decide (12<(l0.length:Int))=false:=zDf c2;have c2b1:decide (12<l0.length)=false:=zDf (by omega);clear c2;replace H:=Option.bind_eq_some_iff.mp H;obtain ⟨t191,A30,H⟩:=H;replace H:(some (t191,0))=some (r1,r2):=H;have A3:=As0.mk A30;clear A30;simp only [Option.some.injEq,Prod.mk.injEq] at H;obtain ⟨rfl,rfl⟩:=H;go_enter Tra.func7,Tra.ntmps7
  go_wp2_with (((with_reducible refine y08 (f:=19) rfl ?_);refine y0n (some 8) rfl rfl Tra.func19 (by kernel_rfl) rfl #[.slice A0 l0.length c0] rfl (by (try simp only [List.map_toArray,List.map_cons,List.map_nil]);rfl) ?_;(with_reducible refine (mobs_number_int.calls _ _ l0 t191 _ ?side1 ?side2 A3.out).mono ?_);(case side1=>repeat (exact HR0.out));(case side2=>exact HC0.out);rintro e w4 ⟨v192,rfl,ho0,hb⟩;refine ⟨_,rfl,?_⟩;have n0_:=As0.mk (Kd.R_lower ho0 (y05 (by repeat (with_reducible exact HB.out))));have n1_:=As0.mk (y04 (by repeat (with_reducible exact HB.out)) hb);clear HB;have HO193:=n0_;have HB:=n1_;clear n0_ n1_;(try clear hb);(try clear hb2);(try clear hk);(try clear hi);(try clear ho0)))
  go_ret2
  exact ⟨_,by rfl,by (with_reducible repeat (first|apply Kd.R_alloc|apply Kd.R_drewN|apply Kd.R_drew));exact HO193.out,by repeat (with_reducible exact HB.out)⟩
end Go.Proofs.Ytfgcijifdbgpaaa.P
