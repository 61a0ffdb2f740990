/- The theorem of MobsNumbers, proved; part 5 of 7: its texts, merged. -/
import Derived.Test.YtdhgeondbnpeoaaNuD
set_option linter.unnecessarySimpa false
set_option linter.defProp false
set_option linter.unusedVariables false
set_option linter.unusedSimpArgs false
set_option maxRecDepth 100000
set_option maxHeartbeats 8000000
namespace Go.Proofs.Ytdhgeondbnpeoaa.P
open Go.RowKit Go.Proofs.Yw.Wd Go.Proofs.Yw.La Go.Proofs.Yw.Mo
section
attribute [local go_sem] y0y y0w y17 y16 y0q y0p y0x y0v
def mobs_Rank.l0:Nat->List Int->Int->Int->List Int->Int->Int->Option (Int × Int)
 |0,_,_,_,_,_,_=>none
 |k+1,x0,x5,x6,x15,x16,x17=>if x17<x16 then (if 0≤x17 then (if x17<(x15.length:Int) then ((mobs_ways.f k (wrap64 ((wrap64 ((x0.length:Int) - 1)) - x17)) x6).bind fun t223=>(mobs_Rank.l0 k x0 (wrap64 (x5+(wrap64 ((rd x15 x17) * t223)))) (mx x6 (wrap64 ((rd x15 x17)+1))) x15 x16 (wrap64 (x17+1)))) else (none)) else (none)) else (some (x5,0))
def mobs_Rank.f (k:Nat) (l0:List Int):Option (Int × Int):=(mobs_read.f k (([l0]:List (List Int)))).bind fun t221=>(if t221=0 then (mobs_Rank.l0 k l0 0 0 l0 (l0.length:Int) 0) else (some (0,t221)))
theorem mobs_Rank.calls (k:Nat) (P0_:Nat->Prop) (A0:Option Addr) (c0:Nat) (l0:List Int) (r1:Int) (r2:Int) (w:World) (hs0:Kd.V (Kd.int .i64) 3 w w.heap.size (fun k_=>P0_ k_) (.slice A0 l0.length c0) l0) (h:mobs_Rank.f k l0=some (r1,r2)) :
  Calls Tra.prog 36 #[.slice A0 l0.length c0] w fun e w'=>e=.returned (.tuple #[.int .i64 r1,.int .i64 r2])∧Below w.heap.size w w':=by
 have HO0:=As0.mk (show Kd.V (Kd.int .i64) 3 w w.heap.size (fun k_=>(P0_ k_∨w.heap.size≤k_)) (.slice A0 l0.length c0) l0 from Kd.V_mono hs0 (fun k_ hk=>.inl hk));have HB:=As0.mk (Below.refl w.heap.size w);have H:((mobs_read.f k (([l0]:List (List Int)))).bind fun t221=>(if t221=0 then (mobs_Rank.l0 k l0 0 0 l0 (l0.length:Int) 0) else (some (0,t221))))=some (r1,r2):=h;clear h;obtain ⟨y218,hy218⟩:∃ y_:List (List Int),y_=(([l0]:List (List Int))):=⟨_,rfl⟩
 replace H:((mobs_read.f k y218).bind fun t221=>(if t221=0 then (mobs_Rank.l0 k l0 0 0 l0 (l0.length:Int) 0) else (some (0,t221))))=some (r1,r2):=by first|(rw [hy218];with_reducible exact H)|(have H2_:=(Option.bind_some _ _).symm.trans H;rw [hy218];with_reducible exact H2_)|(have H2_:=(Option.bind_some _ _).symm.trans H;with_reducible exact H2_)|with_reducible exact H|(rw [hy218];exact H)|exact H
 have Ny218:=As0.mk hy218;clear hy218;replace H:=Option.bind_eq_some_iff.mp H;obtain ⟨t221,A20,H⟩:=H;replace H:(if t221=0 then (mobs_Rank.l0 k l0 0 0 l0 (l0.length:Int) 0) else (some (0,t221)))=some (r1,r2):=H;have A2:=As0.mk A20;clear A20
 by_cases c3:t221=0
 ·rw [if_pos c3] at H
  have c3b0:(t221 == 0)=true:=beq_iff_eq.mpr c3;have c3b1:(t221 != 0)=false:=bne_eq_false_iff_eq.mpr c3;clear c3;have H':=As0.mk H;clear H;go_enter Tra.func36,Tra.ntmps36
  go_wp2_with (first|((with_reducible refine y0n (N:=10) rfl ?_);refine Kd.N_lit (Kd.slice 3 (Kd.int .i64)) _ 29 ?hg (N':=10) ?hd (xs:=([l0]:List (List Int))) (inner:=[.slice A0 l0.length c0]) (ok:=(fun k_=>(P0_ k_∨w.heap.size≤k_))) (okp:=(fun k_=>(P0_ k_∨w.heap.size≤k_))) ?hr ?hp (fun _ hk=>hk) ((show ∀ k_,w.heap.size≤k_->(fun k_=>(P0_ k_∨w.heap.size≤k_)) k_ from fun k_ hk=>(.inr (Nat.le_trans (y04 (by repeat (with_reducible first|exact HB.out|apply y01|apply y00|apply y02))) hk))) _ (zLe _)) (Below.refl _ _) (zLe _) (by simp) ?_;(case hd=>rfl);(case hg=>rfl);(case hr=>first|(go_simp;done)|(go_simp;rfl));(case hp=>exact (Reps.one (show Kd.FK (Kd.slice 3 (Kd.int .i64)) _ _ l0 [.slice A0 l0.length c0] from (Kd.FK_slice_mk (Kd.V_reads' (Kd.V_mono (ok':=(fun k_=>(P0_ k_∨w.heap.size≤k_))) (HO0.out) (fun k_ hk=>hk))).2.1 (Kd.V_F (Kd.V_mono (ok':=(fun k_=>(P0_ k_∨w.heap.size≤k_))) (HO0.out) (fun k_ hk=>hk))))) (Reps.none _ _)));intro v219 w4 ho5 hb hg_ hnew_;clear hg_ hnew_;(first|rw [← Ny218.out] at ho5|(simp only [Int.reduceToNat] at ho5;rw [← Ny218.out] at ho5));have n0_:=As0.mk (Kd.V_elder' (by (with_reducible repeat (first|apply Kd.V_alloc|apply Kd.V_drewN|apply Kd.V_drew));exact HO0.out) (Kd.N_base ho5) hb);have n1_:=As0.mk (Kd.N_lower ho5 (y04 (by repeat (with_reducible first|exact HB.out|apply y01|apply y00|apply y02))));have n2_:=As0.mk (y03 (by repeat (with_reducible first|exact HB.out|apply y01|apply y00|apply y02)) hb);clear HO0;clear HB;have HO0:=n0_;have HO220:=n1_;have HB:=n2_;clear n0_ n1_ n2_;clear hb ho5;obtain ⟨Ao6,co6,eo6⟩:=Kd.N_slice HO220.out;subst eo6)|((with_reducible refine y0d (f:=49) rfl ?_);refine y12 (some 11) rfl rfl Tra.func49 (by kernel_rfl) rfl #[.slice Ao6 y218.length co6] rfl (by (try simp only [List.map_toArray,List.map_cons,List.map_nil]);first|done|rfl|(simp only [List.length_drop,List.length_take];rfl)) ?_;(with_reducible refine (mobs_read.calls k _ _ y218 t221 _ ?side1 ?side2 A2.out).mono ?_);(case side1=>repeat (first|exact (Kd.N_reads' HO220.out).2.2|(with_reducible refine Kd.C_alloc ?_ _)|(with_reducible refine Kd.C_drewN ?_ _)|(with_reducible refine Kd.C_drew ?_)));(case side2=>exact (Kd.N_reads' HO220.out).2.1);rintro e w7 ⟨rfl,hb⟩;refine ⟨_,rfl,?_⟩;have n0_:=As0.mk (Kd.V_below (by (with_reducible repeat (first|apply Kd.V_alloc|apply Kd.V_drewN|apply Kd.V_drew));exact HO0.out) hb);have n1_:=As0.mk (Kd.N_below (by (with_reducible repeat (first|apply Kd.N_alloc|apply Kd.N_drewN|apply Kd.N_drew));exact HO220.out) hb);have n2_:=As0.mk (y03 (by repeat (with_reducible first|exact HB.out|apply y01|apply y00|apply y02)) hb);clear HO0;clear HO220;clear HB;have HO0:=n0_;have HO220:=n1_;have HB:=n2_;clear n0_ n1_ n2_;(try clear hb);(try clear hb2);(try clear hk);(try clear hi)))
  go_loopg [5,6,17] k (fun kq v5 v6 v17 w'=>∃ (x5_1:Int) (x6_1:Int) (x17_1:Int),v5=.int .i64 x5_1∧v6=.int .i64 x6_1∧v17=.int .i64 x17_1∧As0 (mobs_Rank.l0 kq l0 x5_1 x6_1 l0 (l0.length:Int) x17_1=some (r1,r2))∧As0 (kq≤k)∧As0 (Kd.V (Kd.int .i64) 3 w' w.heap.size (fun k_=>(P0_ k_∨w.heap.size≤k_)) (.slice A0 l0.length c0) l0)∧As0 (Kd.V (Kd.int .i64) 3 w' w.heap.size (fun k_=>(P0_ k_∨w.heap.size≤k_)) (.slice A0 l0.length c0) l0)∧As0 (Below w.heap.size w w'))
  case atStart=>exact ⟨(0),(0),(0),(by first|rfl|(simp;done)|(simp [*];done)),(by first|rfl|(simp;done)|(simp [*];done)),(by first|rfl|(simp;done)|(simp [*];done)),H',⟨zLe _⟩,⟨by (with_reducible repeat (first|apply Kd.V_alloc|apply Kd.V_drewN|apply Kd.V_drew));exact Kd.V_mono HO0.out (fun _ hk=>hk.1)⟩,⟨by (with_reducible repeat (first|apply Kd.V_alloc|apply Kd.V_drewN|apply Kd.V_drew));exact Kd.V_mono HO0.out (fun _ hk=>hk.1)⟩,⟨by repeat (with_reducible first|exact HB.out|apply y01|apply y00|apply y02)⟩⟩
  case round =>
   clear H'
   try clear p2
   try clear c3
   try clear c3b0
   try clear c3b1
   try clear c4
   obtain ⟨x5_1,x6_1,x17_1,rfl,rfl,rfl,HA,HK1,HO_0,HO_15,HB⟩:=hrel;cases gk with
   |zero=>exact absurd HA.out (by simp [mobs_Rank.l0])
   |succ k1 =>
    have H:=HA.out;clear HA;simp only [mobs_Rank.l0] at H
    by_cases c8:x17_1<(l0.length:Int)
    ·rw [if_pos c8] at H
     have c8b0:decide (x17_1<(l0.length:Int))=true:=zDt c8;clear c8
     by_cases c9:0≤x17_1
     ·rw [if_pos c9] at H
      have c9b0:decide (0≤x17_1)=true:=zDt c9;clear c9
      by_cases c10:x17_1<(l0.length:Int)
      ·rw [if_pos c10] at H
       have c10b0:decide (x17_1<(l0.length:Int))=true:=zDt c10;clear c10;replace H:=Option.bind_eq_some_iff.mp H;obtain ⟨t223,A110,H⟩:=H;replace H:(mobs_Rank.l0 k1 l0 (wrap64 (x5_1+(wrap64 ((rd l0 x17_1) * t223)))) (mx x6_1 (wrap64 ((rd l0 x17_1)+1))) l0 (l0.length:Int) (wrap64 (x17_1+1)))=some (r1,r2):=H;have A11:=As0.mk A110;clear A110;obtain ⟨ji12,hji12⟩:∃ j_:Int,(mx x6_1 (wrap64 ((rd l0 x17_1)+1)))=j_:=⟨_,rfl⟩
       replace H:(mobs_Rank.l0 k1 l0 (wrap64 (x5_1+(wrap64 ((rd l0 x17_1) * t223)))) ji12 l0 (l0.length:Int) (wrap64 (x17_1+1)))=some (r1,r2):=by first|(rw [hji12] at H;exact H)|(simp only [hji12] at H ⊢;exact H)
       (try rw [hji12] at A11)
       have hji12_:(if x6_1<(wrap64 ((rd l0 x17_1)+1)) then (wrap64 ((rd l0 x17_1)+1)) else x6_1)=ji12:=hji12;have H':=As0.mk H;clear H;have p222:0≤(x17_1:Int):=zDo (by with_reducible assumption);have q222:x17_1<(l0.length:Int):=zDo (by with_reducible assumption);obtain ⟨ad222,e222,hx222_0⟩:=Kd.at_int (Kd.V_reads' HO_15.out).2.2 x17_1 p222 q222;cases e222
       replace p222:=eq_true p222;replace q222:=eq_true q222;go_wp2_with (first|((with_reducible refine y0d (f:=67) rfl ?_);refine y12 (some 30) rfl rfl Tra.func67 (by kernel_rfl) rfl #[.int .i64 (wrap64 ((wrap64 ((l0.length:Int) - 1)) - x17_1)),.int .i64 x6_1] rfl (by (try simp only [List.map_toArray,List.map_cons,List.map_nil]);first|done|rfl|(simp only [List.length_drop,List.length_take];rfl)) ?_;(with_reducible refine (mobs_ways.calls k1 (wrap64 ((wrap64 ((l0.length:Int) - 1)) - x17_1)) x6_1 t223 _ A11.out).mono ?_);rintro e w13 ⟨rfl,hb⟩;refine ⟨_,rfl,?_⟩;have n0_:=As0.mk (Kd.V_below (by (with_reducible repeat (first|apply Kd.V_alloc|apply Kd.V_drewN|apply Kd.V_drew));exact HO_0.out) hb);have n1_:=As0.mk (Kd.V_below (by (with_reducible repeat (first|apply Kd.V_alloc|apply Kd.V_drewN|apply Kd.V_drew));exact HO_15.out) hb);have n2_:=As0.mk (y03 (by repeat (with_reducible first|exact HB.out|apply y01|apply y00|apply y02)) hb);clear HO_0;clear HO_15;clear HB;have HO_0:=n0_;have HO_15:=n1_;have HB:=n2_;clear n0_ n1_ n2_;(try clear hb);(try clear hb2);(try clear hk);(try clear hi)))
       go_roundg k1
       case measure=>have:=HK1.out;omega
       case rel=>exact ⟨(wrap64 (x5_1+(wrap64 ((rd l0 x17_1) * t223)))),(ji12),(wrap64 (x17_1+1)),(by first|rfl|(simp;done)|(simp [*];done)),(by first|rfl|(simp;done)|(simp only [← hji12]<;>(first|rfl|simp))|(simp [*];done)),(by first|rfl|(simp;done)|(simp [*];done)),H',⟨by have:=HK1.out;omega⟩,⟨by (with_reducible repeat (first|apply Kd.V_alloc|apply Kd.V_drewN|apply Kd.V_drew));exact HO_0.out⟩,⟨by (with_reducible repeat (first|apply Kd.V_alloc|apply Kd.V_drewN|apply Kd.V_drew));exact HO_15.out⟩,⟨by repeat (with_reducible first|exact HB.out|apply y01|apply y00|apply y02)⟩⟩
      ·rw [if_neg c10] at H
       exact absurd H (by simp)
     ·rw [if_neg c9] at H
      exact absurd H (by simp)
    ·rw [if_neg c8] at H
     have c8b0:decide (x17_1<(l0.length:Int))=false:=zDf c8;clear c8;simp only [Option.some.injEq,Prod.mk.injEq] at H;obtain ⟨rfl,rfl⟩:=H;go_wp2
     go_ret2
     exact ⟨by first|rfl|(simp [y06,y05]<;>rfl)|(simp [*,y06,y05]<;>rfl),by repeat (with_reducible first|exact HB.out|apply y01|apply y00|apply y02)⟩
 ·rw [if_neg c3] at H
  have c3b0:(t221 == 0)=false:=beq_eq_false_iff_ne.mpr c3;have c3b1:(t221 != 0)=true:=bne_iff_ne.mpr c3;simp only [Option.some.injEq,Prod.mk.injEq] at H;obtain ⟨rfl,rfl⟩:=H;go_enter Tra.func36,Tra.ntmps36
  go_wp2_with (first|((with_reducible refine y0n (N:=10) rfl ?_);refine Kd.N_lit (Kd.slice 3 (Kd.int .i64)) _ 29 ?hg (N':=10) ?hd (xs:=([l0]:List (List Int))) (inner:=[.slice A0 l0.length c0]) (ok:=(fun k_=>(P0_ k_∨w.heap.size≤k_))) (okp:=(fun k_=>(P0_ k_∨w.heap.size≤k_))) ?hr ?hp (fun _ hk=>hk) ((show ∀ k_,w.heap.size≤k_->(fun k_=>(P0_ k_∨w.heap.size≤k_)) k_ from fun k_ hk=>(.inr (Nat.le_trans (y04 (by repeat (with_reducible first|exact HB.out|apply y01|apply y00|apply y02))) hk))) _ (zLe _)) (Below.refl _ _) (zLe _) (by simp) ?_;(case hd=>rfl);(case hg=>rfl);(case hr=>first|(go_simp;done)|(go_simp;rfl));(case hp=>exact (Reps.one (show Kd.FK (Kd.slice 3 (Kd.int .i64)) _ _ l0 [.slice A0 l0.length c0] from (Kd.FK_slice_mk (Kd.V_reads' (Kd.V_mono (ok':=(fun k_=>(P0_ k_∨w.heap.size≤k_))) (HO0.out) (fun k_ hk=>hk))).2.1 (Kd.V_F (Kd.V_mono (ok':=(fun k_=>(P0_ k_∨w.heap.size≤k_))) (HO0.out) (fun k_ hk=>hk))))) (Reps.none _ _)));intro v219 w14 ho15 hb hg_ hnew_;clear hg_ hnew_;(first|rw [← Ny218.out] at ho15|(simp only [Int.reduceToNat] at ho15;rw [← Ny218.out] at ho15));have n0_:=As0.mk (Kd.V_elder' (by (with_reducible repeat (first|apply Kd.V_alloc|apply Kd.V_drewN|apply Kd.V_drew));exact HO0.out) (Kd.N_base ho15) hb);have n1_:=As0.mk (Kd.N_lower ho15 (y04 (by repeat (with_reducible first|exact HB.out|apply y01|apply y00|apply y02))));have n2_:=As0.mk (y03 (by repeat (with_reducible first|exact HB.out|apply y01|apply y00|apply y02)) hb);clear HO0;clear HB;have HO0:=n0_;have HO220:=n1_;have HB:=n2_;clear n0_ n1_ n2_;clear hb ho15;obtain ⟨Ao16,co16,eo16⟩:=Kd.N_slice HO220.out;subst eo16)|((with_reducible refine y0d (f:=49) rfl ?_);refine y12 (some 11) rfl rfl Tra.func49 (by kernel_rfl) rfl #[.slice Ao16 y218.length co16] rfl (by (try simp only [List.map_toArray,List.map_cons,List.map_nil]);first|done|rfl|(simp only [List.length_drop,List.length_take];rfl)) ?_;(with_reducible refine (mobs_read.calls k _ _ y218 t221 _ ?side1 ?side2 A2.out).mono ?_);(case side1=>repeat (first|exact (Kd.N_reads' HO220.out).2.2|(with_reducible refine Kd.C_alloc ?_ _)|(with_reducible refine Kd.C_drewN ?_ _)|(with_reducible refine Kd.C_drew ?_)));(case side2=>exact (Kd.N_reads' HO220.out).2.1);rintro e w17 ⟨rfl,hb⟩;refine ⟨_,rfl,?_⟩;have n0_:=As0.mk (Kd.V_below (by (with_reducible repeat (first|apply Kd.V_alloc|apply Kd.V_drewN|apply Kd.V_drew));exact HO0.out) hb);have n1_:=As0.mk (Kd.N_below (by (with_reducible repeat (first|apply Kd.N_alloc|apply Kd.N_drewN|apply Kd.N_drew));exact HO220.out) hb);have n2_:=As0.mk (y03 (by repeat (with_reducible first|exact HB.out|apply y01|apply y00|apply y02)) hb);clear HO0;clear HO220;clear HB;have HO0:=n0_;have HO220:=n1_;have HB:=n2_;clear n0_ n1_ n2_;(try clear hb);(try clear hb2);(try clear hk);(try clear hi)))
  go_ret2
  exact ⟨by first|rfl|(simp [y06,y05]<;>rfl)|(simp [*,y06,y05]<;>rfl),by repeat (with_reducible first|exact HB.out|apply y01|apply y00|apply y02)⟩
def w6_alive.f:Option Bool:=some true
theorem w6_alive.calls (r:Bool) (w:World) (h:w6_alive.f=some r) :
  Calls Tra.prog 20 #[] w fun e w'=>e=.returned (.bool r)∧Below w.heap.size w w':=by
 obtain rfl:=zSi h;exact Ext.alive_calls w
end
section
attribute [local go_sem] y0y y0w y17 y16 y0q y0p y0x y0v
def w6_few.f (l0:List Int) (l1:List Int):Option (Bool):=if (l0.length:Int)≤40 then (some (decide ((l1.length:Int)≤40))) else (some false)
theorem w6_few.calls (A0:Option Addr) (c0:Nat) (l0:List Int) (A1:Option Addr) (c1:Nat) (l1:List Int) (r:Bool) (w:World) (hr0:Kd.C (Kd.int .i64) w A0 l0.length l0) (hc0:l0.length≤c0) (hr1:Kd.C (Kd.int .i64) w A1 l1.length l1) (hc1:l1.length≤c1) (h:w6_few.f l0 l1=some r) :
  Calls Tra.prog 22 #[.slice A0 l0.length c0,.slice A1 l1.length c1] w fun e w'=>e=.returned (.bool r)∧Drawn0 w w':=by
 have HR0:=As0.mk hr0;have HC0:=As0.mk hc0;clear hr0 hc0;have HR1:=As0.mk hr1;have HC1:=As0.mk hc1;clear hr1 hc1;have H:(if (l0.length:Int)≤40 then (some (decide ((l1.length:Int)≤40))) else (some false))=some r:=h;clear h
 by_cases c3:(l0.length:Int)≤40
 ·rw [if_pos c3] at H
  have c3b0:decide ((l0.length:Int)≤40)=true:=zDt c3;have c3b1:decide (l0.length≤40)=true:=zDt (by omega);clear c3;obtain rfl:=zSi H;go_enter Tra.func22,Tra.ntmps22
  go_wp2
  go_ret
  exact ⟨by first|rfl|(simp;done)|(simp [*];done),by repeat (first|exact Drawn0.refl _|apply Drawn0.step)⟩
 ·rw [if_neg c3] at H
  have c3b0:decide ((l0.length:Int)≤40)=false:=zDf c3;have c3b1:decide (l0.length≤40)=false:=zDf (by omega);clear c3;obtain rfl:=zSi H;go_enter Tra.func22,Tra.ntmps22
  go_wp2
  go_ret
  exact ⟨by first|rfl|(simp;done)|(simp [*];done),by repeat (first|exact Drawn0.refl _|apply Drawn0.step)⟩
def r6_Many.l0:Nat->List Int->Int->Int->Option (Int)
 |0,_,_,_=>none
 |k+1,x0,x3,x4=>if x4<(x0.length:Int) then (if 0≤x4 then (r6_Many.l0 k x0 (mx x3 (wrap64 ((rd x0 x4)+1))) (wrap64 (x4+1))) else (none)) else (some x3)
def r6_Many.f (k:Nat) (l0:List Int):Option (Int):=r6_Many.l0 k l0 0 0
theorem r6_Many.calls (k:Nat) (A0:Option Addr) (c0:Nat) (l0:List Int) (r:Int) (w:World) (hr0:Kd.C (Kd.int .i64) w A0 l0.length l0) (hc0:l0.length≤c0) (h:r6_Many.f k l0=some r) :
  Calls Tra.prog 31 #[.slice A0 l0.length c0] w fun e w'=>e=.returned (.int .i64 r)∧Below w.heap.size w w':=by
 have HR0:=As0.mk hr0;have HC0:=As0.mk hc0;clear hr0 hc0;have HB:=As0.mk (Below.refl w.heap.size w);have H:(r6_Many.l0 k l0 0 0)=some r:=h;clear h;have H':=As0.mk H;clear H;go_enter Tra.func31,Tra.ntmps31
 go_wp2
 go_loopg [3,4] k (fun kq v3 v4 w'=>∃ (x3_1:Int) (x4_1:Int),v3=.int .i64 x3_1∧v4=.int .i64 x4_1∧As0 (r6_Many.l0 kq l0 x3_1 x4_1=some r)∧As0 (kq≤k)∧As0 (Below w.heap.size w w'))
 case atStart=>exact ⟨(0),(0),(by first|rfl|(simp;done)|(simp [*];done)),(by first|rfl|(simp;done)|(simp [*];done)),H',⟨zLe _⟩,⟨by repeat (with_reducible first|exact HB.out|apply y01|apply y00|apply y02)⟩⟩
 case round =>
  clear H';obtain ⟨x3_1,x4_1,rfl,rfl,HA,HK1,HB⟩:=hrel;cases gk with
  |zero=>exact absurd HA.out (by simp [r6_Many.l0])
  |succ k1 =>
   have H:=HA.out;clear HA;simp only [r6_Many.l0] at H
   by_cases c2:x4_1<(l0.length:Int)
   ·rw [if_pos c2] at H
    have c2b0:decide (x4_1<(l0.length:Int))=true:=zDt c2;clear c2
    by_cases c3:0≤x4_1
    ·rw [if_pos c3] at H
     have c3b0:decide (0≤x4_1)=true:=zDt c3;clear c3;obtain ⟨ji4,hji4⟩:∃ j_:Int,(mx x3_1 (wrap64 ((rd l0 x4_1)+1)))=j_:=⟨_,rfl⟩
     replace H:(r6_Many.l0 k1 l0 ji4 (wrap64 (x4_1+1)))=some r:=by first|(rw [hji4] at H;exact H)|(simp only [hji4] at H ⊢;exact H)
     have hji4_:(if x3_1<(wrap64 ((rd l0 x4_1)+1)) then (wrap64 ((rd l0 x4_1)+1)) else x3_1)=ji4:=hji4;have H':=As0.mk H;clear H;have p270:0≤(x4_1:Int):=zDo (by with_reducible assumption);have q270:x4_1<(l0.length:Int):=zDo (by with_reducible assumption);obtain ⟨ad270,e270,hx270_0⟩:=Kd.at_int HR0.out x4_1 p270 q270;cases e270
     replace hx270_0:=(HB.out.cell (World.block_lt_of_cell? w _ hx270_0)).trans hx270_0;replace p270:=eq_true p270;replace q270:=eq_true q270;go_wp2
     go_roundg k1
     case measure=>have:=HK1.out;omega
     case rel=>exact ⟨(ji4),(wrap64 (x4_1+1)),(by first|rfl|(simp;done)|(simp only [← hji4]<;>(first|rfl|simp))|(simp [*];done)),(by first|rfl|(simp;done)|(simp [*];done)),H',⟨by have:=HK1.out;omega⟩,⟨by repeat (with_reducible first|exact HB.out|apply y01|apply y00|apply y02)⟩⟩
    ·rw [if_neg c3] at H
     exact absurd H (by simp)
   ·rw [if_neg c2] at H
    have c2b0:decide (x4_1<(l0.length:Int))=false:=zDf c2;clear c2;obtain rfl:=zSi H;go_wp2
    go_ret
    exact ⟨by first|rfl|(simp [y06,y05]<;>rfl)|(simp [*,y06,y05]<;>rfl),by repeat (with_reducible first|exact HB.out|apply y01|apply y00|apply y02)⟩
end
section
attribute [local go_sem] y0y y0w y17 y16 y0q y0p y0x y0v
mutual
def r6_IsParting.l0:Nat->List Int->Int->Int->Option (Bool)
 |0,_,_,_=>none
 |k+1,x0,x3,x4=>if x4<(x0.length:Int) then (if 0≤x4 then (if (rd x0 x4)<0 then (r6_IsParting.j1 k x0 x3 x4 true) else (r6_IsParting.j1 k x0 x3 x4 (decide ((rd x0 x4) > x3)))) else (none)) else (some true)
def r6_IsParting.j1:Nat->List Int->Int->Int->Bool->Option (Bool)
 |0,_,_,_,_=>none
 |k+1,x0,x3,x4,x26=>if x26=true then (some false) else (if 0≤x4 then (if x4<(x0.length:Int) then (if (rd x0 x4)=x3 then (r6_IsParting.l0 k x0 (wrap64 (x3+1)) (wrap64 (x4+1))) else (r6_IsParting.l0 k x0 x3 (wrap64 (x4+1)))) else (none)) else (none))
end
def r6_IsParting.f (k:Nat) (l0:List Int):Option (Bool):=if (l0.length:Int) > 12 then (some false) else (r6_IsParting.l0 k l0 0 0)
theorem r6_IsParting.calls (k:Nat) (A0:Option Addr) (c0:Nat) (l0:List Int) (r:Bool) (w:World) (hr0:Kd.C (Kd.int .i64) w A0 l0.length l0) (hc0:l0.length≤c0) (h:r6_IsParting.f k l0=some r) :
  Calls Tra.prog 30 #[.slice A0 l0.length c0] w fun e w'=>e=.returned (.bool r)∧Drawn0 w w':=by
 have HR0:=As0.mk hr0;have HC0:=As0.mk hc0;clear hr0 hc0;have H:(if (l0.length:Int) > 12 then (some false) else (r6_IsParting.l0 k l0 0 0))=some r:=h;clear h
 by_cases c2:(l0.length:Int) > 12
 ·rw [if_pos c2] at H
  have c2b0:decide (12<(l0.length:Int))=true:=zDt c2;have c2b1:decide (12<l0.length)=true:=zDt (by omega);clear c2;obtain rfl:=zSi H;go_enter Tra.func30,Tra.ntmps30
  go_wp2
  go_ret
  exact ⟨by first|rfl|(simp;done)|(simp [*];done),by repeat (first|exact Drawn0.refl _|apply Drawn0.step)⟩
 ·rw [if_neg c2] at H
  have c2b0:decide (12<(l0.length:Int))=false:=zDf c2;have c2b1:decide (12<l0.length)=false:=zDf (by omega);clear c2;have H':=As0.mk H;clear H;go_enter Tra.func30,Tra.ntmps30
  go_wp2
  go_loopg [3,4] k (fun kq v3 v4 w'=>∃ (x3_1:Int) (x4_1:Int),v3=.int .i64 x3_1∧v4=.int .i64 x4_1∧As0 (r6_IsParting.l0 kq l0 x3_1 x4_1=some r)∧As0 (kq≤k)∧Drawn0 w w')
  case atStart=>exact ⟨(0),(0),(by first|rfl|(simp;done)|(simp [*];done)),(by first|rfl|(simp;done)|(simp [*];done)),H',⟨zLe _⟩,by repeat (first|exact Drawn0.refl _|apply Drawn0.step)⟩
  case round =>
   clear H'
   try clear c2
   try clear c2b0
   try clear c2b1
   try clear p2
   obtain ⟨x3_1,x4_1,rfl,rfl,HA,HK1,⟨m1,rfl⟩⟩:=hrel;cases gk with
   |zero=>exact absurd HA.out (by simp [r6_IsParting.l0])
   |succ k1 =>
    have H:=HA.out;clear HA;simp only [r6_IsParting.l0] at H
    by_cases c3:x4_1<(l0.length:Int)
    ·rw [if_pos c3] at H
     have c3b0:decide (x4_1<(l0.length:Int))=true:=zDt c3;clear c3;have HC4:=As0.mk H;clear H;go_upto_region 7 with (fail)
     go_cut [26] (fun v26 wc=>∃ (kq:Nat) (x26_3:Bool),v26=.bool x26_3∧As0 (r6_IsParting.j1 kq l0 x3_1 x4_1 x26_3=some r)∧As0 (kq≤k1)∧Drawn0 w wc)
     case first =>
      have H:=HC4.out;clear HC4
      by_cases c5:0≤x4_1
      ·rw [if_pos c5] at H
       have c5b0:decide (0≤x4_1)=true:=zDt c5;clear c5
       (first|rw [c5b0]|(simp only [y0o,y0s];rw [c5b0])|skip)
       by_cases c6:(rd l0 x4_1)<0
       ·rw [if_pos c6] at H
        have c6b0:decide ((rd l0 x4_1)<0)=true:=zDt c6;clear c6;have H':=As0.mk H;clear H;have p271:0≤(x4_1:Int):=zDo (by with_reducible assumption);have q271:x4_1<(l0.length:Int):=zDo (by with_reducible assumption);obtain ⟨ad271,e271,hx271_0⟩:=Kd.at_int HR0.out x4_1 p271 q271;cases e271
        replace p271:=eq_true p271;replace q271:=eq_true q271;go_wp2
        go_meet
        case rel=>exact ⟨_,(true),(by first|rfl|(simp;done)|(simp [*];done)),H',⟨by have:=HK1.out;first|omega|exact zLe _⟩,by repeat (first|exact Drawn0.refl _|apply Drawn0.step)⟩
       ·rw [if_neg c6] at H
        have c6b0:decide ((rd l0 x4_1)<0)=false:=zDf c6;clear c6;have H':=As0.mk H;clear H;have p271:0≤(x4_1:Int):=zDo (by with_reducible assumption);have q271:x4_1<(l0.length:Int):=zDo (by with_reducible assumption);obtain ⟨ad271,e271,hx271_0⟩:=Kd.at_int HR0.out x4_1 p271 q271;cases e271
        replace p271:=eq_true p271;replace q271:=eq_true q271;have p272:0≤(x4_1:Int):=zDo (by with_reducible assumption);have q272:x4_1<(l0.length:Int):=zDo (by with_reducible assumption);obtain ⟨ad272,e272,hx272_0⟩:=Kd.at_int HR0.out x4_1 p272 q272;obtain rfl:ad271=ad272:=(by injection e272)
        replace p272:=eq_true p272;replace q272:=eq_true q272;go_wp2
        go_meet
        case rel=>exact ⟨_,(decide ((rd l0 x4_1) > x3_1)),(by first|rfl|(simp;done)|(simp [*];done)),H',⟨by have:=HK1.out;first|omega|exact zLe _⟩,by repeat (first|exact Drawn0.refl _|apply Drawn0.step)⟩
      ·rw [if_neg c5] at H
       exact absurd H (by simp)
     case rest =>
      clear HC4
      try clear c2
      try clear c2b0
      try clear c2b1
      try clear p2
      try clear q2
      try clear hx2
      try clear c3
      try clear c3b0
      try clear c5
      try clear c5b0
      try clear c6
      try clear c6b0
      try clear hx271_0
      try clear hx272_0
      try clear p2
      try clear p271
      try clear p272
      try clear q271
      try clear q272
      obtain ⟨kq,x26_3,rfl,HA,HJ3,⟨mc3,rfl⟩⟩:=hcut;cases kq with
      |zero=>exact absurd HA.out (by simp [r6_IsParting.j1])
      |succ kj3 =>
       have H:=HA.out;clear HA;simp only [r6_IsParting.j1] at H
       by_cases c7:x26_3=true
       ·subst c7
        have H1:(some false)=some r:=by rw [if_pos rfl] at H;exact H
        clear H;have H:=H1;clear H1;obtain rfl:=zSi H;go_wp2
        go_ret
        exact ⟨by first|rfl|(simp;done)|(simp [*];done),by repeat (first|exact Drawn0.refl _|apply Drawn0.step)⟩
       ·replace c7:=Bool.eq_false_iff.mpr c7
        subst c7;have H1:(if 0≤x4_1 then (if x4_1<(l0.length:Int) then (if (rd l0 x4_1)=x3_1 then (r6_IsParting.l0 kj3 l0 (wrap64 (x3_1+1)) (wrap64 (x4_1+1))) else (r6_IsParting.l0 kj3 l0 x3_1 (wrap64 (x4_1+1)))) else (none)) else (none))=some r:=by rw [if_neg (show ¬ (false=true) by decide)] at H;exact H
        clear H;have H:=H1;clear H1
        by_cases c8:0≤x4_1
        ·rw [if_pos c8] at H
         have c8b0:decide (0≤x4_1)=true:=zDt c8;clear c8
         by_cases c9:x4_1<(l0.length:Int)
         ·rw [if_pos c9] at H
          have c9b0:decide (x4_1<(l0.length:Int))=true:=zDt c9;clear c9
          by_cases c10:(rd l0 x4_1)=x3_1
          ·rw [if_pos c10] at H
           have c10b0:((rd l0 x4_1) == x3_1)=true:=beq_iff_eq.mpr c10;have c10b1:((rd l0 x4_1) != x3_1)=false:=bne_eq_false_iff_eq.mpr c10;clear c10;have H':=As0.mk H;clear H;have p273:0≤(x4_1:Int):=zDo (by with_reducible assumption);have q273:x4_1<(l0.length:Int):=zDo (by with_reducible assumption);obtain ⟨ad273,e273,hx273_0⟩:=Kd.at_int HR0.out x4_1 p273 q273;cases e273
           replace p273:=eq_true p273;replace q273:=eq_true q273;go_wp2
           go_roundg kj3
           case measure=>have:=HK1.out;have:=HJ3.out;omega
           case rel=>exact ⟨(wrap64 (x3_1+1)),(wrap64 (x4_1+1)),(by first|rfl|(simp;done)|(simp [*];done)),(by first|rfl|(simp;done)|(simp [*];done)),H',⟨by have:=HK1.out;have:=HJ3.out;omega⟩,by repeat (first|exact Drawn0.refl _|apply Drawn0.step)⟩
          ·rw [if_neg c10] at H
           have c10b0:((rd l0 x4_1) == x3_1)=false:=beq_eq_false_iff_ne.mpr c10;have c10b1:((rd l0 x4_1) != x3_1)=true:=bne_iff_ne.mpr c10;have H':=As0.mk H;clear H;have p273:0≤(x4_1:Int):=zDo (by with_reducible assumption);have q273:x4_1<(l0.length:Int):=zDo (by with_reducible assumption);obtain ⟨ad273,e273,hx273_0⟩:=Kd.at_int HR0.out x4_1 p273 q273;cases e273
           replace p273:=eq_true p273;replace q273:=eq_true q273;go_wp2
           go_roundg kj3
           case measure=>have:=HK1.out;have:=HJ3.out;omega
           case rel=>exact ⟨(x3_1),(wrap64 (x4_1+1)),(by first|rfl|(simp;done)|(simp [*];done)),(by first|rfl|(simp;done)|(simp [*];done)),H',⟨by have:=HK1.out;have:=HJ3.out;omega⟩,by repeat (first|exact Drawn0.refl _|apply Drawn0.step)⟩
         ·rw [if_neg c9] at H
          exact absurd H (by simp)
        ·rw [if_neg c8] at H
         exact absurd H (by simp)
    ·rw [if_neg c3] at H
     have c3b0:decide (x4_1<(l0.length:Int))=false:=zDf c3;clear c3;obtain rfl:=zSi H;go_wp2
     go_ret
     exact ⟨by first|rfl|(simp;done)|(simp [*];done),by repeat (first|exact Drawn0.refl _|apply Drawn0.step)⟩
def r6_Parting.f (k:Nat) (l0:List Int):Option (Int):=if (l0.length:Int) > 12 then (some 3) else ((r6_IsParting.f k l0).bind fun t274=>(if t274=true then (some 0) else (some 2)))
theorem r6_Parting.calls (k:Nat) (A0:Option Addr) (c0:Nat) (l0:List Int) (r:Int) (w:World) (hr0:Kd.C (Kd.int .i64) w A0 l0.length l0) (hc0:l0.length≤c0) (h:r6_Parting.f k l0=some r) :
  Calls Tra.prog 51 #[.slice A0 l0.length c0] w fun e w'=>e=.returned (.int .i64 r)∧Drawn0 w w':=by
 have HR0:=As0.mk hr0;have HC0:=As0.mk hc0;clear hr0 hc0;have H:(if (l0.length:Int) > 12 then (some 3) else ((r6_IsParting.f k l0).bind fun t274=>(if t274=true then (some 0) else (some 2))))=some r:=h;clear h
 by_cases c2:(l0.length:Int) > 12
 ·rw [if_pos c2] at H
  have c2b0:decide (12<(l0.length:Int))=true:=zDt c2;have c2b1:decide (12<l0.length)=true:=zDt (by omega);clear c2;obtain rfl:=zSi H;go_enter Tra.func51,Tra.ntmps51
  go_wp2
  go_ret
  exact ⟨by first|rfl|(simp;done)|(simp [*];done),by repeat (first|exact Drawn0.refl _|apply Drawn0.step)⟩
 ·rw [if_neg c2] at H
  have c2b0:decide (12<(l0.length:Int))=false:=zDf c2;have c2b1:decide (12<l0.length)=false:=zDf (by omega);clear c2;replace H:=Option.bind_eq_some_iff.mp H;obtain ⟨t274,A30,H⟩:=H;replace H:(if t274=true then (some 0) else (some 2))=some r:=H;have A3:=As0.mk A30;clear A30
  by_cases c4:t274=true
  ·subst c4
   have H1:(some 0)=some r:=by rw [if_pos rfl] at H;exact H
   clear H;have H:=H1;clear H1;obtain rfl:=zSi H;go_enter Tra.func51,Tra.ntmps51
   go_wp2_with (first|((with_reducible refine y0d (f:=30) rfl ?_);refine y12 (some 7) rfl rfl Tra.func30 (by kernel_rfl) rfl #[.slice A0 l0.length c0] rfl (by (try simp only [List.map_toArray,List.map_cons,List.map_nil]);first|done|rfl|(simp only [List.length_drop,List.length_take];rfl)) ?_;(with_reducible refine (r6_IsParting.calls k _ _ l0 true _ ?side1 ?side2 A3.out).mono ?_);(case side1=>repeat (first|exact HR0.out|(with_reducible refine Kd.C_alloc ?_ _)|(with_reducible refine Kd.C_drewN ?_ _)|(with_reducible refine Kd.C_drew ?_)));(case side2=>exact HC0.out);rintro e w' ⟨rfl,⟨nd,rfl⟩⟩;refine ⟨_,rfl,?_⟩))
   go_ret
   exact ⟨by first|rfl|(simp;done)|(simp [*];done),by repeat (first|exact Drawn0.refl _|apply Drawn0.step)⟩
  ·replace c4:=Bool.eq_false_iff.mpr c4
   subst c4;have H1:(some 2)=some r:=by rw [if_neg (show ¬ (false=true) by decide)] at H;exact H
   clear H;have H:=H1;clear H1;obtain rfl:=zSi H;go_enter Tra.func51,Tra.ntmps51
   go_wp2_with (first|((with_reducible refine y0d (f:=30) rfl ?_);refine y12 (some 7) rfl rfl Tra.func30 (by kernel_rfl) rfl #[.slice A0 l0.length c0] rfl (by (try simp only [List.map_toArray,List.map_cons,List.map_nil]);first|done|rfl|(simp only [List.length_drop,List.length_take];rfl)) ?_;(with_reducible refine (r6_IsParting.calls k _ _ l0 false _ ?side1 ?side2 A3.out).mono ?_);(case side1=>repeat (first|exact HR0.out|(with_reducible refine Kd.C_alloc ?_ _)|(with_reducible refine Kd.C_drewN ?_ _)|(with_reducible refine Kd.C_drew ?_)));(case side2=>exact HC0.out);rintro e w' ⟨rfl,⟨nd,rfl⟩⟩;refine ⟨_,rfl,?_⟩))
   go_ret
   exact ⟨by first|rfl|(simp;done)|(simp [*];done),by repeat (first|exact Drawn0.refl _|apply Drawn0.step)⟩
end
section
attribute [local go_sem] y0y y0w y17 y16 y0q y0p y0x y0v
def mobs_number_2_int.f (l0:List S89):Option (List Int):=if (∀ p ∈ l0,Ext.In64 p.f0∧Ext.In64 p.f1)∧l0.length<17592186044416 then some (Ext.numL (l0.map fun p=>(p.f0,p.f1))) else none
theorem ycy {w:World} {A:Option Addr} {l:List S89} (h:Kd.C k89 w A l.length l):Ext.Reads2 w A (l.map fun p=>(p.f0,p.f1)):=by
 intro hn;rw [List.length_map] at hn;obtain ⟨ad,hA,hc⟩:=h.2.2 hn;refine ⟨ad,hA,fun j p hj=>?_⟩;rw [List.getElem?_map] at hj;obtain ⟨q,hq,rfl⟩:=Option.map_eq_some_iff.1 hj;obtain ⟨c,hs,hr,hcell⟩:=hc j q hq;obtain rfl:=yiu hr;have e:k89.sz=2:=rfl;rw [e] at hcell;exact ⟨hcell 0 _ rfl,hcell 1 _ rfl⟩
theorem mobs_number_2_int.own (A0:Option Addr) (c0:Nat) (l0:List S89) (r1:List Int) (w:World) (hr0:Kd.C k89 w A0 l0.length l0) (hc0:l0.length≤c0) (h:mobs_number_2_int.f l0=some r1) :
  Calls Tra.prog 84 #[.slice A0 l0.length c0] w fun e w'=>∃ v0_:Value,e=.returned v0_∧Ext.OwnI w' w.heap.size v0_ r1∧Below w.heap.size w w':=by
 unfold mobs_number_2_int.f at h;split at h
 ·rename_i hL
  obtain rfl:=zSi h;exact (by have:=Ext.num2_all A0 c0 (l0.map fun p=>(p.f0,p.f1)) w (ycy hr0) (by simpa using hL.1) (by simpa using hL.2);rwa [List.length_map] at this)
 ·cases h
end
section
attribute [local go_sem] y0y y0w y17 y16 y0q y0p y0x y0v
def mobs_below.l0:Nat->List Int->List Int->List (S89)->Int->Int->Option (List Int)
 |0,_,_,_,_,_=>none
 |k+1,x0,x1,x5,x8,x9=>if x9<x8 then (if 0≤x9 then (if x9<(x0.length:Int) then (if x9<(x1.length:Int) then (if x5.length<8796093022208 then (mobs_below.l0 k x0 x1 (x5 ++ [(⟨rd x0 x9,rd x1 x9⟩:S89)]) x8 (wrap64 (x9+1))) else (none)) else (none)) else (none)) else (none)) else ((mobs_number_2_int.f x5).bind fun t605=>(some t605))
def mobs_below.f (k:Nat) (l0:List Int) (l1:List Int):Option (List Int):=mobs_below.l0 k l0 l1 ([]:List (S89)) (l0.length:Int) 0
def mobs_below.T5:Bool × List (List Nat × List Nat):=(true,[([],[]),([],[]),([],[]),([1,2],[1,2]),([3],[3]),([],[]),([],[]),([5,6],[5,6]),([7],[7]),([4,8],[4,8]),([9],[9]),([0,10],[0,10]),([11,11,0,1,2,3,4,5,6,7,8,9,10,11],[0,11])])
def mobs_below.B5:List Nat:=[0,0,0,6,14,0,0,96,224,510,1022,2047,4095]
theorem mobs_below.tab5:rtab .any (yh9 Tra.f63 5)=mobs_below.T5:=by kernel_rfl
theorem mobs_below.bits5:y37 mobs_below.T5.2 mobs_below.B5=true:=by kernel_rfl
theorem mobs_below.flat (k:Nat) (A0:Option Addr) (c0:Nat) (l0:List Int) (A1:Option Addr) (c1:Nat) (l1:List Int) (r:List Int) (w:World) (hr0:Kd.C (Kd.int .i64) w A0 l0.length l0) (hc0:l0.length≤c0) (hr1:Kd.C (Kd.int .i64) w A1 l1.length l1) (hc1:l1.length≤c1) (h:mobs_below.f k l0 l1=some r) :
  Calls Tra.prog 63 #[.slice A0 l0.length c0,.slice A1 l1.length c1] w fun e w'=>∃ v0_:Value,e=.returned (v0_)∧Ext.OwnI w' w.heap.size v0_ r∧Below w.heap.size w w':=by
 have hu89:=Tra.underlying89;have HR0:=As0.mk hr0;have HC0:=As0.mk hc0;clear hr0 hc0;have HR1:=As0.mk hr1;have HC1:=As0.mk hc1;clear hr1 hc1;have HB:=As0.mk (Below.refl w.heap.size w);have H:(mobs_below.l0 k l0 l1 ([]:List (S89)) (l0.length:Int) 0)=some r:=h;clear h;have H':=As0.mk H;clear H;go_enter Tra.func63,Tra.ntmps63
 go_wp2
 go_loopg [5,9] k (fun kq v5 v9 w'=>∃ (x5_1:List (S89)) (x9_1:Int),v9=.int .i64 x9_1∧As0 (mobs_below.l0 kq l0 l1 x5_1 (l0.length:Int) x9_1=some r)∧As0 (kq≤k)∧As0 (Kd.R k89 89 w' w.heap.size (fun _=>True) v5 x5_1)∧As0 (Below w.heap.size w w'))
 case atStart=>exact ⟨(([]:List (S89))),(0),(by first|rfl|(simp;done)|(simp [*];done)),H',⟨zLe _⟩,⟨by first|exact Kd.R_nil _ _ _ _ _|exact Kd.N_nil _ _ _ _ _|exact Kd.V_nil _ _ _ _ _|exact Kd.Q_nil _ _ _ _ _|exact Kd.S_nil _ _ _ _ _⟩,⟨by repeat (with_reducible first|exact HB.out|apply y01|apply y00|apply y02)⟩⟩
 case round =>
  clear H'
  try clear c1
  try clear p2
  obtain ⟨x5_1,x9_1,rfl,HA,HK1,HO_5,HB⟩:=hrel;cases gk with
  |zero=>exact absurd HA.out (by simp [mobs_below.l0])
  |succ k1 =>
   have H:=HA.out;clear HA;simp only [mobs_below.l0] at H
   by_cases c3:x9_1<(l0.length:Int)
   ·rw [if_pos c3] at H
    have c3b0:decide (x9_1<(l0.length:Int))=true:=zDt c3;clear c3
    by_cases c4:0≤x9_1
    ·rw [if_pos c4] at H
     have c4b0:decide (0≤x9_1)=true:=zDt c4;clear c4
     by_cases c5:x9_1<(l0.length:Int)
     ·rw [if_pos c5] at H
      have c5b0:decide (x9_1<(l0.length:Int))=true:=zDt c5;clear c5
      by_cases c6:x9_1<(l1.length:Int)
      ·rw [if_pos c6] at H
       have c6b0:decide (x9_1<(l1.length:Int))=true:=zDt c6;clear c6
       by_cases c7:x5_1.length<8796093022208
       ·rw [if_pos c7] at H
        have LMc7:=As0.mk c7;clear c7;obtain ⟨y602,hy602⟩:∃ y_:List (S89),y_=(x5_1 ++ [(⟨rd l0 x9_1,rd l1 x9_1⟩:S89)]):=⟨_,rfl⟩
        replace H:(mobs_below.l0 k1 l0 l1 y602 (l0.length:Int) (wrap64 (x9_1+1)))=some r:=by first|(rw [hy602];with_reducible exact H)|(have H2_:=(Option.bind_some _ _).symm.trans H;rw [hy602];with_reducible exact H2_)|(have H2_:=(Option.bind_some _ _).symm.trans H;with_reducible exact H2_)|with_reducible exact H|(rw [hy602];exact H)|exact H
        have Ny602:=As0.mk hy602;clear hy602;have H':=As0.mk H;clear H
        try go_wp2
        have n0_:=As0.mk (Kd.R_drew HO_5.out);have n1_:=As0.mk (y02 HB.out);clear HO_5;clear HB;have HO_5:=n0_;have HB:=n1_;clear n0_ n1_;have p600:0≤(x9_1:Int):=zDo (by with_reducible assumption);have q600:x9_1<(l0.length:Int):=zDo (by with_reducible assumption);obtain ⟨ad600,e600,hx600_0⟩:=Kd.at_int HR0.out x9_1 p600 q600;have hw600_0:=hx600_0;cases e600
        replace hx600_0:=(HB.out.cell (World.block_lt_of_cell? w _ hx600_0)).trans hx600_0;replace p600:=eq_true p600;replace q600:=eq_true q600;have p601:0≤(x9_1:Int):=zDo (by with_reducible assumption);have q601:x9_1<(l1.length:Int):=zDo (by with_reducible assumption);obtain ⟨ad601,e601,hx601_0⟩:=Kd.at_int HR1.out x9_1 p601 q601;have hw601_0:=hx601_0;cases e601
        replace hx601_0:=(HB.out.cell (World.block_lt_of_cell? w _ hx601_0)).trans hx601_0;replace p601:=eq_true p601;replace q601:=eq_true q601;refine yam (n:=13) (S:=fun w'=>w'.cell? (ad600.add (x9_1).toNat)=some (.int .i64 (rd l0 x9_1))∧w'.cell? (ad601.add (x9_1).toNat)=some (.int .i64 (rd l1 x9_1))) (ds:=[]) #[false,false,false,false,false,false,false,false,false,false,false,false,false] (by kernel_rfl) rfl rfl ⟨((HB.out.cell (World.block_lt_of_cell? w _ hw600_0)).trans hw600_0),((HB.out.cell (World.block_lt_of_cell? w _ hw601_0)).trans hw601_0)⟩ (fun hHeld=>?_);refine y3y mobs_below.tab5 mobs_below.bits5 (fun HT_ HW_=>?_);generalize wr.drew=w8 at HO_5 HB hx600_0 hx601_0 hHeld ⊢;refine y19 (i:=0) (N:=some 12) (v:=?_) (a':=?_) #[true,false,false,false,false,false,false,false,false,false,false,false,false] rfl rfl (y0r HT_.out (by kernel_rfl)) (fun _ _ _ h=>h) (Or.inl ⟨by rfl,?_⟩) ?_ ?_;rotate_left
        ·intro w'
         go_simp
         with_reducible rfl
        rotate_left
        ·simp only [Act.put,List.setIfInBounds_toArray,List.set_cons_zero,List.set_cons_succ,y0o,y0s]
         rfl
        refine y19 (i:=1) (N:=some 13) (v:=?_) (a':=?_) #[true,true,false,false,false,false,false,false,false,false,false,false,false] rfl rfl (y0r HT_.out (by kernel_rfl)) (fun _ _ _ h=>h) (Or.inl ⟨by rfl,?_⟩) ?_ ?_;rotate_left
        ·intro w'
         go_simp
         with_reducible rfl
        rotate_left
        ·simp only [Act.put,List.setIfInBounds_toArray,List.set_cons_zero,List.set_cons_succ,y0o,y0s]
         rfl
        refine y19 (i:=2) (N:=some 14) (v:=?_) (a':=?_) #[true,true,true,false,false,false,false,false,false,false,false,false,false] rfl rfl (y0r HT_.out (by kernel_rfl)) (fun _ _ _ h=>h) (Or.inl ⟨by rfl,?_⟩) ?_ ?_;rotate_left
        ·intro w'
         go_simp
         with_reducible rfl
        rotate_left
        ·simp only [Act.put,List.setIfInBounds_toArray,List.set_cons_zero,List.set_cons_succ,y0o,y0s]
         rfl
        refine y19 (i:=3) (N:=some 15) (v:=?_) (a':=?_) #[true,true,true,true,false,false,false,false,false,false,false,false,false] rfl rfl (y0r HT_.out (by kernel_rfl)) (fun _ _ _ h=>h) (Or.inl ⟨by rfl,?_⟩) ?_ ?_;rotate_left
        ·intro w'
         go_simp
         with_reducible rfl
        rotate_left
        ·simp only [Act.put,List.setIfInBounds_toArray,List.set_cons_zero,List.set_cons_succ,y0o,y0s]
         rfl
        refine y19 (i:=5) (N:=some 17) (v:=?_) (a':=?_) #[true,true,true,true,false,true,false,false,false,false,false,false,false] rfl rfl (y0r HT_.out (by kernel_rfl)) (fun _ _ _ h=>h) (Or.inl ⟨by rfl,?_⟩) ?_ ?_;rotate_left
        ·intro w'
         go_simp
         with_reducible rfl
        rotate_left
        ·simp only [Act.put,List.setIfInBounds_toArray,List.set_cons_zero,List.set_cons_succ,y0o,y0s]
         rfl
        refine y19 (i:=6) (N:=some 18) (v:=?_) (a':=?_) #[true,true,true,true,false,true,true,false,false,false,false,false,false] rfl rfl (y0r HT_.out (by kernel_rfl)) (fun _ _ _ h=>h) (Or.inl ⟨by rfl,?_⟩) ?_ ?_;rotate_left
        ·intro w'
         go_simp
         with_reducible rfl
        rotate_left
        ·simp only [Act.put,List.setIfInBounds_toArray,List.set_cons_zero,List.set_cons_succ,y0o,y0s]
         rfl
        refine y19 (i:=7) (N:=some 19) (v:=?_) (a':=?_) #[true,true,true,true,false,true,true,true,false,false,false,false,false] rfl rfl (y0r HT_.out (by kernel_rfl)) (fun _ _ _ h=>h) (Or.inl ⟨by rfl,?_⟩) ?_ ?_;rotate_left
        ·intro w'
         go_simp
         with_reducible rfl
        rotate_left
        ·simp only [Act.put,List.setIfInBounds_toArray,List.set_cons_zero,List.set_cons_succ,y0o,y0s]
         rfl
        refine take_ (i:=4) (N:=some 16) (v:=?_) (a':=?_) #[true,true,true,true,true,true,true,true,false,false,false,false,false] rfl rfl (y2z HT_.out HW_.out (by kernel_rfl)) (fun _ _ _ h=>h) (Or.inl ⟨by rfl,?_⟩) hHeld ?_ ?_;rotate_left
        ·rintro w' ⟨s0,s1⟩
         go_simp
         with_reducible rfl
        rotate_left
        ·simp only [Act.put,List.setIfInBounds_toArray,List.set_cons_zero,List.set_cons_succ,y0o,y0s]
         rfl
        refine take_ (i:=8) (N:=some 20) (v:=?_) (a':=?_) #[true,true,true,true,true,true,true,true,true,false,false,false,false] rfl rfl (y2z HT_.out HW_.out (by kernel_rfl)) (fun _ _ _ h=>h) (Or.inl ⟨by rfl,?_⟩) hHeld ?_ ?_;rotate_left
        ·rintro w' ⟨s0,s1⟩
         go_simp
         with_reducible rfl
        rotate_left
        ·simp only [Act.put,List.setIfInBounds_toArray,List.set_cons_zero,List.set_cons_succ,y0o,y0s]
         rfl
        refine y19 (i:=9) (N:=some 21) (v:=?_) (a':=?_) #[true,true,true,true,true,true,true,true,true,true,false,false,false] rfl rfl (y0r HT_.out (by kernel_rfl)) (fun _ _ _ h=>h) (Or.inl ⟨by rfl,?_⟩) ?_ ?_;rotate_left
        ·intro w'
         go_simp
         with_reducible rfl
        rotate_left
        ·simp only [Act.put,List.setIfInBounds_toArray,List.set_cons_zero,List.set_cons_succ,y0o,y0s]
         rfl
        refine one_ (i:=10) (N:=some 22) #[true,true,true,true,true,true,true,true,true,true,true,false,false] rfl rfl (y4w HT_.out (by kernel_rfl)) (by decide) (fun K hK=>?_);refine value_ (w1:=?_) (v:=?_) (by rfl) rfl ?_ ?_;rotate_left 2
        ·go_simp
         constructor
         ·rfl
         ·rfl
        refine hK.out _ _ ⟨(World.cell?_alloc_lt _ _ _ (World.block_lt_of_cell? _ _ (((HB.out.cell (World.block_lt_of_cell? w _ hw600_0)).trans hw600_0)))).trans (((HB.out.cell (World.block_lt_of_cell? w _ hw600_0)).trans hw600_0)),(World.cell?_alloc_lt _ _ _ (World.block_lt_of_cell? _ _ (((HB.out.cell (World.block_lt_of_cell? w _ hw601_0)).trans hw601_0)))).trans (((HB.out.cell (World.block_lt_of_cell? w _ hw601_0)).trans hw601_0))⟩ (fun hHeld=>?_);clear hK K;refine ybt (a':=?_) ?_ ?_;rotate_left
        ·show Act.put _ (some 22) _=_
         simp only [Act.put,List.setIfInBounds_toArray,List.set_cons_zero,List.set_cons_succ,y0o,y0s];rfl
        refine one_ (i:=11) (N:=some 23) #[true,true,true,true,true,true,true,true,true,true,true,true,false] rfl rfl (y4w HT_.out (by kernel_rfl)) (by decide) (fun K hK=>?_);refine Kd.R_append_step k89 (w0:=w) w.heap.size (by rfl) (.tmp 12) (.tmp 22) 88 89 (.agg #[(.int .i64 0),(.int .i64 0)]) 16 rfl Tra.underlying88 info89 rfl (by decide) (by omega) u5 x5_1 (⟨rd l0 x9_1,rd l1 x9_1⟩:S89) [.int .i64 (rd l0 x9_1),.int .i64 (rd l1 x9_1)] (fun _=>True) (fun _=>False) rfl rfl ?aP (fun _ hk=>hk.elim) ?aF ?aO ?aB ?aS ?aL ?_
        (case aP=>exact k89_mkM _ _ _ (⟨rd l0 x9_1,rd l1 x9_1⟩:S89))
        (case aB=>exact (by repeat (with_reducible first|exact HB.out|apply y01|apply y00|apply y02)))
        (case aF=>exact (fun _ _=>trivial))
        (case aO=>exact (by (with_reducible repeat (first|apply Kd.R_alloc|apply Kd.R_drewN|apply Kd.R_drew));exact HO_5.out))
        (case aS=>exact (y04 (by repeat (with_reducible first|exact HB.out|apply y01|apply y00|apply y02))))
        (case aL=>have:=LMc7.out;omega)
        intro v603 w9 ho hb hg hat;rw [← Ny602.out] at ho;have n0_:=As0.mk (hb);have n1_:=As0.mk (ho);clear HB;clear HO_5;have HB:=n0_;have HO604:=n1_;clear n0_ n1_;clear ho hb hg hat;refine hK.out _ _ ⟨((HB.out.cell (World.block_lt_of_cell? w _ hw600_0)).trans hw600_0),((HB.out.cell (World.block_lt_of_cell? w _ hw601_0)).trans hw601_0)⟩ (fun hHeld=>?_);clear hK K;refine ybt (a':=?_) ?_ ?_;rotate_left
        ·show Act.put _ (some 23) _=_
         simp only [Act.put,List.setIfInBounds_toArray,List.set_cons_zero,List.set_cons_succ,y0o,y0s];rfl
        refine y19 (i:=12) (N:=some 5) (v:=?_) (a':=?_) #[true,true,true,true,true,true,true,true,true,true,true,true,true] rfl rfl (y0r HT_.out (by kernel_rfl)) (fun _ _ _ h=>h) (Or.inl ⟨by rfl,?_⟩) ?_ ?_;rotate_left
        ·intro w'
         go_simp
         with_reducible rfl
        rotate_left
        ·simp only [Act.put,List.setIfInBounds_toArray,List.set_cons_zero,List.set_cons_succ,y0o,y0s]
         rfl
        refine yj1 (y82 HT_.out (by kernel_rfl)) ?_
        try go_wp2
        go_roundg k1
        case measure=>have:=HK1.out;omega
        case rel=>exact ⟨(y602),(wrap64 (x9_1+1)),(by first|rfl|(simp;done)|(simp [*];done)),H',⟨by have:=HK1.out;omega⟩,⟨by (with_reducible repeat (first|apply Kd.R_alloc|apply Kd.R_drewN|apply Kd.R_drew));exact HO604.out⟩,⟨by repeat (with_reducible first|exact HB.out|apply y01|apply y00|apply y02)⟩⟩
       ·rw [if_neg c7] at H
        exact absurd H (by simp)
      ·rw [if_neg c6] at H
       exact absurd H (by simp)
     ·rw [if_neg c5] at H
      exact absurd H (by simp)
    ·rw [if_neg c4] at H
     exact absurd H (by simp)
   ·rw [if_neg c3] at H
    have c3b0:decide (x9_1<(l0.length:Int))=false:=zDf c3;clear c3;replace H:=Option.bind_eq_some_iff.mp H;obtain ⟨t605,A100,H⟩:=H;replace H:(some t605)=some r:=H;have A10:=As0.mk A100;clear A100;obtain rfl:=zSi H;obtain ⟨Ao11,co11,eo11⟩:=Kd.R_slice HO_5.out;subst eo11;go_wp2_with (first|((with_reducible refine y0d (f:=84) rfl ?_);refine y12 (some 26) rfl rfl Tra.func84 (by kernel_rfl) rfl #[.slice Ao11 x5_1.length co11] rfl (by (try simp only [List.map_toArray,List.map_cons,List.map_nil]);first|done|rfl|(simp only [List.length_drop,List.length_take];rfl)) ?_;(with_reducible refine (mobs_number_2_int.own _ _ x5_1 t605 _ ?side1 ?side2 A10.out).mono ?_);(case side1=>repeat (first|exact (Kd.R_reads' HO_5.out).2.2|(with_reducible refine Kd.C_alloc ?_ _)|(with_reducible refine Kd.C_drewN ?_ _)|(with_reducible refine Kd.C_drew ?_)));(case side2=>exact (Kd.R_reads' HO_5.out).2.1);rintro e w12 ⟨v606,rfl,hoI_,hb⟩;have HOI_:=As0.mk (hoI_.lower (y04 (by repeat (with_reducible first|exact HB.out|apply y01|apply y00|apply y02))));have ho0:=hoI_.toR;clear hoI_;refine ⟨_,rfl,?_⟩;have n0_:=As0.mk (Kd.R_below (by (with_reducible repeat (first|apply Kd.R_alloc|apply Kd.R_drewN|apply Kd.R_drew));exact HO_5.out) hb);have n1_:=As0.mk (Kd.R_lower ho0 (y04 (by repeat (with_reducible first|exact HB.out|apply y01|apply y00|apply y02))));have n2_:=As0.mk (y03 (by repeat (with_reducible first|exact HB.out|apply y01|apply y00|apply y02)) hb);clear HO_5;clear HB;have HO_5:=n0_;have HO607:=n1_;have HB:=n2_;clear n0_ n1_ n2_;(try clear hb);(try clear hb2);(try clear hk);(try clear hi);(try clear ho0)))
    go_ret
    exact ⟨_,by first|rfl|(simp [y06,y05]<;>rfl)|(simp [*,y06,y05]<;>rfl),HOI_.out,by repeat (with_reducible first|exact HB.out|apply y01|apply y00|apply y02)⟩
end
end Go.Proofs.Ytdhgeondbnpeoaa.P
namespace Go.Proofs.Ytdhgeondbnpeoaa.Ext
open Go.RowKit Go.Proofs.Yw.Wd Go.Proofs.Yw.La Go.Proofs.Yw.Mo
attribute [local go_sem] y0y y0w y17 y16 y0q y0p y0x y0v
def y5a (x y:Int) (out:List Int):List Int:=out.map fun z=>if z=x then y else z
def y1p (x y:Int) (out:List Int) (j:Nat):List Int:=y5a x y (out.take j) ++ out.drop j
def y4b (b:List Int) (i k:Nat) (out:List Int):List Int:=if b.getD i 0≠b.getD k 0∨out.getD i 0=out.getD k 0 then out else y5a (out.getD i 0) (out.getD k 0) out
def y4x (b:List Int) (i:Nat):Nat->List Int->List Int
 |0,o=>o
 |k+1,o=>y4b b i k (y4x b i k o)
def y2a (b:List Int):Nat->List Int->List Int
 |0,o=>o
 |i+1,o=>y4x b i i (y2a b i o)
def aboveL (a b:List Int):List Int:=numL (y2a b b.length a)
theorem y3z (x y:Int) (o:List Int):(y5a x y o).length=o.length:=by simp [y5a]
theorem ybc (x y:Int) (o:List Int) (j:Nat):(y1p x y o j).length=o.length:=by simp [y1p,y3z];omega
theorem y99 (b:List Int) (i k:Nat) (o:List Int):(y4b b i k o).length=o.length:=by unfold y4b;split<;>simp [y3z]
theorem y4j (b:List Int) (i:Nat):∀ (k:Nat) (o:List Int),(y4x b i k o).length=o.length
 |0,_=>rfl
 |k+1,o=>(y99 b i k _).trans (y4j b i k o)
theorem y2h (b:List Int):∀ (i:Nat) (o:List Int),(y2a b i o).length=o.length
 |0,_=>rfl
 |i+1,o=>(y4j b i i _).trans (y2h b i o)
theorem y9i (x y:Int) (o:List Int):y1p x y o 0=o:=by simp [y1p,y5a]
theorem ybd (x y:Int) (o:List Int):y1p x y o o.length=y5a x y o:=by simp [y1p]
theorem y8e (x y:Int) {o:List Int} {j:Nat} (h:j<o.length):(y1p x y o j).getD j 0=o.getD j 0:=by
 have h1:(y5a x y (o.take j)).length=j:=by rw [y3z,List.length_take];omega
 unfold y1p;rw [List.getD_eq_getElem?_getD,List.getElem?_append_right (by omega),h1,Nat.sub_self,List.getElem?_drop,List.getD_eq_getElem?_getD,Nat.add_zero]
theorem y59 (x y:Int) {o:List Int} {j:Nat} (h:j<o.length):y1p x y o (j+1)=(y1p x y o j).set j (if o.getD j 0=x then y else o.getD j 0):=by
 have h1:(y5a x y (o.take j)).length=j:=by rw [y3z,List.length_take];omega
 unfold y1p;rw [List.set_append,if_neg (by omega),h1,Nat.sub_self,List.drop_eq_getElem_cons h,List.set_cons_zero,List.take_succ_eq_append_getElem h];rw [List.getD_eq_getElem?_getD,List.getElem?_eq_getElem h];unfold y5a;rw [List.map_append,List.append_assoc];rfl
theorem y9j (x y:Int) {o:List Int} {j:Nat} (h:j<o.length) (hne:o.getD j 0≠x):y1p x y o (j+1)=y1p x y o j:=by
 rw [y59 x y h,if_neg hne,← y8e x y h];have hl:j<(y1p x y o j).length:=by rw [ybc];exact h
 rw [List.getD_eq_getElem?_getD,List.getElem?_eq_getElem hl,Option.getD_some,List.set_getElem_self]
theorem yiq {b:List Int} {p:Int->Prop}:∀ {i:Nat} {o:List Int},(∀ x ∈ o,p x)->p 0->∀ x ∈ y2a b i o,p x:=by
 have hg:∀ {o:List Int} (i:Nat),(∀ x ∈ o,p x)->p 0->p (o.getD i 0):=by
  intro o i h h0;rw [List.getD_eq_getElem?_getD];cases hi:o[i]? with
  |none=>exact h0
  |some v=>exact h v (List.mem_of_getElem? hi)
 have hs:∀ {i k:Nat} {o:List Int},(∀ x ∈ o,p x)->p 0->∀ x ∈ y4b b i k o,p x:=by
  intro i k o h h0 x hx;unfold y4b at hx;split at hx
  ·exact h x hx
  ·simp only [y5a,List.mem_map] at hx
   obtain ⟨z,hz,rfl⟩:=hx;split
   ·exact hg k h h0
   ·exact h z hz
 have hi:∀ {i:Nat} (k:Nat) {o:List Int},(∀ x ∈ o,p x)->p 0->∀ x ∈ y4x b i k o,p x:=by
  intro i k
  induction k with
  |zero=>intro o h _;exact h
  |succ k ih=>intro o h h0;exact hs (ih h h0) h0
 intro i
 induction i with
 |zero=>intro o h _;exact h
 |succ i ih=>intro o h h0;exact hi i (ih h h0) h0
theorem above_all (A:Option Addr) (c:Nat) (la:List Int) (B:Option Addr) (cb:Nat) (lb:List Int) (w:World) (hra:Kd.C (Kd.int .i64) w A la.length la) (hrb:Kd.C (Kd.int .i64) w B lb.length lb) (hab:la.length=lb.length) (hok:∀ x ∈ la,In64 x) (hL:la.length<17592186044416) :
  Calls Tra.prog 65 #[.slice A la.length c,.slice B lb.length cb] w fun e w'=>∃ v,e=.returned v∧OwnI w' w.heap.size v (aboveL la lb)∧Below w.heap.size w w':=by
 have HRB:=As0.mk hrb;have HL:=As0.mk hL;have HAB:=As0.mk hab;have HOK:=As0.mk (yiq (b:=lb) (i:=lb.length) hok (by unfold In64;omega));have HA:=As0.mk (clone_calls A c la w hra hL);clear hra hrb hL hab hok;go_enter Tra.func65,Tra.ntmps65
 go_wp2_with fail
 refine HA.out.mono ?_
 rintro e w1 ⟨v5,rfl,hR5,hB1⟩
 have HR1:=As0.mk hR5;have HB1:=As0.mk hB1;clear hR5 hB1 HA;go_wp2_with fail
 go_loopw [16] (fun v16 W=>∃ i:Nat,v16=.int .i64 i∧As0 (i≤lb.length)∧As0 (Kd.R (Kd.int .i64) 3 W w.heap.size (fun _=>True) v5 (y2a lb i la))∧As0 (Below w.heap.size w W)) (fun v16 _=>(lb.length - intOf v16).toNat)
 case atStart=>exact ⟨0,rfl,⟨Nat.zero_le _⟩,HR1,HB1⟩
 case round =>
  obtain ⟨i,rfl,hi,hR,hB⟩:=hrel;have hi':=hi.out;have hab:=HAB.out;have hLo:lb.length<17592186044416:=by have:=HL.out;omega
  by_cases hlt:i<lb.length
  ·obtain ⟨g,cap,hv,hbg,hgl,_⟩:=Kd.R_form hR.out (by rw [y2h];omega)
   rw [y2h,hab] at hv;subst hv;have HLEN:=As0.mk (y2h lb i la);have HI:=As0.mk hlt;clear hab;go_wp2_with fail
   go_loopw [20] (fun v20 W=>∃ k:Nat,v20=.int .i64 k∧As0 (k≤i)∧As0 (Kd.R (Kd.int .i64) 3 W w.heap.size (fun _=>True) (.slice (some ⟨g,0,none⟩) lb.length cap) (y4x lb i k (y2a lb i la)))∧As0 (Below w.heap.size w W)) (fun v20 _=>(i - intOf v20).toNat)
   case atStart=>exact ⟨0,rfl,⟨Nat.zero_le _⟩,hR,hB⟩
   case round =>
    clear hR hB;obtain ⟨k,rfl,hk,hR,hB⟩:=hrel;have hk':=hk.out
    by_cases hki:k<i
    ·have hkl:k<lb.length:=by omega
     have hln:=y4j lb i k (y2a lb i la);have hln2:=HLEN.out;have hab:=HAB.out;obtain ⟨o,ho⟩:∃ o,o=y4x lb i k (y2a lb i la):=⟨_,rfl⟩
     rw [← ho] at hR hln;have HOE:=As0.mk ho;clear ho;obtain ⟨hci,hfi⟩:=Kd.R_celln 0 hR.out (i:Int) (by omega) (by omega);obtain ⟨hck,hfk⟩:=Kd.R_celln 0 hR.out (k:Int) (by omega) (by omega);obtain ⟨bd,rfl,hbi⟩:=Kd.at_int (Kd.C_below HRB.out hB.out) (i:Int) (by omega) (by omega);obtain ⟨bd',hbe,hbk⟩:=Kd.at_int (Kd.C_below HRB.out hB.out) (k:Int) (by omega) (by omega);injection hbe with hbe
     subst hbe;simp only [Int.toNat_natCast,rdOf,rd] at hci hck hbi hbk;obtain ⟨oi,hoi⟩:∃ x,x=o.getD i 0:=⟨_,rfl⟩
     obtain ⟨ok,hok⟩:∃ x,x=o.getD k 0:=⟨_,rfl⟩
     obtain ⟨bi,hbi'⟩:∃ x,x=lb.getD i 0:=⟨_,rfl⟩
     obtain ⟨bk,hbk'⟩:∃ x,x=lb.getD k 0:=⟨_,rfl⟩
     replace hci:wr.cell? ⟨g,i,none⟩=some (.int .i64 oi):=by rw [hoi];exact hci
     replace hck:wr.cell? ⟨g,k,none⟩=some (.int .i64 ok):=by rw [hok];exact hck
     rw [← hbi'] at hbi;rw [← hbk'] at hbk;have HST:=As0.mk (show y4x lb i (k+1) (y2a lb i la)=if bi≠bk∨oi=ok then o else y5a oi ok o from by rw [hbi',hbk',hoi,hok,HOE.out];rfl);have HOI:=As0.mk hoi;have HOK2:=As0.mk hok;have HLN:=As0.mk (hln.trans hln2);clear hoi hok hbi' hbk' hfi hfk hln hln2
     by_cases hbb:bi=bk
     ·by_cases hoo:oi=ok
      ·subst hbb hoo
       have HST2:=As0.mk (HST.out.trans (if_pos (.inr rfl)));clear HST;go_wp2_with fail
       go_quiet (fail)
       go_wp2_with fail
       go_roundw
       case rel=>exact ⟨k+1,by go_num,⟨by omega⟩,⟨by rw [HST2.out];exact Kd.R_drewN hR.out _⟩,⟨y00 hB.out _⟩⟩
       case measure=>simp [intOf];omega
      ·subst hbb
       have HST2:=As0.mk (HST.out.trans (if_neg (by rintro (h|h);exact h rfl;exact hoo h)));have hoo1:(oi == ok)=false:=beq_eq_false_iff_ne.mpr hoo;clear HST;go_wp2_with fail
       go_quiet (fail)
       have HRq:=As0.mk (Kd.R_drewN hR.out nq);have HBq:=As0.mk (y00 hB.out nq);go_wp2_with fail
       go_quiet (fail)
       have HR0:=As0.mk (show Kd.R (Kd.int .i64) 3 _ w.heap.size (fun _=>True) (.slice (some ⟨g,0,none⟩) lb.length cap) (y1p oi ok o 0) from by rw [y9i];exact Kd.R_drewN HRq.out nq);have HB0:=As0.mk (y00 HBq.out nq);clear hci hck hbi hbk hR hB HRq HBq;go_wp2_with fail
       go_loopw [53] (fun v53 W=>∃ j:Nat,v53=.int .i64 j∧As0 (j≤lb.length)∧As0 (Kd.R (Kd.int .i64) 3 W w.heap.size (fun _=>True) (.slice (some ⟨g,0,none⟩) lb.length cap) (y1p oi ok o j))∧As0 (Below w.heap.size w W)) (fun v53 _=>(lb.length - intOf v53).toNat)
       case atStart=>exact ⟨0,rfl,⟨Nat.zero_le _⟩,⟨by first|exact HR0.out|(have h:=HR0.out;rwa [World.drewN_drewN] at h)⟩,⟨by first|exact HB0.out|(have h:=HB0.out;rwa [World.drewN_drewN] at h)⟩⟩
       case round =>
        clear HR0 HB0;obtain ⟨j,rfl,hj,hR,hB⟩:=hrel;have hj':=hj.out
        by_cases hjl:j<lb.length
        ·have hol:j<o.length:=by have:=HLN.out;have:=HAB.out;omega
         obtain ⟨hcj,hfj⟩:=Kd.R_celln 0 hR.out (j:Int) (by omega) (by omega);simp only [Int.toNat_natCast] at hcj hfj;obtain ⟨oj,hoj⟩:∃ x,x=o.getD j 0:=⟨_,rfl⟩
         replace hcj:wr.cell? ⟨g,j,none⟩=some (.int .i64 oj):=by rw [hoj,← y8e oi ok hol];exact hcj
         by_cases hjo:oj=oi
         ·have HP:=Kd.R_putn hR.out (j:Int) ok
          rw [Int.toNat_natCast,show (y1p oi ok o j).set j ok=y1p oi ok o (j+1) from by rw [y59 oi ok hol,← hoj,if_pos hjo]] at HP;have HP2:=As0.mk HP;have HB2:=As0.mk (hB.out.setCell (p:=⟨g,j,none⟩) hbg (.int .i64 ok));subst hjo;clear HP hoj hol;go_wp2_with fail
          go_roundw
          case rel=>exact ⟨j+1,by go_num,⟨by omega⟩,HP2,HB2⟩
          case measure=>simp [intOf];omega
         ·have HP2:=As0.mk (show Kd.R (Kd.int .i64) 3 wr w.heap.size (fun _=>True) (.slice (some ⟨g,0,none⟩) lb.length cap) (y1p oi ok o (j+1)) from by rw [y9j oi ok hol (by rw [← hoj];exact hjo)];exact hR.out)
          have hjo1:(oj == oi)=false:=beq_eq_false_iff_ne.mpr hjo;clear hoj hol;go_wp2_with fail
          go_roundw
          case rel=>exact ⟨j+1,by go_num,⟨by omega⟩,HP2,hB⟩
          case measure=>simp [intOf];omega
        ·have hje:j=lb.length:=by omega
         have HRn:=As0.mk (show Kd.R (Kd.int .i64) 3 wr w.heap.size (fun _=>True) (.slice (some ⟨g,0,none⟩) lb.length cap) (y4x lb i (k+1) (y2a lb i la)) from by
          rw [HST2.out,← ybd,HLN.out,HAB.out];have h:=hR.out;rw [hje] at h;exact h)
         clear hje;go_wp2_with fail
         go_roundw
         case rel=>exact ⟨k+1,by go_num,⟨by omega⟩,HRn,hB⟩
         case measure=>simp [intOf];omega
     ·have HST2:=As0.mk (HST.out.trans (if_pos (.inl hbb)))
      have hbb1:(bi == bk)=false:=beq_eq_false_iff_ne.mpr hbb;have hbb2:(bi != bk)=true:=bne_iff_ne.mpr hbb;clear HST;go_wp2_with fail
      go_quiet (fail)
      go_wp2_with fail
      go_roundw
      case rel=>exact ⟨k+1,by go_num,⟨by omega⟩,⟨by rw [HST2.out];exact Kd.R_drewN hR.out _⟩,⟨y00 hB.out _⟩⟩
      case measure=>simp [intOf];omega
    ·have hke:k=i:=by omega
     have HRn:=As0.mk (show Kd.R (Kd.int .i64) 3 wr w.heap.size (fun _=>True) (.slice (some ⟨g,0,none⟩) lb.length cap) (y2a lb (i+1) la) from by have:=hR.out;rw [hke] at this;exact this);clear hke;go_wp2_with fail
     have hii:=HI.out
     go_roundw
     case rel=>exact ⟨i+1,by go_num,⟨by have:=HI.out;omega⟩,HRn,hB⟩
     case measure=>have:=HI.out;simp [intOf];omega
  ·have hke:i=lb.length:=by omega
   have HR:=As0.mk (show Kd.R (Kd.int .i64) 3 wr w.heap.size (fun _=>True) v5 (y2a lb lb.length la) from hke ▸ hR.out);clear hke;obtain ⟨Ao,co,rfl,hco,hC⟩:=Kd.R_reads HR.out;have HN:=As0.mk (num_all Ao co _ wr hC HOK.out (by rw [y2h];exact HL.out));clear hC;go_wp2_with fail
   refine HN.out.mono ?_
   rintro e w2 ⟨v,rfl,hO,hb⟩
   have HO:=As0.mk (hO.lower hB.out.size);have HB2:=As0.mk (y03 hB.out hb);clear hO hb HN;go_wp2_with fail
   go_ret
   exact ⟨_,rfl,HO.out,HB2.out⟩
end Go.Proofs.Ytdhgeondbnpeoaa.Ext
namespace Go.Proofs.Ytdhgeondbnpeoaa.Ca
open Go.RowKit Go.Mt Go.Proofs.Ytdhgeondbnpeoaa.P Go.Proofs.Yw.Wd Go.Proofs.Yw.La Go.Proofs.Yw.Mo
theorem y9e {w:World} {b:Nat} {xs:List Int} (h:IntBlk w b xs) (hn:xs.length≤9223372036854775807):Kd.C (Kd.int .i64) w (some ⟨b,0,none⟩) xs.length xs:=by
 obtain ⟨cs,fr,h1,h2,h3⟩:=h;refine Kd.C_of_reads (d:=(0:Int)) (h1:=fun _=>rfl) ⟨rfl,hn,fun _=>⟨_,rfl,fun j hj=>?_⟩⟩;rw [y18,cell_of_row w b j cs 3 fr h1];refine h3 j _ ?_;rw [List.getD_eq_getElem?_getD,List.getElem?_eq_getElem hj];rfl
theorem blk_V {w:World} {b c e N:Nat} {xs:List Int} (h:IntBlk w b xs) (hn:xs.length≤9223372036854775807) (hc:xs.length≤c):Kd.V (Kd.int .i64) e w N (fun _=>True) (.slice (some ⟨b,0,none⟩) xs.length c) xs :=
 Kd.V_mk hc fun W' hW=>y9e (h.of_get (hW b trivial h.lt)) hn
theorem y9s {w:World} {N:Nat} {v:Value} {xs:List Int} (h:Ext.OwnI w N v xs) (hx:0<xs.length):ResI N w v xs:=by
 obtain ⟨⟨h1,h2⟩,h3⟩:=h;rcases h2 with ⟨_,h0⟩|⟨g,cap,cur,rfl,hb,hg,hn,hm,hs,ht⟩
 ·omega
 ·refine ⟨g,cap,rfl,hb,cur,(0,0),hg,fun c hc=>?_,fun i x hi=>?_⟩
  ·obtain ⟨y,rfl⟩:=h3 g cur _ rfl hg c hc
   rfl
  ·have hlt:i<xs.length:=(List.getElem?_eq_some_iff.1 hi).1
   have e:(nums IntKind.i64 xs)[i]?=some (Value.int .i64 x):=by simp [nums,hi]
   rw [← ht,List.getElem?_take,if_pos (by omega)] at e;simpa using e
theorem same_l (xs:List Int) (hn:xs.length≤4):∀ (n k i:Nat),n=xs.length - i->n<k->w6_same.l0 k xs xs (i:Int)=some true
 |n,0,i,_,h=>absurd h (by omega)
 |n,k+1,i,h,hk=>by
  unfold w6_same.l0
  by_cases hi:(i:Int)<(xs.length:Int)
  ·rw [if_pos hi,if_pos (by omega),if_pos hi,if_pos rfl,show wrap64 ((i:Int)+1)=((i+1:Nat):Int) by unfold wrap64;omega]
   exact same_l xs hn (n - 1) k (i+1) (by omega) (by omega)
  ·rw [if_neg hi]
theorem ycl (xs:List Int) (hn:xs.length≤4):w6_same.f 60 xs xs=some true:=by
 unfold w6_same.f;rw [if_pos rfl];exact same_l xs hn _ 60 0 rfl (by omega)
theorem two_C {u:World} {b b1 b2:Nat} {xs ys:List Int} (h1:IntBlk u b1 xs) (h2:IntBlk u b2 ys) (hx:xs.length=4) (hy:ys.length=4) (hb:u.heap[b]?=some (.cells #[.slice (some ⟨b1,0,none⟩) 4 4,.slice (some ⟨b2,0,none⟩) 4 4] 29 (0,2))):Kd.C (Kd.slice 3 (Kd.int .i64)) u (some ⟨b,0,none⟩) 2 [xs,ys]:=by
 refine ⟨rfl,by decide,fun _=>⟨_,rfl,fun j p hj=>?_⟩⟩;have e:(Kd.slice 3 (Kd.int .i64)).sz=1:=rfl;have key:∀ (c:Nat) (zs:List Int) (j:Nat),IntBlk u c zs->zs.length=4->(#[Value.slice (some ⟨b1,0,none⟩) 4 4,.slice (some ⟨b2,0,none⟩) 4 4]:Array Value)[j]?=some (.slice (some ⟨c,0,none⟩) 4 4)->∃ c,c.length=1∧(Kd.slice 3 (Kd.int .i64)).K u zs c∧∀ i v,c[i]?=some v->u.cell? ((⟨b,0,none⟩:Addr).add (j * 1+i))=some v:=by
  intro c zs j hc hz hj;refine ⟨[.slice (some ⟨c,0,none⟩) 4 4],rfl,⟨some ⟨c,0,none⟩,4,by rw [hz],by omega,y9e hc (by omega)⟩,fun i v hi=>?_⟩;have hi0:i=0:=by
   have:=(List.getElem?_eq_some_iff.1 hi).1;simp at this;omega
  subst hi0;rw [y18,cell_of_row u b _ _ 29 _ hb,Nat.mul_one,Nat.add_zero,hj];simpa using hi
 rcases j with _|_|j
 ·injection hj with hj
  subst hj;exact key b1 _ 0 h1 hx rfl
 ·have hj':ys=p:=by simpa using hj
  subst hj';exact key b2 _ 1 h2 hy rfl
 ·simp at hj
theorem alK:AlK Tra.prog where
 c36 u b h:=(mobs_Rank.calls 60 (fun _=>True) (some ⟨b,0,none⟩) 3 [0,1,1] 3 0 u (blk_V h (by decide) (by decide)) (by decide +kernel)).mono fun e w' hp=>hp.1
 c25 u b h:=(mobs_Between.flat 60 (fun _=>True) (some ⟨b,0,none⟩) 3 [0,0,1] [0,1,1] 0 u (blk_V h (by decide) (by decide)) (by decide +kernel)).mono fun e w' ⟨v,he,hO,_⟩=>⟨v,he,y9s hO (by decide)⟩
 c16 u:=(mobs_Count.calls 60 4 2 7 0 u (by decide +kernel)).mono fun e w' hp=>hp.1
 c18 u:=(mobs_Plain.calls 60 4 2 6 0 u (by decide +kernel)).mono fun e w' hp=>hp.1
 c23 u b h:=(mobs_Crossed.calls 60 (fun _=>True) (some ⟨b,0,none⟩) 4 [0,1,0,1] 0 1 2 3 true 0 u (blk_V h (by decide) (by decide)) (by decide +kernel)).mono fun e w' hp=>hp.1
 c27 u b1 b2 c1 c2 xs h1 h2 hn:=(w6_same.nocap 60 (some ⟨b1,0,none⟩) c1 xs (some ⟨b2,0,none⟩) c2 xs true u (y9e h1 (by omega)) (y9e h2 (by omega)) (ycl xs hn)).mono fun e w' hp=>hp.1
 c49 u b b1 b2 h1 h2 hb:=(mobs_read.calls 60 (some ⟨b,0,none⟩) 2 [[0,0,1,1],[0,1,1,0]] 0 u (two_C h1 h2 rfl rfl hb) (by decide) (by decide +kernel)).mono fun e w' hp=>hp.1
 c63 u b1 b2 h1 h2:=(mobs_below.flat 60 (some ⟨b1,0,none⟩) 4 [0,0,1,1] (some ⟨b2,0,none⟩) 4 [0,1,1,0] [0,1,2,3] u (y9e h1 (by decide)) (by decide) (y9e h2 (by decide)) (by decide) (by decide +kernel)).mono fun e w' ⟨v,he,hO,_⟩=>⟨v,he,y9s hO (by decide)⟩
 c65 u b1 b2 h1 h2:=by
  refine (Ext.above_all (some ⟨b1,0,none⟩) 4 [0,0,1,1] (some ⟨b2,0,none⟩) 4 [0,1,1,0] u (y9e h1 (by decide)) (y9e h2 (by decide)) rfl (by decide) (by decide)).mono fun e w' ⟨v,he,hO,_⟩=>⟨v,he,?_⟩
  have e1:Ext.aboveL [0,0,1,1] [0,1,1,0]=[0,0,0,0]:=by decide +kernel
  rw [e1] at hO;exact y9s hO (by decide)
end Go.Proofs.Ytdhgeondbnpeoaa.Ca
namespace Go.Proofs.Ytdhgeondbnpeoaa.Ca
open Go.RowKit Go.Mt Go.Tr Go.Conc Go.ConcN
section
theorem yj9 {W w:World} (h:Kept W.heap.size W w):Below W.heap.size W w:=⟨h.os,h.tape,h.output,h.size,h.old⟩
end
section
structure SlD where
 a:Option Addr
 len:Nat
 cap:Nat
 zs:List Int
def SlD.val (d:SlD):Value:=.slice d.a d.len d.cap
def SlD.ok (W:World) (d:SlD):Prop :=
 (d.a=none∧d.len=0∧d.cap=0∧d.zs=[])∨∃ x,d.a=some x∧x.spot=none∧(∃ cs e fr,W.heap[x.block]?=some (.cells cs e fr))∧d.len≤d.cap∧d.cap≤maxLen∧d.zs.length=d.cap ∧
  (∀ i,i<d.zs.length->W.cell? (x.add i)=some (.int .i64 (d.zs.getD i 0)))∧∀ n ∈ d.zs,(Lit.int .i64 n).wf=true
def SlD.ints (d:SlD):Array Value:=(d.zs.map (Value.int .i64)).toArray
def lone (N:Nat):Nat->List SlD->List SlD
 |_,[]=>[]
 |j,d :: ds=>match d.a with
  |none=>d :: lone N j ds
  |some _=>{ d with a:=some ⟨N+j,0,none⟩ } :: lone N (j+1) ds
def als:List SlD->List (Nat × Nat)
 |[]=>[]
 |d :: ds=>match d.a with
  |none=>als ds
  |some x=>(x.block,x.off) :: als ds
def blks:List SlD->List Obj
 |[]=>[]
 |d :: ds=>match d.a with
  |none=>blks ds
  |some _=>.cells d.ints 3 (0,d.ints.size) :: blks ds
theorem yb3:∀ ds:List SlD,(blks ds).length=(als ds).length
 |[]=>rfl
 |d :: ds=>by
  unfold blks als;cases d.a<;>simp [yb3 ds]
theorem y7z (N:Nat):∀ (j:Nat) (ds:List SlD),(lone N j ds).length=ds.length
 |_,[]=>rfl
 |j,d :: ds=>by
  unfold lone;cases d.a<;>simp [y7z]
theorem ya4 (N:Nat):∀ (ds:List SlD) (j k:Nat) (d d':SlD),ds[k]?=some d->(lone N j ds)[k]?=some d' →
  d'.len=d.len∧d'.cap=d.cap∧d'.zs=d.zs∧((d.a=none∧d'.a=none)∨∃ x i,d.a=some x∧d'.a=some ⟨N+(j+i),0,none⟩∧(als ds)[i]?=some (x.block,x.off)∧(blks ds)[i]?=some (.cells d.ints 3 (0,d.ints.size)))
 |[],j,k,d,d',h,_=>by simp at h
 |c :: ds,j,k,d,d',h,h'=>by
  unfold lone at h';unfold als blks;cases hc:c.a with
  |none =>
   rw [hc] at h';simp only at h' ⊢;cases k with
   |zero =>
    simp only [List.getElem?_cons_zero,Option.some.injEq] at h h';subst h h';exact ⟨rfl,rfl,rfl,.inl ⟨hc,hc⟩⟩
   |succ k =>
    simp only [List.getElem?_cons_succ] at h h';exact ya4 N ds j k d d' h h'
  |some x =>
   rw [hc] at h';simp only at h' ⊢;cases k with
   |zero =>
    simp only [List.getElem?_cons_zero,Option.some.injEq] at h h';subst h h';exact ⟨rfl,rfl,rfl,.inr ⟨x,0,hc,rfl,rfl,rfl⟩⟩
   |succ k =>
    simp only [List.getElem?_cons_succ] at h h';obtain ⟨h1,h2,h3,h4⟩:=ya4 N ds (j+1) k d d' h h';refine ⟨h1,h2,h3,h4.imp id ?_⟩
    rintro ⟨y,i,e1,e2,e3,e4⟩
    exact ⟨y,i+1,e1,by rw [e2];congr 2;omega,by simpa using e3,by simpa using e4⟩
theorem yb4:∀ (ds:List SlD) (i b s:Nat),(als ds)[i]?=some (b,s)->∃ d x,d ∈ ds∧d.a=some x∧x.block=b∧x.off=s∧(blks ds)[i]?=some (.cells d.ints 3 (0,d.ints.size))
 |[],i,b,s,h=>by simp [als] at h
 |c :: ds,i,b,s,h=>by
  unfold als at h;unfold blks;cases hc:c.a with
  |none =>
   rw [hc] at h;obtain ⟨d,x,h1,h2⟩:=yb4 ds i b s h;exact ⟨d,x,List.mem_cons_of_mem _ h1,h2⟩
  |some y =>
   rw [hc] at h;simp only at h;cases i with
   |zero =>
    simp only [List.getElem?_cons_zero,Option.some.injEq,Prod.mk.injEq] at h;exact ⟨c,y,List.mem_cons_self,hc,h.1,h.2,rfl⟩
   |succ i =>
    simp only [List.getElem?_cons_succ] at h;obtain ⟨d,x,h1,h2,h3,h4,h5⟩:=yb4 ds i b s h;exact ⟨d,x,List.mem_cons_of_mem _ h1,h2,h3,h4,by simpa using h5⟩
def ya5 (W:World) (ds:List SlD):World:={ W with heap:=Array.replicate W.heap.size (.map #[] 0) ++ (blks ds).toArray }
def KA (W:World) (ds:List SlD):Cfg:=⟨W.heap.size,fun _=>False,fun _=>False,als ds⟩
theorem y97 (W:World) (ds:List SlD) (j:Nat):(ya5 W ds).heap[W.heap.size+j]?=(blks ds)[j]?:=by
 unfold ya5;simp only;rw [Array.getElem?_append_right (by simp)];simp
theorem yir {W:World} {ds:List SlD} (hok:∀ d ∈ ds,d.ok W):WRel (KA W ds) ((als ds).map Prod.fst) (ya5 W ds) W:=by
 have hlt:∀ (j b s:Nat),(als ds)[j]?=some (b,s)->b<W.heap.size:=by
  intro j b s hj;obtain ⟨d,x,h1,h2,h3,_⟩:=yb4 ds j b s hj;rcases hok d h1 with ⟨h4,_⟩|⟨y,h4,_,⟨cs,e,fr,h5⟩,_⟩
  ·rw [h2] at h4;cases h4
  ·obtain rfl:=zSi (h2.symm.trans h4)
   rw [← h3];exact (zGe h5).1
 have hL:∀ (j b:Nat),((als ds).map Prod.fst)[j]?=some b->b<W.heap.size:=by
  intro j b hj;rw [List.getElem?_map] at hj;obtain ⟨⟨b',s⟩,h1,h2⟩:=Option.map_eq_some_iff.1 hj;subst h2;exact hlt j b' s h1
 refine ⟨?_,zLe _,rfl,rfl,hL,fun j b hj hn=>?_,fun i j b hi hj hn=>?_,fun b hb=>hb.elim,fun b hb=>hb.elim,fun j b s hj=>?_⟩
 ·show (Array.replicate W.heap.size _ ++ (blks ds).toArray).size=_
  simp [KA,yb3]
 ·have:=hL j b hj
  exact absurd hn (Nat.not_le_of_lt this)
 ·have:=hL i b hi
  exact absurd hn (Nat.not_le_of_lt this)
 ·replace hj:(als ds)[j]?=some (b,s):=hj
  obtain ⟨d,x,h1,h2,h3,h4,h5⟩:=yb4 ds j b s hj;rcases hok d h1 with ⟨h6,_⟩|⟨y,h6,hsp,⟨cs,e,fr,h7⟩,_,_,hzl,hcell,_⟩
  ·rw [h2] at h6;cases h6
  ·obtain rfl:=zSi (h2.symm.trans h6)
   subst h3 h4;refine ⟨(zGe h7).1,fun h=>h,⟨x.block,by rw [List.getElem?_map,hj];rfl,(zGe h7).1⟩,d.ints,cs,3,e,fr,?_,h7,fun i v hv=>?_⟩
   ·show (ya5 W ds).heap[W.heap.size+j]?=_
    rw [y97,h5]
   ·have hi:i<d.zs.length:=by
     have:=(zGe hv).1;simpa [SlD.ints] using this
    have e1:v=.int .i64 (d.zs.getD i 0):=by
     have:d.ints[i]?=some (.int .i64 (d.zs.getD i 0)):=by simp [SlD.ints,List.getElem?_eq_getElem hi,List.getD_eq_getElem?_getD]
     exact zSi (hv.symm.trans this)
    have e2:=hcell i hi;obtain ⟨xb,xo,xs⟩:=x;simp only at hsp h7;subst hsp;have e3:(⟨xb,xo,none⟩:Addr).add i=⟨xb,xo+i,none⟩:=by unfold Addr.add;split<;>simp_all
    rw [e3,cell_of_row W xb (xo+i) cs e fr h7] at e2;exact ⟨v,by rw [Nat.add_comm,e2,e1],by rw [e1];exact .flat rfl⟩
theorem yb0 {W:World} {ds:List SlD} (hok:∀ d ∈ ds,d.ok W) {k:Nat} {d d':SlD} (h:ds[k]?=some d) (h':(lone W.heap.size 0 ds)[k]?=some d') :
  d'.len=d.len∧d'.cap=d.cap∧d'.zs=d.zs∧RelC (KA W ds) ((als ds).map Prod.fst) d'.val d.val∧∀ u:World,u.heap=(ya5 W ds).heap->d'.ok u:=by
 obtain ⟨h1,h2,h3,h4⟩:=ya4 W.heap.size ds 0 k d d' h h';refine ⟨h1,h2,h3,?_,fun u hu=>?_⟩
 ·rcases h4 with ⟨e1,e2⟩|⟨x,i,e1,e2,e3,_⟩
  ·unfold SlD.val
   rw [e1,e2,h1,h2];exact .flat rfl
  ·unfold SlD.val
   rw [e1,e2,h1,h2];have hsp:x.spot=none:=by
    rcases hok d (List.mem_of_getElem? h) with ⟨h6,_⟩|⟨y,h6,hsp,_⟩
    ·rw [e1] at h6;cases h6
    ·obtain rfl:=zSi (e1.symm.trans h6)
     exact hsp
   exact .slice (s:=x.off) (.inr ⟨i,by simp [KA],e3⟩) (by simp) (by simp [hsp])
 ·rcases hok d (List.mem_of_getElem? h) with ⟨g1,g2,g3,g4⟩|⟨y,g1,_,_,g2,g3,g4,g5,g6⟩
  ·rcases h4 with ⟨e1,e2⟩|⟨x,i,e1,_⟩
   ·exact .inl ⟨e2,by rw [h1,g2],by rw [h2,g3],by rw [h3,g4]⟩
   ·rw [g1] at e1;cases e1
  ·rcases h4 with ⟨e1,e2⟩|⟨x,i,e1,e2,_,e4⟩
   ·rw [g1] at e1;cases e1
   ·have hb:u.heap[W.heap.size+(0+i)]?=some (.cells d.ints 3 (0,d.ints.size)):=by rw [hu,Nat.zero_add,y97,e4]
    refine .inr ⟨_,e2,rfl,⟨_,_,_,hb⟩,by rw [h1,h2];exact g2,by rw [h2];exact g3,by rw [h2,h3];exact g4,fun j hj=>?_,by rw [h3];exact g6⟩;rw [h3] at hj ⊢;have e3:(⟨W.heap.size+(0+i),0,none⟩:Addr).add j=⟨W.heap.size+(0+i),j,none⟩:=by unfold Addr.add;split<;>simp_all
    rw [e3,cell_of_row u _ j d.ints 3 _ hb];simp [SlD.ints,List.getElem?_eq_getElem hj,List.getD_eq_getElem?_getD]
theorem relPs_nil (K:Cfg) (L:List Nat):RelPs K L #[] #[]:=⟨rfl,fun i v v' h=>by simp at h⟩
theorem relPs_push {K:Cfg} {L:List Nat} {cs cs':Array Value} (h:RelPs K L cs cs') {v v':Value} (hv:RelC K L v v'):RelPs K L (cs.push v) (cs'.push v'):=by
 refine ⟨by simp [h.1],fun i a b ha hb=>?_⟩;rw [Array.getElem?_push] at ha hb
 by_cases hi:i=cs.size
 ·rw [if_pos hi] at ha
  rw [if_pos (by rw [h.1];exact hi)] at hb;obtain rfl:=zSi ha;obtain rfl:=zSi hb;exact .cell hv
 ·rw [if_neg hi] at ha
  rw [if_neg (by rw [h.1];exact hi)] at hb;exact h.2 i a b ha hb
theorem law_runS {f:FuncId} {fn:Func} {W:World} (ds:List SlD) (hok:∀ d ∈ ds,d.ok W) (mk:List SlD->Array Value) (hi:Try.prog.inits.idxOf? f=none) (hf:Tra.prog.funcs[f]?=some fn) (hS:S1 f=true) (hT:T1 f=true) (hres:y58 fn=true)
  (hmk:∀ (K:Cfg) (L:List Nat) (ds':List SlD),ds'.length=ds.length->(∀ (k:Nat) (d d':SlD),ds[k]?=some d->ds'[k]?=some d'->RelC K L d'.val d.val)->RelPs K L (mk ds') (mk ds))
  (hc:∀ (u:World) (ds':List SlD),ds'.length=ds.length->(∀ (k:Nat) (d d':SlD),ds[k]?=some d->ds'[k]?=some d'->d'.len=d.len∧d'.cap=d.cap∧d'.zs=d.zs∧d'.ok u)->Calls Tra.prog f (mk ds') u fun e _=>e=.returned (.bool true)) :
  ∃ M last o w' t',runNT Try.prog (M+1) (solo (G (Frame.enter Try.prog f (mk ds) .normal) []) W) #[]=(.ended o w',t')∧runN Try.prog M (solo (G (Frame.enter Try.prog f (mk ds) .normal) []) W)=.next last∧step Try.prog last=.ended o w' ∧
   Go.Conc.Good Try.prog (fun v' w'=>v'=.bool true∧Below W.heap.size W w') last o w' t':=by
 obtain ⟨M,last,o,w',t',h1,h2,h3,v',e0,⟨L,v,u,hv,_,hk,rfl⟩,r0⟩:=hyb_run (Rd:=fun _=>False) (al:=als ds) (L0:=(als ds).map Prod.fst) (W:=W) (u0:=ya5 W ds) (args:=mk (lone W.heap.size 0 ds)) (args':=mk ds) Tra.same Tra.calm1 Tra.calmT
  (y79 Tra.duo Tra.calm1 alK Tra.als res23 Tra.stand Tra.t20 (fun b h=>h.elim)) hi hf hS hT hres
  (hmk _ _ _ (y7z _ _ _) fun k d d' hd hd'=>(yb0 hok hd hd').2.2.2.1) (yir hok) (Post:=fun v _=>v=.bool true) (fun _ _ _ h=>h)
  (fun τ=>(hc (retape (ya5 W ds) τ) (lone W.heap.size 0 ds) (y7z _ _ _) fun k d d' hd hd'=>let ⟨q1,q2,q3,_,q5⟩:=yb0 hok hd hd';⟨q1,q2,q3,q5 _ rfl⟩).mono fun e _ h=>⟨_,h,rfl⟩)
 refine ⟨M,last,o,w',t',h1,h2,h3,v',e0,⟨?_,yj9 hk⟩,r0⟩;split at hv
 ·exact y48 hv rfl
 ·exact y8u hv rfl
theorem SlD.row {u:World} {d:SlD} (h:d.ok u):(d.a=none∧d.len=0∧d.cap=0∧d.zs=[])∨∃ x,d.a=some x∧d.len≤d.cap∧d.cap≤maxLen∧d.zs.length=d.cap∧(∀ i,i<d.zs.length->u.cell? (x.add i)=some (.int .i64 (d.zs.getD i 0)))∧∀ n ∈ d.zs,(Lit.int .i64 n).wf=true:=by
 rcases h with h|⟨x,h1,_,_,h2⟩
 ·exact .inl h
 ·exact .inr ⟨x,h1,h2⟩
theorem has_of {P:Program} {W:World} {base:Nat} {t e:TypeId} {x:Addr} {len cap:Nat} (hu:P.underlying t=some (.slice e)) (hv:Value.okWide P W .any base t (.slice (some x) len cap)):W.has P .any base x e cap:=by
 simp only [Value.okWide,hu,Cell.okWide,Cell.ok] at hv;exact hv.2.2
theorem sl_ok {W:World} {base:Nat} {a:Option Addr} {len cap:Nat} {zs:List Int} (hv:Value.okWide Try.prog W .any base 29 (.slice a len cap))
  (hr:(a=none∧len=0∧cap=0∧zs=[])∨∃ x,a=some x∧len≤cap∧cap≤maxLen∧zs.length=cap∧(∀ i,i<zs.length->W.cell? (x.add i)=some (.int .i64 (zs.getD i 0)))∧∀ n ∈ zs,(Lit.int .i64 n).wf=true):(⟨a,len,cap,zs⟩:SlD).ok W:=by
 rcases hr with hr|⟨x,rfl,h2⟩
 ·exact .inl hr
 ·obtain ⟨_,hsp,row,cells,hs,_⟩:=has_of Try.underlying29 hv
  refine .inr ⟨x,rfl,hsp,?_,h2⟩;unfold World.shape? at hs;cases hb:W.heap[x.block]? with
  |none=>rw [hb] at hs;simp at hs
  |some o =>
   rw [hb] at hs;cases o with
   |cells cs e fr=>exact ⟨cs,e,fr,rfl⟩
   |_=>simp at hs
end
end Go.Proofs.Ytdhgeondbnpeoaa.Ca
namespace Go.Proofs.Ytdhgeondbnpeoaa.P
open Go.RowKit Go.Proofs.Yw.Wd Go.Proofs.Yw.La Go.Proofs.Yw.Mo
section
attribute [local go_sem] y0y y0w y17 y16 y0q y0p y0x y0v
def r6_Mobs.l0:Nat->List Int->List (List Int)->Int->Option ((List (List Int)) × Int)
 |0,_,_,_=>none
 |k+1,x0,x5,x6=>if x6<(x0.length:Int) then (if 0≤x6 then (if 0≤(rd x0 x6) then (if (rd x0 x6)<(x5.length:Int) then (if (y0i x5 (rd x0 x6)).length<17592186044416 then (r6_Mobs.l0 k x0 (x5.set ((rd x0 x6):Int).toNat ((y0i x5 (rd x0 x6)) ++ [x6])) (wrap64 (x6+1))) else (none)) else (none)) else (none)) else (none)) else (some (x5,0))
def r6_Mobs.f (k:Nat) (l0:List Int):Option ((List (List Int)) × Int):=(r6_Parting.f k l0).bind fun t191=>(if t191=0 then ((r6_Many.f k l0).bind fun t192=>(if 0≤t192 then (if (t192:Int).toNat≤11728124029610 then (r6_Mobs.l0 k l0 (List.replicate (t192:Int).toNat []) 0) else (none)) else (none))) else (some (([]:List (List Int)),t191)))
def r6_Mobs.T8:Bool × List (List Nat × List Nat):=(true,[([],[]),([],[]),([],[]),([1,2],[1,2]),([3],[3]),([],[]),([],[]),([],[]),([6,7],[6,7]),([8],[8]),([5,9],[5,9]),([10],[10]),([],[]),([12],[12]),([11,13],[11,13]),([0,4,0,1,2,3,4,5,6,7,8,9,10,11,12,13,14],[0,4]),([15,14,14,0,1,2,3,4,5,6,7,8,9,10,11,12,13,14],[14,15])])
def r6_Mobs.B8:List Nat:=[0,0,0,6,14,0,0,0,192,448,992,2016,0,4096,16352,32767,65535]
theorem r6_Mobs.tab8:rtab .any (yh9 Tra.f41 8)=r6_Mobs.T8:=by kernel_rfl
theorem r6_Mobs.bits8:y37 r6_Mobs.T8.2 r6_Mobs.B8=true:=by kernel_rfl
theorem r6_Mobs.calls (k:Nat) (A0:Option Addr) (c0:Nat) (l0:List Int) (r1:List (List Int)) (r2:Int) (w:World) (hr0:Kd.C (Kd.int .i64) w A0 l0.length l0) (hc0:l0.length≤c0) (h:r6_Mobs.f k l0=some (r1,r2)) :
  Calls Tra.prog 41 #[.slice A0 l0.length c0] w fun e w'=>∃ v0_:Value,e=.returned (.tuple #[v0_,.int .i64 r2])∧Kd.S (Kd.slice 3 (Kd.int .i64)) 29 w' w.heap.size (fun _=>True) v0_ r1∧Below w.heap.size w w':=by
 have HR0:=As0.mk hr0;have HC0:=As0.mk hc0;clear hr0 hc0;have HB:=As0.mk (Below.refl w.heap.size w);have H:((r6_Parting.f k l0).bind fun t191=>(if t191=0 then ((r6_Many.f k l0).bind fun t192=>(if 0≤t192 then (if (t192:Int).toNat≤11728124029610 then (r6_Mobs.l0 k l0 (List.replicate (t192:Int).toNat []) 0) else (none)) else (none))) else (some (([]:List (List Int)),t191))))=some (r1,r2):=h;clear h;replace H:=Option.bind_eq_some_iff.mp H;obtain ⟨t191,A20,H⟩:=H;replace H:(if t191=0 then ((r6_Many.f k l0).bind fun t192=>(if 0≤t192 then (if (t192:Int).toNat≤11728124029610 then (r6_Mobs.l0 k l0 (List.replicate (t192:Int).toNat []) 0) else (none)) else (none))) else (some (([]:List (List Int)),t191)))=some (r1,r2):=H;have A2:=As0.mk A20;clear A20
 by_cases c3:t191=0
 ·rw [if_pos c3] at H
  have c3b0:(t191 == 0)=true:=beq_iff_eq.mpr c3;have c3b1:(t191 != 0)=false:=bne_eq_false_iff_eq.mpr c3;clear c3;replace H:=Option.bind_eq_some_iff.mp H;obtain ⟨t192,A40,H⟩:=H;replace H:(if 0≤t192 then (if (t192:Int).toNat≤11728124029610 then (r6_Mobs.l0 k l0 (List.replicate (t192:Int).toNat []) 0) else (none)) else (none))=some (r1,r2):=H;have A4:=As0.mk A40;clear A40
  by_cases c5:0≤t192
  ·rw [if_pos c5] at H
   have c5b0:=eq_true c5;have c5b1:decide (0≤t192)=true:=zDt c5;clear c5
   by_cases c6:(t192:Int).toNat≤11728124029610
   ·rw [if_pos c6] at H
    have c6b0:=eq_true c6;have c6b1:decide ((t192:Int).toNat≤11728124029610)=true:=zDt c6;clear c6;obtain ⟨y193,hy193⟩:∃ y_:List (List Int),y_=(List.replicate (t192:Int).toNat []):=⟨_,rfl⟩
    replace H:(r6_Mobs.l0 k l0 y193 0)=some (r1,r2):=by first|(rw [hy193];with_reducible exact H)|(have H2_:=(Option.bind_some _ _).symm.trans H;rw [hy193];with_reducible exact H2_)|(have H2_:=(Option.bind_some _ _).symm.trans H;with_reducible exact H2_)|with_reducible exact H|(rw [hy193];exact H)|exact H
    have Ny193:=As0.mk hy193;clear hy193;have H':=As0.mk H;clear H;go_enter Tra.func41,Tra.ntmps41
    go_wp2_with (first|((with_reducible refine y0d (f:=51) rfl ?_);refine y12 (some 8) rfl rfl Tra.func51 (by kernel_rfl) rfl #[.slice A0 l0.length c0] rfl (by (try simp only [List.map_toArray,List.map_cons,List.map_nil]);first|done|rfl|(simp only [List.length_drop,List.length_take];rfl)) ?_;(with_reducible refine (r6_Parting.calls k _ _ l0 t191 _ ?side1 ?side2 A2.out).mono ?_);(case side1=>repeat (first|exact HR0.out|(with_reducible refine Kd.C_alloc ?_ _)|(with_reducible refine Kd.C_drewN ?_ _)|(with_reducible refine Kd.C_drew ?_)));(case side2=>exact HC0.out);rintro e w' ⟨rfl,⟨nd,rfl⟩⟩;refine ⟨_,rfl,?_⟩)|((with_reducible refine y0d (f:=31) rfl ?_);refine y12 (some 13) rfl rfl Tra.func31 (by kernel_rfl) rfl #[.slice A0 l0.length c0] rfl (by (try simp only [List.map_toArray,List.map_cons,List.map_nil]);first|done|rfl|(simp only [List.length_drop,List.length_take];rfl)) ?_;(with_reducible refine (r6_Many.calls k _ _ l0 t192 _ ?side1 ?side2 A4.out).mono ?_);(case side1=>repeat (first|exact HR0.out|(with_reducible refine Kd.C_alloc ?_ _)|(with_reducible refine Kd.C_drewN ?_ _)|(with_reducible refine Kd.C_drew ?_)));(case side2=>exact HC0.out);rintro e w7 ⟨rfl,hb⟩;refine ⟨_,rfl,?_⟩;have n0_:=As0.mk (y03 (by repeat (with_reducible first|exact HB.out|apply y01|apply y00|apply y02)) hb);clear HB;have HB:=n0_;clear n0_;(try clear hb);(try clear hb2);(try clear hk);(try clear hi))|((with_reducible refine y0n (N:=14) rfl ?_);refine Kd.S_make (Kd.slice 3 (Kd.int .i64)) _ 29 rfl (N:=14) rfl 50 _ _ rfl t192 rfl rfl Tra.underlying50 (.slice none 0 0) 24 info29 rfl (by decide) (by omega) [] (ok:=fun _=>True) (okp:=fun _=>True) ⟨_,rfl,Kd.R_nil _ _ _ _ _⟩ (fun _ hk=>hk) trivial (zDo (by with_reducible assumption)) (Nat.le_trans (Nat.mul_le_mul_right _ (zDo (by with_reducible assumption):t192.toNat≤11728124029610)) (by omega)) (Below.refl _ _) (zLe _) ?_;intro v194 w8 ho9 hb hg_ hnew_;clear hg_ hnew_;(first|rw [← Ny193.out] at ho9|(simp only [Int.reduceToNat] at ho9;rw [← Ny193.out] at ho9));have n0_:=As0.mk (Kd.S_lower ho9 (y04 (by repeat (with_reducible first|exact HB.out|apply y01|apply y00|apply y02))));have n1_:=As0.mk (y03 (by repeat (with_reducible first|exact HB.out|apply y01|apply y00|apply y02)) hb);clear HB;have HO195:=n0_;have HB:=n1_;clear n0_ n1_;clear hb ho9))
    go_loopg [6] k (fun kq v6 w'=>∃ (x5_1:List (List Int)) (x6_1:Int),v6=.int .i64 x6_1∧As0 (r6_Mobs.l0 kq l0 x5_1 x6_1=some (r1,r2))∧As0 (kq≤k)∧As0 (Kd.S (Kd.slice 3 (Kd.int .i64)) 29 w' w.heap.size (fun _=>True) v194 x5_1)∧As0 (Below w.heap.size w w'))
    case atStart=>exact ⟨(y193),(0),(by first|rfl|(simp;done)|(simp [*];done)),H',⟨zLe _⟩,⟨by (with_reducible repeat (first|apply Kd.S_alloc|apply Kd.S_drewN|apply Kd.S_drew));exact HO195.out⟩,⟨by repeat (with_reducible first|exact HB.out|apply y01|apply y00|apply y02)⟩⟩
    case round =>
     clear H'
     try clear p2
     try clear c3
     try clear c3b0
     try clear c3b1
     try clear c4
     try clear c5
     try clear c5b0
     try clear c5b1
     try clear c6
     try clear c6b0
     try clear c6b1
     obtain ⟨x5_1,x6_1,rfl,HA,HK1,HO_5,HB⟩:=hrel;cases gk with
     |zero=>exact absurd HA.out (by simp [r6_Mobs.l0])
     |succ k1 =>
      have H:=HA.out;clear HA;simp only [r6_Mobs.l0] at H
      by_cases c10:x6_1<(l0.length:Int)
      ·rw [if_pos c10] at H
       have c10b0:decide (x6_1<(l0.length:Int))=true:=zDt c10;clear c10
       by_cases c11:0≤x6_1
       ·rw [if_pos c11] at H
        have c11b0:decide (0≤x6_1)=true:=zDt c11;clear c11
        by_cases c12:0≤(rd l0 x6_1)
        ·rw [if_pos c12] at H
         have c12b0:decide (0≤(rd l0 x6_1))=true:=zDt c12;clear c12
         by_cases c13:(rd l0 x6_1)<(x5_1.length:Int)
         ·rw [if_pos c13] at H
          have c13b0:decide ((rd l0 x6_1)<(x5_1.length:Int))=true:=zDt c13;clear c13
          by_cases c14:(y0i x5_1 (rd l0 x6_1)).length<17592186044416
          ·rw [if_pos c14] at H
           have LMc14:=As0.mk c14;clear c14;obtain ⟨y199,hy199⟩:∃ y_:List Int,y_=((y0i x5_1 (rd l0 x6_1)) ++ [x6_1]):=⟨_,rfl⟩
           replace H:(r6_Mobs.l0 k1 l0 (x5_1.set ((rd l0 x6_1):Int).toNat y199) (wrap64 (x6_1+1)))=some (r1,r2):=by first|(rw [hy199];with_reducible exact H)|(have H2_:=(Option.bind_some _ _).symm.trans H;rw [hy199];with_reducible exact H2_)|(have H2_:=(Option.bind_some _ _).symm.trans H;with_reducible exact H2_)|with_reducible exact H|(rw [hy199];exact H)|exact H
           have Ny199:=As0.mk hy199;clear hy199;obtain ⟨y202,hy202⟩:∃ y_:List (List Int),y_=(x5_1.set ((rd l0 x6_1):Int).toNat y199):=⟨_,rfl⟩
           replace H:(r6_Mobs.l0 k1 l0 y202 (wrap64 (x6_1+1)))=some (r1,r2):=by first|(rw [hy202];with_reducible exact H)|(have H2_:=(Option.bind_some _ _).symm.trans H;rw [hy202];with_reducible exact H2_)|(have H2_:=(Option.bind_some _ _).symm.trans H;with_reducible exact H2_)|with_reducible exact H|(rw [hy202];exact H)|exact H
           have Ny202:=As0.mk hy202;clear hy202;have H':=As0.mk H;clear H
           try go_wp2
           have n0_:=As0.mk (Kd.S_drew HO_5.out);have n1_:=As0.mk (y02 HB.out);clear HO_5;clear HB;have HO_5:=n0_;have HB:=n1_;clear n0_ n1_;have p196:0≤(x6_1:Int):=zDo (by with_reducible assumption);have q196:x6_1<(l0.length:Int):=zDo (by with_reducible assumption);obtain ⟨ad196,e196,hx196_0⟩:=Kd.at_int HR0.out x6_1 p196 q196;have hw196_0:=hx196_0;cases e196
           replace hx196_0:=(HB.out.cell (World.block_lt_of_cell? w _ hx196_0)).trans hx196_0;replace p196:=eq_true p196;replace q196:=eq_true q196;have p197:0≤(x6_1:Int):=zDo (by with_reducible assumption);have q197:x6_1<(l0.length:Int):=zDo (by with_reducible assumption);obtain ⟨ad197,e197,hx197_0⟩:=Kd.at_int HR0.out x6_1 p197 q197;have hw197_0:=hx197_0;obtain rfl:ad196=ad197:=(by injection e197)
           replace hx197_0:=(HB.out.cell (World.block_lt_of_cell? w _ hx197_0)).trans hx197_0;replace p197:=eq_true p197;replace q197:=eq_true q197;obtain ⟨Ao17,co17,eo17⟩:=Kd.S_slice HO_5.out
           (first|subst eo17|(injection eo17 with f1_ f2_ f3_;have f4_:=f1_.symm;have f5_:=f3_.symm;clear f1_ f2_ f3_;subst f4_;subst f5_))
           have p198:0≤((rd l0 x6_1):Int):=zDo (by with_reducible assumption);have q198:(rd l0 x6_1)<(x5_1.length:Int):=zDo (by with_reducible assumption);obtain ⟨ad198,A198_0,c198_0,e198,hx198_0,hl198_0,hi198_0⟩:=y3k (Kd.S_reads' HO_5.out).2.2 (rd l0 x6_1) p198 q198;cases e198
           obtain ⟨ce198,hce198,hMe198,hcc198⟩:=Kd.S_get HO_5.out [] (rd l0 x6_1) p198 (by first|exact q198|exact zDo (by with_reducible assumption)|(have e_:=(Kd.S_reads' HO_5.out).1;omega));obtain ⟨ve198_0,rfl,ge198_0⟩:=hMe198;have hv198_0:=hcc198 0 _ rfl;rw [Nat.add_zero,show ((Kd.slice 3 (Kd.int .i64))).sz=1 from rfl,Nat.mul_one] at hv198_0;replace hv198_0:=zSi (hv198_0.symm.trans hx198_0);rw [hv198_0] at ge198_0;have HL198_0:=As0.mk (show Kd.R (Kd.int .i64) 3 _ _ _ _ (y0i x5_1 (rd l0 x6_1)) from ge198_0);clear hv198_0 ge198_0;have HX198_0:=As0.mk hx198_0;clear hcc198 hce198;have HR198_0:=As0.mk hi198_0;have HC198_0:=As0.mk hl198_0;clear hi198_0 hl198_0;replace p198:=eq_true p198;replace q198:=eq_true q198;obtain ⟨go18,co18,eo18,gb18,gl18,cl18,HG18⟩:=Kd.S_form HO_5.out (by have h_:((rd l0 x6_1):Int)<((x5_1.length:Int):Int):=zDo (by with_reducible assumption);have h2_:0≤((rd l0 x6_1):Int):=(zDo (by with_reducible assumption));omega)
           (first|cases eo18|(injection eo18 with ea_ en_ ec_;(first|subst ea_|(injection ea_ with ea_;subst ea_));subst ec_;clear en_))
           have GB18:=As0.mk gb18;have GG18:=As0.mk HG18;clear gb18 gl18 HG18
           (first|simp only [y18] at hx198_0|skip)
           obtain ⟨oki18,ce18,hcl18,hM18,hcc18,_,_,hH18⟩:=Kd.S_elem HO_5.out [] ((rd l0 x6_1):Int) (zDo (by with_reducible assumption)) (by have h_:((rd l0 x6_1):Int)<((x5_1.length:Int):Int):=zDo (by with_reducible assumption);first|exact h_|(have e_:=(Kd.S_reads' HO_5.out).1;omega)|simpa using h_);obtain ⟨ve18_0,rfl,ge18_0⟩:=hM18;have hv18:=hcc18 0 _ rfl;have hX18:=HX198_0.out
           (try simp only [y18] at hX18)
           (try simp only [Nat.add_zero] at hv18)
           (try rw [show ((Kd.slice 3 (Kd.int .i64))).sz=1 from rfl,Nat.mul_one] at hv18)
           replace hv18:=zSi (hv18.symm.trans hX18);subst hv18;clear hX18 hcc18 hcl18;have UU18:=As0.mk (show Kd.R (Kd.int .i64) 3 _ w.heap.size oki18 (.slice A198_0 (y0i x5_1 (rd l0 x6_1)).length c198_0) (y0i x5_1 (rd l0 x6_1)) from ge18_0);have HH18:=As0.mk hH18;have HN18:=As0.mk (Kd.S_reads' HO_5.out).1;clear hH18 ge18_0;refine yam (n:=17) (S:=fun w'=>w'.cell? (ad196.add (x6_1).toNat)=some (.int .i64 (rd l0 x6_1))∧w'.cell? (ad196.add (x6_1).toNat)=some (.int .i64 (rd l0 x6_1))∧w'.cell? ⟨go18,((rd l0 x6_1)).toNat,none⟩=some (.slice A198_0 (y0i x5_1 (rd l0 x6_1)).length c198_0)) (ds:=[16]) #[false,false,false,false,false,false,false,false,false,false,false,false,false,false,false,false,false] (by kernel_rfl) rfl rfl ⟨((HB.out.cell (World.block_lt_of_cell? w _ hw196_0)).trans hw196_0),((HB.out.cell (World.block_lt_of_cell? w _ hw197_0)).trans hw197_0),hx198_0⟩ (fun hHeld=>?_);refine y3y r6_Mobs.tab8 r6_Mobs.bits8 (fun HT_ HW_=>?_);generalize wr.drew=w16 at HO_5 HB GG18 HH18 HL198_0 HR198_0 HX198_0 UU18 hx196_0 hx197_0 hx198_0 hHeld ⊢;refine y19 (i:=0) (N:=some 21) (v:=?_) (a':=?_) #[true,false,false,false,false,false,false,false,false,false,false,false,false,false,false,false,false] rfl rfl (y0r HT_.out (by kernel_rfl)) (fun _ _ _ h=>h) (Or.inl ⟨by rfl,?_⟩) ?_ ?_;rotate_left
           ·intro w'
            go_simp
            with_reducible rfl
           rotate_left
           ·simp only [Act.put,List.setIfInBounds_toArray,List.set_cons_zero,List.set_cons_succ,y0o,y0s]
            rfl
           refine y19 (i:=1) (N:=some 22) (v:=?_) (a':=?_) #[true,true,false,false,false,false,false,false,false,false,false,false,false,false,false,false,false] rfl rfl (y0r HT_.out (by kernel_rfl)) (fun _ _ _ h=>h) (Or.inl ⟨by rfl,?_⟩) ?_ ?_;rotate_left
           ·intro w'
            go_simp
            with_reducible rfl
           rotate_left
           ·simp only [Act.put,List.setIfInBounds_toArray,List.set_cons_zero,List.set_cons_succ,y0o,y0s]
            rfl
           refine y19 (i:=2) (N:=some 23) (v:=?_) (a':=?_) #[true,true,true,false,false,false,false,false,false,false,false,false,false,false,false,false,false] rfl rfl (y0r HT_.out (by kernel_rfl)) (fun _ _ _ h=>h) (Or.inl ⟨by rfl,?_⟩) ?_ ?_;rotate_left
           ·intro w'
            go_simp
            with_reducible rfl
           rotate_left
           ·simp only [Act.put,List.setIfInBounds_toArray,List.set_cons_zero,List.set_cons_succ,y0o,y0s]
            rfl
           refine y19 (i:=3) (N:=some 24) (v:=?_) (a':=?_) #[true,true,true,true,false,false,false,false,false,false,false,false,false,false,false,false,false] rfl rfl (y0r HT_.out (by kernel_rfl)) (fun _ _ _ h=>h) (Or.inl ⟨by rfl,?_⟩) ?_ ?_;rotate_left
           ·intro w'
            go_simp
            with_reducible rfl
           rotate_left
           ·simp only [Act.put,List.setIfInBounds_toArray,List.set_cons_zero,List.set_cons_succ,y0o,y0s]
            rfl
           refine y19 (i:=5) (N:=some 26) (v:=?_) (a':=?_) #[true,true,true,true,false,true,false,false,false,false,false,false,false,false,false,false,false] rfl rfl (y0r HT_.out (by kernel_rfl)) (fun _ _ _ h=>h) (Or.inl ⟨by rfl,?_⟩) ?_ ?_;rotate_left
           ·intro w'
            go_simp
            with_reducible rfl
           rotate_left
           ·simp only [Act.put,List.setIfInBounds_toArray,List.set_cons_zero,List.set_cons_succ,y0o,y0s]
            rfl
           refine y19 (i:=6) (N:=some 27) (v:=?_) (a':=?_) #[true,true,true,true,false,true,true,false,false,false,false,false,false,false,false,false,false] rfl rfl (y0r HT_.out (by kernel_rfl)) (fun _ _ _ h=>h) (Or.inl ⟨by rfl,?_⟩) ?_ ?_;rotate_left
           ·intro w'
            go_simp
            with_reducible rfl
           rotate_left
           ·simp only [Act.put,List.setIfInBounds_toArray,List.set_cons_zero,List.set_cons_succ,y0o,y0s]
            rfl
           refine y19 (i:=7) (N:=some 28) (v:=?_) (a':=?_) #[true,true,true,true,false,true,true,true,false,false,false,false,false,false,false,false,false] rfl rfl (y0r HT_.out (by kernel_rfl)) (fun _ _ _ h=>h) (Or.inl ⟨by rfl,?_⟩) ?_ ?_;rotate_left
           ·intro w'
            go_simp
            with_reducible rfl
           rotate_left
           ·simp only [Act.put,List.setIfInBounds_toArray,List.set_cons_zero,List.set_cons_succ,y0o,y0s]
            rfl
           refine y19 (i:=8) (N:=some 29) (v:=?_) (a':=?_) #[true,true,true,true,false,true,true,true,true,false,false,false,false,false,false,false,false] rfl rfl (y0r HT_.out (by kernel_rfl)) (fun _ _ _ h=>h) (Or.inl ⟨by rfl,?_⟩) ?_ ?_;rotate_left
           ·intro w'
            go_simp
            with_reducible rfl
           rotate_left
           ·simp only [Act.put,List.setIfInBounds_toArray,List.set_cons_zero,List.set_cons_succ,y0o,y0s]
            rfl
           refine y19 (i:=12) (N:=some 33) (v:=?_) (a':=?_) #[true,true,true,true,false,true,true,true,true,false,false,false,true,false,false,false,false] rfl rfl (y0r HT_.out (by kernel_rfl)) (fun _ _ _ h=>h) (Or.inl ⟨by rfl,?_⟩) ?_ ?_;rotate_left
           ·intro w'
            go_simp
            with_reducible rfl
           rotate_left
           ·simp only [Act.put,List.setIfInBounds_toArray,List.set_cons_zero,List.set_cons_succ,y0o,y0s]
            rfl
           refine take_ (i:=4) (N:=some 25) (v:=?_) (a':=?_) #[true,true,true,true,true,true,true,true,true,false,false,false,true,false,false,false,false] rfl rfl (y2z HT_.out HW_.out (by kernel_rfl)) (fun _ _ _ h=>h) (Or.inl ⟨by rfl,?_⟩) hHeld ?_ ?_;rotate_left
           ·rintro w' ⟨s0,s1,s2⟩
            go_simp
            with_reducible rfl
           rotate_left
           ·simp only [Act.put,List.setIfInBounds_toArray,List.set_cons_zero,List.set_cons_succ,y0o,y0s]
            rfl
           refine take_ (i:=9) (N:=some 30) (v:=?_) (a':=?_) #[true,true,true,true,true,true,true,true,true,true,false,false,true,false,false,false,false] rfl rfl (y2z HT_.out HW_.out (by kernel_rfl)) (fun _ _ _ h=>h) (Or.inl ⟨by rfl,?_⟩) hHeld ?_ ?_;rotate_left
           ·rintro w' ⟨s0,s1,s2⟩
            go_simp
            with_reducible rfl
           rotate_left
           ·simp only [Act.put,List.setIfInBounds_toArray,List.set_cons_zero,List.set_cons_succ,y0o,y0s]
            rfl
           refine y19 (i:=10) (N:=some 31) (v:=?_) (a':=?_) #[true,true,true,true,true,true,true,true,true,true,true,false,true,false,false,false,false] rfl rfl (y0r HT_.out (by kernel_rfl)) (fun _ _ _ h=>h) (Or.inl ⟨by rfl,?_⟩) ?_ ?_;rotate_left
           ·intro w'
            go_simp
            with_reducible rfl
           rotate_left
           ·simp only [Act.put,List.setIfInBounds_toArray,List.set_cons_zero,List.set_cons_succ,y0o,y0s]
            rfl
           refine take_ (i:=11) (N:=some 32) (v:=?_) (a':=?_) #[true,true,true,true,true,true,true,true,true,true,true,true,true,false,false,false,false] rfl rfl (y2z HT_.out HW_.out (by kernel_rfl)) (fun _ _ _ h=>h) (Or.inl ⟨by rfl,?_⟩) hHeld ?_ ?_;rotate_left
           ·rintro w' ⟨s0,s1,s2⟩
            go_simp
            with_reducible rfl
           rotate_left
           ·simp only [Act.put,List.setIfInBounds_toArray,List.set_cons_zero,List.set_cons_succ,y0o,y0s]
            rfl
           refine one_ (i:=13) (N:=some 34) #[true,true,true,true,true,true,true,true,true,true,true,true,true,true,false,false,false] rfl rfl (y4w HT_.out (by kernel_rfl)) (by decide) (fun K hK=>?_);refine value_ (w1:=?_) (v:=?_) (by rfl) rfl ?_ ?_;rotate_left 2
           ·go_simp
            constructor
            ·rfl
            ·rfl
           refine hK.out _ _ ⟨(World.cell?_alloc_lt _ _ _ (World.block_lt_of_cell? _ _ (((HB.out.cell (World.block_lt_of_cell? w _ hw196_0)).trans hw196_0)))).trans (((HB.out.cell (World.block_lt_of_cell? w _ hw196_0)).trans hw196_0)),(World.cell?_alloc_lt _ _ _ (World.block_lt_of_cell? _ _ (((HB.out.cell (World.block_lt_of_cell? w _ hw197_0)).trans hw197_0)))).trans (((HB.out.cell (World.block_lt_of_cell? w _ hw197_0)).trans hw197_0)),(World.cell?_alloc_lt _ _ _ (World.block_lt_of_cell? _ _ (hHeld.2.2))).trans (hHeld.2.2)⟩ (fun hHeld=>?_);clear hK K;refine ybt (a':=?_) ?_ ?_;rotate_left
           ·show Act.put _ (some 34) _=_
            simp only [Act.put,List.setIfInBounds_toArray,List.set_cons_zero,List.set_cons_succ,y0o,y0s];rfl
           refine one_ (i:=14) (N:=some 35) #[true,true,true,true,true,true,true,true,true,true,true,true,true,true,true,false,false] rfl rfl (y4w HT_.out (by kernel_rfl)) (by decide) (fun K hK=>?_);refine Kd.R_append_step (Kd.int .i64) (w0:=w) w.heap.size (by rfl) (.tmp 32) (.tmp 34) 29 3 (.int .i64 0) 8 rfl Tra.underlying29 info3 rfl (by decide) (by omega) (.slice A198_0 (y0i x5_1 (rd l0 x6_1)).length c198_0) (y0i x5_1 (rd l0 x6_1)) x6_1 [.int .i64 x6_1] (fun k_=>oki18 k_∨((fun _=>True)) k_∧w16.heap.size≤k_) (fun _=>False) rfl rfl ?aP (fun _ hk=>hk.elim) ?aF ?aO ?aB ?aS ?aL ?_
           (case aP=>exact rfl)
           (case aB=>exact (by repeat (with_reducible first|exact HB.out|apply y01|apply y00|apply y02)))
           (case aF=>exact (fun k_ hk=>.inr ⟨trivial,hk⟩))
           (case aO=>exact (by (with_reducible repeat (first|apply Kd.R_alloc|apply Kd.R_drewN|apply Kd.R_drew));exact Kd.R_mono UU18.out (fun _ hk=>.inl hk)))
           (case aS=>exact (y04 (by repeat (with_reducible first|exact HB.out|apply y01|apply y00|apply y02))))
           (case aL=>have:=LMc14.out;omega)
           intro v200 w19 ho hb hg hat
           (first|have HS2_:=y70 hg (hHeld.2.2) (by first|(rw [y26];exact (fun e_=>((HL198_0.out.1 _ e_.symm).2) rfl))|(show some (Addr.add _ _).block≠_;rw [y26];exact (fun e_=>((HL198_0.out.1 _ e_.symm).2) rfl))|exact (fun e_=>((HL198_0.out.1 _ e_.symm).2) rfl))|have HS2_:=y70 hg (y9c (hHeld.2.2) (by first|(rw [y26];exact Kd.S_lt HO_5.out _ rfl)|(show (Addr.add _ _).block<_;rw [y26];exact Kd.S_lt HO_5.out _ rfl)|exact Kd.S_lt HO_5.out _ rfl)) (by first|(rw [y26];exact (fun e_=>((HL198_0.out.1 _ e_.symm).2) rfl))|(show some (Addr.add _ _).block≠_;rw [y26];exact (fun e_=>((HL198_0.out.1 _ e_.symm).2) rfl))|exact (fun e_=>((HL198_0.out.1 _ e_.symm).2) rfl)))
           rw [← Ny199.out] at ho;have n0_:=As0.mk (hb);have n1_:=As0.mk (Kd.H_grown (Kd.H_widen (by repeat (first|exact HH18.out|refine Kd.H_alloc ?_ _|refine Kd.H_drewN ?_ _|refine Kd.H_drew ?_))) hg (fun k_ e_=>.inl (UU18.out.1 k_ e_)));have n2_:=As0.mk (ho);clear HB;clear HH18;clear HO_5;clear UU18;clear HL198_0;have HB:=n0_;have HH18:=n1_;have HO201:=n2_;clear n0_ n1_ n2_;clear ho hb hg hat;have p15:0≤((rd l0 x6_1):Int):=zDo (by with_reducible assumption);have q15:((rd l0 x6_1):Int)<((x5_1.length:Int):Int):=zDo (by with_reducible assumption);replace p15:=eq_true p15;replace q15:=eq_true q15;obtain ⟨Ao22,co22,eo22⟩:=Kd.R_slice HO201.out
           (first|subst eo22|(injection eo22 with f1_ f2_ f3_;have f4_:=f1_.symm;have f5_:=f3_.symm;clear f1_ f2_ f3_;subst f4_;subst f5_))
           obtain ⟨_,_,hraw20,_,_,hcc20,_⟩:=Kd.H_raw HH18.out (zDo (by with_reducible assumption)) (by have h_:((rd l0 x6_1):Int)<((x5_1.length:Int):Int):=zDo (by with_reducible assumption);first|exact h_|(have e_:=(HN18.out);omega)|simpa using h_);obtain ⟨_,hfr20⟩:=Kd.H_at HH18.out (zDo (by with_reducible assumption)) (by have h_:((rd l0 x6_1):Int)<((x5_1.length:Int):Int):=zDo (by with_reducible assumption);first|exact h_|(have e_:=(HN18.out);omega)|simpa using h_);have hx20_0:=hcc20 0 _ rfl;have hf20_0:=hfr20 0
           (try simp only [Nat.add_zero] at hx20_0 hf20_0)
           (try rw [show ((Kd.slice 3 (Kd.int .i64))).sz=1 from rfl,Nat.mul_one] at hx20_0)
           (try rw [show ((Kd.slice 3 (Kd.int .i64))).sz=1 from rfl,Nat.mul_one] at hf20_0)
           have HP20:=Kd.S_seg0 HH18.out (zDo (by with_reducible assumption)) (by have h_:((rd l0 x6_1):Int)<((x5_1.length:Int):Int):=zDo (by with_reducible assumption);first|exact h_|(have e_:=(HN18.out);omega)|simpa using h_) (seg:=[.slice Ao22 y199.length co22]) (j:=0) (show 1≤1 from by decide) (x':=y199) (Kd.M_row HO201.out) (fun _ hk=>hk)
           (try simp only [show ((Kd.slice 3 (Kd.int .i64))).sz=1 from rfl,Nat.mul_one,Nat.add_zero] at HP20)
           clear hcc20 hfr20;have HS20:=HP20.1;rw [← Ny202.out] at HS20;have HQ20:=As0.mk HS20;obtain ⟨_,hgg20⟩:=Kd.R_typed hraw20 go18 rfl;have GG20_:=As0.mk hgg20;clear HP20 HS20 hgg20;refine hK.out _ _ ⟨((HB.out.cell (World.block_lt_of_cell? w _ hw196_0)).trans hw196_0),((HB.out.cell (World.block_lt_of_cell? w _ hw197_0)).trans hw197_0),HS2_⟩ (fun hHeld=>?_);clear hK K;refine ybt (a':=?_) ?_ ?_;rotate_left
           ·show Act.put _ (some 35) _=_
            simp only [Act.put,List.setIfInBounds_toArray,List.set_cons_zero,List.set_cons_succ,y0o,y0s];rfl
           refine y19 (i:=15) (N:=some 36) (v:=?_) (a':=?_) #[true,true,true,true,true,true,true,true,true,true,true,true,true,true,true,true,false] rfl rfl (y0r HT_.out (by kernel_rfl)) (fun _ _ _ h=>h) (Or.inl ⟨by rfl,?_⟩) ?_ ?_;rotate_left
           ·intro w'
            go_simp
            with_reducible rfl
           rotate_left
           ·simp only [Act.put,List.setIfInBounds_toArray,List.set_cons_zero,List.set_cons_succ,y0o,y0s]
            rfl
           refine last_ (i:=16) (N:=none) #[true,true,true,true,true,true,true,true,true,true,true,true,true,true,true,true,true] rfl rfl (y4w HT_.out (by kernel_rfl)) (by decide) (fun K hK=>?_);refine skip_ (w1:=?_) (by rfl) rfl ?_ ?_;rotate_left
           ·go_simp
            rfl
           refine hK.out _ _ ?_;clear hK K;refine yj1 (y82 HT_.out (by kernel_rfl)) ?_
           try go_wp2
           go_roundg k1
           case measure=>have:=HK1.out;omega
           case rel=>exact ⟨(y202),(wrap64 (x6_1+1)),(by first|rfl|(simp;done)|(simp [*];done)),H',⟨by have:=HK1.out;omega⟩,⟨by (with_reducible repeat (first|apply Kd.S_alloc|apply Kd.S_drewN|apply Kd.S_drew));exact HQ20.out⟩,⟨by repeat (with_reducible first|exact HB.out|apply y01|apply y00|apply y02|refine y0c ?_ GB18.out)⟩⟩
          ·rw [if_neg c14] at H
           exact absurd H (by simp)
         ·rw [if_neg c13] at H
          exact absurd H (by simp)
        ·rw [if_neg c12] at H
         exact absurd H (by simp)
       ·rw [if_neg c11] at H
        exact absurd H (by simp)
      ·rw [if_neg c10] at H
       have c10b0:decide (x6_1<(l0.length:Int))=false:=zDf c10;clear c10;simp only [Option.some.injEq,Prod.mk.injEq] at H;obtain ⟨rfl,rfl⟩:=H;go_wp2
       go_ret2
       exact ⟨_,by first|rfl|(simp [y06,y05]<;>rfl)|(simp [*,y06,y05]<;>rfl),by (with_reducible repeat (first|apply Kd.S_alloc|apply Kd.S_drewN|apply Kd.S_drew));exact HO_5.out,by repeat (with_reducible first|exact HB.out|apply y01|apply y00|apply y02)⟩
   ·rw [if_neg c6] at H
    exact absurd H (by simp)
  ·rw [if_neg c5] at H
   exact absurd H (by simp)
 ·rw [if_neg c3] at H
  have c3b0:(t191 == 0)=false:=beq_eq_false_iff_ne.mpr c3;have c3b1:(t191 != 0)=true:=bne_iff_ne.mpr c3;simp only [Option.some.injEq,Prod.mk.injEq] at H;obtain ⟨rfl,rfl⟩:=H;go_enter Tra.func41,Tra.ntmps41
  go_wp2_with (first|((with_reducible refine y0d (f:=51) rfl ?_);refine y12 (some 8) rfl rfl Tra.func51 (by kernel_rfl) rfl #[.slice A0 l0.length c0] rfl (by (try simp only [List.map_toArray,List.map_cons,List.map_nil]);first|done|rfl|(simp only [List.length_drop,List.length_take];rfl)) ?_;(with_reducible refine (r6_Parting.calls k _ _ l0 t191 _ ?side1 ?side2 A2.out).mono ?_);(case side1=>repeat (first|exact HR0.out|(with_reducible refine Kd.C_alloc ?_ _)|(with_reducible refine Kd.C_drewN ?_ _)|(with_reducible refine Kd.C_drew ?_)));(case side2=>exact HC0.out);rintro e w' ⟨rfl,⟨nd,rfl⟩⟩;refine ⟨_,rfl,?_⟩))
  go_ret2
  exact ⟨_,by first|rfl|(simp [y06,y05]<;>rfl)|(simp [*,y06,y05]<;>rfl),by first|exact Kd.S_nil _ _ _ _ _|exact Kd.N_nil _ _ _ _ _|exact Kd.V_nil _ _ _ _ _|exact Kd.Q_nil _ _ _ _ _|exact Kd.R_nil _ _ _ _ _,by repeat (with_reducible first|exact HB.out|apply y01|apply y00|apply y02)⟩
end
section
attribute [local go_sem] y0y y0w y17 y16 y0q y0p y0x y0v
def slices_Max_int_int.l0:Nat->List Int->Int->Int->Option (Int)
 |0,_,_,_=>none
 |k+1,x0,x3,x4=>if x4<(x0.length:Int) then (if 0≤x4 then (slices_Max_int_int.l0 k x0 (mx x3 (rd x0 x4)) (wrap64 (x4+1))) else (none)) else (some x3)
def slices_Max_int_int.f (k:Nat) (l0:List Int):Option (Int):=if (l0.length:Int)<1 then (none) else (if 0<(l0.length:Int) then (slices_Max_int_int.l0 k l0 (rd l0 0) 1) else (none))
theorem slices_Max_int_int.calls (k:Nat) (A0:Option Addr) (c0:Nat) (l0:List Int) (r:Int) (w:World) (hr0:Kd.C (Kd.int .i64) w A0 l0.length l0) (hc0:l0.length≤c0) (h:slices_Max_int_int.f k l0=some r) :
  Calls Tra.prog 90 #[.slice A0 l0.length c0] w fun e w'=>e=.returned (.int .i64 r)∧Below w.heap.size w w':=by
 have HR0:=As0.mk hr0;have HC0:=As0.mk hc0;clear hr0 hc0;have HB:=As0.mk (Below.refl w.heap.size w);have H:(if (l0.length:Int)<1 then (none) else (if 0<(l0.length:Int) then (slices_Max_int_int.l0 k l0 (rd l0 0) 1) else (none)))=some r:=h;clear h
 by_cases c2:(l0.length:Int)<1
 ·rw [if_pos c2] at H
  exact absurd H (by simp)
 ·rw [if_neg c2] at H
  have c2b0:decide ((l0.length:Int)<1)=false:=zDf c2;have c2b1:decide (l0.length<1)=false:=zDf (by omega);clear c2
  by_cases c3:0<(l0.length:Int)
  ·rw [if_pos c3] at H
   have c3b0:decide (0<(l0.length:Int))=true:=zDt c3;have c3b1:decide (0<l0.length)=true:=zDt (by omega);clear c3;have H':=As0.mk H;clear H;have p203:0≤(0:Int):=(by omega)
   have q203:0<(l0.length:Int):=zDo (by with_reducible assumption);obtain ⟨ad203,e203,hx203_0⟩:=Kd.at_int HR0.out 0 p203 q203;cases e203
   have qi203:(0<l0.length)=True:=eq_true (by omega)
   (try rw [show ((0:Int)).toNat=0 from rfl] at hx203_0)
   (try rw [Addr.add_zero'] at hx203_0)
   replace p203:=eq_true p203;replace q203:=eq_true q203;go_enter Tra.func90,Tra.ntmps90
   go_wp2
   go_loopg [3,4] k (fun kq v3 v4 w'=>∃ (x3_1:Int) (x4_1:Int),v3=.int .i64 x3_1∧v4=.int .i64 x4_1∧As0 (slices_Max_int_int.l0 kq l0 x3_1 x4_1=some r)∧As0 (kq≤k)∧As0 (Below w.heap.size w w'))
   case atStart=>exact ⟨(rd l0 0),(1),(by first|rfl|(simp;done)|(simp [*];done)),(by first|rfl|(simp;done)|(simp [*];done)),H',⟨zLe _⟩,⟨by repeat (with_reducible first|exact HB.out|apply y01|apply y00|apply y02)⟩⟩
   case round =>
    clear H'
    try clear c2
    try clear c2b0
    try clear c2b1
    try clear p2
    try clear q2
    try clear hx2
    try clear qi2
    try clear c3
    try clear c3b0
    try clear c3b1
    try clear hx203_0
    try clear p203
    try clear q203
    obtain ⟨x3_1,x4_1,rfl,rfl,HA,HK1,HB⟩:=hrel;cases gk with
    |zero=>exact absurd HA.out (by simp [slices_Max_int_int.l0])
    |succ k1 =>
     have H:=HA.out;clear HA;simp only [slices_Max_int_int.l0] at H
     by_cases c4:x4_1<(l0.length:Int)
     ·rw [if_pos c4] at H
      have c4b0:decide (x4_1<(l0.length:Int))=true:=zDt c4;clear c4
      by_cases c5:0≤x4_1
      ·rw [if_pos c5] at H
       have c5b0:decide (0≤x4_1)=true:=zDt c5;clear c5;obtain ⟨ji6,hji6⟩:∃ j_:Int,(mx x3_1 (rd l0 x4_1))=j_:=⟨_,rfl⟩
       replace H:(slices_Max_int_int.l0 k1 l0 ji6 (wrap64 (x4_1+1)))=some r:=by first|(rw [hji6] at H;exact H)|(simp only [hji6] at H ⊢;exact H)
       have hji6_:(if x3_1<(rd l0 x4_1) then (rd l0 x4_1) else x3_1)=ji6:=hji6;have H':=As0.mk H;clear H;have p204:0≤(x4_1:Int):=zDo (by with_reducible assumption);have q204:x4_1<(l0.length:Int):=zDo (by with_reducible assumption);obtain ⟨ad204,e204,hx204_0⟩:=Kd.at_int HR0.out x4_1 p204 q204;obtain rfl:ad203=ad204:=(by injection e204)
       replace hx204_0:=(HB.out.cell (World.block_lt_of_cell? w _ hx204_0)).trans hx204_0;replace p204:=eq_true p204;replace q204:=eq_true q204;go_wp2
       go_roundg k1
       case measure=>have:=HK1.out;omega
       case rel=>exact ⟨(ji6),(wrap64 (x4_1+1)),(by first|rfl|(simp;done)|(simp only [← hji6]<;>(first|rfl|simp))|(simp [*];done)),(by first|rfl|(simp;done)|(simp [*];done)),H',⟨by have:=HK1.out;omega⟩,⟨by repeat (with_reducible first|exact HB.out|apply y01|apply y00|apply y02)⟩⟩
      ·rw [if_neg c5] at H
       exact absurd H (by simp)
     ·rw [if_neg c4] at H
      have c4b0:decide (x4_1<(l0.length:Int))=false:=zDf c4;clear c4;obtain rfl:=zSi H;go_wp2
      go_ret
      exact ⟨by first|rfl|(simp [y06,y05]<;>rfl)|(simp [*,y06,y05]<;>rfl),by repeat (with_reducible first|exact HB.out|apply y01|apply y00|apply y02)⟩
  ·rw [if_neg c3] at H
   exact absurd H (by simp)
def mobs_mobs.f (k:Nat) (l0:List Int):Option (Int):=if (l0.length:Int)=0 then (some 0) else ((slices_Max_int_int.f k l0).bind fun t205=>(some (wrap64 (t205+1))))
theorem mobs_mobs.calls (k:Nat) (A0:Option Addr) (c0:Nat) (l0:List Int) (r:Int) (w:World) (hr0:Kd.C (Kd.int .i64) w A0 l0.length l0) (hc0:l0.length≤c0) (h:mobs_mobs.f k l0=some r) :
  Calls Tra.prog 69 #[.slice A0 l0.length c0] w fun e w'=>e=.returned (.int .i64 r)∧Below w.heap.size w w':=by
 have HR0:=As0.mk hr0;have HC0:=As0.mk hc0;clear hr0 hc0;have HB:=As0.mk (Below.refl w.heap.size w);have H:(if (l0.length:Int)=0 then (some 0) else ((slices_Max_int_int.f k l0).bind fun t205=>(some (wrap64 (t205+1)))))=some r:=h;clear h
 by_cases c2:(l0.length:Int)=0
 ·rw [if_pos c2] at H
  have c2b0:((l0.length:Int) == 0)=true:=beq_iff_eq.mpr c2;have c2b1:((l0.length:Int) != 0)=false:=bne_eq_false_iff_eq.mpr c2;clear c2;obtain rfl:=zSi H;go_enter Tra.func69,Tra.ntmps69
  go_wp2
  go_ret
  exact ⟨by first|rfl|(simp [y06,y05]<;>rfl)|(simp [*,y06,y05]<;>rfl),by repeat (with_reducible first|exact HB.out|apply y01|apply y00|apply y02)⟩
 ·rw [if_neg c2] at H
  have c2b0:((l0.length:Int) == 0)=false:=beq_eq_false_iff_ne.mpr c2;have c2b1:((l0.length:Int) != 0)=true:=bne_iff_ne.mpr c2;have c2b2:¬ (l0=[]):=fun h_=>c2 (by rw [h_];rfl)
  replace H:=Option.bind_eq_some_iff.mp H;obtain ⟨t205,A30,H⟩:=H;replace H:(some (wrap64 (t205+1)))=some r:=H;have A3:=As0.mk A30;clear A30;obtain rfl:=zSi H;go_enter Tra.func69,Tra.ntmps69
  go_wp2_with (first|((with_reducible refine y0d (f:=90) rfl ?_);refine y12 (some 7) rfl rfl Tra.func90 (by kernel_rfl) rfl #[.slice A0 l0.length c0] rfl (by (try simp only [List.map_toArray,List.map_cons,List.map_nil]);first|done|rfl|(simp only [List.length_drop,List.length_take];rfl)) ?_;(with_reducible refine (slices_Max_int_int.calls k _ _ l0 t205 _ ?side1 ?side2 A3.out).mono ?_);(case side1=>repeat (first|exact HR0.out|(with_reducible refine Kd.C_alloc ?_ _)|(with_reducible refine Kd.C_drewN ?_ _)|(with_reducible refine Kd.C_drew ?_)));(case side2=>exact HC0.out);rintro e w4 ⟨rfl,hb⟩;refine ⟨_,rfl,?_⟩;have n0_:=As0.mk (y03 (by repeat (with_reducible first|exact HB.out|apply y01|apply y00|apply y02)) hb);clear HB;have HB:=n0_;clear n0_;(try clear hb);(try clear hb2);(try clear hk);(try clear hi)))
  go_ret
  exact ⟨by first|rfl|(simp [y06,y05]<;>rfl)|(simp [*,y06,y05]<;>rfl),by repeat (with_reducible first|exact HB.out|apply y01|apply y00|apply y02)⟩
end
section
attribute [local go_sem] y0y y0w y17 y16 y0q y0p y0x y0v
def mobs_Mobs.l0:Nat->List (List Int)->List Int->Int->Int->Option ((List (List Int)) × Int)
 |0,_,_,_,_=>none
 |k+1,x5,x17,x18,x19=>if x19<x18 then (if 0≤x19 then (if x19<(x17.length:Int) then (if 0≤(rd x17 x19) then (if (rd x17 x19)<(x5.length:Int) then (if (y0i x5 (rd x17 x19)).length<17592186044416 then (mobs_Mobs.l0 k (x5.set ((rd x17 x19):Int).toNat ((y0i x5 (rd x17 x19)) ++ [x19])) x17 x18 (wrap64 (x19+1))) else (none)) else (none)) else (none)) else (none)) else (none)) else (some (x5,0))
def mobs_Mobs.f (k:Nat) (l0:List Int):Option ((List (List Int)) × Int):=(mobs_read.f k [l0]).bind fun t206=>(if t206=0 then ((mobs_mobs.f k l0).bind fun t207=>(if 0≤t207 then (if (t207:Int).toNat≤11728124029610 then (mobs_Mobs.l0 k (List.replicate (t207:Int).toNat []) l0 (l0.length:Int) 0) else (none)) else (none))) else (some (([]:List (List Int)),t206)))
theorem mobs_Mobs.calls (k:Nat) (A0:Option Addr) (c0:Nat) (l0:List Int) (r1:List (List Int)) (r2:Int) (w:World) (hr0:Kd.C (Kd.int .i64) w A0 l0.length l0) (hc0:l0.length≤c0) (h:mobs_Mobs.f k l0=some (r1,r2)) :
  Calls Tra.prog 42 #[.slice A0 l0.length c0] w fun e w'=>∃ v0_:Value,e=.returned (.tuple #[v0_,.int .i64 r2])∧Kd.S (Kd.slice 3 (Kd.int .i64)) 29 w' w.heap.size (fun _=>True) v0_ r1∧Below w.heap.size w w':=by
 have HR0:=As0.mk hr0;have HC0:=As0.mk hc0;clear hr0 hc0;have HB:=As0.mk (Below.refl w.heap.size w);have H:((mobs_read.f k [l0]).bind fun t206=>(if t206=0 then ((mobs_mobs.f k l0).bind fun t207=>(if 0≤t207 then (if (t207:Int).toNat≤11728124029610 then (mobs_Mobs.l0 k (List.replicate (t207:Int).toNat []) l0 (l0.length:Int) 0) else (none)) else (none))) else (some (([]:List (List Int)),t206))))=some (r1,r2):=h;clear h;replace H:=Option.bind_eq_some_iff.mp H;obtain ⟨t206,A20,H⟩:=H;replace H:(if t206=0 then ((mobs_mobs.f k l0).bind fun t207=>(if 0≤t207 then (if (t207:Int).toNat≤11728124029610 then (mobs_Mobs.l0 k (List.replicate (t207:Int).toNat []) l0 (l0.length:Int) 0) else (none)) else (none))) else (some (([]:List (List Int)),t206)))=some (r1,r2):=H;have A2:=As0.mk A20;clear A20
 by_cases c3:t206=0
 ·rw [if_pos c3] at H
  have c3b0:(t206 == 0)=true:=beq_iff_eq.mpr c3;have c3b1:(t206 != 0)=false:=bne_eq_false_iff_eq.mpr c3;clear c3;replace H:=Option.bind_eq_some_iff.mp H;obtain ⟨t207,A40,H⟩:=H;replace H:(if 0≤t207 then (if (t207:Int).toNat≤11728124029610 then (mobs_Mobs.l0 k (List.replicate (t207:Int).toNat []) l0 (l0.length:Int) 0) else (none)) else (none))=some (r1,r2):=H;have A4:=As0.mk A40;clear A40
  by_cases c5:0≤t207
  ·rw [if_pos c5] at H
   have c5b0:=eq_true c5;have c5b1:decide (0≤t207)=true:=zDt c5;clear c5
   by_cases c6:(t207:Int).toNat≤11728124029610
   ·rw [if_pos c6] at H
    have c6b0:=eq_true c6;have c6b1:decide ((t207:Int).toNat≤11728124029610)=true:=zDt c6;clear c6;obtain ⟨y208,hy208⟩:∃ y_:List (List Int),y_=(List.replicate (t207:Int).toNat []):=⟨_,rfl⟩
    replace H:(mobs_Mobs.l0 k y208 l0 (l0.length:Int) 0)=some (r1,r2):=by first|(rw [hy208];with_reducible exact H)|(have H2_:=(Option.bind_some _ _).symm.trans H;rw [hy208];with_reducible exact H2_)|(have H2_:=(Option.bind_some _ _).symm.trans H;with_reducible exact H2_)|with_reducible exact H|(rw [hy208];exact H)|exact H
    have Ny208:=As0.mk hy208;clear hy208;have H':=As0.mk H;clear H;go_enter Tra.func42,Tra.ntmps42
    go_wp2_with (first|((with_reducible refine y0n (N:=9) rfl ?_);refine Kd.N_lit (Kd.slice 3 (Kd.int .i64)) _ 29 ?hg (N':=9) ?hd (xs:=([l0]:List (List Int))) (inner:=[.slice A0 l0.length c0]) (ok:=(fun _=>True)) (okp:=(fun _=>True)) ?hr ?hp (fun _ hk=>hk) ((show ∀ k_,w.heap.size≤k_->(fun _=>True) k_ from fun _ _=>trivial) _ (zLe _)) (Below.refl _ _) (zLe _) (by simp) ?_;(case hd=>rfl);(case hg=>rfl);(case hr=>first|(go_simp;done)|(go_simp;rfl));(case hp=>exact (Reps.one (show Kd.FK (Kd.slice 3 (Kd.int .i64)) _ _ l0 [.slice A0 l0.length c0] from (Kd.FK_slice_mk HC0.out (Kd.F_mono (Kd.F_below (Kd.C_F (Kd.heap_int .i64) HR0.out) (by repeat (with_reducible first|exact HB.out|apply y01|apply y00|apply y02))) (fun _ _=>trivial)))) (Reps.none _ _)));intro v219 w4 ho5 hb hg_ hnew_;clear hg_ hnew_;(try simp only [Int.reduceToNat] at ho5);have n1_:=As0.mk (Kd.N_lower ho5 (y04 (by repeat (with_reducible first|exact HB.out|apply y01|apply y00|apply y02))));have n2_:=As0.mk (y03 (by repeat (with_reducible first|exact HB.out|apply y01|apply y00|apply y02)) hb);clear HB;have HO220:=n1_;have HB:=n2_;clear n1_ n2_;clear hb ho5;obtain ⟨Ao6,co6,eo6⟩:=Kd.N_slice HO220.out;subst eo6)|((with_reducible refine y0d (f:=49) rfl ?_);refine y12 (some 10) rfl rfl Tra.func49 (by kernel_rfl) rfl #[.slice Ao6 ([l0]:List (List Int)).length co6] rfl (by (try simp only [List.map_toArray,List.map_cons,List.map_nil]);first|done|rfl|(simp only [List.length_drop,List.length_take];rfl)) ?_;(with_reducible refine (mobs_read.calls k _ _ [l0] t206 _ ?side1 ?side2 A2.out).mono ?_);(case side1=>repeat (first|exact (Kd.N_reads' HO220.out).2.2|(with_reducible refine Kd.C_alloc ?_ _)|(with_reducible refine Kd.C_drewN ?_ _)|(with_reducible refine Kd.C_drew ?_)));(case side2=>exact (Kd.N_reads' HO220.out).2.1);rintro e w7 ⟨rfl,hb⟩;refine ⟨_,rfl,?_⟩;have n2_:=As0.mk (y03 (by repeat (with_reducible first|exact HB.out|apply y01|apply y00|apply y02)) hb);clear HO220;clear HB;have HB:=n2_;clear n2_;(try clear hb))|((with_reducible refine y0d (f:=69) rfl ?_);refine y12 (some 15) rfl rfl Tra.func69 (by kernel_rfl) rfl #[.slice A0 l0.length c0] rfl (by (try simp only [List.map_toArray,List.map_cons,List.map_nil]);first|done|rfl|(simp only [List.length_drop,List.length_take];rfl)) ?_;(with_reducible refine (mobs_mobs.calls k _ _ l0 t207 _ ?side1 ?side2 A4.out).mono ?_);(case side1=>repeat (first|exact (Kd.C_below HR0.out HB.out)|(with_reducible refine Kd.C_alloc ?_ _)|(with_reducible refine Kd.C_drewN ?_ _)|(with_reducible refine Kd.C_drew ?_)));(case side2=>exact HC0.out);rintro e w7 ⟨rfl,hb⟩;refine ⟨_,rfl,?_⟩;have n0_:=As0.mk (y03 (by repeat (with_reducible first|exact HB.out|apply y01|apply y00|apply y02)) hb);clear HB;have HB:=n0_;clear n0_;(try clear hb);(try clear hb2);(try clear hk);(try clear hi))|((with_reducible refine y0n (N:=16) rfl ?_);refine Kd.S_make (Kd.slice 3 (Kd.int .i64)) _ 29 rfl (N:=16) rfl 50 _ _ rfl t207 rfl rfl Tra.underlying50 (.slice none 0 0) 24 info29 rfl (by decide) (by omega) [] (ok:=fun _=>True) (okp:=fun _=>True) ⟨_,rfl,Kd.R_nil _ _ _ _ _⟩ (fun _ hk=>hk) trivial (zDo (by with_reducible assumption)) (Nat.le_trans (Nat.mul_le_mul_right _ (zDo (by with_reducible assumption):t207.toNat≤11728124029610)) (by omega)) (Below.refl _ _) (zLe _) ?_;intro v209 w8 ho9 hb hg_ hnew_;clear hg_ hnew_;(first|rw [← Ny208.out] at ho9|(simp only [Int.reduceToNat] at ho9;rw [← Ny208.out] at ho9));have n0_:=As0.mk (Kd.S_lower ho9 (y04 (by repeat (with_reducible first|exact HB.out|apply y01|apply y00|apply y02))));have n1_:=As0.mk (y03 (by repeat (with_reducible first|exact HB.out|apply y01|apply y00|apply y02)) hb);clear HB;have HO210:=n0_;have HB:=n1_;clear n0_ n1_;clear hb ho9))
    go_loopg [19] k (fun kq v19 w'=>∃ (x5_1:List (List Int)) (x19_1:Int),v19=.int .i64 x19_1∧As0 (mobs_Mobs.l0 kq x5_1 l0 (l0.length:Int) x19_1=some (r1,r2))∧As0 (kq≤k)∧As0 (Kd.S (Kd.slice 3 (Kd.int .i64)) 29 w' w.heap.size (fun _=>True) v209 x5_1)∧As0 (Below w.heap.size w w'))
    case atStart=>exact ⟨(y208),(0),(by first|rfl|(simp;done)|(simp [*];done)),H',⟨zLe _⟩,⟨by (with_reducible repeat (first|apply Kd.S_alloc|apply Kd.S_drewN|apply Kd.S_drew));exact HO210.out⟩,⟨by repeat (with_reducible first|exact HB.out|apply y01|apply y00|apply y02)⟩⟩
    case round =>
     clear H'
     try clear p2
     try clear c3
     try clear c3b0
     try clear c3b1
     try clear c4
     try clear c5
     try clear c5b0
     try clear c5b1
     try clear c6
     try clear c6b0
     try clear c6b1
     obtain ⟨x5_1,x19_1,rfl,HA,HK1,HO_5,HB⟩:=hrel;cases gk with
     |zero=>exact absurd HA.out (by simp [mobs_Mobs.l0])
     |succ k1 =>
      have H:=HA.out;clear HA;simp only [mobs_Mobs.l0] at H
      by_cases c10:x19_1<(l0.length:Int)
      ·rw [if_pos c10] at H
       have c10b0:decide (x19_1<(l0.length:Int))=true:=zDt c10;clear c10
       by_cases c11:0≤x19_1
       ·rw [if_pos c11] at H
        have c11b0:decide (0≤x19_1)=true:=zDt c11;clear c11
        by_cases c12:x19_1<(l0.length:Int)
        ·rw [if_pos c12] at H
         have c12b0:decide (x19_1<(l0.length:Int))=true:=zDt c12;clear c12
         by_cases c13:0≤(rd l0 x19_1)
         ·rw [if_pos c13] at H
          have c13b0:decide (0≤(rd l0 x19_1))=true:=zDt c13;clear c13
          by_cases c14:(rd l0 x19_1)<(x5_1.length:Int)
          ·rw [if_pos c14] at H
           have c14b0:decide ((rd l0 x19_1)<(x5_1.length:Int))=true:=zDt c14;clear c14
           by_cases c15:(y0i x5_1 (rd l0 x19_1)).length<17592186044416
           ·rw [if_pos c15] at H
            have LMc15:=As0.mk c15;clear c15;obtain ⟨y213,hy213⟩:∃ y_:List Int,y_=((y0i x5_1 (rd l0 x19_1)) ++ [x19_1]):=⟨_,rfl⟩
            replace H:(mobs_Mobs.l0 k1 (x5_1.set ((rd l0 x19_1):Int).toNat y213) l0 (l0.length:Int) (wrap64 (x19_1+1)))=some (r1,r2):=by first|(rw [hy213];with_reducible exact H)|(have H2_:=(Option.bind_some _ _).symm.trans H;rw [hy213];with_reducible exact H2_)|(have H2_:=(Option.bind_some _ _).symm.trans H;with_reducible exact H2_)|with_reducible exact H|(rw [hy213];exact H)|exact H
            have Ny213:=As0.mk hy213;clear hy213;obtain ⟨y216,hy216⟩:∃ y_:List (List Int),y_=(x5_1.set ((rd l0 x19_1):Int).toNat y213):=⟨_,rfl⟩
            replace H:(mobs_Mobs.l0 k1 y216 l0 (l0.length:Int) (wrap64 (x19_1+1)))=some (r1,r2):=by first|(rw [hy216];with_reducible exact H)|(have H2_:=(Option.bind_some _ _).symm.trans H;rw [hy216];with_reducible exact H2_)|(have H2_:=(Option.bind_some _ _).symm.trans H;with_reducible exact H2_)|with_reducible exact H|(rw [hy216];exact H)|exact H
            have Ny216:=As0.mk hy216;clear hy216;have H':=As0.mk H;clear H;have p211:0≤(x19_1:Int):=zDo (by with_reducible assumption);have q211:x19_1<(l0.length:Int):=zDo (by with_reducible assumption);obtain ⟨ad211,e211,hx211_0⟩:=Kd.at_int HR0.out x19_1 p211 q211;cases e211
            replace hx211_0:=(HB.out.cell (World.block_lt_of_cell? w _ hx211_0)).trans hx211_0;replace p211:=eq_true p211;replace q211:=eq_true q211;obtain ⟨Ao17,co17,eo17⟩:=Kd.S_slice HO_5.out;subst eo17;have p212:0≤((rd l0 x19_1):Int):=zDo (by with_reducible assumption);have q212:(rd l0 x19_1)<(x5_1.length:Int):=zDo (by with_reducible assumption);obtain ⟨ad212,A212_0,c212_0,e212,hx212_0,hl212_0,hi212_0⟩:=y3k (Kd.S_reads' HO_5.out).2.2 (rd l0 x19_1) p212 q212;cases e212
            obtain ⟨ce212,hce212,hMe212,hcc212⟩:=Kd.S_get HO_5.out [] (rd l0 x19_1) p212 (by first|exact q212|exact zDo (by with_reducible assumption)|(have e_:=(Kd.S_reads' HO_5.out).1;omega));obtain ⟨ve212_0,rfl,ge212_0⟩:=hMe212;have hv212_0:=hcc212 0 _ rfl;rw [Nat.add_zero,show ((Kd.slice 3 (Kd.int .i64))).sz=1 from rfl,Nat.mul_one] at hv212_0;replace hv212_0:=zSi (hv212_0.symm.trans hx212_0);rw [hv212_0] at ge212_0;have HL212_0:=As0.mk (show Kd.R (Kd.int .i64) 3 _ _ _ _ (y0i x5_1 (rd l0 x19_1)) from ge212_0);clear hv212_0 ge212_0;have HX212_0:=As0.mk hx212_0;clear hcc212 hce212;have HR212_0:=As0.mk hi212_0;have HC212_0:=As0.mk hl212_0;clear hi212_0 hl212_0;replace p212:=eq_true p212;replace q212:=eq_true q212;obtain ⟨go18,co18,eo18,gb18,gl18,cl18,HG18⟩:=Kd.S_form HO_5.out (by have h_:((rd l0 x19_1):Int)<((x5_1.length:Int):Int):=zDo (by with_reducible assumption);have h2_:0≤((rd l0 x19_1):Int):=(zDo (by with_reducible assumption));omega)
            (first|cases eo18|(injection eo18 with ea_ en_ ec_;(first|subst ea_|(injection ea_ with ea_;subst ea_));subst ec_;clear en_))
            have GB18:=As0.mk gb18;have GG18:=As0.mk HG18;clear gb18 gl18 HG18
            (first|simp only [y18] at hx212_0|skip)
            obtain ⟨oki18,ce18,hcl18,hM18,hcc18,_,_,hH18⟩:=Kd.S_elem HO_5.out [] ((rd l0 x19_1):Int) (zDo (by with_reducible assumption)) (by have h_:((rd l0 x19_1):Int)<((x5_1.length:Int):Int):=zDo (by with_reducible assumption);first|exact h_|(have e_:=(Kd.S_reads' HO_5.out).1;omega)|simpa using h_);obtain ⟨ve18_0,rfl,ge18_0⟩:=hM18;have hv18:=hcc18 0 _ rfl;have hX18:=HX212_0.out
            (try simp only [y18] at hX18)
            (try simp only [Nat.add_zero] at hv18)
            (try rw [show ((Kd.slice 3 (Kd.int .i64))).sz=1 from rfl,Nat.mul_one] at hv18)
            replace hv18:=zSi (hv18.symm.trans hX18);subst hv18;clear hX18 hcc18 hcl18;have UU18:=As0.mk (show Kd.R (Kd.int .i64) 3 _ w.heap.size oki18 (.slice A212_0 (y0i x5_1 (rd l0 x19_1)).length c212_0) (y0i x5_1 (rd l0 x19_1)) from ge18_0);have HH18:=As0.mk hH18;have HN18:=As0.mk (Kd.S_reads' HO_5.out).1;clear hH18 ge18_0;go_wp2_with (first|((with_reducible refine y0l (b:=.append) (xs:=#[.tmp 29,.tmp 31]) rfl ?_);at_builtin;refine Kd.R_append (Kd.int .i64) (w0:=w) w.heap.size rfl (.tmp 29) (.tmp 31) 29 3 (.int .i64 0) 8 rfl Tra.underlying29 info3 rfl (by decide) (by omega) (.slice A212_0 (y0i x5_1 (rd l0 x19_1)).length c212_0) (y0i x5_1 (rd l0 x19_1)) x19_1 [.int .i64 x19_1] (fun k_=>oki18 k_∨((fun _=>True)) k_∧wr.heap.size≤k_) (fun _=>False) rfl rfl ?aP (fun _ hk=>hk.elim) ?aF ?aO ?aB ?aS ?aL ?_;(case aP=>exact rfl);(case aB=>exact (by repeat (with_reducible first|exact HB.out|apply y01|apply y00|apply y02)));(case aF=>exact (fun k_ hk=>.inr ⟨trivial,hk⟩));(case aO=>exact (by (with_reducible repeat (first|apply Kd.R_alloc|apply Kd.R_drewN|apply Kd.R_drew));exact Kd.R_mono UU18.out (fun _ hk=>.inl hk)));(case aS=>exact (y04 (by repeat (with_reducible first|exact HB.out|apply y01|apply y00|apply y02))));(case aL=>have:=LMc15.out;omega);intro v214 w19 ho hb hg hat;rw [← Ny213.out] at ho;have n0_:=As0.mk (hb);have n1_:=As0.mk (Kd.H_grown (Kd.H_widen (by repeat (first|exact HH18.out|refine Kd.H_alloc ?_ _|refine Kd.H_drewN ?_ _|refine Kd.H_drew ?_))) hg (fun k_ e_=>.inl (UU18.out.1 k_ e_)));have n2_:=As0.mk (ho);clear HB;clear HH18;clear HO_5;clear UU18;clear HL212_0;have HB:=n0_;have HH18:=n1_;have HO215:=n2_;clear n0_ n1_ n2_;clear ho hb hg hat;have p16:0≤((rd l0 x19_1):Int):=zDo (by with_reducible assumption);have q16:((rd l0 x19_1):Int)<((x5_1.length:Int):Int):=zDo (by with_reducible assumption);replace p16:=eq_true p16;replace q16:=eq_true q16;obtain ⟨Ao22,co22,eo22⟩:=Kd.R_slice HO215.out;subst eo22;obtain ⟨_,_,hraw20,_,_,hcc20,_⟩:=Kd.H_raw HH18.out (zDo (by with_reducible assumption)) (by have h_:((rd l0 x19_1):Int)<((x5_1.length:Int):Int):=zDo (by with_reducible assumption);first|exact h_|(have e_:=(HN18.out);omega)|simpa using h_);obtain ⟨_,hfr20⟩:=Kd.H_at HH18.out (zDo (by with_reducible assumption)) (by have h_:((rd l0 x19_1):Int)<((x5_1.length:Int):Int):=zDo (by with_reducible assumption);first|exact h_|(have e_:=(HN18.out);omega)|simpa using h_);have hx20_0:=hcc20 0 _ rfl;have hf20_0:=hfr20 0;(try simp only [Nat.add_zero] at hx20_0 hf20_0);(try rw [show ((Kd.slice 3 (Kd.int .i64))).sz=1 from rfl,Nat.mul_one] at hx20_0);(try rw [show ((Kd.slice 3 (Kd.int .i64))).sz=1 from rfl,Nat.mul_one] at hf20_0);have HP20:=Kd.S_seg0 HH18.out (zDo (by with_reducible assumption)) (by have h_:((rd l0 x19_1):Int)<((x5_1.length:Int):Int):=zDo (by with_reducible assumption);first|exact h_|(have e_:=(HN18.out);omega)|simpa using h_) (seg:=[.slice Ao22 y213.length co22]) (j:=0) (show 1≤1 from by decide) (x':=y213) (Kd.M_row HO215.out) (fun _ hk=>hk);(try simp only [show ((Kd.slice 3 (Kd.int .i64))).sz=1 from rfl,Nat.mul_one,Nat.add_zero] at HP20);clear hcc20 hfr20)|((with_reducible refine y20 (t:=29) (p:=33) rfl ?_);refine y1l (t:=29) (p:=33) (v:=?vo_w21) (w1:=(w19.setCell ⟨go18,((rd l0 x19_1):Int).toNat,none⟩ (.slice Ao22 y213.length co22))) ?hg ?ho ?hn ?hr ?_;(case ho=>rfl);(case hg=>rfl);(case hn=>rfl);(case hr=>first|(go_simp;done)|(go_simp;rfl));intro w21 hw;have hg:w19.grownBy w21 (some go18):=(by rw [hw];exact HP20.2);have hp_:Kd.S (Kd.slice 3 (Kd.int .i64)) 29 w21 w.heap.size (fun _=>True) (.slice (some ⟨go18,0,none⟩) x5_1.length co17) y216:=(by rw [hw,Ny216.out];exact HP20.1);clear HP20;have n0_:=As0.mk ((by rw [hw];exact y0c HB.out GB18.out:Below w.heap.size w w21));have n1_:=As0.mk (hp_);clear HB;clear HO215;clear HH18;have HB:=n0_;have HO_5:=n1_;clear n0_ n1_;clear hg hw hp_ hraw20))
            go_roundg k1
            case measure=>have:=HK1.out;omega
            case rel=>exact ⟨(y216),(wrap64 (x19_1+1)),(by first|rfl|(simp;done)|(simp [*];done)),H',⟨by have:=HK1.out;omega⟩,⟨by (with_reducible repeat (first|apply Kd.S_alloc|apply Kd.S_drewN|apply Kd.S_drew));exact HO_5.out⟩,⟨by repeat (with_reducible first|exact HB.out|apply y01|apply y00|apply y02)⟩⟩
           ·rw [if_neg c15] at H
            exact absurd H (by simp)
          ·rw [if_neg c14] at H
           exact absurd H (by simp)
         ·rw [if_neg c13] at H
          exact absurd H (by simp)
        ·rw [if_neg c12] at H
         exact absurd H (by simp)
       ·rw [if_neg c11] at H
        exact absurd H (by simp)
      ·rw [if_neg c10] at H
       have c10b0:decide (x19_1<(l0.length:Int))=false:=zDf c10;clear c10;simp only [Option.some.injEq,Prod.mk.injEq] at H;obtain ⟨rfl,rfl⟩:=H;go_wp2
       go_ret2
       exact ⟨_,by first|rfl|(simp [y06,y05]<;>rfl)|(simp [*,y06,y05]<;>rfl),by (with_reducible repeat (first|apply Kd.S_alloc|apply Kd.S_drewN|apply Kd.S_drew));exact HO_5.out,by repeat (with_reducible first|exact HB.out|apply y01|apply y00|apply y02)⟩
   ·rw [if_neg c6] at H
    exact absurd H (by simp)
  ·rw [if_neg c5] at H
   exact absurd H (by simp)
 ·rw [if_neg c3] at H
  have c3b0:(t206 == 0)=false:=beq_eq_false_iff_ne.mpr c3;have c3b1:(t206 != 0)=true:=bne_iff_ne.mpr c3;simp only [Option.some.injEq,Prod.mk.injEq] at H;obtain ⟨rfl,rfl⟩:=H;go_enter Tra.func42,Tra.ntmps42
  go_wp2_with (first|((with_reducible refine y0n (N:=9) rfl ?_);refine Kd.N_lit (Kd.slice 3 (Kd.int .i64)) _ 29 ?hg (N':=9) ?hd (xs:=([l0]:List (List Int))) (inner:=[.slice A0 l0.length c0]) (ok:=(fun _=>True)) (okp:=(fun _=>True)) ?hr ?hp (fun _ hk=>hk) ((show ∀ k_,w.heap.size≤k_->(fun _=>True) k_ from fun _ _=>trivial) _ (zLe _)) (Below.refl _ _) (zLe _) (by simp) ?_;(case hd=>rfl);(case hg=>rfl);(case hr=>first|(go_simp;done)|(go_simp;rfl));(case hp=>exact (Reps.one (show Kd.FK (Kd.slice 3 (Kd.int .i64)) _ _ l0 [.slice A0 l0.length c0] from (Kd.FK_slice_mk HC0.out (Kd.F_mono (Kd.F_below (Kd.C_F (Kd.heap_int .i64) HR0.out) (by repeat (with_reducible first|exact HB.out|apply y01|apply y00|apply y02))) (fun _ _=>trivial)))) (Reps.none _ _)));intro v219 w4 ho5 hb hg_ hnew_;clear hg_ hnew_;(try simp only [Int.reduceToNat] at ho5);have n1_:=As0.mk (Kd.N_lower ho5 (y04 (by repeat (with_reducible first|exact HB.out|apply y01|apply y00|apply y02))));have n2_:=As0.mk (y03 (by repeat (with_reducible first|exact HB.out|apply y01|apply y00|apply y02)) hb);clear HB;have HO220:=n1_;have HB:=n2_;clear n1_ n2_;clear hb ho5;obtain ⟨Ao6,co6,eo6⟩:=Kd.N_slice HO220.out;subst eo6)|((with_reducible refine y0d (f:=49) rfl ?_);refine y12 (some 10) rfl rfl Tra.func49 (by kernel_rfl) rfl #[.slice Ao6 ([l0]:List (List Int)).length co6] rfl (by (try simp only [List.map_toArray,List.map_cons,List.map_nil]);first|done|rfl|(simp only [List.length_drop,List.length_take];rfl)) ?_;(with_reducible refine (mobs_read.calls k _ _ [l0] t206 _ ?side1 ?side2 A2.out).mono ?_);(case side1=>repeat (first|exact (Kd.N_reads' HO220.out).2.2|(with_reducible refine Kd.C_alloc ?_ _)|(with_reducible refine Kd.C_drewN ?_ _)|(with_reducible refine Kd.C_drew ?_)));(case side2=>exact (Kd.N_reads' HO220.out).2.1);rintro e w7 ⟨rfl,hb⟩;refine ⟨_,rfl,?_⟩;have n2_:=As0.mk (y03 (by repeat (with_reducible first|exact HB.out|apply y01|apply y00|apply y02)) hb);clear HO220;clear HB;have HB:=n2_;clear n2_;(try clear hb)))
  go_ret2
  exact ⟨_,by first|rfl|(simp [y06,y05]<;>rfl)|(simp [*,y06,y05]<;>rfl),by first|exact Kd.S_nil _ _ _ _ _|exact Kd.N_nil _ _ _ _ _|exact Kd.V_nil _ _ _ _ _|exact Kd.Q_nil _ _ _ _ _|exact Kd.R_nil _ _ _ _ _,by repeat (with_reducible first|exact HB.out|apply y01|apply y00|apply y02)⟩
end
end Go.Proofs.Ytdhgeondbnpeoaa.P
namespace Go.Proofs.Ytdhgeondbnpeoaa.P
open Go.RowKit Go.Proofs.Yw.Wd Go.Proofs.Yw.La Go.Proofs.Yw.Mo
section
attribute [local go_sem] y0y y0w y17 y16 y0q y0p y0x y0v
mutual
def r6_numbered.l0:Nat->List Int->List Int->Int->Int->Option (List Int)
 |0,_,_,_,_=>none
 |k+1,x0,x3,x4,x5=>if x5<(x0.length:Int) then (r6_numbered.l1 k x0 x3 x4 x5 (-1) 0) else (some x3)
def r6_numbered.l1:Nat->List Int->List Int->Int->Int->Int->Int->Option (List Int)
 |0,_,_,_,_,_,_=>none
 |k+1,x0,x3,x4,x5,x6,x7=>if x7<x5 then (r6_numbered.j2 k x0 x3 x4 x5 x6 x7 (decide (x6<0))) else (r6_numbered.j2 k x0 x3 x4 x5 x6 x7 false)
def r6_numbered.j2:Nat->List Int->List Int->Int->Int->Int->Int->Bool->Option (List Int)
 |0,_,_,_,_,_,_,_=>none
 |k+1,x0,x3,x4,x5,x6,x7,x20=>if x20=true then (if 0≤x7 then (if x7<(x0.length:Int) then (if 0≤x5 then (if x5<(x0.length:Int) then (if (rd x0 x7)=(rd x0 x5) then (if x7<(x3.length:Int) then (r6_numbered.l1 k x0 x3 x4 x5 (rd x3 x7) (wrap64 (x7+1))) else (none)) else (r6_numbered.l1 k x0 x3 x4 x5 x6 (wrap64 (x7+1)))) else (none)) else (none)) else (none)) else (none)) else (if x6<0 then (if x3.length<17592186044416 then (r6_numbered.l0 k x0 (x3 ++ [x4]) (wrap64 (x4+1)) (wrap64 (x5+1))) else (none)) else (if x3.length<17592186044416 then (r6_numbered.l0 k x0 (x3 ++ [x6]) x4 (wrap64 (x5+1))) else (none)))
end
def r6_numbered.f (k:Nat) (l0:List Int):Option (List Int):=r6_numbered.l0 k l0 ([]:List Int) 0 0
theorem r6_numbered.calls (k:Nat) (A0:Option Addr) (c0:Nat) (l0:List Int) (r:List Int) (w:World) (hr0:Kd.C (Kd.int .i64) w A0 l0.length l0) (hc0:l0.length≤c0) (h:r6_numbered.f k l0=some r) :
  Calls Tra.prog 55 #[.slice A0 l0.length c0] w fun e w'=>∃ v0_:Value,e=.returned (v0_)∧Kd.R (Kd.int .i64) 3 w' w.heap.size (fun _=>True) v0_ r∧Below w.heap.size w w':=by
 have HR0:=As0.mk hr0;have HC0:=As0.mk hc0;clear hr0 hc0;have HB:=As0.mk (Below.refl w.heap.size w);have H:(r6_numbered.l0 k l0 ([]:List Int) 0 0)=some r:=h;clear h;have H':=As0.mk H;clear H;go_enter Tra.func55,Tra.ntmps55
 go_wp2
 repeat (go_quiet (fail);try go_wp2)
 go_loopg [3,4,5] k (fun kq v3 v4 v5 w'=>∃ (x3_1:List Int) (x4_1:Int) (x5_1:Int),v4=.int .i64 x4_1∧v5=.int .i64 x5_1∧As0 (r6_numbered.l0 kq l0 x3_1 x4_1 x5_1=some r)∧As0 (kq≤k)∧As0 (Kd.R (Kd.int .i64) 3 w' w.heap.size (fun _=>True) v3 x3_1)∧As0 (Below w.heap.size w w'))
 case atStart=>exact ⟨(([]:List Int)),(0),(0),(by first|rfl|(simp;done)|(simp [*];done)),(by first|rfl|(simp;done)|(simp [*];done)),H',⟨zLe _⟩,⟨by first|exact Kd.R_nil _ _ _ _ _|exact Kd.N_nil _ _ _ _ _|exact Kd.V_nil _ _ _ _ _|exact Kd.Q_nil _ _ _ _ _|exact Kd.S_nil _ _ _ _ _⟩,⟨by repeat (with_reducible first|exact HB.out|apply y01|apply y00|apply y02)⟩⟩
 case round =>
  clear H';obtain ⟨x3_1,x4_1,x5_1,rfl,rfl,HA,HK1,HO_3,HB⟩:=hrel;cases gk with
  |zero=>exact absurd HA.out (by simp [r6_numbered.l0])
  |succ k1 =>
   have H:=HA.out;clear HA;simp only [r6_numbered.l0] at H
   by_cases c2:x5_1<(l0.length:Int)
   ·rw [if_pos c2] at H
    have c2b0:decide (x5_1<(l0.length:Int))=true:=zDt c2;clear c2;have H':=As0.mk H;clear H;go_wp2
    repeat (go_quiet (fail);try go_wp2)
    go_loopg [6,7] k1 (fun kq v6 v7 w'=>∃ (x6_2:Int) (x7_2:Int),v6=.int .i64 x6_2∧v7=.int .i64 x7_2∧As0 (r6_numbered.l1 kq l0 x3_1 x4_1 x5_1 x6_2 x7_2=some r)∧As0 (kq≤k1)∧As0 (Kd.R (Kd.int .i64) 3 w' w.heap.size (fun _=>True) u3 x3_1)∧As0 (Below w.heap.size w w'))
    case atStart=>exact ⟨((-1)),(0),(by first|rfl|(simp;done)|(simp [*];done)),(by first|rfl|(simp;done)|(simp [*];done)),H',⟨zLe _⟩,⟨by (with_reducible repeat (first|apply Kd.R_alloc|apply Kd.R_drewN|apply Kd.R_drew));exact HO_3.out⟩,⟨by repeat (with_reducible first|exact HB.out|apply y01|apply y00|apply y02)⟩⟩
    case round =>
     clear H'
     try clear c2
     try clear c2b0
     try clear p2
     obtain ⟨x6_2,x7_2,rfl,rfl,HA,HK2,HO_3,HB⟩:=hrel;cases gk with
     |zero=>exact absurd HA.out (by simp [r6_numbered.l1])
     |succ k2 =>
      have H:=HA.out;clear HA;simp only [r6_numbered.l1] at H;have HC3:=As0.mk H;clear H;go_upto_region 8 with (fail)
      repeat (go_quiet (fail);go_upto_region 8 with (fail))
      go_cut [20] (fun v20 wc=>∃ (kq:Nat) (x20_2:Bool),v20=.bool x20_2∧As0 (r6_numbered.j2 kq l0 x3_1 x4_1 x5_1 x6_2 x7_2 x20_2=some r)∧As0 (kq≤k2)∧As0 (Kd.R (Kd.int .i64) 3 wc w.heap.size (fun _=>True) u3 x3_1)∧As0 (Below w.heap.size w wc))
      case first =>
       have H:=HC3.out;clear HC3
       by_cases c4:x7_2<x5_1
       ·rw [if_pos c4] at H
        have c4b0:decide (x7_2<x5_1)=true:=zDt c4;clear c4
        (first|rw [c4b0]|(simp only [y0o,y0s];rw [c4b0])|skip)
        have H':=As0.mk H;clear H;go_wp2
        repeat (go_quiet (fail);try go_wp2)
        go_meet
        case rel=>exact ⟨_,(decide (x6_2<0)),(by first|rfl|(simp;done)|(simp [*];done)),H',⟨by have:=HK1.out;have:=HK2.out;first|omega|exact zLe _⟩,⟨by (with_reducible repeat (first|apply Kd.R_alloc|apply Kd.R_drewN|apply Kd.R_drew));exact HO_3.out⟩,⟨by repeat (with_reducible first|exact HB.out|apply y01|apply y00|apply y02)⟩⟩
       ·rw [if_neg c4] at H
        have c4b0:decide (x7_2<x5_1)=false:=zDf c4;clear c4
        (first|rw [c4b0]|(simp only [y0o,y0s];rw [c4b0])|skip)
        have H':=As0.mk H;clear H;go_wp2
        repeat (go_quiet (fail);try go_wp2)
        go_meet
        case rel=>exact ⟨_,(false),(by first|rfl|(simp;done)|(simp [*];done)),H',⟨by have:=HK1.out;have:=HK2.out;first|omega|exact zLe _⟩,⟨by (with_reducible repeat (first|apply Kd.R_alloc|apply Kd.R_drewN|apply Kd.R_drew));exact HO_3.out⟩,⟨by repeat (with_reducible first|exact HB.out|apply y01|apply y00|apply y02)⟩⟩
      case rest =>
       clear HC3
       try clear c2
       try clear c2b0
       try clear p2
       try clear c4
       try clear c4b0
       try clear p2
       obtain ⟨kq,x20_2,rfl,HA,HJ2,HO_3,HB⟩:=hcut;cases kq with
       |zero=>exact absurd HA.out (by simp [r6_numbered.j2])
       |succ kj2 =>
        have H:=HA.out;clear HA;simp only [r6_numbered.j2] at H
        by_cases c5:x20_2=true
        ·subst c5
         have H1:(if 0≤x7_2 then (if x7_2<(l0.length:Int) then (if 0≤x5_1 then (if x5_1<(l0.length:Int) then (if (rd l0 x7_2)=(rd l0 x5_1) then (if x7_2<(x3_1.length:Int) then (r6_numbered.l1 kj2 l0 x3_1 x4_1 x5_1 (rd x3_1 x7_2) (wrap64 (x7_2+1))) else (none)) else (r6_numbered.l1 kj2 l0 x3_1 x4_1 x5_1 x6_2 (wrap64 (x7_2+1)))) else (none)) else (none)) else (none)) else (none))=some r:=by rw [if_pos rfl] at H;exact H
         clear H;have H:=H1;clear H1
         by_cases c6:0≤x7_2
         ·rw [if_pos c6] at H
          have c6b0:decide (0≤x7_2)=true:=zDt c6;clear c6
          by_cases c7:x7_2<(l0.length:Int)
          ·rw [if_pos c7] at H
           have c7b0:decide (x7_2<(l0.length:Int))=true:=zDt c7;clear c7
           by_cases c8:0≤x5_1
           ·rw [if_pos c8] at H
            have c8b0:decide (0≤x5_1)=true:=zDt c8;clear c8
            by_cases c9:x5_1<(l0.length:Int)
            ·rw [if_pos c9] at H
             have c9b0:decide (x5_1<(l0.length:Int))=true:=zDt c9;clear c9
             by_cases c10:(rd l0 x7_2)=(rd l0 x5_1)
             ·rw [if_pos c10] at H
              have c10b0:((rd l0 x7_2) == (rd l0 x5_1))=true:=beq_iff_eq.mpr c10;have c10b1:((rd l0 x7_2) != (rd l0 x5_1))=false:=bne_eq_false_iff_eq.mpr c10;clear c10
              by_cases c11:x7_2<(x3_1.length:Int)
              ·rw [if_pos c11] at H
               have c11b0:decide (x7_2<(x3_1.length:Int))=true:=zDt c11;clear c11;have H':=As0.mk H;clear H;have p397:0≤(x7_2:Int):=zDo (by with_reducible assumption);have q397:x7_2<(l0.length:Int):=zDo (by with_reducible assumption);obtain ⟨ad397,e397,hx397_0⟩:=Kd.at_int HR0.out x7_2 p397 q397;cases e397
               replace hx397_0:=(HB.out.cell (World.block_lt_of_cell? w _ hx397_0)).trans hx397_0;replace p397:=eq_true p397;replace q397:=eq_true q397;have p398:0≤(x5_1:Int):=zDo (by with_reducible assumption);have q398:x5_1<(l0.length:Int):=zDo (by with_reducible assumption);obtain ⟨ad398,e398,hx398_0⟩:=Kd.at_int HR0.out x5_1 p398 q398;obtain rfl:ad397=ad398:=(by injection e398)
               replace hx398_0:=(HB.out.cell (World.block_lt_of_cell? w _ hx398_0)).trans hx398_0;replace p398:=eq_true p398;replace q398:=eq_true q398;obtain ⟨Ao12,co12,eo12⟩:=Kd.R_slice HO_3.out;subst eo12;have p399:0≤(x7_2:Int):=zDo (by with_reducible assumption);have q399:x7_2<(x3_1.length:Int):=zDo (by with_reducible assumption);obtain ⟨ad399,e399,hx399_0⟩:=Kd.at_int (Kd.R_reads' HO_3.out).2.2 x7_2 p399 q399;cases e399
               replace p399:=eq_true p399;replace q399:=eq_true q399;go_wp2
               repeat (go_quiet (fail);try go_wp2)
               go_roundg kj2
               case measure=>have:=HK1.out;have:=HK2.out;have:=HJ2.out;omega
               case rel=>exact ⟨(rd x3_1 x7_2),(wrap64 (x7_2+1)),(by first|rfl|(simp;done)|(simp [*];done)),(by first|rfl|(simp;done)|(simp [*];done)),H',⟨by have:=HK1.out;have:=HK2.out;have:=HJ2.out;omega⟩,⟨by (with_reducible repeat (first|apply Kd.R_alloc|apply Kd.R_drewN|apply Kd.R_drew));exact HO_3.out⟩,⟨by repeat (with_reducible first|exact HB.out|apply y01|apply y00|apply y02)⟩⟩
              ·rw [if_neg c11] at H
               exact absurd H (by simp)
             ·rw [if_neg c10] at H
              have c10b0:((rd l0 x7_2) == (rd l0 x5_1))=false:=beq_eq_false_iff_ne.mpr c10;have c10b1:((rd l0 x7_2) != (rd l0 x5_1))=true:=bne_iff_ne.mpr c10;have H':=As0.mk H;clear H;have p397:0≤(x7_2:Int):=zDo (by with_reducible assumption);have q397:x7_2<(l0.length:Int):=zDo (by with_reducible assumption);obtain ⟨ad397,e397,hx397_0⟩:=Kd.at_int HR0.out x7_2 p397 q397;cases e397
              replace hx397_0:=(HB.out.cell (World.block_lt_of_cell? w _ hx397_0)).trans hx397_0;replace p397:=eq_true p397;replace q397:=eq_true q397;have p398:0≤(x5_1:Int):=zDo (by with_reducible assumption);have q398:x5_1<(l0.length:Int):=zDo (by with_reducible assumption);obtain ⟨ad398,e398,hx398_0⟩:=Kd.at_int HR0.out x5_1 p398 q398;obtain rfl:ad397=ad398:=(by injection e398)
              replace hx398_0:=(HB.out.cell (World.block_lt_of_cell? w _ hx398_0)).trans hx398_0;replace p398:=eq_true p398;replace q398:=eq_true q398;go_wp2
              repeat (go_quiet (fail);try go_wp2)
              go_roundg kj2
              case measure=>have:=HK1.out;have:=HK2.out;have:=HJ2.out;omega
              case rel=>exact ⟨(x6_2),(wrap64 (x7_2+1)),(by first|rfl|(simp;done)|(simp [*];done)),(by first|rfl|(simp;done)|(simp [*];done)),H',⟨by have:=HK1.out;have:=HK2.out;have:=HJ2.out;omega⟩,⟨by (with_reducible repeat (first|apply Kd.R_alloc|apply Kd.R_drewN|apply Kd.R_drew));exact HO_3.out⟩,⟨by repeat (with_reducible first|exact HB.out|apply y01|apply y00|apply y02)⟩⟩
            ·rw [if_neg c9] at H
             exact absurd H (by simp)
           ·rw [if_neg c8] at H
            exact absurd H (by simp)
          ·rw [if_neg c7] at H
           exact absurd H (by simp)
         ·rw [if_neg c6] at H
          exact absurd H (by simp)
        ·replace c5:=Bool.eq_false_iff.mpr c5
         subst c5;have H1:(if x6_2<0 then (if x3_1.length<17592186044416 then (r6_numbered.l0 kj2 l0 (x3_1 ++ [x4_1]) (wrap64 (x4_1+1)) (wrap64 (x5_1+1))) else (none)) else (if x3_1.length<17592186044416 then (r6_numbered.l0 kj2 l0 (x3_1 ++ [x6_2]) x4_1 (wrap64 (x5_1+1))) else (none)))=some r:=by rw [if_neg (show ¬ (false=true) by decide)] at H;exact H
         clear H;have H:=H1;clear H1
         by_cases c13:x6_2<0
         ·rw [if_pos c13] at H
          have c13b0:decide (x6_2<0)=true:=zDt c13;clear c13
          by_cases c14:x3_1.length<17592186044416
          ·rw [if_pos c14] at H
           have LMc14:=As0.mk c14;clear c14;obtain ⟨y400,hy400⟩:∃ y_:List Int,y_=(x3_1 ++ [x4_1]):=⟨_,rfl⟩
           replace H:(r6_numbered.l0 kj2 l0 y400 (wrap64 (x4_1+1)) (wrap64 (x5_1+1)))=some r:=by first|(rw [hy400];with_reducible exact H)|(have H2_:=(Option.bind_some _ _).symm.trans H;rw [hy400];with_reducible exact H2_)|(have H2_:=(Option.bind_some _ _).symm.trans H;with_reducible exact H2_)|with_reducible exact H|(rw [hy400];exact H)|exact H
           have Ny400:=As0.mk hy400;clear hy400;have H':=As0.mk H;clear H;go_wp2_with (first|((with_reducible refine y0l (b:=.append) (xs:=#[.tmp 41,.tmp 43]) rfl ?_);at_builtin;refine Kd.R_append (Kd.int .i64) (w0:=w) w.heap.size rfl (.tmp 41) (.tmp 43) 29 3 (.int .i64 0) 8 rfl Tra.underlying29 info3 rfl (by decide) (by omega) u3 x3_1 x4_1 [.int .i64 x4_1] (fun _=>True) (fun _=>False) rfl rfl ?aP (fun _ hk=>hk.elim) ?aF ?aO ?aB ?aS ?aL ?_;(case aP=>exact rfl);(case aB=>exact (by repeat (with_reducible first|exact HB.out|apply y01|apply y00|apply y02)));(case aF=>exact (fun _ _=>trivial));(case aO=>exact (by (with_reducible repeat (first|apply Kd.R_alloc|apply Kd.R_drewN|apply Kd.R_drew));exact HO_3.out));(case aS=>exact (y04 (by repeat (with_reducible first|exact HB.out|apply y01|apply y00|apply y02))));(case aL=>have:=LMc14.out;omega);intro v401 w15 ho hb hg hat;rw [← Ny400.out] at ho;have n0_:=As0.mk (hb);have n1_:=As0.mk (ho);clear HB;clear HO_3;have HB:=n0_;have HO402:=n1_;clear n0_ n1_;clear ho hb hg hat))
           repeat (go_quiet (first|((with_reducible refine y0l (b:=.append) (xs:=#[.tmp 41,.tmp 43]) rfl ?_);at_builtin;refine Kd.R_append (Kd.int .i64) (w0:=w) w.heap.size rfl (.tmp 41) (.tmp 43) 29 3 (.int .i64 0) 8 rfl Tra.underlying29 info3 rfl (by decide) (by omega) u3 x3_1 x4_1 [.int .i64 x4_1] (fun _=>True) (fun _=>False) rfl rfl ?aP (fun _ hk=>hk.elim) ?aF ?aO ?aB ?aS ?aL ?_;(case aP=>exact rfl);(case aB=>exact (by repeat (with_reducible first|exact HB.out|apply y01|apply y00|apply y02)));(case aF=>exact (fun _ _=>trivial));(case aO=>exact (by (with_reducible repeat (first|apply Kd.R_alloc|apply Kd.R_drewN|apply Kd.R_drew));exact HO_3.out));(case aS=>exact (y04 (by repeat (with_reducible first|exact HB.out|apply y01|apply y00|apply y02))));(case aL=>have:=LMc14.out;omega);intro v401 w15 ho hb hg hat;rw [← Ny400.out] at ho;have n0_:=As0.mk (hb);have n1_:=As0.mk (ho);clear HB;clear HO_3;have HB:=n0_;have HO402:=n1_;clear n0_ n1_;clear ho hb hg hat));try go_wp2_with (first|((with_reducible refine y0l (b:=.append) (xs:=#[.tmp 41,.tmp 43]) rfl ?_);at_builtin;refine Kd.R_append (Kd.int .i64) (w0:=w) w.heap.size rfl (.tmp 41) (.tmp 43) 29 3 (.int .i64 0) 8 rfl Tra.underlying29 info3 rfl (by decide) (by omega) u3 x3_1 x4_1 [.int .i64 x4_1] (fun _=>True) (fun _=>False) rfl rfl ?aP (fun _ hk=>hk.elim) ?aF ?aO ?aB ?aS ?aL ?_;(case aP=>exact rfl);(case aB=>exact (by repeat (with_reducible first|exact HB.out|apply y01|apply y00|apply y02)));(case aF=>exact (fun _ _=>trivial));(case aO=>exact (by (with_reducible repeat (first|apply Kd.R_alloc|apply Kd.R_drewN|apply Kd.R_drew));exact HO_3.out));(case aS=>exact (y04 (by repeat (with_reducible first|exact HB.out|apply y01|apply y00|apply y02))));(case aL=>have:=LMc14.out;omega);intro v401 w15 ho hb hg hat;rw [← Ny400.out] at ho;have n0_:=As0.mk (hb);have n1_:=As0.mk (ho);clear HB;clear HO_3;have HB:=n0_;have HO402:=n1_;clear n0_ n1_;clear ho hb hg hat)))
           go_roundg kj2
           case measure=>have:=HK1.out;have:=HK2.out;have:=HJ2.out;omega
           case rel=>exact ⟨(y400),(wrap64 (x4_1+1)),(wrap64 (x5_1+1)),(by first|rfl|(simp;done)|(simp [*];done)),(by first|rfl|(simp;done)|(simp [*];done)),H',⟨by have:=HK1.out;have:=HK2.out;have:=HJ2.out;omega⟩,⟨by (with_reducible repeat (first|apply Kd.R_alloc|apply Kd.R_drewN|apply Kd.R_drew));exact HO402.out⟩,⟨by repeat (with_reducible first|exact HB.out|apply y01|apply y00|apply y02)⟩⟩
          ·rw [if_neg c14] at H
           exact absurd H (by simp)
         ·rw [if_neg c13] at H
          have c13b0:decide (x6_2<0)=false:=zDf c13;clear c13
          by_cases c16:x3_1.length<17592186044416
          ·rw [if_pos c16] at H
           have LMc16:=As0.mk c16;clear c16;obtain ⟨y403,hy403⟩:∃ y_:List Int,y_=(x3_1 ++ [x6_2]):=⟨_,rfl⟩
           replace H:(r6_numbered.l0 kj2 l0 y403 x4_1 (wrap64 (x5_1+1)))=some r:=by first|(rw [hy403];with_reducible exact H)|(have H2_:=(Option.bind_some _ _).symm.trans H;rw [hy403];with_reducible exact H2_)|(have H2_:=(Option.bind_some _ _).symm.trans H;with_reducible exact H2_)|with_reducible exact H|(rw [hy403];exact H)|exact H
           have Ny403:=As0.mk hy403;clear hy403;have H':=As0.mk H;clear H;go_wp2_with (first|((with_reducible refine y0l (b:=.append) (xs:=#[.tmp 41,.tmp 43]) rfl ?_);at_builtin;refine Kd.R_append (Kd.int .i64) (w0:=w) w.heap.size rfl (.tmp 41) (.tmp 43) 29 3 (.int .i64 0) 8 rfl Tra.underlying29 info3 rfl (by decide) (by omega) u3 x3_1 x6_2 [.int .i64 x6_2] (fun _=>True) (fun _=>False) rfl rfl ?aP (fun _ hk=>hk.elim) ?aF ?aO ?aB ?aS ?aL ?_;(case aP=>exact rfl);(case aB=>exact (by repeat (with_reducible first|exact HB.out|apply y01|apply y00|apply y02)));(case aF=>exact (fun _ _=>trivial));(case aO=>exact (by (with_reducible repeat (first|apply Kd.R_alloc|apply Kd.R_drewN|apply Kd.R_drew));exact HO_3.out));(case aS=>exact (y04 (by repeat (with_reducible first|exact HB.out|apply y01|apply y00|apply y02))));(case aL=>have:=LMc16.out;omega);intro v404 w17 ho hb hg hat;rw [← Ny403.out] at ho;have n0_:=As0.mk (hb);have n1_:=As0.mk (ho);clear HB;clear HO_3;have HB:=n0_;have HO405:=n1_;clear n0_ n1_;clear ho hb hg hat))
           repeat (go_quiet (first|((with_reducible refine y0l (b:=.append) (xs:=#[.tmp 41,.tmp 43]) rfl ?_);at_builtin;refine Kd.R_append (Kd.int .i64) (w0:=w) w.heap.size rfl (.tmp 41) (.tmp 43) 29 3 (.int .i64 0) 8 rfl Tra.underlying29 info3 rfl (by decide) (by omega) u3 x3_1 x6_2 [.int .i64 x6_2] (fun _=>True) (fun _=>False) rfl rfl ?aP (fun _ hk=>hk.elim) ?aF ?aO ?aB ?aS ?aL ?_;(case aP=>exact rfl);(case aB=>exact (by repeat (with_reducible first|exact HB.out|apply y01|apply y00|apply y02)));(case aF=>exact (fun _ _=>trivial));(case aO=>exact (by (with_reducible repeat (first|apply Kd.R_alloc|apply Kd.R_drewN|apply Kd.R_drew));exact HO_3.out));(case aS=>exact (y04 (by repeat (with_reducible first|exact HB.out|apply y01|apply y00|apply y02))));(case aL=>have:=LMc16.out;omega);intro v404 w17 ho hb hg hat;rw [← Ny403.out] at ho;have n0_:=As0.mk (hb);have n1_:=As0.mk (ho);clear HB;clear HO_3;have HB:=n0_;have HO405:=n1_;clear n0_ n1_;clear ho hb hg hat));try go_wp2_with (first|((with_reducible refine y0l (b:=.append) (xs:=#[.tmp 41,.tmp 43]) rfl ?_);at_builtin;refine Kd.R_append (Kd.int .i64) (w0:=w) w.heap.size rfl (.tmp 41) (.tmp 43) 29 3 (.int .i64 0) 8 rfl Tra.underlying29 info3 rfl (by decide) (by omega) u3 x3_1 x6_2 [.int .i64 x6_2] (fun _=>True) (fun _=>False) rfl rfl ?aP (fun _ hk=>hk.elim) ?aF ?aO ?aB ?aS ?aL ?_;(case aP=>exact rfl);(case aB=>exact (by repeat (with_reducible first|exact HB.out|apply y01|apply y00|apply y02)));(case aF=>exact (fun _ _=>trivial));(case aO=>exact (by (with_reducible repeat (first|apply Kd.R_alloc|apply Kd.R_drewN|apply Kd.R_drew));exact HO_3.out));(case aS=>exact (y04 (by repeat (with_reducible first|exact HB.out|apply y01|apply y00|apply y02))));(case aL=>have:=LMc16.out;omega);intro v404 w17 ho hb hg hat;rw [← Ny403.out] at ho;have n0_:=As0.mk (hb);have n1_:=As0.mk (ho);clear HB;clear HO_3;have HB:=n0_;have HO405:=n1_;clear n0_ n1_;clear ho hb hg hat)))
           go_roundg kj2
           case measure=>have:=HK1.out;have:=HK2.out;have:=HJ2.out;omega
           case rel=>exact ⟨(y403),(x4_1),(wrap64 (x5_1+1)),(by first|rfl|(simp;done)|(simp [*];done)),(by first|rfl|(simp;done)|(simp [*];done)),H',⟨by have:=HK1.out;have:=HK2.out;have:=HJ2.out;omega⟩,⟨by (with_reducible repeat (first|apply Kd.R_alloc|apply Kd.R_drewN|apply Kd.R_drew));exact HO405.out⟩,⟨by repeat (with_reducible first|exact HB.out|apply y01|apply y00|apply y02)⟩⟩
          ·rw [if_neg c16] at H
           exact absurd H (by simp)
   ·rw [if_neg c2] at H
    have c2b0:decide (x5_1<(l0.length:Int))=false:=zDf c2;clear c2;obtain rfl:=zSi H;go_wp2
    repeat (go_quiet (fail);try go_wp2)
    go_ret
    exact ⟨_,by first|rfl|(simp [y06,y05]<;>rfl)|(simp [*,y06,y05]<;>rfl),by (with_reducible repeat (first|apply Kd.R_alloc|apply Kd.R_drewN|apply Kd.R_drew));exact HO_3.out,by repeat (with_reducible first|exact HB.out|apply y01|apply y00|apply y02)⟩
end
section
attribute [local go_sem] y0y y0w y17 y16 y0q y0p y0x y0v
def mobs_Number.f (l0:List Int):Option (List Int × Int):=if (l0.length:Int) > 12 then (some (([]:List Int),3)) else ((mobs_number_int.f l0).bind fun t217=>(some (t217,0)))
theorem mobs_Number.calls (A0:Option Addr) (c0:Nat) (l0:List Int) (r1:List Int) (r2:Int) (w:World) (hr0:Kd.C (Kd.int .i64) w A0 l0.length l0) (hc0:l0.length≤c0) (h:mobs_Number.f l0=some (r1,r2)) :
  Calls Tra.prog 43 #[.slice A0 l0.length c0] w fun e w'=>∃ v0_:Value,e=.returned (.tuple #[v0_,.int .i64 r2])∧Kd.R (Kd.int .i64) 3 w' w.heap.size (fun _=>True) v0_ r1∧Below w.heap.size w w':=by
 have HR0:=As0.mk hr0;have HC0:=As0.mk hc0;clear hr0 hc0;have HB:=As0.mk (Below.refl w.heap.size w);have H:(if (l0.length:Int) > 12 then (some (([]:List Int),3)) else ((mobs_number_int.f l0).bind fun t217=>(some (t217,0))))=some (r1,r2):=h;clear h
 by_cases c2:(l0.length:Int) > 12
 ·rw [if_pos c2] at H
  have c2b0:decide (12<(l0.length:Int))=true:=zDt c2;have c2b1:decide (12<l0.length)=true:=zDt (by omega);clear c2;simp only [Option.some.injEq,Prod.mk.injEq] at H;obtain ⟨rfl,rfl⟩:=H;go_enter Tra.func43,Tra.ntmps43
  go_wp2
  go_ret2
  exact ⟨_,by first|rfl|(simp [y06,y05]<;>rfl)|(simp [*,y06,y05]<;>rfl),by first|exact Kd.R_nil _ _ _ _ _|exact Kd.N_nil _ _ _ _ _|exact Kd.V_nil _ _ _ _ _|exact Kd.Q_nil _ _ _ _ _|exact Kd.S_nil _ _ _ _ _,by repeat (with_reducible first|exact HB.out|apply y01|apply y00|apply y02)⟩
 ·rw [if_neg c2] at H
  have c2b0:decide (12<(l0.length:Int))=false:=zDf c2;have c2b1:decide (12<l0.length)=false:=zDf (by omega);clear c2;replace H:=Option.bind_eq_some_iff.mp H;obtain ⟨t217,A30,H⟩:=H;replace H:(some (t217,0))=some (r1,r2):=H;have A3:=As0.mk A30;clear A30;simp only [Option.some.injEq,Prod.mk.injEq] at H;obtain ⟨rfl,rfl⟩:=H;go_enter Tra.func43,Tra.ntmps43
  go_wp2_with (first|((with_reducible refine y0d (f:=54) rfl ?_);refine y12 (some 8) rfl rfl Tra.func54 (by kernel_rfl) rfl #[.slice A0 l0.length c0] rfl (by (try simp only [List.map_toArray,List.map_cons,List.map_nil]);first|done|rfl|(simp only [List.length_drop,List.length_take];rfl)) ?_;(with_reducible refine (mobs_number_int.calls _ _ l0 t217 _ ?side1 ?side2 A3.out).mono ?_);(case side1=>repeat (first|exact HR0.out|(with_reducible refine Kd.C_alloc ?_ _)|(with_reducible refine Kd.C_drewN ?_ _)|(with_reducible refine Kd.C_drew ?_)));(case side2=>exact HC0.out);rintro e w4 ⟨v218,rfl,ho0,hb⟩;refine ⟨_,rfl,?_⟩;have n0_:=As0.mk (Kd.R_lower ho0 (y04 (by repeat (with_reducible first|exact HB.out|apply y01|apply y00|apply y02))));have n1_:=As0.mk (y03 (by repeat (with_reducible first|exact HB.out|apply y01|apply y00|apply y02)) hb);clear HB;have HO219:=n0_;have HB:=n1_;clear n0_ n1_;(try clear hb);(try clear hb2);(try clear hk);(try clear hi);(try clear ho0)))
  go_ret2
  exact ⟨_,by first|rfl|(simp [y06,y05]<;>rfl)|(simp [*,y06,y05]<;>rfl),by (with_reducible repeat (first|apply Kd.R_alloc|apply Kd.R_drewN|apply Kd.R_drew));exact HO219.out,by repeat (with_reducible first|exact HB.out|apply y01|apply y00|apply y02)⟩
def r6_Number.f (k:Nat) (l0:List Int):Option (List Int × Int):=if (l0.length:Int) > 12 then (some (([]:List Int),3)) else ((r6_numbered.f k l0).bind fun t229=>(some (t229,0)))
theorem r6_Number.calls (k:Nat) (A0:Option Addr) (c0:Nat) (l0:List Int) (r1:List Int) (r2:Int) (w:World) (hr0:Kd.C (Kd.int .i64) w A0 l0.length l0) (hc0:l0.length≤c0) (h:r6_Number.f k l0=some (r1,r2)) :
  Calls Tra.prog 44 #[.slice A0 l0.length c0] w fun e w'=>∃ v0_:Value,e=.returned (.tuple #[v0_,.int .i64 r2])∧Kd.R (Kd.int .i64) 3 w' w.heap.size (fun _=>True) v0_ r1∧Below w.heap.size w w':=by
 have HR0:=As0.mk hr0;have HC0:=As0.mk hc0;clear hr0 hc0;have HB:=As0.mk (Below.refl w.heap.size w);have H:(if (l0.length:Int) > 12 then (some (([]:List Int),3)) else ((r6_numbered.f k l0).bind fun t229=>(some (t229,0))))=some (r1,r2):=h;clear h
 by_cases c2:(l0.length:Int) > 12
 ·rw [if_pos c2] at H
  have c2b0:decide (12<(l0.length:Int))=true:=zDt c2;have c2b1:decide (12<l0.length)=true:=zDt (by omega);clear c2;simp only [Option.some.injEq,Prod.mk.injEq] at H;obtain ⟨rfl,rfl⟩:=H;go_enter Tra.func44,Tra.ntmps44
  go_wp2
  go_ret2
  exact ⟨_,by first|rfl|(simp [y06,y05]<;>rfl)|(simp [*,y06,y05]<;>rfl),by first|exact Kd.R_nil _ _ _ _ _|exact Kd.N_nil _ _ _ _ _|exact Kd.V_nil _ _ _ _ _|exact Kd.Q_nil _ _ _ _ _|exact Kd.S_nil _ _ _ _ _,by repeat (with_reducible first|exact HB.out|apply y01|apply y00|apply y02)⟩
 ·rw [if_neg c2] at H
  have c2b0:decide (12<(l0.length:Int))=false:=zDf c2;have c2b1:decide (12<l0.length)=false:=zDf (by omega);clear c2;replace H:=Option.bind_eq_some_iff.mp H;obtain ⟨t229,A30,H⟩:=H;replace H:(some (t229,0))=some (r1,r2):=H;have A3:=As0.mk A30;clear A30;simp only [Option.some.injEq,Prod.mk.injEq] at H;obtain ⟨rfl,rfl⟩:=H;go_enter Tra.func44,Tra.ntmps44
  go_wp2_with (first|((with_reducible refine y0d (f:=55) rfl ?_);refine y12 (some 8) rfl rfl Tra.func55 (by kernel_rfl) rfl #[.slice A0 l0.length c0] rfl (by (try simp only [List.map_toArray,List.map_cons,List.map_nil]);first|done|rfl|(simp only [List.length_drop,List.length_take];rfl)) ?_;(with_reducible refine (r6_numbered.calls k _ _ l0 t229 _ ?side1 ?side2 A3.out).mono ?_);(case side1=>repeat (first|exact HR0.out|(with_reducible refine Kd.C_alloc ?_ _)|(with_reducible refine Kd.C_drewN ?_ _)|(with_reducible refine Kd.C_drew ?_)));(case side2=>exact HC0.out);rintro e w4 ⟨v230,rfl,ho0,hb⟩;refine ⟨_,rfl,?_⟩;have n0_:=As0.mk (Kd.R_lower ho0 (y04 (by repeat (with_reducible first|exact HB.out|apply y01|apply y00|apply y02))));have n1_:=As0.mk (y03 (by repeat (with_reducible first|exact HB.out|apply y01|apply y00|apply y02)) hb);clear HB;have HO231:=n0_;have HB:=n1_;clear n0_ n1_;(try clear hb);(try clear hb2);(try clear hk);(try clear hi);(try clear ho0)))
  go_ret2
  exact ⟨_,by first|rfl|(simp [y06,y05]<;>rfl)|(simp [*,y06,y05]<;>rfl),by (with_reducible repeat (first|apply Kd.R_alloc|apply Kd.R_drewN|apply Kd.R_drew));exact HO231.out,by repeat (with_reducible first|exact HB.out|apply y01|apply y00|apply y02)⟩
end
end Go.Proofs.Ytdhgeondbnpeoaa.P
