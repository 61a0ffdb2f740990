/- The theorem of MobsAround, proved; part 5 of 6: its texts, merged. -/
import Derived.Test.YtdhgeondbnpeoaaArD
import Derived.Calls
import Derived.Conc.Beside
import Derived.Laws.Sem
import Derived.Conc.CrowdRun
import Derived.Conc.CommBuf
import Derived.Conc.WgGenN3
import Derived.Test.YtdhgeondbnpeoaaProg
import Derived.KernelRfl
import Derived.Below
import Derived.Deep.Draws
import Derived.Deep.AppendLies
import Derived.Maps.AppendAt
import Derived.OwnWalk
import Derived.Laws.BytesArg
import Derived.Laws.MakeOwn
import Derived.Laws.OwnMore
import Derived.Deep.OwnRows
import Derived.Tactics
import Derived.Lib.ConvBytes
import Derived.Laws.Slices
import Derived.WalkKit
import Derived.RowKit3
import Derived.Deep.LoopGhost
import Derived.Deep.QuietTactic
import Derived.BigQuiet
import Derived.WideLaws
import Derived.Deep.DeepCutAuto
import Derived.Deep.CutBlock
import Derived.Deep.RegionHeld3
import Derived.Laws.Rows
import Derived.Lib.AppendStr
import Derived.ArgAppend
import Derived.Laws.IdiomCopy
import Derived.RowKit
import Derived.OrdersHeld
import Derived.Laws.BitsLemmas
import Derived.Laws.StructEq
import Derived.Maps.OwnOps
import Derived.DeepKeys4
import Derived.WalkSpells
import Derived.Maps.Keyed
import Derived.SizedLaws
import Derived.ChangeSlices
set_option linter.unnecessarySimpa false
set_option linter.unusedVariables false
set_option linter.unusedSimpArgs false
namespace Go.Proofs.Ytdhgeondbnpeoaa.P
open Go.RowKit Go.Proofs.YtdhgeondbnpeoaaW.PrintWords Go.Proofs.YtdhgeondbnpeoaaW.PrintLast Go.Proofs.YtdhgeondbnpeoaaW.PrintMore
attribute [local go_sem] y0z y0x max_two min_two y0t y0s y0y y0w
def mobs_Rank.l0:Nat->List Int->Int->Int->List Int->Int->Int->Option (Int × Int)
 |0,_,_,_,_,_,_=>none
 |k+1,x0,x5,x6,x15,x16,x17=>if x17<x16 then (if 0≤x17 then (if x17<(x15.length:Int) then ((mobs_ways.f k (wrap64 ((wrap64 ((x0.length:Int) - 1)) - x17)) x6).bind fun t223=>(mobs_Rank.l0 k x0 (wrap64 (x5+(wrap64 ((rd x15 x17) * t223)))) (mx x6 (wrap64 ((rd x15 x17)+1))) x15 x16 (wrap64 (x17+1)))) else (none)) else (none)) else (some (x5,0))
def mobs_Rank.f (k:Nat) (l0:List Int):Option (Int × Int):=(mobs_read.f k (([l0]:List (List Int)))).bind fun t221=>(if t221=0 then (mobs_Rank.l0 k l0 0 0 l0 (l0.length:Int) 0) else (some (0,t221)))
set_option maxHeartbeats 8000000 in
set_option maxRecDepth 100000 in
theorem mobs_Rank.calls (k:Nat) (P0_:Nat->Prop) (A0:Option Addr) (c0:Nat) (l0:List Int) (r1:Int) (r2:Int) (w:World) (hs0:Kd.V (Kd.int .i64) 3 w w.heap.size (fun k_=>P0_ k_) (.slice A0 l0.length c0) l0) (h:mobs_Rank.f k l0=some (r1,r2)) :
  Calls Tra.prog 36 #[.slice A0 l0.length c0] w fun e w'=>e=.returned (.tuple #[.int .i64 r1,.int .i64 r2])∧Below w.heap.size w w':=by
 have HO0:=As0.mk (show Kd.V (Kd.int .i64) 3 w w.heap.size (fun k_=>(P0_ k_∨w.heap.size≤k_)) (.slice A0 l0.length c0) l0 from Kd.V_mono hs0 (fun k_ hk=>.inl hk));have HB:=As0.mk (Below.refl w.heap.size w);have H:((mobs_read.f k (([l0]:List (List Int)))).bind fun t221=>(if t221=0 then (mobs_Rank.l0 k l0 0 0 l0 (l0.length:Int) 0) else (some (0,t221))))=some (r1,r2):=h;clear h;obtain ⟨y218,hy218⟩:∃ y_:List (List Int),y_=(([l0]:List (List Int))):=⟨_,rfl⟩
 replace H:((mobs_read.f k y218).bind fun t221=>(if t221=0 then (mobs_Rank.l0 k l0 0 0 l0 (l0.length:Int) 0) else (some (0,t221))))=some (r1,r2):=by first|(rw [hy218];with_reducible exact H)|(have H2_:=(Option.bind_some _ _).symm.trans H;rw [hy218];with_reducible exact H2_)|(have H2_:=(Option.bind_some _ _).symm.trans H;with_reducible exact H2_)|with_reducible exact H|(rw [hy218];exact H)|exact H
 have Ny218:=As0.mk hy218;clear hy218;replace H:=Option.bind_eq_some_iff.mp H;obtain ⟨t221,A20,H⟩:=H;replace H:(if t221=0 then (mobs_Rank.l0 k l0 0 0 l0 (l0.length:Int) 0) else (some (0,t221)))=some (r1,r2):=H;have A2:=As0.mk A20;clear A20
 by_cases c3:t221=0
 ·rw [if_pos c3] at H
  have c3b0:(t221 == 0)=true:=beq_iff_eq.mpr c3;have c3b1:(t221 != 0)=false:=bne_eq_false_iff_eq.mpr c3;clear c3;have H':=As0.mk H;clear H;go_enter Tra.func36,Tra.ntmps36
  go_wp2_with (first|((with_reducible refine y0n (N:=10) rfl ?_);refine Kd.N_lit (Kd.slice 3 (Kd.int .i64)) _ 29 ?hg (N':=10) ?hd (xs:=([l0]:List (List Int))) (inner:=[.slice A0 l0.length c0]) (ok:=(fun k_=>(P0_ k_∨w.heap.size≤k_))) (okp:=(fun k_=>(P0_ k_∨w.heap.size≤k_))) ?hr ?hp (fun _ hk=>hk) ((show ∀ k_,w.heap.size≤k_->(fun k_=>(P0_ k_∨w.heap.size≤k_)) k_ from fun k_ hk=>(.inr (Nat.le_trans (y05 (by repeat (first|(with_reducible first|exact HB.out|apply y01|apply y00|apply y02)|exact HB.out))) hk))) _ (Nat.le_refl _)) (Below.refl _ _) (Nat.le_refl _) (by simp) ?_;(case hd=>rfl);(case hg=>rfl);(case hr=>first|(go_simp;done)|(go_simp;rfl));(case hp=>exact (Reps.one (show Kd.FK (Kd.slice 3 (Kd.int .i64)) _ _ l0 [.slice A0 l0.length c0] from (Kd.FK_slice_mk (Kd.V_reads' (Kd.V_mono (ok':=(fun k_=>(P0_ k_∨w.heap.size≤k_))) (HO0.out) (fun k_ hk=>hk))).2.1 (Kd.V_F (Kd.V_mono (ok':=(fun k_=>(P0_ k_∨w.heap.size≤k_))) (HO0.out) (fun k_ hk=>hk))))) (Reps.none _ _)));intro v219 w4 ho5 hb hg_ hnew_;clear hg_ hnew_;(first|rw [← Ny218.out] at ho5|(simp only [Int.reduceToNat] at ho5;rw [← Ny218.out] at ho5));have n0_:=As0.mk (Kd.V_elder' (by (with_reducible repeat (first|apply Kd.V_alloc|apply Kd.V_drewN|apply Kd.V_drew));exact HO0.out) (Kd.N_base ho5) hb);have n1_:=As0.mk (Kd.N_lower ho5 (y05 (by repeat (first|(with_reducible first|exact HB.out|apply y01|apply y00|apply y02)|exact HB.out))));have n2_:=As0.mk (y06 (by repeat (first|(with_reducible first|exact HB.out|apply y01|apply y00|apply y02)|exact HB.out)) hb);clear HO0;clear HB;have HO0:=n0_;have HO220:=n1_;have HB:=n2_;clear n0_ n1_ n2_;clear hb ho5;obtain ⟨Ao6,co6,eo6⟩:=Kd.N_slice HO220.out;subst eo6)|((with_reducible refine y08 (f:=49) rfl ?_);refine y0l (some 11) rfl rfl Tra.func49 (by kernel_rfl) rfl #[.slice Ao6 y218.length co6] rfl (by (try simp only [List.map_toArray,List.map_cons,List.map_nil]);first|done|rfl|(simp only [List.length_drop,List.length_take];rfl)) ?_;(with_reducible refine (mobs_read.calls k _ _ y218 t221 _ ?side1 ?side2 A2.out).mono ?_);(case side1=>repeat (first|exact (Kd.N_reads' HO220.out).2.2|(with_reducible refine Kd.C_alloc ?_ _)|(with_reducible refine Kd.C_drewN ?_ _)|(with_reducible refine Kd.C_drew ?_)));(case side2=>exact (Kd.N_reads' HO220.out).2.1);rintro e w7 ⟨rfl,hb⟩;refine ⟨_,rfl,?_⟩;have n0_:=As0.mk (Kd.V_below (by (with_reducible repeat (first|apply Kd.V_alloc|apply Kd.V_drewN|apply Kd.V_drew));exact HO0.out) hb);have n1_:=As0.mk (Kd.N_below (by (with_reducible repeat (first|apply Kd.N_alloc|apply Kd.N_drewN|apply Kd.N_drew));exact HO220.out) hb);have n2_:=As0.mk (y06 (by repeat (first|(with_reducible first|exact HB.out|apply y01|apply y00|apply y02)|exact HB.out)) hb);clear HO0;clear HO220;clear HB;have HO0:=n0_;have HO220:=n1_;have HB:=n2_;clear n0_ n1_ n2_;(try clear hb);(try clear hb2);(try clear hk);(try clear hi)))
  go_loopg [5,6,17] k (fun kq v5 v6 v17 w'=>∃ (x5_1:Int) (x6_1:Int) (x17_1:Int),v5=.int .i64 x5_1∧v6=.int .i64 x6_1∧v17=.int .i64 x17_1∧As0 (mobs_Rank.l0 kq l0 x5_1 x6_1 l0 (l0.length:Int) x17_1=some (r1,r2))∧As0 (kq≤k)∧As0 (Kd.V (Kd.int .i64) 3 w' w.heap.size (fun k_=>(P0_ k_∨w.heap.size≤k_)) (.slice A0 l0.length c0) l0)∧As0 (Kd.V (Kd.int .i64) 3 w' w.heap.size (fun k_=>(P0_ k_∨w.heap.size≤k_)) (.slice A0 l0.length c0) l0)∧As0 (Below w.heap.size w w'))
  case atStart=>exact ⟨(0),(0),(0),(by first|rfl|(simp;done)|(simp [*];done)),(by first|rfl|(simp;done)|(simp [*];done)),(by first|rfl|(simp;done)|(simp [*];done)),H',⟨Nat.le_refl _⟩,⟨by (with_reducible repeat (first|apply Kd.V_alloc|apply Kd.V_drewN|apply Kd.V_drew));exact Kd.V_mono HO0.out (fun _ hk=>hk.1)⟩,⟨by (with_reducible repeat (first|apply Kd.V_alloc|apply Kd.V_drewN|apply Kd.V_drew));exact Kd.V_mono HO0.out (fun _ hk=>hk.1)⟩,⟨by repeat (first|(with_reducible first|exact HB.out|apply y01|apply y00|apply y02)|exact HB.out)⟩⟩
  case round =>
   clear H'
   try clear p2
   try clear c3
   try clear c3b0
   try clear c3b1
   try clear c4
   obtain ⟨x5_1,x6_1,x17_1,rfl,rfl,rfl,HA,HK1,HO_0,HO_15,HB⟩:=hrel;cases gk with
   |zero=>exact absurd HA.out (by simp [mobs_Rank.l0])
   |succ k1 =>
    have H:=HA.out;clear HA;simp only [mobs_Rank.l0] at H
    by_cases c8:x17_1<(l0.length:Int)
    ·rw [if_pos c8] at H
     have c8b0:decide (x17_1<(l0.length:Int))=true:=decide_eq_true c8;clear c8
     by_cases c9:0≤x17_1
     ·rw [if_pos c9] at H
      have c9b0:decide (0≤x17_1)=true:=decide_eq_true c9;clear c9
      by_cases c10:x17_1<(l0.length:Int)
      ·rw [if_pos c10] at H
       have c10b0:decide (x17_1<(l0.length:Int))=true:=decide_eq_true c10;clear c10;replace H:=Option.bind_eq_some_iff.mp H;obtain ⟨t223,A110,H⟩:=H;replace H:(mobs_Rank.l0 k1 l0 (wrap64 (x5_1+(wrap64 ((rd l0 x17_1) * t223)))) (mx x6_1 (wrap64 ((rd l0 x17_1)+1))) l0 (l0.length:Int) (wrap64 (x17_1+1)))=some (r1,r2):=H;have A11:=As0.mk A110;clear A110;obtain ⟨ji12,hji12⟩:∃ j_:Int,(mx x6_1 (wrap64 ((rd l0 x17_1)+1)))=j_:=⟨_,rfl⟩
       replace H:(mobs_Rank.l0 k1 l0 (wrap64 (x5_1+(wrap64 ((rd l0 x17_1) * t223)))) ji12 l0 (l0.length:Int) (wrap64 (x17_1+1)))=some (r1,r2):=by first|(rw [hji12] at H;exact H)|(simp only [hji12] at H ⊢;exact H)
       (try rw [hji12] at A11)
       have hji12_:(if x6_1<(wrap64 ((rd l0 x17_1)+1)) then (wrap64 ((rd l0 x17_1)+1)) else x6_1)=ji12:=hji12;have H':=As0.mk H;clear H;have p222:0≤(x17_1:Int):=of_decide_eq_true (by first|(with_reducible assumption)|assumption);have q222:x17_1<(l0.length:Int):=of_decide_eq_true (by first|(with_reducible assumption)|assumption);obtain ⟨ad222,e222,hx222_0⟩:=Kd.at_int (Kd.V_reads' HO_15.out).2.2 x17_1 p222 q222;cases e222
       replace p222:=eq_true p222;replace q222:=eq_true q222;go_wp2_with (first|((with_reducible refine y08 (f:=67) rfl ?_);refine y0l (some 30) rfl rfl Tra.func67 (by kernel_rfl) rfl #[.int .i64 (wrap64 ((wrap64 ((l0.length:Int) - 1)) - x17_1)),.int .i64 x6_1] rfl (by (try simp only [List.map_toArray,List.map_cons,List.map_nil]);first|done|rfl|(simp only [List.length_drop,List.length_take];rfl)) ?_;(with_reducible refine (mobs_ways.calls k1 (wrap64 ((wrap64 ((l0.length:Int) - 1)) - x17_1)) x6_1 t223 _ A11.out).mono ?_);rintro e w13 ⟨rfl,hb⟩;refine ⟨_,rfl,?_⟩;have n0_:=As0.mk (Kd.V_below (by (with_reducible repeat (first|apply Kd.V_alloc|apply Kd.V_drewN|apply Kd.V_drew));exact HO_0.out) hb);have n1_:=As0.mk (Kd.V_below (by (with_reducible repeat (first|apply Kd.V_alloc|apply Kd.V_drewN|apply Kd.V_drew));exact HO_15.out) hb);have n2_:=As0.mk (y06 (by repeat (first|(with_reducible first|exact HB.out|apply y01|apply y00|apply y02)|exact HB.out)) hb);clear HO_0;clear HO_15;clear HB;have HO_0:=n0_;have HO_15:=n1_;have HB:=n2_;clear n0_ n1_ n2_;(try clear hb);(try clear hb2);(try clear hk);(try clear hi)))
       go_roundg k1
       case measure=>have:=HK1.out;omega
       case rel=>exact ⟨(wrap64 (x5_1+(wrap64 ((rd l0 x17_1) * t223)))),(ji12),(wrap64 (x17_1+1)),(by first|rfl|(simp;done)|(simp [*];done)),(by first|rfl|(simp;done)|(simp only [← hji12]<;>(first|rfl|simp))|(simp [*];done)),(by first|rfl|(simp;done)|(simp [*];done)),H',⟨by have:=HK1.out;omega⟩,⟨by (with_reducible repeat (first|apply Kd.V_alloc|apply Kd.V_drewN|apply Kd.V_drew));exact HO_0.out⟩,⟨by (with_reducible repeat (first|apply Kd.V_alloc|apply Kd.V_drewN|apply Kd.V_drew));exact HO_15.out⟩,⟨by repeat (first|(with_reducible first|exact HB.out|apply y01|apply y00|apply y02)|exact HB.out)⟩⟩
      ·rw [if_neg c10] at H
       exact absurd H (by simp)
     ·rw [if_neg c9] at H
      exact absurd H (by simp)
    ·rw [if_neg c8] at H
     have c8b0:decide (x17_1<(l0.length:Int))=false:=decide_eq_false c8;clear c8;simp only [Option.some.injEq,Prod.mk.injEq] at H;obtain ⟨rfl,rfl⟩:=H;go_wp2
     go_ret2
     exact ⟨by first|rfl|(simp [y0a,y09]<;>rfl)|(simp [*,y0a,y09]<;>rfl),by repeat (first|(with_reducible first|exact HB.out|apply y01|apply y00|apply y02)|exact HB.out)⟩
 ·rw [if_neg c3] at H
  have c3b0:(t221 == 0)=false:=beq_eq_false_iff_ne.mpr c3;have c3b1:(t221 != 0)=true:=bne_iff_ne.mpr c3;simp only [Option.some.injEq,Prod.mk.injEq] at H;obtain ⟨rfl,rfl⟩:=H;go_enter Tra.func36,Tra.ntmps36
  go_wp2_with (first|((with_reducible refine y0n (N:=10) rfl ?_);refine Kd.N_lit (Kd.slice 3 (Kd.int .i64)) _ 29 ?hg (N':=10) ?hd (xs:=([l0]:List (List Int))) (inner:=[.slice A0 l0.length c0]) (ok:=(fun k_=>(P0_ k_∨w.heap.size≤k_))) (okp:=(fun k_=>(P0_ k_∨w.heap.size≤k_))) ?hr ?hp (fun _ hk=>hk) ((show ∀ k_,w.heap.size≤k_->(fun k_=>(P0_ k_∨w.heap.size≤k_)) k_ from fun k_ hk=>(.inr (Nat.le_trans (y05 (by repeat (first|(with_reducible first|exact HB.out|apply y01|apply y00|apply y02)|exact HB.out))) hk))) _ (Nat.le_refl _)) (Below.refl _ _) (Nat.le_refl _) (by simp) ?_;(case hd=>rfl);(case hg=>rfl);(case hr=>first|(go_simp;done)|(go_simp;rfl));(case hp=>exact (Reps.one (show Kd.FK (Kd.slice 3 (Kd.int .i64)) _ _ l0 [.slice A0 l0.length c0] from (Kd.FK_slice_mk (Kd.V_reads' (Kd.V_mono (ok':=(fun k_=>(P0_ k_∨w.heap.size≤k_))) (HO0.out) (fun k_ hk=>hk))).2.1 (Kd.V_F (Kd.V_mono (ok':=(fun k_=>(P0_ k_∨w.heap.size≤k_))) (HO0.out) (fun k_ hk=>hk))))) (Reps.none _ _)));intro v219 w14 ho15 hb hg_ hnew_;clear hg_ hnew_;(first|rw [← Ny218.out] at ho15|(simp only [Int.reduceToNat] at ho15;rw [← Ny218.out] at ho15));have n0_:=As0.mk (Kd.V_elder' (by (with_reducible repeat (first|apply Kd.V_alloc|apply Kd.V_drewN|apply Kd.V_drew));exact HO0.out) (Kd.N_base ho15) hb);have n1_:=As0.mk (Kd.N_lower ho15 (y05 (by repeat (first|(with_reducible first|exact HB.out|apply y01|apply y00|apply y02)|exact HB.out))));have n2_:=As0.mk (y06 (by repeat (first|(with_reducible first|exact HB.out|apply y01|apply y00|apply y02)|exact HB.out)) hb);clear HO0;clear HB;have HO0:=n0_;have HO220:=n1_;have HB:=n2_;clear n0_ n1_ n2_;clear hb ho15;obtain ⟨Ao16,co16,eo16⟩:=Kd.N_slice HO220.out;subst eo16)|((with_reducible refine y08 (f:=49) rfl ?_);refine y0l (some 11) rfl rfl Tra.func49 (by kernel_rfl) rfl #[.slice Ao16 y218.length co16] rfl (by (try simp only [List.map_toArray,List.map_cons,List.map_nil]);first|done|rfl|(simp only [List.length_drop,List.length_take];rfl)) ?_;(with_reducible refine (mobs_read.calls k _ _ y218 t221 _ ?side1 ?side2 A2.out).mono ?_);(case side1=>repeat (first|exact (Kd.N_reads' HO220.out).2.2|(with_reducible refine Kd.C_alloc ?_ _)|(with_reducible refine Kd.C_drewN ?_ _)|(with_reducible refine Kd.C_drew ?_)));(case side2=>exact (Kd.N_reads' HO220.out).2.1);rintro e w17 ⟨rfl,hb⟩;refine ⟨_,rfl,?_⟩;have n0_:=As0.mk (Kd.V_below (by (with_reducible repeat (first|apply Kd.V_alloc|apply Kd.V_drewN|apply Kd.V_drew));exact HO0.out) hb);have n1_:=As0.mk (Kd.N_below (by (with_reducible repeat (first|apply Kd.N_alloc|apply Kd.N_drewN|apply Kd.N_drew));exact HO220.out) hb);have n2_:=As0.mk (y06 (by repeat (first|(with_reducible first|exact HB.out|apply y01|apply y00|apply y02)|exact HB.out)) hb);clear HO0;clear HO220;clear HB;have HO0:=n0_;have HO220:=n1_;have HB:=n2_;clear n0_ n1_ n2_;(try clear hb);(try clear hb2);(try clear hk);(try clear hi)))
  go_ret2
  exact ⟨by first|rfl|(simp [y0a,y09]<;>rfl)|(simp [*,y0a,y09]<;>rfl),by repeat (first|(with_reducible first|exact HB.out|apply y01|apply y00|apply y02)|exact HB.out)⟩
def w6_alive.f:Option Bool:=some true
theorem w6_alive.calls (r:Bool) (w:World) (h:w6_alive.f=some r) :
  Calls Tra.prog 20 #[] w fun e w'=>e=.returned (.bool r)∧Below w.heap.size w w':=by
 obtain rfl:=Option.some.inj h;exact Ext.alive_calls w
end Go.Proofs.Ytdhgeondbnpeoaa.P
namespace Go.Proofs.Ytdhgeondbnpeoaa.P
open Go.RowKit Go.Proofs.YtdhgeondbnpeoaaW.PrintWords Go.Proofs.YtdhgeondbnpeoaaW.PrintLast Go.Proofs.YtdhgeondbnpeoaaW.PrintMore
attribute [local go_sem] y0z y0x max_two min_two y0t y0s y0y y0w
def w6_few.f (l0:List Int) (l1:List Int):Option (Bool):=if (l0.length:Int)≤40 then (some (decide ((l1.length:Int)≤40))) else (some false)
set_option maxHeartbeats 8000000 in
set_option maxRecDepth 100000 in
theorem w6_few.calls (A0:Option Addr) (c0:Nat) (l0:List Int) (A1:Option Addr) (c1:Nat) (l1:List Int) (r:Bool) (w:World) (hr0:Kd.C (Kd.int .i64) w A0 l0.length l0) (hc0:l0.length≤c0) (hr1:Kd.C (Kd.int .i64) w A1 l1.length l1) (hc1:l1.length≤c1) (h:w6_few.f l0 l1=some r) :
  Calls Tra.prog 22 #[.slice A0 l0.length c0,.slice A1 l1.length c1] w fun e w'=>e=.returned (.bool r)∧Drawn0 w w':=by
 have HR0:=As0.mk hr0;have HC0:=As0.mk hc0;clear hr0 hc0;have HR1:=As0.mk hr1;have HC1:=As0.mk hc1;clear hr1 hc1;have H:(if (l0.length:Int)≤40 then (some (decide ((l1.length:Int)≤40))) else (some false))=some r:=h;clear h
 by_cases c3:(l0.length:Int)≤40
 ·rw [if_pos c3] at H
  have c3b0:decide ((l0.length:Int)≤40)=true:=decide_eq_true c3;have c3b1:decide (l0.length≤40)=true:=decide_eq_true (by omega);clear c3;obtain rfl:=Option.some.inj H;go_enter Tra.func22,Tra.ntmps22
  go_wp2
  go_ret
  exact ⟨by first|rfl|(simp;done)|(simp [*];done),by repeat (first|exact Drawn0.refl _|apply Drawn0.step)⟩
 ·rw [if_neg c3] at H
  have c3b0:decide ((l0.length:Int)≤40)=false:=decide_eq_false c3;have c3b1:decide (l0.length≤40)=false:=decide_eq_false (by omega);clear c3;obtain rfl:=Option.some.inj H;go_enter Tra.func22,Tra.ntmps22
  go_wp2
  go_ret
  exact ⟨by first|rfl|(simp;done)|(simp [*];done),by repeat (first|exact Drawn0.refl _|apply Drawn0.step)⟩
def r6_Many.l0:Nat->List Int->Int->Int->Option (Int)
 |0,_,_,_=>none
 |k+1,x0,x3,x4=>if x4<(x0.length:Int) then (if 0≤x4 then (r6_Many.l0 k x0 (mx x3 (wrap64 ((rd x0 x4)+1))) (wrap64 (x4+1))) else (none)) else (some x3)
def r6_Many.f (k:Nat) (l0:List Int):Option (Int):=r6_Many.l0 k l0 0 0
set_option maxHeartbeats 8000000 in
set_option maxRecDepth 100000 in
theorem r6_Many.calls (k:Nat) (A0:Option Addr) (c0:Nat) (l0:List Int) (r:Int) (w:World) (hr0:Kd.C (Kd.int .i64) w A0 l0.length l0) (hc0:l0.length≤c0) (h:r6_Many.f k l0=some r) :
  Calls Tra.prog 31 #[.slice A0 l0.length c0] w fun e w'=>e=.returned (.int .i64 r)∧Below w.heap.size w w':=by
 have HR0:=As0.mk hr0;have HC0:=As0.mk hc0;clear hr0 hc0;have HB:=As0.mk (Below.refl w.heap.size w);have H:(r6_Many.l0 k l0 0 0)=some r:=h;clear h;have H':=As0.mk H;clear H;go_enter Tra.func31,Tra.ntmps31
 go_wp2
 go_loopg [3,4] k (fun kq v3 v4 w'=>∃ (x3_1:Int) (x4_1:Int),v3=.int .i64 x3_1∧v4=.int .i64 x4_1∧As0 (r6_Many.l0 kq l0 x3_1 x4_1=some r)∧As0 (kq≤k)∧As0 (Below w.heap.size w w'))
 case atStart=>exact ⟨(0),(0),(by first|rfl|(simp;done)|(simp [*];done)),(by first|rfl|(simp;done)|(simp [*];done)),H',⟨Nat.le_refl _⟩,⟨by repeat (first|(with_reducible first|exact HB.out|apply y01|apply y00|apply y02)|exact HB.out)⟩⟩
 case round =>
  clear H';obtain ⟨x3_1,x4_1,rfl,rfl,HA,HK1,HB⟩:=hrel;cases gk with
  |zero=>exact absurd HA.out (by simp [r6_Many.l0])
  |succ k1 =>
   have H:=HA.out;clear HA;simp only [r6_Many.l0] at H
   by_cases c2:x4_1<(l0.length:Int)
   ·rw [if_pos c2] at H
    have c2b0:decide (x4_1<(l0.length:Int))=true:=decide_eq_true c2;clear c2
    by_cases c3:0≤x4_1
    ·rw [if_pos c3] at H
     have c3b0:decide (0≤x4_1)=true:=decide_eq_true c3;clear c3;obtain ⟨ji4,hji4⟩:∃ j_:Int,(mx x3_1 (wrap64 ((rd l0 x4_1)+1)))=j_:=⟨_,rfl⟩
     replace H:(r6_Many.l0 k1 l0 ji4 (wrap64 (x4_1+1)))=some r:=by first|(rw [hji4] at H;exact H)|(simp only [hji4] at H ⊢;exact H)
     have hji4_:(if x3_1<(wrap64 ((rd l0 x4_1)+1)) then (wrap64 ((rd l0 x4_1)+1)) else x3_1)=ji4:=hji4;have H':=As0.mk H;clear H;have p270:0≤(x4_1:Int):=of_decide_eq_true (by first|(with_reducible assumption)|assumption);have q270:x4_1<(l0.length:Int):=of_decide_eq_true (by first|(with_reducible assumption)|assumption);obtain ⟨ad270,e270,hx270_0⟩:=Kd.at_int HR0.out x4_1 p270 q270;cases e270
     replace hx270_0:=(HB.out.cell (World.block_lt_of_cell? w _ hx270_0)).trans hx270_0;replace p270:=eq_true p270;replace q270:=eq_true q270;go_wp2
     go_roundg k1
     case measure=>have:=HK1.out;omega
     case rel=>exact ⟨(ji4),(wrap64 (x4_1+1)),(by first|rfl|(simp;done)|(simp only [← hji4]<;>(first|rfl|simp))|(simp [*];done)),(by first|rfl|(simp;done)|(simp [*];done)),H',⟨by have:=HK1.out;omega⟩,⟨by repeat (first|(with_reducible first|exact HB.out|apply y01|apply y00|apply y02)|exact HB.out)⟩⟩
    ·rw [if_neg c3] at H
     exact absurd H (by simp)
   ·rw [if_neg c2] at H
    have c2b0:decide (x4_1<(l0.length:Int))=false:=decide_eq_false c2;clear c2;obtain rfl:=Option.some.inj H;go_wp2
    go_ret
    exact ⟨by first|rfl|(simp [y0a,y09]<;>rfl)|(simp [*,y0a,y09]<;>rfl),by repeat (first|(with_reducible first|exact HB.out|apply y01|apply y00|apply y02)|exact HB.out)⟩
end Go.Proofs.Ytdhgeondbnpeoaa.P
namespace Go.Proofs.Ytdhgeondbnpeoaa.P
open Go.RowKit Go.Proofs.YtdhgeondbnpeoaaW.PrintWords Go.Proofs.YtdhgeondbnpeoaaW.PrintLast Go.Proofs.YtdhgeondbnpeoaaW.PrintMore
attribute [local go_sem] y0z y0x max_two min_two y0t y0s y0y y0w
mutual
def r6_IsParting.l0:Nat->List Int->Int->Int->Option (Bool)
 |0,_,_,_=>none
 |k+1,x0,x3,x4=>if x4<(x0.length:Int) then (if 0≤x4 then (if (rd x0 x4)<0 then (r6_IsParting.j1 k x0 x3 x4 true) else (r6_IsParting.j1 k x0 x3 x4 (decide ((rd x0 x4) > x3)))) else (none)) else (some true)
def r6_IsParting.j1:Nat->List Int->Int->Int->Bool->Option (Bool)
 |0,_,_,_,_=>none
 |k+1,x0,x3,x4,x26=>if x26=true then (some false) else (if 0≤x4 then (if x4<(x0.length:Int) then (if (rd x0 x4)=x3 then (r6_IsParting.l0 k x0 (wrap64 (x3+1)) (wrap64 (x4+1))) else (r6_IsParting.l0 k x0 x3 (wrap64 (x4+1)))) else (none)) else (none))
end
def r6_IsParting.f (k:Nat) (l0:List Int):Option (Bool):=if (l0.length:Int) > 12 then (some false) else (r6_IsParting.l0 k l0 0 0)
set_option maxHeartbeats 8000000 in
set_option maxRecDepth 100000 in
theorem r6_IsParting.calls (k:Nat) (A0:Option Addr) (c0:Nat) (l0:List Int) (r:Bool) (w:World) (hr0:Kd.C (Kd.int .i64) w A0 l0.length l0) (hc0:l0.length≤c0) (h:r6_IsParting.f k l0=some r) :
  Calls Tra.prog 30 #[.slice A0 l0.length c0] w fun e w'=>e=.returned (.bool r)∧Drawn0 w w':=by
 have HR0:=As0.mk hr0;have HC0:=As0.mk hc0;clear hr0 hc0;have H:(if (l0.length:Int) > 12 then (some false) else (r6_IsParting.l0 k l0 0 0))=some r:=h;clear h
 by_cases c2:(l0.length:Int) > 12
 ·rw [if_pos c2] at H
  have c2b0:decide (12<(l0.length:Int))=true:=decide_eq_true c2;have c2b1:decide (12<l0.length)=true:=decide_eq_true (by omega);clear c2;obtain rfl:=Option.some.inj H;go_enter Tra.func30,Tra.ntmps30
  go_wp2
  go_ret
  exact ⟨by first|rfl|(simp;done)|(simp [*];done),by repeat (first|exact Drawn0.refl _|apply Drawn0.step)⟩
 ·rw [if_neg c2] at H
  have c2b0:decide (12<(l0.length:Int))=false:=decide_eq_false c2;have c2b1:decide (12<l0.length)=false:=decide_eq_false (by omega);clear c2;have H':=As0.mk H;clear H;go_enter Tra.func30,Tra.ntmps30
  go_wp2
  go_loopg [3,4] k (fun kq v3 v4 w'=>∃ (x3_1:Int) (x4_1:Int),v3=.int .i64 x3_1∧v4=.int .i64 x4_1∧As0 (r6_IsParting.l0 kq l0 x3_1 x4_1=some r)∧As0 (kq≤k)∧Drawn0 w w')
  case atStart=>exact ⟨(0),(0),(by first|rfl|(simp;done)|(simp [*];done)),(by first|rfl|(simp;done)|(simp [*];done)),H',⟨Nat.le_refl _⟩,by repeat (first|exact Drawn0.refl _|apply Drawn0.step)⟩
  case round =>
   clear H'
   try clear c2
   try clear c2b0
   try clear c2b1
   try clear p2
   obtain ⟨x3_1,x4_1,rfl,rfl,HA,HK1,⟨m1,rfl⟩⟩:=hrel;cases gk with
   |zero=>exact absurd HA.out (by simp [r6_IsParting.l0])
   |succ k1 =>
    have H:=HA.out;clear HA;simp only [r6_IsParting.l0] at H
    by_cases c3:x4_1<(l0.length:Int)
    ·rw [if_pos c3] at H
     have c3b0:decide (x4_1<(l0.length:Int))=true:=decide_eq_true c3;clear c3;have HC4:=As0.mk H;clear H;go_upto_region 7 with (fail)
     go_cut [26] (fun v26 wc=>∃ (kq:Nat) (x26_3:Bool),v26=.bool x26_3∧As0 (r6_IsParting.j1 kq l0 x3_1 x4_1 x26_3=some r)∧As0 (kq≤k1)∧Drawn0 w wc)
     case first =>
      have H:=HC4.out;clear HC4
      by_cases c5:0≤x4_1
      ·rw [if_pos c5] at H
       have c5b0:decide (0≤x4_1)=true:=decide_eq_true c5;clear c5
       (first|rw [c5b0]|(simp only [i64_w,i32_w];rw [c5b0])|skip)
       by_cases c6:(rd l0 x4_1)<0
       ·rw [if_pos c6] at H
        have c6b0:decide ((rd l0 x4_1)<0)=true:=decide_eq_true c6;clear c6;have H':=As0.mk H;clear H;have p271:0≤(x4_1:Int):=of_decide_eq_true (by first|(with_reducible assumption)|assumption);have q271:x4_1<(l0.length:Int):=of_decide_eq_true (by first|(with_reducible assumption)|assumption);obtain ⟨ad271,e271,hx271_0⟩:=Kd.at_int HR0.out x4_1 p271 q271;cases e271
        replace p271:=eq_true p271;replace q271:=eq_true q271;go_wp2
        go_meet
        case rel=>exact ⟨_,(true),(by first|rfl|(simp;done)|(simp [*];done)),H',⟨by have:=HK1.out;first|omega|exact Nat.le_refl _⟩,by repeat (first|exact Drawn0.refl _|apply Drawn0.step)⟩
       ·rw [if_neg c6] at H
        have c6b0:decide ((rd l0 x4_1)<0)=false:=decide_eq_false c6;clear c6;have H':=As0.mk H;clear H;have p271:0≤(x4_1:Int):=of_decide_eq_true (by first|(with_reducible assumption)|assumption);have q271:x4_1<(l0.length:Int):=of_decide_eq_true (by first|(with_reducible assumption)|assumption);obtain ⟨ad271,e271,hx271_0⟩:=Kd.at_int HR0.out x4_1 p271 q271;cases e271
        replace p271:=eq_true p271;replace q271:=eq_true q271;have p272:0≤(x4_1:Int):=of_decide_eq_true (by first|(with_reducible assumption)|assumption);have q272:x4_1<(l0.length:Int):=of_decide_eq_true (by first|(with_reducible assumption)|assumption);obtain ⟨ad272,e272,hx272_0⟩:=Kd.at_int HR0.out x4_1 p272 q272;obtain rfl:ad271=ad272:=(by injection e272)
        replace p272:=eq_true p272;replace q272:=eq_true q272;go_wp2
        go_meet
        case rel=>exact ⟨_,(decide ((rd l0 x4_1) > x3_1)),(by first|rfl|(simp;done)|(simp [*];done)),H',⟨by have:=HK1.out;first|omega|exact Nat.le_refl _⟩,by repeat (first|exact Drawn0.refl _|apply Drawn0.step)⟩
      ·rw [if_neg c5] at H
       exact absurd H (by simp)
     case rest =>
      clear HC4
      try clear c2
      try clear c2b0
      try clear c2b1
      try clear p2
      try clear q2
      try clear hx2
      try clear c3
      try clear c3b0
      try clear c5
      try clear c5b0
      try clear c6
      try clear c6b0
      try clear hx271_0
      try clear hx272_0
      try clear p2
      try clear p271
      try clear p272
      try clear q271
      try clear q272
      obtain ⟨kq,x26_3,rfl,HA,HJ3,⟨mc3,rfl⟩⟩:=hcut;cases kq with
      |zero=>exact absurd HA.out (by simp [r6_IsParting.j1])
      |succ kj3 =>
       have H:=HA.out;clear HA;simp only [r6_IsParting.j1] at H
       by_cases c7:x26_3=true
       ·subst c7
        have H1:(some false)=some r:=by rw [if_pos rfl] at H;exact H
        clear H;have H:=H1;clear H1;obtain rfl:=Option.some.inj H;go_wp2
        go_ret
        exact ⟨by first|rfl|(simp;done)|(simp [*];done),by repeat (first|exact Drawn0.refl _|apply Drawn0.step)⟩
       ·replace c7:=Bool.eq_false_iff.mpr c7
        subst c7;have H1:(if 0≤x4_1 then (if x4_1<(l0.length:Int) then (if (rd l0 x4_1)=x3_1 then (r6_IsParting.l0 kj3 l0 (wrap64 (x3_1+1)) (wrap64 (x4_1+1))) else (r6_IsParting.l0 kj3 l0 x3_1 (wrap64 (x4_1+1)))) else (none)) else (none))=some r:=by rw [if_neg (show ¬ (false=true) by decide)] at H;exact H
        clear H;have H:=H1;clear H1
        by_cases c8:0≤x4_1
        ·rw [if_pos c8] at H
         have c8b0:decide (0≤x4_1)=true:=decide_eq_true c8;clear c8
         by_cases c9:x4_1<(l0.length:Int)
         ·rw [if_pos c9] at H
          have c9b0:decide (x4_1<(l0.length:Int))=true:=decide_eq_true c9;clear c9
          by_cases c10:(rd l0 x4_1)=x3_1
          ·rw [if_pos c10] at H
           have c10b0:((rd l0 x4_1) == x3_1)=true:=beq_iff_eq.mpr c10;have c10b1:((rd l0 x4_1) != x3_1)=false:=bne_eq_false_iff_eq.mpr c10;clear c10;have H':=As0.mk H;clear H;have p273:0≤(x4_1:Int):=of_decide_eq_true (by first|(with_reducible assumption)|assumption);have q273:x4_1<(l0.length:Int):=of_decide_eq_true (by first|(with_reducible assumption)|assumption);obtain ⟨ad273,e273,hx273_0⟩:=Kd.at_int HR0.out x4_1 p273 q273;cases e273
           replace p273:=eq_true p273;replace q273:=eq_true q273;go_wp2
           go_roundg kj3
           case measure=>have:=HK1.out;have:=HJ3.out;omega
           case rel=>exact ⟨(wrap64 (x3_1+1)),(wrap64 (x4_1+1)),(by first|rfl|(simp;done)|(simp [*];done)),(by first|rfl|(simp;done)|(simp [*];done)),H',⟨by have:=HK1.out;have:=HJ3.out;omega⟩,by repeat (first|exact Drawn0.refl _|apply Drawn0.step)⟩
          ·rw [if_neg c10] at H
           have c10b0:((rd l0 x4_1) == x3_1)=false:=beq_eq_false_iff_ne.mpr c10;have c10b1:((rd l0 x4_1) != x3_1)=true:=bne_iff_ne.mpr c10;have H':=As0.mk H;clear H;have p273:0≤(x4_1:Int):=of_decide_eq_true (by first|(with_reducible assumption)|assumption);have q273:x4_1<(l0.length:Int):=of_decide_eq_true (by first|(with_reducible assumption)|assumption);obtain ⟨ad273,e273,hx273_0⟩:=Kd.at_int HR0.out x4_1 p273 q273;cases e273
           replace p273:=eq_true p273;replace q273:=eq_true q273;go_wp2
           go_roundg kj3
           case measure=>have:=HK1.out;have:=HJ3.out;omega
           case rel=>exact ⟨(x3_1),(wrap64 (x4_1+1)),(by first|rfl|(simp;done)|(simp [*];done)),(by first|rfl|(simp;done)|(simp [*];done)),H',⟨by have:=HK1.out;have:=HJ3.out;omega⟩,by repeat (first|exact Drawn0.refl _|apply Drawn0.step)⟩
         ·rw [if_neg c9] at H
          exact absurd H (by simp)
        ·rw [if_neg c8] at H
         exact absurd H (by simp)
    ·rw [if_neg c3] at H
     have c3b0:decide (x4_1<(l0.length:Int))=false:=decide_eq_false c3;clear c3;obtain rfl:=Option.some.inj H;go_wp2
     go_ret
     exact ⟨by first|rfl|(simp;done)|(simp [*];done),by repeat (first|exact Drawn0.refl _|apply Drawn0.step)⟩
end Go.Proofs.Ytdhgeondbnpeoaa.P
namespace Go.Proofs.Ytdhgeondbnpeoaa.P
open Go.RowKit Go.Proofs.YtdhgeondbnpeoaaW.PrintWords Go.Proofs.YtdhgeondbnpeoaaW.PrintLast Go.Proofs.YtdhgeondbnpeoaaW.PrintMore
attribute [local go_sem] y0z y0x max_two min_two y0t y0s y0y y0w
def mobs_number_2_int.f (l0:List S89):Option (List Int):=if (∀ p ∈ l0,Ext.In64 p.f0∧Ext.In64 p.f1)∧l0.length<17592186044416 then some (Ext.numL (l0.map fun p=>(p.f0,p.f1))) else none
theorem reads2_of {w:World} {A:Option Addr} {l:List S89} (h:Kd.C k89 w A l.length l):Ext.Reads2 w A (l.map fun p=>(p.f0,p.f1)):=by
 intro hn;rw [List.length_map] at hn;obtain ⟨ad,hA,hc⟩:=h.2.2 hn;refine ⟨ad,hA,fun j p hj=>?_⟩;rw [List.getElem?_map] at hj;obtain ⟨q,hq,rfl⟩:=Option.map_eq_some_iff.1 hj;obtain ⟨c,hs,hr,hcell⟩:=hc j q hq;obtain rfl:=k89_open hr;have e:k89.sz=2:=rfl;rw [e] at hcell;exact ⟨hcell 0 _ rfl,hcell 1 _ rfl⟩
theorem mobs_number_2_int.own (A0:Option Addr) (c0:Nat) (l0:List S89) (r1:List Int) (w:World) (hr0:Kd.C k89 w A0 l0.length l0) (hc0:l0.length≤c0) (h:mobs_number_2_int.f l0=some r1) :
  Calls Tra.prog 84 #[.slice A0 l0.length c0] w fun e w'=>∃ v0_:Value,e=.returned v0_∧Ext.OwnI w' w.heap.size v0_ r1∧Below w.heap.size w w':=by
 unfold mobs_number_2_int.f at h;split at h
 ·rename_i hL
  obtain rfl:=Option.some.inj h;exact (by have:=Ext.num2_all A0 c0 (l0.map fun p=>(p.f0,p.f1)) w (reads2_of hr0) (by simpa using hL.1) (by simpa using hL.2);rwa [List.length_map] at this)
 ·cases h
end Go.Proofs.Ytdhgeondbnpeoaa.P
namespace Go.Proofs.Ytdhgeondbnpeoaa.P
open Go.RowKit Go.Proofs.YtdhgeondbnpeoaaW.PrintWords Go.Proofs.YtdhgeondbnpeoaaW.PrintLast Go.Proofs.YtdhgeondbnpeoaaW.PrintMore
attribute [local go_sem] y0z y0x max_two min_two y0t y0s y0y y0w
def mobs_below.l0:Nat->List Int->List Int->List (S89)->Int->Int->Option (List Int)
 |0,_,_,_,_,_=>none
 |k+1,x0,x1,x5,x8,x9=>if x9<x8 then (if 0≤x9 then (if x9<(x0.length:Int) then (if x9<(x1.length:Int) then (if x5.length<8796093022208 then (mobs_below.l0 k x0 x1 (x5 ++ [(⟨rd x0 x9,rd x1 x9⟩:S89)]) x8 (wrap64 (x9+1))) else (none)) else (none)) else (none)) else (none)) else ((mobs_number_2_int.f x5).bind fun t605=>(some t605))
def mobs_below.f (k:Nat) (l0:List Int) (l1:List Int):Option (List Int):=mobs_below.l0 k l0 l1 ([]:List (S89)) (l0.length:Int) 0
def mobs_below.T5:Bool × List (List Nat × List Nat):=(true,[([],[]),([],[]),([],[]),([1,2],[1,2]),([3],[3]),([],[]),([],[]),([5,6],[5,6]),([7],[7]),([4,8],[4,8]),([9],[9]),([0,10],[0,10]),([11,11,0,1,2,3,4,5,6,7,8,9,10,11],[0,11])])
def mobs_below.B5:List Nat:=[0,0,0,6,14,0,0,96,224,510,1022,2047,4095]
theorem mobs_below.tab5:rtab .any (opsOf Tra.f63 5)=mobs_below.T5:=by kernel_rfl
theorem mobs_below.bits5:waitsOk mobs_below.T5.2 mobs_below.B5=true:=by kernel_rfl
set_option maxHeartbeats 8000000 in
set_option maxRecDepth 100000 in
theorem mobs_below.flat (k:Nat) (A0:Option Addr) (c0:Nat) (l0:List Int) (A1:Option Addr) (c1:Nat) (l1:List Int) (r:List Int) (w:World) (hr0:Kd.C (Kd.int .i64) w A0 l0.length l0) (hc0:l0.length≤c0) (hr1:Kd.C (Kd.int .i64) w A1 l1.length l1) (hc1:l1.length≤c1) (h:mobs_below.f k l0 l1=some r) :
  Calls Tra.prog 63 #[.slice A0 l0.length c0,.slice A1 l1.length c1] w fun e w'=>∃ v0_:Value,e=.returned (v0_)∧Ext.OwnI w' w.heap.size v0_ r∧Below w.heap.size w w':=by
 have hu89:=Tra.underlying89;have HR0:=As0.mk hr0;have HC0:=As0.mk hc0;clear hr0 hc0;have HR1:=As0.mk hr1;have HC1:=As0.mk hc1;clear hr1 hc1;have HB:=As0.mk (Below.refl w.heap.size w);have H:(mobs_below.l0 k l0 l1 ([]:List (S89)) (l0.length:Int) 0)=some r:=h;clear h;have H':=As0.mk H;clear H;go_enter Tra.func63,Tra.ntmps63
 go_wp2
 go_loopg [5,9] k (fun kq v5 v9 w'=>∃ (x5_1:List (S89)) (x9_1:Int),v9=.int .i64 x9_1∧As0 (mobs_below.l0 kq l0 l1 x5_1 (l0.length:Int) x9_1=some r)∧As0 (kq≤k)∧As0 (Kd.R k89 89 w' w.heap.size (fun _=>True) v5 x5_1)∧As0 (Below w.heap.size w w'))
 case atStart=>exact ⟨(([]:List (S89))),(0),(by first|rfl|(simp;done)|(simp [*];done)),H',⟨Nat.le_refl _⟩,⟨by first|exact Kd.R_nil _ _ _ _ _|exact Kd.N_nil _ _ _ _ _|exact Kd.V_nil _ _ _ _ _|exact Kd.Q_nil _ _ _ _ _|exact Kd.S_nil _ _ _ _ _⟩,⟨by repeat (first|(with_reducible first|exact HB.out|apply y01|apply y00|apply y02)|exact HB.out)⟩⟩
 case round =>
  clear H'
  try clear c1
  try clear p2
  obtain ⟨x5_1,x9_1,rfl,HA,HK1,HO_5,HB⟩:=hrel;cases gk with
  |zero=>exact absurd HA.out (by simp [mobs_below.l0])
  |succ k1 =>
   have H:=HA.out;clear HA;simp only [mobs_below.l0] at H
   by_cases c3:x9_1<(l0.length:Int)
   ·rw [if_pos c3] at H
    have c3b0:decide (x9_1<(l0.length:Int))=true:=decide_eq_true c3;clear c3
    by_cases c4:0≤x9_1
    ·rw [if_pos c4] at H
     have c4b0:decide (0≤x9_1)=true:=decide_eq_true c4;clear c4
     by_cases c5:x9_1<(l0.length:Int)
     ·rw [if_pos c5] at H
      have c5b0:decide (x9_1<(l0.length:Int))=true:=decide_eq_true c5;clear c5
      by_cases c6:x9_1<(l1.length:Int)
      ·rw [if_pos c6] at H
       have c6b0:decide (x9_1<(l1.length:Int))=true:=decide_eq_true c6;clear c6
       by_cases c7:x5_1.length<8796093022208
       ·rw [if_pos c7] at H
        have LMc7:=As0.mk c7;clear c7;obtain ⟨y602,hy602⟩:∃ y_:List (S89),y_=(x5_1 ++ [(⟨rd l0 x9_1,rd l1 x9_1⟩:S89)]):=⟨_,rfl⟩
        replace H:(mobs_below.l0 k1 l0 l1 y602 (l0.length:Int) (wrap64 (x9_1+1)))=some r:=by first|(rw [hy602];with_reducible exact H)|(have H2_:=(Option.bind_some _ _).symm.trans H;rw [hy602];with_reducible exact H2_)|(have H2_:=(Option.bind_some _ _).symm.trans H;with_reducible exact H2_)|with_reducible exact H|(rw [hy602];exact H)|exact H
        have Ny602:=As0.mk hy602;clear hy602;have H':=As0.mk H;clear H
        try go_wp2
        have n0_:=As0.mk (Kd.R_drew HO_5.out);have n1_:=As0.mk (y02 HB.out);clear HO_5;clear HB;have HO_5:=n0_;have HB:=n1_;clear n0_ n1_;have p600:0≤(x9_1:Int):=of_decide_eq_true (by first|(with_reducible assumption)|assumption);have q600:x9_1<(l0.length:Int):=of_decide_eq_true (by first|(with_reducible assumption)|assumption);obtain ⟨ad600,e600,hx600_0⟩:=Kd.at_int HR0.out x9_1 p600 q600;have hw600_0:=hx600_0;cases e600
        replace hx600_0:=(HB.out.cell (World.block_lt_of_cell? w _ hx600_0)).trans hx600_0;replace p600:=eq_true p600;replace q600:=eq_true q600;have p601:0≤(x9_1:Int):=of_decide_eq_true (by first|(with_reducible assumption)|assumption);have q601:x9_1<(l1.length:Int):=of_decide_eq_true (by first|(with_reducible assumption)|assumption);obtain ⟨ad601,e601,hx601_0⟩:=Kd.at_int HR1.out x9_1 p601 q601;have hw601_0:=hx601_0;cases e601
        replace hx601_0:=(HB.out.cell (World.block_lt_of_cell? w _ hx601_0)).trans hx601_0;replace p601:=eq_true p601;replace q601:=eq_true q601;refine start_ (n:=13) (S:=fun w'=>w'.cell? (ad600.add (x9_1).toNat)=some (.int .i64 (rd l0 x9_1))∧w'.cell? (ad601.add (x9_1).toNat)=some (.int .i64 (rd l1 x9_1))) (ds:=[]) #[false,false,false,false,false,false,false,false,false,false,false,false,false] (by kernel_rfl) rfl rfl ⟨((HB.out.cell (World.block_lt_of_cell? w _ hw600_0)).trans hw600_0),((HB.out.cell (World.block_lt_of_cell? w _ hw601_0)).trans hw601_0)⟩ (fun hHeld=>?_);refine with_tabW mobs_below.tab5 mobs_below.bits5 (fun HT_ HW_=>?_);generalize wr.drew=w8 at HO_5 HB hx600_0 hx601_0 hHeld ⊢;refine pure_ (i:=0) (N:=some 12) (v:=?_) (a':=?_) #[true,false,false,false,false,false,false,false,false,false,false,false,false] rfl rfl (y0v HT_.out (by kernel_rfl)) (fun _ _ _ h=>h) (Or.inl ⟨by rfl,?_⟩) ?_ ?_;rotate_left
        ·intro w'
         go_simp
         with_reducible rfl
        rotate_left
        ·simp only [Act.put,List.setIfInBounds_toArray,List.set_cons_zero,List.set_cons_succ,i64_w,i32_w]
         rfl
        refine pure_ (i:=1) (N:=some 13) (v:=?_) (a':=?_) #[true,true,false,false,false,false,false,false,false,false,false,false,false] rfl rfl (y0v HT_.out (by kernel_rfl)) (fun _ _ _ h=>h) (Or.inl ⟨by rfl,?_⟩) ?_ ?_;rotate_left
        ·intro w'
         go_simp
         with_reducible rfl
        rotate_left
        ·simp only [Act.put,List.setIfInBounds_toArray,List.set_cons_zero,List.set_cons_succ,i64_w,i32_w]
         rfl
        refine pure_ (i:=2) (N:=some 14) (v:=?_) (a':=?_) #[true,true,true,false,false,false,false,false,false,false,false,false,false] rfl rfl (y0v HT_.out (by kernel_rfl)) (fun _ _ _ h=>h) (Or.inl ⟨by rfl,?_⟩) ?_ ?_;rotate_left
        ·intro w'
         go_simp
         with_reducible rfl
        rotate_left
        ·simp only [Act.put,List.setIfInBounds_toArray,List.set_cons_zero,List.set_cons_succ,i64_w,i32_w]
         rfl
        refine pure_ (i:=3) (N:=some 15) (v:=?_) (a':=?_) #[true,true,true,true,false,false,false,false,false,false,false,false,false] rfl rfl (y0v HT_.out (by kernel_rfl)) (fun _ _ _ h=>h) (Or.inl ⟨by rfl,?_⟩) ?_ ?_;rotate_left
        ·intro w'
         go_simp
         with_reducible rfl
        rotate_left
        ·simp only [Act.put,List.setIfInBounds_toArray,List.set_cons_zero,List.set_cons_succ,i64_w,i32_w]
         rfl
        refine pure_ (i:=5) (N:=some 17) (v:=?_) (a':=?_) #[true,true,true,true,false,true,false,false,false,false,false,false,false] rfl rfl (y0v HT_.out (by kernel_rfl)) (fun _ _ _ h=>h) (Or.inl ⟨by rfl,?_⟩) ?_ ?_;rotate_left
        ·intro w'
         go_simp
         with_reducible rfl
        rotate_left
        ·simp only [Act.put,List.setIfInBounds_toArray,List.set_cons_zero,List.set_cons_succ,i64_w,i32_w]
         rfl
        refine pure_ (i:=6) (N:=some 18) (v:=?_) (a':=?_) #[true,true,true,true,false,true,true,false,false,false,false,false,false] rfl rfl (y0v HT_.out (by kernel_rfl)) (fun _ _ _ h=>h) (Or.inl ⟨by rfl,?_⟩) ?_ ?_;rotate_left
        ·intro w'
         go_simp
         with_reducible rfl
        rotate_left
        ·simp only [Act.put,List.setIfInBounds_toArray,List.set_cons_zero,List.set_cons_succ,i64_w,i32_w]
         rfl
        refine pure_ (i:=7) (N:=some 19) (v:=?_) (a':=?_) #[true,true,true,true,false,true,true,true,false,false,false,false,false] rfl rfl (y0v HT_.out (by kernel_rfl)) (fun _ _ _ h=>h) (Or.inl ⟨by rfl,?_⟩) ?_ ?_;rotate_left
        ·intro w'
         go_simp
         with_reducible rfl
        rotate_left
        ·simp only [Act.put,List.setIfInBounds_toArray,List.set_cons_zero,List.set_cons_succ,i64_w,i32_w]
         rfl
        refine take_ (i:=4) (N:=some 16) (v:=?_) (a':=?_) #[true,true,true,true,true,true,true,true,false,false,false,false,false] rfl rfl (take_ofW HT_.out HW_.out (by kernel_rfl)) (fun _ _ _ h=>h) (Or.inl ⟨by rfl,?_⟩) hHeld ?_ ?_;rotate_left
        ·rintro w' ⟨s0,s1⟩
         go_simp
         with_reducible rfl
        rotate_left
        ·simp only [Act.put,List.setIfInBounds_toArray,List.set_cons_zero,List.set_cons_succ,i64_w,i32_w]
         rfl
        refine take_ (i:=8) (N:=some 20) (v:=?_) (a':=?_) #[true,true,true,true,true,true,true,true,true,false,false,false,false] rfl rfl (take_ofW HT_.out HW_.out (by kernel_rfl)) (fun _ _ _ h=>h) (Or.inl ⟨by rfl,?_⟩) hHeld ?_ ?_;rotate_left
        ·rintro w' ⟨s0,s1⟩
         go_simp
         with_reducible rfl
        rotate_left
        ·simp only [Act.put,List.setIfInBounds_toArray,List.set_cons_zero,List.set_cons_succ,i64_w,i32_w]
         rfl
        refine pure_ (i:=9) (N:=some 21) (v:=?_) (a':=?_) #[true,true,true,true,true,true,true,true,true,true,false,false,false] rfl rfl (y0v HT_.out (by kernel_rfl)) (fun _ _ _ h=>h) (Or.inl ⟨by rfl,?_⟩) ?_ ?_;rotate_left
        ·intro w'
         go_simp
         with_reducible rfl
        rotate_left
        ·simp only [Act.put,List.setIfInBounds_toArray,List.set_cons_zero,List.set_cons_succ,i64_w,i32_w]
         rfl
        refine one_ (i:=10) (N:=some 22) #[true,true,true,true,true,true,true,true,true,true,true,false,false] rfl rfl (one_of HT_.out (by kernel_rfl)) (by decide) (fun K hK=>?_);refine value_ (w1:=?_) (v:=?_) (by rfl) rfl ?_ ?_;rotate_left 2
        ·go_simp
         constructor
         ·rfl
         ·rfl
        refine hK.out _ _ ⟨(World.cell?_alloc_lt _ _ _ (World.block_lt_of_cell? _ _ (((HB.out.cell (World.block_lt_of_cell? w _ hw600_0)).trans hw600_0)))).trans (((HB.out.cell (World.block_lt_of_cell? w _ hw600_0)).trans hw600_0)),(World.cell?_alloc_lt _ _ _ (World.block_lt_of_cell? _ _ (((HB.out.cell (World.block_lt_of_cell? w _ hw601_0)).trans hw601_0)))).trans (((HB.out.cell (World.block_lt_of_cell? w _ hw601_0)).trans hw601_0))⟩ (fun hHeld=>?_);clear hK K;refine norm_ (a':=?_) ?_ ?_;rotate_left
        ·show Act.put _ (some 22) _=_
         simp only [Act.put,List.setIfInBounds_toArray,List.set_cons_zero,List.set_cons_succ,i64_w,i32_w];rfl
        refine one_ (i:=11) (N:=some 23) #[true,true,true,true,true,true,true,true,true,true,true,true,false] rfl rfl (one_of HT_.out (by kernel_rfl)) (by decide) (fun K hK=>?_);refine Kd.R_append_step k89 (w0:=w) w.heap.size (by rfl) (.tmp 12) (.tmp 22) 88 89 (.agg #[(.int .i64 0),(.int .i64 0)]) 16 rfl Tra.underlying88 info89 rfl (by decide) (by omega) u5 x5_1 (⟨rd l0 x9_1,rd l1 x9_1⟩:S89) [.int .i64 (rd l0 x9_1),.int .i64 (rd l1 x9_1)] (fun _=>True) (fun _=>False) rfl rfl ?aP (fun _ hk=>hk.elim) ?aF ?aO ?aB ?aS ?aL ?_
        (case aP=>exact k89_mkM _ _ _ (⟨rd l0 x9_1,rd l1 x9_1⟩:S89))
        (case aB=>exact (by repeat (first|(with_reducible first|exact HB.out|apply y01|apply y00|apply y02)|exact HB.out)))
        (case aF=>exact (fun _ _=>trivial))
        (case aO=>exact (by (with_reducible repeat (first|apply Kd.R_alloc|apply Kd.R_drewN|apply Kd.R_drew));exact HO_5.out))
        (case aS=>exact (y05 (by repeat (first|(with_reducible first|exact HB.out|apply y01|apply y00|apply y02)|exact HB.out))))
        (case aL=>have:=LMc7.out;omega)
        intro v603 w9 ho hb hg hat;rw [← Ny602.out] at ho;have n0_:=As0.mk (hb);have n1_:=As0.mk (ho);clear HB;clear HO_5;have HB:=n0_;have HO604:=n1_;clear n0_ n1_;clear ho hb hg hat;refine hK.out _ _ ⟨((HB.out.cell (World.block_lt_of_cell? w _ hw600_0)).trans hw600_0),((HB.out.cell (World.block_lt_of_cell? w _ hw601_0)).trans hw601_0)⟩ (fun hHeld=>?_);clear hK K;refine norm_ (a':=?_) ?_ ?_;rotate_left
        ·show Act.put _ (some 23) _=_
         simp only [Act.put,List.setIfInBounds_toArray,List.set_cons_zero,List.set_cons_succ,i64_w,i32_w];rfl
        refine pure_ (i:=12) (N:=some 5) (v:=?_) (a':=?_) #[true,true,true,true,true,true,true,true,true,true,true,true,true] rfl rfl (y0v HT_.out (by kernel_rfl)) (fun _ _ _ h=>h) (Or.inl ⟨by rfl,?_⟩) ?_ ?_;rotate_left
        ·intro w'
         go_simp
         with_reducible rfl
        rotate_left
        ·simp only [Act.put,List.setIfInBounds_toArray,List.set_cons_zero,List.set_cons_succ,i64_w,i32_w]
         rfl
        refine done_ (done_of HT_.out (by kernel_rfl)) ?_
        try go_wp2
        go_roundg k1
        case measure=>have:=HK1.out;omega
        case rel=>exact ⟨(y602),(wrap64 (x9_1+1)),(by first|rfl|(simp;done)|(simp [*];done)),H',⟨by have:=HK1.out;omega⟩,⟨by (with_reducible repeat (first|apply Kd.R_alloc|apply Kd.R_drewN|apply Kd.R_drew));exact HO604.out⟩,⟨by repeat (first|(with_reducible first|exact HB.out|apply y01|apply y00|apply y02)|exact HB.out)⟩⟩
       ·rw [if_neg c7] at H
        exact absurd H (by simp)
      ·rw [if_neg c6] at H
       exact absurd H (by simp)
     ·rw [if_neg c5] at H
      exact absurd H (by simp)
    ·rw [if_neg c4] at H
     exact absurd H (by simp)
   ·rw [if_neg c3] at H
    have c3b0:decide (x9_1<(l0.length:Int))=false:=decide_eq_false c3;clear c3;replace H:=Option.bind_eq_some_iff.mp H;obtain ⟨t605,A100,H⟩:=H;replace H:(some t605)=some r:=H;have A10:=As0.mk A100;clear A100;obtain rfl:=Option.some.inj H;obtain ⟨Ao11,co11,eo11⟩:=Kd.R_slice HO_5.out;subst eo11;go_wp2_with (first|((with_reducible refine y08 (f:=84) rfl ?_);refine y0l (some 26) rfl rfl Tra.func84 (by kernel_rfl) rfl #[.slice Ao11 x5_1.length co11] rfl (by (try simp only [List.map_toArray,List.map_cons,List.map_nil]);first|done|rfl|(simp only [List.length_drop,List.length_take];rfl)) ?_;(with_reducible refine (mobs_number_2_int.own _ _ x5_1 t605 _ ?side1 ?side2 A10.out).mono ?_);(case side1=>repeat (first|exact (Kd.R_reads' HO_5.out).2.2|(with_reducible refine Kd.C_alloc ?_ _)|(with_reducible refine Kd.C_drewN ?_ _)|(with_reducible refine Kd.C_drew ?_)));(case side2=>exact (Kd.R_reads' HO_5.out).2.1);rintro e w12 ⟨v606,rfl,hoI_,hb⟩;have HOI_:=As0.mk (hoI_.lower (y05 (by repeat (first|(with_reducible first|exact HB.out|apply y01|apply y00|apply y02)|exact HB.out))));have ho0:=hoI_.toR;clear hoI_;refine ⟨_,rfl,?_⟩;have n0_:=As0.mk (Kd.R_below (by (with_reducible repeat (first|apply Kd.R_alloc|apply Kd.R_drewN|apply Kd.R_drew));exact HO_5.out) hb);have n1_:=As0.mk (Kd.R_lower ho0 (y05 (by repeat (first|(with_reducible first|exact HB.out|apply y01|apply y00|apply y02)|exact HB.out))));have n2_:=As0.mk (y06 (by repeat (first|(with_reducible first|exact HB.out|apply y01|apply y00|apply y02)|exact HB.out)) hb);clear HO_5;clear HB;have HO_5:=n0_;have HO607:=n1_;have HB:=n2_;clear n0_ n1_ n2_;(try clear hb);(try clear hb2);(try clear hk);(try clear hi);(try clear ho0)))
    go_ret
    exact ⟨_,by first|rfl|(simp [y0a,y09]<;>rfl)|(simp [*,y0a,y09]<;>rfl),HOI_.out,by repeat (first|(with_reducible first|exact HB.out|apply y01|apply y00|apply y02)|exact HB.out)⟩
end Go.Proofs.Ytdhgeondbnpeoaa.P
namespace Go.Proofs.Ytdhgeondbnpeoaa.Ext
open Go.RowKit Go.Proofs.YtdhgeondbnpeoaaW.PrintWords Go.Proofs.YtdhgeondbnpeoaaW.PrintLast Go.Proofs.YtdhgeondbnpeoaaW.PrintMore
attribute [local go_sem] y0z y0x max_two min_two y0t y0s y0y y0w
def swapL (x y:Int) (out:List Int):List Int:=out.map fun z=>if z=x then y else z
def swapTo (x y:Int) (out:List Int) (j:Nat):List Int:=swapL x y (out.take j) ++ out.drop j
def joinStep (b:List Int) (i k:Nat) (out:List Int):List Int:=if b.getD i 0≠b.getD k 0∨out.getD i 0=out.getD k 0 then out else swapL (out.getD i 0) (out.getD k 0) out
def joinIn (b:List Int) (i:Nat):Nat->List Int->List Int
 |0,o=>o
 |k+1,o=>joinStep b i k (joinIn b i k o)
def joinAll (b:List Int):Nat->List Int->List Int
 |0,o=>o
 |i+1,o=>joinIn b i i (joinAll b i o)
def aboveL (a b:List Int):List Int:=numL (joinAll b b.length a)
theorem swapL_len (x y:Int) (o:List Int):(swapL x y o).length=o.length:=by simp [swapL]
theorem swapTo_len (x y:Int) (o:List Int) (j:Nat):(swapTo x y o j).length=o.length:=by simp [swapTo,swapL_len];omega
theorem joinStep_len (b:List Int) (i k:Nat) (o:List Int):(joinStep b i k o).length=o.length:=by unfold joinStep;split<;>simp [swapL_len]
theorem joinIn_len (b:List Int) (i:Nat):∀ (k:Nat) (o:List Int),(joinIn b i k o).length=o.length
 |0,_=>rfl
 |k+1,o=>(joinStep_len b i k _).trans (joinIn_len b i k o)
theorem joinAll_len (b:List Int):∀ (i:Nat) (o:List Int),(joinAll b i o).length=o.length
 |0,_=>rfl
 |i+1,o=>(joinIn_len b i i _).trans (joinAll_len b i o)
theorem swapTo_zero (x y:Int) (o:List Int):swapTo x y o 0=o:=by simp [swapTo,swapL]
theorem swapTo_all (x y:Int) (o:List Int):swapTo x y o o.length=swapL x y o:=by simp [swapTo]
theorem swapTo_at (x y:Int) {o:List Int} {j:Nat} (h:j<o.length):(swapTo x y o j).getD j 0=o.getD j 0:=by
 have h1:(swapL x y (o.take j)).length=j:=by rw [swapL_len,List.length_take];omega
 unfold swapTo;rw [List.getD_eq_getElem?_getD,List.getElem?_append_right (by omega),h1,Nat.sub_self,List.getElem?_drop,List.getD_eq_getElem?_getD,Nat.add_zero]
theorem swapTo_succ (x y:Int) {o:List Int} {j:Nat} (h:j<o.length):swapTo x y o (j+1)=(swapTo x y o j).set j (if o.getD j 0=x then y else o.getD j 0):=by
 have h1:(swapL x y (o.take j)).length=j:=by rw [swapL_len,List.length_take];omega
 unfold swapTo;rw [List.set_append,if_neg (by omega),h1,Nat.sub_self,List.drop_eq_getElem_cons h,List.set_cons_zero,List.take_succ_eq_append_getElem h];rw [List.getD_eq_getElem?_getD,List.getElem?_eq_getElem h];unfold swapL;rw [List.map_append,List.append_assoc];rfl
theorem swapTo_same (x y:Int) {o:List Int} {j:Nat} (h:j<o.length) (hne:o.getD j 0≠x):swapTo x y o (j+1)=swapTo x y o j:=by
 rw [swapTo_succ x y h,if_neg hne,← swapTo_at x y h];have hl:j<(swapTo x y o j).length:=by rw [swapTo_len];exact h
 rw [List.getD_eq_getElem?_getD,List.getElem?_eq_getElem hl,Option.getD_some,List.set_getElem_self]
theorem mem_join {b:List Int} {p:Int->Prop}:∀ {i:Nat} {o:List Int},(∀ x ∈ o,p x)->p 0->∀ x ∈ joinAll b i o,p x:=by
 have hg:∀ {o:List Int} (i:Nat),(∀ x ∈ o,p x)->p 0->p (o.getD i 0):=by
  intro o i h h0;rw [List.getD_eq_getElem?_getD];cases hi:o[i]? with
  |none=>exact h0
  |some v=>exact h v (List.mem_of_getElem? hi)
 have hs:∀ {i k:Nat} {o:List Int},(∀ x ∈ o,p x)->p 0->∀ x ∈ joinStep b i k o,p x:=by
  intro i k o h h0 x hx;unfold joinStep at hx;split at hx
  ·exact h x hx
  ·simp only [swapL,List.mem_map] at hx
   obtain ⟨z,hz,rfl⟩:=hx;split
   ·exact hg k h h0
   ·exact h z hz
 have hi:∀ {i:Nat} (k:Nat) {o:List Int},(∀ x ∈ o,p x)->p 0->∀ x ∈ joinIn b i k o,p x:=by
  intro i k
  induction k with
  |zero=>intro o h _;exact h
  |succ k ih=>intro o h h0;exact hs (ih h h0) h0
 intro i
 induction i with
 |zero=>intro o h _;exact h
 |succ i ih=>intro o h h0;exact hi i (ih h h0) h0
set_option maxHeartbeats 8000000 in
set_option maxRecDepth 100000 in
theorem above_all (A:Option Addr) (c:Nat) (la:List Int) (B:Option Addr) (cb:Nat) (lb:List Int) (w:World) (hra:Kd.C (Kd.int .i64) w A la.length la) (hrb:Kd.C (Kd.int .i64) w B lb.length lb) (hab:la.length=lb.length) (hok:∀ x ∈ la,In64 x) (hL:la.length<17592186044416) :
  Calls Tra.prog 65 #[.slice A la.length c,.slice B lb.length cb] w fun e w'=>∃ v,e=.returned v∧OwnI w' w.heap.size v (aboveL la lb)∧Below w.heap.size w w':=by
 have HRB:=As0.mk hrb;have HL:=As0.mk hL;have HAB:=As0.mk hab;have HOK:=As0.mk (mem_join (b:=lb) (i:=lb.length) hok (by unfold In64;omega));have HA:=As0.mk (clone_calls A c la w hra hL);clear hra hrb hL hab hok;go_enter Tra.func65,Tra.ntmps65
 go_wp2_with fail
 refine HA.out.mono ?_
 rintro e w1 ⟨v5,rfl,hR5,hB1⟩
 have HR1:=As0.mk hR5;have HB1:=As0.mk hB1;clear hR5 hB1 HA;go_wp2_with fail
 go_loopw [16] (fun v16 W=>∃ i:Nat,v16=.int .i64 i∧As0 (i≤lb.length)∧As0 (Kd.R (Kd.int .i64) 3 W w.heap.size (fun _=>True) v5 (joinAll lb i la))∧As0 (Below w.heap.size w W)) (fun v16 _=>(lb.length - intOf v16).toNat)
 case atStart=>exact ⟨0,rfl,⟨Nat.zero_le _⟩,HR1,HB1⟩
 case round =>
  obtain ⟨i,rfl,hi,hR,hB⟩:=hrel;have hi':=hi.out;have hab:=HAB.out;have hLo:lb.length<17592186044416:=by have:=HL.out;omega
  by_cases hlt:i<lb.length
  ·obtain ⟨g,cap,hv,hbg,hgl,_⟩:=Kd.R_form hR.out (by rw [joinAll_len];omega)
   rw [joinAll_len,hab] at hv;subst hv;have HLEN:=As0.mk (joinAll_len lb i la);have HI:=As0.mk hlt;clear hab;go_wp2_with fail
   go_loopw [20] (fun v20 W=>∃ k:Nat,v20=.int .i64 k∧As0 (k≤i)∧As0 (Kd.R (Kd.int .i64) 3 W w.heap.size (fun _=>True) (.slice (some ⟨g,0,none⟩) lb.length cap) (joinIn lb i k (joinAll lb i la)))∧As0 (Below w.heap.size w W)) (fun v20 _=>(i - intOf v20).toNat)
   case atStart=>exact ⟨0,rfl,⟨Nat.zero_le _⟩,hR,hB⟩
   case round =>
    clear hR hB;obtain ⟨k,rfl,hk,hR,hB⟩:=hrel;have hk':=hk.out
    by_cases hki:k<i
    ·have hkl:k<lb.length:=by omega
     have hln:=joinIn_len lb i k (joinAll lb i la);have hln2:=HLEN.out;have hab:=HAB.out;obtain ⟨o,ho⟩:∃ o,o=joinIn lb i k (joinAll lb i la):=⟨_,rfl⟩
     rw [← ho] at hR hln;have HOE:=As0.mk ho;clear ho;obtain ⟨hci,hfi⟩:=Kd.R_celln 0 hR.out (i:Int) (by omega) (by omega);obtain ⟨hck,hfk⟩:=Kd.R_celln 0 hR.out (k:Int) (by omega) (by omega);obtain ⟨bd,rfl,hbi⟩:=Kd.at_int (Kd.C_below HRB.out hB.out) (i:Int) (by omega) (by omega);obtain ⟨bd',hbe,hbk⟩:=Kd.at_int (Kd.C_below HRB.out hB.out) (k:Int) (by omega) (by omega);injection hbe with hbe
     subst hbe;simp only [Int.toNat_natCast,rdOf,rd] at hci hck hbi hbk;obtain ⟨oi,hoi⟩:∃ x,x=o.getD i 0:=⟨_,rfl⟩
     obtain ⟨ok,hok⟩:∃ x,x=o.getD k 0:=⟨_,rfl⟩
     obtain ⟨bi,hbi'⟩:∃ x,x=lb.getD i 0:=⟨_,rfl⟩
     obtain ⟨bk,hbk'⟩:∃ x,x=lb.getD k 0:=⟨_,rfl⟩
     replace hci:wr.cell? ⟨g,i,none⟩=some (.int .i64 oi):=by rw [hoi];exact hci
     replace hck:wr.cell? ⟨g,k,none⟩=some (.int .i64 ok):=by rw [hok];exact hck
     rw [← hbi'] at hbi;rw [← hbk'] at hbk;have HST:=As0.mk (show joinIn lb i (k+1) (joinAll lb i la)=if bi≠bk∨oi=ok then o else swapL oi ok o from by rw [hbi',hbk',hoi,hok,HOE.out];rfl);have HOI:=As0.mk hoi;have HOK2:=As0.mk hok;have HLN:=As0.mk (hln.trans hln2);clear hoi hok hbi' hbk' hfi hfk hln hln2
     by_cases hbb:bi=bk
     ·by_cases hoo:oi=ok
      ·subst hbb hoo
       have HST2:=As0.mk (HST.out.trans (if_pos (.inr rfl)));clear HST;go_wp2_with fail
       go_quiet (fail)
       go_wp2_with fail
       go_roundw
       case rel=>exact ⟨k+1,by go_num,⟨by omega⟩,⟨by rw [HST2.out];exact Kd.R_drewN hR.out _⟩,⟨y00 hB.out _⟩⟩
       case measure=>simp [intOf];omega
      ·subst hbb
       have HST2:=As0.mk (HST.out.trans (if_neg (by rintro (h|h);exact h rfl;exact hoo h)));have hoo1:(oi == ok)=false:=beq_eq_false_iff_ne.mpr hoo;clear HST;go_wp2_with fail
       go_quiet (fail)
       have HRq:=As0.mk (Kd.R_drewN hR.out nq);have HBq:=As0.mk (y00 hB.out nq);go_wp2_with fail
       go_quiet (fail)
       have HR0:=As0.mk (show Kd.R (Kd.int .i64) 3 _ w.heap.size (fun _=>True) (.slice (some ⟨g,0,none⟩) lb.length cap) (swapTo oi ok o 0) from by rw [swapTo_zero];exact Kd.R_drewN HRq.out nq);have HB0:=As0.mk (y00 HBq.out nq);clear hci hck hbi hbk hR hB HRq HBq;go_wp2_with fail
       go_loopw [53] (fun v53 W=>∃ j:Nat,v53=.int .i64 j∧As0 (j≤lb.length)∧As0 (Kd.R (Kd.int .i64) 3 W w.heap.size (fun _=>True) (.slice (some ⟨g,0,none⟩) lb.length cap) (swapTo oi ok o j))∧As0 (Below w.heap.size w W)) (fun v53 _=>(lb.length - intOf v53).toNat)
       case atStart=>exact ⟨0,rfl,⟨Nat.zero_le _⟩,⟨by first|exact HR0.out|(have h:=HR0.out;rwa [World.drewN_drewN] at h)⟩,⟨by first|exact HB0.out|(have h:=HB0.out;rwa [World.drewN_drewN] at h)⟩⟩
       case round =>
        clear HR0 HB0;obtain ⟨j,rfl,hj,hR,hB⟩:=hrel;have hj':=hj.out
        by_cases hjl:j<lb.length
        ·have hol:j<o.length:=by have:=HLN.out;have:=HAB.out;omega
         obtain ⟨hcj,hfj⟩:=Kd.R_celln 0 hR.out (j:Int) (by omega) (by omega);simp only [Int.toNat_natCast] at hcj hfj;obtain ⟨oj,hoj⟩:∃ x,x=o.getD j 0:=⟨_,rfl⟩
         replace hcj:wr.cell? ⟨g,j,none⟩=some (.int .i64 oj):=by rw [hoj,← swapTo_at oi ok hol];exact hcj
         by_cases hjo:oj=oi
         ·have HP:=Kd.R_putn hR.out (j:Int) ok
          rw [Int.toNat_natCast,show (swapTo oi ok o j).set j ok=swapTo oi ok o (j+1) from by rw [swapTo_succ oi ok hol,← hoj,if_pos hjo]] at HP;have HP2:=As0.mk HP;have HB2:=As0.mk (hB.out.setCell (p:=⟨g,j,none⟩) hbg (.int .i64 ok));subst hjo;clear HP hoj hol;go_wp2_with fail
          go_roundw
          case rel=>exact ⟨j+1,by go_num,⟨by omega⟩,HP2,HB2⟩
          case measure=>simp [intOf];omega
         ·have HP2:=As0.mk (show Kd.R (Kd.int .i64) 3 wr w.heap.size (fun _=>True) (.slice (some ⟨g,0,none⟩) lb.length cap) (swapTo oi ok o (j+1)) from by rw [swapTo_same oi ok hol (by rw [← hoj];exact hjo)];exact hR.out)
          have hjo1:(oj == oi)=false:=beq_eq_false_iff_ne.mpr hjo;clear hoj hol;go_wp2_with fail
          go_roundw
          case rel=>exact ⟨j+1,by go_num,⟨by omega⟩,HP2,hB⟩
          case measure=>simp [intOf];omega
        ·have hje:j=lb.length:=by omega
         have HRn:=As0.mk (show Kd.R (Kd.int .i64) 3 wr w.heap.size (fun _=>True) (.slice (some ⟨g,0,none⟩) lb.length cap) (joinIn lb i (k+1) (joinAll lb i la)) from by
          rw [HST2.out,← swapTo_all,HLN.out,HAB.out];have h:=hR.out;rw [hje] at h;exact h)
         clear hje;go_wp2_with fail
         go_roundw
         case rel=>exact ⟨k+1,by go_num,⟨by omega⟩,HRn,hB⟩
         case measure=>simp [intOf];omega
     ·have HST2:=As0.mk (HST.out.trans (if_pos (.inl hbb)))
      have hbb1:(bi == bk)=false:=beq_eq_false_iff_ne.mpr hbb;have hbb2:(bi != bk)=true:=bne_iff_ne.mpr hbb;clear HST;go_wp2_with fail
      go_quiet (fail)
      go_wp2_with fail
      go_roundw
      case rel=>exact ⟨k+1,by go_num,⟨by omega⟩,⟨by rw [HST2.out];exact Kd.R_drewN hR.out _⟩,⟨y00 hB.out _⟩⟩
      case measure=>simp [intOf];omega
    ·have hke:k=i:=by omega
     have HRn:=As0.mk (show Kd.R (Kd.int .i64) 3 wr w.heap.size (fun _=>True) (.slice (some ⟨g,0,none⟩) lb.length cap) (joinAll lb (i+1) la) from by have:=hR.out;rw [hke] at this;exact this);clear hke;go_wp2_with fail
     have hii:=HI.out
     go_roundw
     case rel=>exact ⟨i+1,by go_num,⟨by have:=HI.out;omega⟩,HRn,hB⟩
     case measure=>have:=HI.out;simp [intOf];omega
  ·have hke:i=lb.length:=by omega
   have HR:=As0.mk (show Kd.R (Kd.int .i64) 3 wr w.heap.size (fun _=>True) v5 (joinAll lb lb.length la) from hke ▸ hR.out);clear hke;obtain ⟨Ao,co,rfl,hco,hC⟩:=Kd.R_reads HR.out;have HN:=As0.mk (num_all Ao co _ wr hC HOK.out (by rw [joinAll_len];exact HL.out));clear hC;go_wp2_with fail
   refine HN.out.mono ?_
   rintro e w2 ⟨v,rfl,hO,hb⟩
   have HO:=As0.mk (hO.lower hB.out.size);have HB2:=As0.mk (y06 hB.out hb);clear hO hb HN;go_wp2_with fail
   go_ret
   exact ⟨_,rfl,HO.out,HB2.out⟩
end Go.Proofs.Ytdhgeondbnpeoaa.Ext
namespace Go.Proofs.Ytdhgeondbnpeoaa.Ca
open Go.RowKit Go.Mt Go.Proofs.Ytdhgeondbnpeoaa.P Go.Proofs.YtdhgeondbnpeoaaW.PrintWords Go.Proofs.YtdhgeondbnpeoaaW.PrintLast Go.Proofs.YtdhgeondbnpeoaaW.PrintMore
theorem blk_C {w:World} {b:Nat} {xs:List Int} (h:IntBlk w b xs) (hn:xs.length≤9223372036854775807):Kd.C (Kd.int .i64) w (some ⟨b,0,none⟩) xs.length xs:=by
 obtain ⟨cs,fr,h1,h2,h3⟩:=h;refine Kd.C_of_reads (d:=(0:Int)) (h1:=fun _=>rfl) ⟨rfl,hn,fun _=>⟨_,rfl,fun j hj=>?_⟩⟩;rw [add_plain,cell_of_row w b j cs 3 fr h1];refine h3 j _ ?_;rw [List.getD_eq_getElem?_getD,List.getElem?_eq_getElem hj];rfl
theorem blk_V {w:World} {b c e N:Nat} {xs:List Int} (h:IntBlk w b xs) (hn:xs.length≤9223372036854775807) (hc:xs.length≤c):Kd.V (Kd.int .i64) e w N (fun _=>True) (.slice (some ⟨b,0,none⟩) xs.length c) xs :=
 Kd.V_mk hc fun W' hW=>blk_C (h.of_get (hW b trivial h.lt)) hn
theorem resI_of {w:World} {N:Nat} {v:Value} {xs:List Int} (h:Ext.OwnI w N v xs) (hx:0<xs.length):ResI N w v xs:=by
 obtain ⟨⟨h1,h2⟩,h3⟩:=h;rcases h2 with ⟨_,h0⟩|⟨g,cap,cur,rfl,hb,hg,hn,hm,hs,ht⟩
 ·omega
 ·refine ⟨g,cap,rfl,hb,cur,(0,0),hg,fun c hc=>?_,fun i x hi=>?_⟩
  ·obtain ⟨y,rfl⟩:=h3 g cur _ rfl hg c hc
   rfl
  ·have hlt:i<xs.length:=(List.getElem?_eq_some_iff.1 hi).1
   have e:(nums IntKind.i64 xs)[i]?=some (Value.int .i64 x):=by simp [nums,hi]
   rw [← ht,List.getElem?_take,if_pos (by omega)] at e;simpa using e
theorem same_l (xs:List Int) (hn:xs.length≤4):∀ (n k i:Nat),n=xs.length - i->n<k->w6_same.l0 k xs xs (i:Int)=some true
 |n,0,i,_,h=>absurd h (by omega)
 |n,k+1,i,h,hk=>by
  unfold w6_same.l0
  by_cases hi:(i:Int)<(xs.length:Int)
  ·rw [if_pos hi,if_pos (by omega),if_pos hi,if_pos rfl,show wrap64 ((i:Int)+1)=((i+1:Nat):Int) by unfold wrap64;omega]
   exact same_l xs hn (n - 1) k (i+1) (by omega) (by omega)
  ·rw [if_neg hi]
theorem same_self (xs:List Int) (hn:xs.length≤4):w6_same.f 60 xs xs=some true:=by
 unfold w6_same.f;rw [if_pos rfl];exact same_l xs hn _ 60 0 rfl (by omega)
theorem two_C {u:World} {b b1 b2:Nat} {xs ys:List Int} (h1:IntBlk u b1 xs) (h2:IntBlk u b2 ys) (hx:xs.length=4) (hy:ys.length=4) (hb:u.heap[b]?=some (.cells #[.slice (some ⟨b1,0,none⟩) 4 4,.slice (some ⟨b2,0,none⟩) 4 4] 29 (0,2))):Kd.C (Kd.slice 3 (Kd.int .i64)) u (some ⟨b,0,none⟩) 2 [xs,ys]:=by
 refine ⟨rfl,by decide,fun _=>⟨_,rfl,fun j p hj=>?_⟩⟩;have e:(Kd.slice 3 (Kd.int .i64)).sz=1:=rfl;have key:∀ (c:Nat) (zs:List Int) (j:Nat),IntBlk u c zs->zs.length=4->(#[Value.slice (some ⟨b1,0,none⟩) 4 4,.slice (some ⟨b2,0,none⟩) 4 4]:Array Value)[j]?=some (.slice (some ⟨c,0,none⟩) 4 4)->∃ c,c.length=1∧(Kd.slice 3 (Kd.int .i64)).K u zs c∧∀ i v,c[i]?=some v->u.cell? ((⟨b,0,none⟩:Addr).add (j * 1+i))=some v:=by
  intro c zs j hc hz hj;refine ⟨[.slice (some ⟨c,0,none⟩) 4 4],rfl,⟨some ⟨c,0,none⟩,4,by rw [hz],by omega,blk_C hc (by omega)⟩,fun i v hi=>?_⟩;have hi0:i=0:=by
   have:=(List.getElem?_eq_some_iff.1 hi).1;simp at this;omega
  subst hi0;rw [add_plain,cell_of_row u b _ _ 29 _ hb,Nat.mul_one,Nat.add_zero,hj];simpa using hi
 rcases j with _|_|j
 ·injection hj with hj
  subst hj;exact key b1 _ 0 h1 hx rfl
 ·have hj':ys=p:=by simpa using hj
  subst hj';exact key b2 _ 1 h2 hy rfl
 ·simp at hj
theorem alK:AlK Tra.prog where
 c36 u b h:=(mobs_Rank.calls 60 (fun _=>True) (some ⟨b,0,none⟩) 3 [0,1,1] 3 0 u (blk_V h (by decide) (by decide)) (by decide +kernel)).mono fun e w' hp=>hp.1
 c25 u b h:=(mobs_Between.flat 60 (fun _=>True) (some ⟨b,0,none⟩) 3 [0,0,1] [0,1,1] 0 u (blk_V h (by decide) (by decide)) (by decide +kernel)).mono fun e w' ⟨v,he,hO,_⟩=>⟨v,he,resI_of hO (by decide)⟩
 c16 u:=(mobs_Count.calls 60 4 2 7 0 u (by decide +kernel)).mono fun e w' hp=>hp.1
 c18 u:=(mobs_Plain.calls 60 4 2 6 0 u (by decide +kernel)).mono fun e w' hp=>hp.1
 c23 u b h:=(mobs_Crossed.calls 60 (fun _=>True) (some ⟨b,0,none⟩) 4 [0,1,0,1] 0 1 2 3 true 0 u (blk_V h (by decide) (by decide)) (by decide +kernel)).mono fun e w' hp=>hp.1
 c27 u b1 b2 c1 c2 xs h1 h2 hn:=(w6_same.nocap 60 (some ⟨b1,0,none⟩) c1 xs (some ⟨b2,0,none⟩) c2 xs true u (blk_C h1 (by omega)) (blk_C h2 (by omega)) (same_self xs hn)).mono fun e w' hp=>hp.1
 c49 u b b1 b2 h1 h2 hb:=(mobs_read.calls 60 (some ⟨b,0,none⟩) 2 [[0,0,1,1],[0,1,1,0]] 0 u (two_C h1 h2 rfl rfl hb) (by decide) (by decide +kernel)).mono fun e w' hp=>hp.1
 c63 u b1 b2 h1 h2:=(mobs_below.flat 60 (some ⟨b1,0,none⟩) 4 [0,0,1,1] (some ⟨b2,0,none⟩) 4 [0,1,1,0] [0,1,2,3] u (blk_C h1 (by decide)) (by decide) (blk_C h2 (by decide)) (by decide) (by decide +kernel)).mono fun e w' ⟨v,he,hO,_⟩=>⟨v,he,resI_of hO (by decide)⟩
 c65 u b1 b2 h1 h2:=by
  refine (Ext.above_all (some ⟨b1,0,none⟩) 4 [0,0,1,1] (some ⟨b2,0,none⟩) 4 [0,1,1,0] u (blk_C h1 (by decide)) (blk_C h2 (by decide)) rfl (by decide) (by decide)).mono fun e w' ⟨v,he,hO,_⟩=>⟨v,he,?_⟩
  have e1:Ext.aboveL [0,0,1,1] [0,1,1,0]=[0,0,0,0]:=by decide +kernel
  rw [e1] at hO;exact resI_of hO (by decide)
end Go.Proofs.Ytdhgeondbnpeoaa.Ca
namespace Go.Proofs.Ytdhgeondbnpeoaa.Ca
open Go.RowKit Go.Mt Go.Tr Go.Conc Go.ConcN
theorem below_of {W w:World} (h:Kept W.heap.size W w):Below W.heap.size W w:=⟨h.os,h.tape,h.output,h.size,h.old⟩
end Go.Proofs.Ytdhgeondbnpeoaa.Ca
namespace Go.Proofs.Ytdhgeondbnpeoaa.Ca
open Go.RowKit Go.Mt Go.Tr Go.Conc Go.ConcN
structure SlD where
 a:Option Addr
 len:Nat
 cap:Nat
 zs:List Int
def SlD.val (d:SlD):Value:=.slice d.a d.len d.cap
def SlD.ok (W:World) (d:SlD):Prop :=
 (d.a=none∧d.len=0∧d.cap=0∧d.zs=[])∨∃ x,d.a=some x∧x.spot=none∧(∃ cs e fr,W.heap[x.block]?=some (.cells cs e fr))∧d.len≤d.cap∧d.cap≤maxLen∧d.zs.length=d.cap ∧
  (∀ i,i<d.zs.length->W.cell? (x.add i)=some (.int .i64 (d.zs.getD i 0)))∧∀ n ∈ d.zs,(Lit.int .i64 n).wf=true
def SlD.ints (d:SlD):Array Value:=(d.zs.map (Value.int .i64)).toArray
def lone (N:Nat):Nat->List SlD->List SlD
 |_,[]=>[]
 |j,d :: ds=>match d.a with
  |none=>d :: lone N j ds
  |some _=>{ d with a:=some ⟨N+j,0,none⟩ } :: lone N (j+1) ds
def als:List SlD->List (Nat × Nat)
 |[]=>[]
 |d :: ds=>match d.a with
  |none=>als ds
  |some x=>(x.block,x.off) :: als ds
def blks:List SlD->List Obj
 |[]=>[]
 |d :: ds=>match d.a with
  |none=>blks ds
  |some _=>.cells d.ints 3 (0,d.ints.size) :: blks ds
theorem blks_len:∀ ds:List SlD,(blks ds).length=(als ds).length
 |[]=>rfl
 |d :: ds=>by
  unfold blks als;cases d.a<;>simp [blks_len ds]
theorem lone_len (N:Nat):∀ (j:Nat) (ds:List SlD),(lone N j ds).length=ds.length
 |_,[]=>rfl
 |j,d :: ds=>by
  unfold lone;cases d.a<;>simp [lone_len]
theorem lone_at (N:Nat):∀ (ds:List SlD) (j k:Nat) (d d':SlD),ds[k]?=some d->(lone N j ds)[k]?=some d' →
  d'.len=d.len∧d'.cap=d.cap∧d'.zs=d.zs∧((d.a=none∧d'.a=none)∨∃ x i,d.a=some x∧d'.a=some ⟨N+(j+i),0,none⟩∧(als ds)[i]?=some (x.block,x.off)∧(blks ds)[i]?=some (.cells d.ints 3 (0,d.ints.size)))
 |[],j,k,d,d',h,_=>by simp at h
 |c :: ds,j,k,d,d',h,h'=>by
  unfold lone at h';unfold als blks;cases hc:c.a with
  |none =>
   rw [hc] at h';simp only at h' ⊢;cases k with
   |zero =>
    simp only [List.getElem?_cons_zero,Option.some.injEq] at h h';subst h h';exact ⟨rfl,rfl,rfl,.inl ⟨hc,hc⟩⟩
   |succ k =>
    simp only [List.getElem?_cons_succ] at h h';exact lone_at N ds j k d d' h h'
  |some x =>
   rw [hc] at h';simp only at h' ⊢;cases k with
   |zero =>
    simp only [List.getElem?_cons_zero,Option.some.injEq] at h h';subst h h';exact ⟨rfl,rfl,rfl,.inr ⟨x,0,hc,rfl,rfl,rfl⟩⟩
   |succ k =>
    simp only [List.getElem?_cons_succ] at h h';obtain ⟨h1,h2,h3,h4⟩:=lone_at N ds (j+1) k d d' h h';refine ⟨h1,h2,h3,h4.imp id ?_⟩
    rintro ⟨y,i,e1,e2,e3,e4⟩
    exact ⟨y,i+1,e1,by rw [e2];congr 2;omega,by simpa using e3,by simpa using e4⟩
theorem als_at:∀ (ds:List SlD) (i b s:Nat),(als ds)[i]?=some (b,s)->∃ d x,d ∈ ds∧d.a=some x∧x.block=b∧x.off=s∧(blks ds)[i]?=some (.cells d.ints 3 (0,d.ints.size))
 |[],i,b,s,h=>by simp [als] at h
 |c :: ds,i,b,s,h=>by
  unfold als at h;unfold blks;cases hc:c.a with
  |none =>
   rw [hc] at h;obtain ⟨d,x,h1,h2⟩:=als_at ds i b s h;exact ⟨d,x,List.mem_cons_of_mem _ h1,h2⟩
  |some y =>
   rw [hc] at h;simp only at h;cases i with
   |zero =>
    simp only [List.getElem?_cons_zero,Option.some.injEq,Prod.mk.injEq] at h;exact ⟨c,y,List.mem_cons_self,hc,h.1,h.2,rfl⟩
   |succ i =>
    simp only [List.getElem?_cons_succ] at h;obtain ⟨d,x,h1,h2,h3,h4,h5⟩:=als_at ds i b s h;exact ⟨d,x,List.mem_cons_of_mem _ h1,h2,h3,h4,by simpa using h5⟩
def loneW (W:World) (ds:List SlD):World:={ W with heap:=Array.replicate W.heap.size (.map #[] 0) ++ (blks ds).toArray }
def KA (W:World) (ds:List SlD):Cfg:=⟨W.heap.size,fun _=>False,fun _=>False,als ds⟩
theorem loneW_get (W:World) (ds:List SlD) (j:Nat):(loneW W ds).heap[W.heap.size+j]?=(blks ds)[j]?:=by
 unfold loneW;simp only;rw [Array.getElem?_append_right (by simp)];simp
theorem lone_rel {W:World} {ds:List SlD} (hok:∀ d ∈ ds,d.ok W):WRel (KA W ds) ((als ds).map Prod.fst) (loneW W ds) W:=by
 have hlt:∀ (j b s:Nat),(als ds)[j]?=some (b,s)->b<W.heap.size:=by
  intro j b s hj;obtain ⟨d,x,h1,h2,h3,_⟩:=als_at ds j b s hj;rcases hok d h1 with ⟨h4,_⟩|⟨y,h4,_,⟨cs,e,fr,h5⟩,_⟩
  ·rw [h2] at h4;cases h4
  ·obtain rfl:=Option.some.inj (h2.symm.trans h4)
   rw [← h3];exact (Array.getElem?_eq_some_iff.1 h5).1
 have hL:∀ (j b:Nat),((als ds).map Prod.fst)[j]?=some b->b<W.heap.size:=by
  intro j b hj;rw [List.getElem?_map] at hj;obtain ⟨⟨b',s⟩,h1,h2⟩:=Option.map_eq_some_iff.1 hj;subst h2;exact hlt j b' s h1
 refine ⟨?_,Nat.le_refl _,rfl,rfl,hL,fun j b hj hn=>?_,fun i j b hi hj hn=>?_,fun b hb=>hb.elim,fun b hb=>hb.elim,fun j b s hj=>?_⟩
 ·show (Array.replicate W.heap.size _ ++ (blks ds).toArray).size=_
  simp [KA,blks_len]
 ·have:=hL j b hj
  exact absurd hn (Nat.not_le_of_lt this)
 ·have:=hL i b hi
  exact absurd hn (Nat.not_le_of_lt this)
 ·replace hj:(als ds)[j]?=some (b,s):=hj
  obtain ⟨d,x,h1,h2,h3,h4,h5⟩:=als_at ds j b s hj;rcases hok d h1 with ⟨h6,_⟩|⟨y,h6,hsp,⟨cs,e,fr,h7⟩,_,_,hzl,hcell,_⟩
  ·rw [h2] at h6;cases h6
  ·obtain rfl:=Option.some.inj (h2.symm.trans h6)
   subst h3 h4;refine ⟨(Array.getElem?_eq_some_iff.1 h7).1,fun h=>h,⟨x.block,by rw [List.getElem?_map,hj];rfl,(Array.getElem?_eq_some_iff.1 h7).1⟩,d.ints,cs,3,e,fr,?_,h7,fun i v hv=>?_⟩
   ·show (loneW W ds).heap[W.heap.size+j]?=_
    rw [loneW_get,h5]
   ·have hi:i<d.zs.length:=by
     have:=(Array.getElem?_eq_some_iff.1 hv).1;simpa [SlD.ints] using this
    have e1:v=.int .i64 (d.zs.getD i 0):=by
     have:d.ints[i]?=some (.int .i64 (d.zs.getD i 0)):=by simp [SlD.ints,List.getElem?_eq_getElem hi,List.getD_eq_getElem?_getD]
     exact Option.some.inj (hv.symm.trans this)
    have e2:=hcell i hi;obtain ⟨xb,xo,xs⟩:=x;simp only at hsp h7;subst hsp;have e3:(⟨xb,xo,none⟩:Addr).add i=⟨xb,xo+i,none⟩:=by unfold Addr.add;split<;>simp_all
    rw [e3,cell_of_row W xb (xo+i) cs e fr h7] at e2;exact ⟨v,by rw [Nat.add_comm,e2,e1],by rw [e1];exact .flat rfl⟩
theorem lone_val {W:World} {ds:List SlD} (hok:∀ d ∈ ds,d.ok W) {k:Nat} {d d':SlD} (h:ds[k]?=some d) (h':(lone W.heap.size 0 ds)[k]?=some d') :
  d'.len=d.len∧d'.cap=d.cap∧d'.zs=d.zs∧RelC (KA W ds) ((als ds).map Prod.fst) d'.val d.val∧∀ u:World,u.heap=(loneW W ds).heap->d'.ok u:=by
 obtain ⟨h1,h2,h3,h4⟩:=lone_at W.heap.size ds 0 k d d' h h';refine ⟨h1,h2,h3,?_,fun u hu=>?_⟩
 ·rcases h4 with ⟨e1,e2⟩|⟨x,i,e1,e2,e3,_⟩
  ·unfold SlD.val
   rw [e1,e2,h1,h2];exact .flat rfl
  ·unfold SlD.val
   rw [e1,e2,h1,h2];have hsp:x.spot=none:=by
    rcases hok d (List.mem_of_getElem? h) with ⟨h6,_⟩|⟨y,h6,hsp,_⟩
    ·rw [e1] at h6;cases h6
    ·obtain rfl:=Option.some.inj (e1.symm.trans h6)
     exact hsp
   exact .slice (s:=x.off) (.inr ⟨i,by simp [KA],e3⟩) (by simp) (by simp [hsp])
 ·rcases hok d (List.mem_of_getElem? h) with ⟨g1,g2,g3,g4⟩|⟨y,g1,_,_,g2,g3,g4,g5,g6⟩
  ·rcases h4 with ⟨e1,e2⟩|⟨x,i,e1,_⟩
   ·exact .inl ⟨e2,by rw [h1,g2],by rw [h2,g3],by rw [h3,g4]⟩
   ·rw [g1] at e1;cases e1
  ·rcases h4 with ⟨e1,e2⟩|⟨x,i,e1,e2,_,e4⟩
   ·rw [g1] at e1;cases e1
   ·have hb:u.heap[W.heap.size+(0+i)]?=some (.cells d.ints 3 (0,d.ints.size)):=by rw [hu,Nat.zero_add,loneW_get,e4]
    refine .inr ⟨_,e2,rfl,⟨_,_,_,hb⟩,by rw [h1,h2];exact g2,by rw [h2];exact g3,by rw [h2,h3];exact g4,fun j hj=>?_,by rw [h3];exact g6⟩;rw [h3] at hj ⊢;have e3:(⟨W.heap.size+(0+i),0,none⟩:Addr).add j=⟨W.heap.size+(0+i),j,none⟩:=by unfold Addr.add;split<;>simp_all
    rw [e3,cell_of_row u _ j d.ints 3 _ hb];simp [SlD.ints,List.getElem?_eq_getElem hj,List.getD_eq_getElem?_getD]
theorem relPs_nil (K:Cfg) (L:List Nat):RelPs K L #[] #[]:=⟨rfl,fun i v v' h=>by simp at h⟩
theorem relPs_push {K:Cfg} {L:List Nat} {cs cs':Array Value} (h:RelPs K L cs cs') {v v':Value} (hv:RelC K L v v'):RelPs K L (cs.push v) (cs'.push v'):=by
 refine ⟨by simp [h.1],fun i a b ha hb=>?_⟩;rw [Array.getElem?_push] at ha hb
 by_cases hi:i=cs.size
 ·rw [if_pos hi] at ha
  rw [if_pos (by rw [h.1];exact hi)] at hb;obtain rfl:=Option.some.inj ha;obtain rfl:=Option.some.inj hb;exact .cell hv
 ·rw [if_neg hi] at ha
  rw [if_neg (by rw [h.1];exact hi)] at hb;exact h.2 i a b ha hb
theorem law_runS {f:FuncId} {fn:Func} {W:World} (ds:List SlD) (hok:∀ d ∈ ds,d.ok W) (mk:List SlD->Array Value) (hi:Try.prog.inits.idxOf? f=none) (hf:Tra.prog.funcs[f]?=some fn) (hS:S1 f=true) (hT:T1 f=true) (hres:tmpRes fn=true)
  (hmk:∀ (K:Cfg) (L:List Nat) (ds':List SlD),ds'.length=ds.length->(∀ (k:Nat) (d d':SlD),ds[k]?=some d->ds'[k]?=some d'->RelC K L d'.val d.val)->RelPs K L (mk ds') (mk ds))
  (hc:∀ (u:World) (ds':List SlD),ds'.length=ds.length->(∀ (k:Nat) (d d':SlD),ds[k]?=some d->ds'[k]?=some d'->d'.len=d.len∧d'.cap=d.cap∧d'.zs=d.zs∧d'.ok u)->Calls Tra.prog f (mk ds') u fun e _=>e=.returned (.bool true)) :
  ∃ M last o w' t',runNT Try.prog (M+1) (solo (G (Frame.enter Try.prog f (mk ds) .normal) []) W) #[]=(.ended o w',t')∧runN Try.prog M (solo (G (Frame.enter Try.prog f (mk ds) .normal) []) W)=.next last∧step Try.prog last=.ended o w' ∧
   Go.Conc.Good Try.prog (fun v' w'=>v'=.bool true∧Below W.heap.size W w') last o w' t':=by
 obtain ⟨M,last,o,w',t',h1,h2,h3,v',e0,⟨L,v,u,hv,_,hk,rfl⟩,r0⟩:=hyb_run (Rd:=fun _=>False) (al:=als ds) (L0:=(als ds).map Prod.fst) (W:=W) (u0:=loneW W ds) (args:=mk (lone W.heap.size 0 ds)) (args':=mk ds) Tra.same Tra.calm1 Tra.calmT
  (special_alive Tra.duo Tra.calm1 alK Tra.als res23 Tra.stand Tra.t20 (fun b h=>h.elim)) hi hf hS hT hres
  (hmk _ _ _ (lone_len _ _ _) fun k d d' hd hd'=>(lone_val hok hd hd').2.2.2.1) (lone_rel hok) (Post:=fun v _=>v=.bool true) (fun _ _ _ h=>h)
  (fun τ=>(hc (retape (loneW W ds) τ) (lone W.heap.size 0 ds) (lone_len _ _ _) fun k d d' hd hd'=>let ⟨q1,q2,q3,_,q5⟩:=lone_val hok hd hd';⟨q1,q2,q3,q5 _ rfl⟩).mono fun e _ h=>⟨_,h,rfl⟩)
 refine ⟨M,last,o,w',t',h1,h2,h3,v',e0,⟨?_,below_of hk⟩,r0⟩;split at hv
 ·exact relP_flat hv rfl
 ·exact relV_flat hv rfl
theorem SlD.row {u:World} {d:SlD} (h:d.ok u):(d.a=none∧d.len=0∧d.cap=0∧d.zs=[])∨∃ x,d.a=some x∧d.len≤d.cap∧d.cap≤maxLen∧d.zs.length=d.cap∧(∀ i,i<d.zs.length->u.cell? (x.add i)=some (.int .i64 (d.zs.getD i 0)))∧∀ n ∈ d.zs,(Lit.int .i64 n).wf=true:=by
 rcases h with h|⟨x,h1,_,_,h2⟩
 ·exact .inl h
 ·exact .inr ⟨x,h1,h2⟩
theorem has_of {P:Program} {W:World} {base:Nat} {t e:TypeId} {x:Addr} {len cap:Nat} (hu:P.underlying t=some (.slice e)) (hv:Value.okWide P W .any base t (.slice (some x) len cap)):W.has P .any base x e cap:=by
 simp only [Value.okWide,hu,Cell.okWide,Cell.ok] at hv;exact hv.2.2
theorem sl_ok {W:World} {base:Nat} {a:Option Addr} {len cap:Nat} {zs:List Int} (hv:Value.okWide Try.prog W .any base 29 (.slice a len cap))
  (hr:(a=none∧len=0∧cap=0∧zs=[])∨∃ x,a=some x∧len≤cap∧cap≤maxLen∧zs.length=cap∧(∀ i,i<zs.length->W.cell? (x.add i)=some (.int .i64 (zs.getD i 0)))∧∀ n ∈ zs,(Lit.int .i64 n).wf=true):(⟨a,len,cap,zs⟩:SlD).ok W:=by
 rcases hr with hr|⟨x,rfl,h2⟩
 ·exact .inl hr
 ·obtain ⟨_,hsp,row,cells,hs,_⟩:=has_of Try.underlying29 hv
  refine .inr ⟨x,rfl,hsp,?_,h2⟩;unfold World.shape? at hs;cases hb:W.heap[x.block]? with
  |none=>rw [hb] at hs;simp at hs
  |some o =>
   rw [hb] at hs;cases o with
   |cells cs e fr=>exact ⟨cs,e,fr,rfl⟩
   |_=>simp at hs
end Go.Proofs.Ytdhgeondbnpeoaa.Ca
namespace Go.Proofs.Ytdhgeondbnpeoaa.P
open Go.RowKit Go.Proofs.YtdhgeondbnpeoaaW.PrintWords Go.Proofs.YtdhgeondbnpeoaaW.PrintLast Go.Proofs.YtdhgeondbnpeoaaW.PrintMore
attribute [local go_sem] y0z y0x max_two min_two y0t y0s y0y y0w
def mobs_Around.f (k:Nat) (l0:List Int) (a1:Int):Option (List Int × Int):=(mobs_read.f k (([l0]:List (List Int)))).bind fun t427=>(if t427=0 then (if (l0.length:Int)=0 then (some (([]:List Int),0)) else (if 0≤(Int.tmod (wrap64 ((Int.tmod a1 (l0.length:Int))+(l0.length:Int))) (l0.length:Int)) then (if (Int.tmod (wrap64 ((Int.tmod a1 (l0.length:Int))+(l0.length:Int))) (l0.length:Int))≤(l0.length:Int) then ((slices_Clone_int_int.f (l0.drop ((Int.tmod (wrap64 ((Int.tmod a1 (l0.length:Int))+(l0.length:Int))) (l0.length:Int)):Int).toNat)).bind fun t433=>((some (l0.take ((Int.tmod (wrap64 ((Int.tmod a1 (l0.length:Int))+(l0.length:Int))) (l0.length:Int)):Int).toNat:List Int)).bind fun y436=>(if t433.length+y436.length<17592186044416 then ((mobs_number_int.f (t433 ++ y436)).bind fun t444=>(some (t444,0))) else (none)))) else (none)) else (none))) else (some (([]:List Int),t427)))
def mobs_Around.T7:Bool × List (List Nat × List Nat):=(true,[([],[]),([],[]),([0,1],[0,1]),([2],[2]),([],[]),([],[]),([4,5],[4,5]),([3,6,3],[3,6]),([7,7],[7]),([8,8,0,1,2,3,4,5,6,7,8],[8]),([9,0,1,2,3,4,5,6,7,8,9],[])])
def mobs_Around.B7:List Nat:=[0,0,3,7,0,0,48,127,255,511,1023]
theorem mobs_Around.tab7:rtab .any (opsOf Tra.f28 7)=mobs_Around.T7:=by kernel_rfl
theorem mobs_Around.bits7:waitsOk mobs_Around.T7.2 mobs_Around.B7=true:=by kernel_rfl
set_option maxHeartbeats 8000000 in
set_option maxRecDepth 100000 in
theorem mobs_Around.calls (k:Nat) (P0_:Nat->Prop) (A0:Option Addr) (c0:Nat) (l0:List Int) (a1:Int) (r1:List Int) (r2:Int) (w:World) (hs0:Kd.V (Kd.int .i64) 3 w w.heap.size (fun k_=>P0_ k_) (.slice A0 l0.length c0) l0) (h:mobs_Around.f k l0 a1=some (r1,r2)) :
  Calls Tra.prog 28 #[.slice A0 l0.length c0,.int .i64 a1] w fun e w'=>∃ v0_:Value,e=.returned (.tuple #[v0_,.int .i64 r2])∧Kd.R (Kd.int .i64) 3 w' w.heap.size (fun k_=>(w.heap.size≤k_)) v0_ r1∧Below w.heap.size w w':=by
 have HO0:=As0.mk (show Kd.V (Kd.int .i64) 3 w w.heap.size (fun k_=>(P0_ k_∨w.heap.size≤k_)) (.slice A0 l0.length c0) l0 from Kd.V_mono hs0 (fun k_ hk=>.inl hk));have HB:=As0.mk (Below.refl w.heap.size w);have H:((mobs_read.f k (([l0]:List (List Int)))).bind fun t427=>(if t427=0 then (if (l0.length:Int)=0 then (some (([]:List Int),0)) else (if 0≤(Int.tmod (wrap64 ((Int.tmod a1 (l0.length:Int))+(l0.length:Int))) (l0.length:Int)) then (if (Int.tmod (wrap64 ((Int.tmod a1 (l0.length:Int))+(l0.length:Int))) (l0.length:Int))≤(l0.length:Int) then ((slices_Clone_int_int.f (l0.drop ((Int.tmod (wrap64 ((Int.tmod a1 (l0.length:Int))+(l0.length:Int))) (l0.length:Int)):Int).toNat)).bind fun t433=>((some (l0.take ((Int.tmod (wrap64 ((Int.tmod a1 (l0.length:Int))+(l0.length:Int))) (l0.length:Int)):Int).toNat:List Int)).bind fun y436=>(if t433.length+y436.length<17592186044416 then ((mobs_number_int.f (t433 ++ y436)).bind fun t444=>(some (t444,0))) else (none)))) else (none)) else (none))) else (some (([]:List Int),t427))))=some (r1,r2):=h;clear h;obtain ⟨y424,hy424⟩:∃ y_:List (List Int),y_=(([l0]:List (List Int))):=⟨_,rfl⟩
 replace H:((mobs_read.f k y424).bind fun t427=>(if t427=0 then (if (l0.length:Int)=0 then (some (([]:List Int),0)) else (if 0≤(Int.tmod (wrap64 ((Int.tmod a1 (l0.length:Int))+(l0.length:Int))) (l0.length:Int)) then (if (Int.tmod (wrap64 ((Int.tmod a1 (l0.length:Int))+(l0.length:Int))) (l0.length:Int))≤(l0.length:Int) then ((slices_Clone_int_int.f (l0.drop ((Int.tmod (wrap64 ((Int.tmod a1 (l0.length:Int))+(l0.length:Int))) (l0.length:Int)):Int).toNat)).bind fun t433=>((some (l0.take ((Int.tmod (wrap64 ((Int.tmod a1 (l0.length:Int))+(l0.length:Int))) (l0.length:Int)):Int).toNat:List Int)).bind fun y436=>(if t433.length+y436.length<17592186044416 then ((mobs_number_int.f (t433 ++ y436)).bind fun t444=>(some (t444,0))) else (none)))) else (none)) else (none))) else (some (([]:List Int),t427))))=some (r1,r2):=by first|(rw [hy424];with_reducible exact H)|(have H2_:=(Option.bind_some _ _).symm.trans H;rw [hy424];with_reducible exact H2_)|(have H2_:=(Option.bind_some _ _).symm.trans H;with_reducible exact H2_)|with_reducible exact H|(rw [hy424];exact H)|exact H
 have Ny424:=As0.mk hy424;clear hy424;replace H:=Option.bind_eq_some_iff.mp H;obtain ⟨t427,A30,H⟩:=H;replace H:(if t427=0 then (if (l0.length:Int)=0 then (some (([]:List Int),0)) else (if 0≤(Int.tmod (wrap64 ((Int.tmod a1 (l0.length:Int))+(l0.length:Int))) (l0.length:Int)) then (if (Int.tmod (wrap64 ((Int.tmod a1 (l0.length:Int))+(l0.length:Int))) (l0.length:Int))≤(l0.length:Int) then ((slices_Clone_int_int.f (l0.drop ((Int.tmod (wrap64 ((Int.tmod a1 (l0.length:Int))+(l0.length:Int))) (l0.length:Int)):Int).toNat)).bind fun t433=>((some (l0.take ((Int.tmod (wrap64 ((Int.tmod a1 (l0.length:Int))+(l0.length:Int))) (l0.length:Int)):Int).toNat:List Int)).bind fun y436=>(if t433.length+y436.length<17592186044416 then ((mobs_number_int.f (t433 ++ y436)).bind fun t444=>(some (t444,0))) else (none)))) else (none)) else (none))) else (some (([]:List Int),t427)))=some (r1,r2):=H;have A3:=As0.mk A30;clear A30
 by_cases c4:t427=0
 ·rw [if_pos c4] at H
  have c4b0:(t427 == 0)=true:=beq_iff_eq.mpr c4;have c4b1:(t427 != 0)=false:=bne_eq_false_iff_eq.mpr c4;clear c4
  by_cases c5:(l0.length:Int)=0
  ·rw [if_pos c5] at H
   have c5b0:((l0.length:Int) == 0)=true:=beq_iff_eq.mpr c5;have c5b1:((l0.length:Int) != 0)=false:=bne_eq_false_iff_eq.mpr c5;clear c5;simp only [Option.some.injEq,Prod.mk.injEq] at H;obtain ⟨rfl,rfl⟩:=H;go_enter Tra.func28,Tra.ntmps28
   go_wp2_with (first|((with_reducible refine y0n (N:=9) rfl ?_);refine Kd.N_lit (Kd.slice 3 (Kd.int .i64)) _ 29 ?hg (N':=9) ?hd (xs:=([l0]:List (List Int))) (inner:=[.slice A0 l0.length c0]) (ok:=(fun k_=>(P0_ k_∨w.heap.size≤k_))) (okp:=(fun k_=>(P0_ k_∨w.heap.size≤k_))) ?hr ?hp (fun _ hk=>hk) ((show ∀ k_,w.heap.size≤k_->(fun k_=>(P0_ k_∨w.heap.size≤k_)) k_ from fun k_ hk=>(.inr (Nat.le_trans (y05 (by repeat (first|(with_reducible first|exact HB.out|apply y01|apply y00|apply y02)|exact HB.out))) hk))) _ (Nat.le_refl _)) (Below.refl _ _) (Nat.le_refl _) (by simp) ?_;(case hd=>rfl);(case hg=>rfl);(case hr=>first|(go_simp;done)|(go_simp;rfl));(case hp=>exact (Reps.one (show Kd.FK (Kd.slice 3 (Kd.int .i64)) _ _ l0 [.slice A0 l0.length c0] from (Kd.FK_slice_mk (Kd.V_reads' (Kd.V_mono (ok':=(fun k_=>(P0_ k_∨w.heap.size≤k_))) (HO0.out) (fun k_ hk=>hk))).2.1 (Kd.V_F (Kd.V_mono (ok':=(fun k_=>(P0_ k_∨w.heap.size≤k_))) (HO0.out) (fun k_ hk=>hk))))) (Reps.none _ _)));intro v425 w6 ho7 hb hg_ hnew_;clear hg_ hnew_;(first|rw [← Ny424.out] at ho7|(simp only [Int.reduceToNat] at ho7;rw [← Ny424.out] at ho7));have n0_:=As0.mk (Kd.V_elder' (by (with_reducible repeat (first|apply Kd.V_alloc|apply Kd.V_drewN|apply Kd.V_drew));exact HO0.out) (Kd.N_base ho7) hb);have n1_:=As0.mk (Kd.N_lower ho7 (y05 (by repeat (first|(with_reducible first|exact HB.out|apply y01|apply y00|apply y02)|exact HB.out))));have n2_:=As0.mk (y06 (by repeat (first|(with_reducible first|exact HB.out|apply y01|apply y00|apply y02)|exact HB.out)) hb);clear HO0;clear HB;have HO0:=n0_;have HO426:=n1_;have HB:=n2_;clear n0_ n1_ n2_;clear hb ho7;obtain ⟨Ao8,co8,eo8⟩:=Kd.N_slice HO426.out;subst eo8)|((with_reducible refine y08 (f:=49) rfl ?_);refine y0l (some 10) rfl rfl Tra.func49 (by kernel_rfl) rfl #[.slice Ao8 y424.length co8] rfl (by (try simp only [List.map_toArray,List.map_cons,List.map_nil]);first|done|rfl|(simp only [List.length_drop,List.length_take];rfl)) ?_;(with_reducible refine (mobs_read.calls k _ _ y424 t427 _ ?side1 ?side2 A3.out).mono ?_);(case side1=>repeat (first|exact (Kd.N_reads' HO426.out).2.2|(with_reducible refine Kd.C_alloc ?_ _)|(with_reducible refine Kd.C_drewN ?_ _)|(with_reducible refine Kd.C_drew ?_)));(case side2=>exact (Kd.N_reads' HO426.out).2.1);rintro e w9 ⟨rfl,hb⟩;refine ⟨_,rfl,?_⟩;have n0_:=As0.mk (Kd.V_below (by (with_reducible repeat (first|apply Kd.V_alloc|apply Kd.V_drewN|apply Kd.V_drew));exact HO0.out) hb);have n1_:=As0.mk (Kd.N_below (by (with_reducible repeat (first|apply Kd.N_alloc|apply Kd.N_drewN|apply Kd.N_drew));exact HO426.out) hb);have n2_:=As0.mk (y06 (by repeat (first|(with_reducible first|exact HB.out|apply y01|apply y00|apply y02)|exact HB.out)) hb);clear HO0;clear HO426;clear HB;have HO0:=n0_;have HO426:=n1_;have HB:=n2_;clear n0_ n1_ n2_;(try clear hb);(try clear hb2);(try clear hk);(try clear hi)))
   go_ret2
   exact ⟨_,by first|rfl|(simp [y0a,y09]<;>rfl)|(simp [*,y0a,y09]<;>rfl),by first|exact Kd.R_nil _ _ _ _ _|exact Kd.N_nil _ _ _ _ _|exact Kd.V_nil _ _ _ _ _|exact Kd.Q_nil _ _ _ _ _|exact Kd.S_nil _ _ _ _ _,by repeat (first|(with_reducible first|exact HB.out|apply y01|apply y00|apply y02)|exact HB.out)⟩
  ·rw [if_neg c5] at H
   have c5b0:((l0.length:Int) == 0)=false:=beq_eq_false_iff_ne.mpr c5;have c5b1:((l0.length:Int) != 0)=true:=bne_iff_ne.mpr c5;have c5b2:¬ (l0=[]):=fun h_=>c5 (by rw [h_];rfl)
   obtain ⟨ji10,hji10⟩:∃ j_:Int,(Int.tmod (wrap64 ((Int.tmod a1 (l0.length:Int))+(l0.length:Int))) (l0.length:Int))=j_:=⟨_,rfl⟩
   replace H:(if 0≤(ji10) then (if (ji10)≤(l0.length:Int) then ((slices_Clone_int_int.f (l0.drop ((ji10):Int).toNat)).bind fun t433=>((some (l0.take ((ji10):Int).toNat:List Int)).bind fun y436=>(if t433.length+y436.length<17592186044416 then ((mobs_number_int.f (t433 ++ y436)).bind fun t444=>(some (t444,0))) else (none)))) else (none)) else (none))=some (r1,r2):=by first|(rw [hji10] at H;exact H)|(simp only [hji10] at H ⊢;exact H)
   (try rw [hji10] at A3)
   by_cases c11:0≤(ji10)
   ·rw [if_pos c11] at H
    have c11b0:=eq_true c11;have c11b1:decide (0≤(ji10))=true:=decide_eq_true c11;clear c11
    by_cases c12:(ji10)≤(l0.length:Int)
    ·rw [if_pos c12] at H
     have c12b0:=eq_true c12;have c12b1:decide ((ji10)≤(l0.length:Int))=true:=decide_eq_true c12;clear c12;obtain ⟨y428,hy428⟩:∃ y_:List Int,y_=(l0.drop ((ji10):Int).toNat):=⟨_,rfl⟩
     replace H:((slices_Clone_int_int.f y428).bind fun t433=>((some (l0.take ((ji10):Int).toNat:List Int)).bind fun y436=>(if t433.length+y436.length<17592186044416 then ((mobs_number_int.f (t433 ++ y436)).bind fun t444=>(some (t444,0))) else (none))))=some (r1,r2):=by first|(rw [hy428];with_reducible exact H)|(have H2_:=(Option.bind_some _ _).symm.trans H;rw [hy428];with_reducible exact H2_)|(have H2_:=(Option.bind_some _ _).symm.trans H;with_reducible exact H2_)|with_reducible exact H|(rw [hy428];exact H)|exact H
     have Ny428:=As0.mk hy428;clear hy428;replace H:=Option.bind_eq_some_iff.mp H;obtain ⟨t433,A130,H⟩:=H;replace H:((some (l0.take ((ji10):Int).toNat:List Int)).bind fun y436=>(if t433.length+y436.length<17592186044416 then ((mobs_number_int.f (t433 ++ y436)).bind fun t444=>(some (t444,0))) else (none)))=some (r1,r2):=H;have A13:=As0.mk A130;clear A130;have c14b0:=eq_true (of_decide_eq_true (by first|(with_reducible assumption)|assumption):0≤(ji10));have c15b0:=eq_true (of_decide_eq_true (by first|(with_reducible assumption)|assumption):(ji10)≤(l0.length:Int));obtain ⟨y436,hy436⟩:∃ y_:List Int,y_=(l0.take ((ji10):Int).toNat):=⟨_,rfl⟩
     replace H:(if t433.length+y436.length<17592186044416 then ((mobs_number_int.f (t433 ++ y436)).bind fun t444=>(some (t444,0))) else (none))=some (r1,r2):=by first|(rw [hy436];with_reducible exact H)|(have H2_:=(Option.bind_some _ _).symm.trans H;rw [hy436];with_reducible exact H2_)|(have H2_:=(Option.bind_some _ _).symm.trans H;with_reducible exact H2_)|with_reducible exact H|(rw [hy436];exact H)|exact H
     have Ny436:=As0.mk hy436;clear hy436
     by_cases c16:t433.length+y436.length<17592186044416
     ·rw [if_pos c16] at H
      have LMc16:=As0.mk c16;clear c16;obtain ⟨y441,hy441⟩:∃ y_:List Int,y_=(t433 ++ y436):=⟨_,rfl⟩
      replace H:((mobs_number_int.f y441).bind fun t444=>(some (t444,0)))=some (r1,r2):=by first|(rw [hy441];with_reducible exact H)|(have H2_:=(Option.bind_some _ _).symm.trans H;rw [hy441];with_reducible exact H2_)|(have H2_:=(Option.bind_some _ _).symm.trans H;with_reducible exact H2_)|with_reducible exact H|(rw [hy441];exact H)|exact H
      have Ny441:=As0.mk hy441;clear hy441;replace H:=Option.bind_eq_some_iff.mp H;obtain ⟨t444,A170,H⟩:=H;replace H:(some (t444,0))=some (r1,r2):=H;have A17:=As0.mk A170;clear A170;simp only [Option.some.injEq,Prod.mk.injEq] at H;obtain ⟨rfl,rfl⟩:=H;go_enter Tra.func28,Tra.ntmps28
      try go_wp2_with (first|((with_reducible refine y0n (N:=9) rfl ?_);refine Kd.N_lit (Kd.slice 3 (Kd.int .i64)) _ 29 ?hg (N':=9) ?hd (xs:=([l0]:List (List Int))) (inner:=[.slice A0 l0.length c0]) (ok:=(fun k_=>(P0_ k_∨w.heap.size≤k_))) (okp:=(fun k_=>(P0_ k_∨w.heap.size≤k_))) ?hr ?hp (fun _ hk=>hk) ((show ∀ k_,w.heap.size≤k_->(fun k_=>(P0_ k_∨w.heap.size≤k_)) k_ from fun k_ hk=>(.inr (Nat.le_trans (y05 (by repeat (first|(with_reducible first|exact HB.out|apply y01|apply y00|apply y02)|exact HB.out))) hk))) _ (Nat.le_refl _)) (Below.refl _ _) (Nat.le_refl _) (by simp) ?_;(case hd=>rfl);(case hg=>rfl);(case hr=>first|(go_simp;done)|(go_simp;rfl));(case hp=>exact (Reps.one (show Kd.FK (Kd.slice 3 (Kd.int .i64)) _ _ l0 [.slice A0 l0.length c0] from (Kd.FK_slice_mk (Kd.V_reads' (Kd.V_mono (ok':=(fun k_=>(P0_ k_∨w.heap.size≤k_))) (HO0.out) (fun k_ hk=>hk))).2.1 (Kd.V_F (Kd.V_mono (ok':=(fun k_=>(P0_ k_∨w.heap.size≤k_))) (HO0.out) (fun k_ hk=>hk))))) (Reps.none _ _)));intro v425 w18 ho19 hb hg_ hnew_;clear hg_ hnew_;(first|rw [← Ny424.out] at ho19|(simp only [Int.reduceToNat] at ho19;rw [← Ny424.out] at ho19));have n0_:=As0.mk (Kd.V_elder' (by (with_reducible repeat (first|apply Kd.V_alloc|apply Kd.V_drewN|apply Kd.V_drew));exact HO0.out) (Kd.N_base ho19) hb);have n1_:=As0.mk (Kd.N_lower ho19 (y05 (by repeat (first|(with_reducible first|exact HB.out|apply y01|apply y00|apply y02)|exact HB.out))));have n2_:=As0.mk (y06 (by repeat (first|(with_reducible first|exact HB.out|apply y01|apply y00|apply y02)|exact HB.out)) hb);clear HO0;clear HB;have HO0:=n0_;have HO426:=n1_;have HB:=n2_;clear n0_ n1_ n2_;clear hb ho19;obtain ⟨Ao20,co20,eo20⟩:=Kd.N_slice HO426.out;subst eo20)|((with_reducible refine y08 (f:=49) rfl ?_);refine y0l (some 10) rfl rfl Tra.func49 (by kernel_rfl) rfl #[.slice Ao20 y424.length co20] rfl (by (try simp only [List.map_toArray,List.map_cons,List.map_nil]);first|done|rfl|(simp only [List.length_drop,List.length_take];rfl)) ?_;(with_reducible refine (mobs_read.calls k _ _ y424 t427 _ ?side1 ?side2 A3.out).mono ?_);(case side1=>repeat (first|exact (Kd.N_reads' HO426.out).2.2|(with_reducible refine Kd.C_alloc ?_ _)|(with_reducible refine Kd.C_drewN ?_ _)|(with_reducible refine Kd.C_drew ?_)));(case side2=>exact (Kd.N_reads' HO426.out).2.1);rintro e w21 ⟨rfl,hb⟩;refine ⟨_,rfl,?_⟩;have n0_:=As0.mk (Kd.V_below (by (with_reducible repeat (first|apply Kd.V_alloc|apply Kd.V_drewN|apply Kd.V_drew));exact HO0.out) hb);have n1_:=As0.mk (Kd.N_below (by (with_reducible repeat (first|apply Kd.N_alloc|apply Kd.N_drewN|apply Kd.N_drew));exact HO426.out) hb);have n2_:=As0.mk (y06 (by repeat (first|(with_reducible first|exact HB.out|apply y01|apply y00|apply y02)|exact HB.out)) hb);clear HO0;clear HO426;clear HB;have HO0:=n0_;have HO426:=n1_;have HB:=n2_;clear n0_ n1_ n2_;(try clear hb);(try clear hb2);(try clear hk);(try clear hi)))
      have n0_:=As0.mk (Kd.V_drew HO0.out);have n1_:=As0.mk (Kd.N_drew HO426.out);have n2_:=As0.mk (y02 HB.out);clear HO0;clear HO426;clear HB;have HO0:=n0_;have HO426:=n1_;have HB:=n2_;clear n0_ n1_ n2_;have q23:((ji10):Int)≤((l0.length:Int):Int):=of_decide_eq_true (by first|(with_reducible assumption)|assumption);obtain ⟨i023,hi023,_,hsz23,_⟩:=info_parts info3;have hroom23:l0.length≤c0:=(Kd.V_reads' HO0.out).2.1;have hC23:Kd.F (Kd.int .i64) _ _ A0 l0.length l0:=(Kd.V_at (base:=w.heap.size) HO0.out).2.2;have q023:(0:Int)≤((ji10):Int):=of_decide_eq_true (by first|(with_reducible assumption)|assumption);have hcut23:=cut_from (P:=Tra.prog) 29 3 .i64 Tra.underlying29 hi023 1 hsz23 A0 l0.length c0 (ji10) q023 q23;have hr23:=Kd.F_cut (m:=((ji10):Int).toNat) (c:=c0) hC23 (by omega) hroom23;obtain ⟨A23,hA23⟩:∃ A1,A1=(if c0=((ji10):Int).toNat then A0 else (A0:Option Addr).map (·.add (((ji10):Int).toNat * 1))):=⟨_,rfl⟩
      obtain ⟨c23,hc23⟩:∃ c1,c1=c0 - ((ji10):Int).toNat:=⟨_,rfl⟩
      have hy23:y428.length=l0.length - ((ji10):Int).toNat:=(by rw [Ny428.out,List.length_drop]<;>omega)
      rw [show (l0).drop ((ji10):Int).toNat=y428 from Ny428.out.symm] at hr23;replace hr23:Kd.F (Kd.int .i64) _ _ A23 y428.length y428:=(by rw [hA23];exact hr23)
      rw [← hy23,← hA23,← hc23] at hcut23;have HO432:=As0.mk (show Kd.V (Kd.int .i64) 3 _ w.heap.size _ (.slice A23 y428.length c23) y428 from Kd.V_mk (by rw [hy23,hc23];exact Nat.sub_le_sub_right hroom23 _) hr23);have HC432:=As0.mk (show y428.length≤c23 from by rw [hy23,hc23];exact Nat.sub_le_sub_right hroom23 _);clear hr23 hC23 hroom23 hi023 hsz23 hc23;have KY23:=As0.mk hy23;have KA23:=As0.mk hA23;clear hy23 hA23;replace q23:=eq_true q23;have q24:((ji10):Int)≤((l0.length:Int):Int):=of_decide_eq_true (by first|(with_reducible assumption)|assumption);obtain ⟨i024,hi024,_,hsz24,_⟩:=info_parts info3;have hroom24:l0.length≤c0:=(Kd.V_reads' HO0.out).2.1;have hC24:Kd.F (Kd.int .i64) _ _ A0 l0.length l0:=(Kd.V_at (base:=w.heap.size) HO0.out).2.2;have hcut24:=cut_to (P:=Tra.prog) 29 3 .i64 Tra.underlying29 hi024 A0 l0.length c0 (ji10) (of_decide_eq_true (by first|(with_reducible assumption)|assumption)) q24 hroom24;have hr24:=Kd.F_take (m:=((ji10):Int).toNat) hC24 (by omega);have hy24:y436.length=((ji10):Int).toNat:=(by rw [Ny436.out,List.length_take];omega)
      rw [← Ny436.out] at hr24;rw [← hy24] at hcut24;have HO440:=As0.mk (show Kd.V (Kd.int .i64) 3 _ w.heap.size _ (.slice A0 y436.length c0) y436 from Kd.V_mk (by omega) hr24);have HC440:=As0.mk (show y436.length≤c0 from by omega);clear hr24 hC24 hroom24 hi024 hsz24;have KY24:=As0.mk hy24;clear hy24;replace q24:=eq_true q24;refine start_ (n:=11) (S:=fun w'=>True) (ds:=[]) #[false,false,false,false,false,false,false,false,false,false,false] (by kernel_rfl) rfl rfl trivial (fun hHeld=>?_);refine with_tabW mobs_Around.tab7 mobs_Around.bits7 (fun HT_ HW_=>?_);generalize w21.drew=w22 at HO0 HO426 HB HO432 HO440 hHeld ⊢;refine pure_ (i:=0) (N:=some 27) (v:=?_) (a':=?_) #[true,false,false,false,false,false,false,false,false,false,false] rfl rfl (y0v HT_.out (by kernel_rfl)) (fun _ _ _ h=>h) (Or.inl ⟨by rfl,?_⟩) ?_ ?_;rotate_left
      ·intro w'
       go_simp
       with_reducible rfl
      rotate_left
      ·simp only [Act.put,List.setIfInBounds_toArray,List.set_cons_zero,List.set_cons_succ,i64_w,i32_w]
       rfl
      refine pure_ (i:=1) (N:=some 28) (v:=?_) (a':=?_) #[true,true,false,false,false,false,false,false,false,false,false] rfl rfl (y0v HT_.out (by kernel_rfl)) (fun _ _ _ h=>h) (Or.inl ⟨by rfl,?_⟩) ?_ ?_;rotate_left
      ·intro w'
       go_simp
       with_reducible rfl
      rotate_left
      ·simp only [Act.put,List.setIfInBounds_toArray,List.set_cons_zero,List.set_cons_succ,i64_w,i32_w]
       rfl
      refine pure_ (i:=2) (N:=some 29) (v:=?_) (a':=?_) #[true,true,true,false,false,false,false,false,false,false,false] rfl rfl (y0v HT_.out (by kernel_rfl)) (fun _ _ _ h=>h) (Or.inl ⟨by rfl,?_⟩) ?_ ?_;rotate_left
      ·intro w'
       go_simp
       with_reducible rfl
      rotate_left
      ·simp only [Act.put,List.setIfInBounds_toArray,List.set_cons_zero,List.set_cons_succ,i64_w,i32_w]
       rfl
      refine pure_ (i:=4) (N:=some 31) (v:=?_) (a':=?_) #[true,true,true,false,true,false,false,false,false,false,false] rfl rfl (y0v HT_.out (by kernel_rfl)) (fun _ _ _ h=>h) (Or.inl ⟨by rfl,?_⟩) ?_ ?_;rotate_left
      ·intro w'
       go_simp
       with_reducible rfl
      rotate_left
      ·simp only [Act.put,List.setIfInBounds_toArray,List.set_cons_zero,List.set_cons_succ,i64_w,i32_w]
       rfl
      refine pure_ (i:=5) (N:=some 32) (v:=?_) (a':=?_) #[true,true,true,false,true,true,false,false,false,false,false] rfl rfl (y0v HT_.out (by kernel_rfl)) (fun _ _ _ h=>h) (Or.inl ⟨by rfl,?_⟩) ?_ ?_;rotate_left
      ·intro w'
       go_simp
       with_reducible rfl
      rotate_left
      ·simp only [Act.put,List.setIfInBounds_toArray,List.set_cons_zero,List.set_cons_succ,i64_w,i32_w]
       rfl
      refine pure_ (i:=6) (N:=some 33) (v:=?_) (a':=?_) #[true,true,true,false,true,true,true,false,false,false,false] rfl rfl (y0v HT_.out (by kernel_rfl)) (fun _ _ _ h=>h) (Or.inl ⟨by rfl,?_⟩) ?_ ?_;rotate_left
      ·intro w'
       go_simp
       with_reducible rfl
      rotate_left
      ·simp only [Act.put,List.setIfInBounds_toArray,List.set_cons_zero,List.set_cons_succ,i64_w,i32_w]
       rfl
      refine one_ (i:=3) (N:=some 30) #[true,true,true,true,true,true,true,false,false,false,false] rfl rfl (one_of HT_.out (by kernel_rfl)) (by decide) (fun K hK=>?_);refine goes_ Tra.func56 (by kernel_rfl) rfl #[.slice A23 y428.length c23] (by rfl) rfl rfl (by (try simp only [List.map_toArray,List.map_cons,List.map_nil]);first|done|rfl|(simp only [List.length_drop,List.length_take];rfl)) ?_
      with_reducible refine (slices_Clone_int_int.calls _ _ y428 t433 _ ?side1 ?side2 A13.out).mono ?_
      (case side1=>repeat (first|exact (Kd.V_reads' HO432.out).2.2|(with_reducible refine Kd.C_alloc ?_ _)|(with_reducible refine Kd.C_drewN ?_ _)|(with_reducible refine Kd.C_drew ?_)))
      (case side2=>exact (Kd.V_reads' HO432.out).2.1)
      rintro e w25 ⟨v434,rfl,ho0,hb⟩
      refine ⟨_,rfl,?_⟩;have n0_:=As0.mk (Kd.V_elder' (by (with_reducible repeat (first|apply Kd.V_alloc|apply Kd.V_drewN|apply Kd.V_drew));exact HO0.out) (Kd.R_base ho0) hb);have n1_:=As0.mk (Kd.N_elder' (by (with_reducible repeat (first|apply Kd.N_alloc|apply Kd.N_drewN|apply Kd.N_drew));exact HO426.out) (Kd.R_base ho0) hb);have n2_:=As0.mk (Kd.V_elder' (by (with_reducible repeat (first|apply Kd.V_alloc|apply Kd.V_drewN|apply Kd.V_drew));exact HO432.out) (Kd.R_base ho0) hb);have n3_:=As0.mk (Kd.V_elder' (by (with_reducible repeat (first|apply Kd.V_alloc|apply Kd.V_drewN|apply Kd.V_drew));exact HO440.out) (Kd.R_base ho0) hb);have n4_:=As0.mk (Kd.R_lower (Kd.R_newM (M:=fun k_=>(w.heap.size≤k_)) ho0 (y05 (by repeat (first|(with_reducible first|exact HB.out|apply y01|apply y00|apply y02)|exact HB.out))) (fun k_ h_=>h_)) (y05 (by repeat (first|(with_reducible first|exact HB.out|apply y01|apply y00|apply y02)|exact HB.out))));have n5_:=As0.mk (y06 (by repeat (first|(with_reducible first|exact HB.out|apply y01|apply y00|apply y02)|exact HB.out)) hb);clear HO0;clear HO426;clear HO432;clear HO440;clear HB;have HO0:=n0_;have HO426:=n1_;have HO432:=n2_;have HO440:=n3_;have HO435:=n4_;have HB:=n5_;clear n0_ n1_ n2_ n3_ n4_ n5_
      (try clear hb)
      (try clear hb2)
      (try clear hk)
      (try clear hi)
      (try clear ho0)
      refine hK.out _ _ trivial (fun hHeld=>?_);clear hK K;refine norm_ (a':=?_) ?_ ?_;rotate_left
      ·show Act.put _ (some 30) _=_
       simp only [Act.put,List.setIfInBounds_toArray,List.set_cons_zero,List.set_cons_succ,i64_w,i32_w];rfl
      refine one_ (i:=7) (N:=some 34) #[true,true,true,true,true,true,true,true,false,false,false] rfl rfl (one_of HT_.out (by kernel_rfl)) (by decide) (fun K hK=>?_);refine Kd.R_append_rows_step (Kd.int .i64) (w0:=w) w.heap.size (by rfl) (.tmp 30) (.tmp 33) 29 3 (.int .i64 0) 8 rfl Tra.underlying29 info3 rfl (by decide) (by omega) v434 t433 y436 _ _ _ (fun k_=>(w.heap.size≤k_)) (fun _=>False) rfl rfl ?aO ?aR (fun _ _ h=>h) (fun _ h=>h.elim) ?aF ?aB ?aS ?aL ?_
      (case aR=>repeat (first|exact (Kd.V_reads' HO440.out).2.2|(with_reducible refine Kd.C_alloc ?_ _)|(with_reducible refine Kd.C_drewN ?_ _)|(with_reducible refine Kd.C_drew ?_)))
      (case aB=>exact (by repeat (first|(with_reducible first|exact HB.out|apply y01|apply y00|apply y02)|exact HB.out)))
      (case aF=>exact (fun k_ hk=>(Nat.le_trans (y05 (by repeat (first|(with_reducible first|exact HB.out|apply y01|apply y00|apply y02)|exact HB.out))) hk)))
      (case aO=>exact (by (with_reducible repeat (first|apply Kd.R_alloc|apply Kd.R_drewN|apply Kd.R_drew));exact Kd.R_mono HO435.out (fun _ hk=>hk.1)))
      (case aS=>exact (y05 (by repeat (first|(with_reducible first|exact HB.out|apply y01|apply y00|apply y02)|exact HB.out))))
      (case aL=>have:=LMc16.out;omega)
      intro v442 w26 ho hb hg hat;rw [← Ny441.out] at ho;have n0_:=As0.mk (Kd.V_afterv (ok:=(fun k_=>(P0_ k_∨w.heap.size≤k_)∧some k_≠(.slice Ao20 y424.length co20:Value).ownBlock)) (by (with_reducible repeat (first|apply Kd.V_alloc|apply Kd.V_drewN|apply Kd.V_drew));exact HO0.out) hg hat);have n1_:=As0.mk (Kd.N_afterv (ok:=(fun k_=>(P0_ k_∨w.heap.size≤k_))) (by (with_reducible repeat (first|apply Kd.N_alloc|apply Kd.N_drewN|apply Kd.N_drew));exact HO426.out) hg hat);have n2_:=As0.mk (Kd.V_afterv (ok:=(fun k_=>(P0_ k_∨w.heap.size≤k_)∧some k_≠(.slice Ao20 y424.length co20:Value).ownBlock)) (by (with_reducible repeat (first|apply Kd.V_alloc|apply Kd.V_drewN|apply Kd.V_drew));exact HO432.out) hg hat);have n3_:=As0.mk (Kd.V_afterv (ok:=(fun k_=>(P0_ k_∨w.heap.size≤k_)∧some k_≠(.slice Ao20 y424.length co20:Value).ownBlock)) (by (with_reducible repeat (first|apply Kd.V_alloc|apply Kd.V_drewN|apply Kd.V_drew));exact HO440.out) hg hat);have n4_:=As0.mk (hb);have n5_:=As0.mk (ho);clear HO0;clear HO426;clear HO432;clear HO440;clear HB;clear HO435;have HO0:=n0_;have HO426:=n1_;have HO432:=n2_;have HO440:=n3_;have HB:=n4_;have HO443:=n5_;clear n0_ n1_ n2_ n3_ n4_ n5_;clear ho hb hg hat;obtain ⟨Ao27,co27,eo27⟩:=Kd.R_slice HO443.out
      (first|subst eo27|(injection eo27 with f1_ f2_ f3_;have f4_:=f1_.symm;have f5_:=f3_.symm;clear f1_ f2_ f3_;subst f4_;subst f5_))
      refine hK.out _ _ trivial (fun hHeld=>?_);clear hK K;refine norm_ (a':=?_) ?_ ?_;rotate_left
      ·show Act.put _ (some 34) _=_
       simp only [Act.put,List.setIfInBounds_toArray,List.set_cons_zero,List.set_cons_succ,i64_w,i32_w];rfl
      refine one_ (i:=8) (N:=some 35) #[true,true,true,true,true,true,true,true,true,false,false] rfl rfl (one_of HT_.out (by kernel_rfl)) (by decide) (fun K hK=>?_);refine goes_ Tra.func54 (by kernel_rfl) rfl #[.slice Ao27 y441.length co27] (by rfl) rfl rfl (by (try simp only [List.map_toArray,List.map_cons,List.map_nil]);first|done|rfl|(simp only [List.length_drop,List.length_take];rfl)) ?_
      with_reducible refine (mobs_number_int.calls _ _ y441 t444 _ ?side1 ?side2 A17.out).mono ?_
      (case side1=>repeat (first|exact (Kd.R_reads' HO443.out).2.2|(with_reducible refine Kd.C_alloc ?_ _)|(with_reducible refine Kd.C_drewN ?_ _)|(with_reducible refine Kd.C_drew ?_)))
      (case side2=>exact (Kd.R_reads' HO443.out).2.1)
      rintro e w28 ⟨v445,rfl,ho0,hb⟩
      refine ⟨_,rfl,?_⟩;have n0_:=As0.mk (Kd.V_elder' (by (with_reducible repeat (first|apply Kd.V_alloc|apply Kd.V_drewN|apply Kd.V_drew));exact HO0.out) (Kd.R_base ho0) hb);have n1_:=As0.mk (Kd.N_elder' (by (with_reducible repeat (first|apply Kd.N_alloc|apply Kd.N_drewN|apply Kd.N_drew));exact HO426.out) (Kd.R_base ho0) hb);have n2_:=As0.mk (Kd.V_elder' (by (with_reducible repeat (first|apply Kd.V_alloc|apply Kd.V_drewN|apply Kd.V_drew));exact HO432.out) (Kd.R_base ho0) hb);have n3_:=As0.mk (Kd.V_elder' (by (with_reducible repeat (first|apply Kd.V_alloc|apply Kd.V_drewN|apply Kd.V_drew));exact HO440.out) (Kd.R_base ho0) hb);have n4_:=As0.mk (Kd.R_elder' (by (with_reducible repeat (first|apply Kd.R_alloc|apply Kd.R_drewN|apply Kd.R_drew));exact HO443.out) (Kd.R_base ho0) hb);have n5_:=As0.mk (Kd.R_lower (Kd.R_new' (Kd.R_newM (M:=fun k_=>(w.heap.size≤k_)) ho0 (y05 (by repeat (first|(with_reducible first|exact HB.out|apply y01|apply y00|apply y02)|exact HB.out))) (fun k_ h_=>h_)) (Kd.R_lt (by (with_reducible repeat (first|apply Kd.R_alloc|apply Kd.R_drewN|apply Kd.R_drew));exact HO443.out))) (y05 (by repeat (first|(with_reducible first|exact HB.out|apply y01|apply y00|apply y02)|exact HB.out))));have n6_:=As0.mk (y06 (by repeat (first|(with_reducible first|exact HB.out|apply y01|apply y00|apply y02)|exact HB.out)) hb);clear HO0;clear HO426;clear HO432;clear HO440;clear HO443;clear HB;have HO0:=n0_;have HO426:=n1_;have HO432:=n2_;have HO440:=n3_;have HO443:=n4_;have HO446:=n5_;have HB:=n6_;clear n0_ n1_ n2_ n3_ n4_ n5_ n6_
      (try clear hb)
      (try clear hb2)
      (try clear hk)
      (try clear hi)
      (try clear ho0)
      refine hK.out _ _ trivial (fun hHeld=>?_);clear hK K;refine norm_ (a':=?_) ?_ ?_;rotate_left
      ·show Act.put _ (some 35) _=_
       simp only [Act.put,List.setIfInBounds_toArray,List.set_cons_zero,List.set_cons_succ,i64_w,i32_w];rfl
      refine pure_ (i:=9) (N:=some 4) (v:=?_) (a':=?_) #[true,true,true,true,true,true,true,true,true,true,false] rfl rfl (y0v HT_.out (by kernel_rfl)) (fun _ _ _ h=>h) (Or.inl ⟨by rfl,?_⟩) ?_ ?_;rotate_left
      ·intro w'
       go_simp
       with_reducible rfl
      rotate_left
      ·simp only [Act.put,List.setIfInBounds_toArray,List.set_cons_zero,List.set_cons_succ,i64_w,i32_w]
       rfl
      refine pure_ (i:=10) (N:=some 5) (v:=?_) (a':=?_) #[true,true,true,true,true,true,true,true,true,true,true] rfl rfl (y0v HT_.out (by kernel_rfl)) (fun _ _ _ h=>h) (Or.inl ⟨by rfl,?_⟩) ?_ ?_;rotate_left
      ·intro w'
       go_simp
       with_reducible rfl
      rotate_left
      ·simp only [Act.put,List.setIfInBounds_toArray,List.set_cons_zero,List.set_cons_succ,i64_w,i32_w]
       rfl
      refine done_ (done_of HT_.out (by kernel_rfl)) ?_
      try go_wp2
      go_ret2
      exact ⟨_,by first|rfl|(simp [y0a,y09]<;>rfl)|(simp only [← hji10];first|rfl|(simp [y0a,y09]<;>rfl))|(simp [*,y0a,y09]<;>rfl),by (with_reducible repeat (first|apply Kd.R_alloc|apply Kd.R_drewN|apply Kd.R_drew));exact Kd.R_mono HO446.out (fun _ hk=>hk.1.1),by repeat (first|(with_reducible first|exact HB.out|apply y01|apply y00|apply y02)|exact HB.out)⟩
     ·rw [if_neg c16] at H
      exact absurd H (by simp)
    ·rw [if_neg c12] at H
     exact absurd H (by simp)
   ·rw [if_neg c11] at H
    exact absurd H (by simp)
 ·rw [if_neg c4] at H
  have c4b0:(t427 == 0)=false:=beq_eq_false_iff_ne.mpr c4;have c4b1:(t427 != 0)=true:=bne_iff_ne.mpr c4;simp only [Option.some.injEq,Prod.mk.injEq] at H;obtain ⟨rfl,rfl⟩:=H;go_enter Tra.func28,Tra.ntmps28
  go_wp2_with (first|((with_reducible refine y0n (N:=9) rfl ?_);refine Kd.N_lit (Kd.slice 3 (Kd.int .i64)) _ 29 ?hg (N':=9) ?hd (xs:=([l0]:List (List Int))) (inner:=[.slice A0 l0.length c0]) (ok:=(fun k_=>(P0_ k_∨w.heap.size≤k_))) (okp:=(fun k_=>(P0_ k_∨w.heap.size≤k_))) ?hr ?hp (fun _ hk=>hk) ((show ∀ k_,w.heap.size≤k_->(fun k_=>(P0_ k_∨w.heap.size≤k_)) k_ from fun k_ hk=>(.inr (Nat.le_trans (y05 (by repeat (first|(with_reducible first|exact HB.out|apply y01|apply y00|apply y02)|exact HB.out))) hk))) _ (Nat.le_refl _)) (Below.refl _ _) (Nat.le_refl _) (by simp) ?_;(case hd=>rfl);(case hg=>rfl);(case hr=>first|(go_simp;done)|(go_simp;rfl));(case hp=>exact (Reps.one (show Kd.FK (Kd.slice 3 (Kd.int .i64)) _ _ l0 [.slice A0 l0.length c0] from (Kd.FK_slice_mk (Kd.V_reads' (Kd.V_mono (ok':=(fun k_=>(P0_ k_∨w.heap.size≤k_))) (HO0.out) (fun k_ hk=>hk))).2.1 (Kd.V_F (Kd.V_mono (ok':=(fun k_=>(P0_ k_∨w.heap.size≤k_))) (HO0.out) (fun k_ hk=>hk))))) (Reps.none _ _)));intro v425 w29 ho30 hb hg_ hnew_;clear hg_ hnew_;(first|rw [← Ny424.out] at ho30|(simp only [Int.reduceToNat] at ho30;rw [← Ny424.out] at ho30));have n0_:=As0.mk (Kd.V_elder' (by (with_reducible repeat (first|apply Kd.V_alloc|apply Kd.V_drewN|apply Kd.V_drew));exact HO0.out) (Kd.N_base ho30) hb);have n1_:=As0.mk (Kd.N_lower ho30 (y05 (by repeat (first|(with_reducible first|exact HB.out|apply y01|apply y00|apply y02)|exact HB.out))));have n2_:=As0.mk (y06 (by repeat (first|(with_reducible first|exact HB.out|apply y01|apply y00|apply y02)|exact HB.out)) hb);clear HO0;clear HB;have HO0:=n0_;have HO426:=n1_;have HB:=n2_;clear n0_ n1_ n2_;clear hb ho30;obtain ⟨Ao31,co31,eo31⟩:=Kd.N_slice HO426.out;subst eo31)|((with_reducible refine y08 (f:=49) rfl ?_);refine y0l (some 10) rfl rfl Tra.func49 (by kernel_rfl) rfl #[.slice Ao31 y424.length co31] rfl (by (try simp only [List.map_toArray,List.map_cons,List.map_nil]);first|done|rfl|(simp only [List.length_drop,List.length_take];rfl)) ?_;(with_reducible refine (mobs_read.calls k _ _ y424 t427 _ ?side1 ?side2 A3.out).mono ?_);(case side1=>repeat (first|exact (Kd.N_reads' HO426.out).2.2|(with_reducible refine Kd.C_alloc ?_ _)|(with_reducible refine Kd.C_drewN ?_ _)|(with_reducible refine Kd.C_drew ?_)));(case side2=>exact (Kd.N_reads' HO426.out).2.1);rintro e w32 ⟨rfl,hb⟩;refine ⟨_,rfl,?_⟩;have n0_:=As0.mk (Kd.V_below (by (with_reducible repeat (first|apply Kd.V_alloc|apply Kd.V_drewN|apply Kd.V_drew));exact HO0.out) hb);have n1_:=As0.mk (Kd.N_below (by (with_reducible repeat (first|apply Kd.N_alloc|apply Kd.N_drewN|apply Kd.N_drew));exact HO426.out) hb);have n2_:=As0.mk (y06 (by repeat (first|(with_reducible first|exact HB.out|apply y01|apply y00|apply y02)|exact HB.out)) hb);clear HO0;clear HO426;clear HB;have HO0:=n0_;have HO426:=n1_;have HB:=n2_;clear n0_ n1_ n2_;(try clear hb);(try clear hb2);(try clear hk);(try clear hi)))
  go_ret2
  exact ⟨_,by first|rfl|(simp [y0a,y09]<;>rfl)|(simp [*,y0a,y09]<;>rfl),by first|exact Kd.R_nil _ _ _ _ _|exact Kd.N_nil _ _ _ _ _|exact Kd.V_nil _ _ _ _ _|exact Kd.Q_nil _ _ _ _ _|exact Kd.S_nil _ _ _ _ _,by repeat (first|(with_reducible first|exact HB.out|apply y01|apply y00|apply y02)|exact HB.out)⟩
end Go.Proofs.Ytdhgeondbnpeoaa.P
namespace Go.Proofs.Ytdhgeondbnpeoaa.P
open Go.RowKit Go.Proofs.YtdhgeondbnpeoaaW.PrintWords Go.Proofs.YtdhgeondbnpeoaaW.PrintLast Go.Proofs.YtdhgeondbnpeoaaW.PrintMore
attribute [local go_sem] y0z y0x max_two min_two y0t y0s y0y y0w
mutual
def w6_MobsAround.j0:Nat->List Int->Int->Bool->Option (Bool)
 |0,_,_,_=>none
 |k+1,x0,x1,x23=>if x23=true then ((w6_alive.f).bind fun t542=>(some t542)) else ((mobs_Around.f k x0 x1).bind fun bt543=>(if bt543.2=0 then ((r6_IsParting.f k bt543.1).bind fun t547=>(if t547=true then (if (bt543.1.length:Int)=(x0.length:Int) then ((r6_Many.f k bt543.1).bind fun t548=>((r6_Many.f k x0).bind fun t549=>(w6_MobsAround.j1 k x0 x1 bt543.1 (t548 != t549)))) else (w6_MobsAround.j1 k x0 x1 bt543.1 true)) else (w6_MobsAround.j1 k x0 x1 bt543.1 true))) else (w6_MobsAround.j1 k x0 x1 bt543.1 true)))
def w6_MobsAround.j1:Nat->List Int->Int->List Int->Bool->Option (Bool)
 |0,_,_,_,_=>none
 |k+1,x0,x1,x5,x51=>if x51=true then (some false) else ((mobs_Crossed.f k x0).bind fun bt550=>((mobs_Crossed.f k x5).bind fun bt557=>(if bt550.2.2.2.2.2=0 then (if bt557.2.2.2.2.2=0 then (w6_MobsAround.j2 k x0 x1 x5 bt550.2.2.2.2.1 (bt550.2.2.2.2.1 != bt557.2.2.2.2.1)) else (w6_MobsAround.j2 k x0 x1 x5 bt550.2.2.2.2.1 true)) else (w6_MobsAround.j2 k x0 x1 x5 bt550.2.2.2.2.1 true))))
def w6_MobsAround.j2:Nat->List Int->Int->List Int->Bool->Bool->Option (Bool)
 |0,_,_,_,_,_=>none
 |k+1,x0,x1,x5,x8,x74=>if x74=true then (some false) else ((mobs_Between.f k x0).bind fun bt564=>((mobs_Between.f k x5).bind fun bt568=>(if x8=true then (if bt564.2=9 then (if bt568.2=9 then ((w6_alive.f).bind fun t572=>(some t572)) else (some false)) else (some false)) else ((mobs_Around.f k bt564.1 x1).bind fun bt573=>(if bt564.2=0 then (if bt568.2=0 then (if bt573.2=0 then ((w6_same.f k bt568.1 bt573.1).bind fun t577=>(if t577=true then ((w6_alive.f).bind fun t578=>(some t578)) else (some false))) else (some false)) else (some false)) else (some false))))))
end
def w6_MobsAround.f (k:Nat) (l0:List Int) (a1:Int):Option (Bool):=(w6_few.f l0 ([]:List Int)).bind fun t540=>(if t540=true then ((r6_IsParting.f k l0).bind fun t541=>(w6_MobsAround.j0 k l0 a1 (!t541))) else (w6_MobsAround.j0 k l0 a1 true))
set_option maxHeartbeats 8000000 in
set_option maxRecDepth 100000 in
theorem w6_MobsAround.calls (k:Nat) (A0:Option Addr) (c0:Nat) (l0:List Int) (a1:Int) (r:Bool) (w:World) (hr0:Kd.C (Kd.int .i64) w A0 l0.length l0) (hc0:l0.length≤c0) (h:w6_MobsAround.f k l0 a1=some r) :
  Calls Tra.prog 7 #[.slice A0 l0.length c0,.int .i64 a1] w fun e w'=>e=.returned (.bool r)∧Below w.heap.size w w':=by
 have hu31:=Tra.underlying31;have HR0:=As0.mk hr0;have HC0:=As0.mk hc0;clear hr0 hc0;have HB:=As0.mk (Below.refl w.heap.size w);have H:((w6_few.f l0 ([]:List Int)).bind fun t540=>(if t540=true then ((r6_IsParting.f k l0).bind fun t541=>(w6_MobsAround.j0 k l0 a1 (!t541))) else (w6_MobsAround.j0 k l0 a1 true)))=some r:=h;clear h;have HC3:=As0.mk H;clear H;go_enter Tra.func7,Tra.ntmps7
 go_upto_region 1 with (fail)
 go_cut [23] (fun v23 wc=>∃ (kq:Nat) (x23_2:Bool),v23=.bool x23_2∧As0 (w6_MobsAround.j0 kq l0 a1 x23_2=some r)∧As0 (kq≤k)∧As0 (Below w.heap.size w wc))
 case first =>
  have H:=HC3.out;clear HC3;replace H:=Option.bind_eq_some_iff.mp H;obtain ⟨t540,A40,H⟩:=H;replace H:(if t540=true then ((r6_IsParting.f k l0).bind fun t541=>(w6_MobsAround.j0 k l0 a1 (!t541))) else (w6_MobsAround.j0 k l0 a1 true))=some r:=H;have A4:=As0.mk A40;clear A40
  by_cases c5:t540=true
  ·subst c5
   have H1:((r6_IsParting.f k l0).bind fun t541=>(w6_MobsAround.j0 k l0 a1 (!t541)))=some r:=by rw [if_pos rfl] at H;exact H
   clear H;have H:=H1;clear H1;replace H:=Option.bind_eq_some_iff.mp H;obtain ⟨t541,A60,H⟩:=H;replace H:(w6_MobsAround.j0 k l0 a1 (!t541))=some r:=H;have A6:=As0.mk A60;clear A60;have H':=As0.mk H;clear H;go_wp2_with (first|((with_reducible refine y08 (f:=22) rfl ?_);refine y0l (some 17) rfl rfl Tra.func22 (by kernel_rfl) rfl #[.slice A0 l0.length c0,.slice none 0 0] rfl (by (try simp only [List.map_toArray,List.map_cons,List.map_nil]);first|done|rfl|(simp only [List.length_drop,List.length_take];rfl)) ?_;(refine (w6_few.calls _ _ l0 _ _ ([]:List Int) true _ ?side1 ?side2 ?side3 ?side4 A4.out).mono ?_);(case side1=>repeat (first|exact (Kd.C_below HR0.out HB.out)|(with_reducible refine Kd.C_alloc ?_ _)|(with_reducible refine Kd.C_drewN ?_ _)|(with_reducible refine Kd.C_drew ?_)));(case side2=>exact HC0.out);(case side3=>exact Kd.C_nil _ _);(case side4=>exact Nat.le_refl _);rintro e w' ⟨rfl,⟨nd,rfl⟩⟩;refine ⟨_,rfl,?_⟩)|(go_at_call 30;(with_reducible refine (r6_IsParting.calls k _ _ l0 t541 _ ?side1 ?side2 A6.out).mono ?_);(case side1=>repeat (first|exact (Kd.C_below HR0.out (by repeat (first|(with_reducible first|exact HB.out|apply y01|apply y00|apply y02)|exact HB.out)))|(with_reducible refine Kd.C_alloc ?_ _)|(with_reducible refine Kd.C_drewN ?_ _)|(with_reducible refine Kd.C_drew ?_)));(case side2=>exact HC0.out);rintro e w' ⟨rfl,⟨nd,rfl⟩⟩))
   go_meet
   case rel=>exact ⟨_,(!t541),(by first|rfl|(simp;done)|(simp [*];done)),H',⟨by first|omega|exact Nat.le_refl _⟩,⟨by repeat (first|(with_reducible first|exact HB.out|apply y01|apply y00|apply y02)|exact HB.out)⟩⟩
  ·replace c5:=Bool.eq_false_iff.mpr c5
   subst c5;have H1:(w6_MobsAround.j0 k l0 a1 true)=some r:=by rw [if_neg (show ¬ (false=true) by decide)] at H;exact H
   clear H;have H:=H1;clear H1;have H':=As0.mk H;clear H;go_wp2_with (first|((with_reducible refine y08 (f:=22) rfl ?_);refine y0l (some 17) rfl rfl Tra.func22 (by kernel_rfl) rfl #[.slice A0 l0.length c0,.slice none 0 0] rfl (by (try simp only [List.map_toArray,List.map_cons,List.map_nil]);first|done|rfl|(simp only [List.length_drop,List.length_take];rfl)) ?_;(refine (w6_few.calls _ _ l0 _ _ ([]:List Int) false _ ?side1 ?side2 ?side3 ?side4 A4.out).mono ?_);(case side1=>repeat (first|exact (Kd.C_below HR0.out HB.out)|(with_reducible refine Kd.C_alloc ?_ _)|(with_reducible refine Kd.C_drewN ?_ _)|(with_reducible refine Kd.C_drew ?_)));(case side2=>exact HC0.out);(case side3=>exact Kd.C_nil _ _);(case side4=>exact Nat.le_refl _);rintro e w' ⟨rfl,⟨nd,rfl⟩⟩;refine ⟨_,rfl,?_⟩))
   go_meet
   case rel=>exact ⟨_,(true),(by first|rfl|(simp;done)|(simp [*];done)),H',⟨by first|omega|exact Nat.le_refl _⟩,⟨by repeat (first|(with_reducible first|exact HB.out|apply y01|apply y00|apply y02)|exact HB.out)⟩⟩
 case rest =>
  clear HC3
  try clear c2
  try clear p2
  try clear c5
  obtain ⟨kq,x23_2,rfl,HA,HJ2,HB⟩:=hcut;cases kq with
  |zero=>exact absurd HA.out (by simp [w6_MobsAround.j0])
  |succ kj2 =>
   have H:=HA.out;clear HA;simp only [w6_MobsAround.j0] at H
   by_cases c7:x23_2=true
   ·subst c7
    have H1:((w6_alive.f).bind fun t542=>(some t542))=some r:=by rw [if_pos rfl] at H;exact H
    clear H;have H:=H1;clear H1;replace H:=Option.bind_eq_some_iff.mp H;obtain ⟨t542,A80,H⟩:=H;replace H:(some t542)=some r:=H;have A8:=As0.mk A80;clear A80;obtain rfl:=Option.some.inj H;go_wp2_with (first|((with_reducible refine y08 (f:=20) rfl ?_);refine y0l (some 24) rfl rfl Tra.func20 (by kernel_rfl) rfl #[] rfl (by (try simp only [List.map_toArray,List.map_cons,List.map_nil]);first|done|rfl|(simp only [List.length_drop,List.length_take];rfl)) ?_;(with_reducible refine (w6_alive.calls  t542 _ A8.out).mono ?_);rintro e w9 ⟨rfl,hb⟩;refine ⟨_,rfl,?_⟩;have n0_:=As0.mk (y06 (by repeat (first|(with_reducible first|exact HB.out|apply y01|apply y00|apply y02)|exact HB.out)) hb);clear HB;have HB:=n0_;clear n0_;(try clear hb);(try clear hb2);(try clear hk);(try clear hi)))
    go_ret
    exact ⟨by first|rfl|(simp [y0a,y09]<;>rfl)|(simp [*,y0a,y09]<;>rfl),by repeat (first|(with_reducible first|exact HB.out|apply y01|apply y00|apply y02)|exact HB.out)⟩
   ·replace c7:=Bool.eq_false_iff.mpr c7
    subst c7;have H1:((mobs_Around.f kj2 l0 a1).bind fun bt543=>(if bt543.2=0 then ((r6_IsParting.f kj2 bt543.1).bind fun t547=>(if t547=true then (if (bt543.1.length:Int)=(l0.length:Int) then ((r6_Many.f kj2 bt543.1).bind fun t548=>((r6_Many.f kj2 l0).bind fun t549=>(w6_MobsAround.j1 kj2 l0 a1 bt543.1 (t548 != t549)))) else (w6_MobsAround.j1 kj2 l0 a1 bt543.1 true)) else (w6_MobsAround.j1 kj2 l0 a1 bt543.1 true))) else (w6_MobsAround.j1 kj2 l0 a1 bt543.1 true)))=some r:=by rw [if_neg (show ¬ (false=true) by decide)] at H;exact H
    clear H;have H:=H1;clear H1;replace H:=Option.bind_eq_some_iff.mp H;obtain ⟨⟨t543,t546⟩,A100,H⟩:=H;replace H:(if t546=0 then ((r6_IsParting.f kj2 t543).bind fun t547=>(if t547=true then (if (t543.length:Int)=(l0.length:Int) then ((r6_Many.f kj2 t543).bind fun t548=>((r6_Many.f kj2 l0).bind fun t549=>(w6_MobsAround.j1 kj2 l0 a1 t543 (t548 != t549)))) else (w6_MobsAround.j1 kj2 l0 a1 t543 true)) else (w6_MobsAround.j1 kj2 l0 a1 t543 true))) else (w6_MobsAround.j1 kj2 l0 a1 t543 true))=some r:=H;have A10:=As0.mk A100;clear A100;have HC11:=As0.mk H;clear H;go_upto_region 4 with (first|((with_reducible refine y08 (f:=28) rfl ?_);refine y0l (some 28) rfl rfl Tra.func28 (by kernel_rfl) rfl #[.slice A0 l0.length c0,.int .i64 a1] rfl (by (try simp only [List.map_toArray,List.map_cons,List.map_nil]);first|done|rfl|(simp only [List.length_drop,List.length_take];rfl)) ?_;(with_reducible refine (mobs_Around.calls kj2 (fun k_=>k_<w.heap.size) _ _ l0 a1 t543 t546 _ ?side1 A10.out).mono ?_);(case side1=>exact Kd.V_mk HC0.out (Kd.F_below (Kd.C_F (Kd.heap_int .i64) HR0.out) (by repeat (first|(with_reducible first|exact HB.out|apply y01|apply y00|apply y02)|exact HB.out))));rintro e w12 ⟨v544,rfl,ho0,hb⟩;refine ⟨_,rfl,?_⟩;have n0_:=As0.mk (Kd.R_lower (Kd.R_mono (ok':=fun k_=>True) ho0 (fun _ hk_=>trivial)) (y05 (by repeat (first|(with_reducible first|exact HB.out|apply y01|apply y00|apply y02)|exact HB.out))));have n1_:=As0.mk (y06 (by repeat (first|(with_reducible first|exact HB.out|apply y01|apply y00|apply y02)|exact HB.out)) hb);clear HB;have HO545:=n0_;have HB:=n1_;clear n0_ n1_;(try clear hb);(try clear hb2);(try clear hk);(try clear hi);(try clear ho0)))
    (try simp only [Act.put,List.setIfInBounds_toArray,List.set_cons_zero,List.set_cons_succ])
    go_cut [51] (fun v51 wc=>∃ (kq:Nat) (x51_10:Bool),v51=.bool x51_10∧As0 (w6_MobsAround.j1 kq l0 a1 t543 x51_10=some r)∧As0 (kq≤kj2)∧As0 (Kd.R (Kd.int .i64) 3 wc w.heap.size (fun _=>True) v544 t543)∧As0 (Below w.heap.size w wc))
    case first =>
     have H:=HC11.out;clear HC11
     by_cases c13:t546=0
     ·rw [if_pos c13] at H
      have c13b0:(t546 == 0)=true:=beq_iff_eq.mpr c13;have c13b1:(t546 != 0)=false:=bne_eq_false_iff_eq.mpr c13;clear c13
      (first|rw [c13b0]|(simp only [i64_w,i32_w];rw [c13b0])|skip)
      replace H:=Option.bind_eq_some_iff.mp H;obtain ⟨t547,A140,H⟩:=H;replace H:(if t547=true then (if (t543.length:Int)=(l0.length:Int) then ((r6_Many.f kj2 t543).bind fun t548=>((r6_Many.f kj2 l0).bind fun t549=>(w6_MobsAround.j1 kj2 l0 a1 t543 (t548 != t549)))) else (w6_MobsAround.j1 kj2 l0 a1 t543 true)) else (w6_MobsAround.j1 kj2 l0 a1 t543 true))=some r:=H;have A14:=As0.mk A140;clear A140
      by_cases c15:t547=true
      ·subst c15
       have H1:(if (t543.length:Int)=(l0.length:Int) then ((r6_Many.f kj2 t543).bind fun t548=>((r6_Many.f kj2 l0).bind fun t549=>(w6_MobsAround.j1 kj2 l0 a1 t543 (t548 != t549)))) else (w6_MobsAround.j1 kj2 l0 a1 t543 true))=some r:=by rw [if_pos rfl] at H;exact H
       clear H;have H:=H1;clear H1
       by_cases c16:(t543.length:Int)=(l0.length:Int)
       ·rw [if_pos c16] at H
        have c16b0:((t543.length:Int) == (l0.length:Int))=true:=beq_iff_eq.mpr c16;have c16b1:((t543.length:Int) != (l0.length:Int))=false:=bne_eq_false_iff_eq.mpr c16;have c16b2:(t543.length == l0.length)=true:=by first|simpa using c16|(simp at c16 ⊢;omega)
        clear c16;replace H:=Option.bind_eq_some_iff.mp H;obtain ⟨t548,A170,H⟩:=H;replace H:((r6_Many.f kj2 l0).bind fun t549=>(w6_MobsAround.j1 kj2 l0 a1 t543 (t548 != t549)))=some r:=H;have A17:=As0.mk A170;clear A170;replace H:=Option.bind_eq_some_iff.mp H;obtain ⟨t549,A180,H⟩:=H;replace H:(w6_MobsAround.j1 kj2 l0 a1 t543 (t548 != t549))=some r:=H;have A18:=As0.mk A180;clear A180;have H':=As0.mk H;clear H;obtain ⟨Ao19,co19,eo19⟩:=Kd.R_slice HO545.out;subst eo19;go_wp2_with (first|(go_at_call 30;(with_reducible refine (r6_IsParting.calls kj2 _ _ t543 true _ ?side1 ?side2 A14.out).mono ?_);(case side1=>repeat (first|exact (Kd.R_reads' HO545.out).2.2|(with_reducible refine Kd.C_alloc ?_ _)|(with_reducible refine Kd.C_drewN ?_ _)|(with_reducible refine Kd.C_drew ?_)));(case side2=>exact (Kd.R_reads' HO545.out).2.1);rintro e w' ⟨rfl,⟨nd,rfl⟩⟩)|(go_at_call 31;(with_reducible refine (r6_Many.calls kj2 _ _ t543 t548 _ ?side1 ?side2 A17.out).mono ?_);(case side1=>repeat (first|exact (Kd.R_reads' HO545.out).2.2|(with_reducible refine Kd.C_alloc ?_ _)|(with_reducible refine Kd.C_drewN ?_ _)|(with_reducible refine Kd.C_drew ?_)));(case side2=>exact (Kd.R_reads' HO545.out).2.1);rintro e w20 ⟨rfl,hb⟩;have n0_:=As0.mk (Kd.R_below (by (with_reducible repeat (first|apply Kd.R_alloc|apply Kd.R_drewN|apply Kd.R_drew));exact HO545.out) hb);have n1_:=As0.mk (y06 (by repeat (first|(with_reducible first|exact HB.out|apply y01|apply y00|apply y02)|exact HB.out)) hb);clear HO545;clear HB;have HO545:=n0_;have HB:=n1_;clear n0_ n1_;(try clear hb);(try clear hb2);(try clear hk);(try clear hi))|(go_at_call 31;(with_reducible refine (r6_Many.calls kj2 _ _ l0 t549 _ ?side1 ?side2 A18.out).mono ?_);(case side1=>repeat (first|exact (Kd.C_below HR0.out HB.out)|(with_reducible refine Kd.C_alloc ?_ _)|(with_reducible refine Kd.C_drewN ?_ _)|(with_reducible refine Kd.C_drew ?_)));(case side2=>exact HC0.out);rintro e w21 ⟨rfl,hb⟩;have n0_:=As0.mk (Kd.R_below (by (with_reducible repeat (first|apply Kd.R_alloc|apply Kd.R_drewN|apply Kd.R_drew));exact HO545.out) hb);have n1_:=As0.mk (y06 (by repeat (first|(with_reducible first|exact HB.out|apply y01|apply y00|apply y02)|exact HB.out)) hb);clear HO545;clear HB;have HO545:=n0_;have HB:=n1_;clear n0_ n1_;(try clear hb);(try clear hb2);(try clear hk);(try clear hi)))
        go_meet
        case rel=>exact ⟨_,((t548 != t549)),(by first|rfl|(simp;done)|(simp [*];done)),H',⟨by have:=HJ2.out;first|omega|exact Nat.le_refl _⟩,⟨by (with_reducible repeat (first|apply Kd.R_alloc|apply Kd.R_drewN|apply Kd.R_drew));exact HO545.out⟩,⟨by repeat (first|(with_reducible first|exact HB.out|apply y01|apply y00|apply y02)|exact HB.out)⟩⟩
       ·rw [if_neg c16] at H
        have c16b0:((t543.length:Int) == (l0.length:Int))=false:=beq_eq_false_iff_ne.mpr c16;have c16b1:((t543.length:Int) != (l0.length:Int))=true:=bne_iff_ne.mpr c16;have c16b2:(t543.length == l0.length)=false:=by first|simpa using c16|(simp at c16 ⊢;omega)
        have H':=As0.mk H;clear H;obtain ⟨Ao22,co22,eo22⟩:=Kd.R_slice HO545.out;subst eo22;go_wp2_with (first|(go_at_call 30;(with_reducible refine (r6_IsParting.calls kj2 _ _ t543 true _ ?side1 ?side2 A14.out).mono ?_);(case side1=>repeat (first|exact (Kd.R_reads' HO545.out).2.2|(with_reducible refine Kd.C_alloc ?_ _)|(with_reducible refine Kd.C_drewN ?_ _)|(with_reducible refine Kd.C_drew ?_)));(case side2=>exact (Kd.R_reads' HO545.out).2.1);rintro e w' ⟨rfl,⟨nd,rfl⟩⟩))
        go_meet
        case rel=>exact ⟨_,(true),(by first|rfl|(simp;done)|(simp [*];done)),H',⟨by have:=HJ2.out;first|omega|exact Nat.le_refl _⟩,⟨by (with_reducible repeat (first|apply Kd.R_alloc|apply Kd.R_drewN|apply Kd.R_drew));exact HO545.out⟩,⟨by repeat (first|(with_reducible first|exact HB.out|apply y01|apply y00|apply y02)|exact HB.out)⟩⟩
      ·replace c15:=Bool.eq_false_iff.mpr c15
       subst c15;have H1:(w6_MobsAround.j1 kj2 l0 a1 t543 true)=some r:=by rw [if_neg (show ¬ (false=true) by decide)] at H;exact H
       clear H;have H:=H1;clear H1;have H':=As0.mk H;clear H;obtain ⟨Ao23,co23,eo23⟩:=Kd.R_slice HO545.out;subst eo23;go_wp2_with (first|(go_at_call 30;(with_reducible refine (r6_IsParting.calls kj2 _ _ t543 false _ ?side1 ?side2 A14.out).mono ?_);(case side1=>repeat (first|exact (Kd.R_reads' HO545.out).2.2|(with_reducible refine Kd.C_alloc ?_ _)|(with_reducible refine Kd.C_drewN ?_ _)|(with_reducible refine Kd.C_drew ?_)));(case side2=>exact (Kd.R_reads' HO545.out).2.1);rintro e w' ⟨rfl,⟨nd,rfl⟩⟩))
       go_meet
       case rel=>exact ⟨_,(true),(by first|rfl|(simp;done)|(simp [*];done)),H',⟨by have:=HJ2.out;first|omega|exact Nat.le_refl _⟩,⟨by (with_reducible repeat (first|apply Kd.R_alloc|apply Kd.R_drewN|apply Kd.R_drew));exact HO545.out⟩,⟨by repeat (first|(with_reducible first|exact HB.out|apply y01|apply y00|apply y02)|exact HB.out)⟩⟩
     ·rw [if_neg c13] at H
      have c13b0:(t546 == 0)=false:=beq_eq_false_iff_ne.mpr c13;have c13b1:(t546 != 0)=true:=bne_iff_ne.mpr c13
      (first|rw [c13b0]|(simp only [i64_w,i32_w];rw [c13b0])|skip)
      have H':=As0.mk H;clear H;go_wp2
      go_meet
      case rel=>exact ⟨_,(true),(by first|rfl|(simp;done)|(simp [*];done)),H',⟨by have:=HJ2.out;first|omega|exact Nat.le_refl _⟩,⟨by (with_reducible repeat (first|apply Kd.R_alloc|apply Kd.R_drewN|apply Kd.R_drew));exact HO545.out⟩,⟨by repeat (first|(with_reducible first|exact HB.out|apply y01|apply y00|apply y02)|exact HB.out)⟩⟩
    case rest =>
     clear HC11
     try clear c1
     try clear c2
     try clear p2
     try clear c5
     try clear c7
     try clear c13
     try clear c13b0
     try clear c13b1
     try clear c15
     try clear c16
     try clear c16b0
     try clear c16b1
     try clear c16b2
     try clear c20
     try clear c22
     try clear p2
     obtain ⟨kq,x51_10,rfl,HA,HJ10,HO_5,HB⟩:=hcut;cases kq with
     |zero=>exact absurd HA.out (by simp [w6_MobsAround.j1])
     |succ kj10 =>
      have H:=HA.out;clear HA;simp only [w6_MobsAround.j1] at H
      by_cases c24:x51_10=true
      ·subst c24
       have H1:(some false)=some r:=by rw [if_pos rfl] at H;exact H
       clear H;have H:=H1;clear H1;obtain rfl:=Option.some.inj H;go_wp2
       go_ret
       exact ⟨by first|rfl|(simp [y0a,y09]<;>rfl)|(simp [*,y0a,y09]<;>rfl),by repeat (first|(with_reducible first|exact HB.out|apply y01|apply y00|apply y02)|exact HB.out)⟩
      ·replace c24:=Bool.eq_false_iff.mpr c24
       subst c24;have H1:((mobs_Crossed.f kj10 l0).bind fun bt550=>((mobs_Crossed.f kj10 t543).bind fun bt557=>(if bt550.2.2.2.2.2=0 then (if bt557.2.2.2.2.2=0 then (w6_MobsAround.j2 kj10 l0 a1 t543 bt550.2.2.2.2.1 (bt550.2.2.2.2.1 != bt557.2.2.2.2.1)) else (w6_MobsAround.j2 kj10 l0 a1 t543 bt550.2.2.2.2.1 true)) else (w6_MobsAround.j2 kj10 l0 a1 t543 bt550.2.2.2.2.1 true))))=some r:=by rw [if_neg (show ¬ (false=true) by decide)] at H;exact H
       clear H;have H:=H1;clear H1;replace H:=Option.bind_eq_some_iff.mp H;obtain ⟨⟨t550,t551,t552,t553,t554,t555⟩,A250,H⟩:=H;replace H:((mobs_Crossed.f kj10 t543).bind fun bt557=>(if t555=0 then (if bt557.2.2.2.2.2=0 then (w6_MobsAround.j2 kj10 l0 a1 t543 t554 (t554 != bt557.2.2.2.2.1)) else (w6_MobsAround.j2 kj10 l0 a1 t543 t554 true)) else (w6_MobsAround.j2 kj10 l0 a1 t543 t554 true)))=some r:=H;have A25:=As0.mk A250;clear A250;replace H:=Option.bind_eq_some_iff.mp H;obtain ⟨⟨t557,t558,t559,t560,t561,t562⟩,A260,H⟩:=H;replace H:(if t555=0 then (if t562=0 then (w6_MobsAround.j2 kj10 l0 a1 t543 t554 (t554 != t561)) else (w6_MobsAround.j2 kj10 l0 a1 t543 t554 true)) else (w6_MobsAround.j2 kj10 l0 a1 t543 t554 true))=some r:=H;have A26:=As0.mk A260;clear A260;have HC27:=As0.mk H;clear H;go_upto_region 8 with (first|((with_reducible refine y08 (f:=23) rfl ?_);refine y0l (some 54) rfl rfl Tra.func23 (by kernel_rfl) rfl #[.slice A0 l0.length c0] rfl (by (try simp only [List.map_toArray,List.map_cons,List.map_nil]);first|done|rfl|(simp only [List.length_drop,List.length_take];rfl)) ?_;(with_reducible refine (mobs_Crossed.calls kj10 (fun k_=>k_<w.heap.size) _ _ l0 t550 t551 t552 t553 t554 t555 _ ?side1 A25.out).mono ?_);(case side1=>exact Kd.V_mk HC0.out (Kd.F_below (Kd.C_F (Kd.heap_int .i64) HR0.out) (by repeat (first|(with_reducible first|exact HB.out|apply y01|apply y00|apply y02)|exact HB.out))));rintro e w28 ⟨rfl,hb⟩;refine ⟨_,rfl,?_⟩;have n0_:=As0.mk (Kd.R_below (by (with_reducible repeat (first|apply Kd.R_alloc|apply Kd.R_drewN|apply Kd.R_drew));exact HO_5.out) hb);have n1_:=As0.mk (y06 (by repeat (first|(with_reducible first|exact HB.out|apply y01|apply y00|apply y02)|exact HB.out)) hb);clear HO_5;clear HB;have HO_5:=n0_;have HB:=n1_;clear n0_ n1_;(try clear hb);(try clear hb2);(try clear hk);(try clear hi))|((with_reducible refine y0n (N:=7) rfl ?_);(try (refine gate_guard (by rfl) ?_;dsimp only));refine y15 ?hg (N:=7) ?hd (cs:=#[.int .i64 0,.int .i64 0,.int .i64 0,.int .i64 0]) (t:=31) ?hr ?_;(case hd=>rfl);(case hg=>rfl);(case hr=>first|(go_simp;done)|(go_simp;rfl));intro gb556 hg w29 hbox hb;have n0_:=As0.mk (Kd.R_below (by (with_reducible repeat (first|apply Kd.R_alloc|apply Kd.R_drewN|apply Kd.R_drew));exact HO_5.out) hb);have n1_:=As0.mk (y06 (by repeat (first|(with_reducible first|exact HB.out|apply y01|apply y00|apply y02)|exact HB.out)) hb);have n2_:=As0.mk (hbox);have n3_:=As0.mk ((by rw [hg];exact (y05 (by repeat (first|(with_reducible first|exact HB.out|apply y01|apply y00|apply y02)|exact HB.out))):w.heap.size≤gb556));have n4_:=As0.mk ((by rw [hg];exact (y05 (by repeat (first|(with_reducible first|exact HB.out|apply y01|apply y00|apply y02)|exact HB.out))):w.heap.size≤gb556));clear HO_5;clear HB;have HO_5:=n0_;have HB:=n1_;have BK556:=n2_;have GW556:=n3_;have GE556:=n4_;clear n0_ n1_ n2_ n3_ n4_;clear hb hbox hg;have hcz30_0:w29.cell? ⟨gb556,0,none⟩=some (.int .i64 0):=(y0g BK556.out 0).trans rfl;have hcz30_1:w29.cell? ⟨gb556,1,none⟩=some (.int .i64 0):=(y0g BK556.out 1).trans rfl;have hcz30_2:w29.cell? ⟨gb556,2,none⟩=some (.int .i64 0):=(y0g BK556.out 2).trans rfl;have hcz30_3:w29.cell? ⟨gb556,3,none⟩=some (.int .i64 0):=(y0g BK556.out 3).trans rfl;have hfz30_0:=y0f BK556.out 0;have hfz30_1:=y0f BK556.out 1;have hfz30_2:=y0f BK556.out 2;have hfz30_3:=y0f BK556.out 3)|((with_reducible refine gate_store (t:=31) (p:=7) rfl ?_);refine store_event (t:=31) (p:=7) (v:=?vo_w31) (w1:=((((w29.setCell ⟨gb556,0,none⟩ (.int .i64 t550)).setCell ⟨gb556,1,none⟩ (.int .i64 t551)).setCell ⟨gb556,2,none⟩ (.int .i64 t552)).setCell ⟨gb556,3,none⟩ (.int .i64 t553))) ?hg ?ho ?hn ?hr ?_;(case ho=>rfl);(case hg=>rfl);(case hn=>rfl);(case hr=>first|(go_simp;done)|(go_simp;rfl));intro w31 hw;have n0_:As0 (Kd.R (Kd.int .i64) 3 w31 w.heap.size (fun _=>True) v544 t543):=⟨(by rw [hw];exact (by (with_reducible repeat (first|apply Kd.R_alloc|apply Kd.R_drewN|apply Kd.R_drew));exact Kd.R_mono (Kd.R_far (p:=⟨gb556,3,none⟩) (Kd.R_far (p:=⟨gb556,2,none⟩) (Kd.R_far (p:=⟨gb556,1,none⟩) (Kd.R_far (p:=⟨gb556,0,none⟩) (Kd.R_types HO_5.out BK556.out (by decide)) (fun _ hk=>hk.2) (.int .i64 t550)) (fun _ hk=>hk.2) (.int .i64 t551)) (fun _ hk=>hk.2) (.int .i64 t552)) (fun _ hk=>hk.2) (.int .i64 t553)) (fun _ hk=>trivial)))⟩;have n1_:As0 (w31.heap[gb556]?=some (.cells #[.int .i64 t550,.int .i64 t551,.int .i64 t552,.int .i64 t553] 31 (0,0))):=⟨(by rw [hw];exact (by (with_reducible repeat (first|refine y04 ?_ _|refine blk_drew ?_|refine blk_alloc ?_ _));refine y0m (cs:=#[.int .i64 t550,.int .i64 t551,.int .i64 t552,.int .i64 0]) ?_ 3 _ rfl;(with_reducible repeat (first|refine y04 ?_ _|refine blk_drew ?_|refine blk_alloc ?_ _));refine y0m (cs:=#[.int .i64 t550,.int .i64 t551,.int .i64 0,.int .i64 0]) ?_ 2 _ rfl;(with_reducible repeat (first|refine y04 ?_ _|refine blk_drew ?_|refine blk_alloc ?_ _));refine y0m (cs:=#[.int .i64 t550,.int .i64 0,.int .i64 0,.int .i64 0]) ?_ 1 _ rfl;(with_reducible repeat (first|refine y04 ?_ _|refine blk_drew ?_|refine blk_alloc ?_ _));refine y0m (cs:=#[.int .i64 0,.int .i64 0,.int .i64 0,.int .i64 0]) ?_ 0 _ rfl;(with_reducible repeat (first|refine y04 ?_ _|refine blk_drew ?_|refine blk_alloc ?_ _));exact BK556.out))⟩;have n2_:As0 (Below w.heap.size w w31):=⟨(by rw [hw];exact (by repeat (first|(with_reducible first|exact HB.out|apply y01|apply y00|apply y02|refine y03 ?_ GE556.out)|exact HB.out)))⟩;clear hw;clear HO_5;clear BK556;clear HB;have HO_5:=n0_;have BK556:=n1_;have HB:=n2_;clear n0_ n1_ n2_;obtain ⟨Ao32,co32,eo32⟩:=Kd.R_slice HO_5.out;subst eo32)|((with_reducible refine y08 (f:=23) rfl ?_);refine y0l (some 60) rfl rfl Tra.func23 (by kernel_rfl) rfl #[.slice Ao32 t543.length co32] rfl (by (try simp only [List.map_toArray,List.map_cons,List.map_nil]);first|done|rfl|(simp only [List.length_drop,List.length_take];rfl)) ?_;(with_reducible refine (mobs_Crossed.calls kj10 (fun k_=>some k_=(.slice Ao32 t543.length co32:Value).ownBlock) _ _ t543 t557 t558 t559 t560 t561 t562 _ ?side1 A26.out).mono ?_);(case side1=>exact Kd.R_V (Kd.R_tight rfl (Kd.R_types (HO_5.out) BK556.out (by decide))));rintro e w33 ⟨rfl,hb⟩;refine ⟨_,rfl,?_⟩;have n0_:=As0.mk (Kd.R_below (by (with_reducible repeat (first|apply Kd.R_alloc|apply Kd.R_drewN|apply Kd.R_drew));exact HO_5.out) hb);have n1_:=As0.mk (y0d (g:=gb556) (o:=.cells #[.int .i64 t550,.int .i64 t551,.int .i64 t552,.int .i64 t553] 31 (0,0)) (by (with_reducible repeat (first|refine y04 ?_ _|refine blk_drew ?_|refine blk_alloc ?_ _));exact BK556.out) hb);have n2_:=As0.mk (y06 (by repeat (first|(with_reducible first|exact HB.out|apply y01|apply y00|apply y02|refine y03 ?_ GE556.out)|exact HB.out)) hb);clear HO_5;clear BK556;clear HB;have HO_5:=n0_;have BK556:=n1_;have HB:=n2_;clear n0_ n1_ n2_;(try clear hb);(try clear hb2);(try clear hk);(try clear hi))|((with_reducible refine y0n (N:=10) rfl ?_);(try (refine gate_guard (by rfl) ?_;dsimp only));refine y15 ?hg (N:=10) ?hd (cs:=#[.int .i64 0,.int .i64 0,.int .i64 0,.int .i64 0]) (t:=31) ?hr ?_;(case hd=>rfl);(case hg=>rfl);(case hr=>first|(go_simp;done)|(go_simp;rfl));intro gb563 hg w34 hbox hb;have n0_:=As0.mk (Kd.R_below (by (with_reducible repeat (first|apply Kd.R_alloc|apply Kd.R_drewN|apply Kd.R_drew));exact HO_5.out) hb);have n1_:=As0.mk (y0d (g:=gb556) (o:=.cells #[.int .i64 t550,.int .i64 t551,.int .i64 t552,.int .i64 t553] 31 (0,0)) (by (with_reducible repeat (first|refine y04 ?_ _|refine blk_drew ?_|refine blk_alloc ?_ _));exact BK556.out) hb);have n2_:=As0.mk (y06 (by repeat (first|(with_reducible first|exact HB.out|apply y01|apply y00|apply y02|refine y03 ?_ GE556.out)|exact HB.out)) hb);have n3_:=As0.mk (hbox);have n4_:=As0.mk ((by rw [hg];exact (y05 (by repeat (first|(with_reducible first|exact HB.out|apply y01|apply y00|apply y02|refine y03 ?_ GE556.out)|exact HB.out))):w.heap.size≤gb563));have n5_:=As0.mk ((by rw [hg];exact (y05 (by repeat (first|(with_reducible first|exact HB.out|apply y01|apply y00|apply y02|refine y03 ?_ GE556.out)|exact HB.out))):w.heap.size≤gb563));have n6_:=As0.mk ((by rw [hg];exact Nat.ne_of_lt (blk_lt (g:=gb556) (o:=.cells #[.int .i64 t550,.int .i64 t551,.int .i64 t552,.int .i64 t553] 31 (0,0)) (by (with_reducible repeat (first|refine y04 ?_ _|refine blk_drew ?_|refine blk_alloc ?_ _));exact BK556.out)):gb556≠gb563));have n7_:=As0.mk ((by rw [hg];exact Nat.ne_of_gt (blk_lt (g:=gb556) (o:=.cells #[.int .i64 t550,.int .i64 t551,.int .i64 t552,.int .i64 t553] 31 (0,0)) (by (with_reducible repeat (first|refine y04 ?_ _|refine blk_drew ?_|refine blk_alloc ?_ _));exact BK556.out)):gb563≠gb556));clear HO_5;clear BK556;clear HB;have HO_5:=n0_;have BK556:=n1_;have HB:=n2_;have BK563:=n3_;have GW563:=n4_;have GE563:=n5_;have NB556_563:=n6_;have NB563_556:=n7_;clear n0_ n1_ n2_ n3_ n4_ n5_ n6_ n7_;clear hb hbox hg;have hnb35:=NB563_556.out;have hnc35:=NB556_563.out;have hcz36_0:w34.cell? ⟨gb563,0,none⟩=some (.int .i64 0):=(y0g BK563.out 0).trans rfl;have hcz36_1:w34.cell? ⟨gb563,1,none⟩=some (.int .i64 0):=(y0g BK563.out 1).trans rfl;have hcz36_2:w34.cell? ⟨gb563,2,none⟩=some (.int .i64 0):=(y0g BK563.out 2).trans rfl;have hcz36_3:w34.cell? ⟨gb563,3,none⟩=some (.int .i64 0):=(y0g BK563.out 3).trans rfl;have hfz36_0:=y0f BK563.out 0;have hfz36_1:=y0f BK563.out 1;have hfz36_2:=y0f BK563.out 2;have hfz36_3:=y0f BK563.out 3))
       (try simp only [Act.put,List.setIfInBounds_toArray,List.set_cons_zero,List.set_cons_succ])
       go_cut [74] (fun v74 wc=>∃ (kq:Nat) (x74_26:Bool),v74=.bool x74_26∧As0 (w6_MobsAround.j2 kq l0 a1 t543 t554 x74_26=some r)∧As0 (kq≤kj10)∧As0 (Kd.R (Kd.int .i64) 3 wc w.heap.size (fun _=>True) (.slice Ao32 t543.length co32) t543)∧As0 (wc.heap[gb556]?=some (.cells #[.int .i64 t550,.int .i64 t551,.int .i64 t552,.int .i64 t553] 31 (0,0)))∧As0 (wc.heap[gb563]?=some (.cells #[.int .i64 t557,.int .i64 t558,.int .i64 t559,.int .i64 t560] 31 (0,0)))∧As0 (Below w.heap.size w wc))
       case first =>
        have H:=HC27.out;clear HC27
        by_cases c37:t555=0
        ·rw [if_pos c37] at H
         have c37b0:(t555 == 0)=true:=beq_iff_eq.mpr c37;have c37b1:(t555 != 0)=false:=bne_eq_false_iff_eq.mpr c37;clear c37
         (first|rw [c37b0]|(simp only [i64_w,i32_w];rw [c37b0])|skip)
         by_cases c38:t562=0
         ·rw [if_pos c38] at H
          have c38b0:(t562 == 0)=true:=beq_iff_eq.mpr c38;have c38b1:(t562 != 0)=false:=bne_eq_false_iff_eq.mpr c38;clear c38;have H':=As0.mk H;clear H;go_wp2
          go_meet
          case rel=>exact ⟨_,((t554 != t561)),(by first|rfl|(simp;done)|(simp [*];done)),H',⟨by have:=HJ2.out;have:=HJ10.out;first|omega|exact Nat.le_refl _⟩,⟨by (with_reducible repeat (first|apply Kd.R_alloc|apply Kd.R_drewN|apply Kd.R_drew));exact Kd.R_mono (Kd.R_far (p:=⟨gb563,3,none⟩) (Kd.R_far (p:=⟨gb563,2,none⟩) (Kd.R_far (p:=⟨gb563,1,none⟩) (Kd.R_far (p:=⟨gb563,0,none⟩) (Kd.R_types HO_5.out BK563.out (by decide)) (fun _ hk=>hk.2) (.int .i64 t557)) (fun _ hk=>hk.2) (.int .i64 t558)) (fun _ hk=>hk.2) (.int .i64 t559)) (fun _ hk=>hk.2) (.int .i64 t560)) (fun _ hk=>trivial)⟩,⟨by (with_reducible repeat (first|refine y04 ?_ _|refine blk_drew ?_|refine blk_alloc ?_ _));refine blk_far ?_ NB556_563.out _;(with_reducible repeat (first|refine y04 ?_ _|refine blk_drew ?_|refine blk_alloc ?_ _));refine blk_far ?_ NB556_563.out _;(with_reducible repeat (first|refine y04 ?_ _|refine blk_drew ?_|refine blk_alloc ?_ _));refine blk_far ?_ NB556_563.out _;(with_reducible repeat (first|refine y04 ?_ _|refine blk_drew ?_|refine blk_alloc ?_ _));refine blk_far ?_ NB556_563.out _;(with_reducible repeat (first|refine y04 ?_ _|refine blk_drew ?_|refine blk_alloc ?_ _));exact BK556.out⟩,⟨by (with_reducible repeat (first|refine y04 ?_ _|refine blk_drew ?_|refine blk_alloc ?_ _));refine y0m (cs:=#[.int .i64 t557,.int .i64 t558,.int .i64 t559,.int .i64 0]) ?_ 3 _ rfl;(with_reducible repeat (first|refine y04 ?_ _|refine blk_drew ?_|refine blk_alloc ?_ _));refine y0m (cs:=#[.int .i64 t557,.int .i64 t558,.int .i64 0,.int .i64 0]) ?_ 2 _ rfl;(with_reducible repeat (first|refine y04 ?_ _|refine blk_drew ?_|refine blk_alloc ?_ _));refine y0m (cs:=#[.int .i64 t557,.int .i64 0,.int .i64 0,.int .i64 0]) ?_ 1 _ rfl;(with_reducible repeat (first|refine y04 ?_ _|refine blk_drew ?_|refine blk_alloc ?_ _));refine y0m (cs:=#[.int .i64 0,.int .i64 0,.int .i64 0,.int .i64 0]) ?_ 0 _ rfl;(with_reducible repeat (first|refine y04 ?_ _|refine blk_drew ?_|refine blk_alloc ?_ _));exact BK563.out⟩,⟨by repeat (first|(with_reducible first|exact HB.out|apply y01|apply y00|apply y02|refine y03 ?_ GE556.out|refine y03 ?_ GE563.out)|exact HB.out)⟩⟩
         ·rw [if_neg c38] at H
          have c38b0:(t562 == 0)=false:=beq_eq_false_iff_ne.mpr c38;have c38b1:(t562 != 0)=true:=bne_iff_ne.mpr c38;have H':=As0.mk H;clear H;go_wp2
          go_meet
          case rel=>exact ⟨_,(true),(by first|rfl|(simp;done)|(simp [*];done)),H',⟨by have:=HJ2.out;have:=HJ10.out;first|omega|exact Nat.le_refl _⟩,⟨by (with_reducible repeat (first|apply Kd.R_alloc|apply Kd.R_drewN|apply Kd.R_drew));exact Kd.R_mono (Kd.R_far (p:=⟨gb563,3,none⟩) (Kd.R_far (p:=⟨gb563,2,none⟩) (Kd.R_far (p:=⟨gb563,1,none⟩) (Kd.R_far (p:=⟨gb563,0,none⟩) (Kd.R_types HO_5.out BK563.out (by decide)) (fun _ hk=>hk.2) (.int .i64 t557)) (fun _ hk=>hk.2) (.int .i64 t558)) (fun _ hk=>hk.2) (.int .i64 t559)) (fun _ hk=>hk.2) (.int .i64 t560)) (fun _ hk=>trivial)⟩,⟨by (with_reducible repeat (first|refine y04 ?_ _|refine blk_drew ?_|refine blk_alloc ?_ _));refine blk_far ?_ NB556_563.out _;(with_reducible repeat (first|refine y04 ?_ _|refine blk_drew ?_|refine blk_alloc ?_ _));refine blk_far ?_ NB556_563.out _;(with_reducible repeat (first|refine y04 ?_ _|refine blk_drew ?_|refine blk_alloc ?_ _));refine blk_far ?_ NB556_563.out _;(with_reducible repeat (first|refine y04 ?_ _|refine blk_drew ?_|refine blk_alloc ?_ _));refine blk_far ?_ NB556_563.out _;(with_reducible repeat (first|refine y04 ?_ _|refine blk_drew ?_|refine blk_alloc ?_ _));exact BK556.out⟩,⟨by (with_reducible repeat (first|refine y04 ?_ _|refine blk_drew ?_|refine blk_alloc ?_ _));refine y0m (cs:=#[.int .i64 t557,.int .i64 t558,.int .i64 t559,.int .i64 0]) ?_ 3 _ rfl;(with_reducible repeat (first|refine y04 ?_ _|refine blk_drew ?_|refine blk_alloc ?_ _));refine y0m (cs:=#[.int .i64 t557,.int .i64 t558,.int .i64 0,.int .i64 0]) ?_ 2 _ rfl;(with_reducible repeat (first|refine y04 ?_ _|refine blk_drew ?_|refine blk_alloc ?_ _));refine y0m (cs:=#[.int .i64 t557,.int .i64 0,.int .i64 0,.int .i64 0]) ?_ 1 _ rfl;(with_reducible repeat (first|refine y04 ?_ _|refine blk_drew ?_|refine blk_alloc ?_ _));refine y0m (cs:=#[.int .i64 0,.int .i64 0,.int .i64 0,.int .i64 0]) ?_ 0 _ rfl;(with_reducible repeat (first|refine y04 ?_ _|refine blk_drew ?_|refine blk_alloc ?_ _));exact BK563.out⟩,⟨by repeat (first|(with_reducible first|exact HB.out|apply y01|apply y00|apply y02|refine y03 ?_ GE556.out|refine y03 ?_ GE563.out)|exact HB.out)⟩⟩
        ·rw [if_neg c37] at H
         have c37b0:(t555 == 0)=false:=beq_eq_false_iff_ne.mpr c37;have c37b1:(t555 != 0)=true:=bne_iff_ne.mpr c37
         (first|rw [c37b0]|(simp only [i64_w,i32_w];rw [c37b0])|skip)
         have H':=As0.mk H;clear H;go_wp2
         go_meet
         case rel=>exact ⟨_,(true),(by first|rfl|(simp;done)|(simp [*];done)),H',⟨by have:=HJ2.out;have:=HJ10.out;first|omega|exact Nat.le_refl _⟩,⟨by (with_reducible repeat (first|apply Kd.R_alloc|apply Kd.R_drewN|apply Kd.R_drew));exact Kd.R_mono (Kd.R_far (p:=⟨gb563,3,none⟩) (Kd.R_far (p:=⟨gb563,2,none⟩) (Kd.R_far (p:=⟨gb563,1,none⟩) (Kd.R_far (p:=⟨gb563,0,none⟩) (Kd.R_types HO_5.out BK563.out (by decide)) (fun _ hk=>hk.2) (.int .i64 t557)) (fun _ hk=>hk.2) (.int .i64 t558)) (fun _ hk=>hk.2) (.int .i64 t559)) (fun _ hk=>hk.2) (.int .i64 t560)) (fun _ hk=>trivial)⟩,⟨by (with_reducible repeat (first|refine y04 ?_ _|refine blk_drew ?_|refine blk_alloc ?_ _));refine blk_far ?_ NB556_563.out _;(with_reducible repeat (first|refine y04 ?_ _|refine blk_drew ?_|refine blk_alloc ?_ _));refine blk_far ?_ NB556_563.out _;(with_reducible repeat (first|refine y04 ?_ _|refine blk_drew ?_|refine blk_alloc ?_ _));refine blk_far ?_ NB556_563.out _;(with_reducible repeat (first|refine y04 ?_ _|refine blk_drew ?_|refine blk_alloc ?_ _));refine blk_far ?_ NB556_563.out _;(with_reducible repeat (first|refine y04 ?_ _|refine blk_drew ?_|refine blk_alloc ?_ _));exact BK556.out⟩,⟨by (with_reducible repeat (first|refine y04 ?_ _|refine blk_drew ?_|refine blk_alloc ?_ _));refine y0m (cs:=#[.int .i64 t557,.int .i64 t558,.int .i64 t559,.int .i64 0]) ?_ 3 _ rfl;(with_reducible repeat (first|refine y04 ?_ _|refine blk_drew ?_|refine blk_alloc ?_ _));refine y0m (cs:=#[.int .i64 t557,.int .i64 t558,.int .i64 0,.int .i64 0]) ?_ 2 _ rfl;(with_reducible repeat (first|refine y04 ?_ _|refine blk_drew ?_|refine blk_alloc ?_ _));refine y0m (cs:=#[.int .i64 t557,.int .i64 0,.int .i64 0,.int .i64 0]) ?_ 1 _ rfl;(with_reducible repeat (first|refine y04 ?_ _|refine blk_drew ?_|refine blk_alloc ?_ _));refine y0m (cs:=#[.int .i64 0,.int .i64 0,.int .i64 0,.int .i64 0]) ?_ 0 _ rfl;(with_reducible repeat (first|refine y04 ?_ _|refine blk_drew ?_|refine blk_alloc ?_ _));exact BK563.out⟩,⟨by repeat (first|(with_reducible first|exact HB.out|apply y01|apply y00|apply y02|refine y03 ?_ GE556.out|refine y03 ?_ GE563.out)|exact HB.out)⟩⟩
       case rest =>
        clear HC27
        try clear c1
        try clear c2
        try clear p2
        try clear c3
        try clear c5
        try clear c7
        try clear c13
        try clear c13b0
        try clear c13b1
        try clear c15
        try clear c16
        try clear c16b0
        try clear c16b1
        try clear c16b2
        try clear c20
        try clear c22
        try clear c23
        try clear c24
        try clear c28
        try clear c35
        try clear c37
        try clear c37b0
        try clear c37b1
        try clear c38
        try clear c38b0
        try clear c38b1
        try clear hcz30_0
        try clear hcz30_1
        try clear hcz30_2
        try clear hcz30_3
        try clear hcz36_0
        try clear hcz36_1
        try clear hcz36_2
        try clear hcz36_3
        try clear hfz30_0
        try clear hfz30_1
        try clear hfz30_2
        try clear hfz30_3
        try clear hfz36_0
        try clear hfz36_1
        try clear hfz36_2
        try clear hfz36_3
        try clear p2
        obtain ⟨kq,x74_26,rfl,HA,HJ26,HO_5,BK556,BK563,HB⟩:=hcut;cases kq with
        |zero=>exact absurd HA.out (by simp [w6_MobsAround.j2])
        |succ kj26 =>
         have H:=HA.out;clear HA;simp only [w6_MobsAround.j2] at H
         by_cases c39:x74_26=true
         ·subst c39
          have H1:(some false)=some r:=by rw [if_pos rfl] at H;exact H
          clear H;have H:=H1;clear H1;obtain rfl:=Option.some.inj H;go_wp2
          go_ret
          exact ⟨by first|rfl|(simp [y0a,y09]<;>rfl)|(simp [*,y0a,y09]<;>rfl),by repeat (first|(with_reducible first|exact HB.out|apply y01|apply y00|apply y02|refine y03 ?_ GE556.out|refine y03 ?_ GE563.out)|exact HB.out)⟩
         ·replace c39:=Bool.eq_false_iff.mpr c39
          subst c39;have H1:((mobs_Between.f kj26 l0).bind fun bt564=>((mobs_Between.f kj26 t543).bind fun bt568=>(if t554=true then (if bt564.2=9 then (if bt568.2=9 then ((w6_alive.f).bind fun t572=>(some t572)) else (some false)) else (some false)) else ((mobs_Around.f kj26 bt564.1 a1).bind fun bt573=>(if bt564.2=0 then (if bt568.2=0 then (if bt573.2=0 then ((w6_same.f kj26 bt568.1 bt573.1).bind fun t577=>(if t577=true then ((w6_alive.f).bind fun t578=>(some t578)) else (some false))) else (some false)) else (some false)) else (some false))))))=some r:=by rw [if_neg (show ¬ (false=true) by decide)] at H;exact H
          clear H;have H:=H1;clear H1;replace H:=Option.bind_eq_some_iff.mp H;obtain ⟨⟨t564,t567⟩,A400,H⟩:=H;replace H:((mobs_Between.f kj26 t543).bind fun bt568=>(if t554=true then (if t567=9 then (if bt568.2=9 then ((w6_alive.f).bind fun t572=>(some t572)) else (some false)) else (some false)) else ((mobs_Around.f kj26 t564 a1).bind fun bt573=>(if t567=0 then (if bt568.2=0 then (if bt573.2=0 then ((w6_same.f kj26 bt568.1 bt573.1).bind fun t577=>(if t577=true then ((w6_alive.f).bind fun t578=>(some t578)) else (some false))) else (some false)) else (some false)) else (some false)))))=some r:=H;have A40:=As0.mk A400;clear A400;replace H:=Option.bind_eq_some_iff.mp H;obtain ⟨⟨t568,t571⟩,A410,H⟩:=H;replace H:(if t554=true then (if t567=9 then (if t571=9 then ((w6_alive.f).bind fun t572=>(some t572)) else (some false)) else (some false)) else ((mobs_Around.f kj26 t564 a1).bind fun bt573=>(if t567=0 then (if t571=0 then (if bt573.2=0 then ((w6_same.f kj26 t568 bt573.1).bind fun t577=>(if t577=true then ((w6_alive.f).bind fun t578=>(some t578)) else (some false))) else (some false)) else (some false)) else (some false))))=some r:=H;have A41:=As0.mk A410;clear A410
          by_cases c42:t554=true
          ·subst c42
           have H1:(if t567=9 then (if t571=9 then ((w6_alive.f).bind fun t572=>(some t572)) else (some false)) else (some false))=some r:=by rw [if_pos rfl] at H;exact H
           clear H;have H:=H1;clear H1
           by_cases c43:t567=9
           ·rw [if_pos c43] at H
            have c43b0:(t567 == 9)=true:=beq_iff_eq.mpr c43;have c43b1:(t567 != 9)=false:=bne_eq_false_iff_eq.mpr c43;clear c43
            by_cases c44:t571=9
            ·rw [if_pos c44] at H
             have c44b0:(t571 == 9)=true:=beq_iff_eq.mpr c44;have c44b1:(t571 != 9)=false:=bne_eq_false_iff_eq.mpr c44;clear c44;replace H:=Option.bind_eq_some_iff.mp H;obtain ⟨t572,A450,H⟩:=H;replace H:(some t572)=some r:=H;have A45:=As0.mk A450;clear A450;obtain rfl:=Option.some.inj H;go_wp2_with (first|((with_reducible refine y08 (f:=25) rfl ?_);refine y0l (some 77) rfl rfl Tra.func25 (by kernel_rfl) rfl #[.slice A0 l0.length c0] rfl (by (try simp only [List.map_toArray,List.map_cons,List.map_nil]);first|done|rfl|(simp only [List.length_drop,List.length_take];rfl)) ?_;(with_reducible refine (mobs_Between.calls kj26 (fun k_=>k_<w.heap.size) _ _ l0 t564 t567 _ ?side1 A40.out).mono ?_);(case side1=>exact Kd.V_mk HC0.out (Kd.F_below (Kd.C_F (Kd.heap_int .i64) HR0.out) (by repeat (first|(with_reducible first|exact HB.out|apply y01|apply y00|apply y02|refine y03 ?_ GE556.out|refine y03 ?_ GE563.out)|exact HB.out))));rintro e w46 ⟨v565,rfl,ho0,hb⟩;refine ⟨_,rfl,?_⟩;have n0_:=As0.mk (Kd.R_elder' (by (with_reducible repeat (first|apply Kd.R_alloc|apply Kd.R_drewN|apply Kd.R_drew));exact HO_5.out) (Kd.R_base ho0) hb);have n1_:=As0.mk (Kd.R_lower (Kd.R_new' (Kd.R_mono (ok':=fun k_=>True) ho0 (fun _ hk_=>trivial)) (Kd.R_lt (by (with_reducible repeat (first|apply Kd.R_alloc|apply Kd.R_drewN|apply Kd.R_drew));exact HO_5.out))) (y05 (by repeat (first|(with_reducible first|exact HB.out|apply y01|apply y00|apply y02|refine y03 ?_ GE556.out|refine y03 ?_ GE563.out)|exact HB.out))));have n2_:=As0.mk (y0d (g:=gb556) (o:=.cells #[.int .i64 t550,.int .i64 t551,.int .i64 t552,.int .i64 t553] 31 (0,0)) (by (with_reducible repeat (first|refine y04 ?_ _|refine blk_drew ?_|refine blk_alloc ?_ _));exact BK556.out) hb);have n3_:=As0.mk (y0d (g:=gb563) (o:=.cells #[.int .i64 t557,.int .i64 t558,.int .i64 t559,.int .i64 t560] 31 (0,0)) (by (with_reducible repeat (first|refine y04 ?_ _|refine blk_drew ?_|refine blk_alloc ?_ _));exact BK563.out) hb);have n4_:=As0.mk (y06 (by repeat (first|(with_reducible first|exact HB.out|apply y01|apply y00|apply y02|refine y03 ?_ GE556.out|refine y03 ?_ GE563.out)|exact HB.out)) hb);clear HO_5;clear BK556;clear BK563;clear HB;have HO_5:=n0_;have HO566:=n1_;have BK556:=n2_;have BK563:=n3_;have HB:=n4_;clear n0_ n1_ n2_ n3_ n4_;(try clear hb);(try clear hb2);(try clear hk);(try clear hi);(try clear ho0))|((with_reducible refine y08 (f:=25) rfl ?_);refine y0l (some 82) rfl rfl Tra.func25 (by kernel_rfl) rfl #[.slice Ao32 t543.length co32] rfl (by (try simp only [List.map_toArray,List.map_cons,List.map_nil]);first|done|rfl|(simp only [List.length_drop,List.length_take];rfl)) ?_;(with_reducible refine (mobs_Between.calls kj26 (fun k_=>some k_=(.slice Ao32 t543.length co32:Value).ownBlock) _ _ t543 t568 t571 _ ?side1 A41.out).mono ?_);(case side1=>exact Kd.R_V (Kd.R_tight rfl (Kd.R_types (Kd.R_types (HO_5.out) BK556.out (by decide)) BK563.out (by decide))));rintro e w47 ⟨v569,rfl,ho0,hb⟩;refine ⟨_,rfl,?_⟩;have n0_:=As0.mk (Kd.R_elder' (by (with_reducible repeat (first|apply Kd.R_alloc|apply Kd.R_drewN|apply Kd.R_drew));exact HO_5.out) (Kd.R_base ho0) hb);have n1_:=As0.mk (Kd.R_elder' (by (with_reducible repeat (first|apply Kd.R_alloc|apply Kd.R_drewN|apply Kd.R_drew));exact HO566.out) (Kd.R_base ho0) hb);have n2_:=As0.mk (Kd.R_lower (Kd.R_new' (Kd.R_new' (Kd.R_mono (ok':=fun k_=>True) ho0 (fun _ hk_=>trivial)) (Kd.R_lt (by (with_reducible repeat (first|apply Kd.R_alloc|apply Kd.R_drewN|apply Kd.R_drew));exact HO_5.out))) (Kd.R_lt (by (with_reducible repeat (first|apply Kd.R_alloc|apply Kd.R_drewN|apply Kd.R_drew));exact HO566.out))) (y05 (by repeat (first|(with_reducible first|exact HB.out|apply y01|apply y00|apply y02|refine y03 ?_ GE556.out|refine y03 ?_ GE563.out)|exact HB.out))));have n3_:=As0.mk (y0d (g:=gb556) (o:=.cells #[.int .i64 t550,.int .i64 t551,.int .i64 t552,.int .i64 t553] 31 (0,0)) (by (with_reducible repeat (first|refine y04 ?_ _|refine blk_drew ?_|refine blk_alloc ?_ _));exact BK556.out) hb);have n4_:=As0.mk (y0d (g:=gb563) (o:=.cells #[.int .i64 t557,.int .i64 t558,.int .i64 t559,.int .i64 t560] 31 (0,0)) (by (with_reducible repeat (first|refine y04 ?_ _|refine blk_drew ?_|refine blk_alloc ?_ _));exact BK563.out) hb);have n5_:=As0.mk (y06 (by repeat (first|(with_reducible first|exact HB.out|apply y01|apply y00|apply y02|refine y03 ?_ GE556.out|refine y03 ?_ GE563.out)|exact HB.out)) hb);clear HO_5;clear HO566;clear BK556;clear BK563;clear HB;have HO_5:=n0_;have HO566:=n1_;have HO570:=n2_;have BK556:=n3_;have BK563:=n4_;have HB:=n5_;clear n0_ n1_ n2_ n3_ n4_ n5_;(try clear hb);(try clear hb2);(try clear hk);(try clear hi);(try clear ho0))|(go_at_call 20;(with_reducible refine (w6_alive.calls  t572 _ A45.out).mono ?_);rintro e w48 ⟨rfl,hb⟩;have n0_:=As0.mk (Kd.R_below (by (with_reducible repeat (first|apply Kd.R_alloc|apply Kd.R_drewN|apply Kd.R_drew));exact HO_5.out) hb);have n1_:=As0.mk (Kd.R_below (by (with_reducible repeat (first|apply Kd.R_alloc|apply Kd.R_drewN|apply Kd.R_drew));exact HO566.out) hb);have n2_:=As0.mk (Kd.R_below (by (with_reducible repeat (first|apply Kd.R_alloc|apply Kd.R_drewN|apply Kd.R_drew));exact HO570.out) hb);have n3_:=As0.mk (y0d (g:=gb556) (o:=.cells #[.int .i64 t550,.int .i64 t551,.int .i64 t552,.int .i64 t553] 31 (0,0)) (by (with_reducible repeat (first|refine y04 ?_ _|refine blk_drew ?_|refine blk_alloc ?_ _));exact BK556.out) hb);have n4_:=As0.mk (y0d (g:=gb563) (o:=.cells #[.int .i64 t557,.int .i64 t558,.int .i64 t559,.int .i64 t560] 31 (0,0)) (by (with_reducible repeat (first|refine y04 ?_ _|refine blk_drew ?_|refine blk_alloc ?_ _));exact BK563.out) hb);have n5_:=As0.mk (y06 (by repeat (first|(with_reducible first|exact HB.out|apply y01|apply y00|apply y02|refine y03 ?_ GE556.out|refine y03 ?_ GE563.out)|exact HB.out)) hb);clear HO_5;clear HO566;clear HO570;clear BK556;clear BK563;clear HB;have HO_5:=n0_;have HO566:=n1_;have HO570:=n2_;have BK556:=n3_;have BK563:=n4_;have HB:=n5_;clear n0_ n1_ n2_ n3_ n4_ n5_;(try clear hb);(try clear hb2);(try clear hk);(try clear hi)))
             go_ret
             exact ⟨by first|rfl|(simp [y0a,y09]<;>rfl)|(simp [*,y0a,y09]<;>rfl),by repeat (first|(with_reducible first|exact HB.out|apply y01|apply y00|apply y02|refine y03 ?_ GE556.out|refine y03 ?_ GE563.out)|exact HB.out)⟩
            ·rw [if_neg c44] at H
             have c44b0:(t571 == 9)=false:=beq_eq_false_iff_ne.mpr c44;have c44b1:(t571 != 9)=true:=bne_iff_ne.mpr c44;obtain rfl:=Option.some.inj H;go_wp2_with (first|((with_reducible refine y08 (f:=25) rfl ?_);refine y0l (some 77) rfl rfl Tra.func25 (by kernel_rfl) rfl #[.slice A0 l0.length c0] rfl (by (try simp only [List.map_toArray,List.map_cons,List.map_nil]);first|done|rfl|(simp only [List.length_drop,List.length_take];rfl)) ?_;(with_reducible refine (mobs_Between.calls kj26 (fun k_=>k_<w.heap.size) _ _ l0 t564 t567 _ ?side1 A40.out).mono ?_);(case side1=>exact Kd.V_mk HC0.out (Kd.F_below (Kd.C_F (Kd.heap_int .i64) HR0.out) (by repeat (first|(with_reducible first|exact HB.out|apply y01|apply y00|apply y02|refine y03 ?_ GE556.out|refine y03 ?_ GE563.out)|exact HB.out))));rintro e w49 ⟨v565,rfl,ho0,hb⟩;refine ⟨_,rfl,?_⟩;have n0_:=As0.mk (Kd.R_elder' (by (with_reducible repeat (first|apply Kd.R_alloc|apply Kd.R_drewN|apply Kd.R_drew));exact HO_5.out) (Kd.R_base ho0) hb);have n1_:=As0.mk (Kd.R_lower (Kd.R_new' (Kd.R_mono (ok':=fun k_=>True) ho0 (fun _ hk_=>trivial)) (Kd.R_lt (by (with_reducible repeat (first|apply Kd.R_alloc|apply Kd.R_drewN|apply Kd.R_drew));exact HO_5.out))) (y05 (by repeat (first|(with_reducible first|exact HB.out|apply y01|apply y00|apply y02|refine y03 ?_ GE556.out|refine y03 ?_ GE563.out)|exact HB.out))));have n2_:=As0.mk (y0d (g:=gb556) (o:=.cells #[.int .i64 t550,.int .i64 t551,.int .i64 t552,.int .i64 t553] 31 (0,0)) (by (with_reducible repeat (first|refine y04 ?_ _|refine blk_drew ?_|refine blk_alloc ?_ _));exact BK556.out) hb);have n3_:=As0.mk (y0d (g:=gb563) (o:=.cells #[.int .i64 t557,.int .i64 t558,.int .i64 t559,.int .i64 t560] 31 (0,0)) (by (with_reducible repeat (first|refine y04 ?_ _|refine blk_drew ?_|refine blk_alloc ?_ _));exact BK563.out) hb);have n4_:=As0.mk (y06 (by repeat (first|(with_reducible first|exact HB.out|apply y01|apply y00|apply y02|refine y03 ?_ GE556.out|refine y03 ?_ GE563.out)|exact HB.out)) hb);clear HO_5;clear BK556;clear BK563;clear HB;have HO_5:=n0_;have HO566:=n1_;have BK556:=n2_;have BK563:=n3_;have HB:=n4_;clear n0_ n1_ n2_ n3_ n4_;(try clear hb);(try clear hb2);(try clear hk);(try clear hi);(try clear ho0))|((with_reducible refine y08 (f:=25) rfl ?_);refine y0l (some 82) rfl rfl Tra.func25 (by kernel_rfl) rfl #[.slice Ao32 t543.length co32] rfl (by (try simp only [List.map_toArray,List.map_cons,List.map_nil]);first|done|rfl|(simp only [List.length_drop,List.length_take];rfl)) ?_;(with_reducible refine (mobs_Between.calls kj26 (fun k_=>some k_=(.slice Ao32 t543.length co32:Value).ownBlock) _ _ t543 t568 t571 _ ?side1 A41.out).mono ?_);(case side1=>exact Kd.R_V (Kd.R_tight rfl (Kd.R_types (Kd.R_types (HO_5.out) BK556.out (by decide)) BK563.out (by decide))));rintro e w50 ⟨v569,rfl,ho0,hb⟩;refine ⟨_,rfl,?_⟩;have n0_:=As0.mk (Kd.R_elder' (by (with_reducible repeat (first|apply Kd.R_alloc|apply Kd.R_drewN|apply Kd.R_drew));exact HO_5.out) (Kd.R_base ho0) hb);have n1_:=As0.mk (Kd.R_elder' (by (with_reducible repeat (first|apply Kd.R_alloc|apply Kd.R_drewN|apply Kd.R_drew));exact HO566.out) (Kd.R_base ho0) hb);have n2_:=As0.mk (Kd.R_lower (Kd.R_new' (Kd.R_new' (Kd.R_mono (ok':=fun k_=>True) ho0 (fun _ hk_=>trivial)) (Kd.R_lt (by (with_reducible repeat (first|apply Kd.R_alloc|apply Kd.R_drewN|apply Kd.R_drew));exact HO_5.out))) (Kd.R_lt (by (with_reducible repeat (first|apply Kd.R_alloc|apply Kd.R_drewN|apply Kd.R_drew));exact HO566.out))) (y05 (by repeat (first|(with_reducible first|exact HB.out|apply y01|apply y00|apply y02|refine y03 ?_ GE556.out|refine y03 ?_ GE563.out)|exact HB.out))));have n3_:=As0.mk (y0d (g:=gb556) (o:=.cells #[.int .i64 t550,.int .i64 t551,.int .i64 t552,.int .i64 t553] 31 (0,0)) (by (with_reducible repeat (first|refine y04 ?_ _|refine blk_drew ?_|refine blk_alloc ?_ _));exact BK556.out) hb);have n4_:=As0.mk (y0d (g:=gb563) (o:=.cells #[.int .i64 t557,.int .i64 t558,.int .i64 t559,.int .i64 t560] 31 (0,0)) (by (with_reducible repeat (first|refine y04 ?_ _|refine blk_drew ?_|refine blk_alloc ?_ _));exact BK563.out) hb);have n5_:=As0.mk (y06 (by repeat (first|(with_reducible first|exact HB.out|apply y01|apply y00|apply y02|refine y03 ?_ GE556.out|refine y03 ?_ GE563.out)|exact HB.out)) hb);clear HO_5;clear HO566;clear BK556;clear BK563;clear HB;have HO_5:=n0_;have HO566:=n1_;have HO570:=n2_;have BK556:=n3_;have BK563:=n4_;have HB:=n5_;clear n0_ n1_ n2_ n3_ n4_ n5_;(try clear hb);(try clear hb2);(try clear hk);(try clear hi);(try clear ho0)))
             go_ret
             exact ⟨by first|rfl|(simp [y0a,y09]<;>rfl)|(simp [*,y0a,y09]<;>rfl),by repeat (first|(with_reducible first|exact HB.out|apply y01|apply y00|apply y02|refine y03 ?_ GE556.out|refine y03 ?_ GE563.out)|exact HB.out)⟩
           ·rw [if_neg c43] at H
            have c43b0:(t567 == 9)=false:=beq_eq_false_iff_ne.mpr c43;have c43b1:(t567 != 9)=true:=bne_iff_ne.mpr c43;obtain rfl:=Option.some.inj H;go_wp2_with (first|((with_reducible refine y08 (f:=25) rfl ?_);refine y0l (some 77) rfl rfl Tra.func25 (by kernel_rfl) rfl #[.slice A0 l0.length c0] rfl (by (try simp only [List.map_toArray,List.map_cons,List.map_nil]);first|done|rfl|(simp only [List.length_drop,List.length_take];rfl)) ?_;(with_reducible refine (mobs_Between.calls kj26 (fun k_=>k_<w.heap.size) _ _ l0 t564 t567 _ ?side1 A40.out).mono ?_);(case side1=>exact Kd.V_mk HC0.out (Kd.F_below (Kd.C_F (Kd.heap_int .i64) HR0.out) (by repeat (first|(with_reducible first|exact HB.out|apply y01|apply y00|apply y02|refine y03 ?_ GE556.out|refine y03 ?_ GE563.out)|exact HB.out))));rintro e w51 ⟨v565,rfl,ho0,hb⟩;refine ⟨_,rfl,?_⟩;have n0_:=As0.mk (Kd.R_elder' (by (with_reducible repeat (first|apply Kd.R_alloc|apply Kd.R_drewN|apply Kd.R_drew));exact HO_5.out) (Kd.R_base ho0) hb);have n1_:=As0.mk (Kd.R_lower (Kd.R_new' (Kd.R_mono (ok':=fun k_=>True) ho0 (fun _ hk_=>trivial)) (Kd.R_lt (by (with_reducible repeat (first|apply Kd.R_alloc|apply Kd.R_drewN|apply Kd.R_drew));exact HO_5.out))) (y05 (by repeat (first|(with_reducible first|exact HB.out|apply y01|apply y00|apply y02|refine y03 ?_ GE556.out|refine y03 ?_ GE563.out)|exact HB.out))));have n2_:=As0.mk (y0d (g:=gb556) (o:=.cells #[.int .i64 t550,.int .i64 t551,.int .i64 t552,.int .i64 t553] 31 (0,0)) (by (with_reducible repeat (first|refine y04 ?_ _|refine blk_drew ?_|refine blk_alloc ?_ _));exact BK556.out) hb);have n3_:=As0.mk (y0d (g:=gb563) (o:=.cells #[.int .i64 t557,.int .i64 t558,.int .i64 t559,.int .i64 t560] 31 (0,0)) (by (with_reducible repeat (first|refine y04 ?_ _|refine blk_drew ?_|refine blk_alloc ?_ _));exact BK563.out) hb);have n4_:=As0.mk (y06 (by repeat (first|(with_reducible first|exact HB.out|apply y01|apply y00|apply y02|refine y03 ?_ GE556.out|refine y03 ?_ GE563.out)|exact HB.out)) hb);clear HO_5;clear BK556;clear BK563;clear HB;have HO_5:=n0_;have HO566:=n1_;have BK556:=n2_;have BK563:=n3_;have HB:=n4_;clear n0_ n1_ n2_ n3_ n4_;(try clear hb);(try clear hb2);(try clear hk);(try clear hi);(try clear ho0))|((with_reducible refine y08 (f:=25) rfl ?_);refine y0l (some 82) rfl rfl Tra.func25 (by kernel_rfl) rfl #[.slice Ao32 t543.length co32] rfl (by (try simp only [List.map_toArray,List.map_cons,List.map_nil]);first|done|rfl|(simp only [List.length_drop,List.length_take];rfl)) ?_;(with_reducible refine (mobs_Between.calls kj26 (fun k_=>some k_=(.slice Ao32 t543.length co32:Value).ownBlock) _ _ t543 t568 t571 _ ?side1 A41.out).mono ?_);(case side1=>exact Kd.R_V (Kd.R_tight rfl (Kd.R_types (Kd.R_types (HO_5.out) BK556.out (by decide)) BK563.out (by decide))));rintro e w52 ⟨v569,rfl,ho0,hb⟩;refine ⟨_,rfl,?_⟩;have n0_:=As0.mk (Kd.R_elder' (by (with_reducible repeat (first|apply Kd.R_alloc|apply Kd.R_drewN|apply Kd.R_drew));exact HO_5.out) (Kd.R_base ho0) hb);have n1_:=As0.mk (Kd.R_elder' (by (with_reducible repeat (first|apply Kd.R_alloc|apply Kd.R_drewN|apply Kd.R_drew));exact HO566.out) (Kd.R_base ho0) hb);have n2_:=As0.mk (Kd.R_lower (Kd.R_new' (Kd.R_new' (Kd.R_mono (ok':=fun k_=>True) ho0 (fun _ hk_=>trivial)) (Kd.R_lt (by (with_reducible repeat (first|apply Kd.R_alloc|apply Kd.R_drewN|apply Kd.R_drew));exact HO_5.out))) (Kd.R_lt (by (with_reducible repeat (first|apply Kd.R_alloc|apply Kd.R_drewN|apply Kd.R_drew));exact HO566.out))) (y05 (by repeat (first|(with_reducible first|exact HB.out|apply y01|apply y00|apply y02|refine y03 ?_ GE556.out|refine y03 ?_ GE563.out)|exact HB.out))));have n3_:=As0.mk (y0d (g:=gb556) (o:=.cells #[.int .i64 t550,.int .i64 t551,.int .i64 t552,.int .i64 t553] 31 (0,0)) (by (with_reducible repeat (first|refine y04 ?_ _|refine blk_drew ?_|refine blk_alloc ?_ _));exact BK556.out) hb);have n4_:=As0.mk (y0d (g:=gb563) (o:=.cells #[.int .i64 t557,.int .i64 t558,.int .i64 t559,.int .i64 t560] 31 (0,0)) (by (with_reducible repeat (first|refine y04 ?_ _|refine blk_drew ?_|refine blk_alloc ?_ _));exact BK563.out) hb);have n5_:=As0.mk (y06 (by repeat (first|(with_reducible first|exact HB.out|apply y01|apply y00|apply y02|refine y03 ?_ GE556.out|refine y03 ?_ GE563.out)|exact HB.out)) hb);clear HO_5;clear HO566;clear BK556;clear BK563;clear HB;have HO_5:=n0_;have HO566:=n1_;have HO570:=n2_;have BK556:=n3_;have BK563:=n4_;have HB:=n5_;clear n0_ n1_ n2_ n3_ n4_ n5_;(try clear hb);(try clear hb2);(try clear hk);(try clear hi);(try clear ho0)))
            go_ret
            exact ⟨by first|rfl|(simp [y0a,y09]<;>rfl)|(simp [*,y0a,y09]<;>rfl),by repeat (first|(with_reducible first|exact HB.out|apply y01|apply y00|apply y02|refine y03 ?_ GE556.out|refine y03 ?_ GE563.out)|exact HB.out)⟩
          ·replace c42:=Bool.eq_false_iff.mpr c42
           subst c42;have H1:((mobs_Around.f kj26 t564 a1).bind fun bt573=>(if t567=0 then (if t571=0 then (if bt573.2=0 then ((w6_same.f kj26 t568 bt573.1).bind fun t577=>(if t577=true then ((w6_alive.f).bind fun t578=>(some t578)) else (some false))) else (some false)) else (some false)) else (some false)))=some r:=by rw [if_neg (show ¬ (false=true) by decide)] at H;exact H
           clear H;have H:=H1;clear H1;replace H:=Option.bind_eq_some_iff.mp H;obtain ⟨⟨t573,t576⟩,A530,H⟩:=H;replace H:(if t567=0 then (if t571=0 then (if t576=0 then ((w6_same.f kj26 t568 t573).bind fun t577=>(if t577=true then ((w6_alive.f).bind fun t578=>(some t578)) else (some false))) else (some false)) else (some false)) else (some false))=some r:=H;have A53:=As0.mk A530;clear A530
           by_cases c54:t567=0
           ·rw [if_pos c54] at H
            have c54b0:(t567 == 0)=true:=beq_iff_eq.mpr c54;have c54b1:(t567 != 0)=false:=bne_eq_false_iff_eq.mpr c54;clear c54
            by_cases c55:t571=0
            ·rw [if_pos c55] at H
             have c55b0:(t571 == 0)=true:=beq_iff_eq.mpr c55;have c55b1:(t571 != 0)=false:=bne_eq_false_iff_eq.mpr c55;clear c55
             by_cases c56:t576=0
             ·rw [if_pos c56] at H
              have c56b0:(t576 == 0)=true:=beq_iff_eq.mpr c56;have c56b1:(t576 != 0)=false:=bne_eq_false_iff_eq.mpr c56;clear c56;replace H:=Option.bind_eq_some_iff.mp H;obtain ⟨t577,A570,H⟩:=H;replace H:(if t577=true then ((w6_alive.f).bind fun t578=>(some t578)) else (some false))=some r:=H;have A57:=As0.mk A570;clear A570
              by_cases c58:t577=true
              ·subst c58
               have H1:((w6_alive.f).bind fun t578=>(some t578))=some r:=by rw [if_pos rfl] at H;exact H
               clear H;have H:=H1;clear H1;replace H:=Option.bind_eq_some_iff.mp H;obtain ⟨t578,A590,H⟩:=H;replace H:(some t578)=some r:=H;have A59:=As0.mk A590;clear A590;obtain rfl:=Option.some.inj H;go_wp2_with (first|((with_reducible refine y08 (f:=25) rfl ?_);refine y0l (some 77) rfl rfl Tra.func25 (by kernel_rfl) rfl #[.slice A0 l0.length c0] rfl (by (try simp only [List.map_toArray,List.map_cons,List.map_nil]);first|done|rfl|(simp only [List.length_drop,List.length_take];rfl)) ?_;(with_reducible refine (mobs_Between.calls kj26 (fun k_=>k_<w.heap.size) _ _ l0 t564 t567 _ ?side1 A40.out).mono ?_);(case side1=>exact Kd.V_mk HC0.out (Kd.F_below (Kd.C_F (Kd.heap_int .i64) HR0.out) (by repeat (first|(with_reducible first|exact HB.out|apply y01|apply y00|apply y02|refine y03 ?_ GE556.out|refine y03 ?_ GE563.out)|exact HB.out))));rintro e w60 ⟨v565,rfl,ho0,hb⟩;refine ⟨_,rfl,?_⟩;have n0_:=As0.mk (Kd.R_elder' (by (with_reducible repeat (first|apply Kd.R_alloc|apply Kd.R_drewN|apply Kd.R_drew));exact HO_5.out) (Kd.R_base ho0) hb);have n1_:=As0.mk (Kd.R_lower (Kd.R_new' (Kd.R_mono (ok':=fun k_=>True) ho0 (fun _ hk_=>trivial)) (Kd.R_lt (by (with_reducible repeat (first|apply Kd.R_alloc|apply Kd.R_drewN|apply Kd.R_drew));exact HO_5.out))) (y05 (by repeat (first|(with_reducible first|exact HB.out|apply y01|apply y00|apply y02|refine y03 ?_ GE556.out|refine y03 ?_ GE563.out)|exact HB.out))));have n2_:=As0.mk (y0d (g:=gb556) (o:=.cells #[.int .i64 t550,.int .i64 t551,.int .i64 t552,.int .i64 t553] 31 (0,0)) (by (with_reducible repeat (first|refine y04 ?_ _|refine blk_drew ?_|refine blk_alloc ?_ _));exact BK556.out) hb);have n3_:=As0.mk (y0d (g:=gb563) (o:=.cells #[.int .i64 t557,.int .i64 t558,.int .i64 t559,.int .i64 t560] 31 (0,0)) (by (with_reducible repeat (first|refine y04 ?_ _|refine blk_drew ?_|refine blk_alloc ?_ _));exact BK563.out) hb);have n4_:=As0.mk (y06 (by repeat (first|(with_reducible first|exact HB.out|apply y01|apply y00|apply y02|refine y03 ?_ GE556.out|refine y03 ?_ GE563.out)|exact HB.out)) hb);clear HO_5;clear BK556;clear BK563;clear HB;have HO_5:=n0_;have HO566:=n1_;have BK556:=n2_;have BK563:=n3_;have HB:=n4_;clear n0_ n1_ n2_ n3_ n4_;(try clear hb);(try clear hb2);(try clear hk);(try clear hi);(try clear ho0))|((with_reducible refine y08 (f:=25) rfl ?_);refine y0l (some 82) rfl rfl Tra.func25 (by kernel_rfl) rfl #[.slice Ao32 t543.length co32] rfl (by (try simp only [List.map_toArray,List.map_cons,List.map_nil]);first|done|rfl|(simp only [List.length_drop,List.length_take];rfl)) ?_;(with_reducible refine (mobs_Between.calls kj26 (fun k_=>some k_=(.slice Ao32 t543.length co32:Value).ownBlock) _ _ t543 t568 t571 _ ?side1 A41.out).mono ?_);(case side1=>exact Kd.R_V (Kd.R_tight rfl (Kd.R_types (Kd.R_types (HO_5.out) BK556.out (by decide)) BK563.out (by decide))));rintro e w61 ⟨v569,rfl,ho0,hb⟩;refine ⟨_,rfl,?_⟩;have n0_:=As0.mk (Kd.R_elder' (by (with_reducible repeat (first|apply Kd.R_alloc|apply Kd.R_drewN|apply Kd.R_drew));exact HO_5.out) (Kd.R_base ho0) hb);have n1_:=As0.mk (Kd.R_elder' (by (with_reducible repeat (first|apply Kd.R_alloc|apply Kd.R_drewN|apply Kd.R_drew));exact HO566.out) (Kd.R_base ho0) hb);have n2_:=As0.mk (Kd.R_lower (Kd.R_new' (Kd.R_new' (Kd.R_mono (ok':=fun k_=>True) ho0 (fun _ hk_=>trivial)) (Kd.R_lt (by (with_reducible repeat (first|apply Kd.R_alloc|apply Kd.R_drewN|apply Kd.R_drew));exact HO_5.out))) (Kd.R_lt (by (with_reducible repeat (first|apply Kd.R_alloc|apply Kd.R_drewN|apply Kd.R_drew));exact HO566.out))) (y05 (by repeat (first|(with_reducible first|exact HB.out|apply y01|apply y00|apply y02|refine y03 ?_ GE556.out|refine y03 ?_ GE563.out)|exact HB.out))));have n3_:=As0.mk (y0d (g:=gb556) (o:=.cells #[.int .i64 t550,.int .i64 t551,.int .i64 t552,.int .i64 t553] 31 (0,0)) (by (with_reducible repeat (first|refine y04 ?_ _|refine blk_drew ?_|refine blk_alloc ?_ _));exact BK556.out) hb);have n4_:=As0.mk (y0d (g:=gb563) (o:=.cells #[.int .i64 t557,.int .i64 t558,.int .i64 t559,.int .i64 t560] 31 (0,0)) (by (with_reducible repeat (first|refine y04 ?_ _|refine blk_drew ?_|refine blk_alloc ?_ _));exact BK563.out) hb);have n5_:=As0.mk (y06 (by repeat (first|(with_reducible first|exact HB.out|apply y01|apply y00|apply y02|refine y03 ?_ GE556.out|refine y03 ?_ GE563.out)|exact HB.out)) hb);clear HO_5;clear HO566;clear BK556;clear BK563;clear HB;have HO_5:=n0_;have HO566:=n1_;have HO570:=n2_;have BK556:=n3_;have BK563:=n4_;have HB:=n5_;clear n0_ n1_ n2_ n3_ n4_ n5_;(try clear hb);(try clear hb2);(try clear hk);(try clear hi);(try clear ho0);obtain ⟨Ao62,co62,eo62⟩:=Kd.R_slice HO566.out;subst eo62)|((with_reducible refine y08 (f:=28) rfl ?_);refine y0l (some 98) rfl rfl Tra.func28 (by kernel_rfl) rfl #[.slice Ao62 t564.length co62,.int .i64 a1] rfl (by (try simp only [List.map_toArray,List.map_cons,List.map_nil]);first|done|rfl|(simp only [List.length_drop,List.length_take];rfl)) ?_;(with_reducible refine (mobs_Around.calls kj26 (fun k_=>some k_=(.slice Ao62 t564.length co62:Value).ownBlock) _ _ t564 a1 t573 t576 _ ?side1 A53.out).mono ?_);(case side1=>exact Kd.R_V (Kd.R_tight rfl (Kd.R_types (Kd.R_types (HO566.out) BK556.out (by decide)) BK563.out (by decide))));rintro e w63 ⟨v574,rfl,ho0,hb⟩;refine ⟨_,rfl,?_⟩;have n0_:=As0.mk (Kd.R_elder' (by (with_reducible repeat (first|apply Kd.R_alloc|apply Kd.R_drewN|apply Kd.R_drew));exact HO_5.out) (Kd.R_base ho0) hb);have n1_:=As0.mk (Kd.R_elder' (by (with_reducible repeat (first|apply Kd.R_alloc|apply Kd.R_drewN|apply Kd.R_drew));exact HO566.out) (Kd.R_base ho0) hb);have n2_:=As0.mk (Kd.R_elder' (by (with_reducible repeat (first|apply Kd.R_alloc|apply Kd.R_drewN|apply Kd.R_drew));exact HO570.out) (Kd.R_base ho0) hb);have n3_:=As0.mk (Kd.R_lower (Kd.R_new' (Kd.R_new' (Kd.R_new' (Kd.R_mono (ok':=fun k_=>True) ho0 (fun _ hk_=>trivial)) (Kd.R_lt (by (with_reducible repeat (first|apply Kd.R_alloc|apply Kd.R_drewN|apply Kd.R_drew));exact HO_5.out))) (Kd.R_lt (by (with_reducible repeat (first|apply Kd.R_alloc|apply Kd.R_drewN|apply Kd.R_drew));exact HO566.out))) (Kd.R_lt (by (with_reducible repeat (first|apply Kd.R_alloc|apply Kd.R_drewN|apply Kd.R_drew));exact HO570.out))) (y05 (by repeat (first|(with_reducible first|exact HB.out|apply y01|apply y00|apply y02|refine y03 ?_ GE556.out|refine y03 ?_ GE563.out)|exact HB.out))));have n4_:=As0.mk (y0d (g:=gb556) (o:=.cells #[.int .i64 t550,.int .i64 t551,.int .i64 t552,.int .i64 t553] 31 (0,0)) (by (with_reducible repeat (first|refine y04 ?_ _|refine blk_drew ?_|refine blk_alloc ?_ _));exact BK556.out) hb);have n5_:=As0.mk (y0d (g:=gb563) (o:=.cells #[.int .i64 t557,.int .i64 t558,.int .i64 t559,.int .i64 t560] 31 (0,0)) (by (with_reducible repeat (first|refine y04 ?_ _|refine blk_drew ?_|refine blk_alloc ?_ _));exact BK563.out) hb);have n6_:=As0.mk (y06 (by repeat (first|(with_reducible first|exact HB.out|apply y01|apply y00|apply y02|refine y03 ?_ GE556.out|refine y03 ?_ GE563.out)|exact HB.out)) hb);clear HO_5;clear HO566;clear HO570;clear BK556;clear BK563;clear HB;have HO_5:=n0_;have HO566:=n1_;have HO570:=n2_;have HO575:=n3_;have BK556:=n4_;have BK563:=n5_;have HB:=n6_;clear n0_ n1_ n2_ n3_ n4_ n5_ n6_;(try clear hb);(try clear hb2);(try clear hk);(try clear hi);(try clear ho0);obtain ⟨Ao64,co64,eo64⟩:=Kd.R_slice HO570.out;subst eo64;obtain ⟨Ao65,co65,eo65⟩:=Kd.R_slice HO575.out;subst eo65)|(go_at_call 27;(with_reducible refine (w6_same.calls kj26 _ _ t568 _ _ t573 true _ ?side1 ?side2 ?side3 ?side4 A57.out).mono ?_);(case side1=>repeat (first|exact (Kd.R_reads' HO570.out).2.2|(with_reducible refine Kd.C_alloc ?_ _)|(with_reducible refine Kd.C_drewN ?_ _)|(with_reducible refine Kd.C_drew ?_)));(case side2=>exact (Kd.R_reads' HO570.out).2.1);(case side3=>repeat (first|exact (Kd.R_reads' HO575.out).2.2|(with_reducible refine Kd.C_alloc ?_ _)|(with_reducible refine Kd.C_drewN ?_ _)|(with_reducible refine Kd.C_drew ?_)));(case side4=>exact (Kd.R_reads' HO575.out).2.1);rintro e w' ⟨rfl,⟨nd,rfl⟩⟩)|(go_at_call 20;(with_reducible refine (w6_alive.calls  t578 _ A59.out).mono ?_);rintro e w66 ⟨rfl,hb⟩;have n0_:=As0.mk (Kd.R_below (by (with_reducible repeat (first|apply Kd.R_alloc|apply Kd.R_drewN|apply Kd.R_drew));exact HO_5.out) hb);have n1_:=As0.mk (Kd.R_below (by (with_reducible repeat (first|apply Kd.R_alloc|apply Kd.R_drewN|apply Kd.R_drew));exact HO566.out) hb);have n2_:=As0.mk (Kd.R_below (by (with_reducible repeat (first|apply Kd.R_alloc|apply Kd.R_drewN|apply Kd.R_drew));exact HO570.out) hb);have n3_:=As0.mk (Kd.R_below (by (with_reducible repeat (first|apply Kd.R_alloc|apply Kd.R_drewN|apply Kd.R_drew));exact HO575.out) hb);have n4_:=As0.mk (y0d (g:=gb556) (o:=.cells #[.int .i64 t550,.int .i64 t551,.int .i64 t552,.int .i64 t553] 31 (0,0)) (by (with_reducible repeat (first|refine y04 ?_ _|refine blk_drew ?_|refine blk_alloc ?_ _));exact BK556.out) hb);have n5_:=As0.mk (y0d (g:=gb563) (o:=.cells #[.int .i64 t557,.int .i64 t558,.int .i64 t559,.int .i64 t560] 31 (0,0)) (by (with_reducible repeat (first|refine y04 ?_ _|refine blk_drew ?_|refine blk_alloc ?_ _));exact BK563.out) hb);have n6_:=As0.mk (y06 (by repeat (first|(with_reducible first|exact HB.out|apply y01|apply y00|apply y02|refine y03 ?_ GE556.out|refine y03 ?_ GE563.out)|exact HB.out)) hb);clear HO_5;clear HO566;clear HO570;clear HO575;clear BK556;clear BK563;clear HB;have HO_5:=n0_;have HO566:=n1_;have HO570:=n2_;have HO575:=n3_;have BK556:=n4_;have BK563:=n5_;have HB:=n6_;clear n0_ n1_ n2_ n3_ n4_ n5_ n6_;(try clear hb);(try clear hb2);(try clear hk);(try clear hi)))
               go_ret
               exact ⟨by first|rfl|(simp [y0a,y09]<;>rfl)|(simp [*,y0a,y09]<;>rfl),by repeat (first|(with_reducible first|exact HB.out|apply y01|apply y00|apply y02|refine y03 ?_ GE556.out|refine y03 ?_ GE563.out)|exact HB.out)⟩
              ·replace c58:=Bool.eq_false_iff.mpr c58
               subst c58;have H1:(some false)=some r:=by rw [if_neg (show ¬ (false=true) by decide)] at H;exact H
               clear H;have H:=H1;clear H1;obtain rfl:=Option.some.inj H;go_wp2_with (first|((with_reducible refine y08 (f:=25) rfl ?_);refine y0l (some 77) rfl rfl Tra.func25 (by kernel_rfl) rfl #[.slice A0 l0.length c0] rfl (by (try simp only [List.map_toArray,List.map_cons,List.map_nil]);first|done|rfl|(simp only [List.length_drop,List.length_take];rfl)) ?_;(with_reducible refine (mobs_Between.calls kj26 (fun k_=>k_<w.heap.size) _ _ l0 t564 t567 _ ?side1 A40.out).mono ?_);(case side1=>exact Kd.V_mk HC0.out (Kd.F_below (Kd.C_F (Kd.heap_int .i64) HR0.out) (by repeat (first|(with_reducible first|exact HB.out|apply y01|apply y00|apply y02|refine y03 ?_ GE556.out|refine y03 ?_ GE563.out)|exact HB.out))));rintro e w67 ⟨v565,rfl,ho0,hb⟩;refine ⟨_,rfl,?_⟩;have n0_:=As0.mk (Kd.R_elder' (by (with_reducible repeat (first|apply Kd.R_alloc|apply Kd.R_drewN|apply Kd.R_drew));exact HO_5.out) (Kd.R_base ho0) hb);have n1_:=As0.mk (Kd.R_lower (Kd.R_new' (Kd.R_mono (ok':=fun k_=>True) ho0 (fun _ hk_=>trivial)) (Kd.R_lt (by (with_reducible repeat (first|apply Kd.R_alloc|apply Kd.R_drewN|apply Kd.R_drew));exact HO_5.out))) (y05 (by repeat (first|(with_reducible first|exact HB.out|apply y01|apply y00|apply y02|refine y03 ?_ GE556.out|refine y03 ?_ GE563.out)|exact HB.out))));have n2_:=As0.mk (y0d (g:=gb556) (o:=.cells #[.int .i64 t550,.int .i64 t551,.int .i64 t552,.int .i64 t553] 31 (0,0)) (by (with_reducible repeat (first|refine y04 ?_ _|refine blk_drew ?_|refine blk_alloc ?_ _));exact BK556.out) hb);have n3_:=As0.mk (y0d (g:=gb563) (o:=.cells #[.int .i64 t557,.int .i64 t558,.int .i64 t559,.int .i64 t560] 31 (0,0)) (by (with_reducible repeat (first|refine y04 ?_ _|refine blk_drew ?_|refine blk_alloc ?_ _));exact BK563.out) hb);have n4_:=As0.mk (y06 (by repeat (first|(with_reducible first|exact HB.out|apply y01|apply y00|apply y02|refine y03 ?_ GE556.out|refine y03 ?_ GE563.out)|exact HB.out)) hb);clear HO_5;clear BK556;clear BK563;clear HB;have HO_5:=n0_;have HO566:=n1_;have BK556:=n2_;have BK563:=n3_;have HB:=n4_;clear n0_ n1_ n2_ n3_ n4_;(try clear hb);(try clear hb2);(try clear hk);(try clear hi);(try clear ho0))|((with_reducible refine y08 (f:=25) rfl ?_);refine y0l (some 82) rfl rfl Tra.func25 (by kernel_rfl) rfl #[.slice Ao32 t543.length co32] rfl (by (try simp only [List.map_toArray,List.map_cons,List.map_nil]);first|done|rfl|(simp only [List.length_drop,List.length_take];rfl)) ?_;(with_reducible refine (mobs_Between.calls kj26 (fun k_=>some k_=(.slice Ao32 t543.length co32:Value).ownBlock) _ _ t543 t568 t571 _ ?side1 A41.out).mono ?_);(case side1=>exact Kd.R_V (Kd.R_tight rfl (Kd.R_types (Kd.R_types (HO_5.out) BK556.out (by decide)) BK563.out (by decide))));rintro e w68 ⟨v569,rfl,ho0,hb⟩;refine ⟨_,rfl,?_⟩;have n0_:=As0.mk (Kd.R_elder' (by (with_reducible repeat (first|apply Kd.R_alloc|apply Kd.R_drewN|apply Kd.R_drew));exact HO_5.out) (Kd.R_base ho0) hb);have n1_:=As0.mk (Kd.R_elder' (by (with_reducible repeat (first|apply Kd.R_alloc|apply Kd.R_drewN|apply Kd.R_drew));exact HO566.out) (Kd.R_base ho0) hb);have n2_:=As0.mk (Kd.R_lower (Kd.R_new' (Kd.R_new' (Kd.R_mono (ok':=fun k_=>True) ho0 (fun _ hk_=>trivial)) (Kd.R_lt (by (with_reducible repeat (first|apply Kd.R_alloc|apply Kd.R_drewN|apply Kd.R_drew));exact HO_5.out))) (Kd.R_lt (by (with_reducible repeat (first|apply Kd.R_alloc|apply Kd.R_drewN|apply Kd.R_drew));exact HO566.out))) (y05 (by repeat (first|(with_reducible first|exact HB.out|apply y01|apply y00|apply y02|refine y03 ?_ GE556.out|refine y03 ?_ GE563.out)|exact HB.out))));have n3_:=As0.mk (y0d (g:=gb556) (o:=.cells #[.int .i64 t550,.int .i64 t551,.int .i64 t552,.int .i64 t553] 31 (0,0)) (by (with_reducible repeat (first|refine y04 ?_ _|refine blk_drew ?_|refine blk_alloc ?_ _));exact BK556.out) hb);have n4_:=As0.mk (y0d (g:=gb563) (o:=.cells #[.int .i64 t557,.int .i64 t558,.int .i64 t559,.int .i64 t560] 31 (0,0)) (by (with_reducible repeat (first|refine y04 ?_ _|refine blk_drew ?_|refine blk_alloc ?_ _));exact BK563.out) hb);have n5_:=As0.mk (y06 (by repeat (first|(with_reducible first|exact HB.out|apply y01|apply y00|apply y02|refine y03 ?_ GE556.out|refine y03 ?_ GE563.out)|exact HB.out)) hb);clear HO_5;clear HO566;clear BK556;clear BK563;clear HB;have HO_5:=n0_;have HO566:=n1_;have HO570:=n2_;have BK556:=n3_;have BK563:=n4_;have HB:=n5_;clear n0_ n1_ n2_ n3_ n4_ n5_;(try clear hb);(try clear hb2);(try clear hk);(try clear hi);(try clear ho0);obtain ⟨Ao69,co69,eo69⟩:=Kd.R_slice HO566.out;subst eo69)|((with_reducible refine y08 (f:=28) rfl ?_);refine y0l (some 98) rfl rfl Tra.func28 (by kernel_rfl) rfl #[.slice Ao69 t564.length co69,.int .i64 a1] rfl (by (try simp only [List.map_toArray,List.map_cons,List.map_nil]);first|done|rfl|(simp only [List.length_drop,List.length_take];rfl)) ?_;(with_reducible refine (mobs_Around.calls kj26 (fun k_=>some k_=(.slice Ao69 t564.length co69:Value).ownBlock) _ _ t564 a1 t573 t576 _ ?side1 A53.out).mono ?_);(case side1=>exact Kd.R_V (Kd.R_tight rfl (Kd.R_types (Kd.R_types (HO566.out) BK556.out (by decide)) BK563.out (by decide))));rintro e w70 ⟨v574,rfl,ho0,hb⟩;refine ⟨_,rfl,?_⟩;have n0_:=As0.mk (Kd.R_elder' (by (with_reducible repeat (first|apply Kd.R_alloc|apply Kd.R_drewN|apply Kd.R_drew));exact HO_5.out) (Kd.R_base ho0) hb);have n1_:=As0.mk (Kd.R_elder' (by (with_reducible repeat (first|apply Kd.R_alloc|apply Kd.R_drewN|apply Kd.R_drew));exact HO566.out) (Kd.R_base ho0) hb);have n2_:=As0.mk (Kd.R_elder' (by (with_reducible repeat (first|apply Kd.R_alloc|apply Kd.R_drewN|apply Kd.R_drew));exact HO570.out) (Kd.R_base ho0) hb);have n3_:=As0.mk (Kd.R_lower (Kd.R_new' (Kd.R_new' (Kd.R_new' (Kd.R_mono (ok':=fun k_=>True) ho0 (fun _ hk_=>trivial)) (Kd.R_lt (by (with_reducible repeat (first|apply Kd.R_alloc|apply Kd.R_drewN|apply Kd.R_drew));exact HO_5.out))) (Kd.R_lt (by (with_reducible repeat (first|apply Kd.R_alloc|apply Kd.R_drewN|apply Kd.R_drew));exact HO566.out))) (Kd.R_lt (by (with_reducible repeat (first|apply Kd.R_alloc|apply Kd.R_drewN|apply Kd.R_drew));exact HO570.out))) (y05 (by repeat (first|(with_reducible first|exact HB.out|apply y01|apply y00|apply y02|refine y03 ?_ GE556.out|refine y03 ?_ GE563.out)|exact HB.out))));have n4_:=As0.mk (y0d (g:=gb556) (o:=.cells #[.int .i64 t550,.int .i64 t551,.int .i64 t552,.int .i64 t553] 31 (0,0)) (by (with_reducible repeat (first|refine y04 ?_ _|refine blk_drew ?_|refine blk_alloc ?_ _));exact BK556.out) hb);have n5_:=As0.mk (y0d (g:=gb563) (o:=.cells #[.int .i64 t557,.int .i64 t558,.int .i64 t559,.int .i64 t560] 31 (0,0)) (by (with_reducible repeat (first|refine y04 ?_ _|refine blk_drew ?_|refine blk_alloc ?_ _));exact BK563.out) hb);have n6_:=As0.mk (y06 (by repeat (first|(with_reducible first|exact HB.out|apply y01|apply y00|apply y02|refine y03 ?_ GE556.out|refine y03 ?_ GE563.out)|exact HB.out)) hb);clear HO_5;clear HO566;clear HO570;clear BK556;clear BK563;clear HB;have HO_5:=n0_;have HO566:=n1_;have HO570:=n2_;have HO575:=n3_;have BK556:=n4_;have BK563:=n5_;have HB:=n6_;clear n0_ n1_ n2_ n3_ n4_ n5_ n6_;(try clear hb);(try clear hb2);(try clear hk);(try clear hi);(try clear ho0);obtain ⟨Ao71,co71,eo71⟩:=Kd.R_slice HO570.out;subst eo71;obtain ⟨Ao72,co72,eo72⟩:=Kd.R_slice HO575.out;subst eo72)|(go_at_call 27;(with_reducible refine (w6_same.calls kj26 _ _ t568 _ _ t573 false _ ?side1 ?side2 ?side3 ?side4 A57.out).mono ?_);(case side1=>repeat (first|exact (Kd.R_reads' HO570.out).2.2|(with_reducible refine Kd.C_alloc ?_ _)|(with_reducible refine Kd.C_drewN ?_ _)|(with_reducible refine Kd.C_drew ?_)));(case side2=>exact (Kd.R_reads' HO570.out).2.1);(case side3=>repeat (first|exact (Kd.R_reads' HO575.out).2.2|(with_reducible refine Kd.C_alloc ?_ _)|(with_reducible refine Kd.C_drewN ?_ _)|(with_reducible refine Kd.C_drew ?_)));(case side4=>exact (Kd.R_reads' HO575.out).2.1);rintro e w' ⟨rfl,⟨nd,rfl⟩⟩))
               go_ret
               exact ⟨by first|rfl|(simp [y0a,y09]<;>rfl)|(simp [*,y0a,y09]<;>rfl),by repeat (first|(with_reducible first|exact HB.out|apply y01|apply y00|apply y02|refine y03 ?_ GE556.out|refine y03 ?_ GE563.out)|exact HB.out)⟩
             ·rw [if_neg c56] at H
              have c56b0:(t576 == 0)=false:=beq_eq_false_iff_ne.mpr c56;have c56b1:(t576 != 0)=true:=bne_iff_ne.mpr c56;obtain rfl:=Option.some.inj H;go_wp2_with (first|((with_reducible refine y08 (f:=25) rfl ?_);refine y0l (some 77) rfl rfl Tra.func25 (by kernel_rfl) rfl #[.slice A0 l0.length c0] rfl (by (try simp only [List.map_toArray,List.map_cons,List.map_nil]);first|done|rfl|(simp only [List.length_drop,List.length_take];rfl)) ?_;(with_reducible refine (mobs_Between.calls kj26 (fun k_=>k_<w.heap.size) _ _ l0 t564 t567 _ ?side1 A40.out).mono ?_);(case side1=>exact Kd.V_mk HC0.out (Kd.F_below (Kd.C_F (Kd.heap_int .i64) HR0.out) (by repeat (first|(with_reducible first|exact HB.out|apply y01|apply y00|apply y02|refine y03 ?_ GE556.out|refine y03 ?_ GE563.out)|exact HB.out))));rintro e w73 ⟨v565,rfl,ho0,hb⟩;refine ⟨_,rfl,?_⟩;have n0_:=As0.mk (Kd.R_elder' (by (with_reducible repeat (first|apply Kd.R_alloc|apply Kd.R_drewN|apply Kd.R_drew));exact HO_5.out) (Kd.R_base ho0) hb);have n1_:=As0.mk (Kd.R_lower (Kd.R_new' (Kd.R_mono (ok':=fun k_=>True) ho0 (fun _ hk_=>trivial)) (Kd.R_lt (by (with_reducible repeat (first|apply Kd.R_alloc|apply Kd.R_drewN|apply Kd.R_drew));exact HO_5.out))) (y05 (by repeat (first|(with_reducible first|exact HB.out|apply y01|apply y00|apply y02|refine y03 ?_ GE556.out|refine y03 ?_ GE563.out)|exact HB.out))));have n2_:=As0.mk (y0d (g:=gb556) (o:=.cells #[.int .i64 t550,.int .i64 t551,.int .i64 t552,.int .i64 t553] 31 (0,0)) (by (with_reducible repeat (first|refine y04 ?_ _|refine blk_drew ?_|refine blk_alloc ?_ _));exact BK556.out) hb);have n3_:=As0.mk (y0d (g:=gb563) (o:=.cells #[.int .i64 t557,.int .i64 t558,.int .i64 t559,.int .i64 t560] 31 (0,0)) (by (with_reducible repeat (first|refine y04 ?_ _|refine blk_drew ?_|refine blk_alloc ?_ _));exact BK563.out) hb);have n4_:=As0.mk (y06 (by repeat (first|(with_reducible first|exact HB.out|apply y01|apply y00|apply y02|refine y03 ?_ GE556.out|refine y03 ?_ GE563.out)|exact HB.out)) hb);clear HO_5;clear BK556;clear BK563;clear HB;have HO_5:=n0_;have HO566:=n1_;have BK556:=n2_;have BK563:=n3_;have HB:=n4_;clear n0_ n1_ n2_ n3_ n4_;(try clear hb);(try clear hb2);(try clear hk);(try clear hi);(try clear ho0))|((with_reducible refine y08 (f:=25) rfl ?_);refine y0l (some 82) rfl rfl Tra.func25 (by kernel_rfl) rfl #[.slice Ao32 t543.length co32] rfl (by (try simp only [List.map_toArray,List.map_cons,List.map_nil]);first|done|rfl|(simp only [List.length_drop,List.length_take];rfl)) ?_;(with_reducible refine (mobs_Between.calls kj26 (fun k_=>some k_=(.slice Ao32 t543.length co32:Value).ownBlock) _ _ t543 t568 t571 _ ?side1 A41.out).mono ?_);(case side1=>exact Kd.R_V (Kd.R_tight rfl (Kd.R_types (Kd.R_types (HO_5.out) BK556.out (by decide)) BK563.out (by decide))));rintro e w74 ⟨v569,rfl,ho0,hb⟩;refine ⟨_,rfl,?_⟩;have n0_:=As0.mk (Kd.R_elder' (by (with_reducible repeat (first|apply Kd.R_alloc|apply Kd.R_drewN|apply Kd.R_drew));exact HO_5.out) (Kd.R_base ho0) hb);have n1_:=As0.mk (Kd.R_elder' (by (with_reducible repeat (first|apply Kd.R_alloc|apply Kd.R_drewN|apply Kd.R_drew));exact HO566.out) (Kd.R_base ho0) hb);have n2_:=As0.mk (Kd.R_lower (Kd.R_new' (Kd.R_new' (Kd.R_mono (ok':=fun k_=>True) ho0 (fun _ hk_=>trivial)) (Kd.R_lt (by (with_reducible repeat (first|apply Kd.R_alloc|apply Kd.R_drewN|apply Kd.R_drew));exact HO_5.out))) (Kd.R_lt (by (with_reducible repeat (first|apply Kd.R_alloc|apply Kd.R_drewN|apply Kd.R_drew));exact HO566.out))) (y05 (by repeat (first|(with_reducible first|exact HB.out|apply y01|apply y00|apply y02|refine y03 ?_ GE556.out|refine y03 ?_ GE563.out)|exact HB.out))));have n3_:=As0.mk (y0d (g:=gb556) (o:=.cells #[.int .i64 t550,.int .i64 t551,.int .i64 t552,.int .i64 t553] 31 (0,0)) (by (with_reducible repeat (first|refine y04 ?_ _|refine blk_drew ?_|refine blk_alloc ?_ _));exact BK556.out) hb);have n4_:=As0.mk (y0d (g:=gb563) (o:=.cells #[.int .i64 t557,.int .i64 t558,.int .i64 t559,.int .i64 t560] 31 (0,0)) (by (with_reducible repeat (first|refine y04 ?_ _|refine blk_drew ?_|refine blk_alloc ?_ _));exact BK563.out) hb);have n5_:=As0.mk (y06 (by repeat (first|(with_reducible first|exact HB.out|apply y01|apply y00|apply y02|refine y03 ?_ GE556.out|refine y03 ?_ GE563.out)|exact HB.out)) hb);clear HO_5;clear HO566;clear BK556;clear BK563;clear HB;have HO_5:=n0_;have HO566:=n1_;have HO570:=n2_;have BK556:=n3_;have BK563:=n4_;have HB:=n5_;clear n0_ n1_ n2_ n3_ n4_ n5_;(try clear hb);(try clear hb2);(try clear hk);(try clear hi);(try clear ho0);obtain ⟨Ao75,co75,eo75⟩:=Kd.R_slice HO566.out;subst eo75)|((with_reducible refine y08 (f:=28) rfl ?_);refine y0l (some 98) rfl rfl Tra.func28 (by kernel_rfl) rfl #[.slice Ao75 t564.length co75,.int .i64 a1] rfl (by (try simp only [List.map_toArray,List.map_cons,List.map_nil]);first|done|rfl|(simp only [List.length_drop,List.length_take];rfl)) ?_;(with_reducible refine (mobs_Around.calls kj26 (fun k_=>some k_=(.slice Ao75 t564.length co75:Value).ownBlock) _ _ t564 a1 t573 t576 _ ?side1 A53.out).mono ?_);(case side1=>exact Kd.R_V (Kd.R_tight rfl (Kd.R_types (Kd.R_types (HO566.out) BK556.out (by decide)) BK563.out (by decide))));rintro e w76 ⟨v574,rfl,ho0,hb⟩;refine ⟨_,rfl,?_⟩;have n0_:=As0.mk (Kd.R_elder' (by (with_reducible repeat (first|apply Kd.R_alloc|apply Kd.R_drewN|apply Kd.R_drew));exact HO_5.out) (Kd.R_base ho0) hb);have n1_:=As0.mk (Kd.R_elder' (by (with_reducible repeat (first|apply Kd.R_alloc|apply Kd.R_drewN|apply Kd.R_drew));exact HO566.out) (Kd.R_base ho0) hb);have n2_:=As0.mk (Kd.R_elder' (by (with_reducible repeat (first|apply Kd.R_alloc|apply Kd.R_drewN|apply Kd.R_drew));exact HO570.out) (Kd.R_base ho0) hb);have n3_:=As0.mk (Kd.R_lower (Kd.R_new' (Kd.R_new' (Kd.R_new' (Kd.R_mono (ok':=fun k_=>True) ho0 (fun _ hk_=>trivial)) (Kd.R_lt (by (with_reducible repeat (first|apply Kd.R_alloc|apply Kd.R_drewN|apply Kd.R_drew));exact HO_5.out))) (Kd.R_lt (by (with_reducible repeat (first|apply Kd.R_alloc|apply Kd.R_drewN|apply Kd.R_drew));exact HO566.out))) (Kd.R_lt (by (with_reducible repeat (first|apply Kd.R_alloc|apply Kd.R_drewN|apply Kd.R_drew));exact HO570.out))) (y05 (by repeat (first|(with_reducible first|exact HB.out|apply y01|apply y00|apply y02|refine y03 ?_ GE556.out|refine y03 ?_ GE563.out)|exact HB.out))));have n4_:=As0.mk (y0d (g:=gb556) (o:=.cells #[.int .i64 t550,.int .i64 t551,.int .i64 t552,.int .i64 t553] 31 (0,0)) (by (with_reducible repeat (first|refine y04 ?_ _|refine blk_drew ?_|refine blk_alloc ?_ _));exact BK556.out) hb);have n5_:=As0.mk (y0d (g:=gb563) (o:=.cells #[.int .i64 t557,.int .i64 t558,.int .i64 t559,.int .i64 t560] 31 (0,0)) (by (with_reducible repeat (first|refine y04 ?_ _|refine blk_drew ?_|refine blk_alloc ?_ _));exact BK563.out) hb);have n6_:=As0.mk (y06 (by repeat (first|(with_reducible first|exact HB.out|apply y01|apply y00|apply y02|refine y03 ?_ GE556.out|refine y03 ?_ GE563.out)|exact HB.out)) hb);clear HO_5;clear HO566;clear HO570;clear BK556;clear BK563;clear HB;have HO_5:=n0_;have HO566:=n1_;have HO570:=n2_;have HO575:=n3_;have BK556:=n4_;have BK563:=n5_;have HB:=n6_;clear n0_ n1_ n2_ n3_ n4_ n5_ n6_;(try clear hb);(try clear hb2);(try clear hk);(try clear hi);(try clear ho0)))
              go_ret
              exact ⟨by first|rfl|(simp [y0a,y09]<;>rfl)|(simp [*,y0a,y09]<;>rfl),by repeat (first|(with_reducible first|exact HB.out|apply y01|apply y00|apply y02|refine y03 ?_ GE556.out|refine y03 ?_ GE563.out)|exact HB.out)⟩
            ·rw [if_neg c55] at H
             have c55b0:(t571 == 0)=false:=beq_eq_false_iff_ne.mpr c55;have c55b1:(t571 != 0)=true:=bne_iff_ne.mpr c55;obtain rfl:=Option.some.inj H;go_wp2_with (first|((with_reducible refine y08 (f:=25) rfl ?_);refine y0l (some 77) rfl rfl Tra.func25 (by kernel_rfl) rfl #[.slice A0 l0.length c0] rfl (by (try simp only [List.map_toArray,List.map_cons,List.map_nil]);first|done|rfl|(simp only [List.length_drop,List.length_take];rfl)) ?_;(with_reducible refine (mobs_Between.calls kj26 (fun k_=>k_<w.heap.size) _ _ l0 t564 t567 _ ?side1 A40.out).mono ?_);(case side1=>exact Kd.V_mk HC0.out (Kd.F_below (Kd.C_F (Kd.heap_int .i64) HR0.out) (by repeat (first|(with_reducible first|exact HB.out|apply y01|apply y00|apply y02|refine y03 ?_ GE556.out|refine y03 ?_ GE563.out)|exact HB.out))));rintro e w77 ⟨v565,rfl,ho0,hb⟩;refine ⟨_,rfl,?_⟩;have n0_:=As0.mk (Kd.R_elder' (by (with_reducible repeat (first|apply Kd.R_alloc|apply Kd.R_drewN|apply Kd.R_drew));exact HO_5.out) (Kd.R_base ho0) hb);have n1_:=As0.mk (Kd.R_lower (Kd.R_new' (Kd.R_mono (ok':=fun k_=>True) ho0 (fun _ hk_=>trivial)) (Kd.R_lt (by (with_reducible repeat (first|apply Kd.R_alloc|apply Kd.R_drewN|apply Kd.R_drew));exact HO_5.out))) (y05 (by repeat (first|(with_reducible first|exact HB.out|apply y01|apply y00|apply y02|refine y03 ?_ GE556.out|refine y03 ?_ GE563.out)|exact HB.out))));have n2_:=As0.mk (y0d (g:=gb556) (o:=.cells #[.int .i64 t550,.int .i64 t551,.int .i64 t552,.int .i64 t553] 31 (0,0)) (by (with_reducible repeat (first|refine y04 ?_ _|refine blk_drew ?_|refine blk_alloc ?_ _));exact BK556.out) hb);have n3_:=As0.mk (y0d (g:=gb563) (o:=.cells #[.int .i64 t557,.int .i64 t558,.int .i64 t559,.int .i64 t560] 31 (0,0)) (by (with_reducible repeat (first|refine y04 ?_ _|refine blk_drew ?_|refine blk_alloc ?_ _));exact BK563.out) hb);have n4_:=As0.mk (y06 (by repeat (first|(with_reducible first|exact HB.out|apply y01|apply y00|apply y02|refine y03 ?_ GE556.out|refine y03 ?_ GE563.out)|exact HB.out)) hb);clear HO_5;clear BK556;clear BK563;clear HB;have HO_5:=n0_;have HO566:=n1_;have BK556:=n2_;have BK563:=n3_;have HB:=n4_;clear n0_ n1_ n2_ n3_ n4_;(try clear hb);(try clear hb2);(try clear hk);(try clear hi);(try clear ho0))|((with_reducible refine y08 (f:=25) rfl ?_);refine y0l (some 82) rfl rfl Tra.func25 (by kernel_rfl) rfl #[.slice Ao32 t543.length co32] rfl (by (try simp only [List.map_toArray,List.map_cons,List.map_nil]);first|done|rfl|(simp only [List.length_drop,List.length_take];rfl)) ?_;(with_reducible refine (mobs_Between.calls kj26 (fun k_=>some k_=(.slice Ao32 t543.length co32:Value).ownBlock) _ _ t543 t568 t571 _ ?side1 A41.out).mono ?_);(case side1=>exact Kd.R_V (Kd.R_tight rfl (Kd.R_types (Kd.R_types (HO_5.out) BK556.out (by decide)) BK563.out (by decide))));rintro e w78 ⟨v569,rfl,ho0,hb⟩;refine ⟨_,rfl,?_⟩;have n0_:=As0.mk (Kd.R_elder' (by (with_reducible repeat (first|apply Kd.R_alloc|apply Kd.R_drewN|apply Kd.R_drew));exact HO_5.out) (Kd.R_base ho0) hb);have n1_:=As0.mk (Kd.R_elder' (by (with_reducible repeat (first|apply Kd.R_alloc|apply Kd.R_drewN|apply Kd.R_drew));exact HO566.out) (Kd.R_base ho0) hb);have n2_:=As0.mk (Kd.R_lower (Kd.R_new' (Kd.R_new' (Kd.R_mono (ok':=fun k_=>True) ho0 (fun _ hk_=>trivial)) (Kd.R_lt (by (with_reducible repeat (first|apply Kd.R_alloc|apply Kd.R_drewN|apply Kd.R_drew));exact HO_5.out))) (Kd.R_lt (by (with_reducible repeat (first|apply Kd.R_alloc|apply Kd.R_drewN|apply Kd.R_drew));exact HO566.out))) (y05 (by repeat (first|(with_reducible first|exact HB.out|apply y01|apply y00|apply y02|refine y03 ?_ GE556.out|refine y03 ?_ GE563.out)|exact HB.out))));have n3_:=As0.mk (y0d (g:=gb556) (o:=.cells #[.int .i64 t550,.int .i64 t551,.int .i64 t552,.int .i64 t553] 31 (0,0)) (by (with_reducible repeat (first|refine y04 ?_ _|refine blk_drew ?_|refine blk_alloc ?_ _));exact BK556.out) hb);have n4_:=As0.mk (y0d (g:=gb563) (o:=.cells #[.int .i64 t557,.int .i64 t558,.int .i64 t559,.int .i64 t560] 31 (0,0)) (by (with_reducible repeat (first|refine y04 ?_ _|refine blk_drew ?_|refine blk_alloc ?_ _));exact BK563.out) hb);have n5_:=As0.mk (y06 (by repeat (first|(with_reducible first|exact HB.out|apply y01|apply y00|apply y02|refine y03 ?_ GE556.out|refine y03 ?_ GE563.out)|exact HB.out)) hb);clear HO_5;clear HO566;clear BK556;clear BK563;clear HB;have HO_5:=n0_;have HO566:=n1_;have HO570:=n2_;have BK556:=n3_;have BK563:=n4_;have HB:=n5_;clear n0_ n1_ n2_ n3_ n4_ n5_;(try clear hb);(try clear hb2);(try clear hk);(try clear hi);(try clear ho0);obtain ⟨Ao79,co79,eo79⟩:=Kd.R_slice HO566.out;subst eo79)|((with_reducible refine y08 (f:=28) rfl ?_);refine y0l (some 98) rfl rfl Tra.func28 (by kernel_rfl) rfl #[.slice Ao79 t564.length co79,.int .i64 a1] rfl (by (try simp only [List.map_toArray,List.map_cons,List.map_nil]);first|done|rfl|(simp only [List.length_drop,List.length_take];rfl)) ?_;(with_reducible refine (mobs_Around.calls kj26 (fun k_=>some k_=(.slice Ao79 t564.length co79:Value).ownBlock) _ _ t564 a1 t573 t576 _ ?side1 A53.out).mono ?_);(case side1=>exact Kd.R_V (Kd.R_tight rfl (Kd.R_types (Kd.R_types (HO566.out) BK556.out (by decide)) BK563.out (by decide))));rintro e w80 ⟨v574,rfl,ho0,hb⟩;refine ⟨_,rfl,?_⟩;have n0_:=As0.mk (Kd.R_elder' (by (with_reducible repeat (first|apply Kd.R_alloc|apply Kd.R_drewN|apply Kd.R_drew));exact HO_5.out) (Kd.R_base ho0) hb);have n1_:=As0.mk (Kd.R_elder' (by (with_reducible repeat (first|apply Kd.R_alloc|apply Kd.R_drewN|apply Kd.R_drew));exact HO566.out) (Kd.R_base ho0) hb);have n2_:=As0.mk (Kd.R_elder' (by (with_reducible repeat (first|apply Kd.R_alloc|apply Kd.R_drewN|apply Kd.R_drew));exact HO570.out) (Kd.R_base ho0) hb);have n3_:=As0.mk (Kd.R_lower (Kd.R_new' (Kd.R_new' (Kd.R_new' (Kd.R_mono (ok':=fun k_=>True) ho0 (fun _ hk_=>trivial)) (Kd.R_lt (by (with_reducible repeat (first|apply Kd.R_alloc|apply Kd.R_drewN|apply Kd.R_drew));exact HO_5.out))) (Kd.R_lt (by (with_reducible repeat (first|apply Kd.R_alloc|apply Kd.R_drewN|apply Kd.R_drew));exact HO566.out))) (Kd.R_lt (by (with_reducible repeat (first|apply Kd.R_alloc|apply Kd.R_drewN|apply Kd.R_drew));exact HO570.out))) (y05 (by repeat (first|(with_reducible first|exact HB.out|apply y01|apply y00|apply y02|refine y03 ?_ GE556.out|refine y03 ?_ GE563.out)|exact HB.out))));have n4_:=As0.mk (y0d (g:=gb556) (o:=.cells #[.int .i64 t550,.int .i64 t551,.int .i64 t552,.int .i64 t553] 31 (0,0)) (by (with_reducible repeat (first|refine y04 ?_ _|refine blk_drew ?_|refine blk_alloc ?_ _));exact BK556.out) hb);have n5_:=As0.mk (y0d (g:=gb563) (o:=.cells #[.int .i64 t557,.int .i64 t558,.int .i64 t559,.int .i64 t560] 31 (0,0)) (by (with_reducible repeat (first|refine y04 ?_ _|refine blk_drew ?_|refine blk_alloc ?_ _));exact BK563.out) hb);have n6_:=As0.mk (y06 (by repeat (first|(with_reducible first|exact HB.out|apply y01|apply y00|apply y02|refine y03 ?_ GE556.out|refine y03 ?_ GE563.out)|exact HB.out)) hb);clear HO_5;clear HO566;clear HO570;clear BK556;clear BK563;clear HB;have HO_5:=n0_;have HO566:=n1_;have HO570:=n2_;have HO575:=n3_;have BK556:=n4_;have BK563:=n5_;have HB:=n6_;clear n0_ n1_ n2_ n3_ n4_ n5_ n6_;(try clear hb);(try clear hb2);(try clear hk);(try clear hi);(try clear ho0)))
             go_ret
             exact ⟨by first|rfl|(simp [y0a,y09]<;>rfl)|(simp [*,y0a,y09]<;>rfl),by repeat (first|(with_reducible first|exact HB.out|apply y01|apply y00|apply y02|refine y03 ?_ GE556.out|refine y03 ?_ GE563.out)|exact HB.out)⟩
           ·rw [if_neg c54] at H
            have c54b0:(t567 == 0)=false:=beq_eq_false_iff_ne.mpr c54;have c54b1:(t567 != 0)=true:=bne_iff_ne.mpr c54;obtain rfl:=Option.some.inj H;go_wp2_with (first|((with_reducible refine y08 (f:=25) rfl ?_);refine y0l (some 77) rfl rfl Tra.func25 (by kernel_rfl) rfl #[.slice A0 l0.length c0] rfl (by (try simp only [List.map_toArray,List.map_cons,List.map_nil]);first|done|rfl|(simp only [List.length_drop,List.length_take];rfl)) ?_;(with_reducible refine (mobs_Between.calls kj26 (fun k_=>k_<w.heap.size) _ _ l0 t564 t567 _ ?side1 A40.out).mono ?_);(case side1=>exact Kd.V_mk HC0.out (Kd.F_below (Kd.C_F (Kd.heap_int .i64) HR0.out) (by repeat (first|(with_reducible first|exact HB.out|apply y01|apply y00|apply y02|refine y03 ?_ GE556.out|refine y03 ?_ GE563.out)|exact HB.out))));rintro e w81 ⟨v565,rfl,ho0,hb⟩;refine ⟨_,rfl,?_⟩;have n0_:=As0.mk (Kd.R_elder' (by (with_reducible repeat (first|apply Kd.R_alloc|apply Kd.R_drewN|apply Kd.R_drew));exact HO_5.out) (Kd.R_base ho0) hb);have n1_:=As0.mk (Kd.R_lower (Kd.R_new' (Kd.R_mono (ok':=fun k_=>True) ho0 (fun _ hk_=>trivial)) (Kd.R_lt (by (with_reducible repeat (first|apply Kd.R_alloc|apply Kd.R_drewN|apply Kd.R_drew));exact HO_5.out))) (y05 (by repeat (first|(with_reducible first|exact HB.out|apply y01|apply y00|apply y02|refine y03 ?_ GE556.out|refine y03 ?_ GE563.out)|exact HB.out))));have n2_:=As0.mk (y0d (g:=gb556) (o:=.cells #[.int .i64 t550,.int .i64 t551,.int .i64 t552,.int .i64 t553] 31 (0,0)) (by (with_reducible repeat (first|refine y04 ?_ _|refine blk_drew ?_|refine blk_alloc ?_ _));exact BK556.out) hb);have n3_:=As0.mk (y0d (g:=gb563) (o:=.cells #[.int .i64 t557,.int .i64 t558,.int .i64 t559,.int .i64 t560] 31 (0,0)) (by (with_reducible repeat (first|refine y04 ?_ _|refine blk_drew ?_|refine blk_alloc ?_ _));exact BK563.out) hb);have n4_:=As0.mk (y06 (by repeat (first|(with_reducible first|exact HB.out|apply y01|apply y00|apply y02|refine y03 ?_ GE556.out|refine y03 ?_ GE563.out)|exact HB.out)) hb);clear HO_5;clear BK556;clear BK563;clear HB;have HO_5:=n0_;have HO566:=n1_;have BK556:=n2_;have BK563:=n3_;have HB:=n4_;clear n0_ n1_ n2_ n3_ n4_;(try clear hb);(try clear hb2);(try clear hk);(try clear hi);(try clear ho0))|((with_reducible refine y08 (f:=25) rfl ?_);refine y0l (some 82) rfl rfl Tra.func25 (by kernel_rfl) rfl #[.slice Ao32 t543.length co32] rfl (by (try simp only [List.map_toArray,List.map_cons,List.map_nil]);first|done|rfl|(simp only [List.length_drop,List.length_take];rfl)) ?_;(with_reducible refine (mobs_Between.calls kj26 (fun k_=>some k_=(.slice Ao32 t543.length co32:Value).ownBlock) _ _ t543 t568 t571 _ ?side1 A41.out).mono ?_);(case side1=>exact Kd.R_V (Kd.R_tight rfl (Kd.R_types (Kd.R_types (HO_5.out) BK556.out (by decide)) BK563.out (by decide))));rintro e w82 ⟨v569,rfl,ho0,hb⟩;refine ⟨_,rfl,?_⟩;have n0_:=As0.mk (Kd.R_elder' (by (with_reducible repeat (first|apply Kd.R_alloc|apply Kd.R_drewN|apply Kd.R_drew));exact HO_5.out) (Kd.R_base ho0) hb);have n1_:=As0.mk (Kd.R_elder' (by (with_reducible repeat (first|apply Kd.R_alloc|apply Kd.R_drewN|apply Kd.R_drew));exact HO566.out) (Kd.R_base ho0) hb);have n2_:=As0.mk (Kd.R_lower (Kd.R_new' (Kd.R_new' (Kd.R_mono (ok':=fun k_=>True) ho0 (fun _ hk_=>trivial)) (Kd.R_lt (by (with_reducible repeat (first|apply Kd.R_alloc|apply Kd.R_drewN|apply Kd.R_drew));exact HO_5.out))) (Kd.R_lt (by (with_reducible repeat (first|apply Kd.R_alloc|apply Kd.R_drewN|apply Kd.R_drew));exact HO566.out))) (y05 (by repeat (first|(with_reducible first|exact HB.out|apply y01|apply y00|apply y02|refine y03 ?_ GE556.out|refine y03 ?_ GE563.out)|exact HB.out))));have n3_:=As0.mk (y0d (g:=gb556) (o:=.cells #[.int .i64 t550,.int .i64 t551,.int .i64 t552,.int .i64 t553] 31 (0,0)) (by (with_reducible repeat (first|refine y04 ?_ _|refine blk_drew ?_|refine blk_alloc ?_ _));exact BK556.out) hb);have n4_:=As0.mk (y0d (g:=gb563) (o:=.cells #[.int .i64 t557,.int .i64 t558,.int .i64 t559,.int .i64 t560] 31 (0,0)) (by (with_reducible repeat (first|refine y04 ?_ _|refine blk_drew ?_|refine blk_alloc ?_ _));exact BK563.out) hb);have n5_:=As0.mk (y06 (by repeat (first|(with_reducible first|exact HB.out|apply y01|apply y00|apply y02|refine y03 ?_ GE556.out|refine y03 ?_ GE563.out)|exact HB.out)) hb);clear HO_5;clear HO566;clear BK556;clear BK563;clear HB;have HO_5:=n0_;have HO566:=n1_;have HO570:=n2_;have BK556:=n3_;have BK563:=n4_;have HB:=n5_;clear n0_ n1_ n2_ n3_ n4_ n5_;(try clear hb);(try clear hb2);(try clear hk);(try clear hi);(try clear ho0);obtain ⟨Ao83,co83,eo83⟩:=Kd.R_slice HO566.out;subst eo83)|((with_reducible refine y08 (f:=28) rfl ?_);refine y0l (some 98) rfl rfl Tra.func28 (by kernel_rfl) rfl #[.slice Ao83 t564.length co83,.int .i64 a1] rfl (by (try simp only [List.map_toArray,List.map_cons,List.map_nil]);first|done|rfl|(simp only [List.length_drop,List.length_take];rfl)) ?_;(with_reducible refine (mobs_Around.calls kj26 (fun k_=>some k_=(.slice Ao83 t564.length co83:Value).ownBlock) _ _ t564 a1 t573 t576 _ ?side1 A53.out).mono ?_);(case side1=>exact Kd.R_V (Kd.R_tight rfl (Kd.R_types (Kd.R_types (HO566.out) BK556.out (by decide)) BK563.out (by decide))));rintro e w84 ⟨v574,rfl,ho0,hb⟩;refine ⟨_,rfl,?_⟩;have n0_:=As0.mk (Kd.R_elder' (by (with_reducible repeat (first|apply Kd.R_alloc|apply Kd.R_drewN|apply Kd.R_drew));exact HO_5.out) (Kd.R_base ho0) hb);have n1_:=As0.mk (Kd.R_elder' (by (with_reducible repeat (first|apply Kd.R_alloc|apply Kd.R_drewN|apply Kd.R_drew));exact HO566.out) (Kd.R_base ho0) hb);have n2_:=As0.mk (Kd.R_elder' (by (with_reducible repeat (first|apply Kd.R_alloc|apply Kd.R_drewN|apply Kd.R_drew));exact HO570.out) (Kd.R_base ho0) hb);have n3_:=As0.mk (Kd.R_lower (Kd.R_new' (Kd.R_new' (Kd.R_new' (Kd.R_mono (ok':=fun k_=>True) ho0 (fun _ hk_=>trivial)) (Kd.R_lt (by (with_reducible repeat (first|apply Kd.R_alloc|apply Kd.R_drewN|apply Kd.R_drew));exact HO_5.out))) (Kd.R_lt (by (with_reducible repeat (first|apply Kd.R_alloc|apply Kd.R_drewN|apply Kd.R_drew));exact HO566.out))) (Kd.R_lt (by (with_reducible repeat (first|apply Kd.R_alloc|apply Kd.R_drewN|apply Kd.R_drew));exact HO570.out))) (y05 (by repeat (first|(with_reducible first|exact HB.out|apply y01|apply y00|apply y02|refine y03 ?_ GE556.out|refine y03 ?_ GE563.out)|exact HB.out))));have n4_:=As0.mk (y0d (g:=gb556) (o:=.cells #[.int .i64 t550,.int .i64 t551,.int .i64 t552,.int .i64 t553] 31 (0,0)) (by (with_reducible repeat (first|refine y04 ?_ _|refine blk_drew ?_|refine blk_alloc ?_ _));exact BK556.out) hb);have n5_:=As0.mk (y0d (g:=gb563) (o:=.cells #[.int .i64 t557,.int .i64 t558,.int .i64 t559,.int .i64 t560] 31 (0,0)) (by (with_reducible repeat (first|refine y04 ?_ _|refine blk_drew ?_|refine blk_alloc ?_ _));exact BK563.out) hb);have n6_:=As0.mk (y06 (by repeat (first|(with_reducible first|exact HB.out|apply y01|apply y00|apply y02|refine y03 ?_ GE556.out|refine y03 ?_ GE563.out)|exact HB.out)) hb);clear HO_5;clear HO566;clear HO570;clear BK556;clear BK563;clear HB;have HO_5:=n0_;have HO566:=n1_;have HO570:=n2_;have HO575:=n3_;have BK556:=n4_;have BK563:=n5_;have HB:=n6_;clear n0_ n1_ n2_ n3_ n4_ n5_ n6_;(try clear hb);(try clear hb2);(try clear hk);(try clear hi);(try clear ho0)))
            go_ret
            exact ⟨by first|rfl|(simp [y0a,y09]<;>rfl)|(simp [*,y0a,y09]<;>rfl),by repeat (first|(with_reducible first|exact HB.out|apply y01|apply y00|apply y02|refine y03 ?_ GE556.out|refine y03 ?_ GE563.out)|exact HB.out)⟩
def w6_MobsAround.Pure:Prop:=∀ (l0:List Int) (a1:Int),l0.length≤maxLen->l0.length * 8≤140737488351232->(∀ x ∈ l0,(Lit.int .i64 x).wf=true)->(Lit.int .i64 a1).wf=true->∃ k,w6_MobsAround.f k l0 a1=some true
theorem w6_MobsAround.walk (P:w6_MobsAround.Pure) (a0:Option Addr) (len0 cap0:Nat) (z0:List Int) (a1:Int) (w:World) (w0:(a0=none∧len0=0∧cap0=0∧z0=[])∨∃ x,a0=some x∧len0≤cap0∧cap0≤maxLen∧z0.length=cap0∧(∀ i,i<z0.length->w.cell? (x.add i)=some (.int .i64 (z0.getD i 0)))∧∀ n ∈ z0,(Lit.int .i64 n).wf=true) (y0:len0 * 8≤140737488351232) (w1:(Lit.int .i64 a1).wf=true) :
  Calls Tra.prog 7 #[.slice a0 len0 cap0,.int .i64 a1] w fun e w'=>e=.returned (.bool true)∧Below w.heap.size w w':=by
 obtain ⟨l0,rfl,hr0,hm0,hw0,hc0⟩:=ReadsInt.ofRowC w0;obtain ⟨k,h⟩:=P l0 a1 hm0 y0 hw0 w1;refine (w6_MobsAround.calls k _ _ l0 a1 true w (Kd.C_of_reads (d:=(0:Int)) (h1:=fun _=>rfl) hr0) hc0 h).mono ?_
 rintro e w' ⟨rfl,hd⟩
 exact ⟨rfl,hd⟩
end Go.Proofs.Ytdhgeondbnpeoaa.P
namespace Go.Proofs.Ytdhgeondbnpeoaa.Pl
open Go.RowKit Go.Proofs.Ytdhgeondbnpeoaa.P Go.Proofs.YtdhgeondbnpeoaaW.PrintWords Go.Proofs.YtdhgeondbnpeoaaW.PrintLast
def rgs:Int->List Int->Bool
 |_,[]=>true
 |m,x :: l=>decide (0≤x) && (decide (x≤m) && rgs (if x=m then m+1 else m) l)
def isP (l:List Int):Bool:=decide (l.length≤12) && rgs 0 l
theorem w64 {x:Int} (h0:-1000000000≤x) (h1:x≤1000000000):wrap64 x=x:=by unfold wrap64;omega
theorem rd_at {l:List Int} {i:Nat} (h:i<l.length):rd l (i:Int)=l[i]:=by simp [rd,List.getD_eq_getElem?_getD,List.getElem?_eq_getElem h]
theorem ref_l (l:List Int) (hn:l.length≤12):∀ (j i k:Nat) (m:Int),i+j=l.length->2 * j+2≤k->0≤m->m≤i->r6_IsParting.l0 k l m (i:Int)=some (rgs m (l.drop i))
 |0,i,k+1,m,hi,hk,h0,h1=>by
  unfold r6_IsParting.l0;rw [if_neg (by omega),List.drop_of_length_le (by omega)];rfl
 |j+1,i,k+2,m,hi,hk,h0,h1=>by
  have hlt:i<l.length:=by omega
  unfold r6_IsParting.l0;rw [if_pos (by omega),if_pos (by omega),rd_at hlt,List.drop_eq_getElem_cons hlt];unfold rgs r6_IsParting.j1
  by_cases hx:l[i]<0
  ·rw [if_pos hx,if_pos rfl,decide_eq_false (by omega)]
   rfl
  ·rw [if_neg hx,decide_eq_true (show 0≤l[i] by omega)]
   by_cases hm:l[i] > m
   ·rw [decide_eq_true hm,if_pos rfl,decide_eq_false (by omega)]
    rfl
   ·rw [decide_eq_false hm,if_neg (by decide),if_pos (by omega),if_pos (by omega),rd_at hlt,decide_eq_true (show l[i]≤m by omega)]
    simp only [Bool.true_and]
    by_cases he:l[i]=m
    ·rw [if_pos he,if_pos he,w64 (by omega) (by omega),w64 (by omega) (by omega)]
     exact ref_l l hn j (i+1) k (m+1) (by omega) (by omega) (by omega) (by omega)
    ·rw [if_neg he,if_neg he,w64 (x:=(i:Int)+1) (by omega) (by omega)]
     exact ref_l l hn j (i+1) k m (by omega) (by omega) (by omega) (by omega)
theorem ref_isP (l:List Int) {k:Nat} (hk:30≤k):r6_IsParting.f k l=some (isP l):=by
 unfold r6_IsParting.f isP
 by_cases h:l.length≤12
 ·have h1:r6_IsParting.l0 k l 0 0=_:=ref_l l h l.length 0 k 0 (by omega) (by omega) (by omega) (by omega)
  rw [if_neg (by omega),decide_eq_true h,h1];rfl
 ·rw [if_pos (by omega),decide_eq_false h]
  rfl
theorem mobs_l (l:List Int) (hn:l.length≤12):∀ (j i k:Nat) (m:Int),i+j=l.length->j+1≤k->0≤m->m≤i->mobs_IsParting.l0 k m l (l.length:Int) (i:Int)=some (rgs m (l.drop i))
 |0,i,k+1,m,hi,hk,h0,h1=>by
  unfold mobs_IsParting.l0;rw [if_neg (by omega),List.drop_of_length_le (by omega)];rfl
 |j+1,i,k+1,m,hi,hk,h0,h1=>by
  have hlt:i<l.length:=by omega
  unfold mobs_IsParting.l0;rw [if_pos (by omega),if_pos (by omega),if_pos (by omega),rd_at hlt,List.drop_eq_getElem_cons hlt];unfold rgs
  by_cases hx:l[i]<0
  ·rw [if_pos hx,decide_eq_false (by omega)]
   rfl
  ·rw [if_neg hx,decide_eq_true (show 0≤l[i] by omega)]
   by_cases hm:l[i] > m
   ·rw [if_pos hm,decide_eq_false (by omega)]
    rfl
   ·rw [if_neg hm,decide_eq_true (show l[i]≤m by omega),w64 (x:=l[i]+1) (by omega) (by omega),w64 (x:=(i:Int)+1) (by omega) (by omega)]
    simp only [Bool.true_and];have e:mx m (l[i]+1)=if l[i]=m then m+1 else m:=by
     unfold mx;split<;>split<;>omega
    rw [e];split
    ·exact mobs_l l hn j (i+1) k (m+1) (by omega) (by omega) (by omega) (by omega)
    ·exact mobs_l l hn j (i+1) k m (by omega) (by omega) (by omega) (by omega)
theorem mobs_isP (l:List Int) {k:Nat} (hk:20≤k):mobs_IsParting.f k l=some (isP l):=by
 unfold mobs_IsParting.f isP
 by_cases h:l.length≤12
 ·have h1:mobs_IsParting.l0 k 0 l (l.length:Int) 0=_:=mobs_l l h l.length 0 k 0 (by omega) (by omega) (by omega) (by omega)
  rw [if_neg (by omega),decide_eq_true h,h1];rfl
 ·rw [if_pos (by omega),decide_eq_false h]
  rfl
theorem isP_len {l:List Int} (h:isP l=true):l.length≤12:=by
 simp only [isP,Bool.and_eq_true,decide_eq_true_eq] at h;exact h.1
theorem rd_nat (l:List Int) (i:Nat):rd l (i:Int)=l.getD i 0:=rfl
theorem same_l (a b:List Int) (hl:a.length=b.length) (hn:a.length≤40):∀ (d i k:Nat),i+d=a.length->d+1≤k->w6_same.l0 k a b (i:Int)=some (decide (a.drop i=b.drop i))
 |0,i,k+1,hi,hk=>by
  unfold w6_same.l0;rw [if_neg (by omega),List.drop_of_length_le (by omega),List.drop_of_length_le (by omega),decide_eq_true rfl]
 |d+1,i,k+1,hi,hk=>by
  have h1:i<a.length:=by omega
  have h2:i<b.length:=by omega
  unfold w6_same.l0;rw [if_pos (by omega),if_pos (by omega),if_pos (by omega),rd_at h1,rd_at h2,List.drop_eq_getElem_cons h1,List.drop_eq_getElem_cons h2,w64 (x:=(i:Int)+1) (by omega) (by omega)]
  by_cases he:a[i]=b[i]
  ·rw [if_pos he]
   have ih:=same_l a b hl hn d (i+1) k (by omega) (by omega);rw [show ((i+1:Nat):Int)=(i:Int)+1 by omega] at ih;rw [ih]
   congr 1
   rw [Bool.eq_iff_iff,decide_eq_true_iff,decide_eq_true_iff,List.cons.injEq];exact ⟨fun h=>⟨he,h⟩,fun h=>h.2⟩
  ·rw [if_neg he]
   congr 1
   rw [eq_comm,decide_eq_false_iff_not,List.cons.injEq];exact fun h=>he h.1
theorem same_f {a b:List Int} (hn:a.length≤40) {k:Nat} (hk:50≤k):w6_same.f k a b=some (decide (a=b)):=by
 unfold w6_same.f
 by_cases hl:a.length=b.length
 ·rw [if_pos (by omega)]
  have h:=same_l a b hl hn a.length 0 k (by omega) (by omega);simpa using h
 ·rw [if_neg (by omega)]
  congr 1
  rw [eq_comm,decide_eq_false_iff_not];exact fun h=>hl (congrArg _ h)
end Go.Proofs.Ytdhgeondbnpeoaa.Pl
namespace Go.Proofs.Ytdhgeondbnpeoaa.Pl
open Go.RowKit Go.Proofs.Ytdhgeondbnpeoaa.P Go.Proofs.YtdhgeondbnpeoaaW.PrintWords Go.Proofs.YtdhgeondbnpeoaaW.PrintLast
def TB (t:List (List Int)) (left m:Nat):Int:=(t.getD left []).getD m 0
def nx (m x:Int):Int:=if x=m then m+1 else m
def st (m:Int) (l:List Int):Int:=l.foldl nx m
theorem mx_nx {m x:Int} (h:x≤m):mx m (x+1)=nx m x:=by
 unfold mx nx;split<;>split<;>omega
theorem nx_bd {m x:Int}:m≤nx m x∧nx m x≤m+1:=by
 unfold nx;split<;>omega
theorem rgs_split:∀ (l:List Int) (m:Int) (i:Nat),rgs m l=true->0≤m->rgs m (l.take i)=true∧rgs (st m (l.take i)) (l.drop i)=true∧m≤st m (l.take i)∧st m (l.take i)≤m+i
 |l,m,0,h,_=>by simp [st,rgs,h]
 |[],m,i+1,h,_=>by simp [st,rgs];omega
 |x :: l,m,i+1,h,h0=>by
  simp only [rgs,Bool.and_eq_true,decide_eq_true_eq] at h;obtain ⟨h1,h2,h3⟩:=h;have hb:=@nx_bd m x;have h3':rgs (nx m x) l=true:=h3;obtain ⟨a1,a2,a3,a4⟩:=rgs_split l (nx m x) i h3' (by omega);refine ⟨?_,a2,?_,?_⟩
  ·simp only [List.take_succ_cons,rgs,Bool.and_eq_true,decide_eq_true_eq]
   exact ⟨h1,h2,a1⟩
  ·show m≤st (nx m x) (l.take i)
   omega
  ·show st (nx m x) (l.take i)≤_
   omega
theorem st_snoc {l:List Int} {i:Nat} (h:i<l.length) (m:Int):st m (l.take (i+1))=nx (st m (l.take i)) l[i]:=by
 unfold st;rw [List.take_succ_eq_append_getElem h,List.foldl_append];rfl
theorem many_l (p:List Int) (hn:p.length≤12):∀ (d j k:Nat) (m:Int),j+d=p.length->d+1≤k->0≤m->m≤j->rgs m (p.drop j)=true->r6_Many.l0 k p m (j:Int)=some (st m (p.drop j))
 |0,j,k+1,m,hj,hk,h0,h1,hr=>by
  unfold r6_Many.l0;rw [if_neg (by omega),List.drop_of_length_le (by omega)];rfl
 |d+1,j,k+1,m,hj,hk,h0,h1,hr=>by
  have hlt:j<p.length:=by omega
  rw [List.drop_eq_getElem_cons hlt] at hr ⊢;simp only [rgs,Bool.and_eq_true,decide_eq_true_eq] at hr;obtain ⟨r1,r2,r3⟩:=hr;have hb:=@nx_bd m p[j];unfold r6_Many.l0;rw [if_pos (by omega),if_pos (by omega),rd_at hlt,w64 (x:=p[j]+1) (by omega) (by omega),w64 (x:=(j:Int)+1) (by omega) (by omega),mx_nx r2];exact many_l p hn d (j+1) k (nx m p[j]) (by omega) (by omega) (by omega) (by omega) r3
theorem many_f {p:List Int} (hn:p.length≤12) (hr:rgs 0 p=true) {k:Nat} (hk:20≤k):r6_Many.f k p=some (st 0 p):=by
 have h:r6_Many.l0 k p 0 0=_:=many_l p hn p.length 0 k 0 (by omega) (by omega) (by omega) (by omega) (by simpa using hr);unfold r6_Many.f;rw [h];rfl
theorem read_one (l:List Int) {k:Nat} (hk:30≤k):mobs_read.f k [l]=some (if l.length≤12 then (if isP l=true then 0 else 2) else 3):=by
 obtain ⟨k,rfl⟩:∃ j,k=j+2:=⟨k - 2,by omega⟩
 have e0:rd_L1 [l] 0=l:=rfl;have w1:wrap64 (0+1)=1:=by rw [w64 (by omega) (by omega)];rfl
 unfold mobs_read.f;simp only [List.length_cons,List.length_nil];unfold mobs_read.l0;rw [if_pos (by decide),if_pos (by decide),if_pos (by simp),e0]
 by_cases hl:l.length≤12
 ·rw [if_neg (by omega),if_pos hl,mobs_isP l (by omega)]
  simp only [Option.bind_some]
  by_cases hp:isP l=true
  ·rw [if_pos hp,if_pos hp,w1]
   unfold mobs_read.l0;rw [if_neg (by decide),if_neg (by simp)]
  ·rw [if_neg hp,if_neg hp]
 ·rw [if_pos (by omega),if_neg hl]
end Go.Proofs.Ytdhgeondbnpeoaa.Pl
namespace Go.Proofs.Ytdhgeondbnpeoaa.Pl
open Go.RowKit Go.Proofs.Ytdhgeondbnpeoaa.P Go.Proofs.YtdhgeondbnpeoaaW.PrintWords Go.Proofs.YtdhgeondbnpeoaaW.PrintLast Go.Proofs.Ytdhgeondbnpeoaa.Ext
def Ev (p:Nat->Prop):Prop:=∃ k0,∀ k,k0≤k->p k
theorem Ev.and {p q:Nat->Prop} (h:Ev p) (h':Ev q):Ev fun k=>p k∧q k:=by
 obtain ⟨a,ha⟩:=h;obtain ⟨b,hb⟩:=h';exact ⟨a+b,fun k hk=>⟨ha k (by omega),hb k (by omega)⟩⟩
theorem Ev.step {p q:Nat->Prop} (h:Ev p) (hs:∀ k,p k->q (k+1)):Ev q:=by
 obtain ⟨a,ha⟩:=h;refine ⟨a+1,fun k hk=>?_⟩;obtain ⟨j,rfl⟩:∃ j,k=j+1:=⟨k - 1,by omega⟩
 exact hs j (ha j (by omega))
theorem Ev.mono {p q:Nat->Prop} (h:Ev p) (hs:∀ k,p k->q k):Ev q:=by
 obtain ⟨a,ha⟩:=h;exact ⟨a,fun k hk=>hs k (ha k hk)⟩
theorem Ev.all {p:Nat->Prop} (h:∀ k,p k):Ev p:=⟨0,fun k _=>h k⟩
theorem Ev.next {q:Nat->Prop} (h:∀ k,q (k+1)):Ev q:=(Ev.all (p:=fun _=>True) fun _=>trivial).step fun k _=>h k
theorem Ev.ge {p:Nat->Prop} (n:Nat) (h:∀ k,n≤k->p k):Ev p:=⟨n,h⟩
theorem Ev.ex {p:Nat->Prop} (h:Ev p):∃ k,p k:=by
 obtain ⟨a,ha⟩:=h;exact ⟨a,ha a (Nat.le_refl _)⟩
theorem snoc_ind {α:Type} {p:List α->Prop} (h0:p []) (h1:∀ l x,p l->p (l ++ [x])) (l:List α):p l:=by
 have h:∀ r:List α,p r.reverse:=by
  intro r
  induction r with
  |nil=>exact h0
  |cons x r ih =>
   rw [List.reverse_cons];exact h1 _ _ ih
 simpa using h l.reverse
section
variable {α:Type} [DecidableEq α]
def keysOf (l:List α):List α:=(numSt l).1
theorem keys_snoc (l:List α) (x:α):keysOf (l ++ [x])=met (keysOf l) x:=by
 unfold keysOf;rw [numSt_snoc];rfl
theorem numL_snoc (l:List α) (x:α):numL (l ++ [x])=numL l ++ [((met (keysOf l) x).idxOf x:Int)]:=by
 unfold keysOf numL;rw [numSt_snoc];rfl
theorem mem_met {S:List α} {x y:α}:y ∈ met S x ↔ y ∈ S∨y=x:=by
 unfold met;split
 ·rename_i h
  exact ⟨Or.inl,fun h'=>h'.elim id fun e=>e ▸ h⟩
 ·simp
theorem mem_keys {x:α} (l:List α):x ∈ keysOf l ↔ x ∈ l:=by
 refine snoc_ind (p:=fun l=>x ∈ keysOf l ↔ x ∈ l) (by simp [keysOf,numSt]) (fun l y ih=>?_) l;rw [keys_snoc,mem_met,ih];simp
theorem met_idx {S:List α} {x y:α} (h:y ∈ S):(met S x).idxOf y=S.idxOf y:=by
 unfold met;split
 ·rfl
 ·rw [List.idxOf_append,if_pos h]
theorem numL_map (l:List α):numL l=l.map fun x=>(((keysOf l).idxOf x:Nat):Int):=by
 refine snoc_ind (p:=fun l=>numL l=l.map fun x=>(((keysOf l).idxOf x:Nat):Int)) rfl (fun l y ih=>?_) l;rw [numL_snoc,keys_snoc,List.map_append,ih]
 congr 1
 refine List.map_congr_left fun x hx=>?_
 rw [met_idx ((mem_keys l).2 hx)]
theorem numL_get {l:List α} {i:Nat} (h:i<l.length):(numL l).getD i 0=(((keysOf l).idxOf l[i]:Nat):Int):=by
 rw [numL_map,List.getD_eq_getElem?_getD,List.getElem?_map,List.getElem?_eq_getElem h];rfl
theorem idx_inj {S:List α} {x y:α} (hx:x ∈ S) (h:S.idxOf x=S.idxOf y):x=y:=by
 have h1:S.idxOf x<S.length:=List.idxOf_lt_length_iff.2 hx;have h2:S.idxOf y<S.length:=h ▸ h1;rw [← List.getElem_idxOf h1,← List.getElem_idxOf h2];simp only [h]
theorem numL_ker {l:List α} {i j:Nat} (hi:i<l.length) (hj:j<l.length):(numL l).getD i 0=(numL l).getD j 0 ↔ l[i]=l[j]:=by
 rw [numL_get hi,numL_get hj];refine ⟨fun h=>idx_inj ((mem_keys l).2 (List.getElem_mem hi)) (by omega),fun h=>by rw [h]⟩
theorem st_app (m:Int) (l:List Int) (x:Int):st m (l ++ [x])=nx (st m l) x:=by
 unfold st;rw [List.foldl_append];rfl
theorem rgs_app:∀ (l:List Int) (m x:Int),rgs m l=true->0≤x->x≤st m l->rgs m (l ++ [x])=true
 |[],m,x,_,h0,h1=>by
  simp only [List.nil_append,rgs,Bool.and_eq_true,decide_eq_true_eq];exact ⟨h0,h1,trivial⟩
 |y :: l,m,x,h,h0,h1=>by
  simp only [List.cons_append,rgs,Bool.and_eq_true,decide_eq_true_eq] at h ⊢;exact ⟨h.1,h.2.1,rgs_app l _ x h.2.2 h0 h1⟩
theorem numL_rgs (l:List α):rgs 0 (numL l)=true∧st 0 (numL l)=((keysOf l).length:Int):=by
 refine snoc_ind (p:=fun l=>rgs 0 (numL l)=true∧st 0 (numL l)=((keysOf l).length:Int)) ⟨rfl,rfl⟩ (fun l x ih=>?_) l;obtain ⟨h1,h2⟩:=ih;rw [numL_snoc,keys_snoc,st_app,h2]
 by_cases hx:x ∈ keysOf l
 ·have h3:=List.idxOf_lt_length_iff.2 hx
  rw [met,if_pos hx,nx,if_neg (by omega)];exact ⟨rgs_app _ _ _ h1 (by omega) (by omega),rfl⟩
 ·have h3:(keysOf l ++ [x]).idxOf x=(keysOf l).length:=by
   rw [List.idxOf_append,if_neg hx];simp
  rw [met,if_neg hx,h3,nx,if_pos rfl];exact ⟨rgs_app _ _ _ h1 (by omega) (by omega),by simp⟩
theorem numL_isP {l:List α} (h:l.length≤12):isP (numL l)=true:=by
 simp only [isP,Bool.and_eq_true,decide_eq_true_eq];exact ⟨by rw [numL_len];exact h,(numL_rgs l).1⟩
def cnt (l:List α):Nat:=(keysOf l).length
theorem cnt_snoc (l:List α) (x:α):cnt (l ++ [x])=cnt l+if x ∈ l then 0 else 1:=by
 unfold cnt;rw [keys_snoc,met]
 by_cases h:x ∈ l
 ·rw [if_pos h,if_pos ((mem_keys l).2 h),Nat.add_zero]
 ·rw [if_neg h,if_neg fun h'=>h ((mem_keys l).1 h')]
  simp
theorem cnt_cons (x:α) (l:List α):cnt (x :: l)=cnt l+if x ∈ l then 0 else 1:=by
 refine snoc_ind (p:=fun l=>cnt (x :: l)=cnt l+if x ∈ l then 0 else 1) rfl (fun l y ih=>?_) l;rw [← List.cons_append,cnt_snoc,cnt_snoc,ih]
 by_cases e:x=y
 ·subst e
  by_cases h:x ∈ l<;>simp [h]
 ·have e':¬ y=x:=fun h=>e h.symm
  by_cases h:x ∈ l<;>by_cases h':y ∈ l<;>simp [h,h',e,e']
end
def KE (l l':List Int):Prop:=l.length=l'.length∧∀ i j,i<l.length->j<l.length->(l.getD i 0=l.getD j 0 ↔ l'.getD i 0=l'.getD j 0)
theorem KE.refl (l:List Int):KE l l:=⟨rfl,fun _ _ _ _=>Iff.rfl⟩
theorem KE.symm {l l':List Int} (h:KE l l'):KE l' l:=⟨h.1.symm,fun i j hi hj=>(h.2 i j (by rw [h.1];exact hi) (by rw [h.1];exact hj)).symm⟩
theorem KE.trans {l l' l'':List Int} (h:KE l l') (h':KE l' l''):KE l l'':=⟨h.1.trans h'.1,fun i j hi hj=>(h.2 i j hi hj).trans (h'.2 i j (by rw [← h.1];exact hi) (by rw [← h.1];exact hj))⟩
theorem getD_at {l:List Int} {i:Nat} (h:i<l.length):l.getD i 0=l[i]:=by simp [List.getD_eq_getElem?_getD,List.getElem?_eq_getElem h]
theorem KE.num (l:List Int):KE (numL l) l:=⟨numL_len l,fun i j hi hj=>by
 rw [numL_len] at hi hj;rw [numL_ker hi hj,getD_at hi,getD_at hj]⟩
theorem st_occ {l:List Int} (hr:rgs 0 l=true):∀ (i:Nat) (v:Int),i≤l.length->0≤v->v<st 0 (l.take i)->∃ j,j<i∧l.getD j 0=v
 |0,v,_,h0,h1=>absurd h1 (by simp [st];omega)
 |i+1,v,hi,h0,h1=>by
  rw [st_snoc (show i<l.length by omega)] at h1
  by_cases h:v<st 0 (l.take i)
  ·obtain ⟨j,hj,e⟩:=st_occ hr i v (by omega) h0 h
   exact ⟨j,by omega,e⟩
  ·unfold nx at h1
   split at h1
   ·rename_i e
    refine ⟨i,by omega,?_⟩;rw [getD_at (show i<l.length by omega),e];omega
   ·omega
theorem rgs_at {l:List Int} (hr:rgs 0 l=true) {i:Nat} (hi:i<l.length):0≤l.getD i 0∧l.getD i 0≤st 0 (l.take i):=by
 obtain ⟨_,q2,_,_⟩:=rgs_split l 0 i hr (Int.le_refl _);rw [List.drop_eq_getElem_cons hi] at q2;simp only [rgs,Bool.and_eq_true,decide_eq_true_eq] at q2;rw [getD_at hi];exact ⟨q2.1,q2.2.1⟩
theorem rgs_new {l:List Int} (hr:rgs 0 l=true) {i:Nat} (hi:i<l.length) (hn:∀ j,j<i->l.getD i 0≠l.getD j 0):l.getD i 0=st 0 (l.take i):=by
 obtain ⟨h0,h1⟩:=rgs_at hr hi
 by_cases h:l.getD i 0=st 0 (l.take i)
 ·exact h
 ·obtain ⟨j,hj,e⟩:=st_occ hr i (l.getD i 0) (by omega) h0 (by omega)
  exact absurd e.symm (hn j hj)
theorem KE.eq {l l':List Int} (h:KE l l') (hr:rgs 0 l=true) (hr':rgs 0 l'=true):l=l':=by
 have hp:∀ i,i≤l.length->l.take i=l'.take i:=by
  intro i
  induction i with
  |zero=>intro _;rfl
  |succ i ih =>
   intro hi;have e:=ih (by omega);have h1:i<l.length:=by omega
   have h2:i<l'.length:=by rw [← h.1];exact h1
   have hj':∀ j,j<i->l.getD j 0=l'.getD j 0:=by
    intro j hj;have e1:=congrArg (fun t=>t.getD j 0) e;simp only [List.getD_eq_getElem?_getD,List.getElem?_take,if_pos hj] at e1;simpa [List.getD_eq_getElem?_getD] using e1
   have hv:l.getD i 0=l'.getD i 0:=by
    by_cases hx:∃ j,j<i∧l.getD i 0=l.getD j 0
    ·obtain ⟨j,hj,e1⟩:=hx
     rw [(h.2 i j h1 (by omega)).1 e1,e1,hj' j hj]
    ·rw [rgs_new hr h1 fun j hj e1=>hx ⟨j,hj,e1⟩,rgs_new hr' h2 fun j hj e1=>hx ⟨j,hj,(h.2 i j h1 (by omega)).2 e1⟩,e]
   rw [List.take_succ_eq_append_getElem h1,List.take_succ_eq_append_getElem h2,e,← getD_at h1,← getD_at h2,hv]
 have:=hp l.length (Nat.le_refl _)
 rwa [List.take_of_length_le (Nat.le_refl _),List.take_of_length_le (by rw [h.1];exact Nat.le_refl _)] at this
theorem numL_congr {l l':List Int} (h:KE l l'):numL l=numL l' :=
 (((KE.num l).trans h).trans (KE.num l').symm).eq (numL_rgs l).1 (numL_rgs l').1
theorem numL_self {l:List Int} (hr:rgs 0 l=true):numL l=l:=(KE.num l).eq (numL_rgs l).1 hr
theorem st_cnt {l:List Int} (hr:rgs 0 l=true):st 0 l=(cnt l:Int):=by
 have h:=(numL_rgs l).2;rw [numL_self hr] at h;exact h
theorem num_f {l:List Int} (hn:l.length≤100) (hx:∀ x ∈ l,In64 x):mobs_number_int.f l=some (numL l):=by
 unfold mobs_number_int.f;rw [if_pos ⟨hx,by omega⟩]
end Go.Proofs.Ytdhgeondbnpeoaa.Pl
namespace Go.Proofs.Ytdhgeondbnpeoaa.Pl
open Go.RowKit Go.Proofs.Ytdhgeondbnpeoaa.Ext
def UU (l:List Int) (i k:Nat):Prop:=∀ x y,x<l.length->y<l.length->l.getD x 0=l.getD y 0->i<x->x≤k->i<y∧y≤k
def XX (l:List Int):Prop:=∃ a b c d,a<b∧b<c∧c<d∧d<l.length∧l.getD a 0=l.getD c 0∧l.getD b 0=l.getD d 0∧l.getD a 0≠l.getD b 0
theorem KE.uu {l l':List Int} (h:KE l l') {i k:Nat} (u:UU l i k):UU l' i k:=fun x y hx hy e h1 h2=>u x y (by rw [h.1];exact hx) (by rw [h.1];exact hy) ((h.2 x y (by rw [h.1];exact hx) (by rw [h.1];exact hy)).2 e) h1 h2
theorem KE.xx {l l':List Int} (h:KE l l') (u:XX l):XX l':=by
 obtain ⟨a,b,c,d,h1,h2,h3,h4,h5,h6,h7⟩:=u;exact ⟨a,b,c,d,h1,h2,h3,by rw [← h.1];exact h4,(h.2 a c (by omega) (by omega)).1 h5,(h.2 b d (by omega) (by omega)).1 h6,fun e=>h7 ((h.2 a b (by omega) (by omega)).2 e)⟩
theorem UU.refl (l:List Int) (k:Nat):UU l k k:=fun _ _ _ _ _ h1 h2=>absurd h1 (by omega)
theorem UU.add {l:List Int} {i j k:Nat} (h:UU l i j) (h':UU l j k) (h1:i≤j) (h2:j≤k):UU l i k:=by
 intro x y hx hy e a b
 by_cases hc:x≤j
 ·have:=h x y hx hy e a hc
  omega
 ·have:=h' x y hx hy e (by omega) b
  omega
theorem UU.low {l:List Int} {i j k:Nat} (h:UU l i k) (h':UU l j k) (h1:i≤j) (h2:j≤k) (hk:k<l.length):UU l i j:=by
 intro x y hx hy e a b;have c:=h x y hx hy e a (by omega);refine ⟨c.1,?_⟩
 by_cases hc:y≤j
 ·exact hc
 ·have:=h' y x hy hx e.symm (by omega) c.2
  omega
theorem UU.high {l:List Int} {i j k:Nat} (h:UU l i k) (h':UU l i j) (h1:i≤j) (h2:j≤k):UU l j k:=by
 intro x y hx hy e a b;have c:=h x y hx hy e (by omega) b;refine ⟨?_,c.2⟩
 by_cases hc:j<y
 ·exact hc
 ·have:=h' y x hy hx e.symm c.1 (by omega)
  omega
open Classical in
noncomputable def loR (l:List Int) (k:Nat):Nat->Nat->Nat
 |0,a=>a
 |i+1,a=>loR l k i (if UU l i k then i else a)
noncomputable def lo (l:List Int) (k:Nat):Nat:=loR l k k k
theorem loR_ok (l:List Int) (k:Nat):∀ (i a:Nat),i≤a->a≤k->UU l a k->(∀ j,i≤j->j<a->¬ UU l j k)->loR l k i a≤k∧UU l (loR l k i a) k∧∀ j,j<loR l k i a->¬ UU l j k
 |0,a,_,h1,h2,h3=>⟨h1,h2,fun j hj=>h3 j (Nat.zero_le _) hj⟩
 |i+1,a,h0,h1,h2,h3=>by
  unfold loR
  by_cases h:UU l i k
  ·rw [if_pos h]
   exact loR_ok l k i i (Nat.le_refl _) (by omega) h (fun j _ _=>by omega)
  ·rw [if_neg h]
   refine loR_ok l k i a (by omega) h1 h2 fun j a1 a2=>?_
   by_cases e:j=i
   ·exact e ▸ h
   ·exact h3 j (by omega) a2
theorem lo_ok (l:List Int) (k:Nat):lo l k≤k∧UU l (lo l k) k∧∀ j,j<lo l k->¬ UU l j k:=loR_ok l k k k (Nat.le_refl _) (Nat.le_refl _) (UU.refl l k) fun j _ _=>by omega
theorem lo_iff {l:List Int} {i k:Nat} (h:i≤k) (hk:k<l.length):lo l i=lo l k ↔ UU l i k:=by
 obtain ⟨a1,a2,a3⟩:=lo_ok l i;obtain ⟨b1,b2,b3⟩:=lo_ok l k;refine ⟨fun e=>?_,fun u=>?_⟩
 ·rw [← e] at b2
  exact b2.high a2 a1 h
 ·have h1:lo l k≤lo l i:=by
   by_cases c:lo l k≤lo l i
   ·exact c
   ·exact absurd (a2.add u a1 h) (b3 _ (by omega))
  have h2:lo l i≤lo l k:=by
   by_cases c:lo l i≤lo l k
   ·exact c
   ·exact absurd (b2.low u (by omega) h hk) (a3 _ (by omega))
  omega
noncomputable def wi (l:List Int):List Int:=(List.range l.length).map fun k=>((lo l k:Nat):Int)
theorem wi_len (l:List Int):(wi l).length=l.length:=by simp [wi]
theorem wi_get {l:List Int} {k:Nat} (hk:k<l.length):(wi l).getD k 0=((lo l k:Nat):Int):=by
 unfold wi;rw [List.getD_eq_getElem?_getD,List.getElem?_map,List.getElem?_range hk];rfl
theorem wi_iff {l:List Int} {i k:Nat} (h:i≤k) (hk:k<l.length):(wi l).getD i 0=(wi l).getD k 0 ↔ UU l i k:=by
 rw [wi_get (by omega),wi_get hk,← lo_iff h hk];omega
theorem KE.wi {l l':List Int} (h:KE l l'):KE (wi l) (wi l'):=by
 refine ⟨by rw [wi_len,wi_len,h.1],fun i j hi hj=>?_⟩;rw [wi_len] at hi hj;have hi':=hi;have hj':=hj;rw [h.1] at hi' hj';rcases Nat.le_total i j with c|c
 ·rw [wi_iff c hj,wi_iff c hj']
  exact ⟨h.uu,h.symm.uu⟩
 ·rw [eq_comm,wi_iff c hi,eq_comm,wi_iff c hi']
  exact ⟨h.uu,h.symm.uu⟩
def rot (k:Nat) (l:List Int):List Int:=l.drop k ++ l.take k
theorem y11 (k:Nat) (l:List Int):(rot k l).length=l.length:=by
 simp only [rot,List.length_append,List.length_drop,List.length_take];omega
def nxt (l:List Int) (k:Nat):Nat:=if k+1=l.length then 0 else k+1
theorem rot1_get {l:List Int} {i:Nat} (hi:i<l.length):(rot 1 l).getD i 0=l.getD (nxt l i) 0:=by
 cases l with
 |nil=>exact absurd hi (by simp)
 |cons x t =>
  simp only [rot,List.drop_succ_cons,List.drop_zero,List.take_succ_cons,List.take_zero,nxt,List.length_cons,List.getD_eq_getElem?_getD] at hi ⊢
  by_cases h:i=t.length
  ·rw [if_pos (by omega),List.getElem?_append_right (by omega),h]
   simp
  ·rw [if_neg (by omega),List.getElem?_append_left (by omega)]
   simp
theorem rot_succ {l:List Int} {k:Nat} (h:k<l.length):rot (k+1) l=rot 1 (rot k l):=by
 have e1:l.drop k=l[k] :: l.drop (k+1):=List.drop_eq_getElem_cons h;have e2:l.take (k+1)=l.take k ++ [l[k]]:=List.take_succ_eq_append_getElem h;show l.drop (k+1) ++ l.take (k+1)=(l.drop k ++ l.take k).drop 1 ++ (l.drop k ++ l.take k).take 1;rw [e1,e2];generalize l.drop (k+1)=B;generalize l.take k=A;generalize l[k]=x;simp
theorem KE.rot1 {l l':List Int} (h:KE l l'):KE (rot 1 l) (rot 1 l'):=by
 refine ⟨by rw [y11,y11,h.1],fun i j hi hj=>?_⟩;rw [y11] at hi hj;have n1:∀ i,i<l.length->nxt l i<l.length:=by
  intro i hi;unfold nxt;split<;>omega
 have n2:∀ i,nxt l' i=nxt l i:=fun i=>by unfold nxt;rw [h.1]
 rw [rot1_get hi,rot1_get hj,rot1_get (by rw [← h.1];exact hi),rot1_get (by rw [← h.1];exact hj),n2,n2];exact h.2 _ _ (n1 i hi) (n1 j hj)
theorem KE.rot {l l':List Int} (h:KE l l'):∀ k,k≤l.length->KE (rot k l) (rot k l')
 |0,_=>by simpa [Pl.rot] using h
 |k+1,hk=>by
  rw [rot_succ (show k<l.length by omega),rot_succ (show k<l'.length by rw [← h.1];omega)];exact (KE.rot h k (by omega)).rot1
theorem xx_rot1 {l:List Int} (h:XX (rot 1 l)):XX l:=by
 obtain ⟨a,b,c,d,h1,h2,h3,h4,h5,h6,h7⟩:=h;rw [y11] at h4;rw [rot1_get (by omega),rot1_get (by omega)] at h5 h6 h7;have e:∀ x,x<d->nxt l x=x+1:=fun x hx=>by unfold nxt;rw [if_neg (by omega)]
 rw [e a (by omega),e c (by omega)] at h5;rw [e a (by omega),e b (by omega)] at h7;rw [e b (by omega)] at h6
 by_cases hd:d+1=l.length
 ·rw [show nxt l d=0 from if_pos hd] at h6
  exact ⟨0,a+1,b+1,c+1,by omega,by omega,by omega,by omega,h6.symm,h5,fun e=>h7 (by rw [← e,h6])⟩
 ·rw [show nxt l d=d+1 from if_neg hd] at h6
  exact ⟨a+1,b+1,c+1,d+1,by omega,by omega,by omega,by omega,h5,h6,h7⟩
theorem rot1_xx {l:List Int} (h:XX l):XX (rot 1 l):=by
 obtain ⟨a,b,c,d,h1,h2,h3,h4,h5,h6,h7⟩:=h;have e:∀ x,x+1<l.length->(rot 1 l).getD x 0=l.getD (x+1) 0:=fun x hx=>by
  rw [rot1_get (by omega),show nxt l x=x+1 from if_neg (by omega)]
 by_cases ha:a=0
 ·subst ha
  have e0:(rot 1 l).getD (l.length - 1) 0=l.getD 0 0:=by
   rw [rot1_get (by omega),show nxt l (l.length - 1)=0 from if_pos (by omega)]
  refine ⟨b - 1,c - 1,d - 1,l.length - 1,by omega,by omega,by omega,by rw [y11];omega,?_,?_,?_⟩
  ·rw [e _ (by omega),e _ (by omega),show b - 1+1=b by omega,show d - 1+1=d by omega,h6]
  ·rw [e _ (by omega),e0,show c - 1+1=c by omega,h5]
  ·rw [e _ (by omega),e _ (by omega),show c - 1+1=c by omega,show b - 1+1=b by omega,← h5]
   exact fun h=>h7 h.symm
 ·refine ⟨a - 1,b - 1,c - 1,d - 1,by omega,by omega,by omega,by rw [y11];omega,?_,?_,?_⟩
  ·rw [e _ (by omega),e _ (by omega),show a - 1+1=a by omega,show c - 1+1=c by omega,h5]
  ·rw [e _ (by omega),e _ (by omega),show b - 1+1=b by omega,show d - 1+1=d by omega,h6]
  ·rw [e _ (by omega),e _ (by omega),show a - 1+1=a by omega,show b - 1+1=b by omega]
   exact h7
theorem xx_rot {l:List Int}:∀ k,k≤l.length->(XX (rot k l) ↔ XX l)
 |0,_=>by simp [rot]
 |k+1,hk=>by
  rw [rot_succ (show k<l.length by omega)];exact ⟨fun h=>(xx_rot k (by omega)).1 (xx_rot1 h),fun h=>rot1_xx ((xx_rot k (by omega)).2 h)⟩
theorem cnt_rot {l:List Int}:∀ k,k≤l.length->cnt (rot k l)=cnt l
 |0,_=>by simp [rot]
 |k+1,hk=>by
  rw [rot_succ (show k<l.length by omega),← cnt_rot (l:=l) k (by omega)];cases h:rot k l with
  |nil=>rfl
  |cons x t =>
   show cnt (t ++ [x])=_;rw [cnt_snoc,cnt_cons]
theorem wi_rot1 (l:List Int):KE (wi (rot 1 l)) (rot 1 (wi l)):=by
 refine ⟨by rw [wi_len,y11,y11,wi_len],?_⟩;have key:∀ i j,i<j->j<l.length->((wi (rot 1 l)).getD i 0=(wi (rot 1 l)).getD j 0 ↔ (rot 1 (wi l)).getD i 0=(rot 1 (wi l)).getD j 0):=by
  intro i j hij hj;have en:∀ x,nxt (wi l) x=nxt l x:=fun x=>by unfold nxt;rw [wi_len]
  rw [wi_iff (by omega) (by rw [y11];exact hj),rot1_get (by rw [wi_len];omega),rot1_get (by rw [wi_len];omega),en,en,show nxt l i=i+1 from if_neg (by omega)];have e:∀ x,x+1<l.length->(rot 1 l).getD x 0=l.getD (x+1) 0:=fun x hx=>by
   rw [rot1_get (by omega),show nxt l x=x+1 from if_neg (by omega)]
  have e0:(rot 1 l).getD (l.length - 1) 0=l.getD 0 0:=by
   rw [rot1_get (by omega),show nxt l (l.length - 1)=0 from if_pos (by omega)]
  by_cases hd:j+1=l.length
  ·rw [show nxt l j=0 from if_pos hd,eq_comm,wi_iff (by omega) (by omega)]
   refine ⟨fun u x y hx hy ex a b=>?_,fun u x y hx hy ex a b=>?_⟩
   ·refine Decidable.byContradiction fun hc=>?_
    by_cases hy0:y=0
    ·subst hy0
     have:=u (l.length - 1) (x - 1) (by rw [y11];omega) (by rw [y11];omega) (by rw [e0,e _ (by omega),show x - 1+1=x by omega,ex]) (by omega) (by omega);omega
    ·have:=u (y - 1) (x - 1) (by rw [y11];omega) (by rw [y11];omega) (by rw [e _ (by omega),e _ (by omega),show x - 1+1=x by omega,show y - 1+1=y by omega,ex]) (by omega) (by omega)
     omega
   ·rw [y11] at hx hy
    refine ⟨?_,by omega⟩;refine Decidable.byContradiction fun hc=>?_
    by_cases hx0:x=l.length - 1
    ·subst hx0
     rw [e0,e _ (by omega)] at ex;have:=u (y+1) 0 (by omega) (by omega) ex.symm (by omega) (by omega);omega
    ·rw [e _ (by omega),e _ (by omega)] at ex
     have:=u (y+1) (x+1) (by omega) (by omega) ex.symm (by omega) (by omega);omega
  ·rw [show nxt l j=j+1 from if_neg hd,wi_iff (by omega) (by omega)]
   refine ⟨fun u x y hx hy ex a b=>?_,fun u x y hx hy ex a b=>?_⟩
   ·by_cases hy0:y=0
    ·subst hy0
     have:=u (x - 1) (l.length - 1) (by rw [y11];omega) (by rw [y11];omega) (by rw [e0,e _ (by omega),show x - 1+1=x by omega,ex]) (by omega) (by omega);omega
    ·have:=u (x - 1) (y - 1) (by rw [y11];omega) (by rw [y11];omega) (by rw [e _ (by omega),e _ (by omega),show x - 1+1=x by omega,show y - 1+1=y by omega,ex]) (by omega) (by omega)
     omega
   ·rw [y11] at hx hy
    rw [e x (by omega)] at ex
    by_cases hy0:y=l.length - 1
    ·subst hy0
     rw [e0] at ex;have:=u (x+1) 0 (by omega) (by omega) ex (by omega) (by omega);omega
    ·rw [e _ (by omega)] at ex
     have:=u (x+1) (y+1) (by omega) (by omega) ex (by omega) (by omega);omega
 intro i j hi hj;rw [wi_len,y11] at hi hj;rcases Nat.lt_trichotomy i j with c|c|c
 ·exact key i j c hj
 ·subst c
  exact ⟨fun _=>rfl,fun _=>rfl⟩
 ·rw [eq_comm,key j i c hi,eq_comm]
theorem wi_rot {l:List Int}:∀ k,k≤l.length->KE (wi (rot k l)) (rot k (wi l))
 |0,_=>by simpa [rot] using KE.refl (wi l)
 |k+1,hk=>by
  rw [rot_succ (show k<l.length by omega),rot_succ (show k<(wi l).length by rw [wi_len];omega)];exact (wi_rot1 _).trans (wi_rot k (by omega)).rot1
end Go.Proofs.Ytdhgeondbnpeoaa.Pl
namespace Go.Proofs.Ytdhgeondbnpeoaa.Pl
open Go.RowKit Go.Proofs.Ytdhgeondbnpeoaa.P Go.Proofs.YtdhgeondbnpeoaaW.PrintWords Go.Proofs.YtdhgeondbnpeoaaW.PrintLast Go.Proofs.Ytdhgeondbnpeoaa.Ext
theorem isP_rgs {l:List Int} (hp:isP l=true):rgs 0 l=true:=by
 simp only [isP,Bool.and_eq_true] at hp;exact hp.2
def C4 (l:List Int) (a b c d:Nat):Prop:=l.getD a 0=l.getD c 0∧l.getD b 0=l.getD d 0∧l.getD a 0≠l.getD b 0
def N0 (l:List Int) (a:Nat):Prop:=∀ a' b c d,a≤a'->a'<b->b<c->c<d->d<l.length->¬ C4 l a' b c d
def N1 (l:List Int) (a b:Nat):Prop:=N0 l (a+1)∧∀ b' c d,b≤b'->b'<c->c<d->d<l.length->¬ C4 l a b' c d
def N2 (l:List Int) (a b c:Nat):Prop:=N1 l a (b+1)∧∀ c' d,c≤c'->c'<d->d<l.length->¬ C4 l a b c' d
def N3 (l:List Int) (a b c d:Nat):Prop:=N2 l a b (c+1)∧∀ d',d≤d'->d'<l.length->¬ C4 l a b c d'
def Res (l:List Int) (N:Prop) (F:Nat->Option (Int × Int × Int × Int × Bool)):Prop :=
 ∃ r:Int × Int × Int × Int × Bool,(r.2.2.2.2=true->XX l)∧(r.2.2.2.2=false->N)∧Ev fun k=>F k=some r
section
variable {l:List Int} (hn:l.length≤12)
include hn
theorem cr3 {a b c:Nat} (h1:a<b) (h2:b<c) (hc:c<l.length) (h:Res l (N2 l a b (c+1)) fun k=>mobs_crossed.l2 k l (a:Int) (b:Int) ((c+1:Nat):Int) (l.length:Int) (a:Int)):∀ e d,d+e=l.length->c<d->Res l (N3 l a b c d) fun k=>mobs_crossed.l3 k l (a:Int) (b:Int) (c:Int) (d:Int) (l.length:Int) (a:Int)
 |0,d,hd,hcd=>by
  obtain ⟨r,r1,r2,r3⟩:=h;refine ⟨r,r1,fun hf=>⟨r2 hf,fun d' q1 q2=>by omega⟩,r3.step fun k hk=>?_⟩
  try dsimp only
  rw [mobs_crossed.l3];rw [if_neg (by omega),w64 (x:=(c:Int)+1) (by omega) (by omega)];exact hk
 |e+1,d,hd,hcd=>by
  have hdn:d<l.length:=by omega
  by_cases hC:C4 l a b c d
  ·refine ⟨((a:Int),(b:Int),(c:Int),(d:Int),true),fun _=>⟨a,b,c,d,h1,h2,hcd,hdn,hC⟩,fun hf=>absurd hf (by simp),Ev.next fun k=>?_⟩
   obtain ⟨c1,c2,c3⟩:=hC
   try dsimp only
   rw [mobs_crossed.l3];rw [rd_nat,rd_nat,rd_nat,rd_nat,if_pos (by omega),if_pos (by omega),if_pos (by omega),if_pos (by omega),if_pos (by omega),if_pos c1,if_pos (by omega),if_pos (by omega),if_pos (by omega),if_pos c2,if_neg c3]
  ·obtain ⟨r,r1,r2,r3⟩:=cr3 h1 h2 hc h e (d+1) (by omega) (by omega)
   refine ⟨r,r1,fun hf=>⟨(r2 hf).1,fun d' q1 q2=>?_⟩,r3.step fun k hk=>?_⟩
   ·by_cases q:d'=d
    ·exact q ▸ hC
    ·exact (r2 hf).2 d' (by omega) q2
   ·rw [show ((d+1:Nat):Int)=(d:Int)+1 by omega] at hk
    try dsimp only
    rw [mobs_crossed.l3];rw [rd_nat,rd_nat,rd_nat,rd_nat,if_pos (by omega),if_pos (by omega),if_pos (by omega),if_pos (by omega),if_pos (by omega),w64 (x:=(d:Int)+1) (by omega) (by omega)]
    by_cases c1:l.getD a 0=l.getD c 0
    ·rw [if_pos c1,if_pos (by omega),if_pos (by omega),if_pos (by omega)]
     by_cases c2:l.getD b 0=l.getD d 0
     ·rw [if_pos c2,if_pos (Decidable.byContradiction fun c3=>hC ⟨c1,c2,c3⟩)]
      exact hk
     ·rw [if_neg c2]
      exact hk
    ·rw [if_neg c1]
     exact hk
theorem cr2 {a b:Nat} (h1:a<b) (hb:b<l.length) (h:Res l (N1 l a (b+1)) fun k=>mobs_crossed.l1 k l (a:Int) ((b+1:Nat):Int) (l.length:Int) (a:Int)):∀ e c,c+e=l.length->b<c->Res l (N2 l a b c) fun k=>mobs_crossed.l2 k l (a:Int) (b:Int) (c:Int) (l.length:Int) (a:Int)
 |0,c,hc,hbc=>by
  obtain ⟨r,r1,r2,r3⟩:=h;refine ⟨r,r1,fun hf=>⟨r2 hf,fun c' d q1 q2 q3=>by omega⟩,r3.step fun k hk=>?_⟩
  try dsimp only
  rw [mobs_crossed.l2];rw [if_neg (by omega),w64 (x:=(b:Int)+1) (by omega) (by omega)];exact hk
 |e+1,c,hc,hbc=>by
  obtain ⟨r,r1,r2,r3⟩:=cr3 hn h1 hbc (by omega) (cr2 h1 hb h e (c+1) (by omega) (by omega)) e (c+1) (by omega) (by omega);refine ⟨r,r1,fun hf=>⟨(r2 hf).1.1,fun c' d q1 q2 q3=>?_⟩,r3.step fun k hk=>?_⟩
  ·by_cases q:c'=c
   ·subst q
    exact (r2 hf).2 d (by omega) q3
   ·exact (r2 hf).1.2 c' d (by omega) q2 q3
  ·try dsimp only
   rw [mobs_crossed.l2];rw [if_pos (by omega),w64 (x:=(c:Int)+1) (by omega) (by omega)];exact hk
theorem cr1 {a:Nat} (ha:a<l.length) (h:Res l (N0 l (a+1)) fun k=>mobs_crossed.l0 k l (l.length:Int) ((a+1:Nat):Int)):∀ e b,b+e=l.length->a<b->Res l (N1 l a b) fun k=>mobs_crossed.l1 k l (a:Int) (b:Int) (l.length:Int) (a:Int)
 |0,b,hb,hab=>by
  obtain ⟨r,r1,r2,r3⟩:=h;refine ⟨r,r1,fun hf=>⟨r2 hf,fun b' c d q1 q2 q3 q4=>by omega⟩,r3.step fun k hk=>?_⟩
  try dsimp only
  rw [mobs_crossed.l1];rw [if_neg (by omega),w64 (x:=(a:Int)+1) (by omega) (by omega)];exact hk
 |e+1,b,hb,hab=>by
  obtain ⟨r,r1,r2,r3⟩:=cr2 hn hab (by omega) (cr1 ha h e (b+1) (by omega) (by omega)) e (b+1) (by omega) (by omega);refine ⟨r,r1,fun hf=>⟨(r2 hf).1.1,fun b' c d q1 q2 q3 q4=>?_⟩,r3.step fun k hk=>?_⟩
  ·by_cases q:b'=b
   ·subst q
    exact (r2 hf).2 c d (by omega) q3 q4
   ·exact (r2 hf).1.2 b' c d (by omega) q2 q3 q4
  ·try dsimp only
   rw [mobs_crossed.l1];rw [if_pos (by omega),w64 (x:=(b:Int)+1) (by omega) (by omega)];exact hk
theorem cr0:∀ e a,a+e=l.length->Res l (N0 l a) fun k=>mobs_crossed.l0 k l (l.length:Int) (a:Int)
 |0,a,ha=>by
  refine ⟨(0,0,0,0,false),fun hf=>absurd hf (by simp),fun _ a' b c d q1 q2 q3 q4 q5=>by omega,Ev.next fun k=>?_⟩
  try dsimp only
  rw [mobs_crossed.l0];rw [if_neg (by omega)]
 |e+1,a,ha=>by
  obtain ⟨r,r1,r2,r3⟩:=cr1 hn (by omega) (cr0 e (a+1) (by omega)) e (a+1) (by omega) (by omega);refine ⟨r,r1,fun hf a' b c d q1 q2 q3 q4 q5=>?_,r3.step fun k hk=>?_⟩
  ·by_cases q:a'=a
   ·subst q
    exact (r2 hf).2 b c d (by omega) q3 q4 q5
   ·exact (r2 hf).1 a' b c d (by omega) q2 q3 q4 q5
  ·try dsimp only
   rw [mobs_crossed.l0];rw [if_pos (by omega),w64 (x:=(a:Int)+1) (by omega) (by omega)];exact hk
theorem crossed_ev:∃ r:Int × Int × Int × Int × Bool,(r.2.2.2.2=true ↔ XX l)∧Ev fun k=>mobs_crossed.f k l=some r:=by
 obtain ⟨r,r1,r2,r3⟩:=cr0 hn l.length 0 (by omega);refine ⟨r,⟨r1,fun ⟨a,b,c,d,h1,h2,h3,h4,h5⟩=>?_⟩,r3⟩;cases hb:r.2.2.2.2 with
 |true=>rfl
 |false=>exact absurd h5 (r2 hb a b c d (Nat.zero_le _) h1 h2 h3 h4)
end
theorem Crossed_ev {l:List Int} (hp:isP l=true):∃ a b c d:Int,∃ x:Bool,(x=true ↔ XX l)∧(Ev fun k=>mobs_crossed.f k l=some (a,b,c,d,x))∧Ev fun k=>mobs_Crossed.f k l=some (a,b,c,d,x,0):=by
 obtain ⟨⟨a,b,c,d,x⟩,h1,h2⟩:=crossed_ev (isP_len hp);refine ⟨a,b,c,d,x,h1,h2,(h2.and (Ev.ge 30 fun k hk=>hk)).mono fun k hk=>?_⟩;unfold mobs_Crossed.f;rw [read_one l hk.2,if_pos (isP_len hp),if_pos hp];simp only [Option.bind_some,if_true];rw [hk.1];rfl
theorem index_l (s:List Int) (v:Int) (hn:s.length≤100):∀ e j,j+e=s.length->∃ q:Int,(q ≥ 0 ↔ v ∈ s.drop j)∧Ev fun k=>slices_Index_int_int.l0 k s v (s.length:Int) (j:Int)=some q
 |0,j,hj=>by
  refine ⟨-1,?_,Ev.next fun k=>?_⟩
  ·rw [List.drop_of_length_le (by omega)]
   simp
  ·try dsimp only
   rw [slices_Index_int_int.l0];rw [if_neg (by omega)]
 |e+1,j,hj=>by
  have hlt:j<s.length:=by omega
  rw [List.drop_eq_getElem_cons hlt]
  by_cases h:v=s[j]
  ·refine ⟨(j:Int),⟨fun _=>by rw [h];exact List.mem_cons_self ..,fun _=>by omega⟩,Ev.next fun k=>?_⟩
   try dsimp only
   rw [slices_Index_int_int.l0];rw [if_pos (by omega),if_pos (by omega),if_pos (by omega),rd_at hlt,if_pos h]
  ·obtain ⟨q,h1,h2⟩:=index_l s v hn e (j+1) (by omega)
   refine ⟨q,by simp only [List.mem_cons,h,false_or];exact h1,h2.step fun k hk=>?_⟩
   try dsimp only
   rw [slices_Index_int_int.l0];rw [if_pos (by omega),if_pos (by omega),if_pos (by omega),rd_at hlt,if_neg h,w64 (x:=(j:Int)+1) (by omega) (by omega)];exact hk
theorem contains_ev (s:List Int) (v:Int) (hn:s.length≤100):Ev fun k=>slices_Contains_int_int.f k s v=some (decide (v ∈ s)):=by
 obtain ⟨q,h1,h2⟩:=index_l s v hn s.length 0 (by omega);refine h2.mono fun k hk=>?_
 unfold slices_Contains_int_int.f slices_Index_int_int.f;have hk':slices_Index_int_int.l0 k s v (s.length:Int) 0=some q:=hk;rw [hk'];simp only [Option.bind_some];rw [List.drop_zero] at h1;rw [decide_eq_decide.2 h1]
theorem parted_l (s y:List Int) (hs:s.length≤100) (hn:y.length≤100):∀ e j,j+e=y.length->Ev fun k=>mobs_parted.l0 k s y (y.length:Int) (j:Int)=some (decide (∃ v,v ∈ y.drop j∧v ∈ s))
 |0,j,hj=>Ev.next fun k=>by
  try dsimp only
  rw [mobs_parted.l0];rw [if_neg (by omega),List.drop_of_length_le (by omega)];simp
 |e+1,j,hj=>by
  have hlt:j<y.length:=by omega
  refine ((contains_ev s y[j] hs).and (parted_l s y hs hn e (j+1) (by omega))).step fun k hk=>?_
  try dsimp only
  rw [mobs_parted.l0];rw [if_pos (by omega),if_pos (by omega),if_pos (by omega),rd_at hlt,hk.1,List.drop_eq_getElem_cons hlt];simp only [Option.bind_some,decide_eq_true_eq]
  by_cases h:y[j] ∈ s
  ·rw [if_pos h,decide_eq_true]
   exact ⟨_,List.mem_cons_self ..,h⟩
  ·rw [if_neg h,w64 (x:=(j:Int)+1) (by omega) (by omega)]
   refine hk.2.trans (congrArg some (decide_eq_decide.2 ⟨fun ⟨v,h1,h2⟩=>⟨v,List.mem_cons_of_mem _ h1,h2⟩,fun ⟨v,h1,h2⟩=>⟨v,?_,h2⟩⟩));rcases List.mem_cons.1 h1 with e1|h1
   ·exact absurd (e1 ▸ h2) h
   ·exact h1
theorem mem_tk {l:List Int} {m:Nat} {v:Int}:v ∈ l.take m ↔ ∃ x,x<m∧x<l.length∧l.getD x 0=v:=by
 rw [List.mem_iff_getElem];constructor
 ·rintro ⟨x,hx,e⟩
  rw [List.length_take] at hx;refine ⟨x,by omega,by omega,?_⟩;rw [getD_at (by omega),← e,List.getElem_take]
 ·rintro ⟨x,h1,h2,e⟩
  refine ⟨x,by rw [List.length_take];omega,?_⟩;rw [List.getElem_take,← getD_at h2,e]
theorem mem_dr {l:List Int} {m:Nat} {v:Int}:v ∈ l.drop m ↔ ∃ x,m≤x∧x<l.length∧l.getD x 0=v:=by
 rw [List.mem_iff_getElem];constructor
 ·rintro ⟨x,hx,e⟩
  rw [List.length_drop] at hx;refine ⟨m+x,by omega,by omega,?_⟩;rw [getD_at (by omega),← e,List.getElem_drop]
 ·rintro ⟨x,h1,h2,e⟩
  refine ⟨x - m,by rw [List.length_drop];omega,?_⟩;rw [List.getElem_drop,← e,getD_at h2]
  congr 1
  omega
theorem mem_in {l:List Int} {i k:Nat} {v:Int}:v ∈ (l.take (k+1)).drop (i+1) ↔ ∃ x,i<x∧x≤k∧x<l.length∧l.getD x 0=v:=by
 rw [mem_dr];constructor
 ·rintro ⟨x,h1,h2,e⟩
  rw [List.length_take] at h2;refine ⟨x,by omega,by omega,by omega,?_⟩;rw [← e,List.getD_eq_getElem?_getD,List.getD_eq_getElem?_getD,List.getElem?_take,if_pos (by omega)]
 ·rintro ⟨x,h1,h2,h3,e⟩
  refine ⟨x,by omega,by rw [List.length_take];omega,?_⟩;rw [← e,List.getD_eq_getElem?_getD,List.getD_eq_getElem?_getD,List.getElem?_take,if_pos (by omega)]
open Classical in
theorem parted_ev {l:List Int} (hn:l.length≤12) {i k:Nat} (hik:i<k) (hk:k<l.length):Ev fun r=>mobs_parted.f r l (i:Int) (k:Int)=some (decide ¬ UU l i k):=by
 have e1:wrap64 ((i:Int)+1)=((i+1:Nat):Int):=by rw [w64 (by omega) (by omega)];omega
 have e2:wrap64 ((k:Int)+1)=((k+1:Nat):Int):=by rw [w64 (by omega) (by omega)];omega
 have hs:((l.take (k+1)).drop (i+1)).length≤100:=by rw [List.length_drop,List.length_take];omega
 have hy:(l.take (i+1) ++ l.drop (k+1)).length≤100:=by rw [List.length_append,List.length_drop,List.length_take];omega
 refine (parted_l _ _ hs hy _ 0 (Nat.zero_add _)).mono fun r hr=>?_
 unfold mobs_parted.f slices_Clone_int_int.f;rw [e1,e2,if_pos (by omega),if_pos (by omega),if_pos (by omega),if_pos (by omega),Int.toNat_natCast,Int.toNat_natCast,if_pos (by rw [List.length_take];omega)];simp only [Option.bind_some];rw [if_pos (by omega),if_pos (by rw [List.length_drop,List.length_take];omega)];refine Eq.trans hr (congrArg some (decide_eq_decide.2 ?_));rw [List.drop_zero];constructor
 ·rintro ⟨v,h1,h2⟩ u
  obtain ⟨x,x1,x2,x3,x4⟩:=mem_in.1 h2;rcases List.mem_append.1 h1 with h|h
  ·obtain ⟨y,y1,y2,y3⟩:=mem_tk.1 h
   have:=u x y x3 y2 (x4.trans y3.symm) x1 x2;omega
  ·obtain ⟨y,y1,y2,y3⟩:=mem_dr.1 h
   have:=u x y x3 y2 (x4.trans y3.symm) x1 x2;omega
 ·intro hu
  refine Classical.byContradiction fun hc=>hu fun x y hx hy e a b=>Classical.byContradiction fun h=>hc ⟨l.getD x 0,?_,mem_in.2 ⟨x,a,b,hx,rfl⟩⟩
  rw [List.mem_append,mem_tk,mem_dr]
  by_cases h':y≤i
  ·exact Or.inl ⟨y,by omega,hy,e.symm⟩
  ·exact Or.inr ⟨y,by omega,hy,e.symm⟩
theorem btw_l1 {l:List Int} (hn:l.length≤12) {k:Nat} (hk:k<l.length) {out:List Int} (ho:out.length=k) {R:Option (List Int × Int)}:∀ (i a:Nat),i≤k->a≤k->(Ev fun r=>mobs_Between.l0 r l (out ++ [((loR l k i a:Nat):Int)]) (l.length:Int) ((k:Int)+1)=R)->Ev fun r=>mobs_Between.l1 r l out (k:Int) (a:Int) ((i:Int) - 1) (l.length:Int) (k:Int)=R
 |0,a,hi,ha,h=>h.step fun r hr=>by
  try dsimp only
  rw [mobs_Between.l1];rw [if_neg (by omega),if_pos (by omega),w64 (x:=(k:Int)+1) (by omega) (by omega)];exact hr
 |i+1,a,hi,ha,h=>by
  unfold loR at h;have e1:((i+1:Nat):Int) - 1=(i:Int):=by omega
  by_cases hu:UU l i k
  ·rw [if_pos hu] at h
   refine ((parted_ev hn (show i<k by omega) hk).and (btw_l1 hn hk ho i i (by omega) (by omega) h)).step fun r hr=>?_
   try dsimp only
   rw [mobs_Between.l1];rw [e1,if_pos (by omega),hr.1];simp only [Option.bind_some,hu,not_true,decide_false,Bool.false_eq_true,if_false];rw [w64 (x:=(i:Int) - 1) (by omega) (by omega)];exact hr.2
  ·rw [if_neg hu] at h
   refine ((parted_ev hn (show i<k by omega) hk).and (btw_l1 hn hk ho i a (by omega) ha h)).step fun r hr=>?_
   try dsimp only
   rw [mobs_Between.l1];rw [e1,if_pos (by omega),hr.1];simp only [Option.bind_some,hu,not_false_eq_true,decide_true,if_true];rw [w64 (x:=(i:Int) - 1) (by omega) (by omega)];exact hr.2
theorem wi_take {l:List Int} {k:Nat} (hk:k<l.length):(wi l).take (k+1)=(wi l).take k ++ [((lo l k:Nat):Int)]:=by
 have h:k<(wi l).length:=by rw [wi_len];exact hk
 rw [List.take_succ_eq_append_getElem h,← getD_at h,wi_get hk]
theorem wi_in {l:List Int} (hn:l.length≤12):∀ x ∈ wi l,In64 x:=by
 intro x hx;unfold wi at hx;obtain ⟨k,hk,rfl⟩:=List.mem_map.1 hx;have h1:=List.mem_range.1 hk;have h2:=(lo_ok l k).1;unfold In64;omega
theorem btw_l0 {l:List Int} (hn:l.length≤12):∀ e k,k+e=l.length->Ev fun r=>mobs_Between.l0 r l ((wi l).take k) (l.length:Int) (k:Int)=some (numL (wi l),0)
 |0,k,hk=>Ev.next fun r=>by
  try dsimp only
  rw [mobs_Between.l0];rw [if_neg (by omega),List.take_of_length_le (by rw [wi_len];omega),num_f (by rw [wi_len];omega) (wi_in hn)];rfl
 |e+1,k,hk=>by
  have hlt:k<l.length:=by omega
  have ih:=btw_l0 hn e (k+1) (by omega);rw [wi_take hlt,show ((k+1:Nat):Int)=(k:Int)+1 by omega] at ih;refine (btw_l1 hn hlt (by rw [List.length_take,wi_len];omega) k k (Nat.le_refl _) (Nat.le_refl _) ih).step fun r hr=>?_
  try dsimp only
  rw [mobs_Between.l0];rw [if_pos (by omega),w64 (x:=(k:Int) - 1) (by omega) (by omega)];exact hr
theorem Between_ok {l:List Int} (hp:isP l=true) (hx:¬ XX l):Ev fun k=>mobs_Between.f k l=some (numL (wi l),0):=by
 obtain ⟨a,b,c,d,x,h1,h2,_⟩:=Crossed_ev hp;refine ((h2.and (Ev.ge 30 fun k hk=>hk)).and (btw_l0 (isP_len hp) l.length 0 (Nat.zero_add _))).mono fun k hk=>?_
 have hx':x=false:=by
  cases x with
  |false=>rfl
  |true=>exact absurd (h1.1 rfl) hx
 unfold mobs_Between.f;rw [read_one l hk.1.2,if_pos (isP_len hp),if_pos hp];simp only [Option.bind_some,if_true];rw [hk.1.1,hx'];exact hk.2
theorem Between_bad {l:List Int} (hp:isP l=true) (hx:XX l):Ev fun k=>mobs_Between.f k l=some ([],9):=by
 obtain ⟨a,b,c,d,x,h1,h2,_⟩:=Crossed_ev hp;refine (h2.and (Ev.ge 30 fun k hk=>hk)).mono fun k hk=>?_
 unfold mobs_Between.f;rw [read_one l hk.2,if_pos (isP_len hp),if_pos hp];simp only [Option.bind_some,if_true];rw [hk.1,h1.2 hx];rfl
theorem isP_in {l:List Int} (hp:isP l=true):∀ x ∈ l,In64 x:=by
 intro x hx;obtain ⟨i,hi,e⟩:=List.getElem_of_mem hx;have h1:=rgs_at (isP_rgs hp) hi;obtain ⟨_,_,q3,q4⟩:=rgs_split l 0 i (isP_rgs hp) (Int.le_refl _);have:=isP_len hp;rw [getD_at hi,e] at h1;unfold In64;omega
def shf (by_:Int) (n:Nat):Nat:=(by_ % (n:Int)).toNat
theorem shf_lt (b:Int) {n:Nat} (h:0<n):shf b n<n:=by
 have h1:=Int.emod_lt_of_pos b (show 0<(n:Int) by omega);have h2:=Int.emod_nonneg b (show (n:Int)≠0 by omega);unfold shf;omega
theorem shf_tmod (b:Int) {n:Nat} (h:0<n) (hn:n≤12):Int.tmod (wrap64 (Int.tmod b (n:Int)+(n:Int))) (n:Int)=((shf b n:Nat):Int):=by
 have h1:=Int.emod_lt_of_pos b (show 0<(n:Int) by omega);have h2:=Int.emod_nonneg b (show (n:Int)≠0 by omega);have h3:-(n:Int)<Int.tmod b n∧Int.tmod b n<n:=by
  have a1:=Int.tmod_lt_of_pos b (show 0<(n:Int) by omega);have a2:=Int.lt_tmod_of_pos b (show 0<(n:Int) by omega);omega
 have h4:Int.tmod b n % n=b % n:=by
  have:=Int.tmod_add_mul_tdiv b n;have e:b=Int.tmod b n+n * Int.tdiv b n:=by omega
  conv=>rhs;rw [e,Int.add_mul_emod_self_left]
 rw [w64 (by omega) (by omega),Int.tmod_eq_emod_of_nonneg (by omega),Int.add_emod_right,h4];unfold shf;omega
theorem rot_in {l:List Int} (h:∀ x ∈ l,In64 x) (k:Nat):∀ x ∈ rot k l,In64 x:=by
 intro x hx;rcases List.mem_append.1 hx with h'|h'
 ·exact h x (List.mem_of_mem_drop h')
 ·exact h x (List.mem_of_mem_take h')
theorem Around_f {l:List Int} (hp:isP l=true) (b:Int) (h0:0<l.length) {k:Nat} (hk:30≤k):mobs_Around.f k l b=some (numL (rot (shf b l.length) l),0):=by
 have hl:=isP_len hp;have hs:=shf_lt b h0;unfold mobs_Around.f slices_Clone_int_int.f;rw [read_one l hk,if_pos hl,if_pos hp];simp only [Option.bind_some,if_true];rw [if_neg (by omega),shf_tmod b h0 hl,if_pos (by omega),if_pos (by omega),Int.toNat_natCast,if_pos (by rw [List.length_drop];omega)];simp only [Option.bind_some];rw [if_pos (by rw [List.length_drop,List.length_take];omega)];have:=num_f (l:=rot (shf b l.length) l) (by rw [y11];omega) (rot_in (isP_in hp) _);rw [rot] at this;rw [this];rfl
theorem Around_nil (b:Int) {k:Nat} (hk:30≤k):mobs_Around.f k [] b=some ([],0):=by
 unfold mobs_Around.f;rw [read_one [] hk];rfl
end Go.Proofs.Ytdhgeondbnpeoaa.Pl
namespace Go.Proofs.Ytdhgeondbnpeoaa.Pure
open Go.RowKit Go.Proofs.Ytdhgeondbnpeoaa.P Go.Proofs.YtdhgeondbnpeoaaW.PrintWords Go.Proofs.YtdhgeondbnpeoaaW.PrintLast
open Go.Proofs.Ytdhgeondbnpeoaa.Pl Go.Proofs.Ytdhgeondbnpeoaa.Ext
theorem around_alive (k:Nat) (l:List Int) (b:Int):w6_MobsAround.j0 (k+1) l b true=some true:=by
 rw [w6_MobsAround.j0,if_pos rfl];simp [w6_alive.f]
theorem Around_any {l:List Int} (hp:isP l=true) (b:Int) {k:Nat} (hk:30≤k):mobs_Around.f k l b=some (numL (rot (shf b l.length) l),0):=by
 cases l with
 |nil =>
  rw [Around_nil b hk];simp [rot];rfl
 |cons x t=>exact Around_f hp b (by simp) hk
theorem shf_le (b:Int) (n:Nat):shf b n≤n∨n=0:=by
 by_cases h:0<n
 ·exact Or.inl (Nat.le_of_lt (shf_lt b h))
 ·exact Or.inr (by omega)
theorem around_in {l:List Int} (hp:isP l=true) (b:Int):Ev fun k=>w6_MobsAround.j0 k l b false=some true:=by
 have hn:=isP_len hp;obtain ⟨s,hs,hsn⟩:∃ s,rot (shf b l.length) l=rot s l∧s≤l.length∧∀ l',l'.length=l.length->rot (shf b l'.length) l'=rot s l':=by
  rcases shf_le b l.length with h|h
  ·exact ⟨_,rfl,h,fun l' e=>by rw [e]⟩
  ·have e:l=[]:=List.eq_nil_of_length_eq_zero h
   refine ⟨0,by rw [e];simp [rot],by omega,fun l' e'=>?_⟩;have e'':l'=[]:=List.eq_nil_of_length_eq_zero (by omega);rw [e''];simp [rot]
 obtain ⟨hsn,hs'⟩:=hsn;obtain ⟨a,ha⟩:∃ a,a=numL (rot s l):=⟨_,rfl⟩
 have pa:isP a=true:=by rw [ha];exact numL_isP (by rw [y11];exact hn)
 have la:a.length=l.length:=by rw [ha,numL_len,y11]
 have ka:KE a (rot s l):=by rw [ha];exact KE.num _
 have hx:XX a ↔ XX l:=⟨fun h=>(xx_rot s hsn).1 (ka.xx h),fun h=>ka.symm.xx ((xx_rot s hsn).2 h)⟩
 have hm:st 0 a=st 0 l:=by
  rw [ha,(numL_rgs _).2,st_cnt (isP_rgs hp),← cnt_rot s hsn];rfl
 have h2:∀ x:Bool,(x=true ↔ XX l)->Ev fun k=>w6_MobsAround.j2 k l b a x false=some true:=by
  intro x hxx
  by_cases hX:XX l
  ·refine ((Between_bad hp hX).and (Between_bad pa (hx.2 hX))).step fun k hk=>?_
   rw [w6_MobsAround.j2,if_neg (by decide),hk.1,hk.2];simp only [Option.bind_some];rw [if_pos (hxx.2 hX)];simp [w6_alive.f]
  ·refine (((Between_ok hp hX).and (Between_ok pa fun h=>hX (hx.1 h))).and (Ev.ge 100 fun k hk=>hk)).step fun k hk=>?_
   have pb:isP (numL (wi l))=true:=numL_isP (by rw [wi_len];exact hn);have hc:numL (wi a)=numL (rot s (numL (wi l))):=numL_congr ((ka.wi.trans (wi_rot s hsn)).trans ((KE.num (wi l)).symm.rot s (by rw [wi_len];exact hsn)));rw [w6_MobsAround.j2,if_neg (by decide),hk.1.1,hk.1.2];simp only [Option.bind_some];rw [if_neg fun h=>hX (hxx.1 h),Around_any pb b (by omega),hs' _ (by rw [numL_len,wi_len])];simp only [Option.bind_some,if_true];rw [same_f (by rw [numL_len,wi_len,la];omega) (by omega),decide_eq_true hc];simp [w6_alive.f]
 obtain ⟨a0,b0,c0,d0,x,hxx,_,e1⟩:=Crossed_ev hp;obtain ⟨a1,b1,c1,d1,y,hyy,_,e2⟩:=Crossed_ev pa;have hxy:x=y:=by
  rw [Bool.eq_iff_iff,hxx,hyy,hx]
 have h1:Ev fun k=>w6_MobsAround.j1 k l b a false=some true:=by
  refine ((e1.and e2).and (h2 x hxx)).step fun k hk=>?_
  rw [w6_MobsAround.j1,if_neg (by decide),hk.1.1,hk.1.2];simp only [Option.bind_some,if_true];rw [hxy,bne_self_eq_false,← hxy];exact hk.2
 refine ((Ev.ge 100 fun k hk=>hk).and h1).step fun k hk=>?_
 rw [w6_MobsAround.j0,if_neg (by decide),Around_any hp b (by omega),hs,← ha];simp only [Option.bind_some,if_true];rw [ref_isP a (by omega),pa];simp only [Option.bind_some,if_true];rw [if_pos (by rw [la]),many_f (by omega) (isP_rgs pa) (by omega),many_f hn (isP_rgs hp) (by omega),hm];simp only [Option.bind_some,bne_self_eq_false];exact hk.2
theorem MobsAround:w6_MobsAround.Pure:=by
 intro l b _ _ _ _
 by_cases hp:isP l=true
 ·obtain ⟨k,hk⟩:=((Ev.ge 30 fun k hk=>hk).and (around_in hp b)).ex
  refine ⟨k,?_⟩;have la:=isP_len hp;unfold w6_MobsAround.f w6_few.f;rw [if_pos (by omega)];simp only [Option.bind_some];rw [decide_eq_true (by simp),if_pos rfl,ref_isP l hk.1,hp];exact hk.2
 ·refine ⟨30+1,?_⟩
  have hp':isP l=false:=by simpa using hp
  unfold w6_MobsAround.f w6_few.f
  by_cases g0:(l.length:Int)≤40
  ·rw [if_pos g0]
   simp only [Option.bind_some];rw [decide_eq_true (by simp),if_pos rfl,ref_isP l (by omega),hp'];exact around_alive 30 l b
  ·rw [if_neg g0]
   simp only [Option.bind_some];rw [if_neg (by decide)];exact around_alive 30 l b
end Go.Proofs.Ytdhgeondbnpeoaa.Pure
namespace Go.Proofs.YtdhgeondbnpeoaaW.PrintWords
open Go.ChangeShapes Go.WideShapes
theorem sized_ints {H:Type} {enc:TypeId × Value->H} {P:Program} {W:World} {base:Nat} {spare:Nat->Bool} {held:Bool} {t e:TypeId} {k:IntKind} {a:Option Addr} {len cap:Nat} {d:DataW H} {ps:List MemPlace} {ts:List TypeId} {ds:List (DataW H)} {j:Nat}
  (hsz:(DataW.weightsEach P ts ds).all (·≤reachBytes)=true) (ht:ts[j]?=some t) (hd:ds[j]?=some d) (hu:P.underlying t=some (.slice e)) (he:P.underlying e=some (.int k)) (hc:P.cellsOf e=1) {B:Nat} (hB:P.bytesOf e=B)
  (h:DataW.Trod enc P W base spare held t (.slice a len cap) d ps):len * B≤140737488351232:=by
 obtain ⟨fuel,hf⟩:=h;rcases open_ints hu he hc hf with ⟨hcs,_⟩|⟨x,l,c,zs,hcs,_,hl,_,hz,hx,_,_⟩
 ·simp [Value.cells] at hcs
  obtain ⟨rfl,rfl,rfl⟩:=hcs;simp
 ·simp [Value.cells] at hcs
  obtain ⟨rfl,rfl,rfl⟩:=hcs;obtain ⟨hx,_⟩:=Prod.mk.inj hx;subst hx;have z:=sized_slice hsz ht hd hu;rw [hB] at z;have hl2:len≤zs.length:=by
   rw [hz];split
   ·exact hl
   ·exact Nat.le_refl _
  have h1:(lits (H:=H) k (zs.take len)).length+(lits (H:=H) k (zs.drop len)).length=zs.length:=by
   simp [lits];omega
  rw [h1] at z;exact Nat.le_trans (Nat.mul_le_mul_right _ hl2) z
end Go.Proofs.YtdhgeondbnpeoaaW.PrintWords
