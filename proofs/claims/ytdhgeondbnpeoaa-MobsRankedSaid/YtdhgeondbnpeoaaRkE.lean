/- The theorem of MobsRanked, proved; part 5 of 6: its texts, merged. -/
import Derived.Test.YtdhgeondbnpeoaaRkD
import Derived.Calls
import Derived.Conc.Beside
import Derived.Laws.Sem
import Derived.Conc.CrowdRun
import Derived.Conc.CommBuf
import Derived.Conc.WgGenN3
import Derived.Test.YtdhgeondbnpeoaaProg
import Derived.KernelRfl
import Derived.Below
import Derived.Deep.Draws
import Derived.Deep.AppendLies
import Derived.Maps.AppendAt
import Derived.OwnWalk
import Derived.Laws.BytesArg
import Derived.Laws.MakeOwn
import Derived.Laws.OwnMore
import Derived.Deep.OwnRows
import Derived.Tactics
import Derived.Lib.ConvBytes
import Derived.Laws.Slices
import Derived.WalkKit
import Derived.RowKit3
import Derived.Deep.LoopGhost
import Derived.Deep.QuietTactic
import Derived.BigQuiet
import Derived.WideLaws
import Derived.Deep.DeepCutAuto
import Derived.Deep.CutBlock
import Derived.Deep.RegionHeld3
import Derived.Laws.Rows
import Derived.Lib.AppendStr
import Derived.ArgAppend
import Derived.Laws.IdiomCopy
import Derived.RowKit
import Derived.OrdersHeld
import Derived.Laws.BitsLemmas
import Derived.Laws.StructEq
import Derived.Maps.OwnOps
import Derived.DeepKeys4
import Derived.WalkSpells
import Derived.Maps.Keyed
import Derived.SizedLaws
import Derived.ChangeSlices
set_option linter.unnecessarySimpa false
set_option linter.unusedVariables false
set_option linter.unusedSimpArgs false
namespace Go.Proofs.Ytdhgeondbnpeoaa.P
open Go.RowKit Go.Proofs.YtdhgeondbnpeoaaW.PrintWords Go.Proofs.YtdhgeondbnpeoaaW.PrintLast Go.Proofs.YtdhgeondbnpeoaaW.PrintMore
attribute [local go_sem] y0x y0v max_two min_two y0q y0p y0w y0u
mutual
def r6_IsParting.l0:Nat->List Int->Int->Int->Option (Bool)
 |0,_,_,_=>none
 |k+1,x0,x3,x4=>if x4<(x0.length:Int) then (if 0≤x4 then (if (rd x0 x4)<0 then (r6_IsParting.j1 k x0 x3 x4 true) else (r6_IsParting.j1 k x0 x3 x4 (decide ((rd x0 x4) > x3)))) else (none)) else (some true)
def r6_IsParting.j1:Nat->List Int->Int->Int->Bool->Option (Bool)
 |0,_,_,_,_=>none
 |k+1,x0,x3,x4,x26=>if x26=true then (some false) else (if 0≤x4 then (if x4<(x0.length:Int) then (if (rd x0 x4)=x3 then (r6_IsParting.l0 k x0 (wrap64 (x3+1)) (wrap64 (x4+1))) else (r6_IsParting.l0 k x0 x3 (wrap64 (x4+1)))) else (none)) else (none))
end
def r6_IsParting.f (k:Nat) (l0:List Int):Option (Bool):=if (l0.length:Int) > 12 then (some false) else (r6_IsParting.l0 k l0 0 0)
set_option maxHeartbeats 8000000 in
set_option maxRecDepth 100000 in
theorem r6_IsParting.calls (k:Nat) (A0:Option Addr) (c0:Nat) (l0:List Int) (r:Bool) (w:World) (hr0:Kd.C (Kd.int .i64) w A0 l0.length l0) (hc0:l0.length≤c0) (h:r6_IsParting.f k l0=some r) :
  Calls Tra.prog 30 #[.slice A0 l0.length c0] w fun e w'=>e=.returned (.bool r)∧Drawn0 w w':=by
 have HR0:=As0.mk hr0;have HC0:=As0.mk hc0;clear hr0 hc0;have H:(if (l0.length:Int) > 12 then (some false) else (r6_IsParting.l0 k l0 0 0))=some r:=h;clear h
 by_cases c2:(l0.length:Int) > 12
 ·rw [if_pos c2] at H
  have c2b0:decide (12<(l0.length:Int))=true:=decide_eq_true c2;have c2b1:decide (12<l0.length)=true:=decide_eq_true (by omega);clear c2;obtain rfl:=Option.some.inj H;go_enter Tra.func30,Tra.ntmps30
  go_wp2
  go_ret
  exact ⟨by first|rfl|(simp;done)|(simp [*];done),by repeat (first|exact Drawn0.refl _|apply Drawn0.step)⟩
 ·rw [if_neg c2] at H
  have c2b0:decide (12<(l0.length:Int))=false:=decide_eq_false c2;have c2b1:decide (12<l0.length)=false:=decide_eq_false (by omega);clear c2;have H':=As0.mk H;clear H;go_enter Tra.func30,Tra.ntmps30
  go_wp2
  go_loopg [3,4] k (fun kq v3 v4 w'=>∃ (x3_1:Int) (x4_1:Int),v3=.int .i64 x3_1∧v4=.int .i64 x4_1∧As0 (r6_IsParting.l0 kq l0 x3_1 x4_1=some r)∧As0 (kq≤k)∧Drawn0 w w')
  case atStart=>exact ⟨(0),(0),(by first|rfl|(simp;done)|(simp [*];done)),(by first|rfl|(simp;done)|(simp [*];done)),H',⟨Nat.le_refl _⟩,by repeat (first|exact Drawn0.refl _|apply Drawn0.step)⟩
  case round =>
   clear H'
   try clear c2
   try clear c2b0
   try clear c2b1
   try clear p2
   obtain ⟨x3_1,x4_1,rfl,rfl,HA,HK1,⟨m1,rfl⟩⟩:=hrel;cases gk with
   |zero=>exact absurd HA.out (by simp [r6_IsParting.l0])
   |succ k1 =>
    have H:=HA.out;clear HA;simp only [r6_IsParting.l0] at H
    by_cases c3:x4_1<(l0.length:Int)
    ·rw [if_pos c3] at H
     have c3b0:decide (x4_1<(l0.length:Int))=true:=decide_eq_true c3;clear c3;have HC4:=As0.mk H;clear H;go_upto_region 7 with (fail)
     go_cut [26] (fun v26 wc=>∃ (kq:Nat) (x26_3:Bool),v26=.bool x26_3∧As0 (r6_IsParting.j1 kq l0 x3_1 x4_1 x26_3=some r)∧As0 (kq≤k1)∧Drawn0 w wc)
     case first =>
      have H:=HC4.out;clear HC4
      by_cases c5:0≤x4_1
      ·rw [if_pos c5] at H
       have c5b0:decide (0≤x4_1)=true:=decide_eq_true c5;clear c5
       (first|rw [c5b0]|(simp only [i64_w,i32_w];rw [c5b0])|skip)
       by_cases c6:(rd l0 x4_1)<0
       ·rw [if_pos c6] at H
        have c6b0:decide ((rd l0 x4_1)<0)=true:=decide_eq_true c6;clear c6;have H':=As0.mk H;clear H;have p271:0≤(x4_1:Int):=of_decide_eq_true (by first|(with_reducible assumption)|assumption);have q271:x4_1<(l0.length:Int):=of_decide_eq_true (by first|(with_reducible assumption)|assumption);obtain ⟨ad271,e271,hx271_0⟩:=Kd.at_int HR0.out x4_1 p271 q271;cases e271
        replace p271:=eq_true p271;replace q271:=eq_true q271;go_wp2
        go_meet
        case rel=>exact ⟨_,(true),(by first|rfl|(simp;done)|(simp [*];done)),H',⟨by have:=HK1.out;first|omega|exact Nat.le_refl _⟩,by repeat (first|exact Drawn0.refl _|apply Drawn0.step)⟩
       ·rw [if_neg c6] at H
        have c6b0:decide ((rd l0 x4_1)<0)=false:=decide_eq_false c6;clear c6;have H':=As0.mk H;clear H;have p271:0≤(x4_1:Int):=of_decide_eq_true (by first|(with_reducible assumption)|assumption);have q271:x4_1<(l0.length:Int):=of_decide_eq_true (by first|(with_reducible assumption)|assumption);obtain ⟨ad271,e271,hx271_0⟩:=Kd.at_int HR0.out x4_1 p271 q271;cases e271
        replace p271:=eq_true p271;replace q271:=eq_true q271;have p272:0≤(x4_1:Int):=of_decide_eq_true (by first|(with_reducible assumption)|assumption);have q272:x4_1<(l0.length:Int):=of_decide_eq_true (by first|(with_reducible assumption)|assumption);obtain ⟨ad272,e272,hx272_0⟩:=Kd.at_int HR0.out x4_1 p272 q272;obtain rfl:ad271=ad272:=(by injection e272)
        replace p272:=eq_true p272;replace q272:=eq_true q272;go_wp2
        go_meet
        case rel=>exact ⟨_,(decide ((rd l0 x4_1) > x3_1)),(by first|rfl|(simp;done)|(simp [*];done)),H',⟨by have:=HK1.out;first|omega|exact Nat.le_refl _⟩,by repeat (first|exact Drawn0.refl _|apply Drawn0.step)⟩
      ·rw [if_neg c5] at H
       exact absurd H (by simp)
     case rest =>
      clear HC4
      try clear c2
      try clear c2b0
      try clear c2b1
      try clear p2
      try clear q2
      try clear hx2
      try clear c3
      try clear c3b0
      try clear c5
      try clear c5b0
      try clear c6
      try clear c6b0
      try clear hx271_0
      try clear hx272_0
      try clear p2
      try clear p271
      try clear p272
      try clear q271
      try clear q272
      obtain ⟨kq,x26_3,rfl,HA,HJ3,⟨mc3,rfl⟩⟩:=hcut;cases kq with
      |zero=>exact absurd HA.out (by simp [r6_IsParting.j1])
      |succ kj3 =>
       have H:=HA.out;clear HA;simp only [r6_IsParting.j1] at H
       by_cases c7:x26_3=true
       ·subst c7
        have H1:(some false)=some r:=by rw [if_pos rfl] at H;exact H
        clear H;have H:=H1;clear H1;obtain rfl:=Option.some.inj H;go_wp2
        go_ret
        exact ⟨by first|rfl|(simp;done)|(simp [*];done),by repeat (first|exact Drawn0.refl _|apply Drawn0.step)⟩
       ·replace c7:=Bool.eq_false_iff.mpr c7
        subst c7;have H1:(if 0≤x4_1 then (if x4_1<(l0.length:Int) then (if (rd l0 x4_1)=x3_1 then (r6_IsParting.l0 kj3 l0 (wrap64 (x3_1+1)) (wrap64 (x4_1+1))) else (r6_IsParting.l0 kj3 l0 x3_1 (wrap64 (x4_1+1)))) else (none)) else (none))=some r:=by rw [if_neg (show ¬ (false=true) by decide)] at H;exact H
        clear H;have H:=H1;clear H1
        by_cases c8:0≤x4_1
        ·rw [if_pos c8] at H
         have c8b0:decide (0≤x4_1)=true:=decide_eq_true c8;clear c8
         by_cases c9:x4_1<(l0.length:Int)
         ·rw [if_pos c9] at H
          have c9b0:decide (x4_1<(l0.length:Int))=true:=decide_eq_true c9;clear c9
          by_cases c10:(rd l0 x4_1)=x3_1
          ·rw [if_pos c10] at H
           have c10b0:((rd l0 x4_1) == x3_1)=true:=beq_iff_eq.mpr c10;have c10b1:((rd l0 x4_1) != x3_1)=false:=bne_eq_false_iff_eq.mpr c10;clear c10;have H':=As0.mk H;clear H;have p273:0≤(x4_1:Int):=of_decide_eq_true (by first|(with_reducible assumption)|assumption);have q273:x4_1<(l0.length:Int):=of_decide_eq_true (by first|(with_reducible assumption)|assumption);obtain ⟨ad273,e273,hx273_0⟩:=Kd.at_int HR0.out x4_1 p273 q273;cases e273
           replace p273:=eq_true p273;replace q273:=eq_true q273;go_wp2
           go_roundg kj3
           case measure=>have:=HK1.out;have:=HJ3.out;omega
           case rel=>exact ⟨(wrap64 (x3_1+1)),(wrap64 (x4_1+1)),(by first|rfl|(simp;done)|(simp [*];done)),(by first|rfl|(simp;done)|(simp [*];done)),H',⟨by have:=HK1.out;have:=HJ3.out;omega⟩,by repeat (first|exact Drawn0.refl _|apply Drawn0.step)⟩
          ·rw [if_neg c10] at H
           have c10b0:((rd l0 x4_1) == x3_1)=false:=beq_eq_false_iff_ne.mpr c10;have c10b1:((rd l0 x4_1) != x3_1)=true:=bne_iff_ne.mpr c10;have H':=As0.mk H;clear H;have p273:0≤(x4_1:Int):=of_decide_eq_true (by first|(with_reducible assumption)|assumption);have q273:x4_1<(l0.length:Int):=of_decide_eq_true (by first|(with_reducible assumption)|assumption);obtain ⟨ad273,e273,hx273_0⟩:=Kd.at_int HR0.out x4_1 p273 q273;cases e273
           replace p273:=eq_true p273;replace q273:=eq_true q273;go_wp2
           go_roundg kj3
           case measure=>have:=HK1.out;have:=HJ3.out;omega
           case rel=>exact ⟨(x3_1),(wrap64 (x4_1+1)),(by first|rfl|(simp;done)|(simp [*];done)),(by first|rfl|(simp;done)|(simp [*];done)),H',⟨by have:=HK1.out;have:=HJ3.out;omega⟩,by repeat (first|exact Drawn0.refl _|apply Drawn0.step)⟩
         ·rw [if_neg c9] at H
          exact absurd H (by simp)
        ·rw [if_neg c8] at H
         exact absurd H (by simp)
    ·rw [if_neg c3] at H
     have c3b0:decide (x4_1<(l0.length:Int))=false:=decide_eq_false c3;clear c3;obtain rfl:=Option.some.inj H;go_wp2
     go_ret
     exact ⟨by first|rfl|(simp;done)|(simp [*];done),by repeat (first|exact Drawn0.refl _|apply Drawn0.step)⟩
end Go.Proofs.Ytdhgeondbnpeoaa.P
namespace Go.Proofs.Ytdhgeondbnpeoaa.P
open Go.RowKit Go.Proofs.YtdhgeondbnpeoaaW.PrintWords Go.Proofs.YtdhgeondbnpeoaaW.PrintLast Go.Proofs.YtdhgeondbnpeoaaW.PrintMore
attribute [local go_sem] y0x y0v max_two min_two y0q y0p y0w y0u
def mobs_number_2_int.f (l0:List S89):Option (List Int):=if (∀ p ∈ l0,Ext.In64 p.f0∧Ext.In64 p.f1)∧l0.length<17592186044416 then some (Ext.numL (l0.map fun p=>(p.f0,p.f1))) else none
theorem reads2_of {w:World} {A:Option Addr} {l:List S89} (h:Kd.C k89 w A l.length l):Ext.Reads2 w A (l.map fun p=>(p.f0,p.f1)):=by
 intro hn;rw [List.length_map] at hn;obtain ⟨ad,hA,hc⟩:=h.2.2 hn;refine ⟨ad,hA,fun j p hj=>?_⟩;rw [List.getElem?_map] at hj;obtain ⟨q,hq,rfl⟩:=Option.map_eq_some_iff.1 hj;obtain ⟨c,hs,hr,hcell⟩:=hc j q hq;obtain rfl:=k89_open hr;have e:k89.sz=2:=rfl;rw [e] at hcell;exact ⟨hcell 0 _ rfl,hcell 1 _ rfl⟩
theorem mobs_number_2_int.own (A0:Option Addr) (c0:Nat) (l0:List S89) (r1:List Int) (w:World) (hr0:Kd.C k89 w A0 l0.length l0) (hc0:l0.length≤c0) (h:mobs_number_2_int.f l0=some r1) :
  Calls Tra.prog 84 #[.slice A0 l0.length c0] w fun e w'=>∃ v0_:Value,e=.returned v0_∧Ext.OwnI w' w.heap.size v0_ r1∧Below w.heap.size w w':=by
 unfold mobs_number_2_int.f at h;split at h
 ·rename_i hL
  obtain rfl:=Option.some.inj h;exact (by have:=Ext.num2_all A0 c0 (l0.map fun p=>(p.f0,p.f1)) w (reads2_of hr0) (by simpa using hL.1) (by simpa using hL.2);rwa [List.length_map] at this)
 ·cases h
end Go.Proofs.Ytdhgeondbnpeoaa.P
namespace Go.Proofs.Ytdhgeondbnpeoaa.P
open Go.RowKit Go.Proofs.YtdhgeondbnpeoaaW.PrintWords Go.Proofs.YtdhgeondbnpeoaaW.PrintLast Go.Proofs.YtdhgeondbnpeoaaW.PrintMore
attribute [local go_sem] y0x y0v max_two min_two y0q y0p y0w y0u
def mobs_below.l0:Nat->List Int->List Int->List (S89)->Int->Int->Option (List Int)
 |0,_,_,_,_,_=>none
 |k+1,x0,x1,x5,x8,x9=>if x9<x8 then (if 0≤x9 then (if x9<(x0.length:Int) then (if x9<(x1.length:Int) then (if x5.length<8796093022208 then (mobs_below.l0 k x0 x1 (x5 ++ [(⟨rd x0 x9,rd x1 x9⟩:S89)]) x8 (wrap64 (x9+1))) else (none)) else (none)) else (none)) else (none)) else ((mobs_number_2_int.f x5).bind fun t605=>(some t605))
def mobs_below.f (k:Nat) (l0:List Int) (l1:List Int):Option (List Int):=mobs_below.l0 k l0 l1 ([]:List (S89)) (l0.length:Int) 0
def mobs_below.T5:Bool × List (List Nat × List Nat):=(true,[([],[]),([],[]),([],[]),([1,2],[1,2]),([3],[3]),([],[]),([],[]),([5,6],[5,6]),([7],[7]),([4,8],[4,8]),([9],[9]),([0,10],[0,10]),([11,11,0,1,2,3,4,5,6,7,8,9,10,11],[0,11])])
def mobs_below.B5:List Nat:=[0,0,0,6,14,0,0,96,224,510,1022,2047,4095]
theorem mobs_below.tab5:rtab .any (opsOf Tra.f63 5)=mobs_below.T5:=by kernel_rfl
theorem mobs_below.bits5:waitsOk mobs_below.T5.2 mobs_below.B5=true:=by kernel_rfl
set_option maxHeartbeats 8000000 in
set_option maxRecDepth 100000 in
theorem mobs_below.flat (k:Nat) (A0:Option Addr) (c0:Nat) (l0:List Int) (A1:Option Addr) (c1:Nat) (l1:List Int) (r:List Int) (w:World) (hr0:Kd.C (Kd.int .i64) w A0 l0.length l0) (hc0:l0.length≤c0) (hr1:Kd.C (Kd.int .i64) w A1 l1.length l1) (hc1:l1.length≤c1) (h:mobs_below.f k l0 l1=some r) :
  Calls Tra.prog 63 #[.slice A0 l0.length c0,.slice A1 l1.length c1] w fun e w'=>∃ v0_:Value,e=.returned (v0_)∧Ext.OwnI w' w.heap.size v0_ r∧Below w.heap.size w w':=by
 have hu89:=Tra.underlying89;have HR0:=As0.mk hr0;have HC0:=As0.mk hc0;clear hr0 hc0;have HR1:=As0.mk hr1;have HC1:=As0.mk hc1;clear hr1 hc1;have HB:=As0.mk (Below.refl w.heap.size w);have H:(mobs_below.l0 k l0 l1 ([]:List (S89)) (l0.length:Int) 0)=some r:=h;clear h;have H':=As0.mk H;clear H;go_enter Tra.func63,Tra.ntmps63
 go_wp2
 go_loopg [5,9] k (fun kq v5 v9 w'=>∃ (x5_1:List (S89)) (x9_1:Int),v9=.int .i64 x9_1∧As0 (mobs_below.l0 kq l0 l1 x5_1 (l0.length:Int) x9_1=some r)∧As0 (kq≤k)∧As0 (Kd.R k89 89 w' w.heap.size (fun _=>True) v5 x5_1)∧As0 (Below w.heap.size w w'))
 case atStart=>exact ⟨(([]:List (S89))),(0),(by first|rfl|(simp;done)|(simp [*];done)),H',⟨Nat.le_refl _⟩,⟨by first|exact Kd.R_nil _ _ _ _ _|exact Kd.N_nil _ _ _ _ _|exact Kd.V_nil _ _ _ _ _|exact Kd.Q_nil _ _ _ _ _|exact Kd.S_nil _ _ _ _ _⟩,⟨by repeat (first|(with_reducible first|exact HB.out|apply y02|apply y00|apply y01)|exact HB.out)⟩⟩
 case round =>
  clear H'
  try clear c1
  try clear p2
  obtain ⟨x5_1,x9_1,rfl,HA,HK1,HO_5,HB⟩:=hrel;cases gk with
  |zero=>exact absurd HA.out (by simp [mobs_below.l0])
  |succ k1 =>
   have H:=HA.out;clear HA;simp only [mobs_below.l0] at H
   by_cases c3:x9_1<(l0.length:Int)
   ·rw [if_pos c3] at H
    have c3b0:decide (x9_1<(l0.length:Int))=true:=decide_eq_true c3;clear c3
    by_cases c4:0≤x9_1
    ·rw [if_pos c4] at H
     have c4b0:decide (0≤x9_1)=true:=decide_eq_true c4;clear c4
     by_cases c5:x9_1<(l0.length:Int)
     ·rw [if_pos c5] at H
      have c5b0:decide (x9_1<(l0.length:Int))=true:=decide_eq_true c5;clear c5
      by_cases c6:x9_1<(l1.length:Int)
      ·rw [if_pos c6] at H
       have c6b0:decide (x9_1<(l1.length:Int))=true:=decide_eq_true c6;clear c6
       by_cases c7:x5_1.length<8796093022208
       ·rw [if_pos c7] at H
        have LMc7:=As0.mk c7;clear c7;obtain ⟨y602,hy602⟩:∃ y_:List (S89),y_=(x5_1 ++ [(⟨rd l0 x9_1,rd l1 x9_1⟩:S89)]):=⟨_,rfl⟩
        replace H:(mobs_below.l0 k1 l0 l1 y602 (l0.length:Int) (wrap64 (x9_1+1)))=some r:=by first|(rw [hy602];with_reducible exact H)|(have H2_:=(Option.bind_some _ _).symm.trans H;rw [hy602];with_reducible exact H2_)|(have H2_:=(Option.bind_some _ _).symm.trans H;with_reducible exact H2_)|with_reducible exact H|(rw [hy602];exact H)|exact H
        have Ny602:=As0.mk hy602;clear hy602;have H':=As0.mk H;clear H
        try go_wp2
        have n0_:=As0.mk (Kd.R_drew HO_5.out);have n1_:=As0.mk (y01 HB.out);clear HO_5;clear HB;have HO_5:=n0_;have HB:=n1_;clear n0_ n1_;have p600:0≤(x9_1:Int):=of_decide_eq_true (by first|(with_reducible assumption)|assumption);have q600:x9_1<(l0.length:Int):=of_decide_eq_true (by first|(with_reducible assumption)|assumption);obtain ⟨ad600,e600,hx600_0⟩:=Kd.at_int HR0.out x9_1 p600 q600;have hw600_0:=hx600_0;cases e600
        replace hx600_0:=(HB.out.cell (World.block_lt_of_cell? w _ hx600_0)).trans hx600_0;replace p600:=eq_true p600;replace q600:=eq_true q600;have p601:0≤(x9_1:Int):=of_decide_eq_true (by first|(with_reducible assumption)|assumption);have q601:x9_1<(l1.length:Int):=of_decide_eq_true (by first|(with_reducible assumption)|assumption);obtain ⟨ad601,e601,hx601_0⟩:=Kd.at_int HR1.out x9_1 p601 q601;have hw601_0:=hx601_0;cases e601
        replace hx601_0:=(HB.out.cell (World.block_lt_of_cell? w _ hx601_0)).trans hx601_0;replace p601:=eq_true p601;replace q601:=eq_true q601;refine start_ (n:=13) (S:=fun w'=>w'.cell? (ad600.add (x9_1).toNat)=some (.int .i64 (rd l0 x9_1))∧w'.cell? (ad601.add (x9_1).toNat)=some (.int .i64 (rd l1 x9_1))) (ds:=[]) #[false,false,false,false,false,false,false,false,false,false,false,false,false] (by kernel_rfl) rfl rfl ⟨((HB.out.cell (World.block_lt_of_cell? w _ hw600_0)).trans hw600_0),((HB.out.cell (World.block_lt_of_cell? w _ hw601_0)).trans hw601_0)⟩ (fun hHeld=>?_);refine with_tabW mobs_below.tab5 mobs_below.bits5 (fun HT_ HW_=>?_);generalize wr.drew=w8 at HO_5 HB hx600_0 hx601_0 hHeld ⊢;refine pure_ (i:=0) (N:=some 12) (v:=?_) (a':=?_) #[true,false,false,false,false,false,false,false,false,false,false,false,false] rfl rfl (y0e HT_.out (by kernel_rfl)) (fun _ _ _ h=>h) (Or.inl ⟨by rfl,?_⟩) ?_ ?_;rotate_left
        ·intro w'
         go_simp
         with_reducible rfl
        rotate_left
        ·simp only [Act.put,List.setIfInBounds_toArray,List.set_cons_zero,List.set_cons_succ,i64_w,i32_w]
         rfl
        refine pure_ (i:=1) (N:=some 13) (v:=?_) (a':=?_) #[true,true,false,false,false,false,false,false,false,false,false,false,false] rfl rfl (y0e HT_.out (by kernel_rfl)) (fun _ _ _ h=>h) (Or.inl ⟨by rfl,?_⟩) ?_ ?_;rotate_left
        ·intro w'
         go_simp
         with_reducible rfl
        rotate_left
        ·simp only [Act.put,List.setIfInBounds_toArray,List.set_cons_zero,List.set_cons_succ,i64_w,i32_w]
         rfl
        refine pure_ (i:=2) (N:=some 14) (v:=?_) (a':=?_) #[true,true,true,false,false,false,false,false,false,false,false,false,false] rfl rfl (y0e HT_.out (by kernel_rfl)) (fun _ _ _ h=>h) (Or.inl ⟨by rfl,?_⟩) ?_ ?_;rotate_left
        ·intro w'
         go_simp
         with_reducible rfl
        rotate_left
        ·simp only [Act.put,List.setIfInBounds_toArray,List.set_cons_zero,List.set_cons_succ,i64_w,i32_w]
         rfl
        refine pure_ (i:=3) (N:=some 15) (v:=?_) (a':=?_) #[true,true,true,true,false,false,false,false,false,false,false,false,false] rfl rfl (y0e HT_.out (by kernel_rfl)) (fun _ _ _ h=>h) (Or.inl ⟨by rfl,?_⟩) ?_ ?_;rotate_left
        ·intro w'
         go_simp
         with_reducible rfl
        rotate_left
        ·simp only [Act.put,List.setIfInBounds_toArray,List.set_cons_zero,List.set_cons_succ,i64_w,i32_w]
         rfl
        refine pure_ (i:=5) (N:=some 17) (v:=?_) (a':=?_) #[true,true,true,true,false,true,false,false,false,false,false,false,false] rfl rfl (y0e HT_.out (by kernel_rfl)) (fun _ _ _ h=>h) (Or.inl ⟨by rfl,?_⟩) ?_ ?_;rotate_left
        ·intro w'
         go_simp
         with_reducible rfl
        rotate_left
        ·simp only [Act.put,List.setIfInBounds_toArray,List.set_cons_zero,List.set_cons_succ,i64_w,i32_w]
         rfl
        refine pure_ (i:=6) (N:=some 18) (v:=?_) (a':=?_) #[true,true,true,true,false,true,true,false,false,false,false,false,false] rfl rfl (y0e HT_.out (by kernel_rfl)) (fun _ _ _ h=>h) (Or.inl ⟨by rfl,?_⟩) ?_ ?_;rotate_left
        ·intro w'
         go_simp
         with_reducible rfl
        rotate_left
        ·simp only [Act.put,List.setIfInBounds_toArray,List.set_cons_zero,List.set_cons_succ,i64_w,i32_w]
         rfl
        refine pure_ (i:=7) (N:=some 19) (v:=?_) (a':=?_) #[true,true,true,true,false,true,true,true,false,false,false,false,false] rfl rfl (y0e HT_.out (by kernel_rfl)) (fun _ _ _ h=>h) (Or.inl ⟨by rfl,?_⟩) ?_ ?_;rotate_left
        ·intro w'
         go_simp
         with_reducible rfl
        rotate_left
        ·simp only [Act.put,List.setIfInBounds_toArray,List.set_cons_zero,List.set_cons_succ,i64_w,i32_w]
         rfl
        refine take_ (i:=4) (N:=some 16) (v:=?_) (a':=?_) #[true,true,true,true,true,true,true,true,false,false,false,false,false] rfl rfl (take_ofW HT_.out HW_.out (by kernel_rfl)) (fun _ _ _ h=>h) (Or.inl ⟨by rfl,?_⟩) hHeld ?_ ?_;rotate_left
        ·rintro w' ⟨s0,s1⟩
         go_simp
         with_reducible rfl
        rotate_left
        ·simp only [Act.put,List.setIfInBounds_toArray,List.set_cons_zero,List.set_cons_succ,i64_w,i32_w]
         rfl
        refine take_ (i:=8) (N:=some 20) (v:=?_) (a':=?_) #[true,true,true,true,true,true,true,true,true,false,false,false,false] rfl rfl (take_ofW HT_.out HW_.out (by kernel_rfl)) (fun _ _ _ h=>h) (Or.inl ⟨by rfl,?_⟩) hHeld ?_ ?_;rotate_left
        ·rintro w' ⟨s0,s1⟩
         go_simp
         with_reducible rfl
        rotate_left
        ·simp only [Act.put,List.setIfInBounds_toArray,List.set_cons_zero,List.set_cons_succ,i64_w,i32_w]
         rfl
        refine pure_ (i:=9) (N:=some 21) (v:=?_) (a':=?_) #[true,true,true,true,true,true,true,true,true,true,false,false,false] rfl rfl (y0e HT_.out (by kernel_rfl)) (fun _ _ _ h=>h) (Or.inl ⟨by rfl,?_⟩) ?_ ?_;rotate_left
        ·intro w'
         go_simp
         with_reducible rfl
        rotate_left
        ·simp only [Act.put,List.setIfInBounds_toArray,List.set_cons_zero,List.set_cons_succ,i64_w,i32_w]
         rfl
        refine one_ (i:=10) (N:=some 22) #[true,true,true,true,true,true,true,true,true,true,true,false,false] rfl rfl (one_of HT_.out (by kernel_rfl)) (by decide) (fun K hK=>?_);refine value_ (w1:=?_) (v:=?_) (by rfl) rfl ?_ ?_;rotate_left 2
        ·go_simp
         constructor
         ·rfl
         ·rfl
        refine hK.out _ _ ⟨(World.cell?_alloc_lt _ _ _ (World.block_lt_of_cell? _ _ (((HB.out.cell (World.block_lt_of_cell? w _ hw600_0)).trans hw600_0)))).trans (((HB.out.cell (World.block_lt_of_cell? w _ hw600_0)).trans hw600_0)),(World.cell?_alloc_lt _ _ _ (World.block_lt_of_cell? _ _ (((HB.out.cell (World.block_lt_of_cell? w _ hw601_0)).trans hw601_0)))).trans (((HB.out.cell (World.block_lt_of_cell? w _ hw601_0)).trans hw601_0))⟩ (fun hHeld=>?_);clear hK K;refine norm_ (a':=?_) ?_ ?_;rotate_left
        ·show Act.put _ (some 22) _=_
         simp only [Act.put,List.setIfInBounds_toArray,List.set_cons_zero,List.set_cons_succ,i64_w,i32_w];rfl
        refine one_ (i:=11) (N:=some 23) #[true,true,true,true,true,true,true,true,true,true,true,true,false] rfl rfl (one_of HT_.out (by kernel_rfl)) (by decide) (fun K hK=>?_);refine Kd.R_append_step k89 (w0:=w) w.heap.size (by rfl) (.tmp 12) (.tmp 22) 88 89 (.agg #[(.int .i64 0),(.int .i64 0)]) 16 rfl Tra.underlying88 info89 rfl (by decide) (by omega) u5 x5_1 (⟨rd l0 x9_1,rd l1 x9_1⟩:S89) [.int .i64 (rd l0 x9_1),.int .i64 (rd l1 x9_1)] (fun _=>True) (fun _=>False) rfl rfl ?aP (fun _ hk=>hk.elim) ?aF ?aO ?aB ?aS ?aL ?_
        (case aP=>exact k89_mkM _ _ _ (⟨rd l0 x9_1,rd l1 x9_1⟩:S89))
        (case aB=>exact (by repeat (first|(with_reducible first|exact HB.out|apply y02|apply y00|apply y01)|exact HB.out)))
        (case aF=>exact (fun _ _=>trivial))
        (case aO=>exact (by (with_reducible repeat (first|apply Kd.R_alloc|apply Kd.R_drewN|apply Kd.R_drew));exact HO_5.out))
        (case aS=>exact (y09 (by repeat (first|(with_reducible first|exact HB.out|apply y02|apply y00|apply y01)|exact HB.out))))
        (case aL=>have:=LMc7.out;omega)
        intro v603 w9 ho hb hg hat;rw [← Ny602.out] at ho;have n0_:=As0.mk (hb);have n1_:=As0.mk (ho);clear HB;clear HO_5;have HB:=n0_;have HO604:=n1_;clear n0_ n1_;clear ho hb hg hat;refine hK.out _ _ ⟨((HB.out.cell (World.block_lt_of_cell? w _ hw600_0)).trans hw600_0),((HB.out.cell (World.block_lt_of_cell? w _ hw601_0)).trans hw601_0)⟩ (fun hHeld=>?_);clear hK K;refine norm_ (a':=?_) ?_ ?_;rotate_left
        ·show Act.put _ (some 23) _=_
         simp only [Act.put,List.setIfInBounds_toArray,List.set_cons_zero,List.set_cons_succ,i64_w,i32_w];rfl
        refine pure_ (i:=12) (N:=some 5) (v:=?_) (a':=?_) #[true,true,true,true,true,true,true,true,true,true,true,true,true] rfl rfl (y0e HT_.out (by kernel_rfl)) (fun _ _ _ h=>h) (Or.inl ⟨by rfl,?_⟩) ?_ ?_;rotate_left
        ·intro w'
         go_simp
         with_reducible rfl
        rotate_left
        ·simp only [Act.put,List.setIfInBounds_toArray,List.set_cons_zero,List.set_cons_succ,i64_w,i32_w]
         rfl
        refine done_ (done_of HT_.out (by kernel_rfl)) ?_
        try go_wp2
        go_roundg k1
        case measure=>have:=HK1.out;omega
        case rel=>exact ⟨(y602),(wrap64 (x9_1+1)),(by first|rfl|(simp;done)|(simp [*];done)),H',⟨by have:=HK1.out;omega⟩,⟨by (with_reducible repeat (first|apply Kd.R_alloc|apply Kd.R_drewN|apply Kd.R_drew));exact HO604.out⟩,⟨by repeat (first|(with_reducible first|exact HB.out|apply y02|apply y00|apply y01)|exact HB.out)⟩⟩
       ·rw [if_neg c7] at H
        exact absurd H (by simp)
      ·rw [if_neg c6] at H
       exact absurd H (by simp)
     ·rw [if_neg c5] at H
      exact absurd H (by simp)
    ·rw [if_neg c4] at H
     exact absurd H (by simp)
   ·rw [if_neg c3] at H
    have c3b0:decide (x9_1<(l0.length:Int))=false:=decide_eq_false c3;clear c3;replace H:=Option.bind_eq_some_iff.mp H;obtain ⟨t605,A100,H⟩:=H;replace H:(some t605)=some r:=H;have A10:=As0.mk A100;clear A100;obtain rfl:=Option.some.inj H;obtain ⟨Ao11,co11,eo11⟩:=Kd.R_slice HO_5.out;subst eo11;go_wp2_with (first|((with_reducible refine y0c (f:=84) rfl ?_);refine y0s (some 26) rfl rfl Tra.func84 (by kernel_rfl) rfl #[.slice Ao11 x5_1.length co11] rfl (by (try simp only [List.map_toArray,List.map_cons,List.map_nil]);first|done|rfl|(simp only [List.length_drop,List.length_take];rfl)) ?_;(with_reducible refine (mobs_number_2_int.own _ _ x5_1 t605 _ ?side1 ?side2 A10.out).mono ?_);(case side1=>repeat (first|exact (Kd.R_reads' HO_5.out).2.2|(with_reducible refine Kd.C_alloc ?_ _)|(with_reducible refine Kd.C_drewN ?_ _)|(with_reducible refine Kd.C_drew ?_)));(case side2=>exact (Kd.R_reads' HO_5.out).2.1);rintro e w12 ⟨v606,rfl,hoI_,hb⟩;have HOI_:=As0.mk (hoI_.lower (y09 (by repeat (first|(with_reducible first|exact HB.out|apply y02|apply y00|apply y01)|exact HB.out))));have ho0:=hoI_.toR;clear hoI_;refine ⟨_,rfl,?_⟩;have n0_:=As0.mk (Kd.R_below (by (with_reducible repeat (first|apply Kd.R_alloc|apply Kd.R_drewN|apply Kd.R_drew));exact HO_5.out) hb);have n1_:=As0.mk (Kd.R_lower ho0 (y09 (by repeat (first|(with_reducible first|exact HB.out|apply y02|apply y00|apply y01)|exact HB.out))));have n2_:=As0.mk (y08 (by repeat (first|(with_reducible first|exact HB.out|apply y02|apply y00|apply y01)|exact HB.out)) hb);clear HO_5;clear HB;have HO_5:=n0_;have HO607:=n1_;have HB:=n2_;clear n0_ n1_ n2_;(try clear hb);(try clear hb2);(try clear hk);(try clear hi);(try clear ho0)))
    go_ret
    exact ⟨_,by first|rfl|(simp [y07,y06]<;>rfl)|(simp [*,y07,y06]<;>rfl),HOI_.out,by repeat (first|(with_reducible first|exact HB.out|apply y02|apply y00|apply y01)|exact HB.out)⟩
end Go.Proofs.Ytdhgeondbnpeoaa.P
namespace Go.Proofs.Ytdhgeondbnpeoaa.Ext
open Go.RowKit Go.Proofs.YtdhgeondbnpeoaaW.PrintWords Go.Proofs.YtdhgeondbnpeoaaW.PrintLast Go.Proofs.YtdhgeondbnpeoaaW.PrintMore
attribute [local go_sem] y0x y0v max_two min_two y0q y0p y0w y0u
def swapL (x y:Int) (out:List Int):List Int:=out.map fun z=>if z=x then y else z
def swapTo (x y:Int) (out:List Int) (j:Nat):List Int:=swapL x y (out.take j) ++ out.drop j
def joinStep (b:List Int) (i k:Nat) (out:List Int):List Int:=if b.getD i 0≠b.getD k 0∨out.getD i 0=out.getD k 0 then out else swapL (out.getD i 0) (out.getD k 0) out
def joinIn (b:List Int) (i:Nat):Nat->List Int->List Int
 |0,o=>o
 |k+1,o=>joinStep b i k (joinIn b i k o)
def joinAll (b:List Int):Nat->List Int->List Int
 |0,o=>o
 |i+1,o=>joinIn b i i (joinAll b i o)
def aboveL (a b:List Int):List Int:=numL (joinAll b b.length a)
theorem swapL_len (x y:Int) (o:List Int):(swapL x y o).length=o.length:=by simp [swapL]
theorem swapTo_len (x y:Int) (o:List Int) (j:Nat):(swapTo x y o j).length=o.length:=by simp [swapTo,swapL_len];omega
theorem joinStep_len (b:List Int) (i k:Nat) (o:List Int):(joinStep b i k o).length=o.length:=by unfold joinStep;split<;>simp [swapL_len]
theorem joinIn_len (b:List Int) (i:Nat):∀ (k:Nat) (o:List Int),(joinIn b i k o).length=o.length
 |0,_=>rfl
 |k+1,o=>(joinStep_len b i k _).trans (joinIn_len b i k o)
theorem joinAll_len (b:List Int):∀ (i:Nat) (o:List Int),(joinAll b i o).length=o.length
 |0,_=>rfl
 |i+1,o=>(joinIn_len b i i _).trans (joinAll_len b i o)
theorem swapTo_zero (x y:Int) (o:List Int):swapTo x y o 0=o:=by simp [swapTo,swapL]
theorem swapTo_all (x y:Int) (o:List Int):swapTo x y o o.length=swapL x y o:=by simp [swapTo]
theorem swapTo_at (x y:Int) {o:List Int} {j:Nat} (h:j<o.length):(swapTo x y o j).getD j 0=o.getD j 0:=by
 have h1:(swapL x y (o.take j)).length=j:=by rw [swapL_len,List.length_take];omega
 unfold swapTo;rw [List.getD_eq_getElem?_getD,List.getElem?_append_right (by omega),h1,Nat.sub_self,List.getElem?_drop,List.getD_eq_getElem?_getD,Nat.add_zero]
theorem swapTo_succ (x y:Int) {o:List Int} {j:Nat} (h:j<o.length):swapTo x y o (j+1)=(swapTo x y o j).set j (if o.getD j 0=x then y else o.getD j 0):=by
 have h1:(swapL x y (o.take j)).length=j:=by rw [swapL_len,List.length_take];omega
 unfold swapTo;rw [List.set_append,if_neg (by omega),h1,Nat.sub_self,List.drop_eq_getElem_cons h,List.set_cons_zero,List.take_succ_eq_append_getElem h];rw [List.getD_eq_getElem?_getD,List.getElem?_eq_getElem h];unfold swapL;rw [List.map_append,List.append_assoc];rfl
theorem swapTo_same (x y:Int) {o:List Int} {j:Nat} (h:j<o.length) (hne:o.getD j 0≠x):swapTo x y o (j+1)=swapTo x y o j:=by
 rw [swapTo_succ x y h,if_neg hne,← swapTo_at x y h];have hl:j<(swapTo x y o j).length:=by rw [swapTo_len];exact h
 rw [List.getD_eq_getElem?_getD,List.getElem?_eq_getElem hl,Option.getD_some,List.set_getElem_self]
theorem mem_join {b:List Int} {p:Int->Prop}:∀ {i:Nat} {o:List Int},(∀ x ∈ o,p x)->p 0->∀ x ∈ joinAll b i o,p x:=by
 have hg:∀ {o:List Int} (i:Nat),(∀ x ∈ o,p x)->p 0->p (o.getD i 0):=by
  intro o i h h0;rw [List.getD_eq_getElem?_getD];cases hi:o[i]? with
  |none=>exact h0
  |some v=>exact h v (List.mem_of_getElem? hi)
 have hs:∀ {i k:Nat} {o:List Int},(∀ x ∈ o,p x)->p 0->∀ x ∈ joinStep b i k o,p x:=by
  intro i k o h h0 x hx;unfold joinStep at hx;split at hx
  ·exact h x hx
  ·simp only [swapL,List.mem_map] at hx
   obtain ⟨z,hz,rfl⟩:=hx;split
   ·exact hg k h h0
   ·exact h z hz
 have hi:∀ {i:Nat} (k:Nat) {o:List Int},(∀ x ∈ o,p x)->p 0->∀ x ∈ joinIn b i k o,p x:=by
  intro i k
  induction k with
  |zero=>intro o h _;exact h
  |succ k ih=>intro o h h0;exact hs (ih h h0) h0
 intro i
 induction i with
 |zero=>intro o h _;exact h
 |succ i ih=>intro o h h0;exact hi i (ih h h0) h0
set_option maxHeartbeats 8000000 in
set_option maxRecDepth 100000 in
theorem above_all (A:Option Addr) (c:Nat) (la:List Int) (B:Option Addr) (cb:Nat) (lb:List Int) (w:World) (hra:Kd.C (Kd.int .i64) w A la.length la) (hrb:Kd.C (Kd.int .i64) w B lb.length lb) (hab:la.length=lb.length) (hok:∀ x ∈ la,In64 x) (hL:la.length<17592186044416) :
  Calls Tra.prog 65 #[.slice A la.length c,.slice B lb.length cb] w fun e w'=>∃ v,e=.returned v∧OwnI w' w.heap.size v (aboveL la lb)∧Below w.heap.size w w':=by
 have HRB:=As0.mk hrb;have HL:=As0.mk hL;have HAB:=As0.mk hab;have HOK:=As0.mk (mem_join (b:=lb) (i:=lb.length) hok (by unfold In64;omega));have HA:=As0.mk (clone_calls A c la w hra hL);clear hra hrb hL hab hok;go_enter Tra.func65,Tra.ntmps65
 go_wp2_with fail
 refine HA.out.mono ?_
 rintro e w1 ⟨v5,rfl,hR5,hB1⟩
 have HR1:=As0.mk hR5;have HB1:=As0.mk hB1;clear hR5 hB1 HA;go_wp2_with fail
 go_loopw [16] (fun v16 W=>∃ i:Nat,v16=.int .i64 i∧As0 (i≤lb.length)∧As0 (Kd.R (Kd.int .i64) 3 W w.heap.size (fun _=>True) v5 (joinAll lb i la))∧As0 (Below w.heap.size w W)) (fun v16 _=>(lb.length - intOf v16).toNat)
 case atStart=>exact ⟨0,rfl,⟨Nat.zero_le _⟩,HR1,HB1⟩
 case round =>
  obtain ⟨i,rfl,hi,hR,hB⟩:=hrel;have hi':=hi.out;have hab:=HAB.out;have hLo:lb.length<17592186044416:=by have:=HL.out;omega
  by_cases hlt:i<lb.length
  ·obtain ⟨g,cap,hv,hbg,hgl,_⟩:=Kd.R_form hR.out (by rw [joinAll_len];omega)
   rw [joinAll_len,hab] at hv;subst hv;have HLEN:=As0.mk (joinAll_len lb i la);have HI:=As0.mk hlt;clear hab;go_wp2_with fail
   go_loopw [20] (fun v20 W=>∃ k:Nat,v20=.int .i64 k∧As0 (k≤i)∧As0 (Kd.R (Kd.int .i64) 3 W w.heap.size (fun _=>True) (.slice (some ⟨g,0,none⟩) lb.length cap) (joinIn lb i k (joinAll lb i la)))∧As0 (Below w.heap.size w W)) (fun v20 _=>(i - intOf v20).toNat)
   case atStart=>exact ⟨0,rfl,⟨Nat.zero_le _⟩,hR,hB⟩
   case round =>
    clear hR hB;obtain ⟨k,rfl,hk,hR,hB⟩:=hrel;have hk':=hk.out
    by_cases hki:k<i
    ·have hkl:k<lb.length:=by omega
     have hln:=joinIn_len lb i k (joinAll lb i la);have hln2:=HLEN.out;have hab:=HAB.out;obtain ⟨o,ho⟩:∃ o,o=joinIn lb i k (joinAll lb i la):=⟨_,rfl⟩
     rw [← ho] at hR hln;have HOE:=As0.mk ho;clear ho;obtain ⟨hci,hfi⟩:=Kd.R_celln 0 hR.out (i:Int) (by omega) (by omega);obtain ⟨hck,hfk⟩:=Kd.R_celln 0 hR.out (k:Int) (by omega) (by omega);obtain ⟨bd,rfl,hbi⟩:=Kd.at_int (Kd.C_below HRB.out hB.out) (i:Int) (by omega) (by omega);obtain ⟨bd',hbe,hbk⟩:=Kd.at_int (Kd.C_below HRB.out hB.out) (k:Int) (by omega) (by omega);injection hbe with hbe
     subst hbe;simp only [Int.toNat_natCast,rdOf,rd] at hci hck hbi hbk;obtain ⟨oi,hoi⟩:∃ x,x=o.getD i 0:=⟨_,rfl⟩
     obtain ⟨ok,hok⟩:∃ x,x=o.getD k 0:=⟨_,rfl⟩
     obtain ⟨bi,hbi'⟩:∃ x,x=lb.getD i 0:=⟨_,rfl⟩
     obtain ⟨bk,hbk'⟩:∃ x,x=lb.getD k 0:=⟨_,rfl⟩
     replace hci:wr.cell? ⟨g,i,none⟩=some (.int .i64 oi):=by rw [hoi];exact hci
     replace hck:wr.cell? ⟨g,k,none⟩=some (.int .i64 ok):=by rw [hok];exact hck
     rw [← hbi'] at hbi;rw [← hbk'] at hbk;have HST:=As0.mk (show joinIn lb i (k+1) (joinAll lb i la)=if bi≠bk∨oi=ok then o else swapL oi ok o from by rw [hbi',hbk',hoi,hok,HOE.out];rfl);have HOI:=As0.mk hoi;have HOK2:=As0.mk hok;have HLN:=As0.mk (hln.trans hln2);clear hoi hok hbi' hbk' hfi hfk hln hln2
     by_cases hbb:bi=bk
     ·by_cases hoo:oi=ok
      ·subst hbb hoo
       have HST2:=As0.mk (HST.out.trans (if_pos (.inr rfl)));clear HST;go_wp2_with fail
       go_quiet (fail)
       go_wp2_with fail
       go_roundw
       case rel=>exact ⟨k+1,by go_num,⟨by omega⟩,⟨by rw [HST2.out];exact Kd.R_drewN hR.out _⟩,⟨y00 hB.out _⟩⟩
       case measure=>simp [intOf];omega
      ·subst hbb
       have HST2:=As0.mk (HST.out.trans (if_neg (by rintro (h|h);exact h rfl;exact hoo h)));have hoo1:(oi == ok)=false:=beq_eq_false_iff_ne.mpr hoo;clear HST;go_wp2_with fail
       go_quiet (fail)
       have HRq:=As0.mk (Kd.R_drewN hR.out nq);have HBq:=As0.mk (y00 hB.out nq);go_wp2_with fail
       go_quiet (fail)
       have HR0:=As0.mk (show Kd.R (Kd.int .i64) 3 _ w.heap.size (fun _=>True) (.slice (some ⟨g,0,none⟩) lb.length cap) (swapTo oi ok o 0) from by rw [swapTo_zero];exact Kd.R_drewN HRq.out nq);have HB0:=As0.mk (y00 HBq.out nq);clear hci hck hbi hbk hR hB HRq HBq;go_wp2_with fail
       go_loopw [53] (fun v53 W=>∃ j:Nat,v53=.int .i64 j∧As0 (j≤lb.length)∧As0 (Kd.R (Kd.int .i64) 3 W w.heap.size (fun _=>True) (.slice (some ⟨g,0,none⟩) lb.length cap) (swapTo oi ok o j))∧As0 (Below w.heap.size w W)) (fun v53 _=>(lb.length - intOf v53).toNat)
       case atStart=>exact ⟨0,rfl,⟨Nat.zero_le _⟩,⟨by first|exact HR0.out|(have h:=HR0.out;rwa [World.drewN_drewN] at h)⟩,⟨by first|exact HB0.out|(have h:=HB0.out;rwa [World.drewN_drewN] at h)⟩⟩
       case round =>
        clear HR0 HB0;obtain ⟨j,rfl,hj,hR,hB⟩:=hrel;have hj':=hj.out
        by_cases hjl:j<lb.length
        ·have hol:j<o.length:=by have:=HLN.out;have:=HAB.out;omega
         obtain ⟨hcj,hfj⟩:=Kd.R_celln 0 hR.out (j:Int) (by omega) (by omega);simp only [Int.toNat_natCast] at hcj hfj;obtain ⟨oj,hoj⟩:∃ x,x=o.getD j 0:=⟨_,rfl⟩
         replace hcj:wr.cell? ⟨g,j,none⟩=some (.int .i64 oj):=by rw [hoj,← swapTo_at oi ok hol];exact hcj
         by_cases hjo:oj=oi
         ·have HP:=Kd.R_putn hR.out (j:Int) ok
          rw [Int.toNat_natCast,show (swapTo oi ok o j).set j ok=swapTo oi ok o (j+1) from by rw [swapTo_succ oi ok hol,← hoj,if_pos hjo]] at HP;have HP2:=As0.mk HP;have HB2:=As0.mk (hB.out.setCell (p:=⟨g,j,none⟩) hbg (.int .i64 ok));subst hjo;clear HP hoj hol;go_wp2_with fail
          go_roundw
          case rel=>exact ⟨j+1,by go_num,⟨by omega⟩,HP2,HB2⟩
          case measure=>simp [intOf];omega
         ·have HP2:=As0.mk (show Kd.R (Kd.int .i64) 3 wr w.heap.size (fun _=>True) (.slice (some ⟨g,0,none⟩) lb.length cap) (swapTo oi ok o (j+1)) from by rw [swapTo_same oi ok hol (by rw [← hoj];exact hjo)];exact hR.out)
          have hjo1:(oj == oi)=false:=beq_eq_false_iff_ne.mpr hjo;clear hoj hol;go_wp2_with fail
          go_roundw
          case rel=>exact ⟨j+1,by go_num,⟨by omega⟩,HP2,hB⟩
          case measure=>simp [intOf];omega
        ·have hje:j=lb.length:=by omega
         have HRn:=As0.mk (show Kd.R (Kd.int .i64) 3 wr w.heap.size (fun _=>True) (.slice (some ⟨g,0,none⟩) lb.length cap) (joinIn lb i (k+1) (joinAll lb i la)) from by
          rw [HST2.out,← swapTo_all,HLN.out,HAB.out];have h:=hR.out;rw [hje] at h;exact h)
         clear hje;go_wp2_with fail
         go_roundw
         case rel=>exact ⟨k+1,by go_num,⟨by omega⟩,HRn,hB⟩
         case measure=>simp [intOf];omega
     ·have HST2:=As0.mk (HST.out.trans (if_pos (.inl hbb)))
      have hbb1:(bi == bk)=false:=beq_eq_false_iff_ne.mpr hbb;have hbb2:(bi != bk)=true:=bne_iff_ne.mpr hbb;clear HST;go_wp2_with fail
      go_quiet (fail)
      go_wp2_with fail
      go_roundw
      case rel=>exact ⟨k+1,by go_num,⟨by omega⟩,⟨by rw [HST2.out];exact Kd.R_drewN hR.out _⟩,⟨y00 hB.out _⟩⟩
      case measure=>simp [intOf];omega
    ·have hke:k=i:=by omega
     have HRn:=As0.mk (show Kd.R (Kd.int .i64) 3 wr w.heap.size (fun _=>True) (.slice (some ⟨g,0,none⟩) lb.length cap) (joinAll lb (i+1) la) from by have:=hR.out;rw [hke] at this;exact this);clear hke;go_wp2_with fail
     have hii:=HI.out
     go_roundw
     case rel=>exact ⟨i+1,by go_num,⟨by have:=HI.out;omega⟩,HRn,hB⟩
     case measure=>have:=HI.out;simp [intOf];omega
  ·have hke:i=lb.length:=by omega
   have HR:=As0.mk (show Kd.R (Kd.int .i64) 3 wr w.heap.size (fun _=>True) v5 (joinAll lb lb.length la) from hke ▸ hR.out);clear hke;obtain ⟨Ao,co,rfl,hco,hC⟩:=Kd.R_reads HR.out;have HN:=As0.mk (num_all Ao co _ wr hC HOK.out (by rw [joinAll_len];exact HL.out));clear hC;go_wp2_with fail
   refine HN.out.mono ?_
   rintro e w2 ⟨v,rfl,hO,hb⟩
   have HO:=As0.mk (hO.lower hB.out.size);have HB2:=As0.mk (y08 hB.out hb);clear hO hb HN;go_wp2_with fail
   go_ret
   exact ⟨_,rfl,HO.out,HB2.out⟩
end Go.Proofs.Ytdhgeondbnpeoaa.Ext
namespace Go.Proofs.Ytdhgeondbnpeoaa.Ca
open Go.RowKit Go.Mt Go.Proofs.Ytdhgeondbnpeoaa.P Go.Proofs.YtdhgeondbnpeoaaW.PrintWords Go.Proofs.YtdhgeondbnpeoaaW.PrintLast Go.Proofs.YtdhgeondbnpeoaaW.PrintMore
theorem blk_C {w:World} {b:Nat} {xs:List Int} (h:IntBlk w b xs) (hn:xs.length≤9223372036854775807):Kd.C (Kd.int .i64) w (some ⟨b,0,none⟩) xs.length xs:=by
 obtain ⟨cs,fr,h1,h2,h3⟩:=h;refine Kd.C_of_reads (d:=(0:Int)) (h1:=fun _=>rfl) ⟨rfl,hn,fun _=>⟨_,rfl,fun j hj=>?_⟩⟩;rw [add_plain,cell_of_row w b j cs 3 fr h1];refine h3 j _ ?_;rw [List.getD_eq_getElem?_getD,List.getElem?_eq_getElem hj];rfl
theorem blk_V {w:World} {b c e N:Nat} {xs:List Int} (h:IntBlk w b xs) (hn:xs.length≤9223372036854775807) (hc:xs.length≤c):Kd.V (Kd.int .i64) e w N (fun _=>True) (.slice (some ⟨b,0,none⟩) xs.length c) xs :=
 Kd.V_mk hc fun W' hW=>blk_C (h.of_get (hW b trivial h.lt)) hn
theorem resI_of {w:World} {N:Nat} {v:Value} {xs:List Int} (h:Ext.OwnI w N v xs) (hx:0<xs.length):ResI N w v xs:=by
 obtain ⟨⟨h1,h2⟩,h3⟩:=h;rcases h2 with ⟨_,h0⟩|⟨g,cap,cur,rfl,hb,hg,hn,hm,hs,ht⟩
 ·omega
 ·refine ⟨g,cap,rfl,hb,cur,(0,0),hg,fun c hc=>?_,fun i x hi=>?_⟩
  ·obtain ⟨y,rfl⟩:=h3 g cur _ rfl hg c hc
   rfl
  ·have hlt:i<xs.length:=(List.getElem?_eq_some_iff.1 hi).1
   have e:(nums IntKind.i64 xs)[i]?=some (Value.int .i64 x):=by simp [nums,hi]
   rw [← ht,List.getElem?_take,if_pos (by omega)] at e;simpa using e
theorem same_l (xs:List Int) (hn:xs.length≤4):∀ (n k i:Nat),n=xs.length - i->n<k->w6_same.l0 k xs xs (i:Int)=some true
 |n,0,i,_,h=>absurd h (by omega)
 |n,k+1,i,h,hk=>by
  unfold w6_same.l0
  by_cases hi:(i:Int)<(xs.length:Int)
  ·rw [if_pos hi,if_pos (by omega),if_pos hi,if_pos rfl,show wrap64 ((i:Int)+1)=((i+1:Nat):Int) by unfold wrap64;omega]
   exact same_l xs hn (n - 1) k (i+1) (by omega) (by omega)
  ·rw [if_neg hi]
theorem same_self (xs:List Int) (hn:xs.length≤4):w6_same.f 60 xs xs=some true:=by
 unfold w6_same.f;rw [if_pos rfl];exact same_l xs hn _ 60 0 rfl (by omega)
theorem two_C {u:World} {b b1 b2:Nat} {xs ys:List Int} (h1:IntBlk u b1 xs) (h2:IntBlk u b2 ys) (hx:xs.length=4) (hy:ys.length=4) (hb:u.heap[b]?=some (.cells #[.slice (some ⟨b1,0,none⟩) 4 4,.slice (some ⟨b2,0,none⟩) 4 4] 29 (0,2))):Kd.C (Kd.slice 3 (Kd.int .i64)) u (some ⟨b,0,none⟩) 2 [xs,ys]:=by
 refine ⟨rfl,by decide,fun _=>⟨_,rfl,fun j p hj=>?_⟩⟩;have e:(Kd.slice 3 (Kd.int .i64)).sz=1:=rfl;have key:∀ (c:Nat) (zs:List Int) (j:Nat),IntBlk u c zs->zs.length=4->(#[Value.slice (some ⟨b1,0,none⟩) 4 4,.slice (some ⟨b2,0,none⟩) 4 4]:Array Value)[j]?=some (.slice (some ⟨c,0,none⟩) 4 4)->∃ c,c.length=1∧(Kd.slice 3 (Kd.int .i64)).K u zs c∧∀ i v,c[i]?=some v->u.cell? ((⟨b,0,none⟩:Addr).add (j * 1+i))=some v:=by
  intro c zs j hc hz hj;refine ⟨[.slice (some ⟨c,0,none⟩) 4 4],rfl,⟨some ⟨c,0,none⟩,4,by rw [hz],by omega,blk_C hc (by omega)⟩,fun i v hi=>?_⟩;have hi0:i=0:=by
   have:=(List.getElem?_eq_some_iff.1 hi).1;simp at this;omega
  subst hi0;rw [add_plain,cell_of_row u b _ _ 29 _ hb,Nat.mul_one,Nat.add_zero,hj];simpa using hi
 rcases j with _|_|j
 ·injection hj with hj
  subst hj;exact key b1 _ 0 h1 hx rfl
 ·have hj':ys=p:=by simpa using hj
  subst hj';exact key b2 _ 1 h2 hy rfl
 ·simp at hj
theorem alK:AlK Tra.prog where
 c36 u b h:=(mobs_Rank.calls 60 (fun _=>True) (some ⟨b,0,none⟩) 3 [0,1,1] 3 0 u (blk_V h (by decide) (by decide)) (by decide +kernel)).mono fun e w' hp=>hp.1
 c25 u b h:=(mobs_Between.flat 60 (fun _=>True) (some ⟨b,0,none⟩) 3 [0,0,1] [0,1,1] 0 u (blk_V h (by decide) (by decide)) (by decide +kernel)).mono fun e w' ⟨v,he,hO,_⟩=>⟨v,he,resI_of hO (by decide)⟩
 c16 u:=(mobs_Count.calls 60 4 2 7 0 u (by decide +kernel)).mono fun e w' hp=>hp.1
 c18 u:=(mobs_Plain.calls 60 4 2 6 0 u (by decide +kernel)).mono fun e w' hp=>hp.1
 c23 u b h:=(mobs_Crossed.calls 60 (fun _=>True) (some ⟨b,0,none⟩) 4 [0,1,0,1] 0 1 2 3 true 0 u (blk_V h (by decide) (by decide)) (by decide +kernel)).mono fun e w' hp=>hp.1
 c27 u b1 b2 c1 c2 xs h1 h2 hn:=(w6_same.nocap 60 (some ⟨b1,0,none⟩) c1 xs (some ⟨b2,0,none⟩) c2 xs true u (blk_C h1 (by omega)) (blk_C h2 (by omega)) (same_self xs hn)).mono fun e w' hp=>hp.1
 c49 u b b1 b2 h1 h2 hb:=(mobs_read.calls 60 (some ⟨b,0,none⟩) 2 [[0,0,1,1],[0,1,1,0]] 0 u (two_C h1 h2 rfl rfl hb) (by decide) (by decide +kernel)).mono fun e w' hp=>hp.1
 c63 u b1 b2 h1 h2:=(mobs_below.flat 60 (some ⟨b1,0,none⟩) 4 [0,0,1,1] (some ⟨b2,0,none⟩) 4 [0,1,1,0] [0,1,2,3] u (blk_C h1 (by decide)) (by decide) (blk_C h2 (by decide)) (by decide) (by decide +kernel)).mono fun e w' ⟨v,he,hO,_⟩=>⟨v,he,resI_of hO (by decide)⟩
 c65 u b1 b2 h1 h2:=by
  refine (Ext.above_all (some ⟨b1,0,none⟩) 4 [0,0,1,1] (some ⟨b2,0,none⟩) 4 [0,1,1,0] u (blk_C h1 (by decide)) (blk_C h2 (by decide)) rfl (by decide) (by decide)).mono fun e w' ⟨v,he,hO,_⟩=>⟨v,he,?_⟩
  have e1:Ext.aboveL [0,0,1,1] [0,1,1,0]=[0,0,0,0]:=by decide +kernel
  rw [e1] at hO;exact resI_of hO (by decide)
end Go.Proofs.Ytdhgeondbnpeoaa.Ca
namespace Go.Proofs.Ytdhgeondbnpeoaa.Ca
open Go.RowKit Go.Mt Go.Tr Go.Conc Go.ConcN
theorem below_of {W w:World} (h:Kept W.heap.size W w):Below W.heap.size W w:=⟨h.os,h.tape,h.output,h.size,h.old⟩
end Go.Proofs.Ytdhgeondbnpeoaa.Ca
namespace Go.Proofs.Ytdhgeondbnpeoaa.Ca
open Go.RowKit Go.Mt Go.Tr Go.Conc Go.ConcN
structure SlD where
 a:Option Addr
 len:Nat
 cap:Nat
 zs:List Int
def SlD.val (d:SlD):Value:=.slice d.a d.len d.cap
def SlD.ok (W:World) (d:SlD):Prop :=
 (d.a=none∧d.len=0∧d.cap=0∧d.zs=[])∨∃ x,d.a=some x∧x.spot=none∧(∃ cs e fr,W.heap[x.block]?=some (.cells cs e fr))∧d.len≤d.cap∧d.cap≤maxLen∧d.zs.length=d.cap ∧
  (∀ i,i<d.zs.length->W.cell? (x.add i)=some (.int .i64 (d.zs.getD i 0)))∧∀ n ∈ d.zs,(Lit.int .i64 n).wf=true
def SlD.ints (d:SlD):Array Value:=(d.zs.map (Value.int .i64)).toArray
def lone (N:Nat):Nat->List SlD->List SlD
 |_,[]=>[]
 |j,d :: ds=>match d.a with
  |none=>d :: lone N j ds
  |some _=>{ d with a:=some ⟨N+j,0,none⟩ } :: lone N (j+1) ds
def als:List SlD->List (Nat × Nat)
 |[]=>[]
 |d :: ds=>match d.a with
  |none=>als ds
  |some x=>(x.block,x.off) :: als ds
def blks:List SlD->List Obj
 |[]=>[]
 |d :: ds=>match d.a with
  |none=>blks ds
  |some _=>.cells d.ints 3 (0,d.ints.size) :: blks ds
theorem blks_len:∀ ds:List SlD,(blks ds).length=(als ds).length
 |[]=>rfl
 |d :: ds=>by
  unfold blks als;cases d.a<;>simp [blks_len ds]
theorem lone_len (N:Nat):∀ (j:Nat) (ds:List SlD),(lone N j ds).length=ds.length
 |_,[]=>rfl
 |j,d :: ds=>by
  unfold lone;cases d.a<;>simp [lone_len]
theorem lone_at (N:Nat):∀ (ds:List SlD) (j k:Nat) (d d':SlD),ds[k]?=some d->(lone N j ds)[k]?=some d' →
  d'.len=d.len∧d'.cap=d.cap∧d'.zs=d.zs∧((d.a=none∧d'.a=none)∨∃ x i,d.a=some x∧d'.a=some ⟨N+(j+i),0,none⟩∧(als ds)[i]?=some (x.block,x.off)∧(blks ds)[i]?=some (.cells d.ints 3 (0,d.ints.size)))
 |[],j,k,d,d',h,_=>by simp at h
 |c :: ds,j,k,d,d',h,h'=>by
  unfold lone at h';unfold als blks;cases hc:c.a with
  |none =>
   rw [hc] at h';simp only at h' ⊢;cases k with
   |zero =>
    simp only [List.getElem?_cons_zero,Option.some.injEq] at h h';subst h h';exact ⟨rfl,rfl,rfl,.inl ⟨hc,hc⟩⟩
   |succ k =>
    simp only [List.getElem?_cons_succ] at h h';exact lone_at N ds j k d d' h h'
  |some x =>
   rw [hc] at h';simp only at h' ⊢;cases k with
   |zero =>
    simp only [List.getElem?_cons_zero,Option.some.injEq] at h h';subst h h';exact ⟨rfl,rfl,rfl,.inr ⟨x,0,hc,rfl,rfl,rfl⟩⟩
   |succ k =>
    simp only [List.getElem?_cons_succ] at h h';obtain ⟨h1,h2,h3,h4⟩:=lone_at N ds (j+1) k d d' h h';refine ⟨h1,h2,h3,h4.imp id ?_⟩
    rintro ⟨y,i,e1,e2,e3,e4⟩
    exact ⟨y,i+1,e1,by rw [e2];congr 2;omega,by simpa using e3,by simpa using e4⟩
theorem als_at:∀ (ds:List SlD) (i b s:Nat),(als ds)[i]?=some (b,s)->∃ d x,d ∈ ds∧d.a=some x∧x.block=b∧x.off=s∧(blks ds)[i]?=some (.cells d.ints 3 (0,d.ints.size))
 |[],i,b,s,h=>by simp [als] at h
 |c :: ds,i,b,s,h=>by
  unfold als at h;unfold blks;cases hc:c.a with
  |none =>
   rw [hc] at h;obtain ⟨d,x,h1,h2⟩:=als_at ds i b s h;exact ⟨d,x,List.mem_cons_of_mem _ h1,h2⟩
  |some y =>
   rw [hc] at h;simp only at h;cases i with
   |zero =>
    simp only [List.getElem?_cons_zero,Option.some.injEq,Prod.mk.injEq] at h;exact ⟨c,y,List.mem_cons_self,hc,h.1,h.2,rfl⟩
   |succ i =>
    simp only [List.getElem?_cons_succ] at h;obtain ⟨d,x,h1,h2,h3,h4,h5⟩:=als_at ds i b s h;exact ⟨d,x,List.mem_cons_of_mem _ h1,h2,h3,h4,by simpa using h5⟩
def loneW (W:World) (ds:List SlD):World:={ W with heap:=Array.replicate W.heap.size (.map #[] 0) ++ (blks ds).toArray }
def KA (W:World) (ds:List SlD):Cfg:=⟨W.heap.size,fun _=>False,fun _=>False,als ds⟩
theorem loneW_get (W:World) (ds:List SlD) (j:Nat):(loneW W ds).heap[W.heap.size+j]?=(blks ds)[j]?:=by
 unfold loneW;simp only;rw [Array.getElem?_append_right (by simp)];simp
theorem lone_rel {W:World} {ds:List SlD} (hok:∀ d ∈ ds,d.ok W):WRel (KA W ds) ((als ds).map Prod.fst) (loneW W ds) W:=by
 have hlt:∀ (j b s:Nat),(als ds)[j]?=some (b,s)->b<W.heap.size:=by
  intro j b s hj;obtain ⟨d,x,h1,h2,h3,_⟩:=als_at ds j b s hj;rcases hok d h1 with ⟨h4,_⟩|⟨y,h4,_,⟨cs,e,fr,h5⟩,_⟩
  ·rw [h2] at h4;cases h4
  ·obtain rfl:=Option.some.inj (h2.symm.trans h4)
   rw [← h3];exact (Array.getElem?_eq_some_iff.1 h5).1
 have hL:∀ (j b:Nat),((als ds).map Prod.fst)[j]?=some b->b<W.heap.size:=by
  intro j b hj;rw [List.getElem?_map] at hj;obtain ⟨⟨b',s⟩,h1,h2⟩:=Option.map_eq_some_iff.1 hj;subst h2;exact hlt j b' s h1
 refine ⟨?_,Nat.le_refl _,rfl,rfl,hL,fun j b hj hn=>?_,fun i j b hi hj hn=>?_,fun b hb=>hb.elim,fun b hb=>hb.elim,fun j b s hj=>?_⟩
 ·show (Array.replicate W.heap.size _ ++ (blks ds).toArray).size=_
  simp [KA,blks_len]
 ·have:=hL j b hj
  exact absurd hn (Nat.not_le_of_lt this)
 ·have:=hL i b hi
  exact absurd hn (Nat.not_le_of_lt this)
 ·replace hj:(als ds)[j]?=some (b,s):=hj
  obtain ⟨d,x,h1,h2,h3,h4,h5⟩:=als_at ds j b s hj;rcases hok d h1 with ⟨h6,_⟩|⟨y,h6,hsp,⟨cs,e,fr,h7⟩,_,_,hzl,hcell,_⟩
  ·rw [h2] at h6;cases h6
  ·obtain rfl:=Option.some.inj (h2.symm.trans h6)
   subst h3 h4;refine ⟨(Array.getElem?_eq_some_iff.1 h7).1,fun h=>h,⟨x.block,by rw [List.getElem?_map,hj];rfl,(Array.getElem?_eq_some_iff.1 h7).1⟩,d.ints,cs,3,e,fr,?_,h7,fun i v hv=>?_⟩
   ·show (loneW W ds).heap[W.heap.size+j]?=_
    rw [loneW_get,h5]
   ·have hi:i<d.zs.length:=by
     have:=(Array.getElem?_eq_some_iff.1 hv).1;simpa [SlD.ints] using this
    have e1:v=.int .i64 (d.zs.getD i 0):=by
     have:d.ints[i]?=some (.int .i64 (d.zs.getD i 0)):=by simp [SlD.ints,List.getElem?_eq_getElem hi,List.getD_eq_getElem?_getD]
     exact Option.some.inj (hv.symm.trans this)
    have e2:=hcell i hi;obtain ⟨xb,xo,xs⟩:=x;simp only at hsp h7;subst hsp;have e3:(⟨xb,xo,none⟩:Addr).add i=⟨xb,xo+i,none⟩:=by unfold Addr.add;split<;>simp_all
    rw [e3,cell_of_row W xb (xo+i) cs e fr h7] at e2;exact ⟨v,by rw [Nat.add_comm,e2,e1],by rw [e1];exact .flat rfl⟩
theorem lone_val {W:World} {ds:List SlD} (hok:∀ d ∈ ds,d.ok W) {k:Nat} {d d':SlD} (h:ds[k]?=some d) (h':(lone W.heap.size 0 ds)[k]?=some d') :
  d'.len=d.len∧d'.cap=d.cap∧d'.zs=d.zs∧RelC (KA W ds) ((als ds).map Prod.fst) d'.val d.val∧∀ u:World,u.heap=(loneW W ds).heap->d'.ok u:=by
 obtain ⟨h1,h2,h3,h4⟩:=lone_at W.heap.size ds 0 k d d' h h';refine ⟨h1,h2,h3,?_,fun u hu=>?_⟩
 ·rcases h4 with ⟨e1,e2⟩|⟨x,i,e1,e2,e3,_⟩
  ·unfold SlD.val
   rw [e1,e2,h1,h2];exact .flat rfl
  ·unfold SlD.val
   rw [e1,e2,h1,h2];have hsp:x.spot=none:=by
    rcases hok d (List.mem_of_getElem? h) with ⟨h6,_⟩|⟨y,h6,hsp,_⟩
    ·rw [e1] at h6;cases h6
    ·obtain rfl:=Option.some.inj (e1.symm.trans h6)
     exact hsp
   exact .slice (s:=x.off) (.inr ⟨i,by simp [KA],e3⟩) (by simp) (by simp [hsp])
 ·rcases hok d (List.mem_of_getElem? h) with ⟨g1,g2,g3,g4⟩|⟨y,g1,_,_,g2,g3,g4,g5,g6⟩
  ·rcases h4 with ⟨e1,e2⟩|⟨x,i,e1,_⟩
   ·exact .inl ⟨e2,by rw [h1,g2],by rw [h2,g3],by rw [h3,g4]⟩
   ·rw [g1] at e1;cases e1
  ·rcases h4 with ⟨e1,e2⟩|⟨x,i,e1,e2,_,e4⟩
   ·rw [g1] at e1;cases e1
   ·have hb:u.heap[W.heap.size+(0+i)]?=some (.cells d.ints 3 (0,d.ints.size)):=by rw [hu,Nat.zero_add,loneW_get,e4]
    refine .inr ⟨_,e2,rfl,⟨_,_,_,hb⟩,by rw [h1,h2];exact g2,by rw [h2];exact g3,by rw [h2,h3];exact g4,fun j hj=>?_,by rw [h3];exact g6⟩;rw [h3] at hj ⊢;have e3:(⟨W.heap.size+(0+i),0,none⟩:Addr).add j=⟨W.heap.size+(0+i),j,none⟩:=by unfold Addr.add;split<;>simp_all
    rw [e3,cell_of_row u _ j d.ints 3 _ hb];simp [SlD.ints,List.getElem?_eq_getElem hj,List.getD_eq_getElem?_getD]
theorem relPs_nil (K:Cfg) (L:List Nat):RelPs K L #[] #[]:=⟨rfl,fun i v v' h=>by simp at h⟩
theorem relPs_push {K:Cfg} {L:List Nat} {cs cs':Array Value} (h:RelPs K L cs cs') {v v':Value} (hv:RelC K L v v'):RelPs K L (cs.push v) (cs'.push v'):=by
 refine ⟨by simp [h.1],fun i a b ha hb=>?_⟩;rw [Array.getElem?_push] at ha hb
 by_cases hi:i=cs.size
 ·rw [if_pos hi] at ha
  rw [if_pos (by rw [h.1];exact hi)] at hb;obtain rfl:=Option.some.inj ha;obtain rfl:=Option.some.inj hb;exact .cell hv
 ·rw [if_neg hi] at ha
  rw [if_neg (by rw [h.1];exact hi)] at hb;exact h.2 i a b ha hb
theorem law_runS {f:FuncId} {fn:Func} {W:World} (ds:List SlD) (hok:∀ d ∈ ds,d.ok W) (mk:List SlD->Array Value) (hi:Try.prog.inits.idxOf? f=none) (hf:Tra.prog.funcs[f]?=some fn) (hS:S1 f=true) (hT:T1 f=true) (hres:tmpRes fn=true)
  (hmk:∀ (K:Cfg) (L:List Nat) (ds':List SlD),ds'.length=ds.length->(∀ (k:Nat) (d d':SlD),ds[k]?=some d->ds'[k]?=some d'->RelC K L d'.val d.val)->RelPs K L (mk ds') (mk ds))
  (hc:∀ (u:World) (ds':List SlD),ds'.length=ds.length->(∀ (k:Nat) (d d':SlD),ds[k]?=some d->ds'[k]?=some d'->d'.len=d.len∧d'.cap=d.cap∧d'.zs=d.zs∧d'.ok u)->Calls Tra.prog f (mk ds') u fun e _=>e=.returned (.bool true)) :
  ∃ M last o w' t',runNT Try.prog (M+1) (solo (G (Frame.enter Try.prog f (mk ds) .normal) []) W) #[]=(.ended o w',t')∧runN Try.prog M (solo (G (Frame.enter Try.prog f (mk ds) .normal) []) W)=.next last∧step Try.prog last=.ended o w' ∧
   Go.Conc.Good Try.prog (fun v' w'=>v'=.bool true∧Below W.heap.size W w') last o w' t':=by
 obtain ⟨M,last,o,w',t',h1,h2,h3,v',e0,⟨L,v,u,hv,_,hk,rfl⟩,r0⟩:=hyb_run (Rd:=fun _=>False) (al:=als ds) (L0:=(als ds).map Prod.fst) (W:=W) (u0:=loneW W ds) (args:=mk (lone W.heap.size 0 ds)) (args':=mk ds) Tra.same Tra.calm1 Tra.calmT
  (special_alive Tra.duo Tra.calm1 alK Tra.als res23 Tra.stand Tra.t20 (fun b h=>h.elim)) hi hf hS hT hres
  (hmk _ _ _ (lone_len _ _ _) fun k d d' hd hd'=>(lone_val hok hd hd').2.2.2.1) (lone_rel hok) (Post:=fun v _=>v=.bool true) (fun _ _ _ h=>h)
  (fun τ=>(hc (retape (loneW W ds) τ) (lone W.heap.size 0 ds) (lone_len _ _ _) fun k d d' hd hd'=>let ⟨q1,q2,q3,_,q5⟩:=lone_val hok hd hd';⟨q1,q2,q3,q5 _ rfl⟩).mono fun e _ h=>⟨_,h,rfl⟩)
 refine ⟨M,last,o,w',t',h1,h2,h3,v',e0,⟨?_,below_of hk⟩,r0⟩;split at hv
 ·exact relP_flat hv rfl
 ·exact relV_flat hv rfl
theorem SlD.row {u:World} {d:SlD} (h:d.ok u):(d.a=none∧d.len=0∧d.cap=0∧d.zs=[])∨∃ x,d.a=some x∧d.len≤d.cap∧d.cap≤maxLen∧d.zs.length=d.cap∧(∀ i,i<d.zs.length->u.cell? (x.add i)=some (.int .i64 (d.zs.getD i 0)))∧∀ n ∈ d.zs,(Lit.int .i64 n).wf=true:=by
 rcases h with h|⟨x,h1,_,_,h2⟩
 ·exact .inl h
 ·exact .inr ⟨x,h1,h2⟩
theorem has_of {P:Program} {W:World} {base:Nat} {t e:TypeId} {x:Addr} {len cap:Nat} (hu:P.underlying t=some (.slice e)) (hv:Value.okWide P W .any base t (.slice (some x) len cap)):W.has P .any base x e cap:=by
 simp only [Value.okWide,hu,Cell.okWide,Cell.ok] at hv;exact hv.2.2
theorem sl_ok {W:World} {base:Nat} {a:Option Addr} {len cap:Nat} {zs:List Int} (hv:Value.okWide Try.prog W .any base 29 (.slice a len cap))
  (hr:(a=none∧len=0∧cap=0∧zs=[])∨∃ x,a=some x∧len≤cap∧cap≤maxLen∧zs.length=cap∧(∀ i,i<zs.length->W.cell? (x.add i)=some (.int .i64 (zs.getD i 0)))∧∀ n ∈ zs,(Lit.int .i64 n).wf=true):(⟨a,len,cap,zs⟩:SlD).ok W:=by
 rcases hr with hr|⟨x,rfl,h2⟩
 ·exact .inl hr
 ·obtain ⟨_,hsp,row,cells,hs,_⟩:=has_of Try.underlying29 hv
  refine .inr ⟨x,rfl,hsp,?_,h2⟩;unfold World.shape? at hs;cases hb:W.heap[x.block]? with
  |none=>rw [hb] at hs;simp at hs
  |some o =>
   rw [hb] at hs;cases o with
   |cells cs e fr=>exact ⟨cs,e,fr,rfl⟩
   |_=>simp at hs
end Go.Proofs.Ytdhgeondbnpeoaa.Ca
namespace Go.Proofs.Ytdhgeondbnpeoaa.P
open Go.RowKit Go.Proofs.YtdhgeondbnpeoaaW.PrintWords Go.Proofs.YtdhgeondbnpeoaaW.PrintLast Go.Proofs.YtdhgeondbnpeoaaW.PrintMore
attribute [local go_sem] y0x y0v max_two min_two y0q y0p y0w y0u
mutual
def w6_MobsRanked.j0:Nat->Int->Int->Int->Option (Bool)
 |0,_,_,_=>none
 |k+1,x1,x2,x3=>w6_MobsRanked.l0 k x2 x3 (wrap64 (Int.tmod x1 13)) 0 0
def w6_MobsRanked.l0:Nat->Int->Int->Int->Int->Int->Option (Bool)
 |0,_,_,_,_,_=>none
 |k+1,x2,x3,x13,x14,x15=>if x15≤x13 then ((mobs_Count.f k x13 x15).bind fun bt334=>(if bt334.2=0 then (if bt334.1<0 then (some false) else (w6_MobsRanked.l0 k x2 x3 x13 (wrap64 (x14+bt334.1)) (wrap64 (x15+1)))) else (some false))) else (if x14<1 then (w6_MobsRanked.j2 k x2 x3 x13 x14 true) else (w6_MobsRanked.j2 k x2 x3 x13 x14 (decide (x14 > 1073741824))))
def w6_MobsRanked.j2:Nat->Int->Int->Int->Int->Bool->Option (Bool)
 |0,_,_,_,_,_=>none
 |k+1,x2,x3,x13,x14,x80=>if x80=true then (some false) else (if x14=0 then (none) else ((mobs_At.f k x13 (Int.tmod (wrap64 (x2)) x14)).bind fun bt336=>((mobs_At.f k x13 (Int.tmod (wrap64 (x3)) x14)).bind fun bt340=>((mobs_Rank.f k bt336.1).bind fun bt344=>(if bt336.2=0 then (if bt340.2=0 then (if bt344.2=0 then (if bt344.1=(Int.tmod (wrap64 (x2)) x14) then (if (bt336.1.length:Int)=x13 then (if (bt340.1.length:Int)=x13 then ((r6_IsParting.f k bt336.1).bind fun t346=>(w6_MobsRanked.j3 k x13 (Int.tmod (wrap64 (x2)) x14) (Int.tmod (wrap64 (x3)) x14) bt336.1 bt340.1 (!t346))) else (w6_MobsRanked.j3 k x13 (Int.tmod (wrap64 (x2)) x14) (Int.tmod (wrap64 (x3)) x14) bt336.1 bt340.1 true)) else (w6_MobsRanked.j3 k x13 (Int.tmod (wrap64 (x2)) x14) (Int.tmod (wrap64 (x3)) x14) bt336.1 bt340.1 true)) else (w6_MobsRanked.j3 k x13 (Int.tmod (wrap64 (x2)) x14) (Int.tmod (wrap64 (x3)) x14) bt336.1 bt340.1 true)) else (w6_MobsRanked.j3 k x13 (Int.tmod (wrap64 (x2)) x14) (Int.tmod (wrap64 (x3)) x14) bt336.1 bt340.1 true)) else (w6_MobsRanked.j3 k x13 (Int.tmod (wrap64 (x2)) x14) (Int.tmod (wrap64 (x3)) x14) bt336.1 bt340.1 true)) else (w6_MobsRanked.j3 k x13 (Int.tmod (wrap64 (x2)) x14) (Int.tmod (wrap64 (x3)) x14) bt336.1 bt340.1 true))))))
def w6_MobsRanked.j3:Nat->Int->Int->Int->List Int->List Int->Bool->Option (Bool)
 |0,_,_,_,_,_,_=>none
 |k+1,x13,x18,x19,x20,x21,x137=>if x137=true then (some false) else (w6_MobsRanked.l1 k x13 x18 x19 x20 x21 0)
def w6_MobsRanked.l1:Nat->Int->Int->Int->List Int->List Int->Int->Option (Bool)
 |0,_,_,_,_,_,_=>none
 |k+1,x13,x18,x19,x20,x21,x25=>if x25<x13 then (if 0≤x25 then (if x25<(x20.length:Int) then (if x25<(x21.length:Int) then (if (rd x20 x25)=(rd x21 x25) then (w6_MobsRanked.l1 k x13 x18 x19 x20 x21 (wrap64 (x25+1))) else (if ((decide ((rd x20 x25)<(rd x21 x25))) == (decide (x18<x19)))=true then ((w6_alive.f).bind fun t351=>(some t351)) else (some false))) else (none)) else (none)) else (none)) else (if x18=x19 then ((w6_alive.f).bind fun t352=>(some t352)) else (some false))
end
def w6_MobsRanked.f (k:Nat) (l0:List Int) (a1:Int) (a2:Int) (a3:Int):Option (Bool):=(w6_few.f l0 ([]:List Int)).bind fun t325=>(if t325=true then ((mobs_Rank.f k l0).bind fun bt327=>(if bt327.2=0 then ((mobs_At.f k (l0.length:Int) bt327.1).bind fun bt329=>(if bt329.2=0 then ((w6_same.f k bt329.1 l0).bind fun t333=>(if t333=true then (w6_MobsRanked.j0 k a1 a2 a3) else (some false))) else (some false))) else (w6_MobsRanked.j0 k a1 a2 a3))) else ((w6_alive.f).bind fun t326=>(some t326)))
def w6_MobsRanked.T19:Bool × List (List Nat × List Nat):=(true,[([],[]),([0],[0]),([],[]),([1,2],[1,2]),([],[]),([4],[4]),([],[]),([5,6],[5,6]),([3,0,1,2,3],[3]),([7,8,0,1,2,3,4,5,6,7,8],[7])])
def w6_MobsRanked.B19:List Nat:=[0,1,0,7,0,16,0,112,15,511]
theorem w6_MobsRanked.tab19:rtab .any (opsOf Tra.f14 19)=w6_MobsRanked.T19:=by kernel_rfl
theorem w6_MobsRanked.bits19:waitsOk w6_MobsRanked.T19.2 w6_MobsRanked.B19=true:=by kernel_rfl
def w6_MobsRanked.T28:Bool × List (List Nat × List Nat):=(true,[([],[]),([],[]),([0,1],[0,1]),([2],[2]),([],[]),([],[]),([4,5],[4,5]),([6],[6]),([3,7],[3,7])])
def w6_MobsRanked.B28:List Nat:=[0,0,3,7,0,0,48,112,255]
theorem w6_MobsRanked.tab28:rtab .any (opsOf Tra.f14 28)=w6_MobsRanked.T28:=by kernel_rfl
theorem w6_MobsRanked.bits28:waitsOk w6_MobsRanked.T28.2 w6_MobsRanked.B28=true:=by kernel_rfl
def w6_MobsRanked.T29:Bool × List (List Nat × List Nat):=(true,[([],[]),([],[]),([0,1],[0,1]),([2],[2]),([],[]),([],[]),([4,5],[4,5]),([6],[6]),([3,7],[3,7]),([],[]),([],[]),([9,10],[9,10]),([8,11],[8,11]),([12],[12]),([13,13],[13]),([13,14],[13,14]),([15,14,0,1,2,3,4,5,6,7,8,9,10,11,12,13,14,15],[15])])
def w6_MobsRanked.B29:List Nat:=[0,0,3,7,0,0,48,112,255,0,0,1536,4095,8191,16383,32767,65535]
theorem w6_MobsRanked.tab29:rtab .any (opsOf Tra.f14 29)=w6_MobsRanked.T29:=by kernel_rfl
theorem w6_MobsRanked.bits29:waitsOk w6_MobsRanked.T29.2 w6_MobsRanked.B29=true:=by kernel_rfl
set_option maxHeartbeats 8000000 in
set_option maxRecDepth 100000 in
theorem w6_MobsRanked.calls (k:Nat) (A0:Option Addr) (c0:Nat) (l0:List Int) (a1:Int) (a2:Int) (a3:Int) (r:Bool) (w:World) (hr0:Kd.C (Kd.int .i64) w A0 l0.length l0) (hc0:l0.length≤c0) (h:w6_MobsRanked.f k l0 a1 a2 a3=some r) :
  Calls Tra.prog 14 #[.slice A0 l0.length c0,.int .u8 a1,.int .u32 a2,.int .u32 a3] w fun e w'=>e=.returned (.bool r)∧Below w.heap.size w w':=by
 have HR0:=As0.mk hr0;have HC0:=As0.mk hc0;clear hr0 hc0;have HB:=As0.mk (Below.refl w.heap.size w);have H:((w6_few.f l0 ([]:List Int)).bind fun t325=>(if t325=true then ((mobs_Rank.f k l0).bind fun bt327=>(if bt327.2=0 then ((mobs_At.f k (l0.length:Int) bt327.1).bind fun bt329=>(if bt329.2=0 then ((w6_same.f k bt329.1 l0).bind fun t333=>(if t333=true then (w6_MobsRanked.j0 k a1 a2 a3) else (some false))) else (some false))) else (w6_MobsRanked.j0 k a1 a2 a3))) else ((w6_alive.f).bind fun t326=>(some t326))))=some r:=h;clear h;replace H:=Option.bind_eq_some_iff.mp H;obtain ⟨t325,A50,H⟩:=H;replace H:(if t325=true then ((mobs_Rank.f k l0).bind fun bt327=>(if bt327.2=0 then ((mobs_At.f k (l0.length:Int) bt327.1).bind fun bt329=>(if bt329.2=0 then ((w6_same.f k bt329.1 l0).bind fun t333=>(if t333=true then (w6_MobsRanked.j0 k a1 a2 a3) else (some false))) else (some false))) else (w6_MobsRanked.j0 k a1 a2 a3))) else ((w6_alive.f).bind fun t326=>(some t326)))=some r:=H;have A5:=As0.mk A50;clear A50
 by_cases c6:t325=true
 ·subst c6
  have H1:((mobs_Rank.f k l0).bind fun bt327=>(if bt327.2=0 then ((mobs_At.f k (l0.length:Int) bt327.1).bind fun bt329=>(if bt329.2=0 then ((w6_same.f k bt329.1 l0).bind fun t333=>(if t333=true then (w6_MobsRanked.j0 k a1 a2 a3) else (some false))) else (some false))) else (w6_MobsRanked.j0 k a1 a2 a3)))=some r:=by rw [if_pos rfl] at H;exact H
  clear H;have H:=H1;clear H1;replace H:=Option.bind_eq_some_iff.mp H;obtain ⟨⟨t327,t328⟩,A70,H⟩:=H;replace H:(if t328=0 then ((mobs_At.f k (l0.length:Int) t327).bind fun bt329=>(if bt329.2=0 then ((w6_same.f k bt329.1 l0).bind fun t333=>(if t333=true then (w6_MobsRanked.j0 k a1 a2 a3) else (some false))) else (some false))) else (w6_MobsRanked.j0 k a1 a2 a3))=some r:=H;have A7:=As0.mk A70;clear A70;have HC8:=As0.mk H;clear H;go_enter Tra.func14,Tra.ntmps14
  go_upto_if 36 with (first|((with_reducible refine y0c (f:=22) rfl ?_);refine y0s (some 27) rfl rfl Tra.func22 (by kernel_rfl) rfl #[.slice A0 l0.length c0,.slice none 0 0] rfl (by (try simp only [List.map_toArray,List.map_cons,List.map_nil]);first|done|rfl|(simp only [List.length_drop,List.length_take];rfl)) ?_;(refine (w6_few.calls _ _ l0 _ _ ([]:List Int) true _ ?side1 ?side2 ?side3 ?side4 A5.out).mono ?_);(case side1=>repeat (first|exact HR0.out|(with_reducible refine Kd.C_alloc ?_ _)|(with_reducible refine Kd.C_drewN ?_ _)|(with_reducible refine Kd.C_drew ?_)));(case side2=>exact HC0.out);(case side3=>exact Kd.C_nil _ _);(case side4=>exact Nat.le_refl _);rintro e w' ⟨rfl,⟨nd,rfl⟩⟩;refine ⟨_,rfl,?_⟩)|((with_reducible refine y0c (f:=36) rfl ?_);refine y0s (some 32) rfl rfl Tra.func36 (by kernel_rfl) rfl #[.slice A0 l0.length c0] rfl (by (try simp only [List.map_toArray,List.map_cons,List.map_nil]);first|done|rfl|(simp only [List.length_drop,List.length_take];rfl)) ?_;(with_reducible refine (mobs_Rank.calls k (fun k_=>k_<w.heap.size) _ _ l0 t327 t328 _ ?side1 A7.out).mono ?_);(case side1=>exact Kd.V_mk HC0.out (Kd.F_below (Kd.C_F (Kd.heap_int .i64) HR0.out) (by repeat (first|(with_reducible first|exact HB.out|apply y02|apply y00|apply y01)|exact HB.out))));rintro e w9 ⟨rfl,hb⟩;refine ⟨_,rfl,?_⟩;have n0_:=As0.mk (y08 (by repeat (first|(with_reducible first|exact HB.out|apply y02|apply y00|apply y01)|exact HB.out)) hb);clear HB;have HB:=n0_;clear n0_;(try clear hb);(try clear hb2);(try clear hk);(try clear hi)))
  (try simp only [Act.put,List.setIfInBounds_toArray,List.set_cons_zero,List.set_cons_succ])
  go_cut [] (fun wc=>∃ (kq:Nat),As0 (w6_MobsRanked.j0 kq a1 a2 a3=some r)∧As0 (kq≤k)∧As0 (Below w.heap.size w wc))
  case first =>
   have H:=HC8.out;clear HC8
   by_cases c10:t328=0
   ·rw [if_pos c10] at H
    have c10b0:(t328 == 0)=true:=beq_iff_eq.mpr c10;have c10b1:(t328 != 0)=false:=bne_eq_false_iff_eq.mpr c10;clear c10
    (first|rw [c10b0]|(simp only [i64_w,i32_w];rw [c10b0])|skip)
    replace H:=Option.bind_eq_some_iff.mp H;obtain ⟨⟨t329,t330⟩,A110,H⟩:=H;replace H:(if t330=0 then ((w6_same.f k t329 l0).bind fun t333=>(if t333=true then (w6_MobsRanked.j0 k a1 a2 a3) else (some false))) else (some false))=some r:=H;have A11:=As0.mk A110;clear A110
    by_cases c12:t330=0
    ·rw [if_pos c12] at H
     have c12b0:(t330 == 0)=true:=beq_iff_eq.mpr c12;have c12b1:(t330 != 0)=false:=bne_eq_false_iff_eq.mpr c12;clear c12;replace H:=Option.bind_eq_some_iff.mp H;obtain ⟨t333,A130,H⟩:=H;replace H:(if t333=true then (w6_MobsRanked.j0 k a1 a2 a3) else (some false))=some r:=H;have A13:=As0.mk A130;clear A130
     by_cases c14:t333=true
     ·subst c14
      have H1:(w6_MobsRanked.j0 k a1 a2 a3)=some r:=by rw [if_pos rfl] at H;exact H
      clear H;have H:=H1;clear H1;have H':=As0.mk H;clear H;go_wp2_with (first|((with_reducible refine y0c (f:=38) rfl ?_);refine y0s (some 41) rfl rfl Tra.func38 (by kernel_rfl) rfl #[.int .i64 (l0.length:Int),.int .i64 t327] rfl (by (try simp only [List.map_toArray,List.map_cons,List.map_nil]);first|done|rfl|(simp only [List.length_drop,List.length_take];rfl)) ?_;(with_reducible refine (mobs_At.calls k (l0.length:Int) t327 t329 t330 _ A11.out).mono ?_);rintro e w15 ⟨v331,rfl,ho0,hb⟩;refine ⟨_,rfl,?_⟩;have n0_:=As0.mk (Kd.R_lower ho0 (y09 (by repeat (first|(with_reducible first|exact HB.out|apply y02|apply y00|apply y01)|exact HB.out))));have n1_:=As0.mk (y08 (by repeat (first|(with_reducible first|exact HB.out|apply y02|apply y00|apply y01)|exact HB.out)) hb);clear HB;have HO332:=n0_;have HB:=n1_;clear n0_ n1_;(try clear hb);(try clear hb2);(try clear hk);(try clear hi);(try clear ho0);obtain ⟨Ao16,co16,eo16⟩:=Kd.R_slice HO332.out;subst eo16)|(go_at_call 27;(with_reducible refine (w6_same.calls k _ _ t329 _ _ l0 true _ ?side1 ?side2 ?side3 ?side4 A13.out).mono ?_);(case side1=>repeat (first|exact (Kd.R_reads' HO332.out).2.2|(with_reducible refine Kd.C_alloc ?_ _)|(with_reducible refine Kd.C_drewN ?_ _)|(with_reducible refine Kd.C_drew ?_)));(case side2=>exact (Kd.R_reads' HO332.out).2.1);(case side3=>repeat (first|exact (Kd.C_below HR0.out HB.out)|(with_reducible refine Kd.C_alloc ?_ _)|(with_reducible refine Kd.C_drewN ?_ _)|(with_reducible refine Kd.C_drew ?_)));(case side4=>exact HC0.out);rintro e w' ⟨rfl,⟨nd,rfl⟩⟩))
      go_meet
      case rel=>exact ⟨_,H',⟨by first|omega|exact Nat.le_refl _⟩,⟨by repeat (first|(with_reducible first|exact HB.out|apply y02|apply y00|apply y01)|exact HB.out)⟩⟩
     ·replace c14:=Bool.eq_false_iff.mpr c14
      subst c14;have H1:(some false)=some r:=by rw [if_neg (show ¬ (false=true) by decide)] at H;exact H
      clear H;have H:=H1;clear H1;obtain rfl:=Option.some.inj H;go_wp2_with (first|((with_reducible refine y0c (f:=38) rfl ?_);refine y0s (some 41) rfl rfl Tra.func38 (by kernel_rfl) rfl #[.int .i64 (l0.length:Int),.int .i64 t327] rfl (by (try simp only [List.map_toArray,List.map_cons,List.map_nil]);first|done|rfl|(simp only [List.length_drop,List.length_take];rfl)) ?_;(with_reducible refine (mobs_At.calls k (l0.length:Int) t327 t329 t330 _ A11.out).mono ?_);rintro e w17 ⟨v331,rfl,ho0,hb⟩;refine ⟨_,rfl,?_⟩;have n0_:=As0.mk (Kd.R_lower ho0 (y09 (by repeat (first|(with_reducible first|exact HB.out|apply y02|apply y00|apply y01)|exact HB.out))));have n1_:=As0.mk (y08 (by repeat (first|(with_reducible first|exact HB.out|apply y02|apply y00|apply y01)|exact HB.out)) hb);clear HB;have HO332:=n0_;have HB:=n1_;clear n0_ n1_;(try clear hb);(try clear hb2);(try clear hk);(try clear hi);(try clear ho0);obtain ⟨Ao18,co18,eo18⟩:=Kd.R_slice HO332.out;subst eo18)|(go_at_call 27;(with_reducible refine (w6_same.calls k _ _ t329 _ _ l0 false _ ?side1 ?side2 ?side3 ?side4 A13.out).mono ?_);(case side1=>repeat (first|exact (Kd.R_reads' HO332.out).2.2|(with_reducible refine Kd.C_alloc ?_ _)|(with_reducible refine Kd.C_drewN ?_ _)|(with_reducible refine Kd.C_drew ?_)));(case side2=>exact (Kd.R_reads' HO332.out).2.1);(case side3=>repeat (first|exact (Kd.C_below HR0.out HB.out)|(with_reducible refine Kd.C_alloc ?_ _)|(with_reducible refine Kd.C_drewN ?_ _)|(with_reducible refine Kd.C_drew ?_)));(case side4=>exact HC0.out);rintro e w' ⟨rfl,⟨nd,rfl⟩⟩))
      go_ret
      exact ⟨by first|rfl|(simp [y07,y06]<;>rfl)|(simp [*,y07,y06]<;>rfl),by repeat (first|(with_reducible first|exact HB.out|apply y02|apply y00|apply y01)|exact HB.out)⟩
    ·rw [if_neg c12] at H
     have c12b0:(t330 == 0)=false:=beq_eq_false_iff_ne.mpr c12;have c12b1:(t330 != 0)=true:=bne_iff_ne.mpr c12;obtain rfl:=Option.some.inj H;go_wp2_with (first|((with_reducible refine y0c (f:=38) rfl ?_);refine y0s (some 41) rfl rfl Tra.func38 (by kernel_rfl) rfl #[.int .i64 (l0.length:Int),.int .i64 t327] rfl (by (try simp only [List.map_toArray,List.map_cons,List.map_nil]);first|done|rfl|(simp only [List.length_drop,List.length_take];rfl)) ?_;(with_reducible refine (mobs_At.calls k (l0.length:Int) t327 t329 t330 _ A11.out).mono ?_);rintro e w19 ⟨v331,rfl,ho0,hb⟩;refine ⟨_,rfl,?_⟩;have n0_:=As0.mk (Kd.R_lower ho0 (y09 (by repeat (first|(with_reducible first|exact HB.out|apply y02|apply y00|apply y01)|exact HB.out))));have n1_:=As0.mk (y08 (by repeat (first|(with_reducible first|exact HB.out|apply y02|apply y00|apply y01)|exact HB.out)) hb);clear HB;have HO332:=n0_;have HB:=n1_;clear n0_ n1_;(try clear hb);(try clear hb2);(try clear hk);(try clear hi);(try clear ho0)))
     go_ret
     exact ⟨by first|rfl|(simp [y07,y06]<;>rfl)|(simp [*,y07,y06]<;>rfl),by repeat (first|(with_reducible first|exact HB.out|apply y02|apply y00|apply y01)|exact HB.out)⟩
   ·rw [if_neg c10] at H
    have c10b0:(t328 == 0)=false:=beq_eq_false_iff_ne.mpr c10;have c10b1:(t328 != 0)=true:=bne_iff_ne.mpr c10
    (first|rw [c10b0]|(simp only [i64_w,i32_w];rw [c10b0])|skip)
    have H':=As0.mk H;clear H;go_wp2
    go_meet
    case rel=>exact ⟨_,H',⟨by first|omega|exact Nat.le_refl _⟩,⟨by repeat (first|(with_reducible first|exact HB.out|apply y02|apply y00|apply y01)|exact HB.out)⟩⟩
  case rest =>
   clear HC8
   try clear c1
   try clear c2
   try clear p2
   try clear c3
   try clear c6
   try clear c10
   try clear c10b0
   try clear c10b1
   try clear c12
   try clear c12b0
   try clear c12b1
   try clear c14
   obtain ⟨kq,HA,HJ7,HB⟩:=hcut;cases kq with
   |zero=>exact absurd HA.out (by simp [w6_MobsRanked.j0])
   |succ kj7 =>
    have H:=HA.out;clear HA;simp only [w6_MobsRanked.j0] at H;have H':=As0.mk H;clear H;go_wp2
    go_loopg [14,15] kj7 (fun kq v14 v15 w'=>∃ (x14_2:Int) (x15_2:Int),v14=.int .i64 x14_2∧v15=.int .i64 x15_2∧As0 (w6_MobsRanked.l0 kq a2 a3 (wrap64 (Int.tmod a1 13)) x14_2 x15_2=some r)∧As0 (kq≤kj7)∧As0 (Below w.heap.size w w'))
    case atStart=>exact ⟨(0),(0),(by first|rfl|(simp;done)|(simp [*];done)),(by first|rfl|(simp;done)|(simp [*];done)),H',⟨Nat.le_refl _⟩,⟨by repeat (first|(with_reducible first|exact HB.out|apply y02|apply y00|apply y01)|exact HB.out)⟩⟩
    case round =>
     clear H'
     try clear c1
     try clear c2
     try clear p2
     try clear c3
     try clear c6
     try clear p6
     try clear c10
     try clear c10b0
     try clear c10b1
     try clear c12
     try clear c12b0
     try clear c12b1
     try clear c14
     try clear p2
     obtain ⟨x14_2,x15_2,rfl,rfl,HA,HK2,HB⟩:=hrel;cases gk with
     |zero=>exact absurd HA.out (by simp [w6_MobsRanked.l0])
     |succ k2 =>
      have H:=HA.out;clear HA;simp only [w6_MobsRanked.l0] at H
      by_cases c20:x15_2≤(wrap64 (Int.tmod a1 13))
      ·rw [if_pos c20] at H
       have c20b0:decide (x15_2≤(wrap64 (Int.tmod a1 13)))=true:=decide_eq_true c20;clear c20;replace H:=Option.bind_eq_some_iff.mp H;obtain ⟨⟨t334,t335⟩,A210,H⟩:=H;replace H:(if t335=0 then (if t334<0 then (some false) else (w6_MobsRanked.l0 k2 a2 a3 (wrap64 (Int.tmod a1 13)) (wrap64 (x14_2+t334)) (wrap64 (x15_2+1)))) else (some false))=some r:=H;have A21:=As0.mk A210;clear A210
       by_cases c22:t335=0
       ·rw [if_pos c22] at H
        have c22b0:(t335 == 0)=true:=beq_iff_eq.mpr c22;have c22b1:(t335 != 0)=false:=bne_eq_false_iff_eq.mpr c22;clear c22
        by_cases c23:t334<0
        ·rw [if_pos c23] at H
         have c23b0:decide (t334<0)=true:=decide_eq_true c23;clear c23;obtain rfl:=Option.some.inj H;go_wp2_with (first|((with_reducible refine y0c (f:=16) rfl ?_);refine y0s (some 63) rfl rfl Tra.func16 (by kernel_rfl) rfl #[.int .i64 (wrap64 (Int.tmod a1 13)),.int .i64 x15_2] rfl (by (try simp only [List.map_toArray,List.map_cons,List.map_nil]);first|done|rfl|(simp only [List.length_drop,List.length_take];rfl)) ?_;(with_reducible refine (mobs_Count.calls k2 (wrap64 (Int.tmod a1 13)) x15_2 t334 t335 _ A21.out).mono ?_);rintro e w24 ⟨rfl,hb⟩;refine ⟨_,rfl,?_⟩;have n0_:=As0.mk (y08 (by repeat (first|(with_reducible first|exact HB.out|apply y02|apply y00|apply y01)|exact HB.out)) hb);clear HB;have HB:=n0_;clear n0_;(try clear hb);(try clear hb2);(try clear hk);(try clear hi)))
         go_ret
         exact ⟨by first|rfl|(simp [y07,y06]<;>rfl)|(simp [*,y07,y06]<;>rfl),by repeat (first|(with_reducible first|exact HB.out|apply y02|apply y00|apply y01)|exact HB.out)⟩
        ·rw [if_neg c23] at H
         have c23b0:decide (t334<0)=false:=decide_eq_false c23;clear c23;have H':=As0.mk H;clear H;go_wp2_with (first|((with_reducible refine y0c (f:=16) rfl ?_);refine y0s (some 63) rfl rfl Tra.func16 (by kernel_rfl) rfl #[.int .i64 (wrap64 (Int.tmod a1 13)),.int .i64 x15_2] rfl (by (try simp only [List.map_toArray,List.map_cons,List.map_nil]);first|done|rfl|(simp only [List.length_drop,List.length_take];rfl)) ?_;(with_reducible refine (mobs_Count.calls k2 (wrap64 (Int.tmod a1 13)) x15_2 t334 t335 _ A21.out).mono ?_);rintro e w25 ⟨rfl,hb⟩;refine ⟨_,rfl,?_⟩;have n0_:=As0.mk (y08 (by repeat (first|(with_reducible first|exact HB.out|apply y02|apply y00|apply y01)|exact HB.out)) hb);clear HB;have HB:=n0_;clear n0_;(try clear hb);(try clear hb2);(try clear hk);(try clear hi)))
         go_roundg k2
         case measure=>have:=HJ7.out;have:=HK2.out;omega
         case rel=>exact ⟨(wrap64 (x14_2+t334)),(wrap64 (x15_2+1)),(by first|rfl|(simp;done)|(simp [*];done)),(by first|rfl|(simp;done)|(simp [*];done)),H',⟨by have:=HJ7.out;have:=HK2.out;omega⟩,⟨by repeat (first|(with_reducible first|exact HB.out|apply y02|apply y00|apply y01)|exact HB.out)⟩⟩
       ·rw [if_neg c22] at H
        have c22b0:(t335 == 0)=false:=beq_eq_false_iff_ne.mpr c22;have c22b1:(t335 != 0)=true:=bne_iff_ne.mpr c22;obtain rfl:=Option.some.inj H;go_wp2_with (first|((with_reducible refine y0c (f:=16) rfl ?_);refine y0s (some 63) rfl rfl Tra.func16 (by kernel_rfl) rfl #[.int .i64 (wrap64 (Int.tmod a1 13)),.int .i64 x15_2] rfl (by (try simp only [List.map_toArray,List.map_cons,List.map_nil]);first|done|rfl|(simp only [List.length_drop,List.length_take];rfl)) ?_;(with_reducible refine (mobs_Count.calls k2 (wrap64 (Int.tmod a1 13)) x15_2 t334 t335 _ A21.out).mono ?_);rintro e w26 ⟨rfl,hb⟩;refine ⟨_,rfl,?_⟩;have n0_:=As0.mk (y08 (by repeat (first|(with_reducible first|exact HB.out|apply y02|apply y00|apply y01)|exact HB.out)) hb);clear HB;have HB:=n0_;clear n0_;(try clear hb);(try clear hb2);(try clear hk);(try clear hi)))
        go_ret
        exact ⟨by first|rfl|(simp [y07,y06]<;>rfl)|(simp [*,y07,y06]<;>rfl),by repeat (first|(with_reducible first|exact HB.out|apply y02|apply y00|apply y01)|exact HB.out)⟩
      ·rw [if_neg c20] at H
       have c20b0:decide (x15_2≤(wrap64 (Int.tmod a1 13)))=false:=decide_eq_false c20;clear c20;have HC27:=As0.mk H;clear H;go_upto_region 17 with (fail)
       go_cut [80] (fun v80 wc=>∃ (kq:Nat) (x80_26:Bool),v80=.bool x80_26∧As0 (w6_MobsRanked.j2 kq a2 a3 (wrap64 (Int.tmod a1 13)) x14_2 x80_26=some r)∧As0 (kq≤k2)∧As0 (Below w.heap.size w wc))
       case first =>
        have H:=HC27.out;clear HC27
        by_cases c28:x14_2<1
        ·rw [if_pos c28] at H
         have c28b0:decide (x14_2<1)=true:=decide_eq_true c28;clear c28
         (first|rw [c28b0]|(simp only [i64_w,i32_w];rw [c28b0])|skip)
         have H':=As0.mk H;clear H;go_wp2
         go_meet
         case rel=>exact ⟨_,(true),(by first|rfl|(simp;done)|(simp [*];done)),H',⟨by have:=HJ7.out;have:=HK2.out;first|omega|exact Nat.le_refl _⟩,⟨by repeat (first|(with_reducible first|exact HB.out|apply y02|apply y00|apply y01)|exact HB.out)⟩⟩
        ·rw [if_neg c28] at H
         have c28b0:decide (x14_2<1)=false:=decide_eq_false c28;clear c28
         (first|rw [c28b0]|(simp only [i64_w,i32_w];rw [c28b0])|skip)
         have H':=As0.mk H;clear H;go_wp2
         go_meet
         case rel=>exact ⟨_,(decide (x14_2 > 1073741824)),(by first|rfl|(simp;done)|(simp [*];done)),H',⟨by have:=HJ7.out;have:=HK2.out;first|omega|exact Nat.le_refl _⟩,⟨by repeat (first|(with_reducible first|exact HB.out|apply y02|apply y00|apply y01)|exact HB.out)⟩⟩
       case rest =>
        clear HC27
        try clear c1
        try clear c2
        try clear p2
        try clear c3
        try clear c6
        try clear p6
        try clear c10
        try clear c10b0
        try clear c10b1
        try clear c12
        try clear c12b0
        try clear c12b1
        try clear c14
        try clear c16
        try clear c20
        try clear c20b0
        try clear c22
        try clear c22b0
        try clear c22b1
        try clear c23
        try clear c23b0
        try clear c28
        try clear c28b0
        try clear p2
        try clear p6
        obtain ⟨kq,x80_26,rfl,HA,HJ26,HB⟩:=hcut;cases kq with
        |zero=>exact absurd HA.out (by simp [w6_MobsRanked.j2])
        |succ kj26 =>
         have H:=HA.out;clear HA;simp only [w6_MobsRanked.j2] at H
         by_cases c29:x80_26=true
         ·subst c29
          have H1:(some false)=some r:=by rw [if_pos rfl] at H;exact H
          clear H;have H:=H1;clear H1;obtain rfl:=Option.some.inj H;go_wp2
          go_ret
          exact ⟨by first|rfl|(simp [y07,y06]<;>rfl)|(simp [*,y07,y06]<;>rfl),by repeat (first|(with_reducible first|exact HB.out|apply y02|apply y00|apply y01)|exact HB.out)⟩
         ·replace c29:=Bool.eq_false_iff.mpr c29
          subst c29;have H1:(if x14_2=0 then (none) else ((mobs_At.f kj26 (wrap64 (Int.tmod a1 13)) (Int.tmod (wrap64 (a2)) x14_2)).bind fun bt336=>((mobs_At.f kj26 (wrap64 (Int.tmod a1 13)) (Int.tmod (wrap64 (a3)) x14_2)).bind fun bt340=>((mobs_Rank.f kj26 bt336.1).bind fun bt344=>(if bt336.2=0 then (if bt340.2=0 then (if bt344.2=0 then (if bt344.1=(Int.tmod (wrap64 (a2)) x14_2) then (if (bt336.1.length:Int)=(wrap64 (Int.tmod a1 13)) then (if (bt340.1.length:Int)=(wrap64 (Int.tmod a1 13)) then ((r6_IsParting.f kj26 bt336.1).bind fun t346=>(w6_MobsRanked.j3 kj26 (wrap64 (Int.tmod a1 13)) (Int.tmod (wrap64 (a2)) x14_2) (Int.tmod (wrap64 (a3)) x14_2) bt336.1 bt340.1 (!t346))) else (w6_MobsRanked.j3 kj26 (wrap64 (Int.tmod a1 13)) (Int.tmod (wrap64 (a2)) x14_2) (Int.tmod (wrap64 (a3)) x14_2) bt336.1 bt340.1 true)) else (w6_MobsRanked.j3 kj26 (wrap64 (Int.tmod a1 13)) (Int.tmod (wrap64 (a2)) x14_2) (Int.tmod (wrap64 (a3)) x14_2) bt336.1 bt340.1 true)) else (w6_MobsRanked.j3 kj26 (wrap64 (Int.tmod a1 13)) (Int.tmod (wrap64 (a2)) x14_2) (Int.tmod (wrap64 (a3)) x14_2) bt336.1 bt340.1 true)) else (w6_MobsRanked.j3 kj26 (wrap64 (Int.tmod a1 13)) (Int.tmod (wrap64 (a2)) x14_2) (Int.tmod (wrap64 (a3)) x14_2) bt336.1 bt340.1 true)) else (w6_MobsRanked.j3 kj26 (wrap64 (Int.tmod a1 13)) (Int.tmod (wrap64 (a2)) x14_2) (Int.tmod (wrap64 (a3)) x14_2) bt336.1 bt340.1 true)) else (w6_MobsRanked.j3 kj26 (wrap64 (Int.tmod a1 13)) (Int.tmod (wrap64 (a2)) x14_2) (Int.tmod (wrap64 (a3)) x14_2) bt336.1 bt340.1 true))))))=some r:=by rw [if_neg (show ¬ (false=true) by decide)] at H;exact H
          clear H;have H:=H1;clear H1
          by_cases c30:x14_2=0
          ·rw [if_pos c30] at H
           exact absurd H (by simp)
          ·rw [if_neg c30] at H
           have c30b0:(x14_2 == 0)=false:=beq_eq_false_iff_ne.mpr c30;have c30b1:(x14_2 != 0)=true:=bne_iff_ne.mpr c30;replace H:=Option.bind_eq_some_iff.mp H;obtain ⟨⟨t336,t337⟩,A310,H⟩:=H;replace H:((mobs_At.f kj26 (wrap64 (Int.tmod a1 13)) (Int.tmod (wrap64 (a3)) x14_2)).bind fun bt340=>((mobs_Rank.f kj26 t336).bind fun bt344=>(if t337=0 then (if bt340.2=0 then (if bt344.2=0 then (if bt344.1=(Int.tmod (wrap64 (a2)) x14_2) then (if (t336.length:Int)=(wrap64 (Int.tmod a1 13)) then (if (bt340.1.length:Int)=(wrap64 (Int.tmod a1 13)) then ((r6_IsParting.f kj26 t336).bind fun t346=>(w6_MobsRanked.j3 kj26 (wrap64 (Int.tmod a1 13)) (Int.tmod (wrap64 (a2)) x14_2) (Int.tmod (wrap64 (a3)) x14_2) t336 bt340.1 (!t346))) else (w6_MobsRanked.j3 kj26 (wrap64 (Int.tmod a1 13)) (Int.tmod (wrap64 (a2)) x14_2) (Int.tmod (wrap64 (a3)) x14_2) t336 bt340.1 true)) else (w6_MobsRanked.j3 kj26 (wrap64 (Int.tmod a1 13)) (Int.tmod (wrap64 (a2)) x14_2) (Int.tmod (wrap64 (a3)) x14_2) t336 bt340.1 true)) else (w6_MobsRanked.j3 kj26 (wrap64 (Int.tmod a1 13)) (Int.tmod (wrap64 (a2)) x14_2) (Int.tmod (wrap64 (a3)) x14_2) t336 bt340.1 true)) else (w6_MobsRanked.j3 kj26 (wrap64 (Int.tmod a1 13)) (Int.tmod (wrap64 (a2)) x14_2) (Int.tmod (wrap64 (a3)) x14_2) t336 bt340.1 true)) else (w6_MobsRanked.j3 kj26 (wrap64 (Int.tmod a1 13)) (Int.tmod (wrap64 (a2)) x14_2) (Int.tmod (wrap64 (a3)) x14_2) t336 bt340.1 true)) else (w6_MobsRanked.j3 kj26 (wrap64 (Int.tmod a1 13)) (Int.tmod (wrap64 (a2)) x14_2) (Int.tmod (wrap64 (a3)) x14_2) t336 bt340.1 true))))=some r:=H;have A31:=As0.mk A310;clear A310;replace H:=Option.bind_eq_some_iff.mp H;obtain ⟨⟨t340,t341⟩,A320,H⟩:=H;replace H:((mobs_Rank.f kj26 t336).bind fun bt344=>(if t337=0 then (if t341=0 then (if bt344.2=0 then (if bt344.1=(Int.tmod (wrap64 (a2)) x14_2) then (if (t336.length:Int)=(wrap64 (Int.tmod a1 13)) then (if (t340.length:Int)=(wrap64 (Int.tmod a1 13)) then ((r6_IsParting.f kj26 t336).bind fun t346=>(w6_MobsRanked.j3 kj26 (wrap64 (Int.tmod a1 13)) (Int.tmod (wrap64 (a2)) x14_2) (Int.tmod (wrap64 (a3)) x14_2) t336 t340 (!t346))) else (w6_MobsRanked.j3 kj26 (wrap64 (Int.tmod a1 13)) (Int.tmod (wrap64 (a2)) x14_2) (Int.tmod (wrap64 (a3)) x14_2) t336 t340 true)) else (w6_MobsRanked.j3 kj26 (wrap64 (Int.tmod a1 13)) (Int.tmod (wrap64 (a2)) x14_2) (Int.tmod (wrap64 (a3)) x14_2) t336 t340 true)) else (w6_MobsRanked.j3 kj26 (wrap64 (Int.tmod a1 13)) (Int.tmod (wrap64 (a2)) x14_2) (Int.tmod (wrap64 (a3)) x14_2) t336 t340 true)) else (w6_MobsRanked.j3 kj26 (wrap64 (Int.tmod a1 13)) (Int.tmod (wrap64 (a2)) x14_2) (Int.tmod (wrap64 (a3)) x14_2) t336 t340 true)) else (w6_MobsRanked.j3 kj26 (wrap64 (Int.tmod a1 13)) (Int.tmod (wrap64 (a2)) x14_2) (Int.tmod (wrap64 (a3)) x14_2) t336 t340 true)) else (w6_MobsRanked.j3 kj26 (wrap64 (Int.tmod a1 13)) (Int.tmod (wrap64 (a2)) x14_2) (Int.tmod (wrap64 (a3)) x14_2) t336 t340 true)))=some r:=H;have A32:=As0.mk A320;clear A320;replace H:=Option.bind_eq_some_iff.mp H;obtain ⟨⟨t344,t345⟩,A330,H⟩:=H;replace H:(if t337=0 then (if t341=0 then (if t345=0 then (if t344=(Int.tmod (wrap64 (a2)) x14_2) then (if (t336.length:Int)=(wrap64 (Int.tmod a1 13)) then (if (t340.length:Int)=(wrap64 (Int.tmod a1 13)) then ((r6_IsParting.f kj26 t336).bind fun t346=>(w6_MobsRanked.j3 kj26 (wrap64 (Int.tmod a1 13)) (Int.tmod (wrap64 (a2)) x14_2) (Int.tmod (wrap64 (a3)) x14_2) t336 t340 (!t346))) else (w6_MobsRanked.j3 kj26 (wrap64 (Int.tmod a1 13)) (Int.tmod (wrap64 (a2)) x14_2) (Int.tmod (wrap64 (a3)) x14_2) t336 t340 true)) else (w6_MobsRanked.j3 kj26 (wrap64 (Int.tmod a1 13)) (Int.tmod (wrap64 (a2)) x14_2) (Int.tmod (wrap64 (a3)) x14_2) t336 t340 true)) else (w6_MobsRanked.j3 kj26 (wrap64 (Int.tmod a1 13)) (Int.tmod (wrap64 (a2)) x14_2) (Int.tmod (wrap64 (a3)) x14_2) t336 t340 true)) else (w6_MobsRanked.j3 kj26 (wrap64 (Int.tmod a1 13)) (Int.tmod (wrap64 (a2)) x14_2) (Int.tmod (wrap64 (a3)) x14_2) t336 t340 true)) else (w6_MobsRanked.j3 kj26 (wrap64 (Int.tmod a1 13)) (Int.tmod (wrap64 (a2)) x14_2) (Int.tmod (wrap64 (a3)) x14_2) t336 t340 true)) else (w6_MobsRanked.j3 kj26 (wrap64 (Int.tmod a1 13)) (Int.tmod (wrap64 (a2)) x14_2) (Int.tmod (wrap64 (a3)) x14_2) t336 t340 true))=some r:=H;have A33:=As0.mk A330;clear A330;have HC34:=As0.mk H;clear H
           try go_wp2
           have n0_:=As0.mk (y01 HB.out);clear HB;have HB:=n0_;clear n0_;refine start_ (n:=10) (S:=fun w'=>True) (ds:=[]) #[false,false,false,false,false,false,false,false,false,false] (by kernel_rfl) rfl rfl trivial (fun hHeld=>?_);refine with_tabW w6_MobsRanked.tab19 w6_MobsRanked.bits19 (fun HT_ HW_=>?_);generalize wc.drew=w35 at HB hHeld ⊢;refine pure_ (i:=0) (N:=some 81) (v:=?_) (a':=?_) #[true,false,false,false,false,false,false,false,false,false] rfl rfl (y0e HT_.out (by kernel_rfl)) (fun _ _ _ h=>h) (Or.inl ⟨by rfl,?_⟩) ?_ ?_;rotate_left
           ·intro w'
            go_simp
            with_reducible rfl
           rotate_left
           ·simp only [Act.put,List.setIfInBounds_toArray,List.set_cons_zero,List.set_cons_succ,i64_w,i32_w]
            rfl
           refine pure_ (i:=1) (N:=some 82) (v:=?_) (a':=?_) #[true,true,false,false,false,false,false,false,false,false] rfl rfl (y0e HT_.out (by kernel_rfl)) (fun _ _ _ h=>h) (Or.inl ⟨by rfl,?_⟩) ?_ ?_;rotate_left
           ·intro w'
            go_simp
            with_reducible rfl
           rotate_left
           ·simp only [Act.put,List.setIfInBounds_toArray,List.set_cons_zero,List.set_cons_succ,i64_w,i32_w]
            rfl
           refine pure_ (i:=2) (N:=some 83) (v:=?_) (a':=?_) #[true,true,true,false,false,false,false,false,false,false] rfl rfl (y0e HT_.out (by kernel_rfl)) (fun _ _ _ h=>h) (Or.inl ⟨by rfl,?_⟩) ?_ ?_;rotate_left
           ·intro w'
            go_simp
            with_reducible rfl
           rotate_left
           ·simp only [Act.put,List.setIfInBounds_toArray,List.set_cons_zero,List.set_cons_succ,i64_w,i32_w]
            rfl
           refine pure_ (i:=3) (N:=some 84) (v:=?_) (a':=?_) #[true,true,true,true,false,false,false,false,false,false] rfl rfl (y0e HT_.out (by kernel_rfl)) (fun _ _ _ h=>h) (Or.inl ⟨by rfl,?_⟩) ?_ ?_;rotate_left
           ·intro w'
            go_simp
            with_reducible rfl
           rotate_left
           ·simp only [Act.put,List.setIfInBounds_toArray,List.set_cons_zero,List.set_cons_succ,i64_w,i32_w]
            rfl
           refine pure_ (i:=4) (N:=some 85) (v:=?_) (a':=?_) #[true,true,true,true,true,false,false,false,false,false] rfl rfl (y0e HT_.out (by kernel_rfl)) (fun _ _ _ h=>h) (Or.inl ⟨by rfl,?_⟩) ?_ ?_;rotate_left
           ·intro w'
            go_simp
            with_reducible rfl
           rotate_left
           ·simp only [Act.put,List.setIfInBounds_toArray,List.set_cons_zero,List.set_cons_succ,i64_w,i32_w]
            rfl
           refine pure_ (i:=5) (N:=some 86) (v:=?_) (a':=?_) #[true,true,true,true,true,true,false,false,false,false] rfl rfl (y0e HT_.out (by kernel_rfl)) (fun _ _ _ h=>h) (Or.inl ⟨by rfl,?_⟩) ?_ ?_;rotate_left
           ·intro w'
            go_simp
            with_reducible rfl
           rotate_left
           ·simp only [Act.put,List.setIfInBounds_toArray,List.set_cons_zero,List.set_cons_succ,i64_w,i32_w]
            rfl
           refine pure_ (i:=6) (N:=some 87) (v:=?_) (a':=?_) #[true,true,true,true,true,true,true,false,false,false] rfl rfl (y0e HT_.out (by kernel_rfl)) (fun _ _ _ h=>h) (Or.inl ⟨by rfl,?_⟩) ?_ ?_;rotate_left
           ·intro w'
            go_simp
            with_reducible rfl
           rotate_left
           ·simp only [Act.put,List.setIfInBounds_toArray,List.set_cons_zero,List.set_cons_succ,i64_w,i32_w]
            rfl
           refine pure_ (i:=7) (N:=some 88) (v:=?_) (a':=?_) #[true,true,true,true,true,true,true,true,false,false] rfl rfl (y0e HT_.out (by kernel_rfl)) (fun _ _ _ h=>h) (Or.inl ⟨by rfl,?_⟩) ?_ ?_;rotate_left
           ·intro w'
            go_simp
            with_reducible rfl
           rotate_left
           ·simp only [Act.put,List.setIfInBounds_toArray,List.set_cons_zero,List.set_cons_succ,i64_w,i32_w]
            rfl
           refine pure_ (i:=8) (N:=some 18) (v:=?_) (a':=?_) #[true,true,true,true,true,true,true,true,true,false] rfl rfl (y0e HT_.out (by kernel_rfl)) (fun _ _ _ h=>h) (Or.inl ⟨by rfl,?_⟩) ?_ ?_;rotate_left
           ·intro w'
            go_simp
            with_reducible rfl
           rotate_left
           ·simp only [Act.put,List.setIfInBounds_toArray,List.set_cons_zero,List.set_cons_succ,i64_w,i32_w]
            rfl
           refine pure_ (i:=9) (N:=some 19) (v:=?_) (a':=?_) #[true,true,true,true,true,true,true,true,true,true] rfl rfl (y0e HT_.out (by kernel_rfl)) (fun _ _ _ h=>h) (Or.inl ⟨by rfl,?_⟩) ?_ ?_;rotate_left
           ·intro w'
            go_simp
            with_reducible rfl
           rotate_left
           ·simp only [Act.put,List.setIfInBounds_toArray,List.set_cons_zero,List.set_cons_succ,i64_w,i32_w]
            rfl
           refine done_ (done_of HT_.out (by kernel_rfl)) ?_;go_upto_region 23 with (first|((with_reducible refine y0c (f:=38) rfl ?_);refine y0s (some 92) rfl rfl Tra.func38 (by kernel_rfl) rfl #[.int .i64 (wrap64 (Int.tmod a1 13)),.int .i64 (Int.tmod (wrap64 (a2)) x14_2)] rfl (by (try simp only [List.map_toArray,List.map_cons,List.map_nil]);first|done|rfl|(simp only [List.length_drop,List.length_take];rfl)) ?_;(with_reducible refine (mobs_At.calls kj26 (wrap64 (Int.tmod a1 13)) (Int.tmod (wrap64 (a2)) x14_2) t336 t337 _ A31.out).mono ?_);rintro e w36 ⟨v338,rfl,ho0,hb⟩;refine ⟨_,rfl,?_⟩;have n0_:=As0.mk (Kd.R_lower ho0 (y09 (by repeat (first|(with_reducible first|exact HB.out|apply y02|apply y00|apply y01)|exact HB.out))));have n1_:=As0.mk (y08 (by repeat (first|(with_reducible first|exact HB.out|apply y02|apply y00|apply y01)|exact HB.out)) hb);clear HB;have HO339:=n0_;have HB:=n1_;clear n0_ n1_;(try clear hb);(try clear hb2);(try clear hk);(try clear hi);(try clear ho0))|((with_reducible refine y0c (f:=38) rfl ?_);refine y0s (some 98) rfl rfl Tra.func38 (by kernel_rfl) rfl #[.int .i64 (wrap64 (Int.tmod a1 13)),.int .i64 (Int.tmod (wrap64 (a3)) x14_2)] rfl (by (try simp only [List.map_toArray,List.map_cons,List.map_nil]);first|done|rfl|(simp only [List.length_drop,List.length_take];rfl)) ?_;(with_reducible refine (mobs_At.calls kj26 (wrap64 (Int.tmod a1 13)) (Int.tmod (wrap64 (a3)) x14_2) t340 t341 _ A32.out).mono ?_);rintro e w37 ⟨v342,rfl,ho0,hb⟩;refine ⟨_,rfl,?_⟩;have n0_:=As0.mk (Kd.R_elder' (by (with_reducible repeat (first|apply Kd.R_alloc|apply Kd.R_drewN|apply Kd.R_drew));exact HO339.out) (Kd.R_base ho0) hb);have n1_:=As0.mk (Kd.R_lower (Kd.R_new' ho0 (Kd.R_lt (by (with_reducible repeat (first|apply Kd.R_alloc|apply Kd.R_drewN|apply Kd.R_drew));exact HO339.out))) (y09 (by repeat (first|(with_reducible first|exact HB.out|apply y02|apply y00|apply y01)|exact HB.out))));have n2_:=As0.mk (y08 (by repeat (first|(with_reducible first|exact HB.out|apply y02|apply y00|apply y01)|exact HB.out)) hb);clear HO339;clear HB;have HO339:=n0_;have HO343:=n1_;have HB:=n2_;clear n0_ n1_ n2_;(try clear hb);(try clear hb2);(try clear hk);(try clear hi);(try clear ho0);obtain ⟨Ao38,co38,eo38⟩:=Kd.R_slice HO339.out;subst eo38)|((with_reducible refine y0c (f:=36) rfl ?_);refine y0s (some 103) rfl rfl Tra.func36 (by kernel_rfl) rfl #[.slice Ao38 t336.length co38] rfl (by (try simp only [List.map_toArray,List.map_cons,List.map_nil]);first|done|rfl|(simp only [List.length_drop,List.length_take];rfl)) ?_;(with_reducible refine (mobs_Rank.calls kj26 (fun k_=>some k_=(.slice Ao38 t336.length co38:Value).ownBlock) _ _ t336 t344 t345 _ ?side1 A33.out).mono ?_);(case side1=>exact Kd.R_V (Kd.R_tight rfl (HO339.out)));rintro e w39 ⟨rfl,hb⟩;refine ⟨_,rfl,?_⟩;have n0_:=As0.mk (Kd.R_below (by (with_reducible repeat (first|apply Kd.R_alloc|apply Kd.R_drewN|apply Kd.R_drew));exact HO339.out) hb);have n1_:=As0.mk (Kd.R_below (by (with_reducible repeat (first|apply Kd.R_alloc|apply Kd.R_drewN|apply Kd.R_drew));exact HO343.out) hb);have n2_:=As0.mk (y08 (by repeat (first|(with_reducible first|exact HB.out|apply y02|apply y00|apply y01)|exact HB.out)) hb);clear HO339;clear HO343;clear HB;have HO339:=n0_;have HO343:=n1_;have HB:=n2_;clear n0_ n1_ n2_;(try clear hb);(try clear hb2);(try clear hk);(try clear hi)))
           (try simp only [Act.put,List.setIfInBounds_toArray,List.set_cons_zero,List.set_cons_succ])
           go_cut [137] (fun v137 wc=>∃ (kq:Nat) (x137_33:Bool),v137=.bool x137_33∧As0 (w6_MobsRanked.j3 kq (wrap64 (Int.tmod a1 13)) (Int.tmod (wrap64 (a2)) x14_2) (Int.tmod (wrap64 (a3)) x14_2) t336 t340 x137_33=some r)∧As0 (kq≤kj26)∧As0 (Kd.R (Kd.int .i64) 3 wc w.heap.size (fun k_=>some k_≠(v342:Value).ownBlock) (.slice Ao38 t336.length co38) t336)∧As0 (Kd.R (Kd.int .i64) 3 wc w.heap.size (fun k_=>some k_≠((.slice Ao38 t336.length co38):Value).ownBlock) v342 t340)∧As0 (Below w.heap.size w wc))
           case first =>
            have H:=HC34.out;clear HC34
            by_cases c40:t337=0
            ·rw [if_pos c40] at H
             have c40b0:(t337 == 0)=true:=beq_iff_eq.mpr c40;have c40b1:(t337 != 0)=false:=bne_eq_false_iff_eq.mpr c40;clear c40
             (first|rw [c40b0]|(simp only [i64_w,i32_w];rw [c40b0])|skip)
             by_cases c41:t341=0
             ·rw [if_pos c41] at H
              have c41b0:(t341 == 0)=true:=beq_iff_eq.mpr c41;have c41b1:(t341 != 0)=false:=bne_eq_false_iff_eq.mpr c41;clear c41
              by_cases c42:t345=0
              ·rw [if_pos c42] at H
               have c42b0:(t345 == 0)=true:=beq_iff_eq.mpr c42;have c42b1:(t345 != 0)=false:=bne_eq_false_iff_eq.mpr c42;clear c42
               by_cases c43:t344=(Int.tmod (wrap64 (a2)) x14_2)
               ·rw [if_pos c43] at H
                have c43b0:(t344 == (Int.tmod (wrap64 (a2)) x14_2))=true:=beq_iff_eq.mpr c43;have c43b1:(t344 != (Int.tmod (wrap64 (a2)) x14_2))=false:=bne_eq_false_iff_eq.mpr c43;clear c43
                by_cases c44:(t336.length:Int)=(wrap64 (Int.tmod a1 13))
                ·rw [if_pos c44] at H
                 have c44b0:((t336.length:Int) == (wrap64 (Int.tmod a1 13)))=true:=beq_iff_eq.mpr c44;have c44b1:((t336.length:Int) != (wrap64 (Int.tmod a1 13)))=false:=bne_eq_false_iff_eq.mpr c44;clear c44
                 by_cases c45:(t340.length:Int)=(wrap64 (Int.tmod a1 13))
                 ·rw [if_pos c45] at H
                  have c45b0:((t340.length:Int) == (wrap64 (Int.tmod a1 13)))=true:=beq_iff_eq.mpr c45;have c45b1:((t340.length:Int) != (wrap64 (Int.tmod a1 13)))=false:=bne_eq_false_iff_eq.mpr c45;clear c45;replace H:=Option.bind_eq_some_iff.mp H;obtain ⟨t346,A460,H⟩:=H;replace H:(w6_MobsRanked.j3 kj26 (wrap64 (Int.tmod a1 13)) (Int.tmod (wrap64 (a2)) x14_2) (Int.tmod (wrap64 (a3)) x14_2) t336 t340 (!t346))=some r:=H;have A46:=As0.mk A460;clear A460;have H':=As0.mk H;clear H;obtain ⟨Ao47,co47,eo47⟩:=Kd.R_slice HO343.out;subst eo47;go_wp2_with (first|(go_at_call 30;(with_reducible refine (r6_IsParting.calls kj26 _ _ t336 t346 _ ?side1 ?side2 A46.out).mono ?_);(case side1=>repeat (first|exact (Kd.R_reads' HO339.out).2.2|(with_reducible refine Kd.C_alloc ?_ _)|(with_reducible refine Kd.C_drewN ?_ _)|(with_reducible refine Kd.C_drew ?_)));(case side2=>exact (Kd.R_reads' HO339.out).2.1);rintro e w' ⟨rfl,⟨nd,rfl⟩⟩))
                  go_meet
                  case rel=>exact ⟨_,(!t346),(by first|rfl|(simp;done)|(simp [*];done)),H',⟨by have:=HJ7.out;have:=HK2.out;have:=HJ26.out;first|omega|exact Nat.le_refl _⟩,⟨by (with_reducible repeat (first|apply Kd.R_alloc|apply Kd.R_drewN|apply Kd.R_drew));exact Kd.R_mono HO339.out (fun _ hk=>hk.2)⟩,⟨by (with_reducible repeat (first|apply Kd.R_alloc|apply Kd.R_drewN|apply Kd.R_drew));exact Kd.R_mono HO343.out (fun _ hk=>hk.2)⟩,⟨by repeat (first|(with_reducible first|exact HB.out|apply y02|apply y00|apply y01)|exact HB.out)⟩⟩
                 ·rw [if_neg c45] at H
                  have c45b0:((t340.length:Int) == (wrap64 (Int.tmod a1 13)))=false:=beq_eq_false_iff_ne.mpr c45;have c45b1:((t340.length:Int) != (wrap64 (Int.tmod a1 13)))=true:=bne_iff_ne.mpr c45;have H':=As0.mk H;clear H;obtain ⟨Ao48,co48,eo48⟩:=Kd.R_slice HO343.out;subst eo48;go_wp2
                  go_meet
                  case rel=>exact ⟨_,(true),(by first|rfl|(simp;done)|(simp [*];done)),H',⟨by have:=HJ7.out;have:=HK2.out;have:=HJ26.out;first|omega|exact Nat.le_refl _⟩,⟨by (with_reducible repeat (first|apply Kd.R_alloc|apply Kd.R_drewN|apply Kd.R_drew));exact Kd.R_mono HO339.out (fun _ hk=>hk.2)⟩,⟨by (with_reducible repeat (first|apply Kd.R_alloc|apply Kd.R_drewN|apply Kd.R_drew));exact Kd.R_mono HO343.out (fun _ hk=>hk.2)⟩,⟨by repeat (first|(with_reducible first|exact HB.out|apply y02|apply y00|apply y01)|exact HB.out)⟩⟩
                ·rw [if_neg c44] at H
                 have c44b0:((t336.length:Int) == (wrap64 (Int.tmod a1 13)))=false:=beq_eq_false_iff_ne.mpr c44;have c44b1:((t336.length:Int) != (wrap64 (Int.tmod a1 13)))=true:=bne_iff_ne.mpr c44;have H':=As0.mk H;clear H;go_wp2
                 go_meet
                 case rel=>exact ⟨_,(true),(by first|rfl|(simp;done)|(simp [*];done)),H',⟨by have:=HJ7.out;have:=HK2.out;have:=HJ26.out;first|omega|exact Nat.le_refl _⟩,⟨by (with_reducible repeat (first|apply Kd.R_alloc|apply Kd.R_drewN|apply Kd.R_drew));exact Kd.R_mono HO339.out (fun _ hk=>hk.2)⟩,⟨by (with_reducible repeat (first|apply Kd.R_alloc|apply Kd.R_drewN|apply Kd.R_drew));exact Kd.R_mono HO343.out (fun _ hk=>hk.2)⟩,⟨by repeat (first|(with_reducible first|exact HB.out|apply y02|apply y00|apply y01)|exact HB.out)⟩⟩
               ·rw [if_neg c43] at H
                have c43b0:(t344 == (Int.tmod (wrap64 (a2)) x14_2))=false:=beq_eq_false_iff_ne.mpr c43;have c43b1:(t344 != (Int.tmod (wrap64 (a2)) x14_2))=true:=bne_iff_ne.mpr c43;have H':=As0.mk H;clear H;go_wp2
                go_meet
                case rel=>exact ⟨_,(true),(by first|rfl|(simp;done)|(simp [*];done)),H',⟨by have:=HJ7.out;have:=HK2.out;have:=HJ26.out;first|omega|exact Nat.le_refl _⟩,⟨by (with_reducible repeat (first|apply Kd.R_alloc|apply Kd.R_drewN|apply Kd.R_drew));exact Kd.R_mono HO339.out (fun _ hk=>hk.2)⟩,⟨by (with_reducible repeat (first|apply Kd.R_alloc|apply Kd.R_drewN|apply Kd.R_drew));exact Kd.R_mono HO343.out (fun _ hk=>hk.2)⟩,⟨by repeat (first|(with_reducible first|exact HB.out|apply y02|apply y00|apply y01)|exact HB.out)⟩⟩
              ·rw [if_neg c42] at H
               have c42b0:(t345 == 0)=false:=beq_eq_false_iff_ne.mpr c42;have c42b1:(t345 != 0)=true:=bne_iff_ne.mpr c42;have H':=As0.mk H;clear H;go_wp2
               go_meet
               case rel=>exact ⟨_,(true),(by first|rfl|(simp;done)|(simp [*];done)),H',⟨by have:=HJ7.out;have:=HK2.out;have:=HJ26.out;first|omega|exact Nat.le_refl _⟩,⟨by (with_reducible repeat (first|apply Kd.R_alloc|apply Kd.R_drewN|apply Kd.R_drew));exact Kd.R_mono HO339.out (fun _ hk=>hk.2)⟩,⟨by (with_reducible repeat (first|apply Kd.R_alloc|apply Kd.R_drewN|apply Kd.R_drew));exact Kd.R_mono HO343.out (fun _ hk=>hk.2)⟩,⟨by repeat (first|(with_reducible first|exact HB.out|apply y02|apply y00|apply y01)|exact HB.out)⟩⟩
             ·rw [if_neg c41] at H
              have c41b0:(t341 == 0)=false:=beq_eq_false_iff_ne.mpr c41;have c41b1:(t341 != 0)=true:=bne_iff_ne.mpr c41;have H':=As0.mk H;clear H;go_wp2
              go_meet
              case rel=>exact ⟨_,(true),(by first|rfl|(simp;done)|(simp [*];done)),H',⟨by have:=HJ7.out;have:=HK2.out;have:=HJ26.out;first|omega|exact Nat.le_refl _⟩,⟨by (with_reducible repeat (first|apply Kd.R_alloc|apply Kd.R_drewN|apply Kd.R_drew));exact Kd.R_mono HO339.out (fun _ hk=>hk.2)⟩,⟨by (with_reducible repeat (first|apply Kd.R_alloc|apply Kd.R_drewN|apply Kd.R_drew));exact Kd.R_mono HO343.out (fun _ hk=>hk.2)⟩,⟨by repeat (first|(with_reducible first|exact HB.out|apply y02|apply y00|apply y01)|exact HB.out)⟩⟩
            ·rw [if_neg c40] at H
             have c40b0:(t337 == 0)=false:=beq_eq_false_iff_ne.mpr c40;have c40b1:(t337 != 0)=true:=bne_iff_ne.mpr c40
             (first|rw [c40b0]|(simp only [i64_w,i32_w];rw [c40b0])|skip)
             have H':=As0.mk H;clear H;go_wp2
             go_meet
             case rel=>exact ⟨_,(true),(by first|rfl|(simp;done)|(simp [*];done)),H',⟨by have:=HJ7.out;have:=HK2.out;have:=HJ26.out;first|omega|exact Nat.le_refl _⟩,⟨by (with_reducible repeat (first|apply Kd.R_alloc|apply Kd.R_drewN|apply Kd.R_drew));exact Kd.R_mono HO339.out (fun _ hk=>hk.2)⟩,⟨by (with_reducible repeat (first|apply Kd.R_alloc|apply Kd.R_drewN|apply Kd.R_drew));exact Kd.R_mono HO343.out (fun _ hk=>hk.2)⟩,⟨by repeat (first|(with_reducible first|exact HB.out|apply y02|apply y00|apply y01)|exact HB.out)⟩⟩
           case rest =>
            clear HC34
            try clear c1
            try clear c2
            try clear p2
            try clear c3
            try clear c4
            try clear c6
            try clear p6
            try clear c10
            try clear c10b0
            try clear c10b1
            try clear c12
            try clear c12b0
            try clear c12b1
            try clear c14
            try clear c16
            try clear c20
            try clear c20b0
            try clear c22
            try clear c22b0
            try clear c22b1
            try clear c23
            try clear c23b0
            try clear c28
            try clear c28b0
            try clear c29
            try clear c30
            try clear c30b0
            try clear c30b1
            try clear c36
            try clear c38
            try clear c40
            try clear c40b0
            try clear c40b1
            try clear c41
            try clear c41b0
            try clear c41b1
            try clear c42
            try clear c42b0
            try clear c42b1
            try clear c43
            try clear c43b0
            try clear c43b1
            try clear c44
            try clear c44b0
            try clear c44b1
            try clear c45
            try clear c45b0
            try clear c45b1
            try clear p2
            try clear p6
            obtain ⟨kq,x137_33,rfl,HA,HJ33,HO_20,HO_21,HB⟩:=hcut;cases kq with
            |zero=>exact absurd HA.out (by simp [w6_MobsRanked.j3])
            |succ kj33 =>
             have H:=HA.out;clear HA;simp only [w6_MobsRanked.j3] at H
             by_cases c49:x137_33=true
             ·subst c49
              have H1:(some false)=some r:=by rw [if_pos rfl] at H;exact H
              clear H;have H:=H1;clear H1;obtain rfl:=Option.some.inj H;go_wp2
              go_ret
              exact ⟨by first|rfl|(simp [y07,y06]<;>rfl)|(simp [*,y07,y06]<;>rfl),by repeat (first|(with_reducible first|exact HB.out|apply y02|apply y00|apply y01)|exact HB.out)⟩
             ·replace c49:=Bool.eq_false_iff.mpr c49
              subst c49;have H1:(w6_MobsRanked.l1 kj33 (wrap64 (Int.tmod a1 13)) (Int.tmod (wrap64 (a2)) x14_2) (Int.tmod (wrap64 (a3)) x14_2) t336 t340 0)=some r:=by rw [if_neg (show ¬ (false=true) by decide)] at H;exact H
              clear H;have H:=H1;clear H1;have H':=As0.mk H;clear H;go_wp2
              go_loopg [25] kj33 (fun kq v25 w'=>∃ (x25_5:Int),v25=.int .i64 x25_5∧As0 (w6_MobsRanked.l1 kq (wrap64 (Int.tmod a1 13)) (Int.tmod (wrap64 (a2)) x14_2) (Int.tmod (wrap64 (a3)) x14_2) t336 t340 x25_5=some r)∧As0 (kq≤kj33)∧As0 (Kd.R (Kd.int .i64) 3 w' w.heap.size (fun k_=>some k_≠(v342:Value).ownBlock) (.slice Ao38 t336.length co38) t336)∧As0 (Kd.R (Kd.int .i64) 3 w' w.heap.size (fun k_=>some k_≠((.slice Ao38 t336.length co38):Value).ownBlock) v342 t340)∧As0 (Below w.heap.size w w'))
              case atStart=>exact ⟨(0),(by first|rfl|(simp;done)|(simp [*];done)),H',⟨Nat.le_refl _⟩,⟨by (with_reducible repeat (first|apply Kd.R_alloc|apply Kd.R_drewN|apply Kd.R_drew));exact HO_20.out⟩,⟨by (with_reducible repeat (first|apply Kd.R_alloc|apply Kd.R_drewN|apply Kd.R_drew));exact HO_21.out⟩,⟨by repeat (first|(with_reducible first|exact HB.out|apply y02|apply y00|apply y01)|exact HB.out)⟩⟩
              case round =>
               clear H'
               try clear c1
               try clear c2
               try clear p2
               try clear c3
               try clear c4
               try clear c6
               try clear p6
               try clear c10
               try clear c10b0
               try clear c10b1
               try clear c12
               try clear c12b0
               try clear c12b1
               try clear c14
               try clear c16
               try clear c20
               try clear c20b0
               try clear c22
               try clear c22b0
               try clear c22b1
               try clear c23
               try clear c23b0
               try clear c28
               try clear c28b0
               try clear c29
               try clear c30
               try clear c30b0
               try clear c30b1
               try clear c36
               try clear c38
               try clear c40
               try clear c40b0
               try clear c40b1
               try clear c41
               try clear c41b0
               try clear c41b1
               try clear c42
               try clear c42b0
               try clear c42b1
               try clear c43
               try clear c43b0
               try clear c43b1
               try clear c44
               try clear c44b0
               try clear c44b1
               try clear c45
               try clear c45b0
               try clear c45b1
               try clear c49
               try clear p2
               try clear p6
               obtain ⟨x25_5,rfl,HA,HK5,HO_20,HO_21,HB⟩:=hrel;cases gk with
               |zero=>exact absurd HA.out (by simp [w6_MobsRanked.l1])
               |succ k5 =>
                have H:=HA.out;clear HA;simp only [w6_MobsRanked.l1] at H
                by_cases c50:x25_5<(wrap64 (Int.tmod a1 13))
                ·rw [if_pos c50] at H
                 have c50b0:decide (x25_5<(wrap64 (Int.tmod a1 13)))=true:=decide_eq_true c50;clear c50
                 by_cases c51:0≤x25_5
                 ·rw [if_pos c51] at H
                  have c51b0:decide (0≤x25_5)=true:=decide_eq_true c51;clear c51
                  by_cases c52:x25_5<(t336.length:Int)
                  ·rw [if_pos c52] at H
                   have c52b0:decide (x25_5<(t336.length:Int))=true:=decide_eq_true c52;clear c52
                   by_cases c53:x25_5<(t340.length:Int)
                   ·rw [if_pos c53] at H
                    have c53b0:decide (x25_5<(t340.length:Int))=true:=decide_eq_true c53;clear c53
                    by_cases c54:(rd t336 x25_5)=(rd t340 x25_5)
                    ·rw [if_pos c54] at H
                     have c54b0:((rd t336 x25_5) == (rd t340 x25_5))=true:=beq_iff_eq.mpr c54;have c54b1:((rd t336 x25_5) != (rd t340 x25_5))=false:=bne_eq_false_iff_eq.mpr c54;clear c54;have H':=As0.mk H;clear H
                     try go_wp2
                     have n0_:=As0.mk (Kd.R_drew HO_20.out);have n1_:=As0.mk (Kd.R_drew HO_21.out);have n2_:=As0.mk (y01 HB.out);clear HO_20;clear HO_21;clear HB;have HO_20:=n0_;have HO_21:=n1_;have HB:=n2_;clear n0_ n1_ n2_;have p347:0≤(x25_5:Int):=of_decide_eq_true (by first|(with_reducible assumption)|assumption);have q347:x25_5<(t336.length:Int):=of_decide_eq_true (by first|(with_reducible assumption)|assumption);obtain ⟨ad347,e347,hx347_0⟩:=Kd.at_int (Kd.R_reads' HO_20.out).2.2 x25_5 p347 q347;cases e347
                     replace p347:=eq_true p347;replace q347:=eq_true q347;obtain ⟨Ao56,co56,eo56⟩:=Kd.R_slice HO_21.out
                     (first|subst eo56|(injection eo56 with f1_ f2_ f3_;have f4_:=f1_.symm;have f5_:=f3_.symm;clear f1_ f2_ f3_;subst f4_;subst f5_))
                     have p348:0≤(x25_5:Int):=of_decide_eq_true (by first|(with_reducible assumption)|assumption);have q348:x25_5<(t340.length:Int):=of_decide_eq_true (by first|(with_reducible assumption)|assumption);obtain ⟨ad348,e348,hx348_0⟩:=Kd.at_int (Kd.R_reads' HO_21.out).2.2 x25_5 p348 q348;cases e348
                     replace p348:=eq_true p348;replace q348:=eq_true q348;refine start_ (n:=9) (S:=fun w'=>w'.cell? (ad347.add (x25_5).toNat)=some (.int .i64 (rd t336 x25_5))∧w'.cell? (ad348.add (x25_5).toNat)=some (.int .i64 (rd t340 x25_5))) (ds:=[]) #[false,false,false,false,false,false,false,false,false] (by kernel_rfl) rfl rfl ⟨hx347_0,hx348_0⟩ (fun hHeld=>?_);refine with_tabW w6_MobsRanked.tab28 w6_MobsRanked.bits28 (fun HT_ HW_=>?_);generalize wr.drew=w55 at HO_20 HO_21 HB hx347_0 hx348_0 hHeld ⊢;refine pure_ (i:=0) (N:=some 143) (v:=?_) (a':=?_) #[true,false,false,false,false,false,false,false,false] rfl rfl (y0e HT_.out (by kernel_rfl)) (fun _ _ _ h=>h) (Or.inl ⟨by rfl,?_⟩) ?_ ?_;rotate_left
                     ·intro w'
                      go_simp
                      with_reducible rfl
                     rotate_left
                     ·simp only [Act.put,List.setIfInBounds_toArray,List.set_cons_zero,List.set_cons_succ,i64_w,i32_w]
                      rfl
                     refine pure_ (i:=1) (N:=some 144) (v:=?_) (a':=?_) #[true,true,false,false,false,false,false,false,false] rfl rfl (y0e HT_.out (by kernel_rfl)) (fun _ _ _ h=>h) (Or.inl ⟨by rfl,?_⟩) ?_ ?_;rotate_left
                     ·intro w'
                      go_simp
                      with_reducible rfl
                     rotate_left
                     ·simp only [Act.put,List.setIfInBounds_toArray,List.set_cons_zero,List.set_cons_succ,i64_w,i32_w]
                      rfl
                     refine pure_ (i:=2) (N:=some 145) (v:=?_) (a':=?_) #[true,true,true,false,false,false,false,false,false] rfl rfl (y0e HT_.out (by kernel_rfl)) (fun _ _ _ h=>h) (Or.inl ⟨by rfl,?_⟩) ?_ ?_;rotate_left
                     ·intro w'
                      go_simp
                      with_reducible rfl
                     rotate_left
                     ·simp only [Act.put,List.setIfInBounds_toArray,List.set_cons_zero,List.set_cons_succ,i64_w,i32_w]
                      rfl
                     refine pure_ (i:=4) (N:=some 147) (v:=?_) (a':=?_) #[true,true,true,false,true,false,false,false,false] rfl rfl (y0e HT_.out (by kernel_rfl)) (fun _ _ _ h=>h) (Or.inl ⟨by rfl,?_⟩) ?_ ?_;rotate_left
                     ·intro w'
                      go_simp
                      with_reducible rfl
                     rotate_left
                     ·simp only [Act.put,List.setIfInBounds_toArray,List.set_cons_zero,List.set_cons_succ,i64_w,i32_w]
                      rfl
                     refine pure_ (i:=5) (N:=some 148) (v:=?_) (a':=?_) #[true,true,true,false,true,true,false,false,false] rfl rfl (y0e HT_.out (by kernel_rfl)) (fun _ _ _ h=>h) (Or.inl ⟨by rfl,?_⟩) ?_ ?_;rotate_left
                     ·intro w'
                      go_simp
                      with_reducible rfl
                     rotate_left
                     ·simp only [Act.put,List.setIfInBounds_toArray,List.set_cons_zero,List.set_cons_succ,i64_w,i32_w]
                      rfl
                     refine pure_ (i:=6) (N:=some 149) (v:=?_) (a':=?_) #[true,true,true,false,true,true,true,false,false] rfl rfl (y0e HT_.out (by kernel_rfl)) (fun _ _ _ h=>h) (Or.inl ⟨by rfl,?_⟩) ?_ ?_;rotate_left
                     ·intro w'
                      go_simp
                      with_reducible rfl
                     rotate_left
                     ·simp only [Act.put,List.setIfInBounds_toArray,List.set_cons_zero,List.set_cons_succ,i64_w,i32_w]
                      rfl
                     refine take_ (i:=3) (N:=some 146) (v:=?_) (a':=?_) #[true,true,true,true,true,true,true,false,false] rfl rfl (take_ofW HT_.out HW_.out (by kernel_rfl)) (fun _ _ _ h=>h) (Or.inl ⟨by rfl,?_⟩) hHeld ?_ ?_;rotate_left
                     ·rintro w' ⟨s0,s1⟩
                      go_simp
                      with_reducible rfl
                     rotate_left
                     ·simp only [Act.put,List.setIfInBounds_toArray,List.set_cons_zero,List.set_cons_succ,i64_w,i32_w]
                      rfl
                     refine take_ (i:=7) (N:=some 150) (v:=?_) (a':=?_) #[true,true,true,true,true,true,true,true,false] rfl rfl (take_ofW HT_.out HW_.out (by kernel_rfl)) (fun _ _ _ h=>h) (Or.inl ⟨by rfl,?_⟩) hHeld ?_ ?_;rotate_left
                     ·rintro w' ⟨s0,s1⟩
                      go_simp
                      with_reducible rfl
                     rotate_left
                     ·simp only [Act.put,List.setIfInBounds_toArray,List.set_cons_zero,List.set_cons_succ,i64_w,i32_w]
                      rfl
                     refine pure_ (i:=8) (N:=some 151) (v:=?_) (a':=?_) #[true,true,true,true,true,true,true,true,true] rfl rfl (y0e HT_.out (by kernel_rfl)) (fun _ _ _ h=>h) (Or.inl ⟨by rfl,?_⟩) ?_ ?_;rotate_left
                     ·intro w'
                      go_simp
                      with_reducible rfl
                     rotate_left
                     ·simp only [Act.put,List.setIfInBounds_toArray,List.set_cons_zero,List.set_cons_succ,i64_w,i32_w]
                      rfl
                     refine done_ (done_of HT_.out (by kernel_rfl)) ?_
                     try go_wp2
                     go_roundg k5
                     case measure=>have:=HJ7.out;have:=HK2.out;have:=HJ26.out;have:=HJ33.out;have:=HK5.out;omega
                     case rel=>exact ⟨(wrap64 (x25_5+1)),(by first|rfl|(simp;done)|(simp [*];done)),H',⟨by have:=HJ7.out;have:=HK2.out;have:=HJ26.out;have:=HJ33.out;have:=HK5.out;omega⟩,⟨by (with_reducible repeat (first|apply Kd.R_alloc|apply Kd.R_drewN|apply Kd.R_drew));exact HO_20.out⟩,⟨by (with_reducible repeat (first|apply Kd.R_alloc|apply Kd.R_drewN|apply Kd.R_drew));exact HO_21.out⟩,⟨by repeat (first|(with_reducible first|exact HB.out|apply y02|apply y00|apply y01)|exact HB.out)⟩⟩
                    ·rw [if_neg c54] at H
                     have c54b0:((rd t336 x25_5) == (rd t340 x25_5))=false:=beq_eq_false_iff_ne.mpr c54;have c54b1:((rd t336 x25_5) != (rd t340 x25_5))=true:=bne_iff_ne.mpr c54
                     by_cases c57:((decide ((rd t336 x25_5)<(rd t340 x25_5))) == (decide ((Int.tmod (wrap64 (a2)) x14_2)<(Int.tmod (wrap64 (a3)) x14_2))))=true
                     ·rw [if_pos c57] at H
                      have c57b0:((decide ((rd t336 x25_5)<(rd t340 x25_5))) == (decide ((Int.tmod (wrap64 (a2)) x14_2)<(Int.tmod (wrap64 (a3)) x14_2))))=true:=c57
                      (try (have c57b1:decide ((decide ((rd t336 x25_5)<(rd t340 x25_5)))=(decide ((Int.tmod (wrap64 (a2)) x14_2)<(Int.tmod (wrap64 (a3)) x14_2))))=true:=by simpa using c57))
                      (try (have c57b2:((decide ((rd t336 x25_5)<(rd t340 x25_5))) == (decide ((Int.tmod (wrap64 (a2)) x14_2)<(Int.tmod (wrap64 (a3)) x14_2))))=true:=by simpa using c57))
                      clear c57;replace H:=Option.bind_eq_some_iff.mp H;obtain ⟨t351,A580,H⟩:=H;replace H:(some t351)=some r:=H;have A58:=As0.mk A580;clear A580;obtain rfl:=Option.some.inj H
                      try go_wp2
                      have n0_:=As0.mk (Kd.R_drew HO_20.out);have n1_:=As0.mk (Kd.R_drew HO_21.out);have n2_:=As0.mk (y01 HB.out);clear HO_20;clear HO_21;clear HB;have HO_20:=n0_;have HO_21:=n1_;have HB:=n2_;clear n0_ n1_ n2_;have p347:0≤(x25_5:Int):=of_decide_eq_true (by first|(with_reducible assumption)|assumption);have q347:x25_5<(t336.length:Int):=of_decide_eq_true (by first|(with_reducible assumption)|assumption);obtain ⟨ad347,e347,hx347_0⟩:=Kd.at_int (Kd.R_reads' HO_20.out).2.2 x25_5 p347 q347;cases e347
                      replace p347:=eq_true p347;replace q347:=eq_true q347;obtain ⟨Ao60,co60,eo60⟩:=Kd.R_slice HO_21.out
                      (first|subst eo60|(injection eo60 with f1_ f2_ f3_;have f4_:=f1_.symm;have f5_:=f3_.symm;clear f1_ f2_ f3_;subst f4_;subst f5_))
                      have p348:0≤(x25_5:Int):=of_decide_eq_true (by first|(with_reducible assumption)|assumption);have q348:x25_5<(t340.length:Int):=of_decide_eq_true (by first|(with_reducible assumption)|assumption);obtain ⟨ad348,e348,hx348_0⟩:=Kd.at_int (Kd.R_reads' HO_21.out).2.2 x25_5 p348 q348;cases e348
                      replace p348:=eq_true p348;replace q348:=eq_true q348;refine start_ (n:=9) (S:=fun w'=>w'.cell? (ad347.add (x25_5).toNat)=some (.int .i64 (rd t336 x25_5))∧w'.cell? (ad348.add (x25_5).toNat)=some (.int .i64 (rd t340 x25_5))) (ds:=[]) #[false,false,false,false,false,false,false,false,false] (by kernel_rfl) rfl rfl ⟨hx347_0,hx348_0⟩ (fun hHeld=>?_);refine with_tabW w6_MobsRanked.tab28 w6_MobsRanked.bits28 (fun HT_ HW_=>?_);generalize wr.drew=w59 at HO_20 HO_21 HB hx347_0 hx348_0 hHeld ⊢;refine pure_ (i:=0) (N:=some 143) (v:=?_) (a':=?_) #[true,false,false,false,false,false,false,false,false] rfl rfl (y0e HT_.out (by kernel_rfl)) (fun _ _ _ h=>h) (Or.inl ⟨by rfl,?_⟩) ?_ ?_;rotate_left
                      ·intro w'
                       go_simp
                       with_reducible rfl
                      rotate_left
                      ·simp only [Act.put,List.setIfInBounds_toArray,List.set_cons_zero,List.set_cons_succ,i64_w,i32_w]
                       rfl
                      refine pure_ (i:=1) (N:=some 144) (v:=?_) (a':=?_) #[true,true,false,false,false,false,false,false,false] rfl rfl (y0e HT_.out (by kernel_rfl)) (fun _ _ _ h=>h) (Or.inl ⟨by rfl,?_⟩) ?_ ?_;rotate_left
                      ·intro w'
                       go_simp
                       with_reducible rfl
                      rotate_left
                      ·simp only [Act.put,List.setIfInBounds_toArray,List.set_cons_zero,List.set_cons_succ,i64_w,i32_w]
                       rfl
                      refine pure_ (i:=2) (N:=some 145) (v:=?_) (a':=?_) #[true,true,true,false,false,false,false,false,false] rfl rfl (y0e HT_.out (by kernel_rfl)) (fun _ _ _ h=>h) (Or.inl ⟨by rfl,?_⟩) ?_ ?_;rotate_left
                      ·intro w'
                       go_simp
                       with_reducible rfl
                      rotate_left
                      ·simp only [Act.put,List.setIfInBounds_toArray,List.set_cons_zero,List.set_cons_succ,i64_w,i32_w]
                       rfl
                      refine pure_ (i:=4) (N:=some 147) (v:=?_) (a':=?_) #[true,true,true,false,true,false,false,false,false] rfl rfl (y0e HT_.out (by kernel_rfl)) (fun _ _ _ h=>h) (Or.inl ⟨by rfl,?_⟩) ?_ ?_;rotate_left
                      ·intro w'
                       go_simp
                       with_reducible rfl
                      rotate_left
                      ·simp only [Act.put,List.setIfInBounds_toArray,List.set_cons_zero,List.set_cons_succ,i64_w,i32_w]
                       rfl
                      refine pure_ (i:=5) (N:=some 148) (v:=?_) (a':=?_) #[true,true,true,false,true,true,false,false,false] rfl rfl (y0e HT_.out (by kernel_rfl)) (fun _ _ _ h=>h) (Or.inl ⟨by rfl,?_⟩) ?_ ?_;rotate_left
                      ·intro w'
                       go_simp
                       with_reducible rfl
                      rotate_left
                      ·simp only [Act.put,List.setIfInBounds_toArray,List.set_cons_zero,List.set_cons_succ,i64_w,i32_w]
                       rfl
                      refine pure_ (i:=6) (N:=some 149) (v:=?_) (a':=?_) #[true,true,true,false,true,true,true,false,false] rfl rfl (y0e HT_.out (by kernel_rfl)) (fun _ _ _ h=>h) (Or.inl ⟨by rfl,?_⟩) ?_ ?_;rotate_left
                      ·intro w'
                       go_simp
                       with_reducible rfl
                      rotate_left
                      ·simp only [Act.put,List.setIfInBounds_toArray,List.set_cons_zero,List.set_cons_succ,i64_w,i32_w]
                       rfl
                      refine take_ (i:=3) (N:=some 146) (v:=?_) (a':=?_) #[true,true,true,true,true,true,true,false,false] rfl rfl (take_ofW HT_.out HW_.out (by kernel_rfl)) (fun _ _ _ h=>h) (Or.inl ⟨by rfl,?_⟩) hHeld ?_ ?_;rotate_left
                      ·rintro w' ⟨s0,s1⟩
                       go_simp
                       with_reducible rfl
                      rotate_left
                      ·simp only [Act.put,List.setIfInBounds_toArray,List.set_cons_zero,List.set_cons_succ,i64_w,i32_w]
                       rfl
                      refine take_ (i:=7) (N:=some 150) (v:=?_) (a':=?_) #[true,true,true,true,true,true,true,true,false] rfl rfl (take_ofW HT_.out HW_.out (by kernel_rfl)) (fun _ _ _ h=>h) (Or.inl ⟨by rfl,?_⟩) hHeld ?_ ?_;rotate_left
                      ·rintro w' ⟨s0,s1⟩
                       go_simp
                       with_reducible rfl
                      rotate_left
                      ·simp only [Act.put,List.setIfInBounds_toArray,List.set_cons_zero,List.set_cons_succ,i64_w,i32_w]
                       rfl
                      refine pure_ (i:=8) (N:=some 151) (v:=?_) (a':=?_) #[true,true,true,true,true,true,true,true,true] rfl rfl (y0e HT_.out (by kernel_rfl)) (fun _ _ _ h=>h) (Or.inl ⟨by rfl,?_⟩) ?_ ?_;rotate_left
                      ·intro w'
                       go_simp
                       with_reducible rfl
                      rotate_left
                      ·simp only [Act.put,List.setIfInBounds_toArray,List.set_cons_zero,List.set_cons_succ,i64_w,i32_w]
                       rfl
                      refine done_ (done_of HT_.out (by kernel_rfl)) ?_
                      try go_wp2
                      have n0_:=As0.mk (Kd.R_drew HO_20.out);have n1_:=As0.mk (Kd.R_drew HO_21.out);have n2_:=As0.mk (y01 HB.out);clear HO_20;clear HO_21;clear HB;have HO_20:=n0_;have HO_21:=n1_;have HB:=n2_;clear n0_ n1_ n2_;have p349:0≤(x25_5:Int):=of_decide_eq_true (by first|(with_reducible assumption)|assumption);have q349:x25_5<(t336.length:Int):=of_decide_eq_true (by first|(with_reducible assumption)|assumption);obtain ⟨ad349,e349,hx349_0⟩:=Kd.at_int (Kd.R_reads' HO_20.out).2.2 x25_5 p349 q349;obtain rfl:ad347=ad349:=(by injection e349)
                      replace p349:=eq_true p349;replace q349:=eq_true q349;have p350:0≤(x25_5:Int):=of_decide_eq_true (by first|(with_reducible assumption)|assumption);have q350:x25_5<(t340.length:Int):=of_decide_eq_true (by first|(with_reducible assumption)|assumption);obtain ⟨ad350,e350,hx350_0⟩:=Kd.at_int (Kd.R_reads' HO_21.out).2.2 x25_5 p350 q350;obtain rfl:ad348=ad350:=(by injection e350)
                      replace p350:=eq_true p350;replace q350:=eq_true q350;refine start_ (n:=17) (S:=fun w'=>w'.cell? (ad347.add (x25_5).toNat)=some (.int .i64 (rd t336 x25_5))∧w'.cell? (ad348.add (x25_5).toNat)=some (.int .i64 (rd t340 x25_5))) (ds:=[]) #[false,false,false,false,false,false,false,false,false,false,false,false,false,false,false,false,false] (by kernel_rfl) rfl rfl ⟨hx349_0,hx350_0⟩ (fun hHeld=>?_);refine with_tabW w6_MobsRanked.tab29 w6_MobsRanked.bits29 (fun HT_ HW_=>?_);generalize w59.drew=w61 at HO_20 HO_21 HB hx349_0 hx350_0 hHeld ⊢;refine pure_ (i:=0) (N:=some 152) (v:=?_) (a':=?_) #[true,false,false,false,false,false,false,false,false,false,false,false,false,false,false,false,false] rfl rfl (y0e HT_.out (by kernel_rfl)) (fun _ _ _ h=>h) (Or.inl ⟨by rfl,?_⟩) ?_ ?_;rotate_left
                      ·intro w'
                       go_simp
                       with_reducible rfl
                      rotate_left
                      ·simp only [Act.put,List.setIfInBounds_toArray,List.set_cons_zero,List.set_cons_succ,i64_w,i32_w]
                       rfl
                      refine pure_ (i:=1) (N:=some 153) (v:=?_) (a':=?_) #[true,true,false,false,false,false,false,false,false,false,false,false,false,false,false,false,false] rfl rfl (y0e HT_.out (by kernel_rfl)) (fun _ _ _ h=>h) (Or.inl ⟨by rfl,?_⟩) ?_ ?_;rotate_left
                      ·intro w'
                       go_simp
                       with_reducible rfl
                      rotate_left
                      ·simp only [Act.put,List.setIfInBounds_toArray,List.set_cons_zero,List.set_cons_succ,i64_w,i32_w]
                       rfl
                      refine pure_ (i:=2) (N:=some 154) (v:=?_) (a':=?_) #[true,true,true,false,false,false,false,false,false,false,false,false,false,false,false,false,false] rfl rfl (y0e HT_.out (by kernel_rfl)) (fun _ _ _ h=>h) (Or.inl ⟨by rfl,?_⟩) ?_ ?_;rotate_left
                      ·intro w'
                       go_simp
                       with_reducible rfl
                      rotate_left
                      ·simp only [Act.put,List.setIfInBounds_toArray,List.set_cons_zero,List.set_cons_succ,i64_w,i32_w]
                       rfl
                      refine pure_ (i:=4) (N:=some 156) (v:=?_) (a':=?_) #[true,true,true,false,true,false,false,false,false,false,false,false,false,false,false,false,false] rfl rfl (y0e HT_.out (by kernel_rfl)) (fun _ _ _ h=>h) (Or.inl ⟨by rfl,?_⟩) ?_ ?_;rotate_left
                      ·intro w'
                       go_simp
                       with_reducible rfl
                      rotate_left
                      ·simp only [Act.put,List.setIfInBounds_toArray,List.set_cons_zero,List.set_cons_succ,i64_w,i32_w]
                       rfl
                      refine pure_ (i:=5) (N:=some 157) (v:=?_) (a':=?_) #[true,true,true,false,true,true,false,false,false,false,false,false,false,false,false,false,false] rfl rfl (y0e HT_.out (by kernel_rfl)) (fun _ _ _ h=>h) (Or.inl ⟨by rfl,?_⟩) ?_ ?_;rotate_left
                      ·intro w'
                       go_simp
                       with_reducible rfl
                      rotate_left
                      ·simp only [Act.put,List.setIfInBounds_toArray,List.set_cons_zero,List.set_cons_succ,i64_w,i32_w]
                       rfl
                      refine pure_ (i:=6) (N:=some 158) (v:=?_) (a':=?_) #[true,true,true,false,true,true,true,false,false,false,false,false,false,false,false,false,false] rfl rfl (y0e HT_.out (by kernel_rfl)) (fun _ _ _ h=>h) (Or.inl ⟨by rfl,?_⟩) ?_ ?_;rotate_left
                      ·intro w'
                       go_simp
                       with_reducible rfl
                      rotate_left
                      ·simp only [Act.put,List.setIfInBounds_toArray,List.set_cons_zero,List.set_cons_succ,i64_w,i32_w]
                       rfl
                      refine pure_ (i:=9) (N:=some 161) (v:=?_) (a':=?_) #[true,true,true,false,true,true,true,false,false,true,false,false,false,false,false,false,false] rfl rfl (y0e HT_.out (by kernel_rfl)) (fun _ _ _ h=>h) (Or.inl ⟨by rfl,?_⟩) ?_ ?_;rotate_left
                      ·intro w'
                       go_simp
                       with_reducible rfl
                      rotate_left
                      ·simp only [Act.put,List.setIfInBounds_toArray,List.set_cons_zero,List.set_cons_succ,i64_w,i32_w]
                       rfl
                      refine pure_ (i:=10) (N:=some 162) (v:=?_) (a':=?_) #[true,true,true,false,true,true,true,false,false,true,true,false,false,false,false,false,false] rfl rfl (y0e HT_.out (by kernel_rfl)) (fun _ _ _ h=>h) (Or.inl ⟨by rfl,?_⟩) ?_ ?_;rotate_left
                      ·intro w'
                       go_simp
                       with_reducible rfl
                      rotate_left
                      ·simp only [Act.put,List.setIfInBounds_toArray,List.set_cons_zero,List.set_cons_succ,i64_w,i32_w]
                       rfl
                      refine pure_ (i:=11) (N:=some 163) (v:=?_) (a':=?_) #[true,true,true,false,true,true,true,false,false,true,true,true,false,false,false,false,false] rfl rfl (y0e HT_.out (by kernel_rfl)) (fun _ _ _ h=>h) (Or.inl ⟨by rfl,?_⟩) ?_ ?_;rotate_left
                      ·intro w'
                       go_simp
                       with_reducible rfl
                      rotate_left
                      ·simp only [Act.put,List.setIfInBounds_toArray,List.set_cons_zero,List.set_cons_succ,i64_w,i32_w]
                       rfl
                      refine take_ (i:=3) (N:=some 155) (v:=?_) (a':=?_) #[true,true,true,true,true,true,true,false,false,true,true,true,false,false,false,false,false] rfl rfl (take_ofW HT_.out HW_.out (by kernel_rfl)) (fun _ _ _ h=>h) (Or.inl ⟨by rfl,?_⟩) hHeld ?_ ?_;rotate_left
                      ·rintro w' ⟨s0,s1⟩
                       go_simp
                       with_reducible rfl
                      rotate_left
                      ·simp only [Act.put,List.setIfInBounds_toArray,List.set_cons_zero,List.set_cons_succ,i64_w,i32_w]
                       rfl
                      refine take_ (i:=7) (N:=some 159) (v:=?_) (a':=?_) #[true,true,true,true,true,true,true,true,false,true,true,true,false,false,false,false,false] rfl rfl (take_ofW HT_.out HW_.out (by kernel_rfl)) (fun _ _ _ h=>h) (Or.inl ⟨by rfl,?_⟩) hHeld ?_ ?_;rotate_left
                      ·rintro w' ⟨s0,s1⟩
                       go_simp
                       with_reducible rfl
                      rotate_left
                      ·simp only [Act.put,List.setIfInBounds_toArray,List.set_cons_zero,List.set_cons_succ,i64_w,i32_w]
                       rfl
                      refine pure_ (i:=8) (N:=some 160) (v:=?_) (a':=?_) #[true,true,true,true,true,true,true,true,true,true,true,true,false,false,false,false,false] rfl rfl (y0e HT_.out (by kernel_rfl)) (fun _ _ _ h=>h) (Or.inl ⟨by rfl,?_⟩) ?_ ?_;rotate_left
                      ·intro w'
                       go_simp
                       with_reducible rfl
                      rotate_left
                      ·simp only [Act.put,List.setIfInBounds_toArray,List.set_cons_zero,List.set_cons_succ,i64_w,i32_w]
                       rfl
                      refine pure_ (i:=12) (N:=some 164) (v:=?_) (a':=?_) #[true,true,true,true,true,true,true,true,true,true,true,true,true,false,false,false,false] rfl rfl (y0e HT_.out (by kernel_rfl)) (fun _ _ _ h=>h) (Or.inl ⟨by rfl,?_⟩) ?_ ?_;rotate_left
                      ·intro w'
                       go_simp
                       with_reducible rfl
                      rotate_left
                      ·simp only [Act.put,List.setIfInBounds_toArray,List.set_cons_zero,List.set_cons_succ,i64_w,i32_w]
                       rfl
                      refine pure_ (i:=13) (N:=some 165) (v:=?_) (a':=?_) #[true,true,true,true,true,true,true,true,true,true,true,true,true,true,false,false,false] rfl rfl (y0e HT_.out (by kernel_rfl)) (fun _ _ _ h=>h) (Or.inl ⟨by rfl,?_⟩) ?_ ?_;rotate_left
                      ·intro w'
                       go_simp
                       with_reducible rfl
                      rotate_left
                      ·simp only [Act.put,List.setIfInBounds_toArray,List.set_cons_zero,List.set_cons_succ,i64_w,i32_w]
                       rfl
                      refine one_ (i:=14) (N:=some 166) #[true,true,true,true,true,true,true,true,true,true,true,true,true,true,true,false,false] rfl rfl (one_of HT_.out (by kernel_rfl)) (by decide) (fun K hK=>?_);refine goes_ Tra.func20 (by kernel_rfl) rfl #[] (by rfl) rfl rfl (by (try simp only [List.map_toArray,List.map_cons,List.map_nil]);first|done|rfl|(simp only [List.length_drop,List.length_take];rfl)) ?_
                      with_reducible refine (w6_alive.calls  t351 _ A58.out).mono ?_
                      rintro e w62 ⟨rfl,hb⟩
                      have HS0_:=(hb.cell (World.block_lt_of_cell? _ _ (hHeld.1))).trans (hHeld.1);have HS1_:=(hb.cell (World.block_lt_of_cell? _ _ (hHeld.2))).trans (hHeld.2);refine ⟨_,rfl,?_⟩;have n0_:=As0.mk (Kd.R_below (by (with_reducible repeat (first|apply Kd.R_alloc|apply Kd.R_drewN|apply Kd.R_drew));exact HO_20.out) hb);have n1_:=As0.mk (Kd.R_below (by (with_reducible repeat (first|apply Kd.R_alloc|apply Kd.R_drewN|apply Kd.R_drew));exact HO_21.out) hb);have n2_:=As0.mk (y08 (by repeat (first|(with_reducible first|exact HB.out|apply y02|apply y00|apply y01)|exact HB.out)) hb);clear HO_20;clear HO_21;clear HB;have HO_20:=n0_;have HO_21:=n1_;have HB:=n2_;clear n0_ n1_ n2_
                      (try clear hb)
                      (try clear hb2)
                      (try clear hk)
                      (try clear hi)
                      refine hK.out _ _ ⟨HS0_,HS1_⟩ (fun hHeld=>?_);clear hK K;refine norm_ (a':=?_) ?_ ?_;rotate_left
                      ·show Act.put _ (some 166) _=_
                       simp only [Act.put,List.setIfInBounds_toArray,List.set_cons_zero,List.set_cons_succ,i64_w,i32_w];rfl
                      refine pure_ (i:=15) (N:=some 167) (v:=?_) (a':=?_) #[true,true,true,true,true,true,true,true,true,true,true,true,true,true,true,true,false] rfl rfl (y0e HT_.out (by kernel_rfl)) (fun _ _ _ h=>h) (Or.inl ⟨by rfl,?_⟩) ?_ ?_;rotate_left
                      ·intro w'
                       go_simp
                       with_reducible rfl
                      rotate_left
                      ·simp only [Act.put,List.setIfInBounds_toArray,List.set_cons_zero,List.set_cons_succ,i64_w,i32_w]
                       rfl
                      refine pure_ (i:=16) (N:=some 8) (v:=?_) (a':=?_) #[true,true,true,true,true,true,true,true,true,true,true,true,true,true,true,true,true] rfl rfl (y0e HT_.out (by kernel_rfl)) (fun _ _ _ h=>h) (Or.inl ⟨by rfl,?_⟩) ?_ ?_;rotate_left
                      ·intro w'
                       go_simp
                       with_reducible rfl
                      rotate_left
                      ·simp only [Act.put,List.setIfInBounds_toArray,List.set_cons_zero,List.set_cons_succ,i64_w,i32_w]
                       rfl
                      refine done_ (done_of HT_.out (by kernel_rfl)) ?_
                      try go_wp2
                      go_ret
                      exact ⟨by first|rfl|(simp [y07,y06]<;>rfl)|(simp [*,y07,y06]<;>rfl),by repeat (first|(with_reducible first|exact HB.out|apply y02|apply y00|apply y01)|exact HB.out)⟩
                     ·rw [if_neg c57] at H
                      have c57b0:((decide ((rd t336 x25_5)<(rd t340 x25_5))) == (decide ((Int.tmod (wrap64 (a2)) x14_2)<(Int.tmod (wrap64 (a3)) x14_2))))=false:=by simpa using c57
                      (try (have c57b1:decide ((decide ((rd t336 x25_5)<(rd t340 x25_5)))=(decide ((Int.tmod (wrap64 (a2)) x14_2)<(Int.tmod (wrap64 (a3)) x14_2))))=false:=by simpa using c57))
                      (try (have c57b2:((decide ((rd t336 x25_5)<(rd t340 x25_5))) == (decide ((Int.tmod (wrap64 (a2)) x14_2)<(Int.tmod (wrap64 (a3)) x14_2))))=false:=by simpa using c57))
                      (try (have c57b3:¬ ((decide ((rd t336 x25_5)<(rd t340 x25_5)))=(decide ((Int.tmod (wrap64 (a2)) x14_2)<(Int.tmod (wrap64 (a3)) x14_2)))):=by simpa using c57))
                      clear c57;obtain rfl:=Option.some.inj H
                      try go_wp2
                      have n0_:=As0.mk (Kd.R_drew HO_20.out);have n1_:=As0.mk (Kd.R_drew HO_21.out);have n2_:=As0.mk (y01 HB.out);clear HO_20;clear HO_21;clear HB;have HO_20:=n0_;have HO_21:=n1_;have HB:=n2_;clear n0_ n1_ n2_;have p347:0≤(x25_5:Int):=of_decide_eq_true (by first|(with_reducible assumption)|assumption);have q347:x25_5<(t336.length:Int):=of_decide_eq_true (by first|(with_reducible assumption)|assumption);obtain ⟨ad347,e347,hx347_0⟩:=Kd.at_int (Kd.R_reads' HO_20.out).2.2 x25_5 p347 q347;cases e347
                      replace p347:=eq_true p347;replace q347:=eq_true q347;obtain ⟨Ao64,co64,eo64⟩:=Kd.R_slice HO_21.out
                      (first|subst eo64|(injection eo64 with f1_ f2_ f3_;have f4_:=f1_.symm;have f5_:=f3_.symm;clear f1_ f2_ f3_;subst f4_;subst f5_))
                      have p348:0≤(x25_5:Int):=of_decide_eq_true (by first|(with_reducible assumption)|assumption);have q348:x25_5<(t340.length:Int):=of_decide_eq_true (by first|(with_reducible assumption)|assumption);obtain ⟨ad348,e348,hx348_0⟩:=Kd.at_int (Kd.R_reads' HO_21.out).2.2 x25_5 p348 q348;cases e348
                      replace p348:=eq_true p348;replace q348:=eq_true q348;refine start_ (n:=9) (S:=fun w'=>w'.cell? (ad347.add (x25_5).toNat)=some (.int .i64 (rd t336 x25_5))∧w'.cell? (ad348.add (x25_5).toNat)=some (.int .i64 (rd t340 x25_5))) (ds:=[]) #[false,false,false,false,false,false,false,false,false] (by kernel_rfl) rfl rfl ⟨hx347_0,hx348_0⟩ (fun hHeld=>?_);refine with_tabW w6_MobsRanked.tab28 w6_MobsRanked.bits28 (fun HT_ HW_=>?_);generalize wr.drew=w63 at HO_20 HO_21 HB hx347_0 hx348_0 hHeld ⊢;refine pure_ (i:=0) (N:=some 143) (v:=?_) (a':=?_) #[true,false,false,false,false,false,false,false,false] rfl rfl (y0e HT_.out (by kernel_rfl)) (fun _ _ _ h=>h) (Or.inl ⟨by rfl,?_⟩) ?_ ?_;rotate_left
                      ·intro w'
                       go_simp
                       with_reducible rfl
                      rotate_left
                      ·simp only [Act.put,List.setIfInBounds_toArray,List.set_cons_zero,List.set_cons_succ,i64_w,i32_w]
                       rfl
                      refine pure_ (i:=1) (N:=some 144) (v:=?_) (a':=?_) #[true,true,false,false,false,false,false,false,false] rfl rfl (y0e HT_.out (by kernel_rfl)) (fun _ _ _ h=>h) (Or.inl ⟨by rfl,?_⟩) ?_ ?_;rotate_left
                      ·intro w'
                       go_simp
                       with_reducible rfl
                      rotate_left
                      ·simp only [Act.put,List.setIfInBounds_toArray,List.set_cons_zero,List.set_cons_succ,i64_w,i32_w]
                       rfl
                      refine pure_ (i:=2) (N:=some 145) (v:=?_) (a':=?_) #[true,true,true,false,false,false,false,false,false] rfl rfl (y0e HT_.out (by kernel_rfl)) (fun _ _ _ h=>h) (Or.inl ⟨by rfl,?_⟩) ?_ ?_;rotate_left
                      ·intro w'
                       go_simp
                       with_reducible rfl
                      rotate_left
                      ·simp only [Act.put,List.setIfInBounds_toArray,List.set_cons_zero,List.set_cons_succ,i64_w,i32_w]
                       rfl
                      refine pure_ (i:=4) (N:=some 147) (v:=?_) (a':=?_) #[true,true,true,false,true,false,false,false,false] rfl rfl (y0e HT_.out (by kernel_rfl)) (fun _ _ _ h=>h) (Or.inl ⟨by rfl,?_⟩) ?_ ?_;rotate_left
                      ·intro w'
                       go_simp
                       with_reducible rfl
                      rotate_left
                      ·simp only [Act.put,List.setIfInBounds_toArray,List.set_cons_zero,List.set_cons_succ,i64_w,i32_w]
                       rfl
                      refine pure_ (i:=5) (N:=some 148) (v:=?_) (a':=?_) #[true,true,true,false,true,true,false,false,false] rfl rfl (y0e HT_.out (by kernel_rfl)) (fun _ _ _ h=>h) (Or.inl ⟨by rfl,?_⟩) ?_ ?_;rotate_left
                      ·intro w'
                       go_simp
                       with_reducible rfl
                      rotate_left
                      ·simp only [Act.put,List.setIfInBounds_toArray,List.set_cons_zero,List.set_cons_succ,i64_w,i32_w]
                       rfl
                      refine pure_ (i:=6) (N:=some 149) (v:=?_) (a':=?_) #[true,true,true,false,true,true,true,false,false] rfl rfl (y0e HT_.out (by kernel_rfl)) (fun _ _ _ h=>h) (Or.inl ⟨by rfl,?_⟩) ?_ ?_;rotate_left
                      ·intro w'
                       go_simp
                       with_reducible rfl
                      rotate_left
                      ·simp only [Act.put,List.setIfInBounds_toArray,List.set_cons_zero,List.set_cons_succ,i64_w,i32_w]
                       rfl
                      refine take_ (i:=3) (N:=some 146) (v:=?_) (a':=?_) #[true,true,true,true,true,true,true,false,false] rfl rfl (take_ofW HT_.out HW_.out (by kernel_rfl)) (fun _ _ _ h=>h) (Or.inl ⟨by rfl,?_⟩) hHeld ?_ ?_;rotate_left
                      ·rintro w' ⟨s0,s1⟩
                       go_simp
                       with_reducible rfl
                      rotate_left
                      ·simp only [Act.put,List.setIfInBounds_toArray,List.set_cons_zero,List.set_cons_succ,i64_w,i32_w]
                       rfl
                      refine take_ (i:=7) (N:=some 150) (v:=?_) (a':=?_) #[true,true,true,true,true,true,true,true,false] rfl rfl (take_ofW HT_.out HW_.out (by kernel_rfl)) (fun _ _ _ h=>h) (Or.inl ⟨by rfl,?_⟩) hHeld ?_ ?_;rotate_left
                      ·rintro w' ⟨s0,s1⟩
                       go_simp
                       with_reducible rfl
                      rotate_left
                      ·simp only [Act.put,List.setIfInBounds_toArray,List.set_cons_zero,List.set_cons_succ,i64_w,i32_w]
                       rfl
                      refine pure_ (i:=8) (N:=some 151) (v:=?_) (a':=?_) #[true,true,true,true,true,true,true,true,true] rfl rfl (y0e HT_.out (by kernel_rfl)) (fun _ _ _ h=>h) (Or.inl ⟨by rfl,?_⟩) ?_ ?_;rotate_left
                      ·intro w'
                       go_simp
                       with_reducible rfl
                      rotate_left
                      ·simp only [Act.put,List.setIfInBounds_toArray,List.set_cons_zero,List.set_cons_succ,i64_w,i32_w]
                       rfl
                      refine done_ (done_of HT_.out (by kernel_rfl)) ?_
                      try go_wp2
                      have n0_:=As0.mk (Kd.R_drew HO_20.out);have n1_:=As0.mk (Kd.R_drew HO_21.out);have n2_:=As0.mk (y01 HB.out);clear HO_20;clear HO_21;clear HB;have HO_20:=n0_;have HO_21:=n1_;have HB:=n2_;clear n0_ n1_ n2_;have p349:0≤(x25_5:Int):=of_decide_eq_true (by first|(with_reducible assumption)|assumption);have q349:x25_5<(t336.length:Int):=of_decide_eq_true (by first|(with_reducible assumption)|assumption);obtain ⟨ad349,e349,hx349_0⟩:=Kd.at_int (Kd.R_reads' HO_20.out).2.2 x25_5 p349 q349;obtain rfl:ad347=ad349:=(by injection e349)
                      replace p349:=eq_true p349;replace q349:=eq_true q349;have p350:0≤(x25_5:Int):=of_decide_eq_true (by first|(with_reducible assumption)|assumption);have q350:x25_5<(t340.length:Int):=of_decide_eq_true (by first|(with_reducible assumption)|assumption);obtain ⟨ad350,e350,hx350_0⟩:=Kd.at_int (Kd.R_reads' HO_21.out).2.2 x25_5 p350 q350;obtain rfl:ad348=ad350:=(by injection e350)
                      replace p350:=eq_true p350;replace q350:=eq_true q350;refine start_ (n:=17) (S:=fun w'=>w'.cell? (ad347.add (x25_5).toNat)=some (.int .i64 (rd t336 x25_5))∧w'.cell? (ad348.add (x25_5).toNat)=some (.int .i64 (rd t340 x25_5))) (ds:=[]) #[false,false,false,false,false,false,false,false,false,false,false,false,false,false,false,false,false] (by kernel_rfl) rfl rfl ⟨hx349_0,hx350_0⟩ (fun hHeld=>?_);refine with_tabW w6_MobsRanked.tab29 w6_MobsRanked.bits29 (fun HT_ HW_=>?_);generalize w63.drew=w65 at HO_20 HO_21 HB hx349_0 hx350_0 hHeld ⊢;refine pure_ (i:=0) (N:=some 152) (v:=?_) (a':=?_) #[true,false,false,false,false,false,false,false,false,false,false,false,false,false,false,false,false] rfl rfl (y0e HT_.out (by kernel_rfl)) (fun _ _ _ h=>h) (Or.inl ⟨by rfl,?_⟩) ?_ ?_;rotate_left
                      ·intro w'
                       go_simp
                       with_reducible rfl
                      rotate_left
                      ·simp only [Act.put,List.setIfInBounds_toArray,List.set_cons_zero,List.set_cons_succ,i64_w,i32_w]
                       rfl
                      refine pure_ (i:=1) (N:=some 153) (v:=?_) (a':=?_) #[true,true,false,false,false,false,false,false,false,false,false,false,false,false,false,false,false] rfl rfl (y0e HT_.out (by kernel_rfl)) (fun _ _ _ h=>h) (Or.inl ⟨by rfl,?_⟩) ?_ ?_;rotate_left
                      ·intro w'
                       go_simp
                       with_reducible rfl
                      rotate_left
                      ·simp only [Act.put,List.setIfInBounds_toArray,List.set_cons_zero,List.set_cons_succ,i64_w,i32_w]
                       rfl
                      refine pure_ (i:=2) (N:=some 154) (v:=?_) (a':=?_) #[true,true,true,false,false,false,false,false,false,false,false,false,false,false,false,false,false] rfl rfl (y0e HT_.out (by kernel_rfl)) (fun _ _ _ h=>h) (Or.inl ⟨by rfl,?_⟩) ?_ ?_;rotate_left
                      ·intro w'
                       go_simp
                       with_reducible rfl
                      rotate_left
                      ·simp only [Act.put,List.setIfInBounds_toArray,List.set_cons_zero,List.set_cons_succ,i64_w,i32_w]
                       rfl
                      refine pure_ (i:=4) (N:=some 156) (v:=?_) (a':=?_) #[true,true,true,false,true,false,false,false,false,false,false,false,false,false,false,false,false] rfl rfl (y0e HT_.out (by kernel_rfl)) (fun _ _ _ h=>h) (Or.inl ⟨by rfl,?_⟩) ?_ ?_;rotate_left
                      ·intro w'
                       go_simp
                       with_reducible rfl
                      rotate_left
                      ·simp only [Act.put,List.setIfInBounds_toArray,List.set_cons_zero,List.set_cons_succ,i64_w,i32_w]
                       rfl
                      refine pure_ (i:=5) (N:=some 157) (v:=?_) (a':=?_) #[true,true,true,false,true,true,false,false,false,false,false,false,false,false,false,false,false] rfl rfl (y0e HT_.out (by kernel_rfl)) (fun _ _ _ h=>h) (Or.inl ⟨by rfl,?_⟩) ?_ ?_;rotate_left
                      ·intro w'
                       go_simp
                       with_reducible rfl
                      rotate_left
                      ·simp only [Act.put,List.setIfInBounds_toArray,List.set_cons_zero,List.set_cons_succ,i64_w,i32_w]
                       rfl
                      refine pure_ (i:=6) (N:=some 158) (v:=?_) (a':=?_) #[true,true,true,false,true,true,true,false,false,false,false,false,false,false,false,false,false] rfl rfl (y0e HT_.out (by kernel_rfl)) (fun _ _ _ h=>h) (Or.inl ⟨by rfl,?_⟩) ?_ ?_;rotate_left
                      ·intro w'
                       go_simp
                       with_reducible rfl
                      rotate_left
                      ·simp only [Act.put,List.setIfInBounds_toArray,List.set_cons_zero,List.set_cons_succ,i64_w,i32_w]
                       rfl
                      refine pure_ (i:=9) (N:=some 161) (v:=?_) (a':=?_) #[true,true,true,false,true,true,true,false,false,true,false,false,false,false,false,false,false] rfl rfl (y0e HT_.out (by kernel_rfl)) (fun _ _ _ h=>h) (Or.inl ⟨by rfl,?_⟩) ?_ ?_;rotate_left
                      ·intro w'
                       go_simp
                       with_reducible rfl
                      rotate_left
                      ·simp only [Act.put,List.setIfInBounds_toArray,List.set_cons_zero,List.set_cons_succ,i64_w,i32_w]
                       rfl
                      refine pure_ (i:=10) (N:=some 162) (v:=?_) (a':=?_) #[true,true,true,false,true,true,true,false,false,true,true,false,false,false,false,false,false] rfl rfl (y0e HT_.out (by kernel_rfl)) (fun _ _ _ h=>h) (Or.inl ⟨by rfl,?_⟩) ?_ ?_;rotate_left
                      ·intro w'
                       go_simp
                       with_reducible rfl
                      rotate_left
                      ·simp only [Act.put,List.setIfInBounds_toArray,List.set_cons_zero,List.set_cons_succ,i64_w,i32_w]
                       rfl
                      refine pure_ (i:=11) (N:=some 163) (v:=?_) (a':=?_) #[true,true,true,false,true,true,true,false,false,true,true,true,false,false,false,false,false] rfl rfl (y0e HT_.out (by kernel_rfl)) (fun _ _ _ h=>h) (Or.inl ⟨by rfl,?_⟩) ?_ ?_;rotate_left
                      ·intro w'
                       go_simp
                       with_reducible rfl
                      rotate_left
                      ·simp only [Act.put,List.setIfInBounds_toArray,List.set_cons_zero,List.set_cons_succ,i64_w,i32_w]
                       rfl
                      refine take_ (i:=3) (N:=some 155) (v:=?_) (a':=?_) #[true,true,true,true,true,true,true,false,false,true,true,true,false,false,false,false,false] rfl rfl (take_ofW HT_.out HW_.out (by kernel_rfl)) (fun _ _ _ h=>h) (Or.inl ⟨by rfl,?_⟩) hHeld ?_ ?_;rotate_left
                      ·rintro w' ⟨s0,s1⟩
                       go_simp
                       with_reducible rfl
                      rotate_left
                      ·simp only [Act.put,List.setIfInBounds_toArray,List.set_cons_zero,List.set_cons_succ,i64_w,i32_w]
                       rfl
                      refine take_ (i:=7) (N:=some 159) (v:=?_) (a':=?_) #[true,true,true,true,true,true,true,true,false,true,true,true,false,false,false,false,false] rfl rfl (take_ofW HT_.out HW_.out (by kernel_rfl)) (fun _ _ _ h=>h) (Or.inl ⟨by rfl,?_⟩) hHeld ?_ ?_;rotate_left
                      ·rintro w' ⟨s0,s1⟩
                       go_simp
                       with_reducible rfl
                      rotate_left
                      ·simp only [Act.put,List.setIfInBounds_toArray,List.set_cons_zero,List.set_cons_succ,i64_w,i32_w]
                       rfl
                      refine pure_ (i:=8) (N:=some 160) (v:=?_) (a':=?_) #[true,true,true,true,true,true,true,true,true,true,true,true,false,false,false,false,false] rfl rfl (y0e HT_.out (by kernel_rfl)) (fun _ _ _ h=>h) (Or.inl ⟨by rfl,?_⟩) ?_ ?_;rotate_left
                      ·intro w'
                       go_simp
                       with_reducible rfl
                      rotate_left
                      ·simp only [Act.put,List.setIfInBounds_toArray,List.set_cons_zero,List.set_cons_succ,i64_w,i32_w]
                       rfl
                      refine pure_ (i:=12) (N:=some 164) (v:=?_) (a':=?_) #[true,true,true,true,true,true,true,true,true,true,true,true,true,false,false,false,false] rfl rfl (y0e HT_.out (by kernel_rfl)) (fun _ _ _ h=>h) (Or.inl ⟨by rfl,?_⟩) ?_ ?_;rotate_left
                      ·intro w'
                       go_simp
                       with_reducible rfl
                      rotate_left
                      ·simp only [Act.put,List.setIfInBounds_toArray,List.set_cons_zero,List.set_cons_succ,i64_w,i32_w]
                       rfl
                      refine pure_ (i:=13) (N:=some 165) (v:=?_) (a':=?_) #[true,true,true,true,true,true,true,true,true,true,true,true,true,true,false,false,false] rfl rfl (y0e HT_.out (by kernel_rfl)) (fun _ _ _ h=>h) (Or.inl ⟨by rfl,?_⟩) ?_ ?_;rotate_left
                      ·intro w'
                       go_simp
                       with_reducible rfl
                      rotate_left
                      ·simp only [Act.put,List.setIfInBounds_toArray,List.set_cons_zero,List.set_cons_succ,i64_w,i32_w]
                       rfl
                      refine pure_ (i:=14) (N:=some 166) (v:=undef) (a':=?_) #[true,true,true,true,true,true,true,true,true,true,true,true,true,true,true,false,false] rfl rfl (y0e HT_.out (by kernel_rfl)) (fun _ _ _ h=>h) (Or.inr ⟨by rfl,rfl⟩) ?_ ?_;rotate_left
                      ·simp only [Act.put,List.setIfInBounds_toArray,List.set_cons_zero,List.set_cons_succ,i64_w,i32_w]
                       rfl
                      refine pure_ (i:=15) (N:=some 167) (v:=?_) (a':=?_) #[true,true,true,true,true,true,true,true,true,true,true,true,true,true,true,true,false] rfl rfl (y0e HT_.out (by kernel_rfl)) (fun _ _ _ h=>h) (Or.inl ⟨by rfl,?_⟩) ?_ ?_;rotate_left
                      ·intro w'
                       go_simp
                       with_reducible rfl
                      rotate_left
                      ·simp only [Act.put,List.setIfInBounds_toArray,List.set_cons_zero,List.set_cons_succ,i64_w,i32_w]
                       rfl
                      refine pure_ (i:=16) (N:=some 8) (v:=?_) (a':=?_) #[true,true,true,true,true,true,true,true,true,true,true,true,true,true,true,true,true] rfl rfl (y0e HT_.out (by kernel_rfl)) (fun _ _ _ h=>h) (Or.inl ⟨by rfl,?_⟩) ?_ ?_;rotate_left
                      ·intro w'
                       go_simp
                       with_reducible rfl
                      rotate_left
                      ·simp only [Act.put,List.setIfInBounds_toArray,List.set_cons_zero,List.set_cons_succ,i64_w,i32_w]
                       rfl
                      refine done_ (done_of HT_.out (by kernel_rfl)) ?_
                      try go_wp2
                      go_ret
                      exact ⟨by first|rfl|(simp [y07,y06]<;>rfl)|(simp [*,y07,y06]<;>rfl),by repeat (first|(with_reducible first|exact HB.out|apply y02|apply y00|apply y01)|exact HB.out)⟩
                   ·rw [if_neg c53] at H
                    exact absurd H (by simp)
                  ·rw [if_neg c52] at H
                   exact absurd H (by simp)
                 ·rw [if_neg c51] at H
                  exact absurd H (by simp)
                ·rw [if_neg c50] at H
                 have c50b0:decide (x25_5<(wrap64 (Int.tmod a1 13)))=false:=decide_eq_false c50;clear c50
                 by_cases c66:(Int.tmod (wrap64 (a2)) x14_2)=(Int.tmod (wrap64 (a3)) x14_2)
                 ·rw [if_pos c66] at H
                  have c66b0:((Int.tmod (wrap64 (a2)) x14_2) == (Int.tmod (wrap64 (a3)) x14_2))=true:=beq_iff_eq.mpr c66;have c66b1:((Int.tmod (wrap64 (a2)) x14_2) != (Int.tmod (wrap64 (a3)) x14_2))=false:=bne_eq_false_iff_eq.mpr c66;clear c66;replace H:=Option.bind_eq_some_iff.mp H;obtain ⟨t352,A670,H⟩:=H;replace H:(some t352)=some r:=H;have A67:=As0.mk A670;clear A670;obtain rfl:=Option.some.inj H;go_wp2_with (first|(go_at_call 20;(with_reducible refine (w6_alive.calls  t352 _ A67.out).mono ?_);rintro e w68 ⟨rfl,hb⟩;have n0_:=As0.mk (Kd.R_below (by (with_reducible repeat (first|apply Kd.R_alloc|apply Kd.R_drewN|apply Kd.R_drew));exact HO_20.out) hb);have n1_:=As0.mk (Kd.R_below (by (with_reducible repeat (first|apply Kd.R_alloc|apply Kd.R_drewN|apply Kd.R_drew));exact HO_21.out) hb);have n2_:=As0.mk (y08 (by repeat (first|(with_reducible first|exact HB.out|apply y02|apply y00|apply y01)|exact HB.out)) hb);clear HO_20;clear HO_21;clear HB;have HO_20:=n0_;have HO_21:=n1_;have HB:=n2_;clear n0_ n1_ n2_;(try clear hb);(try clear hb2);(try clear hk);(try clear hi)))
                  go_ret
                  exact ⟨by first|rfl|(simp [y07,y06]<;>rfl)|(simp [*,y07,y06]<;>rfl),by repeat (first|(with_reducible first|exact HB.out|apply y02|apply y00|apply y01)|exact HB.out)⟩
                 ·rw [if_neg c66] at H
                  have c66b0:((Int.tmod (wrap64 (a2)) x14_2) == (Int.tmod (wrap64 (a3)) x14_2))=false:=beq_eq_false_iff_ne.mpr c66;have c66b1:((Int.tmod (wrap64 (a2)) x14_2) != (Int.tmod (wrap64 (a3)) x14_2))=true:=bne_iff_ne.mpr c66;obtain rfl:=Option.some.inj H;go_wp2
                  go_ret
                  exact ⟨by first|rfl|(simp [y07,y06]<;>rfl)|(simp [*,y07,y06]<;>rfl),by repeat (first|(with_reducible first|exact HB.out|apply y02|apply y00|apply y01)|exact HB.out)⟩
 ·replace c6:=Bool.eq_false_iff.mpr c6
  subst c6;have H1:((w6_alive.f).bind fun t326=>(some t326))=some r:=by rw [if_neg (show ¬ (false=true) by decide)] at H;exact H
  clear H;have H:=H1;clear H1;replace H:=Option.bind_eq_some_iff.mp H;obtain ⟨t326,A690,H⟩:=H;replace H:(some t326)=some r:=H;have A69:=As0.mk A690;clear A690;obtain rfl:=Option.some.inj H;go_enter Tra.func14,Tra.ntmps14
  go_wp2_with (first|((with_reducible refine y0c (f:=22) rfl ?_);refine y0s (some 27) rfl rfl Tra.func22 (by kernel_rfl) rfl #[.slice A0 l0.length c0,.slice none 0 0] rfl (by (try simp only [List.map_toArray,List.map_cons,List.map_nil]);first|done|rfl|(simp only [List.length_drop,List.length_take];rfl)) ?_;(refine (w6_few.calls _ _ l0 _ _ ([]:List Int) false _ ?side1 ?side2 ?side3 ?side4 A5.out).mono ?_);(case side1=>repeat (first|exact HR0.out|(with_reducible refine Kd.C_alloc ?_ _)|(with_reducible refine Kd.C_drewN ?_ _)|(with_reducible refine Kd.C_drew ?_)));(case side2=>exact HC0.out);(case side3=>exact Kd.C_nil _ _);(case side4=>exact Nat.le_refl _);rintro e w' ⟨rfl,⟨nd,rfl⟩⟩;refine ⟨_,rfl,?_⟩)|((with_reducible refine y0c (f:=20) rfl ?_);refine y0s (some 29) rfl rfl Tra.func20 (by kernel_rfl) rfl #[] rfl (by (try simp only [List.map_toArray,List.map_cons,List.map_nil]);first|done|rfl|(simp only [List.length_drop,List.length_take];rfl)) ?_;(with_reducible refine (w6_alive.calls  t326 _ A69.out).mono ?_);rintro e w70 ⟨rfl,hb⟩;refine ⟨_,rfl,?_⟩;have n0_:=As0.mk (y08 (by repeat (first|(with_reducible first|exact HB.out|apply y02|apply y00|apply y01)|exact HB.out)) hb);clear HB;have HB:=n0_;clear n0_;(try clear hb);(try clear hb2);(try clear hk);(try clear hi)))
  go_ret
  exact ⟨by first|rfl|(simp [y07,y06]<;>rfl)|(simp [*,y07,y06]<;>rfl),by repeat (first|(with_reducible first|exact HB.out|apply y02|apply y00|apply y01)|exact HB.out)⟩
def w6_MobsRanked.Pure:Prop:=∀ (l0:List Int) (a1:Int) (a2:Int) (a3:Int),l0.length≤maxLen->l0.length * 8≤140737488351232->(∀ x ∈ l0,(Lit.int .i64 x).wf=true)->(Lit.int .u8 a1).wf=true->(Lit.int .u32 a2).wf=true->(Lit.int .u32 a3).wf=true->∃ k,w6_MobsRanked.f k l0 a1 a2 a3=some true
theorem w6_MobsRanked.walk (P:w6_MobsRanked.Pure) (a0:Option Addr) (len0 cap0:Nat) (z0:List Int) (a1:Int) (a2:Int) (a3:Int) (w:World) (w0:(a0=none∧len0=0∧cap0=0∧z0=[])∨∃ x,a0=some x∧len0≤cap0∧cap0≤maxLen∧z0.length=cap0∧(∀ i,i<z0.length->w.cell? (x.add i)=some (.int .i64 (z0.getD i 0)))∧∀ n ∈ z0,(Lit.int .i64 n).wf=true) (y0:len0 * 8≤140737488351232) (w1:(Lit.int .u8 a1).wf=true) (w2:(Lit.int .u32 a2).wf=true) (w3:(Lit.int .u32 a3).wf=true) :
  Calls Tra.prog 14 #[.slice a0 len0 cap0,.int .u8 a1,.int .u32 a2,.int .u32 a3] w fun e w'=>e=.returned (.bool true)∧Below w.heap.size w w':=by
 obtain ⟨l0,rfl,hr0,hm0,hw0,hc0⟩:=ReadsInt.ofRowC w0;obtain ⟨k,h⟩:=P l0 a1 a2 a3 hm0 y0 hw0 w1 w2 w3;refine (w6_MobsRanked.calls k _ _ l0 a1 a2 a3 true w (Kd.C_of_reads (d:=(0:Int)) (h1:=fun _=>rfl) hr0) hc0 h).mono ?_
 rintro e w' ⟨rfl,hd⟩
 exact ⟨rfl,hd⟩
end Go.Proofs.Ytdhgeondbnpeoaa.P
namespace Go.Proofs.Ytdhgeondbnpeoaa.Pl
open Go.RowKit Go.Proofs.Ytdhgeondbnpeoaa.P Go.Proofs.YtdhgeondbnpeoaaW.PrintWords Go.Proofs.YtdhgeondbnpeoaaW.PrintLast
def rgs:Int->List Int->Bool
 |_,[]=>true
 |m,x :: l=>decide (0≤x) && (decide (x≤m) && rgs (if x=m then m+1 else m) l)
def isP (l:List Int):Bool:=decide (l.length≤12) && rgs 0 l
theorem w64 {x:Int} (h0:-1000000000≤x) (h1:x≤1000000000):wrap64 x=x:=by unfold wrap64;omega
theorem rd_at {l:List Int} {i:Nat} (h:i<l.length):rd l (i:Int)=l[i]:=by simp [rd,List.getD_eq_getElem?_getD,List.getElem?_eq_getElem h]
theorem ref_l (l:List Int) (hn:l.length≤12):∀ (j i k:Nat) (m:Int),i+j=l.length->2 * j+2≤k->0≤m->m≤i->r6_IsParting.l0 k l m (i:Int)=some (rgs m (l.drop i))
 |0,i,k+1,m,hi,hk,h0,h1=>by
  unfold r6_IsParting.l0;rw [if_neg (by omega),List.drop_of_length_le (by omega)];rfl
 |j+1,i,k+2,m,hi,hk,h0,h1=>by
  have hlt:i<l.length:=by omega
  unfold r6_IsParting.l0;rw [if_pos (by omega),if_pos (by omega),rd_at hlt,List.drop_eq_getElem_cons hlt];unfold rgs r6_IsParting.j1
  by_cases hx:l[i]<0
  ·rw [if_pos hx,if_pos rfl,decide_eq_false (by omega)]
   rfl
  ·rw [if_neg hx,decide_eq_true (show 0≤l[i] by omega)]
   by_cases hm:l[i] > m
   ·rw [decide_eq_true hm,if_pos rfl,decide_eq_false (by omega)]
    rfl
   ·rw [decide_eq_false hm,if_neg (by decide),if_pos (by omega),if_pos (by omega),rd_at hlt,decide_eq_true (show l[i]≤m by omega)]
    simp only [Bool.true_and]
    by_cases he:l[i]=m
    ·rw [if_pos he,if_pos he,w64 (by omega) (by omega),w64 (by omega) (by omega)]
     exact ref_l l hn j (i+1) k (m+1) (by omega) (by omega) (by omega) (by omega)
    ·rw [if_neg he,if_neg he,w64 (x:=(i:Int)+1) (by omega) (by omega)]
     exact ref_l l hn j (i+1) k m (by omega) (by omega) (by omega) (by omega)
theorem ref_isP (l:List Int) {k:Nat} (hk:30≤k):r6_IsParting.f k l=some (isP l):=by
 unfold r6_IsParting.f isP
 by_cases h:l.length≤12
 ·have h1:r6_IsParting.l0 k l 0 0=_:=ref_l l h l.length 0 k 0 (by omega) (by omega) (by omega) (by omega)
  rw [if_neg (by omega),decide_eq_true h,h1];rfl
 ·rw [if_pos (by omega),decide_eq_false h]
  rfl
theorem mobs_l (l:List Int) (hn:l.length≤12):∀ (j i k:Nat) (m:Int),i+j=l.length->j+1≤k->0≤m->m≤i->mobs_IsParting.l0 k m l (l.length:Int) (i:Int)=some (rgs m (l.drop i))
 |0,i,k+1,m,hi,hk,h0,h1=>by
  unfold mobs_IsParting.l0;rw [if_neg (by omega),List.drop_of_length_le (by omega)];rfl
 |j+1,i,k+1,m,hi,hk,h0,h1=>by
  have hlt:i<l.length:=by omega
  unfold mobs_IsParting.l0;rw [if_pos (by omega),if_pos (by omega),if_pos (by omega),rd_at hlt,List.drop_eq_getElem_cons hlt];unfold rgs
  by_cases hx:l[i]<0
  ·rw [if_pos hx,decide_eq_false (by omega)]
   rfl
  ·rw [if_neg hx,decide_eq_true (show 0≤l[i] by omega)]
   by_cases hm:l[i] > m
   ·rw [if_pos hm,decide_eq_false (by omega)]
    rfl
   ·rw [if_neg hm,decide_eq_true (show l[i]≤m by omega),w64 (x:=l[i]+1) (by omega) (by omega),w64 (x:=(i:Int)+1) (by omega) (by omega)]
    simp only [Bool.true_and];have e:mx m (l[i]+1)=if l[i]=m then m+1 else m:=by
     unfold mx;split<;>split<;>omega
    rw [e];split
    ·exact mobs_l l hn j (i+1) k (m+1) (by omega) (by omega) (by omega) (by omega)
    ·exact mobs_l l hn j (i+1) k m (by omega) (by omega) (by omega) (by omega)
theorem mobs_isP (l:List Int) {k:Nat} (hk:20≤k):mobs_IsParting.f k l=some (isP l):=by
 unfold mobs_IsParting.f isP
 by_cases h:l.length≤12
 ·have h1:mobs_IsParting.l0 k 0 l (l.length:Int) 0=_:=mobs_l l h l.length 0 k 0 (by omega) (by omega) (by omega) (by omega)
  rw [if_neg (by omega),decide_eq_true h,h1];rfl
 ·rw [if_pos (by omega),decide_eq_false h]
  rfl
theorem isP_len {l:List Int} (h:isP l=true):l.length≤12:=by
 simp only [isP,Bool.and_eq_true,decide_eq_true_eq] at h;exact h.1
open Classical in
open Classical in
open Classical in
open Classical in
theorem same_l (a b:List Int) (hl:a.length=b.length) (hn:a.length≤40):∀ (d i k:Nat),i+d=a.length->d+1≤k->w6_same.l0 k a b (i:Int)=some (decide (a.drop i=b.drop i))
 |0,i,k+1,hi,hk=>by
  unfold w6_same.l0;rw [if_neg (by omega),List.drop_of_length_le (by omega),List.drop_of_length_le (by omega),decide_eq_true rfl]
 |d+1,i,k+1,hi,hk=>by
  have h1:i<a.length:=by omega
  have h2:i<b.length:=by omega
  unfold w6_same.l0;rw [if_pos (by omega),if_pos (by omega),if_pos (by omega),rd_at h1,rd_at h2,List.drop_eq_getElem_cons h1,List.drop_eq_getElem_cons h2,w64 (x:=(i:Int)+1) (by omega) (by omega)]
  by_cases he:a[i]=b[i]
  ·rw [if_pos he]
   have ih:=same_l a b hl hn d (i+1) k (by omega) (by omega);rw [show ((i+1:Nat):Int)=(i:Int)+1 by omega] at ih;rw [ih]
   congr 1
   rw [Bool.eq_iff_iff,decide_eq_true_iff,decide_eq_true_iff,List.cons.injEq];exact ⟨fun h=>⟨he,h⟩,fun h=>h.2⟩
  ·rw [if_neg he]
   congr 1
   rw [eq_comm,decide_eq_false_iff_not,List.cons.injEq];exact fun h=>he h.1
theorem same_f {a b:List Int} (hn:a.length≤40) {k:Nat} (hk:50≤k):w6_same.f k a b=some (decide (a=b)):=by
 unfold w6_same.f
 by_cases hl:a.length=b.length
 ·rw [if_pos (by omega)]
  have h:=same_l a b hl hn a.length 0 k (by omega) (by omega);simpa using h
 ·rw [if_neg (by omega)]
  congr 1
  rw [eq_comm,decide_eq_false_iff_not];exact fun h=>hl (congrArg _ h)
end Go.Proofs.Ytdhgeondbnpeoaa.Pl
namespace Go.Proofs.Ytdhgeondbnpeoaa.Pl
open Go.RowKit Go.Proofs.Ytdhgeondbnpeoaa.P Go.Proofs.YtdhgeondbnpeoaaW.PrintWords Go.Proofs.YtdhgeondbnpeoaaW.PrintLast
def TB (t:List (List Int)) (left m:Nat):Int:=(t.getD left []).getD m 0
def nx (m x:Int):Int:=if x=m then m+1 else m
def st (m:Int) (l:List Int):Int:=l.foldl nx m
theorem mx_nx {m x:Int} (h:x≤m):mx m (x+1)=nx m x:=by
 unfold mx nx;split<;>split<;>omega
theorem nx_bd {m x:Int}:m≤nx m x∧nx m x≤m+1:=by
 unfold nx;split<;>omega
theorem rgs_split:∀ (l:List Int) (m:Int) (i:Nat),rgs m l=true->0≤m->rgs m (l.take i)=true∧rgs (st m (l.take i)) (l.drop i)=true∧m≤st m (l.take i)∧st m (l.take i)≤m+i
 |l,m,0,h,_=>by simp [st,rgs,h]
 |[],m,i+1,h,_=>by simp [st,rgs];omega
 |x :: l,m,i+1,h,h0=>by
  simp only [rgs,Bool.and_eq_true,decide_eq_true_eq] at h;obtain ⟨h1,h2,h3⟩:=h;have hb:=@nx_bd m x;have h3':rgs (nx m x) l=true:=h3;obtain ⟨a1,a2,a3,a4⟩:=rgs_split l (nx m x) i h3' (by omega);refine ⟨?_,a2,?_,?_⟩
  ·simp only [List.take_succ_cons,rgs,Bool.and_eq_true,decide_eq_true_eq]
   exact ⟨h1,h2,a1⟩
  ·show m≤st (nx m x) (l.take i)
   omega
  ·show st (nx m x) (l.take i)≤_
   omega
theorem st_snoc {l:List Int} {i:Nat} (h:i<l.length) (m:Int):st m (l.take (i+1))=nx (st m (l.take i)) l[i]:=by
 unfold st;rw [List.take_succ_eq_append_getElem h,List.foldl_append];rfl
theorem read_one (l:List Int) {k:Nat} (hk:30≤k):mobs_read.f k [l]=some (if l.length≤12 then (if isP l=true then 0 else 2) else 3):=by
 obtain ⟨k,rfl⟩:∃ j,k=j+2:=⟨k - 2,by omega⟩
 have e0:rd_L1 [l] 0=l:=rfl;have w1:wrap64 (0+1)=1:=by rw [w64 (by omega) (by omega)];rfl
 unfold mobs_read.f;simp only [List.length_cons,List.length_nil];unfold mobs_read.l0;rw [if_pos (by decide),if_pos (by decide),if_pos (by simp),e0]
 by_cases hl:l.length≤12
 ·rw [if_neg (by omega),if_pos hl,mobs_isP l (by omega)]
  simp only [Option.bind_some]
  by_cases hp:isP l=true
  ·rw [if_pos hp,if_pos hp,w1]
   unfold mobs_read.l0;rw [if_neg (by decide),if_neg (by simp)]
  ·rw [if_neg hp,if_neg hp]
 ·rw [if_pos (by omega),if_neg hl]
section
variable {n:Nat} {one r q have_:Int}
theorem at_l1 (hone:1≤one) (ho2:one≤4213597) (hr0:0≤r) (hr1:r≤4213597) (hh0:0≤have_) (hh1:have_≤12) (hq:q=if r<have_ * one then r / one else have_) (out:List Int) (ho:out.length≤12) (i:Int):∀ (d:Nat) (x:Int) (k:Nat),0≤x->x+d=q->d+1≤k →
  mobs_At.l1 k (n:Int) (r - x * one) out have_ x one (n:Int) i=mobs_At.l0 (k - d - 1) (n:Int) (r - q * one) (out ++ [q]) (mx have_ (wrap64 (q+1))) (n:Int) (wrap64 (i+1))
 |0,x,k+1,hx0,hx,hk=>by
  have e:x=q:=by omega
  subst e;unfold mobs_At.l1
  by_cases hlt:r<have_ * one
  ·rw [if_pos hlt] at hq
   have hdiv:x * one≤r∧r<x * one+one:=by
    have h1:=Int.emod_add_mul_ediv r one;have h2:=Int.emod_nonneg r (show one≠0 by omega);have h3:=Int.emod_lt_of_pos r (show 0<one by omega);rw [← hq,Int.mul_comm] at h1;omega
   have hx2:x<have_:=by
    by_cases h:x<have_
    ·exact h
    ·have:have_ * one≤x * one:=Int.mul_le_mul_of_nonneg_right (by omega) (by omega)
     omega
   rw [if_pos hx2,if_neg (by omega),if_pos (by omega)];rfl
  ·rw [if_neg hlt] at hq
   rw [if_neg (by omega),if_pos (by omega)];rfl
 |d+1,x,k+1,hx0,hx,hk=>by
  have hq2:q≤have_∧q * one≤r:=by
   by_cases hlt:r<have_ * one
   ·rw [if_pos hlt] at hq
    have h1:=Int.emod_add_mul_ediv r one;have h2:=Int.emod_nonneg r (show one≠0 by omega);rw [← hq,Int.mul_comm] at h1;refine ⟨?_,by omega⟩
    by_cases h:q≤have_
    ·exact h
    ·have:have_ * one≤q * one:=Int.mul_le_mul_of_nonneg_right (by omega) (by omega)
     omega
   ·rw [if_neg hlt] at hq
    rw [hq];omega
  have hx3:(x+1) * one≤q * one:=Int.mul_le_mul_of_nonneg_right (by omega) (by omega);rw [Int.add_mul,Int.one_mul] at hx3;have hx4:0≤x * one:=Int.mul_nonneg hx0 (by omega);unfold mobs_At.l1;rw [if_pos (by omega),if_pos (by omega),w64 (x:=r - x * one - one) (by omega) (by omega),w64 (x:=x+1) (by omega) (by omega)];have ih:=at_l1 hone ho2 hr0 hr1 hh0 hh1 hq out ho i d (x+1) k (by omega) (by omega) (by omega);rw [Int.add_mul,Int.one_mul,show r - (x * one+one)=r - x * one - one by omega] at ih;rw [ih,show k+1 - (d+1) - 1=k - d - 1 by omega]
end
end Go.Proofs.Ytdhgeondbnpeoaa.Pl
namespace Go.Proofs.Ytdhgeondbnpeoaa.Pl
open Go.RowKit Go.Proofs.Ytdhgeondbnpeoaa.P Go.Proofs.YtdhgeondbnpeoaaW.PrintWords Go.Proofs.YtdhgeondbnpeoaaW.PrintLast
def wy:Nat->Int->Int
 |0,_=>1
 |d+1,m=>m * wy d m+wy d (m+1)
theorem wy_all:((List.range 13).all fun d=>(List.range (13 - d)).all fun m=>mobs_ways.f 300 (d:Int) (m:Int) == some (wy d (m:Int)) && decide (wy d (m:Int)≤4213597))=true:=by decide +kernel
theorem wy_f {d m k:Nat} (h:d+m≤12) (hk:300≤k):mobs_ways.f k (d:Int) (m:Int)=some (wy d (m:Int))∧wy d (m:Int)≤4213597:=by
 have h1:=List.all_eq_true.1 (List.all_eq_true.1 wy_all d (List.mem_range.2 (by omega))) m (List.mem_range.2 (by omega));simp only [Bool.and_eq_true,beq_iff_eq,decide_eq_true_eq] at h1;exact ⟨at_rounds (g:=fun k=>mobs_ways.f k (d:Int) (m:Int)) (mobs_ways.mono _ _) hk h1.1,h1.2⟩
theorem wy_pos:∀ (d:Nat) (m:Int),0≤m->1≤wy d m
 |0,_,_=>Int.le_refl _
 |d+1,m,h=>by
  have h1:=wy_pos d m h;have h2:=wy_pos d (m+1) (by omega);have h3:0≤m * wy d m:=Int.mul_nonneg h (by omega);unfold wy;omega
def rk:Int->List Int->Int
 |_,[]=>0
 |m,x :: l=>x * wy l.length m+rk (nx m x) l
theorem rk_bd:∀ (l:List Int) (m:Int),0≤m->rgs m l=true->0≤rk m l∧rk m l<wy l.length m
 |[],m,_,_=>⟨Int.le_refl _,Int.zero_lt_one⟩
 |x :: l,m,h0,h=>by
  simp only [rgs,Bool.and_eq_true,decide_eq_true_eq] at h;obtain ⟨h1,h2,h3⟩:=h;have hb:=@nx_bd m x;obtain ⟨a1,a2⟩:=rk_bd l (nx m x) (by omega) h3;have p1:=wy_pos l.length m h0;have p2:=wy_pos l.length (m+1) (by omega);have p3:0≤x * wy l.length m:=Int.mul_nonneg h1 (by omega);refine ⟨by unfold rk;omega,?_⟩;show x * wy l.length m+rk (nx m x) l<m * wy l.length m+wy l.length (m+1)
  by_cases hx:x=m
  ·rw [nx,if_pos hx] at a2 ⊢
   rw [hx];omega
  ·rw [nx,if_neg hx] at a2 ⊢
   have h4:(x+1) * wy l.length m≤m * wy l.length m:=Int.mul_le_mul_of_nonneg_right (by omega) (by omega);rw [Int.add_mul,Int.one_mul] at h4;omega
theorem rk_head {x y:Int} {l l':List Int} {m:Int} (hm:0≤m) (hx:rgs m (x :: l)=true) (hy:rgs m (y :: l')=true) (hl:l.length=l'.length) (h:x<y):rk m (x :: l)<rk m (y :: l'):=by
 simp only [rgs,Bool.and_eq_true,decide_eq_true_eq] at hx hy;obtain ⟨h1,h2,h3⟩:=hx;obtain ⟨g1,g2,g3⟩:=hy;have hb:=@nx_bd m x;have hb':=@nx_bd m y;obtain ⟨a1,a2⟩:=rk_bd l (nx m x) (by omega) h3;obtain ⟨b1,b2⟩:=rk_bd l' (nx m y) (by omega) g3;have p1:=wy_pos l.length m hm;have h4:(x+1) * wy l.length m≤y * wy l.length m:=Int.mul_le_mul_of_nonneg_right (by omega) (by omega);rw [Int.add_mul,Int.one_mul] at h4;rw [nx,if_neg (by omega)] at a1 a2;unfold rk;rw [nx,if_neg (show ¬ x=m by omega),← hl];omega
theorem rk_lex:∀ (i:Nat) (l l':List Int) (m:Int),0≤m->rgs m l=true->rgs m l'=true->l.length=l'.length->l.take i=l'.take i->i<l.length->l.getD i 0<l'.getD i 0->rk m l<rk m l'
 |0,x :: l,y :: l',m,hm,hx,hy,hl,_,_,h=>rk_head hm hx hy (by simpa using hl) h
 |i+1,x :: l,y :: l',m,hm,hx,hy,hl,ht,hi,h=>by
  simp only [List.take_succ_cons,List.cons.injEq] at ht;obtain ⟨rfl,ht⟩:=ht;have hx':=hx;have hy':=hy;simp only [rgs,Bool.and_eq_true,decide_eq_true_eq] at hx' hy';have hb:=@nx_bd m x;have ll:l.length=l'.length:=by simpa using hl
  have ih:=rk_lex i l l' (nx m x) (by omega) hx'.2.2 hy'.2.2 ll ht (by simpa using hi) (by simpa using h);unfold rk;rw [← ll];omega
 |_,[],_,_,_,_,_,_,_,hi,_=>absurd hi (by simp)
 |_,_ :: _,[],_,_,_,_,hl,_,_,_=>absurd hl (by simp)
theorem rk_inj:∀ (l l':List Int) (m:Int),0≤m->rgs m l=true->rgs m l'=true->l.length=l'.length->rk m l=rk m l'->l=l'
 |[],[],_,_,_,_,_,_=>rfl
 |[],_ :: _,_,_,_,_,hl,_=>absurd hl (by simp)
 |_ :: _,[],_,_,_,_,hl,_=>absurd hl (by simp)
 |x :: l,y :: l',m,hm,hx,hy,hl,h=>by
  have ll:l.length=l'.length:=by simpa using hl
  rcases Int.lt_trichotomy x y with h1|h1|h1
  ·have:=rk_head hm hx hy ll h1
   omega
  ·subst h1
   have hx':=hx;have hy':=hy;simp only [rgs,Bool.and_eq_true,decide_eq_true_eq] at hx' hy';have hb:=@nx_bd m x;have h2:rk (nx m x) l=rk (nx m x) l':=by
    unfold rk at h;rw [← ll] at h;omega
   rw [rk_inj l l' (nx m x) (by omega) hx'.2.2 hy'.2.2 ll h2]
  ·have:=rk_head hm hy hx ll.symm h1
   omega
def an:Nat->Int->Int->List Int
 |0,_,_=>[]
 |d+1,m,r=>(if r<m * wy d m then r / wy d m else m) :: an d (nx m (if r<m * wy d m then r / wy d m else m)) (r - (if r<m * wy d m then r / wy d m else m) * wy d m)
theorem an_q {d:Nat} {m r q:Int} (hm:0≤m) (h0:0≤r) (h1:r<wy (d+1) m) (hq:q=if r<m * wy d m then r / wy d m else m):0≤q∧q≤m∧0≤q * wy d m∧q * wy d m≤r∧r - q * wy d m<wy d (nx m q):=by
 have p1:=wy_pos d m hm;have p0:0≤m * wy d m:=Int.mul_nonneg hm (by omega);unfold wy at h1
 by_cases hlt:r<m * wy d m
 ·rw [if_pos hlt] at hq
  have h3:=Int.emod_add_mul_ediv r (wy d m);have h4:=Int.emod_nonneg r (show wy d m≠0 by omega);have h5:=Int.ediv_nonneg h0 (show 0≤wy d m by omega);have h7:=Int.emod_lt_of_pos r (show 0<wy d m by omega);rw [← hq] at h5;rw [← hq,Int.mul_comm] at h3;have h6:q<m:=by
   by_cases h:q<m
   ·exact h
   ·have:m * wy d m≤q * wy d m:=Int.mul_le_mul_of_nonneg_right (by omega) (by omega)
    omega
  rw [nx,if_neg (by omega)];exact ⟨h5,by omega,Int.mul_nonneg h5 (by omega),by omega,by omega⟩
 ·rw [if_neg hlt] at hq
  rw [nx,if_pos hq,hq];exact ⟨by omega,by omega,by omega,by omega,by omega⟩
theorem an_ok:∀ (d:Nat) (m r:Int),0≤m->0≤r->r<wy d m->(an d m r).length=d∧rgs m (an d m r)=true∧rk m (an d m r)=r
 |0,m,r,hm,h0,h1=>⟨rfl,rfl,by unfold wy at h1;show 0=r;omega⟩
 |d+1,m,r,hm,h0,h1=>by
  obtain ⟨q,hq⟩:∃ q,q=if r<m * wy d m then r / wy d m else m:=⟨_,rfl⟩
  obtain ⟨q1,q2,q3,q4,q5⟩:=an_q hm h0 h1 hq;have hb:=@nx_bd m q;obtain ⟨a1,a2,a3⟩:=an_ok d (nx m q) (r - q * wy d m) (by omega) (by omega) q5;unfold an;rw [← hq];refine ⟨by rw [List.length_cons,a1],?_,?_⟩
  ·simp only [rgs,Bool.and_eq_true,decide_eq_true_eq]
   exact ⟨q1,q2,a2⟩
  ·unfold rk
   rw [a1,a3];omega
theorem rank_w {l:List Int} (hn:l.length≤12) (hr:rgs 0 l=true):∀ (d i k:Nat) (sum:Int),i+d=l.length->d+410≤k->0≤sum->sum+rk (st 0 (l.take i)) (l.drop i)≤5000000 →
  mobs_Rank.l0 k l sum (st 0 (l.take i)) l (l.length:Int) (i:Int)=some (sum+rk (st 0 (l.take i)) (l.drop i),0)
 |0,i,k+1,sum,hi,hk,h0,h1=>by
  unfold mobs_Rank.l0;rw [if_neg (by omega),List.drop_of_length_le (by omega),rk,Int.add_zero]
 |d+1,i,k+1,sum,hi,hk,h0,h1=>by
  have hlt:i<l.length:=by omega
  obtain ⟨q1,q2,q3,q4⟩:=rgs_split l 0 i hr (Int.le_refl _);have q2':=q2;have hdl:(l.drop (i+1)).length=l.length - 1 - i:=by rw [List.length_drop];omega
  rw [List.drop_eq_getElem_cons hlt] at q2' h1 ⊢;simp only [rgs,Bool.and_eq_true,decide_eq_true_eq] at q2';obtain ⟨r1,r2,r3⟩:=q2';have el:wrap64 (wrap64 ((l.length:Int) - 1) - (i:Int))=((l.length - 1 - i:Nat):Int):=by
   rw [w64 (x:=(l.length:Int) - 1) (by omega) (by omega),w64 (by omega) (by omega)];omega
  have hst:=st_snoc hlt 0;have hb:=@nx_bd (st 0 (l.take i)) l[i];have r3':rgs (nx (st 0 (l.take i)) l[i]) (l.drop (i+1))=true:=r3;obtain ⟨b1,b2⟩:=rk_bd _ _ (by omega) r3';unfold rk at h1 ⊢;rw [← hst] at h1 ⊢ b1;rw [hdl] at h1 ⊢;obtain ⟨m,hm⟩:∃ m:Nat,st 0 (l.take i)=(m:Int):=⟨(st 0 (l.take i)).toNat,by omega⟩
  have hmi:m≤i:=by omega
  obtain ⟨hw,_⟩:=wy_f (d:=l.length - 1 - i) (m:=m) (k:=k) (by omega) (by omega);have p1:=wy_pos (l.length - 1 - i) (m:Int) (by omega);have p3:0≤l[i] * wy (l.length - 1 - i) (m:Int):=Int.mul_nonneg r1 (by omega);rw [hm] at h1 ⊢;have ih:=rank_w hn hr d (i+1) k (sum+l[i] * wy (l.length - 1 - i) (m:Int)) (by omega) (by omega) (by omega) (by omega);rw [show ((i+1:Nat):Int)=(i:Int)+1 by omega] at ih;unfold mobs_Rank.l0;rw [if_pos (by omega),if_pos (by omega),if_pos (by omega),el,hw];simp only [Option.bind_some];rw [rd_at hlt,w64 (x:=l[i]+1) (by omega) (by omega),w64 (x:=(i:Int)+1) (by omega) (by omega),w64 (x:=l[i] * wy (l.length - 1 - i) (m:Int)) (by omega) (by omega),w64 (x:=sum+l[i] * wy (l.length - 1 - i) (m:Int)) (by omega) (by omega),mx_nx (by omega),← hm,← hst,hm,ih,Int.add_assoc]
theorem Rank_f {l:List Int} (hp:isP l=true) {k:Nat} (hk:450≤k):mobs_Rank.f k l=some (rk 0 l,0):=by
 have hl:=isP_len hp;have hr:rgs 0 l=true:=by simp only [isP,Bool.and_eq_true] at hp;exact hp.2
 have hb:=rk_bd l 0 (Int.le_refl _) hr;have hw:=(wy_f (d:=l.length) (m:=0) (k:=300) (by omega) (Nat.le_refl _)).2;unfold mobs_Rank.f;rw [read_one l (by omega),if_pos hl,if_pos hp];have h:mobs_Rank.l0 k l 0 0 l (l.length:Int) 0=_:=rank_w hl hr l.length 0 k 0 (by omega) (by omega) (Int.le_refl _) (by show 0+rk 0 l≤_;simp only [Int.natCast_zero] at hw;omega);simp only [Option.bind_some,if_true];rw [h];show some (0+rk 0 l,0)=_;rw [Int.zero_add]
theorem Rank_not {l:List Int} (hp:¬ isP l=true) {k:Nat} (hk:450≤k):∃ e,mobs_Rank.f k l=some (0,e)∧e≠0:=by
 unfold mobs_Rank.f;rw [read_one l (by omega),if_neg hp]
 by_cases hl:l.length≤12
 ·rw [if_pos hl]
  exact ⟨2,rfl,by decide⟩
 ·rw [if_neg hl]
  exact ⟨3,rfl,by decide⟩
theorem at_w {n:Nat} (hn:n≤12):∀ (d i k:Nat) (r:Int) (out:List Int) (m:Nat),i+d=n->20 * d+410≤k->0≤r->r<wy d (m:Int)->m≤i->out.length=i →
  mobs_At.l0 k (n:Int) r out (m:Int) (n:Int) (i:Int)=some (out ++ an d (m:Int) r,0)
 |0,i,k+1,r,out,m,hi,hk,h0,h1,hm,ho=>by
  unfold mobs_At.l0;rw [if_neg (by omega),an,List.append_nil]
 |d+1,i,k+1,r,out,m,hi,hk,h0,h1,hm,ho=>by
  have hnd:n - 1 - i=d:=by omega
  have el:wrap64 (wrap64 ((n:Int) - 1) - (i:Int))=((d:Nat):Int):=by
   rw [w64 (x:=(n:Int) - 1) (by omega) (by omega),w64 (by omega) (by omega)];omega
  obtain ⟨hw,p2⟩:=wy_f (d:=d) (m:=m) (k:=k) (by omega) (by omega);have p1:=wy_pos d (m:Int) (by omega);obtain ⟨_,hr1⟩:=wy_f (d:=d+1) (m:=m) (k:=300) (by omega) (Nat.le_refl _);obtain ⟨q,hq⟩:∃ q,q=if r<(m:Int) * wy d (m:Int) then r / wy d (m:Int) else (m:Int):=⟨_,rfl⟩
  obtain ⟨f1,f2,f3,f4,f5⟩:=an_q (by omega) h0 h1 hq;obtain ⟨q',hq'⟩:∃ q':Nat,q=(q':Int):=⟨q.toNat,by omega⟩
  have hl1:=at_l1 (n:=n) p1 p2 h0 (by omega) (show (0:Int)≤(m:Int) by omega) (by omega) hq out (by omega) (i:Int) q' 0 k (Int.le_refl _) (by omega) (by omega);rw [Int.zero_mul,Int.sub_zero] at hl1;obtain ⟨m',hm'⟩:∃ m':Nat,m'=if q=m then m+1 else m:=⟨_,rfl⟩
  have hm2:m'≤i+1:=by rw [hm'];split<;>omega
  have e4:nx (m:Int) q=(m':Int):=by
   rw [hm',nx];split<;>omega
  have e3:mx (m:Int) (wrap64 (q+1))=(m':Int):=by
   rw [w64 (x:=q+1) (by omega) (by omega),mx_nx f2,e4]
  have ih:=at_w hn d (i+1) (k - q' - 1) (r - q * wy d (m:Int)) (out ++ [q]) m' (by omega) (by omega) (by omega) (by rw [← e4];exact f5) hm2 (by simp [ho]);rw [show ((i+1:Nat):Int)=(i:Int)+1 by omega] at ih;unfold mobs_At.l0;rw [if_pos (by omega),el,hw];simp only [Option.bind_some];rw [hl1,e3,w64 (x:=(i:Int)+1) (by omega) (by omega),ih,an,← hq,e4,List.append_assoc];rfl
theorem At_f {n:Nat} (hn:n≤12) {r:Int} (h0:0≤r) (h1:r<wy n 0) {k:Nat} (hk:800≤k):mobs_At.f k (n:Int) r=some (an n 0 r,0):=by
 obtain ⟨k,rfl⟩:∃ j,k=j+1:=⟨k - 1,by omega⟩
 have hw:=(wy_f (d:=n) (m:=0) (k:=k) (by omega) (by omega)).1;simp only [Int.natCast_zero] at hw;unfold mobs_At.f;rw [if_neg (by omega),decide_eq_false (by omega),mobs_At.j0,if_neg (show ¬ (false=true) by decide),if_neg (by omega),hw];simp only [Option.bind_some];rw [if_neg (by omega)];have h:=at_w hn n 0 k r [] 0 (by omega) (by omega) h0 h1 (Nat.le_refl _) rfl;exact h
end Go.Proofs.Ytdhgeondbnpeoaa.Pl
namespace Go.Proofs.Ytdhgeondbnpeoaa.Pure
open Go.RowKit Go.Proofs.Ytdhgeondbnpeoaa.P Go.Proofs.YtdhgeondbnpeoaaW.PrintWords Go.Proofs.YtdhgeondbnpeoaaW.PrintLast
open Go.Proofs.Ytdhgeondbnpeoaa.Pl
def cn (n i:Nat):Int:=match mobs_Count.f 400 (n:Int) (i:Int) with|some (c,_)=>c|none=>0
def ac (n i:Nat):Int:=(List.range i).foldl (fun a j=>a+cn n j) 0
theorem cn_all:((List.range 13).all fun n=>(ac n (n+1) == wy n 0) && (List.range (n+1)).all fun i=>mobs_Count.f 400 (n:Int) (i:Int) == some (cn n i,0) && (decide (0≤cn n i) && (decide (0≤ac n i) && decide (ac n i+cn n i≤5000000))))=true:=by decide +kernel
theorem ac_next (n i:Nat):ac n (i+1)=ac n i+cn n i:=by
 unfold ac;rw [List.range_succ,List.foldl_append];rfl
theorem cnt_l {n:Nat} (hn:n≤12) (x2 x3:Int):∀ (d i k:Nat),i+d=n+1->d+500≤k->w6_MobsRanked.l0 k x2 x3 (n:Int) (ac n i) (i:Int)=w6_MobsRanked.j2 (k - d - 1) x2 x3 (n:Int) (wy n 0) false
 |0,i,k+1,hi,hk=>by
  have h:=List.all_eq_true.1 cn_all n (List.mem_range.2 (by omega));simp only [Bool.and_eq_true,beq_iff_eq] at h;have p1:=wy_pos n 0 (Int.le_refl _);have p2:=(wy_f (d:=n) (m:=0) (k:=300) (by omega) (Nat.le_refl _)).2;simp only [Int.natCast_zero] at p2;have e:i=n+1:=by omega
  rw [e];unfold w6_MobsRanked.l0;rw [if_neg (by omega),h.1,if_neg (by omega),decide_eq_false (by omega)];rfl
 |d+1,i,k+1,hi,hk=>by
  have h:=List.all_eq_true.1 cn_all n (List.mem_range.2 (by omega));simp only [Bool.and_eq_true,beq_iff_eq] at h;have h2:=List.all_eq_true.1 h.2 i (List.mem_range.2 (by omega));simp only [Bool.and_eq_true,beq_iff_eq,decide_eq_true_eq] at h2;obtain ⟨c1,c2,c3,c4⟩:=h2;have hc:=at_rounds (g:=fun k=>mobs_Count.f k (n:Int) (i:Int)) (mobs_Count.mono _ _) (show 400≤k by omega) c1;have ih:=cnt_l hn x2 x3 d (i+1) k (by omega) (by omega);rw [show ((i+1:Nat):Int)=(i:Int)+1 by omega,ac_next] at ih;unfold w6_MobsRanked.l0;rw [if_pos (by omega),hc];simp only [Option.bind_some,if_true];rw [if_neg (by omega),w64 (x:=ac n i+cn n i) (by omega) (by omega),w64 (x:=(i:Int)+1) (by omega) (by omega),ih,show k+1 - (d+1) - 1=k - d - 1 by omega]
theorem diff_l {x y:List Int} {n:Nat} (hn:n≤12) (hx:x.length=n) (hy:y.length=n) (rx:rgs 0 x=true) (ry:rgs 0 y=true):∀ (d j k:Nat),j+d=n->d+1≤k->x.take j=y.take j->w6_MobsRanked.l1 k (n:Int) (rk 0 x) (rk 0 y) x y (j:Int)=some true
 |0,j,k+1,hj,hk,h=>by
  unfold w6_MobsRanked.l1;rw [List.take_of_length_le (by omega),List.take_of_length_le (by omega)] at h;rw [if_neg (by omega),if_pos (by rw [h])];simp [w6_alive.f]
 |d+1,j,k+1,hj,hk,h=>by
  have jx:j<x.length:=by omega
  have jy:j<y.length:=by omega
  have gx:x.getD j 0=x[j]:=by simp [List.getD_eq_getElem?_getD,List.getElem?_eq_getElem jx]
  have gy:y.getD j 0=y[j]:=by simp [List.getD_eq_getElem?_getD,List.getElem?_eq_getElem jy]
  unfold w6_MobsRanked.l1;rw [if_pos (by omega),if_pos (by omega),if_pos (by omega),if_pos (by omega),rd_at jx,rd_at jy]
  by_cases he:x[j]=y[j]
  ·rw [if_pos he,w64 (x:=(j:Int)+1) (by omega) (by omega)]
   have ih:=diff_l hn hx hy rx ry d (j+1) k (by omega) (by omega) (by rw [List.take_succ_eq_append_getElem jx,List.take_succ_eq_append_getElem jy,h,he]);rw [show ((j+1:Nat):Int)=(j:Int)+1 by omega] at ih;exact ih
  ·have hd:decide (x[j]<y[j])=decide (rk 0 x<rk 0 y):=by
    rw [Bool.eq_iff_iff,decide_eq_true_iff,decide_eq_true_iff];refine ⟨fun h1=>rk_lex j x y 0 (Int.le_refl _) rx ry (by omega) h jx (by rw [gx,gy];exact h1),fun h1=>?_⟩;rcases Int.lt_trichotomy x[j] y[j] with h2|h2|h2
    ·exact h2
    ·exact absurd h2 he
    ·have:=rk_lex j y x 0 (Int.le_refl _) ry rx (by omega) h.symm jy (by rw [gx,gy];exact h2)
     omega
   rw [if_neg he,hd,if_pos (by simp)];simp [w6_alive.f]
theorem u8_range {x:Int} (h:(Lit.int .u8 x).wf=true):0≤x∧x≤255:=by
 have h1:IntKind.u8.min=0:=by decide
 have h2:IntKind.u8.max=255:=by decide
 simp only [Lit.wf,h1,h2,Bool.and_eq_true,decide_eq_true_eq] at h;omega
theorem u32_range {x:Int} (h:(Lit.int .u32 x).wf=true):0≤x∧x≤4294967295:=by
 have h1:IntKind.u32.min=0:=by decide
 have h2:IntKind.u32.max=4294967295:=by decide
 simp only [Lit.wf,h1,h2,Bool.and_eq_true,decide_eq_true_eq] at h;omega
theorem w64' {x:Int} (h:0≤x∧x≤4294967295):wrap64 x=x:=by unfold wrap64;omega
theorem rest {a1 a2 a3:Int} (w1:(Lit.int .u8 a1).wf=true) (w2:(Lit.int .u32 a2).wf=true) (w3:(Lit.int .u32 a3).wf=true):w6_MobsRanked.j0 2000 a1 a2 a3=some true:=by
 obtain ⟨p0,q0⟩:=u8_range w1;have h2:=u32_range w2;have h3:=u32_range w3;obtain ⟨n,hn⟩:∃ n:Nat,wrap64 (Int.tmod a1 13)=(n:Int)∧n≤12:=by
  refine ⟨(a1 % 13).toNat,?_,by omega⟩;rw [Int.tmod_eq_emod_of_nonneg p0,w64 (by omega) (by omega)];omega
 obtain ⟨en,hn⟩:=hn;have p1:=wy_pos n 0 (Int.le_refl _);obtain ⟨a,ha⟩:∃ a,a=Int.tmod (wrap64 a2) (wy n 0):=⟨_,rfl⟩
 obtain ⟨b,hb⟩:∃ b,b=Int.tmod (wrap64 a3) (wy n 0):=⟨_,rfl⟩
 have ra:0≤a∧a<wy n 0:=by
  rw [ha,w64' h2,Int.tmod_eq_emod_of_nonneg h2.1];exact ⟨Int.emod_nonneg _ (by omega),Int.emod_lt_of_pos _ (by omega)⟩
 have rb:0≤b∧b<wy n 0:=by
  rw [hb,w64' h3,Int.tmod_eq_emod_of_nonneg h3.1];exact ⟨Int.emod_nonneg _ (by omega),Int.emod_lt_of_pos _ (by omega)⟩
 obtain ⟨x1,x2,x3⟩:=an_ok n 0 a (Int.le_refl _) ra.1 ra.2;obtain ⟨y1,y2,y3⟩:=an_ok n 0 b (Int.le_refl _) rb.1 rb.2;have hx:isP (an n 0 a)=true:=by simp only [isP,x1,x2,Bool.and_eq_true,decide_eq_true_eq];exact ⟨hn,trivial⟩
 show w6_MobsRanked.l0 1999 a2 a3 (wrap64 (Int.tmod a1 13)) 0 0=some true;have hc:=cnt_l hn a2 a3 (n+1) 0 1999 (by omega) (by omega);rw [en];refine Eq.trans hc ?_;obtain ⟨k,hk⟩:∃ k,1999 - (n+1) - 1=k+1:=⟨1999 - (n+1) - 2,by omega⟩
 rw [hk];rw [w6_MobsRanked.j2,if_neg (by decide),if_neg (by omega),← ha,← hb,At_f hn ra.1 ra.2 (by omega),At_f hn rb.1 rb.2 (by omega)];simp only [Option.bind_some];rw [Rank_f hx (by omega)];simp only [Option.bind_some,if_true];rw [if_pos x3,if_pos (by omega),if_pos (by omega),ref_isP _ (by omega),hx];simp only [Option.bind_some];obtain ⟨k,rfl⟩:∃ j,k=j+1:=⟨k - 1,by omega⟩
 rw [w6_MobsRanked.j3,if_neg (by decide)];have hd:=diff_l hn x1 y1 x2 y2 n 0 k (by omega) (by omega) rfl;rw [x3,y3] at hd;exact hd
theorem MobsRanked:w6_MobsRanked.Pure:=by
 intro l a1 a2 a3 _ _ _ w1 w2 w3;refine ⟨2000,?_⟩;unfold w6_MobsRanked.f w6_few.f
 by_cases g0:(l.length:Int)≤40
 ·rw [if_pos g0]
  simp only [Option.bind_some];rw [decide_eq_true (by simp),if_pos rfl]
  by_cases hp:isP l=true
  ·have hl:=isP_len hp
   have hr:rgs 0 l=true:=by simp only [isP,Bool.and_eq_true] at hp;exact hp.2
   obtain ⟨b1,b2⟩:=rk_bd l 0 (Int.le_refl _) hr;obtain ⟨c1,c2,c3⟩:=an_ok l.length 0 (rk 0 l) (Int.le_refl _) b1 b2;have he:an l.length 0 (rk 0 l)=l:=rk_inj _ _ 0 (Int.le_refl _) c2 hr c1 c3;rw [Rank_f hp (by omega)];simp only [Option.bind_some,if_true];rw [At_f hl b1 b2 (by omega),he];simp only [Option.bind_some,if_true];rw [same_f (by omega) (by omega),decide_eq_true rfl];simp only [Option.bind_some,if_true];exact rest w1 w2 w3
  ·obtain ⟨e,h1,h2⟩:=Rank_not hp (k:=2000) (by omega)
   rw [h1];simp only [Option.bind_some];rw [if_neg h2];exact rest w1 w2 w3
 ·rw [if_neg g0]
  simp only [Option.bind_some];rw [if_neg (by decide)];rfl
end Go.Proofs.Ytdhgeondbnpeoaa.Pure
namespace Go.Proofs.YtdhgeondbnpeoaaW.PrintWords
open Go.ChangeShapes Go.WideShapes
theorem sized_ints {H:Type} {enc:TypeId × Value->H} {P:Program} {W:World} {base:Nat} {spare:Nat->Bool} {held:Bool} {t e:TypeId} {k:IntKind} {a:Option Addr} {len cap:Nat} {d:DataW H} {ps:List MemPlace} {ts:List TypeId} {ds:List (DataW H)} {j:Nat}
  (hsz:(DataW.weightsEach P ts ds).all (·≤reachBytes)=true) (ht:ts[j]?=some t) (hd:ds[j]?=some d) (hu:P.underlying t=some (.slice e)) (he:P.underlying e=some (.int k)) (hc:P.cellsOf e=1) {B:Nat} (hB:P.bytesOf e=B)
  (h:DataW.Trod enc P W base spare held t (.slice a len cap) d ps):len * B≤140737488351232:=by
 obtain ⟨fuel,hf⟩:=h;rcases open_ints hu he hc hf with ⟨hcs,_⟩|⟨x,l,c,zs,hcs,_,hl,_,hz,hx,_,_⟩
 ·simp [Value.cells] at hcs
  obtain ⟨rfl,rfl,rfl⟩:=hcs;simp
 ·simp [Value.cells] at hcs
  obtain ⟨rfl,rfl,rfl⟩:=hcs;obtain ⟨hx,_⟩:=Prod.mk.inj hx;subst hx;have z:=sized_slice hsz ht hd hu;rw [hB] at z;have hl2:len≤zs.length:=by
   rw [hz];split
   ·exact hl
   ·exact Nat.le_refl _
  have h1:(lits (H:=H) k (zs.take len)).length+(lits (H:=H) k (zs.drop len)).length=zs.length:=by
   simp [lits];omega
  rw [h1] at z;exact Nat.le_trans (Nat.mul_le_mul_right _ hl2) z
end Go.Proofs.YtdhgeondbnpeoaaW.PrintWords
