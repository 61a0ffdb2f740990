/- The theorem of MobsRanks, proved; part 5 of 6: its texts, merged. -/
import Derived.Test.YtdhgeondbnpeoaaMrD
import Derived.Calls
import Derived.Conc.Beside
import Derived.Laws.Sem
import Derived.Conc.CrowdRun
import Derived.Conc.CommBuf
import Derived.Conc.WgGenN3
import Derived.Test.YtdhgeondbnpeoaaProg
import Derived.KernelRfl
import Derived.Below
import Derived.Deep.Draws
import Derived.Deep.AppendLies
import Derived.Maps.AppendAt
import Derived.OwnWalk
import Derived.Laws.BytesArg
import Derived.Laws.MakeOwn
import Derived.Laws.OwnMore
import Derived.Deep.OwnRows
import Derived.Tactics
import Derived.Lib.ConvBytes
import Derived.Laws.Slices
import Derived.WalkKit
import Derived.RowKit3
import Derived.Deep.LoopGhost
import Derived.Deep.QuietTactic
import Derived.BigQuiet
import Derived.WideLaws
import Derived.Deep.DeepCutAuto
import Derived.Deep.CutBlock
import Derived.Deep.RegionHeld3
import Derived.Laws.Rows
import Derived.Lib.AppendStr
import Derived.ArgAppend
import Derived.Laws.IdiomCopy
import Derived.RowKit
import Derived.OrdersHeld
import Derived.Laws.BitsLemmas
import Derived.Laws.StructEq
import Derived.Maps.OwnOps
import Derived.DeepKeys4
import Derived.WalkSpells
import Derived.Maps.Keyed
import Derived.SizedLaws
import Derived.ChangeSlices
set_option linter.unnecessarySimpa false
set_option linter.unusedVariables false
set_option linter.unusedSimpArgs false
namespace Go.Proofs.Ytdhgeondbnpeoaa.P
open Go.RowKit Go.Proofs.YtdhgeondbnpeoaaW.PrintWords Go.Proofs.YtdhgeondbnpeoaaW.PrintLast Go.Proofs.YtdhgeondbnpeoaaW.PrintMore
attribute [local go_sem] y0y y0w max_two min_two y0n y0m y0x y0v
def w6_few.f (l0:List Int) (l1:List Int):Option (Bool):=if (l0.length:Int)≤40 then (some (decide ((l1.length:Int)≤40))) else (some false)
set_option maxHeartbeats 8000000 in
set_option maxRecDepth 100000 in
theorem w6_few.calls (A0:Option Addr) (c0:Nat) (l0:List Int) (A1:Option Addr) (c1:Nat) (l1:List Int) (r:Bool) (w:World) (hr0:Kd.C (Kd.int .i64) w A0 l0.length l0) (hc0:l0.length≤c0) (hr1:Kd.C (Kd.int .i64) w A1 l1.length l1) (hc1:l1.length≤c1) (h:w6_few.f l0 l1=some r) :
  Calls Tra.prog 22 #[.slice A0 l0.length c0,.slice A1 l1.length c1] w fun e w'=>e=.returned (.bool r)∧Drawn0 w w':=by
 have HR0:=As0.mk hr0;have HC0:=As0.mk hc0;clear hr0 hc0;have HR1:=As0.mk hr1;have HC1:=As0.mk hc1;clear hr1 hc1;have H:(if (l0.length:Int)≤40 then (some (decide ((l1.length:Int)≤40))) else (some false))=some r:=h;clear h
 by_cases c3:(l0.length:Int)≤40
 ·rw [if_pos c3] at H
  have c3b0:decide ((l0.length:Int)≤40)=true:=decide_eq_true c3;have c3b1:decide (l0.length≤40)=true:=decide_eq_true (by omega);clear c3;obtain rfl:=Option.some.inj H;go_enter Tra.func22,Tra.ntmps22
  go_wp2
  go_ret
  exact ⟨by first|rfl|(simp;done)|(simp [*];done),by repeat (first|exact Drawn0.refl _|apply Drawn0.step)⟩
 ·rw [if_neg c3] at H
  have c3b0:decide ((l0.length:Int)≤40)=false:=decide_eq_false c3;have c3b1:decide (l0.length≤40)=false:=decide_eq_false (by omega);clear c3;obtain rfl:=Option.some.inj H;go_enter Tra.func22,Tra.ntmps22
  go_wp2
  go_ret
  exact ⟨by first|rfl|(simp;done)|(simp [*];done),by repeat (first|exact Drawn0.refl _|apply Drawn0.step)⟩
def r6_Many.l0:Nat->List Int->Int->Int->Option (Int)
 |0,_,_,_=>none
 |k+1,x0,x3,x4=>if x4<(x0.length:Int) then (if 0≤x4 then (r6_Many.l0 k x0 (mx x3 (wrap64 ((rd x0 x4)+1))) (wrap64 (x4+1))) else (none)) else (some x3)
def r6_Many.f (k:Nat) (l0:List Int):Option (Int):=r6_Many.l0 k l0 0 0
set_option maxHeartbeats 8000000 in
set_option maxRecDepth 100000 in
theorem r6_Many.calls (k:Nat) (A0:Option Addr) (c0:Nat) (l0:List Int) (r:Int) (w:World) (hr0:Kd.C (Kd.int .i64) w A0 l0.length l0) (hc0:l0.length≤c0) (h:r6_Many.f k l0=some r) :
  Calls Tra.prog 31 #[.slice A0 l0.length c0] w fun e w'=>e=.returned (.int .i64 r)∧Below w.heap.size w w':=by
 have HR0:=As0.mk hr0;have HC0:=As0.mk hc0;clear hr0 hc0;have HB:=As0.mk (Below.refl w.heap.size w);have H:(r6_Many.l0 k l0 0 0)=some r:=h;clear h;have H':=As0.mk H;clear H;go_enter Tra.func31,Tra.ntmps31
 go_wp2
 go_loopg [3,4] k (fun kq v3 v4 w'=>∃ (x3_1:Int) (x4_1:Int),v3=.int .i64 x3_1∧v4=.int .i64 x4_1∧As0 (r6_Many.l0 kq l0 x3_1 x4_1=some r)∧As0 (kq≤k)∧As0 (Below w.heap.size w w'))
 case atStart=>exact ⟨(0),(0),(by first|rfl|(simp;done)|(simp [*];done)),(by first|rfl|(simp;done)|(simp [*];done)),H',⟨Nat.le_refl _⟩,⟨by repeat (first|(with_reducible first|exact HB.out|apply y01|apply y00|apply y02)|exact HB.out)⟩⟩
 case round =>
  clear H';obtain ⟨x3_1,x4_1,rfl,rfl,HA,HK1,HB⟩:=hrel;cases gk with
  |zero=>exact absurd HA.out (by simp [r6_Many.l0])
  |succ k1 =>
   have H:=HA.out;clear HA;simp only [r6_Many.l0] at H
   by_cases c2:x4_1<(l0.length:Int)
   ·rw [if_pos c2] at H
    have c2b0:decide (x4_1<(l0.length:Int))=true:=decide_eq_true c2;clear c2
    by_cases c3:0≤x4_1
    ·rw [if_pos c3] at H
     have c3b0:decide (0≤x4_1)=true:=decide_eq_true c3;clear c3;obtain ⟨ji4,hji4⟩:∃ j_:Int,(mx x3_1 (wrap64 ((rd l0 x4_1)+1)))=j_:=⟨_,rfl⟩
     replace H:(r6_Many.l0 k1 l0 ji4 (wrap64 (x4_1+1)))=some r:=by first|(rw [hji4] at H;exact H)|(simp only [hji4] at H ⊢;exact H)
     have hji4_:(if x3_1<(wrap64 ((rd l0 x4_1)+1)) then (wrap64 ((rd l0 x4_1)+1)) else x3_1)=ji4:=hji4;have H':=As0.mk H;clear H;have p270:0≤(x4_1:Int):=of_decide_eq_true (by first|(with_reducible assumption)|assumption);have q270:x4_1<(l0.length:Int):=of_decide_eq_true (by first|(with_reducible assumption)|assumption);obtain ⟨ad270,e270,hx270_0⟩:=Kd.at_int HR0.out x4_1 p270 q270;cases e270
     replace hx270_0:=(HB.out.cell (World.block_lt_of_cell? w _ hx270_0)).trans hx270_0;replace p270:=eq_true p270;replace q270:=eq_true q270;go_wp2
     go_roundg k1
     case measure=>have:=HK1.out;omega
     case rel=>exact ⟨(ji4),(wrap64 (x4_1+1)),(by first|rfl|(simp;done)|(simp only [← hji4]<;>(first|rfl|simp))|(simp [*];done)),(by first|rfl|(simp;done)|(simp [*];done)),H',⟨by have:=HK1.out;omega⟩,⟨by repeat (first|(with_reducible first|exact HB.out|apply y01|apply y00|apply y02)|exact HB.out)⟩⟩
    ·rw [if_neg c3] at H
     exact absurd H (by simp)
   ·rw [if_neg c2] at H
    have c2b0:decide (x4_1<(l0.length:Int))=false:=decide_eq_false c2;clear c2;obtain rfl:=Option.some.inj H;go_wp2
    go_ret
    exact ⟨by first|rfl|(simp [y07,y06]<;>rfl)|(simp [*,y07,y06]<;>rfl),by repeat (first|(with_reducible first|exact HB.out|apply y01|apply y00|apply y02)|exact HB.out)⟩
end Go.Proofs.Ytdhgeondbnpeoaa.P
namespace Go.Proofs.Ytdhgeondbnpeoaa.P
open Go.RowKit Go.Proofs.YtdhgeondbnpeoaaW.PrintWords Go.Proofs.YtdhgeondbnpeoaaW.PrintLast Go.Proofs.YtdhgeondbnpeoaaW.PrintMore
attribute [local go_sem] y0y y0w max_two min_two y0n y0m y0x y0v
mutual
def r6_IsParting.l0:Nat->List Int->Int->Int->Option (Bool)
 |0,_,_,_=>none
 |k+1,x0,x3,x4=>if x4<(x0.length:Int) then (if 0≤x4 then (if (rd x0 x4)<0 then (r6_IsParting.j1 k x0 x3 x4 true) else (r6_IsParting.j1 k x0 x3 x4 (decide ((rd x0 x4) > x3)))) else (none)) else (some true)
def r6_IsParting.j1:Nat->List Int->Int->Int->Bool->Option (Bool)
 |0,_,_,_,_=>none
 |k+1,x0,x3,x4,x26=>if x26=true then (some false) else (if 0≤x4 then (if x4<(x0.length:Int) then (if (rd x0 x4)=x3 then (r6_IsParting.l0 k x0 (wrap64 (x3+1)) (wrap64 (x4+1))) else (r6_IsParting.l0 k x0 x3 (wrap64 (x4+1)))) else (none)) else (none))
end
def r6_IsParting.f (k:Nat) (l0:List Int):Option (Bool):=if (l0.length:Int) > 12 then (some false) else (r6_IsParting.l0 k l0 0 0)
set_option maxHeartbeats 8000000 in
set_option maxRecDepth 100000 in
theorem r6_IsParting.calls (k:Nat) (A0:Option Addr) (c0:Nat) (l0:List Int) (r:Bool) (w:World) (hr0:Kd.C (Kd.int .i64) w A0 l0.length l0) (hc0:l0.length≤c0) (h:r6_IsParting.f k l0=some r) :
  Calls Tra.prog 30 #[.slice A0 l0.length c0] w fun e w'=>e=.returned (.bool r)∧Drawn0 w w':=by
 have HR0:=As0.mk hr0;have HC0:=As0.mk hc0;clear hr0 hc0;have H:(if (l0.length:Int) > 12 then (some false) else (r6_IsParting.l0 k l0 0 0))=some r:=h;clear h
 by_cases c2:(l0.length:Int) > 12
 ·rw [if_pos c2] at H
  have c2b0:decide (12<(l0.length:Int))=true:=decide_eq_true c2;have c2b1:decide (12<l0.length)=true:=decide_eq_true (by omega);clear c2;obtain rfl:=Option.some.inj H;go_enter Tra.func30,Tra.ntmps30
  go_wp2
  go_ret
  exact ⟨by first|rfl|(simp;done)|(simp [*];done),by repeat (first|exact Drawn0.refl _|apply Drawn0.step)⟩
 ·rw [if_neg c2] at H
  have c2b0:decide (12<(l0.length:Int))=false:=decide_eq_false c2;have c2b1:decide (12<l0.length)=false:=decide_eq_false (by omega);clear c2;have H':=As0.mk H;clear H;go_enter Tra.func30,Tra.ntmps30
  go_wp2
  go_loopg [3,4] k (fun kq v3 v4 w'=>∃ (x3_1:Int) (x4_1:Int),v3=.int .i64 x3_1∧v4=.int .i64 x4_1∧As0 (r6_IsParting.l0 kq l0 x3_1 x4_1=some r)∧As0 (kq≤k)∧Drawn0 w w')
  case atStart=>exact ⟨(0),(0),(by first|rfl|(simp;done)|(simp [*];done)),(by first|rfl|(simp;done)|(simp [*];done)),H',⟨Nat.le_refl _⟩,by repeat (first|exact Drawn0.refl _|apply Drawn0.step)⟩
  case round =>
   clear H'
   try clear c2
   try clear c2b0
   try clear c2b1
   try clear p2
   obtain ⟨x3_1,x4_1,rfl,rfl,HA,HK1,⟨m1,rfl⟩⟩:=hrel;cases gk with
   |zero=>exact absurd HA.out (by simp [r6_IsParting.l0])
   |succ k1 =>
    have H:=HA.out;clear HA;simp only [r6_IsParting.l0] at H
    by_cases c3:x4_1<(l0.length:Int)
    ·rw [if_pos c3] at H
     have c3b0:decide (x4_1<(l0.length:Int))=true:=decide_eq_true c3;clear c3;have HC4:=As0.mk H;clear H;go_upto_region 7 with (fail)
     go_cut [26] (fun v26 wc=>∃ (kq:Nat) (x26_3:Bool),v26=.bool x26_3∧As0 (r6_IsParting.j1 kq l0 x3_1 x4_1 x26_3=some r)∧As0 (kq≤k1)∧Drawn0 w wc)
     case first =>
      have H:=HC4.out;clear HC4
      by_cases c5:0≤x4_1
      ·rw [if_pos c5] at H
       have c5b0:decide (0≤x4_1)=true:=decide_eq_true c5;clear c5
       (first|rw [c5b0]|(simp only [i64_w,i32_w];rw [c5b0])|skip)
       by_cases c6:(rd l0 x4_1)<0
       ·rw [if_pos c6] at H
        have c6b0:decide ((rd l0 x4_1)<0)=true:=decide_eq_true c6;clear c6;have H':=As0.mk H;clear H;have p271:0≤(x4_1:Int):=of_decide_eq_true (by first|(with_reducible assumption)|assumption);have q271:x4_1<(l0.length:Int):=of_decide_eq_true (by first|(with_reducible assumption)|assumption);obtain ⟨ad271,e271,hx271_0⟩:=Kd.at_int HR0.out x4_1 p271 q271;cases e271
        replace p271:=eq_true p271;replace q271:=eq_true q271;go_wp2
        go_meet
        case rel=>exact ⟨_,(true),(by first|rfl|(simp;done)|(simp [*];done)),H',⟨by have:=HK1.out;first|omega|exact Nat.le_refl _⟩,by repeat (first|exact Drawn0.refl _|apply Drawn0.step)⟩
       ·rw [if_neg c6] at H
        have c6b0:decide ((rd l0 x4_1)<0)=false:=decide_eq_false c6;clear c6;have H':=As0.mk H;clear H;have p271:0≤(x4_1:Int):=of_decide_eq_true (by first|(with_reducible assumption)|assumption);have q271:x4_1<(l0.length:Int):=of_decide_eq_true (by first|(with_reducible assumption)|assumption);obtain ⟨ad271,e271,hx271_0⟩:=Kd.at_int HR0.out x4_1 p271 q271;cases e271
        replace p271:=eq_true p271;replace q271:=eq_true q271;have p272:0≤(x4_1:Int):=of_decide_eq_true (by first|(with_reducible assumption)|assumption);have q272:x4_1<(l0.length:Int):=of_decide_eq_true (by first|(with_reducible assumption)|assumption);obtain ⟨ad272,e272,hx272_0⟩:=Kd.at_int HR0.out x4_1 p272 q272;obtain rfl:ad271=ad272:=(by injection e272)
        replace p272:=eq_true p272;replace q272:=eq_true q272;go_wp2
        go_meet
        case rel=>exact ⟨_,(decide ((rd l0 x4_1) > x3_1)),(by first|rfl|(simp;done)|(simp [*];done)),H',⟨by have:=HK1.out;first|omega|exact Nat.le_refl _⟩,by repeat (first|exact Drawn0.refl _|apply Drawn0.step)⟩
      ·rw [if_neg c5] at H
       exact absurd H (by simp)
     case rest =>
      clear HC4
      try clear c2
      try clear c2b0
      try clear c2b1
      try clear p2
      try clear q2
      try clear hx2
      try clear c3
      try clear c3b0
      try clear c5
      try clear c5b0
      try clear c6
      try clear c6b0
      try clear hx271_0
      try clear hx272_0
      try clear p2
      try clear p271
      try clear p272
      try clear q271
      try clear q272
      obtain ⟨kq,x26_3,rfl,HA,HJ3,⟨mc3,rfl⟩⟩:=hcut;cases kq with
      |zero=>exact absurd HA.out (by simp [r6_IsParting.j1])
      |succ kj3 =>
       have H:=HA.out;clear HA;simp only [r6_IsParting.j1] at H
       by_cases c7:x26_3=true
       ·subst c7
        have H1:(some false)=some r:=by rw [if_pos rfl] at H;exact H
        clear H;have H:=H1;clear H1;obtain rfl:=Option.some.inj H;go_wp2
        go_ret
        exact ⟨by first|rfl|(simp;done)|(simp [*];done),by repeat (first|exact Drawn0.refl _|apply Drawn0.step)⟩
       ·replace c7:=Bool.eq_false_iff.mpr c7
        subst c7;have H1:(if 0≤x4_1 then (if x4_1<(l0.length:Int) then (if (rd l0 x4_1)=x3_1 then (r6_IsParting.l0 kj3 l0 (wrap64 (x3_1+1)) (wrap64 (x4_1+1))) else (r6_IsParting.l0 kj3 l0 x3_1 (wrap64 (x4_1+1)))) else (none)) else (none))=some r:=by rw [if_neg (show ¬ (false=true) by decide)] at H;exact H
        clear H;have H:=H1;clear H1
        by_cases c8:0≤x4_1
        ·rw [if_pos c8] at H
         have c8b0:decide (0≤x4_1)=true:=decide_eq_true c8;clear c8
         by_cases c9:x4_1<(l0.length:Int)
         ·rw [if_pos c9] at H
          have c9b0:decide (x4_1<(l0.length:Int))=true:=decide_eq_true c9;clear c9
          by_cases c10:(rd l0 x4_1)=x3_1
          ·rw [if_pos c10] at H
           have c10b0:((rd l0 x4_1) == x3_1)=true:=beq_iff_eq.mpr c10;have c10b1:((rd l0 x4_1) != x3_1)=false:=bne_eq_false_iff_eq.mpr c10;clear c10;have H':=As0.mk H;clear H;have p273:0≤(x4_1:Int):=of_decide_eq_true (by first|(with_reducible assumption)|assumption);have q273:x4_1<(l0.length:Int):=of_decide_eq_true (by first|(with_reducible assumption)|assumption);obtain ⟨ad273,e273,hx273_0⟩:=Kd.at_int HR0.out x4_1 p273 q273;cases e273
           replace p273:=eq_true p273;replace q273:=eq_true q273;go_wp2
           go_roundg kj3
           case measure=>have:=HK1.out;have:=HJ3.out;omega
           case rel=>exact ⟨(wrap64 (x3_1+1)),(wrap64 (x4_1+1)),(by first|rfl|(simp;done)|(simp [*];done)),(by first|rfl|(simp;done)|(simp [*];done)),H',⟨by have:=HK1.out;have:=HJ3.out;omega⟩,by repeat (first|exact Drawn0.refl _|apply Drawn0.step)⟩
          ·rw [if_neg c10] at H
           have c10b0:((rd l0 x4_1) == x3_1)=false:=beq_eq_false_iff_ne.mpr c10;have c10b1:((rd l0 x4_1) != x3_1)=true:=bne_iff_ne.mpr c10;have H':=As0.mk H;clear H;have p273:0≤(x4_1:Int):=of_decide_eq_true (by first|(with_reducible assumption)|assumption);have q273:x4_1<(l0.length:Int):=of_decide_eq_true (by first|(with_reducible assumption)|assumption);obtain ⟨ad273,e273,hx273_0⟩:=Kd.at_int HR0.out x4_1 p273 q273;cases e273
           replace p273:=eq_true p273;replace q273:=eq_true q273;go_wp2
           go_roundg kj3
           case measure=>have:=HK1.out;have:=HJ3.out;omega
           case rel=>exact ⟨(x3_1),(wrap64 (x4_1+1)),(by first|rfl|(simp;done)|(simp [*];done)),(by first|rfl|(simp;done)|(simp [*];done)),H',⟨by have:=HK1.out;have:=HJ3.out;omega⟩,by repeat (first|exact Drawn0.refl _|apply Drawn0.step)⟩
         ·rw [if_neg c9] at H
          exact absurd H (by simp)
        ·rw [if_neg c8] at H
         exact absurd H (by simp)
    ·rw [if_neg c3] at H
     have c3b0:decide (x4_1<(l0.length:Int))=false:=decide_eq_false c3;clear c3;obtain rfl:=Option.some.inj H;go_wp2
     go_ret
     exact ⟨by first|rfl|(simp;done)|(simp [*];done),by repeat (first|exact Drawn0.refl _|apply Drawn0.step)⟩
def r6_Parting.f (k:Nat) (l0:List Int):Option (Int):=if (l0.length:Int) > 12 then (some 3) else ((r6_IsParting.f k l0).bind fun t274=>(if t274=true then (some 0) else (some 2)))
set_option maxHeartbeats 8000000 in
set_option maxRecDepth 100000 in
theorem r6_Parting.calls (k:Nat) (A0:Option Addr) (c0:Nat) (l0:List Int) (r:Int) (w:World) (hr0:Kd.C (Kd.int .i64) w A0 l0.length l0) (hc0:l0.length≤c0) (h:r6_Parting.f k l0=some r) :
  Calls Tra.prog 51 #[.slice A0 l0.length c0] w fun e w'=>e=.returned (.int .i64 r)∧Drawn0 w w':=by
 have HR0:=As0.mk hr0;have HC0:=As0.mk hc0;clear hr0 hc0;have H:(if (l0.length:Int) > 12 then (some 3) else ((r6_IsParting.f k l0).bind fun t274=>(if t274=true then (some 0) else (some 2))))=some r:=h;clear h
 by_cases c2:(l0.length:Int) > 12
 ·rw [if_pos c2] at H
  have c2b0:decide (12<(l0.length:Int))=true:=decide_eq_true c2;have c2b1:decide (12<l0.length)=true:=decide_eq_true (by omega);clear c2;obtain rfl:=Option.some.inj H;go_enter Tra.func51,Tra.ntmps51
  go_wp2
  go_ret
  exact ⟨by first|rfl|(simp;done)|(simp [*];done),by repeat (first|exact Drawn0.refl _|apply Drawn0.step)⟩
 ·rw [if_neg c2] at H
  have c2b0:decide (12<(l0.length:Int))=false:=decide_eq_false c2;have c2b1:decide (12<l0.length)=false:=decide_eq_false (by omega);clear c2;replace H:=Option.bind_eq_some_iff.mp H;obtain ⟨t274,A30,H⟩:=H;replace H:(if t274=true then (some 0) else (some 2))=some r:=H;have A3:=As0.mk A30;clear A30
  by_cases c4:t274=true
  ·subst c4
   have H1:(some 0)=some r:=by rw [if_pos rfl] at H;exact H
   clear H;have H:=H1;clear H1;obtain rfl:=Option.some.inj H;go_enter Tra.func51,Tra.ntmps51
   go_wp2_with (first|((with_reducible refine y0a (f:=30) rfl ?_);refine y0s (some 7) rfl rfl Tra.func30 (by kernel_rfl) rfl #[.slice A0 l0.length c0] rfl (by (try simp only [List.map_toArray,List.map_cons,List.map_nil]);first|done|rfl|(simp only [List.length_drop,List.length_take];rfl)) ?_;(with_reducible refine (r6_IsParting.calls k _ _ l0 true _ ?side1 ?side2 A3.out).mono ?_);(case side1=>repeat (first|exact HR0.out|(with_reducible refine Kd.C_alloc ?_ _)|(with_reducible refine Kd.C_drewN ?_ _)|(with_reducible refine Kd.C_drew ?_)));(case side2=>exact HC0.out);rintro e w' ⟨rfl,⟨nd,rfl⟩⟩;refine ⟨_,rfl,?_⟩))
   go_ret
   exact ⟨by first|rfl|(simp;done)|(simp [*];done),by repeat (first|exact Drawn0.refl _|apply Drawn0.step)⟩
  ·replace c4:=Bool.eq_false_iff.mpr c4
   subst c4;have H1:(some 2)=some r:=by rw [if_neg (show ¬ (false=true) by decide)] at H;exact H
   clear H;have H:=H1;clear H1;obtain rfl:=Option.some.inj H;go_enter Tra.func51,Tra.ntmps51
   go_wp2_with (first|((with_reducible refine y0a (f:=30) rfl ?_);refine y0s (some 7) rfl rfl Tra.func30 (by kernel_rfl) rfl #[.slice A0 l0.length c0] rfl (by (try simp only [List.map_toArray,List.map_cons,List.map_nil]);first|done|rfl|(simp only [List.length_drop,List.length_take];rfl)) ?_;(with_reducible refine (r6_IsParting.calls k _ _ l0 false _ ?side1 ?side2 A3.out).mono ?_);(case side1=>repeat (first|exact HR0.out|(with_reducible refine Kd.C_alloc ?_ _)|(with_reducible refine Kd.C_drewN ?_ _)|(with_reducible refine Kd.C_drew ?_)));(case side2=>exact HC0.out);rintro e w' ⟨rfl,⟨nd,rfl⟩⟩;refine ⟨_,rfl,?_⟩))
   go_ret
   exact ⟨by first|rfl|(simp;done)|(simp [*];done),by repeat (first|exact Drawn0.refl _|apply Drawn0.step)⟩
mutual
def r6_table.l0:Nat->Int->List (List Int)->Int->Option ((List (List Int)))
 |0,_,_,_=>none
 |k+1,x0,x3,x4=>if x4≤x0 then (if 0≤(wrap64 ((wrap64 (x0 - x4))+1)) then (if (wrap64 ((wrap64 (x0 - x4))+1):Int).toNat≤35184372088832 then (r6_table.l1 k x0 x3 x4 (List.replicate (wrap64 ((wrap64 (x0 - x4))+1):Int).toNat 0) 0) else (none)) else (none)) else (some x3)
def r6_table.l1:Nat->Int->List (List Int)->Int->List Int->Int->Option ((List (List Int)))
 |0,_,_,_,_,_=>none
 |k+1,x0,x3,x4,x5,x6=>if x6≤(wrap64 (x0 - x4)) then (if x4=0 then (if 0≤x6 then (if x6<(x5.length:Int) then (r6_table.l1 k x0 x3 x4 (x5.set (x6:Int).toNat 1) (wrap64 (x6+1))) else (none)) else (none)) else (if 0≤(wrap64 (x4 - 1)) then (if (wrap64 (x4 - 1))<(x3.length:Int) then (if 0≤x6 then (if x6<((rd_L1 x3 (wrap64 (x4 - 1))).length:Int) then (if 0≤(wrap64 (x6+1)) then (if (wrap64 (x6+1))<((rd_L1 x3 (wrap64 (x4 - 1))).length:Int) then (if x6<(x5.length:Int) then (r6_table.l1 k x0 x3 x4 (x5.set (x6:Int).toNat (wrap64 ((wrap64 (x6 * (rd (rd_L1 x3 (wrap64 (x4 - 1))) x6)))+(rd (rd_L1 x3 (wrap64 (x4 - 1))) (wrap64 (x6+1)))))) (wrap64 (x6+1))) else (none)) else (none)) else (none)) else (none)) else (none)) else (none)) else (none))) else (if x3.length<5864062014805 then (r6_table.l0 k x0 (x3 ++ [x5]) (wrap64 (x4+1))) else (none))
end
def r6_table.f (k:Nat) (a0:Int):Option ((List (List Int))):=r6_table.l0 k a0 ([]:List (List Int)) 0
theorem r6_table.mono_l:∀ k,(∀ y0 y1 y2,LeO (r6_table.l0 k y0 y1 y2) (r6_table.l0 (k+1) y0 y1 y2))∧(∀ y0 y1 y2 y3 y4,LeO (r6_table.l1 k y0 y1 y2 y3 y4) (r6_table.l1 (k+1) y0 y1 y2 y3 y4))
 |0=>⟨fun _ _ _ r h=>by simp [r6_table.l0] at h,fun _ _ _ _ _ r h=>by simp [r6_table.l1] at h⟩
 |k+1=>by
  obtain ⟨ih0,ih1⟩:=r6_table.mono_l k;refine ⟨?_,?_⟩
  ·intro y0 y1 y2
   unfold r6_table.l0
   repeat' first
   |(with_reducible exact ih0 _ _ _)
   |(with_reducible exact ih1 _ _ _ _ _)
   |(with_reducible exact LeO.refl _)
   |(with_reducible exact LeO.none _)
   |(with_reducible refine LeO.ite ?_ ?_)
   |(with_reducible refine LeO.bind ?_ (fun _=>?_))
   |exact ih0 _ _ _
   |exact ih1 _ _ _ _ _
   |exact LeO.none _
   |refine LeO.ite ?_ ?_
   |refine LeO.bind ?_ (fun _=>?_)
  ·intro y0 y1 y2 y3 y4
   unfold r6_table.l1
   repeat' first
   |(with_reducible exact ih0 _ _ _)
   |(with_reducible exact ih1 _ _ _ _ _)
   |(with_reducible exact LeO.refl _)
   |(with_reducible exact LeO.none _)
   |(with_reducible refine LeO.ite ?_ ?_)
   |(with_reducible refine LeO.bind ?_ (fun _=>?_))
   |exact ih0 _ _ _
   |exact ih1 _ _ _ _ _
   |exact LeO.none _
   |refine LeO.ite ?_ ?_
   |refine LeO.bind ?_ (fun _=>?_)
theorem r6_table.mono:∀ a0 k,LeO (r6_table.f k a0) (r6_table.f (k+1) a0):=by
 intro a0 k;obtain ⟨ih0,ih1⟩:=r6_table.mono_l k;unfold r6_table.f
 repeat' first
   |(with_reducible exact ih0 _ _ _)
   |(with_reducible exact ih1 _ _ _ _ _)
   |(with_reducible exact LeO.refl _)
   |(with_reducible exact LeO.none _)
   |(with_reducible refine LeO.ite ?_ ?_)
   |(with_reducible refine LeO.bind ?_ (fun _=>?_))
   |exact ih0 _ _ _
   |exact ih1 _ _ _ _ _
   |exact LeO.none _
   |refine LeO.ite ?_ ?_
   |refine LeO.bind ?_ (fun _=>?_)
def r6_table.T11:Bool × List (List Nat × List Nat):=(true,[([],[]),([],[]),([],[]),([],[]),([],[]),([4],[4]),([3,5],[3,5]),([6],[6]),([],[]),([7,8],[7,8]),([9],[9]),([2,10],[2,10]),([],[]),([],[]),([13],[13]),([12,14],[12,14]),([15],[15]),([],[]),([17],[17]),([16,18],[16,18]),([19],[19]),([11,20],[11,20]),([0,1,0,1,2,3,4,5,6,7,8,9,10,11,12,13,14,15,16,17,18,19,20,21],[0,1]),([22,21,0,1,2,3,4,5,6,7,8,9,10,11,12,13,14,15,16,17,18,19,20,21],[21,22])])
def r6_table.B11:List Nat:=[0,0,0,0,0,16,56,120,0,504,1016,2044,0,0,8192,28672,61440,0,131072,520192,1044480,2097148,4194303,8388607]
theorem r6_table.tab11:rtab .any (opsOf Tra.f68 11)=r6_table.T11:=by kernel_rfl
theorem r6_table.bits11:waitsOk r6_table.T11.2 r6_table.B11=true:=by kernel_rfl
set_option maxHeartbeats 8000000 in
set_option maxRecDepth 100000 in
theorem r6_table.calls (k:Nat) (a0:Int) (r:List (List Int)) (w:World) (h:r6_table.f k a0=some r) :
  Calls Tra.prog 68 #[.int .i64 a0] w fun e w'=>∃ v0_:Value,e=.returned (v0_)∧Kd.S (Kd.slice 3 (Kd.int .i64)) 29 w' w.heap.size (fun _=>True) v0_ r∧Below w.heap.size w w':=by
 have HB:=As0.mk (Below.refl w.heap.size w);have H:(r6_table.l0 k a0 ([]:List (List Int)) 0)=some r:=h;clear h;have H':=As0.mk H;clear H;go_enter Tra.func68,Tra.ntmps68
 go_wp2
 go_loopg [3,4] k (fun kq v3 v4 w'=>∃ (x3_1:List (List Int)) (x4_1:Int),v4=.int .i64 x4_1∧As0 (r6_table.l0 kq a0 x3_1 x4_1=some r)∧As0 (kq≤k)∧As0 (Kd.S (Kd.slice 3 (Kd.int .i64)) 29 w' w.heap.size (fun _=>True) v3 x3_1)∧As0 (Below w.heap.size w w'))
 case atStart=>exact ⟨(([]:List (List Int))),(0),(by first|rfl|(simp;done)|(simp [*];done)),H',⟨Nat.le_refl _⟩,⟨by first|exact Kd.S_nil _ _ _ _ _|exact Kd.N_nil _ _ _ _ _|exact Kd.V_nil _ _ _ _ _|exact Kd.Q_nil _ _ _ _ _|exact Kd.R_nil _ _ _ _ _⟩,⟨by repeat (first|(with_reducible first|exact HB.out|apply y01|apply y00|apply y02)|exact HB.out)⟩⟩
 case round =>
  clear H';obtain ⟨x3_1,x4_1,rfl,HA,HK1,HO_3,HB⟩:=hrel;cases gk with
  |zero=>exact absurd HA.out (by simp [r6_table.l0])
  |succ k1 =>
   have H:=HA.out;clear HA;simp only [r6_table.l0] at H
   by_cases c2:x4_1≤a0
   ·rw [if_pos c2] at H
    have c2b0:decide (x4_1≤a0)=true:=decide_eq_true c2;clear c2;obtain ⟨ji3,hji3⟩:∃ j_:Int,(wrap64 ((wrap64 (a0 - x4_1))+1))=j_:=⟨_,rfl⟩
    replace H:(if 0≤(ji3) then (if (ji3:Int).toNat≤35184372088832 then (r6_table.l1 k1 a0 x3_1 x4_1 (List.replicate (ji3:Int).toNat 0) 0) else (none)) else (none))=some r:=by first|(rw [hji3] at H;exact H)|(simp only [hji3] at H ⊢;exact H)
    have hji3w:(IntKind.i64.wrap ((wrap64 (a0 - x4_1))+1))=ji3:=(i64_w _).trans hji3
    by_cases c4:0≤(ji3)
    ·rw [if_pos c4] at H
     have c4b0:=eq_true c4;have c4b1:decide (0≤(ji3))=true:=decide_eq_true c4;clear c4
     by_cases c5:(ji3:Int).toNat≤35184372088832
     ·rw [if_pos c5] at H
      have c5b0:=eq_true c5;have c5b1:decide ((ji3:Int).toNat≤35184372088832)=true:=decide_eq_true c5;clear c5;obtain ⟨y275,hy275⟩:∃ y_:List Int,y_=(List.replicate (ji3:Int).toNat 0):=⟨_,rfl⟩
      replace H:(r6_table.l1 k1 a0 x3_1 x4_1 y275 0)=some r:=by first|(rw [hy275];with_reducible exact H)|(have H2_:=(Option.bind_some _ _).symm.trans H;rw [hy275];with_reducible exact H2_)|(have H2_:=(Option.bind_some _ _).symm.trans H;with_reducible exact H2_)|with_reducible exact H|(rw [hy275];exact H)|exact H
      have Ny275:=As0.mk hy275;clear hy275;have H':=As0.mk H;clear H;go_wp2_with (first|((with_reducible refine y0u (N:=16) rfl ?_);refine Kd.R_make (Kd.int .i64) _ 3 rfl (N:=16) rfl 29 _ _ rfl ji3 rfl rfl Tra.underlying29 (.int .i64 0) 8 info3 rfl (by decide) (by omega) 0 (ok:=fun _=>True) (okp:=fun _=>True) rfl (fun _ hk=>hk) trivial (of_decide_eq_true (by first|(with_reducible assumption)|assumption)) (Nat.le_trans (Nat.mul_le_mul_right _ (of_decide_eq_true (by first|(with_reducible assumption)|assumption):ji3.toNat≤35184372088832)) (by omega)) (Below.refl _ _) (Nat.le_refl _) ?_;intro v276 w6 ho7 hb hg_ hnew_;clear hg_ hnew_;(first|rw [← Ny275.out] at ho7|(simp only [Int.reduceToNat] at ho7;rw [← Ny275.out] at ho7));have n0_:=As0.mk (Kd.S_elder' (by (with_reducible repeat (first|apply Kd.S_alloc|apply Kd.S_drewN|apply Kd.S_drew));exact HO_3.out) (Kd.R_base ho7) hb);have n1_:=As0.mk (Kd.R_lower ho7 (y09 (by repeat (first|(with_reducible first|exact HB.out|apply y01|apply y00|apply y02)|exact HB.out))));have n2_:=As0.mk (y08 (by repeat (first|(with_reducible first|exact HB.out|apply y01|apply y00|apply y02)|exact HB.out)) hb);clear HO_3;clear HB;have HO_3:=n0_;have HO277:=n1_;have HB:=n2_;clear n0_ n1_ n2_;clear hb ho7))
      go_loopg [6] k1 (fun kq v6 w'=>∃ (x5_2:List Int) (x6_2:Int),v6=.int .i64 x6_2∧As0 (r6_table.l1 kq a0 x3_1 x4_1 x5_2 x6_2=some r)∧As0 (kq≤k1)∧As0 (Kd.S (Kd.slice 3 (Kd.int .i64)) 29 w' w.heap.size (fun k_=>some k_≠(v276:Value).ownBlock) u3 x3_1)∧As0 (Kd.R (Kd.int .i64) 3 w' w.heap.size (fun _=>True) v276 x5_2)∧As0 (Below w.heap.size w w'))
      case atStart=>exact ⟨(y275),(0),(by first|rfl|(simp;done)|(simp [*];done)),H',⟨Nat.le_refl _⟩,⟨by (with_reducible repeat (first|apply Kd.S_alloc|apply Kd.S_drewN|apply Kd.S_drew));exact Kd.S_mono HO_3.out (fun _ hk=>hk.2)⟩,⟨by (with_reducible repeat (first|apply Kd.R_alloc|apply Kd.R_drewN|apply Kd.R_drew));exact HO277.out⟩,⟨by repeat (first|(with_reducible first|exact HB.out|apply y01|apply y00|apply y02)|exact HB.out)⟩⟩
      case round =>
       clear H'
       try clear c2
       try clear c2b0
       try clear p2
       try clear c4
       try clear c4b0
       try clear c4b1
       try clear c5
       try clear c5b0
       try clear c5b1
       try clear c6
       try clear p6
       obtain ⟨x5_2,x6_2,rfl,HA,HK2,HO_3,HO_5,HB⟩:=hrel;cases gk with
       |zero=>exact absurd HA.out (by simp [r6_table.l1])
       |succ k2 =>
        have H:=HA.out;clear HA;simp only [r6_table.l1] at H
        by_cases c8:x6_2≤(wrap64 (a0 - x4_1))
        ·rw [if_pos c8] at H
         have c8b0:decide (x6_2≤(wrap64 (a0 - x4_1)))=true:=decide_eq_true c8;clear c8
         by_cases c9:x4_1=0
         ·rw [if_pos c9] at H
          have c9b0:(x4_1 == 0)=true:=beq_iff_eq.mpr c9;have c9b1:(x4_1 != 0)=false:=bne_eq_false_iff_eq.mpr c9;clear c9
          by_cases c10:0≤x6_2
          ·rw [if_pos c10] at H
           have c10b0:decide (0≤x6_2)=true:=decide_eq_true c10;clear c10
           by_cases c11:x6_2<(x5_2.length:Int)
           ·rw [if_pos c11] at H
            have c11b0:decide (x6_2<(x5_2.length:Int))=true:=decide_eq_true c11;clear c11;obtain ⟨y278,hy278⟩:∃ y_:List Int,y_=(x5_2.set (x6_2:Int).toNat 1):=⟨_,rfl⟩
            replace H:(r6_table.l1 k2 a0 x3_1 x4_1 y278 (wrap64 (x6_2+1)))=some r:=by first|(rw [hy278];with_reducible exact H)|(have H2_:=(Option.bind_some _ _).symm.trans H;rw [hy278];with_reducible exact H2_)|(have H2_:=(Option.bind_some _ _).symm.trans H;with_reducible exact H2_)|with_reducible exact H|(rw [hy278];exact H)|exact H
            have Ny278:=As0.mk hy278;clear hy278;have H':=As0.mk H;clear H;have p12:0≤(x6_2:Int):=of_decide_eq_true (by first|(with_reducible assumption)|assumption);have q12:(x6_2:Int)<((x5_2.length:Int):Int):=of_decide_eq_true (by first|(with_reducible assumption)|assumption);obtain ⟨go12,co12,eo12,gb12,gl12,cl12,HG12⟩:=Kd.R_form HO_5.out (by omega)
            (first|cases eo12|(injection eo12 with ea_ en_ ec_;(first|subst ea_|(injection ea_ with ea_;subst ea_));subst ec_;clear en_))
            have GB12:=As0.mk gb12;have GG12:=As0.mk HG12;clear gb12 gl12 HG12;obtain ⟨hx12_0,hf12_0⟩:=Kd.R_celln 0 HO_5.out (x6_2:Int) p12 q12;replace p12:=eq_true p12;replace q12:=eq_true q12;have HP13:=Kd.R_putg HO_5.out (x6_2:Int) 1;go_wp2_with (first|((with_reducible refine gate_store (t:=3) (p:=28) rfl ?_);refine store_event (t:=3) (p:=28) (v:=?vo_w14) (w1:=(wr.setCell ⟨go12,(x6_2:Int).toNat,none⟩ (.int .i64 1))) ?hg ?ho ?hn ?hr ?_;(case ho=>rfl);(case hg=>rfl);(case hn=>rfl);(case hr=>first|(go_simp;done)|(go_simp;rfl));intro w14 hw;have hg:wr.grownBy w14 (some go12):=(by rw [hw];exact HP13.2);have hp_:Kd.R (Kd.int .i64) 3 w14 w.heap.size (fun _=>True) (.slice (some ⟨go12,0,none⟩) x5_2.length co12) y278:=(by rw [hw,Ny278.out];exact HP13.1);clear HP13;have n0_:=As0.mk (Kd.S_after (v:=(.slice (some ⟨go12,0,none⟩) x5_2.length co12)) (v1:=(.slice (some ⟨go12,0,none⟩) x5_2.length co12)) (ok:=(fun _=>True)) (by (with_reducible repeat (first|apply Kd.S_alloc|apply Kd.S_drewN|apply Kd.S_drew));exact Kd.S_mono HO_3.out (fun _ hk=>⟨trivial,hk⟩)) hg (.inl rfl));have n1_:=As0.mk (hp_);have n2_:=As0.mk ((by rw [hw];exact y0d (HB.out) GB12.out:Below w.heap.size w w14));clear HO_3;clear HO_5;clear HB;have HO_3:=n0_;have HO_5:=n1_;have HB:=n2_;clear n0_ n1_ n2_;clear hg hw hp_))
            go_roundg k2
            case measure=>have:=HK1.out;have:=HK2.out;omega
            case rel=>exact ⟨(y278),(wrap64 (x6_2+1)),(by first|rfl|(simp;done)|(simp [*];done)),H',⟨by have:=HK1.out;have:=HK2.out;omega⟩,⟨by (with_reducible repeat (first|apply Kd.S_alloc|apply Kd.S_drewN|apply Kd.S_drew));exact Kd.S_mono HO_3.out (fun _ hk=>hk.2)⟩,⟨by (with_reducible repeat (first|apply Kd.R_alloc|apply Kd.R_drewN|apply Kd.R_drew));exact HO_5.out⟩,⟨by repeat (first|(with_reducible first|exact HB.out|apply y01|apply y00|apply y02)|exact HB.out)⟩⟩
           ·rw [if_neg c11] at H
            exact absurd H (by simp)
          ·rw [if_neg c10] at H
           exact absurd H (by simp)
         ·rw [if_neg c9] at H
          have c9b0:(x4_1 == 0)=false:=beq_eq_false_iff_ne.mpr c9;have c9b1:(x4_1 != 0)=true:=bne_iff_ne.mpr c9;obtain ⟨ji15,hji15⟩:∃ j_:Int,(wrap64 (x4_1 - 1))=j_:=⟨_,rfl⟩
          replace H:(if 0≤(ji15) then (if (ji15)<(x3_1.length:Int) then (if 0≤x6_2 then (if x6_2<((rd_L1 x3_1 (ji15)).length:Int) then (if 0≤(wrap64 (x6_2+1)) then (if (wrap64 (x6_2+1))<((rd_L1 x3_1 (ji15)).length:Int) then (if x6_2<(x5_2.length:Int) then (r6_table.l1 k2 a0 x3_1 x4_1 (x5_2.set (x6_2:Int).toNat (wrap64 ((wrap64 (x6_2 * (rd (rd_L1 x3_1 (ji15)) x6_2)))+(rd (rd_L1 x3_1 (ji15)) (wrap64 (x6_2+1)))))) (wrap64 (x6_2+1))) else (none)) else (none)) else (none)) else (none)) else (none)) else (none)) else (none))=some r:=by first|(rw [hji15] at H;exact H)|(simp only [hji15] at H ⊢;exact H)
          have hji15w:(IntKind.i64.wrap (x4_1 - 1))=ji15:=(i64_w _).trans hji15
          by_cases c16:0≤(ji15)
          ·rw [if_pos c16] at H
           have c16b0:decide (0≤(ji15))=true:=decide_eq_true c16;clear c16
           by_cases c17:(ji15)<(x3_1.length:Int)
           ·rw [if_pos c17] at H
            have c17b0:decide ((ji15)<(x3_1.length:Int))=true:=decide_eq_true c17;clear c17
            by_cases c18:0≤x6_2
            ·rw [if_pos c18] at H
             have c18b0:decide (0≤x6_2)=true:=decide_eq_true c18;clear c18
             by_cases c19:x6_2<((rd_L1 x3_1 (ji15)).length:Int)
             ·rw [if_pos c19] at H
              have c19b0:decide (x6_2<((rd_L1 x3_1 (ji15)).length:Int))=true:=decide_eq_true c19;clear c19;obtain ⟨ji20,hji20⟩:∃ j_:Int,(wrap64 (x6_2+1))=j_:=⟨_,rfl⟩
              replace H:(if 0≤(ji20) then (if (ji20)<((rd_L1 x3_1 (ji15)).length:Int) then (if x6_2<(x5_2.length:Int) then (r6_table.l1 k2 a0 x3_1 x4_1 (x5_2.set (x6_2:Int).toNat (wrap64 ((wrap64 (x6_2 * (rd (rd_L1 x3_1 (ji15)) x6_2)))+(rd (rd_L1 x3_1 (ji15)) (ji20))))) ji20) else (none)) else (none)) else (none))=some r:=by first|(rw [hji20] at H;exact H)|(simp only [hji20] at H ⊢;exact H)
              have hji20w:(IntKind.i64.wrap (x6_2+1))=ji20:=(i64_w _).trans hji20
              by_cases c21:0≤(ji20)
              ·rw [if_pos c21] at H
               have c21b0:decide (0≤(ji20))=true:=decide_eq_true c21;clear c21
               by_cases c22:(ji20)<((rd_L1 x3_1 (ji15)).length:Int)
               ·rw [if_pos c22] at H
                have c22b0:decide ((ji20)<((rd_L1 x3_1 (ji15)).length:Int))=true:=decide_eq_true c22;clear c22
                by_cases c23:x6_2<(x5_2.length:Int)
                ·rw [if_pos c23] at H
                 have c23b0:decide (x6_2<(x5_2.length:Int))=true:=decide_eq_true c23;clear c23;obtain ⟨y283,hy283⟩:∃ y_:List Int,y_=(x5_2.set (x6_2:Int).toNat (wrap64 ((wrap64 (x6_2 * (rd (rd_L1 x3_1 (ji15)) x6_2)))+(rd (rd_L1 x3_1 (ji15)) (ji20))))):=⟨_,rfl⟩
                 replace H:(r6_table.l1 k2 a0 x3_1 x4_1 y283 ji20)=some r:=by first|(rw [hy283];with_reducible exact H)|(have H2_:=(Option.bind_some _ _).symm.trans H;rw [hy283];with_reducible exact H2_)|(have H2_:=(Option.bind_some _ _).symm.trans H;with_reducible exact H2_)|with_reducible exact H|(rw [hy283];exact H)|exact H
                 have Ny283:=As0.mk hy283;clear hy283;have H':=As0.mk H;clear H
                 try go_wp2
                 have n0_:=As0.mk (Kd.S_drew HO_3.out);have n1_:=As0.mk (Kd.R_drew HO_5.out);have n2_:=As0.mk (y02 HB.out);clear HO_3;clear HO_5;clear HB;have HO_3:=n0_;have HO_5:=n1_;have HB:=n2_;clear n0_ n1_ n2_;obtain ⟨Ao26,co26,eo26⟩:=Kd.S_slice HO_3.out
                 (first|subst eo26|(injection eo26 with f1_ f2_ f3_;have f4_:=f1_.symm;have f5_:=f3_.symm;clear f1_ f2_ f3_;subst f4_;subst f5_))
                 have p279:0≤((ji15):Int):=of_decide_eq_true (by first|(with_reducible assumption)|assumption);have q279:(ji15)<(x3_1.length:Int):=of_decide_eq_true (by first|(with_reducible assumption)|assumption);obtain ⟨ad279,A279_0,c279_0,e279,hx279_0,hl279_0,hi279_0⟩:=at_L1 (Kd.S_reads' HO_3.out).2.2 (ji15) p279 q279;cases e279
                 obtain ⟨ce279,hce279,hMe279,hcc279⟩:=Kd.S_get HO_3.out [] (ji15) p279 (by first|exact q279|exact of_decide_eq_true (by first|(with_reducible assumption)|assumption)|(have e_:=(Kd.S_reads' HO_3.out).1;omega));obtain ⟨ve279_0,rfl,ge279_0⟩:=hMe279;have hv279_0:=hcc279 0 _ rfl;rw [Nat.add_zero,show ((Kd.slice 3 (Kd.int .i64))).sz=1 from rfl,Nat.mul_one] at hv279_0;replace hv279_0:=Option.some.inj (hv279_0.symm.trans hx279_0);rw [hv279_0] at ge279_0;have HL279_0:=As0.mk (show Kd.R (Kd.int .i64) 3 _ _ _ _ (rd_L1 x3_1 (ji15)) from ge279_0);clear hv279_0 ge279_0;clear hcc279 hce279;have HR279_0:=As0.mk hi279_0;have HC279_0:=As0.mk hl279_0;clear hi279_0 hl279_0;replace p279:=eq_true p279;replace q279:=eq_true q279;have p280:0≤(x6_2:Int):=of_decide_eq_true (by first|(with_reducible assumption)|assumption);have q280:x6_2<((rd_L1 x3_1 (ji15)).length:Int):=of_decide_eq_true (by first|(with_reducible assumption)|assumption);obtain ⟨ad280,e280,hx280_0⟩:=Kd.at_int (by repeat (first|(with_reducible exact HR279_0.out)|(with_reducible refine Kd.C_alloc ?_ _)|(with_reducible refine Kd.C_drewN ?_ _)|(with_reducible refine Kd.C_drew ?_)|exact HR279_0.out)) x6_2 p280 q280;cases e280
                 replace p280:=eq_true p280;replace q280:=eq_true q280;have p281:0≤((ji15):Int):=of_decide_eq_true (by first|(with_reducible assumption)|assumption);have q281:(ji15)<(x3_1.length:Int):=of_decide_eq_true (by first|(with_reducible assumption)|assumption);obtain ⟨ad281,A281_0,c281_0,e281,hx281_0,hl281_0,hi281_0⟩:=at_L1 (Kd.S_reads' HO_3.out).2.2 (ji15) p281 q281;obtain rfl:ad279=ad281:=(by injection e281)
                 obtain ⟨ce281,hce281,hMe281,hcc281⟩:=Kd.S_get HO_3.out [] (ji15) p281 (by first|exact q281|exact of_decide_eq_true (by first|(with_reducible assumption)|assumption)|(have e_:=(Kd.S_reads' HO_3.out).1;omega));obtain ⟨ve281_0,rfl,ge281_0⟩:=hMe281;have hv281_0:=hcc281 0 _ rfl;rw [Nat.add_zero,show ((Kd.slice 3 (Kd.int .i64))).sz=1 from rfl,Nat.mul_one] at hv281_0;replace hv281_0:=Option.some.inj (hv281_0.symm.trans hx281_0);rw [hv281_0] at ge281_0;have HL281_0:=As0.mk (show Kd.R (Kd.int .i64) 3 _ _ _ _ (rd_L1 x3_1 (ji15)) from ge281_0);clear hv281_0 ge281_0;clear hcc281 hce281;have HR281_0:=As0.mk hi281_0;have HC281_0:=As0.mk hl281_0;clear hi281_0 hl281_0;replace p281:=eq_true p281;replace q281:=eq_true q281;have ea_:=Option.some.inj (hx279_0.symm.trans hx281_0);injection ea_ with ea_ en_ ec_
                 subst ea_;subst ec_;clear en_;have p282:0≤((ji20):Int):=of_decide_eq_true (by first|(with_reducible assumption)|assumption);have q282:(ji20)<((rd_L1 x3_1 (ji15)).length:Int):=of_decide_eq_true (by first|(with_reducible assumption)|assumption);obtain ⟨ad282,e282,hx282_0⟩:=Kd.at_int (by repeat (first|(with_reducible exact HR281_0.out)|(with_reducible refine Kd.C_alloc ?_ _)|(with_reducible refine Kd.C_drewN ?_ _)|(with_reducible refine Kd.C_drew ?_)|exact HR281_0.out)) (ji20) p282 q282;cases e282
                 replace p282:=eq_true p282;replace q282:=eq_true q282;have p24:0≤(x6_2:Int):=of_decide_eq_true (by first|(with_reducible assumption)|assumption);have q24:(x6_2:Int)<((x5_2.length:Int):Int):=of_decide_eq_true (by first|(with_reducible assumption)|assumption);obtain ⟨go24,co24,eo24,gb24,gl24,cl24,HG24⟩:=Kd.R_form HO_5.out (by omega)
                 (first|cases eo24|(injection eo24 with ea_ en_ ec_;(first|subst ea_|(injection ea_ with ea_;subst ea_));subst ec_;clear en_))
                 have GB24:=As0.mk gb24;have GG24:=As0.mk HG24;clear gb24 gl24 HG24;obtain ⟨hx24_0,hf24_0⟩:=Kd.R_celln 0 HO_5.out (x6_2:Int) p24 q24;replace p24:=eq_true p24;replace q24:=eq_true q24;have HP27:=Kd.R_putn HO_5.out (x6_2:Int) (wrap64 ((wrap64 (x6_2 * (rd (rd_L1 x3_1 (ji15)) x6_2)))+(rd (rd_L1 x3_1 (ji15)) (ji20))));rw [← Ny283.out] at HP27;have HQ27:=As0.mk HP27;clear HP27;refine start_ (n:=24) (S:=fun w'=>w'.cell? (ad279.add ((ji15)).toNat)=some (.slice (some ad280) (rd_L1 x3_1 (ji15)).length c279_0)∧w'.cell? (ad280.add (x6_2).toNat)=some (.int .i64 (rd (rd_L1 x3_1 (ji15)) x6_2))∧w'.cell? (ad279.add ((ji15)).toNat)=some (.slice (some ad280) (rd_L1 x3_1 (ji15)).length c279_0)∧w'.cell? (ad280.add ((ji20)).toNat)=some (.int .i64 (rd (rd_L1 x3_1 (ji15)) (ji20)))) (ds:=[23]) #[false,false,false,false,false,false,false,false,false,false,false,false,false,false,false,false,false,false,false,false,false,false,false,false] (by kernel_rfl) rfl rfl ⟨hx279_0,hx280_0,hx281_0,hx282_0⟩ (fun hHeld=>?_);refine with_tabW r6_table.tab11 r6_table.bits11 (fun HT_ HW_=>?_);generalize wr.drew=w25 at HO_3 HO_5 HB GG24 HL279_0 HL281_0 HQ27 HR279_0 HR281_0 hf24_0 hx24_0 hx279_0 hx280_0 hx281_0 hx282_0 hHeld ⊢;refine pure_ (i:=0) (N:=some 29) (v:=?_) (a':=?_) #[true,false,false,false,false,false,false,false,false,false,false,false,false,false,false,false,false,false,false,false,false,false,false,false] rfl rfl (y0j HT_.out (by kernel_rfl)) (fun _ _ _ h=>h) (Or.inl ⟨by rfl,?_⟩) ?_ ?_;rotate_left
                 ·intro w'
                  go_simp
                  with_reducible rfl
                 rotate_left
                 ·simp only [Act.put,List.setIfInBounds_toArray,List.set_cons_zero,List.set_cons_succ,i64_w,i32_w]
                  rfl
                 refine pure_ (i:=1) (N:=some 30) (v:=?_) (a':=?_) #[true,true,false,false,false,false,false,false,false,false,false,false,false,false,false,false,false,false,false,false,false,false,false,false] rfl rfl (y0j HT_.out (by kernel_rfl)) (fun _ _ _ h=>h) (Or.inl ⟨by rfl,?_⟩) ?_ ?_;rotate_left
                 ·intro w'
                  go_simp
                  with_reducible rfl
                 rotate_left
                 ·simp only [Act.put,List.setIfInBounds_toArray,List.set_cons_zero,List.set_cons_succ,i64_w,i32_w]
                  rfl
                 refine pure_ (i:=2) (N:=some 31) (v:=?_) (a':=?_) #[true,true,true,false,false,false,false,false,false,false,false,false,false,false,false,false,false,false,false,false,false,false,false,false] rfl rfl (y0j HT_.out (by kernel_rfl)) (fun _ _ _ h=>h) (Or.inl ⟨by rfl,?_⟩) ?_ ?_;rotate_left
                 ·intro w'
                  go_simp
                  with_reducible rfl
                 rotate_left
                 ·simp only [Act.put,List.setIfInBounds_toArray,List.set_cons_zero,List.set_cons_succ,i64_w,i32_w]
                  rfl
                 refine pure_ (i:=3) (N:=some 32) (v:=?_) (a':=?_) #[true,true,true,true,false,false,false,false,false,false,false,false,false,false,false,false,false,false,false,false,false,false,false,false] rfl rfl (y0j HT_.out (by kernel_rfl)) (fun _ _ _ h=>h) (Or.inl ⟨by rfl,?_⟩) ?_ ?_;rotate_left
                 ·intro w'
                  go_simp
                  with_reducible rfl
                 rotate_left
                 ·simp only [Act.put,List.setIfInBounds_toArray,List.set_cons_zero,List.set_cons_succ,i64_w,i32_w]
                  rfl
                 refine pure_ (i:=4) (N:=some 33) (v:=?_) (a':=?_) #[true,true,true,true,true,false,false,false,false,false,false,false,false,false,false,false,false,false,false,false,false,false,false,false] rfl rfl (y0j HT_.out (by kernel_rfl)) (fun _ _ _ h=>h) (Or.inl ⟨by rfl,?_⟩) ?_ ?_;rotate_left
                 ·intro w'
                  go_simp
                  with_reducible rfl
                 rotate_left
                 ·simp only [Act.put,List.setIfInBounds_toArray,List.set_cons_zero,List.set_cons_succ,i64_w,i32_w]
                  rfl
                 refine pure_ (i:=5) (N:=some 34) (v:=?_) (a':=?_) #[true,true,true,true,true,true,false,false,false,false,false,false,false,false,false,false,false,false,false,false,false,false,false,false] rfl rfl (y0j HT_.out (by kernel_rfl)) (fun _ _ _ h=>h) (Or.inl ⟨by rfl,?_⟩) ?_ ?_;rotate_left
                 ·intro w'
                  go_simp
                  with_reducible rfl
                 rotate_left
                 ·simp only [Act.put,List.setIfInBounds_toArray,List.set_cons_zero,List.set_cons_succ,i64_w,i32_w]
                  rfl
                 refine pure_ (i:=6) (N:=some 35) (v:=?_) (a':=?_) #[true,true,true,true,true,true,true,false,false,false,false,false,false,false,false,false,false,false,false,false,false,false,false,false] rfl rfl (y0j HT_.out (by kernel_rfl)) (fun _ _ _ h=>h) (Or.inl ⟨by rfl,?_⟩) ?_ ?_;rotate_left
                 ·intro w'
                  go_simp
                  with_reducible rfl
                 rotate_left
                 ·simp only [Act.put,List.setIfInBounds_toArray,List.set_cons_zero,List.set_cons_succ,i64_w,i32_w]
                  rfl
                 refine pure_ (i:=8) (N:=some 37) (v:=?_) (a':=?_) #[true,true,true,true,true,true,true,false,true,false,false,false,false,false,false,false,false,false,false,false,false,false,false,false] rfl rfl (y0j HT_.out (by kernel_rfl)) (fun _ _ _ h=>h) (Or.inl ⟨by rfl,?_⟩) ?_ ?_;rotate_left
                 ·intro w'
                  go_simp
                  with_reducible rfl
                 rotate_left
                 ·simp only [Act.put,List.setIfInBounds_toArray,List.set_cons_zero,List.set_cons_succ,i64_w,i32_w]
                  rfl
                 refine pure_ (i:=12) (N:=some 41) (v:=?_) (a':=?_) #[true,true,true,true,true,true,true,false,true,false,false,false,true,false,false,false,false,false,false,false,false,false,false,false] rfl rfl (y0j HT_.out (by kernel_rfl)) (fun _ _ _ h=>h) (Or.inl ⟨by rfl,?_⟩) ?_ ?_;rotate_left
                 ·intro w'
                  go_simp
                  with_reducible rfl
                 rotate_left
                 ·simp only [Act.put,List.setIfInBounds_toArray,List.set_cons_zero,List.set_cons_succ,i64_w,i32_w]
                  rfl
                 refine pure_ (i:=13) (N:=some 42) (v:=?_) (a':=?_) #[true,true,true,true,true,true,true,false,true,false,false,false,true,true,false,false,false,false,false,false,false,false,false,false] rfl rfl (y0j HT_.out (by kernel_rfl)) (fun _ _ _ h=>h) (Or.inl ⟨by rfl,?_⟩) ?_ ?_;rotate_left
                 ·intro w'
                  go_simp
                  with_reducible rfl
                 rotate_left
                 ·simp only [Act.put,List.setIfInBounds_toArray,List.set_cons_zero,List.set_cons_succ,i64_w,i32_w]
                  rfl
                 refine pure_ (i:=14) (N:=some 43) (v:=?_) (a':=?_) #[true,true,true,true,true,true,true,false,true,false,false,false,true,true,true,false,false,false,false,false,false,false,false,false] rfl rfl (y0j HT_.out (by kernel_rfl)) (fun _ _ _ h=>h) (Or.inl ⟨by rfl,?_⟩) ?_ ?_;rotate_left
                 ·intro w'
                  go_simp
                  with_reducible rfl
                 rotate_left
                 ·simp only [Act.put,List.setIfInBounds_toArray,List.set_cons_zero,List.set_cons_succ,i64_w,i32_w]
                  rfl
                 refine pure_ (i:=15) (N:=some 44) (v:=?_) (a':=?_) #[true,true,true,true,true,true,true,false,true,false,false,false,true,true,true,true,false,false,false,false,false,false,false,false] rfl rfl (y0j HT_.out (by kernel_rfl)) (fun _ _ _ h=>h) (Or.inl ⟨by rfl,?_⟩) ?_ ?_;rotate_left
                 ·intro w'
                  go_simp
                  with_reducible rfl
                 rotate_left
                 ·simp only [Act.put,List.setIfInBounds_toArray,List.set_cons_zero,List.set_cons_succ,i64_w,i32_w]
                  rfl
                 refine pure_ (i:=17) (N:=some 46) (v:=?_) (a':=?_) #[true,true,true,true,true,true,true,false,true,false,false,false,true,true,true,true,false,true,false,false,false,false,false,false] rfl rfl (y0j HT_.out (by kernel_rfl)) (fun _ _ _ h=>h) (Or.inl ⟨by rfl,?_⟩) ?_ ?_;rotate_left
                 ·intro w'
                  go_simp
                  with_reducible rfl
                 rotate_left
                 ·simp only [Act.put,List.setIfInBounds_toArray,List.set_cons_zero,List.set_cons_succ,i64_w,i32_w]
                  rfl
                 refine pure_ (i:=18) (N:=some 47) (v:=?_) (a':=?_) #[true,true,true,true,true,true,true,false,true,false,false,false,true,true,true,true,false,true,true,false,false,false,false,false] rfl rfl (y0j HT_.out (by kernel_rfl)) (fun _ _ _ h=>h) (Or.inl ⟨by rfl,?_⟩) ?_ ?_;rotate_left
                 ·intro w'
                  go_simp
                  with_reducible rfl
                 rotate_left
                 ·simp only [Act.put,List.setIfInBounds_toArray,List.set_cons_zero,List.set_cons_succ,i64_w,i32_w]
                  rfl
                 refine take_ (i:=7) (N:=some 36) (v:=?_) (a':=?_) #[true,true,true,true,true,true,true,true,true,false,false,false,true,true,true,true,false,true,true,false,false,false,false,false] rfl rfl (take_ofW HT_.out HW_.out (by kernel_rfl)) (fun _ _ _ h=>h) (Or.inl ⟨by rfl,?_⟩) hHeld ?_ ?_;rotate_left
                 ·rintro w' ⟨s0,s1,s2,s3⟩
                  go_simp
                  with_reducible rfl
                 rotate_left
                 ·simp only [Act.put,List.setIfInBounds_toArray,List.set_cons_zero,List.set_cons_succ,i64_w,i32_w]
                  rfl
                 refine pure_ (i:=9) (N:=some 38) (v:=?_) (a':=?_) #[true,true,true,true,true,true,true,true,true,true,false,false,true,true,true,true,false,true,true,false,false,false,false,false] rfl rfl (y0j HT_.out (by kernel_rfl)) (fun _ _ _ h=>h) (Or.inl ⟨by rfl,?_⟩) ?_ ?_;rotate_left
                 ·intro w'
                  go_simp
                  with_reducible rfl
                 rotate_left
                 ·simp only [Act.put,List.setIfInBounds_toArray,List.set_cons_zero,List.set_cons_succ,i64_w,i32_w]
                  rfl
                 refine take_ (i:=10) (N:=some 39) (v:=?_) (a':=?_) #[true,true,true,true,true,true,true,true,true,true,true,false,true,true,true,true,false,true,true,false,false,false,false,false] rfl rfl (take_ofW HT_.out HW_.out (by kernel_rfl)) (fun _ _ _ h=>h) (Or.inl ⟨by rfl,?_⟩) hHeld ?_ ?_;rotate_left
                 ·rintro w' ⟨s0,s1,s2,s3⟩
                  go_simp
                  with_reducible rfl
                 rotate_left
                 ·simp only [Act.put,List.setIfInBounds_toArray,List.set_cons_zero,List.set_cons_succ,i64_w,i32_w]
                  rfl
                 refine pure_ (i:=11) (N:=some 40) (v:=?_) (a':=?_) #[true,true,true,true,true,true,true,true,true,true,true,true,true,true,true,true,false,true,true,false,false,false,false,false] rfl rfl (y0j HT_.out (by kernel_rfl)) (fun _ _ _ h=>h) (Or.inl ⟨by rfl,?_⟩) ?_ ?_;rotate_left
                 ·intro w'
                  go_simp
                  with_reducible rfl
                 rotate_left
                 ·simp only [Act.put,List.setIfInBounds_toArray,List.set_cons_zero,List.set_cons_succ,i64_w,i32_w]
                  rfl
                 refine take_ (i:=16) (N:=some 45) (v:=?_) (a':=?_) #[true,true,true,true,true,true,true,true,true,true,true,true,true,true,true,true,true,true,true,false,false,false,false,false] rfl rfl (take_ofW HT_.out HW_.out (by kernel_rfl)) (fun _ _ _ h=>h) (Or.inl ⟨by rfl,?_⟩) hHeld ?_ ?_;rotate_left
                 ·rintro w' ⟨s0,s1,s2,s3⟩
                  go_simp
                  with_reducible rfl
                 rotate_left
                 ·simp only [Act.put,List.setIfInBounds_toArray,List.set_cons_zero,List.set_cons_succ,i64_w,i32_w]
                  rfl
                 refine pure_ (i:=19) (N:=some 48) (v:=?_) (a':=?_) #[true,true,true,true,true,true,true,true,true,true,true,true,true,true,true,true,true,true,true,true,false,false,false,false] rfl rfl (y0j HT_.out (by kernel_rfl)) (fun _ _ _ h=>h) (Or.inl ⟨by rfl,?_⟩) ?_ ?_;rotate_left
                 ·intro w'
                  go_simp
                  with_reducible rfl
                 rotate_left
                 ·simp only [Act.put,List.setIfInBounds_toArray,List.set_cons_zero,List.set_cons_succ,i64_w,i32_w]
                  rfl
                 refine take_ (i:=20) (N:=some 49) (v:=?_) (a':=?_) #[true,true,true,true,true,true,true,true,true,true,true,true,true,true,true,true,true,true,true,true,true,false,false,false] rfl rfl (take_ofW HT_.out HW_.out (by kernel_rfl)) (fun _ _ _ h=>h) (Or.inl ⟨by rfl,?_⟩) hHeld ?_ ?_;rotate_left
                 ·rintro w' ⟨s0,s1,s2,s3⟩
                  go_simp
                  with_reducible rfl
                 rotate_left
                 ·simp only [Act.put,List.setIfInBounds_toArray,List.set_cons_zero,List.set_cons_succ,i64_w,i32_w]
                  rfl
                 refine pure_ (i:=21) (N:=some 50) (v:=?_) (a':=?_) #[true,true,true,true,true,true,true,true,true,true,true,true,true,true,true,true,true,true,true,true,true,true,false,false] rfl rfl (y0j HT_.out (by kernel_rfl)) (fun _ _ _ h=>h) (Or.inl ⟨by rfl,?_⟩) ?_ ?_;rotate_left
                 ·intro w'
                  go_simp
                  with_reducible rfl
                 rotate_left
                 ·simp only [Act.put,List.setIfInBounds_toArray,List.set_cons_zero,List.set_cons_succ,i64_w,i32_w]
                  rfl
                 refine pure_ (i:=22) (N:=some 51) (v:=?_) (a':=?_) #[true,true,true,true,true,true,true,true,true,true,true,true,true,true,true,true,true,true,true,true,true,true,true,false] rfl rfl (y0j HT_.out (by kernel_rfl)) (fun _ _ _ h=>h) (Or.inl ⟨by rfl,?_⟩) ?_ ?_;rotate_left
                 ·intro w'
                  go_simp
                  with_reducible rfl
                 rotate_left
                 ·simp only [Act.put,List.setIfInBounds_toArray,List.set_cons_zero,List.set_cons_succ,i64_w,i32_w]
                  rfl
                 refine last_ (i:=23) (N:=none) #[true,true,true,true,true,true,true,true,true,true,true,true,true,true,true,true,true,true,true,true,true,true,true,true] rfl rfl (one_of HT_.out (by kernel_rfl)) (by decide) (fun K hK=>?_);refine skip_ (w1:=?_) (by rfl) rfl ?_ ?_;rotate_left
                 ·go_simp
                  rfl
                 refine hK.out _ _ ?_;clear hK K;refine done_ (done_of HT_.out (by kernel_rfl)) ?_
                 try go_wp2
                 go_roundg k2
                 case measure=>have:=HK1.out;have:=HK2.out;omega
                 case rel=>exact ⟨(y283),(ji20),(by first|rfl|(simp;done)|(simp only [← hji20]<;>(first|rfl|simp))|(simp [*];done)),H',⟨by have:=HK1.out;have:=HK2.out;omega⟩,⟨by (with_reducible repeat (first|apply Kd.S_alloc|apply Kd.S_drewN|apply Kd.S_drew));exact Kd.S_mono (Kd.S_far (p:=⟨go24,(x6_2:Int).toNat,none⟩) (Kd.S_mono HO_3.out (fun k_ hk=>(⟨hk,fun e_=>hk (by rw [e_];rfl)⟩:_∧k_≠go24))) (fun _ hk=>hk.2) (.int .i64 (wrap64 ((wrap64 (x6_2 * (rd (rd_L1 x3_1 (ji15)) x6_2)))+(rd (rd_L1 x3_1 (ji15)) (ji20)))))) (fun _ hk=>hk.1)⟩,⟨by (with_reducible repeat (first|apply Kd.R_alloc|apply Kd.R_drewN|apply Kd.R_drew));exact HQ27.out⟩,⟨by repeat (first|(with_reducible first|exact HB.out|apply y01|apply y00|apply y02|refine y0d ?_ GB24.out)|exact HB.out)⟩⟩
                ·rw [if_neg c23] at H
                 exact absurd H (by simp)
               ·rw [if_neg c22] at H
                exact absurd H (by simp)
              ·rw [if_neg c21] at H
               exact absurd H (by simp)
             ·rw [if_neg c19] at H
              exact absurd H (by simp)
            ·rw [if_neg c18] at H
             exact absurd H (by simp)
           ·rw [if_neg c17] at H
            exact absurd H (by simp)
          ·rw [if_neg c16] at H
           exact absurd H (by simp)
        ·rw [if_neg c8] at H
         have c8b0:decide (x6_2≤(wrap64 (a0 - x4_1)))=false:=decide_eq_false c8;clear c8
         by_cases c28:x3_1.length<5864062014805
         ·rw [if_pos c28] at H
          have LMc28:=As0.mk c28;clear c28;obtain ⟨y284,hy284⟩:∃ y_:List (List Int),y_=(x3_1 ++ [x5_2]):=⟨_,rfl⟩
          replace H:(r6_table.l0 k2 a0 y284 (wrap64 (x4_1+1)))=some r:=by first|(rw [hy284];with_reducible exact H)|(have H2_:=(Option.bind_some _ _).symm.trans H;rw [hy284];with_reducible exact H2_)|(have H2_:=(Option.bind_some _ _).symm.trans H;with_reducible exact H2_)|with_reducible exact H|(rw [hy284];exact H)|exact H
          have Ny284:=As0.mk hy284;clear hy284;have H':=As0.mk H;clear H;obtain ⟨Ao30,co30,eo30⟩:=Kd.R_slice HO_5.out;subst eo30;go_wp2_with (first|((with_reducible refine y0l (b:=.append) (xs:=#[.tmp 52,.tmp 54]) rfl ?_);at_builtin;refine Kd.S_append (Kd.slice 3 (Kd.int .i64)) (w0:=w) w.heap.size rfl (.tmp 52) (.tmp 54) 50 29 (.slice none 0 0) 24 rfl Tra.underlying50 info29 rfl (by decide) (by omega) u3 x3_1 x5_2 [.slice Ao30 x5_2.length co30] (fun _=>True) (fun k_=>some k_=(.slice Ao30 x5_2.length co30:Value).ownBlock) rfl rfl ?aP (fun k_ hk_=>((Kd.R_mono (ok':=fun k_=>((fun _=>True)) k_∧some k_≠(u3:Value).ownBlock) (Kd.R_apart' (HO_5.out) (Kd.S_typed HO_3.out) (by decide)) (fun k_ hk=>⟨trivial,hk.2⟩))).1 k_ hk_.symm) ?aF ?aO ?aB ?aS ?aL ?_;(case aP=>exact Kd.M_row (Kd.R_mono (Kd.R_tight rfl (Kd.R_mono (ok':=fun k_=>((fun _=>True)) k_∧some k_≠(u3:Value).ownBlock) (Kd.R_apart' (HO_5.out) (Kd.S_typed HO_3.out) (by decide)) (fun k_ hk=>⟨trivial,hk.2⟩))) (fun _ h_=>h_)));(case aB=>exact (by repeat (first|(with_reducible first|exact HB.out|apply y01|apply y00|apply y02)|exact HB.out)));(case aF=>exact (fun _ _=>trivial));(case aO=>exact (by (with_reducible repeat (first|apply Kd.S_alloc|apply Kd.S_drewN|apply Kd.S_drew));exact Kd.S_mono HO_3.out (fun k_ hk=>⟨trivial,fun e_=>hk e_⟩)));(case aS=>exact (y09 (by repeat (first|(with_reducible first|exact HB.out|apply y01|apply y00|apply y02)|exact HB.out))));(case aL=>have:=LMc28.out;omega);intro v285 w29 ho hb hg hat;rw [← Ny284.out] at ho;have n0_:=As0.mk (hb);have n1_:=As0.mk (ho);clear HB;clear HO_3;clear HO_5;have HB:=n0_;have HO286:=n1_;clear n0_ n1_;clear ho hb hg hat))
          go_roundg k2
          case measure=>have:=HK1.out;have:=HK2.out;omega
          case rel=>exact ⟨(y284),(wrap64 (x4_1+1)),(by first|rfl|(simp;done)|(simp [*];done)),H',⟨by have:=HK1.out;have:=HK2.out;omega⟩,⟨by (with_reducible repeat (first|apply Kd.S_alloc|apply Kd.S_drewN|apply Kd.S_drew));exact HO286.out⟩,⟨by repeat (first|(with_reducible first|exact HB.out|apply y01|apply y00|apply y02)|exact HB.out)⟩⟩
         ·rw [if_neg c28] at H
          exact absurd H (by simp)
     ·rw [if_neg c5] at H
      exact absurd H (by simp)
    ·rw [if_neg c4] at H
     exact absurd H (by simp)
   ·rw [if_neg c2] at H
    have c2b0:decide (x4_1≤a0)=false:=decide_eq_false c2;clear c2;obtain rfl:=Option.some.inj H;go_wp2
    go_ret
    exact ⟨_,by first|rfl|(simp [y07,y06]<;>rfl)|(simp [*,y07,y06]<;>rfl),by (with_reducible repeat (first|apply Kd.S_alloc|apply Kd.S_drewN|apply Kd.S_drew));exact HO_3.out,by repeat (first|(with_reducible first|exact HB.out|apply y01|apply y00|apply y02)|exact HB.out)⟩
end Go.Proofs.Ytdhgeondbnpeoaa.P
namespace Go.Proofs.Ytdhgeondbnpeoaa.P
open Go.RowKit Go.Proofs.YtdhgeondbnpeoaaW.PrintWords Go.Proofs.YtdhgeondbnpeoaaW.PrintLast Go.Proofs.YtdhgeondbnpeoaaW.PrintMore
attribute [local go_sem] y0y y0w max_two min_two y0n y0m y0x y0v
def mobs_number_2_int.f (l0:List S89):Option (List Int):=if (∀ p ∈ l0,Ext.In64 p.f0∧Ext.In64 p.f1)∧l0.length<17592186044416 then some (Ext.numL (l0.map fun p=>(p.f0,p.f1))) else none
theorem reads2_of {w:World} {A:Option Addr} {l:List S89} (h:Kd.C k89 w A l.length l):Ext.Reads2 w A (l.map fun p=>(p.f0,p.f1)):=by
 intro hn;rw [List.length_map] at hn;obtain ⟨ad,hA,hc⟩:=h.2.2 hn;refine ⟨ad,hA,fun j p hj=>?_⟩;rw [List.getElem?_map] at hj;obtain ⟨q,hq,rfl⟩:=Option.map_eq_some_iff.1 hj;obtain ⟨c,hs,hr,hcell⟩:=hc j q hq;obtain rfl:=k89_open hr;have e:k89.sz=2:=rfl;rw [e] at hcell;exact ⟨hcell 0 _ rfl,hcell 1 _ rfl⟩
theorem mobs_number_2_int.own (A0:Option Addr) (c0:Nat) (l0:List S89) (r1:List Int) (w:World) (hr0:Kd.C k89 w A0 l0.length l0) (hc0:l0.length≤c0) (h:mobs_number_2_int.f l0=some r1) :
  Calls Tra.prog 84 #[.slice A0 l0.length c0] w fun e w'=>∃ v0_:Value,e=.returned v0_∧Ext.OwnI w' w.heap.size v0_ r1∧Below w.heap.size w w':=by
 unfold mobs_number_2_int.f at h;split at h
 ·rename_i hL
  obtain rfl:=Option.some.inj h;exact (by have:=Ext.num2_all A0 c0 (l0.map fun p=>(p.f0,p.f1)) w (reads2_of hr0) (by simpa using hL.1) (by simpa using hL.2);rwa [List.length_map] at this)
 ·cases h
end Go.Proofs.Ytdhgeondbnpeoaa.P
namespace Go.Proofs.Ytdhgeondbnpeoaa.P
open Go.RowKit Go.Proofs.YtdhgeondbnpeoaaW.PrintWords Go.Proofs.YtdhgeondbnpeoaaW.PrintLast Go.Proofs.YtdhgeondbnpeoaaW.PrintMore
attribute [local go_sem] y0y y0w max_two min_two y0n y0m y0x y0v
def mobs_below.l0:Nat->List Int->List Int->List (S89)->Int->Int->Option (List Int)
 |0,_,_,_,_,_=>none
 |k+1,x0,x1,x5,x8,x9=>if x9<x8 then (if 0≤x9 then (if x9<(x0.length:Int) then (if x9<(x1.length:Int) then (if x5.length<8796093022208 then (mobs_below.l0 k x0 x1 (x5 ++ [(⟨rd x0 x9,rd x1 x9⟩:S89)]) x8 (wrap64 (x9+1))) else (none)) else (none)) else (none)) else (none)) else ((mobs_number_2_int.f x5).bind fun t605=>(some t605))
def mobs_below.f (k:Nat) (l0:List Int) (l1:List Int):Option (List Int):=mobs_below.l0 k l0 l1 ([]:List (S89)) (l0.length:Int) 0
def mobs_below.T5:Bool × List (List Nat × List Nat):=(true,[([],[]),([],[]),([],[]),([1,2],[1,2]),([3],[3]),([],[]),([],[]),([5,6],[5,6]),([7],[7]),([4,8],[4,8]),([9],[9]),([0,10],[0,10]),([11,11,0,1,2,3,4,5,6,7,8,9,10,11],[0,11])])
def mobs_below.B5:List Nat:=[0,0,0,6,14,0,0,96,224,510,1022,2047,4095]
theorem mobs_below.tab5:rtab .any (opsOf Tra.f63 5)=mobs_below.T5:=by kernel_rfl
theorem mobs_below.bits5:waitsOk mobs_below.T5.2 mobs_below.B5=true:=by kernel_rfl
set_option maxHeartbeats 8000000 in
set_option maxRecDepth 100000 in
theorem mobs_below.flat (k:Nat) (A0:Option Addr) (c0:Nat) (l0:List Int) (A1:Option Addr) (c1:Nat) (l1:List Int) (r:List Int) (w:World) (hr0:Kd.C (Kd.int .i64) w A0 l0.length l0) (hc0:l0.length≤c0) (hr1:Kd.C (Kd.int .i64) w A1 l1.length l1) (hc1:l1.length≤c1) (h:mobs_below.f k l0 l1=some r) :
  Calls Tra.prog 63 #[.slice A0 l0.length c0,.slice A1 l1.length c1] w fun e w'=>∃ v0_:Value,e=.returned (v0_)∧Ext.OwnI w' w.heap.size v0_ r∧Below w.heap.size w w':=by
 have hu89:=Tra.underlying89;have HR0:=As0.mk hr0;have HC0:=As0.mk hc0;clear hr0 hc0;have HR1:=As0.mk hr1;have HC1:=As0.mk hc1;clear hr1 hc1;have HB:=As0.mk (Below.refl w.heap.size w);have H:(mobs_below.l0 k l0 l1 ([]:List (S89)) (l0.length:Int) 0)=some r:=h;clear h;have H':=As0.mk H;clear H;go_enter Tra.func63,Tra.ntmps63
 go_wp2
 go_loopg [5,9] k (fun kq v5 v9 w'=>∃ (x5_1:List (S89)) (x9_1:Int),v9=.int .i64 x9_1∧As0 (mobs_below.l0 kq l0 l1 x5_1 (l0.length:Int) x9_1=some r)∧As0 (kq≤k)∧As0 (Kd.R k89 89 w' w.heap.size (fun _=>True) v5 x5_1)∧As0 (Below w.heap.size w w'))
 case atStart=>exact ⟨(([]:List (S89))),(0),(by first|rfl|(simp;done)|(simp [*];done)),H',⟨Nat.le_refl _⟩,⟨by first|exact Kd.R_nil _ _ _ _ _|exact Kd.N_nil _ _ _ _ _|exact Kd.V_nil _ _ _ _ _|exact Kd.Q_nil _ _ _ _ _|exact Kd.S_nil _ _ _ _ _⟩,⟨by repeat (first|(with_reducible first|exact HB.out|apply y01|apply y00|apply y02)|exact HB.out)⟩⟩
 case round =>
  clear H'
  try clear c1
  try clear p2
  obtain ⟨x5_1,x9_1,rfl,HA,HK1,HO_5,HB⟩:=hrel;cases gk with
  |zero=>exact absurd HA.out (by simp [mobs_below.l0])
  |succ k1 =>
   have H:=HA.out;clear HA;simp only [mobs_below.l0] at H
   by_cases c3:x9_1<(l0.length:Int)
   ·rw [if_pos c3] at H
    have c3b0:decide (x9_1<(l0.length:Int))=true:=decide_eq_true c3;clear c3
    by_cases c4:0≤x9_1
    ·rw [if_pos c4] at H
     have c4b0:decide (0≤x9_1)=true:=decide_eq_true c4;clear c4
     by_cases c5:x9_1<(l0.length:Int)
     ·rw [if_pos c5] at H
      have c5b0:decide (x9_1<(l0.length:Int))=true:=decide_eq_true c5;clear c5
      by_cases c6:x9_1<(l1.length:Int)
      ·rw [if_pos c6] at H
       have c6b0:decide (x9_1<(l1.length:Int))=true:=decide_eq_true c6;clear c6
       by_cases c7:x5_1.length<8796093022208
       ·rw [if_pos c7] at H
        have LMc7:=As0.mk c7;clear c7;obtain ⟨y602,hy602⟩:∃ y_:List (S89),y_=(x5_1 ++ [(⟨rd l0 x9_1,rd l1 x9_1⟩:S89)]):=⟨_,rfl⟩
        replace H:(mobs_below.l0 k1 l0 l1 y602 (l0.length:Int) (wrap64 (x9_1+1)))=some r:=by first|(rw [hy602];with_reducible exact H)|(have H2_:=(Option.bind_some _ _).symm.trans H;rw [hy602];with_reducible exact H2_)|(have H2_:=(Option.bind_some _ _).symm.trans H;with_reducible exact H2_)|with_reducible exact H|(rw [hy602];exact H)|exact H
        have Ny602:=As0.mk hy602;clear hy602;have H':=As0.mk H;clear H
        try go_wp2
        have n0_:=As0.mk (Kd.R_drew HO_5.out);have n1_:=As0.mk (y02 HB.out);clear HO_5;clear HB;have HO_5:=n0_;have HB:=n1_;clear n0_ n1_;have p600:0≤(x9_1:Int):=of_decide_eq_true (by first|(with_reducible assumption)|assumption);have q600:x9_1<(l0.length:Int):=of_decide_eq_true (by first|(with_reducible assumption)|assumption);obtain ⟨ad600,e600,hx600_0⟩:=Kd.at_int HR0.out x9_1 p600 q600;have hw600_0:=hx600_0;cases e600
        replace hx600_0:=(HB.out.cell (World.block_lt_of_cell? w _ hx600_0)).trans hx600_0;replace p600:=eq_true p600;replace q600:=eq_true q600;have p601:0≤(x9_1:Int):=of_decide_eq_true (by first|(with_reducible assumption)|assumption);have q601:x9_1<(l1.length:Int):=of_decide_eq_true (by first|(with_reducible assumption)|assumption);obtain ⟨ad601,e601,hx601_0⟩:=Kd.at_int HR1.out x9_1 p601 q601;have hw601_0:=hx601_0;cases e601
        replace hx601_0:=(HB.out.cell (World.block_lt_of_cell? w _ hx601_0)).trans hx601_0;replace p601:=eq_true p601;replace q601:=eq_true q601;refine start_ (n:=13) (S:=fun w'=>w'.cell? (ad600.add (x9_1).toNat)=some (.int .i64 (rd l0 x9_1))∧w'.cell? (ad601.add (x9_1).toNat)=some (.int .i64 (rd l1 x9_1))) (ds:=[]) #[false,false,false,false,false,false,false,false,false,false,false,false,false] (by kernel_rfl) rfl rfl ⟨((HB.out.cell (World.block_lt_of_cell? w _ hw600_0)).trans hw600_0),((HB.out.cell (World.block_lt_of_cell? w _ hw601_0)).trans hw601_0)⟩ (fun hHeld=>?_);refine with_tabW mobs_below.tab5 mobs_below.bits5 (fun HT_ HW_=>?_);generalize wr.drew=w8 at HO_5 HB hx600_0 hx601_0 hHeld ⊢;refine pure_ (i:=0) (N:=some 12) (v:=?_) (a':=?_) #[true,false,false,false,false,false,false,false,false,false,false,false,false] rfl rfl (y0j HT_.out (by kernel_rfl)) (fun _ _ _ h=>h) (Or.inl ⟨by rfl,?_⟩) ?_ ?_;rotate_left
        ·intro w'
         go_simp
         with_reducible rfl
        rotate_left
        ·simp only [Act.put,List.setIfInBounds_toArray,List.set_cons_zero,List.set_cons_succ,i64_w,i32_w]
         rfl
        refine pure_ (i:=1) (N:=some 13) (v:=?_) (a':=?_) #[true,true,false,false,false,false,false,false,false,false,false,false,false] rfl rfl (y0j HT_.out (by kernel_rfl)) (fun _ _ _ h=>h) (Or.inl ⟨by rfl,?_⟩) ?_ ?_;rotate_left
        ·intro w'
         go_simp
         with_reducible rfl
        rotate_left
        ·simp only [Act.put,List.setIfInBounds_toArray,List.set_cons_zero,List.set_cons_succ,i64_w,i32_w]
         rfl
        refine pure_ (i:=2) (N:=some 14) (v:=?_) (a':=?_) #[true,true,true,false,false,false,false,false,false,false,false,false,false] rfl rfl (y0j HT_.out (by kernel_rfl)) (fun _ _ _ h=>h) (Or.inl ⟨by rfl,?_⟩) ?_ ?_;rotate_left
        ·intro w'
         go_simp
         with_reducible rfl
        rotate_left
        ·simp only [Act.put,List.setIfInBounds_toArray,List.set_cons_zero,List.set_cons_succ,i64_w,i32_w]
         rfl
        refine pure_ (i:=3) (N:=some 15) (v:=?_) (a':=?_) #[true,true,true,true,false,false,false,false,false,false,false,false,false] rfl rfl (y0j HT_.out (by kernel_rfl)) (fun _ _ _ h=>h) (Or.inl ⟨by rfl,?_⟩) ?_ ?_;rotate_left
        ·intro w'
         go_simp
         with_reducible rfl
        rotate_left
        ·simp only [Act.put,List.setIfInBounds_toArray,List.set_cons_zero,List.set_cons_succ,i64_w,i32_w]
         rfl
        refine pure_ (i:=5) (N:=some 17) (v:=?_) (a':=?_) #[true,true,true,true,false,true,false,false,false,false,false,false,false] rfl rfl (y0j HT_.out (by kernel_rfl)) (fun _ _ _ h=>h) (Or.inl ⟨by rfl,?_⟩) ?_ ?_;rotate_left
        ·intro w'
         go_simp
         with_reducible rfl
        rotate_left
        ·simp only [Act.put,List.setIfInBounds_toArray,List.set_cons_zero,List.set_cons_succ,i64_w,i32_w]
         rfl
        refine pure_ (i:=6) (N:=some 18) (v:=?_) (a':=?_) #[true,true,true,true,false,true,true,false,false,false,false,false,false] rfl rfl (y0j HT_.out (by kernel_rfl)) (fun _ _ _ h=>h) (Or.inl ⟨by rfl,?_⟩) ?_ ?_;rotate_left
        ·intro w'
         go_simp
         with_reducible rfl
        rotate_left
        ·simp only [Act.put,List.setIfInBounds_toArray,List.set_cons_zero,List.set_cons_succ,i64_w,i32_w]
         rfl
        refine pure_ (i:=7) (N:=some 19) (v:=?_) (a':=?_) #[true,true,true,true,false,true,true,true,false,false,false,false,false] rfl rfl (y0j HT_.out (by kernel_rfl)) (fun _ _ _ h=>h) (Or.inl ⟨by rfl,?_⟩) ?_ ?_;rotate_left
        ·intro w'
         go_simp
         with_reducible rfl
        rotate_left
        ·simp only [Act.put,List.setIfInBounds_toArray,List.set_cons_zero,List.set_cons_succ,i64_w,i32_w]
         rfl
        refine take_ (i:=4) (N:=some 16) (v:=?_) (a':=?_) #[true,true,true,true,true,true,true,true,false,false,false,false,false] rfl rfl (take_ofW HT_.out HW_.out (by kernel_rfl)) (fun _ _ _ h=>h) (Or.inl ⟨by rfl,?_⟩) hHeld ?_ ?_;rotate_left
        ·rintro w' ⟨s0,s1⟩
         go_simp
         with_reducible rfl
        rotate_left
        ·simp only [Act.put,List.setIfInBounds_toArray,List.set_cons_zero,List.set_cons_succ,i64_w,i32_w]
         rfl
        refine take_ (i:=8) (N:=some 20) (v:=?_) (a':=?_) #[true,true,true,true,true,true,true,true,true,false,false,false,false] rfl rfl (take_ofW HT_.out HW_.out (by kernel_rfl)) (fun _ _ _ h=>h) (Or.inl ⟨by rfl,?_⟩) hHeld ?_ ?_;rotate_left
        ·rintro w' ⟨s0,s1⟩
         go_simp
         with_reducible rfl
        rotate_left
        ·simp only [Act.put,List.setIfInBounds_toArray,List.set_cons_zero,List.set_cons_succ,i64_w,i32_w]
         rfl
        refine pure_ (i:=9) (N:=some 21) (v:=?_) (a':=?_) #[true,true,true,true,true,true,true,true,true,true,false,false,false] rfl rfl (y0j HT_.out (by kernel_rfl)) (fun _ _ _ h=>h) (Or.inl ⟨by rfl,?_⟩) ?_ ?_;rotate_left
        ·intro w'
         go_simp
         with_reducible rfl
        rotate_left
        ·simp only [Act.put,List.setIfInBounds_toArray,List.set_cons_zero,List.set_cons_succ,i64_w,i32_w]
         rfl
        refine one_ (i:=10) (N:=some 22) #[true,true,true,true,true,true,true,true,true,true,true,false,false] rfl rfl (one_of HT_.out (by kernel_rfl)) (by decide) (fun K hK=>?_);refine value_ (w1:=?_) (v:=?_) (by rfl) rfl ?_ ?_;rotate_left 2
        ·go_simp
         constructor
         ·rfl
         ·rfl
        refine hK.out _ _ ⟨(World.cell?_alloc_lt _ _ _ (World.block_lt_of_cell? _ _ (((HB.out.cell (World.block_lt_of_cell? w _ hw600_0)).trans hw600_0)))).trans (((HB.out.cell (World.block_lt_of_cell? w _ hw600_0)).trans hw600_0)),(World.cell?_alloc_lt _ _ _ (World.block_lt_of_cell? _ _ (((HB.out.cell (World.block_lt_of_cell? w _ hw601_0)).trans hw601_0)))).trans (((HB.out.cell (World.block_lt_of_cell? w _ hw601_0)).trans hw601_0))⟩ (fun hHeld=>?_);clear hK K;refine norm_ (a':=?_) ?_ ?_;rotate_left
        ·show Act.put _ (some 22) _=_
         simp only [Act.put,List.setIfInBounds_toArray,List.set_cons_zero,List.set_cons_succ,i64_w,i32_w];rfl
        refine one_ (i:=11) (N:=some 23) #[true,true,true,true,true,true,true,true,true,true,true,true,false] rfl rfl (one_of HT_.out (by kernel_rfl)) (by decide) (fun K hK=>?_);refine Kd.R_append_step k89 (w0:=w) w.heap.size (by rfl) (.tmp 12) (.tmp 22) 88 89 (.agg #[(.int .i64 0),(.int .i64 0)]) 16 rfl Tra.underlying88 info89 rfl (by decide) (by omega) u5 x5_1 (⟨rd l0 x9_1,rd l1 x9_1⟩:S89) [.int .i64 (rd l0 x9_1),.int .i64 (rd l1 x9_1)] (fun _=>True) (fun _=>False) rfl rfl ?aP (fun _ hk=>hk.elim) ?aF ?aO ?aB ?aS ?aL ?_
        (case aP=>exact k89_mkM _ _ _ (⟨rd l0 x9_1,rd l1 x9_1⟩:S89))
        (case aB=>exact (by repeat (first|(with_reducible first|exact HB.out|apply y01|apply y00|apply y02)|exact HB.out)))
        (case aF=>exact (fun _ _=>trivial))
        (case aO=>exact (by (with_reducible repeat (first|apply Kd.R_alloc|apply Kd.R_drewN|apply Kd.R_drew));exact HO_5.out))
        (case aS=>exact (y09 (by repeat (first|(with_reducible first|exact HB.out|apply y01|apply y00|apply y02)|exact HB.out))))
        (case aL=>have:=LMc7.out;omega)
        intro v603 w9 ho hb hg hat;rw [← Ny602.out] at ho;have n0_:=As0.mk (hb);have n1_:=As0.mk (ho);clear HB;clear HO_5;have HB:=n0_;have HO604:=n1_;clear n0_ n1_;clear ho hb hg hat;refine hK.out _ _ ⟨((HB.out.cell (World.block_lt_of_cell? w _ hw600_0)).trans hw600_0),((HB.out.cell (World.block_lt_of_cell? w _ hw601_0)).trans hw601_0)⟩ (fun hHeld=>?_);clear hK K;refine norm_ (a':=?_) ?_ ?_;rotate_left
        ·show Act.put _ (some 23) _=_
         simp only [Act.put,List.setIfInBounds_toArray,List.set_cons_zero,List.set_cons_succ,i64_w,i32_w];rfl
        refine pure_ (i:=12) (N:=some 5) (v:=?_) (a':=?_) #[true,true,true,true,true,true,true,true,true,true,true,true,true] rfl rfl (y0j HT_.out (by kernel_rfl)) (fun _ _ _ h=>h) (Or.inl ⟨by rfl,?_⟩) ?_ ?_;rotate_left
        ·intro w'
         go_simp
         with_reducible rfl
        rotate_left
        ·simp only [Act.put,List.setIfInBounds_toArray,List.set_cons_zero,List.set_cons_succ,i64_w,i32_w]
         rfl
        refine done_ (done_of HT_.out (by kernel_rfl)) ?_
        try go_wp2
        go_roundg k1
        case measure=>have:=HK1.out;omega
        case rel=>exact ⟨(y602),(wrap64 (x9_1+1)),(by first|rfl|(simp;done)|(simp [*];done)),H',⟨by have:=HK1.out;omega⟩,⟨by (with_reducible repeat (first|apply Kd.R_alloc|apply Kd.R_drewN|apply Kd.R_drew));exact HO604.out⟩,⟨by repeat (first|(with_reducible first|exact HB.out|apply y01|apply y00|apply y02)|exact HB.out)⟩⟩
       ·rw [if_neg c7] at H
        exact absurd H (by simp)
      ·rw [if_neg c6] at H
       exact absurd H (by simp)
     ·rw [if_neg c5] at H
      exact absurd H (by simp)
    ·rw [if_neg c4] at H
     exact absurd H (by simp)
   ·rw [if_neg c3] at H
    have c3b0:decide (x9_1<(l0.length:Int))=false:=decide_eq_false c3;clear c3;replace H:=Option.bind_eq_some_iff.mp H;obtain ⟨t605,A100,H⟩:=H;replace H:(some t605)=some r:=H;have A10:=As0.mk A100;clear A100;obtain rfl:=Option.some.inj H;obtain ⟨Ao11,co11,eo11⟩:=Kd.R_slice HO_5.out;subst eo11;go_wp2_with (first|((with_reducible refine y0a (f:=84) rfl ?_);refine y0s (some 26) rfl rfl Tra.func84 (by kernel_rfl) rfl #[.slice Ao11 x5_1.length co11] rfl (by (try simp only [List.map_toArray,List.map_cons,List.map_nil]);first|done|rfl|(simp only [List.length_drop,List.length_take];rfl)) ?_;(with_reducible refine (mobs_number_2_int.own _ _ x5_1 t605 _ ?side1 ?side2 A10.out).mono ?_);(case side1=>repeat (first|exact (Kd.R_reads' HO_5.out).2.2|(with_reducible refine Kd.C_alloc ?_ _)|(with_reducible refine Kd.C_drewN ?_ _)|(with_reducible refine Kd.C_drew ?_)));(case side2=>exact (Kd.R_reads' HO_5.out).2.1);rintro e w12 ⟨v606,rfl,hoI_,hb⟩;have HOI_:=As0.mk (hoI_.lower (y09 (by repeat (first|(with_reducible first|exact HB.out|apply y01|apply y00|apply y02)|exact HB.out))));have ho0:=hoI_.toR;clear hoI_;refine ⟨_,rfl,?_⟩;have n0_:=As0.mk (Kd.R_below (by (with_reducible repeat (first|apply Kd.R_alloc|apply Kd.R_drewN|apply Kd.R_drew));exact HO_5.out) hb);have n1_:=As0.mk (Kd.R_lower ho0 (y09 (by repeat (first|(with_reducible first|exact HB.out|apply y01|apply y00|apply y02)|exact HB.out))));have n2_:=As0.mk (y08 (by repeat (first|(with_reducible first|exact HB.out|apply y01|apply y00|apply y02)|exact HB.out)) hb);clear HO_5;clear HB;have HO_5:=n0_;have HO607:=n1_;have HB:=n2_;clear n0_ n1_ n2_;(try clear hb);(try clear hb2);(try clear hk);(try clear hi);(try clear ho0)))
    go_ret
    exact ⟨_,by first|rfl|(simp [y07,y06]<;>rfl)|(simp [*,y07,y06]<;>rfl),HOI_.out,by repeat (first|(with_reducible first|exact HB.out|apply y01|apply y00|apply y02)|exact HB.out)⟩
end Go.Proofs.Ytdhgeondbnpeoaa.P
namespace Go.Proofs.Ytdhgeondbnpeoaa.Ext
open Go.RowKit Go.Proofs.YtdhgeondbnpeoaaW.PrintWords Go.Proofs.YtdhgeondbnpeoaaW.PrintLast Go.Proofs.YtdhgeondbnpeoaaW.PrintMore
attribute [local go_sem] y0y y0w max_two min_two y0n y0m y0x y0v
def swapL (x y:Int) (out:List Int):List Int:=out.map fun z=>if z=x then y else z
def swapTo (x y:Int) (out:List Int) (j:Nat):List Int:=swapL x y (out.take j) ++ out.drop j
def joinStep (b:List Int) (i k:Nat) (out:List Int):List Int:=if b.getD i 0≠b.getD k 0∨out.getD i 0=out.getD k 0 then out else swapL (out.getD i 0) (out.getD k 0) out
def joinIn (b:List Int) (i:Nat):Nat->List Int->List Int
 |0,o=>o
 |k+1,o=>joinStep b i k (joinIn b i k o)
def joinAll (b:List Int):Nat->List Int->List Int
 |0,o=>o
 |i+1,o=>joinIn b i i (joinAll b i o)
def aboveL (a b:List Int):List Int:=numL (joinAll b b.length a)
theorem swapL_len (x y:Int) (o:List Int):(swapL x y o).length=o.length:=by simp [swapL]
theorem swapTo_len (x y:Int) (o:List Int) (j:Nat):(swapTo x y o j).length=o.length:=by simp [swapTo,swapL_len];omega
theorem joinStep_len (b:List Int) (i k:Nat) (o:List Int):(joinStep b i k o).length=o.length:=by unfold joinStep;split<;>simp [swapL_len]
theorem joinIn_len (b:List Int) (i:Nat):∀ (k:Nat) (o:List Int),(joinIn b i k o).length=o.length
 |0,_=>rfl
 |k+1,o=>(joinStep_len b i k _).trans (joinIn_len b i k o)
theorem joinAll_len (b:List Int):∀ (i:Nat) (o:List Int),(joinAll b i o).length=o.length
 |0,_=>rfl
 |i+1,o=>(joinIn_len b i i _).trans (joinAll_len b i o)
theorem swapTo_zero (x y:Int) (o:List Int):swapTo x y o 0=o:=by simp [swapTo,swapL]
theorem swapTo_all (x y:Int) (o:List Int):swapTo x y o o.length=swapL x y o:=by simp [swapTo]
theorem swapTo_at (x y:Int) {o:List Int} {j:Nat} (h:j<o.length):(swapTo x y o j).getD j 0=o.getD j 0:=by
 have h1:(swapL x y (o.take j)).length=j:=by rw [swapL_len,List.length_take];omega
 unfold swapTo;rw [List.getD_eq_getElem?_getD,List.getElem?_append_right (by omega),h1,Nat.sub_self,List.getElem?_drop,List.getD_eq_getElem?_getD,Nat.add_zero]
theorem swapTo_succ (x y:Int) {o:List Int} {j:Nat} (h:j<o.length):swapTo x y o (j+1)=(swapTo x y o j).set j (if o.getD j 0=x then y else o.getD j 0):=by
 have h1:(swapL x y (o.take j)).length=j:=by rw [swapL_len,List.length_take];omega
 unfold swapTo;rw [List.set_append,if_neg (by omega),h1,Nat.sub_self,List.drop_eq_getElem_cons h,List.set_cons_zero,List.take_succ_eq_append_getElem h];rw [List.getD_eq_getElem?_getD,List.getElem?_eq_getElem h];unfold swapL;rw [List.map_append,List.append_assoc];rfl
theorem swapTo_same (x y:Int) {o:List Int} {j:Nat} (h:j<o.length) (hne:o.getD j 0≠x):swapTo x y o (j+1)=swapTo x y o j:=by
 rw [swapTo_succ x y h,if_neg hne,← swapTo_at x y h];have hl:j<(swapTo x y o j).length:=by rw [swapTo_len];exact h
 rw [List.getD_eq_getElem?_getD,List.getElem?_eq_getElem hl,Option.getD_some,List.set_getElem_self]
theorem mem_join {b:List Int} {p:Int->Prop}:∀ {i:Nat} {o:List Int},(∀ x ∈ o,p x)->p 0->∀ x ∈ joinAll b i o,p x:=by
 have hg:∀ {o:List Int} (i:Nat),(∀ x ∈ o,p x)->p 0->p (o.getD i 0):=by
  intro o i h h0;rw [List.getD_eq_getElem?_getD];cases hi:o[i]? with
  |none=>exact h0
  |some v=>exact h v (List.mem_of_getElem? hi)
 have hs:∀ {i k:Nat} {o:List Int},(∀ x ∈ o,p x)->p 0->∀ x ∈ joinStep b i k o,p x:=by
  intro i k o h h0 x hx;unfold joinStep at hx;split at hx
  ·exact h x hx
  ·simp only [swapL,List.mem_map] at hx
   obtain ⟨z,hz,rfl⟩:=hx;split
   ·exact hg k h h0
   ·exact h z hz
 have hi:∀ {i:Nat} (k:Nat) {o:List Int},(∀ x ∈ o,p x)->p 0->∀ x ∈ joinIn b i k o,p x:=by
  intro i k
  induction k with
  |zero=>intro o h _;exact h
  |succ k ih=>intro o h h0;exact hs (ih h h0) h0
 intro i
 induction i with
 |zero=>intro o h _;exact h
 |succ i ih=>intro o h h0;exact hi i (ih h h0) h0
set_option maxHeartbeats 8000000 in
set_option maxRecDepth 100000 in
theorem above_all (A:Option Addr) (c:Nat) (la:List Int) (B:Option Addr) (cb:Nat) (lb:List Int) (w:World) (hra:Kd.C (Kd.int .i64) w A la.length la) (hrb:Kd.C (Kd.int .i64) w B lb.length lb) (hab:la.length=lb.length) (hok:∀ x ∈ la,In64 x) (hL:la.length<17592186044416) :
  Calls Tra.prog 65 #[.slice A la.length c,.slice B lb.length cb] w fun e w'=>∃ v,e=.returned v∧OwnI w' w.heap.size v (aboveL la lb)∧Below w.heap.size w w':=by
 have HRB:=As0.mk hrb;have HL:=As0.mk hL;have HAB:=As0.mk hab;have HOK:=As0.mk (mem_join (b:=lb) (i:=lb.length) hok (by unfold In64;omega));have HA:=As0.mk (clone_calls A c la w hra hL);clear hra hrb hL hab hok;go_enter Tra.func65,Tra.ntmps65
 go_wp2_with fail
 refine HA.out.mono ?_
 rintro e w1 ⟨v5,rfl,hR5,hB1⟩
 have HR1:=As0.mk hR5;have HB1:=As0.mk hB1;clear hR5 hB1 HA;go_wp2_with fail
 go_loopw [16] (fun v16 W=>∃ i:Nat,v16=.int .i64 i∧As0 (i≤lb.length)∧As0 (Kd.R (Kd.int .i64) 3 W w.heap.size (fun _=>True) v5 (joinAll lb i la))∧As0 (Below w.heap.size w W)) (fun v16 _=>(lb.length - intOf v16).toNat)
 case atStart=>exact ⟨0,rfl,⟨Nat.zero_le _⟩,HR1,HB1⟩
 case round =>
  obtain ⟨i,rfl,hi,hR,hB⟩:=hrel;have hi':=hi.out;have hab:=HAB.out;have hLo:lb.length<17592186044416:=by have:=HL.out;omega
  by_cases hlt:i<lb.length
  ·obtain ⟨g,cap,hv,hbg,hgl,_⟩:=Kd.R_form hR.out (by rw [joinAll_len];omega)
   rw [joinAll_len,hab] at hv;subst hv;have HLEN:=As0.mk (joinAll_len lb i la);have HI:=As0.mk hlt;clear hab;go_wp2_with fail
   go_loopw [20] (fun v20 W=>∃ k:Nat,v20=.int .i64 k∧As0 (k≤i)∧As0 (Kd.R (Kd.int .i64) 3 W w.heap.size (fun _=>True) (.slice (some ⟨g,0,none⟩) lb.length cap) (joinIn lb i k (joinAll lb i la)))∧As0 (Below w.heap.size w W)) (fun v20 _=>(i - intOf v20).toNat)
   case atStart=>exact ⟨0,rfl,⟨Nat.zero_le _⟩,hR,hB⟩
   case round =>
    clear hR hB;obtain ⟨k,rfl,hk,hR,hB⟩:=hrel;have hk':=hk.out
    by_cases hki:k<i
    ·have hkl:k<lb.length:=by omega
     have hln:=joinIn_len lb i k (joinAll lb i la);have hln2:=HLEN.out;have hab:=HAB.out;obtain ⟨o,ho⟩:∃ o,o=joinIn lb i k (joinAll lb i la):=⟨_,rfl⟩
     rw [← ho] at hR hln;have HOE:=As0.mk ho;clear ho;obtain ⟨hci,hfi⟩:=Kd.R_celln 0 hR.out (i:Int) (by omega) (by omega);obtain ⟨hck,hfk⟩:=Kd.R_celln 0 hR.out (k:Int) (by omega) (by omega);obtain ⟨bd,rfl,hbi⟩:=Kd.at_int (Kd.C_below HRB.out hB.out) (i:Int) (by omega) (by omega);obtain ⟨bd',hbe,hbk⟩:=Kd.at_int (Kd.C_below HRB.out hB.out) (k:Int) (by omega) (by omega);injection hbe with hbe
     subst hbe;simp only [Int.toNat_natCast,rdOf,rd] at hci hck hbi hbk;obtain ⟨oi,hoi⟩:∃ x,x=o.getD i 0:=⟨_,rfl⟩
     obtain ⟨ok,hok⟩:∃ x,x=o.getD k 0:=⟨_,rfl⟩
     obtain ⟨bi,hbi'⟩:∃ x,x=lb.getD i 0:=⟨_,rfl⟩
     obtain ⟨bk,hbk'⟩:∃ x,x=lb.getD k 0:=⟨_,rfl⟩
     replace hci:wr.cell? ⟨g,i,none⟩=some (.int .i64 oi):=by rw [hoi];exact hci
     replace hck:wr.cell? ⟨g,k,none⟩=some (.int .i64 ok):=by rw [hok];exact hck
     rw [← hbi'] at hbi;rw [← hbk'] at hbk;have HST:=As0.mk (show joinIn lb i (k+1) (joinAll lb i la)=if bi≠bk∨oi=ok then o else swapL oi ok o from by rw [hbi',hbk',hoi,hok,HOE.out];rfl);have HOI:=As0.mk hoi;have HOK2:=As0.mk hok;have HLN:=As0.mk (hln.trans hln2);clear hoi hok hbi' hbk' hfi hfk hln hln2
     by_cases hbb:bi=bk
     ·by_cases hoo:oi=ok
      ·subst hbb hoo
       have HST2:=As0.mk (HST.out.trans (if_pos (.inr rfl)));clear HST;go_wp2_with fail
       go_quiet (fail)
       go_wp2_with fail
       go_roundw
       case rel=>exact ⟨k+1,by go_num,⟨by omega⟩,⟨by rw [HST2.out];exact Kd.R_drewN hR.out _⟩,⟨y00 hB.out _⟩⟩
       case measure=>simp [intOf];omega
      ·subst hbb
       have HST2:=As0.mk (HST.out.trans (if_neg (by rintro (h|h);exact h rfl;exact hoo h)));have hoo1:(oi == ok)=false:=beq_eq_false_iff_ne.mpr hoo;clear HST;go_wp2_with fail
       go_quiet (fail)
       have HRq:=As0.mk (Kd.R_drewN hR.out nq);have HBq:=As0.mk (y00 hB.out nq);go_wp2_with fail
       go_quiet (fail)
       have HR0:=As0.mk (show Kd.R (Kd.int .i64) 3 _ w.heap.size (fun _=>True) (.slice (some ⟨g,0,none⟩) lb.length cap) (swapTo oi ok o 0) from by rw [swapTo_zero];exact Kd.R_drewN HRq.out nq);have HB0:=As0.mk (y00 HBq.out nq);clear hci hck hbi hbk hR hB HRq HBq;go_wp2_with fail
       go_loopw [53] (fun v53 W=>∃ j:Nat,v53=.int .i64 j∧As0 (j≤lb.length)∧As0 (Kd.R (Kd.int .i64) 3 W w.heap.size (fun _=>True) (.slice (some ⟨g,0,none⟩) lb.length cap) (swapTo oi ok o j))∧As0 (Below w.heap.size w W)) (fun v53 _=>(lb.length - intOf v53).toNat)
       case atStart=>exact ⟨0,rfl,⟨Nat.zero_le _⟩,⟨by first|exact HR0.out|(have h:=HR0.out;rwa [World.drewN_drewN] at h)⟩,⟨by first|exact HB0.out|(have h:=HB0.out;rwa [World.drewN_drewN] at h)⟩⟩
       case round =>
        clear HR0 HB0;obtain ⟨j,rfl,hj,hR,hB⟩:=hrel;have hj':=hj.out
        by_cases hjl:j<lb.length
        ·have hol:j<o.length:=by have:=HLN.out;have:=HAB.out;omega
         obtain ⟨hcj,hfj⟩:=Kd.R_celln 0 hR.out (j:Int) (by omega) (by omega);simp only [Int.toNat_natCast] at hcj hfj;obtain ⟨oj,hoj⟩:∃ x,x=o.getD j 0:=⟨_,rfl⟩
         replace hcj:wr.cell? ⟨g,j,none⟩=some (.int .i64 oj):=by rw [hoj,← swapTo_at oi ok hol];exact hcj
         by_cases hjo:oj=oi
         ·have HP:=Kd.R_putn hR.out (j:Int) ok
          rw [Int.toNat_natCast,show (swapTo oi ok o j).set j ok=swapTo oi ok o (j+1) from by rw [swapTo_succ oi ok hol,← hoj,if_pos hjo]] at HP;have HP2:=As0.mk HP;have HB2:=As0.mk (hB.out.setCell (p:=⟨g,j,none⟩) hbg (.int .i64 ok));subst hjo;clear HP hoj hol;go_wp2_with fail
          go_roundw
          case rel=>exact ⟨j+1,by go_num,⟨by omega⟩,HP2,HB2⟩
          case measure=>simp [intOf];omega
         ·have HP2:=As0.mk (show Kd.R (Kd.int .i64) 3 wr w.heap.size (fun _=>True) (.slice (some ⟨g,0,none⟩) lb.length cap) (swapTo oi ok o (j+1)) from by rw [swapTo_same oi ok hol (by rw [← hoj];exact hjo)];exact hR.out)
          have hjo1:(oj == oi)=false:=beq_eq_false_iff_ne.mpr hjo;clear hoj hol;go_wp2_with fail
          go_roundw
          case rel=>exact ⟨j+1,by go_num,⟨by omega⟩,HP2,hB⟩
          case measure=>simp [intOf];omega
        ·have hje:j=lb.length:=by omega
         have HRn:=As0.mk (show Kd.R (Kd.int .i64) 3 wr w.heap.size (fun _=>True) (.slice (some ⟨g,0,none⟩) lb.length cap) (joinIn lb i (k+1) (joinAll lb i la)) from by
          rw [HST2.out,← swapTo_all,HLN.out,HAB.out];have h:=hR.out;rw [hje] at h;exact h)
         clear hje;go_wp2_with fail
         go_roundw
         case rel=>exact ⟨k+1,by go_num,⟨by omega⟩,HRn,hB⟩
         case measure=>simp [intOf];omega
     ·have HST2:=As0.mk (HST.out.trans (if_pos (.inl hbb)))
      have hbb1:(bi == bk)=false:=beq_eq_false_iff_ne.mpr hbb;have hbb2:(bi != bk)=true:=bne_iff_ne.mpr hbb;clear HST;go_wp2_with fail
      go_quiet (fail)
      go_wp2_with fail
      go_roundw
      case rel=>exact ⟨k+1,by go_num,⟨by omega⟩,⟨by rw [HST2.out];exact Kd.R_drewN hR.out _⟩,⟨y00 hB.out _⟩⟩
      case measure=>simp [intOf];omega
    ·have hke:k=i:=by omega
     have HRn:=As0.mk (show Kd.R (Kd.int .i64) 3 wr w.heap.size (fun _=>True) (.slice (some ⟨g,0,none⟩) lb.length cap) (joinAll lb (i+1) la) from by have:=hR.out;rw [hke] at this;exact this);clear hke;go_wp2_with fail
     have hii:=HI.out
     go_roundw
     case rel=>exact ⟨i+1,by go_num,⟨by have:=HI.out;omega⟩,HRn,hB⟩
     case measure=>have:=HI.out;simp [intOf];omega
  ·have hke:i=lb.length:=by omega
   have HR:=As0.mk (show Kd.R (Kd.int .i64) 3 wr w.heap.size (fun _=>True) v5 (joinAll lb lb.length la) from hke ▸ hR.out);clear hke;obtain ⟨Ao,co,rfl,hco,hC⟩:=Kd.R_reads HR.out;have HN:=As0.mk (num_all Ao co _ wr hC HOK.out (by rw [joinAll_len];exact HL.out));clear hC;go_wp2_with fail
   refine HN.out.mono ?_
   rintro e w2 ⟨v,rfl,hO,hb⟩
   have HO:=As0.mk (hO.lower hB.out.size);have HB2:=As0.mk (y08 hB.out hb);clear hO hb HN;go_wp2_with fail
   go_ret
   exact ⟨_,rfl,HO.out,HB2.out⟩
end Go.Proofs.Ytdhgeondbnpeoaa.Ext
namespace Go.Proofs.Ytdhgeondbnpeoaa.Ca
open Go.RowKit Go.Mt Go.Proofs.Ytdhgeondbnpeoaa.P Go.Proofs.YtdhgeondbnpeoaaW.PrintWords Go.Proofs.YtdhgeondbnpeoaaW.PrintLast Go.Proofs.YtdhgeondbnpeoaaW.PrintMore
theorem blk_C {w:World} {b:Nat} {xs:List Int} (h:IntBlk w b xs) (hn:xs.length≤9223372036854775807):Kd.C (Kd.int .i64) w (some ⟨b,0,none⟩) xs.length xs:=by
 obtain ⟨cs,fr,h1,h2,h3⟩:=h;refine Kd.C_of_reads (d:=(0:Int)) (h1:=fun _=>rfl) ⟨rfl,hn,fun _=>⟨_,rfl,fun j hj=>?_⟩⟩;rw [add_plain,cell_of_row w b j cs 3 fr h1];refine h3 j _ ?_;rw [List.getD_eq_getElem?_getD,List.getElem?_eq_getElem hj];rfl
theorem blk_V {w:World} {b c e N:Nat} {xs:List Int} (h:IntBlk w b xs) (hn:xs.length≤9223372036854775807) (hc:xs.length≤c):Kd.V (Kd.int .i64) e w N (fun _=>True) (.slice (some ⟨b,0,none⟩) xs.length c) xs :=
 Kd.V_mk hc fun W' hW=>blk_C (h.of_get (hW b trivial h.lt)) hn
theorem resI_of {w:World} {N:Nat} {v:Value} {xs:List Int} (h:Ext.OwnI w N v xs) (hx:0<xs.length):ResI N w v xs:=by
 obtain ⟨⟨h1,h2⟩,h3⟩:=h;rcases h2 with ⟨_,h0⟩|⟨g,cap,cur,rfl,hb,hg,hn,hm,hs,ht⟩
 ·omega
 ·refine ⟨g,cap,rfl,hb,cur,(0,0),hg,fun c hc=>?_,fun i x hi=>?_⟩
  ·obtain ⟨y,rfl⟩:=h3 g cur _ rfl hg c hc
   rfl
  ·have hlt:i<xs.length:=(List.getElem?_eq_some_iff.1 hi).1
   have e:(nums IntKind.i64 xs)[i]?=some (Value.int .i64 x):=by simp [nums,hi]
   rw [← ht,List.getElem?_take,if_pos (by omega)] at e;simpa using e
theorem same_l (xs:List Int) (hn:xs.length≤4):∀ (n k i:Nat),n=xs.length - i->n<k->w6_same.l0 k xs xs (i:Int)=some true
 |n,0,i,_,h=>absurd h (by omega)
 |n,k+1,i,h,hk=>by
  unfold w6_same.l0
  by_cases hi:(i:Int)<(xs.length:Int)
  ·rw [if_pos hi,if_pos (by omega),if_pos hi,if_pos rfl,show wrap64 ((i:Int)+1)=((i+1:Nat):Int) by unfold wrap64;omega]
   exact same_l xs hn (n - 1) k (i+1) (by omega) (by omega)
  ·rw [if_neg hi]
theorem same_self (xs:List Int) (hn:xs.length≤4):w6_same.f 60 xs xs=some true:=by
 unfold w6_same.f;rw [if_pos rfl];exact same_l xs hn _ 60 0 rfl (by omega)
theorem two_C {u:World} {b b1 b2:Nat} {xs ys:List Int} (h1:IntBlk u b1 xs) (h2:IntBlk u b2 ys) (hx:xs.length=4) (hy:ys.length=4) (hb:u.heap[b]?=some (.cells #[.slice (some ⟨b1,0,none⟩) 4 4,.slice (some ⟨b2,0,none⟩) 4 4] 29 (0,2))):Kd.C (Kd.slice 3 (Kd.int .i64)) u (some ⟨b,0,none⟩) 2 [xs,ys]:=by
 refine ⟨rfl,by decide,fun _=>⟨_,rfl,fun j p hj=>?_⟩⟩;have e:(Kd.slice 3 (Kd.int .i64)).sz=1:=rfl;have key:∀ (c:Nat) (zs:List Int) (j:Nat),IntBlk u c zs->zs.length=4->(#[Value.slice (some ⟨b1,0,none⟩) 4 4,.slice (some ⟨b2,0,none⟩) 4 4]:Array Value)[j]?=some (.slice (some ⟨c,0,none⟩) 4 4)->∃ c,c.length=1∧(Kd.slice 3 (Kd.int .i64)).K u zs c∧∀ i v,c[i]?=some v->u.cell? ((⟨b,0,none⟩:Addr).add (j * 1+i))=some v:=by
  intro c zs j hc hz hj;refine ⟨[.slice (some ⟨c,0,none⟩) 4 4],rfl,⟨some ⟨c,0,none⟩,4,by rw [hz],by omega,blk_C hc (by omega)⟩,fun i v hi=>?_⟩;have hi0:i=0:=by
   have:=(List.getElem?_eq_some_iff.1 hi).1;simp at this;omega
  subst hi0;rw [add_plain,cell_of_row u b _ _ 29 _ hb,Nat.mul_one,Nat.add_zero,hj];simpa using hi
 rcases j with _|_|j
 ·injection hj with hj
  subst hj;exact key b1 _ 0 h1 hx rfl
 ·have hj':ys=p:=by simpa using hj
  subst hj';exact key b2 _ 1 h2 hy rfl
 ·simp at hj
theorem alK:AlK Tra.prog where
 c36 u b h:=(mobs_Rank.calls 60 (fun _=>True) (some ⟨b,0,none⟩) 3 [0,1,1] 3 0 u (blk_V h (by decide) (by decide)) (by decide +kernel)).mono fun e w' hp=>hp.1
 c25 u b h:=(mobs_Between.flat 60 (fun _=>True) (some ⟨b,0,none⟩) 3 [0,0,1] [0,1,1] 0 u (blk_V h (by decide) (by decide)) (by decide +kernel)).mono fun e w' ⟨v,he,hO,_⟩=>⟨v,he,resI_of hO (by decide)⟩
 c16 u:=(mobs_Count.calls 60 4 2 7 0 u (by decide +kernel)).mono fun e w' hp=>hp.1
 c18 u:=(mobs_Plain.calls 60 4 2 6 0 u (by decide +kernel)).mono fun e w' hp=>hp.1
 c23 u b h:=(mobs_Crossed.calls 60 (fun _=>True) (some ⟨b,0,none⟩) 4 [0,1,0,1] 0 1 2 3 true 0 u (blk_V h (by decide) (by decide)) (by decide +kernel)).mono fun e w' hp=>hp.1
 c27 u b1 b2 c1 c2 xs h1 h2 hn:=(w6_same.nocap 60 (some ⟨b1,0,none⟩) c1 xs (some ⟨b2,0,none⟩) c2 xs true u (blk_C h1 (by omega)) (blk_C h2 (by omega)) (same_self xs hn)).mono fun e w' hp=>hp.1
 c49 u b b1 b2 h1 h2 hb:=(mobs_read.calls 60 (some ⟨b,0,none⟩) 2 [[0,0,1,1],[0,1,1,0]] 0 u (two_C h1 h2 rfl rfl hb) (by decide) (by decide +kernel)).mono fun e w' hp=>hp.1
 c63 u b1 b2 h1 h2:=(mobs_below.flat 60 (some ⟨b1,0,none⟩) 4 [0,0,1,1] (some ⟨b2,0,none⟩) 4 [0,1,1,0] [0,1,2,3] u (blk_C h1 (by decide)) (by decide) (blk_C h2 (by decide)) (by decide) (by decide +kernel)).mono fun e w' ⟨v,he,hO,_⟩=>⟨v,he,resI_of hO (by decide)⟩
 c65 u b1 b2 h1 h2:=by
  refine (Ext.above_all (some ⟨b1,0,none⟩) 4 [0,0,1,1] (some ⟨b2,0,none⟩) 4 [0,1,1,0] u (blk_C h1 (by decide)) (blk_C h2 (by decide)) rfl (by decide) (by decide)).mono fun e w' ⟨v,he,hO,_⟩=>⟨v,he,?_⟩
  have e1:Ext.aboveL [0,0,1,1] [0,1,1,0]=[0,0,0,0]:=by decide +kernel
  rw [e1] at hO;exact resI_of hO (by decide)
end Go.Proofs.Ytdhgeondbnpeoaa.Ca
namespace Go.Proofs.Ytdhgeondbnpeoaa.Ca
open Go.RowKit Go.Mt Go.Tr Go.Conc Go.ConcN
theorem below_of {W w:World} (h:Kept W.heap.size W w):Below W.heap.size W w:=⟨h.os,h.tape,h.output,h.size,h.old⟩
end Go.Proofs.Ytdhgeondbnpeoaa.Ca
namespace Go.Proofs.Ytdhgeondbnpeoaa.Ca
open Go.RowKit Go.Mt Go.Tr Go.Conc Go.ConcN
structure SlD where
 a:Option Addr
 len:Nat
 cap:Nat
 zs:List Int
def SlD.val (d:SlD):Value:=.slice d.a d.len d.cap
def SlD.ok (W:World) (d:SlD):Prop :=
 (d.a=none∧d.len=0∧d.cap=0∧d.zs=[])∨∃ x,d.a=some x∧x.spot=none∧(∃ cs e fr,W.heap[x.block]?=some (.cells cs e fr))∧d.len≤d.cap∧d.cap≤maxLen∧d.zs.length=d.cap ∧
  (∀ i,i<d.zs.length->W.cell? (x.add i)=some (.int .i64 (d.zs.getD i 0)))∧∀ n ∈ d.zs,(Lit.int .i64 n).wf=true
def SlD.ints (d:SlD):Array Value:=(d.zs.map (Value.int .i64)).toArray
def lone (N:Nat):Nat->List SlD->List SlD
 |_,[]=>[]
 |j,d :: ds=>match d.a with
  |none=>d :: lone N j ds
  |some _=>{ d with a:=some ⟨N+j,0,none⟩ } :: lone N (j+1) ds
def als:List SlD->List (Nat × Nat)
 |[]=>[]
 |d :: ds=>match d.a with
  |none=>als ds
  |some x=>(x.block,x.off) :: als ds
def blks:List SlD->List Obj
 |[]=>[]
 |d :: ds=>match d.a with
  |none=>blks ds
  |some _=>.cells d.ints 3 (0,d.ints.size) :: blks ds
theorem blks_len:∀ ds:List SlD,(blks ds).length=(als ds).length
 |[]=>rfl
 |d :: ds=>by
  unfold blks als;cases d.a<;>simp [blks_len ds]
theorem lone_len (N:Nat):∀ (j:Nat) (ds:List SlD),(lone N j ds).length=ds.length
 |_,[]=>rfl
 |j,d :: ds=>by
  unfold lone;cases d.a<;>simp [lone_len]
theorem lone_at (N:Nat):∀ (ds:List SlD) (j k:Nat) (d d':SlD),ds[k]?=some d->(lone N j ds)[k]?=some d' →
  d'.len=d.len∧d'.cap=d.cap∧d'.zs=d.zs∧((d.a=none∧d'.a=none)∨∃ x i,d.a=some x∧d'.a=some ⟨N+(j+i),0,none⟩∧(als ds)[i]?=some (x.block,x.off)∧(blks ds)[i]?=some (.cells d.ints 3 (0,d.ints.size)))
 |[],j,k,d,d',h,_=>by simp at h
 |c :: ds,j,k,d,d',h,h'=>by
  unfold lone at h';unfold als blks;cases hc:c.a with
  |none =>
   rw [hc] at h';simp only at h' ⊢;cases k with
   |zero =>
    simp only [List.getElem?_cons_zero,Option.some.injEq] at h h';subst h h';exact ⟨rfl,rfl,rfl,.inl ⟨hc,hc⟩⟩
   |succ k =>
    simp only [List.getElem?_cons_succ] at h h';exact lone_at N ds j k d d' h h'
  |some x =>
   rw [hc] at h';simp only at h' ⊢;cases k with
   |zero =>
    simp only [List.getElem?_cons_zero,Option.some.injEq] at h h';subst h h';exact ⟨rfl,rfl,rfl,.inr ⟨x,0,hc,rfl,rfl,rfl⟩⟩
   |succ k =>
    simp only [List.getElem?_cons_succ] at h h';obtain ⟨h1,h2,h3,h4⟩:=lone_at N ds (j+1) k d d' h h';refine ⟨h1,h2,h3,h4.imp id ?_⟩
    rintro ⟨y,i,e1,e2,e3,e4⟩
    exact ⟨y,i+1,e1,by rw [e2];congr 2;omega,by simpa using e3,by simpa using e4⟩
theorem als_at:∀ (ds:List SlD) (i b s:Nat),(als ds)[i]?=some (b,s)->∃ d x,d ∈ ds∧d.a=some x∧x.block=b∧x.off=s∧(blks ds)[i]?=some (.cells d.ints 3 (0,d.ints.size))
 |[],i,b,s,h=>by simp [als] at h
 |c :: ds,i,b,s,h=>by
  unfold als at h;unfold blks;cases hc:c.a with
  |none =>
   rw [hc] at h;obtain ⟨d,x,h1,h2⟩:=als_at ds i b s h;exact ⟨d,x,List.mem_cons_of_mem _ h1,h2⟩
  |some y =>
   rw [hc] at h;simp only at h;cases i with
   |zero =>
    simp only [List.getElem?_cons_zero,Option.some.injEq,Prod.mk.injEq] at h;exact ⟨c,y,List.mem_cons_self,hc,h.1,h.2,rfl⟩
   |succ i =>
    simp only [List.getElem?_cons_succ] at h;obtain ⟨d,x,h1,h2,h3,h4,h5⟩:=als_at ds i b s h;exact ⟨d,x,List.mem_cons_of_mem _ h1,h2,h3,h4,by simpa using h5⟩
def loneW (W:World) (ds:List SlD):World:={ W with heap:=Array.replicate W.heap.size (.map #[] 0) ++ (blks ds).toArray }
def KA (W:World) (ds:List SlD):Cfg:=⟨W.heap.size,fun _=>False,fun _=>False,als ds⟩
theorem loneW_get (W:World) (ds:List SlD) (j:Nat):(loneW W ds).heap[W.heap.size+j]?=(blks ds)[j]?:=by
 unfold loneW;simp only;rw [Array.getElem?_append_right (by simp)];simp
theorem lone_rel {W:World} {ds:List SlD} (hok:∀ d ∈ ds,d.ok W):WRel (KA W ds) ((als ds).map Prod.fst) (loneW W ds) W:=by
 have hlt:∀ (j b s:Nat),(als ds)[j]?=some (b,s)->b<W.heap.size:=by
  intro j b s hj;obtain ⟨d,x,h1,h2,h3,_⟩:=als_at ds j b s hj;rcases hok d h1 with ⟨h4,_⟩|⟨y,h4,_,⟨cs,e,fr,h5⟩,_⟩
  ·rw [h2] at h4;cases h4
  ·obtain rfl:=Option.some.inj (h2.symm.trans h4)
   rw [← h3];exact (Array.getElem?_eq_some_iff.1 h5).1
 have hL:∀ (j b:Nat),((als ds).map Prod.fst)[j]?=some b->b<W.heap.size:=by
  intro j b hj;rw [List.getElem?_map] at hj;obtain ⟨⟨b',s⟩,h1,h2⟩:=Option.map_eq_some_iff.1 hj;subst h2;exact hlt j b' s h1
 refine ⟨?_,Nat.le_refl _,rfl,rfl,hL,fun j b hj hn=>?_,fun i j b hi hj hn=>?_,fun b hb=>hb.elim,fun b hb=>hb.elim,fun j b s hj=>?_⟩
 ·show (Array.replicate W.heap.size _ ++ (blks ds).toArray).size=_
  simp [KA,blks_len]
 ·have:=hL j b hj
  exact absurd hn (Nat.not_le_of_lt this)
 ·have:=hL i b hi
  exact absurd hn (Nat.not_le_of_lt this)
 ·replace hj:(als ds)[j]?=some (b,s):=hj
  obtain ⟨d,x,h1,h2,h3,h4,h5⟩:=als_at ds j b s hj;rcases hok d h1 with ⟨h6,_⟩|⟨y,h6,hsp,⟨cs,e,fr,h7⟩,_,_,hzl,hcell,_⟩
  ·rw [h2] at h6;cases h6
  ·obtain rfl:=Option.some.inj (h2.symm.trans h6)
   subst h3 h4;refine ⟨(Array.getElem?_eq_some_iff.1 h7).1,fun h=>h,⟨x.block,by rw [List.getElem?_map,hj];rfl,(Array.getElem?_eq_some_iff.1 h7).1⟩,d.ints,cs,3,e,fr,?_,h7,fun i v hv=>?_⟩
   ·show (loneW W ds).heap[W.heap.size+j]?=_
    rw [loneW_get,h5]
   ·have hi:i<d.zs.length:=by
     have:=(Array.getElem?_eq_some_iff.1 hv).1;simpa [SlD.ints] using this
    have e1:v=.int .i64 (d.zs.getD i 0):=by
     have:d.ints[i]?=some (.int .i64 (d.zs.getD i 0)):=by simp [SlD.ints,List.getElem?_eq_getElem hi,List.getD_eq_getElem?_getD]
     exact Option.some.inj (hv.symm.trans this)
    have e2:=hcell i hi;obtain ⟨xb,xo,xs⟩:=x;simp only at hsp h7;subst hsp;have e3:(⟨xb,xo,none⟩:Addr).add i=⟨xb,xo+i,none⟩:=by unfold Addr.add;split<;>simp_all
    rw [e3,cell_of_row W xb (xo+i) cs e fr h7] at e2;exact ⟨v,by rw [Nat.add_comm,e2,e1],by rw [e1];exact .flat rfl⟩
theorem lone_val {W:World} {ds:List SlD} (hok:∀ d ∈ ds,d.ok W) {k:Nat} {d d':SlD} (h:ds[k]?=some d) (h':(lone W.heap.size 0 ds)[k]?=some d') :
  d'.len=d.len∧d'.cap=d.cap∧d'.zs=d.zs∧RelC (KA W ds) ((als ds).map Prod.fst) d'.val d.val∧∀ u:World,u.heap=(loneW W ds).heap->d'.ok u:=by
 obtain ⟨h1,h2,h3,h4⟩:=lone_at W.heap.size ds 0 k d d' h h';refine ⟨h1,h2,h3,?_,fun u hu=>?_⟩
 ·rcases h4 with ⟨e1,e2⟩|⟨x,i,e1,e2,e3,_⟩
  ·unfold SlD.val
   rw [e1,e2,h1,h2];exact .flat rfl
  ·unfold SlD.val
   rw [e1,e2,h1,h2];have hsp:x.spot=none:=by
    rcases hok d (List.mem_of_getElem? h) with ⟨h6,_⟩|⟨y,h6,hsp,_⟩
    ·rw [e1] at h6;cases h6
    ·obtain rfl:=Option.some.inj (e1.symm.trans h6)
     exact hsp
   exact .slice (s:=x.off) (.inr ⟨i,by simp [KA],e3⟩) (by simp) (by simp [hsp])
 ·rcases hok d (List.mem_of_getElem? h) with ⟨g1,g2,g3,g4⟩|⟨y,g1,_,_,g2,g3,g4,g5,g6⟩
  ·rcases h4 with ⟨e1,e2⟩|⟨x,i,e1,_⟩
   ·exact .inl ⟨e2,by rw [h1,g2],by rw [h2,g3],by rw [h3,g4]⟩
   ·rw [g1] at e1;cases e1
  ·rcases h4 with ⟨e1,e2⟩|⟨x,i,e1,e2,_,e4⟩
   ·rw [g1] at e1;cases e1
   ·have hb:u.heap[W.heap.size+(0+i)]?=some (.cells d.ints 3 (0,d.ints.size)):=by rw [hu,Nat.zero_add,loneW_get,e4]
    refine .inr ⟨_,e2,rfl,⟨_,_,_,hb⟩,by rw [h1,h2];exact g2,by rw [h2];exact g3,by rw [h2,h3];exact g4,fun j hj=>?_,by rw [h3];exact g6⟩;rw [h3] at hj ⊢;have e3:(⟨W.heap.size+(0+i),0,none⟩:Addr).add j=⟨W.heap.size+(0+i),j,none⟩:=by unfold Addr.add;split<;>simp_all
    rw [e3,cell_of_row u _ j d.ints 3 _ hb];simp [SlD.ints,List.getElem?_eq_getElem hj,List.getD_eq_getElem?_getD]
theorem relPs_nil (K:Cfg) (L:List Nat):RelPs K L #[] #[]:=⟨rfl,fun i v v' h=>by simp at h⟩
theorem relPs_push {K:Cfg} {L:List Nat} {cs cs':Array Value} (h:RelPs K L cs cs') {v v':Value} (hv:RelC K L v v'):RelPs K L (cs.push v) (cs'.push v'):=by
 refine ⟨by simp [h.1],fun i a b ha hb=>?_⟩;rw [Array.getElem?_push] at ha hb
 by_cases hi:i=cs.size
 ·rw [if_pos hi] at ha
  rw [if_pos (by rw [h.1];exact hi)] at hb;obtain rfl:=Option.some.inj ha;obtain rfl:=Option.some.inj hb;exact .cell hv
 ·rw [if_neg hi] at ha
  rw [if_neg (by rw [h.1];exact hi)] at hb;exact h.2 i a b ha hb
theorem law_runS {f:FuncId} {fn:Func} {W:World} (ds:List SlD) (hok:∀ d ∈ ds,d.ok W) (mk:List SlD->Array Value) (hi:Try.prog.inits.idxOf? f=none) (hf:Tra.prog.funcs[f]?=some fn) (hS:S1 f=true) (hT:T1 f=true) (hres:tmpRes fn=true)
  (hmk:∀ (K:Cfg) (L:List Nat) (ds':List SlD),ds'.length=ds.length->(∀ (k:Nat) (d d':SlD),ds[k]?=some d->ds'[k]?=some d'->RelC K L d'.val d.val)->RelPs K L (mk ds') (mk ds))
  (hc:∀ (u:World) (ds':List SlD),ds'.length=ds.length->(∀ (k:Nat) (d d':SlD),ds[k]?=some d->ds'[k]?=some d'->d'.len=d.len∧d'.cap=d.cap∧d'.zs=d.zs∧d'.ok u)->Calls Tra.prog f (mk ds') u fun e _=>e=.returned (.bool true)) :
  ∃ M last o w' t',runNT Try.prog (M+1) (solo (G (Frame.enter Try.prog f (mk ds) .normal) []) W) #[]=(.ended o w',t')∧runN Try.prog M (solo (G (Frame.enter Try.prog f (mk ds) .normal) []) W)=.next last∧step Try.prog last=.ended o w' ∧
   Go.Conc.Good Try.prog (fun v' w'=>v'=.bool true∧Below W.heap.size W w') last o w' t':=by
 obtain ⟨M,last,o,w',t',h1,h2,h3,v',e0,⟨L,v,u,hv,_,hk,rfl⟩,r0⟩:=hyb_run (Rd:=fun _=>False) (al:=als ds) (L0:=(als ds).map Prod.fst) (W:=W) (u0:=loneW W ds) (args:=mk (lone W.heap.size 0 ds)) (args':=mk ds) Tra.same Tra.calm1 Tra.calmT
  (special_alive Tra.duo Tra.calm1 alK Tra.als res23 Tra.stand Tra.t20 (fun b h=>h.elim)) hi hf hS hT hres
  (hmk _ _ _ (lone_len _ _ _) fun k d d' hd hd'=>(lone_val hok hd hd').2.2.2.1) (lone_rel hok) (Post:=fun v _=>v=.bool true) (fun _ _ _ h=>h)
  (fun τ=>(hc (retape (loneW W ds) τ) (lone W.heap.size 0 ds) (lone_len _ _ _) fun k d d' hd hd'=>let ⟨q1,q2,q3,_,q5⟩:=lone_val hok hd hd';⟨q1,q2,q3,q5 _ rfl⟩).mono fun e _ h=>⟨_,h,rfl⟩)
 refine ⟨M,last,o,w',t',h1,h2,h3,v',e0,⟨?_,below_of hk⟩,r0⟩;split at hv
 ·exact relP_flat hv rfl
 ·exact relV_flat hv rfl
theorem SlD.row {u:World} {d:SlD} (h:d.ok u):(d.a=none∧d.len=0∧d.cap=0∧d.zs=[])∨∃ x,d.a=some x∧d.len≤d.cap∧d.cap≤maxLen∧d.zs.length=d.cap∧(∀ i,i<d.zs.length->u.cell? (x.add i)=some (.int .i64 (d.zs.getD i 0)))∧∀ n ∈ d.zs,(Lit.int .i64 n).wf=true:=by
 rcases h with h|⟨x,h1,_,_,h2⟩
 ·exact .inl h
 ·exact .inr ⟨x,h1,h2⟩
theorem has_of {P:Program} {W:World} {base:Nat} {t e:TypeId} {x:Addr} {len cap:Nat} (hu:P.underlying t=some (.slice e)) (hv:Value.okWide P W .any base t (.slice (some x) len cap)):W.has P .any base x e cap:=by
 simp only [Value.okWide,hu,Cell.okWide,Cell.ok] at hv;exact hv.2.2
theorem sl_ok {W:World} {base:Nat} {a:Option Addr} {len cap:Nat} {zs:List Int} (hv:Value.okWide Try.prog W .any base 29 (.slice a len cap))
  (hr:(a=none∧len=0∧cap=0∧zs=[])∨∃ x,a=some x∧len≤cap∧cap≤maxLen∧zs.length=cap∧(∀ i,i<zs.length->W.cell? (x.add i)=some (.int .i64 (zs.getD i 0)))∧∀ n ∈ zs,(Lit.int .i64 n).wf=true):(⟨a,len,cap,zs⟩:SlD).ok W:=by
 rcases hr with hr|⟨x,rfl,h2⟩
 ·exact .inl hr
 ·obtain ⟨_,hsp,row,cells,hs,_⟩:=has_of Try.underlying29 hv
  refine .inr ⟨x,rfl,hsp,?_,h2⟩;unfold World.shape? at hs;cases hb:W.heap[x.block]? with
  |none=>rw [hb] at hs;simp at hs
  |some o =>
   rw [hb] at hs;cases o with
   |cells cs e fr=>exact ⟨cs,e,fr,rfl⟩
   |_=>simp at hs
end Go.Proofs.Ytdhgeondbnpeoaa.Ca
namespace Go.Proofs.Ytdhgeondbnpeoaa.P
open Go.RowKit Go.Proofs.YtdhgeondbnpeoaaW.PrintWords Go.Proofs.YtdhgeondbnpeoaaW.PrintLast Go.Proofs.YtdhgeondbnpeoaaW.PrintMore
attribute [local go_sem] y0y y0w max_two min_two y0n y0m y0x y0v
def r6_Rank.l0:Nat->List Int->List (List Int)->Int->Int->Option (Int × Int)
 |0,_,_,_,_=>none
 |k+1,x0,x5,x6,x7=>if x7<(x0.length:Int) then (if 0≤x7 then (if 0≤(wrap64 ((wrap64 ((x0.length:Int) - 1)) - x7)) then (if (wrap64 ((wrap64 ((x0.length:Int) - 1)) - x7))<(x5.length:Int) then (if x7≤(x0.length:Int) then ((r6_Many.f k (x0.take (x7:Int).toNat)).bind fun t294=>(if 0≤t294 then (if t294<((rd_L1 x5 (wrap64 ((wrap64 ((x0.length:Int) - 1)) - x7))).length:Int) then (r6_Rank.l0 k x0 x5 (wrap64 (x6+(wrap64 ((rd x0 x7) * (rd (rd_L1 x5 (wrap64 ((wrap64 ((x0.length:Int) - 1)) - x7))) t294))))) (wrap64 (x7+1))) else (none)) else (none))) else (none)) else (none)) else (none)) else (none)) else (some (x6,0))
def r6_Rank.f (k:Nat) (l0:List Int):Option (Int × Int):=(r6_Parting.f k l0).bind fun t287=>(if t287=0 then ((r6_table.f k (l0.length:Int)).bind fun t288=>(r6_Rank.l0 k l0 t288 0 0)) else (some (0,t287)))
def r6_Rank.T9:Bool × List (List Nat × List Nat):=(true,[([],[]),([],[]),([],[]),([1,2],[1,2]),([3],[3]),([],[]),([],[]),([6],[6]),([7],[7]),([],[]),([8,9],[8,9]),([5,10],[5,10]),([11],[11]),([],[]),([],[]),([13,14],[13,14]),([15],[15]),([12,16],[12,16]),([17],[17]),([4,18],[4,18]),([0,19],[0,19]),([20,16,0,1,2,3,4,5,6,7,8,9,10,11,12,13,14,15,16,17,18,19,20],[0,20])])
def r6_Rank.B9:List Nat:=[0,0,0,6,14,0,0,64,192,0,960,2016,4064,0,0,24576,57344,131040,262112,524286,1048575,2097151]
theorem r6_Rank.tab9:rtab .any (opsOf Tra.f37 9)=r6_Rank.T9:=by kernel_rfl
theorem r6_Rank.bits9:waitsOk r6_Rank.T9.2 r6_Rank.B9=true:=by kernel_rfl
set_option maxHeartbeats 8000000 in
set_option maxRecDepth 100000 in
theorem r6_Rank.calls (k:Nat) (A0:Option Addr) (c0:Nat) (l0:List Int) (r1:Int) (r2:Int) (w:World) (hr0:Kd.C (Kd.int .i64) w A0 l0.length l0) (hc0:l0.length≤c0) (h:r6_Rank.f k l0=some (r1,r2)) :
  Calls Tra.prog 37 #[.slice A0 l0.length c0] w fun e w'=>e=.returned (.tuple #[.int .i64 r1,.int .i64 r2])∧Below w.heap.size w w':=by
 have HR0:=As0.mk hr0;have HC0:=As0.mk hc0;clear hr0 hc0;have HB:=As0.mk (Below.refl w.heap.size w);have H:((r6_Parting.f k l0).bind fun t287=>(if t287=0 then ((r6_table.f k (l0.length:Int)).bind fun t288=>(r6_Rank.l0 k l0 t288 0 0)) else (some (0,t287))))=some (r1,r2):=h;clear h;replace H:=Option.bind_eq_some_iff.mp H;obtain ⟨t287,A20,H⟩:=H;replace H:(if t287=0 then ((r6_table.f k (l0.length:Int)).bind fun t288=>(r6_Rank.l0 k l0 t288 0 0)) else (some (0,t287)))=some (r1,r2):=H;have A2:=As0.mk A20;clear A20
 by_cases c3:t287=0
 ·rw [if_pos c3] at H
  have c3b0:(t287 == 0)=true:=beq_iff_eq.mpr c3;have c3b1:(t287 != 0)=false:=bne_eq_false_iff_eq.mpr c3;clear c3;replace H:=Option.bind_eq_some_iff.mp H;obtain ⟨t288,A40,H⟩:=H;replace H:(r6_Rank.l0 k l0 t288 0 0)=some (r1,r2):=H;have A4:=As0.mk A40;clear A40;have H':=As0.mk H;clear H;go_enter Tra.func37,Tra.ntmps37
  go_wp2_with (first|((with_reducible refine y0a (f:=51) rfl ?_);refine y0s (some 9) rfl rfl Tra.func51 (by kernel_rfl) rfl #[.slice A0 l0.length c0] rfl (by (try simp only [List.map_toArray,List.map_cons,List.map_nil]);first|done|rfl|(simp only [List.length_drop,List.length_take];rfl)) ?_;(with_reducible refine (r6_Parting.calls k _ _ l0 t287 _ ?side1 ?side2 A2.out).mono ?_);(case side1=>repeat (first|exact HR0.out|(with_reducible refine Kd.C_alloc ?_ _)|(with_reducible refine Kd.C_drewN ?_ _)|(with_reducible refine Kd.C_drew ?_)));(case side2=>exact HC0.out);rintro e w' ⟨rfl,⟨nd,rfl⟩⟩;refine ⟨_,rfl,?_⟩)|((with_reducible refine y0a (f:=68) rfl ?_);refine y0s (some 15) rfl rfl Tra.func68 (by kernel_rfl) rfl #[.int .i64 (l0.length:Int)] rfl (by (try simp only [List.map_toArray,List.map_cons,List.map_nil]);first|done|rfl|(simp only [List.length_drop,List.length_take];rfl)) ?_;(with_reducible refine (r6_table.calls k (l0.length:Int) t288 _ A4.out).mono ?_);rintro e w5 ⟨v289,rfl,ho0,hb⟩;refine ⟨_,rfl,?_⟩;have n0_:=As0.mk (Kd.S_lower ho0 (y09 (by repeat (first|(with_reducible first|exact HB.out|apply y01|apply y00|apply y02)|exact HB.out))));have n1_:=As0.mk (y08 (by repeat (first|(with_reducible first|exact HB.out|apply y01|apply y00|apply y02)|exact HB.out)) hb);clear HB;have HO290:=n0_;have HB:=n1_;clear n0_ n1_;(try clear hb);(try clear hb2);(try clear hk);(try clear hi);(try clear ho0)))
  go_loopg [6,7] k (fun kq v6 v7 w'=>∃ (x6_1:Int) (x7_1:Int),v6=.int .i64 x6_1∧v7=.int .i64 x7_1∧As0 (r6_Rank.l0 kq l0 t288 x6_1 x7_1=some (r1,r2))∧As0 (kq≤k)∧As0 (Kd.S (Kd.slice 3 (Kd.int .i64)) 29 w' w.heap.size (fun _=>True) v289 t288)∧As0 (Below w.heap.size w w'))
  case atStart=>exact ⟨(0),(0),(by first|rfl|(simp;done)|(simp [*];done)),(by first|rfl|(simp;done)|(simp [*];done)),H',⟨Nat.le_refl _⟩,⟨by (with_reducible repeat (first|apply Kd.S_alloc|apply Kd.S_drewN|apply Kd.S_drew));exact HO290.out⟩,⟨by repeat (first|(with_reducible first|exact HB.out|apply y01|apply y00|apply y02)|exact HB.out)⟩⟩
  case round =>
   clear H'
   try clear p2
   try clear c3
   try clear c3b0
   try clear c3b1
   try clear c5
   obtain ⟨x6_1,x7_1,rfl,rfl,HA,HK1,HO_5,HB⟩:=hrel;cases gk with
   |zero=>exact absurd HA.out (by simp [r6_Rank.l0])
   |succ k1 =>
    have H:=HA.out;clear HA;simp only [r6_Rank.l0] at H
    by_cases c6:x7_1<(l0.length:Int)
    ·rw [if_pos c6] at H
     have c6b0:decide (x7_1<(l0.length:Int))=true:=decide_eq_true c6;clear c6
     by_cases c7:0≤x7_1
     ·rw [if_pos c7] at H
      have c7b0:decide (0≤x7_1)=true:=decide_eq_true c7;clear c7;obtain ⟨ji8,hji8⟩:∃ j_:Int,(wrap64 ((wrap64 ((l0.length:Int) - 1)) - x7_1))=j_:=⟨_,rfl⟩
      replace H:(if 0≤(ji8) then (if (ji8)<(t288.length:Int) then (if x7_1≤(l0.length:Int) then ((r6_Many.f k1 (l0.take (x7_1:Int).toNat)).bind fun t294=>(if 0≤t294 then (if t294<((rd_L1 t288 (ji8)).length:Int) then (r6_Rank.l0 k1 l0 t288 (wrap64 (x6_1+(wrap64 ((rd l0 x7_1) * (rd (rd_L1 t288 (ji8)) t294))))) (wrap64 (x7_1+1))) else (none)) else (none))) else (none)) else (none)) else (none))=some (r1,r2):=by first|(rw [hji8] at H;exact H)|(simp only [hji8] at H ⊢;exact H)
      have hji8w:(IntKind.i64.wrap ((wrap64 ((l0.length:Int) - 1)) - x7_1))=ji8:=(i64_w _).trans hji8
      by_cases c9:0≤(ji8)
      ·rw [if_pos c9] at H
       have c9b0:decide (0≤(ji8))=true:=decide_eq_true c9;clear c9
       by_cases c10:(ji8)<(t288.length:Int)
       ·rw [if_pos c10] at H
        have c10b0:decide ((ji8)<(t288.length:Int))=true:=decide_eq_true c10;clear c10;have c11b0:=eq_true (of_decide_eq_true (by first|(with_reducible assumption)|assumption):0≤x7_1)
        by_cases c12:x7_1≤(l0.length:Int)
        ·rw [if_pos c12] at H
         have c12b0:=eq_true c12;have c12b1:decide (x7_1≤(l0.length:Int))=true:=decide_eq_true c12;clear c12;replace H:=Option.bind_eq_some_iff.mp H;obtain ⟨t294,A130,H⟩:=H;replace H:(if 0≤t294 then (if t294<((rd_L1 t288 (ji8)).length:Int) then (r6_Rank.l0 k1 l0 t288 (wrap64 (x6_1+(wrap64 ((rd l0 x7_1) * (rd (rd_L1 t288 (ji8)) t294))))) (wrap64 (x7_1+1))) else (none)) else (none))=some (r1,r2):=H;have A13:=As0.mk A130;clear A130
         by_cases c14:0≤t294
         ·rw [if_pos c14] at H
          have c14b0:decide (0≤t294)=true:=decide_eq_true c14;clear c14
          by_cases c15:t294<((rd_L1 t288 (ji8)).length:Int)
          ·rw [if_pos c15] at H
           have c15b0:decide (t294<((rd_L1 t288 (ji8)).length:Int))=true:=decide_eq_true c15;clear c15;have H':=As0.mk H;clear H
           try go_wp2
           have n0_:=As0.mk (Kd.S_drew HO_5.out);have n1_:=As0.mk (y02 HB.out);clear HO_5;clear HB;have HO_5:=n0_;have HB:=n1_;clear n0_ n1_;have p291:0≤(x7_1:Int):=of_decide_eq_true (by first|(with_reducible assumption)|assumption);have q291:x7_1<(l0.length:Int):=of_decide_eq_true (by first|(with_reducible assumption)|assumption);obtain ⟨ad291,e291,hx291_0⟩:=Kd.at_int HR0.out x7_1 p291 q291;have hw291_0:=hx291_0;cases e291
           replace hx291_0:=(HB.out.cell (World.block_lt_of_cell? w _ hx291_0)).trans hx291_0;replace p291:=eq_true p291;replace q291:=eq_true q291;obtain ⟨Ao17,co17,eo17⟩:=Kd.S_slice HO_5.out
           (first|subst eo17|(injection eo17 with f1_ f2_ f3_;have f4_:=f1_.symm;have f5_:=f3_.symm;clear f1_ f2_ f3_;subst f4_;subst f5_))
           have p292:0≤((ji8):Int):=of_decide_eq_true (by first|(with_reducible assumption)|assumption);have q292:(ji8)<(t288.length:Int):=of_decide_eq_true (by first|(with_reducible assumption)|assumption);obtain ⟨ad292,A292_0,c292_0,e292,hx292_0,hl292_0,hi292_0⟩:=at_L1 (Kd.S_reads' HO_5.out).2.2 (ji8) p292 q292;cases e292
           obtain ⟨ce292,hce292,hMe292,hcc292⟩:=Kd.S_get HO_5.out [] (ji8) p292 (by first|exact q292|exact of_decide_eq_true (by first|(with_reducible assumption)|assumption)|(have e_:=(Kd.S_reads' HO_5.out).1;omega));obtain ⟨ve292_0,rfl,ge292_0⟩:=hMe292;have hv292_0:=hcc292 0 _ rfl;rw [Nat.add_zero,show ((Kd.slice 3 (Kd.int .i64))).sz=1 from rfl,Nat.mul_one] at hv292_0;replace hv292_0:=Option.some.inj (hv292_0.symm.trans hx292_0);rw [hv292_0] at ge292_0;have HL292_0:=As0.mk (show Kd.R (Kd.int .i64) 3 _ _ _ _ (rd_L1 t288 (ji8)) from ge292_0);clear hv292_0 ge292_0;clear hcc292 hce292;have HR292_0:=As0.mk hi292_0;have HC292_0:=As0.mk hl292_0;clear hi292_0 hl292_0;replace p292:=eq_true p292;replace q292:=eq_true q292;obtain ⟨i018,hi018,_,hsz18,_⟩:=info_parts info3;obtain ⟨hcut18,hA18,hC18⟩:=print_take_of (P:=Tra.prog) (Value.int .i64) 0 29 3 .i64 Tra.underlying29 hi018 hsz18 (some ad291) c0 l0 x7_1 (of_decide_eq_true (by first|(with_reducible assumption)|assumption)) (of_decide_eq_true (by first|(with_reducible assumption)|assumption)) HC0.out;have HR293:=As0.mk (Kd.C_of_reads (h1:=fun _=>rfl) (hA18 _ (Kd.reads_of_C HR0.out)));have HC293:=As0.mk hC18;clear hA18 hC18 hi018 hsz18;have p295:0≤(t294:Int):=of_decide_eq_true (by first|(with_reducible assumption)|assumption);have q295:t294<((rd_L1 t288 (ji8)).length:Int):=of_decide_eq_true (by first|(with_reducible assumption)|assumption);obtain ⟨ad295,e295,hx295_0⟩:=Kd.at_int (by repeat (first|(with_reducible exact HR292_0.out)|(with_reducible refine Kd.C_alloc ?_ _)|(with_reducible refine Kd.C_drewN ?_ _)|(with_reducible refine Kd.C_drew ?_)|exact HR292_0.out)) t294 p295 q295;refine start_ (n:=22) (S:=fun w'=>w'.cell? (ad291.add (x7_1).toNat)=some (.int .i64 (rd l0 x7_1))∧w'.cell? (ad292.add ((ji8)).toNat)=some (.slice A292_0 (rd_L1 t288 (ji8)).length c292_0)∧w'.cell? (ad295.add (t294).toNat)=some (.int .i64 (rd (rd_L1 t288 (ji8)) t294))) (ds:=[]) #[false,false,false,false,false,false,false,false,false,false,false,false,false,false,false,false,false,false,false,false,false,false] (by kernel_rfl) rfl rfl ⟨((HB.out.cell (World.block_lt_of_cell? w _ hw291_0)).trans hw291_0),hx292_0,hx295_0⟩ (fun hHeld=>?_);refine with_tabW r6_Rank.tab9 r6_Rank.bits9 (fun HT_ HW_=>?_);generalize wr.drew=w16 at HO_5 HB HL292_0 HR292_0 HR293 hx291_0 hx292_0 hHeld ⊢;refine pure_ (i:=0) (N:=some 22) (v:=?_) (a':=?_) #[true,false,false,false,false,false,false,false,false,false,false,false,false,false,false,false,false,false,false,false,false,false] rfl rfl (y0j HT_.out (by kernel_rfl)) (fun _ _ _ h=>h) (Or.inl ⟨by rfl,?_⟩) ?_ ?_;rotate_left
           ·intro w'
            go_simp
            with_reducible rfl
           rotate_left
           ·simp only [Act.put,List.setIfInBounds_toArray,List.set_cons_zero,List.set_cons_succ,i64_w,i32_w]
            rfl
           refine pure_ (i:=1) (N:=some 23) (v:=?_) (a':=?_) #[true,true,false,false,false,false,false,false,false,false,false,false,false,false,false,false,false,false,false,false,false,false] rfl rfl (y0j HT_.out (by kernel_rfl)) (fun _ _ _ h=>h) (Or.inl ⟨by rfl,?_⟩) ?_ ?_;rotate_left
           ·intro w'
            go_simp
            with_reducible rfl
           rotate_left
           ·simp only [Act.put,List.setIfInBounds_toArray,List.set_cons_zero,List.set_cons_succ,i64_w,i32_w]
            rfl
           refine pure_ (i:=2) (N:=some 24) (v:=?_) (a':=?_) #[true,true,true,false,false,false,false,false,false,false,false,false,false,false,false,false,false,false,false,false,false,false] rfl rfl (y0j HT_.out (by kernel_rfl)) (fun _ _ _ h=>h) (Or.inl ⟨by rfl,?_⟩) ?_ ?_;rotate_left
           ·intro w'
            go_simp
            with_reducible rfl
           rotate_left
           ·simp only [Act.put,List.setIfInBounds_toArray,List.set_cons_zero,List.set_cons_succ,i64_w,i32_w]
            rfl
           refine pure_ (i:=3) (N:=some 25) (v:=?_) (a':=?_) #[true,true,true,true,false,false,false,false,false,false,false,false,false,false,false,false,false,false,false,false,false,false] rfl rfl (y0j HT_.out (by kernel_rfl)) (fun _ _ _ h=>h) (Or.inl ⟨by rfl,?_⟩) ?_ ?_;rotate_left
           ·intro w'
            go_simp
            with_reducible rfl
           rotate_left
           ·simp only [Act.put,List.setIfInBounds_toArray,List.set_cons_zero,List.set_cons_succ,i64_w,i32_w]
            rfl
           refine pure_ (i:=5) (N:=some 27) (v:=?_) (a':=?_) #[true,true,true,true,false,true,false,false,false,false,false,false,false,false,false,false,false,false,false,false,false,false] rfl rfl (y0j HT_.out (by kernel_rfl)) (fun _ _ _ h=>h) (Or.inl ⟨by rfl,?_⟩) ?_ ?_;rotate_left
           ·intro w'
            go_simp
            with_reducible rfl
           rotate_left
           ·simp only [Act.put,List.setIfInBounds_toArray,List.set_cons_zero,List.set_cons_succ,i64_w,i32_w]
            rfl
           refine pure_ (i:=6) (N:=some 28) (v:=?_) (a':=?_) #[true,true,true,true,false,true,true,false,false,false,false,false,false,false,false,false,false,false,false,false,false,false] rfl rfl (y0j HT_.out (by kernel_rfl)) (fun _ _ _ h=>h) (Or.inl ⟨by rfl,?_⟩) ?_ ?_;rotate_left
           ·intro w'
            go_simp
            with_reducible rfl
           rotate_left
           ·simp only [Act.put,List.setIfInBounds_toArray,List.set_cons_zero,List.set_cons_succ,i64_w,i32_w]
            rfl
           refine pure_ (i:=7) (N:=some 29) (v:=?_) (a':=?_) #[true,true,true,true,false,true,true,true,false,false,false,false,false,false,false,false,false,false,false,false,false,false] rfl rfl (y0j HT_.out (by kernel_rfl)) (fun _ _ _ h=>h) (Or.inl ⟨by rfl,?_⟩) ?_ ?_;rotate_left
           ·intro w'
            go_simp
            with_reducible rfl
           rotate_left
           ·simp only [Act.put,List.setIfInBounds_toArray,List.set_cons_zero,List.set_cons_succ,i64_w,i32_w]
            rfl
           refine pure_ (i:=8) (N:=some 30) (v:=?_) (a':=?_) #[true,true,true,true,false,true,true,true,true,false,false,false,false,false,false,false,false,false,false,false,false,false] rfl rfl (y0j HT_.out (by kernel_rfl)) (fun _ _ _ h=>h) (Or.inl ⟨by rfl,?_⟩) ?_ ?_;rotate_left
           ·intro w'
            go_simp
            with_reducible rfl
           rotate_left
           ·simp only [Act.put,List.setIfInBounds_toArray,List.set_cons_zero,List.set_cons_succ,i64_w,i32_w]
            rfl
           refine pure_ (i:=9) (N:=some 31) (v:=?_) (a':=?_) #[true,true,true,true,false,true,true,true,true,true,false,false,false,false,false,false,false,false,false,false,false,false] rfl rfl (y0j HT_.out (by kernel_rfl)) (fun _ _ _ h=>h) (Or.inl ⟨by rfl,?_⟩) ?_ ?_;rotate_left
           ·intro w'
            go_simp
            with_reducible rfl
           rotate_left
           ·simp only [Act.put,List.setIfInBounds_toArray,List.set_cons_zero,List.set_cons_succ,i64_w,i32_w]
            rfl
           refine pure_ (i:=10) (N:=some 32) (v:=?_) (a':=?_) #[true,true,true,true,false,true,true,true,true,true,true,false,false,false,false,false,false,false,false,false,false,false] rfl rfl (y0j HT_.out (by kernel_rfl)) (fun _ _ _ h=>h) (Or.inl ⟨by rfl,?_⟩) ?_ ?_;rotate_left
           ·intro w'
            go_simp
            with_reducible rfl
           rotate_left
           ·simp only [Act.put,List.setIfInBounds_toArray,List.set_cons_zero,List.set_cons_succ,i64_w,i32_w]
            rfl
           refine pure_ (i:=11) (N:=some 33) (v:=?_) (a':=?_) #[true,true,true,true,false,true,true,true,true,true,true,true,false,false,false,false,false,false,false,false,false,false] rfl rfl (y0j HT_.out (by kernel_rfl)) (fun _ _ _ h=>h) (Or.inl ⟨by rfl,?_⟩) ?_ ?_;rotate_left
           ·intro w'
            go_simp
            with_reducible rfl
           rotate_left
           ·simp only [Act.put,List.setIfInBounds_toArray,List.set_cons_zero,List.set_cons_succ,i64_w,i32_w]
            rfl
           refine pure_ (i:=13) (N:=some 35) (v:=?_) (a':=?_) #[true,true,true,true,false,true,true,true,true,true,true,true,false,true,false,false,false,false,false,false,false,false] rfl rfl (y0j HT_.out (by kernel_rfl)) (fun _ _ _ h=>h) (Or.inl ⟨by rfl,?_⟩) ?_ ?_;rotate_left
           ·intro w'
            go_simp
            with_reducible rfl
           rotate_left
           ·simp only [Act.put,List.setIfInBounds_toArray,List.set_cons_zero,List.set_cons_succ,i64_w,i32_w]
            rfl
           refine pure_ (i:=14) (N:=some 36) (v:=?_) (a':=?_) #[true,true,true,true,false,true,true,true,true,true,true,true,false,true,true,false,false,false,false,false,false,false] rfl rfl (y0j HT_.out (by kernel_rfl)) (fun _ _ _ h=>h) (Or.inl ⟨by rfl,?_⟩) ?_ ?_;rotate_left
           ·intro w'
            go_simp
            with_reducible rfl
           rotate_left
           ·simp only [Act.put,List.setIfInBounds_toArray,List.set_cons_zero,List.set_cons_succ,i64_w,i32_w]
            rfl
           refine pure_ (i:=15) (N:=some 37) (v:=?_) (a':=?_) #[true,true,true,true,false,true,true,true,true,true,true,true,false,true,true,true,false,false,false,false,false,false] rfl rfl (y0j HT_.out (by kernel_rfl)) (fun _ _ _ h=>h) (Or.inl ⟨by rfl,?_⟩) ?_ ?_;rotate_left
           ·intro w'
            go_simp
            with_reducible rfl
           rotate_left
           ·simp only [Act.put,List.setIfInBounds_toArray,List.set_cons_zero,List.set_cons_succ,i64_w,i32_w]
            rfl
           refine take_ (i:=4) (N:=some 26) (v:=?_) (a':=?_) #[true,true,true,true,true,true,true,true,true,true,true,true,false,true,true,true,false,false,false,false,false,false] rfl rfl (take_ofW HT_.out HW_.out (by kernel_rfl)) (fun _ _ _ h=>h) (Or.inl ⟨by rfl,?_⟩) hHeld ?_ ?_;rotate_left
           ·rintro w' ⟨s0,s1,s2⟩
            go_simp
            with_reducible rfl
           rotate_left
           ·simp only [Act.put,List.setIfInBounds_toArray,List.set_cons_zero,List.set_cons_succ,i64_w,i32_w]
            rfl
           refine take_ (i:=12) (N:=some 34) (v:=?_) (a':=?_) #[true,true,true,true,true,true,true,true,true,true,true,true,true,true,true,true,false,false,false,false,false,false] rfl rfl (take_ofW HT_.out HW_.out (by kernel_rfl)) (fun _ _ _ h=>h) (Or.inl ⟨by rfl,?_⟩) hHeld ?_ ?_;rotate_left
           ·rintro w' ⟨s0,s1,s2⟩
            go_simp
            with_reducible rfl
           rotate_left
           ·simp only [Act.put,List.setIfInBounds_toArray,List.set_cons_zero,List.set_cons_succ,i64_w,i32_w]
            rfl
           refine one_ (i:=16) (N:=some 38) #[true,true,true,true,true,true,true,true,true,true,true,true,true,true,true,true,true,false,false,false,false,false] rfl rfl (one_of HT_.out (by kernel_rfl)) (by decide) (fun K hK=>?_);refine goes_ Tra.func31 (by kernel_rfl) rfl #[.slice (some ad291) (l0.take (x7_1:Int).toNat).length c0] (by rfl) rfl rfl (by (try simp only [List.map_toArray,List.map_cons,List.map_nil]);first|done|(rw [show (l0.take (x7_1:Int).toNat).length=x7_1.toNat from (by rw [List.length_take];have h_:(x7_1:Int)≤(l0.length:Int):=of_decide_eq_true (by first|(with_reducible assumption)|assumption);omega)]<;>rfl)|rfl|(simp only [List.length_drop,List.length_take];rfl)) ?_
           with_reducible refine (r6_Many.calls k1 _ _ (l0.take (x7_1:Int).toNat) t294 _ ?side1 ?side2 A13.out).mono ?_
           (case side1=>repeat (first|exact (Kd.C_below HR293.out HB.out)|(with_reducible refine Kd.C_alloc ?_ _)|(with_reducible refine Kd.C_drewN ?_ _)|(with_reducible refine Kd.C_drew ?_)))
           (case side2=>exact HC293.out)
           rintro e w19 ⟨rfl,hb⟩
           have HS1_:=(hb.cell (World.block_lt_of_cell? _ _ (hHeld.2.1))).trans (hHeld.2.1);have HS2_:=(hb.cell (World.block_lt_of_cell? _ _ (hHeld.2.2))).trans (hHeld.2.2);refine ⟨_,rfl,?_⟩;have n0_:=As0.mk (Kd.S_below (by (with_reducible repeat (first|apply Kd.S_alloc|apply Kd.S_drewN|apply Kd.S_drew));exact HO_5.out) hb);have n1_:=As0.mk (Kd.R_below (by (with_reducible repeat (first|apply Kd.R_alloc|apply Kd.R_drewN|apply Kd.R_drew));exact HL292_0.out) hb);have n2_:=As0.mk (Kd.C_below (by repeat (first|(with_reducible exact HR292_0.out)|(with_reducible refine Kd.C_alloc ?_ _)|(with_reducible refine Kd.C_drewN ?_ _)|(with_reducible refine Kd.C_drew ?_)|exact HR292_0.out)) hb);have n3_:=As0.mk (y08 (by repeat (first|(with_reducible first|exact HB.out|apply y01|apply y00|apply y02)|exact HB.out)) hb);clear HO_5;clear HL292_0;clear HR292_0;clear HB;have HO_5:=n0_;have HL292_0:=n1_;have HR292_0:=n2_;have HB:=n3_;clear n0_ n1_ n2_ n3_
           (try clear hb)
           (try clear hb2)
           (try clear hk)
           (try clear hi)
           cases e295
           replace p295:=eq_true p295;replace q295:=eq_true q295;refine hK.out _ _ ⟨((HB.out.cell (World.block_lt_of_cell? w _ hw291_0)).trans hw291_0),HS1_,HS2_⟩ (fun hHeld=>?_);clear hK K;refine norm_ (a':=?_) ?_ ?_;rotate_left
           ·show Act.put _ (some 38) _=_
            simp only [Act.put,List.setIfInBounds_toArray,List.set_cons_zero,List.set_cons_succ,i64_w,i32_w];rfl
           refine pure_ (i:=17) (N:=some 39) (v:=?_) (a':=?_) #[true,true,true,true,true,true,true,true,true,true,true,true,true,true,true,true,true,true,false,false,false,false] rfl rfl (y0j HT_.out (by kernel_rfl)) (fun _ _ _ h=>h) (Or.inl ⟨by rfl,?_⟩) ?_ ?_;rotate_left
           ·intro w'
            go_simp
            with_reducible rfl
           rotate_left
           ·simp only [Act.put,List.setIfInBounds_toArray,List.set_cons_zero,List.set_cons_succ,i64_w,i32_w]
            rfl
           refine take_ (i:=18) (N:=some 40) (v:=?_) (a':=?_) #[true,true,true,true,true,true,true,true,true,true,true,true,true,true,true,true,true,true,true,false,false,false] rfl rfl (take_ofW HT_.out HW_.out (by kernel_rfl)) (fun _ _ _ h=>h) (Or.inl ⟨by rfl,?_⟩) hHeld ?_ ?_;rotate_left
           ·rintro w' ⟨s0,s1,s2⟩
            go_simp
            with_reducible rfl
           rotate_left
           ·simp only [Act.put,List.setIfInBounds_toArray,List.set_cons_zero,List.set_cons_succ,i64_w,i32_w]
            rfl
           refine pure_ (i:=19) (N:=some 41) (v:=?_) (a':=?_) #[true,true,true,true,true,true,true,true,true,true,true,true,true,true,true,true,true,true,true,true,false,false] rfl rfl (y0j HT_.out (by kernel_rfl)) (fun _ _ _ h=>h) (Or.inl ⟨by rfl,?_⟩) ?_ ?_;rotate_left
           ·intro w'
            go_simp
            with_reducible rfl
           rotate_left
           ·simp only [Act.put,List.setIfInBounds_toArray,List.set_cons_zero,List.set_cons_succ,i64_w,i32_w]
            rfl
           refine pure_ (i:=20) (N:=some 42) (v:=?_) (a':=?_) #[true,true,true,true,true,true,true,true,true,true,true,true,true,true,true,true,true,true,true,true,true,false] rfl rfl (y0j HT_.out (by kernel_rfl)) (fun _ _ _ h=>h) (Or.inl ⟨by rfl,?_⟩) ?_ ?_;rotate_left
           ·intro w'
            go_simp
            with_reducible rfl
           rotate_left
           ·simp only [Act.put,List.setIfInBounds_toArray,List.set_cons_zero,List.set_cons_succ,i64_w,i32_w]
            rfl
           refine pure_ (i:=21) (N:=some 6) (v:=?_) (a':=?_) #[true,true,true,true,true,true,true,true,true,true,true,true,true,true,true,true,true,true,true,true,true,true] rfl rfl (y0j HT_.out (by kernel_rfl)) (fun _ _ _ h=>h) (Or.inl ⟨by rfl,?_⟩) ?_ ?_;rotate_left
           ·intro w'
            go_simp
            with_reducible rfl
           rotate_left
           ·simp only [Act.put,List.setIfInBounds_toArray,List.set_cons_zero,List.set_cons_succ,i64_w,i32_w]
            rfl
           refine done_ (done_of HT_.out (by kernel_rfl)) ?_
           try go_wp2
           go_roundg k1
           case measure=>have:=HK1.out;omega
           case rel=>exact ⟨(wrap64 (x6_1+(wrap64 ((rd l0 x7_1) * (rd (rd_L1 t288 (ji8)) t294))))),(wrap64 (x7_1+1)),(by first|rfl|(simp;done)|(simp only [← hji8]<;>(first|rfl|simp))|(simp [*];done)),(by first|rfl|(simp;done)|(simp [*];done)),H',⟨by have:=HK1.out;omega⟩,⟨by (with_reducible repeat (first|apply Kd.S_alloc|apply Kd.S_drewN|apply Kd.S_drew));exact HO_5.out⟩,⟨by repeat (first|(with_reducible first|exact HB.out|apply y01|apply y00|apply y02)|exact HB.out)⟩⟩
          ·rw [if_neg c15] at H
           exact absurd H (by simp)
         ·rw [if_neg c14] at H
          exact absurd H (by simp)
        ·rw [if_neg c12] at H
         exact absurd H (by simp)
       ·rw [if_neg c10] at H
        exact absurd H (by simp)
      ·rw [if_neg c9] at H
       exact absurd H (by simp)
     ·rw [if_neg c7] at H
      exact absurd H (by simp)
    ·rw [if_neg c6] at H
     have c6b0:decide (x7_1<(l0.length:Int))=false:=decide_eq_false c6;clear c6;simp only [Option.some.injEq,Prod.mk.injEq] at H;obtain ⟨rfl,rfl⟩:=H;go_wp2
     go_ret2
     exact ⟨by first|rfl|(simp [y07,y06]<;>rfl)|(simp [*,y07,y06]<;>rfl),by repeat (first|(with_reducible first|exact HB.out|apply y01|apply y00|apply y02)|exact HB.out)⟩
 ·rw [if_neg c3] at H
  have c3b0:(t287 == 0)=false:=beq_eq_false_iff_ne.mpr c3;have c3b1:(t287 != 0)=true:=bne_iff_ne.mpr c3;simp only [Option.some.injEq,Prod.mk.injEq] at H;obtain ⟨rfl,rfl⟩:=H;go_enter Tra.func37,Tra.ntmps37
  go_wp2_with (first|((with_reducible refine y0a (f:=51) rfl ?_);refine y0s (some 9) rfl rfl Tra.func51 (by kernel_rfl) rfl #[.slice A0 l0.length c0] rfl (by (try simp only [List.map_toArray,List.map_cons,List.map_nil]);first|done|rfl|(simp only [List.length_drop,List.length_take];rfl)) ?_;(with_reducible refine (r6_Parting.calls k _ _ l0 t287 _ ?side1 ?side2 A2.out).mono ?_);(case side1=>repeat (first|exact HR0.out|(with_reducible refine Kd.C_alloc ?_ _)|(with_reducible refine Kd.C_drewN ?_ _)|(with_reducible refine Kd.C_drew ?_)));(case side2=>exact HC0.out);rintro e w' ⟨rfl,⟨nd,rfl⟩⟩;refine ⟨_,rfl,?_⟩))
  go_ret2
  exact ⟨by first|rfl|(simp [y07,y06]<;>rfl)|(simp [*,y07,y06]<;>rfl),by repeat (first|(with_reducible first|exact HB.out|apply y01|apply y00|apply y02)|exact HB.out)⟩
end Go.Proofs.Ytdhgeondbnpeoaa.P
namespace Go.Proofs.Ytdhgeondbnpeoaa.P
open Go.RowKit Go.Proofs.YtdhgeondbnpeoaaW.PrintWords Go.Proofs.YtdhgeondbnpeoaaW.PrintLast Go.Proofs.YtdhgeondbnpeoaaW.PrintMore
attribute [local go_sem] y0y y0w max_two min_two y0n y0m y0x y0v
mutual
def r6_At.j0:Nat->Int->Int->Bool->Option (List Int × Int)
 |0,_,_,_=>none
 |k+1,x0,x1,x17=>if x17=true then (some (([]:List Int),2)) else ((r6_table.f k x0).bind fun t296=>(if x1<0 then (r6_At.j1 k x0 x1 t296 true) else (if 0≤x0 then (if x0<(t296.length:Int) then (if 0<((rd_L1 t296 x0).length:Int) then (r6_At.j1 k x0 x1 t296 (decide (x1 ≥ (rd (rd_L1 t296 x0) 0)))) else (none)) else (none)) else (none))))
def r6_At.j1:Nat->Int->Int->List (List Int)->Bool->Option (List Int × Int)
 |0,_,_,_,_=>none
 |k+1,x0,x1,x6,x31=>if x31=true then (some (([]:List Int),4)) else (r6_At.l0 k x0 x1 x6 ([]:List Int) 0 0)
def r6_At.l0:Nat->Int->Int->List (List Int)->List Int->Int->Int->Option (List Int × Int)
 |0,_,_,_,_,_,_=>none
 |k+1,x0,x1,x6,x7,x8,x9=>if x9<x0 then (if 0≤(wrap64 ((wrap64 (x0 - 1)) - x9)) then (if (wrap64 ((wrap64 (x0 - 1)) - x9))<(x6.length:Int) then (if 0≤x8 then (if x8<((rd_L1 x6 (wrap64 ((wrap64 (x0 - 1)) - x9))).length:Int) then (if x1<(wrap64 (x8 * (rd (rd_L1 x6 (wrap64 ((wrap64 (x0 - 1)) - x9))) x8))) then (if (rd (rd_L1 x6 (wrap64 ((wrap64 (x0 - 1)) - x9))) x8)=0 then (none) else (if x7.length<17592186044416 then ((some (x7 ++ [wrap64 (Int.tdiv x1 (rd (rd_L1 x6 (wrap64 ((wrap64 (x0 - 1)) - x9))) x8))]:List Int)).bind fun y303=>(if (wrap64 (Int.tdiv x1 (rd (rd_L1 x6 (wrap64 ((wrap64 (x0 - 1)) - x9))) x8)))=x8 then (r6_At.l0 k x0 (wrap64 (x1 - (wrap64 ((wrap64 (Int.tdiv x1 (rd (rd_L1 x6 (wrap64 ((wrap64 (x0 - 1)) - x9))) x8))) * (rd (rd_L1 x6 (wrap64 ((wrap64 (x0 - 1)) - x9))) x8))))) x6 y303 (wrap64 (x8+1)) (wrap64 (x9+1))) else (r6_At.l0 k x0 (wrap64 (x1 - (wrap64 ((wrap64 (Int.tdiv x1 (rd (rd_L1 x6 (wrap64 ((wrap64 (x0 - 1)) - x9))) x8))) * (rd (rd_L1 x6 (wrap64 ((wrap64 (x0 - 1)) - x9))) x8))))) x6 y303 x8 (wrap64 (x9+1))))) else (none))) else (if x7.length<17592186044416 then ((some (x7 ++ [x8]:List Int)).bind fun y306=>(if x8=x8 then (r6_At.l0 k x0 (wrap64 (x1 - (wrap64 (x8 * (rd (rd_L1 x6 (wrap64 ((wrap64 (x0 - 1)) - x9))) x8))))) x6 y306 (wrap64 (x8+1)) (wrap64 (x9+1))) else (r6_At.l0 k x0 (wrap64 (x1 - (wrap64 (x8 * (rd (rd_L1 x6 (wrap64 ((wrap64 (x0 - 1)) - x9))) x8))))) x6 y306 x8 (wrap64 (x9+1))))) else (none))) else (none)) else (none)) else (none)) else (none)) else (some (x7,0))
end
def r6_At.f (k:Nat) (a0:Int) (a1:Int):Option (List Int × Int):=if a0<0 then (r6_At.j0 k a0 a1 true) else (r6_At.j0 k a0 a1 (decide (a0 > 12)))
set_option maxHeartbeats 8000000 in
set_option maxRecDepth 100000 in
theorem r6_At.calls (k:Nat) (a0:Int) (a1:Int) (r1:List Int) (r2:Int) (w:World) (h:r6_At.f k a0 a1=some (r1,r2)) :
  Calls Tra.prog 39 #[.int .i64 a0,.int .i64 a1] w fun e w'=>∃ v0_:Value,e=.returned (.tuple #[v0_,.int .i64 r2])∧Kd.R (Kd.int .i64) 3 w' w.heap.size (fun _=>True) v0_ r1∧Below w.heap.size w w':=by
 have HB:=As0.mk (Below.refl w.heap.size w);have H:(if a0<0 then (r6_At.j0 k a0 a1 true) else (r6_At.j0 k a0 a1 (decide (a0 > 12))))=some (r1,r2):=h;clear h;have HC3:=As0.mk H;clear H;go_enter Tra.func39,Tra.ntmps39
 go_upto_region 1 with (fail)
 go_cut [17] (fun v17 wc=>∃ (kq:Nat) (x17_2:Bool),v17=.bool x17_2∧As0 (r6_At.j0 kq a0 a1 x17_2=some (r1,r2))∧As0 (kq≤k)∧As0 (Below w.heap.size w wc))
 case first =>
  have H:=HC3.out;clear HC3
  by_cases c4:a0<0
  ·rw [if_pos c4] at H
   have c4b0:decide (a0<0)=true:=decide_eq_true c4;clear c4
   (first|rw [c4b0]|(simp only [i64_w,i32_w];rw [c4b0])|skip)
   have H':=As0.mk H;clear H;go_wp2
   go_meet
   case rel=>exact ⟨_,(true),(by first|rfl|(simp;done)|(simp [*];done)),H',⟨by first|omega|exact Nat.le_refl _⟩,⟨by repeat (first|(with_reducible first|exact HB.out|apply y01|apply y00|apply y02)|exact HB.out)⟩⟩
  ·rw [if_neg c4] at H
   have c4b0:decide (a0<0)=false:=decide_eq_false c4;clear c4
   (first|rw [c4b0]|(simp only [i64_w,i32_w];rw [c4b0])|skip)
   have H':=As0.mk H;clear H;go_wp2
   go_meet
   case rel=>exact ⟨_,(decide (a0 > 12)),(by first|rfl|(simp;done)|(simp [*];done)),H',⟨by first|omega|exact Nat.le_refl _⟩,⟨by repeat (first|(with_reducible first|exact HB.out|apply y01|apply y00|apply y02)|exact HB.out)⟩⟩
 case rest =>
  clear HC3
  try clear p2
  try clear c3
  try clear c4
  try clear c4b0
  obtain ⟨kq,x17_2,rfl,HA,HJ2,HB⟩:=hcut;cases kq with
  |zero=>exact absurd HA.out (by simp [r6_At.j0])
  |succ kj2 =>
   have H:=HA.out;clear HA;simp only [r6_At.j0] at H
   by_cases c5:x17_2=true
   ·subst c5
    have H1:(some (([]:List Int),2))=some (r1,r2):=by rw [if_pos rfl] at H;exact H
    clear H;have H:=H1;clear H1;simp only [Option.some.injEq,Prod.mk.injEq] at H;obtain ⟨rfl,rfl⟩:=H;go_wp2
    go_ret2
    exact ⟨_,by first|rfl|(simp [y07,y06]<;>rfl)|(simp [*,y07,y06]<;>rfl),by first|exact Kd.R_nil _ _ _ _ _|exact Kd.N_nil _ _ _ _ _|exact Kd.V_nil _ _ _ _ _|exact Kd.Q_nil _ _ _ _ _|exact Kd.S_nil _ _ _ _ _,by repeat (first|(with_reducible first|exact HB.out|apply y01|apply y00|apply y02)|exact HB.out)⟩
   ·replace c5:=Bool.eq_false_iff.mpr c5
    subst c5;have H1:((r6_table.f kj2 a0).bind fun t296=>(if a1<0 then (r6_At.j1 kj2 a0 a1 t296 true) else (if 0≤a0 then (if a0<(t296.length:Int) then (if 0<((rd_L1 t296 a0).length:Int) then (r6_At.j1 kj2 a0 a1 t296 (decide (a1 ≥ (rd (rd_L1 t296 a0) 0)))) else (none)) else (none)) else (none))))=some (r1,r2):=by rw [if_neg (show ¬ (false=true) by decide)] at H;exact H
    clear H;have H:=H1;clear H1;replace H:=Option.bind_eq_some_iff.mp H;obtain ⟨t296,A60,H⟩:=H;replace H:(if a1<0 then (r6_At.j1 kj2 a0 a1 t296 true) else (if 0≤a0 then (if a0<(t296.length:Int) then (if 0<((rd_L1 t296 a0).length:Int) then (r6_At.j1 kj2 a0 a1 t296 (decide (a1 ≥ (rd (rd_L1 t296 a0) 0)))) else (none)) else (none)) else (none)))=some (r1,r2):=H;have A6:=As0.mk A60;clear A60;have HC7:=As0.mk H;clear H;go_upto_region 4 with (first|((with_reducible refine y0a (f:=68) rfl ?_);refine y0s (some 19) rfl rfl Tra.func68 (by kernel_rfl) rfl #[.int .i64 a0] rfl (by (try simp only [List.map_toArray,List.map_cons,List.map_nil]);first|done|rfl|(simp only [List.length_drop,List.length_take];rfl)) ?_;(with_reducible refine (r6_table.calls kj2 a0 t296 _ A6.out).mono ?_);rintro e w8 ⟨v297,rfl,ho0,hb⟩;refine ⟨_,rfl,?_⟩;have n0_:=As0.mk (Kd.S_lower ho0 (y09 (by repeat (first|(with_reducible first|exact HB.out|apply y01|apply y00|apply y02)|exact HB.out))));have n1_:=As0.mk (y08 (by repeat (first|(with_reducible first|exact HB.out|apply y01|apply y00|apply y02)|exact HB.out)) hb);clear HB;have HO298:=n0_;have HB:=n1_;clear n0_ n1_;(try clear hb);(try clear hb2);(try clear hk);(try clear hi);(try clear ho0)))
    (try simp only [Act.put,List.setIfInBounds_toArray,List.set_cons_zero,List.set_cons_succ])
    go_cut [31] (fun v31 wc=>∃ (kq:Nat) (x31_6:Bool),v31=.bool x31_6∧As0 (r6_At.j1 kq a0 a1 t296 x31_6=some (r1,r2))∧As0 (kq≤kj2)∧As0 (Kd.S (Kd.slice 3 (Kd.int .i64)) 29 wc w.heap.size (fun _=>True) v297 t296)∧As0 (Below w.heap.size w wc))
    case first =>
     have H:=HC7.out;clear HC7
     by_cases c9:a1<0
     ·rw [if_pos c9] at H
      have c9b0:decide (a1<0)=true:=decide_eq_true c9;clear c9
      (first|rw [c9b0]|(simp only [i64_w,i32_w];rw [c9b0])|skip)
      have H':=As0.mk H;clear H;go_wp2
      go_meet
      case rel=>exact ⟨_,(true),(by first|rfl|(simp;done)|(simp [*];done)),H',⟨by have:=HJ2.out;first|omega|exact Nat.le_refl _⟩,⟨by (with_reducible repeat (first|apply Kd.S_alloc|apply Kd.S_drewN|apply Kd.S_drew));exact HO298.out⟩,⟨by repeat (first|(with_reducible first|exact HB.out|apply y01|apply y00|apply y02)|exact HB.out)⟩⟩
     ·rw [if_neg c9] at H
      have c9b0:decide (a1<0)=false:=decide_eq_false c9;clear c9
      (first|rw [c9b0]|(simp only [i64_w,i32_w];rw [c9b0])|skip)
      by_cases c10:0≤a0
      ·rw [if_pos c10] at H
       have c10b0:decide (0≤a0)=true:=decide_eq_true c10;clear c10
       by_cases c11:a0<(t296.length:Int)
       ·rw [if_pos c11] at H
        have c11b0:decide (a0<(t296.length:Int))=true:=decide_eq_true c11;clear c11
        by_cases c12:0<((rd_L1 t296 a0).length:Int)
        ·rw [if_pos c12] at H
         have c12b0:decide (0<((rd_L1 t296 a0).length:Int))=true:=decide_eq_true c12;have c12b1:decide (0<(rd_L1 t296 a0).length)=true:=decide_eq_true (by omega);clear c12;have H':=As0.mk H;clear H;obtain ⟨Ao13,co13,eo13⟩:=Kd.S_slice HO298.out;subst eo13;have p299:0≤(a0:Int):=of_decide_eq_true (by first|(with_reducible assumption)|assumption);have q299:a0<(t296.length:Int):=of_decide_eq_true (by first|(with_reducible assumption)|assumption);obtain ⟨ad299,A299_0,c299_0,e299,hx299_0,hl299_0,hi299_0⟩:=at_L1 (Kd.S_reads' HO298.out).2.2 a0 p299 q299;cases e299
         obtain ⟨ce299,hce299,hMe299,hcc299⟩:=Kd.S_get HO298.out [] a0 p299 (by first|exact q299|exact of_decide_eq_true (by first|(with_reducible assumption)|assumption)|(have e_:=(Kd.S_reads' HO298.out).1;omega));obtain ⟨ve299_0,rfl,ge299_0⟩:=hMe299;have hv299_0:=hcc299 0 _ rfl;rw [Nat.add_zero,show ((Kd.slice 3 (Kd.int .i64))).sz=1 from rfl,Nat.mul_one] at hv299_0;replace hv299_0:=Option.some.inj (hv299_0.symm.trans hx299_0);rw [hv299_0] at ge299_0;have HL299_0:=As0.mk (show Kd.R (Kd.int .i64) 3 _ _ _ _ (rd_L1 t296 a0) from ge299_0);clear hv299_0 ge299_0;clear hcc299 hce299;have HR299_0:=As0.mk hi299_0;have HC299_0:=As0.mk hl299_0;clear hi299_0 hl299_0;replace p299:=eq_true p299;replace q299:=eq_true q299;have p300:0≤(0:Int):=(by omega)
         have q300:0<((rd_L1 t296 a0).length:Int):=of_decide_eq_true (by first|(with_reducible assumption)|assumption);obtain ⟨ad300,e300,hx300_0⟩:=Kd.at_int (by repeat (first|(with_reducible exact HR299_0.out)|(with_reducible refine Kd.C_alloc ?_ _)|(with_reducible refine Kd.C_drewN ?_ _)|(with_reducible refine Kd.C_drew ?_)|exact HR299_0.out)) 0 p300 q300;cases e300
         have qi300:(0<(rd_L1 t296 a0).length)=True:=eq_true (by omega)
         (try rw [show ((0:Int)).toNat=0 from rfl] at hx300_0)
         (try rw [Addr.add_zero'] at hx300_0)
         replace p300:=eq_true p300;replace q300:=eq_true q300;go_wp2
         go_meet
         case rel=>exact ⟨_,(decide (a1 ≥ (rd (rd_L1 t296 a0) 0))),(by first|rfl|(simp;done)|(simp [*];done)),H',⟨by have:=HJ2.out;first|omega|exact Nat.le_refl _⟩,⟨by (with_reducible repeat (first|apply Kd.S_alloc|apply Kd.S_drewN|apply Kd.S_drew));exact HO298.out⟩,⟨by repeat (first|(with_reducible first|exact HB.out|apply y01|apply y00|apply y02)|exact HB.out)⟩⟩
        ·rw [if_neg c12] at H
         exact absurd H (by simp)
       ·rw [if_neg c11] at H
        exact absurd H (by simp)
      ·rw [if_neg c10] at H
       exact absurd H (by simp)
    case rest =>
     clear HC7
     try clear c1
     try clear c2
     try clear p2
     try clear q2
     try clear hx2
     try clear c3
     try clear p3
     try clear q3
     try clear hx3
     try clear qi3
     try clear c4
     try clear c4b0
     try clear c5
     try clear c6
     try clear c9
     try clear c9b0
     try clear c10
     try clear c10b0
     try clear c11
     try clear c11b0
     try clear c12
     try clear c12b0
     try clear c12b1
     try clear hx299_0
     try clear hx300_0
     try clear p2
     try clear p299
     try clear p300
     try clear q299
     try clear q300
     obtain ⟨kq,x31_6,rfl,HA,HJ6,HO_6,HB⟩:=hcut;cases kq with
     |zero=>exact absurd HA.out (by simp [r6_At.j1])
     |succ kj6 =>
      have H:=HA.out;clear HA;simp only [r6_At.j1] at H
      by_cases c14:x31_6=true
      ·subst c14
       have H1:(some (([]:List Int),4))=some (r1,r2):=by rw [if_pos rfl] at H;exact H
       clear H;have H:=H1;clear H1;simp only [Option.some.injEq,Prod.mk.injEq] at H;obtain ⟨rfl,rfl⟩:=H;go_wp2
       go_ret2
       exact ⟨_,by first|rfl|(simp [y07,y06]<;>rfl)|(simp [*,y07,y06]<;>rfl),by first|exact Kd.R_nil _ _ _ _ _|exact Kd.N_nil _ _ _ _ _|exact Kd.V_nil _ _ _ _ _|exact Kd.Q_nil _ _ _ _ _|exact Kd.S_nil _ _ _ _ _,by repeat (first|(with_reducible first|exact HB.out|apply y01|apply y00|apply y02)|exact HB.out)⟩
      ·replace c14:=Bool.eq_false_iff.mpr c14
       subst c14;have H1:(r6_At.l0 kj6 a0 a1 t296 ([]:List Int) 0 0)=some (r1,r2):=by rw [if_neg (show ¬ (false=true) by decide)] at H;exact H
       clear H;have H:=H1;clear H1;have H':=As0.mk H;clear H;go_wp2
       go_loopg [1,7,8,9] kj6 (fun kq v1 v7 v8 v9 w'=>∃ (x1_3:Int) (x7_3:List Int) (x8_3:Int) (x9_3:Int),v1=.int .i64 x1_3∧v8=.int .i64 x8_3∧v9=.int .i64 x9_3∧As0 (r6_At.l0 kq a0 x1_3 t296 x7_3 x8_3 x9_3=some (r1,r2))∧As0 (kq≤kj6)∧As0 (Kd.S (Kd.slice 3 (Kd.int .i64)) 29 w' w.heap.size (fun k_=>some k_≠(v7:Value).ownBlock) v297 t296)∧As0 (Kd.R (Kd.int .i64) 3 w' w.heap.size (fun _=>True) v7 x7_3)∧As0 (Below w.heap.size w w'))
       case atStart=>exact ⟨(a1),(([]:List Int)),(0),(0),(by first|rfl|(simp;done)|(simp [*];done)),(by first|rfl|(simp;done)|(simp [*];done)),(by first|rfl|(simp;done)|(simp [*];done)),H',⟨Nat.le_refl _⟩,⟨by (with_reducible repeat (first|apply Kd.S_alloc|apply Kd.S_drewN|apply Kd.S_drew));exact Kd.S_mono HO_6.out (fun _ hk=>(by simp [Value.ownBlock]))⟩,⟨by first|exact Kd.R_nil _ _ _ _ _|exact Kd.N_nil _ _ _ _ _|exact Kd.V_nil _ _ _ _ _|exact Kd.Q_nil _ _ _ _ _|exact Kd.S_nil _ _ _ _ _⟩,⟨by repeat (first|(with_reducible first|exact HB.out|apply y01|apply y00|apply y02)|exact HB.out)⟩⟩
       case round =>
        clear H'
        try clear c1
        try clear c2
        try clear p2
        try clear q2
        try clear hx2
        try clear c3
        try clear p3
        try clear q3
        try clear hx3
        try clear qi3
        try clear c4
        try clear c4b0
        try clear c5
        try clear c6
        try clear c9
        try clear c9b0
        try clear c10
        try clear c10b0
        try clear c11
        try clear c11b0
        try clear c12
        try clear c12b0
        try clear c12b1
        try clear c14
        try clear hx299_0
        try clear hx300_0
        try clear p2
        try clear p299
        try clear p3
        try clear p300
        try clear q2
        try clear q299
        try clear q3
        try clear q300
        obtain ⟨x1_3,x7_3,x8_3,x9_3,rfl,rfl,rfl,HA,HK3,HO_6,HO_7,HB⟩:=hrel;cases gk with
        |zero=>exact absurd HA.out (by simp [r6_At.l0])
        |succ k3 =>
         have H:=HA.out;clear HA;simp only [r6_At.l0] at H
         by_cases c15:x9_3<a0
         ·rw [if_pos c15] at H
          have c15b0:decide (x9_3<a0)=true:=decide_eq_true c15;clear c15;obtain ⟨ji16,hji16⟩:∃ j_:Int,(wrap64 ((wrap64 (a0 - 1)) - x9_3))=j_:=⟨_,rfl⟩
          replace H:(if 0≤(ji16) then (if (ji16)<(t296.length:Int) then (if 0≤x8_3 then (if x8_3<((rd_L1 t296 (ji16)).length:Int) then (if x1_3<(wrap64 (x8_3 * (rd (rd_L1 t296 (ji16)) x8_3))) then (if (rd (rd_L1 t296 (ji16)) x8_3)=0 then (none) else (if x7_3.length<17592186044416 then ((some (x7_3 ++ [wrap64 (Int.tdiv x1_3 (rd (rd_L1 t296 (ji16)) x8_3))]:List Int)).bind fun y303=>(if (wrap64 (Int.tdiv x1_3 (rd (rd_L1 t296 (ji16)) x8_3)))=x8_3 then (r6_At.l0 k3 a0 (wrap64 (x1_3 - (wrap64 ((wrap64 (Int.tdiv x1_3 (rd (rd_L1 t296 (ji16)) x8_3))) * (rd (rd_L1 t296 (ji16)) x8_3))))) t296 y303 (wrap64 (x8_3+1)) (wrap64 (x9_3+1))) else (r6_At.l0 k3 a0 (wrap64 (x1_3 - (wrap64 ((wrap64 (Int.tdiv x1_3 (rd (rd_L1 t296 (ji16)) x8_3))) * (rd (rd_L1 t296 (ji16)) x8_3))))) t296 y303 x8_3 (wrap64 (x9_3+1))))) else (none))) else (if x7_3.length<17592186044416 then ((some (x7_3 ++ [x8_3]:List Int)).bind fun y306=>(if x8_3=x8_3 then (r6_At.l0 k3 a0 (wrap64 (x1_3 - (wrap64 (x8_3 * (rd (rd_L1 t296 (ji16)) x8_3))))) t296 y306 (wrap64 (x8_3+1)) (wrap64 (x9_3+1))) else (r6_At.l0 k3 a0 (wrap64 (x1_3 - (wrap64 (x8_3 * (rd (rd_L1 t296 (ji16)) x8_3))))) t296 y306 x8_3 (wrap64 (x9_3+1))))) else (none))) else (none)) else (none)) else (none)) else (none))=some (r1,r2):=by first|(rw [hji16] at H;exact H)|(simp only [hji16] at H ⊢;exact H)
          have hji16w:(IntKind.i64.wrap ((wrap64 (a0 - 1)) - x9_3))=ji16:=(i64_w _).trans hji16
          by_cases c17:0≤(ji16)
          ·rw [if_pos c17] at H
           have c17b0:decide (0≤(ji16))=true:=decide_eq_true c17;clear c17
           by_cases c18:(ji16)<(t296.length:Int)
           ·rw [if_pos c18] at H
            have c18b0:decide ((ji16)<(t296.length:Int))=true:=decide_eq_true c18;clear c18
            by_cases c19:0≤x8_3
            ·rw [if_pos c19] at H
             have c19b0:decide (0≤x8_3)=true:=decide_eq_true c19;clear c19
             by_cases c20:x8_3<((rd_L1 t296 (ji16)).length:Int)
             ·rw [if_pos c20] at H
              have c20b0:decide (x8_3<((rd_L1 t296 (ji16)).length:Int))=true:=decide_eq_true c20;clear c20
              by_cases c21:x1_3<(wrap64 (x8_3 * (rd (rd_L1 t296 (ji16)) x8_3)))
              ·rw [if_pos c21] at H
               have c21b0:decide (x1_3<(wrap64 (x8_3 * (rd (rd_L1 t296 (ji16)) x8_3))))=true:=decide_eq_true c21;clear c21
               by_cases c22:(rd (rd_L1 t296 (ji16)) x8_3)=0
               ·rw [if_pos c22] at H
                exact absurd H (by simp)
               ·rw [if_neg c22] at H
                have c22b0:((rd (rd_L1 t296 (ji16)) x8_3) == 0)=false:=beq_eq_false_iff_ne.mpr c22;have c22b1:((rd (rd_L1 t296 (ji16)) x8_3) != 0)=true:=bne_iff_ne.mpr c22
                by_cases c23:x7_3.length<17592186044416
                ·rw [if_pos c23] at H
                 have LMc23:=As0.mk c23;clear c23;obtain ⟨y303,hy303⟩:∃ y_:List Int,y_=(x7_3 ++ [wrap64 (Int.tdiv x1_3 (rd (rd_L1 t296 (ji16)) x8_3))]):=⟨_,rfl⟩
                 replace H:(if (wrap64 (Int.tdiv x1_3 (rd (rd_L1 t296 (ji16)) x8_3)))=x8_3 then (r6_At.l0 k3 a0 (wrap64 (x1_3 - (wrap64 ((wrap64 (Int.tdiv x1_3 (rd (rd_L1 t296 (ji16)) x8_3))) * (rd (rd_L1 t296 (ji16)) x8_3))))) t296 y303 (wrap64 (x8_3+1)) (wrap64 (x9_3+1))) else (r6_At.l0 k3 a0 (wrap64 (x1_3 - (wrap64 ((wrap64 (Int.tdiv x1_3 (rd (rd_L1 t296 (ji16)) x8_3))) * (rd (rd_L1 t296 (ji16)) x8_3))))) t296 y303 x8_3 (wrap64 (x9_3+1))))=some (r1,r2):=by first|(rw [hy303];with_reducible exact H)|(have H2_:=(Option.bind_some _ _).symm.trans H;rw [hy303];with_reducible exact H2_)|(have H2_:=(Option.bind_some _ _).symm.trans H;with_reducible exact H2_)|with_reducible exact H|(rw [hy303];exact H)|exact H
                 have Ny303:=As0.mk hy303;clear hy303
                 by_cases c24:(wrap64 (Int.tdiv x1_3 (rd (rd_L1 t296 (ji16)) x8_3)))=x8_3
                 ·rw [if_pos c24] at H
                  have c24b0:((wrap64 (Int.tdiv x1_3 (rd (rd_L1 t296 (ji16)) x8_3))) == x8_3)=true:=beq_iff_eq.mpr c24;have c24b1:((wrap64 (Int.tdiv x1_3 (rd (rd_L1 t296 (ji16)) x8_3))) != x8_3)=false:=bne_eq_false_iff_eq.mpr c24;clear c24;have H':=As0.mk H;clear H;obtain ⟨Ao25,co25,eo25⟩:=Kd.S_slice HO_6.out;subst eo25;have p301:0≤((ji16):Int):=of_decide_eq_true (by first|(with_reducible assumption)|assumption);have q301:(ji16)<(t296.length:Int):=of_decide_eq_true (by first|(with_reducible assumption)|assumption);obtain ⟨ad301,A301_0,c301_0,e301,hx301_0,hl301_0,hi301_0⟩:=at_L1 (Kd.S_reads' HO_6.out).2.2 (ji16) p301 q301;cases e301
                  obtain ⟨ce301,hce301,hMe301,hcc301⟩:=Kd.S_get HO_6.out [] (ji16) p301 (by first|exact q301|exact of_decide_eq_true (by first|(with_reducible assumption)|assumption)|(have e_:=(Kd.S_reads' HO_6.out).1;omega));obtain ⟨ve301_0,rfl,ge301_0⟩:=hMe301;have hv301_0:=hcc301 0 _ rfl;rw [Nat.add_zero,show ((Kd.slice 3 (Kd.int .i64))).sz=1 from rfl,Nat.mul_one] at hv301_0;replace hv301_0:=Option.some.inj (hv301_0.symm.trans hx301_0);rw [hv301_0] at ge301_0;have HL301_0:=As0.mk (show Kd.R (Kd.int .i64) 3 _ _ _ _ (rd_L1 t296 (ji16)) from ge301_0);clear hv301_0 ge301_0;clear hcc301 hce301;have HR301_0:=As0.mk hi301_0;have HC301_0:=As0.mk hl301_0;clear hi301_0 hl301_0;replace p301:=eq_true p301;replace q301:=eq_true q301;have p302:0≤(x8_3:Int):=of_decide_eq_true (by first|(with_reducible assumption)|assumption);have q302:x8_3<((rd_L1 t296 (ji16)).length:Int):=of_decide_eq_true (by first|(with_reducible assumption)|assumption);obtain ⟨ad302,e302,hx302_0⟩:=Kd.at_int (by repeat (first|(with_reducible exact HR301_0.out)|(with_reducible refine Kd.C_alloc ?_ _)|(with_reducible refine Kd.C_drewN ?_ _)|(with_reducible refine Kd.C_drew ?_)|exact HR301_0.out)) x8_3 p302 q302;cases e302
                  replace p302:=eq_true p302;replace q302:=eq_true q302;go_wp2_with (first|((with_reducible refine y0l (b:=.append) (xs:=#[.tmp 61,.tmp 63]) rfl ?_);at_builtin;refine Kd.R_append (Kd.int .i64) (w0:=w) w.heap.size rfl (.tmp 61) (.tmp 63) 29 3 (.int .i64 0) 8 rfl Tra.underlying29 info3 rfl (by decide) (by omega) u7 x7_3 (wrap64 (Int.tdiv x1_3 (rd (rd_L1 t296 (ji16)) x8_3))) [.int .i64 (wrap64 (Int.tdiv x1_3 (rd (rd_L1 t296 (ji16)) x8_3)))] (fun _=>True) (fun _=>False) rfl rfl ?aP (fun _ hk=>hk.elim) ?aF ?aO ?aB ?aS ?aL ?_;(case aP=>exact rfl);(case aB=>exact (by repeat (first|(with_reducible first|exact HB.out|apply y01|apply y00|apply y02)|exact HB.out)));(case aF=>exact (fun _ _=>trivial));(case aO=>exact (by (with_reducible repeat (first|apply Kd.R_alloc|apply Kd.R_drewN|apply Kd.R_drew));exact HO_7.out));(case aS=>exact (y09 (by repeat (first|(with_reducible first|exact HB.out|apply y01|apply y00|apply y02)|exact HB.out))));(case aL=>have:=LMc23.out;omega);intro v304 w26 ho hb hg hat;rw [← Ny303.out] at ho;have n0_:=As0.mk (Kd.S_after (ok:=(fun _=>True)) (by (with_reducible repeat (first|apply Kd.S_alloc|apply Kd.S_drewN|apply Kd.S_drew));exact Kd.S_mono HO_6.out (fun _ hk=>⟨trivial,hk⟩)) hg hat);have n1_:=As0.mk (Kd.R_after (ok:=(fun k_=>some k_≠(.slice (some ad301) t296.length co25:Value).ownBlock)) (by (with_reducible repeat (first|apply Kd.R_alloc|apply Kd.R_drewN|apply Kd.R_drew));exact Kd.R_mono HL301_0.out (fun _ hk=>⟨hk.2,hk.1⟩)) hg hat);have n2_:=As0.mk (hb);have n3_:=As0.mk (ho);clear HO_6;clear HL301_0;clear HB;clear HO_7;have HO_6:=n0_;have HL301_0:=n1_;have HB:=n2_;have HO305:=n3_;clear n0_ n1_ n2_ n3_;clear ho hb hg hat))
                  all_goals
                   go_roundg k3
                   case measure=>have:=HJ2.out;have:=HJ6.out;have:=HK3.out;omega
                   case rel=>exact ⟨(wrap64 (x1_3 - (wrap64 ((wrap64 (Int.tdiv x1_3 (rd (rd_L1 t296 (ji16)) x8_3))) * (rd (rd_L1 t296 (ji16)) x8_3))))),(y303),(wrap64 (x8_3+1)),(wrap64 (x9_3+1)),(by first|rfl|(simp;done)|(simp only [← hji16]<;>(first|rfl|simp))|(simp [*];done)),(by first|rfl|(simp;done)|(simp [*];done)),(by first|rfl|(simp;done)|(simp [*];done)),H',⟨by have:=HJ2.out;have:=HJ6.out;have:=HK3.out;omega⟩,⟨by (with_reducible repeat (first|apply Kd.S_alloc|apply Kd.S_drewN|apply Kd.S_drew));exact Kd.S_mono HO_6.out (fun _ hk=>hk.2)⟩,⟨by (with_reducible repeat (first|apply Kd.R_alloc|apply Kd.R_drewN|apply Kd.R_drew));exact HO305.out⟩,⟨by repeat (first|(with_reducible first|exact HB.out|apply y01|apply y00|apply y02)|exact HB.out)⟩⟩
                 ·rw [if_neg c24] at H
                  have c24b0:((wrap64 (Int.tdiv x1_3 (rd (rd_L1 t296 (ji16)) x8_3))) == x8_3)=false:=beq_eq_false_iff_ne.mpr c24;have c24b1:((wrap64 (Int.tdiv x1_3 (rd (rd_L1 t296 (ji16)) x8_3))) != x8_3)=true:=bne_iff_ne.mpr c24;have H':=As0.mk H;clear H;obtain ⟨Ao27,co27,eo27⟩:=Kd.S_slice HO_6.out;subst eo27;have p301:0≤((ji16):Int):=of_decide_eq_true (by first|(with_reducible assumption)|assumption);have q301:(ji16)<(t296.length:Int):=of_decide_eq_true (by first|(with_reducible assumption)|assumption);obtain ⟨ad301,A301_0,c301_0,e301,hx301_0,hl301_0,hi301_0⟩:=at_L1 (Kd.S_reads' HO_6.out).2.2 (ji16) p301 q301;cases e301
                  obtain ⟨ce301,hce301,hMe301,hcc301⟩:=Kd.S_get HO_6.out [] (ji16) p301 (by first|exact q301|exact of_decide_eq_true (by first|(with_reducible assumption)|assumption)|(have e_:=(Kd.S_reads' HO_6.out).1;omega));obtain ⟨ve301_0,rfl,ge301_0⟩:=hMe301;have hv301_0:=hcc301 0 _ rfl;rw [Nat.add_zero,show ((Kd.slice 3 (Kd.int .i64))).sz=1 from rfl,Nat.mul_one] at hv301_0;replace hv301_0:=Option.some.inj (hv301_0.symm.trans hx301_0);rw [hv301_0] at ge301_0;have HL301_0:=As0.mk (show Kd.R (Kd.int .i64) 3 _ _ _ _ (rd_L1 t296 (ji16)) from ge301_0);clear hv301_0 ge301_0;clear hcc301 hce301;have HR301_0:=As0.mk hi301_0;have HC301_0:=As0.mk hl301_0;clear hi301_0 hl301_0;replace p301:=eq_true p301;replace q301:=eq_true q301;have p302:0≤(x8_3:Int):=of_decide_eq_true (by first|(with_reducible assumption)|assumption);have q302:x8_3<((rd_L1 t296 (ji16)).length:Int):=of_decide_eq_true (by first|(with_reducible assumption)|assumption);obtain ⟨ad302,e302,hx302_0⟩:=Kd.at_int (by repeat (first|(with_reducible exact HR301_0.out)|(with_reducible refine Kd.C_alloc ?_ _)|(with_reducible refine Kd.C_drewN ?_ _)|(with_reducible refine Kd.C_drew ?_)|exact HR301_0.out)) x8_3 p302 q302;cases e302
                  replace p302:=eq_true p302;replace q302:=eq_true q302;go_wp2_with (first|((with_reducible refine y0l (b:=.append) (xs:=#[.tmp 61,.tmp 63]) rfl ?_);at_builtin;refine Kd.R_append (Kd.int .i64) (w0:=w) w.heap.size rfl (.tmp 61) (.tmp 63) 29 3 (.int .i64 0) 8 rfl Tra.underlying29 info3 rfl (by decide) (by omega) u7 x7_3 (wrap64 (Int.tdiv x1_3 (rd (rd_L1 t296 (ji16)) x8_3))) [.int .i64 (wrap64 (Int.tdiv x1_3 (rd (rd_L1 t296 (ji16)) x8_3)))] (fun _=>True) (fun _=>False) rfl rfl ?aP (fun _ hk=>hk.elim) ?aF ?aO ?aB ?aS ?aL ?_;(case aP=>exact rfl);(case aB=>exact (by repeat (first|(with_reducible first|exact HB.out|apply y01|apply y00|apply y02)|exact HB.out)));(case aF=>exact (fun _ _=>trivial));(case aO=>exact (by (with_reducible repeat (first|apply Kd.R_alloc|apply Kd.R_drewN|apply Kd.R_drew));exact HO_7.out));(case aS=>exact (y09 (by repeat (first|(with_reducible first|exact HB.out|apply y01|apply y00|apply y02)|exact HB.out))));(case aL=>have:=LMc23.out;omega);intro v304 w28 ho hb hg hat;rw [← Ny303.out] at ho;have n0_:=As0.mk (Kd.S_after (ok:=(fun _=>True)) (by (with_reducible repeat (first|apply Kd.S_alloc|apply Kd.S_drewN|apply Kd.S_drew));exact Kd.S_mono HO_6.out (fun _ hk=>⟨trivial,hk⟩)) hg hat);have n1_:=As0.mk (Kd.R_after (ok:=(fun k_=>some k_≠(.slice (some ad301) t296.length co27:Value).ownBlock)) (by (with_reducible repeat (first|apply Kd.R_alloc|apply Kd.R_drewN|apply Kd.R_drew));exact Kd.R_mono HL301_0.out (fun _ hk=>⟨hk.2,hk.1⟩)) hg hat);have n2_:=As0.mk (hb);have n3_:=As0.mk (ho);clear HO_6;clear HL301_0;clear HB;clear HO_7;have HO_6:=n0_;have HL301_0:=n1_;have HB:=n2_;have HO305:=n3_;clear n0_ n1_ n2_ n3_;clear ho hb hg hat))
                  all_goals
                   go_roundg k3
                   case measure=>have:=HJ2.out;have:=HJ6.out;have:=HK3.out;omega
                   case rel=>exact ⟨(wrap64 (x1_3 - (wrap64 ((wrap64 (Int.tdiv x1_3 (rd (rd_L1 t296 (ji16)) x8_3))) * (rd (rd_L1 t296 (ji16)) x8_3))))),(y303),(x8_3),(wrap64 (x9_3+1)),(by first|rfl|(simp;done)|(simp only [← hji16]<;>(first|rfl|simp))|(simp [*];done)),(by first|rfl|(simp;done)|(simp [*];done)),(by first|rfl|(simp;done)|(simp [*];done)),H',⟨by have:=HJ2.out;have:=HJ6.out;have:=HK3.out;omega⟩,⟨by (with_reducible repeat (first|apply Kd.S_alloc|apply Kd.S_drewN|apply Kd.S_drew));exact Kd.S_mono HO_6.out (fun _ hk=>hk.2)⟩,⟨by (with_reducible repeat (first|apply Kd.R_alloc|apply Kd.R_drewN|apply Kd.R_drew));exact HO305.out⟩,⟨by repeat (first|(with_reducible first|exact HB.out|apply y01|apply y00|apply y02)|exact HB.out)⟩⟩
                ·rw [if_neg c23] at H
                 exact absurd H (by simp)
              ·rw [if_neg c21] at H
               have c21b0:decide (x1_3<(wrap64 (x8_3 * (rd (rd_L1 t296 (ji16)) x8_3))))=false:=decide_eq_false c21;clear c21
               by_cases c29:x7_3.length<17592186044416
               ·rw [if_pos c29] at H
                have LMc29:=As0.mk c29;clear c29;obtain ⟨y306,hy306⟩:∃ y_:List Int,y_=(x7_3 ++ [x8_3]):=⟨_,rfl⟩
                replace H:(if x8_3=x8_3 then (r6_At.l0 k3 a0 (wrap64 (x1_3 - (wrap64 (x8_3 * (rd (rd_L1 t296 (ji16)) x8_3))))) t296 y306 (wrap64 (x8_3+1)) (wrap64 (x9_3+1))) else (r6_At.l0 k3 a0 (wrap64 (x1_3 - (wrap64 (x8_3 * (rd (rd_L1 t296 (ji16)) x8_3))))) t296 y306 x8_3 (wrap64 (x9_3+1))))=some (r1,r2):=by first|(rw [hy306];with_reducible exact H)|(have H2_:=(Option.bind_some _ _).symm.trans H;rw [hy306];with_reducible exact H2_)|(have H2_:=(Option.bind_some _ _).symm.trans H;with_reducible exact H2_)|with_reducible exact H|(rw [hy306];exact H)|exact H
                have Ny306:=As0.mk hy306;clear hy306
                by_cases c30:x8_3=x8_3
                ·rw [if_pos c30] at H
                 have c30b0:(x8_3 == x8_3)=true:=beq_iff_eq.mpr c30;have c30b1:(x8_3 != x8_3)=false:=bne_eq_false_iff_eq.mpr c30;clear c30;have H':=As0.mk H;clear H;obtain ⟨Ao31,co31,eo31⟩:=Kd.S_slice HO_6.out;subst eo31;have p301:0≤((ji16):Int):=of_decide_eq_true (by first|(with_reducible assumption)|assumption);have q301:(ji16)<(t296.length:Int):=of_decide_eq_true (by first|(with_reducible assumption)|assumption);obtain ⟨ad301,A301_0,c301_0,e301,hx301_0,hl301_0,hi301_0⟩:=at_L1 (Kd.S_reads' HO_6.out).2.2 (ji16) p301 q301;cases e301
                 obtain ⟨ce301,hce301,hMe301,hcc301⟩:=Kd.S_get HO_6.out [] (ji16) p301 (by first|exact q301|exact of_decide_eq_true (by first|(with_reducible assumption)|assumption)|(have e_:=(Kd.S_reads' HO_6.out).1;omega));obtain ⟨ve301_0,rfl,ge301_0⟩:=hMe301;have hv301_0:=hcc301 0 _ rfl;rw [Nat.add_zero,show ((Kd.slice 3 (Kd.int .i64))).sz=1 from rfl,Nat.mul_one] at hv301_0;replace hv301_0:=Option.some.inj (hv301_0.symm.trans hx301_0);rw [hv301_0] at ge301_0;have HL301_0:=As0.mk (show Kd.R (Kd.int .i64) 3 _ _ _ _ (rd_L1 t296 (ji16)) from ge301_0);clear hv301_0 ge301_0;clear hcc301 hce301;have HR301_0:=As0.mk hi301_0;have HC301_0:=As0.mk hl301_0;clear hi301_0 hl301_0;replace p301:=eq_true p301;replace q301:=eq_true q301;have p302:0≤(x8_3:Int):=of_decide_eq_true (by first|(with_reducible assumption)|assumption);have q302:x8_3<((rd_L1 t296 (ji16)).length:Int):=of_decide_eq_true (by first|(with_reducible assumption)|assumption);obtain ⟨ad302,e302,hx302_0⟩:=Kd.at_int (by repeat (first|(with_reducible exact HR301_0.out)|(with_reducible refine Kd.C_alloc ?_ _)|(with_reducible refine Kd.C_drewN ?_ _)|(with_reducible refine Kd.C_drew ?_)|exact HR301_0.out)) x8_3 p302 q302;cases e302
                 replace p302:=eq_true p302;replace q302:=eq_true q302;go_wp2_with (first|((with_reducible refine y0l (b:=.append) (xs:=#[.tmp 61,.tmp 63]) rfl ?_);at_builtin;refine Kd.R_append (Kd.int .i64) (w0:=w) w.heap.size rfl (.tmp 61) (.tmp 63) 29 3 (.int .i64 0) 8 rfl Tra.underlying29 info3 rfl (by decide) (by omega) u7 x7_3 x8_3 [.int .i64 x8_3] (fun _=>True) (fun _=>False) rfl rfl ?aP (fun _ hk=>hk.elim) ?aF ?aO ?aB ?aS ?aL ?_;(case aP=>exact rfl);(case aB=>exact (by repeat (first|(with_reducible first|exact HB.out|apply y01|apply y00|apply y02)|exact HB.out)));(case aF=>exact (fun _ _=>trivial));(case aO=>exact (by (with_reducible repeat (first|apply Kd.R_alloc|apply Kd.R_drewN|apply Kd.R_drew));exact HO_7.out));(case aS=>exact (y09 (by repeat (first|(with_reducible first|exact HB.out|apply y01|apply y00|apply y02)|exact HB.out))));(case aL=>have:=LMc29.out;omega);intro v307 w32 ho hb hg hat;rw [← Ny306.out] at ho;have n0_:=As0.mk (Kd.S_after (ok:=(fun _=>True)) (by (with_reducible repeat (first|apply Kd.S_alloc|apply Kd.S_drewN|apply Kd.S_drew));exact Kd.S_mono HO_6.out (fun _ hk=>⟨trivial,hk⟩)) hg hat);have n1_:=As0.mk (Kd.R_after (ok:=(fun k_=>some k_≠(.slice (some ad301) t296.length co31:Value).ownBlock)) (by (with_reducible repeat (first|apply Kd.R_alloc|apply Kd.R_drewN|apply Kd.R_drew));exact Kd.R_mono HL301_0.out (fun _ hk=>⟨hk.2,hk.1⟩)) hg hat);have n2_:=As0.mk (hb);have n3_:=As0.mk (ho);clear HO_6;clear HL301_0;clear HB;clear HO_7;have HO_6:=n0_;have HL301_0:=n1_;have HB:=n2_;have HO308:=n3_;clear n0_ n1_ n2_ n3_;clear ho hb hg hat))
                 all_goals
                  go_roundg k3
                  case measure=>have:=HJ2.out;have:=HJ6.out;have:=HK3.out;omega
                  case rel=>exact ⟨(wrap64 (x1_3 - (wrap64 (x8_3 * (rd (rd_L1 t296 (ji16)) x8_3))))),(y306),(wrap64 (x8_3+1)),(wrap64 (x9_3+1)),(by first|rfl|(simp;done)|(simp only [← hji16]<;>(first|rfl|simp))|(simp [*];done)),(by first|rfl|(simp;done)|(simp [*];done)),(by first|rfl|(simp;done)|(simp [*];done)),H',⟨by have:=HJ2.out;have:=HJ6.out;have:=HK3.out;omega⟩,⟨by (with_reducible repeat (first|apply Kd.S_alloc|apply Kd.S_drewN|apply Kd.S_drew));exact Kd.S_mono HO_6.out (fun _ hk=>hk.2)⟩,⟨by (with_reducible repeat (first|apply Kd.R_alloc|apply Kd.R_drewN|apply Kd.R_drew));exact HO308.out⟩,⟨by repeat (first|(with_reducible first|exact HB.out|apply y01|apply y00|apply y02)|exact HB.out)⟩⟩
                ·rw [if_neg c30] at H
                 have c30b0:(x8_3 == x8_3)=false:=beq_eq_false_iff_ne.mpr c30;have c30b1:(x8_3 != x8_3)=true:=bne_iff_ne.mpr c30;have H':=As0.mk H;clear H;obtain ⟨Ao33,co33,eo33⟩:=Kd.S_slice HO_6.out;subst eo33;have p301:0≤((ji16):Int):=of_decide_eq_true (by first|(with_reducible assumption)|assumption);have q301:(ji16)<(t296.length:Int):=of_decide_eq_true (by first|(with_reducible assumption)|assumption);obtain ⟨ad301,A301_0,c301_0,e301,hx301_0,hl301_0,hi301_0⟩:=at_L1 (Kd.S_reads' HO_6.out).2.2 (ji16) p301 q301;cases e301
                 obtain ⟨ce301,hce301,hMe301,hcc301⟩:=Kd.S_get HO_6.out [] (ji16) p301 (by first|exact q301|exact of_decide_eq_true (by first|(with_reducible assumption)|assumption)|(have e_:=(Kd.S_reads' HO_6.out).1;omega));obtain ⟨ve301_0,rfl,ge301_0⟩:=hMe301;have hv301_0:=hcc301 0 _ rfl;rw [Nat.add_zero,show ((Kd.slice 3 (Kd.int .i64))).sz=1 from rfl,Nat.mul_one] at hv301_0;replace hv301_0:=Option.some.inj (hv301_0.symm.trans hx301_0);rw [hv301_0] at ge301_0;have HL301_0:=As0.mk (show Kd.R (Kd.int .i64) 3 _ _ _ _ (rd_L1 t296 (ji16)) from ge301_0);clear hv301_0 ge301_0;clear hcc301 hce301;have HR301_0:=As0.mk hi301_0;have HC301_0:=As0.mk hl301_0;clear hi301_0 hl301_0;replace p301:=eq_true p301;replace q301:=eq_true q301;have p302:0≤(x8_3:Int):=of_decide_eq_true (by first|(with_reducible assumption)|assumption);have q302:x8_3<((rd_L1 t296 (ji16)).length:Int):=of_decide_eq_true (by first|(with_reducible assumption)|assumption);obtain ⟨ad302,e302,hx302_0⟩:=Kd.at_int (by repeat (first|(with_reducible exact HR301_0.out)|(with_reducible refine Kd.C_alloc ?_ _)|(with_reducible refine Kd.C_drewN ?_ _)|(with_reducible refine Kd.C_drew ?_)|exact HR301_0.out)) x8_3 p302 q302;cases e302
                 replace p302:=eq_true p302;replace q302:=eq_true q302;go_wp2_with (first|((with_reducible refine y0l (b:=.append) (xs:=#[.tmp 61,.tmp 63]) rfl ?_);at_builtin;refine Kd.R_append (Kd.int .i64) (w0:=w) w.heap.size rfl (.tmp 61) (.tmp 63) 29 3 (.int .i64 0) 8 rfl Tra.underlying29 info3 rfl (by decide) (by omega) u7 x7_3 x8_3 [.int .i64 x8_3] (fun _=>True) (fun _=>False) rfl rfl ?aP (fun _ hk=>hk.elim) ?aF ?aO ?aB ?aS ?aL ?_;(case aP=>exact rfl);(case aB=>exact (by repeat (first|(with_reducible first|exact HB.out|apply y01|apply y00|apply y02)|exact HB.out)));(case aF=>exact (fun _ _=>trivial));(case aO=>exact (by (with_reducible repeat (first|apply Kd.R_alloc|apply Kd.R_drewN|apply Kd.R_drew));exact HO_7.out));(case aS=>exact (y09 (by repeat (first|(with_reducible first|exact HB.out|apply y01|apply y00|apply y02)|exact HB.out))));(case aL=>have:=LMc29.out;omega);intro v307 w34 ho hb hg hat;rw [← Ny306.out] at ho;have n0_:=As0.mk (Kd.S_after (ok:=(fun _=>True)) (by (with_reducible repeat (first|apply Kd.S_alloc|apply Kd.S_drewN|apply Kd.S_drew));exact Kd.S_mono HO_6.out (fun _ hk=>⟨trivial,hk⟩)) hg hat);have n1_:=As0.mk (Kd.R_after (ok:=(fun k_=>some k_≠(.slice (some ad301) t296.length co33:Value).ownBlock)) (by (with_reducible repeat (first|apply Kd.R_alloc|apply Kd.R_drewN|apply Kd.R_drew));exact Kd.R_mono HL301_0.out (fun _ hk=>⟨hk.2,hk.1⟩)) hg hat);have n2_:=As0.mk (hb);have n3_:=As0.mk (ho);clear HO_6;clear HL301_0;clear HB;clear HO_7;have HO_6:=n0_;have HL301_0:=n1_;have HB:=n2_;have HO308:=n3_;clear n0_ n1_ n2_ n3_;clear ho hb hg hat))
                 all_goals
                  go_roundg k3
                  case measure=>have:=HJ2.out;have:=HJ6.out;have:=HK3.out;omega
                  case rel=>exact ⟨(wrap64 (x1_3 - (wrap64 (x8_3 * (rd (rd_L1 t296 (ji16)) x8_3))))),(y306),(x8_3),(wrap64 (x9_3+1)),(by first|rfl|(simp;done)|(simp only [← hji16]<;>(first|rfl|simp))|(simp [*];done)),(by first|rfl|(simp;done)|(simp [*];done)),(by first|rfl|(simp;done)|(simp [*];done)),H',⟨by have:=HJ2.out;have:=HJ6.out;have:=HK3.out;omega⟩,⟨by (with_reducible repeat (first|apply Kd.S_alloc|apply Kd.S_drewN|apply Kd.S_drew));exact Kd.S_mono HO_6.out (fun _ hk=>hk.2)⟩,⟨by (with_reducible repeat (first|apply Kd.R_alloc|apply Kd.R_drewN|apply Kd.R_drew));exact HO308.out⟩,⟨by repeat (first|(with_reducible first|exact HB.out|apply y01|apply y00|apply y02)|exact HB.out)⟩⟩
               ·rw [if_neg c29] at H
                exact absurd H (by simp)
             ·rw [if_neg c20] at H
              exact absurd H (by simp)
            ·rw [if_neg c19] at H
             exact absurd H (by simp)
           ·rw [if_neg c18] at H
            exact absurd H (by simp)
          ·rw [if_neg c17] at H
           exact absurd H (by simp)
         ·rw [if_neg c15] at H
          have c15b0:decide (x9_3<a0)=false:=decide_eq_false c15;clear c15;simp only [Option.some.injEq,Prod.mk.injEq] at H;obtain ⟨rfl,rfl⟩:=H;go_wp2
          go_ret2
          exact ⟨_,by first|rfl|(simp [y07,y06]<;>rfl)|(simp [*,y07,y06]<;>rfl),by (with_reducible repeat (first|apply Kd.R_alloc|apply Kd.R_drewN|apply Kd.R_drew));exact HO_7.out,by repeat (first|(with_reducible first|exact HB.out|apply y01|apply y00|apply y02)|exact HB.out)⟩
def w6_MobsRanks.j0:Nat->Int->Int->Bool->Option (Bool)
 |0,_,_,_=>none
 |k+1,x1,x2,x34=>if x34=true then (some false) else ((mobs_At.f k x1 x2).bind fun bt315=>((r6_At.f k x1 x2).bind fun bt319=>((w6_same.f k bt315.1 bt319.1).bind fun t323=>(if t323=true then (if bt315.2=bt319.2 then ((w6_alive.f).bind fun t324=>(some t324)) else (some false)) else (some false)))))
def w6_MobsRanks.f (k:Nat) (l0:List Int) (a1:Int) (a2:Int):Option (Bool):=(w6_few.f l0 ([]:List Int)).bind fun t309=>(if t309=true then ((mobs_Rank.f k l0).bind fun bt311=>((r6_Rank.f k l0).bind fun bt313=>(if bt311.1=bt313.1 then (w6_MobsRanks.j0 k a1 a2 (bt311.2 != bt313.2)) else (w6_MobsRanks.j0 k a1 a2 true)))) else ((w6_alive.f).bind fun t310=>(some t310)))
set_option maxHeartbeats 8000000 in
set_option maxRecDepth 100000 in
theorem w6_MobsRanks.calls (k:Nat) (A0:Option Addr) (c0:Nat) (l0:List Int) (a1:Int) (a2:Int) (r:Bool) (w:World) (hr0:Kd.C (Kd.int .i64) w A0 l0.length l0) (hc0:l0.length≤c0) (h:w6_MobsRanks.f k l0 a1 a2=some r) :
  Calls Tra.prog 12 #[.slice A0 l0.length c0,.int .i64 a1,.int .i64 a2] w fun e w'=>e=.returned (.bool r)∧Below w.heap.size w w':=by
 have HR0:=As0.mk hr0;have HC0:=As0.mk hc0;clear hr0 hc0;have HB:=As0.mk (Below.refl w.heap.size w);have H:((w6_few.f l0 ([]:List Int)).bind fun t309=>(if t309=true then ((mobs_Rank.f k l0).bind fun bt311=>((r6_Rank.f k l0).bind fun bt313=>(if bt311.1=bt313.1 then (w6_MobsRanks.j0 k a1 a2 (bt311.2 != bt313.2)) else (w6_MobsRanks.j0 k a1 a2 true)))) else ((w6_alive.f).bind fun t310=>(some t310))))=some r:=h;clear h;replace H:=Option.bind_eq_some_iff.mp H;obtain ⟨t309,A40,H⟩:=H;replace H:(if t309=true then ((mobs_Rank.f k l0).bind fun bt311=>((r6_Rank.f k l0).bind fun bt313=>(if bt311.1=bt313.1 then (w6_MobsRanks.j0 k a1 a2 (bt311.2 != bt313.2)) else (w6_MobsRanks.j0 k a1 a2 true)))) else ((w6_alive.f).bind fun t310=>(some t310)))=some r:=H;have A4:=As0.mk A40;clear A40
 by_cases c5:t309=true
 ·subst c5
  have H1:((mobs_Rank.f k l0).bind fun bt311=>((r6_Rank.f k l0).bind fun bt313=>(if bt311.1=bt313.1 then (w6_MobsRanks.j0 k a1 a2 (bt311.2 != bt313.2)) else (w6_MobsRanks.j0 k a1 a2 true))))=some r:=by rw [if_pos rfl] at H;exact H
  clear H;have H:=H1;clear H1;replace H:=Option.bind_eq_some_iff.mp H;obtain ⟨⟨t311,t312⟩,A60,H⟩:=H;replace H:((r6_Rank.f k l0).bind fun bt313=>(if t311=bt313.1 then (w6_MobsRanks.j0 k a1 a2 (t312 != bt313.2)) else (w6_MobsRanks.j0 k a1 a2 true)))=some r:=H;have A6:=As0.mk A60;clear A60;replace H:=Option.bind_eq_some_iff.mp H;obtain ⟨⟨t313,t314⟩,A70,H⟩:=H;replace H:(if t311=t313 then (w6_MobsRanks.j0 k a1 a2 (t312 != t314)) else (w6_MobsRanks.j0 k a1 a2 true))=some r:=H;have A7:=As0.mk A70;clear A70;have HC8:=As0.mk H;clear H;go_enter Tra.func12,Tra.ntmps12
  go_upto_region 5 with (first|((with_reducible refine y0a (f:=22) rfl ?_);refine y0s (some 14) rfl rfl Tra.func22 (by kernel_rfl) rfl #[.slice A0 l0.length c0,.slice none 0 0] rfl (by (try simp only [List.map_toArray,List.map_cons,List.map_nil]);first|done|rfl|(simp only [List.length_drop,List.length_take];rfl)) ?_;(refine (w6_few.calls _ _ l0 _ _ ([]:List Int) true _ ?side1 ?side2 ?side3 ?side4 A4.out).mono ?_);(case side1=>repeat (first|exact HR0.out|(with_reducible refine Kd.C_alloc ?_ _)|(with_reducible refine Kd.C_drewN ?_ _)|(with_reducible refine Kd.C_drew ?_)));(case side2=>exact HC0.out);(case side3=>exact Kd.C_nil _ _);(case side4=>exact Nat.le_refl _);rintro e w' ⟨rfl,⟨nd,rfl⟩⟩;refine ⟨_,rfl,?_⟩)|((with_reducible refine y0a (f:=36) rfl ?_);refine y0s (some 19) rfl rfl Tra.func36 (by kernel_rfl) rfl #[.slice A0 l0.length c0] rfl (by (try simp only [List.map_toArray,List.map_cons,List.map_nil]);first|done|rfl|(simp only [List.length_drop,List.length_take];rfl)) ?_;(with_reducible refine (mobs_Rank.calls k (fun k_=>k_<w.heap.size) _ _ l0 t311 t312 _ ?side1 A6.out).mono ?_);(case side1=>exact Kd.V_mk HC0.out (Kd.F_below (Kd.C_F (Kd.heap_int .i64) HR0.out) (by repeat (first|(with_reducible first|exact HB.out|apply y01|apply y00|apply y02)|exact HB.out))));rintro e w9 ⟨rfl,hb⟩;refine ⟨_,rfl,?_⟩;have n0_:=As0.mk (y08 (by repeat (first|(with_reducible first|exact HB.out|apply y01|apply y00|apply y02)|exact HB.out)) hb);clear HB;have HB:=n0_;clear n0_;(try clear hb);(try clear hb2);(try clear hk);(try clear hi))|((with_reducible refine y0a (f:=37) rfl ?_);refine y0s (some 24) rfl rfl Tra.func37 (by kernel_rfl) rfl #[.slice A0 l0.length c0] rfl (by (try simp only [List.map_toArray,List.map_cons,List.map_nil]);first|done|rfl|(simp only [List.length_drop,List.length_take];rfl)) ?_;(with_reducible refine (r6_Rank.calls k _ _ l0 t313 t314 _ ?side1 ?side2 A7.out).mono ?_);(case side1=>repeat (first|exact (Kd.C_below HR0.out HB.out)|(with_reducible refine Kd.C_alloc ?_ _)|(with_reducible refine Kd.C_drewN ?_ _)|(with_reducible refine Kd.C_drew ?_)));(case side2=>exact HC0.out);rintro e w10 ⟨rfl,hb⟩;refine ⟨_,rfl,?_⟩;have n0_:=As0.mk (y08 (by repeat (first|(with_reducible first|exact HB.out|apply y01|apply y00|apply y02)|exact HB.out)) hb);clear HB;have HB:=n0_;clear n0_;(try clear hb);(try clear hb2);(try clear hk);(try clear hi)))
  (try simp only [Act.put,List.setIfInBounds_toArray,List.set_cons_zero,List.set_cons_succ])
  go_cut [34] (fun v34 wc=>∃ (kq:Nat) (x34_7:Bool),v34=.bool x34_7∧As0 (w6_MobsRanks.j0 kq a1 a2 x34_7=some r)∧As0 (kq≤k)∧As0 (Below w.heap.size w wc))
  case first =>
   have H:=HC8.out;clear HC8
   by_cases c11:t311=t313
   ·rw [if_pos c11] at H
    have c11b0:(t311 == t313)=true:=beq_iff_eq.mpr c11;have c11b1:(t311 != t313)=false:=bne_eq_false_iff_eq.mpr c11;clear c11
    (first|rw [c11b0]|(simp only [i64_w,i32_w];rw [c11b0])|skip)
    have H':=As0.mk H;clear H;go_wp2
    go_meet
    case rel=>exact ⟨_,((t312 != t314)),(by first|rfl|(simp;done)|(simp [*];done)),H',⟨by first|omega|exact Nat.le_refl _⟩,⟨by repeat (first|(with_reducible first|exact HB.out|apply y01|apply y00|apply y02)|exact HB.out)⟩⟩
   ·rw [if_neg c11] at H
    have c11b0:(t311 == t313)=false:=beq_eq_false_iff_ne.mpr c11;have c11b1:(t311 != t313)=true:=bne_iff_ne.mpr c11
    (first|rw [c11b0]|(simp only [i64_w,i32_w];rw [c11b0])|skip)
    have H':=As0.mk H;clear H;go_wp2
    go_meet
    case rel=>exact ⟨_,(true),(by first|rfl|(simp;done)|(simp [*];done)),H',⟨by first|omega|exact Nat.le_refl _⟩,⟨by repeat (first|(with_reducible first|exact HB.out|apply y01|apply y00|apply y02)|exact HB.out)⟩⟩
  case rest =>
   clear HC8
   try clear c1
   try clear c2
   try clear p2
   try clear c3
   try clear c5
   try clear c11
   try clear c11b0
   try clear c11b1
   obtain ⟨kq,x34_7,rfl,HA,HJ7,HB⟩:=hcut;cases kq with
   |zero=>exact absurd HA.out (by simp [w6_MobsRanks.j0])
   |succ kj7 =>
    have H:=HA.out;clear HA;simp only [w6_MobsRanks.j0] at H
    by_cases c12:x34_7=true
    ·subst c12
     have H1:(some false)=some r:=by rw [if_pos rfl] at H;exact H
     clear H;have H:=H1;clear H1;obtain rfl:=Option.some.inj H;go_wp2
     go_ret
     exact ⟨by first|rfl|(simp [y07,y06]<;>rfl)|(simp [*,y07,y06]<;>rfl),by repeat (first|(with_reducible first|exact HB.out|apply y01|apply y00|apply y02)|exact HB.out)⟩
    ·replace c12:=Bool.eq_false_iff.mpr c12
     subst c12;have H1:((mobs_At.f kj7 a1 a2).bind fun bt315=>((r6_At.f kj7 a1 a2).bind fun bt319=>((w6_same.f kj7 bt315.1 bt319.1).bind fun t323=>(if t323=true then (if bt315.2=bt319.2 then ((w6_alive.f).bind fun t324=>(some t324)) else (some false)) else (some false)))))=some r:=by rw [if_neg (show ¬ (false=true) by decide)] at H;exact H
     clear H;have H:=H1;clear H1;replace H:=Option.bind_eq_some_iff.mp H;obtain ⟨⟨t315,t316⟩,A130,H⟩:=H;replace H:((r6_At.f kj7 a1 a2).bind fun bt319=>((w6_same.f kj7 t315 bt319.1).bind fun t323=>(if t323=true then (if t316=bt319.2 then ((w6_alive.f).bind fun t324=>(some t324)) else (some false)) else (some false))))=some r:=H;have A13:=As0.mk A130;clear A130;replace H:=Option.bind_eq_some_iff.mp H;obtain ⟨⟨t319,t320⟩,A140,H⟩:=H;replace H:((w6_same.f kj7 t315 t319).bind fun t323=>(if t323=true then (if t316=t320 then ((w6_alive.f).bind fun t324=>(some t324)) else (some false)) else (some false)))=some r:=H;have A14:=As0.mk A140;clear A140;replace H:=Option.bind_eq_some_iff.mp H;obtain ⟨t323,A150,H⟩:=H;replace H:(if t323=true then (if t316=t320 then ((w6_alive.f).bind fun t324=>(some t324)) else (some false)) else (some false))=some r:=H;have A15:=As0.mk A150;clear A150
     by_cases c16:t323=true
     ·subst c16
      have H1:(if t316=t320 then ((w6_alive.f).bind fun t324=>(some t324)) else (some false))=some r:=by rw [if_pos rfl] at H;exact H
      clear H;have H:=H1;clear H1
      by_cases c17:t316=t320
      ·rw [if_pos c17] at H
       have c17b0:(t316 == t320)=true:=beq_iff_eq.mpr c17;have c17b1:(t316 != t320)=false:=bne_eq_false_iff_eq.mpr c17;clear c17;replace H:=Option.bind_eq_some_iff.mp H;obtain ⟨t324,A180,H⟩:=H;replace H:(some t324)=some r:=H;have A18:=As0.mk A180;clear A180;obtain rfl:=Option.some.inj H;go_wp2_with (first|((with_reducible refine y0a (f:=38) rfl ?_);refine y0s (some 38) rfl rfl Tra.func38 (by kernel_rfl) rfl #[.int .i64 a1,.int .i64 a2] rfl (by (try simp only [List.map_toArray,List.map_cons,List.map_nil]);first|done|rfl|(simp only [List.length_drop,List.length_take];rfl)) ?_;(with_reducible refine (mobs_At.calls kj7 a1 a2 t315 t316 _ A13.out).mono ?_);rintro e w19 ⟨v317,rfl,ho0,hb⟩;refine ⟨_,rfl,?_⟩;have n0_:=As0.mk (Kd.R_lower ho0 (y09 (by repeat (first|(with_reducible first|exact HB.out|apply y01|apply y00|apply y02)|exact HB.out))));have n1_:=As0.mk (y08 (by repeat (first|(with_reducible first|exact HB.out|apply y01|apply y00|apply y02)|exact HB.out)) hb);clear HB;have HO318:=n0_;have HB:=n1_;clear n0_ n1_;(try clear hb);(try clear hb2);(try clear hk);(try clear hi);(try clear ho0))|((with_reducible refine y0a (f:=39) rfl ?_);refine y0s (some 44) rfl rfl Tra.func39 (by kernel_rfl) rfl #[.int .i64 a1,.int .i64 a2] rfl (by (try simp only [List.map_toArray,List.map_cons,List.map_nil]);first|done|rfl|(simp only [List.length_drop,List.length_take];rfl)) ?_;(with_reducible refine (r6_At.calls kj7 a1 a2 t319 t320 _ A14.out).mono ?_);rintro e w20 ⟨v321,rfl,ho0,hb⟩;refine ⟨_,rfl,?_⟩;have n0_:=As0.mk (Kd.R_elder' (by (with_reducible repeat (first|apply Kd.R_alloc|apply Kd.R_drewN|apply Kd.R_drew));exact HO318.out) (Kd.R_base ho0) hb);have n1_:=As0.mk (Kd.R_lower (Kd.R_new' ho0 (Kd.R_lt (by (with_reducible repeat (first|apply Kd.R_alloc|apply Kd.R_drewN|apply Kd.R_drew));exact HO318.out))) (y09 (by repeat (first|(with_reducible first|exact HB.out|apply y01|apply y00|apply y02)|exact HB.out))));have n2_:=As0.mk (y08 (by repeat (first|(with_reducible first|exact HB.out|apply y01|apply y00|apply y02)|exact HB.out)) hb);clear HO318;clear HB;have HO318:=n0_;have HO322:=n1_;have HB:=n2_;clear n0_ n1_ n2_;(try clear hb);(try clear hb2);(try clear hk);(try clear hi);(try clear ho0);obtain ⟨Ao21,co21,eo21⟩:=Kd.R_slice HO318.out;subst eo21;obtain ⟨Ao22,co22,eo22⟩:=Kd.R_slice HO322.out;subst eo22)|((with_reducible refine y0a (f:=27) rfl ?_);refine y0s (some 49) rfl rfl Tra.func27 (by kernel_rfl) rfl #[.slice Ao21 t315.length co21,.slice Ao22 t319.length co22] rfl (by (try simp only [List.map_toArray,List.map_cons,List.map_nil]);first|done|rfl|(simp only [List.length_drop,List.length_take];rfl)) ?_;(with_reducible refine (w6_same.calls kj7 _ _ t315 _ _ t319 true _ ?side1 ?side2 ?side3 ?side4 A15.out).mono ?_);(case side1=>repeat (first|exact (Kd.R_reads' HO318.out).2.2|(with_reducible refine Kd.C_alloc ?_ _)|(with_reducible refine Kd.C_drewN ?_ _)|(with_reducible refine Kd.C_drew ?_)));(case side2=>exact (Kd.R_reads' HO318.out).2.1);(case side3=>repeat (first|exact (Kd.R_reads' HO322.out).2.2|(with_reducible refine Kd.C_alloc ?_ _)|(with_reducible refine Kd.C_drewN ?_ _)|(with_reducible refine Kd.C_drew ?_)));(case side4=>exact (Kd.R_reads' HO322.out).2.1);rintro e w' ⟨rfl,⟨nd,rfl⟩⟩;refine ⟨_,rfl,?_⟩)|(go_at_call 20;(with_reducible refine (w6_alive.calls  t324 _ A18.out).mono ?_);rintro e w23 ⟨rfl,hb⟩;have n0_:=As0.mk (Kd.R_below (by (with_reducible repeat (first|apply Kd.R_alloc|apply Kd.R_drewN|apply Kd.R_drew));exact HO318.out) hb);have n1_:=As0.mk (Kd.R_below (by (with_reducible repeat (first|apply Kd.R_alloc|apply Kd.R_drewN|apply Kd.R_drew));exact HO322.out) hb);have n2_:=As0.mk (y08 (by repeat (first|(with_reducible first|exact HB.out|apply y01|apply y00|apply y02)|exact HB.out)) hb);clear HO318;clear HO322;clear HB;have HO318:=n0_;have HO322:=n1_;have HB:=n2_;clear n0_ n1_ n2_;(try clear hb);(try clear hb2);(try clear hk);(try clear hi)))
       go_ret
       exact ⟨by first|rfl|(simp [y07,y06]<;>rfl)|(simp [*,y07,y06]<;>rfl),by repeat (first|(with_reducible first|exact HB.out|apply y01|apply y00|apply y02)|exact HB.out)⟩
      ·rw [if_neg c17] at H
       have c17b0:(t316 == t320)=false:=beq_eq_false_iff_ne.mpr c17;have c17b1:(t316 != t320)=true:=bne_iff_ne.mpr c17;obtain rfl:=Option.some.inj H;go_wp2_with (first|((with_reducible refine y0a (f:=38) rfl ?_);refine y0s (some 38) rfl rfl Tra.func38 (by kernel_rfl) rfl #[.int .i64 a1,.int .i64 a2] rfl (by (try simp only [List.map_toArray,List.map_cons,List.map_nil]);first|done|rfl|(simp only [List.length_drop,List.length_take];rfl)) ?_;(with_reducible refine (mobs_At.calls kj7 a1 a2 t315 t316 _ A13.out).mono ?_);rintro e w24 ⟨v317,rfl,ho0,hb⟩;refine ⟨_,rfl,?_⟩;have n0_:=As0.mk (Kd.R_lower ho0 (y09 (by repeat (first|(with_reducible first|exact HB.out|apply y01|apply y00|apply y02)|exact HB.out))));have n1_:=As0.mk (y08 (by repeat (first|(with_reducible first|exact HB.out|apply y01|apply y00|apply y02)|exact HB.out)) hb);clear HB;have HO318:=n0_;have HB:=n1_;clear n0_ n1_;(try clear hb);(try clear hb2);(try clear hk);(try clear hi);(try clear ho0))|((with_reducible refine y0a (f:=39) rfl ?_);refine y0s (some 44) rfl rfl Tra.func39 (by kernel_rfl) rfl #[.int .i64 a1,.int .i64 a2] rfl (by (try simp only [List.map_toArray,List.map_cons,List.map_nil]);first|done|rfl|(simp only [List.length_drop,List.length_take];rfl)) ?_;(with_reducible refine (r6_At.calls kj7 a1 a2 t319 t320 _ A14.out).mono ?_);rintro e w25 ⟨v321,rfl,ho0,hb⟩;refine ⟨_,rfl,?_⟩;have n0_:=As0.mk (Kd.R_elder' (by (with_reducible repeat (first|apply Kd.R_alloc|apply Kd.R_drewN|apply Kd.R_drew));exact HO318.out) (Kd.R_base ho0) hb);have n1_:=As0.mk (Kd.R_lower (Kd.R_new' ho0 (Kd.R_lt (by (with_reducible repeat (first|apply Kd.R_alloc|apply Kd.R_drewN|apply Kd.R_drew));exact HO318.out))) (y09 (by repeat (first|(with_reducible first|exact HB.out|apply y01|apply y00|apply y02)|exact HB.out))));have n2_:=As0.mk (y08 (by repeat (first|(with_reducible first|exact HB.out|apply y01|apply y00|apply y02)|exact HB.out)) hb);clear HO318;clear HB;have HO318:=n0_;have HO322:=n1_;have HB:=n2_;clear n0_ n1_ n2_;(try clear hb);(try clear hb2);(try clear hk);(try clear hi);(try clear ho0);obtain ⟨Ao26,co26,eo26⟩:=Kd.R_slice HO318.out;subst eo26;obtain ⟨Ao27,co27,eo27⟩:=Kd.R_slice HO322.out;subst eo27)|((with_reducible refine y0a (f:=27) rfl ?_);refine y0s (some 49) rfl rfl Tra.func27 (by kernel_rfl) rfl #[.slice Ao26 t315.length co26,.slice Ao27 t319.length co27] rfl (by (try simp only [List.map_toArray,List.map_cons,List.map_nil]);first|done|rfl|(simp only [List.length_drop,List.length_take];rfl)) ?_;(with_reducible refine (w6_same.calls kj7 _ _ t315 _ _ t319 true _ ?side1 ?side2 ?side3 ?side4 A15.out).mono ?_);(case side1=>repeat (first|exact (Kd.R_reads' HO318.out).2.2|(with_reducible refine Kd.C_alloc ?_ _)|(with_reducible refine Kd.C_drewN ?_ _)|(with_reducible refine Kd.C_drew ?_)));(case side2=>exact (Kd.R_reads' HO318.out).2.1);(case side3=>repeat (first|exact (Kd.R_reads' HO322.out).2.2|(with_reducible refine Kd.C_alloc ?_ _)|(with_reducible refine Kd.C_drewN ?_ _)|(with_reducible refine Kd.C_drew ?_)));(case side4=>exact (Kd.R_reads' HO322.out).2.1);rintro e w' ⟨rfl,⟨nd,rfl⟩⟩;refine ⟨_,rfl,?_⟩))
       go_ret
       exact ⟨by first|rfl|(simp [y07,y06]<;>rfl)|(simp [*,y07,y06]<;>rfl),by repeat (first|(with_reducible first|exact HB.out|apply y01|apply y00|apply y02)|exact HB.out)⟩
     ·replace c16:=Bool.eq_false_iff.mpr c16
      subst c16;have H1:(some false)=some r:=by rw [if_neg (show ¬ (false=true) by decide)] at H;exact H
      clear H;have H:=H1;clear H1;obtain rfl:=Option.some.inj H;go_wp2_with (first|((with_reducible refine y0a (f:=38) rfl ?_);refine y0s (some 38) rfl rfl Tra.func38 (by kernel_rfl) rfl #[.int .i64 a1,.int .i64 a2] rfl (by (try simp only [List.map_toArray,List.map_cons,List.map_nil]);first|done|rfl|(simp only [List.length_drop,List.length_take];rfl)) ?_;(with_reducible refine (mobs_At.calls kj7 a1 a2 t315 t316 _ A13.out).mono ?_);rintro e w28 ⟨v317,rfl,ho0,hb⟩;refine ⟨_,rfl,?_⟩;have n0_:=As0.mk (Kd.R_lower ho0 (y09 (by repeat (first|(with_reducible first|exact HB.out|apply y01|apply y00|apply y02)|exact HB.out))));have n1_:=As0.mk (y08 (by repeat (first|(with_reducible first|exact HB.out|apply y01|apply y00|apply y02)|exact HB.out)) hb);clear HB;have HO318:=n0_;have HB:=n1_;clear n0_ n1_;(try clear hb);(try clear hb2);(try clear hk);(try clear hi);(try clear ho0))|((with_reducible refine y0a (f:=39) rfl ?_);refine y0s (some 44) rfl rfl Tra.func39 (by kernel_rfl) rfl #[.int .i64 a1,.int .i64 a2] rfl (by (try simp only [List.map_toArray,List.map_cons,List.map_nil]);first|done|rfl|(simp only [List.length_drop,List.length_take];rfl)) ?_;(with_reducible refine (r6_At.calls kj7 a1 a2 t319 t320 _ A14.out).mono ?_);rintro e w29 ⟨v321,rfl,ho0,hb⟩;refine ⟨_,rfl,?_⟩;have n0_:=As0.mk (Kd.R_elder' (by (with_reducible repeat (first|apply Kd.R_alloc|apply Kd.R_drewN|apply Kd.R_drew));exact HO318.out) (Kd.R_base ho0) hb);have n1_:=As0.mk (Kd.R_lower (Kd.R_new' ho0 (Kd.R_lt (by (with_reducible repeat (first|apply Kd.R_alloc|apply Kd.R_drewN|apply Kd.R_drew));exact HO318.out))) (y09 (by repeat (first|(with_reducible first|exact HB.out|apply y01|apply y00|apply y02)|exact HB.out))));have n2_:=As0.mk (y08 (by repeat (first|(with_reducible first|exact HB.out|apply y01|apply y00|apply y02)|exact HB.out)) hb);clear HO318;clear HB;have HO318:=n0_;have HO322:=n1_;have HB:=n2_;clear n0_ n1_ n2_;(try clear hb);(try clear hb2);(try clear hk);(try clear hi);(try clear ho0);obtain ⟨Ao30,co30,eo30⟩:=Kd.R_slice HO318.out;subst eo30;obtain ⟨Ao31,co31,eo31⟩:=Kd.R_slice HO322.out;subst eo31)|((with_reducible refine y0a (f:=27) rfl ?_);refine y0s (some 49) rfl rfl Tra.func27 (by kernel_rfl) rfl #[.slice Ao30 t315.length co30,.slice Ao31 t319.length co31] rfl (by (try simp only [List.map_toArray,List.map_cons,List.map_nil]);first|done|rfl|(simp only [List.length_drop,List.length_take];rfl)) ?_;(with_reducible refine (w6_same.calls kj7 _ _ t315 _ _ t319 false _ ?side1 ?side2 ?side3 ?side4 A15.out).mono ?_);(case side1=>repeat (first|exact (Kd.R_reads' HO318.out).2.2|(with_reducible refine Kd.C_alloc ?_ _)|(with_reducible refine Kd.C_drewN ?_ _)|(with_reducible refine Kd.C_drew ?_)));(case side2=>exact (Kd.R_reads' HO318.out).2.1);(case side3=>repeat (first|exact (Kd.R_reads' HO322.out).2.2|(with_reducible refine Kd.C_alloc ?_ _)|(with_reducible refine Kd.C_drewN ?_ _)|(with_reducible refine Kd.C_drew ?_)));(case side4=>exact (Kd.R_reads' HO322.out).2.1);rintro e w' ⟨rfl,⟨nd,rfl⟩⟩;refine ⟨_,rfl,?_⟩))
      go_ret
      exact ⟨by first|rfl|(simp [y07,y06]<;>rfl)|(simp [*,y07,y06]<;>rfl),by repeat (first|(with_reducible first|exact HB.out|apply y01|apply y00|apply y02)|exact HB.out)⟩
 ·replace c5:=Bool.eq_false_iff.mpr c5
  subst c5;have H1:((w6_alive.f).bind fun t310=>(some t310))=some r:=by rw [if_neg (show ¬ (false=true) by decide)] at H;exact H
  clear H;have H:=H1;clear H1;replace H:=Option.bind_eq_some_iff.mp H;obtain ⟨t310,A320,H⟩:=H;replace H:(some t310)=some r:=H;have A32:=As0.mk A320;clear A320;obtain rfl:=Option.some.inj H;go_enter Tra.func12,Tra.ntmps12
  go_wp2_with (first|((with_reducible refine y0a (f:=22) rfl ?_);refine y0s (some 14) rfl rfl Tra.func22 (by kernel_rfl) rfl #[.slice A0 l0.length c0,.slice none 0 0] rfl (by (try simp only [List.map_toArray,List.map_cons,List.map_nil]);first|done|rfl|(simp only [List.length_drop,List.length_take];rfl)) ?_;(refine (w6_few.calls _ _ l0 _ _ ([]:List Int) false _ ?side1 ?side2 ?side3 ?side4 A4.out).mono ?_);(case side1=>repeat (first|exact HR0.out|(with_reducible refine Kd.C_alloc ?_ _)|(with_reducible refine Kd.C_drewN ?_ _)|(with_reducible refine Kd.C_drew ?_)));(case side2=>exact HC0.out);(case side3=>exact Kd.C_nil _ _);(case side4=>exact Nat.le_refl _);rintro e w' ⟨rfl,⟨nd,rfl⟩⟩;refine ⟨_,rfl,?_⟩)|((with_reducible refine y0a (f:=20) rfl ?_);refine y0s (some 16) rfl rfl Tra.func20 (by kernel_rfl) rfl #[] rfl (by (try simp only [List.map_toArray,List.map_cons,List.map_nil]);first|done|rfl|(simp only [List.length_drop,List.length_take];rfl)) ?_;(with_reducible refine (w6_alive.calls  t310 _ A32.out).mono ?_);rintro e w33 ⟨rfl,hb⟩;refine ⟨_,rfl,?_⟩;have n0_:=As0.mk (y08 (by repeat (first|(with_reducible first|exact HB.out|apply y01|apply y00|apply y02)|exact HB.out)) hb);clear HB;have HB:=n0_;clear n0_;(try clear hb);(try clear hb2);(try clear hk);(try clear hi)))
  go_ret
  exact ⟨by first|rfl|(simp [y07,y06]<;>rfl)|(simp [*,y07,y06]<;>rfl),by repeat (first|(with_reducible first|exact HB.out|apply y01|apply y00|apply y02)|exact HB.out)⟩
def w6_MobsRanks.Pure:Prop:=∀ (l0:List Int) (a1:Int) (a2:Int),l0.length≤maxLen->l0.length * 8≤140737488351232->(∀ x ∈ l0,(Lit.int .i64 x).wf=true)->(Lit.int .i64 a1).wf=true->(Lit.int .i64 a2).wf=true->∃ k,w6_MobsRanks.f k l0 a1 a2=some true
theorem w6_MobsRanks.walk (P:w6_MobsRanks.Pure) (a0:Option Addr) (len0 cap0:Nat) (z0:List Int) (a1:Int) (a2:Int) (w:World) (w0:(a0=none∧len0=0∧cap0=0∧z0=[])∨∃ x,a0=some x∧len0≤cap0∧cap0≤maxLen∧z0.length=cap0∧(∀ i,i<z0.length->w.cell? (x.add i)=some (.int .i64 (z0.getD i 0)))∧∀ n ∈ z0,(Lit.int .i64 n).wf=true) (y0:len0 * 8≤140737488351232) (w1:(Lit.int .i64 a1).wf=true) (w2:(Lit.int .i64 a2).wf=true) :
  Calls Tra.prog 12 #[.slice a0 len0 cap0,.int .i64 a1,.int .i64 a2] w fun e w'=>e=.returned (.bool true)∧Below w.heap.size w w':=by
 obtain ⟨l0,rfl,hr0,hm0,hw0,hc0⟩:=ReadsInt.ofRowC w0;obtain ⟨k,h⟩:=P l0 a1 a2 hm0 y0 hw0 w1 w2;refine (w6_MobsRanks.calls k _ _ l0 a1 a2 true w (Kd.C_of_reads (d:=(0:Int)) (h1:=fun _=>rfl) hr0) hc0 h).mono ?_
 rintro e w' ⟨rfl,hd⟩
 exact ⟨rfl,hd⟩
end Go.Proofs.Ytdhgeondbnpeoaa.P
namespace Go.Proofs.Ytdhgeondbnpeoaa.Pl
open Go.RowKit Go.Proofs.Ytdhgeondbnpeoaa.P Go.Proofs.YtdhgeondbnpeoaaW.PrintWords Go.Proofs.YtdhgeondbnpeoaaW.PrintLast
def rgs:Int->List Int->Bool
 |_,[]=>true
 |m,x :: l=>decide (0≤x) && (decide (x≤m) && rgs (if x=m then m+1 else m) l)
def isP (l:List Int):Bool:=decide (l.length≤12) && rgs 0 l
theorem w64 {x:Int} (h0:-1000000000≤x) (h1:x≤1000000000):wrap64 x=x:=by unfold wrap64;omega
theorem rd_at {l:List Int} {i:Nat} (h:i<l.length):rd l (i:Int)=l[i]:=by simp [rd,List.getD_eq_getElem?_getD,List.getElem?_eq_getElem h]
theorem ref_l (l:List Int) (hn:l.length≤12):∀ (j i k:Nat) (m:Int),i+j=l.length->2 * j+2≤k->0≤m->m≤i->r6_IsParting.l0 k l m (i:Int)=some (rgs m (l.drop i))
 |0,i,k+1,m,hi,hk,h0,h1=>by
  unfold r6_IsParting.l0;rw [if_neg (by omega),List.drop_of_length_le (by omega)];rfl
 |j+1,i,k+2,m,hi,hk,h0,h1=>by
  have hlt:i<l.length:=by omega
  unfold r6_IsParting.l0;rw [if_pos (by omega),if_pos (by omega),rd_at hlt,List.drop_eq_getElem_cons hlt];unfold rgs r6_IsParting.j1
  by_cases hx:l[i]<0
  ·rw [if_pos hx,if_pos rfl,decide_eq_false (by omega)]
   rfl
  ·rw [if_neg hx,decide_eq_true (show 0≤l[i] by omega)]
   by_cases hm:l[i] > m
   ·rw [decide_eq_true hm,if_pos rfl,decide_eq_false (by omega)]
    rfl
   ·rw [decide_eq_false hm,if_neg (by decide),if_pos (by omega),if_pos (by omega),rd_at hlt,decide_eq_true (show l[i]≤m by omega)]
    simp only [Bool.true_and]
    by_cases he:l[i]=m
    ·rw [if_pos he,if_pos he,w64 (by omega) (by omega),w64 (by omega) (by omega)]
     exact ref_l l hn j (i+1) k (m+1) (by omega) (by omega) (by omega) (by omega)
    ·rw [if_neg he,if_neg he,w64 (x:=(i:Int)+1) (by omega) (by omega)]
     exact ref_l l hn j (i+1) k m (by omega) (by omega) (by omega) (by omega)
theorem ref_isP (l:List Int) {k:Nat} (hk:30≤k):r6_IsParting.f k l=some (isP l):=by
 unfold r6_IsParting.f isP
 by_cases h:l.length≤12
 ·have h1:r6_IsParting.l0 k l 0 0=_:=ref_l l h l.length 0 k 0 (by omega) (by omega) (by omega) (by omega)
  rw [if_neg (by omega),decide_eq_true h,h1];rfl
 ·rw [if_pos (by omega),decide_eq_false h]
  rfl
theorem mobs_l (l:List Int) (hn:l.length≤12):∀ (j i k:Nat) (m:Int),i+j=l.length->j+1≤k->0≤m->m≤i->mobs_IsParting.l0 k m l (l.length:Int) (i:Int)=some (rgs m (l.drop i))
 |0,i,k+1,m,hi,hk,h0,h1=>by
  unfold mobs_IsParting.l0;rw [if_neg (by omega),List.drop_of_length_le (by omega)];rfl
 |j+1,i,k+1,m,hi,hk,h0,h1=>by
  have hlt:i<l.length:=by omega
  unfold mobs_IsParting.l0;rw [if_pos (by omega),if_pos (by omega),if_pos (by omega),rd_at hlt,List.drop_eq_getElem_cons hlt];unfold rgs
  by_cases hx:l[i]<0
  ·rw [if_pos hx,decide_eq_false (by omega)]
   rfl
  ·rw [if_neg hx,decide_eq_true (show 0≤l[i] by omega)]
   by_cases hm:l[i] > m
   ·rw [if_pos hm,decide_eq_false (by omega)]
    rfl
   ·rw [if_neg hm,decide_eq_true (show l[i]≤m by omega),w64 (x:=l[i]+1) (by omega) (by omega),w64 (x:=(i:Int)+1) (by omega) (by omega)]
    simp only [Bool.true_and];have e:mx m (l[i]+1)=if l[i]=m then m+1 else m:=by
     unfold mx;split<;>split<;>omega
    rw [e];split
    ·exact mobs_l l hn j (i+1) k (m+1) (by omega) (by omega) (by omega) (by omega)
    ·exact mobs_l l hn j (i+1) k m (by omega) (by omega) (by omega) (by omega)
theorem mobs_isP (l:List Int) {k:Nat} (hk:20≤k):mobs_IsParting.f k l=some (isP l):=by
 unfold mobs_IsParting.f isP
 by_cases h:l.length≤12
 ·have h1:mobs_IsParting.l0 k 0 l (l.length:Int) 0=_:=mobs_l l h l.length 0 k 0 (by omega) (by omega) (by omega) (by omega)
  rw [if_neg (by omega),decide_eq_true h,h1];rfl
 ·rw [if_pos (by omega),decide_eq_false h]
  rfl
open Classical in
open Classical in
open Classical in
open Classical in
theorem same_l (a b:List Int) (hl:a.length=b.length) (hn:a.length≤40):∀ (d i k:Nat),i+d=a.length->d+1≤k->w6_same.l0 k a b (i:Int)=some (decide (a.drop i=b.drop i))
 |0,i,k+1,hi,hk=>by
  unfold w6_same.l0;rw [if_neg (by omega),List.drop_of_length_le (by omega),List.drop_of_length_le (by omega),decide_eq_true rfl]
 |d+1,i,k+1,hi,hk=>by
  have h1:i<a.length:=by omega
  have h2:i<b.length:=by omega
  unfold w6_same.l0;rw [if_pos (by omega),if_pos (by omega),if_pos (by omega),rd_at h1,rd_at h2,List.drop_eq_getElem_cons h1,List.drop_eq_getElem_cons h2,w64 (x:=(i:Int)+1) (by omega) (by omega)]
  by_cases he:a[i]=b[i]
  ·rw [if_pos he]
   have ih:=same_l a b hl hn d (i+1) k (by omega) (by omega);rw [show ((i+1:Nat):Int)=(i:Int)+1 by omega] at ih;rw [ih]
   congr 1
   rw [Bool.eq_iff_iff,decide_eq_true_iff,decide_eq_true_iff,List.cons.injEq];exact ⟨fun h=>⟨he,h⟩,fun h=>h.2⟩
  ·rw [if_neg he]
   congr 1
   rw [eq_comm,decide_eq_false_iff_not,List.cons.injEq];exact fun h=>he h.1
theorem same_f {a b:List Int} (hn:a.length≤40) {k:Nat} (hk:50≤k):w6_same.f k a b=some (decide (a=b)):=by
 unfold w6_same.f
 by_cases hl:a.length=b.length
 ·rw [if_pos (by omega)]
  have h:=same_l a b hl hn a.length 0 k (by omega) (by omega);simpa using h
 ·rw [if_neg (by omega)]
  congr 1
  rw [eq_comm,decide_eq_false_iff_not];exact fun h=>hl (congrArg _ h)
end Go.Proofs.Ytdhgeondbnpeoaa.Pl
namespace Go.Proofs.Ytdhgeondbnpeoaa.Pl
open Go.RowKit Go.Proofs.Ytdhgeondbnpeoaa.P Go.Proofs.YtdhgeondbnpeoaaW.PrintWords Go.Proofs.YtdhgeondbnpeoaaW.PrintLast
def TB (t:List (List Int)) (left m:Nat):Int:=(t.getD left []).getD m 0
theorem table_all:((List.range 13).all fun n=>match r6_table.f 400 (n:Int) with
 |none=>false
 |some t=>t.length == n+1 && (List.range (n+1)).all fun left=>(t.getD left []).length == n - left+1 && ((List.range (n - left+1)).all fun m=>decide (1≤TB t left m) && (decide (TB t left m≤4213597) && mobs_ways.f 300 (left:Int) (m:Int) == some (TB t left m))))=true:=by decide +kernel
structure Tab (n:Nat) (t:List (List Int)):Prop where
 f:∀ k,400≤k->r6_table.f k (n:Int)=some t
 len:t.length=n+1
 row:∀ left,left≤n->(t.getD left []).length=n - left+1
 pos:∀ left m,left≤n->m≤n - left->1≤TB t left m∧TB t left m≤4213597
 ways:∀ left m k,left≤n->m≤n - left->300≤k->mobs_ways.f k (left:Int) (m:Int)=some (TB t left m)
theorem tab {n:Nat} (hn:n≤12):∃ t,Tab n t:=by
 have h:=List.all_eq_true.1 table_all n (List.mem_range.2 (by omega));cases ht:r6_table.f 400 (n:Int) with
 |none=>rw [ht] at h;cases h
 |some t =>
  rw [ht] at h;simp only [Bool.and_eq_true,beq_iff_eq] at h;obtain ⟨h1,h2⟩:=h;have h3:∀ left,left≤n->(t.getD left []).length=n - left+1∧∀ m,m≤n - left->1≤TB t left m∧TB t left m≤4213597∧mobs_ways.f 300 (left:Int) (m:Int)=some (TB t left m):=by
   intro left hl;have h4:=List.all_eq_true.1 h2 left (List.mem_range.2 (by omega));simp only [Bool.and_eq_true,beq_iff_eq] at h4;refine ⟨h4.1,fun m hm=>?_⟩;have h5:=List.all_eq_true.1 h4.2 m (List.mem_range.2 (by omega));simpa only [Bool.and_eq_true,beq_iff_eq,decide_eq_true_eq] using h5
  exact ⟨t,fun k hk=>at_rounds (g:=fun k=>r6_table.f k (n:Int)) (r6_table.mono _) hk ht,h1,fun left hl=>(h3 left hl).1,fun left m hl hm=>⟨((h3 left hl).2 m hm).1,((h3 left hl).2 m hm).2.1⟩,
   fun left m k hl hm hk=>at_rounds (g:=fun k=>mobs_ways.f k (left:Int) (m:Int)) (mobs_ways.mono _ _) hk ((h3 left hl).2 m hm).2.2⟩
theorem rd_tab {n:Nat} {t:List (List Int)} (left m:Nat):rd (rd_L1 t (left:Int)) (m:Int)=TB t left m:=rfl
theorem rdL (t:List (List Int)) (left:Nat):rd_L1 t (left:Int)=t.getD left []:=rfl
def nx (m x:Int):Int:=if x=m then m+1 else m
def st (m:Int) (l:List Int):Int:=l.foldl nx m
theorem mx_nx {m x:Int} (h:x≤m):mx m (x+1)=nx m x:=by
 unfold mx nx;split<;>split<;>omega
theorem nx_bd {m x:Int}:m≤nx m x∧nx m x≤m+1:=by
 unfold nx;split<;>omega
theorem rgs_split:∀ (l:List Int) (m:Int) (i:Nat),rgs m l=true->0≤m->rgs m (l.take i)=true∧rgs (st m (l.take i)) (l.drop i)=true∧m≤st m (l.take i)∧st m (l.take i)≤m+i
 |l,m,0,h,_=>by simp [st,rgs,h]
 |[],m,i+1,h,_=>by simp [st,rgs];omega
 |x :: l,m,i+1,h,h0=>by
  simp only [rgs,Bool.and_eq_true,decide_eq_true_eq] at h;obtain ⟨h1,h2,h3⟩:=h;have hb:=@nx_bd m x;have h3':rgs (nx m x) l=true:=h3;obtain ⟨a1,a2,a3,a4⟩:=rgs_split l (nx m x) i h3' (by omega);refine ⟨?_,a2,?_,?_⟩
  ·simp only [List.take_succ_cons,rgs,Bool.and_eq_true,decide_eq_true_eq]
   exact ⟨h1,h2,a1⟩
  ·show m≤st (nx m x) (l.take i)
   omega
  ·show st (nx m x) (l.take i)≤_
   omega
theorem st_snoc {l:List Int} {i:Nat} (h:i<l.length) (m:Int):st m (l.take (i+1))=nx (st m (l.take i)) l[i]:=by
 unfold st;rw [List.take_succ_eq_append_getElem h,List.foldl_append];rfl
theorem many_l (p:List Int) (hn:p.length≤12):∀ (d j k:Nat) (m:Int),j+d=p.length->d+1≤k->0≤m->m≤j->rgs m (p.drop j)=true->r6_Many.l0 k p m (j:Int)=some (st m (p.drop j))
 |0,j,k+1,m,hj,hk,h0,h1,hr=>by
  unfold r6_Many.l0;rw [if_neg (by omega),List.drop_of_length_le (by omega)];rfl
 |d+1,j,k+1,m,hj,hk,h0,h1,hr=>by
  have hlt:j<p.length:=by omega
  rw [List.drop_eq_getElem_cons hlt] at hr ⊢;simp only [rgs,Bool.and_eq_true,decide_eq_true_eq] at hr;obtain ⟨r1,r2,r3⟩:=hr;have hb:=@nx_bd m p[j];unfold r6_Many.l0;rw [if_pos (by omega),if_pos (by omega),rd_at hlt,w64 (x:=p[j]+1) (by omega) (by omega),w64 (x:=(j:Int)+1) (by omega) (by omega),mx_nx r2];exact many_l p hn d (j+1) k (nx m p[j]) (by omega) (by omega) (by omega) (by omega) r3
theorem many_f {p:List Int} (hn:p.length≤12) (hr:rgs 0 p=true) {k:Nat} (hk:20≤k):r6_Many.f k p=some (st 0 p):=by
 have h:r6_Many.l0 k p 0 0=_:=many_l p hn p.length 0 k 0 (by omega) (by omega) (by omega) (by omega) (by simpa using hr);unfold r6_Many.f;rw [h];rfl
theorem rank_l {l:List Int} {t:List (List Int)} (hn:l.length≤12) (hr:rgs 0 l=true) (T:Tab l.length t):∀ (d i k:Nat) (sum:Int),i+d=l.length->d+410≤k →
  ∃ R:Int,mobs_Rank.l0 k l sum (st 0 (l.take i)) l (l.length:Int) (i:Int)=some (R,0)∧r6_Rank.l0 k l t sum (i:Int)=some (R,0)
 |0,i,k+1,sum,hi,hk=>by
  refine ⟨sum,?_,?_⟩
  ·unfold mobs_Rank.l0
   rw [if_neg (by omega)]
  ·unfold r6_Rank.l0
   rw [if_neg (by omega)]
 |d+1,i,k+1,sum,hi,hk=>by
  have hlt:i<l.length:=by omega
  obtain ⟨q1,q2,q3,q4⟩:=rgs_split l 0 i hr (Int.le_refl _);have q2':=q2;rw [List.drop_eq_getElem_cons hlt] at q2';simp only [rgs,Bool.and_eq_true,decide_eq_true_eq] at q2';obtain ⟨r1,r2,_⟩:=q2';have el:wrap64 (wrap64 ((l.length:Int) - 1) - (i:Int))=((l.length - 1 - i:Nat):Int):=by
   rw [w64 (x:=(l.length:Int) - 1) (by omega) (by omega),w64 (by omega) (by omega)];omega
  have hst:=st_snoc hlt 0;obtain ⟨m,hm⟩:∃ m:Nat,st 0 (l.take i)=(m:Int):=⟨(st 0 (l.take i)).toNat,by omega⟩
  have hmi:m≤i:=by omega
  have hw:=T.ways (l.length - 1 - i) m k (by omega) (by omega) (by omega);have hM:=many_f (p:=l.take i) (by rw [List.length_take];omega) q1 (k:=k) (by omega);have hrow:=T.row (l.length - 1 - i) (by omega);have hlen:=T.len;obtain ⟨R,a1,a2⟩:=rank_l hn hr T d (i+1) k (wrap64 (sum+wrap64 (l[i] * TB t (l.length - 1 - i) m))) (by omega) (by omega);rw [show ((i+1:Nat):Int)=(i:Int)+1 by omega] at a1 a2;refine ⟨R,?_,?_⟩
  ·unfold mobs_Rank.l0
   rw [if_pos (by omega),if_pos (by omega),if_pos (by omega),el,hm,hw];simp only [Option.bind_some];rw [rd_at hlt,w64 (x:=l[i]+1) (by omega) (by omega),w64 (x:=(i:Int)+1) (by omega) (by omega),mx_nx (by omega),← hm,← hst];exact a1
  ·unfold r6_Rank.l0
   rw [el,rdL,if_pos (by omega),if_pos (by omega),if_pos (by omega),if_pos (by omega),if_pos (by omega),Int.toNat_natCast,hM];simp only [Option.bind_some];rw [hm,if_pos (by omega),if_pos (by omega),rd_at hlt,w64 (x:=(i:Int)+1) (by omega) (by omega)];exact a2
theorem read_one (l:List Int) {k:Nat} (hk:30≤k):mobs_read.f k [l]=some (if l.length≤12 then (if isP l=true then 0 else 2) else 3):=by
 obtain ⟨k,rfl⟩:∃ j,k=j+2:=⟨k - 2,by omega⟩
 have e0:rd_L1 [l] 0=l:=rfl;have w1:wrap64 (0+1)=1:=by rw [w64 (by omega) (by omega)];rfl
 unfold mobs_read.f;simp only [List.length_cons,List.length_nil];unfold mobs_read.l0;rw [if_pos (by decide),if_pos (by decide),if_pos (by simp),e0]
 by_cases hl:l.length≤12
 ·rw [if_neg (by omega),if_pos hl,mobs_isP l (by omega)]
  simp only [Option.bind_some]
  by_cases hp:isP l=true
  ·rw [if_pos hp,if_pos hp,w1]
   unfold mobs_read.l0;rw [if_neg (by decide),if_neg (by simp)]
  ·rw [if_neg hp,if_neg hp]
 ·rw [if_pos (by omega),if_neg hl]
theorem parting_one (l:List Int) {k:Nat} (hk:30≤k):r6_Parting.f k l=some (if l.length≤12 then (if isP l=true then 0 else 2) else 3):=by
 unfold r6_Parting.f
 by_cases hl:l.length≤12
 ·rw [if_neg (by omega),if_pos hl,ref_isP l (by omega)]
  simp only [Option.bind_some];split<;>rfl
 ·rw [if_pos (by omega),if_neg hl]
theorem rank_same (l:List Int) {k:Nat} (hk:450≤k):∃ R:Int × Int,mobs_Rank.f k l=some R∧r6_Rank.f k l=some R:=by
 unfold mobs_Rank.f r6_Rank.f;rw [read_one l (by omega),parting_one l (by omega)];simp only [Option.bind_some]
 by_cases hl:l.length≤12
 ·by_cases hp:isP l=true
  ·rw [if_pos hl,if_pos hp,if_pos rfl,if_pos rfl]
   have hr:rgs 0 l=true:=by simp only [isP,Bool.and_eq_true] at hp;exact hp.2
   obtain ⟨t,T⟩:=tab hl;obtain ⟨R,a1,a2⟩:=rank_l hl hr T l.length 0 k 0 (by omega) (by omega);rw [T.f k (by omega)];exact ⟨(R,0),a1,a2⟩
  ·rw [if_pos hl,if_neg hp]
   exact ⟨_,rfl,rfl⟩
 ·rw [if_neg hl]
  exact ⟨_,rfl,rfl⟩
section
variable {n:Nat} {one r q have_:Int}
theorem at_l1 (hone:1≤one) (ho2:one≤4213597) (hr0:0≤r) (hr1:r≤4213597) (hh0:0≤have_) (hh1:have_≤12) (hq:q=if r<have_ * one then r / one else have_) (out:List Int) (ho:out.length≤12) (i:Int):∀ (d:Nat) (x:Int) (k:Nat),0≤x->x+d=q->d+1≤k →
  mobs_At.l1 k (n:Int) (r - x * one) out have_ x one (n:Int) i=mobs_At.l0 (k - d - 1) (n:Int) (r - q * one) (out ++ [q]) (mx have_ (wrap64 (q+1))) (n:Int) (wrap64 (i+1))
 |0,x,k+1,hx0,hx,hk=>by
  have e:x=q:=by omega
  subst e;unfold mobs_At.l1
  by_cases hlt:r<have_ * one
  ·rw [if_pos hlt] at hq
   have hdiv:x * one≤r∧r<x * one+one:=by
    have h1:=Int.emod_add_mul_ediv r one;have h2:=Int.emod_nonneg r (show one≠0 by omega);have h3:=Int.emod_lt_of_pos r (show 0<one by omega);rw [← hq,Int.mul_comm] at h1;omega
   have hx2:x<have_:=by
    by_cases h:x<have_
    ·exact h
    ·have:have_ * one≤x * one:=Int.mul_le_mul_of_nonneg_right (by omega) (by omega)
     omega
   rw [if_pos hx2,if_neg (by omega),if_pos (by omega)];rfl
  ·rw [if_neg hlt] at hq
   rw [if_neg (by omega),if_pos (by omega)];rfl
 |d+1,x,k+1,hx0,hx,hk=>by
  have hq2:q≤have_∧q * one≤r:=by
   by_cases hlt:r<have_ * one
   ·rw [if_pos hlt] at hq
    have h1:=Int.emod_add_mul_ediv r one;have h2:=Int.emod_nonneg r (show one≠0 by omega);rw [← hq,Int.mul_comm] at h1;refine ⟨?_,by omega⟩
    by_cases h:q≤have_
    ·exact h
    ·have:have_ * one≤q * one:=Int.mul_le_mul_of_nonneg_right (by omega) (by omega)
     omega
   ·rw [if_neg hlt] at hq
    rw [hq];omega
  have hx3:(x+1) * one≤q * one:=Int.mul_le_mul_of_nonneg_right (by omega) (by omega);rw [Int.add_mul,Int.one_mul] at hx3;have hx4:0≤x * one:=Int.mul_nonneg hx0 (by omega);unfold mobs_At.l1;rw [if_pos (by omega),if_pos (by omega),w64 (x:=r - x * one - one) (by omega) (by omega),w64 (x:=x+1) (by omega) (by omega)];have ih:=at_l1 hone ho2 hr0 hr1 hh0 hh1 hq out ho i d (x+1) k (by omega) (by omega) (by omega);rw [Int.add_mul,Int.one_mul,show r - (x * one+one)=r - x * one - one by omega] at ih;rw [ih,show k+1 - (d+1) - 1=k - d - 1 by omega]
end
theorem at_l {n:Nat} {t:List (List Int)} (hn:n≤12) (T:Tab n t):∀ (d i k k':Nat) (r:Int) (out:List Int) (m:Nat),i+d=n->20 * d+410≤k->20 * d+410≤k'->0≤r->r≤4213597->m≤i->out.length=i →
  ∃ R:List Int,R.length=n∧mobs_At.l0 k (n:Int) r out (m:Int) (n:Int) (i:Int)=some (R,0)∧r6_At.l0 k' (n:Int) r t out (m:Int) (i:Int)=some (R,0)
 |0,i,k+1,k'+1,r,out,m,hi,hk,hk',h0,h1,hm,ho=>by
  refine ⟨out,by omega,?_,?_⟩
  ·unfold mobs_At.l0
   rw [if_neg (by omega)]
  ·unfold r6_At.l0
   rw [if_neg (by omega)]
 |d+1,i,k+1,k'+1,r,out,m,hi,hk,hk',h0,h1,hm,ho=>by
  have el:wrap64 (wrap64 ((n:Int) - 1) - (i:Int))=((n - 1 - i:Nat):Int):=by
   rw [w64 (x:=(n:Int) - 1) (by omega) (by omega),w64 (by omega) (by omega)];omega
  have hw:=T.ways (n - 1 - i) m k (by omega) (by omega) (by omega);obtain ⟨p1,p2⟩:=T.pos (n - 1 - i) m (by omega) (by omega);have hrow:=T.row (n - 1 - i) (by omega);have hlen:=T.len;obtain ⟨one,hone⟩:∃ one,one=TB t (n - 1 - i) m:=⟨_,rfl⟩
  rw [← hone] at hw p1 p2;obtain ⟨q,hq⟩:∃ q,q=if r<(m:Int) * one then r / one else (m:Int):=⟨_,rfl⟩
  have hmo:(m:Int) * one≤12 * 4213597:=Int.mul_le_mul (by omega) p2 (by omega) (by omega);have hmo0:0≤(m:Int) * one:=Int.mul_nonneg (by omega) (by omega);have hqf:0≤q∧q≤m∧q * one≤r∧(r<(m:Int) * one->q=r / one∧q<m)∧(¬ r<(m:Int) * one->q=m):=by
   by_cases hlt:r<(m:Int) * one
   ·rw [if_pos hlt] at hq
    have h3:=Int.emod_add_mul_ediv r one;have h4:=Int.emod_nonneg r (show one≠0 by omega);have h5:=Int.ediv_nonneg h0 (show 0≤one by omega);rw [← hq] at h5;rw [← hq,Int.mul_comm] at h3;have h6:q<m:=by
     by_cases h:q<m
     ·exact h
     ·have:(m:Int) * one≤q * one:=Int.mul_le_mul_of_nonneg_right (by omega) (by omega)
      omega
    exact ⟨h5,by omega,by omega,fun _=>⟨hq,h6⟩,fun h=>absurd hlt h⟩
   ·rw [if_neg hlt] at hq
    rw [hq];exact ⟨by omega,by omega,by omega,fun h=>absurd h hlt,fun _=>rfl⟩
  obtain ⟨f1,f2,f3,f4,f5⟩:=hqf;have f0:0≤q * one:=Int.mul_nonneg f1 (by omega);obtain ⟨q',hq'⟩:∃ q':Nat,q=(q':Int):=⟨q.toNat,by omega⟩
  have hl1:=at_l1 (n:=n) p1 p2 h0 h1 (show (0:Int)≤(m:Int) by omega) (by omega) hq out (by omega) (i:Int) q' 0 k (Int.le_refl _) (by omega) (by omega);rw [Int.zero_mul,Int.sub_zero] at hl1;obtain ⟨m',hm'⟩:∃ m':Nat,m'=if q=m then m+1 else m:=⟨_,rfl⟩
  have hm2:m'≤i+1:=by rw [hm'];split<;>omega
  have e3:mx (m:Int) (wrap64 (q+1))=(m':Int):=by
   rw [w64 (x:=q+1) (by omega) (by omega),hm'];unfold mx;split<;>split<;>omega
  obtain ⟨R,a0,a1,a2⟩:=at_l hn T d (i+1) (k - q' - 1) k' (r - q * one) (out ++ [q]) m' (by omega) (by omega) (by omega) (by omega) (by omega) hm2 (by simp [ho]);rw [show ((i+1:Nat):Int)=(i:Int)+1 by omega] at a1 a2;refine ⟨R,a0,?_,?_⟩
  ·unfold mobs_At.l0
   rw [if_pos (by omega),el,hw];simp only [Option.bind_some];rw [hl1,e3,w64 (x:=(i:Int)+1) (by omega) (by omega)];exact a1
  ·unfold r6_At.l0
   rw [el,rd_tab (n:=n),← hone,rdL,if_pos (by omega),if_pos (by omega),if_pos (by omega),if_pos (by omega),if_pos (by omega),w64 (x:=(m:Int) * one) (by omega) (by omega),w64 (x:=(i:Int)+1) (by omega) (by omega),w64 (x:=(m:Int)+1) (by omega) (by omega)]
   by_cases hlt:r<(m:Int) * one
   ·obtain ⟨g1,g2⟩:=f4 hlt
    have e5:Int.tdiv r one=q:=by rw [g1];exact Int.tdiv_eq_ediv_of_nonneg h0
    rw [if_pos hlt,if_neg (by omega),if_pos (by omega),e5,w64 (x:=q) (by omega) (by omega),w64 (x:=q * one) (by omega) (by omega),w64 (x:=r - q * one) (by omega) (by omega)];simp only [Option.bind_some];rw [if_neg (by omega)];rw [if_neg (by omega)] at hm';rw [hm'] at a2;exact a2
   ·have g1:=f5 hlt
    rw [if_neg hlt,if_pos (by omega)];simp only [Option.bind_some,if_true];rw [if_pos g1] at hm';rw [g1,hm'] at a2;rw [w64 (x:=r - (m:Int) * one) (by omega) (by omega)];rw [show ((m+1:Nat):Int)=(m:Int)+1 by omega] at a2;exact a2
theorem at_same (n r:Int) {k:Nat} (hk:800≤k):∃ R:List Int × Int,R.1.length≤40∧mobs_At.f k n r=some R∧r6_At.f k n r=some R:=by
 obtain ⟨k,rfl⟩:∃ j,k=j+2:=⟨k - 2,by omega⟩
 unfold mobs_At.f r6_At.f
 by_cases hn0:n<0
 ·rw [if_pos hn0,if_pos hn0]
  exact ⟨([],2),by simp,rfl,rfl⟩
 ·rw [if_neg hn0,if_neg hn0]
  by_cases hn1:n > 12
  ·rw [decide_eq_true hn1]
   exact ⟨([],2),by simp,rfl,rfl⟩
  ·rw [decide_eq_false hn1]
   obtain ⟨m,rfl⟩:∃ m:Nat,n=(m:Int):=⟨n.toNat,by omega⟩
   have hm:m≤12:=by omega
   obtain ⟨t,T⟩:=tab hm;have hlen:=T.len;have hrow:=T.row m (Nat.le_refl _);have hw:mobs_ways.f (k+1) (m:Int) 0=some (TB t m 0):=T.ways m 0 (k+1) (Nat.le_refl _) (by omega) (by omega);obtain ⟨_,p2⟩:=T.pos m 0 (Nat.le_refl _) (by omega);have e1:rd (rd_L1 t (m:Int)) 0=TB t m 0:=rfl;rw [mobs_At.j0,r6_At.j0,if_neg (show ¬ (false=true) by decide),if_neg (show ¬ (false=true) by decide),T.f (k+1) (by omega),hw];simp only [Option.bind_some]
   by_cases hr:r<0
   ·rw [if_pos hr,if_pos hr]
    exact ⟨([],4),by simp,rfl,rfl⟩
   ·rw [if_neg hr,if_neg hr,if_pos (show (0:Int)≤(m:Int) by omega),if_pos (show (m:Int)<(t.length:Int) by omega),if_pos (show (0:Int)<((rd_L1 t (m:Int)).length:Int) by rw [rdL];omega),e1]
    by_cases hr1:r ≥ TB t m 0
    ·rw [if_pos hr1,decide_eq_true hr1]
     exact ⟨([],4),by simp,rfl,rfl⟩
    ·rw [if_neg hr1,decide_eq_false hr1,r6_At.j1,if_neg (by decide)]
     obtain ⟨R,a0,a1,a2⟩:=at_l hm T m 0 (k+1) k r [] 0 (by omega) (by omega) (by omega) (by omega) (by omega) (Nat.le_refl _) rfl;exact ⟨(R,0),by simp only;omega,a1,a2⟩
end Go.Proofs.Ytdhgeondbnpeoaa.Pl
namespace Go.Proofs.Ytdhgeondbnpeoaa.Pure
open Go.RowKit Go.Proofs.Ytdhgeondbnpeoaa.P Go.Proofs.YtdhgeondbnpeoaaW.PrintWords Go.Proofs.YtdhgeondbnpeoaaW.PrintLast
open Go.Proofs.Ytdhgeondbnpeoaa.Pl
theorem MobsRanks:w6_MobsRanks.Pure:=by
 intro l n r _ _ _ _ _;refine ⟨1000+1,?_⟩;unfold w6_MobsRanks.f w6_few.f
 by_cases g0:(l.length:Int)≤40
 ·obtain ⟨⟨R1,R2⟩,a1,a2⟩:=rank_same l (k:=1000+1) (by omega)
  obtain ⟨⟨A1,A2⟩,b0,b1,b2⟩:=at_same n r (k:=1000) (by omega);rw [if_pos g0];simp only [Option.bind_some];rw [decide_eq_true (by simp),if_pos rfl,a1,a2];simp only [Option.bind_some,if_true,bne_self_eq_false];rw [w6_MobsRanks.j0,if_neg (by decide),b1,b2];simp only [Option.bind_some];rw [same_f b0 (by omega),decide_eq_true rfl];simp [w6_alive.f]
 ·rw [if_neg g0]
  simp only [Option.bind_some];rw [if_neg (by decide)];rfl
end Go.Proofs.Ytdhgeondbnpeoaa.Pure
namespace Go.Proofs.YtdhgeondbnpeoaaW.PrintWords
open Go.ChangeShapes Go.WideShapes
theorem sized_ints {H:Type} {enc:TypeId × Value->H} {P:Program} {W:World} {base:Nat} {spare:Nat->Bool} {held:Bool} {t e:TypeId} {k:IntKind} {a:Option Addr} {len cap:Nat} {d:DataW H} {ps:List MemPlace} {ts:List TypeId} {ds:List (DataW H)} {j:Nat}
  (hsz:(DataW.weightsEach P ts ds).all (·≤reachBytes)=true) (ht:ts[j]?=some t) (hd:ds[j]?=some d) (hu:P.underlying t=some (.slice e)) (he:P.underlying e=some (.int k)) (hc:P.cellsOf e=1) {B:Nat} (hB:P.bytesOf e=B)
  (h:DataW.Trod enc P W base spare held t (.slice a len cap) d ps):len * B≤140737488351232:=by
 obtain ⟨fuel,hf⟩:=h;rcases open_ints hu he hc hf with ⟨hcs,_⟩|⟨x,l,c,zs,hcs,_,hl,_,hz,hx,_,_⟩
 ·simp [Value.cells] at hcs
  obtain ⟨rfl,rfl,rfl⟩:=hcs;simp
 ·simp [Value.cells] at hcs
  obtain ⟨rfl,rfl,rfl⟩:=hcs;obtain ⟨hx,_⟩:=Prod.mk.inj hx;subst hx;have z:=sized_slice hsz ht hd hu;rw [hB] at z;have hl2:len≤zs.length:=by
   rw [hz];split
   ·exact hl
   ·exact Nat.le_refl _
  have h1:(lits (H:=H) k (zs.take len)).length+(lits (H:=H) k (zs.drop len)).length=zs.length:=by
   simp [lits];omega
  rw [h1] at z;exact Nat.le_trans (Nat.mul_le_mul_right _ hl2) z
end Go.Proofs.YtdhgeondbnpeoaaW.PrintWords
