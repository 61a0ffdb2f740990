/- The theorem of MobsMeets, proved; part 4 of 7: its texts, merged. -/
import Derived.Test.YtdhgeondbnpeoaaVmC
import Derived.Conc.LeavingOf
set_option linter.unnecessarySimpa false
set_option linter.defProp false
set_option linter.unusedVariables false
set_option linter.unusedSimpArgs false
set_option linter.unusedSectionVars false
set_option linter.constructorNameAsVariable false
set_option maxRecDepth 100000
set_option maxHeartbeats 8000000
namespace Go.Proofs.Ytdhgeondbnpeoaa.P
open Go.RowKit Go.Proofs.Yw.Wd Go.Proofs.Yw.La Go.Proofs.Yw.Mo
attribute [local go_sem] y1b y19 y1q y1p y12 y11 y1a y18
def mobs_read.l0:Nat->List (List Int)->List (List Int)->Int->Int->Option (Int)
 |0,_,_,_,_=>none
 |k+1,x0,x5,x6,x7=>if x7<x6 then (if 0≤x7 then (if x7<(x5.length:Int) then (if ((y1h x5 x7).length:Int) > 12 then (some 3) else ((mobs_IsParting.f k (y1h x5 x7)).bind fun t129=>(if t129=true then (mobs_read.l0 k x0 x5 x6 (wrap64 (x7+1))) else (some 2)))) else (none)) else (none)) else (if (x0.length:Int)=2 then (if 0<(x0.length:Int) then (if 1<(x0.length:Int) then (if ((y1h x0 0).length:Int)=((y1h x0 1).length:Int) then (some 0) else (some 2)) else (none)) else (none)) else (some 0))
def mobs_read.f (k:Nat) (l0:List (List Int)):Option (Int):=mobs_read.l0 k l0 l0 (l0.length:Int) 0
theorem mobs_read.calls (k:Nat) (A0:Option Addr) (c0:Nat) (l0:List (List Int)) (r:Int) (w:World) (hr0:Kd.C (Kd.slice 3 (Kd.int .i64)) w A0 l0.length l0) (hc0:l0.length≤c0) (h:mobs_read.f k l0=some r) :
  Calls Tra.prog 49 #[.slice A0 l0.length c0] w fun e w'=>e=.returned (.int .i64 r)∧Below w.heap.size w w':=by
 have HR0:=As0.mk hr0;have HC0:=As0.mk hc0;clear hr0 hc0;have HB:=As0.mk (Below.refl w.heap.size w);have H:(mobs_read.l0 k l0 l0 (l0.length:Int) 0)=some r:=h;clear h;have H':=As0.mk H;clear H;go_enter Tra.func49,Tra.ntmps49
 go_wp2
 repeat (go_quiet (fail);try go_wp2)
 go_loopg [7] k (fun kq v7 w'=>∃ (x7_1:Int),v7=.int .i64 x7_1∧As0 (mobs_read.l0 kq l0 l0 (l0.length:Int) x7_1=some r)∧As0 (kq≤k)∧As0 (Below w.heap.size w w'))
 case atStart=>exact ⟨(0),(by rfl),H',⟨zLe _⟩,⟨by repeat (with_reducible exact HB.out)⟩⟩
 case round =>
  clear H';obtain ⟨x7_1,rfl,HA,HK1,HB⟩:=hrel;cases gk with
  |zero=>exact absurd HA.out (by simp [mobs_read.l0])
  |succ k1 =>
   have H:=HA.out;clear HA;simp only [mobs_read.l0] at H
   by_cases c2:x7_1<(l0.length:Int)
   ·rw [if_pos c2] at H
    have c2b0:decide (x7_1<(l0.length:Int))=true:=zDt c2;clear c2
    by_cases c3:0≤x7_1
    ·rw [if_pos c3] at H
     have c3b0:decide (0≤x7_1)=true:=zDt c3;clear c3
     by_cases c4:x7_1<(l0.length:Int)
     ·rw [if_pos c4] at H
      have c4b0:decide (x7_1<(l0.length:Int))=true:=zDt c4;clear c4
      by_cases c5:((y1h l0 x7_1).length:Int) > 12
      ·rw [if_pos c5] at H
       have c5b0:decide (12<((y1h l0 x7_1).length:Int))=true:=zDt c5;have c5b1:decide (12<(y1h l0 x7_1).length)=true:=zDt (by omega);clear c5;obtain rfl:=zSi H;have p128:0≤(x7_1:Int):=zDo (by with_reducible assumption);have q128:x7_1<(l0.length:Int):=zDo (by with_reducible assumption);obtain ⟨ad128,A128_0,c128_0,e128,hx128_0,hl128_0,hi128_0⟩:=yaf HR0.out x7_1 p128 q128;cases e128
       replace hx128_0:=(HB.out.cell (World.block_lt_of_cell? w _ hx128_0)).trans hx128_0;have HR128_0:=As0.mk hi128_0;have HC128_0:=As0.mk hl128_0;clear hi128_0 hl128_0;replace p128:=eq_true p128;replace q128:=eq_true q128;go_wp2
       repeat (go_quiet (fail);try go_wp2)
       go_ret
       exact ⟨by rfl,by repeat (with_reducible exact HB.out)⟩
      ·rw [if_neg c5] at H
       have c5b0:decide (12<((y1h l0 x7_1).length:Int))=false:=zDf c5;have c5b1:decide (12<(y1h l0 x7_1).length)=false:=zDf (by omega);clear c5;replace H:=Option.bind_eq_some_iff.mp H;obtain ⟨t129,A60,H⟩:=H;replace H:(if t129=true then (mobs_read.l0 k1 l0 l0 (l0.length:Int) (wrap64 (x7_1+1))) else (some 2))=some r:=H;have A6:=As0.mk A60;clear A60
       by_cases c7:t129=true
       ·subst c7
        have H1:(mobs_read.l0 k1 l0 l0 (l0.length:Int) (wrap64 (x7_1+1)))=some r:=by rw [if_pos rfl] at H;exact H
        clear H;have H:=H1;clear H1;have H':=As0.mk H;clear H;have p128:0≤(x7_1:Int):=zDo (by with_reducible assumption);have q128:x7_1<(l0.length:Int):=zDo (by with_reducible assumption);obtain ⟨ad128,A128_0,c128_0,e128,hx128_0,hl128_0,hi128_0⟩:=yaf HR0.out x7_1 p128 q128;cases e128
        replace hx128_0:=(HB.out.cell (World.block_lt_of_cell? w _ hx128_0)).trans hx128_0;have HR128_0:=As0.mk hi128_0;have HC128_0:=As0.mk hl128_0;clear hi128_0 hl128_0;replace p128:=eq_true p128;replace q128:=eq_true q128;go_wp2_with ((go_at_call 40;(with_reducible refine (mobs_IsParting.calls k1 _ _ (y1h l0 x7_1) true _ ?side1 ?side2 A6.out).mono ?_);(case side1=>repeat (exact (Kd.C_below HR128_0.out HB.out)));(case side2=>exact HC128_0.out);rintro e w8 ⟨rfl,hb⟩;have n0_:=As0.mk (y05 (by repeat (with_reducible exact HB.out)) hb);clear HB;have HB:=n0_;clear n0_;(try clear hb);(try clear hb2);(try clear hk);(try clear hi)))
        repeat (go_quiet (first|(go_at_call 40;(with_reducible refine (mobs_IsParting.calls k1 _ _ (y1h l0 x7_1) true _ ?side1 ?side2 A6.out).mono ?_);(case side1=>repeat (first|exact (Kd.C_below HR128_0.out HB.out)|(with_reducible refine Kd.C_alloc ?_ _)|(with_reducible refine Kd.C_drewN ?_ _)|(with_reducible refine Kd.C_drew ?_)));(case side2=>exact HC128_0.out);rintro e w8 ⟨rfl,hb⟩;have n0_:=As0.mk (y05 (by repeat (with_reducible first|exact HB.out|apply y02|apply y00|apply y01)) hb);clear HB;have HB:=n0_;clear n0_;(try clear hb);(try clear hb2);(try clear hk);(try clear hi)));try go_wp2_with (first|(go_at_call 40;(with_reducible refine (mobs_IsParting.calls k1 _ _ (y1h l0 x7_1) true _ ?side1 ?side2 A6.out).mono ?_);(case side1=>repeat (first|exact (Kd.C_below HR128_0.out HB.out)|(with_reducible refine Kd.C_alloc ?_ _)|(with_reducible refine Kd.C_drewN ?_ _)|(with_reducible refine Kd.C_drew ?_)));(case side2=>exact HC128_0.out);rintro e w8 ⟨rfl,hb⟩;have n0_:=As0.mk (y05 (by repeat (with_reducible first|exact HB.out|apply y02|apply y00|apply y01)) hb);clear HB;have HB:=n0_;clear n0_;(try clear hb);(try clear hb2);(try clear hk);(try clear hi))))
        go_roundg k1
        case measure=>have:=HK1.out;omega
        case rel=>exact ⟨(wrap64 (x7_1+1)),(by rfl),H',⟨by have:=HK1.out;omega⟩,⟨by repeat (with_reducible exact HB.out)⟩⟩
       ·replace c7:=Bool.eq_false_iff.mpr c7
        subst c7;have H1:(some 2)=some r:=by rw [if_neg (show ¬ (false=true) by decide)] at H;exact H
        clear H;have H:=H1;clear H1;obtain rfl:=zSi H;have p128:0≤(x7_1:Int):=zDo (by with_reducible assumption);have q128:x7_1<(l0.length:Int):=zDo (by with_reducible assumption);obtain ⟨ad128,A128_0,c128_0,e128,hx128_0,hl128_0,hi128_0⟩:=yaf HR0.out x7_1 p128 q128;cases e128
        replace hx128_0:=(HB.out.cell (World.block_lt_of_cell? w _ hx128_0)).trans hx128_0;have HR128_0:=As0.mk hi128_0;have HC128_0:=As0.mk hl128_0;clear hi128_0 hl128_0;replace p128:=eq_true p128;replace q128:=eq_true q128;go_wp2_with ((go_at_call 40;(with_reducible refine (mobs_IsParting.calls k1 _ _ (y1h l0 x7_1) false _ ?side1 ?side2 A6.out).mono ?_);(case side1=>repeat (exact (Kd.C_below HR128_0.out HB.out)));(case side2=>exact HC128_0.out);rintro e w9 ⟨rfl,hb⟩;have n0_:=As0.mk (y05 (by repeat (with_reducible exact HB.out)) hb);clear HB;have HB:=n0_;clear n0_;(try clear hb);(try clear hb2);(try clear hk);(try clear hi)))
        repeat (go_quiet (first|(go_at_call 40;(with_reducible refine (mobs_IsParting.calls k1 _ _ (y1h l0 x7_1) false _ ?side1 ?side2 A6.out).mono ?_);(case side1=>repeat (first|exact (Kd.C_below HR128_0.out HB.out)|(with_reducible refine Kd.C_alloc ?_ _)|(with_reducible refine Kd.C_drewN ?_ _)|(with_reducible refine Kd.C_drew ?_)));(case side2=>exact HC128_0.out);rintro e w9 ⟨rfl,hb⟩;have n0_:=As0.mk (y05 (by repeat (with_reducible first|exact HB.out|apply y02|apply y00|apply y01)) hb);clear HB;have HB:=n0_;clear n0_;(try clear hb);(try clear hb2);(try clear hk);(try clear hi)));try go_wp2_with (first|(go_at_call 40;(with_reducible refine (mobs_IsParting.calls k1 _ _ (y1h l0 x7_1) false _ ?side1 ?side2 A6.out).mono ?_);(case side1=>repeat (first|exact (Kd.C_below HR128_0.out HB.out)|(with_reducible refine Kd.C_alloc ?_ _)|(with_reducible refine Kd.C_drewN ?_ _)|(with_reducible refine Kd.C_drew ?_)));(case side2=>exact HC128_0.out);rintro e w9 ⟨rfl,hb⟩;have n0_:=As0.mk (y05 (by repeat (with_reducible first|exact HB.out|apply y02|apply y00|apply y01)) hb);clear HB;have HB:=n0_;clear n0_;(try clear hb);(try clear hb2);(try clear hk);(try clear hi))))
        go_ret
        exact ⟨by rfl,by repeat (with_reducible exact HB.out)⟩
     ·rw [if_neg c4] at H
      exact absurd H (by simp)
    ·rw [if_neg c3] at H
     exact absurd H (by simp)
   ·rw [if_neg c2] at H
    have c2b0:decide (x7_1<(l0.length:Int))=false:=zDf c2;clear c2
    by_cases c10:(l0.length:Int)=2
    ·rw [if_pos c10] at H
     have c10b0:((l0.length:Int) == 2)=true:=beq_iff_eq.mpr c10;have c10b1:((l0.length:Int) != 2)=false:=bne_eq_false_iff_eq.mpr c10;clear c10
     by_cases c11:0<(l0.length:Int)
     ·rw [if_pos c11] at H
      have c11b0:decide (0<(l0.length:Int))=true:=zDt c11;have c11b1:decide (0<l0.length)=true:=zDt (by omega);clear c11
      by_cases c12:1<(l0.length:Int)
      ·rw [if_pos c12] at H
       have c12b0:decide (1<(l0.length:Int))=true:=zDt c12;have c12b1:decide (1<l0.length)=true:=zDt (by omega);clear c12
       by_cases c13:((y1h l0 0).length:Int)=((y1h l0 1).length:Int)
       ·rw [if_pos c13] at H
        have c13b0:(((y1h l0 0).length:Int) == ((y1h l0 1).length:Int))=true:=beq_iff_eq.mpr c13;have c13b1:(((y1h l0 0).length:Int) != ((y1h l0 1).length:Int))=false:=bne_eq_false_iff_eq.mpr c13;have c13b2:((y1h l0 0).length == (y1h l0 1).length)=true:=by (simp at c13 ⊢;omega)
        clear c13;obtain rfl:=zSi H;have p126:0≤(0:Int):=(by omega)
        have q126:0<(l0.length:Int):=zDo (by with_reducible assumption);obtain ⟨ad126,A126_0,c126_0,e126,hx126_0,hl126_0,hi126_0⟩:=yaf HR0.out 0 p126 q126;cases e126
        have qi126:(0<l0.length)=True:=eq_true (by omega)
        (try rw [show ((0:Int)).toNat=0 from rfl] at hx126_0)
        (try rw [Addr.add_zero'] at hx126_0)
        replace hx126_0:=(HB.out.cell (World.block_lt_of_cell? w _ hx126_0)).trans hx126_0;have HR126_0:=As0.mk hi126_0;have HC126_0:=As0.mk hl126_0;clear hi126_0 hl126_0;replace p126:=eq_true p126;replace q126:=eq_true q126;have p127:0≤(1:Int):=(by omega)
        have q127:1<(l0.length:Int):=zDo (by with_reducible assumption);obtain ⟨ad127,A127_0,c127_0,e127,hx127_0,hl127_0,hi127_0⟩:=yaf HR0.out 1 p127 q127;obtain rfl:ad126=ad127:=(by injection e127)
        (try simp only [show (1:Int).toNat=1 from rfl,Nat.reduceMul,Nat.reduceEqDiff,Go.Addr.add,↓reduceIte] at hx127_0)
        have qi127:(1<l0.length)=True:=eq_true (by omega)
        (try rw [show ((1:Int)).toNat=1 from rfl] at hx127_0)
        replace hx127_0:=(HB.out.cell (World.block_lt_of_cell? w _ hx127_0)).trans hx127_0;have HR127_0:=As0.mk hi127_0;have HC127_0:=As0.mk hl127_0;clear hi127_0 hl127_0;replace p127:=eq_true p127;replace q127:=eq_true q127;go_wp2
        repeat (go_quiet (fail);try go_wp2)
        go_ret
        exact ⟨by rfl,by repeat (with_reducible first|exact HB.out|apply y00)⟩
       ·rw [if_neg c13] at H
        have c13b0:(((y1h l0 0).length:Int) == ((y1h l0 1).length:Int))=false:=beq_eq_false_iff_ne.mpr c13;have c13b1:(((y1h l0 0).length:Int) != ((y1h l0 1).length:Int))=true:=bne_iff_ne.mpr c13;have c13b2:((y1h l0 0).length == (y1h l0 1).length)=false:=by (simp at c13 ⊢;omega)
        obtain rfl:=zSi H;have p126:0≤(0:Int):=(by omega)
        have q126:0<(l0.length:Int):=zDo (by with_reducible assumption);obtain ⟨ad126,A126_0,c126_0,e126,hx126_0,hl126_0,hi126_0⟩:=yaf HR0.out 0 p126 q126;cases e126
        have qi126:(0<l0.length)=True:=eq_true (by omega)
        (try rw [show ((0:Int)).toNat=0 from rfl] at hx126_0)
        (try rw [Addr.add_zero'] at hx126_0)
        replace hx126_0:=(HB.out.cell (World.block_lt_of_cell? w _ hx126_0)).trans hx126_0;have HR126_0:=As0.mk hi126_0;have HC126_0:=As0.mk hl126_0;clear hi126_0 hl126_0;replace p126:=eq_true p126;replace q126:=eq_true q126;have p127:0≤(1:Int):=(by omega)
        have q127:1<(l0.length:Int):=zDo (by with_reducible assumption);obtain ⟨ad127,A127_0,c127_0,e127,hx127_0,hl127_0,hi127_0⟩:=yaf HR0.out 1 p127 q127;obtain rfl:ad126=ad127:=(by injection e127)
        (try simp only [show (1:Int).toNat=1 from rfl,Nat.reduceMul,Nat.reduceEqDiff,Go.Addr.add,↓reduceIte] at hx127_0)
        have qi127:(1<l0.length)=True:=eq_true (by omega)
        (try rw [show ((1:Int)).toNat=1 from rfl] at hx127_0)
        replace hx127_0:=(HB.out.cell (World.block_lt_of_cell? w _ hx127_0)).trans hx127_0;have HR127_0:=As0.mk hi127_0;have HC127_0:=As0.mk hl127_0;clear hi127_0 hl127_0;replace p127:=eq_true p127;replace q127:=eq_true q127;go_wp2
        repeat (go_quiet (fail);try go_wp2)
        go_ret
        exact ⟨by rfl,by repeat (with_reducible first|exact HB.out|apply y00)⟩
      ·rw [if_neg c12] at H
       exact absurd H (by simp)
     ·rw [if_neg c11] at H
      exact absurd H (by simp)
    ·rw [if_neg c10] at H
     have c10b0:((l0.length:Int) == 2)=false:=beq_eq_false_iff_ne.mpr c10;have c10b1:((l0.length:Int) != 2)=true:=bne_iff_ne.mpr c10;obtain rfl:=zSi H;go_wp2
     repeat (go_quiet (fail);try go_wp2)
     go_ret
     exact ⟨by rfl,by repeat (with_reducible first|exact HB.out|apply y00)⟩
mutual
def mobs_crossed.l0:Nat->List Int->Int->Int->Option (Int × Int × Int × Int × Bool)
 |0,_,_,_=>none
 |k+1,x0,x9,x10=>if x10<x9 then (mobs_crossed.l1 k x0 x10 (wrap64 (x10+1)) x9 x10) else (some (0,0,0,0,false))
def mobs_crossed.l1:Nat->List Int->Int->Int->Int->Int->Option (Int × Int × Int × Int × Bool)
 |0,_,_,_,_,_=>none
 |k+1,x0,x4,x5,x9,x10=>if x5<(x0.length:Int) then (mobs_crossed.l2 k x0 x4 x5 (wrap64 (x5+1)) x9 x10) else (mobs_crossed.l0 k x0 x9 (wrap64 (x10+1)))
def mobs_crossed.l2:Nat->List Int->Int->Int->Int->Int->Int->Option (Int × Int × Int × Int × Bool)
 |0,_,_,_,_,_,_=>none
 |k+1,x0,x4,x5,x6,x9,x10=>if x6<(x0.length:Int) then (mobs_crossed.l3 k x0 x4 x5 x6 (wrap64 (x6+1)) x9 x10) else (mobs_crossed.l1 k x0 x4 (wrap64 (x5+1)) x9 x10)
def mobs_crossed.l3:Nat->List Int->Int->Int->Int->Int->Int->Int->Option (Int × Int × Int × Int × Bool)
 |0,_,_,_,_,_,_,_=>none
 |k+1,x0,x4,x5,x6,x7,x9,x10=>if x7<(x0.length:Int) then (if 0≤x4 then (if x4<(x0.length:Int) then (if 0≤x6 then (if x6<(x0.length:Int) then (if (rd x0 x4)=(rd x0 x6) then (if 0≤x5 then (if x5<(x0.length:Int) then (if 0≤x7 then (if (rd x0 x5)=(rd x0 x7) then (if (rd x0 x4)=(rd x0 x5) then (mobs_crossed.l3 k x0 x4 x5 x6 (wrap64 (x7+1)) x9 x10) else (some (x4,x5,x6,x7,true))) else (mobs_crossed.l3 k x0 x4 x5 x6 (wrap64 (x7+1)) x9 x10)) else (none)) else (none)) else (none)) else (mobs_crossed.l3 k x0 x4 x5 x6 (wrap64 (x7+1)) x9 x10)) else (none)) else (none)) else (none)) else (none)) else (mobs_crossed.l2 k x0 x4 x5 (wrap64 (x6+1)) x9 x10)
end
def mobs_crossed.f (k:Nat) (l0:List Int):Option (Int × Int × Int × Int × Bool):=mobs_crossed.l0 k l0 (l0.length:Int) 0
theorem mobs_crossed.calls (k:Nat) (A0:Option Addr) (c0:Nat) (l0:List Int) (r1:Int) (r2:Int) (r3:Int) (r4:Int) (r5:Bool) (w:World) (hr0:Kd.C (Kd.int .i64) w A0 l0.length l0) (hc0:l0.length≤c0) (h:mobs_crossed.f k l0=some (r1,r2,r3,r4,r5)) :
  Calls Tra.prog 50 #[.slice A0 l0.length c0] w fun e w'=>e=.returned (.tuple #[.agg #[.int .i64 r1,.int .i64 r2,.int .i64 r3,.int .i64 r4],.bool r5])∧Below w.heap.size w w':=by
 have hu31:=Tra.underlying31;have HR0:=As0.mk hr0;have HC0:=As0.mk hc0;clear hr0 hc0;have HB:=As0.mk (Below.refl w.heap.size w);have H:(mobs_crossed.l0 k l0 (l0.length:Int) 0)=some (r1,r2,r3,r4,r5):=h;clear h;have H':=As0.mk H;clear H;go_enter Tra.func50,Tra.ntmps50
 go_wp2_with (((with_reducible refine y0l (N:=2) rfl ?_);refine y1y ?hg (N:=2) ?hd (cs:=#[.int .i64 0,.int .i64 0,.int .i64 0,.int .i64 0]) (t:=31) ?hr ?_;(case hd=>rfl);(case hg=>rfl);(case hr=>(go_simp;done));intro gb130 hg w2 hbox hb;have n0_:=As0.mk (y05 (by repeat (with_reducible exact HB.out)) hb);have n1_:=As0.mk (hbox);have n2_:=As0.mk ((by rw [hg];exact (y03 (by repeat (with_reducible exact HB.out))):w.heap.size≤gb130));have n3_:=As0.mk ((by rw [hg];exact (y03 (by repeat (with_reducible exact HB.out))):w.heap.size≤gb130));clear HB;have HB:=n0_;have BK130:=n1_;have GW130:=n2_;have GE130:=n3_;clear n0_ n1_ n2_ n3_;clear hb hbox hg))
 repeat (go_quiet (first|((with_reducible refine y0l (N:=2) rfl ?_);refine y1y ?hg (N:=2) ?hd (cs:=#[.int .i64 0,.int .i64 0,.int .i64 0,.int .i64 0]) (t:=31) ?hr ?_;(case hd=>rfl);(case hg=>rfl);(case hr=>first|(go_simp;done)|(go_simp;rfl));intro gb130 hg w2 hbox hb;have n0_:=As0.mk (y05 (by repeat (with_reducible first|exact HB.out|apply y02|apply y00|apply y01)) hb);have n1_:=As0.mk (hbox);have n2_:=As0.mk ((by rw [hg];exact (y03 (by repeat (with_reducible first|exact HB.out|apply y02|apply y00|apply y01))):w.heap.size≤gb130));have n3_:=As0.mk ((by rw [hg];exact (y03 (by repeat (with_reducible first|exact HB.out|apply y02|apply y00|apply y01))):w.heap.size≤gb130));clear HB;have HB:=n0_;have BK130:=n1_;have GW130:=n2_;have GE130:=n3_;clear n0_ n1_ n2_ n3_;clear hb hbox hg));try go_wp2_with (first|((with_reducible refine y0l (N:=2) rfl ?_);refine y1y ?hg (N:=2) ?hd (cs:=#[.int .i64 0,.int .i64 0,.int .i64 0,.int .i64 0]) (t:=31) ?hr ?_;(case hd=>rfl);(case hg=>rfl);(case hr=>first|(go_simp;done)|(go_simp;rfl));intro gb130 hg w2 hbox hb;have n0_:=As0.mk (y05 (by repeat (with_reducible first|exact HB.out|apply y02|apply y00|apply y01)) hb);have n1_:=As0.mk (hbox);have n2_:=As0.mk ((by rw [hg];exact (y03 (by repeat (with_reducible first|exact HB.out|apply y02|apply y00|apply y01))):w.heap.size≤gb130));have n3_:=As0.mk ((by rw [hg];exact (y03 (by repeat (with_reducible first|exact HB.out|apply y02|apply y00|apply y01))):w.heap.size≤gb130));clear HB;have HB:=n0_;have BK130:=n1_;have GW130:=n2_;have GE130:=n3_;clear n0_ n1_ n2_ n3_;clear hb hbox hg)))
 go_loopg [10] k (fun kq v10 w'=>∃ (x10_1:Int) (x131000_1:Int) (x131001_1:Int) (x131002_1:Int) (x131003_1:Int),v10=.int .i64 x10_1∧As0 (mobs_crossed.l0 kq l0 (l0.length:Int) x10_1=some (r1,r2,r3,r4,r5))∧As0 (kq≤k)∧As0 (w'.heap[gb130]?=some (.cells #[.int .i64 x131000_1,.int .i64 x131001_1,.int .i64 x131002_1,.int .i64 x131003_1] 31 (0,0)))∧As0 (Below w.heap.size w w'))
 case atStart=>exact ⟨(0),(0),(0),(0),(0),(by rfl),H',⟨zLe _⟩,⟨by (with_reducible repeat (first|refine y0c ?_ _|refine blk_drew ?_|refine blk_alloc ?_ _));exact BK130.out⟩,⟨by repeat (with_reducible exact HB.out)⟩⟩
 case round =>
  clear H'
  try clear p2
  obtain ⟨x10_1,x131000_1,x131001_1,x131002_1,x131003_1,rfl,HA,HK1,BK130,HB⟩:=hrel;cases gk with
  |zero=>exact absurd HA.out (by simp [mobs_crossed.l0])
  |succ k1 =>
   have H:=HA.out;clear HA;simp only [mobs_crossed.l0] at H
   by_cases c3:x10_1<(l0.length:Int)
   ·rw [if_pos c3] at H
    have c3b0:decide (x10_1<(l0.length:Int))=true:=zDt c3;clear c3;have H':=As0.mk H;clear H;go_wp2
    repeat (go_quiet (fail);try go_wp2)
    go_loopg [5] k1 (fun kq v5 w'=>∃ (x5_2:Int) (x131000_2:Int) (x131001_2:Int) (x131002_2:Int) (x131003_2:Int),v5=.int .i64 x5_2∧As0 (mobs_crossed.l1 kq l0 x10_1 x5_2 (l0.length:Int) x10_1=some (r1,r2,r3,r4,r5))∧As0 (kq≤k1)∧As0 (w'.heap[gb130]?=some (.cells #[.int .i64 x131000_2,.int .i64 x131001_2,.int .i64 x131002_2,.int .i64 x131003_2] 31 (0,0)))∧As0 (Below w.heap.size w w'))
    case atStart=>exact ⟨(wrap64 (x10_1+1)),(x131000_1),(x131001_1),(x131002_1),(x131003_1),(by rfl),H',⟨zLe _⟩,⟨by (with_reducible repeat (first|refine y0c ?_ _|refine blk_drew ?_|refine blk_alloc ?_ _));exact BK130.out⟩,⟨by repeat (with_reducible exact HB.out)⟩⟩
    case round =>
     clear H'
     try clear p2
     try clear c3
     try clear c3b0
     try clear p2
     obtain ⟨x5_2,x131000_2,x131001_2,x131002_2,x131003_2,rfl,HA,HK2,BK130,HB⟩:=hrel;cases gk with
     |zero=>exact absurd HA.out (by simp [mobs_crossed.l1])
     |succ k2 =>
      have H:=HA.out;clear HA;simp only [mobs_crossed.l1] at H
      by_cases c4:x5_2<(l0.length:Int)
      ·rw [if_pos c4] at H
       have c4b0:decide (x5_2<(l0.length:Int))=true:=zDt c4;clear c4;have H':=As0.mk H;clear H;go_wp2
       repeat (go_quiet (fail);try go_wp2)
       go_loopg [6] k2 (fun kq v6 w'=>∃ (x6_3:Int) (x131000_3:Int) (x131001_3:Int) (x131002_3:Int) (x131003_3:Int),v6=.int .i64 x6_3∧As0 (mobs_crossed.l2 kq l0 x10_1 x5_2 x6_3 (l0.length:Int) x10_1=some (r1,r2,r3,r4,r5))∧As0 (kq≤k2)∧As0 (w'.heap[gb130]?=some (.cells #[.int .i64 x131000_3,.int .i64 x131001_3,.int .i64 x131002_3,.int .i64 x131003_3] 31 (0,0)))∧As0 (Below w.heap.size w w'))
       case atStart=>exact ⟨(wrap64 (x5_2+1)),(x131000_2),(x131001_2),(x131002_2),(x131003_2),(by rfl),H',⟨zLe _⟩,⟨by (with_reducible repeat (first|refine y0c ?_ _|refine blk_drew ?_|refine blk_alloc ?_ _));exact BK130.out⟩,⟨by repeat (with_reducible exact HB.out)⟩⟩
       case round =>
        clear H'
        try clear p2
        try clear c3
        try clear c3b0
        try clear c4
        try clear c4b0
        try clear p2
        obtain ⟨x6_3,x131000_3,x131001_3,x131002_3,x131003_3,rfl,HA,HK3,BK130,HB⟩:=hrel;cases gk with
        |zero=>exact absurd HA.out (by simp [mobs_crossed.l2])
        |succ k3 =>
         have H:=HA.out;clear HA;simp only [mobs_crossed.l2] at H
         by_cases c5:x6_3<(l0.length:Int)
         ·rw [if_pos c5] at H
          have c5b0:decide (x6_3<(l0.length:Int))=true:=zDt c5;clear c5;have H':=As0.mk H;clear H;go_wp2
          repeat (go_quiet (fail);try go_wp2)
          go_loopg [7] k3 (fun kq v7 w'=>∃ (x7_4:Int) (x131000_4:Int) (x131001_4:Int) (x131002_4:Int) (x131003_4:Int),v7=.int .i64 x7_4∧As0 (mobs_crossed.l3 kq l0 x10_1 x5_2 x6_3 x7_4 (l0.length:Int) x10_1=some (r1,r2,r3,r4,r5))∧As0 (kq≤k3)∧As0 (w'.heap[gb130]?=some (.cells #[.int .i64 x131000_4,.int .i64 x131001_4,.int .i64 x131002_4,.int .i64 x131003_4] 31 (0,0)))∧As0 (Below w.heap.size w w'))
          case atStart=>exact ⟨(wrap64 (x6_3+1)),(x131000_3),(x131001_3),(x131002_3),(x131003_3),(by rfl),H',⟨zLe _⟩,⟨by (with_reducible repeat (first|refine y0c ?_ _|refine blk_drew ?_|refine blk_alloc ?_ _));exact BK130.out⟩,⟨by repeat (with_reducible exact HB.out)⟩⟩
          case round =>
           clear H'
           try clear p2
           try clear c3
           try clear c3b0
           try clear c4
           try clear c4b0
           try clear c5
           try clear c5b0
           try clear p2
           obtain ⟨x7_4,x131000_4,x131001_4,x131002_4,x131003_4,rfl,HA,HK4,BK130,HB⟩:=hrel;cases gk with
           |zero=>exact absurd HA.out (by simp [mobs_crossed.l3])
           |succ k4 =>
            have H:=HA.out;clear HA;simp only [mobs_crossed.l3] at H
            by_cases c6:x7_4<(l0.length:Int)
            ·rw [if_pos c6] at H
             have c6b0:decide (x7_4<(l0.length:Int))=true:=zDt c6;clear c6
             by_cases c7:0≤x10_1
             ·rw [if_pos c7] at H
              have c7b0:decide (0≤x10_1)=true:=zDt c7;clear c7
              by_cases c8:x10_1<(l0.length:Int)
              ·rw [if_pos c8] at H
               have c8b0:decide (x10_1<(l0.length:Int))=true:=zDt c8;clear c8
               by_cases c9:0≤x6_3
               ·rw [if_pos c9] at H
                have c9b0:decide (0≤x6_3)=true:=zDt c9;clear c9
                by_cases c10:x6_3<(l0.length:Int)
                ·rw [if_pos c10] at H
                 have c10b0:decide (x6_3<(l0.length:Int))=true:=zDt c10;clear c10
                 by_cases c11:(rd l0 x10_1)=(rd l0 x6_3)
                 ·rw [if_pos c11] at H
                  have c11b0:((rd l0 x10_1) == (rd l0 x6_3))=true:=beq_iff_eq.mpr c11;have c11b1:((rd l0 x10_1) != (rd l0 x6_3))=false:=bne_eq_false_iff_eq.mpr c11;clear c11
                  by_cases c12:0≤x5_2
                  ·rw [if_pos c12] at H
                   have c12b0:decide (0≤x5_2)=true:=zDt c12;clear c12
                   by_cases c13:x5_2<(l0.length:Int)
                   ·rw [if_pos c13] at H
                    have c13b0:decide (x5_2<(l0.length:Int))=true:=zDt c13;clear c13
                    by_cases c14:0≤x7_4
                    ·rw [if_pos c14] at H
                     have c14b0:decide (0≤x7_4)=true:=zDt c14;clear c14
                     by_cases c15:(rd l0 x5_2)=(rd l0 x7_4)
                     ·rw [if_pos c15] at H
                      have c15b0:((rd l0 x5_2) == (rd l0 x7_4))=true:=beq_iff_eq.mpr c15;have c15b1:((rd l0 x5_2) != (rd l0 x7_4))=false:=bne_eq_false_iff_eq.mpr c15;clear c15
                      by_cases c16:(rd l0 x10_1)=(rd l0 x5_2)
                      ·rw [if_pos c16] at H
                       have c16b0:((rd l0 x10_1) == (rd l0 x5_2))=true:=beq_iff_eq.mpr c16;have c16b1:((rd l0 x10_1) != (rd l0 x5_2))=false:=bne_eq_false_iff_eq.mpr c16;clear c16;have H':=As0.mk H;clear H;have p131:0≤(x10_1:Int):=zDo (by with_reducible assumption);have q131:x10_1<(l0.length:Int):=zDo (by with_reducible assumption);obtain ⟨ad131,e131,hx131_0⟩:=Kd.at_int HR0.out x10_1 p131 q131;cases e131
                       replace hx131_0:=(HB.out.cell (World.block_lt_of_cell? w _ hx131_0)).trans hx131_0;replace p131:=eq_true p131;replace q131:=eq_true q131;have p132:0≤(x6_3:Int):=zDo (by with_reducible assumption);have q132:x6_3<(l0.length:Int):=zDo (by with_reducible assumption);obtain ⟨ad132,e132,hx132_0⟩:=Kd.at_int HR0.out x6_3 p132 q132;obtain rfl:ad131=ad132:=(by injection e132)
                       replace hx132_0:=(HB.out.cell (World.block_lt_of_cell? w _ hx132_0)).trans hx132_0;replace p132:=eq_true p132;replace q132:=eq_true q132;have p133:0≤(x5_2:Int):=zDo (by with_reducible assumption);have q133:x5_2<(l0.length:Int):=zDo (by with_reducible assumption);obtain ⟨ad133,e133,hx133_0⟩:=Kd.at_int HR0.out x5_2 p133 q133;obtain rfl:ad131=ad133:=(by injection e133)
                       replace hx133_0:=(HB.out.cell (World.block_lt_of_cell? w _ hx133_0)).trans hx133_0;replace p133:=eq_true p133;replace q133:=eq_true q133;have p134:0≤(x7_4:Int):=zDo (by with_reducible assumption);have q134:x7_4<(l0.length:Int):=zDo (by with_reducible assumption);obtain ⟨ad134,e134,hx134_0⟩:=Kd.at_int HR0.out x7_4 p134 q134;obtain rfl:ad131=ad134:=(by injection e134)
                       replace hx134_0:=(HB.out.cell (World.block_lt_of_cell? w _ hx134_0)).trans hx134_0;replace p134:=eq_true p134;replace q134:=eq_true q134;have p135:0≤(x10_1:Int):=zDo (by with_reducible assumption);have q135:x10_1<(l0.length:Int):=zDo (by with_reducible assumption);obtain ⟨ad135,e135,hx135_0⟩:=Kd.at_int HR0.out x10_1 p135 q135;obtain rfl:ad131=ad135:=(by injection e135)
                       replace hx135_0:=(HB.out.cell (World.block_lt_of_cell? w _ hx135_0)).trans hx135_0;replace p135:=eq_true p135;replace q135:=eq_true q135;have p136:0≤(x5_2:Int):=zDo (by with_reducible assumption);have q136:x5_2<(l0.length:Int):=zDo (by with_reducible assumption);obtain ⟨ad136,e136,hx136_0⟩:=Kd.at_int HR0.out x5_2 p136 q136;obtain rfl:ad131=ad136:=(by injection e136)
                       replace hx136_0:=(HB.out.cell (World.block_lt_of_cell? w _ hx136_0)).trans hx136_0;replace p136:=eq_true p136;replace q136:=eq_true q136;go_wp2
                       repeat (go_quiet (fail);try go_wp2)
                       go_roundg k4
                       case measure=>have:=HK1.out;have:=HK2.out;have:=HK3.out;have:=HK4.out;omega
                       case rel=>exact ⟨(wrap64 (x7_4+1)),(x131000_4),(x131001_4),(x131002_4),(x131003_4),(by rfl),H',⟨by have:=HK1.out;have:=HK2.out;have:=HK3.out;have:=HK4.out;omega⟩,⟨by (with_reducible repeat (refine y0c ?_ _));exact BK130.out⟩,⟨by repeat (with_reducible first|exact HB.out|apply y00)⟩⟩
                      ·rw [if_neg c16] at H
                       have c16b0:((rd l0 x10_1) == (rd l0 x5_2))=false:=beq_eq_false_iff_ne.mpr c16;have c16b1:((rd l0 x10_1) != (rd l0 x5_2))=true:=bne_iff_ne.mpr c16;simp only [Option.some.injEq,Prod.mk.injEq] at H;obtain ⟨rfl,rfl,rfl,rfl,rfl⟩:=H;have p131:0≤(x10_1:Int):=zDo (by with_reducible assumption);have q131:x10_1<(l0.length:Int):=zDo (by with_reducible assumption);obtain ⟨ad131,e131,hx131_0⟩:=Kd.at_int HR0.out x10_1 p131 q131;cases e131
                       replace hx131_0:=(HB.out.cell (World.block_lt_of_cell? w _ hx131_0)).trans hx131_0;replace p131:=eq_true p131;replace q131:=eq_true q131;have p132:0≤(x6_3:Int):=zDo (by with_reducible assumption);have q132:x6_3<(l0.length:Int):=zDo (by with_reducible assumption);obtain ⟨ad132,e132,hx132_0⟩:=Kd.at_int HR0.out x6_3 p132 q132;obtain rfl:ad131=ad132:=(by injection e132)
                       replace hx132_0:=(HB.out.cell (World.block_lt_of_cell? w _ hx132_0)).trans hx132_0;replace p132:=eq_true p132;replace q132:=eq_true q132;have p133:0≤(x5_2:Int):=zDo (by with_reducible assumption);have q133:x5_2<(l0.length:Int):=zDo (by with_reducible assumption);obtain ⟨ad133,e133,hx133_0⟩:=Kd.at_int HR0.out x5_2 p133 q133;obtain rfl:ad131=ad133:=(by injection e133)
                       replace hx133_0:=(HB.out.cell (World.block_lt_of_cell? w _ hx133_0)).trans hx133_0;replace p133:=eq_true p133;replace q133:=eq_true q133;have p134:0≤(x7_4:Int):=zDo (by with_reducible assumption);have q134:x7_4<(l0.length:Int):=zDo (by with_reducible assumption);obtain ⟨ad134,e134,hx134_0⟩:=Kd.at_int HR0.out x7_4 p134 q134;obtain rfl:ad131=ad134:=(by injection e134)
                       replace hx134_0:=(HB.out.cell (World.block_lt_of_cell? w _ hx134_0)).trans hx134_0;replace p134:=eq_true p134;replace q134:=eq_true q134;have p135:0≤(x10_1:Int):=zDo (by with_reducible assumption);have q135:x10_1<(l0.length:Int):=zDo (by with_reducible assumption);obtain ⟨ad135,e135,hx135_0⟩:=Kd.at_int HR0.out x10_1 p135 q135;obtain rfl:ad131=ad135:=(by injection e135)
                       replace hx135_0:=(HB.out.cell (World.block_lt_of_cell? w _ hx135_0)).trans hx135_0;replace p135:=eq_true p135;replace q135:=eq_true q135;have p136:0≤(x5_2:Int):=zDo (by with_reducible assumption);have q136:x5_2<(l0.length:Int):=zDo (by with_reducible assumption);obtain ⟨ad136,e136,hx136_0⟩:=Kd.at_int HR0.out x5_2 p136 q136;obtain rfl:ad131=ad136:=(by injection e136)
                       replace hx136_0:=(HB.out.cell (World.block_lt_of_cell? w _ hx136_0)).trans hx136_0;replace p136:=eq_true p136;replace q136:=eq_true q136;have hcz17_0:wr.cell? ⟨gb130,0,none⟩=some (.int .i64 x131000_4):=(y0i BK130.out 0).trans rfl;have hcz17_1:wr.cell? ⟨gb130,1,none⟩=some (.int .i64 x131001_4):=(y0i BK130.out 1).trans rfl;have hcz17_2:wr.cell? ⟨gb130,2,none⟩=some (.int .i64 x131002_4):=(y0i BK130.out 2).trans rfl;have hcz17_3:wr.cell? ⟨gb130,3,none⟩=some (.int .i64 x131003_4):=(y0i BK130.out 3).trans rfl;have hfz17_0:=y0f BK130.out 0;have hfz17_1:=y0f BK130.out 1;have hfz17_2:=y0f BK130.out 2;have hfz17_3:=y0f BK130.out 3;go_wp2
                       repeat (go_quiet (fail);try go_wp2)
                       refine bodyPost_ret (y6o rfl _ _ gb130 31 #[.int .i64 x10_1,.int .i64 x5_2,.int .i64 x6_3,.int .i64 x7_4] (0,0) _ rfl (by (with_reducible repeat (first|refine y0c ?_ _|refine blk_drew ?_|refine blk_alloc ?_ _));refine y0y (cs:=#[.int .i64 x10_1,.int .i64 x5_2,.int .i64 x6_3,.int .i64 x131003_4]) ?_ 3 _ rfl;(with_reducible repeat (first|refine y0c ?_ _|refine blk_drew ?_|refine blk_alloc ?_ _));refine y0y (cs:=#[.int .i64 x10_1,.int .i64 x5_2,.int .i64 x131002_4,.int .i64 x131003_4]) ?_ 2 _ rfl;(with_reducible repeat (first|refine y0c ?_ _|refine blk_drew ?_|refine blk_alloc ?_ _));refine y0y (cs:=#[.int .i64 x10_1,.int .i64 x131001_4,.int .i64 x131002_4,.int .i64 x131003_4]) ?_ 1 _ rfl;(with_reducible repeat (first|refine y0c ?_ _|refine blk_drew ?_|refine blk_alloc ?_ _));refine y0y (cs:=#[.int .i64 x131000_4,.int .i64 x131001_4,.int .i64 x131002_4,.int .i64 x131003_4]) ?_ 0 _ rfl;(with_reducible repeat (refine y0c ?_ _));exact BK130.out) Tra.underlying31 rfl (by kernel_rfl)) rfl ?_;exact ⟨by rfl,by repeat (with_reducible first|exact HB.out|apply y00|refine y0e ?_ GE130.out)⟩
                     ·rw [if_neg c15] at H
                      have c15b0:((rd l0 x5_2) == (rd l0 x7_4))=false:=beq_eq_false_iff_ne.mpr c15;have c15b1:((rd l0 x5_2) != (rd l0 x7_4))=true:=bne_iff_ne.mpr c15;have H':=As0.mk H;clear H;have p131:0≤(x10_1:Int):=zDo (by with_reducible assumption);have q131:x10_1<(l0.length:Int):=zDo (by with_reducible assumption);obtain ⟨ad131,e131,hx131_0⟩:=Kd.at_int HR0.out x10_1 p131 q131;cases e131
                      replace hx131_0:=(HB.out.cell (World.block_lt_of_cell? w _ hx131_0)).trans hx131_0;replace p131:=eq_true p131;replace q131:=eq_true q131;have p132:0≤(x6_3:Int):=zDo (by with_reducible assumption);have q132:x6_3<(l0.length:Int):=zDo (by with_reducible assumption);obtain ⟨ad132,e132,hx132_0⟩:=Kd.at_int HR0.out x6_3 p132 q132;obtain rfl:ad131=ad132:=(by injection e132)
                      replace hx132_0:=(HB.out.cell (World.block_lt_of_cell? w _ hx132_0)).trans hx132_0;replace p132:=eq_true p132;replace q132:=eq_true q132;have p133:0≤(x5_2:Int):=zDo (by with_reducible assumption);have q133:x5_2<(l0.length:Int):=zDo (by with_reducible assumption);obtain ⟨ad133,e133,hx133_0⟩:=Kd.at_int HR0.out x5_2 p133 q133;obtain rfl:ad131=ad133:=(by injection e133)
                      replace hx133_0:=(HB.out.cell (World.block_lt_of_cell? w _ hx133_0)).trans hx133_0;replace p133:=eq_true p133;replace q133:=eq_true q133;have p134:0≤(x7_4:Int):=zDo (by with_reducible assumption);have q134:x7_4<(l0.length:Int):=zDo (by with_reducible assumption);obtain ⟨ad134,e134,hx134_0⟩:=Kd.at_int HR0.out x7_4 p134 q134;obtain rfl:ad131=ad134:=(by injection e134)
                      replace hx134_0:=(HB.out.cell (World.block_lt_of_cell? w _ hx134_0)).trans hx134_0;replace p134:=eq_true p134;replace q134:=eq_true q134;go_wp2
                      repeat (go_quiet (fail);try go_wp2)
                      go_roundg k4
                      case measure=>have:=HK1.out;have:=HK2.out;have:=HK3.out;have:=HK4.out;omega
                      case rel=>exact ⟨(wrap64 (x7_4+1)),(x131000_4),(x131001_4),(x131002_4),(x131003_4),(by rfl),H',⟨by have:=HK1.out;have:=HK2.out;have:=HK3.out;have:=HK4.out;omega⟩,⟨by (with_reducible repeat (refine y0c ?_ _));exact BK130.out⟩,⟨by repeat (with_reducible first|exact HB.out|apply y00)⟩⟩
                    ·rw [if_neg c14] at H
                     exact absurd H (by simp)
                   ·rw [if_neg c13] at H
                    exact absurd H (by simp)
                  ·rw [if_neg c12] at H
                   exact absurd H (by simp)
                 ·rw [if_neg c11] at H
                  have c11b0:((rd l0 x10_1) == (rd l0 x6_3))=false:=beq_eq_false_iff_ne.mpr c11;have c11b1:((rd l0 x10_1) != (rd l0 x6_3))=true:=bne_iff_ne.mpr c11;have H':=As0.mk H;clear H;have p131:0≤(x10_1:Int):=zDo (by with_reducible assumption);have q131:x10_1<(l0.length:Int):=zDo (by with_reducible assumption);obtain ⟨ad131,e131,hx131_0⟩:=Kd.at_int HR0.out x10_1 p131 q131;cases e131
                  replace hx131_0:=(HB.out.cell (World.block_lt_of_cell? w _ hx131_0)).trans hx131_0;replace p131:=eq_true p131;replace q131:=eq_true q131;have p132:0≤(x6_3:Int):=zDo (by with_reducible assumption);have q132:x6_3<(l0.length:Int):=zDo (by with_reducible assumption);obtain ⟨ad132,e132,hx132_0⟩:=Kd.at_int HR0.out x6_3 p132 q132;obtain rfl:ad131=ad132:=(by injection e132)
                  replace hx132_0:=(HB.out.cell (World.block_lt_of_cell? w _ hx132_0)).trans hx132_0;replace p132:=eq_true p132;replace q132:=eq_true q132;go_wp2
                  repeat (go_quiet (fail);try go_wp2)
                  go_roundg k4
                  case measure=>have:=HK1.out;have:=HK2.out;have:=HK3.out;have:=HK4.out;omega
                  case rel=>exact ⟨(wrap64 (x7_4+1)),(x131000_4),(x131001_4),(x131002_4),(x131003_4),(by rfl),H',⟨by have:=HK1.out;have:=HK2.out;have:=HK3.out;have:=HK4.out;omega⟩,⟨by (with_reducible repeat (refine y0c ?_ _));exact BK130.out⟩,⟨by repeat (with_reducible first|exact HB.out|apply y00)⟩⟩
                ·rw [if_neg c10] at H
                 exact absurd H (by simp)
               ·rw [if_neg c9] at H
                exact absurd H (by simp)
              ·rw [if_neg c8] at H
               exact absurd H (by simp)
             ·rw [if_neg c7] at H
              exact absurd H (by simp)
            ·rw [if_neg c6] at H
             have c6b0:decide (x7_4<(l0.length:Int))=false:=zDf c6;clear c6;have H':=As0.mk H;clear H;go_wp2
             repeat (go_quiet (fail);try go_wp2)
             go_roundg k4
             case measure=>have:=HK1.out;have:=HK2.out;have:=HK3.out;have:=HK4.out;omega
             case rel=>exact ⟨(wrap64 (x6_3+1)),(x131000_4),(x131001_4),(x131002_4),(x131003_4),(by rfl),H',⟨by have:=HK1.out;have:=HK2.out;have:=HK3.out;have:=HK4.out;omega⟩,⟨by (with_reducible repeat (first|refine y0c ?_ _|refine blk_drew ?_|refine blk_alloc ?_ _));exact BK130.out⟩,⟨by repeat (with_reducible exact HB.out)⟩⟩
         ·rw [if_neg c5] at H
          have c5b0:decide (x6_3<(l0.length:Int))=false:=zDf c5;clear c5;have H':=As0.mk H;clear H;go_wp2
          repeat (go_quiet (fail);try go_wp2)
          go_roundg k3
          case measure=>have:=HK1.out;have:=HK2.out;have:=HK3.out;omega
          case rel=>exact ⟨(wrap64 (x5_2+1)),(x131000_3),(x131001_3),(x131002_3),(x131003_3),(by rfl),H',⟨by have:=HK1.out;have:=HK2.out;have:=HK3.out;omega⟩,⟨by (with_reducible repeat (first|refine y0c ?_ _|refine blk_drew ?_|refine blk_alloc ?_ _));exact BK130.out⟩,⟨by repeat (with_reducible exact HB.out)⟩⟩
      ·rw [if_neg c4] at H
       have c4b0:decide (x5_2<(l0.length:Int))=false:=zDf c4;clear c4;have H':=As0.mk H;clear H;go_wp2
       repeat (go_quiet (fail);try go_wp2)
       go_roundg k2
       case measure=>have:=HK1.out;have:=HK2.out;omega
       case rel=>exact ⟨(wrap64 (x10_1+1)),(x131000_2),(x131001_2),(x131002_2),(x131003_2),(by rfl),H',⟨by have:=HK1.out;have:=HK2.out;omega⟩,⟨by (with_reducible repeat (first|refine y0c ?_ _|refine blk_drew ?_|refine blk_alloc ?_ _));exact BK130.out⟩,⟨by repeat (with_reducible exact HB.out)⟩⟩
   ·rw [if_neg c3] at H
    have c3b0:decide (x10_1<(l0.length:Int))=false:=zDf c3;clear c3;simp only [Option.some.injEq,Prod.mk.injEq] at H;obtain ⟨rfl,rfl,rfl,rfl,rfl⟩:=H;have hcz18_0:wr.cell? ⟨gb130,0,none⟩=some (.int .i64 x131000_1):=(y0i BK130.out 0).trans rfl;have hcz18_1:wr.cell? ⟨gb130,1,none⟩=some (.int .i64 x131001_1):=(y0i BK130.out 1).trans rfl;have hcz18_2:wr.cell? ⟨gb130,2,none⟩=some (.int .i64 x131002_1):=(y0i BK130.out 2).trans rfl;have hcz18_3:wr.cell? ⟨gb130,3,none⟩=some (.int .i64 x131003_1):=(y0i BK130.out 3).trans rfl;have hfz18_0:=y0f BK130.out 0;have hfz18_1:=y0f BK130.out 1;have hfz18_2:=y0f BK130.out 2;have hfz18_3:=y0f BK130.out 3;go_wp2
    repeat (go_quiet (fail);try go_wp2)
    refine bodyPost_ret (y6o rfl _ _ gb130 31 #[.int .i64 0,.int .i64 0,.int .i64 0,.int .i64 0] (0,0) _ rfl (by (with_reducible repeat (first|refine y0c ?_ _|refine blk_drew ?_|refine blk_alloc ?_ _));refine y0y (cs:=#[.int .i64 0,.int .i64 0,.int .i64 0,.int .i64 x131003_1]) ?_ 3 _ rfl;(with_reducible repeat (first|refine y0c ?_ _|refine blk_drew ?_|refine blk_alloc ?_ _));refine y0y (cs:=#[.int .i64 0,.int .i64 0,.int .i64 x131002_1,.int .i64 x131003_1]) ?_ 2 _ rfl;(with_reducible repeat (first|refine y0c ?_ _|refine blk_drew ?_|refine blk_alloc ?_ _));refine y0y (cs:=#[.int .i64 0,.int .i64 x131001_1,.int .i64 x131002_1,.int .i64 x131003_1]) ?_ 1 _ rfl;(with_reducible repeat (first|refine y0c ?_ _|refine blk_drew ?_|refine blk_alloc ?_ _));refine y0y (cs:=#[.int .i64 x131000_1,.int .i64 x131001_1,.int .i64 x131002_1,.int .i64 x131003_1]) ?_ 0 _ rfl;(with_reducible repeat (first|refine y0c ?_ _|refine blk_drew ?_|refine blk_alloc ?_ _));exact BK130.out) Tra.underlying31 rfl (by kernel_rfl)) rfl ?_;exact ⟨by rfl,by repeat (with_reducible first|exact HB.out|refine y0e ?_ GE130.out)⟩
def mobs_Crossed.f (k:Nat) (l0:List Int):Option (Int × Int × Int × Int × Bool × Int):=(mobs_read.f k (([l0]:List (List Int)))).bind fun t141=>(if t141=0 then ((mobs_crossed.f k l0).bind fun bt142=>(some (bt142.1,bt142.2.1,bt142.2.2.1,bt142.2.2.2.1,bt142.2.2.2.2,0))) else (some (0,0,0,0,false,t141)))
theorem mobs_Crossed.calls (k:Nat) (P0_:Nat->Prop) (A0:Option Addr) (c0:Nat) (l0:List Int) (r1:Int) (r2:Int) (r3:Int) (r4:Int) (r5:Bool) (r6:Int) (w:World) (hs0:Kd.V (Kd.int .i64) 3 w w.heap.size (fun k_=>P0_ k_) (.slice A0 l0.length c0) l0) (h:mobs_Crossed.f k l0=some (r1,r2,r3,r4,r5,r6)) :
  Calls Tra.prog 23 #[.slice A0 l0.length c0] w fun e w'=>e=.returned (.tuple #[.agg #[.int .i64 r1,.int .i64 r2,.int .i64 r3,.int .i64 r4],.bool r5,.int .i64 r6])∧Below w.heap.size w w':=by
 have hu31:=Tra.underlying31;have HO0:=As0.mk (show Kd.V (Kd.int .i64) 3 w w.heap.size (fun k_=>(P0_ k_∨w.heap.size≤k_)) (.slice A0 l0.length c0) l0 from Kd.V_mono hs0 (fun k_ hk=>.inl hk));have HB:=As0.mk (Below.refl w.heap.size w);have H:((mobs_read.f k (([l0]:List (List Int)))).bind fun t141=>(if t141=0 then ((mobs_crossed.f k l0).bind fun bt142=>(some (bt142.1,bt142.2.1,bt142.2.2.1,bt142.2.2.2.1,bt142.2.2.2.2,0))) else (some (0,0,0,0,false,t141))))=some (r1,r2,r3,r4,r5,r6):=h;clear h;obtain ⟨y138,hy138⟩:∃ y_:List (List Int),y_=(([l0]:List (List Int))):=⟨_,rfl⟩
 replace H:((mobs_read.f k y138).bind fun t141=>(if t141=0 then ((mobs_crossed.f k l0).bind fun bt142=>(some (bt142.1,bt142.2.1,bt142.2.2.1,bt142.2.2.2.1,bt142.2.2.2.2,0))) else (some (0,0,0,0,false,t141))))=some (r1,r2,r3,r4,r5,r6):=by (rw [hy138];with_reducible exact H)
 have Ny138:=As0.mk hy138;clear hy138;replace H:=Option.bind_eq_some_iff.mp H;obtain ⟨t141,A20,H⟩:=H;replace H:(if t141=0 then ((mobs_crossed.f k l0).bind fun bt142=>(some (bt142.1,bt142.2.1,bt142.2.2.1,bt142.2.2.2.1,bt142.2.2.2.2,0))) else (some (0,0,0,0,false,t141)))=some (r1,r2,r3,r4,r5,r6):=H;have A2:=As0.mk A20;clear A20
 by_cases c3:t141=0
 ·rw [if_pos c3] at H
  have c3b0:(t141 == 0)=true:=beq_iff_eq.mpr c3;have c3b1:(t141 != 0)=false:=bne_eq_false_iff_eq.mpr c3;clear c3;replace H:=Option.bind_eq_some_iff.mp H;obtain ⟨⟨t142,t143,t144,t145,t146⟩,A40,H⟩:=H;replace H:(some (t142,t143,t144,t145,t146,0))=some (r1,r2,r3,r4,r5,r6):=H;have A4:=As0.mk A40;clear A40;simp only [Option.some.injEq,Prod.mk.injEq] at H;obtain ⟨rfl,rfl,rfl,rfl,rfl,rfl⟩:=H;go_enter Tra.func23,Tra.ntmps23
  go_wp2_with (first|((with_reducible refine y0l (N:=2) rfl ?_);refine y1y ?hg (N:=2) ?hd (cs:=#[.int .i64 0,.int .i64 0,.int .i64 0,.int .i64 0]) (t:=31) ?hr ?_;(case hd=>rfl);(case hg=>rfl);(case hr=>(go_simp;done));intro gb137 hg w5 hbox hb;have n0_:=As0.mk (Kd.V_below (Kd.V_elderB (by (with_reducible repeat (first|apply Kd.V_alloc|apply Kd.V_drewN|apply Kd.V_drew));exact HO0.out) gb137 (Nat.le_of_eq hg.symm)) hb);have n1_:=As0.mk (y05 (by repeat (with_reducible exact HB.out)) hb);have n2_:=As0.mk (hbox);have n3_:=As0.mk ((by rw [hg];exact (y03 (by repeat (with_reducible exact HB.out))):w.heap.size≤gb137));have n4_:=As0.mk ((by rw [hg];exact (y03 (by repeat (with_reducible exact HB.out))):w.heap.size≤gb137));clear HO0;clear HB;have HO0:=n0_;have HB:=n1_;have BK137:=n2_;have GW137:=n3_;have GE137:=n4_;clear n0_ n1_ n2_ n3_ n4_;clear hb hbox hg)|((with_reducible refine y0l (N:=9) rfl ?_);refine Kd.N_lit (Kd.slice 3 (Kd.int .i64)) _ 29 ?hg (N':=9) ?hd (xs:=([l0]:List (List Int))) (inner:=[.slice A0 l0.length c0]) (ok:=(fun k_=>(P0_ k_∨w.heap.size≤k_)∧k_≠gb137)) (okp:=(fun k_=>(P0_ k_∨w.heap.size≤k_)∧k_≠gb137)) ?hr ?hp (fun _ hk=>hk) ((show ∀ k_,w5.heap.size≤k_->(fun k_=>(P0_ k_∨w.heap.size≤k_)∧k_≠gb137) k_ from fun k_ hk=>⟨(.inr (Nat.le_trans (y03 (by repeat (with_reducible exact HB.out))) hk)),Kd.freshB (g:=gb137) (o:=.cells #[.int .i64 0,.int .i64 0,.int .i64 0,.int .i64 0] 31 (0,0)) (by (with_reducible repeat (first|refine y0c ?_ _|refine blk_drew ?_|refine blk_alloc ?_ _));exact BK137.out) k_ hk⟩) _ (zLe _)) (Below.refl _ _) (zLe _) (by simp) ?_;(case hd=>rfl);(case hg=>rfl);(case hr=>(go_simp;done));(case hp=>exact (Reps.one (show Kd.FK (Kd.slice 3 (Kd.int .i64)) _ _ l0 [.slice A0 l0.length c0] from (Kd.FK_slice_mk (Kd.V_reads' (Kd.V_mono (ok':=(fun k_=>(P0_ k_∨w.heap.size≤k_)∧k_≠gb137)) (HO0.out) (fun k_ hk=>⟨hk.1,hk.2⟩))).2.1 (Kd.V_F (Kd.V_mono (ok':=(fun k_=>(P0_ k_∨w.heap.size≤k_)∧k_≠gb137)) (HO0.out) (fun k_ hk=>⟨hk.1,hk.2⟩))))) (Reps.none _ _)));intro v139 w6 ho7 hb hg_ hnew_;clear hg_ hnew_;(rw [← Ny138.out] at ho7);have n0_:=As0.mk (Kd.V_elder' (by (with_reducible repeat (first|apply Kd.V_alloc|apply Kd.V_drewN|apply Kd.V_drew));exact HO0.out) (Kd.N_base ho7) hb);have n1_:=As0.mk (Kd.N_lower ho7 (y03 (by repeat (with_reducible exact HB.out))));have n2_:=As0.mk (y1d (g:=gb137) (o:=.cells #[.int .i64 0,.int .i64 0,.int .i64 0,.int .i64 0] 31 (0,0)) (by (with_reducible repeat (first|refine y0c ?_ _|refine blk_drew ?_|refine blk_alloc ?_ _));exact BK137.out) hb);have n3_:=As0.mk (y05 (by repeat (with_reducible exact HB.out)) hb);clear HO0;clear BK137;clear HB;have HO0:=n0_;have HO140:=n1_;have BK137:=n2_;have HB:=n3_;clear n0_ n1_ n2_ n3_;clear hb ho7;obtain ⟨Ao8,co8,eo8⟩:=Kd.N_slice HO140.out;subst eo8)|((with_reducible refine y04 (f:=49) rfl ?_);refine y0h (some 10) rfl rfl Tra.func49 (by kernel_rfl) rfl #[.slice Ao8 y138.length co8] rfl (by (try simp only [List.map_toArray,List.map_cons,List.map_nil]);rfl) ?_;(with_reducible refine (mobs_read.calls k _ _ y138 t141 _ ?side1 ?side2 A2.out).mono ?_);(case side1=>repeat (exact (Kd.N_reads' HO140.out).2.2));(case side2=>exact (Kd.N_reads' HO140.out).2.1);rintro e w9 ⟨rfl,hb⟩;refine ⟨_,rfl,?_⟩;have n0_:=As0.mk (Kd.V_below (by (with_reducible repeat (first|apply Kd.V_alloc|apply Kd.V_drewN|apply Kd.V_drew));exact HO0.out) hb);have n1_:=As0.mk (Kd.N_below (by (with_reducible repeat (first|apply Kd.N_alloc|apply Kd.N_drewN|apply Kd.N_drew));exact HO140.out) hb);have n2_:=As0.mk (y1d (g:=gb137) (o:=.cells #[.int .i64 0,.int .i64 0,.int .i64 0,.int .i64 0] 31 (0,0)) (by (with_reducible repeat (first|refine y0c ?_ _|refine blk_drew ?_|refine blk_alloc ?_ _));exact BK137.out) hb);have n3_:=As0.mk (y05 (by repeat (with_reducible exact HB.out)) hb);clear HO0;clear HO140;clear BK137;clear HB;have HO0:=n0_;have HO140:=n1_;have BK137:=n2_;have HB:=n3_;clear n0_ n1_ n2_ n3_;(try clear hb);(try clear hb2);(try clear hk);(try clear hi))|((with_reducible refine y04 (f:=50) rfl ?_);refine y0h (some 17) rfl rfl Tra.func50 (by kernel_rfl) rfl #[.slice A0 l0.length c0] rfl (by (try simp only [List.map_toArray,List.map_cons,List.map_nil]);rfl) ?_;(with_reducible refine (mobs_crossed.calls k _ _ l0 t142 t143 t144 t145 t146 _ ?side1 ?side2 A4.out).mono ?_);(case side1=>repeat (exact (Kd.V_reads' HO0.out).2.2));(case side2=>exact (Kd.V_reads' HO0.out).2.1);rintro e w10 ⟨rfl,hb⟩;refine ⟨_,rfl,?_⟩;have n0_:=As0.mk (Kd.V_below (by (with_reducible repeat (first|apply Kd.V_alloc|apply Kd.V_drewN|apply Kd.V_drew));exact HO0.out) hb);have n1_:=As0.mk (Kd.N_below (by (with_reducible repeat (first|apply Kd.N_alloc|apply Kd.N_drewN|apply Kd.N_drew));exact HO140.out) hb);have n2_:=As0.mk (y1d (g:=gb137) (o:=.cells #[.int .i64 0,.int .i64 0,.int .i64 0,.int .i64 0] 31 (0,0)) (by (with_reducible repeat (first|refine y0c ?_ _|refine blk_drew ?_|refine blk_alloc ?_ _));exact BK137.out) hb);have n3_:=As0.mk (y05 (by repeat (with_reducible exact HB.out)) hb);clear HO0;clear HO140;clear BK137;clear HB;have HO0:=n0_;have HO140:=n1_;have BK137:=n2_;have HB:=n3_;clear n0_ n1_ n2_ n3_;(try clear hb);(try clear hb2);(try clear hk);(try clear hi))|((with_reducible refine y0l (N:=6) rfl ?_);refine y1y ?hg (N:=6) ?hd (cs:=#[.int .i64 0,.int .i64 0,.int .i64 0,.int .i64 0]) (t:=31) ?hr ?_;(case hd=>rfl);(case hg=>rfl);(case hr=>(go_simp;done));intro gb147 hg w11 hbox hb;have n0_:=As0.mk (Kd.V_below (Kd.V_elderB (by (with_reducible repeat (first|apply Kd.V_alloc|apply Kd.V_drewN|apply Kd.V_drew));exact HO0.out) gb147 (Nat.le_of_eq hg.symm)) hb);have n1_:=As0.mk (Kd.N_below (Kd.N_elderB (by (with_reducible repeat (first|apply Kd.N_alloc|apply Kd.N_drewN|apply Kd.N_drew));exact HO140.out) gb147 (Nat.le_of_eq hg.symm)) hb);have n2_:=As0.mk (y1d (g:=gb137) (o:=.cells #[.int .i64 0,.int .i64 0,.int .i64 0,.int .i64 0] 31 (0,0)) (by (with_reducible repeat (first|refine y0c ?_ _|refine blk_drew ?_|refine blk_alloc ?_ _));exact BK137.out) hb);have n3_:=As0.mk (y05 (by repeat (with_reducible exact HB.out)) hb);have n4_:=As0.mk (hbox);have n5_:=As0.mk ((by rw [hg];exact (y03 (by repeat (with_reducible exact HB.out))):w.heap.size≤gb147));have n6_:=As0.mk ((by rw [hg];exact (y03 (by repeat (with_reducible exact HB.out))):w.heap.size≤gb147));have n7_:=As0.mk ((by rw [hg];exact Nat.ne_of_lt (y4s (g:=gb137) (o:=.cells #[.int .i64 0,.int .i64 0,.int .i64 0,.int .i64 0] 31 (0,0)) (by (with_reducible repeat (first|refine y0c ?_ _|refine blk_drew ?_|refine blk_alloc ?_ _));exact BK137.out)):gb137≠gb147));have n8_:=As0.mk ((by rw [hg];exact Nat.ne_of_gt (y4s (g:=gb137) (o:=.cells #[.int .i64 0,.int .i64 0,.int .i64 0,.int .i64 0] 31 (0,0)) (by (with_reducible repeat (first|refine y0c ?_ _|refine blk_drew ?_|refine blk_alloc ?_ _));exact BK137.out)):gb147≠gb137));clear HO0;clear HO140;clear BK137;clear HB;have HO0:=n0_;have HO140:=n1_;have BK137:=n2_;have HB:=n3_;have BK147:=n4_;have GW147:=n5_;have GE147:=n6_;have NB137_147:=n7_;have NB147_137:=n8_;clear n0_ n1_ n2_ n3_ n4_ n5_ n6_ n7_ n8_;clear hb hbox hg;have hnb12:=NB147_137.out;have hnc12:=NB137_147.out;have hcz13_0:w11.cell? ⟨gb147,0,none⟩=some (.int .i64 0):=(y0i BK147.out 0).trans rfl;have hcz13_1:w11.cell? ⟨gb147,1,none⟩=some (.int .i64 0):=(y0i BK147.out 1).trans rfl;have hcz13_2:w11.cell? ⟨gb147,2,none⟩=some (.int .i64 0):=(y0i BK147.out 2).trans rfl;have hcz13_3:w11.cell? ⟨gb147,3,none⟩=some (.int .i64 0):=(y0i BK147.out 3).trans rfl;have hfz13_0:=y0f BK147.out 0;have hfz13_1:=y0f BK147.out 1;have hfz13_2:=y0f BK147.out 2;have hfz13_3:=y0f BK147.out 3;have hcz14_0:w11.cell? ⟨gb137,0,none⟩=some (.int .i64 0):=(y0i BK137.out 0).trans rfl;have hcz14_1:w11.cell? ⟨gb137,1,none⟩=some (.int .i64 0):=(y0i BK137.out 1).trans rfl;have hcz14_2:w11.cell? ⟨gb137,2,none⟩=some (.int .i64 0):=(y0i BK137.out 2).trans rfl;have hcz14_3:w11.cell? ⟨gb137,3,none⟩=some (.int .i64 0):=(y0i BK137.out 3).trans rfl;have hfz14_0:=y0f BK137.out 0;have hfz14_1:=y0f BK137.out 1;have hfz14_2:=y0f BK137.out 2;have hfz14_3:=y0f BK137.out 3))
  refine bodyPost_ret (y5e rfl _ _ gb137 31 #[.int .i64 t142,.int .i64 t143,.int .i64 t144,.int .i64 t145] (0,0) _ rfl (by (with_reducible repeat (first|refine y0c ?_ _|refine blk_drew ?_|refine blk_alloc ?_ _));refine y0y (cs:=#[.int .i64 t142,.int .i64 t143,.int .i64 t144,.int .i64 0]) ?_ 3 _ rfl;(with_reducible repeat (first|refine y0c ?_ _|refine blk_drew ?_|refine blk_alloc ?_ _));refine y0y (cs:=#[.int .i64 t142,.int .i64 t143,.int .i64 0,.int .i64 0]) ?_ 2 _ rfl;(with_reducible repeat (first|refine y0c ?_ _|refine blk_drew ?_|refine blk_alloc ?_ _));refine y0y (cs:=#[.int .i64 t142,.int .i64 0,.int .i64 0,.int .i64 0]) ?_ 1 _ rfl;(with_reducible repeat (first|refine y0c ?_ _|refine blk_drew ?_|refine blk_alloc ?_ _));refine y0y (cs:=#[.int .i64 0,.int .i64 0,.int .i64 0,.int .i64 0]) ?_ 0 _ rfl;(with_reducible repeat (first|refine y0c ?_ _|refine blk_drew ?_|refine blk_alloc ?_ _));refine y87 ?_ NB137_147.out _;(with_reducible repeat (first|refine y0c ?_ _|refine blk_drew ?_|refine blk_alloc ?_ _));refine y87 ?_ NB137_147.out _;(with_reducible repeat (first|refine y0c ?_ _|refine blk_drew ?_|refine blk_alloc ?_ _));refine y87 ?_ NB137_147.out _;(with_reducible repeat (first|refine y0c ?_ _|refine blk_drew ?_|refine blk_alloc ?_ _));refine y87 ?_ NB137_147.out _;(with_reducible repeat (first|refine y0c ?_ _|refine blk_drew ?_|refine blk_alloc ?_ _));exact BK137.out) Tra.underlying31 rfl (by kernel_rfl)) rfl ?_;exact ⟨by rfl,by repeat (with_reducible first|exact HB.out|refine y0e ?_ GE137.out|refine y0e ?_ GE147.out)⟩
 ·rw [if_neg c3] at H
  have c3b0:(t141 == 0)=false:=beq_eq_false_iff_ne.mpr c3;have c3b1:(t141 != 0)=true:=bne_iff_ne.mpr c3;simp only [Option.some.injEq,Prod.mk.injEq] at H;obtain ⟨rfl,rfl,rfl,rfl,rfl,rfl⟩:=H;go_enter Tra.func23,Tra.ntmps23
  go_wp2_with (first|((with_reducible refine y0l (N:=2) rfl ?_);refine y1y ?hg (N:=2) ?hd (cs:=#[.int .i64 0,.int .i64 0,.int .i64 0,.int .i64 0]) (t:=31) ?hr ?_;(case hd=>rfl);(case hg=>rfl);(case hr=>(go_simp;done));intro gb137 hg w15 hbox hb;have n0_:=As0.mk (Kd.V_below (Kd.V_elderB (by (with_reducible repeat (first|apply Kd.V_alloc|apply Kd.V_drewN|apply Kd.V_drew));exact HO0.out) gb137 (Nat.le_of_eq hg.symm)) hb);have n1_:=As0.mk (y05 (by repeat (with_reducible exact HB.out)) hb);have n2_:=As0.mk (hbox);have n3_:=As0.mk ((by rw [hg];exact (y03 (by repeat (with_reducible exact HB.out))):w.heap.size≤gb137));have n4_:=As0.mk ((by rw [hg];exact (y03 (by repeat (with_reducible exact HB.out))):w.heap.size≤gb137));clear HO0;clear HB;have HO0:=n0_;have HB:=n1_;have BK137:=n2_;have GW137:=n3_;have GE137:=n4_;clear n0_ n1_ n2_ n3_ n4_;clear hb hbox hg)|((with_reducible refine y0l (N:=9) rfl ?_);refine Kd.N_lit (Kd.slice 3 (Kd.int .i64)) _ 29 ?hg (N':=9) ?hd (xs:=([l0]:List (List Int))) (inner:=[.slice A0 l0.length c0]) (ok:=(fun k_=>(P0_ k_∨w.heap.size≤k_)∧k_≠gb137)) (okp:=(fun k_=>(P0_ k_∨w.heap.size≤k_)∧k_≠gb137)) ?hr ?hp (fun _ hk=>hk) ((show ∀ k_,w15.heap.size≤k_->(fun k_=>(P0_ k_∨w.heap.size≤k_)∧k_≠gb137) k_ from fun k_ hk=>⟨(.inr (Nat.le_trans (y03 (by repeat (with_reducible exact HB.out))) hk)),Kd.freshB (g:=gb137) (o:=.cells #[.int .i64 0,.int .i64 0,.int .i64 0,.int .i64 0] 31 (0,0)) (by (with_reducible repeat (first|refine y0c ?_ _|refine blk_drew ?_|refine blk_alloc ?_ _));exact BK137.out) k_ hk⟩) _ (zLe _)) (Below.refl _ _) (zLe _) (by simp) ?_;(case hd=>rfl);(case hg=>rfl);(case hr=>(go_simp;done));(case hp=>exact (Reps.one (show Kd.FK (Kd.slice 3 (Kd.int .i64)) _ _ l0 [.slice A0 l0.length c0] from (Kd.FK_slice_mk (Kd.V_reads' (Kd.V_mono (ok':=(fun k_=>(P0_ k_∨w.heap.size≤k_)∧k_≠gb137)) (HO0.out) (fun k_ hk=>⟨hk.1,hk.2⟩))).2.1 (Kd.V_F (Kd.V_mono (ok':=(fun k_=>(P0_ k_∨w.heap.size≤k_)∧k_≠gb137)) (HO0.out) (fun k_ hk=>⟨hk.1,hk.2⟩))))) (Reps.none _ _)));intro v139 w16 ho17 hb hg_ hnew_;clear hg_ hnew_;(rw [← Ny138.out] at ho17);have n0_:=As0.mk (Kd.V_elder' (by (with_reducible repeat (first|apply Kd.V_alloc|apply Kd.V_drewN|apply Kd.V_drew));exact HO0.out) (Kd.N_base ho17) hb);have n1_:=As0.mk (Kd.N_lower ho17 (y03 (by repeat (with_reducible exact HB.out))));have n2_:=As0.mk (y1d (g:=gb137) (o:=.cells #[.int .i64 0,.int .i64 0,.int .i64 0,.int .i64 0] 31 (0,0)) (by (with_reducible repeat (first|refine y0c ?_ _|refine blk_drew ?_|refine blk_alloc ?_ _));exact BK137.out) hb);have n3_:=As0.mk (y05 (by repeat (with_reducible exact HB.out)) hb);clear HO0;clear BK137;clear HB;have HO0:=n0_;have HO140:=n1_;have BK137:=n2_;have HB:=n3_;clear n0_ n1_ n2_ n3_;clear hb ho17;obtain ⟨Ao18,co18,eo18⟩:=Kd.N_slice HO140.out;subst eo18)|((with_reducible refine y04 (f:=49) rfl ?_);refine y0h (some 10) rfl rfl Tra.func49 (by kernel_rfl) rfl #[.slice Ao18 y138.length co18] rfl (by (try simp only [List.map_toArray,List.map_cons,List.map_nil]);rfl) ?_;(with_reducible refine (mobs_read.calls k _ _ y138 t141 _ ?side1 ?side2 A2.out).mono ?_);(case side1=>repeat (exact (Kd.N_reads' HO140.out).2.2));(case side2=>exact (Kd.N_reads' HO140.out).2.1);rintro e w19 ⟨rfl,hb⟩;refine ⟨_,rfl,?_⟩;have n0_:=As0.mk (Kd.V_below (by (with_reducible repeat (first|apply Kd.V_alloc|apply Kd.V_drewN|apply Kd.V_drew));exact HO0.out) hb);have n1_:=As0.mk (Kd.N_below (by (with_reducible repeat (first|apply Kd.N_alloc|apply Kd.N_drewN|apply Kd.N_drew));exact HO140.out) hb);have n2_:=As0.mk (y1d (g:=gb137) (o:=.cells #[.int .i64 0,.int .i64 0,.int .i64 0,.int .i64 0] 31 (0,0)) (by (with_reducible repeat (first|refine y0c ?_ _|refine blk_drew ?_|refine blk_alloc ?_ _));exact BK137.out) hb);have n3_:=As0.mk (y05 (by repeat (with_reducible exact HB.out)) hb);clear HO0;clear HO140;clear BK137;clear HB;have HO0:=n0_;have HO140:=n1_;have BK137:=n2_;have HB:=n3_;clear n0_ n1_ n2_ n3_;(try clear hb);(try clear hb2);(try clear hk);(try clear hi);have hcz20_0:w19.cell? ⟨gb137,0,none⟩=some (.int .i64 0):=(y0i BK137.out 0).trans rfl;have hcz20_1:w19.cell? ⟨gb137,1,none⟩=some (.int .i64 0):=(y0i BK137.out 1).trans rfl;have hcz20_2:w19.cell? ⟨gb137,2,none⟩=some (.int .i64 0):=(y0i BK137.out 2).trans rfl;have hcz20_3:w19.cell? ⟨gb137,3,none⟩=some (.int .i64 0):=(y0i BK137.out 3).trans rfl;have hfz20_0:=y0f BK137.out 0;have hfz20_1:=y0f BK137.out 1;have hfz20_2:=y0f BK137.out 2;have hfz20_3:=y0f BK137.out 3))
  refine bodyPost_ret (y5e rfl _ _ gb137 31 #[.int .i64 0,.int .i64 0,.int .i64 0,.int .i64 0] (0,0) _ rfl (by (with_reducible repeat (first|refine y0c ?_ _|refine blk_drew ?_|refine blk_alloc ?_ _));refine y0y (cs:=#[.int .i64 0,.int .i64 0,.int .i64 0,.int .i64 0]) ?_ 3 _ rfl;(with_reducible repeat (first|refine y0c ?_ _|refine blk_drew ?_|refine blk_alloc ?_ _));refine y0y (cs:=#[.int .i64 0,.int .i64 0,.int .i64 0,.int .i64 0]) ?_ 2 _ rfl;(with_reducible repeat (first|refine y0c ?_ _|refine blk_drew ?_|refine blk_alloc ?_ _));refine y0y (cs:=#[.int .i64 0,.int .i64 0,.int .i64 0,.int .i64 0]) ?_ 1 _ rfl;(with_reducible repeat (first|refine y0c ?_ _|refine blk_drew ?_|refine blk_alloc ?_ _));refine y0y (cs:=#[.int .i64 0,.int .i64 0,.int .i64 0,.int .i64 0]) ?_ 0 _ rfl;(with_reducible repeat (first|refine y0c ?_ _|refine blk_drew ?_|refine blk_alloc ?_ _));exact BK137.out) Tra.underlying31 rfl (by kernel_rfl)) rfl ?_;exact ⟨by rfl,by repeat (with_reducible first|exact HB.out|refine y0e ?_ GE137.out)⟩
end Go.Proofs.Ytdhgeondbnpeoaa.P
namespace Go.Mt
open Go.Tr Go.Conc Go.ConcN Go.Proofs Go.RowKit
open Go.Proofs.Ytdhgeondbnpeoaa Go.Proofs.Ytdhgeondbnpeoaa.P Go.Proofs.Yw.Wd Go.Proofs.Yw.La Go.Proofs.Yw.Mo
section
variable {P:Program} {Post:FuncId->Array Value->World->Prop} {g0:Goroutine} {u0:World}
theorem At.go' (hP:∀ f t u τ,Post f t u->Post f t (retape u τ)) {fr c:Frame} {cs:List Frame} {u u1:World} {g1:Goroutine} {es:Array Event} (h:At P Post g0 u0 (G fr (c :: (cs ++ [c0]))) u) (τ:Nat->Question->Nat) (hs:stepG P true (G fr (c :: (cs ++ [c0]))) (retape u τ)=.go g1 (retape u1 τ) es):At P Post g0 u0 g1 u1:=by
 refine ⟨?_,h.path.trans (.cons τ hs (.nil (y15 u1)))⟩;have hl:=h.lt;generalize hg:G fr (c :: (cs ++ [c0]))=g at hl;cases hl with
 |fin h1 h2 h3 =>
  obtain ⟨rfl,hc⟩:=y6a hg;have:=congrArg List.length hc;simp at this
 |@step fr' cs' _ nx hn hs' hl =>
  obtain ⟨rfl,rfl⟩:=y6a hg;have h1:=(hs' τ).symm.trans hs;injection h1 with e1 e2 e3
  rw [← e1];exact (hl τ).congr hP (y5d e2.symm _)
theorem At.run (hP:∀ f t u τ,Post f t u->Post f t (retape u τ)) {fr' c:Frame} {cs':List Frame} {u':World}:∀ (n:Nat) (fr:Frame) (cs:List Frame) (u:World),At P Post g0 u0 (G fr cs) u->runN P n (lone fr cs u)=.next (lone fr' (c :: (cs' ++ [c0])) u')->At P Post g0 u0 (G fr' (c :: (cs' ++ [c0]))) u'
 |0,fr,cs,u,h,hr=>by
  simp only [runN] at hr;injection hr with hr
  obtain ⟨rfl,rfl,rfl⟩:=y1w hr;exact h
 |n+1,fr,cs,u,h,hr=>by
  have hl:=h.lt;generalize hg:G fr cs=g at hl;cases hl with
  |fin h1 h2 h3 =>
   exfalso;obtain ⟨rfl,rfl⟩:=y6a hg;obtain ⟨f,tm,td,m,fn,rfl,hf⟩:=h2;have bad:∀ (n:Nat) (u1:World),runN P n (lone { c0 with mode:=.panicking [] } [] u1)≠.next (lone fr' (c :: (cs' ++ [c0])) u'):=by
    intro n u1;cases n with
    |zero =>
     intro h;simp only [runN] at h;injection h with h
     exact absurd (y1w h).2.1 (by simp)
    |succ n =>
     obtain ⟨o,u1,es,h⟩:=y86 (P:=P) [] u1;exact y17 h n _
   have ret:∀ (n:Nat) (td:List Item),runN P (n+1) (lone (frm f tm td .returning) [c0] u)≠.next (lone fr' (c :: (cs' ++ [c0])) u'):=by
    intro n td;have h:=y1f (P:=P) true f tm td c0 [] u hf;rw [Sem.runT_eq] at h;cases hr:(results fn tm).run P u with
    |ok v u1 =>
     rw [hr] at h;rw [y13 h,y66];exact bad n _
    |halt hh u1 =>
     rw [hr] at h;cases hh<;>exact y17 h n _
   rcases h1 with hf'|⟨hf',ht⟩
   ·obtain rfl:m=.returning:=hf'
    exact ret n td hr
   ·obtain rfl:m=.run:=hf'
    obtain rfl:td=[]:=ht;have hs:=y4o (P:=P) true f tm [c0] u;rw [y13 hs] at hr;cases n with
    |zero =>
     simp only [runN] at hr;injection hr with hr
     have:=congrArg List.length (y1w hr).2.1;simp at this
    |succ n=>exact ret n [] hr
  |@step fr1 cs1 _ nx hn hs hl =>
   obtain ⟨rfl,rfl⟩:=y6a hg;have h1:=hs u.tape;rw [y15] at h1;rw [y13 h1] at hr;refine At.run hP n _ _ _ ⟨?_,h.path.trans (.cons u.tape (by rw [y15];exact h1) (.nil (y15 _)))⟩ hr;refine (hl u.tape).congr hP ?_;rw [y1u];rfl
theorem At.calls (hP:∀ f t u τ,Post f t u->Post f t (retape u τ)) {f:FuncId} {args:Array Value} {b c:Frame} {cs:List Frame} {u:World} {Q:Value->World->Prop} (h:At P Post g0 u0 (G (Frame.enter P f args .normal) (b :: c :: (cs ++ [c0]))) u) (hc:Calls P f args u fun e w=>∃ v,e=.returned v∧Q v w) :
  ∃ v u',Q v u'∧At P Post g0 u0 (G (b.finish v) (c :: (cs ++ [c0]))) u':=by
 obtain ⟨e,w',fr,⟨v,rfl,hq⟩,⟨n,hn⟩,hfn,hleave⟩:=hc (b :: c :: (cs ++ [c0]));have hst:=step_leave_returned (P:=P) (c:=b) (cs:=c :: (cs ++ [c0])) hleave;refine ⟨v,w',hq,At.run hP (n+1) _ _ _ h ?_⟩;rw [runN_add,hn];simp only [runN,hst]
def rowA (xs:List Int) (cap:Nat):Array Value:=(nums .i64 xs).toArray ++ Builtin.zeroCells #[Value.int .i64 0] (cap - xs.length)
theorem ya6 {u:World} {B:Nat} {v:Value} {xs:List Int} (h:Ext.OwnI u B v xs):(xs=[]∧v=.slice none 0 0)∨xs≠[]∧∃ g cap,v=.slice (some ⟨g,0,none⟩) xs.length cap∧B≤g∧u.heap[g]?=some (.cells (rowA xs cap) 3 (0,0))∧xs.length≤cap∧cap≤maxLen:=by
 obtain ⟨⟨h1,h2⟩,h3,hnil⟩:=h;rcases h2 with ⟨rfl,h0⟩|⟨g,cap,cur,rfl,hb,hg,hn,hm,hs,ht⟩
 ·exact .inl ⟨List.eq_nil_of_length_eq_zero h0,rfl⟩
 ·refine .inr ⟨fun hx=>by have:=hnil hx;simp at this,g,cap,rfl,hb,?_,hn,hm⟩
  rw [hg];have h4:=(h3 g cur _ rfl hg).2;rw [Nat.mul_one] at hs ht
  congr 2
  apply Array.ext_getElem?;intro i;unfold rowA;have hl:(nums IntKind.i64 xs).toArray.size=xs.length:=by simp [nums]
  have hz:(Builtin.zeroCells #[Value.int .i64 0] (cap - xs.length)).size=cap - xs.length:=by rw [size_zeroCells];simp
  by_cases hi:i<xs.length
  ·rw [Array.getElem?_append_left (by omega)]
   have e:=congrArg (fun l:List Value=>l[i]?) ht;simp only [List.getElem?_take,if_pos hi] at e;simpa using e
  ·rw [Array.getElem?_append_right (by omega),hl]
   by_cases hc:i<cap
   ·rw [h4 i (by omega) (by omega),Array.getElem?_eq_getElem (by omega)]
    exact (congrArg some (Ext.zeros_int _ _ (Array.getElem_mem _))).symm
   ·rw [Array.getElem?_eq_none (by omega),Array.getElem?_eq_none (by omega)]
theorem cut_cap {n cap:Nat} (h1:n≤cap) (h2:cap≤maxLen):n+(cap - n) % (2 ^ 63 - n)=cap:=by
 have:maxLen=9223372036854775807:=rfl;rw [Nat.mod_eq_of_lt (by omega)];omega
theorem ycx {u:World} {B cap:Nat} {v:Value} {xs:List Int} (h:Ext.OwnI u B v xs) (h1:xs.length≤cap) (h2:cap≤maxLen) (h3:xs.length<17592186044416):∃ (τ:Nat->Question->Nat) (y:Value) (u':World),(Builtin.append_ #[29,29] 29 #[.slice none 0 0,v]).run Tra.prog (retape u τ)=.ok y (retape u' τ)∧u'.os=u.os∧u'.output=u.output ∧
  ((xs=[]∧y=.slice none 0 0∧u'.heap=u.heap)∨(xs≠[]∧y=.slice (some ⟨u.heap.size,0,none⟩) xs.length cap∧u'.heap=u.heap.push (.cells (rowA xs cap) 3 (0,0)))):=by
 rcases ya6 h with ⟨rfl,rfl⟩|⟨hx,g,cp,rfl,_,hg,hn,_⟩
 ·refine ⟨u.tape,.slice none 0 0,u,?_,rfl,rfl,.inl ⟨rfl,rfl,rfl⟩⟩
  simp [Builtin.append_,go_sem,Tra.runUnderlying29,Tra.sizeOf3,Builtin.lenOf,Builtin.firstCells]
 ·obtain ⟨i,hi⟩:∃ i,Tra.prog.info? 3=some i:=by
   have:=Ext.info3;cases hi:Tra.prog.info? 3 with
   |none=>rw [hi] at this;cases this
   |some i=>exact ⟨i,rfl⟩
  have hinf:=Ext.info3;rw [hi] at hinf;simp only [Option.map_some,Option.some.injEq,Prod.mk.injEq] at hinf;obtain ⟨hz,hs,hb⟩:=hinf;have hpos:0<xs.length:=List.length_pos_iff.2 hx;let τ:Nat->Question->Nat:=fun _ _=>cap - xs.length
  have hr:=run_append_nil (P:=Tra.prog) (retape u τ) 29 29 3 i (.int .i64 0) Tra.underlying29 hi hz ⟨g,0,none⟩ xs.length cp (nums .i64 xs) (by rw [hs];simp [nums]) (fun j x hj=>by
   have hlt:j<xs.length:=by have:=(List.getElem?_eq_some_iff.1 hj).1;simpa [nums] using this
   rw [y14];have hg':(retape u τ).heap[g]?=some (.cells (rowA xs cp) 3 (0,0)):=hg;rw [cell_of_row _ g _ _ _ _ hg',rowA,Array.getElem?_append_left (by simp [nums];omega)];simpa using hj) hpos (by omega) (by rw [hb];omega)
  have hcap:grownCap (retape u τ) xs.length 0 3=cap:=by
   show xs.length+(cap - xs.length) % (2 ^ 63 - xs.length)=cap;exact cut_cap h1 h2
  rw [hcap] at hr;exact ⟨τ,_,(retape u τ).drew.alloc (.cells (rowA xs cap) 3),hr,rfl,rfl,.inr ⟨hx,rfl,rfl⟩⟩
end
abbrev xa:Array Oper:=#[{ dst:=some 4,op:=Go.Op.assign (Go.Operand.const (Go.Value.slice none 0 0)),type:=29,pos := "", after:=#[],guard:=none },{ dst:=some 5,op:=Go.Op.assign (Go.Operand.const (Go.Value.slice none 0 0)),type:=29,pos := "", after:=#[],guard:=none },{ dst:=some 6,op:=Go.Op.assign (Go.Operand.const (Go.Value.int Go.IntKind.i64 0)),type:=22,pos := "", after:=#[],guard:=none }]
abbrev xb:Array Oper:=#[{ dst:=some 7,op:=Go.Op.call { callee:=Go.Callee.value (Go.Operand.func 60),args:=#[Go.Operand.tmp 0],argTypes:=#[29] },type:=3,pos := "", after:=#[],guard:=none }]
abbrev xc:Array Oper:=#[{ dst:=some 7,op:=Go.Op.call { callee:=Go.Callee.value (Go.Operand.func 60),args:=#[Go.Operand.tmp 1],argTypes:=#[29] },type:=3,pos := "", after:=#[],guard:=none }]
abbrev xd:Array Oper:=#[{ dst:=some 8,op:=Go.Op.buildSlice 50 2 #[(0,Go.Operand.tmp 0),(1,Go.Operand.tmp 1)],type:=50,pos := "", after:=#[],guard:=none },{ dst:=some 9,op:=Go.Op.call { callee:=Go.Callee.value (Go.Operand.func 49),args:=#[Go.Operand.tmp 8],argTypes:=#[50] },type:=22,pos := "", after:=#[{ on:=0,ground:=Go.Ground.data }],guard:=none }]
abbrev xe:Array Oper:=#[{ dst:=some 10,op:=Go.Op.binOp Go.BinOp.neq 22 (Go.Operand.tmp 9) (Go.Operand.const (Go.Value.int Go.IntKind.i64 0)) 22,type:=4,pos := "", after:=#[],guard:=none }]
abbrev xf:Array Oper:=#[{ dst:=some 4,op:=Go.Op.assign (Go.Operand.const (Go.Value.slice none 0 0)),type:=29,pos := "", after:=#[],guard:=none },{ dst:=some 5,op:=Go.Op.assign (Go.Operand.const (Go.Value.slice none 0 0)),type:=29,pos := "", after:=#[],guard:=none },{ dst:=some 6,op:=Go.Op.assign (Go.Operand.tmp 9),type:=22,pos := "", after:=#[],guard:=none }]
abbrev xg:Array Oper:=#[{ dst:=some 11,op:=Go.Op.call { callee:=Go.Callee.value (Go.Operand.func 63),args:=#[Go.Operand.tmp 0,Go.Operand.tmp 1],argTypes:=#[29,29] },type:=29,pos := "", after:=#[],guard:=none }]
abbrev xh:Array Oper:=#[{ dst:=some 12,op:=Go.Op.call { callee:=Go.Callee.value (Go.Operand.func 65),args:=#[Go.Operand.tmp 0,Go.Operand.tmp 1],argTypes:=#[29,29] },type:=29,pos := "", after:=#[],guard:=none }]
abbrev xi:Array Oper:=#[{ dst:=some 13,op:=Go.Op.assign (Go.Operand.const (Go.Value.slice none 0 0)),type:=29,pos := "", after:=#[],guard:=none }]
abbrev xj:Array Oper:=#[{ dst:=some 14,op:=Go.Op.call { callee:=Go.Callee.builtin Go.Builtin.append,args:=#[Go.Operand.tmp 13,Go.Operand.tmp 11],argTypes:=#[29,29] },type:=29,pos := "", after:=#[],guard:=none }]
abbrev xk:Array Oper:=#[{ dst:=some 15,op:=Go.Op.call { callee:=Go.Callee.builtin Go.Builtin.append,args:=#[Go.Operand.tmp 13,Go.Operand.tmp 12],argTypes:=#[29,29] },type:=29,pos := "", after:=#[],guard:=none }]
abbrev xm:Array Oper:=#[{ dst:=some 4,op:=Go.Op.assign (Go.Operand.tmp 14),type:=29,pos := "", after:=#[],guard:=none },{ dst:=some 5,op:=Go.Op.assign (Go.Operand.tmp 15),type:=29,pos := "", after:=#[],guard:=none },{ dst:=some 6,op:=Go.Op.assign (Go.Operand.const (Go.Value.int Go.IntKind.i64 0)),type:=22,pos := "", after:=#[],guard:=none }]
abbrev xS:Code:=((Go.Code.region 6 xg false).seq ((Go.Code.region 7 xh false).seq ((Go.Code.region 8 xi false).seq ((Go.Code.region 9 xj false).seq ((Go.Code.region 10 xk false).seq ((Go.Code.region 11 xm false).seq Go.Code.ret))))))
abbrev xR:Code:=((Go.Code.region 3 xd false).seq (((Go.Code.region 4 xe false).seq (Go.Code.cond (Go.Operand.tmp 10) ((Go.Code.region 5 xf false).seq Go.Code.ret) Go.Code.skip)).seq xS))
abbrev xB:Code:=((Go.Code.region 0 xa false).seq ((Go.Code.region 1 xb false).seq ((Go.Code.region 2 xc false).seq xR)))
theorem body34x:Tra.f34.body=some xB:=rfl
abbrev xa0:Oper:=xa[0]'(by decide)
abbrev xa1:Oper:=xa[1]'(by decide)
abbrev xa2:Oper:=xa[2]'(by decide)
abbrev xb0:Oper:=xb[0]'(by decide)
abbrev xc0:Oper:=xc[0]'(by decide)
abbrev xd0:Oper:=xd[0]'(by decide)
abbrev xd1:Oper:=xd[1]'(by decide)
abbrev xe0:Oper:=xe[0]'(by decide)
abbrev xf0:Oper:=xf[0]'(by decide)
abbrev xf1:Oper:=xf[1]'(by decide)
abbrev xf2:Oper:=xf[2]'(by decide)
abbrev xg0:Oper:=xg[0]'(by decide)
abbrev xh0:Oper:=xh[0]'(by decide)
abbrev xi0:Oper:=xi[0]'(by decide)
abbrev xj0:Oper:=xj[0]'(by decide)
abbrev xk0:Oper:=xk[0]'(by decide)
abbrev xm0:Oper:=xm[0]'(by decide)
abbrev xm1:Oper:=xm[1]'(by decide)
abbrev xm2:Oper:=xm[2]'(by decide)
theorem hands34 (va vb:Value):Frame.enter Tra.prog 34 #[va,vb] .normal=(base 34).at ⟨#[va,vb,undef,undef,undef,undef,undef,undef,undef,undef,undef,undef,undef,undef,undef,undef,undef,undef],[]⟩ [.code xB]:=by
 rw [enter_at _ Tra.func34 body34x,Tra.ntmps34];rfl
abbrev St34 (c:Frame) (cs:List Frame) (tm:Array Value) (k:List Item):Goroutine:=G ((base 34).at ⟨tm,[]⟩ k) (c :: (cs ++ [c0]))
section
variable {Post:FuncId->Array Value->World->Prop} {g0:Goroutine} {u0 u:World} {c:Frame} {cs:List Frame}
def yej (u:World) (v:Value):Prop:=∃ a n cp,v=.slice a n cp∧n≤cp∧n≤9223372036854775807∧∀ j,j<n->∃ ad x,a=some ad∧u.cell? (ad.add j)=some (.int .i64 x)
theorem in34 (hP:∀ f t u τ,Post f t u->Post f t (retape u τ)) (hcs:∀ x ∈ c :: cs,x.defers=[]) {va vb:Value} (hsa:∀ a n cp,va=.slice a n cp->yai u a) (hsb:∀ a n cp,vb=.slice a n cp->yai u a)
  (h:At Tra.prog Post g0 u0 (G (Frame.enter Tra.prog 34 #[va,vb] .normal) (c :: (cs ++ [c0]))) u) :
  yej u va∧yej u vb∧∃ s:Int,At Tra.prog Post g0 u0 (St34 c cs #[va,vb,undef,undef,.slice none 0 0,.slice none 0 0,.int .i64 0,.int .i64 s,undef,undef,undef,undef,undef,undef,undef,undef,undef,undef] [.code xR]) u:=by
 rw [hands34] at h;replace h:=h.go hP stepG_seq rfl;replace h:=h.go hP stepG_region rfl;replace h:At Tra.prog Post g0 u0 (St34 c cs #[va,vb,undef,undef,.slice none 0 0,undef,undef,undef,undef,undef,undef,undef,undef,undef,undef,undef,undef,undef] _) u:=h.go hP (stepG_value (o:=xa0) rfl rfl (by decide) (w':=u) (v:=.slice none 0 0) (by unfold execOp;simp [go_sem,Act.eval])) rfl;replace h:At Tra.prog Post g0 u0 (St34 c cs #[va,vb,undef,undef,.slice none 0 0,.slice none 0 0,undef,undef,undef,undef,undef,undef,undef,undef,undef,undef,undef,undef] _) u:=h.go hP (stepG_value (o:=xa1) rfl rfl (by decide) (w':=u) (v:=.slice none 0 0) (by unfold execOp;simp [go_sem,Act.eval])) rfl;replace h:At Tra.prog Post g0 u0 (St34 c cs #[va,vb,undef,undef,.slice none 0 0,.slice none 0 0,.int .i64 0,undef,undef,undef,undef,undef,undef,undef,undef,undef,undef,undef] _) u:=h.go hP (stepG_value (o:=xa2) rfl rfl (by decide) (w':=u) (v:=.int .i64 0) (by unfold execOp;simp [go_sem,Act.eval])) rfl;replace h:=h.go hP stepG_region_end rfl;replace h:=h.go hP stepG_seq rfl;replace h:=h.go hP stepG_region rfl;have e0:(execOp (Act.eval ⟨#[va,vb,undef,undef,.slice none 0 0,.slice none 0 0,.int .i64 0,undef,undef,undef,undef,undef,undef,undef,undef,undef,undef,undef],[]⟩) xb0).run Tra.prog u=.ok (.enter 60 #[va]) u:=by unfold execOp;simp [go_sem,Act.eval,Tra.call60]
 replace h:=h.go hP (stepG_enter (o:=xb0) rfl rfl (by decide) e0) rfl;obtain ⟨a0,n0,c0x,i0,j0,k0,l0,s0,h⟩:=ycf (cs:=c :: cs) hP (by intro x hx;rcases List.mem_cons.1 hx with rfl|hx;exact rfl;exact hcs x hx) hsa h;replace h:At Tra.prog Post g0 u0 (St34 c cs #[va,vb,undef,undef,.slice none 0 0,.slice none 0 0,.int .i64 0,.int .i64 s0,undef,undef,undef,undef,undef,undef,undef,undef,undef,undef] (.inRegion xb [] :: _)) u:=h;replace h:=h.go hP stepG_region_end rfl;replace h:=h.go hP stepG_seq rfl;replace h:=h.go hP stepG_region rfl;have e1:(execOp (Act.eval ⟨#[va,vb,undef,undef,.slice none 0 0,.slice none 0 0,.int .i64 0,.int .i64 s0,undef,undef,undef,undef,undef,undef,undef,undef,undef,undef],[]⟩) xc0).run Tra.prog u=.ok (.enter 60 #[vb]) u:=by unfold execOp;simp [go_sem,Act.eval,Tra.call60]
 replace h:=h.go hP (stepG_enter (o:=xc0) rfl rfl (by decide) e1) rfl;obtain ⟨a1,n1,c1,i1,j1,k1,l1,s1,h⟩:=ycf (cs:=c :: cs) hP (by intro x hx;rcases List.mem_cons.1 hx with rfl|hx;exact rfl;exact hcs x hx) hsb h;replace h:At Tra.prog Post g0 u0 (St34 c cs #[va,vb,undef,undef,.slice none 0 0,.slice none 0 0,.int .i64 0,.int .i64 s1,undef,undef,undef,undef,undef,undef,undef,undef,undef,undef] (.inRegion xc [] :: _)) u:=h;replace h:=h.go hP stepG_region_end rfl;exact ⟨⟨a0,n0,c0x,i0,j0,k0,l0⟩,⟨a1,n1,c1,i1,j1,k1,l1⟩,s1,h⟩
end
section
variable {Post:FuncId->Array Value->World->Prop} {g0:Goroutine} {u0 u:World} {c:Frame} {cs:List Frame} {a b:Option Addr} {la lb r0 r1:List Int} {ca cb k cap0 cap1:Nat} {er s:Int}
def Made (u u':World) (xs:List Int) (cap:Nat) (y:Value):Prop:=(xs=[]∧y=.slice none 0 0∧u'.heap=u.heap)∨(xs≠[]∧y=.slice (some ⟨u.heap.size,0,none⟩) xs.length cap∧u'.heap=u.heap.push (.cells (rowA xs cap) 3 (0,0)))
structure Old (u u':World):Prop where
 os:u'.os=u.os
 output:u'.output=u.output
 size:u.heap.size≤u'.heap.size
 block:∀ b,b<u.heap.size->u'.heap[b]?=u.heap[b]?
theorem y8n {u u':World} {a:Act} {o:Oper} {s x:Operand} {v y:Value} (ho:o.op=.call { callee:=.builtin .append,args:=#[s,x],argTypes:=#[29,29] }) (ht:o.type=29) (hs:a.eval s=.slice none 0 0) (hx:a.eval x=v) (hr:(Builtin.append_ #[29,29] 29 #[.slice none 0 0,v]).run Tra.prog u=.ok y u'):(execOp a.eval o).run Tra.prog u=.ok (.value y) u':=by
 unfold execOp;simp only [ho,ht,resolve,invoke,builtin,Sem.run_bind,Sem.run_pure,Result.andThen_ok,List.map_toArray,List.map_cons,List.map_nil,hs,hx,hr]
theorem pair_C {u:World} {B:Nat} {fr:Nat × Nat} {a b:Option Addr} {la lb:List Int} {ca cb:Nat} (hB:u.heap[B]?=some (.cells #[.slice a la.length ca,.slice b lb.length cb] 29 fr)) (ha:Kd.C (Kd.int .i64) u a la.length la) (hca:la.length≤ca) (hb:Kd.C (Kd.int .i64) u b lb.length lb) (hcb:lb.length≤cb):Kd.C (Kd.slice 3 (Kd.int .i64)) u (some ⟨B,0,none⟩) 2 [la,lb]:=by
 refine ⟨rfl,by decide,fun _=>⟨_,rfl,fun j p hj=>?_⟩⟩;have e:(Kd.slice 3 (Kd.int .i64)).sz=1:=rfl;have key:∀ (c:Option Addr) (cc:Nat) (zs:List Int) (j:Nat),Kd.C (Kd.int .i64) u c zs.length zs->zs.length≤cc->(#[Value.slice a la.length ca,.slice b lb.length cb]:Array Value)[j]?=some (.slice c zs.length cc)->∃ c,c.length=1∧(Kd.slice 3 (Kd.int .i64)).K u zs c∧∀ i v,c[i]?=some v->u.cell? ((⟨B,0,none⟩:Addr).add (j * 1+i))=some v:=by
  intro c cc zs j hc hz hj;refine ⟨[.slice c zs.length cc],rfl,⟨c,cc,rfl,hz,hc⟩,fun i v hi=>?_⟩;have hi0:i=0:=by
   have:=(List.getElem?_eq_some_iff.1 hi).1;simp at this;omega
  subst hi0;rw [y14,cell_of_row u B _ _ 29 _ hB,Nat.mul_one,Nat.add_zero,hj];simpa using hi
 rcases j with _|_|j
 ·injection hj with hj
  subst hj;exact key a ca _ 0 ha hca rfl
 ·have hj':lb=p:=by simpa using hj
  subst hj';exact key b cb _ 1 hb hcb rfl
 ·simp at hj
theorem Old.trans {u u1 u2:World} (h:Old u u1) (k:Old u1 u2):Old u u2:=⟨k.os.trans h.os,k.output.trans h.output,Nat.le_trans h.size k.size,fun b hb=>(k.block b (Nat.lt_of_lt_of_le hb h.size)).trans (h.block b hb)⟩
theorem Old.of_below {u u':World} (h:Below u.heap.size u u'):Old u u':=⟨h.os,h.output,h.size,h.block⟩
theorem Made.old {u u':World} {xs:List Int} {cap:Nat} {y:Value} (h:Made u u' xs cap y) (h1:u'.os=u.os) (h2:u'.output=u.output):Old u u':=by
 rcases h with ⟨_,_,h⟩|⟨_,_,h⟩
 ·exact ⟨h1,h2,by rw [h];exact zLe _,fun b _=>by rw [h]⟩
 ·exact ⟨h1,h2,by rw [h,Array.size_push];omega,fun b hb=>by rw [h,Array.getElem?_push,if_neg (by omega)]⟩
theorem ydg {u u':World} {B:Nat} {v:Value} {xs:List Int} (h:Ext.OwnI u B v xs) (k:Old u u'):Ext.OwnI u' B v xs:=h.move fun g hg=>k.block g (h.lt g hg).2
theorem out34 (hP:∀ f t u τ,Post f t u->Post f t (retape u τ)) (hla:∀ w,Old u w->Kd.C (Kd.int .i64) w a la.length la) (hca:la.length≤ca) (hlb:∀ w,Old u w->Kd.C (Kd.int .i64) w b lb.length lb) (hcb:lb.length≤cb)
  (hrd:mobs_read.f k [la,lb]=some er) (hb0:er=0->mobs_below.f k la lb=some r0) (hb1:er=0->mobs_above.f la lb=some r1) (hn0:r0.length<17592186044416) (hn1:r1.length<17592186044416) (hc0:r0.length≤cap0∧cap0≤maxLen) (hc1:r1.length≤cap1∧cap1≤maxLen)
  (h:At Tra.prog Post g0 u0 (St34 c cs #[.slice a la.length ca,.slice b lb.length cb,undef,undef,.slice none 0 0,.slice none 0 0,.int .i64 0,.int .i64 s,undef,undef,undef,undef,undef,undef,undef,undef,undef,undef] [.code xR]) u) :
  ∃ u' y,At Tra.prog Post g0 u0 (G (c.finish y) (cs ++ [c0])) u'∧((er≠0∧y=.tuple #[.slice none 0 0,.slice none 0 0,.int .i64 er]∧Old u u') ∨
   (er=0∧∃ y0 y1 u1 u2,y=.tuple #[y0,y1,.int .i64 0]∧Old u u1∧Made u1 u2 r0 cap0 y0∧u2.os=u1.os∧u2.output=u1.output∧Made u2 u' r1 cap1 y1∧u'.os=u2.os∧u'.output=u2.output)):=by
 replace h:=h.go hP stepG_seq rfl;replace h:=h.go hP stepG_region rfl;obtain ⟨ub,hub⟩:∃ ub,ub=u.alloc (.cells #[.slice a la.length ca,.slice b lb.length cb] 29 (0,0)):=⟨_,rfl⟩
 have hob:Old u ub:=by rw [hub];exact ⟨rfl,rfl,by rw [y0g];omega,fun b hb=>y82 u _ hb⟩
 have hgb:ub.heap[u.heap.size]?=some (.cells #[.slice a la.length ca,.slice b lb.length cb] 29 (0,0)):=by rw [hub];exact heap_alloc_new u _
 have ed:(execOp (Act.eval ⟨#[.slice a la.length ca,.slice b lb.length cb,undef,undef,.slice none 0 0,.slice none 0 0,.int .i64 0,.int .i64 s,undef,undef,undef,undef,undef,undef,undef,undef,undef,undef],[]⟩) xd0).run Tra.prog u=.ok (.value (.slice (some ⟨u.heap.size,0,none⟩) 2 2)) ub:=by
  rw [hub];unfold execOp;simp [go_sem,Act.eval,Tra.isAgg29,Tra.runUnderlying29,Tra.sizeOf29,Tra.zeroValue29,Tra.runUnderlying50]
 replace h:At Tra.prog Post g0 u0 (St34 c cs #[.slice a la.length ca,.slice b lb.length cb,undef,undef,.slice none 0 0,.slice none 0 0,.int .i64 0,.int .i64 s,.slice (some ⟨u.heap.size,0,none⟩) 2 2,undef,undef,undef,undef,undef,undef,undef,undef,undef] _) ub:=h.go hP (stepG_value (o:=xd0) rfl rfl (by decide) (w':=ub) (v:=.slice (some ⟨u.heap.size,0,none⟩) 2 2) (ed)) (by rw [hub];rfl);have ee:(execOp (Act.eval ⟨#[.slice a la.length ca,.slice b lb.length cb,undef,undef,.slice none 0 0,.slice none 0 0,.int .i64 0,.int .i64 s,.slice (some ⟨u.heap.size,0,none⟩) 2 2,undef,undef,undef,undef,undef,undef,undef,undef,undef],[]⟩) xd1).run Tra.prog ub=.ok (.enter 49 #[.slice (some ⟨u.heap.size,0,none⟩) 2 2]) ub:=by unfold execOp;simp [go_sem,Act.eval,Tra.call49]
 replace h:=h.go hP (stepG_enter (o:=xd1) rfl rfl (by decide) ee) rfl;have hC:=mobs_read.calls k (some ⟨u.heap.size,0,none⟩) 2 [la,lb] er ub (pair_C hgb (hla ub hob) hca (hlb ub hob) hcb) (by simp) hrd;obtain ⟨v9,u3,⟨rfl,hB3⟩,h⟩:=At.calls hP h (Q:=fun v w'=>v=.int .i64 er∧Below ub.heap.size ub w') (hC.mono fun e w' hp=>⟨_,hp.1,rfl,hp.2⟩);have ho3:Old u u3:=hob.trans (Old.of_below hB3);replace h:At Tra.prog Post g0 u0 (St34 c cs #[.slice a la.length ca,.slice b lb.length cb,undef,undef,.slice none 0 0,.slice none 0 0,.int .i64 0,.int .i64 s,.slice (some ⟨u.heap.size,0,none⟩) 2 2,.int .i64 er,undef,undef,undef,undef,undef,undef,undef,undef] (.inRegion xd [] :: _)) u3:=h;replace h:=h.go hP stepG_region_end rfl;replace h:=h.go hP stepG_seq rfl;replace h:=h.go hP stepG_seq rfl;replace h:=h.go hP stepG_region rfl;replace h:At Tra.prog Post g0 u0 (St34 c cs #[.slice a la.length ca,.slice b lb.length cb,undef,undef,.slice none 0 0,.slice none 0 0,.int .i64 0,.int .i64 s,.slice (some ⟨u.heap.size,0,none⟩) 2 2,.int .i64 er,.bool (decide (er≠0)),undef,undef,undef,undef,undef,undef,undef] _) u3:=h.go hP (stepG_value (o:=xe0) rfl rfl (by decide) (w':=u3) (v:=.bool (decide (er≠0))) (by unfold execOp;simp [go_sem,Act.eval,Tra.runUnderlying22];rfl)) rfl;replace h:=h.go hP stepG_region_end rfl;replace h:=h.go hP (stepG_cond (t:=decide (er≠0)) rfl) rfl
 by_cases he:er≠0
 ·rw [zDt he] at h
  replace h:=h.go hP stepG_seq rfl;replace h:=h.go hP stepG_region rfl;replace h:At Tra.prog Post g0 u0 (St34 c cs #[.slice a la.length ca,.slice b lb.length cb,undef,undef,.slice none 0 0,.slice none 0 0,.int .i64 0,.int .i64 s,.slice (some ⟨u.heap.size,0,none⟩) 2 2,.int .i64 er,.bool true,undef,undef,undef,undef,undef,undef,undef] _) u3:=h.go hP (stepG_value (o:=xf0) rfl rfl (by decide) (w':=u3) (v:=.slice none 0 0) (by unfold execOp;simp [go_sem,Act.eval])) rfl;replace h:At Tra.prog Post g0 u0 (St34 c cs #[.slice a la.length ca,.slice b lb.length cb,undef,undef,.slice none 0 0,.slice none 0 0,.int .i64 0,.int .i64 s,.slice (some ⟨u.heap.size,0,none⟩) 2 2,.int .i64 er,.bool true,undef,undef,undef,undef,undef,undef,undef] _) u3:=h.go hP (stepG_value (o:=xf1) rfl rfl (by decide) (w':=u3) (v:=.slice none 0 0) (by unfold execOp;simp [go_sem,Act.eval])) rfl;replace h:At Tra.prog Post g0 u0 (St34 c cs #[.slice a la.length ca,.slice b lb.length cb,undef,undef,.slice none 0 0,.slice none 0 0,.int .i64 er,.int .i64 s,.slice (some ⟨u.heap.size,0,none⟩) 2 2,.int .i64 er,.bool true,undef,undef,undef,undef,undef,undef,undef] _) u3:=h.go hP (stepG_value (o:=xf2) rfl rfl (by decide) (w':=u3) (v:=.int .i64 er) (by unfold execOp;simp [go_sem,Act.eval])) rfl;replace h:=h.go hP stepG_region_end rfl;replace h:=h.go hP stepG_ret' rfl;have e9:∀ td,stepG Tra.prog true (G { (base 34).at ⟨#[.slice a la.length ca,.slice b lb.length cb,undef,undef,.slice none 0 0,.slice none 0 0,.int .i64 er,.int .i64 s,.slice (some ⟨u.heap.size,0,none⟩) 2 2,.int .i64 er,.bool true,undef,undef,undef,undef,undef,undef,undef],[]⟩ td with mode:=.returning } (c :: (cs ++ [c0]))) u3=.go (G (c.finish (.tuple #[.slice none 0 0,.slice none 0 0,.int .i64 er])) (cs ++ [c0])) u3:=fun td=>y1s (i:=4) (j:=5) (k:=6) rfl rfl Tra.func34 (by kernel_rfl)
  exact ⟨u3,_,h.go hP (e9 _) rfl,.inl ⟨he,rfl,ho3⟩⟩
 have he0:er=0:=by omega
 rw [zDf he] at h;replace h:=h.go hP stepG_skip rfl;replace h:=h.go hP stepG_seq rfl;replace h:=h.go hP stepG_region rfl;have eg:(execOp (Act.eval ⟨#[.slice a la.length ca,.slice b lb.length cb,undef,undef,.slice none 0 0,.slice none 0 0,.int .i64 0,.int .i64 s,.slice (some ⟨u.heap.size,0,none⟩) 2 2,.int .i64 er,.bool false,undef,undef,undef,undef,undef,undef,undef],[]⟩) xg0).run Tra.prog u3=.ok (.enter 63 #[.slice a la.length ca,.slice b lb.length cb]) u3:=by unfold execOp;simp [go_sem,Act.eval,Tra.call63]
 replace h:=h.go hP (stepG_enter (o:=xg0) rfl rfl (by decide) eg) rfl;obtain ⟨v11,u4,⟨hO4,hB4⟩,h⟩:=At.calls hP h (Q:=fun v w'=>Ext.OwnI w' u3.heap.size v r0∧Below u3.heap.size u3 w') ((mobs_below.flat k a ca la b cb lb r0 u3 (hla u3 ho3) hca (hlb u3 ho3) hcb (hb0 he0)).mono fun e w' ⟨v,he,hO,hB⟩=>⟨v,he,hO,hB⟩);have ho4:Old u u4:=ho3.trans (Old.of_below hB4);replace h:At Tra.prog Post g0 u0 (St34 c cs #[.slice a la.length ca,.slice b lb.length cb,undef,undef,.slice none 0 0,.slice none 0 0,.int .i64 0,.int .i64 s,.slice (some ⟨u.heap.size,0,none⟩) 2 2,.int .i64 er,.bool false,v11,undef,undef,undef,undef,undef,undef] (.inRegion xg [] :: _)) u4:=h;replace h:=h.go hP stepG_region_end rfl;replace h:=h.go hP stepG_seq rfl;replace h:=h.go hP stepG_region rfl;have eh:(execOp (Act.eval ⟨#[.slice a la.length ca,.slice b lb.length cb,undef,undef,.slice none 0 0,.slice none 0 0,.int .i64 0,.int .i64 s,.slice (some ⟨u.heap.size,0,none⟩) 2 2,.int .i64 er,.bool false,v11,undef,undef,undef,undef,undef,undef],[]⟩) xh0).run Tra.prog u4=.ok (.enter 65 #[.slice a la.length ca,.slice b lb.length cb]) u4:=by unfold execOp;simp [go_sem,Act.eval,Tra.call65]
 replace h:=h.go hP (stepG_enter (o:=xh0) rfl rfl (by decide) eh) rfl;obtain ⟨v12,u5,⟨hO5,hB5⟩,h⟩:=At.calls hP h (Q:=fun v w'=>Ext.OwnI w' u4.heap.size v r1∧Below u4.heap.size u4 w') ((mobs_above.own a ca la b cb lb r1 u4 (hla u4 ho4) hca (hlb u4 ho4) hcb (hb1 he0)).mono fun e w' ⟨v,he,hO,hB⟩=>⟨v,he,hO,hB⟩);have ho45:=Old.of_below hB5;have ho5:Old u u5:=ho4.trans ho45;have hO4':=ydg hO4 ho45;replace h:At Tra.prog Post g0 u0 (St34 c cs #[.slice a la.length ca,.slice b lb.length cb,undef,undef,.slice none 0 0,.slice none 0 0,.int .i64 0,.int .i64 s,.slice (some ⟨u.heap.size,0,none⟩) 2 2,.int .i64 er,.bool false,v11,v12,undef,undef,undef,undef,undef] (.inRegion xh [] :: _)) u5:=h;replace h:=h.go hP stepG_region_end rfl;replace h:=h.go hP stepG_seq rfl;replace h:=h.go hP stepG_region rfl;replace h:At Tra.prog Post g0 u0 (St34 c cs #[.slice a la.length ca,.slice b lb.length cb,undef,undef,.slice none 0 0,.slice none 0 0,.int .i64 0,.int .i64 s,.slice (some ⟨u.heap.size,0,none⟩) 2 2,.int .i64 er,.bool false,v11,v12,.slice none 0 0,undef,undef,undef,undef] _) u5:=h.go hP (stepG_value (o:=xi0) rfl rfl (by decide) (w':=u5) (v:=.slice none 0 0) (by unfold execOp;simp [go_sem,Act.eval])) rfl;replace h:=h.go hP stepG_region_end rfl;replace h:=h.go hP stepG_seq rfl;replace h:=h.go hP stepG_region rfl;obtain ⟨τ1,y0,u6,er6,hs6,hp6,hm6⟩:=ycx hO4' hc0.1 hc0.2 hn0;have ej:(execOp (Act.eval ⟨#[.slice a la.length ca,.slice b lb.length cb,undef,undef,.slice none 0 0,.slice none 0 0,.int .i64 0,.int .i64 s,.slice (some ⟨u.heap.size,0,none⟩) 2 2,.int .i64 er,.bool false,v11,v12,.slice none 0 0,undef,undef,undef,undef],[]⟩) xj0).run Tra.prog (retape u5 τ1)=.ok (.value y0) (retape u6 τ1):=y8n (o:=xj0) rfl rfl rfl rfl er6;replace h:At Tra.prog Post g0 u0 (St34 c cs #[.slice a la.length ca,.slice b lb.length cb,undef,undef,.slice none 0 0,.slice none 0 0,.int .i64 0,.int .i64 s,.slice (some ⟨u.heap.size,0,none⟩) 2 2,.int .i64 er,.bool false,v11,v12,.slice none 0 0,y0,undef,undef,undef] (.inRegion xj [] :: _)) u6:=h.go' hP τ1 (stepG_value (o:=xj0) rfl rfl (by decide) ej);have ho56:Old u5 u6:=Made.old hm6 hs6 hp6;have hO5':=ydg hO5 ho56;replace h:=h.go hP stepG_region_end rfl;replace h:=h.go hP stepG_seq rfl;replace h:=h.go hP stepG_region rfl;obtain ⟨τ2,y1,u7,er7,hs7,hp7,hm7⟩:=ycx hO5' hc1.1 hc1.2 hn1;have ek:(execOp (Act.eval ⟨#[.slice a la.length ca,.slice b lb.length cb,undef,undef,.slice none 0 0,.slice none 0 0,.int .i64 0,.int .i64 s,.slice (some ⟨u.heap.size,0,none⟩) 2 2,.int .i64 er,.bool false,v11,v12,.slice none 0 0,y0,undef,undef,undef],[]⟩) xk0).run Tra.prog (retape u6 τ2)=.ok (.value y1) (retape u7 τ2):=y8n (o:=xk0) rfl rfl rfl rfl er7;replace h:At Tra.prog Post g0 u0 (St34 c cs #[.slice a la.length ca,.slice b lb.length cb,undef,undef,.slice none 0 0,.slice none 0 0,.int .i64 0,.int .i64 s,.slice (some ⟨u.heap.size,0,none⟩) 2 2,.int .i64 er,.bool false,v11,v12,.slice none 0 0,y0,y1,undef,undef] (.inRegion xk [] :: _)) u7:=h.go' hP τ2 (stepG_value (o:=xk0) rfl rfl (by decide) ek);replace h:=h.go hP stepG_region_end rfl;replace h:=h.go hP stepG_seq rfl;replace h:=h.go hP stepG_region rfl;replace h:At Tra.prog Post g0 u0 (St34 c cs #[.slice a la.length ca,.slice b lb.length cb,undef,undef,y0,.slice none 0 0,.int .i64 0,.int .i64 s,.slice (some ⟨u.heap.size,0,none⟩) 2 2,.int .i64 er,.bool false,v11,v12,.slice none 0 0,y0,y1,undef,undef] _) u7:=h.go hP (stepG_value (o:=xm0) rfl rfl (by decide) (w':=u7) (v:=y0) (by unfold execOp;simp [go_sem,Act.eval])) rfl;replace h:At Tra.prog Post g0 u0 (St34 c cs #[.slice a la.length ca,.slice b lb.length cb,undef,undef,y0,y1,.int .i64 0,.int .i64 s,.slice (some ⟨u.heap.size,0,none⟩) 2 2,.int .i64 er,.bool false,v11,v12,.slice none 0 0,y0,y1,undef,undef] _) u7:=h.go hP (stepG_value (o:=xm1) rfl rfl (by decide) (w':=u7) (v:=y1) (by unfold execOp;simp [go_sem,Act.eval])) rfl;replace h:At Tra.prog Post g0 u0 (St34 c cs #[.slice a la.length ca,.slice b lb.length cb,undef,undef,y0,y1,.int .i64 0,.int .i64 s,.slice (some ⟨u.heap.size,0,none⟩) 2 2,.int .i64 er,.bool false,v11,v12,.slice none 0 0,y0,y1,undef,undef] _) u7:=h.go hP (stepG_value (o:=xm2) rfl rfl (by decide) (w':=u7) (v:=.int .i64 0) (by unfold execOp;simp [go_sem,Act.eval])) rfl;replace h:=h.go hP stepG_region_end rfl;replace h:=h.go hP stepG_ret' rfl;have e9:∀ td,stepG Tra.prog true (G { (base 34).at ⟨#[.slice a la.length ca,.slice b lb.length cb,undef,undef,y0,y1,.int .i64 0,.int .i64 s,.slice (some ⟨u.heap.size,0,none⟩) 2 2,.int .i64 er,.bool false,v11,v12,.slice none 0 0,y0,y1,undef,undef],[]⟩ td with mode:=.returning } (c :: (cs ++ [c0]))) u7=.go (G (c.finish (.tuple #[y0,y1,.int .i64 0])) (cs ++ [c0])) u7:=fun td=>y1s (i:=4) (j:=5) (k:=6) rfl rfl Tra.func34 (by kernel_rfl)
 exact ⟨u7,_,h.go hP (e9 _) rfl,.inr ⟨he0,y0,y1,u5,u6,rfl,ho5,hm6,hs6,hp6,hm7,hs7,hp7⟩⟩
end
end Go.Mt
namespace Go.Proofs.Ytdhgeondbnpeoaa.P
open Go.RowKit Go.Proofs.Yw.Wd Go.Proofs.Yw.La Go.Proofs.Yw.Mo
attribute [local go_sem] y1b y19 y1q y1p y12 y11 y1a y18
def w6_same.l0:Nat->List Int->List Int->Int->Option (Bool)
 |0,_,_,_=>none
 |k+1,x0,x1,x5=>if x5<(x0.length:Int) then (if 0≤x5 then (if x5<(x1.length:Int) then (if (rd x0 x5)=(rd x1 x5) then (w6_same.l0 k x0 x1 (wrap64 (x5+1))) else (some false)) else (none)) else (none)) else (some true)
def w6_same.f (k:Nat) (l0:List Int) (l1:List Int):Option (Bool):=if (l0.length:Int)=(l1.length:Int) then (w6_same.l0 k l0 l1 0) else (some false)
theorem w6_same.calls (k:Nat) (A0:Option Addr) (c0:Nat) (l0:List Int) (A1:Option Addr) (c1:Nat) (l1:List Int) (r:Bool) (w:World) (hr0:Kd.C (Kd.int .i64) w A0 l0.length l0) (hc0:l0.length≤c0) (hr1:Kd.C (Kd.int .i64) w A1 l1.length l1) (hc1:l1.length≤c1) (h:w6_same.f k l0 l1=some r) :
  Calls Tra.prog 27 #[.slice A0 l0.length c0,.slice A1 l1.length c1] w fun e w'=>e=.returned (.bool r)∧Drawn0 w w':=by
 have HR0:=As0.mk hr0;have HC0:=As0.mk hc0;clear hr0 hc0;have HR1:=As0.mk hr1;have HC1:=As0.mk hc1;clear hr1 hc1;have H:(if (l0.length:Int)=(l1.length:Int) then (w6_same.l0 k l0 l1 0) else (some false))=some r:=h;clear h
 by_cases c3:(l0.length:Int)=(l1.length:Int)
 ·rw [if_pos c3] at H
  have c3b0:((l0.length:Int) == (l1.length:Int))=true:=beq_iff_eq.mpr c3;have c3b1:((l0.length:Int) != (l1.length:Int))=false:=bne_eq_false_iff_eq.mpr c3;have c3b2:(l0.length == l1.length)=true:=by (simp at c3 ⊢;omega)
  clear c3;have H':=As0.mk H;clear H;go_enter Tra.func27,Tra.ntmps27
  go_wp2
  repeat (go_quiet (fail);try go_wp2)
  go_loopg [5] k (fun kq v5 w'=>∃ (x5_1:Int),v5=.int .i64 x5_1∧As0 (w6_same.l0 kq l0 l1 x5_1=some r)∧As0 (kq≤k)∧Drawn0 w w')
  case atStart=>exact ⟨(0),(by rfl),H',⟨zLe _⟩,by repeat (exact Drawn0.refl _)⟩
  case round =>
   clear H'
   try clear c1
   try clear c2
   try clear p2
   try clear c3
   try clear c3b0
   try clear c3b1
   try clear c3b2
   obtain ⟨x5_1,rfl,HA,HK1,⟨m1,rfl⟩⟩:=hrel;cases gk with
   |zero=>exact absurd HA.out (by simp [w6_same.l0])
   |succ k1 =>
    have H:=HA.out;clear HA;simp only [w6_same.l0] at H
    by_cases c4:x5_1<(l0.length:Int)
    ·rw [if_pos c4] at H
     have c4b0:decide (x5_1<(l0.length:Int))=true:=zDt c4;clear c4
     by_cases c5:0≤x5_1
     ·rw [if_pos c5] at H
      have c5b0:decide (0≤x5_1)=true:=zDt c5;clear c5
      by_cases c6:x5_1<(l1.length:Int)
      ·rw [if_pos c6] at H
       have c6b0:decide (x5_1<(l1.length:Int))=true:=zDt c6;clear c6
       by_cases c7:(rd l0 x5_1)=(rd l1 x5_1)
       ·rw [if_pos c7] at H
        have c7b0:((rd l0 x5_1) == (rd l1 x5_1))=true:=beq_iff_eq.mpr c7;have c7b1:((rd l0 x5_1) != (rd l1 x5_1))=false:=bne_eq_false_iff_eq.mpr c7;clear c7;have H':=As0.mk H;clear H;have p178:0≤(x5_1:Int):=zDo (by with_reducible assumption);have q178:x5_1<(l0.length:Int):=zDo (by with_reducible assumption);obtain ⟨ad178,e178,hx178_0⟩:=Kd.at_int HR0.out x5_1 p178 q178;cases e178
        replace p178:=eq_true p178;replace q178:=eq_true q178;have p179:0≤(x5_1:Int):=zDo (by with_reducible assumption);have q179:x5_1<(l1.length:Int):=zDo (by with_reducible assumption);obtain ⟨ad179,e179,hx179_0⟩:=Kd.at_int HR1.out x5_1 p179 q179;cases e179
        replace p179:=eq_true p179;replace q179:=eq_true q179;go_wp2
        repeat (go_quiet (fail);try go_wp2)
        go_roundg k1
        case measure=>have:=HK1.out;omega
        case rel=>exact ⟨(wrap64 (x5_1+1)),(by rfl),H',⟨by have:=HK1.out;omega⟩,by repeat (first|exact Drawn0.refl _|apply Drawn0.step)⟩
       ·rw [if_neg c7] at H
        have c7b0:((rd l0 x5_1) == (rd l1 x5_1))=false:=beq_eq_false_iff_ne.mpr c7;have c7b1:((rd l0 x5_1) != (rd l1 x5_1))=true:=bne_iff_ne.mpr c7;obtain rfl:=zSi H;have p178:0≤(x5_1:Int):=zDo (by with_reducible assumption);have q178:x5_1<(l0.length:Int):=zDo (by with_reducible assumption);obtain ⟨ad178,e178,hx178_0⟩:=Kd.at_int HR0.out x5_1 p178 q178;cases e178
        replace p178:=eq_true p178;replace q178:=eq_true q178;have p179:0≤(x5_1:Int):=zDo (by with_reducible assumption);have q179:x5_1<(l1.length:Int):=zDo (by with_reducible assumption);obtain ⟨ad179,e179,hx179_0⟩:=Kd.at_int HR1.out x5_1 p179 q179;cases e179
        replace p179:=eq_true p179;replace q179:=eq_true q179;go_wp2
        repeat (go_quiet (fail);try go_wp2)
        go_ret
        exact ⟨by rfl,by repeat (first|exact Drawn0.refl _|apply Drawn0.step)⟩
      ·rw [if_neg c6] at H
       exact absurd H (by simp)
     ·rw [if_neg c5] at H
      exact absurd H (by simp)
    ·rw [if_neg c4] at H
     have c4b0:decide (x5_1<(l0.length:Int))=false:=zDf c4;clear c4;obtain rfl:=zSi H;go_wp2
     repeat (go_quiet (fail);try go_wp2)
     go_ret
     exact ⟨by rfl,by repeat (first|exact Drawn0.refl _|apply Drawn0.step)⟩
 ·rw [if_neg c3] at H
  have c3b0:((l0.length:Int) == (l1.length:Int))=false:=beq_eq_false_iff_ne.mpr c3;have c3b1:((l0.length:Int) != (l1.length:Int))=true:=bne_iff_ne.mpr c3;have c3b2:(l0.length == l1.length)=false:=by (simp at c3 ⊢;omega)
  obtain rfl:=zSi H;go_enter Tra.func27,Tra.ntmps27
  go_wp2
  repeat (go_quiet (fail);try go_wp2)
  go_ret
  exact ⟨by rfl,by repeat (exact Drawn0.refl _)⟩
def whole0.l0:Nat->List Int->Int->Int->Option (Int)
 |0,_,_,_=>none
 |k+1,x0,x1,x2=>if x2<(x0.length:Int) then (if 0≤x2 then (whole0.l0 k x0 (wrap64 (x1+(rd x0 x2))) (wrap64 (x2+1))) else (none)) else (some x1)
def whole0.f (k:Nat) (l0:List Int):Option (Int):=whole0.l0 k l0 0 0
theorem whole0.calls (k:Nat) (A0:Option Addr) (c0:Nat) (l0:List Int) (r:Int) (w:World) (hr0:Kd.C (Kd.int .i64) w A0 l0.length l0) (hc0:l0.length≤c0) (h:whole0.f k l0=some r) :
  Calls Tra.prog 60 #[.slice A0 l0.length c0] w fun e w'=>e=.returned (.int .i64 r)∧Drawn0 w w':=by
 have HR0:=As0.mk hr0;have HC0:=As0.mk hc0;clear hr0 hc0;have H:(whole0.l0 k l0 0 0)=some r:=h;clear h;have H':=As0.mk H;clear H;go_enter Tra.func60,Tra.ntmps60
 have hq1:(0≤(l0.length:Int))=True:=eq_true (Int.natCast_nonneg _);have hq2:((l0.length:Int)≤(c0:Int))=True:=eq_true (Int.ofNat_le.2 HC0.out);have hq3:(l0.length≤c0)=True:=eq_true HC0.out;go_wp2
 go_loopg [1,2] k (fun kq v1 v2 w'=>∃ (x1_1:Int) (x2_1:Int),v1=.int .i64 x1_1∧v2=.int .i64 x2_1∧As0 (whole0.l0 kq l0 x1_1 x2_1=some r)∧As0 (kq≤k)∧Drawn0 w w')
 case atStart=>exact ⟨(0),(0),(by rfl),(by rfl),H',⟨zLe _⟩,by repeat (exact Drawn0.refl _)⟩
 case round =>
  clear H';obtain ⟨x1_1,x2_1,rfl,rfl,HA,HK1,⟨m1,rfl⟩⟩:=hrel;cases gk with
  |zero=>exact absurd HA.out (by simp [whole0.l0])
  |succ k1 =>
   have H:=HA.out;clear HA;simp only [whole0.l0] at H
   by_cases c2:x2_1<(l0.length:Int)
   ·rw [if_pos c2] at H
    have c2b0:decide (x2_1<(l0.length:Int))=true:=zDt c2;clear c2
    by_cases c3:0≤x2_1
    ·rw [if_pos c3] at H
     have c3b0:decide (0≤x2_1)=true:=zDt c3;clear c3;have H':=As0.mk H;clear H;have p180:0≤(x2_1:Int):=zDo (by with_reducible assumption);have q180:x2_1<(l0.length:Int):=zDo (by with_reducible assumption);obtain ⟨ad180,e180,hx180_0⟩:=Kd.at_int HR0.out x2_1 p180 q180;cases e180
     replace p180:=eq_true p180;replace q180:=eq_true q180;go_wp2
     go_roundg k1
     case measure=>have:=HK1.out;omega
     case rel=>exact ⟨(wrap64 (x1_1+(rd l0 x2_1))),(wrap64 (x2_1+1)),(by rfl),(by rfl),H',⟨by have:=HK1.out;omega⟩,by repeat (first|exact Drawn0.refl _|apply Drawn0.step)⟩
    ·rw [if_neg c3] at H
     exact absurd H (by simp)
   ·rw [if_neg c2] at H
    have c2b0:decide (x2_1<(l0.length:Int))=false:=zDf c2;clear c2;obtain rfl:=zSi H;go_wp2
    go_ret
    exact ⟨by rfl,by repeat (first|exact Drawn0.refl _|apply Drawn0.step)⟩
def sync_WaitGroup_Add.f (k:Nat) (l0:List Int):Option (Int):=whole0.f k l0
theorem sync_WaitGroup_Add.calls (k:Nat) (A0:Option Addr) (c0:Nat) (l0:List Int) (r:Int) (w:World) (hr0:Kd.C (Kd.int .i64) w A0 l0.length l0) (hc0:l0.length≤c0) (h:sync_WaitGroup_Add.f k l0=some r) :
  Calls Tra.prog 60 #[.slice A0 l0.length c0] w fun e w'=>e=.returned (.int .i64 r)∧Below w.heap.size w w':=by
 refine (whole0.calls k A0 c0 l0 r w hr0 hc0 h).mono ?_
 rintro e w' ⟨he,hd⟩
 exact ⟨he,hd.below⟩
def mobs_Meet.f (k:Nat) (l0:List Int) (l1:List Int):Option (List Int × List Int × Int):=(sync_WaitGroup_Add.f k l0).bind fun t180=>((sync_WaitGroup_Add.f k l1).bind fun t181=>((mobs_read.f k (([l0,l1]:List (List Int)))).bind fun t185=>(if t185=0 then ((mobs_below.f k l0 l1).bind fun t186=>((mobs_above.f l0 l1).bind fun t189=>(if ([]:List Int).length+t186.length<17592186044416 then (if ([]:List Int).length+t189.length<17592186044416 then (some ((([]:List Int) ++ t186),(([]:List Int) ++ t189),0)) else (none)) else (none)))) else (some (([]:List Int),([]:List Int),t185)))))
theorem mobs_Meet.calls (k:Nat) (P0_:Nat->Prop) (A0:Option Addr) (c0:Nat) (l0:List Int) (P1_:Nat->Prop) (A1:Option Addr) (c1:Nat) (l1:List Int) (r1:List Int) (r2:List Int) (r3:Int) (w:World) (hs0:Kd.V (Kd.int .i64) 3 w w.heap.size (fun k_=>P0_ k_) (.slice A0 l0.length c0) l0) (hs1:Kd.V (Kd.int .i64) 3 w w.heap.size (fun k_=>P1_ k_) (.slice A1 l1.length c1) l1) (h:mobs_Meet.f k l0 l1=some (r1,r2,r3)) :
  Calls Tra.prog 34 #[.slice A0 l0.length c0,.slice A1 l1.length c1] w fun e w'=>∃ v0_ v1_:Value,e=.returned (.tuple #[v0_,v1_,.int .i64 r3])∧Kd.R (Kd.int .i64) 3 w' w.heap.size (fun k_=>(w.heap.size≤k_)∧some k_≠(v1_:Value).ownBlock) v0_ r1∧Kd.R (Kd.int .i64) 3 w' w.heap.size (fun k_=>(w.heap.size≤k_)∧some k_≠(v0_:Value).ownBlock) v1_ r2∧Below w.heap.size w w':=by
 have HO0:=As0.mk (show Kd.V (Kd.int .i64) 3 w w.heap.size (fun k_=>((P0_ k_∨P1_ k_)∨w.heap.size≤k_)) (.slice A0 l0.length c0) l0 from Kd.V_mono hs0 (fun k_ hk=>.inl (.inl hk)));have HO1:=As0.mk (show Kd.V (Kd.int .i64) 3 w w.heap.size (fun k_=>((P0_ k_∨P1_ k_)∨w.heap.size≤k_)) (.slice A1 l1.length c1) l1 from Kd.V_mono hs1 (fun k_ hk=>.inl (.inr hk)));have HB:=As0.mk (Below.refl w.heap.size w);have H:((sync_WaitGroup_Add.f k l0).bind fun t180=>((sync_WaitGroup_Add.f k l1).bind fun t181=>((mobs_read.f k (([l0,l1]:List (List Int)))).bind fun t185=>(if t185=0 then ((mobs_below.f k l0 l1).bind fun t186=>((mobs_above.f l0 l1).bind fun t189=>(if ([]:List Int).length+t186.length<17592186044416 then (if ([]:List Int).length+t189.length<17592186044416 then (some ((([]:List Int) ++ t186),(([]:List Int) ++ t189),0)) else (none)) else (none)))) else (some (([]:List Int),([]:List Int),t185))))))=some (r1,r2,r3):=h;clear h;replace H:=Option.bind_eq_some_iff.mp H;obtain ⟨t180,A30,H⟩:=H;replace H:((sync_WaitGroup_Add.f k l1).bind fun t181=>((mobs_read.f k (([l0,l1]:List (List Int)))).bind fun t185=>(if t185=0 then ((mobs_below.f k l0 l1).bind fun t186=>((mobs_above.f l0 l1).bind fun t189=>(if ([]:List Int).length+t186.length<17592186044416 then (if ([]:List Int).length+t189.length<17592186044416 then (some ((([]:List Int) ++ t186),(([]:List Int) ++ t189),0)) else (none)) else (none)))) else (some (([]:List Int),([]:List Int),t185)))))=some (r1,r2,r3):=H;have A3:=As0.mk A30;clear A30;replace H:=Option.bind_eq_some_iff.mp H;obtain ⟨t181,A40,H⟩:=H;replace H:((mobs_read.f k (([l0,l1]:List (List Int)))).bind fun t185=>(if t185=0 then ((mobs_below.f k l0 l1).bind fun t186=>((mobs_above.f l0 l1).bind fun t189=>(if ([]:List Int).length+t186.length<17592186044416 then (if ([]:List Int).length+t189.length<17592186044416 then (some ((([]:List Int) ++ t186),(([]:List Int) ++ t189),0)) else (none)) else (none)))) else (some (([]:List Int),([]:List Int),t185))))=some (r1,r2,r3):=H;have A4:=As0.mk A40;clear A40;obtain ⟨y182,hy182⟩:∃ y_:List (List Int),y_=(([l0,l1]:List (List Int))):=⟨_,rfl⟩
 replace H:((mobs_read.f k y182).bind fun t185=>(if t185=0 then ((mobs_below.f k l0 l1).bind fun t186=>((mobs_above.f l0 l1).bind fun t189=>(if ([]:List Int).length+t186.length<17592186044416 then (if ([]:List Int).length+t189.length<17592186044416 then (some ((([]:List Int) ++ t186),(([]:List Int) ++ t189),0)) else (none)) else (none)))) else (some (([]:List Int),([]:List Int),t185))))=some (r1,r2,r3):=by (rw [hy182];with_reducible exact H)
 have Ny182:=As0.mk hy182;clear hy182;replace H:=Option.bind_eq_some_iff.mp H;obtain ⟨t185,A50,H⟩:=H;replace H:(if t185=0 then ((mobs_below.f k l0 l1).bind fun t186=>((mobs_above.f l0 l1).bind fun t189=>(if ([]:List Int).length+t186.length<17592186044416 then (if ([]:List Int).length+t189.length<17592186044416 then (some ((([]:List Int) ++ t186),(([]:List Int) ++ t189),0)) else (none)) else (none)))) else (some (([]:List Int),([]:List Int),t185)))=some (r1,r2,r3):=H;have A5:=As0.mk A50;clear A50
 by_cases c6:t185=0
 ·rw [if_pos c6] at H
  have c6b0:(t185 == 0)=true:=beq_iff_eq.mpr c6;have c6b1:(t185 != 0)=false:=bne_eq_false_iff_eq.mpr c6;clear c6;replace H:=Option.bind_eq_some_iff.mp H;obtain ⟨t186,A70,H⟩:=H;replace H:((mobs_above.f l0 l1).bind fun t189=>(if ([]:List Int).length+t186.length<17592186044416 then (if ([]:List Int).length+t189.length<17592186044416 then (some ((([]:List Int) ++ t186),(([]:List Int) ++ t189),0)) else (none)) else (none)))=some (r1,r2,r3):=H;have A7:=As0.mk A70;clear A70;replace H:=Option.bind_eq_some_iff.mp H;obtain ⟨t189,A80,H⟩:=H;replace H:(if ([]:List Int).length+t186.length<17592186044416 then (if ([]:List Int).length+t189.length<17592186044416 then (some ((([]:List Int) ++ t186),(([]:List Int) ++ t189),0)) else (none)) else (none))=some (r1,r2,r3):=H;have A8:=As0.mk A80;clear A80
  by_cases c9:([]:List Int).length+t186.length<17592186044416
  ·rw [if_pos c9] at H
   have LMc9:=As0.mk c9;clear c9;obtain ⟨y192,hy192⟩:∃ y_:List Int,y_=(([]:List Int) ++ t186):=⟨_,rfl⟩
   replace H:(if ([]:List Int).length+t189.length<17592186044416 then (some (y192,(([]:List Int) ++ t189),0)) else (none))=some (r1,r2,r3):=by (rw [hy192];with_reducible exact H)
   have Ny192:=As0.mk hy192;clear hy192
   by_cases c10:([]:List Int).length+t189.length<17592186044416
   ·rw [if_pos c10] at H
    have LMc10:=As0.mk c10;clear c10;obtain ⟨y195,hy195⟩:∃ y_:List Int,y_=(([]:List Int) ++ t189):=⟨_,rfl⟩
    replace H:(some (y192,y195,0))=some (r1,r2,r3):=by (rw [hy195];with_reducible exact H)
    have Ny195:=As0.mk hy195;clear hy195;simp only [Option.some.injEq,Prod.mk.injEq] at H;obtain ⟨rfl,rfl,rfl⟩:=H;go_enter Tra.func34,Tra.ntmps34
    go_wp2_with (first|((with_reducible refine y04 (f:=60) rfl ?_);refine y0h (some 7) rfl rfl Tra.func60 (by kernel_rfl) rfl #[.slice A0 l0.length c0] rfl (by (try simp only [List.map_toArray,List.map_cons,List.map_nil]);rfl) ?_;(with_reducible refine (sync_WaitGroup_Add.calls k _ _ l0 t180 _ ?side1 ?side2 A3.out).mono ?_);(case side1=>repeat (exact (Kd.V_reads' HO0.out).2.2));(case side2=>exact (Kd.V_reads' HO0.out).2.1);rintro e w11 ⟨rfl,hb⟩;refine ⟨_,rfl,?_⟩;have n0_:=As0.mk (Kd.V_below (by (with_reducible repeat (first|apply Kd.V_alloc|apply Kd.V_drewN|apply Kd.V_drew));exact HO0.out) hb);have n1_:=As0.mk (Kd.V_below (by (with_reducible repeat (first|apply Kd.V_alloc|apply Kd.V_drewN|apply Kd.V_drew));exact HO1.out) hb);have n2_:=As0.mk (y05 (by repeat (with_reducible exact HB.out)) hb);clear HO0;clear HO1;clear HB;have HO0:=n0_;have HO1:=n1_;have HB:=n2_;clear n0_ n1_ n2_;(try clear hb);(try clear hb2);(try clear hk);(try clear hi))|((with_reducible refine y04 (f:=60) rfl ?_);refine y0h (some 7) rfl rfl Tra.func60 (by kernel_rfl) rfl #[.slice A1 l1.length c1] rfl (by (try simp only [List.map_toArray,List.map_cons,List.map_nil]);rfl) ?_;(with_reducible refine (sync_WaitGroup_Add.calls k _ _ l1 t181 _ ?side1 ?side2 A4.out).mono ?_);(case side1=>repeat (exact (Kd.V_reads' HO1.out).2.2));(case side2=>exact (Kd.V_reads' HO1.out).2.1);rintro e w12 ⟨rfl,hb⟩;refine ⟨_,rfl,?_⟩;have n0_:=As0.mk (Kd.V_below (by (with_reducible repeat (first|apply Kd.V_alloc|apply Kd.V_drewN|apply Kd.V_drew));exact HO0.out) hb);have n1_:=As0.mk (Kd.V_below (by (with_reducible repeat (first|apply Kd.V_alloc|apply Kd.V_drewN|apply Kd.V_drew));exact HO1.out) hb);have n2_:=As0.mk (y05 (by repeat (with_reducible exact HB.out)) hb);clear HO0;clear HO1;clear HB;have HO0:=n0_;have HO1:=n1_;have HB:=n2_;clear n0_ n1_ n2_;(try clear hb);(try clear hb2);(try clear hk);(try clear hi))|((with_reducible refine y0l (N:=8) rfl ?_);refine Kd.N_lit (Kd.slice 3 (Kd.int .i64)) _ 29 ?hg (N':=8) ?hd (xs:=([l0,l1]:List (List Int))) (inner:=[.slice A0 l0.length c0,.slice A1 l1.length c1]) (ok:=(fun k_=>((P0_ k_∨P1_ k_)∨w.heap.size≤k_))) (okp:=(fun k_=>((P0_ k_∨P1_ k_)∨w.heap.size≤k_))) ?hr ?hp (fun _ hk=>hk) ((show ∀ k_,w12.heap.size≤k_->(fun k_=>((P0_ k_∨P1_ k_)∨w.heap.size≤k_)) k_ from fun k_ hk=>(.inr (Nat.le_trans (y03 (by repeat (with_reducible exact HB.out))) hk))) _ (zLe _)) (Below.refl _ _) (zLe _) (by simp) ?_;(case hd=>rfl);(case hg=>rfl);(case hr=>(go_simp;done));(case hp=>exact (Reps.one (show Kd.FK (Kd.slice 3 (Kd.int .i64)) _ _ l0 [.slice A0 l0.length c0] from (Kd.FK_slice_mk (Kd.V_reads' (Kd.V_mono (ok':=(fun k_=>((P0_ k_∨P1_ k_)∨w.heap.size≤k_))) (HO0.out) (fun k_ hk=>hk))).2.1 (Kd.V_F (Kd.V_mono (ok':=(fun k_=>((P0_ k_∨P1_ k_)∨w.heap.size≤k_))) (HO0.out) (fun k_ hk=>hk))))) (Reps.one (show Kd.FK (Kd.slice 3 (Kd.int .i64)) _ _ l1 [.slice A1 l1.length c1] from (Kd.FK_slice_mk (Kd.V_reads' (Kd.V_mono (ok':=(fun k_=>((P0_ k_∨P1_ k_)∨w.heap.size≤k_))) (HO1.out) (fun k_ hk=>hk))).2.1 (Kd.V_F (Kd.V_mono (ok':=(fun k_=>((P0_ k_∨P1_ k_)∨w.heap.size≤k_))) (HO1.out) (fun k_ hk=>hk))))) (Reps.none _ _))));intro v183 w13 ho14 hb hg_ hnew_;clear hg_ hnew_;(rw [← Ny182.out] at ho14);have n0_:=As0.mk (Kd.V_elder' (by (with_reducible repeat (first|apply Kd.V_alloc|apply Kd.V_drewN|apply Kd.V_drew));exact HO0.out) (Kd.N_base ho14) hb);have n1_:=As0.mk (Kd.V_elder' (by (with_reducible repeat (first|apply Kd.V_alloc|apply Kd.V_drewN|apply Kd.V_drew));exact HO1.out) (Kd.N_base ho14) hb);have n2_:=As0.mk (Kd.N_lower ho14 (y03 (by repeat (with_reducible exact HB.out))));have n3_:=As0.mk (y05 (by repeat (with_reducible exact HB.out)) hb);clear HO0;clear HO1;clear HB;have HO0:=n0_;have HO1:=n1_;have HO184:=n2_;have HB:=n3_;clear n0_ n1_ n2_ n3_;clear hb ho14;obtain ⟨Ao15,co15,eo15⟩:=Kd.N_slice HO184.out;subst eo15)|((with_reducible refine y04 (f:=49) rfl ?_);refine y0h (some 9) rfl rfl Tra.func49 (by kernel_rfl) rfl #[.slice Ao15 y182.length co15] rfl (by (try simp only [List.map_toArray,List.map_cons,List.map_nil]);rfl) ?_;(with_reducible refine (mobs_read.calls k _ _ y182 t185 _ ?side1 ?side2 A5.out).mono ?_);(case side1=>repeat (exact (Kd.N_reads' HO184.out).2.2));(case side2=>exact (Kd.N_reads' HO184.out).2.1);rintro e w16 ⟨rfl,hb⟩;refine ⟨_,rfl,?_⟩;have n0_:=As0.mk (Kd.V_below (by (with_reducible repeat (first|apply Kd.V_alloc|apply Kd.V_drewN|apply Kd.V_drew));exact HO0.out) hb);have n1_:=As0.mk (Kd.V_below (by (with_reducible repeat (first|apply Kd.V_alloc|apply Kd.V_drewN|apply Kd.V_drew));exact HO1.out) hb);have n2_:=As0.mk (Kd.N_below (by (with_reducible repeat (first|apply Kd.N_alloc|apply Kd.N_drewN|apply Kd.N_drew));exact HO184.out) hb);have n3_:=As0.mk (y05 (by repeat (with_reducible exact HB.out)) hb);clear HO0;clear HO1;clear HO184;clear HB;have HO0:=n0_;have HO1:=n1_;have HO184:=n2_;have HB:=n3_;clear n0_ n1_ n2_ n3_;(try clear hb);(try clear hb2);(try clear hk);(try clear hi))|((with_reducible refine y04 (f:=63) rfl ?_);refine y0h (some 11) rfl rfl Tra.func63 (by kernel_rfl) rfl #[.slice A0 l0.length c0,.slice A1 l1.length c1] rfl (by (try simp only [List.map_toArray,List.map_cons,List.map_nil]);rfl) ?_;(with_reducible refine (mobs_below.calls k _ _ l0 _ _ l1 t186 _ ?side1 ?side2 ?side3 ?side4 A7.out).mono ?_);(case side1=>repeat (exact (Kd.V_reads' HO0.out).2.2));(case side2=>exact (Kd.V_reads' HO0.out).2.1);(case side3=>repeat (exact (Kd.V_reads' HO1.out).2.2));(case side4=>exact (Kd.V_reads' HO1.out).2.1);rintro e w17 ⟨v187,rfl,ho0,hb⟩;refine ⟨_,rfl,?_⟩;have n0_:=As0.mk (Kd.V_elder' (by (with_reducible repeat (first|apply Kd.V_alloc|apply Kd.V_drewN|apply Kd.V_drew));exact HO0.out) (Kd.R_base ho0) hb);have n1_:=As0.mk (Kd.V_elder' (by (with_reducible repeat (first|apply Kd.V_alloc|apply Kd.V_drewN|apply Kd.V_drew));exact HO1.out) (Kd.R_base ho0) hb);have n2_:=As0.mk (Kd.N_elder' (by (with_reducible repeat (first|apply Kd.N_alloc|apply Kd.N_drewN|apply Kd.N_drew));exact HO184.out) (Kd.R_base ho0) hb);have n3_:=As0.mk (Kd.R_lower (Kd.R_newM (M:=fun k_=>(w.heap.size≤k_)) ho0 (y03 (by repeat (with_reducible exact HB.out))) (fun k_ h_=>h_)) (y03 (by repeat (with_reducible exact HB.out))));have n4_:=As0.mk (y05 (by repeat (with_reducible exact HB.out)) hb);clear HO0;clear HO1;clear HO184;clear HB;have HO0:=n0_;have HO1:=n1_;have HO184:=n2_;have HO188:=n3_;have HB:=n4_;clear n0_ n1_ n2_ n3_ n4_;(try clear hb);(try clear hb2);(try clear hk);(try clear hi);(try clear ho0))|((with_reducible refine y04 (f:=65) rfl ?_);refine y0h (some 12) rfl rfl Tra.func65 (by kernel_rfl) rfl #[.slice A0 l0.length c0,.slice A1 l1.length c1] rfl (by (try simp only [List.map_toArray,List.map_cons,List.map_nil]);rfl) ?_;(with_reducible refine (mobs_above.calls _ _ l0 _ _ l1 t189 _ ?side1 ?side2 ?side3 ?side4 A8.out).mono ?_);(case side1=>repeat (exact (Kd.V_reads' HO0.out).2.2));(case side2=>exact (Kd.V_reads' HO0.out).2.1);(case side3=>repeat (exact (Kd.V_reads' HO1.out).2.2));(case side4=>exact (Kd.V_reads' HO1.out).2.1);rintro e w18 ⟨v190,rfl,ho0,hb⟩;refine ⟨_,rfl,?_⟩;have n0_:=As0.mk (Kd.V_elder' (by (with_reducible repeat (first|apply Kd.V_alloc|apply Kd.V_drewN|apply Kd.V_drew));exact HO0.out) (Kd.R_base ho0) hb);have n1_:=As0.mk (Kd.V_elder' (by (with_reducible repeat (first|apply Kd.V_alloc|apply Kd.V_drewN|apply Kd.V_drew));exact HO1.out) (Kd.R_base ho0) hb);have n2_:=As0.mk (Kd.N_elder' (by (with_reducible repeat (first|apply Kd.N_alloc|apply Kd.N_drewN|apply Kd.N_drew));exact HO184.out) (Kd.R_base ho0) hb);have n3_:=As0.mk (Kd.R_elder' (by (with_reducible repeat (first|apply Kd.R_alloc|apply Kd.R_drewN|apply Kd.R_drew));exact HO188.out) (Kd.R_base ho0) hb);have n4_:=As0.mk (Kd.R_lower (Kd.R_new' (Kd.R_newM (M:=fun k_=>(w.heap.size≤k_)) ho0 (y03 (by repeat (with_reducible exact HB.out))) (fun k_ h_=>h_)) (Kd.R_lt (by (with_reducible repeat (first|apply Kd.R_alloc|apply Kd.R_drewN|apply Kd.R_drew));exact HO188.out))) (y03 (by repeat (with_reducible exact HB.out))));have n5_:=As0.mk (y05 (by repeat (with_reducible exact HB.out)) hb);clear HO0;clear HO1;clear HO184;clear HO188;clear HB;have HO0:=n0_;have HO1:=n1_;have HO184:=n2_;have HO188:=n3_;have HO191:=n4_;have HB:=n5_;clear n0_ n1_ n2_ n3_ n4_ n5_;(try clear hb);(try clear hb2);(try clear hk);(try clear hi);(try clear ho0);obtain ⟨Ao20,co20,eo20⟩:=Kd.R_slice HO188.out;subst eo20)|((with_reducible refine y0n (b:=.append) (xs:=#[.tmp 13,.tmp 11]) rfl ?_);at_builtin;refine Kd.R_append_rows (Kd.int .i64) (w0:=w) w.heap.size rfl (.tmp 13) (.tmp 11) 29 3 (.int .i64 0) 8 rfl Tra.underlying29 info3 rfl (by decide) (by omega) (.slice none 0 0) ([]:List Int) t186 _ _ _ (fun k_=>(w.heap.size≤k_)∧some k_≠(.slice Ao20 t186.length co20:Value).ownBlock∧some k_≠(v190:Value).ownBlock) (fun _=>False) rfl rfl ?aO ?aR (fun _ _ h=>h) (fun _ h=>h.elim) ?aF ?aB ?aS ?aL ?_;(case aR=>repeat (exact (Kd.R_reads' HO188.out).2.2));(case aB=>exact (by repeat (with_reducible exact HB.out)));(case aF=>exact (fun k_ hk=>⟨(Nat.le_trans (y03 (by repeat (with_reducible exact HB.out))) hk),Kd.fresh' (Kd.R_lt (by (with_reducible repeat (first|apply Kd.R_alloc|apply Kd.R_drewN|apply Kd.R_drew));exact HO188.out)) k_ hk,Kd.fresh' (Kd.R_lt (by (with_reducible repeat (first|apply Kd.R_alloc|apply Kd.R_drewN|apply Kd.R_drew));exact HO191.out)) k_ hk⟩));(case aO=>exact ((Kd.R_nil _ _ _ _ (fun k_=>(w.heap.size≤k_)∧some k_≠(.slice Ao20 t186.length co20:Value).ownBlock∧some k_≠(v190:Value).ownBlock))));(case aS=>exact (y03 (by repeat (with_reducible exact HB.out))));(case aL=>have:=LMc9.out;omega);intro v193 w19 ho hb hg hat;rw [← Ny192.out] at ho;have n0_:=As0.mk (Kd.V_afterv (Kd.V_apart_nil (by (with_reducible repeat (first|apply Kd.V_alloc|apply Kd.V_drewN|apply Kd.V_drew));exact HO0.out)) hg hat);have n1_:=As0.mk (Kd.V_afterv (Kd.V_apart_nil (by (with_reducible repeat (first|apply Kd.V_alloc|apply Kd.V_drewN|apply Kd.V_drew));exact HO1.out)) hg hat);have n2_:=As0.mk (Kd.N_afterv (Kd.N_apart_nil (by (with_reducible repeat (first|apply Kd.N_alloc|apply Kd.N_drewN|apply Kd.N_drew));exact HO184.out)) hg hat);have n3_:=As0.mk (Kd.R_after (Kd.R_apart_nil (by (with_reducible repeat (first|apply Kd.R_alloc|apply Kd.R_drewN|apply Kd.R_drew));exact HO188.out)) hg hat);have n4_:=As0.mk (Kd.R_after (Kd.R_apart_nil (by (with_reducible repeat (first|apply Kd.R_alloc|apply Kd.R_drewN|apply Kd.R_drew));exact HO191.out)) hg hat);have n5_:=As0.mk (hb);have n6_:=As0.mk (ho);clear HO0;clear HO1;clear HO184;clear HO188;clear HO191;clear HB;have HO0:=n0_;have HO1:=n1_;have HO184:=n2_;have HO188:=n3_;have HO191:=n4_;have HB:=n5_;have HO194:=n6_;clear n0_ n1_ n2_ n3_ n4_ n5_ n6_;clear ho hb hg hat;obtain ⟨Ao22,co22,eo22⟩:=Kd.R_slice HO191.out;subst eo22)|((with_reducible refine y0n (b:=.append) (xs:=#[.tmp 13,.tmp 12]) rfl ?_);at_builtin;refine Kd.R_append_rows (Kd.int .i64) (w0:=w) w.heap.size rfl (.tmp 13) (.tmp 12) 29 3 (.int .i64 0) 8 rfl Tra.underlying29 info3 rfl (by decide) (by omega) (.slice none 0 0) ([]:List Int) t189 _ _ _ (fun k_=>(w.heap.size≤k_)∧some k_≠(.slice Ao20 t186.length co20:Value).ownBlock∧some k_≠(.slice Ao22 t189.length co22:Value).ownBlock∧some k_≠(v193:Value).ownBlock) (fun _=>False) rfl rfl ?aO ?aR (fun _ _ h=>h) (fun _ h=>h.elim) ?aF ?aB ?aS ?aL ?_;(case aR=>repeat (exact (Kd.R_reads' HO191.out).2.2));(case aB=>exact (by repeat (with_reducible exact HB.out)));(case aF=>exact (fun k_ hk=>⟨(Nat.le_trans (y03 (by repeat (with_reducible exact HB.out))) hk),Kd.fresh' (Kd.R_lt (by (with_reducible repeat (first|apply Kd.R_alloc|apply Kd.R_drewN|apply Kd.R_drew));exact HO188.out)) k_ hk,Kd.fresh' (Kd.R_lt (by (with_reducible repeat (first|apply Kd.R_alloc|apply Kd.R_drewN|apply Kd.R_drew));exact HO191.out)) k_ hk,Kd.fresh' (Kd.R_lt (by (with_reducible repeat (first|apply Kd.R_alloc|apply Kd.R_drewN|apply Kd.R_drew));exact HO194.out)) k_ hk⟩));(case aO=>exact ((Kd.R_nil _ _ _ _ (fun k_=>(w.heap.size≤k_)∧some k_≠(.slice Ao20 t186.length co20:Value).ownBlock∧some k_≠(.slice Ao22 t189.length co22:Value).ownBlock∧some k_≠(v193:Value).ownBlock))));(case aS=>exact (y03 (by repeat (with_reducible exact HB.out))));(case aL=>have:=LMc10.out;omega);intro v196 w21 ho hb hg hat;rw [← Ny195.out] at ho;have n0_:=As0.mk (Kd.V_afterv (Kd.V_apart_nil (by (with_reducible repeat (first|apply Kd.V_alloc|apply Kd.V_drewN|apply Kd.V_drew));exact HO0.out)) hg hat);have n1_:=As0.mk (Kd.V_afterv (Kd.V_apart_nil (by (with_reducible repeat (first|apply Kd.V_alloc|apply Kd.V_drewN|apply Kd.V_drew));exact HO1.out)) hg hat);have n2_:=As0.mk (Kd.N_afterv (Kd.N_apart_nil (by (with_reducible repeat (first|apply Kd.N_alloc|apply Kd.N_drewN|apply Kd.N_drew));exact HO184.out)) hg hat);have n3_:=As0.mk (Kd.R_after (Kd.R_apart_nil (by (with_reducible repeat (first|apply Kd.R_alloc|apply Kd.R_drewN|apply Kd.R_drew));exact HO188.out)) hg hat);have n4_:=As0.mk (Kd.R_after (Kd.R_apart_nil (by (with_reducible repeat (first|apply Kd.R_alloc|apply Kd.R_drewN|apply Kd.R_drew));exact HO191.out)) hg hat);have n5_:=As0.mk (Kd.R_after (Kd.R_apart_nil (by (with_reducible repeat (first|apply Kd.R_alloc|apply Kd.R_drewN|apply Kd.R_drew));exact HO194.out)) hg hat);have n6_:=As0.mk (hb);have n7_:=As0.mk (ho);clear HO0;clear HO1;clear HO184;clear HO188;clear HO191;clear HO194;clear HB;have HO0:=n0_;have HO1:=n1_;have HO184:=n2_;have HO188:=n3_;have HO191:=n4_;have HO194:=n5_;have HB:=n6_;have HO197:=n7_;clear n0_ n1_ n2_ n3_ n4_ n5_ n6_ n7_;clear ho hb hg hat))
    go_ret3
    exact ⟨_,_,by rfl,by (with_reducible repeat (first|apply Kd.R_alloc|apply Kd.R_drewN|apply Kd.R_drew));exact Kd.R_mono HO194.out (fun _ hk=>⟨hk.1.1,hk.2⟩),by (with_reducible repeat (first|apply Kd.R_alloc|apply Kd.R_drewN|apply Kd.R_drew));exact Kd.R_mono HO197.out (fun _ hk=>⟨hk.1,hk.2.2.2⟩),by repeat (with_reducible exact HB.out)⟩
   ·rw [if_neg c10] at H
    exact absurd H (by simp)
  ·rw [if_neg c9] at H
   exact absurd H (by simp)
 ·rw [if_neg c6] at H
  have c6b0:(t185 == 0)=false:=beq_eq_false_iff_ne.mpr c6;have c6b1:(t185 != 0)=true:=bne_iff_ne.mpr c6;simp only [Option.some.injEq,Prod.mk.injEq] at H;obtain ⟨rfl,rfl,rfl⟩:=H;go_enter Tra.func34,Tra.ntmps34
  go_wp2_with (first|((with_reducible refine y04 (f:=60) rfl ?_);refine y0h (some 7) rfl rfl Tra.func60 (by kernel_rfl) rfl #[.slice A0 l0.length c0] rfl (by (try simp only [List.map_toArray,List.map_cons,List.map_nil]);rfl) ?_;(with_reducible refine (sync_WaitGroup_Add.calls k _ _ l0 t180 _ ?side1 ?side2 A3.out).mono ?_);(case side1=>repeat (exact (Kd.V_reads' HO0.out).2.2));(case side2=>exact (Kd.V_reads' HO0.out).2.1);rintro e w23 ⟨rfl,hb⟩;refine ⟨_,rfl,?_⟩;have n0_:=As0.mk (Kd.V_below (by (with_reducible repeat (first|apply Kd.V_alloc|apply Kd.V_drewN|apply Kd.V_drew));exact HO0.out) hb);have n1_:=As0.mk (Kd.V_below (by (with_reducible repeat (first|apply Kd.V_alloc|apply Kd.V_drewN|apply Kd.V_drew));exact HO1.out) hb);have n2_:=As0.mk (y05 (by repeat (with_reducible exact HB.out)) hb);clear HO0;clear HO1;clear HB;have HO0:=n0_;have HO1:=n1_;have HB:=n2_;clear n0_ n1_ n2_;(try clear hb);(try clear hb2);(try clear hk);(try clear hi))|((with_reducible refine y04 (f:=60) rfl ?_);refine y0h (some 7) rfl rfl Tra.func60 (by kernel_rfl) rfl #[.slice A1 l1.length c1] rfl (by (try simp only [List.map_toArray,List.map_cons,List.map_nil]);rfl) ?_;(with_reducible refine (sync_WaitGroup_Add.calls k _ _ l1 t181 _ ?side1 ?side2 A4.out).mono ?_);(case side1=>repeat (exact (Kd.V_reads' HO1.out).2.2));(case side2=>exact (Kd.V_reads' HO1.out).2.1);rintro e w24 ⟨rfl,hb⟩;refine ⟨_,rfl,?_⟩;have n0_:=As0.mk (Kd.V_below (by (with_reducible repeat (first|apply Kd.V_alloc|apply Kd.V_drewN|apply Kd.V_drew));exact HO0.out) hb);have n1_:=As0.mk (Kd.V_below (by (with_reducible repeat (first|apply Kd.V_alloc|apply Kd.V_drewN|apply Kd.V_drew));exact HO1.out) hb);have n2_:=As0.mk (y05 (by repeat (with_reducible exact HB.out)) hb);clear HO0;clear HO1;clear HB;have HO0:=n0_;have HO1:=n1_;have HB:=n2_;clear n0_ n1_ n2_;(try clear hb);(try clear hb2);(try clear hk);(try clear hi))|((with_reducible refine y0l (N:=8) rfl ?_);refine Kd.N_lit (Kd.slice 3 (Kd.int .i64)) _ 29 ?hg (N':=8) ?hd (xs:=([l0,l1]:List (List Int))) (inner:=[.slice A0 l0.length c0,.slice A1 l1.length c1]) (ok:=(fun k_=>((P0_ k_∨P1_ k_)∨w.heap.size≤k_))) (okp:=(fun k_=>((P0_ k_∨P1_ k_)∨w.heap.size≤k_))) ?hr ?hp (fun _ hk=>hk) ((show ∀ k_,w24.heap.size≤k_->(fun k_=>((P0_ k_∨P1_ k_)∨w.heap.size≤k_)) k_ from fun k_ hk=>(.inr (Nat.le_trans (y03 (by repeat (with_reducible exact HB.out))) hk))) _ (zLe _)) (Below.refl _ _) (zLe _) (by simp) ?_;(case hd=>rfl);(case hg=>rfl);(case hr=>(go_simp;done));(case hp=>exact (Reps.one (show Kd.FK (Kd.slice 3 (Kd.int .i64)) _ _ l0 [.slice A0 l0.length c0] from (Kd.FK_slice_mk (Kd.V_reads' (Kd.V_mono (ok':=(fun k_=>((P0_ k_∨P1_ k_)∨w.heap.size≤k_))) (HO0.out) (fun k_ hk=>hk))).2.1 (Kd.V_F (Kd.V_mono (ok':=(fun k_=>((P0_ k_∨P1_ k_)∨w.heap.size≤k_))) (HO0.out) (fun k_ hk=>hk))))) (Reps.one (show Kd.FK (Kd.slice 3 (Kd.int .i64)) _ _ l1 [.slice A1 l1.length c1] from (Kd.FK_slice_mk (Kd.V_reads' (Kd.V_mono (ok':=(fun k_=>((P0_ k_∨P1_ k_)∨w.heap.size≤k_))) (HO1.out) (fun k_ hk=>hk))).2.1 (Kd.V_F (Kd.V_mono (ok':=(fun k_=>((P0_ k_∨P1_ k_)∨w.heap.size≤k_))) (HO1.out) (fun k_ hk=>hk))))) (Reps.none _ _))));intro v183 w25 ho26 hb hg_ hnew_;clear hg_ hnew_;(rw [← Ny182.out] at ho26);have n0_:=As0.mk (Kd.V_elder' (by (with_reducible repeat (first|apply Kd.V_alloc|apply Kd.V_drewN|apply Kd.V_drew));exact HO0.out) (Kd.N_base ho26) hb);have n1_:=As0.mk (Kd.V_elder' (by (with_reducible repeat (first|apply Kd.V_alloc|apply Kd.V_drewN|apply Kd.V_drew));exact HO1.out) (Kd.N_base ho26) hb);have n2_:=As0.mk (Kd.N_lower ho26 (y03 (by repeat (with_reducible exact HB.out))));have n3_:=As0.mk (y05 (by repeat (with_reducible exact HB.out)) hb);clear HO0;clear HO1;clear HB;have HO0:=n0_;have HO1:=n1_;have HO184:=n2_;have HB:=n3_;clear n0_ n1_ n2_ n3_;clear hb ho26;obtain ⟨Ao27,co27,eo27⟩:=Kd.N_slice HO184.out;subst eo27)|((with_reducible refine y04 (f:=49) rfl ?_);refine y0h (some 9) rfl rfl Tra.func49 (by kernel_rfl) rfl #[.slice Ao27 y182.length co27] rfl (by (try simp only [List.map_toArray,List.map_cons,List.map_nil]);rfl) ?_;(with_reducible refine (mobs_read.calls k _ _ y182 t185 _ ?side1 ?side2 A5.out).mono ?_);(case side1=>repeat (exact (Kd.N_reads' HO184.out).2.2));(case side2=>exact (Kd.N_reads' HO184.out).2.1);rintro e w28 ⟨rfl,hb⟩;refine ⟨_,rfl,?_⟩;have n0_:=As0.mk (Kd.V_below (by (with_reducible repeat (first|apply Kd.V_alloc|apply Kd.V_drewN|apply Kd.V_drew));exact HO0.out) hb);have n1_:=As0.mk (Kd.V_below (by (with_reducible repeat (first|apply Kd.V_alloc|apply Kd.V_drewN|apply Kd.V_drew));exact HO1.out) hb);have n2_:=As0.mk (Kd.N_below (by (with_reducible repeat (first|apply Kd.N_alloc|apply Kd.N_drewN|apply Kd.N_drew));exact HO184.out) hb);have n3_:=As0.mk (y05 (by repeat (with_reducible exact HB.out)) hb);clear HO0;clear HO1;clear HO184;clear HB;have HO0:=n0_;have HO1:=n1_;have HO184:=n2_;have HB:=n3_;clear n0_ n1_ n2_ n3_;(try clear hb);(try clear hb2);(try clear hk);(try clear hi)))
  go_ret3
  exact ⟨_,_,by rfl,by exact Kd.R_nil _ _ _ _ _,by exact Kd.R_nil _ _ _ _ _,by repeat (with_reducible exact HB.out)⟩
end Go.Proofs.Ytdhgeondbnpeoaa.P
namespace Go.Proofs.Ytdhgeondbnpeoaa.P
open Go.RowKit Go.Proofs.Yw.Wd Go.Proofs.Yw.La Go.Proofs.Yw.Mo
attribute [local go_sem] y1b y19 y1q y1p y12 y11 y1a y18
mutual
def mobs_finer.l0:Nat->List Int->List Int->Int->Int->Option (Bool)
 |0,_,_,_,_=>none
 |k+1,x0,x1,x8,x9=>if x9<x8 then (mobs_finer.l1 k x0 x1 x9 x8 x9 x9 0) else (some true)
def mobs_finer.l1:Nat->List Int->List Int->Int->Int->Int->Int->Int->Option (Bool)
 |0,_,_,_,_,_,_,_=>none
 |k+1,x0,x1,x5,x8,x9,x12,x13=>if x13<x12 then (if 0≤x5 then (if x5<(x0.length:Int) then (if 0≤x13 then (if x13<(x0.length:Int) then (if (rd x0 x5)=(rd x0 x13) then (if x5<(x1.length:Int) then (if x13<(x1.length:Int) then (if (rd x1 x5)=(rd x1 x13) then (mobs_finer.l1 k x0 x1 x5 x8 x9 x12 (wrap64 (x13+1))) else (some false)) else (none)) else (none)) else (mobs_finer.l1 k x0 x1 x5 x8 x9 x12 (wrap64 (x13+1)))) else (none)) else (none)) else (none)) else (none)) else (mobs_finer.l0 k x0 x1 x8 (wrap64 (x9+1)))
end
def mobs_finer.f (k:Nat) (l0:List Int) (l1:List Int):Option (Bool):=mobs_finer.l0 k l0 l1 (l0.length:Int) 0
theorem mobs_finer.calls (k:Nat) (A0:Option Addr) (c0:Nat) (l0:List Int) (A1:Option Addr) (c1:Nat) (l1:List Int) (r:Bool) (w:World) (hr0:Kd.C (Kd.int .i64) w A0 l0.length l0) (hc0:l0.length≤c0) (hr1:Kd.C (Kd.int .i64) w A1 l1.length l1) (hc1:l1.length≤c1) (h:mobs_finer.f k l0 l1=some r) :
  Calls Tra.prog 57 #[.slice A0 l0.length c0,.slice A1 l1.length c1] w fun e w'=>e=.returned (.bool r)∧Drawn0 w w':=by
 have HR0:=As0.mk hr0;have HC0:=As0.mk hc0;clear hr0 hc0;have HR1:=As0.mk hr1;have HC1:=As0.mk hc1;clear hr1 hc1;have H:(mobs_finer.l0 k l0 l1 (l0.length:Int) 0)=some r:=h;clear h;have H':=As0.mk H;clear H;go_enter Tra.func57,Tra.ntmps57
 go_wp2
 repeat (go_quiet (fail);try go_wp2)
 go_loopg [9] k (fun kq v9 w'=>∃ (x9_1:Int),v9=.int .i64 x9_1∧As0 (mobs_finer.l0 kq l0 l1 (l0.length:Int) x9_1=some r)∧As0 (kq≤k)∧Drawn0 w w')
 case atStart=>exact ⟨(0),(by rfl),H',⟨zLe _⟩,by repeat (exact Drawn0.refl _)⟩
 case round =>
  clear H'
  try clear c1
  try clear p2
  obtain ⟨x9_1,rfl,HA,HK1,⟨m1,rfl⟩⟩:=hrel;cases gk with
  |zero=>exact absurd HA.out (by simp [mobs_finer.l0])
  |succ k1 =>
   have H:=HA.out;clear HA;simp only [mobs_finer.l0] at H
   by_cases c3:x9_1<(l0.length:Int)
   ·rw [if_pos c3] at H
    have c3b0:decide (x9_1<(l0.length:Int))=true:=zDt c3;clear c3;have H':=As0.mk H;clear H;go_wp2
    repeat (go_quiet (fail);try go_wp2)
    go_loopg [13] k1 (fun kq v13 w'=>∃ (x13_2:Int),v13=.int .i64 x13_2∧As0 (mobs_finer.l1 kq l0 l1 x9_1 (l0.length:Int) x9_1 x9_1 x13_2=some r)∧As0 (kq≤k1)∧Drawn0 w w')
    case atStart=>exact ⟨(0),(by rfl),H',⟨zLe _⟩,by repeat (first|exact Drawn0.refl _|apply Drawn0.step)⟩
    case round =>
     clear H'
     try clear c1
     try clear p2
     try clear c3
     try clear c3b0
     try clear p2
     obtain ⟨x13_2,rfl,HA,HK2,⟨m2,rfl⟩⟩:=hrel;cases gk with
     |zero=>exact absurd HA.out (by simp [mobs_finer.l1])
     |succ k2 =>
      have H:=HA.out;clear HA;simp only [mobs_finer.l1] at H
      by_cases c4:x13_2<x9_1
      ·rw [if_pos c4] at H
       have c4b0:decide (x13_2<x9_1)=true:=zDt c4;clear c4
       by_cases c5:0≤x9_1
       ·rw [if_pos c5] at H
        have c5b0:decide (0≤x9_1)=true:=zDt c5;clear c5
        by_cases c6:x9_1<(l0.length:Int)
        ·rw [if_pos c6] at H
         have c6b0:decide (x9_1<(l0.length:Int))=true:=zDt c6;clear c6
         by_cases c7:0≤x13_2
         ·rw [if_pos c7] at H
          have c7b0:decide (0≤x13_2)=true:=zDt c7;clear c7
          by_cases c8:x13_2<(l0.length:Int)
          ·rw [if_pos c8] at H
           have c8b0:decide (x13_2<(l0.length:Int))=true:=zDt c8;clear c8
           by_cases c9:(rd l0 x9_1)=(rd l0 x13_2)
           ·rw [if_pos c9] at H
            have c9b0:((rd l0 x9_1) == (rd l0 x13_2))=true:=beq_iff_eq.mpr c9;have c9b1:((rd l0 x9_1) != (rd l0 x13_2))=false:=bne_eq_false_iff_eq.mpr c9;clear c9
            by_cases c10:x9_1<(l1.length:Int)
            ·rw [if_pos c10] at H
             have c10b0:decide (x9_1<(l1.length:Int))=true:=zDt c10;clear c10
             by_cases c11:x13_2<(l1.length:Int)
             ·rw [if_pos c11] at H
              have c11b0:decide (x13_2<(l1.length:Int))=true:=zDt c11;clear c11
              by_cases c12:(rd l1 x9_1)=(rd l1 x13_2)
              ·rw [if_pos c12] at H
               have c12b0:((rd l1 x9_1) == (rd l1 x13_2))=true:=beq_iff_eq.mpr c12;have c12b1:((rd l1 x9_1) != (rd l1 x13_2))=false:=bne_eq_false_iff_eq.mpr c12;clear c12;have H':=As0.mk H;clear H;have p212:0≤(x9_1:Int):=zDo (by with_reducible assumption);have q212:x9_1<(l0.length:Int):=zDo (by with_reducible assumption);obtain ⟨ad212,e212,hx212_0⟩:=Kd.at_int HR0.out x9_1 p212 q212;cases e212
               replace p212:=eq_true p212;replace q212:=eq_true q212;have p213:0≤(x13_2:Int):=zDo (by with_reducible assumption);have q213:x13_2<(l0.length:Int):=zDo (by with_reducible assumption);obtain ⟨ad213,e213,hx213_0⟩:=Kd.at_int HR0.out x13_2 p213 q213;obtain rfl:ad212=ad213:=(by injection e213)
               replace p213:=eq_true p213;replace q213:=eq_true q213;have p214:0≤(x9_1:Int):=zDo (by with_reducible assumption);have q214:x9_1<(l1.length:Int):=zDo (by with_reducible assumption);obtain ⟨ad214,e214,hx214_0⟩:=Kd.at_int HR1.out x9_1 p214 q214;cases e214
               replace p214:=eq_true p214;replace q214:=eq_true q214;have p215:0≤(x13_2:Int):=zDo (by with_reducible assumption);have q215:x13_2<(l1.length:Int):=zDo (by with_reducible assumption);obtain ⟨ad215,e215,hx215_0⟩:=Kd.at_int HR1.out x13_2 p215 q215;obtain rfl:ad214=ad215:=(by injection e215)
               replace p215:=eq_true p215;replace q215:=eq_true q215;go_wp2
               repeat (go_quiet (fail);try go_wp2)
               go_roundg k2
               case measure=>have:=HK1.out;have:=HK2.out;omega
               case rel=>exact ⟨(wrap64 (x13_2+1)),(by rfl),H',⟨by have:=HK1.out;have:=HK2.out;omega⟩,by repeat (first|exact Drawn0.refl _|apply Drawn0.step)⟩
              ·rw [if_neg c12] at H
               have c12b0:((rd l1 x9_1) == (rd l1 x13_2))=false:=beq_eq_false_iff_ne.mpr c12;have c12b1:((rd l1 x9_1) != (rd l1 x13_2))=true:=bne_iff_ne.mpr c12;obtain rfl:=zSi H;have p212:0≤(x9_1:Int):=zDo (by with_reducible assumption);have q212:x9_1<(l0.length:Int):=zDo (by with_reducible assumption);obtain ⟨ad212,e212,hx212_0⟩:=Kd.at_int HR0.out x9_1 p212 q212;cases e212
               replace p212:=eq_true p212;replace q212:=eq_true q212;have p213:0≤(x13_2:Int):=zDo (by with_reducible assumption);have q213:x13_2<(l0.length:Int):=zDo (by with_reducible assumption);obtain ⟨ad213,e213,hx213_0⟩:=Kd.at_int HR0.out x13_2 p213 q213;obtain rfl:ad212=ad213:=(by injection e213)
               replace p213:=eq_true p213;replace q213:=eq_true q213;have p214:0≤(x9_1:Int):=zDo (by with_reducible assumption);have q214:x9_1<(l1.length:Int):=zDo (by with_reducible assumption);obtain ⟨ad214,e214,hx214_0⟩:=Kd.at_int HR1.out x9_1 p214 q214;cases e214
               replace p214:=eq_true p214;replace q214:=eq_true q214;have p215:0≤(x13_2:Int):=zDo (by with_reducible assumption);have q215:x13_2<(l1.length:Int):=zDo (by with_reducible assumption);obtain ⟨ad215,e215,hx215_0⟩:=Kd.at_int HR1.out x13_2 p215 q215;obtain rfl:ad214=ad215:=(by injection e215)
               replace p215:=eq_true p215;replace q215:=eq_true q215;go_wp2
               repeat (go_quiet (fail);try go_wp2)
               go_ret
               exact ⟨by rfl,by repeat (first|exact Drawn0.refl _|apply Drawn0.step)⟩
             ·rw [if_neg c11] at H
              exact absurd H (by simp)
            ·rw [if_neg c10] at H
             exact absurd H (by simp)
           ·rw [if_neg c9] at H
            have c9b0:((rd l0 x9_1) == (rd l0 x13_2))=false:=beq_eq_false_iff_ne.mpr c9;have c9b1:((rd l0 x9_1) != (rd l0 x13_2))=true:=bne_iff_ne.mpr c9;have H':=As0.mk H;clear H;have p212:0≤(x9_1:Int):=zDo (by with_reducible assumption);have q212:x9_1<(l0.length:Int):=zDo (by with_reducible assumption);obtain ⟨ad212,e212,hx212_0⟩:=Kd.at_int HR0.out x9_1 p212 q212;cases e212
            replace p212:=eq_true p212;replace q212:=eq_true q212;have p213:0≤(x13_2:Int):=zDo (by with_reducible assumption);have q213:x13_2<(l0.length:Int):=zDo (by with_reducible assumption);obtain ⟨ad213,e213,hx213_0⟩:=Kd.at_int HR0.out x13_2 p213 q213;obtain rfl:ad212=ad213:=(by injection e213)
            replace p213:=eq_true p213;replace q213:=eq_true q213;go_wp2
            repeat (go_quiet (fail);try go_wp2)
            go_roundg k2
            case measure=>have:=HK1.out;have:=HK2.out;omega
            case rel=>exact ⟨(wrap64 (x13_2+1)),(by rfl),H',⟨by have:=HK1.out;have:=HK2.out;omega⟩,by repeat (first|exact Drawn0.refl _|apply Drawn0.step)⟩
          ·rw [if_neg c8] at H
           exact absurd H (by simp)
         ·rw [if_neg c7] at H
          exact absurd H (by simp)
        ·rw [if_neg c6] at H
         exact absurd H (by simp)
       ·rw [if_neg c5] at H
        exact absurd H (by simp)
      ·rw [if_neg c4] at H
       have c4b0:decide (x13_2<x9_1)=false:=zDf c4;clear c4;have H':=As0.mk H;clear H;go_wp2
       repeat (go_quiet (fail);try go_wp2)
       go_roundg k2
       case measure=>have:=HK1.out;have:=HK2.out;omega
       case rel=>exact ⟨(wrap64 (x9_1+1)),(by rfl),H',⟨by have:=HK1.out;have:=HK2.out;omega⟩,by repeat (first|exact Drawn0.refl _|apply Drawn0.step)⟩
   ·rw [if_neg c3] at H
    have c3b0:decide (x9_1<(l0.length:Int))=false:=zDf c3;clear c3;obtain rfl:=zSi H;go_wp2
    repeat (go_quiet (fail);try go_wp2)
    go_ret
    exact ⟨by rfl,by repeat (first|exact Drawn0.refl _|apply Drawn0.step)⟩
def mobs_Finer.f (k:Nat) (l0:List Int) (l1:List Int):Option (Bool × Int):=(mobs_read.f k (([l0,l1]:List (List Int)))).bind fun t219=>(if t219=0 then ((mobs_finer.f k l0 l1).bind fun t220=>(some (t220,0))) else (some (false,t219)))
theorem mobs_Finer.calls (k:Nat) (P0_:Nat->Prop) (A0:Option Addr) (c0:Nat) (l0:List Int) (P1_:Nat->Prop) (A1:Option Addr) (c1:Nat) (l1:List Int) (r1:Bool) (r2:Int) (w:World) (hs0:Kd.V (Kd.int .i64) 3 w w.heap.size (fun k_=>P0_ k_) (.slice A0 l0.length c0) l0) (hs1:Kd.V (Kd.int .i64) 3 w w.heap.size (fun k_=>P1_ k_) (.slice A1 l1.length c1) l1) (h:mobs_Finer.f k l0 l1=some (r1,r2)) :
  Calls Tra.prog 32 #[.slice A0 l0.length c0,.slice A1 l1.length c1] w fun e w'=>e=.returned (.tuple #[.bool r1,.int .i64 r2])∧Below w.heap.size w w':=by
 have HO0:=As0.mk (show Kd.V (Kd.int .i64) 3 w w.heap.size (fun k_=>((P0_ k_∨P1_ k_)∨w.heap.size≤k_)) (.slice A0 l0.length c0) l0 from Kd.V_mono hs0 (fun k_ hk=>.inl (.inl hk)));have HO1:=As0.mk (show Kd.V (Kd.int .i64) 3 w w.heap.size (fun k_=>((P0_ k_∨P1_ k_)∨w.heap.size≤k_)) (.slice A1 l1.length c1) l1 from Kd.V_mono hs1 (fun k_ hk=>.inl (.inr hk)));have HB:=As0.mk (Below.refl w.heap.size w);have H:((mobs_read.f k (([l0,l1]:List (List Int)))).bind fun t219=>(if t219=0 then ((mobs_finer.f k l0 l1).bind fun t220=>(some (t220,0))) else (some (false,t219))))=some (r1,r2):=h;clear h;obtain ⟨y216,hy216⟩:∃ y_:List (List Int),y_=(([l0,l1]:List (List Int))):=⟨_,rfl⟩
 replace H:((mobs_read.f k y216).bind fun t219=>(if t219=0 then ((mobs_finer.f k l0 l1).bind fun t220=>(some (t220,0))) else (some (false,t219))))=some (r1,r2):=by (rw [hy216];with_reducible exact H)
 have Ny216:=As0.mk hy216;clear hy216;replace H:=Option.bind_eq_some_iff.mp H;obtain ⟨t219,A30,H⟩:=H;replace H:(if t219=0 then ((mobs_finer.f k l0 l1).bind fun t220=>(some (t220,0))) else (some (false,t219)))=some (r1,r2):=H;have A3:=As0.mk A30;clear A30
 by_cases c4:t219=0
 ·rw [if_pos c4] at H
  have c4b0:(t219 == 0)=true:=beq_iff_eq.mpr c4;have c4b1:(t219 != 0)=false:=bne_eq_false_iff_eq.mpr c4;clear c4;replace H:=Option.bind_eq_some_iff.mp H;obtain ⟨t220,A50,H⟩:=H;replace H:(some (t220,0))=some (r1,r2):=H;have A5:=As0.mk A50;clear A50;simp only [Option.some.injEq,Prod.mk.injEq] at H;obtain ⟨rfl,rfl⟩:=H;go_enter Tra.func32,Tra.ntmps32
  go_wp2_with (first|((with_reducible refine y0l (N:=9) rfl ?_);refine Kd.N_lit (Kd.slice 3 (Kd.int .i64)) _ 29 ?hg (N':=9) ?hd (xs:=([l0,l1]:List (List Int))) (inner:=[.slice A0 l0.length c0,.slice A1 l1.length c1]) (ok:=(fun k_=>((P0_ k_∨P1_ k_)∨w.heap.size≤k_))) (okp:=(fun k_=>((P0_ k_∨P1_ k_)∨w.heap.size≤k_))) ?hr ?hp (fun _ hk=>hk) ((show ∀ k_,w.heap.size≤k_->(fun k_=>((P0_ k_∨P1_ k_)∨w.heap.size≤k_)) k_ from fun k_ hk=>(.inr (Nat.le_trans (y03 (by repeat (with_reducible exact HB.out))) hk))) _ (zLe _)) (Below.refl _ _) (zLe _) (by simp) ?_;(case hd=>rfl);(case hg=>rfl);(case hr=>(go_simp;done));(case hp=>exact (Reps.one (show Kd.FK (Kd.slice 3 (Kd.int .i64)) _ _ l0 [.slice A0 l0.length c0] from (Kd.FK_slice_mk (Kd.V_reads' (Kd.V_mono (ok':=(fun k_=>((P0_ k_∨P1_ k_)∨w.heap.size≤k_))) (HO0.out) (fun k_ hk=>hk))).2.1 (Kd.V_F (Kd.V_mono (ok':=(fun k_=>((P0_ k_∨P1_ k_)∨w.heap.size≤k_))) (HO0.out) (fun k_ hk=>hk))))) (Reps.one (show Kd.FK (Kd.slice 3 (Kd.int .i64)) _ _ l1 [.slice A1 l1.length c1] from (Kd.FK_slice_mk (Kd.V_reads' (Kd.V_mono (ok':=(fun k_=>((P0_ k_∨P1_ k_)∨w.heap.size≤k_))) (HO1.out) (fun k_ hk=>hk))).2.1 (Kd.V_F (Kd.V_mono (ok':=(fun k_=>((P0_ k_∨P1_ k_)∨w.heap.size≤k_))) (HO1.out) (fun k_ hk=>hk))))) (Reps.none _ _))));intro v217 w6 ho7 hb hg_ hnew_;clear hg_ hnew_;(rw [← Ny216.out] at ho7);have n0_:=As0.mk (Kd.V_elder' (by (with_reducible repeat (first|apply Kd.V_alloc|apply Kd.V_drewN|apply Kd.V_drew));exact HO0.out) (Kd.N_base ho7) hb);have n1_:=As0.mk (Kd.V_elder' (by (with_reducible repeat (first|apply Kd.V_alloc|apply Kd.V_drewN|apply Kd.V_drew));exact HO1.out) (Kd.N_base ho7) hb);have n2_:=As0.mk (Kd.N_lower ho7 (y03 (by repeat (with_reducible exact HB.out))));have n3_:=As0.mk (y05 (by repeat (with_reducible exact HB.out)) hb);clear HO0;clear HO1;clear HB;have HO0:=n0_;have HO1:=n1_;have HO218:=n2_;have HB:=n3_;clear n0_ n1_ n2_ n3_;clear hb ho7;obtain ⟨Ao8,co8,eo8⟩:=Kd.N_slice HO218.out;subst eo8)|((with_reducible refine y04 (f:=49) rfl ?_);refine y0h (some 10) rfl rfl Tra.func49 (by kernel_rfl) rfl #[.slice Ao8 y216.length co8] rfl (by (try simp only [List.map_toArray,List.map_cons,List.map_nil]);rfl) ?_;(with_reducible refine (mobs_read.calls k _ _ y216 t219 _ ?side1 ?side2 A3.out).mono ?_);(case side1=>repeat (exact (Kd.N_reads' HO218.out).2.2));(case side2=>exact (Kd.N_reads' HO218.out).2.1);rintro e w9 ⟨rfl,hb⟩;refine ⟨_,rfl,?_⟩;have n0_:=As0.mk (Kd.V_below (by (with_reducible repeat (first|apply Kd.V_alloc|apply Kd.V_drewN|apply Kd.V_drew));exact HO0.out) hb);have n1_:=As0.mk (Kd.V_below (by (with_reducible repeat (first|apply Kd.V_alloc|apply Kd.V_drewN|apply Kd.V_drew));exact HO1.out) hb);have n2_:=As0.mk (Kd.N_below (by (with_reducible repeat (first|apply Kd.N_alloc|apply Kd.N_drewN|apply Kd.N_drew));exact HO218.out) hb);have n3_:=As0.mk (y05 (by repeat (with_reducible exact HB.out)) hb);clear HO0;clear HO1;clear HO218;clear HB;have HO0:=n0_;have HO1:=n1_;have HO218:=n2_;have HB:=n3_;clear n0_ n1_ n2_ n3_;(try clear hb);(try clear hb2);(try clear hk);(try clear hi))|((with_reducible refine y04 (f:=57) rfl ?_);refine y0h (some 16) rfl rfl Tra.func57 (by kernel_rfl) rfl #[.slice A0 l0.length c0,.slice A1 l1.length c1] rfl (by (try simp only [List.map_toArray,List.map_cons,List.map_nil]);rfl) ?_;(with_reducible refine (mobs_finer.calls k _ _ l0 _ _ l1 t220 _ ?side1 ?side2 ?side3 ?side4 A5.out).mono ?_);(case side1=>repeat (exact (Kd.V_reads' HO0.out).2.2));(case side2=>exact (Kd.V_reads' HO0.out).2.1);(case side3=>repeat (exact (Kd.V_reads' HO1.out).2.2));(case side4=>exact (Kd.V_reads' HO1.out).2.1);rintro e w' ⟨rfl,⟨nd,rfl⟩⟩;refine ⟨_,rfl,?_⟩))
  go_ret2
  exact ⟨by rfl,by repeat (with_reducible first|exact HB.out|apply y00)⟩
 ·rw [if_neg c4] at H
  have c4b0:(t219 == 0)=false:=beq_eq_false_iff_ne.mpr c4;have c4b1:(t219 != 0)=true:=bne_iff_ne.mpr c4;simp only [Option.some.injEq,Prod.mk.injEq] at H;obtain ⟨rfl,rfl⟩:=H;go_enter Tra.func32,Tra.ntmps32
  go_wp2_with (first|((with_reducible refine y0l (N:=9) rfl ?_);refine Kd.N_lit (Kd.slice 3 (Kd.int .i64)) _ 29 ?hg (N':=9) ?hd (xs:=([l0,l1]:List (List Int))) (inner:=[.slice A0 l0.length c0,.slice A1 l1.length c1]) (ok:=(fun k_=>((P0_ k_∨P1_ k_)∨w.heap.size≤k_))) (okp:=(fun k_=>((P0_ k_∨P1_ k_)∨w.heap.size≤k_))) ?hr ?hp (fun _ hk=>hk) ((show ∀ k_,w.heap.size≤k_->(fun k_=>((P0_ k_∨P1_ k_)∨w.heap.size≤k_)) k_ from fun k_ hk=>(.inr (Nat.le_trans (y03 (by repeat (with_reducible exact HB.out))) hk))) _ (zLe _)) (Below.refl _ _) (zLe _) (by simp) ?_;(case hd=>rfl);(case hg=>rfl);(case hr=>(go_simp;done));(case hp=>exact (Reps.one (show Kd.FK (Kd.slice 3 (Kd.int .i64)) _ _ l0 [.slice A0 l0.length c0] from (Kd.FK_slice_mk (Kd.V_reads' (Kd.V_mono (ok':=(fun k_=>((P0_ k_∨P1_ k_)∨w.heap.size≤k_))) (HO0.out) (fun k_ hk=>hk))).2.1 (Kd.V_F (Kd.V_mono (ok':=(fun k_=>((P0_ k_∨P1_ k_)∨w.heap.size≤k_))) (HO0.out) (fun k_ hk=>hk))))) (Reps.one (show Kd.FK (Kd.slice 3 (Kd.int .i64)) _ _ l1 [.slice A1 l1.length c1] from (Kd.FK_slice_mk (Kd.V_reads' (Kd.V_mono (ok':=(fun k_=>((P0_ k_∨P1_ k_)∨w.heap.size≤k_))) (HO1.out) (fun k_ hk=>hk))).2.1 (Kd.V_F (Kd.V_mono (ok':=(fun k_=>((P0_ k_∨P1_ k_)∨w.heap.size≤k_))) (HO1.out) (fun k_ hk=>hk))))) (Reps.none _ _))));intro v217 w10 ho11 hb hg_ hnew_;clear hg_ hnew_;(rw [← Ny216.out] at ho11);have n0_:=As0.mk (Kd.V_elder' (by (with_reducible repeat (first|apply Kd.V_alloc|apply Kd.V_drewN|apply Kd.V_drew));exact HO0.out) (Kd.N_base ho11) hb);have n1_:=As0.mk (Kd.V_elder' (by (with_reducible repeat (first|apply Kd.V_alloc|apply Kd.V_drewN|apply Kd.V_drew));exact HO1.out) (Kd.N_base ho11) hb);have n2_:=As0.mk (Kd.N_lower ho11 (y03 (by repeat (with_reducible exact HB.out))));have n3_:=As0.mk (y05 (by repeat (with_reducible exact HB.out)) hb);clear HO0;clear HO1;clear HB;have HO0:=n0_;have HO1:=n1_;have HO218:=n2_;have HB:=n3_;clear n0_ n1_ n2_ n3_;clear hb ho11;obtain ⟨Ao12,co12,eo12⟩:=Kd.N_slice HO218.out;subst eo12)|((with_reducible refine y04 (f:=49) rfl ?_);refine y0h (some 10) rfl rfl Tra.func49 (by kernel_rfl) rfl #[.slice Ao12 y216.length co12] rfl (by (try simp only [List.map_toArray,List.map_cons,List.map_nil]);rfl) ?_;(with_reducible refine (mobs_read.calls k _ _ y216 t219 _ ?side1 ?side2 A3.out).mono ?_);(case side1=>repeat (exact (Kd.N_reads' HO218.out).2.2));(case side2=>exact (Kd.N_reads' HO218.out).2.1);rintro e w13 ⟨rfl,hb⟩;refine ⟨_,rfl,?_⟩;have n0_:=As0.mk (Kd.V_below (by (with_reducible repeat (first|apply Kd.V_alloc|apply Kd.V_drewN|apply Kd.V_drew));exact HO0.out) hb);have n1_:=As0.mk (Kd.V_below (by (with_reducible repeat (first|apply Kd.V_alloc|apply Kd.V_drewN|apply Kd.V_drew));exact HO1.out) hb);have n2_:=As0.mk (Kd.N_below (by (with_reducible repeat (first|apply Kd.N_alloc|apply Kd.N_drewN|apply Kd.N_drew));exact HO218.out) hb);have n3_:=As0.mk (y05 (by repeat (with_reducible exact HB.out)) hb);clear HO0;clear HO1;clear HO218;clear HB;have HO0:=n0_;have HO1:=n1_;have HO218:=n2_;have HB:=n3_;clear n0_ n1_ n2_ n3_;(try clear hb);(try clear hb2);(try clear hk);(try clear hi)))
  go_ret2
  exact ⟨by rfl,by repeat (with_reducible exact HB.out)⟩
mutual
def r6_IsParting.l0:Nat->List Int->Int->Int->Option (Bool)
 |0,_,_,_=>none
 |k+1,x0,x3,x4=>if x4<(x0.length:Int) then (if 0≤x4 then (if (rd x0 x4)<0 then (r6_IsParting.j1 k x0 x3 x4 true) else (r6_IsParting.j1 k x0 x3 x4 (decide ((rd x0 x4) > x3)))) else (none)) else (some true)
def r6_IsParting.j1:Nat->List Int->Int->Int->Bool->Option (Bool)
 |0,_,_,_,_=>none
 |k+1,x0,x3,x4,x26=>if x26=true then (some false) else (if 0≤x4 then (if x4<(x0.length:Int) then (if (rd x0 x4)=x3 then (r6_IsParting.l0 k x0 (wrap64 (x3+1)) (wrap64 (x4+1))) else (r6_IsParting.l0 k x0 x3 (wrap64 (x4+1)))) else (none)) else (none))
end
def r6_IsParting.f (k:Nat) (l0:List Int):Option (Bool):=if (l0.length:Int) > 12 then (some false) else (r6_IsParting.l0 k l0 0 0)
theorem r6_IsParting.calls (k:Nat) (A0:Option Addr) (c0:Nat) (l0:List Int) (r:Bool) (w:World) (hr0:Kd.C (Kd.int .i64) w A0 l0.length l0) (hc0:l0.length≤c0) (h:r6_IsParting.f k l0=some r) :
  Calls Tra.prog 30 #[.slice A0 l0.length c0] w fun e w'=>e=.returned (.bool r)∧Drawn0 w w':=by
 have HR0:=As0.mk hr0;have HC0:=As0.mk hc0;clear hr0 hc0;have H:(if (l0.length:Int) > 12 then (some false) else (r6_IsParting.l0 k l0 0 0))=some r:=h;clear h
 by_cases c2:(l0.length:Int) > 12
 ·rw [if_pos c2] at H
  have c2b0:decide (12<(l0.length:Int))=true:=zDt c2;have c2b1:decide (12<l0.length)=true:=zDt (by omega);clear c2;obtain rfl:=zSi H;go_enter Tra.func30,Tra.ntmps30
  go_wp2
  go_ret
  exact ⟨by rfl,by repeat (exact Drawn0.refl _)⟩
 ·rw [if_neg c2] at H
  have c2b0:decide (12<(l0.length:Int))=false:=zDf c2;have c2b1:decide (12<l0.length)=false:=zDf (by omega);clear c2;have H':=As0.mk H;clear H;go_enter Tra.func30,Tra.ntmps30
  go_wp2
  go_loopg [3,4] k (fun kq v3 v4 w'=>∃ (x3_1:Int) (x4_1:Int),v3=.int .i64 x3_1∧v4=.int .i64 x4_1∧As0 (r6_IsParting.l0 kq l0 x3_1 x4_1=some r)∧As0 (kq≤k)∧Drawn0 w w')
  case atStart=>exact ⟨(0),(0),(by rfl),(by rfl),H',⟨zLe _⟩,by repeat (exact Drawn0.refl _)⟩
  case round =>
   clear H'
   try clear c2
   try clear c2b0
   try clear c2b1
   try clear p2
   obtain ⟨x3_1,x4_1,rfl,rfl,HA,HK1,⟨m1,rfl⟩⟩:=hrel;cases gk with
   |zero=>exact absurd HA.out (by simp [r6_IsParting.l0])
   |succ k1 =>
    have H:=HA.out;clear HA;simp only [r6_IsParting.l0] at H
    by_cases c3:x4_1<(l0.length:Int)
    ·rw [if_pos c3] at H
     have c3b0:decide (x4_1<(l0.length:Int))=true:=zDt c3;clear c3;have HC4:=As0.mk H;clear H;go_upto_region 7 with (fail)
     go_cut [26] (fun v26 wc=>∃ (kq:Nat) (x26_3:Bool),v26=.bool x26_3∧As0 (r6_IsParting.j1 kq l0 x3_1 x4_1 x26_3=some r)∧As0 (kq≤k1)∧Drawn0 w wc)
     case first =>
      have H:=HC4.out;clear HC4
      by_cases c5:0≤x4_1
      ·rw [if_pos c5] at H
       have c5b0:decide (0≤x4_1)=true:=zDt c5;clear c5
       (skip)
       by_cases c6:(rd l0 x4_1)<0
       ·rw [if_pos c6] at H
        have c6b0:decide ((rd l0 x4_1)<0)=true:=zDt c6;clear c6;have H':=As0.mk H;clear H;have p221:0≤(x4_1:Int):=zDo (by with_reducible assumption);have q221:x4_1<(l0.length:Int):=zDo (by with_reducible assumption);obtain ⟨ad221,e221,hx221_0⟩:=Kd.at_int HR0.out x4_1 p221 q221;cases e221
        replace p221:=eq_true p221;replace q221:=eq_true q221;go_wp2
        go_meet
        case rel=>exact ⟨_,(true),(by rfl),H',⟨by have:=HK1.out;omega⟩,by repeat (first|exact Drawn0.refl _|apply Drawn0.step)⟩
       ·rw [if_neg c6] at H
        have c6b0:decide ((rd l0 x4_1)<0)=false:=zDf c6;clear c6;have H':=As0.mk H;clear H;have p221:0≤(x4_1:Int):=zDo (by with_reducible assumption);have q221:x4_1<(l0.length:Int):=zDo (by with_reducible assumption);obtain ⟨ad221,e221,hx221_0⟩:=Kd.at_int HR0.out x4_1 p221 q221;cases e221
        replace p221:=eq_true p221;replace q221:=eq_true q221;have p222:0≤(x4_1:Int):=zDo (by with_reducible assumption);have q222:x4_1<(l0.length:Int):=zDo (by with_reducible assumption);obtain ⟨ad222,e222,hx222_0⟩:=Kd.at_int HR0.out x4_1 p222 q222;obtain rfl:ad221=ad222:=(by injection e222)
        replace p222:=eq_true p222;replace q222:=eq_true q222;go_wp2
        go_meet
        case rel=>exact ⟨_,(decide ((rd l0 x4_1) > x3_1)),(by rfl),H',⟨by have:=HK1.out;omega⟩,by repeat (first|exact Drawn0.refl _|apply Drawn0.step)⟩
      ·rw [if_neg c5] at H
       exact absurd H (by simp)
     case rest =>
      clear HC4
      try clear c2
      try clear c2b0
      try clear c2b1
      try clear p2
      try clear q2
      try clear hx2
      try clear c3
      try clear c3b0
      try clear c5
      try clear c5b0
      try clear c6
      try clear c6b0
      try clear hx221_0
      try clear hx222_0
      try clear p2
      try clear p221
      try clear p222
      try clear q221
      try clear q222
      obtain ⟨kq,x26_3,rfl,HA,HJ3,⟨mc3,rfl⟩⟩:=hcut;cases kq with
      |zero=>exact absurd HA.out (by simp [r6_IsParting.j1])
      |succ kj3 =>
       have H:=HA.out;clear HA;simp only [r6_IsParting.j1] at H
       by_cases c7:x26_3=true
       ·subst c7
        have H1:(some false)=some r:=by rw [if_pos rfl] at H;exact H
        clear H;have H:=H1;clear H1;obtain rfl:=zSi H;go_wp2
        go_ret
        exact ⟨by rfl,by repeat (first|exact Drawn0.refl _|apply Drawn0.step)⟩
       ·replace c7:=Bool.eq_false_iff.mpr c7
        subst c7;have H1:(if 0≤x4_1 then (if x4_1<(l0.length:Int) then (if (rd l0 x4_1)=x3_1 then (r6_IsParting.l0 kj3 l0 (wrap64 (x3_1+1)) (wrap64 (x4_1+1))) else (r6_IsParting.l0 kj3 l0 x3_1 (wrap64 (x4_1+1)))) else (none)) else (none))=some r:=by rw [if_neg (show ¬ (false=true) by decide)] at H;exact H
        clear H;have H:=H1;clear H1
        by_cases c8:0≤x4_1
        ·rw [if_pos c8] at H
         have c8b0:decide (0≤x4_1)=true:=zDt c8;clear c8
         by_cases c9:x4_1<(l0.length:Int)
         ·rw [if_pos c9] at H
          have c9b0:decide (x4_1<(l0.length:Int))=true:=zDt c9;clear c9
          by_cases c10:(rd l0 x4_1)=x3_1
          ·rw [if_pos c10] at H
           have c10b0:((rd l0 x4_1) == x3_1)=true:=beq_iff_eq.mpr c10;have c10b1:((rd l0 x4_1) != x3_1)=false:=bne_eq_false_iff_eq.mpr c10;clear c10;have H':=As0.mk H;clear H;have p223:0≤(x4_1:Int):=zDo (by with_reducible assumption);have q223:x4_1<(l0.length:Int):=zDo (by with_reducible assumption);obtain ⟨ad223,e223,hx223_0⟩:=Kd.at_int HR0.out x4_1 p223 q223;cases e223
           replace p223:=eq_true p223;replace q223:=eq_true q223;go_wp2
           go_roundg kj3
           case measure=>have:=HK1.out;have:=HJ3.out;omega
           case rel=>exact ⟨(wrap64 (x3_1+1)),(wrap64 (x4_1+1)),(by rfl),(by rfl),H',⟨by have:=HK1.out;have:=HJ3.out;omega⟩,by repeat (first|exact Drawn0.refl _|apply Drawn0.step)⟩
          ·rw [if_neg c10] at H
           have c10b0:((rd l0 x4_1) == x3_1)=false:=beq_eq_false_iff_ne.mpr c10;have c10b1:((rd l0 x4_1) != x3_1)=true:=bne_iff_ne.mpr c10;have H':=As0.mk H;clear H;have p223:0≤(x4_1:Int):=zDo (by with_reducible assumption);have q223:x4_1<(l0.length:Int):=zDo (by with_reducible assumption);obtain ⟨ad223,e223,hx223_0⟩:=Kd.at_int HR0.out x4_1 p223 q223;cases e223
           replace p223:=eq_true p223;replace q223:=eq_true q223;go_wp2
           go_roundg kj3
           case measure=>have:=HK1.out;have:=HJ3.out;omega
           case rel=>exact ⟨(x3_1),(wrap64 (x4_1+1)),(by rfl),(by rfl),H',⟨by have:=HK1.out;have:=HJ3.out;omega⟩,by repeat (first|exact Drawn0.refl _|apply Drawn0.step)⟩
         ·rw [if_neg c9] at H
          exact absurd H (by simp)
        ·rw [if_neg c8] at H
         exact absurd H (by simp)
    ·rw [if_neg c3] at H
     have c3b0:decide (x4_1<(l0.length:Int))=false:=zDf c3;clear c3;obtain rfl:=zSi H;go_wp2
     go_ret
     exact ⟨by rfl,by repeat (first|exact Drawn0.refl _|apply Drawn0.step)⟩
def r6_Parting.f (k:Nat) (l0:List Int):Option (Int):=if (l0.length:Int) > 12 then (some 3) else ((r6_IsParting.f k l0).bind fun t224=>(if t224=true then (some 0) else (some 2)))
theorem r6_Parting.calls (k:Nat) (A0:Option Addr) (c0:Nat) (l0:List Int) (r:Int) (w:World) (hr0:Kd.C (Kd.int .i64) w A0 l0.length l0) (hc0:l0.length≤c0) (h:r6_Parting.f k l0=some r) :
  Calls Tra.prog 51 #[.slice A0 l0.length c0] w fun e w'=>e=.returned (.int .i64 r)∧Drawn0 w w':=by
 have HR0:=As0.mk hr0;have HC0:=As0.mk hc0;clear hr0 hc0;have H:(if (l0.length:Int) > 12 then (some 3) else ((r6_IsParting.f k l0).bind fun t224=>(if t224=true then (some 0) else (some 2))))=some r:=h;clear h
 by_cases c2:(l0.length:Int) > 12
 ·rw [if_pos c2] at H
  have c2b0:decide (12<(l0.length:Int))=true:=zDt c2;have c2b1:decide (12<l0.length)=true:=zDt (by omega);clear c2;obtain rfl:=zSi H;go_enter Tra.func51,Tra.ntmps51
  go_wp2
  go_ret
  exact ⟨by rfl,by repeat (exact Drawn0.refl _)⟩
 ·rw [if_neg c2] at H
  have c2b0:decide (12<(l0.length:Int))=false:=zDf c2;have c2b1:decide (12<l0.length)=false:=zDf (by omega);clear c2;replace H:=Option.bind_eq_some_iff.mp H;obtain ⟨t224,A30,H⟩:=H;replace H:(if t224=true then (some 0) else (some 2))=some r:=H;have A3:=As0.mk A30;clear A30
  by_cases c4:t224=true
  ·subst c4
   have H1:(some 0)=some r:=by rw [if_pos rfl] at H;exact H
   clear H;have H:=H1;clear H1;obtain rfl:=zSi H;go_enter Tra.func51,Tra.ntmps51
   go_wp2_with (((with_reducible refine y04 (f:=30) rfl ?_);refine y0h (some 7) rfl rfl Tra.func30 (by kernel_rfl) rfl #[.slice A0 l0.length c0] rfl (by (try simp only [List.map_toArray,List.map_cons,List.map_nil]);rfl) ?_;(with_reducible refine (r6_IsParting.calls k _ _ l0 true _ ?side1 ?side2 A3.out).mono ?_);(case side1=>repeat (exact HR0.out));(case side2=>exact HC0.out);rintro e w' ⟨rfl,⟨nd,rfl⟩⟩;refine ⟨_,rfl,?_⟩))
   go_ret
   exact ⟨by rfl,by repeat (first|exact Drawn0.refl _|apply Drawn0.step)⟩
  ·replace c4:=Bool.eq_false_iff.mpr c4
   subst c4;have H1:(some 2)=some r:=by rw [if_neg (show ¬ (false=true) by decide)] at H;exact H
   clear H;have H:=H1;clear H1;obtain rfl:=zSi H;go_enter Tra.func51,Tra.ntmps51
   go_wp2_with (((with_reducible refine y04 (f:=30) rfl ?_);refine y0h (some 7) rfl rfl Tra.func30 (by kernel_rfl) rfl #[.slice A0 l0.length c0] rfl (by (try simp only [List.map_toArray,List.map_cons,List.map_nil]);rfl) ?_;(with_reducible refine (r6_IsParting.calls k _ _ l0 false _ ?side1 ?side2 A3.out).mono ?_);(case side1=>repeat (exact HR0.out));(case side2=>exact HC0.out);rintro e w' ⟨rfl,⟨nd,rfl⟩⟩;refine ⟨_,rfl,?_⟩))
   go_ret
   exact ⟨by rfl,by repeat (first|exact Drawn0.refl _|apply Drawn0.step)⟩
def r6_two.f (k:Nat) (l0:List Int) (l1:List Int):Option (Int):=(r6_Parting.f k l0).bind fun t225=>(if t225=0 then ((r6_Parting.f k l1).bind fun t226=>(if t226=0 then (if (l0.length:Int)=(l1.length:Int) then (some t226) else (some 2)) else (some t226))) else (some t225))
theorem r6_two.calls (k:Nat) (A0:Option Addr) (c0:Nat) (l0:List Int) (A1:Option Addr) (c1:Nat) (l1:List Int) (r:Int) (w:World) (hr0:Kd.C (Kd.int .i64) w A0 l0.length l0) (hc0:l0.length≤c0) (hr1:Kd.C (Kd.int .i64) w A1 l1.length l1) (hc1:l1.length≤c1) (h:r6_two.f k l0 l1=some r) :
  Calls Tra.prog 58 #[.slice A0 l0.length c0,.slice A1 l1.length c1] w fun e w'=>e=.returned (.int .i64 r)∧Drawn0 w w':=by
 have HR0:=As0.mk hr0;have HC0:=As0.mk hc0;clear hr0 hc0;have HR1:=As0.mk hr1;have HC1:=As0.mk hc1;clear hr1 hc1;have H:((r6_Parting.f k l0).bind fun t225=>(if t225=0 then ((r6_Parting.f k l1).bind fun t226=>(if t226=0 then (if (l0.length:Int)=(l1.length:Int) then (some t226) else (some 2)) else (some t226))) else (some t225)))=some r:=h;clear h;replace H:=Option.bind_eq_some_iff.mp H;obtain ⟨t225,A30,H⟩:=H;replace H:(if t225=0 then ((r6_Parting.f k l1).bind fun t226=>(if t226=0 then (if (l0.length:Int)=(l1.length:Int) then (some t226) else (some 2)) else (some t226))) else (some t225))=some r:=H;have A3:=As0.mk A30;clear A30
 by_cases c4:t225=0
 ·rw [if_pos c4] at H
  have c4b0:(t225 == 0)=true:=beq_iff_eq.mpr c4;have c4b1:(t225 != 0)=false:=bne_eq_false_iff_eq.mpr c4;clear c4;replace H:=Option.bind_eq_some_iff.mp H;obtain ⟨t226,A50,H⟩:=H;replace H:(if t226=0 then (if (l0.length:Int)=(l1.length:Int) then (some t226) else (some 2)) else (some t226))=some r:=H;have A5:=As0.mk A50;clear A50
  by_cases c6:t226=0
  ·rw [if_pos c6] at H
   have c6b0:(t226 == 0)=true:=beq_iff_eq.mpr c6;have c6b1:(t226 != 0)=false:=bne_eq_false_iff_eq.mpr c6;clear c6
   by_cases c7:(l0.length:Int)=(l1.length:Int)
   ·rw [if_pos c7] at H
    have c7b0:((l0.length:Int) == (l1.length:Int))=true:=beq_iff_eq.mpr c7;have c7b1:((l0.length:Int) != (l1.length:Int))=false:=bne_eq_false_iff_eq.mpr c7;have c7b2:(l0.length == l1.length)=true:=by (simp at c7 ⊢;omega)
    clear c7;obtain rfl:=zSi H;go_enter Tra.func58,Tra.ntmps58
    go_wp2_with (first|((with_reducible refine y04 (f:=51) rfl ?_);refine y0h (some 7) rfl rfl Tra.func51 (by kernel_rfl) rfl #[.slice A0 l0.length c0] rfl (by (try simp only [List.map_toArray,List.map_cons,List.map_nil]);rfl) ?_;(with_reducible refine (r6_Parting.calls k _ _ l0 t225 _ ?side1 ?side2 A3.out).mono ?_);(case side1=>repeat (exact HR0.out));(case side2=>exact HC0.out);rintro e w' ⟨rfl,⟨nd,rfl⟩⟩;refine ⟨_,rfl,?_⟩)|((with_reducible refine y04 (f:=51) rfl ?_);refine y0h (some 11) rfl rfl Tra.func51 (by kernel_rfl) rfl #[.slice A1 l1.length c1] rfl (by (try simp only [List.map_toArray,List.map_cons,List.map_nil]);rfl) ?_;(with_reducible refine (r6_Parting.calls k _ _ l1 t226 _ ?side1 ?side2 A5.out).mono ?_);(case side1=>repeat (exact HR1.out));(case side2=>exact HC1.out);rintro e w' ⟨rfl,⟨nd,rfl⟩⟩;refine ⟨_,rfl,?_⟩))
    go_ret
    exact ⟨by rfl,by repeat (first|exact Drawn0.refl _|apply Drawn0.step)⟩
   ·rw [if_neg c7] at H
    have c7b0:((l0.length:Int) == (l1.length:Int))=false:=beq_eq_false_iff_ne.mpr c7;have c7b1:((l0.length:Int) != (l1.length:Int))=true:=bne_iff_ne.mpr c7;have c7b2:(l0.length == l1.length)=false:=by (simp at c7 ⊢;omega)
    obtain rfl:=zSi H;go_enter Tra.func58,Tra.ntmps58
    go_wp2_with (first|((with_reducible refine y04 (f:=51) rfl ?_);refine y0h (some 7) rfl rfl Tra.func51 (by kernel_rfl) rfl #[.slice A0 l0.length c0] rfl (by (try simp only [List.map_toArray,List.map_cons,List.map_nil]);rfl) ?_;(with_reducible refine (r6_Parting.calls k _ _ l0 t225 _ ?side1 ?side2 A3.out).mono ?_);(case side1=>repeat (exact HR0.out));(case side2=>exact HC0.out);rintro e w' ⟨rfl,⟨nd,rfl⟩⟩;refine ⟨_,rfl,?_⟩)|((with_reducible refine y04 (f:=51) rfl ?_);refine y0h (some 11) rfl rfl Tra.func51 (by kernel_rfl) rfl #[.slice A1 l1.length c1] rfl (by (try simp only [List.map_toArray,List.map_cons,List.map_nil]);rfl) ?_;(with_reducible refine (r6_Parting.calls k _ _ l1 t226 _ ?side1 ?side2 A5.out).mono ?_);(case side1=>repeat (exact HR1.out));(case side2=>exact HC1.out);rintro e w' ⟨rfl,⟨nd,rfl⟩⟩;refine ⟨_,rfl,?_⟩))
    go_ret
    exact ⟨by rfl,by repeat (first|exact Drawn0.refl _|apply Drawn0.step)⟩
  ·rw [if_neg c6] at H
   have c6b0:(t226 == 0)=false:=beq_eq_false_iff_ne.mpr c6;have c6b1:(t226 != 0)=true:=bne_iff_ne.mpr c6;obtain rfl:=zSi H;go_enter Tra.func58,Tra.ntmps58
   go_wp2_with (first|((with_reducible refine y04 (f:=51) rfl ?_);refine y0h (some 7) rfl rfl Tra.func51 (by kernel_rfl) rfl #[.slice A0 l0.length c0] rfl (by (try simp only [List.map_toArray,List.map_cons,List.map_nil]);rfl) ?_;(with_reducible refine (r6_Parting.calls k _ _ l0 t225 _ ?side1 ?side2 A3.out).mono ?_);(case side1=>repeat (exact HR0.out));(case side2=>exact HC0.out);rintro e w' ⟨rfl,⟨nd,rfl⟩⟩;refine ⟨_,rfl,?_⟩)|((with_reducible refine y04 (f:=51) rfl ?_);refine y0h (some 11) rfl rfl Tra.func51 (by kernel_rfl) rfl #[.slice A1 l1.length c1] rfl (by (try simp only [List.map_toArray,List.map_cons,List.map_nil]);rfl) ?_;(with_reducible refine (r6_Parting.calls k _ _ l1 t226 _ ?side1 ?side2 A5.out).mono ?_);(case side1=>repeat (exact HR1.out));(case side2=>exact HC1.out);rintro e w' ⟨rfl,⟨nd,rfl⟩⟩;refine ⟨_,rfl,?_⟩))
   go_ret
   exact ⟨by rfl,by repeat (first|exact Drawn0.refl _|apply Drawn0.step)⟩
 ·rw [if_neg c4] at H
  have c4b0:(t225 == 0)=false:=beq_eq_false_iff_ne.mpr c4;have c4b1:(t225 != 0)=true:=bne_iff_ne.mpr c4;obtain rfl:=zSi H;go_enter Tra.func58,Tra.ntmps58
  go_wp2_with (((with_reducible refine y04 (f:=51) rfl ?_);refine y0h (some 7) rfl rfl Tra.func51 (by kernel_rfl) rfl #[.slice A0 l0.length c0] rfl (by (try simp only [List.map_toArray,List.map_cons,List.map_nil]);rfl) ?_;(with_reducible refine (r6_Parting.calls k _ _ l0 t225 _ ?side1 ?side2 A3.out).mono ?_);(case side1=>repeat (exact HR0.out));(case side2=>exact HC0.out);rintro e w' ⟨rfl,⟨nd,rfl⟩⟩;refine ⟨_,rfl,?_⟩))
  go_ret
  exact ⟨by rfl,by repeat (first|exact Drawn0.refl _|apply Drawn0.step)⟩
end Go.Proofs.Ytdhgeondbnpeoaa.P
namespace Go.Proofs.Ytdhgeondbnpeoaa.Pl
open Go.RowKit Go.Proofs.Ytdhgeondbnpeoaa.P Go.Proofs.Yw.Wd Go.Proofs.Yw.La
def rgs:Int->List Int->Bool
 |_,[]=>true
 |m,x :: l=>decide (0≤x) && (decide (x≤m) && rgs (if x=m then m+1 else m) l)
def isP (l:List Int):Bool:=decide (l.length≤12) && rgs 0 l
theorem w64 {x:Int} (h0:-1000000000≤x) (h1:x≤1000000000):wrap64 x=x:=by unfold wrap64;omega
theorem ya4 {l:List Int} {i:Nat} (h:i<l.length):rd l (i:Int)=l[i]:=by simp [rd,List.getD_eq_getElem?_getD,List.getElem?_eq_getElem h]
theorem ref_l (l:List Int) (hn:l.length≤12):∀ (j i k:Nat) (m:Int),i+j=l.length->2 * j+2≤k->0≤m->m≤i->r6_IsParting.l0 k l m (i:Int)=some (rgs m (l.drop i))
 |0,i,k+1,m,hi,hk,h0,h1=>by
  unfold r6_IsParting.l0;rw [if_neg (by omega),List.drop_of_length_le (by omega)];rfl
 |j+1,i,k+2,m,hi,hk,h0,h1=>by
  have hlt:i<l.length:=by omega
  unfold r6_IsParting.l0;rw [if_pos (by omega),if_pos (by omega),ya4 hlt,List.drop_eq_getElem_cons hlt];unfold rgs r6_IsParting.j1
  by_cases hx:l[i]<0
  ·rw [if_pos hx,if_pos rfl,zDf (by omega)]
   rfl
  ·rw [if_neg hx,zDt (show 0≤l[i] by omega)]
   by_cases hm:l[i] > m
   ·rw [zDt hm,if_pos rfl,zDf (by omega)]
    rfl
   ·rw [zDf hm,if_neg (by decide),if_pos (by omega),if_pos (by omega),ya4 hlt,zDt (show l[i]≤m by omega)]
    simp only [Bool.true_and]
    by_cases he:l[i]=m
    ·rw [if_pos he,if_pos he,w64 (by omega) (by omega),w64 (by omega) (by omega)]
     exact ref_l l hn j (i+1) k (m+1) (by omega) (by omega) (by omega) (by omega)
    ·rw [if_neg he,if_neg he,w64 (x:=(i:Int)+1) (by omega) (by omega)]
     exact ref_l l hn j (i+1) k m (by omega) (by omega) (by omega) (by omega)
theorem ref_isP (l:List Int) {k:Nat} (hk:30≤k):r6_IsParting.f k l=some (isP l):=by
 unfold r6_IsParting.f isP
 by_cases h:l.length≤12
 ·have h1:r6_IsParting.l0 k l 0 0=_:=ref_l l h l.length 0 k 0 (by omega) (by omega) (by omega) (by omega)
  rw [if_neg (by omega),zDt h,h1];rfl
 ·rw [if_pos (by omega),zDf h]
  rfl
theorem ydq (l:List Int) (hn:l.length≤12):∀ (j i k:Nat) (m:Int),i+j=l.length->j+1≤k->0≤m->m≤i->mobs_IsParting.l0 k m l (l.length:Int) (i:Int)=some (rgs m (l.drop i))
 |0,i,k+1,m,hi,hk,h0,h1=>by
  unfold mobs_IsParting.l0;rw [if_neg (by omega),List.drop_of_length_le (by omega)];rfl
 |j+1,i,k+1,m,hi,hk,h0,h1=>by
  have hlt:i<l.length:=by omega
  unfold mobs_IsParting.l0;rw [if_pos (by omega),if_pos (by omega),if_pos (by omega),ya4 hlt,List.drop_eq_getElem_cons hlt];unfold rgs
  by_cases hx:l[i]<0
  ·rw [if_pos hx,zDf (by omega)]
   rfl
  ·rw [if_neg hx,zDt (show 0≤l[i] by omega)]
   by_cases hm:l[i] > m
   ·rw [if_pos hm,zDf (by omega)]
    rfl
   ·rw [if_neg hm,zDt (show l[i]≤m by omega),w64 (x:=l[i]+1) (by omega) (by omega),w64 (x:=(i:Int)+1) (by omega) (by omega)]
    simp only [Bool.true_and];have e:mx m (l[i]+1)=if l[i]=m then m+1 else m:=by
     unfold mx;split<;>split<;>omega
    rw [e];split
    ·exact ydq l hn j (i+1) k (m+1) (by omega) (by omega) (by omega) (by omega)
    ·exact ydq l hn j (i+1) k m (by omega) (by omega) (by omega) (by omega)
theorem yb0 (l:List Int) {k:Nat} (hk:20≤k):mobs_IsParting.f k l=some (isP l):=by
 unfold mobs_IsParting.f isP
 by_cases h:l.length≤12
 ·have h1:mobs_IsParting.l0 k 0 l (l.length:Int) 0=_:=ydq l h l.length 0 k 0 (by omega) (by omega) (by omega) (by omega)
  rw [if_neg (by omega),zDt h,h1];rfl
 ·rw [if_pos (by omega),zDf h]
  rfl
theorem y2b {l:List Int} (h:isP l=true):l.length≤12:=by
 simp only [isP,Bool.and_eq_true,decide_eq_true_eq] at h;exact h.1
def Fin (a b:List Int):Prop:=∀ (i j:Nat),j<i->i<a.length->a.getD i 0=a.getD j 0->b.getD i 0=b.getD j 0
theorem y0p (l:List Int) (i:Nat):rd l (i:Int)=l.getD i 0:=rfl
theorem ydx {α:Type} {p q:Prop} [Decidable p] [Decidable q] (h:p ↔ q) (x y:α):(if p then x else y)=if q then x else y:=by
 by_cases hp:p
 ·rw [if_pos hp,if_pos (h.1 hp)]
 ·rw [if_neg hp,if_neg (fun hq=>hp (h.2 hq))]
open Classical in
theorem yb3 (a b:List Int) (hl:a.length=b.length) (hn:a.length≤12) (i:Nat) (hi:i<a.length):∀ (d j k:Nat),j+d=i->d+1≤k →
  mobs_finer.l1 k a b (i:Int) (a.length:Int) (i:Int) (i:Int) (j:Int)=(if ∀ q,j≤q->q<i->a.getD i 0=a.getD q 0->b.getD i 0=b.getD q 0 then mobs_finer.l0 (k - d - 1) a b (a.length:Int) ((i:Int)+1) else some false)
 |0,j,k+1,hj,hk=>by
  unfold mobs_finer.l1;rw [if_neg (by omega),if_pos (fun q h1 h2=>by omega),w64 (x:=(i:Int)+1) (by omega) (by omega)];rfl
 |d+1,j,k+1,hj,hk=>by
  have hjl:j<a.length:=by omega
  unfold mobs_finer.l1;rw [if_pos (by omega),if_pos (by omega),if_pos (by omega),if_pos (by omega),if_pos (by omega),y0p,y0p,y0p,y0p,w64 (x:=(j:Int)+1) (by omega) (by omega)];have ih:=yb3 a b hl hn i hi d (j+1) k (by omega) (by omega);have ek:k+1 - (d+1) - 1=k - d - 1:=by omega
  rw [show ((j+1:Nat):Int)=(j:Int)+1 by omega] at ih;rw [ek]
  by_cases h1:a.getD i 0=a.getD j 0
  ·rw [if_pos h1,if_pos (by omega),if_pos (by omega)]
   by_cases h2:b.getD i 0=b.getD j 0
   ·rw [if_pos h2,ih]
    refine ydx ⟨fun h q q1 q2 q3=>?_,fun h q q1 q2 q3=>h q (by omega) q2 q3⟩ _ _;rcases (show q=j∨j+1≤q by omega) with rfl|q4
    ·exact h2
    ·exact h q q4 q2 q3
   ·rw [if_neg h2,if_neg (fun h=>h2 (h j (zLe _) (by omega) h1))]
  ·rw [if_neg h1,ih]
   refine ydx ⟨fun h q q1 q2 q3=>?_,fun h q q1 q2 q3=>h q (by omega) q2 q3⟩ _ _;rcases (show q=j∨j+1≤q by omega) with rfl|q4
   ·exact absurd q3 h1
   ·exact h q q4 q2 q3
open Classical in
theorem yb4 (a b:List Int) (hl:a.length=b.length) (hn:a.length≤12):∀ (d i k:Nat),i+d=a.length->15 * d+1≤k →
  mobs_finer.l0 k a b (a.length:Int) (i:Int)=some (decide (∀ p,i≤p->p<a.length->∀ q,q<p->a.getD p 0=a.getD q 0->b.getD p 0=b.getD q 0))
 |0,i,k+1,hi,hk=>by
  unfold mobs_finer.l0;rw [if_neg (by omega),zDt (fun p h1 h2=>by omega)]
 |d+1,i,k+1,hi,hk=>by
  unfold mobs_finer.l0;have h1:=yb3 a b hl hn i (by omega) i 0 k (by omega) (by omega);have h2:=yb4 a b hl hn d (i+1) (k - i - 1) (by omega) (by omega);rw [show ((i+1:Nat):Int)=(i:Int)+1 by omega] at h2;rw [show ((0:Nat):Int)=0 from rfl] at h1;rw [if_pos (by omega),h1,h2]
  by_cases hq:∀ q,0≤q->q<i->a.getD i 0=a.getD q 0->b.getD i 0=b.getD q 0
  ·rw [if_pos hq]
   congr 1
   rw [Bool.eq_iff_iff,decide_eq_true_iff,decide_eq_true_iff];refine ⟨fun h p p1 p2 q q1=>?_,fun h p p1 p2=>h p (by omega) p2⟩;rcases (show p=i∨i+1≤p by omega) with rfl|p3
   ·exact hq q (Nat.zero_le _) q1
   ·exact h p p3 p2 q q1
  ·rw [if_neg hq]
   congr 1
   rw [eq_comm,decide_eq_false_iff_not];exact fun h=>hq (fun q _ q2=>h i (zLe _) (by omega) q q2)
open Classical in
theorem finer_f {a b:List Int} (hl:a.length=b.length) (hn:a.length≤12) {k:Nat} (hk:200≤k):mobs_finer.f k a b=some (decide (Fin a b)):=by
 unfold mobs_finer.f;have h:=yb4 a b hl hn a.length 0 k (by omega) (by omega);rw [show ((0:Nat):Int)=0 from rfl] at h;rw [h]
 congr 1
 rw [Bool.eq_iff_iff,decide_eq_true_iff,decide_eq_true_iff];exact ⟨fun h i j h1 h2=>h i (Nat.zero_le _) h2 j h1,fun h p _ h2 q h1=>h p q h1 h2⟩
theorem same_l (a b:List Int) (hl:a.length=b.length) (hn:a.length≤40):∀ (d i k:Nat),i+d=a.length->d+1≤k->w6_same.l0 k a b (i:Int)=some (decide (a.drop i=b.drop i))
 |0,i,k+1,hi,hk=>by
  unfold w6_same.l0;rw [if_neg (by omega),List.drop_of_length_le (by omega),List.drop_of_length_le (by omega),zDt rfl]
 |d+1,i,k+1,hi,hk=>by
  have h1:i<a.length:=by omega
  have h2:i<b.length:=by omega
  unfold w6_same.l0;rw [if_pos (by omega),if_pos (by omega),if_pos (by omega),ya4 h1,ya4 h2,List.drop_eq_getElem_cons h1,List.drop_eq_getElem_cons h2,w64 (x:=(i:Int)+1) (by omega) (by omega)]
  by_cases he:a[i]=b[i]
  ·rw [if_pos he]
   have ih:=same_l a b hl hn d (i+1) k (by omega) (by omega);rw [show ((i+1:Nat):Int)=(i:Int)+1 by omega] at ih;rw [ih]
   congr 1
   rw [Bool.eq_iff_iff,decide_eq_true_iff,decide_eq_true_iff,List.cons.injEq];exact ⟨fun h=>⟨he,h⟩,fun h=>h.2⟩
  ·rw [if_neg he]
   congr 1
   rw [eq_comm,decide_eq_false_iff_not,List.cons.injEq];exact fun h=>he h.1
theorem same_f {a b:List Int} (hn:a.length≤40) {k:Nat} (hk:50≤k):w6_same.f k a b=some (decide (a=b)):=by
 unfold w6_same.f
 by_cases hl:a.length=b.length
 ·rw [if_pos (by omega)]
  have h:=same_l a b hl hn a.length 0 k (by omega) (by omega);simpa using h
 ·rw [if_neg (by omega)]
  congr 1
  rw [eq_comm,decide_eq_false_iff_not];exact fun h=>hl (congrArg _ h)
end Go.Proofs.Ytdhgeondbnpeoaa.Pl
namespace Go.Proofs.Ytdhgeondbnpeoaa.Pl
open Go.RowKit Go.Proofs.Ytdhgeondbnpeoaa.P Go.Proofs.Ytdhgeondbnpeoaa.Ext Go.Proofs.Yw.Wd Go.Proofs.Yw.La
def y2o (a b:List Int):Int:=if a.length≤12 then (if isP a=true then (if b.length≤12 then (if isP b=true then (if a.length=b.length then 0 else 2) else 2) else 3) else 2) else 3
theorem y4v (a b:List Int) {k:Nat} (hk:30≤k):mobs_read.f k [a,b]=some (y2o a b):=by
 obtain ⟨k,rfl⟩:∃ j,k=j+3:=⟨k - 3,by omega⟩
 have e0:y1h [a,b] 0=a:=rfl;have e1:y1h [a,b] 1=b:=rfl;have w1:wrap64 (0+1)=1:=by rw [w64 (by omega) (by omega)];rfl
 have w2:wrap64 (1+1)=2:=by rw [w64 (by omega) (by omega)];rfl
 unfold mobs_read.f y2o;simp only [List.length_cons,List.length_nil];unfold mobs_read.l0;rw [if_pos (by decide),if_pos (by decide),if_pos (by simp),e0]
 by_cases hl:a.length≤12
 rotate_left
 ·rw [if_pos (by omega),if_neg hl]
 rw [if_neg (by omega),if_pos hl,yb0 a (by omega)];simp only [Option.bind_some]
 by_cases hp:isP a=true
 rotate_left
 ·rw [if_neg hp,if_neg hp]
 rw [if_pos hp,if_pos hp,w1];unfold mobs_read.l0;rw [if_pos (by decide),if_pos (by decide),if_pos (by simp),e1]
 by_cases hl2:b.length≤12
 rotate_left
 ·rw [if_pos (by omega),if_neg hl2]
 rw [if_neg (by omega),if_pos hl2,yb0 b (by omega)];simp only [Option.bind_some]
 by_cases hp2:isP b=true
 rotate_left
 ·rw [if_neg hp2,if_neg hp2]
 rw [if_pos hp2,if_pos hp2,w2];unfold mobs_read.l0;rw [if_neg (by decide),if_pos (by simp),if_pos (by simp),if_pos (by simp),e0,e1]
 by_cases he:a.length=b.length
 ·rw [if_pos (by omega),if_pos he]
 ·rw [if_neg (by omega),if_neg he]
theorem y22 {a b:List Int} (h:y2o a b=0):isP a=true∧isP b=true∧a.length=b.length:=by
 unfold y2o at h
 by_cases h1:a.length≤12
 ·rw [if_pos h1] at h
  by_cases h2:isP a=true
  ·rw [if_pos h2] at h
   by_cases h3:b.length≤12
   ·rw [if_pos h3] at h
    by_cases h4:isP b=true
    ·rw [if_pos h4] at h
     by_cases h5:a.length=b.length
     ·exact ⟨h2,h4,h5⟩
     ·rw [if_neg h5] at h
      omega
    ·rw [if_neg h4] at h
     omega
   ·rw [if_neg h3] at h
    omega
  ·rw [if_neg h2] at h
   omega
 ·rw [if_neg h1] at h
  omega
theorem yd0:∀ (l:List Int) (m:Int),0≤m->rgs m l=true->∀ x ∈ l,0≤x∧x≤m+l.length
 |[],_,_,_,x,hx=>by simp at hx
 |y :: l,m,hm,h,x,hx=>by
  simp only [rgs,Bool.and_eq_true,decide_eq_true_eq] at h;obtain ⟨h1,h2,h3⟩:=h;rw [List.length_cons];rcases List.mem_cons.1 hx with rfl|hx
  ·omega
  ·by_cases hy:y=m
   ·rw [if_pos hy] at h3
    have:=yd0 l (m+1) (by omega) h3 x hx;omega
   ·rw [if_neg hy] at h3
    have:=yd0 l m hm h3 x hx;omega
theorem isP_bd {l:List Int} (h:isP l=true):∀ x ∈ l,0≤x∧x≤12:=by
 have hl:=y2b h;simp only [isP,Bool.and_eq_true,decide_eq_true_eq] at h;intro x hx;have:=yd0 l 0 (by omega) h.2 x hx;omega
theorem ydy {l:List Int} (h:isP l=true):∀ x ∈ l,In64 x:=fun x hx=>by
 have:=isP_bd h x hx;unfold In64;omega
def keys (a b:List Int):List S89:=(a.zip b).map fun p=>⟨p.1,p.2⟩
theorem yec {a b:List Int} (ha:isP a=true) (hb:isP b=true) (hl:a.length=b.length):∀ (d i k:Nat),i+d=a.length->d+1≤k->mobs_below.l0 k a b ((keys a b).take i) (a.length:Int) (i:Int)=some (numL (a.zip b))
 |d,i,0,_,h=>absurd h (by omega)
 |0,i,k+1,hd,_=>by
  have hn:=y2b ha;have hi:i=a.length:=by omega
  subst hi;unfold mobs_below.l0;have hk:(keys a b).take a.length=keys a b:=List.take_of_length_le (by simp [keys];omega);rw [if_neg (by omega),hk];unfold mobs_number_2_int.f;have h1:(∀ p ∈ keys a b,In64 p.f0∧In64 p.f1)∧(keys a b).length<17592186044416:=by
   refine ⟨fun p hp=>?_,by simp [keys];omega⟩;simp only [keys,List.mem_map] at hp;obtain ⟨q,hq,rfl⟩:=hp;exact ⟨ydy ha _ (List.of_mem_zip hq).1,ydy hb _ (List.of_mem_zip hq).2⟩
  rw [if_pos h1];have e:(keys a b).map (fun p=>(p.f0,p.f1))=a.zip b:=by
   unfold keys;rw [List.map_map];exact List.map_id _
  rw [e];rfl
 |d+1,i,k+1,hd,hk=>by
  have hn:=y2b ha;unfold mobs_below.l0;have ht:((keys a b).take i).length=i:=by simp [keys];omega
  have hs:(keys a b).take i ++ [(⟨rd a (i:Int),rd b (i:Int)⟩:S89)]=(keys a b).take (i+1):=by
   rw [List.take_succ_eq_append_getElem (by simp [keys];omega)]
   congr 1
   simp [keys,ya4 (show i<a.length by omega),ya4 (show i<b.length by omega)]
  rw [if_pos (by omega),if_pos (by omega),if_pos (by omega),if_pos (by omega),if_pos (by omega),hs,w64 (by omega) (by omega),show ((i:Int)+1)=((i+1:Nat):Int) by omega];exact yec ha hb hl d (i+1) k (by omega) (by omega)
theorem yed {a b:List Int} (ha:isP a=true) (hb:isP b=true) (hl:a.length=b.length) {k:Nat} (hk:20≤k):mobs_below.f k a b=some (numL (a.zip b)):=by
 have hn:=y2b ha;have h:mobs_below.l0 k a b ((keys a b).take 0) (a.length:Int) ((0:Nat):Int)=_:=yec ha hb hl a.length 0 k (by omega) (by omega);exact h
theorem yeh {a b:List Int} (ha:isP a=true) (hb:isP b=true) (hl:a.length=b.length):mobs_above.f a b=some (aboveL a b):=by
 have hn:=y2b ha;unfold mobs_above.f;rw [if_pos ⟨hl,ydy ha,by omega⟩]
theorem y69 (a b:List Int):(aboveL a b).length=a.length:=by
 unfold aboveL;rw [y2e,y25]
theorem y67 {a b:List Int} (hl:a.length=b.length):(numL (a.zip b)).length=a.length:=by
 rw [y2e,List.length_zip];omega
end Go.Proofs.Ytdhgeondbnpeoaa.Pl
namespace Go.Mt
open Go.Tr Go.Conc Go.ConcN Go.Proofs Go.RowKit
open Go.Proofs.Ytdhgeondbnpeoaa Go.Proofs.Ytdhgeondbnpeoaa.P Go.Proofs.Yw.Wd Go.Proofs.Yw.La Go.Proofs.Yw.Mo
section
variable {K:Cfg} {L:List Nat} {u w:World} {Sh:Loc->Prop} {W0:World}
theorem ycw (hW:WRel K L u w) {v v':Value} (hr:RelP K L v v') {a:Option Addr} {n cp:Nat} (hv:v=.slice a n cp):yai u a:=by
 intro ad ha;subst hv;cases hr with
 |cell hr =>
  cases hr with
  |flat h=>rw [ha] at h;simp [y1c] at h
  |slice hb ho hs =>
   obtain rfl:=zSi ha;rcases hW.obj hb with ⟨c,c',e,e1,fr,fr',h1,h2,h3,_,_⟩|⟨es,es',cl,h1,_⟩
   ·refine .inl ⟨c,e,fr,h1,fun i x hx=>?_⟩
    obtain ⟨v',_,hv⟩:=h3 i x hx;exact ⟨K,L,v',hv⟩
   ·exact .inr ⟨es,cl,h1⟩
theorem ShI.no (hI:ShI W0 K L Sh w) (hW:WRel K L u w) (hRd:∀ b,K.Rd b->b<K.N) {b b' s:Nat} (hb:RelB K L b b' s):b'<w.heap.size∧∀ l,inB b' l->¬ Sh l:=by
 rcases hb with ⟨_,⟨hr,hl,rfl⟩|⟨j,_,hj,hn⟩⟩|⟨j,_,hj⟩|hro
 ·exact ⟨Nat.lt_of_lt_of_le hl hW.wsize,hI.rd b' hr⟩
 ·exact ⟨hW.fresh j b' hj,hI.al b' ⟨List.mem_iff_getElem?.2 ⟨j,hj⟩,hn⟩⟩
 ·exact ⟨Nat.lt_of_lt_of_le (hW.ali j b' s hj).1 hW.wsize,hI.ra j b' s hj⟩
 ·exact ⟨Nat.lt_of_lt_of_le (hW.roa b b' s hro).2.2.1 hW.wsize,hI.rr b b' s hro⟩
theorem y4m {u:World} {ad:Addr} {x:Value} (h:u.cell? ad=some x):ad.block<u.heap.size∧ad.spot=none∧∃ cs e fr,u.heap[ad.block]?=some (.cells cs e fr)∧cs[ad.off]?=some x:=by
 unfold World.cell? at h;split at h
 ·rename_i cs e fr hb
  split at h
  ·cases h
  ·rename_i hs
   exact ⟨(zGe hb).1,by simpa using hs,cs,e,fr,hb,h⟩
 ·cases h
theorem ye9 {u w:World} {ad:Addr} (h:w.heap[ad.block]?=u.heap[ad.block]?):w.cell? ad=u.cell? ad:=by
 unfold World.cell?;rw [h]
theorem yfm {ad:Addr} (h:ad.spot=none) (j:Nat):ad.add j=⟨ad.block,ad.off+j,none⟩:=by
 cases ad with
 |mk b o s =>
  obtain rfl:s=none:=h;unfold Addr.add;split<;>simp_all
structure TwoRow (u w:World) (Sh:Loc->Prop) (v v':Value) (a:Option Addr) (l:List Int) (cp:Nat) (sa:Option Addr):Prop where
 lone:v=.slice a l.length cp
 comp:v'=sl sa l.length cp
 cap:l.length≤cp
 len:l.length≤9223372036854775807
 C:∀ w,Old u w->Kd.C (Kd.int .i64) w a l.length l
 row:RowAt w Sh sa l
 nil0:sa=none->l=[]
 spot:∀ x,sa=some x->0<l.length->x.spot=none
theorem yck (hW:WRel K L u w) (hI:ShI W0 K L Sh w) (hRd:∀ b,K.Rd b->b<K.N) {v v':Value} (hr:RelP K L v v') (h:yej u v):∃ a l cp sa,TwoRow u w Sh v v' a l cp sa:=by
 obtain ⟨a,n,cp,rfl,hcp,hn,hc⟩:=h;obtain ⟨l,hl,hlv⟩:∃ l:List Int,l.length=n∧∀ j,j<n->∃ ad,a=some ad∧u.cell? (ad.add j)=some (.int .i64 (l.getD j 0)):=by
  have hch:∀ j:Nat,∃ x:Int,j<n->∃ ad,a=some ad∧u.cell? (ad.add j)=some (.int .i64 x):=fun j=>by
   by_cases hj:j<n
   ·obtain ⟨ad,x,h1,h2⟩:=hc j hj
    exact ⟨x,fun _=>⟨ad,h1,h2⟩⟩
   ·exact ⟨0,fun h=>absurd h hj⟩
  refine ⟨(List.range n).map fun j=>Classical.choose (hch j),by simp,fun j hj=>?_⟩;have:=Classical.choose_spec (hch j) hj;simpa [List.getD_eq_getElem?_getD,hj] using this
 subst hl;have hC:∀ w,Old u w->Kd.C (Kd.int .i64) w a l.length l:=fun w ho=>by
  refine Kd.C_of_reads (d:=(0:Int)) (h1:=fun _=>rfl) ⟨rfl,hn,fun hp=>?_⟩;obtain ⟨ad,ha,_⟩:=hlv 0 hp;refine ⟨ad,ha,fun j hj=>?_⟩;obtain ⟨ad',ha',hx⟩:=hlv j hj;obtain rfl:=zSi (ha.symm.trans ha');rw [← hx];have hb:=(y4m hx).1;exact ye9 (ho.block _ hb)
 cases hr with
 |cell hr =>
  cases hr with
  |flat h =>
   have ha:a=none:=by simpa [y1c] using h
   subst ha;have hl0:l=[]:=by
    apply Classical.byContradiction;intro hne;obtain ⟨ad,h,_⟩:=hlv 0 (List.length_pos_iff.2 hne);cases h
   exact ⟨none,l,cp,none,⟨rfl,rfl,hcp,hn,hC,fun x hx=>(by cases hx),fun _=>hl0,fun x hx=>(by cases hx)⟩⟩
  |@slice ad ad' _ _ s hb ho hs =>
   have hno:=hI.no hW hRd hb;have hsp:0<l.length->ad.spot=none:=fun hp=>by
    obtain ⟨ad1,h1,h2⟩:=hlv 0 hp;obtain rfl:=zSi h1;have e0:ad.add 0=ad:=by unfold Addr.add;rw [if_pos rfl]
    rw [e0] at h2;exact (y4m h2).2.1
   refine ⟨some ad,l,cp,some ad',⟨rfl,rfl,hcp,hn,hC,fun x hx=>?_,fun h=>(by cases h),fun x hx hp=>?_⟩⟩
   ·obtain rfl:=zSi hx
    refine ⟨hno.1,hno.2,?_⟩;rcases hW.obj hb with ⟨c,c',e,e1,fr,fr',h1,h2,h3,_,_⟩|⟨es,es',cl,h1,_⟩
    ·refine ⟨c',e1,fr',fun hp=>?_,fun i v hi=>?_⟩
     ·obtain ⟨ad1,g1,g2⟩:=hlv 0 hp
      obtain rfl:=zSi g1;obtain ⟨_,_,cs,e',fr1,g3,g4⟩:=y4m g2;have e0:ad.add 0=ad:=by unfold Addr.add;rw [if_pos rfl]
      rw [e0] at g3 g4;rw [h1] at g3;injection g3 with g3
      injection g3 with g3
      subst g3;exact h2 (Nat.lt_of_le_of_lt (Nat.zero_le _) (zGe g4).1)
     ·have hlt:i<l.length:=(List.getElem?_eq_some_iff.1 hi).1
      obtain ⟨ad1,g1,g2⟩:=hlv i hlt;obtain rfl:=zSi g1;have hs0:=hsp (by omega);rw [yfm hs0] at g2;obtain ⟨_,_,cs,e',fr1,g3,g4⟩:=y4m g2;simp only at g3 g4;rw [h1] at g3;injection g3 with g3
      injection g3 with g3
      subst g3;obtain ⟨v',g5,g6⟩:=h3 _ _ g4;have hv:l.getD i 0=v:=by rw [List.getD_eq_getElem?_getD,hi];rfl
      rw [hv] at g6;have hv':v'=.int .i64 v:=by cases g6 with|flat _=>rfl
      rw [show i+ad'.off=ad.off+i+s by omega,g5,hv']
    ·refine ⟨#[],0,(0,0),fun hp=>?_,fun i v hi=>?_⟩
     ·exfalso
      obtain ⟨ad1,g1,g2⟩:=hlv 0 hp;obtain rfl:=zSi g1;obtain ⟨_,_,cs,e',fr1,g3,g4⟩:=y4m g2;have e0:ad.add 0=ad:=by unfold Addr.add;rw [if_pos rfl]
      rw [e0,h1] at g3;cases g3
     ·exfalso
      have hlt:i<l.length:=(List.getElem?_eq_some_iff.1 hi).1;obtain ⟨ad1,g1,g2⟩:=hlv 0 (by omega);obtain rfl:=zSi g1;obtain ⟨_,_,cs,e',fr1,g3,g4⟩:=y4m g2;have e0:ad.add 0=ad:=by unfold Addr.add;rw [if_pos rfl]
      rw [e0,h1] at g3;cases g3
   ·obtain rfl:=zSi hx
    rw [hs];exact hsp hp
theorem y8b {u' w':World} (hW:WRel K L u w) (hN:0<K.N) (ho:Old u u') (hk:RelyK K L w w') {m:Nat} {ex:List Nat} (hsz:u'.heap.size=u.heap.size+m+ex.length)
  (hex:∀ (j b:Nat),ex[j]?=some b->w.heap.size≤b∧∃ o,u'.heap[u.heap.size+m+j]?=some o∧w'.heap[b]?=some o∧RelO K (L ++ (List.replicate m 0 ++ ex)) o o) (hnd:∀ (i j b:Nat),ex[i]?=some b->ex[j]?=some b->i=j):WRel K (L ++ (List.replicate m 0 ++ ex)) u' w':=by
 have hpre:L <+: L ++ (List.replicate m 0 ++ ex):=List.prefix_append _ _;have split:∀ (j b:Nat),(L ++ (List.replicate m 0 ++ ex))[j]?=some b->(L[j]?=some b∧b<w.heap.size)∨b=0∨∃ i,j=L.length+m+i∧ex[i]?=some b:=by
  intro j b hj
  by_cases h1:j<L.length
  ·rw [List.getElem?_append_left h1] at hj
   exact .inl ⟨hj,hW.fresh j b hj⟩
  ·rw [List.getElem?_append_right (by omega)] at hj
   by_cases h2:j - L.length<m
   ·rw [List.getElem?_append_left (by simpa using h2),List.getElem?_replicate,if_pos h2] at hj
    exact .inr (.inl (zSi hj).symm)
   ·rw [List.getElem?_append_right (by simp;omega)] at hj
    exact .inr (.inr ⟨_,by simp;omega,hj⟩)
 have hus:=hW.usize;have hws:=hW.wsize;refine ⟨by rw [hsz];simp;omega,Nat.le_trans hws hk.size,ho.os.trans (hW.os.trans hk.os.symm),ho.output.trans (hW.output.trans hk.output.symm),fun j b hj=>?_,fun j b hj hn=>?_,fun i j b hi hj hn=>?_,fun b hb hl=>?_,hW.wr,fun j b' s hj=>?_,fun b b' s hj=>?_⟩
 ·rcases split j b hj with ⟨_,h⟩|rfl|⟨i,_,h⟩
  ·exact Nat.lt_of_lt_of_le h hk.size
  ·have:=hk.size
   omega
  ·obtain ⟨_,o,_,h2,_⟩:=hex i b h
   exact (zGe h2).1
 ·rcases split j b hj with ⟨h,_⟩|rfl|⟨i,rfl,h⟩
  ·obtain ⟨o,o',h1,h2,h3⟩:=hW.new j b h hn
   refine ⟨o,o',?_,?_,h3.mono hpre⟩
   ·rw [ho.block _ (zGe h1).1,h1]
   ·rw [hk.own b ⟨List.mem_iff_getElem?.2 ⟨j,h⟩,hn⟩,h2]
  ·omega
  ·obtain ⟨_,o,h1,h2,h3⟩:=hex i b h
   exact ⟨o,o,by rw [← h1];congr 1;omega,h2,h3⟩
 ·rcases split i b hi with ⟨h,h'⟩|rfl|⟨i',rfl,h⟩
  ·rcases split j b hj with ⟨g,g'⟩|rfl|⟨j',rfl,g⟩
   ·exact hW.nodup i j b h g hn
   ·omega
   ·have:=(hex j' b g).1
    omega
  ·omega
  ·rcases split j b hj with ⟨g,g'⟩|rfl|⟨j',rfl,g⟩
   ·have:=(hex i' b h).1
    omega
   ·omega
   ·rw [hnd i' j' b h g]
 ·obtain ⟨c,c',e,fr,fr',h1,h2,h3,h4⟩:=hW.old b hb hl
  exact ⟨c,c',e,fr,fr',by rw [ho.block _ (zGe h1).1,h1],by rw [hk.rd b hb hl,h2],⟨h3.1,fun i v v' g1 g2=>(h3.2 i v v' g1 g2).mono hpre⟩,h4⟩
 ·obtain ⟨h1,h2,⟨x,h3,h4⟩,c,c',e,e',fr',h5,h6,h7⟩:=hW.ali j b' s hj
  exact ⟨h1,h2,⟨x,ya5 hpre h3,h4⟩,c,c',e,e',fr',by rw [ho.block _ (zGe h5).1,h5],by rw [hk.al j b' s hj,h6],h7.mono hpre⟩
 ·obtain ⟨h1,h2,h3,h4,c,c',e,e',fr',h5,h6,h7⟩:=hW.roa b b' s hj
  exact ⟨h1,h2,h3,h4,c,c',e,e',fr',by rw [ho.block _ (zGe h5).1,h5],fun hp=>by rw [hk.ro b b' s hj];exact h6 hp,h7.mono hpre⟩
theorem y5c (xs:List Int) (cap:Nat):∀ c ∈ rowA xs cap,y1c c=true:=by
 intro c hc;unfold rowA at hc;rcases Array.mem_append.1 hc with hc|hc
 ·simp only [nums,List.mem_toArray,List.mem_map] at hc
  obtain ⟨x,_,rfl⟩:=hc;rfl
 ·rw [Ext.zeros_int _ c hc]
  rfl
theorem yb5 {B:Nat} {v v':Value} {xs:List Int} (hRd:∀ b,¬ K.Rd b) (hal:K.al=[]) (hB:K.N≤B) (hW:WRel K L u w) (hr:RelP K L v v') (h:Ext.OwnI u B v xs) :
  (xs=[]∧v'=.slice none 0 0)∨(xs≠[]∧∃ b cap,v'=.slice (some ⟨b,0,none⟩) xs.length cap∧b ∈ L∧w.heap[b]?=some (.cells (rowA xs cap) 3 (0,0))∧xs.length≤cap∧cap≤maxLen):=by
 rcases ya6 h with ⟨rfl,rfl⟩|⟨hx,g,cap,rfl,hg,hgb,h1,h2⟩
 ·refine .inl ⟨rfl,?_⟩
  cases hr with
  |cell hr=>cases hr with|flat _=>rfl
 ·refine .inr ⟨hx,?_⟩
  cases hr with
  |cell hr =>
   cases hr with
   |flat h=>simp [y1c] at h
   |@slice a a' n c s hb ho hs =>
    rcases hb with ⟨rfl,⟨hr,_,_⟩|⟨j,hj,hL,hn⟩⟩|⟨j,_,hj⟩|hro
    ·exact absurd hr (hRd _)
    ·obtain ⟨o,o',g1,g2,g3⟩:=hW.new j a'.block hL hn
     simp only at hj;rw [← hj,hgb] at g1;obtain rfl:=zSi g1;cases g3 with
     |cells g3 =>
      have:=yat g3 (Array.all_eq_true_iff_forall_mem.2 (y5c xs cap));subst this;refine ⟨a'.block,cap,?_,List.mem_iff_getElem?.2 ⟨j,hL⟩,g2,h1,h2⟩;cases a' with
      |mk b o s =>
       simp only at ho hs;subst ho hs;rfl
    ·rw [hal] at hj
     simp at hj
    ·have:=(hW.roa _ _ _ hro).1
     simp only at this;omega
end
end Go.Mt
namespace Go.Mt
open Go.Tr Go.Conc Go.ConcN Go.Proofs Go.RowKit
open Go.Proofs.Ytdhgeondbnpeoaa Go.Proofs.Ytdhgeondbnpeoaa.P Go.Proofs.Ytdhgeondbnpeoaa.Pl Go.Proofs.Yw.Wd Go.Proofs.Yw.La Go.Proofs.Yw.Mo
def xad (i:Nat) (s:Option Addr):Option Addr:=s.map fun x=>⟨i,0,x.spot⟩
theorem ybd (i:Nat) (s:Option Addr) (n c:Nat):xl i s n c=.slice (xad i s) n c:=by cases s<;>rfl
theorem xa_C {u:World} {i:Nat} {s:Option Addr} {l:List Int} (hn:l.length≤9223372036854775807) (h0:s=none->l=[]) (hs:∀ x,s=some x->0<l.length->x.spot=none) (hb:u.heap[i]?=some (intO l)):Kd.C (Kd.int .i64) u (xad i s) l.length l:=by
 refine Kd.C_of_reads (d:=(0:Int)) (h1:=fun _=>rfl) ⟨rfl,hn,fun hp=>?_⟩;cases s with
 |none =>
  have:=h0 rfl;subst this;simp at hp
 |some x =>
  refine ⟨⟨i,0,x.spot⟩,rfl,fun j hj=>?_⟩;rw [hs x rfl hp,y14,cell_of_row u i j _ _ _ hb];simp [y81,List.getElem?_eq_getElem hj,List.getD_eq_getElem?_getD]
theorem y6x {N:Nat} {u:World} {v:Value} {xs:List Int} (τ:Nat->Question->Nat) (h:Ext.OwnI u N v xs):Ext.OwnI (retape u τ) N v xs:=h.move fun _ _=>rfl
theorem ybx {K:Cfg} {L:List Nat} {cs:Array Value} (h:∀ c ∈ cs,y1c c=true):RelV K L (.tuple cs) (.tuple cs):=.tuple ⟨rfl,fun i v v' h1 h2=>by
 rw [h1] at h2;obtain rfl:=zSi h2;exact .cell (.flat (h v (Array.mem_iff_getElem?.2 ⟨i,h1⟩)))⟩
theorem ydf {N:Nat} {u:World} {v:Value} {xs:List Int} (h:Ext.OwnI u N v xs):∃ s n c,v=.slice s n c:=by
 rcases ya6 h with ⟨_,rfl⟩|⟨_,g,cap,rfl,_⟩<;>exact ⟨_,_,_,rfl⟩
section
variable {W0:World} {S T:FuncId->Bool} {K:Cfg} {Post:FuncId->Array Value->World->Prop}
theorem y8j (hP:∀ f t u τ,Post f t u->Post f t (retape u τ)) (hN:0<K.N) (hRd:∀ b,K.Rd b->b<K.N):SpecF 34 W0 Tra.prog Try.prog.funcs S T kdOf K [] [] Post:=by
 intro L g g' gs u w t q Sh sl0 hE hLT hW hI hF;obtain ⟨xs,xs',cs,cs',rfl,rfl,has,hne,hz,hstk⟩:=hE;have h0:xs.size=2:=by
  have:(match Tra.prog.funcs[34]? with|some fn=>fn.params.size == xs.size|none=>false)=true:=hz;rw [Tra.func34] at this;have h2:Tra.f34.params.size=2:=rfl;simp only [h2,beq_iff_eq] at this;exact this.symm
 obtain ⟨va,vb,rfl⟩:∃ a b,xs=#[a,b]:=⟨xs[0],xs[1],by
  apply Array.ext
  ·simp [h0]
  ·intro i h1 h2
   rcases i with _|_|i
   ·rfl
   ·rfl
   ·omega⟩
 have h0':xs'.size=2:=has.1.trans rfl;obtain ⟨va',vb',rfl⟩:∃ a b,xs'=#[a,b]:=⟨xs'[0],xs'[1],by
  apply Array.ext
  ·simp [h0']
  ·intro i h1 h2
   rcases i with _|_|i
   ·rfl
   ·rfl
   ·omega⟩
 have hra:RelP K L va va':=has.2 0 _ _ rfl rfl;have hrb:RelP K L vb vb':=has.2 1 _ _ rfl rfl;have hbare:=hstk.bare;cases hstk with
 |nil=>exact absurd rfl hne
 |@cons _ g tm tm' ops i rest td cs cs' o ht ho hd hc hSg hs =>
  obtain ⟨ia,ib,s,hAt⟩:=in34 hP hbare (fun a n cp hv=>ycw hW hra hv) (fun a n cp hv=>ycw hW hrb hv) (At.mk hLT (.nil (y15 u)));obtain ⟨a,la,ca,sa,ra⟩:=yck hW hI hRd hra ia;obtain ⟨b,lb,cb,sb,rb⟩:=yck hW hI hRd hrb ib;obtain ⟨rfl,rfl,hca,hna,hCa,hrowa,hna0,hspa⟩:=ra;obtain ⟨rfl,rfl,hcb,hnb,hCb,hrowb,hnb0,hspb⟩:=rb;have hrd:mobs_read.f 30 [la,lb]=some (y2o la lb):=y4v la lb (zLe _);have hbel:y2o la lb=0->mobs_below.f 30 la lb=some (Ext.numL (la.zip lb)):=fun he=>let ⟨q1,q2,q3⟩:=y22 he;yed q1 q2 q3 (by decide)
  have habv:y2o la lb=0->mobs_above.f la lb=some (Ext.aboveL la lb):=fun he=>let ⟨q1,q2,q3⟩:=y22 he;yeh q1 q2 q3
  have hg:yfr w Sh (roAB sa sb) [intO la,intO lb] sa sb:=yc5 hI.shB hI.mem hrowa hrowb;have hwf:wf Tra.prog Try.prog.funcs=Try.prog:=Tra.same;rw [hwf] at hF;refine (meetCo (sl0:=sl0) (er:=y2o la lb) (Post0:=fun n v u=>Ext.OwnI u n v (Ext.numL (la.zip lb))) (Post1:=fun n v u=>Ext.OwnI u n v (Ext.aboveL la lb)) Tra.duo.same Tra.duo.calm (fun _ h=>h) Tra.s49 Tra.s63 Tra.s65 hg
   (fun _ _ _ τ h=>y6x τ h) (fun _ _ _ τ h=>y6x τ h) (fun _ _ _ h=>ydf h)
   (fun u hA hu=>?_) (fun he u hA=>?_) (fun he u hA=>?_) hF).mono fun m t ⟨gs',w',sl',q',Sh',r,hm,hF',hleft⟩=>?_
  ·rw [ybd,ybd] at hu
   exact (mobs_read.calls 30 (some ⟨2,0,none⟩) 2 [la,lb] (y2o la lb) u (pair_C hu (xa_C hna hna0 hspa (hA 0 _ rfl)) hca (xa_C hnb hnb0 hspb (hA 1 _ rfl)) hcb) (by simp) hrd).mono fun e w' hp=>hp.1
  ·rw [ybd,ybd]
   exact (mobs_below.flat 30 _ ca la _ cb lb _ u (xa_C hna hna0 hspa (hA 0 _ rfl)) hca (xa_C hnb hnb0 hspb (hA 1 _ rfl)) hcb (hbel he)).mono fun e w' ⟨v,h1,h2,_⟩=>⟨v,h1,h2⟩
  ·rw [ybd,ybd]
   exact (mobs_above.own _ ca la _ cb lb _ u (xa_C hna hna0 hspa (hA 0 _ rfl)) hca (xa_C hnb hnb0 hspb (hA 1 _ rfl)) hcb (habv he)).mono fun e w' ⟨v,h1,h2,_⟩=>⟨v,h1,h2⟩
  have hrel:RelyK K L w w':=⟨hleft.kept.os,hleft.kept.output,hleft.kept.size,fun b hb hl=>hleft.kept.old b (Nat.lt_of_lt_of_le hl hW.wsize),fun b hb=>hleft.kept.old b (hW.within b hb.1),fun j b s hj=>hleft.kept.old b (Nat.lt_of_lt_of_le (hW.ali j b s hj).1 hW.wsize),fun a b s hr=>hleft.kept.old b (Nat.lt_of_lt_of_le (hW.roa a b s hr).2.2.1 hW.wsize)⟩
  have hnone:oneB Tra.prog 34=false:=by
   have h1:(Tra.f34.results.size == 1)=false:=rfl;simpa [oneB] using h1
  have hdst:(ops[i]?).bind (·.dst)=o.dst:=by rw [ho];rfl
  have hcr:(Item.inRegion ops rest :: td).all (y2p Tra.prog T (kdOf g))=true:=by
   simp only [List.all_cons,Bool.and_eq_true,y2p] at hc ⊢;exact hc
  suffices hsuf:∃ (L':List Nat) (u':World) (y:Value),L <+: L'∧LPath Tra.prog (G (Frame.enter Tra.prog 34 #[.slice a la.length ca,.slice b lb.length cb] .normal) (frm g tm (.inRegion ops (i :: rest) :: td) .run :: (cs ++ [c0]))) u (G ((frm g tm (.inRegion ops (i :: rest) :: td) .run).finish y) (cs ++ [c0])) u'∧RelV K L' y r∧WRel K L' u' w'∧∀ b,In K L' b->In K L b∨w.heap.size≤b∧∀ l,inB b l->¬ Sh' l by
   obtain ⟨L',u',y,hpre,hpath,hry,hW',hin⟩:=hsuf;have hvd:RelD K (kdOf g) o.dst L' y r:=.tuple hry (by rw [hnone] at hd;exact hd);refine ⟨gs',w',sl',q',Sh',L',_,_,u',hm,hF',hpath,?_,?_,hW',?_⟩
   ·rintro ⟨_,h⟩
    simp only [y2h,G] at h;rcases h with h|⟨_,h⟩
    ·cases h
    ·cases h
   ·simp only [y2h,hdst]
    exact ⟨g,_,_,_,_,cs,cs',rfl,rfl,(ht.mono hpre).put2 _ hvd,hcr,hSg,hs.mono hpre,.inl rfl⟩
   ·have hnews:∀ l b,b<w.heap.size->Sh' l->inB b l->Sh l:=fun l b hb h1 h2=>by
     rcases hleft.news l b h1 h2 with h|h
     ·exact h
     ·omega
    refine ⟨hI.kept.trans ⟨hleft.kept.os,hleft.kept.output,hleft.kept.tape,hleft.kept.size,fun b hb=>hleft.kept.old b (Nat.lt_of_lt_of_le hb hW.wsize)⟩,fun l hl=>hleft.sh l (hI.mem l hl),hleft.shB,fun b hb l hl hs=>?_,fun b hb l hl hs=>?_,fun j b s hj l hl hs=>?_,fun a b s hr l hl hs=>?_⟩
    ·exact hI.rd b hb l hl (hnews l b (Nat.lt_of_lt_of_le (hRd b hb) hW.wsize) hs hl)
    ·rcases hin b hb with h|⟨_,h⟩
     ·exact hI.al b h l hl (hnews l b (hW.within b h.1) hs hl)
     ·exact h l hl hs
    ·exact hI.ra j b s hj l hl (hnews l b (Nat.lt_of_lt_of_le (hW.ali j b s hj).1 hW.wsize) hs hl)
    ·exact hI.rr a b s hr l hl (hnews l b (Nat.lt_of_lt_of_le (hW.roa a b s hr).2.2.1 hW.wsize) hs hl)
  have hus:=hW.usize;have hin0:∀ (m:Nat) (ex:List Nat),(∀ b ∈ ex,w.heap.size≤b∧∀ l,inB b l->¬ Sh' l)->∀ b,In K (L ++ (List.replicate m 0 ++ ex)) b->In K L b∨w.heap.size≤b∧∀ l,inB b l->¬ Sh' l:=by
   rintro m ex hex b ⟨hb,hbn⟩
   rcases List.mem_append.1 hb with hb|hb
   ·exact .inl ⟨hb,hbn⟩
   rcases List.mem_append.1 hb with hb|hb
   ·have:=(List.mem_replicate.1 hb).2
    omega
   ·exact .inr (hex b hb)
  have bare:∀ (u':World) (vs:Array Value),Old u u'->(∀ c ∈ vs,y1c c=true)->r=.tuple vs->At Tra.prog Post (G (Frame.enter Tra.prog 34 #[.slice a la.length ca,.slice b lb.length cb] .normal) (frm g tm (.inRegion ops (i :: rest) :: td) .run :: (cs ++ [c0]))) u (G ((frm g tm (.inRegion ops (i :: rest) :: td) .run).finish (.tuple vs)) (cs ++ [c0])) u'->∃ (L':List Nat) (u':World) (y:Value),L <+: L'∧LPath Tra.prog (G (Frame.enter Tra.prog 34 #[.slice a la.length ca,.slice b lb.length cb] .normal) (frm g tm (.inRegion ops (i :: rest) :: td) .run :: (cs ++ [c0]))) u (G ((frm g tm (.inRegion ops (i :: rest) :: td) .run).finish y) (cs ++ [c0])) u'∧RelV K L' y r∧WRel K L' u' w'∧∀ b,In K L' b->In K L b∨w.heap.size≤b∧∀ l,inB b l->¬ Sh' l:=by
   intro u' vs hold hfl hr hat;refine ⟨L ++ (List.replicate (u'.heap.size - u.heap.size) 0 ++ []),u',_,List.prefix_append _ _,hat.path,by rw [hr];exact ybx hfl,?_,hin0 _ _ (by simp)⟩;exact y8b hW hN hold hrel (by have:=hold.size;simp;omega) (by simp) (by simp)
  rcases hleft.val with ⟨hne,hr⟩|⟨he,M,L1,L2,v0,v0',u0,v1,v1',u1,hr,hM,hv0,hW0,hp0,hv1,hW1,hp1,hL1,hL2,hShM⟩
  ·obtain ⟨u',y,hat,⟨_,rfl,hold⟩|⟨he,_⟩⟩:=out34 (r0:=[]) (r1:=[]) (cap0:=0) (cap1:=0) hP hCa hca hCb hcb hrd (fun h=>absurd h hne) (fun h=>absurd h hne) (by simp) (by simp) ⟨by simp,by simp⟩ ⟨by simp,by simp⟩ hAt
   ·exact bare u' _ hold (by simp [y1c]) hr hat
   ·exact absurd he hne
  obtain ⟨hpa,hpb,hll⟩:=y22 he;have hla12:=y2b hpa;have hlen0:=y67 hll;have hlen1:=y69 la lb;have hn0:(Ext.numL (la.zip lb)).length<17592186044416:=by omega
  have hn1:(Ext.aboveL la lb).length<17592186044416:=by omega
  have c0':=yb5 (fun _ h=>h) rfl (zLe _) hW0 hv0 hp0;have c1':=yb5 (fun _ h=>h) rfl (zLe _) hW1 hv1 hp1;rcases c0' with ⟨e0,rfl⟩|⟨x0,b0,cap0,rfl,hb0,hw0,hc0,hm0⟩
  ·have e1:Ext.aboveL la lb=[]:=List.eq_nil_of_length_eq_zero (by rw [hlen1,← hlen0,e0];rfl)
   obtain rfl:v1'=.slice none 0 0:=by
    rcases c1' with ⟨_,h⟩|⟨h,_⟩
    ·exact h
    ·exact absurd e1 h
   obtain ⟨u',y,hat,⟨hne,_⟩|⟨_,y0,y1,w1,w2,rfl,ho1,hm1,hs1,hp1',hm2,hs2,hp2⟩⟩:=out34 (cap0:=0) (cap1:=0) hP hCa hca hCb hcb hrd hbel habv hn0 hn1 ⟨by rw [e0];simp,by simp⟩ ⟨by rw [e1];simp,by simp⟩ hAt
   ·exact absurd he hne
   have hold:Old u u':=ho1.trans ((hm1.old hs1 hp1').trans (hm2.old hs2 hp2));obtain rfl:y0=.slice none 0 0:=by
    rcases hm1 with ⟨_,h,_⟩|⟨h,_⟩
    ·exact h
    ·exact absurd e0 h
   obtain rfl:y1=.slice none 0 0:=by
    rcases hm2 with ⟨_,h,_⟩|⟨h,_⟩
    ·exact h
    ·exact absurd e1 h
   exact bare u' _ hold (by simp [y1c]) hr hat
  ·have x1:Ext.aboveL la lb≠[]:=fun h=>x0 (List.eq_nil_of_length_eq_zero (by rw [hlen0,← hlen1,h];rfl))
   obtain ⟨b1,cap1,rfl,hb1,hw1,hc1,hm1'⟩:∃ b cap,v1'=.slice (some ⟨b,0,none⟩) (Ext.aboveL la lb).length cap∧b ∈ L2∧w'.heap[b]?=some (.cells (rowA (Ext.aboveL la lb) cap) 3 (0,0))∧(Ext.aboveL la lb).length≤cap∧cap≤maxLen:=by
    rcases c1' with ⟨h,_⟩|⟨_,h⟩
    ·exact absurd h x1
    ·exact h
   obtain ⟨u',y,hat,⟨hne,_⟩|⟨_,y0,y1,w1,w2,rfl,ho1,hm1,hs1,hp1',hm2,hs2,hp2⟩⟩:=out34 (cap0:=cap0) (cap1:=cap1) hP hCa hca hCb hcb hrd hbel habv hn0 hn1 ⟨hc0,hm0⟩ ⟨hc1,hm1'⟩ hAt
   ·exact absurd he hne
   have hold:Old u u':=ho1.trans ((hm1.old hs1 hp1').trans (hm2.old hs2 hp2));rcases hm1 with ⟨h,_⟩|⟨_,rfl,hh1⟩
   ·exact absurd h x0
   rcases hm2 with ⟨h,_⟩|⟨_,rfl,hh2⟩
   ·exact absurd h x1
   have hB0:=(hL1 b0 hb0).1;have hB1:=hL2 b1 hb1;have hne01:b0≠b1:=fun h=>(hL1 b0 hb0).2 (h ▸ hb1)
   have hz1:=ho1.size;have hz2:w2.heap.size=w1.heap.size+1:=by rw [hh1,Array.size_push]
   have hz3:u'.heap.size=w1.heap.size+2:=by rw [hh2,Array.size_push,hz2]
   have hg0:u'.heap[w1.heap.size]?=some (.cells (rowA (Ext.numL (la.zip lb)) cap0) 3 (0,0)):=by
    rw [hh2,Array.getElem?_push,if_neg (by omega),hh1,Array.getElem?_push,if_pos rfl]
   have hg1:u'.heap[w1.heap.size+1]?=some (.cells (rowA (Ext.aboveL la lb) cap1) 3 (0,0)):=by
    rw [hh2,Array.getElem?_push,if_pos (by omega)]
   have hm:u.heap.size+(w1.heap.size - u.heap.size)=w1.heap.size:=by omega
   have hwk:=hW.wsize;refine ⟨L ++ (List.replicate (w1.heap.size - u.heap.size) 0 ++ [b0,b1]),u',_,List.prefix_append _ _,hat.path,?_,y8b hW hN hold hrel (by simp;omega) (fun j b hj=>?_) (fun i j b hi hj=>?_),hin0 _ _ fun b hb=>?_⟩
   ·rw [hr]
    have hat0:∀ j b,[b0,b1][j]?=some b->(L ++ (List.replicate (w1.heap.size - u.heap.size) 0 ++ [b0,b1]))[L.length+(w1.heap.size - u.heap.size)+j]?=some b:=fun j b hj=>by
     rw [List.getElem?_append_right (by omega),List.getElem?_append_right (by simp;omega)];rw [← hj]
     congr 1
     simp;omega
    refine .tuple ⟨rfl,fun i v v' h1 h2=>?_⟩;rcases i with _|_|_|i
    ·obtain rfl:_=v:=by simpa using h1
     obtain rfl:_=v':=by simpa using h2
     exact .cell (.slice (s:=0) (.inl ⟨rfl,.inr ⟨L.length+(w1.heap.size - u.heap.size)+0,by simp only;omega,hat0 0 b0 rfl,by simp only;omega⟩⟩) rfl rfl)
    ·obtain rfl:_=v:=by simpa using h1
     obtain rfl:_=v':=by simpa using h2
     exact .cell (.slice (s:=0) (.inl ⟨rfl,.inr ⟨L.length+(w1.heap.size - u.heap.size)+1,by simp only;omega,hat0 1 b1 rfl,by simp only;omega⟩⟩) rfl rfl)
    ·obtain rfl:_=v:=by simpa using h1
     obtain rfl:_=v':=by simpa using h2
     exact .cell (.flat rfl)
    ·simp at h1
   ·rcases j with _|_|j
    ·obtain rfl:b0=b:=by simpa using hj
     exact ⟨by omega,_,by rw [hm];exact hg0,hw0,.cells (y6t (y5c _ _))⟩
    ·obtain rfl:b1=b:=by simpa using hj
     exact ⟨by omega,_,by rw [hm];exact hg1,hw1,.cells (y6t (y5c _ _))⟩
    ·simp at hj
   ·rcases i with _|_|i
    ·rcases j with _|_|j
     ·rfl
     ·simp at hi hj;omega
     ·simp at hj
    ·rcases j with _|_|j
     ·simp at hi hj;omega
     ·rfl
     ·simp at hj
    ·simp at hi
   ·have hbb:M+4≤b:=by
     rcases List.mem_cons.1 hb with rfl|hb
     ·exact hB0
     ·obtain rfl:=List.mem_singleton.1 hb
      exact hB1
    exact ⟨by omega,fun l hl hs=>by have:=hShM l b hs hl;omega⟩
end
end Go.Mt
namespace Go.Proofs.Ytdhgeondbnpeoaa.Ca
open Go.RowKit Go.Mt Go.Tr Go.Conc Go.ConcN
theorem yfj {W w:World} (h:Kept W.heap.size W w):Below W.heap.size W w:=⟨h.os,h.tape,h.output,h.size,h.old⟩
section
variable {H:Type} {enc:TypeId × Value->H}
theorem leaving_sized {a:Assume} {C:Checked} {os:Os} {f:FuncId} {fn:Func} {s:ChangeSpec} {conds:List PathCond} {apart fresh handsOn again:Bool}
  (own:ownKnob C.prog.godebug=none) (started:os.Started) (hz0:decide (C.prog.globals.size<(begin C.prog (fun _ _=>0) default).world.heap.size)=true) (hfn:C.prog.funcs[f]?=some fn)
  (witness:∃ (w:World) (tape:Tape) (i:Input),w.os=os∧(w.forCall tape i).Shaped C.prog∧i.vars=[]∧Input.okWide C.prog (w.forCall tape i) .any w.heap.size f i ∧
   s.pre6 enc C.prog fn conds apart (w.forCall tape i).memory i.args∧a.holds C.prog (Go.lone (Frame.enter C.prog f i.args .normal) [] (w.forCall tape i)))
  (runs:∀ (W:World) (base:Nat) (args:Array Value) (ds gs:List (DataW H)) (before:List MemPlace),0<W.heap.size →
   (∀ (j:Nat) t v,fn.params[j]?=some t->args[j]?=some v->Value.okWide C.prog W .any base t v) →
   DataW.Whole enc C.prog fn.params.toList s.vars apart W args.toList ds gs before →
   conds.all (PathCond.test C.prog ⟨fn.params.toList,ds,s.plain.varTypes C.prog,gs⟩)=true →
   (DataW.weightsEach C.prog (fn.params.toList ++ s.plain.varTypes C.prog) (ds ++ gs)).all (·≤reachBytes)=true →
   a.holds C.prog (Go.lone (Frame.enter C.prog f args .normal) [] W) →
   ∃ M last o w' t',runNT C.prog (M+1) (solo (G (Frame.enter C.prog f args .normal) []) W) #[]=(.ended o w',t')∧runN C.prog M (solo (G (Frame.enter C.prog f args .normal) []) W)=.next last ∧
    step C.prog last=.ended o w'∧Conc.Good C.prog (fun v W'=>s.post enc C.prog fn apart fresh handsOn again W args v W') last o w' t') :
  ReturnsInLeavingWide a C os f .any (s.pre6 enc C.prog fn conds apart) (s.post enc C.prog fn apart fresh handsOn again):=by
 refine returnsInLeavingWide_of_good own started witness ?_;intro w tape i _ hsh _ hok hpre hholds;obtain ⟨_,_,_,fn',hfn',_,_,_,_,hval⟩:=hok;have e:fn'=fn:=zSi (hfn'.symm.trans hfn);subst e;obtain ⟨⟨ds,gs,before,hw,hc⟩,hz⟩:=hpre;have hw':=DataW.Whole.of_heap (w':=w.forCall tape i) (by rfl) hw;have h0:0<(w.forCall tape i).heap.size:=by
  obtain ⟨o,_,h1,_⟩:=hsh.2 C.prog.globals.size (zLe _) (zDo hz0);have:=(zGe h1).1;omega
 obtain ⟨M,last,o,w',t',h1,h2,h3,h4⟩:=runs (w.forCall tape i) w.heap.size i.args ds gs before h0 hval hw' hc (hz.weights hw) hholds;exact ⟨M,last,o,w',t',h1,h2,h3,h4.mono fun v hp=>ChangeSpec.post_blind hp⟩
end
theorem some_block:decide (Try.prog.globals.size<(begin Try.prog (fun _ _=>0) default).world.heap.size)=true:=by kernel_rfl
structure SlD where
 a:Option Addr
 len:Nat
 cap:Nat
 zs:List Int
def SlD.val (d:SlD):Value:=.slice d.a d.len d.cap
def SlD.ok (W:World) (d:SlD):Prop :=
 (d.a=none∧d.len=0∧d.cap=0∧d.zs=[])∨∃ x,d.a=some x∧x.spot=none∧(∃ cs e fr,W.heap[x.block]?=some (.cells cs e fr))∧d.len≤d.cap∧d.cap≤maxLen∧d.zs.length=d.cap ∧
  (∀ i,i<d.zs.length->W.cell? (x.add i)=some (.int .i64 (d.zs.getD i 0)))∧∀ n ∈ d.zs,(Lit.int .i64 n).wf=true
def SlD.ints (d:SlD):Array Value:=(d.zs.map (Value.int .i64)).toArray
def lone (N:Nat):Nat->List SlD->List SlD
 |_,[]=>[]
 |j,d :: ds=>match d.a with
  |none=>d :: lone N j ds
  |some _=>{ d with a:=some ⟨N+j,0,none⟩ } :: lone N (j+1) ds
def als:List SlD->List (Nat × Nat)
 |[]=>[]
 |d :: ds=>match d.a with
  |none=>als ds
  |some x=>(x.block,x.off) :: als ds
def blks:List SlD->List Obj
 |[]=>[]
 |d :: ds=>match d.a with
  |none=>blks ds
  |some _=>.cells d.ints 3 (0,d.ints.size) :: blks ds
theorem yb7:∀ ds:List SlD,(blks ds).length=(als ds).length
 |[]=>rfl
 |d :: ds=>by
  unfold blks als;cases d.a<;>simp [yb7 ds]
theorem y80 (N:Nat):∀ (j:Nat) (ds:List SlD),(lone N j ds).length=ds.length
 |_,[]=>rfl
 |j,d :: ds=>by
  unfold lone;cases d.a<;>simp [y80]
theorem ya8 (N:Nat):∀ (ds:List SlD) (j k:Nat) (d d':SlD),ds[k]?=some d->(lone N j ds)[k]?=some d' →
  d'.len=d.len∧d'.cap=d.cap∧d'.zs=d.zs∧((d.a=none∧d'.a=none)∨∃ x i,d.a=some x∧d'.a=some ⟨N+(j+i),0,none⟩∧(als ds)[i]?=some (x.block,x.off)∧(blks ds)[i]?=some (.cells d.ints 3 (0,d.ints.size)))
 |[],j,k,d,d',h,_=>by simp at h
 |c :: ds,j,k,d,d',h,h'=>by
  unfold lone at h';unfold als blks;cases hc:c.a with
  |none =>
   rw [hc] at h';simp only at h' ⊢;cases k with
   |zero =>
    simp only [List.getElem?_cons_zero,Option.some.injEq] at h h';subst h h';exact ⟨rfl,rfl,rfl,.inl ⟨hc,hc⟩⟩
   |succ k =>
    simp only [List.getElem?_cons_succ] at h h';exact ya8 N ds j k d d' h h'
  |some x =>
   rw [hc] at h';simp only at h' ⊢;cases k with
   |zero =>
    simp only [List.getElem?_cons_zero,Option.some.injEq] at h h';subst h h';exact ⟨rfl,rfl,rfl,.inr ⟨x,0,hc,rfl,rfl,rfl⟩⟩
   |succ k =>
    simp only [List.getElem?_cons_succ] at h h';obtain ⟨h1,h2,h3,h4⟩:=ya8 N ds (j+1) k d d' h h';refine ⟨h1,h2,h3,h4.imp id ?_⟩
    rintro ⟨y,i,e1,e2,e3,e4⟩
    exact ⟨y,i+1,e1,by rw [e2];congr 2;omega,by simpa using e3,by simpa using e4⟩
theorem yb8:∀ (ds:List SlD) (i b s:Nat),(als ds)[i]?=some (b,s)->∃ d x,d ∈ ds∧d.a=some x∧x.block=b∧x.off=s∧(blks ds)[i]?=some (.cells d.ints 3 (0,d.ints.size))
 |[],i,b,s,h=>by simp [als] at h
 |c :: ds,i,b,s,h=>by
  unfold als at h;unfold blks;cases hc:c.a with
  |none =>
   rw [hc] at h;obtain ⟨d,x,h1,h2⟩:=yb8 ds i b s h;exact ⟨d,x,List.mem_cons_of_mem _ h1,h2⟩
  |some y =>
   rw [hc] at h;simp only at h;cases i with
   |zero =>
    simp only [List.getElem?_cons_zero,Option.some.injEq,Prod.mk.injEq] at h;exact ⟨c,y,List.mem_cons_self,hc,h.1,h.2,rfl⟩
   |succ i =>
    simp only [List.getElem?_cons_succ] at h;obtain ⟨d,x,h1,h2,h3,h4,h5⟩:=yb8 ds i b s h;exact ⟨d,x,List.mem_cons_of_mem _ h1,h2,h3,h4,by simpa using h5⟩
def ya9 (W:World) (ds:List SlD):World:={ W with heap:=Array.replicate W.heap.size (.map #[] 0) ++ (blks ds).toArray }
def KA (W:World) (ds:List SlD):Cfg:=⟨W.heap.size,fun _=>False,fun _=>False,als ds,fun _ _ _=>False⟩
theorem y9b (W:World) (ds:List SlD) (j:Nat):(ya9 W ds).heap[W.heap.size+j]?=(blks ds)[j]?:=by
 unfold ya9;simp only;rw [Array.getElem?_append_right (by simp)];simp
theorem yf6 {W:World} {ds:List SlD} (hok:∀ d ∈ ds,d.ok W):WRel (KA W ds) ((als ds).map Prod.fst) (ya9 W ds) W:=by
 have hlt:∀ (j b s:Nat),(als ds)[j]?=some (b,s)->b<W.heap.size:=by
  intro j b s hj;obtain ⟨d,x,h1,h2,h3,_⟩:=yb8 ds j b s hj;rcases hok d h1 with ⟨h4,_⟩|⟨y,h4,_,⟨cs,e,fr,h5⟩,_⟩
  ·rw [h2] at h4;cases h4
  ·obtain rfl:=zSi (h2.symm.trans h4)
   rw [← h3];exact (zGe h5).1
 have hL:∀ (j b:Nat),((als ds).map Prod.fst)[j]?=some b->b<W.heap.size:=by
  intro j b hj;rw [List.getElem?_map] at hj;obtain ⟨⟨b',s⟩,h1,h2⟩:=Option.map_eq_some_iff.1 hj;subst h2;exact hlt j b' s h1
 refine ⟨?_,zLe _,rfl,rfl,hL,fun j b hj hn=>?_,fun i j b hi hj hn=>?_,fun b hb=>hb.elim,fun b hb=>hb.elim,fun j b s hj=>?_,fun _ _ _ h=>h.elim⟩
 ·show (Array.replicate W.heap.size _ ++ (blks ds).toArray).size=_
  simp [KA,yb7]
 ·have:=hL j b hj
  exact absurd hn (Nat.not_le_of_lt this)
 ·have:=hL i b hi
  exact absurd hn (Nat.not_le_of_lt this)
 ·replace hj:(als ds)[j]?=some (b,s):=hj
  obtain ⟨d,x,h1,h2,h3,h4,h5⟩:=yb8 ds j b s hj;rcases hok d h1 with ⟨h6,_⟩|⟨y,h6,hsp,⟨cs,e,fr,h7⟩,_,_,hzl,hcell,_⟩
  ·rw [h2] at h6;cases h6
  ·obtain rfl:=zSi (h2.symm.trans h6)
   subst h3 h4;refine ⟨(zGe h7).1,fun h=>h,⟨x.block,by rw [List.getElem?_map,hj];rfl,(zGe h7).1⟩,d.ints,cs,3,e,fr,?_,h7,fun i v hv=>?_⟩
   ·show (ya9 W ds).heap[W.heap.size+j]?=_
    rw [y9b,h5]
   ·have hi:i<d.zs.length:=by
     have:=(zGe hv).1;simpa [SlD.ints] using this
    have e1:v=.int .i64 (d.zs.getD i 0):=by
     have:d.ints[i]?=some (.int .i64 (d.zs.getD i 0)):=by simp [SlD.ints,List.getElem?_eq_getElem hi,List.getD_eq_getElem?_getD]
     exact zSi (hv.symm.trans this)
    have e2:=hcell i hi;obtain ⟨xb,xo,xs⟩:=x;simp only at hsp h7;subst hsp;have e3:(⟨xb,xo,none⟩:Addr).add i=⟨xb,xo+i,none⟩:=by unfold Addr.add;split<;>simp_all
    rw [e3,cell_of_row W xb (xo+i) cs e fr h7] at e2;exact ⟨v,by rw [Nat.add_comm,e2,e1],by rw [e1];exact .flat rfl⟩
theorem yb1 {W:World} {ds:List SlD} (hok:∀ d ∈ ds,d.ok W) {k:Nat} {d d':SlD} (h:ds[k]?=some d) (h':(lone W.heap.size 0 ds)[k]?=some d') :
  d'.len=d.len∧d'.cap=d.cap∧d'.zs=d.zs∧RelC (KA W ds) ((als ds).map Prod.fst) d'.val d.val∧∀ u:World,u.heap=(ya9 W ds).heap->d'.ok u:=by
 obtain ⟨h1,h2,h3,h4⟩:=ya8 W.heap.size ds 0 k d d' h h';refine ⟨h1,h2,h3,?_,fun u hu=>?_⟩
 ·rcases h4 with ⟨e1,e2⟩|⟨x,i,e1,e2,e3,_⟩
  ·unfold SlD.val
   rw [e1,e2,h1,h2];exact .flat rfl
  ·unfold SlD.val
   rw [e1,e2,h1,h2];have hsp:x.spot=none:=by
    rcases hok d (List.mem_of_getElem? h) with ⟨h6,_⟩|⟨y,h6,hsp,_⟩
    ·rw [e1] at h6;cases h6
    ·obtain rfl:=zSi (e1.symm.trans h6)
     exact hsp
   exact .slice (s:=x.off) (.inr (.inl ⟨i,by simp [KA],e3⟩)) (by simp) (by simp [hsp])
 ·rcases hok d (List.mem_of_getElem? h) with ⟨g1,g2,g3,g4⟩|⟨y,g1,_,_,g2,g3,g4,g5,g6⟩
  ·rcases h4 with ⟨e1,e2⟩|⟨x,i,e1,_⟩
   ·exact .inl ⟨e2,by rw [h1,g2],by rw [h2,g3],by rw [h3,g4]⟩
   ·rw [g1] at e1;cases e1
  ·rcases h4 with ⟨e1,e2⟩|⟨x,i,e1,e2,_,e4⟩
   ·rw [g1] at e1;cases e1
   ·have hb:u.heap[W.heap.size+(0+i)]?=some (.cells d.ints 3 (0,d.ints.size)):=by rw [hu,Nat.zero_add,y9b,e4]
    refine .inr ⟨_,e2,rfl,⟨_,_,_,hb⟩,by rw [h1,h2];exact g2,by rw [h2];exact g3,by rw [h2,h3];exact g4,fun j hj=>?_,by rw [h3];exact g6⟩;rw [h3] at hj ⊢;have e3:(⟨W.heap.size+(0+i),0,none⟩:Addr).add j=⟨W.heap.size+(0+i),j,none⟩:=by unfold Addr.add;split<;>simp_all
    rw [e3,cell_of_row u _ j d.ints 3 _ hb];simp [SlD.ints,List.getElem?_eq_getElem hj,List.getD_eq_getElem?_getD]
theorem relPs_nil (K:Cfg) (L:List Nat):RelPs K L #[] #[]:=⟨rfl,fun i v v' h=>by simp at h⟩
theorem relPs_push {K:Cfg} {L:List Nat} {cs cs':Array Value} (h:RelPs K L cs cs') {v v':Value} (hv:RelC K L v v'):RelPs K L (cs.push v) (cs'.push v'):=by
 refine ⟨by simp [h.1],fun i a b ha hb=>?_⟩;rw [Array.getElem?_push] at ha hb
 by_cases hi:i=cs.size
 ·rw [if_pos hi] at ha
  rw [if_pos (by rw [h.1];exact hi)] at hb;obtain rfl:=zSi ha;obtain rfl:=zSi hb;exact .cell hv
 ·rw [if_neg hi] at ha
  rw [if_neg (by rw [h.1];exact hi)] at hb;exact h.2 i a b ha hb
theorem law_runS {f:FuncId} {fn:Func} {W:World} (h0:0<W.heap.size) (ds:List SlD) (hok:∀ d ∈ ds,d.ok W) (mk:List SlD->Array Value) (hi:Try.prog.inits.idxOf? f=none) (hf:Tra.prog.funcs[f]?=some fn) (hS:S1 f=true) (hT:T2 f=true) (hres:y6l fn=true)
  (hmk:∀ (K:Cfg) (L:List Nat) (ds':List SlD),ds'.length=ds.length->(∀ (k:Nat) (d d':SlD),ds[k]?=some d->ds'[k]?=some d'->RelC K L d'.val d.val)->RelPs K L (mk ds') (mk ds))
  (hc:∀ (u:World) (ds':List SlD),ds'.length=ds.length->(∀ (k:Nat) (d d':SlD),ds[k]?=some d->ds'[k]?=some d'->d'.len=d.len∧d'.cap=d.cap∧d'.zs=d.zs∧d'.ok u)->Calls Tra.prog f (mk ds') u fun e _=>e=.returned (.bool true)) :
  ∃ M last o w' t',runNT Try.prog (M+1) (solo (G (Frame.enter Try.prog f (mk ds) .normal) []) W) #[]=(.ended o w',t')∧runN Try.prog M (solo (G (Frame.enter Try.prog f (mk ds) .normal) []) W)=.next last∧step Try.prog last=.ended o w' ∧
   Go.Conc.Good Try.prog (fun v' w'=>v'=.bool true∧Below W.heap.size W w') last o w' t':=by
 obtain ⟨M,last,o,w',t',h1,h2,h3,v',e0,⟨L,v,u,hv,_,hk,rfl⟩,r0⟩:=hyb_run (Rd:=fun _=>False) (al:=als ds) (L0:=(als ds).map Prod.fst) (W:=W) (u0:=ya9 W ds) (args:=mk (lone W.heap.size 0 ds)) (args':=mk ds) Tra.same Tra.calm1 Tra.calmT
  (fun Post' hP'=>ybq fun fe hT hS=>Tra.t34 fe hT hS ▸ y8j hP' h0 (fun b h=>h.elim)) hi hf hS hT hres
  (hmk _ _ _ (y80 _ _ _) fun k d d' hd hd'=>(yb1 hok hd hd').2.2.2.1) (yf6 hok) (Post:=fun v _=>v=.bool true) (fun _ _ _ h=>h)
  (fun τ=>(hc (retape (ya9 W ds) τ) (lone W.heap.size 0 ds) (y80 _ _ _) fun k d d' hd hd'=>let ⟨q1,q2,q3,_,q5⟩:=yb1 hok hd hd';⟨q1,q2,q3,q5 _ rfl⟩).mono fun e _ h=>⟨_,h,rfl⟩)
 refine ⟨M,last,o,w',t',h1,h2,h3,v',e0,⟨?_,yfj hk⟩,r0⟩;split at hv
 ·exact y5o hv rfl
 ·exact yd8 hv rfl
theorem SlD.row {u:World} {d:SlD} (h:d.ok u):(d.a=none∧d.len=0∧d.cap=0∧d.zs=[])∨∃ x,d.a=some x∧d.len≤d.cap∧d.cap≤maxLen∧d.zs.length=d.cap∧(∀ i,i<d.zs.length->u.cell? (x.add i)=some (.int .i64 (d.zs.getD i 0)))∧∀ n ∈ d.zs,(Lit.int .i64 n).wf=true:=by
 rcases h with h|⟨x,h1,_,_,h2⟩
 ·exact .inl h
 ·exact .inr ⟨x,h1,h2⟩
theorem has_of {P:Program} {W:World} {base:Nat} {t e:TypeId} {x:Addr} {len cap:Nat} (hu:P.underlying t=some (.slice e)) (hv:Value.okWide P W .any base t (.slice (some x) len cap)):W.has P .any base x e cap:=by
 simp only [Value.okWide,hu,Cell.okWide,Cell.ok] at hv;exact hv.2.2
theorem sl_ok {W:World} {base:Nat} {a:Option Addr} {len cap:Nat} {zs:List Int} (hv:Value.okWide Try.prog W .any base 29 (.slice a len cap))
  (hr:(a=none∧len=0∧cap=0∧zs=[])∨∃ x,a=some x∧len≤cap∧cap≤maxLen∧zs.length=cap∧(∀ i,i<zs.length->W.cell? (x.add i)=some (.int .i64 (zs.getD i 0)))∧∀ n ∈ zs,(Lit.int .i64 n).wf=true):(⟨a,len,cap,zs⟩:SlD).ok W:=by
 rcases hr with hr|⟨x,rfl,h2⟩
 ·exact .inl hr
 ·obtain ⟨_,hsp,row,cells,hs,_⟩:=has_of Try.underlying29 hv
  refine .inr ⟨x,rfl,hsp,?_,h2⟩;unfold World.shape? at hs;cases hb:W.heap[x.block]? with
  |none=>rw [hb] at hs;simp at hs
  |some o =>
   rw [hb] at hs;cases o with
   |cells cs e fr=>exact ⟨cs,e,fr,rfl⟩
   |_=>simp at hs
end Go.Proofs.Ytdhgeondbnpeoaa.Ca
