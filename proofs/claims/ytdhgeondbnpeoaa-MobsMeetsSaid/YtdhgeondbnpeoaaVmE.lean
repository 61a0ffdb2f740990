/- The theorem of MobsMeets, proved; part 5 of 7: its texts, merged. -/
import Derived.Test.YtdhgeondbnpeoaaVmD
set_option linter.unnecessarySimpa false
set_option linter.defProp false
set_option linter.unusedVariables false
set_option linter.unusedSimpArgs false
set_option maxRecDepth 100000
set_option maxHeartbeats 8000000
namespace Go.Proofs.Ytdhgeondbnpeoaa.P
open Go.RowKit Go.Proofs.Yw.Wd Go.Proofs.Yw.La Go.Proofs.Yw.Mo
attribute [local go_sem] y1b y19 y1q y1p y12 y11 y1a y18
def slices_Index_int_int.l0:Nat->List Int->Int->Int->Int->Option (Int)
 |0,_,_,_,_=>none
 |k+1,x0,x1,x7,x8=>if x8<x7 then (if 0≤x8 then (if x8<(x0.length:Int) then (if x1=(rd x0 x8) then (some x8) else (slices_Index_int_int.l0 k x0 x1 x7 (wrap64 (x8+1)))) else (none)) else (none)) else (some (-1))
def slices_Index_int_int.f (k:Nat) (l0:List Int) (a1:Int):Option (Int):=slices_Index_int_int.l0 k l0 a1 (l0.length:Int) 0
theorem slices_Index_int_int.calls (k:Nat) (A0:Option Addr) (c0:Nat) (l0:List Int) (a1:Int) (r:Int) (w:World) (hr0:Kd.C (Kd.int .i64) w A0 l0.length l0) (hc0:l0.length≤c0) (h:slices_Index_int_int.f k l0 a1=some r) :
  Calls Tra.prog 91 #[.slice A0 l0.length c0,.int .i64 a1] w fun e w'=>e=.returned (.int .i64 r)∧Drawn0 w w':=by
 have HR0:=As0.mk hr0;have HC0:=As0.mk hc0;clear hr0 hc0;have H:(slices_Index_int_int.l0 k l0 a1 (l0.length:Int) 0)=some r:=h;clear h;have H':=As0.mk H;clear H;go_enter Tra.func91,Tra.ntmps91
 go_wp2
 go_loopg [8] k (fun kq v8 w'=>∃ (x8_1:Int),v8=.int .i64 x8_1∧As0 (slices_Index_int_int.l0 kq l0 a1 (l0.length:Int) x8_1=some r)∧As0 (kq≤k)∧Drawn0 w w')
 case atStart=>exact ⟨(0),(by rfl),H',⟨zLe _⟩,by repeat (exact Drawn0.refl _)⟩
 case round =>
  clear H'
  try clear p2
  obtain ⟨x8_1,rfl,HA,HK1,⟨m1,rfl⟩⟩:=hrel;cases gk with
  |zero=>exact absurd HA.out (by simp [slices_Index_int_int.l0])
  |succ k1 =>
   have H:=HA.out;clear HA;simp only [slices_Index_int_int.l0] at H
   by_cases c3:x8_1<(l0.length:Int)
   ·rw [if_pos c3] at H
    have c3b0:decide (x8_1<(l0.length:Int))=true:=zDt c3;clear c3
    by_cases c4:0≤x8_1
    ·rw [if_pos c4] at H
     have c4b0:decide (0≤x8_1)=true:=zDt c4;clear c4
     by_cases c5:x8_1<(l0.length:Int)
     ·rw [if_pos c5] at H
      have c5b0:decide (x8_1<(l0.length:Int))=true:=zDt c5;clear c5
      by_cases c6:a1=(rd l0 x8_1)
      ·rw [if_pos c6] at H
       have c6b0:(a1 == (rd l0 x8_1))=true:=beq_iff_eq.mpr c6;have c6b1:(a1 != (rd l0 x8_1))=false:=bne_eq_false_iff_eq.mpr c6;clear c6;obtain rfl:=zSi H;have p148:0≤(x8_1:Int):=zDo (by with_reducible assumption);have q148:x8_1<(l0.length:Int):=zDo (by with_reducible assumption);obtain ⟨ad148,e148,hx148_0⟩:=Kd.at_int HR0.out x8_1 p148 q148;cases e148
       replace p148:=eq_true p148;replace q148:=eq_true q148;go_wp2
       go_ret
       exact ⟨by rfl,by repeat (first|exact Drawn0.refl _|apply Drawn0.step)⟩
      ·rw [if_neg c6] at H
       have c6b0:(a1 == (rd l0 x8_1))=false:=beq_eq_false_iff_ne.mpr c6;have c6b1:(a1 != (rd l0 x8_1))=true:=bne_iff_ne.mpr c6;have H':=As0.mk H;clear H;have p148:0≤(x8_1:Int):=zDo (by with_reducible assumption);have q148:x8_1<(l0.length:Int):=zDo (by with_reducible assumption);obtain ⟨ad148,e148,hx148_0⟩:=Kd.at_int HR0.out x8_1 p148 q148;cases e148
       replace p148:=eq_true p148;replace q148:=eq_true q148;go_wp2
       go_roundg k1
       case measure=>have:=HK1.out;omega
       case rel=>exact ⟨(wrap64 (x8_1+1)),(by rfl),H',⟨by have:=HK1.out;omega⟩,by repeat (first|exact Drawn0.refl _|apply Drawn0.step)⟩
     ·rw [if_neg c5] at H
      exact absurd H (by simp)
    ·rw [if_neg c4] at H
     exact absurd H (by simp)
   ·rw [if_neg c3] at H
    have c3b0:decide (x8_1<(l0.length:Int))=false:=zDf c3;clear c3;obtain rfl:=zSi H;go_wp2
    go_ret
    exact ⟨by rfl,by repeat (first|exact Drawn0.refl _|apply Drawn0.step)⟩
def slices_Contains_int_int.f (k:Nat) (l0:List Int) (a1:Int):Option (Bool):=(slices_Index_int_int.f k l0 a1).bind fun t149=>(some (decide (t149 ≥ 0)))
theorem slices_Contains_int_int.calls (k:Nat) (A0:Option Addr) (c0:Nat) (l0:List Int) (a1:Int) (r:Bool) (w:World) (hr0:Kd.C (Kd.int .i64) w A0 l0.length l0) (hc0:l0.length≤c0) (h:slices_Contains_int_int.f k l0 a1=some r) :
  Calls Tra.prog 70 #[.slice A0 l0.length c0,.int .i64 a1] w fun e w'=>e=.returned (.bool r)∧Drawn0 w w':=by
 have HR0:=As0.mk hr0;have HC0:=As0.mk hc0;clear hr0 hc0;have H:((slices_Index_int_int.f k l0 a1).bind fun t149=>(some (decide (t149 ≥ 0))))=some r:=h;clear h;replace H:=Option.bind_eq_some_iff.mp H;obtain ⟨t149,A30,H⟩:=H;replace H:(some (decide (t149 ≥ 0)))=some r:=H;have A3:=As0.mk A30;clear A30;obtain rfl:=zSi H;go_enter Tra.func70,Tra.ntmps70
 go_wp2_with (((with_reducible refine y04 (f:=91) rfl ?_);refine y0h (some 7) rfl rfl Tra.func91 (by kernel_rfl) rfl #[.slice A0 l0.length c0,.int .i64 a1] rfl (by (try simp only [List.map_toArray,List.map_cons,List.map_nil]);rfl) ?_;(with_reducible refine (slices_Index_int_int.calls k _ _ l0 a1 t149 _ ?side1 ?side2 A3.out).mono ?_);(case side1=>repeat (exact HR0.out));(case side2=>exact HC0.out);rintro e w' ⟨rfl,⟨nd,rfl⟩⟩;refine ⟨_,rfl,?_⟩))
 go_ret
 exact ⟨by rfl,by repeat (first|exact Drawn0.refl _|apply Drawn0.step)⟩
def mobs_parted.l0:Nat->List Int->List Int->Int->Int->Option (Bool)
 |0,_,_,_,_=>none
 |k+1,x7,x25,x26,x27=>if x27<x26 then (if 0≤x27 then (if x27<(x25.length:Int) then ((slices_Contains_int_int.f k x7 (rd x25 x27)).bind fun t160=>(if t160=true then (some true) else (mobs_parted.l0 k x7 x25 x26 (wrap64 (x27+1))))) else (none)) else (none)) else (some false)
def mobs_parted.f (k:Nat) (l0:List Int) (a1:Int) (a2:Int):Option (Bool):=if 0≤(wrap64 (a1+1)) then (if (wrap64 (a1+1))≤(wrap64 (a2+1)) then (if (wrap64 (a2+1))≤(l0.length:Int) then (if (wrap64 (a1+1))≤(l0.length:Int) then ((slices_Clone_int_int.f (l0.take ((wrap64 (a1+1)):Int).toNat)).bind fun t152=>(if 0≤(wrap64 (a2+1)) then (if t152.length+(l0.drop ((wrap64 (a2+1)):Int).toNat).length<17592186044416 then ((some (t152 ++ (l0.drop ((wrap64 (a2+1)):Int).toNat):List Int)).bind fun y156=>(mobs_parted.l0 k ((l0.take ((wrap64 (a2+1)):Int).toNat).drop ((wrap64 (a1+1)):Int).toNat) y156 (y156.length:Int) 0)) else (none)) else (none))) else (none)) else (none)) else (none)) else (none)
def mobs_parted.T2:Bool × List (List Nat × List Nat):=(true,[([],[]),([],[]),([1],[1]),([0,2],[0,2]),([3],[3]),([],[]),([],[]),([6],[6]),([5,7],[5,7]),([4,8,4],[4,8]),([9],[9]),([],[])])
def mobs_parted.B2:List Nat:=[0,0,2,7,15,0,0,64,224,511,1023,0]
theorem mobs_parted.tab2:rtab .any (ydj Tra.f53 2)=mobs_parted.T2:=by kernel_rfl
theorem mobs_parted.bits2:y2z mobs_parted.T2.2 mobs_parted.B2=true:=by kernel_rfl
theorem mobs_parted.calls (k:Nat) (A0:Option Addr) (c0:Nat) (l0:List Int) (a1:Int) (a2:Int) (r:Bool) (w:World) (hr0:Kd.C (Kd.int .i64) w A0 l0.length l0) (hc0:l0.length≤c0) (h:mobs_parted.f k l0 a1 a2=some r) :
  Calls Tra.prog 53 #[.slice A0 l0.length c0,.int .i64 a1,.int .i64 a2] w fun e w'=>e=.returned (.bool r)∧Below w.heap.size w w':=by
 have HR0:=As0.mk hr0;have HC0:=As0.mk hc0;clear hr0 hc0;have HB:=As0.mk (Below.refl w.heap.size w);have H:(if 0≤(wrap64 (a1+1)) then (if (wrap64 (a1+1))≤(wrap64 (a2+1)) then (if (wrap64 (a2+1))≤(l0.length:Int) then (if (wrap64 (a1+1))≤(l0.length:Int) then ((slices_Clone_int_int.f (l0.take ((wrap64 (a1+1)):Int).toNat)).bind fun t152=>(if 0≤(wrap64 (a2+1)) then (if t152.length+(l0.drop ((wrap64 (a2+1)):Int).toNat).length<17592186044416 then ((some (t152 ++ (l0.drop ((wrap64 (a2+1)):Int).toNat):List Int)).bind fun y156=>(mobs_parted.l0 k ((l0.take ((wrap64 (a2+1)):Int).toNat).drop ((wrap64 (a1+1)):Int).toNat) y156 (y156.length:Int) 0)) else (none)) else (none))) else (none)) else (none)) else (none)) else (none))=some r:=h;clear h;obtain ⟨ji4,hji4⟩:∃ j_:Int,(wrap64 (a1+1))=j_:=⟨_,rfl⟩
 replace H:(if 0≤(ji4) then (if (ji4)≤(wrap64 (a2+1)) then (if (wrap64 (a2+1))≤(l0.length:Int) then (if (ji4)≤(l0.length:Int) then ((slices_Clone_int_int.f (l0.take ((ji4):Int).toNat)).bind fun t152=>(if 0≤(wrap64 (a2+1)) then (if t152.length+(l0.drop ((wrap64 (a2+1)):Int).toNat).length<17592186044416 then ((some (t152 ++ (l0.drop ((wrap64 (a2+1)):Int).toNat):List Int)).bind fun y156=>(mobs_parted.l0 k ((l0.take ((wrap64 (a2+1)):Int).toNat).drop ((ji4):Int).toNat) y156 (y156.length:Int) 0)) else (none)) else (none))) else (none)) else (none)) else (none)) else (none))=some r:=by (rw [hji4] at H;exact H)
 have hji4w:(IntKind.i64.wrap (a1+1))=ji4:=(y0a _).trans hji4
 by_cases c5:0≤(ji4)
 ·rw [if_pos c5] at H
  have c5b0:=eq_true c5;have c5b1:decide (0≤(ji4))=true:=zDt c5;clear c5
  by_cases c6:(ji4)≤(wrap64 (a2+1))
  ·rw [if_pos c6] at H
   have c6b0:=eq_true c6;have c6b1:decide ((ji4)≤(wrap64 (a2+1)))=true:=zDt c6
   by_cases c7:(wrap64 (a2+1))≤(l0.length:Int)
   ·rw [if_pos c7] at H
    have c7b0:=eq_true c7;have c7b1:decide ((wrap64 (a2+1))≤(l0.length:Int))=true:=zDt c7;have c8b0:=eq_true (zDo (by with_reducible assumption):0≤(ji4))
    by_cases c9:(ji4)≤(l0.length:Int)
    ·rw [if_pos c9] at H
     have c9b0:=eq_true c9;have c9b1:decide ((ji4)≤(l0.length:Int))=true:=zDt c9;clear c9;replace H:=Option.bind_eq_some_iff.mp H;obtain ⟨t152,A100,H⟩:=H;replace H:(if 0≤(wrap64 (a2+1)) then (if t152.length+(l0.drop ((wrap64 (a2+1)):Int).toNat).length<17592186044416 then ((some (t152 ++ (l0.drop ((wrap64 (a2+1)):Int).toNat):List Int)).bind fun y156=>(mobs_parted.l0 k ((l0.take ((wrap64 (a2+1)):Int).toNat).drop ((ji4):Int).toNat) y156 (y156.length:Int) 0)) else (none)) else (none))=some r:=H;have A10:=As0.mk A100;clear A100;obtain ⟨ji11,hji11⟩:∃ j_:Int,(wrap64 (a2+1))=j_:=⟨_,rfl⟩
     replace H:(if 0≤(ji11) then (if t152.length+(l0.drop ((ji11):Int).toNat).length<17592186044416 then ((some (t152 ++ (l0.drop ((ji11):Int).toNat):List Int)).bind fun y156=>(mobs_parted.l0 k ((l0.take ((ji11):Int).toNat).drop ((ji4):Int).toNat) y156 (y156.length:Int) 0)) else (none)) else (none))=some r:=by (rw [hji11] at H;exact H)
     (try rw [hji11] at c6b0)
     (try rw [hji11] at c6b1)
     (try rw [hji11] at c6)
     (try rw [hji11] at c7b0)
     (try rw [hji11] at c7b1)
     (try rw [hji11] at c7)
     (try rw [hji11] at A10)
     have hji11w:(IntKind.i64.wrap (a2+1))=ji11:=(y0a _).trans hji11
     by_cases c12:0≤(ji11)
     ·rw [if_pos c12] at H
      have c12b0:=eq_true c12;have c12b1:decide (0≤(ji11))=true:=zDt c12;clear c12;have HLj_:=As0.mk (zDo (by with_reducible assumption):(ji11)≤(l0.length:Int));have c13b0:=eq_true (zDo (by with_reducible assumption):(ji11)≤(l0.length:Int))
      by_cases c14:t152.length+(l0.drop ((ji11):Int).toNat).length<17592186044416
      ·rw [if_pos c14] at H
       have LMc14:=As0.mk c14;clear c14;obtain ⟨y156,hy156⟩:∃ y_:List Int,y_=(t152 ++ (l0.drop ((ji11):Int).toNat)):=⟨_,rfl⟩
       replace H:(mobs_parted.l0 k ((l0.take ((ji11):Int).toNat).drop ((ji4):Int).toNat) y156 (y156.length:Int) 0)=some r:=by (have H2_:=(Option.bind_some _ _).symm.trans H;rw [hy156];with_reducible exact H2_)
       have Ny156:=As0.mk hy156;clear hy156;have H':=As0.mk H;clear H;obtain ⟨i015,hi015,_,hsz15,_⟩:=info_parts info3;obtain ⟨A15,hcut15,hA15,hC15⟩:=y91 (P:=Tra.prog) (Value.int .i64) 0 29 3 .i64 .i64 Tra.underlying29 hi015 hsz15 A0 c0 l0 (ji4) (ji11) (zDo (by with_reducible assumption)) (by omega) (zDo (by with_reducible assumption)) HC0.out;have HR150:=As0.mk (Kd.C_of_reads (h1:=fun _=>rfl) (hA15 _ (Kd.reads_of_C HR0.out)));have HC150:=As0.mk hC15;clear hA15 hC15 hi015 hsz15;go_enter Tra.func53,Tra.ntmps53
       try go_wp2
       have n0_:=As0.mk (y01 HB.out);clear HB;have HB:=n0_;clear n0_;obtain ⟨i017,hi017,_,hsz17,_⟩:=info_parts info3;obtain ⟨hcut17,hA17,hC17⟩:=y7q (P:=Tra.prog) (Value.int .i64) 0 29 3 .i64 Tra.underlying29 hi017 hsz17 A0 c0 l0 (ji4) (zDo (by with_reducible assumption)) (zDo (by with_reducible assumption)) HC0.out;have HR151:=As0.mk (Kd.C_of_reads (h1:=fun _=>rfl) (hA17 _ (Kd.reads_of_C HR0.out)));have HC151:=As0.mk hC17;clear hA17 hC17 hi017 hsz17;obtain ⟨i018,hi018,_,hsz18,_⟩:=info_parts info3;obtain ⟨A18,hcut18,hA18,hC18⟩:=y7r (P:=Tra.prog) (Value.int .i64) 0 29 3 .i64 Tra.underlying29 hi018 hsz18 A0 c0 l0 (ji11) (zDo (by with_reducible assumption)) (zDo (by with_reducible assumption)) HC0.out;have HR155:=As0.mk (Kd.C_of_reads (h1:=fun _=>rfl) (hA18 _ (Kd.reads_of_C HR0.out)));have HC155:=As0.mk hC18;clear hA18 hC18 hi018 hsz18;refine y3n (n:=12) (S:=fun w'=>True) (ds:=[]) #[false,false,false,false,false,false,false,false,false,false,false,false] (by kernel_rfl) rfl rfl trivial (fun hHeld=>?_);refine y1o mobs_parted.tab2 mobs_parted.bits2 (fun HT_ HW_=>?_);generalize w.drew=w16 at HB HR151 HR155 hHeld ⊢;refine y0d (i:=0) (N:=some 16) (v:=?_) (a':=?_) #[true,false,false,false,false,false,false,false,false,false,false,false] rfl rfl (y06 HT_.out (by kernel_rfl)) (fun _ _ _ h=>h) (Or.inl ⟨by rfl,?_⟩) ?_ ?_;rotate_left
       ·intro w'
        go_simp
        with_reducible rfl
       rotate_left
       ·simp only [Act.put,List.setIfInBounds_toArray,List.set_cons_zero,List.set_cons_succ,y0a,y0b]
        rfl
       refine y0d (i:=1) (N:=some 17) (v:=?_) (a':=?_) #[true,true,false,false,false,false,false,false,false,false,false,false] rfl rfl (y06 HT_.out (by kernel_rfl)) (fun _ _ _ h=>h) (Or.inl ⟨by rfl,?_⟩) ?_ ?_;rotate_left
       ·intro w'
        go_simp
        with_reducible rfl
       rotate_left
       ·simp only [Act.put,List.setIfInBounds_toArray,List.set_cons_zero,List.set_cons_succ,y0a,y0b]
        rfl
       refine y0d (i:=2) (N:=some 18) (v:=?_) (a':=?_) #[true,true,true,false,false,false,false,false,false,false,false,false] rfl rfl (y06 HT_.out (by kernel_rfl)) (fun _ _ _ h=>h) (Or.inl ⟨by rfl,?_⟩) ?_ ?_;rotate_left
       ·intro w'
        go_simp
        with_reducible rfl
       rotate_left
       ·simp only [Act.put,List.setIfInBounds_toArray,List.set_cons_zero,List.set_cons_succ,y0a,y0b]
        rfl
       refine y0d (i:=3) (N:=some 19) (v:=?_) (a':=?_) #[true,true,true,true,false,false,false,false,false,false,false,false] rfl rfl (y06 HT_.out (by kernel_rfl)) (fun _ _ _ h=>h) (Or.inl ⟨by rfl,?_⟩) ?_ ?_;rotate_left
       ·intro w'
        go_simp
        with_reducible rfl
       rotate_left
       ·simp only [Act.put,List.setIfInBounds_toArray,List.set_cons_zero,List.set_cons_succ,y0a,y0b]
        rfl
       refine y0d (i:=5) (N:=some 21) (v:=?_) (a':=?_) #[true,true,true,true,false,true,false,false,false,false,false,false] rfl rfl (y06 HT_.out (by kernel_rfl)) (fun _ _ _ h=>h) (Or.inl ⟨by rfl,?_⟩) ?_ ?_;rotate_left
       ·intro w'
        go_simp
        with_reducible rfl
       rotate_left
       ·simp only [Act.put,List.setIfInBounds_toArray,List.set_cons_zero,List.set_cons_succ,y0a,y0b]
        rfl
       refine y0d (i:=6) (N:=some 22) (v:=?_) (a':=?_) #[true,true,true,true,false,true,true,false,false,false,false,false] rfl rfl (y06 HT_.out (by kernel_rfl)) (fun _ _ _ h=>h) (Or.inl ⟨by rfl,?_⟩) ?_ ?_;rotate_left
       ·intro w'
        go_simp
        with_reducible rfl
       rotate_left
       ·simp only [Act.put,List.setIfInBounds_toArray,List.set_cons_zero,List.set_cons_succ,y0a,y0b]
        rfl
       refine y0d (i:=7) (N:=some 23) (v:=?_) (a':=?_) #[true,true,true,true,false,true,true,true,false,false,false,false] rfl rfl (y06 HT_.out (by kernel_rfl)) (fun _ _ _ h=>h) (Or.inl ⟨by rfl,?_⟩) ?_ ?_;rotate_left
       ·intro w'
        go_simp
        with_reducible rfl
       rotate_left
       ·simp only [Act.put,List.setIfInBounds_toArray,List.set_cons_zero,List.set_cons_succ,y0a,y0b]
        rfl
       refine y0d (i:=8) (N:=some 24) (v:=?_) (a':=?_) #[true,true,true,true,false,true,true,true,true,false,false,false] rfl rfl (y06 HT_.out (by kernel_rfl)) (fun _ _ _ h=>h) (Or.inl ⟨by rfl,?_⟩) ?_ ?_;rotate_left
       ·intro w'
        go_simp
        with_reducible rfl
       rotate_left
       ·simp only [Act.put,List.setIfInBounds_toArray,List.set_cons_zero,List.set_cons_succ,y0a,y0b]
        rfl
       refine y0d (i:=11) (N:=some 27) (v:=?_) (a':=?_) #[true,true,true,true,false,true,true,true,true,false,false,true] rfl rfl (y06 HT_.out (by kernel_rfl)) (fun _ _ _ h=>h) (Or.inl ⟨by rfl,?_⟩) ?_ ?_;rotate_left
       ·intro w'
        go_simp
        with_reducible rfl
       rotate_left
       ·simp only [Act.put,List.setIfInBounds_toArray,List.set_cons_zero,List.set_cons_succ,y0a,y0b]
        rfl
       refine one_ (i:=4) (N:=some 20) #[true,true,true,true,true,true,true,true,true,false,false,true] rfl rfl (y45 HT_.out (by kernel_rfl)) (by decide) (fun K hK=>?_);refine goes_ Tra.func56 (by kernel_rfl) rfl #[.slice A0 (l0.take ((ji4):Int).toNat).length c0] (by rfl) rfl rfl (by (try simp only [List.map_toArray,List.map_cons,List.map_nil]);(rw [show (l0.take ((ji4):Int).toNat).length=(ji4).toNat from (by rw [List.length_take];have h_:((ji4):Int)≤(l0.length:Int):=(by exact zDo (by with_reducible assumption));omega)]<;>rfl)) ?_
       with_reducible refine (slices_Clone_int_int.calls _ _ (l0.take ((ji4):Int).toNat) t152 _ ?side1 ?side2 A10.out).mono ?_
       (case side1=>repeat (exact (Kd.C_below HR151.out HB.out)))
       (case side2=>exact HC151.out)
       rintro e w19 ⟨v153,rfl,ho0,hb⟩
       refine ⟨_,rfl,?_⟩;have n0_:=As0.mk (Kd.R_lower ho0 (y03 (by repeat (with_reducible exact HB.out))));have n1_:=As0.mk (y05 (by repeat (with_reducible exact HB.out)) hb);clear HB;have HO154:=n0_;have HB:=n1_;clear n0_ n1_
       (try clear hb)
       (try clear hb2)
       (try clear hk)
       (try clear hi)
       (try clear ho0)
       refine hK.out _ _ trivial (fun hHeld=>?_);clear hK K;refine y97 (a':=?_) ?_ ?_;rotate_left
       ·show Act.put _ (some 20) _=_
        simp only [Act.put,List.setIfInBounds_toArray,List.set_cons_zero,List.set_cons_succ,y0a,y0b];rfl
       refine one_ (i:=9) (N:=some 25) #[true,true,true,true,true,true,true,true,true,true,false,true] rfl rfl (y45 HT_.out (by kernel_rfl)) (by decide) (fun K hK=>?_);refine Kd.R_append_rows_step (Kd.int .i64) (w0:=w) w.heap.size (by rfl) (.tmp 20) (.tmp 24) 29 3 (.int .i64 0) 8 rfl Tra.underlying29 info3 rfl (by decide) (by omega) v153 t152 (l0.drop ((ji11):Int).toNat) _ _ _ (fun _=>True) (fun _=>False) rfl rfl ?aO ?aR (fun _ _ h=>h) (fun _ h=>h.elim) ?aF ?aB ?aS ?aL ?_
       (case aR=>(rw [← show (l0.drop ((ji11):Int).toNat).length=(l0.length - (ji11).toNat) from List.length_drop];repeat (exact (Kd.C_below HR155.out HB.out))))
       (case aB=>exact (by repeat (with_reducible exact HB.out)))
       (case aF=>exact (fun _ _=>trivial))
       (case aO=>exact (by (with_reducible repeat (first|apply Kd.R_alloc|apply Kd.R_drewN|apply Kd.R_drew));exact HO154.out))
       (case aS=>exact (y03 (by repeat (with_reducible exact HB.out))))
       (case aL=>have:=LMc14.out;have hlx_:=(show (l0.drop ((ji11):Int).toNat).length=(l0.length - (ji11).toNat) from List.length_drop);omega)
       intro v157 w20 ho hb hg hat;rw [← Ny156.out] at ho;have n0_:=As0.mk (hb);have n1_:=As0.mk (ho);clear HB;clear HO154;have HB:=n0_;have HO158:=n1_;clear n0_ n1_;clear ho hb hg hat;obtain ⟨Ao21,co21,eo21⟩:=Kd.R_slice HO158.out
       (subst eo21)
       refine hK.out _ _ trivial (fun hHeld=>?_);clear hK K;refine y97 (a':=?_) ?_ ?_;rotate_left
       ·show Act.put _ (some 25) _=_
        simp only [Act.put,List.setIfInBounds_toArray,List.set_cons_zero,List.set_cons_succ,y0a,y0b];rfl
       refine y0d (i:=10) (N:=some 26) (v:=?_) (a':=?_) #[true,true,true,true,true,true,true,true,true,true,true,true] rfl rfl (y06 HT_.out (by kernel_rfl)) (fun _ _ _ h=>h) (Or.inl ⟨by rfl,?_⟩) ?_ ?_;rotate_left
       ·intro w'
        go_simp
        with_reducible rfl
       rotate_left
       ·simp only [Act.put,List.setIfInBounds_toArray,List.set_cons_zero,List.set_cons_succ,y0a,y0b]
        rfl
       refine y6j (y2q HT_.out (by kernel_rfl)) ?_
       try go_wp2
       go_loopg [27] k (fun kq v27 w'=>∃ (x27_1:Int),v27=.int .i64 x27_1∧As0 (mobs_parted.l0 kq ((l0.take ((ji11):Int).toNat).drop ((ji4):Int).toNat) y156 (y156.length:Int) x27_1=some r)∧As0 (kq≤k)∧As0 (Kd.R (Kd.int .i64) 3 w' w.heap.size (fun _=>True) (.slice Ao21 y156.length co21) y156)∧As0 (Below w.heap.size w w'))
       case atStart=>exact ⟨(0),(by rfl),H',⟨zLe _⟩,⟨by (with_reducible repeat (first|apply Kd.R_alloc|apply Kd.R_drewN|apply Kd.R_drew));exact HO158.out⟩,⟨by repeat (with_reducible exact HB.out)⟩⟩
       case round =>
        clear H'
        try clear c1
        try clear p2
        try clear c5
        try clear c5b0
        try clear c5b1
        try clear c6
        try clear c6b0
        try clear c6b1
        try clear p6
        try clear c7
        try clear c7b0
        try clear c7b1
        try clear c8
        try clear c8b0
        try clear c9
        try clear c9b0
        try clear c9b1
        try clear c12
        try clear c12b0
        try clear c12b1
        try clear c13
        try clear c13b0
        try clear c14
        obtain ⟨x27_1,rfl,HA,HK1,HO_25,HB⟩:=hrel;cases gk with
        |zero=>exact absurd HA.out (by simp [mobs_parted.l0])
        |succ k1 =>
         have H:=HA.out;clear HA;simp only [mobs_parted.l0] at H
         by_cases c22:x27_1<(y156.length:Int)
         ·rw [if_pos c22] at H
          have c22b0:decide (x27_1<(y156.length:Int))=true:=zDt c22;clear c22
          by_cases c23:0≤x27_1
          ·rw [if_pos c23] at H
           have c23b0:decide (0≤x27_1)=true:=zDt c23;clear c23
           by_cases c24:x27_1<(y156.length:Int)
           ·rw [if_pos c24] at H
            have c24b0:decide (x27_1<(y156.length:Int))=true:=zDt c24;clear c24;replace H:=Option.bind_eq_some_iff.mp H;obtain ⟨t160,A250,H⟩:=H;replace H:(if t160=true then (some true) else (mobs_parted.l0 k1 ((l0.take ((ji11):Int).toNat).drop ((ji4):Int).toNat) y156 (y156.length:Int) (wrap64 (x27_1+1))))=some r:=H;have A25:=As0.mk A250;clear A250
            by_cases c26:t160=true
            ·subst c26
             have H1:(some true)=some r:=by rw [if_pos rfl] at H;exact H
             clear H;have H:=H1;clear H1;obtain rfl:=zSi H;have p159:0≤(x27_1:Int):=zDo (by with_reducible assumption);have q159:x27_1<(y156.length:Int):=zDo (by with_reducible assumption);obtain ⟨ad159,e159,hx159_0⟩:=Kd.at_int (Kd.R_reads' HO_25.out).2.2 x27_1 p159 q159;cases e159
             replace p159:=eq_true p159;replace q159:=eq_true q159;go_wp2_with (((with_reducible refine y04 (f:=70) rfl ?_);refine y0h (some 33) rfl rfl Tra.func70 (by kernel_rfl) rfl #[.slice A15 ((l0.take ((ji11):Int).toNat).drop ((ji4):Int).toNat).length (c0 - (ji4).toNat),.int .i64 (rd y156 x27_1)] rfl (by (try simp only [List.map_toArray,List.map_cons,List.map_nil]);(rw [show ((l0.take ((ji11):Int).toNat).drop ((ji4):Int).toNat).length=((ji11).toNat - (ji4).toNat) from (by rw [List.length_drop,List.length_take];have h_:((ji11):Int)≤(l0.length:Int):=(by exact HLj_.out);omega)]<;>rfl)) ?_;(with_reducible refine (slices_Contains_int_int.calls k1 _ _ ((l0.take ((ji11):Int).toNat).drop ((ji4):Int).toNat) (rd y156 x27_1) true _ ?side1 ?side2 A25.out).mono ?_);(case side1=>repeat (exact (Kd.C_below HR150.out HB.out)));(case side2=>exact HC150.out);rintro e w' ⟨rfl,⟨nd,rfl⟩⟩;refine ⟨_,rfl,?_⟩))
             go_ret
             exact ⟨by rfl,by repeat (with_reducible first|exact HB.out|apply y00)⟩
            ·replace c26:=Bool.eq_false_iff.mpr c26
             subst c26;have H1:(mobs_parted.l0 k1 ((l0.take ((ji11):Int).toNat).drop ((ji4):Int).toNat) y156 (y156.length:Int) (wrap64 (x27_1+1)))=some r:=by rw [if_neg (show ¬ (false=true) by decide)] at H;exact H
             clear H;have H:=H1;clear H1;have H':=As0.mk H;clear H;have p159:0≤(x27_1:Int):=zDo (by with_reducible assumption);have q159:x27_1<(y156.length:Int):=zDo (by with_reducible assumption);obtain ⟨ad159,e159,hx159_0⟩:=Kd.at_int (Kd.R_reads' HO_25.out).2.2 x27_1 p159 q159;cases e159
             replace p159:=eq_true p159;replace q159:=eq_true q159;go_wp2_with (((with_reducible refine y04 (f:=70) rfl ?_);refine y0h (some 33) rfl rfl Tra.func70 (by kernel_rfl) rfl #[.slice A15 ((l0.take ((ji11):Int).toNat).drop ((ji4):Int).toNat).length (c0 - (ji4).toNat),.int .i64 (rd y156 x27_1)] rfl (by (try simp only [List.map_toArray,List.map_cons,List.map_nil]);(rw [show ((l0.take ((ji11):Int).toNat).drop ((ji4):Int).toNat).length=((ji11).toNat - (ji4).toNat) from (by rw [List.length_drop,List.length_take];have h_:((ji11):Int)≤(l0.length:Int):=(by exact HLj_.out);omega)]<;>rfl)) ?_;(with_reducible refine (slices_Contains_int_int.calls k1 _ _ ((l0.take ((ji11):Int).toNat).drop ((ji4):Int).toNat) (rd y156 x27_1) false _ ?side1 ?side2 A25.out).mono ?_);(case side1=>repeat (exact (Kd.C_below HR150.out HB.out)));(case side2=>exact HC150.out);rintro e w' ⟨rfl,⟨nd,rfl⟩⟩;refine ⟨_,rfl,?_⟩))
             go_roundg k1
             case measure=>have:=HK1.out;omega
             case rel=>exact ⟨(wrap64 (x27_1+1)),(by rfl),H',⟨by have:=HK1.out;omega⟩,⟨by (with_reducible repeat (apply Kd.R_drewN));exact HO_25.out⟩,⟨by repeat (with_reducible first|exact HB.out|apply y00)⟩⟩
           ·rw [if_neg c24] at H
            exact absurd H (by simp)
          ·rw [if_neg c23] at H
           exact absurd H (by simp)
         ·rw [if_neg c22] at H
          have c22b0:decide (x27_1<(y156.length:Int))=false:=zDf c22;clear c22;obtain rfl:=zSi H;go_wp2
          go_ret
          exact ⟨by rfl,by repeat (with_reducible exact HB.out)⟩
      ·rw [if_neg c14] at H
       exact absurd H (by simp)
     ·rw [if_neg c12] at H
      exact absurd H (by simp)
    ·rw [if_neg c9] at H
     exact absurd H (by simp)
   ·rw [if_neg c7] at H
    exact absurd H (by simp)
  ·rw [if_neg c6] at H
   exact absurd H (by simp)
 ·rw [if_neg c5] at H
  exact absurd H (by simp)
mutual
def mobs_Between.l0:Nat->List Int->List Int->Int->Int->Option (List Int × Int)
 |0,_,_,_,_=>none
 |k+1,x0,x7,x24,x25=>if x25<x24 then (mobs_Between.l1 k x0 x7 x25 x25 (wrap64 (x25 - 1)) x24 x25) else ((mobs_number_int.f x7).bind fun t171=>(some (t171,0)))
def mobs_Between.l1:Nat->List Int->List Int->Int->Int->Int->Int->Int->Option (List Int × Int)
 |0,_,_,_,_,_,_,_=>none
 |k+1,x0,x7,x8,x9,x10,x24,x25=>if x10 ≥ 0 then ((mobs_parted.f k x0 x10 x8).bind fun t174=>(if t174=true then (mobs_Between.l1 k x0 x7 x8 x9 (wrap64 (x10 - 1)) x24 x25) else (mobs_Between.l1 k x0 x7 x8 x10 (wrap64 (x10 - 1)) x24 x25))) else (if x7.length<17592186044416 then (mobs_Between.l0 k x0 (x7 ++ [x9]) x24 (wrap64 (x25+1))) else (none))
end
def mobs_Between.f (k:Nat) (l0:List Int):Option (List Int × Int):=(mobs_read.f k (([l0]:List (List Int)))).bind fun t164=>(if t164=0 then ((mobs_crossed.f k l0).bind fun bt165=>(if bt165.2.2.2.2=true then (some (([]:List Int),9)) else (mobs_Between.l0 k l0 ([]:List Int) (l0.length:Int) 0))) else (some (([]:List Int),t164)))
theorem mobs_Between.calls (k:Nat) (P0_:Nat->Prop) (A0:Option Addr) (c0:Nat) (l0:List Int) (r1:List Int) (r2:Int) (w:World) (hs0:Kd.V (Kd.int .i64) 3 w w.heap.size (fun k_=>P0_ k_) (.slice A0 l0.length c0) l0) (h:mobs_Between.f k l0=some (r1,r2)) :
  Calls Tra.prog 25 #[.slice A0 l0.length c0] w fun e w'=>∃ v0_:Value,e=.returned (.tuple #[v0_,.int .i64 r2])∧Kd.R (Kd.int .i64) 3 w' w.heap.size (fun k_=>(w.heap.size≤k_)) v0_ r1∧Below w.heap.size w w':=by
 have hu31:=Tra.underlying31;have HO0:=As0.mk (show Kd.V (Kd.int .i64) 3 w w.heap.size (fun k_=>(P0_ k_∨w.heap.size≤k_)) (.slice A0 l0.length c0) l0 from Kd.V_mono hs0 (fun k_ hk=>.inl hk));have HB:=As0.mk (Below.refl w.heap.size w);have H:((mobs_read.f k (([l0]:List (List Int)))).bind fun t164=>(if t164=0 then ((mobs_crossed.f k l0).bind fun bt165=>(if bt165.2.2.2.2=true then (some (([]:List Int),9)) else (mobs_Between.l0 k l0 ([]:List Int) (l0.length:Int) 0))) else (some (([]:List Int),t164))))=some (r1,r2):=h;clear h;obtain ⟨y161,hy161⟩:∃ y_:List (List Int),y_=(([l0]:List (List Int))):=⟨_,rfl⟩
 replace H:((mobs_read.f k y161).bind fun t164=>(if t164=0 then ((mobs_crossed.f k l0).bind fun bt165=>(if bt165.2.2.2.2=true then (some (([]:List Int),9)) else (mobs_Between.l0 k l0 ([]:List Int) (l0.length:Int) 0))) else (some (([]:List Int),t164))))=some (r1,r2):=by (rw [hy161];with_reducible exact H)
 have Ny161:=As0.mk hy161;clear hy161;replace H:=Option.bind_eq_some_iff.mp H;obtain ⟨t164,A20,H⟩:=H;replace H:(if t164=0 then ((mobs_crossed.f k l0).bind fun bt165=>(if bt165.2.2.2.2=true then (some (([]:List Int),9)) else (mobs_Between.l0 k l0 ([]:List Int) (l0.length:Int) 0))) else (some (([]:List Int),t164)))=some (r1,r2):=H;have A2:=As0.mk A20;clear A20
 by_cases c3:t164=0
 ·rw [if_pos c3] at H
  have c3b0:(t164 == 0)=true:=beq_iff_eq.mpr c3;have c3b1:(t164 != 0)=false:=bne_eq_false_iff_eq.mpr c3;clear c3;replace H:=Option.bind_eq_some_iff.mp H;obtain ⟨⟨t165,t166,t167,t168,t169⟩,A40,H⟩:=H;replace H:(if t169=true then (some (([]:List Int),9)) else (mobs_Between.l0 k l0 ([]:List Int) (l0.length:Int) 0))=some (r1,r2):=H;have A4:=As0.mk A40;clear A40
  by_cases c5:t169=true
  ·subst c5
   have H1:(some (([]:List Int),9))=some (r1,r2):=by rw [if_pos rfl] at H;exact H
   clear H;have H:=H1;clear H1;simp only [Option.some.injEq,Prod.mk.injEq] at H;obtain ⟨rfl,rfl⟩:=H;go_enter Tra.func25,Tra.ntmps25
   go_wp2_with (first|((with_reducible refine y0l (N:=12) rfl ?_);refine Kd.N_lit (Kd.slice 3 (Kd.int .i64)) _ 29 ?hg (N':=12) ?hd (xs:=([l0]:List (List Int))) (inner:=[.slice A0 l0.length c0]) (ok:=(fun k_=>(P0_ k_∨w.heap.size≤k_))) (okp:=(fun k_=>(P0_ k_∨w.heap.size≤k_))) ?hr ?hp (fun _ hk=>hk) ((show ∀ k_,w.heap.size≤k_->(fun k_=>(P0_ k_∨w.heap.size≤k_)) k_ from fun k_ hk=>(.inr (Nat.le_trans (y03 (by repeat (with_reducible exact HB.out))) hk))) _ (zLe _)) (Below.refl _ _) (zLe _) (by simp) ?_;(case hd=>rfl);(case hg=>rfl);(case hr=>(go_simp;done));(case hp=>exact (Reps.one (show Kd.FK (Kd.slice 3 (Kd.int .i64)) _ _ l0 [.slice A0 l0.length c0] from (Kd.FK_slice_mk (Kd.V_reads' (Kd.V_mono (ok':=(fun k_=>(P0_ k_∨w.heap.size≤k_))) (HO0.out) (fun k_ hk=>hk))).2.1 (Kd.V_F (Kd.V_mono (ok':=(fun k_=>(P0_ k_∨w.heap.size≤k_))) (HO0.out) (fun k_ hk=>hk))))) (Reps.none _ _)));intro v162 w6 ho7 hb hg_ hnew_;clear hg_ hnew_;(rw [← Ny161.out] at ho7);have n0_:=As0.mk (Kd.V_elder' (by (with_reducible repeat (first|apply Kd.V_alloc|apply Kd.V_drewN|apply Kd.V_drew));exact HO0.out) (Kd.N_base ho7) hb);have n1_:=As0.mk (Kd.N_lower ho7 (y03 (by repeat (with_reducible exact HB.out))));have n2_:=As0.mk (y05 (by repeat (with_reducible exact HB.out)) hb);clear HO0;clear HB;have HO0:=n0_;have HO163:=n1_;have HB:=n2_;clear n0_ n1_ n2_;clear hb ho7;obtain ⟨Ao8,co8,eo8⟩:=Kd.N_slice HO163.out;subst eo8)|((with_reducible refine y04 (f:=49) rfl ?_);refine y0h (some 13) rfl rfl Tra.func49 (by kernel_rfl) rfl #[.slice Ao8 y161.length co8] rfl (by (try simp only [List.map_toArray,List.map_cons,List.map_nil]);rfl) ?_;(with_reducible refine (mobs_read.calls k _ _ y161 t164 _ ?side1 ?side2 A2.out).mono ?_);(case side1=>repeat (exact (Kd.N_reads' HO163.out).2.2));(case side2=>exact (Kd.N_reads' HO163.out).2.1);rintro e w9 ⟨rfl,hb⟩;refine ⟨_,rfl,?_⟩;have n0_:=As0.mk (Kd.V_below (by (with_reducible repeat (first|apply Kd.V_alloc|apply Kd.V_drewN|apply Kd.V_drew));exact HO0.out) hb);have n1_:=As0.mk (Kd.N_below (by (with_reducible repeat (first|apply Kd.N_alloc|apply Kd.N_drewN|apply Kd.N_drew));exact HO163.out) hb);have n2_:=As0.mk (y05 (by repeat (with_reducible exact HB.out)) hb);clear HO0;clear HO163;clear HB;have HO0:=n0_;have HO163:=n1_;have HB:=n2_;clear n0_ n1_ n2_;(try clear hb);(try clear hb2);(try clear hk);(try clear hi))|((with_reducible refine y04 (f:=50) rfl ?_);refine y0h (some 19) rfl rfl Tra.func50 (by kernel_rfl) rfl #[.slice A0 l0.length c0] rfl (by (try simp only [List.map_toArray,List.map_cons,List.map_nil]);rfl) ?_;(with_reducible refine (mobs_crossed.calls k _ _ l0 t165 t166 t167 t168 true _ ?side1 ?side2 A4.out).mono ?_);(case side1=>repeat (exact (Kd.V_reads' HO0.out).2.2));(case side2=>exact (Kd.V_reads' HO0.out).2.1);rintro e w10 ⟨rfl,hb⟩;refine ⟨_,rfl,?_⟩;have n0_:=As0.mk (Kd.V_below (by (with_reducible repeat (first|apply Kd.V_alloc|apply Kd.V_drewN|apply Kd.V_drew));exact HO0.out) hb);have n1_:=As0.mk (Kd.N_below (by (with_reducible repeat (first|apply Kd.N_alloc|apply Kd.N_drewN|apply Kd.N_drew));exact HO163.out) hb);have n2_:=As0.mk (y05 (by repeat (with_reducible exact HB.out)) hb);clear HO0;clear HO163;clear HB;have HO0:=n0_;have HO163:=n1_;have HB:=n2_;clear n0_ n1_ n2_;(try clear hb);(try clear hb2);(try clear hk);(try clear hi))|((with_reducible refine y0l (N:=5) rfl ?_);refine y1y ?hg (N:=5) ?hd (cs:=#[.int .i64 0,.int .i64 0,.int .i64 0,.int .i64 0]) (t:=31) ?hr ?_;(case hd=>rfl);(case hg=>rfl);(case hr=>(go_simp;done));intro gb170 hg w11 hbox hb;have n0_:=As0.mk (Kd.V_below (Kd.V_elderB (by (with_reducible repeat (first|apply Kd.V_alloc|apply Kd.V_drewN|apply Kd.V_drew));exact HO0.out) gb170 (Nat.le_of_eq hg.symm)) hb);have n1_:=As0.mk (Kd.N_below (Kd.N_elderB (by (with_reducible repeat (first|apply Kd.N_alloc|apply Kd.N_drewN|apply Kd.N_drew));exact HO163.out) gb170 (Nat.le_of_eq hg.symm)) hb);have n2_:=As0.mk (y05 (by repeat (with_reducible exact HB.out)) hb);have n3_:=As0.mk (hbox);have n4_:=As0.mk ((by rw [hg];exact (y03 (by repeat (with_reducible exact HB.out))):w.heap.size≤gb170));have n5_:=As0.mk ((by rw [hg];exact (y03 (by repeat (with_reducible exact HB.out))):w.heap.size≤gb170));clear HO0;clear HO163;clear HB;have HO0:=n0_;have HO163:=n1_;have HB:=n2_;have BK170:=n3_;have GW170:=n4_;have GE170:=n5_;clear n0_ n1_ n2_ n3_ n4_ n5_;clear hb hbox hg;have hcz12_0:w11.cell? ⟨gb170,0,none⟩=some (.int .i64 0):=(y0i BK170.out 0).trans rfl;have hcz12_1:w11.cell? ⟨gb170,1,none⟩=some (.int .i64 0):=(y0i BK170.out 1).trans rfl;have hcz12_2:w11.cell? ⟨gb170,2,none⟩=some (.int .i64 0):=(y0i BK170.out 2).trans rfl;have hcz12_3:w11.cell? ⟨gb170,3,none⟩=some (.int .i64 0):=(y0i BK170.out 3).trans rfl;have hfz12_0:=y0f BK170.out 0;have hfz12_1:=y0f BK170.out 1;have hfz12_2:=y0f BK170.out 2;have hfz12_3:=y0f BK170.out 3))
   go_ret2
   exact ⟨_,by rfl,by exact Kd.R_nil _ _ _ _ _,by repeat (with_reducible first|exact HB.out|refine y0e ?_ GE170.out)⟩
  ·replace c5:=Bool.eq_false_iff.mpr c5
   subst c5;have H1:(mobs_Between.l0 k l0 ([]:List Int) (l0.length:Int) 0)=some (r1,r2):=by rw [if_neg (show ¬ (false=true) by decide)] at H;exact H
   clear H;have H:=H1;clear H1;have H':=As0.mk H;clear H;go_enter Tra.func25,Tra.ntmps25
   go_wp2_with (first|((with_reducible refine y0l (N:=12) rfl ?_);refine Kd.N_lit (Kd.slice 3 (Kd.int .i64)) _ 29 ?hg (N':=12) ?hd (xs:=([l0]:List (List Int))) (inner:=[.slice A0 l0.length c0]) (ok:=(fun k_=>(P0_ k_∨w.heap.size≤k_))) (okp:=(fun k_=>(P0_ k_∨w.heap.size≤k_))) ?hr ?hp (fun _ hk=>hk) ((show ∀ k_,w.heap.size≤k_->(fun k_=>(P0_ k_∨w.heap.size≤k_)) k_ from fun k_ hk=>(.inr (Nat.le_trans (y03 (by repeat (with_reducible exact HB.out))) hk))) _ (zLe _)) (Below.refl _ _) (zLe _) (by simp) ?_;(case hd=>rfl);(case hg=>rfl);(case hr=>(go_simp;done));(case hp=>exact (Reps.one (show Kd.FK (Kd.slice 3 (Kd.int .i64)) _ _ l0 [.slice A0 l0.length c0] from (Kd.FK_slice_mk (Kd.V_reads' (Kd.V_mono (ok':=(fun k_=>(P0_ k_∨w.heap.size≤k_))) (HO0.out) (fun k_ hk=>hk))).2.1 (Kd.V_F (Kd.V_mono (ok':=(fun k_=>(P0_ k_∨w.heap.size≤k_))) (HO0.out) (fun k_ hk=>hk))))) (Reps.none _ _)));intro v162 w13 ho14 hb hg_ hnew_;clear hg_ hnew_;(rw [← Ny161.out] at ho14);have n0_:=As0.mk (Kd.V_elder' (by (with_reducible repeat (first|apply Kd.V_alloc|apply Kd.V_drewN|apply Kd.V_drew));exact HO0.out) (Kd.N_base ho14) hb);have n1_:=As0.mk (Kd.N_lower ho14 (y03 (by repeat (with_reducible exact HB.out))));have n2_:=As0.mk (y05 (by repeat (with_reducible exact HB.out)) hb);clear HO0;clear HB;have HO0:=n0_;have HO163:=n1_;have HB:=n2_;clear n0_ n1_ n2_;clear hb ho14;obtain ⟨Ao15,co15,eo15⟩:=Kd.N_slice HO163.out;subst eo15)|((with_reducible refine y04 (f:=49) rfl ?_);refine y0h (some 13) rfl rfl Tra.func49 (by kernel_rfl) rfl #[.slice Ao15 y161.length co15] rfl (by (try simp only [List.map_toArray,List.map_cons,List.map_nil]);rfl) ?_;(with_reducible refine (mobs_read.calls k _ _ y161 t164 _ ?side1 ?side2 A2.out).mono ?_);(case side1=>repeat (exact (Kd.N_reads' HO163.out).2.2));(case side2=>exact (Kd.N_reads' HO163.out).2.1);rintro e w16 ⟨rfl,hb⟩;refine ⟨_,rfl,?_⟩;have n0_:=As0.mk (Kd.V_below (by (with_reducible repeat (first|apply Kd.V_alloc|apply Kd.V_drewN|apply Kd.V_drew));exact HO0.out) hb);have n1_:=As0.mk (Kd.N_below (by (with_reducible repeat (first|apply Kd.N_alloc|apply Kd.N_drewN|apply Kd.N_drew));exact HO163.out) hb);have n2_:=As0.mk (y05 (by repeat (with_reducible exact HB.out)) hb);clear HO0;clear HO163;clear HB;have HO0:=n0_;have HO163:=n1_;have HB:=n2_;clear n0_ n1_ n2_;(try clear hb);(try clear hb2);(try clear hk);(try clear hi))|((with_reducible refine y04 (f:=50) rfl ?_);refine y0h (some 19) rfl rfl Tra.func50 (by kernel_rfl) rfl #[.slice A0 l0.length c0] rfl (by (try simp only [List.map_toArray,List.map_cons,List.map_nil]);rfl) ?_;(with_reducible refine (mobs_crossed.calls k _ _ l0 t165 t166 t167 t168 false _ ?side1 ?side2 A4.out).mono ?_);(case side1=>repeat (exact (Kd.V_reads' HO0.out).2.2));(case side2=>exact (Kd.V_reads' HO0.out).2.1);rintro e w17 ⟨rfl,hb⟩;refine ⟨_,rfl,?_⟩;have n0_:=As0.mk (Kd.V_below (by (with_reducible repeat (first|apply Kd.V_alloc|apply Kd.V_drewN|apply Kd.V_drew));exact HO0.out) hb);have n1_:=As0.mk (Kd.N_below (by (with_reducible repeat (first|apply Kd.N_alloc|apply Kd.N_drewN|apply Kd.N_drew));exact HO163.out) hb);have n2_:=As0.mk (y05 (by repeat (with_reducible exact HB.out)) hb);clear HO0;clear HO163;clear HB;have HO0:=n0_;have HO163:=n1_;have HB:=n2_;clear n0_ n1_ n2_;(try clear hb);(try clear hb2);(try clear hk);(try clear hi))|((with_reducible refine y0l (N:=5) rfl ?_);refine y1y ?hg (N:=5) ?hd (cs:=#[.int .i64 0,.int .i64 0,.int .i64 0,.int .i64 0]) (t:=31) ?hr ?_;(case hd=>rfl);(case hg=>rfl);(case hr=>(go_simp;done));intro gb170 hg w18 hbox hb;have n0_:=As0.mk (Kd.V_below (Kd.V_elderB (by (with_reducible repeat (first|apply Kd.V_alloc|apply Kd.V_drewN|apply Kd.V_drew));exact HO0.out) gb170 (Nat.le_of_eq hg.symm)) hb);have n1_:=As0.mk (Kd.N_below (Kd.N_elderB (by (with_reducible repeat (first|apply Kd.N_alloc|apply Kd.N_drewN|apply Kd.N_drew));exact HO163.out) gb170 (Nat.le_of_eq hg.symm)) hb);have n2_:=As0.mk (y05 (by repeat (with_reducible exact HB.out)) hb);have n3_:=As0.mk (hbox);have n4_:=As0.mk ((by rw [hg];exact (y03 (by repeat (with_reducible exact HB.out))):w.heap.size≤gb170));have n5_:=As0.mk ((by rw [hg];exact (y03 (by repeat (with_reducible exact HB.out))):w.heap.size≤gb170));clear HO0;clear HO163;clear HB;have HO0:=n0_;have HO163:=n1_;have HB:=n2_;have BK170:=n3_;have GW170:=n4_;have GE170:=n5_;clear n0_ n1_ n2_ n3_ n4_ n5_;clear hb hbox hg;have hcz19_0:w18.cell? ⟨gb170,0,none⟩=some (.int .i64 0):=(y0i BK170.out 0).trans rfl;have hcz19_1:w18.cell? ⟨gb170,1,none⟩=some (.int .i64 0):=(y0i BK170.out 1).trans rfl;have hcz19_2:w18.cell? ⟨gb170,2,none⟩=some (.int .i64 0):=(y0i BK170.out 2).trans rfl;have hcz19_3:w18.cell? ⟨gb170,3,none⟩=some (.int .i64 0):=(y0i BK170.out 3).trans rfl;have hfz19_0:=y0f BK170.out 0;have hfz19_1:=y0f BK170.out 1;have hfz19_2:=y0f BK170.out 2;have hfz19_3:=y0f BK170.out 3))
   go_loopg [7,25] k (fun kq v7 v25 w'=>∃ (x7_1:List Int) (x25_1:Int),v25=.int .i64 x25_1∧As0 (mobs_Between.l0 kq l0 x7_1 (l0.length:Int) x25_1=some (r1,r2))∧As0 (kq≤k)∧As0 (Kd.V (Kd.int .i64) 3 w' w.heap.size (fun k_=>(P0_ k_∨w.heap.size≤k_)∧some k_≠(v7:Value).ownBlock∧k_≠gb170) (.slice A0 l0.length c0) l0)∧As0 (Kd.R (Kd.int .i64) 3 w' w.heap.size (fun k_=>(w.heap.size≤k_)) v7 x7_1)∧As0 (w'.heap[gb170]?=some (.cells #[.int .i64 t165,.int .i64 t166,.int .i64 t167,.int .i64 t168] 31 (0,0)))∧As0 (Below w.heap.size w w'))
   case atStart=>exact ⟨(([]:List Int)),(0),(by rfl),H',⟨zLe _⟩,⟨by (with_reducible repeat (first|apply Kd.V_alloc|apply Kd.V_drewN|apply Kd.V_drew));exact Kd.V_mono (Kd.V_far (p:=⟨gb170,3,none⟩) (Kd.V_far (p:=⟨gb170,2,none⟩) (Kd.V_far (p:=⟨gb170,1,none⟩) (Kd.V_far (p:=⟨gb170,0,none⟩) (Kd.V_mono HO0.out (fun k_ hk=>(⟨hk,hk.2⟩:_∧k_≠gb170))) (fun _ hk=>hk.2) (.int .i64 t165)) (fun _ hk=>hk.2) (.int .i64 t166)) (fun _ hk=>hk.2) (.int .i64 t167)) (fun _ hk=>hk.2) (.int .i64 t168)) (fun _ hk=>⟨hk.1.1.1,⟨(by simp [Value.ownBlock]),hk.1.2⟩⟩)⟩,⟨by exact Kd.R_nil _ _ _ _ _⟩,⟨by (with_reducible repeat (first|refine y0c ?_ _|refine blk_drew ?_|refine blk_alloc ?_ _));refine y0y (cs:=#[.int .i64 t165,.int .i64 t166,.int .i64 t167,.int .i64 0]) ?_ 3 _ rfl;(with_reducible repeat (first|refine y0c ?_ _|refine blk_drew ?_|refine blk_alloc ?_ _));refine y0y (cs:=#[.int .i64 t165,.int .i64 t166,.int .i64 0,.int .i64 0]) ?_ 2 _ rfl;(with_reducible repeat (first|refine y0c ?_ _|refine blk_drew ?_|refine blk_alloc ?_ _));refine y0y (cs:=#[.int .i64 t165,.int .i64 0,.int .i64 0,.int .i64 0]) ?_ 1 _ rfl;(with_reducible repeat (first|refine y0c ?_ _|refine blk_drew ?_|refine blk_alloc ?_ _));refine y0y (cs:=#[.int .i64 0,.int .i64 0,.int .i64 0,.int .i64 0]) ?_ 0 _ rfl;(with_reducible repeat (first|refine y0c ?_ _|refine blk_drew ?_|refine blk_alloc ?_ _));exact BK170.out⟩,⟨by repeat (with_reducible first|exact HB.out|refine y0e ?_ GE170.out)⟩⟩
   case round =>
    clear H'
    try clear c2
    try clear p2
    try clear c3
    try clear c3b0
    try clear c3b1
    try clear c4
    try clear c5
    try clear hcz12_0
    try clear hcz12_1
    try clear hcz12_2
    try clear hcz12_3
    try clear hcz19_0
    try clear hcz19_1
    try clear hcz19_2
    try clear hcz19_3
    try clear hfz12_0
    try clear hfz12_1
    try clear hfz12_2
    try clear hfz12_3
    try clear hfz19_0
    try clear hfz19_1
    try clear hfz19_2
    try clear hfz19_3
    obtain ⟨x7_1,x25_1,rfl,HA,HK1,HO_0,HO_7,BK170,HB⟩:=hrel;cases gk with
    |zero=>exact absurd HA.out (by simp [mobs_Between.l0])
    |succ k1 =>
     have H:=HA.out;clear HA;simp only [mobs_Between.l0] at H
     by_cases c20:x25_1<(l0.length:Int)
     ·rw [if_pos c20] at H
      have c20b0:decide (x25_1<(l0.length:Int))=true:=zDt c20;clear c20;have H':=As0.mk H;clear H;go_wp2
      go_loopg [9,10] k1 (fun kq v9 v10 w'=>∃ (x9_2:Int) (x10_2:Int),v9=.int .i64 x9_2∧v10=.int .i64 x10_2∧As0 (mobs_Between.l1 kq l0 x7_1 x25_1 x9_2 x10_2 (l0.length:Int) x25_1=some (r1,r2))∧As0 (kq≤k1)∧As0 (Kd.V (Kd.int .i64) 3 w' w.heap.size (fun k_=>(P0_ k_∨w.heap.size≤k_)∧some k_≠(u7:Value).ownBlock∧k_≠gb170) (.slice A0 l0.length c0) l0)∧As0 (Kd.R (Kd.int .i64) 3 w' w.heap.size (fun k_=>(w.heap.size≤k_)) u7 x7_1)∧As0 (w'.heap[gb170]?=some (.cells #[.int .i64 t165,.int .i64 t166,.int .i64 t167,.int .i64 t168] 31 (0,0)))∧As0 (Below w.heap.size w w'))
      case atStart=>exact ⟨(x25_1),(wrap64 (x25_1 - 1)),(by rfl),(by rfl),H',⟨zLe _⟩,⟨by (with_reducible repeat (first|apply Kd.V_alloc|apply Kd.V_drewN|apply Kd.V_drew));exact HO_0.out⟩,⟨by (with_reducible repeat (first|apply Kd.R_alloc|apply Kd.R_drewN|apply Kd.R_drew));exact HO_7.out⟩,⟨by (with_reducible repeat (first|refine y0c ?_ _|refine blk_drew ?_|refine blk_alloc ?_ _));exact BK170.out⟩,⟨by repeat (with_reducible exact HB.out)⟩⟩
      case round =>
       clear H'
       try clear c2
       try clear p2
       try clear c3
       try clear c3b0
       try clear c3b1
       try clear c4
       try clear c5
       try clear p6
       try clear c20
       try clear c20b0
       try clear hcz12_0
       try clear hcz12_1
       try clear hcz12_2
       try clear hcz12_3
       try clear hcz19_0
       try clear hcz19_1
       try clear hcz19_2
       try clear hcz19_3
       try clear hfz12_0
       try clear hfz12_1
       try clear hfz12_2
       try clear hfz12_3
       try clear hfz19_0
       try clear hfz19_1
       try clear hfz19_2
       try clear hfz19_3
       try clear p2
       obtain ⟨x9_2,x10_2,rfl,rfl,HA,HK2,HO_0,HO_7,BK170,HB⟩:=hrel;cases gk with
       |zero=>exact absurd HA.out (by simp [mobs_Between.l1])
       |succ k2 =>
        have H:=HA.out;clear HA;simp only [mobs_Between.l1] at H
        by_cases c21:x10_2 ≥ 0
        ·rw [if_pos c21] at H
         have c21b0:decide (0≤x10_2)=true:=zDt c21;clear c21;replace H:=Option.bind_eq_some_iff.mp H;obtain ⟨t174,A220,H⟩:=H;replace H:(if t174=true then (mobs_Between.l1 k2 l0 x7_1 x25_1 x9_2 (wrap64 (x10_2 - 1)) (l0.length:Int) x25_1) else (mobs_Between.l1 k2 l0 x7_1 x25_1 x10_2 (wrap64 (x10_2 - 1)) (l0.length:Int) x25_1))=some (r1,r2):=H;have A22:=As0.mk A220;clear A220
         by_cases c23:t174=true
         ·subst c23
          have H1:(mobs_Between.l1 k2 l0 x7_1 x25_1 x9_2 (wrap64 (x10_2 - 1)) (l0.length:Int) x25_1)=some (r1,r2):=by rw [if_pos rfl] at H;exact H
          clear H;have H:=H1;clear H1;have H':=As0.mk H;clear H;go_wp2_with (((with_reducible refine y04 (f:=53) rfl ?_);refine y0h (some 38) rfl rfl Tra.func53 (by kernel_rfl) rfl #[.slice A0 l0.length c0,.int .i64 x10_2,.int .i64 x25_1] rfl (by (try simp only [List.map_toArray,List.map_cons,List.map_nil]);rfl) ?_;(with_reducible refine (mobs_parted.calls k2 _ _ l0 x10_2 x25_1 true _ ?side1 ?side2 A22.out).mono ?_);(case side1=>repeat (exact (Kd.V_reads' HO_0.out).2.2));(case side2=>exact (Kd.V_reads' HO_0.out).2.1);rintro e w24 ⟨rfl,hb⟩;refine ⟨_,rfl,?_⟩;have n0_:=As0.mk (Kd.V_below (by (with_reducible repeat (first|apply Kd.V_alloc|apply Kd.V_drewN|apply Kd.V_drew));exact HO_0.out) hb);have n1_:=As0.mk (Kd.R_below (by (with_reducible repeat (first|apply Kd.R_alloc|apply Kd.R_drewN|apply Kd.R_drew));exact HO_7.out) hb);have n2_:=As0.mk (y1d (g:=gb170) (o:=.cells #[.int .i64 t165,.int .i64 t166,.int .i64 t167,.int .i64 t168] 31 (0,0)) (by (with_reducible repeat (first|refine y0c ?_ _|refine blk_drew ?_|refine blk_alloc ?_ _));exact BK170.out) hb);have n3_:=As0.mk (y05 (by repeat (with_reducible exact HB.out)) hb);clear HO_0;clear HO_7;clear BK170;clear HB;have HO_0:=n0_;have HO_7:=n1_;have BK170:=n2_;have HB:=n3_;clear n0_ n1_ n2_ n3_;(try clear hb);(try clear hb2);(try clear hk);(try clear hi)))
          go_roundg k2
          case measure=>have:=HK1.out;have:=HK2.out;omega
          case rel=>exact ⟨(x9_2),(wrap64 (x10_2 - 1)),(by rfl),(by rfl),H',⟨by have:=HK1.out;have:=HK2.out;omega⟩,⟨by (with_reducible repeat (first|apply Kd.V_alloc|apply Kd.V_drewN|apply Kd.V_drew));exact HO_0.out⟩,⟨by (with_reducible repeat (first|apply Kd.R_alloc|apply Kd.R_drewN|apply Kd.R_drew));exact HO_7.out⟩,⟨by (with_reducible repeat (first|refine y0c ?_ _|refine blk_drew ?_|refine blk_alloc ?_ _));exact BK170.out⟩,⟨by repeat (with_reducible exact HB.out)⟩⟩
         ·replace c23:=Bool.eq_false_iff.mpr c23
          subst c23;have H1:(mobs_Between.l1 k2 l0 x7_1 x25_1 x10_2 (wrap64 (x10_2 - 1)) (l0.length:Int) x25_1)=some (r1,r2):=by rw [if_neg (show ¬ (false=true) by decide)] at H;exact H
          clear H;have H:=H1;clear H1;have H':=As0.mk H;clear H;go_wp2_with (((with_reducible refine y04 (f:=53) rfl ?_);refine y0h (some 38) rfl rfl Tra.func53 (by kernel_rfl) rfl #[.slice A0 l0.length c0,.int .i64 x10_2,.int .i64 x25_1] rfl (by (try simp only [List.map_toArray,List.map_cons,List.map_nil]);rfl) ?_;(with_reducible refine (mobs_parted.calls k2 _ _ l0 x10_2 x25_1 false _ ?side1 ?side2 A22.out).mono ?_);(case side1=>repeat (exact (Kd.V_reads' HO_0.out).2.2));(case side2=>exact (Kd.V_reads' HO_0.out).2.1);rintro e w25 ⟨rfl,hb⟩;refine ⟨_,rfl,?_⟩;have n0_:=As0.mk (Kd.V_below (by (with_reducible repeat (first|apply Kd.V_alloc|apply Kd.V_drewN|apply Kd.V_drew));exact HO_0.out) hb);have n1_:=As0.mk (Kd.R_below (by (with_reducible repeat (first|apply Kd.R_alloc|apply Kd.R_drewN|apply Kd.R_drew));exact HO_7.out) hb);have n2_:=As0.mk (y1d (g:=gb170) (o:=.cells #[.int .i64 t165,.int .i64 t166,.int .i64 t167,.int .i64 t168] 31 (0,0)) (by (with_reducible repeat (first|refine y0c ?_ _|refine blk_drew ?_|refine blk_alloc ?_ _));exact BK170.out) hb);have n3_:=As0.mk (y05 (by repeat (with_reducible exact HB.out)) hb);clear HO_0;clear HO_7;clear BK170;clear HB;have HO_0:=n0_;have HO_7:=n1_;have BK170:=n2_;have HB:=n3_;clear n0_ n1_ n2_ n3_;(try clear hb);(try clear hb2);(try clear hk);(try clear hi)))
          go_roundg k2
          case measure=>have:=HK1.out;have:=HK2.out;omega
          case rel=>exact ⟨(x10_2),(wrap64 (x10_2 - 1)),(by rfl),(by rfl),H',⟨by have:=HK1.out;have:=HK2.out;omega⟩,⟨by (with_reducible repeat (first|apply Kd.V_alloc|apply Kd.V_drewN|apply Kd.V_drew));exact HO_0.out⟩,⟨by (with_reducible repeat (first|apply Kd.R_alloc|apply Kd.R_drewN|apply Kd.R_drew));exact HO_7.out⟩,⟨by (with_reducible repeat (first|refine y0c ?_ _|refine blk_drew ?_|refine blk_alloc ?_ _));exact BK170.out⟩,⟨by repeat (with_reducible exact HB.out)⟩⟩
        ·rw [if_neg c21] at H
         have c21b0:decide (0≤x10_2)=false:=zDf c21;clear c21
         by_cases c26:x7_1.length<17592186044416
         ·rw [if_pos c26] at H
          have LMc26:=As0.mk c26;clear c26;obtain ⟨y175,hy175⟩:∃ y_:List Int,y_=(x7_1 ++ [x9_2]):=⟨_,rfl⟩
          replace H:(mobs_Between.l0 k2 l0 y175 (l0.length:Int) (wrap64 (x25_1+1)))=some (r1,r2):=by (rw [hy175];with_reducible exact H)
          have Ny175:=As0.mk hy175;clear hy175;have H':=As0.mk H;clear H;go_wp2_with (((with_reducible refine y0n (b:=.append) (xs:=#[.tmp 41,.tmp 43]) rfl ?_);at_builtin;refine Kd.R_append (Kd.int .i64) (w0:=w) w.heap.size rfl (.tmp 41) (.tmp 43) 29 3 (.int .i64 0) 8 rfl Tra.underlying29 info3 rfl (by decide) (by omega) u7 x7_1 x9_2 [.int .i64 x9_2] (fun k_=>(w.heap.size≤k_)) (fun _=>False) rfl rfl ?aP (fun _ hk=>hk.elim) ?aF ?aO ?aB ?aS ?aL ?_;(case aP=>exact rfl);(case aB=>exact (by repeat (with_reducible exact HB.out)));(case aF=>exact (fun k_ hk=>(Nat.le_trans (y03 (by repeat (with_reducible exact HB.out))) hk)));(case aO=>exact (by (with_reducible repeat (first|apply Kd.R_alloc|apply Kd.R_drewN|apply Kd.R_drew));exact HO_7.out));(case aS=>exact (y03 (by repeat (with_reducible exact HB.out))));(case aL=>have:=LMc26.out;omega);intro v176 w27 ho hb hg hat;rw [← Ny175.out] at ho;have n0_:=As0.mk (Kd.V_afterv (ok:=(fun k_=>(P0_ k_∨w.heap.size≤k_)∧k_≠gb170)) (by (with_reducible repeat (first|apply Kd.V_alloc|apply Kd.V_drewN|apply Kd.V_drew));exact Kd.V_mono HO_0.out (fun _ hk=>⟨⟨hk.1,hk.2.2⟩,hk.2.1⟩)) hg hat);have n1_:=As0.mk (yeb (g:=gb170) (o:=.cells #[.int .i64 t165,.int .i64 t166,.int .i64 t167,.int .i64 t168] 31 (0,0)) (by (with_reducible repeat (first|refine y0c ?_ _|refine blk_drew ?_|refine blk_alloc ?_ _));exact BK170.out) hg (Kd.R_ne HO_7.out BK170.out (by decide)));have n2_:=As0.mk (hb);have n3_:=As0.mk (ho);clear HO_0;clear BK170;clear HB;clear HO_7;have HO_0:=n0_;have BK170:=n1_;have HB:=n2_;have HO177:=n3_;clear n0_ n1_ n2_ n3_;clear ho hb hg hat))
          go_roundg k2
          case measure=>have:=HK1.out;have:=HK2.out;omega
          case rel=>exact ⟨(y175),(wrap64 (x25_1+1)),(by rfl),H',⟨by have:=HK1.out;have:=HK2.out;omega⟩,⟨by (with_reducible repeat (first|apply Kd.V_alloc|apply Kd.V_drewN|apply Kd.V_drew));exact Kd.V_mono HO_0.out (fun _ hk=>⟨hk.1.1,⟨hk.2,hk.1.2⟩⟩)⟩,⟨by (with_reducible repeat (first|apply Kd.R_alloc|apply Kd.R_drewN|apply Kd.R_drew));exact HO177.out⟩,⟨by (with_reducible repeat (first|refine y0c ?_ _|refine blk_drew ?_|refine blk_alloc ?_ _));exact BK170.out⟩,⟨by repeat (with_reducible exact HB.out)⟩⟩
         ·rw [if_neg c26] at H
          exact absurd H (by simp)
     ·rw [if_neg c20] at H
      have c20b0:decide (x25_1<(l0.length:Int))=false:=zDf c20;clear c20;replace H:=Option.bind_eq_some_iff.mp H;obtain ⟨t171,A280,H⟩:=H;replace H:(some (t171,0))=some (r1,r2):=H;have A28:=As0.mk A280;clear A280;simp only [Option.some.injEq,Prod.mk.injEq] at H;obtain ⟨rfl,rfl⟩:=H;obtain ⟨Ao29,co29,eo29⟩:=Kd.R_slice HO_7.out;subst eo29;go_wp2_with (((with_reducible refine y04 (f:=54) rfl ?_);refine y0h (some 47) rfl rfl Tra.func54 (by kernel_rfl) rfl #[.slice Ao29 x7_1.length co29] rfl (by (try simp only [List.map_toArray,List.map_cons,List.map_nil]);rfl) ?_;(with_reducible refine (mobs_number_int.calls _ _ x7_1 t171 _ ?side1 ?side2 A28.out).mono ?_);(case side1=>repeat (exact (Kd.R_reads' HO_7.out).2.2));(case side2=>exact (Kd.R_reads' HO_7.out).2.1);rintro e w30 ⟨v172,rfl,ho0,hb⟩;refine ⟨_,rfl,?_⟩;have n0_:=As0.mk (Kd.V_elder' (by (with_reducible repeat (first|apply Kd.V_alloc|apply Kd.V_drewN|apply Kd.V_drew));exact HO_0.out) (Kd.R_base ho0) hb);have n1_:=As0.mk (Kd.R_elder' (by (with_reducible repeat (first|apply Kd.R_alloc|apply Kd.R_drewN|apply Kd.R_drew));exact HO_7.out) (Kd.R_base ho0) hb);have n2_:=As0.mk (Kd.R_lower (Kd.R_new' (Kd.R_newM (M:=fun k_=>(w.heap.size≤k_)) ho0 (y03 (by repeat (with_reducible exact HB.out))) (fun k_ h_=>h_)) (Kd.R_lt (by (with_reducible repeat (first|apply Kd.R_alloc|apply Kd.R_drewN|apply Kd.R_drew));exact HO_7.out))) (y03 (by repeat (with_reducible exact HB.out))));have n3_:=As0.mk (y1d (g:=gb170) (o:=.cells #[.int .i64 t165,.int .i64 t166,.int .i64 t167,.int .i64 t168] 31 (0,0)) (by (with_reducible repeat (first|refine y0c ?_ _|refine blk_drew ?_|refine blk_alloc ?_ _));exact BK170.out) hb);have n4_:=As0.mk (y05 (by repeat (with_reducible exact HB.out)) hb);clear HO_0;clear HO_7;clear BK170;clear HB;have HO_0:=n0_;have HO_7:=n1_;have HO173:=n2_;have BK170:=n3_;have HB:=n4_;clear n0_ n1_ n2_ n3_ n4_;(try clear hb);(try clear hb2);(try clear hk);(try clear hi);(try clear ho0)))
      go_ret2
      exact ⟨_,by rfl,by (with_reducible repeat (first|apply Kd.R_alloc|apply Kd.R_drewN|apply Kd.R_drew));exact Kd.R_mono HO173.out (fun _ hk=>hk.1.1),by repeat (with_reducible exact HB.out)⟩
 ·rw [if_neg c3] at H
  have c3b0:(t164 == 0)=false:=beq_eq_false_iff_ne.mpr c3;have c3b1:(t164 != 0)=true:=bne_iff_ne.mpr c3;simp only [Option.some.injEq,Prod.mk.injEq] at H;obtain ⟨rfl,rfl⟩:=H;go_enter Tra.func25,Tra.ntmps25
  go_wp2_with (first|((with_reducible refine y0l (N:=12) rfl ?_);refine Kd.N_lit (Kd.slice 3 (Kd.int .i64)) _ 29 ?hg (N':=12) ?hd (xs:=([l0]:List (List Int))) (inner:=[.slice A0 l0.length c0]) (ok:=(fun k_=>(P0_ k_∨w.heap.size≤k_))) (okp:=(fun k_=>(P0_ k_∨w.heap.size≤k_))) ?hr ?hp (fun _ hk=>hk) ((show ∀ k_,w.heap.size≤k_->(fun k_=>(P0_ k_∨w.heap.size≤k_)) k_ from fun k_ hk=>(.inr (Nat.le_trans (y03 (by repeat (with_reducible exact HB.out))) hk))) _ (zLe _)) (Below.refl _ _) (zLe _) (by simp) ?_;(case hd=>rfl);(case hg=>rfl);(case hr=>(go_simp;done));(case hp=>exact (Reps.one (show Kd.FK (Kd.slice 3 (Kd.int .i64)) _ _ l0 [.slice A0 l0.length c0] from (Kd.FK_slice_mk (Kd.V_reads' (Kd.V_mono (ok':=(fun k_=>(P0_ k_∨w.heap.size≤k_))) (HO0.out) (fun k_ hk=>hk))).2.1 (Kd.V_F (Kd.V_mono (ok':=(fun k_=>(P0_ k_∨w.heap.size≤k_))) (HO0.out) (fun k_ hk=>hk))))) (Reps.none _ _)));intro v162 w31 ho32 hb hg_ hnew_;clear hg_ hnew_;(rw [← Ny161.out] at ho32);have n0_:=As0.mk (Kd.V_elder' (by (with_reducible repeat (first|apply Kd.V_alloc|apply Kd.V_drewN|apply Kd.V_drew));exact HO0.out) (Kd.N_base ho32) hb);have n1_:=As0.mk (Kd.N_lower ho32 (y03 (by repeat (with_reducible exact HB.out))));have n2_:=As0.mk (y05 (by repeat (with_reducible exact HB.out)) hb);clear HO0;clear HB;have HO0:=n0_;have HO163:=n1_;have HB:=n2_;clear n0_ n1_ n2_;clear hb ho32;obtain ⟨Ao33,co33,eo33⟩:=Kd.N_slice HO163.out;subst eo33)|((with_reducible refine y04 (f:=49) rfl ?_);refine y0h (some 13) rfl rfl Tra.func49 (by kernel_rfl) rfl #[.slice Ao33 y161.length co33] rfl (by (try simp only [List.map_toArray,List.map_cons,List.map_nil]);rfl) ?_;(with_reducible refine (mobs_read.calls k _ _ y161 t164 _ ?side1 ?side2 A2.out).mono ?_);(case side1=>repeat (exact (Kd.N_reads' HO163.out).2.2));(case side2=>exact (Kd.N_reads' HO163.out).2.1);rintro e w34 ⟨rfl,hb⟩;refine ⟨_,rfl,?_⟩;have n0_:=As0.mk (Kd.V_below (by (with_reducible repeat (first|apply Kd.V_alloc|apply Kd.V_drewN|apply Kd.V_drew));exact HO0.out) hb);have n1_:=As0.mk (Kd.N_below (by (with_reducible repeat (first|apply Kd.N_alloc|apply Kd.N_drewN|apply Kd.N_drew));exact HO163.out) hb);have n2_:=As0.mk (y05 (by repeat (with_reducible exact HB.out)) hb);clear HO0;clear HO163;clear HB;have HO0:=n0_;have HO163:=n1_;have HB:=n2_;clear n0_ n1_ n2_;(try clear hb);(try clear hb2);(try clear hk);(try clear hi)))
  go_ret2
  exact ⟨_,by rfl,by exact Kd.R_nil _ _ _ _ _,by repeat (with_reducible exact HB.out)⟩
end Go.Proofs.Ytdhgeondbnpeoaa.P
namespace Go.Proofs.Ytdhgeondbnpeoaa.P
open Go.RowKit Go.Proofs.Yw.Wd Go.Proofs.Yw.La Go.Proofs.Yw.Mo
attribute [local go_sem] y1b y19 y1q y1p y12 y11 y1a y18
mutual
def mobs_ways.l0:Nat->Int->Int->List Int->Int->Int->Option (Int)
 |0,_,_,_,_,_=>none
 |k+1,x0,x1,x5,x15,x16=>if x16<x15 then (if 0≤x16 then (if x16<(x5.length:Int) then (mobs_ways.l0 k x0 x1 (x5.set (x16:Int).toNat 1) x15 (wrap64 (x16+1))) else (none)) else (none)) else (mobs_ways.l1 k x0 x1 x5 x0 0)
def mobs_ways.l1:Nat->Int->Int->List Int->Int->Int->Option (Int)
 |0,_,_,_,_,_=>none
 |k+1,x0,x1,x5,x23,x24=>if x24<x23 then (mobs_ways.l2 k x0 x1 x5 x23 x24 (wrap64 ((wrap64 (x0+x1)) - x24)) 0) else (if 0≤x1 then (if x1<(x5.length:Int) then (some (rd x5 x1)) else (none)) else (none))
def mobs_ways.l2:Nat->Int->Int->List Int->Int->Int->Int->Int->Option (Int)
 |0,_,_,_,_,_,_,_=>none
 |k+1,x0,x1,x5,x23,x24,x31,x32=>if x32<x31 then (if 0≤x32 then (if x32<(x5.length:Int) then (if 0≤(wrap64 (x32+1)) then (if (wrap64 (x32+1))<(x5.length:Int) then (mobs_ways.l2 k x0 x1 (x5.set (x32:Int).toNat (wrap64 ((wrap64 (x32 * (rd x5 x32)))+(rd x5 (wrap64 (x32+1)))))) x23 x24 x31 (wrap64 (x32+1))) else (none)) else (none)) else (none)) else (none)) else (mobs_ways.l1 k x0 x1 x5 x23 (wrap64 (x24+1)))
end
def mobs_ways.f (k:Nat) (a0:Int) (a1:Int):Option (Int):=if 0≤(wrap64 ((wrap64 (a0+a1))+1)) then (if (wrap64 ((wrap64 (a0+a1))+1):Int).toNat≤35184372088832 then ((some (List.replicate (wrap64 ((wrap64 (a0+a1))+1):Int).toNat 0:List Int)).bind fun y198=>(mobs_ways.l0 k a0 a1 y198 (y198.length:Int) 0)) else (none)) else (none)
def mobs_ways.T13:Bool × List (List Nat × List Nat):=(true,[([],[]),([],[]),([],[]),([],[]),([],[]),([3,4],[3,4]),([5],[5]),([2,6],[2,6]),([],[]),([],[]),([9],[9]),([8,10],[8,10]),([11],[11]),([7,12],[7,12]),([0,1,0,1,2,3,4,5,6,7,8,9,10,11,12,13],[0,1]),([14,13,0,1,2,3,4,5,6,7,8,9,10,11,12,13],[13,14])])
def mobs_ways.B13:List Nat:=[0,0,0,0,0,24,56,124,0,0,512,1792,3840,8188,16383,32767]
theorem mobs_ways.tab13:rtab .any (ydj Tra.f67 13)=mobs_ways.T13:=by kernel_rfl
theorem mobs_ways.bits13:y2z mobs_ways.T13.2 mobs_ways.B13=true:=by kernel_rfl
theorem mobs_ways.calls (k:Nat) (a0:Int) (a1:Int) (r:Int) (w:World) (h:mobs_ways.f k a0 a1=some r) :
  Calls Tra.prog 67 #[.int .i64 a0,.int .i64 a1] w fun e w'=>e=.returned (.int .i64 r)∧Below w.heap.size w w':=by
 have HB:=As0.mk (Below.refl w.heap.size w);have H:(if 0≤(wrap64 ((wrap64 (a0+a1))+1)) then (if (wrap64 ((wrap64 (a0+a1))+1):Int).toNat≤35184372088832 then ((some (List.replicate (wrap64 ((wrap64 (a0+a1))+1):Int).toNat 0:List Int)).bind fun y198=>(mobs_ways.l0 k a0 a1 y198 (y198.length:Int) 0)) else (none)) else (none))=some r:=h;clear h;obtain ⟨ji3,hji3⟩:∃ j_:Int,(wrap64 ((wrap64 (a0+a1))+1))=j_:=⟨_,rfl⟩
 replace H:(if 0≤(ji3) then (if (ji3:Int).toNat≤35184372088832 then ((some (List.replicate (ji3:Int).toNat 0:List Int)).bind fun y198=>(mobs_ways.l0 k a0 a1 y198 (y198.length:Int) 0)) else (none)) else (none))=some r:=by (rw [hji3] at H;exact H)
 have hji3w:(IntKind.i64.wrap ((wrap64 (a0+a1))+1))=ji3:=(y0a _).trans hji3
 by_cases c4:0≤(ji3)
 ·rw [if_pos c4] at H
  have c4b0:=eq_true c4;have c4b1:decide (0≤(ji3))=true:=zDt c4;clear c4
  by_cases c5:(ji3:Int).toNat≤35184372088832
  ·rw [if_pos c5] at H
   have c5b0:=eq_true c5;have c5b1:decide ((ji3:Int).toNat≤35184372088832)=true:=zDt c5;clear c5;obtain ⟨y198,hy198⟩:∃ y_:List Int,y_=(List.replicate (ji3:Int).toNat 0):=⟨_,rfl⟩
   replace H:(mobs_ways.l0 k a0 a1 y198 (y198.length:Int) 0)=some r:=by (have H2_:=(Option.bind_some _ _).symm.trans H;rw [hy198];with_reducible exact H2_)
   have Ny198:=As0.mk hy198;clear hy198;have H':=As0.mk H;clear H;go_enter Tra.func67,Tra.ntmps67
   go_wp2_with (((with_reducible refine y0l (N:=13) rfl ?_);refine Kd.R_make (Kd.int .i64) _ 3 rfl (N:=13) rfl 29 _ _ rfl ji3 rfl rfl Tra.underlying29 (.int .i64 0) 8 info3 rfl (by decide) (by omega) 0 (ok:=fun _=>True) (okp:=fun _=>True) rfl (fun _ hk=>hk) trivial (zDo (by with_reducible assumption)) (Nat.le_trans (Nat.mul_le_mul_right _ (zDo (by with_reducible assumption):ji3.toNat≤35184372088832)) (by omega)) (Below.refl _ _) (zLe _) ?_;intro v199 w6 ho7 hb hg_ hnew_;clear hg_ hnew_;(rw [← Ny198.out] at ho7);have n0_:=As0.mk (Kd.R_lower ho7 (y03 (by repeat (with_reducible exact HB.out))));have n1_:=As0.mk (y05 (by repeat (with_reducible exact HB.out)) hb);clear HB;have HO200:=n0_;have HB:=n1_;clear n0_ n1_;clear hb ho7;obtain ⟨Ao8,co8,eo8⟩:=Kd.R_slice HO200.out;subst eo8))
   go_loopg [16] k (fun kq v16 w'=>∃ (x5_1:List Int) (x16_1:Int),v16=.int .i64 x16_1∧As0 (mobs_ways.l0 kq a0 a1 x5_1 (y198.length:Int) x16_1=some r)∧As0 (kq≤k)∧As0 (Kd.R (Kd.int .i64) 3 w' w.heap.size (fun _=>True) (.slice Ao8 y198.length co8) x5_1)∧As0 (Below w.heap.size w w'))
   case atStart=>exact ⟨(y198),(0),(by rfl),H',⟨zLe _⟩,⟨by (with_reducible repeat (first|apply Kd.R_alloc|apply Kd.R_drewN|apply Kd.R_drew));exact HO200.out⟩,⟨by repeat (with_reducible exact HB.out)⟩⟩
   case round =>
    clear H'
    try clear p2
    try clear c4
    try clear c4b0
    try clear c4b1
    try clear c5
    try clear c5b0
    try clear c5b1
    try clear c6
    try clear p6
    obtain ⟨x5_1,x16_1,rfl,HA,HK1,HO_5,HB⟩:=hrel;have hl5_1:=(Kd.R_reads' HO_5.out).1;rw [hl5_1] at HO_5
    (try simp only [hl5_1])
    cases gk with
    |zero=>exact absurd HA.out (by simp [mobs_ways.l0])
    |succ k1 =>
     have H:=HA.out;clear HA;simp only [mobs_ways.l0] at H
     by_cases c9:x16_1<(y198.length:Int)
     ·rw [if_pos c9] at H
      have c9b0:decide (x16_1<(y198.length:Int))=true:=zDt c9;clear c9
      by_cases c10:0≤x16_1
      ·rw [if_pos c10] at H
       have c10b0:decide (0≤x16_1)=true:=zDt c10;clear c10
       by_cases c11:x16_1<(x5_1.length:Int)
       ·rw [if_pos c11] at H
        have c11b0:decide (x16_1<(x5_1.length:Int))=true:=zDt c11;clear c11;obtain ⟨y201,hy201⟩:∃ y_:List Int,y_=(x5_1.set (x16_1:Int).toNat 1):=⟨_,rfl⟩
        replace H:(mobs_ways.l0 k1 a0 a1 y201 (y198.length:Int) (wrap64 (x16_1+1)))=some r:=by (rw [hy201];with_reducible exact H)
        have Ny201:=As0.mk hy201;clear hy201;have H':=As0.mk H;clear H;have p12:0≤(x16_1:Int):=zDo (by with_reducible assumption);have q12:(x16_1:Int)<((x5_1.length:Int):Int):=zDo (by with_reducible assumption);obtain ⟨go12,co12,eo12,gb12,gl12,cl12,HG12⟩:=Kd.R_form HO_5.out (by omega)
        (cases eo12)
        have GB12:=As0.mk gb12;have GG12:=As0.mk HG12;clear gb12 gl12 HG12;obtain ⟨hx12_0,hf12_0⟩:=Kd.R_celln 0 HO_5.out (x16_1:Int) p12 q12;replace p12:=eq_true p12;replace q12:=eq_true q12;have HP13:=Kd.R_putg HO_5.out (x16_1:Int) 1;go_wp2_with (((with_reducible refine y2w (t:=3) (p:=21) rfl ?_);refine y2i (t:=3) (p:=21) (v:=?vo_w14) (w1:=(wr.setCell ⟨go12,(x16_1:Int).toNat,none⟩ (.int .i64 1))) ?hg ?ho ?hn ?hr ?_;(case ho=>rfl);(case hg=>rfl);(case hn=>rfl);(case hr=>(go_simp;done));intro w14 hw;have hg:wr.grownBy w14 (some go12):=(by rw [hw];exact HP13.2);have hp_:Kd.R (Kd.int .i64) 3 w14 w.heap.size (fun _=>True) (.slice (some ⟨go12,0,none⟩) x5_1.length co8) y201:=(by rw [hw,Ny201.out];exact HP13.1);clear HP13;have n0_:=As0.mk (hp_);have n1_:=As0.mk ((by rw [hw];exact y0e (HB.out) GB12.out:Below w.heap.size w w14));clear HO_5;clear HB;have HO_5:=n0_;have HB:=n1_;clear n0_ n1_;clear hg hw hp_))
        (try simp only [← hl5_1])
        go_roundg k1
        case measure=>have:=HK1.out;omega
        case rel=>exact ⟨(y201),(wrap64 (x16_1+1)),(by rfl),H',⟨by have:=HK1.out;omega⟩,⟨by (try simp only [hl5_1]);(with_reducible repeat (first|apply Kd.R_alloc|apply Kd.R_drewN|apply Kd.R_drew));exact HO_5.out⟩,⟨by repeat (with_reducible exact HB.out)⟩⟩
       ·rw [if_neg c11] at H
        exact absurd H (by simp)
      ·rw [if_neg c10] at H
       exact absurd H (by simp)
     ·rw [if_neg c9] at H
      have c9b0:decide (x16_1<(y198.length:Int))=false:=zDf c9
      try (have c9b0_:=c9b0;simp only [hl5_1] at c9b0_)
      clear c9;have H':=As0.mk H;clear H;go_wp2
      go_loopg [24] k1 (fun kq v24 w'=>∃ (x5_2:List Int) (x24_2:Int),v24=.int .i64 x24_2∧As0 (mobs_ways.l1 kq a0 a1 x5_2 a0 x24_2=some r)∧As0 (kq≤k1)∧As0 (Kd.R (Kd.int .i64) 3 w' w.heap.size (fun _=>True) (.slice Ao8 x5_1.length co8) x5_2)∧As0 (Below w.heap.size w w'))
      case atStart=>exact ⟨(x5_1),(0),(by rfl),H',⟨zLe _⟩,⟨by (try simp only [hl5_1]);(with_reducible repeat (first|apply Kd.R_alloc|apply Kd.R_drewN|apply Kd.R_drew));exact HO_5.out⟩,⟨by repeat (with_reducible exact HB.out)⟩⟩
      case round =>
       clear H'
       try clear c1
       try clear p1
       try clear q1
       try clear hx1
       try clear p2
       try clear c4
       try clear c4b0
       try clear c4b1
       try clear c5
       try clear c5b0
       try clear c5b1
       try clear c6
       try clear p6
       try clear c9
       try clear c9b0
       try clear c10
       try clear c10b0
       try clear c11
       try clear c11b0
       try clear p12
       try clear q12
       try clear hx12
       try clear hf12
       try clear hx12_0
       try clear p12
       try clear p2
       try clear p6
       try clear q12
       obtain ⟨x5_2,x24_2,rfl,HA,HK2,HO_5,HB⟩:=hrel;have hl5_2:=(Kd.R_reads' HO_5.out).1;rw [hl5_2] at HO_5
       (try simp only [hl5_2])
       cases gk with
       |zero=>exact absurd HA.out (by simp [mobs_ways.l1])
       |succ k2 =>
        have H:=HA.out;clear HA;simp only [mobs_ways.l1] at H
        by_cases c15:x24_2<a0
        ·rw [if_pos c15] at H
         have c15b0:decide (x24_2<a0)=true:=zDt c15;clear c15;have H':=As0.mk H;clear H;go_wp2
         go_loopg [32] k2 (fun kq v32 w'=>∃ (x5_3:List Int) (x32_3:Int),v32=.int .i64 x32_3∧As0 (mobs_ways.l2 kq a0 a1 x5_3 a0 x24_2 (wrap64 ((wrap64 (a0+a1)) - x24_2)) x32_3=some r)∧As0 (kq≤k2)∧As0 (Kd.R (Kd.int .i64) 3 w' w.heap.size (fun _=>True) (.slice Ao8 x5_2.length co8) x5_3)∧As0 (Below w.heap.size w w'))
         case atStart=>exact ⟨(x5_2),(0),(by rfl),H',⟨zLe _⟩,⟨by (try simp only [hl5_1]);(try simp only [hl5_2]);(with_reducible repeat (first|apply Kd.R_alloc|apply Kd.R_drewN|apply Kd.R_drew));exact HO_5.out⟩,⟨by repeat (with_reducible exact HB.out)⟩⟩
         case round =>
          clear H'
          try clear c1
          try clear p1
          try clear q1
          try clear hx1
          try clear p2
          try clear c4
          try clear c4b0
          try clear c4b1
          try clear c5
          try clear c5b0
          try clear c5b1
          try clear c6
          try clear p6
          try clear c9
          try clear c9b0
          try clear c10
          try clear c10b0
          try clear c11
          try clear c11b0
          try clear p12
          try clear q12
          try clear hx12
          try clear hf12
          try clear c15
          try clear c15b0
          try clear hx12_0
          try clear p1
          try clear p12
          try clear p2
          try clear p6
          try clear q1
          try clear q12
          obtain ⟨x5_3,x32_3,rfl,HA,HK3,HO_5,HB⟩:=hrel;have hl5_3:=(Kd.R_reads' HO_5.out).1;rw [hl5_3] at HO_5
          (try simp only [hl5_3])
          cases gk with
          |zero=>exact absurd HA.out (by simp [mobs_ways.l2])
          |succ k3 =>
           have H:=HA.out;clear HA;simp only [mobs_ways.l2] at H
           by_cases c16:x32_3<(wrap64 ((wrap64 (a0+a1)) - x24_2))
           ·rw [if_pos c16] at H
            have c16b0:decide (x32_3<(wrap64 ((wrap64 (a0+a1)) - x24_2)))=true:=zDt c16;clear c16
            by_cases c17:0≤x32_3
            ·rw [if_pos c17] at H
             have c17b0:decide (0≤x32_3)=true:=zDt c17;clear c17
             by_cases c18:x32_3<(x5_3.length:Int)
             ·rw [if_pos c18] at H
              have c18b0:decide (x32_3<(x5_3.length:Int))=true:=zDt c18;clear c18;obtain ⟨ji19,hji19⟩:∃ j_:Int,(wrap64 (x32_3+1))=j_:=⟨_,rfl⟩
              replace H:(if 0≤(ji19) then (if (ji19)<(x5_3.length:Int) then (mobs_ways.l2 k3 a0 a1 (x5_3.set (x32_3:Int).toNat (wrap64 ((wrap64 (x32_3 * (rd x5_3 x32_3)))+(rd x5_3 (ji19))))) a0 x24_2 (wrap64 ((wrap64 (a0+a1)) - x24_2)) ji19) else (none)) else (none))=some r:=by (rw [hji19] at H;exact H)
              have hji19w:(IntKind.i64.wrap (x32_3+1))=ji19:=(y0a _).trans hji19
              by_cases c20:0≤(ji19)
              ·rw [if_pos c20] at H
               have c20b0:decide (0≤(ji19))=true:=zDt c20;clear c20
               by_cases c21:(ji19)<(x5_3.length:Int)
               ·rw [if_pos c21] at H
                have c21b0:decide ((ji19)<(x5_3.length:Int))=true:=zDt c21;clear c21;obtain ⟨y205,hy205⟩:∃ y_:List Int,y_=(x5_3.set (x32_3:Int).toNat (wrap64 ((wrap64 (x32_3 * (rd x5_3 x32_3)))+(rd x5_3 (ji19))))):=⟨_,rfl⟩
                replace H:(mobs_ways.l2 k3 a0 a1 y205 a0 x24_2 (wrap64 ((wrap64 (a0+a1)) - x24_2)) ji19)=some r:=by (rw [hy205];with_reducible exact H)
                have Ny205:=As0.mk hy205;clear hy205;have H':=As0.mk H;clear H
                try go_wp2
                have n0_:=As0.mk (Kd.R_drew HO_5.out);have n1_:=As0.mk (y01 HB.out);clear HO_5;clear HB;have HO_5:=n0_;have HB:=n1_;clear n0_ n1_;have p203:0≤(x32_3:Int):=zDo (by with_reducible assumption);have q203:x32_3<(x5_3.length:Int):=zDo (by with_reducible assumption);obtain ⟨ad203,e203,hx203_0⟩:=Kd.at_int (Kd.R_reads' HO_5.out).2.2 x32_3 p203 q203;cases e203
                replace p203:=eq_true p203;replace q203:=eq_true q203;have p204:0≤((ji19):Int):=zDo (by with_reducible assumption);have q204:(ji19)<(x5_3.length:Int):=zDo (by with_reducible assumption);obtain ⟨ad204,e204,hx204_0⟩:=Kd.at_int (Kd.R_reads' HO_5.out).2.2 (ji19) p204 q204;obtain rfl:ad203=ad204:=(by injection e204)
                replace p204:=eq_true p204;replace q204:=eq_true q204;have p22:0≤(x32_3:Int):=zDo (by with_reducible assumption);have q22:(x32_3:Int)<((x5_3.length:Int):Int):=zDo (by with_reducible assumption);obtain ⟨go22,co22,eo22,gb22,gl22,cl22,HG22⟩:=Kd.R_form HO_5.out (by omega)
                (cases eo22)
                have GB22:=As0.mk gb22;have GG22:=As0.mk HG22;clear gb22 gl22 HG22
                (simp only [y14] at hx203_0)
                (simp only [y14] at hx204_0)
                obtain ⟨hx22_0,hf22_0⟩:=Kd.R_celln 0 HO_5.out (x32_3:Int) p22 q22;replace p22:=eq_true p22;replace q22:=eq_true q22;have HP24:=Kd.R_putn HO_5.out (x32_3:Int) (wrap64 ((wrap64 (x32_3 * (rd x5_3 x32_3)))+(rd x5_3 (ji19))));rw [← Ny205.out] at HP24;have HQ24:=As0.mk HP24;clear HP24;refine y3n (n:=16) (S:=fun w'=>w'.cell? ⟨go22,(x32_3).toNat,none⟩=some (.int .i64 (rd x5_3 x32_3))∧w'.cell? ⟨go22,((ji19)).toNat,none⟩=some (.int .i64 (rd x5_3 (ji19)))) (ds:=[15]) #[false,false,false,false,false,false,false,false,false,false,false,false,false,false,false,false] (by kernel_rfl) rfl rfl ⟨hx203_0,hx204_0⟩ (fun hHeld=>?_);refine y1o mobs_ways.tab13 mobs_ways.bits13 (fun HT_ HW_=>?_);generalize wr.drew=w23 at HO_5 HB GG22 HQ24 hf22_0 hx203_0 hx204_0 hx22_0 hHeld ⊢;refine y0d (i:=0) (N:=some 35) (v:=?_) (a':=?_) #[true,false,false,false,false,false,false,false,false,false,false,false,false,false,false,false] rfl rfl (y06 HT_.out (by kernel_rfl)) (fun _ _ _ h=>h) (Or.inl ⟨by rfl,?_⟩) ?_ ?_;rotate_left
                ·intro w'
                 go_simp
                 with_reducible rfl
                rotate_left
                ·simp only [Act.put,List.setIfInBounds_toArray,List.set_cons_zero,List.set_cons_succ,y0a,y0b]
                 rfl
                refine y0d (i:=1) (N:=some 36) (v:=?_) (a':=?_) #[true,true,false,false,false,false,false,false,false,false,false,false,false,false,false,false] rfl rfl (y06 HT_.out (by kernel_rfl)) (fun _ _ _ h=>h) (Or.inl ⟨by rfl,?_⟩) ?_ ?_;rotate_left
                ·intro w'
                 go_simp
                 with_reducible rfl
                rotate_left
                ·simp only [Act.put,List.setIfInBounds_toArray,List.set_cons_zero,List.set_cons_succ,y0a,y0b]
                 rfl
                refine y0d (i:=2) (N:=some 37) (v:=?_) (a':=?_) #[true,true,true,false,false,false,false,false,false,false,false,false,false,false,false,false] rfl rfl (y06 HT_.out (by kernel_rfl)) (fun _ _ _ h=>h) (Or.inl ⟨by rfl,?_⟩) ?_ ?_;rotate_left
                ·intro w'
                 go_simp
                 with_reducible rfl
                rotate_left
                ·simp only [Act.put,List.setIfInBounds_toArray,List.set_cons_zero,List.set_cons_succ,y0a,y0b]
                 rfl
                refine y0d (i:=3) (N:=some 38) (v:=?_) (a':=?_) #[true,true,true,true,false,false,false,false,false,false,false,false,false,false,false,false] rfl rfl (y06 HT_.out (by kernel_rfl)) (fun _ _ _ h=>h) (Or.inl ⟨by rfl,?_⟩) ?_ ?_;rotate_left
                ·intro w'
                 go_simp
                 with_reducible rfl
                rotate_left
                ·simp only [Act.put,List.setIfInBounds_toArray,List.set_cons_zero,List.set_cons_succ,y0a,y0b]
                 rfl
                refine y0d (i:=4) (N:=some 39) (v:=?_) (a':=?_) #[true,true,true,true,true,false,false,false,false,false,false,false,false,false,false,false] rfl rfl (y06 HT_.out (by kernel_rfl)) (fun _ _ _ h=>h) (Or.inl ⟨by rfl,?_⟩) ?_ ?_;rotate_left
                ·intro w'
                 go_simp
                 with_reducible rfl
                rotate_left
                ·simp only [Act.put,List.setIfInBounds_toArray,List.set_cons_zero,List.set_cons_succ,y0a,y0b]
                 rfl
                refine y0d (i:=5) (N:=some 40) (v:=?_) (a':=?_) #[true,true,true,true,true,true,false,false,false,false,false,false,false,false,false,false] rfl rfl (y06 HT_.out (by kernel_rfl)) (fun _ _ _ h=>h) (Or.inl ⟨by rfl,?_⟩) ?_ ?_;rotate_left
                ·intro w'
                 go_simp
                 with_reducible rfl
                rotate_left
                ·simp only [Act.put,List.setIfInBounds_toArray,List.set_cons_zero,List.set_cons_succ,y0a,y0b]
                 rfl
                refine y0d (i:=8) (N:=some 43) (v:=?_) (a':=?_) #[true,true,true,true,true,true,false,false,true,false,false,false,false,false,false,false] rfl rfl (y06 HT_.out (by kernel_rfl)) (fun _ _ _ h=>h) (Or.inl ⟨by rfl,?_⟩) ?_ ?_;rotate_left
                ·intro w'
                 go_simp
                 with_reducible rfl
                rotate_left
                ·simp only [Act.put,List.setIfInBounds_toArray,List.set_cons_zero,List.set_cons_succ,y0a,y0b]
                 rfl
                refine y0d (i:=9) (N:=some 44) (v:=?_) (a':=?_) #[true,true,true,true,true,true,false,false,true,true,false,false,false,false,false,false] rfl rfl (y06 HT_.out (by kernel_rfl)) (fun _ _ _ h=>h) (Or.inl ⟨by rfl,?_⟩) ?_ ?_;rotate_left
                ·intro w'
                 go_simp
                 with_reducible rfl
                rotate_left
                ·simp only [Act.put,List.setIfInBounds_toArray,List.set_cons_zero,List.set_cons_succ,y0a,y0b]
                 rfl
                refine y0d (i:=10) (N:=some 45) (v:=?_) (a':=?_) #[true,true,true,true,true,true,false,false,true,true,true,false,false,false,false,false] rfl rfl (y06 HT_.out (by kernel_rfl)) (fun _ _ _ h=>h) (Or.inl ⟨by rfl,?_⟩) ?_ ?_;rotate_left
                ·intro w'
                 go_simp
                 with_reducible rfl
                rotate_left
                ·simp only [Act.put,List.setIfInBounds_toArray,List.set_cons_zero,List.set_cons_succ,y0a,y0b]
                 rfl
                refine y0d (i:=11) (N:=some 46) (v:=?_) (a':=?_) #[true,true,true,true,true,true,false,false,true,true,true,true,false,false,false,false] rfl rfl (y06 HT_.out (by kernel_rfl)) (fun _ _ _ h=>h) (Or.inl ⟨by rfl,?_⟩) ?_ ?_;rotate_left
                ·intro w'
                 go_simp
                 with_reducible rfl
                rotate_left
                ·simp only [Act.put,List.setIfInBounds_toArray,List.set_cons_zero,List.set_cons_succ,y0a,y0b]
                 rfl
                refine take_ (i:=6) (N:=some 41) (v:=?_) (a':=?_) #[true,true,true,true,true,true,true,false,true,true,true,true,false,false,false,false] rfl rfl (y0m HT_.out HW_.out (by kernel_rfl)) (fun _ _ _ h=>h) (Or.inl ⟨by rfl,?_⟩) hHeld ?_ ?_;rotate_left
                ·rintro w' ⟨s0,s1⟩
                 go_simp
                 with_reducible rfl
                rotate_left
                ·simp only [Act.put,List.setIfInBounds_toArray,List.set_cons_zero,List.set_cons_succ,y0a,y0b]
                 rfl
                refine y0d (i:=7) (N:=some 42) (v:=?_) (a':=?_) #[true,true,true,true,true,true,true,true,true,true,true,true,false,false,false,false] rfl rfl (y06 HT_.out (by kernel_rfl)) (fun _ _ _ h=>h) (Or.inl ⟨by rfl,?_⟩) ?_ ?_;rotate_left
                ·intro w'
                 go_simp
                 with_reducible rfl
                rotate_left
                ·simp only [Act.put,List.setIfInBounds_toArray,List.set_cons_zero,List.set_cons_succ,y0a,y0b]
                 rfl
                refine take_ (i:=12) (N:=some 47) (v:=?_) (a':=?_) #[true,true,true,true,true,true,true,true,true,true,true,true,true,false,false,false] rfl rfl (y0m HT_.out HW_.out (by kernel_rfl)) (fun _ _ _ h=>h) (Or.inl ⟨by rfl,?_⟩) hHeld ?_ ?_;rotate_left
                ·rintro w' ⟨s0,s1⟩
                 go_simp
                 with_reducible rfl
                rotate_left
                ·simp only [Act.put,List.setIfInBounds_toArray,List.set_cons_zero,List.set_cons_succ,y0a,y0b]
                 rfl
                refine y0d (i:=13) (N:=some 48) (v:=?_) (a':=?_) #[true,true,true,true,true,true,true,true,true,true,true,true,true,true,false,false] rfl rfl (y06 HT_.out (by kernel_rfl)) (fun _ _ _ h=>h) (Or.inl ⟨by rfl,?_⟩) ?_ ?_;rotate_left
                ·intro w'
                 go_simp
                 with_reducible rfl
                rotate_left
                ·simp only [Act.put,List.setIfInBounds_toArray,List.set_cons_zero,List.set_cons_succ,y0a,y0b]
                 rfl
                refine y0d (i:=14) (N:=some 49) (v:=?_) (a':=?_) #[true,true,true,true,true,true,true,true,true,true,true,true,true,true,true,false] rfl rfl (y06 HT_.out (by kernel_rfl)) (fun _ _ _ h=>h) (Or.inl ⟨by rfl,?_⟩) ?_ ?_;rotate_left
                ·intro w'
                 go_simp
                 with_reducible rfl
                rotate_left
                ·simp only [Act.put,List.setIfInBounds_toArray,List.set_cons_zero,List.set_cons_succ,y0a,y0b]
                 rfl
                refine last_ (i:=15) (N:=none) #[true,true,true,true,true,true,true,true,true,true,true,true,true,true,true,true] rfl rfl (y45 HT_.out (by kernel_rfl)) (by decide) (fun K hK=>?_);refine skip_ (w1:=?_) (by rfl) rfl ?_ ?_;rotate_left
                ·go_simp
                 rfl
                refine hK.out _ _ ?_;clear hK K;refine y6j (y2q HT_.out (by kernel_rfl)) ?_
                try go_wp2
                (try simp only [← hl5_3])
                go_roundg k3
                case measure=>have:=HK1.out;have:=HK2.out;have:=HK3.out;omega
                case rel=>exact ⟨(y205),(ji19),(by rfl),H',⟨by have:=HK1.out;have:=HK2.out;have:=HK3.out;omega⟩,⟨by (try simp only [hl5_1]);(try simp only [hl5_2]);(try simp only [hl5_3]);(with_reducible repeat (first|apply Kd.R_alloc|apply Kd.R_drewN|apply Kd.R_drew));exact HQ24.out⟩,⟨by repeat (with_reducible first|exact HB.out|refine y0e ?_ GB22.out)⟩⟩
               ·rw [if_neg c21] at H
                exact absurd H (by simp)
              ·rw [if_neg c20] at H
               exact absurd H (by simp)
             ·rw [if_neg c18] at H
              exact absurd H (by simp)
            ·rw [if_neg c17] at H
             exact absurd H (by simp)
           ·rw [if_neg c16] at H
            have c16b0:decide (x32_3<(wrap64 ((wrap64 (a0+a1)) - x24_2)))=false:=zDf c16;clear c16;have H':=As0.mk H;clear H;go_wp2
            (try simp only [← hl5_2,← hl5_3])
            go_roundg k3
            case measure=>have:=HK1.out;have:=HK2.out;have:=HK3.out;omega
            case rel=>exact ⟨(x5_3),(wrap64 (x24_2+1)),(by rfl),H',⟨by have:=HK1.out;have:=HK2.out;have:=HK3.out;omega⟩,⟨by (try simp only [hl5_1]);(try simp only [hl5_2]);(try simp only [hl5_3]);(with_reducible repeat (first|apply Kd.R_alloc|apply Kd.R_drewN|apply Kd.R_drew));exact HO_5.out⟩,⟨by repeat (with_reducible exact HB.out)⟩⟩
        ·rw [if_neg c15] at H
         have c15b0:decide (x24_2<a0)=false:=zDf c15;clear c15
         by_cases c25:0≤a1
         ·rw [if_pos c25] at H
          have c25b0:decide (0≤a1)=true:=zDt c25;clear c25
          by_cases c26:a1<(x5_2.length:Int)
          ·rw [if_pos c26] at H
           have c26b0:decide (a1<(x5_2.length:Int))=true:=zDt c26;clear c26;obtain rfl:=zSi H;have p202:0≤(a1:Int):=zDo (by with_reducible assumption);have q202:a1<(x5_2.length:Int):=zDo (by with_reducible assumption);obtain ⟨ad202,e202,hx202_0⟩:=Kd.at_int (Kd.R_reads' HO_5.out).2.2 a1 p202 q202;cases e202
           replace p202:=eq_true p202;replace q202:=eq_true q202;go_wp2
           go_ret
           exact ⟨by rfl,by repeat (with_reducible exact HB.out)⟩
          ·rw [if_neg c26] at H
           exact absurd H (by simp)
         ·rw [if_neg c25] at H
          exact absurd H (by simp)
  ·rw [if_neg c5] at H
   exact absurd H (by simp)
 ·rw [if_neg c4] at H
  exact absurd H (by simp)
def mobs_Rank.l0:Nat->List Int->Int->Int->List Int->Int->Int->Option (Int × Int)
 |0,_,_,_,_,_,_=>none
 |k+1,x0,x5,x6,x15,x16,x17=>if x17<x16 then (if 0≤x17 then (if x17<(x15.length:Int) then ((mobs_ways.f k (wrap64 ((wrap64 ((x0.length:Int) - 1)) - x17)) x6).bind fun t211=>(mobs_Rank.l0 k x0 (wrap64 (x5+(wrap64 ((rd x15 x17) * t211)))) (mx x6 (wrap64 ((rd x15 x17)+1))) x15 x16 (wrap64 (x17+1)))) else (none)) else (none)) else (some (x5,0))
def mobs_Rank.f (k:Nat) (l0:List Int):Option (Int × Int):=(mobs_read.f k (([l0]:List (List Int)))).bind fun t209=>(if t209=0 then (mobs_Rank.l0 k l0 0 0 l0 (l0.length:Int) 0) else (some (0,t209)))
theorem mobs_Rank.calls (k:Nat) (P0_:Nat->Prop) (A0:Option Addr) (c0:Nat) (l0:List Int) (r1:Int) (r2:Int) (w:World) (hs0:Kd.V (Kd.int .i64) 3 w w.heap.size (fun k_=>P0_ k_) (.slice A0 l0.length c0) l0) (h:mobs_Rank.f k l0=some (r1,r2)) :
  Calls Tra.prog 36 #[.slice A0 l0.length c0] w fun e w'=>e=.returned (.tuple #[.int .i64 r1,.int .i64 r2])∧Below w.heap.size w w':=by
 have HO0:=As0.mk (show Kd.V (Kd.int .i64) 3 w w.heap.size (fun k_=>(P0_ k_∨w.heap.size≤k_)) (.slice A0 l0.length c0) l0 from Kd.V_mono hs0 (fun k_ hk=>.inl hk));have HB:=As0.mk (Below.refl w.heap.size w);have H:((mobs_read.f k (([l0]:List (List Int)))).bind fun t209=>(if t209=0 then (mobs_Rank.l0 k l0 0 0 l0 (l0.length:Int) 0) else (some (0,t209))))=some (r1,r2):=h;clear h;obtain ⟨y206,hy206⟩:∃ y_:List (List Int),y_=(([l0]:List (List Int))):=⟨_,rfl⟩
 replace H:((mobs_read.f k y206).bind fun t209=>(if t209=0 then (mobs_Rank.l0 k l0 0 0 l0 (l0.length:Int) 0) else (some (0,t209))))=some (r1,r2):=by (rw [hy206];with_reducible exact H)
 have Ny206:=As0.mk hy206;clear hy206;replace H:=Option.bind_eq_some_iff.mp H;obtain ⟨t209,A20,H⟩:=H;replace H:(if t209=0 then (mobs_Rank.l0 k l0 0 0 l0 (l0.length:Int) 0) else (some (0,t209)))=some (r1,r2):=H;have A2:=As0.mk A20;clear A20
 by_cases c3:t209=0
 ·rw [if_pos c3] at H
  have c3b0:(t209 == 0)=true:=beq_iff_eq.mpr c3;have c3b1:(t209 != 0)=false:=bne_eq_false_iff_eq.mpr c3;clear c3;have H':=As0.mk H;clear H;go_enter Tra.func36,Tra.ntmps36
  go_wp2_with (first|((with_reducible refine y0l (N:=10) rfl ?_);refine Kd.N_lit (Kd.slice 3 (Kd.int .i64)) _ 29 ?hg (N':=10) ?hd (xs:=([l0]:List (List Int))) (inner:=[.slice A0 l0.length c0]) (ok:=(fun k_=>(P0_ k_∨w.heap.size≤k_))) (okp:=(fun k_=>(P0_ k_∨w.heap.size≤k_))) ?hr ?hp (fun _ hk=>hk) ((show ∀ k_,w.heap.size≤k_->(fun k_=>(P0_ k_∨w.heap.size≤k_)) k_ from fun k_ hk=>(.inr (Nat.le_trans (y03 (by repeat (with_reducible exact HB.out))) hk))) _ (zLe _)) (Below.refl _ _) (zLe _) (by simp) ?_;(case hd=>rfl);(case hg=>rfl);(case hr=>(go_simp;done));(case hp=>exact (Reps.one (show Kd.FK (Kd.slice 3 (Kd.int .i64)) _ _ l0 [.slice A0 l0.length c0] from (Kd.FK_slice_mk (Kd.V_reads' (Kd.V_mono (ok':=(fun k_=>(P0_ k_∨w.heap.size≤k_))) (HO0.out) (fun k_ hk=>hk))).2.1 (Kd.V_F (Kd.V_mono (ok':=(fun k_=>(P0_ k_∨w.heap.size≤k_))) (HO0.out) (fun k_ hk=>hk))))) (Reps.none _ _)));intro v207 w4 ho5 hb hg_ hnew_;clear hg_ hnew_;(rw [← Ny206.out] at ho5);have n0_:=As0.mk (Kd.V_elder' (by (with_reducible repeat (first|apply Kd.V_alloc|apply Kd.V_drewN|apply Kd.V_drew));exact HO0.out) (Kd.N_base ho5) hb);have n1_:=As0.mk (Kd.N_lower ho5 (y03 (by repeat (with_reducible exact HB.out))));have n2_:=As0.mk (y05 (by repeat (with_reducible exact HB.out)) hb);clear HO0;clear HB;have HO0:=n0_;have HO208:=n1_;have HB:=n2_;clear n0_ n1_ n2_;clear hb ho5;obtain ⟨Ao6,co6,eo6⟩:=Kd.N_slice HO208.out;subst eo6)|((with_reducible refine y04 (f:=49) rfl ?_);refine y0h (some 11) rfl rfl Tra.func49 (by kernel_rfl) rfl #[.slice Ao6 y206.length co6] rfl (by (try simp only [List.map_toArray,List.map_cons,List.map_nil]);rfl) ?_;(with_reducible refine (mobs_read.calls k _ _ y206 t209 _ ?side1 ?side2 A2.out).mono ?_);(case side1=>repeat (exact (Kd.N_reads' HO208.out).2.2));(case side2=>exact (Kd.N_reads' HO208.out).2.1);rintro e w7 ⟨rfl,hb⟩;refine ⟨_,rfl,?_⟩;have n0_:=As0.mk (Kd.V_below (by (with_reducible repeat (first|apply Kd.V_alloc|apply Kd.V_drewN|apply Kd.V_drew));exact HO0.out) hb);have n1_:=As0.mk (Kd.N_below (by (with_reducible repeat (first|apply Kd.N_alloc|apply Kd.N_drewN|apply Kd.N_drew));exact HO208.out) hb);have n2_:=As0.mk (y05 (by repeat (with_reducible exact HB.out)) hb);clear HO0;clear HO208;clear HB;have HO0:=n0_;have HO208:=n1_;have HB:=n2_;clear n0_ n1_ n2_;(try clear hb);(try clear hb2);(try clear hk);(try clear hi)))
  go_loopg [5,6,17] k (fun kq v5 v6 v17 w'=>∃ (x5_1:Int) (x6_1:Int) (x17_1:Int),v5=.int .i64 x5_1∧v6=.int .i64 x6_1∧v17=.int .i64 x17_1∧As0 (mobs_Rank.l0 kq l0 x5_1 x6_1 l0 (l0.length:Int) x17_1=some (r1,r2))∧As0 (kq≤k)∧As0 (Kd.V (Kd.int .i64) 3 w' w.heap.size (fun k_=>(P0_ k_∨w.heap.size≤k_)) (.slice A0 l0.length c0) l0)∧As0 (Kd.V (Kd.int .i64) 3 w' w.heap.size (fun k_=>(P0_ k_∨w.heap.size≤k_)) (.slice A0 l0.length c0) l0)∧As0 (Below w.heap.size w w'))
  case atStart=>exact ⟨(0),(0),(0),(by rfl),(by rfl),(by rfl),H',⟨zLe _⟩,⟨by (with_reducible repeat (first|apply Kd.V_alloc|apply Kd.V_drewN|apply Kd.V_drew));exact Kd.V_mono HO0.out (fun _ hk=>hk.1)⟩,⟨by (with_reducible repeat (first|apply Kd.V_alloc|apply Kd.V_drewN|apply Kd.V_drew));exact Kd.V_mono HO0.out (fun _ hk=>hk.1)⟩,⟨by repeat (with_reducible exact HB.out)⟩⟩
  case round =>
   clear H'
   try clear p2
   try clear c3
   try clear c3b0
   try clear c3b1
   try clear c4
   obtain ⟨x5_1,x6_1,x17_1,rfl,rfl,rfl,HA,HK1,HO_0,HO_15,HB⟩:=hrel;cases gk with
   |zero=>exact absurd HA.out (by simp [mobs_Rank.l0])
   |succ k1 =>
    have H:=HA.out;clear HA;simp only [mobs_Rank.l0] at H
    by_cases c8:x17_1<(l0.length:Int)
    ·rw [if_pos c8] at H
     have c8b0:decide (x17_1<(l0.length:Int))=true:=zDt c8;clear c8
     by_cases c9:0≤x17_1
     ·rw [if_pos c9] at H
      have c9b0:decide (0≤x17_1)=true:=zDt c9;clear c9
      by_cases c10:x17_1<(l0.length:Int)
      ·rw [if_pos c10] at H
       have c10b0:decide (x17_1<(l0.length:Int))=true:=zDt c10;clear c10;replace H:=Option.bind_eq_some_iff.mp H;obtain ⟨t211,A110,H⟩:=H;replace H:(mobs_Rank.l0 k1 l0 (wrap64 (x5_1+(wrap64 ((rd l0 x17_1) * t211)))) (mx x6_1 (wrap64 ((rd l0 x17_1)+1))) l0 (l0.length:Int) (wrap64 (x17_1+1)))=some (r1,r2):=H;have A11:=As0.mk A110;clear A110;obtain ⟨ji12,hji12⟩:∃ j_:Int,(mx x6_1 (wrap64 ((rd l0 x17_1)+1)))=j_:=⟨_,rfl⟩
       replace H:(mobs_Rank.l0 k1 l0 (wrap64 (x5_1+(wrap64 ((rd l0 x17_1) * t211)))) ji12 l0 (l0.length:Int) (wrap64 (x17_1+1)))=some (r1,r2):=by (rw [hji12] at H;exact H)
       (try rw [hji12] at A11)
       have hji12_:(if x6_1<(wrap64 ((rd l0 x17_1)+1)) then (wrap64 ((rd l0 x17_1)+1)) else x6_1)=ji12:=hji12;have H':=As0.mk H;clear H;have p210:0≤(x17_1:Int):=zDo (by with_reducible assumption);have q210:x17_1<(l0.length:Int):=zDo (by with_reducible assumption);obtain ⟨ad210,e210,hx210_0⟩:=Kd.at_int (Kd.V_reads' HO_15.out).2.2 x17_1 p210 q210;cases e210
       replace p210:=eq_true p210;replace q210:=eq_true q210;go_wp2_with (((with_reducible refine y04 (f:=67) rfl ?_);refine y0h (some 30) rfl rfl Tra.func67 (by kernel_rfl) rfl #[.int .i64 (wrap64 ((wrap64 ((l0.length:Int) - 1)) - x17_1)),.int .i64 x6_1] rfl (by (try simp only [List.map_toArray,List.map_cons,List.map_nil]);rfl) ?_;(with_reducible refine (mobs_ways.calls k1 (wrap64 ((wrap64 ((l0.length:Int) - 1)) - x17_1)) x6_1 t211 _ A11.out).mono ?_);rintro e w13 ⟨rfl,hb⟩;refine ⟨_,rfl,?_⟩;have n0_:=As0.mk (Kd.V_below (by (with_reducible repeat (first|apply Kd.V_alloc|apply Kd.V_drewN|apply Kd.V_drew));exact HO_0.out) hb);have n1_:=As0.mk (Kd.V_below (by (with_reducible repeat (first|apply Kd.V_alloc|apply Kd.V_drewN|apply Kd.V_drew));exact HO_15.out) hb);have n2_:=As0.mk (y05 (by repeat (with_reducible exact HB.out)) hb);clear HO_0;clear HO_15;clear HB;have HO_0:=n0_;have HO_15:=n1_;have HB:=n2_;clear n0_ n1_ n2_;(try clear hb);(try clear hb2);(try clear hk);(try clear hi)))
       go_roundg k1
       case measure=>have:=HK1.out;omega
       case rel=>exact ⟨(wrap64 (x5_1+(wrap64 ((rd l0 x17_1) * t211)))),(ji12),(wrap64 (x17_1+1)),(by rfl),(by rfl),(by rfl),H',⟨by have:=HK1.out;omega⟩,⟨by (with_reducible repeat (first|apply Kd.V_alloc|apply Kd.V_drewN|apply Kd.V_drew));exact HO_0.out⟩,⟨by (with_reducible repeat (first|apply Kd.V_alloc|apply Kd.V_drewN|apply Kd.V_drew));exact HO_15.out⟩,⟨by repeat (with_reducible exact HB.out)⟩⟩
      ·rw [if_neg c10] at H
       exact absurd H (by simp)
     ·rw [if_neg c9] at H
      exact absurd H (by simp)
    ·rw [if_neg c8] at H
     have c8b0:decide (x17_1<(l0.length:Int))=false:=zDf c8;clear c8;simp only [Option.some.injEq,Prod.mk.injEq] at H;obtain ⟨rfl,rfl⟩:=H;go_wp2
     go_ret2
     exact ⟨by rfl,by repeat (with_reducible exact HB.out)⟩
 ·rw [if_neg c3] at H
  have c3b0:(t209 == 0)=false:=beq_eq_false_iff_ne.mpr c3;have c3b1:(t209 != 0)=true:=bne_iff_ne.mpr c3;simp only [Option.some.injEq,Prod.mk.injEq] at H;obtain ⟨rfl,rfl⟩:=H;go_enter Tra.func36,Tra.ntmps36
  go_wp2_with (first|((with_reducible refine y0l (N:=10) rfl ?_);refine Kd.N_lit (Kd.slice 3 (Kd.int .i64)) _ 29 ?hg (N':=10) ?hd (xs:=([l0]:List (List Int))) (inner:=[.slice A0 l0.length c0]) (ok:=(fun k_=>(P0_ k_∨w.heap.size≤k_))) (okp:=(fun k_=>(P0_ k_∨w.heap.size≤k_))) ?hr ?hp (fun _ hk=>hk) ((show ∀ k_,w.heap.size≤k_->(fun k_=>(P0_ k_∨w.heap.size≤k_)) k_ from fun k_ hk=>(.inr (Nat.le_trans (y03 (by repeat (with_reducible exact HB.out))) hk))) _ (zLe _)) (Below.refl _ _) (zLe _) (by simp) ?_;(case hd=>rfl);(case hg=>rfl);(case hr=>(go_simp;done));(case hp=>exact (Reps.one (show Kd.FK (Kd.slice 3 (Kd.int .i64)) _ _ l0 [.slice A0 l0.length c0] from (Kd.FK_slice_mk (Kd.V_reads' (Kd.V_mono (ok':=(fun k_=>(P0_ k_∨w.heap.size≤k_))) (HO0.out) (fun k_ hk=>hk))).2.1 (Kd.V_F (Kd.V_mono (ok':=(fun k_=>(P0_ k_∨w.heap.size≤k_))) (HO0.out) (fun k_ hk=>hk))))) (Reps.none _ _)));intro v207 w14 ho15 hb hg_ hnew_;clear hg_ hnew_;(rw [← Ny206.out] at ho15);have n0_:=As0.mk (Kd.V_elder' (by (with_reducible repeat (first|apply Kd.V_alloc|apply Kd.V_drewN|apply Kd.V_drew));exact HO0.out) (Kd.N_base ho15) hb);have n1_:=As0.mk (Kd.N_lower ho15 (y03 (by repeat (with_reducible exact HB.out))));have n2_:=As0.mk (y05 (by repeat (with_reducible exact HB.out)) hb);clear HO0;clear HB;have HO0:=n0_;have HO208:=n1_;have HB:=n2_;clear n0_ n1_ n2_;clear hb ho15;obtain ⟨Ao16,co16,eo16⟩:=Kd.N_slice HO208.out;subst eo16)|((with_reducible refine y04 (f:=49) rfl ?_);refine y0h (some 11) rfl rfl Tra.func49 (by kernel_rfl) rfl #[.slice Ao16 y206.length co16] rfl (by (try simp only [List.map_toArray,List.map_cons,List.map_nil]);rfl) ?_;(with_reducible refine (mobs_read.calls k _ _ y206 t209 _ ?side1 ?side2 A2.out).mono ?_);(case side1=>repeat (exact (Kd.N_reads' HO208.out).2.2));(case side2=>exact (Kd.N_reads' HO208.out).2.1);rintro e w17 ⟨rfl,hb⟩;refine ⟨_,rfl,?_⟩;have n0_:=As0.mk (Kd.V_below (by (with_reducible repeat (first|apply Kd.V_alloc|apply Kd.V_drewN|apply Kd.V_drew));exact HO0.out) hb);have n1_:=As0.mk (Kd.N_below (by (with_reducible repeat (first|apply Kd.N_alloc|apply Kd.N_drewN|apply Kd.N_drew));exact HO208.out) hb);have n2_:=As0.mk (y05 (by repeat (with_reducible exact HB.out)) hb);clear HO0;clear HO208;clear HB;have HO0:=n0_;have HO208:=n1_;have HB:=n2_;clear n0_ n1_ n2_;(try clear hb);(try clear hb2);(try clear hk);(try clear hi)))
  go_ret2
  exact ⟨by rfl,by repeat (with_reducible exact HB.out)⟩
theorem eqA31 (d:Nat) (w:World) (x0 y0:Int) (x1 y1:Int) (x2 y2:Int) (x3 y3:Int) :
  (Op.equalIn (d+2) 31 (.agg #[.int .i64 x0,.int .i64 x1,.int .i64 x2,.int .i64 x3]) (.agg #[.int .i64 y0,.int .i64 y1,.int .i64 y2,.int .i64 y3])).run Tra.prog w=.ok (x0 == y0 && (x1 == y1 && (x2 == y2 && (x3 == y3)))) w:=by
 rw [Op.equalIn];have p0:∀ x0 x1 x2 x3:Int,(part 3 #[.int .i64 x0,.int .i64 x1,.int .i64 x2,.int .i64 x3] 0).run Tra.prog w=.ok (.int .i64 x0) w:=fun x0 x1 x2 x3=>by go_simp
 have p1:∀ x0 x1 x2 x3:Int,(part 3 #[.int .i64 x0,.int .i64 x1,.int .i64 x2,.int .i64 x3] 1).run Tra.prog w=.ok (.int .i64 x1) w:=fun x0 x1 x2 x3=>by go_simp
 have p2:∀ x0 x1 x2 x3:Int,(part 3 #[.int .i64 x0,.int .i64 x1,.int .i64 x2,.int .i64 x3] 2).run Tra.prog w=.ok (.int .i64 x2) w:=fun x0 x1 x2 x3=>by go_simp
 have p3:∀ x0 x1 x2 x3:Int,(part 3 #[.int .i64 x0,.int .i64 x1,.int .i64 x2,.int .i64 x3] 3).run Tra.prog w=.ok (.int .i64 x3) w:=fun x0 x1 x2 x3=>by go_simp
 have q:∀ x y:Int,(Op.equalIn (d+1) 3 (.int .i64 x) (.int .i64 y)).run Tra.prog w=.ok (x == y) w:=fun x y=>run_equalIn_int w d 3 .i64 .i64 x y Tra.underlying3
 have hl:List.range' 0 4=[0,1,2,3]:=rfl;simp only [Sem.run_bind,run_underlying Tra.underlying31,Result.andThen_ok,hl];cases h0:(x0 == y0)<;>cases h1:(x1 == y1)<;>cases h2:(x2 == y2)<;>cases h3:(x3 == y3)<;>simp [p0,p1,p2,p3,q,h0,h1,h2,h3,hl]
theorem y4t (xs:List Int) (hn:xs.length≤4):∀ (n k i:Nat),n=xs.length - i->n<k->w6_same.l0 k xs xs (i:Int)=some true
 |n,0,i,_,h=>absurd h (by omega)
 |n,k+1,i,h,hk=>by
  unfold w6_same.l0
  by_cases hi:(i:Int)<(xs.length:Int)
  ·rw [if_pos hi,if_pos (by omega),if_pos hi,if_pos rfl,show wrap64 ((i:Int)+1)=((i+1:Nat):Int) by unfold wrap64;omega]
   exact y4t xs hn (n - 1) k (i+1) (by omega) (by omega)
  ·rw [if_neg hi]
theorem yca (xs:List Int) (hn:xs.length≤4):w6_same.f 60 xs xs=some true:=by
 unfold w6_same.f;rw [if_pos rfl];exact y4t xs hn _ 60 0 rfl (by omega)
def w6_alive.f:Option Bool:=some true
attribute [local go_sem high] eqA31
theorem w6_alive.one (k:Nat) (w:World) (h1:mobs_Rank.f k [0,1,1]=some (3,0)) (h2:mobs_Between.f k [0,0,1]=some ([0,1,1],0)) (h3:mobs_Meet.f k [0,0,1,1] [0,1,1,0]=some ([0,1,2,3],[0,0,0,0],0)) (h4:mobs_Count.f k 4 2=some (7,0)) (h5:mobs_Plain.f k 4 2=some (6,0)) (h6:mobs_Crossed.f k [0,1,0,1]=some (0,1,2,3,true,0)) (hs:∀ l:List Int,l.length≤4->w6_same.f k l l=some true) :
  Calls Tra.prog 20 #[] w fun e w'=>e=.returned (.bool true)∧Below w.heap.size w w':=by
 have hu31:=Tra.underlying31;have HB:=As0.mk (Below.refl w.heap.size w);obtain ⟨y212,hy212⟩:∃ y_:List Int,y_=(([0,1,1]:List Int)):=⟨_,rfl⟩
 obtain ⟨t215,t216,A10,c8,c7⟩:∃ a b:Int,mobs_Rank.f k y212=some (a,b)∧a=3∧b=0:=⟨3,0,hy212 ▸ h1,rfl,rfl⟩
 have Ny212:=As0.mk hy212;have A1:=As0.mk A10;clear hy212 A10 h1;obtain ⟨y217,hy217⟩:∃ y_:List Int,y_=(([0,0,1]:List Int)):=⟨_,rfl⟩
 obtain ⟨t220,t223,A20,s220,c9⟩:∃ (a:List Int) (b:Int),mobs_Between.f k y217=some (a,b)∧w6_same.f k a [0,1,1]=some true∧b=0:=⟨[0,1,1],0,hy217 ▸ h2,hs _ (by decide),rfl⟩
 have Ny217:=As0.mk hy217;have A2:=As0.mk A20;clear hy217 A20 h2;obtain ⟨y224,hy224⟩:∃ y_:List Int,y_=(([0,0,1,1]:List Int)):=⟨_,rfl⟩
 obtain ⟨y227,hy227⟩:∃ y_:List Int,y_=(([0,1,1,0]:List Int)):=⟨_,rfl⟩
 obtain ⟨t230,t233,t236,A30,s230,s233,c12⟩:∃ (a b:List Int) (c:Int),mobs_Meet.f k y224 y227=some (a,b,c)∧w6_same.f k a [0,1,2,3]=some true∧w6_same.f k b [0,0,0,0]=some true∧c=0:=⟨[0,1,2,3],[0,0,0,0],0,by rw [hy224,hy227];exact h3,hs _ (by decide),hs _ (by decide),rfl⟩
 have Ny224:=As0.mk hy224;have Ny227:=As0.mk hy227;have A3:=As0.mk A30;clear hy224 hy227 A30 h3;obtain ⟨t237,t238,A40,c18,c17⟩:∃ a b:Int,mobs_Count.f k 4 2=some (a,b)∧a=7∧b=0:=⟨7,0,h4,rfl,rfl⟩
 have A4:=As0.mk A40;obtain ⟨t239,t240,A50,c20,c19⟩:∃ a b:Int,mobs_Plain.f k 4 2=some (a,b)∧a=6∧b=0:=⟨6,0,h5,rfl,rfl⟩
 have A5:=As0.mk A50;clear A40 A50 h4 h5;obtain ⟨y241,hy241⟩:∃ y_:List Int,y_=(([0,1,0,1]:List Int)):=⟨_,rfl⟩
 obtain ⟨t244,t245,t246,t247,t249,A60,cr,c21⟩:∃ a b c d e:Int,mobs_Crossed.f k y241=some (a,b,c,d,true,e)∧(a == 0 && (b == 1 && (c == 2 && (d == 3))))=true∧e=0:=⟨0,1,2,3,0,hy241 ▸ h6,rfl,rfl⟩
 have Ny241:=As0.mk hy241;have A6:=As0.mk A60;clear hy241 A60 h6;have c7b0:(t216 == 0)=true:=beq_iff_eq.mpr c7;have c7b1:(t216 != 0)=false:=bne_eq_false_iff_eq.mpr c7;clear c7;have c8b0:(t215 == 3)=true:=beq_iff_eq.mpr c8;have c8b1:(t215 != 3)=false:=bne_eq_false_iff_eq.mpr c8;clear c8;have c9b0:(t223 == 0)=true:=beq_iff_eq.mpr c9;have c9b1:(t223 != 0)=false:=bne_eq_false_iff_eq.mpr c9;clear c9;have c12b0:(t236 == 0)=true:=beq_iff_eq.mpr c12;have c12b1:(t236 != 0)=false:=bne_eq_false_iff_eq.mpr c12;clear c12;have c17b0:(t238 == 0)=true:=beq_iff_eq.mpr c17;have c17b1:(t238 != 0)=false:=bne_eq_false_iff_eq.mpr c17;clear c17;have c18b0:(t237 == 7)=true:=beq_iff_eq.mpr c18;have c18b1:(t237 != 7)=false:=bne_eq_false_iff_eq.mpr c18;clear c18;have c19b0:(t240 == 0)=true:=beq_iff_eq.mpr c19;have c19b1:(t240 != 0)=false:=bne_eq_false_iff_eq.mpr c19;clear c19;have c20b0:(t239 == 6)=true:=beq_iff_eq.mpr c20;have c20b1:(t239 != 6)=false:=bne_eq_false_iff_eq.mpr c20;clear c20;have c21b0:(t249 == 0)=true:=beq_iff_eq.mpr c21;have c21b1:(t249 != 0)=false:=bne_eq_false_iff_eq.mpr c21;clear c21;obtain ⟨y251,hy251⟩:∃ y_:List Int,y_=(([0,1,1]:List Int)):=⟨_,rfl⟩
 rw [← hy251] at s220;have Ny251:=As0.mk hy251;have A10:=As0.mk s220;clear hy251 s220;obtain ⟨y255,hy255⟩:∃ y_:List Int,y_=(([0,1,2,3]:List Int)):=⟨_,rfl⟩
 rw [← hy255] at s230;have Ny255:=As0.mk hy255;have A13:=As0.mk s230;clear hy255 s230;obtain ⟨y259,hy259⟩:∃ y_:List Int,y_=(([0,0,0,0]:List Int)):=⟨_,rfl⟩
 rw [← hy259] at s233;have Ny259:=As0.mk hy259;have A15:=As0.mk s233;clear hy259 s233;rw [← cr];clear cr hs;go_enter Tra.func20,Tra.ntmps20
 go_wp2_with (first|((with_reducible refine y0l (N:=16) rfl ?_);(try (refine y1k (by rfl) ?_;dsimp only));refine Kd.R_lit (Kd.int .i64) _ 3 ?hg (N:=16) ?hd (xs:=([0,1,1]:List Int)) (inner:=[.int .i64 0,.int .i64 1,.int .i64 1]) (ok:=fun _=>True) (okp:=fun _=>True) ?hr ?hp (fun _ hk=>hk) trivial (Below.refl _ _) (zLe _) (by simp) ?_;(case hd=>rfl);(case hg=>rfl);(case hr=>(go_simp;done));(case hp=>exact (Reps.one (show Kd.M (Kd.int .i64) _ _ _ 0 [.int .i64 0] from rfl) (Reps.one (show Kd.M (Kd.int .i64) _ _ _ 1 [.int .i64 1] from rfl) (Reps.one (show Kd.M (Kd.int .i64) _ _ _ 1 [.int .i64 1] from rfl) (Reps.none _ _)))));intro v213 w23 ho24 hb hg_ hnew_;clear hg_ hnew_;(rw [← Ny212.out] at ho24);have n0_:=As0.mk (Kd.R_lower ho24 (y03 (by repeat (with_reducible exact HB.out))));have n1_:=As0.mk (y05 (by repeat (with_reducible exact HB.out)) hb);clear HB;have HO214:=n0_;have HB:=n1_;clear n0_ n1_;clear hb ho24;obtain ⟨Ao25,co25,eo25⟩:=Kd.R_slice HO214.out;subst eo25)|((with_reducible refine y04 (f:=36) rfl ?_);refine y0h (some 17) rfl rfl Tra.func36 (by kernel_rfl) rfl #[.slice Ao25 y212.length co25] rfl (by (try simp only [List.map_toArray,List.map_cons,List.map_nil]);rfl) ?_;(with_reducible refine (mobs_Rank.calls k (fun k_=>some k_=(.slice Ao25 y212.length co25:Value).ownBlock) _ _ y212 t215 t216 _ ?side1 A1.out).mono ?_);(case side1=>exact Kd.R_V (Kd.R_tight rfl (HO214.out)));rintro e w26 ⟨rfl,hb⟩;refine ⟨_,rfl,?_⟩;have n0_:=As0.mk (Kd.R_below (by (with_reducible repeat (first|apply Kd.R_alloc|apply Kd.R_drewN|apply Kd.R_drew));exact HO214.out) hb);have n1_:=As0.mk (y05 (by repeat (with_reducible exact HB.out)) hb);clear HO214;clear HB;have HO214:=n0_;have HB:=n1_;clear n0_ n1_;(try clear hb);(try clear hb2);(try clear hk);(try clear hi))|((with_reducible refine y0l (N:=21) rfl ?_);(try (refine y1k (by rfl) ?_;dsimp only));refine Kd.R_lit (Kd.int .i64) _ 3 ?hg (N:=21) ?hd (xs:=([0,0,1]:List Int)) (inner:=[.int .i64 0,.int .i64 0,.int .i64 1]) (ok:=fun _=>True) (okp:=fun _=>True) ?hr ?hp (fun _ hk=>hk) trivial (Below.refl _ _) (zLe _) (by simp) ?_;(case hd=>rfl);(case hg=>rfl);(case hr=>(go_simp;done));(case hp=>exact (Reps.one (show Kd.M (Kd.int .i64) _ _ _ 0 [.int .i64 0] from rfl) (Reps.one (show Kd.M (Kd.int .i64) _ _ _ 0 [.int .i64 0] from rfl) (Reps.one (show Kd.M (Kd.int .i64) _ _ _ 1 [.int .i64 1] from rfl) (Reps.none _ _)))));intro v218 w27 ho28 hb hg_ hnew_;clear hg_ hnew_;(rw [← Ny217.out] at ho28);have n0_:=As0.mk (Kd.R_elder' (by (with_reducible repeat (first|apply Kd.R_alloc|apply Kd.R_drewN|apply Kd.R_drew));exact HO214.out) (Kd.R_base ho28) hb);have n1_:=As0.mk (Kd.R_lower (Kd.R_new' ho28 (Kd.R_lt (by (with_reducible repeat (first|apply Kd.R_alloc|apply Kd.R_drewN|apply Kd.R_drew));exact HO214.out))) (y03 (by repeat (with_reducible exact HB.out))));have n2_:=As0.mk (y05 (by repeat (with_reducible exact HB.out)) hb);clear HO214;clear HB;have HO214:=n0_;have HO219:=n1_;have HB:=n2_;clear n0_ n1_ n2_;clear hb ho28;obtain ⟨Ao29,co29,eo29⟩:=Kd.R_slice HO219.out;subst eo29)|((with_reducible refine y04 (f:=25) rfl ?_);refine y0h (some 22) rfl rfl Tra.func25 (by kernel_rfl) rfl #[.slice Ao29 y217.length co29] rfl (by (try simp only [List.map_toArray,List.map_cons,List.map_nil]);rfl) ?_;(with_reducible refine (mobs_Between.calls k (fun k_=>some k_=(.slice Ao29 y217.length co29:Value).ownBlock) _ _ y217 t220 t223 _ ?side1 A2.out).mono ?_);(case side1=>exact Kd.R_V (Kd.R_tight rfl (HO219.out)));rintro e w30 ⟨v221,rfl,ho0,hb⟩;refine ⟨_,rfl,?_⟩;have n0_:=As0.mk (Kd.R_elder' (by (with_reducible repeat (first|apply Kd.R_alloc|apply Kd.R_drewN|apply Kd.R_drew));exact HO214.out) (Kd.R_base ho0) hb);have n1_:=As0.mk (Kd.R_elder' (by (with_reducible repeat (first|apply Kd.R_alloc|apply Kd.R_drewN|apply Kd.R_drew));exact HO219.out) (Kd.R_base ho0) hb);have n2_:=As0.mk (Kd.R_lower (Kd.R_new' (Kd.R_new' (Kd.R_mono (ok':=fun k_=>True) ho0 (fun _ hk_=>trivial)) (Kd.R_lt (by (with_reducible repeat (first|apply Kd.R_alloc|apply Kd.R_drewN|apply Kd.R_drew));exact HO214.out))) (Kd.R_lt (by (with_reducible repeat (first|apply Kd.R_alloc|apply Kd.R_drewN|apply Kd.R_drew));exact HO219.out))) (y03 (by repeat (with_reducible exact HB.out))));have n3_:=As0.mk (y05 (by repeat (with_reducible exact HB.out)) hb);clear HO214;clear HO219;clear HB;have HO214:=n0_;have HO219:=n1_;have HO222:=n2_;have HB:=n3_;clear n0_ n1_ n2_ n3_;(try clear hb);(try clear hb2);(try clear hk);(try clear hi);(try clear ho0))|((with_reducible refine y0l (N:=26) rfl ?_);(try (refine y1k (by rfl) ?_;dsimp only));refine Kd.R_lit (Kd.int .i64) _ 3 ?hg (N:=26) ?hd (xs:=([0,0,1,1]:List Int)) (inner:=[.int .i64 0,.int .i64 0,.int .i64 1,.int .i64 1]) (ok:=fun _=>True) (okp:=fun _=>True) ?hr ?hp (fun _ hk=>hk) trivial (Below.refl _ _) (zLe _) (by simp) ?_;(case hd=>rfl);(case hg=>rfl);(case hr=>(go_simp;done));(case hp=>exact (Reps.one (show Kd.M (Kd.int .i64) _ _ _ 0 [.int .i64 0] from rfl) (Reps.one (show Kd.M (Kd.int .i64) _ _ _ 0 [.int .i64 0] from rfl) (Reps.one (show Kd.M (Kd.int .i64) _ _ _ 1 [.int .i64 1] from rfl) (Reps.one (show Kd.M (Kd.int .i64) _ _ _ 1 [.int .i64 1] from rfl) (Reps.none _ _))))));intro v225 w31 ho32 hb hg_ hnew_;clear hg_ hnew_;(rw [← Ny224.out] at ho32);have n0_:=As0.mk (Kd.R_elder' (by (with_reducible repeat (first|apply Kd.R_alloc|apply Kd.R_drewN|apply Kd.R_drew));exact HO214.out) (Kd.R_base ho32) hb);have n1_:=As0.mk (Kd.R_elder' (by (with_reducible repeat (first|apply Kd.R_alloc|apply Kd.R_drewN|apply Kd.R_drew));exact HO219.out) (Kd.R_base ho32) hb);have n2_:=As0.mk (Kd.R_elder' (by (with_reducible repeat (first|apply Kd.R_alloc|apply Kd.R_drewN|apply Kd.R_drew));exact HO222.out) (Kd.R_base ho32) hb);have n3_:=As0.mk (Kd.R_lower (Kd.R_new' (Kd.R_new' (Kd.R_new' ho32 (Kd.R_lt (by (with_reducible repeat (first|apply Kd.R_alloc|apply Kd.R_drewN|apply Kd.R_drew));exact HO214.out))) (Kd.R_lt (by (with_reducible repeat (first|apply Kd.R_alloc|apply Kd.R_drewN|apply Kd.R_drew));exact HO219.out))) (Kd.R_lt (by (with_reducible repeat (first|apply Kd.R_alloc|apply Kd.R_drewN|apply Kd.R_drew));exact HO222.out))) (y03 (by repeat (with_reducible exact HB.out))));have n4_:=As0.mk (y05 (by repeat (with_reducible exact HB.out)) hb);clear HO214;clear HO219;clear HO222;clear HB;have HO214:=n0_;have HO219:=n1_;have HO222:=n2_;have HO226:=n3_;have HB:=n4_;clear n0_ n1_ n2_ n3_ n4_;clear hb ho32)|((with_reducible refine y0l (N:=27) rfl ?_);(try (refine y1k (by rfl) ?_;dsimp only));refine Kd.R_lit (Kd.int .i64) _ 3 ?hg (N:=27) ?hd (xs:=([0,1,1,0]:List Int)) (inner:=[.int .i64 0,.int .i64 1,.int .i64 1,.int .i64 0]) (ok:=fun _=>True) (okp:=fun _=>True) ?hr ?hp (fun _ hk=>hk) trivial (Below.refl _ _) (zLe _) (by simp) ?_;(case hd=>rfl);(case hg=>rfl);(case hr=>(go_simp;done));(case hp=>exact (Reps.one (show Kd.M (Kd.int .i64) _ _ _ 0 [.int .i64 0] from rfl) (Reps.one (show Kd.M (Kd.int .i64) _ _ _ 1 [.int .i64 1] from rfl) (Reps.one (show Kd.M (Kd.int .i64) _ _ _ 1 [.int .i64 1] from rfl) (Reps.one (show Kd.M (Kd.int .i64) _ _ _ 0 [.int .i64 0] from rfl) (Reps.none _ _))))));intro v228 w33 ho34 hb hg_ hnew_;clear hg_ hnew_;(rw [← Ny227.out] at ho34);have n0_:=As0.mk (Kd.R_elder' (by (with_reducible repeat (first|apply Kd.R_alloc|apply Kd.R_drewN|apply Kd.R_drew));exact HO214.out) (Kd.R_base ho34) hb);have n1_:=As0.mk (Kd.R_elder' (by (with_reducible repeat (first|apply Kd.R_alloc|apply Kd.R_drewN|apply Kd.R_drew));exact HO219.out) (Kd.R_base ho34) hb);have n2_:=As0.mk (Kd.R_elder' (by (with_reducible repeat (first|apply Kd.R_alloc|apply Kd.R_drewN|apply Kd.R_drew));exact HO222.out) (Kd.R_base ho34) hb);have n3_:=As0.mk (Kd.R_elder' (by (with_reducible repeat (first|apply Kd.R_alloc|apply Kd.R_drewN|apply Kd.R_drew));exact HO226.out) (Kd.R_base ho34) hb);have n4_:=As0.mk (Kd.R_lower (Kd.R_new' (Kd.R_new' (Kd.R_new' (Kd.R_new' ho34 (Kd.R_lt (by (with_reducible repeat (first|apply Kd.R_alloc|apply Kd.R_drewN|apply Kd.R_drew));exact HO214.out))) (Kd.R_lt (by (with_reducible repeat (first|apply Kd.R_alloc|apply Kd.R_drewN|apply Kd.R_drew));exact HO219.out))) (Kd.R_lt (by (with_reducible repeat (first|apply Kd.R_alloc|apply Kd.R_drewN|apply Kd.R_drew));exact HO222.out))) (Kd.R_lt (by (with_reducible repeat (first|apply Kd.R_alloc|apply Kd.R_drewN|apply Kd.R_drew));exact HO226.out))) (y03 (by repeat (with_reducible exact HB.out))));have n5_:=As0.mk (y05 (by repeat (with_reducible exact HB.out)) hb);clear HO214;clear HO219;clear HO222;clear HO226;clear HB;have HO214:=n0_;have HO219:=n1_;have HO222:=n2_;have HO226:=n3_;have HO229:=n4_;have HB:=n5_;clear n0_ n1_ n2_ n3_ n4_ n5_;clear hb ho34;obtain ⟨Ao35,co35,eo35⟩:=Kd.R_slice HO226.out;subst eo35;obtain ⟨Ao36,co36,eo36⟩:=Kd.R_slice HO229.out;subst eo36)|((with_reducible refine y04 (f:=34) rfl ?_);refine y0h (some 28) rfl rfl Tra.func34 (by kernel_rfl) rfl #[.slice Ao35 y224.length co35,.slice Ao36 y227.length co36] rfl (by (try simp only [List.map_toArray,List.map_cons,List.map_nil]);rfl) ?_;(with_reducible refine (mobs_Meet.calls k (fun k_=>some k_=(.slice Ao35 y224.length co35:Value).ownBlock) _ _ y224 (fun k_=>some k_=(.slice Ao36 y227.length co36:Value).ownBlock) _ _ y227 t230 t233 t236 _ ?side1 ?side2 A3.out).mono ?_);(case side1=>exact Kd.R_V (Kd.R_tight rfl (HO226.out)));(case side2=>exact Kd.R_V (Kd.R_tight rfl (HO229.out)));rintro e w37 ⟨v231,v234,rfl,ho0,ho1,hb⟩;refine ⟨_,rfl,?_⟩;have n0_:=As0.mk (Kd.R_mono (Kd.R_told (Kd.R_told (Kd.R_old (by (with_reducible repeat (first|apply Kd.R_alloc|apply Kd.R_drewN|apply Kd.R_drew));exact HO214.out) hb) (Kd.R_base ho0)) (Kd.R_base ho1)) (fun _ h_=>h_.1));have n1_:=As0.mk (Kd.R_mono (Kd.R_told (Kd.R_told (Kd.R_old (by (with_reducible repeat (first|apply Kd.R_alloc|apply Kd.R_drewN|apply Kd.R_drew));exact HO219.out) hb) (Kd.R_base ho0)) (Kd.R_base ho1)) (fun _ h_=>h_.1));have n2_:=As0.mk (Kd.R_mono (Kd.R_told (Kd.R_told (Kd.R_old (by (with_reducible repeat (first|apply Kd.R_alloc|apply Kd.R_drewN|apply Kd.R_drew));exact HO222.out) hb) (Kd.R_base ho0)) (Kd.R_base ho1)) (fun _ h_=>h_.1));have n3_:=As0.mk (Kd.R_mono (Kd.R_told (Kd.R_told (Kd.R_old (by (with_reducible repeat (first|apply Kd.R_alloc|apply Kd.R_drewN|apply Kd.R_drew));exact HO226.out) hb) (Kd.R_base ho0)) (Kd.R_base ho1)) (fun _ h_=>h_.1));have n4_:=As0.mk (Kd.R_mono (Kd.R_told (Kd.R_told (Kd.R_old (by (with_reducible repeat (first|apply Kd.R_alloc|apply Kd.R_drewN|apply Kd.R_drew));exact HO229.out) hb) (Kd.R_base ho0)) (Kd.R_base ho1)) (fun _ h_=>h_.1));have n5_:=As0.mk (Kd.R_lower (Kd.R_new' (Kd.R_new' (Kd.R_new' (Kd.R_new' (Kd.R_new' (Kd.R_mono (ok':=fun k_=>some k_≠(v234:Value).ownBlock) ho0 (fun _ hk_=>hk_.2)) (Kd.R_lt (by (with_reducible repeat (first|apply Kd.R_alloc|apply Kd.R_drewN|apply Kd.R_drew));exact HO214.out))) (Kd.R_lt (by (with_reducible repeat (first|apply Kd.R_alloc|apply Kd.R_drewN|apply Kd.R_drew));exact HO219.out))) (Kd.R_lt (by (with_reducible repeat (first|apply Kd.R_alloc|apply Kd.R_drewN|apply Kd.R_drew));exact HO222.out))) (Kd.R_lt (by (with_reducible repeat (first|apply Kd.R_alloc|apply Kd.R_drewN|apply Kd.R_drew));exact HO226.out))) (Kd.R_lt (by (with_reducible repeat (first|apply Kd.R_alloc|apply Kd.R_drewN|apply Kd.R_drew));exact HO229.out))) (y03 (by repeat (with_reducible exact HB.out))));have n6_:=As0.mk (Kd.R_lower (Kd.R_new' (Kd.R_new' (Kd.R_new' (Kd.R_new' (Kd.R_new' (Kd.R_mono (ok':=fun k_=>some k_≠(v231:Value).ownBlock) ho1 (fun _ hk_=>hk_.2)) (Kd.R_lt (by (with_reducible repeat (first|apply Kd.R_alloc|apply Kd.R_drewN|apply Kd.R_drew));exact HO214.out))) (Kd.R_lt (by (with_reducible repeat (first|apply Kd.R_alloc|apply Kd.R_drewN|apply Kd.R_drew));exact HO219.out))) (Kd.R_lt (by (with_reducible repeat (first|apply Kd.R_alloc|apply Kd.R_drewN|apply Kd.R_drew));exact HO222.out))) (Kd.R_lt (by (with_reducible repeat (first|apply Kd.R_alloc|apply Kd.R_drewN|apply Kd.R_drew));exact HO226.out))) (Kd.R_lt (by (with_reducible repeat (first|apply Kd.R_alloc|apply Kd.R_drewN|apply Kd.R_drew));exact HO229.out))) (y03 (by repeat (with_reducible exact HB.out))));have n7_:=As0.mk (y05 (by repeat (with_reducible exact HB.out)) hb);clear HO214;clear HO219;clear HO222;clear HO226;clear HO229;clear HB;have HO214:=n0_;have HO219:=n1_;have HO222:=n2_;have HO226:=n3_;have HO229:=n4_;have HO232:=n5_;have HO235:=n6_;have HB:=n7_;clear n0_ n1_ n2_ n3_ n4_ n5_ n6_ n7_;(try clear hb);(try clear hb2);(try clear hk);(try clear hi);(try clear ho0);(try clear ho1))|((with_reducible refine y04 (f:=16) rfl ?_);refine y0h (some 33) rfl rfl Tra.func16 (by kernel_rfl) rfl #[.int .i64 4,.int .i64 2] rfl (by (try simp only [List.map_toArray,List.map_cons,List.map_nil]);rfl) ?_;(with_reducible refine (mobs_Count.calls k 4 2 t237 t238 _ A4.out).mono ?_);rintro e w38 ⟨rfl,hb⟩;refine ⟨_,rfl,?_⟩;have n0_:=As0.mk (Kd.R_below (by (with_reducible repeat (first|apply Kd.R_alloc|apply Kd.R_drewN|apply Kd.R_drew));exact HO214.out) hb);have n1_:=As0.mk (Kd.R_below (by (with_reducible repeat (first|apply Kd.R_alloc|apply Kd.R_drewN|apply Kd.R_drew));exact HO219.out) hb);have n2_:=As0.mk (Kd.R_below (by (with_reducible repeat (first|apply Kd.R_alloc|apply Kd.R_drewN|apply Kd.R_drew));exact HO222.out) hb);have n3_:=As0.mk (Kd.R_below (by (with_reducible repeat (first|apply Kd.R_alloc|apply Kd.R_drewN|apply Kd.R_drew));exact HO226.out) hb);have n4_:=As0.mk (Kd.R_below (by (with_reducible repeat (first|apply Kd.R_alloc|apply Kd.R_drewN|apply Kd.R_drew));exact HO229.out) hb);have n5_:=As0.mk (Kd.R_below (by (with_reducible repeat (first|apply Kd.R_alloc|apply Kd.R_drewN|apply Kd.R_drew));exact HO232.out) hb);have n6_:=As0.mk (Kd.R_below (by (with_reducible repeat (first|apply Kd.R_alloc|apply Kd.R_drewN|apply Kd.R_drew));exact HO235.out) hb);have n7_:=As0.mk (y05 (by repeat (with_reducible exact HB.out)) hb);clear HO214;clear HO219;clear HO222;clear HO226;clear HO229;clear HO232;clear HO235;clear HB;have HO214:=n0_;have HO219:=n1_;have HO222:=n2_;have HO226:=n3_;have HO229:=n4_;have HO232:=n5_;have HO235:=n6_;have HB:=n7_;clear n0_ n1_ n2_ n3_ n4_ n5_ n6_ n7_;(try clear hb);(try clear hb2);(try clear hk);(try clear hi))|((with_reducible refine y04 (f:=18) rfl ?_);refine y0h (some 37) rfl rfl Tra.func18 (by kernel_rfl) rfl #[.int .i64 4,.int .i64 2] rfl (by (try simp only [List.map_toArray,List.map_cons,List.map_nil]);rfl) ?_;(with_reducible refine (mobs_Plain.calls k 4 2 t239 t240 _ A5.out).mono ?_);rintro e w' ⟨rfl,⟨nd,rfl⟩⟩;refine ⟨_,rfl,?_⟩;(try (rw [yc7 w38];generalize hq_:World.drewN w38 _=w38;have n0_:As0 (Kd.R (Kd.int .i64) 3 w38 w.heap.size (fun k_=>some k_≠(.slice Ao29 y217.length co29:Value).ownBlock∧some k_≠(v221:Value).ownBlock∧some k_≠(.slice Ao35 y224.length co35:Value).ownBlock∧some k_≠(.slice Ao36 y227.length co36:Value).ownBlock∧some k_≠(v231:Value).ownBlock∧some k_≠(v234:Value).ownBlock) (.slice Ao25 y212.length co25) y212):=⟨by rw [← hq_];exact (by (with_reducible repeat (apply Kd.R_drewN));exact Kd.R_mono HO214.out (fun _ hk=>⟨hk.1.1.1.1.1.2,⟨hk.1.1.1.1.2,⟨hk.1.1.1.2,⟨hk.1.1.2,⟨hk.1.2,hk.2⟩⟩⟩⟩⟩))⟩;have n1_:As0 (Kd.R (Kd.int .i64) 3 w38 w.heap.size (fun k_=>some k_≠(.slice Ao25 y212.length co25:Value).ownBlock∧some k_≠(v221:Value).ownBlock∧some k_≠(.slice Ao35 y224.length co35:Value).ownBlock∧some k_≠(.slice Ao36 y227.length co36:Value).ownBlock∧some k_≠(v231:Value).ownBlock∧some k_≠(v234:Value).ownBlock) (.slice Ao29 y217.length co29) y217):=⟨by rw [← hq_];exact (by (with_reducible repeat (apply Kd.R_drewN));exact Kd.R_mono HO219.out (fun _ hk=>⟨hk.1.1.1.1.1.2,⟨hk.1.1.1.1.2,⟨hk.1.1.1.2,⟨hk.1.1.2,⟨hk.1.2,hk.2⟩⟩⟩⟩⟩))⟩;have n2_:As0 (Kd.R (Kd.int .i64) 3 w38 w.heap.size (fun k_=>some k_≠(.slice Ao25 y212.length co25:Value).ownBlock∧some k_≠(.slice Ao29 y217.length co29:Value).ownBlock∧some k_≠(.slice Ao35 y224.length co35:Value).ownBlock∧some k_≠(.slice Ao36 y227.length co36:Value).ownBlock∧some k_≠(v231:Value).ownBlock∧some k_≠(v234:Value).ownBlock) v221 t220):=⟨by rw [← hq_];exact (by (with_reducible repeat (apply Kd.R_drewN));exact Kd.R_mono HO222.out (fun _ hk=>⟨hk.1.1.1.1.1.2,⟨hk.1.1.1.1.2,⟨hk.1.1.1.2,⟨hk.1.1.2,⟨hk.1.2,hk.2⟩⟩⟩⟩⟩))⟩;have n3_:As0 (Kd.R (Kd.int .i64) 3 w38 w.heap.size (fun k_=>some k_≠(.slice Ao25 y212.length co25:Value).ownBlock∧some k_≠(.slice Ao29 y217.length co29:Value).ownBlock∧some k_≠(v221:Value).ownBlock∧some k_≠(.slice Ao36 y227.length co36:Value).ownBlock∧some k_≠(v231:Value).ownBlock∧some k_≠(v234:Value).ownBlock) (.slice Ao35 y224.length co35) y224):=⟨by rw [← hq_];exact (by (with_reducible repeat (apply Kd.R_drewN));exact Kd.R_mono HO226.out (fun _ hk=>⟨hk.1.1.1.1.1.2,⟨hk.1.1.1.1.2,⟨hk.1.1.1.2,⟨hk.1.1.2,⟨hk.1.2,hk.2⟩⟩⟩⟩⟩))⟩;have n4_:As0 (Kd.R (Kd.int .i64) 3 w38 w.heap.size (fun k_=>some k_≠(.slice Ao25 y212.length co25:Value).ownBlock∧some k_≠(.slice Ao29 y217.length co29:Value).ownBlock∧some k_≠(v221:Value).ownBlock∧some k_≠(.slice Ao35 y224.length co35:Value).ownBlock∧some k_≠(v231:Value).ownBlock∧some k_≠(v234:Value).ownBlock) (.slice Ao36 y227.length co36) y227):=⟨by rw [← hq_];exact (by (with_reducible repeat (apply Kd.R_drewN));exact Kd.R_mono HO229.out (fun _ hk=>⟨hk.1.1.1.1.1.2,⟨hk.1.1.1.1.2,⟨hk.1.1.1.2,⟨hk.1.1.2,⟨hk.1.2,hk.2⟩⟩⟩⟩⟩))⟩;have n5_:As0 (Kd.R (Kd.int .i64) 3 w38 w.heap.size (fun k_=>some k_≠(.slice Ao25 y212.length co25:Value).ownBlock∧some k_≠(.slice Ao29 y217.length co29:Value).ownBlock∧some k_≠(v221:Value).ownBlock∧some k_≠(.slice Ao35 y224.length co35:Value).ownBlock∧some k_≠(.slice Ao36 y227.length co36:Value).ownBlock∧some k_≠(v234:Value).ownBlock) v231 t230):=⟨by rw [← hq_];exact (by (with_reducible repeat (apply Kd.R_drewN));exact Kd.R_mono HO232.out (fun _ hk=>⟨hk.1.1.1.1.2,⟨hk.1.1.1.2,⟨hk.1.1.2,⟨hk.1.2,⟨hk.2,hk.1.1.1.1.1⟩⟩⟩⟩⟩))⟩;have n6_:As0 (Kd.R (Kd.int .i64) 3 w38 w.heap.size (fun k_=>some k_≠(.slice Ao25 y212.length co25:Value).ownBlock∧some k_≠(.slice Ao29 y217.length co29:Value).ownBlock∧some k_≠(v221:Value).ownBlock∧some k_≠(.slice Ao35 y224.length co35:Value).ownBlock∧some k_≠(.slice Ao36 y227.length co36:Value).ownBlock∧some k_≠(v231:Value).ownBlock) v234 t233):=⟨by rw [← hq_];exact (by (with_reducible repeat (apply Kd.R_drewN));exact Kd.R_mono HO235.out (fun _ hk=>⟨hk.1.1.1.1.2,⟨hk.1.1.1.2,⟨hk.1.1.2,⟨hk.1.2,⟨hk.2,hk.1.1.1.1.1⟩⟩⟩⟩⟩))⟩;have n7_:As0 (Below w.heap.size w w38):=⟨by rw [← hq_];exact (by repeat (with_reducible first|exact HB.out|apply y00))⟩;clear HO214 HO219 HO222 HO226 HO229 HO232 HO235 HB hq_;have HO214:=n0_;have HO219:=n1_;have HO222:=n2_;have HO226:=n3_;have HO229:=n4_;have HO232:=n5_;have HO235:=n6_;have HB:=n7_;clear n0_ n1_ n2_ n3_ n4_ n5_ n6_ n7_)))|((with_reducible refine y0l (N:=41) rfl ?_);(try (refine y1k (by rfl) ?_;dsimp only));refine Kd.R_lit (Kd.int .i64) _ 3 ?hg (N:=41) ?hd (xs:=([0,1,0,1]:List Int)) (inner:=[.int .i64 0,.int .i64 1,.int .i64 0,.int .i64 1]) (ok:=fun _=>True) (okp:=fun _=>True) ?hr ?hp (fun _ hk=>hk) trivial (Below.refl _ _) (zLe _) (by simp) ?_;(case hd=>rfl);(case hg=>rfl);(case hr=>(go_simp;done));(case hp=>exact (Reps.one (show Kd.M (Kd.int .i64) _ _ _ 0 [.int .i64 0] from rfl) (Reps.one (show Kd.M (Kd.int .i64) _ _ _ 1 [.int .i64 1] from rfl) (Reps.one (show Kd.M (Kd.int .i64) _ _ _ 0 [.int .i64 0] from rfl) (Reps.one (show Kd.M (Kd.int .i64) _ _ _ 1 [.int .i64 1] from rfl) (Reps.none _ _))))));intro v242 w39 ho40 hb hg_ hnew_;clear hg_ hnew_;(rw [← Ny241.out] at ho40);have n0_:=As0.mk (Kd.R_elder' (by (with_reducible repeat (first|apply Kd.R_alloc|apply Kd.R_drewN|apply Kd.R_drew));exact HO214.out) (Kd.R_base ho40) hb);have n1_:=As0.mk (Kd.R_elder' (by (with_reducible repeat (first|apply Kd.R_alloc|apply Kd.R_drewN|apply Kd.R_drew));exact HO219.out) (Kd.R_base ho40) hb);have n2_:=As0.mk (Kd.R_elder' (by (with_reducible repeat (first|apply Kd.R_alloc|apply Kd.R_drewN|apply Kd.R_drew));exact HO222.out) (Kd.R_base ho40) hb);have n3_:=As0.mk (Kd.R_elder' (by (with_reducible repeat (first|apply Kd.R_alloc|apply Kd.R_drewN|apply Kd.R_drew));exact HO226.out) (Kd.R_base ho40) hb);have n4_:=As0.mk (Kd.R_elder' (by (with_reducible repeat (first|apply Kd.R_alloc|apply Kd.R_drewN|apply Kd.R_drew));exact HO229.out) (Kd.R_base ho40) hb);have n5_:=As0.mk (Kd.R_elder' (by (with_reducible repeat (first|apply Kd.R_alloc|apply Kd.R_drewN|apply Kd.R_drew));exact HO232.out) (Kd.R_base ho40) hb);have n6_:=As0.mk (Kd.R_elder' (by (with_reducible repeat (first|apply Kd.R_alloc|apply Kd.R_drewN|apply Kd.R_drew));exact HO235.out) (Kd.R_base ho40) hb);have n7_:=As0.mk (Kd.R_lower (Kd.R_new' (Kd.R_new' (Kd.R_new' (Kd.R_new' (Kd.R_new' (Kd.R_new' (Kd.R_new' ho40 (Kd.R_lt (by (with_reducible repeat (first|apply Kd.R_alloc|apply Kd.R_drewN|apply Kd.R_drew));exact HO214.out))) (Kd.R_lt (by (with_reducible repeat (first|apply Kd.R_alloc|apply Kd.R_drewN|apply Kd.R_drew));exact HO219.out))) (Kd.R_lt (by (with_reducible repeat (first|apply Kd.R_alloc|apply Kd.R_drewN|apply Kd.R_drew));exact HO222.out))) (Kd.R_lt (by (with_reducible repeat (first|apply Kd.R_alloc|apply Kd.R_drewN|apply Kd.R_drew));exact HO226.out))) (Kd.R_lt (by (with_reducible repeat (first|apply Kd.R_alloc|apply Kd.R_drewN|apply Kd.R_drew));exact HO229.out))) (Kd.R_lt (by (with_reducible repeat (first|apply Kd.R_alloc|apply Kd.R_drewN|apply Kd.R_drew));exact HO232.out))) (Kd.R_lt (by (with_reducible repeat (first|apply Kd.R_alloc|apply Kd.R_drewN|apply Kd.R_drew));exact HO235.out))) (y03 (by repeat (with_reducible exact HB.out))));have n8_:=As0.mk (y05 (by repeat (with_reducible exact HB.out)) hb);clear HO214;clear HO219;clear HO222;clear HO226;clear HO229;clear HO232;clear HO235;clear HB;have HO214:=n0_;have HO219:=n1_;have HO222:=n2_;have HO226:=n3_;have HO229:=n4_;have HO232:=n5_;have HO235:=n6_;have HO243:=n7_;have HB:=n8_;clear n0_ n1_ n2_ n3_ n4_ n5_ n6_ n7_ n8_;clear hb ho40;obtain ⟨Ao41,co41,eo41⟩:=Kd.R_slice HO243.out;subst eo41)|((with_reducible refine y04 (f:=23) rfl ?_);refine y0h (some 42) rfl rfl Tra.func23 (by kernel_rfl) rfl #[.slice Ao41 y241.length co41] rfl (by (try simp only [List.map_toArray,List.map_cons,List.map_nil]);rfl) ?_;(with_reducible refine (mobs_Crossed.calls k (fun k_=>some k_=(.slice Ao41 y241.length co41:Value).ownBlock) _ _ y241 t244 t245 t246 t247 true t249 _ ?side1 A6.out).mono ?_);(case side1=>exact Kd.R_V (Kd.R_tight rfl (HO243.out)));rintro e w42 ⟨rfl,hb⟩;refine ⟨_,rfl,?_⟩;have n0_:=As0.mk (Kd.R_below (by (with_reducible repeat (first|apply Kd.R_alloc|apply Kd.R_drewN|apply Kd.R_drew));exact HO214.out) hb);have n1_:=As0.mk (Kd.R_below (by (with_reducible repeat (first|apply Kd.R_alloc|apply Kd.R_drewN|apply Kd.R_drew));exact HO219.out) hb);have n2_:=As0.mk (Kd.R_below (by (with_reducible repeat (first|apply Kd.R_alloc|apply Kd.R_drewN|apply Kd.R_drew));exact HO222.out) hb);have n3_:=As0.mk (Kd.R_below (by (with_reducible repeat (first|apply Kd.R_alloc|apply Kd.R_drewN|apply Kd.R_drew));exact HO226.out) hb);have n4_:=As0.mk (Kd.R_below (by (with_reducible repeat (first|apply Kd.R_alloc|apply Kd.R_drewN|apply Kd.R_drew));exact HO229.out) hb);have n5_:=As0.mk (Kd.R_below (by (with_reducible repeat (first|apply Kd.R_alloc|apply Kd.R_drewN|apply Kd.R_drew));exact HO232.out) hb);have n6_:=As0.mk (Kd.R_below (by (with_reducible repeat (first|apply Kd.R_alloc|apply Kd.R_drewN|apply Kd.R_drew));exact HO235.out) hb);have n7_:=As0.mk (Kd.R_below (by (with_reducible repeat (first|apply Kd.R_alloc|apply Kd.R_drewN|apply Kd.R_drew));exact HO243.out) hb);have n8_:=As0.mk (y05 (by repeat (with_reducible exact HB.out)) hb);clear HO214;clear HO219;clear HO222;clear HO226;clear HO229;clear HO232;clear HO235;clear HO243;clear HB;have HO214:=n0_;have HO219:=n1_;have HO222:=n2_;have HO226:=n3_;have HO229:=n4_;have HO232:=n5_;have HO235:=n6_;have HO243:=n7_;have HB:=n8_;clear n0_ n1_ n2_ n3_ n4_ n5_ n6_ n7_ n8_;(try clear hb);(try clear hb2);(try clear hk);(try clear hi))|((with_reducible refine y0l (N:=12) rfl ?_);(try (refine y1k (by rfl) ?_;dsimp only));refine y1y ?hg (N:=12) ?hd (cs:=#[.int .i64 0,.int .i64 0,.int .i64 0,.int .i64 0]) (t:=31) ?hr ?_;(case hd=>rfl);(case hg=>rfl);(case hr=>(go_simp;done));intro gb250 hg w43 hbox hb;have n0_:=As0.mk (Kd.R_below (by (with_reducible repeat (first|apply Kd.R_alloc|apply Kd.R_drewN|apply Kd.R_drew));exact HO214.out) hb);have n1_:=As0.mk (Kd.R_below (by (with_reducible repeat (first|apply Kd.R_alloc|apply Kd.R_drewN|apply Kd.R_drew));exact HO219.out) hb);have n2_:=As0.mk (Kd.R_below (by (with_reducible repeat (first|apply Kd.R_alloc|apply Kd.R_drewN|apply Kd.R_drew));exact HO222.out) hb);have n3_:=As0.mk (Kd.R_below (by (with_reducible repeat (first|apply Kd.R_alloc|apply Kd.R_drewN|apply Kd.R_drew));exact HO226.out) hb);have n4_:=As0.mk (Kd.R_below (by (with_reducible repeat (first|apply Kd.R_alloc|apply Kd.R_drewN|apply Kd.R_drew));exact HO229.out) hb);have n5_:=As0.mk (Kd.R_below (by (with_reducible repeat (first|apply Kd.R_alloc|apply Kd.R_drewN|apply Kd.R_drew));exact HO232.out) hb);have n6_:=As0.mk (Kd.R_below (by (with_reducible repeat (first|apply Kd.R_alloc|apply Kd.R_drewN|apply Kd.R_drew));exact HO235.out) hb);have n7_:=As0.mk (Kd.R_below (by (with_reducible repeat (first|apply Kd.R_alloc|apply Kd.R_drewN|apply Kd.R_drew));exact HO243.out) hb);have n8_:=As0.mk (y05 (by repeat (with_reducible exact HB.out)) hb);have n9_:=As0.mk (hbox);have n10_:=As0.mk ((by rw [hg];exact (y03 (by repeat (with_reducible exact HB.out))):w.heap.size≤gb250));have n11_:=As0.mk ((by rw [hg];exact (y03 (by repeat (with_reducible exact HB.out))):w.heap.size≤gb250));clear HO214;clear HO219;clear HO222;clear HO226;clear HO229;clear HO232;clear HO235;clear HO243;clear HB;have HO214:=n0_;have HO219:=n1_;have HO222:=n2_;have HO226:=n3_;have HO229:=n4_;have HO232:=n5_;have HO235:=n6_;have HO243:=n7_;have HB:=n8_;have BK250:=n9_;have GW250:=n10_;have GE250:=n11_;clear n0_ n1_ n2_ n3_ n4_ n5_ n6_ n7_ n8_ n9_ n10_ n11_;clear hb hbox hg;have hcz44_0:w43.cell? ⟨gb250,0,none⟩=some (.int .i64 0):=(y0i BK250.out 0).trans rfl;have hcz44_1:w43.cell? ⟨gb250,1,none⟩=some (.int .i64 0):=(y0i BK250.out 1).trans rfl;have hcz44_2:w43.cell? ⟨gb250,2,none⟩=some (.int .i64 0):=(y0i BK250.out 2).trans rfl;have hcz44_3:w43.cell? ⟨gb250,3,none⟩=some (.int .i64 0):=(y0i BK250.out 3).trans rfl;have hfz44_0:=y0f BK250.out 0;have hfz44_1:=y0f BK250.out 1;have hfz44_2:=y0f BK250.out 2;have hfz44_3:=y0f BK250.out 3)|((with_reducible refine y0l (N:=58) rfl ?_);(try (refine y1k (by rfl) ?_;dsimp only));refine Kd.R_lit (Kd.int .i64) _ 3 ?hg (N:=58) ?hd (xs:=([0,1,1]:List Int)) (inner:=[.int .i64 0,.int .i64 1,.int .i64 1]) (ok:=fun _=>True) (okp:=fun _=>True) ?hr ?hp (fun _ hk=>hk) trivial (Below.refl _ _) (zLe _) (by simp) ?_;(case hd=>rfl);(case hg=>rfl);(case hr=>(go_simp;done));(case hp=>exact (Reps.one (show Kd.M (Kd.int .i64) _ _ _ 0 [.int .i64 0] from rfl) (Reps.one (show Kd.M (Kd.int .i64) _ _ _ 1 [.int .i64 1] from rfl) (Reps.one (show Kd.M (Kd.int .i64) _ _ _ 1 [.int .i64 1] from rfl) (Reps.none _ _)))));intro v252 w45 ho46 hb hg_ hnew_;clear hg_ hnew_;(rw [← Ny251.out] at ho46);have n0_:=As0.mk (Kd.R_elder' (by (with_reducible repeat (first|apply Kd.R_alloc|apply Kd.R_drewN|apply Kd.R_drew));exact (Kd.R_mono (Kd.R_far (p:=⟨gb250,3,none⟩) (Kd.R_far (p:=⟨gb250,2,none⟩) (Kd.R_far (p:=⟨gb250,1,none⟩) (Kd.R_far (p:=⟨gb250,0,none⟩) (Kd.R_types HO214.out BK250.out (by decide)) (fun _ hk=>hk.2) (.int .i64 t244)) (fun _ hk=>hk.2) (.int .i64 t245)) (fun _ hk=>hk.2) (.int .i64 t246)) (fun _ hk=>hk.2) (.int .i64 t247)) (fun _ h_=>h_.1))) (Kd.R_base ho46) hb);have n1_:=As0.mk (Kd.R_elder' (by (with_reducible repeat (first|apply Kd.R_alloc|apply Kd.R_drewN|apply Kd.R_drew));exact (Kd.R_mono (Kd.R_far (p:=⟨gb250,3,none⟩) (Kd.R_far (p:=⟨gb250,2,none⟩) (Kd.R_far (p:=⟨gb250,1,none⟩) (Kd.R_far (p:=⟨gb250,0,none⟩) (Kd.R_types HO219.out BK250.out (by decide)) (fun _ hk=>hk.2) (.int .i64 t244)) (fun _ hk=>hk.2) (.int .i64 t245)) (fun _ hk=>hk.2) (.int .i64 t246)) (fun _ hk=>hk.2) (.int .i64 t247)) (fun _ h_=>h_.1))) (Kd.R_base ho46) hb);have n2_:=As0.mk (Kd.R_elder' (by (with_reducible repeat (first|apply Kd.R_alloc|apply Kd.R_drewN|apply Kd.R_drew));exact (Kd.R_mono (Kd.R_far (p:=⟨gb250,3,none⟩) (Kd.R_far (p:=⟨gb250,2,none⟩) (Kd.R_far (p:=⟨gb250,1,none⟩) (Kd.R_far (p:=⟨gb250,0,none⟩) (Kd.R_types HO222.out BK250.out (by decide)) (fun _ hk=>hk.2) (.int .i64 t244)) (fun _ hk=>hk.2) (.int .i64 t245)) (fun _ hk=>hk.2) (.int .i64 t246)) (fun _ hk=>hk.2) (.int .i64 t247)) (fun _ h_=>h_.1))) (Kd.R_base ho46) hb);have n3_:=As0.mk (Kd.R_elder' (by (with_reducible repeat (first|apply Kd.R_alloc|apply Kd.R_drewN|apply Kd.R_drew));exact (Kd.R_mono (Kd.R_far (p:=⟨gb250,3,none⟩) (Kd.R_far (p:=⟨gb250,2,none⟩) (Kd.R_far (p:=⟨gb250,1,none⟩) (Kd.R_far (p:=⟨gb250,0,none⟩) (Kd.R_types HO226.out BK250.out (by decide)) (fun _ hk=>hk.2) (.int .i64 t244)) (fun _ hk=>hk.2) (.int .i64 t245)) (fun _ hk=>hk.2) (.int .i64 t246)) (fun _ hk=>hk.2) (.int .i64 t247)) (fun _ h_=>h_.1))) (Kd.R_base ho46) hb);have n4_:=As0.mk (Kd.R_elder' (by (with_reducible repeat (first|apply Kd.R_alloc|apply Kd.R_drewN|apply Kd.R_drew));exact (Kd.R_mono (Kd.R_far (p:=⟨gb250,3,none⟩) (Kd.R_far (p:=⟨gb250,2,none⟩) (Kd.R_far (p:=⟨gb250,1,none⟩) (Kd.R_far (p:=⟨gb250,0,none⟩) (Kd.R_types HO229.out BK250.out (by decide)) (fun _ hk=>hk.2) (.int .i64 t244)) (fun _ hk=>hk.2) (.int .i64 t245)) (fun _ hk=>hk.2) (.int .i64 t246)) (fun _ hk=>hk.2) (.int .i64 t247)) (fun _ h_=>h_.1))) (Kd.R_base ho46) hb);have n5_:=As0.mk (Kd.R_elder' (by (with_reducible repeat (first|apply Kd.R_alloc|apply Kd.R_drewN|apply Kd.R_drew));exact (Kd.R_mono (Kd.R_far (p:=⟨gb250,3,none⟩) (Kd.R_far (p:=⟨gb250,2,none⟩) (Kd.R_far (p:=⟨gb250,1,none⟩) (Kd.R_far (p:=⟨gb250,0,none⟩) (Kd.R_types HO232.out BK250.out (by decide)) (fun _ hk=>hk.2) (.int .i64 t244)) (fun _ hk=>hk.2) (.int .i64 t245)) (fun _ hk=>hk.2) (.int .i64 t246)) (fun _ hk=>hk.2) (.int .i64 t247)) (fun _ h_=>h_.1))) (Kd.R_base ho46) hb);have n6_:=As0.mk (Kd.R_elder' (by (with_reducible repeat (first|apply Kd.R_alloc|apply Kd.R_drewN|apply Kd.R_drew));exact (Kd.R_mono (Kd.R_far (p:=⟨gb250,3,none⟩) (Kd.R_far (p:=⟨gb250,2,none⟩) (Kd.R_far (p:=⟨gb250,1,none⟩) (Kd.R_far (p:=⟨gb250,0,none⟩) (Kd.R_types HO235.out BK250.out (by decide)) (fun _ hk=>hk.2) (.int .i64 t244)) (fun _ hk=>hk.2) (.int .i64 t245)) (fun _ hk=>hk.2) (.int .i64 t246)) (fun _ hk=>hk.2) (.int .i64 t247)) (fun _ h_=>h_.1))) (Kd.R_base ho46) hb);have n7_:=As0.mk (Kd.R_elder' (by (with_reducible repeat (first|apply Kd.R_alloc|apply Kd.R_drewN|apply Kd.R_drew));exact (Kd.R_mono (Kd.R_far (p:=⟨gb250,3,none⟩) (Kd.R_far (p:=⟨gb250,2,none⟩) (Kd.R_far (p:=⟨gb250,1,none⟩) (Kd.R_far (p:=⟨gb250,0,none⟩) (Kd.R_types HO243.out BK250.out (by decide)) (fun _ hk=>hk.2) (.int .i64 t244)) (fun _ hk=>hk.2) (.int .i64 t245)) (fun _ hk=>hk.2) (.int .i64 t246)) (fun _ hk=>hk.2) (.int .i64 t247)) (fun _ h_=>h_.1))) (Kd.R_base ho46) hb);have n8_:=As0.mk (Kd.R_lower (Kd.R_new' (Kd.R_new' (Kd.R_new' (Kd.R_new' (Kd.R_new' (Kd.R_new' (Kd.R_new' (Kd.R_new' ho46 (Kd.R_lt (by (with_reducible repeat (first|apply Kd.R_alloc|apply Kd.R_drewN|apply Kd.R_drew));exact (Kd.R_mono (Kd.R_far (p:=⟨gb250,3,none⟩) (Kd.R_far (p:=⟨gb250,2,none⟩) (Kd.R_far (p:=⟨gb250,1,none⟩) (Kd.R_far (p:=⟨gb250,0,none⟩) (Kd.R_types HO214.out BK250.out (by decide)) (fun _ hk=>hk.2) (.int .i64 t244)) (fun _ hk=>hk.2) (.int .i64 t245)) (fun _ hk=>hk.2) (.int .i64 t246)) (fun _ hk=>hk.2) (.int .i64 t247)) (fun _ h_=>h_.1))))) (Kd.R_lt (by (with_reducible repeat (first|apply Kd.R_alloc|apply Kd.R_drewN|apply Kd.R_drew));exact (Kd.R_mono (Kd.R_far (p:=⟨gb250,3,none⟩) (Kd.R_far (p:=⟨gb250,2,none⟩) (Kd.R_far (p:=⟨gb250,1,none⟩) (Kd.R_far (p:=⟨gb250,0,none⟩) (Kd.R_types HO219.out BK250.out (by decide)) (fun _ hk=>hk.2) (.int .i64 t244)) (fun _ hk=>hk.2) (.int .i64 t245)) (fun _ hk=>hk.2) (.int .i64 t246)) (fun _ hk=>hk.2) (.int .i64 t247)) (fun _ h_=>h_.1))))) (Kd.R_lt (by (with_reducible repeat (first|apply Kd.R_alloc|apply Kd.R_drewN|apply Kd.R_drew));exact (Kd.R_mono (Kd.R_far (p:=⟨gb250,3,none⟩) (Kd.R_far (p:=⟨gb250,2,none⟩) (Kd.R_far (p:=⟨gb250,1,none⟩) (Kd.R_far (p:=⟨gb250,0,none⟩) (Kd.R_types HO222.out BK250.out (by decide)) (fun _ hk=>hk.2) (.int .i64 t244)) (fun _ hk=>hk.2) (.int .i64 t245)) (fun _ hk=>hk.2) (.int .i64 t246)) (fun _ hk=>hk.2) (.int .i64 t247)) (fun _ h_=>h_.1))))) (Kd.R_lt (by (with_reducible repeat (first|apply Kd.R_alloc|apply Kd.R_drewN|apply Kd.R_drew));exact (Kd.R_mono (Kd.R_far (p:=⟨gb250,3,none⟩) (Kd.R_far (p:=⟨gb250,2,none⟩) (Kd.R_far (p:=⟨gb250,1,none⟩) (Kd.R_far (p:=⟨gb250,0,none⟩) (Kd.R_types HO226.out BK250.out (by decide)) (fun _ hk=>hk.2) (.int .i64 t244)) (fun _ hk=>hk.2) (.int .i64 t245)) (fun _ hk=>hk.2) (.int .i64 t246)) (fun _ hk=>hk.2) (.int .i64 t247)) (fun _ h_=>h_.1))))) (Kd.R_lt (by (with_reducible repeat (first|apply Kd.R_alloc|apply Kd.R_drewN|apply Kd.R_drew));exact (Kd.R_mono (Kd.R_far (p:=⟨gb250,3,none⟩) (Kd.R_far (p:=⟨gb250,2,none⟩) (Kd.R_far (p:=⟨gb250,1,none⟩) (Kd.R_far (p:=⟨gb250,0,none⟩) (Kd.R_types HO229.out BK250.out (by decide)) (fun _ hk=>hk.2) (.int .i64 t244)) (fun _ hk=>hk.2) (.int .i64 t245)) (fun _ hk=>hk.2) (.int .i64 t246)) (fun _ hk=>hk.2) (.int .i64 t247)) (fun _ h_=>h_.1))))) (Kd.R_lt (by (with_reducible repeat (first|apply Kd.R_alloc|apply Kd.R_drewN|apply Kd.R_drew));exact (Kd.R_mono (Kd.R_far (p:=⟨gb250,3,none⟩) (Kd.R_far (p:=⟨gb250,2,none⟩) (Kd.R_far (p:=⟨gb250,1,none⟩) (Kd.R_far (p:=⟨gb250,0,none⟩) (Kd.R_types HO232.out BK250.out (by decide)) (fun _ hk=>hk.2) (.int .i64 t244)) (fun _ hk=>hk.2) (.int .i64 t245)) (fun _ hk=>hk.2) (.int .i64 t246)) (fun _ hk=>hk.2) (.int .i64 t247)) (fun _ h_=>h_.1))))) (Kd.R_lt (by (with_reducible repeat (first|apply Kd.R_alloc|apply Kd.R_drewN|apply Kd.R_drew));exact (Kd.R_mono (Kd.R_far (p:=⟨gb250,3,none⟩) (Kd.R_far (p:=⟨gb250,2,none⟩) (Kd.R_far (p:=⟨gb250,1,none⟩) (Kd.R_far (p:=⟨gb250,0,none⟩) (Kd.R_types HO235.out BK250.out (by decide)) (fun _ hk=>hk.2) (.int .i64 t244)) (fun _ hk=>hk.2) (.int .i64 t245)) (fun _ hk=>hk.2) (.int .i64 t246)) (fun _ hk=>hk.2) (.int .i64 t247)) (fun _ h_=>h_.1))))) (Kd.R_lt (by (with_reducible repeat (first|apply Kd.R_alloc|apply Kd.R_drewN|apply Kd.R_drew));exact (Kd.R_mono (Kd.R_far (p:=⟨gb250,3,none⟩) (Kd.R_far (p:=⟨gb250,2,none⟩) (Kd.R_far (p:=⟨gb250,1,none⟩) (Kd.R_far (p:=⟨gb250,0,none⟩) (Kd.R_types HO243.out BK250.out (by decide)) (fun _ hk=>hk.2) (.int .i64 t244)) (fun _ hk=>hk.2) (.int .i64 t245)) (fun _ hk=>hk.2) (.int .i64 t246)) (fun _ hk=>hk.2) (.int .i64 t247)) (fun _ h_=>h_.1))))) (y03 (by repeat (with_reducible first|exact HB.out|refine y0e ?_ GE250.out))));have n9_:=As0.mk (y1d (g:=gb250) (o:=.cells #[.int .i64 t244,.int .i64 t245,.int .i64 t246,.int .i64 t247] 31 (0,0)) (by (with_reducible repeat (first|refine y0c ?_ _|refine blk_drew ?_|refine blk_alloc ?_ _));refine y0y (cs:=#[.int .i64 t244,.int .i64 t245,.int .i64 t246,.int .i64 0]) ?_ 3 _ rfl;(with_reducible repeat (first|refine y0c ?_ _|refine blk_drew ?_|refine blk_alloc ?_ _));refine y0y (cs:=#[.int .i64 t244,.int .i64 t245,.int .i64 0,.int .i64 0]) ?_ 2 _ rfl;(with_reducible repeat (first|refine y0c ?_ _|refine blk_drew ?_|refine blk_alloc ?_ _));refine y0y (cs:=#[.int .i64 t244,.int .i64 0,.int .i64 0,.int .i64 0]) ?_ 1 _ rfl;(with_reducible repeat (first|refine y0c ?_ _|refine blk_drew ?_|refine blk_alloc ?_ _));refine y0y (cs:=#[.int .i64 0,.int .i64 0,.int .i64 0,.int .i64 0]) ?_ 0 _ rfl;(with_reducible repeat (first|refine y0c ?_ _|refine blk_drew ?_|refine blk_alloc ?_ _));exact BK250.out) hb);have n10_:=As0.mk (y05 (by repeat (with_reducible first|exact HB.out|refine y0e ?_ GE250.out)) hb);clear HO214;clear HO219;clear HO222;clear HO226;clear HO229;clear HO232;clear HO235;clear HO243;clear BK250;clear HB;have HO214:=n0_;have HO219:=n1_;have HO222:=n2_;have HO226:=n3_;have HO229:=n4_;have HO232:=n5_;have HO235:=n6_;have HO243:=n7_;have HO253:=n8_;have BK250:=n9_;have HB:=n10_;clear n0_ n1_ n2_ n3_ n4_ n5_ n6_ n7_ n8_ n9_ n10_;clear hb ho46;obtain ⟨Ao47,co47,eo47⟩:=Kd.R_slice HO222.out;subst eo47;obtain ⟨Ao48,co48,eo48⟩:=Kd.R_slice HO253.out;subst eo48)|(go_at_call 27;(with_reducible refine (w6_same.calls k _ _ t220 _ _ y251 true _ ?side1 ?side2 ?side3 ?side4 A10.out).mono ?_);(case side1=>repeat (exact (Kd.R_reads' HO222.out).2.2));(case side2=>exact (Kd.R_reads' HO222.out).2.1);(case side3=>repeat (exact (Kd.R_reads' HO253.out).2.2));(case side4=>exact (Kd.R_reads' HO253.out).2.1);rintro e w' ⟨rfl,⟨nd,rfl⟩⟩)|((with_reducible refine y0l (N:=67) rfl ?_);(try (refine y1k (by rfl) ?_;dsimp only));refine Kd.R_lit (Kd.int .i64) _ 3 ?hg (N:=67) ?hd (xs:=([0,1,2,3]:List Int)) (inner:=[.int .i64 0,.int .i64 1,.int .i64 2,.int .i64 3]) (ok:=fun _=>True) (okp:=fun _=>True) ?hr ?hp (fun _ hk=>hk) trivial (Below.refl _ _) (zLe _) (by simp) ?_;(case hd=>rfl);(case hg=>rfl);(case hr=>(go_simp;done));(case hp=>exact (Reps.one (show Kd.M (Kd.int .i64) _ _ _ 0 [.int .i64 0] from rfl) (Reps.one (show Kd.M (Kd.int .i64) _ _ _ 1 [.int .i64 1] from rfl) (Reps.one (show Kd.M (Kd.int .i64) _ _ _ 2 [.int .i64 2] from rfl) (Reps.one (show Kd.M (Kd.int .i64) _ _ _ 3 [.int .i64 3] from rfl) (Reps.none _ _))))));intro v256 w49 ho50 hb hg_ hnew_;clear hg_ hnew_;(rw [← Ny255.out] at ho50);have n0_:=As0.mk (Kd.R_elder' (by (with_reducible repeat (apply Kd.R_drewN));exact HO214.out) (Kd.R_base ho50) hb);have n1_:=As0.mk (Kd.R_elder' (by (with_reducible repeat (apply Kd.R_drewN));exact HO219.out) (Kd.R_base ho50) hb);have n2_:=As0.mk (Kd.R_elder' (by (with_reducible repeat (apply Kd.R_drewN));exact HO222.out) (Kd.R_base ho50) hb);have n3_:=As0.mk (Kd.R_elder' (by (with_reducible repeat (apply Kd.R_drewN));exact HO226.out) (Kd.R_base ho50) hb);have n4_:=As0.mk (Kd.R_elder' (by (with_reducible repeat (apply Kd.R_drewN));exact HO229.out) (Kd.R_base ho50) hb);have n5_:=As0.mk (Kd.R_elder' (by (with_reducible repeat (apply Kd.R_drewN));exact HO232.out) (Kd.R_base ho50) hb);have n6_:=As0.mk (Kd.R_elder' (by (with_reducible repeat (apply Kd.R_drewN));exact HO235.out) (Kd.R_base ho50) hb);have n7_:=As0.mk (Kd.R_elder' (by (with_reducible repeat (apply Kd.R_drewN));exact HO243.out) (Kd.R_base ho50) hb);have n8_:=As0.mk (Kd.R_elder' (by (with_reducible repeat (apply Kd.R_drewN));exact HO253.out) (Kd.R_base ho50) hb);have n9_:=As0.mk (Kd.R_lower (Kd.R_new' (Kd.R_new' (Kd.R_new' (Kd.R_new' (Kd.R_new' (Kd.R_new' (Kd.R_new' (Kd.R_new' (Kd.R_new' ho50 (Kd.R_lt (by (with_reducible repeat (apply Kd.R_drewN));exact HO214.out))) (Kd.R_lt (by (with_reducible repeat (apply Kd.R_drewN));exact HO219.out))) (Kd.R_lt (by (with_reducible repeat (apply Kd.R_drewN));exact HO222.out))) (Kd.R_lt (by (with_reducible repeat (apply Kd.R_drewN));exact HO226.out))) (Kd.R_lt (by (with_reducible repeat (apply Kd.R_drewN));exact HO229.out))) (Kd.R_lt (by (with_reducible repeat (apply Kd.R_drewN));exact HO232.out))) (Kd.R_lt (by (with_reducible repeat (apply Kd.R_drewN));exact HO235.out))) (Kd.R_lt (by (with_reducible repeat (apply Kd.R_drewN));exact HO243.out))) (Kd.R_lt (by (with_reducible repeat (apply Kd.R_drewN));exact HO253.out))) (y03 (by repeat (with_reducible first|exact HB.out|apply y00))));have n10_:=As0.mk (y1d (g:=gb250) (o:=.cells #[.int .i64 t244,.int .i64 t245,.int .i64 t246,.int .i64 t247] 31 (0,0)) (by (with_reducible repeat (refine y0c ?_ _));exact BK250.out) hb);have n11_:=As0.mk (y05 (by repeat (with_reducible first|exact HB.out|apply y00)) hb);clear HO214;clear HO219;clear HO222;clear HO226;clear HO229;clear HO232;clear HO235;clear HO243;clear HO253;clear BK250;clear HB;have HO214:=n0_;have HO219:=n1_;have HO222:=n2_;have HO226:=n3_;have HO229:=n4_;have HO232:=n5_;have HO235:=n6_;have HO243:=n7_;have HO253:=n8_;have HO257:=n9_;have BK250:=n10_;have HB:=n11_;clear n0_ n1_ n2_ n3_ n4_ n5_ n6_ n7_ n8_ n9_ n10_ n11_;clear hb ho50;obtain ⟨Ao51,co51,eo51⟩:=Kd.R_slice HO232.out;subst eo51;obtain ⟨Ao52,co52,eo52⟩:=Kd.R_slice HO257.out;subst eo52)|(go_at_call 27;(with_reducible refine (w6_same.calls k _ _ t230 _ _ y255 true _ ?side1 ?side2 ?side3 ?side4 A13.out).mono ?_);(case side1=>repeat (exact (Kd.R_reads' HO232.out).2.2));(case side2=>exact (Kd.R_reads' HO232.out).2.1);(case side3=>repeat (exact (Kd.R_reads' HO257.out).2.2));(case side4=>exact (Kd.R_reads' HO257.out).2.1);rintro e w' ⟨rfl,⟨nd,rfl⟩⟩)|((with_reducible refine y0l (N:=72) rfl ?_);(try (refine y1k (by rfl) ?_;dsimp only));refine Kd.R_lit (Kd.int .i64) _ 3 ?hg (N:=72) ?hd (xs:=([0,0,0,0]:List Int)) (inner:=[.int .i64 0,.int .i64 0,.int .i64 0,.int .i64 0]) (ok:=fun _=>True) (okp:=fun _=>True) ?hr ?hp (fun _ hk=>hk) trivial (Below.refl _ _) (zLe _) (by simp) ?_;(case hd=>rfl);(case hg=>rfl);(case hr=>(go_simp;done));(case hp=>exact (Reps.one (show Kd.M (Kd.int .i64) _ _ _ 0 [.int .i64 0] from rfl) (Reps.one (show Kd.M (Kd.int .i64) _ _ _ 0 [.int .i64 0] from rfl) (Reps.one (show Kd.M (Kd.int .i64) _ _ _ 0 [.int .i64 0] from rfl) (Reps.one (show Kd.M (Kd.int .i64) _ _ _ 0 [.int .i64 0] from rfl) (Reps.none _ _))))));intro v260 w53 ho54 hb hg_ hnew_;clear hg_ hnew_;(rw [← Ny259.out] at ho54);have n0_:=As0.mk (Kd.R_elder' (by (with_reducible repeat (apply Kd.R_drewN));exact HO214.out) (Kd.R_base ho54) hb);have n1_:=As0.mk (Kd.R_elder' (by (with_reducible repeat (apply Kd.R_drewN));exact HO219.out) (Kd.R_base ho54) hb);have n2_:=As0.mk (Kd.R_elder' (by (with_reducible repeat (apply Kd.R_drewN));exact HO222.out) (Kd.R_base ho54) hb);have n3_:=As0.mk (Kd.R_elder' (by (with_reducible repeat (apply Kd.R_drewN));exact HO226.out) (Kd.R_base ho54) hb);have n4_:=As0.mk (Kd.R_elder' (by (with_reducible repeat (apply Kd.R_drewN));exact HO229.out) (Kd.R_base ho54) hb);have n5_:=As0.mk (Kd.R_elder' (by (with_reducible repeat (apply Kd.R_drewN));exact HO232.out) (Kd.R_base ho54) hb);have n6_:=As0.mk (Kd.R_elder' (by (with_reducible repeat (apply Kd.R_drewN));exact HO235.out) (Kd.R_base ho54) hb);have n7_:=As0.mk (Kd.R_elder' (by (with_reducible repeat (apply Kd.R_drewN));exact HO243.out) (Kd.R_base ho54) hb);have n8_:=As0.mk (Kd.R_elder' (by (with_reducible repeat (apply Kd.R_drewN));exact HO253.out) (Kd.R_base ho54) hb);have n9_:=As0.mk (Kd.R_elder' (by (with_reducible repeat (apply Kd.R_drewN));exact HO257.out) (Kd.R_base ho54) hb);have n10_:=As0.mk (Kd.R_lower (Kd.R_new' (Kd.R_new' (Kd.R_new' (Kd.R_new' (Kd.R_new' (Kd.R_new' (Kd.R_new' (Kd.R_new' (Kd.R_new' (Kd.R_new' ho54 (Kd.R_lt (by (with_reducible repeat (apply Kd.R_drewN));exact HO214.out))) (Kd.R_lt (by (with_reducible repeat (apply Kd.R_drewN));exact HO219.out))) (Kd.R_lt (by (with_reducible repeat (apply Kd.R_drewN));exact HO222.out))) (Kd.R_lt (by (with_reducible repeat (apply Kd.R_drewN));exact HO226.out))) (Kd.R_lt (by (with_reducible repeat (apply Kd.R_drewN));exact HO229.out))) (Kd.R_lt (by (with_reducible repeat (apply Kd.R_drewN));exact HO232.out))) (Kd.R_lt (by (with_reducible repeat (apply Kd.R_drewN));exact HO235.out))) (Kd.R_lt (by (with_reducible repeat (apply Kd.R_drewN));exact HO243.out))) (Kd.R_lt (by (with_reducible repeat (apply Kd.R_drewN));exact HO253.out))) (Kd.R_lt (by (with_reducible repeat (apply Kd.R_drewN));exact HO257.out))) (y03 (by repeat (with_reducible first|exact HB.out|apply y00))));have n11_:=As0.mk (y1d (g:=gb250) (o:=.cells #[.int .i64 t244,.int .i64 t245,.int .i64 t246,.int .i64 t247] 31 (0,0)) (by (with_reducible repeat (refine y0c ?_ _));exact BK250.out) hb);have n12_:=As0.mk (y05 (by repeat (with_reducible first|exact HB.out|apply y00)) hb);clear HO214;clear HO219;clear HO222;clear HO226;clear HO229;clear HO232;clear HO235;clear HO243;clear HO253;clear HO257;clear BK250;clear HB;have HO214:=n0_;have HO219:=n1_;have HO222:=n2_;have HO226:=n3_;have HO229:=n4_;have HO232:=n5_;have HO235:=n6_;have HO243:=n7_;have HO253:=n8_;have HO257:=n9_;have HO261:=n10_;have BK250:=n11_;have HB:=n12_;clear n0_ n1_ n2_ n3_ n4_ n5_ n6_ n7_ n8_ n9_ n10_ n11_ n12_;clear hb ho54;obtain ⟨Ao55,co55,eo55⟩:=Kd.R_slice HO235.out;subst eo55;obtain ⟨Ao56,co56,eo56⟩:=Kd.R_slice HO261.out;subst eo56)|(go_at_call 27;(with_reducible refine (w6_same.calls k _ _ t233 _ _ y259 true _ ?side1 ?side2 ?side3 ?side4 A15.out).mono ?_);(case side1=>repeat (exact (Kd.R_reads' HO235.out).2.2));(case side2=>exact (Kd.R_reads' HO235.out).2.1);(case side3=>repeat (exact (Kd.R_reads' HO261.out).2.2));(case side4=>exact (Kd.R_reads' HO261.out).2.1);rintro e w' ⟨rfl,⟨nd,rfl⟩⟩;have hcz57_0:w53.cell? ⟨gb250,0,none⟩=some (.int .i64 t244):=(y0i BK250.out 0).trans rfl;have hcz57_1:w53.cell? ⟨gb250,1,none⟩=some (.int .i64 t245):=(y0i BK250.out 1).trans rfl;have hcz57_2:w53.cell? ⟨gb250,2,none⟩=some (.int .i64 t246):=(y0i BK250.out 2).trans rfl;have hcz57_3:w53.cell? ⟨gb250,3,none⟩=some (.int .i64 t247):=(y0i BK250.out 3).trans rfl;have hfz57_0:=y0f BK250.out 0;have hfz57_1:=y0f BK250.out 1;have hfz57_2:=y0f BK250.out 2;have hfz57_3:=y0f BK250.out 3))
 go_ret
 exact ⟨by rfl,by repeat (with_reducible first|exact HB.out|apply y00)⟩
theorem w6_alive.calls (r:Bool) (w:World) (h:w6_alive.f=some r) :
  Calls Tra.prog 20 #[] w fun e w'=>e=.returned (.bool r)∧Below w.heap.size w w':=by
 obtain rfl:=zSi h;exact w6_alive.one 60 w (by decide +kernel) (by decide +kernel) (by decide +kernel) (by decide +kernel) (by decide +kernel) (by decide +kernel) yca
def w6_few.f (l0:List Int) (l1:List Int):Option (Bool):=if (l0.length:Int)≤40 then (some (decide ((l1.length:Int)≤40))) else (some false)
theorem w6_few.calls (A0:Option Addr) (c0:Nat) (l0:List Int) (A1:Option Addr) (c1:Nat) (l1:List Int) (r:Bool) (w:World) (hr0:Kd.C (Kd.int .i64) w A0 l0.length l0) (hc0:l0.length≤c0) (hr1:Kd.C (Kd.int .i64) w A1 l1.length l1) (hc1:l1.length≤c1) (h:w6_few.f l0 l1=some r) :
  Calls Tra.prog 22 #[.slice A0 l0.length c0,.slice A1 l1.length c1] w fun e w'=>e=.returned (.bool r)∧Drawn0 w w':=by
 have HR0:=As0.mk hr0;have HC0:=As0.mk hc0;clear hr0 hc0;have HR1:=As0.mk hr1;have HC1:=As0.mk hc1;clear hr1 hc1;have H:(if (l0.length:Int)≤40 then (some (decide ((l1.length:Int)≤40))) else (some false))=some r:=h;clear h
 by_cases c3:(l0.length:Int)≤40
 ·rw [if_pos c3] at H
  have c3b0:decide ((l0.length:Int)≤40)=true:=zDt c3;have c3b1:decide (l0.length≤40)=true:=zDt (by omega);clear c3;obtain rfl:=zSi H;go_enter Tra.func22,Tra.ntmps22
  go_wp2
  go_ret
  exact ⟨by rfl,by repeat (exact Drawn0.refl _)⟩
 ·rw [if_neg c3] at H
  have c3b0:decide ((l0.length:Int)≤40)=false:=zDf c3;have c3b1:decide (l0.length≤40)=false:=zDf (by omega);clear c3;obtain rfl:=zSi H;go_enter Tra.func22,Tra.ntmps22
  go_wp2
  go_ret
  exact ⟨by rfl,by repeat (exact Drawn0.refl _)⟩
end Go.Proofs.Ytdhgeondbnpeoaa.P
namespace Go.Proofs.Ytdhgeondbnpeoaa.P
open Go.RowKit Go.Proofs.Yw.Wd Go.Proofs.Yw.La Go.Proofs.Yw.Mo
attribute [local go_sem] y1b y19 y1q y1p y12 y11 y1a y18
mutual
def r6_finer.l0:Nat->List Int->List Int->Int->Option (Bool)
 |0,_,_,_=>none
 |k+1,x0,x1,x5=>if x5<(x0.length:Int) then (r6_finer.l1 k x0 x1 x5 0) else (some true)
def r6_finer.l1:Nat->List Int->List Int->Int->Int->Option (Bool)
 |0,_,_,_,_=>none
 |k+1,x0,x1,x5,x6=>if x6<x5 then (if 0≤x5 then (if x5<(x0.length:Int) then (if 0≤x6 then (if x6<(x0.length:Int) then (if (rd x0 x5)=(rd x0 x6) then (if x5<(x1.length:Int) then (if x6<(x1.length:Int) then (if (rd x1 x5)=(rd x1 x6) then (r6_finer.l1 k x0 x1 x5 (wrap64 (x6+1))) else (some false)) else (none)) else (none)) else (r6_finer.l1 k x0 x1 x5 (wrap64 (x6+1)))) else (none)) else (none)) else (none)) else (none)) else (r6_finer.l0 k x0 x1 (wrap64 (x5+1)))
end
def r6_finer.f (k:Nat) (l0:List Int) (l1:List Int):Option (Bool):=r6_finer.l0 k l0 l1 0
theorem r6_finer.calls (k:Nat) (A0:Option Addr) (c0:Nat) (l0:List Int) (A1:Option Addr) (c1:Nat) (l1:List Int) (r:Bool) (w:World) (hr0:Kd.C (Kd.int .i64) w A0 l0.length l0) (hc0:l0.length≤c0) (hr1:Kd.C (Kd.int .i64) w A1 l1.length l1) (hc1:l1.length≤c1) (h:r6_finer.f k l0 l1=some r) :
  Calls Tra.prog 59 #[.slice A0 l0.length c0,.slice A1 l1.length c1] w fun e w'=>e=.returned (.bool r)∧Drawn0 w w':=by
 have HR0:=As0.mk hr0;have HC0:=As0.mk hc0;clear hr0 hc0;have HR1:=As0.mk hr1;have HC1:=As0.mk hc1;clear hr1 hc1;have H:(r6_finer.l0 k l0 l1 0)=some r:=h;clear h;have H':=As0.mk H;clear H;go_enter Tra.func59,Tra.ntmps59
 go_wp2
 repeat (go_quiet (fail);try go_wp2)
 go_loopg [5] k (fun kq v5 w'=>∃ (x5_1:Int),v5=.int .i64 x5_1∧As0 (r6_finer.l0 kq l0 l1 x5_1=some r)∧As0 (kq≤k)∧Drawn0 w w')
 case atStart=>exact ⟨(0),(by rfl),H',⟨zLe _⟩,by repeat (exact Drawn0.refl _)⟩
 case round =>
  clear H'
  try clear c1
  try clear p2
  obtain ⟨x5_1,rfl,HA,HK1,⟨m1,rfl⟩⟩:=hrel;cases gk with
  |zero=>exact absurd HA.out (by simp [r6_finer.l0])
  |succ k1 =>
   have H:=HA.out;clear HA;simp only [r6_finer.l0] at H
   by_cases c3:x5_1<(l0.length:Int)
   ·rw [if_pos c3] at H
    have c3b0:decide (x5_1<(l0.length:Int))=true:=zDt c3;clear c3;have H':=As0.mk H;clear H;go_wp2
    repeat (go_quiet (fail);try go_wp2)
    go_loopg [6] k1 (fun kq v6 w'=>∃ (x6_2:Int),v6=.int .i64 x6_2∧As0 (r6_finer.l1 kq l0 l1 x5_1 x6_2=some r)∧As0 (kq≤k1)∧Drawn0 w w')
    case atStart=>exact ⟨(0),(by rfl),H',⟨zLe _⟩,by repeat (first|exact Drawn0.refl _|apply Drawn0.step)⟩
    case round =>
     clear H'
     try clear c1
     try clear p2
     try clear c3
     try clear c3b0
     try clear p2
     obtain ⟨x6_2,rfl,HA,HK2,⟨m2,rfl⟩⟩:=hrel;cases gk with
     |zero=>exact absurd HA.out (by simp [r6_finer.l1])
     |succ k2 =>
      have H:=HA.out;clear HA;simp only [r6_finer.l1] at H
      by_cases c4:x6_2<x5_1
      ·rw [if_pos c4] at H
       have c4b0:decide (x6_2<x5_1)=true:=zDt c4;clear c4
       by_cases c5:0≤x5_1
       ·rw [if_pos c5] at H
        have c5b0:decide (0≤x5_1)=true:=zDt c5;clear c5
        by_cases c6:x5_1<(l0.length:Int)
        ·rw [if_pos c6] at H
         have c6b0:decide (x5_1<(l0.length:Int))=true:=zDt c6;clear c6
         by_cases c7:0≤x6_2
         ·rw [if_pos c7] at H
          have c7b0:decide (0≤x6_2)=true:=zDt c7;clear c7
          by_cases c8:x6_2<(l0.length:Int)
          ·rw [if_pos c8] at H
           have c8b0:decide (x6_2<(l0.length:Int))=true:=zDt c8;clear c8
           by_cases c9:(rd l0 x5_1)=(rd l0 x6_2)
           ·rw [if_pos c9] at H
            have c9b0:((rd l0 x5_1) == (rd l0 x6_2))=true:=beq_iff_eq.mpr c9;have c9b1:((rd l0 x5_1) != (rd l0 x6_2))=false:=bne_eq_false_iff_eq.mpr c9;clear c9
            by_cases c10:x5_1<(l1.length:Int)
            ·rw [if_pos c10] at H
             have c10b0:decide (x5_1<(l1.length:Int))=true:=zDt c10;clear c10
             by_cases c11:x6_2<(l1.length:Int)
             ·rw [if_pos c11] at H
              have c11b0:decide (x6_2<(l1.length:Int))=true:=zDt c11;clear c11
              by_cases c12:(rd l1 x5_1)=(rd l1 x6_2)
              ·rw [if_pos c12] at H
               have c12b0:((rd l1 x5_1) == (rd l1 x6_2))=true:=beq_iff_eq.mpr c12;have c12b1:((rd l1 x5_1) != (rd l1 x6_2))=false:=bne_eq_false_iff_eq.mpr c12;clear c12;have H':=As0.mk H;clear H;have p227:0≤(x5_1:Int):=zDo (by with_reducible assumption);have q227:x5_1<(l0.length:Int):=zDo (by with_reducible assumption);obtain ⟨ad227,e227,hx227_0⟩:=Kd.at_int HR0.out x5_1 p227 q227;cases e227
               replace p227:=eq_true p227;replace q227:=eq_true q227;have p228:0≤(x6_2:Int):=zDo (by with_reducible assumption);have q228:x6_2<(l0.length:Int):=zDo (by with_reducible assumption);obtain ⟨ad228,e228,hx228_0⟩:=Kd.at_int HR0.out x6_2 p228 q228;obtain rfl:ad227=ad228:=(by injection e228)
               replace p228:=eq_true p228;replace q228:=eq_true q228;have p229:0≤(x5_1:Int):=zDo (by with_reducible assumption);have q229:x5_1<(l1.length:Int):=zDo (by with_reducible assumption);obtain ⟨ad229,e229,hx229_0⟩:=Kd.at_int HR1.out x5_1 p229 q229;cases e229
               replace p229:=eq_true p229;replace q229:=eq_true q229;have p230:0≤(x6_2:Int):=zDo (by with_reducible assumption);have q230:x6_2<(l1.length:Int):=zDo (by with_reducible assumption);obtain ⟨ad230,e230,hx230_0⟩:=Kd.at_int HR1.out x6_2 p230 q230;obtain rfl:ad229=ad230:=(by injection e230)
               replace p230:=eq_true p230;replace q230:=eq_true q230;go_wp2
               repeat (go_quiet (fail);try go_wp2)
               go_roundg k2
               case measure=>have:=HK1.out;have:=HK2.out;omega
               case rel=>exact ⟨(wrap64 (x6_2+1)),(by rfl),H',⟨by have:=HK1.out;have:=HK2.out;omega⟩,by repeat (first|exact Drawn0.refl _|apply Drawn0.step)⟩
              ·rw [if_neg c12] at H
               have c12b0:((rd l1 x5_1) == (rd l1 x6_2))=false:=beq_eq_false_iff_ne.mpr c12;have c12b1:((rd l1 x5_1) != (rd l1 x6_2))=true:=bne_iff_ne.mpr c12;obtain rfl:=zSi H;have p227:0≤(x5_1:Int):=zDo (by with_reducible assumption);have q227:x5_1<(l0.length:Int):=zDo (by with_reducible assumption);obtain ⟨ad227,e227,hx227_0⟩:=Kd.at_int HR0.out x5_1 p227 q227;cases e227
               replace p227:=eq_true p227;replace q227:=eq_true q227;have p228:0≤(x6_2:Int):=zDo (by with_reducible assumption);have q228:x6_2<(l0.length:Int):=zDo (by with_reducible assumption);obtain ⟨ad228,e228,hx228_0⟩:=Kd.at_int HR0.out x6_2 p228 q228;obtain rfl:ad227=ad228:=(by injection e228)
               replace p228:=eq_true p228;replace q228:=eq_true q228;have p229:0≤(x5_1:Int):=zDo (by with_reducible assumption);have q229:x5_1<(l1.length:Int):=zDo (by with_reducible assumption);obtain ⟨ad229,e229,hx229_0⟩:=Kd.at_int HR1.out x5_1 p229 q229;cases e229
               replace p229:=eq_true p229;replace q229:=eq_true q229;have p230:0≤(x6_2:Int):=zDo (by with_reducible assumption);have q230:x6_2<(l1.length:Int):=zDo (by with_reducible assumption);obtain ⟨ad230,e230,hx230_0⟩:=Kd.at_int HR1.out x6_2 p230 q230;obtain rfl:ad229=ad230:=(by injection e230)
               replace p230:=eq_true p230;replace q230:=eq_true q230;go_wp2
               repeat (go_quiet (fail);try go_wp2)
               go_ret
               exact ⟨by rfl,by repeat (first|exact Drawn0.refl _|apply Drawn0.step)⟩
             ·rw [if_neg c11] at H
              exact absurd H (by simp)
            ·rw [if_neg c10] at H
             exact absurd H (by simp)
           ·rw [if_neg c9] at H
            have c9b0:((rd l0 x5_1) == (rd l0 x6_2))=false:=beq_eq_false_iff_ne.mpr c9;have c9b1:((rd l0 x5_1) != (rd l0 x6_2))=true:=bne_iff_ne.mpr c9;have H':=As0.mk H;clear H;have p227:0≤(x5_1:Int):=zDo (by with_reducible assumption);have q227:x5_1<(l0.length:Int):=zDo (by with_reducible assumption);obtain ⟨ad227,e227,hx227_0⟩:=Kd.at_int HR0.out x5_1 p227 q227;cases e227
            replace p227:=eq_true p227;replace q227:=eq_true q227;have p228:0≤(x6_2:Int):=zDo (by with_reducible assumption);have q228:x6_2<(l0.length:Int):=zDo (by with_reducible assumption);obtain ⟨ad228,e228,hx228_0⟩:=Kd.at_int HR0.out x6_2 p228 q228;obtain rfl:ad227=ad228:=(by injection e228)
            replace p228:=eq_true p228;replace q228:=eq_true q228;go_wp2
            repeat (go_quiet (fail);try go_wp2)
            go_roundg k2
            case measure=>have:=HK1.out;have:=HK2.out;omega
            case rel=>exact ⟨(wrap64 (x6_2+1)),(by rfl),H',⟨by have:=HK1.out;have:=HK2.out;omega⟩,by repeat (first|exact Drawn0.refl _|apply Drawn0.step)⟩
          ·rw [if_neg c8] at H
           exact absurd H (by simp)
         ·rw [if_neg c7] at H
          exact absurd H (by simp)
        ·rw [if_neg c6] at H
         exact absurd H (by simp)
       ·rw [if_neg c5] at H
        exact absurd H (by simp)
      ·rw [if_neg c4] at H
       have c4b0:decide (x6_2<x5_1)=false:=zDf c4;clear c4;have H':=As0.mk H;clear H;go_wp2
       repeat (go_quiet (fail);try go_wp2)
       go_roundg k2
       case measure=>have:=HK1.out;have:=HK2.out;omega
       case rel=>exact ⟨(wrap64 (x5_1+1)),(by rfl),H',⟨by have:=HK1.out;have:=HK2.out;omega⟩,by repeat (first|exact Drawn0.refl _|apply Drawn0.step)⟩
   ·rw [if_neg c3] at H
    have c3b0:decide (x5_1<(l0.length:Int))=false:=zDf c3;clear c3;obtain rfl:=zSi H;go_wp2
    repeat (go_quiet (fail);try go_wp2)
    go_ret
    exact ⟨by rfl,by repeat (first|exact Drawn0.refl _|apply Drawn0.step)⟩
def r6_Finer.f (k:Nat) (l0:List Int) (l1:List Int):Option (Bool × Int):=(r6_two.f k l0 l1).bind fun t231=>(if t231=0 then ((r6_finer.f k l0 l1).bind fun t232=>(some (t232,0))) else (some (false,t231)))
theorem r6_Finer.calls (k:Nat) (A0:Option Addr) (c0:Nat) (l0:List Int) (A1:Option Addr) (c1:Nat) (l1:List Int) (r1:Bool) (r2:Int) (w:World) (hr0:Kd.C (Kd.int .i64) w A0 l0.length l0) (hc0:l0.length≤c0) (hr1:Kd.C (Kd.int .i64) w A1 l1.length l1) (hc1:l1.length≤c1) (h:r6_Finer.f k l0 l1=some (r1,r2)) :
  Calls Tra.prog 33 #[.slice A0 l0.length c0,.slice A1 l1.length c1] w fun e w'=>e=.returned (.tuple #[.bool r1,.int .i64 r2])∧Drawn0 w w':=by
 have HR0:=As0.mk hr0;have HC0:=As0.mk hc0;clear hr0 hc0;have HR1:=As0.mk hr1;have HC1:=As0.mk hc1;clear hr1 hc1;have H:((r6_two.f k l0 l1).bind fun t231=>(if t231=0 then ((r6_finer.f k l0 l1).bind fun t232=>(some (t232,0))) else (some (false,t231))))=some (r1,r2):=h;clear h;replace H:=Option.bind_eq_some_iff.mp H;obtain ⟨t231,A30,H⟩:=H;replace H:(if t231=0 then ((r6_finer.f k l0 l1).bind fun t232=>(some (t232,0))) else (some (false,t231)))=some (r1,r2):=H;have A3:=As0.mk A30;clear A30
 by_cases c4:t231=0
 ·rw [if_pos c4] at H
  have c4b0:(t231 == 0)=true:=beq_iff_eq.mpr c4;have c4b1:(t231 != 0)=false:=bne_eq_false_iff_eq.mpr c4;clear c4;replace H:=Option.bind_eq_some_iff.mp H;obtain ⟨t232,A50,H⟩:=H;replace H:(some (t232,0))=some (r1,r2):=H;have A5:=As0.mk A50;clear A50;simp only [Option.some.injEq,Prod.mk.injEq] at H;obtain ⟨rfl,rfl⟩:=H;go_enter Tra.func33,Tra.ntmps33
  go_wp2_with (first|((with_reducible refine y04 (f:=58) rfl ?_);refine y0h (some 9) rfl rfl Tra.func58 (by kernel_rfl) rfl #[.slice A0 l0.length c0,.slice A1 l1.length c1] rfl (by (try simp only [List.map_toArray,List.map_cons,List.map_nil]);rfl) ?_;(with_reducible refine (r6_two.calls k _ _ l0 _ _ l1 t231 _ ?side1 ?side2 ?side3 ?side4 A3.out).mono ?_);(case side1=>repeat (exact HR0.out));(case side2=>exact HC0.out);(case side3=>repeat (exact HR1.out));(case side4=>exact HC1.out);rintro e w' ⟨rfl,⟨nd,rfl⟩⟩;refine ⟨_,rfl,?_⟩)|((with_reducible refine y04 (f:=59) rfl ?_);refine y0h (some 15) rfl rfl Tra.func59 (by kernel_rfl) rfl #[.slice A0 l0.length c0,.slice A1 l1.length c1] rfl (by (try simp only [List.map_toArray,List.map_cons,List.map_nil]);rfl) ?_;(with_reducible refine (r6_finer.calls k _ _ l0 _ _ l1 t232 _ ?side1 ?side2 ?side3 ?side4 A5.out).mono ?_);(case side1=>repeat (exact HR0.out));(case side2=>exact HC0.out);(case side3=>repeat (exact HR1.out));(case side4=>exact HC1.out);rintro e w' ⟨rfl,⟨nd,rfl⟩⟩;refine ⟨_,rfl,?_⟩))
  go_ret2
  exact ⟨by rfl,by repeat (first|exact Drawn0.refl _|apply Drawn0.step)⟩
 ·rw [if_neg c4] at H
  have c4b0:(t231 == 0)=false:=beq_eq_false_iff_ne.mpr c4;have c4b1:(t231 != 0)=true:=bne_iff_ne.mpr c4;simp only [Option.some.injEq,Prod.mk.injEq] at H;obtain ⟨rfl,rfl⟩:=H;go_enter Tra.func33,Tra.ntmps33
  go_wp2_with (((with_reducible refine y04 (f:=58) rfl ?_);refine y0h (some 9) rfl rfl Tra.func58 (by kernel_rfl) rfl #[.slice A0 l0.length c0,.slice A1 l1.length c1] rfl (by (try simp only [List.map_toArray,List.map_cons,List.map_nil]);rfl) ?_;(with_reducible refine (r6_two.calls k _ _ l0 _ _ l1 t231 _ ?side1 ?side2 ?side3 ?side4 A3.out).mono ?_);(case side1=>repeat (exact HR0.out));(case side2=>exact HC0.out);(case side3=>repeat (exact HR1.out));(case side4=>exact HC1.out);rintro e w' ⟨rfl,⟨nd,rfl⟩⟩;refine ⟨_,rfl,?_⟩))
  go_ret2
  exact ⟨by rfl,by repeat (first|exact Drawn0.refl _|apply Drawn0.step)⟩
mutual
def r6_numbered.l0:Nat->List Int->List Int->Int->Int->Option (List Int)
 |0,_,_,_,_=>none
 |k+1,x0,x3,x4,x5=>if x5<(x0.length:Int) then (r6_numbered.l1 k x0 x3 x4 x5 (-1) 0) else (some x3)
def r6_numbered.l1:Nat->List Int->List Int->Int->Int->Int->Int->Option (List Int)
 |0,_,_,_,_,_,_=>none
 |k+1,x0,x3,x4,x5,x6,x7=>if x7<x5 then (r6_numbered.j2 k x0 x3 x4 x5 x6 x7 (decide (x6<0))) else (r6_numbered.j2 k x0 x3 x4 x5 x6 x7 false)
def r6_numbered.j2:Nat->List Int->List Int->Int->Int->Int->Int->Bool->Option (List Int)
 |0,_,_,_,_,_,_,_=>none
 |k+1,x0,x3,x4,x5,x6,x7,x20=>if x20=true then (if 0≤x7 then (if x7<(x0.length:Int) then (if 0≤x5 then (if x5<(x0.length:Int) then (if (rd x0 x7)=(rd x0 x5) then (if x7<(x3.length:Int) then (r6_numbered.l1 k x0 x3 x4 x5 (rd x3 x7) (wrap64 (x7+1))) else (none)) else (r6_numbered.l1 k x0 x3 x4 x5 x6 (wrap64 (x7+1)))) else (none)) else (none)) else (none)) else (none)) else (if x6<0 then (if x3.length<17592186044416 then (r6_numbered.l0 k x0 (x3 ++ [x4]) (wrap64 (x4+1)) (wrap64 (x5+1))) else (none)) else (if x3.length<17592186044416 then (r6_numbered.l0 k x0 (x3 ++ [x6]) x4 (wrap64 (x5+1))) else (none)))
end
def r6_numbered.f (k:Nat) (l0:List Int):Option (List Int):=r6_numbered.l0 k l0 ([]:List Int) 0 0
theorem r6_numbered.calls (k:Nat) (A0:Option Addr) (c0:Nat) (l0:List Int) (r:List Int) (w:World) (hr0:Kd.C (Kd.int .i64) w A0 l0.length l0) (hc0:l0.length≤c0) (h:r6_numbered.f k l0=some r) :
  Calls Tra.prog 55 #[.slice A0 l0.length c0] w fun e w'=>∃ v0_:Value,e=.returned (v0_)∧Kd.R (Kd.int .i64) 3 w' w.heap.size (fun _=>True) v0_ r∧Below w.heap.size w w':=by
 have HR0:=As0.mk hr0;have HC0:=As0.mk hc0;clear hr0 hc0;have HB:=As0.mk (Below.refl w.heap.size w);have H:(r6_numbered.l0 k l0 ([]:List Int) 0 0)=some r:=h;clear h;have H':=As0.mk H;clear H;go_enter Tra.func55,Tra.ntmps55
 go_wp2
 repeat (go_quiet (fail);try go_wp2)
 go_loopg [3,4,5] k (fun kq v3 v4 v5 w'=>∃ (x3_1:List Int) (x4_1:Int) (x5_1:Int),v4=.int .i64 x4_1∧v5=.int .i64 x5_1∧As0 (r6_numbered.l0 kq l0 x3_1 x4_1 x5_1=some r)∧As0 (kq≤k)∧As0 (Kd.R (Kd.int .i64) 3 w' w.heap.size (fun _=>True) v3 x3_1)∧As0 (Below w.heap.size w w'))
 case atStart=>exact ⟨(([]:List Int)),(0),(0),(by rfl),(by rfl),H',⟨zLe _⟩,⟨by exact Kd.R_nil _ _ _ _ _⟩,⟨by repeat (with_reducible exact HB.out)⟩⟩
 case round =>
  clear H';obtain ⟨x3_1,x4_1,x5_1,rfl,rfl,HA,HK1,HO_3,HB⟩:=hrel;cases gk with
  |zero=>exact absurd HA.out (by simp [r6_numbered.l0])
  |succ k1 =>
   have H:=HA.out;clear HA;simp only [r6_numbered.l0] at H
   by_cases c2:x5_1<(l0.length:Int)
   ·rw [if_pos c2] at H
    have c2b0:decide (x5_1<(l0.length:Int))=true:=zDt c2;clear c2;have H':=As0.mk H;clear H;go_wp2
    repeat (go_quiet (fail);try go_wp2)
    go_loopg [6,7] k1 (fun kq v6 v7 w'=>∃ (x6_2:Int) (x7_2:Int),v6=.int .i64 x6_2∧v7=.int .i64 x7_2∧As0 (r6_numbered.l1 kq l0 x3_1 x4_1 x5_1 x6_2 x7_2=some r)∧As0 (kq≤k1)∧As0 (Kd.R (Kd.int .i64) 3 w' w.heap.size (fun _=>True) u3 x3_1)∧As0 (Below w.heap.size w w'))
    case atStart=>exact ⟨((-1)),(0),(by rfl),(by rfl),H',⟨zLe _⟩,⟨by (with_reducible repeat (first|apply Kd.R_alloc|apply Kd.R_drewN|apply Kd.R_drew));exact HO_3.out⟩,⟨by repeat (with_reducible exact HB.out)⟩⟩
    case round =>
     clear H'
     try clear c2
     try clear c2b0
     try clear p2
     obtain ⟨x6_2,x7_2,rfl,rfl,HA,HK2,HO_3,HB⟩:=hrel;cases gk with
     |zero=>exact absurd HA.out (by simp [r6_numbered.l1])
     |succ k2 =>
      have H:=HA.out;clear HA;simp only [r6_numbered.l1] at H;have HC3:=As0.mk H;clear H;go_upto_region 8 with (fail)
      repeat (go_quiet (fail);go_upto_region 8 with (fail))
      go_cut [20] (fun v20 wc=>∃ (kq:Nat) (x20_2:Bool),v20=.bool x20_2∧As0 (r6_numbered.j2 kq l0 x3_1 x4_1 x5_1 x6_2 x7_2 x20_2=some r)∧As0 (kq≤k2)∧As0 (Kd.R (Kd.int .i64) 3 wc w.heap.size (fun _=>True) u3 x3_1)∧As0 (Below w.heap.size w wc))
      case first =>
       have H:=HC3.out;clear HC3
       by_cases c4:x7_2<x5_1
       ·rw [if_pos c4] at H
        have c4b0:decide (x7_2<x5_1)=true:=zDt c4;clear c4
        (skip)
        have H':=As0.mk H;clear H;go_wp2
        repeat (go_quiet (fail);try go_wp2)
        go_meet
        case rel=>exact ⟨_,(decide (x6_2<0)),(by rfl),H',⟨by have:=HK1.out;have:=HK2.out;omega⟩,⟨by (with_reducible repeat (first|apply Kd.R_alloc|apply Kd.R_drewN|apply Kd.R_drew));exact HO_3.out⟩,⟨by repeat (with_reducible exact HB.out)⟩⟩
       ·rw [if_neg c4] at H
        have c4b0:decide (x7_2<x5_1)=false:=zDf c4;clear c4
        (skip)
        have H':=As0.mk H;clear H;go_wp2
        repeat (go_quiet (fail);try go_wp2)
        go_meet
        case rel=>exact ⟨_,(false),(by rfl),H',⟨by have:=HK1.out;have:=HK2.out;omega⟩,⟨by (with_reducible repeat (first|apply Kd.R_alloc|apply Kd.R_drewN|apply Kd.R_drew));exact HO_3.out⟩,⟨by repeat (with_reducible exact HB.out)⟩⟩
      case rest =>
       clear HC3
       try clear c2
       try clear c2b0
       try clear p2
       try clear c4
       try clear c4b0
       try clear p2
       obtain ⟨kq,x20_2,rfl,HA,HJ2,HO_3,HB⟩:=hcut;cases kq with
       |zero=>exact absurd HA.out (by simp [r6_numbered.j2])
       |succ kj2 =>
        have H:=HA.out;clear HA;simp only [r6_numbered.j2] at H
        by_cases c5:x20_2=true
        ·subst c5
         have H1:(if 0≤x7_2 then (if x7_2<(l0.length:Int) then (if 0≤x5_1 then (if x5_1<(l0.length:Int) then (if (rd l0 x7_2)=(rd l0 x5_1) then (if x7_2<(x3_1.length:Int) then (r6_numbered.l1 kj2 l0 x3_1 x4_1 x5_1 (rd x3_1 x7_2) (wrap64 (x7_2+1))) else (none)) else (r6_numbered.l1 kj2 l0 x3_1 x4_1 x5_1 x6_2 (wrap64 (x7_2+1)))) else (none)) else (none)) else (none)) else (none))=some r:=by rw [if_pos rfl] at H;exact H
         clear H;have H:=H1;clear H1
         by_cases c6:0≤x7_2
         ·rw [if_pos c6] at H
          have c6b0:decide (0≤x7_2)=true:=zDt c6;clear c6
          by_cases c7:x7_2<(l0.length:Int)
          ·rw [if_pos c7] at H
           have c7b0:decide (x7_2<(l0.length:Int))=true:=zDt c7;clear c7
           by_cases c8:0≤x5_1
           ·rw [if_pos c8] at H
            have c8b0:decide (0≤x5_1)=true:=zDt c8;clear c8
            by_cases c9:x5_1<(l0.length:Int)
            ·rw [if_pos c9] at H
             have c9b0:decide (x5_1<(l0.length:Int))=true:=zDt c9;clear c9
             by_cases c10:(rd l0 x7_2)=(rd l0 x5_1)
             ·rw [if_pos c10] at H
              have c10b0:((rd l0 x7_2) == (rd l0 x5_1))=true:=beq_iff_eq.mpr c10;have c10b1:((rd l0 x7_2) != (rd l0 x5_1))=false:=bne_eq_false_iff_eq.mpr c10;clear c10
              by_cases c11:x7_2<(x3_1.length:Int)
              ·rw [if_pos c11] at H
               have c11b0:decide (x7_2<(x3_1.length:Int))=true:=zDt c11;clear c11;have H':=As0.mk H;clear H;have p233:0≤(x7_2:Int):=zDo (by with_reducible assumption);have q233:x7_2<(l0.length:Int):=zDo (by with_reducible assumption);obtain ⟨ad233,e233,hx233_0⟩:=Kd.at_int HR0.out x7_2 p233 q233;cases e233
               replace hx233_0:=(HB.out.cell (World.block_lt_of_cell? w _ hx233_0)).trans hx233_0;replace p233:=eq_true p233;replace q233:=eq_true q233;have p234:0≤(x5_1:Int):=zDo (by with_reducible assumption);have q234:x5_1<(l0.length:Int):=zDo (by with_reducible assumption);obtain ⟨ad234,e234,hx234_0⟩:=Kd.at_int HR0.out x5_1 p234 q234;obtain rfl:ad233=ad234:=(by injection e234)
               replace hx234_0:=(HB.out.cell (World.block_lt_of_cell? w _ hx234_0)).trans hx234_0;replace p234:=eq_true p234;replace q234:=eq_true q234;obtain ⟨Ao12,co12,eo12⟩:=Kd.R_slice HO_3.out;subst eo12;have p235:0≤(x7_2:Int):=zDo (by with_reducible assumption);have q235:x7_2<(x3_1.length:Int):=zDo (by with_reducible assumption);obtain ⟨ad235,e235,hx235_0⟩:=Kd.at_int (Kd.R_reads' HO_3.out).2.2 x7_2 p235 q235;cases e235
               replace p235:=eq_true p235;replace q235:=eq_true q235;go_wp2
               repeat (go_quiet (fail);try go_wp2)
               go_roundg kj2
               case measure=>have:=HK1.out;have:=HK2.out;have:=HJ2.out;omega
               case rel=>exact ⟨(rd x3_1 x7_2),(wrap64 (x7_2+1)),(by rfl),(by rfl),H',⟨by have:=HK1.out;have:=HK2.out;have:=HJ2.out;omega⟩,⟨by (with_reducible repeat (apply Kd.R_drewN));exact HO_3.out⟩,⟨by repeat (with_reducible first|exact HB.out|apply y00)⟩⟩
              ·rw [if_neg c11] at H
               exact absurd H (by simp)
             ·rw [if_neg c10] at H
              have c10b0:((rd l0 x7_2) == (rd l0 x5_1))=false:=beq_eq_false_iff_ne.mpr c10;have c10b1:((rd l0 x7_2) != (rd l0 x5_1))=true:=bne_iff_ne.mpr c10;have H':=As0.mk H;clear H;have p233:0≤(x7_2:Int):=zDo (by with_reducible assumption);have q233:x7_2<(l0.length:Int):=zDo (by with_reducible assumption);obtain ⟨ad233,e233,hx233_0⟩:=Kd.at_int HR0.out x7_2 p233 q233;cases e233
              replace hx233_0:=(HB.out.cell (World.block_lt_of_cell? w _ hx233_0)).trans hx233_0;replace p233:=eq_true p233;replace q233:=eq_true q233;have p234:0≤(x5_1:Int):=zDo (by with_reducible assumption);have q234:x5_1<(l0.length:Int):=zDo (by with_reducible assumption);obtain ⟨ad234,e234,hx234_0⟩:=Kd.at_int HR0.out x5_1 p234 q234;obtain rfl:ad233=ad234:=(by injection e234)
              replace hx234_0:=(HB.out.cell (World.block_lt_of_cell? w _ hx234_0)).trans hx234_0;replace p234:=eq_true p234;replace q234:=eq_true q234;go_wp2
              repeat (go_quiet (fail);try go_wp2)
              go_roundg kj2
              case measure=>have:=HK1.out;have:=HK2.out;have:=HJ2.out;omega
              case rel=>exact ⟨(x6_2),(wrap64 (x7_2+1)),(by rfl),(by rfl),H',⟨by have:=HK1.out;have:=HK2.out;have:=HJ2.out;omega⟩,⟨by (with_reducible repeat (apply Kd.R_drewN));exact HO_3.out⟩,⟨by repeat (with_reducible first|exact HB.out|apply y00)⟩⟩
            ·rw [if_neg c9] at H
             exact absurd H (by simp)
           ·rw [if_neg c8] at H
            exact absurd H (by simp)
          ·rw [if_neg c7] at H
           exact absurd H (by simp)
         ·rw [if_neg c6] at H
          exact absurd H (by simp)
        ·replace c5:=Bool.eq_false_iff.mpr c5
         subst c5;have H1:(if x6_2<0 then (if x3_1.length<17592186044416 then (r6_numbered.l0 kj2 l0 (x3_1 ++ [x4_1]) (wrap64 (x4_1+1)) (wrap64 (x5_1+1))) else (none)) else (if x3_1.length<17592186044416 then (r6_numbered.l0 kj2 l0 (x3_1 ++ [x6_2]) x4_1 (wrap64 (x5_1+1))) else (none)))=some r:=by rw [if_neg (show ¬ (false=true) by decide)] at H;exact H
         clear H;have H:=H1;clear H1
         by_cases c13:x6_2<0
         ·rw [if_pos c13] at H
          have c13b0:decide (x6_2<0)=true:=zDt c13;clear c13
          by_cases c14:x3_1.length<17592186044416
          ·rw [if_pos c14] at H
           have LMc14:=As0.mk c14;clear c14;obtain ⟨y236,hy236⟩:∃ y_:List Int,y_=(x3_1 ++ [x4_1]):=⟨_,rfl⟩
           replace H:(r6_numbered.l0 kj2 l0 y236 (wrap64 (x4_1+1)) (wrap64 (x5_1+1)))=some r:=by (rw [hy236];with_reducible exact H)
           have Ny236:=As0.mk hy236;clear hy236;have H':=As0.mk H;clear H;go_wp2_with (((with_reducible refine y0n (b:=.append) (xs:=#[.tmp 41,.tmp 43]) rfl ?_);at_builtin;refine Kd.R_append (Kd.int .i64) (w0:=w) w.heap.size rfl (.tmp 41) (.tmp 43) 29 3 (.int .i64 0) 8 rfl Tra.underlying29 info3 rfl (by decide) (by omega) u3 x3_1 x4_1 [.int .i64 x4_1] (fun _=>True) (fun _=>False) rfl rfl ?aP (fun _ hk=>hk.elim) ?aF ?aO ?aB ?aS ?aL ?_;(case aP=>exact rfl);(case aB=>exact (by repeat (with_reducible exact HB.out)));(case aF=>exact (fun _ _=>trivial));(case aO=>exact (by (with_reducible repeat (first|apply Kd.R_alloc|apply Kd.R_drewN|apply Kd.R_drew));exact HO_3.out));(case aS=>exact (y03 (by repeat (with_reducible exact HB.out))));(case aL=>have:=LMc14.out;omega);intro v237 w15 ho hb hg hat;rw [← Ny236.out] at ho;have n0_:=As0.mk (hb);have n1_:=As0.mk (ho);clear HB;clear HO_3;have HB:=n0_;have HO238:=n1_;clear n0_ n1_;clear ho hb hg hat))
           repeat (go_quiet (first|((with_reducible refine y0n (b:=.append) (xs:=#[.tmp 41,.tmp 43]) rfl ?_);at_builtin;refine Kd.R_append (Kd.int .i64) (w0:=w) w.heap.size rfl (.tmp 41) (.tmp 43) 29 3 (.int .i64 0) 8 rfl Tra.underlying29 info3 rfl (by decide) (by omega) u3 x3_1 x4_1 [.int .i64 x4_1] (fun _=>True) (fun _=>False) rfl rfl ?aP (fun _ hk=>hk.elim) ?aF ?aO ?aB ?aS ?aL ?_;(case aP=>exact rfl);(case aB=>exact (by repeat (with_reducible first|exact HB.out|apply y02|apply y00|apply y01)));(case aF=>exact (fun _ _=>trivial));(case aO=>exact (by (with_reducible repeat (first|apply Kd.R_alloc|apply Kd.R_drewN|apply Kd.R_drew));exact HO_3.out));(case aS=>exact (y03 (by repeat (with_reducible first|exact HB.out|apply y02|apply y00|apply y01))));(case aL=>have:=LMc14.out;omega);intro v237 w15 ho hb hg hat;rw [← Ny236.out] at ho;have n0_:=As0.mk (hb);have n1_:=As0.mk (ho);clear HB;clear HO_3;have HB:=n0_;have HO238:=n1_;clear n0_ n1_;clear ho hb hg hat));try go_wp2_with (first|((with_reducible refine y0n (b:=.append) (xs:=#[.tmp 41,.tmp 43]) rfl ?_);at_builtin;refine Kd.R_append (Kd.int .i64) (w0:=w) w.heap.size rfl (.tmp 41) (.tmp 43) 29 3 (.int .i64 0) 8 rfl Tra.underlying29 info3 rfl (by decide) (by omega) u3 x3_1 x4_1 [.int .i64 x4_1] (fun _=>True) (fun _=>False) rfl rfl ?aP (fun _ hk=>hk.elim) ?aF ?aO ?aB ?aS ?aL ?_;(case aP=>exact rfl);(case aB=>exact (by repeat (with_reducible first|exact HB.out|apply y02|apply y00|apply y01)));(case aF=>exact (fun _ _=>trivial));(case aO=>exact (by (with_reducible repeat (first|apply Kd.R_alloc|apply Kd.R_drewN|apply Kd.R_drew));exact HO_3.out));(case aS=>exact (y03 (by repeat (with_reducible first|exact HB.out|apply y02|apply y00|apply y01))));(case aL=>have:=LMc14.out;omega);intro v237 w15 ho hb hg hat;rw [← Ny236.out] at ho;have n0_:=As0.mk (hb);have n1_:=As0.mk (ho);clear HB;clear HO_3;have HB:=n0_;have HO238:=n1_;clear n0_ n1_;clear ho hb hg hat)))
           go_roundg kj2
           case measure=>have:=HK1.out;have:=HK2.out;have:=HJ2.out;omega
           case rel=>exact ⟨(y236),(wrap64 (x4_1+1)),(wrap64 (x5_1+1)),(by rfl),(by rfl),H',⟨by have:=HK1.out;have:=HK2.out;have:=HJ2.out;omega⟩,⟨by (with_reducible repeat (first|apply Kd.R_alloc|apply Kd.R_drewN|apply Kd.R_drew));exact HO238.out⟩,⟨by repeat (with_reducible exact HB.out)⟩⟩
          ·rw [if_neg c14] at H
           exact absurd H (by simp)
         ·rw [if_neg c13] at H
          have c13b0:decide (x6_2<0)=false:=zDf c13;clear c13
          by_cases c16:x3_1.length<17592186044416
          ·rw [if_pos c16] at H
           have LMc16:=As0.mk c16;clear c16;obtain ⟨y239,hy239⟩:∃ y_:List Int,y_=(x3_1 ++ [x6_2]):=⟨_,rfl⟩
           replace H:(r6_numbered.l0 kj2 l0 y239 x4_1 (wrap64 (x5_1+1)))=some r:=by (rw [hy239];with_reducible exact H)
           have Ny239:=As0.mk hy239;clear hy239;have H':=As0.mk H;clear H;go_wp2_with (((with_reducible refine y0n (b:=.append) (xs:=#[.tmp 41,.tmp 43]) rfl ?_);at_builtin;refine Kd.R_append (Kd.int .i64) (w0:=w) w.heap.size rfl (.tmp 41) (.tmp 43) 29 3 (.int .i64 0) 8 rfl Tra.underlying29 info3 rfl (by decide) (by omega) u3 x3_1 x6_2 [.int .i64 x6_2] (fun _=>True) (fun _=>False) rfl rfl ?aP (fun _ hk=>hk.elim) ?aF ?aO ?aB ?aS ?aL ?_;(case aP=>exact rfl);(case aB=>exact (by repeat (with_reducible exact HB.out)));(case aF=>exact (fun _ _=>trivial));(case aO=>exact (by (with_reducible repeat (first|apply Kd.R_alloc|apply Kd.R_drewN|apply Kd.R_drew));exact HO_3.out));(case aS=>exact (y03 (by repeat (with_reducible exact HB.out))));(case aL=>have:=LMc16.out;omega);intro v240 w17 ho hb hg hat;rw [← Ny239.out] at ho;have n0_:=As0.mk (hb);have n1_:=As0.mk (ho);clear HB;clear HO_3;have HB:=n0_;have HO241:=n1_;clear n0_ n1_;clear ho hb hg hat))
           repeat (go_quiet (first|((with_reducible refine y0n (b:=.append) (xs:=#[.tmp 41,.tmp 43]) rfl ?_);at_builtin;refine Kd.R_append (Kd.int .i64) (w0:=w) w.heap.size rfl (.tmp 41) (.tmp 43) 29 3 (.int .i64 0) 8 rfl Tra.underlying29 info3 rfl (by decide) (by omega) u3 x3_1 x6_2 [.int .i64 x6_2] (fun _=>True) (fun _=>False) rfl rfl ?aP (fun _ hk=>hk.elim) ?aF ?aO ?aB ?aS ?aL ?_;(case aP=>exact rfl);(case aB=>exact (by repeat (with_reducible first|exact HB.out|apply y02|apply y00|apply y01)));(case aF=>exact (fun _ _=>trivial));(case aO=>exact (by (with_reducible repeat (first|apply Kd.R_alloc|apply Kd.R_drewN|apply Kd.R_drew));exact HO_3.out));(case aS=>exact (y03 (by repeat (with_reducible first|exact HB.out|apply y02|apply y00|apply y01))));(case aL=>have:=LMc16.out;omega);intro v240 w17 ho hb hg hat;rw [← Ny239.out] at ho;have n0_:=As0.mk (hb);have n1_:=As0.mk (ho);clear HB;clear HO_3;have HB:=n0_;have HO241:=n1_;clear n0_ n1_;clear ho hb hg hat));try go_wp2_with (first|((with_reducible refine y0n (b:=.append) (xs:=#[.tmp 41,.tmp 43]) rfl ?_);at_builtin;refine Kd.R_append (Kd.int .i64) (w0:=w) w.heap.size rfl (.tmp 41) (.tmp 43) 29 3 (.int .i64 0) 8 rfl Tra.underlying29 info3 rfl (by decide) (by omega) u3 x3_1 x6_2 [.int .i64 x6_2] (fun _=>True) (fun _=>False) rfl rfl ?aP (fun _ hk=>hk.elim) ?aF ?aO ?aB ?aS ?aL ?_;(case aP=>exact rfl);(case aB=>exact (by repeat (with_reducible first|exact HB.out|apply y02|apply y00|apply y01)));(case aF=>exact (fun _ _=>trivial));(case aO=>exact (by (with_reducible repeat (first|apply Kd.R_alloc|apply Kd.R_drewN|apply Kd.R_drew));exact HO_3.out));(case aS=>exact (y03 (by repeat (with_reducible first|exact HB.out|apply y02|apply y00|apply y01))));(case aL=>have:=LMc16.out;omega);intro v240 w17 ho hb hg hat;rw [← Ny239.out] at ho;have n0_:=As0.mk (hb);have n1_:=As0.mk (ho);clear HB;clear HO_3;have HB:=n0_;have HO241:=n1_;clear n0_ n1_;clear ho hb hg hat)))
           go_roundg kj2
           case measure=>have:=HK1.out;have:=HK2.out;have:=HJ2.out;omega
           case rel=>exact ⟨(y239),(x4_1),(wrap64 (x5_1+1)),(by rfl),(by rfl),H',⟨by have:=HK1.out;have:=HK2.out;have:=HJ2.out;omega⟩,⟨by (with_reducible repeat (first|apply Kd.R_alloc|apply Kd.R_drewN|apply Kd.R_drew));exact HO241.out⟩,⟨by repeat (with_reducible exact HB.out)⟩⟩
          ·rw [if_neg c16] at H
           exact absurd H (by simp)
   ·rw [if_neg c2] at H
    have c2b0:decide (x5_1<(l0.length:Int))=false:=zDf c2;clear c2;obtain rfl:=zSi H;go_wp2
    repeat (go_quiet (fail);try go_wp2)
    go_ret
    exact ⟨_,by rfl,by (with_reducible repeat (first|apply Kd.R_alloc|apply Kd.R_drewN|apply Kd.R_drew));exact HO_3.out,by repeat (with_reducible exact HB.out)⟩
end Go.Proofs.Ytdhgeondbnpeoaa.P
