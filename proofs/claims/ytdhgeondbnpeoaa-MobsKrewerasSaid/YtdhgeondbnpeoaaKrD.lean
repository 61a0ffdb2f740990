/- The theorem of MobsKreweras, proved; part 4 of 6: its texts, merged. -/
import Derived.Test.YtdhgeondbnpeoaaKrC
set_option linter.unnecessarySimpa false
set_option linter.defProp false
set_option linter.unusedVariables false
set_option linter.unusedSimpArgs false
set_option maxRecDepth 100000
set_option maxHeartbeats 8000000
namespace Go.Proofs.Ytdhgeondbnpeoaa.P
open Go.RowKit Go.Proofs.Yw.Wd Go.Proofs.Yw.La Go.Proofs.Yw.Mo
section
attribute [local go_sem] y13 y11 y1c y1b y0v y0u y12 y10
def errW:Option Int->Value
 |none=>.nilIface
 |some c=>.iface 0 (.int .i64 c)
theorem y08:errW none=.nilIface:=rfl
theorem y07 (c:Int):errW (some c)=.iface 0 (.int .i64 c):=rfl
theorem info3:(Tra.prog.info? 3).map (fun i=>(i.zero,i.size,i.bytes))=some (some (.int .i64 0),1,8):=by kernel_rfl
theorem info89:(Tra.prog.info? 89).map (fun i=>(i.zero,i.size,i.bytes))=some (some (.agg #[(.int .i64 0),(.int .i64 0)]),2,16):=by kernel_rfl
def y1h (xs:List (List Int)) (i:Int):(List Int):=xs.getD i.toNat ([]:List Int)
theorem yad {w:World} {A:Option Addr} {n:Nat} {xs:List (List Int)} (h:Kd.C (Kd.slice 3 (Kd.int .i64)) w A n xs) (i:Int) (h0:0≤i) (h1:i<n):∃ ad A0 c0,A=some ad∧w.cell? (ad.add i.toNat)=some (.slice A0 (y1h xs i).length c0)∧(y1h xs i).length≤c0∧(Kd.int .i64).C w A0 (y1h xs i).length (y1h xs i):=by
 obtain ⟨ad,c,e,_,hK,hc0⟩:=Kd.C_get h ([]:List Int) i h0 h1;have hc:∀ j u,c[j]?=some u->w.cell? (ad.add (i.toNat * 1+j))=some u:=hc0;obtain ⟨A0,c0,rfl,l0,g0⟩:=hK;exact ⟨ad,A0,c0,e,by have hq:=hc 0 _ rfl;rwa [Nat.mul_one,Nat.add_zero] at hq,l0,g0⟩
structure S89 where
 f0:Int
 f1:Int
def k89:Kd S89:=Kd.iso (Kd.pair (Kd.int .i64) (Kd.int .i64)) (fun x:S89=>(x.f0,x.f1))
theorem yj5 {w:World} {x:S89} {cs:List Value} (h:k89.K w x cs):cs=[.int .i64 x.f0,.int .i64 x.f1]:=by
 obtain ⟨_,_,rfl,rfl,rfl⟩:=h;exact rfl
theorem k89_mkM (w:World) (base:Nat) (ok:Nat->Prop) (x:S89)  : k89.M w base ok x [.int .i64 x.f0,.int .i64 x.f1]:=⟨[.int .i64 x.f0],[.int .i64 x.f1],rfl,rfl,rfl⟩
end
section
attribute [local go_sem] y13 y11 y1c y1b y0v y0u y12 y10
def mobs_counted.f (a0:Int) (a1:Int):Option (Int):=if a0<0 then (some 2) else (if a0 > 12 then (some 2) else (if a1<0 then (some 2) else (if a1 > a0 then (some 2) else (some 0))))
theorem mobs_counted.calls (a0:Int) (a1:Int) (r:Int) (w:World) (h:mobs_counted.f a0 a1=some r) :
  Calls Tra.prog 45 #[.int .i64 a0,.int .i64 a1] w fun e w'=>e=.returned (.int .i64 r)∧Drawn0 w w':=by
 have H:(if a0<0 then (some 2) else (if a0 > 12 then (some 2) else (if a1<0 then (some 2) else (if a1 > a0 then (some 2) else (some 0)))))=some r:=h;clear h
 by_cases c3:a0<0
 ·rw [if_pos c3] at H
  have c3b0:decide (a0<0)=true:=zDt c3;clear c3;obtain rfl:=zSi H;go_enter Tra.func45,Tra.ntmps45
  go_wp2
  go_ret
  exact ⟨by first|rfl|(simp;done)|(simp [*];done),by repeat (first|exact Drawn0.refl _|apply Drawn0.step)⟩
 ·rw [if_neg c3] at H
  have c3b0:decide (a0<0)=false:=zDf c3;clear c3
  by_cases c4:a0 > 12
  ·rw [if_pos c4] at H
   have c4b0:decide (12<a0)=true:=zDt c4;clear c4;obtain rfl:=zSi H;go_enter Tra.func45,Tra.ntmps45
   go_wp2
   go_ret
   exact ⟨by first|rfl|(simp;done)|(simp [*];done),by repeat (first|exact Drawn0.refl _|apply Drawn0.step)⟩
  ·rw [if_neg c4] at H
   have c4b0:decide (12<a0)=false:=zDf c4;clear c4
   by_cases c5:a1<0
   ·rw [if_pos c5] at H
    have c5b0:decide (a1<0)=true:=zDt c5;clear c5;obtain rfl:=zSi H;go_enter Tra.func45,Tra.ntmps45
    go_wp2
    go_ret
    exact ⟨by first|rfl|(simp;done)|(simp [*];done),by repeat (first|exact Drawn0.refl _|apply Drawn0.step)⟩
   ·rw [if_neg c5] at H
    have c5b0:decide (a1<0)=false:=zDf c5;clear c5
    by_cases c6:a1 > a0
    ·rw [if_pos c6] at H
     have c6b0:decide (a0<a1)=true:=zDt c6;clear c6;obtain rfl:=zSi H;go_enter Tra.func45,Tra.ntmps45
     go_wp2
     go_ret
     exact ⟨by first|rfl|(simp;done)|(simp [*];done),by repeat (first|exact Drawn0.refl _|apply Drawn0.step)⟩
    ·rw [if_neg c6] at H
     have c6b0:decide (a0<a1)=false:=zDf c6;clear c6;obtain rfl:=zSi H;go_enter Tra.func45,Tra.ntmps45
     go_wp2
     go_ret
     exact ⟨by first|rfl|(simp;done)|(simp [*];done),by repeat (first|exact Drawn0.refl _|apply Drawn0.step)⟩
mutual
def mobs_Count.l0:Nat->Int->List Int->Int->Int->Option (Int × Int)
 |0,_,_,_,_=>none
 |k+1,x1,x7,x19,x20=>if x20<x19 then (if 0≤(wrap64 (x20+2)) then (if (wrap64 (x20+2):Int).toNat≤35184372088832 then (mobs_Count.l1 k x1 (List.replicate (wrap64 (x20+2):Int).toNat 0) x19 x20 x7 (x7.length:Int) 0) else (none)) else (none)) else (if 0≤x1 then (if x1<(x7.length:Int) then (some (rd x7 x1,0)) else (none)) else (none))
def mobs_Count.l1:Nat->Int->List Int->Int->Int->List Int->Int->Int->Option (Int × Int)
 |0,_,_,_,_,_,_,_=>none
 |k+1,x1,x9,x19,x20,x26,x27,x28=>if x28<x27 then (if 0≤x28 then (if x28<(x26.length:Int) then (if x28<(x9.length:Int) then ((some (x9.set (x28:Int).toNat (wrap64 ((rd x9 x28)+(wrap64 (x28 * (rd x26 x28))))):List Int)).bind fun y111=>(if 0≤(wrap64 (x28+1)) then (if (wrap64 (x28+1))<(x9.length:Int) then (mobs_Count.l1 k x1 (y111.set ((wrap64 (x28+1)):Int).toNat (wrap64 ((rd y111 (wrap64 (x28+1)))+(rd x26 x28)))) x19 x20 x26 x27 (wrap64 (x28+1))) else (none)) else (none))) else (none)) else (none)) else (none)) else (mobs_Count.l0 k x1 x9 x19 (wrap64 (x20+1)))
end
def mobs_Count.f (k:Nat) (a0:Int) (a1:Int):Option (Int × Int):=(mobs_counted.f a0 a1).bind fun t101=>(if t101=0 then (mobs_Count.l0 k a1 (([1]:List Int)) a0 0) else (some (0,t101)))
theorem mobs_Count.calls (k:Nat) (a0:Int) (a1:Int) (r1:Int) (r2:Int) (w:World) (h:mobs_Count.f k a0 a1=some (r1,r2)) :
  Calls Tra.prog 16 #[.int .i64 a0,.int .i64 a1] w fun e w'=>e=.returned (.tuple #[.int .i64 r1,.int .i64 r2])∧Below w.heap.size w w':=by
 have HB:=As0.mk (Below.refl w.heap.size w);have H:((mobs_counted.f a0 a1).bind fun t101=>(if t101=0 then (mobs_Count.l0 k a1 (([1]:List Int)) a0 0) else (some (0,t101))))=some (r1,r2):=h;clear h;replace H:=Option.bind_eq_some_iff.mp H;obtain ⟨t101,A30,H⟩:=H;replace H:(if t101=0 then (mobs_Count.l0 k a1 (([1]:List Int)) a0 0) else (some (0,t101)))=some (r1,r2):=H;have A3:=As0.mk A30;clear A30
 by_cases c4:t101=0
 ·rw [if_pos c4] at H
  have c4b0:(t101 == 0)=true:=beq_iff_eq.mpr c4;have c4b1:(t101 != 0)=false:=bne_eq_false_iff_eq.mpr c4;clear c4;obtain ⟨y102,hy102⟩:∃ y_:List Int,y_=(([1]:List Int)):=⟨_,rfl⟩
  replace H:(mobs_Count.l0 k a1 y102 a0 0)=some (r1,r2):=by first|(rw [hy102];with_reducible exact H)|(have H2_:=(Option.bind_some _ _).symm.trans H;rw [hy102];with_reducible exact H2_)|(have H2_:=(Option.bind_some _ _).symm.trans H;with_reducible exact H2_)|with_reducible exact H|(rw [hy102];exact H)|exact H
  have Ny102:=As0.mk hy102;clear hy102;have H':=As0.mk H;clear H;go_enter Tra.func16,Tra.ntmps16
  go_wp2_with (first|((with_reducible refine y0a (f:=45) rfl ?_);refine y0k (some 14) rfl rfl Tra.func45 (by kernel_rfl) rfl #[.int .i64 a0,.int .i64 a1] rfl (by (try simp only [List.map_toArray,List.map_cons,List.map_nil]);first|done|rfl|(simp only [List.length_drop,List.length_take];rfl)) ?_;(with_reducible refine (mobs_counted.calls a0 a1 t101 _ A3.out).mono ?_);rintro e w' ⟨rfl,⟨nd,rfl⟩⟩;refine ⟨_,rfl,?_⟩)|((with_reducible refine y0n (N:=18) rfl ?_);refine Kd.R_lit (Kd.int .i64) _ 3 ?hg (N:=18) ?hd (xs:=([1]:List Int)) (inner:=[.int .i64 1]) (ok:=fun _=>True) (okp:=fun _=>True) ?hr ?hp (fun _ hk=>hk) trivial (Below.refl _ _) (zLe _) (by simp) ?_;(case hd=>rfl);(case hg=>rfl);(case hr=>first|(go_simp;done)|(go_simp;rfl));(case hp=>exact (Reps.one (show Kd.M (Kd.int .i64) _ _ _ 1 [.int .i64 1] from rfl) (Reps.none _ _)));intro v103 w5 ho6 hb hg_ hnew_;clear hg_ hnew_;(first|rw [← Ny102.out] at ho6|(simp only [Int.reduceToNat] at ho6;rw [← Ny102.out] at ho6));have n0_:=As0.mk (Kd.R_lower ho6 (y06 (by repeat (with_reducible first|exact HB.out|apply y01|apply y00|apply y02))));have n1_:=As0.mk (y04 (by repeat (with_reducible first|exact HB.out|apply y01|apply y00|apply y02)) hb);clear HB;have HO104:=n0_;have HB:=n1_;clear n0_ n1_;clear hb ho6))
  go_loopg [7,20] k (fun kq v7 v20 w'=>∃ (x7_1:List Int) (x20_1:Int),v20=.int .i64 x20_1∧As0 (mobs_Count.l0 kq a1 x7_1 a0 x20_1=some (r1,r2))∧As0 (kq≤k)∧As0 (Kd.R (Kd.int .i64) 3 w' w.heap.size (fun _=>True) v7 x7_1)∧As0 (Below w.heap.size w w'))
  case atStart=>exact ⟨(y102),(0),(by first|rfl|(simp;done)|(simp [*];done)),H',⟨zLe _⟩,⟨by (with_reducible repeat (first|apply Kd.R_alloc|apply Kd.R_drewN|apply Kd.R_drew));exact HO104.out⟩,⟨by repeat (with_reducible first|exact HB.out|apply y01|apply y00|apply y02)⟩⟩
  case round =>
   clear H'
   try clear c1
   try clear p2
   try clear c4
   try clear c4b0
   try clear c4b1
   obtain ⟨x7_1,x20_1,rfl,HA,HK1,HO_7,HB⟩:=hrel;cases gk with
   |zero=>exact absurd HA.out (by simp [mobs_Count.l0])
   |succ k1 =>
    have H:=HA.out;clear HA;simp only [mobs_Count.l0] at H
    by_cases c7:x20_1<a0
    ·rw [if_pos c7] at H
     have c7b0:decide (x20_1<a0)=true:=zDt c7;clear c7;obtain ⟨ji8,hji8⟩:∃ j_:Int,(wrap64 (x20_1+2))=j_:=⟨_,rfl⟩
     replace H:(if 0≤(ji8) then (if (ji8:Int).toNat≤35184372088832 then (mobs_Count.l1 k1 a1 (List.replicate (ji8:Int).toNat 0) a0 x20_1 x7_1 (x7_1.length:Int) 0) else (none)) else (none))=some (r1,r2):=by first|(rw [hji8] at H;exact H)|(simp only [hji8] at H ⊢;exact H)
     have hji8w:(IntKind.i64.wrap (x20_1+2))=ji8:=(y0p _).trans hji8
     by_cases c9:0≤(ji8)
     ·rw [if_pos c9] at H
      have c9b0:=eq_true c9;have c9b1:decide (0≤(ji8))=true:=zDt c9;clear c9
      by_cases c10:(ji8:Int).toNat≤35184372088832
      ·rw [if_pos c10] at H
       have c10b0:=eq_true c10;have c10b1:decide ((ji8:Int).toNat≤35184372088832)=true:=zDt c10;clear c10;obtain ⟨y106,hy106⟩:∃ y_:List Int,y_=(List.replicate (ji8:Int).toNat 0):=⟨_,rfl⟩
       replace H:(mobs_Count.l1 k1 a1 y106 a0 x20_1 x7_1 (x7_1.length:Int) 0)=some (r1,r2):=by first|(rw [hy106];with_reducible exact H)|(have H2_:=(Option.bind_some _ _).symm.trans H;rw [hy106];with_reducible exact H2_)|(have H2_:=(Option.bind_some _ _).symm.trans H;with_reducible exact H2_)|with_reducible exact H|(rw [hy106];exact H)|exact H
       have Ny106:=As0.mk hy106;clear hy106;have H':=As0.mk H;clear H;go_wp2_with (first|((with_reducible refine y0n (N:=25) rfl ?_);refine Kd.R_make (Kd.int .i64) _ 3 rfl (N:=25) rfl 29 _ _ rfl ji8 rfl rfl Tra.underlying29 (.int .i64 0) 8 info3 rfl (by decide) (by omega) 0 (ok:=fun _=>True) (okp:=fun _=>True) rfl (fun _ hk=>hk) trivial (zDo (by with_reducible assumption)) (Nat.le_trans (Nat.mul_le_mul_right _ (zDo (by with_reducible assumption):ji8.toNat≤35184372088832)) (by omega)) (Below.refl _ _) (zLe _) ?_;intro v107 w11 ho12 hb hg_ hnew_;clear hg_ hnew_;(first|rw [← Ny106.out] at ho12|(simp only [Int.reduceToNat] at ho12;rw [← Ny106.out] at ho12));have n0_:=As0.mk (Kd.R_elder' (by (with_reducible repeat (first|apply Kd.R_alloc|apply Kd.R_drewN|apply Kd.R_drew));exact HO_7.out) (Kd.R_base ho12) hb);have n1_:=As0.mk (Kd.R_lower (Kd.R_new' ho12 (Kd.R_lt (by (with_reducible repeat (first|apply Kd.R_alloc|apply Kd.R_drewN|apply Kd.R_drew));exact HO_7.out))) (y06 (by repeat (with_reducible first|exact HB.out|apply y01|apply y00|apply y02))));have n2_:=As0.mk (y04 (by repeat (with_reducible first|exact HB.out|apply y01|apply y00|apply y02)) hb);clear HO_7;clear HB;have HO_7:=n0_;have HO108:=n1_;have HB:=n2_;clear n0_ n1_ n2_;clear hb ho12;obtain ⟨Ao13,co13,eo13⟩:=Kd.R_slice HO_7.out;subst eo13))
       go_loopg [28] k1 (fun kq v28 w'=>∃ (x9_2:List Int) (x28_2:Int),v28=.int .i64 x28_2∧As0 (mobs_Count.l1 kq a1 x9_2 a0 x20_1 x7_1 (x7_1.length:Int) x28_2=some (r1,r2))∧As0 (kq≤k1)∧As0 (Kd.R (Kd.int .i64) 3 w' w.heap.size (fun k_=>some k_≠((.slice Ao13 x7_1.length co13):Value).ownBlock) v107 x9_2)∧As0 (Kd.R (Kd.int .i64) 3 w' w.heap.size (fun k_=>some k_≠(v107:Value).ownBlock) (.slice Ao13 x7_1.length co13) x7_1)∧As0 (Below w.heap.size w w'))
       case atStart=>exact ⟨(y106),(0),(by first|rfl|(simp;done)|(simp [*];done)),H',⟨zLe _⟩,⟨by (with_reducible repeat (first|apply Kd.R_alloc|apply Kd.R_drewN|apply Kd.R_drew));exact Kd.R_mono HO108.out (fun _ hk=>hk.2)⟩,⟨by (with_reducible repeat (first|apply Kd.R_alloc|apply Kd.R_drewN|apply Kd.R_drew));exact Kd.R_mono HO_7.out (fun _ hk=>hk.2)⟩,⟨by repeat (with_reducible first|exact HB.out|apply y01|apply y00|apply y02)⟩⟩
       case round =>
        clear H'
        try clear c1
        try clear p2
        try clear c4
        try clear c4b0
        try clear c4b1
        try clear p6
        try clear c7
        try clear c7b0
        try clear c9
        try clear c9b0
        try clear c9b1
        try clear c10
        try clear c10b0
        try clear c10b1
        try clear p2
        obtain ⟨x9_2,x28_2,rfl,HA,HK2,HO_9,HO_26,HB⟩:=hrel;cases gk with
        |zero=>exact absurd HA.out (by simp [mobs_Count.l1])
        |succ k2 =>
         have H:=HA.out;clear HA;simp only [mobs_Count.l1] at H
         by_cases c14:x28_2<(x7_1.length:Int)
         ·rw [if_pos c14] at H
          have c14b0:decide (x28_2<(x7_1.length:Int))=true:=zDt c14;clear c14
          by_cases c15:0≤x28_2
          ·rw [if_pos c15] at H
           have c15b0:decide (0≤x28_2)=true:=zDt c15;clear c15
           by_cases c16:x28_2<(x7_1.length:Int)
           ·rw [if_pos c16] at H
            have c16b0:decide (x28_2<(x7_1.length:Int))=true:=zDt c16;clear c16
            by_cases c17:x28_2<(x9_2.length:Int)
            ·rw [if_pos c17] at H
             have c17b0:decide (x28_2<(x9_2.length:Int))=true:=zDt c17;clear c17;obtain ⟨y111,hy111⟩:∃ y_:List Int,y_=(x9_2.set (x28_2:Int).toNat (wrap64 ((rd x9_2 x28_2)+(wrap64 (x28_2 * (rd x7_1 x28_2)))))):=⟨_,rfl⟩
             replace H:(if 0≤(wrap64 (x28_2+1)) then (if (wrap64 (x28_2+1))<(x9_2.length:Int) then (mobs_Count.l1 k2 a1 (y111.set ((wrap64 (x28_2+1)):Int).toNat (wrap64 ((rd y111 (wrap64 (x28_2+1)))+(rd x7_1 x28_2)))) a0 x20_1 x7_1 (x7_1.length:Int) (wrap64 (x28_2+1))) else (none)) else (none))=some (r1,r2):=by first|(rw [hy111];with_reducible exact H)|(have H2_:=(Option.bind_some _ _).symm.trans H;rw [hy111];with_reducible exact H2_)|(have H2_:=(Option.bind_some _ _).symm.trans H;with_reducible exact H2_)|with_reducible exact H|(rw [hy111];exact H)|exact H
             have Ny111:=As0.mk hy111;clear hy111;obtain ⟨ji19,hji19⟩:∃ j_:Int,(wrap64 (x28_2+1))=j_:=⟨_,rfl⟩
             replace H:(if 0≤(ji19) then (if (ji19)<(x9_2.length:Int) then (mobs_Count.l1 k2 a1 (y111.set ((ji19):Int).toNat (wrap64 ((rd y111 (ji19))+(rd x7_1 x28_2)))) a0 x20_1 x7_1 (x7_1.length:Int) ji19) else (none)) else (none))=some (r1,r2):=by first|(rw [hji19] at H;exact H)|(simp only [hji19] at H ⊢;exact H)
             have hji19w:(IntKind.i64.wrap (x28_2+1))=ji19:=(y0p _).trans hji19
             by_cases c20:0≤(ji19)
             ·rw [if_pos c20] at H
              have c20b0:decide (0≤(ji19))=true:=zDt c20;clear c20
              by_cases c21:(ji19)<(x9_2.length:Int)
              ·rw [if_pos c21] at H
               have c21b0:decide ((ji19)<(x9_2.length:Int))=true:=zDt c21;clear c21;obtain ⟨y113,hy113⟩:∃ y_:List Int,y_=(y111.set ((ji19):Int).toNat (wrap64 ((rd y111 (ji19))+(rd x7_1 x28_2)))):=⟨_,rfl⟩
               replace H:(mobs_Count.l1 k2 a1 y113 a0 x20_1 x7_1 (x7_1.length:Int) ji19)=some (r1,r2):=by first|(rw [hy113];with_reducible exact H)|(have H2_:=(Option.bind_some _ _).symm.trans H;rw [hy113];with_reducible exact H2_)|(have H2_:=(Option.bind_some _ _).symm.trans H;with_reducible exact H2_)|with_reducible exact H|(rw [hy113];exact H)|exact H
               have Ny113:=As0.mk hy113;clear hy113;have H':=As0.mk H;clear H;have p109:0≤(x28_2:Int):=zDo (by with_reducible assumption);have q109:x28_2<(x7_1.length:Int):=zDo (by with_reducible assumption);obtain ⟨ad109,e109,hx109_0⟩:=Kd.at_int (Kd.R_reads' HO_26.out).2.2 x28_2 p109 q109;cases e109
               replace p109:=eq_true p109;replace q109:=eq_true q109;obtain ⟨Ao23,co23,eo23⟩:=Kd.R_slice HO_9.out;subst eo23;have p110:0≤(x28_2:Int):=zDo (by with_reducible assumption);have q110:x28_2<(x9_2.length:Int):=zDo (by with_reducible assumption);obtain ⟨ad110,e110,hx110_0⟩:=Kd.at_int (Kd.R_reads' HO_9.out).2.2 x28_2 p110 q110;cases e110
               replace p110:=eq_true p110;replace q110:=eq_true q110;have p18:0≤(x28_2:Int):=zDo (by with_reducible assumption);have q18:(x28_2:Int)<((x9_2.length:Int):Int):=zDo (by with_reducible assumption);obtain ⟨go18,co18,eo18,gb18,gl18,cl18,HG18⟩:=Kd.R_form HO_9.out (by omega)
               (first|cases eo18|(injection eo18 with ea_ en_ ec_;(first|subst ea_|(injection ea_ with ea_;subst ea_));subst ec_;clear en_))
               have GB18:=As0.mk gb18;have GG18:=As0.mk HG18;clear gb18 gl18 HG18
               (first|simp only [y2g] at hx110_0|skip)
               obtain ⟨hx18_0,hf18_0⟩:=Kd.R_celln 0 HO_9.out (x28_2:Int) p18 q18;replace p18:=eq_true p18;replace q18:=eq_true q18;have HP24:=Kd.R_putg HO_9.out (x28_2:Int) (wrap64 ((rd x9_2 x28_2)+(wrap64 (x28_2 * (rd x7_1 x28_2)))));go_wp2_with (first|((with_reducible refine y3h (t:=3) (p:=41) rfl ?_);refine y2w (t:=3) (p:=41) (v:=?vo_w25) (w1:=(wr.setCell ⟨go18,(x28_2:Int).toNat,none⟩ (.int .i64 (wrap64 ((rd x9_2 x28_2)+(wrap64 (x28_2 * (rd x7_1 x28_2)))))))) ?hg ?ho ?hn ?hr ?_;(case ho=>rfl);(case hg=>rfl);(case hn=>rfl);(case hr=>first|(go_simp;done)|(go_simp;rfl));intro w25 hw;have hg:wr.grownBy w25 (some go18):=(by rw [hw];exact HP24.2);have hp_:Kd.R (Kd.int .i64) 3 w25 w.heap.size (fun k_=>some k_≠(.slice (some ad109) x7_1.length co13:Value).ownBlock) (.slice (some ⟨go18,0,none⟩) x9_2.length co23) y111:=(by rw [hw,Ny111.out];exact HP24.1);clear HP24;have n0_:=As0.mk (hp_);have n1_:=As0.mk (Kd.R_after (v:=(.slice (some ⟨go18,0,none⟩) x9_2.length co23)) (v1:=(.slice (some ⟨go18,0,none⟩) x9_2.length co23)) (ok:=(fun _=>True)) (by (with_reducible repeat (first|apply Kd.R_alloc|apply Kd.R_drewN|apply Kd.R_drew));exact Kd.R_mono HO_26.out (fun _ hk=>⟨trivial,hk⟩)) hg (.inl rfl));have n2_:=As0.mk ((by rw [hw];exact y03 (HB.out) GB18.out:Below w.heap.size w w25));clear HO_9;clear HO_26;clear HB;have HO_9:=n0_;have HO_26:=n1_;have HB:=n2_;clear n0_ n1_ n2_;clear hg hw hp_;have p112:0≤((ji19):Int):=zDo (by with_reducible assumption);have q112:(ji19)<(y111.length:Int):=(by have h_:((ji19):Int)<((x9_2.length:Int):Int):=zDo (by with_reducible assumption);first|(have e_:=(Kd.R_reads' HO_9.out).1;omega)|simpa only [Ny111.out,List.length_set] using h_);have ql112:(((ji19):Int)<((x9_2.length:Int):Int))=True:=eq_true (zDo (by with_reducible assumption));obtain ⟨ad112,e112,hx112_0⟩:=Kd.at_int (Kd.R_reads' HO_9.out).2.2 (ji19) p112 q112;obtain rfl:(⟨go18,0,none⟩:Addr)=ad112:=(by injection e112);(first|simp only [y2g] at hx112_0|simp only [add_at] at hx112_0|simp only [Addr.add,Nat.zero_add] at hx112_0|skip);replace p112:=eq_true p112;replace q112:=eq_true q112;have p22:0≤((ji19):Int):=zDo (by with_reducible assumption);have q22:((ji19):Int)<((x9_2.length:Int):Int):=zDo (by with_reducible assumption);obtain ⟨hx22_0,hf22_0⟩:=Kd.R_celln 0 HO_9.out ((ji19):Int) p22 q22;replace p22:=eq_true p22;replace q22:=eq_true q22;obtain ⟨hy26_,hz26_⟩:=Kd.R_celln 0 HO_9.out ((ji19):Int) (zDo (by with_reducible assumption)) (zDo (by with_reducible assumption));have HP26:=Kd.R_putg HO_9.out ((ji19):Int) (wrap64 ((rd y111 (ji19))+(rd x7_1 x28_2))))|((with_reducible refine y3h (t:=3) (p:=49) rfl ?_);refine y2w (t:=3) (p:=49) (v:=?vo_w27) (w1:=(w25.setCell ⟨go18,((ji19):Int).toNat,none⟩ (.int .i64 (wrap64 ((rd y111 (ji19))+(rd x7_1 x28_2)))))) ?hg ?ho ?hn ?hr ?_;(case ho=>rfl);(case hg=>rfl);(case hn=>rfl);(case hr=>first|(go_simp;done)|(go_simp;rfl));intro w27 hw;have hg:w25.grownBy w27 (some go18):=(by rw [hw];exact HP26.2);have hp_:Kd.R (Kd.int .i64) 3 w27 w.heap.size (fun k_=>some k_≠(.slice (some ad109) x7_1.length co13:Value).ownBlock) (.slice (some ⟨go18,0,none⟩) x9_2.length co23) y113:=(by rw [hw,Ny113.out];exact HP26.1);clear HP26;have n0_:=As0.mk (hp_);have n1_:=As0.mk (Kd.R_after (v:=(.slice (some ⟨go18,0,none⟩) x9_2.length co23)) (v1:=(.slice (some ⟨go18,0,none⟩) x9_2.length co23)) (ok:=(fun _=>True)) (by (with_reducible repeat (first|apply Kd.R_alloc|apply Kd.R_drewN|apply Kd.R_drew));exact HO_26.out) hg (.inl rfl));have n2_:=As0.mk ((by rw [hw];exact y03 (HB.out) GB18.out:Below w.heap.size w w27));clear HO_9;clear HO_26;clear HB;have HO_9:=n0_;have HO_26:=n1_;have HB:=n2_;clear n0_ n1_ n2_;clear hg hw hp_))
               go_roundg k2
               case measure=>have:=HK1.out;have:=HK2.out;omega
               case rel=>exact ⟨(y113),(ji19),(by first|rfl|(simp;done)|(simp only [← hji19]<;>(first|rfl|simp))|(simp [*];done)),H',⟨by have:=HK1.out;have:=HK2.out;omega⟩,⟨by (with_reducible repeat (first|apply Kd.R_alloc|apply Kd.R_drewN|apply Kd.R_drew));exact HO_9.out⟩,⟨by (with_reducible repeat (first|apply Kd.R_alloc|apply Kd.R_drewN|apply Kd.R_drew));exact Kd.R_mono HO_26.out (fun _ hk=>hk.2)⟩,⟨by repeat (with_reducible first|exact HB.out|apply y01|apply y00|apply y02)⟩⟩
              ·rw [if_neg c21] at H
               exact absurd H (by simp)
             ·rw [if_neg c20] at H
              exact absurd H (by simp)
            ·rw [if_neg c17] at H
             exact absurd H (by simp)
           ·rw [if_neg c16] at H
            exact absurd H (by simp)
          ·rw [if_neg c15] at H
           exact absurd H (by simp)
         ·rw [if_neg c14] at H
          have c14b0:decide (x28_2<(x7_1.length:Int))=false:=zDf c14;clear c14;have H':=As0.mk H;clear H;go_wp2
          go_roundg k2
          case measure=>have:=HK1.out;have:=HK2.out;omega
          case rel=>exact ⟨(x9_2),(wrap64 (x20_1+1)),(by first|rfl|(simp;done)|(simp [*];done)),H',⟨by have:=HK1.out;have:=HK2.out;omega⟩,⟨by (with_reducible repeat (first|apply Kd.R_alloc|apply Kd.R_drewN|apply Kd.R_drew));exact Kd.R_mono HO_9.out (fun _ hk=>trivial)⟩,⟨by repeat (with_reducible first|exact HB.out|apply y01|apply y00|apply y02)⟩⟩
      ·rw [if_neg c10] at H
       exact absurd H (by simp)
     ·rw [if_neg c9] at H
      exact absurd H (by simp)
    ·rw [if_neg c7] at H
     have c7b0:decide (x20_1<a0)=false:=zDf c7;clear c7
     by_cases c28:0≤a1
     ·rw [if_pos c28] at H
      have c28b0:decide (0≤a1)=true:=zDt c28;clear c28
      by_cases c29:a1<(x7_1.length:Int)
      ·rw [if_pos c29] at H
       have c29b0:decide (a1<(x7_1.length:Int))=true:=zDt c29;clear c29;simp only [Option.some.injEq,Prod.mk.injEq] at H;obtain ⟨rfl,rfl⟩:=H;obtain ⟨Ao30,co30,eo30⟩:=Kd.R_slice HO_7.out;subst eo30;have p105:0≤(a1:Int):=zDo (by with_reducible assumption);have q105:a1<(x7_1.length:Int):=zDo (by with_reducible assumption);obtain ⟨ad105,e105,hx105_0⟩:=Kd.at_int (Kd.R_reads' HO_7.out).2.2 a1 p105 q105;cases e105
       replace p105:=eq_true p105;replace q105:=eq_true q105;go_wp2
       go_ret2
       exact ⟨by first|rfl|(simp [y08,y07]<;>rfl)|(simp [*,y08,y07]<;>rfl),by repeat (with_reducible first|exact HB.out|apply y01|apply y00|apply y02)⟩
      ·rw [if_neg c29] at H
       exact absurd H (by simp)
     ·rw [if_neg c28] at H
      exact absurd H (by simp)
 ·rw [if_neg c4] at H
  have c4b0:(t101 == 0)=false:=beq_eq_false_iff_ne.mpr c4;have c4b1:(t101 != 0)=true:=bne_iff_ne.mpr c4;simp only [Option.some.injEq,Prod.mk.injEq] at H;obtain ⟨rfl,rfl⟩:=H;go_enter Tra.func16,Tra.ntmps16
  go_wp2_with (first|((with_reducible refine y0a (f:=45) rfl ?_);refine y0k (some 14) rfl rfl Tra.func45 (by kernel_rfl) rfl #[.int .i64 a0,.int .i64 a1] rfl (by (try simp only [List.map_toArray,List.map_cons,List.map_nil]);first|done|rfl|(simp only [List.length_drop,List.length_take];rfl)) ?_;(with_reducible refine (mobs_counted.calls a0 a1 t101 _ A3.out).mono ?_);rintro e w' ⟨rfl,⟨nd,rfl⟩⟩;refine ⟨_,rfl,?_⟩))
  go_ret2
  exact ⟨by first|rfl|(simp [y08,y07]<;>rfl)|(simp [*,y08,y07]<;>rfl),by repeat (with_reducible first|exact HB.out|apply y01|apply y00|apply y02)⟩
end
section
attribute [local go_sem] y13 y11 y1c y1b y0v y0u y12 y10
def mobs_IsParting.l0:Nat->Int->List Int->Int->Int->Option (Bool)
 |0,_,_,_,_=>none
 |k+1,x3,x9,x10,x11=>if x11<x10 then (if 0≤x11 then (if x11<(x9.length:Int) then (if (rd x9 x11)<0 then (some false) else (if (rd x9 x11) > x3 then (some false) else (mobs_IsParting.l0 k (mx x3 (wrap64 ((rd x9 x11)+1))) x9 x10 (wrap64 (x11+1))))) else (none)) else (none)) else (some true)
def mobs_IsParting.f (k:Nat) (l0:List Int):Option (Bool):=if (l0.length:Int) > 12 then (some false) else (mobs_IsParting.l0 k 0 l0 (l0.length:Int) 0)
theorem mobs_IsParting.calls (k:Nat) (A0:Option Addr) (c0:Nat) (l0:List Int) (r:Bool) (w:World) (hr0:Kd.C (Kd.int .i64) w A0 l0.length l0) (hc0:l0.length≤c0) (h:mobs_IsParting.f k l0=some r) :
  Calls Tra.prog 40 #[.slice A0 l0.length c0] w fun e w'=>e=.returned (.bool r)∧Below w.heap.size w w':=by
 have HR0:=As0.mk hr0;have HC0:=As0.mk hc0;clear hr0 hc0;have HB:=As0.mk (Below.refl w.heap.size w);have H:(if (l0.length:Int) > 12 then (some false) else (mobs_IsParting.l0 k 0 l0 (l0.length:Int) 0))=some r:=h;clear h
 by_cases c2:(l0.length:Int) > 12
 ·rw [if_pos c2] at H
  have c2b0:decide (12<(l0.length:Int))=true:=zDt c2;have c2b1:decide (12<l0.length)=true:=zDt (by omega);clear c2;obtain rfl:=zSi H;go_enter Tra.func40,Tra.ntmps40
  go_wp2
  go_ret
  exact ⟨by first|rfl|(simp [y08,y07]<;>rfl)|(simp [*,y08,y07]<;>rfl),by repeat (with_reducible first|exact HB.out|apply y01|apply y00|apply y02)⟩
 ·rw [if_neg c2] at H
  have c2b0:decide (12<(l0.length:Int))=false:=zDf c2;have c2b1:decide (12<l0.length)=false:=zDf (by omega);clear c2;have H':=As0.mk H;clear H;go_enter Tra.func40,Tra.ntmps40
  go_wp2
  go_loopg [3,11] k (fun kq v3 v11 w'=>∃ (x3_1:Int) (x11_1:Int),v3=.int .i64 x3_1∧v11=.int .i64 x11_1∧As0 (mobs_IsParting.l0 kq x3_1 l0 (l0.length:Int) x11_1=some r)∧As0 (kq≤k)∧As0 (Below w.heap.size w w'))
  case atStart=>exact ⟨(0),(0),(by first|rfl|(simp;done)|(simp [*];done)),(by first|rfl|(simp;done)|(simp [*];done)),H',⟨zLe _⟩,⟨by repeat (with_reducible first|exact HB.out|apply y01|apply y00|apply y02)⟩⟩
  case round =>
   clear H'
   try clear c2
   try clear c2b0
   try clear c2b1
   try clear p2
   obtain ⟨x3_1,x11_1,rfl,rfl,HA,HK1,HB⟩:=hrel;cases gk with
   |zero=>exact absurd HA.out (by simp [mobs_IsParting.l0])
   |succ k1 =>
    have H:=HA.out;clear HA;simp only [mobs_IsParting.l0] at H
    by_cases c3:x11_1<(l0.length:Int)
    ·rw [if_pos c3] at H
     have c3b0:decide (x11_1<(l0.length:Int))=true:=zDt c3;clear c3
     by_cases c4:0≤x11_1
     ·rw [if_pos c4] at H
      have c4b0:decide (0≤x11_1)=true:=zDt c4;clear c4
      by_cases c5:x11_1<(l0.length:Int)
      ·rw [if_pos c5] at H
       have c5b0:decide (x11_1<(l0.length:Int))=true:=zDt c5;clear c5
       by_cases c6:(rd l0 x11_1)<0
       ·rw [if_pos c6] at H
        have c6b0:decide ((rd l0 x11_1)<0)=true:=zDt c6;clear c6;obtain rfl:=zSi H;have p155:0≤(x11_1:Int):=zDo (by with_reducible assumption);have q155:x11_1<(l0.length:Int):=zDo (by with_reducible assumption);obtain ⟨ad155,e155,hx155_0⟩:=Kd.at_int HR0.out x11_1 p155 q155;cases e155
        replace hx155_0:=(HB.out.cell (World.block_lt_of_cell? w _ hx155_0)).trans hx155_0;replace p155:=eq_true p155;replace q155:=eq_true q155;go_wp2
        go_ret
        exact ⟨by first|rfl|(simp [y08,y07]<;>rfl)|(simp [*,y08,y07]<;>rfl),by repeat (with_reducible first|exact HB.out|apply y01|apply y00|apply y02)⟩
       ·rw [if_neg c6] at H
        have c6b0:decide ((rd l0 x11_1)<0)=false:=zDf c6;clear c6
        by_cases c7:(rd l0 x11_1) > x3_1
        ·rw [if_pos c7] at H
         have c7b0:decide (x3_1<(rd l0 x11_1))=true:=zDt c7;clear c7;obtain rfl:=zSi H;have p155:0≤(x11_1:Int):=zDo (by with_reducible assumption);have q155:x11_1<(l0.length:Int):=zDo (by with_reducible assumption);obtain ⟨ad155,e155,hx155_0⟩:=Kd.at_int HR0.out x11_1 p155 q155;cases e155
         replace hx155_0:=(HB.out.cell (World.block_lt_of_cell? w _ hx155_0)).trans hx155_0;replace p155:=eq_true p155;replace q155:=eq_true q155;go_wp2
         go_ret
         exact ⟨by first|rfl|(simp [y08,y07]<;>rfl)|(simp [*,y08,y07]<;>rfl),by repeat (with_reducible first|exact HB.out|apply y01|apply y00|apply y02)⟩
        ·rw [if_neg c7] at H
         have c7b0:decide (x3_1<(rd l0 x11_1))=false:=zDf c7;clear c7;obtain ⟨ji8,hji8⟩:∃ j_:Int,(mx x3_1 (wrap64 ((rd l0 x11_1)+1)))=j_:=⟨_,rfl⟩
         replace H:(mobs_IsParting.l0 k1 ji8 l0 (l0.length:Int) (wrap64 (x11_1+1)))=some r:=by first|(rw [hji8] at H;exact H)|(simp only [hji8] at H ⊢;exact H)
         have hji8_:(if x3_1<(wrap64 ((rd l0 x11_1)+1)) then (wrap64 ((rd l0 x11_1)+1)) else x3_1)=ji8:=hji8;have H':=As0.mk H;clear H;have p155:0≤(x11_1:Int):=zDo (by with_reducible assumption);have q155:x11_1<(l0.length:Int):=zDo (by with_reducible assumption);obtain ⟨ad155,e155,hx155_0⟩:=Kd.at_int HR0.out x11_1 p155 q155;cases e155
         replace hx155_0:=(HB.out.cell (World.block_lt_of_cell? w _ hx155_0)).trans hx155_0;replace p155:=eq_true p155;replace q155:=eq_true q155;go_wp2
         go_roundg k1
         case measure=>have:=HK1.out;omega
         case rel=>exact ⟨(ji8),(wrap64 (x11_1+1)),(by first|rfl|(simp;done)|(simp only [← hji8]<;>(first|rfl|simp))|(simp [*];done)),(by first|rfl|(simp;done)|(simp [*];done)),H',⟨by have:=HK1.out;omega⟩,⟨by repeat (with_reducible first|exact HB.out|apply y01|apply y00|apply y02)⟩⟩
      ·rw [if_neg c5] at H
       exact absurd H (by simp)
     ·rw [if_neg c4] at H
      exact absurd H (by simp)
    ·rw [if_neg c3] at H
     have c3b0:decide (x11_1<(l0.length:Int))=false:=zDf c3;clear c3;obtain rfl:=zSi H;go_wp2
     go_ret
     exact ⟨by first|rfl|(simp [y08,y07]<;>rfl)|(simp [*,y08,y07]<;>rfl),by repeat (with_reducible first|exact HB.out|apply y01|apply y00|apply y02)⟩
def mobs_read.l0:Nat->List (List Int)->List (List Int)->Int->Int->Option (Int)
 |0,_,_,_,_=>none
 |k+1,x0,x5,x6,x7=>if x7<x6 then (if 0≤x7 then (if x7<(x5.length:Int) then (if ((y1h x5 x7).length:Int) > 12 then (some 3) else ((mobs_IsParting.f k (y1h x5 x7)).bind fun t159=>(if t159=true then (mobs_read.l0 k x0 x5 x6 (wrap64 (x7+1))) else (some 2)))) else (none)) else (none)) else (if (x0.length:Int)=2 then (if 0<(x0.length:Int) then (if 1<(x0.length:Int) then (if ((y1h x0 0).length:Int)=((y1h x0 1).length:Int) then (some 0) else (some 2)) else (none)) else (none)) else (some 0))
def mobs_read.f (k:Nat) (l0:List (List Int)):Option (Int):=mobs_read.l0 k l0 l0 (l0.length:Int) 0
theorem mobs_read.calls (k:Nat) (A0:Option Addr) (c0:Nat) (l0:List (List Int)) (r:Int) (w:World) (hr0:Kd.C (Kd.slice 3 (Kd.int .i64)) w A0 l0.length l0) (hc0:l0.length≤c0) (h:mobs_read.f k l0=some r) :
  Calls Tra.prog 49 #[.slice A0 l0.length c0] w fun e w'=>e=.returned (.int .i64 r)∧Below w.heap.size w w':=by
 have HR0:=As0.mk hr0;have HC0:=As0.mk hc0;clear hr0 hc0;have HB:=As0.mk (Below.refl w.heap.size w);have H:(mobs_read.l0 k l0 l0 (l0.length:Int) 0)=some r:=h;clear h;have H':=As0.mk H;clear H;go_enter Tra.func49,Tra.ntmps49
 go_wp2
 repeat (go_quiet (fail);try go_wp2)
 go_loopg [7] k (fun kq v7 w'=>∃ (x7_1:Int),v7=.int .i64 x7_1∧As0 (mobs_read.l0 kq l0 l0 (l0.length:Int) x7_1=some r)∧As0 (kq≤k)∧As0 (Below w.heap.size w w'))
 case atStart=>exact ⟨(0),(by first|rfl|(simp;done)|(simp [*];done)),H',⟨zLe _⟩,⟨by repeat (with_reducible first|exact HB.out|apply y01|apply y00|apply y02)⟩⟩
 case round =>
  clear H';obtain ⟨x7_1,rfl,HA,HK1,HB⟩:=hrel;cases gk with
  |zero=>exact absurd HA.out (by simp [mobs_read.l0])
  |succ k1 =>
   have H:=HA.out;clear HA;simp only [mobs_read.l0] at H
   by_cases c2:x7_1<(l0.length:Int)
   ·rw [if_pos c2] at H
    have c2b0:decide (x7_1<(l0.length:Int))=true:=zDt c2;clear c2
    by_cases c3:0≤x7_1
    ·rw [if_pos c3] at H
     have c3b0:decide (0≤x7_1)=true:=zDt c3;clear c3
     by_cases c4:x7_1<(l0.length:Int)
     ·rw [if_pos c4] at H
      have c4b0:decide (x7_1<(l0.length:Int))=true:=zDt c4;clear c4
      by_cases c5:((y1h l0 x7_1).length:Int) > 12
      ·rw [if_pos c5] at H
       have c5b0:decide (12<((y1h l0 x7_1).length:Int))=true:=zDt c5;have c5b1:decide (12<(y1h l0 x7_1).length)=true:=zDt (by omega);clear c5;obtain rfl:=zSi H;have p158:0≤(x7_1:Int):=zDo (by with_reducible assumption);have q158:x7_1<(l0.length:Int):=zDo (by with_reducible assumption);obtain ⟨ad158,A158_0,c158_0,e158,hx158_0,hl158_0,hi158_0⟩:=yad HR0.out x7_1 p158 q158;cases e158
       replace hx158_0:=(HB.out.cell (World.block_lt_of_cell? w _ hx158_0)).trans hx158_0;have HR158_0:=As0.mk hi158_0;have HC158_0:=As0.mk hl158_0;clear hi158_0 hl158_0;replace p158:=eq_true p158;replace q158:=eq_true q158;go_wp2
       repeat (go_quiet (fail);try go_wp2)
       go_ret
       exact ⟨by first|rfl|(simp [y08,y07]<;>rfl)|(simp [*,y08,y07]<;>rfl),by repeat (with_reducible first|exact HB.out|apply y01|apply y00|apply y02)⟩
      ·rw [if_neg c5] at H
       have c5b0:decide (12<((y1h l0 x7_1).length:Int))=false:=zDf c5;have c5b1:decide (12<(y1h l0 x7_1).length)=false:=zDf (by omega);clear c5;replace H:=Option.bind_eq_some_iff.mp H;obtain ⟨t159,A60,H⟩:=H;replace H:(if t159=true then (mobs_read.l0 k1 l0 l0 (l0.length:Int) (wrap64 (x7_1+1))) else (some 2))=some r:=H;have A6:=As0.mk A60;clear A60
       by_cases c7:t159=true
       ·subst c7
        have H1:(mobs_read.l0 k1 l0 l0 (l0.length:Int) (wrap64 (x7_1+1)))=some r:=by rw [if_pos rfl] at H;exact H
        clear H;have H:=H1;clear H1;have H':=As0.mk H;clear H;have p158:0≤(x7_1:Int):=zDo (by with_reducible assumption);have q158:x7_1<(l0.length:Int):=zDo (by with_reducible assumption);obtain ⟨ad158,A158_0,c158_0,e158,hx158_0,hl158_0,hi158_0⟩:=yad HR0.out x7_1 p158 q158;cases e158
        replace hx158_0:=(HB.out.cell (World.block_lt_of_cell? w _ hx158_0)).trans hx158_0;have HR158_0:=As0.mk hi158_0;have HC158_0:=As0.mk hl158_0;clear hi158_0 hl158_0;replace p158:=eq_true p158;replace q158:=eq_true q158;go_wp2_with (first|(go_at_call 40;(with_reducible refine (mobs_IsParting.calls k1 _ _ (y1h l0 x7_1) true _ ?side1 ?side2 A6.out).mono ?_);(case side1=>repeat (first|exact (Kd.C_below HR158_0.out HB.out)|(with_reducible refine Kd.C_alloc ?_ _)|(with_reducible refine Kd.C_drewN ?_ _)|(with_reducible refine Kd.C_drew ?_)));(case side2=>exact HC158_0.out);rintro e w8 ⟨rfl,hb⟩;have n0_:=As0.mk (y04 (by repeat (with_reducible first|exact HB.out|apply y01|apply y00|apply y02)) hb);clear HB;have HB:=n0_;clear n0_;(try clear hb);(try clear hb2);(try clear hk);(try clear hi)))
        repeat (go_quiet (first|(go_at_call 40;(with_reducible refine (mobs_IsParting.calls k1 _ _ (y1h l0 x7_1) true _ ?side1 ?side2 A6.out).mono ?_);(case side1=>repeat (first|exact (Kd.C_below HR158_0.out HB.out)|(with_reducible refine Kd.C_alloc ?_ _)|(with_reducible refine Kd.C_drewN ?_ _)|(with_reducible refine Kd.C_drew ?_)));(case side2=>exact HC158_0.out);rintro e w8 ⟨rfl,hb⟩;have n0_:=As0.mk (y04 (by repeat (with_reducible first|exact HB.out|apply y01|apply y00|apply y02)) hb);clear HB;have HB:=n0_;clear n0_;(try clear hb);(try clear hb2);(try clear hk);(try clear hi)));try go_wp2_with (first|(go_at_call 40;(with_reducible refine (mobs_IsParting.calls k1 _ _ (y1h l0 x7_1) true _ ?side1 ?side2 A6.out).mono ?_);(case side1=>repeat (first|exact (Kd.C_below HR158_0.out HB.out)|(with_reducible refine Kd.C_alloc ?_ _)|(with_reducible refine Kd.C_drewN ?_ _)|(with_reducible refine Kd.C_drew ?_)));(case side2=>exact HC158_0.out);rintro e w8 ⟨rfl,hb⟩;have n0_:=As0.mk (y04 (by repeat (with_reducible first|exact HB.out|apply y01|apply y00|apply y02)) hb);clear HB;have HB:=n0_;clear n0_;(try clear hb);(try clear hb2);(try clear hk);(try clear hi))))
        go_roundg k1
        case measure=>have:=HK1.out;omega
        case rel=>exact ⟨(wrap64 (x7_1+1)),(by first|rfl|(simp;done)|(simp [*];done)),H',⟨by have:=HK1.out;omega⟩,⟨by repeat (with_reducible first|exact HB.out|apply y01|apply y00|apply y02)⟩⟩
       ·replace c7:=Bool.eq_false_iff.mpr c7
        subst c7;have H1:(some 2)=some r:=by rw [if_neg (show ¬ (false=true) by decide)] at H;exact H
        clear H;have H:=H1;clear H1;obtain rfl:=zSi H;have p158:0≤(x7_1:Int):=zDo (by with_reducible assumption);have q158:x7_1<(l0.length:Int):=zDo (by with_reducible assumption);obtain ⟨ad158,A158_0,c158_0,e158,hx158_0,hl158_0,hi158_0⟩:=yad HR0.out x7_1 p158 q158;cases e158
        replace hx158_0:=(HB.out.cell (World.block_lt_of_cell? w _ hx158_0)).trans hx158_0;have HR158_0:=As0.mk hi158_0;have HC158_0:=As0.mk hl158_0;clear hi158_0 hl158_0;replace p158:=eq_true p158;replace q158:=eq_true q158;go_wp2_with (first|(go_at_call 40;(with_reducible refine (mobs_IsParting.calls k1 _ _ (y1h l0 x7_1) false _ ?side1 ?side2 A6.out).mono ?_);(case side1=>repeat (first|exact (Kd.C_below HR158_0.out HB.out)|(with_reducible refine Kd.C_alloc ?_ _)|(with_reducible refine Kd.C_drewN ?_ _)|(with_reducible refine Kd.C_drew ?_)));(case side2=>exact HC158_0.out);rintro e w9 ⟨rfl,hb⟩;have n0_:=As0.mk (y04 (by repeat (with_reducible first|exact HB.out|apply y01|apply y00|apply y02)) hb);clear HB;have HB:=n0_;clear n0_;(try clear hb);(try clear hb2);(try clear hk);(try clear hi)))
        repeat (go_quiet (first|(go_at_call 40;(with_reducible refine (mobs_IsParting.calls k1 _ _ (y1h l0 x7_1) false _ ?side1 ?side2 A6.out).mono ?_);(case side1=>repeat (first|exact (Kd.C_below HR158_0.out HB.out)|(with_reducible refine Kd.C_alloc ?_ _)|(with_reducible refine Kd.C_drewN ?_ _)|(with_reducible refine Kd.C_drew ?_)));(case side2=>exact HC158_0.out);rintro e w9 ⟨rfl,hb⟩;have n0_:=As0.mk (y04 (by repeat (with_reducible first|exact HB.out|apply y01|apply y00|apply y02)) hb);clear HB;have HB:=n0_;clear n0_;(try clear hb);(try clear hb2);(try clear hk);(try clear hi)));try go_wp2_with (first|(go_at_call 40;(with_reducible refine (mobs_IsParting.calls k1 _ _ (y1h l0 x7_1) false _ ?side1 ?side2 A6.out).mono ?_);(case side1=>repeat (first|exact (Kd.C_below HR158_0.out HB.out)|(with_reducible refine Kd.C_alloc ?_ _)|(with_reducible refine Kd.C_drewN ?_ _)|(with_reducible refine Kd.C_drew ?_)));(case side2=>exact HC158_0.out);rintro e w9 ⟨rfl,hb⟩;have n0_:=As0.mk (y04 (by repeat (with_reducible first|exact HB.out|apply y01|apply y00|apply y02)) hb);clear HB;have HB:=n0_;clear n0_;(try clear hb);(try clear hb2);(try clear hk);(try clear hi))))
        go_ret
        exact ⟨by first|rfl|(simp [y08,y07]<;>rfl)|(simp [*,y08,y07]<;>rfl),by repeat (with_reducible first|exact HB.out|apply y01|apply y00|apply y02)⟩
     ·rw [if_neg c4] at H
      exact absurd H (by simp)
    ·rw [if_neg c3] at H
     exact absurd H (by simp)
   ·rw [if_neg c2] at H
    have c2b0:decide (x7_1<(l0.length:Int))=false:=zDf c2;clear c2
    by_cases c10:(l0.length:Int)=2
    ·rw [if_pos c10] at H
     have c10b0:((l0.length:Int) == 2)=true:=beq_iff_eq.mpr c10;have c10b1:((l0.length:Int) != 2)=false:=bne_eq_false_iff_eq.mpr c10;clear c10
     by_cases c11:0<(l0.length:Int)
     ·rw [if_pos c11] at H
      have c11b0:decide (0<(l0.length:Int))=true:=zDt c11;have c11b1:decide (0<l0.length)=true:=zDt (by omega);clear c11
      by_cases c12:1<(l0.length:Int)
      ·rw [if_pos c12] at H
       have c12b0:decide (1<(l0.length:Int))=true:=zDt c12;have c12b1:decide (1<l0.length)=true:=zDt (by omega);clear c12
       by_cases c13:((y1h l0 0).length:Int)=((y1h l0 1).length:Int)
       ·rw [if_pos c13] at H
        have c13b0:(((y1h l0 0).length:Int) == ((y1h l0 1).length:Int))=true:=beq_iff_eq.mpr c13;have c13b1:(((y1h l0 0).length:Int) != ((y1h l0 1).length:Int))=false:=bne_eq_false_iff_eq.mpr c13;have c13b2:((y1h l0 0).length == (y1h l0 1).length)=true:=by first|simpa using c13|(simp at c13 ⊢;omega)
        clear c13;obtain rfl:=zSi H;have p156:0≤(0:Int):=(by omega)
        have q156:0<(l0.length:Int):=zDo (by with_reducible assumption);obtain ⟨ad156,A156_0,c156_0,e156,hx156_0,hl156_0,hi156_0⟩:=yad HR0.out 0 p156 q156;cases e156
        have qi156:(0<l0.length)=True:=eq_true (by omega)
        (try rw [show ((0:Int)).toNat=0 from rfl] at hx156_0)
        (try rw [Addr.add_zero'] at hx156_0)
        replace hx156_0:=(HB.out.cell (World.block_lt_of_cell? w _ hx156_0)).trans hx156_0;have HR156_0:=As0.mk hi156_0;have HC156_0:=As0.mk hl156_0;clear hi156_0 hl156_0;replace p156:=eq_true p156;replace q156:=eq_true q156;have p157:0≤(1:Int):=(by omega)
        have q157:1<(l0.length:Int):=zDo (by with_reducible assumption);obtain ⟨ad157,A157_0,c157_0,e157,hx157_0,hl157_0,hi157_0⟩:=yad HR0.out 1 p157 q157;obtain rfl:ad156=ad157:=(by injection e157)
        (try simp only [show (1:Int).toNat=1 from rfl,Nat.reduceMul,Nat.reduceEqDiff,Go.Addr.add,↓reduceIte] at hx157_0)
        have qi157:(1<l0.length)=True:=eq_true (by omega)
        (try rw [show ((1:Int)).toNat=1 from rfl] at hx157_0)
        replace hx157_0:=(HB.out.cell (World.block_lt_of_cell? w _ hx157_0)).trans hx157_0;have HR157_0:=As0.mk hi157_0;have HC157_0:=As0.mk hl157_0;clear hi157_0 hl157_0;replace p157:=eq_true p157;replace q157:=eq_true q157;go_wp2
        repeat (go_quiet (fail);try go_wp2)
        go_ret
        exact ⟨by first|rfl|(simp [y08,y07]<;>rfl)|(simp [*,y08,y07]<;>rfl),by repeat (with_reducible first|exact HB.out|apply y01|apply y00|apply y02)⟩
       ·rw [if_neg c13] at H
        have c13b0:(((y1h l0 0).length:Int) == ((y1h l0 1).length:Int))=false:=beq_eq_false_iff_ne.mpr c13;have c13b1:(((y1h l0 0).length:Int) != ((y1h l0 1).length:Int))=true:=bne_iff_ne.mpr c13;have c13b2:((y1h l0 0).length == (y1h l0 1).length)=false:=by first|simpa using c13|(simp at c13 ⊢;omega)
        obtain rfl:=zSi H;have p156:0≤(0:Int):=(by omega)
        have q156:0<(l0.length:Int):=zDo (by with_reducible assumption);obtain ⟨ad156,A156_0,c156_0,e156,hx156_0,hl156_0,hi156_0⟩:=yad HR0.out 0 p156 q156;cases e156
        have qi156:(0<l0.length)=True:=eq_true (by omega)
        (try rw [show ((0:Int)).toNat=0 from rfl] at hx156_0)
        (try rw [Addr.add_zero'] at hx156_0)
        replace hx156_0:=(HB.out.cell (World.block_lt_of_cell? w _ hx156_0)).trans hx156_0;have HR156_0:=As0.mk hi156_0;have HC156_0:=As0.mk hl156_0;clear hi156_0 hl156_0;replace p156:=eq_true p156;replace q156:=eq_true q156;have p157:0≤(1:Int):=(by omega)
        have q157:1<(l0.length:Int):=zDo (by with_reducible assumption);obtain ⟨ad157,A157_0,c157_0,e157,hx157_0,hl157_0,hi157_0⟩:=yad HR0.out 1 p157 q157;obtain rfl:ad156=ad157:=(by injection e157)
        (try simp only [show (1:Int).toNat=1 from rfl,Nat.reduceMul,Nat.reduceEqDiff,Go.Addr.add,↓reduceIte] at hx157_0)
        have qi157:(1<l0.length)=True:=eq_true (by omega)
        (try rw [show ((1:Int)).toNat=1 from rfl] at hx157_0)
        replace hx157_0:=(HB.out.cell (World.block_lt_of_cell? w _ hx157_0)).trans hx157_0;have HR157_0:=As0.mk hi157_0;have HC157_0:=As0.mk hl157_0;clear hi157_0 hl157_0;replace p157:=eq_true p157;replace q157:=eq_true q157;go_wp2
        repeat (go_quiet (fail);try go_wp2)
        go_ret
        exact ⟨by first|rfl|(simp [y08,y07]<;>rfl)|(simp [*,y08,y07]<;>rfl),by repeat (with_reducible first|exact HB.out|apply y01|apply y00|apply y02)⟩
      ·rw [if_neg c12] at H
       exact absurd H (by simp)
     ·rw [if_neg c11] at H
      exact absurd H (by simp)
    ·rw [if_neg c10] at H
     have c10b0:((l0.length:Int) == 2)=false:=beq_eq_false_iff_ne.mpr c10;have c10b1:((l0.length:Int) != 2)=true:=bne_iff_ne.mpr c10;obtain rfl:=zSi H;go_wp2
     repeat (go_quiet (fail);try go_wp2)
     go_ret
     exact ⟨by first|rfl|(simp [y08,y07]<;>rfl)|(simp [*,y08,y07]<;>rfl),by repeat (with_reducible first|exact HB.out|apply y01|apply y00|apply y02)⟩
end
end Go.Proofs.Ytdhgeondbnpeoaa.P
namespace Go.Proofs.Ytdhgeondbnpeoaa.P
open Go.RowKit Go.Proofs.Yw.Wd Go.Proofs.Yw.La Go.Proofs.Yw.Mo
attribute [local go_sem] y13 y11 y1c y1b y0v y0u y12 y10
mutual
def mobs_crossed.l0:Nat->List Int->Int->Int->Option (Int × Int × Int × Int × Bool)
 |0,_,_,_=>none
 |k+1,x0,x9,x10=>if x10<x9 then (mobs_crossed.l1 k x0 x10 (wrap64 (x10+1)) x9 x10) else (some (0,0,0,0,false))
def mobs_crossed.l1:Nat->List Int->Int->Int->Int->Int->Option (Int × Int × Int × Int × Bool)
 |0,_,_,_,_,_=>none
 |k+1,x0,x4,x5,x9,x10=>if x5<(x0.length:Int) then (mobs_crossed.l2 k x0 x4 x5 (wrap64 (x5+1)) x9 x10) else (mobs_crossed.l0 k x0 x9 (wrap64 (x10+1)))
def mobs_crossed.l2:Nat->List Int->Int->Int->Int->Int->Int->Option (Int × Int × Int × Int × Bool)
 |0,_,_,_,_,_,_=>none
 |k+1,x0,x4,x5,x6,x9,x10=>if x6<(x0.length:Int) then (mobs_crossed.l3 k x0 x4 x5 x6 (wrap64 (x6+1)) x9 x10) else (mobs_crossed.l1 k x0 x4 (wrap64 (x5+1)) x9 x10)
def mobs_crossed.l3:Nat->List Int->Int->Int->Int->Int->Int->Int->Option (Int × Int × Int × Int × Bool)
 |0,_,_,_,_,_,_,_=>none
 |k+1,x0,x4,x5,x6,x7,x9,x10=>if x7<(x0.length:Int) then (if 0≤x4 then (if x4<(x0.length:Int) then (if 0≤x6 then (if x6<(x0.length:Int) then (if (rd x0 x4)=(rd x0 x6) then (if 0≤x5 then (if x5<(x0.length:Int) then (if 0≤x7 then (if (rd x0 x5)=(rd x0 x7) then (if (rd x0 x4)=(rd x0 x5) then (mobs_crossed.l3 k x0 x4 x5 x6 (wrap64 (x7+1)) x9 x10) else (some (x4,x5,x6,x7,true))) else (mobs_crossed.l3 k x0 x4 x5 x6 (wrap64 (x7+1)) x9 x10)) else (none)) else (none)) else (none)) else (mobs_crossed.l3 k x0 x4 x5 x6 (wrap64 (x7+1)) x9 x10)) else (none)) else (none)) else (none)) else (none)) else (mobs_crossed.l2 k x0 x4 x5 (wrap64 (x6+1)) x9 x10)
end
def mobs_crossed.f (k:Nat) (l0:List Int):Option (Int × Int × Int × Int × Bool):=mobs_crossed.l0 k l0 (l0.length:Int) 0
theorem mobs_crossed.calls (k:Nat) (A0:Option Addr) (c0:Nat) (l0:List Int) (r1:Int) (r2:Int) (r3:Int) (r4:Int) (r5:Bool) (w:World) (hr0:Kd.C (Kd.int .i64) w A0 l0.length l0) (hc0:l0.length≤c0) (h:mobs_crossed.f k l0=some (r1,r2,r3,r4,r5)) :
  Calls Tra.prog 50 #[.slice A0 l0.length c0] w fun e w'=>e=.returned (.tuple #[.agg #[.int .i64 r1,.int .i64 r2,.int .i64 r3,.int .i64 r4],.bool r5])∧Below w.heap.size w w':=by
 have hu31:=Tra.underlying31;have HR0:=As0.mk hr0;have HC0:=As0.mk hc0;clear hr0 hc0;have HB:=As0.mk (Below.refl w.heap.size w);have H:(mobs_crossed.l0 k l0 (l0.length:Int) 0)=some (r1,r2,r3,r4,r5):=h;clear h;have H':=As0.mk H;clear H;go_enter Tra.func50,Tra.ntmps50
 go_wp2_with (first|((with_reducible refine y0n (N:=2) rfl ?_);refine y1f ?hg (N:=2) ?hd (cs:=#[.int .i64 0,.int .i64 0,.int .i64 0,.int .i64 0]) (t:=31) ?hr ?_;(case hd=>rfl);(case hg=>rfl);(case hr=>first|(go_simp;done)|(go_simp;rfl));intro gb160 hg w2 hbox hb;have n0_:=As0.mk (y04 (by repeat (with_reducible first|exact HB.out|apply y01|apply y00|apply y02)) hb);have n1_:=As0.mk (hbox);have n2_:=As0.mk ((by rw [hg];exact (y06 (by repeat (with_reducible first|exact HB.out|apply y01|apply y00|apply y02))):w.heap.size≤gb160));have n3_:=As0.mk ((by rw [hg];exact (y06 (by repeat (with_reducible first|exact HB.out|apply y01|apply y00|apply y02))):w.heap.size≤gb160));clear HB;have HB:=n0_;have BK160:=n1_;have GW160:=n2_;have GE160:=n3_;clear n0_ n1_ n2_ n3_;clear hb hbox hg))
 repeat (go_quiet (first|((with_reducible refine y0n (N:=2) rfl ?_);refine y1f ?hg (N:=2) ?hd (cs:=#[.int .i64 0,.int .i64 0,.int .i64 0,.int .i64 0]) (t:=31) ?hr ?_;(case hd=>rfl);(case hg=>rfl);(case hr=>first|(go_simp;done)|(go_simp;rfl));intro gb160 hg w2 hbox hb;have n0_:=As0.mk (y04 (by repeat (with_reducible first|exact HB.out|apply y01|apply y00|apply y02)) hb);have n1_:=As0.mk (hbox);have n2_:=As0.mk ((by rw [hg];exact (y06 (by repeat (with_reducible first|exact HB.out|apply y01|apply y00|apply y02))):w.heap.size≤gb160));have n3_:=As0.mk ((by rw [hg];exact (y06 (by repeat (with_reducible first|exact HB.out|apply y01|apply y00|apply y02))):w.heap.size≤gb160));clear HB;have HB:=n0_;have BK160:=n1_;have GW160:=n2_;have GE160:=n3_;clear n0_ n1_ n2_ n3_;clear hb hbox hg));try go_wp2_with (first|((with_reducible refine y0n (N:=2) rfl ?_);refine y1f ?hg (N:=2) ?hd (cs:=#[.int .i64 0,.int .i64 0,.int .i64 0,.int .i64 0]) (t:=31) ?hr ?_;(case hd=>rfl);(case hg=>rfl);(case hr=>first|(go_simp;done)|(go_simp;rfl));intro gb160 hg w2 hbox hb;have n0_:=As0.mk (y04 (by repeat (with_reducible first|exact HB.out|apply y01|apply y00|apply y02)) hb);have n1_:=As0.mk (hbox);have n2_:=As0.mk ((by rw [hg];exact (y06 (by repeat (with_reducible first|exact HB.out|apply y01|apply y00|apply y02))):w.heap.size≤gb160));have n3_:=As0.mk ((by rw [hg];exact (y06 (by repeat (with_reducible first|exact HB.out|apply y01|apply y00|apply y02))):w.heap.size≤gb160));clear HB;have HB:=n0_;have BK160:=n1_;have GW160:=n2_;have GE160:=n3_;clear n0_ n1_ n2_ n3_;clear hb hbox hg)))
 go_loopg [10] k (fun kq v10 w'=>∃ (x10_1:Int) (x161000_1:Int) (x161001_1:Int) (x161002_1:Int) (x161003_1:Int),v10=.int .i64 x10_1∧As0 (mobs_crossed.l0 kq l0 (l0.length:Int) x10_1=some (r1,r2,r3,r4,r5))∧As0 (kq≤k)∧As0 (w'.heap[gb160]?=some (.cells #[.int .i64 x161000_1,.int .i64 x161001_1,.int .i64 x161002_1,.int .i64 x161003_1] 31 (0,0)))∧As0 (Below w.heap.size w w'))
 case atStart=>exact ⟨(0),(0),(0),(0),(0),(by first|rfl|(simp;done)|(simp [*];done)),H',⟨zLe _⟩,⟨by (with_reducible repeat (first|refine y05 ?_ _|refine blk_drew ?_|refine blk_alloc ?_ _));exact BK160.out⟩,⟨by repeat (with_reducible first|exact HB.out|apply y01|apply y00|apply y02|refine y03 ?_ GE160.out)⟩⟩
 case round =>
  clear H'
  try clear p2
  obtain ⟨x10_1,x161000_1,x161001_1,x161002_1,x161003_1,rfl,HA,HK1,BK160,HB⟩:=hrel;cases gk with
  |zero=>exact absurd HA.out (by simp [mobs_crossed.l0])
  |succ k1 =>
   have H:=HA.out;clear HA;simp only [mobs_crossed.l0] at H
   by_cases c3:x10_1<(l0.length:Int)
   ·rw [if_pos c3] at H
    have c3b0:decide (x10_1<(l0.length:Int))=true:=zDt c3;clear c3;have H':=As0.mk H;clear H;go_wp2
    repeat (go_quiet (fail);try go_wp2)
    go_loopg [5] k1 (fun kq v5 w'=>∃ (x5_2:Int) (x161000_2:Int) (x161001_2:Int) (x161002_2:Int) (x161003_2:Int),v5=.int .i64 x5_2∧As0 (mobs_crossed.l1 kq l0 x10_1 x5_2 (l0.length:Int) x10_1=some (r1,r2,r3,r4,r5))∧As0 (kq≤k1)∧As0 (w'.heap[gb160]?=some (.cells #[.int .i64 x161000_2,.int .i64 x161001_2,.int .i64 x161002_2,.int .i64 x161003_2] 31 (0,0)))∧As0 (Below w.heap.size w w'))
    case atStart=>exact ⟨(wrap64 (x10_1+1)),(x161000_1),(x161001_1),(x161002_1),(x161003_1),(by first|rfl|(simp;done)|(simp [*];done)),H',⟨zLe _⟩,⟨by (with_reducible repeat (first|refine y05 ?_ _|refine blk_drew ?_|refine blk_alloc ?_ _));exact BK160.out⟩,⟨by repeat (with_reducible first|exact HB.out|apply y01|apply y00|apply y02|refine y03 ?_ GE160.out)⟩⟩
    case round =>
     clear H'
     try clear p2
     try clear c3
     try clear c3b0
     try clear p2
     obtain ⟨x5_2,x161000_2,x161001_2,x161002_2,x161003_2,rfl,HA,HK2,BK160,HB⟩:=hrel;cases gk with
     |zero=>exact absurd HA.out (by simp [mobs_crossed.l1])
     |succ k2 =>
      have H:=HA.out;clear HA;simp only [mobs_crossed.l1] at H
      by_cases c4:x5_2<(l0.length:Int)
      ·rw [if_pos c4] at H
       have c4b0:decide (x5_2<(l0.length:Int))=true:=zDt c4;clear c4;have H':=As0.mk H;clear H;go_wp2
       repeat (go_quiet (fail);try go_wp2)
       go_loopg [6] k2 (fun kq v6 w'=>∃ (x6_3:Int) (x161000_3:Int) (x161001_3:Int) (x161002_3:Int) (x161003_3:Int),v6=.int .i64 x6_3∧As0 (mobs_crossed.l2 kq l0 x10_1 x5_2 x6_3 (l0.length:Int) x10_1=some (r1,r2,r3,r4,r5))∧As0 (kq≤k2)∧As0 (w'.heap[gb160]?=some (.cells #[.int .i64 x161000_3,.int .i64 x161001_3,.int .i64 x161002_3,.int .i64 x161003_3] 31 (0,0)))∧As0 (Below w.heap.size w w'))
       case atStart=>exact ⟨(wrap64 (x5_2+1)),(x161000_2),(x161001_2),(x161002_2),(x161003_2),(by first|rfl|(simp;done)|(simp [*];done)),H',⟨zLe _⟩,⟨by (with_reducible repeat (first|refine y05 ?_ _|refine blk_drew ?_|refine blk_alloc ?_ _));exact BK160.out⟩,⟨by repeat (with_reducible first|exact HB.out|apply y01|apply y00|apply y02|refine y03 ?_ GE160.out)⟩⟩
       case round =>
        clear H'
        try clear p2
        try clear c3
        try clear c3b0
        try clear c4
        try clear c4b0
        try clear p2
        obtain ⟨x6_3,x161000_3,x161001_3,x161002_3,x161003_3,rfl,HA,HK3,BK160,HB⟩:=hrel;cases gk with
        |zero=>exact absurd HA.out (by simp [mobs_crossed.l2])
        |succ k3 =>
         have H:=HA.out;clear HA;simp only [mobs_crossed.l2] at H
         by_cases c5:x6_3<(l0.length:Int)
         ·rw [if_pos c5] at H
          have c5b0:decide (x6_3<(l0.length:Int))=true:=zDt c5;clear c5;have H':=As0.mk H;clear H;go_wp2
          repeat (go_quiet (fail);try go_wp2)
          go_loopg [7] k3 (fun kq v7 w'=>∃ (x7_4:Int) (x161000_4:Int) (x161001_4:Int) (x161002_4:Int) (x161003_4:Int),v7=.int .i64 x7_4∧As0 (mobs_crossed.l3 kq l0 x10_1 x5_2 x6_3 x7_4 (l0.length:Int) x10_1=some (r1,r2,r3,r4,r5))∧As0 (kq≤k3)∧As0 (w'.heap[gb160]?=some (.cells #[.int .i64 x161000_4,.int .i64 x161001_4,.int .i64 x161002_4,.int .i64 x161003_4] 31 (0,0)))∧As0 (Below w.heap.size w w'))
          case atStart=>exact ⟨(wrap64 (x6_3+1)),(x161000_3),(x161001_3),(x161002_3),(x161003_3),(by first|rfl|(simp;done)|(simp [*];done)),H',⟨zLe _⟩,⟨by (with_reducible repeat (first|refine y05 ?_ _|refine blk_drew ?_|refine blk_alloc ?_ _));exact BK160.out⟩,⟨by repeat (with_reducible first|exact HB.out|apply y01|apply y00|apply y02|refine y03 ?_ GE160.out)⟩⟩
          case round =>
           clear H'
           try clear p2
           try clear c3
           try clear c3b0
           try clear c4
           try clear c4b0
           try clear c5
           try clear c5b0
           try clear p2
           obtain ⟨x7_4,x161000_4,x161001_4,x161002_4,x161003_4,rfl,HA,HK4,BK160,HB⟩:=hrel;cases gk with
           |zero=>exact absurd HA.out (by simp [mobs_crossed.l3])
           |succ k4 =>
            have H:=HA.out;clear HA;simp only [mobs_crossed.l3] at H
            by_cases c6:x7_4<(l0.length:Int)
            ·rw [if_pos c6] at H
             have c6b0:decide (x7_4<(l0.length:Int))=true:=zDt c6;clear c6
             by_cases c7:0≤x10_1
             ·rw [if_pos c7] at H
              have c7b0:decide (0≤x10_1)=true:=zDt c7;clear c7
              by_cases c8:x10_1<(l0.length:Int)
              ·rw [if_pos c8] at H
               have c8b0:decide (x10_1<(l0.length:Int))=true:=zDt c8;clear c8
               by_cases c9:0≤x6_3
               ·rw [if_pos c9] at H
                have c9b0:decide (0≤x6_3)=true:=zDt c9;clear c9
                by_cases c10:x6_3<(l0.length:Int)
                ·rw [if_pos c10] at H
                 have c10b0:decide (x6_3<(l0.length:Int))=true:=zDt c10;clear c10
                 by_cases c11:(rd l0 x10_1)=(rd l0 x6_3)
                 ·rw [if_pos c11] at H
                  have c11b0:((rd l0 x10_1) == (rd l0 x6_3))=true:=beq_iff_eq.mpr c11;have c11b1:((rd l0 x10_1) != (rd l0 x6_3))=false:=bne_eq_false_iff_eq.mpr c11;clear c11
                  by_cases c12:0≤x5_2
                  ·rw [if_pos c12] at H
                   have c12b0:decide (0≤x5_2)=true:=zDt c12;clear c12
                   by_cases c13:x5_2<(l0.length:Int)
                   ·rw [if_pos c13] at H
                    have c13b0:decide (x5_2<(l0.length:Int))=true:=zDt c13;clear c13
                    by_cases c14:0≤x7_4
                    ·rw [if_pos c14] at H
                     have c14b0:decide (0≤x7_4)=true:=zDt c14;clear c14
                     by_cases c15:(rd l0 x5_2)=(rd l0 x7_4)
                     ·rw [if_pos c15] at H
                      have c15b0:((rd l0 x5_2) == (rd l0 x7_4))=true:=beq_iff_eq.mpr c15;have c15b1:((rd l0 x5_2) != (rd l0 x7_4))=false:=bne_eq_false_iff_eq.mpr c15;clear c15
                      by_cases c16:(rd l0 x10_1)=(rd l0 x5_2)
                      ·rw [if_pos c16] at H
                       have c16b0:((rd l0 x10_1) == (rd l0 x5_2))=true:=beq_iff_eq.mpr c16;have c16b1:((rd l0 x10_1) != (rd l0 x5_2))=false:=bne_eq_false_iff_eq.mpr c16;clear c16;have H':=As0.mk H;clear H;have p161:0≤(x10_1:Int):=zDo (by with_reducible assumption);have q161:x10_1<(l0.length:Int):=zDo (by with_reducible assumption);obtain ⟨ad161,e161,hx161_0⟩:=Kd.at_int HR0.out x10_1 p161 q161;cases e161
                       replace hx161_0:=(HB.out.cell (World.block_lt_of_cell? w _ hx161_0)).trans hx161_0;replace p161:=eq_true p161;replace q161:=eq_true q161;have p162:0≤(x6_3:Int):=zDo (by with_reducible assumption);have q162:x6_3<(l0.length:Int):=zDo (by with_reducible assumption);obtain ⟨ad162,e162,hx162_0⟩:=Kd.at_int HR0.out x6_3 p162 q162;obtain rfl:ad161=ad162:=(by injection e162)
                       replace hx162_0:=(HB.out.cell (World.block_lt_of_cell? w _ hx162_0)).trans hx162_0;replace p162:=eq_true p162;replace q162:=eq_true q162;have p163:0≤(x5_2:Int):=zDo (by with_reducible assumption);have q163:x5_2<(l0.length:Int):=zDo (by with_reducible assumption);obtain ⟨ad163,e163,hx163_0⟩:=Kd.at_int HR0.out x5_2 p163 q163;obtain rfl:ad161=ad163:=(by injection e163)
                       replace hx163_0:=(HB.out.cell (World.block_lt_of_cell? w _ hx163_0)).trans hx163_0;replace p163:=eq_true p163;replace q163:=eq_true q163;have p164:0≤(x7_4:Int):=zDo (by with_reducible assumption);have q164:x7_4<(l0.length:Int):=zDo (by with_reducible assumption);obtain ⟨ad164,e164,hx164_0⟩:=Kd.at_int HR0.out x7_4 p164 q164;obtain rfl:ad161=ad164:=(by injection e164)
                       replace hx164_0:=(HB.out.cell (World.block_lt_of_cell? w _ hx164_0)).trans hx164_0;replace p164:=eq_true p164;replace q164:=eq_true q164;have p165:0≤(x10_1:Int):=zDo (by with_reducible assumption);have q165:x10_1<(l0.length:Int):=zDo (by with_reducible assumption);obtain ⟨ad165,e165,hx165_0⟩:=Kd.at_int HR0.out x10_1 p165 q165;obtain rfl:ad161=ad165:=(by injection e165)
                       replace hx165_0:=(HB.out.cell (World.block_lt_of_cell? w _ hx165_0)).trans hx165_0;replace p165:=eq_true p165;replace q165:=eq_true q165;have p166:0≤(x5_2:Int):=zDo (by with_reducible assumption);have q166:x5_2<(l0.length:Int):=zDo (by with_reducible assumption);obtain ⟨ad166,e166,hx166_0⟩:=Kd.at_int HR0.out x5_2 p166 q166;obtain rfl:ad161=ad166:=(by injection e166)
                       replace hx166_0:=(HB.out.cell (World.block_lt_of_cell? w _ hx166_0)).trans hx166_0;replace p166:=eq_true p166;replace q166:=eq_true q166;go_wp2
                       repeat (go_quiet (fail);try go_wp2)
                       go_roundg k4
                       case measure=>have:=HK1.out;have:=HK2.out;have:=HK3.out;have:=HK4.out;omega
                       case rel=>exact ⟨(wrap64 (x7_4+1)),(x161000_4),(x161001_4),(x161002_4),(x161003_4),(by first|rfl|(simp;done)|(simp [*];done)),H',⟨by have:=HK1.out;have:=HK2.out;have:=HK3.out;have:=HK4.out;omega⟩,⟨by (with_reducible repeat (first|refine y05 ?_ _|refine blk_drew ?_|refine blk_alloc ?_ _));exact BK160.out⟩,⟨by repeat (with_reducible first|exact HB.out|apply y01|apply y00|apply y02|refine y03 ?_ GE160.out)⟩⟩
                      ·rw [if_neg c16] at H
                       have c16b0:((rd l0 x10_1) == (rd l0 x5_2))=false:=beq_eq_false_iff_ne.mpr c16;have c16b1:((rd l0 x10_1) != (rd l0 x5_2))=true:=bne_iff_ne.mpr c16;simp only [Option.some.injEq,Prod.mk.injEq] at H;obtain ⟨rfl,rfl,rfl,rfl,rfl⟩:=H;have p161:0≤(x10_1:Int):=zDo (by with_reducible assumption);have q161:x10_1<(l0.length:Int):=zDo (by with_reducible assumption);obtain ⟨ad161,e161,hx161_0⟩:=Kd.at_int HR0.out x10_1 p161 q161;cases e161
                       replace hx161_0:=(HB.out.cell (World.block_lt_of_cell? w _ hx161_0)).trans hx161_0;replace p161:=eq_true p161;replace q161:=eq_true q161;have p162:0≤(x6_3:Int):=zDo (by with_reducible assumption);have q162:x6_3<(l0.length:Int):=zDo (by with_reducible assumption);obtain ⟨ad162,e162,hx162_0⟩:=Kd.at_int HR0.out x6_3 p162 q162;obtain rfl:ad161=ad162:=(by injection e162)
                       replace hx162_0:=(HB.out.cell (World.block_lt_of_cell? w _ hx162_0)).trans hx162_0;replace p162:=eq_true p162;replace q162:=eq_true q162;have p163:0≤(x5_2:Int):=zDo (by with_reducible assumption);have q163:x5_2<(l0.length:Int):=zDo (by with_reducible assumption);obtain ⟨ad163,e163,hx163_0⟩:=Kd.at_int HR0.out x5_2 p163 q163;obtain rfl:ad161=ad163:=(by injection e163)
                       replace hx163_0:=(HB.out.cell (World.block_lt_of_cell? w _ hx163_0)).trans hx163_0;replace p163:=eq_true p163;replace q163:=eq_true q163;have p164:0≤(x7_4:Int):=zDo (by with_reducible assumption);have q164:x7_4<(l0.length:Int):=zDo (by with_reducible assumption);obtain ⟨ad164,e164,hx164_0⟩:=Kd.at_int HR0.out x7_4 p164 q164;obtain rfl:ad161=ad164:=(by injection e164)
                       replace hx164_0:=(HB.out.cell (World.block_lt_of_cell? w _ hx164_0)).trans hx164_0;replace p164:=eq_true p164;replace q164:=eq_true q164;have p165:0≤(x10_1:Int):=zDo (by with_reducible assumption);have q165:x10_1<(l0.length:Int):=zDo (by with_reducible assumption);obtain ⟨ad165,e165,hx165_0⟩:=Kd.at_int HR0.out x10_1 p165 q165;obtain rfl:ad161=ad165:=(by injection e165)
                       replace hx165_0:=(HB.out.cell (World.block_lt_of_cell? w _ hx165_0)).trans hx165_0;replace p165:=eq_true p165;replace q165:=eq_true q165;have p166:0≤(x5_2:Int):=zDo (by with_reducible assumption);have q166:x5_2<(l0.length:Int):=zDo (by with_reducible assumption);obtain ⟨ad166,e166,hx166_0⟩:=Kd.at_int HR0.out x5_2 p166 q166;obtain rfl:ad161=ad166:=(by injection e166)
                       replace hx166_0:=(HB.out.cell (World.block_lt_of_cell? w _ hx166_0)).trans hx166_0;replace p166:=eq_true p166;replace q166:=eq_true q166;have hcz17_0:wr.cell? ⟨gb160,0,none⟩=some (.int .i64 x161000_4):=(y0g BK160.out 0).trans rfl;have hcz17_1:wr.cell? ⟨gb160,1,none⟩=some (.int .i64 x161001_4):=(y0g BK160.out 1).trans rfl;have hcz17_2:wr.cell? ⟨gb160,2,none⟩=some (.int .i64 x161002_4):=(y0g BK160.out 2).trans rfl;have hcz17_3:wr.cell? ⟨gb160,3,none⟩=some (.int .i64 x161003_4):=(y0g BK160.out 3).trans rfl;have hfz17_0:=y0e BK160.out 0;have hfz17_1:=y0e BK160.out 1;have hfz17_2:=y0e BK160.out 2;have hfz17_3:=y0e BK160.out 3;go_wp2
                       repeat (go_quiet (fail);try go_wp2)
                       refine bodyPost_ret (y6q rfl _ _ gb160 31 #[.int .i64 x10_1,.int .i64 x5_2,.int .i64 x6_3,.int .i64 x7_4] (0,0) _ rfl (by (with_reducible repeat (first|refine y05 ?_ _|refine blk_drew ?_|refine blk_alloc ?_ _));refine y0s (cs:=#[.int .i64 x10_1,.int .i64 x5_2,.int .i64 x6_3,.int .i64 x161003_4]) ?_ 3 _ rfl;(with_reducible repeat (first|refine y05 ?_ _|refine blk_drew ?_|refine blk_alloc ?_ _));refine y0s (cs:=#[.int .i64 x10_1,.int .i64 x5_2,.int .i64 x161002_4,.int .i64 x161003_4]) ?_ 2 _ rfl;(with_reducible repeat (first|refine y05 ?_ _|refine blk_drew ?_|refine blk_alloc ?_ _));refine y0s (cs:=#[.int .i64 x10_1,.int .i64 x161001_4,.int .i64 x161002_4,.int .i64 x161003_4]) ?_ 1 _ rfl;(with_reducible repeat (first|refine y05 ?_ _|refine blk_drew ?_|refine blk_alloc ?_ _));refine y0s (cs:=#[.int .i64 x161000_4,.int .i64 x161001_4,.int .i64 x161002_4,.int .i64 x161003_4]) ?_ 0 _ rfl;(with_reducible repeat (first|refine y05 ?_ _|refine blk_drew ?_|refine blk_alloc ?_ _));exact BK160.out) Tra.underlying31 rfl (by kernel_rfl)) rfl ?_;exact ⟨by first|rfl|(simp [y08,y07]<;>rfl)|(simp [*,y08,y07]<;>rfl),by repeat (with_reducible first|exact HB.out|apply y01|apply y00|apply y02|refine y03 ?_ GE160.out)⟩
                     ·rw [if_neg c15] at H
                      have c15b0:((rd l0 x5_2) == (rd l0 x7_4))=false:=beq_eq_false_iff_ne.mpr c15;have c15b1:((rd l0 x5_2) != (rd l0 x7_4))=true:=bne_iff_ne.mpr c15;have H':=As0.mk H;clear H;have p161:0≤(x10_1:Int):=zDo (by with_reducible assumption);have q161:x10_1<(l0.length:Int):=zDo (by with_reducible assumption);obtain ⟨ad161,e161,hx161_0⟩:=Kd.at_int HR0.out x10_1 p161 q161;cases e161
                      replace hx161_0:=(HB.out.cell (World.block_lt_of_cell? w _ hx161_0)).trans hx161_0;replace p161:=eq_true p161;replace q161:=eq_true q161;have p162:0≤(x6_3:Int):=zDo (by with_reducible assumption);have q162:x6_3<(l0.length:Int):=zDo (by with_reducible assumption);obtain ⟨ad162,e162,hx162_0⟩:=Kd.at_int HR0.out x6_3 p162 q162;obtain rfl:ad161=ad162:=(by injection e162)
                      replace hx162_0:=(HB.out.cell (World.block_lt_of_cell? w _ hx162_0)).trans hx162_0;replace p162:=eq_true p162;replace q162:=eq_true q162;have p163:0≤(x5_2:Int):=zDo (by with_reducible assumption);have q163:x5_2<(l0.length:Int):=zDo (by with_reducible assumption);obtain ⟨ad163,e163,hx163_0⟩:=Kd.at_int HR0.out x5_2 p163 q163;obtain rfl:ad161=ad163:=(by injection e163)
                      replace hx163_0:=(HB.out.cell (World.block_lt_of_cell? w _ hx163_0)).trans hx163_0;replace p163:=eq_true p163;replace q163:=eq_true q163;have p164:0≤(x7_4:Int):=zDo (by with_reducible assumption);have q164:x7_4<(l0.length:Int):=zDo (by with_reducible assumption);obtain ⟨ad164,e164,hx164_0⟩:=Kd.at_int HR0.out x7_4 p164 q164;obtain rfl:ad161=ad164:=(by injection e164)
                      replace hx164_0:=(HB.out.cell (World.block_lt_of_cell? w _ hx164_0)).trans hx164_0;replace p164:=eq_true p164;replace q164:=eq_true q164;go_wp2
                      repeat (go_quiet (fail);try go_wp2)
                      go_roundg k4
                      case measure=>have:=HK1.out;have:=HK2.out;have:=HK3.out;have:=HK4.out;omega
                      case rel=>exact ⟨(wrap64 (x7_4+1)),(x161000_4),(x161001_4),(x161002_4),(x161003_4),(by first|rfl|(simp;done)|(simp [*];done)),H',⟨by have:=HK1.out;have:=HK2.out;have:=HK3.out;have:=HK4.out;omega⟩,⟨by (with_reducible repeat (first|refine y05 ?_ _|refine blk_drew ?_|refine blk_alloc ?_ _));exact BK160.out⟩,⟨by repeat (with_reducible first|exact HB.out|apply y01|apply y00|apply y02|refine y03 ?_ GE160.out)⟩⟩
                    ·rw [if_neg c14] at H
                     exact absurd H (by simp)
                   ·rw [if_neg c13] at H
                    exact absurd H (by simp)
                  ·rw [if_neg c12] at H
                   exact absurd H (by simp)
                 ·rw [if_neg c11] at H
                  have c11b0:((rd l0 x10_1) == (rd l0 x6_3))=false:=beq_eq_false_iff_ne.mpr c11;have c11b1:((rd l0 x10_1) != (rd l0 x6_3))=true:=bne_iff_ne.mpr c11;have H':=As0.mk H;clear H;have p161:0≤(x10_1:Int):=zDo (by with_reducible assumption);have q161:x10_1<(l0.length:Int):=zDo (by with_reducible assumption);obtain ⟨ad161,e161,hx161_0⟩:=Kd.at_int HR0.out x10_1 p161 q161;cases e161
                  replace hx161_0:=(HB.out.cell (World.block_lt_of_cell? w _ hx161_0)).trans hx161_0;replace p161:=eq_true p161;replace q161:=eq_true q161;have p162:0≤(x6_3:Int):=zDo (by with_reducible assumption);have q162:x6_3<(l0.length:Int):=zDo (by with_reducible assumption);obtain ⟨ad162,e162,hx162_0⟩:=Kd.at_int HR0.out x6_3 p162 q162;obtain rfl:ad161=ad162:=(by injection e162)
                  replace hx162_0:=(HB.out.cell (World.block_lt_of_cell? w _ hx162_0)).trans hx162_0;replace p162:=eq_true p162;replace q162:=eq_true q162;go_wp2
                  repeat (go_quiet (fail);try go_wp2)
                  go_roundg k4
                  case measure=>have:=HK1.out;have:=HK2.out;have:=HK3.out;have:=HK4.out;omega
                  case rel=>exact ⟨(wrap64 (x7_4+1)),(x161000_4),(x161001_4),(x161002_4),(x161003_4),(by first|rfl|(simp;done)|(simp [*];done)),H',⟨by have:=HK1.out;have:=HK2.out;have:=HK3.out;have:=HK4.out;omega⟩,⟨by (with_reducible repeat (first|refine y05 ?_ _|refine blk_drew ?_|refine blk_alloc ?_ _));exact BK160.out⟩,⟨by repeat (with_reducible first|exact HB.out|apply y01|apply y00|apply y02|refine y03 ?_ GE160.out)⟩⟩
                ·rw [if_neg c10] at H
                 exact absurd H (by simp)
               ·rw [if_neg c9] at H
                exact absurd H (by simp)
              ·rw [if_neg c8] at H
               exact absurd H (by simp)
             ·rw [if_neg c7] at H
              exact absurd H (by simp)
            ·rw [if_neg c6] at H
             have c6b0:decide (x7_4<(l0.length:Int))=false:=zDf c6;clear c6;have H':=As0.mk H;clear H;go_wp2
             repeat (go_quiet (fail);try go_wp2)
             go_roundg k4
             case measure=>have:=HK1.out;have:=HK2.out;have:=HK3.out;have:=HK4.out;omega
             case rel=>exact ⟨(wrap64 (x6_3+1)),(x161000_4),(x161001_4),(x161002_4),(x161003_4),(by first|rfl|(simp;done)|(simp [*];done)),H',⟨by have:=HK1.out;have:=HK2.out;have:=HK3.out;have:=HK4.out;omega⟩,⟨by (with_reducible repeat (first|refine y05 ?_ _|refine blk_drew ?_|refine blk_alloc ?_ _));exact BK160.out⟩,⟨by repeat (with_reducible first|exact HB.out|apply y01|apply y00|apply y02|refine y03 ?_ GE160.out)⟩⟩
         ·rw [if_neg c5] at H
          have c5b0:decide (x6_3<(l0.length:Int))=false:=zDf c5;clear c5;have H':=As0.mk H;clear H;go_wp2
          repeat (go_quiet (fail);try go_wp2)
          go_roundg k3
          case measure=>have:=HK1.out;have:=HK2.out;have:=HK3.out;omega
          case rel=>exact ⟨(wrap64 (x5_2+1)),(x161000_3),(x161001_3),(x161002_3),(x161003_3),(by first|rfl|(simp;done)|(simp [*];done)),H',⟨by have:=HK1.out;have:=HK2.out;have:=HK3.out;omega⟩,⟨by (with_reducible repeat (first|refine y05 ?_ _|refine blk_drew ?_|refine blk_alloc ?_ _));exact BK160.out⟩,⟨by repeat (with_reducible first|exact HB.out|apply y01|apply y00|apply y02|refine y03 ?_ GE160.out)⟩⟩
      ·rw [if_neg c4] at H
       have c4b0:decide (x5_2<(l0.length:Int))=false:=zDf c4;clear c4;have H':=As0.mk H;clear H;go_wp2
       repeat (go_quiet (fail);try go_wp2)
       go_roundg k2
       case measure=>have:=HK1.out;have:=HK2.out;omega
       case rel=>exact ⟨(wrap64 (x10_1+1)),(x161000_2),(x161001_2),(x161002_2),(x161003_2),(by first|rfl|(simp;done)|(simp [*];done)),H',⟨by have:=HK1.out;have:=HK2.out;omega⟩,⟨by (with_reducible repeat (first|refine y05 ?_ _|refine blk_drew ?_|refine blk_alloc ?_ _));exact BK160.out⟩,⟨by repeat (with_reducible first|exact HB.out|apply y01|apply y00|apply y02|refine y03 ?_ GE160.out)⟩⟩
   ·rw [if_neg c3] at H
    have c3b0:decide (x10_1<(l0.length:Int))=false:=zDf c3;clear c3;simp only [Option.some.injEq,Prod.mk.injEq] at H;obtain ⟨rfl,rfl,rfl,rfl,rfl⟩:=H;have hcz18_0:wr.cell? ⟨gb160,0,none⟩=some (.int .i64 x161000_1):=(y0g BK160.out 0).trans rfl;have hcz18_1:wr.cell? ⟨gb160,1,none⟩=some (.int .i64 x161001_1):=(y0g BK160.out 1).trans rfl;have hcz18_2:wr.cell? ⟨gb160,2,none⟩=some (.int .i64 x161002_1):=(y0g BK160.out 2).trans rfl;have hcz18_3:wr.cell? ⟨gb160,3,none⟩=some (.int .i64 x161003_1):=(y0g BK160.out 3).trans rfl;have hfz18_0:=y0e BK160.out 0;have hfz18_1:=y0e BK160.out 1;have hfz18_2:=y0e BK160.out 2;have hfz18_3:=y0e BK160.out 3;go_wp2
    repeat (go_quiet (fail);try go_wp2)
    refine bodyPost_ret (y6q rfl _ _ gb160 31 #[.int .i64 0,.int .i64 0,.int .i64 0,.int .i64 0] (0,0) _ rfl (by (with_reducible repeat (first|refine y05 ?_ _|refine blk_drew ?_|refine blk_alloc ?_ _));refine y0s (cs:=#[.int .i64 0,.int .i64 0,.int .i64 0,.int .i64 x161003_1]) ?_ 3 _ rfl;(with_reducible repeat (first|refine y05 ?_ _|refine blk_drew ?_|refine blk_alloc ?_ _));refine y0s (cs:=#[.int .i64 0,.int .i64 0,.int .i64 x161002_1,.int .i64 x161003_1]) ?_ 2 _ rfl;(with_reducible repeat (first|refine y05 ?_ _|refine blk_drew ?_|refine blk_alloc ?_ _));refine y0s (cs:=#[.int .i64 0,.int .i64 x161001_1,.int .i64 x161002_1,.int .i64 x161003_1]) ?_ 1 _ rfl;(with_reducible repeat (first|refine y05 ?_ _|refine blk_drew ?_|refine blk_alloc ?_ _));refine y0s (cs:=#[.int .i64 x161000_1,.int .i64 x161001_1,.int .i64 x161002_1,.int .i64 x161003_1]) ?_ 0 _ rfl;(with_reducible repeat (first|refine y05 ?_ _|refine blk_drew ?_|refine blk_alloc ?_ _));exact BK160.out) Tra.underlying31 rfl (by kernel_rfl)) rfl ?_;exact ⟨by first|rfl|(simp [y08,y07]<;>rfl)|(simp [*,y08,y07]<;>rfl),by repeat (with_reducible first|exact HB.out|apply y01|apply y00|apply y02|refine y03 ?_ GE160.out)⟩
def mobs_Crossed.f (k:Nat) (l0:List Int):Option (Int × Int × Int × Int × Bool × Int):=(mobs_read.f k (([l0]:List (List Int)))).bind fun t171=>(if t171=0 then ((mobs_crossed.f k l0).bind fun bt172=>(some (bt172.1,bt172.2.1,bt172.2.2.1,bt172.2.2.2.1,bt172.2.2.2.2,0))) else (some (0,0,0,0,false,t171)))
theorem mobs_Crossed.calls (k:Nat) (P0_:Nat->Prop) (A0:Option Addr) (c0:Nat) (l0:List Int) (r1:Int) (r2:Int) (r3:Int) (r4:Int) (r5:Bool) (r6:Int) (w:World) (hs0:Kd.V (Kd.int .i64) 3 w w.heap.size (fun k_=>P0_ k_) (.slice A0 l0.length c0) l0) (h:mobs_Crossed.f k l0=some (r1,r2,r3,r4,r5,r6)) :
  Calls Tra.prog 23 #[.slice A0 l0.length c0] w fun e w'=>e=.returned (.tuple #[.agg #[.int .i64 r1,.int .i64 r2,.int .i64 r3,.int .i64 r4],.bool r5,.int .i64 r6])∧Below w.heap.size w w':=by
 have hu31:=Tra.underlying31;have HO0:=As0.mk (show Kd.V (Kd.int .i64) 3 w w.heap.size (fun k_=>(P0_ k_∨w.heap.size≤k_)) (.slice A0 l0.length c0) l0 from Kd.V_mono hs0 (fun k_ hk=>.inl hk));have HB:=As0.mk (Below.refl w.heap.size w);have H:((mobs_read.f k (([l0]:List (List Int)))).bind fun t171=>(if t171=0 then ((mobs_crossed.f k l0).bind fun bt172=>(some (bt172.1,bt172.2.1,bt172.2.2.1,bt172.2.2.2.1,bt172.2.2.2.2,0))) else (some (0,0,0,0,false,t171))))=some (r1,r2,r3,r4,r5,r6):=h;clear h;obtain ⟨y168,hy168⟩:∃ y_:List (List Int),y_=(([l0]:List (List Int))):=⟨_,rfl⟩
 replace H:((mobs_read.f k y168).bind fun t171=>(if t171=0 then ((mobs_crossed.f k l0).bind fun bt172=>(some (bt172.1,bt172.2.1,bt172.2.2.1,bt172.2.2.2.1,bt172.2.2.2.2,0))) else (some (0,0,0,0,false,t171))))=some (r1,r2,r3,r4,r5,r6):=by first|(rw [hy168];with_reducible exact H)|(have H2_:=(Option.bind_some _ _).symm.trans H;rw [hy168];with_reducible exact H2_)|(have H2_:=(Option.bind_some _ _).symm.trans H;with_reducible exact H2_)|with_reducible exact H|(rw [hy168];exact H)|exact H
 have Ny168:=As0.mk hy168;clear hy168;replace H:=Option.bind_eq_some_iff.mp H;obtain ⟨t171,A20,H⟩:=H;replace H:(if t171=0 then ((mobs_crossed.f k l0).bind fun bt172=>(some (bt172.1,bt172.2.1,bt172.2.2.1,bt172.2.2.2.1,bt172.2.2.2.2,0))) else (some (0,0,0,0,false,t171)))=some (r1,r2,r3,r4,r5,r6):=H;have A2:=As0.mk A20;clear A20
 by_cases c3:t171=0
 ·rw [if_pos c3] at H
  have c3b0:(t171 == 0)=true:=beq_iff_eq.mpr c3;have c3b1:(t171 != 0)=false:=bne_eq_false_iff_eq.mpr c3;clear c3;replace H:=Option.bind_eq_some_iff.mp H;obtain ⟨⟨t172,t173,t174,t175,t176⟩,A40,H⟩:=H;replace H:(some (t172,t173,t174,t175,t176,0))=some (r1,r2,r3,r4,r5,r6):=H;have A4:=As0.mk A40;clear A40;simp only [Option.some.injEq,Prod.mk.injEq] at H;obtain ⟨rfl,rfl,rfl,rfl,rfl,rfl⟩:=H;go_enter Tra.func23,Tra.ntmps23
  go_wp2_with (first|((with_reducible refine y0n (N:=2) rfl ?_);refine y1f ?hg (N:=2) ?hd (cs:=#[.int .i64 0,.int .i64 0,.int .i64 0,.int .i64 0]) (t:=31) ?hr ?_;(case hd=>rfl);(case hg=>rfl);(case hr=>first|(go_simp;done)|(go_simp;rfl));intro gb167 hg w5 hbox hb;have n0_:=As0.mk (Kd.V_below (Kd.V_elderB (by (with_reducible repeat (first|apply Kd.V_alloc|apply Kd.V_drewN|apply Kd.V_drew));exact HO0.out) gb167 (Nat.le_of_eq hg.symm)) hb);have n1_:=As0.mk (y04 (by repeat (with_reducible first|exact HB.out|apply y01|apply y00|apply y02)) hb);have n2_:=As0.mk (hbox);have n3_:=As0.mk ((by rw [hg];exact (y06 (by repeat (with_reducible first|exact HB.out|apply y01|apply y00|apply y02))):w.heap.size≤gb167));have n4_:=As0.mk ((by rw [hg];exact (y06 (by repeat (with_reducible first|exact HB.out|apply y01|apply y00|apply y02))):w.heap.size≤gb167));clear HO0;clear HB;have HO0:=n0_;have HB:=n1_;have BK167:=n2_;have GW167:=n3_;have GE167:=n4_;clear n0_ n1_ n2_ n3_ n4_;clear hb hbox hg)|((with_reducible refine y0n (N:=9) rfl ?_);refine Kd.N_lit (Kd.slice 3 (Kd.int .i64)) _ 29 ?hg (N':=9) ?hd (xs:=([l0]:List (List Int))) (inner:=[.slice A0 l0.length c0]) (ok:=(fun k_=>(P0_ k_∨w.heap.size≤k_)∧k_≠gb167)) (okp:=(fun k_=>(P0_ k_∨w.heap.size≤k_)∧k_≠gb167)) ?hr ?hp (fun _ hk=>hk) ((show ∀ k_,w5.heap.size≤k_->(fun k_=>(P0_ k_∨w.heap.size≤k_)∧k_≠gb167) k_ from fun k_ hk=>⟨(.inr (Nat.le_trans (y06 (by repeat (with_reducible first|exact HB.out|apply y01|apply y00|apply y02|refine y03 ?_ GE167.out))) hk)),Kd.freshB (g:=gb167) (o:=.cells #[.int .i64 0,.int .i64 0,.int .i64 0,.int .i64 0] 31 (0,0)) (by (with_reducible repeat (first|refine y05 ?_ _|refine blk_drew ?_|refine blk_alloc ?_ _));exact BK167.out) k_ hk⟩) _ (zLe _)) (Below.refl _ _) (zLe _) (by simp) ?_;(case hd=>rfl);(case hg=>rfl);(case hr=>first|(go_simp;done)|(go_simp;rfl));(case hp=>exact (Reps.one (show Kd.FK (Kd.slice 3 (Kd.int .i64)) _ _ l0 [.slice A0 l0.length c0] from (Kd.FK_slice_mk (Kd.V_reads' (Kd.V_mono (ok':=(fun k_=>(P0_ k_∨w.heap.size≤k_)∧k_≠gb167)) (HO0.out) (fun k_ hk=>⟨hk.1,hk.2⟩))).2.1 (Kd.V_F (Kd.V_mono (ok':=(fun k_=>(P0_ k_∨w.heap.size≤k_)∧k_≠gb167)) (HO0.out) (fun k_ hk=>⟨hk.1,hk.2⟩))))) (Reps.none _ _)));intro v169 w6 ho7 hb hg_ hnew_;clear hg_ hnew_;(first|rw [← Ny168.out] at ho7|(simp only [Int.reduceToNat] at ho7;rw [← Ny168.out] at ho7));have n0_:=As0.mk (Kd.V_elder' (by (with_reducible repeat (first|apply Kd.V_alloc|apply Kd.V_drewN|apply Kd.V_drew));exact HO0.out) (Kd.N_base ho7) hb);have n1_:=As0.mk (Kd.N_lower ho7 (y06 (by repeat (with_reducible first|exact HB.out|apply y01|apply y00|apply y02|refine y03 ?_ GE167.out))));have n2_:=As0.mk (y0f (g:=gb167) (o:=.cells #[.int .i64 0,.int .i64 0,.int .i64 0,.int .i64 0] 31 (0,0)) (by (with_reducible repeat (first|refine y05 ?_ _|refine blk_drew ?_|refine blk_alloc ?_ _));exact BK167.out) hb);have n3_:=As0.mk (y04 (by repeat (with_reducible first|exact HB.out|apply y01|apply y00|apply y02|refine y03 ?_ GE167.out)) hb);clear HO0;clear BK167;clear HB;have HO0:=n0_;have HO170:=n1_;have BK167:=n2_;have HB:=n3_;clear n0_ n1_ n2_ n3_;clear hb ho7;obtain ⟨Ao8,co8,eo8⟩:=Kd.N_slice HO170.out;subst eo8)|((with_reducible refine y0a (f:=49) rfl ?_);refine y0k (some 10) rfl rfl Tra.func49 (by kernel_rfl) rfl #[.slice Ao8 y168.length co8] rfl (by (try simp only [List.map_toArray,List.map_cons,List.map_nil]);first|done|rfl|(simp only [List.length_drop,List.length_take];rfl)) ?_;(with_reducible refine (mobs_read.calls k _ _ y168 t171 _ ?side1 ?side2 A2.out).mono ?_);(case side1=>repeat (first|exact (Kd.N_reads' HO170.out).2.2|(with_reducible refine Kd.C_alloc ?_ _)|(with_reducible refine Kd.C_drewN ?_ _)|(with_reducible refine Kd.C_drew ?_)));(case side2=>exact (Kd.N_reads' HO170.out).2.1);rintro e w9 ⟨rfl,hb⟩;refine ⟨_,rfl,?_⟩;have n0_:=As0.mk (Kd.V_below (by (with_reducible repeat (first|apply Kd.V_alloc|apply Kd.V_drewN|apply Kd.V_drew));exact HO0.out) hb);have n1_:=As0.mk (Kd.N_below (by (with_reducible repeat (first|apply Kd.N_alloc|apply Kd.N_drewN|apply Kd.N_drew));exact HO170.out) hb);have n2_:=As0.mk (y0f (g:=gb167) (o:=.cells #[.int .i64 0,.int .i64 0,.int .i64 0,.int .i64 0] 31 (0,0)) (by (with_reducible repeat (first|refine y05 ?_ _|refine blk_drew ?_|refine blk_alloc ?_ _));exact BK167.out) hb);have n3_:=As0.mk (y04 (by repeat (with_reducible first|exact HB.out|apply y01|apply y00|apply y02|refine y03 ?_ GE167.out)) hb);clear HO0;clear HO170;clear BK167;clear HB;have HO0:=n0_;have HO170:=n1_;have BK167:=n2_;have HB:=n3_;clear n0_ n1_ n2_ n3_;(try clear hb);(try clear hb2);(try clear hk);(try clear hi))|((with_reducible refine y0a (f:=50) rfl ?_);refine y0k (some 17) rfl rfl Tra.func50 (by kernel_rfl) rfl #[.slice A0 l0.length c0] rfl (by (try simp only [List.map_toArray,List.map_cons,List.map_nil]);first|done|rfl|(simp only [List.length_drop,List.length_take];rfl)) ?_;(with_reducible refine (mobs_crossed.calls k _ _ l0 t172 t173 t174 t175 t176 _ ?side1 ?side2 A4.out).mono ?_);(case side1=>repeat (first|exact (Kd.V_reads' HO0.out).2.2|(with_reducible refine Kd.C_alloc ?_ _)|(with_reducible refine Kd.C_drewN ?_ _)|(with_reducible refine Kd.C_drew ?_)));(case side2=>exact (Kd.V_reads' HO0.out).2.1);rintro e w10 ⟨rfl,hb⟩;refine ⟨_,rfl,?_⟩;have n0_:=As0.mk (Kd.V_below (by (with_reducible repeat (first|apply Kd.V_alloc|apply Kd.V_drewN|apply Kd.V_drew));exact HO0.out) hb);have n1_:=As0.mk (Kd.N_below (by (with_reducible repeat (first|apply Kd.N_alloc|apply Kd.N_drewN|apply Kd.N_drew));exact HO170.out) hb);have n2_:=As0.mk (y0f (g:=gb167) (o:=.cells #[.int .i64 0,.int .i64 0,.int .i64 0,.int .i64 0] 31 (0,0)) (by (with_reducible repeat (first|refine y05 ?_ _|refine blk_drew ?_|refine blk_alloc ?_ _));exact BK167.out) hb);have n3_:=As0.mk (y04 (by repeat (with_reducible first|exact HB.out|apply y01|apply y00|apply y02|refine y03 ?_ GE167.out)) hb);clear HO0;clear HO170;clear BK167;clear HB;have HO0:=n0_;have HO170:=n1_;have BK167:=n2_;have HB:=n3_;clear n0_ n1_ n2_ n3_;(try clear hb);(try clear hb2);(try clear hk);(try clear hi))|((with_reducible refine y0n (N:=6) rfl ?_);refine y1f ?hg (N:=6) ?hd (cs:=#[.int .i64 0,.int .i64 0,.int .i64 0,.int .i64 0]) (t:=31) ?hr ?_;(case hd=>rfl);(case hg=>rfl);(case hr=>first|(go_simp;done)|(go_simp;rfl));intro gb177 hg w11 hbox hb;have n0_:=As0.mk (Kd.V_below (Kd.V_elderB (by (with_reducible repeat (first|apply Kd.V_alloc|apply Kd.V_drewN|apply Kd.V_drew));exact HO0.out) gb177 (Nat.le_of_eq hg.symm)) hb);have n1_:=As0.mk (Kd.N_below (Kd.N_elderB (by (with_reducible repeat (first|apply Kd.N_alloc|apply Kd.N_drewN|apply Kd.N_drew));exact HO170.out) gb177 (Nat.le_of_eq hg.symm)) hb);have n2_:=As0.mk (y0f (g:=gb167) (o:=.cells #[.int .i64 0,.int .i64 0,.int .i64 0,.int .i64 0] 31 (0,0)) (by (with_reducible repeat (first|refine y05 ?_ _|refine blk_drew ?_|refine blk_alloc ?_ _));exact BK167.out) hb);have n3_:=As0.mk (y04 (by repeat (with_reducible first|exact HB.out|apply y01|apply y00|apply y02|refine y03 ?_ GE167.out)) hb);have n4_:=As0.mk (hbox);have n5_:=As0.mk ((by rw [hg];exact (y06 (by repeat (with_reducible first|exact HB.out|apply y01|apply y00|apply y02|refine y03 ?_ GE167.out))):w.heap.size≤gb177));have n6_:=As0.mk ((by rw [hg];exact (y06 (by repeat (with_reducible first|exact HB.out|apply y01|apply y00|apply y02|refine y03 ?_ GE167.out))):w.heap.size≤gb177));have n7_:=As0.mk ((by rw [hg];exact Nat.ne_of_lt (y50 (g:=gb167) (o:=.cells #[.int .i64 0,.int .i64 0,.int .i64 0,.int .i64 0] 31 (0,0)) (by (with_reducible repeat (first|refine y05 ?_ _|refine blk_drew ?_|refine blk_alloc ?_ _));exact BK167.out)):gb167≠gb177));have n8_:=As0.mk ((by rw [hg];exact Nat.ne_of_gt (y50 (g:=gb167) (o:=.cells #[.int .i64 0,.int .i64 0,.int .i64 0,.int .i64 0] 31 (0,0)) (by (with_reducible repeat (first|refine y05 ?_ _|refine blk_drew ?_|refine blk_alloc ?_ _));exact BK167.out)):gb177≠gb167));clear HO0;clear HO170;clear BK167;clear HB;have HO0:=n0_;have HO170:=n1_;have BK167:=n2_;have HB:=n3_;have BK177:=n4_;have GW177:=n5_;have GE177:=n6_;have NB167_177:=n7_;have NB177_167:=n8_;clear n0_ n1_ n2_ n3_ n4_ n5_ n6_ n7_ n8_;clear hb hbox hg;have hnb12:=NB177_167.out;have hnc12:=NB167_177.out;have hcz13_0:w11.cell? ⟨gb177,0,none⟩=some (.int .i64 0):=(y0g BK177.out 0).trans rfl;have hcz13_1:w11.cell? ⟨gb177,1,none⟩=some (.int .i64 0):=(y0g BK177.out 1).trans rfl;have hcz13_2:w11.cell? ⟨gb177,2,none⟩=some (.int .i64 0):=(y0g BK177.out 2).trans rfl;have hcz13_3:w11.cell? ⟨gb177,3,none⟩=some (.int .i64 0):=(y0g BK177.out 3).trans rfl;have hfz13_0:=y0e BK177.out 0;have hfz13_1:=y0e BK177.out 1;have hfz13_2:=y0e BK177.out 2;have hfz13_3:=y0e BK177.out 3;have hcz14_0:w11.cell? ⟨gb167,0,none⟩=some (.int .i64 0):=(y0g BK167.out 0).trans rfl;have hcz14_1:w11.cell? ⟨gb167,1,none⟩=some (.int .i64 0):=(y0g BK167.out 1).trans rfl;have hcz14_2:w11.cell? ⟨gb167,2,none⟩=some (.int .i64 0):=(y0g BK167.out 2).trans rfl;have hcz14_3:w11.cell? ⟨gb167,3,none⟩=some (.int .i64 0):=(y0g BK167.out 3).trans rfl;have hfz14_0:=y0e BK167.out 0;have hfz14_1:=y0e BK167.out 1;have hfz14_2:=y0e BK167.out 2;have hfz14_3:=y0e BK167.out 3))
  refine bodyPost_ret (y5q rfl _ _ gb167 31 #[.int .i64 t172,.int .i64 t173,.int .i64 t174,.int .i64 t175] (0,0) _ rfl (by (with_reducible repeat (first|refine y05 ?_ _|refine blk_drew ?_|refine blk_alloc ?_ _));refine y0s (cs:=#[.int .i64 t172,.int .i64 t173,.int .i64 t174,.int .i64 0]) ?_ 3 _ rfl;(with_reducible repeat (first|refine y05 ?_ _|refine blk_drew ?_|refine blk_alloc ?_ _));refine y0s (cs:=#[.int .i64 t172,.int .i64 t173,.int .i64 0,.int .i64 0]) ?_ 2 _ rfl;(with_reducible repeat (first|refine y05 ?_ _|refine blk_drew ?_|refine blk_alloc ?_ _));refine y0s (cs:=#[.int .i64 t172,.int .i64 0,.int .i64 0,.int .i64 0]) ?_ 1 _ rfl;(with_reducible repeat (first|refine y05 ?_ _|refine blk_drew ?_|refine blk_alloc ?_ _));refine y0s (cs:=#[.int .i64 0,.int .i64 0,.int .i64 0,.int .i64 0]) ?_ 0 _ rfl;(with_reducible repeat (first|refine y05 ?_ _|refine blk_drew ?_|refine blk_alloc ?_ _));refine y84 ?_ NB167_177.out _;(with_reducible repeat (first|refine y05 ?_ _|refine blk_drew ?_|refine blk_alloc ?_ _));refine y84 ?_ NB167_177.out _;(with_reducible repeat (first|refine y05 ?_ _|refine blk_drew ?_|refine blk_alloc ?_ _));refine y84 ?_ NB167_177.out _;(with_reducible repeat (first|refine y05 ?_ _|refine blk_drew ?_|refine blk_alloc ?_ _));refine y84 ?_ NB167_177.out _;(with_reducible repeat (first|refine y05 ?_ _|refine blk_drew ?_|refine blk_alloc ?_ _));exact BK167.out) Tra.underlying31 rfl (by kernel_rfl)) rfl ?_;exact ⟨by first|rfl|(simp [y08,y07]<;>rfl)|(simp [*,y08,y07]<;>rfl),by repeat (with_reducible first|exact HB.out|apply y01|apply y00|apply y02|refine y03 ?_ GE167.out|refine y03 ?_ GE177.out)⟩
 ·rw [if_neg c3] at H
  have c3b0:(t171 == 0)=false:=beq_eq_false_iff_ne.mpr c3;have c3b1:(t171 != 0)=true:=bne_iff_ne.mpr c3;simp only [Option.some.injEq,Prod.mk.injEq] at H;obtain ⟨rfl,rfl,rfl,rfl,rfl,rfl⟩:=H;go_enter Tra.func23,Tra.ntmps23
  go_wp2_with (first|((with_reducible refine y0n (N:=2) rfl ?_);refine y1f ?hg (N:=2) ?hd (cs:=#[.int .i64 0,.int .i64 0,.int .i64 0,.int .i64 0]) (t:=31) ?hr ?_;(case hd=>rfl);(case hg=>rfl);(case hr=>first|(go_simp;done)|(go_simp;rfl));intro gb167 hg w15 hbox hb;have n0_:=As0.mk (Kd.V_below (Kd.V_elderB (by (with_reducible repeat (first|apply Kd.V_alloc|apply Kd.V_drewN|apply Kd.V_drew));exact HO0.out) gb167 (Nat.le_of_eq hg.symm)) hb);have n1_:=As0.mk (y04 (by repeat (with_reducible first|exact HB.out|apply y01|apply y00|apply y02)) hb);have n2_:=As0.mk (hbox);have n3_:=As0.mk ((by rw [hg];exact (y06 (by repeat (with_reducible first|exact HB.out|apply y01|apply y00|apply y02))):w.heap.size≤gb167));have n4_:=As0.mk ((by rw [hg];exact (y06 (by repeat (with_reducible first|exact HB.out|apply y01|apply y00|apply y02))):w.heap.size≤gb167));clear HO0;clear HB;have HO0:=n0_;have HB:=n1_;have BK167:=n2_;have GW167:=n3_;have GE167:=n4_;clear n0_ n1_ n2_ n3_ n4_;clear hb hbox hg)|((with_reducible refine y0n (N:=9) rfl ?_);refine Kd.N_lit (Kd.slice 3 (Kd.int .i64)) _ 29 ?hg (N':=9) ?hd (xs:=([l0]:List (List Int))) (inner:=[.slice A0 l0.length c0]) (ok:=(fun k_=>(P0_ k_∨w.heap.size≤k_)∧k_≠gb167)) (okp:=(fun k_=>(P0_ k_∨w.heap.size≤k_)∧k_≠gb167)) ?hr ?hp (fun _ hk=>hk) ((show ∀ k_,w15.heap.size≤k_->(fun k_=>(P0_ k_∨w.heap.size≤k_)∧k_≠gb167) k_ from fun k_ hk=>⟨(.inr (Nat.le_trans (y06 (by repeat (with_reducible first|exact HB.out|apply y01|apply y00|apply y02|refine y03 ?_ GE167.out))) hk)),Kd.freshB (g:=gb167) (o:=.cells #[.int .i64 0,.int .i64 0,.int .i64 0,.int .i64 0] 31 (0,0)) (by (with_reducible repeat (first|refine y05 ?_ _|refine blk_drew ?_|refine blk_alloc ?_ _));exact BK167.out) k_ hk⟩) _ (zLe _)) (Below.refl _ _) (zLe _) (by simp) ?_;(case hd=>rfl);(case hg=>rfl);(case hr=>first|(go_simp;done)|(go_simp;rfl));(case hp=>exact (Reps.one (show Kd.FK (Kd.slice 3 (Kd.int .i64)) _ _ l0 [.slice A0 l0.length c0] from (Kd.FK_slice_mk (Kd.V_reads' (Kd.V_mono (ok':=(fun k_=>(P0_ k_∨w.heap.size≤k_)∧k_≠gb167)) (HO0.out) (fun k_ hk=>⟨hk.1,hk.2⟩))).2.1 (Kd.V_F (Kd.V_mono (ok':=(fun k_=>(P0_ k_∨w.heap.size≤k_)∧k_≠gb167)) (HO0.out) (fun k_ hk=>⟨hk.1,hk.2⟩))))) (Reps.none _ _)));intro v169 w16 ho17 hb hg_ hnew_;clear hg_ hnew_;(first|rw [← Ny168.out] at ho17|(simp only [Int.reduceToNat] at ho17;rw [← Ny168.out] at ho17));have n0_:=As0.mk (Kd.V_elder' (by (with_reducible repeat (first|apply Kd.V_alloc|apply Kd.V_drewN|apply Kd.V_drew));exact HO0.out) (Kd.N_base ho17) hb);have n1_:=As0.mk (Kd.N_lower ho17 (y06 (by repeat (with_reducible first|exact HB.out|apply y01|apply y00|apply y02|refine y03 ?_ GE167.out))));have n2_:=As0.mk (y0f (g:=gb167) (o:=.cells #[.int .i64 0,.int .i64 0,.int .i64 0,.int .i64 0] 31 (0,0)) (by (with_reducible repeat (first|refine y05 ?_ _|refine blk_drew ?_|refine blk_alloc ?_ _));exact BK167.out) hb);have n3_:=As0.mk (y04 (by repeat (with_reducible first|exact HB.out|apply y01|apply y00|apply y02|refine y03 ?_ GE167.out)) hb);clear HO0;clear BK167;clear HB;have HO0:=n0_;have HO170:=n1_;have BK167:=n2_;have HB:=n3_;clear n0_ n1_ n2_ n3_;clear hb ho17;obtain ⟨Ao18,co18,eo18⟩:=Kd.N_slice HO170.out;subst eo18)|((with_reducible refine y0a (f:=49) rfl ?_);refine y0k (some 10) rfl rfl Tra.func49 (by kernel_rfl) rfl #[.slice Ao18 y168.length co18] rfl (by (try simp only [List.map_toArray,List.map_cons,List.map_nil]);first|done|rfl|(simp only [List.length_drop,List.length_take];rfl)) ?_;(with_reducible refine (mobs_read.calls k _ _ y168 t171 _ ?side1 ?side2 A2.out).mono ?_);(case side1=>repeat (first|exact (Kd.N_reads' HO170.out).2.2|(with_reducible refine Kd.C_alloc ?_ _)|(with_reducible refine Kd.C_drewN ?_ _)|(with_reducible refine Kd.C_drew ?_)));(case side2=>exact (Kd.N_reads' HO170.out).2.1);rintro e w19 ⟨rfl,hb⟩;refine ⟨_,rfl,?_⟩;have n0_:=As0.mk (Kd.V_below (by (with_reducible repeat (first|apply Kd.V_alloc|apply Kd.V_drewN|apply Kd.V_drew));exact HO0.out) hb);have n1_:=As0.mk (Kd.N_below (by (with_reducible repeat (first|apply Kd.N_alloc|apply Kd.N_drewN|apply Kd.N_drew));exact HO170.out) hb);have n2_:=As0.mk (y0f (g:=gb167) (o:=.cells #[.int .i64 0,.int .i64 0,.int .i64 0,.int .i64 0] 31 (0,0)) (by (with_reducible repeat (first|refine y05 ?_ _|refine blk_drew ?_|refine blk_alloc ?_ _));exact BK167.out) hb);have n3_:=As0.mk (y04 (by repeat (with_reducible first|exact HB.out|apply y01|apply y00|apply y02|refine y03 ?_ GE167.out)) hb);clear HO0;clear HO170;clear BK167;clear HB;have HO0:=n0_;have HO170:=n1_;have BK167:=n2_;have HB:=n3_;clear n0_ n1_ n2_ n3_;(try clear hb);(try clear hb2);(try clear hk);(try clear hi);have hcz20_0:w19.cell? ⟨gb167,0,none⟩=some (.int .i64 0):=(y0g BK167.out 0).trans rfl;have hcz20_1:w19.cell? ⟨gb167,1,none⟩=some (.int .i64 0):=(y0g BK167.out 1).trans rfl;have hcz20_2:w19.cell? ⟨gb167,2,none⟩=some (.int .i64 0):=(y0g BK167.out 2).trans rfl;have hcz20_3:w19.cell? ⟨gb167,3,none⟩=some (.int .i64 0):=(y0g BK167.out 3).trans rfl;have hfz20_0:=y0e BK167.out 0;have hfz20_1:=y0e BK167.out 1;have hfz20_2:=y0e BK167.out 2;have hfz20_3:=y0e BK167.out 3))
  refine bodyPost_ret (y5q rfl _ _ gb167 31 #[.int .i64 0,.int .i64 0,.int .i64 0,.int .i64 0] (0,0) _ rfl (by (with_reducible repeat (first|refine y05 ?_ _|refine blk_drew ?_|refine blk_alloc ?_ _));refine y0s (cs:=#[.int .i64 0,.int .i64 0,.int .i64 0,.int .i64 0]) ?_ 3 _ rfl;(with_reducible repeat (first|refine y05 ?_ _|refine blk_drew ?_|refine blk_alloc ?_ _));refine y0s (cs:=#[.int .i64 0,.int .i64 0,.int .i64 0,.int .i64 0]) ?_ 2 _ rfl;(with_reducible repeat (first|refine y05 ?_ _|refine blk_drew ?_|refine blk_alloc ?_ _));refine y0s (cs:=#[.int .i64 0,.int .i64 0,.int .i64 0,.int .i64 0]) ?_ 1 _ rfl;(with_reducible repeat (first|refine y05 ?_ _|refine blk_drew ?_|refine blk_alloc ?_ _));refine y0s (cs:=#[.int .i64 0,.int .i64 0,.int .i64 0,.int .i64 0]) ?_ 0 _ rfl;(with_reducible repeat (first|refine y05 ?_ _|refine blk_drew ?_|refine blk_alloc ?_ _));exact BK167.out) Tra.underlying31 rfl (by kernel_rfl)) rfl ?_;exact ⟨by first|rfl|(simp [y08,y07]<;>rfl)|(simp [*,y08,y07]<;>rfl),by repeat (with_reducible first|exact HB.out|apply y01|apply y00|apply y02|refine y03 ?_ GE167.out)⟩
def slices_Clone_int_int.f (l0:List Int):Option (List Int):=if l0.length<17592186044416 then some l0 else none
theorem slices_Clone_int_int.calls (A0:Option Addr) (c0:Nat) (l0:List Int) (r1:List Int) (w:World) (hr0:Kd.C (Kd.int .i64) w A0 l0.length l0) (hc0:l0.length≤c0) (h:slices_Clone_int_int.f l0=some r1) :
  Calls Tra.prog 56 #[.slice A0 l0.length c0] w fun e w'=>∃ v0_:Value,e=.returned v0_∧Kd.R (Kd.int .i64) 3 w' w.heap.size (fun _=>True) v0_ r1∧Below w.heap.size w w':=by
 unfold slices_Clone_int_int.f at h;split at h
 ·rename_i hL
  obtain rfl:=zSi h;exact Ext.clone_calls A0 c0 l0 w hr0 hL
 ·cases h
def slices_Index_int_int.l0:Nat->List Int->Int->Int->Int->Option (Int)
 |0,_,_,_,_=>none
 |k+1,x0,x1,x7,x8=>if x8<x7 then (if 0≤x8 then (if x8<(x0.length:Int) then (if x1=(rd x0 x8) then (some x8) else (slices_Index_int_int.l0 k x0 x1 x7 (wrap64 (x8+1)))) else (none)) else (none)) else (some (-1))
def slices_Index_int_int.f (k:Nat) (l0:List Int) (a1:Int):Option (Int):=slices_Index_int_int.l0 k l0 a1 (l0.length:Int) 0
theorem slices_Index_int_int.calls (k:Nat) (A0:Option Addr) (c0:Nat) (l0:List Int) (a1:Int) (r:Int) (w:World) (hr0:Kd.C (Kd.int .i64) w A0 l0.length l0) (hc0:l0.length≤c0) (h:slices_Index_int_int.f k l0 a1=some r) :
  Calls Tra.prog 91 #[.slice A0 l0.length c0,.int .i64 a1] w fun e w'=>e=.returned (.int .i64 r)∧Drawn0 w w':=by
 have HR0:=As0.mk hr0;have HC0:=As0.mk hc0;clear hr0 hc0;have H:(slices_Index_int_int.l0 k l0 a1 (l0.length:Int) 0)=some r:=h;clear h;have H':=As0.mk H;clear H;go_enter Tra.func91,Tra.ntmps91
 go_wp2
 go_loopg [8] k (fun kq v8 w'=>∃ (x8_1:Int),v8=.int .i64 x8_1∧As0 (slices_Index_int_int.l0 kq l0 a1 (l0.length:Int) x8_1=some r)∧As0 (kq≤k)∧Drawn0 w w')
 case atStart=>exact ⟨(0),(by first|rfl|(simp;done)|(simp [*];done)),H',⟨zLe _⟩,by repeat (first|exact Drawn0.refl _|apply Drawn0.step)⟩
 case round =>
  clear H'
  try clear p2
  obtain ⟨x8_1,rfl,HA,HK1,⟨m1,rfl⟩⟩:=hrel;cases gk with
  |zero=>exact absurd HA.out (by simp [slices_Index_int_int.l0])
  |succ k1 =>
   have H:=HA.out;clear HA;simp only [slices_Index_int_int.l0] at H
   by_cases c3:x8_1<(l0.length:Int)
   ·rw [if_pos c3] at H
    have c3b0:decide (x8_1<(l0.length:Int))=true:=zDt c3;clear c3
    by_cases c4:0≤x8_1
    ·rw [if_pos c4] at H
     have c4b0:decide (0≤x8_1)=true:=zDt c4;clear c4
     by_cases c5:x8_1<(l0.length:Int)
     ·rw [if_pos c5] at H
      have c5b0:decide (x8_1<(l0.length:Int))=true:=zDt c5;clear c5
      by_cases c6:a1=(rd l0 x8_1)
      ·rw [if_pos c6] at H
       have c6b0:(a1 == (rd l0 x8_1))=true:=beq_iff_eq.mpr c6;have c6b1:(a1 != (rd l0 x8_1))=false:=bne_eq_false_iff_eq.mpr c6;clear c6;obtain rfl:=zSi H;have p178:0≤(x8_1:Int):=zDo (by with_reducible assumption);have q178:x8_1<(l0.length:Int):=zDo (by with_reducible assumption);obtain ⟨ad178,e178,hx178_0⟩:=Kd.at_int HR0.out x8_1 p178 q178;cases e178
       replace p178:=eq_true p178;replace q178:=eq_true q178;go_wp2
       go_ret
       exact ⟨by first|rfl|(simp;done)|(simp [*];done),by repeat (first|exact Drawn0.refl _|apply Drawn0.step)⟩
      ·rw [if_neg c6] at H
       have c6b0:(a1 == (rd l0 x8_1))=false:=beq_eq_false_iff_ne.mpr c6;have c6b1:(a1 != (rd l0 x8_1))=true:=bne_iff_ne.mpr c6;have H':=As0.mk H;clear H;have p178:0≤(x8_1:Int):=zDo (by with_reducible assumption);have q178:x8_1<(l0.length:Int):=zDo (by with_reducible assumption);obtain ⟨ad178,e178,hx178_0⟩:=Kd.at_int HR0.out x8_1 p178 q178;cases e178
       replace p178:=eq_true p178;replace q178:=eq_true q178;go_wp2
       go_roundg k1
       case measure=>have:=HK1.out;omega
       case rel=>exact ⟨(wrap64 (x8_1+1)),(by first|rfl|(simp;done)|(simp [*];done)),H',⟨by have:=HK1.out;omega⟩,by repeat (first|exact Drawn0.refl _|apply Drawn0.step)⟩
     ·rw [if_neg c5] at H
      exact absurd H (by simp)
    ·rw [if_neg c4] at H
     exact absurd H (by simp)
   ·rw [if_neg c3] at H
    have c3b0:decide (x8_1<(l0.length:Int))=false:=zDf c3;clear c3;obtain rfl:=zSi H;go_wp2
    go_ret
    exact ⟨by first|rfl|(simp;done)|(simp [*];done),by repeat (first|exact Drawn0.refl _|apply Drawn0.step)⟩
def slices_Contains_int_int.f (k:Nat) (l0:List Int) (a1:Int):Option (Bool):=(slices_Index_int_int.f k l0 a1).bind fun t179=>(some (decide (t179 ≥ 0)))
theorem slices_Contains_int_int.calls (k:Nat) (A0:Option Addr) (c0:Nat) (l0:List Int) (a1:Int) (r:Bool) (w:World) (hr0:Kd.C (Kd.int .i64) w A0 l0.length l0) (hc0:l0.length≤c0) (h:slices_Contains_int_int.f k l0 a1=some r) :
  Calls Tra.prog 70 #[.slice A0 l0.length c0,.int .i64 a1] w fun e w'=>e=.returned (.bool r)∧Drawn0 w w':=by
 have HR0:=As0.mk hr0;have HC0:=As0.mk hc0;clear hr0 hc0;have H:((slices_Index_int_int.f k l0 a1).bind fun t179=>(some (decide (t179 ≥ 0))))=some r:=h;clear h;replace H:=Option.bind_eq_some_iff.mp H;obtain ⟨t179,A30,H⟩:=H;replace H:(some (decide (t179 ≥ 0)))=some r:=H;have A3:=As0.mk A30;clear A30;obtain rfl:=zSi H;go_enter Tra.func70,Tra.ntmps70
 go_wp2_with (first|((with_reducible refine y0a (f:=91) rfl ?_);refine y0k (some 7) rfl rfl Tra.func91 (by kernel_rfl) rfl #[.slice A0 l0.length c0,.int .i64 a1] rfl (by (try simp only [List.map_toArray,List.map_cons,List.map_nil]);first|done|rfl|(simp only [List.length_drop,List.length_take];rfl)) ?_;(with_reducible refine (slices_Index_int_int.calls k _ _ l0 a1 t179 _ ?side1 ?side2 A3.out).mono ?_);(case side1=>repeat (first|exact HR0.out|(with_reducible refine Kd.C_alloc ?_ _)|(with_reducible refine Kd.C_drewN ?_ _)|(with_reducible refine Kd.C_drew ?_)));(case side2=>exact HC0.out);rintro e w' ⟨rfl,⟨nd,rfl⟩⟩;refine ⟨_,rfl,?_⟩))
 go_ret
 exact ⟨by first|rfl|(simp;done)|(simp [*];done),by repeat (first|exact Drawn0.refl _|apply Drawn0.step)⟩
end Go.Proofs.Ytdhgeondbnpeoaa.P
namespace Go.Proofs.Ytdhgeondbnpeoaa.P
open Go.RowKit Go.Proofs.Yw.Wd Go.Proofs.Yw.La Go.Proofs.Yw.Mo
attribute [local go_sem] y13 y11 y1c y1b y0v y0u y12 y10
def mobs_parted.l0:Nat->List Int->List Int->Int->Int->Option (Bool)
 |0,_,_,_,_=>none
 |k+1,x7,x25,x26,x27=>if x27<x26 then (if 0≤x27 then (if x27<(x25.length:Int) then ((slices_Contains_int_int.f k x7 (rd x25 x27)).bind fun t190=>(if t190=true then (some true) else (mobs_parted.l0 k x7 x25 x26 (wrap64 (x27+1))))) else (none)) else (none)) else (some false)
def mobs_parted.f (k:Nat) (l0:List Int) (a1:Int) (a2:Int):Option (Bool):=if 0≤(wrap64 (a1+1)) then (if (wrap64 (a1+1))≤(wrap64 (a2+1)) then (if (wrap64 (a2+1))≤(l0.length:Int) then (if (wrap64 (a1+1))≤(l0.length:Int) then ((slices_Clone_int_int.f (l0.take ((wrap64 (a1+1)):Int).toNat)).bind fun t182=>(if 0≤(wrap64 (a2+1)) then (if t182.length+(l0.drop ((wrap64 (a2+1)):Int).toNat).length<17592186044416 then ((some (t182 ++ (l0.drop ((wrap64 (a2+1)):Int).toNat):List Int)).bind fun y186=>(mobs_parted.l0 k ((l0.take ((wrap64 (a2+1)):Int).toNat).drop ((wrap64 (a1+1)):Int).toNat) y186 (y186.length:Int) 0)) else (none)) else (none))) else (none)) else (none)) else (none)) else (none)
def mobs_parted.T2:Bool × List (List Nat × List Nat):=(true,[([],[]),([],[]),([1],[1]),([0,2],[0,2]),([3],[3]),([],[]),([],[]),([6],[6]),([5,7],[5,7]),([4,8,4],[4,8]),([9],[9]),([],[])])
def mobs_parted.B2:List Nat:=[0,0,2,7,15,0,0,64,224,511,1023,0]
theorem mobs_parted.tab2:rtab .any (yhi Tra.f53 2)=mobs_parted.T2:=by kernel_rfl
theorem mobs_parted.bits2:y36 mobs_parted.T2.2 mobs_parted.B2=true:=by kernel_rfl
theorem mobs_parted.calls (k:Nat) (A0:Option Addr) (c0:Nat) (l0:List Int) (a1:Int) (a2:Int) (r:Bool) (w:World) (hr0:Kd.C (Kd.int .i64) w A0 l0.length l0) (hc0:l0.length≤c0) (h:mobs_parted.f k l0 a1 a2=some r) :
  Calls Tra.prog 53 #[.slice A0 l0.length c0,.int .i64 a1,.int .i64 a2] w fun e w'=>e=.returned (.bool r)∧Below w.heap.size w w':=by
 have HR0:=As0.mk hr0;have HC0:=As0.mk hc0;clear hr0 hc0;have HB:=As0.mk (Below.refl w.heap.size w);have H:(if 0≤(wrap64 (a1+1)) then (if (wrap64 (a1+1))≤(wrap64 (a2+1)) then (if (wrap64 (a2+1))≤(l0.length:Int) then (if (wrap64 (a1+1))≤(l0.length:Int) then ((slices_Clone_int_int.f (l0.take ((wrap64 (a1+1)):Int).toNat)).bind fun t182=>(if 0≤(wrap64 (a2+1)) then (if t182.length+(l0.drop ((wrap64 (a2+1)):Int).toNat).length<17592186044416 then ((some (t182 ++ (l0.drop ((wrap64 (a2+1)):Int).toNat):List Int)).bind fun y186=>(mobs_parted.l0 k ((l0.take ((wrap64 (a2+1)):Int).toNat).drop ((wrap64 (a1+1)):Int).toNat) y186 (y186.length:Int) 0)) else (none)) else (none))) else (none)) else (none)) else (none)) else (none))=some r:=h;clear h;obtain ⟨ji4,hji4⟩:∃ j_:Int,(wrap64 (a1+1))=j_:=⟨_,rfl⟩
 replace H:(if 0≤(ji4) then (if (ji4)≤(wrap64 (a2+1)) then (if (wrap64 (a2+1))≤(l0.length:Int) then (if (ji4)≤(l0.length:Int) then ((slices_Clone_int_int.f (l0.take ((ji4):Int).toNat)).bind fun t182=>(if 0≤(wrap64 (a2+1)) then (if t182.length+(l0.drop ((wrap64 (a2+1)):Int).toNat).length<17592186044416 then ((some (t182 ++ (l0.drop ((wrap64 (a2+1)):Int).toNat):List Int)).bind fun y186=>(mobs_parted.l0 k ((l0.take ((wrap64 (a2+1)):Int).toNat).drop ((ji4):Int).toNat) y186 (y186.length:Int) 0)) else (none)) else (none))) else (none)) else (none)) else (none)) else (none))=some r:=by first|(rw [hji4] at H;exact H)|(simp only [hji4] at H ⊢;exact H)
 have hji4w:(IntKind.i64.wrap (a1+1))=ji4:=(y0p _).trans hji4
 by_cases c5:0≤(ji4)
 ·rw [if_pos c5] at H
  have c5b0:=eq_true c5;have c5b1:decide (0≤(ji4))=true:=zDt c5;clear c5
  by_cases c6:(ji4)≤(wrap64 (a2+1))
  ·rw [if_pos c6] at H
   have c6b0:=eq_true c6;have c6b1:decide ((ji4)≤(wrap64 (a2+1)))=true:=zDt c6
   by_cases c7:(wrap64 (a2+1))≤(l0.length:Int)
   ·rw [if_pos c7] at H
    have c7b0:=eq_true c7;have c7b1:decide ((wrap64 (a2+1))≤(l0.length:Int))=true:=zDt c7;have c8b0:=eq_true (zDo (by with_reducible assumption):0≤(ji4))
    by_cases c9:(ji4)≤(l0.length:Int)
    ·rw [if_pos c9] at H
     have c9b0:=eq_true c9;have c9b1:decide ((ji4)≤(l0.length:Int))=true:=zDt c9;clear c9;replace H:=Option.bind_eq_some_iff.mp H;obtain ⟨t182,A100,H⟩:=H;replace H:(if 0≤(wrap64 (a2+1)) then (if t182.length+(l0.drop ((wrap64 (a2+1)):Int).toNat).length<17592186044416 then ((some (t182 ++ (l0.drop ((wrap64 (a2+1)):Int).toNat):List Int)).bind fun y186=>(mobs_parted.l0 k ((l0.take ((wrap64 (a2+1)):Int).toNat).drop ((ji4):Int).toNat) y186 (y186.length:Int) 0)) else (none)) else (none))=some r:=H;have A10:=As0.mk A100;clear A100;obtain ⟨ji11,hji11⟩:∃ j_:Int,(wrap64 (a2+1))=j_:=⟨_,rfl⟩
     replace H:(if 0≤(ji11) then (if t182.length+(l0.drop ((ji11):Int).toNat).length<17592186044416 then ((some (t182 ++ (l0.drop ((ji11):Int).toNat):List Int)).bind fun y186=>(mobs_parted.l0 k ((l0.take ((ji11):Int).toNat).drop ((ji4):Int).toNat) y186 (y186.length:Int) 0)) else (none)) else (none))=some r:=by first|(rw [hji11] at H;exact H)|(simp only [hji11] at H ⊢;exact H)
     (try rw [hji11] at c6b0)
     (try rw [hji11] at c6b1)
     (try rw [hji11] at c6)
     (try rw [hji11] at c7b0)
     (try rw [hji11] at c7b1)
     (try rw [hji11] at c7)
     (try rw [hji11] at A10)
     have hji11w:(IntKind.i64.wrap (a2+1))=ji11:=(y0p _).trans hji11
     by_cases c12:0≤(ji11)
     ·rw [if_pos c12] at H
      have c12b0:=eq_true c12;have c12b1:decide (0≤(ji11))=true:=zDt c12;clear c12;have HLj_:=As0.mk (zDo (by with_reducible assumption):(ji11)≤(l0.length:Int));have c13b0:=eq_true (zDo (by with_reducible assumption):(ji11)≤(l0.length:Int))
      by_cases c14:t182.length+(l0.drop ((ji11):Int).toNat).length<17592186044416
      ·rw [if_pos c14] at H
       have LMc14:=As0.mk c14;clear c14;obtain ⟨y186,hy186⟩:∃ y_:List Int,y_=(t182 ++ (l0.drop ((ji11):Int).toNat)):=⟨_,rfl⟩
       replace H:(mobs_parted.l0 k ((l0.take ((ji11):Int).toNat).drop ((ji4):Int).toNat) y186 (y186.length:Int) 0)=some r:=by first|(rw [hy186];with_reducible exact H)|(have H2_:=(Option.bind_some _ _).symm.trans H;rw [hy186];with_reducible exact H2_)|(have H2_:=(Option.bind_some _ _).symm.trans H;with_reducible exact H2_)|with_reducible exact H|(rw [hy186];exact H)|exact H
       have Ny186:=As0.mk hy186;clear hy186;have H':=As0.mk H;clear H;obtain ⟨i015,hi015,_,hsz15,_⟩:=info_parts info3;obtain ⟨A15,hcut15,hA15,hC15⟩:=y8u (P:=Tra.prog) (Value.int .i64) 0 29 3 .i64 .i64 Tra.underlying29 hi015 hsz15 A0 c0 l0 (ji4) (ji11) (zDo (by with_reducible assumption)) (by first|omega|exact zDo (by with_reducible assumption)) (zDo (by with_reducible assumption)) HC0.out;have HR180:=As0.mk (Kd.C_of_reads (h1:=fun _=>rfl) (hA15 _ (Kd.reads_of_C HR0.out)));have HC180:=As0.mk hC15;clear hA15 hC15 hi015 hsz15;go_enter Tra.func53,Tra.ntmps53
       try go_wp2
       have n0_:=As0.mk (y02 HB.out);clear HB;have HB:=n0_;clear n0_;obtain ⟨i017,hi017,_,hsz17,_⟩:=info_parts info3;obtain ⟨hcut17,hA17,hC17⟩:=y7r (P:=Tra.prog) (Value.int .i64) 0 29 3 .i64 Tra.underlying29 hi017 hsz17 A0 c0 l0 (ji4) (zDo (by with_reducible assumption)) (zDo (by with_reducible assumption)) HC0.out;have HR181:=As0.mk (Kd.C_of_reads (h1:=fun _=>rfl) (hA17 _ (Kd.reads_of_C HR0.out)));have HC181:=As0.mk hC17;clear hA17 hC17 hi017 hsz17;obtain ⟨i018,hi018,_,hsz18,_⟩:=info_parts info3;obtain ⟨A18,hcut18,hA18,hC18⟩:=y7s (P:=Tra.prog) (Value.int .i64) 0 29 3 .i64 Tra.underlying29 hi018 hsz18 A0 c0 l0 (ji11) (zDo (by with_reducible assumption)) (zDo (by with_reducible assumption)) HC0.out;have HR185:=As0.mk (Kd.C_of_reads (h1:=fun _=>rfl) (hA18 _ (Kd.reads_of_C HR0.out)));have HC185:=As0.mk hC18;clear hA18 hC18 hi018 hsz18;refine yap (n:=12) (S:=fun w'=>True) (ds:=[]) #[false,false,false,false,false,false,false,false,false,false,false,false] (by kernel_rfl) rfl rfl trivial (fun hHeld=>?_);refine y3y mobs_parted.tab2 mobs_parted.bits2 (fun HT_ HW_=>?_);generalize w.drew=w16 at HB HR181 HR185 hHeld ⊢;refine y15 (i:=0) (N:=some 16) (v:=?_) (a':=?_) #[true,false,false,false,false,false,false,false,false,false,false,false] rfl rfl (y0q HT_.out (by kernel_rfl)) (fun _ _ _ h=>h) (Or.inl ⟨by rfl,?_⟩) ?_ ?_;rotate_left
       ·intro w'
        go_simp
        with_reducible rfl
       rotate_left
       ·simp only [Act.put,List.setIfInBounds_toArray,List.set_cons_zero,List.set_cons_succ,y0p,y0w]
        rfl
       refine y15 (i:=1) (N:=some 17) (v:=?_) (a':=?_) #[true,true,false,false,false,false,false,false,false,false,false,false] rfl rfl (y0q HT_.out (by kernel_rfl)) (fun _ _ _ h=>h) (Or.inl ⟨by rfl,?_⟩) ?_ ?_;rotate_left
       ·intro w'
        go_simp
        with_reducible rfl
       rotate_left
       ·simp only [Act.put,List.setIfInBounds_toArray,List.set_cons_zero,List.set_cons_succ,y0p,y0w]
        rfl
       refine y15 (i:=2) (N:=some 18) (v:=?_) (a':=?_) #[true,true,true,false,false,false,false,false,false,false,false,false] rfl rfl (y0q HT_.out (by kernel_rfl)) (fun _ _ _ h=>h) (Or.inl ⟨by rfl,?_⟩) ?_ ?_;rotate_left
       ·intro w'
        go_simp
        with_reducible rfl
       rotate_left
       ·simp only [Act.put,List.setIfInBounds_toArray,List.set_cons_zero,List.set_cons_succ,y0p,y0w]
        rfl
       refine y15 (i:=3) (N:=some 19) (v:=?_) (a':=?_) #[true,true,true,true,false,false,false,false,false,false,false,false] rfl rfl (y0q HT_.out (by kernel_rfl)) (fun _ _ _ h=>h) (Or.inl ⟨by rfl,?_⟩) ?_ ?_;rotate_left
       ·intro w'
        go_simp
        with_reducible rfl
       rotate_left
       ·simp only [Act.put,List.setIfInBounds_toArray,List.set_cons_zero,List.set_cons_succ,y0p,y0w]
        rfl
       refine y15 (i:=5) (N:=some 21) (v:=?_) (a':=?_) #[true,true,true,true,false,true,false,false,false,false,false,false] rfl rfl (y0q HT_.out (by kernel_rfl)) (fun _ _ _ h=>h) (Or.inl ⟨by rfl,?_⟩) ?_ ?_;rotate_left
       ·intro w'
        go_simp
        with_reducible rfl
       rotate_left
       ·simp only [Act.put,List.setIfInBounds_toArray,List.set_cons_zero,List.set_cons_succ,y0p,y0w]
        rfl
       refine y15 (i:=6) (N:=some 22) (v:=?_) (a':=?_) #[true,true,true,true,false,true,true,false,false,false,false,false] rfl rfl (y0q HT_.out (by kernel_rfl)) (fun _ _ _ h=>h) (Or.inl ⟨by rfl,?_⟩) ?_ ?_;rotate_left
       ·intro w'
        go_simp
        with_reducible rfl
       rotate_left
       ·simp only [Act.put,List.setIfInBounds_toArray,List.set_cons_zero,List.set_cons_succ,y0p,y0w]
        rfl
       refine y15 (i:=7) (N:=some 23) (v:=?_) (a':=?_) #[true,true,true,true,false,true,true,true,false,false,false,false] rfl rfl (y0q HT_.out (by kernel_rfl)) (fun _ _ _ h=>h) (Or.inl ⟨by rfl,?_⟩) ?_ ?_;rotate_left
       ·intro w'
        go_simp
        with_reducible rfl
       rotate_left
       ·simp only [Act.put,List.setIfInBounds_toArray,List.set_cons_zero,List.set_cons_succ,y0p,y0w]
        rfl
       refine y15 (i:=8) (N:=some 24) (v:=?_) (a':=?_) #[true,true,true,true,false,true,true,true,true,false,false,false] rfl rfl (y0q HT_.out (by kernel_rfl)) (fun _ _ _ h=>h) (Or.inl ⟨by rfl,?_⟩) ?_ ?_;rotate_left
       ·intro w'
        go_simp
        with_reducible rfl
       rotate_left
       ·simp only [Act.put,List.setIfInBounds_toArray,List.set_cons_zero,List.set_cons_succ,y0p,y0w]
        rfl
       refine y15 (i:=11) (N:=some 27) (v:=?_) (a':=?_) #[true,true,true,true,false,true,true,true,true,false,false,true] rfl rfl (y0q HT_.out (by kernel_rfl)) (fun _ _ _ h=>h) (Or.inl ⟨by rfl,?_⟩) ?_ ?_;rotate_left
       ·intro w'
        go_simp
        with_reducible rfl
       rotate_left
       ·simp only [Act.put,List.setIfInBounds_toArray,List.set_cons_zero,List.set_cons_succ,y0p,y0w]
        rfl
       refine one_ (i:=4) (N:=some 20) #[true,true,true,true,true,true,true,true,true,false,false,true] rfl rfl (y4x HT_.out (by kernel_rfl)) (by decide) (fun K hK=>?_);refine goes_ Tra.func56 (by kernel_rfl) rfl #[.slice A0 (l0.take ((ji4):Int).toNat).length c0] (by rfl) rfl rfl (by (try simp only [List.map_toArray,List.map_cons,List.map_nil]);first|done|(rw [show (l0.take ((ji4):Int).toNat).length=(ji4).toNat from (by rw [List.length_take];have h_:((ji4):Int)≤(l0.length:Int):=(by first|exact zDo (by with_reducible assumption)|exact HLj_.out);omega)]<;>rfl)|(simp only [hji4];rfl)|rfl|(simp only [List.length_drop,List.length_take];rfl)) ?_
       with_reducible refine (slices_Clone_int_int.calls _ _ (l0.take ((ji4):Int).toNat) t182 _ ?side1 ?side2 A10.out).mono ?_
       (case side1=>repeat (first|exact (Kd.C_below HR181.out HB.out)|(with_reducible refine Kd.C_alloc ?_ _)|(with_reducible refine Kd.C_drewN ?_ _)|(with_reducible refine Kd.C_drew ?_)))
       (case side2=>exact HC181.out)
       rintro e w19 ⟨v183,rfl,ho0,hb⟩
       refine ⟨_,rfl,?_⟩;have n0_:=As0.mk (Kd.R_lower ho0 (y06 (by repeat (with_reducible first|exact HB.out|apply y01|apply y00|apply y02))));have n1_:=As0.mk (y04 (by repeat (with_reducible first|exact HB.out|apply y01|apply y00|apply y02)) hb);clear HB;have HO184:=n0_;have HB:=n1_;clear n0_ n1_
       (try clear hb)
       (try clear hb2)
       (try clear hk)
       (try clear hi)
       (try clear ho0)
       refine hK.out _ _ trivial (fun hHeld=>?_);clear hK K;refine ya2 (a':=?_) ?_ ?_;rotate_left
       ·show Act.put _ (some 20) _=_
        simp only [Act.put,List.setIfInBounds_toArray,List.set_cons_zero,List.set_cons_succ,y0p,y0w];rfl
       refine one_ (i:=9) (N:=some 25) #[true,true,true,true,true,true,true,true,true,true,false,true] rfl rfl (y4x HT_.out (by kernel_rfl)) (by decide) (fun K hK=>?_);refine Kd.R_append_rows_step (Kd.int .i64) (w0:=w) w.heap.size (by rfl) (.tmp 20) (.tmp 24) 29 3 (.int .i64 0) 8 rfl Tra.underlying29 info3 rfl (by decide) (by omega) v183 t182 (l0.drop ((ji11):Int).toNat) _ _ _ (fun _=>True) (fun _=>False) rfl rfl ?aO ?aR (fun _ _ h=>h) (fun _ h=>h.elim) ?aF ?aB ?aS ?aL ?_
       (case aR=>first|(rw [← show (l0.drop ((ji11):Int).toNat).length=(l0.length - (ji11).toNat) from List.length_drop];repeat (first|exact (Kd.C_below HR185.out HB.out)|(with_reducible refine Kd.C_alloc ?_ _)|(with_reducible refine Kd.C_drewN ?_ _)|(with_reducible refine Kd.C_drew ?_)))|(repeat (first|exact (Kd.C_below HR185.out HB.out)|(with_reducible refine Kd.C_alloc ?_ _)|(with_reducible refine Kd.C_drewN ?_ _)|(with_reducible refine Kd.C_drew ?_))))
       (case aB=>exact (by repeat (with_reducible first|exact HB.out|apply y01|apply y00|apply y02)))
       (case aF=>exact (fun _ _=>trivial))
       (case aO=>exact (by (with_reducible repeat (first|apply Kd.R_alloc|apply Kd.R_drewN|apply Kd.R_drew));exact HO184.out))
       (case aS=>exact (y06 (by repeat (with_reducible first|exact HB.out|apply y01|apply y00|apply y02))))
       (case aL=>have:=LMc14.out;have hlx_:=(show (l0.drop ((ji11):Int).toNat).length=(l0.length - (ji11).toNat) from List.length_drop);omega)
       intro v187 w20 ho hb hg hat;rw [← Ny186.out] at ho;have n0_:=As0.mk (hb);have n1_:=As0.mk (ho);clear HB;clear HO184;have HB:=n0_;have HO188:=n1_;clear n0_ n1_;clear ho hb hg hat;obtain ⟨Ao21,co21,eo21⟩:=Kd.R_slice HO188.out
       (first|subst eo21|(injection eo21 with f1_ f2_ f3_;have f4_:=f1_.symm;have f5_:=f3_.symm;clear f1_ f2_ f3_;subst f4_;subst f5_))
       refine hK.out _ _ trivial (fun hHeld=>?_);clear hK K;refine ya2 (a':=?_) ?_ ?_;rotate_left
       ·show Act.put _ (some 25) _=_
        simp only [Act.put,List.setIfInBounds_toArray,List.set_cons_zero,List.set_cons_succ,y0p,y0w];rfl
       refine y15 (i:=10) (N:=some 26) (v:=?_) (a':=?_) #[true,true,true,true,true,true,true,true,true,true,true,true] rfl rfl (y0q HT_.out (by kernel_rfl)) (fun _ _ _ h=>h) (Or.inl ⟨by rfl,?_⟩) ?_ ?_;rotate_left
       ·intro w'
        go_simp
        with_reducible rfl
       rotate_left
       ·simp only [Act.put,List.setIfInBounds_toArray,List.set_cons_zero,List.set_cons_succ,y0p,y0w]
        rfl
       refine yjd (y81 HT_.out (by kernel_rfl)) ?_
       try go_wp2
       go_loopg [27] k (fun kq v27 w'=>∃ (x27_1:Int),v27=.int .i64 x27_1∧As0 (mobs_parted.l0 kq ((l0.take ((ji11):Int).toNat).drop ((ji4):Int).toNat) y186 (y186.length:Int) x27_1=some r)∧As0 (kq≤k)∧As0 (Kd.R (Kd.int .i64) 3 w' w.heap.size (fun _=>True) (.slice Ao21 y186.length co21) y186)∧As0 (Below w.heap.size w w'))
       case atStart=>exact ⟨(0),(by first|rfl|(simp;done)|(simp [*];done)),H',⟨zLe _⟩,⟨by (with_reducible repeat (first|apply Kd.R_alloc|apply Kd.R_drewN|apply Kd.R_drew));exact HO188.out⟩,⟨by repeat (with_reducible first|exact HB.out|apply y01|apply y00|apply y02)⟩⟩
       case round =>
        clear H'
        try clear c1
        try clear p2
        try clear c5
        try clear c5b0
        try clear c5b1
        try clear c6
        try clear c6b0
        try clear c6b1
        try clear p6
        try clear c7
        try clear c7b0
        try clear c7b1
        try clear c8
        try clear c8b0
        try clear c9
        try clear c9b0
        try clear c9b1
        try clear c12
        try clear c12b0
        try clear c12b1
        try clear c13
        try clear c13b0
        try clear c14
        obtain ⟨x27_1,rfl,HA,HK1,HO_25,HB⟩:=hrel;cases gk with
        |zero=>exact absurd HA.out (by simp [mobs_parted.l0])
        |succ k1 =>
         have H:=HA.out;clear HA;simp only [mobs_parted.l0] at H
         by_cases c22:x27_1<(y186.length:Int)
         ·rw [if_pos c22] at H
          have c22b0:decide (x27_1<(y186.length:Int))=true:=zDt c22;clear c22
          by_cases c23:0≤x27_1
          ·rw [if_pos c23] at H
           have c23b0:decide (0≤x27_1)=true:=zDt c23;clear c23
           by_cases c24:x27_1<(y186.length:Int)
           ·rw [if_pos c24] at H
            have c24b0:decide (x27_1<(y186.length:Int))=true:=zDt c24;clear c24;replace H:=Option.bind_eq_some_iff.mp H;obtain ⟨t190,A250,H⟩:=H;replace H:(if t190=true then (some true) else (mobs_parted.l0 k1 ((l0.take ((ji11):Int).toNat).drop ((ji4):Int).toNat) y186 (y186.length:Int) (wrap64 (x27_1+1))))=some r:=H;have A25:=As0.mk A250;clear A250
            by_cases c26:t190=true
            ·subst c26
             have H1:(some true)=some r:=by rw [if_pos rfl] at H;exact H
             clear H;have H:=H1;clear H1;obtain rfl:=zSi H;have p189:0≤(x27_1:Int):=zDo (by with_reducible assumption);have q189:x27_1<(y186.length:Int):=zDo (by with_reducible assumption);obtain ⟨ad189,e189,hx189_0⟩:=Kd.at_int (Kd.R_reads' HO_25.out).2.2 x27_1 p189 q189;cases e189
             replace p189:=eq_true p189;replace q189:=eq_true q189;go_wp2_with (first|((with_reducible refine y0a (f:=70) rfl ?_);refine y0k (some 33) rfl rfl Tra.func70 (by kernel_rfl) rfl #[.slice A15 ((l0.take ((ji11):Int).toNat).drop ((ji4):Int).toNat).length (c0 - (ji4).toNat),.int .i64 (rd y186 x27_1)] rfl (by (try simp only [List.map_toArray,List.map_cons,List.map_nil]);first|done|(rw [show ((l0.take ((ji11):Int).toNat).drop ((ji4):Int).toNat).length=((ji11).toNat - (ji4).toNat) from (by rw [List.length_drop,List.length_take];have h_:((ji11):Int)≤(l0.length:Int):=(by first|exact zDo (by with_reducible assumption)|exact HLj_.out);omega)]<;>rfl)|(simp only [hji11,hji4];rfl)|rfl|(simp only [List.length_drop,List.length_take];rfl)) ?_;(with_reducible refine (slices_Contains_int_int.calls k1 _ _ ((l0.take ((ji11):Int).toNat).drop ((ji4):Int).toNat) (rd y186 x27_1) true _ ?side1 ?side2 A25.out).mono ?_);(case side1=>repeat (first|exact (Kd.C_below HR180.out HB.out)|(with_reducible refine Kd.C_alloc ?_ _)|(with_reducible refine Kd.C_drewN ?_ _)|(with_reducible refine Kd.C_drew ?_)));(case side2=>exact HC180.out);rintro e w' ⟨rfl,⟨nd,rfl⟩⟩;refine ⟨_,rfl,?_⟩))
             go_ret
             exact ⟨by first|rfl|(simp [y08,y07]<;>rfl)|(simp only [← hji4,← hji11];first|rfl|(simp [y08,y07]<;>rfl))|(simp [*,y08,y07]<;>rfl),by repeat (with_reducible first|exact HB.out|apply y01|apply y00|apply y02)⟩
            ·replace c26:=Bool.eq_false_iff.mpr c26
             subst c26;have H1:(mobs_parted.l0 k1 ((l0.take ((ji11):Int).toNat).drop ((ji4):Int).toNat) y186 (y186.length:Int) (wrap64 (x27_1+1)))=some r:=by rw [if_neg (show ¬ (false=true) by decide)] at H;exact H
             clear H;have H:=H1;clear H1;have H':=As0.mk H;clear H;have p189:0≤(x27_1:Int):=zDo (by with_reducible assumption);have q189:x27_1<(y186.length:Int):=zDo (by with_reducible assumption);obtain ⟨ad189,e189,hx189_0⟩:=Kd.at_int (Kd.R_reads' HO_25.out).2.2 x27_1 p189 q189;cases e189
             replace p189:=eq_true p189;replace q189:=eq_true q189;go_wp2_with (first|((with_reducible refine y0a (f:=70) rfl ?_);refine y0k (some 33) rfl rfl Tra.func70 (by kernel_rfl) rfl #[.slice A15 ((l0.take ((ji11):Int).toNat).drop ((ji4):Int).toNat).length (c0 - (ji4).toNat),.int .i64 (rd y186 x27_1)] rfl (by (try simp only [List.map_toArray,List.map_cons,List.map_nil]);first|done|(rw [show ((l0.take ((ji11):Int).toNat).drop ((ji4):Int).toNat).length=((ji11).toNat - (ji4).toNat) from (by rw [List.length_drop,List.length_take];have h_:((ji11):Int)≤(l0.length:Int):=(by first|exact zDo (by with_reducible assumption)|exact HLj_.out);omega)]<;>rfl)|(simp only [hji11,hji4];rfl)|rfl|(simp only [List.length_drop,List.length_take];rfl)) ?_;(with_reducible refine (slices_Contains_int_int.calls k1 _ _ ((l0.take ((ji11):Int).toNat).drop ((ji4):Int).toNat) (rd y186 x27_1) false _ ?side1 ?side2 A25.out).mono ?_);(case side1=>repeat (first|exact (Kd.C_below HR180.out HB.out)|(with_reducible refine Kd.C_alloc ?_ _)|(with_reducible refine Kd.C_drewN ?_ _)|(with_reducible refine Kd.C_drew ?_)));(case side2=>exact HC180.out);rintro e w' ⟨rfl,⟨nd,rfl⟩⟩;refine ⟨_,rfl,?_⟩))
             go_roundg k1
             case measure=>have:=HK1.out;omega
             case rel=>exact ⟨(wrap64 (x27_1+1)),(by first|rfl|(simp;done)|(simp [*];done)),H',⟨by have:=HK1.out;omega⟩,⟨by (with_reducible repeat (first|apply Kd.R_alloc|apply Kd.R_drewN|apply Kd.R_drew));exact HO_25.out⟩,⟨by repeat (with_reducible first|exact HB.out|apply y01|apply y00|apply y02)⟩⟩
           ·rw [if_neg c24] at H
            exact absurd H (by simp)
          ·rw [if_neg c23] at H
           exact absurd H (by simp)
         ·rw [if_neg c22] at H
          have c22b0:decide (x27_1<(y186.length:Int))=false:=zDf c22;clear c22;obtain rfl:=zSi H;go_wp2
          go_ret
          exact ⟨by first|rfl|(simp [y08,y07]<;>rfl)|(simp only [← hji4,← hji11];first|rfl|(simp [y08,y07]<;>rfl))|(simp [*,y08,y07]<;>rfl),by repeat (with_reducible first|exact HB.out|apply y01|apply y00|apply y02)⟩
      ·rw [if_neg c14] at H
       exact absurd H (by simp)
     ·rw [if_neg c12] at H
      exact absurd H (by simp)
    ·rw [if_neg c9] at H
     exact absurd H (by simp)
   ·rw [if_neg c7] at H
    exact absurd H (by simp)
  ·rw [if_neg c6] at H
   exact absurd H (by simp)
 ·rw [if_neg c5] at H
  exact absurd H (by simp)
def mobs_number_int.f (l0:List Int):Option (List Int):=if (∀ x ∈ l0,Ext.In64 x)∧l0.length<17592186044416 then some (Ext.numL l0) else none
theorem mobs_number_int.calls (A0:Option Addr) (c0:Nat) (l0:List Int) (r1:List Int) (w:World) (hr0:Kd.C (Kd.int .i64) w A0 l0.length l0) (hc0:l0.length≤c0) (h:mobs_number_int.f l0=some r1) :
  Calls Tra.prog 54 #[.slice A0 l0.length c0] w fun e w'=>∃ v0_:Value,e=.returned v0_∧Kd.R (Kd.int .i64) 3 w' w.heap.size (fun _=>True) v0_ r1∧Below w.heap.size w w':=by
 unfold mobs_number_int.f at h;split at h
 ·rename_i hL
  obtain rfl:=zSi h;exact Ext.num_calls A0 c0 l0 w hr0 hc0 hL.1 hL.2
 ·cases h
theorem mobs_number_int.own (A0:Option Addr) (c0:Nat) (l0:List Int) (r1:List Int) (w:World) (hr0:Kd.C (Kd.int .i64) w A0 l0.length l0) (hc0:l0.length≤c0) (h:mobs_number_int.f l0=some r1) :
  Calls Tra.prog 54 #[.slice A0 l0.length c0] w fun e w'=>∃ v0_:Value,e=.returned v0_∧Ext.OwnI w' w.heap.size v0_ r1∧Below w.heap.size w w':=by
 unfold mobs_number_int.f at h;split at h
 ·rename_i hL
  obtain rfl:=zSi h;exact Ext.num_all A0 c0 l0 w hr0 hL.1 hL.2
 ·cases h
mutual
def mobs_Between.l0:Nat->List Int->List Int->Int->Int->Option (List Int × Int)
 |0,_,_,_,_=>none
 |k+1,x0,x7,x24,x25=>if x25<x24 then (mobs_Between.l1 k x0 x7 x25 x25 (wrap64 (x25 - 1)) x24 x25) else ((mobs_number_int.f x7).bind fun t201=>(some (t201,0)))
def mobs_Between.l1:Nat->List Int->List Int->Int->Int->Int->Int->Int->Option (List Int × Int)
 |0,_,_,_,_,_,_,_=>none
 |k+1,x0,x7,x8,x9,x10,x24,x25=>if x10 ≥ 0 then ((mobs_parted.f k x0 x10 x8).bind fun t204=>(if t204=true then (mobs_Between.l1 k x0 x7 x8 x9 (wrap64 (x10 - 1)) x24 x25) else (mobs_Between.l1 k x0 x7 x8 x10 (wrap64 (x10 - 1)) x24 x25))) else (if x7.length<17592186044416 then (mobs_Between.l0 k x0 (x7 ++ [x9]) x24 (wrap64 (x25+1))) else (none))
end
def mobs_Between.f (k:Nat) (l0:List Int):Option (List Int × Int):=(mobs_read.f k (([l0]:List (List Int)))).bind fun t194=>(if t194=0 then ((mobs_crossed.f k l0).bind fun bt195=>(if bt195.2.2.2.2=true then (some (([]:List Int),9)) else (mobs_Between.l0 k l0 ([]:List Int) (l0.length:Int) 0))) else (some (([]:List Int),t194)))
theorem mobs_Between.calls (k:Nat) (P0_:Nat->Prop) (A0:Option Addr) (c0:Nat) (l0:List Int) (r1:List Int) (r2:Int) (w:World) (hs0:Kd.V (Kd.int .i64) 3 w w.heap.size (fun k_=>P0_ k_) (.slice A0 l0.length c0) l0) (h:mobs_Between.f k l0=some (r1,r2)) :
  Calls Tra.prog 25 #[.slice A0 l0.length c0] w fun e w'=>∃ v0_:Value,e=.returned (.tuple #[v0_,.int .i64 r2])∧Kd.R (Kd.int .i64) 3 w' w.heap.size (fun k_=>(w.heap.size≤k_)) v0_ r1∧Below w.heap.size w w':=by
 have hu31:=Tra.underlying31;have HO0:=As0.mk (show Kd.V (Kd.int .i64) 3 w w.heap.size (fun k_=>(P0_ k_∨w.heap.size≤k_)) (.slice A0 l0.length c0) l0 from Kd.V_mono hs0 (fun k_ hk=>.inl hk));have HB:=As0.mk (Below.refl w.heap.size w);have H:((mobs_read.f k (([l0]:List (List Int)))).bind fun t194=>(if t194=0 then ((mobs_crossed.f k l0).bind fun bt195=>(if bt195.2.2.2.2=true then (some (([]:List Int),9)) else (mobs_Between.l0 k l0 ([]:List Int) (l0.length:Int) 0))) else (some (([]:List Int),t194))))=some (r1,r2):=h;clear h;obtain ⟨y191,hy191⟩:∃ y_:List (List Int),y_=(([l0]:List (List Int))):=⟨_,rfl⟩
 replace H:((mobs_read.f k y191).bind fun t194=>(if t194=0 then ((mobs_crossed.f k l0).bind fun bt195=>(if bt195.2.2.2.2=true then (some (([]:List Int),9)) else (mobs_Between.l0 k l0 ([]:List Int) (l0.length:Int) 0))) else (some (([]:List Int),t194))))=some (r1,r2):=by first|(rw [hy191];with_reducible exact H)|(have H2_:=(Option.bind_some _ _).symm.trans H;rw [hy191];with_reducible exact H2_)|(have H2_:=(Option.bind_some _ _).symm.trans H;with_reducible exact H2_)|with_reducible exact H|(rw [hy191];exact H)|exact H
 have Ny191:=As0.mk hy191;clear hy191;replace H:=Option.bind_eq_some_iff.mp H;obtain ⟨t194,A20,H⟩:=H;replace H:(if t194=0 then ((mobs_crossed.f k l0).bind fun bt195=>(if bt195.2.2.2.2=true then (some (([]:List Int),9)) else (mobs_Between.l0 k l0 ([]:List Int) (l0.length:Int) 0))) else (some (([]:List Int),t194)))=some (r1,r2):=H;have A2:=As0.mk A20;clear A20
 by_cases c3:t194=0
 ·rw [if_pos c3] at H
  have c3b0:(t194 == 0)=true:=beq_iff_eq.mpr c3;have c3b1:(t194 != 0)=false:=bne_eq_false_iff_eq.mpr c3;clear c3;replace H:=Option.bind_eq_some_iff.mp H;obtain ⟨⟨t195,t196,t197,t198,t199⟩,A40,H⟩:=H;replace H:(if t199=true then (some (([]:List Int),9)) else (mobs_Between.l0 k l0 ([]:List Int) (l0.length:Int) 0))=some (r1,r2):=H;have A4:=As0.mk A40;clear A40
  by_cases c5:t199=true
  ·subst c5
   have H1:(some (([]:List Int),9))=some (r1,r2):=by rw [if_pos rfl] at H;exact H
   clear H;have H:=H1;clear H1;simp only [Option.some.injEq,Prod.mk.injEq] at H;obtain ⟨rfl,rfl⟩:=H;go_enter Tra.func25,Tra.ntmps25
   go_wp2_with (first|((with_reducible refine y0n (N:=12) rfl ?_);refine Kd.N_lit (Kd.slice 3 (Kd.int .i64)) _ 29 ?hg (N':=12) ?hd (xs:=([l0]:List (List Int))) (inner:=[.slice A0 l0.length c0]) (ok:=(fun k_=>(P0_ k_∨w.heap.size≤k_))) (okp:=(fun k_=>(P0_ k_∨w.heap.size≤k_))) ?hr ?hp (fun _ hk=>hk) ((show ∀ k_,w.heap.size≤k_->(fun k_=>(P0_ k_∨w.heap.size≤k_)) k_ from fun k_ hk=>(.inr (Nat.le_trans (y06 (by repeat (with_reducible first|exact HB.out|apply y01|apply y00|apply y02))) hk))) _ (zLe _)) (Below.refl _ _) (zLe _) (by simp) ?_;(case hd=>rfl);(case hg=>rfl);(case hr=>first|(go_simp;done)|(go_simp;rfl));(case hp=>exact (Reps.one (show Kd.FK (Kd.slice 3 (Kd.int .i64)) _ _ l0 [.slice A0 l0.length c0] from (Kd.FK_slice_mk (Kd.V_reads' (Kd.V_mono (ok':=(fun k_=>(P0_ k_∨w.heap.size≤k_))) (HO0.out) (fun k_ hk=>hk))).2.1 (Kd.V_F (Kd.V_mono (ok':=(fun k_=>(P0_ k_∨w.heap.size≤k_))) (HO0.out) (fun k_ hk=>hk))))) (Reps.none _ _)));intro v192 w6 ho7 hb hg_ hnew_;clear hg_ hnew_;(first|rw [← Ny191.out] at ho7|(simp only [Int.reduceToNat] at ho7;rw [← Ny191.out] at ho7));have n0_:=As0.mk (Kd.V_elder' (by (with_reducible repeat (first|apply Kd.V_alloc|apply Kd.V_drewN|apply Kd.V_drew));exact HO0.out) (Kd.N_base ho7) hb);have n1_:=As0.mk (Kd.N_lower ho7 (y06 (by repeat (with_reducible first|exact HB.out|apply y01|apply y00|apply y02))));have n2_:=As0.mk (y04 (by repeat (with_reducible first|exact HB.out|apply y01|apply y00|apply y02)) hb);clear HO0;clear HB;have HO0:=n0_;have HO193:=n1_;have HB:=n2_;clear n0_ n1_ n2_;clear hb ho7;obtain ⟨Ao8,co8,eo8⟩:=Kd.N_slice HO193.out;subst eo8)|((with_reducible refine y0a (f:=49) rfl ?_);refine y0k (some 13) rfl rfl Tra.func49 (by kernel_rfl) rfl #[.slice Ao8 y191.length co8] rfl (by (try simp only [List.map_toArray,List.map_cons,List.map_nil]);first|done|rfl|(simp only [List.length_drop,List.length_take];rfl)) ?_;(with_reducible refine (mobs_read.calls k _ _ y191 t194 _ ?side1 ?side2 A2.out).mono ?_);(case side1=>repeat (first|exact (Kd.N_reads' HO193.out).2.2|(with_reducible refine Kd.C_alloc ?_ _)|(with_reducible refine Kd.C_drewN ?_ _)|(with_reducible refine Kd.C_drew ?_)));(case side2=>exact (Kd.N_reads' HO193.out).2.1);rintro e w9 ⟨rfl,hb⟩;refine ⟨_,rfl,?_⟩;have n0_:=As0.mk (Kd.V_below (by (with_reducible repeat (first|apply Kd.V_alloc|apply Kd.V_drewN|apply Kd.V_drew));exact HO0.out) hb);have n1_:=As0.mk (Kd.N_below (by (with_reducible repeat (first|apply Kd.N_alloc|apply Kd.N_drewN|apply Kd.N_drew));exact HO193.out) hb);have n2_:=As0.mk (y04 (by repeat (with_reducible first|exact HB.out|apply y01|apply y00|apply y02)) hb);clear HO0;clear HO193;clear HB;have HO0:=n0_;have HO193:=n1_;have HB:=n2_;clear n0_ n1_ n2_;(try clear hb);(try clear hb2);(try clear hk);(try clear hi))|((with_reducible refine y0a (f:=50) rfl ?_);refine y0k (some 19) rfl rfl Tra.func50 (by kernel_rfl) rfl #[.slice A0 l0.length c0] rfl (by (try simp only [List.map_toArray,List.map_cons,List.map_nil]);first|done|rfl|(simp only [List.length_drop,List.length_take];rfl)) ?_;(with_reducible refine (mobs_crossed.calls k _ _ l0 t195 t196 t197 t198 true _ ?side1 ?side2 A4.out).mono ?_);(case side1=>repeat (first|exact (Kd.V_reads' HO0.out).2.2|(with_reducible refine Kd.C_alloc ?_ _)|(with_reducible refine Kd.C_drewN ?_ _)|(with_reducible refine Kd.C_drew ?_)));(case side2=>exact (Kd.V_reads' HO0.out).2.1);rintro e w10 ⟨rfl,hb⟩;refine ⟨_,rfl,?_⟩;have n0_:=As0.mk (Kd.V_below (by (with_reducible repeat (first|apply Kd.V_alloc|apply Kd.V_drewN|apply Kd.V_drew));exact HO0.out) hb);have n1_:=As0.mk (Kd.N_below (by (with_reducible repeat (first|apply Kd.N_alloc|apply Kd.N_drewN|apply Kd.N_drew));exact HO193.out) hb);have n2_:=As0.mk (y04 (by repeat (with_reducible first|exact HB.out|apply y01|apply y00|apply y02)) hb);clear HO0;clear HO193;clear HB;have HO0:=n0_;have HO193:=n1_;have HB:=n2_;clear n0_ n1_ n2_;(try clear hb);(try clear hb2);(try clear hk);(try clear hi))|((with_reducible refine y0n (N:=5) rfl ?_);refine y1f ?hg (N:=5) ?hd (cs:=#[.int .i64 0,.int .i64 0,.int .i64 0,.int .i64 0]) (t:=31) ?hr ?_;(case hd=>rfl);(case hg=>rfl);(case hr=>first|(go_simp;done)|(go_simp;rfl));intro gb200 hg w11 hbox hb;have n0_:=As0.mk (Kd.V_below (Kd.V_elderB (by (with_reducible repeat (first|apply Kd.V_alloc|apply Kd.V_drewN|apply Kd.V_drew));exact HO0.out) gb200 (Nat.le_of_eq hg.symm)) hb);have n1_:=As0.mk (Kd.N_below (Kd.N_elderB (by (with_reducible repeat (first|apply Kd.N_alloc|apply Kd.N_drewN|apply Kd.N_drew));exact HO193.out) gb200 (Nat.le_of_eq hg.symm)) hb);have n2_:=As0.mk (y04 (by repeat (with_reducible first|exact HB.out|apply y01|apply y00|apply y02)) hb);have n3_:=As0.mk (hbox);have n4_:=As0.mk ((by rw [hg];exact (y06 (by repeat (with_reducible first|exact HB.out|apply y01|apply y00|apply y02))):w.heap.size≤gb200));have n5_:=As0.mk ((by rw [hg];exact (y06 (by repeat (with_reducible first|exact HB.out|apply y01|apply y00|apply y02))):w.heap.size≤gb200));clear HO0;clear HO193;clear HB;have HO0:=n0_;have HO193:=n1_;have HB:=n2_;have BK200:=n3_;have GW200:=n4_;have GE200:=n5_;clear n0_ n1_ n2_ n3_ n4_ n5_;clear hb hbox hg;have hcz12_0:w11.cell? ⟨gb200,0,none⟩=some (.int .i64 0):=(y0g BK200.out 0).trans rfl;have hcz12_1:w11.cell? ⟨gb200,1,none⟩=some (.int .i64 0):=(y0g BK200.out 1).trans rfl;have hcz12_2:w11.cell? ⟨gb200,2,none⟩=some (.int .i64 0):=(y0g BK200.out 2).trans rfl;have hcz12_3:w11.cell? ⟨gb200,3,none⟩=some (.int .i64 0):=(y0g BK200.out 3).trans rfl;have hfz12_0:=y0e BK200.out 0;have hfz12_1:=y0e BK200.out 1;have hfz12_2:=y0e BK200.out 2;have hfz12_3:=y0e BK200.out 3))
   go_ret2
   exact ⟨_,by first|rfl|(simp [y08,y07]<;>rfl)|(simp [*,y08,y07]<;>rfl),by first|exact Kd.R_nil _ _ _ _ _|exact Kd.N_nil _ _ _ _ _|exact Kd.V_nil _ _ _ _ _|exact Kd.Q_nil _ _ _ _ _|exact Kd.S_nil _ _ _ _ _,by repeat (with_reducible first|exact HB.out|apply y01|apply y00|apply y02|refine y03 ?_ GE200.out)⟩
  ·replace c5:=Bool.eq_false_iff.mpr c5
   subst c5;have H1:(mobs_Between.l0 k l0 ([]:List Int) (l0.length:Int) 0)=some (r1,r2):=by rw [if_neg (show ¬ (false=true) by decide)] at H;exact H
   clear H;have H:=H1;clear H1;have H':=As0.mk H;clear H;go_enter Tra.func25,Tra.ntmps25
   go_wp2_with (first|((with_reducible refine y0n (N:=12) rfl ?_);refine Kd.N_lit (Kd.slice 3 (Kd.int .i64)) _ 29 ?hg (N':=12) ?hd (xs:=([l0]:List (List Int))) (inner:=[.slice A0 l0.length c0]) (ok:=(fun k_=>(P0_ k_∨w.heap.size≤k_))) (okp:=(fun k_=>(P0_ k_∨w.heap.size≤k_))) ?hr ?hp (fun _ hk=>hk) ((show ∀ k_,w.heap.size≤k_->(fun k_=>(P0_ k_∨w.heap.size≤k_)) k_ from fun k_ hk=>(.inr (Nat.le_trans (y06 (by repeat (with_reducible first|exact HB.out|apply y01|apply y00|apply y02))) hk))) _ (zLe _)) (Below.refl _ _) (zLe _) (by simp) ?_;(case hd=>rfl);(case hg=>rfl);(case hr=>first|(go_simp;done)|(go_simp;rfl));(case hp=>exact (Reps.one (show Kd.FK (Kd.slice 3 (Kd.int .i64)) _ _ l0 [.slice A0 l0.length c0] from (Kd.FK_slice_mk (Kd.V_reads' (Kd.V_mono (ok':=(fun k_=>(P0_ k_∨w.heap.size≤k_))) (HO0.out) (fun k_ hk=>hk))).2.1 (Kd.V_F (Kd.V_mono (ok':=(fun k_=>(P0_ k_∨w.heap.size≤k_))) (HO0.out) (fun k_ hk=>hk))))) (Reps.none _ _)));intro v192 w13 ho14 hb hg_ hnew_;clear hg_ hnew_;(first|rw [← Ny191.out] at ho14|(simp only [Int.reduceToNat] at ho14;rw [← Ny191.out] at ho14));have n0_:=As0.mk (Kd.V_elder' (by (with_reducible repeat (first|apply Kd.V_alloc|apply Kd.V_drewN|apply Kd.V_drew));exact HO0.out) (Kd.N_base ho14) hb);have n1_:=As0.mk (Kd.N_lower ho14 (y06 (by repeat (with_reducible first|exact HB.out|apply y01|apply y00|apply y02))));have n2_:=As0.mk (y04 (by repeat (with_reducible first|exact HB.out|apply y01|apply y00|apply y02)) hb);clear HO0;clear HB;have HO0:=n0_;have HO193:=n1_;have HB:=n2_;clear n0_ n1_ n2_;clear hb ho14;obtain ⟨Ao15,co15,eo15⟩:=Kd.N_slice HO193.out;subst eo15)|((with_reducible refine y0a (f:=49) rfl ?_);refine y0k (some 13) rfl rfl Tra.func49 (by kernel_rfl) rfl #[.slice Ao15 y191.length co15] rfl (by (try simp only [List.map_toArray,List.map_cons,List.map_nil]);first|done|rfl|(simp only [List.length_drop,List.length_take];rfl)) ?_;(with_reducible refine (mobs_read.calls k _ _ y191 t194 _ ?side1 ?side2 A2.out).mono ?_);(case side1=>repeat (first|exact (Kd.N_reads' HO193.out).2.2|(with_reducible refine Kd.C_alloc ?_ _)|(with_reducible refine Kd.C_drewN ?_ _)|(with_reducible refine Kd.C_drew ?_)));(case side2=>exact (Kd.N_reads' HO193.out).2.1);rintro e w16 ⟨rfl,hb⟩;refine ⟨_,rfl,?_⟩;have n0_:=As0.mk (Kd.V_below (by (with_reducible repeat (first|apply Kd.V_alloc|apply Kd.V_drewN|apply Kd.V_drew));exact HO0.out) hb);have n1_:=As0.mk (Kd.N_below (by (with_reducible repeat (first|apply Kd.N_alloc|apply Kd.N_drewN|apply Kd.N_drew));exact HO193.out) hb);have n2_:=As0.mk (y04 (by repeat (with_reducible first|exact HB.out|apply y01|apply y00|apply y02)) hb);clear HO0;clear HO193;clear HB;have HO0:=n0_;have HO193:=n1_;have HB:=n2_;clear n0_ n1_ n2_;(try clear hb);(try clear hb2);(try clear hk);(try clear hi))|((with_reducible refine y0a (f:=50) rfl ?_);refine y0k (some 19) rfl rfl Tra.func50 (by kernel_rfl) rfl #[.slice A0 l0.length c0] rfl (by (try simp only [List.map_toArray,List.map_cons,List.map_nil]);first|done|rfl|(simp only [List.length_drop,List.length_take];rfl)) ?_;(with_reducible refine (mobs_crossed.calls k _ _ l0 t195 t196 t197 t198 false _ ?side1 ?side2 A4.out).mono ?_);(case side1=>repeat (first|exact (Kd.V_reads' HO0.out).2.2|(with_reducible refine Kd.C_alloc ?_ _)|(with_reducible refine Kd.C_drewN ?_ _)|(with_reducible refine Kd.C_drew ?_)));(case side2=>exact (Kd.V_reads' HO0.out).2.1);rintro e w17 ⟨rfl,hb⟩;refine ⟨_,rfl,?_⟩;have n0_:=As0.mk (Kd.V_below (by (with_reducible repeat (first|apply Kd.V_alloc|apply Kd.V_drewN|apply Kd.V_drew));exact HO0.out) hb);have n1_:=As0.mk (Kd.N_below (by (with_reducible repeat (first|apply Kd.N_alloc|apply Kd.N_drewN|apply Kd.N_drew));exact HO193.out) hb);have n2_:=As0.mk (y04 (by repeat (with_reducible first|exact HB.out|apply y01|apply y00|apply y02)) hb);clear HO0;clear HO193;clear HB;have HO0:=n0_;have HO193:=n1_;have HB:=n2_;clear n0_ n1_ n2_;(try clear hb);(try clear hb2);(try clear hk);(try clear hi))|((with_reducible refine y0n (N:=5) rfl ?_);refine y1f ?hg (N:=5) ?hd (cs:=#[.int .i64 0,.int .i64 0,.int .i64 0,.int .i64 0]) (t:=31) ?hr ?_;(case hd=>rfl);(case hg=>rfl);(case hr=>first|(go_simp;done)|(go_simp;rfl));intro gb200 hg w18 hbox hb;have n0_:=As0.mk (Kd.V_below (Kd.V_elderB (by (with_reducible repeat (first|apply Kd.V_alloc|apply Kd.V_drewN|apply Kd.V_drew));exact HO0.out) gb200 (Nat.le_of_eq hg.symm)) hb);have n1_:=As0.mk (Kd.N_below (Kd.N_elderB (by (with_reducible repeat (first|apply Kd.N_alloc|apply Kd.N_drewN|apply Kd.N_drew));exact HO193.out) gb200 (Nat.le_of_eq hg.symm)) hb);have n2_:=As0.mk (y04 (by repeat (with_reducible first|exact HB.out|apply y01|apply y00|apply y02)) hb);have n3_:=As0.mk (hbox);have n4_:=As0.mk ((by rw [hg];exact (y06 (by repeat (with_reducible first|exact HB.out|apply y01|apply y00|apply y02))):w.heap.size≤gb200));have n5_:=As0.mk ((by rw [hg];exact (y06 (by repeat (with_reducible first|exact HB.out|apply y01|apply y00|apply y02))):w.heap.size≤gb200));clear HO0;clear HO193;clear HB;have HO0:=n0_;have HO193:=n1_;have HB:=n2_;have BK200:=n3_;have GW200:=n4_;have GE200:=n5_;clear n0_ n1_ n2_ n3_ n4_ n5_;clear hb hbox hg;have hcz19_0:w18.cell? ⟨gb200,0,none⟩=some (.int .i64 0):=(y0g BK200.out 0).trans rfl;have hcz19_1:w18.cell? ⟨gb200,1,none⟩=some (.int .i64 0):=(y0g BK200.out 1).trans rfl;have hcz19_2:w18.cell? ⟨gb200,2,none⟩=some (.int .i64 0):=(y0g BK200.out 2).trans rfl;have hcz19_3:w18.cell? ⟨gb200,3,none⟩=some (.int .i64 0):=(y0g BK200.out 3).trans rfl;have hfz19_0:=y0e BK200.out 0;have hfz19_1:=y0e BK200.out 1;have hfz19_2:=y0e BK200.out 2;have hfz19_3:=y0e BK200.out 3))
   go_loopg [7,25] k (fun kq v7 v25 w'=>∃ (x7_1:List Int) (x25_1:Int),v25=.int .i64 x25_1∧As0 (mobs_Between.l0 kq l0 x7_1 (l0.length:Int) x25_1=some (r1,r2))∧As0 (kq≤k)∧As0 (Kd.V (Kd.int .i64) 3 w' w.heap.size (fun k_=>(P0_ k_∨w.heap.size≤k_)∧some k_≠(v7:Value).ownBlock∧k_≠gb200) (.slice A0 l0.length c0) l0)∧As0 (Kd.R (Kd.int .i64) 3 w' w.heap.size (fun k_=>(w.heap.size≤k_)) v7 x7_1)∧As0 (w'.heap[gb200]?=some (.cells #[.int .i64 t195,.int .i64 t196,.int .i64 t197,.int .i64 t198] 31 (0,0)))∧As0 (Below w.heap.size w w'))
   case atStart=>exact ⟨(([]:List Int)),(0),(by first|rfl|(simp;done)|(simp [*];done)),H',⟨zLe _⟩,⟨by (with_reducible repeat (first|apply Kd.V_alloc|apply Kd.V_drewN|apply Kd.V_drew));exact Kd.V_mono (Kd.V_far (p:=⟨gb200,3,none⟩) (Kd.V_far (p:=⟨gb200,2,none⟩) (Kd.V_far (p:=⟨gb200,1,none⟩) (Kd.V_far (p:=⟨gb200,0,none⟩) (Kd.V_mono HO0.out (fun k_ hk=>(⟨hk,hk.2⟩:_∧k_≠gb200))) (fun _ hk=>hk.2) (.int .i64 t195)) (fun _ hk=>hk.2) (.int .i64 t196)) (fun _ hk=>hk.2) (.int .i64 t197)) (fun _ hk=>hk.2) (.int .i64 t198)) (fun _ hk=>⟨hk.1.1.1,⟨(by simp [Value.ownBlock]),hk.1.2⟩⟩)⟩,⟨by first|exact Kd.R_nil _ _ _ _ _|exact Kd.N_nil _ _ _ _ _|exact Kd.V_nil _ _ _ _ _|exact Kd.Q_nil _ _ _ _ _|exact Kd.S_nil _ _ _ _ _⟩,⟨by (with_reducible repeat (first|refine y05 ?_ _|refine blk_drew ?_|refine blk_alloc ?_ _));refine y0s (cs:=#[.int .i64 t195,.int .i64 t196,.int .i64 t197,.int .i64 0]) ?_ 3 _ rfl;(with_reducible repeat (first|refine y05 ?_ _|refine blk_drew ?_|refine blk_alloc ?_ _));refine y0s (cs:=#[.int .i64 t195,.int .i64 t196,.int .i64 0,.int .i64 0]) ?_ 2 _ rfl;(with_reducible repeat (first|refine y05 ?_ _|refine blk_drew ?_|refine blk_alloc ?_ _));refine y0s (cs:=#[.int .i64 t195,.int .i64 0,.int .i64 0,.int .i64 0]) ?_ 1 _ rfl;(with_reducible repeat (first|refine y05 ?_ _|refine blk_drew ?_|refine blk_alloc ?_ _));refine y0s (cs:=#[.int .i64 0,.int .i64 0,.int .i64 0,.int .i64 0]) ?_ 0 _ rfl;(with_reducible repeat (first|refine y05 ?_ _|refine blk_drew ?_|refine blk_alloc ?_ _));exact BK200.out⟩,⟨by repeat (with_reducible first|exact HB.out|apply y01|apply y00|apply y02|refine y03 ?_ GE200.out)⟩⟩
   case round =>
    clear H'
    try clear c2
    try clear p2
    try clear c3
    try clear c3b0
    try clear c3b1
    try clear c4
    try clear c5
    try clear hcz12_0
    try clear hcz12_1
    try clear hcz12_2
    try clear hcz12_3
    try clear hcz19_0
    try clear hcz19_1
    try clear hcz19_2
    try clear hcz19_3
    try clear hfz12_0
    try clear hfz12_1
    try clear hfz12_2
    try clear hfz12_3
    try clear hfz19_0
    try clear hfz19_1
    try clear hfz19_2
    try clear hfz19_3
    obtain ⟨x7_1,x25_1,rfl,HA,HK1,HO_0,HO_7,BK200,HB⟩:=hrel;cases gk with
    |zero=>exact absurd HA.out (by simp [mobs_Between.l0])
    |succ k1 =>
     have H:=HA.out;clear HA;simp only [mobs_Between.l0] at H
     by_cases c20:x25_1<(l0.length:Int)
     ·rw [if_pos c20] at H
      have c20b0:decide (x25_1<(l0.length:Int))=true:=zDt c20;clear c20;have H':=As0.mk H;clear H;go_wp2
      go_loopg [9,10] k1 (fun kq v9 v10 w'=>∃ (x9_2:Int) (x10_2:Int),v9=.int .i64 x9_2∧v10=.int .i64 x10_2∧As0 (mobs_Between.l1 kq l0 x7_1 x25_1 x9_2 x10_2 (l0.length:Int) x25_1=some (r1,r2))∧As0 (kq≤k1)∧As0 (Kd.V (Kd.int .i64) 3 w' w.heap.size (fun k_=>(P0_ k_∨w.heap.size≤k_)∧some k_≠(u7:Value).ownBlock∧k_≠gb200) (.slice A0 l0.length c0) l0)∧As0 (Kd.R (Kd.int .i64) 3 w' w.heap.size (fun k_=>(w.heap.size≤k_)) u7 x7_1)∧As0 (w'.heap[gb200]?=some (.cells #[.int .i64 t195,.int .i64 t196,.int .i64 t197,.int .i64 t198] 31 (0,0)))∧As0 (Below w.heap.size w w'))
      case atStart=>exact ⟨(x25_1),(wrap64 (x25_1 - 1)),(by first|rfl|(simp;done)|(simp [*];done)),(by first|rfl|(simp;done)|(simp [*];done)),H',⟨zLe _⟩,⟨by (with_reducible repeat (first|apply Kd.V_alloc|apply Kd.V_drewN|apply Kd.V_drew));exact HO_0.out⟩,⟨by (with_reducible repeat (first|apply Kd.R_alloc|apply Kd.R_drewN|apply Kd.R_drew));exact HO_7.out⟩,⟨by (with_reducible repeat (first|refine y05 ?_ _|refine blk_drew ?_|refine blk_alloc ?_ _));exact BK200.out⟩,⟨by repeat (with_reducible first|exact HB.out|apply y01|apply y00|apply y02|refine y03 ?_ GE200.out)⟩⟩
      case round =>
       clear H'
       try clear c2
       try clear p2
       try clear c3
       try clear c3b0
       try clear c3b1
       try clear c4
       try clear c5
       try clear p6
       try clear c20
       try clear c20b0
       try clear hcz12_0
       try clear hcz12_1
       try clear hcz12_2
       try clear hcz12_3
       try clear hcz19_0
       try clear hcz19_1
       try clear hcz19_2
       try clear hcz19_3
       try clear hfz12_0
       try clear hfz12_1
       try clear hfz12_2
       try clear hfz12_3
       try clear hfz19_0
       try clear hfz19_1
       try clear hfz19_2
       try clear hfz19_3
       try clear p2
       obtain ⟨x9_2,x10_2,rfl,rfl,HA,HK2,HO_0,HO_7,BK200,HB⟩:=hrel;cases gk with
       |zero=>exact absurd HA.out (by simp [mobs_Between.l1])
       |succ k2 =>
        have H:=HA.out;clear HA;simp only [mobs_Between.l1] at H
        by_cases c21:x10_2 ≥ 0
        ·rw [if_pos c21] at H
         have c21b0:decide (0≤x10_2)=true:=zDt c21;clear c21;replace H:=Option.bind_eq_some_iff.mp H;obtain ⟨t204,A220,H⟩:=H;replace H:(if t204=true then (mobs_Between.l1 k2 l0 x7_1 x25_1 x9_2 (wrap64 (x10_2 - 1)) (l0.length:Int) x25_1) else (mobs_Between.l1 k2 l0 x7_1 x25_1 x10_2 (wrap64 (x10_2 - 1)) (l0.length:Int) x25_1))=some (r1,r2):=H;have A22:=As0.mk A220;clear A220
         by_cases c23:t204=true
         ·subst c23
          have H1:(mobs_Between.l1 k2 l0 x7_1 x25_1 x9_2 (wrap64 (x10_2 - 1)) (l0.length:Int) x25_1)=some (r1,r2):=by rw [if_pos rfl] at H;exact H
          clear H;have H:=H1;clear H1;have H':=As0.mk H;clear H;go_wp2_with (first|((with_reducible refine y0a (f:=53) rfl ?_);refine y0k (some 38) rfl rfl Tra.func53 (by kernel_rfl) rfl #[.slice A0 l0.length c0,.int .i64 x10_2,.int .i64 x25_1] rfl (by (try simp only [List.map_toArray,List.map_cons,List.map_nil]);first|done|rfl|(simp only [List.length_drop,List.length_take];rfl)) ?_;(with_reducible refine (mobs_parted.calls k2 _ _ l0 x10_2 x25_1 true _ ?side1 ?side2 A22.out).mono ?_);(case side1=>repeat (first|exact (Kd.V_reads' HO_0.out).2.2|(with_reducible refine Kd.C_alloc ?_ _)|(with_reducible refine Kd.C_drewN ?_ _)|(with_reducible refine Kd.C_drew ?_)));(case side2=>exact (Kd.V_reads' HO_0.out).2.1);rintro e w24 ⟨rfl,hb⟩;refine ⟨_,rfl,?_⟩;have n0_:=As0.mk (Kd.V_below (by (with_reducible repeat (first|apply Kd.V_alloc|apply Kd.V_drewN|apply Kd.V_drew));exact HO_0.out) hb);have n1_:=As0.mk (Kd.R_below (by (with_reducible repeat (first|apply Kd.R_alloc|apply Kd.R_drewN|apply Kd.R_drew));exact HO_7.out) hb);have n2_:=As0.mk (y0f (g:=gb200) (o:=.cells #[.int .i64 t195,.int .i64 t196,.int .i64 t197,.int .i64 t198] 31 (0,0)) (by (with_reducible repeat (first|refine y05 ?_ _|refine blk_drew ?_|refine blk_alloc ?_ _));exact BK200.out) hb);have n3_:=As0.mk (y04 (by repeat (with_reducible first|exact HB.out|apply y01|apply y00|apply y02|refine y03 ?_ GE200.out)) hb);clear HO_0;clear HO_7;clear BK200;clear HB;have HO_0:=n0_;have HO_7:=n1_;have BK200:=n2_;have HB:=n3_;clear n0_ n1_ n2_ n3_;(try clear hb);(try clear hb2);(try clear hk);(try clear hi)))
          go_roundg k2
          case measure=>have:=HK1.out;have:=HK2.out;omega
          case rel=>exact ⟨(x9_2),(wrap64 (x10_2 - 1)),(by first|rfl|(simp;done)|(simp [*];done)),(by first|rfl|(simp;done)|(simp [*];done)),H',⟨by have:=HK1.out;have:=HK2.out;omega⟩,⟨by (with_reducible repeat (first|apply Kd.V_alloc|apply Kd.V_drewN|apply Kd.V_drew));exact HO_0.out⟩,⟨by (with_reducible repeat (first|apply Kd.R_alloc|apply Kd.R_drewN|apply Kd.R_drew));exact HO_7.out⟩,⟨by (with_reducible repeat (first|refine y05 ?_ _|refine blk_drew ?_|refine blk_alloc ?_ _));exact BK200.out⟩,⟨by repeat (with_reducible first|exact HB.out|apply y01|apply y00|apply y02|refine y03 ?_ GE200.out)⟩⟩
         ·replace c23:=Bool.eq_false_iff.mpr c23
          subst c23;have H1:(mobs_Between.l1 k2 l0 x7_1 x25_1 x10_2 (wrap64 (x10_2 - 1)) (l0.length:Int) x25_1)=some (r1,r2):=by rw [if_neg (show ¬ (false=true) by decide)] at H;exact H
          clear H;have H:=H1;clear H1;have H':=As0.mk H;clear H;go_wp2_with (first|((with_reducible refine y0a (f:=53) rfl ?_);refine y0k (some 38) rfl rfl Tra.func53 (by kernel_rfl) rfl #[.slice A0 l0.length c0,.int .i64 x10_2,.int .i64 x25_1] rfl (by (try simp only [List.map_toArray,List.map_cons,List.map_nil]);first|done|rfl|(simp only [List.length_drop,List.length_take];rfl)) ?_;(with_reducible refine (mobs_parted.calls k2 _ _ l0 x10_2 x25_1 false _ ?side1 ?side2 A22.out).mono ?_);(case side1=>repeat (first|exact (Kd.V_reads' HO_0.out).2.2|(with_reducible refine Kd.C_alloc ?_ _)|(with_reducible refine Kd.C_drewN ?_ _)|(with_reducible refine Kd.C_drew ?_)));(case side2=>exact (Kd.V_reads' HO_0.out).2.1);rintro e w25 ⟨rfl,hb⟩;refine ⟨_,rfl,?_⟩;have n0_:=As0.mk (Kd.V_below (by (with_reducible repeat (first|apply Kd.V_alloc|apply Kd.V_drewN|apply Kd.V_drew));exact HO_0.out) hb);have n1_:=As0.mk (Kd.R_below (by (with_reducible repeat (first|apply Kd.R_alloc|apply Kd.R_drewN|apply Kd.R_drew));exact HO_7.out) hb);have n2_:=As0.mk (y0f (g:=gb200) (o:=.cells #[.int .i64 t195,.int .i64 t196,.int .i64 t197,.int .i64 t198] 31 (0,0)) (by (with_reducible repeat (first|refine y05 ?_ _|refine blk_drew ?_|refine blk_alloc ?_ _));exact BK200.out) hb);have n3_:=As0.mk (y04 (by repeat (with_reducible first|exact HB.out|apply y01|apply y00|apply y02|refine y03 ?_ GE200.out)) hb);clear HO_0;clear HO_7;clear BK200;clear HB;have HO_0:=n0_;have HO_7:=n1_;have BK200:=n2_;have HB:=n3_;clear n0_ n1_ n2_ n3_;(try clear hb);(try clear hb2);(try clear hk);(try clear hi)))
          go_roundg k2
          case measure=>have:=HK1.out;have:=HK2.out;omega
          case rel=>exact ⟨(x10_2),(wrap64 (x10_2 - 1)),(by first|rfl|(simp;done)|(simp [*];done)),(by first|rfl|(simp;done)|(simp [*];done)),H',⟨by have:=HK1.out;have:=HK2.out;omega⟩,⟨by (with_reducible repeat (first|apply Kd.V_alloc|apply Kd.V_drewN|apply Kd.V_drew));exact HO_0.out⟩,⟨by (with_reducible repeat (first|apply Kd.R_alloc|apply Kd.R_drewN|apply Kd.R_drew));exact HO_7.out⟩,⟨by (with_reducible repeat (first|refine y05 ?_ _|refine blk_drew ?_|refine blk_alloc ?_ _));exact BK200.out⟩,⟨by repeat (with_reducible first|exact HB.out|apply y01|apply y00|apply y02|refine y03 ?_ GE200.out)⟩⟩
        ·rw [if_neg c21] at H
         have c21b0:decide (0≤x10_2)=false:=zDf c21;clear c21
         by_cases c26:x7_1.length<17592186044416
         ·rw [if_pos c26] at H
          have LMc26:=As0.mk c26;clear c26;obtain ⟨y205,hy205⟩:∃ y_:List Int,y_=(x7_1 ++ [x9_2]):=⟨_,rfl⟩
          replace H:(mobs_Between.l0 k2 l0 y205 (l0.length:Int) (wrap64 (x25_1+1)))=some (r1,r2):=by first|(rw [hy205];with_reducible exact H)|(have H2_:=(Option.bind_some _ _).symm.trans H;rw [hy205];with_reducible exact H2_)|(have H2_:=(Option.bind_some _ _).symm.trans H;with_reducible exact H2_)|with_reducible exact H|(rw [hy205];exact H)|exact H
          have Ny205:=As0.mk hy205;clear hy205;have H':=As0.mk H;clear H;go_wp2_with (first|((with_reducible refine y1n (b:=.append) (xs:=#[.tmp 41,.tmp 43]) rfl ?_);at_builtin;refine Kd.R_append (Kd.int .i64) (w0:=w) w.heap.size rfl (.tmp 41) (.tmp 43) 29 3 (.int .i64 0) 8 rfl Tra.underlying29 info3 rfl (by decide) (by omega) u7 x7_1 x9_2 [.int .i64 x9_2] (fun k_=>(w.heap.size≤k_)) (fun _=>False) rfl rfl ?aP (fun _ hk=>hk.elim) ?aF ?aO ?aB ?aS ?aL ?_;(case aP=>exact rfl);(case aB=>exact (by repeat (with_reducible first|exact HB.out|apply y01|apply y00|apply y02|refine y03 ?_ GE200.out)));(case aF=>exact (fun k_ hk=>(Nat.le_trans (y06 (by repeat (with_reducible first|exact HB.out|apply y01|apply y00|apply y02|refine y03 ?_ GE200.out))) hk)));(case aO=>exact (by (with_reducible repeat (first|apply Kd.R_alloc|apply Kd.R_drewN|apply Kd.R_drew));exact HO_7.out));(case aS=>exact (y06 (by repeat (with_reducible first|exact HB.out|apply y01|apply y00|apply y02|refine y03 ?_ GE200.out))));(case aL=>have:=LMc26.out;omega);intro v206 w27 ho hb hg hat;rw [← Ny205.out] at ho;have n0_:=As0.mk (Kd.V_afterv (ok:=(fun k_=>(P0_ k_∨w.heap.size≤k_)∧k_≠gb200)) (by (with_reducible repeat (first|apply Kd.V_alloc|apply Kd.V_drewN|apply Kd.V_drew));exact Kd.V_mono HO_0.out (fun _ hk=>⟨⟨hk.1,hk.2.2⟩,hk.2.1⟩)) hg hat);have n1_:=As0.mk (y9b (g:=gb200) (o:=.cells #[.int .i64 t195,.int .i64 t196,.int .i64 t197,.int .i64 t198] 31 (0,0)) (by (with_reducible repeat (first|refine y05 ?_ _|refine blk_drew ?_|refine blk_alloc ?_ _));exact BK200.out) hg (Kd.R_ne HO_7.out BK200.out (by decide)));have n2_:=As0.mk (hb);have n3_:=As0.mk (ho);clear HO_0;clear BK200;clear HB;clear HO_7;have HO_0:=n0_;have BK200:=n1_;have HB:=n2_;have HO207:=n3_;clear n0_ n1_ n2_ n3_;clear ho hb hg hat))
          go_roundg k2
          case measure=>have:=HK1.out;have:=HK2.out;omega
          case rel=>exact ⟨(y205),(wrap64 (x25_1+1)),(by first|rfl|(simp;done)|(simp [*];done)),H',⟨by have:=HK1.out;have:=HK2.out;omega⟩,⟨by (with_reducible repeat (first|apply Kd.V_alloc|apply Kd.V_drewN|apply Kd.V_drew));exact Kd.V_mono HO_0.out (fun _ hk=>⟨hk.1.1,⟨hk.2,hk.1.2⟩⟩)⟩,⟨by (with_reducible repeat (first|apply Kd.R_alloc|apply Kd.R_drewN|apply Kd.R_drew));exact HO207.out⟩,⟨by (with_reducible repeat (first|refine y05 ?_ _|refine blk_drew ?_|refine blk_alloc ?_ _));exact BK200.out⟩,⟨by repeat (with_reducible first|exact HB.out|apply y01|apply y00|apply y02|refine y03 ?_ GE200.out)⟩⟩
         ·rw [if_neg c26] at H
          exact absurd H (by simp)
     ·rw [if_neg c20] at H
      have c20b0:decide (x25_1<(l0.length:Int))=false:=zDf c20;clear c20;replace H:=Option.bind_eq_some_iff.mp H;obtain ⟨t201,A280,H⟩:=H;replace H:(some (t201,0))=some (r1,r2):=H;have A28:=As0.mk A280;clear A280;simp only [Option.some.injEq,Prod.mk.injEq] at H;obtain ⟨rfl,rfl⟩:=H;obtain ⟨Ao29,co29,eo29⟩:=Kd.R_slice HO_7.out;subst eo29;go_wp2_with (first|((with_reducible refine y0a (f:=54) rfl ?_);refine y0k (some 47) rfl rfl Tra.func54 (by kernel_rfl) rfl #[.slice Ao29 x7_1.length co29] rfl (by (try simp only [List.map_toArray,List.map_cons,List.map_nil]);first|done|rfl|(simp only [List.length_drop,List.length_take];rfl)) ?_;(with_reducible refine (mobs_number_int.calls _ _ x7_1 t201 _ ?side1 ?side2 A28.out).mono ?_);(case side1=>repeat (first|exact (Kd.R_reads' HO_7.out).2.2|(with_reducible refine Kd.C_alloc ?_ _)|(with_reducible refine Kd.C_drewN ?_ _)|(with_reducible refine Kd.C_drew ?_)));(case side2=>exact (Kd.R_reads' HO_7.out).2.1);rintro e w30 ⟨v202,rfl,ho0,hb⟩;refine ⟨_,rfl,?_⟩;have n0_:=As0.mk (Kd.V_elder' (by (with_reducible repeat (first|apply Kd.V_alloc|apply Kd.V_drewN|apply Kd.V_drew));exact HO_0.out) (Kd.R_base ho0) hb);have n1_:=As0.mk (Kd.R_elder' (by (with_reducible repeat (first|apply Kd.R_alloc|apply Kd.R_drewN|apply Kd.R_drew));exact HO_7.out) (Kd.R_base ho0) hb);have n2_:=As0.mk (Kd.R_lower (Kd.R_new' (Kd.R_newM (M:=fun k_=>(w.heap.size≤k_)) ho0 (y06 (by repeat (with_reducible first|exact HB.out|apply y01|apply y00|apply y02|refine y03 ?_ GE200.out))) (fun k_ h_=>h_)) (Kd.R_lt (by (with_reducible repeat (first|apply Kd.R_alloc|apply Kd.R_drewN|apply Kd.R_drew));exact HO_7.out))) (y06 (by repeat (with_reducible first|exact HB.out|apply y01|apply y00|apply y02|refine y03 ?_ GE200.out))));have n3_:=As0.mk (y0f (g:=gb200) (o:=.cells #[.int .i64 t195,.int .i64 t196,.int .i64 t197,.int .i64 t198] 31 (0,0)) (by (with_reducible repeat (first|refine y05 ?_ _|refine blk_drew ?_|refine blk_alloc ?_ _));exact BK200.out) hb);have n4_:=As0.mk (y04 (by repeat (with_reducible first|exact HB.out|apply y01|apply y00|apply y02|refine y03 ?_ GE200.out)) hb);clear HO_0;clear HO_7;clear BK200;clear HB;have HO_0:=n0_;have HO_7:=n1_;have HO203:=n2_;have BK200:=n3_;have HB:=n4_;clear n0_ n1_ n2_ n3_ n4_;(try clear hb);(try clear hb2);(try clear hk);(try clear hi);(try clear ho0)))
      go_ret2
      exact ⟨_,by first|rfl|(simp [y08,y07]<;>rfl)|(simp [*,y08,y07]<;>rfl),by (with_reducible repeat (first|apply Kd.R_alloc|apply Kd.R_drewN|apply Kd.R_drew));exact Kd.R_mono HO203.out (fun _ hk=>hk.1.1),by repeat (with_reducible first|exact HB.out|apply y01|apply y00|apply y02|refine y03 ?_ GE200.out)⟩
 ·rw [if_neg c3] at H
  have c3b0:(t194 == 0)=false:=beq_eq_false_iff_ne.mpr c3;have c3b1:(t194 != 0)=true:=bne_iff_ne.mpr c3;simp only [Option.some.injEq,Prod.mk.injEq] at H;obtain ⟨rfl,rfl⟩:=H;go_enter Tra.func25,Tra.ntmps25
  go_wp2_with (first|((with_reducible refine y0n (N:=12) rfl ?_);refine Kd.N_lit (Kd.slice 3 (Kd.int .i64)) _ 29 ?hg (N':=12) ?hd (xs:=([l0]:List (List Int))) (inner:=[.slice A0 l0.length c0]) (ok:=(fun k_=>(P0_ k_∨w.heap.size≤k_))) (okp:=(fun k_=>(P0_ k_∨w.heap.size≤k_))) ?hr ?hp (fun _ hk=>hk) ((show ∀ k_,w.heap.size≤k_->(fun k_=>(P0_ k_∨w.heap.size≤k_)) k_ from fun k_ hk=>(.inr (Nat.le_trans (y06 (by repeat (with_reducible first|exact HB.out|apply y01|apply y00|apply y02))) hk))) _ (zLe _)) (Below.refl _ _) (zLe _) (by simp) ?_;(case hd=>rfl);(case hg=>rfl);(case hr=>first|(go_simp;done)|(go_simp;rfl));(case hp=>exact (Reps.one (show Kd.FK (Kd.slice 3 (Kd.int .i64)) _ _ l0 [.slice A0 l0.length c0] from (Kd.FK_slice_mk (Kd.V_reads' (Kd.V_mono (ok':=(fun k_=>(P0_ k_∨w.heap.size≤k_))) (HO0.out) (fun k_ hk=>hk))).2.1 (Kd.V_F (Kd.V_mono (ok':=(fun k_=>(P0_ k_∨w.heap.size≤k_))) (HO0.out) (fun k_ hk=>hk))))) (Reps.none _ _)));intro v192 w31 ho32 hb hg_ hnew_;clear hg_ hnew_;(first|rw [← Ny191.out] at ho32|(simp only [Int.reduceToNat] at ho32;rw [← Ny191.out] at ho32));have n0_:=As0.mk (Kd.V_elder' (by (with_reducible repeat (first|apply Kd.V_alloc|apply Kd.V_drewN|apply Kd.V_drew));exact HO0.out) (Kd.N_base ho32) hb);have n1_:=As0.mk (Kd.N_lower ho32 (y06 (by repeat (with_reducible first|exact HB.out|apply y01|apply y00|apply y02))));have n2_:=As0.mk (y04 (by repeat (with_reducible first|exact HB.out|apply y01|apply y00|apply y02)) hb);clear HO0;clear HB;have HO0:=n0_;have HO193:=n1_;have HB:=n2_;clear n0_ n1_ n2_;clear hb ho32;obtain ⟨Ao33,co33,eo33⟩:=Kd.N_slice HO193.out;subst eo33)|((with_reducible refine y0a (f:=49) rfl ?_);refine y0k (some 13) rfl rfl Tra.func49 (by kernel_rfl) rfl #[.slice Ao33 y191.length co33] rfl (by (try simp only [List.map_toArray,List.map_cons,List.map_nil]);first|done|rfl|(simp only [List.length_drop,List.length_take];rfl)) ?_;(with_reducible refine (mobs_read.calls k _ _ y191 t194 _ ?side1 ?side2 A2.out).mono ?_);(case side1=>repeat (first|exact (Kd.N_reads' HO193.out).2.2|(with_reducible refine Kd.C_alloc ?_ _)|(with_reducible refine Kd.C_drewN ?_ _)|(with_reducible refine Kd.C_drew ?_)));(case side2=>exact (Kd.N_reads' HO193.out).2.1);rintro e w34 ⟨rfl,hb⟩;refine ⟨_,rfl,?_⟩;have n0_:=As0.mk (Kd.V_below (by (with_reducible repeat (first|apply Kd.V_alloc|apply Kd.V_drewN|apply Kd.V_drew));exact HO0.out) hb);have n1_:=As0.mk (Kd.N_below (by (with_reducible repeat (first|apply Kd.N_alloc|apply Kd.N_drewN|apply Kd.N_drew));exact HO193.out) hb);have n2_:=As0.mk (y04 (by repeat (with_reducible first|exact HB.out|apply y01|apply y00|apply y02)) hb);clear HO0;clear HO193;clear HB;have HO0:=n0_;have HO193:=n1_;have HB:=n2_;clear n0_ n1_ n2_;(try clear hb);(try clear hb2);(try clear hk);(try clear hi)))
  go_ret2
  exact ⟨_,by first|rfl|(simp [y08,y07]<;>rfl)|(simp [*,y08,y07]<;>rfl),by first|exact Kd.R_nil _ _ _ _ _|exact Kd.N_nil _ _ _ _ _|exact Kd.V_nil _ _ _ _ _|exact Kd.Q_nil _ _ _ _ _|exact Kd.S_nil _ _ _ _ _,by repeat (with_reducible first|exact HB.out|apply y01|apply y00|apply y02)⟩
theorem mobs_Between.flat (k:Nat) (P0_:Nat->Prop) (A0:Option Addr) (c0:Nat) (l0:List Int) (r1:List Int) (r2:Int) (w:World) (hs0:Kd.V (Kd.int .i64) 3 w w.heap.size (fun k_=>P0_ k_) (.slice A0 l0.length c0) l0) (h:mobs_Between.f k l0=some (r1,r2)) :
  Calls Tra.prog 25 #[.slice A0 l0.length c0] w fun e w'=>∃ v0_:Value,e=.returned (.tuple #[v0_,.int .i64 r2])∧Ext.OwnI w' w.heap.size v0_ r1∧Below w.heap.size w w':=by
 have hu31:=Tra.underlying31;have HO0:=As0.mk (show Kd.V (Kd.int .i64) 3 w w.heap.size (fun k_=>(P0_ k_∨w.heap.size≤k_)) (.slice A0 l0.length c0) l0 from Kd.V_mono hs0 (fun k_ hk=>.inl hk));have HB:=As0.mk (Below.refl w.heap.size w);have H:((mobs_read.f k (([l0]:List (List Int)))).bind fun t194=>(if t194=0 then ((mobs_crossed.f k l0).bind fun bt195=>(if bt195.2.2.2.2=true then (some (([]:List Int),9)) else (mobs_Between.l0 k l0 ([]:List Int) (l0.length:Int) 0))) else (some (([]:List Int),t194))))=some (r1,r2):=h;clear h;obtain ⟨y191,hy191⟩:∃ y_:List (List Int),y_=(([l0]:List (List Int))):=⟨_,rfl⟩
 replace H:((mobs_read.f k y191).bind fun t194=>(if t194=0 then ((mobs_crossed.f k l0).bind fun bt195=>(if bt195.2.2.2.2=true then (some (([]:List Int),9)) else (mobs_Between.l0 k l0 ([]:List Int) (l0.length:Int) 0))) else (some (([]:List Int),t194))))=some (r1,r2):=by first|(rw [hy191];with_reducible exact H)|(have H2_:=(Option.bind_some _ _).symm.trans H;rw [hy191];with_reducible exact H2_)|(have H2_:=(Option.bind_some _ _).symm.trans H;with_reducible exact H2_)|with_reducible exact H|(rw [hy191];exact H)|exact H
 have Ny191:=As0.mk hy191;clear hy191;replace H:=Option.bind_eq_some_iff.mp H;obtain ⟨t194,A20,H⟩:=H;replace H:(if t194=0 then ((mobs_crossed.f k l0).bind fun bt195=>(if bt195.2.2.2.2=true then (some (([]:List Int),9)) else (mobs_Between.l0 k l0 ([]:List Int) (l0.length:Int) 0))) else (some (([]:List Int),t194)))=some (r1,r2):=H;have A2:=As0.mk A20;clear A20
 by_cases c3:t194=0
 ·rw [if_pos c3] at H
  have c3b0:(t194 == 0)=true:=beq_iff_eq.mpr c3;have c3b1:(t194 != 0)=false:=bne_eq_false_iff_eq.mpr c3;clear c3;replace H:=Option.bind_eq_some_iff.mp H;obtain ⟨⟨t195,t196,t197,t198,t199⟩,A40,H⟩:=H;replace H:(if t199=true then (some (([]:List Int),9)) else (mobs_Between.l0 k l0 ([]:List Int) (l0.length:Int) 0))=some (r1,r2):=H;have A4:=As0.mk A40;clear A40
  by_cases c5:t199=true
  ·subst c5
   have H1:(some (([]:List Int),9))=some (r1,r2):=by rw [if_pos rfl] at H;exact H
   clear H;have H:=H1;clear H1;simp only [Option.some.injEq,Prod.mk.injEq] at H;obtain ⟨rfl,rfl⟩:=H;go_enter Tra.func25,Tra.ntmps25
   go_wp2_with (first|((with_reducible refine y0n (N:=12) rfl ?_);refine Kd.N_lit (Kd.slice 3 (Kd.int .i64)) _ 29 ?hg (N':=12) ?hd (xs:=([l0]:List (List Int))) (inner:=[.slice A0 l0.length c0]) (ok:=(fun k_=>(P0_ k_∨w.heap.size≤k_))) (okp:=(fun k_=>(P0_ k_∨w.heap.size≤k_))) ?hr ?hp (fun _ hk=>hk) ((show ∀ k_,w.heap.size≤k_->(fun k_=>(P0_ k_∨w.heap.size≤k_)) k_ from fun k_ hk=>(.inr (Nat.le_trans (y06 (by repeat (with_reducible first|exact HB.out|apply y01|apply y00|apply y02))) hk))) _ (zLe _)) (Below.refl _ _) (zLe _) (by simp) ?_;(case hd=>rfl);(case hg=>rfl);(case hr=>first|(go_simp;done)|(go_simp;rfl));(case hp=>exact (Reps.one (show Kd.FK (Kd.slice 3 (Kd.int .i64)) _ _ l0 [.slice A0 l0.length c0] from (Kd.FK_slice_mk (Kd.V_reads' (Kd.V_mono (ok':=(fun k_=>(P0_ k_∨w.heap.size≤k_))) (HO0.out) (fun k_ hk=>hk))).2.1 (Kd.V_F (Kd.V_mono (ok':=(fun k_=>(P0_ k_∨w.heap.size≤k_))) (HO0.out) (fun k_ hk=>hk))))) (Reps.none _ _)));intro v192 w6 ho7 hb hg_ hnew_;clear hg_ hnew_;(first|rw [← Ny191.out] at ho7|(simp only [Int.reduceToNat] at ho7;rw [← Ny191.out] at ho7));have n0_:=As0.mk (Kd.V_elder' (by (with_reducible repeat (first|apply Kd.V_alloc|apply Kd.V_drewN|apply Kd.V_drew));exact HO0.out) (Kd.N_base ho7) hb);have n1_:=As0.mk (Kd.N_lower ho7 (y06 (by repeat (with_reducible first|exact HB.out|apply y01|apply y00|apply y02))));have n2_:=As0.mk (y04 (by repeat (with_reducible first|exact HB.out|apply y01|apply y00|apply y02)) hb);clear HO0;clear HB;have HO0:=n0_;have HO193:=n1_;have HB:=n2_;clear n0_ n1_ n2_;clear hb ho7;obtain ⟨Ao8,co8,eo8⟩:=Kd.N_slice HO193.out;subst eo8)|((with_reducible refine y0a (f:=49) rfl ?_);refine y0k (some 13) rfl rfl Tra.func49 (by kernel_rfl) rfl #[.slice Ao8 y191.length co8] rfl (by (try simp only [List.map_toArray,List.map_cons,List.map_nil]);first|done|rfl|(simp only [List.length_drop,List.length_take];rfl)) ?_;(with_reducible refine (mobs_read.calls k _ _ y191 t194 _ ?side1 ?side2 A2.out).mono ?_);(case side1=>repeat (first|exact (Kd.N_reads' HO193.out).2.2|(with_reducible refine Kd.C_alloc ?_ _)|(with_reducible refine Kd.C_drewN ?_ _)|(with_reducible refine Kd.C_drew ?_)));(case side2=>exact (Kd.N_reads' HO193.out).2.1);rintro e w9 ⟨rfl,hb⟩;refine ⟨_,rfl,?_⟩;have n0_:=As0.mk (Kd.V_below (by (with_reducible repeat (first|apply Kd.V_alloc|apply Kd.V_drewN|apply Kd.V_drew));exact HO0.out) hb);have n1_:=As0.mk (Kd.N_below (by (with_reducible repeat (first|apply Kd.N_alloc|apply Kd.N_drewN|apply Kd.N_drew));exact HO193.out) hb);have n2_:=As0.mk (y04 (by repeat (with_reducible first|exact HB.out|apply y01|apply y00|apply y02)) hb);clear HO0;clear HO193;clear HB;have HO0:=n0_;have HO193:=n1_;have HB:=n2_;clear n0_ n1_ n2_;(try clear hb);(try clear hb2);(try clear hk);(try clear hi))|((with_reducible refine y0a (f:=50) rfl ?_);refine y0k (some 19) rfl rfl Tra.func50 (by kernel_rfl) rfl #[.slice A0 l0.length c0] rfl (by (try simp only [List.map_toArray,List.map_cons,List.map_nil]);first|done|rfl|(simp only [List.length_drop,List.length_take];rfl)) ?_;(with_reducible refine (mobs_crossed.calls k _ _ l0 t195 t196 t197 t198 true _ ?side1 ?side2 A4.out).mono ?_);(case side1=>repeat (first|exact (Kd.V_reads' HO0.out).2.2|(with_reducible refine Kd.C_alloc ?_ _)|(with_reducible refine Kd.C_drewN ?_ _)|(with_reducible refine Kd.C_drew ?_)));(case side2=>exact (Kd.V_reads' HO0.out).2.1);rintro e w10 ⟨rfl,hb⟩;refine ⟨_,rfl,?_⟩;have n0_:=As0.mk (Kd.V_below (by (with_reducible repeat (first|apply Kd.V_alloc|apply Kd.V_drewN|apply Kd.V_drew));exact HO0.out) hb);have n1_:=As0.mk (Kd.N_below (by (with_reducible repeat (first|apply Kd.N_alloc|apply Kd.N_drewN|apply Kd.N_drew));exact HO193.out) hb);have n2_:=As0.mk (y04 (by repeat (with_reducible first|exact HB.out|apply y01|apply y00|apply y02)) hb);clear HO0;clear HO193;clear HB;have HO0:=n0_;have HO193:=n1_;have HB:=n2_;clear n0_ n1_ n2_;(try clear hb);(try clear hb2);(try clear hk);(try clear hi))|((with_reducible refine y0n (N:=5) rfl ?_);refine y1f ?hg (N:=5) ?hd (cs:=#[.int .i64 0,.int .i64 0,.int .i64 0,.int .i64 0]) (t:=31) ?hr ?_;(case hd=>rfl);(case hg=>rfl);(case hr=>first|(go_simp;done)|(go_simp;rfl));intro gb200 hg w11 hbox hb;have n0_:=As0.mk (Kd.V_below (Kd.V_elderB (by (with_reducible repeat (first|apply Kd.V_alloc|apply Kd.V_drewN|apply Kd.V_drew));exact HO0.out) gb200 (Nat.le_of_eq hg.symm)) hb);have n1_:=As0.mk (Kd.N_below (Kd.N_elderB (by (with_reducible repeat (first|apply Kd.N_alloc|apply Kd.N_drewN|apply Kd.N_drew));exact HO193.out) gb200 (Nat.le_of_eq hg.symm)) hb);have n2_:=As0.mk (y04 (by repeat (with_reducible first|exact HB.out|apply y01|apply y00|apply y02)) hb);have n3_:=As0.mk (hbox);have n4_:=As0.mk ((by rw [hg];exact (y06 (by repeat (with_reducible first|exact HB.out|apply y01|apply y00|apply y02))):w.heap.size≤gb200));have n5_:=As0.mk ((by rw [hg];exact (y06 (by repeat (with_reducible first|exact HB.out|apply y01|apply y00|apply y02))):w.heap.size≤gb200));clear HO0;clear HO193;clear HB;have HO0:=n0_;have HO193:=n1_;have HB:=n2_;have BK200:=n3_;have GW200:=n4_;have GE200:=n5_;clear n0_ n1_ n2_ n3_ n4_ n5_;clear hb hbox hg;have hcz12_0:w11.cell? ⟨gb200,0,none⟩=some (.int .i64 0):=(y0g BK200.out 0).trans rfl;have hcz12_1:w11.cell? ⟨gb200,1,none⟩=some (.int .i64 0):=(y0g BK200.out 1).trans rfl;have hcz12_2:w11.cell? ⟨gb200,2,none⟩=some (.int .i64 0):=(y0g BK200.out 2).trans rfl;have hcz12_3:w11.cell? ⟨gb200,3,none⟩=some (.int .i64 0):=(y0g BK200.out 3).trans rfl;have hfz12_0:=y0e BK200.out 0;have hfz12_1:=y0e BK200.out 1;have hfz12_2:=y0e BK200.out 2;have hfz12_3:=y0e BK200.out 3))
   go_ret2
   exact ⟨_,by first|rfl|(simp [y08,y07]<;>rfl)|(simp [*,y08,y07]<;>rfl),by first|exact Ext.OwnI.nil _ _|exact Kd.N_nil _ _ _ _ _|exact Kd.V_nil _ _ _ _ _|exact Kd.Q_nil _ _ _ _ _|exact Kd.S_nil _ _ _ _ _,by repeat (with_reducible first|exact HB.out|apply y01|apply y00|apply y02|refine y03 ?_ GE200.out)⟩
  ·replace c5:=Bool.eq_false_iff.mpr c5
   subst c5;have H1:(mobs_Between.l0 k l0 ([]:List Int) (l0.length:Int) 0)=some (r1,r2):=by rw [if_neg (show ¬ (false=true) by decide)] at H;exact H
   clear H;have H:=H1;clear H1;have H':=As0.mk H;clear H;go_enter Tra.func25,Tra.ntmps25
   go_wp2_with (first|((with_reducible refine y0n (N:=12) rfl ?_);refine Kd.N_lit (Kd.slice 3 (Kd.int .i64)) _ 29 ?hg (N':=12) ?hd (xs:=([l0]:List (List Int))) (inner:=[.slice A0 l0.length c0]) (ok:=(fun k_=>(P0_ k_∨w.heap.size≤k_))) (okp:=(fun k_=>(P0_ k_∨w.heap.size≤k_))) ?hr ?hp (fun _ hk=>hk) ((show ∀ k_,w.heap.size≤k_->(fun k_=>(P0_ k_∨w.heap.size≤k_)) k_ from fun k_ hk=>(.inr (Nat.le_trans (y06 (by repeat (with_reducible first|exact HB.out|apply y01|apply y00|apply y02))) hk))) _ (zLe _)) (Below.refl _ _) (zLe _) (by simp) ?_;(case hd=>rfl);(case hg=>rfl);(case hr=>first|(go_simp;done)|(go_simp;rfl));(case hp=>exact (Reps.one (show Kd.FK (Kd.slice 3 (Kd.int .i64)) _ _ l0 [.slice A0 l0.length c0] from (Kd.FK_slice_mk (Kd.V_reads' (Kd.V_mono (ok':=(fun k_=>(P0_ k_∨w.heap.size≤k_))) (HO0.out) (fun k_ hk=>hk))).2.1 (Kd.V_F (Kd.V_mono (ok':=(fun k_=>(P0_ k_∨w.heap.size≤k_))) (HO0.out) (fun k_ hk=>hk))))) (Reps.none _ _)));intro v192 w13 ho14 hb hg_ hnew_;clear hg_ hnew_;(first|rw [← Ny191.out] at ho14|(simp only [Int.reduceToNat] at ho14;rw [← Ny191.out] at ho14));have n0_:=As0.mk (Kd.V_elder' (by (with_reducible repeat (first|apply Kd.V_alloc|apply Kd.V_drewN|apply Kd.V_drew));exact HO0.out) (Kd.N_base ho14) hb);have n1_:=As0.mk (Kd.N_lower ho14 (y06 (by repeat (with_reducible first|exact HB.out|apply y01|apply y00|apply y02))));have n2_:=As0.mk (y04 (by repeat (with_reducible first|exact HB.out|apply y01|apply y00|apply y02)) hb);clear HO0;clear HB;have HO0:=n0_;have HO193:=n1_;have HB:=n2_;clear n0_ n1_ n2_;clear hb ho14;obtain ⟨Ao15,co15,eo15⟩:=Kd.N_slice HO193.out;subst eo15)|((with_reducible refine y0a (f:=49) rfl ?_);refine y0k (some 13) rfl rfl Tra.func49 (by kernel_rfl) rfl #[.slice Ao15 y191.length co15] rfl (by (try simp only [List.map_toArray,List.map_cons,List.map_nil]);first|done|rfl|(simp only [List.length_drop,List.length_take];rfl)) ?_;(with_reducible refine (mobs_read.calls k _ _ y191 t194 _ ?side1 ?side2 A2.out).mono ?_);(case side1=>repeat (first|exact (Kd.N_reads' HO193.out).2.2|(with_reducible refine Kd.C_alloc ?_ _)|(with_reducible refine Kd.C_drewN ?_ _)|(with_reducible refine Kd.C_drew ?_)));(case side2=>exact (Kd.N_reads' HO193.out).2.1);rintro e w16 ⟨rfl,hb⟩;refine ⟨_,rfl,?_⟩;have n0_:=As0.mk (Kd.V_below (by (with_reducible repeat (first|apply Kd.V_alloc|apply Kd.V_drewN|apply Kd.V_drew));exact HO0.out) hb);have n1_:=As0.mk (Kd.N_below (by (with_reducible repeat (first|apply Kd.N_alloc|apply Kd.N_drewN|apply Kd.N_drew));exact HO193.out) hb);have n2_:=As0.mk (y04 (by repeat (with_reducible first|exact HB.out|apply y01|apply y00|apply y02)) hb);clear HO0;clear HO193;clear HB;have HO0:=n0_;have HO193:=n1_;have HB:=n2_;clear n0_ n1_ n2_;(try clear hb);(try clear hb2);(try clear hk);(try clear hi))|((with_reducible refine y0a (f:=50) rfl ?_);refine y0k (some 19) rfl rfl Tra.func50 (by kernel_rfl) rfl #[.slice A0 l0.length c0] rfl (by (try simp only [List.map_toArray,List.map_cons,List.map_nil]);first|done|rfl|(simp only [List.length_drop,List.length_take];rfl)) ?_;(with_reducible refine (mobs_crossed.calls k _ _ l0 t195 t196 t197 t198 false _ ?side1 ?side2 A4.out).mono ?_);(case side1=>repeat (first|exact (Kd.V_reads' HO0.out).2.2|(with_reducible refine Kd.C_alloc ?_ _)|(with_reducible refine Kd.C_drewN ?_ _)|(with_reducible refine Kd.C_drew ?_)));(case side2=>exact (Kd.V_reads' HO0.out).2.1);rintro e w17 ⟨rfl,hb⟩;refine ⟨_,rfl,?_⟩;have n0_:=As0.mk (Kd.V_below (by (with_reducible repeat (first|apply Kd.V_alloc|apply Kd.V_drewN|apply Kd.V_drew));exact HO0.out) hb);have n1_:=As0.mk (Kd.N_below (by (with_reducible repeat (first|apply Kd.N_alloc|apply Kd.N_drewN|apply Kd.N_drew));exact HO193.out) hb);have n2_:=As0.mk (y04 (by repeat (with_reducible first|exact HB.out|apply y01|apply y00|apply y02)) hb);clear HO0;clear HO193;clear HB;have HO0:=n0_;have HO193:=n1_;have HB:=n2_;clear n0_ n1_ n2_;(try clear hb);(try clear hb2);(try clear hk);(try clear hi))|((with_reducible refine y0n (N:=5) rfl ?_);refine y1f ?hg (N:=5) ?hd (cs:=#[.int .i64 0,.int .i64 0,.int .i64 0,.int .i64 0]) (t:=31) ?hr ?_;(case hd=>rfl);(case hg=>rfl);(case hr=>first|(go_simp;done)|(go_simp;rfl));intro gb200 hg w18 hbox hb;have n0_:=As0.mk (Kd.V_below (Kd.V_elderB (by (with_reducible repeat (first|apply Kd.V_alloc|apply Kd.V_drewN|apply Kd.V_drew));exact HO0.out) gb200 (Nat.le_of_eq hg.symm)) hb);have n1_:=As0.mk (Kd.N_below (Kd.N_elderB (by (with_reducible repeat (first|apply Kd.N_alloc|apply Kd.N_drewN|apply Kd.N_drew));exact HO193.out) gb200 (Nat.le_of_eq hg.symm)) hb);have n2_:=As0.mk (y04 (by repeat (with_reducible first|exact HB.out|apply y01|apply y00|apply y02)) hb);have n3_:=As0.mk (hbox);have n4_:=As0.mk ((by rw [hg];exact (y06 (by repeat (with_reducible first|exact HB.out|apply y01|apply y00|apply y02))):w.heap.size≤gb200));have n5_:=As0.mk ((by rw [hg];exact (y06 (by repeat (with_reducible first|exact HB.out|apply y01|apply y00|apply y02))):w.heap.size≤gb200));clear HO0;clear HO193;clear HB;have HO0:=n0_;have HO193:=n1_;have HB:=n2_;have BK200:=n3_;have GW200:=n4_;have GE200:=n5_;clear n0_ n1_ n2_ n3_ n4_ n5_;clear hb hbox hg;have hcz19_0:w18.cell? ⟨gb200,0,none⟩=some (.int .i64 0):=(y0g BK200.out 0).trans rfl;have hcz19_1:w18.cell? ⟨gb200,1,none⟩=some (.int .i64 0):=(y0g BK200.out 1).trans rfl;have hcz19_2:w18.cell? ⟨gb200,2,none⟩=some (.int .i64 0):=(y0g BK200.out 2).trans rfl;have hcz19_3:w18.cell? ⟨gb200,3,none⟩=some (.int .i64 0):=(y0g BK200.out 3).trans rfl;have hfz19_0:=y0e BK200.out 0;have hfz19_1:=y0e BK200.out 1;have hfz19_2:=y0e BK200.out 2;have hfz19_3:=y0e BK200.out 3))
   go_loopg [7,25] k (fun kq v7 v25 w'=>∃ (x7_1:List Int) (x25_1:Int),v25=.int .i64 x25_1∧As0 (mobs_Between.l0 kq l0 x7_1 (l0.length:Int) x25_1=some (r1,r2))∧As0 (kq≤k)∧As0 (Kd.V (Kd.int .i64) 3 w' w.heap.size (fun k_=>(P0_ k_∨w.heap.size≤k_)∧some k_≠(v7:Value).ownBlock∧k_≠gb200) (.slice A0 l0.length c0) l0)∧As0 (Kd.R (Kd.int .i64) 3 w' w.heap.size (fun k_=>(w.heap.size≤k_)) v7 x7_1)∧As0 (w'.heap[gb200]?=some (.cells #[.int .i64 t195,.int .i64 t196,.int .i64 t197,.int .i64 t198] 31 (0,0)))∧As0 (Below w.heap.size w w'))
   case atStart=>exact ⟨(([]:List Int)),(0),(by first|rfl|(simp;done)|(simp [*];done)),H',⟨zLe _⟩,⟨by (with_reducible repeat (first|apply Kd.V_alloc|apply Kd.V_drewN|apply Kd.V_drew));exact Kd.V_mono (Kd.V_far (p:=⟨gb200,3,none⟩) (Kd.V_far (p:=⟨gb200,2,none⟩) (Kd.V_far (p:=⟨gb200,1,none⟩) (Kd.V_far (p:=⟨gb200,0,none⟩) (Kd.V_mono HO0.out (fun k_ hk=>(⟨hk,hk.2⟩:_∧k_≠gb200))) (fun _ hk=>hk.2) (.int .i64 t195)) (fun _ hk=>hk.2) (.int .i64 t196)) (fun _ hk=>hk.2) (.int .i64 t197)) (fun _ hk=>hk.2) (.int .i64 t198)) (fun _ hk=>⟨hk.1.1.1,⟨(by simp [Value.ownBlock]),hk.1.2⟩⟩)⟩,⟨by first|exact Kd.R_nil _ _ _ _ _|exact Kd.N_nil _ _ _ _ _|exact Kd.V_nil _ _ _ _ _|exact Kd.Q_nil _ _ _ _ _|exact Kd.S_nil _ _ _ _ _⟩,⟨by (with_reducible repeat (first|refine y05 ?_ _|refine blk_drew ?_|refine blk_alloc ?_ _));refine y0s (cs:=#[.int .i64 t195,.int .i64 t196,.int .i64 t197,.int .i64 0]) ?_ 3 _ rfl;(with_reducible repeat (first|refine y05 ?_ _|refine blk_drew ?_|refine blk_alloc ?_ _));refine y0s (cs:=#[.int .i64 t195,.int .i64 t196,.int .i64 0,.int .i64 0]) ?_ 2 _ rfl;(with_reducible repeat (first|refine y05 ?_ _|refine blk_drew ?_|refine blk_alloc ?_ _));refine y0s (cs:=#[.int .i64 t195,.int .i64 0,.int .i64 0,.int .i64 0]) ?_ 1 _ rfl;(with_reducible repeat (first|refine y05 ?_ _|refine blk_drew ?_|refine blk_alloc ?_ _));refine y0s (cs:=#[.int .i64 0,.int .i64 0,.int .i64 0,.int .i64 0]) ?_ 0 _ rfl;(with_reducible repeat (first|refine y05 ?_ _|refine blk_drew ?_|refine blk_alloc ?_ _));exact BK200.out⟩,⟨by repeat (with_reducible first|exact HB.out|apply y01|apply y00|apply y02|refine y03 ?_ GE200.out)⟩⟩
   case round =>
    clear H'
    try clear c2
    try clear p2
    try clear c3
    try clear c3b0
    try clear c3b1
    try clear c4
    try clear c5
    try clear hcz12_0
    try clear hcz12_1
    try clear hcz12_2
    try clear hcz12_3
    try clear hcz19_0
    try clear hcz19_1
    try clear hcz19_2
    try clear hcz19_3
    try clear hfz12_0
    try clear hfz12_1
    try clear hfz12_2
    try clear hfz12_3
    try clear hfz19_0
    try clear hfz19_1
    try clear hfz19_2
    try clear hfz19_3
    obtain ⟨x7_1,x25_1,rfl,HA,HK1,HO_0,HO_7,BK200,HB⟩:=hrel;cases gk with
    |zero=>exact absurd HA.out (by simp [mobs_Between.l0])
    |succ k1 =>
     have H:=HA.out;clear HA;simp only [mobs_Between.l0] at H
     by_cases c20:x25_1<(l0.length:Int)
     ·rw [if_pos c20] at H
      have c20b0:decide (x25_1<(l0.length:Int))=true:=zDt c20;clear c20;have H':=As0.mk H;clear H;go_wp2
      go_loopg [9,10] k1 (fun kq v9 v10 w'=>∃ (x9_2:Int) (x10_2:Int),v9=.int .i64 x9_2∧v10=.int .i64 x10_2∧As0 (mobs_Between.l1 kq l0 x7_1 x25_1 x9_2 x10_2 (l0.length:Int) x25_1=some (r1,r2))∧As0 (kq≤k1)∧As0 (Kd.V (Kd.int .i64) 3 w' w.heap.size (fun k_=>(P0_ k_∨w.heap.size≤k_)∧some k_≠(u7:Value).ownBlock∧k_≠gb200) (.slice A0 l0.length c0) l0)∧As0 (Kd.R (Kd.int .i64) 3 w' w.heap.size (fun k_=>(w.heap.size≤k_)) u7 x7_1)∧As0 (w'.heap[gb200]?=some (.cells #[.int .i64 t195,.int .i64 t196,.int .i64 t197,.int .i64 t198] 31 (0,0)))∧As0 (Below w.heap.size w w'))
      case atStart=>exact ⟨(x25_1),(wrap64 (x25_1 - 1)),(by first|rfl|(simp;done)|(simp [*];done)),(by first|rfl|(simp;done)|(simp [*];done)),H',⟨zLe _⟩,⟨by (with_reducible repeat (first|apply Kd.V_alloc|apply Kd.V_drewN|apply Kd.V_drew));exact HO_0.out⟩,⟨by (with_reducible repeat (first|apply Kd.R_alloc|apply Kd.R_drewN|apply Kd.R_drew));exact HO_7.out⟩,⟨by (with_reducible repeat (first|refine y05 ?_ _|refine blk_drew ?_|refine blk_alloc ?_ _));exact BK200.out⟩,⟨by repeat (with_reducible first|exact HB.out|apply y01|apply y00|apply y02|refine y03 ?_ GE200.out)⟩⟩
      case round =>
       clear H'
       try clear c2
       try clear p2
       try clear c3
       try clear c3b0
       try clear c3b1
       try clear c4
       try clear c5
       try clear p6
       try clear c20
       try clear c20b0
       try clear hcz12_0
       try clear hcz12_1
       try clear hcz12_2
       try clear hcz12_3
       try clear hcz19_0
       try clear hcz19_1
       try clear hcz19_2
       try clear hcz19_3
       try clear hfz12_0
       try clear hfz12_1
       try clear hfz12_2
       try clear hfz12_3
       try clear hfz19_0
       try clear hfz19_1
       try clear hfz19_2
       try clear hfz19_3
       try clear p2
       obtain ⟨x9_2,x10_2,rfl,rfl,HA,HK2,HO_0,HO_7,BK200,HB⟩:=hrel;cases gk with
       |zero=>exact absurd HA.out (by simp [mobs_Between.l1])
       |succ k2 =>
        have H:=HA.out;clear HA;simp only [mobs_Between.l1] at H
        by_cases c21:x10_2 ≥ 0
        ·rw [if_pos c21] at H
         have c21b0:decide (0≤x10_2)=true:=zDt c21;clear c21;replace H:=Option.bind_eq_some_iff.mp H;obtain ⟨t204,A220,H⟩:=H;replace H:(if t204=true then (mobs_Between.l1 k2 l0 x7_1 x25_1 x9_2 (wrap64 (x10_2 - 1)) (l0.length:Int) x25_1) else (mobs_Between.l1 k2 l0 x7_1 x25_1 x10_2 (wrap64 (x10_2 - 1)) (l0.length:Int) x25_1))=some (r1,r2):=H;have A22:=As0.mk A220;clear A220
         by_cases c23:t204=true
         ·subst c23
          have H1:(mobs_Between.l1 k2 l0 x7_1 x25_1 x9_2 (wrap64 (x10_2 - 1)) (l0.length:Int) x25_1)=some (r1,r2):=by rw [if_pos rfl] at H;exact H
          clear H;have H:=H1;clear H1;have H':=As0.mk H;clear H;go_wp2_with (first|((with_reducible refine y0a (f:=53) rfl ?_);refine y0k (some 38) rfl rfl Tra.func53 (by kernel_rfl) rfl #[.slice A0 l0.length c0,.int .i64 x10_2,.int .i64 x25_1] rfl (by (try simp only [List.map_toArray,List.map_cons,List.map_nil]);first|done|rfl|(simp only [List.length_drop,List.length_take];rfl)) ?_;(with_reducible refine (mobs_parted.calls k2 _ _ l0 x10_2 x25_1 true _ ?side1 ?side2 A22.out).mono ?_);(case side1=>repeat (first|exact (Kd.V_reads' HO_0.out).2.2|(with_reducible refine Kd.C_alloc ?_ _)|(with_reducible refine Kd.C_drewN ?_ _)|(with_reducible refine Kd.C_drew ?_)));(case side2=>exact (Kd.V_reads' HO_0.out).2.1);rintro e w24 ⟨rfl,hb⟩;refine ⟨_,rfl,?_⟩;have n0_:=As0.mk (Kd.V_below (by (with_reducible repeat (first|apply Kd.V_alloc|apply Kd.V_drewN|apply Kd.V_drew));exact HO_0.out) hb);have n1_:=As0.mk (Kd.R_below (by (with_reducible repeat (first|apply Kd.R_alloc|apply Kd.R_drewN|apply Kd.R_drew));exact HO_7.out) hb);have n2_:=As0.mk (y0f (g:=gb200) (o:=.cells #[.int .i64 t195,.int .i64 t196,.int .i64 t197,.int .i64 t198] 31 (0,0)) (by (with_reducible repeat (first|refine y05 ?_ _|refine blk_drew ?_|refine blk_alloc ?_ _));exact BK200.out) hb);have n3_:=As0.mk (y04 (by repeat (with_reducible first|exact HB.out|apply y01|apply y00|apply y02|refine y03 ?_ GE200.out)) hb);clear HO_0;clear HO_7;clear BK200;clear HB;have HO_0:=n0_;have HO_7:=n1_;have BK200:=n2_;have HB:=n3_;clear n0_ n1_ n2_ n3_;(try clear hb);(try clear hb2);(try clear hk);(try clear hi)))
          go_roundg k2
          case measure=>have:=HK1.out;have:=HK2.out;omega
          case rel=>exact ⟨(x9_2),(wrap64 (x10_2 - 1)),(by first|rfl|(simp;done)|(simp [*];done)),(by first|rfl|(simp;done)|(simp [*];done)),H',⟨by have:=HK1.out;have:=HK2.out;omega⟩,⟨by (with_reducible repeat (first|apply Kd.V_alloc|apply Kd.V_drewN|apply Kd.V_drew));exact HO_0.out⟩,⟨by (with_reducible repeat (first|apply Kd.R_alloc|apply Kd.R_drewN|apply Kd.R_drew));exact HO_7.out⟩,⟨by (with_reducible repeat (first|refine y05 ?_ _|refine blk_drew ?_|refine blk_alloc ?_ _));exact BK200.out⟩,⟨by repeat (with_reducible first|exact HB.out|apply y01|apply y00|apply y02|refine y03 ?_ GE200.out)⟩⟩
         ·replace c23:=Bool.eq_false_iff.mpr c23
          subst c23;have H1:(mobs_Between.l1 k2 l0 x7_1 x25_1 x10_2 (wrap64 (x10_2 - 1)) (l0.length:Int) x25_1)=some (r1,r2):=by rw [if_neg (show ¬ (false=true) by decide)] at H;exact H
          clear H;have H:=H1;clear H1;have H':=As0.mk H;clear H;go_wp2_with (first|((with_reducible refine y0a (f:=53) rfl ?_);refine y0k (some 38) rfl rfl Tra.func53 (by kernel_rfl) rfl #[.slice A0 l0.length c0,.int .i64 x10_2,.int .i64 x25_1] rfl (by (try simp only [List.map_toArray,List.map_cons,List.map_nil]);first|done|rfl|(simp only [List.length_drop,List.length_take];rfl)) ?_;(with_reducible refine (mobs_parted.calls k2 _ _ l0 x10_2 x25_1 false _ ?side1 ?side2 A22.out).mono ?_);(case side1=>repeat (first|exact (Kd.V_reads' HO_0.out).2.2|(with_reducible refine Kd.C_alloc ?_ _)|(with_reducible refine Kd.C_drewN ?_ _)|(with_reducible refine Kd.C_drew ?_)));(case side2=>exact (Kd.V_reads' HO_0.out).2.1);rintro e w25 ⟨rfl,hb⟩;refine ⟨_,rfl,?_⟩;have n0_:=As0.mk (Kd.V_below (by (with_reducible repeat (first|apply Kd.V_alloc|apply Kd.V_drewN|apply Kd.V_drew));exact HO_0.out) hb);have n1_:=As0.mk (Kd.R_below (by (with_reducible repeat (first|apply Kd.R_alloc|apply Kd.R_drewN|apply Kd.R_drew));exact HO_7.out) hb);have n2_:=As0.mk (y0f (g:=gb200) (o:=.cells #[.int .i64 t195,.int .i64 t196,.int .i64 t197,.int .i64 t198] 31 (0,0)) (by (with_reducible repeat (first|refine y05 ?_ _|refine blk_drew ?_|refine blk_alloc ?_ _));exact BK200.out) hb);have n3_:=As0.mk (y04 (by repeat (with_reducible first|exact HB.out|apply y01|apply y00|apply y02|refine y03 ?_ GE200.out)) hb);clear HO_0;clear HO_7;clear BK200;clear HB;have HO_0:=n0_;have HO_7:=n1_;have BK200:=n2_;have HB:=n3_;clear n0_ n1_ n2_ n3_;(try clear hb);(try clear hb2);(try clear hk);(try clear hi)))
          go_roundg k2
          case measure=>have:=HK1.out;have:=HK2.out;omega
          case rel=>exact ⟨(x10_2),(wrap64 (x10_2 - 1)),(by first|rfl|(simp;done)|(simp [*];done)),(by first|rfl|(simp;done)|(simp [*];done)),H',⟨by have:=HK1.out;have:=HK2.out;omega⟩,⟨by (with_reducible repeat (first|apply Kd.V_alloc|apply Kd.V_drewN|apply Kd.V_drew));exact HO_0.out⟩,⟨by (with_reducible repeat (first|apply Kd.R_alloc|apply Kd.R_drewN|apply Kd.R_drew));exact HO_7.out⟩,⟨by (with_reducible repeat (first|refine y05 ?_ _|refine blk_drew ?_|refine blk_alloc ?_ _));exact BK200.out⟩,⟨by repeat (with_reducible first|exact HB.out|apply y01|apply y00|apply y02|refine y03 ?_ GE200.out)⟩⟩
        ·rw [if_neg c21] at H
         have c21b0:decide (0≤x10_2)=false:=zDf c21;clear c21
         by_cases c26:x7_1.length<17592186044416
         ·rw [if_pos c26] at H
          have LMc26:=As0.mk c26;clear c26;obtain ⟨y205,hy205⟩:∃ y_:List Int,y_=(x7_1 ++ [x9_2]):=⟨_,rfl⟩
          replace H:(mobs_Between.l0 k2 l0 y205 (l0.length:Int) (wrap64 (x25_1+1)))=some (r1,r2):=by first|(rw [hy205];with_reducible exact H)|(have H2_:=(Option.bind_some _ _).symm.trans H;rw [hy205];with_reducible exact H2_)|(have H2_:=(Option.bind_some _ _).symm.trans H;with_reducible exact H2_)|with_reducible exact H|(rw [hy205];exact H)|exact H
          have Ny205:=As0.mk hy205;clear hy205;have H':=As0.mk H;clear H;go_wp2_with (first|((with_reducible refine y1n (b:=.append) (xs:=#[.tmp 41,.tmp 43]) rfl ?_);at_builtin;refine Kd.R_append (Kd.int .i64) (w0:=w) w.heap.size rfl (.tmp 41) (.tmp 43) 29 3 (.int .i64 0) 8 rfl Tra.underlying29 info3 rfl (by decide) (by omega) u7 x7_1 x9_2 [.int .i64 x9_2] (fun k_=>(w.heap.size≤k_)) (fun _=>False) rfl rfl ?aP (fun _ hk=>hk.elim) ?aF ?aO ?aB ?aS ?aL ?_;(case aP=>exact rfl);(case aB=>exact (by repeat (with_reducible first|exact HB.out|apply y01|apply y00|apply y02|refine y03 ?_ GE200.out)));(case aF=>exact (fun k_ hk=>(Nat.le_trans (y06 (by repeat (with_reducible first|exact HB.out|apply y01|apply y00|apply y02|refine y03 ?_ GE200.out))) hk)));(case aO=>exact (by (with_reducible repeat (first|apply Kd.R_alloc|apply Kd.R_drewN|apply Kd.R_drew));exact HO_7.out));(case aS=>exact (y06 (by repeat (with_reducible first|exact HB.out|apply y01|apply y00|apply y02|refine y03 ?_ GE200.out))));(case aL=>have:=LMc26.out;omega);intro v206 w27 ho hb hg hat;rw [← Ny205.out] at ho;have n0_:=As0.mk (Kd.V_afterv (ok:=(fun k_=>(P0_ k_∨w.heap.size≤k_)∧k_≠gb200)) (by (with_reducible repeat (first|apply Kd.V_alloc|apply Kd.V_drewN|apply Kd.V_drew));exact Kd.V_mono HO_0.out (fun _ hk=>⟨⟨hk.1,hk.2.2⟩,hk.2.1⟩)) hg hat);have n1_:=As0.mk (y9b (g:=gb200) (o:=.cells #[.int .i64 t195,.int .i64 t196,.int .i64 t197,.int .i64 t198] 31 (0,0)) (by (with_reducible repeat (first|refine y05 ?_ _|refine blk_drew ?_|refine blk_alloc ?_ _));exact BK200.out) hg (Kd.R_ne HO_7.out BK200.out (by decide)));have n2_:=As0.mk (hb);have n3_:=As0.mk (ho);clear HO_0;clear BK200;clear HB;clear HO_7;have HO_0:=n0_;have BK200:=n1_;have HB:=n2_;have HO207:=n3_;clear n0_ n1_ n2_ n3_;clear ho hb hg hat))
          go_roundg k2
          case measure=>have:=HK1.out;have:=HK2.out;omega
          case rel=>exact ⟨(y205),(wrap64 (x25_1+1)),(by first|rfl|(simp;done)|(simp [*];done)),H',⟨by have:=HK1.out;have:=HK2.out;omega⟩,⟨by (with_reducible repeat (first|apply Kd.V_alloc|apply Kd.V_drewN|apply Kd.V_drew));exact Kd.V_mono HO_0.out (fun _ hk=>⟨hk.1.1,⟨hk.2,hk.1.2⟩⟩)⟩,⟨by (with_reducible repeat (first|apply Kd.R_alloc|apply Kd.R_drewN|apply Kd.R_drew));exact HO207.out⟩,⟨by (with_reducible repeat (first|refine y05 ?_ _|refine blk_drew ?_|refine blk_alloc ?_ _));exact BK200.out⟩,⟨by repeat (with_reducible first|exact HB.out|apply y01|apply y00|apply y02|refine y03 ?_ GE200.out)⟩⟩
         ·rw [if_neg c26] at H
          exact absurd H (by simp)
     ·rw [if_neg c20] at H
      have c20b0:decide (x25_1<(l0.length:Int))=false:=zDf c20;clear c20;replace H:=Option.bind_eq_some_iff.mp H;obtain ⟨t201,A280,H⟩:=H;replace H:(some (t201,0))=some (r1,r2):=H;have A28:=As0.mk A280;clear A280;simp only [Option.some.injEq,Prod.mk.injEq] at H;obtain ⟨rfl,rfl⟩:=H;obtain ⟨Ao29,co29,eo29⟩:=Kd.R_slice HO_7.out;subst eo29;go_wp2_with (first|((with_reducible refine y0a (f:=54) rfl ?_);refine y0k (some 47) rfl rfl Tra.func54 (by kernel_rfl) rfl #[.slice Ao29 x7_1.length co29] rfl (by (try simp only [List.map_toArray,List.map_cons,List.map_nil]);first|done|rfl|(simp only [List.length_drop,List.length_take];rfl)) ?_;(with_reducible refine (mobs_number_int.own _ _ x7_1 t201 _ ?side1 ?side2 A28.out).mono ?_);(case side1=>repeat (first|exact (Kd.R_reads' HO_7.out).2.2|(with_reducible refine Kd.C_alloc ?_ _)|(with_reducible refine Kd.C_drewN ?_ _)|(with_reducible refine Kd.C_drew ?_)));(case side2=>exact (Kd.R_reads' HO_7.out).2.1);rintro e w30 ⟨v202,rfl,hoI_,hb⟩;have HOI_:=As0.mk (hoI_.lower (y06 (by repeat (with_reducible first|exact HB.out|apply y01|apply y00|apply y02|refine y03 ?_ GE200.out))));have ho0:=hoI_.toR;clear hoI_;refine ⟨_,rfl,?_⟩;have n0_:=As0.mk (Kd.V_elder' (by (with_reducible repeat (first|apply Kd.V_alloc|apply Kd.V_drewN|apply Kd.V_drew));exact HO_0.out) (Kd.R_base ho0) hb);have n1_:=As0.mk (Kd.R_elder' (by (with_reducible repeat (first|apply Kd.R_alloc|apply Kd.R_drewN|apply Kd.R_drew));exact HO_7.out) (Kd.R_base ho0) hb);have n2_:=As0.mk (Kd.R_lower (Kd.R_new' (Kd.R_newM (M:=fun k_=>(w.heap.size≤k_)) ho0 (y06 (by repeat (with_reducible first|exact HB.out|apply y01|apply y00|apply y02|refine y03 ?_ GE200.out))) (fun k_ h_=>h_)) (Kd.R_lt (by (with_reducible repeat (first|apply Kd.R_alloc|apply Kd.R_drewN|apply Kd.R_drew));exact HO_7.out))) (y06 (by repeat (with_reducible first|exact HB.out|apply y01|apply y00|apply y02|refine y03 ?_ GE200.out))));have n3_:=As0.mk (y0f (g:=gb200) (o:=.cells #[.int .i64 t195,.int .i64 t196,.int .i64 t197,.int .i64 t198] 31 (0,0)) (by (with_reducible repeat (first|refine y05 ?_ _|refine blk_drew ?_|refine blk_alloc ?_ _));exact BK200.out) hb);have n4_:=As0.mk (y04 (by repeat (with_reducible first|exact HB.out|apply y01|apply y00|apply y02|refine y03 ?_ GE200.out)) hb);clear HO_0;clear HO_7;clear BK200;clear HB;have HO_0:=n0_;have HO_7:=n1_;have HO203:=n2_;have BK200:=n3_;have HB:=n4_;clear n0_ n1_ n2_ n3_ n4_;(try clear hb);(try clear hb2);(try clear hk);(try clear hi);(try clear ho0)))
      go_ret2
      exact ⟨_,by first|rfl|(simp [y08,y07]<;>rfl)|(simp [*,y08,y07]<;>rfl),HOI_.out,by repeat (with_reducible first|exact HB.out|apply y01|apply y00|apply y02|refine y03 ?_ GE200.out)⟩
 ·rw [if_neg c3] at H
  have c3b0:(t194 == 0)=false:=beq_eq_false_iff_ne.mpr c3;have c3b1:(t194 != 0)=true:=bne_iff_ne.mpr c3;simp only [Option.some.injEq,Prod.mk.injEq] at H;obtain ⟨rfl,rfl⟩:=H;go_enter Tra.func25,Tra.ntmps25
  go_wp2_with (first|((with_reducible refine y0n (N:=12) rfl ?_);refine Kd.N_lit (Kd.slice 3 (Kd.int .i64)) _ 29 ?hg (N':=12) ?hd (xs:=([l0]:List (List Int))) (inner:=[.slice A0 l0.length c0]) (ok:=(fun k_=>(P0_ k_∨w.heap.size≤k_))) (okp:=(fun k_=>(P0_ k_∨w.heap.size≤k_))) ?hr ?hp (fun _ hk=>hk) ((show ∀ k_,w.heap.size≤k_->(fun k_=>(P0_ k_∨w.heap.size≤k_)) k_ from fun k_ hk=>(.inr (Nat.le_trans (y06 (by repeat (with_reducible first|exact HB.out|apply y01|apply y00|apply y02))) hk))) _ (zLe _)) (Below.refl _ _) (zLe _) (by simp) ?_;(case hd=>rfl);(case hg=>rfl);(case hr=>first|(go_simp;done)|(go_simp;rfl));(case hp=>exact (Reps.one (show Kd.FK (Kd.slice 3 (Kd.int .i64)) _ _ l0 [.slice A0 l0.length c0] from (Kd.FK_slice_mk (Kd.V_reads' (Kd.V_mono (ok':=(fun k_=>(P0_ k_∨w.heap.size≤k_))) (HO0.out) (fun k_ hk=>hk))).2.1 (Kd.V_F (Kd.V_mono (ok':=(fun k_=>(P0_ k_∨w.heap.size≤k_))) (HO0.out) (fun k_ hk=>hk))))) (Reps.none _ _)));intro v192 w31 ho32 hb hg_ hnew_;clear hg_ hnew_;(first|rw [← Ny191.out] at ho32|(simp only [Int.reduceToNat] at ho32;rw [← Ny191.out] at ho32));have n0_:=As0.mk (Kd.V_elder' (by (with_reducible repeat (first|apply Kd.V_alloc|apply Kd.V_drewN|apply Kd.V_drew));exact HO0.out) (Kd.N_base ho32) hb);have n1_:=As0.mk (Kd.N_lower ho32 (y06 (by repeat (with_reducible first|exact HB.out|apply y01|apply y00|apply y02))));have n2_:=As0.mk (y04 (by repeat (with_reducible first|exact HB.out|apply y01|apply y00|apply y02)) hb);clear HO0;clear HB;have HO0:=n0_;have HO193:=n1_;have HB:=n2_;clear n0_ n1_ n2_;clear hb ho32;obtain ⟨Ao33,co33,eo33⟩:=Kd.N_slice HO193.out;subst eo33)|((with_reducible refine y0a (f:=49) rfl ?_);refine y0k (some 13) rfl rfl Tra.func49 (by kernel_rfl) rfl #[.slice Ao33 y191.length co33] rfl (by (try simp only [List.map_toArray,List.map_cons,List.map_nil]);first|done|rfl|(simp only [List.length_drop,List.length_take];rfl)) ?_;(with_reducible refine (mobs_read.calls k _ _ y191 t194 _ ?side1 ?side2 A2.out).mono ?_);(case side1=>repeat (first|exact (Kd.N_reads' HO193.out).2.2|(with_reducible refine Kd.C_alloc ?_ _)|(with_reducible refine Kd.C_drewN ?_ _)|(with_reducible refine Kd.C_drew ?_)));(case side2=>exact (Kd.N_reads' HO193.out).2.1);rintro e w34 ⟨rfl,hb⟩;refine ⟨_,rfl,?_⟩;have n0_:=As0.mk (Kd.V_below (by (with_reducible repeat (first|apply Kd.V_alloc|apply Kd.V_drewN|apply Kd.V_drew));exact HO0.out) hb);have n1_:=As0.mk (Kd.N_below (by (with_reducible repeat (first|apply Kd.N_alloc|apply Kd.N_drewN|apply Kd.N_drew));exact HO193.out) hb);have n2_:=As0.mk (y04 (by repeat (with_reducible first|exact HB.out|apply y01|apply y00|apply y02)) hb);clear HO0;clear HO193;clear HB;have HO0:=n0_;have HO193:=n1_;have HB:=n2_;clear n0_ n1_ n2_;(try clear hb);(try clear hb2);(try clear hk);(try clear hi)))
  go_ret2
  exact ⟨_,by first|rfl|(simp [y08,y07]<;>rfl)|(simp [*,y08,y07]<;>rfl),by first|exact Ext.OwnI.nil _ _|exact Kd.N_nil _ _ _ _ _|exact Kd.V_nil _ _ _ _ _|exact Kd.Q_nil _ _ _ _ _|exact Kd.S_nil _ _ _ _ _,by repeat (with_reducible first|exact HB.out|apply y01|apply y00|apply y02)⟩
end Go.Proofs.Ytdhgeondbnpeoaa.P
namespace Go.Proofs.Ytdhgeondbnpeoaa.P
open Go.RowKit Go.Proofs.Yw.Wd Go.Proofs.Yw.La Go.Proofs.Yw.Mo
section
attribute [local go_sem] y13 y11 y1c y1b y0v y0u y12 y10
mutual
def mobs_choose.j0:Nat->Int->Int->Bool->Option (Int)
 |0,_,_,_=>none
 |k+1,x0,x1,x13=>if x13=true then (some 0) else (mobs_choose.l0 k x0 1 x1 0)
def mobs_choose.l0:Nat->Int->Int->Int->Int->Option (Int)
 |0,_,_,_,_=>none
 |k+1,x0,x5,x14,x15=>if x15<x14 then (if (wrap64 (x15+1))=0 then (none) else (mobs_choose.l0 k x0 (wrap64 (Int.tdiv (wrap64 (x5 * (wrap64 (x0 - x15)))) (wrap64 (x15+1)))) x14 (wrap64 (x15+1)))) else (some x5)
end
def mobs_choose.f (k:Nat) (a0:Int) (a1:Int):Option (Int):=if a1<0 then (mobs_choose.j0 k a0 a1 true) else (mobs_choose.j0 k a0 a1 (decide (a1 > a0)))
theorem mobs_choose.calls (k:Nat) (a0:Int) (a1:Int) (r:Int) (w:World) (h:mobs_choose.f k a0 a1=some r) :
  Calls Tra.prog 47 #[.int .i64 a0,.int .i64 a1] w fun e w'=>e=.returned (.int .i64 r)∧Drawn0 w w':=by
 have H:(if a1<0 then (mobs_choose.j0 k a0 a1 true) else (mobs_choose.j0 k a0 a1 (decide (a1 > a0))))=some r:=h;clear h;have HC3:=As0.mk H;clear H;go_enter Tra.func47,Tra.ntmps47
 go_upto_region 1 with (fail)
 go_cut [13] (fun v13 wc=>∃ (kq:Nat) (x13_2:Bool),v13=.bool x13_2∧As0 (mobs_choose.j0 kq a0 a1 x13_2=some r)∧As0 (kq≤k)∧Drawn0 w wc)
 case first =>
  have H:=HC3.out;clear HC3
  by_cases c4:a1<0
  ·rw [if_pos c4] at H
   have c4b0:decide (a1<0)=true:=zDt c4;clear c4
   (first|rw [c4b0]|(simp only [y0p,y0w];rw [c4b0])|skip)
   have H':=As0.mk H;clear H;go_wp2
   go_meet
   case rel=>exact ⟨_,(true),(by first|rfl|(simp;done)|(simp [*];done)),H',⟨by first|omega|exact zLe _⟩,by repeat (first|exact Drawn0.refl _|apply Drawn0.step)⟩
  ·rw [if_neg c4] at H
   have c4b0:decide (a1<0)=false:=zDf c4;clear c4
   (first|rw [c4b0]|(simp only [y0p,y0w];rw [c4b0])|skip)
   have H':=As0.mk H;clear H;go_wp2
   go_meet
   case rel=>exact ⟨_,(decide (a1 > a0)),(by first|rfl|(simp;done)|(simp [*];done)),H',⟨by first|omega|exact zLe _⟩,by repeat (first|exact Drawn0.refl _|apply Drawn0.step)⟩
 case rest =>
  clear HC3
  try clear p2
  try clear c4
  try clear c4b0
  obtain ⟨kq,x13_2,rfl,HA,HJ2,⟨mc2,rfl⟩⟩:=hcut;cases kq with
  |zero=>exact absurd HA.out (by simp [mobs_choose.j0])
  |succ kj2 =>
   have H:=HA.out;clear HA;simp only [mobs_choose.j0] at H
   by_cases c5:x13_2=true
   ·subst c5
    have H1:(some 0)=some r:=by rw [if_pos rfl] at H;exact H
    clear H;have H:=H1;clear H1;obtain rfl:=zSi H;go_wp2
    go_ret
    exact ⟨by first|rfl|(simp;done)|(simp [*];done),by repeat (first|exact Drawn0.refl _|apply Drawn0.step)⟩
   ·replace c5:=Bool.eq_false_iff.mpr c5
    subst c5;have H1:(mobs_choose.l0 kj2 a0 1 a1 0)=some r:=by rw [if_neg (show ¬ (false=true) by decide)] at H;exact H
    clear H;have H:=H1;clear H1;have H':=As0.mk H;clear H;go_wp2
    go_loopg [5,15] kj2 (fun kq v5 v15 w'=>∃ (x5_2:Int) (x15_2:Int),v5=.int .i64 x5_2∧v15=.int .i64 x15_2∧As0 (mobs_choose.l0 kq a0 x5_2 a1 x15_2=some r)∧As0 (kq≤kj2)∧Drawn0 w w')
    case atStart=>exact ⟨(1),(0),(by first|rfl|(simp;done)|(simp [*];done)),(by first|rfl|(simp;done)|(simp [*];done)),H',⟨zLe _⟩,by repeat (first|exact Drawn0.refl _|apply Drawn0.step)⟩
    case round =>
     clear H'
     try clear c2
     try clear p2
     try clear c4
     try clear c4b0
     try clear c5
     try clear p2
     obtain ⟨x5_2,x15_2,rfl,rfl,HA,HK2,⟨m2,rfl⟩⟩:=hrel;cases gk with
     |zero=>exact absurd HA.out (by simp [mobs_choose.l0])
     |succ k2 =>
      have H:=HA.out;clear HA;simp only [mobs_choose.l0] at H
      by_cases c6:x15_2<a1
      ·rw [if_pos c6] at H
       have c6b0:decide (x15_2<a1)=true:=zDt c6;clear c6
       by_cases c7:(wrap64 (x15_2+1))=0
       ·rw [if_pos c7] at H
        exact absurd H (by simp)
       ·rw [if_neg c7] at H
        have c7b0:((wrap64 (x15_2+1)) == 0)=false:=beq_eq_false_iff_ne.mpr c7;have c7b1:((wrap64 (x15_2+1)) != 0)=true:=bne_iff_ne.mpr c7;have H':=As0.mk H;clear H;go_wp2
        go_roundg k2
        case measure=>have:=HJ2.out;have:=HK2.out;omega
        case rel=>exact ⟨(wrap64 (Int.tdiv (wrap64 (x5_2 * (wrap64 (a0 - x15_2)))) (wrap64 (x15_2+1)))),(wrap64 (x15_2+1)),(by first|rfl|(simp;done)|(simp [*];done)),(by first|rfl|(simp;done)|(simp [*];done)),H',⟨by have:=HJ2.out;have:=HK2.out;omega⟩,by repeat (first|exact Drawn0.refl _|apply Drawn0.step)⟩
      ·rw [if_neg c6] at H
       have c6b0:decide (x15_2<a1)=false:=zDf c6;clear c6;obtain rfl:=zSi H;go_wp2
       go_ret
       exact ⟨by first|rfl|(simp;done)|(simp [*];done),by repeat (first|exact Drawn0.refl _|apply Drawn0.step)⟩
def mobs_Plain.f (k:Nat) (a0:Int) (a1:Int):Option (Int × Int):=(mobs_counted.f a0 a1).bind fun t129=>(if t129=0 then (if a0=0 then (some (1,0)) else ((mobs_choose.f k a0 a1).bind fun t130=>((mobs_choose.f k a0 (wrap64 (a1 - 1))).bind fun t131=>(some (wrap64 (Int.tdiv (wrap64 (t130 * t131)) a0),0))))) else (some (0,t129)))
theorem mobs_Plain.calls (k:Nat) (a0:Int) (a1:Int) (r1:Int) (r2:Int) (w:World) (h:mobs_Plain.f k a0 a1=some (r1,r2)) :
  Calls Tra.prog 18 #[.int .i64 a0,.int .i64 a1] w fun e w'=>e=.returned (.tuple #[.int .i64 r1,.int .i64 r2])∧Drawn0 w w':=by
 have H:((mobs_counted.f a0 a1).bind fun t129=>(if t129=0 then (if a0=0 then (some (1,0)) else ((mobs_choose.f k a0 a1).bind fun t130=>((mobs_choose.f k a0 (wrap64 (a1 - 1))).bind fun t131=>(some (wrap64 (Int.tdiv (wrap64 (t130 * t131)) a0),0))))) else (some (0,t129))))=some (r1,r2):=h;clear h;replace H:=Option.bind_eq_some_iff.mp H;obtain ⟨t129,A30,H⟩:=H;replace H:(if t129=0 then (if a0=0 then (some (1,0)) else ((mobs_choose.f k a0 a1).bind fun t130=>((mobs_choose.f k a0 (wrap64 (a1 - 1))).bind fun t131=>(some (wrap64 (Int.tdiv (wrap64 (t130 * t131)) a0),0))))) else (some (0,t129)))=some (r1,r2):=H;have A3:=As0.mk A30;clear A30
 by_cases c4:t129=0
 ·rw [if_pos c4] at H
  have c4b0:(t129 == 0)=true:=beq_iff_eq.mpr c4;have c4b1:(t129 != 0)=false:=bne_eq_false_iff_eq.mpr c4;clear c4
  by_cases c5:a0=0
  ·rw [if_pos c5] at H
   have c5b0:(a0 == 0)=true:=beq_iff_eq.mpr c5;have c5b1:(a0 != 0)=false:=bne_eq_false_iff_eq.mpr c5;clear c5;simp only [Option.some.injEq,Prod.mk.injEq] at H;obtain ⟨rfl,rfl⟩:=H;go_enter Tra.func18,Tra.ntmps18
   go_wp2_with (first|((with_reducible refine y0a (f:=45) rfl ?_);refine y0k (some 9) rfl rfl Tra.func45 (by kernel_rfl) rfl #[.int .i64 a0,.int .i64 a1] rfl (by (try simp only [List.map_toArray,List.map_cons,List.map_nil]);first|done|rfl|(simp only [List.length_drop,List.length_take];rfl)) ?_;(with_reducible refine (mobs_counted.calls a0 a1 t129 _ A3.out).mono ?_);rintro e w' ⟨rfl,⟨nd,rfl⟩⟩;refine ⟨_,rfl,?_⟩))
   go_ret2
   exact ⟨by first|rfl|(simp;done)|(simp [*];done),by repeat (first|exact Drawn0.refl _|apply Drawn0.step)⟩
  ·rw [if_neg c5] at H
   have c5b0:(a0 == 0)=false:=beq_eq_false_iff_ne.mpr c5;have c5b1:(a0 != 0)=true:=bne_iff_ne.mpr c5;replace H:=Option.bind_eq_some_iff.mp H;obtain ⟨t130,A60,H⟩:=H;replace H:((mobs_choose.f k a0 (wrap64 (a1 - 1))).bind fun t131=>(some (wrap64 (Int.tdiv (wrap64 (t130 * t131)) a0),0)))=some (r1,r2):=H;have A6:=As0.mk A60;clear A60;replace H:=Option.bind_eq_some_iff.mp H;obtain ⟨t131,A70,H⟩:=H;replace H:(some (wrap64 (Int.tdiv (wrap64 (t130 * t131)) a0),0))=some (r1,r2):=H;have A7:=As0.mk A70;clear A70;simp only [Option.some.injEq,Prod.mk.injEq] at H;obtain ⟨rfl,rfl⟩:=H;go_enter Tra.func18,Tra.ntmps18
   go_wp2_with (first|((with_reducible refine y0a (f:=45) rfl ?_);refine y0k (some 9) rfl rfl Tra.func45 (by kernel_rfl) rfl #[.int .i64 a0,.int .i64 a1] rfl (by (try simp only [List.map_toArray,List.map_cons,List.map_nil]);first|done|rfl|(simp only [List.length_drop,List.length_take];rfl)) ?_;(with_reducible refine (mobs_counted.calls a0 a1 t129 _ A3.out).mono ?_);rintro e w' ⟨rfl,⟨nd,rfl⟩⟩;refine ⟨_,rfl,?_⟩)|((with_reducible refine y0a (f:=47) rfl ?_);refine y0k (some 17) rfl rfl Tra.func47 (by kernel_rfl) rfl #[.int .i64 a0,.int .i64 a1] rfl (by (try simp only [List.map_toArray,List.map_cons,List.map_nil]);first|done|rfl|(simp only [List.length_drop,List.length_take];rfl)) ?_;(with_reducible refine (mobs_choose.calls k a0 a1 t130 _ A6.out).mono ?_);rintro e w' ⟨rfl,⟨nd,rfl⟩⟩;refine ⟨_,rfl,?_⟩)|((with_reducible refine y0a (f:=47) rfl ?_);refine y0k (some 21) rfl rfl Tra.func47 (by kernel_rfl) rfl #[.int .i64 a0,.int .i64 (wrap64 (a1 - 1))] rfl (by (try simp only [List.map_toArray,List.map_cons,List.map_nil]);first|done|rfl|(simp only [List.length_drop,List.length_take];rfl)) ?_;(with_reducible refine (mobs_choose.calls k a0 (wrap64 (a1 - 1)) t131 _ A7.out).mono ?_);rintro e w' ⟨rfl,⟨nd,rfl⟩⟩;refine ⟨_,rfl,?_⟩))
   go_ret2
   exact ⟨by first|rfl|(simp;done)|(simp [*];done),by repeat (first|exact Drawn0.refl _|apply Drawn0.step)⟩
 ·rw [if_neg c4] at H
  have c4b0:(t129 == 0)=false:=beq_eq_false_iff_ne.mpr c4;have c4b1:(t129 != 0)=true:=bne_iff_ne.mpr c4;simp only [Option.some.injEq,Prod.mk.injEq] at H;obtain ⟨rfl,rfl⟩:=H;go_enter Tra.func18,Tra.ntmps18
  go_wp2_with (first|((with_reducible refine y0a (f:=45) rfl ?_);refine y0k (some 9) rfl rfl Tra.func45 (by kernel_rfl) rfl #[.int .i64 a0,.int .i64 a1] rfl (by (try simp only [List.map_toArray,List.map_cons,List.map_nil]);first|done|rfl|(simp only [List.length_drop,List.length_take];rfl)) ?_;(with_reducible refine (mobs_counted.calls a0 a1 t129 _ A3.out).mono ?_);rintro e w' ⟨rfl,⟨nd,rfl⟩⟩;refine ⟨_,rfl,?_⟩))
  go_ret2
  exact ⟨by first|rfl|(simp;done)|(simp [*];done),by repeat (first|exact Drawn0.refl _|apply Drawn0.step)⟩
end
section
attribute [local go_sem] y13 y11 y1c y1b y0v y0u y12 y10
def w6_same.l0:Nat->List Int->List Int->Int->Option (Bool)
 |0,_,_,_=>none
 |k+1,x0,x1,x5=>if x5<(x0.length:Int) then (if 0≤x5 then (if x5<(x1.length:Int) then (if (rd x0 x5)=(rd x1 x5) then (w6_same.l0 k x0 x1 (wrap64 (x5+1))) else (some false)) else (none)) else (none)) else (some true)
def w6_same.f (k:Nat) (l0:List Int) (l1:List Int):Option (Bool):=if (l0.length:Int)=(l1.length:Int) then (w6_same.l0 k l0 l1 0) else (some false)
theorem w6_same.calls (k:Nat) (A0:Option Addr) (c0:Nat) (l0:List Int) (A1:Option Addr) (c1:Nat) (l1:List Int) (r:Bool) (w:World) (hr0:Kd.C (Kd.int .i64) w A0 l0.length l0) (hc0:l0.length≤c0) (hr1:Kd.C (Kd.int .i64) w A1 l1.length l1) (hc1:l1.length≤c1) (h:w6_same.f k l0 l1=some r) :
  Calls Tra.prog 27 #[.slice A0 l0.length c0,.slice A1 l1.length c1] w fun e w'=>e=.returned (.bool r)∧Drawn0 w w':=by
 have HR0:=As0.mk hr0;have HC0:=As0.mk hc0;clear hr0 hc0;have HR1:=As0.mk hr1;have HC1:=As0.mk hc1;clear hr1 hc1;have H:(if (l0.length:Int)=(l1.length:Int) then (w6_same.l0 k l0 l1 0) else (some false))=some r:=h;clear h
 by_cases c3:(l0.length:Int)=(l1.length:Int)
 ·rw [if_pos c3] at H
  have c3b0:((l0.length:Int) == (l1.length:Int))=true:=beq_iff_eq.mpr c3;have c3b1:((l0.length:Int) != (l1.length:Int))=false:=bne_eq_false_iff_eq.mpr c3;have c3b2:(l0.length == l1.length)=true:=by first|simpa using c3|(simp at c3 ⊢;omega)
  clear c3;have H':=As0.mk H;clear H;go_enter Tra.func27,Tra.ntmps27
  go_wp2
  repeat (go_quiet (fail);try go_wp2)
  go_loopg [5] k (fun kq v5 w'=>∃ (x5_1:Int),v5=.int .i64 x5_1∧As0 (w6_same.l0 kq l0 l1 x5_1=some r)∧As0 (kq≤k)∧Drawn0 w w')
  case atStart=>exact ⟨(0),(by first|rfl|(simp;done)|(simp [*];done)),H',⟨zLe _⟩,by repeat (first|exact Drawn0.refl _|apply Drawn0.step)⟩
  case round =>
   clear H'
   try clear c1
   try clear c2
   try clear p2
   try clear c3
   try clear c3b0
   try clear c3b1
   try clear c3b2
   obtain ⟨x5_1,rfl,HA,HK1,⟨m1,rfl⟩⟩:=hrel;cases gk with
   |zero=>exact absurd HA.out (by simp [w6_same.l0])
   |succ k1 =>
    have H:=HA.out;clear HA;simp only [w6_same.l0] at H
    by_cases c4:x5_1<(l0.length:Int)
    ·rw [if_pos c4] at H
     have c4b0:decide (x5_1<(l0.length:Int))=true:=zDt c4;clear c4
     by_cases c5:0≤x5_1
     ·rw [if_pos c5] at H
      have c5b0:decide (0≤x5_1)=true:=zDt c5;clear c5
      by_cases c6:x5_1<(l1.length:Int)
      ·rw [if_pos c6] at H
       have c6b0:decide (x5_1<(l1.length:Int))=true:=zDt c6;clear c6
       by_cases c7:(rd l0 x5_1)=(rd l1 x5_1)
       ·rw [if_pos c7] at H
        have c7b0:((rd l0 x5_1) == (rd l1 x5_1))=true:=beq_iff_eq.mpr c7;have c7b1:((rd l0 x5_1) != (rd l1 x5_1))=false:=bne_eq_false_iff_eq.mpr c7;clear c7;have H':=As0.mk H;clear H;have p208:0≤(x5_1:Int):=zDo (by with_reducible assumption);have q208:x5_1<(l0.length:Int):=zDo (by with_reducible assumption);obtain ⟨ad208,e208,hx208_0⟩:=Kd.at_int HR0.out x5_1 p208 q208;cases e208
        replace p208:=eq_true p208;replace q208:=eq_true q208;have p209:0≤(x5_1:Int):=zDo (by with_reducible assumption);have q209:x5_1<(l1.length:Int):=zDo (by with_reducible assumption);obtain ⟨ad209,e209,hx209_0⟩:=Kd.at_int HR1.out x5_1 p209 q209;cases e209
        replace p209:=eq_true p209;replace q209:=eq_true q209;go_wp2
        repeat (go_quiet (fail);try go_wp2)
        go_roundg k1
        case measure=>have:=HK1.out;omega
        case rel=>exact ⟨(wrap64 (x5_1+1)),(by first|rfl|(simp;done)|(simp [*];done)),H',⟨by have:=HK1.out;omega⟩,by repeat (first|exact Drawn0.refl _|apply Drawn0.step)⟩
       ·rw [if_neg c7] at H
        have c7b0:((rd l0 x5_1) == (rd l1 x5_1))=false:=beq_eq_false_iff_ne.mpr c7;have c7b1:((rd l0 x5_1) != (rd l1 x5_1))=true:=bne_iff_ne.mpr c7;obtain rfl:=zSi H;have p208:0≤(x5_1:Int):=zDo (by with_reducible assumption);have q208:x5_1<(l0.length:Int):=zDo (by with_reducible assumption);obtain ⟨ad208,e208,hx208_0⟩:=Kd.at_int HR0.out x5_1 p208 q208;cases e208
        replace p208:=eq_true p208;replace q208:=eq_true q208;have p209:0≤(x5_1:Int):=zDo (by with_reducible assumption);have q209:x5_1<(l1.length:Int):=zDo (by with_reducible assumption);obtain ⟨ad209,e209,hx209_0⟩:=Kd.at_int HR1.out x5_1 p209 q209;cases e209
        replace p209:=eq_true p209;replace q209:=eq_true q209;go_wp2
        repeat (go_quiet (fail);try go_wp2)
        go_ret
        exact ⟨by first|rfl|(simp;done)|(simp [*];done),by repeat (first|exact Drawn0.refl _|apply Drawn0.step)⟩
      ·rw [if_neg c6] at H
       exact absurd H (by simp)
     ·rw [if_neg c5] at H
      exact absurd H (by simp)
    ·rw [if_neg c4] at H
     have c4b0:decide (x5_1<(l0.length:Int))=false:=zDf c4;clear c4;obtain rfl:=zSi H;go_wp2
     repeat (go_quiet (fail);try go_wp2)
     go_ret
     exact ⟨by first|rfl|(simp;done)|(simp [*];done),by repeat (first|exact Drawn0.refl _|apply Drawn0.step)⟩
 ·rw [if_neg c3] at H
  have c3b0:((l0.length:Int) == (l1.length:Int))=false:=beq_eq_false_iff_ne.mpr c3;have c3b1:((l0.length:Int) != (l1.length:Int))=true:=bne_iff_ne.mpr c3;have c3b2:(l0.length == l1.length)=false:=by first|simpa using c3|(simp at c3 ⊢;omega)
  obtain rfl:=zSi H;go_enter Tra.func27,Tra.ntmps27
  go_wp2
  repeat (go_quiet (fail);try go_wp2)
  go_ret
  exact ⟨by first|rfl|(simp;done)|(simp [*];done),by repeat (first|exact Drawn0.refl _|apply Drawn0.step)⟩
theorem w6_same.nocap (k:Nat) (A0:Option Addr) (c0:Nat) (l0:List Int) (A1:Option Addr) (c1:Nat) (l1:List Int) (r:Bool) (w:World) (hr0:Kd.C (Kd.int .i64) w A0 l0.length l0) (hr1:Kd.C (Kd.int .i64) w A1 l1.length l1) (h:w6_same.f k l0 l1=some r) :
  Calls Tra.prog 27 #[.slice A0 l0.length c0,.slice A1 l1.length c1] w fun e w'=>e=.returned (.bool r)∧Drawn0 w w':=by
 have HR0:=As0.mk hr0;clear hr0;have HR1:=As0.mk hr1;clear hr1;have H:(if (l0.length:Int)=(l1.length:Int) then (w6_same.l0 k l0 l1 0) else (some false))=some r:=h;clear h
 by_cases c3:(l0.length:Int)=(l1.length:Int)
 ·rw [if_pos c3] at H
  have c3b0:((l0.length:Int) == (l1.length:Int))=true:=beq_iff_eq.mpr c3;have c3b1:((l0.length:Int) != (l1.length:Int))=false:=bne_eq_false_iff_eq.mpr c3;have c3b2:(l0.length == l1.length)=true:=by first|simpa using c3|(simp at c3 ⊢;omega)
  clear c3;have H':=As0.mk H;clear H;go_enter Tra.func27,Tra.ntmps27
  go_wp2
  repeat (go_quiet (fail);try go_wp2)
  go_loopg [5] k (fun kq v5 w'=>∃ (x5_1:Int),v5=.int .i64 x5_1∧As0 (w6_same.l0 kq l0 l1 x5_1=some r)∧As0 (kq≤k)∧Drawn0 w w')
  case atStart=>exact ⟨(0),(by first|rfl|(simp;done)|(simp [*];done)),H',⟨zLe _⟩,by repeat (first|exact Drawn0.refl _|apply Drawn0.step)⟩
  case round =>
   clear H'
   try clear c1
   try clear c2
   try clear p2
   try clear c3
   try clear c3b0
   try clear c3b1
   try clear c3b2
   obtain ⟨x5_1,rfl,HA,HK1,⟨m1,rfl⟩⟩:=hrel;cases gk with
   |zero=>exact absurd HA.out (by simp [w6_same.l0])
   |succ k1 =>
    have H:=HA.out;clear HA;simp only [w6_same.l0] at H
    by_cases c4:x5_1<(l0.length:Int)
    ·rw [if_pos c4] at H
     have c4b0:decide (x5_1<(l0.length:Int))=true:=zDt c4;clear c4
     by_cases c5:0≤x5_1
     ·rw [if_pos c5] at H
      have c5b0:decide (0≤x5_1)=true:=zDt c5;clear c5
      by_cases c6:x5_1<(l1.length:Int)
      ·rw [if_pos c6] at H
       have c6b0:decide (x5_1<(l1.length:Int))=true:=zDt c6;clear c6
       by_cases c7:(rd l0 x5_1)=(rd l1 x5_1)
       ·rw [if_pos c7] at H
        have c7b0:((rd l0 x5_1) == (rd l1 x5_1))=true:=beq_iff_eq.mpr c7;have c7b1:((rd l0 x5_1) != (rd l1 x5_1))=false:=bne_eq_false_iff_eq.mpr c7;clear c7;have H':=As0.mk H;clear H;have p208:0≤(x5_1:Int):=zDo (by with_reducible assumption);have q208:x5_1<(l0.length:Int):=zDo (by with_reducible assumption);obtain ⟨ad208,e208,hx208_0⟩:=Kd.at_int HR0.out x5_1 p208 q208;cases e208
        replace p208:=eq_true p208;replace q208:=eq_true q208;have p209:0≤(x5_1:Int):=zDo (by with_reducible assumption);have q209:x5_1<(l1.length:Int):=zDo (by with_reducible assumption);obtain ⟨ad209,e209,hx209_0⟩:=Kd.at_int HR1.out x5_1 p209 q209;cases e209
        replace p209:=eq_true p209;replace q209:=eq_true q209;go_wp2
        repeat (go_quiet (fail);try go_wp2)
        go_roundg k1
        case measure=>have:=HK1.out;omega
        case rel=>exact ⟨(wrap64 (x5_1+1)),(by first|rfl|(simp;done)|(simp [*];done)),H',⟨by have:=HK1.out;omega⟩,by repeat (first|exact Drawn0.refl _|apply Drawn0.step)⟩
       ·rw [if_neg c7] at H
        have c7b0:((rd l0 x5_1) == (rd l1 x5_1))=false:=beq_eq_false_iff_ne.mpr c7;have c7b1:((rd l0 x5_1) != (rd l1 x5_1))=true:=bne_iff_ne.mpr c7;obtain rfl:=zSi H;have p208:0≤(x5_1:Int):=zDo (by with_reducible assumption);have q208:x5_1<(l0.length:Int):=zDo (by with_reducible assumption);obtain ⟨ad208,e208,hx208_0⟩:=Kd.at_int HR0.out x5_1 p208 q208;cases e208
        replace p208:=eq_true p208;replace q208:=eq_true q208;have p209:0≤(x5_1:Int):=zDo (by with_reducible assumption);have q209:x5_1<(l1.length:Int):=zDo (by with_reducible assumption);obtain ⟨ad209,e209,hx209_0⟩:=Kd.at_int HR1.out x5_1 p209 q209;cases e209
        replace p209:=eq_true p209;replace q209:=eq_true q209;go_wp2
        repeat (go_quiet (fail);try go_wp2)
        go_ret
        exact ⟨by first|rfl|(simp;done)|(simp [*];done),by repeat (first|exact Drawn0.refl _|apply Drawn0.step)⟩
      ·rw [if_neg c6] at H
       exact absurd H (by simp)
     ·rw [if_neg c5] at H
      exact absurd H (by simp)
    ·rw [if_neg c4] at H
     have c4b0:decide (x5_1<(l0.length:Int))=false:=zDf c4;clear c4;obtain rfl:=zSi H;go_wp2
     repeat (go_quiet (fail);try go_wp2)
     go_ret
     exact ⟨by first|rfl|(simp;done)|(simp [*];done),by repeat (first|exact Drawn0.refl _|apply Drawn0.step)⟩
 ·rw [if_neg c3] at H
  have c3b0:((l0.length:Int) == (l1.length:Int))=false:=beq_eq_false_iff_ne.mpr c3;have c3b1:((l0.length:Int) != (l1.length:Int))=true:=bne_iff_ne.mpr c3;have c3b2:(l0.length == l1.length)=false:=by first|simpa using c3|(simp at c3 ⊢;omega)
  obtain rfl:=zSi H;go_enter Tra.func27,Tra.ntmps27
  go_wp2
  repeat (go_quiet (fail);try go_wp2)
  go_ret
  exact ⟨by first|rfl|(simp;done)|(simp [*];done),by repeat (first|exact Drawn0.refl _|apply Drawn0.step)⟩
mutual
def mobs_ways.l0:Nat->Int->Int->List Int->Int->Int->Option (Int)
 |0,_,_,_,_,_=>none
 |k+1,x0,x1,x5,x15,x16=>if x16<x15 then (if 0≤x16 then (if x16<(x5.length:Int) then (mobs_ways.l0 k x0 x1 (x5.set (x16:Int).toNat 1) x15 (wrap64 (x16+1))) else (none)) else (none)) else (mobs_ways.l1 k x0 x1 x5 x0 0)
def mobs_ways.l1:Nat->Int->Int->List Int->Int->Int->Option (Int)
 |0,_,_,_,_,_=>none
 |k+1,x0,x1,x5,x23,x24=>if x24<x23 then (mobs_ways.l2 k x0 x1 x5 x23 x24 (wrap64 ((wrap64 (x0+x1)) - x24)) 0) else (if 0≤x1 then (if x1<(x5.length:Int) then (some (rd x5 x1)) else (none)) else (none))
def mobs_ways.l2:Nat->Int->Int->List Int->Int->Int->Int->Int->Option (Int)
 |0,_,_,_,_,_,_,_=>none
 |k+1,x0,x1,x5,x23,x24,x31,x32=>if x32<x31 then (if 0≤x32 then (if x32<(x5.length:Int) then (if 0≤(wrap64 (x32+1)) then (if (wrap64 (x32+1))<(x5.length:Int) then (mobs_ways.l2 k x0 x1 (x5.set (x32:Int).toNat (wrap64 ((wrap64 (x32 * (rd x5 x32)))+(rd x5 (wrap64 (x32+1)))))) x23 x24 x31 (wrap64 (x32+1))) else (none)) else (none)) else (none)) else (none)) else (mobs_ways.l1 k x0 x1 x5 x23 (wrap64 (x24+1)))
end
def mobs_ways.f (k:Nat) (a0:Int) (a1:Int):Option (Int):=if 0≤(wrap64 ((wrap64 (a0+a1))+1)) then (if (wrap64 ((wrap64 (a0+a1))+1):Int).toNat≤35184372088832 then ((some (List.replicate (wrap64 ((wrap64 (a0+a1))+1):Int).toNat 0:List Int)).bind fun y210=>(mobs_ways.l0 k a0 a1 y210 (y210.length:Int) 0)) else (none)) else (none)
def mobs_ways.T13:Bool × List (List Nat × List Nat):=(true,[([],[]),([],[]),([],[]),([],[]),([],[]),([3,4],[3,4]),([5],[5]),([2,6],[2,6]),([],[]),([],[]),([9],[9]),([8,10],[8,10]),([11],[11]),([7,12],[7,12]),([0,1,0,1,2,3,4,5,6,7,8,9,10,11,12,13],[0,1]),([14,13,0,1,2,3,4,5,6,7,8,9,10,11,12,13],[13,14])])
def mobs_ways.B13:List Nat:=[0,0,0,0,0,24,56,124,0,0,512,1792,3840,8188,16383,32767]
theorem mobs_ways.tab13:rtab .any (yhi Tra.f67 13)=mobs_ways.T13:=by kernel_rfl
theorem mobs_ways.bits13:y36 mobs_ways.T13.2 mobs_ways.B13=true:=by kernel_rfl
theorem mobs_ways.calls (k:Nat) (a0:Int) (a1:Int) (r:Int) (w:World) (h:mobs_ways.f k a0 a1=some r) :
  Calls Tra.prog 67 #[.int .i64 a0,.int .i64 a1] w fun e w'=>e=.returned (.int .i64 r)∧Below w.heap.size w w':=by
 have HB:=As0.mk (Below.refl w.heap.size w);have H:(if 0≤(wrap64 ((wrap64 (a0+a1))+1)) then (if (wrap64 ((wrap64 (a0+a1))+1):Int).toNat≤35184372088832 then ((some (List.replicate (wrap64 ((wrap64 (a0+a1))+1):Int).toNat 0:List Int)).bind fun y210=>(mobs_ways.l0 k a0 a1 y210 (y210.length:Int) 0)) else (none)) else (none))=some r:=h;clear h;obtain ⟨ji3,hji3⟩:∃ j_:Int,(wrap64 ((wrap64 (a0+a1))+1))=j_:=⟨_,rfl⟩
 replace H:(if 0≤(ji3) then (if (ji3:Int).toNat≤35184372088832 then ((some (List.replicate (ji3:Int).toNat 0:List Int)).bind fun y210=>(mobs_ways.l0 k a0 a1 y210 (y210.length:Int) 0)) else (none)) else (none))=some r:=by first|(rw [hji3] at H;exact H)|(simp only [hji3] at H ⊢;exact H)
 have hji3w:(IntKind.i64.wrap ((wrap64 (a0+a1))+1))=ji3:=(y0p _).trans hji3
 by_cases c4:0≤(ji3)
 ·rw [if_pos c4] at H
  have c4b0:=eq_true c4;have c4b1:decide (0≤(ji3))=true:=zDt c4;clear c4
  by_cases c5:(ji3:Int).toNat≤35184372088832
  ·rw [if_pos c5] at H
   have c5b0:=eq_true c5;have c5b1:decide ((ji3:Int).toNat≤35184372088832)=true:=zDt c5;clear c5;obtain ⟨y210,hy210⟩:∃ y_:List Int,y_=(List.replicate (ji3:Int).toNat 0):=⟨_,rfl⟩
   replace H:(mobs_ways.l0 k a0 a1 y210 (y210.length:Int) 0)=some r:=by first|(rw [hy210];with_reducible exact H)|(have H2_:=(Option.bind_some _ _).symm.trans H;rw [hy210];with_reducible exact H2_)|(have H2_:=(Option.bind_some _ _).symm.trans H;with_reducible exact H2_)|with_reducible exact H|(rw [hy210];exact H)|exact H
   have Ny210:=As0.mk hy210;clear hy210;have H':=As0.mk H;clear H;go_enter Tra.func67,Tra.ntmps67
   go_wp2_with (first|((with_reducible refine y0n (N:=13) rfl ?_);refine Kd.R_make (Kd.int .i64) _ 3 rfl (N:=13) rfl 29 _ _ rfl ji3 rfl rfl Tra.underlying29 (.int .i64 0) 8 info3 rfl (by decide) (by omega) 0 (ok:=fun _=>True) (okp:=fun _=>True) rfl (fun _ hk=>hk) trivial (zDo (by with_reducible assumption)) (Nat.le_trans (Nat.mul_le_mul_right _ (zDo (by with_reducible assumption):ji3.toNat≤35184372088832)) (by omega)) (Below.refl _ _) (zLe _) ?_;intro v211 w6 ho7 hb hg_ hnew_;clear hg_ hnew_;(first|rw [← Ny210.out] at ho7|(simp only [Int.reduceToNat] at ho7;rw [← Ny210.out] at ho7));have n0_:=As0.mk (Kd.R_lower ho7 (y06 (by repeat (with_reducible first|exact HB.out|apply y01|apply y00|apply y02))));have n1_:=As0.mk (y04 (by repeat (with_reducible first|exact HB.out|apply y01|apply y00|apply y02)) hb);clear HB;have HO212:=n0_;have HB:=n1_;clear n0_ n1_;clear hb ho7;obtain ⟨Ao8,co8,eo8⟩:=Kd.R_slice HO212.out;subst eo8))
   go_loopg [16] k (fun kq v16 w'=>∃ (x5_1:List Int) (x16_1:Int),v16=.int .i64 x16_1∧As0 (mobs_ways.l0 kq a0 a1 x5_1 (y210.length:Int) x16_1=some r)∧As0 (kq≤k)∧As0 (Kd.R (Kd.int .i64) 3 w' w.heap.size (fun _=>True) (.slice Ao8 y210.length co8) x5_1)∧As0 (Below w.heap.size w w'))
   case atStart=>exact ⟨(y210),(0),(by first|rfl|(simp;done)|(simp [*];done)),H',⟨zLe _⟩,⟨by (with_reducible repeat (first|apply Kd.R_alloc|apply Kd.R_drewN|apply Kd.R_drew));exact HO212.out⟩,⟨by repeat (with_reducible first|exact HB.out|apply y01|apply y00|apply y02)⟩⟩
   case round =>
    clear H'
    try clear p2
    try clear c4
    try clear c4b0
    try clear c4b1
    try clear c5
    try clear c5b0
    try clear c5b1
    try clear c6
    try clear p6
    obtain ⟨x5_1,x16_1,rfl,HA,HK1,HO_5,HB⟩:=hrel;have hl5_1:=(Kd.R_reads' HO_5.out).1;rw [hl5_1] at HO_5
    (try simp only [hl5_1])
    cases gk with
    |zero=>exact absurd HA.out (by simp [mobs_ways.l0])
    |succ k1 =>
     have H:=HA.out;clear HA;simp only [mobs_ways.l0] at H
     by_cases c9:x16_1<(y210.length:Int)
     ·rw [if_pos c9] at H
      have c9b0:decide (x16_1<(y210.length:Int))=true:=zDt c9;clear c9
      by_cases c10:0≤x16_1
      ·rw [if_pos c10] at H
       have c10b0:decide (0≤x16_1)=true:=zDt c10;clear c10
       by_cases c11:x16_1<(x5_1.length:Int)
       ·rw [if_pos c11] at H
        have c11b0:decide (x16_1<(x5_1.length:Int))=true:=zDt c11;clear c11;obtain ⟨y213,hy213⟩:∃ y_:List Int,y_=(x5_1.set (x16_1:Int).toNat 1):=⟨_,rfl⟩
        replace H:(mobs_ways.l0 k1 a0 a1 y213 (y210.length:Int) (wrap64 (x16_1+1)))=some r:=by first|(rw [hy213];with_reducible exact H)|(have H2_:=(Option.bind_some _ _).symm.trans H;rw [hy213];with_reducible exact H2_)|(have H2_:=(Option.bind_some _ _).symm.trans H;with_reducible exact H2_)|with_reducible exact H|(rw [hy213];exact H)|exact H
        have Ny213:=As0.mk hy213;clear hy213;have H':=As0.mk H;clear H;have p12:0≤(x16_1:Int):=zDo (by with_reducible assumption);have q12:(x16_1:Int)<((x5_1.length:Int):Int):=zDo (by with_reducible assumption);obtain ⟨go12,co12,eo12,gb12,gl12,cl12,HG12⟩:=Kd.R_form HO_5.out (by omega)
        (first|cases eo12|(injection eo12 with ea_ en_ ec_;(first|subst ea_|(injection ea_ with ea_;subst ea_));subst ec_;clear en_))
        have GB12:=As0.mk gb12;have GG12:=As0.mk HG12;clear gb12 gl12 HG12;obtain ⟨hx12_0,hf12_0⟩:=Kd.R_celln 0 HO_5.out (x16_1:Int) p12 q12;replace p12:=eq_true p12;replace q12:=eq_true q12;have HP13:=Kd.R_putg HO_5.out (x16_1:Int) 1;go_wp2_with (first|((with_reducible refine y3h (t:=3) (p:=21) rfl ?_);refine y2w (t:=3) (p:=21) (v:=?vo_w14) (w1:=(wr.setCell ⟨go12,(x16_1:Int).toNat,none⟩ (.int .i64 1))) ?hg ?ho ?hn ?hr ?_;(case ho=>rfl);(case hg=>rfl);(case hn=>rfl);(case hr=>first|(go_simp;done)|(go_simp;rfl));intro w14 hw;have hg:wr.grownBy w14 (some go12):=(by rw [hw];exact HP13.2);have hp_:Kd.R (Kd.int .i64) 3 w14 w.heap.size (fun _=>True) (.slice (some ⟨go12,0,none⟩) x5_1.length co8) y213:=(by rw [hw,Ny213.out];exact HP13.1);clear HP13;have n0_:=As0.mk (hp_);have n1_:=As0.mk ((by rw [hw];exact y03 (HB.out) GB12.out:Below w.heap.size w w14));clear HO_5;clear HB;have HO_5:=n0_;have HB:=n1_;clear n0_ n1_;clear hg hw hp_))
        (try simp only [← hl5_1])
        go_roundg k1
        case measure=>have:=HK1.out;omega
        case rel=>exact ⟨(y213),(wrap64 (x16_1+1)),(by first|rfl|(simp;done)|(simp [*];done)),H',⟨by have:=HK1.out;omega⟩,⟨by (try simp only [hl5_1]);(with_reducible repeat (first|apply Kd.R_alloc|apply Kd.R_drewN|apply Kd.R_drew));exact HO_5.out⟩,⟨by repeat (with_reducible first|exact HB.out|apply y01|apply y00|apply y02)⟩⟩
       ·rw [if_neg c11] at H
        exact absurd H (by simp)
      ·rw [if_neg c10] at H
       exact absurd H (by simp)
     ·rw [if_neg c9] at H
      have c9b0:decide (x16_1<(y210.length:Int))=false:=zDf c9
      try (have c9b0_:=c9b0;simp only [hl5_1] at c9b0_)
      clear c9;have H':=As0.mk H;clear H;go_wp2
      go_loopg [24] k1 (fun kq v24 w'=>∃ (x5_2:List Int) (x24_2:Int),v24=.int .i64 x24_2∧As0 (mobs_ways.l1 kq a0 a1 x5_2 a0 x24_2=some r)∧As0 (kq≤k1)∧As0 (Kd.R (Kd.int .i64) 3 w' w.heap.size (fun _=>True) (.slice Ao8 x5_1.length co8) x5_2)∧As0 (Below w.heap.size w w'))
      case atStart=>exact ⟨(x5_1),(0),(by first|rfl|(simp;done)|(simp [*];done)),H',⟨zLe _⟩,⟨by (try simp only [hl5_1]);(with_reducible repeat (first|apply Kd.R_alloc|apply Kd.R_drewN|apply Kd.R_drew));exact HO_5.out⟩,⟨by repeat (with_reducible first|exact HB.out|apply y01|apply y00|apply y02)⟩⟩
      case round =>
       clear H'
       try clear c1
       try clear p1
       try clear q1
       try clear hx1
       try clear p2
       try clear c4
       try clear c4b0
       try clear c4b1
       try clear c5
       try clear c5b0
       try clear c5b1
       try clear c6
       try clear p6
       try clear c9
       try clear c9b0
       try clear c10
       try clear c10b0
       try clear c11
       try clear c11b0
       try clear p12
       try clear q12
       try clear hx12
       try clear hf12
       try clear hx12_0
       try clear p12
       try clear p2
       try clear p6
       try clear q12
       obtain ⟨x5_2,x24_2,rfl,HA,HK2,HO_5,HB⟩:=hrel;have hl5_2:=(Kd.R_reads' HO_5.out).1;rw [hl5_2] at HO_5
       (try simp only [hl5_2])
       cases gk with
       |zero=>exact absurd HA.out (by simp [mobs_ways.l1])
       |succ k2 =>
        have H:=HA.out;clear HA;simp only [mobs_ways.l1] at H
        by_cases c15:x24_2<a0
        ·rw [if_pos c15] at H
         have c15b0:decide (x24_2<a0)=true:=zDt c15;clear c15;have H':=As0.mk H;clear H;go_wp2
         go_loopg [32] k2 (fun kq v32 w'=>∃ (x5_3:List Int) (x32_3:Int),v32=.int .i64 x32_3∧As0 (mobs_ways.l2 kq a0 a1 x5_3 a0 x24_2 (wrap64 ((wrap64 (a0+a1)) - x24_2)) x32_3=some r)∧As0 (kq≤k2)∧As0 (Kd.R (Kd.int .i64) 3 w' w.heap.size (fun _=>True) (.slice Ao8 x5_2.length co8) x5_3)∧As0 (Below w.heap.size w w'))
         case atStart=>exact ⟨(x5_2),(0),(by first|rfl|(simp;done)|(simp [*];done)),H',⟨zLe _⟩,⟨by (try simp only [hl5_1]);(try simp only [hl5_2]);(with_reducible repeat (first|apply Kd.R_alloc|apply Kd.R_drewN|apply Kd.R_drew));exact HO_5.out⟩,⟨by repeat (with_reducible first|exact HB.out|apply y01|apply y00|apply y02)⟩⟩
         case round =>
          clear H'
          try clear c1
          try clear p1
          try clear q1
          try clear hx1
          try clear p2
          try clear c4
          try clear c4b0
          try clear c4b1
          try clear c5
          try clear c5b0
          try clear c5b1
          try clear c6
          try clear p6
          try clear c9
          try clear c9b0
          try clear c10
          try clear c10b0
          try clear c11
          try clear c11b0
          try clear p12
          try clear q12
          try clear hx12
          try clear hf12
          try clear c15
          try clear c15b0
          try clear hx12_0
          try clear p1
          try clear p12
          try clear p2
          try clear p6
          try clear q1
          try clear q12
          obtain ⟨x5_3,x32_3,rfl,HA,HK3,HO_5,HB⟩:=hrel;have hl5_3:=(Kd.R_reads' HO_5.out).1;rw [hl5_3] at HO_5
          (try simp only [hl5_3])
          cases gk with
          |zero=>exact absurd HA.out (by simp [mobs_ways.l2])
          |succ k3 =>
           have H:=HA.out;clear HA;simp only [mobs_ways.l2] at H
           by_cases c16:x32_3<(wrap64 ((wrap64 (a0+a1)) - x24_2))
           ·rw [if_pos c16] at H
            have c16b0:decide (x32_3<(wrap64 ((wrap64 (a0+a1)) - x24_2)))=true:=zDt c16;clear c16
            by_cases c17:0≤x32_3
            ·rw [if_pos c17] at H
             have c17b0:decide (0≤x32_3)=true:=zDt c17;clear c17
             by_cases c18:x32_3<(x5_3.length:Int)
             ·rw [if_pos c18] at H
              have c18b0:decide (x32_3<(x5_3.length:Int))=true:=zDt c18;clear c18;obtain ⟨ji19,hji19⟩:∃ j_:Int,(wrap64 (x32_3+1))=j_:=⟨_,rfl⟩
              replace H:(if 0≤(ji19) then (if (ji19)<(x5_3.length:Int) then (mobs_ways.l2 k3 a0 a1 (x5_3.set (x32_3:Int).toNat (wrap64 ((wrap64 (x32_3 * (rd x5_3 x32_3)))+(rd x5_3 (ji19))))) a0 x24_2 (wrap64 ((wrap64 (a0+a1)) - x24_2)) ji19) else (none)) else (none))=some r:=by first|(rw [hji19] at H;exact H)|(simp only [hji19] at H ⊢;exact H)
              have hji19w:(IntKind.i64.wrap (x32_3+1))=ji19:=(y0p _).trans hji19
              by_cases c20:0≤(ji19)
              ·rw [if_pos c20] at H
               have c20b0:decide (0≤(ji19))=true:=zDt c20;clear c20
               by_cases c21:(ji19)<(x5_3.length:Int)
               ·rw [if_pos c21] at H
                have c21b0:decide ((ji19)<(x5_3.length:Int))=true:=zDt c21;clear c21;obtain ⟨y217,hy217⟩:∃ y_:List Int,y_=(x5_3.set (x32_3:Int).toNat (wrap64 ((wrap64 (x32_3 * (rd x5_3 x32_3)))+(rd x5_3 (ji19))))):=⟨_,rfl⟩
                replace H:(mobs_ways.l2 k3 a0 a1 y217 a0 x24_2 (wrap64 ((wrap64 (a0+a1)) - x24_2)) ji19)=some r:=by first|(rw [hy217];with_reducible exact H)|(have H2_:=(Option.bind_some _ _).symm.trans H;rw [hy217];with_reducible exact H2_)|(have H2_:=(Option.bind_some _ _).symm.trans H;with_reducible exact H2_)|with_reducible exact H|(rw [hy217];exact H)|exact H
                have Ny217:=As0.mk hy217;clear hy217;have H':=As0.mk H;clear H
                try go_wp2
                have n0_:=As0.mk (Kd.R_drew HO_5.out);have n1_:=As0.mk (y02 HB.out);clear HO_5;clear HB;have HO_5:=n0_;have HB:=n1_;clear n0_ n1_;have p215:0≤(x32_3:Int):=zDo (by with_reducible assumption);have q215:x32_3<(x5_3.length:Int):=zDo (by with_reducible assumption);obtain ⟨ad215,e215,hx215_0⟩:=Kd.at_int (Kd.R_reads' HO_5.out).2.2 x32_3 p215 q215;cases e215
                replace p215:=eq_true p215;replace q215:=eq_true q215;have p216:0≤((ji19):Int):=zDo (by with_reducible assumption);have q216:(ji19)<(x5_3.length:Int):=zDo (by with_reducible assumption);obtain ⟨ad216,e216,hx216_0⟩:=Kd.at_int (Kd.R_reads' HO_5.out).2.2 (ji19) p216 q216;obtain rfl:ad215=ad216:=(by injection e216)
                replace p216:=eq_true p216;replace q216:=eq_true q216;have p22:0≤(x32_3:Int):=zDo (by with_reducible assumption);have q22:(x32_3:Int)<((x5_3.length:Int):Int):=zDo (by with_reducible assumption);obtain ⟨go22,co22,eo22,gb22,gl22,cl22,HG22⟩:=Kd.R_form HO_5.out (by omega)
                (first|cases eo22|(injection eo22 with ea_ en_ ec_;(first|subst ea_|(injection ea_ with ea_;subst ea_));subst ec_;clear en_))
                have GB22:=As0.mk gb22;have GG22:=As0.mk HG22;clear gb22 gl22 HG22
                (first|simp only [y2g] at hx215_0|skip)
                (first|simp only [y2g] at hx216_0|skip)
                obtain ⟨hx22_0,hf22_0⟩:=Kd.R_celln 0 HO_5.out (x32_3:Int) p22 q22;replace p22:=eq_true p22;replace q22:=eq_true q22;have HP24:=Kd.R_putn HO_5.out (x32_3:Int) (wrap64 ((wrap64 (x32_3 * (rd x5_3 x32_3)))+(rd x5_3 (ji19))));rw [← Ny217.out] at HP24;have HQ24:=As0.mk HP24;clear HP24;refine yap (n:=16) (S:=fun w'=>w'.cell? ⟨go22,(x32_3).toNat,none⟩=some (.int .i64 (rd x5_3 x32_3))∧w'.cell? ⟨go22,((ji19)).toNat,none⟩=some (.int .i64 (rd x5_3 (ji19)))) (ds:=[15]) #[false,false,false,false,false,false,false,false,false,false,false,false,false,false,false,false] (by kernel_rfl) rfl rfl ⟨hx215_0,hx216_0⟩ (fun hHeld=>?_);refine y3y mobs_ways.tab13 mobs_ways.bits13 (fun HT_ HW_=>?_);generalize wr.drew=w23 at HO_5 HB GG22 HQ24 hf22_0 hx215_0 hx216_0 hx22_0 hHeld ⊢;refine y15 (i:=0) (N:=some 35) (v:=?_) (a':=?_) #[true,false,false,false,false,false,false,false,false,false,false,false,false,false,false,false] rfl rfl (y0q HT_.out (by kernel_rfl)) (fun _ _ _ h=>h) (Or.inl ⟨by rfl,?_⟩) ?_ ?_;rotate_left
                ·intro w'
                 go_simp
                 with_reducible rfl
                rotate_left
                ·simp only [Act.put,List.setIfInBounds_toArray,List.set_cons_zero,List.set_cons_succ,y0p,y0w]
                 rfl
                refine y15 (i:=1) (N:=some 36) (v:=?_) (a':=?_) #[true,true,false,false,false,false,false,false,false,false,false,false,false,false,false,false] rfl rfl (y0q HT_.out (by kernel_rfl)) (fun _ _ _ h=>h) (Or.inl ⟨by rfl,?_⟩) ?_ ?_;rotate_left
                ·intro w'
                 go_simp
                 with_reducible rfl
                rotate_left
                ·simp only [Act.put,List.setIfInBounds_toArray,List.set_cons_zero,List.set_cons_succ,y0p,y0w]
                 rfl
                refine y15 (i:=2) (N:=some 37) (v:=?_) (a':=?_) #[true,true,true,false,false,false,false,false,false,false,false,false,false,false,false,false] rfl rfl (y0q HT_.out (by kernel_rfl)) (fun _ _ _ h=>h) (Or.inl ⟨by rfl,?_⟩) ?_ ?_;rotate_left
                ·intro w'
                 go_simp
                 with_reducible rfl
                rotate_left
                ·simp only [Act.put,List.setIfInBounds_toArray,List.set_cons_zero,List.set_cons_succ,y0p,y0w]
                 rfl
                refine y15 (i:=3) (N:=some 38) (v:=?_) (a':=?_) #[true,true,true,true,false,false,false,false,false,false,false,false,false,false,false,false] rfl rfl (y0q HT_.out (by kernel_rfl)) (fun _ _ _ h=>h) (Or.inl ⟨by rfl,?_⟩) ?_ ?_;rotate_left
                ·intro w'
                 go_simp
                 with_reducible rfl
                rotate_left
                ·simp only [Act.put,List.setIfInBounds_toArray,List.set_cons_zero,List.set_cons_succ,y0p,y0w]
                 rfl
                refine y15 (i:=4) (N:=some 39) (v:=?_) (a':=?_) #[true,true,true,true,true,false,false,false,false,false,false,false,false,false,false,false] rfl rfl (y0q HT_.out (by kernel_rfl)) (fun _ _ _ h=>h) (Or.inl ⟨by rfl,?_⟩) ?_ ?_;rotate_left
                ·intro w'
                 go_simp
                 with_reducible rfl
                rotate_left
                ·simp only [Act.put,List.setIfInBounds_toArray,List.set_cons_zero,List.set_cons_succ,y0p,y0w]
                 rfl
                refine y15 (i:=5) (N:=some 40) (v:=?_) (a':=?_) #[true,true,true,true,true,true,false,false,false,false,false,false,false,false,false,false] rfl rfl (y0q HT_.out (by kernel_rfl)) (fun _ _ _ h=>h) (Or.inl ⟨by rfl,?_⟩) ?_ ?_;rotate_left
                ·intro w'
                 go_simp
                 with_reducible rfl
                rotate_left
                ·simp only [Act.put,List.setIfInBounds_toArray,List.set_cons_zero,List.set_cons_succ,y0p,y0w]
                 rfl
                refine y15 (i:=8) (N:=some 43) (v:=?_) (a':=?_) #[true,true,true,true,true,true,false,false,true,false,false,false,false,false,false,false] rfl rfl (y0q HT_.out (by kernel_rfl)) (fun _ _ _ h=>h) (Or.inl ⟨by rfl,?_⟩) ?_ ?_;rotate_left
                ·intro w'
                 go_simp
                 with_reducible rfl
                rotate_left
                ·simp only [Act.put,List.setIfInBounds_toArray,List.set_cons_zero,List.set_cons_succ,y0p,y0w]
                 rfl
                refine y15 (i:=9) (N:=some 44) (v:=?_) (a':=?_) #[true,true,true,true,true,true,false,false,true,true,false,false,false,false,false,false] rfl rfl (y0q HT_.out (by kernel_rfl)) (fun _ _ _ h=>h) (Or.inl ⟨by rfl,?_⟩) ?_ ?_;rotate_left
                ·intro w'
                 go_simp
                 with_reducible rfl
                rotate_left
                ·simp only [Act.put,List.setIfInBounds_toArray,List.set_cons_zero,List.set_cons_succ,y0p,y0w]
                 rfl
                refine y15 (i:=10) (N:=some 45) (v:=?_) (a':=?_) #[true,true,true,true,true,true,false,false,true,true,true,false,false,false,false,false] rfl rfl (y0q HT_.out (by kernel_rfl)) (fun _ _ _ h=>h) (Or.inl ⟨by rfl,?_⟩) ?_ ?_;rotate_left
                ·intro w'
                 go_simp
                 with_reducible rfl
                rotate_left
                ·simp only [Act.put,List.setIfInBounds_toArray,List.set_cons_zero,List.set_cons_succ,y0p,y0w]
                 rfl
                refine y15 (i:=11) (N:=some 46) (v:=?_) (a':=?_) #[true,true,true,true,true,true,false,false,true,true,true,true,false,false,false,false] rfl rfl (y0q HT_.out (by kernel_rfl)) (fun _ _ _ h=>h) (Or.inl ⟨by rfl,?_⟩) ?_ ?_;rotate_left
                ·intro w'
                 go_simp
                 with_reducible rfl
                rotate_left
                ·simp only [Act.put,List.setIfInBounds_toArray,List.set_cons_zero,List.set_cons_succ,y0p,y0w]
                 rfl
                refine take_ (i:=6) (N:=some 41) (v:=?_) (a':=?_) #[true,true,true,true,true,true,true,false,true,true,true,true,false,false,false,false] rfl rfl (y52 HT_.out HW_.out (by kernel_rfl)) (fun _ _ _ h=>h) (Or.inl ⟨by rfl,?_⟩) hHeld ?_ ?_;rotate_left
                ·rintro w' ⟨s0,s1⟩
                 go_simp
                 with_reducible rfl
                rotate_left
                ·simp only [Act.put,List.setIfInBounds_toArray,List.set_cons_zero,List.set_cons_succ,y0p,y0w]
                 rfl
                refine y15 (i:=7) (N:=some 42) (v:=?_) (a':=?_) #[true,true,true,true,true,true,true,true,true,true,true,true,false,false,false,false] rfl rfl (y0q HT_.out (by kernel_rfl)) (fun _ _ _ h=>h) (Or.inl ⟨by rfl,?_⟩) ?_ ?_;rotate_left
                ·intro w'
                 go_simp
                 with_reducible rfl
                rotate_left
                ·simp only [Act.put,List.setIfInBounds_toArray,List.set_cons_zero,List.set_cons_succ,y0p,y0w]
                 rfl
                refine take_ (i:=12) (N:=some 47) (v:=?_) (a':=?_) #[true,true,true,true,true,true,true,true,true,true,true,true,true,false,false,false] rfl rfl (y52 HT_.out HW_.out (by kernel_rfl)) (fun _ _ _ h=>h) (Or.inl ⟨by rfl,?_⟩) hHeld ?_ ?_;rotate_left
                ·rintro w' ⟨s0,s1⟩
                 go_simp
                 with_reducible rfl
                rotate_left
                ·simp only [Act.put,List.setIfInBounds_toArray,List.set_cons_zero,List.set_cons_succ,y0p,y0w]
                 rfl
                refine y15 (i:=13) (N:=some 48) (v:=?_) (a':=?_) #[true,true,true,true,true,true,true,true,true,true,true,true,true,true,false,false] rfl rfl (y0q HT_.out (by kernel_rfl)) (fun _ _ _ h=>h) (Or.inl ⟨by rfl,?_⟩) ?_ ?_;rotate_left
                ·intro w'
                 go_simp
                 with_reducible rfl
                rotate_left
                ·simp only [Act.put,List.setIfInBounds_toArray,List.set_cons_zero,List.set_cons_succ,y0p,y0w]
                 rfl
                refine y15 (i:=14) (N:=some 49) (v:=?_) (a':=?_) #[true,true,true,true,true,true,true,true,true,true,true,true,true,true,true,false] rfl rfl (y0q HT_.out (by kernel_rfl)) (fun _ _ _ h=>h) (Or.inl ⟨by rfl,?_⟩) ?_ ?_;rotate_left
                ·intro w'
                 go_simp
                 with_reducible rfl
                rotate_left
                ·simp only [Act.put,List.setIfInBounds_toArray,List.set_cons_zero,List.set_cons_succ,y0p,y0w]
                 rfl
                refine last_ (i:=15) (N:=none) #[true,true,true,true,true,true,true,true,true,true,true,true,true,true,true,true] rfl rfl (y4x HT_.out (by kernel_rfl)) (by decide) (fun K hK=>?_);refine skip_ (w1:=?_) (by rfl) rfl ?_ ?_;rotate_left
                ·go_simp
                 rfl
                refine hK.out _ _ ?_;clear hK K;refine yjd (y81 HT_.out (by kernel_rfl)) ?_
                try go_wp2
                (try simp only [← hl5_3])
                go_roundg k3
                case measure=>have:=HK1.out;have:=HK2.out;have:=HK3.out;omega
                case rel=>exact ⟨(y217),(ji19),(by first|rfl|(simp;done)|(simp only [← hji19]<;>(first|rfl|simp))|(simp [*];done)),H',⟨by have:=HK1.out;have:=HK2.out;have:=HK3.out;omega⟩,⟨by (try simp only [hl5_1]);(try simp only [hl5_2]);(try simp only [hl5_3]);(with_reducible repeat (first|apply Kd.R_alloc|apply Kd.R_drewN|apply Kd.R_drew));exact HQ24.out⟩,⟨by repeat (with_reducible first|exact HB.out|apply y01|apply y00|apply y02|refine y03 ?_ GB22.out)⟩⟩
               ·rw [if_neg c21] at H
                exact absurd H (by simp)
              ·rw [if_neg c20] at H
               exact absurd H (by simp)
             ·rw [if_neg c18] at H
              exact absurd H (by simp)
            ·rw [if_neg c17] at H
             exact absurd H (by simp)
           ·rw [if_neg c16] at H
            have c16b0:decide (x32_3<(wrap64 ((wrap64 (a0+a1)) - x24_2)))=false:=zDf c16;clear c16;have H':=As0.mk H;clear H;go_wp2
            (try simp only [← hl5_2,← hl5_3])
            go_roundg k3
            case measure=>have:=HK1.out;have:=HK2.out;have:=HK3.out;omega
            case rel=>exact ⟨(x5_3),(wrap64 (x24_2+1)),(by first|rfl|(simp;done)|(simp [*];done)),H',⟨by have:=HK1.out;have:=HK2.out;have:=HK3.out;omega⟩,⟨by (try simp only [hl5_1]);(try simp only [hl5_2]);(try simp only [hl5_3]);(with_reducible repeat (first|apply Kd.R_alloc|apply Kd.R_drewN|apply Kd.R_drew));exact HO_5.out⟩,⟨by repeat (with_reducible first|exact HB.out|apply y01|apply y00|apply y02)⟩⟩
        ·rw [if_neg c15] at H
         have c15b0:decide (x24_2<a0)=false:=zDf c15;clear c15
         by_cases c25:0≤a1
         ·rw [if_pos c25] at H
          have c25b0:decide (0≤a1)=true:=zDt c25;clear c25
          by_cases c26:a1<(x5_2.length:Int)
          ·rw [if_pos c26] at H
           have c26b0:decide (a1<(x5_2.length:Int))=true:=zDt c26;clear c26;obtain rfl:=zSi H;have p214:0≤(a1:Int):=zDo (by with_reducible assumption);have q214:a1<(x5_2.length:Int):=zDo (by with_reducible assumption);obtain ⟨ad214,e214,hx214_0⟩:=Kd.at_int (Kd.R_reads' HO_5.out).2.2 a1 p214 q214;cases e214
           replace p214:=eq_true p214;replace q214:=eq_true q214;go_wp2
           go_ret
           exact ⟨by first|rfl|(simp [y08,y07]<;>rfl)|(simp only [← hji3];first|rfl|(simp [y08,y07]<;>rfl))|(simp [*,y08,y07]<;>rfl),by repeat (with_reducible first|exact HB.out|apply y01|apply y00|apply y02)⟩
          ·rw [if_neg c26] at H
           exact absurd H (by simp)
         ·rw [if_neg c25] at H
          exact absurd H (by simp)
  ·rw [if_neg c5] at H
   exact absurd H (by simp)
 ·rw [if_neg c4] at H
  exact absurd H (by simp)
end
end Go.Proofs.Ytdhgeondbnpeoaa.P
namespace Go.Proofs.Ytdhgeondbnpeoaa.P
open Go.RowKit Go.Proofs.Yw.Wd Go.Proofs.Yw.La Go.Proofs.Yw.Mo
section
attribute [local go_sem] y13 y11 y1c y1b y0v y0u y12 y10
def mobs_Rank.l0:Nat->List Int->Int->Int->List Int->Int->Int->Option (Int × Int)
 |0,_,_,_,_,_,_=>none
 |k+1,x0,x5,x6,x15,x16,x17=>if x17<x16 then (if 0≤x17 then (if x17<(x15.length:Int) then ((mobs_ways.f k (wrap64 ((wrap64 ((x0.length:Int) - 1)) - x17)) x6).bind fun t223=>(mobs_Rank.l0 k x0 (wrap64 (x5+(wrap64 ((rd x15 x17) * t223)))) (mx x6 (wrap64 ((rd x15 x17)+1))) x15 x16 (wrap64 (x17+1)))) else (none)) else (none)) else (some (x5,0))
def mobs_Rank.f (k:Nat) (l0:List Int):Option (Int × Int):=(mobs_read.f k (([l0]:List (List Int)))).bind fun t221=>(if t221=0 then (mobs_Rank.l0 k l0 0 0 l0 (l0.length:Int) 0) else (some (0,t221)))
theorem mobs_Rank.calls (k:Nat) (P0_:Nat->Prop) (A0:Option Addr) (c0:Nat) (l0:List Int) (r1:Int) (r2:Int) (w:World) (hs0:Kd.V (Kd.int .i64) 3 w w.heap.size (fun k_=>P0_ k_) (.slice A0 l0.length c0) l0) (h:mobs_Rank.f k l0=some (r1,r2)) :
  Calls Tra.prog 36 #[.slice A0 l0.length c0] w fun e w'=>e=.returned (.tuple #[.int .i64 r1,.int .i64 r2])∧Below w.heap.size w w':=by
 have HO0:=As0.mk (show Kd.V (Kd.int .i64) 3 w w.heap.size (fun k_=>(P0_ k_∨w.heap.size≤k_)) (.slice A0 l0.length c0) l0 from Kd.V_mono hs0 (fun k_ hk=>.inl hk));have HB:=As0.mk (Below.refl w.heap.size w);have H:((mobs_read.f k (([l0]:List (List Int)))).bind fun t221=>(if t221=0 then (mobs_Rank.l0 k l0 0 0 l0 (l0.length:Int) 0) else (some (0,t221))))=some (r1,r2):=h;clear h;obtain ⟨y218,hy218⟩:∃ y_:List (List Int),y_=(([l0]:List (List Int))):=⟨_,rfl⟩
 replace H:((mobs_read.f k y218).bind fun t221=>(if t221=0 then (mobs_Rank.l0 k l0 0 0 l0 (l0.length:Int) 0) else (some (0,t221))))=some (r1,r2):=by first|(rw [hy218];with_reducible exact H)|(have H2_:=(Option.bind_some _ _).symm.trans H;rw [hy218];with_reducible exact H2_)|(have H2_:=(Option.bind_some _ _).symm.trans H;with_reducible exact H2_)|with_reducible exact H|(rw [hy218];exact H)|exact H
 have Ny218:=As0.mk hy218;clear hy218;replace H:=Option.bind_eq_some_iff.mp H;obtain ⟨t221,A20,H⟩:=H;replace H:(if t221=0 then (mobs_Rank.l0 k l0 0 0 l0 (l0.length:Int) 0) else (some (0,t221)))=some (r1,r2):=H;have A2:=As0.mk A20;clear A20
 by_cases c3:t221=0
 ·rw [if_pos c3] at H
  have c3b0:(t221 == 0)=true:=beq_iff_eq.mpr c3;have c3b1:(t221 != 0)=false:=bne_eq_false_iff_eq.mpr c3;clear c3;have H':=As0.mk H;clear H;go_enter Tra.func36,Tra.ntmps36
  go_wp2_with (first|((with_reducible refine y0n (N:=10) rfl ?_);refine Kd.N_lit (Kd.slice 3 (Kd.int .i64)) _ 29 ?hg (N':=10) ?hd (xs:=([l0]:List (List Int))) (inner:=[.slice A0 l0.length c0]) (ok:=(fun k_=>(P0_ k_∨w.heap.size≤k_))) (okp:=(fun k_=>(P0_ k_∨w.heap.size≤k_))) ?hr ?hp (fun _ hk=>hk) ((show ∀ k_,w.heap.size≤k_->(fun k_=>(P0_ k_∨w.heap.size≤k_)) k_ from fun k_ hk=>(.inr (Nat.le_trans (y06 (by repeat (with_reducible first|exact HB.out|apply y01|apply y00|apply y02))) hk))) _ (zLe _)) (Below.refl _ _) (zLe _) (by simp) ?_;(case hd=>rfl);(case hg=>rfl);(case hr=>first|(go_simp;done)|(go_simp;rfl));(case hp=>exact (Reps.one (show Kd.FK (Kd.slice 3 (Kd.int .i64)) _ _ l0 [.slice A0 l0.length c0] from (Kd.FK_slice_mk (Kd.V_reads' (Kd.V_mono (ok':=(fun k_=>(P0_ k_∨w.heap.size≤k_))) (HO0.out) (fun k_ hk=>hk))).2.1 (Kd.V_F (Kd.V_mono (ok':=(fun k_=>(P0_ k_∨w.heap.size≤k_))) (HO0.out) (fun k_ hk=>hk))))) (Reps.none _ _)));intro v219 w4 ho5 hb hg_ hnew_;clear hg_ hnew_;(first|rw [← Ny218.out] at ho5|(simp only [Int.reduceToNat] at ho5;rw [← Ny218.out] at ho5));have n0_:=As0.mk (Kd.V_elder' (by (with_reducible repeat (first|apply Kd.V_alloc|apply Kd.V_drewN|apply Kd.V_drew));exact HO0.out) (Kd.N_base ho5) hb);have n1_:=As0.mk (Kd.N_lower ho5 (y06 (by repeat (with_reducible first|exact HB.out|apply y01|apply y00|apply y02))));have n2_:=As0.mk (y04 (by repeat (with_reducible first|exact HB.out|apply y01|apply y00|apply y02)) hb);clear HO0;clear HB;have HO0:=n0_;have HO220:=n1_;have HB:=n2_;clear n0_ n1_ n2_;clear hb ho5;obtain ⟨Ao6,co6,eo6⟩:=Kd.N_slice HO220.out;subst eo6)|((with_reducible refine y0a (f:=49) rfl ?_);refine y0k (some 11) rfl rfl Tra.func49 (by kernel_rfl) rfl #[.slice Ao6 y218.length co6] rfl (by (try simp only [List.map_toArray,List.map_cons,List.map_nil]);first|done|rfl|(simp only [List.length_drop,List.length_take];rfl)) ?_;(with_reducible refine (mobs_read.calls k _ _ y218 t221 _ ?side1 ?side2 A2.out).mono ?_);(case side1=>repeat (first|exact (Kd.N_reads' HO220.out).2.2|(with_reducible refine Kd.C_alloc ?_ _)|(with_reducible refine Kd.C_drewN ?_ _)|(with_reducible refine Kd.C_drew ?_)));(case side2=>exact (Kd.N_reads' HO220.out).2.1);rintro e w7 ⟨rfl,hb⟩;refine ⟨_,rfl,?_⟩;have n0_:=As0.mk (Kd.V_below (by (with_reducible repeat (first|apply Kd.V_alloc|apply Kd.V_drewN|apply Kd.V_drew));exact HO0.out) hb);have n1_:=As0.mk (Kd.N_below (by (with_reducible repeat (first|apply Kd.N_alloc|apply Kd.N_drewN|apply Kd.N_drew));exact HO220.out) hb);have n2_:=As0.mk (y04 (by repeat (with_reducible first|exact HB.out|apply y01|apply y00|apply y02)) hb);clear HO0;clear HO220;clear HB;have HO0:=n0_;have HO220:=n1_;have HB:=n2_;clear n0_ n1_ n2_;(try clear hb);(try clear hb2);(try clear hk);(try clear hi)))
  go_loopg [5,6,17] k (fun kq v5 v6 v17 w'=>∃ (x5_1:Int) (x6_1:Int) (x17_1:Int),v5=.int .i64 x5_1∧v6=.int .i64 x6_1∧v17=.int .i64 x17_1∧As0 (mobs_Rank.l0 kq l0 x5_1 x6_1 l0 (l0.length:Int) x17_1=some (r1,r2))∧As0 (kq≤k)∧As0 (Kd.V (Kd.int .i64) 3 w' w.heap.size (fun k_=>(P0_ k_∨w.heap.size≤k_)) (.slice A0 l0.length c0) l0)∧As0 (Kd.V (Kd.int .i64) 3 w' w.heap.size (fun k_=>(P0_ k_∨w.heap.size≤k_)) (.slice A0 l0.length c0) l0)∧As0 (Below w.heap.size w w'))
  case atStart=>exact ⟨(0),(0),(0),(by first|rfl|(simp;done)|(simp [*];done)),(by first|rfl|(simp;done)|(simp [*];done)),(by first|rfl|(simp;done)|(simp [*];done)),H',⟨zLe _⟩,⟨by (with_reducible repeat (first|apply Kd.V_alloc|apply Kd.V_drewN|apply Kd.V_drew));exact Kd.V_mono HO0.out (fun _ hk=>hk.1)⟩,⟨by (with_reducible repeat (first|apply Kd.V_alloc|apply Kd.V_drewN|apply Kd.V_drew));exact Kd.V_mono HO0.out (fun _ hk=>hk.1)⟩,⟨by repeat (with_reducible first|exact HB.out|apply y01|apply y00|apply y02)⟩⟩
  case round =>
   clear H'
   try clear p2
   try clear c3
   try clear c3b0
   try clear c3b1
   try clear c4
   obtain ⟨x5_1,x6_1,x17_1,rfl,rfl,rfl,HA,HK1,HO_0,HO_15,HB⟩:=hrel;cases gk with
   |zero=>exact absurd HA.out (by simp [mobs_Rank.l0])
   |succ k1 =>
    have H:=HA.out;clear HA;simp only [mobs_Rank.l0] at H
    by_cases c8:x17_1<(l0.length:Int)
    ·rw [if_pos c8] at H
     have c8b0:decide (x17_1<(l0.length:Int))=true:=zDt c8;clear c8
     by_cases c9:0≤x17_1
     ·rw [if_pos c9] at H
      have c9b0:decide (0≤x17_1)=true:=zDt c9;clear c9
      by_cases c10:x17_1<(l0.length:Int)
      ·rw [if_pos c10] at H
       have c10b0:decide (x17_1<(l0.length:Int))=true:=zDt c10;clear c10;replace H:=Option.bind_eq_some_iff.mp H;obtain ⟨t223,A110,H⟩:=H;replace H:(mobs_Rank.l0 k1 l0 (wrap64 (x5_1+(wrap64 ((rd l0 x17_1) * t223)))) (mx x6_1 (wrap64 ((rd l0 x17_1)+1))) l0 (l0.length:Int) (wrap64 (x17_1+1)))=some (r1,r2):=H;have A11:=As0.mk A110;clear A110;obtain ⟨ji12,hji12⟩:∃ j_:Int,(mx x6_1 (wrap64 ((rd l0 x17_1)+1)))=j_:=⟨_,rfl⟩
       replace H:(mobs_Rank.l0 k1 l0 (wrap64 (x5_1+(wrap64 ((rd l0 x17_1) * t223)))) ji12 l0 (l0.length:Int) (wrap64 (x17_1+1)))=some (r1,r2):=by first|(rw [hji12] at H;exact H)|(simp only [hji12] at H ⊢;exact H)
       (try rw [hji12] at A11)
       have hji12_:(if x6_1<(wrap64 ((rd l0 x17_1)+1)) then (wrap64 ((rd l0 x17_1)+1)) else x6_1)=ji12:=hji12;have H':=As0.mk H;clear H;have p222:0≤(x17_1:Int):=zDo (by with_reducible assumption);have q222:x17_1<(l0.length:Int):=zDo (by with_reducible assumption);obtain ⟨ad222,e222,hx222_0⟩:=Kd.at_int (Kd.V_reads' HO_15.out).2.2 x17_1 p222 q222;cases e222
       replace p222:=eq_true p222;replace q222:=eq_true q222;go_wp2_with (first|((with_reducible refine y0a (f:=67) rfl ?_);refine y0k (some 30) rfl rfl Tra.func67 (by kernel_rfl) rfl #[.int .i64 (wrap64 ((wrap64 ((l0.length:Int) - 1)) - x17_1)),.int .i64 x6_1] rfl (by (try simp only [List.map_toArray,List.map_cons,List.map_nil]);first|done|rfl|(simp only [List.length_drop,List.length_take];rfl)) ?_;(with_reducible refine (mobs_ways.calls k1 (wrap64 ((wrap64 ((l0.length:Int) - 1)) - x17_1)) x6_1 t223 _ A11.out).mono ?_);rintro e w13 ⟨rfl,hb⟩;refine ⟨_,rfl,?_⟩;have n0_:=As0.mk (Kd.V_below (by (with_reducible repeat (first|apply Kd.V_alloc|apply Kd.V_drewN|apply Kd.V_drew));exact HO_0.out) hb);have n1_:=As0.mk (Kd.V_below (by (with_reducible repeat (first|apply Kd.V_alloc|apply Kd.V_drewN|apply Kd.V_drew));exact HO_15.out) hb);have n2_:=As0.mk (y04 (by repeat (with_reducible first|exact HB.out|apply y01|apply y00|apply y02)) hb);clear HO_0;clear HO_15;clear HB;have HO_0:=n0_;have HO_15:=n1_;have HB:=n2_;clear n0_ n1_ n2_;(try clear hb);(try clear hb2);(try clear hk);(try clear hi)))
       go_roundg k1
       case measure=>have:=HK1.out;omega
       case rel=>exact ⟨(wrap64 (x5_1+(wrap64 ((rd l0 x17_1) * t223)))),(ji12),(wrap64 (x17_1+1)),(by first|rfl|(simp;done)|(simp [*];done)),(by first|rfl|(simp;done)|(simp only [← hji12]<;>(first|rfl|simp))|(simp [*];done)),(by first|rfl|(simp;done)|(simp [*];done)),H',⟨by have:=HK1.out;omega⟩,⟨by (with_reducible repeat (first|apply Kd.V_alloc|apply Kd.V_drewN|apply Kd.V_drew));exact HO_0.out⟩,⟨by (with_reducible repeat (first|apply Kd.V_alloc|apply Kd.V_drewN|apply Kd.V_drew));exact HO_15.out⟩,⟨by repeat (with_reducible first|exact HB.out|apply y01|apply y00|apply y02)⟩⟩
      ·rw [if_neg c10] at H
       exact absurd H (by simp)
     ·rw [if_neg c9] at H
      exact absurd H (by simp)
    ·rw [if_neg c8] at H
     have c8b0:decide (x17_1<(l0.length:Int))=false:=zDf c8;clear c8;simp only [Option.some.injEq,Prod.mk.injEq] at H;obtain ⟨rfl,rfl⟩:=H;go_wp2
     go_ret2
     exact ⟨by first|rfl|(simp [y08,y07]<;>rfl)|(simp [*,y08,y07]<;>rfl),by repeat (with_reducible first|exact HB.out|apply y01|apply y00|apply y02)⟩
 ·rw [if_neg c3] at H
  have c3b0:(t221 == 0)=false:=beq_eq_false_iff_ne.mpr c3;have c3b1:(t221 != 0)=true:=bne_iff_ne.mpr c3;simp only [Option.some.injEq,Prod.mk.injEq] at H;obtain ⟨rfl,rfl⟩:=H;go_enter Tra.func36,Tra.ntmps36
  go_wp2_with (first|((with_reducible refine y0n (N:=10) rfl ?_);refine Kd.N_lit (Kd.slice 3 (Kd.int .i64)) _ 29 ?hg (N':=10) ?hd (xs:=([l0]:List (List Int))) (inner:=[.slice A0 l0.length c0]) (ok:=(fun k_=>(P0_ k_∨w.heap.size≤k_))) (okp:=(fun k_=>(P0_ k_∨w.heap.size≤k_))) ?hr ?hp (fun _ hk=>hk) ((show ∀ k_,w.heap.size≤k_->(fun k_=>(P0_ k_∨w.heap.size≤k_)) k_ from fun k_ hk=>(.inr (Nat.le_trans (y06 (by repeat (with_reducible first|exact HB.out|apply y01|apply y00|apply y02))) hk))) _ (zLe _)) (Below.refl _ _) (zLe _) (by simp) ?_;(case hd=>rfl);(case hg=>rfl);(case hr=>first|(go_simp;done)|(go_simp;rfl));(case hp=>exact (Reps.one (show Kd.FK (Kd.slice 3 (Kd.int .i64)) _ _ l0 [.slice A0 l0.length c0] from (Kd.FK_slice_mk (Kd.V_reads' (Kd.V_mono (ok':=(fun k_=>(P0_ k_∨w.heap.size≤k_))) (HO0.out) (fun k_ hk=>hk))).2.1 (Kd.V_F (Kd.V_mono (ok':=(fun k_=>(P0_ k_∨w.heap.size≤k_))) (HO0.out) (fun k_ hk=>hk))))) (Reps.none _ _)));intro v219 w14 ho15 hb hg_ hnew_;clear hg_ hnew_;(first|rw [← Ny218.out] at ho15|(simp only [Int.reduceToNat] at ho15;rw [← Ny218.out] at ho15));have n0_:=As0.mk (Kd.V_elder' (by (with_reducible repeat (first|apply Kd.V_alloc|apply Kd.V_drewN|apply Kd.V_drew));exact HO0.out) (Kd.N_base ho15) hb);have n1_:=As0.mk (Kd.N_lower ho15 (y06 (by repeat (with_reducible first|exact HB.out|apply y01|apply y00|apply y02))));have n2_:=As0.mk (y04 (by repeat (with_reducible first|exact HB.out|apply y01|apply y00|apply y02)) hb);clear HO0;clear HB;have HO0:=n0_;have HO220:=n1_;have HB:=n2_;clear n0_ n1_ n2_;clear hb ho15;obtain ⟨Ao16,co16,eo16⟩:=Kd.N_slice HO220.out;subst eo16)|((with_reducible refine y0a (f:=49) rfl ?_);refine y0k (some 11) rfl rfl Tra.func49 (by kernel_rfl) rfl #[.slice Ao16 y218.length co16] rfl (by (try simp only [List.map_toArray,List.map_cons,List.map_nil]);first|done|rfl|(simp only [List.length_drop,List.length_take];rfl)) ?_;(with_reducible refine (mobs_read.calls k _ _ y218 t221 _ ?side1 ?side2 A2.out).mono ?_);(case side1=>repeat (first|exact (Kd.N_reads' HO220.out).2.2|(with_reducible refine Kd.C_alloc ?_ _)|(with_reducible refine Kd.C_drewN ?_ _)|(with_reducible refine Kd.C_drew ?_)));(case side2=>exact (Kd.N_reads' HO220.out).2.1);rintro e w17 ⟨rfl,hb⟩;refine ⟨_,rfl,?_⟩;have n0_:=As0.mk (Kd.V_below (by (with_reducible repeat (first|apply Kd.V_alloc|apply Kd.V_drewN|apply Kd.V_drew));exact HO0.out) hb);have n1_:=As0.mk (Kd.N_below (by (with_reducible repeat (first|apply Kd.N_alloc|apply Kd.N_drewN|apply Kd.N_drew));exact HO220.out) hb);have n2_:=As0.mk (y04 (by repeat (with_reducible first|exact HB.out|apply y01|apply y00|apply y02)) hb);clear HO0;clear HO220;clear HB;have HO0:=n0_;have HO220:=n1_;have HB:=n2_;clear n0_ n1_ n2_;(try clear hb);(try clear hb2);(try clear hk);(try clear hi)))
  go_ret2
  exact ⟨by first|rfl|(simp [y08,y07]<;>rfl)|(simp [*,y08,y07]<;>rfl),by repeat (with_reducible first|exact HB.out|apply y01|apply y00|apply y02)⟩
def w6_alive.f:Option Bool:=some true
theorem w6_alive.calls (r:Bool) (w:World) (h:w6_alive.f=some r) :
  Calls Tra.prog 20 #[] w fun e w'=>e=.returned (.bool r)∧Below w.heap.size w w':=by
 obtain rfl:=zSi h;exact Ext.alive_calls w
end
section
attribute [local go_sem] y13 y11 y1c y1b y0v y0u y12 y10
def w6_few.f (l0:List Int) (l1:List Int):Option (Bool):=if (l0.length:Int)≤40 then (some (decide ((l1.length:Int)≤40))) else (some false)
theorem w6_few.calls (A0:Option Addr) (c0:Nat) (l0:List Int) (A1:Option Addr) (c1:Nat) (l1:List Int) (r:Bool) (w:World) (hr0:Kd.C (Kd.int .i64) w A0 l0.length l0) (hc0:l0.length≤c0) (hr1:Kd.C (Kd.int .i64) w A1 l1.length l1) (hc1:l1.length≤c1) (h:w6_few.f l0 l1=some r) :
  Calls Tra.prog 22 #[.slice A0 l0.length c0,.slice A1 l1.length c1] w fun e w'=>e=.returned (.bool r)∧Drawn0 w w':=by
 have HR0:=As0.mk hr0;have HC0:=As0.mk hc0;clear hr0 hc0;have HR1:=As0.mk hr1;have HC1:=As0.mk hc1;clear hr1 hc1;have H:(if (l0.length:Int)≤40 then (some (decide ((l1.length:Int)≤40))) else (some false))=some r:=h;clear h
 by_cases c3:(l0.length:Int)≤40
 ·rw [if_pos c3] at H
  have c3b0:decide ((l0.length:Int)≤40)=true:=zDt c3;have c3b1:decide (l0.length≤40)=true:=zDt (by omega);clear c3;obtain rfl:=zSi H;go_enter Tra.func22,Tra.ntmps22
  go_wp2
  go_ret
  exact ⟨by first|rfl|(simp;done)|(simp [*];done),by repeat (first|exact Drawn0.refl _|apply Drawn0.step)⟩
 ·rw [if_neg c3] at H
  have c3b0:decide ((l0.length:Int)≤40)=false:=zDf c3;have c3b1:decide (l0.length≤40)=false:=zDf (by omega);clear c3;obtain rfl:=zSi H;go_enter Tra.func22,Tra.ntmps22
  go_wp2
  go_ret
  exact ⟨by first|rfl|(simp;done)|(simp [*];done),by repeat (first|exact Drawn0.refl _|apply Drawn0.step)⟩
def r6_Many.l0:Nat->List Int->Int->Int->Option (Int)
 |0,_,_,_=>none
 |k+1,x0,x3,x4=>if x4<(x0.length:Int) then (if 0≤x4 then (r6_Many.l0 k x0 (mx x3 (wrap64 ((rd x0 x4)+1))) (wrap64 (x4+1))) else (none)) else (some x3)
def r6_Many.f (k:Nat) (l0:List Int):Option (Int):=r6_Many.l0 k l0 0 0
theorem r6_Many.calls (k:Nat) (A0:Option Addr) (c0:Nat) (l0:List Int) (r:Int) (w:World) (hr0:Kd.C (Kd.int .i64) w A0 l0.length l0) (hc0:l0.length≤c0) (h:r6_Many.f k l0=some r) :
  Calls Tra.prog 31 #[.slice A0 l0.length c0] w fun e w'=>e=.returned (.int .i64 r)∧Below w.heap.size w w':=by
 have HR0:=As0.mk hr0;have HC0:=As0.mk hc0;clear hr0 hc0;have HB:=As0.mk (Below.refl w.heap.size w);have H:(r6_Many.l0 k l0 0 0)=some r:=h;clear h;have H':=As0.mk H;clear H;go_enter Tra.func31,Tra.ntmps31
 go_wp2
 go_loopg [3,4] k (fun kq v3 v4 w'=>∃ (x3_1:Int) (x4_1:Int),v3=.int .i64 x3_1∧v4=.int .i64 x4_1∧As0 (r6_Many.l0 kq l0 x3_1 x4_1=some r)∧As0 (kq≤k)∧As0 (Below w.heap.size w w'))
 case atStart=>exact ⟨(0),(0),(by first|rfl|(simp;done)|(simp [*];done)),(by first|rfl|(simp;done)|(simp [*];done)),H',⟨zLe _⟩,⟨by repeat (with_reducible first|exact HB.out|apply y01|apply y00|apply y02)⟩⟩
 case round =>
  clear H';obtain ⟨x3_1,x4_1,rfl,rfl,HA,HK1,HB⟩:=hrel;cases gk with
  |zero=>exact absurd HA.out (by simp [r6_Many.l0])
  |succ k1 =>
   have H:=HA.out;clear HA;simp only [r6_Many.l0] at H
   by_cases c2:x4_1<(l0.length:Int)
   ·rw [if_pos c2] at H
    have c2b0:decide (x4_1<(l0.length:Int))=true:=zDt c2;clear c2
    by_cases c3:0≤x4_1
    ·rw [if_pos c3] at H
     have c3b0:decide (0≤x4_1)=true:=zDt c3;clear c3;obtain ⟨ji4,hji4⟩:∃ j_:Int,(mx x3_1 (wrap64 ((rd l0 x4_1)+1)))=j_:=⟨_,rfl⟩
     replace H:(r6_Many.l0 k1 l0 ji4 (wrap64 (x4_1+1)))=some r:=by first|(rw [hji4] at H;exact H)|(simp only [hji4] at H ⊢;exact H)
     have hji4_:(if x3_1<(wrap64 ((rd l0 x4_1)+1)) then (wrap64 ((rd l0 x4_1)+1)) else x3_1)=ji4:=hji4;have H':=As0.mk H;clear H;have p270:0≤(x4_1:Int):=zDo (by with_reducible assumption);have q270:x4_1<(l0.length:Int):=zDo (by with_reducible assumption);obtain ⟨ad270,e270,hx270_0⟩:=Kd.at_int HR0.out x4_1 p270 q270;cases e270
     replace hx270_0:=(HB.out.cell (World.block_lt_of_cell? w _ hx270_0)).trans hx270_0;replace p270:=eq_true p270;replace q270:=eq_true q270;go_wp2
     go_roundg k1
     case measure=>have:=HK1.out;omega
     case rel=>exact ⟨(ji4),(wrap64 (x4_1+1)),(by first|rfl|(simp;done)|(simp only [← hji4]<;>(first|rfl|simp))|(simp [*];done)),(by first|rfl|(simp;done)|(simp [*];done)),H',⟨by have:=HK1.out;omega⟩,⟨by repeat (with_reducible first|exact HB.out|apply y01|apply y00|apply y02)⟩⟩
    ·rw [if_neg c3] at H
     exact absurd H (by simp)
   ·rw [if_neg c2] at H
    have c2b0:decide (x4_1<(l0.length:Int))=false:=zDf c2;clear c2;obtain rfl:=zSi H;go_wp2
    go_ret
    exact ⟨by first|rfl|(simp [y08,y07]<;>rfl)|(simp [*,y08,y07]<;>rfl),by repeat (with_reducible first|exact HB.out|apply y01|apply y00|apply y02)⟩
end
section
attribute [local go_sem] y13 y11 y1c y1b y0v y0u y12 y10
mutual
def r6_IsParting.l0:Nat->List Int->Int->Int->Option (Bool)
 |0,_,_,_=>none
 |k+1,x0,x3,x4=>if x4<(x0.length:Int) then (if 0≤x4 then (if (rd x0 x4)<0 then (r6_IsParting.j1 k x0 x3 x4 true) else (r6_IsParting.j1 k x0 x3 x4 (decide ((rd x0 x4) > x3)))) else (none)) else (some true)
def r6_IsParting.j1:Nat->List Int->Int->Int->Bool->Option (Bool)
 |0,_,_,_,_=>none
 |k+1,x0,x3,x4,x26=>if x26=true then (some false) else (if 0≤x4 then (if x4<(x0.length:Int) then (if (rd x0 x4)=x3 then (r6_IsParting.l0 k x0 (wrap64 (x3+1)) (wrap64 (x4+1))) else (r6_IsParting.l0 k x0 x3 (wrap64 (x4+1)))) else (none)) else (none))
end
def r6_IsParting.f (k:Nat) (l0:List Int):Option (Bool):=if (l0.length:Int) > 12 then (some false) else (r6_IsParting.l0 k l0 0 0)
theorem r6_IsParting.calls (k:Nat) (A0:Option Addr) (c0:Nat) (l0:List Int) (r:Bool) (w:World) (hr0:Kd.C (Kd.int .i64) w A0 l0.length l0) (hc0:l0.length≤c0) (h:r6_IsParting.f k l0=some r) :
  Calls Tra.prog 30 #[.slice A0 l0.length c0] w fun e w'=>e=.returned (.bool r)∧Drawn0 w w':=by
 have HR0:=As0.mk hr0;have HC0:=As0.mk hc0;clear hr0 hc0;have H:(if (l0.length:Int) > 12 then (some false) else (r6_IsParting.l0 k l0 0 0))=some r:=h;clear h
 by_cases c2:(l0.length:Int) > 12
 ·rw [if_pos c2] at H
  have c2b0:decide (12<(l0.length:Int))=true:=zDt c2;have c2b1:decide (12<l0.length)=true:=zDt (by omega);clear c2;obtain rfl:=zSi H;go_enter Tra.func30,Tra.ntmps30
  go_wp2
  go_ret
  exact ⟨by first|rfl|(simp;done)|(simp [*];done),by repeat (first|exact Drawn0.refl _|apply Drawn0.step)⟩
 ·rw [if_neg c2] at H
  have c2b0:decide (12<(l0.length:Int))=false:=zDf c2;have c2b1:decide (12<l0.length)=false:=zDf (by omega);clear c2;have H':=As0.mk H;clear H;go_enter Tra.func30,Tra.ntmps30
  go_wp2
  go_loopg [3,4] k (fun kq v3 v4 w'=>∃ (x3_1:Int) (x4_1:Int),v3=.int .i64 x3_1∧v4=.int .i64 x4_1∧As0 (r6_IsParting.l0 kq l0 x3_1 x4_1=some r)∧As0 (kq≤k)∧Drawn0 w w')
  case atStart=>exact ⟨(0),(0),(by first|rfl|(simp;done)|(simp [*];done)),(by first|rfl|(simp;done)|(simp [*];done)),H',⟨zLe _⟩,by repeat (first|exact Drawn0.refl _|apply Drawn0.step)⟩
  case round =>
   clear H'
   try clear c2
   try clear c2b0
   try clear c2b1
   try clear p2
   obtain ⟨x3_1,x4_1,rfl,rfl,HA,HK1,⟨m1,rfl⟩⟩:=hrel;cases gk with
   |zero=>exact absurd HA.out (by simp [r6_IsParting.l0])
   |succ k1 =>
    have H:=HA.out;clear HA;simp only [r6_IsParting.l0] at H
    by_cases c3:x4_1<(l0.length:Int)
    ·rw [if_pos c3] at H
     have c3b0:decide (x4_1<(l0.length:Int))=true:=zDt c3;clear c3;have HC4:=As0.mk H;clear H;go_upto_region 7 with (fail)
     go_cut [26] (fun v26 wc=>∃ (kq:Nat) (x26_3:Bool),v26=.bool x26_3∧As0 (r6_IsParting.j1 kq l0 x3_1 x4_1 x26_3=some r)∧As0 (kq≤k1)∧Drawn0 w wc)
     case first =>
      have H:=HC4.out;clear HC4
      by_cases c5:0≤x4_1
      ·rw [if_pos c5] at H
       have c5b0:decide (0≤x4_1)=true:=zDt c5;clear c5
       (first|rw [c5b0]|(simp only [y0p,y0w];rw [c5b0])|skip)
       by_cases c6:(rd l0 x4_1)<0
       ·rw [if_pos c6] at H
        have c6b0:decide ((rd l0 x4_1)<0)=true:=zDt c6;clear c6;have H':=As0.mk H;clear H;have p271:0≤(x4_1:Int):=zDo (by with_reducible assumption);have q271:x4_1<(l0.length:Int):=zDo (by with_reducible assumption);obtain ⟨ad271,e271,hx271_0⟩:=Kd.at_int HR0.out x4_1 p271 q271;cases e271
        replace p271:=eq_true p271;replace q271:=eq_true q271;go_wp2
        go_meet
        case rel=>exact ⟨_,(true),(by first|rfl|(simp;done)|(simp [*];done)),H',⟨by have:=HK1.out;first|omega|exact zLe _⟩,by repeat (first|exact Drawn0.refl _|apply Drawn0.step)⟩
       ·rw [if_neg c6] at H
        have c6b0:decide ((rd l0 x4_1)<0)=false:=zDf c6;clear c6;have H':=As0.mk H;clear H;have p271:0≤(x4_1:Int):=zDo (by with_reducible assumption);have q271:x4_1<(l0.length:Int):=zDo (by with_reducible assumption);obtain ⟨ad271,e271,hx271_0⟩:=Kd.at_int HR0.out x4_1 p271 q271;cases e271
        replace p271:=eq_true p271;replace q271:=eq_true q271;have p272:0≤(x4_1:Int):=zDo (by with_reducible assumption);have q272:x4_1<(l0.length:Int):=zDo (by with_reducible assumption);obtain ⟨ad272,e272,hx272_0⟩:=Kd.at_int HR0.out x4_1 p272 q272;obtain rfl:ad271=ad272:=(by injection e272)
        replace p272:=eq_true p272;replace q272:=eq_true q272;go_wp2
        go_meet
        case rel=>exact ⟨_,(decide ((rd l0 x4_1) > x3_1)),(by first|rfl|(simp;done)|(simp [*];done)),H',⟨by have:=HK1.out;first|omega|exact zLe _⟩,by repeat (first|exact Drawn0.refl _|apply Drawn0.step)⟩
      ·rw [if_neg c5] at H
       exact absurd H (by simp)
     case rest =>
      clear HC4
      try clear c2
      try clear c2b0
      try clear c2b1
      try clear p2
      try clear q2
      try clear hx2
      try clear c3
      try clear c3b0
      try clear c5
      try clear c5b0
      try clear c6
      try clear c6b0
      try clear hx271_0
      try clear hx272_0
      try clear p2
      try clear p271
      try clear p272
      try clear q271
      try clear q272
      obtain ⟨kq,x26_3,rfl,HA,HJ3,⟨mc3,rfl⟩⟩:=hcut;cases kq with
      |zero=>exact absurd HA.out (by simp [r6_IsParting.j1])
      |succ kj3 =>
       have H:=HA.out;clear HA;simp only [r6_IsParting.j1] at H
       by_cases c7:x26_3=true
       ·subst c7
        have H1:(some false)=some r:=by rw [if_pos rfl] at H;exact H
        clear H;have H:=H1;clear H1;obtain rfl:=zSi H;go_wp2
        go_ret
        exact ⟨by first|rfl|(simp;done)|(simp [*];done),by repeat (first|exact Drawn0.refl _|apply Drawn0.step)⟩
       ·replace c7:=Bool.eq_false_iff.mpr c7
        subst c7;have H1:(if 0≤x4_1 then (if x4_1<(l0.length:Int) then (if (rd l0 x4_1)=x3_1 then (r6_IsParting.l0 kj3 l0 (wrap64 (x3_1+1)) (wrap64 (x4_1+1))) else (r6_IsParting.l0 kj3 l0 x3_1 (wrap64 (x4_1+1)))) else (none)) else (none))=some r:=by rw [if_neg (show ¬ (false=true) by decide)] at H;exact H
        clear H;have H:=H1;clear H1
        by_cases c8:0≤x4_1
        ·rw [if_pos c8] at H
         have c8b0:decide (0≤x4_1)=true:=zDt c8;clear c8
         by_cases c9:x4_1<(l0.length:Int)
         ·rw [if_pos c9] at H
          have c9b0:decide (x4_1<(l0.length:Int))=true:=zDt c9;clear c9
          by_cases c10:(rd l0 x4_1)=x3_1
          ·rw [if_pos c10] at H
           have c10b0:((rd l0 x4_1) == x3_1)=true:=beq_iff_eq.mpr c10;have c10b1:((rd l0 x4_1) != x3_1)=false:=bne_eq_false_iff_eq.mpr c10;clear c10;have H':=As0.mk H;clear H;have p273:0≤(x4_1:Int):=zDo (by with_reducible assumption);have q273:x4_1<(l0.length:Int):=zDo (by with_reducible assumption);obtain ⟨ad273,e273,hx273_0⟩:=Kd.at_int HR0.out x4_1 p273 q273;cases e273
           replace p273:=eq_true p273;replace q273:=eq_true q273;go_wp2
           go_roundg kj3
           case measure=>have:=HK1.out;have:=HJ3.out;omega
           case rel=>exact ⟨(wrap64 (x3_1+1)),(wrap64 (x4_1+1)),(by first|rfl|(simp;done)|(simp [*];done)),(by first|rfl|(simp;done)|(simp [*];done)),H',⟨by have:=HK1.out;have:=HJ3.out;omega⟩,by repeat (first|exact Drawn0.refl _|apply Drawn0.step)⟩
          ·rw [if_neg c10] at H
           have c10b0:((rd l0 x4_1) == x3_1)=false:=beq_eq_false_iff_ne.mpr c10;have c10b1:((rd l0 x4_1) != x3_1)=true:=bne_iff_ne.mpr c10;have H':=As0.mk H;clear H;have p273:0≤(x4_1:Int):=zDo (by with_reducible assumption);have q273:x4_1<(l0.length:Int):=zDo (by with_reducible assumption);obtain ⟨ad273,e273,hx273_0⟩:=Kd.at_int HR0.out x4_1 p273 q273;cases e273
           replace p273:=eq_true p273;replace q273:=eq_true q273;go_wp2
           go_roundg kj3
           case measure=>have:=HK1.out;have:=HJ3.out;omega
           case rel=>exact ⟨(x3_1),(wrap64 (x4_1+1)),(by first|rfl|(simp;done)|(simp [*];done)),(by first|rfl|(simp;done)|(simp [*];done)),H',⟨by have:=HK1.out;have:=HJ3.out;omega⟩,by repeat (first|exact Drawn0.refl _|apply Drawn0.step)⟩
         ·rw [if_neg c9] at H
          exact absurd H (by simp)
        ·rw [if_neg c8] at H
         exact absurd H (by simp)
    ·rw [if_neg c3] at H
     have c3b0:decide (x4_1<(l0.length:Int))=false:=zDf c3;clear c3;obtain rfl:=zSi H;go_wp2
     go_ret
     exact ⟨by first|rfl|(simp;done)|(simp [*];done),by repeat (first|exact Drawn0.refl _|apply Drawn0.step)⟩
end
section
attribute [local go_sem] y13 y11 y1c y1b y0v y0u y12 y10
def mobs_number_2_int.f (l0:List S89):Option (List Int):=if (∀ p ∈ l0,Ext.In64 p.f0∧Ext.In64 p.f1)∧l0.length<17592186044416 then some (Ext.numL (l0.map fun p=>(p.f0,p.f1))) else none
theorem yd5 {w:World} {A:Option Addr} {l:List S89} (h:Kd.C k89 w A l.length l):Ext.Reads2 w A (l.map fun p=>(p.f0,p.f1)):=by
 intro hn;rw [List.length_map] at hn;obtain ⟨ad,hA,hc⟩:=h.2.2 hn;refine ⟨ad,hA,fun j p hj=>?_⟩;rw [List.getElem?_map] at hj;obtain ⟨q,hq,rfl⟩:=Option.map_eq_some_iff.1 hj;obtain ⟨c,hs,hr,hcell⟩:=hc j q hq;obtain rfl:=yj5 hr;have e:k89.sz=2:=rfl;rw [e] at hcell;exact ⟨hcell 0 _ rfl,hcell 1 _ rfl⟩
theorem mobs_number_2_int.own (A0:Option Addr) (c0:Nat) (l0:List S89) (r1:List Int) (w:World) (hr0:Kd.C k89 w A0 l0.length l0) (hc0:l0.length≤c0) (h:mobs_number_2_int.f l0=some r1) :
  Calls Tra.prog 84 #[.slice A0 l0.length c0] w fun e w'=>∃ v0_:Value,e=.returned v0_∧Ext.OwnI w' w.heap.size v0_ r1∧Below w.heap.size w w':=by
 unfold mobs_number_2_int.f at h;split at h
 ·rename_i hL
  obtain rfl:=zSi h;exact (by have:=Ext.num2_all A0 c0 (l0.map fun p=>(p.f0,p.f1)) w (yd5 hr0) (by simpa using hL.1) (by simpa using hL.2);rwa [List.length_map] at this)
 ·cases h
end
section
attribute [local go_sem] y13 y11 y1c y1b y0v y0u y12 y10
def mobs_below.l0:Nat->List Int->List Int->List (S89)->Int->Int->Option (List Int)
 |0,_,_,_,_,_=>none
 |k+1,x0,x1,x5,x8,x9=>if x9<x8 then (if 0≤x9 then (if x9<(x0.length:Int) then (if x9<(x1.length:Int) then (if x5.length<8796093022208 then (mobs_below.l0 k x0 x1 (x5 ++ [(⟨rd x0 x9,rd x1 x9⟩:S89)]) x8 (wrap64 (x9+1))) else (none)) else (none)) else (none)) else (none)) else ((mobs_number_2_int.f x5).bind fun t605=>(some t605))
def mobs_below.f (k:Nat) (l0:List Int) (l1:List Int):Option (List Int):=mobs_below.l0 k l0 l1 ([]:List (S89)) (l0.length:Int) 0
def mobs_below.T5:Bool × List (List Nat × List Nat):=(true,[([],[]),([],[]),([],[]),([1,2],[1,2]),([3],[3]),([],[]),([],[]),([5,6],[5,6]),([7],[7]),([4,8],[4,8]),([9],[9]),([0,10],[0,10]),([11,11,0,1,2,3,4,5,6,7,8,9,10,11],[0,11])])
def mobs_below.B5:List Nat:=[0,0,0,6,14,0,0,96,224,510,1022,2047,4095]
theorem mobs_below.tab5:rtab .any (yhi Tra.f63 5)=mobs_below.T5:=by kernel_rfl
theorem mobs_below.bits5:y36 mobs_below.T5.2 mobs_below.B5=true:=by kernel_rfl
theorem mobs_below.flat (k:Nat) (A0:Option Addr) (c0:Nat) (l0:List Int) (A1:Option Addr) (c1:Nat) (l1:List Int) (r:List Int) (w:World) (hr0:Kd.C (Kd.int .i64) w A0 l0.length l0) (hc0:l0.length≤c0) (hr1:Kd.C (Kd.int .i64) w A1 l1.length l1) (hc1:l1.length≤c1) (h:mobs_below.f k l0 l1=some r) :
  Calls Tra.prog 63 #[.slice A0 l0.length c0,.slice A1 l1.length c1] w fun e w'=>∃ v0_:Value,e=.returned (v0_)∧Ext.OwnI w' w.heap.size v0_ r∧Below w.heap.size w w':=by
 have hu89:=Tra.underlying89;have HR0:=As0.mk hr0;have HC0:=As0.mk hc0;clear hr0 hc0;have HR1:=As0.mk hr1;have HC1:=As0.mk hc1;clear hr1 hc1;have HB:=As0.mk (Below.refl w.heap.size w);have H:(mobs_below.l0 k l0 l1 ([]:List (S89)) (l0.length:Int) 0)=some r:=h;clear h;have H':=As0.mk H;clear H;go_enter Tra.func63,Tra.ntmps63
 go_wp2
 go_loopg [5,9] k (fun kq v5 v9 w'=>∃ (x5_1:List (S89)) (x9_1:Int),v9=.int .i64 x9_1∧As0 (mobs_below.l0 kq l0 l1 x5_1 (l0.length:Int) x9_1=some r)∧As0 (kq≤k)∧As0 (Kd.R k89 89 w' w.heap.size (fun _=>True) v5 x5_1)∧As0 (Below w.heap.size w w'))
 case atStart=>exact ⟨(([]:List (S89))),(0),(by first|rfl|(simp;done)|(simp [*];done)),H',⟨zLe _⟩,⟨by first|exact Kd.R_nil _ _ _ _ _|exact Kd.N_nil _ _ _ _ _|exact Kd.V_nil _ _ _ _ _|exact Kd.Q_nil _ _ _ _ _|exact Kd.S_nil _ _ _ _ _⟩,⟨by repeat (with_reducible first|exact HB.out|apply y01|apply y00|apply y02)⟩⟩
 case round =>
  clear H'
  try clear c1
  try clear p2
  obtain ⟨x5_1,x9_1,rfl,HA,HK1,HO_5,HB⟩:=hrel;cases gk with
  |zero=>exact absurd HA.out (by simp [mobs_below.l0])
  |succ k1 =>
   have H:=HA.out;clear HA;simp only [mobs_below.l0] at H
   by_cases c3:x9_1<(l0.length:Int)
   ·rw [if_pos c3] at H
    have c3b0:decide (x9_1<(l0.length:Int))=true:=zDt c3;clear c3
    by_cases c4:0≤x9_1
    ·rw [if_pos c4] at H
     have c4b0:decide (0≤x9_1)=true:=zDt c4;clear c4
     by_cases c5:x9_1<(l0.length:Int)
     ·rw [if_pos c5] at H
      have c5b0:decide (x9_1<(l0.length:Int))=true:=zDt c5;clear c5
      by_cases c6:x9_1<(l1.length:Int)
      ·rw [if_pos c6] at H
       have c6b0:decide (x9_1<(l1.length:Int))=true:=zDt c6;clear c6
       by_cases c7:x5_1.length<8796093022208
       ·rw [if_pos c7] at H
        have LMc7:=As0.mk c7;clear c7;obtain ⟨y602,hy602⟩:∃ y_:List (S89),y_=(x5_1 ++ [(⟨rd l0 x9_1,rd l1 x9_1⟩:S89)]):=⟨_,rfl⟩
        replace H:(mobs_below.l0 k1 l0 l1 y602 (l0.length:Int) (wrap64 (x9_1+1)))=some r:=by first|(rw [hy602];with_reducible exact H)|(have H2_:=(Option.bind_some _ _).symm.trans H;rw [hy602];with_reducible exact H2_)|(have H2_:=(Option.bind_some _ _).symm.trans H;with_reducible exact H2_)|with_reducible exact H|(rw [hy602];exact H)|exact H
        have Ny602:=As0.mk hy602;clear hy602;have H':=As0.mk H;clear H
        try go_wp2
        have n0_:=As0.mk (Kd.R_drew HO_5.out);have n1_:=As0.mk (y02 HB.out);clear HO_5;clear HB;have HO_5:=n0_;have HB:=n1_;clear n0_ n1_;have p600:0≤(x9_1:Int):=zDo (by with_reducible assumption);have q600:x9_1<(l0.length:Int):=zDo (by with_reducible assumption);obtain ⟨ad600,e600,hx600_0⟩:=Kd.at_int HR0.out x9_1 p600 q600;have hw600_0:=hx600_0;cases e600
        replace hx600_0:=(HB.out.cell (World.block_lt_of_cell? w _ hx600_0)).trans hx600_0;replace p600:=eq_true p600;replace q600:=eq_true q600;have p601:0≤(x9_1:Int):=zDo (by with_reducible assumption);have q601:x9_1<(l1.length:Int):=zDo (by with_reducible assumption);obtain ⟨ad601,e601,hx601_0⟩:=Kd.at_int HR1.out x9_1 p601 q601;have hw601_0:=hx601_0;cases e601
        replace hx601_0:=(HB.out.cell (World.block_lt_of_cell? w _ hx601_0)).trans hx601_0;replace p601:=eq_true p601;replace q601:=eq_true q601;refine yap (n:=13) (S:=fun w'=>w'.cell? (ad600.add (x9_1).toNat)=some (.int .i64 (rd l0 x9_1))∧w'.cell? (ad601.add (x9_1).toNat)=some (.int .i64 (rd l1 x9_1))) (ds:=[]) #[false,false,false,false,false,false,false,false,false,false,false,false,false] (by kernel_rfl) rfl rfl ⟨((HB.out.cell (World.block_lt_of_cell? w _ hw600_0)).trans hw600_0),((HB.out.cell (World.block_lt_of_cell? w _ hw601_0)).trans hw601_0)⟩ (fun hHeld=>?_);refine y3y mobs_below.tab5 mobs_below.bits5 (fun HT_ HW_=>?_);generalize wr.drew=w8 at HO_5 HB hx600_0 hx601_0 hHeld ⊢;refine y15 (i:=0) (N:=some 12) (v:=?_) (a':=?_) #[true,false,false,false,false,false,false,false,false,false,false,false,false] rfl rfl (y0q HT_.out (by kernel_rfl)) (fun _ _ _ h=>h) (Or.inl ⟨by rfl,?_⟩) ?_ ?_;rotate_left
        ·intro w'
         go_simp
         with_reducible rfl
        rotate_left
        ·simp only [Act.put,List.setIfInBounds_toArray,List.set_cons_zero,List.set_cons_succ,y0p,y0w]
         rfl
        refine y15 (i:=1) (N:=some 13) (v:=?_) (a':=?_) #[true,true,false,false,false,false,false,false,false,false,false,false,false] rfl rfl (y0q HT_.out (by kernel_rfl)) (fun _ _ _ h=>h) (Or.inl ⟨by rfl,?_⟩) ?_ ?_;rotate_left
        ·intro w'
         go_simp
         with_reducible rfl
        rotate_left
        ·simp only [Act.put,List.setIfInBounds_toArray,List.set_cons_zero,List.set_cons_succ,y0p,y0w]
         rfl
        refine y15 (i:=2) (N:=some 14) (v:=?_) (a':=?_) #[true,true,true,false,false,false,false,false,false,false,false,false,false] rfl rfl (y0q HT_.out (by kernel_rfl)) (fun _ _ _ h=>h) (Or.inl ⟨by rfl,?_⟩) ?_ ?_;rotate_left
        ·intro w'
         go_simp
         with_reducible rfl
        rotate_left
        ·simp only [Act.put,List.setIfInBounds_toArray,List.set_cons_zero,List.set_cons_succ,y0p,y0w]
         rfl
        refine y15 (i:=3) (N:=some 15) (v:=?_) (a':=?_) #[true,true,true,true,false,false,false,false,false,false,false,false,false] rfl rfl (y0q HT_.out (by kernel_rfl)) (fun _ _ _ h=>h) (Or.inl ⟨by rfl,?_⟩) ?_ ?_;rotate_left
        ·intro w'
         go_simp
         with_reducible rfl
        rotate_left
        ·simp only [Act.put,List.setIfInBounds_toArray,List.set_cons_zero,List.set_cons_succ,y0p,y0w]
         rfl
        refine y15 (i:=5) (N:=some 17) (v:=?_) (a':=?_) #[true,true,true,true,false,true,false,false,false,false,false,false,false] rfl rfl (y0q HT_.out (by kernel_rfl)) (fun _ _ _ h=>h) (Or.inl ⟨by rfl,?_⟩) ?_ ?_;rotate_left
        ·intro w'
         go_simp
         with_reducible rfl
        rotate_left
        ·simp only [Act.put,List.setIfInBounds_toArray,List.set_cons_zero,List.set_cons_succ,y0p,y0w]
         rfl
        refine y15 (i:=6) (N:=some 18) (v:=?_) (a':=?_) #[true,true,true,true,false,true,true,false,false,false,false,false,false] rfl rfl (y0q HT_.out (by kernel_rfl)) (fun _ _ _ h=>h) (Or.inl ⟨by rfl,?_⟩) ?_ ?_;rotate_left
        ·intro w'
         go_simp
         with_reducible rfl
        rotate_left
        ·simp only [Act.put,List.setIfInBounds_toArray,List.set_cons_zero,List.set_cons_succ,y0p,y0w]
         rfl
        refine y15 (i:=7) (N:=some 19) (v:=?_) (a':=?_) #[true,true,true,true,false,true,true,true,false,false,false,false,false] rfl rfl (y0q HT_.out (by kernel_rfl)) (fun _ _ _ h=>h) (Or.inl ⟨by rfl,?_⟩) ?_ ?_;rotate_left
        ·intro w'
         go_simp
         with_reducible rfl
        rotate_left
        ·simp only [Act.put,List.setIfInBounds_toArray,List.set_cons_zero,List.set_cons_succ,y0p,y0w]
         rfl
        refine take_ (i:=4) (N:=some 16) (v:=?_) (a':=?_) #[true,true,true,true,true,true,true,true,false,false,false,false,false] rfl rfl (y52 HT_.out HW_.out (by kernel_rfl)) (fun _ _ _ h=>h) (Or.inl ⟨by rfl,?_⟩) hHeld ?_ ?_;rotate_left
        ·rintro w' ⟨s0,s1⟩
         go_simp
         with_reducible rfl
        rotate_left
        ·simp only [Act.put,List.setIfInBounds_toArray,List.set_cons_zero,List.set_cons_succ,y0p,y0w]
         rfl
        refine take_ (i:=8) (N:=some 20) (v:=?_) (a':=?_) #[true,true,true,true,true,true,true,true,true,false,false,false,false] rfl rfl (y52 HT_.out HW_.out (by kernel_rfl)) (fun _ _ _ h=>h) (Or.inl ⟨by rfl,?_⟩) hHeld ?_ ?_;rotate_left
        ·rintro w' ⟨s0,s1⟩
         go_simp
         with_reducible rfl
        rotate_left
        ·simp only [Act.put,List.setIfInBounds_toArray,List.set_cons_zero,List.set_cons_succ,y0p,y0w]
         rfl
        refine y15 (i:=9) (N:=some 21) (v:=?_) (a':=?_) #[true,true,true,true,true,true,true,true,true,true,false,false,false] rfl rfl (y0q HT_.out (by kernel_rfl)) (fun _ _ _ h=>h) (Or.inl ⟨by rfl,?_⟩) ?_ ?_;rotate_left
        ·intro w'
         go_simp
         with_reducible rfl
        rotate_left
        ·simp only [Act.put,List.setIfInBounds_toArray,List.set_cons_zero,List.set_cons_succ,y0p,y0w]
         rfl
        refine one_ (i:=10) (N:=some 22) #[true,true,true,true,true,true,true,true,true,true,true,false,false] rfl rfl (y4x HT_.out (by kernel_rfl)) (by decide) (fun K hK=>?_);refine value_ (w1:=?_) (v:=?_) (by rfl) rfl ?_ ?_;rotate_left 2
        ·go_simp
         constructor
         ·rfl
         ·rfl
        refine hK.out _ _ ⟨(World.cell?_alloc_lt _ _ _ (World.block_lt_of_cell? _ _ (((HB.out.cell (World.block_lt_of_cell? w _ hw600_0)).trans hw600_0)))).trans (((HB.out.cell (World.block_lt_of_cell? w _ hw600_0)).trans hw600_0)),(World.cell?_alloc_lt _ _ _ (World.block_lt_of_cell? _ _ (((HB.out.cell (World.block_lt_of_cell? w _ hw601_0)).trans hw601_0)))).trans (((HB.out.cell (World.block_lt_of_cell? w _ hw601_0)).trans hw601_0))⟩ (fun hHeld=>?_);clear hK K;refine ya2 (a':=?_) ?_ ?_;rotate_left
        ·show Act.put _ (some 22) _=_
         simp only [Act.put,List.setIfInBounds_toArray,List.set_cons_zero,List.set_cons_succ,y0p,y0w];rfl
        refine one_ (i:=11) (N:=some 23) #[true,true,true,true,true,true,true,true,true,true,true,true,false] rfl rfl (y4x HT_.out (by kernel_rfl)) (by decide) (fun K hK=>?_);refine Kd.R_append_step k89 (w0:=w) w.heap.size (by rfl) (.tmp 12) (.tmp 22) 88 89 (.agg #[(.int .i64 0),(.int .i64 0)]) 16 rfl Tra.underlying88 info89 rfl (by decide) (by omega) u5 x5_1 (⟨rd l0 x9_1,rd l1 x9_1⟩:S89) [.int .i64 (rd l0 x9_1),.int .i64 (rd l1 x9_1)] (fun _=>True) (fun _=>False) rfl rfl ?aP (fun _ hk=>hk.elim) ?aF ?aO ?aB ?aS ?aL ?_
        (case aP=>exact k89_mkM _ _ _ (⟨rd l0 x9_1,rd l1 x9_1⟩:S89))
        (case aB=>exact (by repeat (with_reducible first|exact HB.out|apply y01|apply y00|apply y02)))
        (case aF=>exact (fun _ _=>trivial))
        (case aO=>exact (by (with_reducible repeat (first|apply Kd.R_alloc|apply Kd.R_drewN|apply Kd.R_drew));exact HO_5.out))
        (case aS=>exact (y06 (by repeat (with_reducible first|exact HB.out|apply y01|apply y00|apply y02))))
        (case aL=>have:=LMc7.out;omega)
        intro v603 w9 ho hb hg hat;rw [← Ny602.out] at ho;have n0_:=As0.mk (hb);have n1_:=As0.mk (ho);clear HB;clear HO_5;have HB:=n0_;have HO604:=n1_;clear n0_ n1_;clear ho hb hg hat;refine hK.out _ _ ⟨((HB.out.cell (World.block_lt_of_cell? w _ hw600_0)).trans hw600_0),((HB.out.cell (World.block_lt_of_cell? w _ hw601_0)).trans hw601_0)⟩ (fun hHeld=>?_);clear hK K;refine ya2 (a':=?_) ?_ ?_;rotate_left
        ·show Act.put _ (some 23) _=_
         simp only [Act.put,List.setIfInBounds_toArray,List.set_cons_zero,List.set_cons_succ,y0p,y0w];rfl
        refine y15 (i:=12) (N:=some 5) (v:=?_) (a':=?_) #[true,true,true,true,true,true,true,true,true,true,true,true,true] rfl rfl (y0q HT_.out (by kernel_rfl)) (fun _ _ _ h=>h) (Or.inl ⟨by rfl,?_⟩) ?_ ?_;rotate_left
        ·intro w'
         go_simp
         with_reducible rfl
        rotate_left
        ·simp only [Act.put,List.setIfInBounds_toArray,List.set_cons_zero,List.set_cons_succ,y0p,y0w]
         rfl
        refine yjd (y81 HT_.out (by kernel_rfl)) ?_
        try go_wp2
        go_roundg k1
        case measure=>have:=HK1.out;omega
        case rel=>exact ⟨(y602),(wrap64 (x9_1+1)),(by first|rfl|(simp;done)|(simp [*];done)),H',⟨by have:=HK1.out;omega⟩,⟨by (with_reducible repeat (first|apply Kd.R_alloc|apply Kd.R_drewN|apply Kd.R_drew));exact HO604.out⟩,⟨by repeat (with_reducible first|exact HB.out|apply y01|apply y00|apply y02)⟩⟩
       ·rw [if_neg c7] at H
        exact absurd H (by simp)
      ·rw [if_neg c6] at H
       exact absurd H (by simp)
     ·rw [if_neg c5] at H
      exact absurd H (by simp)
    ·rw [if_neg c4] at H
     exact absurd H (by simp)
   ·rw [if_neg c3] at H
    have c3b0:decide (x9_1<(l0.length:Int))=false:=zDf c3;clear c3;replace H:=Option.bind_eq_some_iff.mp H;obtain ⟨t605,A100,H⟩:=H;replace H:(some t605)=some r:=H;have A10:=As0.mk A100;clear A100;obtain rfl:=zSi H;obtain ⟨Ao11,co11,eo11⟩:=Kd.R_slice HO_5.out;subst eo11;go_wp2_with (first|((with_reducible refine y0a (f:=84) rfl ?_);refine y0k (some 26) rfl rfl Tra.func84 (by kernel_rfl) rfl #[.slice Ao11 x5_1.length co11] rfl (by (try simp only [List.map_toArray,List.map_cons,List.map_nil]);first|done|rfl|(simp only [List.length_drop,List.length_take];rfl)) ?_;(with_reducible refine (mobs_number_2_int.own _ _ x5_1 t605 _ ?side1 ?side2 A10.out).mono ?_);(case side1=>repeat (first|exact (Kd.R_reads' HO_5.out).2.2|(with_reducible refine Kd.C_alloc ?_ _)|(with_reducible refine Kd.C_drewN ?_ _)|(with_reducible refine Kd.C_drew ?_)));(case side2=>exact (Kd.R_reads' HO_5.out).2.1);rintro e w12 ⟨v606,rfl,hoI_,hb⟩;have HOI_:=As0.mk (hoI_.lower (y06 (by repeat (with_reducible first|exact HB.out|apply y01|apply y00|apply y02))));have ho0:=hoI_.toR;clear hoI_;refine ⟨_,rfl,?_⟩;have n0_:=As0.mk (Kd.R_below (by (with_reducible repeat (first|apply Kd.R_alloc|apply Kd.R_drewN|apply Kd.R_drew));exact HO_5.out) hb);have n1_:=As0.mk (Kd.R_lower ho0 (y06 (by repeat (with_reducible first|exact HB.out|apply y01|apply y00|apply y02))));have n2_:=As0.mk (y04 (by repeat (with_reducible first|exact HB.out|apply y01|apply y00|apply y02)) hb);clear HO_5;clear HB;have HO_5:=n0_;have HO607:=n1_;have HB:=n2_;clear n0_ n1_ n2_;(try clear hb);(try clear hb2);(try clear hk);(try clear hi);(try clear ho0)))
    go_ret
    exact ⟨_,by first|rfl|(simp [y08,y07]<;>rfl)|(simp [*,y08,y07]<;>rfl),HOI_.out,by repeat (with_reducible first|exact HB.out|apply y01|apply y00|apply y02)⟩
end
end Go.Proofs.Ytdhgeondbnpeoaa.P
