/- The theorem of MobsMeets, proved; part 6 of 7: its texts, merged. -/
import Derived.Test.YtdhgeondbnpeoaaVmE
import Derived.SizedLaws
import Derived.ChangeSlices
set_option linter.unnecessarySimpa false
set_option linter.defProp false
set_option linter.unusedVariables false
set_option linter.unusedSimpArgs false
set_option maxRecDepth 100000
set_option maxHeartbeats 8000000
theorem yq0{α:Type}(l:List α)(i:Nat)(a:α):l.toArray.setIfInBounds i a=(l.set i a).toArray:=by simp
theorem yq1{α:Type}(x a:α)(l:List α):(x::l).set 0 a=a::l:=rfl
theorem yq2{α:Type}(x a:α)(l:List α)(n:Nat):(x::l).set (n+1) a=x::l.set n a:=rfl
namespace Go.Proofs.Ytdhgeondbnpeoaa.P
open Go.RowKit Go.Proofs.Yw.Wd Go.Proofs.Yw.La Go.Proofs.Yw.Mo
attribute [local go_sem] y1b y19 y1q y1p y12 y11 y1a y18
mutual
def r6_Meet.l0:Nat->List Int->List Int->List Int->List Int->Int->Option (List Int × List Int × Int)
 |0,_,_,_,_,_=>none
 |k+1,x0,x1,x8,x9,x10=>if x10<(x0.length:Int) then (if 0≤x10 then (if x10<(x1.length:Int) then (if x8.length<17592186044416 then (if x9.length<17592186044416 then (r6_Meet.l0 k x0 x1 (x8 ++ [wrap64 ((wrap64 ((rd x0 x10) * 12))+(rd x1 x10))]) (x9 ++ [x10]) (wrap64 (x10+1))) else (none)) else (none)) else (none)) else (none)) else (r6_Meet.l1 k x0 x1 x8 x9 true)
def r6_Meet.l1:Nat->List Int->List Int->List Int->List Int->Bool->Option (List Int × List Int × Int)
 |0,_,_,_,_,_=>none
 |k+1,x0,x1,x8,x9,x11=>if x11=true then (r6_Meet.l2 k x0 x1 x8 x9 false 0) else ((r6_numbered.f k x8).bind fun t251=>((r6_numbered.f k x9).bind fun t254=>(some (t251,t254,0))))
def r6_Meet.l2:Nat->List Int->List Int->List Int->List Int->Bool->Int->Option (List Int × List Int × Int)
 |0,_,_,_,_,_,_=>none
 |k+1,x0,x1,x8,x9,x11,x12=>if x12<(x0.length:Int) then (r6_Meet.l3 k x0 x1 x8 x9 x11 x12 0) else (r6_Meet.l1 k x0 x1 x8 x9 x11)
def r6_Meet.l3:Nat->List Int->List Int->List Int->List Int->Bool->Int->Int->Option (List Int × List Int × Int)
 |0,_,_,_,_,_,_,_=>none
 |k+1,x0,x1,x8,x9,x11,x12,x13=>if x13<(x0.length:Int) then (if 0≤x12 then (if x12<(x0.length:Int) then (if 0≤x13 then (if (rd x0 x12)=(rd x0 x13) then (if x12<(x9.length:Int) then (if x13<(x9.length:Int) then (if (rd x9 x12) > (rd x9 x13) then (r6_Meet.l3 k x0 x1 x8 (x9.set (x12:Int).toNat (rd x9 x13)) true x12 (wrap64 (x13+1))) else (r6_Meet.l3 k x0 x1 x8 x9 x11 x12 (wrap64 (x13+1)))) else (none)) else (none)) else (if x12<(x1.length:Int) then (if x13<(x1.length:Int) then (if (rd x1 x12)=(rd x1 x13) then (if x12<(x9.length:Int) then (if x13<(x9.length:Int) then (if (rd x9 x12) > (rd x9 x13) then (r6_Meet.l3 k x0 x1 x8 (x9.set (x12:Int).toNat (rd x9 x13)) true x12 (wrap64 (x13+1))) else (r6_Meet.l3 k x0 x1 x8 x9 x11 x12 (wrap64 (x13+1)))) else (none)) else (none)) else (r6_Meet.l3 k x0 x1 x8 x9 x11 x12 (wrap64 (x13+1)))) else (none)) else (none))) else (none)) else (none)) else (none)) else (r6_Meet.l2 k x0 x1 x8 x9 x11 (wrap64 (x12+1)))
end
def r6_Meet.f (k:Nat) (l0:List Int) (l1:List Int):Option (List Int × List Int × Int):=(r6_two.f k l0 l1).bind fun t242=>(if t242=0 then (r6_Meet.l0 k l0 l1 ([]:List Int) ([]:List Int) 0) else (some (([]:List Int),([]:List Int),t242)))
def r6_Meet.T8:Bool × List (List Nat × List Nat):=(true,[([],[]),([],[]),([],[]),([1,2],[1,2]),([3],[3]),([4],[4]),([],[]),([],[]),([6,7],[6,7]),([8],[8]),([5,9],[5,9]),([10],[10]),([0,11],[0,11]),([12,12,0,1,2,3,4,5,6,7,8,9,10,11,12],[0,12])])
def r6_Meet.B8:List Nat:=[0,0,0,6,14,30,0,0,192,448,1022,2046,4095,8191]
theorem r6_Meet.tab8:rtab .any (ydj Tra.f35 8)=r6_Meet.T8:=by kernel_rfl
theorem r6_Meet.bits8:y2z r6_Meet.T8.2 r6_Meet.B8=true:=by kernel_rfl
def r6_Meet.T19:Bool × List (List Nat × List Nat):=(true,[([],[]),([],[]),([0,1],[0,1]),([2],[2]),([],[]),([],[]),([4,5],[4,5]),([6],[6]),([3,7],[3,7]),([8],[8]),([9],[9]),([9],[9]),([10,11,9],[9,10,11]),([12,9],[9,12]),([9],[9]),([9],[9]),([14,15,9],[9,14,15]),([16,9],[9,16]),([13,17,9],[9,13,17]),([9,18],[9,18]),([19,9],[19]),([20],[20]),([20],[20]),([21,22,20],[20,21,22]),([23,20],[20,23]),([20],[20]),([20],[20]),([25,26,20],[20,25,26]),([27,20],[20,27]),([24,28,20],[20,24,28]),([20,29],[20,29])])
def r6_Meet.B19:List Nat:=[0,0,3,7,0,0,48,112,255,511,1023,1023,4095,8191,1023,1023,50175,115711,262143,524287,1048575,2097151,2097151,8388607,16777215,2097151,2097151,102760447,236978175,536870911,1073741823]
theorem r6_Meet.tab19:rtab .any (ydj Tra.f35 19)=r6_Meet.T19:=by kernel_rfl
theorem r6_Meet.bits19:y2z r6_Meet.T19.2 r6_Meet.B19=true:=by kernel_rfl
theorem r6_Meet.calls (k:Nat) (A0:Option Addr) (c0:Nat) (l0:List Int) (A1:Option Addr) (c1:Nat) (l1:List Int) (r1:List Int) (r2:List Int) (r3:Int) (w:World) (hr0:Kd.C (Kd.int .i64) w A0 l0.length l0) (hc0:l0.length≤c0) (hr1:Kd.C (Kd.int .i64) w A1 l1.length l1) (hc1:l1.length≤c1) (h:r6_Meet.f k l0 l1=some (r1,r2,r3)) :
  Calls Tra.prog 35 #[.slice A0 l0.length c0,.slice A1 l1.length c1] w fun e w'=>∃ v0_ v1_:Value,e=.returned (.tuple #[v0_,v1_,.int .i64 r3])∧Kd.R (Kd.int .i64) 3 w' w.heap.size (fun k_=>some k_≠(v1_:Value).ownBlock) v0_ r1∧Kd.R (Kd.int .i64) 3 w' w.heap.size (fun k_=>some k_≠(v0_:Value).ownBlock) v1_ r2∧Below w.heap.size w w':=by
 have HR0:=As0.mk hr0;have HC0:=As0.mk hc0;clear hr0 hc0;have HR1:=As0.mk hr1;have HC1:=As0.mk hc1;clear hr1 hc1;have HB:=As0.mk (Below.refl w.heap.size w);have H:((r6_two.f k l0 l1).bind fun t242=>(if t242=0 then (r6_Meet.l0 k l0 l1 ([]:List Int) ([]:List Int) 0) else (some (([]:List Int),([]:List Int),t242))))=some (r1,r2,r3):=h;clear h;replace H:=Option.bind_eq_some_iff.mp H;obtain ⟨t242,A30,H⟩:=H;replace H:(if t242=0 then (r6_Meet.l0 k l0 l1 ([]:List Int) ([]:List Int) 0) else (some (([]:List Int),([]:List Int),t242)))=some (r1,r2,r3):=H;have A3:=As0.mk A30;clear A30
 by_cases c4:t242=0
 ·rw [if_pos c4] at H
  have c4b0:(t242 == 0)=true:=beq_iff_eq.mpr c4;have c4b1:(t242 != 0)=false:=bne_eq_false_iff_eq.mpr c4;clear c4;have H':=As0.mk H;clear H;go_enter Tra.func35,Tra.ntmps35
  go_wp2_with (((with_reducible refine y04 (f:=58) rfl ?_);refine y0h (some 16) rfl rfl Tra.func58 (by kernel_rfl) rfl #[.slice A0 l0.length c0,.slice A1 l1.length c1] rfl (by (try simp only [List.map_toArray,List.map_cons,List.map_nil]);rfl) ?_;(with_reducible refine (r6_two.calls k _ _ l0 _ _ l1 t242 _ ?side1 ?side2 ?side3 ?side4 A3.out).mono ?_);(case side1=>repeat (exact HR0.out));(case side2=>exact HC0.out);(case side3=>repeat (exact HR1.out));(case side4=>exact HC1.out);rintro e w' ⟨rfl,⟨nd,rfl⟩⟩;refine ⟨_,rfl,?_⟩))
  go_loopg [8,9,10] k (fun kq v8 v9 v10 w'=>∃ (x8_1:List Int) (x9_1:List Int) (x10_1:Int),v10=.int .i64 x10_1∧As0 (r6_Meet.l0 kq l0 l1 x8_1 x9_1 x10_1=some (r1,r2,r3))∧As0 (kq≤k)∧As0 (Kd.R (Kd.int .i64) 3 w' w.heap.size (fun k_=>some k_≠(v9:Value).ownBlock) v8 x8_1)∧As0 (Kd.R (Kd.int .i64) 3 w' w.heap.size (fun k_=>some k_≠(v8:Value).ownBlock) v9 x9_1)∧As0 (Below w.heap.size w w'))
  case atStart=>exact ⟨(([]:List Int)),(([]:List Int)),(0),(by rfl),H',⟨zLe _⟩,⟨by exact Kd.R_nil _ _ _ _ _⟩,⟨by exact Kd.R_nil _ _ _ _ _⟩,⟨by repeat (with_reducible first|exact HB.out|apply y00)⟩⟩
  case round =>
   clear H'
   try clear c1
   try clear p2
   try clear c3
   try clear c4
   try clear c4b0
   try clear c4b1
   obtain ⟨x8_1,x9_1,x10_1,rfl,HA,HK1,HO_8,HO_9,HB⟩:=hrel;cases gk with
   |zero=>exact absurd HA.out (by simp [r6_Meet.l0])
   |succ k1 =>
    have H:=HA.out;clear HA;simp only [r6_Meet.l0] at H
    by_cases c5:x10_1<(l0.length:Int)
    ·rw [if_pos c5] at H
     have c5b0:decide (x10_1<(l0.length:Int))=true:=zDt c5;clear c5
     by_cases c6:0≤x10_1
     ·rw [if_pos c6] at H
      have c6b0:decide (0≤x10_1)=true:=zDt c6;clear c6
      by_cases c7:x10_1<(l1.length:Int)
      ·rw [if_pos c7] at H
       have c7b0:decide (x10_1<(l1.length:Int))=true:=zDt c7;clear c7
       by_cases c8:x8_1.length<17592186044416
       ·rw [if_pos c8] at H
        have LMc8:=As0.mk c8;clear c8;obtain ⟨y245,hy245⟩:∃ y_:List Int,y_=(x8_1 ++ [wrap64 ((wrap64 ((rd l0 x10_1) * 12))+(rd l1 x10_1))]):=⟨_,rfl⟩
        replace H:(if x9_1.length<17592186044416 then (r6_Meet.l0 k1 l0 l1 y245 (x9_1 ++ [x10_1]) (wrap64 (x10_1+1))) else (none))=some (r1,r2,r3):=by (rw [hy245];with_reducible exact H)
        have Ny245:=As0.mk hy245;clear hy245
        by_cases c9:x9_1.length<17592186044416
        ·rw [if_pos c9] at H
         have LMc9:=As0.mk c9;clear c9;obtain ⟨y248,hy248⟩:∃ y_:List Int,y_=(x9_1 ++ [x10_1]):=⟨_,rfl⟩
         replace H:(r6_Meet.l0 k1 l0 l1 y245 y248 (wrap64 (x10_1+1)))=some (r1,r2,r3):=by (rw [hy248];with_reducible exact H)
         have Ny248:=As0.mk hy248;clear hy248;have H':=As0.mk H;clear H
         try go_wp2
         have n0_:=As0.mk (Kd.R_drew HO_8.out);have n1_:=As0.mk (Kd.R_drew HO_9.out);have n2_:=As0.mk (y01 HB.out);clear HO_8;clear HO_9;clear HB;have HO_8:=n0_;have HO_9:=n1_;have HB:=n2_;clear n0_ n1_ n2_;have p243:0≤(x10_1:Int):=zDo (by with_reducible assumption);have q243:x10_1<(l0.length:Int):=zDo (by with_reducible assumption);obtain ⟨ad243,e243,hx243_0⟩:=Kd.at_int HR0.out x10_1 p243 q243;have hw243_0:=hx243_0;cases e243
         replace hx243_0:=(HB.out.cell (World.block_lt_of_cell? w _ hx243_0)).trans hx243_0;replace p243:=eq_true p243;replace q243:=eq_true q243;have p244:0≤(x10_1:Int):=zDo (by with_reducible assumption);have q244:x10_1<(l1.length:Int):=zDo (by with_reducible assumption);obtain ⟨ad244,e244,hx244_0⟩:=Kd.at_int HR1.out x10_1 p244 q244;have hw244_0:=hx244_0;cases e244
         replace hx244_0:=(HB.out.cell (World.block_lt_of_cell? w _ hx244_0)).trans hx244_0;replace p244:=eq_true p244;replace q244:=eq_true q244;refine y3n (n:=14) (S:=fun w'=>w'.cell? (ad243.add (x10_1).toNat)=some (.int .i64 (rd l0 x10_1))∧w'.cell? (ad244.add (x10_1).toNat)=some (.int .i64 (rd l1 x10_1))) (ds:=[]) #[false,false,false,false,false,false,false,false,false,false,false,false,false,false] (by kernel_rfl) rfl rfl ⟨((HB.out.cell (World.block_lt_of_cell? w _ hw243_0)).trans hw243_0),((HB.out.cell (World.block_lt_of_cell? w _ hw244_0)).trans hw244_0)⟩ (fun hHeld=>?_);refine y1o r6_Meet.tab8 r6_Meet.bits8 (fun HT_ HW_=>?_);generalize wr.drew=w10 at HO_8 HO_9 HB hx243_0 hx244_0 hHeld ⊢;refine y0d (i:=0) (N:=some 26) (v:=?_) (a':=?_) #[true,false,false,false,false,false,false,false,false,false,false,false,false,false] rfl rfl (y06 HT_.out (by kernel_rfl)) (fun _ _ _ h=>h) (Or.inl ⟨by rfl,?_⟩) ?_ ?_;rotate_left
         ·intro w'
          go_simp
          with_reducible rfl
         rotate_left
         ·simp only [Act.put,yq0,yq1,yq2,y0a,y0b]
          rfl
         refine y0d (i:=1) (N:=some 27) (v:=?_) (a':=?_) #[true,true,false,false,false,false,false,false,false,false,false,false,false,false] rfl rfl (y06 HT_.out (by kernel_rfl)) (fun _ _ _ h=>h) (Or.inl ⟨by rfl,?_⟩) ?_ ?_;rotate_left
         ·intro w'
          go_simp
          with_reducible rfl
         rotate_left
         ·simp only [Act.put,yq0,yq1,yq2,y0a,y0b]
          rfl
         refine y0d (i:=2) (N:=some 28) (v:=?_) (a':=?_) #[true,true,true,false,false,false,false,false,false,false,false,false,false,false] rfl rfl (y06 HT_.out (by kernel_rfl)) (fun _ _ _ h=>h) (Or.inl ⟨by rfl,?_⟩) ?_ ?_;rotate_left
         ·intro w'
          go_simp
          with_reducible rfl
         rotate_left
         ·simp only [Act.put,yq0,yq1,yq2,y0a,y0b]
          rfl
         refine y0d (i:=3) (N:=some 29) (v:=?_) (a':=?_) #[true,true,true,true,false,false,false,false,false,false,false,false,false,false] rfl rfl (y06 HT_.out (by kernel_rfl)) (fun _ _ _ h=>h) (Or.inl ⟨by rfl,?_⟩) ?_ ?_;rotate_left
         ·intro w'
          go_simp
          with_reducible rfl
         rotate_left
         ·simp only [Act.put,yq0,yq1,yq2,y0a,y0b]
          rfl
         refine y0d (i:=6) (N:=some 32) (v:=?_) (a':=?_) #[true,true,true,true,false,false,true,false,false,false,false,false,false,false] rfl rfl (y06 HT_.out (by kernel_rfl)) (fun _ _ _ h=>h) (Or.inl ⟨by rfl,?_⟩) ?_ ?_;rotate_left
         ·intro w'
          go_simp
          with_reducible rfl
         rotate_left
         ·simp only [Act.put,yq0,yq1,yq2,y0a,y0b]
          rfl
         refine y0d (i:=7) (N:=some 33) (v:=?_) (a':=?_) #[true,true,true,true,false,false,true,true,false,false,false,false,false,false] rfl rfl (y06 HT_.out (by kernel_rfl)) (fun _ _ _ h=>h) (Or.inl ⟨by rfl,?_⟩) ?_ ?_;rotate_left
         ·intro w'
          go_simp
          with_reducible rfl
         rotate_left
         ·simp only [Act.put,yq0,yq1,yq2,y0a,y0b]
          rfl
         refine y0d (i:=8) (N:=some 34) (v:=?_) (a':=?_) #[true,true,true,true,false,false,true,true,true,false,false,false,false,false] rfl rfl (y06 HT_.out (by kernel_rfl)) (fun _ _ _ h=>h) (Or.inl ⟨by rfl,?_⟩) ?_ ?_;rotate_left
         ·intro w'
          go_simp
          with_reducible rfl
         rotate_left
         ·simp only [Act.put,yq0,yq1,yq2,y0a,y0b]
          rfl
         refine take_ (i:=4) (N:=some 30) (v:=?_) (a':=?_) #[true,true,true,true,true,false,true,true,true,false,false,false,false,false] rfl rfl (y0m HT_.out HW_.out (by kernel_rfl)) (fun _ _ _ h=>h) (Or.inl ⟨by rfl,?_⟩) hHeld ?_ ?_;rotate_left
         ·rintro w' ⟨s0,s1⟩
          go_simp
          with_reducible rfl
         rotate_left
         ·simp only [Act.put,yq0,yq1,yq2,y0a,y0b]
          rfl
         refine y0d (i:=5) (N:=some 31) (v:=?_) (a':=?_) #[true,true,true,true,true,true,true,true,true,false,false,false,false,false] rfl rfl (y06 HT_.out (by kernel_rfl)) (fun _ _ _ h=>h) (Or.inl ⟨by rfl,?_⟩) ?_ ?_;rotate_left
         ·intro w'
          go_simp
          with_reducible rfl
         rotate_left
         ·simp only [Act.put,yq0,yq1,yq2,y0a,y0b]
          rfl
         refine take_ (i:=9) (N:=some 35) (v:=?_) (a':=?_) #[true,true,true,true,true,true,true,true,true,true,false,false,false,false] rfl rfl (y0m HT_.out HW_.out (by kernel_rfl)) (fun _ _ _ h=>h) (Or.inl ⟨by rfl,?_⟩) hHeld ?_ ?_;rotate_left
         ·rintro w' ⟨s0,s1⟩
          go_simp
          with_reducible rfl
         rotate_left
         ·simp only [Act.put,yq0,yq1,yq2,y0a,y0b]
          rfl
         refine y0d (i:=10) (N:=some 36) (v:=?_) (a':=?_) #[true,true,true,true,true,true,true,true,true,true,true,false,false,false] rfl rfl (y06 HT_.out (by kernel_rfl)) (fun _ _ _ h=>h) (Or.inl ⟨by rfl,?_⟩) ?_ ?_;rotate_left
         ·intro w'
          go_simp
          with_reducible rfl
         rotate_left
         ·simp only [Act.put,yq0,yq1,yq2,y0a,y0b]
          rfl
         refine one_ (i:=11) (N:=some 37) #[true,true,true,true,true,true,true,true,true,true,true,true,false,false] rfl rfl (y45 HT_.out (by kernel_rfl)) (by decide) (fun K hK=>?_);refine yci (w1:=?_) (v:=?_) (by rfl) rfl ?_ ?_;rotate_left 2
         ·go_simp
          constructor
          ·rfl
          ·rfl
         refine hK.out _ _ ⟨(World.cell?_alloc_lt _ _ _ (World.block_lt_of_cell? _ _ (((HB.out.cell (World.block_lt_of_cell? w _ hw243_0)).trans hw243_0)))).trans (((HB.out.cell (World.block_lt_of_cell? w _ hw243_0)).trans hw243_0)),(World.cell?_alloc_lt _ _ _ (World.block_lt_of_cell? _ _ (((HB.out.cell (World.block_lt_of_cell? w _ hw244_0)).trans hw244_0)))).trans (((HB.out.cell (World.block_lt_of_cell? w _ hw244_0)).trans hw244_0))⟩ (fun hHeld=>?_);clear hK K;refine y97 (a':=?_) ?_ ?_;rotate_left
         ·show Act.put _ (some 37) _=_
          simp only [Act.put,yq0,yq1,yq2,y0a,y0b];rfl
         refine one_ (i:=12) (N:=some 38) #[true,true,true,true,true,true,true,true,true,true,true,true,true,false] rfl rfl (y45 HT_.out (by kernel_rfl)) (by decide) (fun K hK=>?_);refine Kd.R_append_step (Kd.int .i64) (w0:=w) w.heap.size (by rfl) (.tmp 26) (.tmp 37) 29 3 (.int .i64 0) 8 rfl Tra.underlying29 info3 rfl (by decide) (by omega) u8 x8_1 (wrap64 ((wrap64 ((rd l0 x10_1) * 12))+(rd l1 x10_1))) [.int .i64 (wrap64 ((wrap64 ((rd l0 x10_1) * 12))+(rd l1 x10_1)))] (fun k_=>some k_≠(u9:Value).ownBlock) (fun _=>False) rfl rfl ?aP (fun _ hk=>hk.elim) ?aF ?aO ?aB ?aS ?aL ?_
         (case aP=>exact rfl)
         (case aB=>exact (by repeat (with_reducible exact HB.out)))
         (case aF=>exact (fun k_ hk=>Kd.fresh' (Kd.R_lt (by (with_reducible repeat (first|apply Kd.R_alloc|apply Kd.R_drewN|apply Kd.R_drew));exact HO_9.out)) k_ hk))
         (case aO=>exact (by (with_reducible repeat (first|apply Kd.R_alloc|apply Kd.R_drewN|apply Kd.R_drew));exact HO_8.out))
         (case aS=>exact (y03 (by repeat (with_reducible exact HB.out))))
         (case aL=>have:=LMc8.out;omega)
         intro v246 w11 ho hb hg hat;rw [← Ny245.out] at ho;have n0_:=As0.mk (Kd.R_after (ok:=(fun _=>True)) (by (with_reducible repeat (first|apply Kd.R_alloc|apply Kd.R_drewN|apply Kd.R_drew));exact Kd.R_mono HO_9.out (fun _ hk=>⟨trivial,hk⟩)) hg hat);have n1_:=As0.mk (hb);have n2_:=As0.mk (ho);clear HO_9;clear HB;clear HO_8;have HO_9:=n0_;have HB:=n1_;have HO247:=n2_;clear n0_ n1_ n2_;clear ho hb hg hat;refine hK.out _ _ ⟨((HB.out.cell (World.block_lt_of_cell? w _ hw243_0)).trans hw243_0),((HB.out.cell (World.block_lt_of_cell? w _ hw244_0)).trans hw244_0)⟩ (fun hHeld=>?_);clear hK K;refine y97 (a':=?_) ?_ ?_;rotate_left
         ·show Act.put _ (some 38) _=_
          simp only [Act.put,yq0,yq1,yq2,y0a,y0b];rfl
         refine y0d (i:=13) (N:=some 8) (v:=?_) (a':=?_) #[true,true,true,true,true,true,true,true,true,true,true,true,true,true] rfl rfl (y06 HT_.out (by kernel_rfl)) (fun _ _ _ h=>h) (Or.inl ⟨by rfl,?_⟩) ?_ ?_;rotate_left
         ·intro w'
          go_simp
          with_reducible rfl
         rotate_left
         ·simp only [Act.put,yq0,yq1,yq2,y0a,y0b]
          rfl
         refine y6j (y2q HT_.out (by kernel_rfl)) ?_
         try go_wp2_with (((with_reducible refine y0n (b:=.append) (xs:=#[.tmp 39,.tmp 41]) rfl ?_);at_builtin;refine Kd.R_append (Kd.int .i64) (w0:=w) w.heap.size rfl (.tmp 39) (.tmp 41) 29 3 (.int .i64 0) 8 rfl Tra.underlying29 info3 rfl (by decide) (by omega) u9 x9_1 x10_1 [.int .i64 x10_1] (fun k_=>some k_≠(v246:Value).ownBlock) (fun _=>False) rfl rfl ?aP (fun _ hk=>hk.elim) ?aF ?aO ?aB ?aS ?aL ?_;(case aP=>exact rfl);(case aB=>exact (by repeat (with_reducible exact HB.out)));(case aF=>exact (fun k_ hk=>Kd.fresh' (Kd.R_lt (by (with_reducible repeat (first|apply Kd.R_alloc|apply Kd.R_drewN|apply Kd.R_drew));exact HO247.out)) k_ hk));(case aO=>exact (by (with_reducible repeat (first|apply Kd.R_alloc|apply Kd.R_drewN|apply Kd.R_drew));exact Kd.R_mono HO_9.out (fun _ hk=>hk.2)));(case aS=>exact (y03 (by repeat (with_reducible exact HB.out))));(case aL=>have:=LMc9.out;omega);intro v249 w12 ho hb hg hat;rw [← Ny248.out] at ho;have n0_:=As0.mk (Kd.R_after (ok:=(fun _=>True)) (by (with_reducible repeat (first|apply Kd.R_alloc|apply Kd.R_drewN|apply Kd.R_drew));exact Kd.R_mono HO247.out (fun _ hk=>⟨trivial,hk⟩)) hg hat);have n1_:=As0.mk (hb);have n2_:=As0.mk (ho);clear HO247;clear HB;clear HO_9;have HO247:=n0_;have HB:=n1_;have HO250:=n2_;clear n0_ n1_ n2_;clear ho hb hg hat))
         go_roundg k1
         case measure=>have:=HK1.out;omega
         case rel=>exact ⟨(y245),(y248),(wrap64 (x10_1+1)),(by rfl),H',⟨by have:=HK1.out;omega⟩,⟨by (with_reducible repeat (first|apply Kd.R_alloc|apply Kd.R_drewN|apply Kd.R_drew));exact Kd.R_mono HO247.out (fun _ hk=>hk.2)⟩,⟨by (with_reducible repeat (first|apply Kd.R_alloc|apply Kd.R_drewN|apply Kd.R_drew));exact HO250.out⟩,⟨by repeat (with_reducible exact HB.out)⟩⟩
        ·rw [if_neg c9] at H
         exact absurd H (by simp)
       ·rw [if_neg c8] at H
        exact absurd H (by simp)
      ·rw [if_neg c7] at H
       exact absurd H (by simp)
     ·rw [if_neg c6] at H
      exact absurd H (by simp)
    ·rw [if_neg c5] at H
     have c5b0:decide (x10_1<(l0.length:Int))=false:=zDf c5;clear c5;have H':=As0.mk H;clear H;go_wp2
     go_loopg [11] k1 (fun kq v11 w'=>∃ (x9_2:List Int) (x11_2:Bool),v11=.bool x11_2∧As0 (r6_Meet.l1 kq l0 l1 x8_1 x9_2 x11_2=some (r1,r2,r3))∧As0 (kq≤k1)∧As0 (Kd.R (Kd.int .i64) 3 w' w.heap.size (fun k_=>some k_≠(u9:Value).ownBlock) u8 x8_1)∧As0 (Kd.R (Kd.int .i64) 3 w' w.heap.size (fun k_=>some k_≠(u8:Value).ownBlock) u9 x9_2)∧As0 (Below w.heap.size w w'))
     case atStart=>exact ⟨(x9_1),(true),(by rfl),H',⟨zLe _⟩,⟨by (with_reducible repeat (first|apply Kd.R_alloc|apply Kd.R_drewN|apply Kd.R_drew));exact HO_8.out⟩,⟨by (with_reducible repeat (first|apply Kd.R_alloc|apply Kd.R_drewN|apply Kd.R_drew));exact HO_9.out⟩,⟨by repeat (with_reducible exact HB.out)⟩⟩
     case round =>
      clear H'
      try clear c1
      try clear p2
      try clear q2
      try clear hx2
      try clear c3
      try clear c4
      try clear c4b0
      try clear c4b1
      try clear c5
      try clear c5b0
      try clear c6
      try clear c6b0
      try clear p6
      try clear c7
      try clear c7b0
      try clear c8
      try clear c9
      try clear hx243_0
      try clear hx244_0
      try clear p2
      try clear p243
      try clear p244
      try clear q243
      try clear q244
      obtain ⟨x9_2,x11_2,rfl,HA,HK2,HO_8,HO_9,HB⟩:=hrel;cases gk with
      |zero=>exact absurd HA.out (by simp [r6_Meet.l1])
      |succ k2 =>
       have H:=HA.out;clear HA;simp only [r6_Meet.l1] at H
       by_cases c13:x11_2=true
       ·subst c13
        have H1:(r6_Meet.l2 k2 l0 l1 x8_1 x9_2 false 0)=some (r1,r2,r3):=by rw [if_pos rfl] at H;exact H
        clear H;have H:=H1;clear H1;have H':=As0.mk H;clear H;go_wp2
        go_loopg [11,12] k2 (fun kq v11 v12 w'=>∃ (x9_3:List Int) (x11_3:Bool) (x12_3:Int),v11=.bool x11_3∧v12=.int .i64 x12_3∧As0 (r6_Meet.l2 kq l0 l1 x8_1 x9_3 x11_3 x12_3=some (r1,r2,r3))∧As0 (kq≤k2)∧As0 (Kd.R (Kd.int .i64) 3 w' w.heap.size (fun k_=>some k_≠(u9:Value).ownBlock) u8 x8_1)∧As0 (Kd.R (Kd.int .i64) 3 w' w.heap.size (fun k_=>some k_≠(u8:Value).ownBlock) u9 x9_3)∧As0 (Below w.heap.size w w'))
        case atStart=>exact ⟨(x9_2),(false),(0),(by rfl),(by rfl),H',⟨zLe _⟩,⟨by (with_reducible repeat (first|apply Kd.R_alloc|apply Kd.R_drewN|apply Kd.R_drew));exact HO_8.out⟩,⟨by (with_reducible repeat (first|apply Kd.R_alloc|apply Kd.R_drewN|apply Kd.R_drew));exact HO_9.out⟩,⟨by repeat (with_reducible exact HB.out)⟩⟩
        case round =>
         clear H'
         try clear c1
         try clear p2
         try clear q2
         try clear hx2
         try clear c3
         try clear c4
         try clear c4b0
         try clear c4b1
         try clear c5
         try clear c5b0
         try clear c6
         try clear c6b0
         try clear p6
         try clear c7
         try clear c7b0
         try clear c8
         try clear c9
         try clear c13
         try clear hx243_0
         try clear hx244_0
         try clear p2
         try clear p243
         try clear p244
         try clear p6
         try clear q2
         try clear q243
         try clear q244
         obtain ⟨x9_3,x11_3,x12_3,rfl,rfl,HA,HK3,HO_8,HO_9,HB⟩:=hrel;cases gk with
         |zero=>exact absurd HA.out (by simp [r6_Meet.l2])
         |succ k3 =>
          have H:=HA.out;clear HA;simp only [r6_Meet.l2] at H
          by_cases c14:x12_3<(l0.length:Int)
          ·rw [if_pos c14] at H
           have c14b0:decide (x12_3<(l0.length:Int))=true:=zDt c14;clear c14;have H':=As0.mk H;clear H;go_wp2
           go_loopg [11,13] k3 (fun kq v11 v13 w'=>∃ (x9_4:List Int) (x11_4:Bool) (x13_4:Int),v11=.bool x11_4∧v13=.int .i64 x13_4∧As0 (r6_Meet.l3 kq l0 l1 x8_1 x9_4 x11_4 x12_3 x13_4=some (r1,r2,r3))∧As0 (kq≤k3)∧As0 (Kd.R (Kd.int .i64) 3 w' w.heap.size (fun k_=>some k_≠(u9:Value).ownBlock) u8 x8_1)∧As0 (Kd.R (Kd.int .i64) 3 w' w.heap.size (fun k_=>some k_≠(u8:Value).ownBlock) u9 x9_4)∧As0 (Below w.heap.size w w'))
           case atStart=>exact ⟨(x9_3),(x11_3),(0),(by rfl),(by rfl),H',⟨zLe _⟩,⟨by (with_reducible repeat (first|apply Kd.R_alloc|apply Kd.R_drewN|apply Kd.R_drew));exact HO_8.out⟩,⟨by (with_reducible repeat (first|apply Kd.R_alloc|apply Kd.R_drewN|apply Kd.R_drew));exact HO_9.out⟩,⟨by repeat (with_reducible exact HB.out)⟩⟩
           case round =>
            clear H'
            try clear c1
            try clear p2
            try clear q2
            try clear hx2
            try clear c3
            try clear c4
            try clear c4b0
            try clear c4b1
            try clear c5
            try clear c5b0
            try clear c6
            try clear c6b0
            try clear p6
            try clear c7
            try clear c7b0
            try clear c8
            try clear c9
            try clear c13
            try clear c14
            try clear c14b0
            try clear hx243_0
            try clear hx244_0
            try clear p2
            try clear p243
            try clear p244
            try clear p6
            try clear q2
            try clear q243
            try clear q244
            obtain ⟨x9_4,x11_4,x13_4,rfl,rfl,HA,HK4,HO_8,HO_9,HB⟩:=hrel;cases gk with
            |zero=>exact absurd HA.out (by simp [r6_Meet.l3])
            |succ k4 =>
             have H:=HA.out;clear HA;simp only [r6_Meet.l3] at H
             by_cases c15:x13_4<(l0.length:Int)
             ·rw [if_pos c15] at H
              have c15b0:decide (x13_4<(l0.length:Int))=true:=zDt c15;clear c15
              by_cases c16:0≤x12_3
              ·rw [if_pos c16] at H
               have c16b0:decide (0≤x12_3)=true:=zDt c16;clear c16
               by_cases c17:x12_3<(l0.length:Int)
               ·rw [if_pos c17] at H
                have c17b0:decide (x12_3<(l0.length:Int))=true:=zDt c17;clear c17
                by_cases c18:0≤x13_4
                ·rw [if_pos c18] at H
                 have c18b0:decide (0≤x13_4)=true:=zDt c18;clear c18
                 by_cases c19:(rd l0 x12_3)=(rd l0 x13_4)
                 ·rw [if_pos c19] at H
                  have c19b0:((rd l0 x12_3) == (rd l0 x13_4))=true:=beq_iff_eq.mpr c19;have c19b1:((rd l0 x12_3) != (rd l0 x13_4))=false:=bne_eq_false_iff_eq.mpr c19;clear c19
                  by_cases c20:x12_3<(x9_4.length:Int)
                  ·rw [if_pos c20] at H
                   have c20b0:decide (x12_3<(x9_4.length:Int))=true:=zDt c20;clear c20
                   by_cases c21:x13_4<(x9_4.length:Int)
                   ·rw [if_pos c21] at H
                    have c21b0:decide (x13_4<(x9_4.length:Int))=true:=zDt c21;clear c21
                    by_cases c22:(rd x9_4 x12_3) > (rd x9_4 x13_4)
                    ·rw [if_pos c22] at H
                     have c22b0:decide ((rd x9_4 x13_4)<(rd x9_4 x12_3))=true:=zDt c22;clear c22;obtain ⟨y262,hy262⟩:∃ y_:List Int,y_=(x9_4.set (x12_3:Int).toNat (rd x9_4 x13_4)):=⟨_,rfl⟩
                     replace H:(r6_Meet.l3 k4 l0 l1 x8_1 y262 true x12_3 (wrap64 (x13_4+1)))=some (r1,r2,r3):=by (rw [hy262];with_reducible exact H)
                     have Ny262:=As0.mk hy262;clear hy262;have H':=As0.mk H;clear H
                     try go_wp2
                     have n0_:=As0.mk (Kd.R_drew HO_8.out);have n1_:=As0.mk (Kd.R_drew HO_9.out);have n2_:=As0.mk (y01 HB.out);clear HO_8;clear HO_9;clear HB;have HO_8:=n0_;have HO_9:=n1_;have HB:=n2_;clear n0_ n1_ n2_;have p257:0≤(x12_3:Int):=zDo (by with_reducible assumption);have q257:x12_3<(l0.length:Int):=zDo (by with_reducible assumption);obtain ⟨ad257,e257,hx257_0⟩:=Kd.at_int HR0.out x12_3 p257 q257;have hw257_0:=hx257_0;cases e257
                     replace hx257_0:=(HB.out.cell (World.block_lt_of_cell? w _ hx257_0)).trans hx257_0;replace p257:=eq_true p257;replace q257:=eq_true q257;have p258:0≤(x13_4:Int):=zDo (by with_reducible assumption);have q258:x13_4<(l0.length:Int):=zDo (by with_reducible assumption);obtain ⟨ad258,e258,hx258_0⟩:=Kd.at_int HR0.out x13_4 p258 q258;have hw258_0:=hx258_0;obtain rfl:ad257=ad258:=(by injection e258)
                     replace hx258_0:=(HB.out.cell (World.block_lt_of_cell? w _ hx258_0)).trans hx258_0;replace p258:=eq_true p258;replace q258:=eq_true q258;obtain ⟨Ao25,co25,eo25⟩:=Kd.R_slice HO_9.out
                     (subst eo25)
                     have p259:0≤(x12_3:Int):=zDo (by with_reducible assumption);have q259:x12_3<(x9_4.length:Int):=zDo (by with_reducible assumption);obtain ⟨ad259,e259,hx259_0⟩:=Kd.at_int (Kd.R_reads' HO_9.out).2.2 x12_3 p259 q259;cases e259
                     replace p259:=eq_true p259;replace q259:=eq_true q259;have p260:0≤(x13_4:Int):=zDo (by with_reducible assumption);have q260:x13_4<(x9_4.length:Int):=zDo (by with_reducible assumption);obtain ⟨ad260,e260,hx260_0⟩:=Kd.at_int (Kd.R_reads' HO_9.out).2.2 x13_4 p260 q260;obtain rfl:ad259=ad260:=(by injection e260)
                     replace p260:=eq_true p260;replace q260:=eq_true q260;refine y3n (n:=31) (S:=fun w'=>w'.cell? (ad257.add (x12_3).toNat)=some (.int .i64 (rd l0 x12_3))∧w'.cell? (ad257.add (x13_4).toNat)=some (.int .i64 (rd l0 x13_4))∧w'.cell? (ad259.add (x12_3).toNat)=some (.int .i64 (rd x9_4 x12_3))∧w'.cell? (ad259.add (x13_4).toNat)=some (.int .i64 (rd x9_4 x13_4))) (ds:=[]) #[false,false,false,false,false,false,false,false,false,false,false,false,false,false,false,false,false,false,false,false,false,false,false,false,false,false,false,false,false,false,false] (by kernel_rfl) rfl rfl ⟨((HB.out.cell (World.block_lt_of_cell? w _ hw257_0)).trans hw257_0),((HB.out.cell (World.block_lt_of_cell? w _ hw258_0)).trans hw258_0),hx259_0,hx260_0⟩ (fun hHeld=>?_);refine y1o r6_Meet.tab19 r6_Meet.bits19 (fun HT_ HW_=>?_);generalize wr.drew=w24 at HO_8 HO_9 HB hx257_0 hx258_0 hx259_0 hx260_0 hHeld ⊢;refine y0d (i:=0) (N:=some 56) (v:=?_) (a':=?_) #[true,false,false,false,false,false,false,false,false,false,false,false,false,false,false,false,false,false,false,false,false,false,false,false,false,false,false,false,false,false,false] rfl rfl (y06 HT_.out (by kernel_rfl)) (fun _ _ _ h=>h) (Or.inl ⟨by rfl,?_⟩) ?_ ?_;rotate_left
                     ·intro w'
                      go_simp
                      with_reducible rfl
                     rotate_left
                     ·simp only [Act.put,yq0,yq1,yq2,y0a,y0b]
                      rfl
                     refine y0d (i:=1) (N:=some 57) (v:=?_) (a':=?_) #[true,true,false,false,false,false,false,false,false,false,false,false,false,false,false,false,false,false,false,false,false,false,false,false,false,false,false,false,false,false,false] rfl rfl (y06 HT_.out (by kernel_rfl)) (fun _ _ _ h=>h) (Or.inl ⟨by rfl,?_⟩) ?_ ?_;rotate_left
                     ·intro w'
                      go_simp
                      with_reducible rfl
                     rotate_left
                     ·simp only [Act.put,yq0,yq1,yq2,y0a,y0b]
                      rfl
                     refine y0d (i:=2) (N:=some 58) (v:=?_) (a':=?_) #[true,true,true,false,false,false,false,false,false,false,false,false,false,false,false,false,false,false,false,false,false,false,false,false,false,false,false,false,false,false,false] rfl rfl (y06 HT_.out (by kernel_rfl)) (fun _ _ _ h=>h) (Or.inl ⟨by rfl,?_⟩) ?_ ?_;rotate_left
                     ·intro w'
                      go_simp
                      with_reducible rfl
                     rotate_left
                     ·simp only [Act.put,yq0,yq1,yq2,y0a,y0b]
                      rfl
                     refine y0d (i:=4) (N:=some 60) (v:=?_) (a':=?_) #[true,true,true,false,true,false,false,false,false,false,false,false,false,false,false,false,false,false,false,false,false,false,false,false,false,false,false,false,false,false,false] rfl rfl (y06 HT_.out (by kernel_rfl)) (fun _ _ _ h=>h) (Or.inl ⟨by rfl,?_⟩) ?_ ?_;rotate_left
                     ·intro w'
                      go_simp
                      with_reducible rfl
                     rotate_left
                     ·simp only [Act.put,yq0,yq1,yq2,y0a,y0b]
                      rfl
                     refine y0d (i:=5) (N:=some 61) (v:=?_) (a':=?_) #[true,true,true,false,true,true,false,false,false,false,false,false,false,false,false,false,false,false,false,false,false,false,false,false,false,false,false,false,false,false,false] rfl rfl (y06 HT_.out (by kernel_rfl)) (fun _ _ _ h=>h) (Or.inl ⟨by rfl,?_⟩) ?_ ?_;rotate_left
                     ·intro w'
                      go_simp
                      with_reducible rfl
                     rotate_left
                     ·simp only [Act.put,yq0,yq1,yq2,y0a,y0b]
                      rfl
                     refine y0d (i:=6) (N:=some 62) (v:=?_) (a':=?_) #[true,true,true,false,true,true,true,false,false,false,false,false,false,false,false,false,false,false,false,false,false,false,false,false,false,false,false,false,false,false,false] rfl rfl (y06 HT_.out (by kernel_rfl)) (fun _ _ _ h=>h) (Or.inl ⟨by rfl,?_⟩) ?_ ?_;rotate_left
                     ·intro w'
                      go_simp
                      with_reducible rfl
                     rotate_left
                     ·simp only [Act.put,yq0,yq1,yq2,y0a,y0b]
                      rfl
                     refine take_ (i:=3) (N:=some 59) (v:=?_) (a':=?_) #[true,true,true,true,true,true,true,false,false,false,false,false,false,false,false,false,false,false,false,false,false,false,false,false,false,false,false,false,false,false,false] rfl rfl (y0m HT_.out HW_.out (by kernel_rfl)) (fun _ _ _ h=>h) (Or.inl ⟨by rfl,?_⟩) hHeld ?_ ?_;rotate_left
                     ·rintro w' ⟨s0,s1,s2,s3⟩
                      go_simp
                      with_reducible rfl
                     rotate_left
                     ·simp only [Act.put,yq0,yq1,yq2,y0a,y0b]
                      rfl
                     refine take_ (i:=7) (N:=some 63) (v:=?_) (a':=?_) #[true,true,true,true,true,true,true,true,false,false,false,false,false,false,false,false,false,false,false,false,false,false,false,false,false,false,false,false,false,false,false] rfl rfl (y0m HT_.out HW_.out (by kernel_rfl)) (fun _ _ _ h=>h) (Or.inl ⟨by rfl,?_⟩) hHeld ?_ ?_;rotate_left
                     ·rintro w' ⟨s0,s1,s2,s3⟩
                      go_simp
                      with_reducible rfl
                     rotate_left
                     ·simp only [Act.put,yq0,yq1,yq2,y0a,y0b]
                      rfl
                     refine y0d (i:=8) (N:=some 64) (v:=?_) (a':=?_) #[true,true,true,true,true,true,true,true,true,false,false,false,false,false,false,false,false,false,false,false,false,false,false,false,false,false,false,false,false,false,false] rfl rfl (y06 HT_.out (by kernel_rfl)) (fun _ _ _ h=>h) (Or.inl ⟨by rfl,?_⟩) ?_ ?_;rotate_left
                     ·intro w'
                      go_simp
                      with_reducible rfl
                     rotate_left
                     ·simp only [Act.put,yq0,yq1,yq2,y0a,y0b]
                      rfl
                     refine y0d (i:=9) (N:=some 65) (v:=?_) (a':=?_) #[true,true,true,true,true,true,true,true,true,true,false,false,false,false,false,false,false,false,false,false,false,false,false,false,false,false,false,false,false,false,false] rfl rfl (y06 HT_.out (by kernel_rfl)) (fun _ _ _ h=>h) (Or.inl ⟨by rfl,?_⟩) ?_ ?_;rotate_left
                     ·intro w'
                      go_simp
                      with_reducible rfl
                     rotate_left
                     ·simp only [Act.put,yq0,yq1,yq2,y0a,y0b]
                      rfl
                     refine y0d (i:=10) (N:=some 66) (v:=undef) (a':=?_) #[true,true,true,true,true,true,true,true,true,true,true,false,false,false,false,false,false,false,false,false,false,false,false,false,false,false,false,false,false,false,false] rfl rfl (y06 HT_.out (by kernel_rfl)) (fun _ _ _ h=>h) (Or.inr ⟨by rfl,rfl⟩) ?_ ?_;rotate_left
                     ·simp only [Act.put,yq0,yq1,yq2,y0a,y0b]
                      rfl
                     refine y0d (i:=11) (N:=some 67) (v:=undef) (a':=?_) #[true,true,true,true,true,true,true,true,true,true,true,true,false,false,false,false,false,false,false,false,false,false,false,false,false,false,false,false,false,false,false] rfl rfl (y06 HT_.out (by kernel_rfl)) (fun _ _ _ h=>h) (Or.inr ⟨by rfl,rfl⟩) ?_ ?_;rotate_left
                     ·simp only [Act.put,yq0,yq1,yq2,y0a,y0b]
                      rfl
                     refine y0d (i:=12) (N:=some 68) (v:=undef) (a':=?_) #[true,true,true,true,true,true,true,true,true,true,true,true,true,false,false,false,false,false,false,false,false,false,false,false,false,false,false,false,false,false,false] rfl rfl (y06 HT_.out (by kernel_rfl)) (fun _ _ _ h=>h) (Or.inr ⟨by rfl,rfl⟩) ?_ ?_;rotate_left
                     ·simp only [Act.put,yq0,yq1,yq2,y0a,y0b]
                      rfl
                     refine y0d (i:=13) (N:=some 69) (v:=undef) (a':=?_) #[true,true,true,true,true,true,true,true,true,true,true,true,true,true,false,false,false,false,false,false,false,false,false,false,false,false,false,false,false,false,false] rfl rfl (y06 HT_.out (by kernel_rfl)) (fun _ _ _ h=>h) (Or.inr ⟨by rfl,rfl⟩) ?_ ?_;rotate_left
                     ·simp only [Act.put,yq0,yq1,yq2,y0a,y0b]
                      rfl
                     refine y0d (i:=14) (N:=some 70) (v:=undef) (a':=?_) #[true,true,true,true,true,true,true,true,true,true,true,true,true,true,true,false,false,false,false,false,false,false,false,false,false,false,false,false,false,false,false] rfl rfl (y06 HT_.out (by kernel_rfl)) (fun _ _ _ h=>h) (Or.inr ⟨by rfl,rfl⟩) ?_ ?_;rotate_left
                     ·simp only [Act.put,yq0,yq1,yq2,y0a,y0b]
                      rfl
                     refine y0d (i:=15) (N:=some 71) (v:=undef) (a':=?_) #[true,true,true,true,true,true,true,true,true,true,true,true,true,true,true,true,false,false,false,false,false,false,false,false,false,false,false,false,false,false,false] rfl rfl (y06 HT_.out (by kernel_rfl)) (fun _ _ _ h=>h) (Or.inr ⟨by rfl,rfl⟩) ?_ ?_;rotate_left
                     ·simp only [Act.put,yq0,yq1,yq2,y0a,y0b]
                      rfl
                     refine y0d (i:=16) (N:=some 72) (v:=undef) (a':=?_) #[true,true,true,true,true,true,true,true,true,true,true,true,true,true,true,true,true,false,false,false,false,false,false,false,false,false,false,false,false,false,false] rfl rfl (y06 HT_.out (by kernel_rfl)) (fun _ _ _ h=>h) (Or.inr ⟨by rfl,rfl⟩) ?_ ?_;rotate_left
                     ·simp only [Act.put,yq0,yq1,yq2,y0a,y0b]
                      rfl
                     refine y0d (i:=17) (N:=some 73) (v:=undef) (a':=?_) #[true,true,true,true,true,true,true,true,true,true,true,true,true,true,true,true,true,true,false,false,false,false,false,false,false,false,false,false,false,false,false] rfl rfl (y06 HT_.out (by kernel_rfl)) (fun _ _ _ h=>h) (Or.inr ⟨by rfl,rfl⟩) ?_ ?_;rotate_left
                     ·simp only [Act.put,yq0,yq1,yq2,y0a,y0b]
                      rfl
                     refine y0d (i:=18) (N:=some 74) (v:=undef) (a':=?_) #[true,true,true,true,true,true,true,true,true,true,true,true,true,true,true,true,true,true,true,false,false,false,false,false,false,false,false,false,false,false,false] rfl rfl (y06 HT_.out (by kernel_rfl)) (fun _ _ _ h=>h) (Or.inr ⟨by rfl,rfl⟩) ?_ ?_;rotate_left
                     ·simp only [Act.put,yq0,yq1,yq2,y0a,y0b]
                      rfl
                     refine y0d (i:=19) (N:=some 75) (v:=?_) (a':=?_) #[true,true,true,true,true,true,true,true,true,true,true,true,true,true,true,true,true,true,true,true,false,false,false,false,false,false,false,false,false,false,false] rfl rfl (y06 HT_.out (by kernel_rfl)) (fun _ _ _ h=>h) (Or.inl ⟨by rfl,?_⟩) ?_ ?_;rotate_left
                     ·intro w'
                      go_simp
                      with_reducible rfl
                     rotate_left
                     ·simp only [Act.put,yq0,yq1,yq2,y0a,y0b]
                      rfl
                     refine y0d (i:=20) (N:=some 76) (v:=?_) (a':=?_) #[true,true,true,true,true,true,true,true,true,true,true,true,true,true,true,true,true,true,true,true,true,false,false,false,false,false,false,false,false,false,false] rfl rfl (y06 HT_.out (by kernel_rfl)) (fun _ _ _ h=>h) (Or.inl ⟨by rfl,?_⟩) ?_ ?_;rotate_left
                     ·intro w'
                      go_simp
                      with_reducible rfl
                     rotate_left
                     ·simp only [Act.put,yq0,yq1,yq2,y0a,y0b]
                      rfl
                     refine y0d (i:=21) (N:=some 77) (v:=?_) (a':=?_) #[true,true,true,true,true,true,true,true,true,true,true,true,true,true,true,true,true,true,true,true,true,true,false,false,false,false,false,false,false,false,false] rfl rfl (y06 HT_.out (by kernel_rfl)) (fun _ _ _ h=>h) (Or.inl ⟨by rfl,?_⟩) ?_ ?_;rotate_left
                     ·intro w'
                      go_simp
                      with_reducible rfl
                     rotate_left
                     ·simp only [Act.put,yq0,yq1,yq2,y0a,y0b]
                      rfl
                     refine y0d (i:=22) (N:=some 78) (v:=?_) (a':=?_) #[true,true,true,true,true,true,true,true,true,true,true,true,true,true,true,true,true,true,true,true,true,true,true,false,false,false,false,false,false,false,false] rfl rfl (y06 HT_.out (by kernel_rfl)) (fun _ _ _ h=>h) (Or.inl ⟨by rfl,?_⟩) ?_ ?_;rotate_left
                     ·intro w'
                      go_simp
                      with_reducible rfl
                     rotate_left
                     ·simp only [Act.put,yq0,yq1,yq2,y0a,y0b]
                      rfl
                     refine y0d (i:=23) (N:=some 79) (v:=?_) (a':=?_) #[true,true,true,true,true,true,true,true,true,true,true,true,true,true,true,true,true,true,true,true,true,true,true,true,false,false,false,false,false,false,false] rfl rfl (y06 HT_.out (by kernel_rfl)) (fun _ _ _ h=>h) (Or.inl ⟨by rfl,?_⟩) ?_ ?_;rotate_left
                     ·intro w'
                      go_simp
                      with_reducible rfl
                     rotate_left
                     ·simp only [Act.put,yq0,yq1,yq2,y0a,y0b]
                      rfl
                     refine y0d (i:=25) (N:=some 81) (v:=?_) (a':=?_) #[true,true,true,true,true,true,true,true,true,true,true,true,true,true,true,true,true,true,true,true,true,true,true,true,false,true,false,false,false,false,false] rfl rfl (y06 HT_.out (by kernel_rfl)) (fun _ _ _ h=>h) (Or.inl ⟨by rfl,?_⟩) ?_ ?_;rotate_left
                     ·intro w'
                      go_simp
                      with_reducible rfl
                     rotate_left
                     ·simp only [Act.put,yq0,yq1,yq2,y0a,y0b]
                      rfl
                     refine y0d (i:=26) (N:=some 82) (v:=?_) (a':=?_) #[true,true,true,true,true,true,true,true,true,true,true,true,true,true,true,true,true,true,true,true,true,true,true,true,false,true,true,false,false,false,false] rfl rfl (y06 HT_.out (by kernel_rfl)) (fun _ _ _ h=>h) (Or.inl ⟨by rfl,?_⟩) ?_ ?_;rotate_left
                     ·intro w'
                      go_simp
                      with_reducible rfl
                     rotate_left
                     ·simp only [Act.put,yq0,yq1,yq2,y0a,y0b]
                      rfl
                     refine y0d (i:=27) (N:=some 83) (v:=?_) (a':=?_) #[true,true,true,true,true,true,true,true,true,true,true,true,true,true,true,true,true,true,true,true,true,true,true,true,false,true,true,true,false,false,false] rfl rfl (y06 HT_.out (by kernel_rfl)) (fun _ _ _ h=>h) (Or.inl ⟨by rfl,?_⟩) ?_ ?_;rotate_left
                     ·intro w'
                      go_simp
                      with_reducible rfl
                     rotate_left
                     ·simp only [Act.put,yq0,yq1,yq2,y0a,y0b]
                      rfl
                     refine take_ (i:=24) (N:=some 80) (v:=?_) (a':=?_) #[true,true,true,true,true,true,true,true,true,true,true,true,true,true,true,true,true,true,true,true,true,true,true,true,true,true,true,true,false,false,false] rfl rfl (y0m HT_.out HW_.out (by kernel_rfl)) (fun _ _ _ h=>h) (Or.inl ⟨by rfl,?_⟩) hHeld ?_ ?_;rotate_left
                     ·rintro w' ⟨s0,s1,s2,s3⟩
                      go_simp
                      with_reducible rfl
                     rotate_left
                     ·simp only [Act.put,yq0,yq1,yq2,y0a,y0b]
                      rfl
                     refine take_ (i:=28) (N:=some 84) (v:=?_) (a':=?_) #[true,true,true,true,true,true,true,true,true,true,true,true,true,true,true,true,true,true,true,true,true,true,true,true,true,true,true,true,true,false,false] rfl rfl (y0m HT_.out HW_.out (by kernel_rfl)) (fun _ _ _ h=>h) (Or.inl ⟨by rfl,?_⟩) hHeld ?_ ?_;rotate_left
                     ·rintro w' ⟨s0,s1,s2,s3⟩
                      go_simp
                      with_reducible rfl
                     rotate_left
                     ·simp only [Act.put,yq0,yq1,yq2,y0a,y0b]
                      rfl
                     refine y0d (i:=29) (N:=some 85) (v:=?_) (a':=?_) #[true,true,true,true,true,true,true,true,true,true,true,true,true,true,true,true,true,true,true,true,true,true,true,true,true,true,true,true,true,true,false] rfl rfl (y06 HT_.out (by kernel_rfl)) (fun _ _ _ h=>h) (Or.inl ⟨by rfl,?_⟩) ?_ ?_;rotate_left
                     ·intro w'
                      go_simp
                      with_reducible rfl
                     rotate_left
                     ·simp only [Act.put,yq0,yq1,yq2,y0a,y0b]
                      rfl
                     refine y0d (i:=30) (N:=some 86) (v:=?_) (a':=?_) #[true,true,true,true,true,true,true,true,true,true,true,true,true,true,true,true,true,true,true,true,true,true,true,true,true,true,true,true,true,true,true] rfl rfl (y06 HT_.out (by kernel_rfl)) (fun _ _ _ h=>h) (Or.inl ⟨by rfl,?_⟩) ?_ ?_;rotate_left
                     ·intro w'
                      go_simp
                      with_reducible rfl
                     rotate_left
                     ·simp only [Act.put,yq0,yq1,yq2,y0a,y0b]
                      rfl
                     refine y6j (y2q HT_.out (by kernel_rfl)) ?_;have p261:0≤(x13_4:Int):=zDo (by with_reducible assumption);have q261:x13_4<(x9_4.length:Int):=zDo (by with_reducible assumption);obtain ⟨ad261,e261,hx261_0⟩:=Kd.at_int (Kd.R_reads' HO_9.out).2.2 x13_4 p261 q261;obtain rfl:ad259=ad261:=(by injection e261)
                     replace p261:=eq_true p261;replace q261:=eq_true q261;have p23:0≤(x12_3:Int):=zDo (by with_reducible assumption);have q23:(x12_3:Int)<((x9_4.length:Int):Int):=zDo (by with_reducible assumption);obtain ⟨go23,co23,eo23,gb23,gl23,cl23,HG23⟩:=Kd.R_form HO_9.out (by omega)
                     (cases eo23)
                     have GB23:=As0.mk gb23;have GG23:=As0.mk HG23;clear gb23 gl23 HG23
                     (simp only [y14] at hx259_0)
                     (simp only [y14] at hx260_0)
                     (simp only [y14] at hx261_0)
                     obtain ⟨hx23_0,hf23_0⟩:=Kd.R_celln 0 HO_9.out (x12_3:Int) p23 q23;replace p23:=eq_true p23;replace q23:=eq_true q23;obtain ⟨hy26_,hz26_⟩:=Kd.R_celln 0 HO_9.out (x12_3:Int) (zDo (by with_reducible assumption)) (zDo (by with_reducible assumption));have HP26:=Kd.R_putg HO_9.out (x12_3:Int) (rd x9_4 x13_4)
                     try go_wp2_with (((with_reducible refine y2w (t:=3) (p:=93) rfl ?_);refine y2i (t:=3) (p:=93) (v:=?vo_w27) (w1:=(w24.setCell ⟨go23,(x12_3:Int).toNat,none⟩ (.int .i64 (rd x9_4 x13_4)))) ?hg ?ho ?hn ?hr ?_;(case ho=>rfl);(case hg=>rfl);(case hn=>rfl);(case hr=>(go_simp;done));intro w27 hw;have hg:w24.grownBy w27 (some go23):=(by rw [hw];exact HP26.2);have hp_:Kd.R (Kd.int .i64) 3 w27 w.heap.size (fun k_=>some k_≠(u8:Value).ownBlock) (.slice (some ⟨go23,0,none⟩) x9_4.length co25) y262:=(by rw [hw,Ny262.out];exact HP26.1);clear HP26;have n0_:=As0.mk (Kd.R_after (v:=(.slice (some ⟨go23,0,none⟩) x9_4.length co25)) (v1:=(.slice (some ⟨go23,0,none⟩) x9_4.length co25)) (ok:=(fun _=>True)) (by (with_reducible repeat (first|apply Kd.R_alloc|apply Kd.R_drewN|apply Kd.R_drew));exact Kd.R_mono HO_8.out (fun _ hk=>⟨trivial,hk⟩)) hg (.inl rfl));have n1_:=As0.mk (hp_);have n2_:=As0.mk ((by rw [hw];exact y0e (HB.out) GB23.out:Below w.heap.size w w27));clear HO_8;clear HO_9;clear HB;have HO_8:=n0_;have HO_9:=n1_;have HB:=n2_;clear n0_ n1_ n2_;clear hg hw hp_))
                     go_roundg k4
                     case measure=>have:=HK1.out;have:=HK2.out;have:=HK3.out;have:=HK4.out;omega
                     case rel=>exact ⟨(y262),(true),(wrap64 (x13_4+1)),(by rfl),(by rfl),H',⟨by have:=HK1.out;have:=HK2.out;have:=HK3.out;have:=HK4.out;omega⟩,⟨by (with_reducible repeat (first|apply Kd.R_alloc|apply Kd.R_drewN|apply Kd.R_drew));exact Kd.R_mono HO_8.out (fun _ hk=>hk.2)⟩,⟨by (with_reducible repeat (first|apply Kd.R_alloc|apply Kd.R_drewN|apply Kd.R_drew));exact HO_9.out⟩,⟨by repeat (with_reducible exact HB.out)⟩⟩
                    ·rw [if_neg c22] at H
                     have c22b0:decide ((rd x9_4 x13_4)<(rd x9_4 x12_3))=false:=zDf c22;clear c22;have H':=As0.mk H;clear H
                     try go_wp2
                     have n0_:=As0.mk (Kd.R_drew HO_8.out);have n1_:=As0.mk (Kd.R_drew HO_9.out);have n2_:=As0.mk (y01 HB.out);clear HO_8;clear HO_9;clear HB;have HO_8:=n0_;have HO_9:=n1_;have HB:=n2_;clear n0_ n1_ n2_;have p257:0≤(x12_3:Int):=zDo (by with_reducible assumption);have q257:x12_3<(l0.length:Int):=zDo (by with_reducible assumption);obtain ⟨ad257,e257,hx257_0⟩:=Kd.at_int HR0.out x12_3 p257 q257;have hw257_0:=hx257_0;cases e257
                     replace hx257_0:=(HB.out.cell (World.block_lt_of_cell? w _ hx257_0)).trans hx257_0;replace p257:=eq_true p257;replace q257:=eq_true q257;have p258:0≤(x13_4:Int):=zDo (by with_reducible assumption);have q258:x13_4<(l0.length:Int):=zDo (by with_reducible assumption);obtain ⟨ad258,e258,hx258_0⟩:=Kd.at_int HR0.out x13_4 p258 q258;have hw258_0:=hx258_0;obtain rfl:ad257=ad258:=(by injection e258)
                     replace hx258_0:=(HB.out.cell (World.block_lt_of_cell? w _ hx258_0)).trans hx258_0;replace p258:=eq_true p258;replace q258:=eq_true q258;obtain ⟨Ao29,co29,eo29⟩:=Kd.R_slice HO_9.out
                     (subst eo29)
                     have p259:0≤(x12_3:Int):=zDo (by with_reducible assumption);have q259:x12_3<(x9_4.length:Int):=zDo (by with_reducible assumption);obtain ⟨ad259,e259,hx259_0⟩:=Kd.at_int (Kd.R_reads' HO_9.out).2.2 x12_3 p259 q259;cases e259
                     replace p259:=eq_true p259;replace q259:=eq_true q259;have p260:0≤(x13_4:Int):=zDo (by with_reducible assumption);have q260:x13_4<(x9_4.length:Int):=zDo (by with_reducible assumption);obtain ⟨ad260,e260,hx260_0⟩:=Kd.at_int (Kd.R_reads' HO_9.out).2.2 x13_4 p260 q260;obtain rfl:ad259=ad260:=(by injection e260)
                     replace p260:=eq_true p260;replace q260:=eq_true q260;refine y3n (n:=31) (S:=fun w'=>w'.cell? (ad257.add (x12_3).toNat)=some (.int .i64 (rd l0 x12_3))∧w'.cell? (ad257.add (x13_4).toNat)=some (.int .i64 (rd l0 x13_4))∧w'.cell? (ad259.add (x12_3).toNat)=some (.int .i64 (rd x9_4 x12_3))∧w'.cell? (ad259.add (x13_4).toNat)=some (.int .i64 (rd x9_4 x13_4))) (ds:=[]) #[false,false,false,false,false,false,false,false,false,false,false,false,false,false,false,false,false,false,false,false,false,false,false,false,false,false,false,false,false,false,false] (by kernel_rfl) rfl rfl ⟨((HB.out.cell (World.block_lt_of_cell? w _ hw257_0)).trans hw257_0),((HB.out.cell (World.block_lt_of_cell? w _ hw258_0)).trans hw258_0),hx259_0,hx260_0⟩ (fun hHeld=>?_);refine y1o r6_Meet.tab19 r6_Meet.bits19 (fun HT_ HW_=>?_);generalize wr.drew=w28 at HO_8 HO_9 HB hx257_0 hx258_0 hx259_0 hx260_0 hHeld ⊢;refine y0d (i:=0) (N:=some 56) (v:=?_) (a':=?_) #[true,false,false,false,false,false,false,false,false,false,false,false,false,false,false,false,false,false,false,false,false,false,false,false,false,false,false,false,false,false,false] rfl rfl (y06 HT_.out (by kernel_rfl)) (fun _ _ _ h=>h) (Or.inl ⟨by rfl,?_⟩) ?_ ?_;rotate_left
                     ·intro w'
                      go_simp
                      with_reducible rfl
                     rotate_left
                     ·simp only [Act.put,yq0,yq1,yq2,y0a,y0b]
                      rfl
                     refine y0d (i:=1) (N:=some 57) (v:=?_) (a':=?_) #[true,true,false,false,false,false,false,false,false,false,false,false,false,false,false,false,false,false,false,false,false,false,false,false,false,false,false,false,false,false,false] rfl rfl (y06 HT_.out (by kernel_rfl)) (fun _ _ _ h=>h) (Or.inl ⟨by rfl,?_⟩) ?_ ?_;rotate_left
                     ·intro w'
                      go_simp
                      with_reducible rfl
                     rotate_left
                     ·simp only [Act.put,yq0,yq1,yq2,y0a,y0b]
                      rfl
                     refine y0d (i:=2) (N:=some 58) (v:=?_) (a':=?_) #[true,true,true,false,false,false,false,false,false,false,false,false,false,false,false,false,false,false,false,false,false,false,false,false,false,false,false,false,false,false,false] rfl rfl (y06 HT_.out (by kernel_rfl)) (fun _ _ _ h=>h) (Or.inl ⟨by rfl,?_⟩) ?_ ?_;rotate_left
                     ·intro w'
                      go_simp
                      with_reducible rfl
                     rotate_left
                     ·simp only [Act.put,yq0,yq1,yq2,y0a,y0b]
                      rfl
                     refine y0d (i:=4) (N:=some 60) (v:=?_) (a':=?_) #[true,true,true,false,true,false,false,false,false,false,false,false,false,false,false,false,false,false,false,false,false,false,false,false,false,false,false,false,false,false,false] rfl rfl (y06 HT_.out (by kernel_rfl)) (fun _ _ _ h=>h) (Or.inl ⟨by rfl,?_⟩) ?_ ?_;rotate_left
                     ·intro w'
                      go_simp
                      with_reducible rfl
                     rotate_left
                     ·simp only [Act.put,yq0,yq1,yq2,y0a,y0b]
                      rfl
                     refine y0d (i:=5) (N:=some 61) (v:=?_) (a':=?_) #[true,true,true,false,true,true,false,false,false,false,false,false,false,false,false,false,false,false,false,false,false,false,false,false,false,false,false,false,false,false,false] rfl rfl (y06 HT_.out (by kernel_rfl)) (fun _ _ _ h=>h) (Or.inl ⟨by rfl,?_⟩) ?_ ?_;rotate_left
                     ·intro w'
                      go_simp
                      with_reducible rfl
                     rotate_left
                     ·simp only [Act.put,yq0,yq1,yq2,y0a,y0b]
                      rfl
                     refine y0d (i:=6) (N:=some 62) (v:=?_) (a':=?_) #[true,true,true,false,true,true,true,false,false,false,false,false,false,false,false,false,false,false,false,false,false,false,false,false,false,false,false,false,false,false,false] rfl rfl (y06 HT_.out (by kernel_rfl)) (fun _ _ _ h=>h) (Or.inl ⟨by rfl,?_⟩) ?_ ?_;rotate_left
                     ·intro w'
                      go_simp
                      with_reducible rfl
                     rotate_left
                     ·simp only [Act.put,yq0,yq1,yq2,y0a,y0b]
                      rfl
                     refine take_ (i:=3) (N:=some 59) (v:=?_) (a':=?_) #[true,true,true,true,true,true,true,false,false,false,false,false,false,false,false,false,false,false,false,false,false,false,false,false,false,false,false,false,false,false,false] rfl rfl (y0m HT_.out HW_.out (by kernel_rfl)) (fun _ _ _ h=>h) (Or.inl ⟨by rfl,?_⟩) hHeld ?_ ?_;rotate_left
                     ·rintro w' ⟨s0,s1,s2,s3⟩
                      go_simp
                      with_reducible rfl
                     rotate_left
                     ·simp only [Act.put,yq0,yq1,yq2,y0a,y0b]
                      rfl
                     refine take_ (i:=7) (N:=some 63) (v:=?_) (a':=?_) #[true,true,true,true,true,true,true,true,false,false,false,false,false,false,false,false,false,false,false,false,false,false,false,false,false,false,false,false,false,false,false] rfl rfl (y0m HT_.out HW_.out (by kernel_rfl)) (fun _ _ _ h=>h) (Or.inl ⟨by rfl,?_⟩) hHeld ?_ ?_;rotate_left
                     ·rintro w' ⟨s0,s1,s2,s3⟩
                      go_simp
                      with_reducible rfl
                     rotate_left
                     ·simp only [Act.put,yq0,yq1,yq2,y0a,y0b]
                      rfl
                     refine y0d (i:=8) (N:=some 64) (v:=?_) (a':=?_) #[true,true,true,true,true,true,true,true,true,false,false,false,false,false,false,false,false,false,false,false,false,false,false,false,false,false,false,false,false,false,false] rfl rfl (y06 HT_.out (by kernel_rfl)) (fun _ _ _ h=>h) (Or.inl ⟨by rfl,?_⟩) ?_ ?_;rotate_left
                     ·intro w'
                      go_simp
                      with_reducible rfl
                     rotate_left
                     ·simp only [Act.put,yq0,yq1,yq2,y0a,y0b]
                      rfl
                     refine y0d (i:=9) (N:=some 65) (v:=?_) (a':=?_) #[true,true,true,true,true,true,true,true,true,true,false,false,false,false,false,false,false,false,false,false,false,false,false,false,false,false,false,false,false,false,false] rfl rfl (y06 HT_.out (by kernel_rfl)) (fun _ _ _ h=>h) (Or.inl ⟨by rfl,?_⟩) ?_ ?_;rotate_left
                     ·intro w'
                      go_simp
                      with_reducible rfl
                     rotate_left
                     ·simp only [Act.put,yq0,yq1,yq2,y0a,y0b]
                      rfl
                     refine y0d (i:=10) (N:=some 66) (v:=undef) (a':=?_) #[true,true,true,true,true,true,true,true,true,true,true,false,false,false,false,false,false,false,false,false,false,false,false,false,false,false,false,false,false,false,false] rfl rfl (y06 HT_.out (by kernel_rfl)) (fun _ _ _ h=>h) (Or.inr ⟨by rfl,rfl⟩) ?_ ?_;rotate_left
                     ·simp only [Act.put,yq0,yq1,yq2,y0a,y0b]
                      rfl
                     refine y0d (i:=11) (N:=some 67) (v:=undef) (a':=?_) #[true,true,true,true,true,true,true,true,true,true,true,true,false,false,false,false,false,false,false,false,false,false,false,false,false,false,false,false,false,false,false] rfl rfl (y06 HT_.out (by kernel_rfl)) (fun _ _ _ h=>h) (Or.inr ⟨by rfl,rfl⟩) ?_ ?_;rotate_left
                     ·simp only [Act.put,yq0,yq1,yq2,y0a,y0b]
                      rfl
                     refine y0d (i:=12) (N:=some 68) (v:=undef) (a':=?_) #[true,true,true,true,true,true,true,true,true,true,true,true,true,false,false,false,false,false,false,false,false,false,false,false,false,false,false,false,false,false,false] rfl rfl (y06 HT_.out (by kernel_rfl)) (fun _ _ _ h=>h) (Or.inr ⟨by rfl,rfl⟩) ?_ ?_;rotate_left
                     ·simp only [Act.put,yq0,yq1,yq2,y0a,y0b]
                      rfl
                     refine y0d (i:=13) (N:=some 69) (v:=undef) (a':=?_) #[true,true,true,true,true,true,true,true,true,true,true,true,true,true,false,false,false,false,false,false,false,false,false,false,false,false,false,false,false,false,false] rfl rfl (y06 HT_.out (by kernel_rfl)) (fun _ _ _ h=>h) (Or.inr ⟨by rfl,rfl⟩) ?_ ?_;rotate_left
                     ·simp only [Act.put,yq0,yq1,yq2,y0a,y0b]
                      rfl
                     refine y0d (i:=14) (N:=some 70) (v:=undef) (a':=?_) #[true,true,true,true,true,true,true,true,true,true,true,true,true,true,true,false,false,false,false,false,false,false,false,false,false,false,false,false,false,false,false] rfl rfl (y06 HT_.out (by kernel_rfl)) (fun _ _ _ h=>h) (Or.inr ⟨by rfl,rfl⟩) ?_ ?_;rotate_left
                     ·simp only [Act.put,yq0,yq1,yq2,y0a,y0b]
                      rfl
                     refine y0d (i:=15) (N:=some 71) (v:=undef) (a':=?_) #[true,true,true,true,true,true,true,true,true,true,true,true,true,true,true,true,false,false,false,false,false,false,false,false,false,false,false,false,false,false,false] rfl rfl (y06 HT_.out (by kernel_rfl)) (fun _ _ _ h=>h) (Or.inr ⟨by rfl,rfl⟩) ?_ ?_;rotate_left
                     ·simp only [Act.put,yq0,yq1,yq2,y0a,y0b]
                      rfl
                     refine y0d (i:=16) (N:=some 72) (v:=undef) (a':=?_) #[true,true,true,true,true,true,true,true,true,true,true,true,true,true,true,true,true,false,false,false,false,false,false,false,false,false,false,false,false,false,false] rfl rfl (y06 HT_.out (by kernel_rfl)) (fun _ _ _ h=>h) (Or.inr ⟨by rfl,rfl⟩) ?_ ?_;rotate_left
                     ·simp only [Act.put,yq0,yq1,yq2,y0a,y0b]
                      rfl
                     refine y0d (i:=17) (N:=some 73) (v:=undef) (a':=?_) #[true,true,true,true,true,true,true,true,true,true,true,true,true,true,true,true,true,true,false,false,false,false,false,false,false,false,false,false,false,false,false] rfl rfl (y06 HT_.out (by kernel_rfl)) (fun _ _ _ h=>h) (Or.inr ⟨by rfl,rfl⟩) ?_ ?_;rotate_left
                     ·simp only [Act.put,yq0,yq1,yq2,y0a,y0b]
                      rfl
                     refine y0d (i:=18) (N:=some 74) (v:=undef) (a':=?_) #[true,true,true,true,true,true,true,true,true,true,true,true,true,true,true,true,true,true,true,false,false,false,false,false,false,false,false,false,false,false,false] rfl rfl (y06 HT_.out (by kernel_rfl)) (fun _ _ _ h=>h) (Or.inr ⟨by rfl,rfl⟩) ?_ ?_;rotate_left
                     ·simp only [Act.put,yq0,yq1,yq2,y0a,y0b]
                      rfl
                     refine y0d (i:=19) (N:=some 75) (v:=?_) (a':=?_) #[true,true,true,true,true,true,true,true,true,true,true,true,true,true,true,true,true,true,true,true,false,false,false,false,false,false,false,false,false,false,false] rfl rfl (y06 HT_.out (by kernel_rfl)) (fun _ _ _ h=>h) (Or.inl ⟨by rfl,?_⟩) ?_ ?_;rotate_left
                     ·intro w'
                      go_simp
                      with_reducible rfl
                     rotate_left
                     ·simp only [Act.put,yq0,yq1,yq2,y0a,y0b]
                      rfl
                     refine y0d (i:=20) (N:=some 76) (v:=?_) (a':=?_) #[true,true,true,true,true,true,true,true,true,true,true,true,true,true,true,true,true,true,true,true,true,false,false,false,false,false,false,false,false,false,false] rfl rfl (y06 HT_.out (by kernel_rfl)) (fun _ _ _ h=>h) (Or.inl ⟨by rfl,?_⟩) ?_ ?_;rotate_left
                     ·intro w'
                      go_simp
                      with_reducible rfl
                     rotate_left
                     ·simp only [Act.put,yq0,yq1,yq2,y0a,y0b]
                      rfl
                     refine y0d (i:=21) (N:=some 77) (v:=?_) (a':=?_) #[true,true,true,true,true,true,true,true,true,true,true,true,true,true,true,true,true,true,true,true,true,true,false,false,false,false,false,false,false,false,false] rfl rfl (y06 HT_.out (by kernel_rfl)) (fun _ _ _ h=>h) (Or.inl ⟨by rfl,?_⟩) ?_ ?_;rotate_left
                     ·intro w'
                      go_simp
                      with_reducible rfl
                     rotate_left
                     ·simp only [Act.put,yq0,yq1,yq2,y0a,y0b]
                      rfl
                     refine y0d (i:=22) (N:=some 78) (v:=?_) (a':=?_) #[true,true,true,true,true,true,true,true,true,true,true,true,true,true,true,true,true,true,true,true,true,true,true,false,false,false,false,false,false,false,false] rfl rfl (y06 HT_.out (by kernel_rfl)) (fun _ _ _ h=>h) (Or.inl ⟨by rfl,?_⟩) ?_ ?_;rotate_left
                     ·intro w'
                      go_simp
                      with_reducible rfl
                     rotate_left
                     ·simp only [Act.put,yq0,yq1,yq2,y0a,y0b]
                      rfl
                     refine y0d (i:=23) (N:=some 79) (v:=?_) (a':=?_) #[true,true,true,true,true,true,true,true,true,true,true,true,true,true,true,true,true,true,true,true,true,true,true,true,false,false,false,false,false,false,false] rfl rfl (y06 HT_.out (by kernel_rfl)) (fun _ _ _ h=>h) (Or.inl ⟨by rfl,?_⟩) ?_ ?_;rotate_left
                     ·intro w'
                      go_simp
                      with_reducible rfl
                     rotate_left
                     ·simp only [Act.put,yq0,yq1,yq2,y0a,y0b]
                      rfl
                     refine y0d (i:=25) (N:=some 81) (v:=?_) (a':=?_) #[true,true,true,true,true,true,true,true,true,true,true,true,true,true,true,true,true,true,true,true,true,true,true,true,false,true,false,false,false,false,false] rfl rfl (y06 HT_.out (by kernel_rfl)) (fun _ _ _ h=>h) (Or.inl ⟨by rfl,?_⟩) ?_ ?_;rotate_left
                     ·intro w'
                      go_simp
                      with_reducible rfl
                     rotate_left
                     ·simp only [Act.put,yq0,yq1,yq2,y0a,y0b]
                      rfl
                     refine y0d (i:=26) (N:=some 82) (v:=?_) (a':=?_) #[true,true,true,true,true,true,true,true,true,true,true,true,true,true,true,true,true,true,true,true,true,true,true,true,false,true,true,false,false,false,false] rfl rfl (y06 HT_.out (by kernel_rfl)) (fun _ _ _ h=>h) (Or.inl ⟨by rfl,?_⟩) ?_ ?_;rotate_left
                     ·intro w'
                      go_simp
                      with_reducible rfl
                     rotate_left
                     ·simp only [Act.put,yq0,yq1,yq2,y0a,y0b]
                      rfl
                     refine y0d (i:=27) (N:=some 83) (v:=?_) (a':=?_) #[true,true,true,true,true,true,true,true,true,true,true,true,true,true,true,true,true,true,true,true,true,true,true,true,false,true,true,true,false,false,false] rfl rfl (y06 HT_.out (by kernel_rfl)) (fun _ _ _ h=>h) (Or.inl ⟨by rfl,?_⟩) ?_ ?_;rotate_left
                     ·intro w'
                      go_simp
                      with_reducible rfl
                     rotate_left
                     ·simp only [Act.put,yq0,yq1,yq2,y0a,y0b]
                      rfl
                     refine take_ (i:=24) (N:=some 80) (v:=?_) (a':=?_) #[true,true,true,true,true,true,true,true,true,true,true,true,true,true,true,true,true,true,true,true,true,true,true,true,true,true,true,true,false,false,false] rfl rfl (y0m HT_.out HW_.out (by kernel_rfl)) (fun _ _ _ h=>h) (Or.inl ⟨by rfl,?_⟩) hHeld ?_ ?_;rotate_left
                     ·rintro w' ⟨s0,s1,s2,s3⟩
                      go_simp
                      with_reducible rfl
                     rotate_left
                     ·simp only [Act.put,yq0,yq1,yq2,y0a,y0b]
                      rfl
                     refine take_ (i:=28) (N:=some 84) (v:=?_) (a':=?_) #[true,true,true,true,true,true,true,true,true,true,true,true,true,true,true,true,true,true,true,true,true,true,true,true,true,true,true,true,true,false,false] rfl rfl (y0m HT_.out HW_.out (by kernel_rfl)) (fun _ _ _ h=>h) (Or.inl ⟨by rfl,?_⟩) hHeld ?_ ?_;rotate_left
                     ·rintro w' ⟨s0,s1,s2,s3⟩
                      go_simp
                      with_reducible rfl
                     rotate_left
                     ·simp only [Act.put,yq0,yq1,yq2,y0a,y0b]
                      rfl
                     refine y0d (i:=29) (N:=some 85) (v:=?_) (a':=?_) #[true,true,true,true,true,true,true,true,true,true,true,true,true,true,true,true,true,true,true,true,true,true,true,true,true,true,true,true,true,true,false] rfl rfl (y06 HT_.out (by kernel_rfl)) (fun _ _ _ h=>h) (Or.inl ⟨by rfl,?_⟩) ?_ ?_;rotate_left
                     ·intro w'
                      go_simp
                      with_reducible rfl
                     rotate_left
                     ·simp only [Act.put,yq0,yq1,yq2,y0a,y0b]
                      rfl
                     refine y0d (i:=30) (N:=some 86) (v:=?_) (a':=?_) #[true,true,true,true,true,true,true,true,true,true,true,true,true,true,true,true,true,true,true,true,true,true,true,true,true,true,true,true,true,true,true] rfl rfl (y06 HT_.out (by kernel_rfl)) (fun _ _ _ h=>h) (Or.inl ⟨by rfl,?_⟩) ?_ ?_;rotate_left
                     ·intro w'
                      go_simp
                      with_reducible rfl
                     rotate_left
                     ·simp only [Act.put,yq0,yq1,yq2,y0a,y0b]
                      rfl
                     refine y6j (y2q HT_.out (by kernel_rfl)) ?_
                     try go_wp2
                     go_roundg k4
                     case measure=>have:=HK1.out;have:=HK2.out;have:=HK3.out;have:=HK4.out;omega
                     case rel=>exact ⟨(x9_4),(x11_4),(wrap64 (x13_4+1)),(by rfl),(by rfl),H',⟨by have:=HK1.out;have:=HK2.out;have:=HK3.out;have:=HK4.out;omega⟩,⟨by (with_reducible repeat (first|apply Kd.R_alloc|apply Kd.R_drewN|apply Kd.R_drew));exact HO_8.out⟩,⟨by (with_reducible repeat (first|apply Kd.R_alloc|apply Kd.R_drewN|apply Kd.R_drew));exact HO_9.out⟩,⟨by repeat (with_reducible exact HB.out)⟩⟩
                   ·rw [if_neg c21] at H
                    exact absurd H (by simp)
                  ·rw [if_neg c20] at H
                   exact absurd H (by simp)
                 ·rw [if_neg c19] at H
                  have c19b0:((rd l0 x12_3) == (rd l0 x13_4))=false:=beq_eq_false_iff_ne.mpr c19;have c19b1:((rd l0 x12_3) != (rd l0 x13_4))=true:=bne_iff_ne.mpr c19
                  by_cases c30:x12_3<(l1.length:Int)
                  ·rw [if_pos c30] at H
                   have c30b0:decide (x12_3<(l1.length:Int))=true:=zDt c30;clear c30
                   by_cases c31:x13_4<(l1.length:Int)
                   ·rw [if_pos c31] at H
                    have c31b0:decide (x13_4<(l1.length:Int))=true:=zDt c31;clear c31
                    by_cases c32:(rd l1 x12_3)=(rd l1 x13_4)
                    ·rw [if_pos c32] at H
                     have c32b0:((rd l1 x12_3) == (rd l1 x13_4))=true:=beq_iff_eq.mpr c32;have c32b1:((rd l1 x12_3) != (rd l1 x13_4))=false:=bne_eq_false_iff_eq.mpr c32;clear c32
                     by_cases c33:x12_3<(x9_4.length:Int)
                     ·rw [if_pos c33] at H
                      have c33b0:decide (x12_3<(x9_4.length:Int))=true:=zDt c33;clear c33
                      by_cases c34:x13_4<(x9_4.length:Int)
                      ·rw [if_pos c34] at H
                       have c34b0:decide (x13_4<(x9_4.length:Int))=true:=zDt c34;clear c34
                       by_cases c35:(rd x9_4 x12_3) > (rd x9_4 x13_4)
                       ·rw [if_pos c35] at H
                        have c35b0:decide ((rd x9_4 x13_4)<(rd x9_4 x12_3))=true:=zDt c35;clear c35;obtain ⟨y268,hy268⟩:∃ y_:List Int,y_=(x9_4.set (x12_3:Int).toNat (rd x9_4 x13_4)):=⟨_,rfl⟩
                        replace H:(r6_Meet.l3 k4 l0 l1 x8_1 y268 true x12_3 (wrap64 (x13_4+1)))=some (r1,r2,r3):=by (rw [hy268];with_reducible exact H)
                        have Ny268:=As0.mk hy268;clear hy268;have H':=As0.mk H;clear H
                        try go_wp2
                        have n0_:=As0.mk (Kd.R_drew HO_8.out);have n1_:=As0.mk (Kd.R_drew HO_9.out);have n2_:=As0.mk (y01 HB.out);clear HO_8;clear HO_9;clear HB;have HO_8:=n0_;have HO_9:=n1_;have HB:=n2_;clear n0_ n1_ n2_;have p257:0≤(x12_3:Int):=zDo (by with_reducible assumption);have q257:x12_3<(l0.length:Int):=zDo (by with_reducible assumption);obtain ⟨ad257,e257,hx257_0⟩:=Kd.at_int HR0.out x12_3 p257 q257;have hw257_0:=hx257_0;cases e257
                        replace hx257_0:=(HB.out.cell (World.block_lt_of_cell? w _ hx257_0)).trans hx257_0;replace p257:=eq_true p257;replace q257:=eq_true q257;have p258:0≤(x13_4:Int):=zDo (by with_reducible assumption);have q258:x13_4<(l0.length:Int):=zDo (by with_reducible assumption);obtain ⟨ad258,e258,hx258_0⟩:=Kd.at_int HR0.out x13_4 p258 q258;have hw258_0:=hx258_0;obtain rfl:ad257=ad258:=(by injection e258)
                        replace hx258_0:=(HB.out.cell (World.block_lt_of_cell? w _ hx258_0)).trans hx258_0;replace p258:=eq_true p258;replace q258:=eq_true q258;have p263:0≤(x12_3:Int):=zDo (by with_reducible assumption);have q263:x12_3<(l1.length:Int):=zDo (by with_reducible assumption);obtain ⟨ad263,e263,hx263_0⟩:=Kd.at_int HR1.out x12_3 p263 q263;have hw263_0:=hx263_0;cases e263
                        replace hx263_0:=(HB.out.cell (World.block_lt_of_cell? w _ hx263_0)).trans hx263_0;replace p263:=eq_true p263;replace q263:=eq_true q263;have p264:0≤(x13_4:Int):=zDo (by with_reducible assumption);have q264:x13_4<(l1.length:Int):=zDo (by with_reducible assumption);obtain ⟨ad264,e264,hx264_0⟩:=Kd.at_int HR1.out x13_4 p264 q264;have hw264_0:=hx264_0;obtain rfl:ad263=ad264:=(by injection e264)
                        replace hx264_0:=(HB.out.cell (World.block_lt_of_cell? w _ hx264_0)).trans hx264_0;replace p264:=eq_true p264;replace q264:=eq_true q264;obtain ⟨Ao38,co38,eo38⟩:=Kd.R_slice HO_9.out
                        (subst eo38)
                        have p265:0≤(x12_3:Int):=zDo (by with_reducible assumption);have q265:x12_3<(x9_4.length:Int):=zDo (by with_reducible assumption);obtain ⟨ad265,e265,hx265_0⟩:=Kd.at_int (Kd.R_reads' HO_9.out).2.2 x12_3 p265 q265;cases e265
                        replace p265:=eq_true p265;replace q265:=eq_true q265;have p266:0≤(x13_4:Int):=zDo (by with_reducible assumption);have q266:x13_4<(x9_4.length:Int):=zDo (by with_reducible assumption);obtain ⟨ad266,e266,hx266_0⟩:=Kd.at_int (Kd.R_reads' HO_9.out).2.2 x13_4 p266 q266;obtain rfl:ad265=ad266:=(by injection e266)
                        replace p266:=eq_true p266;replace q266:=eq_true q266;refine y3n (n:=31) (S:=fun w'=>w'.cell? (ad257.add (x12_3).toNat)=some (.int .i64 (rd l0 x12_3))∧w'.cell? (ad257.add (x13_4).toNat)=some (.int .i64 (rd l0 x13_4))∧w'.cell? (ad263.add (x12_3).toNat)=some (.int .i64 (rd l1 x12_3))∧w'.cell? (ad263.add (x13_4).toNat)=some (.int .i64 (rd l1 x13_4))∧w'.cell? (ad265.add (x12_3).toNat)=some (.int .i64 (rd x9_4 x12_3))∧w'.cell? (ad265.add (x13_4).toNat)=some (.int .i64 (rd x9_4 x13_4))) (ds:=[]) #[false,false,false,false,false,false,false,false,false,false,false,false,false,false,false,false,false,false,false,false,false,false,false,false,false,false,false,false,false,false,false] (by kernel_rfl) rfl rfl ⟨((HB.out.cell (World.block_lt_of_cell? w _ hw257_0)).trans hw257_0),((HB.out.cell (World.block_lt_of_cell? w _ hw258_0)).trans hw258_0),((HB.out.cell (World.block_lt_of_cell? w _ hw263_0)).trans hw263_0),((HB.out.cell (World.block_lt_of_cell? w _ hw264_0)).trans hw264_0),hx265_0,hx266_0⟩ (fun hHeld=>?_);refine y1o r6_Meet.tab19 r6_Meet.bits19 (fun HT_ HW_=>?_);generalize wr.drew=w37 at HO_8 HO_9 HB hx257_0 hx258_0 hx263_0 hx264_0 hx265_0 hx266_0 hHeld ⊢;refine y0d (i:=0) (N:=some 56) (v:=?_) (a':=?_) #[true,false,false,false,false,false,false,false,false,false,false,false,false,false,false,false,false,false,false,false,false,false,false,false,false,false,false,false,false,false,false] rfl rfl (y06 HT_.out (by kernel_rfl)) (fun _ _ _ h=>h) (Or.inl ⟨by rfl,?_⟩) ?_ ?_;rotate_left
                        ·intro w'
                         go_simp
                         with_reducible rfl
                        rotate_left
                        ·simp only [Act.put,yq0,yq1,yq2,y0a,y0b]
                         rfl
                        refine y0d (i:=1) (N:=some 57) (v:=?_) (a':=?_) #[true,true,false,false,false,false,false,false,false,false,false,false,false,false,false,false,false,false,false,false,false,false,false,false,false,false,false,false,false,false,false] rfl rfl (y06 HT_.out (by kernel_rfl)) (fun _ _ _ h=>h) (Or.inl ⟨by rfl,?_⟩) ?_ ?_;rotate_left
                        ·intro w'
                         go_simp
                         with_reducible rfl
                        rotate_left
                        ·simp only [Act.put,yq0,yq1,yq2,y0a,y0b]
                         rfl
                        refine y0d (i:=2) (N:=some 58) (v:=?_) (a':=?_) #[true,true,true,false,false,false,false,false,false,false,false,false,false,false,false,false,false,false,false,false,false,false,false,false,false,false,false,false,false,false,false] rfl rfl (y06 HT_.out (by kernel_rfl)) (fun _ _ _ h=>h) (Or.inl ⟨by rfl,?_⟩) ?_ ?_;rotate_left
                        ·intro w'
                         go_simp
                         with_reducible rfl
                        rotate_left
                        ·simp only [Act.put,yq0,yq1,yq2,y0a,y0b]
                         rfl
                        refine y0d (i:=4) (N:=some 60) (v:=?_) (a':=?_) #[true,true,true,false,true,false,false,false,false,false,false,false,false,false,false,false,false,false,false,false,false,false,false,false,false,false,false,false,false,false,false] rfl rfl (y06 HT_.out (by kernel_rfl)) (fun _ _ _ h=>h) (Or.inl ⟨by rfl,?_⟩) ?_ ?_;rotate_left
                        ·intro w'
                         go_simp
                         with_reducible rfl
                        rotate_left
                        ·simp only [Act.put,yq0,yq1,yq2,y0a,y0b]
                         rfl
                        refine y0d (i:=5) (N:=some 61) (v:=?_) (a':=?_) #[true,true,true,false,true,true,false,false,false,false,false,false,false,false,false,false,false,false,false,false,false,false,false,false,false,false,false,false,false,false,false] rfl rfl (y06 HT_.out (by kernel_rfl)) (fun _ _ _ h=>h) (Or.inl ⟨by rfl,?_⟩) ?_ ?_;rotate_left
                        ·intro w'
                         go_simp
                         with_reducible rfl
                        rotate_left
                        ·simp only [Act.put,yq0,yq1,yq2,y0a,y0b]
                         rfl
                        refine y0d (i:=6) (N:=some 62) (v:=?_) (a':=?_) #[true,true,true,false,true,true,true,false,false,false,false,false,false,false,false,false,false,false,false,false,false,false,false,false,false,false,false,false,false,false,false] rfl rfl (y06 HT_.out (by kernel_rfl)) (fun _ _ _ h=>h) (Or.inl ⟨by rfl,?_⟩) ?_ ?_;rotate_left
                        ·intro w'
                         go_simp
                         with_reducible rfl
                        rotate_left
                        ·simp only [Act.put,yq0,yq1,yq2,y0a,y0b]
                         rfl
                        refine take_ (i:=3) (N:=some 59) (v:=?_) (a':=?_) #[true,true,true,true,true,true,true,false,false,false,false,false,false,false,false,false,false,false,false,false,false,false,false,false,false,false,false,false,false,false,false] rfl rfl (y0m HT_.out HW_.out (by kernel_rfl)) (fun _ _ _ h=>h) (Or.inl ⟨by rfl,?_⟩) hHeld ?_ ?_;rotate_left
                        ·rintro w' ⟨s0,s1,s2,s3,s4,s5⟩
                         go_simp
                         with_reducible rfl
                        rotate_left
                        ·simp only [Act.put,yq0,yq1,yq2,y0a,y0b]
                         rfl
                        refine take_ (i:=7) (N:=some 63) (v:=?_) (a':=?_) #[true,true,true,true,true,true,true,true,false,false,false,false,false,false,false,false,false,false,false,false,false,false,false,false,false,false,false,false,false,false,false] rfl rfl (y0m HT_.out HW_.out (by kernel_rfl)) (fun _ _ _ h=>h) (Or.inl ⟨by rfl,?_⟩) hHeld ?_ ?_;rotate_left
                        ·rintro w' ⟨s0,s1,s2,s3,s4,s5⟩
                         go_simp
                         with_reducible rfl
                        rotate_left
                        ·simp only [Act.put,yq0,yq1,yq2,y0a,y0b]
                         rfl
                        refine y0d (i:=8) (N:=some 64) (v:=?_) (a':=?_) #[true,true,true,true,true,true,true,true,true,false,false,false,false,false,false,false,false,false,false,false,false,false,false,false,false,false,false,false,false,false,false] rfl rfl (y06 HT_.out (by kernel_rfl)) (fun _ _ _ h=>h) (Or.inl ⟨by rfl,?_⟩) ?_ ?_;rotate_left
                        ·intro w'
                         go_simp
                         with_reducible rfl
                        rotate_left
                        ·simp only [Act.put,yq0,yq1,yq2,y0a,y0b]
                         rfl
                        refine y0d (i:=9) (N:=some 65) (v:=?_) (a':=?_) #[true,true,true,true,true,true,true,true,true,true,false,false,false,false,false,false,false,false,false,false,false,false,false,false,false,false,false,false,false,false,false] rfl rfl (y06 HT_.out (by kernel_rfl)) (fun _ _ _ h=>h) (Or.inl ⟨by rfl,?_⟩) ?_ ?_;rotate_left
                        ·intro w'
                         go_simp
                         with_reducible rfl
                        rotate_left
                        ·simp only [Act.put,yq0,yq1,yq2,y0a,y0b]
                         rfl
                        refine y0d (i:=10) (N:=some 66) (v:=?_) (a':=?_) #[true,true,true,true,true,true,true,true,true,true,true,false,false,false,false,false,false,false,false,false,false,false,false,false,false,false,false,false,false,false,false] rfl rfl (y06 HT_.out (by kernel_rfl)) (fun _ _ _ h=>h) (Or.inl ⟨by rfl,?_⟩) ?_ ?_;rotate_left
                        ·intro w'
                         go_simp
                         with_reducible rfl
                        rotate_left
                        ·simp only [Act.put,yq0,yq1,yq2,y0a,y0b]
                         rfl
                        refine y0d (i:=11) (N:=some 67) (v:=?_) (a':=?_) #[true,true,true,true,true,true,true,true,true,true,true,true,false,false,false,false,false,false,false,false,false,false,false,false,false,false,false,false,false,false,false] rfl rfl (y06 HT_.out (by kernel_rfl)) (fun _ _ _ h=>h) (Or.inl ⟨by rfl,?_⟩) ?_ ?_;rotate_left
                        ·intro w'
                         go_simp
                         with_reducible rfl
                        rotate_left
                        ·simp only [Act.put,yq0,yq1,yq2,y0a,y0b]
                         rfl
                        refine y0d (i:=12) (N:=some 68) (v:=?_) (a':=?_) #[true,true,true,true,true,true,true,true,true,true,true,true,true,false,false,false,false,false,false,false,false,false,false,false,false,false,false,false,false,false,false] rfl rfl (y06 HT_.out (by kernel_rfl)) (fun _ _ _ h=>h) (Or.inl ⟨by rfl,?_⟩) ?_ ?_;rotate_left
                        ·intro w'
                         go_simp
                         with_reducible rfl
                        rotate_left
                        ·simp only [Act.put,yq0,yq1,yq2,y0a,y0b]
                         rfl
                        refine y0d (i:=14) (N:=some 70) (v:=?_) (a':=?_) #[true,true,true,true,true,true,true,true,true,true,true,true,true,false,true,false,false,false,false,false,false,false,false,false,false,false,false,false,false,false,false] rfl rfl (y06 HT_.out (by kernel_rfl)) (fun _ _ _ h=>h) (Or.inl ⟨by rfl,?_⟩) ?_ ?_;rotate_left
                        ·intro w'
                         go_simp
                         with_reducible rfl
                        rotate_left
                        ·simp only [Act.put,yq0,yq1,yq2,y0a,y0b]
                         rfl
                        refine y0d (i:=15) (N:=some 71) (v:=?_) (a':=?_) #[true,true,true,true,true,true,true,true,true,true,true,true,true,false,true,true,false,false,false,false,false,false,false,false,false,false,false,false,false,false,false] rfl rfl (y06 HT_.out (by kernel_rfl)) (fun _ _ _ h=>h) (Or.inl ⟨by rfl,?_⟩) ?_ ?_;rotate_left
                        ·intro w'
                         go_simp
                         with_reducible rfl
                        rotate_left
                        ·simp only [Act.put,yq0,yq1,yq2,y0a,y0b]
                         rfl
                        refine y0d (i:=16) (N:=some 72) (v:=?_) (a':=?_) #[true,true,true,true,true,true,true,true,true,true,true,true,true,false,true,true,true,false,false,false,false,false,false,false,false,false,false,false,false,false,false] rfl rfl (y06 HT_.out (by kernel_rfl)) (fun _ _ _ h=>h) (Or.inl ⟨by rfl,?_⟩) ?_ ?_;rotate_left
                        ·intro w'
                         go_simp
                         with_reducible rfl
                        rotate_left
                        ·simp only [Act.put,yq0,yq1,yq2,y0a,y0b]
                         rfl
                        refine take_ (i:=13) (N:=some 69) (v:=?_) (a':=?_) #[true,true,true,true,true,true,true,true,true,true,true,true,true,true,true,true,true,false,false,false,false,false,false,false,false,false,false,false,false,false,false] rfl rfl (y0m HT_.out HW_.out (by kernel_rfl)) (fun _ _ _ h=>h) (Or.inl ⟨by rfl,?_⟩) hHeld ?_ ?_;rotate_left
                        ·rintro w' ⟨s0,s1,s2,s3,s4,s5⟩
                         go_simp
                         with_reducible rfl
                        rotate_left
                        ·simp only [Act.put,yq0,yq1,yq2,y0a,y0b]
                         rfl
                        refine take_ (i:=17) (N:=some 73) (v:=?_) (a':=?_) #[true,true,true,true,true,true,true,true,true,true,true,true,true,true,true,true,true,true,false,false,false,false,false,false,false,false,false,false,false,false,false] rfl rfl (y0m HT_.out HW_.out (by kernel_rfl)) (fun _ _ _ h=>h) (Or.inl ⟨by rfl,?_⟩) hHeld ?_ ?_;rotate_left
                        ·rintro w' ⟨s0,s1,s2,s3,s4,s5⟩
                         go_simp
                         with_reducible rfl
                        rotate_left
                        ·simp only [Act.put,yq0,yq1,yq2,y0a,y0b]
                         rfl
                        refine y0d (i:=18) (N:=some 74) (v:=?_) (a':=?_) #[true,true,true,true,true,true,true,true,true,true,true,true,true,true,true,true,true,true,true,false,false,false,false,false,false,false,false,false,false,false,false] rfl rfl (y06 HT_.out (by kernel_rfl)) (fun _ _ _ h=>h) (Or.inl ⟨by rfl,?_⟩) ?_ ?_;rotate_left
                        ·intro w'
                         go_simp
                         with_reducible rfl
                        rotate_left
                        ·simp only [Act.put,yq0,yq1,yq2,y0a,y0b]
                         rfl
                        refine y0d (i:=19) (N:=some 75) (v:=?_) (a':=?_) #[true,true,true,true,true,true,true,true,true,true,true,true,true,true,true,true,true,true,true,true,false,false,false,false,false,false,false,false,false,false,false] rfl rfl (y06 HT_.out (by kernel_rfl)) (fun _ _ _ h=>h) (Or.inl ⟨by rfl,?_⟩) ?_ ?_;rotate_left
                        ·intro w'
                         go_simp
                         with_reducible rfl
                        rotate_left
                        ·simp only [Act.put,yq0,yq1,yq2,y0a,y0b]
                         rfl
                        refine y0d (i:=20) (N:=some 76) (v:=?_) (a':=?_) #[true,true,true,true,true,true,true,true,true,true,true,true,true,true,true,true,true,true,true,true,true,false,false,false,false,false,false,false,false,false,false] rfl rfl (y06 HT_.out (by kernel_rfl)) (fun _ _ _ h=>h) (Or.inl ⟨by rfl,?_⟩) ?_ ?_;rotate_left
                        ·intro w'
                         go_simp
                         with_reducible rfl
                        rotate_left
                        ·simp only [Act.put,yq0,yq1,yq2,y0a,y0b]
                         rfl
                        refine y0d (i:=21) (N:=some 77) (v:=?_) (a':=?_) #[true,true,true,true,true,true,true,true,true,true,true,true,true,true,true,true,true,true,true,true,true,true,false,false,false,false,false,false,false,false,false] rfl rfl (y06 HT_.out (by kernel_rfl)) (fun _ _ _ h=>h) (Or.inl ⟨by rfl,?_⟩) ?_ ?_;rotate_left
                        ·intro w'
                         go_simp
                         with_reducible rfl
                        rotate_left
                        ·simp only [Act.put,yq0,yq1,yq2,y0a,y0b]
                         rfl
                        refine y0d (i:=22) (N:=some 78) (v:=?_) (a':=?_) #[true,true,true,true,true,true,true,true,true,true,true,true,true,true,true,true,true,true,true,true,true,true,true,false,false,false,false,false,false,false,false] rfl rfl (y06 HT_.out (by kernel_rfl)) (fun _ _ _ h=>h) (Or.inl ⟨by rfl,?_⟩) ?_ ?_;rotate_left
                        ·intro w'
                         go_simp
                         with_reducible rfl
                        rotate_left
                        ·simp only [Act.put,yq0,yq1,yq2,y0a,y0b]
                         rfl
                        refine y0d (i:=23) (N:=some 79) (v:=?_) (a':=?_) #[true,true,true,true,true,true,true,true,true,true,true,true,true,true,true,true,true,true,true,true,true,true,true,true,false,false,false,false,false,false,false] rfl rfl (y06 HT_.out (by kernel_rfl)) (fun _ _ _ h=>h) (Or.inl ⟨by rfl,?_⟩) ?_ ?_;rotate_left
                        ·intro w'
                         go_simp
                         with_reducible rfl
                        rotate_left
                        ·simp only [Act.put,yq0,yq1,yq2,y0a,y0b]
                         rfl
                        refine y0d (i:=25) (N:=some 81) (v:=?_) (a':=?_) #[true,true,true,true,true,true,true,true,true,true,true,true,true,true,true,true,true,true,true,true,true,true,true,true,false,true,false,false,false,false,false] rfl rfl (y06 HT_.out (by kernel_rfl)) (fun _ _ _ h=>h) (Or.inl ⟨by rfl,?_⟩) ?_ ?_;rotate_left
                        ·intro w'
                         go_simp
                         with_reducible rfl
                        rotate_left
                        ·simp only [Act.put,yq0,yq1,yq2,y0a,y0b]
                         rfl
                        refine y0d (i:=26) (N:=some 82) (v:=?_) (a':=?_) #[true,true,true,true,true,true,true,true,true,true,true,true,true,true,true,true,true,true,true,true,true,true,true,true,false,true,true,false,false,false,false] rfl rfl (y06 HT_.out (by kernel_rfl)) (fun _ _ _ h=>h) (Or.inl ⟨by rfl,?_⟩) ?_ ?_;rotate_left
                        ·intro w'
                         go_simp
                         with_reducible rfl
                        rotate_left
                        ·simp only [Act.put,yq0,yq1,yq2,y0a,y0b]
                         rfl
                        refine y0d (i:=27) (N:=some 83) (v:=?_) (a':=?_) #[true,true,true,true,true,true,true,true,true,true,true,true,true,true,true,true,true,true,true,true,true,true,true,true,false,true,true,true,false,false,false] rfl rfl (y06 HT_.out (by kernel_rfl)) (fun _ _ _ h=>h) (Or.inl ⟨by rfl,?_⟩) ?_ ?_;rotate_left
                        ·intro w'
                         go_simp
                         with_reducible rfl
                        rotate_left
                        ·simp only [Act.put,yq0,yq1,yq2,y0a,y0b]
                         rfl
                        refine take_ (i:=24) (N:=some 80) (v:=?_) (a':=?_) #[true,true,true,true,true,true,true,true,true,true,true,true,true,true,true,true,true,true,true,true,true,true,true,true,true,true,true,true,false,false,false] rfl rfl (y0m HT_.out HW_.out (by kernel_rfl)) (fun _ _ _ h=>h) (Or.inl ⟨by rfl,?_⟩) hHeld ?_ ?_;rotate_left
                        ·rintro w' ⟨s0,s1,s2,s3,s4,s5⟩
                         go_simp
                         with_reducible rfl
                        rotate_left
                        ·simp only [Act.put,yq0,yq1,yq2,y0a,y0b]
                         rfl
                        refine take_ (i:=28) (N:=some 84) (v:=?_) (a':=?_) #[true,true,true,true,true,true,true,true,true,true,true,true,true,true,true,true,true,true,true,true,true,true,true,true,true,true,true,true,true,false,false] rfl rfl (y0m HT_.out HW_.out (by kernel_rfl)) (fun _ _ _ h=>h) (Or.inl ⟨by rfl,?_⟩) hHeld ?_ ?_;rotate_left
                        ·rintro w' ⟨s0,s1,s2,s3,s4,s5⟩
                         go_simp
                         with_reducible rfl
                        rotate_left
                        ·simp only [Act.put,yq0,yq1,yq2,y0a,y0b]
                         rfl
                        refine y0d (i:=29) (N:=some 85) (v:=?_) (a':=?_) #[true,true,true,true,true,true,true,true,true,true,true,true,true,true,true,true,true,true,true,true,true,true,true,true,true,true,true,true,true,true,false] rfl rfl (y06 HT_.out (by kernel_rfl)) (fun _ _ _ h=>h) (Or.inl ⟨by rfl,?_⟩) ?_ ?_;rotate_left
                        ·intro w'
                         go_simp
                         with_reducible rfl
                        rotate_left
                        ·simp only [Act.put,yq0,yq1,yq2,y0a,y0b]
                         rfl
                        refine y0d (i:=30) (N:=some 86) (v:=?_) (a':=?_) #[true,true,true,true,true,true,true,true,true,true,true,true,true,true,true,true,true,true,true,true,true,true,true,true,true,true,true,true,true,true,true] rfl rfl (y06 HT_.out (by kernel_rfl)) (fun _ _ _ h=>h) (Or.inl ⟨by rfl,?_⟩) ?_ ?_;rotate_left
                        ·intro w'
                         go_simp
                         with_reducible rfl
                        rotate_left
                        ·simp only [Act.put,yq0,yq1,yq2,y0a,y0b]
                         rfl
                        refine y6j (y2q HT_.out (by kernel_rfl)) ?_;have p267:0≤(x13_4:Int):=zDo (by with_reducible assumption);have q267:x13_4<(x9_4.length:Int):=zDo (by with_reducible assumption);obtain ⟨ad267,e267,hx267_0⟩:=Kd.at_int (Kd.R_reads' HO_9.out).2.2 x13_4 p267 q267;obtain rfl:ad265=ad267:=(by injection e267)
                        replace p267:=eq_true p267;replace q267:=eq_true q267;have p36:0≤(x12_3:Int):=zDo (by with_reducible assumption);have q36:(x12_3:Int)<((x9_4.length:Int):Int):=zDo (by with_reducible assumption);obtain ⟨go36,co36,eo36,gb36,gl36,cl36,HG36⟩:=Kd.R_form HO_9.out (by omega)
                        (cases eo36)
                        have GB36:=As0.mk gb36;have GG36:=As0.mk HG36;clear gb36 gl36 HG36
                        (simp only [y14] at hx265_0)
                        (simp only [y14] at hx266_0)
                        (simp only [y14] at hx267_0)
                        obtain ⟨hx36_0,hf36_0⟩:=Kd.R_celln 0 HO_9.out (x12_3:Int) p36 q36;replace p36:=eq_true p36;replace q36:=eq_true q36;obtain ⟨hy39_,hz39_⟩:=Kd.R_celln 0 HO_9.out (x12_3:Int) (zDo (by with_reducible assumption)) (zDo (by with_reducible assumption));have HP39:=Kd.R_putg HO_9.out (x12_3:Int) (rd x9_4 x13_4)
                        try go_wp2_with (((with_reducible refine y2w (t:=3) (p:=93) rfl ?_);refine y2i (t:=3) (p:=93) (v:=?vo_w40) (w1:=(w37.setCell ⟨go36,(x12_3:Int).toNat,none⟩ (.int .i64 (rd x9_4 x13_4)))) ?hg ?ho ?hn ?hr ?_;(case ho=>rfl);(case hg=>rfl);(case hn=>rfl);(case hr=>(go_simp;done));intro w40 hw;have hg:w37.grownBy w40 (some go36):=(by rw [hw];exact HP39.2);have hp_:Kd.R (Kd.int .i64) 3 w40 w.heap.size (fun k_=>some k_≠(u8:Value).ownBlock) (.slice (some ⟨go36,0,none⟩) x9_4.length co38) y268:=(by rw [hw,Ny268.out];exact HP39.1);clear HP39;have n0_:=As0.mk (Kd.R_after (v:=(.slice (some ⟨go36,0,none⟩) x9_4.length co38)) (v1:=(.slice (some ⟨go36,0,none⟩) x9_4.length co38)) (ok:=(fun _=>True)) (by (with_reducible repeat (first|apply Kd.R_alloc|apply Kd.R_drewN|apply Kd.R_drew));exact Kd.R_mono HO_8.out (fun _ hk=>⟨trivial,hk⟩)) hg (.inl rfl));have n1_:=As0.mk (hp_);have n2_:=As0.mk ((by rw [hw];exact y0e (HB.out) GB36.out:Below w.heap.size w w40));clear HO_8;clear HO_9;clear HB;have HO_8:=n0_;have HO_9:=n1_;have HB:=n2_;clear n0_ n1_ n2_;clear hg hw hp_))
                        go_roundg k4
                        case measure=>have:=HK1.out;have:=HK2.out;have:=HK3.out;have:=HK4.out;omega
                        case rel=>exact ⟨(y268),(true),(wrap64 (x13_4+1)),(by rfl),(by rfl),H',⟨by have:=HK1.out;have:=HK2.out;have:=HK3.out;have:=HK4.out;omega⟩,⟨by (with_reducible repeat (first|apply Kd.R_alloc|apply Kd.R_drewN|apply Kd.R_drew));exact Kd.R_mono HO_8.out (fun _ hk=>hk.2)⟩,⟨by (with_reducible repeat (first|apply Kd.R_alloc|apply Kd.R_drewN|apply Kd.R_drew));exact HO_9.out⟩,⟨by repeat (with_reducible exact HB.out)⟩⟩
                       ·rw [if_neg c35] at H
                        have c35b0:decide ((rd x9_4 x13_4)<(rd x9_4 x12_3))=false:=zDf c35;clear c35;have H':=As0.mk H;clear H
                        try go_wp2
                        have n0_:=As0.mk (Kd.R_drew HO_8.out);have n1_:=As0.mk (Kd.R_drew HO_9.out);have n2_:=As0.mk (y01 HB.out);clear HO_8;clear HO_9;clear HB;have HO_8:=n0_;have HO_9:=n1_;have HB:=n2_;clear n0_ n1_ n2_;have p257:0≤(x12_3:Int):=zDo (by with_reducible assumption);have q257:x12_3<(l0.length:Int):=zDo (by with_reducible assumption);obtain ⟨ad257,e257,hx257_0⟩:=Kd.at_int HR0.out x12_3 p257 q257;have hw257_0:=hx257_0;cases e257
                        replace hx257_0:=(HB.out.cell (World.block_lt_of_cell? w _ hx257_0)).trans hx257_0;replace p257:=eq_true p257;replace q257:=eq_true q257;have p258:0≤(x13_4:Int):=zDo (by with_reducible assumption);have q258:x13_4<(l0.length:Int):=zDo (by with_reducible assumption);obtain ⟨ad258,e258,hx258_0⟩:=Kd.at_int HR0.out x13_4 p258 q258;have hw258_0:=hx258_0;obtain rfl:ad257=ad258:=(by injection e258)
                        replace hx258_0:=(HB.out.cell (World.block_lt_of_cell? w _ hx258_0)).trans hx258_0;replace p258:=eq_true p258;replace q258:=eq_true q258;have p263:0≤(x12_3:Int):=zDo (by with_reducible assumption);have q263:x12_3<(l1.length:Int):=zDo (by with_reducible assumption);obtain ⟨ad263,e263,hx263_0⟩:=Kd.at_int HR1.out x12_3 p263 q263;have hw263_0:=hx263_0;cases e263
                        replace hx263_0:=(HB.out.cell (World.block_lt_of_cell? w _ hx263_0)).trans hx263_0;replace p263:=eq_true p263;replace q263:=eq_true q263;have p264:0≤(x13_4:Int):=zDo (by with_reducible assumption);have q264:x13_4<(l1.length:Int):=zDo (by with_reducible assumption);obtain ⟨ad264,e264,hx264_0⟩:=Kd.at_int HR1.out x13_4 p264 q264;have hw264_0:=hx264_0;obtain rfl:ad263=ad264:=(by injection e264)
                        replace hx264_0:=(HB.out.cell (World.block_lt_of_cell? w _ hx264_0)).trans hx264_0;replace p264:=eq_true p264;replace q264:=eq_true q264;obtain ⟨Ao42,co42,eo42⟩:=Kd.R_slice HO_9.out
                        (subst eo42)
                        have p265:0≤(x12_3:Int):=zDo (by with_reducible assumption);have q265:x12_3<(x9_4.length:Int):=zDo (by with_reducible assumption);obtain ⟨ad265,e265,hx265_0⟩:=Kd.at_int (Kd.R_reads' HO_9.out).2.2 x12_3 p265 q265;cases e265
                        replace p265:=eq_true p265;replace q265:=eq_true q265;have p266:0≤(x13_4:Int):=zDo (by with_reducible assumption);have q266:x13_4<(x9_4.length:Int):=zDo (by with_reducible assumption);obtain ⟨ad266,e266,hx266_0⟩:=Kd.at_int (Kd.R_reads' HO_9.out).2.2 x13_4 p266 q266;obtain rfl:ad265=ad266:=(by injection e266)
                        replace p266:=eq_true p266;replace q266:=eq_true q266;refine y3n (n:=31) (S:=fun w'=>w'.cell? (ad257.add (x12_3).toNat)=some (.int .i64 (rd l0 x12_3))∧w'.cell? (ad257.add (x13_4).toNat)=some (.int .i64 (rd l0 x13_4))∧w'.cell? (ad263.add (x12_3).toNat)=some (.int .i64 (rd l1 x12_3))∧w'.cell? (ad263.add (x13_4).toNat)=some (.int .i64 (rd l1 x13_4))∧w'.cell? (ad265.add (x12_3).toNat)=some (.int .i64 (rd x9_4 x12_3))∧w'.cell? (ad265.add (x13_4).toNat)=some (.int .i64 (rd x9_4 x13_4))) (ds:=[]) #[false,false,false,false,false,false,false,false,false,false,false,false,false,false,false,false,false,false,false,false,false,false,false,false,false,false,false,false,false,false,false] (by kernel_rfl) rfl rfl ⟨((HB.out.cell (World.block_lt_of_cell? w _ hw257_0)).trans hw257_0),((HB.out.cell (World.block_lt_of_cell? w _ hw258_0)).trans hw258_0),((HB.out.cell (World.block_lt_of_cell? w _ hw263_0)).trans hw263_0),((HB.out.cell (World.block_lt_of_cell? w _ hw264_0)).trans hw264_0),hx265_0,hx266_0⟩ (fun hHeld=>?_);refine y1o r6_Meet.tab19 r6_Meet.bits19 (fun HT_ HW_=>?_);generalize wr.drew=w41 at HO_8 HO_9 HB hx257_0 hx258_0 hx263_0 hx264_0 hx265_0 hx266_0 hHeld ⊢;refine y0d (i:=0) (N:=some 56) (v:=?_) (a':=?_) #[true,false,false,false,false,false,false,false,false,false,false,false,false,false,false,false,false,false,false,false,false,false,false,false,false,false,false,false,false,false,false] rfl rfl (y06 HT_.out (by kernel_rfl)) (fun _ _ _ h=>h) (Or.inl ⟨by rfl,?_⟩) ?_ ?_;rotate_left
                        ·intro w'
                         go_simp
                         with_reducible rfl
                        rotate_left
                        ·simp only [Act.put,yq0,yq1,yq2,y0a,y0b]
                         rfl
                        refine y0d (i:=1) (N:=some 57) (v:=?_) (a':=?_) #[true,true,false,false,false,false,false,false,false,false,false,false,false,false,false,false,false,false,false,false,false,false,false,false,false,false,false,false,false,false,false] rfl rfl (y06 HT_.out (by kernel_rfl)) (fun _ _ _ h=>h) (Or.inl ⟨by rfl,?_⟩) ?_ ?_;rotate_left
                        ·intro w'
                         go_simp
                         with_reducible rfl
                        rotate_left
                        ·simp only [Act.put,yq0,yq1,yq2,y0a,y0b]
                         rfl
                        refine y0d (i:=2) (N:=some 58) (v:=?_) (a':=?_) #[true,true,true,false,false,false,false,false,false,false,false,false,false,false,false,false,false,false,false,false,false,false,false,false,false,false,false,false,false,false,false] rfl rfl (y06 HT_.out (by kernel_rfl)) (fun _ _ _ h=>h) (Or.inl ⟨by rfl,?_⟩) ?_ ?_;rotate_left
                        ·intro w'
                         go_simp
                         with_reducible rfl
                        rotate_left
                        ·simp only [Act.put,yq0,yq1,yq2,y0a,y0b]
                         rfl
                        refine y0d (i:=4) (N:=some 60) (v:=?_) (a':=?_) #[true,true,true,false,true,false,false,false,false,false,false,false,false,false,false,false,false,false,false,false,false,false,false,false,false,false,false,false,false,false,false] rfl rfl (y06 HT_.out (by kernel_rfl)) (fun _ _ _ h=>h) (Or.inl ⟨by rfl,?_⟩) ?_ ?_;rotate_left
                        ·intro w'
                         go_simp
                         with_reducible rfl
                        rotate_left
                        ·simp only [Act.put,yq0,yq1,yq2,y0a,y0b]
                         rfl
                        refine y0d (i:=5) (N:=some 61) (v:=?_) (a':=?_) #[true,true,true,false,true,true,false,false,false,false,false,false,false,false,false,false,false,false,false,false,false,false,false,false,false,false,false,false,false,false,false] rfl rfl (y06 HT_.out (by kernel_rfl)) (fun _ _ _ h=>h) (Or.inl ⟨by rfl,?_⟩) ?_ ?_;rotate_left
                        ·intro w'
                         go_simp
                         with_reducible rfl
                        rotate_left
                        ·simp only [Act.put,yq0,yq1,yq2,y0a,y0b]
                         rfl
                        refine y0d (i:=6) (N:=some 62) (v:=?_) (a':=?_) #[true,true,true,false,true,true,true,false,false,false,false,false,false,false,false,false,false,false,false,false,false,false,false,false,false,false,false,false,false,false,false] rfl rfl (y06 HT_.out (by kernel_rfl)) (fun _ _ _ h=>h) (Or.inl ⟨by rfl,?_⟩) ?_ ?_;rotate_left
                        ·intro w'
                         go_simp
                         with_reducible rfl
                        rotate_left
                        ·simp only [Act.put,yq0,yq1,yq2,y0a,y0b]
                         rfl
                        refine take_ (i:=3) (N:=some 59) (v:=?_) (a':=?_) #[true,true,true,true,true,true,true,false,false,false,false,false,false,false,false,false,false,false,false,false,false,false,false,false,false,false,false,false,false,false,false] rfl rfl (y0m HT_.out HW_.out (by kernel_rfl)) (fun _ _ _ h=>h) (Or.inl ⟨by rfl,?_⟩) hHeld ?_ ?_;rotate_left
                        ·rintro w' ⟨s0,s1,s2,s3,s4,s5⟩
                         go_simp
                         with_reducible rfl
                        rotate_left
                        ·simp only [Act.put,yq0,yq1,yq2,y0a,y0b]
                         rfl
                        refine take_ (i:=7) (N:=some 63) (v:=?_) (a':=?_) #[true,true,true,true,true,true,true,true,false,false,false,false,false,false,false,false,false,false,false,false,false,false,false,false,false,false,false,false,false,false,false] rfl rfl (y0m HT_.out HW_.out (by kernel_rfl)) (fun _ _ _ h=>h) (Or.inl ⟨by rfl,?_⟩) hHeld ?_ ?_;rotate_left
                        ·rintro w' ⟨s0,s1,s2,s3,s4,s5⟩
                         go_simp
                         with_reducible rfl
                        rotate_left
                        ·simp only [Act.put,yq0,yq1,yq2,y0a,y0b]
                         rfl
                        refine y0d (i:=8) (N:=some 64) (v:=?_) (a':=?_) #[true,true,true,true,true,true,true,true,true,false,false,false,false,false,false,false,false,false,false,false,false,false,false,false,false,false,false,false,false,false,false] rfl rfl (y06 HT_.out (by kernel_rfl)) (fun _ _ _ h=>h) (Or.inl ⟨by rfl,?_⟩) ?_ ?_;rotate_left
                        ·intro w'
                         go_simp
                         with_reducible rfl
                        rotate_left
                        ·simp only [Act.put,yq0,yq1,yq2,y0a,y0b]
                         rfl
                        refine y0d (i:=9) (N:=some 65) (v:=?_) (a':=?_) #[true,true,true,true,true,true,true,true,true,true,false,false,false,false,false,false,false,false,false,false,false,false,false,false,false,false,false,false,false,false,false] rfl rfl (y06 HT_.out (by kernel_rfl)) (fun _ _ _ h=>h) (Or.inl ⟨by rfl,?_⟩) ?_ ?_;rotate_left
                        ·intro w'
                         go_simp
                         with_reducible rfl
                        rotate_left
                        ·simp only [Act.put,yq0,yq1,yq2,y0a,y0b]
                         rfl
                        refine y0d (i:=10) (N:=some 66) (v:=?_) (a':=?_) #[true,true,true,true,true,true,true,true,true,true,true,false,false,false,false,false,false,false,false,false,false,false,false,false,false,false,false,false,false,false,false] rfl rfl (y06 HT_.out (by kernel_rfl)) (fun _ _ _ h=>h) (Or.inl ⟨by rfl,?_⟩) ?_ ?_;rotate_left
                        ·intro w'
                         go_simp
                         with_reducible rfl
                        rotate_left
                        ·simp only [Act.put,yq0,yq1,yq2,y0a,y0b]
                         rfl
                        refine y0d (i:=11) (N:=some 67) (v:=?_) (a':=?_) #[true,true,true,true,true,true,true,true,true,true,true,true,false,false,false,false,false,false,false,false,false,false,false,false,false,false,false,false,false,false,false] rfl rfl (y06 HT_.out (by kernel_rfl)) (fun _ _ _ h=>h) (Or.inl ⟨by rfl,?_⟩) ?_ ?_;rotate_left
                        ·intro w'
                         go_simp
                         with_reducible rfl
                        rotate_left
                        ·simp only [Act.put,yq0,yq1,yq2,y0a,y0b]
                         rfl
                        refine y0d (i:=12) (N:=some 68) (v:=?_) (a':=?_) #[true,true,true,true,true,true,true,true,true,true,true,true,true,false,false,false,false,false,false,false,false,false,false,false,false,false,false,false,false,false,false] rfl rfl (y06 HT_.out (by kernel_rfl)) (fun _ _ _ h=>h) (Or.inl ⟨by rfl,?_⟩) ?_ ?_;rotate_left
                        ·intro w'
                         go_simp
                         with_reducible rfl
                        rotate_left
                        ·simp only [Act.put,yq0,yq1,yq2,y0a,y0b]
                         rfl
                        refine y0d (i:=14) (N:=some 70) (v:=?_) (a':=?_) #[true,true,true,true,true,true,true,true,true,true,true,true,true,false,true,false,false,false,false,false,false,false,false,false,false,false,false,false,false,false,false] rfl rfl (y06 HT_.out (by kernel_rfl)) (fun _ _ _ h=>h) (Or.inl ⟨by rfl,?_⟩) ?_ ?_;rotate_left
                        ·intro w'
                         go_simp
                         with_reducible rfl
                        rotate_left
                        ·simp only [Act.put,yq0,yq1,yq2,y0a,y0b]
                         rfl
                        refine y0d (i:=15) (N:=some 71) (v:=?_) (a':=?_) #[true,true,true,true,true,true,true,true,true,true,true,true,true,false,true,true,false,false,false,false,false,false,false,false,false,false,false,false,false,false,false] rfl rfl (y06 HT_.out (by kernel_rfl)) (fun _ _ _ h=>h) (Or.inl ⟨by rfl,?_⟩) ?_ ?_;rotate_left
                        ·intro w'
                         go_simp
                         with_reducible rfl
                        rotate_left
                        ·simp only [Act.put,yq0,yq1,yq2,y0a,y0b]
                         rfl
                        refine y0d (i:=16) (N:=some 72) (v:=?_) (a':=?_) #[true,true,true,true,true,true,true,true,true,true,true,true,true,false,true,true,true,false,false,false,false,false,false,false,false,false,false,false,false,false,false] rfl rfl (y06 HT_.out (by kernel_rfl)) (fun _ _ _ h=>h) (Or.inl ⟨by rfl,?_⟩) ?_ ?_;rotate_left
                        ·intro w'
                         go_simp
                         with_reducible rfl
                        rotate_left
                        ·simp only [Act.put,yq0,yq1,yq2,y0a,y0b]
                         rfl
                        refine take_ (i:=13) (N:=some 69) (v:=?_) (a':=?_) #[true,true,true,true,true,true,true,true,true,true,true,true,true,true,true,true,true,false,false,false,false,false,false,false,false,false,false,false,false,false,false] rfl rfl (y0m HT_.out HW_.out (by kernel_rfl)) (fun _ _ _ h=>h) (Or.inl ⟨by rfl,?_⟩) hHeld ?_ ?_;rotate_left
                        ·rintro w' ⟨s0,s1,s2,s3,s4,s5⟩
                         go_simp
                         with_reducible rfl
                        rotate_left
                        ·simp only [Act.put,yq0,yq1,yq2,y0a,y0b]
                         rfl
                        refine take_ (i:=17) (N:=some 73) (v:=?_) (a':=?_) #[true,true,true,true,true,true,true,true,true,true,true,true,true,true,true,true,true,true,false,false,false,false,false,false,false,false,false,false,false,false,false] rfl rfl (y0m HT_.out HW_.out (by kernel_rfl)) (fun _ _ _ h=>h) (Or.inl ⟨by rfl,?_⟩) hHeld ?_ ?_;rotate_left
                        ·rintro w' ⟨s0,s1,s2,s3,s4,s5⟩
                         go_simp
                         with_reducible rfl
                        rotate_left
                        ·simp only [Act.put,yq0,yq1,yq2,y0a,y0b]
                         rfl
                        refine y0d (i:=18) (N:=some 74) (v:=?_) (a':=?_) #[true,true,true,true,true,true,true,true,true,true,true,true,true,true,true,true,true,true,true,false,false,false,false,false,false,false,false,false,false,false,false] rfl rfl (y06 HT_.out (by kernel_rfl)) (fun _ _ _ h=>h) (Or.inl ⟨by rfl,?_⟩) ?_ ?_;rotate_left
                        ·intro w'
                         go_simp
                         with_reducible rfl
                        rotate_left
                        ·simp only [Act.put,yq0,yq1,yq2,y0a,y0b]
                         rfl
                        refine y0d (i:=19) (N:=some 75) (v:=?_) (a':=?_) #[true,true,true,true,true,true,true,true,true,true,true,true,true,true,true,true,true,true,true,true,false,false,false,false,false,false,false,false,false,false,false] rfl rfl (y06 HT_.out (by kernel_rfl)) (fun _ _ _ h=>h) (Or.inl ⟨by rfl,?_⟩) ?_ ?_;rotate_left
                        ·intro w'
                         go_simp
                         with_reducible rfl
                        rotate_left
                        ·simp only [Act.put,yq0,yq1,yq2,y0a,y0b]
                         rfl
                        refine y0d (i:=20) (N:=some 76) (v:=?_) (a':=?_) #[true,true,true,true,true,true,true,true,true,true,true,true,true,true,true,true,true,true,true,true,true,false,false,false,false,false,false,false,false,false,false] rfl rfl (y06 HT_.out (by kernel_rfl)) (fun _ _ _ h=>h) (Or.inl ⟨by rfl,?_⟩) ?_ ?_;rotate_left
                        ·intro w'
                         go_simp
                         with_reducible rfl
                        rotate_left
                        ·simp only [Act.put,yq0,yq1,yq2,y0a,y0b]
                         rfl
                        refine y0d (i:=21) (N:=some 77) (v:=?_) (a':=?_) #[true,true,true,true,true,true,true,true,true,true,true,true,true,true,true,true,true,true,true,true,true,true,false,false,false,false,false,false,false,false,false] rfl rfl (y06 HT_.out (by kernel_rfl)) (fun _ _ _ h=>h) (Or.inl ⟨by rfl,?_⟩) ?_ ?_;rotate_left
                        ·intro w'
                         go_simp
                         with_reducible rfl
                        rotate_left
                        ·simp only [Act.put,yq0,yq1,yq2,y0a,y0b]
                         rfl
                        refine y0d (i:=22) (N:=some 78) (v:=?_) (a':=?_) #[true,true,true,true,true,true,true,true,true,true,true,true,true,true,true,true,true,true,true,true,true,true,true,false,false,false,false,false,false,false,false] rfl rfl (y06 HT_.out (by kernel_rfl)) (fun _ _ _ h=>h) (Or.inl ⟨by rfl,?_⟩) ?_ ?_;rotate_left
                        ·intro w'
                         go_simp
                         with_reducible rfl
                        rotate_left
                        ·simp only [Act.put,yq0,yq1,yq2,y0a,y0b]
                         rfl
                        refine y0d (i:=23) (N:=some 79) (v:=?_) (a':=?_) #[true,true,true,true,true,true,true,true,true,true,true,true,true,true,true,true,true,true,true,true,true,true,true,true,false,false,false,false,false,false,false] rfl rfl (y06 HT_.out (by kernel_rfl)) (fun _ _ _ h=>h) (Or.inl ⟨by rfl,?_⟩) ?_ ?_;rotate_left
                        ·intro w'
                         go_simp
                         with_reducible rfl
                        rotate_left
                        ·simp only [Act.put,yq0,yq1,yq2,y0a,y0b]
                         rfl
                        refine y0d (i:=25) (N:=some 81) (v:=?_) (a':=?_) #[true,true,true,true,true,true,true,true,true,true,true,true,true,true,true,true,true,true,true,true,true,true,true,true,false,true,false,false,false,false,false] rfl rfl (y06 HT_.out (by kernel_rfl)) (fun _ _ _ h=>h) (Or.inl ⟨by rfl,?_⟩) ?_ ?_;rotate_left
                        ·intro w'
                         go_simp
                         with_reducible rfl
                        rotate_left
                        ·simp only [Act.put,yq0,yq1,yq2,y0a,y0b]
                         rfl
                        refine y0d (i:=26) (N:=some 82) (v:=?_) (a':=?_) #[true,true,true,true,true,true,true,true,true,true,true,true,true,true,true,true,true,true,true,true,true,true,true,true,false,true,true,false,false,false,false] rfl rfl (y06 HT_.out (by kernel_rfl)) (fun _ _ _ h=>h) (Or.inl ⟨by rfl,?_⟩) ?_ ?_;rotate_left
                        ·intro w'
                         go_simp
                         with_reducible rfl
                        rotate_left
                        ·simp only [Act.put,yq0,yq1,yq2,y0a,y0b]
                         rfl
                        refine y0d (i:=27) (N:=some 83) (v:=?_) (a':=?_) #[true,true,true,true,true,true,true,true,true,true,true,true,true,true,true,true,true,true,true,true,true,true,true,true,false,true,true,true,false,false,false] rfl rfl (y06 HT_.out (by kernel_rfl)) (fun _ _ _ h=>h) (Or.inl ⟨by rfl,?_⟩) ?_ ?_;rotate_left
                        ·intro w'
                         go_simp
                         with_reducible rfl
                        rotate_left
                        ·simp only [Act.put,yq0,yq1,yq2,y0a,y0b]
                         rfl
                        refine take_ (i:=24) (N:=some 80) (v:=?_) (a':=?_) #[true,true,true,true,true,true,true,true,true,true,true,true,true,true,true,true,true,true,true,true,true,true,true,true,true,true,true,true,false,false,false] rfl rfl (y0m HT_.out HW_.out (by kernel_rfl)) (fun _ _ _ h=>h) (Or.inl ⟨by rfl,?_⟩) hHeld ?_ ?_;rotate_left
                        ·rintro w' ⟨s0,s1,s2,s3,s4,s5⟩
                         go_simp
                         with_reducible rfl
                        rotate_left
                        ·simp only [Act.put,yq0,yq1,yq2,y0a,y0b]
                         rfl
                        refine take_ (i:=28) (N:=some 84) (v:=?_) (a':=?_) #[true,true,true,true,true,true,true,true,true,true,true,true,true,true,true,true,true,true,true,true,true,true,true,true,true,true,true,true,true,false,false] rfl rfl (y0m HT_.out HW_.out (by kernel_rfl)) (fun _ _ _ h=>h) (Or.inl ⟨by rfl,?_⟩) hHeld ?_ ?_;rotate_left
                        ·rintro w' ⟨s0,s1,s2,s3,s4,s5⟩
                         go_simp
                         with_reducible rfl
                        rotate_left
                        ·simp only [Act.put,yq0,yq1,yq2,y0a,y0b]
                         rfl
                        refine y0d (i:=29) (N:=some 85) (v:=?_) (a':=?_) #[true,true,true,true,true,true,true,true,true,true,true,true,true,true,true,true,true,true,true,true,true,true,true,true,true,true,true,true,true,true,false] rfl rfl (y06 HT_.out (by kernel_rfl)) (fun _ _ _ h=>h) (Or.inl ⟨by rfl,?_⟩) ?_ ?_;rotate_left
                        ·intro w'
                         go_simp
                         with_reducible rfl
                        rotate_left
                        ·simp only [Act.put,yq0,yq1,yq2,y0a,y0b]
                         rfl
                        refine y0d (i:=30) (N:=some 86) (v:=?_) (a':=?_) #[true,true,true,true,true,true,true,true,true,true,true,true,true,true,true,true,true,true,true,true,true,true,true,true,true,true,true,true,true,true,true] rfl rfl (y06 HT_.out (by kernel_rfl)) (fun _ _ _ h=>h) (Or.inl ⟨by rfl,?_⟩) ?_ ?_;rotate_left
                        ·intro w'
                         go_simp
                         with_reducible rfl
                        rotate_left
                        ·simp only [Act.put,yq0,yq1,yq2,y0a,y0b]
                         rfl
                        refine y6j (y2q HT_.out (by kernel_rfl)) ?_
                        try go_wp2
                        go_roundg k4
                        case measure=>have:=HK1.out;have:=HK2.out;have:=HK3.out;have:=HK4.out;omega
                        case rel=>exact ⟨(x9_4),(x11_4),(wrap64 (x13_4+1)),(by rfl),(by rfl),H',⟨by have:=HK1.out;have:=HK2.out;have:=HK3.out;have:=HK4.out;omega⟩,⟨by (with_reducible repeat (first|apply Kd.R_alloc|apply Kd.R_drewN|apply Kd.R_drew));exact HO_8.out⟩,⟨by (with_reducible repeat (first|apply Kd.R_alloc|apply Kd.R_drewN|apply Kd.R_drew));exact HO_9.out⟩,⟨by repeat (with_reducible exact HB.out)⟩⟩
                      ·rw [if_neg c34] at H
                       exact absurd H (by simp)
                     ·rw [if_neg c33] at H
                      exact absurd H (by simp)
                    ·rw [if_neg c32] at H
                     have c32b0:((rd l1 x12_3) == (rd l1 x13_4))=false:=beq_eq_false_iff_ne.mpr c32;have c32b1:((rd l1 x12_3) != (rd l1 x13_4))=true:=bne_iff_ne.mpr c32;have H':=As0.mk H;clear H
                     try go_wp2
                     have n0_:=As0.mk (Kd.R_drew HO_8.out);have n1_:=As0.mk (Kd.R_drew HO_9.out);have n2_:=As0.mk (y01 HB.out);clear HO_8;clear HO_9;clear HB;have HO_8:=n0_;have HO_9:=n1_;have HB:=n2_;clear n0_ n1_ n2_;have p257:0≤(x12_3:Int):=zDo (by with_reducible assumption);have q257:x12_3<(l0.length:Int):=zDo (by with_reducible assumption);obtain ⟨ad257,e257,hx257_0⟩:=Kd.at_int HR0.out x12_3 p257 q257;have hw257_0:=hx257_0;cases e257
                     replace hx257_0:=(HB.out.cell (World.block_lt_of_cell? w _ hx257_0)).trans hx257_0;replace p257:=eq_true p257;replace q257:=eq_true q257;have p258:0≤(x13_4:Int):=zDo (by with_reducible assumption);have q258:x13_4<(l0.length:Int):=zDo (by with_reducible assumption);obtain ⟨ad258,e258,hx258_0⟩:=Kd.at_int HR0.out x13_4 p258 q258;have hw258_0:=hx258_0;obtain rfl:ad257=ad258:=(by injection e258)
                     replace hx258_0:=(HB.out.cell (World.block_lt_of_cell? w _ hx258_0)).trans hx258_0;replace p258:=eq_true p258;replace q258:=eq_true q258;have p263:0≤(x12_3:Int):=zDo (by with_reducible assumption);have q263:x12_3<(l1.length:Int):=zDo (by with_reducible assumption);obtain ⟨ad263,e263,hx263_0⟩:=Kd.at_int HR1.out x12_3 p263 q263;have hw263_0:=hx263_0;cases e263
                     replace hx263_0:=(HB.out.cell (World.block_lt_of_cell? w _ hx263_0)).trans hx263_0;replace p263:=eq_true p263;replace q263:=eq_true q263;have p264:0≤(x13_4:Int):=zDo (by with_reducible assumption);have q264:x13_4<(l1.length:Int):=zDo (by with_reducible assumption);obtain ⟨ad264,e264,hx264_0⟩:=Kd.at_int HR1.out x13_4 p264 q264;have hw264_0:=hx264_0;obtain rfl:ad263=ad264:=(by injection e264)
                     replace hx264_0:=(HB.out.cell (World.block_lt_of_cell? w _ hx264_0)).trans hx264_0;replace p264:=eq_true p264;replace q264:=eq_true q264;refine y3n (n:=31) (S:=fun w'=>w'.cell? (ad257.add (x12_3).toNat)=some (.int .i64 (rd l0 x12_3))∧w'.cell? (ad257.add (x13_4).toNat)=some (.int .i64 (rd l0 x13_4))∧w'.cell? (ad263.add (x12_3).toNat)=some (.int .i64 (rd l1 x12_3))∧w'.cell? (ad263.add (x13_4).toNat)=some (.int .i64 (rd l1 x13_4))) (ds:=[]) #[false,false,false,false,false,false,false,false,false,false,false,false,false,false,false,false,false,false,false,false,false,false,false,false,false,false,false,false,false,false,false] (by kernel_rfl) rfl rfl ⟨((HB.out.cell (World.block_lt_of_cell? w _ hw257_0)).trans hw257_0),((HB.out.cell (World.block_lt_of_cell? w _ hw258_0)).trans hw258_0),((HB.out.cell (World.block_lt_of_cell? w _ hw263_0)).trans hw263_0),((HB.out.cell (World.block_lt_of_cell? w _ hw264_0)).trans hw264_0)⟩ (fun hHeld=>?_);refine y1o r6_Meet.tab19 r6_Meet.bits19 (fun HT_ HW_=>?_);generalize wr.drew=w43 at HO_8 HO_9 HB hx257_0 hx258_0 hx263_0 hx264_0 hHeld ⊢;refine y0d (i:=0) (N:=some 56) (v:=?_) (a':=?_) #[true,false,false,false,false,false,false,false,false,false,false,false,false,false,false,false,false,false,false,false,false,false,false,false,false,false,false,false,false,false,false] rfl rfl (y06 HT_.out (by kernel_rfl)) (fun _ _ _ h=>h) (Or.inl ⟨by rfl,?_⟩) ?_ ?_;rotate_left
                     ·intro w'
                      go_simp
                      with_reducible rfl
                     rotate_left
                     ·simp only [Act.put,yq0,yq1,yq2,y0a,y0b]
                      rfl
                     refine y0d (i:=1) (N:=some 57) (v:=?_) (a':=?_) #[true,true,false,false,false,false,false,false,false,false,false,false,false,false,false,false,false,false,false,false,false,false,false,false,false,false,false,false,false,false,false] rfl rfl (y06 HT_.out (by kernel_rfl)) (fun _ _ _ h=>h) (Or.inl ⟨by rfl,?_⟩) ?_ ?_;rotate_left
                     ·intro w'
                      go_simp
                      with_reducible rfl
                     rotate_left
                     ·simp only [Act.put,yq0,yq1,yq2,y0a,y0b]
                      rfl
                     refine y0d (i:=2) (N:=some 58) (v:=?_) (a':=?_) #[true,true,true,false,false,false,false,false,false,false,false,false,false,false,false,false,false,false,false,false,false,false,false,false,false,false,false,false,false,false,false] rfl rfl (y06 HT_.out (by kernel_rfl)) (fun _ _ _ h=>h) (Or.inl ⟨by rfl,?_⟩) ?_ ?_;rotate_left
                     ·intro w'
                      go_simp
                      with_reducible rfl
                     rotate_left
                     ·simp only [Act.put,yq0,yq1,yq2,y0a,y0b]
                      rfl
                     refine y0d (i:=4) (N:=some 60) (v:=?_) (a':=?_) #[true,true,true,false,true,false,false,false,false,false,false,false,false,false,false,false,false,false,false,false,false,false,false,false,false,false,false,false,false,false,false] rfl rfl (y06 HT_.out (by kernel_rfl)) (fun _ _ _ h=>h) (Or.inl ⟨by rfl,?_⟩) ?_ ?_;rotate_left
                     ·intro w'
                      go_simp
                      with_reducible rfl
                     rotate_left
                     ·simp only [Act.put,yq0,yq1,yq2,y0a,y0b]
                      rfl
                     refine y0d (i:=5) (N:=some 61) (v:=?_) (a':=?_) #[true,true,true,false,true,true,false,false,false,false,false,false,false,false,false,false,false,false,false,false,false,false,false,false,false,false,false,false,false,false,false] rfl rfl (y06 HT_.out (by kernel_rfl)) (fun _ _ _ h=>h) (Or.inl ⟨by rfl,?_⟩) ?_ ?_;rotate_left
                     ·intro w'
                      go_simp
                      with_reducible rfl
                     rotate_left
                     ·simp only [Act.put,yq0,yq1,yq2,y0a,y0b]
                      rfl
                     refine y0d (i:=6) (N:=some 62) (v:=?_) (a':=?_) #[true,true,true,false,true,true,true,false,false,false,false,false,false,false,false,false,false,false,false,false,false,false,false,false,false,false,false,false,false,false,false] rfl rfl (y06 HT_.out (by kernel_rfl)) (fun _ _ _ h=>h) (Or.inl ⟨by rfl,?_⟩) ?_ ?_;rotate_left
                     ·intro w'
                      go_simp
                      with_reducible rfl
                     rotate_left
                     ·simp only [Act.put,yq0,yq1,yq2,y0a,y0b]
                      rfl
                     refine take_ (i:=3) (N:=some 59) (v:=?_) (a':=?_) #[true,true,true,true,true,true,true,false,false,false,false,false,false,false,false,false,false,false,false,false,false,false,false,false,false,false,false,false,false,false,false] rfl rfl (y0m HT_.out HW_.out (by kernel_rfl)) (fun _ _ _ h=>h) (Or.inl ⟨by rfl,?_⟩) hHeld ?_ ?_;rotate_left
                     ·rintro w' ⟨s0,s1,s2,s3⟩
                      go_simp
                      with_reducible rfl
                     rotate_left
                     ·simp only [Act.put,yq0,yq1,yq2,y0a,y0b]
                      rfl
                     refine take_ (i:=7) (N:=some 63) (v:=?_) (a':=?_) #[true,true,true,true,true,true,true,true,false,false,false,false,false,false,false,false,false,false,false,false,false,false,false,false,false,false,false,false,false,false,false] rfl rfl (y0m HT_.out HW_.out (by kernel_rfl)) (fun _ _ _ h=>h) (Or.inl ⟨by rfl,?_⟩) hHeld ?_ ?_;rotate_left
                     ·rintro w' ⟨s0,s1,s2,s3⟩
                      go_simp
                      with_reducible rfl
                     rotate_left
                     ·simp only [Act.put,yq0,yq1,yq2,y0a,y0b]
                      rfl
                     refine y0d (i:=8) (N:=some 64) (v:=?_) (a':=?_) #[true,true,true,true,true,true,true,true,true,false,false,false,false,false,false,false,false,false,false,false,false,false,false,false,false,false,false,false,false,false,false] rfl rfl (y06 HT_.out (by kernel_rfl)) (fun _ _ _ h=>h) (Or.inl ⟨by rfl,?_⟩) ?_ ?_;rotate_left
                     ·intro w'
                      go_simp
                      with_reducible rfl
                     rotate_left
                     ·simp only [Act.put,yq0,yq1,yq2,y0a,y0b]
                      rfl
                     refine y0d (i:=9) (N:=some 65) (v:=?_) (a':=?_) #[true,true,true,true,true,true,true,true,true,true,false,false,false,false,false,false,false,false,false,false,false,false,false,false,false,false,false,false,false,false,false] rfl rfl (y06 HT_.out (by kernel_rfl)) (fun _ _ _ h=>h) (Or.inl ⟨by rfl,?_⟩) ?_ ?_;rotate_left
                     ·intro w'
                      go_simp
                      with_reducible rfl
                     rotate_left
                     ·simp only [Act.put,yq0,yq1,yq2,y0a,y0b]
                      rfl
                     refine y0d (i:=10) (N:=some 66) (v:=?_) (a':=?_) #[true,true,true,true,true,true,true,true,true,true,true,false,false,false,false,false,false,false,false,false,false,false,false,false,false,false,false,false,false,false,false] rfl rfl (y06 HT_.out (by kernel_rfl)) (fun _ _ _ h=>h) (Or.inl ⟨by rfl,?_⟩) ?_ ?_;rotate_left
                     ·intro w'
                      go_simp
                      with_reducible rfl
                     rotate_left
                     ·simp only [Act.put,yq0,yq1,yq2,y0a,y0b]
                      rfl
                     refine y0d (i:=11) (N:=some 67) (v:=?_) (a':=?_) #[true,true,true,true,true,true,true,true,true,true,true,true,false,false,false,false,false,false,false,false,false,false,false,false,false,false,false,false,false,false,false] rfl rfl (y06 HT_.out (by kernel_rfl)) (fun _ _ _ h=>h) (Or.inl ⟨by rfl,?_⟩) ?_ ?_;rotate_left
                     ·intro w'
                      go_simp
                      with_reducible rfl
                     rotate_left
                     ·simp only [Act.put,yq0,yq1,yq2,y0a,y0b]
                      rfl
                     refine y0d (i:=12) (N:=some 68) (v:=?_) (a':=?_) #[true,true,true,true,true,true,true,true,true,true,true,true,true,false,false,false,false,false,false,false,false,false,false,false,false,false,false,false,false,false,false] rfl rfl (y06 HT_.out (by kernel_rfl)) (fun _ _ _ h=>h) (Or.inl ⟨by rfl,?_⟩) ?_ ?_;rotate_left
                     ·intro w'
                      go_simp
                      with_reducible rfl
                     rotate_left
                     ·simp only [Act.put,yq0,yq1,yq2,y0a,y0b]
                      rfl
                     refine y0d (i:=14) (N:=some 70) (v:=?_) (a':=?_) #[true,true,true,true,true,true,true,true,true,true,true,true,true,false,true,false,false,false,false,false,false,false,false,false,false,false,false,false,false,false,false] rfl rfl (y06 HT_.out (by kernel_rfl)) (fun _ _ _ h=>h) (Or.inl ⟨by rfl,?_⟩) ?_ ?_;rotate_left
                     ·intro w'
                      go_simp
                      with_reducible rfl
                     rotate_left
                     ·simp only [Act.put,yq0,yq1,yq2,y0a,y0b]
                      rfl
                     refine y0d (i:=15) (N:=some 71) (v:=?_) (a':=?_) #[true,true,true,true,true,true,true,true,true,true,true,true,true,false,true,true,false,false,false,false,false,false,false,false,false,false,false,false,false,false,false] rfl rfl (y06 HT_.out (by kernel_rfl)) (fun _ _ _ h=>h) (Or.inl ⟨by rfl,?_⟩) ?_ ?_;rotate_left
                     ·intro w'
                      go_simp
                      with_reducible rfl
                     rotate_left
                     ·simp only [Act.put,yq0,yq1,yq2,y0a,y0b]
                      rfl
                     refine y0d (i:=16) (N:=some 72) (v:=?_) (a':=?_) #[true,true,true,true,true,true,true,true,true,true,true,true,true,false,true,true,true,false,false,false,false,false,false,false,false,false,false,false,false,false,false] rfl rfl (y06 HT_.out (by kernel_rfl)) (fun _ _ _ h=>h) (Or.inl ⟨by rfl,?_⟩) ?_ ?_;rotate_left
                     ·intro w'
                      go_simp
                      with_reducible rfl
                     rotate_left
                     ·simp only [Act.put,yq0,yq1,yq2,y0a,y0b]
                      rfl
                     refine take_ (i:=13) (N:=some 69) (v:=?_) (a':=?_) #[true,true,true,true,true,true,true,true,true,true,true,true,true,true,true,true,true,false,false,false,false,false,false,false,false,false,false,false,false,false,false] rfl rfl (y0m HT_.out HW_.out (by kernel_rfl)) (fun _ _ _ h=>h) (Or.inl ⟨by rfl,?_⟩) hHeld ?_ ?_;rotate_left
                     ·rintro w' ⟨s0,s1,s2,s3⟩
                      go_simp
                      with_reducible rfl
                     rotate_left
                     ·simp only [Act.put,yq0,yq1,yq2,y0a,y0b]
                      rfl
                     refine take_ (i:=17) (N:=some 73) (v:=?_) (a':=?_) #[true,true,true,true,true,true,true,true,true,true,true,true,true,true,true,true,true,true,false,false,false,false,false,false,false,false,false,false,false,false,false] rfl rfl (y0m HT_.out HW_.out (by kernel_rfl)) (fun _ _ _ h=>h) (Or.inl ⟨by rfl,?_⟩) hHeld ?_ ?_;rotate_left
                     ·rintro w' ⟨s0,s1,s2,s3⟩
                      go_simp
                      with_reducible rfl
                     rotate_left
                     ·simp only [Act.put,yq0,yq1,yq2,y0a,y0b]
                      rfl
                     refine y0d (i:=18) (N:=some 74) (v:=?_) (a':=?_) #[true,true,true,true,true,true,true,true,true,true,true,true,true,true,true,true,true,true,true,false,false,false,false,false,false,false,false,false,false,false,false] rfl rfl (y06 HT_.out (by kernel_rfl)) (fun _ _ _ h=>h) (Or.inl ⟨by rfl,?_⟩) ?_ ?_;rotate_left
                     ·intro w'
                      go_simp
                      with_reducible rfl
                     rotate_left
                     ·simp only [Act.put,yq0,yq1,yq2,y0a,y0b]
                      rfl
                     refine y0d (i:=19) (N:=some 75) (v:=?_) (a':=?_) #[true,true,true,true,true,true,true,true,true,true,true,true,true,true,true,true,true,true,true,true,false,false,false,false,false,false,false,false,false,false,false] rfl rfl (y06 HT_.out (by kernel_rfl)) (fun _ _ _ h=>h) (Or.inl ⟨by rfl,?_⟩) ?_ ?_;rotate_left
                     ·intro w'
                      go_simp
                      with_reducible rfl
                     rotate_left
                     ·simp only [Act.put,yq0,yq1,yq2,y0a,y0b]
                      rfl
                     refine y0d (i:=20) (N:=some 76) (v:=?_) (a':=?_) #[true,true,true,true,true,true,true,true,true,true,true,true,true,true,true,true,true,true,true,true,true,false,false,false,false,false,false,false,false,false,false] rfl rfl (y06 HT_.out (by kernel_rfl)) (fun _ _ _ h=>h) (Or.inl ⟨by rfl,?_⟩) ?_ ?_;rotate_left
                     ·intro w'
                      go_simp
                      with_reducible rfl
                     rotate_left
                     ·simp only [Act.put,yq0,yq1,yq2,y0a,y0b]
                      rfl
                     refine y0d (i:=21) (N:=some 77) (v:=undef) (a':=?_) #[true,true,true,true,true,true,true,true,true,true,true,true,true,true,true,true,true,true,true,true,true,true,false,false,false,false,false,false,false,false,false] rfl rfl (y06 HT_.out (by kernel_rfl)) (fun _ _ _ h=>h) (Or.inr ⟨by rfl,rfl⟩) ?_ ?_;rotate_left
                     ·simp only [Act.put,yq0,yq1,yq2,y0a,y0b]
                      rfl
                     refine y0d (i:=22) (N:=some 78) (v:=undef) (a':=?_) #[true,true,true,true,true,true,true,true,true,true,true,true,true,true,true,true,true,true,true,true,true,true,true,false,false,false,false,false,false,false,false] rfl rfl (y06 HT_.out (by kernel_rfl)) (fun _ _ _ h=>h) (Or.inr ⟨by rfl,rfl⟩) ?_ ?_;rotate_left
                     ·simp only [Act.put,yq0,yq1,yq2,y0a,y0b]
                      rfl
                     refine y0d (i:=23) (N:=some 79) (v:=undef) (a':=?_) #[true,true,true,true,true,true,true,true,true,true,true,true,true,true,true,true,true,true,true,true,true,true,true,true,false,false,false,false,false,false,false] rfl rfl (y06 HT_.out (by kernel_rfl)) (fun _ _ _ h=>h) (Or.inr ⟨by rfl,rfl⟩) ?_ ?_;rotate_left
                     ·simp only [Act.put,yq0,yq1,yq2,y0a,y0b]
                      rfl
                     refine y0d (i:=24) (N:=some 80) (v:=undef) (a':=?_) #[true,true,true,true,true,true,true,true,true,true,true,true,true,true,true,true,true,true,true,true,true,true,true,true,true,false,false,false,false,false,false] rfl rfl (y06 HT_.out (by kernel_rfl)) (fun _ _ _ h=>h) (Or.inr ⟨by rfl,rfl⟩) ?_ ?_;rotate_left
                     ·simp only [Act.put,yq0,yq1,yq2,y0a,y0b]
                      rfl
                     refine y0d (i:=25) (N:=some 81) (v:=undef) (a':=?_) #[true,true,true,true,true,true,true,true,true,true,true,true,true,true,true,true,true,true,true,true,true,true,true,true,true,true,false,false,false,false,false] rfl rfl (y06 HT_.out (by kernel_rfl)) (fun _ _ _ h=>h) (Or.inr ⟨by rfl,rfl⟩) ?_ ?_;rotate_left
                     ·simp only [Act.put,yq0,yq1,yq2,y0a,y0b]
                      rfl
                     refine y0d (i:=26) (N:=some 82) (v:=undef) (a':=?_) #[true,true,true,true,true,true,true,true,true,true,true,true,true,true,true,true,true,true,true,true,true,true,true,true,true,true,true,false,false,false,false] rfl rfl (y06 HT_.out (by kernel_rfl)) (fun _ _ _ h=>h) (Or.inr ⟨by rfl,rfl⟩) ?_ ?_;rotate_left
                     ·simp only [Act.put,yq0,yq1,yq2,y0a,y0b]
                      rfl
                     refine y0d (i:=27) (N:=some 83) (v:=undef) (a':=?_) #[true,true,true,true,true,true,true,true,true,true,true,true,true,true,true,true,true,true,true,true,true,true,true,true,true,true,true,true,false,false,false] rfl rfl (y06 HT_.out (by kernel_rfl)) (fun _ _ _ h=>h) (Or.inr ⟨by rfl,rfl⟩) ?_ ?_;rotate_left
                     ·simp only [Act.put,yq0,yq1,yq2,y0a,y0b]
                      rfl
                     refine y0d (i:=28) (N:=some 84) (v:=undef) (a':=?_) #[true,true,true,true,true,true,true,true,true,true,true,true,true,true,true,true,true,true,true,true,true,true,true,true,true,true,true,true,true,false,false] rfl rfl (y06 HT_.out (by kernel_rfl)) (fun _ _ _ h=>h) (Or.inr ⟨by rfl,rfl⟩) ?_ ?_;rotate_left
                     ·simp only [Act.put,yq0,yq1,yq2,y0a,y0b]
                      rfl
                     refine y0d (i:=29) (N:=some 85) (v:=undef) (a':=?_) #[true,true,true,true,true,true,true,true,true,true,true,true,true,true,true,true,true,true,true,true,true,true,true,true,true,true,true,true,true,true,false] rfl rfl (y06 HT_.out (by kernel_rfl)) (fun _ _ _ h=>h) (Or.inr ⟨by rfl,rfl⟩) ?_ ?_;rotate_left
                     ·simp only [Act.put,yq0,yq1,yq2,y0a,y0b]
                      rfl
                     refine y0d (i:=30) (N:=some 86) (v:=?_) (a':=?_) #[true,true,true,true,true,true,true,true,true,true,true,true,true,true,true,true,true,true,true,true,true,true,true,true,true,true,true,true,true,true,true] rfl rfl (y06 HT_.out (by kernel_rfl)) (fun _ _ _ h=>h) (Or.inl ⟨by rfl,?_⟩) ?_ ?_;rotate_left
                     ·intro w'
                      go_simp
                      with_reducible rfl
                     rotate_left
                     ·simp only [Act.put,yq0,yq1,yq2,y0a,y0b]
                      rfl
                     refine y6j (y2q HT_.out (by kernel_rfl)) ?_
                     try go_wp2
                     go_roundg k4
                     case measure=>have:=HK1.out;have:=HK2.out;have:=HK3.out;have:=HK4.out;omega
                     case rel=>exact ⟨(x9_4),(x11_4),(wrap64 (x13_4+1)),(by rfl),(by rfl),H',⟨by have:=HK1.out;have:=HK2.out;have:=HK3.out;have:=HK4.out;omega⟩,⟨by (with_reducible repeat (first|apply Kd.R_alloc|apply Kd.R_drewN|apply Kd.R_drew));exact HO_8.out⟩,⟨by (with_reducible repeat (first|apply Kd.R_alloc|apply Kd.R_drewN|apply Kd.R_drew));exact HO_9.out⟩,⟨by repeat (with_reducible exact HB.out)⟩⟩
                   ·rw [if_neg c31] at H
                    exact absurd H (by simp)
                  ·rw [if_neg c30] at H
                   exact absurd H (by simp)
                ·rw [if_neg c18] at H
                 exact absurd H (by simp)
               ·rw [if_neg c17] at H
                exact absurd H (by simp)
              ·rw [if_neg c16] at H
               exact absurd H (by simp)
             ·rw [if_neg c15] at H
              have c15b0:decide (x13_4<(l0.length:Int))=false:=zDf c15;clear c15;have H':=As0.mk H;clear H;go_wp2
              go_roundg k4
              case measure=>have:=HK1.out;have:=HK2.out;have:=HK3.out;have:=HK4.out;omega
              case rel=>exact ⟨(x9_4),(x11_4),(wrap64 (x12_3+1)),(by rfl),(by rfl),H',⟨by have:=HK1.out;have:=HK2.out;have:=HK3.out;have:=HK4.out;omega⟩,⟨by (with_reducible repeat (first|apply Kd.R_alloc|apply Kd.R_drewN|apply Kd.R_drew));exact HO_8.out⟩,⟨by (with_reducible repeat (first|apply Kd.R_alloc|apply Kd.R_drewN|apply Kd.R_drew));exact HO_9.out⟩,⟨by repeat (with_reducible exact HB.out)⟩⟩
          ·rw [if_neg c14] at H
           have c14b0:decide (x12_3<(l0.length:Int))=false:=zDf c14;clear c14;have H':=As0.mk H;clear H;go_wp2
           go_roundg k3
           case measure=>have:=HK1.out;have:=HK2.out;have:=HK3.out;omega
           case rel=>exact ⟨(x9_3),(x11_3),(by rfl),H',⟨by have:=HK1.out;have:=HK2.out;have:=HK3.out;omega⟩,⟨by (with_reducible repeat (first|apply Kd.R_alloc|apply Kd.R_drewN|apply Kd.R_drew));exact HO_8.out⟩,⟨by (with_reducible repeat (first|apply Kd.R_alloc|apply Kd.R_drewN|apply Kd.R_drew));exact HO_9.out⟩,⟨by repeat (with_reducible exact HB.out)⟩⟩
       ·replace c13:=Bool.eq_false_iff.mpr c13
        subst c13;have H1:((r6_numbered.f k2 x8_1).bind fun t251=>((r6_numbered.f k2 x9_2).bind fun t254=>(some (t251,t254,0))))=some (r1,r2,r3):=by rw [if_neg (show ¬ (false=true) by decide)] at H;exact H
        clear H;have H:=H1;clear H1;replace H:=Option.bind_eq_some_iff.mp H;obtain ⟨t251,A440,H⟩:=H;replace H:((r6_numbered.f k2 x9_2).bind fun t254=>(some (t251,t254,0)))=some (r1,r2,r3):=H;have A44:=As0.mk A440;clear A440;replace H:=Option.bind_eq_some_iff.mp H;obtain ⟨t254,A450,H⟩:=H;replace H:(some (t251,t254,0))=some (r1,r2,r3):=H;have A45:=As0.mk A450;clear A450;simp only [Option.some.injEq,Prod.mk.injEq] at H;obtain ⟨rfl,rfl,rfl⟩:=H;obtain ⟨Ao46,co46,eo46⟩:=Kd.R_slice HO_8.out;subst eo46;go_wp2_with (first|((with_reducible refine y04 (f:=55) rfl ?_);refine y0h (some 95) rfl rfl Tra.func55 (by kernel_rfl) rfl #[.slice Ao46 x8_1.length co46] rfl (by (try simp only [List.map_toArray,List.map_cons,List.map_nil]);rfl) ?_;(with_reducible refine (r6_numbered.calls k2 _ _ x8_1 t251 _ ?side1 ?side2 A44.out).mono ?_);(case side1=>repeat (exact (Kd.R_reads' HO_8.out).2.2));(case side2=>exact (Kd.R_reads' HO_8.out).2.1);rintro e w47 ⟨v252,rfl,ho0,hb⟩;refine ⟨_,rfl,?_⟩;have n0_:=As0.mk (Kd.R_elder' (by (with_reducible repeat (first|apply Kd.R_alloc|apply Kd.R_drewN|apply Kd.R_drew));exact HO_8.out) (Kd.R_base ho0) hb);have n1_:=As0.mk (Kd.R_elder' (by (with_reducible repeat (first|apply Kd.R_alloc|apply Kd.R_drewN|apply Kd.R_drew));exact HO_9.out) (Kd.R_base ho0) hb);have n2_:=As0.mk (Kd.R_lower (Kd.R_new' (Kd.R_new' ho0 (Kd.R_lt (by (with_reducible repeat (first|apply Kd.R_alloc|apply Kd.R_drewN|apply Kd.R_drew));exact HO_8.out))) (Kd.R_lt (by (with_reducible repeat (first|apply Kd.R_alloc|apply Kd.R_drewN|apply Kd.R_drew));exact HO_9.out))) (y03 (by repeat (with_reducible exact HB.out))));have n3_:=As0.mk (y05 (by repeat (with_reducible exact HB.out)) hb);clear HO_8;clear HO_9;clear HB;have HO_8:=n0_;have HO_9:=n1_;have HO253:=n2_;have HB:=n3_;clear n0_ n1_ n2_ n3_;(try clear hb);(try clear hb2);(try clear hk);(try clear hi);(try clear ho0);obtain ⟨Ao48,co48,eo48⟩:=Kd.R_slice HO_9.out;subst eo48)|((with_reducible refine y04 (f:=55) rfl ?_);refine y0h (some 97) rfl rfl Tra.func55 (by kernel_rfl) rfl #[.slice Ao48 x9_2.length co48] rfl (by (try simp only [List.map_toArray,List.map_cons,List.map_nil]);rfl) ?_;(with_reducible refine (r6_numbered.calls k2 _ _ x9_2 t254 _ ?side1 ?side2 A45.out).mono ?_);(case side1=>repeat (exact (Kd.R_reads' HO_9.out).2.2));(case side2=>exact (Kd.R_reads' HO_9.out).2.1);rintro e w49 ⟨v255,rfl,ho0,hb⟩;refine ⟨_,rfl,?_⟩;have n0_:=As0.mk (Kd.R_elder' (by (with_reducible repeat (first|apply Kd.R_alloc|apply Kd.R_drewN|apply Kd.R_drew));exact HO_8.out) (Kd.R_base ho0) hb);have n1_:=As0.mk (Kd.R_elder' (by (with_reducible repeat (first|apply Kd.R_alloc|apply Kd.R_drewN|apply Kd.R_drew));exact HO_9.out) (Kd.R_base ho0) hb);have n2_:=As0.mk (Kd.R_elder' (by (with_reducible repeat (first|apply Kd.R_alloc|apply Kd.R_drewN|apply Kd.R_drew));exact HO253.out) (Kd.R_base ho0) hb);have n3_:=As0.mk (Kd.R_lower (Kd.R_new' (Kd.R_new' (Kd.R_new' ho0 (Kd.R_lt (by (with_reducible repeat (first|apply Kd.R_alloc|apply Kd.R_drewN|apply Kd.R_drew));exact HO_8.out))) (Kd.R_lt (by (with_reducible repeat (first|apply Kd.R_alloc|apply Kd.R_drewN|apply Kd.R_drew));exact HO_9.out))) (Kd.R_lt (by (with_reducible repeat (first|apply Kd.R_alloc|apply Kd.R_drewN|apply Kd.R_drew));exact HO253.out))) (y03 (by repeat (with_reducible exact HB.out))));have n4_:=As0.mk (y05 (by repeat (with_reducible exact HB.out)) hb);clear HO_8;clear HO_9;clear HO253;clear HB;have HO_8:=n0_;have HO_9:=n1_;have HO253:=n2_;have HO256:=n3_;have HB:=n4_;clear n0_ n1_ n2_ n3_ n4_;(try clear hb);(try clear hb2);(try clear hk);(try clear hi);(try clear ho0)))
        go_ret3
        exact ⟨_,_,by rfl,by (with_reducible repeat (first|apply Kd.R_alloc|apply Kd.R_drewN|apply Kd.R_drew));exact Kd.R_mono HO253.out (fun _ hk=>hk.2),by (with_reducible repeat (first|apply Kd.R_alloc|apply Kd.R_drewN|apply Kd.R_drew));exact Kd.R_mono HO256.out (fun _ hk=>hk.2),by repeat (with_reducible exact HB.out)⟩
 ·rw [if_neg c4] at H
  have c4b0:(t242 == 0)=false:=beq_eq_false_iff_ne.mpr c4;have c4b1:(t242 != 0)=true:=bne_iff_ne.mpr c4;simp only [Option.some.injEq,Prod.mk.injEq] at H;obtain ⟨rfl,rfl,rfl⟩:=H;go_enter Tra.func35,Tra.ntmps35
  go_wp2_with (((with_reducible refine y04 (f:=58) rfl ?_);refine y0h (some 16) rfl rfl Tra.func58 (by kernel_rfl) rfl #[.slice A0 l0.length c0,.slice A1 l1.length c1] rfl (by (try simp only [List.map_toArray,List.map_cons,List.map_nil]);rfl) ?_;(with_reducible refine (r6_two.calls k _ _ l0 _ _ l1 t242 _ ?side1 ?side2 ?side3 ?side4 A3.out).mono ?_);(case side1=>repeat (exact HR0.out));(case side2=>exact HC0.out);(case side3=>repeat (exact HR1.out));(case side4=>exact HC1.out);rintro e w' ⟨rfl,⟨nd,rfl⟩⟩;refine ⟨_,rfl,?_⟩))
  go_ret3
  exact ⟨_,_,by rfl,by exact Kd.R_nil _ _ _ _ _,by exact Kd.R_nil _ _ _ _ _,by repeat (with_reducible first|exact HB.out|apply y00)⟩
end Go.Proofs.Ytdhgeondbnpeoaa.P
namespace Go.Proofs.Ytdhgeondbnpeoaa.P
open Go.RowKit Go.Proofs.Yw.Wd Go.Proofs.Yw.La Go.Proofs.Yw.Mo
attribute [local go_sem] y1b y19 y1q y1p y12 y11 y1a y18
def w6_MobsMeets.j0:Nat->List Int->List Int->List Int->List Int->Bool->Option (Bool)
 |0,_,_,_,_,_=>none
 |k+1,x0,x1,x5,x6,x45=>if x45=true then (some false) else ((mobs_Meet.f k x5 x6).bind fun bt287=>((r6_Meet.f k x0 x1).bind fun bt294=>((w6_same.f k bt287.1 bt294.1).bind fun t301=>(if t301=true then ((w6_same.f k bt287.2.1 bt294.2.1).bind fun t302=>(if t302=true then (if bt287.2.2=bt294.2.2 then ((w6_same.f k x5 x0).bind fun t303=>(if t303=true then ((w6_same.f k x6 x1).bind fun t304=>(if t304=true then ((w6_alive.f).bind fun t305=>(some t305)) else (some false))) else (some false))) else (some false)) else (some false))) else (some false)))))
def w6_MobsMeets.f (k:Nat) (l0:List Int) (l1:List Int):Option (Bool):=(w6_few.f l0 l1).bind fun t269=>(if t269=true then ((some (([]:List Int):List Int)).bind fun y271=>(if y271.length+l0.length<17592186044416 then ((some (y271 ++ l0:List Int)).bind fun y274=>((some (([]:List Int):List Int)).bind fun y277=>(if y277.length+l1.length<17592186044416 then ((some (y277 ++ l1:List Int)).bind fun y280=>((mobs_Finer.f k y274 y280).bind fun bt283=>((r6_Finer.f k l0 l1).bind fun bt285=>(if (bt283.1 != bt285.1)=true then (w6_MobsMeets.j0 k l0 l1 y274 y280 true) else (w6_MobsMeets.j0 k l0 l1 y274 y280 (bt283.2 != bt285.2)))))) else (none)))) else (none))) else ((w6_alive.f).bind fun t270=>(some t270)))
theorem w6_MobsMeets.calls (k:Nat) (A0:Option Addr) (c0:Nat) (l0:List Int) (A1:Option Addr) (c1:Nat) (l1:List Int) (r:Bool) (w:World) (hr0:Kd.C (Kd.int .i64) w A0 l0.length l0) (hc0:l0.length≤c0) (hr1:Kd.C (Kd.int .i64) w A1 l1.length l1) (hc1:l1.length≤c1) (h:w6_MobsMeets.f k l0 l1=some r) :
  Calls Tra.prog 8 #[.slice A0 l0.length c0,.slice A1 l1.length c1] w fun e w'=>e=.returned (.bool r)∧Below w.heap.size w w':=by
 have HR0:=As0.mk hr0;have HC0:=As0.mk hc0;clear hr0 hc0;have HR1:=As0.mk hr1;have HC1:=As0.mk hc1;clear hr1 hc1;have HB:=As0.mk (Below.refl w.heap.size w);have H:((w6_few.f l0 l1).bind fun t269=>(if t269=true then ((some (([]:List Int):List Int)).bind fun y271=>(if y271.length+l0.length<17592186044416 then ((some (y271 ++ l0:List Int)).bind fun y274=>((some (([]:List Int):List Int)).bind fun y277=>(if y277.length+l1.length<17592186044416 then ((some (y277 ++ l1:List Int)).bind fun y280=>((mobs_Finer.f k y274 y280).bind fun bt283=>((r6_Finer.f k l0 l1).bind fun bt285=>(if (bt283.1 != bt285.1)=true then (w6_MobsMeets.j0 k l0 l1 y274 y280 true) else (w6_MobsMeets.j0 k l0 l1 y274 y280 (bt283.2 != bt285.2)))))) else (none)))) else (none))) else ((w6_alive.f).bind fun t270=>(some t270))))=some r:=h;clear h;replace H:=Option.bind_eq_some_iff.mp H;obtain ⟨t269,A30,H⟩:=H;replace H:(if t269=true then ((some (([]:List Int):List Int)).bind fun y271=>(if y271.length+l0.length<17592186044416 then ((some (y271 ++ l0:List Int)).bind fun y274=>((some (([]:List Int):List Int)).bind fun y277=>(if y277.length+l1.length<17592186044416 then ((some (y277 ++ l1:List Int)).bind fun y280=>((mobs_Finer.f k y274 y280).bind fun bt283=>((r6_Finer.f k l0 l1).bind fun bt285=>(if (bt283.1 != bt285.1)=true then (w6_MobsMeets.j0 k l0 l1 y274 y280 true) else (w6_MobsMeets.j0 k l0 l1 y274 y280 (bt283.2 != bt285.2)))))) else (none)))) else (none))) else ((w6_alive.f).bind fun t270=>(some t270)))=some r:=H;have A3:=As0.mk A30;clear A30
 by_cases c4:t269=true
 ·subst c4
  have H1:((some (([]:List Int):List Int)).bind fun y271=>(if y271.length+l0.length<17592186044416 then ((some (y271 ++ l0:List Int)).bind fun y274=>((some (([]:List Int):List Int)).bind fun y277=>(if y277.length+l1.length<17592186044416 then ((some (y277 ++ l1:List Int)).bind fun y280=>((mobs_Finer.f k y274 y280).bind fun bt283=>((r6_Finer.f k l0 l1).bind fun bt285=>(if (bt283.1 != bt285.1)=true then (w6_MobsMeets.j0 k l0 l1 y274 y280 true) else (w6_MobsMeets.j0 k l0 l1 y274 y280 (bt283.2 != bt285.2)))))) else (none)))) else (none)))=some r:=by rw [if_pos rfl] at H;exact H
  clear H;have H:=H1;clear H1;obtain ⟨y271,hy271⟩:∃ y_:List Int,y_=(([]:List Int)):=⟨_,rfl⟩
  replace H:(if y271.length+l0.length<17592186044416 then ((some (y271 ++ l0:List Int)).bind fun y274=>((some (([]:List Int):List Int)).bind fun y277=>(if y277.length+l1.length<17592186044416 then ((some (y277 ++ l1:List Int)).bind fun y280=>((mobs_Finer.f k y274 y280).bind fun bt283=>((r6_Finer.f k l0 l1).bind fun bt285=>(if (bt283.1 != bt285.1)=true then (w6_MobsMeets.j0 k l0 l1 y274 y280 true) else (w6_MobsMeets.j0 k l0 l1 y274 y280 (bt283.2 != bt285.2)))))) else (none)))) else (none))=some r:=by (have H2_:=(Option.bind_some _ _).symm.trans H;rw [hy271];with_reducible exact H2_)
  have Ny271:=As0.mk hy271;clear hy271
  by_cases c5:y271.length+l0.length<17592186044416
  ·rw [if_pos c5] at H
   have LMc5:=As0.mk c5;clear c5;obtain ⟨y274,hy274⟩:∃ y_:List Int,y_=(y271 ++ l0):=⟨_,rfl⟩
   replace H:((some (([]:List Int):List Int)).bind fun y277=>(if y277.length+l1.length<17592186044416 then ((some (y277 ++ l1:List Int)).bind fun y280=>((mobs_Finer.f k y274 y280).bind fun bt283=>((r6_Finer.f k l0 l1).bind fun bt285=>(if (bt283.1 != bt285.1)=true then (w6_MobsMeets.j0 k l0 l1 y274 y280 true) else (w6_MobsMeets.j0 k l0 l1 y274 y280 (bt283.2 != bt285.2)))))) else (none)))=some r:=by (have H2_:=(Option.bind_some _ _).symm.trans H;rw [hy274];with_reducible exact H2_)
   have Ny274:=As0.mk hy274;clear hy274;obtain ⟨y277,hy277⟩:∃ y_:List Int,y_=(([]:List Int)):=⟨_,rfl⟩
   replace H:(if y277.length+l1.length<17592186044416 then ((some (y277 ++ l1:List Int)).bind fun y280=>((mobs_Finer.f k y274 y280).bind fun bt283=>((r6_Finer.f k l0 l1).bind fun bt285=>(if (bt283.1 != bt285.1)=true then (w6_MobsMeets.j0 k l0 l1 y274 y280 true) else (w6_MobsMeets.j0 k l0 l1 y274 y280 (bt283.2 != bt285.2)))))) else (none))=some r:=by (have H2_:=(Option.bind_some _ _).symm.trans H;rw [hy277];with_reducible exact H2_)
   have Ny277:=As0.mk hy277;clear hy277
   by_cases c6:y277.length+l1.length<17592186044416
   ·rw [if_pos c6] at H
    have LMc6:=As0.mk c6;clear c6;obtain ⟨y280,hy280⟩:∃ y_:List Int,y_=(y277 ++ l1):=⟨_,rfl⟩
    replace H:((mobs_Finer.f k y274 y280).bind fun bt283=>((r6_Finer.f k l0 l1).bind fun bt285=>(if (bt283.1 != bt285.1)=true then (w6_MobsMeets.j0 k l0 l1 y274 y280 true) else (w6_MobsMeets.j0 k l0 l1 y274 y280 (bt283.2 != bt285.2)))))=some r:=by (have H2_:=(Option.bind_some _ _).symm.trans H;rw [hy280];with_reducible exact H2_)
    have Ny280:=As0.mk hy280;clear hy280;replace H:=Option.bind_eq_some_iff.mp H;obtain ⟨⟨t283,t284⟩,A70,H⟩:=H;replace H:((r6_Finer.f k l0 l1).bind fun bt285=>(if (t283 != bt285.1)=true then (w6_MobsMeets.j0 k l0 l1 y274 y280 true) else (w6_MobsMeets.j0 k l0 l1 y274 y280 (t284 != bt285.2))))=some r:=H;have A7:=As0.mk A70;clear A70;replace H:=Option.bind_eq_some_iff.mp H;obtain ⟨⟨t285,t286⟩,A80,H⟩:=H;replace H:(if (t283 != t285)=true then (w6_MobsMeets.j0 k l0 l1 y274 y280 true) else (w6_MobsMeets.j0 k l0 l1 y274 y280 (t284 != t286)))=some r:=H;have A8:=As0.mk A80;clear A80;have HC9:=As0.mk H;clear H;go_enter Tra.func8,Tra.ntmps8
    go_upto_region 6 with (first|((with_reducible refine y04 (f:=22) rfl ?_);refine y0h (some 17) rfl rfl Tra.func22 (by kernel_rfl) rfl #[.slice A0 l0.length c0,.slice A1 l1.length c1] rfl (by (try simp only [List.map_toArray,List.map_cons,List.map_nil]);rfl) ?_;(with_reducible refine (w6_few.calls _ _ l0 _ _ l1 true _ ?side1 ?side2 ?side3 ?side4 A3.out).mono ?_);(case side1=>repeat (exact HR0.out));(case side2=>exact HC0.out);(case side3=>repeat (exact HR1.out));(case side4=>exact HC1.out);rintro e w' ⟨rfl,⟨nd,rfl⟩⟩;refine ⟨_,rfl,?_⟩)|((with_reducible refine y0l (N:=20) rfl ?_);refine Kd.R_lit (Kd.int .i64) _ 3 ?hg (N:=20) ?hd (xs:=([]:List Int)) (inner:=[]) (ok:=fun _=>True) (okp:=fun _=>True) ?hr ?hp (fun _ hk=>hk) trivial (Below.refl _ _) (zLe _) (by simp) ?_;(case hd=>rfl);(case hg=>rfl);(case hr=>(go_simp;done));(case hp=>exact (Reps.none _ _));intro v272 w10 ho11 hb hg_ hnew_;clear hg_ hnew_;(rw [← Ny271.out] at ho11);have n0_:=As0.mk (Kd.R_lower ho11 (y03 (by repeat (with_reducible first|exact HB.out|apply y00))));have n1_:=As0.mk (y05 (by repeat (with_reducible first|exact HB.out|apply y00)) hb);clear HB;have HO273:=n0_;have HB:=n1_;clear n0_ n1_;clear hb ho11)|((with_reducible refine y0n (b:=.append) (xs:=#[.tmp 20,.tmp 21]) rfl ?_);at_builtin;refine Kd.R_append_rows (Kd.int .i64) (w0:=w) w.heap.size rfl (.tmp 20) (.tmp 21) 29 3 (.int .i64 0) 8 rfl Tra.underlying29 info3 rfl (by decide) (by omega) v272 y271 l0 _ _ _ (fun _=>True) (fun _=>False) rfl rfl ?aO ?aR (fun _ _ h=>h) (fun _ h=>h.elim) ?aF ?aB ?aS ?aL ?_;(case aR=>repeat (exact (Kd.C_below HR0.out HB.out)));(case aB=>exact (by repeat (with_reducible exact HB.out)));(case aF=>exact (fun _ _=>trivial));(case aO=>exact (by (with_reducible repeat (first|apply Kd.R_alloc|apply Kd.R_drewN|apply Kd.R_drew));exact HO273.out));(case aS=>exact (y03 (by repeat (with_reducible exact HB.out))));(case aL=>have:=LMc5.out;omega);intro v275 w12 ho hb hg hat;rw [← Ny274.out] at ho;have n0_:=As0.mk (hb);have n1_:=As0.mk (ho);clear HB;clear HO273;have HB:=n0_;have HO276:=n1_;clear n0_ n1_;clear ho hb hg hat)|((with_reducible refine y0l (N:=23) rfl ?_);refine Kd.R_lit (Kd.int .i64) _ 3 ?hg (N:=23) ?hd (xs:=([]:List Int)) (inner:=[]) (ok:=fun _=>True) (okp:=fun _=>True) ?hr ?hp (fun _ hk=>hk) trivial (Below.refl _ _) (zLe _) (by simp) ?_;(case hd=>rfl);(case hg=>rfl);(case hr=>(go_simp;done));(case hp=>exact (Reps.none _ _));intro v278 w13 ho14 hb hg_ hnew_;clear hg_ hnew_;(rw [← Ny277.out] at ho14);have n0_:=As0.mk (Kd.R_elder' (by (with_reducible repeat (first|apply Kd.R_alloc|apply Kd.R_drewN|apply Kd.R_drew));exact HO276.out) (Kd.R_base ho14) hb);have n1_:=As0.mk (Kd.R_lower (Kd.R_new' ho14 (Kd.R_lt (by (with_reducible repeat (first|apply Kd.R_alloc|apply Kd.R_drewN|apply Kd.R_drew));exact HO276.out))) (y03 (by repeat (with_reducible exact HB.out))));have n2_:=As0.mk (y05 (by repeat (with_reducible exact HB.out)) hb);clear HO276;clear HB;have HO276:=n0_;have HO279:=n1_;have HB:=n2_;clear n0_ n1_ n2_;clear hb ho14)|((with_reducible refine y0n (b:=.append) (xs:=#[.tmp 23,.tmp 24]) rfl ?_);at_builtin;refine Kd.R_append_rows (Kd.int .i64) (w0:=w) w.heap.size rfl (.tmp 23) (.tmp 24) 29 3 (.int .i64 0) 8 rfl Tra.underlying29 info3 rfl (by decide) (by omega) v278 y277 l1 _ _ _ (fun k_=>some k_≠(v275:Value).ownBlock) (fun _=>False) rfl rfl ?aO ?aR (fun _ _ h=>h) (fun _ h=>h.elim) ?aF ?aB ?aS ?aL ?_;(case aR=>repeat (exact (Kd.C_below HR1.out HB.out)));(case aB=>exact (by repeat (with_reducible exact HB.out)));(case aF=>exact (fun k_ hk=>Kd.fresh' (Kd.R_lt (by (with_reducible repeat (first|apply Kd.R_alloc|apply Kd.R_drewN|apply Kd.R_drew));exact HO276.out)) k_ hk));(case aO=>exact (by (with_reducible repeat (first|apply Kd.R_alloc|apply Kd.R_drewN|apply Kd.R_drew));exact Kd.R_mono HO279.out (fun _ hk=>hk.2)));(case aS=>exact (y03 (by repeat (with_reducible exact HB.out))));(case aL=>have:=LMc6.out;omega);intro v281 w15 ho hb hg hat;rw [← Ny280.out] at ho;have n0_:=As0.mk (Kd.R_after (ok:=(fun _=>True)) (by (with_reducible repeat (first|apply Kd.R_alloc|apply Kd.R_drewN|apply Kd.R_drew));exact HO276.out) hg hat);have n1_:=As0.mk (hb);have n2_:=As0.mk (ho);clear HO276;clear HB;clear HO279;have HO276:=n0_;have HB:=n1_;have HO282:=n2_;clear n0_ n1_ n2_;clear ho hb hg hat;obtain ⟨Ao16,co16,eo16⟩:=Kd.R_slice HO276.out;subst eo16;obtain ⟨Ao17,co17,eo17⟩:=Kd.R_slice HO282.out;subst eo17)|((with_reducible refine y04 (f:=32) rfl ?_);refine y0h (some 29) rfl rfl Tra.func32 (by kernel_rfl) rfl #[.slice Ao16 y274.length co16,.slice Ao17 y280.length co17] rfl (by (try simp only [List.map_toArray,List.map_cons,List.map_nil]);rfl) ?_;(with_reducible refine (mobs_Finer.calls k (fun k_=>some k_=(.slice Ao16 y274.length co16:Value).ownBlock) _ _ y274 (fun k_=>some k_=(.slice Ao17 y280.length co17:Value).ownBlock) _ _ y280 t283 t284 _ ?side1 ?side2 A7.out).mono ?_);(case side1=>exact Kd.R_V (Kd.R_tight rfl (HO276.out)));(case side2=>exact Kd.R_V (Kd.R_tight rfl (HO282.out)));rintro e w18 ⟨rfl,hb⟩;refine ⟨_,rfl,?_⟩;have n0_:=As0.mk (Kd.R_below (by (with_reducible repeat (first|apply Kd.R_alloc|apply Kd.R_drewN|apply Kd.R_drew));exact HO276.out) hb);have n1_:=As0.mk (Kd.R_below (by (with_reducible repeat (first|apply Kd.R_alloc|apply Kd.R_drewN|apply Kd.R_drew));exact HO282.out) hb);have n2_:=As0.mk (y05 (by repeat (with_reducible exact HB.out)) hb);clear HO276;clear HO282;clear HB;have HO276:=n0_;have HO282:=n1_;have HB:=n2_;clear n0_ n1_ n2_;(try clear hb);(try clear hb2);(try clear hk);(try clear hi))|((with_reducible refine y04 (f:=33) rfl ?_);refine y0h (some 35) rfl rfl Tra.func33 (by kernel_rfl) rfl #[.slice A0 l0.length c0,.slice A1 l1.length c1] rfl (by (try simp only [List.map_toArray,List.map_cons,List.map_nil]);rfl) ?_;(with_reducible refine (r6_Finer.calls k _ _ l0 _ _ l1 t285 t286 _ ?side1 ?side2 ?side3 ?side4 A8.out).mono ?_);(case side1=>repeat (exact (Kd.C_below HR0.out HB.out)));(case side2=>exact HC0.out);(case side3=>repeat (exact (Kd.C_below HR1.out HB.out)));(case side4=>exact HC1.out);rintro e w' ⟨rfl,⟨nd,rfl⟩⟩;refine ⟨_,rfl,?_⟩))
    (try simp only [Act.put,yq0,yq1,yq2])
    go_cut [45] (fun v45 wc=>∃ (kq:Nat) (x45_8:Bool),v45=.bool x45_8∧As0 (w6_MobsMeets.j0 kq l0 l1 y274 y280 x45_8=some r)∧As0 (kq≤k)∧As0 (Kd.R (Kd.int .i64) 3 wc w.heap.size (fun k_=>some k_≠((.slice Ao17 y280.length co17):Value).ownBlock) (.slice Ao16 y274.length co16) y274)∧As0 (Kd.R (Kd.int .i64) 3 wc w.heap.size (fun k_=>some k_≠((.slice Ao16 y274.length co16):Value).ownBlock) (.slice Ao17 y280.length co17) y280)∧As0 (Below w.heap.size w wc))
    case first =>
     have H:=HC9.out;clear HC9
     by_cases c19:(t283 != t285)=true
     ·rw [if_pos c19] at H
      have c19b0:(t283 != t285)=true:=c19
      (try (have c19b1:decide (t283=t285)=false:=by simpa using c19))
      (try (have c19b2:(t283 == t285)=false:=by simpa using c19))
      (try (have c19b3:¬ (t283=t285):=by simpa using c19))
      clear c19
      (skip)
      have H':=As0.mk H;clear H;go_wp2
      go_meet
      case rel=>exact ⟨_,(true),(by rfl),H',⟨by omega⟩,⟨by (with_reducible repeat (apply Kd.R_drewN));exact Kd.R_mono HO276.out (fun _ hk=>hk.2)⟩,⟨by (with_reducible repeat (apply Kd.R_drewN));exact HO282.out⟩,⟨by repeat (with_reducible first|exact HB.out|apply y00)⟩⟩
     ·rw [if_neg c19] at H
      have c19b0:(t283 != t285)=false:=by simpa using c19
      (try (have c19b1:decide (t283=t285)=true:=by simpa using c19))
      (try (have c19b2:(t283 == t285)=true:=by simpa using c19))
      clear c19
      (skip)
      have H':=As0.mk H;clear H;go_wp2
      go_meet
      case rel=>exact ⟨_,((t284 != t286)),(by rfl),H',⟨by omega⟩,⟨by (with_reducible repeat (apply Kd.R_drewN));exact Kd.R_mono HO276.out (fun _ hk=>hk.2)⟩,⟨by (with_reducible repeat (apply Kd.R_drewN));exact HO282.out⟩,⟨by repeat (with_reducible first|exact HB.out|apply y00)⟩⟩
    case rest =>
     clear HC9
     try clear c1
     try clear c2
     try clear p2
     try clear c3
     try clear c4
     try clear c5
     try clear c6
     try clear c8
     try clear c19
     try clear c19b0
     try clear c19b1
     try clear c19b2
     obtain ⟨kq,x45_8,rfl,HA,HJ8,HO_5,HO_6,HB⟩:=hcut;cases kq with
     |zero=>exact absurd HA.out (by simp [w6_MobsMeets.j0])
     |succ kj8 =>
      have H:=HA.out;clear HA;simp only [w6_MobsMeets.j0] at H
      by_cases c20:x45_8=true
      ·subst c20
       have H1:(some false)=some r:=by rw [if_pos rfl] at H;exact H
       clear H;have H:=H1;clear H1;obtain rfl:=zSi H;go_wp2
       go_ret
       exact ⟨by rfl,by repeat (with_reducible exact HB.out)⟩
      ·replace c20:=Bool.eq_false_iff.mpr c20
       subst c20;have H1:((mobs_Meet.f kj8 y274 y280).bind fun bt287=>((r6_Meet.f kj8 l0 l1).bind fun bt294=>((w6_same.f kj8 bt287.1 bt294.1).bind fun t301=>(if t301=true then ((w6_same.f kj8 bt287.2.1 bt294.2.1).bind fun t302=>(if t302=true then (if bt287.2.2=bt294.2.2 then ((w6_same.f kj8 y274 l0).bind fun t303=>(if t303=true then ((w6_same.f kj8 y280 l1).bind fun t304=>(if t304=true then ((w6_alive.f).bind fun t305=>(some t305)) else (some false))) else (some false))) else (some false)) else (some false))) else (some false)))))=some r:=by rw [if_neg (show ¬ (false=true) by decide)] at H;exact H
       clear H;have H:=H1;clear H1;replace H:=Option.bind_eq_some_iff.mp H;obtain ⟨⟨t287,t290,t293⟩,A210,H⟩:=H;replace H:((r6_Meet.f kj8 l0 l1).bind fun bt294=>((w6_same.f kj8 t287 bt294.1).bind fun t301=>(if t301=true then ((w6_same.f kj8 t290 bt294.2.1).bind fun t302=>(if t302=true then (if t293=bt294.2.2 then ((w6_same.f kj8 y274 l0).bind fun t303=>(if t303=true then ((w6_same.f kj8 y280 l1).bind fun t304=>(if t304=true then ((w6_alive.f).bind fun t305=>(some t305)) else (some false))) else (some false))) else (some false)) else (some false))) else (some false))))=some r:=H;have A21:=As0.mk A210;clear A210;replace H:=Option.bind_eq_some_iff.mp H;obtain ⟨⟨t294,t295,t296⟩,A220,H⟩:=H;replace H:((w6_same.f kj8 t287 t294).bind fun t301=>(if t301=true then ((w6_same.f kj8 t290 t295).bind fun t302=>(if t302=true then (if t293=t296 then ((w6_same.f kj8 y274 l0).bind fun t303=>(if t303=true then ((w6_same.f kj8 y280 l1).bind fun t304=>(if t304=true then ((w6_alive.f).bind fun t305=>(some t305)) else (some false))) else (some false))) else (some false)) else (some false))) else (some false)))=some r:=H;have A22:=As0.mk A220;clear A220;replace H:=Option.bind_eq_some_iff.mp H;obtain ⟨t301,A230,H⟩:=H;replace H:(if t301=true then ((w6_same.f kj8 t290 t295).bind fun t302=>(if t302=true then (if t293=t296 then ((w6_same.f kj8 y274 l0).bind fun t303=>(if t303=true then ((w6_same.f kj8 y280 l1).bind fun t304=>(if t304=true then ((w6_alive.f).bind fun t305=>(some t305)) else (some false))) else (some false))) else (some false)) else (some false))) else (some false))=some r:=H;have A23:=As0.mk A230;clear A230
       by_cases c24:t301=true
       ·subst c24
        have H1:((w6_same.f kj8 t290 t295).bind fun t302=>(if t302=true then (if t293=t296 then ((w6_same.f kj8 y274 l0).bind fun t303=>(if t303=true then ((w6_same.f kj8 y280 l1).bind fun t304=>(if t304=true then ((w6_alive.f).bind fun t305=>(some t305)) else (some false))) else (some false))) else (some false)) else (some false)))=some r:=by rw [if_pos rfl] at H;exact H
        clear H;have H:=H1;clear H1;replace H:=Option.bind_eq_some_iff.mp H;obtain ⟨t302,A250,H⟩:=H;replace H:(if t302=true then (if t293=t296 then ((w6_same.f kj8 y274 l0).bind fun t303=>(if t303=true then ((w6_same.f kj8 y280 l1).bind fun t304=>(if t304=true then ((w6_alive.f).bind fun t305=>(some t305)) else (some false))) else (some false))) else (some false)) else (some false))=some r:=H;have A25:=As0.mk A250;clear A250
        by_cases c26:t302=true
        ·subst c26
         have H1:(if t293=t296 then ((w6_same.f kj8 y274 l0).bind fun t303=>(if t303=true then ((w6_same.f kj8 y280 l1).bind fun t304=>(if t304=true then ((w6_alive.f).bind fun t305=>(some t305)) else (some false))) else (some false))) else (some false))=some r:=by rw [if_pos rfl] at H;exact H
         clear H;have H:=H1;clear H1
         by_cases c27:t293=t296
         ·rw [if_pos c27] at H
          have c27b0:(t293 == t296)=true:=beq_iff_eq.mpr c27;have c27b1:(t293 != t296)=false:=bne_eq_false_iff_eq.mpr c27;clear c27;replace H:=Option.bind_eq_some_iff.mp H;obtain ⟨t303,A280,H⟩:=H;replace H:(if t303=true then ((w6_same.f kj8 y280 l1).bind fun t304=>(if t304=true then ((w6_alive.f).bind fun t305=>(some t305)) else (some false))) else (some false))=some r:=H;have A28:=As0.mk A280;clear A280
          by_cases c29:t303=true
          ·subst c29
           have H1:((w6_same.f kj8 y280 l1).bind fun t304=>(if t304=true then ((w6_alive.f).bind fun t305=>(some t305)) else (some false)))=some r:=by rw [if_pos rfl] at H;exact H
           clear H;have H:=H1;clear H1;replace H:=Option.bind_eq_some_iff.mp H;obtain ⟨t304,A300,H⟩:=H;replace H:(if t304=true then ((w6_alive.f).bind fun t305=>(some t305)) else (some false))=some r:=H;have A30:=As0.mk A300;clear A300
           by_cases c31:t304=true
           ·subst c31
            have H1:((w6_alive.f).bind fun t305=>(some t305))=some r:=by rw [if_pos rfl] at H;exact H
            clear H;have H:=H1;clear H1;replace H:=Option.bind_eq_some_iff.mp H;obtain ⟨t305,A320,H⟩:=H;replace H:(some t305)=some r:=H;have A32:=As0.mk A320;clear A320;obtain rfl:=zSi H;go_wp2_with (first|((with_reducible refine y04 (f:=34) rfl ?_);refine y0h (some 49) rfl rfl Tra.func34 (by kernel_rfl) rfl #[.slice Ao16 y274.length co16,.slice Ao17 y280.length co17] rfl (by (try simp only [List.map_toArray,List.map_cons,List.map_nil]);rfl) ?_;(with_reducible refine (mobs_Meet.calls kj8 (fun k_=>some k_=(.slice Ao16 y274.length co16:Value).ownBlock) _ _ y274 (fun k_=>some k_=(.slice Ao17 y280.length co17:Value).ownBlock) _ _ y280 t287 t290 t293 _ ?side1 ?side2 A21.out).mono ?_);(case side1=>exact Kd.R_V (Kd.R_tight rfl (HO_5.out)));(case side2=>exact Kd.R_V (Kd.R_tight rfl (HO_6.out)));rintro e w33 ⟨v288,v291,rfl,ho0,ho1,hb⟩;refine ⟨_,rfl,?_⟩;have n0_:=As0.mk (Kd.R_mono (Kd.R_told (Kd.R_told (Kd.R_old (by (with_reducible repeat (first|apply Kd.R_alloc|apply Kd.R_drewN|apply Kd.R_drew));exact HO_5.out) hb) (Kd.R_base ho0)) (Kd.R_base ho1)) (fun _ h_=>h_.1));have n1_:=As0.mk (Kd.R_mono (Kd.R_told (Kd.R_told (Kd.R_old (by (with_reducible repeat (first|apply Kd.R_alloc|apply Kd.R_drewN|apply Kd.R_drew));exact HO_6.out) hb) (Kd.R_base ho0)) (Kd.R_base ho1)) (fun _ h_=>h_.1));have n2_:=As0.mk (Kd.R_lower (Kd.R_new' (Kd.R_new' (Kd.R_mono (ok':=fun k_=>some k_≠(v291:Value).ownBlock) ho0 (fun _ hk_=>hk_.2)) (Kd.R_lt (by (with_reducible repeat (first|apply Kd.R_alloc|apply Kd.R_drewN|apply Kd.R_drew));exact HO_5.out))) (Kd.R_lt (by (with_reducible repeat (first|apply Kd.R_alloc|apply Kd.R_drewN|apply Kd.R_drew));exact HO_6.out))) (y03 (by repeat (with_reducible exact HB.out))));have n3_:=As0.mk (Kd.R_lower (Kd.R_new' (Kd.R_new' (Kd.R_mono (ok':=fun k_=>some k_≠(v288:Value).ownBlock) ho1 (fun _ hk_=>hk_.2)) (Kd.R_lt (by (with_reducible repeat (first|apply Kd.R_alloc|apply Kd.R_drewN|apply Kd.R_drew));exact HO_5.out))) (Kd.R_lt (by (with_reducible repeat (first|apply Kd.R_alloc|apply Kd.R_drewN|apply Kd.R_drew));exact HO_6.out))) (y03 (by repeat (with_reducible exact HB.out))));have n4_:=As0.mk (y05 (by repeat (with_reducible exact HB.out)) hb);clear HO_5;clear HO_6;clear HB;have HO_5:=n0_;have HO_6:=n1_;have HO289:=n2_;have HO292:=n3_;have HB:=n4_;clear n0_ n1_ n2_ n3_ n4_;(try clear hb);(try clear hb2);(try clear hk);(try clear hi);(try clear ho0);(try clear ho1))|((with_reducible refine y04 (f:=35) rfl ?_);refine y0h (some 56) rfl rfl Tra.func35 (by kernel_rfl) rfl #[.slice A0 l0.length c0,.slice A1 l1.length c1] rfl (by (try simp only [List.map_toArray,List.map_cons,List.map_nil]);rfl) ?_;(with_reducible refine (r6_Meet.calls kj8 _ _ l0 _ _ l1 t294 t295 t296 _ ?side1 ?side2 ?side3 ?side4 A22.out).mono ?_);(case side1=>repeat (exact (Kd.C_below HR0.out HB.out)));(case side2=>exact HC0.out);(case side3=>repeat (exact (Kd.C_below HR1.out HB.out)));(case side4=>exact HC1.out);rintro e w34 ⟨v297,v299,rfl,ho0,ho1,hb⟩;refine ⟨_,rfl,?_⟩;have n0_:=As0.mk (Kd.R_mono (Kd.R_told (Kd.R_told (Kd.R_old (by (with_reducible repeat (first|apply Kd.R_alloc|apply Kd.R_drewN|apply Kd.R_drew));exact HO_5.out) hb) (Kd.R_base ho0)) (Kd.R_base ho1)) (fun _ h_=>h_.1));have n1_:=As0.mk (Kd.R_mono (Kd.R_told (Kd.R_told (Kd.R_old (by (with_reducible repeat (first|apply Kd.R_alloc|apply Kd.R_drewN|apply Kd.R_drew));exact HO_6.out) hb) (Kd.R_base ho0)) (Kd.R_base ho1)) (fun _ h_=>h_.1));have n2_:=As0.mk (Kd.R_mono (Kd.R_told (Kd.R_told (Kd.R_old (by (with_reducible repeat (first|apply Kd.R_alloc|apply Kd.R_drewN|apply Kd.R_drew));exact HO289.out) hb) (Kd.R_base ho0)) (Kd.R_base ho1)) (fun _ h_=>h_.1));have n3_:=As0.mk (Kd.R_mono (Kd.R_told (Kd.R_told (Kd.R_old (by (with_reducible repeat (first|apply Kd.R_alloc|apply Kd.R_drewN|apply Kd.R_drew));exact HO292.out) hb) (Kd.R_base ho0)) (Kd.R_base ho1)) (fun _ h_=>h_.1));have n4_:=As0.mk (Kd.R_lower (Kd.R_new' (Kd.R_new' (Kd.R_new' (Kd.R_new' ho0 (Kd.R_lt (by (with_reducible repeat (first|apply Kd.R_alloc|apply Kd.R_drewN|apply Kd.R_drew));exact HO_5.out))) (Kd.R_lt (by (with_reducible repeat (first|apply Kd.R_alloc|apply Kd.R_drewN|apply Kd.R_drew));exact HO_6.out))) (Kd.R_lt (by (with_reducible repeat (first|apply Kd.R_alloc|apply Kd.R_drewN|apply Kd.R_drew));exact HO289.out))) (Kd.R_lt (by (with_reducible repeat (first|apply Kd.R_alloc|apply Kd.R_drewN|apply Kd.R_drew));exact HO292.out))) (y03 (by repeat (with_reducible exact HB.out))));have n5_:=As0.mk (Kd.R_lower (Kd.R_new' (Kd.R_new' (Kd.R_new' (Kd.R_new' ho1 (Kd.R_lt (by (with_reducible repeat (first|apply Kd.R_alloc|apply Kd.R_drewN|apply Kd.R_drew));exact HO_5.out))) (Kd.R_lt (by (with_reducible repeat (first|apply Kd.R_alloc|apply Kd.R_drewN|apply Kd.R_drew));exact HO_6.out))) (Kd.R_lt (by (with_reducible repeat (first|apply Kd.R_alloc|apply Kd.R_drewN|apply Kd.R_drew));exact HO289.out))) (Kd.R_lt (by (with_reducible repeat (first|apply Kd.R_alloc|apply Kd.R_drewN|apply Kd.R_drew));exact HO292.out))) (y03 (by repeat (with_reducible exact HB.out))));have n6_:=As0.mk (y05 (by repeat (with_reducible exact HB.out)) hb);clear HO_5;clear HO_6;clear HO289;clear HO292;clear HB;have HO_5:=n0_;have HO_6:=n1_;have HO289:=n2_;have HO292:=n3_;have HO298:=n4_;have HO300:=n5_;have HB:=n6_;clear n0_ n1_ n2_ n3_ n4_ n5_ n6_;(try clear hb);(try clear hb2);(try clear hk);(try clear hi);(try clear ho0);(try clear ho1);obtain ⟨Ao35,co35,eo35⟩:=Kd.R_slice HO289.out;subst eo35;obtain ⟨Ao36,co36,eo36⟩:=Kd.R_slice HO298.out;subst eo36)|((with_reducible refine y04 (f:=27) rfl ?_);refine y0h (some 62) rfl rfl Tra.func27 (by kernel_rfl) rfl #[.slice Ao35 t287.length co35,.slice Ao36 t294.length co36] rfl (by (try simp only [List.map_toArray,List.map_cons,List.map_nil]);rfl) ?_;(with_reducible refine (w6_same.calls kj8 _ _ t287 _ _ t294 true _ ?side1 ?side2 ?side3 ?side4 A23.out).mono ?_);(case side1=>repeat (exact (Kd.R_reads' HO289.out).2.2));(case side2=>exact (Kd.R_reads' HO289.out).2.1);(case side3=>repeat (exact (Kd.R_reads' HO298.out).2.2));(case side4=>exact (Kd.R_reads' HO298.out).2.1);rintro e w' ⟨rfl,⟨nd,rfl⟩⟩;refine ⟨_,rfl,?_⟩;obtain ⟨Ao37,co37,eo37⟩:=Kd.R_slice HO292.out;subst eo37;obtain ⟨Ao38,co38,eo38⟩:=Kd.R_slice HO300.out;subst eo38)|(go_at_call 27;(with_reducible refine (w6_same.calls kj8 _ _ t290 _ _ t295 true _ ?side1 ?side2 ?side3 ?side4 A25.out).mono ?_);(case side1=>repeat (exact (Kd.R_reads' HO292.out).2.2));(case side2=>exact (Kd.R_reads' HO292.out).2.1);(case side3=>repeat (exact (Kd.R_reads' HO300.out).2.2));(case side4=>exact (Kd.R_reads' HO300.out).2.1);rintro e w' ⟨rfl,⟨nd,rfl⟩⟩)|(go_at_call 27;(with_reducible refine (w6_same.calls kj8 _ _ y274 _ _ l0 true _ ?side1 ?side2 ?side3 ?side4 A28.out).mono ?_);(case side1=>repeat (exact (Kd.R_reads' HO_5.out).2.2));(case side2=>exact (Kd.R_reads' HO_5.out).2.1);(case side3=>repeat (exact (Kd.C_below HR0.out (by repeat (with_reducible first|exact HB.out|apply y00)))));(case side4=>exact HC0.out);rintro e w' ⟨rfl,⟨nd,rfl⟩⟩)|(go_at_call 27;(with_reducible refine (w6_same.calls kj8 _ _ y280 _ _ l1 true _ ?side1 ?side2 ?side3 ?side4 A30.out).mono ?_);(case side1=>repeat (exact (Kd.R_reads' HO_6.out).2.2));(case side2=>exact (Kd.R_reads' HO_6.out).2.1);(case side3=>repeat (exact (Kd.C_below HR1.out (by repeat (with_reducible first|exact HB.out|apply y00)))));(case side4=>exact HC1.out);rintro e w' ⟨rfl,⟨nd,rfl⟩⟩)|(go_at_call 20;(with_reducible refine (w6_alive.calls  t305 _ A32.out).mono ?_);rintro e w39 ⟨rfl,hb⟩;have n0_:=As0.mk (Kd.R_below (by (with_reducible repeat (apply Kd.R_drewN));exact HO_5.out) hb);have n1_:=As0.mk (Kd.R_below (by (with_reducible repeat (apply Kd.R_drewN));exact HO_6.out) hb);have n2_:=As0.mk (Kd.R_below (by (with_reducible repeat (apply Kd.R_drewN));exact HO289.out) hb);have n3_:=As0.mk (Kd.R_below (by (with_reducible repeat (apply Kd.R_drewN));exact HO292.out) hb);have n4_:=As0.mk (Kd.R_below (by (with_reducible repeat (apply Kd.R_drewN));exact HO298.out) hb);have n5_:=As0.mk (Kd.R_below (by (with_reducible repeat (apply Kd.R_drewN));exact HO300.out) hb);have n6_:=As0.mk (y05 (by repeat (with_reducible first|exact HB.out|apply y00)) hb);clear HO_5;clear HO_6;clear HO289;clear HO292;clear HO298;clear HO300;clear HB;have HO_5:=n0_;have HO_6:=n1_;have HO289:=n2_;have HO292:=n3_;have HO298:=n4_;have HO300:=n5_;have HB:=n6_;clear n0_ n1_ n2_ n3_ n4_ n5_ n6_;(try clear hb);(try clear hb2);(try clear hk);(try clear hi)))
            go_ret
            exact ⟨by rfl,by repeat (with_reducible exact HB.out)⟩
           ·replace c31:=Bool.eq_false_iff.mpr c31
            subst c31;have H1:(some false)=some r:=by rw [if_neg (show ¬ (false=true) by decide)] at H;exact H
            clear H;have H:=H1;clear H1;obtain rfl:=zSi H;go_wp2_with (first|((with_reducible refine y04 (f:=34) rfl ?_);refine y0h (some 49) rfl rfl Tra.func34 (by kernel_rfl) rfl #[.slice Ao16 y274.length co16,.slice Ao17 y280.length co17] rfl (by (try simp only [List.map_toArray,List.map_cons,List.map_nil]);rfl) ?_;(with_reducible refine (mobs_Meet.calls kj8 (fun k_=>some k_=(.slice Ao16 y274.length co16:Value).ownBlock) _ _ y274 (fun k_=>some k_=(.slice Ao17 y280.length co17:Value).ownBlock) _ _ y280 t287 t290 t293 _ ?side1 ?side2 A21.out).mono ?_);(case side1=>exact Kd.R_V (Kd.R_tight rfl (HO_5.out)));(case side2=>exact Kd.R_V (Kd.R_tight rfl (HO_6.out)));rintro e w40 ⟨v288,v291,rfl,ho0,ho1,hb⟩;refine ⟨_,rfl,?_⟩;have n0_:=As0.mk (Kd.R_mono (Kd.R_told (Kd.R_told (Kd.R_old (by (with_reducible repeat (first|apply Kd.R_alloc|apply Kd.R_drewN|apply Kd.R_drew));exact HO_5.out) hb) (Kd.R_base ho0)) (Kd.R_base ho1)) (fun _ h_=>h_.1));have n1_:=As0.mk (Kd.R_mono (Kd.R_told (Kd.R_told (Kd.R_old (by (with_reducible repeat (first|apply Kd.R_alloc|apply Kd.R_drewN|apply Kd.R_drew));exact HO_6.out) hb) (Kd.R_base ho0)) (Kd.R_base ho1)) (fun _ h_=>h_.1));have n2_:=As0.mk (Kd.R_lower (Kd.R_new' (Kd.R_new' (Kd.R_mono (ok':=fun k_=>some k_≠(v291:Value).ownBlock) ho0 (fun _ hk_=>hk_.2)) (Kd.R_lt (by (with_reducible repeat (first|apply Kd.R_alloc|apply Kd.R_drewN|apply Kd.R_drew));exact HO_5.out))) (Kd.R_lt (by (with_reducible repeat (first|apply Kd.R_alloc|apply Kd.R_drewN|apply Kd.R_drew));exact HO_6.out))) (y03 (by repeat (with_reducible exact HB.out))));have n3_:=As0.mk (Kd.R_lower (Kd.R_new' (Kd.R_new' (Kd.R_mono (ok':=fun k_=>some k_≠(v288:Value).ownBlock) ho1 (fun _ hk_=>hk_.2)) (Kd.R_lt (by (with_reducible repeat (first|apply Kd.R_alloc|apply Kd.R_drewN|apply Kd.R_drew));exact HO_5.out))) (Kd.R_lt (by (with_reducible repeat (first|apply Kd.R_alloc|apply Kd.R_drewN|apply Kd.R_drew));exact HO_6.out))) (y03 (by repeat (with_reducible exact HB.out))));have n4_:=As0.mk (y05 (by repeat (with_reducible exact HB.out)) hb);clear HO_5;clear HO_6;clear HB;have HO_5:=n0_;have HO_6:=n1_;have HO289:=n2_;have HO292:=n3_;have HB:=n4_;clear n0_ n1_ n2_ n3_ n4_;(try clear hb);(try clear hb2);(try clear hk);(try clear hi);(try clear ho0);(try clear ho1))|((with_reducible refine y04 (f:=35) rfl ?_);refine y0h (some 56) rfl rfl Tra.func35 (by kernel_rfl) rfl #[.slice A0 l0.length c0,.slice A1 l1.length c1] rfl (by (try simp only [List.map_toArray,List.map_cons,List.map_nil]);rfl) ?_;(with_reducible refine (r6_Meet.calls kj8 _ _ l0 _ _ l1 t294 t295 t296 _ ?side1 ?side2 ?side3 ?side4 A22.out).mono ?_);(case side1=>repeat (exact (Kd.C_below HR0.out HB.out)));(case side2=>exact HC0.out);(case side3=>repeat (exact (Kd.C_below HR1.out HB.out)));(case side4=>exact HC1.out);rintro e w41 ⟨v297,v299,rfl,ho0,ho1,hb⟩;refine ⟨_,rfl,?_⟩;have n0_:=As0.mk (Kd.R_mono (Kd.R_told (Kd.R_told (Kd.R_old (by (with_reducible repeat (first|apply Kd.R_alloc|apply Kd.R_drewN|apply Kd.R_drew));exact HO_5.out) hb) (Kd.R_base ho0)) (Kd.R_base ho1)) (fun _ h_=>h_.1));have n1_:=As0.mk (Kd.R_mono (Kd.R_told (Kd.R_told (Kd.R_old (by (with_reducible repeat (first|apply Kd.R_alloc|apply Kd.R_drewN|apply Kd.R_drew));exact HO_6.out) hb) (Kd.R_base ho0)) (Kd.R_base ho1)) (fun _ h_=>h_.1));have n2_:=As0.mk (Kd.R_mono (Kd.R_told (Kd.R_told (Kd.R_old (by (with_reducible repeat (first|apply Kd.R_alloc|apply Kd.R_drewN|apply Kd.R_drew));exact HO289.out) hb) (Kd.R_base ho0)) (Kd.R_base ho1)) (fun _ h_=>h_.1));have n3_:=As0.mk (Kd.R_mono (Kd.R_told (Kd.R_told (Kd.R_old (by (with_reducible repeat (first|apply Kd.R_alloc|apply Kd.R_drewN|apply Kd.R_drew));exact HO292.out) hb) (Kd.R_base ho0)) (Kd.R_base ho1)) (fun _ h_=>h_.1));have n4_:=As0.mk (Kd.R_lower (Kd.R_new' (Kd.R_new' (Kd.R_new' (Kd.R_new' ho0 (Kd.R_lt (by (with_reducible repeat (first|apply Kd.R_alloc|apply Kd.R_drewN|apply Kd.R_drew));exact HO_5.out))) (Kd.R_lt (by (with_reducible repeat (first|apply Kd.R_alloc|apply Kd.R_drewN|apply Kd.R_drew));exact HO_6.out))) (Kd.R_lt (by (with_reducible repeat (first|apply Kd.R_alloc|apply Kd.R_drewN|apply Kd.R_drew));exact HO289.out))) (Kd.R_lt (by (with_reducible repeat (first|apply Kd.R_alloc|apply Kd.R_drewN|apply Kd.R_drew));exact HO292.out))) (y03 (by repeat (with_reducible exact HB.out))));have n5_:=As0.mk (Kd.R_lower (Kd.R_new' (Kd.R_new' (Kd.R_new' (Kd.R_new' ho1 (Kd.R_lt (by (with_reducible repeat (first|apply Kd.R_alloc|apply Kd.R_drewN|apply Kd.R_drew));exact HO_5.out))) (Kd.R_lt (by (with_reducible repeat (first|apply Kd.R_alloc|apply Kd.R_drewN|apply Kd.R_drew));exact HO_6.out))) (Kd.R_lt (by (with_reducible repeat (first|apply Kd.R_alloc|apply Kd.R_drewN|apply Kd.R_drew));exact HO289.out))) (Kd.R_lt (by (with_reducible repeat (first|apply Kd.R_alloc|apply Kd.R_drewN|apply Kd.R_drew));exact HO292.out))) (y03 (by repeat (with_reducible exact HB.out))));have n6_:=As0.mk (y05 (by repeat (with_reducible exact HB.out)) hb);clear HO_5;clear HO_6;clear HO289;clear HO292;clear HB;have HO_5:=n0_;have HO_6:=n1_;have HO289:=n2_;have HO292:=n3_;have HO298:=n4_;have HO300:=n5_;have HB:=n6_;clear n0_ n1_ n2_ n3_ n4_ n5_ n6_;(try clear hb);(try clear hb2);(try clear hk);(try clear hi);(try clear ho0);(try clear ho1);obtain ⟨Ao42,co42,eo42⟩:=Kd.R_slice HO289.out;subst eo42;obtain ⟨Ao43,co43,eo43⟩:=Kd.R_slice HO298.out;subst eo43)|((with_reducible refine y04 (f:=27) rfl ?_);refine y0h (some 62) rfl rfl Tra.func27 (by kernel_rfl) rfl #[.slice Ao42 t287.length co42,.slice Ao43 t294.length co43] rfl (by (try simp only [List.map_toArray,List.map_cons,List.map_nil]);rfl) ?_;(with_reducible refine (w6_same.calls kj8 _ _ t287 _ _ t294 true _ ?side1 ?side2 ?side3 ?side4 A23.out).mono ?_);(case side1=>repeat (exact (Kd.R_reads' HO289.out).2.2));(case side2=>exact (Kd.R_reads' HO289.out).2.1);(case side3=>repeat (exact (Kd.R_reads' HO298.out).2.2));(case side4=>exact (Kd.R_reads' HO298.out).2.1);rintro e w' ⟨rfl,⟨nd,rfl⟩⟩;refine ⟨_,rfl,?_⟩;obtain ⟨Ao44,co44,eo44⟩:=Kd.R_slice HO292.out;subst eo44;obtain ⟨Ao45,co45,eo45⟩:=Kd.R_slice HO300.out;subst eo45)|(go_at_call 27;(with_reducible refine (w6_same.calls kj8 _ _ t290 _ _ t295 true _ ?side1 ?side2 ?side3 ?side4 A25.out).mono ?_);(case side1=>repeat (exact (Kd.R_reads' HO292.out).2.2));(case side2=>exact (Kd.R_reads' HO292.out).2.1);(case side3=>repeat (exact (Kd.R_reads' HO300.out).2.2));(case side4=>exact (Kd.R_reads' HO300.out).2.1);rintro e w' ⟨rfl,⟨nd,rfl⟩⟩)|(go_at_call 27;(with_reducible refine (w6_same.calls kj8 _ _ y274 _ _ l0 true _ ?side1 ?side2 ?side3 ?side4 A28.out).mono ?_);(case side1=>repeat (exact (Kd.R_reads' HO_5.out).2.2));(case side2=>exact (Kd.R_reads' HO_5.out).2.1);(case side3=>repeat (exact (Kd.C_below HR0.out (by repeat (with_reducible first|exact HB.out|apply y00)))));(case side4=>exact HC0.out);rintro e w' ⟨rfl,⟨nd,rfl⟩⟩)|(go_at_call 27;(with_reducible refine (w6_same.calls kj8 _ _ y280 _ _ l1 false _ ?side1 ?side2 ?side3 ?side4 A30.out).mono ?_);(case side1=>repeat (exact (Kd.R_reads' HO_6.out).2.2));(case side2=>exact (Kd.R_reads' HO_6.out).2.1);(case side3=>repeat (exact (Kd.C_below HR1.out (by repeat (with_reducible first|exact HB.out|apply y00)))));(case side4=>exact HC1.out);rintro e w' ⟨rfl,⟨nd,rfl⟩⟩))
            go_ret
            exact ⟨by rfl,by repeat (with_reducible first|exact HB.out|apply y00)⟩
          ·replace c29:=Bool.eq_false_iff.mpr c29
           subst c29;have H1:(some false)=some r:=by rw [if_neg (show ¬ (false=true) by decide)] at H;exact H
           clear H;have H:=H1;clear H1;obtain rfl:=zSi H;go_wp2_with (first|((with_reducible refine y04 (f:=34) rfl ?_);refine y0h (some 49) rfl rfl Tra.func34 (by kernel_rfl) rfl #[.slice Ao16 y274.length co16,.slice Ao17 y280.length co17] rfl (by (try simp only [List.map_toArray,List.map_cons,List.map_nil]);rfl) ?_;(with_reducible refine (mobs_Meet.calls kj8 (fun k_=>some k_=(.slice Ao16 y274.length co16:Value).ownBlock) _ _ y274 (fun k_=>some k_=(.slice Ao17 y280.length co17:Value).ownBlock) _ _ y280 t287 t290 t293 _ ?side1 ?side2 A21.out).mono ?_);(case side1=>exact Kd.R_V (Kd.R_tight rfl (HO_5.out)));(case side2=>exact Kd.R_V (Kd.R_tight rfl (HO_6.out)));rintro e w46 ⟨v288,v291,rfl,ho0,ho1,hb⟩;refine ⟨_,rfl,?_⟩;have n0_:=As0.mk (Kd.R_mono (Kd.R_told (Kd.R_told (Kd.R_old (by (with_reducible repeat (first|apply Kd.R_alloc|apply Kd.R_drewN|apply Kd.R_drew));exact HO_5.out) hb) (Kd.R_base ho0)) (Kd.R_base ho1)) (fun _ h_=>h_.1));have n1_:=As0.mk (Kd.R_mono (Kd.R_told (Kd.R_told (Kd.R_old (by (with_reducible repeat (first|apply Kd.R_alloc|apply Kd.R_drewN|apply Kd.R_drew));exact HO_6.out) hb) (Kd.R_base ho0)) (Kd.R_base ho1)) (fun _ h_=>h_.1));have n2_:=As0.mk (Kd.R_lower (Kd.R_new' (Kd.R_new' (Kd.R_mono (ok':=fun k_=>some k_≠(v291:Value).ownBlock) ho0 (fun _ hk_=>hk_.2)) (Kd.R_lt (by (with_reducible repeat (first|apply Kd.R_alloc|apply Kd.R_drewN|apply Kd.R_drew));exact HO_5.out))) (Kd.R_lt (by (with_reducible repeat (first|apply Kd.R_alloc|apply Kd.R_drewN|apply Kd.R_drew));exact HO_6.out))) (y03 (by repeat (with_reducible exact HB.out))));have n3_:=As0.mk (Kd.R_lower (Kd.R_new' (Kd.R_new' (Kd.R_mono (ok':=fun k_=>some k_≠(v288:Value).ownBlock) ho1 (fun _ hk_=>hk_.2)) (Kd.R_lt (by (with_reducible repeat (first|apply Kd.R_alloc|apply Kd.R_drewN|apply Kd.R_drew));exact HO_5.out))) (Kd.R_lt (by (with_reducible repeat (first|apply Kd.R_alloc|apply Kd.R_drewN|apply Kd.R_drew));exact HO_6.out))) (y03 (by repeat (with_reducible exact HB.out))));have n4_:=As0.mk (y05 (by repeat (with_reducible exact HB.out)) hb);clear HO_5;clear HO_6;clear HB;have HO_5:=n0_;have HO_6:=n1_;have HO289:=n2_;have HO292:=n3_;have HB:=n4_;clear n0_ n1_ n2_ n3_ n4_;(try clear hb);(try clear hb2);(try clear hk);(try clear hi);(try clear ho0);(try clear ho1))|((with_reducible refine y04 (f:=35) rfl ?_);refine y0h (some 56) rfl rfl Tra.func35 (by kernel_rfl) rfl #[.slice A0 l0.length c0,.slice A1 l1.length c1] rfl (by (try simp only [List.map_toArray,List.map_cons,List.map_nil]);rfl) ?_;(with_reducible refine (r6_Meet.calls kj8 _ _ l0 _ _ l1 t294 t295 t296 _ ?side1 ?side2 ?side3 ?side4 A22.out).mono ?_);(case side1=>repeat (exact (Kd.C_below HR0.out HB.out)));(case side2=>exact HC0.out);(case side3=>repeat (exact (Kd.C_below HR1.out HB.out)));(case side4=>exact HC1.out);rintro e w47 ⟨v297,v299,rfl,ho0,ho1,hb⟩;refine ⟨_,rfl,?_⟩;have n0_:=As0.mk (Kd.R_mono (Kd.R_told (Kd.R_told (Kd.R_old (by (with_reducible repeat (first|apply Kd.R_alloc|apply Kd.R_drewN|apply Kd.R_drew));exact HO_5.out) hb) (Kd.R_base ho0)) (Kd.R_base ho1)) (fun _ h_=>h_.1));have n1_:=As0.mk (Kd.R_mono (Kd.R_told (Kd.R_told (Kd.R_old (by (with_reducible repeat (first|apply Kd.R_alloc|apply Kd.R_drewN|apply Kd.R_drew));exact HO_6.out) hb) (Kd.R_base ho0)) (Kd.R_base ho1)) (fun _ h_=>h_.1));have n2_:=As0.mk (Kd.R_mono (Kd.R_told (Kd.R_told (Kd.R_old (by (with_reducible repeat (first|apply Kd.R_alloc|apply Kd.R_drewN|apply Kd.R_drew));exact HO289.out) hb) (Kd.R_base ho0)) (Kd.R_base ho1)) (fun _ h_=>h_.1));have n3_:=As0.mk (Kd.R_mono (Kd.R_told (Kd.R_told (Kd.R_old (by (with_reducible repeat (first|apply Kd.R_alloc|apply Kd.R_drewN|apply Kd.R_drew));exact HO292.out) hb) (Kd.R_base ho0)) (Kd.R_base ho1)) (fun _ h_=>h_.1));have n4_:=As0.mk (Kd.R_lower (Kd.R_new' (Kd.R_new' (Kd.R_new' (Kd.R_new' ho0 (Kd.R_lt (by (with_reducible repeat (first|apply Kd.R_alloc|apply Kd.R_drewN|apply Kd.R_drew));exact HO_5.out))) (Kd.R_lt (by (with_reducible repeat (first|apply Kd.R_alloc|apply Kd.R_drewN|apply Kd.R_drew));exact HO_6.out))) (Kd.R_lt (by (with_reducible repeat (first|apply Kd.R_alloc|apply Kd.R_drewN|apply Kd.R_drew));exact HO289.out))) (Kd.R_lt (by (with_reducible repeat (first|apply Kd.R_alloc|apply Kd.R_drewN|apply Kd.R_drew));exact HO292.out))) (y03 (by repeat (with_reducible exact HB.out))));have n5_:=As0.mk (Kd.R_lower (Kd.R_new' (Kd.R_new' (Kd.R_new' (Kd.R_new' ho1 (Kd.R_lt (by (with_reducible repeat (first|apply Kd.R_alloc|apply Kd.R_drewN|apply Kd.R_drew));exact HO_5.out))) (Kd.R_lt (by (with_reducible repeat (first|apply Kd.R_alloc|apply Kd.R_drewN|apply Kd.R_drew));exact HO_6.out))) (Kd.R_lt (by (with_reducible repeat (first|apply Kd.R_alloc|apply Kd.R_drewN|apply Kd.R_drew));exact HO289.out))) (Kd.R_lt (by (with_reducible repeat (first|apply Kd.R_alloc|apply Kd.R_drewN|apply Kd.R_drew));exact HO292.out))) (y03 (by repeat (with_reducible exact HB.out))));have n6_:=As0.mk (y05 (by repeat (with_reducible exact HB.out)) hb);clear HO_5;clear HO_6;clear HO289;clear HO292;clear HB;have HO_5:=n0_;have HO_6:=n1_;have HO289:=n2_;have HO292:=n3_;have HO298:=n4_;have HO300:=n5_;have HB:=n6_;clear n0_ n1_ n2_ n3_ n4_ n5_ n6_;(try clear hb);(try clear hb2);(try clear hk);(try clear hi);(try clear ho0);(try clear ho1);obtain ⟨Ao48,co48,eo48⟩:=Kd.R_slice HO289.out;subst eo48;obtain ⟨Ao49,co49,eo49⟩:=Kd.R_slice HO298.out;subst eo49)|((with_reducible refine y04 (f:=27) rfl ?_);refine y0h (some 62) rfl rfl Tra.func27 (by kernel_rfl) rfl #[.slice Ao48 t287.length co48,.slice Ao49 t294.length co49] rfl (by (try simp only [List.map_toArray,List.map_cons,List.map_nil]);rfl) ?_;(with_reducible refine (w6_same.calls kj8 _ _ t287 _ _ t294 true _ ?side1 ?side2 ?side3 ?side4 A23.out).mono ?_);(case side1=>repeat (exact (Kd.R_reads' HO289.out).2.2));(case side2=>exact (Kd.R_reads' HO289.out).2.1);(case side3=>repeat (exact (Kd.R_reads' HO298.out).2.2));(case side4=>exact (Kd.R_reads' HO298.out).2.1);rintro e w' ⟨rfl,⟨nd,rfl⟩⟩;refine ⟨_,rfl,?_⟩;obtain ⟨Ao50,co50,eo50⟩:=Kd.R_slice HO292.out;subst eo50;obtain ⟨Ao51,co51,eo51⟩:=Kd.R_slice HO300.out;subst eo51)|(go_at_call 27;(with_reducible refine (w6_same.calls kj8 _ _ t290 _ _ t295 true _ ?side1 ?side2 ?side3 ?side4 A25.out).mono ?_);(case side1=>repeat (exact (Kd.R_reads' HO292.out).2.2));(case side2=>exact (Kd.R_reads' HO292.out).2.1);(case side3=>repeat (exact (Kd.R_reads' HO300.out).2.2));(case side4=>exact (Kd.R_reads' HO300.out).2.1);rintro e w' ⟨rfl,⟨nd,rfl⟩⟩)|(go_at_call 27;(with_reducible refine (w6_same.calls kj8 _ _ y274 _ _ l0 false _ ?side1 ?side2 ?side3 ?side4 A28.out).mono ?_);(case side1=>repeat (exact (Kd.R_reads' HO_5.out).2.2));(case side2=>exact (Kd.R_reads' HO_5.out).2.1);(case side3=>repeat (exact (Kd.C_below HR0.out (by repeat (with_reducible first|exact HB.out|apply y00)))));(case side4=>exact HC0.out);rintro e w' ⟨rfl,⟨nd,rfl⟩⟩))
           go_ret
           exact ⟨by rfl,by repeat (with_reducible first|exact HB.out|apply y00)⟩
         ·rw [if_neg c27] at H
          have c27b0:(t293 == t296)=false:=beq_eq_false_iff_ne.mpr c27;have c27b1:(t293 != t296)=true:=bne_iff_ne.mpr c27;obtain rfl:=zSi H;go_wp2_with (first|((with_reducible refine y04 (f:=34) rfl ?_);refine y0h (some 49) rfl rfl Tra.func34 (by kernel_rfl) rfl #[.slice Ao16 y274.length co16,.slice Ao17 y280.length co17] rfl (by (try simp only [List.map_toArray,List.map_cons,List.map_nil]);rfl) ?_;(with_reducible refine (mobs_Meet.calls kj8 (fun k_=>some k_=(.slice Ao16 y274.length co16:Value).ownBlock) _ _ y274 (fun k_=>some k_=(.slice Ao17 y280.length co17:Value).ownBlock) _ _ y280 t287 t290 t293 _ ?side1 ?side2 A21.out).mono ?_);(case side1=>exact Kd.R_V (Kd.R_tight rfl (HO_5.out)));(case side2=>exact Kd.R_V (Kd.R_tight rfl (HO_6.out)));rintro e w52 ⟨v288,v291,rfl,ho0,ho1,hb⟩;refine ⟨_,rfl,?_⟩;have n0_:=As0.mk (Kd.R_mono (Kd.R_told (Kd.R_told (Kd.R_old (by (with_reducible repeat (first|apply Kd.R_alloc|apply Kd.R_drewN|apply Kd.R_drew));exact HO_5.out) hb) (Kd.R_base ho0)) (Kd.R_base ho1)) (fun _ h_=>h_.1));have n1_:=As0.mk (Kd.R_mono (Kd.R_told (Kd.R_told (Kd.R_old (by (with_reducible repeat (first|apply Kd.R_alloc|apply Kd.R_drewN|apply Kd.R_drew));exact HO_6.out) hb) (Kd.R_base ho0)) (Kd.R_base ho1)) (fun _ h_=>h_.1));have n2_:=As0.mk (Kd.R_lower (Kd.R_new' (Kd.R_new' (Kd.R_mono (ok':=fun k_=>some k_≠(v291:Value).ownBlock) ho0 (fun _ hk_=>hk_.2)) (Kd.R_lt (by (with_reducible repeat (first|apply Kd.R_alloc|apply Kd.R_drewN|apply Kd.R_drew));exact HO_5.out))) (Kd.R_lt (by (with_reducible repeat (first|apply Kd.R_alloc|apply Kd.R_drewN|apply Kd.R_drew));exact HO_6.out))) (y03 (by repeat (with_reducible exact HB.out))));have n3_:=As0.mk (Kd.R_lower (Kd.R_new' (Kd.R_new' (Kd.R_mono (ok':=fun k_=>some k_≠(v288:Value).ownBlock) ho1 (fun _ hk_=>hk_.2)) (Kd.R_lt (by (with_reducible repeat (first|apply Kd.R_alloc|apply Kd.R_drewN|apply Kd.R_drew));exact HO_5.out))) (Kd.R_lt (by (with_reducible repeat (first|apply Kd.R_alloc|apply Kd.R_drewN|apply Kd.R_drew));exact HO_6.out))) (y03 (by repeat (with_reducible exact HB.out))));have n4_:=As0.mk (y05 (by repeat (with_reducible exact HB.out)) hb);clear HO_5;clear HO_6;clear HB;have HO_5:=n0_;have HO_6:=n1_;have HO289:=n2_;have HO292:=n3_;have HB:=n4_;clear n0_ n1_ n2_ n3_ n4_;(try clear hb);(try clear hb2);(try clear hk);(try clear hi);(try clear ho0);(try clear ho1))|((with_reducible refine y04 (f:=35) rfl ?_);refine y0h (some 56) rfl rfl Tra.func35 (by kernel_rfl) rfl #[.slice A0 l0.length c0,.slice A1 l1.length c1] rfl (by (try simp only [List.map_toArray,List.map_cons,List.map_nil]);rfl) ?_;(with_reducible refine (r6_Meet.calls kj8 _ _ l0 _ _ l1 t294 t295 t296 _ ?side1 ?side2 ?side3 ?side4 A22.out).mono ?_);(case side1=>repeat (exact (Kd.C_below HR0.out HB.out)));(case side2=>exact HC0.out);(case side3=>repeat (exact (Kd.C_below HR1.out HB.out)));(case side4=>exact HC1.out);rintro e w53 ⟨v297,v299,rfl,ho0,ho1,hb⟩;refine ⟨_,rfl,?_⟩;have n0_:=As0.mk (Kd.R_mono (Kd.R_told (Kd.R_told (Kd.R_old (by (with_reducible repeat (first|apply Kd.R_alloc|apply Kd.R_drewN|apply Kd.R_drew));exact HO_5.out) hb) (Kd.R_base ho0)) (Kd.R_base ho1)) (fun _ h_=>h_.1));have n1_:=As0.mk (Kd.R_mono (Kd.R_told (Kd.R_told (Kd.R_old (by (with_reducible repeat (first|apply Kd.R_alloc|apply Kd.R_drewN|apply Kd.R_drew));exact HO_6.out) hb) (Kd.R_base ho0)) (Kd.R_base ho1)) (fun _ h_=>h_.1));have n2_:=As0.mk (Kd.R_mono (Kd.R_told (Kd.R_told (Kd.R_old (by (with_reducible repeat (first|apply Kd.R_alloc|apply Kd.R_drewN|apply Kd.R_drew));exact HO289.out) hb) (Kd.R_base ho0)) (Kd.R_base ho1)) (fun _ h_=>h_.1));have n3_:=As0.mk (Kd.R_mono (Kd.R_told (Kd.R_told (Kd.R_old (by (with_reducible repeat (first|apply Kd.R_alloc|apply Kd.R_drewN|apply Kd.R_drew));exact HO292.out) hb) (Kd.R_base ho0)) (Kd.R_base ho1)) (fun _ h_=>h_.1));have n4_:=As0.mk (Kd.R_lower (Kd.R_new' (Kd.R_new' (Kd.R_new' (Kd.R_new' ho0 (Kd.R_lt (by (with_reducible repeat (first|apply Kd.R_alloc|apply Kd.R_drewN|apply Kd.R_drew));exact HO_5.out))) (Kd.R_lt (by (with_reducible repeat (first|apply Kd.R_alloc|apply Kd.R_drewN|apply Kd.R_drew));exact HO_6.out))) (Kd.R_lt (by (with_reducible repeat (first|apply Kd.R_alloc|apply Kd.R_drewN|apply Kd.R_drew));exact HO289.out))) (Kd.R_lt (by (with_reducible repeat (first|apply Kd.R_alloc|apply Kd.R_drewN|apply Kd.R_drew));exact HO292.out))) (y03 (by repeat (with_reducible exact HB.out))));have n5_:=As0.mk (Kd.R_lower (Kd.R_new' (Kd.R_new' (Kd.R_new' (Kd.R_new' ho1 (Kd.R_lt (by (with_reducible repeat (first|apply Kd.R_alloc|apply Kd.R_drewN|apply Kd.R_drew));exact HO_5.out))) (Kd.R_lt (by (with_reducible repeat (first|apply Kd.R_alloc|apply Kd.R_drewN|apply Kd.R_drew));exact HO_6.out))) (Kd.R_lt (by (with_reducible repeat (first|apply Kd.R_alloc|apply Kd.R_drewN|apply Kd.R_drew));exact HO289.out))) (Kd.R_lt (by (with_reducible repeat (first|apply Kd.R_alloc|apply Kd.R_drewN|apply Kd.R_drew));exact HO292.out))) (y03 (by repeat (with_reducible exact HB.out))));have n6_:=As0.mk (y05 (by repeat (with_reducible exact HB.out)) hb);clear HO_5;clear HO_6;clear HO289;clear HO292;clear HB;have HO_5:=n0_;have HO_6:=n1_;have HO289:=n2_;have HO292:=n3_;have HO298:=n4_;have HO300:=n5_;have HB:=n6_;clear n0_ n1_ n2_ n3_ n4_ n5_ n6_;(try clear hb);(try clear hb2);(try clear hk);(try clear hi);(try clear ho0);(try clear ho1);obtain ⟨Ao54,co54,eo54⟩:=Kd.R_slice HO289.out;subst eo54;obtain ⟨Ao55,co55,eo55⟩:=Kd.R_slice HO298.out;subst eo55)|((with_reducible refine y04 (f:=27) rfl ?_);refine y0h (some 62) rfl rfl Tra.func27 (by kernel_rfl) rfl #[.slice Ao54 t287.length co54,.slice Ao55 t294.length co55] rfl (by (try simp only [List.map_toArray,List.map_cons,List.map_nil]);rfl) ?_;(with_reducible refine (w6_same.calls kj8 _ _ t287 _ _ t294 true _ ?side1 ?side2 ?side3 ?side4 A23.out).mono ?_);(case side1=>repeat (exact (Kd.R_reads' HO289.out).2.2));(case side2=>exact (Kd.R_reads' HO289.out).2.1);(case side3=>repeat (exact (Kd.R_reads' HO298.out).2.2));(case side4=>exact (Kd.R_reads' HO298.out).2.1);rintro e w' ⟨rfl,⟨nd,rfl⟩⟩;refine ⟨_,rfl,?_⟩;obtain ⟨Ao56,co56,eo56⟩:=Kd.R_slice HO292.out;subst eo56;obtain ⟨Ao57,co57,eo57⟩:=Kd.R_slice HO300.out;subst eo57)|(go_at_call 27;(with_reducible refine (w6_same.calls kj8 _ _ t290 _ _ t295 true _ ?side1 ?side2 ?side3 ?side4 A25.out).mono ?_);(case side1=>repeat (exact (Kd.R_reads' HO292.out).2.2));(case side2=>exact (Kd.R_reads' HO292.out).2.1);(case side3=>repeat (exact (Kd.R_reads' HO300.out).2.2));(case side4=>exact (Kd.R_reads' HO300.out).2.1);rintro e w' ⟨rfl,⟨nd,rfl⟩⟩))
          go_ret
          exact ⟨by rfl,by repeat (with_reducible first|exact HB.out|apply y00)⟩
        ·replace c26:=Bool.eq_false_iff.mpr c26
         subst c26;have H1:(some false)=some r:=by rw [if_neg (show ¬ (false=true) by decide)] at H;exact H
         clear H;have H:=H1;clear H1;obtain rfl:=zSi H;go_wp2_with (first|((with_reducible refine y04 (f:=34) rfl ?_);refine y0h (some 49) rfl rfl Tra.func34 (by kernel_rfl) rfl #[.slice Ao16 y274.length co16,.slice Ao17 y280.length co17] rfl (by (try simp only [List.map_toArray,List.map_cons,List.map_nil]);rfl) ?_;(with_reducible refine (mobs_Meet.calls kj8 (fun k_=>some k_=(.slice Ao16 y274.length co16:Value).ownBlock) _ _ y274 (fun k_=>some k_=(.slice Ao17 y280.length co17:Value).ownBlock) _ _ y280 t287 t290 t293 _ ?side1 ?side2 A21.out).mono ?_);(case side1=>exact Kd.R_V (Kd.R_tight rfl (HO_5.out)));(case side2=>exact Kd.R_V (Kd.R_tight rfl (HO_6.out)));rintro e w58 ⟨v288,v291,rfl,ho0,ho1,hb⟩;refine ⟨_,rfl,?_⟩;have n0_:=As0.mk (Kd.R_mono (Kd.R_told (Kd.R_told (Kd.R_old (by (with_reducible repeat (first|apply Kd.R_alloc|apply Kd.R_drewN|apply Kd.R_drew));exact HO_5.out) hb) (Kd.R_base ho0)) (Kd.R_base ho1)) (fun _ h_=>h_.1));have n1_:=As0.mk (Kd.R_mono (Kd.R_told (Kd.R_told (Kd.R_old (by (with_reducible repeat (first|apply Kd.R_alloc|apply Kd.R_drewN|apply Kd.R_drew));exact HO_6.out) hb) (Kd.R_base ho0)) (Kd.R_base ho1)) (fun _ h_=>h_.1));have n2_:=As0.mk (Kd.R_lower (Kd.R_new' (Kd.R_new' (Kd.R_mono (ok':=fun k_=>some k_≠(v291:Value).ownBlock) ho0 (fun _ hk_=>hk_.2)) (Kd.R_lt (by (with_reducible repeat (first|apply Kd.R_alloc|apply Kd.R_drewN|apply Kd.R_drew));exact HO_5.out))) (Kd.R_lt (by (with_reducible repeat (first|apply Kd.R_alloc|apply Kd.R_drewN|apply Kd.R_drew));exact HO_6.out))) (y03 (by repeat (with_reducible exact HB.out))));have n3_:=As0.mk (Kd.R_lower (Kd.R_new' (Kd.R_new' (Kd.R_mono (ok':=fun k_=>some k_≠(v288:Value).ownBlock) ho1 (fun _ hk_=>hk_.2)) (Kd.R_lt (by (with_reducible repeat (first|apply Kd.R_alloc|apply Kd.R_drewN|apply Kd.R_drew));exact HO_5.out))) (Kd.R_lt (by (with_reducible repeat (first|apply Kd.R_alloc|apply Kd.R_drewN|apply Kd.R_drew));exact HO_6.out))) (y03 (by repeat (with_reducible exact HB.out))));have n4_:=As0.mk (y05 (by repeat (with_reducible exact HB.out)) hb);clear HO_5;clear HO_6;clear HB;have HO_5:=n0_;have HO_6:=n1_;have HO289:=n2_;have HO292:=n3_;have HB:=n4_;clear n0_ n1_ n2_ n3_ n4_;(try clear hb);(try clear hb2);(try clear hk);(try clear hi);(try clear ho0);(try clear ho1))|((with_reducible refine y04 (f:=35) rfl ?_);refine y0h (some 56) rfl rfl Tra.func35 (by kernel_rfl) rfl #[.slice A0 l0.length c0,.slice A1 l1.length c1] rfl (by (try simp only [List.map_toArray,List.map_cons,List.map_nil]);rfl) ?_;(with_reducible refine (r6_Meet.calls kj8 _ _ l0 _ _ l1 t294 t295 t296 _ ?side1 ?side2 ?side3 ?side4 A22.out).mono ?_);(case side1=>repeat (exact (Kd.C_below HR0.out HB.out)));(case side2=>exact HC0.out);(case side3=>repeat (exact (Kd.C_below HR1.out HB.out)));(case side4=>exact HC1.out);rintro e w59 ⟨v297,v299,rfl,ho0,ho1,hb⟩;refine ⟨_,rfl,?_⟩;have n0_:=As0.mk (Kd.R_mono (Kd.R_told (Kd.R_told (Kd.R_old (by (with_reducible repeat (first|apply Kd.R_alloc|apply Kd.R_drewN|apply Kd.R_drew));exact HO_5.out) hb) (Kd.R_base ho0)) (Kd.R_base ho1)) (fun _ h_=>h_.1));have n1_:=As0.mk (Kd.R_mono (Kd.R_told (Kd.R_told (Kd.R_old (by (with_reducible repeat (first|apply Kd.R_alloc|apply Kd.R_drewN|apply Kd.R_drew));exact HO_6.out) hb) (Kd.R_base ho0)) (Kd.R_base ho1)) (fun _ h_=>h_.1));have n2_:=As0.mk (Kd.R_mono (Kd.R_told (Kd.R_told (Kd.R_old (by (with_reducible repeat (first|apply Kd.R_alloc|apply Kd.R_drewN|apply Kd.R_drew));exact HO289.out) hb) (Kd.R_base ho0)) (Kd.R_base ho1)) (fun _ h_=>h_.1));have n3_:=As0.mk (Kd.R_mono (Kd.R_told (Kd.R_told (Kd.R_old (by (with_reducible repeat (first|apply Kd.R_alloc|apply Kd.R_drewN|apply Kd.R_drew));exact HO292.out) hb) (Kd.R_base ho0)) (Kd.R_base ho1)) (fun _ h_=>h_.1));have n4_:=As0.mk (Kd.R_lower (Kd.R_new' (Kd.R_new' (Kd.R_new' (Kd.R_new' ho0 (Kd.R_lt (by (with_reducible repeat (first|apply Kd.R_alloc|apply Kd.R_drewN|apply Kd.R_drew));exact HO_5.out))) (Kd.R_lt (by (with_reducible repeat (first|apply Kd.R_alloc|apply Kd.R_drewN|apply Kd.R_drew));exact HO_6.out))) (Kd.R_lt (by (with_reducible repeat (first|apply Kd.R_alloc|apply Kd.R_drewN|apply Kd.R_drew));exact HO289.out))) (Kd.R_lt (by (with_reducible repeat (first|apply Kd.R_alloc|apply Kd.R_drewN|apply Kd.R_drew));exact HO292.out))) (y03 (by repeat (with_reducible exact HB.out))));have n5_:=As0.mk (Kd.R_lower (Kd.R_new' (Kd.R_new' (Kd.R_new' (Kd.R_new' ho1 (Kd.R_lt (by (with_reducible repeat (first|apply Kd.R_alloc|apply Kd.R_drewN|apply Kd.R_drew));exact HO_5.out))) (Kd.R_lt (by (with_reducible repeat (first|apply Kd.R_alloc|apply Kd.R_drewN|apply Kd.R_drew));exact HO_6.out))) (Kd.R_lt (by (with_reducible repeat (first|apply Kd.R_alloc|apply Kd.R_drewN|apply Kd.R_drew));exact HO289.out))) (Kd.R_lt (by (with_reducible repeat (first|apply Kd.R_alloc|apply Kd.R_drewN|apply Kd.R_drew));exact HO292.out))) (y03 (by repeat (with_reducible exact HB.out))));have n6_:=As0.mk (y05 (by repeat (with_reducible exact HB.out)) hb);clear HO_5;clear HO_6;clear HO289;clear HO292;clear HB;have HO_5:=n0_;have HO_6:=n1_;have HO289:=n2_;have HO292:=n3_;have HO298:=n4_;have HO300:=n5_;have HB:=n6_;clear n0_ n1_ n2_ n3_ n4_ n5_ n6_;(try clear hb);(try clear hb2);(try clear hk);(try clear hi);(try clear ho0);(try clear ho1);obtain ⟨Ao60,co60,eo60⟩:=Kd.R_slice HO289.out;subst eo60;obtain ⟨Ao61,co61,eo61⟩:=Kd.R_slice HO298.out;subst eo61)|((with_reducible refine y04 (f:=27) rfl ?_);refine y0h (some 62) rfl rfl Tra.func27 (by kernel_rfl) rfl #[.slice Ao60 t287.length co60,.slice Ao61 t294.length co61] rfl (by (try simp only [List.map_toArray,List.map_cons,List.map_nil]);rfl) ?_;(with_reducible refine (w6_same.calls kj8 _ _ t287 _ _ t294 true _ ?side1 ?side2 ?side3 ?side4 A23.out).mono ?_);(case side1=>repeat (exact (Kd.R_reads' HO289.out).2.2));(case side2=>exact (Kd.R_reads' HO289.out).2.1);(case side3=>repeat (exact (Kd.R_reads' HO298.out).2.2));(case side4=>exact (Kd.R_reads' HO298.out).2.1);rintro e w' ⟨rfl,⟨nd,rfl⟩⟩;refine ⟨_,rfl,?_⟩;obtain ⟨Ao62,co62,eo62⟩:=Kd.R_slice HO292.out;subst eo62;obtain ⟨Ao63,co63,eo63⟩:=Kd.R_slice HO300.out;subst eo63)|(go_at_call 27;(with_reducible refine (w6_same.calls kj8 _ _ t290 _ _ t295 false _ ?side1 ?side2 ?side3 ?side4 A25.out).mono ?_);(case side1=>repeat (exact (Kd.R_reads' HO292.out).2.2));(case side2=>exact (Kd.R_reads' HO292.out).2.1);(case side3=>repeat (exact (Kd.R_reads' HO300.out).2.2));(case side4=>exact (Kd.R_reads' HO300.out).2.1);rintro e w' ⟨rfl,⟨nd,rfl⟩⟩))
         go_ret
         exact ⟨by rfl,by repeat (with_reducible first|exact HB.out|apply y00)⟩
       ·replace c24:=Bool.eq_false_iff.mpr c24
        subst c24;have H1:(some false)=some r:=by rw [if_neg (show ¬ (false=true) by decide)] at H;exact H
        clear H;have H:=H1;clear H1;obtain rfl:=zSi H;go_wp2_with (first|((with_reducible refine y04 (f:=34) rfl ?_);refine y0h (some 49) rfl rfl Tra.func34 (by kernel_rfl) rfl #[.slice Ao16 y274.length co16,.slice Ao17 y280.length co17] rfl (by (try simp only [List.map_toArray,List.map_cons,List.map_nil]);rfl) ?_;(with_reducible refine (mobs_Meet.calls kj8 (fun k_=>some k_=(.slice Ao16 y274.length co16:Value).ownBlock) _ _ y274 (fun k_=>some k_=(.slice Ao17 y280.length co17:Value).ownBlock) _ _ y280 t287 t290 t293 _ ?side1 ?side2 A21.out).mono ?_);(case side1=>exact Kd.R_V (Kd.R_tight rfl (HO_5.out)));(case side2=>exact Kd.R_V (Kd.R_tight rfl (HO_6.out)));rintro e w64 ⟨v288,v291,rfl,ho0,ho1,hb⟩;refine ⟨_,rfl,?_⟩;have n0_:=As0.mk (Kd.R_mono (Kd.R_told (Kd.R_told (Kd.R_old (by (with_reducible repeat (first|apply Kd.R_alloc|apply Kd.R_drewN|apply Kd.R_drew));exact HO_5.out) hb) (Kd.R_base ho0)) (Kd.R_base ho1)) (fun _ h_=>h_.1));have n1_:=As0.mk (Kd.R_mono (Kd.R_told (Kd.R_told (Kd.R_old (by (with_reducible repeat (first|apply Kd.R_alloc|apply Kd.R_drewN|apply Kd.R_drew));exact HO_6.out) hb) (Kd.R_base ho0)) (Kd.R_base ho1)) (fun _ h_=>h_.1));have n2_:=As0.mk (Kd.R_lower (Kd.R_new' (Kd.R_new' (Kd.R_mono (ok':=fun k_=>some k_≠(v291:Value).ownBlock) ho0 (fun _ hk_=>hk_.2)) (Kd.R_lt (by (with_reducible repeat (first|apply Kd.R_alloc|apply Kd.R_drewN|apply Kd.R_drew));exact HO_5.out))) (Kd.R_lt (by (with_reducible repeat (first|apply Kd.R_alloc|apply Kd.R_drewN|apply Kd.R_drew));exact HO_6.out))) (y03 (by repeat (with_reducible exact HB.out))));have n3_:=As0.mk (Kd.R_lower (Kd.R_new' (Kd.R_new' (Kd.R_mono (ok':=fun k_=>some k_≠(v288:Value).ownBlock) ho1 (fun _ hk_=>hk_.2)) (Kd.R_lt (by (with_reducible repeat (first|apply Kd.R_alloc|apply Kd.R_drewN|apply Kd.R_drew));exact HO_5.out))) (Kd.R_lt (by (with_reducible repeat (first|apply Kd.R_alloc|apply Kd.R_drewN|apply Kd.R_drew));exact HO_6.out))) (y03 (by repeat (with_reducible exact HB.out))));have n4_:=As0.mk (y05 (by repeat (with_reducible exact HB.out)) hb);clear HO_5;clear HO_6;clear HB;have HO_5:=n0_;have HO_6:=n1_;have HO289:=n2_;have HO292:=n3_;have HB:=n4_;clear n0_ n1_ n2_ n3_ n4_;(try clear hb);(try clear hb2);(try clear hk);(try clear hi);(try clear ho0);(try clear ho1))|((with_reducible refine y04 (f:=35) rfl ?_);refine y0h (some 56) rfl rfl Tra.func35 (by kernel_rfl) rfl #[.slice A0 l0.length c0,.slice A1 l1.length c1] rfl (by (try simp only [List.map_toArray,List.map_cons,List.map_nil]);rfl) ?_;(with_reducible refine (r6_Meet.calls kj8 _ _ l0 _ _ l1 t294 t295 t296 _ ?side1 ?side2 ?side3 ?side4 A22.out).mono ?_);(case side1=>repeat (exact (Kd.C_below HR0.out HB.out)));(case side2=>exact HC0.out);(case side3=>repeat (exact (Kd.C_below HR1.out HB.out)));(case side4=>exact HC1.out);rintro e w65 ⟨v297,v299,rfl,ho0,ho1,hb⟩;refine ⟨_,rfl,?_⟩;have n0_:=As0.mk (Kd.R_mono (Kd.R_told (Kd.R_told (Kd.R_old (by (with_reducible repeat (first|apply Kd.R_alloc|apply Kd.R_drewN|apply Kd.R_drew));exact HO_5.out) hb) (Kd.R_base ho0)) (Kd.R_base ho1)) (fun _ h_=>h_.1));have n1_:=As0.mk (Kd.R_mono (Kd.R_told (Kd.R_told (Kd.R_old (by (with_reducible repeat (first|apply Kd.R_alloc|apply Kd.R_drewN|apply Kd.R_drew));exact HO_6.out) hb) (Kd.R_base ho0)) (Kd.R_base ho1)) (fun _ h_=>h_.1));have n2_:=As0.mk (Kd.R_mono (Kd.R_told (Kd.R_told (Kd.R_old (by (with_reducible repeat (first|apply Kd.R_alloc|apply Kd.R_drewN|apply Kd.R_drew));exact HO289.out) hb) (Kd.R_base ho0)) (Kd.R_base ho1)) (fun _ h_=>h_.1));have n3_:=As0.mk (Kd.R_mono (Kd.R_told (Kd.R_told (Kd.R_old (by (with_reducible repeat (first|apply Kd.R_alloc|apply Kd.R_drewN|apply Kd.R_drew));exact HO292.out) hb) (Kd.R_base ho0)) (Kd.R_base ho1)) (fun _ h_=>h_.1));have n4_:=As0.mk (Kd.R_lower (Kd.R_new' (Kd.R_new' (Kd.R_new' (Kd.R_new' ho0 (Kd.R_lt (by (with_reducible repeat (first|apply Kd.R_alloc|apply Kd.R_drewN|apply Kd.R_drew));exact HO_5.out))) (Kd.R_lt (by (with_reducible repeat (first|apply Kd.R_alloc|apply Kd.R_drewN|apply Kd.R_drew));exact HO_6.out))) (Kd.R_lt (by (with_reducible repeat (first|apply Kd.R_alloc|apply Kd.R_drewN|apply Kd.R_drew));exact HO289.out))) (Kd.R_lt (by (with_reducible repeat (first|apply Kd.R_alloc|apply Kd.R_drewN|apply Kd.R_drew));exact HO292.out))) (y03 (by repeat (with_reducible exact HB.out))));have n5_:=As0.mk (Kd.R_lower (Kd.R_new' (Kd.R_new' (Kd.R_new' (Kd.R_new' ho1 (Kd.R_lt (by (with_reducible repeat (first|apply Kd.R_alloc|apply Kd.R_drewN|apply Kd.R_drew));exact HO_5.out))) (Kd.R_lt (by (with_reducible repeat (first|apply Kd.R_alloc|apply Kd.R_drewN|apply Kd.R_drew));exact HO_6.out))) (Kd.R_lt (by (with_reducible repeat (first|apply Kd.R_alloc|apply Kd.R_drewN|apply Kd.R_drew));exact HO289.out))) (Kd.R_lt (by (with_reducible repeat (first|apply Kd.R_alloc|apply Kd.R_drewN|apply Kd.R_drew));exact HO292.out))) (y03 (by repeat (with_reducible exact HB.out))));have n6_:=As0.mk (y05 (by repeat (with_reducible exact HB.out)) hb);clear HO_5;clear HO_6;clear HO289;clear HO292;clear HB;have HO_5:=n0_;have HO_6:=n1_;have HO289:=n2_;have HO292:=n3_;have HO298:=n4_;have HO300:=n5_;have HB:=n6_;clear n0_ n1_ n2_ n3_ n4_ n5_ n6_;(try clear hb);(try clear hb2);(try clear hk);(try clear hi);(try clear ho0);(try clear ho1);obtain ⟨Ao66,co66,eo66⟩:=Kd.R_slice HO289.out;subst eo66;obtain ⟨Ao67,co67,eo67⟩:=Kd.R_slice HO298.out;subst eo67)|((with_reducible refine y04 (f:=27) rfl ?_);refine y0h (some 62) rfl rfl Tra.func27 (by kernel_rfl) rfl #[.slice Ao66 t287.length co66,.slice Ao67 t294.length co67] rfl (by (try simp only [List.map_toArray,List.map_cons,List.map_nil]);rfl) ?_;(with_reducible refine (w6_same.calls kj8 _ _ t287 _ _ t294 false _ ?side1 ?side2 ?side3 ?side4 A23.out).mono ?_);(case side1=>repeat (exact (Kd.R_reads' HO289.out).2.2));(case side2=>exact (Kd.R_reads' HO289.out).2.1);(case side3=>repeat (exact (Kd.R_reads' HO298.out).2.2));(case side4=>exact (Kd.R_reads' HO298.out).2.1);rintro e w' ⟨rfl,⟨nd,rfl⟩⟩;refine ⟨_,rfl,?_⟩))
        go_ret
        exact ⟨by rfl,by repeat (with_reducible first|exact HB.out|apply y00)⟩
   ·rw [if_neg c6] at H
    exact absurd H (by simp)
  ·rw [if_neg c5] at H
   exact absurd H (by simp)
 ·replace c4:=Bool.eq_false_iff.mpr c4
  subst c4;have H1:((w6_alive.f).bind fun t270=>(some t270))=some r:=by rw [if_neg (show ¬ (false=true) by decide)] at H;exact H
  clear H;have H:=H1;clear H1;replace H:=Option.bind_eq_some_iff.mp H;obtain ⟨t270,A680,H⟩:=H;replace H:(some t270)=some r:=H;have A68:=As0.mk A680;clear A680;obtain rfl:=zSi H;go_enter Tra.func8,Tra.ntmps8
  go_wp2_with (first|((with_reducible refine y04 (f:=22) rfl ?_);refine y0h (some 17) rfl rfl Tra.func22 (by kernel_rfl) rfl #[.slice A0 l0.length c0,.slice A1 l1.length c1] rfl (by (try simp only [List.map_toArray,List.map_cons,List.map_nil]);rfl) ?_;(with_reducible refine (w6_few.calls _ _ l0 _ _ l1 false _ ?side1 ?side2 ?side3 ?side4 A3.out).mono ?_);(case side1=>repeat (exact HR0.out));(case side2=>exact HC0.out);(case side3=>repeat (exact HR1.out));(case side4=>exact HC1.out);rintro e w' ⟨rfl,⟨nd,rfl⟩⟩;refine ⟨_,rfl,?_⟩)|((with_reducible refine y04 (f:=20) rfl ?_);refine y0h (some 19) rfl rfl Tra.func20 (by kernel_rfl) rfl #[] rfl (by (try simp only [List.map_toArray,List.map_cons,List.map_nil]);done) ?_;(with_reducible refine (w6_alive.calls  t270 _ A68.out).mono ?_);rintro e w69 ⟨rfl,hb⟩;refine ⟨_,rfl,?_⟩;have n0_:=As0.mk (y05 (by repeat (with_reducible first|exact HB.out|apply y00)) hb);clear HB;have HB:=n0_;clear n0_;(try clear hb);(try clear hb2);(try clear hk);(try clear hi)))
  go_ret
  exact ⟨by rfl,by repeat (with_reducible exact HB.out)⟩
def w6_MobsMeets.Pure:Prop:=∀ (l0:List Int) (l1:List Int),l0.length≤maxLen->l0.length * 8≤140737488351232->(∀ x ∈ l0,(Lit.int .i64 x).wf=true)->l1.length≤maxLen->l1.length * 8≤140737488351232->(∀ x ∈ l1,(Lit.int .i64 x).wf=true)->∃ k,w6_MobsMeets.f k l0 l1=some true
theorem w6_MobsMeets.walk (P:w6_MobsMeets.Pure) (a0:Option Addr) (len0 cap0:Nat) (z0:List Int) (a1:Option Addr) (len1 cap1:Nat) (z1:List Int) (w:World) (w0:(a0=none∧len0=0∧cap0=0∧z0=[])∨∃ x,a0=some x∧len0≤cap0∧cap0≤maxLen∧z0.length=cap0∧(∀ i,i<z0.length->w.cell? (x.add i)=some (.int .i64 (z0.getD i 0)))∧∀ n ∈ z0,(Lit.int .i64 n).wf=true) (y0:len0 * 8≤140737488351232) (w1:(a1=none∧len1=0∧cap1=0∧z1=[])∨∃ x,a1=some x∧len1≤cap1∧cap1≤maxLen∧z1.length=cap1∧(∀ i,i<z1.length->w.cell? (x.add i)=some (.int .i64 (z1.getD i 0)))∧∀ n ∈ z1,(Lit.int .i64 n).wf=true) (y1:len1 * 8≤140737488351232) :
  Calls Tra.prog 8 #[.slice a0 len0 cap0,.slice a1 len1 cap1] w fun e w'=>e=.returned (.bool true)∧Below w.heap.size w w':=by
 obtain ⟨l0,rfl,hr0,hm0,hw0,hc0⟩:=ReadsInt.ofRowC w0;obtain ⟨l1,rfl,hr1,hm1,hw1,hc1⟩:=ReadsInt.ofRowC w1;obtain ⟨k,h⟩:=P l0 l1 hm0 y0 hw0 hm1 y1 hw1;refine (w6_MobsMeets.calls k _ _ l0 _ _ l1 true w (Kd.C_of_reads (d:=(0:Int)) (h1:=fun _=>rfl) hr0) hc0 (Kd.C_of_reads (d:=(0:Int)) (h1:=fun _=>rfl) hr1) hc1 h).mono ?_
 rintro e w' ⟨rfl,hd⟩
 exact ⟨rfl,hd⟩
end Go.Proofs.Ytdhgeondbnpeoaa.P
namespace Go.Proofs.Ytdhgeondbnpeoaa.Pl
open Go.RowKit Go.Proofs.Ytdhgeondbnpeoaa.P Go.Proofs.Yw.Wd Go.Proofs.Yw.La Go.Proofs.Ytdhgeondbnpeoaa.Ext
section
def nx (m x:Int):Int:=if x=m then m+1 else m
def st (m:Int) (l:List Int):Int:=l.foldl nx m
theorem nx_bd {m x:Int}:m≤nx m x∧nx m x≤m+1:=by
 unfold nx;split<;>omega
theorem y8p:∀ (l:List Int) (m:Int) (i:Nat),rgs m l=true->0≤m->rgs m (l.take i)=true∧rgs (st m (l.take i)) (l.drop i)=true∧m≤st m (l.take i)∧st m (l.take i)≤m+i
 |l,m,0,h,_=>by simp [st,rgs,h]
 |[],m,i+1,h,_=>by simp [st,rgs];omega
 |x :: l,m,i+1,h,h0=>by
  simp only [rgs,Bool.and_eq_true,decide_eq_true_eq] at h;obtain ⟨h1,h2,h3⟩:=h;have hb:=@nx_bd m x;have h3':rgs (nx m x) l=true:=h3;obtain ⟨a1,a2,a3,a4⟩:=y8p l (nx m x) i h3' (by omega);refine ⟨?_,a2,?_,?_⟩
  ·simp only [List.take_succ_cons,rgs,Bool.and_eq_true,decide_eq_true_eq]
   exact ⟨h1,h2,a1⟩
  ·show m≤st (nx m x) (l.take i)
   omega
  ·show st (nx m x) (l.take i)≤_
   omega
theorem st_snoc {l:List Int} {i:Nat} (h:i<l.length) (m:Int):st m (l.take (i+1))=nx (st m (l.take i)) l[i]:=by
 unfold st;rw [List.take_succ_eq_append_getElem h,List.foldl_append];rfl
def Ev (p:Nat->Prop):Prop:=∃ k0,∀ k,k0≤k->p k
theorem Ev.and {p q:Nat->Prop} (h:Ev p) (h':Ev q):Ev fun k=>p k∧q k:=by
 obtain ⟨a,ha⟩:=h;obtain ⟨b,hb⟩:=h';exact ⟨a+b,fun k hk=>⟨ha k (by omega),hb k (by omega)⟩⟩
theorem Ev.step {p q:Nat->Prop} (h:Ev p) (hs:∀ k,p k->q (k+1)):Ev q:=by
 obtain ⟨a,ha⟩:=h;refine ⟨a+1,fun k hk=>?_⟩;obtain ⟨j,rfl⟩:∃ j,k=j+1:=⟨k - 1,by omega⟩
 exact hs j (ha j (by omega))
theorem Ev.mono {p q:Nat->Prop} (h:Ev p) (hs:∀ k,p k->q k):Ev q:=by
 obtain ⟨a,ha⟩:=h;exact ⟨a,fun k hk=>hs k (ha k hk)⟩
theorem Ev.all {p:Nat->Prop} (h:∀ k,p k):Ev p:=⟨0,fun k _=>h k⟩
theorem Ev.next {q:Nat->Prop} (h:∀ k,q (k+1)):Ev q:=(Ev.all (p:=fun _=>True) fun _=>trivial).step fun k _=>h k
theorem Ev.ge {p:Nat->Prop} (n:Nat) (h:∀ k,n≤k->p k):Ev p:=⟨n,h⟩
theorem Ev.ex {p:Nat->Prop} (h:Ev p):∃ k,p k:=by
 obtain ⟨a,ha⟩:=h;exact ⟨a,ha a (zLe _)⟩
theorem y7c {α:Type} {p:List α->Prop} (h0:p []) (h1:∀ l x,p l->p (l ++ [x])) (l:List α):p l:=by
 have h:∀ r:List α,p r.reverse:=by
  intro r
  induction r with
  |nil=>exact h0
  |cons x r ih =>
   rw [List.reverse_cons];exact h1 _ _ ih
 simpa using h l.reverse
section
variable {α:Type} [DecidableEq α]
def y0u (l:List α):List α:=(y1v l).1
theorem y49 (l:List α) (x:α):y0u (l ++ [x])=met (y0u l) x:=by
 unfold y0u;rw [y4e];rfl
theorem y5v (l:List α) (x:α):numL (l ++ [x])=numL l ++ [((met (y0u l) x).idxOf x:Int)]:=by
 unfold y0u numL;rw [y4e];rfl
theorem mem_met {S:List α} {x y:α}:y ∈ met S x ↔ y ∈ S∨y=x:=by
 unfold met;split
 ·rename_i h
  exact ⟨Or.inl,fun h'=>h'.elim id fun e=>e ▸ h⟩
 ·simp
theorem y4z {x:α} (l:List α):x ∈ y0u l ↔ x ∈ l:=by
 refine y7c (p:=fun l=>x ∈ y0u l ↔ x ∈ l) (by simp [y0u,y1v]) (fun l y ih=>?_) l;rw [y49,mem_met,ih];simp
theorem met_idx {S:List α} {x y:α} (h:y ∈ S):(met S x).idxOf y=S.idxOf y:=by
 unfold met;split
 ·rfl
 ·rw [List.idxOf_append,if_pos h]
theorem yf2 (l:List α):numL l=l.map fun x=>(((y0u l).idxOf x:Nat):Int):=by
 refine y7c (p:=fun l=>numL l=l.map fun x=>(((y0u l).idxOf x:Nat):Int)) rfl (fun l y ih=>?_) l;rw [y5v,y49,List.map_append,ih]
 congr 1
 refine List.map_congr_left fun x hx=>?_
 rw [met_idx ((y4z l).2 hx)]
theorem y7z {l:List α} {i:Nat} (h:i<l.length):(numL l).getD i 0=(((y0u l).idxOf l[i]:Nat):Int):=by
 rw [yf2,List.getD_eq_getElem?_getD,List.getElem?_map,List.getElem?_eq_getElem h];rfl
theorem idx_inj {S:List α} {x y:α} (hx:x ∈ S) (h:S.idxOf x=S.idxOf y):x=y:=by
 have h1:S.idxOf x<S.length:=List.idxOf_lt_length_iff.2 hx;have h2:S.idxOf y<S.length:=h ▸ h1;rw [← List.getElem_idxOf h1,← List.getElem_idxOf h2];simp only [h]
theorem y7y {l:List α} {i j:Nat} (hi:i<l.length) (hj:j<l.length):(numL l).getD i 0=(numL l).getD j 0 ↔ l[i]=l[j]:=by
 rw [y7z hi,y7z hj];refine ⟨fun h=>idx_inj ((y4z l).2 (List.getElem_mem hi)) (by omega),fun h=>by rw [h]⟩
theorem st_app (m:Int) (l:List Int) (x:Int):st m (l ++ [x])=nx (st m l) x:=by
 unfold st;rw [List.foldl_append];rfl
theorem y9u:∀ (l:List Int) (m x:Int),rgs m l=true->0≤x->x≤st m l->rgs m (l ++ [x])=true
 |[],m,x,_,h0,h1=>by
  simp only [List.nil_append,rgs,Bool.and_eq_true,decide_eq_true_eq];exact ⟨h0,h1,trivial⟩
 |y :: l,m,x,h,h0,h1=>by
  simp only [List.cons_append,rgs,Bool.and_eq_true,decide_eq_true_eq] at h ⊢;exact ⟨h.1,h.2.1,y9u l _ x h.2.2 h0 h1⟩
theorem y4y (l:List α):rgs 0 (numL l)=true∧st 0 (numL l)=((y0u l).length:Int):=by
 refine y7c (p:=fun l=>rgs 0 (numL l)=true∧st 0 (numL l)=((y0u l).length:Int)) ⟨rfl,rfl⟩ (fun l x ih=>?_) l;obtain ⟨h1,h2⟩:=ih;rw [y5v,y49,st_app,h2]
 by_cases hx:x ∈ y0u l
 ·have h3:=List.idxOf_lt_length_iff.2 hx
  rw [met,if_pos hx,nx,if_neg (by omega)];exact ⟨y9u _ _ _ h1 (by omega) (by omega),rfl⟩
 ·have h3:(y0u l ++ [x]).idxOf x=(y0u l).length:=by
   rw [List.idxOf_append,if_neg hx];simp
  rw [met,if_neg hx,h3,nx,if_pos rfl];exact ⟨y9u _ _ _ h1 (by omega) (by omega),by simp⟩
end
def KE (l l':List Int):Prop:=l.length=l'.length∧∀ i j,i<l.length->j<l.length->(l.getD i 0=l.getD j 0 ↔ l'.getD i 0=l'.getD j 0)
theorem KE.symm {l l':List Int} (h:KE l l'):KE l' l:=⟨h.1.symm,fun i j hi hj=>(h.2 i j (by rw [h.1];exact hi) (by rw [h.1];exact hj)).symm⟩
theorem KE.trans {l l' l'':List Int} (h:KE l l') (h':KE l' l''):KE l l'':=⟨h.1.trans h'.1,fun i j hi hj=>(h.2 i j hi hj).trans (h'.2 i j (by rw [← h.1];exact hi) (by rw [← h.1];exact hj))⟩
theorem y0v {l:List Int} {i:Nat} (h:i<l.length):l.getD i 0=l[i]:=by simp [List.getD_eq_getElem?_getD,List.getElem?_eq_getElem h]
theorem KE.num (l:List Int):KE (numL l) l:=⟨y2e l,fun i j hi hj=>by
 rw [y2e] at hi hj;rw [y7y hi hj,y0v hi,y0v hj]⟩
theorem st_occ {l:List Int} (hr:rgs 0 l=true):∀ (i:Nat) (v:Int),i≤l.length->0≤v->v<st 0 (l.take i)->∃ j,j<i∧l.getD j 0=v
 |0,v,_,h0,h1=>absurd h1 (by simp [st];omega)
 |i+1,v,hi,h0,h1=>by
  rw [st_snoc (show i<l.length by omega)] at h1
  by_cases h:v<st 0 (l.take i)
  ·obtain ⟨j,hj,e⟩:=st_occ hr i v (by omega) h0 h
   exact ⟨j,by omega,e⟩
  ·unfold nx at h1
   split at h1
   ·rename_i e
    refine ⟨i,by omega,?_⟩;rw [y0v (show i<l.length by omega),e];omega
   ·omega
theorem rgs_at {l:List Int} (hr:rgs 0 l=true) {i:Nat} (hi:i<l.length):0≤l.getD i 0∧l.getD i 0≤st 0 (l.take i):=by
 obtain ⟨_,q2,_,_⟩:=y8p l 0 i hr (Int.le_refl _);rw [List.drop_eq_getElem_cons hi] at q2;simp only [rgs,Bool.and_eq_true,decide_eq_true_eq] at q2;rw [y0v hi];exact ⟨q2.1,q2.2.1⟩
theorem ycy {l:List Int} (hr:rgs 0 l=true) {i:Nat} (hi:i<l.length) (hn:∀ j,j<i->l.getD i 0≠l.getD j 0):l.getD i 0=st 0 (l.take i):=by
 obtain ⟨h0,h1⟩:=rgs_at hr hi
 by_cases h:l.getD i 0=st 0 (l.take i)
 ·exact h
 ·obtain ⟨j,hj,e⟩:=st_occ hr i (l.getD i 0) (by omega) h0 (by omega)
  exact absurd e.symm (hn j hj)
theorem KE.eq {l l':List Int} (h:KE l l') (hr:rgs 0 l=true) (hr':rgs 0 l'=true):l=l':=by
 have hp:∀ i,i≤l.length->l.take i=l'.take i:=by
  intro i
  induction i with
  |zero=>intro _;rfl
  |succ i ih =>
   intro hi;have e:=ih (by omega);have h1:i<l.length:=by omega
   have h2:i<l'.length:=by rw [← h.1];exact h1
   have hj':∀ j,j<i->l.getD j 0=l'.getD j 0:=by
    intro j hj;have e1:=congrArg (fun t=>t.getD j 0) e;simp only [List.getD_eq_getElem?_getD,List.getElem?_take,if_pos hj] at e1;simpa [List.getD_eq_getElem?_getD] using e1
   have hv:l.getD i 0=l'.getD i 0:=by
    by_cases hx:∃ j,j<i∧l.getD i 0=l.getD j 0
    ·obtain ⟨j,hj,e1⟩:=hx
     rw [(h.2 i j h1 (by omega)).1 e1,e1,hj' j hj]
    ·rw [ycy hr h1 fun j hj e1=>hx ⟨j,hj,e1⟩,ycy hr' h2 fun j hj e1=>hx ⟨j,hj,(h.2 i j h1 (by omega)).2 e1⟩,e]
   rw [List.take_succ_eq_append_getElem h1,List.take_succ_eq_append_getElem h2,e,← y0v h1,← y0v h2,hv]
 have:=hp l.length (zLe _)
 rwa [List.take_of_length_le (zLe _),List.take_of_length_le (by rw [h.1];exact zLe _)] at this
theorem ybz {l l':List Int} (h:KE l l'):numL l=numL l' :=
 (((KE.num l).trans h).trans (KE.num l').symm).eq (y4y l).1 (y4y l').1
theorem mem_tk {l:List Int} {m:Nat} {v:Int}:v ∈ l.take m ↔ ∃ x,x<m∧x<l.length∧l.getD x 0=v:=by
 rw [List.mem_iff_getElem];constructor
 ·rintro ⟨x,hx,e⟩
  rw [List.length_take] at hx;refine ⟨x,by omega,by omega,?_⟩;rw [y0v (by omega),← e,List.getElem_take]
 ·rintro ⟨x,h1,h2,e⟩
  refine ⟨x,by rw [List.length_take];omega,?_⟩;rw [List.getElem_take,← y0v h2,e]
theorem yaq {l:List Int} {i:Nat} (hi:i<l.length):numL (l.take (i+1))=numL (l.take i) ++ [((met (y0u (l.take i)) l[i]).idxOf l[i]:Int)]:=by
 rw [List.take_succ_eq_append_getElem hi,y5v]
theorem y8g {l:List Int} {i:Nat} (hi:i<l.length):y0u (l.take (i+1))=met (y0u (l.take i)) l[i]:=by
 rw [List.take_succ_eq_append_getElem hi,y49]
theorem nbd_l1 {l:List Int} (hn:l.length≤40) {i:Nat} (hi:i<l.length) {R:Option (List Int)} (h:Ev fun k=>r6_numbered.l0 k l (numL (l.take (i+1))) ((y0u (l.take (i+1))).length:Int) ((i:Int)+1)=R):∀ d j,j+d=i->(∀ j',j'<j->l.getD j' 0≠l.getD i 0)->Ev fun k=>r6_numbered.l1 k l (numL (l.take i)) ((y0u (l.take i)).length:Int) (i:Int) (-1) (j:Int)=R
 |0,j,hj,hno=>by
  have hlen:(numL (l.take i)).length≤40:=by rw [y2e,List.length_take];omega
  have hk1:(y0u (l.take i)).length≤40:=by
   have:=(y46 (l.take i)).2;unfold y0u;rw [List.length_take] at this;omega
  have hx:¬ l[i] ∈ y0u (l.take i):=by
   rw [y4z,mem_tk]
   rintro ⟨x,h1,h2,h3⟩
   exact hno x (by omega) (by rw [h3,y0v hi])
  rw [yaq hi,y8g hi,met,if_neg hx,List.idxOf_append,if_neg hx] at h;have e0:List.idxOf l[i] [l[i]]=0:=by simp
  rw [e0,List.length_append,List.length_singleton] at h;refine (h.step (q:=fun k=>r6_numbered.j2 k l (numL (l.take i)) ((y0u (l.take i)).length:Int) (i:Int) (-1) (j:Int) false=R) fun k hk=>?_).step fun k hk=>?_
  ·rw [r6_numbered.j2,if_neg (by decide),if_pos (by omega),if_pos (by omega),w64 (x:=((y0u (l.take i)).length:Int)+1) (by omega) (by omega),w64 (x:=(i:Int)+1) (by omega) (by omega)]
   refine Eq.trans ?_ hk
   congr 2
   simp
  ·rw [r6_numbered.l1,if_neg (by omega)]
   exact hk
 |d+1,j,hj,hno=>by
  have hlen:(numL (l.take i)).length=i:=by rw [y2e,List.length_take];omega
  by_cases he:l.getD j 0=l.getD i 0
  ·have hjt:j<(l.take i).length:=by rw [List.length_take];omega
   have hv:rd (numL (l.take i)) (j:Int)=(((y0u (l.take i)).idxOf l[i]:Nat):Int):=by
    rw [y0p,y7z hjt,List.getElem_take];rw [y0v (by omega),y0v hi] at he;rw [he]
   have hx:l[i] ∈ y0u (l.take i):=by
    rw [y4z,mem_tk];exact ⟨j,by omega,by omega,by rw [he,y0v hi]⟩
   rw [yaq hi,y8g hi,met,if_pos hx] at h;have h1:Ev fun k=>r6_numbered.j2 k l (numL (l.take i)) ((y0u (l.take i)).length:Int) (i:Int) (((y0u (l.take i)).idxOf l[i]:Nat):Int) ((j:Int)+1) false=R:=h.step fun k hk=>by
    rw [r6_numbered.j2,if_neg (by decide),if_neg (by omega),if_pos (by omega),w64 (x:=(i:Int)+1) (by omega) (by omega)];exact hk
   have h2:Ev fun k=>r6_numbered.l1 k l (numL (l.take i)) ((y0u (l.take i)).length:Int) (i:Int) (((y0u (l.take i)).idxOf l[i]:Nat):Int) ((j:Int)+1)=R:=h1.step fun k hk=>by
    rw [r6_numbered.l1]
    by_cases hji:(j:Int)+1<(i:Int)
    ·rw [if_pos hji,zDf (by omega)]
     exact hk
    ·rw [if_neg hji]
     exact hk
   refine (h2.step (q:=fun k=>r6_numbered.j2 k l (numL (l.take i)) ((y0u (l.take i)).length:Int) (i:Int) (-1) (j:Int) true=R) fun k hk=>?_).step fun k hk=>?_
   ·rw [r6_numbered.j2,if_pos rfl,if_pos (by omega),if_pos (by omega),if_pos (by omega),if_pos (by omega),y0p,y0p,if_pos he,if_pos (by omega),hv,w64 (x:=(j:Int)+1) (by omega) (by omega)]
    exact hk
   ·rw [r6_numbered.l1,if_pos (by omega),zDt (by omega)]
    exact hk
  ·have ih:=nbd_l1 hn hi h d (j+1) (by omega) (fun j' hj'=>by
    by_cases e:j'=j
    ·exact e ▸ he
    ·exact hno j' (by omega))
   rw [show ((j+1:Nat):Int)=(j:Int)+1 by omega] at ih;refine (ih.step (q:=fun k=>r6_numbered.j2 k l (numL (l.take i)) ((y0u (l.take i)).length:Int) (i:Int) (-1) (j:Int) true=R) fun k hk=>?_).step fun k hk=>?_
   ·rw [r6_numbered.j2,if_pos rfl,if_pos (by omega),if_pos (by omega),if_pos (by omega),if_pos (by omega),y0p,y0p,if_neg he,w64 (x:=(j:Int)+1) (by omega) (by omega)]
    exact hk
   ·rw [r6_numbered.l1,if_pos (by omega),zDt (by omega)]
    exact hk
theorem nbd_l0 {l:List Int} (hn:l.length≤40):∀ d i,i+d=l.length->Ev fun k=>r6_numbered.l0 k l (numL (l.take i)) ((y0u (l.take i)).length:Int) (i:Int)=some (numL l)
 |0,i,hi=>Ev.next fun k=>by
  rw [r6_numbered.l0,if_neg (by omega),List.take_of_length_le (by omega)]
 |d+1,i,hi=>by
  have ih:=nbd_l0 hn d (i+1) (by omega);rw [show ((i+1:Nat):Int)=(i:Int)+1 by omega] at ih;refine (nbd_l1 hn (by omega) ih i 0 (by omega) (fun j' hj'=>by omega)).step fun k hk=>?_
  rw [r6_numbered.l0,if_pos (by omega)];exact hk
theorem y5u {l:List Int} (hn:l.length≤40):Ev fun k=>r6_numbered.f k l=some (numL l):=nbd_l0 hn l.length 0 (Nat.zero_add _)
end
section
def To (a c:List Int) (n:Nat):Prop:=∀ i j,i<n->j<n->a.getD i 0=a.getD j 0->c.getD i 0=c.getD j 0
structure Join (a b e:List Int) (n:Nat):Prop where
 len:e.length=n
 la:To a e n
 lb:To b e n
 fin:∀ c,To a c n->To b c n->To e c n
theorem Join.ke {a b e e':List Int} {n:Nat} (h:Join a b e n) (h':Join a b e' n):KE e e' :=
 ⟨h.len.trans h'.len.symm,fun i j hi hj=>⟨fun hh=>h.fin e' h'.la h'.lb i j (h.len ▸ hi) (h.len ▸ hj) hh,fun hh=>h'.fin e h.la h.lb i j (h.len ▸ hi) (h.len ▸ hj) hh⟩⟩
theorem yer (x y:Int) {o:List Int} {i:Nat} (h:i<o.length):(y3q x y o).getD i 0=if o.getD i 0=x then y else o.getD i 0:=by
 rw [y0v (by rw [y2t];exact h),y0v h];simp [y3q]
def Mid (a b o:List Int) (n:Nat):Prop:=o.length=n∧To a o n∧∀ c,To a c n->To b c n->To o c n
theorem yf4 {a b o:List Int} {n i k:Nat} (hi:i<n) (hk:k<n) (h:Mid a b o n):Mid a b (y27 b i k o) n∧To o (y27 b i k o) n∧(b.getD i 0=b.getD k 0->(y27 b i k o).getD i 0=(y27 b i k o).getD k 0):=by
 obtain ⟨hl,h1,h2⟩:=h;unfold y27
 by_cases hs:b.getD i 0≠b.getD k 0∨o.getD i 0=o.getD k 0
 ·rw [if_pos hs]
  exact ⟨⟨hl,h1,h2⟩,fun _ _ _ _ e=>e,fun e=>hs.resolve_left (fun hn=>hn e)⟩
 ·rw [if_neg hs]
  have hb:b.getD i 0=b.getD k 0:=Classical.byContradiction fun hn=>hs (.inl hn)
  have hat:∀ x,x<n->(y3q (o.getD i 0) (o.getD k 0) o).getD x 0=if o.getD x 0=o.getD i 0 then o.getD k 0 else o.getD x 0:=fun x hx=>yer _ _ (by omega)
  have hto:To o (y3q (o.getD i 0) (o.getD k 0) o) n:=fun x y hx hy e=>by rw [hat x hx,hat y hy,e]
  refine ⟨⟨by rw [y2t,hl],fun x y hx hy e=>hto x y hx hy (h1 x y hx hy e),fun c ca cb x y hx hy e=>?_⟩,hto,fun _=>?_⟩
  ·have hc:=h2 c ca cb
   have hik:c.getD i 0=c.getD k 0:=cb i k hi hk hb;rw [hat x hx,hat y hy] at e
   by_cases ex:o.getD x 0=o.getD i 0
   ·rw [if_pos ex] at e
    have cx:=hc x i hx hi ex
    by_cases ey:o.getD y 0=o.getD i 0
    ·rw [cx,hc y i hy hi ey]
    ·rw [if_neg ey] at e
     rw [cx,hik,hc k y hk hy e]
   ·rw [if_neg ex] at e
    by_cases ey:o.getD y 0=o.getD i 0
    ·rw [if_pos ey] at e
     rw [hc x k hx hk e,hc y i hy hi ey,hik]
    ·rw [if_neg ey] at e
     exact hc x y hx hy e
  ·rw [hat i hi,hat k hk,if_pos rfl]
   split<;>rfl
theorem mid_in {a b:List Int} {n i:Nat} (hi:i<n):∀ (k:Nat) (o:List Int),k≤n->Mid a b o n->Mid a b (y38 b i k o) n∧To o (y38 b i k o) n∧∀ q,q<k->b.getD i 0=b.getD q 0->(y38 b i k o).getD i 0=(y38 b i k o).getD q 0
 |0,o,_,h=>⟨h,fun _ _ _ _ e=>e,fun q hq=>by omega⟩
 |k+1,o,hk,h=>by
  obtain ⟨m1,m2,m3⟩:=mid_in hi k o (by omega) h;obtain ⟨s1,s2,s3⟩:=yf4 (b:=b) hi (show k<n by omega) m1;refine ⟨s1,fun x y hx hy e=>s2 x y hx hy (m2 x y hx hy e),fun q hq e=>?_⟩;rcases (show q<k∨q=k by omega) with h'|rfl
  ·exact s2 i q hi (by omega) (m3 q h' e)
  ·exact s3 e
theorem ydr {a b:List Int} {n:Nat}:∀ (i:Nat) (o:List Int),i≤n->Mid a b o n->Mid a b (y1i b i o) n∧To o (y1i b i o) n∧∀ p q,p<i->q<p->b.getD p 0=b.getD q 0->(y1i b i o).getD p 0=(y1i b i o).getD q 0
 |0,o,_,h=>⟨h,fun _ _ _ _ e=>e,fun p q hp=>by omega⟩
 |i+1,o,hi,h=>by
  obtain ⟨m1,m2,m3⟩:=ydr i o (by omega) h;obtain ⟨s1,s2,s3⟩:=mid_in (a:=a) (b:=b) (show i<n by omega) i _ (by omega) m1;refine ⟨s1,fun x y hx hy e=>s2 x y hx hy (m2 x y hx hy e),fun p q hp hq e=>?_⟩;rcases (show p<i∨p=i by omega) with h'|rfl
  ·exact s2 p q (by omega) (by omega) (m3 p q h' hq e)
  ·exact s3 q hq e
theorem yfa {a b:List Int} (hl:a.length=b.length):Join a b (y1i b b.length a) a.length:=by
 obtain ⟨⟨h1,h2,h3⟩,_,h4⟩:=ydr (a:=a) (b:=b) (n:=a.length) b.length a (by omega) ⟨rfl,fun _ _ _ _ e=>e,fun c ca _=>ca⟩;refine ⟨h1,h2,fun i j hi hj e=>?_,h3⟩;rcases Nat.lt_trichotomy i j with h|rfl|h
 ·exact (h4 j i (by omega) h e.symm).symm
 ·rfl
 ·exact h4 i j (by omega) h e
theorem yfn {a b e:List Int} (hl:a.length=b.length) (h:Join a b e a.length):aboveL a b=numL e:=ybz ((yfa hl).ke h)
theorem yfk {a b:List Int} (hl:a.length=b.length) {both:List Int} (hb:both.length=a.length) (h:∀ i j,i<a.length->j<a.length->(both.getD i 0=both.getD j 0 ↔ a.getD i 0=a.getD j 0∧b.getD i 0=b.getD j 0)):numL (a.zip b)=numL both:=by
 have hz:(a.zip b).length=a.length:=by rw [List.length_zip];omega
 have hk:KE (numL (a.zip b)) (numL both):=by
  refine ⟨by rw [y2e,y2e,hz,hb],fun i j hi hj=>?_⟩;rw [y2e,hz] at hi hj;rw [y7y (by omega) (by omega),y7y (by omega) (by omega),← y0v (by omega),← y0v (by omega),h i j hi hj,List.getElem_zip,List.getElem_zip,Prod.mk.injEq,← y0v (by omega),← y0v (by omega),← y0v (by omega),← y0v (by omega)]
 exact hk.eq (y4y _).1 (y4y _).1
end
section
theorem y94 (l:List Int) {k:Nat} (hk:30≤k):r6_Parting.f k l=some (if l.length≤12 then (if isP l=true then 0 else 2) else 3):=by
 unfold r6_Parting.f
 by_cases hl:l.length≤12
 ·rw [if_neg (by omega),if_pos hl,ref_isP l hk]
  simp only [Option.bind_some]
  by_cases hp:isP l=true
  ·rw [if_pos hp,if_pos hp]
  ·rw [if_neg hp,if_neg hp]
 ·rw [if_pos (by omega),if_neg hl]
theorem two_f (a b:List Int) {k:Nat} (hk:30≤k):r6_two.f k a b=some (y2o a b):=by
 unfold r6_two.f y2o;rw [y94 a hk,y94 b hk];simp only [Option.bind_some]
 by_cases h1:a.length≤12
 ·by_cases h2:isP a=true
  ·by_cases h3:b.length≤12
   ·by_cases h4:isP b=true
    ·by_cases h5:a.length=b.length
     ·simp [h1,h2,h3,h4,h5]
     ·have:¬ (a.length:Int)=b.length:=by omega
      simp [h1,h2,h3,h4,h5,this]
    ·simp [h1,h2,h3,h4]
   ·simp [h1,h2,h3]
  ·simp [h1,h2]
 ·simp [h1]
theorem y70 (a b:List Int):∀ k,(∀ i,r6_finer.l0 k a b i=mobs_finer.l0 k a b (a.length:Int) i)∧∀ i j,r6_finer.l1 k a b i j=mobs_finer.l1 k a b i (a.length:Int) i i j
 |0=>⟨fun _=>by simp [r6_finer.l0,mobs_finer.l0],fun _ _=>by simp [r6_finer.l1,mobs_finer.l1]⟩
 |k+1=>by
  obtain ⟨h0,h1⟩:=y70 a b k;refine ⟨fun i=>?_,fun i j=>?_⟩
  ·unfold r6_finer.l0 mobs_finer.l0
   rw [h1]
  ·unfold r6_finer.l1 mobs_finer.l1
   simp only [h0,h1]
theorem ycb (a b:List Int) {k:Nat} (hk:30≤k):r6_Finer.f k a b=mobs_Finer.f k a b:=by
 unfold r6_Finer.f mobs_Finer.f r6_finer.f mobs_finer.f;rw [two_f a b hk,y4v a b hk,(y70 a b k).1 0]
open Classical in
theorem yek (a b:List Int) {k:Nat} (hk:200≤k):mobs_Finer.f k a b=some (if y2o a b=0 then (decide (Fin a b),0) else (false,y2o a b)):=by
 unfold mobs_Finer.f;rw [y4v a b (by omega)];simp only [Option.bind_some]
 by_cases h:y2o a b=0
 ·obtain ⟨h1,h2,h3⟩:=y22 h
  rw [if_pos h,if_pos h,finer_f h3 (y2b h1) hk];rfl
 ·rw [if_neg h,if_neg h]
def sumN:List Int->Nat
 |[]=>0
 |x :: l=>x.toNat+sumN l
theorem ycp:∀ (e:List Int) (i:Nat) (v:Int),i<e.length->0≤v->v<e.getD i 0->sumN (e.set i v)<sumN e
 |[],i,v,h,_,_=>absurd h (by simp)
 |x :: l,0,v,_,h0,h1=>by
  have h1':v<x:=h1;simp only [List.set_cons_zero,sumN];omega
 |x :: l,i+1,v,h,h0,h1=>by
  have:=ycp l i v (by simpa using h) h0 h1;simp only [List.set_cons_succ,sumN];omega
theorem yfc {e:List Int} {i x:Nat} {v:Int} (hi:i<e.length):(e.set i v).getD x 0=if x=i then v else e.getD x 0:=by
 rw [List.getD_eq_getElem?_getD,List.getElem?_set]
 by_cases h:x=i
 ·subst h
  rw [if_pos rfl,if_pos hi,if_pos rfl];rfl
 ·rw [if_neg (fun hh=>h hh.symm),if_neg h,List.getD_eq_getElem?_getD]
def Rl (a b:List Int) (p q:Nat):Prop:=a.getD p 0=a.getD q 0∨b.getD p 0=b.getD q 0
structure Lab (a b e:List Int) (n:Nat):Prop where
 len:e.length=n
 pos:∀ i,i<n->0≤e.getD i 0
 fin:∀ c,To a c n->To b c n->To e c n
theorem Lab.upd {a b e:List Int} {n i j:Nat} (h:Lab a b e n) (hi:i<n) (hj:j<n) (hr:Rl a b i j):Lab a b (e.set i (e.getD j 0)) n:=by
 have hl:=h.len;have hat:∀ x,(e.set i (e.getD j 0)).getD x 0=if x=i then e.getD j 0 else e.getD x 0:=fun x=>yfc (by omega)
 refine ⟨by simpa using hl,fun x hx=>?_,fun c ca cb x y hx hy he=>?_⟩
 ·rw [hat]
  split
  ·exact h.pos j hj
  ·exact h.pos x hx
 ·have hc:=h.fin c ca cb
  have hij:c.getD i 0=c.getD j 0:=hr.elim (ca i j hi hj) (cb i j hi hj);rw [hat,hat] at he
  by_cases hx':x=i
  ·subst hx'
   by_cases hy':y=x
   ·rw [hy']
   ·rw [if_pos rfl,if_neg hy'] at he
    rw [hij];exact hc j y hj hy he
  ·by_cases hy':y=i
   ·subst hy'
    rw [if_neg hx',if_pos rfl] at he;rw [hij];exact hc x j hx hj he
   ·rw [if_neg hx',if_neg hy'] at he
    exact hc x y hx hy he
section
variable {a b both:List Int} {n s:Nat} {R:Option (List Int × List Int × Int)}
def Done (a b e:List Int) (n i j:Nat):Prop:=∀ p q,(p<i∨(p=i∧q<j))->q<n->Rl a b p q->e.getD p 0≤e.getD q 0
def InP (a b e:List Int) (n s:Nat) (again:Bool) (i j:Nat):Prop:=Lab a b e n∧((again=true∧sumN e<s)∨(again=false∧sumN e=s∧Done a b e n i j))
theorem pass3 (ha:a.length=n) (hb:b.length=n) (hn:n≤12) {i:Nat} (hi:i<n) (hk:∀ e again,InP a b e n s again (i+1) 0->Ev fun k=>r6_Meet.l2 k a b both e again ((i:Int)+1)=R):∀ d j e again,j+d=n->InP a b e n s again i j->Ev fun k=>r6_Meet.l3 k a b both e again (i:Int) (j:Int)=R
 |0,j,e,again,hd,h=>by
  have hin:InP a b e n s again (i+1) 0:=⟨h.1,h.2.imp id fun ⟨h1,h2,h3⟩=>⟨h1,h2,fun p q hp hq hr=>by
   rcases hp with hp|⟨_,hp⟩
   ·rcases (show p<i∨p=i by omega) with h'|h'
    ·exact h3 p q (.inl h') hq hr
    ·exact h3 p q (.inr ⟨h',by omega⟩) hq hr
   ·omega⟩⟩
  refine (hk e again hin).step fun k hk'=>?_
  unfold r6_Meet.l3;rw [if_neg (by omega),w64 (by omega) (by omega)];exact hk'
 |d+1,j,e,again,hd,h=>by
  have hlen:=h.1.len;have hstay:(Rl a b i j->e.getD i 0≤e.getD j 0)->Ev fun k=>r6_Meet.l3 k a b both e again (i:Int) ((j+1:Nat):Int)=R:=fun hle=>pass3 ha hb hn hi hk d (j+1) e again (by omega) ⟨h.1,h.2.imp id fun ⟨h1,h2,h3⟩=>⟨h1,h2,fun p q hp hq hr=>by
   rcases hp with hp|⟨rfl,hp⟩
   ·exact h3 p q (.inl hp) hq hr
   ·rcases (show q<j∨q=j by omega) with h'|rfl
    ·exact h3 p q (.inr ⟨rfl,h'⟩) hq hr
    ·exact hle hr⟩⟩
  have hmove:Rl a b i j->e.getD j 0<e.getD i 0->Ev fun k=>r6_Meet.l3 k a b both (e.set i (e.getD j 0)) true (i:Int) ((j+1:Nat):Int)=R:=fun hr hlt=>pass3 ha hb hn hi hk d (j+1) _ true (by omega) ⟨h.1.upd hi (by omega) hr,.inl ⟨rfl,by
   have:=ycp e i _ (by omega) (h.1.pos j (by omega)) hlt;rcases h.2 with ⟨_,h'⟩|⟨_,h',_⟩<;>omega⟩⟩
  have ew:((j:Int)+1)=((j+1:Nat):Int):=by omega
  by_cases h1:a.getD i 0=a.getD j 0
  ·by_cases h2:e.getD j 0<e.getD i 0
   ·refine (hmove (.inl h1) h2).step fun k hk'=>?_
    unfold r6_Meet.l3;rw [y0p,y0p,y0p,y0p,y0p,y0p];rw [if_pos (by omega),if_pos (by omega),if_pos (by omega),if_pos (by omega),if_pos h1,if_pos (by omega),if_pos (by omega),if_pos (by omega),w64 (by omega) (by omega),ew,Int.toNat_natCast];exact hk'
   ·refine (hstay fun _=>by omega).step fun k hk'=>?_
    unfold r6_Meet.l3;rw [y0p,y0p,y0p,y0p,y0p,y0p];rw [if_pos (by omega),if_pos (by omega),if_pos (by omega),if_pos (by omega),if_pos h1,if_pos (by omega),if_pos (by omega),if_neg (by omega),w64 (by omega) (by omega),ew];exact hk'
  ·by_cases h3:b.getD i 0=b.getD j 0
   ·by_cases h2:e.getD j 0<e.getD i 0
    ·refine (hmove (.inr h3) h2).step fun k hk'=>?_
     unfold r6_Meet.l3;rw [y0p,y0p,y0p,y0p,y0p,y0p];rw [if_pos (by omega),if_pos (by omega),if_pos (by omega),if_pos (by omega),if_neg h1,if_pos (by omega),if_pos (by omega),if_pos h3,if_pos (by omega),if_pos (by omega),if_pos (by omega),w64 (by omega) (by omega),ew,Int.toNat_natCast];exact hk'
    ·refine (hstay fun _=>by omega).step fun k hk'=>?_
     unfold r6_Meet.l3;rw [y0p,y0p,y0p,y0p,y0p,y0p];rw [if_pos (by omega),if_pos (by omega),if_pos (by omega),if_pos (by omega),if_neg h1,if_pos (by omega),if_pos (by omega),if_pos h3,if_pos (by omega),if_pos (by omega),if_neg (by omega),w64 (by omega) (by omega),ew];exact hk'
   ·refine (hstay fun hr=>(hr.elim h1 h3).elim).step fun k hk'=>?_
    unfold r6_Meet.l3;rw [y0p,y0p,y0p,y0p,y0p,y0p];rw [if_pos (by omega),if_pos (by omega),if_pos (by omega),if_pos (by omega),if_neg h1,if_pos (by omega),if_pos (by omega),if_neg h3,w64 (by omega) (by omega),ew];exact hk'
theorem pass2 (ha:a.length=n) (hb:b.length=n) (hn:n≤12) (hk:∀ e again,InP a b e n s again n 0->Ev fun k=>r6_Meet.l1 k a b both e again=R):∀ d i e again,i+d=n->InP a b e n s again i 0->Ev fun k=>r6_Meet.l2 k a b both e again (i:Int)=R
 |0,i,e,again,hd,h=>by
  obtain rfl:i=n:=by omega
  refine (hk e again h).step fun k hk'=>?_
  unfold r6_Meet.l2;rw [if_neg (by omega)];exact hk'
 |d+1,i,e,again,hd,h=>by
  have h3:Ev fun k=>r6_Meet.l3 k a b both e again (i:Int) ((0:Nat):Int)=R:=by
   refine pass3 ha hb hn (i:=i) (by omega) (fun e again h=>?_) n 0 e again (by omega) h;rw [show ((i:Int)+1)=((i+1:Nat):Int) by omega];exact pass2 ha hb hn hk d (i+1) e again (by omega) h
  refine h3.step fun k hk'=>?_
  unfold r6_Meet.l2;rw [if_pos (by omega)];exact hk'
theorem passes (ha:a.length=n) (hb:b.length=n) (hn:n≤12) (hk:∀ e,Join a b e n->Ev fun k=>r6_Meet.l1 k a b both e false=R):∀ (m:Nat) (e:List Int),sumN e≤m->Lab a b e n->Ev fun k=>r6_Meet.l1 k a b both e true=R
 |m,e,hm,h=>by
  have h2:Ev fun k=>r6_Meet.l2 k a b both e false ((0:Nat):Int)=R:=by
   refine pass2 (s:=sumN e) ha hb hn (fun e' again h'=>?_) n 0 e false (by omega) ⟨h,.inr ⟨rfl,rfl,fun p q hp=>by omega⟩⟩;rcases h'.2 with ⟨rfl,hlt⟩|⟨rfl,_,hdone⟩
   ·cases m with
    |zero=>omega
    |succ m=>exact passes ha hb hn hk m e' (by omega) h'.1
   ·have hrel:∀ p q,p<n->q<n->Rl a b p q->e'.getD p 0=e'.getD q 0:=fun p q hp hq hr =>
     Int.le_antisymm (hdone p q (.inl hp) hq hr) (hdone q p (.inl hq) hp (hr.imp Eq.symm Eq.symm))
    exact hk e' ⟨h'.1.len,fun p q hp hq hh=>hrel p q hp hq (.inl hh),fun p q hp hq hh=>hrel p q hp hq (.inr hh),h'.1.fin⟩
  refine h2.step fun k hk'=>?_
  unfold r6_Meet.l1;rw [if_pos rfl];exact hk'
end
def y3g (a b:List Int):List Int:=(a.zip b).map fun p=>p.1 * 12+p.2
def y3t (n:Nat):List Int:=List.map (fun i:Nat=>(i:Int)) (List.range n)
theorem ycz:∀ (l:List Int) (m:Int) (i:Nat),rgs m l=true->0≤m->i<l.length->0≤l.getD i 0∧l.getD i 0≤m+i
 |[],m,i,_,_,h=>absurd h (by simp)
 |x :: l,m,0,h,hm,_=>by
  simp only [rgs,Bool.and_eq_true,decide_eq_true_eq] at h;show 0≤x∧x≤_;omega
 |x :: l,m,i+1,h,hm,hi=>by
  simp only [rgs,Bool.and_eq_true,decide_eq_true_eq] at h;obtain ⟨h1,h2,h3⟩:=h;have hl:i<l.length:=by simpa using hi
  show 0≤l.getD i 0∧l.getD i 0≤_
  by_cases hx:x=m
  ·rw [if_pos hx] at h3
   have:=ycz l (m+1) i h3 (by omega) hl;omega
  ·rw [if_neg hx] at h3
   have:=ycz l m i h3 hm hl;omega
theorem yb2 {l:List Int} (h:isP l=true) {i:Nat} (hi:i<l.length):0≤l.getD i 0∧l.getD i 0≤11:=by
 have hl:=y2b h;simp only [isP,Bool.and_eq_true,decide_eq_true_eq] at h;have:=ycz l 0 i h.2 (by omega) hi;omega
theorem yei {a b:List Int} (ha:isP a=true) (hb:isP b=true) (hl:a.length=b.length) {R:Option (List Int × List Int × Int)} (hk:Ev fun k=>r6_Meet.l1 k a b (y3g a b) (y3t a.length) true=R):∀ d i,i+d=a.length->Ev fun k=>r6_Meet.l0 k a b ((y3g a b).take i) ((y3t a.length).take i) (i:Int)=R
 |0,i,hd=>by
  obtain rfl:i=a.length:=by omega
  refine hk.step fun k hk'=>?_
  unfold r6_Meet.l0;rw [if_neg (by omega),List.take_of_length_le (by simp [y3g];omega),List.take_of_length_le (by simp [y3t])];exact hk'
 |d+1,i,hd=>by
  have hn:=y2b ha;have hi:i<a.length:=by omega
  have xa:=yb2 ha hi;have xb:=yb2 hb (show i<b.length by omega);refine (yei ha hb hl hk d (i+1) (by omega)).step fun k hk'=>?_
  unfold r6_Meet.l0;have e1:(y3g a b).take i ++ [a.getD i 0 * 12+b.getD i 0]=(y3g a b).take (i+1):=by
   rw [List.take_succ_eq_append_getElem (by simp [y3g];omega)]
   congr 1
   rw [y0v hi,y0v (show i<b.length by omega)];simp [y3g]
  have e2:(y3t a.length).take i ++ [(i:Int)]=(y3t a.length).take (i+1):=by
   rw [List.take_succ_eq_append_getElem (by simp [y3t];omega)]
   congr 1
   simp [y3t]
  have t1:((y3g a b).take i).length=i:=by simp [y3g];omega
  have t2:((y3t a.length).take i).length=i:=by simp [y3t];omega
  rw [y0p,y0p];rw [if_pos (by omega),if_pos (by omega),if_pos (by omega),if_pos (by omega),if_pos (by omega),w64 (x:=a.getD i 0 * 12) (by omega) (by omega),w64 (x:=a.getD i 0 * 12+b.getD i 0) (by omega) (by omega),w64 (x:=(i:Int)+1) (by omega) (by omega),e1,e2,show ((i:Int)+1)=((i+1:Nat):Int) by omega];exact hk'
theorem yea {a b:List Int} (hl:a.length=b.length) {i:Nat} (hi:i<a.length):(y3g a b).getD i 0=a.getD i 0 * 12+b.getD i 0:=by
 rw [y0v (by simp [y3g];omega),y0v hi,y0v (by omega)];simp [y3g]
theorem yab {n i:Nat} (hi:i<n):(y3t n).getD i 0=(i:Int):=by
 rw [y0v (by simpa [y3t] using hi)];simp [y3t]
theorem yfp (a b:List Int):Ev fun k=>r6_Meet.f k a b=some (if y2o a b=0 then (numL (a.zip b),aboveL a b,0) else ([],[],y2o a b)):=by
 by_cases h:y2o a b=0
 ·obtain ⟨ha,hb,hl⟩:=y22 h
  have hn:=y2b ha;have hR:Ev fun k=>r6_Meet.l1 k a b (y3g a b) (y3t a.length) true=some (numL (a.zip b),aboveL a b,0):=by
   refine passes rfl hl.symm hn (fun e he=>?_) _ (y3t a.length) (zLe _) ⟨by simp [y3t],fun i hi=>by rw [yab hi];omega,fun c _ _ i j hi hj hh=>?_⟩
   ·have h1:=y5u (l:=y3g a b) (by simp [y3g];omega)
    have h2:=y5u (l:=e) (by rw [he.len];omega);have hbo:numL (a.zip b)=numL (y3g a b):=yfk hl (by simp [y3g];omega) fun i j hi hj=>by
     rw [yea hl hi,yea hl hj];have:=yb2 hb (show i<b.length by omega);have:=yb2 hb (show j<b.length by omega);omega
    refine (h1.and h2).step fun k ⟨q1,q2⟩=>?_
    unfold r6_Meet.l1;rw [if_neg (by decide),q1,q2,hbo,yfn hl he];rfl
   ·rw [yab hi,yab hj] at hh
    rw [show i=j by omega]
  refine ((yei ha hb hl hR a.length 0 (by omega)).and (Ev.ge 30 fun k hk=>hk)).mono fun k ⟨hk,hk30⟩=>?_
  unfold r6_Meet.f;rw [two_f a b hk30,h];simp only [Option.bind_some,if_true];exact hk
 ·refine Ev.ge 30 fun k hk=>?_
  unfold r6_Meet.f;rw [two_f a b hk];simp only [Option.bind_some];rw [if_neg h,if_neg h]
theorem y79 (l:List Int) (hn:l.length≤40):∀ (d i:Nat) (s:Int),i+d=l.length->∃ r,Ev fun k=>whole0.l0 k l s (i:Int)=some r
 |0,i,s,hd=>⟨s,Ev.next fun k=>by
  unfold whole0.l0;rw [if_neg (by omega)]⟩
 |d+1,i,s,hd=>by
  obtain ⟨r,h⟩:=y79 l hn d (i+1) (wrap64 (s+rd l (i:Int))) (by omega);refine ⟨r,h.step fun k hk=>?_⟩;unfold whole0.l0;rw [if_pos (by omega),if_pos (by omega),w64 (x:=(i:Int)+1) (by omega) (by omega),show ((i:Int)+1)=((i+1:Nat):Int) by omega];exact hk
theorem Meet_ev {a b:List Int} (ha:a.length≤40) (hb:b.length≤40):Ev fun k=>mobs_Meet.f k a b=some (if y2o a b=0 then (numL (a.zip b),aboveL a b,0) else ([],[],y2o a b)):=by
 obtain ⟨r1,h1⟩:=y79 a ha a.length 0 0 (by omega);obtain ⟨r2,h2⟩:=y79 b hb b.length 0 0 (by omega);refine ((h1.and h2).and (Ev.ge 30 fun k hk=>hk)).mono fun k ⟨⟨q1,q2⟩,hk⟩=>?_
 have q1':sync_WaitGroup_Add.f k a=some r1:=q1;have q2':sync_WaitGroup_Add.f k b=some r2:=q2;unfold mobs_Meet.f;rw [q1',q2',y4v a b hk];simp only [Option.bind_some]
 by_cases h:y2o a b=0
 ·obtain ⟨pa,pb,hl⟩:=y22 h
  have hn:=y2b pa;rw [if_pos h,if_pos h,yed pa pb hl (by omega),yeh pa pb hl];simp only [Option.bind_some,List.nil_append];rw [if_pos (by rw [y67 hl];simp;omega),if_pos (by rw [y69];simp;omega)]
 ·rw [if_neg h,if_neg h]
end
end Go.Proofs.Ytdhgeondbnpeoaa.Pl
namespace Go.Proofs.Ytdhgeondbnpeoaa.Pure
open Go.RowKit Go.Proofs.Ytdhgeondbnpeoaa.P Go.Proofs.Yw.Wd Go.Proofs.Yw.La
open Go.Proofs.Ytdhgeondbnpeoaa.Pl Go.Proofs.Ytdhgeondbnpeoaa.Ext
open Classical in
theorem MobsMeets:w6_MobsMeets.Pure:=by
 intro a b _ _ _ _ _ _;have alive:w6_alive.f=some true:=rfl
 by_cases hf:a.length≤40∧b.length≤40
 ·obtain ⟨ha,hb⟩:=hf
  obtain ⟨k,⟨⟨q1,q2⟩,hk⟩⟩:=(((Meet_ev ha hb).and (yfp a b)).and (Ev.ge 200 fun k hk=>hk)).ex;refine ⟨k+1,?_⟩;have hfew:w6_few.f a b=some true:=by
   unfold w6_few.f;rw [if_pos (by omega),zDt (by omega)]
  have hs:∀ l:List Int,l.length≤40->w6_same.f k l l=some true:=fun l hl=>by rw [same_f hl (by omega),zDt rfl]
  have key:w6_MobsMeets.j0 (k+1) a b a b false=some true:=by
   simp only [w6_MobsMeets.j0,Bool.false_eq_true,if_false];rw [q1];simp only [Option.bind_some];rw [q2];simp only [Option.bind_some]
   by_cases h:y2o a b=0
   ·obtain ⟨pa,pb,hl⟩:=y22 h
    have hn:=y2b pa;simp only [if_pos h];rw [hs _ (by rw [y67 hl];omega)];simp only [Option.bind_some,if_true];rw [hs _ (by rw [y69];omega)];simp only [Option.bind_some,if_true];rw [hs a ha];simp only [Option.bind_some,if_true];rw [hs b hb,alive];rfl
   ·simp only [if_neg h]
    rw [hs [] (by simp)];simp only [Option.bind_some,if_true];rw [hs a ha];simp only [Option.bind_some,if_true];rw [hs b hb,alive];rfl
  unfold w6_MobsMeets.f;rw [hfew];simp only [Option.bind_some,if_true,List.nil_append,List.length_nil,Nat.zero_add];rw [if_pos (by omega),if_pos (by omega),ycb a b (by omega),yek a b (by omega)];simp only [Option.bind_some,bne_self_eq_false,Bool.false_eq_true,if_false];exact key
 ·refine ⟨1,?_⟩
  have hfew:w6_few.f a b=some false:=by
   unfold w6_few.f
   by_cases h1:a.length≤40
   ·rw [if_pos (by omega),zDf (by omega)]
   ·rw [if_neg (by omega)]
  unfold w6_MobsMeets.f;rw [hfew];simp only [Option.bind_some,Bool.false_eq_true,if_false];rw [alive];rfl
end Go.Proofs.Ytdhgeondbnpeoaa.Pure
namespace Go.Proofs.Yw.Wd
open Go.ChangeShapes Go.WideShapes
theorem sized_ints {H:Type} {enc:TypeId × Value->H} {P:Program} {W:World} {base:Nat} {spare:Nat->Bool} {held:Bool} {t e:TypeId} {k:IntKind} {a:Option Addr} {len cap:Nat} {d:DataW H} {ps:List MemPlace} {ts:List TypeId} {ds:List (DataW H)} {j:Nat}
  (hsz:(DataW.weightsEach P ts ds).all (·≤reachBytes)=true) (ht:ts[j]?=some t) (hd:ds[j]?=some d) (hu:P.underlying t=some (.slice e)) (he:P.underlying e=some (.int k)) (hc:P.cellsOf e=1) {B:Nat} (hB:P.bytesOf e=B)
  (h:DataW.Trod enc P W base spare held t (.slice a len cap) d ps):len * B≤140737488351232:=by
 obtain ⟨fuel,hf⟩:=h;rcases open_ints hu he hc hf with ⟨hcs,_⟩|⟨x,l,c,zs,hcs,_,hl,_,hz,hx,_,_⟩
 ·simp [Value.cells] at hcs
  obtain ⟨rfl,rfl,rfl⟩:=hcs;simp
 ·simp [Value.cells] at hcs
  obtain ⟨rfl,rfl,rfl⟩:=hcs;obtain ⟨hx,_⟩:=Prod.mk.inj hx;subst hx;have z:=sized_slice hsz ht hd hu;rw [hB] at z;have hl2:len≤zs.length:=by
   rw [hz];split
   ·exact hl
   ·exact zLe _
  have h1:(lits (H:=H) k (zs.take len)).length+(lits (H:=H) k (zs.drop len)).length=zs.length:=by
   simp [lits];omega
  rw [h1] at z;exact Nat.le_trans (Nat.mul_le_mul_right _ hl2) z
end Go.Proofs.Yw.Wd
