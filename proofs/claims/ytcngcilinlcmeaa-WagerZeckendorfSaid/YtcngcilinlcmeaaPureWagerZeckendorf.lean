/- WagerZeckendorf holds: for every number n, the parts of the heap made of n are Fibonacci numbers, the greatest first, no two following one another, and sum to the heap. -/
import Derived.Test.YtcngcilinlcmeaaPx9
import Derived.Test.YtcngcilinlcmeaaIdx
namespace Go.Proofs.Ytcngcilinlcmeaa.Pure
open Go.RowKit Go.Proofs.Ytcngcilinlcmeaa.P Go.Proofs.YtcngcilinlcmeaaW.PrintWords Go.Proofs.YtcngcilinlcmeaaW.PrintLast

theorem zeck_l {m : Int} (h0 : 0 ≤ m) (hm : m ≤ 1099511627776) (zs : List Nat) (hz : ∀ e ∈ zs, e < 60 ∧ fib e ≤ m) (hp : zs.Pairwise (fun a b => b + 2 ≤ a)) (hl : zs.length ≤ 60) (hs : (zs.map fib).sum = m) :
    ∀ (d i : Nat), i + d = zs.length → Ev (fun k => drovewaylaw07_WagerZeckendorf.l0 k m (zs.map fib) ((zs.take i).map fib).sum (i : Int)) true
  | 0, i, hi => by
    rw [List.take_of_length_le (by omega), hs]
    refine Ev.step (f := fun k => (drovewaylaw07_alive.f).bind fun t160 => (some t160)) (fun k => ?_) alive_ev
    simp only [drovewaylaw07_WagerZeckendorf.l0]
    rw [if_neg (by rw [List.length_map]; omega), if_pos trivial]
  | d + 1, i, hi => by
    have hil : i < zs.length := by omega
    have hg : rd (zs.map fib) (i : Int) = fib zs[i] := by
      rw [rd_get _ _ (by rw [List.length_map]; exact hil)]
      simp
    have hzi := hz zs[i] (List.getElem_mem hil)
    have hpos := fib_pos zs[i]
    have hle : ∀ j, j ≤ zs.length → 0 ≤ ((zs.take j).map fib).sum ∧ ((zs.take j).map fib).sum ≤ 70368744177664 := by
      intro j
      induction j with
      | zero => intro _; simp
      | succ j ih =>
        intro hj
        have h1 := ih (by omega)
        have hzj := hz zs[j] (List.getElem_mem (by omega))
        have := fib_pos zs[j]
        rw [List.take_succ_eq_append_getElem (by omega), List.map_append, List.sum_append]
        simp only [List.map_cons, List.map_nil, List.sum_cons, List.sum_nil]
        have hb : ∀ q, q ≤ zs.length → ((zs.take q).map fib).sum ≤ q * 1099511627776 := by
          intro q
          induction q with
          | zero => intro _; simp
          | succ q ihq =>
            intro hq
            have h3 := ihq (by omega)
            have hzq := hz zs[q] (List.getElem_mem (by omega))
            rw [List.take_succ_eq_append_getElem (by omega), List.map_append, List.sum_append]
            simp only [List.map_cons, List.map_nil, List.sum_cons, List.sum_nil]
            omega
        have h4 := hb j (by omega)
        omega
    have hsum := hle i (by omega)
    have hnext : ((zs.take i).map fib).sum + fib zs[i] = ((zs.take (i + 1)).map fib).sum := by
      rw [List.take_succ_eq_append_getElem hil, List.map_append, List.sum_append]
      simp
    have ih := zeck_l h0 hm zs hz hp hl hs d (i + 1) (by omega)
    have hix := index_fib hzi.1 (by omega)
    have fin0 : Ev (fun k => drovewaylaw07_WagerZeckendorf.l0 k m (zs.map fib) (wrap64 (((zs.take i).map fib).sum + fib zs[i])) (wrap64 ((i : Int) + 1))) true := by
      rw [w64 (n := ((zs.take i).map fib).sum + fib zs[i]) (by omega), w64 (n := (i : Int) + 1) (by omega), hnext]
      exact ih
    refine Ev.step (f := fun k => (drovewaylaw07_index.f k (fib zs[i])).bind fun t232 => (if t232 < 0 then (some false) else (if (i : Int) > 0 then ((drovewaylaw07_index.f k (fib zs[i])).bind fun t234 => (if 0 ≤ (wrap64 ((i : Int) - 1)) then (if (wrap64 ((i : Int) - 1)) < ((zs.map fib).length : Int) then ((drovewaylaw07_index.f k (rd (zs.map fib) (wrap64 ((i : Int) - 1)))).bind fun t236 => (if t234 > (wrap64 (t236 - 2)) then (some false) else (drovewaylaw07_WagerZeckendorf.l0 k m (zs.map fib) (wrap64 (((zs.take i).map fib).sum + fib zs[i])) (wrap64 ((i : Int) + 1))))) else (none)) else (none))) else (drovewaylaw07_WagerZeckendorf.l0 k m (zs.map fib) (wrap64 (((zs.take i).map fib).sum + fib zs[i])) (wrap64 ((i : Int) + 1)))))) (fun k => ?_) ?_
    · simp only [drovewaylaw07_WagerZeckendorf.l0]
      rw [if_pos (by rw [List.length_map]; omega), if_pos (by omega), hg, if_neg (by omega), if_neg (by omega)]
    refine Ev.bind hix (Ev.neg (by omega) ?_)
    by_cases hi0 : (i : Int) > 0
    · refine Ev.pos hi0 (Ev.bind hix ?_)
      rw [w64 (n := (i : Int) - 1) (by omega), show (i : Int) - 1 = ((i - 1 : Nat) : Int) by omega]
      have hil2 : i - 1 < zs.length := by omega
      have hg2 : rd (zs.map fib) ((i - 1 : Nat) : Int) = fib zs[i - 1] := by
        rw [rd_get _ _ (by rw [List.length_map]; exact hil2)]
        simp
      have hzi2 := hz zs[i - 1] (List.getElem_mem hil2)
      have hgap := List.pairwise_iff_getElem.1 hp (i - 1) i hil2 hil (by omega)
      rw [hg2]
      refine Ev.pos (by omega) (Ev.pos (by rw [List.length_map]; omega) (Ev.bind (index_fib hzi2.1 (by omega)) ?_))
      rw [w64 (n := (zs[i - 1] : Int) - 2) (by omega)]
      exact Ev.neg (by omega) fin0
    · exact Ev.neg hi0 fin0
theorem WagerZeckendorf : drovewaylaw07_WagerZeckendorf.Pure := by
  intro a ha
  obtain ⟨m, hm, h0, h1⟩ := heap_some ha
  apply Ev.rounds
  unfold drovewaylaw07_WagerZeckendorf.f
  rw [hm]
  simp only [Option.bind_some]
  refine Ev.bind (Parts_ev m) ?_
  unfold partsS
  rw [if_pos ⟨h0, h1⟩]
  refine Ev.pos rfl ?_
  have hmem := zi_mem 60 m h0
  have hlen := gr_len 60 m
  have hz := gr_zi 60 m
  have hsum := gr_sum 60 m h0 (heap_lt h1)
  rw [hz] at hlen hsum
  rw [List.length_map] at hlen
  have h := zeck_l h0 h1 (zi 60 m) (fun e he => ⟨(hmem e he).2, (hmem e he).1⟩) (zi_gap 60 m h0 (heap_lt h1)) hlen hsum (zi 60 m).length 0 (by omega)
  rw [← hz] at h
  exact h

end Go.Proofs.Ytcngcilinlcmeaa.Pure
