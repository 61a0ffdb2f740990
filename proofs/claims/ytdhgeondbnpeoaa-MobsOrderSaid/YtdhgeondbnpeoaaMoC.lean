/- The theorem of MobsOrder, proved; part 3 of 7: its texts, merged. -/
import Derived.Test.YtdhgeondbnpeoaaMoB
import Derived.Calls
import Derived.Conc.Beside
import Derived.Laws.Sem
import Derived.Conc.CrowdRun
import Derived.Conc.CommBuf
import Derived.Conc.WgGenN3
import Derived.Test.YtdhgeondbnpeoaaProg
import Derived.KernelRfl
set_option linter.unnecessarySimpa false
set_option linter.unusedVariables false
set_option linter.unusedSimpArgs false
set_option linter.unusedSectionVars false
namespace Go.Mt
open Go.Tr Go.Conc Go.ConcN Go.RowKit Go.Conc.Lib Go.ConcR.Gen Go.ConcN.Gen
open Go.ConcR (KK wgBlock WgAt stA smA rd wr Payload DC0)
variable [Payload] {L : WgLink}
def AnchX (L : WgLink) (Wg : Nat) (c : Frame) (cs : List Frame) (g : Goroutine) (w : World) : Prop :=
 ∃ T : Array Value, g = G ((base L.wait).at ⟨T, []⟩ [.code (L7 L), .inLoop (L7 L), .inBlock 0]) (c :: cs) ∧ T.size = 84 ∧ T[0]? = some (.pointer (some ⟨Wg, 0, none⟩)) ∧ WgLive L.tWg Wg w
theorem anchX_run {Wg : Nat} {c : Frame} {cs : List Frame} (g : Goroutine) (w : World) (h : AnchX L Wg c cs g w) : g.status = .running := by
 obtain ⟨_, rfl, _⟩ := h
 rfl
theorem evm_said_write {X : PH} (a : Addr) (h : a.block = X.G.Wg) : X.EvM ⟨.mark (.write a), false, true⟩ := by
 refine ⟨fun x hx => ?_, by simp, by simp, by simp, ?_⟩
 ·simp only [MemAct.ofEvent, MemAct.touch?, Option.some.injEq] at hx
  subst hx
  exact ⟨h, by simp⟩
 ·show a.block < X.G.Wg + 1
  omega
section
variable {X : PH} {b₀ : Frame} {a₀ : Act} {ops₀ : Array Oper} {i₀ : Nat} {rest₀ : List Nat} {k₀ : List Item} {cs : List Frame}
theorem waitStartX (H : WgLib X.P L) (hty : X.ty = L.tWg) (w : World) (hF : WgLive X.ty X.G.Wg w) :
  Goes X.P true X.R0 X.D0 (X.AtKd (AnchX L X.G.Wg (b₀.at a₀ (.inRegion ops₀ (i₀ :: rest₀) :: k₀)) cs)) 3
   (G ((base L.wait).at ⟨#[.pointer (some ⟨X.G.Wg, 0, none⟩), undef, undef, undef, undef, undef, undef, undef, undef, undef, undef, undef, undef, undef, undef, undef, undef, undef, undef, undef, undef, undef, undef, undef, undef, undef, undef, undef, undef, undef, undef, undef, undef, undef, undef, undef, undef, undef, undef, undef, undef, undef, undef, undef, undef, undef, undef, undef, undef, undef, undef, undef, undef, undef, undef, undef, undef, undef, undef, undef, undef, undef, undef, undef, undef, undef, undef, undef, undef, undef, undef, undef, undef, undef, undef, undef, undef, undef, undef, undef, undef, undef, undef, undef], []⟩ [.code (body_wait L)]) (b₀.at a₀ (.inRegion ops₀ (i₀ :: rest₀) :: k₀) :: cs)) w := by
 lib_facts
 simp only [body_wait, waitFn, Option.getD_some]
 refine Goes.step rfl (fun _ h₁ => ?_); replace hF := h₁ hF; clear h₁
 rw [stepG_seq]
 simp only [goes_go]
 refine ⟨⟨rfl, by intro e he; simp at he⟩, ?_⟩
 refine Goes.step rfl (fun _ h₁ => ?_); replace hF := h₁ hF; clear h₁
 rw [stepG_cond (t := true) (by first | rfl | (simp [Act.eval]; omega))]
 simp only [goes_go, if_true, if_false, Bool.false_eq_true, ↓reduceIte]
 refine ⟨⟨rfl, by intro e he; simp at he⟩, ?_⟩
 refine Goes.step rfl (fun _ h₁ => ?_); replace hF := h₁ hF; clear h₁
 rw [stepG_region]
 simp only [goes_go, List.size_toArray, List.length_cons, List.length_nil, Nat.reduceAdd, Nat.zero_add, List.range, List.range.loop]
 refine ⟨⟨rfl, by intro e he; simp at he⟩, ?_⟩
 refine Goes.stop (fun w1 h₁ => ?_)
 replace hF := h₁ hF
 clear h₁
 refine ⟨rfl, _, stepG_mark0 .disable (by simp) rfl rfl (by k_ne) rfl H.f_disable (x_disable_n L) (x_disable_b L) (x_disable_x L) (x_disable_f L), 3, ?_⟩
 walk_nrm
 refine Goes.step rfl (fun _ h₁ => ?_); replace hF := h₁ hF; clear h₁
 rw [stepG_region_end]
 simp only [goes_go]
 refine ⟨⟨rfl, by intro e he; simp at he⟩, ?_⟩
 refine Goes.step rfl (fun _ h₁ => ?_); replace hF := h₁ hF; clear h₁
 rw [stepG_block]
 simp only [goes_go]
 refine ⟨⟨rfl, by intro e he; simp at he⟩, ?_⟩
 refine Goes.step rfl (fun _ h₁ => ?_); replace hF := h₁ hF; clear h₁
 rw [stepG_loop]
 simp only [goes_go]
 refine ⟨⟨rfl, by intro e he; simp at he⟩, ?_⟩
 refine Goes.stop (fun w2 h₁ => ?_)
 replace hF := h₁ hF
 clear h₁
 exact ⟨_, rfl, by simp, by simp, hty ▸ hF⟩
def FinX (P : Program) (gA : Goroutine) (g : Goroutine) (w : World) : Prop := ∃ m, Goes P true (fun _ _ => True) DC0 (fun g _ => g = gA) m g w
set_option maxRecDepth 100000 in
set_option maxHeartbeats 8000000 in
theorem waitRoundX (H : WgLib X.P L) (hty : X.ty = L.tWg) (g : Goroutine) (w : World) (h : AnchX L X.G.Wg (b₀.at a₀ (.inRegion ops₀ (i₀ :: rest₀) :: k₀)) cs g w) :
  ∃ m, Goes X.P true X.R0 X.D0 (X.AtW1 (FinX X.P (G (b₀.at (a₀.put ((ops₀[i₀]?).bind (·.dst)) (.tuple #[])) (.inRegion ops₀ rest₀ :: k₀)) cs)) (AnchX L X.G.Wg (b₀.at a₀ (.inRegion ops₀ (i₀ :: rest₀) :: k₀)) cs)) m g w := by
 lib_facts
 obtain ⟨T, rfl, hT84, t0, hF⟩ := h
 obtain ⟨v0, v1, v2, v3, v4, v5, v6, v7, v8, v9, v10, v11, v12, v13, v14, v15, v16, v17, v18, v19, v20, v21, v22, v23, v24, v25, v26, v27, v28, v29, v30, v31, v32, v33, v34, v35, v36, v37, v38, v39, v40, v41, v42, v43, v44, v45, v46, v47, v48, v49, v50, v51, v52, v53, v54, v55, v56, v57, v58, v59, v60, v61, v62, v63, v64, v65, v66, v67, v68, v69, v70, v71, v72, v73, v74, v75, v76, v77, v78, v79, v80, v81, v82, v83, rfl⟩ := array84 T hT84
 simp only [List.getElem?_toArray, List.getElem?_cons_zero, Option.some.injEq] at t0
 subst t0
 have hR0 : X.R0 = fun w w₁ => WgLive L.tWg X.G.Wg w → WgLive L.tWg X.G.Wg w₁ := by unfold PH.R0; rw [hty]
 unfold PH.AtW1 PH.AtW2 PH.AtW3 PH.AtW4 PH.AtKe PH.AtAcq
 rw [hR0, hty]
 refine ⟨30, ?_⟩
 simp only [L7, body_wait, waitFn, Option.getD_some]
 refine Goes.step rfl (fun _ h₁ => ?_); replace hF := h₁ hF; clear h₁
 rw [stepG_block]
 simp only [goes_go]
 refine ⟨⟨rfl, by intro e he; simp at he⟩, ?_⟩
 refine Goes.step rfl (fun _ h₁ => ?_); replace hF := h₁ hF; clear h₁
 rw [stepG_seq]
 simp only [goes_go]
 refine ⟨⟨rfl, by intro e he; simp at he⟩, ?_⟩
 refine Goes.step rfl (fun _ h₁ => ?_); replace hF := h₁ hF; clear h₁
 rw [stepG_region]
 simp only [goes_go, List.size_toArray, List.length_cons, List.length_nil, Nat.reduceAdd, Nat.zero_add, List.range, List.range.loop]
 refine ⟨⟨rfl, by intro e he; simp at he⟩, ?_⟩
 refine Goes.step rfl (fun _ h₁ => ?_); replace hF := h₁ hF; clear h₁
 refine goes_oper_k rfl rfl (by k_ne) (fun Kx hKx => ?_)
 go_simp
 refine hKx _ _ ⟨?_, ?_⟩
 ·refine ⟨rfl, ?_⟩
  intro ex hex
  have hmx := mem_listed hex
  simp [go_sem, *] at hmx
 clear hKx Kx
 try w_num
 refine Goes.step rfl (fun _ h₁ => ?_); replace hF := h₁ hF; clear h₁
 refine goes_oper_k rfl rfl (by k_ne) (fun Kx hKx => ?_)
 go_simp
 refine hKx _ _ ⟨?_, ?_⟩
 ·refine ⟨rfl, ?_⟩
  intro ex hex
  have hmx := mem_listed hex
  simp [go_sem, *] at hmx
 clear hKx Kx
 try w_num
 refine Goes.step rfl (fun _ h₁ => ?_); replace hF := h₁ hF; clear h₁
 refine goes_oper_k rfl rfl (by k_ne) (fun Kx hKx => ?_)
 go_simp
 refine hKx _ _ ⟨?_, ?_⟩
 ·refine ⟨rfl, ?_⟩
  intro ex hex
  have hmx := mem_listed hex
  simp [go_sem, *] at hmx
 clear hKx Kx
 try w_num
 refine Goes.step rfl (fun _ h₁ => ?_); replace hF := h₁ hF; clear h₁
 refine goes_call rfl rfl (by k_ne) rfl H.f_uLoad (nm_uLoad L) rfl ⟨⟨rfl, by intro e he; simp at he⟩, ?_⟩
 walk_nrmf uLoadFn
 refine Goes.step rfl (fun _ h₁ => ?_); replace hF := h₁ hF; clear h₁
 rw [stepG_seq]
 simp only [goes_go]
 refine ⟨⟨rfl, by intro e he; simp at he⟩, ?_⟩
 refine Goes.step rfl (fun _ h₁ => ?_); replace hF := h₁ hF; clear h₁
 rw [stepG_region]
 simp only [goes_go, List.size_toArray, List.length_cons, List.length_nil, Nat.reduceAdd, Nat.zero_add, List.range, List.range.loop]
 refine ⟨⟨rfl, by intro e he; simp at he⟩, ?_⟩
 refine Goes.step rfl (fun _ h₁ => ?_); replace hF := h₁ hF; clear h₁
 refine goes_oper_k rfl rfl (by k_ne) (fun Kx hKx => ?_)
 go_simp
 refine hKx _ _ ⟨?_, ?_⟩
 ·refine ⟨rfl, ?_⟩
  intro ex hex
  have hmx := mem_listed hex
  simp [go_sem, *] at hmx
 clear hKx Kx
 try w_num
 refine Goes.step rfl (fun _ h₁ => ?_); replace hF := h₁ hF; clear h₁
 rw [stepG_region_end]
 simp only [goes_go]
 refine ⟨⟨rfl, by intro e he; simp at he⟩, ?_⟩
 refine Goes.step rfl (fun _ h₁ => ?_); replace hF := h₁ hF; clear h₁
 rw [stepG_seq]
 simp only [goes_go]
 refine ⟨⟨rfl, by intro e he; simp at he⟩, ?_⟩
 refine Goes.step rfl (fun _ h₁ => ?_); replace hF := h₁ hF; clear h₁
 rw [stepG_region]
 simp only [goes_go, List.size_toArray, List.length_cons, List.length_nil, Nat.reduceAdd, Nat.zero_add, List.range, List.range.loop]
 refine ⟨⟨rfl, by intro e he; simp at he⟩, ?_⟩
 refine Goes.step rfl (fun _ h₁ => ?_); replace hF := h₁ hF; clear h₁
 refine goes_oper_k rfl rfl (by k_ne) (fun Kx hKx => ?_)
 go_simp
 refine hKx _ _ ⟨?_, ?_⟩
 ·refine ⟨rfl, ?_⟩
  intro ex hex
  have hmx := mem_listed hex
  simp [go_sem, *] at hmx
 clear hKx Kx
 try w_num
 refine Goes.step rfl (fun _ h₁ => ?_); replace hF := h₁ hF; clear h₁
 refine goes_oper_k rfl rfl (by k_ne) (fun Kx hKx => ?_)
 go_simp
 refine hKx _ _ ⟨?_, ?_⟩
 ·refine ⟨rfl, ?_⟩
  intro ex hex
  have hmx := mem_listed hex
  simp [go_sem, *] at hmx
 clear hKx Kx
 try w_num
 refine Goes.step rfl (fun _ h₁ => ?_); replace hF := h₁ hF; clear h₁
 refine goes_oper_k rfl rfl (by k_ne) (fun Kx hKx => ?_)
 go_simp
 refine hKx _ _ ⟨?_, ?_⟩
 ·refine ⟨rfl, ?_⟩
  intro ex hex
  have hmx := mem_listed hex
  simp [go_sem, *] at hmx
 clear hKx Kx
 try w_num
 refine Goes.stop (fun w₁ h₁ => ?_)
 replace hF := h₁ hF
 clear h₁
 refine ⟨rfl, fun v hv hw => ?_⟩
 rcases Nat.eq_zero_or_pos v with rfl | hvp
 ·
  replace hw : WgAt L.tWg X.G.Wg w₁ 0 0 := by simpa using hw
  refine ⟨_, stepG_load_atomic (v := 0) rfl rfl (by k_ne) rfl H.f_loadU64 (x_loadU64_n L) (x_loadU64_b L) (x_loadU64_x L) .u64 (x_loadU64_f L) rfl hw.cellSt, fun _ => ⟨50, ?_⟩, fun h => absurd rfl h⟩
  clear hw
  walk_nrm
  refine Goes.step rfl (fun _ h₁ => ?_); replace hF := h₁ hF; clear h₁
  refine goes_oper_k rfl rfl (by k_ne) (fun Kx hKx => ?_)
  go_simp
  refine hKx _ _ ⟨?_, ?_⟩
  ·refine ⟨rfl, ?_⟩
   intro ex hex
   have hmx := mem_listed hex
   simp [go_sem, *] at hmx
  clear hKx Kx
  try w_num
  refine Goes.step rfl (fun _ h₁ => ?_); replace hF := h₁ hF; clear h₁
  rw [stepG_region_end]
  simp only [goes_go]
  refine ⟨⟨rfl, by intro e he; simp at he⟩, ?_⟩
  refine Goes.step rfl (fun _ h₁ => ?_); replace hF := h₁ hF; clear h₁
  rw [stepG_ret']
  simp only [goes_go]
  refine ⟨⟨rfl, by intro e he; simp at he⟩, ?_⟩
  refine Goes.step rfl (fun _ h₁ => ?_); replace hF := h₁ hF; clear h₁
  refine goes_leave1 rfl rfl H.f_uLoad rfl ⟨⟨rfl, by intro e he; simp at he⟩, ?_⟩
  walk_nrm
  refine Goes.step rfl (fun _ h₁ => ?_); replace hF := h₁ hF; clear h₁
  refine goes_oper_k rfl rfl (by k_ne) (fun Kx hKx => ?_)
  go_simp
  refine hKx _ _ ⟨?_, ?_⟩
  ·refine ⟨rfl, ?_⟩
   intro ex hex
   have hmx := mem_listed hex
   simp [go_sem, *] at hmx
  clear hKx Kx
  try w_num
  refine Goes.step rfl (fun _ h₁ => ?_); replace hF := h₁ hF; clear h₁
  rw [stepG_region_end]
  simp only [goes_go]
  refine ⟨⟨rfl, by intro e he; simp at he⟩, ?_⟩
  refine Goes.step rfl (fun _ h₁ => ?_); replace hF := h₁ hF; clear h₁
  rw [stepG_seq]
  simp only [goes_go]
  refine ⟨⟨rfl, by intro e he; simp at he⟩, ?_⟩
  refine Goes.step rfl (fun _ h₁ => ?_); replace hF := h₁ hF; clear h₁
  rw [stepG_region]
  simp only [goes_go, List.size_toArray, List.length_cons, List.length_nil, Nat.reduceAdd, Nat.zero_add, List.range, List.range.loop]
  refine ⟨⟨rfl, by intro e he; simp at he⟩, ?_⟩
  refine Goes.step rfl (fun _ h₁ => ?_); replace hF := h₁ hF; clear h₁
  refine goes_oper_k rfl rfl (by k_ne) (fun Kx hKx => ?_)
  go_simp
  refine hKx _ _ ⟨?_, ?_⟩
  ·refine ⟨rfl, ?_⟩
   intro ex hex
   have hmx := mem_listed hex
   simp [go_sem, *] at hmx
  clear hKx Kx
  try w_num
  refine Goes.step rfl (fun _ h₁ => ?_); replace hF := h₁ hF; clear h₁
  refine goes_oper_k rfl rfl (by k_ne) (fun Kx hKx => ?_)
  go_simp
  refine hKx _ _ ⟨?_, ?_⟩
  ·refine ⟨rfl, ?_⟩
   intro ex hex
   have hmx := mem_listed hex
   simp [go_sem, *] at hmx
  clear hKx Kx
  try w_num
  refine Goes.step rfl (fun _ h₁ => ?_); replace hF := h₁ hF; clear h₁
  refine goes_oper_k rfl rfl (by k_ne) (fun Kx hKx => ?_)
  go_simp
  refine hKx _ _ ⟨?_, ?_⟩
  ·refine ⟨rfl, ?_⟩
   intro ex hex
   have hmx := mem_listed hex
   simp [go_sem, *] at hmx
  clear hKx Kx
  try w_num
  refine Goes.step rfl (fun _ h₁ => ?_); replace hF := h₁ hF; clear h₁
  refine goes_oper_k rfl rfl (by k_ne) (fun Kx hKx => ?_)
  go_simp
  refine hKx _ _ ⟨?_, ?_⟩
  ·refine ⟨rfl, ?_⟩
   intro ex hex
   have hmx := mem_listed hex
   simp [go_sem, *] at hmx
  clear hKx Kx
  try w_num
  refine Goes.step rfl (fun _ h₁ => ?_); replace hF := h₁ hF; clear h₁
  rw [stepG_region_end]
  simp only [goes_go]
  refine ⟨⟨rfl, by intro e he; simp at he⟩, ?_⟩
  refine Goes.step rfl (fun _ h₁ => ?_); replace hF := h₁ hF; clear h₁
  rw [stepG_seq]
  simp only [goes_go]
  refine ⟨⟨rfl, by intro e he; simp at he⟩, ?_⟩
  refine Goes.step rfl (fun _ h₁ => ?_); replace hF := h₁ hF; clear h₁
  rw [stepG_region]
  simp only [goes_go, List.size_toArray, List.length_cons, List.length_nil, Nat.reduceAdd, Nat.zero_add, List.range, List.range.loop]
  refine ⟨⟨rfl, by intro e he; simp at he⟩, ?_⟩
  refine Goes.step rfl (fun _ h₁ => ?_); replace hF := h₁ hF; clear h₁
  refine goes_oper_k rfl rfl (by k_ne) (fun Kx hKx => ?_)
  go_simp
  refine hKx _ _ ⟨?_, ?_⟩
  ·refine ⟨rfl, ?_⟩
   intro ex hex
   have hmx := mem_listed hex
   simp [go_sem, *] at hmx
  clear hKx Kx
  try w_num
  refine Goes.step rfl (fun _ h₁ => ?_); replace hF := h₁ hF; clear h₁
  refine goes_oper_k rfl rfl (by k_ne) (fun Kx hKx => ?_)
  go_simp
  refine hKx _ _ ⟨?_, ?_⟩
  ·refine ⟨rfl, ?_⟩
   intro ex hex
   have hmx := mem_listed hex
   simp [go_sem, *] at hmx
  clear hKx Kx
  try w_num
  refine Goes.step rfl (fun _ h₁ => ?_); replace hF := h₁ hF; clear h₁
  refine goes_oper_k rfl rfl (by k_ne) (fun Kx hKx => ?_)
  go_simp
  refine hKx _ _ ⟨?_, ?_⟩
  ·refine ⟨rfl, ?_⟩
   intro ex hex
   have hmx := mem_listed hex
   simp [go_sem, *] at hmx
  clear hKx Kx
  try w_num
  refine Goes.step rfl (fun _ h₁ => ?_); replace hF := h₁ hF; clear h₁
  refine goes_oper_k rfl rfl (by k_ne) (fun Kx hKx => ?_)
  go_simp
  refine hKx _ _ ⟨?_, ?_⟩
  ·refine ⟨rfl, ?_⟩
   intro ex hex
   have hmx := mem_listed hex
   simp [go_sem, *] at hmx
  clear hKx Kx
  try w_num
  refine Goes.step rfl (fun _ h₁ => ?_); replace hF := h₁ hF; clear h₁
  rw [stepG_region_end]
  simp only [goes_go]
  refine ⟨⟨rfl, by intro e he; simp at he⟩, ?_⟩
  refine Goes.step rfl (fun _ h₁ => ?_); replace hF := h₁ hF; clear h₁
  rw [stepG_seq]
  simp only [goes_go]
  refine ⟨⟨rfl, by intro e he; simp at he⟩, ?_⟩
  refine Goes.step rfl (fun _ h₁ => ?_); replace hF := h₁ hF; clear h₁
  rw [stepG_seq]
  simp only [goes_go]
  refine ⟨⟨rfl, by intro e he; simp at he⟩, ?_⟩
  refine Goes.step rfl (fun _ h₁ => ?_); replace hF := h₁ hF; clear h₁
  rw [stepG_region]
  simp only [goes_go, List.size_toArray, List.length_cons, List.length_nil, Nat.reduceAdd, Nat.zero_add, List.range, List.range.loop]
  refine ⟨⟨rfl, by intro e he; simp at he⟩, ?_⟩
  refine Goes.step rfl (fun _ h₁ => ?_); replace hF := h₁ hF; clear h₁
  refine goes_oper_k rfl rfl (by k_ne) (fun Kx hKx => ?_)
  go_simp
  refine hKx _ _ ⟨?_, ?_⟩
  ·refine ⟨rfl, ?_⟩
   intro ex hex
   have hmx := mem_listed hex
   simp [go_sem, *] at hmx
  clear hKx Kx
  try w_num
  refine Goes.step rfl (fun _ h₁ => ?_); replace hF := h₁ hF; clear h₁
  refine goes_oper_k rfl rfl (by k_ne) (fun Kx hKx => ?_)
  go_simp
  refine hKx _ _ ⟨?_, ?_⟩
  ·refine ⟨rfl, ?_⟩
   intro ex hex
   have hmx := mem_listed hex
   simp [go_sem, *] at hmx
  clear hKx Kx
  try w_num
  refine Goes.step rfl (fun _ h₁ => ?_); replace hF := h₁ hF; clear h₁
  rw [stepG_region_end]
  simp only [goes_go]
  refine ⟨⟨rfl, by intro e he; simp at he⟩, ?_⟩
  refine Goes.step rfl (fun _ h₁ => ?_); replace hF := h₁ hF; clear h₁
  rw [stepG_cond (t := true) (by first | rfl | (simp [Act.eval]; omega))]
  simp only [goes_go, if_true, if_false, Bool.false_eq_true, ↓reduceIte]
  refine ⟨⟨rfl, by intro e he; simp at he⟩, ?_⟩
  refine Goes.step rfl (fun _ h₁ => ?_); replace hF := h₁ hF; clear h₁
  rw [stepG_seq]
  simp only [goes_go]
  refine ⟨⟨rfl, by intro e he; simp at he⟩, ?_⟩
  refine Goes.step rfl (fun _ h₁ => ?_); replace hF := h₁ hF; clear h₁
  rw [stepG_cond (t := true) (by first | rfl | (simp [Act.eval]; omega))]
  simp only [goes_go, if_true, if_false, Bool.false_eq_true, ↓reduceIte]
  refine ⟨⟨rfl, by intro e he; simp at he⟩, ?_⟩
  refine Goes.step rfl (fun _ h₁ => ?_); replace hF := h₁ hF; clear h₁
  rw [stepG_seq]
  simp only [goes_go]
  refine ⟨⟨rfl, by intro e he; simp at he⟩, ?_⟩
  refine Goes.step rfl (fun _ h₁ => ?_); replace hF := h₁ hF; clear h₁
  rw [stepG_region]
  simp only [goes_go, List.size_toArray, List.length_cons, List.length_nil, Nat.reduceAdd, Nat.zero_add, List.range, List.range.loop]
  refine ⟨⟨rfl, by intro e he; simp at he⟩, ?_⟩
  refine Goes.stop (fun w5 h₁ => ?_)
  replace hF := h₁ hF
  clear h₁
  refine ⟨rfl, _, stepG_mark0 .enable (by simp) rfl rfl (by k_ne) rfl H.f_enable (x_enable_n L) (x_enable_b L) (x_enable_x L) (x_enable_f L), 12, ?_⟩
  walk_nrm
  refine Goes.step rfl (fun _ h₁ => ?_); replace hF := h₁ hF; clear h₁
  rw [stepG_region_end]
  simp only [goes_go]
  refine ⟨⟨rfl, by intro e he; simp at he⟩, ?_⟩
  refine Goes.step rfl (fun _ h₁ => ?_); replace hF := h₁ hF; clear h₁
  rw [stepG_region]
  simp only [goes_go, List.size_toArray, List.length_cons, List.length_nil, Nat.reduceAdd, Nat.zero_add, List.range, List.range.loop]
  refine ⟨⟨rfl, by intro e he; simp at he⟩, ?_⟩
  refine Goes.step rfl (fun _ h₁ => ?_); replace hF := h₁ hF; clear h₁
  refine goes_oper_k rfl rfl (by k_ne) (fun Kx hKx => ?_)
  go_simp
  refine hKx _ _ ⟨?_, ?_⟩
  ·refine ⟨rfl, ?_⟩
   intro ex hex
   have hmx := mem_listed hex
   simp [go_sem, *] at hmx
  clear hKx Kx
  try w_num
  refine Goes.step rfl (fun _ h₁ => ?_); replace hF := h₁ hF; clear h₁
  refine goes_oper_k rfl rfl (by k_ne) (fun Kx hKx => ?_)
  have hcv := run_convert_to_unsafe (P := X.P) H.underlying_tWgP H.underlying_tUP H.room_tWg (WgLive.cell0 hF).choose_spec
  have hce := fun es => events_convert_to_unsafe (P := X.P) H.underlying_tWgP H.underlying_tUP H.room_tWg (WgLive.cell0 hF).choose_spec es
  go_simp
  refine hKx _ _ ⟨?_, ?_⟩
  ·refine ⟨rfl, ?_⟩
   intro ex hex
   have hmx := mem_listed hex
   simp [go_sem, hce] at hmx
  clear hKx Kx hcv hce
  refine Goes.stop (fun w6 h₁ => ?_)
  replace hF := h₁ hF
  clear h₁
  refine ⟨rfl, _, stepG_markAt .acquire (by simp) rfl rfl (by k_ne) rfl H.f_acquire (x_acquire_n L) (x_acquire_b L) (x_acquire_x L) (x_acquire_f L) (by simp [Act.eval, stA]), ?_⟩
  refine ⟨20, ?_⟩
  walk_nrm
  refine Goes.step rfl (fun _ _ => ?_)
  rw [stepG_region_end]
  simp only [goes_go]
  refine ⟨⟨rfl, rfl⟩, ?_⟩
  refine Goes.step rfl (fun _ _ => ?_)
  rw [stepG_seq]
  simp only [goes_go]
  refine ⟨⟨rfl, rfl⟩, ?_⟩
  refine Goes.step rfl (fun _ _ => ?_)
  rw [stepG_seq]
  simp only [goes_go]
  refine ⟨⟨rfl, rfl⟩, ?_⟩
  refine Goes.step rfl (fun _ _ => ?_)
  rw [stepG_region]
  simp only [goes_go, List.size_toArray, List.length_cons, List.length_nil, Nat.reduceAdd, Nat.zero_add, List.range, List.range.loop]
  refine ⟨⟨rfl, rfl⟩, ?_⟩
  refine Goes.step rfl (fun _ _ => ?_)
  refine goes_oper_k rfl rfl (by k_ne) (fun Kx hKx => ?_)
  go_simp
  refine hKx _ _ ⟨?_, ?_⟩
  ·refine ⟨rfl, Array.eq_empty_iff_forall_not_mem.2 ?_⟩
   intro ex hex
   have hmx := mem_listed hex
   simp [go_sem, *] at hmx
  clear hKx Kx
  try w_num
  refine Goes.step rfl (fun _ _ => ?_)
  refine goes_oper_k rfl rfl (by k_ne) (fun Kx hKx => ?_)
  go_simp
  refine hKx _ _ ⟨?_, ?_⟩
  ·refine ⟨rfl, Array.eq_empty_iff_forall_not_mem.2 ?_⟩
   intro ex hex
   have hmx := mem_listed hex
   simp [go_sem, *] at hmx
  clear hKx Kx
  try w_num
  refine Goes.step rfl (fun _ _ => ?_)
  refine goes_oper_k rfl rfl (by k_ne) (fun Kx hKx => ?_)
  go_simp
  refine hKx _ _ ⟨?_, ?_⟩
  ·refine ⟨rfl, Array.eq_empty_iff_forall_not_mem.2 ?_⟩
   intro ex hex
   have hmx := mem_listed hex
   simp [go_sem, *] at hmx
  clear hKx Kx
  try w_num
  refine Goes.step rfl (fun _ _ => ?_)
  refine goes_oper_k rfl rfl (by k_ne) (fun Kx hKx => ?_)
  go_simp
  refine hKx _ _ ⟨?_, ?_⟩
  ·refine ⟨rfl, Array.eq_empty_iff_forall_not_mem.2 ?_⟩
   intro ex hex
   have hmx := mem_listed hex
   simp [go_sem, *] at hmx
  clear hKx Kx
  try w_num
  refine Goes.step rfl (fun _ _ => ?_)
  refine goes_oper_k rfl rfl (by k_ne) (fun Kx hKx => ?_)
  go_simp
  refine hKx _ _ ⟨?_, ?_⟩
  ·refine ⟨rfl, Array.eq_empty_iff_forall_not_mem.2 ?_⟩
   intro ex hex
   have hmx := mem_listed hex
   simp [go_sem, *] at hmx
  clear hKx Kx
  try w_num
  refine Goes.step rfl (fun _ _ => ?_)
  refine goes_oper_k rfl rfl (by k_ne) (fun Kx hKx => ?_)
  go_simp
  refine hKx _ _ ⟨?_, ?_⟩
  ·refine ⟨rfl, Array.eq_empty_iff_forall_not_mem.2 ?_⟩
   intro ex hex
   have hmx := mem_listed hex
   simp [go_sem, *] at hmx
  clear hKx Kx
  try w_num
  refine Goes.step rfl (fun _ _ => ?_)
  refine goes_oper_k rfl rfl (by k_ne) (fun Kx hKx => ?_)
  go_simp
  refine hKx _ _ ⟨?_, ?_⟩
  ·refine ⟨rfl, Array.eq_empty_iff_forall_not_mem.2 ?_⟩
   intro ex hex
   have hmx := mem_listed hex
   simp [go_sem, *] at hmx
  clear hKx Kx
  try w_num
  refine Goes.step rfl (fun _ _ => ?_)
  refine goes_oper_k rfl rfl (by k_ne) (fun Kx hKx => ?_)
  go_simp
  refine hKx _ _ ⟨?_, ?_⟩
  ·refine ⟨rfl, Array.eq_empty_iff_forall_not_mem.2 ?_⟩
   intro ex hex
   have hmx := mem_listed hex
   simp [go_sem, *] at hmx
  clear hKx Kx
  try w_num
  refine Goes.step rfl (fun _ _ => ?_)
  rw [stepG_unwanted rfl rfl]
  simp only [goes_go]
  refine ⟨⟨rfl, rfl⟩, ?_⟩
  walk_nrm
  refine Goes.step rfl (fun _ _ => ?_)
  rw [stepG_unwanted rfl rfl]
  simp only [goes_go]
  refine ⟨⟨rfl, rfl⟩, ?_⟩
  walk_nrm
  refine Goes.step rfl (fun _ _ => ?_)
  refine goes_oper_k rfl rfl (by k_ne) (fun Kx hKx => ?_)
  go_simp
  refine hKx _ _ ⟨?_, ?_⟩
  ·refine ⟨rfl, Array.eq_empty_iff_forall_not_mem.2 ?_⟩
   intro ex hex
   have hmx := mem_listed hex
   simp [go_sem, *] at hmx
  clear hKx Kx
  try w_num
  refine Goes.step rfl (fun _ _ => ?_)
  rw [stepG_region_end]
  simp only [goes_go]
  refine ⟨⟨rfl, rfl⟩, ?_⟩
  refine Goes.step rfl (fun _ _ => ?_)
  rw [stepG_cond (t := false) (by first | rfl | (simp [Act.eval]; omega))]
  simp only [goes_go, if_true, if_false, Bool.false_eq_true, ↓reduceIte]
  refine ⟨⟨rfl, rfl⟩, ?_⟩
  refine Goes.step rfl (fun _ _ => ?_)
  rw [stepG_skip]
  simp only [goes_go]
  refine ⟨⟨rfl, rfl⟩, ?_⟩
  refine Goes.step rfl (fun _ _ => ?_)
  rw [stepG_ret']
  simp only [goes_go]
  refine ⟨⟨rfl, rfl⟩, ?_⟩
  refine Goes.step rfl (fun _ _ => ?_)
  refine goes_leave0 rfl rfl H.f_wait rfl ⟨⟨rfl, rfl⟩, ?_⟩
  walk_nrm
  exact Goes.stop fun _ _ => rfl
 ·
  obtain ⟨S, hS⟩ : ∃ S : Int, (v : Int) * KK = S := ⟨_, rfl⟩
  have a1 : S / 4294967296 = (v : Int) := by rw [← hS]; simp only [KK]; omega
  have b1 : bits .and .u64 S 2147483648 = 0 := by rw [← hS]; have := st_flag v 0 (by omega) (by omega); simpa [KK] using this
  have b2 : bits .and .u64 S 2147483647 = 0 := by rw [← hS]; have := st_waiters v 0 (by omega) (by omega); simpa [KK] using this
  have c1 : IntKind.i32.wrap (v : Int) = (v : Int) := by rw [IntKind.wrap_i32]; omega
  have w1 : IntKind.u64.wrap (S + 1) = S + 1 := by rw [IntKind.wrap_u64, ← hS]; simp only [KK]; omega
  have q3 : decide ((v : Int) < 0) = false := decide_eq_false (by omega)
  have q4 : decide (0 < (v : Int)) = true := decide_eq_true (by omega)
  have q5 : ((v : Int) == 0) = false := by simp; omega
  have q6 : decide ((v : Int) = 0) = false := decide_eq_false (by omega)
  rw [hS] at hw
  refine ⟨_, stepG_load_atomic (v := S) rfl rfl (by k_ne) rfl H.f_loadU64 (x_loadU64_n L) (x_loadU64_b L) (x_loadU64_x L) .u64 (x_loadU64_f L) rfl hw.cellSt, fun h0 => absurd h0 (by omega), fun _ => ⟨60, ?_⟩⟩
  clear hw
  walk_nrm
  refine Goes.step rfl (fun _ h₁ => ?_); replace hF := h₁ hF; clear h₁
  refine goes_oper_k rfl rfl (by k_ne) (fun Kx hKx => ?_)
  go_simp
  refine hKx _ _ ⟨?_, ?_⟩
  ·refine ⟨rfl, ?_⟩
   intro ex hex
   have hmx := mem_listed hex
   simp [go_sem, *] at hmx
  clear hKx Kx
  try w_num
  refine Goes.step rfl (fun _ h₁ => ?_); replace hF := h₁ hF; clear h₁
  rw [stepG_region_end]
  simp only [goes_go]
  refine ⟨⟨rfl, by intro e he; simp at he⟩, ?_⟩
  refine Goes.step rfl (fun _ h₁ => ?_); replace hF := h₁ hF; clear h₁
  rw [stepG_ret']
  simp only [goes_go]
  refine ⟨⟨rfl, by intro e he; simp at he⟩, ?_⟩
  refine Goes.step rfl (fun _ h₁ => ?_); replace hF := h₁ hF; clear h₁
  refine goes_leave1 rfl rfl H.f_uLoad rfl ⟨⟨rfl, by intro e he; simp at he⟩, ?_⟩
  walk_nrm
  refine Goes.step rfl (fun _ h₁ => ?_); replace hF := h₁ hF; clear h₁
  refine goes_oper_k rfl rfl (by k_ne) (fun Kx hKx => ?_)
  go_simp
  refine hKx _ _ ⟨?_, ?_⟩
  ·refine ⟨rfl, ?_⟩
   intro ex hex
   have hmx := mem_listed hex
   simp [go_sem, *] at hmx
  clear hKx Kx
  try w_num
  refine Goes.step rfl (fun _ h₁ => ?_); replace hF := h₁ hF; clear h₁
  rw [stepG_region_end]
  simp only [goes_go]
  refine ⟨⟨rfl, by intro e he; simp at he⟩, ?_⟩
  refine Goes.step rfl (fun _ h₁ => ?_); replace hF := h₁ hF; clear h₁
  rw [stepG_seq]
  simp only [goes_go]
  refine ⟨⟨rfl, by intro e he; simp at he⟩, ?_⟩
  refine Goes.step rfl (fun _ h₁ => ?_); replace hF := h₁ hF; clear h₁
  rw [stepG_region]
  simp only [goes_go, List.size_toArray, List.length_cons, List.length_nil, Nat.reduceAdd, Nat.zero_add, List.range, List.range.loop]
  refine ⟨⟨rfl, by intro e he; simp at he⟩, ?_⟩
  refine Goes.step rfl (fun _ h₁ => ?_); replace hF := h₁ hF; clear h₁
  refine goes_oper_k rfl rfl (by k_ne) (fun Kx hKx => ?_)
  go_simp
  refine hKx _ _ ⟨?_, ?_⟩
  ·refine ⟨rfl, ?_⟩
   intro ex hex
   have hmx := mem_listed hex
   simp [go_sem, *] at hmx
  clear hKx Kx
  try w_num
  refine Goes.step rfl (fun _ h₁ => ?_); replace hF := h₁ hF; clear h₁
  refine goes_oper_k rfl rfl (by k_ne) (fun Kx hKx => ?_)
  go_simp
  refine hKx _ _ ⟨?_, ?_⟩
  ·refine ⟨rfl, ?_⟩
   intro ex hex
   have hmx := mem_listed hex
   simp [go_sem, *] at hmx
  clear hKx Kx
  try w_num
  refine Goes.step rfl (fun _ h₁ => ?_); replace hF := h₁ hF; clear h₁
  refine goes_oper_k rfl rfl (by k_ne) (fun Kx hKx => ?_)
  go_simp
  refine hKx _ _ ⟨?_, ?_⟩
  ·refine ⟨rfl, ?_⟩
   intro ex hex
   have hmx := mem_listed hex
   simp [go_sem, *] at hmx
  clear hKx Kx
  try w_num
  refine Goes.step rfl (fun _ h₁ => ?_); replace hF := h₁ hF; clear h₁
  refine goes_oper_k rfl rfl (by k_ne) (fun Kx hKx => ?_)
  go_simp
  refine hKx _ _ ⟨?_, ?_⟩
  ·refine ⟨rfl, ?_⟩
   intro ex hex
   have hmx := mem_listed hex
   simp [go_sem, *] at hmx
  clear hKx Kx
  try w_num
  refine Goes.step rfl (fun _ h₁ => ?_); replace hF := h₁ hF; clear h₁
  rw [stepG_region_end]
  simp only [goes_go]
  refine ⟨⟨rfl, by intro e he; simp at he⟩, ?_⟩
  refine Goes.step rfl (fun _ h₁ => ?_); replace hF := h₁ hF; clear h₁
  rw [stepG_seq]
  simp only [goes_go]
  refine ⟨⟨rfl, by intro e he; simp at he⟩, ?_⟩
  refine Goes.step rfl (fun _ h₁ => ?_); replace hF := h₁ hF; clear h₁
  rw [stepG_region]
  simp only [goes_go, List.size_toArray, List.length_cons, List.length_nil, Nat.reduceAdd, Nat.zero_add, List.range, List.range.loop]
  refine ⟨⟨rfl, by intro e he; simp at he⟩, ?_⟩
  refine Goes.step rfl (fun _ h₁ => ?_); replace hF := h₁ hF; clear h₁
  refine goes_oper_k rfl rfl (by k_ne) (fun Kx hKx => ?_)
  go_simp
  refine hKx _ _ ⟨?_, ?_⟩
  ·refine ⟨rfl, ?_⟩
   intro ex hex
   have hmx := mem_listed hex
   simp [go_sem, *] at hmx
  clear hKx Kx
  try w_num
  refine Goes.step rfl (fun _ h₁ => ?_); replace hF := h₁ hF; clear h₁
  refine goes_oper_k rfl rfl (by k_ne) (fun Kx hKx => ?_)
  go_simp
  refine hKx _ _ ⟨?_, ?_⟩
  ·refine ⟨rfl, ?_⟩
   intro ex hex
   have hmx := mem_listed hex
   simp [go_sem, *] at hmx
  clear hKx Kx
  try w_num
  refine Goes.step rfl (fun _ h₁ => ?_); replace hF := h₁ hF; clear h₁
  refine goes_oper_k rfl rfl (by k_ne) (fun Kx hKx => ?_)
  go_simp
  refine hKx _ _ ⟨?_, ?_⟩
  ·refine ⟨rfl, ?_⟩
   intro ex hex
   have hmx := mem_listed hex
   simp [go_sem, *] at hmx
  clear hKx Kx
  try w_num
  refine Goes.step rfl (fun _ h₁ => ?_); replace hF := h₁ hF; clear h₁
  refine goes_oper_k rfl rfl (by k_ne) (fun Kx hKx => ?_)
  go_simp
  refine hKx _ _ ⟨?_, ?_⟩
  ·refine ⟨rfl, ?_⟩
   intro ex hex
   have hmx := mem_listed hex
   simp [go_sem, *] at hmx
  clear hKx Kx
  try w_num
  refine Goes.step rfl (fun _ h₁ => ?_); replace hF := h₁ hF; clear h₁
  rw [stepG_region_end]
  simp only [goes_go]
  refine ⟨⟨rfl, by intro e he; simp at he⟩, ?_⟩
  refine Goes.step rfl (fun _ h₁ => ?_); replace hF := h₁ hF; clear h₁
  rw [stepG_seq]
  simp only [goes_go]
  refine ⟨⟨rfl, by intro e he; simp at he⟩, ?_⟩
  refine Goes.step rfl (fun _ h₁ => ?_); replace hF := h₁ hF; clear h₁
  rw [stepG_seq]
  simp only [goes_go]
  refine ⟨⟨rfl, by intro e he; simp at he⟩, ?_⟩
  refine Goes.step rfl (fun _ h₁ => ?_); replace hF := h₁ hF; clear h₁
  rw [stepG_region]
  simp only [goes_go, List.size_toArray, List.length_cons, List.length_nil, Nat.reduceAdd, Nat.zero_add, List.range, List.range.loop]
  refine ⟨⟨rfl, by intro e he; simp at he⟩, ?_⟩
  refine Goes.step rfl (fun _ h₁ => ?_); replace hF := h₁ hF; clear h₁
  refine goes_oper_k rfl rfl (by k_ne) (fun Kx hKx => ?_)
  go_simp
  refine hKx _ _ ⟨?_, ?_⟩
  ·refine ⟨rfl, ?_⟩
   intro ex hex
   have hmx := mem_listed hex
   simp [go_sem, *] at hmx
  clear hKx Kx
  try w_num
  refine Goes.step rfl (fun _ h₁ => ?_); replace hF := h₁ hF; clear h₁
  refine goes_oper_k rfl rfl (by k_ne) (fun Kx hKx => ?_)
  go_simp
  refine hKx _ _ ⟨?_, ?_⟩
  ·refine ⟨rfl, ?_⟩
   intro ex hex
   have hmx := mem_listed hex
   simp [go_sem, *] at hmx
  clear hKx Kx
  try w_num
  refine Goes.step rfl (fun _ h₁ => ?_); replace hF := h₁ hF; clear h₁
  rw [stepG_region_end]
  simp only [goes_go]
  refine ⟨⟨rfl, by intro e he; simp at he⟩, ?_⟩
  refine Goes.step rfl (fun _ h₁ => ?_); replace hF := h₁ hF; clear h₁
  rw [stepG_cond (t := false) (by first | rfl | (simp [Act.eval]; omega))]
  simp only [goes_go, if_true, if_false, Bool.false_eq_true, ↓reduceIte]
  refine ⟨⟨rfl, by intro e he; simp at he⟩, ?_⟩
  refine Goes.step rfl (fun _ h₁ => ?_); replace hF := h₁ hF; clear h₁
  rw [stepG_skip]
  simp only [goes_go]
  refine ⟨⟨rfl, by intro e he; simp at he⟩, ?_⟩
  refine Goes.step rfl (fun _ h₁ => ?_); replace hF := h₁ hF; clear h₁
  rw [stepG_seq]
  simp only [goes_go]
  refine ⟨⟨rfl, by intro e he; simp at he⟩, ?_⟩
  refine Goes.step rfl (fun _ h₁ => ?_); replace hF := h₁ hF; clear h₁
  rw [stepG_region]
  simp only [goes_go, List.size_toArray, List.length_cons, List.length_nil, Nat.reduceAdd, Nat.zero_add, List.range, List.range.loop]
  refine ⟨⟨rfl, by intro e he; simp at he⟩, ?_⟩
  refine Goes.step rfl (fun _ h₁ => ?_); replace hF := h₁ hF; clear h₁
  refine goes_oper_k rfl rfl (by k_ne) (fun Kx hKx => ?_)
  go_simp
  refine hKx _ _ ⟨?_, ?_⟩
  ·refine ⟨rfl, ?_⟩
   intro ex hex
   have hmx := mem_listed hex
   simp [go_sem, *] at hmx
  clear hKx Kx
  try w_num
  refine Goes.step rfl (fun _ h₁ => ?_); replace hF := h₁ hF; clear h₁
  refine goes_oper_k rfl rfl (by k_ne) (fun Kx hKx => ?_)
  go_simp
  refine hKx _ _ ⟨?_, ?_⟩
  ·refine ⟨rfl, ?_⟩
   intro ex hex
   have hmx := mem_listed hex
   simp [go_sem, *] at hmx
  clear hKx Kx
  try w_num
  refine Goes.step rfl (fun _ h₁ => ?_); replace hF := h₁ hF; clear h₁
  refine goes_oper_k rfl rfl (by k_ne) (fun Kx hKx => ?_)
  go_simp
  refine hKx _ _ ⟨?_, ?_⟩
  ·refine ⟨rfl, ?_⟩
   intro ex hex
   have hmx := mem_listed hex
   simp [go_sem, *] at hmx
  clear hKx Kx
  try w_num
  refine Goes.step rfl (fun _ h₁ => ?_); replace hF := h₁ hF; clear h₁
  refine goes_oper_k rfl rfl (by k_ne) (fun Kx hKx => ?_)
  go_simp
  refine hKx _ _ ⟨?_, ?_⟩
  ·refine ⟨rfl, ?_⟩
   intro ex hex
   have hmx := mem_listed hex
   simp [go_sem, *] at hmx
  clear hKx Kx
  try w_num
  refine Goes.step rfl (fun _ h₁ => ?_); replace hF := h₁ hF; clear h₁
  refine goes_oper_k rfl rfl (by k_ne) (fun Kx hKx => ?_)
  go_simp
  refine hKx _ _ ⟨?_, ?_⟩
  ·refine ⟨rfl, ?_⟩
   intro ex hex
   have hmx := mem_listed hex
   simp [go_sem, *] at hmx
  clear hKx Kx
  try w_num
  refine Goes.step rfl (fun _ h₁ => ?_); replace hF := h₁ hF; clear h₁
  refine goes_oper_k rfl rfl (by k_ne) (fun Kx hKx => ?_)
  go_simp
  refine hKx _ _ ⟨?_, ?_⟩
  ·refine ⟨rfl, ?_⟩
   intro ex hex
   have hmx := mem_listed hex
   simp [go_sem, *] at hmx
  clear hKx Kx
  try w_num
  refine Goes.step rfl (fun _ h₁ => ?_); replace hF := h₁ hF; clear h₁
  refine goes_call rfl rfl (by k_ne) rfl H.f_uCas (nm_uCas L) rfl ⟨⟨rfl, by intro e he; simp at he⟩, ?_⟩
  walk_nrmf uCasFn
  refine Goes.step rfl (fun _ h₁ => ?_); replace hF := h₁ hF; clear h₁
  rw [stepG_seq]
  simp only [goes_go]
  refine ⟨⟨rfl, by intro e he; simp at he⟩, ?_⟩
  refine Goes.step rfl (fun _ h₁ => ?_); replace hF := h₁ hF; clear h₁
  rw [stepG_region]
  simp only [goes_go, List.size_toArray, List.length_cons, List.length_nil, Nat.reduceAdd, Nat.zero_add, List.range, List.range.loop]
  refine ⟨⟨rfl, by intro e he; simp at he⟩, ?_⟩
  refine Goes.step rfl (fun _ h₁ => ?_); replace hF := h₁ hF; clear h₁
  refine goes_oper_k rfl rfl (by k_ne) (fun Kx hKx => ?_)
  go_simp
  refine hKx _ _ ⟨?_, ?_⟩
  ·refine ⟨rfl, ?_⟩
   intro ex hex
   have hmx := mem_listed hex
   simp [go_sem, *] at hmx
  clear hKx Kx
  try w_num
  refine Goes.step rfl (fun _ h₁ => ?_); replace hF := h₁ hF; clear h₁
  rw [stepG_region_end]
  simp only [goes_go]
  refine ⟨⟨rfl, by intro e he; simp at he⟩, ?_⟩
  refine Goes.step rfl (fun _ h₁ => ?_); replace hF := h₁ hF; clear h₁
  rw [stepG_seq]
  simp only [goes_go]
  refine ⟨⟨rfl, by intro e he; simp at he⟩, ?_⟩
  refine Goes.step rfl (fun _ h₁ => ?_); replace hF := h₁ hF; clear h₁
  rw [stepG_region]
  simp only [goes_go, List.size_toArray, List.length_cons, List.length_nil, Nat.reduceAdd, Nat.zero_add, List.range, List.range.loop]
  refine ⟨⟨rfl, by intro e he; simp at he⟩, ?_⟩
  refine Goes.step rfl (fun _ h₁ => ?_); replace hF := h₁ hF; clear h₁
  refine goes_oper_k rfl rfl (by k_ne) (fun Kx hKx => ?_)
  go_simp
  refine hKx _ _ ⟨?_, ?_⟩
  ·refine ⟨rfl, ?_⟩
   intro ex hex
   have hmx := mem_listed hex
   simp [go_sem, *] at hmx
  clear hKx Kx
  try w_num
  refine Goes.step rfl (fun _ h₁ => ?_); replace hF := h₁ hF; clear h₁
  refine goes_oper_k rfl rfl (by k_ne) (fun Kx hKx => ?_)
  go_simp
  refine hKx _ _ ⟨?_, ?_⟩
  ·refine ⟨rfl, ?_⟩
   intro ex hex
   have hmx := mem_listed hex
   simp [go_sem, *] at hmx
  clear hKx Kx
  try w_num
  refine Goes.step rfl (fun _ h₁ => ?_); replace hF := h₁ hF; clear h₁
  refine goes_oper_k rfl rfl (by k_ne) (fun Kx hKx => ?_)
  go_simp
  refine hKx _ _ ⟨?_, ?_⟩
  ·refine ⟨rfl, ?_⟩
   intro ex hex
   have hmx := mem_listed hex
   simp [go_sem, *] at hmx
  clear hKx Kx
  try w_num
  refine Goes.step rfl (fun _ h₁ => ?_); replace hF := h₁ hF; clear h₁
  refine goes_oper_k rfl rfl (by k_ne) (fun Kx hKx => ?_)
  go_simp
  refine hKx _ _ ⟨?_, ?_⟩
  ·refine ⟨rfl, ?_⟩
   intro ex hex
   have hmx := mem_listed hex
   simp [go_sem, *] at hmx
  clear hKx Kx
  try w_num
  refine Goes.step rfl (fun _ h₁ => ?_); replace hF := h₁ hF; clear h₁
  refine goes_oper_k rfl rfl (by k_ne) (fun Kx hKx => ?_)
  go_simp
  refine hKx _ _ ⟨?_, ?_⟩
  ·refine ⟨rfl, ?_⟩
   intro ex hex
   have hmx := mem_listed hex
   simp [go_sem, *] at hmx
  clear hKx Kx
  try w_num
  refine Goes.stop (fun w2 h₁ => ?_)
  replace hF := h₁ hF
  clear h₁
  refine ⟨rfl, fun v' hv' hw => ⟨fun e => ?_, fun e => ?_⟩⟩
  ·
   subst e
   rw [hS] at hw ⊢
   refine ⟨_, (stepG_cas_hit (v := S) (n := S + 1) rfl rfl (by k_ne) rfl H.f_casU64 (x_casU64_n L) (x_casU64_b L) (x_casU64_x L) .u64 (x_casU64_f L) rfl rfl rfl hw.cellSt (hw.thaw 0)).trans (by rfl), 70, ?_⟩
   replace hF : WgLive L.tWg X.G.Wg (w2.setCell (stA X.G.Wg) (.int .u64 (S + 1))) := ⟨_, _, hw.setSt _⟩
   clear hw
   walk_nrm
   refine Goes.step rfl (fun _ h₁ => ?_); replace hF := h₁ hF; clear h₁
   refine goes_oper_k rfl rfl (by k_ne) (fun Kx hKx => ?_)
   go_simp
   refine hKx _ _ ⟨?_, ?_⟩
   ·refine ⟨rfl, ?_⟩
    intro ex hex
    have hmx := mem_listed hex
    simp [go_sem, *] at hmx
   clear hKx Kx
   try w_num
   refine Goes.step rfl (fun _ h₁ => ?_); replace hF := h₁ hF; clear h₁
   rw [stepG_region_end]
   simp only [goes_go]
   refine ⟨⟨rfl, by intro e he; simp at he⟩, ?_⟩
   refine Goes.step rfl (fun _ h₁ => ?_); replace hF := h₁ hF; clear h₁
   rw [stepG_ret']
   simp only [goes_go]
   refine ⟨⟨rfl, by intro e he; simp at he⟩, ?_⟩
   refine Goes.step rfl (fun _ h₁ => ?_); replace hF := h₁ hF; clear h₁
   refine goes_leave1 rfl rfl H.f_uCas rfl ⟨⟨rfl, by intro e he; simp at he⟩, ?_⟩
   walk_nrm
   refine Goes.step rfl (fun _ h₁ => ?_); replace hF := h₁ hF; clear h₁
   rw [stepG_region_end]
   simp only [goes_go]
   refine ⟨⟨rfl, by intro e he; simp at he⟩, ?_⟩
   refine Goes.step rfl (fun _ h₁ => ?_); replace hF := h₁ hF; clear h₁
   rw [stepG_cond (t := true) (by first | rfl | (simp [Act.eval]; omega))]
   simp only [goes_go, if_true, if_false, Bool.false_eq_true, ↓reduceIte]
   refine ⟨⟨rfl, by intro e he; simp at he⟩, ?_⟩
   refine Goes.step rfl (fun _ h₁ => ?_); replace hF := h₁ hF; clear h₁
   rw [stepG_seq]
   simp only [goes_go]
   refine ⟨⟨rfl, by intro e he; simp at he⟩, ?_⟩
   refine Goes.step rfl (fun _ h₁ => ?_); replace hF := h₁ hF; clear h₁
   rw [stepG_seq]
   simp only [goes_go]
   refine ⟨⟨rfl, by intro e he; simp at he⟩, ?_⟩
   refine Goes.step rfl (fun _ h₁ => ?_); replace hF := h₁ hF; clear h₁
   rw [stepG_region]
   simp only [goes_go, List.size_toArray, List.length_cons, List.length_nil, Nat.reduceAdd, Nat.zero_add, List.range, List.range.loop]
   refine ⟨⟨rfl, by intro e he; simp at he⟩, ?_⟩
   refine Goes.step rfl (fun _ h₁ => ?_); replace hF := h₁ hF; clear h₁
   refine goes_oper_k rfl rfl (by k_ne) (fun Kx hKx => ?_)
   go_simp
   refine hKx _ _ ⟨?_, ?_⟩
   ·refine ⟨rfl, ?_⟩
    intro ex hex
    have hmx := mem_listed hex
    simp [go_sem, *] at hmx
   clear hKx Kx
   try w_num
   refine Goes.step rfl (fun _ h₁ => ?_); replace hF := h₁ hF; clear h₁
   refine goes_oper_k rfl rfl (by k_ne) (fun Kx hKx => ?_)
   go_simp
   refine hKx _ _ ⟨?_, ?_⟩
   ·refine ⟨rfl, ?_⟩
    intro ex hex
    have hmx := mem_listed hex
    simp [go_sem, *] at hmx
   clear hKx Kx
   try w_num
   refine Goes.step rfl (fun _ h₁ => ?_); replace hF := h₁ hF; clear h₁
   refine goes_oper_k rfl rfl (by k_ne) (fun Kx hKx => ?_)
   go_simp
   refine hKx _ _ ⟨?_, ?_⟩
   ·refine ⟨rfl, ?_⟩
    intro ex hex
    have hmx := mem_listed hex
    simp [go_sem, *] at hmx
   clear hKx Kx
   try w_num
   refine Goes.step rfl (fun _ h₁ => ?_); replace hF := h₁ hF; clear h₁
   refine goes_oper_k rfl rfl (by k_ne) (fun Kx hKx => ?_)
   go_simp
   refine hKx _ _ ⟨?_, ?_⟩
   ·refine ⟨rfl, ?_⟩
    intro ex hex
    have hmx := mem_listed hex
    simp [go_sem, *] at hmx
   clear hKx Kx
   try w_num
   refine Goes.step rfl (fun _ h₁ => ?_); replace hF := h₁ hF; clear h₁
   rw [stepG_region_end]
   simp only [goes_go]
   refine ⟨⟨rfl, by intro e he; simp at he⟩, ?_⟩
   refine Goes.step rfl (fun _ h₁ => ?_); replace hF := h₁ hF; clear h₁
   rw [stepG_cond (t := true) (by first | rfl | (simp [Act.eval]; omega))]
   simp only [goes_go, if_true, if_false, Bool.false_eq_true, ↓reduceIte]
   refine ⟨⟨rfl, by intro e he; simp at he⟩, ?_⟩
   refine Goes.step rfl (fun _ h₁ => ?_); replace hF := h₁ hF; clear h₁
   rw [stepG_region]
   simp only [goes_go, List.size_toArray, List.length_cons, List.length_nil, Nat.reduceAdd, Nat.zero_add, List.range, List.range.loop]
   refine ⟨⟨rfl, by intro e he; simp at he⟩, ?_⟩
   refine Goes.step rfl (fun _ h₁ => ?_); replace hF := h₁ hF; clear h₁
   refine goes_oper_k rfl rfl (by k_ne) (fun Kx hKx => ?_)
   go_simp
   refine hKx _ _ ⟨?_, ?_⟩
   ·refine ⟨rfl, ?_⟩
    intro ex hex
    have hmx := mem_listed hex
    simp [go_sem, *] at hmx
   clear hKx Kx
   try w_num
   refine Goes.step rfl (fun _ h₁ => ?_); replace hF := h₁ hF; clear h₁
   refine goes_oper_k rfl rfl (by k_ne) (fun Kx hKx => ?_)
   go_simp
   refine hKx _ _ ⟨?_, ?_⟩
   ·refine ⟨rfl, ?_⟩
    intro ex hex
    have hmx := mem_listed hex
    simp [go_sem, *] at hmx
   clear hKx Kx
   try w_num
   refine Goes.step rfl (fun _ h₁ => ?_); replace hF := h₁ hF; clear h₁
   refine goes_oper_k rfl rfl (by k_ne) (fun Kx hKx => ?_)
   go_simp
   refine hKx _ _ ⟨?_, ?_⟩
   ·refine ⟨rfl, ?_⟩
    intro ex hex
    have hmx := mem_listed hex
    simp [go_sem, *] at hmx
   clear hKx Kx
   try w_num
   refine Goes.step rfl (fun _ h₁ => ?_); replace hF := h₁ hF; clear h₁
   refine goes_oper_k rfl rfl (by k_ne) (fun Kx hKx => ?_)
   have hcv := run_convert_to_unsafe (P := X.P) H.underlying_tPU32 H.underlying_tUP H.room_tU32 (WgLive.cell1 hF).choose_spec
   have hce := fun es => events_convert_to_unsafe (P := X.P) H.underlying_tPU32 H.underlying_tUP H.room_tU32 (WgLive.cell1 hF).choose_spec es
   go_simp
   refine hKx _ _ ⟨?_, ?_⟩
   ·refine ⟨rfl, ?_⟩
    intro ex hex
    have hmx := mem_listed hex
    simp [go_sem, hce] at hmx
   clear hKx Kx hcv hce
   refine Goes.step rfl (fun _ h₁ => ?_); replace hF := h₁ hF; clear h₁
   rw [stepG_markAt .write (by simp) rfl rfl (by k_ne) rfl H.f_raceWrite (x_raceWrite_n L) (x_raceWrite_b L) (x_raceWrite_x L) (x_raceWrite_f L) (ad := ⟨_, 1, none⟩) (by simp [Act.eval] <;> rfl)]
   simp only [goes_go]
   refine ⟨⟨rfl, fun ex hex => ?_⟩, ?_⟩
   ·rw [Array.mem_singleton] at hex
    subst hex
    exact evm_said_write _ rfl
   refine Goes.step rfl (fun _ h₁ => ?_); replace hF := h₁ hF; clear h₁
   rw [stepG_region_end]
   simp only [goes_go]
   refine ⟨⟨rfl, by intro e he; simp at he⟩, ?_⟩
   refine Goes.step rfl (fun _ h₁ => ?_); replace hF := h₁ hF; clear h₁
   rw [stepG_seq]
   simp only [goes_go]
   refine ⟨⟨rfl, by intro e he; simp at he⟩, ?_⟩
   refine Goes.step rfl (fun _ h₁ => ?_); replace hF := h₁ hF; clear h₁
   rw [stepG_region]
   simp only [goes_go, List.size_toArray, List.length_cons, List.length_nil, Nat.reduceAdd, Nat.zero_add, List.range, List.range.loop]
   refine ⟨⟨rfl, by intro e he; simp at he⟩, ?_⟩
   refine Goes.step rfl (fun _ h₁ => ?_); replace hF := h₁ hF; clear h₁
   refine goes_oper_k rfl rfl (by k_ne) (fun Kx hKx => ?_)
   go_simp
   refine hKx _ _ ⟨?_, ?_⟩
   ·refine ⟨rfl, ?_⟩
    intro ex hex
    have hmx := mem_listed hex
    simp [go_sem, *] at hmx
   clear hKx Kx
   try w_num
   refine Goes.step rfl (fun _ h₁ => ?_); replace hF := h₁ hF; clear h₁
   rw [stepG_region_end]
   simp only [goes_go]
   refine ⟨⟨rfl, by intro e he; simp at he⟩, ?_⟩
   refine Goes.step rfl (fun _ h₁ => ?_); replace hF := h₁ hF; clear h₁
   rw [stepG_seq]
   simp only [goes_go]
   refine ⟨⟨rfl, by intro e he; simp at he⟩, ?_⟩
   refine Goes.step rfl (fun _ h₁ => ?_); replace hF := h₁ hF; clear h₁
   rw [stepG_seq]
   simp only [goes_go]
   refine ⟨⟨rfl, by intro e he; simp at he⟩, ?_⟩
   refine Goes.step rfl (fun _ h₁ => ?_); replace hF := h₁ hF; clear h₁
   rw [stepG_region]
   simp only [goes_go, List.size_toArray, List.length_cons, List.length_nil, Nat.reduceAdd, Nat.zero_add, List.range, List.range.loop]
   refine ⟨⟨rfl, by intro e he; simp at he⟩, ?_⟩
   refine Goes.step rfl (fun _ h₁ => ?_); replace hF := h₁ hF; clear h₁
   refine goes_oper_k rfl rfl (by k_ne) (fun Kx hKx => ?_)
   go_simp
   refine hKx _ _ ⟨?_, ?_⟩
   ·refine ⟨rfl, ?_⟩
    intro ex hex
    have hmx := mem_listed hex
    simp [go_sem, *] at hmx
   clear hKx Kx
   try w_num
   refine Goes.step rfl (fun _ h₁ => ?_); replace hF := h₁ hF; clear h₁
   refine goes_oper_k rfl rfl (by k_ne) (fun Kx hKx => ?_)
   go_simp
   refine hKx _ _ ⟨?_, ?_⟩
   ·refine ⟨rfl, ?_⟩
    intro ex hex
    have hmx := mem_listed hex
    simp [go_sem, *] at hmx
   clear hKx Kx
   try w_num
   refine Goes.step rfl (fun _ h₁ => ?_); replace hF := h₁ hF; clear h₁
   refine goes_oper_k rfl rfl (by k_ne) (fun Kx hKx => ?_)
   go_simp
   refine hKx _ _ ⟨?_, ?_⟩
   ·refine ⟨rfl, ?_⟩
    intro ex hex
    have hmx := mem_listed hex
    simp [go_sem, *] at hmx
   clear hKx Kx
   try w_num
   refine Goes.step rfl (fun _ h₁ => ?_); replace hF := h₁ hF; clear h₁
   refine goes_oper_k rfl rfl (by k_ne) (fun Kx hKx => ?_)
   go_simp
   refine hKx _ _ ⟨?_, ?_⟩
   ·refine ⟨rfl, ?_⟩
    intro ex hex
    have hmx := mem_listed hex
    simp [go_sem, *] at hmx
   clear hKx Kx
   try w_num
   refine Goes.step rfl (fun _ h₁ => ?_); replace hF := h₁ hF; clear h₁
   rw [stepG_unwanted rfl rfl]
   simp only [goes_go]
   refine ⟨⟨rfl, by intro e he; simp at he⟩, ?_⟩
   walk_nrm
   refine Goes.step rfl (fun _ h₁ => ?_); replace hF := h₁ hF; clear h₁
   refine goes_oper_k rfl rfl (by k_ne) (fun Kx hKx => ?_)
   go_simp
   refine hKx _ _ ⟨?_, ?_⟩
   ·refine ⟨rfl, ?_⟩
    intro ex hex
    have hmx := mem_listed hex
    simp [go_sem, *] at hmx
   clear hKx Kx
   try w_num
   refine Goes.step rfl (fun _ h₁ => ?_); replace hF := h₁ hF; clear h₁
   rw [stepG_region_end]
   simp only [goes_go]
   refine ⟨⟨rfl, by intro e he; simp at he⟩, ?_⟩
   refine Goes.step rfl (fun _ h₁ => ?_); replace hF := h₁ hF; clear h₁
   rw [stepG_cond (t := false) (by first | rfl | (simp [Act.eval]; omega))]
   simp only [goes_go, if_true, if_false, Bool.false_eq_true, ↓reduceIte]
   refine ⟨⟨rfl, by intro e he; simp at he⟩, ?_⟩
   refine Goes.step rfl (fun _ h₁ => ?_); replace hF := h₁ hF; clear h₁
   rw [stepG_skip]
   simp only [goes_go]
   refine ⟨⟨rfl, by intro e he; simp at he⟩, ?_⟩
   refine Goes.step rfl (fun _ h₁ => ?_); replace hF := h₁ hF; clear h₁
   rw [stepG_seq]
   simp only [goes_go]
   refine ⟨⟨rfl, by intro e he; simp at he⟩, ?_⟩
   refine Goes.step rfl (fun _ h₁ => ?_); replace hF := h₁ hF; clear h₁
   rw [stepG_region]
   simp only [goes_go, List.size_toArray, List.length_cons, List.length_nil, Nat.reduceAdd, Nat.zero_add, List.range, List.range.loop]
   refine ⟨⟨rfl, by intro e he; simp at he⟩, ?_⟩
   refine Goes.step rfl (fun _ h₁ => ?_); replace hF := h₁ hF; clear h₁
   refine goes_oper_k rfl rfl (by k_ne) (fun Kx hKx => ?_)
   go_simp
   refine hKx _ _ ⟨?_, ?_⟩
   ·refine ⟨rfl, ?_⟩
    intro ex hex
    have hmx := mem_listed hex
    simp [go_sem, *] at hmx
   clear hKx Kx
   try w_num
   refine Goes.step rfl (fun _ h₁ => ?_); replace hF := h₁ hF; clear h₁
   refine goes_oper_k rfl rfl (by k_ne) (fun Kx hKx => ?_)
   go_simp
   refine hKx _ _ ⟨?_, ?_⟩
   ·refine ⟨rfl, ?_⟩
    intro ex hex
    have hmx := mem_listed hex
    simp [go_sem, *] at hmx
   clear hKx Kx
   try w_num
   refine Goes.step rfl (fun _ h₁ => ?_); replace hF := h₁ hF; clear h₁
   refine goes_oper_k rfl rfl (by k_ne) (fun Kx hKx => ?_)
   go_simp
   refine hKx _ _ ⟨?_, ?_⟩
   ·refine ⟨rfl, ?_⟩
    intro ex hex
    have hmx := mem_listed hex
    simp [go_sem, *] at hmx
   clear hKx Kx
   try w_num
   refine Goes.step rfl (fun _ h₁ => ?_); replace hF := h₁ hF; clear h₁
   refine goes_oper_k rfl rfl (by k_ne) (fun Kx hKx => ?_)
   go_simp
   refine hKx _ _ ⟨?_, ?_⟩
   ·refine ⟨rfl, ?_⟩
    intro ex hex
    have hmx := mem_listed hex
    simp [go_sem, *] at hmx
   clear hKx Kx
   try w_num
   refine Goes.stop (fun w3 h₁ => ?_)
   replace hF := h₁ hF
   clear h₁
   refine ⟨rfl, rfl, fun ⟨st, hw⟩ => stepG_semacquire_wait rfl rfl rfl H.f_semacquire (x_semacquire_n L) (x_semacquire_b L) (x_semacquire_x L) (x_semacquire_f L) (by simp [Act.eval, smA]) hw.cellSm, fun hf => ?_⟩
   refine ⟨_, (stepG_semacquire (n := 1) rfl rfl (by k_ne) rfl H.f_semacquire (x_semacquire_n L) (x_semacquire_b L) (x_semacquire_x L) (x_semacquire_f L) (by simp [Act.eval, smA]) hf.cellSm (by k_ne) (hf.thaw 1)).trans (by rfl), 30, ?_⟩
   replace hF : WgLive L.tWg X.G.Wg (w3.setCell (smA X.G.Wg) (.int .u32 0)) := ⟨_, _, hf.setSm 0⟩
   clear hf
   walk_nrm
   refine Goes.step rfl (fun _ h₁ => ?_); replace hF := h₁ hF; clear h₁
   rw [stepG_region_end]
   simp only [goes_go]
   refine ⟨⟨rfl, by intro e he; simp at he⟩, ?_⟩
   refine Goes.step rfl (fun _ h₁ => ?_); replace hF := h₁ hF; clear h₁
   rw [stepG_seq]
   simp only [goes_go]
   refine ⟨⟨rfl, by intro e he; simp at he⟩, ?_⟩
   refine Goes.step rfl (fun _ h₁ => ?_); replace hF := h₁ hF; clear h₁
   rw [stepG_region]
   simp only [goes_go, List.size_toArray, List.length_cons, List.length_nil, Nat.reduceAdd, Nat.zero_add, List.range, List.range.loop]
   refine ⟨⟨rfl, by intro e he; simp at he⟩, ?_⟩
   refine Goes.step rfl (fun _ h₁ => ?_); replace hF := h₁ hF; clear h₁
   refine goes_oper_k rfl rfl (by k_ne) (fun Kx hKx => ?_)
   go_simp
   refine hKx _ _ ⟨?_, ?_⟩
   ·refine ⟨rfl, ?_⟩
    intro ex hex
    have hmx := mem_listed hex
    simp [go_sem, *] at hmx
   clear hKx Kx
   try w_num
   refine Goes.step rfl (fun _ h₁ => ?_); replace hF := h₁ hF; clear h₁
   refine goes_oper_k rfl rfl (by k_ne) (fun Kx hKx => ?_)
   go_simp
   refine hKx _ _ ⟨?_, ?_⟩
   ·refine ⟨rfl, ?_⟩
    intro ex hex
    have hmx := mem_listed hex
    simp [go_sem, *] at hmx
   clear hKx Kx
   try w_num
   refine Goes.step rfl (fun _ h₁ => ?_); replace hF := h₁ hF; clear h₁
   refine goes_oper_k rfl rfl (by k_ne) (fun Kx hKx => ?_)
   go_simp
   refine hKx _ _ ⟨?_, ?_⟩
   ·refine ⟨rfl, ?_⟩
    intro ex hex
    have hmx := mem_listed hex
    simp [go_sem, *] at hmx
   clear hKx Kx
   try w_num
   refine Goes.step rfl (fun _ h₁ => ?_); replace hF := h₁ hF; clear h₁
   refine goes_call rfl rfl (by k_ne) rfl H.f_uLoad (nm_uLoad L) rfl ⟨⟨rfl, by intro e he; simp at he⟩, ?_⟩
   walk_nrmf uLoadFn
   refine Goes.step rfl (fun _ h₁ => ?_); replace hF := h₁ hF; clear h₁
   rw [stepG_seq]
   simp only [goes_go]
   refine ⟨⟨rfl, by intro e he; simp at he⟩, ?_⟩
   refine Goes.step rfl (fun _ h₁ => ?_); replace hF := h₁ hF; clear h₁
   rw [stepG_region]
   simp only [goes_go, List.size_toArray, List.length_cons, List.length_nil, Nat.reduceAdd, Nat.zero_add, List.range, List.range.loop]
   refine ⟨⟨rfl, by intro e he; simp at he⟩, ?_⟩
   refine Goes.step rfl (fun _ h₁ => ?_); replace hF := h₁ hF; clear h₁
   refine goes_oper_k rfl rfl (by k_ne) (fun Kx hKx => ?_)
   go_simp
   refine hKx _ _ ⟨?_, ?_⟩
   ·refine ⟨rfl, ?_⟩
    intro ex hex
    have hmx := mem_listed hex
    simp [go_sem, *] at hmx
   clear hKx Kx
   try w_num
   refine Goes.step rfl (fun _ h₁ => ?_); replace hF := h₁ hF; clear h₁
   rw [stepG_region_end]
   simp only [goes_go]
   refine ⟨⟨rfl, by intro e he; simp at he⟩, ?_⟩
   refine Goes.step rfl (fun _ h₁ => ?_); replace hF := h₁ hF; clear h₁
   rw [stepG_seq]
   simp only [goes_go]
   refine ⟨⟨rfl, by intro e he; simp at he⟩, ?_⟩
   refine Goes.step rfl (fun _ h₁ => ?_); replace hF := h₁ hF; clear h₁
   rw [stepG_region]
   simp only [goes_go, List.size_toArray, List.length_cons, List.length_nil, Nat.reduceAdd, Nat.zero_add, List.range, List.range.loop]
   refine ⟨⟨rfl, by intro e he; simp at he⟩, ?_⟩
   refine Goes.step rfl (fun _ h₁ => ?_); replace hF := h₁ hF; clear h₁
   refine goes_oper_k rfl rfl (by k_ne) (fun Kx hKx => ?_)
   go_simp
   refine hKx _ _ ⟨?_, ?_⟩
   ·refine ⟨rfl, ?_⟩
    intro ex hex
    have hmx := mem_listed hex
    simp [go_sem, *] at hmx
   clear hKx Kx
   try w_num
   refine Goes.step rfl (fun _ h₁ => ?_); replace hF := h₁ hF; clear h₁
   refine goes_oper_k rfl rfl (by k_ne) (fun Kx hKx => ?_)
   go_simp
   refine hKx _ _ ⟨?_, ?_⟩
   ·refine ⟨rfl, ?_⟩
    intro ex hex
    have hmx := mem_listed hex
    simp [go_sem, *] at hmx
   clear hKx Kx
   try w_num
   refine Goes.step rfl (fun _ h₁ => ?_); replace hF := h₁ hF; clear h₁
   refine goes_oper_k rfl rfl (by k_ne) (fun Kx hKx => ?_)
   go_simp
   refine hKx _ _ ⟨?_, ?_⟩
   ·refine ⟨rfl, ?_⟩
    intro ex hex
    have hmx := mem_listed hex
    simp [go_sem, *] at hmx
   clear hKx Kx
   try w_num
   refine Goes.stop (fun w4 h₁ => ?_)
   replace hF := h₁ hF
   clear h₁
   refine ⟨rfl, fun hw => ⟨_, stepG_load_atomic (v := 0) rfl rfl (by k_ne) rfl H.f_loadU64 (x_loadU64_n L) (x_loadU64_b L) (x_loadU64_x L) .u64 (x_loadU64_f L) rfl hw.cellSt, 30, ?_⟩⟩
   clear hw
   walk_nrm
   refine Goes.step rfl (fun _ h₁ => ?_); replace hF := h₁ hF; clear h₁
   refine goes_oper_k rfl rfl (by k_ne) (fun Kx hKx => ?_)
   go_simp
   refine hKx _ _ ⟨?_, ?_⟩
   ·refine ⟨rfl, ?_⟩
    intro ex hex
    have hmx := mem_listed hex
    simp [go_sem, *] at hmx
   clear hKx Kx
   try w_num
   refine Goes.step rfl (fun _ h₁ => ?_); replace hF := h₁ hF; clear h₁
   rw [stepG_region_end]
   simp only [goes_go]
   refine ⟨⟨rfl, by intro e he; simp at he⟩, ?_⟩
   refine Goes.step rfl (fun _ h₁ => ?_); replace hF := h₁ hF; clear h₁
   rw [stepG_ret']
   simp only [goes_go]
   refine ⟨⟨rfl, by intro e he; simp at he⟩, ?_⟩
   refine Goes.step rfl (fun _ h₁ => ?_); replace hF := h₁ hF; clear h₁
   refine goes_leave1 rfl rfl H.f_uLoad rfl ⟨⟨rfl, by intro e he; simp at he⟩, ?_⟩
   walk_nrm
   refine Goes.step rfl (fun _ h₁ => ?_); replace hF := h₁ hF; clear h₁
   refine goes_oper_k rfl rfl (by k_ne) (fun Kx hKx => ?_)
   go_simp
   refine hKx _ _ ⟨?_, ?_⟩
   ·refine ⟨rfl, ?_⟩
    intro ex hex
    have hmx := mem_listed hex
    simp [go_sem, *] at hmx
   clear hKx Kx
   try w_num
   refine Goes.step rfl (fun _ h₁ => ?_); replace hF := h₁ hF; clear h₁
   refine goes_oper_k rfl rfl (by k_ne) (fun Kx hKx => ?_)
   go_simp
   refine hKx _ _ ⟨?_, ?_⟩
   ·refine ⟨rfl, ?_⟩
    intro ex hex
    have hmx := mem_listed hex
    simp [go_sem, *] at hmx
   clear hKx Kx
   try w_num
   refine Goes.step rfl (fun _ h₁ => ?_); replace hF := h₁ hF; clear h₁
   rw [stepG_region_end]
   simp only [goes_go]
   refine ⟨⟨rfl, by intro e he; simp at he⟩, ?_⟩
   refine Goes.step rfl (fun _ h₁ => ?_); replace hF := h₁ hF; clear h₁
   rw [stepG_seq]
   simp only [goes_go]
   refine ⟨⟨rfl, by intro e he; simp at he⟩, ?_⟩
   refine Goes.step rfl (fun _ h₁ => ?_); replace hF := h₁ hF; clear h₁
   rw [stepG_cond (t := true) (by first | rfl | (simp [Act.eval]; omega))]
   simp only [goes_go, if_true, if_false, Bool.false_eq_true, ↓reduceIte]
   refine ⟨⟨rfl, by intro e he; simp at he⟩, ?_⟩
   refine Goes.step rfl (fun _ h₁ => ?_); replace hF := h₁ hF; clear h₁
   rw [stepG_seq]
   simp only [goes_go]
   refine ⟨⟨rfl, by intro e he; simp at he⟩, ?_⟩
   refine Goes.step rfl (fun _ h₁ => ?_); replace hF := h₁ hF; clear h₁
   rw [stepG_region]
   simp only [goes_go, List.size_toArray, List.length_cons, List.length_nil, Nat.reduceAdd, Nat.zero_add, List.range, List.range.loop]
   refine ⟨⟨rfl, by intro e he; simp at he⟩, ?_⟩
   refine Goes.stop (fun w5 h₁ => ?_)
   replace hF := h₁ hF
   clear h₁
   refine ⟨rfl, _, stepG_mark0 .enable (by simp) rfl rfl (by k_ne) rfl H.f_enable (x_enable_n L) (x_enable_b L) (x_enable_x L) (x_enable_f L), 12, ?_⟩
   walk_nrm
   refine Goes.step rfl (fun _ h₁ => ?_); replace hF := h₁ hF; clear h₁
   rw [stepG_region_end]
   simp only [goes_go]
   refine ⟨⟨rfl, by intro e he; simp at he⟩, ?_⟩
   refine Goes.step rfl (fun _ h₁ => ?_); replace hF := h₁ hF; clear h₁
   rw [stepG_region]
   simp only [goes_go, List.size_toArray, List.length_cons, List.length_nil, Nat.reduceAdd, Nat.zero_add, List.range, List.range.loop]
   refine ⟨⟨rfl, by intro e he; simp at he⟩, ?_⟩
   refine Goes.step rfl (fun _ h₁ => ?_); replace hF := h₁ hF; clear h₁
   refine goes_oper_k rfl rfl (by k_ne) (fun Kx hKx => ?_)
   go_simp
   refine hKx _ _ ⟨?_, ?_⟩
   ·refine ⟨rfl, ?_⟩
    intro ex hex
    have hmx := mem_listed hex
    simp [go_sem, *] at hmx
   clear hKx Kx
   try w_num
   refine Goes.step rfl (fun _ h₁ => ?_); replace hF := h₁ hF; clear h₁
   refine goes_oper_k rfl rfl (by k_ne) (fun Kx hKx => ?_)
   have hcv := run_convert_to_unsafe (P := X.P) H.underlying_tWgP H.underlying_tUP H.room_tWg (WgLive.cell0 hF).choose_spec
   have hce := fun es => events_convert_to_unsafe (P := X.P) H.underlying_tWgP H.underlying_tUP H.room_tWg (WgLive.cell0 hF).choose_spec es
   go_simp
   refine hKx _ _ ⟨?_, ?_⟩
   ·refine ⟨rfl, ?_⟩
    intro ex hex
    have hmx := mem_listed hex
    simp [go_sem, hce] at hmx
   clear hKx Kx hcv hce
   refine Goes.stop (fun w6 h₁ => ?_)
   replace hF := h₁ hF
   clear h₁
   refine ⟨rfl, _, stepG_markAt .acquire (by simp) rfl rfl (by k_ne) rfl H.f_acquire (x_acquire_n L) (x_acquire_b L) (x_acquire_x L) (x_acquire_f L) (by simp [Act.eval, stA]), ?_⟩
   refine ⟨20, ?_⟩
   walk_nrm
   refine Goes.step rfl (fun _ _ => ?_)
   rw [stepG_region_end]
   simp only [goes_go]
   refine ⟨⟨rfl, rfl⟩, ?_⟩
   refine Goes.step rfl (fun _ _ => ?_)
   rw [stepG_seq]
   simp only [goes_go]
   refine ⟨⟨rfl, rfl⟩, ?_⟩
   refine Goes.step rfl (fun _ _ => ?_)
   rw [stepG_seq]
   simp only [goes_go]
   refine ⟨⟨rfl, rfl⟩, ?_⟩
   refine Goes.step rfl (fun _ _ => ?_)
   rw [stepG_region]
   simp only [goes_go, List.size_toArray, List.length_cons, List.length_nil, Nat.reduceAdd, Nat.zero_add, List.range, List.range.loop]
   refine ⟨⟨rfl, rfl⟩, ?_⟩
   refine Goes.step rfl (fun _ _ => ?_)
   refine goes_oper_k rfl rfl (by k_ne) (fun Kx hKx => ?_)
   go_simp
   refine hKx _ _ ⟨?_, ?_⟩
   ·refine ⟨rfl, Array.eq_empty_iff_forall_not_mem.2 ?_⟩
    intro ex hex
    have hmx := mem_listed hex
    simp [go_sem, *] at hmx
   clear hKx Kx
   try w_num
   refine Goes.step rfl (fun _ _ => ?_)
   rw [stepG_region_end]
   simp only [goes_go]
   refine ⟨⟨rfl, rfl⟩, ?_⟩
   refine Goes.step rfl (fun _ _ => ?_)
   rw [stepG_cond (t := false) (by first | rfl | (simp [Act.eval]; omega))]
   simp only [goes_go, if_true, if_false, Bool.false_eq_true, ↓reduceIte]
   refine ⟨⟨rfl, rfl⟩, ?_⟩
   refine Goes.step rfl (fun _ _ => ?_)
   rw [stepG_skip]
   simp only [goes_go]
   refine ⟨⟨rfl, rfl⟩, ?_⟩
   refine Goes.step rfl (fun _ _ => ?_)
   rw [stepG_ret']
   simp only [goes_go]
   refine ⟨⟨rfl, rfl⟩, ?_⟩
   refine Goes.step rfl (fun _ _ => ?_)
   refine goes_leave0 rfl rfl H.f_wait rfl ⟨⟨rfl, rfl⟩, ?_⟩
   walk_nrm
   exact Goes.stop fun _ _ => rfl
  ·
   refine ⟨_, stepG_cas_miss (v := (v' : Int) * KK) (old := S) (n := S + 1) rfl rfl (by k_ne) rfl H.f_casU64 (x_casU64_n L) (x_casU64_b L) (x_casU64_x L) .u64 (x_casU64_f L) rfl rfl rfl hw.cellSt (hw.thaw 0) (by rw [← hS]; simp only [KK]; omega), 20, ?_⟩
   clear hw
   walk_nrm
   refine Goes.step rfl (fun _ h₁ => ?_); replace hF := h₁ hF; clear h₁
   refine goes_oper_k rfl rfl (by k_ne) (fun Kx hKx => ?_)
   go_simp
   refine hKx _ _ ⟨?_, ?_⟩
   ·refine ⟨rfl, ?_⟩
    intro ex hex
    have hmx := mem_listed hex
    simp [go_sem, *] at hmx
   clear hKx Kx
   try w_num
   refine Goes.step rfl (fun _ h₁ => ?_); replace hF := h₁ hF; clear h₁
   rw [stepG_region_end]
   simp only [goes_go]
   refine ⟨⟨rfl, by intro e he; simp at he⟩, ?_⟩
   refine Goes.step rfl (fun _ h₁ => ?_); replace hF := h₁ hF; clear h₁
   rw [stepG_ret']
   simp only [goes_go]
   refine ⟨⟨rfl, by intro e he; simp at he⟩, ?_⟩
   refine Goes.step rfl (fun _ h₁ => ?_); replace hF := h₁ hF; clear h₁
   refine goes_leave1 rfl rfl H.f_uCas rfl ⟨⟨rfl, by intro e he; simp at he⟩, ?_⟩
   walk_nrm
   refine Goes.step rfl (fun _ h₁ => ?_); replace hF := h₁ hF; clear h₁
   rw [stepG_region_end]
   simp only [goes_go]
   refine ⟨⟨rfl, by intro e he; simp at he⟩, ?_⟩
   refine Goes.step rfl (fun _ h₁ => ?_); replace hF := h₁ hF; clear h₁
   rw [stepG_cond (t := false) (by first | rfl | (simp [Act.eval]; omega))]
   simp only [goes_go, if_true, if_false, Bool.false_eq_true, ↓reduceIte]
   refine ⟨⟨rfl, by intro e he; simp at he⟩, ?_⟩
   refine Goes.step rfl (fun _ h₁ => ?_); replace hF := h₁ hF; clear h₁
   rw [stepG_skip]
   simp only [goes_go]
   refine ⟨⟨rfl, by intro e he; simp at he⟩, ?_⟩
   refine Goes.step rfl (fun _ h₁ => ?_); replace hF := h₁ hF; clear h₁
   rw [stepG_inBlock]
   simp only [goes_go]
   refine ⟨⟨rfl, by intro e he; simp at he⟩, ?_⟩
   refine Goes.step rfl (fun _ h₁ => ?_); replace hF := h₁ hF; clear h₁
   rw [stepG_inLoop]
   simp only [goes_go]
   refine ⟨⟨rfl, by intro e he; simp at he⟩, ?_⟩
   refine Goes.stop (fun w7 h₁ => ?_)
   replace hF := h₁ hF
   clear h₁
   exact ⟨_, rfl, by simp, by simp, hF⟩
end
end Go.Mt
namespace Go.Mt
open Go.Tr Go.Conc Go.ConcN Go.Proofs Go.RowKit Go.Conc.Lib Go.ConcR.Gen Go.ConcN.Gen
open Go.ConcR (KK wgBlock WgAt stA smA rd wr Payload DC0)
theorem spawn_tmp {main : Bool} {b : Frame} {a : Act} {k : List Item} {cs : List Frame} {w : World} {ops : Array Oper} {i p : Nat} {rest : List Nat} {o : Oper} {f : Fn} {caps : Array Value} (ho : ops[i]? = some o) (hg : o.guard = none) (hk : b.kind ≠ .early) (hd : o.dst = none)
  (hop : o.op = .go { callee := .value (.tmp p), args := #[], argTypes := #[] }) (hx : a.tmps[p]? = some (.func f #[] caps)) :
  stepG Try.prog main (G (b.at a (.inRegion ops (i :: rest) :: k)) cs) w = .spawn (G (b.at a (.inRegion ops rest :: k)) cs) (born Try.prog { target := .fn f caps, args := #[] }) w #[] := by
 rw [stepG_spawn (d := { target := .fn f caps, args := #[] }) (w' := w) (f := f) (c := caps) ho (wanted_of hg _ _) hk (by unfold execOp; simp [hop, go_sem, hx, Deferred.ofValue]) rfl, hd]
 have e : listed Try.prog b.fn a o w = #[] := by
  have he : (execOp a.eval o).events Try.prog w #[] = #[] := by
   unfold execOp
   simp [hop, go_sem, hx, Deferred.ofValue]
  unfold listed
  rw [he, seen_none]
 rw [e]
 rfl
def XG (n0 : Nat) (Sh : Loc → Prop) (Ra : Nat → Prop) (S M : Nat) : PG := { n0, Sh0 := Sh, Vis := fun b => b = S ∨ b = S + 1 ∨ b = M + 1 ∨ Ra b, c := M, hi := M + 2, Wg := M + 3, N0 := M + 4 }
def XK (Ra : Nat → Prop) (M : Nat) : Cfg := ⟨M + 4, Ra, fun _ => False, []⟩
noncomputable def XH (n0 : Nat) (Sh : Loc → Prop) (Ra : Nat → Prop) (S : Nat) (w1 : World) (Post0 Post1 : Value → World → Prop) : PH where
 G := XG n0 Sh Ra S w1.heap.size
 P := Try.prog
 ty := 70
 W0 := wD w1
 Post := fun i => if i = 0 then Got0 (XG n0 Sh Ra S w1.heap.size) (XK Ra w1.heap.size) Post0 else if i = 1 then Got1 (XG n0 Sh Ra S w1.heap.size) (XK Ra w1.heap.size) Post1 else fun _ _ => True
structure AtC (n0 : Nat) (Sh : Loc → Prop) (Ra : Nat → Prop) (S : Nat) (va vb : Value) (w1 : World) : Prop where
 n1 : 1 ≤ n0
 mem : ∀ l : Loc, l.isMemory = false → Sh l
 shB : ∀ l b, Sh l → inB b l → b < S
 blk : ∀ b, Ra b → b < S ∧ (∀ l, inB b l → ¬ Sh l) ∧ ∃ cs e fr, w1.heap[b]? = some (.cells cs e fr) ∧ ∀ c ∈ cs, flatB c = true
 S3 : S + 3 ≤ w1.heap.size
 ca : w1.heap[S]? = some (.cells #[va] 29 (0, 0))
 cb : w1.heap[S + 1]? = some (.cells #[vb] 29 (0, 0))
section
variable {n0 S : Nat} {Sh : Loc → Prop} {Ra : Nat → Prop} {va vb : Value} {w1 : World} {Post0 Post1 : Value → World → Prop}
theorem AtC.ok (h : AtC n0 Sh Ra S va vb w1) : (XG n0 Sh Ra S w1.heap.size).Ok := by
 have hnew : ∀ b l, S ≤ b → inB b l → ¬ Sh l := fun b l hb hl hs => by have := h.shB l b hs hl; omega
 have h3 := h.S3
 refine ⟨h.n1, fun b hb => ?_, by simp only [XG]; omega, by simp only [XG]; omega, by simp only [XG]; omega, by simp only [XG]; omega, by simp only [XG]; omega, by simp only [XG]; omega, fun l b hs hl => ?_, h.mem⟩
 ·simp only [XG] at hb ⊢
  rcases hb with rfl | rfl | rfl | hb
  ·exact ⟨by omega, by omega, by omega, by omega, fun l hl => hnew _ l (by omega) hl⟩
  ·exact ⟨by omega, by omega, by omega, by omega, fun l hl => hnew _ l (by omega) hl⟩
  ·exact ⟨by omega, by omega, by omega, by omega, fun l hl => hnew _ l (by omega) hl⟩
  ·obtain ⟨h1, h2, _⟩ := h.blk b hb
   exact ⟨by omega, by omega, by omega, by omega, h2⟩
 ·have := h.shB l b hs hl
  simp only [XG]
  omega
theorem AtC.okH (h : AtC n0 Sh Ra S va vb w1) : (XH n0 Sh Ra S w1 Post0 Post1).Ok := by
 have hR : ∀ b, (XK Ra w1.heap.size).Rd b → (XH n0 Sh Ra S w1 Post0 Post1).G.Vis b := fun b hb => .inr (.inr (.inr hb))
 refine ⟨h.ok, fun i L w w₁ hp r => ?_⟩
 match i, hp, r with
 |0, hp, r => exact Got0.rely rfl hR hp r
 |1, hp, r => exact Got1.rely rfl hR hp r
 |k + 2, hp, r => trivial
theorem AtC.told {P : Program} {S' T : FuncId → Bool} {kdOf : FuncId → Kinds} (h : AtC n0 Sh Ra S va vb w1) (hPF : wf P Try.prog.funcs = Try.prog) (hC : CalmS P Try.prog.funcs S' T kdOf) (hST : ∀ f, T f = true → S' f = true)
  (harg : RelPs (XK Ra w1.heap.size) [] #[va, vb] #[va, vb]) : Told (XH n0 Sh Ra S w1 Post0 Post1) (XK Ra w1.heap.size) P S' T kdOf S (S + 1) va vb (fz Ra (wD w1)) (wD w1) := by
 have h3 := h.S3
 refine ⟨rfl, rfl, hPF, h.ok, hC, hST, rfl, rfl, fun b hb => .inr (.inr (.inr hb)), fun b hb => hb, by rw [wD_size]; exact Nat.le_refl _, .inl rfl, .inr (.inl rfl), ?_, ?_, harg, fun i w hB => ?_⟩
 ·exact cell_one (by rw [wD_low w1 S (by omega)]; exact h.ca)
 ·exact cell_one (by rw [wD_low w1 (S + 1) (by omega)]; exact h.cb)
 ·have e : (⟨(wD w1).heap.size, Ra, fun _ => False, []⟩ : Cfg) = XK Ra w1.heap.size := by rw [wD_size]; rfl
  have := wrel_fz (Rd := Ra) (w0 := wD w1) (w := w) hB.os hB.output hB.size fun b hb => ?_
  ·rw [e] at this
   exact this
  ·obtain ⟨h1, _, cs, e, fr, h4, h5⟩ := h.blk b hb
   have h6 : (wD w1).heap[b]? = some (.cells cs e fr) := (wD_low w1 b (by omega)).trans h4
   exact ⟨cs, e, fr, h6, (hB.kept b (.inl (.inr (.inr (.inr hb))))).trans h6, relCs_flat h5⟩
end
theorem gr_ctl {X : PH} {Stop : Goroutine → World → Prop} {m : Nat} {g g' : Goroutine} {w : World} (hr : g.status = .running) (h : ∀ w, stepG X.P true g w = .go g' w #[]) (hF : WgLive X.ty X.G.Wg w) (hn : ∀ w, WgLive X.ty X.G.Wg w → Goes X.P true X.R0 X.D0 Stop m g' w) : Goes X.P true X.R0 X.D0 Stop (m + 1) g w :=
 Goes.step hr fun w₁ h₁ => by
  rw [h w₁]
  exact ⟨⟨rfl, by simp⟩, hn w₁ (h₁ hF)⟩
theorem gr_mk {X : PH} (hX : X.P = Try.prog) {Stop : Goroutine → World → Prop} {m : Nat} {w : World} {b : Frame} {a : Act} {k : List Item} {cs : List Frame} {ops : Array Oper} {i p q r s : Nat} {rest : List Nat} {o : Oper} {f : FuncId} (ho : ops[i]? = some o) (hg : o.guard = none) (hk : b.kind ≠ .early)
  (hop : o.op = .makeFunc (.func f) #[] #[.tmp p, .tmp q, .tmp r, .tmp s]) {x y z u : Value} (h1 : a.tmps[p]? = some x) (h2 : a.tmps[q]? = some y) (h3 : a.tmps[r]? = some z) (h4 : a.tmps[s]? = some u) (hF : WgLive X.ty X.G.Wg w)
  (hn : ∀ w, WgLive X.ty X.G.Wg w → Goes X.P true X.R0 X.D0 Stop m (G (b.at (a.put o.dst (.func (.func f) #[] #[x, y, z, u])) (.inRegion ops rest :: k)) cs) w) : Goes X.P true X.R0 X.D0 Stop (m + 1) (G (b.at a (.inRegion ops (i :: rest) :: k)) cs) w := by
 refine gr_ctl rfl (fun w => ?_) hF hn
 have hr : (execOp a.eval o).run X.P w = .ok (.value (.func (.func f) #[] #[x, y, z, u])) w := by
  unfold execOp
  simp [hop, Act.eval, h1, h2, h3, h4]
  rfl
 have he : (execOp a.eval o).events X.P w #[] = #[] := by
  unfold execOp
  simp [hop, Act.eval, h1, h2, h3, h4]
  rfl
 rw [stepG_value ho (wanted_of hg _ _) hk hr]
 unfold listed
 rw [he, seen_none]
theorem gr_call {X : PH} (hX : X.P = Try.prog) {Stop : Goroutine → World → Prop} {m : Nat} {w : World} {b : Frame} {a : Act} {k : List Item} {cs : List Frame} {ops : Array Oper} {i : Nat} {rest : List Nat} {o : Oper} {f : FuncId} {fn : Func} {cd : Code} {args : Array Operand} {ats : Array TypeId} (ho : ops[i]? = some o) (hg : o.guard = none) (hk : b.kind ≠ .early)
  (hop : o.op = .call { callee := .value (.func f), args, argTypes := ats }) (hf : Try.prog.funcs[f]? = some fn) (hnm : (fn.name == "runtime.NumGoroutine") = false) (hb : fn.body = some cd) (hF : WgLive X.ty X.G.Wg w) {vs : Array Value} {fr : Frame} (hvs : args.map a.eval = vs) (hfr : Frame.enter Try.prog f vs .normal = fr)
  (hn : ∀ w, WgLive X.ty X.G.Wg w → Goes X.P true X.R0 X.D0 Stop m (G fr (b.at a (.inRegion ops (i :: rest) :: k) :: cs)) w) : Goes X.P true X.R0 X.D0 Stop (m + 1) (G (b.at a (.inRegion ops (i :: rest) :: k)) cs) w := by
 refine gr_ctl rfl (fun w => ?_) hF hn
 have hb' : fn.body.isNone = false := by rw [hb]; rfl
 rw [hX, stepG_enter ho (wanted_of hg _ _) hk (run_call_body hop hf hnm hb'), hvs, hfr]
 unfold listed
 rw [events_call_body hop hf hnm hb', seen_none]
def TE (va vb : Value) (S M : Nat) : Array Value := #[va, vb, ptr S, ptr (S + 1), .slice none 0 0, .slice none 0 0, .int .i64 0, .int .i64 0, ptr (M + 1), ptr (M + 2), ptr (M + 3), va, vb, .slice (some ⟨S + 2, 0, none⟩) 2 2, .int .i64 0, .int .i64 0, .bool false, undef, .chan (some M), .tuple #[], .func (.func 61) #[] #[ptr (M + 3), ptr (M + 1), ptr S, ptr (S + 1)], .func (.func 64) #[] #[ptr (M + 3), ptr S, ptr (S + 1), ptr (M + 2)], undef, undef, undef, undef]
section
variable {n0 S : Nat} {Sh : Loc → Prop} {Ra : Nat → Prop} {va vb : Value} {w1 : World} {Post0 Post1 : Value → World → Prop} {P : Program} {S' T : FuncId → Bool} {kdOf : FuncId → Kinds} {c : Frame} {cs : List Frame}
noncomputable abbrev frW (va vb : Value) (S M : Nat) : Frame := b34.at ⟨TE va vb S M, []⟩ [.inRegion (r34 10) [0], .code c11]
set_option maxRecDepth 100000 in
theorem meetGo (h : AtC n0 Sh Ra S va vb w1) (hPF : wf P Try.prog.funcs = Try.prog) (hC : CalmS P Try.prog.funcs S' T kdOf) (hST : ∀ f, T f = true → S' f = true)
  (harg : RelPs (XK Ra w1.heap.size) [] #[va, vb] #[va, vb]) (hS63 : S' 63 = true) (hS65 : S' 65 = true) (hP0 : ∀ v u τ, Post0 v u → Post0 v (retape u τ)) (hP1 : ∀ v u τ, Post1 v u → Post1 v (retape u τ)) (hsl : ∀ v u, Post1 v u → ∃ s n c, v = .slice s n c)
  (h63 : ∀ τ, Calls P 63 #[va, vb] (retape (fz Ra (wD w1)) τ) fun e u' => ∃ v, e = .returned v ∧ Post0 v u') (h65 : ∀ τ, Calls P 65 #[va, vb] (retape (fz Ra (wD w1)) τ) fun e u' => ∃ v, e = .returned v ∧ Post1 v u') (d0 : Nat) :
  AtGo1 (XH n0 Sh Ra S w1 Post0 Post1) (AnchX Try.link (w1.heap.size + 3) (frW va vb S w1.heap.size) (c :: cs)) (G (b34.at ⟨TD va vb S w1.heap.size, []⟩ [.inRegion (r34 8) [1], .code c9]) (c :: cs)) ((wD w1).at d0) := by
 have hT := AtC.told (Post0 := Post0) (Post1 := Post1) h hPF hC hST harg
 have h3 := h.S3
 have hlive : ∀ d, WgLive 70 (w1.heap.size + 3) ((wD w1).at d) := fun d => ⟨_, _, wD_at w1⟩
 refine ⟨rfl, fun d => ?_⟩
 rw [at_again]
 obtain ⟨o, ho, hd, hop, hg⟩ := o34_8_1
 refine ⟨_, _, spawn_tmp ho hg (by decide) hd hop rfl, ?_, ?_⟩
 ·
  have hB : Base (XH n0 Sh Ra S w1 Post0 Post1) 0 (wD w1) [] ((wD w1).at d) := ⟨rfl, rfl, Nat.le_refl _, hlive d, fun _ _ => rfl, by simp⟩
  exact worker0 hT rfl (s := 0) (r := 0) (by show (wD w1).heap[w1.heap.size]? = _; rw [wD_get w1 _ (by omega), wC_get, if_neg (by omega), if_neg (by omega), if_pos rfl]) (lo := w1.heap.size + 1) (.inr (.inr (.inl rfl)))
   (cell_one (by rw [wD_get w1 _ (by omega), wC_get, if_neg (by omega), if_pos rfl]; rfl)) hS63 hP0 h63 hB
 ·
  refine ⟨5, ?_⟩
  refine gr_ctl rfl (fun _ => stepG_region_end) (hlive d) fun w hF => ?_
  refine gr_ctl rfl (fun _ => stepG_seq) hF fun w hF => ?_
  refine gr_ctl rfl (fun _ => stepG_region) hF fun w hF => ?_
  rw [s34_9]
  simp only [List.range, List.range.loop]
  obtain ⟨o, ho, hd, hop, hg⟩ := o34_9_0
  refine gr_mk rfl ho hg (by decide) hop rfl rfl rfl rfl hF fun w hF => ?_
  rw [hd]
  clear ho hd hop hg o
  unfold TD
  walk_nrm
  refine Goes.stop fun w h₁ => ?_
  replace hF := h₁ hF
  clear h₁
  obtain ⟨o, ho, hd, hop, hg⟩ := o34_9_1
  refine ⟨rfl, _, _, spawn_tmp ho hg (by decide) hd hop rfl, fun hs hh hl => ?_, ?_⟩
  ·have hB : Base (XH n0 Sh Ra S w1 Post0 Post1) 1 (wD w1) [] w := by
    refine ⟨hs.os, hs.output, ?_, hl, fun b hb => ?_, by simp⟩
    ·have := hs.size
     rw [wD_size]
     exact this
    ·rcases hb with hb | ⟨h0, _⟩ | ⟨_, rfl⟩
     ·obtain ⟨v1, v2, v3, v4, _⟩ := h.ok.vis b hb
      exact hs.block b v1 v2 v3 v4
     ·omega
     ·exact hh
   exact worker1 hT rfl (x0 := .slice none 0 0) (by show (wD w1).heap[w1.heap.size + 2]? = _; rw [wD_get w1 _ (by omega), wC_get, if_pos rfl]) hS65 hP1 hsl h65 hB
  ·refine ⟨7, ?_⟩
   refine gr_ctl rfl (fun _ => stepG_region_end) hF fun w hF => ?_
   refine gr_ctl rfl (fun _ => stepG_seq) hF fun w hF => ?_
   refine gr_ctl rfl (fun _ => stepG_region) hF fun w hF => ?_
   rw [s34_10]
   simp only [List.range, List.range.loop]
   obtain ⟨o, ho, hd, hop, hg⟩ := o34_10_0
   have hb : Try.f66.body = some (body_wait Try.link) := by kernel_rfl
   have hnt : Try.f66.ntmps = 84 := by kernel_rfl
   have hw := fun w hF => waitStartX (X := XH n0 Sh Ra S w1 Post0 Post1) (L := Try.link) (b₀ := b34) (a₀ := ⟨TE va vb S w1.heap.size, []⟩) (ops₀ := r34 10) (i₀ := 0) (rest₀ := []) (k₀ := [.code c11]) (cs := c :: cs) Try.wgLib rfl w hF
   refine gr_call (a := ⟨TE va vb S w1.heap.size, []⟩) (vs := #[ptr (w1.heap.size + 3)]) rfl ho hg (by decide) hop Try.func66 (by kernel_rfl) hb hF (by simp [Act.eval, TE]) (by
    rw [enter_at _ Try.func66 hb, hnt]
    simp only [List.size_toArray, List.length_cons, List.length_nil, Nat.reduceAdd, Nat.reduceSub, Array.replicate_succ, Array.replicate_zero, List.push_toArray, List.append_toArray, List.nil_append, List.cons_append]
    rfl) fun w hF => hw w hF
end
end Go.Mt
namespace Go.Mt
open Go.Tr Go.Conc Go.ConcN Go.Proofs Go.RowKit Go.Conc.Lib Go.ConcR.Gen Go.ConcN.Gen
open Go.ConcR (KK wgBlock WgAt stA smA rd wr Payload DC0 loc_of_ofEvent)
theorem runT_crowd_recv {P : Program} {gs : Array Goroutine} {w w₁ : World} {sl : Option (Nat × Nat)} {i c cap s r : Nat} {g b2 : Goroutine} {z v : Value} {cl tm : Bool} {es : Array Event} (hi : gs[i]? = some g)
  (h : stepG P (i == 0) g w = .comm b2 #[rcase c z] true (.recv false) w₁ es) (hc : w₁.heap[c]? = some (.chan cap #[v] cl s r tm)) (hp : ∀ x ∈ gs, x.status ≠ .blocked ∨ x.offers = none) :
  runT P (crowd gs w sl) i = (.next (crowd (gs.setIfInBounds i (Go.Conc.served b2 v)) (w₁.setChan c cap #[] cl s (r + 1) tm) sl),
   MemOp.ofEvents i g.frame.fn g.frame.place es ++ #[{ g := i, fn := b2.frame.fn, pos := b2.frame.place, act := .recv c r cap }, { g := i, fn := b2.frame.fn, pos := b2.frame.place, act := .recvDone c r }]) := by
 obtain ⟨hlt, rfl⟩ := Array.getElem?_eq_some_iff.1 hi
 have hsw := swapAt_of_lt hlt { (default : Goroutine) with status := .finished }
 have hpn : partners (gs.set i { (default : Goroutine) with status := .finished } hlt) c true = [] := by
  have key : ∀ (gs : Array Goroutine), (∀ g ∈ gs, g.status ≠ .blocked ∨ g.offers = none) → partners gs c true = [] := fun gs h => partners_nil h
  exact key _ fun x hx => by
   rcases Array.mem_or_eq_of_mem_set hx with hx | rfl
   ·exact hp x hx
   ·exact .inl (by simp)
 show runT P { world := w, gs := gs, rest := { timers := #[], alone := none, slice := sl } } i = _
 unfold runT
 simp only [hsw, h, GStep.es]
 simp [communicate, ways, rcase, hc, hpn, choose, Sem.run, Question.forced, bind, Sem.bind, pure, Goroutine.finishComm, commResult, Go.Conc.served, World.setChan, crowd, set_setIfInBounds]
section
variable {P : Program} {Sh : Loc → Prop} {gs : Array Goroutine} {a a2 : Goroutine} {w : World} {t : Trace} {q : Nat → Nat} {sl : Option (Nat × Nat)} {c s r : Nat} {v z : Value}
theorem pair_mem' {x y op : MemOp} (h : op ∈ (#[x, y] : Trace)) : op = x ∨ op = y := by simpa using h
theorem Fr.recv (h : Fr P Sh 0 gs a w t q) (hr : a.status = .running) (hst : stepG P true a w = .comm a2 #[rcase c z] true (.recv false) w #[]) (hc : w.heap[c]? = some (.chan 1 #[v] false s r false)) :
  ∃ gs' ops, runT P (crowd gs w sl) 0 = (.next (crowd gs' (w.setChan c 1 #[] false s (r + 1) false) sl), ops) ∧ gs'.size = gs.size ∧ Fr P Sh 0 gs' (Go.Conc.served a2 v) (w.setChan c 1 #[] false s (r + 1) false) (t ++ ops) q := by
 have hlt : 0 < gs.size := (Array.getElem?_eq_some_iff.1 h.g0).1
 have hcl : c < w.heap.size := (Array.getElem?_eq_some_iff.1 hc).1
 have hp : ∀ x ∈ gs, x.status ≠ .blocked ∨ x.offers = none := by
  intro x hx
  obtain ⟨i, hi, rfl⟩ := Array.mem_iff_getElem.1 hx
  rcases Nat.eq_zero_or_pos i with rfl | hpos
  ·have : gs[0] = a := by simpa [Array.getElem?_eq_getElem hi] using h.g0
   rw [this, hr]
   exact .inl (by simp)
  ·rcases (h.lv.old i _ hpos (Array.getElem?_eq_getElem hi)).status with e | e <;> exact .inl (by rw [e]; simp)
 have hrun := runT_crowd_recv (sl := sl) h.g0 (by simpa using hst) hc hp
 have e0 : MemOp.ofEvents 0 a.frame.fn a.frame.place #[] = #[] := by rw [ofEvents_eq]; simp
 rw [e0, Array.empty_append] at hrun
 have hops : ∀ op ∈ (#[{ g := 0, fn := a2.frame.fn, pos := a2.frame.place, act := .recv c r 1 }, { g := 0, fn := a2.frame.fn, pos := a2.frame.place, act := .recvDone c r }] : Trace), op.g = 0 ∧ op.act.touch? = none ∧ op.act.low w.heap.size ∧ (∀ a, op.act ≠ .mark (.release a)) ∧ op.act ≠ .mark .disable ∧ op.act ≠ .mark .enable := by
  intro op hop
  rcases pair_mem' hop with rfl | rfl
  ·exact ⟨rfl, rfl, hcl, fun a => by simp, by simp, by simp⟩
  ·exact ⟨rfl, rfl, hcl, fun a => by simp, by simp, by simp⟩
 have hds : ∀ k, Deaf (t ++ #[({ g := 0, fn := a2.frame.fn, pos := a2.frame.place, act := .recv c r 1 } : MemOp), { g := 0, fn := a2.frame.fn, pos := a2.frame.place, act := .recvDone c r }]) k = Deaf t k := fun k => Deaf_still t k _ fun op hop => (hops op hop).2.2.2.2
 have hsz : (w.setChan c 1 #[] false s (r + 1) false).heap.size = w.heap.size := by simp [World.setChan]
 refine ⟨_, _, hrun, by simp, Array.getElem?_setIfInBounds_self_of_lt hlt, ⟨fun x y hx hy => ?_, fun x hx => ?_⟩, ?_⟩
 ·rw [Array.getElem?_setIfInBounds_ne (by omega)] at hy
  rw [hds]
  exact h.lv.old x y hx hy
 ·rw [hds]
  exact h.lv.above x (by simpa using hx)
 ·rw [hsz]
  have := h.pst.app0 (d' := 0) hlt (fun op hop => (hops op hop).1) (fun op hop b hb => by rw [(hops op hop).2.1] at hb; cases hb) (by rw [hds]; exact h.pst.deaf) (fun op hop => (hops op hop).2.2.1) (fun op hop => (hops op hop).2.2.2.1)
  simpa using this
end
section
variable {main : Bool} {b : Frame} {a : Act} {kk : List Item} {cs : List Frame} {w : World} {ops : Array Oper} {i : Nat} {rest : List Nat} {o : Oper} {x : Operand}
theorem stepG_recv (ho : ops[i]? = some o) (hg : o.guard = none) (hop : o.op = .recv 61 x false) {c : Nat} (hx : a.eval x = .chan (some c)) :
  stepG Try.prog main (G (b.at a (.inRegion ops (i :: rest) :: kk)) cs) w = .comm (G (b.at a (.inRegion ops (i :: rest) :: kk)) cs) #[rcase c (.slice none 0 0)] true (.recv false) w #[] := by
 have hr : (execOp a.eval o).run Try.prog w = .ok (.comm #[rcase c (.slice none 0 0)] true (.recv false)) w := by
  unfold execOp
  simp only [hop, hx]
  simp [rcase, Try.runUnderlying61, Try.zeroValue29]
 have he : (execOp a.eval o).events Try.prog w #[] = #[] := by
  unfold execOp
  simp only [hop, hx]
  simp [rcase, go_sem, Try.runUnderlying61, Try.zeroValue29]
 rw [stepG_oper ho (wanted_of hg _ _)]
 simp [stepG.apply, hr, he, G, Frame.at, GStep.after, seen]
end
end Go.Mt
namespace Go.Mt
open Go.Tr Go.Conc Go.ConcN Go.Proofs Go.RowKit Go.Conc.Lib Go.ConcR.Gen Go.ConcN.Gen
open Go.ConcR (KK wgBlock WgAt stA smA rd wr Payload DC0 loc_of_ofEvent)
theorem ord11 (m : Bool) (t : Nat) : Region.schedule m (r34 11) t ∈ [[0, 1, 2, 3, 4, 5], [0, 1, 3, 2, 4, 5], [0, 2, 1, 3, 4, 5], [2, 0, 1, 3, 4, 5]] := by
 have e1 : ∀ l ∈ allOrd .any (r34 11), l ∈ [[0, 1, 2, 3, 4, 5], [0, 1, 3, 2, 4, 5], [0, 2, 1, 3, 4, 5], [2, 0, 1, 3, 4, 5]] := by
  have : allOrd .any (r34 11) = [[0, 1, 2, 3, 4, 5], [0, 1, 3, 2, 4, 5], [0, 2, 1, 3, 4, 5], [2, 0, 1, 3, 4, 5]] := by kernel_rfl
  rw [this]; exact fun _ h => h
 have e2 : ∀ l ∈ allOrd .text (r34 11), l ∈ [[0, 1, 2, 3, 4, 5], [0, 1, 3, 2, 4, 5], [0, 2, 1, 3, 4, 5], [2, 0, 1, 3, 4, 5]] := by
  have : allOrd .text (r34 11) = [[0, 1, 2, 3, 4, 5], [0, 2, 1, 3, 4, 5], [2, 0, 1, 3, 4, 5]] := by kernel_rfl
  rw [this]; decide
 have e3 : ∀ l ∈ allOrd .gc (r34 11), l ∈ [[0, 1, 2, 3, 4, 5], [0, 1, 3, 2, 4, 5], [0, 2, 1, 3, 4, 5], [2, 0, 1, 3, 4, 5]] := by
  have : allOrd .gc (r34 11) = [[0, 1, 3, 2, 4, 5]] := by kernel_rfl
  rw [this]; decide
 rcases sched_mem m (r34 11) t with h | ⟨_, h | h⟩
 ·exact e1 _ h
 ·exact e2 _ h
 ·exact e3 _ h
theorem fin_mw {Sh : Loc → Prop} {Stop : List Nat → Goroutine → World → Prop} {gA : Goroutine} : ∀ (m : Nat) (g : Goroutine) (w : World), Goes Try.prog true (fun _ _ => True) DC0 (fun g _ => g = gA) m g w → MW Sh Stop gA w → MW Sh Stop g w := by
 intro m
 induction m with
 |zero =>
  intro g w h hn
  obtain rfl : g = gA := h w trivial
  exact hn
 |succ m ih =>
  intro g w h hn
  rcases h with h | ⟨hr, h⟩
  ·obtain rfl : g = gA := h w trivial
   exact hn
  ·intro d
   refine .of_step hr fun w₁ ⟨d1, e⟩ => ?_
   subst e
   obtain ⟨g', w', es, hgo, ⟨rfl, rfl⟩, hk⟩ := goes_elim (h ((w.at d).at d1) trivial)
   exact ⟨[], g', _, #[], hgo, ⟨Nat.le_refl _, rfl, by simp⟩, ih g' _ hk (fun d => hn d) ((w.at d).at d1).drawn⟩
def TG (va vb : Value) (S M : Nat) (x23 x24 x25 : Value) : Array Value := #[va, vb, ptr S, ptr (S + 1), .slice none 0 0, .slice none 0 0, .int .i64 0, .int .i64 0, ptr (M + 1), ptr (M + 2), ptr (M + 3), va, vb, .slice (some ⟨S + 2, 0, none⟩) 2 2, .int .i64 0, .int .i64 0, .bool false, undef, .chan (some M), .tuple #[], .func (.func 61) #[] #[ptr (M + 3), ptr (M + 1), ptr S, ptr (S + 1)], .func (.func 64) #[] #[ptr (M + 3), ptr S, ptr (S + 1), ptr (M + 2)], .tuple #[], x23, x24, x25]
section
variable {Sh : Loc → Prop} {Stop : List Nat → Goroutine → World → Prop} {w : World} {c : Frame} {cs : List Frame} {va vb v0 v1 x24 : Value} {S M : Nat}
theorem mw_draw {b : Frame} {a : Act} {kk : List Item} {cs : List Frame} {ops : Array Oper} {id : Nat} (h : ∀ t, MW Sh Stop (G (b.at a (.inRegion ops (Region.schedule (Try.prog.follows .mixedOrders) ops t) :: kk)) cs) w) : MW Sh Stop (G (b.at a (.code (.region id ops true) :: kk)) cs) w := by
 intro d
 refine .of_step rfl fun w₁ ⟨d1, e⟩ => ?_
 subst e
 exact ⟨[], _, _, #[], region_draw, ⟨Nat.le_refl _, rfl, by simp⟩, h _ (d1 + 1)⟩
def AtRecv (va vb v1 : Value) (S M : Nat) (c : Frame) (cs : List Frame) (g : Goroutine) : Prop :=
 ∃ x25 rest, g = G (b34.at ⟨TG va vb S M (.chan (some M)) undef x25, []⟩ [.inRegion (r34 11) (1 :: rest), .code .ret]) (c :: cs) ∧ ((x25 = v1 ∧ rest = [3, 4, 5]) ∨ rest = [2, 3, 4, 5] ∨ rest = [3, 2, 4, 5])
set_option maxHeartbeats 2000000 in
theorem meetE (hs1 : ∀ l, inB (M + 1) l → ¬ Sh l) (hs2 : ∀ l, inB (M + 2) l → ¬ Sh l) (hB1 : M + 1 < w.heap.size) (hB2 : M + 2 < w.heap.size) (hc1 : w.cell? ⟨M + 1, 0, none⟩ = some (.chan (some M))) (hc2 : w.cell? ⟨M + 2, 0, none⟩ = some v1)
  (hstop : ∀ g, AtRecv va vb v1 S M c cs g → MW Sh Stop g w) :
  MW Sh Stop (G (b34.at ((⟨TE va vb S M, []⟩ : Act).put (((r34 10)[0]?).bind (·.dst)) (.tuple #[])) [.inRegion (r34 10) [], .code c11]) (c :: cs)) w := by
 have hT : ((⟨TE va vb S M, []⟩ : Act).put (((r34 10)[0]?).bind (·.dst)) (.tuple #[])) = ⟨TG va vb S M undef undef undef, []⟩ := by
  obtain ⟨o, ho, hd, hop, hg⟩ := o34_10_0
  rw [ho, Option.bind_some, hd]
  rfl
 rw [hT]
 refine mw_ctl rfl (fun _ => stepG_region_end) ?_
 unfold c11
 refine mw_ctl rfl (fun _ => stepG_seq) ?_
 refine mw_draw fun t => ?_
 have hord := ord11 (Try.prog.follows .mixedOrders) t
 generalize Region.schedule (Try.prog.follows .mixedOrders) (r34 11) t = ord at hord
 simp only [List.mem_cons, List.not_mem_nil, or_false] at hord
 unfold TG
 rcases hord with rfl | rfl | rfl | rfl
 ·skip
  obtain ⟨o, ho, hd, hop, hg⟩ := o34_11_0
  refine mw_ld ho hg (by decide) (.inr hop) rfl hs1 hB1 hc1 ?_
  rw [hd]
  walk_nrm
  clear ho hd hop hg o
  exact hstop _ ⟨undef, _, rfl, .inr (.inl rfl)⟩
 ·skip
  obtain ⟨o, ho, hd, hop, hg⟩ := o34_11_0
  refine mw_ld ho hg (by decide) (.inr hop) rfl hs1 hB1 hc1 ?_
  rw [hd]
  walk_nrm
  clear ho hd hop hg o
  exact hstop _ ⟨undef, _, rfl, .inr (.inr rfl)⟩
 ·skip
  obtain ⟨o, ho, hd, hop, hg⟩ := o34_11_0
  refine mw_ld ho hg (by decide) (.inr hop) rfl hs1 hB1 hc1 ?_
  rw [hd]
  walk_nrm
  clear ho hd hop hg o
  obtain ⟨o, ho, hd, hop, hg⟩ := o34_11_2
  refine mw_ld ho hg (by decide) (.inl hop) rfl hs2 hB2 hc2 ?_
  rw [hd]
  walk_nrm
  clear ho hd hop hg o
  exact hstop _ ⟨v1, _, rfl, .inl ⟨rfl, rfl⟩⟩
 ·skip
  obtain ⟨o, ho, hd, hop, hg⟩ := o34_11_2
  refine mw_ld ho hg (by decide) (.inl hop) rfl hs2 hB2 hc2 ?_
  rw [hd]
  walk_nrm
  clear ho hd hop hg o
  obtain ⟨o, ho, hd, hop, hg⟩ := o34_11_0
  refine mw_ld ho hg (by decide) (.inr hop) rfl hs1 hB1 hc1 ?_
  rw [hd]
  walk_nrm
  clear ho hd hop hg o
  exact hstop _ ⟨v1, _, rfl, .inl ⟨rfl, rfl⟩⟩
set_option maxHeartbeats 2000000 in
theorem meetF {g : Goroutine} (h : AtRecv va vb v1 S M c cs g) : (∀ w, stepG Try.prog true g w = .comm g #[rcase M (.slice none 0 0)] true (.recv false) w #[]) ∧ g.status = .running ∧
  ∀ (Sh : Loc → Prop) (Stop : List Nat → Goroutine → World → Prop) (w : World) (v0 : Value) (hs2 : ∀ l, inB (M + 2) l → ¬ Sh l) (hB2 : M + 2 < w.heap.size) (hc2 : w.cell? ⟨M + 2, 0, none⟩ = some v1) (hn : MW Sh Stop (G (c.finish (.tuple #[v0, v1, .int .i64 0])) cs) w),
   MW Sh Stop (Go.Conc.served g v0) w := by
 obtain ⟨x25, rest, rfl, hr⟩ := h
 obtain ⟨o1, ho1, hd1, hop1, hg1⟩ := o34_11_1
 refine ⟨fun w => stepG_recv ho1 hg1 hop1 rfl, rfl, fun Sh Stop w v0 hs2 hB2 hc2 hn => ?_⟩
 have e : Go.Conc.served (G (b34.at ⟨TG va vb S M (.chan (some M)) undef x25, []⟩ [.inRegion (r34 11) (1 :: rest), .code .ret]) (c :: cs)) v0 = G (b34.at ⟨TG va vb S M (.chan (some M)) v0 x25, []⟩ [.inRegion (r34 11) rest, .code .ret]) (c :: cs) := by
  have hfin : (b34.at ⟨TG va vb S M (.chan (some M)) undef x25, []⟩ [.inRegion (r34 11) (1 :: rest), .code .ret]).finish v0 = b34.at ⟨TG va vb S M (.chan (some M)) v0 x25, []⟩ [.inRegion (r34 11) rest, .code .ret] := by
   rw [Frame.finish_at, ho1, Option.bind_some, hd1]
   rfl
  simp only [Go.Conc.served, G, hfin]
 rw [e]
 clear e ho1 hd1 hop1 hg1
 unfold TG
 rcases hr with ⟨rfl, rfl⟩ | rfl | rfl
 ·skip
  obtain ⟨o, ho, hd, hop, hg⟩ := o34_11_3
  refine mw_assign ho hg (by decide) (.inl hop) rfl ?_
  rw [hd]
  walk_nrm
  clear ho hd hop hg o
  obtain ⟨o, ho, hd, hop, hg⟩ := o34_11_4
  refine mw_assign ho hg (by decide) (.inl hop) rfl ?_
  rw [hd]
  walk_nrm
  clear ho hd hop hg o
  obtain ⟨o, ho, hd, hop, hg⟩ := o34_11_5
  refine mw_assign ho hg (by decide) (.inl hop) rfl ?_
  rw [hd]
  walk_nrm
  clear ho hd hop hg o
  refine mw_ctl rfl (fun _ => stepG_region_end) ?_
  refine mw_ctl rfl (fun _ => stepG_ret') ?_
  refine mw_ctl rfl (fun _ => stepG_leave3 rfl rfl Try.func34 res34) ?_
  simpa using hn
 ·skip
  obtain ⟨o, ho, hd, hop, hg⟩ := o34_11_2
  refine mw_ld ho hg (by decide) (.inl hop) rfl hs2 hB2 hc2 ?_
  rw [hd]
  walk_nrm
  clear ho hd hop hg o
  obtain ⟨o, ho, hd, hop, hg⟩ := o34_11_3
  refine mw_assign ho hg (by decide) (.inl hop) rfl ?_
  rw [hd]
  walk_nrm
  clear ho hd hop hg o
  obtain ⟨o, ho, hd, hop, hg⟩ := o34_11_4
  refine mw_assign ho hg (by decide) (.inl hop) rfl ?_
  rw [hd]
  walk_nrm
  clear ho hd hop hg o
  obtain ⟨o, ho, hd, hop, hg⟩ := o34_11_5
  refine mw_assign ho hg (by decide) (.inl hop) rfl ?_
  rw [hd]
  walk_nrm
  clear ho hd hop hg o
  refine mw_ctl rfl (fun _ => stepG_region_end) ?_
  refine mw_ctl rfl (fun _ => stepG_ret') ?_
  refine mw_ctl rfl (fun _ => stepG_leave3 rfl rfl Try.func34 res34) ?_
  simpa using hn
 ·skip
  obtain ⟨o, ho, hd, hop, hg⟩ := o34_11_3
  refine mw_assign ho hg (by decide) (.inl hop) rfl ?_
  rw [hd]
  walk_nrm
  clear ho hd hop hg o
  obtain ⟨o, ho, hd, hop, hg⟩ := o34_11_2
  refine mw_ld ho hg (by decide) (.inl hop) rfl hs2 hB2 hc2 ?_
  rw [hd]
  walk_nrm
  clear ho hd hop hg o
  obtain ⟨o, ho, hd, hop, hg⟩ := o34_11_4
  refine mw_assign ho hg (by decide) (.inl hop) rfl ?_
  rw [hd]
  walk_nrm
  clear ho hd hop hg o
  obtain ⟨o, ho, hd, hop, hg⟩ := o34_11_5
  refine mw_assign ho hg (by decide) (.inl hop) rfl ?_
  rw [hd]
  walk_nrm
  clear ho hd hop hg o
  refine mw_ctl rfl (fun _ => stepG_region_end) ?_
  refine mw_ctl rfl (fun _ => stepG_ret') ?_
  refine mw_ctl rfl (fun _ => stepG_leave3 rfl rfl Try.func34 res34) ?_
  simpa using hn
end
end Go.Mt
namespace Go.Mt
open Go.Tr Go.Conc Go.ConcN Go.Proofs Go.RowKit Go.Conc.Lib Go.ConcR.Gen Go.ConcN.Gen
open Go.ConcR (KK wgBlock WgAt stA smA rd wr Payload DC0 loc_of_ofEvent)
def Runs (m : Machine) (t : Trace) (R : Machine → Trace → Prop) : Prop := ∃ N m' t', runNT Try.prog N m t = (.next m', t') ∧ R m' t'
theorem runNT_add (P : Program) : ∀ (N K : Nat) (m m' : Machine) (t t' : Trace), runNT P N m t = (.next m', t') → runNT P (N + K) m t = runNT P K m' t' := by
 intro N
 induction N with
 |zero =>
  intro K m m' t t' h
  simp only [runNT] at h
  injection h with h1 h2
  injection h1 with h1
  subst h1 h2
  rw [Nat.zero_add]
 |succ N ih =>
  intro K m m' t t' h
  rw [show N + 1 + K = (N + K) + 1 by omega]
  simp only [runNT] at h ⊢
  generalize stepT P m = x at h ⊢
  obtain ⟨e, ops⟩ := x
  cases e <;> first | exact ih K _ _ _ _ h | (exfalso; injection h with h1 h2; cases h1)
theorem Runs.bind {m : Machine} {t : Trace} {R R' : Machine → Trace → Prop} (h : Runs m t R) (k : ∀ m t, R m t → Runs m t R') : Runs m t R' := by
 obtain ⟨N, m', t', h1, h2⟩ := h
 obtain ⟨K, m2, t2, h3, h4⟩ := k m' t' h2
 exact ⟨N + K, m2, t2, (runNT_add _ N K m m' t t' h1).trans h3, h4⟩
theorem Runs.mono {m : Machine} {t : Trace} {R R' : Machine → Trace → Prop} (h : Runs m t R) (k : ∀ m t, R m t → R' m t) : Runs m t R' := by
 obtain ⟨N, m', t', h1, h2⟩ := h
 exact ⟨N, m', t', h1, k _ _ h2⟩
theorem runs_beside {Sh : Loc → Prop} {gs : Array Goroutine} {a : Goroutine} {w : World} {t : Trace} {q : Nat → Nat} {sl : Option (Nat × Nat)} {Stop : List Nat → Goroutine → World → Prop} (hF : Fr Try.prog Sh 0 gs a w t q) (hW : MW Sh Stop a w) :
  Runs (crowd gs w sl) t fun m t => ∃ (gs' : Array Goroutine) (a' : Goroutine) (w' : World) (sl' : Option (Nat × Nat)) (q' : Nat → Nat) (L' : List Nat), m = crowd gs' w' sl' ∧ gs'.size = gs.size ∧ Fr Try.prog Sh L'.length gs' a' w' t q' ∧ Stop L' a' w' := by
 obtain ⟨N, m', t', h1, h2⟩ := besideW (hW w.drawn) gs sl t q hF
 exact ⟨N, m', t', h1, h2⟩
structure Left (w : World) (Sh Sh' : Loc → Prop) (Ra : Nat → Prop) (er : Int) (Post0 Post1 : Nat → Value → World → Prop) (r : Value) (w' : World) : Prop where
 kept : Kept w.heap.size w w'
 sh : ∀ l, Sh l → Sh' l
 news : ∀ l b, Sh' l → inB b l → Sh l ∨ w.heap.size ≤ b
 shB : ∀ l b, Sh' l → inB b l → b < w'.heap.size
 val : (er ≠ 0 ∧ r = .tuple #[.slice none 0 0, .slice none 0 0, .int .i64 er]) ∨
  (er = 0 ∧ ∃ M L1 L2 v0 v0' u0 v1 v1' u1, r = .tuple #[v0', v1', .int .i64 0] ∧ w.heap.size + 3 ≤ M ∧ RelP (XK Ra M) L1 v0 v0' ∧ WRel (XK Ra M) L1 u0 w' ∧ Post0 (M + 4) v0 u0 ∧ RelP (XK Ra M) L2 v1 v1' ∧ WRel (XK Ra M) L2 u1 w' ∧ Post1 (M + 4) v1 u1 ∧
   (∀ b ∈ L1, M + 4 ≤ b ∧ b ∉ L2) ∧ (∀ b ∈ L2, M + 4 ≤ b) ∧ ∀ l b, Sh' l → inB b l → b < M + 4)
section
variable {P : Program} {S T : FuncId → Bool} {kdOf : FuncId → Kinds} {Sh : Loc → Prop} {Ra : Nat → Prop} {sa sb : Option Addr} {na ca nb cb : Nat} {w : World} {er : Int} {c : Frame} {cs : List Frame} {gs : Array Goroutine} {t : Trace} {q : Nat → Nat} {sl0 : Option (Nat × Nat)} {Post0 Post1 : Nat → Value → World → Prop}
set_option maxHeartbeats 2000000 in
theorem meetCo (hPF : wf P Try.prog.funcs = Try.prog) (hC : CalmS P Try.prog.funcs S T kdOf) (hST : ∀ f, T f = true → S f = true) (hS49 : S 49 = true) (hS63 : S 63 = true) (hS65 : S 65 = true) (hg : Given w Sh Ra sa sb)
  (hP0 : ∀ n v u τ, Post0 n v u → Post0 n v (retape u τ)) (hP1 : ∀ n v u τ, Post1 n v u → Post1 n v (retape u τ)) (hsl : ∀ n v u, Post1 n v u → ∃ s n c, v = .slice s n c)
  (h49 : ∀ u, ArgAt w Ra u → u.heap[w.heap.size + 2]? = some (.cells #[sl sa na ca, sl sb nb cb] 29 (0, 2)) → Calls P 49 #[.slice (some ⟨w.heap.size + 2, 0, none⟩) 2 2] u fun e _ => e = .returned (.int .i64 er))
  (h63 : er = 0 → ∀ u, ArgAt w Ra u → Calls P 63 #[sl sa na ca, sl sb nb cb] u fun e u' => ∃ v, e = .returned v ∧ Post0 u.heap.size v u')
  (h65 : er = 0 → ∀ u, ArgAt w Ra u → Calls P 65 #[sl sa na ca, sl sb nb cb] u fun e u' => ∃ v, e = .returned v ∧ Post1 u.heap.size v u')
  (hF : Fr Try.prog Sh 0 gs (G (Frame.enter Try.prog 34 #[sl sa na ca, sl sb nb cb] .normal) (c :: cs)) w t q) :
  Runs (crowd gs w sl0) t fun m t => ∃ (gs' : Array Goroutine) (w' : World) (sl' : Option (Nat × Nat)) (q' : Nat → Nat) (Sh' : Loc → Prop) (r : Value), m = crowd gs' w' sl' ∧ Fr Try.prog Sh' 0 gs' (G (c.finish r) cs) w' t q' ∧ Left w Sh Sh' Ra er Post0 Post1 r w' := by
 have hn1 : 1 ≤ gs.size := (Array.getElem?_eq_some_iff.1 hF.g0).1
 refine (runs_beside hF (meetAB hPF hC hST hS49 hg h49)).bind fun m1 t1 ⟨gs1, a1, w1, sl1, q1, L1, hm, hsz1, hF1, hL1, hk1, hcase⟩ => ?_
 subst hm hL1
 have hA := wA_size w (sl sa na ca) (sl sb nb cb)
 have hlow : ∀ b, b < w.heap.size → w1.heap[b]? = w.heap[b]? := fun b hb => by
  rw [hk1.old b (by omega), wA_get, if_neg (by omega), if_neg (by omega), if_neg (by omega)]
 have hkw : Kept w.heap.size w w1 := ⟨hk1.os, hk1.output, hk1.tape, by have := hk1.size; omega, hlow⟩
 rcases hcase with ⟨hne, rfl⟩ | ⟨he0, rfl⟩
 ·exact ⟨0, _, _, rfl, gs1, w1, sl1, q1, Sh, _, rfl, hF1, hkw, fun _ h => h, fun l b h _ => .inl h, fun l b h1 h2 => by have := hg.shB l b h1 h2; have := hkw.size; omega, .inl ⟨hne, rfl⟩⟩
 have hS3 : w.heap.size + 3 ≤ w1.heap.size := by have := hk1.size; omega
 have hAt : AtC gs1.size Sh Ra w.heap.size (sl sa na ca) (sl sb nb cb) w1 := by
  refine ⟨by omega, hg.mem, hg.shB, fun b hb => ?_, hS3, ?_, ?_⟩
  ·obtain ⟨h1, h2, xs, e, fr, h3, h4⟩ := hg.blk b hb
   exact ⟨h1, h2, xs, e, fr, (hlow b h1).trans h3, h4⟩
  ·rw [hk1.old _ (by omega), wA_get, if_neg (by omega), if_neg (by omega), if_pos rfl]
  ·rw [hk1.old _ (by omega), wA_get, if_neg (by omega), if_pos rfl]
 have hX := hAt.ok
 let X : PG := XG gs1.size Sh Ra w.heap.size w1.heap.size
 have hF2 : Fr Try.prog X.Sh 0 gs1 (G (b34.at ⟨TB (sl sa na ca) (sl sb nb cb) w.heap.size, []⟩ [.code c4]) (c :: cs)) w1 t1 q1 := by
  refine ⟨hF1.g0, hF1.lv, hF1.pst.shun (fun l h => .inl h) fun l h => ?_⟩
  rcases h with h | h | h
  ·exact .inl h
  ·exact .inr ⟨_, by show w1.heap.size ≤ w1.heap.size + 3; omega, h⟩
  ·exact .inr ⟨_, Nat.le_refl _, h⟩
 have hXsh : ∀ l b, X.Sh l → inB b l → b < w1.heap.size + 4 := by
  rintro l b (h | h | h) hb
  ·have := hg.shB l b h hb
   omega
  ·have : b = w1.heap.size + 3 := inB_inj hb h
   omega
  ·have : b = w1.heap.size := inB_inj hb h
   omega
 have hXno : ∀ l k, (k = 1 ∨ k = 2) → inB (w1.heap.size + k) l → ¬ X.Sh l := by
  rintro l k hk hb (h | h | h)
  ·have := hg.shB l _ h hb
   omega
  ·have : w1.heap.size + k = w1.heap.size + 3 := inB_inj hb h
   omega
  ·have : w1.heap.size + k = w1.heap.size := inB_inj hb h
   omega
 refine (runs_beside hF2 (meetC (X := XH gs1.size Sh Ra w.heap.size w1 (Post0 (w1.heap.size + 4)) (Post1 (w1.heap.size + 4))) (Stop := fun L g w' => L = [] ∧ g = G (b34.at ⟨TD (sl sa na ca) (sl sb nb cb) w.heap.size w1.heap.size, []⟩ [.inRegion (r34 8) [1], .code c9]) (c :: cs) ∧ ∃ d, w' = (wD w1).at d) rfl rfl (fun l hl => hXno l 1 (.inl rfl) hl) (mw_stop fun d => ⟨rfl, rfl, d, rfl⟩))).bind fun m2 t2 ⟨gs2, a2, w2, sl2, q2, L2, hm, hsz2, hF3, hL2, ha2, d2, hw2⟩ => ?_
 subst hm hL2 ha2 hw2
 have harg : RelPs (XK Ra w1.heap.size) [] #[sl sa na ca, sl sb nb cb] #[sl sa na ca, sl sb nb cb] := by
  refine ⟨rfl, fun i v v' h1 h2 => ?_⟩
  rw [h1] at h2
  obtain rfl := Option.some.inj h2
  match i, h1 with
  |0, h1 =>
   obtain rfl : sl sa na ca = v := by simpa using h1
   exact .cell (relC_sl fun a ha => ⟨hg.a a ha, by have := (hg.blk _ (hg.a a ha)).1; show _ < w1.heap.size + 4; omega⟩)
  |1, h1 =>
   obtain rfl : sl sb nb cb = v := by simpa using h1
   exact .cell (relC_sl fun a ha => ⟨hg.b a ha, by have := (hg.blk _ (hg.b a ha)).1; show _ < w1.heap.size + 4; omega⟩)
  |k + 2, h1 => simp at h1
 have hArg : ∀ τ, ArgAt w Ra (retape (fz Ra (wD w1)) τ) := fun τ b hb => by
  show (fz Ra (wD w1)).heap[b]? = _
  have := (hg.blk b hb).1
  rw [fz_in hb, wD_low w1 b (by omega), hlow b this]
 have hfs : ∀ τ, (retape (fz Ra (wD w1)) τ).heap.size = w1.heap.size + 4 := fun τ => by
  show (fz Ra (wD w1)).heap.size = _
  rw [fz_size, wD_size]
 have hgo := meetGo (Post0 := Post0 (w1.heap.size + 4)) (Post1 := Post1 (w1.heap.size + 4)) (c := c) (cs := cs) hAt hPF hC hST harg hS63 hS65 (hP0 _) (hP1 _) (hsl _) (fun τ => by have := h63 he0 _ (hArg τ); rw [hfs τ] at this; exact this) (fun τ => by have := h65 he0 _ (hArg τ); rw [hfs τ] at this; exact this) d2
 let H : PH := XH gs1.size Sh Ra w.heap.size w1 (Post0 (w1.heap.size + 4)) (Post1 (w1.heap.size + 4))
 have hb1 : (wD w1).heap[w1.heap.size + 1]? = some (.cells #[.chan (some w1.heap.size)] 61 (0, 0)) := by rw [wD_get w1 _ (by omega), wC_get, if_neg (by omega), if_pos rfl]
 have hsn : gs2.size = gs1.size := hsz2
 have hph := phase (H := H) (Fin := FinX Try.prog (G (b34.at ((⟨TE (sl sa na ca) (sl sb nb cb) w.heap.size w1.heap.size, []⟩ : Act).put (((r34 10)[0]?).bind fun (x : Oper) => x.dst) (.tuple #[])) [.inRegion (r34 10) [], .code c11]) (c :: cs)))
  (AnchW := AnchX Try.link (w1.heap.size + 3) (frW (sl sa na ca) (sl sb nb cb) w.heap.size w1.heap.size) (c :: cs)) hAt.okH (fun g w h => anchX_run g w h) (fun g w h => waitRoundX (X := H) (L := Try.link) Try.wgLib rfl g w h) _ gs2 _ _ sl2 t2 q2 (Nat.le_refl _) hsn hF3.g0 hF3.lv
  (by have := hF3.pst.to; rw [hsn] at this; exact this) hgo ⟨rfl, rfl, rfl, by show _ ≤ (wD w1).heap.size; rw [wD_size]; exact Nat.le_refl _, fun _ _ _ _ _ => rfl⟩ rfl (wD_at w1)
 refine (show Runs _ _ _ from hph).bind fun m3 t3 hdone => ?_
 obtain ⟨gs3, w3, sl3, a3, K1, K2, q3, hm, hsz3, hg3, ⟨mf, hfin⟩, hlv3, hpst3, hsince, hfam, hgot0, hgot1⟩ := hdone.out
 subst hm
 have hF4 : Fr Try.prog X.Sh 0 gs3 a3 w3 t3 q3 := ⟨hg3, hlv3, by rw [hsz3]; exact hpst3.toD⟩
 obtain ⟨v0, v0', u0, s, r, hch, hv0, hw0, hp0⟩ : Got0 X (XK Ra w1.heap.size) (Post0 (w1.heap.size + 4)) K1 w3 := hgot0
 obtain ⟨v1, v1', u1, hhi, hv1, hw1, hp1⟩ : Got1 X (XK Ra w1.heap.size) (Post1 (w1.heap.size + 4)) K2 w3 := hgot1
 have hN3 : w1.heap.size + 4 ≤ w3.heap.size := hsince.size
 have hlo3 : w3.cell? ⟨w1.heap.size + 1, 0, none⟩ = some (.chan (some w1.heap.size)) := by
  refine cell_one ((hsince.block (w1.heap.size + 1) ?_ ?_ ?_ ?_).trans hb1)
  ·show _ < w1.heap.size + 4; omega
  ·show _ ≠ w1.heap.size; omega
  ·show _ ≠ w1.heap.size + 2; omega
  ·show _ ≠ w1.heap.size + 3; omega
 refine (runs_beside hF4 (Stop := fun L g w' => L = [] ∧ AtRecv (sl sa na ca) (sl sb nb cb) v1' w.heap.size w1.heap.size c cs g ∧ ∃ d, w' = w3.at d) (fin_mw mf a3 w3 hfin (meetE (v1 := v1') (fun l hl => hXno l 1 (.inl rfl) hl) (fun l hl => hXno l 2 (.inr rfl) hl) (by omega) (by omega) hlo3 hhi fun g hgr => mw_stop fun d => ⟨rfl, hgr, d, rfl⟩))).bind fun m4 t4 ⟨gs4, a4, w4, sl4, q4, L4, hm, hsz4, hF5, hL4, hrec, d4, hw4⟩ => ?_
 subst hm hL4 hw4
 obtain ⟨hst, hrun, hgoon⟩ := meetF hrec
 let w5 : World := w3.setChan w1.heap.size 1 #[] false s (r + 1) false
 have hsz5 : w5.heap.size = w3.heap.size := by simp [w5, World.setChan]
 have hoth5 : ∀ b, b ≠ w1.heap.size → w5.heap[b]? = w3.heap[b]? := fun b hb => by simp [w5, World.setChan, Array.getElem?_setIfInBounds_ne (Ne.symm hb)]
 have hrel : ∀ (K : List Nat) (d : Nat), (∀ b ∈ K, w1.heap.size + 4 ≤ b) → RelyK (XK Ra w1.heap.size) K w3 (w5.at d) := fun K d hK => ⟨rfl, rfl, Nat.le_of_eq hsz5.symm, fun b hb _ => hoth5 b (by have := (hg.blk b hb).1; omega), fun b hb => hoth5 b (by have := hK b hb.1; omega), fun j b s hj => by simp [XK] at hj⟩
 have hK1 : ∀ b ∈ K1, w1.heap.size + 4 ≤ b := fun b hb => (hfam.l1 b hb).1
 have hK2 : ∀ b ∈ K2, w1.heap.size + 4 ≤ b := fun b hb => (hfam.l2 b hb).1
 have hkept : ∀ d, Kept w.heap.size w (w5.at d) := fun d => by
  refine ⟨hsince.os.trans hkw.os, hsince.output.trans hkw.output, hsince.tape.trans hkw.tape, by show _ ≤ w5.heap.size; omega, fun b hb => ?_⟩
  show w5.heap[b]? = _
  rw [hoth5 b (by omega), hsince.block b (by show _ < w1.heap.size + 4; omega) (by show _ ≠ w1.heap.size; omega) (by show _ ≠ w1.heap.size + 2; omega) (by show _ ≠ w1.heap.size + 3; omega)]
  exact (wD_low w1 b (by omega)).trans (hlow b hb)
 have hleft : ∀ d, Left w Sh X.Sh Ra er Post0 Post1 (.tuple #[v0', v1', .int .i64 0]) (w5.at d) := fun d => by
  refine ⟨hkept d, fun l h => .inl h, fun l b h hb => ?_, fun l b h hb => ?_, .inr ⟨he0, w1.heap.size, K1, K2, v0, v0', u0, v1, v1', u1, rfl, hS3, hv0, hw0.rely (hrel K1 d hK1), hp0, hv1, hw1.rely (hrel K2 d hK2), hp1, fun b hb => ⟨hK1 b hb, hfam.ap b hb⟩, hK2, hXsh⟩⟩
  ·rcases h with h | h | h
   ·exact .inl h
   ·have : b = w1.heap.size + 3 := inB_inj hb h
    exact .inr (by omega)
   ·have : b = w1.heap.size := inB_inj hb h
    exact .inr (by omega)
  ·have := hXsh l b h hb
   show b < w5.heap.size
   omega
 have hgoal := Fr.turn (P := Try.prog) (w := w3) (gs := gs4) (a := a4) (Sh := X.Sh) (d := 0) (Goal := fun m t => ∃ (gs' : Array Goroutine) (w' : World) (sl' : Option (Nat × Nat)) (q' : Nat → Nat) (Sh' : Loc → Prop) (r : Value), m = crowd gs' w' sl' ∧ Fr Try.prog Sh' 0 gs' (G (c.finish r) cs) w' t q' ∧ Left w Sh Sh' Ra er Post0 Post1 r w') hrun (fun gs5 d5 sl5 t5 q5 hsz5' hF6 => ?_) _ gs4 d4 sl4 t4 q4 rfl (Nat.le_refl _) hF5
 ·exact hgoal
 ·obtain ⟨gs6, ops, hr1, hr2, hF7⟩ := Fr.recv (sl := sl5) hF6 hrun (hst _) (v := v0') (s := s) (r := r) hch
  refine ⟨_, ops, hr1, ?_⟩
  have hcont := hgoon X.Sh (fun L g w' => L = [] ∧ g = G (c.finish (.tuple #[v0', v1', .int .i64 0])) cs ∧ ∃ d, w' = w5.at d) ((w3.at d5).setChan w1.heap.size 1 #[] false s (r + 1) false) v0' (fun l hl => hXno l 2 (.inr rfl) hl) (by show _ < w5.heap.size; omega)
   (by
    refine Eq.trans (cell_of_block ?_ 0) hhi
    exact hoth5 (w1.heap.size + 2) (by omega)) (mw_stop fun d => ⟨rfl, rfl, d, rfl⟩)
  obtain ⟨N, m', t', h1, gs7, a7, w7, sl7, q7, L7, hm, hsz7, hF8, hL7, ha7, d7, hw7⟩ := runs_beside (sl := sl5) hF7 hcont
  subst hm hL7 ha7 hw7
  exact ⟨N, _, t', h1, gs7, _, sl7, q7, X.Sh, _, rfl, hF8, hleft d7⟩
end
end Go.Mt
namespace Go.Mt
open Go.Tr Go.Conc Go.ConcN Go.Proofs
inductive LPath (P : Program) : Goroutine → World → Goroutine → World → Prop
 |nil {g : Goroutine} {u u2 : World} : retape u u2.tape = u2 → LPath P g u g u2
 |cons {g g1 g2 : Goroutine} {u u1 u2 : World} {es : Array Event} (τ : Nat → Question → Nat) : stepG P true g (retape u τ) = .go g1 (retape u1 τ) es → LPath P g1 u1 g2 u2 → LPath P g u g2 u2
theorem retape_eq {u v : World} {t : Nat → Question → Nat} (h : retape u t = retape v t) (s : Nat → Question → Nat) : retape u s = retape v s := by
 rw [← retape_retape u t s, h, retape_retape]
theorem LPath.congr {P : Program} {g g2 : Goroutine} {u v u2 : World} {t : Nat → Question → Nat} (h : LPath P g u g2 u2) (e : retape v t = retape u t) : LPath P g v g2 u2 := by
 cases h with
 |nil h => exact .nil ((retape_eq e _).trans h)
 |cons τ h1 h2 => exact .cons τ ((congrArg (stepG P true g) (retape_eq e τ)).trans h1) h2
structure ShI (W0 : World) (K : Cfg) (L : List Nat) (Sh : Loc → Prop) (w : World) : Prop where
 kept : Kept K.N W0 w
 mem : ∀ l : Loc, l.isMemory = false → Sh l
 shB : ∀ l b, Sh l → inB b l → b < w.heap.size
 rd : ∀ b, K.Rd b → ∀ l, inB b l → ¬ Sh l
 al : ∀ b, In K L b → ∀ l, inB b l → ¬ Sh l
 ra : ∀ (j b s : Nat), K.al[j]? = some (b, s) → ∀ l, inB b l → ¬ Sh l
section
variable {W0 : World} {P : Program} {F : Array Func} {S T : FuncId → Bool} {kdOf : FuncId → Kinds} {K : Cfg} {k : List Item} {base : List Frame} {Post : FuncId → Array Value → World → Prop}
theorem fin_path {fr : Frame} {u u2 : World} {g2 : Goroutine} (hf : FinF fr) (hp : ∃ f tm td m fn, fr = frm f tm td m ∧ P.funcs[f]? = some fn) (h : LPath P (G fr [c0]) u g2 u2) : Fin [c0] g2 ∨ g2.callers = [] := by
 have dead : ∀ (g : Goroutine) (u : World), LPath P g u g2 u2 → (∃ ch, g = G { c0 with mode := .panicking ch } []) → g2.callers = [] := by
  rintro g u h ⟨ch, rfl⟩
  cases h with
  |nil _ => rfl
  |cons τ h1 _ =>
   obtain ⟨o, u1, es, he⟩ := c0_ends (P := P) ch (retape u τ)
   rw [he] at h1
   cases h1
 have ret : ∀ (f : FuncId) (tm : Array Value) (td : List Item) (fn : Func) (g : Goroutine) (u : World), P.funcs[f]? = some fn → g = G (frm f tm td .returning) [c0] → LPath P g u g2 u2 → Fin [c0] g2 ∨ g2.callers = [] := by
  rintro f tm td fn g u hfn rfl h
  cases h with
  |nil _ => exact .inl ⟨rfl, .inl rfl⟩
  |@cons _ g1 _ _ u1 _ es τ h1 h2 =>
   have h := sg_returning (P := P) true f tm td c0 [] (retape u τ) hfn
   rw [Sem.runT_eq] at h
   cases hr : (results fn tm).run P (retape u τ) with
   |ok v u' =>
    rw [hr] at h
    rw [h] at h1
    injection h1 with e1 e2 e3
    refine .inr (dead g1 u1 h2 ⟨[], ?_⟩)
    rw [← e1, c0_finish]
   |halt hh u' =>
    rw [hr] at h
    rw [h] at h1
    cases hh <;> cases h1
 obtain ⟨f, tm, td, m, fn, rfl, hfn⟩ := hp
 rcases hf with hf | ⟨hf, ht⟩
 ·obtain rfl : m = .returning := hf
  exact ret f tm td fn _ u hfn rfl h
 ·obtain rfl : m = .run := hf
  obtain rfl : td = [] := ht
  cases h with
  |nil _ => exact .inl ⟨rfl, .inr ⟨rfl, rfl⟩⟩
  |@cons _ g1 _ _ u1 _ es τ h1 h2 =>
   have h := sg_nil (P := P) true f tm [c0] (retape u τ)
   rw [h] at h1
   injection h1 with e1 e2 e3
   exact ret f tm [] fn g1 u1 hfn e1.symm h2
def HGoal (W0 : World) (P : Program) (S T : FuncId → Bool) (kdOf : FuncId → Kinds) (K : Cfg) (k : List Item) (base : List Frame) (Post : FuncId → Array Value → World → Prop) (m : Machine) (t : Trace) : Prop :=
 ∃ (gs : Array Goroutine) (w : World) (sl : Option (Nat × Nat)) (q : Nat → Nat) (Sh : Loc → Prop) (L : List Nat) (fr : Frame) (g' : Goroutine) (u : World), m = crowd gs w sl ∧ Fr Try.prog Sh 0 gs g' w t q ∧ Sims P S T kdOf K k base [c0] L (G fr [c0]) g' ∧ WRel K L u w ∧ FinF fr ∧ Post fr.fn fr.tmps u ∧ ShI W0 K L Sh w
def Claim (W0 : World) (P : Program) (S T : FuncId → Bool) (kdOf : FuncId → Kinds) (K : Cfg) (k : List Item) (base : List Frame) (Post : FuncId → Array Value → World → Prop) (g : Goroutine) (u : World) : Prop :=
 ∀ (L : List Nat) (g' : Goroutine) (gs : Array Goroutine) (w : World) (t : Trace) (q : Nat → Nat) (Sh : Loc → Prop) (sl : Option (Nat × Nat)), Sims P S T kdOf K k base [c0] L g g' → WRel K L u w → ShI W0 K L Sh w → Fr Try.prog Sh 0 gs g' w t q → Runs (crowd gs w sl) t (HGoal W0 P S T kdOf K k base Post)
def Special (W0 : World) (P : Program) (F : Array Func) (S T : FuncId → Bool) (kdOf : FuncId → Kinds) (K : Cfg) (k : List Item) (base : List Frame) : Prop :=
 ∀ (L : List Nat) (g g' : Goroutine) (gs : Array Goroutine) (u w : World) (t : Trace) (q : Nat → Nat) (Sh : Loc → Prop) (sl : Option (Nat × Nat)), Ent P F S T kdOf K k base [c0] L g g' → WRel K L u w → ShI W0 K L Sh w → Fr Try.prog Sh 0 gs g' w t q →
  Runs (crowd gs w sl) t fun m t => ∃ (gs' : Array Goroutine) (w' : World) (sl' : Option (Nat × Nat)) (q' : Nat → Nat) (Sh' : Loc → Prop) (L' : List Nat) (g2 g2' : Goroutine) (u2 : World), m = crowd gs' w' sl' ∧ Fr Try.prog Sh' 0 gs' g2' w' t q' ∧ LPath P g u g2 u2 ∧ ¬ Fin [c0] g2 ∧ Sims P S T kdOf K k base [c0] L' g2 g2' ∧ WRel K L' u2 w' ∧ ShI W0 K L' Sh' w'
theorem Claim.congr {g : Goroutine} {u v : World} {t : Nat → Question → Nat} (h : Claim W0 P S T kdOf K k base Post g u) (e : retape v t = retape u t) : Claim W0 P S T kdOf K k base Post g v := by
 have e1 : v.heap = u.heap := (congrArg World.heap e : (retape v t).heap = (retape u t).heap)
 have e2 : v.os = u.os := (congrArg World.os e : (retape v t).os = (retape u t).os)
 have e3 : v.output = u.output := (congrArg World.output e : (retape v t).output = (retape u t).output)
 exact fun L g' gs w t q Sh sl h1 h2 h3 h4 => h L g' gs w t q Sh sl h1 (h2.congr e1.symm rfl e2.symm rfl e3.symm rfl) h3 h4
theorem hybrid (hWr : ∀ b, ¬ K.Wr b) (hQ : wf P F = Try.prog) (hC : CalmS P F S T kdOf) (hSp : Special W0 P F S T kdOf K k base) (hPost : ∀ f t u τ, Post f t u → Post f t (retape u τ)) {g : Goroutine} {u : World} (h : LT P Post g u) :
  Claim W0 P S T kdOf K k base Post g u ∧ ∀ g2 u2, LPath P g u g2 u2 → ¬ Fin [c0] g2 → g2.callers ≠ [] → Claim W0 P S T kdOf K k base Post g2 u2 := by
 induction h with
 |@fin fr u hf hp hpo =>
  refine ⟨fun L g' gs w t q Sh sl h1 h2 h3 h4 => ⟨0, _, _, rfl, gs, w, sl, q, Sh, L, fr, g', u, rfl, h4, h1, h2, hf, hpo, h3⟩, fun g2 u2 h hn hc => ?_⟩
  rcases fin_path hf hp h with h | h
  ·exact absurd h hn
  ·exact absurd h hc
 |@step fr cs u nx hn hs hl ih =>
  have hclaim : Claim W0 P S T kdOf K k base Post (G fr cs) u := by
   intro L g' gs w t q Sh sl hS hW hI hF
   refine Fr.turn (P := Try.prog) (w := w) (gs := gs) (a := g') (Sh := Sh) (d := 0) (Goal := HGoal W0 P S T kdOf K k base Post) (running_sims hS) (fun gs' c sl' t' q' hsz hF' => ?_) _ gs w.drawn sl t q rfl (Nat.le_refl _) hF
   let w₁ : World := w.at c
   let τ : Nat → Question → Nat := fun j q => w₁.tape (j - u.drawn + w₁.drawn) q
   have hW1 : WRel K L u w₁ := hW.congr rfl rfl rfl rfl rfl rfl
   have hg := hs τ
   rcases sim_step (main := true) hC hS (w := w₁) (hW1.congr (u' := retape u τ) rfl rfl rfl rfl rfl rfl) (fun j q => by
     show w₁.tape (u.drawn + j - u.drawn + w₁.drawn) q = w₁.tape (w₁.drawn + j) q
     congr 1
     omega) hn hg with hp | ⟨L', g1', w1, es', h1, hcase, hM⟩
   ·exact absurd hp (panics_lt (hl τ))
   rw [hQ] at h1
   have hsz1 : w₁.heap.size ≤ w1.heap.size := by
    have := hM.step.size
    have := hM.step.pre.length_le
    omega
   have hI1 : ShI W0 K L' Sh w1 := by
    refine ⟨hI.kept.trans ⟨hM.step.os, hM.step.output, hM.step.tape, hsz1, fun b hb => hM.step.block b (by have := hW.wsize; show b < w.heap.size; omega) (fun x => by have := x.2; omega) (hWr b)⟩, hI.mem, fun l b h1 h2 => Nat.lt_of_lt_of_le (hI.shB l b h1 h2) hsz1, hI.rd, fun b hb l hl hs => ?_, hI.ra⟩
    rcases pre_split hM.step.pre hb.1 with hx | ⟨j, hj, hge⟩
    ·exact hI.al b ⟨hx, hb.2⟩ l hl hs
    ·have h1 := hM.step.news j b hj hge
     have h2 := hI.shB l b hs hl
     have h3 : w₁.heap.size = w.heap.size := rfl
     omega
   have hev : ∀ e ∈ es', EvQ Sh w1.heap.size e := by
    intro e he
    have hin : ∀ b, In K L' b → (∀ l, inB b l → ¬ Sh l) ∧ b < w1.heap.size := fun b hb => ⟨hI1.al b hb, hM.rel.within b hb.1⟩
    have hrd : ∀ b, K.Rd b → b < K.N → (∀ l, inB b l → ¬ Sh l) ∧ b < w1.heap.size := fun b hb hl => ⟨hI1.rd b hb, Nat.lt_of_lt_of_le hl hM.rel.wsize⟩
    have hwr : ∀ b, K.Wr b → (∀ l, inB b l → ¬ Sh l) ∧ b < w1.heap.size := fun b hb => by
     exact absurd hb (hWr b)
    cases hM.evs e he with
    |read h =>
     rcases h with ⟨_, ⟨h1, h2, h3⟩ | ⟨j, _, hj, hnn⟩⟩ | ⟨j, _, hj⟩
     ·obtain ⟨x1, x2⟩ := hrd _ h1 h2
      rw [← h3] at x1 x2
      exact evq_cell x1 x2
     ·obtain ⟨x1, x2⟩ := hin _ ⟨List.mem_iff_getElem?.2 ⟨j, hj⟩, hnn⟩
      exact evq_cell x1 x2
     ·exact evq_cell (hI1.ra j _ _ hj) (Nat.lt_of_lt_of_le (hM.rel.ali j _ _ hj).1 hM.rel.wsize)
    |write h =>
     rcases h with h | h
     ·obtain ⟨x1, x2⟩ := hin _ h
      exact evq_cell x1 x2
     ·obtain ⟨x1, x2⟩ := hwr _ h
      exact evq_cell x1 x2
    |@map r wr h =>
     obtain ⟨x1, x2⟩ := hin _ h
     refine ⟨⟨fun x hx hsx => ?_, by simpa [MemAct.ofEvent, MemAct.low, Loc.low] using x2, by simp⟩, by simp, by simp⟩
     simp only [MemAct.ofEvent, MemAct.touch?, Option.some.injEq] at hx
     subst hx
     exact absurd hsx (x1 _ rfl)
    |room => exact ⟨⟨fun x hx => by simp [MemAct.ofEvent, MemAct.touch?] at hx, by simp [MemAct.ofEvent, MemAct.low], by simp⟩, by simp, by simp⟩
   obtain ⟨gs2, ops, hr1, hsz2, hF2⟩ := hF'.own (sl := sl') h1 hsz1 (fun e he => (hev e he).1)
   rw [deaf_quiet (fun e he => (hev e he).2)] at hF2
   refine ⟨_, ops, hr1, ?_⟩
   have hrel1 : WRel K L' (nx τ).2.2.1 w1 := hM.rel.congr rfl rfl rfl rfl rfl rfl
   rcases hcase with hS1 | hE
   ·exact (ih τ).1 L' g1' gs2 w1 (t' ++ ops) q' Sh sl' hS1 hrel1 hI1 hF2
   ·exact (hSp L' _ g1' gs2 _ w1 (t' ++ ops) q' Sh sl' hE hrel1 hI1 hF2).bind fun m t ⟨gs3, w3, sl3, q3, Sh3, L3, g2, g2', u2, hm, hF3, hpath, hnf, hS3, hW3, hI3⟩ => by
     subst hm
     refine (ih τ).2 g2 u2 hpath hnf ?_ L3 g2' gs3 w3 t q3 Sh3 sl3 hS3 hW3 hI3 hF3
     obtain ⟨_, _, _, _, _, cs3, _, hl3, _⟩ := hS3
     rw [hl3]
     simp [G]
  refine ⟨hclaim, fun g2 u2 h hnf hc => ?_⟩
  cases h with
  |nil h => exact hclaim.congr (t := u2.tape) h.symm
  |cons τ h1 h2 =>
   have h3 := (hs τ).symm.trans h1
   injection h3 with e1 e2 e3
   subst e1
   exact (ih τ).2 g2 u2 (h2.congr e2) hnf hc
end
end Go.Mt
namespace Go.Mt
open Go.Tr Go.Conc Go.ConcN Go.Proofs
section
variable {P : Program} {F : Array Func} {S T : FuncId → Bool} {kdOf : FuncId → Kinds}
theorem sg_end {Q : Program} {main : Bool} {f : FuncId} {fn : Func} (hf : Q.funcs[f]? = some fn) (hi : Q.inits.idxOf? f = none) (hres : tmpRes fn = true) (tm : Array Value) (td : List Item) (w : World) :
  ∃ es, stepG Q true (G (frm f tm td .returning) []) w = .ended (.done (resVal fn tm)) w es ∧ ∀ e ∈ es, False := by
 refine ⟨#[], ?_, by simp⟩
 have e1 : (results fn tm).run Q w = .ok (resVal fn tm) w := by rw [Go.Tr.results_tmp hres]; rfl
 have e2 : (results fn tm).events Q w #[] = #[] := by rw [Go.Tr.results_tmp hres]; rfl
 simp [G, frm, stepG, unwind, doReturn, hf, e1, e2, hi, seen, GStep.after]
theorem pst_start (Sh : Loc → Prop) (B : Nat) : PstD 0 Sh 1 B #[] :=
 ⟨past_nil.clean, fun i a ha => by simp [touchAt, Trace.act?] at ha, past_nil.over, rfl, by simp, fun i op x hi => by simp at hi, by simp, by simp⟩
theorem fr_start (Sh : Loc → Prop) (a : Goroutine) (w : World) : Fr Try.prog Sh 0 #[a] a w #[] (fun _ => 0) := ⟨rfl, leavers_one _ _, pst_start Sh _⟩
theorem hyb_run {Rd : Nat → Prop} {al : List (Nat × Nat)} {L0 : List Nat} {W u0 : World} (hQ : wf P F = Try.prog) (hC : CalmS P F S T kdOf) (hC' : CalmS P P.funcs T T kdOf) (hSp : Special W P F S T kdOf ⟨W.heap.size, Rd, fun _ => False, al⟩ [] [])
  {f : FuncId} {fn : Func} (hi : Try.prog.inits.idxOf? f = none) (hf : P.funcs[f]? = some fn) (hS : S f = true) (hT : T f = true) (hres : tmpRes fn = true) {args args' : Array Value} (ha : RelPs ⟨W.heap.size, Rd, fun _ => False, al⟩ L0 args args') (hW : WRel ⟨W.heap.size, Rd, fun _ => False, al⟩ L0 u0 W)
  {Post : Value → World → Prop} (hP : ∀ v u τ, Post v u → Post v (retape u τ)) (hc : ∀ τ, Calls P f args (retape u0 τ) fun e u' => ∃ v, e = .returned v ∧ Post v u') :
  ∃ M last o w' t', runNT Try.prog (M + 1) (solo (G (Frame.enter Try.prog f args' .normal) []) W) #[] = (.ended o w', t') ∧ runN Try.prog M (solo (G (Frame.enter Try.prog f args' .normal) []) W) = .next last ∧ step Try.prog last = .ended o w' ∧
   Good Try.prog (fun v' w' => ∃ L v u, (if oneB P f = true then RelP ⟨W.heap.size, Rd, fun _ => False, al⟩ L v v' else RelV ⟨W.heap.size, Rd, fun _ => False, al⟩ L v v') ∧ WRel ⟨W.heap.size, Rd, fun _ => False, al⟩ L u w' ∧ Kept W.heap.size W w' ∧ Post v u) last o w' t' := by
 let K : Cfg := ⟨W.heap.size, Rd, fun _ => False, al⟩
 obtain ⟨fn', c, hf', hb, hnm, hcode, hresB, hpar⟩ := (hC.calm f hS).fn
 obtain rfl : fn = fn' := Option.some.inj (hf.symm.trans hf')
 let Post' : FuncId → Array Value → World → Prop := fun f' tm u => f' = f ∧ Post (resVal fn tm) u
 have hP' : ∀ f t u τ, Post' f t u → Post' f t (retape u τ) := fun f t u τ h => ⟨h.1, hP _ _ _ h.2⟩
 have h0 : ∀ T, ∃ m fr' u', runN P m (lone (Frame.enter P f args .normal) [c0] (retape u0 T)) = .next (lone fr' [c0] u') ∧ FinF fr' ∧ Post' fr'.fn fr'.tmps u' := by
  intro T
  obtain ⟨e, w', fr, ⟨v, rfl, hp⟩, hcomes, hfn, hleave⟩ := hc T [c0]
  obtain ⟨hm, hd, hk, fn2, hf2, hr⟩ := hleave
  obtain ⟨n, hn⟩ := hcomes
  rw [hfn] at hf2
  obtain rfl : fn = fn2 := Option.some.inj (hf.symm.trans hf2)
  rw [Go.Tr.results_tmp hres] at hr
  simp only [Sem.run] at hr
  injection hr with hr _
  exact ⟨n, fr, w', hn, .inl hm, hfn, hr ▸ hp⟩
 have e1 := enter_frm hf hb args
 have hft : Try.prog.funcs[f]? = some fn := by
  rw [← hQ]
  exact (hC.same f hS).trans hf
 have e2 := enter_frm hft hb args'
 have hfq : (wf P P.funcs).funcs[f]? = some fn := hf
 have hsim' : Sims P T T kdOf K [] [] [c0] L0 (G (Frame.enter P f args .normal) [c0]) (G (frm f (args' ++ Array.replicate (fn.ntmps - args'.size) undef) [.code c] .run) []) := by
  rw [e1]
  exact ⟨f, _, _, [.code c], .run, [], [], rfl, rfl, .enter ha fn.ntmps, by simp [itemB, hcode], hT, .nil, .inl rfl⟩
 have hlt := lt_of_total hC' (fun _ h => h) hP' h0 hsim' hW
 have hsim : Sims P S T kdOf K [] [] [c0] L0 (G (Frame.enter P f args .normal) [c0]) (G (Frame.enter Try.prog f args' .normal) []) := by
  rw [e1, e2]
  exact ⟨f, _, _, [.code c], .run, [], [], rfl, rfl, .enter ha fn.ntmps, by simp [itemB, hcode], hS, .nil, .inl rfl⟩
 have hsh : ShI W K L0 (fun l => l.isMemory = false) W := by
  have hno : ∀ (l : Loc) (b : Nat), l.isMemory = false → inB b l → False := fun l b h1 h2 => by cases l <;> first | exact h2 | cases h1
  exact ⟨Kept.refl _ _, fun l h => h, fun l b h1 h2 => (hno l b h1 h2).elim, fun b _ l h1 h2 => hno l b h2 h1, fun b _ l h1 h2 => hno l b h2 h1, fun _ b _ _ l h1 h2 => hno l b h2 h1⟩
 obtain ⟨N1, m1, t1, hr1, gs, w, sl, q, Sh, L, fr, g', u, hm, hF, ⟨f1, tm, tm', td, m, cs, cs', hl, rfl, ht, hcalm, hSf, hstk, hmm⟩, hW1, hfin, ⟨hf1, hp⟩, hI⟩ :=
  (hybrid (K := K) (fun b (h : False) => h) hQ hC hSp hP' hlt).1 L0 _ #[G (Frame.enter Try.prog f args' .normal) []] W #[] _ _ none hsim hW hsh (fr_start _ _ _)
 subst hm
 obtain ⟨hfr, hcs⟩ := G_inj hl
 have hcs0 : cs = [] := by
  cases cs with
  |nil => rfl
  |cons x xs =>
   have := congrArg List.length hcs
   simp at this
 subst hcs0
 subst hfr
 obtain rfl : f1 = f := hf1
 cases hstk
 have hrv := rel_results (P := P) (F := F) ht hresB
 rw [Go.Tr.results_tmp hres, Go.Tr.results_tmp hres] at hrv
 have hval : if oneB P f1 = true then RelP K L (resVal fn tm) (resVal fn tm') else RelV K L (resVal fn tm) (resVal fn tm') := by
  have hone : oneB P f1 = (fn.results.size == 1) := by simp [oneB, hf]
  rw [hone]
  cases hrv with
  |pure h => exact h
  |doomed h =>
   obtain ⟨_, _, e, _⟩ := h default
   cases e
 let PC : Value → World → Prop := fun v' w' => ∃ L v u, (if oneB P f1 = true then RelP K L v v' else RelV K L v v') ∧ WRel K L u w' ∧ Kept W.heap.size W w' ∧ Post v u
 have hpc : ∀ d, PC (resVal fn tm') (w.at d) := fun d => ⟨L, resVal fn tm, u, hval, hW1.congr rfl rfl rfl rfl rfl rfl, ⟨hI.kept.os, hI.kept.output, hI.kept.tape, hI.kept.size, hI.kept.old⟩, hp⟩
 have hend : ∀ (w1 : World) td, AtRel w w1 → AtEnd Try.prog Sh w.heap.size PC (G (frm f1 tm' td .returning) []) w1 := by
  rintro w1 td ⟨d, rfl⟩
  obtain ⟨es, he, hno⟩ := sg_end (main := true) hft hi hres tm' td (w.at d)
  exact ⟨rfl, _, es, he, fun e he => (hno e he).elim, hpc d⟩
 have hgoes : ∃ n, Goes Try.prog true AtRel (fun w w' es => w' = w ∧ es = #[]) (AtEnd Try.prog Sh w.heap.size PC) n (G (frm f1 tm' (td ++ tail [] []) m) []) w := by
  rcases hmm with rfl | rfl
  ·have htd : td = [] := by
    rcases hfin with h | ⟨_, h⟩
    ·cases h
    ·exact h
   subst htd
   refine ⟨1, Goes.step rfl fun w1 r => ?_⟩
   show (stepG Try.prog true (G (frm f1 tm' [] .run) []) w1).goes _
   rw [sg_nil]
   refine ⟨⟨rfl, rfl⟩, fun w2 r2 => hend w2 _ (atRel_trans _ _ _ r r2)⟩
  ·exact ⟨0, fun w1 r => hend w1 _ r⟩
 obtain ⟨n, hgoes⟩ := hgoes
 obtain ⟨N, last, o, w', t', h1, h2, h3, h4⟩ := beside_ends (Post := PC) (Shun := Sh) (B := w.heap.size) (D := fun w w' es => w' = w ∧ es = #[]) (fun w w' es h e he => by rw [h.2] at he; simp at he) hF.g0 hF.lv hF.pst.to.past hgoes (sl := sl)
 refine ⟨N1 + N, last, o, w', t', ?_, ?_, h3, h4⟩
 ·rw [show N1 + N + 1 = N1 + (N + 1) by omega]
  exact (runNT_add _ N1 (N + 1) _ _ _ _ hr1).trans h1
 ·have hn1 : runN Try.prog N1 (solo (G (Frame.enter Try.prog f1 args' .normal) []) W) = .next (crowd gs w sl) := by
   rw [← runNT_fst _ _ _ #[]]
   exact congrArg Prod.fst hr1
  rw [runN_add, hn1]
  exact h2
end
end Go.Mt
namespace Go.Tr
open Go.Conc (G)
section
variable {P : Program} {F : Array Func} {S Tc : FuncId → Bool} {kdOf : FuncId → Kinds} {K : Cfg}
theorem wx_call2 (hC : CalmS P F S Tc kdOf) (hST : ∀ f, Tc f = true → S f = true) {main : Bool} {f : FuncId} {fn : Func} (hf : P.funcs[f]? = some fn) (hS : S f = true) {args args' : Array Value} {u w : World} (ha : RelPs K [] args args') (hW : WRel K [] u w)
  {Post : Value → World → Prop} (hP : ∀ v u τ, Post v u → Post v (retape u τ)) (hc : ∀ τ, Calls P f args (retape u τ) fun e u' => ∃ v, e = .returned v ∧ Post v u') (hres : ∀ (tm : Array Value) (u : World) (v : Value), (results fn tm).run P u = .ok v u → ∀ τ, (results fn tm).run P (retape u τ) = .ok v (retape u τ)) (b : Frame) (bs : List Frame) :
  WX (wf P F) main K (fun L g w => ∃ v v' u, g = G (b.finish v') bs ∧ (if oneB P f = true then RelP K L v v' else RelV K L v v') ∧ WRel K L u w ∧ Post v u) [] (G (Frame.enter (wf P F) f args' .normal) (b :: bs)) w := by
 obtain ⟨fn', c, hf', hb, hnm, hcode, hresB, hpar⟩ := (hC.calm f hS).fn
 obtain rfl : fn = fn' := Option.some.inj (hf.symm.trans hf')
 let Post' : FuncId → Array Value → World → Prop := fun f' tm u => f' = f ∧ ∃ v, (results fn tm).run P u = .ok v u ∧ Post v u
 have hP' : ∀ f t u τ, Post' f t u → Post' f t (retape u τ) := fun f t u τ ⟨h1, v, h2, h3⟩ => ⟨h1, v, hres _ _ _ h2 τ, hP _ _ _ h3⟩
 have h0 : ∀ T, ∃ m fr' u', runN P m (lone (Frame.enter P f args .normal) [c0] (retape u T)) = .next (lone fr' [c0] u') ∧ FinF fr' ∧ Post' fr'.fn fr'.tmps u' := by
  intro T
  obtain ⟨e, w', fr, ⟨v, rfl, hp⟩, hcomes, hfn, hleave⟩ := hc T [c0]
  obtain ⟨hm, hd, hk, fn2, hf2, hr⟩ := hleave
  obtain ⟨n, hn⟩ := hcomes
  rw [hfn] at hf2
  obtain rfl : fn = fn2 := Option.some.inj (hf.symm.trans hf2)
  exact ⟨n, fr, w', hn, .inl hm, hfn, v, hr, hp⟩
 have e1 := enter_frm hf hb args
 have hfq : (wf P F).funcs[f]? = some fn := (hC.same f hS).trans hf
 have e2 := enter_frm hfq hb args'
 have hsim : Sims P S Tc kdOf K [] (b :: bs) [c0] [] (G (Frame.enter P f args .normal) [c0]) (G (Frame.enter (wf P F) f args' .normal) (b :: bs)) := by
  rw [e1, e2]
  exact ⟨f, _, _, [.code c], .run, [], b :: bs, rfl, rfl, .enter ha fn.ntmps, by simp [itemB, hcode], hS, .nil, .inl rfl⟩
 have hlt := lt_of_total hC hST hP' h0 hsim hW
 have hwx := wx_of_lt hC hST (main := main) hlt [] _ w hsim hW
 refine hwx.bind (tr_rely K) (fun L a => .refl K L a) (fun L g w ⟨fr, u, hs, _⟩ => running_sims hs) fun L g w hst => ?_
 obtain ⟨fr, u1, ⟨f1, tm, tm', td, m, cs, cs', hl, rfl, ht, hcalm, hSf, hstk, hm⟩, hW1, hfin, hf1, v, hrun, hp⟩ := hst w (.refl K L w)
 obtain ⟨hfr, hcs⟩ := G_inj hl
 have hcs0 : cs = [] := by
  cases cs with
  |nil => rfl
  |cons x xs =>
   have := congrArg List.length hcs
   simp at this
 subst hcs0
 subst hfr
 obtain rfl : f1 = f := hf1
 cases hstk
 have hone : oneB P f1 = (fn.results.size == 1) := by simp [oneB, hf]
 have step2 : ∀ (w : World) td, WRel K L u1 w → WX (wf P F) main K (fun L g w => ∃ v v' u, g = G (b.finish v') bs ∧ (if oneB P f1 = true then RelP K L v v' else RelV K L v v') ∧ WRel K L u w ∧ Post v u) L (G (frm f1 tm' td .returning) (b :: bs)) w := by
  intro w td hW1
  refine .of_step rfl fun w₁ hr => ?_
  have hW2 := hW1.rely hr
  let τ : Nat → Question → Nat := fun j q => w₁.tape (j - u1.drawn + w₁.drawn) q
  have hrv := rel_results (P := P) (F := F) ht hresB
  obtain ⟨L', v', w', es', hR⟩ := hrv.runs (retape u1 τ) w₁ (hW2.congr rfl rfl rfl rfl rfl rfl) (fun j q => by
    show w₁.tape (u1.drawn + j - u1.drawn + w₁.drawn) q = w₁.tape (w₁.drawn + j) q
    congr 1
    omega) v (retape u1 τ) (hres _ _ _ hrun τ)
  have hrt' := hR.run #[]
  rw [Array.empty_append] at hrt'
  have hstep := sg_returning (P := wf P F) main f1 tm' td b bs w₁ hfq
  rw [hrt'] at hstep
  simp only [GStep.after] at hstep
  refine ⟨L', _, w', _, hstep, ⟨hR.step, fun e he => hR.evs e (seen_mem (by simpa using he)), hR.rel.within⟩, .stop fun w₂ hr2 => ?_⟩
  refine ⟨v, v', u1, rfl, ?_, (WRel.congr (u' := u1) (w' := w') hR.rel rfl rfl rfl rfl rfl rfl).rely hr2, hp⟩
  rw [hone]
  exact hR.val
 rcases hm with rfl | rfl
 ·have htd : td = [] := by
   rcases hfin with h | ⟨_, h⟩
   ·cases h
   ·exact h
  subst htd
  refine .of_step rfl fun w₁ hr => ⟨L, _, w₁, #[], sg_nil main f1 tm' (b :: bs) w₁, ⟨.refl K L w₁, by simp, (hW1.rely hr).within⟩, ?_⟩
  exact step2 w₁ _ (hW1.rely hr)
 ·exact step2 w _ hW1
theorem res_tmp {fn : Func} (h : tmpRes fn = true) (tm : Array Value) (u : World) (v : Value) (hr : (results fn tm).run P u = .ok v u) (τ : Nat → Question → Nat) : (results fn tm).run P (retape u τ) = .ok v (retape u τ) := by
 rw [results_tmp h] at hr ⊢
 simp only [Sem.run] at hr ⊢
 injection hr with hr _
 rw [hr]
end
end Go.Tr
namespace Go.Mt
open Go.Tr Go.Conc Go.ConcN Go.Proofs
structure Seen (w : World) (Sh : Loc → Prop) (Rd : Nat → Prop) : Prop where
 blk : ∀ b, Rd b → b < w.heap.size ∧ (∀ l, inB b l → ¬ Sh l) ∧ ∃ cs e fr, w.heap[b]? = some (.cells cs e fr) ∧ ∀ c ∈ cs, flatB c = true
abbrev KC (w : World) (Rd : Nat → Prop) : Cfg := ⟨w.heap.size, Rd, fun _ => False, []⟩
structure Came (w : World) (Rd : Nat → Prop) (Post : Value → World → Prop) (L : List Nat) (v' : Value) (w' : World) : Prop where
 kept : Kept w.heap.size w w'
 new : ∀ b ∈ L, w.heap.size ≤ b
 val : ∃ v u, RelV (KC w Rd) L v v' ∧ WRel (KC w Rd) L u w' ∧ Post v u
section
variable {P : Program} {F : Array Func} {S T : FuncId → Bool} {kdOf : FuncId → Kinds} {Sh : Loc → Prop} {Stop : List Nat → Goroutine → World → Prop} {w : World}
theorem mw_calm (hQ : wf P F = Try.prog) (hC : CalmS P F S S kdOf) (hsh : ∀ l b, Sh l → inB b l → b < w.heap.size) {f : FuncId} {fn : Func} (hf : P.funcs[f]? = some fn) (hS : S f = true) (hres : ∀ (tm : Array Value) (u : World) (v : Value), (results fn tm).run P u = .ok v u → ∀ τ, (results fn tm).run P (retape u τ) = .ok v (retape u τ)) {Rd : Nat → Prop} (hsn : Seen w Sh Rd)
  {args : Array Value} (ha : RelPs (KC w Rd) [] args args) {Post : Value → World → Prop} (hP : ∀ v u τ, Post v u → Post v (retape u τ)) (hc : ∀ τ, Calls P f args (retape (fz Rd w) τ) fun e u' => ∃ v, e = .returned v ∧ Post v u') {b : Frame} {bs : List Frame}
  (hk : ∀ L v' w', Came w Rd Post L v' w' → MW Sh Stop (G (b.finish v') bs) w') : MW Sh Stop (G (Frame.enter Try.prog f args .normal) (b :: bs)) w := by
 intro d
 have hW : WRel (KC w Rd) [] (fz Rd w) (w.at d) := wrel_fz rfl rfl (Nat.le_refl _) fun b hb => by
  obtain ⟨h1, h2, xs, e, fr, h3, h4⟩ := hsn.blk b hb
  exact ⟨xs, e, fr, h3, h3, relCs_flat h4⟩
 have hwx := wx_call2 (main := true) hC (fun _ h => h) hf hS ha hW hP hc hres b bs
 rw [hQ] at hwx
 have hB := calm_beside (Sh := Sh) (B := w.heap.size) (Nat.le_refl _) (fun b hb => hb) (fun b l hb hl => (hsn.blk b hb).2.1 l hl) rfl hsh hwx (w.at d) (Kept.refl _ _) (by simp) (Nat.le_refl _)
 refine hB.bind (fun _ a b c h k => atRel_trans _ _ _ h k) (fun _ a => atRel_refl a) (fun L g w ⟨_, _, ⟨_, _, _, hg', _⟩, _⟩ => by rw [hg']; rfl) fun L g w1 hst => ?_
 obtain ⟨rfl, L1, ⟨v, v', u, rfl, hv, hWu, hp⟩, hkp, hN, hL⟩ := hst w1 (atRel_refl w1)
 refine hk L1 v' w1 ⟨⟨hkp.os, hkp.output, hkp.tape, hkp.size, hkp.old⟩, hL, v, u, ?_, hWu, hp⟩ w1.drawn
 by_cases h : oneB P f = true
 ·rw [if_pos h] at hv
  exact .part hv
 ·rw [if_neg h] at hv
  exact hv
theorem sh_mono {w w' : World} (h : ∀ l b, Sh l → inB b l → b < w.heap.size) (hs : w.heap.size ≤ w'.heap.size) : ∀ l b, Sh l → inB b l → b < w'.heap.size := fun l b h1 h2 => Nat.lt_of_lt_of_le (h l b h1 h2) hs
end
section
variable {Sh : Loc → Prop} {Stop : List Nat → Goroutine → World → Prop} {b : Frame} {a : Act} {kk : List Item} {cs : List Frame} {w w' : World} {ops : Array Oper} {j : Nat} {rest : List Nat} {o : Oper} {x y : Operand} {v : Value}
theorem wanted_pos {k : Nat} {wnt : Bool} (hg : o.guard = some (k, wnt)) (hy : yielded ops a.tmps k = some wnt) : Region.wanted o (yielded ops a.tmps) = true := by simp [Region.wanted, hg, hy]
theorem mw_valw (ho : ops[j]? = some o) (hw : Region.wanted o (yielded ops a.tmps) = true) (hk : b.kind ≠ .early) (hsz : w.heap.size ≤ w'.heap.size) (hr : ∀ d, (execOp a.eval o).run Try.prog (w.at d) = .ok (.value v) (w'.at d)) (he : ∀ d, (execOp a.eval o).events Try.prog (w.at d) #[] = #[])
  (hn : MW Sh Stop (G (b.at (a.put o.dst v) (.inRegion ops rest :: kk)) cs) w') : MW Sh Stop (G (b.at a (.inRegion ops (j :: rest) :: kk)) cs) w :=
 mw_step rfl hsz (fun d => ⟨_, d, stepG_value ho hw hk (hr d), fun e hm => by
  unfold listed at hm
  rw [he d, seen_none] at hm
  simp at hm⟩) hn
theorem mw_callw (ho : ops[j]? = some o) (hw : Region.wanted o (yielded ops a.tmps) = true) (hk : b.kind ≠ .early) {f : FuncId} {fn : Func} {args : Array Operand} {ats : Array TypeId} (hop : o.op = .call { callee := .value (.func f), args, argTypes := ats })
  (hf : Try.prog.funcs[f]? = some fn) (hnm : (fn.name == "runtime.NumGoroutine") = false) (hb : fn.body.isNone = false) {vs : Array Value} (hvs : args.map a.eval = vs)
  (hn : MW Sh Stop (G (Frame.enter Try.prog f vs .normal) (b.at a (.inRegion ops (j :: rest) :: kk) :: cs)) w) : MW Sh Stop (G (b.at a (.inRegion ops (j :: rest) :: kk)) cs) w := by
 subst hvs
 refine mw_step rfl (Nat.le_refl _) (fun d => ⟨_, d, stepG_enter ho hw hk (run_call_body hop hf hnm hb), fun e he => ?_⟩) hn
 unfold listed at he
 rw [events_call_body hop hf hnm hb, seen_none] at he
 simp at he
end
end Go.Mt
namespace Go.Mt
open Go.Tr Go.Conc Go.ConcN Go.Proofs
def flatP : Value → Bool
 |.agg cs => cs.all flatB
 |v => flatB v
def flatV : Value → Bool
 |.tuple cs => cs.all flatP
 |v => flatP v
section
variable {K : Cfg} {L : List Nat} {v v' : Value}
theorem relC_flat (h : RelC K L v v') (hf : flatB v = true) : v' = v := by
 cases h with
 |flat _ => rfl
 |slice _ _ _ => cases hf
 |map _ => cases hf
theorem relCs_eq {cs cs' : Array Value} (h : RelCs K L cs cs') (hf : cs.all flatB = true) : cs' = cs := by
 obtain ⟨h1, h2⟩ := h
 apply Array.ext h1
 intro i hi hi'
 have ha := Array.getElem?_eq_getElem hi'
 have hb := Array.getElem?_eq_getElem hi
 exact relC_flat (h2 i _ _ ha hb) (Array.all_eq_true_iff_forall_mem.1 hf _ (Array.getElem_mem hi'))
theorem relP_flat (h : RelP K L v v') (hf : flatP v = true) : v' = v := by
 cases h with
 |cell h =>
  cases h with
  |flat _ => rfl
  |slice _ _ _ => cases hf
  |map _ => cases hf
 |agg h =>
  have := relCs_eq h hf
  rw [this]
theorem relV_flat (h : RelV K L v v') (hf : flatV v = true) : v' = v := by
 cases h with
 |part h =>
  refine relP_flat h ?_
  cases h with
  |cell h =>
   cases h with
   |flat h =>
    cases v <;> first | exact hf | (simp only [flatB] at h; simp only [flatP, flatB]; exact h)
   |slice _ _ _ => cases hf
   |map _ => cases hf
  |agg h => exact hf
 |tuple h =>
  rename_i cs cs'
  have hf' : cs.all flatP = true := hf
  congr 1
  apply Array.ext h.1
  intro i hi hi'
  exact relP_flat (h.2 i _ _ (Array.getElem?_eq_getElem hi') (Array.getElem?_eq_getElem hi)) (Array.all_eq_true_iff_forall_mem.1 hf' _ (Array.getElem_mem hi'))
end
def IntBlk (w : World) (b : Nat) (xs : List Int) : Prop := ∃ cs fr, w.heap[b]? = some (.cells cs 3 fr) ∧ (∀ c ∈ cs, flatB c = true) ∧ ∀ (i : Nat) (x : Int), xs[i]? = some x → cs[i]? = some (Value.int .i64 x)
def ResI (N : Nat) (u : World) (v : Value) (xs : List Int) : Prop := ∃ b c, v = .slice (some ⟨b, 0, none⟩) xs.length c ∧ N ≤ b ∧ IntBlk u b xs
theorem IntBlk.of_get {w w' : World} {b : Nat} {xs : List Int} (h : IntBlk w b xs) (e : w'.heap[b]? = w.heap[b]?) : IntBlk w' b xs := by
 obtain ⟨cs, fr, h1, h2⟩ := h
 exact ⟨cs, fr, e.trans h1, h2⟩
theorem IntBlk.fz {w : World} {b : Nat} {xs : List Int} {Rd : Nat → Prop} (h : IntBlk w b xs) (hR : Rd b) (τ : Nat → Question → Nat) : IntBlk (retape (fz Rd w) τ) b xs := by
 obtain ⟨cs, fr, h1, h2, h3⟩ := h
 refine ⟨cs, (0, cs.size), ?_, h2, h3⟩
 show (Go.Mt.fz Rd w).heap[b]? = _
 rw [fz_in hR, h1]
 rfl
theorem IntBlk.lt {w : World} {b : Nat} {xs : List Int} (h : IntBlk w b xs) : b < w.heap.size := by
 obtain ⟨cs, fr, h1, _⟩ := h
 exact (Array.getElem?_eq_some_iff.1 h1).1
theorem IntBlk.seen {w : World} {b : Nat} {xs : List Int} (h : IntBlk w b xs) : ∃ cs e fr, w.heap[b]? = some (.cells cs e fr) ∧ ∀ c ∈ cs, flatB c = true := by
 obtain ⟨cs, fr, h1, h2, _⟩ := h
 exact ⟨cs, 3, fr, h1, h2⟩
theorem resI_rel {K : Cfg} {L : List Nat} {u w : World} {v v' : Value} {xs : List Int} (hKa : K.al = []) (hW : WRel K L u w) (hv : RelP K L v v') (h : ResI K.N u v xs) : ∃ b c, v' = .slice (some ⟨b, 0, none⟩) xs.length c ∧ b ∈ L ∧ K.N ≤ b ∧ IntBlk w b xs := by
 obtain ⟨b, c, rfl, hb, cs, fr, h1, h2, h3⟩ := h
 cases hv with
 |cell hv =>
  cases hv with
  |flat hf => cases hf
  |@slice a a' n c sh hB ho hs =>
   obtain ⟨b', o', s'⟩ := a'
   simp only at ho hs hB
   rcases hB with ⟨rfl, hB⟩ | ⟨j, _, hj⟩
   ·simp only [Nat.add_zero] at ho
    subst ho hs
    rcases hB with ⟨_, hl, _⟩ | ⟨j, rfl, hj, hn⟩
    ·exact absurd hl (by omega)
    ·obtain ⟨o1, o2, g1, g2, g3⟩ := hW.new j b' hj hn
     rw [h1] at g1
     obtain rfl := Option.some.inj g1
     cases g3 with
     |cells g3 =>
      have := relCs_eq g3 (Array.all_eq_true_iff_forall_mem.2 h2)
      subst this
      exact ⟨b', c, rfl, List.mem_iff_getElem?.2 ⟨j, hj⟩, hn, _, _, g2, h2, h3⟩
   ·rw [hKa] at hj
    simp at hj
theorem relV_pair {K : Cfg} {L : List Nat} {x y v' : Value} (h : RelV K L (.tuple #[x, y]) v') : ∃ x' y', v' = .tuple #[x', y'] ∧ RelP K L x x' ∧ RelP K L y y' := by
 cases h with
 |part h => cases h with | cell h => cases h with | flat h => simp [flatB] at h
 |tuple h =>
  rename_i cs'
  obtain ⟨h1, h2⟩ := h
  have hs : cs'.size = 2 := h1
  refine ⟨cs'[0], cs'[1], ?_, h2 0 _ _ rfl (Array.getElem?_eq_getElem (by omega)), h2 1 _ _ rfl (Array.getElem?_eq_getElem (by omega))⟩
  congr 1
  apply Array.ext (by simp [hs])
  intro i hi _
  match i with
  |0 => rfl
  |1 => rfl
  |k + 2 => omega
end Go.Mt
namespace Go.Mt
open Go.Tr Go.Conc Go.ConcN Go.Proofs Go.RowKit Go.Conc.Lib Go.ConcR.Gen Go.ConcN.Gen
noncomputable def r20 (n : Nat) : Array Oper := (cutR (Try.f20.body.getD .skip)).getD n #[]
noncomputable def d8 : Code := .ret
noncomputable def d7 : Code := .seq (.region 7 (r20 7) false) d8
noncomputable def d6 : Code := .seq (.region 6 (r20 6) false) d7
noncomputable def d5 : Code := .seq (.region 5 (r20 5) false) d6
noncomputable def d4 : Code := .seq (.region 4 (r20 4) false) d5
noncomputable def d3 : Code := .seq (.region 3 (r20 3) false) d4
noncomputable def d2 : Code := .seq (.region 2 (r20 2) false) d3
noncomputable def d1 : Code := .seq (.region 1 (r20 1) false) d2
noncomputable def d0 : Code := .seq (.region 0 (r20 0) false) d1
theorem body20 : Try.f20.body = some d0 := by kernel_rfl
theorem s20_0 : (r20 0).size = 1 := by kernel_rfl
theorem s20_1 : (r20 1).size = 7 := by kernel_rfl
theorem s20_2 : (r20 2).size = 7 := by kernel_rfl
theorem s20_3 : (r20 3).size = 10 := by kernel_rfl
theorem s20_4 : (r20 4).size = 6 := by kernel_rfl
theorem s20_5 : (r20 5).size = 6 := by kernel_rfl
theorem s20_6 : (r20 6).size = 10 := by kernel_rfl
theorem s20_7 : (r20 7).size = 58 := by kernel_rfl
theorem nt20 : Try.f20.ntmps = 103 := by kernel_rfl
theorem res20 : Try.f20.results = #[.tmp 0] := by kernel_rfl
theorem o20_0_0 : ∃ o, (r20 0)[0]? = some o ∧ o.dst = some 0 ∧ o.op = .assign (.const (.bool false)) ∧ o.guard = none := ⟨_, rfl, rfl, rfl, rfl⟩
theorem o20_1_0 : ∃ o, (r20 1)[0]? = some o ∧ o.dst = some 16 ∧ o.op = .buildSlice 29 3 #[(0, .const (.int .i64 0)), (1, .const (.int .i64 1)), (2, .const (.int .i64 1))] ∧ o.guard = none := ⟨_, rfl, rfl, rfl, rfl⟩
theorem o20_1_1 : ∃ o, (r20 1)[1]? = some o ∧ o.dst = some 17 ∧ o.op = .call { callee := .value (.func 36), args := #[.tmp 16], argTypes := #[29] } ∧ o.guard = none := ⟨_, rfl, rfl, rfl, rfl⟩
theorem o20_1_2 : ∃ o, (r20 1)[2]? = some o ∧ o.dst = some 15 ∧ o.op = .move (.tmp 17) ∧ o.guard = none := ⟨_, rfl, rfl, rfl, rfl⟩
theorem o20_1_3 : ∃ o, (r20 1)[3]? = some o ∧ o.dst = some 18 ∧ o.op = .extract (.tmp 15) 0 ∧ o.guard = none := ⟨_, rfl, rfl, rfl, rfl⟩
theorem o20_1_4 : ∃ o, (r20 1)[4]? = some o ∧ o.dst = some 19 ∧ o.op = .extract (.tmp 15) 1 ∧ o.guard = none := ⟨_, rfl, rfl, rfl, rfl⟩
theorem o20_1_5 : ∃ o, (r20 1)[5]? = some o ∧ o.dst = some 1 ∧ o.op = .assign (.tmp 18) ∧ o.guard = none := ⟨_, rfl, rfl, rfl, rfl⟩
theorem o20_1_6 : ∃ o, (r20 1)[6]? = some o ∧ o.dst = some 2 ∧ o.op = .assign (.tmp 19) ∧ o.guard = none := ⟨_, rfl, rfl, rfl, rfl⟩
theorem o20_2_0 : ∃ o, (r20 2)[0]? = some o ∧ o.dst = some 21 ∧ o.op = .buildSlice 29 3 #[(0, .const (.int .i64 0)), (1, .const (.int .i64 0)), (2, .const (.int .i64 1))] ∧ o.guard = none := ⟨_, rfl, rfl, rfl, rfl⟩
theorem o20_2_1 : ∃ o, (r20 2)[1]? = some o ∧ o.dst = some 22 ∧ o.op = .call { callee := .value (.func 25), args := #[.tmp 21], argTypes := #[29] } ∧ o.guard = none := ⟨_, rfl, rfl, rfl, rfl⟩
theorem o20_2_2 : ∃ o, (r20 2)[2]? = some o ∧ o.dst = some 20 ∧ o.op = .move (.tmp 22) ∧ o.guard = none := ⟨_, rfl, rfl, rfl, rfl⟩
theorem o20_2_3 : ∃ o, (r20 2)[3]? = some o ∧ o.dst = some 23 ∧ o.op = .extract (.tmp 20) 0 ∧ o.guard = none := ⟨_, rfl, rfl, rfl, rfl⟩
theorem o20_2_4 : ∃ o, (r20 2)[4]? = some o ∧ o.dst = some 24 ∧ o.op = .extract (.tmp 20) 1 ∧ o.guard = none := ⟨_, rfl, rfl, rfl, rfl⟩
theorem o20_2_5 : ∃ o, (r20 2)[5]? = some o ∧ o.dst = some 3 ∧ o.op = .assign (.tmp 23) ∧ o.guard = none := ⟨_, rfl, rfl, rfl, rfl⟩
theorem o20_2_6 : ∃ o, (r20 2)[6]? = some o ∧ o.dst = some 4 ∧ o.op = .assign (.tmp 24) ∧ o.guard = none := ⟨_, rfl, rfl, rfl, rfl⟩
theorem o20_3_0 : ∃ o, (r20 3)[0]? = some o ∧ o.dst = some 26 ∧ o.op = .buildSlice 29 4 #[(0, .const (.int .i64 0)), (1, .const (.int .i64 0)), (2, .const (.int .i64 1)), (3, .const (.int .i64 1))] ∧ o.guard = none := ⟨_, rfl, rfl, rfl, rfl⟩
theorem o20_3_1 : ∃ o, (r20 3)[1]? = some o ∧ o.dst = some 27 ∧ o.op = .buildSlice 29 4 #[(0, .const (.int .i64 0)), (1, .const (.int .i64 1)), (2, .const (.int .i64 1)), (3, .const (.int .i64 0))] ∧ o.guard = none := ⟨_, rfl, rfl, rfl, rfl⟩
theorem o20_3_2 : ∃ o, (r20 3)[2]? = some o ∧ o.dst = some 28 ∧ o.op = .call { callee := .value (.func 34), args := #[.tmp 26, .tmp 27], argTypes := #[29, 29] } ∧ o.guard = none := ⟨_, rfl, rfl, rfl, rfl⟩
theorem o20_3_3 : ∃ o, (r20 3)[3]? = some o ∧ o.dst = some 25 ∧ o.op = .move (.tmp 28) ∧ o.guard = none := ⟨_, rfl, rfl, rfl, rfl⟩
theorem o20_3_4 : ∃ o, (r20 3)[4]? = some o ∧ o.dst = some 29 ∧ o.op = .extract (.tmp 25) 0 ∧ o.guard = none := ⟨_, rfl, rfl, rfl, rfl⟩
theorem o20_3_5 : ∃ o, (r20 3)[5]? = some o ∧ o.dst = some 30 ∧ o.op = .extract (.tmp 25) 1 ∧ o.guard = none := ⟨_, rfl, rfl, rfl, rfl⟩
theorem o20_3_6 : ∃ o, (r20 3)[6]? = some o ∧ o.dst = some 31 ∧ o.op = .extract (.tmp 25) 2 ∧ o.guard = none := ⟨_, rfl, rfl, rfl, rfl⟩
theorem o20_3_7 : ∃ o, (r20 3)[7]? = some o ∧ o.dst = some 5 ∧ o.op = .assign (.tmp 29) ∧ o.guard = none := ⟨_, rfl, rfl, rfl, rfl⟩
theorem o20_3_8 : ∃ o, (r20 3)[8]? = some o ∧ o.dst = some 6 ∧ o.op = .assign (.tmp 30) ∧ o.guard = none := ⟨_, rfl, rfl, rfl, rfl⟩
theorem o20_3_9 : ∃ o, (r20 3)[9]? = some o ∧ o.dst = some 7 ∧ o.op = .assign (.tmp 31) ∧ o.guard = none := ⟨_, rfl, rfl, rfl, rfl⟩
theorem o20_4_0 : ∃ o, (r20 4)[0]? = some o ∧ o.dst = some 33 ∧ o.op = .call { callee := .value (.func 16), args := #[.const (.int .i64 4), .const (.int .i64 2)], argTypes := #[3, 3] } ∧ o.guard = none := ⟨_, rfl, rfl, rfl, rfl⟩
theorem o20_4_1 : ∃ o, (r20 4)[1]? = some o ∧ o.dst = some 32 ∧ o.op = .move (.tmp 33) ∧ o.guard = none := ⟨_, rfl, rfl, rfl, rfl⟩
theorem o20_4_2 : ∃ o, (r20 4)[2]? = some o ∧ o.dst = some 34 ∧ o.op = .extract (.tmp 32) 0 ∧ o.guard = none := ⟨_, rfl, rfl, rfl, rfl⟩
theorem o20_4_3 : ∃ o, (r20 4)[3]? = some o ∧ o.dst = some 35 ∧ o.op = .extract (.tmp 32) 1 ∧ o.guard = none := ⟨_, rfl, rfl, rfl, rfl⟩
theorem o20_4_4 : ∃ o, (r20 4)[4]? = some o ∧ o.dst = some 8 ∧ o.op = .assign (.tmp 34) ∧ o.guard = none := ⟨_, rfl, rfl, rfl, rfl⟩
theorem o20_4_5 : ∃ o, (r20 4)[5]? = some o ∧ o.dst = some 9 ∧ o.op = .assign (.tmp 35) ∧ o.guard = none := ⟨_, rfl, rfl, rfl, rfl⟩
theorem o20_5_0 : ∃ o, (r20 5)[0]? = some o ∧ o.dst = some 37 ∧ o.op = .call { callee := .value (.func 18), args := #[.const (.int .i64 4), .const (.int .i64 2)], argTypes := #[3, 3] } ∧ o.guard = none := ⟨_, rfl, rfl, rfl, rfl⟩
theorem o20_5_1 : ∃ o, (r20 5)[1]? = some o ∧ o.dst = some 36 ∧ o.op = .move (.tmp 37) ∧ o.guard = none := ⟨_, rfl, rfl, rfl, rfl⟩
theorem o20_5_2 : ∃ o, (r20 5)[2]? = some o ∧ o.dst = some 38 ∧ o.op = .extract (.tmp 36) 0 ∧ o.guard = none := ⟨_, rfl, rfl, rfl, rfl⟩
theorem o20_5_3 : ∃ o, (r20 5)[3]? = some o ∧ o.dst = some 39 ∧ o.op = .extract (.tmp 36) 1 ∧ o.guard = none := ⟨_, rfl, rfl, rfl, rfl⟩
theorem o20_5_4 : ∃ o, (r20 5)[4]? = some o ∧ o.dst = some 10 ∧ o.op = .assign (.tmp 38) ∧ o.guard = none := ⟨_, rfl, rfl, rfl, rfl⟩
theorem o20_5_5 : ∃ o, (r20 5)[5]? = some o ∧ o.dst = some 11 ∧ o.op = .assign (.tmp 39) ∧ o.guard = none := ⟨_, rfl, rfl, rfl, rfl⟩
theorem o20_6_0 : ∃ o, (r20 6)[0]? = some o ∧ o.dst = some 41 ∧ o.op = .buildSlice 29 4 #[(0, .const (.int .i64 0)), (1, .const (.int .i64 1)), (2, .const (.int .i64 0)), (3, .const (.int .i64 1))] ∧ o.guard = none := ⟨_, rfl, rfl, rfl, rfl⟩
theorem o20_6_1 : ∃ o, (r20 6)[1]? = some o ∧ o.dst = some 42 ∧ o.op = .call { callee := .value (.func 23), args := #[.tmp 41], argTypes := #[29] } ∧ o.guard = none := ⟨_, rfl, rfl, rfl, rfl⟩
theorem o20_6_2 : ∃ o, (r20 6)[2]? = some o ∧ o.dst = some 40 ∧ o.op = .move (.tmp 42) ∧ o.guard = none := ⟨_, rfl, rfl, rfl, rfl⟩
theorem o20_6_3 : ∃ o, (r20 6)[3]? = some o ∧ o.dst = some 43 ∧ o.op = .extract (.tmp 40) 0 ∧ o.guard = none := ⟨_, rfl, rfl, rfl, rfl⟩
theorem o20_6_4 : ∃ o, (r20 6)[4]? = some o ∧ o.dst = some 44 ∧ o.op = .extract (.tmp 40) 1 ∧ o.guard = none := ⟨_, rfl, rfl, rfl, rfl⟩
theorem o20_6_5 : ∃ o, (r20 6)[5]? = some o ∧ o.dst = some 45 ∧ o.op = .extract (.tmp 40) 2 ∧ o.guard = none := ⟨_, rfl, rfl, rfl, rfl⟩
theorem o20_6_6 : ∃ o, (r20 6)[6]? = some o ∧ o.dst = some 12 ∧ o.op = .alloc 31 ∧ o.guard = none := ⟨_, rfl, rfl, rfl, rfl⟩
theorem o20_6_7 : ∃ o, (r20 6)[7]? = some o ∧ o.dst = none ∧ o.op = .store 31 (.tmp 12) (.tmp 43) ∧ o.guard = none := ⟨_, rfl, rfl, rfl, rfl⟩
theorem o20_6_8 : ∃ o, (r20 6)[8]? = some o ∧ o.dst = some 13 ∧ o.op = .assign (.tmp 44) ∧ o.guard = none := ⟨_, rfl, rfl, rfl, rfl⟩
theorem o20_6_9 : ∃ o, (r20 6)[9]? = some o ∧ o.dst = some 14 ∧ o.op = .assign (.tmp 45) ∧ o.guard = none := ⟨_, rfl, rfl, rfl, rfl⟩
theorem o20_7_0 : ∃ o, (r20 7)[0]? = some o ∧ o.dst = some 46 ∧ o.op = .move (.tmp 2) ∧ o.guard = none := ⟨_, rfl, rfl, rfl, rfl⟩
theorem o20_7_1 : ∃ o, (r20 7)[1]? = some o ∧ o.dst = some 47 ∧ o.op = .binOp .eql 22 (.tmp 46) (.const (.int .i64 0)) 22 ∧ o.guard = none := ⟨_, rfl, rfl, rfl, rfl⟩
theorem o20_7_2 : ∃ o, (r20 7)[2]? = some o ∧ o.dst = some 48 ∧ o.op = .move (.tmp 47) ∧ o.guard = none := ⟨_, rfl, rfl, rfl, rfl⟩
theorem o20_7_3 : ∃ o, (r20 7)[3]? = some o ∧ o.dst = some 49 ∧ o.op = .move (.tmp 1) ∧ o.guard = some (2, true) := ⟨_, rfl, rfl, rfl, rfl⟩
theorem o20_7_4 : ∃ o, (r20 7)[4]? = some o ∧ o.dst = some 50 ∧ o.op = .binOp .eql 3 (.tmp 49) (.const (.int .i64 3)) 3 ∧ o.guard = some (2, true) := ⟨_, rfl, rfl, rfl, rfl⟩
theorem o20_7_5 : ∃ o, (r20 7)[5]? = some o ∧ o.dst = some 51 ∧ o.op = .pick (.tmp 48) (.tmp 50) (.const (.bool false)) ∧ o.guard = none := ⟨_, rfl, rfl, rfl, rfl⟩
theorem o20_7_6 : ∃ o, (r20 7)[6]? = some o ∧ o.dst = some 52 ∧ o.op = .move (.tmp 51) ∧ o.guard = none := ⟨_, rfl, rfl, rfl, rfl⟩
theorem o20_7_7 : ∃ o, (r20 7)[7]? = some o ∧ o.dst = some 53 ∧ o.op = .move (.tmp 4) ∧ o.guard = some (6, true) := ⟨_, rfl, rfl, rfl, rfl⟩
theorem o20_7_8 : ∃ o, (r20 7)[8]? = some o ∧ o.dst = some 54 ∧ o.op = .binOp .eql 22 (.tmp 53) (.const (.int .i64 0)) 22 ∧ o.guard = some (6, true) := ⟨_, rfl, rfl, rfl, rfl⟩
theorem o20_7_9 : ∃ o, (r20 7)[9]? = some o ∧ o.dst = some 55 ∧ o.op = .pick (.tmp 52) (.tmp 54) (.const (.bool false)) ∧ o.guard = none := ⟨_, rfl, rfl, rfl, rfl⟩
theorem o20_7_10 : ∃ o, (r20 7)[10]? = some o ∧ o.dst = some 56 ∧ o.op = .move (.tmp 55) ∧ o.guard = none := ⟨_, rfl, rfl, rfl, rfl⟩
theorem o20_7_11 : ∃ o, (r20 7)[11]? = some o ∧ o.dst = some 57 ∧ o.op = .move (.tmp 3) ∧ o.guard = some (10, true) := ⟨_, rfl, rfl, rfl, rfl⟩
theorem o20_7_12 : ∃ o, (r20 7)[12]? = some o ∧ o.dst = some 58 ∧ o.op = .buildSlice 29 3 #[(0, .const (.int .i64 0)), (1, .const (.int .i64 1)), (2, .const (.int .i64 1))] ∧ o.guard = some (10, true) := ⟨_, rfl, rfl, rfl, rfl⟩
theorem o20_7_13 : ∃ o, (r20 7)[13]? = some o ∧ o.dst = some 59 ∧ o.op = .call { callee := .value (.func 27), args := #[.tmp 57, .tmp 58], argTypes := #[29, 29] } ∧ o.guard = some (10, true) := ⟨_, rfl, rfl, rfl, rfl⟩
theorem o20_7_14 : ∃ o, (r20 7)[14]? = some o ∧ o.dst = some 60 ∧ o.op = .pick (.tmp 56) (.tmp 59) (.const (.bool false)) ∧ o.guard = none := ⟨_, rfl, rfl, rfl, rfl⟩
theorem o20_7_15 : ∃ o, (r20 7)[15]? = some o ∧ o.dst = some 61 ∧ o.op = .move (.tmp 60) ∧ o.guard = none := ⟨_, rfl, rfl, rfl, rfl⟩
theorem o20_7_16 : ∃ o, (r20 7)[16]? = some o ∧ o.dst = some 62 ∧ o.op = .move (.tmp 7) ∧ o.guard = some (15, true) := ⟨_, rfl, rfl, rfl, rfl⟩
theorem o20_7_17 : ∃ o, (r20 7)[17]? = some o ∧ o.dst = some 63 ∧ o.op = .binOp .eql 22 (.tmp 62) (.const (.int .i64 0)) 22 ∧ o.guard = some (15, true) := ⟨_, rfl, rfl, rfl, rfl⟩
theorem o20_7_18 : ∃ o, (r20 7)[18]? = some o ∧ o.dst = some 64 ∧ o.op = .pick (.tmp 61) (.tmp 63) (.const (.bool false)) ∧ o.guard = none := ⟨_, rfl, rfl, rfl, rfl⟩
theorem o20_7_19 : ∃ o, (r20 7)[19]? = some o ∧ o.dst = some 65 ∧ o.op = .move (.tmp 64) ∧ o.guard = none := ⟨_, rfl, rfl, rfl, rfl⟩
theorem o20_7_20 : ∃ o, (r20 7)[20]? = some o ∧ o.dst = some 66 ∧ o.op = .move (.tmp 5) ∧ o.guard = some (19, true) := ⟨_, rfl, rfl, rfl, rfl⟩
theorem o20_7_21 : ∃ o, (r20 7)[21]? = some o ∧ o.dst = some 67 ∧ o.op = .buildSlice 29 4 #[(0, .const (.int .i64 0)), (1, .const (.int .i64 1)), (2, .const (.int .i64 2)), (3, .const (.int .i64 3))] ∧ o.guard = some (19, true) := ⟨_, rfl, rfl, rfl, rfl⟩
theorem o20_7_22 : ∃ o, (r20 7)[22]? = some o ∧ o.dst = some 68 ∧ o.op = .call { callee := .value (.func 27), args := #[.tmp 66, .tmp 67], argTypes := #[29, 29] } ∧ o.guard = some (19, true) := ⟨_, rfl, rfl, rfl, rfl⟩
theorem o20_7_23 : ∃ o, (r20 7)[23]? = some o ∧ o.dst = some 69 ∧ o.op = .pick (.tmp 65) (.tmp 68) (.const (.bool false)) ∧ o.guard = none := ⟨_, rfl, rfl, rfl, rfl⟩
theorem o20_7_24 : ∃ o, (r20 7)[24]? = some o ∧ o.dst = some 70 ∧ o.op = .move (.tmp 69) ∧ o.guard = none := ⟨_, rfl, rfl, rfl, rfl⟩
theorem o20_7_25 : ∃ o, (r20 7)[25]? = some o ∧ o.dst = some 71 ∧ o.op = .move (.tmp 6) ∧ o.guard = some (24, true) := ⟨_, rfl, rfl, rfl, rfl⟩
theorem o20_7_26 : ∃ o, (r20 7)[26]? = some o ∧ o.dst = some 72 ∧ o.op = .buildSlice 29 4 #[(0, .const (.int .i64 0)), (1, .const (.int .i64 0)), (2, .const (.int .i64 0)), (3, .const (.int .i64 0))] ∧ o.guard = some (24, true) := ⟨_, rfl, rfl, rfl, rfl⟩
theorem o20_7_27 : ∃ o, (r20 7)[27]? = some o ∧ o.dst = some 73 ∧ o.op = .call { callee := .value (.func 27), args := #[.tmp 71, .tmp 72], argTypes := #[29, 29] } ∧ o.guard = some (24, true) := ⟨_, rfl, rfl, rfl, rfl⟩
theorem o20_7_28 : ∃ o, (r20 7)[28]? = some o ∧ o.dst = some 74 ∧ o.op = .pick (.tmp 70) (.tmp 73) (.const (.bool false)) ∧ o.guard = none := ⟨_, rfl, rfl, rfl, rfl⟩
theorem o20_7_29 : ∃ o, (r20 7)[29]? = some o ∧ o.dst = some 75 ∧ o.op = .move (.tmp 74) ∧ o.guard = none := ⟨_, rfl, rfl, rfl, rfl⟩
theorem o20_7_30 : ∃ o, (r20 7)[30]? = some o ∧ o.dst = some 76 ∧ o.op = .move (.tmp 9) ∧ o.guard = some (29, true) := ⟨_, rfl, rfl, rfl, rfl⟩
theorem o20_7_31 : ∃ o, (r20 7)[31]? = some o ∧ o.dst = some 77 ∧ o.op = .binOp .eql 22 (.tmp 76) (.const (.int .i64 0)) 22 ∧ o.guard = some (29, true) := ⟨_, rfl, rfl, rfl, rfl⟩
theorem o20_7_32 : ∃ o, (r20 7)[32]? = some o ∧ o.dst = some 78 ∧ o.op = .pick (.tmp 75) (.tmp 77) (.const (.bool false)) ∧ o.guard = none := ⟨_, rfl, rfl, rfl, rfl⟩
theorem o20_7_33 : ∃ o, (r20 7)[33]? = some o ∧ o.dst = some 79 ∧ o.op = .move (.tmp 78) ∧ o.guard = none := ⟨_, rfl, rfl, rfl, rfl⟩
theorem o20_7_34 : ∃ o, (r20 7)[34]? = some o ∧ o.dst = some 80 ∧ o.op = .move (.tmp 8) ∧ o.guard = some (33, true) := ⟨_, rfl, rfl, rfl, rfl⟩
theorem o20_7_35 : ∃ o, (r20 7)[35]? = some o ∧ o.dst = some 81 ∧ o.op = .binOp .eql 3 (.tmp 80) (.const (.int .i64 7)) 3 ∧ o.guard = some (33, true) := ⟨_, rfl, rfl, rfl, rfl⟩
theorem o20_7_36 : ∃ o, (r20 7)[36]? = some o ∧ o.dst = some 82 ∧ o.op = .pick (.tmp 79) (.tmp 81) (.const (.bool false)) ∧ o.guard = none := ⟨_, rfl, rfl, rfl, rfl⟩
theorem o20_7_37 : ∃ o, (r20 7)[37]? = some o ∧ o.dst = some 83 ∧ o.op = .move (.tmp 82) ∧ o.guard = none := ⟨_, rfl, rfl, rfl, rfl⟩
theorem o20_7_38 : ∃ o, (r20 7)[38]? = some o ∧ o.dst = some 84 ∧ o.op = .move (.tmp 11) ∧ o.guard = some (37, true) := ⟨_, rfl, rfl, rfl, rfl⟩
theorem o20_7_39 : ∃ o, (r20 7)[39]? = some o ∧ o.dst = some 85 ∧ o.op = .binOp .eql 22 (.tmp 84) (.const (.int .i64 0)) 22 ∧ o.guard = some (37, true) := ⟨_, rfl, rfl, rfl, rfl⟩
theorem o20_7_40 : ∃ o, (r20 7)[40]? = some o ∧ o.dst = some 86 ∧ o.op = .pick (.tmp 83) (.tmp 85) (.const (.bool false)) ∧ o.guard = none := ⟨_, rfl, rfl, rfl, rfl⟩
theorem o20_7_41 : ∃ o, (r20 7)[41]? = some o ∧ o.dst = some 87 ∧ o.op = .move (.tmp 86) ∧ o.guard = none := ⟨_, rfl, rfl, rfl, rfl⟩
theorem o20_7_42 : ∃ o, (r20 7)[42]? = some o ∧ o.dst = some 88 ∧ o.op = .move (.tmp 10) ∧ o.guard = some (41, true) := ⟨_, rfl, rfl, rfl, rfl⟩
theorem o20_7_43 : ∃ o, (r20 7)[43]? = some o ∧ o.dst = some 89 ∧ o.op = .binOp .eql 3 (.tmp 88) (.const (.int .i64 6)) 3 ∧ o.guard = some (41, true) := ⟨_, rfl, rfl, rfl, rfl⟩
theorem o20_7_44 : ∃ o, (r20 7)[44]? = some o ∧ o.dst = some 90 ∧ o.op = .pick (.tmp 87) (.tmp 89) (.const (.bool false)) ∧ o.guard = none := ⟨_, rfl, rfl, rfl, rfl⟩
theorem o20_7_45 : ∃ o, (r20 7)[45]? = some o ∧ o.dst = some 91 ∧ o.op = .move (.tmp 90) ∧ o.guard = none := ⟨_, rfl, rfl, rfl, rfl⟩
theorem o20_7_46 : ∃ o, (r20 7)[46]? = some o ∧ o.dst = some 92 ∧ o.op = .move (.tmp 14) ∧ o.guard = some (45, true) := ⟨_, rfl, rfl, rfl, rfl⟩
theorem o20_7_47 : ∃ o, (r20 7)[47]? = some o ∧ o.dst = some 93 ∧ o.op = .binOp .eql 22 (.tmp 92) (.const (.int .i64 0)) 22 ∧ o.guard = some (45, true) := ⟨_, rfl, rfl, rfl, rfl⟩
theorem o20_7_48 : ∃ o, (r20 7)[48]? = some o ∧ o.dst = some 94 ∧ o.op = .pick (.tmp 91) (.tmp 93) (.const (.bool false)) ∧ o.guard = none := ⟨_, rfl, rfl, rfl, rfl⟩
theorem o20_7_49 : ∃ o, (r20 7)[49]? = some o ∧ o.dst = some 95 ∧ o.op = .move (.tmp 94) ∧ o.guard = none := ⟨_, rfl, rfl, rfl, rfl⟩
theorem o20_7_50 : ∃ o, (r20 7)[50]? = some o ∧ o.dst = some 96 ∧ o.op = .move (.tmp 13) ∧ o.guard = some (49, true) := ⟨_, rfl, rfl, rfl, rfl⟩
theorem o20_7_51 : ∃ o, (r20 7)[51]? = some o ∧ o.dst = some 97 ∧ o.op = .pick (.tmp 95) (.tmp 96) (.const (.bool false)) ∧ o.guard = none := ⟨_, rfl, rfl, rfl, rfl⟩
theorem o20_7_52 : ∃ o, (r20 7)[52]? = some o ∧ o.dst = some 98 ∧ o.op = .move (.tmp 97) ∧ o.guard = none := ⟨_, rfl, rfl, rfl, rfl⟩
theorem o20_7_53 : ∃ o, (r20 7)[53]? = some o ∧ o.dst = some 99 ∧ o.op = .load 31 (.tmp 12) ∧ o.guard = some (52, true) := ⟨_, rfl, rfl, rfl, rfl⟩
theorem o20_7_54 : ∃ o, (r20 7)[54]? = some o ∧ o.dst = some 100 ∧ o.op = .build 31 #[(0, .const (.int .i64 0)), (1, .const (.int .i64 1)), (2, .const (.int .i64 2)), (3, .const (.int .i64 3))] ∧ o.guard = some (52, true) := ⟨_, rfl, rfl, rfl, rfl⟩
theorem o20_7_55 : ∃ o, (r20 7)[55]? = some o ∧ o.dst = some 101 ∧ o.op = .binOp .eql 31 (.tmp 99) (.tmp 100) 31 ∧ o.guard = some (52, true) := ⟨_, rfl, rfl, rfl, rfl⟩
theorem o20_7_56 : ∃ o, (r20 7)[56]? = some o ∧ o.dst = some 102 ∧ o.op = .pick (.tmp 98) (.tmp 101) (.const (.bool false)) ∧ o.guard = none := ⟨_, rfl, rfl, rfl, rfl⟩
theorem o20_7_57 : ∃ o, (r20 7)[57]? = some o ∧ o.dst = some 0 ∧ o.op = .assign (.tmp 102) ∧ o.guard = none := ⟨_, rfl, rfl, rfl, rfl⟩
end Go.Mt
namespace Go.Mt
open Go.Tr Go.Conc Go.ConcN Go.Proofs
structure Duo (P : Program) (S : FuncId → Bool) (kdOf : FuncId → Kinds) : Prop where
 same : wf P Try.prog.funcs = Try.prog
 calm : CalmS P Try.prog.funcs S S kdOf
def ArgsOk (bl : List Nat) (args : Array Value) : Prop := ∀ v ∈ args, flatP v = true ∨ ∃ b n c, v = .slice (some ⟨b, 0, none⟩) n c ∧ b ∈ bl
def ResT (P : Program) (fn : Func) : Prop := ∀ (tm : Array Value) (u : World) (v : Value), (results fn tm).run P u = .ok v u → ∀ τ, (results fn tm).run P (retape u τ) = .ok v (retape u τ)
theorem relP_self {K : Cfg} {L : List Nat} {v : Value} (h : flatP v = true) (hs : flatB v = true ∨ ∃ cs, v = .agg cs) : RelP K L v v := by
 rcases hs with h | ⟨cs, rfl⟩
 ·exact .cell (.flat h)
 ·refine .agg ⟨rfl, fun i x y h1 h2 => ?_⟩
  rw [h1] at h2
  obtain rfl := Option.some.inj h2
  exact .flat (Array.all_eq_true_iff_forall_mem.1 h _ (Array.mem_iff_getElem?.2 ⟨i, h1⟩))
theorem flatP_cases {v : Value} (h : flatP v = true) : flatB v = true ∨ ∃ cs, v = .agg cs := by
 cases v <;> first | exact .inr ⟨_, rfl⟩ | exact .inl h
section
variable {P : Program} {S : FuncId → Bool} {kdOf : FuncId → Kinds} {Sh : Loc → Prop} {Stop : List Nat → Goroutine → World → Prop} {w : World} {b : Frame} {a : Act} {kk : List Item} {cs : List Frame} {ops : Array Oper} {j : Nat} {rest : List Nat} {o : Oper}
theorem al_call (D : Duo P S kdOf) (hsh : ∀ l b, Sh l → inB b l → b < w.heap.size) (ho : ops[j]? = some o) (hw : Region.wanted o (yielded ops a.tmps) = true) (hk : b.kind ≠ .early) {f : FuncId} {fn : Func} {args : Array Operand} {ats : Array TypeId} (hop : o.op = .call { callee := .value (.func f), args, argTypes := ats })
  (hf : Try.prog.funcs[f]? = some fn) (hnm : (fn.name == "runtime.NumGoroutine") = false) (hb : fn.body.isNone = false) (hS : S f = true) (hres : ResT P fn) {vs : Array Value} (hvs : args.map a.eval = vs) {bl : List Nat} (hbl : ∀ b ∈ bl, (∃ xs, IntBlk w b xs) ∧ ∀ l, inB b l → ¬ Sh l) (ha : ArgsOk bl vs)
  {Post : Value → World → Prop} (hP : ∀ v u τ, Post v u → Post v (retape u τ)) (hc : ∀ u, (∀ b ∈ bl, ∀ xs, IntBlk w b xs → IntBlk u b xs) → u.heap.size = w.heap.size → Calls P f vs u fun e u' => ∃ v, e = .returned v ∧ Post v u')
  (hn : ∀ L v' w', Came w (fun b => b ∈ bl) Post L v' w' → MW Sh Stop (G (b.at (a.put o.dst v') (.inRegion ops rest :: kk)) cs) w') : MW Sh Stop (G (b.at a (.inRegion ops (j :: rest) :: kk)) cs) w := by
 refine mw_callw ho hw hk hop hf hnm hb hvs ?_
 have hfp : P.funcs[f]? = some fn := (D.calm.same f hS).symm.trans hf
 have hsn : Seen w Sh (fun b => b ∈ bl) := ⟨fun b hb => by
  obtain ⟨⟨xs, h1⟩, h2⟩ := hbl b hb
  exact ⟨h1.lt, h2, h1.seen⟩⟩
 refine mw_calm D.same D.calm hsh hfp hS hres hsn (Post := Post) ?_ hP (fun τ => hc _ (fun b hb xs h => h.fz hb τ) (fz_size _ _)) fun L v' w' hcame => ?_
 ·refine ⟨rfl, fun i v v' h1 h2 => ?_⟩
  rw [h1] at h2
  obtain rfl := Option.some.inj h2
  rcases ha v (Array.mem_iff_getElem?.2 ⟨i, h1⟩) with h | ⟨b, n, c, rfl, hb⟩
  ·exact relP_self h (flatP_cases h)
  ·obtain ⟨⟨xs, h1⟩, _⟩ := hbl b hb
   exact .cell (.slice (s := 0) (.inl ⟨rfl, .inl ⟨hb, h1.lt, rfl⟩⟩) rfl rfl)
 ·have := hn L v' w' hcame
  rw [Frame.finish_at, ho]
  exact this
theorem al_flat (D : Duo P S kdOf) (hsh : ∀ l b, Sh l → inB b l → b < w.heap.size) (ho : ops[j]? = some o) (hw : Region.wanted o (yielded ops a.tmps) = true) (hk : b.kind ≠ .early) {f : FuncId} {fn : Func} {args : Array Operand} {ats : Array TypeId} (hop : o.op = .call { callee := .value (.func f), args, argTypes := ats })
  (hf : Try.prog.funcs[f]? = some fn) (hnm : (fn.name == "runtime.NumGoroutine") = false) (hb : fn.body.isNone = false) (hS : S f = true) (hres : ResT P fn) {vs : Array Value} (hvs : args.map a.eval = vs) {bl : List Nat} (hbl : ∀ b ∈ bl, (∃ xs, IntBlk w b xs) ∧ ∀ l, inB b l → ¬ Sh l) (ha : ArgsOk bl vs)
  {r : Value} (hr : flatV r = true) (hc : ∀ u, (∀ b ∈ bl, ∀ xs, IntBlk w b xs → IntBlk u b xs) → Calls P f vs u fun e u' => e = .returned r)
  (hn : ∀ w', Kept w.heap.size w w' → MW Sh Stop (G (b.at (a.put o.dst r) (.inRegion ops rest :: kk)) cs) w') : MW Sh Stop (G (b.at a (.inRegion ops (j :: rest) :: kk)) cs) w := by
 refine al_call D hsh ho hw hk hop hf hnm hb hS hres hvs hbl ha (Post := fun v _ => v = r) (fun _ _ _ h => h) (fun u h1 _ bs => ?_) fun L v' w' hcame => ?_
 ·obtain ⟨e, w', fr, h3, h4⟩ := hc u h1 bs
  exact ⟨e, w', fr, ⟨_, h3, rfl⟩, h4⟩
 ·obtain ⟨v, u, hv, _, rfl⟩ := hcame.val
  obtain rfl := relV_flat hv hr
  exact hn w' hcame.kept
end
theorem intBlk_alloc (w : World) (xs : List Int) : IntBlk (w.alloc (.cells (xs.map (Value.int .i64)).toArray 3 (0, 0))) w.heap.size xs := by
 refine ⟨_, _, by rw [get_alloc, if_pos rfl], fun c hc => ?_, fun i x h => by simp [h]⟩
 simp at hc
 obtain ⟨x, _, rfl⟩ := hc
 rfl
theorem get_alloc_old (w : World) (o : Obj) {b : Nat} (h : b < w.heap.size) : (w.alloc o).heap[b]? = w.heap[b]? := by rw [get_alloc, if_neg (by omega)]
end Go.Mt
namespace Go.Mt
open Go.Tr Go.Conc Go.ConcN Go.Proofs Go.RowKit Go.Conc.Lib Go.ConcR.Gen Go.ConcN.Gen
theorem qa3 : ∀ (w : Go.World), Go.Sem.run Go.Proofs.Try.prog (Go.isAgg 3) w = Go.Result.ok Bool.false w := Try.isAgg3
theorem qu3 : ∀ (w : Go.World), Go.Sem.run Go.Proofs.Try.prog (Go.underlying 3) w = Go.Result.ok (Go.TypeDesc.int Go.IntKind.i64) w := Try.runUnderlying3
theorem qs3 : ∀ (w : Go.World), Go.Sem.run Go.Proofs.Try.prog (Go.sizeOf 3) w = Go.Result.ok 1 w := Try.sizeOf3
theorem qz3 : ∀ (w : Go.World), Go.Sem.run Go.Proofs.Try.prog (Go.zeroValue 3) w = Go.Result.ok (Go.Value.int Go.IntKind.i64 0) w := Try.zeroValue3
theorem qa4 : ∀ (w : Go.World), Go.Sem.run Go.Proofs.Try.prog (Go.isAgg 4) w = Go.Result.ok Bool.false w := Try.isAgg4
theorem qu4 : ∀ (w : Go.World), Go.Sem.run Go.Proofs.Try.prog (Go.underlying 4) w = Go.Result.ok Go.TypeDesc.bool w := Try.runUnderlying4
theorem qs4 : ∀ (w : Go.World), Go.Sem.run Go.Proofs.Try.prog (Go.sizeOf 4) w = Go.Result.ok 1 w := Try.sizeOf4
theorem qz4 : ∀ (w : Go.World), Go.Sem.run Go.Proofs.Try.prog (Go.zeroValue 4) w = Go.Result.ok (Go.Value.bool Bool.false) w := Try.zeroValue4
theorem qa22 : ∀ (w : Go.World), Go.Sem.run Go.Proofs.Try.prog (Go.isAgg 22) w = Go.Result.ok Bool.false w := Try.isAgg22
theorem qu22 : ∀ (w : Go.World), Go.Sem.run Go.Proofs.Try.prog (Go.underlying 22) w = Go.Result.ok (Go.TypeDesc.int Go.IntKind.i64) w := Try.runUnderlying22
theorem qs22 : ∀ (w : Go.World), Go.Sem.run Go.Proofs.Try.prog (Go.sizeOf 22) w = Go.Result.ok 1 w := Try.sizeOf22
theorem qz22 : ∀ (w : Go.World), Go.Sem.run Go.Proofs.Try.prog (Go.zeroValue 22) w = Go.Result.ok (Go.Value.int Go.IntKind.i64 0) w := Try.zeroValue22
theorem qa29 : ∀ (w : Go.World), Go.Sem.run Go.Proofs.Try.prog (Go.isAgg 29) w = Go.Result.ok Bool.false w := Try.isAgg29
theorem qu29 : ∀ (w : Go.World), Go.Sem.run Go.Proofs.Try.prog (Go.underlying 29) w = Go.Result.ok (Go.TypeDesc.slice 3) w := Try.runUnderlying29
theorem qs29 : ∀ (w : Go.World), Go.Sem.run Go.Proofs.Try.prog (Go.sizeOf 29) w = Go.Result.ok 1 w := Try.sizeOf29
theorem qz29 : ∀ (w : Go.World), Go.Sem.run Go.Proofs.Try.prog (Go.zeroValue 29) w = Go.Result.ok (Go.Value.slice Option.none 0 0) w := Try.zeroValue29
theorem qa31 : ∀ (w : Go.World), Go.Sem.run Go.Proofs.Try.prog (Go.isAgg 31) w = Go.Result.ok Bool.true w := Try.isAgg31
theorem qu31 : ∀ (w : Go.World), Go.Sem.run Go.Proofs.Try.prog (Go.underlying 31) w = Go.Result.ok (Go.TypeDesc.array 4 3) w := Try.runUnderlying31
theorem qs31 : ∀ (w : Go.World), Go.Sem.run Go.Proofs.Try.prog (Go.sizeOf 31) w = Go.Result.ok 4 w := Try.sizeOf31
theorem qz31 : ∀ (w : Go.World), Go.Sem.run Go.Proofs.Try.prog (Go.zeroValue 31) w = Go.Result.ok (Go.Value.agg #[Go.Value.int Go.IntKind.i64 0, Go.Value.int Go.IntKind.i64 0, Go.Value.int Go.IntKind.i64 0, Go.Value.int Go.IntKind.i64 0]) w := Try.zeroValue31
structure AlK (P : Program) : Prop where
 c36 : ∀ u b, IntBlk u b [0, 1, 1] → Calls P 36 #[.slice (some ⟨b, 0, none⟩) 3 3] u fun e _ => e = .returned (.tuple #[.int .i64 3, .int .i64 0])
 c25 : ∀ u b, IntBlk u b [0, 0, 1] → Calls P 25 #[.slice (some ⟨b, 0, none⟩) 3 3] u fun e u' => ∃ x, e = .returned (.tuple #[x, .int .i64 0]) ∧ ResI u.heap.size u' x [0, 1, 1]
 c16 : ∀ u, Calls P 16 #[.int .i64 4, .int .i64 2] u fun e _ => e = .returned (.tuple #[.int .i64 7, .int .i64 0])
 c18 : ∀ u, Calls P 18 #[.int .i64 4, .int .i64 2] u fun e _ => e = .returned (.tuple #[.int .i64 6, .int .i64 0])
 c23 : ∀ u b, IntBlk u b [0, 1, 0, 1] → Calls P 23 #[.slice (some ⟨b, 0, none⟩) 4 4] u fun e _ => e = .returned (.tuple #[.agg #[.int .i64 0, .int .i64 1, .int .i64 2, .int .i64 3], .bool true, .int .i64 0])
 c27 : ∀ u b1 b2 c1 c2 xs, IntBlk u b1 xs → IntBlk u b2 xs → xs.length ≤ 4 → Calls P 27 #[.slice (some ⟨b1, 0, none⟩) xs.length c1, .slice (some ⟨b2, 0, none⟩) xs.length c2] u fun e _ => e = .returned (.bool true)
 c49 : ∀ u b b1 b2, IntBlk u b1 [0, 0, 1, 1] → IntBlk u b2 [0, 1, 1, 0] → u.heap[b]? = some (.cells #[.slice (some ⟨b1, 0, none⟩) 4 4, .slice (some ⟨b2, 0, none⟩) 4 4] 29 (0, 2)) → Calls P 49 #[.slice (some ⟨b, 0, none⟩) 2 2] u fun e _ => e = .returned (.int .i64 0)
 c63 : ∀ u b1 b2, IntBlk u b1 [0, 0, 1, 1] → IntBlk u b2 [0, 1, 1, 0] → Calls P 63 #[.slice (some ⟨b1, 0, none⟩) 4 4, .slice (some ⟨b2, 0, none⟩) 4 4] u fun e u' => ∃ v, e = .returned v ∧ ResI u.heap.size u' v [0, 1, 2, 3]
 c65 : ∀ u b1 b2, IntBlk u b1 [0, 0, 1, 1] → IntBlk u b2 [0, 1, 1, 0] → Calls P 65 #[.slice (some ⟨b1, 0, none⟩) 4 4, .slice (some ⟨b2, 0, none⟩) 4 4] u fun e u' => ∃ v, e = .returned v ∧ ResI u.heap.size u' v [0, 0, 0, 0]
noncomputable abbrev b20 : Frame := base 20
theorem resI_retape {N : Nat} {u : World} {v : Value} {xs : List Int} (τ : Nat → Question → Nat) (h : ResI N u v xs) : ResI N (retape u τ) v xs := h
section
variable {P : Program} {S : FuncId → Bool} {kdOf : FuncId → Kinds} {Sh : Loc → Prop} {Stop : List Nat → Goroutine → World → Prop} {w : World} {cs : List Frame}
set_option maxHeartbeats 4000000 in
set_option maxRecDepth 100000 in
theorem alR1 (D : Duo P S kdOf) (A : AlK P) (hS36 : S 36 = true) (hsh : ∀ l b, Sh l → inB b l → b < w.heap.size) (hk : ∀ w' n16, Kept w.heap.size w w' → MW Sh Stop (G (b20.at ⟨#[.bool false, .int .i64 3, .int .i64 0, undef, undef, undef, undef, undef, undef, undef, undef, undef, undef, undef, undef, .tuple #[.int .i64 3, .int .i64 0], .slice (some ⟨n16, 0, none⟩) 3 3, .tuple #[.int .i64 3, .int .i64 0], .int .i64 3, .int .i64 0, undef, undef, undef, undef, undef, undef, undef, undef, undef, undef, undef, undef, undef, undef, undef, undef, undef, undef, undef, undef, undef, undef, undef, undef, undef, undef, undef, undef, undef, undef, undef, undef, undef, undef, undef, undef, undef, undef, undef, undef, undef, undef, undef, undef, undef, undef, undef, undef, undef, undef, undef, undef, undef, undef, undef, undef, undef, undef, undef, undef, undef, undef, undef, undef, undef, undef, undef, undef, undef, undef, undef, undef, undef, undef, undef, undef, undef, undef, undef, undef, undef, undef, undef], []⟩ [.code d2]) cs) w') : MW Sh Stop (G (Frame.enter Try.prog 20 #[] .normal) cs) w := by
 rw [enter_at _ Try.func20 body20, nt20]
 simp only [List.size_toArray, List.length_cons, List.length_nil, Nat.reduceAdd, Nat.reduceSub, Array.replicate_succ, Array.replicate_zero, List.push_toArray, List.append_toArray, List.nil_append, List.cons_append]
 unfold d0
 refine mw_ctl rfl (fun _ => stepG_seq) ?_
 refine mw_ctl rfl (fun _ => stepG_region) ?_
 rw [s20_0]
 simp only [List.range, List.range.loop]
 obtain ⟨o, ho, hd, hop, hg⟩ := o20_0_0
 refine mw_valw ho (wanted_of hg _ _) (by decide) (Nat.le_refl _) (v := .bool false) (fun d => by unfold execOp; simp [hop, Act.eval]) (fun d => by unfold execOp; simp [hop, Act.eval]) ?_
 rw [hd]
 walk_nrm
 clear ho hd hop hg o
 refine mw_ctl rfl (fun _ => stepG_region_end) ?_
 unfold d1
 refine mw_ctl rfl (fun _ => stepG_seq) ?_
 refine mw_ctl rfl (fun _ => stepG_region) ?_
 rw [s20_1]
 simp only [List.range, List.range.loop]
 obtain ⟨o, ho, hd, hop, hg⟩ := o20_1_0
 refine mw_valw (w' := (w).alloc (.cells #[.int .i64 0, .int .i64 1, .int .i64 1] 3 (0, 0))) ho (wanted_of hg _ _) (by decide) (by simp only [alloc_size]; omega) (v := .slice (some ⟨w.heap.size, 0, none⟩) 3 3) (fun d => by unfold execOp; simp [hop, go_sem, qa3, qu3, qs3, qz3, qa4, qu4, qs4, qz4, qa22, qu22, qs22, qz22, qa29, qu29, qs29, qz29, qa31, qu31, qs31, qz31]; first | exact ⟨rfl, rfl⟩ | exact ⟨alloc_size _ _, rfl⟩ | rfl) (fun d => by unfold execOp; simp [hop, go_sem, qa3, qu3, qs3, qz3, qa4, qu4, qs4, qz4, qa22, qu22, qs22, qz22, qa29, qu29, qs29, qz29, qa31, qu31, qs31, qz31]) ?_
 rw [hd]
 walk_nrm
 clear ho hd hop hg o
 obtain ⟨w1, hw1⟩ : ∃ w1, w1 = w.alloc (.cells #[.int .i64 0, .int .i64 1, .int .i64 1] 3 (0, 0)) := ⟨_, rfl⟩
 rw [← hw1]
 have hz1 : w1.heap.size = w.heap.size + 1 := by rw [hw1, alloc_size]
 have hi1 : IntBlk w1 w.heap.size [0, 1, 1] := by rw [hw1]; exact intBlk_alloc w [0, 1, 1]
 have hk1 : Kept w.heap.size w w1 := by rw [hw1]; exact ⟨rfl, rfl, rfl, by rw [alloc_size]; omega, fun b hb => get_alloc_old w _ hb⟩
 obtain ⟨o, ho, hd, hop, hg⟩ := o20_1_1
 refine al_flat D (sh_mono hsh hk1.size) ho (wanted_of hg _ _) (by decide) hop Try.func36 (by kernel_rfl) (by kernel_rfl) hS36 (res_tmp (by kernel_rfl)) (vs := #[.slice (some ⟨w.heap.size, 0, none⟩) 3 3]) (by simp [Act.eval]) (bl := [w.heap.size]) (by simp only [List.mem_singleton]; rintro b rfl; exact ⟨⟨_, hi1⟩, sh0 (k := 0) hsh⟩) (by intro v hv; simp at hv; subst hv; exact .inr ⟨_, _, _, rfl, by simp⟩) (r := .tuple #[.int .i64 3, .int .i64 0]) (by simp [flatV, flatP, flatB]) (fun u hu => A.c36 u _ (hu _ (by simp) _ hi1)) fun w2 hk2 => ?_
 rw [hd]
 walk_nrm
 clear ho hd hop hg o
 obtain ⟨o, ho, hd, hop, hg⟩ := o20_1_2
 refine mw_valw ho (wanted_of hg _ _) (by decide) (Nat.le_refl _) (v := .tuple #[.int .i64 3, .int .i64 0]) (fun d => by unfold execOp; simp [hop, Act.eval]) (fun d => by unfold execOp; simp [hop, Act.eval]) ?_
 rw [hd]
 walk_nrm
 clear ho hd hop hg o
 obtain ⟨o, ho, hd, hop, hg⟩ := o20_1_3
 refine mw_valw ho (wanted_of hg _ _) (by decide) (Nat.le_refl _) (v := .int .i64 3) (fun d => by unfold execOp; simp [hop, go_sem, qa3, qu3, qs3, qz3, qa4, qu4, qs4, qz4, qa22, qu22, qs22, qz22, qa29, qu29, qs29, qz29, qa31, qu31, qs31, qz31]) (fun d => by unfold execOp; simp [hop, go_sem, qa3, qu3, qs3, qz3, qa4, qu4, qs4, qz4, qa22, qu22, qs22, qz22, qa29, qu29, qs29, qz29, qa31, qu31, qs31, qz31]) ?_
 rw [hd]
 walk_nrm
 clear ho hd hop hg o
 obtain ⟨o, ho, hd, hop, hg⟩ := o20_1_4
 refine mw_valw ho (wanted_of hg _ _) (by decide) (Nat.le_refl _) (v := .int .i64 0) (fun d => by unfold execOp; simp [hop, go_sem, qa3, qu3, qs3, qz3, qa4, qu4, qs4, qz4, qa22, qu22, qs22, qz22, qa29, qu29, qs29, qz29, qa31, qu31, qs31, qz31]) (fun d => by unfold execOp; simp [hop, go_sem, qa3, qu3, qs3, qz3, qa4, qu4, qs4, qz4, qa22, qu22, qs22, qz22, qa29, qu29, qs29, qz29, qa31, qu31, qs31, qz31]) ?_
 rw [hd]
 walk_nrm
 clear ho hd hop hg o
 obtain ⟨o, ho, hd, hop, hg⟩ := o20_1_5
 refine mw_valw ho (wanted_of hg _ _) (by decide) (Nat.le_refl _) (v := .int .i64 3) (fun d => by unfold execOp; simp [hop, Act.eval]) (fun d => by unfold execOp; simp [hop, Act.eval]) ?_
 rw [hd]
 walk_nrm
 clear ho hd hop hg o
 obtain ⟨o, ho, hd, hop, hg⟩ := o20_1_6
 refine mw_valw ho (wanted_of hg _ _) (by decide) (Nat.le_refl _) (v := .int .i64 0) (fun d => by unfold execOp; simp [hop, Act.eval]) (fun d => by unfold execOp; simp [hop, Act.eval]) ?_
 rw [hd]
 walk_nrm
 clear ho hd hop hg o
 refine mw_ctl rfl (fun _ => stepG_region_end) ?_
 have hk02 : Kept w.heap.size w w2 := hk1.trans ⟨hk2.os, hk2.output, hk2.tape, hk2.size, fun b hb => hk2.old b (by omega)⟩
 exact hk w2 w.heap.size hk02
set_option maxHeartbeats 4000000 in
set_option maxRecDepth 100000 in
theorem alR2 (D : Duo P S kdOf) (A : AlK P) (hS25 : S 25 = true) (hsh : ∀ l b, Sh l → inB b l → b < w.heap.size) (hnew : ∀ b, w.heap.size ≤ b → ∀ l, inB b l → ¬ Sh l) (n16 : Nat) (hk : ∀ w' n21 bb cb, Kept w.heap.size w w' → w.heap.size ≤ bb → IntBlk w' bb [0, 1, 1] → MW Sh Stop (G (b20.at ⟨#[.bool false, .int .i64 3, .int .i64 0, .slice (some ⟨bb, 0, none⟩) 3 cb, .int .i64 0, undef, undef, undef, undef, undef, undef, undef, undef, undef, undef, .tuple #[.int .i64 3, .int .i64 0], .slice (some ⟨n16, 0, none⟩) 3 3, .tuple #[.int .i64 3, .int .i64 0], .int .i64 3, .int .i64 0, .tuple #[.slice (some ⟨bb, 0, none⟩) 3 cb, .int .i64 0], .slice (some ⟨n21, 0, none⟩) 3 3, .tuple #[.slice (some ⟨bb, 0, none⟩) 3 cb, .int .i64 0], .slice (some ⟨bb, 0, none⟩) 3 cb, .int .i64 0, undef, undef, undef, undef, undef, undef, undef, undef, undef, undef, undef, undef, undef, undef, undef, undef, undef, undef, undef, undef, undef, undef, undef, undef, undef, undef, undef, undef, undef, undef, undef, undef, undef, undef, undef, undef, undef, undef, undef, undef, undef, undef, undef, undef, undef, undef, undef, undef, undef, undef, undef, undef, undef, undef, undef, undef, undef, undef, undef, undef, undef, undef, undef, undef, undef, undef, undef, undef, undef, undef, undef, undef, undef, undef, undef, undef, undef, undef], []⟩ [.code d3]) cs) w') : MW Sh Stop (G (b20.at ⟨#[.bool false, .int .i64 3, .int .i64 0, undef, undef, undef, undef, undef, undef, undef, undef, undef, undef, undef, undef, .tuple #[.int .i64 3, .int .i64 0], .slice (some ⟨n16, 0, none⟩) 3 3, .tuple #[.int .i64 3, .int .i64 0], .int .i64 3, .int .i64 0, undef, undef, undef, undef, undef, undef, undef, undef, undef, undef, undef, undef, undef, undef, undef, undef, undef, undef, undef, undef, undef, undef, undef, undef, undef, undef, undef, undef, undef, undef, undef, undef, undef, undef, undef, undef, undef, undef, undef, undef, undef, undef, undef, undef, undef, undef, undef, undef, undef, undef, undef, undef, undef, undef, undef, undef, undef, undef, undef, undef, undef, undef, undef, undef, undef, undef, undef, undef, undef, undef, undef, undef, undef, undef, undef, undef, undef, undef, undef, undef, undef, undef, undef], []⟩ [.code d2]) cs) w := by
 unfold d2
 refine mw_ctl rfl (fun _ => stepG_seq) ?_
 refine mw_ctl rfl (fun _ => stepG_region) ?_
 rw [s20_2]
 simp only [List.range, List.range.loop]
 obtain ⟨o, ho, hd, hop, hg⟩ := o20_2_0
 refine mw_valw (w' := (w).alloc (.cells #[.int .i64 0, .int .i64 0, .int .i64 1] 3 (0, 0))) ho (wanted_of hg _ _) (by decide) (by simp only [alloc_size]; omega) (v := .slice (some ⟨w.heap.size, 0, none⟩) 3 3) (fun d => by unfold execOp; simp [hop, go_sem, qa3, qu3, qs3, qz3, qa4, qu4, qs4, qz4, qa22, qu22, qs22, qz22, qa29, qu29, qs29, qz29, qa31, qu31, qs31, qz31]; first | exact ⟨rfl, rfl⟩ | exact ⟨alloc_size _ _, rfl⟩ | rfl) (fun d => by unfold execOp; simp [hop, go_sem, qa3, qu3, qs3, qz3, qa4, qu4, qs4, qz4, qa22, qu22, qs22, qz22, qa29, qu29, qs29, qz29, qa31, qu31, qs31, qz31]) ?_
 rw [hd]
 walk_nrm
 clear ho hd hop hg o
 obtain ⟨w1, hw1⟩ : ∃ w1, w1 = w.alloc (.cells #[.int .i64 0, .int .i64 0, .int .i64 1] 3 (0, 0)) := ⟨_, rfl⟩
 rw [← hw1]
 have hz1 : w1.heap.size = w.heap.size + 1 := by rw [hw1, alloc_size]
 have hi1 : IntBlk w1 w.heap.size [0, 0, 1] := by rw [hw1]; exact intBlk_alloc w [0, 0, 1]
 have hk1 : Kept w.heap.size w w1 := by rw [hw1]; exact ⟨rfl, rfl, rfl, by rw [alloc_size]; omega, fun b hb => get_alloc_old w _ hb⟩
 obtain ⟨o, ho, hd, hop, hg⟩ := o20_2_1
 refine al_call D (sh_mono hsh hk1.size) ho (wanted_of hg _ _) (by decide) hop Try.func25 (by kernel_rfl) (by kernel_rfl) hS25 (res_tmp (by kernel_rfl)) (vs := #[.slice (some ⟨w.heap.size, 0, none⟩) 3 3]) (by simp [Act.eval]) (bl := [w.heap.size]) (by simp only [List.mem_singleton]; rintro b rfl; exact ⟨⟨_, hi1⟩, hnew _ (Nat.le_refl _)⟩) (by intro v hv; simp at hv; subst hv; exact .inr ⟨_, _, _, rfl, by simp⟩) (Post := fun v u => ∃ x, v = .tuple #[x, .int .i64 0] ∧ ResI w1.heap.size u x [0, 1, 1]) (fun v u τ ⟨x, h1, h2⟩ => ⟨x, h1, resI_retape τ h2⟩) (fun u hu hz bs => ?_) fun L v' w2 hcame => ?_
 ·obtain ⟨e, w', fr, ⟨x, h3, h4⟩, h5⟩ := A.c25 u _ (hu _ (by simp) _ hi1) bs
  exact ⟨e, w', fr, ⟨_, h3, x, rfl, by rw [← hz]; exact h4⟩, h5⟩
 obtain ⟨v, u, hv, hW, x, rfl, hx⟩ := hcame.val
 obtain ⟨x', y', rfl, hx1, hy1⟩ := relV_pair hv
 obtain rfl := relP_flat hy1 rfl
 obtain ⟨bb, cb, rfl, hbL, hbN, hib⟩ := resI_rel rfl hW hx1 hx
 replace hbN : w1.heap.size ≤ bb := hbN
 have hk2 := hcame.kept
 simp only [List.length_cons, List.length_nil, Nat.reduceAdd]
 rw [hd]
 walk_nrm
 clear ho hd hop hg o
 obtain ⟨o, ho, hd, hop, hg⟩ := o20_2_2
 refine mw_valw ho (wanted_of hg _ _) (by decide) (Nat.le_refl _) (v := .tuple #[.slice (some ⟨bb, 0, none⟩) 3 cb, .int .i64 0]) (fun d => by unfold execOp; simp [hop, Act.eval]) (fun d => by unfold execOp; simp [hop, Act.eval]) ?_
 rw [hd]
 walk_nrm
 clear ho hd hop hg o
 obtain ⟨o, ho, hd, hop, hg⟩ := o20_2_3
 refine mw_valw ho (wanted_of hg _ _) (by decide) (Nat.le_refl _) (v := .slice (some ⟨bb, 0, none⟩) 3 cb) (fun d => by unfold execOp; simp [hop, go_sem, qa3, qu3, qs3, qz3, qa4, qu4, qs4, qz4, qa22, qu22, qs22, qz22, qa29, qu29, qs29, qz29, qa31, qu31, qs31, qz31]) (fun d => by unfold execOp; simp [hop, go_sem, qa3, qu3, qs3, qz3, qa4, qu4, qs4, qz4, qa22, qu22, qs22, qz22, qa29, qu29, qs29, qz29, qa31, qu31, qs31, qz31]) ?_
 rw [hd]
 walk_nrm
 clear ho hd hop hg o
 obtain ⟨o, ho, hd, hop, hg⟩ := o20_2_4
 refine mw_valw ho (wanted_of hg _ _) (by decide) (Nat.le_refl _) (v := .int .i64 0) (fun d => by unfold execOp; simp [hop, go_sem, qa3, qu3, qs3, qz3, qa4, qu4, qs4, qz4, qa22, qu22, qs22, qz22, qa29, qu29, qs29, qz29, qa31, qu31, qs31, qz31]) (fun d => by unfold execOp; simp [hop, go_sem, qa3, qu3, qs3, qz3, qa4, qu4, qs4, qz4, qa22, qu22, qs22, qz22, qa29, qu29, qs29, qz29, qa31, qu31, qs31, qz31]) ?_
 rw [hd]
 walk_nrm
 clear ho hd hop hg o
 obtain ⟨o, ho, hd, hop, hg⟩ := o20_2_5
 refine mw_valw ho (wanted_of hg _ _) (by decide) (Nat.le_refl _) (v := .slice (some ⟨bb, 0, none⟩) 3 cb) (fun d => by unfold execOp; simp [hop, Act.eval]) (fun d => by unfold execOp; simp [hop, Act.eval]) ?_
 rw [hd]
 walk_nrm
 clear ho hd hop hg o
 obtain ⟨o, ho, hd, hop, hg⟩ := o20_2_6
 refine mw_valw ho (wanted_of hg _ _) (by decide) (Nat.le_refl _) (v := .int .i64 0) (fun d => by unfold execOp; simp [hop, Act.eval]) (fun d => by unfold execOp; simp [hop, Act.eval]) ?_
 rw [hd]
 walk_nrm
 clear ho hd hop hg o
 refine mw_ctl rfl (fun _ => stepG_region_end) ?_
 have hk02 : Kept w.heap.size w w2 := hk1.trans ⟨hk2.os, hk2.output, hk2.tape, hk2.size, fun b hb => hk2.old b (by omega)⟩
 exact hk w2 w.heap.size bb cb hk02 (by omega) hib
set_option maxHeartbeats 4000000 in
set_option maxRecDepth 100000 in
theorem alR3 (n16 n21 bb cb : Nat) (hk : ∀ w' a1, Kept w.heap.size w w' → a1 = w.heap.size → a1 + 2 = w'.heap.size → IntBlk w' a1 [0, 0, 1, 1] → IntBlk w' (a1 + 1) [0, 1, 1, 0] → MW Sh Stop (G (Frame.enter Try.prog 34 #[.slice (some ⟨a1, 0, none⟩) 4 4, .slice (some ⟨a1 + 1, 0, none⟩) 4 4] .normal) (b20.at ⟨#[.bool false, .int .i64 3, .int .i64 0, .slice (some ⟨bb, 0, none⟩) 3 cb, .int .i64 0, undef, undef, undef, undef, undef, undef, undef, undef, undef, undef, .tuple #[.int .i64 3, .int .i64 0], .slice (some ⟨n16, 0, none⟩) 3 3, .tuple #[.int .i64 3, .int .i64 0], .int .i64 3, .int .i64 0, .tuple #[.slice (some ⟨bb, 0, none⟩) 3 cb, .int .i64 0], .slice (some ⟨n21, 0, none⟩) 3 3, .tuple #[.slice (some ⟨bb, 0, none⟩) 3 cb, .int .i64 0], .slice (some ⟨bb, 0, none⟩) 3 cb, .int .i64 0, undef, .slice (some ⟨a1, 0, none⟩) 4 4, .slice (some ⟨a1 + 1, 0, none⟩) 4 4, undef, undef, undef, undef, undef, undef, undef, undef, undef, undef, undef, undef, undef, undef, undef, undef, undef, undef, undef, undef, undef, undef, undef, undef, undef, undef, undef, undef, undef, undef, undef, undef, undef, undef, undef, undef, undef, undef, undef, undef, undef, undef, undef, undef, undef, undef, undef, undef, undef, undef, undef, undef, undef, undef, undef, undef, undef, undef, undef, undef, undef, undef, undef, undef, undef, undef, undef, undef, undef, undef, undef, undef, undef, undef, undef], []⟩ [.inRegion (r20 3) [2, 3, 4, 5, 6, 7, 8, 9], .code d4] :: cs)) w') : MW Sh Stop (G (b20.at ⟨#[.bool false, .int .i64 3, .int .i64 0, .slice (some ⟨bb, 0, none⟩) 3 cb, .int .i64 0, undef, undef, undef, undef, undef, undef, undef, undef, undef, undef, .tuple #[.int .i64 3, .int .i64 0], .slice (some ⟨n16, 0, none⟩) 3 3, .tuple #[.int .i64 3, .int .i64 0], .int .i64 3, .int .i64 0, .tuple #[.slice (some ⟨bb, 0, none⟩) 3 cb, .int .i64 0], .slice (some ⟨n21, 0, none⟩) 3 3, .tuple #[.slice (some ⟨bb, 0, none⟩) 3 cb, .int .i64 0], .slice (some ⟨bb, 0, none⟩) 3 cb, .int .i64 0, undef, undef, undef, undef, undef, undef, undef, undef, undef, undef, undef, undef, undef, undef, undef, undef, undef, undef, undef, undef, undef, undef, undef, undef, undef, undef, undef, undef, undef, undef, undef, undef, undef, undef, undef, undef, undef, undef, undef, undef, undef, undef, undef, undef, undef, undef, undef, undef, undef, undef, undef, undef, undef, undef, undef, undef, undef, undef, undef, undef, undef, undef, undef, undef, undef, undef, undef, undef, undef, undef, undef, undef, undef, undef, undef, undef, undef, undef], []⟩ [.code d3]) cs) w := by
 unfold d3
 refine mw_ctl rfl (fun _ => stepG_seq) ?_
 refine mw_ctl rfl (fun _ => stepG_region) ?_
 rw [s20_3]
 simp only [List.range, List.range.loop]
 obtain ⟨o, ho, hd, hop, hg⟩ := o20_3_0
 refine mw_valw (w' := (w).alloc (.cells #[.int .i64 0, .int .i64 0, .int .i64 1, .int .i64 1] 3 (0, 0))) ho (wanted_of hg _ _) (by decide) (by simp only [alloc_size]; omega) (v := .slice (some ⟨w.heap.size, 0, none⟩) 4 4) (fun d => by unfold execOp; simp [hop, go_sem, qa3, qu3, qs3, qz3, qa4, qu4, qs4, qz4, qa22, qu22, qs22, qz22, qa29, qu29, qs29, qz29, qa31, qu31, qs31, qz31]; first | exact ⟨rfl, rfl⟩ | exact ⟨alloc_size _ _, rfl⟩ | rfl) (fun d => by unfold execOp; simp [hop, go_sem, qa3, qu3, qs3, qz3, qa4, qu4, qs4, qz4, qa22, qu22, qs22, qz22, qa29, qu29, qs29, qz29, qa31, qu31, qs31, qz31]) ?_
 rw [hd]
 walk_nrm
 clear ho hd hop hg o
 obtain ⟨o, ho, hd, hop, hg⟩ := o20_3_1
 refine mw_valw (w' := (w.alloc (.cells #[.int .i64 0, .int .i64 0, .int .i64 1, .int .i64 1] 3 (0, 0))).alloc (.cells #[.int .i64 0, .int .i64 1, .int .i64 1, .int .i64 0] 3 (0, 0))) ho (wanted_of hg _ _) (by decide) (by simp only [alloc_size]; omega) (v := .slice (some ⟨w.heap.size + 1, 0, none⟩) 4 4) (fun d => by unfold execOp; simp [hop, go_sem, qa3, qu3, qs3, qz3, qa4, qu4, qs4, qz4, qa22, qu22, qs22, qz22, qa29, qu29, qs29, qz29, qa31, qu31, qs31, qz31]; first | exact ⟨rfl, rfl⟩ | exact ⟨alloc_size _ _, rfl⟩ | rfl) (fun d => by unfold execOp; simp [hop, go_sem, qa3, qu3, qs3, qz3, qa4, qu4, qs4, qz4, qa22, qu22, qs22, qz22, qa29, qu29, qs29, qz29, qa31, qu31, qs31, qz31]) ?_
 rw [hd]
 walk_nrm
 clear ho hd hop hg o
 obtain ⟨o, ho, hd, hop, hg⟩ := o20_3_2
 refine mw_callw ho (wanted_of hg _ _) (by decide) hop Try.func34 (by kernel_rfl) (by kernel_rfl) (vs := #[.slice (some ⟨w.heap.size, 0, none⟩) 4 4, .slice (some ⟨w.heap.size + 1, 0, none⟩) 4 4]) (by simp [Act.eval]) ?_
 have hz : ((w.alloc (.cells #[.int .i64 0, .int .i64 0, .int .i64 1, .int .i64 1] 3 (0, 0))).alloc (.cells #[.int .i64 0, .int .i64 1, .int .i64 1, .int .i64 0] 3 (0, 0))).heap.size = w.heap.size + 2 := by rw [alloc_size, alloc_size]
 refine hk _ w.heap.size ⟨rfl, rfl, rfl, by omega, fun b hb => by rw [get_alloc_old _ _ (by rw [alloc_size]; omega), get_alloc_old _ _ hb]⟩ rfl hz.symm ((intBlk_alloc w [0, 0, 1, 1]).of_get (get_alloc_old _ _ (by rw [alloc_size]; omega))) ?_
 have := intBlk_alloc (w.alloc (.cells #[.int .i64 0, .int .i64 0, .int .i64 1, .int .i64 1] 3 (0, 0))) [0, 1, 1, 0]
 rw [alloc_size] at this
 exact this
end
end Go.Mt
namespace Go.Mt
open Go.Tr Go.Conc Go.ConcN Go.Proofs Go.RowKit Go.Conc.Lib Go.ConcR.Gen Go.ConcN.Gen
theorem cell_at {w : World} {b i : Nat} {arr : Array Value} {e : TypeId} {v : Value} (h : w.heap[b]? = some (.cells arr e (0, 0))) (hv : arr[i]? = some v) : w.cell? ⟨b, i, none⟩ = some v ∧ w.frozen? ⟨b, i, none⟩ = false := by
 simp [World.cell?, World.frozen?, h, hv]
theorem set_at {w : World} {b i : Nat} {arr : Array Value} {e : TypeId} {v : Value} (h : w.heap[b]? = some (.cells arr e (0, 0))) : (w.setCell ⟨b, i, none⟩ v).heap[b]? = some (.cells (arr.setIfInBounds i v) e (0, 0)) := by
 rw [setCell_eq_setRow _ b i arr _ (0, 0) _ h, setRow_heap _ _ _ _ _ _ h]
def set4 (w : World) (b : Nat) (x0 x1 x2 x3 : Value) : World := (((w.setCell ⟨b, 0, none⟩ x0).setCell ⟨b, 1, none⟩ x1).setCell ⟨b, 2, none⟩ x2).setCell ⟨b, 3, none⟩ x3
theorem set4_size (w : World) (b : Nat) (x0 x1 x2 x3 : Value) : (set4 w b x0 x1 x2 x3).heap.size = w.heap.size := by
 simp only [set4, (aside_setCell _ _ _).size]
theorem set4_get (w : World) (b : Nat) (x0 x1 x2 x3 : Value) {c : Nat} (h : c ≠ b) : (set4 w b x0 x1 x2 x3).heap[c]? = w.heap[c]? := by
 unfold set4
 rw [(aside_setCell _ ⟨b, 3, none⟩ _).block c h, (aside_setCell _ ⟨b, 2, none⟩ _).block c h, (aside_setCell _ ⟨b, 1, none⟩ _).block c h, (aside_setCell _ ⟨b, 0, none⟩ _).block c h]
theorem set4_at (w : World) (b : Nat) (x0 x1 x2 x3 : Value) {y0 y1 y2 y3 : Value} {e : TypeId} (h : w.heap[b]? = some (.cells #[y0, y1, y2, y3] e (0, 0))) : (set4 w b x0 x1 x2 x3).heap[b]? = some (.cells #[x0, x1, x2, x3] e (0, 0)) := by
 unfold set4
 exact (set_at (set_at (set_at (set_at h)))).trans (by simp)
section
variable {Sh : Loc → Prop} {Stop : List Nat → Goroutine → World → Prop} {b : Frame} {a : Act} {kk : List Item} {cs : List Frame} {w w' : World} {ops : Array Oper} {j : Nat} {rest : List Nat} {o : Oper} {x y : Operand} {v : Value}
theorem mw_alloc31 (ho : ops[j]? = some o) (hg : o.guard = none) (hk : b.kind ≠ .early) (hop : o.op = .alloc 31)
  (hn : MW Sh Stop (G (b.at (a.put o.dst (ptr w.heap.size)) (.inRegion ops rest :: kk)) cs) (w.alloc (.cells #[.int .i64 0, .int .i64 0, .int .i64 0, .int .i64 0] 31 (0, 0)))) : MW Sh Stop (G (b.at a (.inRegion ops (j :: rest) :: kk)) cs) w := by
 refine mw_val ho hg hk (by rw [alloc_size]; omega) (fun d => ?_) (fun d => ?_) hn
 ·unfold execOp
  simp only [hop]
  simp [go_sem, Try.isAgg31, Try.runUnderlying31, Try.sizeOf31, Try.zeroValue31]
  exact ⟨rfl, rfl⟩
 ·unfold execOp
  simp only [hop]
  simp [go_sem, Try.isAgg31, Try.runUnderlying31, Try.sizeOf31, Try.zeroValue31]
theorem mem_four {P : Program} {fn : FuncId} {e x0 x1 x2 x3 : Event} (h : e ∈ seen P fn #[x0, x1, x2, x3]) : e = x0 ∨ e = x1 ∨ e = x2 ∨ e = x3 := by
 have := seen_mem (by simpa using h)
 simpa using this
theorem mw_st31 (ho : ops[j]? = some o) (hg : o.guard = none) (hk : b.kind ≠ .early) (hop : o.op = .store 31 x y) {bl : Nat} {x0 x1 x2 x3 : Int} {y0 y1 y2 y3 : Value} (hx : a.eval x = ptr bl) (hy : a.eval y = .agg #[.int .i64 x0, .int .i64 x1, .int .i64 x2, .int .i64 x3]) (hs : ∀ l, inB bl l → ¬ Sh l) (hB : bl < w.heap.size)
  (hc : w.heap[bl]? = some (.cells #[y0, y1, y2, y3] 31 (0, 0)))
  (hn : MW Sh Stop (G (b.at (a.put o.dst undef) (.inRegion ops rest :: kk)) cs) (set4 w bl (.int .i64 x0) (.int .i64 x1) (.int .i64 x2) (.int .i64 x3))) : MW Sh Stop (G (b.at a (.inRegion ops (j :: rest) :: kk)) cs) w := by
 refine mw_step rfl (by rw [set4_size]; exact Nat.le_refl _) (fun d => ?_) hn
 have h0 : (w.at d).heap[bl]? = some (.cells #[y0, y1, y2, y3] 31 (0, 0)) := hc
 have h1 := set_at (i := 0) (v := .int .i64 x0) h0
 have h2 := set_at (i := 1) (v := .int .i64 x1) h1
 have h3 := set_at (i := 2) (v := .int .i64 x2) h2
 have c0 := cell_at (i := 0) (v := y0) h0 rfl
 have c1 := cell_at (i := 1) (v := y1) h1 (by simp)
 have c2 := cell_at (i := 2) (v := y2) h2 (by simp)
 have c3 := cell_at (i := 3) (v := y3) h3 (by simp)
 have hr : (execOp a.eval o).run Try.prog (w.at d) = .ok .skip ((set4 w bl (.int .i64 x0) (.int .i64 x1) (.int .i64 x2) (.int .i64 x3)).at d) := by
  unfold execOp
  simp only [hop, hx, hy]
  simp [go_sem, ptr, c0.1, c0.2, c1.1, c1.2, c2.1, c2.2, c3.1, c3.2, Try.isAgg31, Try.runUnderlying31, Try.sizeOf31]
  rfl
 have he' : (execOp a.eval o).events Try.prog (w.at d) #[] = #[⟨.cell ⟨bl, 0, none⟩, true, false⟩, ⟨.cell ⟨bl, 1, none⟩, true, false⟩, ⟨.cell ⟨bl, 2, none⟩, true, false⟩, ⟨.cell ⟨bl, 3, none⟩, true, false⟩] := by
  unfold execOp
  simp only [hop, hx, hy]
  simp [go_sem, ptr, storedEv, c0.1, c0.2, c1.1, c1.2, c2.1, c2.2, c3.1, c3.2, Try.isAgg31, Try.runUnderlying31, Try.sizeOf31]
 refine ⟨_, d, stepG_none ho (wanted_of hg _ _) hk hr, fun e hm => ?_⟩
 unfold listed at hm
 rw [he'] at hm
 rcases mem_four hm with rfl | rfl | rfl | rfl <;> exact evq_cell hs (by rw [set4_size]; exact hB)
theorem mw_ld31 (ho : ops[j]? = some o) (hw : Region.wanted o (yielded ops a.tmps) = true) (hk : b.kind ≠ .early) (hop : o.op = .load 31 x) {bl : Nat} {y0 y1 y2 y3 : Value} (hx : a.eval x = ptr bl) (hs : ∀ l, inB bl l → ¬ Sh l) (hB : bl < w.heap.size)
  (hc : w.heap[bl]? = some (.cells #[y0, y1, y2, y3] 31 (0, 0)))
  (hn : MW Sh Stop (G (b.at (a.put o.dst (.agg #[y0, y1, y2, y3])) (.inRegion ops rest :: kk)) cs) w) : MW Sh Stop (G (b.at a (.inRegion ops (j :: rest) :: kk)) cs) w := by
 refine mw_step rfl (Nat.le_refl _) (fun d => ?_) hn
 have h0 : (w.at d).heap[bl]? = some (.cells #[y0, y1, y2, y3] 31 (0, 0)) := hc
 have c0 := cell_at (i := 0) (v := y0) h0 rfl
 have c1 := cell_at (i := 1) (v := y1) h0 rfl
 have c2 := cell_at (i := 2) (v := y2) h0 rfl
 have c3 := cell_at (i := 3) (v := y3) h0 rfl
 have hr : (execOp a.eval o).run Try.prog (w.at d) = .ok (.value (.agg #[y0, y1, y2, y3])) (w.at d) := by
  unfold execOp
  simp only [hop, hx]
  simp [go_sem, ptr, c0.1, c1.1, c2.1, c3.1, Try.isAgg31, Try.runUnderlying31, Try.sizeOf31]
 have he' : (execOp a.eval o).events Try.prog (w.at d) #[] = #[⟨.cell ⟨bl, 0, none⟩, false, false⟩, ⟨.cell ⟨bl, 1, none⟩, false, false⟩, ⟨.cell ⟨bl, 2, none⟩, false, false⟩, ⟨.cell ⟨bl, 3, none⟩, false, false⟩] := by
  unfold execOp
  simp only [hop, hx]
  simp [go_sem, ptr, c0.1, c1.1, c2.1, c3.1, Try.isAgg31, Try.runUnderlying31, Try.sizeOf31]
 refine ⟨_, d, stepG_value ho hw hk hr, fun e hm => ?_⟩
 unfold listed at hm
 rw [he'] at hm
 rcases mem_four hm with rfl | rfl | rfl | rfl <;> exact evq_cell hs hB
end
end Go.Mt
namespace Go.Mt
open Go.Tr Go.Conc Go.ConcN Go.Proofs Go.RowKit Go.Conc.Lib Go.ConcR.Gen Go.ConcN.Gen
section
variable {P : Program} {S : FuncId → Bool} {kdOf : FuncId → Kinds} {Sh : Loc → Prop} {Stop : List Nat → Goroutine → World → Prop} {w : World} {cs : List Frame}
set_option maxHeartbeats 8000000 in
set_option maxRecDepth 100000 in
theorem alS3 (n16 n21 bb cb a1 b0 c0 b1 c1 : Nat) (hk : MW Sh Stop (G (b20.at ⟨#[.bool false, .int .i64 3, .int .i64 0, .slice (some ⟨bb, 0, none⟩) 3 cb, .int .i64 0, .slice (some ⟨b0, 0, none⟩) 4 c0, .slice (some ⟨b1, 0, none⟩) 4 c1, .int .i64 0, undef, undef, undef, undef, undef, undef, undef, .tuple #[.int .i64 3, .int .i64 0], .slice (some ⟨n16, 0, none⟩) 3 3, .tuple #[.int .i64 3, .int .i64 0], .int .i64 3, .int .i64 0, .tuple #[.slice (some ⟨bb, 0, none⟩) 3 cb, .int .i64 0], .slice (some ⟨n21, 0, none⟩) 3 3, .tuple #[.slice (some ⟨bb, 0, none⟩) 3 cb, .int .i64 0], .slice (some ⟨bb, 0, none⟩) 3 cb, .int .i64 0, .tuple #[.slice (some ⟨b0, 0, none⟩) 4 c0, .slice (some ⟨b1, 0, none⟩) 4 c1, .int .i64 0], .slice (some ⟨a1, 0, none⟩) 4 4, .slice (some ⟨a1 + 1, 0, none⟩) 4 4, .tuple #[.slice (some ⟨b0, 0, none⟩) 4 c0, .slice (some ⟨b1, 0, none⟩) 4 c1, .int .i64 0], .slice (some ⟨b0, 0, none⟩) 4 c0, .slice (some ⟨b1, 0, none⟩) 4 c1, .int .i64 0, undef, undef, undef, undef, undef, undef, undef, undef, undef, undef, undef, undef, undef, undef, undef, undef, undef, undef, undef, undef, undef, undef, undef, undef, undef, undef, undef, undef, undef, undef, undef, undef, undef, undef, undef, undef, undef, undef, undef, undef, undef, undef, undef, undef, undef, undef, undef, undef, undef, undef, undef, undef, undef, undef, undef, undef, undef, undef, undef, undef, undef, undef, undef, undef, undef, undef, undef, undef, undef, undef, undef], []⟩ [.code d4]) cs) w) : MW Sh Stop (G ((b20.at ⟨#[.bool false, .int .i64 3, .int .i64 0, .slice (some ⟨bb, 0, none⟩) 3 cb, .int .i64 0, undef, undef, undef, undef, undef, undef, undef, undef, undef, undef, .tuple #[.int .i64 3, .int .i64 0], .slice (some ⟨n16, 0, none⟩) 3 3, .tuple #[.int .i64 3, .int .i64 0], .int .i64 3, .int .i64 0, .tuple #[.slice (some ⟨bb, 0, none⟩) 3 cb, .int .i64 0], .slice (some ⟨n21, 0, none⟩) 3 3, .tuple #[.slice (some ⟨bb, 0, none⟩) 3 cb, .int .i64 0], .slice (some ⟨bb, 0, none⟩) 3 cb, .int .i64 0, undef, .slice (some ⟨a1, 0, none⟩) 4 4, .slice (some ⟨a1 + 1, 0, none⟩) 4 4, undef, undef, undef, undef, undef, undef, undef, undef, undef, undef, undef, undef, undef, undef, undef, undef, undef, undef, undef, undef, undef, undef, undef, undef, undef, undef, undef, undef, undef, undef, undef, undef, undef, undef, undef, undef, undef, undef, undef, undef, undef, undef, undef, undef, undef, undef, undef, undef, undef, undef, undef, undef, undef, undef, undef, undef, undef, undef, undef, undef, undef, undef, undef, undef, undef, undef, undef, undef, undef, undef, undef, undef, undef, undef, undef], []⟩ [.inRegion (r20 3) [2, 3, 4, 5, 6, 7, 8, 9], .code d4]).finish (.tuple #[.slice (some ⟨b0, 0, none⟩) 4 c0, .slice (some ⟨b1, 0, none⟩) 4 c1, .int .i64 0])) cs) w := by
 have hfin : (b20.at ⟨#[.bool false, .int .i64 3, .int .i64 0, .slice (some ⟨bb, 0, none⟩) 3 cb, .int .i64 0, undef, undef, undef, undef, undef, undef, undef, undef, undef, undef, .tuple #[.int .i64 3, .int .i64 0], .slice (some ⟨n16, 0, none⟩) 3 3, .tuple #[.int .i64 3, .int .i64 0], .int .i64 3, .int .i64 0, .tuple #[.slice (some ⟨bb, 0, none⟩) 3 cb, .int .i64 0], .slice (some ⟨n21, 0, none⟩) 3 3, .tuple #[.slice (some ⟨bb, 0, none⟩) 3 cb, .int .i64 0], .slice (some ⟨bb, 0, none⟩) 3 cb, .int .i64 0, undef, .slice (some ⟨a1, 0, none⟩) 4 4, .slice (some ⟨a1 + 1, 0, none⟩) 4 4, undef, undef, undef, undef, undef, undef, undef, undef, undef, undef, undef, undef, undef, undef, undef, undef, undef, undef, undef, undef, undef, undef, undef, undef, undef, undef, undef, undef, undef, undef, undef, undef, undef, undef, undef, undef, undef, undef, undef, undef, undef, undef, undef, undef, undef, undef, undef, undef, undef, undef, undef, undef, undef, undef, undef, undef, undef, undef, undef, undef, undef, undef, undef, undef, undef, undef, undef, undef, undef, undef, undef, undef, undef, undef, undef], []⟩ [.inRegion (r20 3) [2, 3, 4, 5, 6, 7, 8, 9], .code d4]).finish (.tuple #[.slice (some ⟨b0, 0, none⟩) 4 c0, .slice (some ⟨b1, 0, none⟩) 4 c1, .int .i64 0]) = b20.at ⟨(#[.bool false, .int .i64 3, .int .i64 0, .slice (some ⟨bb, 0, none⟩) 3 cb, .int .i64 0, undef, undef, undef, undef, undef, undef, undef, undef, undef, undef, .tuple #[.int .i64 3, .int .i64 0], .slice (some ⟨n16, 0, none⟩) 3 3, .tuple #[.int .i64 3, .int .i64 0], .int .i64 3, .int .i64 0, .tuple #[.slice (some ⟨bb, 0, none⟩) 3 cb, .int .i64 0], .slice (some ⟨n21, 0, none⟩) 3 3, .tuple #[.slice (some ⟨bb, 0, none⟩) 3 cb, .int .i64 0], .slice (some ⟨bb, 0, none⟩) 3 cb, .int .i64 0, undef, .slice (some ⟨a1, 0, none⟩) 4 4, .slice (some ⟨a1 + 1, 0, none⟩) 4 4, undef, undef, undef, undef, undef, undef, undef, undef, undef, undef, undef, undef, undef, undef, undef, undef, undef, undef, undef, undef, undef, undef, undef, undef, undef, undef, undef, undef, undef, undef, undef, undef, undef, undef, undef, undef, undef, undef, undef, undef, undef, undef, undef, undef, undef, undef, undef, undef, undef, undef, undef, undef, undef, undef, undef, undef, undef, undef, undef, undef, undef, undef, undef, undef, undef, undef, undef, undef, undef, undef, undef, undef, undef, undef, undef] : Array Value).setIfInBounds 28 (.tuple #[.slice (some ⟨b0, 0, none⟩) 4 c0, .slice (some ⟨b1, 0, none⟩) 4 c1, .int .i64 0]), []⟩ [.inRegion (r20 3) [3, 4, 5, 6, 7, 8, 9], .code d4] := by
  obtain ⟨o, ho, hd, hop, hg⟩ := o20_3_2
  rw [Frame.finish_at, ho, Option.bind_some, hd]
  rfl
 rw [hfin]
 simp only [List.setIfInBounds_toArray, List.set_cons_succ, List.set_cons_zero]
 obtain ⟨o, ho, hd, hop, hg⟩ := o20_3_3
 refine mw_valw ho (wanted_of hg _ _) (by decide) (Nat.le_refl _) (v := .tuple #[.slice (some ⟨b0, 0, none⟩) 4 c0, .slice (some ⟨b1, 0, none⟩) 4 c1, .int .i64 0]) (fun d => by unfold execOp; simp [hop, Act.eval]) (fun d => by unfold execOp; simp [hop, Act.eval]) ?_
 rw [hd]
 walk_nrm
 clear ho hd hop hg o
 obtain ⟨o, ho, hd, hop, hg⟩ := o20_3_4
 refine mw_valw ho (wanted_of hg _ _) (by decide) (Nat.le_refl _) (v := .slice (some ⟨b0, 0, none⟩) 4 c0) (fun d => by unfold execOp; simp [hop, go_sem, qa3, qu3, qs3, qz3, qa4, qu4, qs4, qz4, qa22, qu22, qs22, qz22, qa29, qu29, qs29, qz29, qa31, qu31, qs31, qz31]) (fun d => by unfold execOp; simp [hop, go_sem, qa3, qu3, qs3, qz3, qa4, qu4, qs4, qz4, qa22, qu22, qs22, qz22, qa29, qu29, qs29, qz29, qa31, qu31, qs31, qz31]) ?_
 rw [hd]
 walk_nrm
 clear ho hd hop hg o
 obtain ⟨o, ho, hd, hop, hg⟩ := o20_3_5
 refine mw_valw ho (wanted_of hg _ _) (by decide) (Nat.le_refl _) (v := .slice (some ⟨b1, 0, none⟩) 4 c1) (fun d => by unfold execOp; simp [hop, go_sem, qa3, qu3, qs3, qz3, qa4, qu4, qs4, qz4, qa22, qu22, qs22, qz22, qa29, qu29, qs29, qz29, qa31, qu31, qs31, qz31]) (fun d => by unfold execOp; simp [hop, go_sem, qa3, qu3, qs3, qz3, qa4, qu4, qs4, qz4, qa22, qu22, qs22, qz22, qa29, qu29, qs29, qz29, qa31, qu31, qs31, qz31]) ?_
 rw [hd]
 walk_nrm
 clear ho hd hop hg o
 obtain ⟨o, ho, hd, hop, hg⟩ := o20_3_6
 refine mw_valw ho (wanted_of hg _ _) (by decide) (Nat.le_refl _) (v := .int .i64 0) (fun d => by unfold execOp; simp [hop, go_sem, qa3, qu3, qs3, qz3, qa4, qu4, qs4, qz4, qa22, qu22, qs22, qz22, qa29, qu29, qs29, qz29, qa31, qu31, qs31, qz31]) (fun d => by unfold execOp; simp [hop, go_sem, qa3, qu3, qs3, qz3, qa4, qu4, qs4, qz4, qa22, qu22, qs22, qz22, qa29, qu29, qs29, qz29, qa31, qu31, qs31, qz31]) ?_
 rw [hd]
 walk_nrm
 clear ho hd hop hg o
 obtain ⟨o, ho, hd, hop, hg⟩ := o20_3_7
 refine mw_valw ho (wanted_of hg _ _) (by decide) (Nat.le_refl _) (v := .slice (some ⟨b0, 0, none⟩) 4 c0) (fun d => by unfold execOp; simp [hop, Act.eval]) (fun d => by unfold execOp; simp [hop, Act.eval]) ?_
 rw [hd]
 walk_nrm
 clear ho hd hop hg o
 obtain ⟨o, ho, hd, hop, hg⟩ := o20_3_8
 refine mw_valw ho (wanted_of hg _ _) (by decide) (Nat.le_refl _) (v := .slice (some ⟨b1, 0, none⟩) 4 c1) (fun d => by unfold execOp; simp [hop, Act.eval]) (fun d => by unfold execOp; simp [hop, Act.eval]) ?_
 rw [hd]
 walk_nrm
 clear ho hd hop hg o
 obtain ⟨o, ho, hd, hop, hg⟩ := o20_3_9
 refine mw_valw ho (wanted_of hg _ _) (by decide) (Nat.le_refl _) (v := .int .i64 0) (fun d => by unfold execOp; simp [hop, Act.eval]) (fun d => by unfold execOp; simp [hop, Act.eval]) ?_
 rw [hd]
 walk_nrm
 clear ho hd hop hg o
 refine mw_ctl rfl (fun _ => stepG_region_end) ?_
 exact hk
set_option maxHeartbeats 8000000 in
set_option maxRecDepth 100000 in
theorem alS4 (D : Duo P S kdOf) (A : AlK P) (hS : S 16 = true) (hsh : ∀ l b, Sh l → inB b l → b < w.heap.size) (n16 n21 bb cb a1 b0 c0 b1 c1 : Nat) (hk : ∀ w', Kept w.heap.size w w' → MW Sh Stop (G (b20.at ⟨#[.bool false, .int .i64 3, .int .i64 0, .slice (some ⟨bb, 0, none⟩) 3 cb, .int .i64 0, .slice (some ⟨b0, 0, none⟩) 4 c0, .slice (some ⟨b1, 0, none⟩) 4 c1, .int .i64 0, .int .i64 7, .int .i64 0, undef, undef, undef, undef, undef, .tuple #[.int .i64 3, .int .i64 0], .slice (some ⟨n16, 0, none⟩) 3 3, .tuple #[.int .i64 3, .int .i64 0], .int .i64 3, .int .i64 0, .tuple #[.slice (some ⟨bb, 0, none⟩) 3 cb, .int .i64 0], .slice (some ⟨n21, 0, none⟩) 3 3, .tuple #[.slice (some ⟨bb, 0, none⟩) 3 cb, .int .i64 0], .slice (some ⟨bb, 0, none⟩) 3 cb, .int .i64 0, .tuple #[.slice (some ⟨b0, 0, none⟩) 4 c0, .slice (some ⟨b1, 0, none⟩) 4 c1, .int .i64 0], .slice (some ⟨a1, 0, none⟩) 4 4, .slice (some ⟨a1 + 1, 0, none⟩) 4 4, .tuple #[.slice (some ⟨b0, 0, none⟩) 4 c0, .slice (some ⟨b1, 0, none⟩) 4 c1, .int .i64 0], .slice (some ⟨b0, 0, none⟩) 4 c0, .slice (some ⟨b1, 0, none⟩) 4 c1, .int .i64 0, .tuple #[.int .i64 7, .int .i64 0], .tuple #[.int .i64 7, .int .i64 0], .int .i64 7, .int .i64 0, undef, undef, undef, undef, undef, undef, undef, undef, undef, undef, undef, undef, undef, undef, undef, undef, undef, undef, undef, undef, undef, undef, undef, undef, undef, undef, undef, undef, undef, undef, undef, undef, undef, undef, undef, undef, undef, undef, undef, undef, undef, undef, undef, undef, undef, undef, undef, undef, undef, undef, undef, undef, undef, undef, undef, undef, undef, undef, undef, undef, undef, undef, undef, undef, undef, undef, undef], []⟩ [.code d5]) cs) w') : MW Sh Stop (G (b20.at ⟨#[.bool false, .int .i64 3, .int .i64 0, .slice (some ⟨bb, 0, none⟩) 3 cb, .int .i64 0, .slice (some ⟨b0, 0, none⟩) 4 c0, .slice (some ⟨b1, 0, none⟩) 4 c1, .int .i64 0, undef, undef, undef, undef, undef, undef, undef, .tuple #[.int .i64 3, .int .i64 0], .slice (some ⟨n16, 0, none⟩) 3 3, .tuple #[.int .i64 3, .int .i64 0], .int .i64 3, .int .i64 0, .tuple #[.slice (some ⟨bb, 0, none⟩) 3 cb, .int .i64 0], .slice (some ⟨n21, 0, none⟩) 3 3, .tuple #[.slice (some ⟨bb, 0, none⟩) 3 cb, .int .i64 0], .slice (some ⟨bb, 0, none⟩) 3 cb, .int .i64 0, .tuple #[.slice (some ⟨b0, 0, none⟩) 4 c0, .slice (some ⟨b1, 0, none⟩) 4 c1, .int .i64 0], .slice (some ⟨a1, 0, none⟩) 4 4, .slice (some ⟨a1 + 1, 0, none⟩) 4 4, .tuple #[.slice (some ⟨b0, 0, none⟩) 4 c0, .slice (some ⟨b1, 0, none⟩) 4 c1, .int .i64 0], .slice (some ⟨b0, 0, none⟩) 4 c0, .slice (some ⟨b1, 0, none⟩) 4 c1, .int .i64 0, undef, undef, undef, undef, undef, undef, undef, undef, undef, undef, undef, undef, undef, undef, undef, undef, undef, undef, undef, undef, undef, undef, undef, undef, undef, undef, undef, undef, undef, undef, undef, undef, undef, undef, undef, undef, undef, undef, undef, undef, undef, undef, undef, undef, undef, undef, undef, undef, undef, undef, undef, undef, undef, undef, undef, undef, undef, undef, undef, undef, undef, undef, undef, undef, undef, undef, undef, undef, undef, undef, undef], []⟩ [.code d4]) cs) w := by
 unfold d4
 refine mw_ctl rfl (fun _ => stepG_seq) ?_
 refine mw_ctl rfl (fun _ => stepG_region) ?_
 rw [s20_4]
 simp only [List.range, List.range.loop]
 obtain ⟨o, ho, hd, hop, hg⟩ := o20_4_0
 refine al_flat D hsh ho (wanted_of hg _ _) (by decide) hop Try.func16 (by kernel_rfl) (by kernel_rfl) hS (res_tmp (by kernel_rfl)) (vs := #[.int .i64 4, .int .i64 2]) (by simp [Act.eval]) (bl := []) (by simp) (by intro v hv; simp at hv; rcases hv with rfl | rfl <;> exact .inl rfl) (r := .tuple #[.int .i64 7, .int .i64 0]) (by simp [flatV, flatP, flatB]) (fun u hu => A.c16 u) fun w2 hk2 => ?_
 rw [hd]
 walk_nrm
 clear ho hd hop hg o
 obtain ⟨o, ho, hd, hop, hg⟩ := o20_4_1
 refine mw_valw ho (wanted_of hg _ _) (by decide) (Nat.le_refl _) (v := .tuple #[.int .i64 7, .int .i64 0]) (fun d => by unfold execOp; simp [hop, Act.eval]) (fun d => by unfold execOp; simp [hop, Act.eval]) ?_
 rw [hd]
 walk_nrm
 clear ho hd hop hg o
 obtain ⟨o, ho, hd, hop, hg⟩ := o20_4_2
 refine mw_valw ho (wanted_of hg _ _) (by decide) (Nat.le_refl _) (v := .int .i64 7) (fun d => by unfold execOp; simp [hop, go_sem, qa3, qu3, qs3, qz3, qa4, qu4, qs4, qz4, qa22, qu22, qs22, qz22, qa29, qu29, qs29, qz29, qa31, qu31, qs31, qz31]) (fun d => by unfold execOp; simp [hop, go_sem, qa3, qu3, qs3, qz3, qa4, qu4, qs4, qz4, qa22, qu22, qs22, qz22, qa29, qu29, qs29, qz29, qa31, qu31, qs31, qz31]) ?_
 rw [hd]
 walk_nrm
 clear ho hd hop hg o
 obtain ⟨o, ho, hd, hop, hg⟩ := o20_4_3
 refine mw_valw ho (wanted_of hg _ _) (by decide) (Nat.le_refl _) (v := .int .i64 0) (fun d => by unfold execOp; simp [hop, go_sem, qa3, qu3, qs3, qz3, qa4, qu4, qs4, qz4, qa22, qu22, qs22, qz22, qa29, qu29, qs29, qz29, qa31, qu31, qs31, qz31]) (fun d => by unfold execOp; simp [hop, go_sem, qa3, qu3, qs3, qz3, qa4, qu4, qs4, qz4, qa22, qu22, qs22, qz22, qa29, qu29, qs29, qz29, qa31, qu31, qs31, qz31]) ?_
 rw [hd]
 walk_nrm
 clear ho hd hop hg o
 obtain ⟨o, ho, hd, hop, hg⟩ := o20_4_4
 refine mw_valw ho (wanted_of hg _ _) (by decide) (Nat.le_refl _) (v := .int .i64 7) (fun d => by unfold execOp; simp [hop, Act.eval]) (fun d => by unfold execOp; simp [hop, Act.eval]) ?_
 rw [hd]
 walk_nrm
 clear ho hd hop hg o
 obtain ⟨o, ho, hd, hop, hg⟩ := o20_4_5
 refine mw_valw ho (wanted_of hg _ _) (by decide) (Nat.le_refl _) (v := .int .i64 0) (fun d => by unfold execOp; simp [hop, Act.eval]) (fun d => by unfold execOp; simp [hop, Act.eval]) ?_
 rw [hd]
 walk_nrm
 clear ho hd hop hg o
 refine mw_ctl rfl (fun _ => stepG_region_end) ?_
 exact hk w2 hk2
set_option maxHeartbeats 8000000 in
set_option maxRecDepth 100000 in
theorem alS5 (D : Duo P S kdOf) (A : AlK P) (hS : S 18 = true) (hsh : ∀ l b, Sh l → inB b l → b < w.heap.size) (n16 n21 bb cb a1 b0 c0 b1 c1 : Nat) (hk : ∀ w', Kept w.heap.size w w' → MW Sh Stop (G (b20.at ⟨#[.bool false, .int .i64 3, .int .i64 0, .slice (some ⟨bb, 0, none⟩) 3 cb, .int .i64 0, .slice (some ⟨b0, 0, none⟩) 4 c0, .slice (some ⟨b1, 0, none⟩) 4 c1, .int .i64 0, .int .i64 7, .int .i64 0, .int .i64 6, .int .i64 0, undef, undef, undef, .tuple #[.int .i64 3, .int .i64 0], .slice (some ⟨n16, 0, none⟩) 3 3, .tuple #[.int .i64 3, .int .i64 0], .int .i64 3, .int .i64 0, .tuple #[.slice (some ⟨bb, 0, none⟩) 3 cb, .int .i64 0], .slice (some ⟨n21, 0, none⟩) 3 3, .tuple #[.slice (some ⟨bb, 0, none⟩) 3 cb, .int .i64 0], .slice (some ⟨bb, 0, none⟩) 3 cb, .int .i64 0, .tuple #[.slice (some ⟨b0, 0, none⟩) 4 c0, .slice (some ⟨b1, 0, none⟩) 4 c1, .int .i64 0], .slice (some ⟨a1, 0, none⟩) 4 4, .slice (some ⟨a1 + 1, 0, none⟩) 4 4, .tuple #[.slice (some ⟨b0, 0, none⟩) 4 c0, .slice (some ⟨b1, 0, none⟩) 4 c1, .int .i64 0], .slice (some ⟨b0, 0, none⟩) 4 c0, .slice (some ⟨b1, 0, none⟩) 4 c1, .int .i64 0, .tuple #[.int .i64 7, .int .i64 0], .tuple #[.int .i64 7, .int .i64 0], .int .i64 7, .int .i64 0, .tuple #[.int .i64 6, .int .i64 0], .tuple #[.int .i64 6, .int .i64 0], .int .i64 6, .int .i64 0, undef, undef, undef, undef, undef, undef, undef, undef, undef, undef, undef, undef, undef, undef, undef, undef, undef, undef, undef, undef, undef, undef, undef, undef, undef, undef, undef, undef, undef, undef, undef, undef, undef, undef, undef, undef, undef, undef, undef, undef, undef, undef, undef, undef, undef, undef, undef, undef, undef, undef, undef, undef, undef, undef, undef, undef, undef, undef, undef, undef, undef, undef, undef], []⟩ [.code d6]) cs) w') : MW Sh Stop (G (b20.at ⟨#[.bool false, .int .i64 3, .int .i64 0, .slice (some ⟨bb, 0, none⟩) 3 cb, .int .i64 0, .slice (some ⟨b0, 0, none⟩) 4 c0, .slice (some ⟨b1, 0, none⟩) 4 c1, .int .i64 0, .int .i64 7, .int .i64 0, undef, undef, undef, undef, undef, .tuple #[.int .i64 3, .int .i64 0], .slice (some ⟨n16, 0, none⟩) 3 3, .tuple #[.int .i64 3, .int .i64 0], .int .i64 3, .int .i64 0, .tuple #[.slice (some ⟨bb, 0, none⟩) 3 cb, .int .i64 0], .slice (some ⟨n21, 0, none⟩) 3 3, .tuple #[.slice (some ⟨bb, 0, none⟩) 3 cb, .int .i64 0], .slice (some ⟨bb, 0, none⟩) 3 cb, .int .i64 0, .tuple #[.slice (some ⟨b0, 0, none⟩) 4 c0, .slice (some ⟨b1, 0, none⟩) 4 c1, .int .i64 0], .slice (some ⟨a1, 0, none⟩) 4 4, .slice (some ⟨a1 + 1, 0, none⟩) 4 4, .tuple #[.slice (some ⟨b0, 0, none⟩) 4 c0, .slice (some ⟨b1, 0, none⟩) 4 c1, .int .i64 0], .slice (some ⟨b0, 0, none⟩) 4 c0, .slice (some ⟨b1, 0, none⟩) 4 c1, .int .i64 0, .tuple #[.int .i64 7, .int .i64 0], .tuple #[.int .i64 7, .int .i64 0], .int .i64 7, .int .i64 0, undef, undef, undef, undef, undef, undef, undef, undef, undef, undef, undef, undef, undef, undef, undef, undef, undef, undef, undef, undef, undef, undef, undef, undef, undef, undef, undef, undef, undef, undef, undef, undef, undef, undef, undef, undef, undef, undef, undef, undef, undef, undef, undef, undef, undef, undef, undef, undef, undef, undef, undef, undef, undef, undef, undef, undef, undef, undef, undef, undef, undef, undef, undef, undef, undef, undef, undef], []⟩ [.code d5]) cs) w := by
 unfold d5
 refine mw_ctl rfl (fun _ => stepG_seq) ?_
 refine mw_ctl rfl (fun _ => stepG_region) ?_
 rw [s20_5]
 simp only [List.range, List.range.loop]
 obtain ⟨o, ho, hd, hop, hg⟩ := o20_5_0
 refine al_flat D hsh ho (wanted_of hg _ _) (by decide) hop Try.func18 (by kernel_rfl) (by kernel_rfl) hS (res_tmp (by kernel_rfl)) (vs := #[.int .i64 4, .int .i64 2]) (by simp [Act.eval]) (bl := []) (by simp) (by intro v hv; simp at hv; rcases hv with rfl | rfl <;> exact .inl rfl) (r := .tuple #[.int .i64 6, .int .i64 0]) (by simp [flatV, flatP, flatB]) (fun u hu => A.c18 u) fun w2 hk2 => ?_
 rw [hd]
 walk_nrm
 clear ho hd hop hg o
 obtain ⟨o, ho, hd, hop, hg⟩ := o20_5_1
 refine mw_valw ho (wanted_of hg _ _) (by decide) (Nat.le_refl _) (v := .tuple #[.int .i64 6, .int .i64 0]) (fun d => by unfold execOp; simp [hop, Act.eval]) (fun d => by unfold execOp; simp [hop, Act.eval]) ?_
 rw [hd]
 walk_nrm
 clear ho hd hop hg o
 obtain ⟨o, ho, hd, hop, hg⟩ := o20_5_2
 refine mw_valw ho (wanted_of hg _ _) (by decide) (Nat.le_refl _) (v := .int .i64 6) (fun d => by unfold execOp; simp [hop, go_sem, qa3, qu3, qs3, qz3, qa4, qu4, qs4, qz4, qa22, qu22, qs22, qz22, qa29, qu29, qs29, qz29, qa31, qu31, qs31, qz31]) (fun d => by unfold execOp; simp [hop, go_sem, qa3, qu3, qs3, qz3, qa4, qu4, qs4, qz4, qa22, qu22, qs22, qz22, qa29, qu29, qs29, qz29, qa31, qu31, qs31, qz31]) ?_
 rw [hd]
 walk_nrm
 clear ho hd hop hg o
 obtain ⟨o, ho, hd, hop, hg⟩ := o20_5_3
 refine mw_valw ho (wanted_of hg _ _) (by decide) (Nat.le_refl _) (v := .int .i64 0) (fun d => by unfold execOp; simp [hop, go_sem, qa3, qu3, qs3, qz3, qa4, qu4, qs4, qz4, qa22, qu22, qs22, qz22, qa29, qu29, qs29, qz29, qa31, qu31, qs31, qz31]) (fun d => by unfold execOp; simp [hop, go_sem, qa3, qu3, qs3, qz3, qa4, qu4, qs4, qz4, qa22, qu22, qs22, qz22, qa29, qu29, qs29, qz29, qa31, qu31, qs31, qz31]) ?_
 rw [hd]
 walk_nrm
 clear ho hd hop hg o
 obtain ⟨o, ho, hd, hop, hg⟩ := o20_5_4
 refine mw_valw ho (wanted_of hg _ _) (by decide) (Nat.le_refl _) (v := .int .i64 6) (fun d => by unfold execOp; simp [hop, Act.eval]) (fun d => by unfold execOp; simp [hop, Act.eval]) ?_
 rw [hd]
 walk_nrm
 clear ho hd hop hg o
 obtain ⟨o, ho, hd, hop, hg⟩ := o20_5_5
 refine mw_valw ho (wanted_of hg _ _) (by decide) (Nat.le_refl _) (v := .int .i64 0) (fun d => by unfold execOp; simp [hop, Act.eval]) (fun d => by unfold execOp; simp [hop, Act.eval]) ?_
 rw [hd]
 walk_nrm
 clear ho hd hop hg o
 refine mw_ctl rfl (fun _ => stepG_region_end) ?_
 exact hk w2 hk2
set_option maxHeartbeats 8000000 in
set_option maxRecDepth 100000 in
theorem alS6 (D : Duo P S kdOf) (A : AlK P) (hS : S 23 = true) (hR : ResT P Try.f23) (hsh : ∀ l b, Sh l → inB b l → b < w.heap.size) (n16 n21 bb cb a1 b0 c0 b1 c1 : Nat) (hk : ∀ w' n41 nx, Kept w.heap.size w w' → w.heap.size ≤ nx → w'.heap[nx]? = some (.cells #[.int .i64 0, .int .i64 1, .int .i64 2, .int .i64 3] 31 (0, 0)) → MW Sh Stop (G (b20.at ⟨#[.bool false, .int .i64 3, .int .i64 0, .slice (some ⟨bb, 0, none⟩) 3 cb, .int .i64 0, .slice (some ⟨b0, 0, none⟩) 4 c0, .slice (some ⟨b1, 0, none⟩) 4 c1, .int .i64 0, .int .i64 7, .int .i64 0, .int .i64 6, .int .i64 0, ptr nx, .bool true, .int .i64 0, .tuple #[.int .i64 3, .int .i64 0], .slice (some ⟨n16, 0, none⟩) 3 3, .tuple #[.int .i64 3, .int .i64 0], .int .i64 3, .int .i64 0, .tuple #[.slice (some ⟨bb, 0, none⟩) 3 cb, .int .i64 0], .slice (some ⟨n21, 0, none⟩) 3 3, .tuple #[.slice (some ⟨bb, 0, none⟩) 3 cb, .int .i64 0], .slice (some ⟨bb, 0, none⟩) 3 cb, .int .i64 0, .tuple #[.slice (some ⟨b0, 0, none⟩) 4 c0, .slice (some ⟨b1, 0, none⟩) 4 c1, .int .i64 0], .slice (some ⟨a1, 0, none⟩) 4 4, .slice (some ⟨a1 + 1, 0, none⟩) 4 4, .tuple #[.slice (some ⟨b0, 0, none⟩) 4 c0, .slice (some ⟨b1, 0, none⟩) 4 c1, .int .i64 0], .slice (some ⟨b0, 0, none⟩) 4 c0, .slice (some ⟨b1, 0, none⟩) 4 c1, .int .i64 0, .tuple #[.int .i64 7, .int .i64 0], .tuple #[.int .i64 7, .int .i64 0], .int .i64 7, .int .i64 0, .tuple #[.int .i64 6, .int .i64 0], .tuple #[.int .i64 6, .int .i64 0], .int .i64 6, .int .i64 0, .tuple #[.agg #[.int .i64 0, .int .i64 1, .int .i64 2, .int .i64 3], .bool true, .int .i64 0], .slice (some ⟨n41, 0, none⟩) 4 4, .tuple #[.agg #[.int .i64 0, .int .i64 1, .int .i64 2, .int .i64 3], .bool true, .int .i64 0], .agg #[.int .i64 0, .int .i64 1, .int .i64 2, .int .i64 3], .bool true, .int .i64 0, undef, undef, undef, undef, undef, undef, undef, undef, undef, undef, undef, undef, undef, undef, undef, undef, undef, undef, undef, undef, undef, undef, undef, undef, undef, undef, undef, undef, undef, undef, undef, undef, undef, undef, undef, undef, undef, undef, undef, undef, undef, undef, undef, undef, undef, undef, undef, undef, undef, undef, undef, undef, undef, undef, undef, undef, undef], []⟩ [.code d7]) cs) w') : MW Sh Stop (G (b20.at ⟨#[.bool false, .int .i64 3, .int .i64 0, .slice (some ⟨bb, 0, none⟩) 3 cb, .int .i64 0, .slice (some ⟨b0, 0, none⟩) 4 c0, .slice (some ⟨b1, 0, none⟩) 4 c1, .int .i64 0, .int .i64 7, .int .i64 0, .int .i64 6, .int .i64 0, undef, undef, undef, .tuple #[.int .i64 3, .int .i64 0], .slice (some ⟨n16, 0, none⟩) 3 3, .tuple #[.int .i64 3, .int .i64 0], .int .i64 3, .int .i64 0, .tuple #[.slice (some ⟨bb, 0, none⟩) 3 cb, .int .i64 0], .slice (some ⟨n21, 0, none⟩) 3 3, .tuple #[.slice (some ⟨bb, 0, none⟩) 3 cb, .int .i64 0], .slice (some ⟨bb, 0, none⟩) 3 cb, .int .i64 0, .tuple #[.slice (some ⟨b0, 0, none⟩) 4 c0, .slice (some ⟨b1, 0, none⟩) 4 c1, .int .i64 0], .slice (some ⟨a1, 0, none⟩) 4 4, .slice (some ⟨a1 + 1, 0, none⟩) 4 4, .tuple #[.slice (some ⟨b0, 0, none⟩) 4 c0, .slice (some ⟨b1, 0, none⟩) 4 c1, .int .i64 0], .slice (some ⟨b0, 0, none⟩) 4 c0, .slice (some ⟨b1, 0, none⟩) 4 c1, .int .i64 0, .tuple #[.int .i64 7, .int .i64 0], .tuple #[.int .i64 7, .int .i64 0], .int .i64 7, .int .i64 0, .tuple #[.int .i64 6, .int .i64 0], .tuple #[.int .i64 6, .int .i64 0], .int .i64 6, .int .i64 0, undef, undef, undef, undef, undef, undef, undef, undef, undef, undef, undef, undef, undef, undef, undef, undef, undef, undef, undef, undef, undef, undef, undef, undef, undef, undef, undef, undef, undef, undef, undef, undef, undef, undef, undef, undef, undef, undef, undef, undef, undef, undef, undef, undef, undef, undef, undef, undef, undef, undef, undef, undef, undef, undef, undef, undef, undef, undef, undef, undef, undef, undef, undef], []⟩ [.code d6]) cs) w := by
 unfold d6
 refine mw_ctl rfl (fun _ => stepG_seq) ?_
 refine mw_ctl rfl (fun _ => stepG_region) ?_
 rw [s20_6]
 simp only [List.range, List.range.loop]
 obtain ⟨o, ho, hd, hop, hg⟩ := o20_6_0
 refine mw_valw (w' := (w).alloc (.cells #[.int .i64 0, .int .i64 1, .int .i64 0, .int .i64 1] 3 (0, 0))) ho (wanted_of hg _ _) (by decide) (by simp only [alloc_size]; omega) (v := .slice (some ⟨w.heap.size, 0, none⟩) 4 4) (fun d => by unfold execOp; simp [hop, go_sem, qa3, qu3, qs3, qz3, qa4, qu4, qs4, qz4, qa22, qu22, qs22, qz22, qa29, qu29, qs29, qz29, qa31, qu31, qs31, qz31]; first | exact ⟨rfl, rfl⟩ | exact ⟨alloc_size _ _, rfl⟩ | rfl) (fun d => by unfold execOp; simp [hop, go_sem, qa3, qu3, qs3, qz3, qa4, qu4, qs4, qz4, qa22, qu22, qs22, qz22, qa29, qu29, qs29, qz29, qa31, qu31, qs31, qz31]) ?_
 rw [hd]
 walk_nrm
 clear ho hd hop hg o
 obtain ⟨w1, hw1⟩ : ∃ w1, w1 = w.alloc (.cells #[.int .i64 0, .int .i64 1, .int .i64 0, .int .i64 1] 3 (0, 0)) := ⟨_, rfl⟩
 rw [← hw1]
 have hz1 : w1.heap.size = w.heap.size + 1 := by rw [hw1, alloc_size]
 have hi1 : IntBlk w1 w.heap.size [0, 1, 0, 1] := by rw [hw1]; exact intBlk_alloc w [0, 1, 0, 1]
 have hk1 : Kept w.heap.size w w1 := by rw [hw1]; exact ⟨rfl, rfl, rfl, by rw [alloc_size]; omega, fun b hb => get_alloc_old w _ hb⟩
 obtain ⟨o, ho, hd, hop, hg⟩ := o20_6_1
 refine al_flat D (sh_mono hsh hk1.size) ho (wanted_of hg _ _) (by decide) hop Try.func23 (by kernel_rfl) (by kernel_rfl) hS hR (vs := #[.slice (some ⟨w.heap.size, 0, none⟩) 4 4]) (by simp [Act.eval]) (bl := [w.heap.size]) (by simp only [List.mem_singleton]; rintro b rfl; exact ⟨⟨_, hi1⟩, sh0 (k := 0) hsh⟩) (by intro v hv; simp at hv; subst hv; exact .inr ⟨_, _, _, rfl, by simp⟩) (r := .tuple #[.agg #[.int .i64 0, .int .i64 1, .int .i64 2, .int .i64 3], .bool true, .int .i64 0]) (by simp [flatV, flatP, flatB]) (fun u hu => A.c23 u _ (hu _ (by simp) _ hi1)) fun w2 hk2 => ?_
 rw [hd]
 walk_nrm
 clear ho hd hop hg o
 obtain ⟨o, ho, hd, hop, hg⟩ := o20_6_2
 refine mw_valw ho (wanted_of hg _ _) (by decide) (Nat.le_refl _) (v := .tuple #[.agg #[.int .i64 0, .int .i64 1, .int .i64 2, .int .i64 3], .bool true, .int .i64 0]) (fun d => by unfold execOp; simp [hop, Act.eval]) (fun d => by unfold execOp; simp [hop, Act.eval]) ?_
 rw [hd]
 walk_nrm
 clear ho hd hop hg o
 obtain ⟨o, ho, hd, hop, hg⟩ := o20_6_3
 refine mw_valw ho (wanted_of hg _ _) (by decide) (Nat.le_refl _) (v := .agg #[.int .i64 0, .int .i64 1, .int .i64 2, .int .i64 3]) (fun d => by unfold execOp; simp [hop, go_sem, qa3, qu3, qs3, qz3, qa4, qu4, qs4, qz4, qa22, qu22, qs22, qz22, qa29, qu29, qs29, qz29, qa31, qu31, qs31, qz31]) (fun d => by unfold execOp; simp [hop, go_sem, qa3, qu3, qs3, qz3, qa4, qu4, qs4, qz4, qa22, qu22, qs22, qz22, qa29, qu29, qs29, qz29, qa31, qu31, qs31, qz31]) ?_
 rw [hd]
 walk_nrm
 clear ho hd hop hg o
 obtain ⟨o, ho, hd, hop, hg⟩ := o20_6_4
 refine mw_valw ho (wanted_of hg _ _) (by decide) (Nat.le_refl _) (v := .bool true) (fun d => by unfold execOp; simp [hop, go_sem, qa3, qu3, qs3, qz3, qa4, qu4, qs4, qz4, qa22, qu22, qs22, qz22, qa29, qu29, qs29, qz29, qa31, qu31, qs31, qz31]) (fun d => by unfold execOp; simp [hop, go_sem, qa3, qu3, qs3, qz3, qa4, qu4, qs4, qz4, qa22, qu22, qs22, qz22, qa29, qu29, qs29, qz29, qa31, qu31, qs31, qz31]) ?_
 rw [hd]
 walk_nrm
 clear ho hd hop hg o
 obtain ⟨o, ho, hd, hop, hg⟩ := o20_6_5
 refine mw_valw ho (wanted_of hg _ _) (by decide) (Nat.le_refl _) (v := .int .i64 0) (fun d => by unfold execOp; simp [hop, go_sem, qa3, qu3, qs3, qz3, qa4, qu4, qs4, qz4, qa22, qu22, qs22, qz22, qa29, qu29, qs29, qz29, qa31, qu31, qs31, qz31]) (fun d => by unfold execOp; simp [hop, go_sem, qa3, qu3, qs3, qz3, qa4, qu4, qs4, qz4, qa22, qu22, qs22, qz22, qa29, qu29, qs29, qz29, qa31, qu31, qs31, qz31]) ?_
 rw [hd]
 walk_nrm
 clear ho hd hop hg o
 have hz2 := hk2.size
 obtain ⟨o, ho, hd, hop, hg⟩ := o20_6_6
 refine mw_alloc31 ho hg (by decide) hop ?_
 rw [hd]
 walk_nrm
 clear ho hd hop hg o
 obtain ⟨o, ho, hd, hop, hg⟩ := o20_6_7
 refine mw_st31 ho hg (by decide) hop (bl := w2.heap.size) rfl rfl (fun l h1 h2 => by have := hsh l _ h2 h1; omega) (by rw [alloc_size]; omega) (by rw [get_alloc, if_pos rfl]) ?_
 rw [hd]
 walk_nrm
 clear ho hd hop hg o
 obtain ⟨o, ho, hd, hop, hg⟩ := o20_6_8
 refine mw_valw ho (wanted_of hg _ _) (by decide) (Nat.le_refl _) (v := .bool true) (fun d => by unfold execOp; simp [hop, Act.eval]) (fun d => by unfold execOp; simp [hop, Act.eval]) ?_
 rw [hd]
 walk_nrm
 clear ho hd hop hg o
 obtain ⟨o, ho, hd, hop, hg⟩ := o20_6_9
 refine mw_valw ho (wanted_of hg _ _) (by decide) (Nat.le_refl _) (v := .int .i64 0) (fun d => by unfold execOp; simp [hop, Act.eval]) (fun d => by unfold execOp; simp [hop, Act.eval]) ?_
 rw [hd]
 walk_nrm
 clear ho hd hop hg o
 refine mw_ctl rfl (fun _ => stepG_region_end) ?_
 have hget : ∀ b, b < w.heap.size → (set4 (w2.alloc (.cells #[.int .i64 0, .int .i64 0, .int .i64 0, .int .i64 0] 31 (0, 0))) w2.heap.size (.int .i64 0) (.int .i64 1) (.int .i64 2) (.int .i64 3)).heap[b]? = w.heap[b]? := fun b hb => by rw [set4_get _ _ _ _ _ _ (by omega), get_alloc_old _ _ (by omega), hk2.old b (by omega), hk1.old b hb]
 exact hk _ w.heap.size w2.heap.size ⟨hk2.os.trans hk1.os, hk2.output.trans hk1.output, hk2.tape.trans hk1.tape, by rw [set4_size, alloc_size]; omega, hget⟩ (by omega) (set4_at _ _ _ _ _ _ (by rw [get_alloc, if_pos rfl]))
end
end Go.Mt
namespace Go.Mt
open Go.Tr Go.Conc Go.ConcN Go.Proofs Go.RowKit Go.Conc.Lib Go.ConcR.Gen Go.ConcN.Gen
theorem bld (w : World) : Sem.run Try.prog (Instr.build 31 #[(0, Value.int .i64 0), (1, Value.int .i64 1), (2, Value.int .i64 2), (3, Value.int .i64 3)]) w = .ok (.agg #[.int .i64 0, .int .i64 1, .int .i64 2, .int .i64 3]) w := by kernel_rfl
theorem blde (w : World) : Sem.events Try.prog (Instr.build 31 #[(0, Value.int .i64 0), (1, Value.int .i64 1), (2, Value.int .i64 2), (3, Value.int .i64 3)]) w #[] = #[] := by kernel_rfl
theorem eqg (w : World) (x y : Operand) : Sem.run Try.prog (eqGuard .eql 31 x y (.agg #[.int .i64 0, .int .i64 1, .int .i64 2, .int .i64 3]) (.agg #[.int .i64 0, .int .i64 1, .int .i64 2, .int .i64 3])) w = .ok () w := by kernel_rfl
theorem eqge (w : World) (x y : Operand) : Sem.events Try.prog (eqGuard .eql 31 x y (.agg #[.int .i64 0, .int .i64 1, .int .i64 2, .int .i64 3]) (.agg #[.int .i64 0, .int .i64 1, .int .i64 2, .int .i64 3])) w #[] = #[] := by kernel_rfl
theorem eqb (w : World) : Sem.run Try.prog (binOp .eql 31 (.agg #[.int .i64 0, .int .i64 1, .int .i64 2, .int .i64 3]) (.agg #[.int .i64 0, .int .i64 1, .int .i64 2, .int .i64 3])) w = .ok (.bool true) w := by kernel_rfl
theorem eqbe (w : World) : Sem.events Try.prog (binOp .eql 31 (.agg #[.int .i64 0, .int .i64 1, .int .i64 2, .int .i64 3]) (.agg #[.int .i64 0, .int .i64 1, .int .i64 2, .int .i64 3])) w #[] = #[] := by kernel_rfl
theorem stepG_leave1 {P : Program} {main : Bool} {b : Frame} {a : Act} {todo : List Item} {c : Frame} {cs : List Frame} {w : World} {fn : Func} {i : Nat} (hn : b.kind = .normal) (hd : a.defers = []) (hf : P.funcs[b.fn]? = some fn) (hr : fn.results = #[.tmp i]) :
  stepG P main (G { b.at a todo with mode := .returning } (c :: cs)) w = .go (G (c.finish (a.tmps.getD i undef)) cs) w #[] := by
 refine stepG_leave (v := a.tmps.getD i undef) hn hd hf ?_ ?_
 ·simp [results, hr]
 ·simp [results, hr]
section
variable {P : Program} {S : FuncId → Bool} {kdOf : FuncId → Kinds} {Sh : Loc → Prop} {Stop : List Nat → Goroutine → World → Prop} {w : World} {c : Frame} {cs : List Frame}
set_option maxHeartbeats 8000000 in
set_option maxRecDepth 100000 in
theorem alS7 (D : Duo P S kdOf) (A : AlK P) (hS : S 27 = true) (hsh : ∀ l b, Sh l → inB b l → b < w.heap.size) (n16 n21 bb cb a1 b0 c0 b1 c1 n41 nx : Nat) (hno : ∀ b ∈ [bb, b0, b1, nx], ∀ l, inB b l → ¬ Sh l) (hbb : IntBlk w bb [0, 1, 1]) (hb0 : IntBlk w b0 [0, 1, 2, 3]) (hb1 : IntBlk w b1 [0, 0, 0, 0]) (hxl : nx < w.heap.size) (hx : w.heap[nx]? = some (.cells #[.int .i64 0, .int .i64 1, .int .i64 2, .int .i64 3] 31 (0, 0))) (hk : ∀ w', Kept w.heap.size w w' → MW Sh Stop (G (c.finish (.bool true)) cs) w') : MW Sh Stop (G (b20.at ⟨#[.bool false, .int .i64 3, .int .i64 0, .slice (some ⟨bb, 0, none⟩) 3 cb, .int .i64 0, .slice (some ⟨b0, 0, none⟩) 4 c0, .slice (some ⟨b1, 0, none⟩) 4 c1, .int .i64 0, .int .i64 7, .int .i64 0, .int .i64 6, .int .i64 0, ptr nx, .bool true, .int .i64 0, .tuple #[.int .i64 3, .int .i64 0], .slice (some ⟨n16, 0, none⟩) 3 3, .tuple #[.int .i64 3, .int .i64 0], .int .i64 3, .int .i64 0, .tuple #[.slice (some ⟨bb, 0, none⟩) 3 cb, .int .i64 0], .slice (some ⟨n21, 0, none⟩) 3 3, .tuple #[.slice (some ⟨bb, 0, none⟩) 3 cb, .int .i64 0], .slice (some ⟨bb, 0, none⟩) 3 cb, .int .i64 0, .tuple #[.slice (some ⟨b0, 0, none⟩) 4 c0, .slice (some ⟨b1, 0, none⟩) 4 c1, .int .i64 0], .slice (some ⟨a1, 0, none⟩) 4 4, .slice (some ⟨a1 + 1, 0, none⟩) 4 4, .tuple #[.slice (some ⟨b0, 0, none⟩) 4 c0, .slice (some ⟨b1, 0, none⟩) 4 c1, .int .i64 0], .slice (some ⟨b0, 0, none⟩) 4 c0, .slice (some ⟨b1, 0, none⟩) 4 c1, .int .i64 0, .tuple #[.int .i64 7, .int .i64 0], .tuple #[.int .i64 7, .int .i64 0], .int .i64 7, .int .i64 0, .tuple #[.int .i64 6, .int .i64 0], .tuple #[.int .i64 6, .int .i64 0], .int .i64 6, .int .i64 0, .tuple #[.agg #[.int .i64 0, .int .i64 1, .int .i64 2, .int .i64 3], .bool true, .int .i64 0], .slice (some ⟨n41, 0, none⟩) 4 4, .tuple #[.agg #[.int .i64 0, .int .i64 1, .int .i64 2, .int .i64 3], .bool true, .int .i64 0], .agg #[.int .i64 0, .int .i64 1, .int .i64 2, .int .i64 3], .bool true, .int .i64 0, undef, undef, undef, undef, undef, undef, undef, undef, undef, undef, undef, undef, undef, undef, undef, undef, undef, undef, undef, undef, undef, undef, undef, undef, undef, undef, undef, undef, undef, undef, undef, undef, undef, undef, undef, undef, undef, undef, undef, undef, undef, undef, undef, undef, undef, undef, undef, undef, undef, undef, undef, undef, undef, undef, undef, undef, undef], []⟩ [.code d7]) (c :: cs)) w := by
 unfold d7
 refine mw_ctl rfl (fun _ => stepG_seq) ?_
 refine mw_ctl rfl (fun _ => stepG_region) ?_
 rw [s20_7]
 simp only [List.range, List.range.loop]
 have hK : ∀ b, b < w.heap.size → ∀ l, inB b l → True := fun _ _ _ _ => trivial
 obtain ⟨o, ho, hd, hop, hg⟩ := o20_7_0
 refine mw_valw ho (wanted_of hg _ _) (by decide) (Nat.le_refl _) (v := .int .i64 0) (fun d => by unfold execOp; simp [hop, Act.eval]) (fun d => by unfold execOp; simp [hop, Act.eval]) ?_
 rw [hd]
 walk_nrm
 clear ho hd hop hg o
 obtain ⟨o, ho, hd, hop, hg⟩ := o20_7_1
 refine mw_valw ho (wanted_of hg _ _) (by decide) (Nat.le_refl _) (v := .bool true) (fun d => by unfold execOp; simp [hop, go_sem, qa3, qu3, qs3, qz3, qa4, qu4, qs4, qz4, qa22, qu22, qs22, qz22, qa29, qu29, qs29, qz29, qa31, qu31, qs31, qz31]) (fun d => by unfold execOp; simp [hop, go_sem, qa3, qu3, qs3, qz3, qa4, qu4, qs4, qz4, qa22, qu22, qs22, qz22, qa29, qu29, qs29, qz29, qa31, qu31, qs31, qz31]) ?_
 rw [hd]
 walk_nrm
 clear ho hd hop hg o
 obtain ⟨o, ho, hd, hop, hg⟩ := o20_7_2
 refine mw_valw ho (wanted_of hg _ _) (by decide) (Nat.le_refl _) (v := .bool true) (fun d => by unfold execOp; simp [hop, Act.eval]) (fun d => by unfold execOp; simp [hop, Act.eval]) ?_
 rw [hd]
 walk_nrm
 clear ho hd hop hg o
 obtain ⟨o, ho, hd, hop, hg⟩ := o20_7_3
 refine mw_valw ho (wanted_pos hg (by rfl)) (by decide) (Nat.le_refl _) (v := .int .i64 3) (fun d => by unfold execOp; simp [hop, Act.eval]) (fun d => by unfold execOp; simp [hop, Act.eval]) ?_
 rw [hd]
 walk_nrm
 clear ho hd hop hg o
 obtain ⟨o, ho, hd, hop, hg⟩ := o20_7_4
 refine mw_valw ho (wanted_pos hg (by rfl)) (by decide) (Nat.le_refl _) (v := .bool true) (fun d => by unfold execOp; simp [hop, go_sem, qa3, qu3, qs3, qz3, qa4, qu4, qs4, qz4, qa22, qu22, qs22, qz22, qa29, qu29, qs29, qz29, qa31, qu31, qs31, qz31]) (fun d => by unfold execOp; simp [hop, go_sem, qa3, qu3, qs3, qz3, qa4, qu4, qs4, qz4, qa22, qu22, qs22, qz22, qa29, qu29, qs29, qz29, qa31, qu31, qs31, qz31]) ?_
 rw [hd]
 walk_nrm
 clear ho hd hop hg o
 obtain ⟨o, ho, hd, hop, hg⟩ := o20_7_5
 refine mw_valw ho (wanted_of hg _ _) (by decide) (Nat.le_refl _) (v := .bool true) (fun d => by unfold execOp; simp [hop, go_sem, qa3, qu3, qs3, qz3, qa4, qu4, qs4, qz4, qa22, qu22, qs22, qz22, qa29, qu29, qs29, qz29, qa31, qu31, qs31, qz31]) (fun d => by unfold execOp; simp [hop, go_sem, qa3, qu3, qs3, qz3, qa4, qu4, qs4, qz4, qa22, qu22, qs22, qz22, qa29, qu29, qs29, qz29, qa31, qu31, qs31, qz31]) ?_
 rw [hd]
 walk_nrm
 clear ho hd hop hg o
 obtain ⟨o, ho, hd, hop, hg⟩ := o20_7_6
 refine mw_valw ho (wanted_of hg _ _) (by decide) (Nat.le_refl _) (v := .bool true) (fun d => by unfold execOp; simp [hop, Act.eval]) (fun d => by unfold execOp; simp [hop, Act.eval]) ?_
 rw [hd]
 walk_nrm
 clear ho hd hop hg o
 obtain ⟨o, ho, hd, hop, hg⟩ := o20_7_7
 refine mw_valw ho (wanted_pos hg (by rfl)) (by decide) (Nat.le_refl _) (v := .int .i64 0) (fun d => by unfold execOp; simp [hop, Act.eval]) (fun d => by unfold execOp; simp [hop, Act.eval]) ?_
 rw [hd]
 walk_nrm
 clear ho hd hop hg o
 obtain ⟨o, ho, hd, hop, hg⟩ := o20_7_8
 refine mw_valw ho (wanted_pos hg (by rfl)) (by decide) (Nat.le_refl _) (v := .bool true) (fun d => by unfold execOp; simp [hop, go_sem, qa3, qu3, qs3, qz3, qa4, qu4, qs4, qz4, qa22, qu22, qs22, qz22, qa29, qu29, qs29, qz29, qa31, qu31, qs31, qz31]) (fun d => by unfold execOp; simp [hop, go_sem, qa3, qu3, qs3, qz3, qa4, qu4, qs4, qz4, qa22, qu22, qs22, qz22, qa29, qu29, qs29, qz29, qa31, qu31, qs31, qz31]) ?_
 rw [hd]
 walk_nrm
 clear ho hd hop hg o
 obtain ⟨o, ho, hd, hop, hg⟩ := o20_7_9
 refine mw_valw ho (wanted_of hg _ _) (by decide) (Nat.le_refl _) (v := .bool true) (fun d => by unfold execOp; simp [hop, go_sem, qa3, qu3, qs3, qz3, qa4, qu4, qs4, qz4, qa22, qu22, qs22, qz22, qa29, qu29, qs29, qz29, qa31, qu31, qs31, qz31]) (fun d => by unfold execOp; simp [hop, go_sem, qa3, qu3, qs3, qz3, qa4, qu4, qs4, qz4, qa22, qu22, qs22, qz22, qa29, qu29, qs29, qz29, qa31, qu31, qs31, qz31]) ?_
 rw [hd]
 walk_nrm
 clear ho hd hop hg o
 obtain ⟨o, ho, hd, hop, hg⟩ := o20_7_10
 refine mw_valw ho (wanted_of hg _ _) (by decide) (Nat.le_refl _) (v := .bool true) (fun d => by unfold execOp; simp [hop, Act.eval]) (fun d => by unfold execOp; simp [hop, Act.eval]) ?_
 rw [hd]
 walk_nrm
 clear ho hd hop hg o
 obtain ⟨o, ho, hd, hop, hg⟩ := o20_7_11
 refine mw_valw ho (wanted_pos hg (by rfl)) (by decide) (Nat.le_refl _) (v := .slice (some ⟨bb, 0, none⟩) 3 cb) (fun d => by unfold execOp; simp [hop, Act.eval]) (fun d => by unfold execOp; simp [hop, Act.eval]) ?_
 rw [hd]
 walk_nrm
 clear ho hd hop hg o
 obtain ⟨o, ho, hd, hop, hg⟩ := o20_7_12
 refine mw_valw (w' := (w).alloc (.cells #[.int .i64 0, .int .i64 1, .int .i64 1] 3 (0, 0))) ho (wanted_pos hg (by rfl)) (by decide) (by simp only [alloc_size]; omega) (v := .slice (some ⟨w.heap.size, 0, none⟩) 3 3) (fun d => by unfold execOp; simp [hop, go_sem, qa3, qu3, qs3, qz3, qa4, qu4, qs4, qz4, qa22, qu22, qs22, qz22, qa29, qu29, qs29, qz29, qa31, qu31, qs31, qz31]; first | exact ⟨rfl, rfl⟩ | exact ⟨alloc_size _ _, rfl⟩ | rfl) (fun d => by unfold execOp; simp [hop, go_sem, qa3, qu3, qs3, qz3, qa4, qu4, qs4, qz4, qa22, qu22, qs22, qz22, qa29, qu29, qs29, qz29, qa31, qu31, qs31, qz31]) ?_
 rw [hd]
 walk_nrm
 clear ho hd hop hg o
 obtain ⟨wa1, hwa1⟩ : ∃ x, x = w.alloc (.cells #[.int .i64 0, .int .i64 1, .int .i64 1] 3 (0, 0)) := ⟨_, rfl⟩
 rw [← hwa1]
 have hzwa1 : wa1.heap.size = w.heap.size + 1 := by rw [hwa1, alloc_size]
 have hiwa1 : IntBlk wa1 w.heap.size [0, 1, 1] := by rw [hwa1]; exact intBlk_alloc w [0, 1, 1]
 have hkwa1 : Kept w.heap.size w wa1 := by rw [hwa1]; exact ⟨rfl, rfl, rfl, by rw [alloc_size]; omega, fun b hb => get_alloc_old _ _ (by have := hb; omega)⟩
 have hjwa1 : IntBlk wa1 bb [0, 1, 1] := hbb.of_get (hkwa1.old _ hbb.lt)
 obtain ⟨o, ho, hd, hop, hg⟩ := o20_7_13
 refine al_flat D (sh_mono hsh hkwa1.size) ho (wanted_pos hg (by rfl)) (by decide) hop Try.func27 (by kernel_rfl) (by kernel_rfl) hS (res_tmp (by kernel_rfl)) (vs := #[.slice (some ⟨bb, 0, none⟩) 3 cb, .slice (some ⟨w.heap.size, 0, none⟩) 3 3]) (by simp [Act.eval]) (bl := [bb, w.heap.size]) (by intro b hb; simp only [List.mem_cons, List.not_mem_nil, or_false] at hb; exact hb.elim (fun e => by rw [e]; exact ⟨⟨_, hjwa1⟩, hno _ (by simp)⟩) (fun e => by rw [e]; exact ⟨⟨_, hiwa1⟩, fun l h1 h2 => by have := hsh l _ h2 h1; have := Nat.le_refl w.heap.size; omega⟩)) (by intro v hv; simp at hv; rcases hv with rfl | rfl <;> exact .inr ⟨_, _, _, rfl, by simp⟩) (r := .bool true) rfl (fun u hu => A.c27 u _ _ _ _ [0, 1, 1] (hu _ (by simp) _ hjwa1) (hu _ (by simp) _ hiwa1) (by decide)) fun wc1 hqwc1 => ?_
 rw [hd]
 walk_nrm
 clear ho hd hop hg o
 have hkwc1 : Kept w.heap.size w wc1 := hkwa1.trans ⟨hqwc1.os, hqwc1.output, hqwc1.tape, hqwc1.size, fun b hb => hqwc1.old b (by have := hkwa1.size; omega)⟩
 obtain ⟨o, ho, hd, hop, hg⟩ := o20_7_14
 refine mw_valw ho (wanted_of hg _ _) (by decide) (Nat.le_refl _) (v := .bool true) (fun d => by unfold execOp; simp [hop, go_sem, qa3, qu3, qs3, qz3, qa4, qu4, qs4, qz4, qa22, qu22, qs22, qz22, qa29, qu29, qs29, qz29, qa31, qu31, qs31, qz31]) (fun d => by unfold execOp; simp [hop, go_sem, qa3, qu3, qs3, qz3, qa4, qu4, qs4, qz4, qa22, qu22, qs22, qz22, qa29, qu29, qs29, qz29, qa31, qu31, qs31, qz31]) ?_
 rw [hd]
 walk_nrm
 clear ho hd hop hg o
 obtain ⟨o, ho, hd, hop, hg⟩ := o20_7_15
 refine mw_valw ho (wanted_of hg _ _) (by decide) (Nat.le_refl _) (v := .bool true) (fun d => by unfold execOp; simp [hop, Act.eval]) (fun d => by unfold execOp; simp [hop, Act.eval]) ?_
 rw [hd]
 walk_nrm
 clear ho hd hop hg o
 obtain ⟨o, ho, hd, hop, hg⟩ := o20_7_16
 refine mw_valw ho (wanted_pos hg (by rfl)) (by decide) (Nat.le_refl _) (v := .int .i64 0) (fun d => by unfold execOp; simp [hop, Act.eval]) (fun d => by unfold execOp; simp [hop, Act.eval]) ?_
 rw [hd]
 walk_nrm
 clear ho hd hop hg o
 obtain ⟨o, ho, hd, hop, hg⟩ := o20_7_17
 refine mw_valw ho (wanted_pos hg (by rfl)) (by decide) (Nat.le_refl _) (v := .bool true) (fun d => by unfold execOp; simp [hop, go_sem, qa3, qu3, qs3, qz3, qa4, qu4, qs4, qz4, qa22, qu22, qs22, qz22, qa29, qu29, qs29, qz29, qa31, qu31, qs31, qz31]) (fun d => by unfold execOp; simp [hop, go_sem, qa3, qu3, qs3, qz3, qa4, qu4, qs4, qz4, qa22, qu22, qs22, qz22, qa29, qu29, qs29, qz29, qa31, qu31, qs31, qz31]) ?_
 rw [hd]
 walk_nrm
 clear ho hd hop hg o
 obtain ⟨o, ho, hd, hop, hg⟩ := o20_7_18
 refine mw_valw ho (wanted_of hg _ _) (by decide) (Nat.le_refl _) (v := .bool true) (fun d => by unfold execOp; simp [hop, go_sem, qa3, qu3, qs3, qz3, qa4, qu4, qs4, qz4, qa22, qu22, qs22, qz22, qa29, qu29, qs29, qz29, qa31, qu31, qs31, qz31]) (fun d => by unfold execOp; simp [hop, go_sem, qa3, qu3, qs3, qz3, qa4, qu4, qs4, qz4, qa22, qu22, qs22, qz22, qa29, qu29, qs29, qz29, qa31, qu31, qs31, qz31]) ?_
 rw [hd]
 walk_nrm
 clear ho hd hop hg o
 obtain ⟨o, ho, hd, hop, hg⟩ := o20_7_19
 refine mw_valw ho (wanted_of hg _ _) (by decide) (Nat.le_refl _) (v := .bool true) (fun d => by unfold execOp; simp [hop, Act.eval]) (fun d => by unfold execOp; simp [hop, Act.eval]) ?_
 rw [hd]
 walk_nrm
 clear ho hd hop hg o
 obtain ⟨o, ho, hd, hop, hg⟩ := o20_7_20
 refine mw_valw ho (wanted_pos hg (by rfl)) (by decide) (Nat.le_refl _) (v := .slice (some ⟨b0, 0, none⟩) 4 c0) (fun d => by unfold execOp; simp [hop, Act.eval]) (fun d => by unfold execOp; simp [hop, Act.eval]) ?_
 rw [hd]
 walk_nrm
 clear ho hd hop hg o
 obtain ⟨o, ho, hd, hop, hg⟩ := o20_7_21
 refine mw_valw (w' := (wc1).alloc (.cells #[.int .i64 0, .int .i64 1, .int .i64 2, .int .i64 3] 3 (0, 0))) ho (wanted_pos hg (by rfl)) (by decide) (by simp only [alloc_size]; omega) (v := .slice (some ⟨wc1.heap.size, 0, none⟩) 4 4) (fun d => by unfold execOp; simp [hop, go_sem, qa3, qu3, qs3, qz3, qa4, qu4, qs4, qz4, qa22, qu22, qs22, qz22, qa29, qu29, qs29, qz29, qa31, qu31, qs31, qz31]; first | exact ⟨rfl, rfl⟩ | exact ⟨alloc_size _ _, rfl⟩ | rfl) (fun d => by unfold execOp; simp [hop, go_sem, qa3, qu3, qs3, qz3, qa4, qu4, qs4, qz4, qa22, qu22, qs22, qz22, qa29, qu29, qs29, qz29, qa31, qu31, qs31, qz31]) ?_
 rw [hd]
 walk_nrm
 clear ho hd hop hg o
 obtain ⟨wa2, hwa2⟩ : ∃ x, x = wc1.alloc (.cells #[.int .i64 0, .int .i64 1, .int .i64 2, .int .i64 3] 3 (0, 0)) := ⟨_, rfl⟩
 rw [← hwa2]
 have hzwa2 : wa2.heap.size = wc1.heap.size + 1 := by rw [hwa2, alloc_size]
 have hiwa2 : IntBlk wa2 wc1.heap.size [0, 1, 2, 3] := by rw [hwa2]; exact intBlk_alloc wc1 [0, 1, 2, 3]
 have hkwa2 : Kept w.heap.size w wa2 := by rw [hwa2]; exact hkwc1.trans ⟨rfl, rfl, rfl, by rw [alloc_size]; omega, fun b hb => get_alloc_old _ _ (by have := hkwc1.size; omega)⟩
 have hjwa2 : IntBlk wa2 b0 [0, 1, 2, 3] := hb0.of_get (hkwa2.old _ hb0.lt)
 obtain ⟨o, ho, hd, hop, hg⟩ := o20_7_22
 refine al_flat D (sh_mono hsh hkwa2.size) ho (wanted_pos hg (by rfl)) (by decide) hop Try.func27 (by kernel_rfl) (by kernel_rfl) hS (res_tmp (by kernel_rfl)) (vs := #[.slice (some ⟨b0, 0, none⟩) 4 c0, .slice (some ⟨wc1.heap.size, 0, none⟩) 4 4]) (by simp [Act.eval]) (bl := [b0, wc1.heap.size]) (by intro b hb; simp only [List.mem_cons, List.not_mem_nil, or_false] at hb; exact hb.elim (fun e => by rw [e]; exact ⟨⟨_, hjwa2⟩, hno _ (by simp)⟩) (fun e => by rw [e]; exact ⟨⟨_, hiwa2⟩, fun l h1 h2 => by have := hsh l _ h2 h1; have := hkwc1.size; omega⟩)) (by intro v hv; simp at hv; rcases hv with rfl | rfl <;> exact .inr ⟨_, _, _, rfl, by simp⟩) (r := .bool true) rfl (fun u hu => A.c27 u _ _ _ _ [0, 1, 2, 3] (hu _ (by simp) _ hjwa2) (hu _ (by simp) _ hiwa2) (by decide)) fun wc2 hqwc2 => ?_
 rw [hd]
 walk_nrm
 clear ho hd hop hg o
 have hkwc2 : Kept w.heap.size w wc2 := hkwa2.trans ⟨hqwc2.os, hqwc2.output, hqwc2.tape, hqwc2.size, fun b hb => hqwc2.old b (by have := hkwa2.size; omega)⟩
 obtain ⟨o, ho, hd, hop, hg⟩ := o20_7_23
 refine mw_valw ho (wanted_of hg _ _) (by decide) (Nat.le_refl _) (v := .bool true) (fun d => by unfold execOp; simp [hop, go_sem, qa3, qu3, qs3, qz3, qa4, qu4, qs4, qz4, qa22, qu22, qs22, qz22, qa29, qu29, qs29, qz29, qa31, qu31, qs31, qz31]) (fun d => by unfold execOp; simp [hop, go_sem, qa3, qu3, qs3, qz3, qa4, qu4, qs4, qz4, qa22, qu22, qs22, qz22, qa29, qu29, qs29, qz29, qa31, qu31, qs31, qz31]) ?_
 rw [hd]
 walk_nrm
 clear ho hd hop hg o
 obtain ⟨o, ho, hd, hop, hg⟩ := o20_7_24
 refine mw_valw ho (wanted_of hg _ _) (by decide) (Nat.le_refl _) (v := .bool true) (fun d => by unfold execOp; simp [hop, Act.eval]) (fun d => by unfold execOp; simp [hop, Act.eval]) ?_
 rw [hd]
 walk_nrm
 clear ho hd hop hg o
 obtain ⟨o, ho, hd, hop, hg⟩ := o20_7_25
 refine mw_valw ho (wanted_pos hg (by rfl)) (by decide) (Nat.le_refl _) (v := .slice (some ⟨b1, 0, none⟩) 4 c1) (fun d => by unfold execOp; simp [hop, Act.eval]) (fun d => by unfold execOp; simp [hop, Act.eval]) ?_
 rw [hd]
 walk_nrm
 clear ho hd hop hg o
 obtain ⟨o, ho, hd, hop, hg⟩ := o20_7_26
 refine mw_valw (w' := (wc2).alloc (.cells #[.int .i64 0, .int .i64 0, .int .i64 0, .int .i64 0] 3 (0, 0))) ho (wanted_pos hg (by rfl)) (by decide) (by simp only [alloc_size]; omega) (v := .slice (some ⟨wc2.heap.size, 0, none⟩) 4 4) (fun d => by unfold execOp; simp [hop, go_sem, qa3, qu3, qs3, qz3, qa4, qu4, qs4, qz4, qa22, qu22, qs22, qz22, qa29, qu29, qs29, qz29, qa31, qu31, qs31, qz31]; first | exact ⟨rfl, rfl⟩ | exact ⟨alloc_size _ _, rfl⟩ | rfl) (fun d => by unfold execOp; simp [hop, go_sem, qa3, qu3, qs3, qz3, qa4, qu4, qs4, qz4, qa22, qu22, qs22, qz22, qa29, qu29, qs29, qz29, qa31, qu31, qs31, qz31]) ?_
 rw [hd]
 walk_nrm
 clear ho hd hop hg o
 obtain ⟨wa3, hwa3⟩ : ∃ x, x = wc2.alloc (.cells #[.int .i64 0, .int .i64 0, .int .i64 0, .int .i64 0] 3 (0, 0)) := ⟨_, rfl⟩
 rw [← hwa3]
 have hzwa3 : wa3.heap.size = wc2.heap.size + 1 := by rw [hwa3, alloc_size]
 have hiwa3 : IntBlk wa3 wc2.heap.size [0, 0, 0, 0] := by rw [hwa3]; exact intBlk_alloc wc2 [0, 0, 0, 0]
 have hkwa3 : Kept w.heap.size w wa3 := by rw [hwa3]; exact hkwc2.trans ⟨rfl, rfl, rfl, by rw [alloc_size]; omega, fun b hb => get_alloc_old _ _ (by have := hkwc2.size; omega)⟩
 have hjwa3 : IntBlk wa3 b1 [0, 0, 0, 0] := hb1.of_get (hkwa3.old _ hb1.lt)
 obtain ⟨o, ho, hd, hop, hg⟩ := o20_7_27
 refine al_flat D (sh_mono hsh hkwa3.size) ho (wanted_pos hg (by rfl)) (by decide) hop Try.func27 (by kernel_rfl) (by kernel_rfl) hS (res_tmp (by kernel_rfl)) (vs := #[.slice (some ⟨b1, 0, none⟩) 4 c1, .slice (some ⟨wc2.heap.size, 0, none⟩) 4 4]) (by simp [Act.eval]) (bl := [b1, wc2.heap.size]) (by intro b hb; simp only [List.mem_cons, List.not_mem_nil, or_false] at hb; exact hb.elim (fun e => by rw [e]; exact ⟨⟨_, hjwa3⟩, hno _ (by simp)⟩) (fun e => by rw [e]; exact ⟨⟨_, hiwa3⟩, fun l h1 h2 => by have := hsh l _ h2 h1; have := hkwc2.size; omega⟩)) (by intro v hv; simp at hv; rcases hv with rfl | rfl <;> exact .inr ⟨_, _, _, rfl, by simp⟩) (r := .bool true) rfl (fun u hu => A.c27 u _ _ _ _ [0, 0, 0, 0] (hu _ (by simp) _ hjwa3) (hu _ (by simp) _ hiwa3) (by decide)) fun wc3 hqwc3 => ?_
 rw [hd]
 walk_nrm
 clear ho hd hop hg o
 have hkwc3 : Kept w.heap.size w wc3 := hkwa3.trans ⟨hqwc3.os, hqwc3.output, hqwc3.tape, hqwc3.size, fun b hb => hqwc3.old b (by have := hkwa3.size; omega)⟩
 obtain ⟨o, ho, hd, hop, hg⟩ := o20_7_28
 refine mw_valw ho (wanted_of hg _ _) (by decide) (Nat.le_refl _) (v := .bool true) (fun d => by unfold execOp; simp [hop, go_sem, qa3, qu3, qs3, qz3, qa4, qu4, qs4, qz4, qa22, qu22, qs22, qz22, qa29, qu29, qs29, qz29, qa31, qu31, qs31, qz31]) (fun d => by unfold execOp; simp [hop, go_sem, qa3, qu3, qs3, qz3, qa4, qu4, qs4, qz4, qa22, qu22, qs22, qz22, qa29, qu29, qs29, qz29, qa31, qu31, qs31, qz31]) ?_
 rw [hd]
 walk_nrm
 clear ho hd hop hg o
 obtain ⟨o, ho, hd, hop, hg⟩ := o20_7_29
 refine mw_valw ho (wanted_of hg _ _) (by decide) (Nat.le_refl _) (v := .bool true) (fun d => by unfold execOp; simp [hop, Act.eval]) (fun d => by unfold execOp; simp [hop, Act.eval]) ?_
 rw [hd]
 walk_nrm
 clear ho hd hop hg o
 obtain ⟨o, ho, hd, hop, hg⟩ := o20_7_30
 refine mw_valw ho (wanted_pos hg (by rfl)) (by decide) (Nat.le_refl _) (v := .int .i64 0) (fun d => by unfold execOp; simp [hop, Act.eval]) (fun d => by unfold execOp; simp [hop, Act.eval]) ?_
 rw [hd]
 walk_nrm
 clear ho hd hop hg o
 obtain ⟨o, ho, hd, hop, hg⟩ := o20_7_31
 refine mw_valw ho (wanted_pos hg (by rfl)) (by decide) (Nat.le_refl _) (v := .bool true) (fun d => by unfold execOp; simp [hop, go_sem, qa3, qu3, qs3, qz3, qa4, qu4, qs4, qz4, qa22, qu22, qs22, qz22, qa29, qu29, qs29, qz29, qa31, qu31, qs31, qz31]) (fun d => by unfold execOp; simp [hop, go_sem, qa3, qu3, qs3, qz3, qa4, qu4, qs4, qz4, qa22, qu22, qs22, qz22, qa29, qu29, qs29, qz29, qa31, qu31, qs31, qz31]) ?_
 rw [hd]
 walk_nrm
 clear ho hd hop hg o
 obtain ⟨o, ho, hd, hop, hg⟩ := o20_7_32
 refine mw_valw ho (wanted_of hg _ _) (by decide) (Nat.le_refl _) (v := .bool true) (fun d => by unfold execOp; simp [hop, go_sem, qa3, qu3, qs3, qz3, qa4, qu4, qs4, qz4, qa22, qu22, qs22, qz22, qa29, qu29, qs29, qz29, qa31, qu31, qs31, qz31]) (fun d => by unfold execOp; simp [hop, go_sem, qa3, qu3, qs3, qz3, qa4, qu4, qs4, qz4, qa22, qu22, qs22, qz22, qa29, qu29, qs29, qz29, qa31, qu31, qs31, qz31]) ?_
 rw [hd]
 walk_nrm
 clear ho hd hop hg o
 obtain ⟨o, ho, hd, hop, hg⟩ := o20_7_33
 refine mw_valw ho (wanted_of hg _ _) (by decide) (Nat.le_refl _) (v := .bool true) (fun d => by unfold execOp; simp [hop, Act.eval]) (fun d => by unfold execOp; simp [hop, Act.eval]) ?_
 rw [hd]
 walk_nrm
 clear ho hd hop hg o
 obtain ⟨o, ho, hd, hop, hg⟩ := o20_7_34
 refine mw_valw ho (wanted_pos hg (by rfl)) (by decide) (Nat.le_refl _) (v := .int .i64 7) (fun d => by unfold execOp; simp [hop, Act.eval]) (fun d => by unfold execOp; simp [hop, Act.eval]) ?_
 rw [hd]
 walk_nrm
 clear ho hd hop hg o
 obtain ⟨o, ho, hd, hop, hg⟩ := o20_7_35
 refine mw_valw ho (wanted_pos hg (by rfl)) (by decide) (Nat.le_refl _) (v := .bool true) (fun d => by unfold execOp; simp [hop, go_sem, qa3, qu3, qs3, qz3, qa4, qu4, qs4, qz4, qa22, qu22, qs22, qz22, qa29, qu29, qs29, qz29, qa31, qu31, qs31, qz31]) (fun d => by unfold execOp; simp [hop, go_sem, qa3, qu3, qs3, qz3, qa4, qu4, qs4, qz4, qa22, qu22, qs22, qz22, qa29, qu29, qs29, qz29, qa31, qu31, qs31, qz31]) ?_
 rw [hd]
 walk_nrm
 clear ho hd hop hg o
 obtain ⟨o, ho, hd, hop, hg⟩ := o20_7_36
 refine mw_valw ho (wanted_of hg _ _) (by decide) (Nat.le_refl _) (v := .bool true) (fun d => by unfold execOp; simp [hop, go_sem, qa3, qu3, qs3, qz3, qa4, qu4, qs4, qz4, qa22, qu22, qs22, qz22, qa29, qu29, qs29, qz29, qa31, qu31, qs31, qz31]) (fun d => by unfold execOp; simp [hop, go_sem, qa3, qu3, qs3, qz3, qa4, qu4, qs4, qz4, qa22, qu22, qs22, qz22, qa29, qu29, qs29, qz29, qa31, qu31, qs31, qz31]) ?_
 rw [hd]
 walk_nrm
 clear ho hd hop hg o
 obtain ⟨o, ho, hd, hop, hg⟩ := o20_7_37
 refine mw_valw ho (wanted_of hg _ _) (by decide) (Nat.le_refl _) (v := .bool true) (fun d => by unfold execOp; simp [hop, Act.eval]) (fun d => by unfold execOp; simp [hop, Act.eval]) ?_
 rw [hd]
 walk_nrm
 clear ho hd hop hg o
 obtain ⟨o, ho, hd, hop, hg⟩ := o20_7_38
 refine mw_valw ho (wanted_pos hg (by rfl)) (by decide) (Nat.le_refl _) (v := .int .i64 0) (fun d => by unfold execOp; simp [hop, Act.eval]) (fun d => by unfold execOp; simp [hop, Act.eval]) ?_
 rw [hd]
 walk_nrm
 clear ho hd hop hg o
 obtain ⟨o, ho, hd, hop, hg⟩ := o20_7_39
 refine mw_valw ho (wanted_pos hg (by rfl)) (by decide) (Nat.le_refl _) (v := .bool true) (fun d => by unfold execOp; simp [hop, go_sem, qa3, qu3, qs3, qz3, qa4, qu4, qs4, qz4, qa22, qu22, qs22, qz22, qa29, qu29, qs29, qz29, qa31, qu31, qs31, qz31]) (fun d => by unfold execOp; simp [hop, go_sem, qa3, qu3, qs3, qz3, qa4, qu4, qs4, qz4, qa22, qu22, qs22, qz22, qa29, qu29, qs29, qz29, qa31, qu31, qs31, qz31]) ?_
 rw [hd]
 walk_nrm
 clear ho hd hop hg o
 obtain ⟨o, ho, hd, hop, hg⟩ := o20_7_40
 refine mw_valw ho (wanted_of hg _ _) (by decide) (Nat.le_refl _) (v := .bool true) (fun d => by unfold execOp; simp [hop, go_sem, qa3, qu3, qs3, qz3, qa4, qu4, qs4, qz4, qa22, qu22, qs22, qz22, qa29, qu29, qs29, qz29, qa31, qu31, qs31, qz31]) (fun d => by unfold execOp; simp [hop, go_sem, qa3, qu3, qs3, qz3, qa4, qu4, qs4, qz4, qa22, qu22, qs22, qz22, qa29, qu29, qs29, qz29, qa31, qu31, qs31, qz31]) ?_
 rw [hd]
 walk_nrm
 clear ho hd hop hg o
 obtain ⟨o, ho, hd, hop, hg⟩ := o20_7_41
 refine mw_valw ho (wanted_of hg _ _) (by decide) (Nat.le_refl _) (v := .bool true) (fun d => by unfold execOp; simp [hop, Act.eval]) (fun d => by unfold execOp; simp [hop, Act.eval]) ?_
 rw [hd]
 walk_nrm
 clear ho hd hop hg o
 obtain ⟨o, ho, hd, hop, hg⟩ := o20_7_42
 refine mw_valw ho (wanted_pos hg (by rfl)) (by decide) (Nat.le_refl _) (v := .int .i64 6) (fun d => by unfold execOp; simp [hop, Act.eval]) (fun d => by unfold execOp; simp [hop, Act.eval]) ?_
 rw [hd]
 walk_nrm
 clear ho hd hop hg o
 obtain ⟨o, ho, hd, hop, hg⟩ := o20_7_43
 refine mw_valw ho (wanted_pos hg (by rfl)) (by decide) (Nat.le_refl _) (v := .bool true) (fun d => by unfold execOp; simp [hop, go_sem, qa3, qu3, qs3, qz3, qa4, qu4, qs4, qz4, qa22, qu22, qs22, qz22, qa29, qu29, qs29, qz29, qa31, qu31, qs31, qz31]) (fun d => by unfold execOp; simp [hop, go_sem, qa3, qu3, qs3, qz3, qa4, qu4, qs4, qz4, qa22, qu22, qs22, qz22, qa29, qu29, qs29, qz29, qa31, qu31, qs31, qz31]) ?_
 rw [hd]
 walk_nrm
 clear ho hd hop hg o
 obtain ⟨o, ho, hd, hop, hg⟩ := o20_7_44
 refine mw_valw ho (wanted_of hg _ _) (by decide) (Nat.le_refl _) (v := .bool true) (fun d => by unfold execOp; simp [hop, go_sem, qa3, qu3, qs3, qz3, qa4, qu4, qs4, qz4, qa22, qu22, qs22, qz22, qa29, qu29, qs29, qz29, qa31, qu31, qs31, qz31]) (fun d => by unfold execOp; simp [hop, go_sem, qa3, qu3, qs3, qz3, qa4, qu4, qs4, qz4, qa22, qu22, qs22, qz22, qa29, qu29, qs29, qz29, qa31, qu31, qs31, qz31]) ?_
 rw [hd]
 walk_nrm
 clear ho hd hop hg o
 obtain ⟨o, ho, hd, hop, hg⟩ := o20_7_45
 refine mw_valw ho (wanted_of hg _ _) (by decide) (Nat.le_refl _) (v := .bool true) (fun d => by unfold execOp; simp [hop, Act.eval]) (fun d => by unfold execOp; simp [hop, Act.eval]) ?_
 rw [hd]
 walk_nrm
 clear ho hd hop hg o
 obtain ⟨o, ho, hd, hop, hg⟩ := o20_7_46
 refine mw_valw ho (wanted_pos hg (by rfl)) (by decide) (Nat.le_refl _) (v := .int .i64 0) (fun d => by unfold execOp; simp [hop, Act.eval]) (fun d => by unfold execOp; simp [hop, Act.eval]) ?_
 rw [hd]
 walk_nrm
 clear ho hd hop hg o
 obtain ⟨o, ho, hd, hop, hg⟩ := o20_7_47
 refine mw_valw ho (wanted_pos hg (by rfl)) (by decide) (Nat.le_refl _) (v := .bool true) (fun d => by unfold execOp; simp [hop, go_sem, qa3, qu3, qs3, qz3, qa4, qu4, qs4, qz4, qa22, qu22, qs22, qz22, qa29, qu29, qs29, qz29, qa31, qu31, qs31, qz31]) (fun d => by unfold execOp; simp [hop, go_sem, qa3, qu3, qs3, qz3, qa4, qu4, qs4, qz4, qa22, qu22, qs22, qz22, qa29, qu29, qs29, qz29, qa31, qu31, qs31, qz31]) ?_
 rw [hd]
 walk_nrm
 clear ho hd hop hg o
 obtain ⟨o, ho, hd, hop, hg⟩ := o20_7_48
 refine mw_valw ho (wanted_of hg _ _) (by decide) (Nat.le_refl _) (v := .bool true) (fun d => by unfold execOp; simp [hop, go_sem, qa3, qu3, qs3, qz3, qa4, qu4, qs4, qz4, qa22, qu22, qs22, qz22, qa29, qu29, qs29, qz29, qa31, qu31, qs31, qz31]) (fun d => by unfold execOp; simp [hop, go_sem, qa3, qu3, qs3, qz3, qa4, qu4, qs4, qz4, qa22, qu22, qs22, qz22, qa29, qu29, qs29, qz29, qa31, qu31, qs31, qz31]) ?_
 rw [hd]
 walk_nrm
 clear ho hd hop hg o
 obtain ⟨o, ho, hd, hop, hg⟩ := o20_7_49
 refine mw_valw ho (wanted_of hg _ _) (by decide) (Nat.le_refl _) (v := .bool true) (fun d => by unfold execOp; simp [hop, Act.eval]) (fun d => by unfold execOp; simp [hop, Act.eval]) ?_
 rw [hd]
 walk_nrm
 clear ho hd hop hg o
 obtain ⟨o, ho, hd, hop, hg⟩ := o20_7_50
 refine mw_valw ho (wanted_pos hg (by rfl)) (by decide) (Nat.le_refl _) (v := .bool true) (fun d => by unfold execOp; simp [hop, Act.eval]) (fun d => by unfold execOp; simp [hop, Act.eval]) ?_
 rw [hd]
 walk_nrm
 clear ho hd hop hg o
 obtain ⟨o, ho, hd, hop, hg⟩ := o20_7_51
 refine mw_valw ho (wanted_of hg _ _) (by decide) (Nat.le_refl _) (v := .bool true) (fun d => by unfold execOp; simp [hop, go_sem, qa3, qu3, qs3, qz3, qa4, qu4, qs4, qz4, qa22, qu22, qs22, qz22, qa29, qu29, qs29, qz29, qa31, qu31, qs31, qz31]) (fun d => by unfold execOp; simp [hop, go_sem, qa3, qu3, qs3, qz3, qa4, qu4, qs4, qz4, qa22, qu22, qs22, qz22, qa29, qu29, qs29, qz29, qa31, qu31, qs31, qz31]) ?_
 rw [hd]
 walk_nrm
 clear ho hd hop hg o
 obtain ⟨o, ho, hd, hop, hg⟩ := o20_7_52
 refine mw_valw ho (wanted_of hg _ _) (by decide) (Nat.le_refl _) (v := .bool true) (fun d => by unfold execOp; simp [hop, Act.eval]) (fun d => by unfold execOp; simp [hop, Act.eval]) ?_
 rw [hd]
 walk_nrm
 clear ho hd hop hg o
 have hxc : wc3.heap[nx]? = some (.cells #[.int .i64 0, .int .i64 1, .int .i64 2, .int .i64 3] 31 (0, 0)) := (hkwc3.old nx hxl).trans hx
 obtain ⟨o, ho, hd, hop, hg⟩ := o20_7_53
 refine mw_ld31 ho (wanted_pos hg (by rfl)) (by decide) hop (bl := nx) rfl (hno nx (by simp)) (by have := hkwc3.size; omega) hxc ?_
 rw [hd]
 walk_nrm
 clear ho hd hop hg o
 obtain ⟨o, ho, hd, hop, hg⟩ := o20_7_54
 refine mw_valw ho (wanted_pos hg (by rfl)) (by decide) (Nat.le_refl _) (v := .agg #[.int .i64 0, .int .i64 1, .int .i64 2, .int .i64 3]) (fun d => by unfold execOp; simp [hop, go_sem, bld]) (fun d => by unfold execOp; simp [hop, go_sem, blde]) ?_
 rw [hd]
 walk_nrm
 clear ho hd hop hg o
 obtain ⟨o, ho, hd, hop, hg⟩ := o20_7_55
 refine mw_valw ho (wanted_pos hg (by rfl)) (by decide) (Nat.le_refl _) (v := .bool true) (fun d => by unfold execOp; simp [hop, go_sem, eqg, eqb]) (fun d => by unfold execOp; simp [hop, go_sem, eqg, eqge, eqbe]) ?_
 rw [hd]
 walk_nrm
 clear ho hd hop hg o
 obtain ⟨o, ho, hd, hop, hg⟩ := o20_7_56
 refine mw_valw ho (wanted_of hg _ _) (by decide) (Nat.le_refl _) (v := .bool true) (fun d => by unfold execOp; simp [hop, go_sem, qa3, qu3, qs3, qz3, qa4, qu4, qs4, qz4, qa22, qu22, qs22, qz22, qa29, qu29, qs29, qz29, qa31, qu31, qs31, qz31]) (fun d => by unfold execOp; simp [hop, go_sem, qa3, qu3, qs3, qz3, qa4, qu4, qs4, qz4, qa22, qu22, qs22, qz22, qa29, qu29, qs29, qz29, qa31, qu31, qs31, qz31]) ?_
 rw [hd]
 walk_nrm
 clear ho hd hop hg o
 obtain ⟨o, ho, hd, hop, hg⟩ := o20_7_57
 refine mw_valw ho (wanted_of hg _ _) (by decide) (Nat.le_refl _) (v := .bool true) (fun d => by unfold execOp; simp [hop, Act.eval]) (fun d => by unfold execOp; simp [hop, Act.eval]) ?_
 rw [hd]
 walk_nrm
 clear ho hd hop hg o
 refine mw_ctl rfl (fun _ => stepG_region_end) ?_
 refine mw_ctl rfl (fun _ => stepG_ret') ?_
 refine mw_ctl rfl (fun _ => stepG_leave1 rfl rfl Try.func20 res20) ?_
 simpa using hk wc3 hkwc3
end
end Go.Mt
namespace Go.Mt
open Go.Tr Go.Conc Go.ConcN Go.Proofs Go.RowKit Go.Conc.Lib Go.ConcR.Gen Go.ConcN.Gen
noncomputable def frA (n16 n21 bb cb a1 : Nat) : Frame := b20.at ⟨#[.bool false, .int .i64 3, .int .i64 0, .slice (some ⟨bb, 0, none⟩) 3 cb, .int .i64 0, undef, undef, undef, undef, undef, undef, undef, undef, undef, undef, .tuple #[.int .i64 3, .int .i64 0], .slice (some ⟨n16, 0, none⟩) 3 3, .tuple #[.int .i64 3, .int .i64 0], .int .i64 3, .int .i64 0, .tuple #[.slice (some ⟨bb, 0, none⟩) 3 cb, .int .i64 0], .slice (some ⟨n21, 0, none⟩) 3 3, .tuple #[.slice (some ⟨bb, 0, none⟩) 3 cb, .int .i64 0], .slice (some ⟨bb, 0, none⟩) 3 cb, .int .i64 0, undef, .slice (some ⟨a1, 0, none⟩) 4 4, .slice (some ⟨a1 + 1, 0, none⟩) 4 4, undef, undef, undef, undef, undef, undef, undef, undef, undef, undef, undef, undef, undef, undef, undef, undef, undef, undef, undef, undef, undef, undef, undef, undef, undef, undef, undef, undef, undef, undef, undef, undef, undef, undef, undef, undef, undef, undef, undef, undef, undef, undef, undef, undef, undef, undef, undef, undef, undef, undef, undef, undef, undef, undef, undef, undef, undef, undef, undef, undef, undef, undef, undef, undef, undef, undef, undef, undef, undef, undef, undef, undef, undef, undef, undef], []⟩ [.inRegion (r20 3) [2, 3, 4, 5, 6, 7, 8, 9], .code d4]
abbrev s4 (a : Nat) : Value := .slice (some ⟨a, 0, none⟩) 4 4
structure AlS (S : FuncId → Bool) : Prop where
 s36 : S 36 = true
 s25 : S 25 = true
 s16 : S 16 = true
 s18 : S 18 = true
 s23 : S 23 = true
 s27 : S 27 = true
 s49 : S 49 = true
 s63 : S 63 = true
 s65 : S 65 = true
theorem intBlk_arg {w u : World} {Ra : Nat → Prop} {b : Nat} {xs : List Int} (h : IntBlk w b xs) (hA : ArgAt w Ra u) (hR : Ra b) : IntBlk u b xs := by
 obtain ⟨cs, fr, h1, h2, h3⟩ := h
 refine ⟨cs, (0, cs.size), ?_, h2, h3⟩
 rw [hA b hR, h1]
 rfl
theorem Kept.cut {a b c : World} (h : Kept a.heap.size a b) (k : Kept b.heap.size b c) : Kept a.heap.size a c := h.trans ⟨k.os, k.output, k.tape, k.size, fun x hx => k.old x (Nat.lt_of_lt_of_le hx h.size)⟩
theorem Kept.at {a b : World} {B : Nat} (h : Kept B a b) (d : Nat) : Kept B a (b.at d) := ⟨h.os, h.output, h.tape, h.size, h.old⟩
section
variable {P : Program} {S : FuncId → Bool} {kdOf : FuncId → Kinds} {Sh : Loc → Prop} {w : World} {c : Frame} {cs : List Frame} {gs : Array Goroutine} {t : Trace} {q : Nat → Nat} {sl0 : Option (Nat × Nat)}
set_option maxHeartbeats 2000000 in
theorem aliveCo (D : Duo P S kdOf) (A : AlK P) (hS : AlS S) (hR : ResT P Try.f23) (hmem : ∀ l : Loc, l.isMemory = false → Sh l) (hsh : ∀ l b, Sh l → inB b l → b < w.heap.size) (hF : Fr Try.prog Sh 0 gs (G (Frame.enter Try.prog 20 #[] .normal) (c :: cs)) w t q) :
  Runs (crowd gs w sl0) t fun m t => ∃ (gs' : Array Goroutine) (w' : World) (sl' : Option (Nat × Nat)) (q' : Nat → Nat) (Sh' : Loc → Prop), m = crowd gs' w' sl' ∧ Fr Try.prog Sh' 0 gs' (G (c.finish (.bool true)) cs) w' t q' ∧ Kept w.heap.size w w' ∧ (∀ l, Sh l → Sh' l) ∧ (∀ l b, Sh' l → inB b l → Sh l ∨ w.heap.size ≤ b) ∧ ∀ l b, Sh' l → inB b l → b < w'.heap.size := by
 refine (runs_beside hF (Stop := fun L g w' => L = [] ∧ ∃ n16 n21 bb cb a1, g = G (Frame.enter Try.prog 34 #[s4 a1, s4 (a1 + 1)] .normal) (frA n16 n21 bb cb a1 :: c :: cs) ∧ Kept w.heap.size w w' ∧ w.heap.size ≤ bb ∧ bb < a1 ∧ IntBlk w' bb [0, 1, 1] ∧ IntBlk w' a1 [0, 0, 1, 1] ∧ IntBlk w' (a1 + 1) [0, 1, 1, 0] ∧ a1 + 2 = w'.heap.size)
  (alR1 D A hS.s36 hsh fun w2 n16 hk2 => alR2 D A hS.s25 (sh_mono hsh hk2.size) (fun b hb l hl hs => by have := hsh l b hs hl; have := hk2.size; omega) n16 fun w3 n21 bb cb hk3 hbb hib => alR3 n16 n21 bb cb fun w4 a1 hk4 ha1 hz h1 h2 => mw_stop fun d =>
   ⟨rfl, n16, n21, bb, cb, a1, rfl, (hk2.cut (hk3.cut hk4)).at d, by have := hk2.size; omega, by rw [ha1]; exact hib.lt, hib.of_get (hk4.old _ hib.lt), h1, h2, hz⟩)).bind fun m1 t1 ⟨gs1, a1', w1, sl1, q1, L1, hm, hsz1, hF1, hL1, n16, n21, bb, cb, a1, ha, hk1, hbb, hba, hib, hi1, hi2, hz1⟩ => ?_
 subst hm hL1 ha
 have hz1' := hk1.size
 have hg : Given w1 Sh (fun b => b = a1 ∨ b = a1 + 1) (some ⟨a1, 0, none⟩) (some ⟨a1 + 1, 0, none⟩) := by
  refine ⟨sh_mono hsh hz1', hmem, fun b hb => ?_, fun x hx => ?_, fun x hx => ?_⟩
  ·have hno : ∀ l, inB b l → ¬ Sh l := fun l h1 h2 => by have := hsh l b h2 h1; omega
   rcases hb with rfl | rfl
   ·exact ⟨hi1.lt, hno, hi1.seen⟩
   ·exact ⟨hi2.lt, hno, hi2.seen⟩
  ·obtain rfl := Option.some.inj hx
   exact .inl rfl
  ·obtain rfl := Option.some.inj hx
   exact .inr rfl
 refine (meetCo (sl0 := sl1) (er := 0) (Post0 := fun n v u => ResI n u v [0, 1, 2, 3]) (Post1 := fun n v u => ResI n u v [0, 0, 0, 0]) D.same D.calm (fun _ h => h) hS.s49 hS.s63 hS.s65 hg (fun _ _ _ τ h => resI_retape τ h) (fun _ _ _ τ h => resI_retape τ h) (fun _ _ _ ⟨_, _, h, _⟩ => ⟨_, _, _, h⟩)
  (fun u hA hu => A.c49 u _ a1 (a1 + 1) (intBlk_arg hi1 hA (.inl rfl)) (intBlk_arg hi2 hA (.inr rfl)) hu)
  (fun _ u hA => A.c63 u a1 (a1 + 1) (intBlk_arg hi1 hA (.inl rfl)) (intBlk_arg hi2 hA (.inr rfl)))
  (fun _ u hA => A.c65 u a1 (a1 + 1) (intBlk_arg hi1 hA (.inl rfl)) (intBlk_arg hi2 hA (.inr rfl))) hF1).bind fun m2 t2 ⟨gs2, w2, sl2, q2, Sh', r, hm, hF2, hL⟩ => ?_
 subst hm
 rcases hL.val with ⟨h0, _⟩ | ⟨_, M, L1, L2, v0, v0', u0, v1, v1', u1, rfl, hM, hv0, hw0, hp0, hv1, hw1, hp1, hl1, hl2, hshM⟩
 ·exact absurd rfl h0
 obtain ⟨b0, c0, rfl, hb0L, hb0N, hib0⟩ := resI_rel rfl hw0 hv0 hp0
 obtain ⟨b1, c1, rfl, hb1L, hb1N, hib1⟩ := resI_rel rfl hw1 hv1 hp1
 replace hb0N : M + 4 ≤ b0 := hb0N
 replace hb1N : M + 4 ≤ b1 := hb1N
 have hib2 : IntBlk w2 bb [0, 1, 1] := hib.of_get (hL.kept.old bb (by omega))
 have hz2 := hL.kept.size
 have hno : ∀ b ∈ [bb, b0, b1], ∀ l, inB b l → ¬ Sh' l := by
  intro b hb l hl hs
  simp only [List.mem_cons, List.not_mem_nil, or_false] at hb
  rcases hb with e | e | e
  ·rcases hL.news l b hs hl with h | h
   ·have := hsh l b h hl
    omega
   ·omega
  ·have := hshM l b hs hl
   omega
  ·have := hshM l b hs hl
   omega
 refine (runs_beside hF2 (Stop := fun L g w' => L = [] ∧ g = G (c.finish (.bool true)) cs ∧ Kept w2.heap.size w2 w') (alS3 n16 n21 bb cb a1 b0 c0 b1 c1 (alS4 D A hS.s16 hL.shB n16 n21 bb cb a1 b0 c0 b1 c1 fun w3 hk3 => alS5 D A hS.s18 (sh_mono hL.shB hk3.size) n16 n21 bb cb a1 b0 c0 b1 c1 fun w4 hk4 => alS6 D A hS.s23 hR (sh_mono hL.shB (hk3.cut hk4).size) n16 n21 bb cb a1 b0 c0 b1 c1 fun w5 n41 nx hk5 hnx hx =>
  have hk25 := (hk3.cut hk4).cut hk5
  alS7 D A hS.s27 (sh_mono hL.shB hk25.size) n16 n21 bb cb a1 b0 c0 b1 c1 n41 nx (fun b hb l hl => by
   simp only [List.mem_cons, List.not_mem_nil, or_false] at hb
   rcases hb with e | e | e | e
   ·exact hno b (by simp [e]) l hl
   ·exact hno b (by simp [e]) l hl
   ·exact hno b (by simp [e]) l hl
   ·intro hs
    have h1 := hL.shB l b hs hl
    have h2 := (hk3.cut hk4).size
    omega) (hib2.of_get (hk25.old _ hib2.lt)) (hib0.of_get (hk25.old _ hib0.lt)) (hib1.of_get (hk25.old _ hib1.lt)) (Array.getElem?_eq_some_iff.1 hx).1 hx fun w6 hk6 => mw_stop fun d => ⟨rfl, rfl, (hk25.cut hk6).at d⟩))).mono fun m3 t3 ⟨gs3, a3, w3, sl3, q3, L3, hm, hsz3, hF3, hL3, ha3, hk3⟩ => ?_
 subst hm hL3 ha3
 refine ⟨gs3, w3, sl3, q3, Sh', rfl, hF3, hk1.cut (hL.kept.cut hk3), hL.sh, fun l b h1 h2 => (hL.news l b h1 h2).imp id fun h => by omega, sh_mono hL.shB hk3.size⟩
end
end Go.Mt
namespace Go.Mt
open Go.Tr Go.Conc Go.ConcN Go.Proofs
abbrev opsA : Array Oper := #[{ dst := some 0, op := .assign (.const (.bool true)), type := 4, pos := "", after := #[], guard := none }]
abbrev bodyA : Code := .seq (.region 0 opsA false) .ret
structure Stand (P : Program) : Prop where
 fn : ∃ fn, P.funcs[20]? = some fn ∧ fn.body = some bodyA ∧ fn.results = #[.tmp 0] ∧ fn.params.size = 0 ∧ fn.ntmps = 1
theorem stand_path {P : Program} (h : Stand P) (c : Frame) (cs : List Frame) (u : World) : LPath P (G (Frame.enter P 20 #[] .normal) (c :: cs)) u (G (c.finish (.bool true)) cs) u := by
 obtain ⟨fn, hf, hb, hr, _, hn⟩ := h.fn
 rw [enter_at _ hf hb, hn]
 have hra : ∀ w, (execOp (Act.eval ⟨#[undef], []⟩) (opsA[0]'(by decide))).run P w = .ok (.value (.bool true)) w := fun w => by
  unfold execOp
  simp [opsA, Act.eval]
 have e0 : (#[] : Array Value) ++ Array.replicate (1 - (#[] : Array Value).size) undef = #[undef] := by rfl
 rw [e0]
 have e1 : stepG P true (G ((base 20).at ⟨#[undef], []⟩ [.code bodyA]) (c :: cs)) u = .go (G ((base 20).at ⟨#[undef], []⟩ [.code (.region 0 opsA false), .code .ret]) (c :: cs)) u := stepG_seq
 have e2 : stepG P true (G ((base 20).at ⟨#[undef], []⟩ [.code (.region 0 opsA false), .code .ret]) (c :: cs)) u = .go (G ((base 20).at ⟨#[undef], []⟩ [.inRegion opsA [0], .code .ret]) (c :: cs)) u := stepG_region
 have e3 : stepG P true (G ((base 20).at ⟨#[undef], []⟩ [.inRegion opsA [0], .code .ret]) (c :: cs)) u = .go (G ((base 20).at ⟨#[.bool true], []⟩ [.inRegion opsA [], .code .ret]) (c :: cs)) u (listed P (base 20).fn ⟨#[undef], []⟩ (opsA[0]'(by decide)) u) := stepG_value (o := opsA[0]'(by decide)) rfl rfl (by decide) (hra u)
 have e4 : stepG P true (G ((base 20).at ⟨#[.bool true], []⟩ [.inRegion opsA [], .code .ret]) (c :: cs)) u = .go (G ((base 20).at ⟨#[.bool true], []⟩ [.code .ret]) (c :: cs)) u := stepG_region_end
 have e5 : stepG P true (G ((base 20).at ⟨#[.bool true], []⟩ [.code .ret]) (c :: cs)) u = .go (G { (base 20).at ⟨#[.bool true], []⟩ [.code .ret] with mode := .returning } (c :: cs)) u := stepG_ret'
 have e6 : stepG P true (G { (base 20).at ⟨#[.bool true], []⟩ [.code .ret] with mode := .returning } (c :: cs)) u = .go (G (c.finish (.bool true)) cs) u := stepG_leave1 rfl rfl hf hr
 exact .cons u.tape e1 (.cons u.tape e2 (.cons u.tape e3 (.cons u.tape e4 (.cons u.tape e5 (.cons u.tape e6 (.nil rfl))))))
section
variable {W0 : World} {P : Program} {S0 S T : FuncId → Bool} {kdOf : FuncId → Kinds} {K : Cfg}
theorem special_alive (D : Duo P S0 kdOf) (hCT : CalmS P Try.prog.funcs S T kdOf) (A : AlK P) (hS : AlS S0) (hR : ResT P Try.f23) (hSt : Stand P) (hT20 : ∀ f, T f = true → S f = false → f = 20) (hRd : ∀ b, K.Rd b → b < K.N) : Special W0 P Try.prog.funcs S T kdOf K [] [] := by
 intro L g g' gs u w t q Sh sl hE hW hI hF
 obtain ⟨fe, xs, xs', cs, cs', hSf, hTf, rfl, rfl, has, hne, hz, hstk⟩ := hE
 obtain rfl := hT20 fe hTf hSf
 obtain ⟨fn, hf, hb, hr, hps, hnt⟩ := hSt.fn
 have h0 : xs.size = 0 := by
  have : (match P.funcs[20]? with | some fn => fn.params.size == xs.size | none => false) = true := hz
  rw [hf] at this
  simp [hps] at this
  omega
 obtain rfl : xs = #[] := Array.eq_empty_of_size_eq_zero h0
 obtain rfl : xs' = #[] := Array.eq_empty_of_size_eq_zero (has.1.trans rfl)
 cases hstk with
 |nil => exact absurd rfl hne
 |@cons _ g tm tm' ops i rest td cs cs' o ht ho hd hc hSg hs =>
  rw [D.same] at hF
  refine (aliveCo (sl0 := sl) D A hS hR hI.mem hI.shB hF).mono fun m t ⟨gs', w', sl', q', Sh', hm, hF', hk, h1, h2, h3⟩ => ?_
  have hone : oneB P 20 = true := by simp [oneB, hf, hr]
  have hdst : (ops[i]?).bind (·.dst) = o.dst := by rw [ho]; rfl
  have hcr : (Item.inRegion ops rest :: td).all (itemB P T (kdOf g)) = true := by
   simp only [List.all_cons, Bool.and_eq_true, itemB] at hc ⊢
   exact hc
  have hvd : RelD K (kdOf g) o.dst L (.bool true) (.bool true) := RelD.part (.cell (.flat rfl))
  refine ⟨gs', w', sl', q', Sh', L, G ((frm g tm (.inRegion ops (i :: rest) :: td) .run).finish (.bool true)) (cs ++ [c0]), _, u, hm, hF', stand_path hSt _ _ u, ?_, ?_, ?_, ?_⟩
  ·rintro ⟨_, h⟩
   simp only [finish_frm, G] at h
   rcases h with h | ⟨_, h⟩
   ·cases h
   ·cases h
  ·simp only [finish_frm, hdst]
   exact ⟨g, _, _, _, _, cs, cs', rfl, rfl, ht.put2 _ hvd, hcr, hSg, hs, .inl rfl⟩
  ·exact hW.rely ⟨hk.os, hk.output, hk.size, fun b hb hl => hk.old b (Nat.lt_of_lt_of_le hl hW.wsize), fun b hb => hk.old b (hW.within b hb.1), fun j b s hj => hk.old b (Nat.lt_of_lt_of_le (hW.ali j b s hj).1 hW.wsize)⟩
  ·refine ⟨hI.kept.trans ⟨hk.os, hk.output, hk.tape, hk.size, fun b hb => hk.old b (Nat.lt_of_lt_of_le hb hW.wsize)⟩, fun l hl => h1 l (hI.mem l hl), h3, fun b hb l hl hs => ?_, fun b hb l hl hs => ?_, fun j b s hj l hl hs => ?_⟩
   ·rcases h2 l b hs hl with h | h
    ·exact hI.rd b hb l hl h
    ·have := hRd b hb
     have := hW.wsize
     omega
   ·rcases h2 l b hs hl with h | h
    ·exact hI.al b hb l hl h
    ·have := hW.within b hb.1
     omega
   ·rcases h2 l b hs hl with h | h
    ·exact hI.ra j b s hj l hl h
    ·have := (hW.ali j b s hj).1
     have := hW.wsize
     omega
end
end Go.Mt
namespace Go.Proofs
open Go
def Tra.f20 : Go.Func :=
{ name := "droveway/drovewaylaw06.alive", origin := "", params := #[], resultTypes := #[4], nfree := 0, ntmps := 1,
  results := #[Go.ResultVar.tmp 0],
  body :=
    some
      ((Go.Code.region 0
            #[{ dst := some 0, op := Go.Op.assign (Go.Operand.const (Go.Value.bool true)), type := 4,
                pos := "", after := #[], guard := none }]
            false).seq
        Go.Code.ret),
  norace := false, file := "droveway/drovewaylaw06/law.go", endLine := 19, met := [], tmpNames := #[""] }
noncomputable def Tra.prog : Program := { Try.prog with funcs := Try.prog.funcs.setIfInBounds 20 Tra.f20 }
theorem Tra.func (f : Nat) (h : f ≠ 20) : Tra.prog.funcs[f]? = Try.prog.funcs[f]? := Array.getElem?_setIfInBounds_ne (Ne.symm h)
@[simp] theorem Tra.func20 : Tra.prog.funcs[20]? = some Tra.f20 := by
 have h : 20 < Try.prog.funcs.size := (Array.getElem?_eq_some_iff.1 Try.func20).1
 exact Array.getElem?_setIfInBounds_self_of_lt h
end Go.Proofs
