/- The theorem of MobsNumbers, proved; part 3 of 7: its texts, merged. -/
import Derived.Test.YtdhgeondbnpeoaaNuB
import Derived.KernelRfl
import Derived.Below
import Derived.Deep.Draws
import Derived.Deep.AppendLies
import Derived.Maps.AppendAt
import Derived.OwnWalk
import Derived.Laws.BytesArg
import Derived.Laws.MakeOwn
import Derived.Laws.OwnMore
import Derived.Deep.OwnRows
import Derived.Tactics
import Derived.Lib.ConvBytes
import Derived.Laws.Slices
import Derived.WalkKit
import Derived.RowKit3
import Derived.Deep.LoopGhost
import Derived.Deep.QuietTactic
import Derived.BigQuiet
import Derived.WideLaws
import Derived.Deep.DeepCutAuto
import Derived.Deep.CutBlock
import Derived.Deep.RegionHeld3
import Derived.Laws.Rows
import Derived.Lib.AppendStr
import Derived.ArgAppend
import Derived.Laws.IdiomCopy
import Derived.RowKit
import Derived.OrdersHeld
import Derived.Laws.BitsLemmas
import Derived.Laws.StructEq
set_option linter.unnecessarySimpa false
set_option linter.defProp false
set_option linter.unusedVariables false
set_option linter.unusedSimpArgs false
set_option linter.unusedSectionVars false
set_option maxRecDepth 100000
set_option maxHeartbeats 8000000
namespace Go.Mt
open Go.Tr Go.Conc Go.ConcN Go.Proofs
structure Duo (P:Program) (S:FuncId->Bool) (kdOf:FuncId->y0t):Prop where
 same:wf P Try.prog.funcs=Try.prog
 calm:y27 P Try.prog.funcs S S kdOf
def ArgsOk (bl:List Nat) (args:Array Value):Prop:=∀ v ∈ args,y50 v=true∨∃ b n c,v=.slice (some ⟨b,0,none⟩) n c∧b ∈ bl
def ResT (P:Program) (fn:Func):Prop:=∀ (tm:Array Value) (u:World) (v:Value),(results fn tm).run P u=.ok v u->∀ τ,(results fn tm).run P (retape u τ)=.ok v (retape u τ)
theorem ycv {K:Cfg} {L:List Nat} {v:Value} (h:y50 v=true) (hs:y1a v=true∨∃ cs,v=.agg cs):RelP K L v v:=by
 rcases hs with h|⟨cs,rfl⟩
 ·exact .cell (.flat h)
 ·refine .agg ⟨rfl,fun i x y h1 h2=>?_⟩
  rw [h1] at h2;obtain rfl:=zSi h2;exact .flat (Array.all_eq_true_iff_forall_mem.1 h _ (Array.mem_iff_getElem?.2 ⟨i,h1⟩))
theorem ya8 {v:Value} (h:y50 v=true):y1a v=true∨∃ cs,v=.agg cs:=by
 cases v<;>first|exact .inr ⟨_,rfl⟩|exact .inl h
section
variable {P:Program} {S:FuncId->Bool} {kdOf:FuncId->y0t} {Sh:Loc->Prop} {Stop:List Nat->Goroutine->World->Prop} {w:World} {b:Frame} {a:Act} {kk:List Item} {cs:List Frame} {ops:Array Oper} {j:Nat} {rest:List Nat} {o:Oper}
theorem ygo (D:Duo P S kdOf) (hsh:∀ l b,Sh l->inB b l->b<w.heap.size) (ho:ops[j]?=some o) (hw:Region.wanted o (yielded ops a.tmps)=true) (hk:b.kind≠.early) {f:FuncId} {fn:Func} {args:Array Operand} {ats:Array TypeId} (hop:o.op=.call { callee:=.value (.func f),args,argTypes:=ats })
  (hf:Try.prog.funcs[f]?=some fn) (hnm:(fn.name == "runtime.NumGoroutine")=false) (hb:fn.body.isNone=false) (hS:S f=true) (hres:ResT P fn) {vs:Array Value} (hvs:args.map a.eval=vs) {bl:List Nat} (hbl:∀ b ∈ bl,(∃ xs,IntBlk w b xs)∧∀ l,inB b l->¬ Sh l) (ha:ArgsOk bl vs)
  {Post:Value->World->Prop} (hP:∀ v u τ,Post v u->Post v (retape u τ)) (hc:∀ u,(∀ b ∈ bl,∀ xs,IntBlk w b xs->IntBlk u b xs)->u.heap.size=w.heap.size->Calls P f vs u fun e u'=>∃ v,e=.returned v∧Post v u')
  (hn:∀ L v' w',Came w (fun b=>b ∈ bl) Post L v' w'->MW Sh Stop (G (b.at (a.put o.dst v') (.inRegion ops rest :: kk)) cs) w'):MW Sh Stop (G (b.at a (.inRegion ops (j :: rest) :: kk)) cs) w:=by
 refine yaw ho hw hk hop hf hnm hb hvs ?_;have hfp:P.funcs[f]?=some fn:=(D.calm.same f hS).symm.trans hf;have hsn:Seen w Sh (fun b=>b ∈ bl):=⟨fun b hb=>by
  obtain ⟨⟨xs,h1⟩,h2⟩:=hbl b hb;exact ⟨h1.lt,h2,h1.seen⟩⟩
 refine mw_calm D.same D.calm hsh hfp hS hres hsn (Post:=Post) ?_ hP (fun τ=>hc _ (fun b hb xs h=>h.fz hb τ) (ya7 _ _)) fun L v' w' hcame=>?_
 ·refine ⟨rfl,fun i v v' h1 h2=>?_⟩
  rw [h1] at h2;obtain rfl:=zSi h2;rcases ha v (Array.mem_iff_getElem?.2 ⟨i,h1⟩) with h|⟨b,n,c,rfl,hb⟩
  ·exact ycv h (ya8 h)
  ·obtain ⟨⟨xs,h1⟩,_⟩:=hbl b hb
   exact .cell (.slice (s:=0) (.inl ⟨rfl,.inl ⟨hb,h1.lt,rfl⟩⟩) rfl rfl)
 ·have:=hn L v' w' hcame
  rw [Frame.finish_at,ho];exact this
theorem y3v (D:Duo P S kdOf) (hsh:∀ l b,Sh l->inB b l->b<w.heap.size) (ho:ops[j]?=some o) (hw:Region.wanted o (yielded ops a.tmps)=true) (hk:b.kind≠.early) {f:FuncId} {fn:Func} {args:Array Operand} {ats:Array TypeId} (hop:o.op=.call { callee:=.value (.func f),args,argTypes:=ats })
  (hf:Try.prog.funcs[f]?=some fn) (hnm:(fn.name == "runtime.NumGoroutine")=false) (hb:fn.body.isNone=false) (hS:S f=true) (hres:ResT P fn) {vs:Array Value} (hvs:args.map a.eval=vs) {bl:List Nat} (hbl:∀ b ∈ bl,(∃ xs,IntBlk w b xs)∧∀ l,inB b l->¬ Sh l) (ha:ArgsOk bl vs)
  {r:Value} (hr:yc0 r=true) (hc:∀ u,(∀ b ∈ bl,∀ xs,IntBlk w b xs->IntBlk u b xs)->Calls P f vs u fun e u'=>e=.returned r)
  (hn:∀ w',Kept w.heap.size w w'->MW Sh Stop (G (b.at (a.put o.dst r) (.inRegion ops rest :: kk)) cs) w'):MW Sh Stop (G (b.at a (.inRegion ops (j :: rest) :: kk)) cs) w:=by
 refine ygo D hsh ho hw hk hop hf hnm hb hS hres hvs hbl ha (Post:=fun v _=>v=r) (fun _ _ _ h=>h) (fun u h1 _ bs=>?_) fun L v' w' hcame=>?_
 ·obtain ⟨e,w',fr,h3,h4⟩:=hc u h1 bs
  exact ⟨e,w',fr,⟨_,h3,rfl⟩,h4⟩
 ·obtain ⟨v,u,hv,_,rfl⟩:=hcame.val
  obtain rfl:=y8u hv hr;exact hn w' hcame.kept
end
theorem y1c (w:World) (xs:List Int):IntBlk (w.alloc (.cells (xs.map (Value.int .i64)).toArray 3 (0,0))) w.heap.size xs:=by
 refine ⟨_,_,by rw [y0u,if_pos rfl],fun c hc=>?_,fun i x h=>by simp [h]⟩;simp at hc;obtain ⟨x,_,rfl⟩:=hc;rfl
theorem y13 (w:World) (o:Obj) {b:Nat} (h:b<w.heap.size):(w.alloc o).heap[b]?=w.heap[b]?:=by rw [y0u,if_neg (by omega)]
end Go.Mt
namespace Go.Mt
open Go.Tr Go.Conc Go.ConcN Go.Proofs Go.RowKit Go.Conc.Lib Go.ConcR.Gen Go.ConcN.Gen
theorem qa3:∀ (w:Go.World),Go.Sem.run Go.Proofs.Try.prog (Go.isAgg 3) w=Go.Result.ok Bool.false w:=Try.isAgg3
theorem qu3:∀ (w:Go.World),Go.Sem.run Go.Proofs.Try.prog (Go.underlying 3) w=Go.Result.ok (Go.TypeDesc.int Go.IntKind.i64) w:=Try.runUnderlying3
theorem qs3:∀ (w:Go.World),Go.Sem.run Go.Proofs.Try.prog (Go.sizeOf 3) w=Go.Result.ok 1 w:=Try.sizeOf3
theorem qz3:∀ (w:Go.World),Go.Sem.run Go.Proofs.Try.prog (Go.zeroValue 3) w=Go.Result.ok (Go.Value.int Go.IntKind.i64 0) w:=Try.zeroValue3
theorem qa4:∀ (w:Go.World),Go.Sem.run Go.Proofs.Try.prog (Go.isAgg 4) w=Go.Result.ok Bool.false w:=Try.isAgg4
theorem qu4:∀ (w:Go.World),Go.Sem.run Go.Proofs.Try.prog (Go.underlying 4) w=Go.Result.ok Go.TypeDesc.bool w:=Try.runUnderlying4
theorem qs4:∀ (w:Go.World),Go.Sem.run Go.Proofs.Try.prog (Go.sizeOf 4) w=Go.Result.ok 1 w:=Try.sizeOf4
theorem qz4:∀ (w:Go.World),Go.Sem.run Go.Proofs.Try.prog (Go.zeroValue 4) w=Go.Result.ok (Go.Value.bool Bool.false) w:=Try.zeroValue4
theorem qa22:∀ (w:Go.World),Go.Sem.run Go.Proofs.Try.prog (Go.isAgg 22) w=Go.Result.ok Bool.false w:=Try.isAgg22
theorem qu22:∀ (w:Go.World),Go.Sem.run Go.Proofs.Try.prog (Go.underlying 22) w=Go.Result.ok (Go.TypeDesc.int Go.IntKind.i64) w:=Try.runUnderlying22
theorem qs22:∀ (w:Go.World),Go.Sem.run Go.Proofs.Try.prog (Go.sizeOf 22) w=Go.Result.ok 1 w:=Try.sizeOf22
theorem qz22:∀ (w:Go.World),Go.Sem.run Go.Proofs.Try.prog (Go.zeroValue 22) w=Go.Result.ok (Go.Value.int Go.IntKind.i64 0) w:=Try.zeroValue22
theorem qa29:∀ (w:Go.World),Go.Sem.run Go.Proofs.Try.prog (Go.isAgg 29) w=Go.Result.ok Bool.false w:=Try.isAgg29
theorem qu29:∀ (w:Go.World),Go.Sem.run Go.Proofs.Try.prog (Go.underlying 29) w=Go.Result.ok (Go.TypeDesc.slice 3) w:=Try.runUnderlying29
theorem qs29:∀ (w:Go.World),Go.Sem.run Go.Proofs.Try.prog (Go.sizeOf 29) w=Go.Result.ok 1 w:=Try.sizeOf29
theorem qz29:∀ (w:Go.World),Go.Sem.run Go.Proofs.Try.prog (Go.zeroValue 29) w=Go.Result.ok (Go.Value.slice Option.none 0 0) w:=Try.zeroValue29
theorem qa31:∀ (w:Go.World),Go.Sem.run Go.Proofs.Try.prog (Go.isAgg 31) w=Go.Result.ok Bool.true w:=Try.isAgg31
theorem qu31:∀ (w:Go.World),Go.Sem.run Go.Proofs.Try.prog (Go.underlying 31) w=Go.Result.ok (Go.TypeDesc.array 4 3) w:=Try.runUnderlying31
theorem qs31:∀ (w:Go.World),Go.Sem.run Go.Proofs.Try.prog (Go.sizeOf 31) w=Go.Result.ok 4 w:=Try.sizeOf31
theorem qz31:∀ (w:Go.World),Go.Sem.run Go.Proofs.Try.prog (Go.zeroValue 31) w=Go.Result.ok (Go.Value.agg #[Go.Value.int Go.IntKind.i64 0,Go.Value.int Go.IntKind.i64 0,Go.Value.int Go.IntKind.i64 0,Go.Value.int Go.IntKind.i64 0]) w:=Try.zeroValue31
structure AlK (P:Program):Prop where
 c36:∀ u b,IntBlk u b [0,1,1]->Calls P 36 #[.slice (some ⟨b,0,none⟩) 3 3] u fun e _=>e=.returned (.tuple #[.int .i64 3,.int .i64 0])
 c25:∀ u b,IntBlk u b [0,0,1]->Calls P 25 #[.slice (some ⟨b,0,none⟩) 3 3] u fun e u'=>∃ x,e=.returned (.tuple #[x,.int .i64 0])∧ResI u.heap.size u' x [0,1,1]
 c16:∀ u,Calls P 16 #[.int .i64 4,.int .i64 2] u fun e _=>e=.returned (.tuple #[.int .i64 7,.int .i64 0])
 c18:∀ u,Calls P 18 #[.int .i64 4,.int .i64 2] u fun e _=>e=.returned (.tuple #[.int .i64 6,.int .i64 0])
 c23:∀ u b,IntBlk u b [0,1,0,1]->Calls P 23 #[.slice (some ⟨b,0,none⟩) 4 4] u fun e _=>e=.returned (.tuple #[.agg #[.int .i64 0,.int .i64 1,.int .i64 2,.int .i64 3],.bool true,.int .i64 0])
 c27:∀ u b1 b2 c1 c2 xs,IntBlk u b1 xs->IntBlk u b2 xs->xs.length≤4->Calls P 27 #[.slice (some ⟨b1,0,none⟩) xs.length c1,.slice (some ⟨b2,0,none⟩) xs.length c2] u fun e _=>e=.returned (.bool true)
 c49:∀ u b b1 b2,IntBlk u b1 [0,0,1,1]->IntBlk u b2 [0,1,1,0]->u.heap[b]?=some (.cells #[.slice (some ⟨b1,0,none⟩) 4 4,.slice (some ⟨b2,0,none⟩) 4 4] 29 (0,2))->Calls P 49 #[.slice (some ⟨b,0,none⟩) 2 2] u fun e _=>e=.returned (.int .i64 0)
 c63:∀ u b1 b2,IntBlk u b1 [0,0,1,1]->IntBlk u b2 [0,1,1,0]->Calls P 63 #[.slice (some ⟨b1,0,none⟩) 4 4,.slice (some ⟨b2,0,none⟩) 4 4] u fun e u'=>∃ v,e=.returned v∧ResI u.heap.size u' v [0,1,2,3]
 c65:∀ u b1 b2,IntBlk u b1 [0,0,1,1]->IntBlk u b2 [0,1,1,0]->Calls P 65 #[.slice (some ⟨b1,0,none⟩) 4 4,.slice (some ⟨b2,0,none⟩) 4 4] u fun e u'=>∃ v,e=.returned v∧ResI u.heap.size u' v [0,0,0,0]
noncomputable abbrev b20:Frame:=base 20
theorem y3p {N:Nat} {u:World} {v:Value} {xs:List Int} (τ:Nat->Question->Nat) (h:ResI N u v xs):ResI N (retape u τ) v xs:=h
section
variable {P:Program} {S:FuncId->Bool} {kdOf:FuncId->y0t} {Sh:Loc->Prop} {Stop:List Nat->Goroutine->World->Prop} {w:World} {cs:List Frame}
def qq0:=And.intro qa3 (And.intro qu3 (And.intro qs3 (And.intro qz3 (And.intro qa4 (And.intro qu4 (And.intro qs4 (And.intro qz4 (And.intro qa22 (And.intro qu22 (And.intro qs22 (And.intro qz22 (And.intro qa29 (And.intro qu29 (And.intro qs29 (And.intro qz29 (And.intro qa31 (And.intro qu31 (And.intro qs31 qz31))))))))))))))))))
theorem alR1 (D:Duo P S kdOf) (A:AlK P) (hS36:S 36=true) (hsh:∀ l b,Sh l->inB b l->b<w.heap.size) (hk:∀ w' n16,Kept w.heap.size w w'->MW Sh Stop (G (b20.at ⟨#[.bool false,.int .i64 3,.int .i64 0,undef,undef,undef,undef,undef,undef,undef,undef,undef,undef,undef,undef,.tuple #[.int .i64 3,.int .i64 0],.slice (some ⟨n16,0,none⟩) 3 3,.tuple #[.int .i64 3,.int .i64 0],.int .i64 3,.int .i64 0,undef,undef,undef,undef,undef,undef,undef,undef,undef,undef,undef,undef,undef,undef,undef,undef,undef,undef,undef,undef,undef,undef,undef,undef,undef,undef,undef,undef,undef,undef,undef,undef,undef,undef,undef,undef,undef,undef,undef,undef,undef,undef,undef,undef,undef,undef,undef,undef,undef,undef,undef,undef,undef,undef,undef,undef,undef,undef,undef,undef,undef,undef,undef,undef,undef,undef,undef,undef,undef,undef,undef,undef,undef,undef,undef,undef,undef,undef,undef,undef,undef,undef,undef],[]⟩ [.code d2]) cs) w'):MW Sh Stop (G (Frame.enter Try.prog 20 #[] .normal) cs) w:=by
 rw [enter_at _ Try.func20 body20,nt20];simp only [List.size_toArray,List.length_cons,List.length_nil,Nat.reduceAdd,Nat.reduceSub,Array.replicate_succ,Array.replicate_zero,List.push_toArray,List.append_toArray,List.nil_append,List.cons_append];unfold d0;refine y0g rfl (fun _=>stepG_seq) ?_;refine y0g rfl (fun _=>stepG_region) ?_;rw [s20_0];simp only [List.range,List.range.loop];obtain ⟨o,ho,hd,hop,hg⟩:=o20_0_0;refine y0a ho (y07 hg _ _) (by decide) (zLe _) (v:=.bool false) (fun d=>by unfold execOp;simp [hop,Act.eval]) (fun d=>by unfold execOp;simp [hop,Act.eval]) ?_;rw [hd]
 walk_nrm
 clear ho hd hop hg o;refine y0g rfl (fun _=>stepG_region_end) ?_;unfold d1;refine y0g rfl (fun _=>stepG_seq) ?_;refine y0g rfl (fun _=>stepG_region) ?_;rw [s20_1];simp only [List.range,List.range.loop];obtain ⟨o,ho,hd,hop,hg⟩:=o20_1_0;refine y0a (w':=(w).alloc (.cells #[.int .i64 0,.int .i64 1,.int .i64 1] 3 (0,0))) ho (y07 hg _ _) (by decide) (by simp only [y09];omega) (v:=.slice (some ⟨w.heap.size,0,none⟩) 3 3) (fun d=>by unfold execOp;simp [hop,go_sem,qq0];first|exact ⟨rfl,rfl⟩|exact ⟨y09 _ _,rfl⟩|rfl) (fun d=>by unfold execOp;simp [hop,go_sem,qq0]) ?_;rw [hd]
 walk_nrm
 clear ho hd hop hg o;obtain ⟨w1,hw1⟩:∃ w1,w1=w.alloc (.cells #[.int .i64 0,.int .i64 1,.int .i64 1] 3 (0,0)):=⟨_,rfl⟩
 rw [← hw1];have hz1:w1.heap.size=w.heap.size+1:=by rw [hw1,y09]
 have hi1:IntBlk w1 w.heap.size [0,1,1]:=by rw [hw1];exact y1c w [0,1,1]
 have hk1:Kept w.heap.size w w1:=by rw [hw1];exact ⟨rfl,rfl,rfl,by rw [y09];omega,fun b hb=>y13 w _ hb⟩
 obtain ⟨o,ho,hd,hop,hg⟩:=o20_1_1;refine y3v D (y28 hsh hk1.size) ho (y07 hg _ _) (by decide) hop Try.func36 (by kernel_rfl) (by kernel_rfl) hS36 (y3o (by kernel_rfl)) (vs:=#[.slice (some ⟨w.heap.size,0,none⟩) 3 3]) (by simp [Act.eval]) (bl:=[w.heap.size]) (by simp only [List.mem_singleton];rintro b rfl;exact ⟨⟨_,hi1⟩,sh0 (k:=0) hsh⟩) (by intro v hv;simp at hv;subst hv;exact .inr ⟨_,_,_,rfl,by simp⟩) (r:=.tuple #[.int .i64 3,.int .i64 0]) (by simp [yc0,y50,y1a]) (fun u hu=>A.c36 u _ (hu _ (by simp) _ hi1)) fun w2 hk2=>?_
 rw [hd]
 walk_nrm
 clear ho hd hop hg o;obtain ⟨o,ho,hd,hop,hg⟩:=o20_1_2;refine y0a ho (y07 hg _ _) (by decide) (zLe _) (v:=.tuple #[.int .i64 3,.int .i64 0]) (fun d=>by unfold execOp;simp [hop,Act.eval]) (fun d=>by unfold execOp;simp [hop,Act.eval]) ?_;rw [hd]
 walk_nrm
 clear ho hd hop hg o;obtain ⟨o,ho,hd,hop,hg⟩:=o20_1_3;refine y0a ho (y07 hg _ _) (by decide) (zLe _) (v:=.int .i64 3) (fun d=>by unfold execOp;simp [hop,go_sem,qq0]) (fun d=>by unfold execOp;simp [hop,go_sem,qq0]) ?_;rw [hd]
 walk_nrm
 clear ho hd hop hg o;obtain ⟨o,ho,hd,hop,hg⟩:=o20_1_4;refine y0a ho (y07 hg _ _) (by decide) (zLe _) (v:=.int .i64 0) (fun d=>by unfold execOp;simp [hop,go_sem,qq0]) (fun d=>by unfold execOp;simp [hop,go_sem,qq0]) ?_;rw [hd]
 walk_nrm
 clear ho hd hop hg o;obtain ⟨o,ho,hd,hop,hg⟩:=o20_1_5;refine y0a ho (y07 hg _ _) (by decide) (zLe _) (v:=.int .i64 3) (fun d=>by unfold execOp;simp [hop,Act.eval]) (fun d=>by unfold execOp;simp [hop,Act.eval]) ?_;rw [hd]
 walk_nrm
 clear ho hd hop hg o;obtain ⟨o,ho,hd,hop,hg⟩:=o20_1_6;refine y0a ho (y07 hg _ _) (by decide) (zLe _) (v:=.int .i64 0) (fun d=>by unfold execOp;simp [hop,Act.eval]) (fun d=>by unfold execOp;simp [hop,Act.eval]) ?_;rw [hd]
 walk_nrm
 clear ho hd hop hg o;refine y0g rfl (fun _=>stepG_region_end) ?_;have hk02:Kept w.heap.size w w2:=hk1.trans ⟨hk2.os,hk2.output,hk2.tape,hk2.size,fun b hb=>hk2.old b (by omega)⟩;exact hk w2 w.heap.size hk02
theorem alR2 (D:Duo P S kdOf) (A:AlK P) (hS25:S 25=true) (hsh:∀ l b,Sh l->inB b l->b<w.heap.size) (hnew:∀ b,w.heap.size≤b->∀ l,inB b l->¬ Sh l) (n16:Nat) (hk:∀ w' n21 bb cb,Kept w.heap.size w w'->w.heap.size≤bb->IntBlk w' bb [0,1,1]->MW Sh Stop (G (b20.at ⟨#[.bool false,.int .i64 3,.int .i64 0,.slice (some ⟨bb,0,none⟩) 3 cb,.int .i64 0,undef,undef,undef,undef,undef,undef,undef,undef,undef,undef,.tuple #[.int .i64 3,.int .i64 0],.slice (some ⟨n16,0,none⟩) 3 3,.tuple #[.int .i64 3,.int .i64 0],.int .i64 3,.int .i64 0,.tuple #[.slice (some ⟨bb,0,none⟩) 3 cb,.int .i64 0],.slice (some ⟨n21,0,none⟩) 3 3,.tuple #[.slice (some ⟨bb,0,none⟩) 3 cb,.int .i64 0],.slice (some ⟨bb,0,none⟩) 3 cb,.int .i64 0,undef,undef,undef,undef,undef,undef,undef,undef,undef,undef,undef,undef,undef,undef,undef,undef,undef,undef,undef,undef,undef,undef,undef,undef,undef,undef,undef,undef,undef,undef,undef,undef,undef,undef,undef,undef,undef,undef,undef,undef,undef,undef,undef,undef,undef,undef,undef,undef,undef,undef,undef,undef,undef,undef,undef,undef,undef,undef,undef,undef,undef,undef,undef,undef,undef,undef,undef,undef,undef,undef,undef,undef,undef,undef,undef,undef,undef,undef],[]⟩ [.code d3]) cs) w'):MW Sh Stop (G (b20.at ⟨#[.bool false,.int .i64 3,.int .i64 0,undef,undef,undef,undef,undef,undef,undef,undef,undef,undef,undef,undef,.tuple #[.int .i64 3,.int .i64 0],.slice (some ⟨n16,0,none⟩) 3 3,.tuple #[.int .i64 3,.int .i64 0],.int .i64 3,.int .i64 0,undef,undef,undef,undef,undef,undef,undef,undef,undef,undef,undef,undef,undef,undef,undef,undef,undef,undef,undef,undef,undef,undef,undef,undef,undef,undef,undef,undef,undef,undef,undef,undef,undef,undef,undef,undef,undef,undef,undef,undef,undef,undef,undef,undef,undef,undef,undef,undef,undef,undef,undef,undef,undef,undef,undef,undef,undef,undef,undef,undef,undef,undef,undef,undef,undef,undef,undef,undef,undef,undef,undef,undef,undef,undef,undef,undef,undef,undef,undef,undef,undef,undef,undef],[]⟩ [.code d2]) cs) w:=by
 unfold d2;refine y0g rfl (fun _=>stepG_seq) ?_;refine y0g rfl (fun _=>stepG_region) ?_;rw [s20_2];simp only [List.range,List.range.loop];obtain ⟨o,ho,hd,hop,hg⟩:=o20_2_0;refine y0a (w':=(w).alloc (.cells #[.int .i64 0,.int .i64 0,.int .i64 1] 3 (0,0))) ho (y07 hg _ _) (by decide) (by simp only [y09];omega) (v:=.slice (some ⟨w.heap.size,0,none⟩) 3 3) (fun d=>by unfold execOp;simp [hop,go_sem,qq0];first|exact ⟨rfl,rfl⟩|exact ⟨y09 _ _,rfl⟩|rfl) (fun d=>by unfold execOp;simp [hop,go_sem,qq0]) ?_;rw [hd]
 walk_nrm
 clear ho hd hop hg o;obtain ⟨w1,hw1⟩:∃ w1,w1=w.alloc (.cells #[.int .i64 0,.int .i64 0,.int .i64 1] 3 (0,0)):=⟨_,rfl⟩
 rw [← hw1];have hz1:w1.heap.size=w.heap.size+1:=by rw [hw1,y09]
 have hi1:IntBlk w1 w.heap.size [0,0,1]:=by rw [hw1];exact y1c w [0,0,1]
 have hk1:Kept w.heap.size w w1:=by rw [hw1];exact ⟨rfl,rfl,rfl,by rw [y09];omega,fun b hb=>y13 w _ hb⟩
 obtain ⟨o,ho,hd,hop,hg⟩:=o20_2_1;refine ygo D (y28 hsh hk1.size) ho (y07 hg _ _) (by decide) hop Try.func25 (by kernel_rfl) (by kernel_rfl) hS25 (y3o (by kernel_rfl)) (vs:=#[.slice (some ⟨w.heap.size,0,none⟩) 3 3]) (by simp [Act.eval]) (bl:=[w.heap.size]) (by simp only [List.mem_singleton];rintro b rfl;exact ⟨⟨_,hi1⟩,hnew _ (zLe _)⟩) (by intro v hv;simp at hv;subst hv;exact .inr ⟨_,_,_,rfl,by simp⟩) (Post:=fun v u=>∃ x,v=.tuple #[x,.int .i64 0]∧ResI w1.heap.size u x [0,1,1]) (fun v u τ ⟨x,h1,h2⟩=>⟨x,h1,y3p τ h2⟩) (fun u hu hz bs=>?_) fun L v' w2 hcame=>?_
 ·obtain ⟨e,w',fr,⟨x,h3,h4⟩,h5⟩:=A.c25 u _ (hu _ (by simp) _ hi1) bs
  exact ⟨e,w',fr,⟨_,h3,x,rfl,by rw [← hz];exact h4⟩,h5⟩
 obtain ⟨v,u,hv,hW,x,rfl,hx⟩:=hcame.val;obtain ⟨x',y',rfl,hx1,hy1⟩:=ycu hv;obtain rfl:=y48 hy1 rfl;obtain ⟨bb,cb,rfl,hbL,hbN,hib⟩:=y7f rfl hW hx1 hx;replace hbN:w1.heap.size≤bb:=hbN;have hk2:=hcame.kept;simp only [List.length_cons,List.length_nil,Nat.reduceAdd];rw [hd]
 walk_nrm
 clear ho hd hop hg o;obtain ⟨o,ho,hd,hop,hg⟩:=o20_2_2;refine y0a ho (y07 hg _ _) (by decide) (zLe _) (v:=.tuple #[.slice (some ⟨bb,0,none⟩) 3 cb,.int .i64 0]) (fun d=>by unfold execOp;simp [hop,Act.eval]) (fun d=>by unfold execOp;simp [hop,Act.eval]) ?_;rw [hd]
 walk_nrm
 clear ho hd hop hg o;obtain ⟨o,ho,hd,hop,hg⟩:=o20_2_3;refine y0a ho (y07 hg _ _) (by decide) (zLe _) (v:=.slice (some ⟨bb,0,none⟩) 3 cb) (fun d=>by unfold execOp;simp [hop,go_sem,qq0]) (fun d=>by unfold execOp;simp [hop,go_sem,qq0]) ?_;rw [hd]
 walk_nrm
 clear ho hd hop hg o;obtain ⟨o,ho,hd,hop,hg⟩:=o20_2_4;refine y0a ho (y07 hg _ _) (by decide) (zLe _) (v:=.int .i64 0) (fun d=>by unfold execOp;simp [hop,go_sem,qq0]) (fun d=>by unfold execOp;simp [hop,go_sem,qq0]) ?_;rw [hd]
 walk_nrm
 clear ho hd hop hg o;obtain ⟨o,ho,hd,hop,hg⟩:=o20_2_5;refine y0a ho (y07 hg _ _) (by decide) (zLe _) (v:=.slice (some ⟨bb,0,none⟩) 3 cb) (fun d=>by unfold execOp;simp [hop,Act.eval]) (fun d=>by unfold execOp;simp [hop,Act.eval]) ?_;rw [hd]
 walk_nrm
 clear ho hd hop hg o;obtain ⟨o,ho,hd,hop,hg⟩:=o20_2_6;refine y0a ho (y07 hg _ _) (by decide) (zLe _) (v:=.int .i64 0) (fun d=>by unfold execOp;simp [hop,Act.eval]) (fun d=>by unfold execOp;simp [hop,Act.eval]) ?_;rw [hd]
 walk_nrm
 clear ho hd hop hg o;refine y0g rfl (fun _=>stepG_region_end) ?_;have hk02:Kept w.heap.size w w2:=hk1.trans ⟨hk2.os,hk2.output,hk2.tape,hk2.size,fun b hb=>hk2.old b (by omega)⟩;exact hk w2 w.heap.size bb cb hk02 (by omega) hib
theorem alR3 (n16 n21 bb cb:Nat) (hk:∀ w' a1,Kept w.heap.size w w'->a1=w.heap.size->a1+2=w'.heap.size->IntBlk w' a1 [0,0,1,1]->IntBlk w' (a1+1) [0,1,1,0]->MW Sh Stop (G (Frame.enter Try.prog 34 #[.slice (some ⟨a1,0,none⟩) 4 4,.slice (some ⟨a1+1,0,none⟩) 4 4] .normal) (b20.at ⟨#[.bool false,.int .i64 3,.int .i64 0,.slice (some ⟨bb,0,none⟩) 3 cb,.int .i64 0,undef,undef,undef,undef,undef,undef,undef,undef,undef,undef,.tuple #[.int .i64 3,.int .i64 0],.slice (some ⟨n16,0,none⟩) 3 3,.tuple #[.int .i64 3,.int .i64 0],.int .i64 3,.int .i64 0,.tuple #[.slice (some ⟨bb,0,none⟩) 3 cb,.int .i64 0],.slice (some ⟨n21,0,none⟩) 3 3,.tuple #[.slice (some ⟨bb,0,none⟩) 3 cb,.int .i64 0],.slice (some ⟨bb,0,none⟩) 3 cb,.int .i64 0,undef,.slice (some ⟨a1,0,none⟩) 4 4,.slice (some ⟨a1+1,0,none⟩) 4 4,undef,undef,undef,undef,undef,undef,undef,undef,undef,undef,undef,undef,undef,undef,undef,undef,undef,undef,undef,undef,undef,undef,undef,undef,undef,undef,undef,undef,undef,undef,undef,undef,undef,undef,undef,undef,undef,undef,undef,undef,undef,undef,undef,undef,undef,undef,undef,undef,undef,undef,undef,undef,undef,undef,undef,undef,undef,undef,undef,undef,undef,undef,undef,undef,undef,undef,undef,undef,undef,undef,undef,undef,undef,undef,undef],[]⟩ [.inRegion (r20 3) [2,3,4,5,6,7,8,9],.code d4] :: cs)) w'):MW Sh Stop (G (b20.at ⟨#[.bool false,.int .i64 3,.int .i64 0,.slice (some ⟨bb,0,none⟩) 3 cb,.int .i64 0,undef,undef,undef,undef,undef,undef,undef,undef,undef,undef,.tuple #[.int .i64 3,.int .i64 0],.slice (some ⟨n16,0,none⟩) 3 3,.tuple #[.int .i64 3,.int .i64 0],.int .i64 3,.int .i64 0,.tuple #[.slice (some ⟨bb,0,none⟩) 3 cb,.int .i64 0],.slice (some ⟨n21,0,none⟩) 3 3,.tuple #[.slice (some ⟨bb,0,none⟩) 3 cb,.int .i64 0],.slice (some ⟨bb,0,none⟩) 3 cb,.int .i64 0,undef,undef,undef,undef,undef,undef,undef,undef,undef,undef,undef,undef,undef,undef,undef,undef,undef,undef,undef,undef,undef,undef,undef,undef,undef,undef,undef,undef,undef,undef,undef,undef,undef,undef,undef,undef,undef,undef,undef,undef,undef,undef,undef,undef,undef,undef,undef,undef,undef,undef,undef,undef,undef,undef,undef,undef,undef,undef,undef,undef,undef,undef,undef,undef,undef,undef,undef,undef,undef,undef,undef,undef,undef,undef,undef,undef,undef,undef],[]⟩ [.code d3]) cs) w:=by
 unfold d3;refine y0g rfl (fun _=>stepG_seq) ?_;refine y0g rfl (fun _=>stepG_region) ?_;rw [s20_3];simp only [List.range,List.range.loop];obtain ⟨o,ho,hd,hop,hg⟩:=o20_3_0;refine y0a (w':=(w).alloc (.cells #[.int .i64 0,.int .i64 0,.int .i64 1,.int .i64 1] 3 (0,0))) ho (y07 hg _ _) (by decide) (by simp only [y09];omega) (v:=.slice (some ⟨w.heap.size,0,none⟩) 4 4) (fun d=>by unfold execOp;simp [hop,go_sem,qq0];first|exact ⟨rfl,rfl⟩|exact ⟨y09 _ _,rfl⟩|rfl) (fun d=>by unfold execOp;simp [hop,go_sem,qq0]) ?_;rw [hd]
 walk_nrm
 clear ho hd hop hg o;obtain ⟨o,ho,hd,hop,hg⟩:=o20_3_1;refine y0a (w':=(w.alloc (.cells #[.int .i64 0,.int .i64 0,.int .i64 1,.int .i64 1] 3 (0,0))).alloc (.cells #[.int .i64 0,.int .i64 1,.int .i64 1,.int .i64 0] 3 (0,0))) ho (y07 hg _ _) (by decide) (by simp only [y09];omega) (v:=.slice (some ⟨w.heap.size+1,0,none⟩) 4 4) (fun d=>by unfold execOp;simp [hop,go_sem,qq0];first|exact ⟨rfl,rfl⟩|exact ⟨y09 _ _,rfl⟩|rfl) (fun d=>by unfold execOp;simp [hop,go_sem,qq0]) ?_;rw [hd]
 walk_nrm
 clear ho hd hop hg o;obtain ⟨o,ho,hd,hop,hg⟩:=yd7;refine yaw ho (y07 hg _ _) (by decide) hop Try.func34 (by kernel_rfl) (by kernel_rfl) (vs:=#[.slice (some ⟨w.heap.size,0,none⟩) 4 4,.slice (some ⟨w.heap.size+1,0,none⟩) 4 4]) (by simp [Act.eval]) ?_;have hz:((w.alloc (.cells #[.int .i64 0,.int .i64 0,.int .i64 1,.int .i64 1] 3 (0,0))).alloc (.cells #[.int .i64 0,.int .i64 1,.int .i64 1,.int .i64 0] 3 (0,0))).heap.size=w.heap.size+2:=by rw [y09,y09]
 refine hk _ w.heap.size ⟨rfl,rfl,rfl,by omega,fun b hb=>by rw [y13 _ _ (by rw [y09];omega),y13 _ _ hb]⟩ rfl hz.symm ((y1c w [0,0,1,1]).of_get (y13 _ _ (by rw [y09];omega))) ?_;have:=y1c (w.alloc (.cells #[.int .i64 0,.int .i64 0,.int .i64 1,.int .i64 1] 3 (0,0))) [0,1,1,0];rw [y09] at this;exact this
end
end Go.Mt
namespace Go.Mt
open Go.Tr Go.Conc Go.ConcN Go.Proofs Go.RowKit Go.Conc.Lib Go.ConcR.Gen Go.ConcN.Gen
theorem y3c {w:World} {b i:Nat} {arr:Array Value} {e:TypeId} {v:Value} (h:w.heap[b]?=some (.cells arr e (0,0))) (hv:arr[i]?=some v):w.cell? ⟨b,i,none⟩=some v∧w.frozen? ⟨b,i,none⟩=false:=by
 simp [World.cell?,World.frozen?,h,hv]
theorem y5i {w:World} {b i:Nat} {arr:Array Value} {e:TypeId} {v:Value} (h:w.heap[b]?=some (.cells arr e (0,0))):(w.setCell ⟨b,i,none⟩ v).heap[b]?=some (.cells (arr.setIfInBounds i v) e (0,0)):=by
 rw [setCell_eq_setRow _ b i arr _ (0,0) _ h,setRow_heap _ _ _ _ _ _ h]
def set4 (w:World) (b:Nat) (x0 x1 x2 x3:Value):World:=(((w.setCell ⟨b,0,none⟩ x0).setCell ⟨b,1,none⟩ x1).setCell ⟨b,2,none⟩ x2).setCell ⟨b,3,none⟩ x3
theorem y5j (w:World) (b:Nat) (x0 x1 x2 x3:Value):(set4 w b x0 x1 x2 x3).heap.size=w.heap.size:=by
 simp only [set4,(aside_setCell _ _ _).size]
theorem ygz (w:World) (b:Nat) (x0 x1 x2 x3:Value) {c:Nat} (h:c≠b):(set4 w b x0 x1 x2 x3).heap[c]?=w.heap[c]?:=by
 unfold set4;rw [(aside_setCell _ ⟨b,3,none⟩ _).block c h,(aside_setCell _ ⟨b,2,none⟩ _).block c h,(aside_setCell _ ⟨b,1,none⟩ _).block c h,(aside_setCell _ ⟨b,0,none⟩ _).block c h]
theorem set4_at (w:World) (b:Nat) (x0 x1 x2 x3:Value) {y0 y1 y2 y3:Value} {e:TypeId} (h:w.heap[b]?=some (.cells #[y0,y1,y2,y3] e (0,0))):(set4 w b x0 x1 x2 x3).heap[b]?=some (.cells #[x0,x1,x2,x3] e (0,0)):=by
 unfold set4;exact (y5i (y5i (y5i (y5i h)))).trans (by simp)
section
variable {Sh:Loc->Prop} {Stop:List Nat->Goroutine->World->Prop} {b:Frame} {a:Act} {kk:List Item} {cs:List Frame} {w w':World} {ops:Array Oper} {j:Nat} {rest:List Nat} {o:Oper} {x y:Operand} {v:Value}
theorem ybx (ho:ops[j]?=some o) (hg:o.guard=none) (hk:b.kind≠.early) (hop:o.op=.alloc 31)
  (hn:MW Sh Stop (G (b.at (a.put o.dst (ptr w.heap.size)) (.inRegion ops rest :: kk)) cs) (w.alloc (.cells #[.int .i64 0,.int .i64 0,.int .i64 0,.int .i64 0] 31 (0,0)))):MW Sh Stop (G (b.at a (.inRegion ops (j :: rest) :: kk)) cs) w:=by
 refine y3m ho hg hk (by rw [y09];omega) (fun d=>?_) (fun d=>?_) hn
 ·unfold execOp
  simp only [hop];simp [go_sem,Try.isAgg31,Try.runUnderlying31,Try.sizeOf31,Try.zeroValue31];exact ⟨rfl,rfl⟩
 ·unfold execOp
  simp only [hop];simp [go_sem,Try.isAgg31,Try.runUnderlying31,Try.sizeOf31,Try.zeroValue31]
theorem yaz {P:Program} {fn:FuncId} {e x0 x1 x2 x3:Event} (h:e ∈ seen P fn #[x0,x1,x2,x3]):e=x0∨e=x1∨e=x2∨e=x3:=by
 have:=y2l (by simpa using h);simpa using this
theorem mw_st31 (ho:ops[j]?=some o) (hg:o.guard=none) (hk:b.kind≠.early) (hop:o.op=.store 31 x y) {bl:Nat} {x0 x1 x2 x3:Int} {y0 y1 y2 y3:Value} (hx:a.eval x=ptr bl) (hy:a.eval y=.agg #[.int .i64 x0,.int .i64 x1,.int .i64 x2,.int .i64 x3]) (hs:∀ l,inB bl l->¬ Sh l) (hB:bl<w.heap.size)
  (hc:w.heap[bl]?=some (.cells #[y0,y1,y2,y3] 31 (0,0)))
  (hn:MW Sh Stop (G (b.at (a.put o.dst undef) (.inRegion ops rest :: kk)) cs) (set4 w bl (.int .i64 x0) (.int .i64 x1) (.int .i64 x2) (.int .i64 x3))):MW Sh Stop (G (b.at a (.inRegion ops (j :: rest) :: kk)) cs) w:=by
 refine y2s rfl (by rw [y5j];exact zLe _) (fun d=>?_) hn;have h0:(w.at d).heap[bl]?=some (.cells #[y0,y1,y2,y3] 31 (0,0)):=hc;have h1:=y5i (i:=0) (v:=.int .i64 x0) h0;have h2:=y5i (i:=1) (v:=.int .i64 x1) h1;have h3:=y5i (i:=2) (v:=.int .i64 x2) h2;have c0:=y3c (i:=0) (v:=y0) h0 rfl;have c1:=y3c (i:=1) (v:=y1) h1 (by simp);have c2:=y3c (i:=2) (v:=y2) h2 (by simp);have c3:=y3c (i:=3) (v:=y3) h3 (by simp);have hr:(execOp a.eval o).run Try.prog (w.at d)=.ok .skip ((set4 w bl (.int .i64 x0) (.int .i64 x1) (.int .i64 x2) (.int .i64 x3)).at d):=by
  unfold execOp;simp only [hop,hx,hy];simp [go_sem,ptr,c0.1,c0.2,c1.1,c1.2,c2.1,c2.2,c3.1,c3.2,Try.isAgg31,Try.runUnderlying31,Try.sizeOf31];rfl
 have he':(execOp a.eval o).events Try.prog (w.at d) #[]=#[⟨.cell ⟨bl,0,none⟩,true,false⟩,⟨.cell ⟨bl,1,none⟩,true,false⟩,⟨.cell ⟨bl,2,none⟩,true,false⟩,⟨.cell ⟨bl,3,none⟩,true,false⟩]:=by
  unfold execOp;simp only [hop,hx,hy];simp [go_sem,ptr,storedEv,c0.1,c0.2,c1.1,c1.2,c2.1,c2.2,c3.1,c3.2,Try.isAgg31,Try.runUnderlying31,Try.sizeOf31]
 refine ⟨_,d,stepG_none ho (y07 hg _ _) hk hr,fun e hm=>?_⟩;unfold listed at hm;rw [he'] at hm;rcases yaz hm with rfl|rfl|rfl|rfl<;>exact y1i hs (by rw [y5j];exact hB)
theorem mw_ld31 (ho:ops[j]?=some o) (hw:Region.wanted o (yielded ops a.tmps)=true) (hk:b.kind≠.early) (hop:o.op=.load 31 x) {bl:Nat} {y0 y1 y2 y3:Value} (hx:a.eval x=ptr bl) (hs:∀ l,inB bl l->¬ Sh l) (hB:bl<w.heap.size)
  (hc:w.heap[bl]?=some (.cells #[y0,y1,y2,y3] 31 (0,0)))
  (hn:MW Sh Stop (G (b.at (a.put o.dst (.agg #[y0,y1,y2,y3])) (.inRegion ops rest :: kk)) cs) w):MW Sh Stop (G (b.at a (.inRegion ops (j :: rest) :: kk)) cs) w:=by
 refine y2s rfl (zLe _) (fun d=>?_) hn;have h0:(w.at d).heap[bl]?=some (.cells #[y0,y1,y2,y3] 31 (0,0)):=hc;have c0:=y3c (i:=0) (v:=y0) h0 rfl;have c1:=y3c (i:=1) (v:=y1) h0 rfl;have c2:=y3c (i:=2) (v:=y2) h0 rfl;have c3:=y3c (i:=3) (v:=y3) h0 rfl;have hr:(execOp a.eval o).run Try.prog (w.at d)=.ok (.value (.agg #[y0,y1,y2,y3])) (w.at d):=by
  unfold execOp;simp only [hop,hx];simp [go_sem,ptr,c0.1,c1.1,c2.1,c3.1,Try.isAgg31,Try.runUnderlying31,Try.sizeOf31]
 have he':(execOp a.eval o).events Try.prog (w.at d) #[]=#[⟨.cell ⟨bl,0,none⟩,false,false⟩,⟨.cell ⟨bl,1,none⟩,false,false⟩,⟨.cell ⟨bl,2,none⟩,false,false⟩,⟨.cell ⟨bl,3,none⟩,false,false⟩]:=by
  unfold execOp;simp only [hop,hx];simp [go_sem,ptr,c0.1,c1.1,c2.1,c3.1,Try.isAgg31,Try.runUnderlying31,Try.sizeOf31]
 refine ⟨_,d,stepG_value ho hw hk hr,fun e hm=>?_⟩;unfold listed at hm;rw [he'] at hm;rcases yaz hm with rfl|rfl|rfl|rfl<;>exact y1i hs hB
end
end Go.Mt
namespace Go.Mt
open Go.Tr Go.Conc Go.ConcN Go.Proofs Go.RowKit Go.Conc.Lib Go.ConcR.Gen Go.ConcN.Gen
section
variable {P:Program} {S:FuncId->Bool} {kdOf:FuncId->y0t} {Sh:Loc->Prop} {Stop:List Nat->Goroutine->World->Prop} {w:World} {cs:List Frame}
theorem alS3 (n16 n21 bb cb a1 b0 c0 b1 c1:Nat) (hk:MW Sh Stop (G (b20.at ⟨#[.bool false,.int .i64 3,.int .i64 0,.slice (some ⟨bb,0,none⟩) 3 cb,.int .i64 0,.slice (some ⟨b0,0,none⟩) 4 c0,.slice (some ⟨b1,0,none⟩) 4 c1,.int .i64 0,undef,undef,undef,undef,undef,undef,undef,.tuple #[.int .i64 3,.int .i64 0],.slice (some ⟨n16,0,none⟩) 3 3,.tuple #[.int .i64 3,.int .i64 0],.int .i64 3,.int .i64 0,.tuple #[.slice (some ⟨bb,0,none⟩) 3 cb,.int .i64 0],.slice (some ⟨n21,0,none⟩) 3 3,.tuple #[.slice (some ⟨bb,0,none⟩) 3 cb,.int .i64 0],.slice (some ⟨bb,0,none⟩) 3 cb,.int .i64 0,.tuple #[.slice (some ⟨b0,0,none⟩) 4 c0,.slice (some ⟨b1,0,none⟩) 4 c1,.int .i64 0],.slice (some ⟨a1,0,none⟩) 4 4,.slice (some ⟨a1+1,0,none⟩) 4 4,.tuple #[.slice (some ⟨b0,0,none⟩) 4 c0,.slice (some ⟨b1,0,none⟩) 4 c1,.int .i64 0],.slice (some ⟨b0,0,none⟩) 4 c0,.slice (some ⟨b1,0,none⟩) 4 c1,.int .i64 0,undef,undef,undef,undef,undef,undef,undef,undef,undef,undef,undef,undef,undef,undef,undef,undef,undef,undef,undef,undef,undef,undef,undef,undef,undef,undef,undef,undef,undef,undef,undef,undef,undef,undef,undef,undef,undef,undef,undef,undef,undef,undef,undef,undef,undef,undef,undef,undef,undef,undef,undef,undef,undef,undef,undef,undef,undef,undef,undef,undef,undef,undef,undef,undef,undef,undef,undef,undef,undef,undef,undef],[]⟩ [.code d4]) cs) w):MW Sh Stop (G ((b20.at ⟨#[.bool false,.int .i64 3,.int .i64 0,.slice (some ⟨bb,0,none⟩) 3 cb,.int .i64 0,undef,undef,undef,undef,undef,undef,undef,undef,undef,undef,.tuple #[.int .i64 3,.int .i64 0],.slice (some ⟨n16,0,none⟩) 3 3,.tuple #[.int .i64 3,.int .i64 0],.int .i64 3,.int .i64 0,.tuple #[.slice (some ⟨bb,0,none⟩) 3 cb,.int .i64 0],.slice (some ⟨n21,0,none⟩) 3 3,.tuple #[.slice (some ⟨bb,0,none⟩) 3 cb,.int .i64 0],.slice (some ⟨bb,0,none⟩) 3 cb,.int .i64 0,undef,.slice (some ⟨a1,0,none⟩) 4 4,.slice (some ⟨a1+1,0,none⟩) 4 4,undef,undef,undef,undef,undef,undef,undef,undef,undef,undef,undef,undef,undef,undef,undef,undef,undef,undef,undef,undef,undef,undef,undef,undef,undef,undef,undef,undef,undef,undef,undef,undef,undef,undef,undef,undef,undef,undef,undef,undef,undef,undef,undef,undef,undef,undef,undef,undef,undef,undef,undef,undef,undef,undef,undef,undef,undef,undef,undef,undef,undef,undef,undef,undef,undef,undef,undef,undef,undef,undef,undef,undef,undef,undef,undef],[]⟩ [.inRegion (r20 3) [2,3,4,5,6,7,8,9],.code d4]).finish (.tuple #[.slice (some ⟨b0,0,none⟩) 4 c0,.slice (some ⟨b1,0,none⟩) 4 c1,.int .i64 0])) cs) w:=by
 have hfin:(b20.at ⟨#[.bool false,.int .i64 3,.int .i64 0,.slice (some ⟨bb,0,none⟩) 3 cb,.int .i64 0,undef,undef,undef,undef,undef,undef,undef,undef,undef,undef,.tuple #[.int .i64 3,.int .i64 0],.slice (some ⟨n16,0,none⟩) 3 3,.tuple #[.int .i64 3,.int .i64 0],.int .i64 3,.int .i64 0,.tuple #[.slice (some ⟨bb,0,none⟩) 3 cb,.int .i64 0],.slice (some ⟨n21,0,none⟩) 3 3,.tuple #[.slice (some ⟨bb,0,none⟩) 3 cb,.int .i64 0],.slice (some ⟨bb,0,none⟩) 3 cb,.int .i64 0,undef,.slice (some ⟨a1,0,none⟩) 4 4,.slice (some ⟨a1+1,0,none⟩) 4 4,undef,undef,undef,undef,undef,undef,undef,undef,undef,undef,undef,undef,undef,undef,undef,undef,undef,undef,undef,undef,undef,undef,undef,undef,undef,undef,undef,undef,undef,undef,undef,undef,undef,undef,undef,undef,undef,undef,undef,undef,undef,undef,undef,undef,undef,undef,undef,undef,undef,undef,undef,undef,undef,undef,undef,undef,undef,undef,undef,undef,undef,undef,undef,undef,undef,undef,undef,undef,undef,undef,undef,undef,undef,undef,undef],[]⟩ [.inRegion (r20 3) [2,3,4,5,6,7,8,9],.code d4]).finish (.tuple #[.slice (some ⟨b0,0,none⟩) 4 c0,.slice (some ⟨b1,0,none⟩) 4 c1,.int .i64 0])=b20.at ⟨(#[.bool false,.int .i64 3,.int .i64 0,.slice (some ⟨bb,0,none⟩) 3 cb,.int .i64 0,undef,undef,undef,undef,undef,undef,undef,undef,undef,undef,.tuple #[.int .i64 3,.int .i64 0],.slice (some ⟨n16,0,none⟩) 3 3,.tuple #[.int .i64 3,.int .i64 0],.int .i64 3,.int .i64 0,.tuple #[.slice (some ⟨bb,0,none⟩) 3 cb,.int .i64 0],.slice (some ⟨n21,0,none⟩) 3 3,.tuple #[.slice (some ⟨bb,0,none⟩) 3 cb,.int .i64 0],.slice (some ⟨bb,0,none⟩) 3 cb,.int .i64 0,undef,.slice (some ⟨a1,0,none⟩) 4 4,.slice (some ⟨a1+1,0,none⟩) 4 4,undef,undef,undef,undef,undef,undef,undef,undef,undef,undef,undef,undef,undef,undef,undef,undef,undef,undef,undef,undef,undef,undef,undef,undef,undef,undef,undef,undef,undef,undef,undef,undef,undef,undef,undef,undef,undef,undef,undef,undef,undef,undef,undef,undef,undef,undef,undef,undef,undef,undef,undef,undef,undef,undef,undef,undef,undef,undef,undef,undef,undef,undef,undef,undef,undef,undef,undef,undef,undef,undef,undef,undef,undef,undef,undef]:Array Value).setIfInBounds 28 (.tuple #[.slice (some ⟨b0,0,none⟩) 4 c0,.slice (some ⟨b1,0,none⟩) 4 c1,.int .i64 0]),[]⟩ [.inRegion (r20 3) [3,4,5,6,7,8,9],.code d4]:=by
  obtain ⟨o,ho,hd,hop,hg⟩:=yd7;rw [Frame.finish_at,ho,Option.bind_some,hd];rfl
 rw [hfin];simp only [List.setIfInBounds_toArray,List.set_cons_succ,List.set_cons_zero];obtain ⟨o,ho,hd,hop,hg⟩:=o20_3_3;refine y0a ho (y07 hg _ _) (by decide) (zLe _) (v:=.tuple #[.slice (some ⟨b0,0,none⟩) 4 c0,.slice (some ⟨b1,0,none⟩) 4 c1,.int .i64 0]) (fun d=>by unfold execOp;simp [hop,Act.eval]) (fun d=>by unfold execOp;simp [hop,Act.eval]) ?_;rw [hd]
 walk_nrm
 clear ho hd hop hg o;obtain ⟨o,ho,hd,hop,hg⟩:=o20_3_4;refine y0a ho (y07 hg _ _) (by decide) (zLe _) (v:=.slice (some ⟨b0,0,none⟩) 4 c0) (fun d=>by unfold execOp;simp [hop,go_sem,qq0]) (fun d=>by unfold execOp;simp [hop,go_sem,qq0]) ?_;rw [hd]
 walk_nrm
 clear ho hd hop hg o;obtain ⟨o,ho,hd,hop,hg⟩:=o20_3_5;refine y0a ho (y07 hg _ _) (by decide) (zLe _) (v:=.slice (some ⟨b1,0,none⟩) 4 c1) (fun d=>by unfold execOp;simp [hop,go_sem,qq0]) (fun d=>by unfold execOp;simp [hop,go_sem,qq0]) ?_;rw [hd]
 walk_nrm
 clear ho hd hop hg o;obtain ⟨o,ho,hd,hop,hg⟩:=o20_3_6;refine y0a ho (y07 hg _ _) (by decide) (zLe _) (v:=.int .i64 0) (fun d=>by unfold execOp;simp [hop,go_sem,qq0]) (fun d=>by unfold execOp;simp [hop,go_sem,qq0]) ?_;rw [hd]
 walk_nrm
 clear ho hd hop hg o;obtain ⟨o,ho,hd,hop,hg⟩:=o20_3_7;refine y0a ho (y07 hg _ _) (by decide) (zLe _) (v:=.slice (some ⟨b0,0,none⟩) 4 c0) (fun d=>by unfold execOp;simp [hop,Act.eval]) (fun d=>by unfold execOp;simp [hop,Act.eval]) ?_;rw [hd]
 walk_nrm
 clear ho hd hop hg o;obtain ⟨o,ho,hd,hop,hg⟩:=o20_3_8;refine y0a ho (y07 hg _ _) (by decide) (zLe _) (v:=.slice (some ⟨b1,0,none⟩) 4 c1) (fun d=>by unfold execOp;simp [hop,Act.eval]) (fun d=>by unfold execOp;simp [hop,Act.eval]) ?_;rw [hd]
 walk_nrm
 clear ho hd hop hg o;obtain ⟨o,ho,hd,hop,hg⟩:=o20_3_9;refine y0a ho (y07 hg _ _) (by decide) (zLe _) (v:=.int .i64 0) (fun d=>by unfold execOp;simp [hop,Act.eval]) (fun d=>by unfold execOp;simp [hop,Act.eval]) ?_;rw [hd]
 walk_nrm
 clear ho hd hop hg o;refine y0g rfl (fun _=>stepG_region_end) ?_;exact hk
theorem alS4 (D:Duo P S kdOf) (A:AlK P) (hS:S 16=true) (hsh:∀ l b,Sh l->inB b l->b<w.heap.size) (n16 n21 bb cb a1 b0 c0 b1 c1:Nat) (hk:∀ w',Kept w.heap.size w w'->MW Sh Stop (G (b20.at ⟨#[.bool false,.int .i64 3,.int .i64 0,.slice (some ⟨bb,0,none⟩) 3 cb,.int .i64 0,.slice (some ⟨b0,0,none⟩) 4 c0,.slice (some ⟨b1,0,none⟩) 4 c1,.int .i64 0,.int .i64 7,.int .i64 0,undef,undef,undef,undef,undef,.tuple #[.int .i64 3,.int .i64 0],.slice (some ⟨n16,0,none⟩) 3 3,.tuple #[.int .i64 3,.int .i64 0],.int .i64 3,.int .i64 0,.tuple #[.slice (some ⟨bb,0,none⟩) 3 cb,.int .i64 0],.slice (some ⟨n21,0,none⟩) 3 3,.tuple #[.slice (some ⟨bb,0,none⟩) 3 cb,.int .i64 0],.slice (some ⟨bb,0,none⟩) 3 cb,.int .i64 0,.tuple #[.slice (some ⟨b0,0,none⟩) 4 c0,.slice (some ⟨b1,0,none⟩) 4 c1,.int .i64 0],.slice (some ⟨a1,0,none⟩) 4 4,.slice (some ⟨a1+1,0,none⟩) 4 4,.tuple #[.slice (some ⟨b0,0,none⟩) 4 c0,.slice (some ⟨b1,0,none⟩) 4 c1,.int .i64 0],.slice (some ⟨b0,0,none⟩) 4 c0,.slice (some ⟨b1,0,none⟩) 4 c1,.int .i64 0,.tuple #[.int .i64 7,.int .i64 0],.tuple #[.int .i64 7,.int .i64 0],.int .i64 7,.int .i64 0,undef,undef,undef,undef,undef,undef,undef,undef,undef,undef,undef,undef,undef,undef,undef,undef,undef,undef,undef,undef,undef,undef,undef,undef,undef,undef,undef,undef,undef,undef,undef,undef,undef,undef,undef,undef,undef,undef,undef,undef,undef,undef,undef,undef,undef,undef,undef,undef,undef,undef,undef,undef,undef,undef,undef,undef,undef,undef,undef,undef,undef,undef,undef,undef,undef,undef,undef],[]⟩ [.code d5]) cs) w'):MW Sh Stop (G (b20.at ⟨#[.bool false,.int .i64 3,.int .i64 0,.slice (some ⟨bb,0,none⟩) 3 cb,.int .i64 0,.slice (some ⟨b0,0,none⟩) 4 c0,.slice (some ⟨b1,0,none⟩) 4 c1,.int .i64 0,undef,undef,undef,undef,undef,undef,undef,.tuple #[.int .i64 3,.int .i64 0],.slice (some ⟨n16,0,none⟩) 3 3,.tuple #[.int .i64 3,.int .i64 0],.int .i64 3,.int .i64 0,.tuple #[.slice (some ⟨bb,0,none⟩) 3 cb,.int .i64 0],.slice (some ⟨n21,0,none⟩) 3 3,.tuple #[.slice (some ⟨bb,0,none⟩) 3 cb,.int .i64 0],.slice (some ⟨bb,0,none⟩) 3 cb,.int .i64 0,.tuple #[.slice (some ⟨b0,0,none⟩) 4 c0,.slice (some ⟨b1,0,none⟩) 4 c1,.int .i64 0],.slice (some ⟨a1,0,none⟩) 4 4,.slice (some ⟨a1+1,0,none⟩) 4 4,.tuple #[.slice (some ⟨b0,0,none⟩) 4 c0,.slice (some ⟨b1,0,none⟩) 4 c1,.int .i64 0],.slice (some ⟨b0,0,none⟩) 4 c0,.slice (some ⟨b1,0,none⟩) 4 c1,.int .i64 0,undef,undef,undef,undef,undef,undef,undef,undef,undef,undef,undef,undef,undef,undef,undef,undef,undef,undef,undef,undef,undef,undef,undef,undef,undef,undef,undef,undef,undef,undef,undef,undef,undef,undef,undef,undef,undef,undef,undef,undef,undef,undef,undef,undef,undef,undef,undef,undef,undef,undef,undef,undef,undef,undef,undef,undef,undef,undef,undef,undef,undef,undef,undef,undef,undef,undef,undef,undef,undef,undef,undef],[]⟩ [.code d4]) cs) w:=by
 unfold d4;refine y0g rfl (fun _=>stepG_seq) ?_;refine y0g rfl (fun _=>stepG_region) ?_;rw [s20_4];simp only [List.range,List.range.loop];obtain ⟨o,ho,hd,hop,hg⟩:=o20_4_0;refine y3v D hsh ho (y07 hg _ _) (by decide) hop Try.func16 (by kernel_rfl) (by kernel_rfl) hS (y3o (by kernel_rfl)) (vs:=#[.int .i64 4,.int .i64 2]) (by simp [Act.eval]) (bl:=[]) (by simp) (by intro v hv;simp at hv;rcases hv with rfl|rfl<;>exact .inl rfl) (r:=.tuple #[.int .i64 7,.int .i64 0]) (by simp [yc0,y50,y1a]) (fun u hu=>A.c16 u) fun w2 hk2=>?_
 rw [hd]
 walk_nrm
 clear ho hd hop hg o;obtain ⟨o,ho,hd,hop,hg⟩:=o20_4_1;refine y0a ho (y07 hg _ _) (by decide) (zLe _) (v:=.tuple #[.int .i64 7,.int .i64 0]) (fun d=>by unfold execOp;simp [hop,Act.eval]) (fun d=>by unfold execOp;simp [hop,Act.eval]) ?_;rw [hd]
 walk_nrm
 clear ho hd hop hg o;obtain ⟨o,ho,hd,hop,hg⟩:=o20_4_2;refine y0a ho (y07 hg _ _) (by decide) (zLe _) (v:=.int .i64 7) (fun d=>by unfold execOp;simp [hop,go_sem,qq0]) (fun d=>by unfold execOp;simp [hop,go_sem,qq0]) ?_;rw [hd]
 walk_nrm
 clear ho hd hop hg o;obtain ⟨o,ho,hd,hop,hg⟩:=o20_4_3;refine y0a ho (y07 hg _ _) (by decide) (zLe _) (v:=.int .i64 0) (fun d=>by unfold execOp;simp [hop,go_sem,qq0]) (fun d=>by unfold execOp;simp [hop,go_sem,qq0]) ?_;rw [hd]
 walk_nrm
 clear ho hd hop hg o;obtain ⟨o,ho,hd,hop,hg⟩:=o20_4_4;refine y0a ho (y07 hg _ _) (by decide) (zLe _) (v:=.int .i64 7) (fun d=>by unfold execOp;simp [hop,Act.eval]) (fun d=>by unfold execOp;simp [hop,Act.eval]) ?_;rw [hd]
 walk_nrm
 clear ho hd hop hg o;obtain ⟨o,ho,hd,hop,hg⟩:=o20_4_5;refine y0a ho (y07 hg _ _) (by decide) (zLe _) (v:=.int .i64 0) (fun d=>by unfold execOp;simp [hop,Act.eval]) (fun d=>by unfold execOp;simp [hop,Act.eval]) ?_;rw [hd]
 walk_nrm
 clear ho hd hop hg o;refine y0g rfl (fun _=>stepG_region_end) ?_;exact hk w2 hk2
theorem alS5 (D:Duo P S kdOf) (A:AlK P) (hS:S 18=true) (hsh:∀ l b,Sh l->inB b l->b<w.heap.size) (n16 n21 bb cb a1 b0 c0 b1 c1:Nat) (hk:∀ w',Kept w.heap.size w w'->MW Sh Stop (G (b20.at ⟨#[.bool false,.int .i64 3,.int .i64 0,.slice (some ⟨bb,0,none⟩) 3 cb,.int .i64 0,.slice (some ⟨b0,0,none⟩) 4 c0,.slice (some ⟨b1,0,none⟩) 4 c1,.int .i64 0,.int .i64 7,.int .i64 0,.int .i64 6,.int .i64 0,undef,undef,undef,.tuple #[.int .i64 3,.int .i64 0],.slice (some ⟨n16,0,none⟩) 3 3,.tuple #[.int .i64 3,.int .i64 0],.int .i64 3,.int .i64 0,.tuple #[.slice (some ⟨bb,0,none⟩) 3 cb,.int .i64 0],.slice (some ⟨n21,0,none⟩) 3 3,.tuple #[.slice (some ⟨bb,0,none⟩) 3 cb,.int .i64 0],.slice (some ⟨bb,0,none⟩) 3 cb,.int .i64 0,.tuple #[.slice (some ⟨b0,0,none⟩) 4 c0,.slice (some ⟨b1,0,none⟩) 4 c1,.int .i64 0],.slice (some ⟨a1,0,none⟩) 4 4,.slice (some ⟨a1+1,0,none⟩) 4 4,.tuple #[.slice (some ⟨b0,0,none⟩) 4 c0,.slice (some ⟨b1,0,none⟩) 4 c1,.int .i64 0],.slice (some ⟨b0,0,none⟩) 4 c0,.slice (some ⟨b1,0,none⟩) 4 c1,.int .i64 0,.tuple #[.int .i64 7,.int .i64 0],.tuple #[.int .i64 7,.int .i64 0],.int .i64 7,.int .i64 0,.tuple #[.int .i64 6,.int .i64 0],.tuple #[.int .i64 6,.int .i64 0],.int .i64 6,.int .i64 0,undef,undef,undef,undef,undef,undef,undef,undef,undef,undef,undef,undef,undef,undef,undef,undef,undef,undef,undef,undef,undef,undef,undef,undef,undef,undef,undef,undef,undef,undef,undef,undef,undef,undef,undef,undef,undef,undef,undef,undef,undef,undef,undef,undef,undef,undef,undef,undef,undef,undef,undef,undef,undef,undef,undef,undef,undef,undef,undef,undef,undef,undef,undef],[]⟩ [.code d6]) cs) w'):MW Sh Stop (G (b20.at ⟨#[.bool false,.int .i64 3,.int .i64 0,.slice (some ⟨bb,0,none⟩) 3 cb,.int .i64 0,.slice (some ⟨b0,0,none⟩) 4 c0,.slice (some ⟨b1,0,none⟩) 4 c1,.int .i64 0,.int .i64 7,.int .i64 0,undef,undef,undef,undef,undef,.tuple #[.int .i64 3,.int .i64 0],.slice (some ⟨n16,0,none⟩) 3 3,.tuple #[.int .i64 3,.int .i64 0],.int .i64 3,.int .i64 0,.tuple #[.slice (some ⟨bb,0,none⟩) 3 cb,.int .i64 0],.slice (some ⟨n21,0,none⟩) 3 3,.tuple #[.slice (some ⟨bb,0,none⟩) 3 cb,.int .i64 0],.slice (some ⟨bb,0,none⟩) 3 cb,.int .i64 0,.tuple #[.slice (some ⟨b0,0,none⟩) 4 c0,.slice (some ⟨b1,0,none⟩) 4 c1,.int .i64 0],.slice (some ⟨a1,0,none⟩) 4 4,.slice (some ⟨a1+1,0,none⟩) 4 4,.tuple #[.slice (some ⟨b0,0,none⟩) 4 c0,.slice (some ⟨b1,0,none⟩) 4 c1,.int .i64 0],.slice (some ⟨b0,0,none⟩) 4 c0,.slice (some ⟨b1,0,none⟩) 4 c1,.int .i64 0,.tuple #[.int .i64 7,.int .i64 0],.tuple #[.int .i64 7,.int .i64 0],.int .i64 7,.int .i64 0,undef,undef,undef,undef,undef,undef,undef,undef,undef,undef,undef,undef,undef,undef,undef,undef,undef,undef,undef,undef,undef,undef,undef,undef,undef,undef,undef,undef,undef,undef,undef,undef,undef,undef,undef,undef,undef,undef,undef,undef,undef,undef,undef,undef,undef,undef,undef,undef,undef,undef,undef,undef,undef,undef,undef,undef,undef,undef,undef,undef,undef,undef,undef,undef,undef,undef,undef],[]⟩ [.code d5]) cs) w:=by
 unfold d5;refine y0g rfl (fun _=>stepG_seq) ?_;refine y0g rfl (fun _=>stepG_region) ?_;rw [s20_5];simp only [List.range,List.range.loop];obtain ⟨o,ho,hd,hop,hg⟩:=o20_5_0;refine y3v D hsh ho (y07 hg _ _) (by decide) hop Try.func18 (by kernel_rfl) (by kernel_rfl) hS (y3o (by kernel_rfl)) (vs:=#[.int .i64 4,.int .i64 2]) (by simp [Act.eval]) (bl:=[]) (by simp) (by intro v hv;simp at hv;rcases hv with rfl|rfl<;>exact .inl rfl) (r:=.tuple #[.int .i64 6,.int .i64 0]) (by simp [yc0,y50,y1a]) (fun u hu=>A.c18 u) fun w2 hk2=>?_
 rw [hd]
 walk_nrm
 clear ho hd hop hg o;obtain ⟨o,ho,hd,hop,hg⟩:=o20_5_1;refine y0a ho (y07 hg _ _) (by decide) (zLe _) (v:=.tuple #[.int .i64 6,.int .i64 0]) (fun d=>by unfold execOp;simp [hop,Act.eval]) (fun d=>by unfold execOp;simp [hop,Act.eval]) ?_;rw [hd]
 walk_nrm
 clear ho hd hop hg o;obtain ⟨o,ho,hd,hop,hg⟩:=o20_5_2;refine y0a ho (y07 hg _ _) (by decide) (zLe _) (v:=.int .i64 6) (fun d=>by unfold execOp;simp [hop,go_sem,qq0]) (fun d=>by unfold execOp;simp [hop,go_sem,qq0]) ?_;rw [hd]
 walk_nrm
 clear ho hd hop hg o;obtain ⟨o,ho,hd,hop,hg⟩:=o20_5_3;refine y0a ho (y07 hg _ _) (by decide) (zLe _) (v:=.int .i64 0) (fun d=>by unfold execOp;simp [hop,go_sem,qq0]) (fun d=>by unfold execOp;simp [hop,go_sem,qq0]) ?_;rw [hd]
 walk_nrm
 clear ho hd hop hg o;obtain ⟨o,ho,hd,hop,hg⟩:=o20_5_4;refine y0a ho (y07 hg _ _) (by decide) (zLe _) (v:=.int .i64 6) (fun d=>by unfold execOp;simp [hop,Act.eval]) (fun d=>by unfold execOp;simp [hop,Act.eval]) ?_;rw [hd]
 walk_nrm
 clear ho hd hop hg o;obtain ⟨o,ho,hd,hop,hg⟩:=o20_5_5;refine y0a ho (y07 hg _ _) (by decide) (zLe _) (v:=.int .i64 0) (fun d=>by unfold execOp;simp [hop,Act.eval]) (fun d=>by unfold execOp;simp [hop,Act.eval]) ?_;rw [hd]
 walk_nrm
 clear ho hd hop hg o;refine y0g rfl (fun _=>stepG_region_end) ?_;exact hk w2 hk2
theorem alS6 (D:Duo P S kdOf) (A:AlK P) (hS:S 23=true) (hR:ResT P Try.f23) (hsh:∀ l b,Sh l->inB b l->b<w.heap.size) (n16 n21 bb cb a1 b0 c0 b1 c1:Nat) (hk:∀ w' n41 nx,Kept w.heap.size w w'->w.heap.size≤nx->w'.heap[nx]?=some (.cells #[.int .i64 0,.int .i64 1,.int .i64 2,.int .i64 3] 31 (0,0))->MW Sh Stop (G (b20.at ⟨#[.bool false,.int .i64 3,.int .i64 0,.slice (some ⟨bb,0,none⟩) 3 cb,.int .i64 0,.slice (some ⟨b0,0,none⟩) 4 c0,.slice (some ⟨b1,0,none⟩) 4 c1,.int .i64 0,.int .i64 7,.int .i64 0,.int .i64 6,.int .i64 0,ptr nx,.bool true,.int .i64 0,.tuple #[.int .i64 3,.int .i64 0],.slice (some ⟨n16,0,none⟩) 3 3,.tuple #[.int .i64 3,.int .i64 0],.int .i64 3,.int .i64 0,.tuple #[.slice (some ⟨bb,0,none⟩) 3 cb,.int .i64 0],.slice (some ⟨n21,0,none⟩) 3 3,.tuple #[.slice (some ⟨bb,0,none⟩) 3 cb,.int .i64 0],.slice (some ⟨bb,0,none⟩) 3 cb,.int .i64 0,.tuple #[.slice (some ⟨b0,0,none⟩) 4 c0,.slice (some ⟨b1,0,none⟩) 4 c1,.int .i64 0],.slice (some ⟨a1,0,none⟩) 4 4,.slice (some ⟨a1+1,0,none⟩) 4 4,.tuple #[.slice (some ⟨b0,0,none⟩) 4 c0,.slice (some ⟨b1,0,none⟩) 4 c1,.int .i64 0],.slice (some ⟨b0,0,none⟩) 4 c0,.slice (some ⟨b1,0,none⟩) 4 c1,.int .i64 0,.tuple #[.int .i64 7,.int .i64 0],.tuple #[.int .i64 7,.int .i64 0],.int .i64 7,.int .i64 0,.tuple #[.int .i64 6,.int .i64 0],.tuple #[.int .i64 6,.int .i64 0],.int .i64 6,.int .i64 0,.tuple #[.agg #[.int .i64 0,.int .i64 1,.int .i64 2,.int .i64 3],.bool true,.int .i64 0],.slice (some ⟨n41,0,none⟩) 4 4,.tuple #[.agg #[.int .i64 0,.int .i64 1,.int .i64 2,.int .i64 3],.bool true,.int .i64 0],.agg #[.int .i64 0,.int .i64 1,.int .i64 2,.int .i64 3],.bool true,.int .i64 0,undef,undef,undef,undef,undef,undef,undef,undef,undef,undef,undef,undef,undef,undef,undef,undef,undef,undef,undef,undef,undef,undef,undef,undef,undef,undef,undef,undef,undef,undef,undef,undef,undef,undef,undef,undef,undef,undef,undef,undef,undef,undef,undef,undef,undef,undef,undef,undef,undef,undef,undef,undef,undef,undef,undef,undef,undef],[]⟩ [.code d7]) cs) w'):MW Sh Stop (G (b20.at ⟨#[.bool false,.int .i64 3,.int .i64 0,.slice (some ⟨bb,0,none⟩) 3 cb,.int .i64 0,.slice (some ⟨b0,0,none⟩) 4 c0,.slice (some ⟨b1,0,none⟩) 4 c1,.int .i64 0,.int .i64 7,.int .i64 0,.int .i64 6,.int .i64 0,undef,undef,undef,.tuple #[.int .i64 3,.int .i64 0],.slice (some ⟨n16,0,none⟩) 3 3,.tuple #[.int .i64 3,.int .i64 0],.int .i64 3,.int .i64 0,.tuple #[.slice (some ⟨bb,0,none⟩) 3 cb,.int .i64 0],.slice (some ⟨n21,0,none⟩) 3 3,.tuple #[.slice (some ⟨bb,0,none⟩) 3 cb,.int .i64 0],.slice (some ⟨bb,0,none⟩) 3 cb,.int .i64 0,.tuple #[.slice (some ⟨b0,0,none⟩) 4 c0,.slice (some ⟨b1,0,none⟩) 4 c1,.int .i64 0],.slice (some ⟨a1,0,none⟩) 4 4,.slice (some ⟨a1+1,0,none⟩) 4 4,.tuple #[.slice (some ⟨b0,0,none⟩) 4 c0,.slice (some ⟨b1,0,none⟩) 4 c1,.int .i64 0],.slice (some ⟨b0,0,none⟩) 4 c0,.slice (some ⟨b1,0,none⟩) 4 c1,.int .i64 0,.tuple #[.int .i64 7,.int .i64 0],.tuple #[.int .i64 7,.int .i64 0],.int .i64 7,.int .i64 0,.tuple #[.int .i64 6,.int .i64 0],.tuple #[.int .i64 6,.int .i64 0],.int .i64 6,.int .i64 0,undef,undef,undef,undef,undef,undef,undef,undef,undef,undef,undef,undef,undef,undef,undef,undef,undef,undef,undef,undef,undef,undef,undef,undef,undef,undef,undef,undef,undef,undef,undef,undef,undef,undef,undef,undef,undef,undef,undef,undef,undef,undef,undef,undef,undef,undef,undef,undef,undef,undef,undef,undef,undef,undef,undef,undef,undef,undef,undef,undef,undef,undef,undef],[]⟩ [.code d6]) cs) w:=by
 unfold d6;refine y0g rfl (fun _=>stepG_seq) ?_;refine y0g rfl (fun _=>stepG_region) ?_;rw [s20_6];simp only [List.range,List.range.loop];obtain ⟨o,ho,hd,hop,hg⟩:=o20_6_0;refine y0a (w':=(w).alloc (.cells #[.int .i64 0,.int .i64 1,.int .i64 0,.int .i64 1] 3 (0,0))) ho (y07 hg _ _) (by decide) (by simp only [y09];omega) (v:=.slice (some ⟨w.heap.size,0,none⟩) 4 4) (fun d=>by unfold execOp;simp [hop,go_sem,qq0];first|exact ⟨rfl,rfl⟩|exact ⟨y09 _ _,rfl⟩|rfl) (fun d=>by unfold execOp;simp [hop,go_sem,qq0]) ?_;rw [hd]
 walk_nrm
 clear ho hd hop hg o;obtain ⟨w1,hw1⟩:∃ w1,w1=w.alloc (.cells #[.int .i64 0,.int .i64 1,.int .i64 0,.int .i64 1] 3 (0,0)):=⟨_,rfl⟩
 rw [← hw1];have hz1:w1.heap.size=w.heap.size+1:=by rw [hw1,y09]
 have hi1:IntBlk w1 w.heap.size [0,1,0,1]:=by rw [hw1];exact y1c w [0,1,0,1]
 have hk1:Kept w.heap.size w w1:=by rw [hw1];exact ⟨rfl,rfl,rfl,by rw [y09];omega,fun b hb=>y13 w _ hb⟩
 obtain ⟨o,ho,hd,hop,hg⟩:=o20_6_1;refine y3v D (y28 hsh hk1.size) ho (y07 hg _ _) (by decide) hop Try.func23 (by kernel_rfl) (by kernel_rfl) hS hR (vs:=#[.slice (some ⟨w.heap.size,0,none⟩) 4 4]) (by simp [Act.eval]) (bl:=[w.heap.size]) (by simp only [List.mem_singleton];rintro b rfl;exact ⟨⟨_,hi1⟩,sh0 (k:=0) hsh⟩) (by intro v hv;simp at hv;subst hv;exact .inr ⟨_,_,_,rfl,by simp⟩) (r:=.tuple #[.agg #[.int .i64 0,.int .i64 1,.int .i64 2,.int .i64 3],.bool true,.int .i64 0]) (by simp [yc0,y50,y1a]) (fun u hu=>A.c23 u _ (hu _ (by simp) _ hi1)) fun w2 hk2=>?_
 rw [hd]
 walk_nrm
 clear ho hd hop hg o;obtain ⟨o,ho,hd,hop,hg⟩:=o20_6_2;refine y0a ho (y07 hg _ _) (by decide) (zLe _) (v:=.tuple #[.agg #[.int .i64 0,.int .i64 1,.int .i64 2,.int .i64 3],.bool true,.int .i64 0]) (fun d=>by unfold execOp;simp [hop,Act.eval]) (fun d=>by unfold execOp;simp [hop,Act.eval]) ?_;rw [hd]
 walk_nrm
 clear ho hd hop hg o;obtain ⟨o,ho,hd,hop,hg⟩:=o20_6_3;refine y0a ho (y07 hg _ _) (by decide) (zLe _) (v:=.agg #[.int .i64 0,.int .i64 1,.int .i64 2,.int .i64 3]) (fun d=>by unfold execOp;simp [hop,go_sem,qq0]) (fun d=>by unfold execOp;simp [hop,go_sem,qq0]) ?_;rw [hd]
 walk_nrm
 clear ho hd hop hg o;obtain ⟨o,ho,hd,hop,hg⟩:=o20_6_4;refine y0a ho (y07 hg _ _) (by decide) (zLe _) (v:=.bool true) (fun d=>by unfold execOp;simp [hop,go_sem,qq0]) (fun d=>by unfold execOp;simp [hop,go_sem,qq0]) ?_;rw [hd]
 walk_nrm
 clear ho hd hop hg o;obtain ⟨o,ho,hd,hop,hg⟩:=o20_6_5;refine y0a ho (y07 hg _ _) (by decide) (zLe _) (v:=.int .i64 0) (fun d=>by unfold execOp;simp [hop,go_sem,qq0]) (fun d=>by unfold execOp;simp [hop,go_sem,qq0]) ?_;rw [hd]
 walk_nrm
 clear ho hd hop hg o;have hz2:=hk2.size;obtain ⟨o,ho,hd,hop,hg⟩:=o20_6_6;refine ybx ho hg (by decide) hop ?_;rw [hd]
 walk_nrm
 clear ho hd hop hg o;obtain ⟨o,ho,hd,hop,hg⟩:=o20_6_7;refine mw_st31 ho hg (by decide) hop (bl:=w2.heap.size) rfl rfl (fun l h1 h2=>by have:=hsh l _ h2 h1;omega) (by rw [y09];omega) (by rw [y0u,if_pos rfl]) ?_;rw [hd]
 walk_nrm
 clear ho hd hop hg o;obtain ⟨o,ho,hd,hop,hg⟩:=o20_6_8;refine y0a ho (y07 hg _ _) (by decide) (zLe _) (v:=.bool true) (fun d=>by unfold execOp;simp [hop,Act.eval]) (fun d=>by unfold execOp;simp [hop,Act.eval]) ?_;rw [hd]
 walk_nrm
 clear ho hd hop hg o;obtain ⟨o,ho,hd,hop,hg⟩:=o20_6_9;refine y0a ho (y07 hg _ _) (by decide) (zLe _) (v:=.int .i64 0) (fun d=>by unfold execOp;simp [hop,Act.eval]) (fun d=>by unfold execOp;simp [hop,Act.eval]) ?_;rw [hd]
 walk_nrm
 clear ho hd hop hg o;refine y0g rfl (fun _=>stepG_region_end) ?_;have hget:∀ b,b<w.heap.size->(set4 (w2.alloc (.cells #[.int .i64 0,.int .i64 0,.int .i64 0,.int .i64 0] 31 (0,0))) w2.heap.size (.int .i64 0) (.int .i64 1) (.int .i64 2) (.int .i64 3)).heap[b]?=w.heap[b]?:=fun b hb=>by rw [ygz _ _ _ _ _ _ (by omega),y13 _ _ (by omega),hk2.old b (by omega),hk1.old b hb]
 exact hk _ w.heap.size w2.heap.size ⟨hk2.os.trans hk1.os,hk2.output.trans hk1.output,hk2.tape.trans hk1.tape,by rw [y5j,y09];omega,hget⟩ (by omega) (set4_at _ _ _ _ _ _ (by rw [y0u,if_pos rfl]))
end
end Go.Mt
namespace Go.Mt
open Go.Tr Go.Conc Go.ConcN Go.Proofs Go.RowKit Go.Conc.Lib Go.ConcR.Gen Go.ConcN.Gen
theorem bld (w:World):Sem.run Try.prog (Instr.build 31 #[(0,Value.int .i64 0),(1,Value.int .i64 1),(2,Value.int .i64 2),(3,Value.int .i64 3)]) w=.ok (.agg #[.int .i64 0,.int .i64 1,.int .i64 2,.int .i64 3]) w:=by kernel_rfl
theorem blde (w:World):Sem.events Try.prog (Instr.build 31 #[(0,Value.int .i64 0),(1,Value.int .i64 1),(2,Value.int .i64 2),(3,Value.int .i64 3)]) w #[]=#[]:=by kernel_rfl
theorem eqg (w:World) (x y:Operand):Sem.run Try.prog (eqGuard .eql 31 x y (.agg #[.int .i64 0,.int .i64 1,.int .i64 2,.int .i64 3]) (.agg #[.int .i64 0,.int .i64 1,.int .i64 2,.int .i64 3])) w=.ok () w:=by kernel_rfl
theorem eqge (w:World) (x y:Operand):Sem.events Try.prog (eqGuard .eql 31 x y (.agg #[.int .i64 0,.int .i64 1,.int .i64 2,.int .i64 3]) (.agg #[.int .i64 0,.int .i64 1,.int .i64 2,.int .i64 3])) w #[]=#[]:=by kernel_rfl
theorem eqb (w:World):Sem.run Try.prog (binOp .eql 31 (.agg #[.int .i64 0,.int .i64 1,.int .i64 2,.int .i64 3]) (.agg #[.int .i64 0,.int .i64 1,.int .i64 2,.int .i64 3])) w=.ok (.bool true) w:=by kernel_rfl
theorem eqbe (w:World):Sem.events Try.prog (binOp .eql 31 (.agg #[.int .i64 0,.int .i64 1,.int .i64 2,.int .i64 3]) (.agg #[.int .i64 0,.int .i64 1,.int .i64 2,.int .i64 3])) w #[]=#[]:=by kernel_rfl
theorem y4p {P:Program} {main:Bool} {b:Frame} {a:Act} {todo:List Item} {c:Frame} {cs:List Frame} {w:World} {fn:Func} {i:Nat} (hn:b.kind=.normal) (hd:a.defers=[]) (hf:P.funcs[b.fn]?=some fn) (hr:fn.results=#[.tmp i]) :
  stepG P main (G { b.at a todo with mode:=.returning } (c :: cs)) w=.go (G (c.finish (a.tmps.getD i undef)) cs) w #[]:=by
 refine stepG_leave (v:=a.tmps.getD i undef) hn hd hf ?_ ?_
 ·simp [results,hr]
 ·simp [results,hr]
section
variable {P:Program} {S:FuncId->Bool} {kdOf:FuncId->y0t} {Sh:Loc->Prop} {Stop:List Nat->Goroutine->World->Prop} {w:World} {c:Frame} {cs:List Frame}
theorem alS7 (D:Duo P S kdOf) (A:AlK P) (hS:S 27=true) (hsh:∀ l b,Sh l->inB b l->b<w.heap.size) (n16 n21 bb cb a1 b0 c0 b1 c1 n41 nx:Nat) (hno:∀ b ∈ [bb,b0,b1,nx],∀ l,inB b l->¬ Sh l) (hbb:IntBlk w bb [0,1,1]) (hb0:IntBlk w b0 [0,1,2,3]) (hb1:IntBlk w b1 [0,0,0,0]) (hxl:nx<w.heap.size) (hx:w.heap[nx]?=some (.cells #[.int .i64 0,.int .i64 1,.int .i64 2,.int .i64 3] 31 (0,0))) (hk:∀ w',Kept w.heap.size w w'->MW Sh Stop (G (c.finish (.bool true)) cs) w'):MW Sh Stop (G (b20.at ⟨#[.bool false,.int .i64 3,.int .i64 0,.slice (some ⟨bb,0,none⟩) 3 cb,.int .i64 0,.slice (some ⟨b0,0,none⟩) 4 c0,.slice (some ⟨b1,0,none⟩) 4 c1,.int .i64 0,.int .i64 7,.int .i64 0,.int .i64 6,.int .i64 0,ptr nx,.bool true,.int .i64 0,.tuple #[.int .i64 3,.int .i64 0],.slice (some ⟨n16,0,none⟩) 3 3,.tuple #[.int .i64 3,.int .i64 0],.int .i64 3,.int .i64 0,.tuple #[.slice (some ⟨bb,0,none⟩) 3 cb,.int .i64 0],.slice (some ⟨n21,0,none⟩) 3 3,.tuple #[.slice (some ⟨bb,0,none⟩) 3 cb,.int .i64 0],.slice (some ⟨bb,0,none⟩) 3 cb,.int .i64 0,.tuple #[.slice (some ⟨b0,0,none⟩) 4 c0,.slice (some ⟨b1,0,none⟩) 4 c1,.int .i64 0],.slice (some ⟨a1,0,none⟩) 4 4,.slice (some ⟨a1+1,0,none⟩) 4 4,.tuple #[.slice (some ⟨b0,0,none⟩) 4 c0,.slice (some ⟨b1,0,none⟩) 4 c1,.int .i64 0],.slice (some ⟨b0,0,none⟩) 4 c0,.slice (some ⟨b1,0,none⟩) 4 c1,.int .i64 0,.tuple #[.int .i64 7,.int .i64 0],.tuple #[.int .i64 7,.int .i64 0],.int .i64 7,.int .i64 0,.tuple #[.int .i64 6,.int .i64 0],.tuple #[.int .i64 6,.int .i64 0],.int .i64 6,.int .i64 0,.tuple #[.agg #[.int .i64 0,.int .i64 1,.int .i64 2,.int .i64 3],.bool true,.int .i64 0],.slice (some ⟨n41,0,none⟩) 4 4,.tuple #[.agg #[.int .i64 0,.int .i64 1,.int .i64 2,.int .i64 3],.bool true,.int .i64 0],.agg #[.int .i64 0,.int .i64 1,.int .i64 2,.int .i64 3],.bool true,.int .i64 0,undef,undef,undef,undef,undef,undef,undef,undef,undef,undef,undef,undef,undef,undef,undef,undef,undef,undef,undef,undef,undef,undef,undef,undef,undef,undef,undef,undef,undef,undef,undef,undef,undef,undef,undef,undef,undef,undef,undef,undef,undef,undef,undef,undef,undef,undef,undef,undef,undef,undef,undef,undef,undef,undef,undef,undef,undef],[]⟩ [.code d7]) (c :: cs)) w:=by
 unfold d7;refine y0g rfl (fun _=>stepG_seq) ?_;refine y0g rfl (fun _=>stepG_region) ?_;rw [s20_7];simp only [List.range,List.range.loop];have hK:∀ b,b<w.heap.size->∀ l,inB b l->True:=fun _ _ _ _=>trivial
 obtain ⟨o,ho,hd,hop,hg⟩:=o20_7_0;refine y0a ho (y07 hg _ _) (by decide) (zLe _) (v:=.int .i64 0) (fun d=>by unfold execOp;simp [hop,Act.eval]) (fun d=>by unfold execOp;simp [hop,Act.eval]) ?_;rw [hd]
 walk_nrm
 clear ho hd hop hg o;obtain ⟨o,ho,hd,hop,hg⟩:=o20_7_1;refine y0a ho (y07 hg _ _) (by decide) (zLe _) (v:=.bool true) (fun d=>by unfold execOp;simp [hop,go_sem,qq0]) (fun d=>by unfold execOp;simp [hop,go_sem,qq0]) ?_;rw [hd]
 walk_nrm
 clear ho hd hop hg o;obtain ⟨o,ho,hd,hop,hg⟩:=o20_7_2;refine y0a ho (y07 hg _ _) (by decide) (zLe _) (v:=.bool true) (fun d=>by unfold execOp;simp [hop,Act.eval]) (fun d=>by unfold execOp;simp [hop,Act.eval]) ?_;rw [hd]
 walk_nrm
 clear ho hd hop hg o;obtain ⟨o,ho,hd,hop,hg⟩:=o20_7_3;refine y0a ho (y0f hg (by rfl)) (by decide) (zLe _) (v:=.int .i64 3) (fun d=>by unfold execOp;simp [hop,Act.eval]) (fun d=>by unfold execOp;simp [hop,Act.eval]) ?_;rw [hd]
 walk_nrm
 clear ho hd hop hg o;obtain ⟨o,ho,hd,hop,hg⟩:=o20_7_4;refine y0a ho (y0f hg (by rfl)) (by decide) (zLe _) (v:=.bool true) (fun d=>by unfold execOp;simp [hop,go_sem,qq0]) (fun d=>by unfold execOp;simp [hop,go_sem,qq0]) ?_;rw [hd]
 walk_nrm
 clear ho hd hop hg o;obtain ⟨o,ho,hd,hop,hg⟩:=o20_7_5;refine y0a ho (y07 hg _ _) (by decide) (zLe _) (v:=.bool true) (fun d=>by unfold execOp;simp [hop,go_sem,qq0]) (fun d=>by unfold execOp;simp [hop,go_sem,qq0]) ?_;rw [hd]
 walk_nrm
 clear ho hd hop hg o;obtain ⟨o,ho,hd,hop,hg⟩:=o20_7_6;refine y0a ho (y07 hg _ _) (by decide) (zLe _) (v:=.bool true) (fun d=>by unfold execOp;simp [hop,Act.eval]) (fun d=>by unfold execOp;simp [hop,Act.eval]) ?_;rw [hd]
 walk_nrm
 clear ho hd hop hg o;obtain ⟨o,ho,hd,hop,hg⟩:=o20_7_7;refine y0a ho (y0f hg (by rfl)) (by decide) (zLe _) (v:=.int .i64 0) (fun d=>by unfold execOp;simp [hop,Act.eval]) (fun d=>by unfold execOp;simp [hop,Act.eval]) ?_;rw [hd]
 walk_nrm
 clear ho hd hop hg o;obtain ⟨o,ho,hd,hop,hg⟩:=o20_7_8;refine y0a ho (y0f hg (by rfl)) (by decide) (zLe _) (v:=.bool true) (fun d=>by unfold execOp;simp [hop,go_sem,qq0]) (fun d=>by unfold execOp;simp [hop,go_sem,qq0]) ?_;rw [hd]
 walk_nrm
 clear ho hd hop hg o;obtain ⟨o,ho,hd,hop,hg⟩:=o20_7_9;refine y0a ho (y07 hg _ _) (by decide) (zLe _) (v:=.bool true) (fun d=>by unfold execOp;simp [hop,go_sem,qq0]) (fun d=>by unfold execOp;simp [hop,go_sem,qq0]) ?_;rw [hd]
 walk_nrm
 clear ho hd hop hg o;obtain ⟨o,ho,hd,hop,hg⟩:=yim;refine y0a ho (y07 hg _ _) (by decide) (zLe _) (v:=.bool true) (fun d=>by unfold execOp;simp [hop,Act.eval]) (fun d=>by unfold execOp;simp [hop,Act.eval]) ?_;rw [hd]
 walk_nrm
 clear ho hd hop hg o;obtain ⟨o,ho,hd,hop,hg⟩:=yil;refine y0a ho (y0f hg (by rfl)) (by decide) (zLe _) (v:=.slice (some ⟨bb,0,none⟩) 3 cb) (fun d=>by unfold execOp;simp [hop,Act.eval]) (fun d=>by unfold execOp;simp [hop,Act.eval]) ?_;rw [hd]
 walk_nrm
 clear ho hd hop hg o;obtain ⟨o,ho,hd,hop,hg⟩:=yik;refine y0a (w':=(w).alloc (.cells #[.int .i64 0,.int .i64 1,.int .i64 1] 3 (0,0))) ho (y0f hg (by rfl)) (by decide) (by simp only [y09];omega) (v:=.slice (some ⟨w.heap.size,0,none⟩) 3 3) (fun d=>by unfold execOp;simp [hop,go_sem,qq0];first|exact ⟨rfl,rfl⟩|exact ⟨y09 _ _,rfl⟩|rfl) (fun d=>by unfold execOp;simp [hop,go_sem,qq0]) ?_;rw [hd]
 walk_nrm
 clear ho hd hop hg o;obtain ⟨wa1,hwa1⟩:∃ x,x=w.alloc (.cells #[.int .i64 0,.int .i64 1,.int .i64 1] 3 (0,0)):=⟨_,rfl⟩
 rw [← hwa1];have hzwa1:wa1.heap.size=w.heap.size+1:=by rw [hwa1,y09]
 have hiwa1:IntBlk wa1 w.heap.size [0,1,1]:=by rw [hwa1];exact y1c w [0,1,1]
 have hkwa1:Kept w.heap.size w wa1:=by rw [hwa1];exact ⟨rfl,rfl,rfl,by rw [y09];omega,fun b hb=>y13 _ _ (by have:=hb;omega)⟩
 have hjwa1:IntBlk wa1 bb [0,1,1]:=hbb.of_get (hkwa1.old _ hbb.lt);obtain ⟨o,ho,hd,hop,hg⟩:=yij;refine y3v D (y28 hsh hkwa1.size) ho (y0f hg (by rfl)) (by decide) hop Try.func27 (by kernel_rfl) (by kernel_rfl) hS (y3o (by kernel_rfl)) (vs:=#[.slice (some ⟨bb,0,none⟩) 3 cb,.slice (some ⟨w.heap.size,0,none⟩) 3 3]) (by simp [Act.eval]) (bl:=[bb,w.heap.size]) (by intro b hb;simp only [List.mem_cons,List.not_mem_nil,or_false] at hb;exact hb.elim (fun e=>by rw [e];exact ⟨⟨_,hjwa1⟩,hno _ (by simp)⟩) (fun e=>by rw [e];exact ⟨⟨_,hiwa1⟩,fun l h1 h2=>by have:=hsh l _ h2 h1;have:=zLe w.heap.size;omega⟩)) (by intro v hv;simp at hv;rcases hv with rfl|rfl<;>exact .inr ⟨_,_,_,rfl,by simp⟩) (r:=.bool true) rfl (fun u hu=>A.c27 u _ _ _ _ [0,1,1] (hu _ (by simp) _ hjwa1) (hu _ (by simp) _ hiwa1) (by decide)) fun wc1 hqwc1=>?_
 rw [hd]
 walk_nrm
 clear ho hd hop hg o;have hkwc1:Kept w.heap.size w wc1:=hkwa1.trans ⟨hqwc1.os,hqwc1.output,hqwc1.tape,hqwc1.size,fun b hb=>hqwc1.old b (by have:=hkwa1.size;omega)⟩;obtain ⟨o,ho,hd,hop,hg⟩:=yii;refine y0a ho (y07 hg _ _) (by decide) (zLe _) (v:=.bool true) (fun d=>by unfold execOp;simp [hop,go_sem,qq0]) (fun d=>by unfold execOp;simp [hop,go_sem,qq0]) ?_;rw [hd]
 walk_nrm
 clear ho hd hop hg o;obtain ⟨o,ho,hd,hop,hg⟩:=yih;refine y0a ho (y07 hg _ _) (by decide) (zLe _) (v:=.bool true) (fun d=>by unfold execOp;simp [hop,Act.eval]) (fun d=>by unfold execOp;simp [hop,Act.eval]) ?_;rw [hd]
 walk_nrm
 clear ho hd hop hg o;obtain ⟨o,ho,hd,hop,hg⟩:=yig;refine y0a ho (y0f hg (by rfl)) (by decide) (zLe _) (v:=.int .i64 0) (fun d=>by unfold execOp;simp [hop,Act.eval]) (fun d=>by unfold execOp;simp [hop,Act.eval]) ?_;rw [hd]
 walk_nrm
 clear ho hd hop hg o;obtain ⟨o,ho,hd,hop,hg⟩:=yif;refine y0a ho (y0f hg (by rfl)) (by decide) (zLe _) (v:=.bool true) (fun d=>by unfold execOp;simp [hop,go_sem,qq0]) (fun d=>by unfold execOp;simp [hop,go_sem,qq0]) ?_;rw [hd]
 walk_nrm
 clear ho hd hop hg o;obtain ⟨o,ho,hd,hop,hg⟩:=yie;refine y0a ho (y07 hg _ _) (by decide) (zLe _) (v:=.bool true) (fun d=>by unfold execOp;simp [hop,go_sem,qq0]) (fun d=>by unfold execOp;simp [hop,go_sem,qq0]) ?_;rw [hd]
 walk_nrm
 clear ho hd hop hg o;obtain ⟨o,ho,hd,hop,hg⟩:=yid;refine y0a ho (y07 hg _ _) (by decide) (zLe _) (v:=.bool true) (fun d=>by unfold execOp;simp [hop,Act.eval]) (fun d=>by unfold execOp;simp [hop,Act.eval]) ?_;rw [hd]
 walk_nrm
 clear ho hd hop hg o;obtain ⟨o,ho,hd,hop,hg⟩:=yic;refine y0a ho (y0f hg (by rfl)) (by decide) (zLe _) (v:=.slice (some ⟨b0,0,none⟩) 4 c0) (fun d=>by unfold execOp;simp [hop,Act.eval]) (fun d=>by unfold execOp;simp [hop,Act.eval]) ?_;rw [hd]
 walk_nrm
 clear ho hd hop hg o;obtain ⟨o,ho,hd,hop,hg⟩:=yib;refine y0a (w':=(wc1).alloc (.cells #[.int .i64 0,.int .i64 1,.int .i64 2,.int .i64 3] 3 (0,0))) ho (y0f hg (by rfl)) (by decide) (by simp only [y09];omega) (v:=.slice (some ⟨wc1.heap.size,0,none⟩) 4 4) (fun d=>by unfold execOp;simp [hop,go_sem,qq0];first|exact ⟨rfl,rfl⟩|exact ⟨y09 _ _,rfl⟩|rfl) (fun d=>by unfold execOp;simp [hop,go_sem,qq0]) ?_;rw [hd]
 walk_nrm
 clear ho hd hop hg o;obtain ⟨wa2,hwa2⟩:∃ x,x=wc1.alloc (.cells #[.int .i64 0,.int .i64 1,.int .i64 2,.int .i64 3] 3 (0,0)):=⟨_,rfl⟩
 rw [← hwa2];have hzwa2:wa2.heap.size=wc1.heap.size+1:=by rw [hwa2,y09]
 have hiwa2:IntBlk wa2 wc1.heap.size [0,1,2,3]:=by rw [hwa2];exact y1c wc1 [0,1,2,3]
 have hkwa2:Kept w.heap.size w wa2:=by rw [hwa2];exact hkwc1.trans ⟨rfl,rfl,rfl,by rw [y09];omega,fun b hb=>y13 _ _ (by have:=hkwc1.size;omega)⟩
 have hjwa2:IntBlk wa2 b0 [0,1,2,3]:=hb0.of_get (hkwa2.old _ hb0.lt);obtain ⟨o,ho,hd,hop,hg⟩:=yia;refine y3v D (y28 hsh hkwa2.size) ho (y0f hg (by rfl)) (by decide) hop Try.func27 (by kernel_rfl) (by kernel_rfl) hS (y3o (by kernel_rfl)) (vs:=#[.slice (some ⟨b0,0,none⟩) 4 c0,.slice (some ⟨wc1.heap.size,0,none⟩) 4 4]) (by simp [Act.eval]) (bl:=[b0,wc1.heap.size]) (by intro b hb;simp only [List.mem_cons,List.not_mem_nil,or_false] at hb;exact hb.elim (fun e=>by rw [e];exact ⟨⟨_,hjwa2⟩,hno _ (by simp)⟩) (fun e=>by rw [e];exact ⟨⟨_,hiwa2⟩,fun l h1 h2=>by have:=hsh l _ h2 h1;have:=hkwc1.size;omega⟩)) (by intro v hv;simp at hv;rcases hv with rfl|rfl<;>exact .inr ⟨_,_,_,rfl,by simp⟩) (r:=.bool true) rfl (fun u hu=>A.c27 u _ _ _ _ [0,1,2,3] (hu _ (by simp) _ hjwa2) (hu _ (by simp) _ hiwa2) (by decide)) fun wc2 hqwc2=>?_
 rw [hd]
 walk_nrm
 clear ho hd hop hg o;have hkwc2:Kept w.heap.size w wc2:=hkwa2.trans ⟨hqwc2.os,hqwc2.output,hqwc2.tape,hqwc2.size,fun b hb=>hqwc2.old b (by have:=hkwa2.size;omega)⟩;obtain ⟨o,ho,hd,hop,hg⟩:=yi9;refine y0a ho (y07 hg _ _) (by decide) (zLe _) (v:=.bool true) (fun d=>by unfold execOp;simp [hop,go_sem,qq0]) (fun d=>by unfold execOp;simp [hop,go_sem,qq0]) ?_;rw [hd]
 walk_nrm
 clear ho hd hop hg o;obtain ⟨o,ho,hd,hop,hg⟩:=yi8;refine y0a ho (y07 hg _ _) (by decide) (zLe _) (v:=.bool true) (fun d=>by unfold execOp;simp [hop,Act.eval]) (fun d=>by unfold execOp;simp [hop,Act.eval]) ?_;rw [hd]
 walk_nrm
 clear ho hd hop hg o;obtain ⟨o,ho,hd,hop,hg⟩:=yi7;refine y0a ho (y0f hg (by rfl)) (by decide) (zLe _) (v:=.slice (some ⟨b1,0,none⟩) 4 c1) (fun d=>by unfold execOp;simp [hop,Act.eval]) (fun d=>by unfold execOp;simp [hop,Act.eval]) ?_;rw [hd]
 walk_nrm
 clear ho hd hop hg o;obtain ⟨o,ho,hd,hop,hg⟩:=yi6;refine y0a (w':=(wc2).alloc (.cells #[.int .i64 0,.int .i64 0,.int .i64 0,.int .i64 0] 3 (0,0))) ho (y0f hg (by rfl)) (by decide) (by simp only [y09];omega) (v:=.slice (some ⟨wc2.heap.size,0,none⟩) 4 4) (fun d=>by unfold execOp;simp [hop,go_sem,qq0];first|exact ⟨rfl,rfl⟩|exact ⟨y09 _ _,rfl⟩|rfl) (fun d=>by unfold execOp;simp [hop,go_sem,qq0]) ?_;rw [hd]
 walk_nrm
 clear ho hd hop hg o;obtain ⟨wa3,hwa3⟩:∃ x,x=wc2.alloc (.cells #[.int .i64 0,.int .i64 0,.int .i64 0,.int .i64 0] 3 (0,0)):=⟨_,rfl⟩
 rw [← hwa3];have hzwa3:wa3.heap.size=wc2.heap.size+1:=by rw [hwa3,y09]
 have hiwa3:IntBlk wa3 wc2.heap.size [0,0,0,0]:=by rw [hwa3];exact y1c wc2 [0,0,0,0]
 have hkwa3:Kept w.heap.size w wa3:=by rw [hwa3];exact hkwc2.trans ⟨rfl,rfl,rfl,by rw [y09];omega,fun b hb=>y13 _ _ (by have:=hkwc2.size;omega)⟩
 have hjwa3:IntBlk wa3 b1 [0,0,0,0]:=hb1.of_get (hkwa3.old _ hb1.lt);obtain ⟨o,ho,hd,hop,hg⟩:=yi5;refine y3v D (y28 hsh hkwa3.size) ho (y0f hg (by rfl)) (by decide) hop Try.func27 (by kernel_rfl) (by kernel_rfl) hS (y3o (by kernel_rfl)) (vs:=#[.slice (some ⟨b1,0,none⟩) 4 c1,.slice (some ⟨wc2.heap.size,0,none⟩) 4 4]) (by simp [Act.eval]) (bl:=[b1,wc2.heap.size]) (by intro b hb;simp only [List.mem_cons,List.not_mem_nil,or_false] at hb;exact hb.elim (fun e=>by rw [e];exact ⟨⟨_,hjwa3⟩,hno _ (by simp)⟩) (fun e=>by rw [e];exact ⟨⟨_,hiwa3⟩,fun l h1 h2=>by have:=hsh l _ h2 h1;have:=hkwc2.size;omega⟩)) (by intro v hv;simp at hv;rcases hv with rfl|rfl<;>exact .inr ⟨_,_,_,rfl,by simp⟩) (r:=.bool true) rfl (fun u hu=>A.c27 u _ _ _ _ [0,0,0,0] (hu _ (by simp) _ hjwa3) (hu _ (by simp) _ hiwa3) (by decide)) fun wc3 hqwc3=>?_
 rw [hd]
 walk_nrm
 clear ho hd hop hg o;have hkwc3:Kept w.heap.size w wc3:=hkwa3.trans ⟨hqwc3.os,hqwc3.output,hqwc3.tape,hqwc3.size,fun b hb=>hqwc3.old b (by have:=hkwa3.size;omega)⟩;obtain ⟨o,ho,hd,hop,hg⟩:=yi4;refine y0a ho (y07 hg _ _) (by decide) (zLe _) (v:=.bool true) (fun d=>by unfold execOp;simp [hop,go_sem,qq0]) (fun d=>by unfold execOp;simp [hop,go_sem,qq0]) ?_;rw [hd]
 walk_nrm
 clear ho hd hop hg o;obtain ⟨o,ho,hd,hop,hg⟩:=yi3;refine y0a ho (y07 hg _ _) (by decide) (zLe _) (v:=.bool true) (fun d=>by unfold execOp;simp [hop,Act.eval]) (fun d=>by unfold execOp;simp [hop,Act.eval]) ?_;rw [hd]
 walk_nrm
 clear ho hd hop hg o;obtain ⟨o,ho,hd,hop,hg⟩:=yi2;refine y0a ho (y0f hg (by rfl)) (by decide) (zLe _) (v:=.int .i64 0) (fun d=>by unfold execOp;simp [hop,Act.eval]) (fun d=>by unfold execOp;simp [hop,Act.eval]) ?_;rw [hd]
 walk_nrm
 clear ho hd hop hg o;obtain ⟨o,ho,hd,hop,hg⟩:=yi1;refine y0a ho (y0f hg (by rfl)) (by decide) (zLe _) (v:=.bool true) (fun d=>by unfold execOp;simp [hop,go_sem,qq0]) (fun d=>by unfold execOp;simp [hop,go_sem,qq0]) ?_;rw [hd]
 walk_nrm
 clear ho hd hop hg o;obtain ⟨o,ho,hd,hop,hg⟩:=yi0;refine y0a ho (y07 hg _ _) (by decide) (zLe _) (v:=.bool true) (fun d=>by unfold execOp;simp [hop,go_sem,qq0]) (fun d=>by unfold execOp;simp [hop,go_sem,qq0]) ?_;rw [hd]
 walk_nrm
 clear ho hd hop hg o;obtain ⟨o,ho,hd,hop,hg⟩:=yhz;refine y0a ho (y07 hg _ _) (by decide) (zLe _) (v:=.bool true) (fun d=>by unfold execOp;simp [hop,Act.eval]) (fun d=>by unfold execOp;simp [hop,Act.eval]) ?_;rw [hd]
 walk_nrm
 clear ho hd hop hg o;obtain ⟨o,ho,hd,hop,hg⟩:=yhy;refine y0a ho (y0f hg (by rfl)) (by decide) (zLe _) (v:=.int .i64 7) (fun d=>by unfold execOp;simp [hop,Act.eval]) (fun d=>by unfold execOp;simp [hop,Act.eval]) ?_;rw [hd]
 walk_nrm
 clear ho hd hop hg o;obtain ⟨o,ho,hd,hop,hg⟩:=yhx;refine y0a ho (y0f hg (by rfl)) (by decide) (zLe _) (v:=.bool true) (fun d=>by unfold execOp;simp [hop,go_sem,qq0]) (fun d=>by unfold execOp;simp [hop,go_sem,qq0]) ?_;rw [hd]
 walk_nrm
 clear ho hd hop hg o;obtain ⟨o,ho,hd,hop,hg⟩:=yhw;refine y0a ho (y07 hg _ _) (by decide) (zLe _) (v:=.bool true) (fun d=>by unfold execOp;simp [hop,go_sem,qq0]) (fun d=>by unfold execOp;simp [hop,go_sem,qq0]) ?_;rw [hd]
 walk_nrm
 clear ho hd hop hg o;obtain ⟨o,ho,hd,hop,hg⟩:=yhv;refine y0a ho (y07 hg _ _) (by decide) (zLe _) (v:=.bool true) (fun d=>by unfold execOp;simp [hop,Act.eval]) (fun d=>by unfold execOp;simp [hop,Act.eval]) ?_;rw [hd]
 walk_nrm
 clear ho hd hop hg o;obtain ⟨o,ho,hd,hop,hg⟩:=yhu;refine y0a ho (y0f hg (by rfl)) (by decide) (zLe _) (v:=.int .i64 0) (fun d=>by unfold execOp;simp [hop,Act.eval]) (fun d=>by unfold execOp;simp [hop,Act.eval]) ?_;rw [hd]
 walk_nrm
 clear ho hd hop hg o;obtain ⟨o,ho,hd,hop,hg⟩:=yht;refine y0a ho (y0f hg (by rfl)) (by decide) (zLe _) (v:=.bool true) (fun d=>by unfold execOp;simp [hop,go_sem,qq0]) (fun d=>by unfold execOp;simp [hop,go_sem,qq0]) ?_;rw [hd]
 walk_nrm
 clear ho hd hop hg o;obtain ⟨o,ho,hd,hop,hg⟩:=yhs;refine y0a ho (y07 hg _ _) (by decide) (zLe _) (v:=.bool true) (fun d=>by unfold execOp;simp [hop,go_sem,qq0]) (fun d=>by unfold execOp;simp [hop,go_sem,qq0]) ?_;rw [hd]
 walk_nrm
 clear ho hd hop hg o;obtain ⟨o,ho,hd,hop,hg⟩:=yhr;refine y0a ho (y07 hg _ _) (by decide) (zLe _) (v:=.bool true) (fun d=>by unfold execOp;simp [hop,Act.eval]) (fun d=>by unfold execOp;simp [hop,Act.eval]) ?_;rw [hd]
 walk_nrm
 clear ho hd hop hg o;obtain ⟨o,ho,hd,hop,hg⟩:=yhq;refine y0a ho (y0f hg (by rfl)) (by decide) (zLe _) (v:=.int .i64 6) (fun d=>by unfold execOp;simp [hop,Act.eval]) (fun d=>by unfold execOp;simp [hop,Act.eval]) ?_;rw [hd]
 walk_nrm
 clear ho hd hop hg o;obtain ⟨o,ho,hd,hop,hg⟩:=yhp;refine y0a ho (y0f hg (by rfl)) (by decide) (zLe _) (v:=.bool true) (fun d=>by unfold execOp;simp [hop,go_sem,qq0]) (fun d=>by unfold execOp;simp [hop,go_sem,qq0]) ?_;rw [hd]
 walk_nrm
 clear ho hd hop hg o;obtain ⟨o,ho,hd,hop,hg⟩:=yho;refine y0a ho (y07 hg _ _) (by decide) (zLe _) (v:=.bool true) (fun d=>by unfold execOp;simp [hop,go_sem,qq0]) (fun d=>by unfold execOp;simp [hop,go_sem,qq0]) ?_;rw [hd]
 walk_nrm
 clear ho hd hop hg o;obtain ⟨o,ho,hd,hop,hg⟩:=yhn;refine y0a ho (y07 hg _ _) (by decide) (zLe _) (v:=.bool true) (fun d=>by unfold execOp;simp [hop,Act.eval]) (fun d=>by unfold execOp;simp [hop,Act.eval]) ?_;rw [hd]
 walk_nrm
 clear ho hd hop hg o;obtain ⟨o,ho,hd,hop,hg⟩:=yhm;refine y0a ho (y0f hg (by rfl)) (by decide) (zLe _) (v:=.int .i64 0) (fun d=>by unfold execOp;simp [hop,Act.eval]) (fun d=>by unfold execOp;simp [hop,Act.eval]) ?_;rw [hd]
 walk_nrm
 clear ho hd hop hg o;obtain ⟨o,ho,hd,hop,hg⟩:=yhl;refine y0a ho (y0f hg (by rfl)) (by decide) (zLe _) (v:=.bool true) (fun d=>by unfold execOp;simp [hop,go_sem,qq0]) (fun d=>by unfold execOp;simp [hop,go_sem,qq0]) ?_;rw [hd]
 walk_nrm
 clear ho hd hop hg o;obtain ⟨o,ho,hd,hop,hg⟩:=yhk;refine y0a ho (y07 hg _ _) (by decide) (zLe _) (v:=.bool true) (fun d=>by unfold execOp;simp [hop,go_sem,qq0]) (fun d=>by unfold execOp;simp [hop,go_sem,qq0]) ?_;rw [hd]
 walk_nrm
 clear ho hd hop hg o;obtain ⟨o,ho,hd,hop,hg⟩:=yhj;refine y0a ho (y07 hg _ _) (by decide) (zLe _) (v:=.bool true) (fun d=>by unfold execOp;simp [hop,Act.eval]) (fun d=>by unfold execOp;simp [hop,Act.eval]) ?_;rw [hd]
 walk_nrm
 clear ho hd hop hg o;obtain ⟨o,ho,hd,hop,hg⟩:=yhi;refine y0a ho (y0f hg (by rfl)) (by decide) (zLe _) (v:=.bool true) (fun d=>by unfold execOp;simp [hop,Act.eval]) (fun d=>by unfold execOp;simp [hop,Act.eval]) ?_;rw [hd]
 walk_nrm
 clear ho hd hop hg o;obtain ⟨o,ho,hd,hop,hg⟩:=yhh;refine y0a ho (y07 hg _ _) (by decide) (zLe _) (v:=.bool true) (fun d=>by unfold execOp;simp [hop,go_sem,qq0]) (fun d=>by unfold execOp;simp [hop,go_sem,qq0]) ?_;rw [hd]
 walk_nrm
 clear ho hd hop hg o;obtain ⟨o,ho,hd,hop,hg⟩:=yhg;refine y0a ho (y07 hg _ _) (by decide) (zLe _) (v:=.bool true) (fun d=>by unfold execOp;simp [hop,Act.eval]) (fun d=>by unfold execOp;simp [hop,Act.eval]) ?_;rw [hd]
 walk_nrm
 clear ho hd hop hg o;have hxc:wc3.heap[nx]?=some (.cells #[.int .i64 0,.int .i64 1,.int .i64 2,.int .i64 3] 31 (0,0)):=(hkwc3.old nx hxl).trans hx;obtain ⟨o,ho,hd,hop,hg⟩:=yhf;refine mw_ld31 ho (y0f hg (by rfl)) (by decide) hop (bl:=nx) rfl (hno nx (by simp)) (by have:=hkwc3.size;omega) hxc ?_;rw [hd]
 walk_nrm
 clear ho hd hop hg o;obtain ⟨o,ho,hd,hop,hg⟩:=yhe;refine y0a ho (y0f hg (by rfl)) (by decide) (zLe _) (v:=.agg #[.int .i64 0,.int .i64 1,.int .i64 2,.int .i64 3]) (fun d=>by unfold execOp;simp [hop,go_sem,bld]) (fun d=>by unfold execOp;simp [hop,go_sem,blde]) ?_;rw [hd]
 walk_nrm
 clear ho hd hop hg o;obtain ⟨o,ho,hd,hop,hg⟩:=yhd;refine y0a ho (y0f hg (by rfl)) (by decide) (zLe _) (v:=.bool true) (fun d=>by unfold execOp;simp [hop,go_sem,eqg,eqb]) (fun d=>by unfold execOp;simp [hop,go_sem,eqg,eqge,eqbe]) ?_;rw [hd]
 walk_nrm
 clear ho hd hop hg o;obtain ⟨o,ho,hd,hop,hg⟩:=yhc;refine y0a ho (y07 hg _ _) (by decide) (zLe _) (v:=.bool true) (fun d=>by unfold execOp;simp [hop,go_sem,qq0]) (fun d=>by unfold execOp;simp [hop,go_sem,qq0]) ?_;rw [hd]
 walk_nrm
 clear ho hd hop hg o;obtain ⟨o,ho,hd,hop,hg⟩:=yhb;refine y0a ho (y07 hg _ _) (by decide) (zLe _) (v:=.bool true) (fun d=>by unfold execOp;simp [hop,Act.eval]) (fun d=>by unfold execOp;simp [hop,Act.eval]) ?_;rw [hd]
 walk_nrm
 clear ho hd hop hg o;refine y0g rfl (fun _=>stepG_region_end) ?_;refine y0g rfl (fun _=>stepG_ret') ?_;refine y0g rfl (fun _=>y4p rfl rfl Try.func20 res20) ?_;simpa using hk wc3 hkwc3
end
end Go.Mt
namespace Go.Mt
open Go.Tr Go.Conc Go.ConcN Go.Proofs Go.RowKit Go.Conc.Lib Go.ConcR.Gen Go.ConcN.Gen
noncomputable def frA (n16 n21 bb cb a1:Nat):Frame:=b20.at ⟨#[.bool false,.int .i64 3,.int .i64 0,.slice (some ⟨bb,0,none⟩) 3 cb,.int .i64 0,undef,undef,undef,undef,undef,undef,undef,undef,undef,undef,.tuple #[.int .i64 3,.int .i64 0],.slice (some ⟨n16,0,none⟩) 3 3,.tuple #[.int .i64 3,.int .i64 0],.int .i64 3,.int .i64 0,.tuple #[.slice (some ⟨bb,0,none⟩) 3 cb,.int .i64 0],.slice (some ⟨n21,0,none⟩) 3 3,.tuple #[.slice (some ⟨bb,0,none⟩) 3 cb,.int .i64 0],.slice (some ⟨bb,0,none⟩) 3 cb,.int .i64 0,undef,.slice (some ⟨a1,0,none⟩) 4 4,.slice (some ⟨a1+1,0,none⟩) 4 4,undef,undef,undef,undef,undef,undef,undef,undef,undef,undef,undef,undef,undef,undef,undef,undef,undef,undef,undef,undef,undef,undef,undef,undef,undef,undef,undef,undef,undef,undef,undef,undef,undef,undef,undef,undef,undef,undef,undef,undef,undef,undef,undef,undef,undef,undef,undef,undef,undef,undef,undef,undef,undef,undef,undef,undef,undef,undef,undef,undef,undef,undef,undef,undef,undef,undef,undef,undef,undef,undef,undef,undef,undef,undef,undef],[]⟩ [.inRegion (r20 3) [2,3,4,5,6,7,8,9],.code d4]
abbrev s4 (a:Nat):Value:=.slice (some ⟨a,0,none⟩) 4 4
structure AlS (S:FuncId->Bool):Prop where
 s36:S 36=true
 s25:S 25=true
 s16:S 16=true
 s18:S 18=true
 s23:S 23=true
 s27:S 27=true
 s49:S 49=true
 s63:S 63=true
 s65:S 65=true
theorem y2e {w u:World} {Ra:Nat->Prop} {b:Nat} {xs:List Int} (h:IntBlk w b xs) (hA:yah w Ra u) (hR:Ra b):IntBlk u b xs:=by
 obtain ⟨cs,fr,h1,h2,h3⟩:=h;refine ⟨cs,(0,cs.size),?_,h2,h3⟩;rw [hA b hR,h1];rfl
theorem Kept.cut {a b c:World} (h:Kept a.heap.size a b) (k:Kept b.heap.size b c):Kept a.heap.size a c:=h.trans ⟨k.os,k.output,k.tape,k.size,fun x hx=>k.old x (Nat.lt_of_lt_of_le hx h.size)⟩
theorem Kept.at {a b:World} {B:Nat} (h:Kept B a b) (d:Nat):Kept B a (b.at d):=⟨h.os,h.output,h.tape,h.size,h.old⟩
section
variable {P:Program} {S:FuncId->Bool} {kdOf:FuncId->y0t} {Sh:Loc->Prop} {w:World} {c:Frame} {cs:List Frame} {gs:Array Goroutine} {t:Trace} {q:Nat->Nat} {sl0:Option (Nat × Nat)}
theorem aliveCo (D:Duo P S kdOf) (A:AlK P) (hS:AlS S) (hR:ResT P Try.f23) (hmem:∀ l:Loc,l.isMemory=false->Sh l) (hsh:∀ l b,Sh l->inB b l->b<w.heap.size) (hF:Fr Try.prog Sh 0 gs (G (Frame.enter Try.prog 20 #[] .normal) (c :: cs)) w t q) :
  Runs (crowd gs w sl0) t fun m t=>∃ (gs':Array Goroutine) (w':World) (sl':Option (Nat × Nat)) (q':Nat->Nat) (Sh':Loc->Prop),m=crowd gs' w' sl'∧Fr Try.prog Sh' 0 gs' (G (c.finish (.bool true)) cs) w' t q'∧Kept w.heap.size w w'∧(∀ l,Sh l->Sh' l)∧(∀ l b,Sh' l->inB b l->Sh l∨w.heap.size≤b)∧∀ l b,Sh' l->inB b l->b<w'.heap.size:=by
 refine (y1x hF (Stop:=fun L g w'=>L=[]∧∃ n16 n21 bb cb a1,g=G (Frame.enter Try.prog 34 #[s4 a1,s4 (a1+1)] .normal) (frA n16 n21 bb cb a1 :: c :: cs)∧Kept w.heap.size w w'∧w.heap.size≤bb∧bb<a1∧IntBlk w' bb [0,1,1]∧IntBlk w' a1 [0,0,1,1]∧IntBlk w' (a1+1) [0,1,1,0]∧a1+2=w'.heap.size)
  (alR1 D A hS.s36 hsh fun w2 n16 hk2=>alR2 D A hS.s25 (y28 hsh hk2.size) (fun b hb l hl hs=>by have:=hsh l b hs hl;have:=hk2.size;omega) n16 fun w3 n21 bb cb hk3 hbb hib=>alR3 n16 n21 bb cb fun w4 a1 hk4 ha1 hz h1 h2=>y3t fun d =>
   ⟨rfl,n16,n21,bb,cb,a1,rfl,(hk2.cut (hk3.cut hk4)).at d,by have:=hk2.size;omega,by rw [ha1];exact hib.lt,hib.of_get (hk4.old _ hib.lt),h1,h2,hz⟩)).bind fun m1 t1 ⟨gs1,a1',w1,sl1,q1,L1,hm,hsz1,hF1,hL1,n16,n21,bb,cb,a1,ha,hk1,hbb,hba,hib,hi1,hi2,hz1⟩=>?_
 subst hm hL1 ha;have hz1':=hk1.size;have hg:Given w1 Sh (fun b=>b=a1∨b=a1+1) (some ⟨a1,0,none⟩) (some ⟨a1+1,0,none⟩):=by
  refine ⟨y28 hsh hz1',hmem,fun b hb=>?_,fun x hx=>?_,fun x hx=>?_⟩
  ·have hno:∀ l,inB b l->¬ Sh l:=fun l h1 h2=>by have:=hsh l b h2 h1;omega
   rcases hb with rfl|rfl
   ·exact ⟨hi1.lt,hno,hi1.seen⟩
   ·exact ⟨hi2.lt,hno,hi2.seen⟩
  ·obtain rfl:=zSi hx
   exact .inl rfl
  ·obtain rfl:=zSi hx
   exact .inr rfl
 refine (meetCo (sl0:=sl1) (er:=0) (Post0:=fun n v u=>ResI n u v [0,1,2,3]) (Post1:=fun n v u=>ResI n u v [0,0,0,0]) D.same D.calm (fun _ h=>h) hS.s49 hS.s63 hS.s65 hg (fun _ _ _ τ h=>y3p τ h) (fun _ _ _ τ h=>y3p τ h) (fun _ _ _ ⟨_,_,h,_⟩=>⟨_,_,_,h⟩)
  (fun u hA hu=>A.c49 u _ a1 (a1+1) (y2e hi1 hA (.inl rfl)) (y2e hi2 hA (.inr rfl)) hu)
  (fun _ u hA=>A.c63 u a1 (a1+1) (y2e hi1 hA (.inl rfl)) (y2e hi2 hA (.inr rfl)))
  (fun _ u hA=>A.c65 u a1 (a1+1) (y2e hi1 hA (.inl rfl)) (y2e hi2 hA (.inr rfl))) hF1).bind fun m2 t2 ⟨gs2,w2,sl2,q2,Sh',r,hm,hF2,hL⟩=>?_
 subst hm;rcases hL.val with ⟨h0,_⟩|⟨_,M,L1,L2,v0,v0',u0,v1,v1',u1,rfl,hM,hv0,hw0,hp0,hv1,hw1,hp1,hl1,hl2,hshM⟩
 ·exact absurd rfl h0
 obtain ⟨b0,c0,rfl,hb0L,hb0N,hib0⟩:=y7f rfl hw0 hv0 hp0;obtain ⟨b1,c1,rfl,hb1L,hb1N,hib1⟩:=y7f rfl hw1 hv1 hp1;replace hb0N:M+4≤b0:=hb0N;replace hb1N:M+4≤b1:=hb1N;have hib2:IntBlk w2 bb [0,1,1]:=hib.of_get (hL.kept.old bb (by omega));have hz2:=hL.kept.size;have hno:∀ b ∈ [bb,b0,b1],∀ l,inB b l->¬ Sh' l:=by
  intro b hb l hl hs;simp only [List.mem_cons,List.not_mem_nil,or_false] at hb;rcases hb with e|e|e
  ·rcases hL.news l b hs hl with h|h
   ·have:=hsh l b h hl
    omega
   ·omega
  ·have:=hshM l b hs hl
   omega
  ·have:=hshM l b hs hl
   omega
 refine (y1x hF2 (Stop:=fun L g w'=>L=[]∧g=G (c.finish (.bool true)) cs∧Kept w2.heap.size w2 w') (alS3 n16 n21 bb cb a1 b0 c0 b1 c1 (alS4 D A hS.s16 hL.shB n16 n21 bb cb a1 b0 c0 b1 c1 fun w3 hk3=>alS5 D A hS.s18 (y28 hL.shB hk3.size) n16 n21 bb cb a1 b0 c0 b1 c1 fun w4 hk4=>alS6 D A hS.s23 hR (y28 hL.shB (hk3.cut hk4).size) n16 n21 bb cb a1 b0 c0 b1 c1 fun w5 n41 nx hk5 hnx hx =>
  have hk25:=(hk3.cut hk4).cut hk5
  alS7 D A hS.s27 (y28 hL.shB hk25.size) n16 n21 bb cb a1 b0 c0 b1 c1 n41 nx (fun b hb l hl=>by
   simp only [List.mem_cons,List.not_mem_nil,or_false] at hb;rcases hb with e|e|e|e
   ·exact hno b (by simp [e]) l hl
   ·exact hno b (by simp [e]) l hl
   ·exact hno b (by simp [e]) l hl
   ·intro hs
    have h1:=hL.shB l b hs hl;have h2:=(hk3.cut hk4).size;omega) (hib2.of_get (hk25.old _ hib2.lt)) (hib0.of_get (hk25.old _ hib0.lt)) (hib1.of_get (hk25.old _ hib1.lt)) (zGe hx).1 hx fun w6 hk6=>y3t fun d=>⟨rfl,rfl,(hk25.cut hk6).at d⟩))).mono fun m3 t3 ⟨gs3,a3,w3,sl3,q3,L3,hm,hsz3,hF3,hL3,ha3,hk3⟩=>?_
 subst hm hL3 ha3;refine ⟨gs3,w3,sl3,q3,Sh',rfl,hF3,hk1.cut (hL.kept.cut hk3),hL.sh,fun l b h1 h2=>(hL.news l b h1 h2).imp id fun h=>by omega,y28 hL.shB hk3.size⟩
end
end Go.Mt
namespace Go.Mt
open Go.Tr Go.Conc Go.ConcN Go.Proofs
abbrev opsA:Array Oper:=#[{ dst:=some 0,op:=.assign (.const (.bool true)),type:=4,pos := "", after:=#[],guard:=none }]
abbrev bodyA:Code:=.seq (.region 0 opsA false) .ret
structure Stand (P:Program):Prop where
 fn:∃ fn,P.funcs[20]?=some fn∧fn.body=some bodyA∧fn.results=#[.tmp 0]∧fn.params.size=0∧fn.ntmps=1
theorem ybj {P:Program} (h:Stand P) (c:Frame) (cs:List Frame) (u:World):LPath P (G (Frame.enter P 20 #[] .normal) (c :: cs)) u (G (c.finish (.bool true)) cs) u:=by
 obtain ⟨fn,hf,hb,hr,_,hn⟩:=h.fn;rw [enter_at _ hf hb,hn];have hra:∀ w,(execOp (Act.eval ⟨#[undef],[]⟩) (opsA[0]'(by decide))).run P w=.ok (.value (.bool true)) w:=fun w=>by
  unfold execOp;simp [opsA,Act.eval]
 have e0:(#[]:Array Value) ++ Array.replicate (1 - (#[]:Array Value).size) undef=#[undef]:=by rfl
 rw [e0];have e1:stepG P true (G ((base 20).at ⟨#[undef],[]⟩ [.code bodyA]) (c :: cs)) u=.go (G ((base 20).at ⟨#[undef],[]⟩ [.code (.region 0 opsA false),.code .ret]) (c :: cs)) u:=stepG_seq;have e2:stepG P true (G ((base 20).at ⟨#[undef],[]⟩ [.code (.region 0 opsA false),.code .ret]) (c :: cs)) u=.go (G ((base 20).at ⟨#[undef],[]⟩ [.inRegion opsA [0],.code .ret]) (c :: cs)) u:=stepG_region;have e3:stepG P true (G ((base 20).at ⟨#[undef],[]⟩ [.inRegion opsA [0],.code .ret]) (c :: cs)) u=.go (G ((base 20).at ⟨#[.bool true],[]⟩ [.inRegion opsA [],.code .ret]) (c :: cs)) u (listed P (base 20).fn ⟨#[undef],[]⟩ (opsA[0]'(by decide)) u):=stepG_value (o:=opsA[0]'(by decide)) rfl rfl (by decide) (hra u);have e4:stepG P true (G ((base 20).at ⟨#[.bool true],[]⟩ [.inRegion opsA [],.code .ret]) (c :: cs)) u=.go (G ((base 20).at ⟨#[.bool true],[]⟩ [.code .ret]) (c :: cs)) u:=stepG_region_end;have e5:stepG P true (G ((base 20).at ⟨#[.bool true],[]⟩ [.code .ret]) (c :: cs)) u=.go (G { (base 20).at ⟨#[.bool true],[]⟩ [.code .ret] with mode:=.returning } (c :: cs)) u:=stepG_ret';have e6:stepG P true (G { (base 20).at ⟨#[.bool true],[]⟩ [.code .ret] with mode:=.returning } (c :: cs)) u=.go (G (c.finish (.bool true)) cs) u:=y4p rfl rfl hf hr;exact .cons u.tape e1 (.cons u.tape e2 (.cons u.tape e3 (.cons u.tape e4 (.cons u.tape e5 (.cons u.tape e6 (.nil rfl))))))
section
variable {W0:World} {P:Program} {S0 S T:FuncId->Bool} {kdOf:FuncId->y0t} {K:Cfg}
theorem y79 (D:Duo P S0 kdOf) (hCT:y27 P Try.prog.funcs S T kdOf) (A:AlK P) (hS:AlS S0) (hR:ResT P Try.f23) (hSt:Stand P) (hT20:∀ f,T f=true->S f=false->f=20) (hRd:∀ b,K.Rd b->b<K.N):yac W0 P Try.prog.funcs S T kdOf K [] []:=by
 intro L g g' gs u w t q Sh sl hE hW hI hF;obtain ⟨fe,xs,xs',cs,cs',hSf,hTf,rfl,rfl,has,hne,hz,hstk⟩:=hE;obtain rfl:=hT20 fe hTf hSf;obtain ⟨fn,hf,hb,hr,hps,hnt⟩:=hSt.fn;have h0:xs.size=0:=by
  have:(match P.funcs[20]? with|some fn=>fn.params.size == xs.size|none=>false)=true:=hz;rw [hf] at this;simp [hps] at this;omega
 obtain rfl:xs=#[]:=Array.eq_empty_of_size_eq_zero h0;obtain rfl:xs'=#[]:=Array.eq_empty_of_size_eq_zero (has.1.trans rfl);cases hstk with
 |nil=>exact absurd rfl hne
 |@cons _ g tm tm' ops i rest td cs cs' o ht ho hd hc hSg hs =>
  rw [D.same] at hF;refine (aliveCo (sl0:=sl) D A hS hR hI.mem hI.shB hF).mono fun m t ⟨gs',w',sl',q',Sh',hm,hF',hk,h1,h2,h3⟩=>?_
  have hone:oneB P 20=true:=by simp [oneB,hf,hr]
  have hdst:(ops[i]?).bind (·.dst)=o.dst:=by rw [ho];rfl
  have hcr:(Item.inRegion ops rest :: td).all (y2j P T (kdOf g))=true:=by
   simp only [List.all_cons,Bool.and_eq_true,y2j] at hc ⊢;exact hc
  have hvd:RelD K (kdOf g) o.dst L (.bool true) (.bool true):=RelD.part (.cell (.flat rfl));refine ⟨gs',w',sl',q',Sh',L,G ((frm g tm (.inRegion ops (i :: rest) :: td) .run).finish (.bool true)) (cs ++ [c0]),_,u,hm,hF',ybj hSt _ _ u,?_,?_,?_,?_⟩
  ·rintro ⟨_,h⟩
   simp only [y2f,G] at h;rcases h with h|⟨_,h⟩
   ·cases h
   ·cases h
  ·simp only [y2f,hdst]
   exact ⟨g,_,_,_,_,cs,cs',rfl,rfl,ht.put2 _ hvd,hcr,hSg,hs,.inl rfl⟩
  ·exact hW.rely ⟨hk.os,hk.output,hk.size,fun b hb hl=>hk.old b (Nat.lt_of_lt_of_le hl hW.wsize),fun b hb=>hk.old b (hW.within b hb.1),fun j b s hj=>hk.old b (Nat.lt_of_lt_of_le (hW.ali j b s hj).1 hW.wsize)⟩
  ·refine ⟨hI.kept.trans ⟨hk.os,hk.output,hk.tape,hk.size,fun b hb=>hk.old b (Nat.lt_of_lt_of_le hb hW.wsize)⟩,fun l hl=>h1 l (hI.mem l hl),h3,fun b hb l hl hs=>?_,fun b hb l hl hs=>?_,fun j b s hj l hl hs=>?_⟩
   ·rcases h2 l b hs hl with h|h
    ·exact hI.rd b hb l hl h
    ·have:=hRd b hb
     have:=hW.wsize;omega
   ·rcases h2 l b hs hl with h|h
    ·exact hI.al b hb l hl h
    ·have:=hW.within b hb.1
     omega
   ·rcases h2 l b hs hl with h|h
    ·exact hI.ra j b s hj l hl h
    ·have:=(hW.ali j b s hj).1
     have:=hW.wsize;omega
end
end Go.Mt
namespace Go.Proofs
open Go
def Tra.f20:Go.Func :=
{ name := "droveway/drovewaylaw06.alive", origin := "", params:=#[],resultTypes:=#[4],nfree:=0,ntmps:=1,
  results:=#[Go.ResultVar.tmp 0],
  body :=
    some
      ((Go.Code.region 0
            #[{ dst:=some 0,op:=Go.Op.assign (Go.Operand.const (Go.Value.bool true)),type:=4,
                pos := "", after:=#[],guard:=none }]
            false).seq
        Go.Code.ret),
  norace:=false,file := "droveway/drovewaylaw06/law.go", endLine:=19,met:=[],tmpNames:=#[""] }
noncomputable def Tra.prog:Program:={ Try.prog with funcs:=Try.prog.funcs.setIfInBounds 20 Tra.f20 }
theorem Tra.func (f:Nat) (h:f≠20):Tra.prog.funcs[f]?=Try.prog.funcs[f]?:=Array.getElem?_setIfInBounds_ne (Ne.symm h)
@[simp] theorem Tra.func20:Tra.prog.funcs[20]?=some Tra.f20:=by
 have h:20<Try.prog.funcs.size:=(zGe Try.func20).1;exact Array.getElem?_setIfInBounds_self_of_lt h
end Go.Proofs
namespace Go.Mt
open Go.Tr Go.Conc Go.ConcN Go.Proofs
theorem _root_.Go.Proofs.Tra.same:wf Tra.prog Try.prog.funcs=Try.prog:=rfl
theorem _root_.Go.Proofs.Tra.stand:Stand Tra.prog:=⟨_,Tra.func20,rfl,by kernel_rfl,by kernel_rfl,rfl⟩
def kdL:List (Nat × List (Nat × Nat)):=[(3,[(9,2),(12,2),(15,2),(18,2),(29,2),(32,2),(35,2),(38,2)]),(4,[(25,2),(28,2),(31,2),(34,2),(72,2),(75,2),(78,2),(84,2)]),(5,[(5,1),(8,1),(17,2),(19,2),(23,2),(25,2),(42,2),(44,2),(47,2),(49,2),(61,2),(64,2),(67,2),(70,2)]),(6,[(3,1),(20,2),(22,2),(26,2),(28,2),(64,2),(66,2),(70,2),(72,2),(75,2),(77,2)]),(7,[(7,1),(10,1),(25,2),(28,2),(52,2),(54,2),(58,2),(60,2),(75,2),(77,2),(80,2),(82,2),(95,2),(98,2)]),(9,[(56,2),(59,2),(62,2),(65,2),(68,2),(71,2),(74,2),(77,2),(80,2),(83,2)]),(11,[(35,2),(38,2),(41,2),(43,2),(46,2),(48,2),(76,2),(79,2)]),(12,[(17,2),(19,2),(22,2),(24,2),(35,2),(38,2),(41,2),(44,2)]),(13,[(28,2),(31,2),(34,2),(39,2),(45,2),(49,2),(80,2),(83,2),(95,2),(99,2),(102,2),(105,2),(127,1)]),(14,[(30,2),(32,2),(37,2),(41,2),(60,2),(63,2),(89,2),(92,2),(95,2),(98,2),(101,2),(103,2),(145,1),(149,1),(154,1),(158,1)]),(15,[(28,2),(30,2),(37,2),(39,2),(60,1),(64,1),(70,1),(72,1),(73,2),(75,2),(78,2),(80,2)]),(16,[(31,1),(35,1),(41,1),(45,1),(49,1),(55,1)]),(17,[(21,1),(37,1),(42,1),(46,1),(50,1),(54,1),(57,1),(61,1)]),(18,[]),(19,[(16,1),(19,1)]),(21,[]),(22,[]),(23,[(2,1),(6,1),(15,2),(17,2)]),(24,[(2,1),(6,1),(14,2),(16,2)]),(25,[(5,1),(17,2),(19,2)]),(26,[(4,1),(13,2),(15,2),(54,1),(58,1),(87,1),(96,1),(98,1)]),(27,[(19,1),(23,1)]),(28,[]),(29,[]),(30,[(16,1),(22,1),(29,1)]),(31,[(14,1)]),(32,[]),(36,[(20,1)]),(37,[(25,1),(33,1),(39,1)]),(38,[]),(39,[(26,1),(28,1),(42,1),(45,1)]),(40,[(13,1)]),(41,[(24,1),(29,1),(31,1),(36,1)]),(42,[(22,1),(28,1),(33,1)]),(43,[]),(44,[]),(45,[]),(46,[]),(47,[]),(48,[(21,1),(42,1),(47,1),(50,1),(53,1),(70,1),(75,1),(78,1),(82,1),(85,1),(89,1)]),(49,[(9,1),(23,1),(27,1)]),(50,[(2,1),(39,1),(43,1),(49,1),(53,1),(60,1),(64,1)]),(51,[]),(52,[(2,1),(40,1),(44,1),(50,1),(54,1),(61,1),(65,1)]),(53,[(29,1)]),(54,[(14,1),(16,2),(19,2)]),(55,[(25,1),(29,1),(34,1)]),(56,[]),(57,[(18,1),(22,1),(28,1),(32,1)]),(63,[(15,1),(19,1)]),(65,[(25,1),(29,1),(35,1),(39,1),(45,1),(49,1),(56,1),(64,1)]),(67,[(21,1),(40,1),(46,1),(49,1),(54,1)]),(68,[(28,1),(35,1),(38,1),(44,1),(48,1),(51,1)]),(69,[]),(70,[]),(84,[(6,1),(14,1),(16,2),(19,2)]),(90,[(10,1),(21,1)]),(91,[(14,1)])]
def kdOf (f:FuncId):y0t:=fun t=>min 2 (match kdL.find? (fun p=>p.1 == f) with|some p=>(match p.2.find? (fun q=>q.1 == t) with|some q=>q.2|none=>0)|none=>0)
theorem kd_two (f:FuncId) (t:Nat):kdOf f t≤2:=Nat.min_le_left _ _
def lawL:List Nat:=[3,4,5,6,7,9,11,12,13,14,15]
def subL:List Nat:=[16,17,18,19,21,22,23,24,25,26,27,28,29,30,31,32,36,37,38,39,40,41,42,43,44,45,46,47,48,49,50,51,52,53,54,55,56,57,63,65,67,68,69,70,84,90,91]
def S0 (f:FuncId):Bool:=subL.contains f
def S1 (f:FuncId):Bool:=(subL ++ lawL).contains f
def T1 (f:FuncId):Bool:=(20 :: (subL ++ lawL)).contains f
theorem y0e {T:FuncId->Bool} {f:FuncId} {fn:Func} {c:Code} (hf:Try.prog.funcs[f]?=some fn) (h20:f≠20) (hb:fn.body=some c) (hn:(fn.name == "runtime.NumGoroutine")=false) (hc:codeB Tra.prog T (kdOf f) c=true) (hr:fn.results.all (resB (kdOf f))=true) (hp:(List.range fn.params.size).all (fun i=>kdOf f i == 0)=true):CalmF Tra.prog T (kdOf f) f :=
 ⟨kd_two f,fn,c,(Tra.func f h20).trans hf,hb,hn,hc,hr,fun i hi=>by simpa using List.all_eq_true.1 hp i (List.mem_range.2 hi)⟩
theorem yj7:CalmF Tra.prog T1 (kdOf 3) 3:=y0e Try.func3 (by decide) rfl (by kernel_rfl) (by kernel_rfl) (by kernel_rfl) (by kernel_rfl)
theorem yj6:CalmF Tra.prog T1 (kdOf 4) 4:=y0e Try.func4 (by decide) rfl (by kernel_rfl) (by kernel_rfl) (by kernel_rfl) (by kernel_rfl)
theorem yj5:CalmF Tra.prog T1 (kdOf 5) 5:=y0e Try.func5 (by decide) rfl (by kernel_rfl) (by kernel_rfl) (by kernel_rfl) (by kernel_rfl)
theorem yj4:CalmF Tra.prog T1 (kdOf 6) 6:=y0e Try.func6 (by decide) rfl (by kernel_rfl) (by kernel_rfl) (by kernel_rfl) (by kernel_rfl)
theorem yj3:CalmF Tra.prog T1 (kdOf 7) 7:=y0e Try.func7 (by decide) rfl (by kernel_rfl) (by kernel_rfl) (by kernel_rfl) (by kernel_rfl)
theorem yj2:CalmF Tra.prog T1 (kdOf 9) 9:=y0e Try.func9 (by decide) rfl (by kernel_rfl) (by kernel_rfl) (by kernel_rfl) (by kernel_rfl)
theorem yf7:CalmF Tra.prog T1 (kdOf 11) 11:=y0e Try.func11 (by decide) rfl (by kernel_rfl) (by kernel_rfl) (by kernel_rfl) (by kernel_rfl)
theorem yf6:CalmF Tra.prog T1 (kdOf 12) 12:=y0e Try.func12 (by decide) rfl (by kernel_rfl) (by kernel_rfl) (by kernel_rfl) (by kernel_rfl)
theorem yf5:CalmF Tra.prog T1 (kdOf 13) 13:=y0e Try.func13 (by decide) rfl (by kernel_rfl) (by kernel_rfl) (by kernel_rfl) (by kernel_rfl)
theorem yf4:CalmF Tra.prog T1 (kdOf 14) 14:=y0e Try.func14 (by decide) rfl (by kernel_rfl) (by kernel_rfl) (by kernel_rfl) (by kernel_rfl)
theorem yf3:CalmF Tra.prog T1 (kdOf 15) 15:=y0e Try.func15 (by decide) rfl (by kernel_rfl) (by kernel_rfl) (by kernel_rfl) (by kernel_rfl)
theorem ygi:CalmF Tra.prog S0 (kdOf 16) 16:=y0e Try.func16 (by decide) rfl (by kernel_rfl) (by kernel_rfl) (by kernel_rfl) (by kernel_rfl)
theorem yf2:CalmF Tra.prog T1 (kdOf 16) 16:=y0e Try.func16 (by decide) rfl (by kernel_rfl) (by kernel_rfl) (by kernel_rfl) (by kernel_rfl)
theorem ygh:CalmF Tra.prog S0 (kdOf 17) 17:=y0e Try.func17 (by decide) rfl (by kernel_rfl) (by kernel_rfl) (by kernel_rfl) (by kernel_rfl)
theorem yf1:CalmF Tra.prog T1 (kdOf 17) 17:=y0e Try.func17 (by decide) rfl (by kernel_rfl) (by kernel_rfl) (by kernel_rfl) (by kernel_rfl)
theorem ygg:CalmF Tra.prog S0 (kdOf 18) 18:=y0e Try.func18 (by decide) rfl (by kernel_rfl) (by kernel_rfl) (by kernel_rfl) (by kernel_rfl)
theorem yf0:CalmF Tra.prog T1 (kdOf 18) 18:=y0e Try.func18 (by decide) rfl (by kernel_rfl) (by kernel_rfl) (by kernel_rfl) (by kernel_rfl)
theorem ygf:CalmF Tra.prog S0 (kdOf 19) 19:=y0e Try.func19 (by decide) rfl (by kernel_rfl) (by kernel_rfl) (by kernel_rfl) (by kernel_rfl)
theorem yez:CalmF Tra.prog T1 (kdOf 19) 19:=y0e Try.func19 (by decide) rfl (by kernel_rfl) (by kernel_rfl) (by kernel_rfl) (by kernel_rfl)
theorem yge:CalmF Tra.prog S0 (kdOf 21) 21:=y0e Try.func21 (by decide) rfl (by kernel_rfl) (by kernel_rfl) (by kernel_rfl) (by kernel_rfl)
theorem yex:CalmF Tra.prog T1 (kdOf 21) 21:=y0e Try.func21 (by decide) rfl (by kernel_rfl) (by kernel_rfl) (by kernel_rfl) (by kernel_rfl)
theorem ygd:CalmF Tra.prog S0 (kdOf 22) 22:=y0e Try.func22 (by decide) rfl (by kernel_rfl) (by kernel_rfl) (by kernel_rfl) (by kernel_rfl)
theorem yew:CalmF Tra.prog T1 (kdOf 22) 22:=y0e Try.func22 (by decide) rfl (by kernel_rfl) (by kernel_rfl) (by kernel_rfl) (by kernel_rfl)
theorem ygc:CalmF Tra.prog S0 (kdOf 23) 23:=y0e Try.func23 (by decide) rfl (by kernel_rfl) (by kernel_rfl) (by kernel_rfl) (by kernel_rfl)
theorem yev:CalmF Tra.prog T1 (kdOf 23) 23:=y0e Try.func23 (by decide) rfl (by kernel_rfl) (by kernel_rfl) (by kernel_rfl) (by kernel_rfl)
theorem ygb:CalmF Tra.prog S0 (kdOf 24) 24:=y0e Try.func24 (by decide) rfl (by kernel_rfl) (by kernel_rfl) (by kernel_rfl) (by kernel_rfl)
theorem yeu:CalmF Tra.prog T1 (kdOf 24) 24:=y0e Try.func24 (by decide) rfl (by kernel_rfl) (by kernel_rfl) (by kernel_rfl) (by kernel_rfl)
theorem yga:CalmF Tra.prog S0 (kdOf 25) 25:=y0e Try.func25 (by decide) rfl (by kernel_rfl) (by kernel_rfl) (by kernel_rfl) (by kernel_rfl)
theorem yet:CalmF Tra.prog T1 (kdOf 25) 25:=y0e Try.func25 (by decide) rfl (by kernel_rfl) (by kernel_rfl) (by kernel_rfl) (by kernel_rfl)
theorem yg9:CalmF Tra.prog S0 (kdOf 26) 26:=y0e Try.func26 (by decide) rfl (by kernel_rfl) (by kernel_rfl) (by kernel_rfl) (by kernel_rfl)
theorem yes:CalmF Tra.prog T1 (kdOf 26) 26:=y0e Try.func26 (by decide) rfl (by kernel_rfl) (by kernel_rfl) (by kernel_rfl) (by kernel_rfl)
theorem yg8:CalmF Tra.prog S0 (kdOf 27) 27:=y0e Try.func27 (by decide) rfl (by kernel_rfl) (by kernel_rfl) (by kernel_rfl) (by kernel_rfl)
theorem yer:CalmF Tra.prog T1 (kdOf 27) 27:=y0e Try.func27 (by decide) rfl (by kernel_rfl) (by kernel_rfl) (by kernel_rfl) (by kernel_rfl)
theorem yg7:CalmF Tra.prog S0 (kdOf 28) 28:=y0e Try.func28 (by decide) rfl (by kernel_rfl) (by kernel_rfl) (by kernel_rfl) (by kernel_rfl)
theorem yeq:CalmF Tra.prog T1 (kdOf 28) 28:=y0e Try.func28 (by decide) rfl (by kernel_rfl) (by kernel_rfl) (by kernel_rfl) (by kernel_rfl)
theorem yg6:CalmF Tra.prog S0 (kdOf 29) 29:=y0e Try.func29 (by decide) rfl (by kernel_rfl) (by kernel_rfl) (by kernel_rfl) (by kernel_rfl)
theorem yep:CalmF Tra.prog T1 (kdOf 29) 29:=y0e Try.func29 (by decide) rfl (by kernel_rfl) (by kernel_rfl) (by kernel_rfl) (by kernel_rfl)
theorem yg5:CalmF Tra.prog S0 (kdOf 30) 30:=y0e Try.func30 (by decide) rfl (by kernel_rfl) (by kernel_rfl) (by kernel_rfl) (by kernel_rfl)
theorem yeo:CalmF Tra.prog T1 (kdOf 30) 30:=y0e Try.func30 (by decide) rfl (by kernel_rfl) (by kernel_rfl) (by kernel_rfl) (by kernel_rfl)
theorem yg4:CalmF Tra.prog S0 (kdOf 31) 31:=y0e Try.func31 (by decide) rfl (by kernel_rfl) (by kernel_rfl) (by kernel_rfl) (by kernel_rfl)
theorem yen:CalmF Tra.prog T1 (kdOf 31) 31:=y0e Try.func31 (by decide) rfl (by kernel_rfl) (by kernel_rfl) (by kernel_rfl) (by kernel_rfl)
theorem yg3:CalmF Tra.prog S0 (kdOf 32) 32:=y0e Try.func32 (by decide) rfl (by kernel_rfl) (by kernel_rfl) (by kernel_rfl) (by kernel_rfl)
theorem yem:CalmF Tra.prog T1 (kdOf 32) 32:=y0e Try.func32 (by decide) rfl (by kernel_rfl) (by kernel_rfl) (by kernel_rfl) (by kernel_rfl)
theorem yg2:CalmF Tra.prog S0 (kdOf 36) 36:=y0e Try.func36 (by decide) rfl (by kernel_rfl) (by kernel_rfl) (by kernel_rfl) (by kernel_rfl)
theorem yel:CalmF Tra.prog T1 (kdOf 36) 36:=y0e Try.func36 (by decide) rfl (by kernel_rfl) (by kernel_rfl) (by kernel_rfl) (by kernel_rfl)
theorem yg1:CalmF Tra.prog S0 (kdOf 37) 37:=y0e Try.func37 (by decide) rfl (by kernel_rfl) (by kernel_rfl) (by kernel_rfl) (by kernel_rfl)
theorem yek:CalmF Tra.prog T1 (kdOf 37) 37:=y0e Try.func37 (by decide) rfl (by kernel_rfl) (by kernel_rfl) (by kernel_rfl) (by kernel_rfl)
theorem yg0:CalmF Tra.prog S0 (kdOf 38) 38:=y0e Try.func38 (by decide) rfl (by kernel_rfl) (by kernel_rfl) (by kernel_rfl) (by kernel_rfl)
theorem yej:CalmF Tra.prog T1 (kdOf 38) 38:=y0e Try.func38 (by decide) rfl (by kernel_rfl) (by kernel_rfl) (by kernel_rfl) (by kernel_rfl)
theorem yfz:CalmF Tra.prog S0 (kdOf 39) 39:=y0e Try.func39 (by decide) rfl (by kernel_rfl) (by kernel_rfl) (by kernel_rfl) (by kernel_rfl)
theorem yei:CalmF Tra.prog T1 (kdOf 39) 39:=y0e Try.func39 (by decide) rfl (by kernel_rfl) (by kernel_rfl) (by kernel_rfl) (by kernel_rfl)
theorem yfy:CalmF Tra.prog S0 (kdOf 40) 40:=y0e Try.func40 (by decide) rfl (by kernel_rfl) (by kernel_rfl) (by kernel_rfl) (by kernel_rfl)
theorem yeh:CalmF Tra.prog T1 (kdOf 40) 40:=y0e Try.func40 (by decide) rfl (by kernel_rfl) (by kernel_rfl) (by kernel_rfl) (by kernel_rfl)
theorem yfx:CalmF Tra.prog S0 (kdOf 41) 41:=y0e Try.func41 (by decide) rfl (by kernel_rfl) (by kernel_rfl) (by kernel_rfl) (by kernel_rfl)
theorem yeg:CalmF Tra.prog T1 (kdOf 41) 41:=y0e Try.func41 (by decide) rfl (by kernel_rfl) (by kernel_rfl) (by kernel_rfl) (by kernel_rfl)
theorem yfw:CalmF Tra.prog S0 (kdOf 42) 42:=y0e Try.func42 (by decide) rfl (by kernel_rfl) (by kernel_rfl) (by kernel_rfl) (by kernel_rfl)
theorem yef:CalmF Tra.prog T1 (kdOf 42) 42:=y0e Try.func42 (by decide) rfl (by kernel_rfl) (by kernel_rfl) (by kernel_rfl) (by kernel_rfl)
theorem yfv:CalmF Tra.prog S0 (kdOf 43) 43:=y0e Try.func43 (by decide) rfl (by kernel_rfl) (by kernel_rfl) (by kernel_rfl) (by kernel_rfl)
theorem yee:CalmF Tra.prog T1 (kdOf 43) 43:=y0e Try.func43 (by decide) rfl (by kernel_rfl) (by kernel_rfl) (by kernel_rfl) (by kernel_rfl)
theorem yfu:CalmF Tra.prog S0 (kdOf 44) 44:=y0e Try.func44 (by decide) rfl (by kernel_rfl) (by kernel_rfl) (by kernel_rfl) (by kernel_rfl)
theorem yed:CalmF Tra.prog T1 (kdOf 44) 44:=y0e Try.func44 (by decide) rfl (by kernel_rfl) (by kernel_rfl) (by kernel_rfl) (by kernel_rfl)
theorem yft:CalmF Tra.prog S0 (kdOf 45) 45:=y0e Try.func45 (by decide) rfl (by kernel_rfl) (by kernel_rfl) (by kernel_rfl) (by kernel_rfl)
theorem yec:CalmF Tra.prog T1 (kdOf 45) 45:=y0e Try.func45 (by decide) rfl (by kernel_rfl) (by kernel_rfl) (by kernel_rfl) (by kernel_rfl)
theorem yfs:CalmF Tra.prog S0 (kdOf 46) 46:=y0e Try.func46 (by decide) rfl (by kernel_rfl) (by kernel_rfl) (by kernel_rfl) (by kernel_rfl)
theorem yeb:CalmF Tra.prog T1 (kdOf 46) 46:=y0e Try.func46 (by decide) rfl (by kernel_rfl) (by kernel_rfl) (by kernel_rfl) (by kernel_rfl)
theorem yfr:CalmF Tra.prog S0 (kdOf 47) 47:=y0e Try.func47 (by decide) rfl (by kernel_rfl) (by kernel_rfl) (by kernel_rfl) (by kernel_rfl)
theorem yea:CalmF Tra.prog T1 (kdOf 47) 47:=y0e Try.func47 (by decide) rfl (by kernel_rfl) (by kernel_rfl) (by kernel_rfl) (by kernel_rfl)
theorem yfq:CalmF Tra.prog S0 (kdOf 48) 48:=y0e Try.func48 (by decide) rfl (by kernel_rfl) (by kernel_rfl) (by kernel_rfl) (by kernel_rfl)
theorem ye9:CalmF Tra.prog T1 (kdOf 48) 48:=y0e Try.func48 (by decide) rfl (by kernel_rfl) (by kernel_rfl) (by kernel_rfl) (by kernel_rfl)
theorem yfp:CalmF Tra.prog S0 (kdOf 49) 49:=y0e Try.func49 (by decide) rfl (by kernel_rfl) (by kernel_rfl) (by kernel_rfl) (by kernel_rfl)
theorem ye8:CalmF Tra.prog T1 (kdOf 49) 49:=y0e Try.func49 (by decide) rfl (by kernel_rfl) (by kernel_rfl) (by kernel_rfl) (by kernel_rfl)
theorem yfo:CalmF Tra.prog S0 (kdOf 50) 50:=y0e Try.func50 (by decide) rfl (by kernel_rfl) (by kernel_rfl) (by kernel_rfl) (by kernel_rfl)
theorem ye7:CalmF Tra.prog T1 (kdOf 50) 50:=y0e Try.func50 (by decide) rfl (by kernel_rfl) (by kernel_rfl) (by kernel_rfl) (by kernel_rfl)
theorem yfn:CalmF Tra.prog S0 (kdOf 51) 51:=y0e Try.func51 (by decide) rfl (by kernel_rfl) (by kernel_rfl) (by kernel_rfl) (by kernel_rfl)
theorem ye6:CalmF Tra.prog T1 (kdOf 51) 51:=y0e Try.func51 (by decide) rfl (by kernel_rfl) (by kernel_rfl) (by kernel_rfl) (by kernel_rfl)
theorem yfm:CalmF Tra.prog S0 (kdOf 52) 52:=y0e Try.func52 (by decide) rfl (by kernel_rfl) (by kernel_rfl) (by kernel_rfl) (by kernel_rfl)
theorem ye5:CalmF Tra.prog T1 (kdOf 52) 52:=y0e Try.func52 (by decide) rfl (by kernel_rfl) (by kernel_rfl) (by kernel_rfl) (by kernel_rfl)
theorem yfl:CalmF Tra.prog S0 (kdOf 53) 53:=y0e Try.func53 (by decide) rfl (by kernel_rfl) (by kernel_rfl) (by kernel_rfl) (by kernel_rfl)
theorem ye4:CalmF Tra.prog T1 (kdOf 53) 53:=y0e Try.func53 (by decide) rfl (by kernel_rfl) (by kernel_rfl) (by kernel_rfl) (by kernel_rfl)
theorem yfk:CalmF Tra.prog S0 (kdOf 54) 54:=y0e Try.func54 (by decide) rfl (by kernel_rfl) (by kernel_rfl) (by kernel_rfl) (by kernel_rfl)
theorem ye3:CalmF Tra.prog T1 (kdOf 54) 54:=y0e Try.func54 (by decide) rfl (by kernel_rfl) (by kernel_rfl) (by kernel_rfl) (by kernel_rfl)
theorem yfj:CalmF Tra.prog S0 (kdOf 55) 55:=y0e Try.func55 (by decide) rfl (by kernel_rfl) (by kernel_rfl) (by kernel_rfl) (by kernel_rfl)
theorem ye2:CalmF Tra.prog T1 (kdOf 55) 55:=y0e Try.func55 (by decide) rfl (by kernel_rfl) (by kernel_rfl) (by kernel_rfl) (by kernel_rfl)
theorem yfi:CalmF Tra.prog S0 (kdOf 56) 56:=y0e Try.func56 (by decide) rfl (by kernel_rfl) (by kernel_rfl) (by kernel_rfl) (by kernel_rfl)
theorem ye1:CalmF Tra.prog T1 (kdOf 56) 56:=y0e Try.func56 (by decide) rfl (by kernel_rfl) (by kernel_rfl) (by kernel_rfl) (by kernel_rfl)
theorem yfh:CalmF Tra.prog S0 (kdOf 57) 57:=y0e Try.func57 (by decide) rfl (by kernel_rfl) (by kernel_rfl) (by kernel_rfl) (by kernel_rfl)
theorem ye0:CalmF Tra.prog T1 (kdOf 57) 57:=y0e Try.func57 (by decide) rfl (by kernel_rfl) (by kernel_rfl) (by kernel_rfl) (by kernel_rfl)
theorem yfg:CalmF Tra.prog S0 (kdOf 63) 63:=y0e Try.func63 (by decide) rfl (by kernel_rfl) (by kernel_rfl) (by kernel_rfl) (by kernel_rfl)
theorem ydz:CalmF Tra.prog T1 (kdOf 63) 63:=y0e Try.func63 (by decide) rfl (by kernel_rfl) (by kernel_rfl) (by kernel_rfl) (by kernel_rfl)
theorem yff:CalmF Tra.prog S0 (kdOf 65) 65:=y0e Try.func65 (by decide) rfl (by kernel_rfl) (by kernel_rfl) (by kernel_rfl) (by kernel_rfl)
theorem ydy:CalmF Tra.prog T1 (kdOf 65) 65:=y0e Try.func65 (by decide) rfl (by kernel_rfl) (by kernel_rfl) (by kernel_rfl) (by kernel_rfl)
theorem yfe:CalmF Tra.prog S0 (kdOf 67) 67:=y0e Try.func67 (by decide) rfl (by kernel_rfl) (by kernel_rfl) (by kernel_rfl) (by kernel_rfl)
theorem ydx:CalmF Tra.prog T1 (kdOf 67) 67:=y0e Try.func67 (by decide) rfl (by kernel_rfl) (by kernel_rfl) (by kernel_rfl) (by kernel_rfl)
theorem yfd:CalmF Tra.prog S0 (kdOf 68) 68:=y0e Try.func68 (by decide) rfl (by kernel_rfl) (by kernel_rfl) (by kernel_rfl) (by kernel_rfl)
theorem ydw:CalmF Tra.prog T1 (kdOf 68) 68:=y0e Try.func68 (by decide) rfl (by kernel_rfl) (by kernel_rfl) (by kernel_rfl) (by kernel_rfl)
theorem yfc:CalmF Tra.prog S0 (kdOf 69) 69:=y0e Try.func69 (by decide) rfl (by kernel_rfl) (by kernel_rfl) (by kernel_rfl) (by kernel_rfl)
theorem ydv:CalmF Tra.prog T1 (kdOf 69) 69:=y0e Try.func69 (by decide) rfl (by kernel_rfl) (by kernel_rfl) (by kernel_rfl) (by kernel_rfl)
theorem yfb:CalmF Tra.prog S0 (kdOf 70) 70:=y0e Try.func70 (by decide) rfl (by kernel_rfl) (by kernel_rfl) (by kernel_rfl) (by kernel_rfl)
theorem ydu:CalmF Tra.prog T1 (kdOf 70) 70:=y0e Try.func70 (by decide) rfl (by kernel_rfl) (by kernel_rfl) (by kernel_rfl) (by kernel_rfl)
theorem yfa:CalmF Tra.prog S0 (kdOf 84) 84:=y0e Try.func84 (by decide) rfl (by kernel_rfl) (by kernel_rfl) (by kernel_rfl) (by kernel_rfl)
theorem ydt:CalmF Tra.prog T1 (kdOf 84) 84:=y0e Try.func84 (by decide) rfl (by kernel_rfl) (by kernel_rfl) (by kernel_rfl) (by kernel_rfl)
theorem yf9:CalmF Tra.prog S0 (kdOf 90) 90:=y0e Try.func90 (by decide) rfl (by kernel_rfl) (by kernel_rfl) (by kernel_rfl) (by kernel_rfl)
theorem yds:CalmF Tra.prog T1 (kdOf 90) 90:=y0e Try.func90 (by decide) rfl (by kernel_rfl) (by kernel_rfl) (by kernel_rfl) (by kernel_rfl)
theorem yf8:CalmF Tra.prog S0 (kdOf 91) 91:=y0e Try.func91 (by decide) rfl (by kernel_rfl) (by kernel_rfl) (by kernel_rfl) (by kernel_rfl)
theorem ydr:CalmF Tra.prog T1 (kdOf 91) 91:=y0e Try.func91 (by decide) rfl (by kernel_rfl) (by kernel_rfl) (by kernel_rfl) (by kernel_rfl)
end Go.Mt
namespace Go.Mt
open Go.Tr Go.Conc Go.ConcN Go.Proofs
theorem y65 {T:FuncId->Bool} {f:FuncId} (h20:f≠20) (h:CalmF Tra.prog T (kdOf f) f):Has Tra.prog Try.prog.funcs f:=by
 obtain ⟨fn,c,hf,hb,hn,_⟩:=h.fn;have hb':fn.body.isNone=false:=by rw [hb];rfl
 exact ⟨fn,fn,⟨hf,hn,hb'⟩,(Tra.func f h20).symm.trans hf,hn,hb'⟩
theorem has20:Has Tra.prog Try.prog.funcs 20:=⟨Tra.f20,Try.f20,⟨Tra.func20,by kernel_rfl,rfl⟩,Try.func20,by kernel_rfl,rfl⟩
theorem yiv {T:FuncId->Bool} {f:FuncId} (h:CalmF Tra.prog T (kdOf f) f):Has Tra.prog Tra.prog.funcs f:=by
 obtain ⟨fn,c,hf,hb,hn,_⟩:=h.fn;have hb':fn.body.isNone=false:=by rw [hb];rfl
 exact ⟨fn,fn,⟨hf,hn,hb'⟩,hf,hn,hb'⟩
theorem yey:CalmF Tra.prog T1 (kdOf 20) 20 :=
 ⟨kd_two 20,Tra.f20,bodyA,Tra.func20,rfl,by kernel_rfl,by kernel_rfl,by kernel_rfl,fun i hi=>by
  have:Tra.f20.params.size=0:=by kernel_rfl
  omega⟩
theorem sub0:∀ f,f ∈ subL->f≠20∧CalmF Tra.prog S0 (kdOf f) f:=by
 intro f hf;simp only [subL,List.mem_cons,List.not_mem_nil,or_false] at hf;rcases hf with rfl|rfl|rfl|rfl|rfl|rfl|rfl|rfl|rfl|rfl|rfl|rfl|rfl|rfl|rfl|rfl|rfl|rfl|rfl|rfl|rfl|rfl|rfl|rfl|rfl|rfl|rfl|rfl|rfl|rfl|rfl|rfl|rfl|rfl|rfl|rfl|rfl|rfl|rfl|rfl|rfl|rfl|rfl|rfl|rfl|rfl|rfl
 ·exact ⟨by decide,ygi⟩
 ·exact ⟨by decide,ygh⟩
 ·exact ⟨by decide,ygg⟩
 ·exact ⟨by decide,ygf⟩
 ·exact ⟨by decide,yge⟩
 ·exact ⟨by decide,ygd⟩
 ·exact ⟨by decide,ygc⟩
 ·exact ⟨by decide,ygb⟩
 ·exact ⟨by decide,yga⟩
 ·exact ⟨by decide,yg9⟩
 ·exact ⟨by decide,yg8⟩
 ·exact ⟨by decide,yg7⟩
 ·exact ⟨by decide,yg6⟩
 ·exact ⟨by decide,yg5⟩
 ·exact ⟨by decide,yg4⟩
 ·exact ⟨by decide,yg3⟩
 ·exact ⟨by decide,yg2⟩
 ·exact ⟨by decide,yg1⟩
 ·exact ⟨by decide,yg0⟩
 ·exact ⟨by decide,yfz⟩
 ·exact ⟨by decide,yfy⟩
 ·exact ⟨by decide,yfx⟩
 ·exact ⟨by decide,yfw⟩
 ·exact ⟨by decide,yfv⟩
 ·exact ⟨by decide,yfu⟩
 ·exact ⟨by decide,yft⟩
 ·exact ⟨by decide,yfs⟩
 ·exact ⟨by decide,yfr⟩
 ·exact ⟨by decide,yfq⟩
 ·exact ⟨by decide,yfp⟩
 ·exact ⟨by decide,yfo⟩
 ·exact ⟨by decide,yfn⟩
 ·exact ⟨by decide,yfm⟩
 ·exact ⟨by decide,yfl⟩
 ·exact ⟨by decide,yfk⟩
 ·exact ⟨by decide,yfj⟩
 ·exact ⟨by decide,yfi⟩
 ·exact ⟨by decide,yfh⟩
 ·exact ⟨by decide,yfg⟩
 ·exact ⟨by decide,yff⟩
 ·exact ⟨by decide,yfe⟩
 ·exact ⟨by decide,yfd⟩
 ·exact ⟨by decide,yfc⟩
 ·exact ⟨by decide,yfb⟩
 ·exact ⟨by decide,yfa⟩
 ·exact ⟨by decide,yf9⟩
 ·exact ⟨by decide,yf8⟩
theorem sub1:∀ f,f ∈ subL->f≠20∧CalmF Tra.prog T1 (kdOf f) f:=by
 intro f hf;simp only [subL,List.mem_cons,List.not_mem_nil,or_false] at hf;rcases hf with rfl|rfl|rfl|rfl|rfl|rfl|rfl|rfl|rfl|rfl|rfl|rfl|rfl|rfl|rfl|rfl|rfl|rfl|rfl|rfl|rfl|rfl|rfl|rfl|rfl|rfl|rfl|rfl|rfl|rfl|rfl|rfl|rfl|rfl|rfl|rfl|rfl|rfl|rfl|rfl|rfl|rfl|rfl|rfl|rfl|rfl|rfl
 ·exact ⟨by decide,yf2⟩
 ·exact ⟨by decide,yf1⟩
 ·exact ⟨by decide,yf0⟩
 ·exact ⟨by decide,yez⟩
 ·exact ⟨by decide,yex⟩
 ·exact ⟨by decide,yew⟩
 ·exact ⟨by decide,yev⟩
 ·exact ⟨by decide,yeu⟩
 ·exact ⟨by decide,yet⟩
 ·exact ⟨by decide,yes⟩
 ·exact ⟨by decide,yer⟩
 ·exact ⟨by decide,yeq⟩
 ·exact ⟨by decide,yep⟩
 ·exact ⟨by decide,yeo⟩
 ·exact ⟨by decide,yen⟩
 ·exact ⟨by decide,yem⟩
 ·exact ⟨by decide,yel⟩
 ·exact ⟨by decide,yek⟩
 ·exact ⟨by decide,yej⟩
 ·exact ⟨by decide,yei⟩
 ·exact ⟨by decide,yeh⟩
 ·exact ⟨by decide,yeg⟩
 ·exact ⟨by decide,yef⟩
 ·exact ⟨by decide,yee⟩
 ·exact ⟨by decide,yed⟩
 ·exact ⟨by decide,yec⟩
 ·exact ⟨by decide,yeb⟩
 ·exact ⟨by decide,yea⟩
 ·exact ⟨by decide,ye9⟩
 ·exact ⟨by decide,ye8⟩
 ·exact ⟨by decide,ye7⟩
 ·exact ⟨by decide,ye6⟩
 ·exact ⟨by decide,ye5⟩
 ·exact ⟨by decide,ye4⟩
 ·exact ⟨by decide,ye3⟩
 ·exact ⟨by decide,ye2⟩
 ·exact ⟨by decide,ye1⟩
 ·exact ⟨by decide,ye0⟩
 ·exact ⟨by decide,ydz⟩
 ·exact ⟨by decide,ydy⟩
 ·exact ⟨by decide,ydx⟩
 ·exact ⟨by decide,ydw⟩
 ·exact ⟨by decide,ydv⟩
 ·exact ⟨by decide,ydu⟩
 ·exact ⟨by decide,ydt⟩
 ·exact ⟨by decide,yds⟩
 ·exact ⟨by decide,ydr⟩
theorem law1:∀ f,f ∈ lawL->f≠20∧CalmF Tra.prog T1 (kdOf f) f:=by
 intro f hf;simp only [lawL,List.mem_cons,List.not_mem_nil,or_false] at hf;rcases hf with rfl|rfl|rfl|rfl|rfl|rfl|rfl|rfl|rfl|rfl|rfl
 ·exact ⟨by decide,yj7⟩
 ·exact ⟨by decide,yj6⟩
 ·exact ⟨by decide,yj5⟩
 ·exact ⟨by decide,yj4⟩
 ·exact ⟨by decide,yj3⟩
 ·exact ⟨by decide,yj2⟩
 ·exact ⟨by decide,yf7⟩
 ·exact ⟨by decide,yf6⟩
 ·exact ⟨by decide,yf5⟩
 ·exact ⟨by decide,yf4⟩
 ·exact ⟨by decide,yf3⟩
theorem mem0 {f:FuncId} (h:S0 f=true):f ∈ subL:=by simpa [S0] using h
theorem mem1 {f:FuncId} (h:S1 f=true):f≠20∧CalmF Tra.prog T1 (kdOf f) f:=by
 have:f ∈ subL ++ lawL:=by simpa [S1] using h
 rcases List.mem_append.1 this with h|h
 ·exact sub1 f h
 ·exact law1 f h
theorem memT {f:FuncId} (h:T1 f=true):f=20∨S1 f=true:=by
 have:f ∈ 20 :: (subL ++ lawL):=by simpa [T1] using h
 rcases List.mem_cons.1 this with h|h
 ·exact .inl h
 ·exact .inr (by simpa [S1] using h)
theorem _root_.Go.Proofs.Tra.duo:Duo Tra.prog S0 kdOf:=⟨Tra.same,⟨fun f h=>(sub0 f (mem0 h)).2,fun f h=>(Tra.func f (sub0 f (mem0 h)).1).symm,fun f h=>y65 (sub0 f (mem0 h)).1 (sub0 f (mem0 h)).2⟩⟩
theorem _root_.Go.Proofs.Tra.calm1:y27 Tra.prog Try.prog.funcs S1 T1 kdOf:=⟨fun f h=>(mem1 h).2,fun f h=>(Tra.func f (mem1 h).1).symm,fun f h=>by
 rcases memT h with rfl|h
 ·exact has20
 ·exact y65 (mem1 h).1 (mem1 h).2⟩
theorem calmTT {f:FuncId} (h:T1 f=true):CalmF Tra.prog T1 (kdOf f) f:=by
 rcases memT h with rfl|h
 ·exact yey
 ·exact (mem1 h).2
theorem _root_.Go.Proofs.Tra.calmT:y27 Tra.prog Tra.prog.funcs T1 T1 kdOf:=⟨fun f h=>calmTT h,fun f h=>rfl,fun f h=>yiv (calmTT h)⟩
theorem _root_.Go.Proofs.Tra.t20:∀ f,T1 f=true->S1 f=false->f=20:=fun f h hs=>by
 rcases memT h with h|h
 ·exact h
 ·rw [hs] at h;cases h
theorem _root_.Go.Proofs.Tra.als:AlS S0:=⟨by decide,by decide,by decide,by decide,by decide,by decide,by decide,by decide,by decide⟩
end Go.Mt
namespace Go.Mt
open Go.Tr Go.Conc Go.ConcN Go.Proofs
def Flat {α:Type} (P:Program) (s:Sem α):Prop:=∀ (u:World) (a:α) (u':World),s.run P u=.ok a u'->∀ τ,s.run P (retape u τ)=.ok a (retape u' τ)
theorem Flat.pure {α:Type} {P:Program} (a:α):Flat P (pure a:Sem α):=fun u b u' h τ=>by
 have h:Result.ok a u=Result.ok b u':=h;injection h with h1 h2
 subst h1 h2;rfl
theorem yc1 (P:Program) (u:World) (a:Addr) (m:Bool) (τ:Nat->Question->Nat):World.farLoad P (retape u τ) a m=World.farLoad P u a m:=rfl
theorem Flat.load {P:Program} (a:Addr) (m:Mode):Flat P (Go.load a m):=fun u b u' h τ=>by
 simp only [Go.load,Sem.run] at h ⊢;have e:(retape u τ).cell? a=u.cell? a:=rfl;rw [e];cases hc:u.cell? a with
 |some v =>
  rw [hc] at h;simp only at h ⊢;injection h with h1 h2
  subst h1 h2;rfl
 |none =>
  rw [hc] at h;simp only [yc1] at h ⊢;generalize World.farLoad P u a (m == Mode.atomic)=r at h ⊢;cases r with
  |ok x =>
   obtain ⟨x1,x2⟩:=x;simp only at h ⊢;injection h with h1 h2
   subst h1 h2;rfl
  |error e=>cases h
theorem Flat.bind {α β:Type} {P:Program} {s:Sem α} {k:α->Sem β} (h:Flat P s) (hk:∀ a,Flat P (k a)):Flat P (s >>= k):=fun u b u' hr τ=>by
 rw [Sem.run_bind] at hr ⊢;cases hs:s.run P u with
 |ok a u1 =>
  rw [hs] at hr;rw [h u a u1 hs τ];exact hk a u1 b u' hr τ
 |halt x u1 =>
  rw [hs] at hr;cases hr
theorem Flat.const {α:Type} {P:Program} {s:Sem α} {a:α} (h:∀ u,s.run P u=.ok a u):Flat P s:=fun u b u' hr τ=>by
 rw [h] at hr ⊢;injection hr with h1 h2
 subst h1 h2;rfl
theorem Flat.addr {P:Program} (v:Value):Flat P (asAddr v):=by
 unfold asAddr;intro u b u' hr τ;split at hr<;>first|(have hr:Result.ok _ u=Result.ok b u':=hr;injection hr with h1 h2;subst h1 h2;rfl)|(simp [Sem.run] at hr)|(cases hr)
theorem Flat.cells {P:Program} (a:Addr):∀ (n i:Nat) (acc:Array Value),Flat P (loadCellsFrom a i n acc)
 |0,i,acc=>.pure acc
 |n+1,i,acc=>.bind (.load _ _) fun v=>Flat.cells a n (i+1) (acc.push v)
theorem Flat.var31 (a:Addr):Flat Tra.prog (loadVar 31 a):=by
 unfold loadVar;refine .bind (.const (a:=true) fun u=>by kernel_rfl) fun b=>?_
 cases b with
 |true =>
  refine .bind (.const (a:=4) fun u=>by kernel_rfl) fun n=>.bind (.cells a n 0 #[]) fun cs=>.pure _
 |false=>exact .load _ _
theorem Flat.results23 (tm:Array Value):Flat Tra.prog (results Try.f23 tm):=by
 have hr:Try.f23.results=#[.cell 2 31,.tmp 3,.tmp 4]:=by kernel_rfl
 unfold results;rw [hr];simp only [Array.mapM_eq_mapM_toList,List.mapM_cons,List.mapM_nil,bind_assoc,map_eq_pure_bind];refine .bind (.addr _) fun a=>?_
 refine .bind (.var31 a) fun v=>?_
 intro u b u' h τ;simp [Sem.run] at h ⊢;obtain ⟨rfl,rfl⟩:=h;exact ⟨rfl,rfl⟩
theorem res23:ResT Tra.prog Try.f23:=fun tm u v h τ=>Flat.results23 tm u v u h τ
end Go.Mt
namespace Go.Proofs
theorem y10 {P:Program} {f:FuncId} {fn:Func} (hf:P.funcs[f]?=some fn) (hn:(fn.name == "runtime.NumGoroutine")=false) (hb:fn.body.isNone=false) {args:Array Value} {w:World}:Sem.run P (callFunc f args) w=Result.ok (Next.enter f args) w:=by
 have h1:¬ fn.name = "runtime.NumGoroutine" := by simpa using hn
 have h2:¬ fn.body=none:=by intro e;rw [e] at hb;cases hb
 simp [callFunc,hf,h1,h2]
open Go
@[simp] theorem Tra.func15:Tra.prog.funcs[15]?=Option.some Go.Proofs.Try.f15:=(Tra.func 15 (by decide)).trans Try.func15
@[simp] theorem Tra.func16:Tra.prog.funcs[16]?=Option.some Go.Proofs.Try.f16:=(Tra.func 16 (by decide)).trans Try.func16
@[simp] theorem Tra.func18:Tra.prog.funcs[18]?=Option.some Go.Proofs.Try.f18:=(Tra.func 18 (by decide)).trans Try.func18
@[simp] theorem Tra.func22:Tra.prog.funcs[22]?=Option.some Go.Proofs.Try.f22:=(Tra.func 22 (by decide)).trans Try.func22
@[simp] theorem Tra.func23:Tra.prog.funcs[23]?=Option.some Go.Proofs.Try.f23:=(Tra.func 23 (by decide)).trans Try.func23
@[simp] theorem Tra.func25:Tra.prog.funcs[25]?=Option.some Go.Proofs.Try.f25:=(Tra.func 25 (by decide)).trans Try.func25
@[simp] theorem Tra.func27:Tra.prog.funcs[27]?=Option.some Go.Proofs.Try.f27:=(Tra.func 27 (by decide)).trans Try.func27
@[simp] theorem Tra.func30:Tra.prog.funcs[30]?=Option.some Go.Proofs.Try.f30:=(Tra.func 30 (by decide)).trans Try.func30
@[simp] theorem Tra.func31:Tra.prog.funcs[31]?=Option.some Go.Proofs.Try.f31:=(Tra.func 31 (by decide)).trans Try.func31
@[simp] theorem Tra.func36:Tra.prog.funcs[36]?=Option.some Go.Proofs.Try.f36:=(Tra.func 36 (by decide)).trans Try.func36
@[simp] theorem Tra.func40:Tra.prog.funcs[40]?=Option.some Go.Proofs.Try.f40:=(Tra.func 40 (by decide)).trans Try.func40
noncomputable abbrev Tra.f41:Func:=Try.f41
@[simp] theorem Tra.func41:Tra.prog.funcs[41]?=Option.some Go.Proofs.Try.f41:=(Tra.func 41 (by decide)).trans Try.func41
@[simp] theorem Tra.func42:Tra.prog.funcs[42]?=Option.some Go.Proofs.Try.f42:=(Tra.func 42 (by decide)).trans Try.func42
@[simp] theorem Tra.func43:Tra.prog.funcs[43]?=Option.some Go.Proofs.Try.f43:=(Tra.func 43 (by decide)).trans Try.func43
@[simp] theorem Tra.func44:Tra.prog.funcs[44]?=Option.some Go.Proofs.Try.f44:=(Tra.func 44 (by decide)).trans Try.func44
@[simp] theorem Tra.func45:Tra.prog.funcs[45]?=Option.some Go.Proofs.Try.f45:=(Tra.func 45 (by decide)).trans Try.func45
@[simp] theorem Tra.func47:Tra.prog.funcs[47]?=Option.some Go.Proofs.Try.f47:=(Tra.func 47 (by decide)).trans Try.func47
@[simp] theorem Tra.func49:Tra.prog.funcs[49]?=Option.some Go.Proofs.Try.f49:=(Tra.func 49 (by decide)).trans Try.func49
@[simp] theorem Tra.func50:Tra.prog.funcs[50]?=Option.some Go.Proofs.Try.f50:=(Tra.func 50 (by decide)).trans Try.func50
@[simp] theorem Tra.func51:Tra.prog.funcs[51]?=Option.some Go.Proofs.Try.f51:=(Tra.func 51 (by decide)).trans Try.func51
noncomputable abbrev Tra.f53:Func:=Try.f53
@[simp] theorem Tra.func53:Tra.prog.funcs[53]?=Option.some Go.Proofs.Try.f53:=(Tra.func 53 (by decide)).trans Try.func53
@[simp] theorem Tra.func54:Tra.prog.funcs[54]?=Option.some Go.Proofs.Try.f54:=(Tra.func 54 (by decide)).trans Try.func54
@[simp] theorem Tra.func55:Tra.prog.funcs[55]?=Option.some Go.Proofs.Try.f55:=(Tra.func 55 (by decide)).trans Try.func55
@[simp] theorem Tra.func56:Tra.prog.funcs[56]?=Option.some Go.Proofs.Try.f56:=(Tra.func 56 (by decide)).trans Try.func56
@[simp] theorem Tra.func61:Tra.prog.funcs[61]?=Option.some Go.Proofs.Try.f61:=(Tra.func 61 (by decide)).trans Try.func61
noncomputable abbrev Tra.f63:Func:=Try.f63
@[simp] theorem Tra.func63:Tra.prog.funcs[63]?=Option.some Go.Proofs.Try.f63:=(Tra.func 63 (by decide)).trans Try.func63
@[simp] theorem Tra.func64:Tra.prog.funcs[64]?=Option.some Go.Proofs.Try.f64:=(Tra.func 64 (by decide)).trans Try.func64
@[simp] theorem Tra.func65:Tra.prog.funcs[65]?=Option.some Go.Proofs.Try.f65:=(Tra.func 65 (by decide)).trans Try.func65
noncomputable abbrev Tra.f67:Func:=Try.f67
@[simp] theorem Tra.func67:Tra.prog.funcs[67]?=Option.some Go.Proofs.Try.f67:=(Tra.func 67 (by decide)).trans Try.func67
@[simp] theorem Tra.func69:Tra.prog.funcs[69]?=Option.some Go.Proofs.Try.f69:=(Tra.func 69 (by decide)).trans Try.func69
@[simp] theorem Tra.func70:Tra.prog.funcs[70]?=Option.some Go.Proofs.Try.f70:=(Tra.func 70 (by decide)).trans Try.func70
@[simp] theorem Tra.func84:Tra.prog.funcs[84]?=Option.some Go.Proofs.Try.f84:=(Tra.func 84 (by decide)).trans Try.func84
@[simp] theorem Tra.func90:Tra.prog.funcs[90]?=Option.some Go.Proofs.Try.f90:=(Tra.func 90 (by decide)).trans Try.func90
@[simp] theorem Tra.func91:Tra.prog.funcs[91]?=Option.some Go.Proofs.Try.f91:=(Tra.func 91 (by decide)).trans Try.func91
@[simp] theorem Tra.call20:∀ (args:Array Go.Value) (w:Go.World),Go.Sem.run Tra.prog (Go.callFunc 20 args) w=Go.Result.ok (Go.Next.enter 20 args) w:=fun _ _=>y10 (Tra.func20) (by kernel_rfl) (by kernel_rfl)
@[simp] theorem Tra.call22:∀ (args:Array Go.Value) (w:Go.World),Go.Sem.run Tra.prog (Go.callFunc 22 args) w=Go.Result.ok (Go.Next.enter 22 args) w:=fun _ _=>y10 (Tra.func22) (by kernel_rfl) (by kernel_rfl)
@[simp] theorem Tra.call27:∀ (args:Array Go.Value) (w:Go.World),Go.Sem.run Tra.prog (Go.callFunc 27 args) w=Go.Result.ok (Go.Next.enter 27 args) w:=fun _ _=>y10 (Tra.func27) (by kernel_rfl) (by kernel_rfl)
@[simp] theorem Tra.call30:∀ (args:Array Go.Value) (w:Go.World),Go.Sem.run Tra.prog (Go.callFunc 30 args) w=Go.Result.ok (Go.Next.enter 30 args) w:=fun _ _=>y10 (Tra.func30) (by kernel_rfl) (by kernel_rfl)
@[simp] theorem Tra.call40:∀ (args:Array Go.Value) (w:Go.World),Go.Sem.run Tra.prog (Go.callFunc 40 args) w=Go.Result.ok (Go.Next.enter 40 args) w:=fun _ _=>y10 (Tra.func40) (by kernel_rfl) (by kernel_rfl)
@[simp] theorem Tra.call41:∀ (args:Array Go.Value) (w:Go.World),Go.Sem.run Tra.prog (Go.callFunc 41 args) w=Go.Result.ok (Go.Next.enter 41 args) w:=fun _ _=>y10 (Tra.func41) (by kernel_rfl) (by kernel_rfl)
@[simp] theorem Tra.call42:∀ (args:Array Go.Value) (w:Go.World),Go.Sem.run Tra.prog (Go.callFunc 42 args) w=Go.Result.ok (Go.Next.enter 42 args) w:=fun _ _=>y10 (Tra.func42) (by kernel_rfl) (by kernel_rfl)
@[simp] theorem Tra.call43:∀ (args:Array Go.Value) (w:Go.World),Go.Sem.run Tra.prog (Go.callFunc 43 args) w=Go.Result.ok (Go.Next.enter 43 args) w:=fun _ _=>y10 (Tra.func43) (by kernel_rfl) (by kernel_rfl)
@[simp] theorem Tra.call44:∀ (args:Array Go.Value) (w:Go.World),Go.Sem.run Tra.prog (Go.callFunc 44 args) w=Go.Result.ok (Go.Next.enter 44 args) w:=fun _ _=>y10 (Tra.func44) (by kernel_rfl) (by kernel_rfl)
@[simp] theorem Tra.call54:∀ (args:Array Go.Value) (w:Go.World),Go.Sem.run Tra.prog (Go.callFunc 54 args) w=Go.Result.ok (Go.Next.enter 54 args) w:=fun _ _=>y10 (Tra.func54) (by kernel_rfl) (by kernel_rfl)
@[simp] theorem Tra.call56:∀ (args:Array Go.Value) (w:Go.World),Go.Sem.run Tra.prog (Go.callFunc 56 args) w=Go.Result.ok (Go.Next.enter 56 args) w:=fun _ _=>y10 (Tra.func56) (by kernel_rfl) (by kernel_rfl)
@[simp] theorem Tra.call61:∀ (args:Array Go.Value) (w:Go.World),Go.Sem.run Tra.prog (Go.callFunc 61 args) w=Go.Result.ok (Go.Next.enter 61 args) w:=fun _ _=>y10 (Tra.func61) (by kernel_rfl) (by kernel_rfl)
@[simp] theorem Tra.call64:∀ (args:Array Go.Value) (w:Go.World),Go.Sem.run Tra.prog (Go.callFunc 64 args) w=Go.Result.ok (Go.Next.enter 64 args) w:=fun _ _=>y10 (Tra.func64) (by kernel_rfl) (by kernel_rfl)
@[simp] theorem Tra.isAgg3:∀ (w:Go.World),Go.Sem.run Tra.prog (Go.isAgg 3) w=Go.Result.ok Bool.false w:=fun _=>by kernel_rfl
@[simp] theorem Tra.isAgg29:∀ (w:Go.World),Go.Sem.run Tra.prog (Go.isAgg 29) w=Go.Result.ok Bool.false w:=fun _=>by kernel_rfl
@[simp] theorem Tra.isAgg31:∀ (w:Go.World),Go.Sem.run Tra.prog (Go.isAgg 31) w=Go.Result.ok Bool.true w:=fun _=>by kernel_rfl
@[simp] theorem Tra.isAgg89:∀ (w:Go.World),Go.Sem.run Tra.prog (Go.isAgg 89) w=Go.Result.ok Bool.true w:=fun _=>by kernel_rfl
theorem Tra.ntmps15:Go.Proofs.Try.f15.ntmps=99:=Try.ntmps15
theorem Tra.ntmps16:Go.Proofs.Try.f16.ntmps=57:=Try.ntmps16
theorem Tra.ntmps18:Go.Proofs.Try.f18.ntmps=25:=Try.ntmps18
theorem Tra.ntmps20:Tra.f20.ntmps=1:=rfl
theorem Tra.ntmps22:Go.Proofs.Try.f22.ntmps=13:=Try.ntmps22
theorem Tra.ntmps23:Go.Proofs.Try.f23.ntmps=22:=Try.ntmps23
theorem Tra.ntmps25:Go.Proofs.Try.f25.ntmps=48:=Try.ntmps25
theorem Tra.ntmps27:Go.Proofs.Try.f27.ntmps=26:=Try.ntmps27
theorem Tra.ntmps30:Go.Proofs.Try.f30.ntmps=35:=Try.ntmps30
theorem Tra.ntmps31:Go.Proofs.Try.f31.ntmps=19:=Try.ntmps31
theorem Tra.ntmps36:Go.Proofs.Try.f36.ntmps=39:=Try.ntmps36
theorem Tra.ntmps40:Go.Proofs.Try.f40.ntmps=27:=Try.ntmps40
theorem Tra.ntmps41:Go.Proofs.Try.f41.ntmps=38:=Try.ntmps41
theorem Tra.ntmps42:Go.Proofs.Try.f42.ntmps=36:=Try.ntmps42
theorem Tra.ntmps43:Go.Proofs.Try.f43.ntmps=9:=Try.ntmps43
theorem Tra.ntmps44:Go.Proofs.Try.f44.ntmps=9:=Try.ntmps44
theorem Tra.ntmps45:Go.Proofs.Try.f45.ntmps=20:=Try.ntmps45
theorem Tra.ntmps47:Go.Proofs.Try.f47.ntmps=28:=Try.ntmps47
theorem Tra.ntmps49:Go.Proofs.Try.f49.ntmps=32:=Try.ntmps49
theorem Tra.ntmps50:Go.Proofs.Try.f50.ntmps=75:=Try.ntmps50
theorem Tra.ntmps51:Go.Proofs.Try.f51.ntmps=9:=Try.ntmps51
theorem Tra.ntmps53:Go.Proofs.Try.f53.ntmps=35:=Try.ntmps53
theorem Tra.ntmps54:Go.Proofs.Try.f54.ntmps=36:=Try.ntmps54
theorem Tra.ntmps55:Go.Proofs.Try.f55.ntmps=46:=Try.ntmps55
theorem Tra.ntmps56:Go.Proofs.Try.f56.ntmps=8:=Try.ntmps56
theorem Tra.ntmps63:Go.Proofs.Try.f63.ntmps=27:=Try.ntmps63
theorem Tra.ntmps65:Go.Proofs.Try.f65.ntmps=70:=Try.ntmps65
theorem Tra.ntmps67:Go.Proofs.Try.f67.ntmps=56:=Try.ntmps67
theorem Tra.ntmps69:Go.Proofs.Try.f69.ntmps=9:=Try.ntmps69
theorem Tra.ntmps70:Go.Proofs.Try.f70.ntmps=9:=Try.ntmps70
theorem Tra.ntmps84:Go.Proofs.Try.f84.ntmps=36:=Try.ntmps84
theorem Tra.ntmps90:Go.Proofs.Try.f90.ntmps=25:=Try.ntmps90
theorem Tra.ntmps91:Go.Proofs.Try.f91.ntmps=19:=Try.ntmps91
@[simp] theorem Tra.runUnderlying29:∀ (w:Go.World),Go.Sem.run Tra.prog (Go.underlying 29) w=Go.Result.ok (Go.TypeDesc.slice 3) w:=fun _=>by kernel_rfl
@[simp] theorem Tra.runUnderlying31:∀ (w:Go.World),Go.Sem.run Tra.prog (Go.underlying 31) w=Go.Result.ok (Go.TypeDesc.array 4 3) w:=fun _=>by kernel_rfl
@[simp] theorem Tra.runUnderlying50:∀ (w:Go.World),Go.Sem.run Tra.prog (Go.underlying 50) w=Go.Result.ok (Go.TypeDesc.slice 29) w:=fun _=>by kernel_rfl
@[simp] theorem Tra.runUnderlying88:∀ (w:Go.World),Go.Sem.run Tra.prog (Go.underlying 88) w=Go.Result.ok (Go.TypeDesc.slice 89) w:=fun _=>by kernel_rfl
@[simp] theorem Tra.runUnderlying89:∀ (w:Go.World),Go.Sem.run Tra.prog (Go.underlying 89) w=Go.Result.ok (Go.TypeDesc.array 2 3) w:=fun _=>by kernel_rfl
@[simp] theorem Tra.sizeOf3:∀ (w:Go.World),Go.Sem.run Tra.prog (Go.sizeOf 3) w=Go.Result.ok 1 w:=fun _=>by kernel_rfl
@[simp] theorem Tra.sizeOf29:∀ (w:Go.World),Go.Sem.run Tra.prog (Go.sizeOf 29) w=Go.Result.ok 1 w:=fun _=>by kernel_rfl
@[simp] theorem Tra.sizeOf31:∀ (w:Go.World),Go.Sem.run Tra.prog (Go.sizeOf 31) w=Go.Result.ok 4 w:=fun _=>by kernel_rfl
@[simp] theorem Tra.sizeOf89:∀ (w:Go.World),Go.Sem.run Tra.prog (Go.sizeOf 89) w=Go.Result.ok 2 w:=fun _=>by kernel_rfl
@[simp] theorem Tra.underlying3:Tra.prog.underlying 3=Option.some (Go.TypeDesc.int Go.IntKind.i64):=by kernel_rfl
@[simp] theorem Tra.underlying4:Tra.prog.underlying 4=Option.some Go.TypeDesc.bool:=by kernel_rfl
@[simp] theorem Tra.underlying29:Tra.prog.underlying 29=Option.some (Go.TypeDesc.slice 3):=by kernel_rfl
@[simp] theorem Tra.underlying31:Tra.prog.underlying 31=Option.some (Go.TypeDesc.array 4 3):=by kernel_rfl
@[simp] theorem Tra.underlying50:Tra.prog.underlying 50=Option.some (Go.TypeDesc.slice 29):=by kernel_rfl
@[simp] theorem Tra.underlying73:Tra.prog.underlying 73=Option.some (Go.TypeDesc.map 3 3):=by kernel_rfl
@[simp] theorem Tra.underlying88:Tra.prog.underlying 88=Option.some (Go.TypeDesc.slice 89):=by kernel_rfl
@[simp] theorem Tra.underlying89:Tra.prog.underlying 89=Option.some (Go.TypeDesc.array 2 3):=by kernel_rfl
@[simp] theorem Tra.underlying100:Tra.prog.underlying 100=Option.some (Go.TypeDesc.map 89 3):=by kernel_rfl
@[simp] theorem Tra.zeroValue3:∀ (w:Go.World),Go.Sem.run Tra.prog (Go.zeroValue 3) w=Go.Result.ok (Go.Value.int Go.IntKind.i64 0) w:=fun _=>by kernel_rfl
@[simp] theorem Tra.zeroValue29:∀ (w:Go.World),Go.Sem.run Tra.prog (Go.zeroValue 29) w=Go.Result.ok (Go.Value.slice Option.none 0 0) w:=fun _=>by kernel_rfl
@[simp] theorem Tra.zeroValue31:∀ (w:Go.World),Go.Sem.run Tra.prog (Go.zeroValue 31) w=Go.Result.ok (Go.Value.agg #[Go.Value.int Go.IntKind.i64 0,Go.Value.int Go.IntKind.i64 0,Go.Value.int Go.IntKind.i64 0,Go.Value.int Go.IntKind.i64 0]) w:=fun _=>by kernel_rfl
@[simp] theorem Tra.zeroValue89:∀ (w:Go.World),Go.Sem.run Tra.prog (Go.zeroValue 89) w=Go.Result.ok (Go.Value.agg #[Go.Value.int Go.IntKind.i64 0,Go.Value.int Go.IntKind.i64 0]) w:=fun _=>by kernel_rfl
end Go.Proofs
namespace Go.Proofs.Yw.Wd
open Go.RowKit
structure As0 (p:Prop):Prop where mk :: (out:p)
structure Drawn0 (w w':World):Prop where mk :: (out:∃ n,w'=w.drewN n)
theorem Drawn0.refl (w:World):Drawn0 w w:=⟨⟨0,rfl⟩⟩
theorem Drawn0.step {w w':World} (h:Drawn0 w w') (n:Nat):Drawn0 w (w'.drewN n):=by
 obtain ⟨m,rfl⟩:=h;exact ⟨⟨m+n,World.drewN_drewN ..⟩⟩
def rd (xs:List Int) (i:Int):Int:=xs.getD i.toNat 0
def nums (k:IntKind) (xs:List Int):List Value:=xs.map fun x=>.int k x
theorem y01 {w W:World} (h:Below w.heap.size w W) (o:Obj):Below w.heap.size w (W.alloc o):=h.alloc h.size o
theorem y71 {B:Nat} {w W:World} (h:Below B w W):Below B w W.drew:=⟨h.os,h.tape,h.output,h.size,h.block⟩
theorem y00 {B:Nat} {w W:World} (h:Below B w W) (n:Nat):Below B w (W.drewN n):=⟨h.os,h.tape,h.output,h.size,h.block⟩
theorem yc3 {B:Nat} {w w1 w2:World} (h:Below B w w1) (hB:B≤w1.heap.size) (k:Below w1.heap.size w1 w2):Below B w w2 :=
 h.trans ⟨k.os,k.tape,k.output,k.size,fun i hi=>k.block i (Nat.lt_of_lt_of_le hi hB)⟩
theorem y32 {w w1:World} (h:Below w.heap.size w w1) {a:Addr} {v:Value} (hc:w.cell? a=some v):w1.cell? a=some v:=(h.cell (World.block_lt_of_cell? w a hc)).trans hc
theorem y18 (g j:Nat):(⟨g,0,none⟩:Addr).add j=⟨g,j,none⟩:=by unfold Addr.add;split<;>simp_all
def ReadsInt (w:World) (k:IntKind) (A:Option Addr) (n:Nat) (xs:List Int):Prop :=
 xs.length=n∧n≤9223372036854775807∧(0<n->∃ ad,A=some ad∧∀ j,j<n->w.cell? (ad.add j)=some (.int k (xs.getD j 0)))
theorem yd4 (W:World) (base:Nat) (e:TypeId) (size:Nat):W.ownsRow base e size (.slice none 0 0) 0 []:=⟨by simp,.inl ⟨rfl,rfl⟩⟩
theorem y3g {w:World} {base:Nat} {e:TypeId} {size n:Nat} {v:Value} {xs:List Value} (h:w.ownsRow base e size v n xs) (k:Nat) (hk:v.ownBlock=some k):base≤k:=by
 rcases h.2 with ⟨rfl,_⟩|⟨g,cap,cur,rfl,hb,_⟩
 ·simp [Value.ownBlock] at hk
 ·have:g=k:=by simpa [Value.ownBlock] using hk
  omega
theorem own_lt {w:World} {base:Nat} {e:TypeId} {size n:Nat} {v:Value} {xs:List Value} (h:w.ownsRow base e size v n xs) (k:Nat) (hk:v.ownBlock=some k):k<w.heap.size:=by
 rcases h.2 with ⟨rfl,_⟩|⟨g,cap,cur,rfl,hb,hh,_⟩
 ·simp [Value.ownBlock] at hk
 ·have:g=k:=by simpa [Value.ownBlock] using hk
  subst this;exact (zGe hh).1
def LeO {α:Type} (a b:Option α):Prop:=∀ r,a=some r->b=some r
theorem LeO.none {α:Type} (b:Option α):LeO Option.none b:=fun _ h=>by cases h
def Reps {α:Type} (R:α->List Value->Prop) (size:Nat) (ps:List α) (cs:List Value):Prop :=
 cs.length=ps.length * size∧∀ j p,ps[j]?=some p->R p ((cs.drop (j * size)).take size)
theorem Reps.none {α:Type} (R:α->List Value->Prop) (size:Nat):Reps R size [] []:=⟨by simp,fun j p h=>by simp at h⟩
theorem Reps.snoc {α:Type} {R:α->List Value->Prop} {size:Nat} {ps:List α} {cs c:List Value} {p:α} (h:Reps R size ps cs) (hp:R p c) (hc:c.length=size):Reps R size (ps ++ [p]) (cs ++ c):=by
 refine ⟨by rw [List.length_append,h.1,hc,List.length_append,List.length_singleton,Nat.add_mul,Nat.one_mul],fun j q hq=>?_⟩;rcases Nat.lt_or_ge j ps.length with hj|hj
 ·rw [List.getElem?_append_left hj] at hq
  have h1:j * size+size≤cs.length:=by rw [h.1,← Nat.succ_mul];exact Nat.mul_le_mul_right _ hj
  have h2:=h.2 j q hq;rw [List.drop_append_of_le_length (by omega),List.take_append_of_le_length (by rw [List.length_drop];omega)];exact h2
 ·have hj':j=ps.length:=by
   have:=(List.getElem?_eq_some_iff.1 hq).1;rw [List.length_append,List.length_singleton] at this;omega
  subst hj';have hq':p=q:=by simpa using hq
  subst hq';rw [← h.1,List.drop_left,← hc,List.take_length];exact hp
theorem Reps.imp_ {α:Type} {R R':α->List Value->Prop} {size:Nat} {ps:List α} {cs:List Value} (h:Reps R size ps cs) (hR:∀ p c,R p c->R' p c):Reps R' size ps cs:=⟨h.1,fun j p hj=>hR _ _ (h.2 j p hj)⟩
def ReadsRow {α:Type} (R:α->List Value->Prop) (size:Nat) (w:World) (A:Option Addr) (n:Nat) (ps:List α):Prop :=
 ps.length=n∧n≤9223372036854775807∧(0<n->∃ ad,A=some ad∧∀ j p,ps[j]?=some p->∃ c,c.length=size∧R p c∧∀ i u,c[i]?=some u->w.cell? (ad.add (j * size+i))=some u)
theorem ReadsRow.get_ {α:Type} {R:α->List Value->Prop} {size:Nat} {w:World} {A:Option Addr} {n:Nat} {ps:List α} (h:ReadsRow R size w A n ps) (d:α) (i:Int) (h0:0≤i) (h1:i<n) :
  ∃ ad c,A=some ad∧c.length=size∧R (ps.getD i.toNat d) c∧∀ j u,c[j]?=some u->w.cell? (ad.add (i.toNat * size+j))=some u:=by
 obtain ⟨ad,e,hc⟩:=h.2.2 (by omega);have hl:i.toNat<ps.length:=by have:=h.1;omega
 obtain ⟨c,hs,hr,hcell⟩:=hc i.toNat _ (List.getElem?_eq_getElem hl);refine ⟨ad,c,e,hs,?_,hcell⟩;rw [List.getD_eq_getElem?_getD,List.getElem?_eq_getElem hl];exact hr
theorem ReadsRow.imp_ {α:Type} {R R':α->List Value->Prop} {size:Nat} {w w1:World} {A:Option Addr} {n:Nat} {ps:List α} (h:ReadsRow R size w A n ps) (hb:Below w.heap.size w w1) (hR:∀ p c,R p c->R' p c):ReadsRow R' size w1 A n ps :=
 ⟨h.1,h.2.1,fun hn=>by
  obtain ⟨ad,e,hc⟩:=h.2.2 hn;refine ⟨ad,e,fun j p hj=>?_⟩;obtain ⟨c,hs,hr,hcell⟩:=hc j p hj;exact ⟨c,hs,hR _ _ hr,fun i u hu=>y32 hb (hcell i u hu)⟩⟩
theorem y7s {α:Type} {R:α->List Value->Prop} {w:World} {base n size:Nat} {e:TypeId} {v:Value} {ps:List α} {cs:List Value} (h:w.ownsRow base e size v n cs) (hR:Reps R size ps cs) (hn:ps.length=n) :
  ∃ A c,v=.slice A n c∧ReadsRow R size w A n ps:=by
 rcases Nat.eq_zero_or_pos n with h0|h0
 ·rcases h.2 with ⟨rfl,rfl⟩|⟨g,cap,cur,rfl,_⟩
  ·exact ⟨none,0,rfl,hn,by omega,fun hp=>absurd hp (by omega)⟩
  ·exact ⟨_,cap,rfl,hn,by omega,fun hp=>absurd hp (by omega)⟩
 ·obtain ⟨g,cap,rfl,_,_⟩:=h.form h0
  have hm:n≤9223372036854775807:=by
   rcases h.2 with ⟨_,h1⟩|⟨g',cap',cur,he,_,_,h1,h2,_⟩
   ·omega
   ·simp only [maxLen] at h2
    omega
  refine ⟨_,cap,rfl,hn,hm,fun _=>⟨_,rfl,fun j p hj=>⟨(cs.drop (j * size)).take size,?_,hR.2 j p hj,fun i u hu=>?_⟩⟩⟩
  ·have hjl:=(List.getElem?_eq_some_iff.1 hj).1
   have h1:j * size+size≤cs.length:=by rw [hR.1,← Nat.succ_mul];exact Nat.mul_le_mul_right _ hjl
   rw [List.length_take,List.length_drop];omega
  ·refine h.cells (g:=g) rfl _ u ?_
   rw [List.getElem?_take] at hu;split at hu
   ·rw [List.getElem?_drop] at hu
    exact hu
   ·cases hu
section
variable {P:Program} {ops:Array Oper} {rest:List Oper} {o:Oper} {a:Act} {Q:Exit->Act->World->Prop}
theorem y49 {w0 W:World} (base:Nat) (hgd:o.guard=none) (s x:Operand) (t e:TypeId) (z:Value) (size bytes:Nat)
  (ho:o.op=.call { callee:=.builtin .append,args:=#[s,x],argTypes:=#[t,t] })
  (ht:P.underlying t=some (.slice e)) (hinfo:(P.info? e).map (fun i=>(i.zero,i.size,i.bytes))=some (some z,size,bytes)) (hz:z.cells.size=size) (hs0:0<size) (hb0:0<bytes)
  (v:Value) (n:Nat) (xs ys:List Value) (hs:a.eval s=v) (hx:a.eval x=.slice (some ⟨W.heap.size,0,none⟩) 1 1) (hys:ys.length=size) (h1:∀ u ∈ ys,u.oneCell'=true)
  (HO:W.ownsRow base e size v n xs) (HB:Below base w0 W) (hbase:base≤W.heap.size) (hl:(n+1) * bytes≤140737488355328)
  (h:∀ v1 w1,w1.ownsRow base e size v1 (n+1) (xs ++ ys)->Below base w0 w1->W.grownBy w1 v.ownBlock->(v1.ownBlock=v.ownBlock∨∃ b,v1.ownBlock=some b∧W.heap.size≤b)->wpList P ops Q rest (a.put o.dst v1) w1) :
  wpList P ops Q (o :: rest) a (W.alloc (.cells ys.toArray e)):=by
 obtain ⟨i0,hi,hzz⟩:=Option.map_eq_some_iff.1 hinfo;simp only [Prod.mk.injEq] at hzz;obtain ⟨hz0,hz1,hz2⟩:=hzz;have hlen:n+1≤140737488355328:=Nat.le_trans (Nat.le_mul_of_pos_right _ hb0) hl;refine wpList_append_own_at (W.alloc (.cells ys.toArray e)) hgd s x t ho base e i0 z size bytes ht hi hz0 hz1 hz2 hz hs0 v n xs hs (HO.alloc _) ⟨W.heap.size,0,none⟩ 1 1 ys hx (by rw [hys];simp)
  (by simpa using World.news_of_block (cs:=ys.toArray) (t:=e) (fr:=(0,0)) (heap_alloc_new W (.cells ys.toArray e))) h1 (by simp only [maxLen];omega) hl (by simp;omega) ?_
 intro v1 w1 hown hg _ hat;refine h v1 w1 hown ((HB.alloc hbase _).grown hg (by simp;omega) (y3g HO)) (World.grownBy.trans (World.grownBy_alloc W _ _) hg) ?_;rcases hat with hat|hat
 ·exact .inl hat
 ·exact .inr ⟨_,hat,by simp⟩
end
theorem own_ne {w:World} {base:Nat} {e t:TypeId} {size n g:Nat} {v:Value} {xs:List Value} {cs:Array Value} (h:w.ownsRow base e size v n xs) (hg:w.heap[g]?=some (.cells cs t (0,0))) (hne:e≠t):some g≠v.ownBlock:=by
 rcases h.2 with ⟨rfl,_⟩|⟨g',cap,cur,rfl,_,hh,_⟩
 ·simp [Value.ownBlock]
 ·intro he
  have:g=g':=by simpa [Value.ownBlock] using he
  subst this;rw [hg] at hh;injection hh with hh
  injection hh with _ ht
  exact hne ht.symm
theorem ygj {w:World} {g:Nat} {t:TypeId} {cs:Array Value} (h:w.heap[g]?=some (.cells cs t (0,0))) (i:Nat) (u:Value):(w.setCell ⟨g,i,none⟩ u).heap[g]?=some (.cells (cs.setIfInBounds i u) t (0,0)):=by
 simp [World.setCell,Array.getElem?_modify,h]
theorem y84 {w:World} {g:Nat} {t:TypeId} {cs:Array Value} (h:w.heap[g]?=some (.cells cs t (0,0))) {p:Addr} (hp:g≠p.block) (u:Value):(w.setCell p u).heap[g]?=some (.cells cs t (0,0)):=(Below.heap_setCell w p u g hp).trans h
theorem y4z {w:World} {g:Nat} {o:Obj} (h:w.heap[g]?=some o):g<w.heap.size:=(zGe h).1
theorem y0m {w:World} {g:Nat} {t:TypeId} {cs:Array Value} (h:w.heap[g]?=some (.cells cs t (0,0))) (i:Nat):w.cell? ⟨g,i,none⟩=cs[i]?:=cell_of_row w g i cs t (0,0) h
theorem y0h {w:World} {g:Nat} {t:TypeId} {cs:Array Value} (h:w.heap[g]?=some (.cells cs t (0,0))) (i:Nat):w.frozen? ⟨g,i,none⟩=false:=by simp [World.frozen?,h]
theorem ygk {w w1:World} {g:Nat} {o:Obj} {row:Option Nat} (h:w.heap[g]?=some o) (hg:w.grownBy w1 row) (hne:some g≠row):w1.heap[g]?=some o:=(hg.block g (y4z h) hne).trans h
section
variable {P:Program} {ops:Array Oper} {o:Oper} {a:Act} {Q:Exit->Act->World->Prop} {K:Act->World->Prop}
theorem y4d {w0 W:World} (base:Nat) (hw:Region.wanted o (yielded ops a.tmps)=true) (s x:Operand) (t e:TypeId) (z:Value) (size bytes:Nat)
  (ho:o.op=.call { callee:=.builtin .append,args:=#[s,x],argTypes:=#[t,t] })
  (ht:P.underlying t=some (.slice e)) (hinfo:(P.info? e).map (fun i=>(i.zero,i.size,i.bytes))=some (some z,size,bytes)) (hz:z.cells.size=size) (hs0:0<size) (hb0:0<bytes)
  (v:Value) (n:Nat) (xs ys:List Value) (hs:a.eval s=v) (hx:a.eval x=.slice (some ⟨W.heap.size,0,none⟩) 1 1) (hys:ys.length=size) (h1:∀ u ∈ ys,u.oneCell'=true)
  (HO:W.ownsRow base e size v n xs) (HB:Below base w0 W) (hbase:base≤W.heap.size) (hl:(n+1) * bytes≤140737488355328)
  (h:∀ v1 w1,w1.ownsRow base e size v1 (n+1) (xs ++ ys)->Below base w0 w1->W.grownBy w1 v.ownBlock->(v1.ownBlock=v.ownBlock∨∃ b,v1.ownBlock=some b∧W.heap.size≤b)->K (a.put o.dst v1) w1) :
  if Region.wanted o (yielded ops a.tmps)=true then Oper.wp P o a (W.alloc (.cells ys.toArray e)) K Q else K (a.put o.dst undef) (W.alloc (.cells ys.toArray e)):=by
 obtain ⟨i0,hi,hzz⟩:=Option.map_eq_some_iff.1 hinfo;simp only [Prod.mk.injEq] at hzz;obtain ⟨hz0,hz1,hz2⟩:=hzz;have hlen:n+1≤140737488355328:=Nat.le_trans (Nat.le_mul_of_pos_right _ hb0) hl;rw [if_pos hw];obtain ⟨v1,w1,hr,hown,hg,_,hat⟩:=run_append_own_at (P:=P) (W.alloc (.cells ys.toArray e)) base t o.type e i0 z size bytes ht hi hz0 hz1 hz2 hz hs0 v n xs (HO.alloc _) ⟨W.heap.size,0,none⟩ 1 1 ys (by rw [hys];simp)
  (by simpa using World.news_of_block (cs:=ys.toArray) (t:=e) (fr:=(0,0)) (heap_alloc_new W (.cells ys.toArray e))) h1 (by simp only [maxLen];omega) hl (by simp;omega)
 unfold Oper.wp execOp;simp only [ho,resolve,invoke,builtin,Sem.run_bind,Sem.run_pure,Result.andThen_ok,List.map_toArray,List.map_cons,List.map_nil,hs,hx,hr];refine h v1 w1 hown ((HB.alloc hbase _).grown hg (by simp;omega) (y3g HO)) (World.grownBy.trans (World.grownBy_alloc W _ _) hg) ?_;rcases hat with hat|hat
 ·exact .inl hat
 ·exact .inr ⟨_,hat,by simp⟩
end
theorem y6v {w:World} {base base':Nat} {e:TypeId} {size n:Nat} {v:Value} {xs:List Value} (h:w.ownsRow base e size v n xs) (hb:base'≤base):w.ownsRow base' e size v n xs:=by
 obtain ⟨h1,h2⟩:=h;refine ⟨h1,?_⟩;rcases h2 with h2|⟨g,cap,cur,rfl,hg,r⟩
 ·exact .inl h2
 ·exact .inr ⟨g,cap,cur,rfl,Nat.le_trans hb hg,r⟩
section
variable {α:Type} {enc:α->Value} {d:α}
def encs (enc:α->Value) (xs:List α):List Value:=xs.map enc
def rdOf (d:α) (xs:List α) (i:Int):α:=xs.getD i.toNat d
theorem y67 (xs:List α):(encs enc xs).length=xs.length:=by simp [encs]
theorem yj0 (xs:List α) (j:Nat) (h:j<xs.length):(encs enc xs)[j]?=some (enc (xs.getD j d)):=by
 simp [encs,List.getElem?_eq_getElem h,List.getD_eq_getElem?_getD]
def ReadsOf (enc:α->Value) (d:α) (w:World) (A:Option Addr) (n:Nat) (xs:List α):Prop :=
 xs.length=n∧n≤9223372036854775807∧(0<n->∃ ad,A=some ad∧∀ j,j<n->w.cell? (ad.add j)=some (enc (xs.getD j d)))
theorem ReadsOf.at_ {w:World} {A:Option Addr} {n:Nat} {xs:List α} (h:ReadsOf enc d w A n xs) (i:Int) (h0:0≤i) (h1:i<n):∃ ad,A=some ad∧w.cell? (ad.add i.toNat)=some (enc (rdOf d xs i)):=by
 obtain ⟨ad,e,hc⟩:=h.2.2 (by omega);exact ⟨ad,e,hc _ (by omega)⟩
theorem ReadsOf.take_ {w:World} {A:Option Addr} {n:Nat} {xs:List α} (h:ReadsOf enc d w A n xs) (i:Nat) (hi:i≤n):ReadsOf enc d w A i (xs.take i):=by
 refine ⟨by rw [List.length_take,h.1];omega,by have:=h.2.1;omega,fun hp=>?_⟩;obtain ⟨ad,e,hc⟩:=h.2.2 (by omega);refine ⟨ad,e,fun j hj=>?_⟩;rw [hc j (by omega)];simp [List.getD_eq_getElem?_getD,hj]
theorem ReadsOf.drop_ {w:World} {A:Option Addr} {n c:Nat} {xs:List α} (h:ReadsOf enc d w A n xs) (i:Nat) (hi:i≤n) (hc:n≤c):ReadsOf enc d w (if c=i then A else A.map (·.add i)) (n - i) (xs.drop i):=by
 refine ⟨by rw [List.length_drop,h.1],by have:=h.2.1;omega,fun hp=>?_⟩;obtain ⟨ad,rfl,hcell⟩:=h.2.2 (by omega);rw [if_neg (by omega)];refine ⟨ad.add i,rfl,fun j hj=>?_⟩;have ha:(ad.add i).add j=ad.add (i+j):=by
  unfold Addr.add
  by_cases h1:i=0<;>by_cases h2:j=0<;>simp [h1,h2,Nat.add_assoc]
 rw [ha,hcell (i+j) (by omega)];simp [List.getD_eq_getElem?_getD,List.getElem?_drop]
theorem y8y {P:Program} (enc:α->Value) (d:α) (t e:TypeId) (kl:IntKind) {i:TypeInfo} (ht:P.underlying t=some (.slice e)) (hi:P.info? e=some i) (hsz:i.size=1) (A:Option Addr) (n c m:Nat) (hm:m≤n) :
  ∃ A':Option Addr,(∀ W:World,(Instr.slice t (.slice A n c) (some (.int kl (m:Int))) none none).run P W=.ok (.slice A' (n - m) (c - m)) W) ∧
   ∀ (w:World) (xs:List α),n≤c->ReadsOf enc d w A n xs->ReadsOf enc d w A' (n - m) (xs.drop m):=by
 refine ⟨if c=m then A else A.map (·.add m),fun W=>?_,fun w xs hc h=>h.drop_ m hm hc⟩;have hel:P.elem t=e:=by simp [Program.elem,ht]
 have hu:P.underlying t=some (.slice (P.elem t)):=by rw [hel];exact ht
 rw [run_slice_l W t A n c hu kl (m:Int) (Int.natCast_nonneg _) (by omega),hel];simp [sizeOf,typeInfo,hi,hsz,sliced,Result.andThen]
theorem yd5 {W:World} {base g n cap:Nat} {e:TypeId} {xs:List α} (h:W.ownsRow base e 1 (.slice (some ⟨g,0,none⟩) n cap) n (encs enc xs)) (i:Int) (h0:0≤i) (h1:i<n) :
  W.cell? ⟨g,i.toNat,none⟩=some (enc (rdOf d xs i))∧W.frozen? ⟨g,i.toNat,none⟩=false:=by
 have hl:xs.length=n:=by have:=h.1;simp [encs] at this;exact this
 constructor
 ·have hc:=h.cells (g:=g) rfl i.toNat _ (yj0 (d:=d) xs i.toNat (by omega))
  rwa [y18] at hc
 ·rcases h.2 with ⟨h',_⟩|⟨g',cap',cur,h',_,hh,_⟩
  ·cases h'
  ·have:g=g':=by injection h' with h';injection h' with h';injection h' with h'
   subst this;simp [World.frozen?,hh]
theorem y91 {W:World} {base g n cap:Nat} {e:TypeId} {xs:List α} (h:W.ownsRow base e 1 (.slice (some ⟨g,0,none⟩) n cap) n (encs enc xs)) (i:Int) (x:α) :
  (W.setCell ⟨g,i.toNat,none⟩ (enc x)).ownsRow base e 1 (.slice (some ⟨g,0,none⟩) n cap) n (encs enc (xs.set i.toNat x))∧W.grownBy (W.setCell ⟨g,i.toNat,none⟩ (enc x)) (some g):=by
 have hs:=h.stored i.toNat (enc x);have he:(encs enc xs).set i.toNat (enc x)=encs enc (xs.set i.toNat x):=by simp [encs,List.map_set]
 rwa [he] at hs
end
theorem y0b {w:World} {g:Nat} {o:Obj} (h:w.heap[g]?=some o) (n:Nat):(w.drewN n).heap[g]?=some o:=h
theorem y1t {w w1:World} {g:Nat} {o:Obj} (h:w.heap[g]?=some o) (hb:Below w.heap.size w w1):w1.heap[g]?=some o:=(hb.block g (y4z h)).trans h
theorem blk_new (w:World) (o:Obj):(w.alloc o).heap[w.heap.size]?=some o:=heap_alloc_new w o
section
variable {P:Program}
theorem y6o {fn:Func} {p u:Tmp} {ty:TypeId} (h:fn.results=#[.cell p ty,.tmp u]) (tmps:Array Value) (w:World) (g:Nat) (t:TypeId) (cs:Array Value) (fr:Nat × Nat) (d:TypeDesc)
  (hp:tmps.getD p undef=.pointer (some ⟨g,0,none⟩)) (hg:w.heap[g]?=some (.cells cs t fr))
  (hu:P.underlying ty=some d) (hd:(match d with|.struct _|.array _ _=>true|_=>false)=true) (hi:(P.info? ty).map (·.size)=some cs.size) :
  (results fn tmps).run P w=.ok (.tuple #[.agg cs,tmps.getD u undef]) w:=by
 have hp':tmps[p]?.getD undef=.pointer (some ⟨g,0,none⟩):=by simpa using hp
 simp [results,h,hp',asAddr,run_loadVar_row w g t ty cs fr d hg hu hd hi]
theorem y5p {fn:Func} {p u v:Tmp} {ty:TypeId} (h:fn.results=#[.cell p ty,.tmp u,.tmp v]) (tmps:Array Value) (w:World) (g:Nat) (t:TypeId) (cs:Array Value) (fr:Nat × Nat) (d:TypeDesc)
  (hp:tmps.getD p undef=.pointer (some ⟨g,0,none⟩)) (hg:w.heap[g]?=some (.cells cs t fr))
  (hu:P.underlying ty=some d) (hd:(match d with|.struct _|.array _ _=>true|_=>false)=true) (hi:(P.info? ty).map (·.size)=some cs.size) :
  (results fn tmps).run P w=.ok (.tuple #[.agg cs,tmps.getD u undef,tmps.getD v undef]) w:=by
 have hp':tmps[p]?.getD undef=.pointer (some ⟨g,0,none⟩):=by simpa using hp
 simp [results,h,hp',asAddr,run_loadVar_row w g t ty cs fr d hg hu hd hi]
end
theorem own_le {w:World} {base n m c size:Nat} {e:TypeId} {A:Option Addr} {xs:List Value} (h:w.ownsRow base e size (.slice A m c) n xs):m≤c:=by
 rcases h.2 with ⟨he,_⟩|⟨g,cap,cur,he,_,_,hnc,_⟩
 ·injection he with _ h2 h3
  omega
 ·injection he with _ h2 h3
  omega
def OwnRow {α:Type} (R:α->List Value->Prop) (e:TypeId) (size:Nat) (w:World) (base:Nat) (v:Value) (ps:List α):Prop :=
 ∃ inner,w.ownsRow base e size v ps.length inner∧Reps R size ps inner
section
variable {α:Type} {R R':α->List Value->Prop} {e:TypeId} {size:Nat} {w w1:World} {base:Nat} {v:Value} {ps:List α}
theorem OwnRow.none_ (R:α->List Value->Prop) (e:TypeId) (size:Nat) (w:World) (base:Nat):OwnRow R e size w base (.slice none 0 0) []:=⟨[],yd4 _ _ _ _,Reps.none _ _⟩
theorem OwnRow.imp_ (h:OwnRow R e size w base v ps) (hR:∀ p c,R p c->R' p c):OwnRow R' e size w base v ps:=by
 obtain ⟨inner,ho,hr⟩:=h;exact ⟨inner,ho,hr.imp_ hR⟩
theorem OwnRow.reads (h:OwnRow R e size w base v ps):∃ A c,v=.slice A ps.length c∧ps.length≤c∧ReadsRow R size w A ps.length ps:=by
 obtain ⟨inner,ho,hr⟩:=h;obtain ⟨A,c,rfl,hrow⟩:=y7s ho hr rfl;exact ⟨A,c,rfl,own_le ho,hrow⟩
theorem OwnRow.ne_block (h:OwnRow R e size w base v ps) {g:Nat} {t:TypeId} {cells:Array Value} (hb:w.heap[g]?=some (.cells cells t (0,0))) (ht:e≠t):some g≠v.ownBlock:=by
 obtain ⟨inner,ho,hr⟩:=h;exact own_ne ho hb ht
end
theorem ReadsRow.inner_ {α:Type} {R:α->List Value->Prop} {size:Nat} {w:World} {ad:Addr} {n:Nat} {ps:List α} (h:ReadsRow R size w (some ad) n ps) :
  ∃ inner,Reps R size ps inner∧∀ j u,inner[j]?=some u->w.cell? (ad.add j)=some u:=by
 have key:∀ m,m≤ps.length->∃ inner,Reps R size (ps.take m) inner∧∀ j u,inner[j]?=some u->w.cell? (ad.add j)=some u:=by
  intro m
  induction m with
  |zero=>exact fun _=>⟨[],Reps.none _ _,fun j u hu=>by simp at hu⟩
  |succ m ih =>
   intro hm;obtain ⟨inner,hr,hc⟩:=ih (by omega);obtain ⟨ad',he,hcell⟩:=h.2.2 (by have:=h.1;omega);injection he with he
   subst he;obtain ⟨c,hcl,hp,hcc⟩:=hcell m _ (List.getElem?_eq_getElem (show m<ps.length by omega));refine ⟨inner ++ c,?_,fun j u hu=>?_⟩
   ·rw [List.take_succ_eq_append_getElem (show m<ps.length by omega)]
    exact hr.snoc hp hcl
   ·have hil:inner.length=m * size:=by rw [hr.1,List.length_take,Nat.min_eq_left (by omega)]
    rcases Nat.lt_or_ge j inner.length with hj|hj
    ·rw [List.getElem?_append_left hj] at hu
     exact hc j u hu
    ·rw [List.getElem?_append_right hj] at hu
     have:=hcc (j - inner.length) u hu
     rwa [hil,Nat.add_sub_cancel' (by omega)] at this
 obtain ⟨inner,hr,hc⟩:=key ps.length (zLe _);rw [List.take_length] at hr;exact ⟨inner,hr,hc⟩
section
variable {α:Type} {P:Program}
theorem y7q (enc:α->Value) (d:α) (t e:TypeId) (kl:IntKind) {i:TypeInfo} (ht:P.underlying t=some (.slice e)) (hi:P.info? e=some i) (hsz:i.size=1) (A:Option Addr) (c:Nat) (xs:List α) (j:Int) (h0:0≤j) (hm:j≤xs.length) (hc:xs.length≤c) :
  (∀ W:World,(Instr.slice t (.slice A xs.length c) none (some (.int kl j)) none).run P W=.ok (.slice A (xs.take j.toNat).length c) W) ∧
   (∀ w:World,ReadsOf enc d w A xs.length xs->ReadsOf enc d w A (xs.take j.toNat).length (xs.take j.toNat))∧(xs.take j.toNat).length≤c:=by
 have hl:(xs.take j.toNat).length=j.toNat:=by rw [List.length_take];omega
 refine ⟨fun W=>?_,fun w h=>by rw [hl];exact h.take_ j.toNat (by omega),by rw [hl];omega⟩;have hel:P.elem t=e:=by simp [Program.elem,ht]
 have hu:P.underlying t=some (.slice (P.elem t)):=by rw [hel];exact ht
 have ha:(A.map fun x=>x.add 0)=A:=by cases A<;>simp [Addr.add]
 rw [run_slice_h W t A xs.length c hu kl j h0 (by omega),hel,hl];simp [sizeOf,typeInfo,hi,hsz,sliced,Result.andThen,ha]
theorem y7r (enc:α->Value) (d:α) (t e:TypeId) (kl:IntKind) {i:TypeInfo} (ht:P.underlying t=some (.slice e)) (hi:P.info? e=some i) (hsz:i.size=1) (A:Option Addr) (c:Nat) (xs:List α) (j:Int) (h0:0≤j) (hm:j≤xs.length) (hc:xs.length≤c) :
  ∃ A':Option Addr,(∀ W:World,(Instr.slice t (.slice A xs.length c) (some (.int kl j)) none none).run P W=.ok (.slice A' (xs.drop j.toNat).length (c - j.toNat)) W) ∧
   (∀ w:World,ReadsOf enc d w A xs.length xs->ReadsOf enc d w A' (xs.drop j.toNat).length (xs.drop j.toNat))∧(xs.drop j.toNat).length≤c - j.toNat:=by
 obtain ⟨m,rfl⟩:=Int.eq_ofNat_of_zero_le h0;simp only [Int.toNat_natCast];have hmn:m≤xs.length:=by omega
 obtain ⟨A',h1,h2⟩:=y8y (P:=P) enc d t e kl ht hi hsz A xs.length c m hmn;have hl:(xs.drop m).length=xs.length - m:=List.length_drop;exact ⟨A',fun W=>by rw [hl];exact h1 W,fun w h=>by rw [hl];exact h2 w xs hc h,by rw [hl];omega⟩
theorem y8x (enc:α->Value) (d:α) (t e:TypeId) (kl kh:IntKind) {i:TypeInfo} (ht:P.underlying t=some (.slice e)) (hi:P.info? e=some i) (hsz:i.size=1) (A:Option Addr) (c:Nat) (xs:List α) (a b:Int) (h0:0≤a) (h1:a≤b) (hm:b≤xs.length) (hc:xs.length≤c) :
  ∃ A':Option Addr,(∀ W:World,(Instr.slice t (.slice A xs.length c) (some (.int kl a)) (some (.int kh b)) none).run P W=.ok (.slice A' ((xs.take b.toNat).drop a.toNat).length (c - a.toNat)) W) ∧
   (∀ w:World,ReadsOf enc d w A xs.length xs->ReadsOf enc d w A' ((xs.take b.toNat).drop a.toNat).length ((xs.take b.toNat).drop a.toNat))∧((xs.take b.toNat).drop a.toNat).length≤c - a.toNat:=by
 have hlt:(xs.take b.toNat).length=b.toNat:=by rw [List.length_take];omega
 have hl:((xs.take b.toNat).drop a.toNat).length=b.toNat - a.toNat:=by rw [List.length_drop,hlt]
 refine ⟨if c=a.toNat then A else A.map (·.add a.toNat),fun W=>?_,fun w h=>?_,by rw [hl];omega⟩
 ·have hel:P.elem t=e:=by simp [Program.elem,ht]
  have hu:P.underlying t=some (.slice (P.elem t)):=by rw [hel];exact ht
  rw [run_slice_lh W t A xs.length c hu kl kh a b h0 h1 (by omega),hel,hl];simp [sizeOf,typeInfo,hi,hsz,sliced,Result.andThen]
 ·have h2:=(h.take_ b.toNat (by omega)).drop_ (c:=c) a.toNat (by omega) (by omega)
  rw [hl];exact h2
end
structure Kd (α:Type) where
 sz:Nat
 E:List Nat
 K:World->α->List Value->Prop
 M:World->Nat->(Nat->Prop)->α->List Value->Prop
 K_len:∀ {w x cs},K w x cs->cs.length=sz
 K_one:∀ {w x cs},K w x cs->∀ u ∈ cs,u.oneCell'=true
 K_below:∀ {w w1:World} {x cs},Below w.heap.size w w1->K w x cs->K w1 x cs
 K_of_M:∀ {w base ok x cs},M w base ok x cs->K w x cs
 M_mono:∀ {w base ok ok' x cs},(∀ k,ok k->ok' k)->M w base ok x cs->M w base ok' x cs
 M_bound:∀ {w:World} {base ok x cs},M w base ok x cs->M w base (fun k=>ok k∧base≤k∧k<w.heap.size∧∃ q,q ∈ E∧∃ cells,w.heap[k]?=some (.cells cells q (0,0))) x cs
 M_move:∀ {w w1:World} {base ok x cs},(∀ k,ok k->w1.heap[k]?=w.heap[k]?)->M w base ok x cs->M w1 base ok x cs
 M_lower:∀ {w base base' ok x cs},base'≤base->M w base ok x cs->M w base' ok x cs
theorem yat {w w1:World} {base:Nat} {e:TypeId} {size n:Nat} {v:Value} {xs:List Value} (h:w.ownsRow base e size v n xs) (hm:∀ k,v.ownBlock=some k->w1.heap[k]?=w.heap[k]?):w1.ownsRow base e size v n xs:=by
 obtain ⟨h1,h2⟩:=h;refine ⟨h1,?_⟩;rcases h2 with h2|⟨g,cap,cur,rfl,hg,hh,r⟩
 ·exact .inl h2
 ·exact .inr ⟨g,cap,cur,rfl,hg,(hm g (by simp [Value.ownBlock])).trans hh,r⟩
theorem y2x {w:World} {base:Nat} {e:TypeId} {size n:Nat} {v:Value} {xs:List Value} (h:w.ownsRow base e size v n xs) (k:Nat) (hk:v.ownBlock=some k):∃ cells,w.heap[k]?=some (.cells cells e (0,0)):=by
 rcases h.2 with ⟨rfl,_⟩|⟨g,cap,cur,rfl,hg,hh,r⟩
 ·simp [Value.ownBlock] at hk
 ·have:g=k:=by simpa [Value.ownBlock] using hk
  subst this;exact ⟨cur,hh⟩
namespace Kd
def C {α:Type} (d:Kd α) (w:World) (A:Option Addr) (n:Nat) (xs:List α):Prop:=ReadsRow (d.K w) d.sz w A n xs
def R {α:Type} (d:Kd α) (e:Nat) (w:World) (base:Nat) (ok:Nat->Prop) (v:Value) (xs:List α):Prop :=
 (∀ k,v.ownBlock=some k->ok k)∧OwnRow (d.M w base (fun k=>ok k∧some k≠v.ownBlock)) e d.sz w base v xs
section
variable {α:Type} {d:Kd α} {e:Nat} {w w1:World} {base:Nat} {ok ok':Nat->Prop} {v:Value} {xs:List α}
theorem C_below {A:Option Addr} {n:Nat} (h:d.C w A n xs) (hb:Below w.heap.size w w1):d.C w1 A n xs:=ReadsRow.imp_ h hb (fun _ _ hp=>d.K_below hb hp)
theorem R_nil (d:Kd α) (e:Nat) (w:World) (base:Nat) (ok:Nat->Prop):d.R e w base ok (.slice none 0 0) []:=⟨fun k hk=>by simp [Value.ownBlock] at hk,OwnRow.none_ _ _ _ _ _⟩
theorem R_mono (h:d.R e w base ok v xs) (hok:∀ k,ok k->ok' k):d.R e w base ok' v xs:=⟨fun k hk=>hok k (h.1 k hk),h.2.imp_ (fun _ _ hp=>d.M_mono (fun k hk=>⟨hok k hk.1,hk.2⟩) hp)⟩
theorem y3f (h:d.R e w base ok v xs):d.R e w base (fun k=>ok k∧base≤k∧k<w.heap.size∧∃ q,q ∈ e :: d.E∧∃ cells,w.heap[k]?=some (.cells cells q (0,0))) v xs:=by
 obtain ⟨h0,inner,ho,hr⟩:=h;refine ⟨fun k hk=>?_,inner,ho,hr.imp_ (fun _ _ hp=>d.M_mono (fun k hk=>?_) (d.M_bound hp))⟩
 ·obtain ⟨cells,hc⟩:=y2x ho k hk
  exact ⟨h0 k hk,y3g ho k hk,own_lt ho k hk,e,List.mem_cons_self,cells,hc⟩
 ·obtain ⟨⟨h1,h2⟩,h3,h4,q,hq,hc⟩:=hk
  exact ⟨⟨h1,h3,h4,q,List.mem_cons_of_mem _ hq,hc⟩,h2⟩
theorem y9f (h:d.R e w base ok v xs) (hm:∀ k,ok k->w1.heap[k]?=w.heap[k]?):d.R e w1 base ok v xs:=by
 obtain ⟨h0,inner,ho,hr⟩:=h;exact ⟨h0,inner,yat ho (fun k hk=>hm k (h0 k hk)),hr.imp_ (fun _ _ hp=>d.M_move (fun k hk=>hm k hk.1) hp)⟩
theorem R_lower {base':Nat} (h:d.R e w base ok v xs) (hb:base'≤base):d.R e w base' ok v xs:=by
 obtain ⟨h0,inner,ho,hr⟩:=h;exact ⟨h0,inner,y6v ho hb,hr.imp_ (fun _ _ hp=>d.M_lower hb hp)⟩
theorem yb5 (h:d.R e w base ok v xs) (hm:∀ k,ok k->k<w.heap.size->w1.heap[k]?=w.heap[k]?):d.R e w1 base ok v xs :=
 R_mono (y9f (y3f h) (fun k hk=>hm k hk.1 hk.2.2.1)) (fun _ hk=>hk.1)
theorem M_step {x:α} {cs:List Value} (h:d.M w base ok x cs) (hm:∀ k,ok k->k<w.heap.size->w1.heap[k]?=w.heap[k]?):d.M w1 base ok x cs :=
 d.M_mono (fun _ hk=>hk.1) (d.M_move (fun k hk=>hm k hk.1 hk.2.2.1) (d.M_bound h))
theorem R_below (h:d.R e w base ok v xs) (hb:Below w.heap.size w w1):d.R e w1 base ok v xs:=yb5 h (fun k _ hk=>hb.block k hk)
theorem M_below {x:α} {cs:List Value} (h:d.M w base ok x cs) (hb:Below w.heap.size w w1):d.M w1 base ok x cs:=M_step h (fun k _ hk=>hb.block k hk)
theorem R_grown (h:d.R e w base ok v xs) {row:Option Nat} (hg:w.grownBy w1 row) (hok:∀ k,ok k->some k≠row):d.R e w1 base ok v xs:=yb5 h (fun k ho hk=>hg.block k hk (hok k ho))
theorem R_reads (h:d.R e w base ok v xs):∃ A c,v=.slice A xs.length c∧xs.length≤c∧d.C w A xs.length xs:=by
 obtain ⟨A,c,he,hl,hr⟩:=OwnRow.reads h.2;exact ⟨A,c,he,hl,hr.imp_ (Below.refl _ _) (fun _ _ hp=>d.K_of_M hp)⟩
theorem R_slice (h:d.R e w base ok v xs):∃ A c,v=.slice A xs.length c:=by
 obtain ⟨A,c,he,_⟩:=R_reads h;exact ⟨A,c,he⟩
theorem yjb (h:d.R e w base ok v xs):∃ inner,w.ownsRow base e d.sz v xs.length inner:=by
 obtain ⟨_,inner,ho,_⟩:=h;exact ⟨inner,ho⟩
theorem R_ne (h:d.R e w base ok v xs) {g t:Nat} {cells:Array Value} (hb:w.heap[g]?=some (.cells cells t (0,0))) (ht:e≠t):some g≠v.ownBlock:=OwnRow.ne_block h.2 hb ht
end
def scalar {α:Type} (enc:α->Value) (h1:∀ x,(enc x).oneCell'=true):Kd α where
 sz:=1
 E:=[]
 K:=fun _ x cs=>cs=[enc x]
 M:=fun _ _ _ x cs=>cs=[enc x]
 K_len:=fun h=>by rw [h];rfl
 K_one:=fun h u hu=>by
  rw [h] at hu;rw [List.mem_singleton.1 hu];exact h1 _
 K_below:=fun _ h=>h
 K_of_M:=fun h=>h
 M_mono:=fun _ h=>h
 M_bound:=fun h=>h
 M_move:=fun _ h=>h
 M_lower:=fun _ h=>h
def int (k:IntKind):Kd Int:=scalar (Value.int k) (fun _=>rfl)
def slice {α:Type} (e:Nat) (d:Kd α):Kd (List α) where
 sz:=1
 E:=e :: d.E
 K:=fun w xs cs=>∃ A c,cs=[.slice A xs.length c]∧xs.length≤c∧d.C w A xs.length xs
 M:=fun w base ok xs cs=>∃ v,cs=[v]∧d.R e w base ok v xs
 K_len:=by
  rintro w x cs ⟨A,c,rfl,_⟩
  rfl
 K_one:=by
  rintro w x cs ⟨A,c,rfl,_⟩ u hu
  rw [List.mem_singleton.1 hu];rfl
 K_below:=by
  rintro w w1 x cs hb ⟨A,c,rfl,hl,hr⟩
  exact ⟨A,c,rfl,hl,C_below hr hb⟩
 K_of_M:=by
  rintro w base ok x cs ⟨v,rfl,h⟩
  obtain ⟨A,c,rfl,hl,hr⟩:=R_reads h;exact ⟨A,c,rfl,hl,hr⟩
 M_mono:=by
  rintro w base ok ok' x cs hok ⟨v,rfl,h⟩
  exact ⟨v,rfl,R_mono h hok⟩
 M_bound:=by
  rintro w base ok x cs ⟨v,rfl,h⟩
  exact ⟨v,rfl,y3f h⟩
 M_move:=by
  rintro w w1 base ok x cs hm ⟨v,rfl,h⟩
  exact ⟨v,rfl,y9f h hm⟩
 M_lower:=by
  rintro w base base' ok x cs hb ⟨v,rfl,h⟩
  exact ⟨v,rfl,R_lower h hb⟩
def pair {α β:Type} (a:Kd α) (b:Kd β):Kd (α × β) where
 sz:=a.sz+b.sz
 E:=a.E ++ b.E
 K:=fun w x cs=>∃ c0 c1,cs=c0 ++ c1∧a.K w x.1 c0∧b.K w x.2 c1
 M:=fun w base ok x cs=>∃ c0 c1,cs=c0 ++ c1∧a.M w base ok x.1 c0∧b.M w base ok x.2 c1
 K_len:=by
  rintro w x cs ⟨c0,c1,rfl,h0,h1⟩
  rw [List.length_append,a.K_len h0,b.K_len h1]
 K_one:=by
  rintro w x cs ⟨c0,c1,rfl,h0,h1⟩ u hu
  rcases List.mem_append.1 hu with hu|hu
  ·exact a.K_one h0 u hu
  ·exact b.K_one h1 u hu
 K_below:=by
  rintro w w1 x cs hb ⟨c0,c1,rfl,h0,h1⟩
  exact ⟨c0,c1,rfl,a.K_below hb h0,b.K_below hb h1⟩
 K_of_M:=by
  rintro w base ok x cs ⟨c0,c1,rfl,h0,h1⟩
  exact ⟨c0,c1,rfl,a.K_of_M h0,b.K_of_M h1⟩
 M_mono:=by
  rintro w base ok ok' x cs hok ⟨c0,c1,rfl,h0,h1⟩
  exact ⟨c0,c1,rfl,a.M_mono hok h0,b.M_mono hok h1⟩
 M_bound:=by
  rintro w base ok x cs ⟨c0,c1,rfl,h0,h1⟩
  refine ⟨c0,c1,rfl,a.M_mono ?_ (a.M_bound h0),b.M_mono ?_ (b.M_bound h1)⟩
  ·rintro k ⟨h2,h3,h4,q,hq,hc⟩
   exact ⟨h2,h3,h4,q,List.mem_append_left _ hq,hc⟩
  ·rintro k ⟨h2,h3,h4,q,hq,hc⟩
   exact ⟨h2,h3,h4,q,List.mem_append_right _ hq,hc⟩
 M_move:=by
  rintro w w1 base ok x cs hm ⟨c0,c1,rfl,h0,h1⟩
  exact ⟨c0,c1,rfl,a.M_move hm h0,b.M_move hm h1⟩
 M_lower:=by
  rintro w base base' ok x cs hb ⟨c0,c1,rfl,h0,h1⟩
  exact ⟨c0,c1,rfl,a.M_lower hb h0,b.M_lower hb h1⟩
def iso {α β:Type} (d:Kd α) (f:β->α):Kd β where
 sz:=d.sz
 E:=d.E
 K:=fun w x cs=>d.K w (f x) cs
 M:=fun w base ok x cs=>d.M w base ok (f x) cs
 K_len:=d.K_len
 K_one:=d.K_one
 K_below:=d.K_below
 K_of_M:=d.K_of_M
 M_mono:=d.M_mono
 M_bound:=d.M_bound
 M_move:=d.M_move
 M_lower:=d.M_lower
theorem C_get {α:Type} {d:Kd α} {w:World} {A:Option Addr} {n:Nat} {xs:List α} (h:d.C w A n xs) (z:α) (i:Int) (h0:0≤i) (h1:i<n) :
  ∃ ad c,A=some ad∧c.length=d.sz∧d.K w (xs.getD i.toNat z) c∧∀ j u,c[j]?=some u->w.cell? (ad.add (i.toNat * d.sz+j))=some u:=ReadsRow.get_ h z i h0 h1
theorem y73 {α:Type} {d:Kd α} {e base:Nat} {ok okp:Nat->Prop} {W w1:World} {v v1:Value} {xs:List α} {p:α} {inner cs:List Value} (h0:∀ k,v.ownBlock=some k->ok k) (hr:Reps (d.M W base (fun k=>ok k∧some k≠v.ownBlock)) d.sz xs inner) (hp:d.M W base okp p cs) (hokp:∀ k,okp k->ok k∧some k≠v.ownBlock) (hfresh:∀ k,W.heap.size≤k->ok k)
  (hown:w1.ownsRow base e d.sz v1 (xs.length+1) (inner ++ cs)) (hg:W.grownBy w1 v.ownBlock) (hat:v1.ownBlock=v.ownBlock∨∃ b,v1.ownBlock=some b∧W.heap.size≤b):d.R e w1 base ok v1 (xs ++ [p]):=by
 have hne:∀ k,some k≠v.ownBlock->k<W.heap.size->some k≠v1.ownBlock:=by
  intro k hk hlt;rcases hat with hat|⟨b,hb,hle⟩
  ·rw [hat];exact hk
  ·rw [hb]
   intro he;injection he with he
   omega
 have step:∀ {q:α} {c:List Value} {o:Nat->Prop},d.M W base o q c->(∀ k,o k->ok k∧some k≠v.ownBlock)->d.M w1 base (fun k=>ok k∧some k≠v1.ownBlock) q c:=by
  intro q c o hq ho;have h1:=d.M_move (w1:=w1) (fun k hk=>hg.block k hk.2.2.1 (ho k hk.1).2) (d.M_bound hq);exact d.M_mono (fun k hk=>⟨(ho k hk.1).1,hne k (ho k hk.1).2 hk.2.2.1⟩) h1
 refine ⟨fun k hk=>?_,inner ++ cs,by rw [List.length_append,List.length_singleton];exact hown,?_⟩
 ·rcases hat with hat|⟨b,hb,hle⟩
  ·exact h0 k (hat ▸ hk)
  ·rw [hb] at hk
   injection hk with hk
   exact hfresh k (by omega)
 ·exact (hr.imp_ (fun _ _ hq=>step hq (fun _ hk=>hk))).snoc (step hp hokp) (d.K_len (d.K_of_M hp))
section
variable {P:Program} {ops:Array Oper} {rest:List Oper} {o:Oper} {a:Act} {Q:Exit->Act->World->Prop} {α:Type}
theorem R_append (d:Kd α) {w0 W:World} (base:Nat) (hgd:o.guard=none) (s x:Operand) (t e:TypeId) (z:Value) (bytes:Nat)
  (ho:o.op=.call { callee:=.builtin .append,args:=#[s,x],argTypes:=#[t,t] })
  (ht:P.underlying t=some (.slice e)) (hinfo:(P.info? e).map (fun i=>(i.zero,i.size,i.bytes))=some (some z,d.sz,bytes)) (hz:z.cells.size=d.sz) (hs0:0<d.sz) (hb0:0<bytes)
  (v:Value) (xs:List α) (p:α) (cs:List Value) (ok okp:Nat->Prop) (hs:a.eval s=v) (hx:a.eval x=.slice (some ⟨W.heap.size,0,none⟩) 1 1) (hp:d.M W base okp p cs) (hokp:∀ k,okp k->ok k∧some k≠v.ownBlock) (hfresh:∀ k,W.heap.size≤k->ok k)
  (HO:d.R e W base ok v xs) (HB:Below base w0 W) (hbase:base≤W.heap.size) (hl:(xs.length+1) * bytes≤140737488355328)
  (h:∀ v1 w1,d.R e w1 base ok v1 (xs ++ [p])->Below base w0 w1->W.grownBy w1 v.ownBlock->(v1.ownBlock=v.ownBlock∨∃ b,v1.ownBlock=some b∧W.heap.size≤b)->wpList P ops Q rest (a.put o.dst v1) w1) :
  wpList P ops Q (o :: rest) a (W.alloc (.cells cs.toArray e)):=by
 obtain ⟨h0,inner,hown,hr⟩:=HO;refine y49 base hgd s x t e z d.sz bytes ho ht hinfo hz hs0 hb0 v xs.length inner cs hs hx (d.K_len (d.K_of_M hp)) (d.K_one (d.K_of_M hp)) hown HB hbase hl ?_;intro v1 w1 hown1 hb1 hg1 hat1;exact h v1 w1 (y73 h0 hr hp hokp hfresh hown1 hg1 hat1) hb1 hg1 hat1
end
section
variable {P:Program} {ops:Array Oper} {o:Oper} {a:Act} {Q:Exit->Act->World->Prop} {Kc:Act->World->Prop} {α:Type}
theorem R_append_step (d:Kd α) {w0 W:World} (base:Nat) (hw:Region.wanted o (yielded ops a.tmps)=true) (s x:Operand) (t e:TypeId) (z:Value) (bytes:Nat)
  (ho:o.op=.call { callee:=.builtin .append,args:=#[s,x],argTypes:=#[t,t] })
  (ht:P.underlying t=some (.slice e)) (hinfo:(P.info? e).map (fun i=>(i.zero,i.size,i.bytes))=some (some z,d.sz,bytes)) (hz:z.cells.size=d.sz) (hs0:0<d.sz) (hb0:0<bytes)
  (v:Value) (xs:List α) (p:α) (cs:List Value) (ok okp:Nat->Prop) (hs:a.eval s=v) (hx:a.eval x=.slice (some ⟨W.heap.size,0,none⟩) 1 1) (hp:d.M W base okp p cs) (hokp:∀ k,okp k->ok k∧some k≠v.ownBlock) (hfresh:∀ k,W.heap.size≤k->ok k)
  (HO:d.R e W base ok v xs) (HB:Below base w0 W) (hbase:base≤W.heap.size) (hl:(xs.length+1) * bytes≤140737488355328)
  (h:∀ v1 w1,d.R e w1 base ok v1 (xs ++ [p])->Below base w0 w1->W.grownBy w1 v.ownBlock->(v1.ownBlock=v.ownBlock∨∃ b,v1.ownBlock=some b∧W.heap.size≤b)->Kc (a.put o.dst v1) w1) :
  if Region.wanted o (yielded ops a.tmps)=true then Oper.wp P o a (W.alloc (.cells cs.toArray e)) Kc Q else Kc (a.put o.dst undef) (W.alloc (.cells cs.toArray e)):=by
 obtain ⟨h0,inner,hown,hr⟩:=HO;refine y4d base hw s x t e z d.sz bytes ho ht hinfo hz hs0 hb0 v xs.length inner cs hs hx (d.K_len (d.K_of_M hp)) (d.K_one (d.K_of_M hp)) hown HB hbase hl ?_;intro v1 w1 hown1 hb1 hg1 hat1;exact h v1 w1 (y73 h0 hr hp hokp hfresh hown1 hg1 hat1) hb1 hg1 hat1
end
theorem y9t {α:Type} {enc:α->Value} (xs:List α):Reps (fun (x:α) (cs:List Value)=>cs=[enc x]) 1 xs (encs enc xs):=by
 refine ⟨by simp [encs],fun j p hj=>?_⟩;obtain ⟨hl,hp⟩:=List.getElem?_eq_some_iff.1 hj;have hl':j<(encs enc xs).length:=by rw [y67];exact hl
 rw [Nat.mul_one,List.drop_eq_getElem_cons hl'];simp [encs,hp]
theorem yjc {α:Type} {enc:α->Value} {h1:∀ x,(enc x).oneCell'=true} {e:Nat} {w:World} {base:Nat} {ok:Nat->Prop} {v:Value} {xs:List α} (ho:w.ownsRow base e 1 v xs.length (encs enc xs)) (hok:∀ k,v.ownBlock=some k->ok k):(scalar enc h1).R e w base ok v xs:=⟨hok,encs enc xs,ho,y9t xs⟩
theorem yas {α:Type} {enc:α->Value} {h1:∀ x,(enc x).oneCell'=true} {e:Nat} {w:World} {base:Nat} {ok:Nat->Prop} {v:Value} {xs:List α} (h:(scalar enc h1).R e w base ok v xs):w.ownsRow base e 1 v xs.length (encs enc xs):=by
 obtain ⟨_,inner,ho,hr⟩:=h;have:inner=encs enc xs:=by
  apply List.ext_getElem?;intro j;rcases Nat.lt_or_ge j xs.length with hj|hj
  ·have h2:=hr.2 j _ (List.getElem?_eq_getElem hj)
   have hl:j<inner.length:=by have:=hr.1;simp [scalar] at this;omega
   have h3:(inner.drop (j * 1)).take 1=[enc xs[j]]:=h2;rw [Nat.mul_one,List.drop_eq_getElem_cons hl] at h3;have h4:inner[j]=enc xs[j]:=by
    have h5:=congrArg List.head? h3;rw [List.take_succ_cons] at h5;exact zSi h5
   rw [List.getElem?_eq_getElem hl,h4];simp [encs,List.getElem?_eq_getElem hj]
  ·have h3:inner.length=xs.length:=by have:=hr.1;simp [scalar] at this;omega
   rw [List.getElem?_eq_none (by omega),List.getElem?_eq_none (by rw [y67];omega)]
 rw [← this];exact ho
theorem C_of_reads {α:Type} {enc:α->Value} {d:α} {h1:∀ x,(enc x).oneCell'=true} {w:World} {A:Option Addr} {n:Nat} {xs:List α} (h:ReadsOf enc d w A n xs):(scalar enc h1).C w A n xs:=by
 refine ⟨h.1,h.2.1,fun hn=>?_⟩;obtain ⟨ad,e,hc⟩:=h.2.2 hn;refine ⟨ad,e,fun j p hj=>⟨[enc p],rfl,rfl,fun i u hu=>?_⟩⟩;obtain ⟨hl,hp⟩:=List.getElem?_eq_some_iff.1 hj;have h2:=hc j (by have:=h.1;omega);rw [List.getD_eq_getElem?_getD,hj] at h2;cases i with
 |zero =>
  have:enc p=u:=by simpa using hu
  subst this;simpa [scalar] using h2
 |succ i=>simp at hu
theorem reads_of_C {α:Type} {enc:α->Value} {d:α} {h1:∀ x,(enc x).oneCell'=true} {w:World} {A:Option Addr} {n:Nat} {xs:List α} (h:(scalar enc h1).C w A n xs):ReadsOf enc d w A n xs:=by
 refine ⟨h.1,h.2.1,fun hn=>?_⟩;obtain ⟨ad,e,hc⟩:=h.2.2 hn;refine ⟨ad,e,fun j hj=>?_⟩;have hl:j<xs.length:=by have:=h.1;omega
 obtain ⟨c,_,hK,hcell⟩:=hc j _ (List.getElem?_eq_getElem hl);have hK':c=[enc xs[j]]:=hK;subst hK';have:=hcell 0 _ rfl;simpa [scalar,List.getD_eq_getElem?_getD,List.getElem?_eq_getElem hl] using this
end Kd
namespace Kd
end Kd
namespace Kd
theorem R_after {α:Type} {d:Kd α} {e base:Nat} {ok:Nat->Prop} {W w1:World} {u v v1:Value} {xs:List α} (h:d.R e W base (fun k=>ok k∧some k≠v.ownBlock) u xs) (hg:W.grownBy w1 v.ownBlock) (hat:v1.ownBlock=v.ownBlock∨∃ b,v1.ownBlock=some b∧W.heap.size≤b):d.R e w1 base (fun k=>ok k∧some k≠v1.ownBlock) u xs:=by
 refine R_mono (y9f (y3f h) (fun k hk=>hg.block k hk.2.2.1 hk.1.2)) (fun k hk=>⟨hk.1.1,?_⟩);rcases hat with hat|⟨b,hb,hle⟩
 ·rw [hat];exact hk.1.2
 ·rw [hb]
  intro he;injection he with he
  have:=hk.2.2.1;omega
theorem M_row {α:Type} {d:Kd α} {e base:Nat} {ok:Nat->Prop} {w:World} {v:Value} {xs:List α} (h:d.R e w base ok v xs):(slice e d).M w base ok xs [v]:=⟨v,rfl,h⟩
end Kd
namespace Kd
section
variable {α β:Type} {d:Kd α} {d':Kd β} {e e':Nat} {w w1 W:World} {base b b':Nat} {ok ok' okv oku:Nat->Prop} {v u:Value} {xs:List α} {ys:List β}
theorem R_drew (h:d.R e w base ok v xs):d.R e w.drew base ok v xs:=R_below h (y71 (Below.refl _ _))
theorem R_drewN (h:d.R e w base ok v xs) (m:Nat):d.R e (w.drewN m) base ok v xs:=R_below h (y00 (Below.refl _ _) m)
theorem C_drewN {A:Option Addr} {n:Nat} (h:d.C w A n xs) (m:Nat):d.C (w.drewN m) A n xs:=C_below h (y00 (Below.refl _ _) m)
theorem R_reads' {A:Option Addr} {n c:Nat} (h:d.R e w base ok (.slice A n c) xs):n=xs.length∧n≤c∧d.C w A xs.length xs:=by
 obtain ⟨A',c',he,hl,hr⟩:=R_reads h;injection he with h1 h2 h3
 subst h1;exact ⟨h2,by omega,hr⟩
theorem R_lt (h:d.R e w base ok v xs):∀ k,v.ownBlock=some k->k<w.heap.size:=by
 obtain ⟨inner,ho⟩:=yjb h;exact own_lt ho
theorem R_base (h:d.R e w base ok v xs):∀ k,v.ownBlock=some k->base≤k:=by
 obtain ⟨inner,ho⟩:=yjb h;exact y3g ho
theorem R_form (h:d.R e w base ok v xs) (hp:0<xs.length):∃ g cap,v=.slice (some ⟨g,0,none⟩) xs.length cap∧base≤g∧g<w.heap.size∧∃ cells,w.heap[g]?=some (.cells cells e (0,0)):=by
 obtain ⟨inner,ho⟩:=yjb h;obtain ⟨g,cap,he,hb,hl⟩:=ho.form hp;obtain ⟨cells,hc⟩:=y2x ho g (by rw [he];simp [Value.ownBlock]);exact ⟨g,cap,he,hb,hl,cells,hc⟩
end
section
variable {w W:World} {A:Option Addr} {n:Nat}
theorem at_int {k:IntKind} {xs:List Int} (h:(Kd.int k).C w A n xs) (i:Int) (h0:0≤i) (h1:i<n):∃ ad,A=some ad∧w.cell? (ad.add i.toNat)=some (.int k (rd xs i)) :=
 ReadsOf.at_ (reads_of_C (enc:=Value.int k) (d:=(0:Int)) (h1:=fun _=>rfl) h) i h0 h1
variable {α:Type} {enc:α->Value} {h1:∀ x,(enc x).oneCell'=true} {e base g cap:Nat} {ok:Nat->Prop} {xs:List α}
theorem R_cell (d:α) (h:(scalar enc h1).R e W base ok (.slice (some ⟨g,0,none⟩) xs.length cap) xs) (i:Int) (h0:0≤i) (hi:i<xs.length):W.cell? ⟨g,i.toNat,none⟩=some (enc (rdOf d xs i))∧W.frozen? ⟨g,i.toNat,none⟩=false:=yd5 (yas h) i h0 hi
theorem R_put (h:(scalar enc h1).R e W base ok (.slice (some ⟨g,0,none⟩) xs.length cap) xs) (i:Int) (x:α):(scalar enc h1).R e (W.setCell ⟨g,i.toNat,none⟩ (enc x)) base ok (.slice (some ⟨g,0,none⟩) xs.length cap) (xs.set i.toNat x)∧W.grownBy (W.setCell ⟨g,i.toNat,none⟩ (enc x)) (some g):=by
 obtain ⟨ho,hg⟩:=y91 (yas h) i x;exact ⟨yjc (by rw [List.length_set];exact ho) h.1,hg⟩
end
section
variable {P:Program} {ops:Array Oper} {rest:List Oper} {o:Oper} {a:Act} {Q:Exit->Act->World->Prop}
theorem event_run {W w1:World} {v:Value} (hgd:o.guard=none) (hrun:(execOp a.eval o).run P W=.ok (.value v) w1) (h:wpList P ops Q rest (a.put o.dst v) w1):wpList P ops Q (o :: rest) a W:=by
 refine wpList_plain hgd fun K hK=>?_
 unfold Oper.wp;rw [hrun];exact hK _ _ h
variable {α:Type}
theorem R_lit (d:Kd α) {w0 W:World} (base e:Nat) (hgd:o.guard=none) {N:Tmp} (_hd:o.dst=some N) {xs:List α} {inner:List Value} {ok okp:Nat->Prop}
  (hrun:(execOp a.eval o).run P W=.ok (.value (.slice (some ⟨W.heap.size,0,none⟩) xs.length xs.length)) (W.alloc (.cells inner.toArray e)))
  (hrep:Reps (d.M W base okp) d.sz xs inner) (hok:∀ k,okp k->ok k) (hfresh:ok W.heap.size) (HB:Below base w0 W) (hbase:base≤W.heap.size) (hm:xs.length≤9223372036854775807)
  (h:∀ v1 w1,d.R e w1 base ok v1 xs->Below base w0 w1->W.grownBy w1 none->(∃ b,v1.ownBlock=some b∧W.heap.size≤b)->wpList P ops Q rest (a.put o.dst v1) w1):wpList P ops Q (o :: rest) a W:=by
 refine event_run hgd hrun (h _ _ ⟨fun k hk=>?_,inner,?_,?_⟩ (HB.alloc hbase _) (World.grownBy_alloc W _ none) ⟨W.heap.size,by simp [Value.ownBlock],zLe _⟩)
 ·have:W.heap.size=k:=by simpa [Value.ownBlock] using hk
  subst this;exact hfresh
 ·have h2:=World.ownsRow_lit (base:=base) (e:=e) (size:=d.sz) W inner.toArray xs.length hbase (by simpa [maxLen] using hm) (by simpa using hrep.1)
  simpa using h2
 ·refine hrep.imp_ (fun p c hp=>d.M_mono (fun k hk=>⟨hok k hk.1,fun he=>?_⟩) (M_below (d.M_bound hp) (y01 (Below.refl _ _) _)))
  have h3:k=W.heap.size:=by simpa [Value.ownBlock] using he
  have:=hk.2.2.1;omega
theorem ycn {α:Type} {R:α->List Value->Prop} {z:Value} {size:Nat} {z0:α} (hz:z.cells.size=size) (hs:0<size) (h0:R z0 z.cells.toList) (m:Nat):Reps R size (List.replicate m z0) (madeCells z.cells (m * size)).toList:=by
 refine ⟨by simp [size_madeCells],fun j p hj=>?_⟩;obtain ⟨hjl,hp⟩:=List.getElem?_eq_some_iff.1 hj;have hjm:j<m:=by simpa using hjl
 have hp':z0=p:=by simpa using hp
 subst hp';have hle:j * size+size≤m * size:=by rw [← Nat.succ_mul];exact Nat.mul_le_mul_right _ hjm
 have:((madeCells z.cells (m * size)).toList.drop (j * size)).take size=z.cells.toList:=by
  apply List.ext_getElem
  ·simp [size_madeCells,hz]
   omega
  ·intro i h1 h2
   have hi:i<size:=by rw [Array.length_toList,hz] at h2;exact h2
   have hmod:(j * size+i) % size=i:=by
    rw [Nat.mul_comm,Nat.mul_add_mod];exact Nat.mod_eq_of_lt hi
   simp [madeCells,hz,hmod];rw [getElem!_pos z.cells i (by omega)]
 rw [this];exact h0
theorem R_make (d:Kd α) {w0 W:World} (base e:Nat) (hgd:o.guard=none) {N:Tmp} (hd:o.dst=some N) (t:TypeId) (x y:Operand) (ho:o.op=.makeSlice t x y) (n:Int) (hx:a.eval x=.int .i64 n) (hy:a.eval y=.int .i64 n)
  (ht:P.underlying t=some (.slice e)) (z:Value) (bytes:Nat) (hinfo:(P.info? e).map (fun i=>(i.zero,i.size,i.bytes))=some (some z,d.sz,bytes)) (hz:z.cells.size=d.sz) (hs0:0<d.sz) (hb0:0<bytes)
  (z0:α) {ok okp:Nat->Prop} (hzero:d.M W base okp z0 z.cells.toList) (hok:∀ k,okp k->ok k) (hfresh:ok W.heap.size) (h0:0≤n) (hl:n.toNat * bytes≤281474976710656) (HB:Below base w0 W) (hbase:base≤W.heap.size)
  (h:∀ v1 w1,d.R e w1 base ok v1 (List.replicate n.toNat z0)->Below base w0 w1->W.grownBy w1 none->(∃ b,v1.ownBlock=some b∧W.heap.size≤b)->wpList P ops Q rest (a.put o.dst v1) w1):wpList P ops Q (o :: rest) a W:=by
 obtain ⟨m,rfl⟩:=Int.eq_ofNat_of_zero_le h0;simp only [Int.toNat_natCast] at hl h;obtain ⟨i0,hi,hzz⟩:=Option.map_eq_some_iff.1 hinfo;simp only [Prod.mk.injEq] at hzz;obtain ⟨hz0,hz1,hz2⟩:=hzz;have hm:m≤281474976710656:=Nat.le_trans (Nat.le_mul_of_pos_right _ hb0) hl;have hr:=run_make (P:=P) W t e i0 z ht hi hz0 .i64 .i64 (m:Int) (m:Int) (by omega) (by omega)
  (by
   have h3:((i0.bytes * m:Nat):Int)≤281474976710656:=by rw [hz2,Nat.mul_comm];omega
   rwa [Int.natCast_mul] at h3) (by omega)
 simp only [Int.toNat_natCast] at hr;rw [hz1] at hr;refine R_lit d base e hgd hd (xs:=List.replicate m z0) (inner:=(madeCells z.cells (m * d.sz)).toList) (okp:=okp) (ok:=ok) ?_ (ycn hz hs0 hzero m) hok hfresh HB hbase (by simp;omega) h;simp [execOp,ho,hx,hy,hr]
end
end Kd
section
variable {w w1:World} {base n size:Nat} {e:TypeId} {v:Value} {xs:List Value}
theorem ygp (g o j:Nat):(⟨g,o,none⟩:Addr).add j=⟨g,o+j,none⟩:=by unfold Addr.add;split<;>simp_all
theorem y4s {g:Nat}:∀ (vs:List Value) (o:Nat) {w:World} (k:Nat),k≠g->(w.setCells g o vs).heap[k]?=w.heap[k]?
 |[],_,_,_,_=>rfl
 |v :: r,o,w,k,hk=>by
  rw [World.setCells,y4s r (o+1) k hk];exact Below.heap_setCell w ⟨g,o,none⟩ v k hk
theorem y40 (g:Nat):∀ (vs:List Value) (o:Nat) (w:World),(w.setCells g o vs).os=w.os∧(w.setCells g o vs).tape=w.tape∧(w.setCells g o vs).output=w.output∧(w.setCells g o vs).heap.size=w.heap.size
 |[],_,_=>⟨rfl,rfl,rfl,rfl⟩
 |v :: r,o,w=>by
  obtain ⟨h1,h2,h3,h4⟩:=y40 g r (o+1) (w.setCell ⟨g,o,none⟩ v);rw [World.setCells];exact ⟨h1,h2,h3,by rw [h4];simp [World.setCell]⟩
theorem y4r {g:Nat} {e:TypeId}:∀ (vs:List Value) (o:Nat) (w:World) (cur:Array Value),w.heap[g]?=some (.cells cur e (0,0))->o+vs.length≤cur.size →
  ∃ cur',(w.setCells g o vs).heap[g]?=some (.cells cur' e (0,0))∧cur'.size=cur.size∧cur'.toList=cur.toList.take o ++ vs ++ cur.toList.drop (o+vs.length)
 |[],o,w,cur,h,_=>⟨cur,h,rfl,by simp⟩
 |v :: r,o,w,cur,h,hl=>by
  have h2:=ygj h o v;simp only [List.length_cons] at hl;obtain ⟨cur',h3,h4,h5⟩:=y4r r (o+1) (w.setCell ⟨g,o,none⟩ v) _ h2 (by simp;omega);refine ⟨cur',h3,by rw [h4];simp,?_⟩;rw [h5,Array.toList_setIfInBounds];have ho:o<cur.toList.length:=by rw [Array.length_toList];omega
  rw [List.take_set,List.drop_set_of_lt (by omega)];simp only [List.length_cons];rw [show o+1+r.length=o+(r.length+1) by omega]
  congr 1
  rw [List.take_succ_eq_append_getElem ho,List.set_append_right _ _ (by rw [List.length_take];omega)];have ho':o<cur.size:=by omega
  simp [Nat.min_eq_left (Nat.le_of_lt ho')]
end
namespace Kd
end Kd
namespace Kd
section
variable {α:Type} {d:Kd α} {e e':Nat} {w w1 W:World} {base:Nat} {ok:Nat->Prop} {u v:Value} {xs:List α}
theorem R_typed (h:d.R e w base ok v xs):∀ k,v.ownBlock=some k->∃ cells,w.heap[k]?=some (.cells cells e (0,0)):=by
 obtain ⟨inner,ho⟩:=yjb h;exact fun k hk=>y2x ho k hk
theorem R_elder' (hu:d.R e W base ok u xs) (hbase:∀ k,v.ownBlock=some k->W.heap.size≤k) (hb:Below W.heap.size W w1):d.R e w1 base (fun k=>ok k∧some k≠v.ownBlock) u xs :=
 R_mono (y9f (y3f hu) (fun k hk=>hb.block k hk.2.2.1)) (fun k hk=>⟨hk.1,fun he=>by have:=hbase k he.symm;have:=hk.2.2.1;omega⟩)
theorem R_new' (h:d.R e w1 W.heap.size ok v xs) (hlt:∀ k,u.ownBlock=some k->k<W.heap.size):d.R e w1 W.heap.size (fun k=>ok k∧some k≠u.ownBlock) v xs :=
 R_mono (y3f h) (fun k hk=>⟨hk.1,fun he=>by have:=hlt k he.symm;have:=hk.2.1;omega⟩)
end
end Kd
theorem y5k {α:Type} (a seg:List α) (o:Nat) (h:o+seg.length≤a.length) (q:Nat) :
  (a.take o ++ seg ++ a.drop (o+seg.length))[q]?=if q<o then a[q]? else if q<o+seg.length then seg[q - o]? else a[q]?:=by
 have hl:(a.take o).length=o:=by rw [List.length_take];omega
 rw [List.append_assoc]
 by_cases h1:q<o
 ·rw [if_pos h1,List.getElem?_append_left (by omega),List.getElem?_take,if_pos h1]
 ·rw [if_neg h1,List.getElem?_append_right (by omega),hl]
  by_cases h2:q<o+seg.length
  ·rw [if_pos h2,List.getElem?_append_left (by omega)]
  ·rw [if_neg h2,List.getElem?_append_right (by omega),List.getElem?_drop]
   congr 1
   omega
namespace Kd
section
variable {α:Type} {d:Kd α} {e base g n cap:Nat} {ok okp:Nat->Prop} {W:World} {xs:List α}
theorem ygr (h:d.R e W base ok (.slice (some ⟨g,0,none⟩) n cap) xs) (z:α) (i:Int) (h0:0≤i) (h1:i<n) :
  ∃ c,c.length=d.sz∧d.M W base (fun k=>ok k∧k≠g) (xs.getD i.toNat z) c∧(∀ j u,c[j]?=some u->W.cell? ⟨g,i.toNat * d.sz+j,none⟩=some u)∧∀ j,W.frozen? ⟨g,i.toNat * d.sz+j,none⟩=false:=by
 obtain ⟨hn,hnc,hC⟩:=R_reads' h;obtain ⟨_,inner,ho,hr⟩:=h;have hil:i.toNat<xs.length:=by omega
 have hseg:i.toNat * d.sz+d.sz≤inner.length:=by rw [hr.1,← Nat.succ_mul];exact Nat.mul_le_mul_right _ hil
 have hM:=hr.2 i.toNat _ (List.getElem?_eq_getElem hil);refine ⟨(inner.drop (i.toNat * d.sz)).take d.sz,by rw [List.length_take,List.length_drop];omega,?_,fun j u hu=>?_,fun j=>?_⟩
 ·rw [List.getD_eq_getElem?_getD,List.getElem?_eq_getElem hil]
  exact d.M_mono (fun k hk=>⟨hk.1,fun he=>hk.2 (by rw [he];simp [Value.ownBlock])⟩) hM
 ·rw [List.getElem?_take] at hu
  split at hu
  ·rw [List.getElem?_drop] at hu
   have:=ho.cells (g:=g) (by simp [Value.ownBlock]) _ u hu
   rwa [y18] at this
  ·cases hu
 ·obtain ⟨cells,hc⟩:=y2x ho g (by simp [Value.ownBlock])
  exact y0h hc _
theorem R_seg (h:d.R e W base ok (.slice (some ⟨g,0,none⟩) n cap) xs) (i:Int) (h0:0≤i) (h1:i<n) {c seg:List Value} {j:Nat} (hcl:c.length=d.sz) (hcc:∀ j u,c[j]?=some u->W.cell? ⟨g,i.toNat * d.sz+j,none⟩=some u)
  (hj:j+seg.length≤d.sz) {x':α} (hM:d.M W base okp x' (c.take j ++ seg ++ c.drop (j+seg.length))) (hokp:∀ k,okp k->ok k∧k≠g) :
  d.R e (W.setCells g (i.toNat * d.sz+j) seg) base ok (.slice (some ⟨g,0,none⟩) n cap) (xs.set i.toNat x')∧W.grownBy (W.setCells g (i.toNat * d.sz+j) seg) (some g):=by
 obtain ⟨hn,hnc,_⟩:=R_reads' h;obtain ⟨hok,inner,ho,hr⟩:=h;have hil:i.toNat<xs.length:=by omega
 have hseg:i.toNat * d.sz+d.sz≤inner.length:=by rw [hr.1,← Nat.succ_mul];exact Nat.mul_le_mul_right _ hil
 have hin:inner.length=n * d.sz:=by rw [hr.1,hn]
 obtain ⟨ho1,ho2⟩:=ho;rcases ho2 with ⟨hv,_⟩|⟨g',cap',cur,hv,hb,hh,hnc',hcm,hcs,ht⟩
 ·cases hv
 injection hv with ha _ hc
 injection ha with ha
 injection ha with hg
 subst hg;subst hc;have hfit:i.toNat * d.sz+j+seg.length≤cur.size:=by
  have:n * d.sz≤cap * d.sz:=Nat.mul_le_mul_right _ hnc;omega
 obtain ⟨cur',h3,h4,h5⟩:=y4r seg (i.toNat * d.sz+j) W cur hh hfit;obtain ⟨s1,s2,s3,s4⟩:=y40 g seg (i.toNat * d.sz+j) W;have hfar:∀ k,k≠g->(W.setCells g (i.toNat * d.sz+j) seg).heap[k]?=W.heap[k]?:=fun k hk=>y4s seg _ k hk
 have hcin:∀ q,q<d.sz->c[q]?=inner[i.toNat * d.sz+q]?:=by
  intro q hq;have hq':q<c.length:=by omega
  have h6:=hcc q _ (List.getElem?_eq_getElem hq');rw [cell_of_row W g _ cur e (0,0) hh] at h6;rw [List.getElem?_eq_getElem hq',← h6,← ht,List.getElem?_take,if_pos (by rw [← hn];omega),Array.getElem?_toList]
 refine ⟨⟨hok,inner.take (i.toNat * d.sz+j) ++ seg ++ inner.drop (i.toNat * d.sz+j+seg.length),⟨?_,.inr ⟨g,cap,cur',by rw [List.length_set,hn],hb,h3,by rw [List.length_set,← hn];exact hnc,hcm,by rw [h4,hcs],?_⟩⟩,?_⟩,
  ⟨s1,s2,s3,by rw [s4];exact zLe _,fun k _ hk=>hfar k (fun he=>hk (by rw [he]))⟩⟩
 ·rw [List.length_set]
  simp only [List.length_append,List.length_take,List.length_drop];rw [hr.1] at hseg ⊢;omega
 ·rw [List.length_set,← hn]
  apply List.ext_getElem?;intro q;rw [List.getElem?_take,h5];rw [y5k cur.toList seg (i.toNat * d.sz+j) (by rw [Array.length_toList];omega) q,y5k inner seg (i.toNat * d.sz+j) (by omega) q];have hcur:∀ q,q<n * d.sz->cur.toList[q]?=inner[q]?:=by
   intro q hq;rw [← ht,List.getElem?_take,if_pos (by rw [← hn];exact hq)]
  by_cases hq:q<n * d.sz
  ·rw [if_pos hq,hcur q hq]
  ·rw [if_neg hq,if_neg (by omega),if_neg (by omega),List.getElem?_eq_none (by omega)]
 ·refine ⟨?_,fun m p hm=>?_⟩
  ·rw [List.length_set]
   simp only [List.length_append,List.length_take,List.length_drop];rw [hr.1] at hseg ⊢;omega
  ·have hml:m<xs.length:=by
    have:=(List.getElem?_eq_some_iff.1 hm).1
    rwa [List.length_set] at this
   have hmfit:m * d.sz+d.sz≤inner.length:=by rw [hr.1,← Nat.succ_mul];exact Nat.mul_le_mul_right _ hml
   have hgo:some g=(Value.slice (some ⟨g,0,none⟩) n cap).ownBlock:=by simp [Value.ownBlock]
   by_cases hmi:m=i.toNat
   ·subst hmi
    rw [List.getElem?_set_self (by omega)] at hm;injection hm with hm
    subst hm;have hcells:((inner.take (i.toNat * d.sz+j) ++ seg ++ inner.drop (i.toNat * d.sz+j+seg.length)).drop (i.toNat * d.sz)).take d.sz=c.take j ++ seg ++ c.drop (j+seg.length):=by
     apply List.ext_getElem?;intro q;rw [List.getElem?_take,List.getElem?_drop,y5k inner seg _ (by omega),y5k c seg j (by omega) q]
     by_cases hq:q<d.sz
     ·rw [if_pos hq,hcin q hq]
      by_cases hq1:q<j
      ·rw [if_pos (by omega),if_pos hq1]
      ·rw [if_neg (by omega),if_neg hq1]
       by_cases hq2:q<j+seg.length
       ·rw [if_pos (by omega),if_pos hq2]
        congr 1
        omega
       ·rw [if_neg (by omega),if_neg hq2]
     ·rw [if_neg hq,if_neg (by omega),if_neg (by omega),List.getElem?_eq_none (by omega)]
    rw [hcells];refine d.M_mono (fun k hk=>?_) (d.M_move (w1:=W.setCells g (i.toNat * d.sz+j) seg) (fun k hk=>hfar k (hokp k hk).2) hM);exact ⟨(hokp k hk).1,fun he=>(hokp k hk).2 (by rw [← hgo] at he;injection he)⟩
   ·rw [List.getElem?_set_ne (by omega)] at hm
    have hold:=hr.2 m p hm;have hcells:((inner.take (i.toNat * d.sz+j) ++ seg ++ inner.drop (i.toNat * d.sz+j+seg.length)).drop (m * d.sz)).take d.sz=(inner.drop (m * d.sz)).take d.sz:=by
     apply List.ext_getElem?;intro q;rw [List.getElem?_take,List.getElem?_take,List.getElem?_drop,List.getElem?_drop,y5k inner seg _ (by omega)]
     by_cases hq:q<d.sz
     ·rw [if_pos hq,if_pos hq]
      rcases Nat.lt_or_gt_of_ne hmi with hlt|hgt
      ·have:m * d.sz+d.sz≤i.toNat * d.sz:=by rw [← Nat.succ_mul];exact Nat.mul_le_mul_right _ hlt
       rw [if_pos (by omega)]
      ·have:i.toNat * d.sz+d.sz≤m * d.sz:=by rw [← Nat.succ_mul];exact Nat.mul_le_mul_right _ hgt
       rw [if_neg (by omega),if_neg (by omega)]
     ·rw [if_neg hq,if_neg hq]
    rw [hcells];refine d.M_move (fun k hk=>hfar k (fun he=>hk.2 (by rw [he];exact hgo))) hold
end
end Kd
namespace Kd
end Kd
namespace Kd
theorem y5q {α:Type} {R:α->List Value->Prop} {size:Nat} {ps qs:List α} {cs ds:List Value} (h:Reps R size ps cs) (h':Reps R size qs ds):Reps R size (ps ++ qs) (cs ++ ds):=by
 refine ⟨by rw [List.length_append,List.length_append,h.1,h'.1,Nat.add_mul],fun j p hj=>?_⟩;rcases Nat.lt_or_ge j ps.length with hlt|hge
 ·rw [List.getElem?_append_left hlt] at hj
  have hle:j * size+size≤cs.length:=by rw [h.1,← Nat.succ_mul];exact Nat.mul_le_mul_right _ hlt
  rw [List.drop_append_of_le_length (by omega),List.take_append_of_le_length (by rw [List.length_drop];omega)];exact h.2 j p hj
 ·rw [List.getElem?_append_right hge] at hj
  have h2:=h'.2 (j - ps.length) p hj;have hle:ps.length * size≤j * size:=Nat.mul_le_mul_right _ hge;rw [List.drop_append,List.drop_eq_nil_of_le (by rw [h.1];exact hle),List.nil_append,h.1,← Nat.sub_mul];exact h2
section
variable {P:Program} {ops:Array Oper} {rest:List Oper} {o:Oper} {a:Act} {Q:Exit->Act->World->Prop} {α:Type}
theorem R_append_rows (d:Kd α) {Rr:α->List Value->Prop} {w0 W:World} (base:Nat) (hgd:o.guard=none) (s x:Operand) (t e:TypeId) (z:Value) (bytes:Nat)
  (ho:o.op=.call { callee:=.builtin .append,args:=#[s,x],argTypes:=#[t,t] })
  (ht:P.underlying t=some (.slice e)) (hinfo:(P.info? e).map (fun i=>(i.zero,i.size,i.bytes))=some (some z,d.sz,bytes)) (hz:z.cells.size=d.sz) (hs0:0<d.sz) (hb0:0<bytes)
  (v:Value) (xs ys:List α) (A:Option Addr) (m c:Nat) (ok okp:Nat->Prop) (hs:a.eval s=v) (hx:a.eval x=.slice A m c)
  (HO:d.R e W base ok v xs) (HR:ReadsRow Rr d.sz W A m ys) (hKM:∀ x cs,Rr x cs->d.M W base okp x cs) (hokp:∀ k,okp k->ok k∧some k≠v.ownBlock) (hfresh:∀ k,W.heap.size≤k->ok k)
  (HB:Below base w0 W) (hbase:base≤W.heap.size) (hl:(xs.length+m) * bytes≤140737488355328)
  (h:∀ v1 w1,d.R e w1 base ok v1 (xs ++ ys)->Below base w0 w1->W.grownBy w1 v.ownBlock->(v1.ownBlock=v.ownBlock∨∃ b,v1.ownBlock=some b∧W.heap.size≤b)->wpList P ops Q rest (a.put o.dst v1) w1) :
  wpList P ops Q (o :: rest) a W:=by
 obtain ⟨i0,hi,hzz⟩:=Option.map_eq_some_iff.1 hinfo;simp only [Prod.mk.injEq] at hzz;obtain ⟨hz0,hz1,hz2⟩:=hzz;have hm:ys.length=m:=HR.1;have hlen:xs.length+m≤140737488355328:=Nat.le_trans (Nat.le_mul_of_pos_right _ hb0) hl;obtain ⟨hok,inner,hown,hr⟩:=HO;have hrun:∃ v1 w1,(Builtin.append_ #[t,t] o.type #[v,.slice A m c]).run P W=.ok v1 w1∧d.R e w1 base ok v1 (xs ++ ys)∧W.grownBy w1 v.ownBlock∧(v1.ownBlock=v.ownBlock∨∃ b,v1.ownBlock=some b∧W.heap.size≤b):=by
  rcases A with _|ad
  ·have h0:m=0:=by
    rcases Nat.eq_zero_or_pos m with h0|h0
    ·exact h0
    ·obtain ⟨ad,h,_⟩:=HR.2.2 h0
     cases h
   subst h0;obtain rfl:ys=[]:=List.eq_nil_of_length_eq_zero hm;refine ⟨v,W,?_,by rw [List.append_nil];exact ⟨hok,inner,hown,hr⟩,World.grownBy.refl W _,.inl rfl⟩;rcases hown.2 with ⟨rfl,hn⟩|⟨g,cap,cur,rfl,_,_,hnc,_⟩
   ·simp [Builtin.append_,run_underlying ht,sizeOf,typeInfo,hi,Builtin.lenOf,Builtin.firstCells]
   ·simp [Builtin.append_,run_underlying ht,sizeOf,typeInfo,hi,Builtin.lenOf,Builtin.firstCells,hnc,storeCells]
  ·obtain ⟨news,hnr,hnc⟩:=ReadsRow.inner_ HR
   have hnM:Reps (d.M W base okp) d.sz ys news:=hnr.imp_ (fun p c hp=>hKM p c hp);have hone:∀ u ∈ news,u.oneCell'=true:=by
    intro u hu;obtain ⟨q,hq,rfl⟩:=List.mem_iff_getElem.1 hu;have hql:q / d.sz<ys.length:=by
     rw [Nat.div_lt_iff_lt_mul hs0];rw [← hnM.1];exact hq
    have hc:=hnM.2 (q / d.sz) _ (List.getElem?_eq_getElem hql);refine d.K_one (d.K_of_M hc) _ ?_;rw [List.mem_iff_getElem?];refine ⟨q % d.sz,?_⟩;rw [List.getElem?_take,if_pos (Nat.mod_lt _ hs0),List.getElem?_drop,Nat.mul_comm,Nat.div_add_mod,List.getElem?_eq_getElem hq]
   obtain ⟨v1,w1,hrun,h2,hg,_,hat⟩:=run_append_own_at (P:=P) W base t o.type e i0 z d.sz bytes ht hi hz0 hz1 hz2 hz hs0 v xs.length inner hown ad m c news (by rw [hnM.1,hm]) hnc hone (by simp only [maxLen];omega) hl hbase;have hat':v1.ownBlock=v.ownBlock∨∃ b,v1.ownBlock=some b∧W.heap.size≤b:=by
    rcases hat with hat|hat
    ·exact .inl hat
    ·exact .inr ⟨_,hat,zLe _⟩
   have hne:∀ k,some k≠v.ownBlock->k<W.heap.size->some k≠v1.ownBlock:=by
    intro k hk hlt;rcases hat' with hat|⟨b,hb,hle⟩
    ·rw [hat];exact hk
    ·rw [hb]
     intro he;injection he with he
     omega
   have step:∀ {q:α} {c:List Value} {o:Nat->Prop},d.M W base o q c->(∀ k,o k->ok k∧some k≠v.ownBlock)->d.M w1 base (fun k=>ok k∧some k≠v1.ownBlock) q c:=by
    intro q c o hq ho;have h1:=d.M_move (w1:=w1) (fun k hk=>hg.block k hk.2.2.1 (ho k hk.1).2) (d.M_bound hq);exact d.M_mono (fun k hk=>⟨(ho k hk.1).1,hne k (ho k hk.1).2 hk.2.2.1⟩) h1
   refine ⟨v1,w1,hrun,⟨fun k hk=>?_,inner ++ news,by rw [List.length_append,hm];exact h2,y5q (hr.imp_ (fun _ _ hq=>step hq (fun _ hk=>hk))) (hnM.imp_ (fun _ _ hq=>step hq hokp))⟩,hg,hat'⟩;rcases hat' with hat|⟨b,hb,hle⟩
   ·exact hok k (hat ▸ hk)
   ·rw [hb] at hk
    injection hk with hk
    exact hfresh k (by omega)
 obtain ⟨v1,w1,hr1,h1,hg,hat⟩:=hrun;refine wpList_plain hgd fun K hK=>?_
 unfold Oper.wp execOp;simp only [ho,resolve,invoke,builtin,Sem.run_bind,Sem.run_pure,Result.andThen_ok,List.map_toArray,List.map_cons,List.map_nil,hs,hx,hr1];exact hK _ _ (h v1 w1 h1 (HB.grown hg hbase (y3g hown)) hg hat)
end
end Kd
namespace Kd
end Kd
namespace Kd
end Kd
theorem y04 {w W:World} (h:Below w.heap.size w W):w.heap.size≤W.heap.size:=h.size
theorem y03 {w W w2:World} (h:Below w.heap.size w W) (k:Below W.heap.size W w2):Below w.heap.size w w2:=yc3 h h.size k
theorem ReadsInt.nil (W:World) (k:IntKind):ReadsInt W k none ([]:List Int).length []:=⟨rfl,by simp,fun h=>absurd h (Nat.lt_irrefl 0)⟩
theorem ReadsInt.ofRow {k:IntKind} {w:World} {a:Option Addr} {len cap:Nat} {zs:List Int} (h:(a=none∧len=0∧cap=0∧zs=[])∨∃ x,a=some x∧len≤cap∧cap≤maxLen∧zs.length=cap∧(∀ i,i<zs.length->w.cell? (x.add i)=some (.int k (zs.getD i 0)))∧∀ n ∈ zs,(Lit.int k n).wf=true) :
  ∃ l:List Int,len=l.length∧ReadsInt w k a l.length l∧l.length≤maxLen∧∀ x ∈ l,(Lit.int k x).wf=true:=by
 rcases h with ⟨rfl,rfl,rfl,rfl⟩|⟨x,rfl,hl,hm,hz,hc,hw⟩
 ·exact ⟨[],rfl,ReadsInt.nil _ _,Nat.zero_le _,fun x hx=>by simp at hx⟩
 ·have e:(zs.take len).length=len:=by simp;omega
  have hm':len≤maxLen:=Nat.le_trans hl hm;refine ⟨zs.take len,e.symm,⟨rfl,by rw [e];simpa [maxLen] using hm',fun _=>⟨x,rfl,fun j hj=>?_⟩⟩,by rw [e];exact hm',fun y hy=>hw y (List.mem_of_mem_take hy)⟩;rw [e] at hj;rw [hc j (by omega)];simp [List.getD,List.getElem?_take,hj]
theorem y0c {w W:World} {g j:Nat} {v:Value} (h:Below w.heap.size w W) (hg:w.heap.size≤g):Below w.heap.size w (W.setCell ⟨g,j,none⟩ v):=h.setCell hg _
theorem y1b {w:World} {g:Nat} {t:TypeId} {cs cs':Array Value} (h:w.heap[g]?=some (.cells cs t (0,0))) (i:Nat) (u:Value) (e:cs.setIfInBounds i u=cs'):(w.setCell ⟨g,i,none⟩ u).heap[g]?=some (.cells cs' t (0,0)):=e ▸ ygj h i u
theorem ReadsInt.ofRowC {k:IntKind} {w:World} {a:Option Addr} {len cap:Nat} {zs:List Int} (h:(a=none∧len=0∧cap=0∧zs=[])∨∃ x,a=some x∧len≤cap∧cap≤maxLen∧zs.length=cap∧(∀ i,i<zs.length->w.cell? (x.add i)=some (.int k (zs.getD i 0)))∧∀ n ∈ zs,(Lit.int k n).wf=true) :
  ∃ l:List Int,len=l.length∧ReadsInt w k a l.length l∧l.length≤maxLen∧(∀ x ∈ l,(Lit.int k x).wf=true)∧l.length≤cap:=by
 have hl:len≤cap:=by
  rcases h with ⟨_,rfl,rfl,_⟩|⟨_,_,h,_⟩
  ·exact zLe _
  ·exact h
 obtain ⟨l,e,h1,h2,h3⟩:=ReadsInt.ofRow h;exact ⟨l,e,h1,h2,h3,e ▸ hl⟩
theorem y02 {base:Nat} {w W:World} (h:Below base w W):Below base w W.drew:=h.drew
namespace Kd
end Kd
namespace Kd
section
variable {α:Type} {d:Kd α} {e base g:Nat} {ok:Nat->Prop} {w w1:World} {v:Value} {xs:List α} {o:Obj}
theorem freshB (hb:w.heap[g]?=some o):∀ k,w.heap.size≤k->k≠g:=fun k hk=>by have:=y4z hb;omega
end
end Kd
section
variable {P:Program} {ops:Array Oper} {rest:List Oper} {o:Oper} {a:Act} {Q:Exit->Act->World->Prop}
theorem y25 {W:World} (hgd:o.guard=none) {N:Tmp} (_hd:o.dst=some N) {cs:Array Value} {t:TypeId}
  (hrun:(execOp a.eval o).run P W=.ok (.value (.pointer (some ⟨W.heap.size,0,none⟩))) (W.alloc (.cells cs t (0,0))))
  (h:∀ g,g=W.heap.size->∀ w1,w1.heap[g]?=some (.cells cs t (0,0))->Below W.heap.size W w1->wpList P ops Q rest (a.put o.dst (.pointer (some ⟨g,0,none⟩))) w1):wpList P ops Q (o :: rest) a W :=
 Kd.event_run hgd hrun (h _ rfl _ (blk_new W _) (y01 (Below.refl _ _) _))
end
namespace Kd
section
variable {α:Type} {enc:α->Value} {h1:∀ x,(enc x).oneCell'=true} {e base g n cap:Nat} {ok:Nat->Prop} {W:World} {xs:List α}
theorem R_celln (d:α) (h:(scalar enc h1).R e W base ok (.slice (some ⟨g,0,none⟩) n cap) xs) (i:Int) (h0:0≤i) (hi:i<n):W.cell? ⟨g,i.toNat,none⟩=some (enc (rdOf d xs i))∧W.frozen? ⟨g,i.toNat,none⟩=false:=by
 obtain ⟨rfl,_⟩:=R_reads' h;exact R_cell d h i h0 hi
theorem R_putn (h:(scalar enc h1).R e W base ok (.slice (some ⟨g,0,none⟩) n cap) xs) (i:Int) (x:α):(scalar enc h1).R e (W.setCell ⟨g,i.toNat,none⟩ (enc x)) base ok (.slice (some ⟨g,0,none⟩) n cap) (xs.set i.toNat x):=by
 obtain ⟨rfl,_⟩:=R_reads' h;exact (R_put h i x).1
end
end Kd
section
variable {P:Program} {ops:Array Oper} {rest:List Oper} {o:Oper} {a:Act} {Q:Exit->Act->World->Prop}
theorem y1l {W w1:World} (hgd:o.guard=none) {t:TypeId} {p:Tmp} {v:Operand} (_ho:o.op=.store t (.tmp p) v) (hN:o.dst=none)
  (hrun:(execOp a.eval o).run P W=.ok .skip w1) (h:∀ w',w'=w1->wpList P ops Q rest a w'):wpList P ops Q (o :: rest) a W:=by
 refine wpList_plain hgd fun K hK=>?_
 unfold Oper.wp;rw [hrun];show K (a.put o.dst undef) w1;rw [hN];exact hK _ _ (h _ rfl)
end
namespace Kd
section
variable {α:Type} {enc:α->Value} {h1:∀ x,(enc x).oneCell'=true} {e base g n cap:Nat} {ok:Nat->Prop} {W:World} {xs:List α}
theorem R_putg (h:(scalar enc h1).R e W base ok (.slice (some ⟨g,0,none⟩) n cap) xs) (i:Int) (x:α):(scalar enc h1).R e (W.setCell ⟨g,i.toNat,none⟩ (enc x)) base ok (.slice (some ⟨g,0,none⟩) n cap) (xs.set i.toNat x)∧W.grownBy (W.setCell ⟨g,i.toNat,none⟩ (enc x)) (some g):=by
 obtain ⟨rfl,_⟩:=R_reads' h;exact R_put h i x
end
end Kd
section
variable {P:Program} {ops:Array Oper} {rest:List Oper} {o:Oper} {a:Act} {Q:Exit->Act->World->Prop} {W:World}
theorem y0n {N:Tmp} (_hN:o.dst=some N) (h:wpList P ops Q (o :: rest) a W):wpList P ops Q (o :: rest) a W:=h
theorem y20 {t:TypeId} {p:Tmp} {v:Operand} (_ho:o.op=.store t (.tmp p) v) (h:wpList P ops Q (o :: rest) a W):wpList P ops Q (o :: rest) a W:=h
end
section
variable {P:Program} {ops:Array Oper} {o:Oper} {a:Act} {Q:Exit->Act->World->Prop} {Kc:Act->World->Prop}
namespace Kd
variable {α:Type}
theorem R_append_rows_step (d:Kd α) {Rr:α->List Value->Prop} {w0 W:World} (base:Nat) (hw:Region.wanted o (yielded ops a.tmps)=true) (s x:Operand) (t e:TypeId) (z:Value) (bytes:Nat)
  (ho:o.op=.call { callee:=.builtin .append,args:=#[s,x],argTypes:=#[t,t] })
  (ht:P.underlying t=some (.slice e)) (hinfo:(P.info? e).map (fun i=>(i.zero,i.size,i.bytes))=some (some z,d.sz,bytes)) (hz:z.cells.size=d.sz) (hs0:0<d.sz) (hb0:0<bytes)
  (v:Value) (xs ys:List α) (A:Option Addr) (m c:Nat) (ok okp:Nat->Prop) (hs:a.eval s=v) (hx:a.eval x=.slice A m c)
  (HO:d.R e W base ok v xs) (HR:ReadsRow Rr d.sz W A m ys) (hKM:∀ x cs,Rr x cs->d.M W base okp x cs) (hokp:∀ k,okp k->ok k∧some k≠v.ownBlock) (hfresh:∀ k,W.heap.size≤k->ok k)
  (HB:Below base w0 W) (hbase:base≤W.heap.size) (hl:(xs.length+m) * bytes≤140737488355328)
  (h:∀ v1 w1,d.R e w1 base ok v1 (xs ++ ys)->Below base w0 w1->W.grownBy w1 v.ownBlock->(v1.ownBlock=v.ownBlock∨∃ b,v1.ownBlock=some b∧W.heap.size≤b)->Kc (a.put o.dst v1) w1) :
  if Region.wanted o (yielded ops a.tmps)=true then Oper.wp P o a W Kc Q else Kc (a.put o.dst undef) W:=by
 obtain ⟨i0,hi,hzz⟩:=Option.map_eq_some_iff.1 hinfo;simp only [Prod.mk.injEq] at hzz;obtain ⟨hz0,hz1,hz2⟩:=hzz;have hm:ys.length=m:=HR.1;have hlen:xs.length+m≤140737488355328:=Nat.le_trans (Nat.le_mul_of_pos_right _ hb0) hl;obtain ⟨hok,inner,hown,hr⟩:=HO;have hrun:∃ v1 w1,(Builtin.append_ #[t,t] o.type #[v,.slice A m c]).run P W=.ok v1 w1∧d.R e w1 base ok v1 (xs ++ ys)∧W.grownBy w1 v.ownBlock∧(v1.ownBlock=v.ownBlock∨∃ b,v1.ownBlock=some b∧W.heap.size≤b):=by
  rcases A with _|ad
  ·have h0:m=0:=by
    rcases Nat.eq_zero_or_pos m with h0|h0
    ·exact h0
    ·obtain ⟨ad,h,_⟩:=HR.2.2 h0
     cases h
   subst h0;obtain rfl:ys=[]:=List.eq_nil_of_length_eq_zero hm;refine ⟨v,W,?_,by rw [List.append_nil];exact ⟨hok,inner,hown,hr⟩,World.grownBy.refl W _,.inl rfl⟩;rcases hown.2 with ⟨rfl,hn⟩|⟨g,cap,cur,rfl,_,_,hnc,_⟩
   ·simp [Builtin.append_,run_underlying ht,sizeOf,typeInfo,hi,Builtin.lenOf,Builtin.firstCells]
   ·simp [Builtin.append_,run_underlying ht,sizeOf,typeInfo,hi,Builtin.lenOf,Builtin.firstCells,hnc,storeCells]
  ·obtain ⟨news,hnr,hnc⟩:=ReadsRow.inner_ HR
   have hnM:Reps (d.M W base okp) d.sz ys news:=hnr.imp_ (fun p c hp=>hKM p c hp);have hone:∀ u ∈ news,u.oneCell'=true:=by
    intro u hu;obtain ⟨q,hq,rfl⟩:=List.mem_iff_getElem.1 hu;have hql:q / d.sz<ys.length:=by
     rw [Nat.div_lt_iff_lt_mul hs0];rw [← hnM.1];exact hq
    have hc:=hnM.2 (q / d.sz) _ (List.getElem?_eq_getElem hql);refine d.K_one (d.K_of_M hc) _ ?_;rw [List.mem_iff_getElem?];refine ⟨q % d.sz,?_⟩;rw [List.getElem?_take,if_pos (Nat.mod_lt _ hs0),List.getElem?_drop,Nat.mul_comm,Nat.div_add_mod,List.getElem?_eq_getElem hq]
   obtain ⟨v1,w1,hrun,h2,hg,_,hat⟩:=run_append_own_at (P:=P) W base t o.type e i0 z d.sz bytes ht hi hz0 hz1 hz2 hz hs0 v xs.length inner hown ad m c news (by rw [hnM.1,hm]) hnc hone (by simp only [maxLen];omega) hl hbase;have hat':v1.ownBlock=v.ownBlock∨∃ b,v1.ownBlock=some b∧W.heap.size≤b:=by
    rcases hat with hat|hat
    ·exact .inl hat
    ·exact .inr ⟨_,hat,zLe _⟩
   have hne:∀ k,some k≠v.ownBlock->k<W.heap.size->some k≠v1.ownBlock:=by
    intro k hk hlt;rcases hat' with hat|⟨b,hb,hle⟩
    ·rw [hat];exact hk
    ·rw [hb]
     intro he;injection he with he
     omega
   have step:∀ {q:α} {c:List Value} {o:Nat->Prop},d.M W base o q c->(∀ k,o k->ok k∧some k≠v.ownBlock)->d.M w1 base (fun k=>ok k∧some k≠v1.ownBlock) q c:=by
    intro q c o hq ho;have h1:=d.M_move (w1:=w1) (fun k hk=>hg.block k hk.2.2.1 (ho k hk.1).2) (d.M_bound hq);exact d.M_mono (fun k hk=>⟨(ho k hk.1).1,hne k (ho k hk.1).2 hk.2.2.1⟩) h1
   refine ⟨v1,w1,hrun,⟨fun k hk=>?_,inner ++ news,by rw [List.length_append,hm];exact h2,y5q (hr.imp_ (fun _ _ hq=>step hq (fun _ hk=>hk))) (hnM.imp_ (fun _ _ hq=>step hq hokp))⟩,hg,hat'⟩;rcases hat' with hat|⟨b,hb,hle⟩
   ·exact hok k (hat ▸ hk)
   ·rw [hb] at hk
    injection hk with hk
    exact hfresh k (by omega)
 obtain ⟨v1,w1,hr1,h1,hg,hat⟩:=hrun;rw [if_pos hw];unfold Oper.wp execOp;simp only [ho,resolve,invoke,builtin,Sem.run_bind,Sem.run_pure,Result.andThen_ok,List.map_toArray,List.map_cons,List.map_nil,hs,hx,hr1];exact h v1 w1 h1 (HB.grown hg hbase (y3g hown)) hg hat
end Kd
end
namespace Kd
end Kd
end Go.Proofs.Yw.Wd
namespace Go.Proofs.Yw.La
section
variable {P:Program} {ops:Array Oper} {Q:Exit->Act->World->Prop} {md:Region.Mode} {S:World->Prop} {ds:List Nat}
def Region.reachB (md:Region.Mode) (ops:Array Oper) (i:Nat):Nat->Nat->Bool
 |0,_=>false
 |fuel+1,d=>match ops[d]? with
  |some o=>o.after.any fun e=>Region.binds md e && (e.on == i || Region.reachB md ops i fuel e.on)
  |none=>false
def Region.closedB (md:Region.Mode) (ops:Array Oper) (listed:Array Bool):Bool :=
 (List.range ops.size).all fun j=>!listed.getD j false || match ops[j]? with
  |some o=>o.after.all fun e=>!Region.binds md e || listed.getD e.on false
  |none=>true
def Region.lastB (md:Region.Mode) (ops:Array Oper) (listed:Array Bool) (ds:List Nat) (i:Nat):Bool :=
 ds.all fun d=>listed.getD d true || Region.reachB md ops i ops.size d
def ListedClosed (md:Region.Mode) (ops:Array Oper) (listed:Array Bool):Prop :=
 ∀ j oj,ops[j]?=some oj->listed.getD j false=true->∀ e ∈ oj.after,Region.binds md e=true->listed.getD e.on false=true
theorem Region.closedB_spec {listed:Array Bool} (h:Region.closedB md ops listed=true):ListedClosed md ops listed:=by
 intro j oj hj hl e he hb;have hlt:j<ops.size:=(zGe hj).1;have h1:=List.all_eq_true.1 h j (List.mem_range.2 hlt);simp only [hl,hj,Bool.not_true,Bool.false_or] at h1;have h2:=Array.all_eq_true_iff_forall_mem.1 h1 e he;simpa [hb] using h2
theorem ListedClosed.set {listed:Array Bool} {i:Nat} (h:ListedClosed md ops listed) (hi:i ∈ Region.ready md ops listed):ListedClosed md ops (listed.setIfInBounds i true):=by
 obtain ⟨_,oi,hoi,hall⟩:=mem_ready.1 hi;intro j oj hj hl e he hb
 by_cases hij:i=j
 ·subst hij
  have:oj=oi:=zSi (hj.symm.trans hoi);subst this;exact getD_set_true (hall e he hb)
 ·rw [getD_set_ne false hij] at hl
  exact getD_set_true (h j oj hj hl e he hb)
theorem Region.reach_listed {listed:Array Bool} {i:Nat} (hc:ListedClosed md ops listed):∀ (fuel d:Nat),Region.reachB md ops i fuel d=true->listed.getD d false=true->listed.getD i false=true
 |0,_,h,_=>by simp [Region.reachB] at h
 |fuel+1,d,h,hl=>by
  unfold Region.reachB at h;cases ho:ops[d]? with
  |none=>rw [ho] at h;simp at h
  |some o =>
   rw [ho] at h;obtain ⟨e,he,h1⟩:=Array.any_eq_true'.1 h;simp only [Bool.and_eq_true,Bool.or_eq_true,beq_iff_eq] at h1;have hle:=hc d o ho hl e he h1.1;rcases h1.2 with h2|h2
   ·rw [← h2];exact hle
   ·exact Region.reach_listed hc fuel e.on h2 hle
theorem Region.reach_not_ready {listed:Array Bool} {i d fuel:Nat} (hc:ListedClosed md ops listed) (hr:Region.reachB md ops i fuel d=true) (hun:listed.getD i true=false):d ∉ Region.ready md ops listed:=by
 intro hd;obtain ⟨_,o,ho,hall⟩:=mem_ready.1 hd;have hi:listed.getD i false=true:=by
  cases fuel with
  |zero=>simp [Region.reachB] at hr
  |succ n =>
   unfold Region.reachB at hr;rw [ho] at hr;obtain ⟨e,he,h1⟩:=Array.any_eq_true'.1 hr;simp only [Bool.and_eq_true,Bool.or_eq_true,beq_iff_eq] at h1;have hle:=hall e he h1.1;rcases h1.2 with h2|h2
   ·rw [← h2];exact hle
   ·exact Region.reach_listed hc n e.on h2 hle
 rcases Nat.lt_or_ge i listed.size with h'|h'
 ·simp [h'] at hun hi
  rw [hun] at hi;cases hi
 ·simp [Array.getElem?_eq_none h'] at hun
def y0j (P:Program) (md:Region.Mode) (ops:Array Oper) (Q:Exit->Act->World->Prop) (S:World->Prop) (ds:List Nat):Nat->Array Bool->Act->World->Prop
 |0,listed,a,w=>Region.ready md ops listed=[]∧Q .normal a w
 |fuel+1,listed,a,w =>
  (Region.ready md ops listed=[]->Q .normal a w) ∧
  ∀ i ∈ Region.ready md ops listed,wpOp P ops Q i (fun a' w'=>(i ∉ ds->S w->S w')∧y0j P md ops Q S ds fuel (listed.setIfInBounds i true) a' w') a w
theorem y3x:∀ (fuel:Nat) (listed:Array Bool) (a:Act) (w:World),y0j P md ops Q S ds fuel listed a w->wpAny P md ops Q fuel listed a w
 |0,_,_,_,h=>h
 |fuel+1,_,_,_,h=>⟨h.1,fun i hi=>wpOp_mono (fun a' w' h'=>y3x fuel _ a' w' h'.2) (h.2 i hi)⟩
theorem y54 {i:Nat} {oi:Oper} {v:Value} (hi:ops[i]?=some oi) (hsel:∀ (j:Nat) (o:Oper) cs b,ops[j]?=some o->o.op≠.select cs b)
  (hQ:∀ c a w,Q (.panic c) (a.put oi.dst v) w->Q (.panic c) a w) (n:Nat) :
  ∀ (fuel:Nat) (listed:Array Bool) (a:Act) (w:World),
   (∀ j oj,ops[j]?=some oj->j≠i->listed.getD j true=false->(∀ e ∈ oj.after,Region.binds md e=true->e.on≠i)->oi.apart ops oj=true) →
   ListedClosed md ops listed->(∀ d ∈ ds,listed.getD d true=false->Region.reachB md ops i n d=true) →
   i ∈ Region.ready md ops listed->YieldsIf P ops S oi v a->S w →
   y0j P md ops Q S ds fuel (listed.setIfInBounds i true) (a.put oi.dst v) w->y0j P md ops Q S ds (fuel+1) listed a w:=by
 intro fuel
 induction fuel with
 |zero =>
  intro listed a w _ _ _ hr hy hS H;refine ⟨fun h=>(by rw [h] at hr;cases hr),fun j hj=>?_⟩
  by_cases hji:j=i
  ·subst hji;exact hy.wpOp hi hS ⟨fun _ h=>h,H⟩
  ·have:=ready_mono hj hji
   rw [H.1] at this;cases this
 |succ fuel ih =>
  intro listed a w hfree hc hd hr hy hS H;refine ⟨fun h=>(by rw [h] at hr;cases hr),fun j hj=>?_⟩
  by_cases hji:j=i
  ·subst hji;exact hy.wpOp hi hS ⟨fun _ h=>h,H⟩
  ·have h1:=H.2 j (ready_mono hj hji)
   obtain ⟨hjun,oj,hoj,hall⟩:=mem_ready.1 hj;have hiun:=(mem_ready.1 hr).1;have hnot:∀ e ∈ oj.after,Region.binds md e=true->e.on≠i:=fun e he hb heq=>by
    have h1:=hall e he hb;rw [heq] at h1;rcases Nat.lt_or_ge i listed.size with h'|h'
    ·simp [h'] at hiun h1;rw [hiun] at h1;cases h1
    ·simp [Array.getElem?_eq_none h'] at h1
   have hjd:j ∉ ds:=fun hm=>Region.reach_not_ready hc (hd j hm hjun) hiun hj
   have h2:=wpOp_putIf hoj (hfree j oj hoj hji hjun hnot) (fun cs b=>hsel i oi cs b hi) (fun cs b=>hsel j oj cs b hoj) hQ hy h1;have hfree':∀ k ok,ops[k]?=some ok->k≠i->(listed.setIfInBounds j true).getD k true=false →
     (∀ e ∈ ok.after,Region.binds md e=true->e.on≠i)->oi.apart ops ok=true:=fun k ok hk hki hun hno=>by
    refine hfree k ok hk hki ?_ hno
    by_cases hjk:j=k
    ·subst hjk;exact hjun
    ·rw [getD_set_ne true hjk] at hun;exact hun
   have hd':∀ d ∈ ds,(listed.setIfInBounds j true).getD d true=false->Region.reachB md ops i n d=true:=fun d hm hun=>by
    refine hd d hm ?_
    by_cases hjk:j=d
    ·subst hjk;exact hjun
    ·rw [getD_set_ne true hjk] at hun;exact hun
   refine wpOp_mono (fun a' w' h3=>⟨h3.2.1,ih (listed.setIfInBounds j true) a' w' hfree' (hc.set hj) hd' (ready_mono hr (Ne.symm hji)) h3.1 (h3.2.1 hjd hS) ?_⟩) h2;rw [Array.setIfInBounds_comm _ _ hji];exact h3.2.2
theorem y75 {i:Nat} {oi:Oper} {v:Value} (hi:ops[i]?=some oi) (hsel:∀ (j:Nat) (o:Oper) cs b,ops[j]?=some o->o.op≠.select cs b)
  (hQ:∀ c a w,Q (.panic c) (a.put oi.dst v) w->Q (.panic c) a w) :
  ∀ (fuel:Nat) (listed:Array Bool) (a:Act) (w:World),
   (∀ j oj,ops[j]?=some oj->j≠i->listed.getD j true=false->(∀ e ∈ oj.after,Region.binds md e=true->e.on≠i)->oi.apart ops oj=true) →
   i ∈ Region.ready md ops listed->Yields P ops oi v a →
   y0j P md ops Q S ds fuel (listed.setIfInBounds i true) (a.put oi.dst v) w->y0j P md ops Q S ds (fuel+1) listed a w:=by
 intro fuel
 induction fuel with
 |zero =>
  intro listed a w _ hr hy H;refine ⟨fun h=>(by rw [h] at hr;cases hr),fun j hj=>?_⟩
  by_cases hji:j=i
  ·subst hji;exact (hy.yieldsIf (S:=fun _=>True)).wpOp hi trivial ⟨fun _ h=>h,H⟩
  ·have:=ready_mono hj hji
   rw [H.1] at this;cases this
 |succ fuel ih =>
  intro listed a w hfree hr hy H;refine ⟨fun h=>(by rw [h] at hr;cases hr),fun j hj=>?_⟩
  by_cases hji:j=i
  ·subst hji;exact (hy.yieldsIf (S:=fun _=>True)).wpOp hi trivial ⟨fun _ h=>h,H⟩
  ·have h1:=H.2 j (ready_mono hj hji)
   obtain ⟨hjun,oj,hoj,hall⟩:=mem_ready.1 hj;have hiun:=(mem_ready.1 hr).1;have hnot:∀ e ∈ oj.after,Region.binds md e=true->e.on≠i:=fun e he hb heq=>by
    have h1:=hall e he hb;rw [heq] at h1;rcases Nat.lt_or_ge i listed.size with h'|h'
    ·simp [h'] at hiun h1;rw [hiun] at h1;cases h1
    ·simp [Array.getElem?_eq_none h'] at h1
   have h2:=wpOp_put hoj (hfree j oj hoj hji hjun hnot) (fun cs b=>hsel i oi cs b hi) (fun cs b=>hsel j oj cs b hoj) hQ hy h1;have hfree':∀ k ok,ops[k]?=some ok->k≠i->(listed.setIfInBounds j true).getD k true=false →
     (∀ e ∈ ok.after,Region.binds md e=true->e.on≠i)->oi.apart ops ok=true:=fun k ok hk hki hun hno=>by
    refine hfree k ok hk hki ?_ hno
    by_cases hjk:j=k
    ·subst hjk;exact hjun
    ·rw [getD_set_ne true hjk] at hun;exact hun
   refine wpOp_mono (fun a' w' h3=>⟨h3.2.1,ih (listed.setIfInBounds j true) a' w' hfree' (ready_mono hr (Ne.symm hji)) h3.1 ?_⟩) h2;rw [Array.setIfInBounds_comm _ _ hji];exact h3.2.2
theorem y6f {i:Nat} {oi:Oper} {v:Value} {fuel:Nat} {listed:Array Bool} {a:Act} {w:World} (hi:ops[i]?=some oi)
  (hs:Region.noSelect ops=true) (hf:Region.free md ops listed i=true) (hr:(Region.ready md ops listed).contains i=true)
  (hc:Region.closedB md ops listed=true) (hl:Region.lastB md ops listed ds i=true)
  (hQ:∀ c a w,Q (.panic c) (a.put oi.dst v) w->Q (.panic c) a w) (hy:YieldsIf P ops S oi v a) (hS:S w)
  (h:y0j P md ops Q S ds fuel (listed.setIfInBounds i true) (a.put oi.dst v) w):y0j P md ops Q S ds (fuel+1) listed a w :=
 y54 hi (Region.noSelect_spec hs) hQ ops.size fuel listed a w (Region.free_spec hi hf) (Region.closedB_spec hc)
  (fun d hm hun=>by have:=List.all_eq_true.1 hl d hm;rw [hun] at this;simpa using this) (by simpa using hr) hy hS h
theorem y76 {rs:List Nat} {fuel:Nat} {listed:Array Bool} {a:Act} {w:World} (hr:Region.ready md ops listed=rs) (hne:rs≠[])
  (h:∀ i ∈ rs,wpOp P ops Q i (fun a' w'=>(i ∉ ds->S w->S w')∧y0j P md ops Q S ds fuel (listed.setIfInBounds i true) a' w') a w):y0j P md ops Q S ds (fuel+1) listed a w :=
 ⟨fun h0=>absurd (hr ▸ h0) hne,hr ▸ h⟩
theorem y6g {listed:Array Bool} {a:Act} {w:World} (hr:Region.ready md ops listed=[]) (h:Q .normal a w) :
  ∀ fuel,y0j P md ops Q S ds fuel listed a w
 |0=>⟨hr,h⟩
 |_+1=>⟨fun _=>h,by rw [hr];simp⟩
theorem y6e {id:Nat} {a:Act} {w:World} (hm:P.follows .mixedOrders=true)
  (h:y0j P .any ops Q S ds ops.size (Array.replicate ops.size false) a { w with drawn:=w.drawn+1 }):(Code.region id ops true).wp P Q a w :=
 wp_region_any hm (y3x _ _ _ _ h)
end
section
variable {P:Program} {ops:Array Oper} {Q:Exit->Act->World->Prop} {md:Region.Mode} {S:World->Prop} {ds:List Nat}
def AllReadyL (P:Program) (md:Region.Mode) (ops:Array Oper) (Q:Exit->Act->World->Prop) (S:World->Prop) (ds:List Nat) (fuel:Nat) (listed:Array Bool) (a:Act) (w:World) (rs:List Nat):Prop :=
 ∀ i ∈ rs,wpOp P ops Q i (fun a' w'=>(i ∉ ds->S w->S w')∧y0j P md ops Q S ds fuel (listed.setIfInBounds i true) a' w') a w
theorem AllReadyL.nil {fuel:Nat} {listed:Array Bool} {a:Act} {w:World}:AllReadyL P md ops Q S ds fuel listed a w []:=fun _ h=>by cases h
theorem AllReadyL.cons {fuel:Nat} {listed:Array Bool} {a:Act} {w:World} {i:Nat} {o:Oper} {rs:List Nat} (ho:ops[i]?=some o) (hd:i ∉ ds)
  (h:∀ K':Act->World->Prop,Shut (∀ a w,S w->(S w->y0j P md ops Q S ds fuel (listed.setIfInBounds i true) a w)->K' a w)->if Region.wanted o (yielded ops a.tmps)=true then Oper.wp P o a w K' Q else K' (a.put o.dst undef) w)
  (hs:AllReadyL P md ops Q S ds fuel listed a w rs):AllReadyL P md ops Q S ds fuel listed a w (i :: rs):=fun j hj=>by
 rcases List.mem_cons.1 hj with rfl|hj
 ·exact wpOp_step ho (fun K' hK=>h K' (fun a w hS hW=>hK a w ⟨fun _ _=>hS,hW hS⟩))
 ·exact hs j hj
theorem AllReadyL.cons_last {fuel:Nat} {listed:Array Bool} {a:Act} {w:World} {i:Nat} {o:Oper} {rs:List Nat} (ho:ops[i]?=some o) (hd:i ∈ ds)
  (h:∀ K':Act->World->Prop,Shut (∀ a w,y0j P md ops Q S ds fuel (listed.setIfInBounds i true) a w->K' a w)->if Region.wanted o (yielded ops a.tmps)=true then Oper.wp P o a w K' Q else K' (a.put o.dst undef) w)
  (hs:AllReadyL P md ops Q S ds fuel listed a w rs):AllReadyL P md ops Q S ds fuel listed a w (i :: rs):=fun j hj=>by
 rcases List.mem_cons.1 hj with rfl|hj
 ·exact wpOp_step ho (fun K' hK=>h K' (fun a w hW=>hK a w ⟨fun hn=>absurd hd hn,hW⟩))
 ·exact hs j hj
theorem y36 {rs:List Nat} {fuel:Nat} {listed:Array Bool} {a:Act} {w:World} (hr:Region.ready md ops listed=rs) (hne:rs≠[])
  (h:AllReadyL P md ops Q S ds fuel listed a w rs):y0j P md ops Q S ds (fuel+1) listed a w:=y76 hr hne h
theorem yam {id n:Nat} {a:Act} {w:World} (l:Array Bool) (hm:P.follows .mixedOrders=true) (hn:ops.size=n) (hl:Array.replicate n false=l) (hS:S w.drew)
  (h:S w.drew->y0j P .any ops Q S ds n l a w.drew):(Code.region id ops true).wp P Q a w:=by
 subst hn;subst hl;exact y6e hm (h hS)
def yce (md:Region.Mode) (ops:Array Oper) (ds:List Nat) (l l':Array Bool) (i:Nat):Bool :=
 Region.noSelect ops && Region.free md ops l i && (Region.ready md ops l).contains i && Region.closedB md ops l && Region.lastB md ops l ds i && (l.setIfInBounds i true == l')
theorem take_ {i:Nat} {N:Option Tmp} {oi:Oper} {v:Value} {fuel:Nat} {l:Array Bool} {a:Act} {w:World} (l':Array Bool) (hi:ops[i]?=some oi) (hN:oi.dst=N) (hc:yce md ops ds l l' i=true)
  (hQ:∀ c a w,Q (.panic c) (a.put oi.dst v) w->Q (.panic c) a w) (hy:YieldsIf P ops S oi v a) (hS:S w) {a':Act} (ha:a.put N v=a')
  (h:y0j P md ops Q S ds fuel l' a' w):y0j P md ops Q S ds (fuel+1) l a w:=by
 subst ha;subst hN;simp only [yce,Bool.and_eq_true,beq_iff_eq] at hc;obtain ⟨⟨⟨⟨⟨h1,h2⟩,h3⟩,h4⟩,h5⟩,h6⟩:=hc;subst h6;exact y6f hi h1 h2 h3 h4 h5 hQ hy hS h
def anyB (md:Region.Mode) (ops:Array Oper) (l l':Array Bool) (i:Nat):Bool :=
 Region.noSelect ops && Region.free md ops l i && (Region.ready md ops l).contains i && (l.setIfInBounds i true == l')
theorem y19 {i:Nat} {N:Option Tmp} {oi:Oper} {v:Value} {fuel:Nat} {l:Array Bool} {a:Act} {w:World} (l':Array Bool) (hi:ops[i]?=some oi) (hN:oi.dst=N) (hc:anyB md ops l l' i=true)
  (hQ:∀ c a w,Q (.panic c) (a.put oi.dst v) w->Q (.panic c) a w) (hy:Yields P ops oi v a) {a':Act} (ha:a.put N v=a')
  (h:y0j P md ops Q S ds fuel l' a' w):y0j P md ops Q S ds (fuel+1) l a w:=by
 subst ha;subst hN;simp only [anyB,Bool.and_eq_true,beq_iff_eq] at hc;obtain ⟨⟨⟨h1,h2⟩,h3⟩,h6⟩:=hc;subst h6;exact y75 hi (Region.noSelect_spec h1) hQ fuel l a w (Region.free_spec hi h2) (by simpa using h3) hy h
def y6t (md:Region.Mode) (ops:Array Oper) (l l':Array Bool) (i:Nat):Bool:=(Region.ready md ops l == [i]) && (l.setIfInBounds i true == l')
theorem one_ {i:Nat} {N:Option Tmp} {oi:Oper} {fuel:Nat} {l:Array Bool} {a:Act} {w:World} (l':Array Bool) (hi:ops[i]?=some oi) (hN:oi.dst=N) (hc:y6t md ops l l' i=true) (hd:i ∉ ds)
  (h:∀ K:Act->World->Prop,Shut (∀ a' w',S w'->(S w'->y0j P md ops Q S ds fuel l' a' w')->K a' w')->if Region.wanted oi (yielded ops a.tmps)=true then Oper.wp P oi a w K Q else K (a.put N undef) w) :
  y0j P md ops Q S ds (fuel+1) l a w:=by
 subst hN;simp only [y6t,Bool.and_eq_true,beq_iff_eq] at hc;obtain ⟨h1,h2⟩:=hc;subst h2;exact y36 h1 (by simp) (AllReadyL.cons hi hd (fun K hK=>h K hK) AllReadyL.nil)
theorem last_ {i:Nat} {N:Option Tmp} {oi:Oper} {fuel:Nat} {l:Array Bool} {a:Act} {w:World} (l':Array Bool) (hi:ops[i]?=some oi) (hN:oi.dst=N) (hc:y6t md ops l l' i=true) (hd:i ∈ ds)
  (h:∀ K:Act->World->Prop,Shut (∀ a' w',y0j P md ops Q S ds fuel l' a' w'->K a' w')->if Region.wanted oi (yielded ops a.tmps)=true then Oper.wp P oi a w K Q else K (a.put N undef) w) :
  y0j P md ops Q S ds (fuel+1) l a w:=by
 subst hN;simp only [y6t,Bool.and_eq_true,beq_iff_eq] at hc;obtain ⟨h1,h2⟩:=hc;subst h2;exact y36 h1 (by simp) (AllReadyL.cons_last hi hd (fun K hK=>h K hK) AllReadyL.nil)
theorem yj1 {l:Array Bool} {a:Act} {w:World} {n:Nat} (hr:(Region.ready md ops l == [])=true) (h:Q .normal a w):y0j P md ops Q S ds n l a w:=y6g (by simpa using hr) h n
theorem ybt {fuel:Nat} {l:Array Bool} {a a':Act} {w:World} (ha:a=a') (h:y0j P md ops Q S ds fuel l a' w):y0j P md ops Q S ds fuel l a w:=by
 subst ha;exact h
theorem call_ {oi:Oper} {N:Option Tmp} {a:Act} {w:World} {K:Act->World->Prop} (f:FuncId) (args:Array Value) (hw:Region.wanted oi (yielded ops a.tmps)=true) (hN:oi.dst=N) (hrun:(execOp a.eval oi).run P w=.ok (.enter f args) w)
  (h:Calls P f args w fun e w'=>∃ v,e=.returned v∧K (a.put N v) w'):if Region.wanted oi (yielded ops a.tmps)=true then Oper.wp P oi a w K Q else K (a.put N undef) w:=by
 rw [if_pos hw];subst hN;unfold Oper.wp;rw [hrun,Oper.upon_enter];refine h.mono fun e w'' hh=>?_
 obtain ⟨v,rfl,hk⟩:=hh;exact hk
theorem ydm {f:FuncId} {fn:Func} (hf:P.funcs[f]?=some fn) (hname:(fn.name == "runtime.NumGoroutine")=false) (hb:fn.body.isSome=true) (args:Array Value) (w:World):(callFunc f args).run P w=.ok (.enter f args) w:=by
 have h1:fn.name ≠ "runtime.NumGoroutine" := by simpa using hname
 obtain ⟨c,hc⟩:=Option.isSome_iff_exists.1 hb;simp [callFunc,hf,h1,hc]
theorem goes_ {oi:Oper} {N:Option Tmp} {a:Act} {w:World} {K:Act->World->Prop} {f:FuncId} {fn:Func} {az:Array Operand} {ts:Array TypeId} (hf:P.funcs[f]?=some fn) (hname:(fn.name == "runtime.NumGoroutine")=false) (hb:fn.body.isSome=true) (args:Array Value)
  (hw:Region.wanted oi (yielded ops a.tmps)=true) (hN:oi.dst=N) (hop:oi.op=.call { callee:=.value (.func f),args:=az,argTypes:=ts }) (hargs:az.map a.eval=args)
  (h:Calls P f args w fun e w'=>∃ v,e=.returned v∧K (a.put N v) w'):if Region.wanted oi (yielded ops a.tmps)=true then Oper.wp P oi a w K Q else K (a.put N undef) w:=by
 refine call_ f args hw hN ?_ h;have he:=ydm hf hname hb args w;unfold execOp;simp [hop,resolve,Deferred.ofValue,invoke,Act.eval,hargs,he]
theorem y12 {rest:List Oper} {oi:Oper} {a:Act} {w:World} (N:Option Tmp) (hd:oi.dst=N) (hg:oi.guard=none) {f:FuncId} {fn:Func} {az:Array Operand} {ts:Array TypeId} (hf:P.funcs[f]?=some fn) (hname:(fn.name == "runtime.NumGoroutine")=false) (hb:fn.body.isSome=true) (args:Array Value)
  (hop:oi.op=.call { callee:=.value (.func f),args:=az,argTypes:=ts }) (hargs:az.map a.eval=args)
  (h:Calls P f args w fun e w'=>∃ v,e=.returned v∧wpList P ops Q rest (a.put N v) w'):wpList P ops Q (oi :: rest) a w:=by
 refine wpList_plain hg fun K hK=>?_
 have he:=ydm hf hname hb args w;have hrun:(execOp a.eval oi).run P w=.ok (.enter f args) w:=by
  unfold execOp;simp [hop,resolve,Deferred.ofValue,invoke,Act.eval,hargs,he]
 unfold Oper.wp;rw [hrun,Oper.upon_enter];refine h.mono fun e w'' hh=>?_
 obtain ⟨v,rfl,hk⟩:=hh;subst hd;exact hK _ _ hk
theorem value_ {oi:Oper} {N:Option Tmp} {a:Act} {w w1:World} {v:Value} {K:Act->World->Prop} (hw:Region.wanted oi (yielded ops a.tmps)=true) (hN:oi.dst=N) (hrun:(execOp a.eval oi).run P w=.ok (.value v) w1)
  (h:K (a.put N v) w1):if Region.wanted oi (yielded ops a.tmps)=true then Oper.wp P oi a w K Q else K (a.put N undef) w:=by
 rw [if_pos hw];subst hN;unfold Oper.wp;rw [hrun];exact h
theorem skip_ {oi:Oper} {a:Act} {w w1:World} {K:Act->World->Prop} (hw:Region.wanted oi (yielded ops a.tmps)=true) (hN:oi.dst=none) (hrun:(execOp a.eval oi).run P w=.ok .skip w1)
  (h:K a w1):if Region.wanted oi (yielded ops a.tmps)=true then Oper.wp P oi a w K Q else K (a.put none undef) w:=by
 rw [if_pos hw];unfold Oper.wp;rw [hrun];show K (a.put oi.dst undef) w1;rw [hN];exact h
theorem y0o (n:Int):IntKind.i64.wrap n=Go.RowKit.wrap64 n:=by unfold Go.RowKit.wrap64;exact IntKind.wrap_i64 n
theorem y0s (n:Int):IntKind.i32.wrap n=Go.RowKit.wrap32 n:=by unfold Go.RowKit.wrap32;exact IntKind.wrap_i32 n
end
end Go.Proofs.Yw.La
namespace Go.Proofs.Yw.La
open Go.Proofs.Yw.Wd (As0)
def y4i (md:Region.Mode) (o:Oper):List Nat:=(o.after.toList.filter (fun e=>Region.binds md e)).map (fun e=>e.on)
def yaa (md:Region.Mode) (ops:Array Oper) (i:Nat) (oi:Oper):List Nat:=(List.range ops.size).filter fun j=>!(j == i) && match ops[j]? with
 |some oj=>!(oj.after.any (fun e=>Region.binds md e && e.on == i) || oi.apart ops oj)
 |none=>false
def rtab (md:Region.Mode) (ops:Array Oper):Bool × List (List Nat × List Nat):=(Region.noSelect ops,(List.range ops.size).map fun i=>match ops[i]? with
 |some o=>(y4i md o,yaa md ops i o)
 |none=>([],[]))
def y38 (T:List (List Nat × List Nat)) (l:List Bool) (i:Nat):Bool:=!l.getD i true && match T[i]? with
 |some r=>r.1.all (fun j=>l.getD j false)
 |none=>false
def y8v (T:List (List Nat × List Nat)) (l:List Bool):List Nat:=(List.range T.length).filter (y38 T l)
def ydk (T:List (List Nat × List Nat)) (l:List Bool) (i:Nat):Bool:=match T[i]? with
 |some r=>r.2.all (fun j=>l.getD j true)
 |none=>false
def y83 (T:List (List Nat × List Nat)) (l:List Bool):Bool:=(List.range T.length).all fun j=>!l.getD j false || match T[j]? with
 |some r=>r.1.all (fun k=>l.getD k false)
 |none=>true
def y6u (T:List (List Nat × List Nat)) (i:Nat):Nat->Nat->Bool
 |0,_=>false
 |fuel+1,d=>match T[d]? with
  |some r=>r.1.any fun j=>j == i || y6u T i fuel j
  |none=>false
def yis (T:List (List Nat × List Nat)) (l:List Bool) (ds:List Nat) (i:Nat):Bool:=ds.all fun d=>l.getD d true || y6u T i T.length d
section
variable {md:Region.Mode} {ops:Array Oper} {T:Bool × List (List Nat × List Nat)} {l l' li lj lk:Array Bool} {ds:List Nat} {i j k:Nat}
theorem gd (l:Array Bool) (j:Nat) (b:Bool):l.getD j b=l.toList.getD j b:=by simp [Array.getD_eq_getD_getElem?,List.getD_eq_getElem?_getD]
theorem y94 (o:Oper) (p:Nat->Bool):o.after.all (fun e=>!Region.binds md e || p e.on)=(y4i md o).all p:=by
 unfold y4i;rw [← Array.all_toList]
 induction o.after.toList with
 |nil=>rfl
 |cons e r ih =>
  rw [List.all_cons,ih,List.filter_cons];cases h:Region.binds md e<;>simp
theorem yd8 (o:Oper) (p:Nat->Bool):o.after.any (fun e=>Region.binds md e && p e.on)=(y4i md o).any p:=by
 unfold y4i;rw [← Array.any_toList]
 induction o.after.toList with
 |nil=>rfl
 |cons e r ih =>
  rw [List.any_cons,ih,List.filter_cons];cases h:Region.binds md e<;>simp
theorem y31:(rtab md ops).2.length=ops.size:=by simp [rtab]
theorem y42 {o:Oper} (h:ops[i]?=some o):(rtab md ops).2[i]?=some (y4i md o,yaa md ops i o):=by
 have hi:=(zGe h).1;unfold rtab;rw [List.getElem?_map,List.getElem?_range hi,Option.map_some,h]
theorem y43 (h:ops[i]?=none):(rtab md ops).2[i]?=none:=by
 have hi:ops.size≤i:=Array.getElem?_eq_none_iff.1 h;exact List.getElem?_eq_none (by rw [y31];exact hi)
theorem ybq:y38 (rtab md ops).2 l.toList i=(!l.getD i true && ((ops[i]?).map (·.after.all fun e=>!Region.binds md e || l.getD e.on false)).getD false):=by
 unfold y38;rw [gd];cases h:ops[i]? with
 |none=>rw [y43 h];rfl
 |some o =>
  rw [y42 h];simp only [Option.map_some,Option.getD_some];rw [← y94];simp only [gd]
theorem y7n:Region.ready md ops l=y8v (rtab md ops).2 l.toList:=by
 unfold Region.ready y8v;rw [y31];refine List.filter_congr (fun i _=>?_);rw [ybq]
theorem ydj:Region.free md ops l i=ydk (rtab md ops).2 l.toList i:=by
 unfold Region.free ydk;cases h:ops[i]? with
 |none=>rw [y43 h]
 |some oi =>
  rw [y42 h];simp only [yaa];rw [List.all_filter]
  congr 1
  funext j
  rw [gd];cases hj:ops[j]? with
  |none=>cases (j == i)<;>cases (l.toList.getD j true)<;>simp
  |some oj =>
   cases (j == i)<;>cases (l.toList.getD j true)<;>cases (oj.after.any (fun e=>Region.binds md e && e.on == i) || oi.apart ops oj)<;>simp_all
theorem ydo:Region.closedB md ops l=y83 (rtab md ops).2 l.toList:=by
 unfold Region.closedB y83;rw [y31]
 congr 1
 funext j
 rw [gd];cases h:ops[j]? with
 |none=>rw [y43 h]
 |some o =>
  rw [y42 h];simp only;rw [← y94];simp only [gd]
theorem yar:∀ (fuel d:Nat),Region.reachB md ops i fuel d=y6u (rtab md ops).2 i fuel d
 |0,_=>rfl
 |fuel+1,d=>by
  unfold Region.reachB y6u;cases h:ops[d]? with
  |none=>rw [y43 h]
  |some o =>
   rw [y42 h];simp only;rw [← yd8]
   congr 1
   funext e
   rw [yar fuel]
theorem last_eq:Region.lastB md ops l ds i=yis (rtab md ops).2 l.toList ds i:=by
 unfold Region.lastB yis;rw [y31]
 congr 1
 funext d
 rw [gd,yar]
theorem y60 (h:y38 T.2 l.toList i=true) (hT:rtab md ops=T):(Region.ready md ops l).contains i=true:=by
 subst hT;rw [y7n];unfold y8v;rw [List.contains_iff_mem,List.mem_filter,List.mem_range];refine ⟨?_,h⟩;unfold y38 at h;rw [Bool.and_eq_true] at h;cases hq:(rtab md ops).2[i]? with
 |none=>rw [hq] at h;simp at h
 |some r=>exact (List.getElem?_eq_some_iff.1 hq).1
theorem ycj (h:(l.toList.set i true == l'.toList)=true):(l.setIfInBounds i true == l')=true:=by
 rw [beq_iff_eq] at h ⊢;apply Array.ext';rw [Array.toList_setIfInBounds];exact h
def anyT (T:Bool × List (List Nat × List Nat)) (l l':List Bool) (i:Nat):Bool:=T.1 && ydk T.2 l i && y38 T.2 l i && (l.set i true == l')
theorem y0r (hT:rtab md ops=T) (h:anyT T l.toList l'.toList i=true):anyB md ops l l' i=true:=by
 simp only [anyT,Bool.and_eq_true] at h;obtain ⟨⟨⟨h1,h2⟩,h3⟩,h4⟩:=h;have h5:=y60 h3 hT;have h6:=ycj h4;subst hT;simp only [anyB,Bool.and_eq_true];exact ⟨⟨⟨h1,by rw [ydj];exact h2⟩,h5⟩,h6⟩
def takeT (T:Bool × List (List Nat × List Nat)) (ds:List Nat) (l l':List Bool) (i:Nat):Bool:=T.1 && ydk T.2 l i && y38 T.2 l i && y83 T.2 l && yis T.2 l ds i && (l.set i true == l')
theorem take_of (hT:rtab md ops=T) (h:takeT T ds l.toList l'.toList i=true):yce md ops ds l l' i=true:=by
 simp only [takeT,Bool.and_eq_true] at h;obtain ⟨⟨⟨⟨⟨h1,h2⟩,h3⟩,h4⟩,h5⟩,h6⟩:=h;have h7:=y60 h3 hT;have h8:=ycj h6;subst hT;simp only [yce,Bool.and_eq_true];exact ⟨⟨⟨⟨⟨h1,by rw [ydj];exact h2⟩,h7⟩,by rw [ydo];exact h4⟩,by rw [last_eq];exact h5⟩,h8⟩
theorem y4w (hT:rtab md ops=T) (h:(y8v T.2 l.toList == [i] && l.toList.set i true == l'.toList)=true):y6t md ops l l' i=true:=by
 simp only [Bool.and_eq_true] at h;obtain ⟨h1,h2⟩:=h;subst hT;simp only [y6t,Bool.and_eq_true];exact ⟨by rw [y7n];exact h1,ycj h2⟩
theorem y82 (hT:rtab md ops=T) (h:(y8v T.2 l.toList == [])=true):(Region.ready md ops l == [])=true:=by
 subst hT;rw [y7n];exact h
def upM (B:List Nat) (d:Nat):List Nat->Nat
 |[]=>0
 |n :: r=>(2 ^ n ||| (if n<d then B.getD n 0 else 0)) ||| upM B d r
def y37 (T:List (List Nat × List Nat)) (B:List Nat):Bool:=(List.range T.length).all fun d=>match T[d]? with
 |some r=>(B.getD d 0 ||| upM B d r.1) == upM B d r.1
 |none=>false
theorem yca {B:List Nat} {d i:Nat}:∀ {ns:List Nat},(upM B d ns).testBit i=true->∃ n ∈ ns,n=i∨(n<d∧(B.getD n 0).testBit i=true)
 |[],h=>by simp [upM] at h
 |n :: r,h=>by
  unfold upM at h;rw [Nat.testBit_or,Nat.testBit_or,Bool.or_eq_true,Bool.or_eq_true] at h;rcases h with (h|h)|h
  ·rw [Nat.testBit_two_pow] at h
   exact ⟨n,List.mem_cons_self,.inl (by simpa using h)⟩
  ·by_cases hn:n<d
   ·rw [if_pos hn] at h
    exact ⟨n,List.mem_cons_self,.inr ⟨hn,h⟩⟩
   ·rw [if_neg hn] at h
    simp at h
  ·obtain ⟨m,hm,h2⟩:=yca h
   exact ⟨m,List.mem_cons_of_mem _ hm,h2⟩
theorem y8w {T:List (List Nat × List Nat)} {B:List Nat} (hB:y37 T B=true):∀ (fuel d:Nat),d<fuel->d<T.length->(B.getD d 0).testBit i=true->y6u T i fuel d=true
 |0,d,h,_,_=>by omega
 |fuel+1,d,h,hd,hb=>by
  have h1:=List.all_eq_true.1 hB d (List.mem_range.2 hd);cases hr:T[d]? with
  |none=>rw [hr] at h1;simp at h1
  |some r =>
   rw [hr] at h1;simp only [beq_iff_eq] at h1;have h2:(upM B d r.1).testBit i=true:=by rw [← h1,Nat.testBit_or,hb,Bool.true_or]
   obtain ⟨n,hn,h3⟩:=yca h2;unfold y6u;rw [hr];simp only;rw [List.any_eq_true];refine ⟨n,hn,?_⟩;rcases h3 with rfl|⟨h4,h5⟩
   ·simp
   ·rw [y8w hB fuel n (by omega) (by omega) h5,Bool.or_true]
def lastW (T:List (List Nat × List Nat)) (B:List Nat) (l:List Bool) (ds:List Nat) (i:Nat):Bool:=ds.all fun d=>l.getD d true || (decide (d<T.length) && (B.getD d 0).testBit i)
def takeW (T:Bool × List (List Nat × List Nat)) (B:List Nat) (ds:List Nat) (l l':List Bool) (i:Nat):Bool:=T.1 && ydk T.2 l i && y38 T.2 l i && y83 T.2 l && lastW T.2 B l ds i && (l.set i true == l')
theorem y2z {B:List Nat} (hT:rtab md ops=T) (hB:y37 T.2 B=true) (h:takeW T B ds l.toList l'.toList i=true):yce md ops ds l l' i=true:=by
 refine take_of hT ?_;simp only [takeW,takeT,Bool.and_eq_true] at h ⊢;obtain ⟨⟨⟨⟨⟨h1,h2⟩,h3⟩,h4⟩,h5⟩,h6⟩:=h;refine ⟨⟨⟨⟨⟨h1,h2⟩,h3⟩,h4⟩,?_⟩,h6⟩;unfold lastW at h5;unfold yis;rw [List.all_eq_true] at h5 ⊢;intro d hd;have h7:=h5 d hd;rw [Bool.or_eq_true,Bool.and_eq_true,decide_eq_true_eq] at h7;rcases h7 with h7|⟨h8,h9⟩
 ·rw [h7,Bool.true_or]
 ·rw [y8w hB _ d h8 h8 h9,Bool.or_true]
theorem y3y {P:Program} {Q:Exit->Act->World->Prop} {S:World->Prop} {n:Nat} {a:Act} {w:World} {B:List Nat} (hT:rtab md ops=T) (hB:y37 T.2 B=true) (h:As0 (rtab md ops=T)->As0 (y37 T.2 B=true)->y0j P md ops Q S ds n l a w):y0j P md ops Q S ds n l a w:=h ⟨hT⟩ ⟨hB⟩
end
def y6i:Code->Nat->Option (Array Oper)
 |.region id ops _,k=>if id == k then some ops else none
 |.seq a b,k=>match y6i a k with
  |some o=>some o
  |none=>y6i b k
 |.cond _ a b,k=>match y6i a k with
  |some o=>some o
  |none=>y6i b k
 |.block _ c,k=>y6i c k
 |.loop c,k=>y6i c k
 |.scope c,k=>y6i c k
 |.rangeFunc _ _ a b,k=>match y6i a k with
  |some o=>some o
  |none=>y6i b k
 |_,_=>none
def yh9 (f:Func) (k:Nat):Array Oper:=((f.body.bind fun c=>y6i c k)).getD #[]
end Go.Proofs.Yw.La
namespace Go.Proofs.Yw.Wd
open Go.RowKit
section
namespace Kd
def tag {α:Type} (f:Nat->Nat) (d:Kd α):Kd (α × Nat) where
 sz:=d.sz
 E:=d.E
 K:=fun w x cs=>d.K w x.1 cs
 M:=fun w base ok x cs=>d.M w base (fun k=>ok k∧f k=x.2) x.1 cs
 K_len:=fun h=>d.K_len h
 K_one:=fun h=>d.K_one h
 K_below:=fun hb h=>d.K_below hb h
 K_of_M:=fun h=>d.K_of_M h
 M_mono:=fun hok h=>d.M_mono (fun k hk=>⟨hok k hk.1,hk.2⟩) h
 M_bound:=fun h=>d.M_mono (fun _ hk=>⟨⟨hk.1.1,hk.2⟩,hk.1.2⟩) (d.M_bound h)
 M_move:=fun hm h=>d.M_move (fun k hk=>hm k hk.1) h
 M_lower:=fun hb h=>d.M_lower hb h
def bare {α:Type} (d:Kd α):Kd α where
 sz:=d.sz
 E:=d.E
 K:=d.K
 M:=fun w base _ x cs=>d.M w base (fun _=>False) x cs
 K_len:=fun h=>d.K_len h
 K_one:=fun h=>d.K_one h
 K_below:=fun hb h=>d.K_below hb h
 K_of_M:=fun h=>d.K_of_M h
 M_mono:=fun _ h=>h
 M_bound:=fun h=>h
 M_move:=fun _ h=>d.M_move (fun _ hk=>hk.elim) h
 M_lower:=fun hb h=>d.M_lower hb h
def raw (sz:Nat):Kd (List Value) where
 sz:=sz
 E:=[]
 K:=fun _ x cs=>cs=x∧cs.length=sz∧∀ u ∈ cs,u.oneCell'=true
 M:=fun _ _ _ x cs=>cs=x∧cs.length=sz∧∀ u ∈ cs,u.oneCell'=true
 K_len:=fun h=>h.2.1
 K_one:=fun h=>h.2.2
 K_below:=fun _ h=>h
 K_of_M:=fun h=>h
 M_mono:=fun _ h=>h
 M_bound:=fun h=>h
 M_move:=fun _ h=>h
 M_lower:=fun _ h=>h
def S {α:Type} (d:Kd α) (e:Nat) (w:World) (base:Nat) (ok:Nat->Prop) (v:Value) (xs:List α):Prop:=∃ f,(tag f d).R e w base ok v xs.zipIdx
section
variable {α β:Type} {d:Kd α} {d':Kd β} {e e':Nat} {w w1 W:World} {base b:Nat} {ok ok' okv oku:Nat->Prop} {u v:Value} {xs:List α} {ys:List β}
theorem y4o {xs:List α} {j:Nat} {p:α} (h:xs[j]?=some p):xs.zipIdx[j]?=some (p,j):=by rw [List.getElem?_zipIdx,h,Nat.zero_add];rfl
theorem S_R (h:S d e w base ok v xs):d.R e w base ok v xs:=by
 obtain ⟨f,h0,inner,ho,hr⟩:=h;rw [List.length_zipIdx] at ho;exact ⟨h0,inner,ho,by have:=hr.1;rw [List.length_zipIdx] at this;exact this,fun j p hj=>d.M_mono (fun _ hk=>hk.1) (hr.2 j (p,j) (y4o hj))⟩
theorem R_head {ad:Addr} {n cap:Nat} (h:d.R e w base ok (.slice (some ad) n cap) xs):∃ g,ad=⟨g,0,none⟩:=by
 obtain ⟨_,inner,ho,hr⟩:=h;rcases ho.2 with ⟨hv,_⟩|⟨g,cap',cur,hv,_⟩
 ·cases hv
 ·injection hv with ha _ _
  injection ha with ha
  exact ⟨g,ha⟩
theorem R_getA {ad:Addr} {n cap:Nat} (h:d.R e W base ok (.slice (some ad) n cap) xs) (z:α) (i:Int) (h0:0≤i) (h1:i<n) :
  ∃ c,c.length=d.sz∧d.M W base (fun k=>ok k∧some k≠(Value.slice (some ad) n cap).ownBlock) (xs.getD i.toNat z) c∧∀ j u,c[j]?=some u->W.cell? (ad.add (i.toNat * d.sz+j))=some u:=by
 obtain ⟨g,rfl⟩:=R_head h;obtain ⟨c,hcl,hM,hcc,_⟩:=ygr h z i h0 h1;refine ⟨c,hcl,d.M_mono (fun k hk=>⟨hk.1,fun he=>hk.2 (by simpa [Value.ownBlock] using he)⟩) hM,fun j u hu=>?_⟩;rw [ygp,Nat.zero_add];exact hcc j u hu
theorem ygq (hE:d.E=[]) (h:d.R e w base ok v xs):d.R e w base (fun k=>some k=v.ownBlock) v xs:=by
 obtain ⟨h0,inner,ho,hr⟩:=h;refine ⟨fun k hk=>hk.symm,inner,ho,hr.imp_ (fun p c hp=>d.M_mono (fun k hk=>?_) (d.M_bound hp))⟩;obtain ⟨_,_,_,q,hq,_⟩:=hk;rw [hE] at hq;cases hq
theorem S_nil (d:Kd α) (e:Nat) (w:World) (base:Nat) (ok:Nat->Prop):S d e w base ok (.slice none 0 0) []:=⟨fun _=>0,R_nil _ _ _ _ _⟩
theorem S_mono (h:S d e w base ok v xs) (hok:∀ k,ok k->ok' k):S d e w base ok' v xs:=by
 obtain ⟨f,h⟩:=h;exact ⟨f,R_mono h hok⟩
theorem S_bound (h:S d e w base ok v xs):S d e w base (fun k=>ok k∧base≤k∧k<w.heap.size∧∃ q,q ∈ e :: d.E∧∃ cells,w.heap[k]?=some (.cells cells q (0,0))) v xs:=by
 obtain ⟨f,h⟩:=h;exact ⟨f,y3f h⟩
theorem S_move (h:S d e w base ok v xs) (hm:∀ k,ok k->w1.heap[k]?=w.heap[k]?):S d e w1 base ok v xs:=by
 obtain ⟨f,h⟩:=h;exact ⟨f,y9f h hm⟩
theorem S_lower {base':Nat} (h:S d e w base ok v xs) (hb:base'≤base):S d e w base' ok v xs:=by
 obtain ⟨f,h⟩:=h;exact ⟨f,R_lower h hb⟩
theorem S_step (h:S d e w base ok v xs) (hm:∀ k,ok k->k<w.heap.size->w1.heap[k]?=w.heap[k]?):S d e w1 base ok v xs :=
 S_mono (S_move (S_bound h) (fun k hk=>hm k hk.1 hk.2.2.1)) (fun _ hk=>hk.1)
theorem S_below (h:S d e w base ok v xs) (hb:Below w.heap.size w w1):S d e w1 base ok v xs:=S_step h (fun k _ hk=>hb.block k hk)
theorem S_drew (h:S d e w base ok v xs):S d e w.drew base ok v xs:=S_below h (y71 (Below.refl _ _))
theorem S_drewN (h:S d e w base ok v xs) (m:Nat):S d e (w.drewN m) base ok v xs:=S_below h (y00 (Below.refl _ _) m)
theorem S_grown (h:S d e w base ok v xs) {row:Option Nat} (hg:w.grownBy w1 row) (hok:∀ k,ok k->some k≠row):S d e w1 base ok v xs:=S_step h (fun k ho hk=>hg.block k hk (hok k ho))
theorem S_lt (h:S d e w base ok v xs):∀ k,v.ownBlock=some k->k<w.heap.size:=R_lt (S_R h)
theorem S_base (h:S d e w base ok v xs):∀ k,v.ownBlock=some k->base≤k:=R_base (S_R h)
theorem S_elder' (h:S d e W base ok u xs) (hbase:∀ k,v.ownBlock=some k->W.heap.size≤k) (hb:Below W.heap.size W w1):S d e w1 base (fun k=>ok k∧some k≠v.ownBlock) u xs:=by
 obtain ⟨f,h⟩:=h;exact ⟨f,R_elder' h hbase hb⟩
theorem S_new' (h:S d e w1 W.heap.size ok v xs) (hlt:∀ k,u.ownBlock=some k->k<W.heap.size):S d e w1 W.heap.size (fun k=>ok k∧some k≠u.ownBlock) v xs:=by
 obtain ⟨f,h⟩:=h;exact ⟨f,R_new' h hlt⟩
theorem S_bare (h:(bare d).R e w base ok v xs):S d e w base ok v xs:=by
 obtain ⟨h0,inner,ho,hr⟩:=h;refine ⟨fun _=>0,h0,inner,by rw [List.length_zipIdx];exact ho,by rw [List.length_zipIdx];exact hr.1,fun j p hj=>?_⟩;rw [List.getElem?_zipIdx,Nat.zero_add] at hj;obtain ⟨x,hx,rfl⟩:=Option.map_eq_some_iff.1 hj;exact d.M_mono (fun _ hk=>hk.elim) (hr.2 j x hx)
end
section
variable {α β:Type} {d:Kd α} {d':Kd β} {e e' g:Nat} {w w1 W:World} {base b:Nat} {ok ok' okv oku:Nat->Prop} {u v:Value} {xs:List α} {ys:List β}
theorem S_form (h:S d e w base ok v xs) (hp:0<xs.length):∃ g cap,v=.slice (some ⟨g,0,none⟩) xs.length cap∧base≤g∧g<w.heap.size∧∃ cells,w.heap[g]?=some (.cells cells e (0,0)):=R_form (S_R h) hp
theorem S_slice (h:S d e w base ok v xs):∃ A c,v=.slice A xs.length c:=R_slice (S_R h)
theorem S_reads' {A:Option Addr} {n c:Nat} (h:S d e w base ok (.slice A n c) xs):n=xs.length∧n≤c∧d.C w A xs.length xs:=R_reads' (S_R h)
theorem S_get {ad:Addr} {n cap:Nat} (h:S d e W base ok (.slice (some ad) n cap) xs) (z:α) (i:Int) (h0:0≤i) (h1:i<n) :
  ∃ c,c.length=d.sz∧d.M W base (fun k=>ok k∧some k≠(Value.slice (some ad) n cap).ownBlock) (xs.getD i.toNat z) c∧∀ j u,c[j]?=some u->W.cell? (ad.add (i.toNat * d.sz+j))=some u:=R_getA (S_R h) z i h0 h1
end
section
variable {P:Program} {ops:Array Oper} {rest:List Oper} {o:Oper} {a:Act} {Q:Exit->Act->World->Prop} {Kc:Act->World->Prop} {α:Type}
theorem S_make (d:Kd α) {w0 W:World} (base e:Nat) (hgd:o.guard=none) {N:Tmp} (hd:o.dst=some N) (t:TypeId) (x y:Operand) (ho:o.op=.makeSlice t x y) (n:Int) (hx:a.eval x=.int .i64 n) (hy:a.eval y=.int .i64 n)
  (ht:P.underlying t=some (.slice e)) (z:Value) (bytes:Nat) (hinfo:(P.info? e).map (fun i=>(i.zero,i.size,i.bytes))=some (some z,d.sz,bytes)) (hz:z.cells.size=d.sz) (hs0:0<d.sz) (hb0:0<bytes)
  (z0:α) {ok okp:Nat->Prop} (hzero:d.M W base (fun _=>False) z0 z.cells.toList) (_hok:∀ k,okp k->ok k) (hfresh:ok W.heap.size) (h0:0≤n) (hl:n.toNat * bytes≤281474976710656) (HB:Below base w0 W) (hbase:base≤W.heap.size)
  (h:∀ v1 w1,S d e w1 base ok v1 (List.replicate n.toNat z0)->Below base w0 w1->W.grownBy w1 none->(∃ b,v1.ownBlock=some b∧W.heap.size≤b)->wpList P ops Q rest (a.put o.dst v1) w1):wpList P ops Q (o :: rest) a W :=
 R_make (bare d) base e hgd hd t x y ho n hx hy ht z bytes hinfo hz hs0 hb0 z0 (ok:=ok) (okp:=ok) hzero (fun _ hk=>hk) hfresh h0 hl HB hbase (fun v1 w1 hr=>h v1 w1 (S_bare hr))
end
def gap {α:Type} (f:Nat->Nat) (d:Kd α) (i:Nat) (c:List Value):Kd (α × Nat) where
 sz:=d.sz
 E:=d.E
 K:=fun w x cs=>(x.2=i->cs=c∧cs.length=d.sz∧∀ u ∈ cs,u.oneCell'=true)∧(x.2≠i->d.K w x.1 cs)
 M:=fun w base ok x cs=>(x.2=i->cs=c∧cs.length=d.sz∧∀ u ∈ cs,u.oneCell'=true)∧(x.2≠i->d.M w base (fun k=>ok k∧f k=x.2) x.1 cs)
 K_len:=fun {w x cs} h=>by
  by_cases hx:x.2=i
  ·exact (h.1 hx).2.1
  ·exact d.K_len (h.2 hx)
 K_one:=fun {w x cs} h=>by
  by_cases hx:x.2=i
  ·exact (h.1 hx).2.2
  ·exact d.K_one (h.2 hx)
 K_below:=fun hb h=>⟨h.1,fun hx=>d.K_below hb (h.2 hx)⟩
 K_of_M:=fun h=>⟨h.1,fun hx=>d.K_of_M (h.2 hx)⟩
 M_mono:=fun hok h=>⟨h.1,fun hx=>d.M_mono (fun k hk=>⟨hok k hk.1,hk.2⟩) (h.2 hx)⟩
 M_bound:=fun h=>⟨h.1,fun hx=>d.M_mono (fun _ hk=>⟨⟨hk.1.1,hk.2⟩,hk.1.2⟩) (d.M_bound (h.2 hx))⟩
 M_move:=fun hm h=>⟨h.1,fun hx=>d.M_move (fun k hk=>hm k hk.1) (h.2 hx)⟩
 M_lower:=fun hb h=>⟨h.1,fun hx=>d.M_lower hb (h.2 hx)⟩
def H {α:Type} (d:Kd α) (e:Nat) (w:World) (base:Nat) (ok:Nat->Prop) (v:Value) (xs:List α) (i:Int) (oki:Nat->Prop) (c:List Value):Prop :=
 (∀ k,oki k->ok k)∧∃ f,(gap f d i.toNat c).R e w base (fun k=>ok k∧¬ oki k) v xs.zipIdx
section
variable {α β:Type} {d:Kd α} {e e' g n cap:Nat} {w w1 W:World} {base:Nat} {ok ok' oki okp:Nat->Prop} {u v:Value} {xs:List α} {i:Int} {c:List Value}
theorem S_lend (h:S d e W base ok (.slice (some ⟨g,0,none⟩) n cap) xs) (z:α) (i:Int) (h0:0≤i) (h1:i<n) :
  ∃ (oki:Nat->Prop) (c:List Value),c.length=d.sz∧d.M W base oki (xs.getD i.toNat z) c∧(∀ j u,c[j]?=some u->W.cell? ⟨g,i.toNat * d.sz+j,none⟩=some u)∧(∀ k,oki k->ok k∧k≠g)∧H d e W base ok (.slice (some ⟨g,0,none⟩) n cap) xs i oki c:=by
 obtain ⟨f,hR⟩:=h;have hn:=(R_reads' hR).1;rw [List.length_zipIdx] at hn;have hgo:some g=(Value.slice (some ⟨g,0,none⟩) n cap).ownBlock:=by simp [Value.ownBlock]
 obtain ⟨hok0,inner,ho,hr⟩:=hR;have hil:i.toNat<xs.length:=by omega
 have hlen:inner.length=xs.length * d.sz:=by have:=hr.1;rw [List.length_zipIdx] at this;exact this
 have hseg:i.toNat * d.sz+d.sz≤inner.length:=by rw [hlen,← Nat.succ_mul];exact Nat.mul_le_mul_right _ hil
 have hM:=hr.2 i.toNat _ (y4o (List.getElem?_eq_getElem hil));have hkg:∀ k,some k≠(Value.slice (some ⟨g,0,none⟩) n cap).ownBlock->k≠g:=fun k hk he=>hk (by rw [he];exact hgo)
 refine ⟨fun k=>(ok k∧k≠g)∧f k=i.toNat,(inner.drop (i.toNat * d.sz)).take d.sz,by rw [List.length_take,List.length_drop];omega,?_,fun j u hu=>?_,fun k hk=>hk.1,fun k hk=>hk.1.1,f,fun k hk=>⟨hok0 k hk,fun h2=>h2.1.2 ?_⟩,inner,ho,hr.1,fun m p hm=>?_⟩
 ·rw [List.getD_eq_getElem?_getD,List.getElem?_eq_getElem hil]
  exact d.M_mono (fun k hk=>⟨⟨hk.1.1,hkg k hk.1.2⟩,hk.2⟩) hM
 ·rw [List.getElem?_take] at hu
  split at hu
  ·rw [List.getElem?_drop] at hu
   have:=ho.cells (g:=g) hgo.symm _ u hu
   rwa [y18] at this
  ·cases hu
 ·rw [← hgo] at hk;injection hk with hk;exact hk.symm
 ·have hold:=hr.2 m p hm
  have hp2:p.2=m:=by
   rw [List.getElem?_zipIdx,Nat.zero_add] at hm;obtain ⟨q,_,rfl⟩:=Option.map_eq_some_iff.1 hm;rfl
  refine ⟨fun hx=>?_,fun hx=>d.M_mono (fun k hk=>⟨⟨⟨hk.1.1,fun h2=>hx ?_⟩,hk.1.2⟩,hk.2⟩) hold⟩
  ·have hmi:m=i.toNat:=by omega
   subst hmi;exact ⟨rfl,d.K_len (d.K_of_M hM),d.K_one (d.K_of_M hM)⟩
  ·rw [← hk.2];exact h2.2
open Classical in
theorem H_back (h:H d e w base ok v xs i oki c) {x':α} (hM:d.M w base okp x' c) (hok:∀ k,okp k->oki k):S d e w base ok v (xs.set i.toNat x'):=by
 obtain ⟨ho,f,h0,inner,hown,hr⟩:=h;refine ⟨fun k=>if oki k then i.toNat else f k,fun k hk=>(h0 k hk).1,inner,by rw [List.length_zipIdx,List.length_set];rw [List.length_zipIdx] at hown;exact hown,by have:=hr.1;rw [List.length_zipIdx] at this;rw [List.length_zipIdx,List.length_set];exact this,fun m p hm=>?_⟩;rw [List.getElem?_zipIdx,Nat.zero_add] at hm;obtain ⟨q,hq,rfl⟩:=Option.map_eq_some_iff.1 hm;have hml:m<xs.length:=by
  have:=(List.getElem?_eq_some_iff.1 hq).1
  rwa [List.length_set] at this
 by_cases hmi:m=i.toNat
 ·subst hmi
  rw [List.getElem?_set_self hml] at hq;injection hq with hq
  subst hq;have hc:=((hr.2 i.toNat _ (y4o (List.getElem?_eq_getElem hml))).1 rfl).1;show d.M w base _ x' ((inner.drop (i.toNat * d.sz)).take d.sz);rw [show (inner.drop (i.toNat * d.sz)).take d.sz=c from hc];exact d.M_mono (fun k hk=>⟨⟨ho k (hok k hk),fun he=>(h0 k he.symm).2 (hok k hk)⟩,if_pos (hok k hk)⟩) hM
 ·rw [List.getElem?_set_ne (Ne.symm hmi)] at hq
  exact d.M_mono (fun k hk=>⟨⟨hk.1.1.1,hk.1.2⟩,(if_neg hk.1.1.2).trans hk.2⟩) ((hr.2 m (q,m) (y4o hq)).2 hmi)
theorem H_widen (h:H d e w base ok v xs i oki c):H d e w base ok v xs i (fun k=>oki k∨ok k∧w.heap.size≤k) c:=by
 obtain ⟨ho,f,h⟩:=h;exact ⟨fun k hk=>hk.elim (ho k) (fun h2=>h2.1),f,R_mono (y3f h) (fun k hk=>⟨hk.1.1,fun h2=>h2.elim hk.1.2 (fun h3=>by have:=hk.2.2.1;omega)⟩)⟩
theorem H_step (h:H d e w base ok v xs i oki c) (hm:∀ k,ok k->¬ oki k->k<w.heap.size->w1.heap[k]?=w.heap[k]?):H d e w1 base ok v xs i oki c:=by
 obtain ⟨ho,f,h⟩:=h;exact ⟨ho,f,yb5 h (fun k hk hlt=>hm k hk.1 hk.2 hlt)⟩
theorem H_grown (h:H d e w base ok v xs i oki c) {row:Option Nat} (hg:w.grownBy w1 row) (hrow:∀ k,row=some k->oki k):H d e w1 base ok v xs i oki c :=
 H_step h (fun k _ hn hlt=>hg.block k hlt (fun he=>hn (hrow k he.symm)))
theorem H_mono (h:H d e w base ok v xs i oki c) (hok:∀ k,ok k->ok' k):H d e w base ok' v xs i oki c:=by
 obtain ⟨ho,f,h⟩:=h;exact ⟨fun k hk=>hok k (ho k hk),f,R_mono h (fun k hk=>⟨hok k hk.1,hk.2⟩)⟩
theorem H_more {okg:Nat->Prop} (h:H d e w base (fun k=>ok k∧¬ okg k) v xs i oki c) (hg:∀ k,okg k->ok k):H d e w base ok v xs i (fun k=>oki k∨okg k) c:=by
 obtain ⟨ho,f,h⟩:=h;exact ⟨fun k hk=>hk.elim (fun h2=>(ho k h2).1) (hg k),f,R_mono h (fun k hk=>⟨hk.1.1,fun h2=>h2.elim hk.2 hk.1.2⟩)⟩
theorem S_borrow {ad:Addr} (h:S d e W base ok (.slice (some ad) n cap) xs) (z:α) (i:Int) (h0:0≤i) (h1:i<n) :
  ∃ (oki:Nat->Prop) (c:List Value),c.length=d.sz∧d.M W base oki (xs.getD i.toNat z) c∧(∀ j u,c[j]?=some u->W.cell? (ad.add (i.toNat * d.sz+j))=some u)∧(∀ k,oki k->ok k∧some k≠(Value.slice (some ad) n cap).ownBlock) ∧
   ∀ {w1:World} {row:Option Nat} {x':α},W.grownBy w1 row->(∀ k,row=some k->oki k)->d.M w1 base oki x' c->S d e w1 base ok (.slice (some ad) n cap) (xs.set i.toNat x'):=by
 obtain ⟨g,rfl⟩:=R_head (S_R h);obtain ⟨oki,c,hcl,hM,hcc,hoki,hH⟩:=S_lend h z i h0 h1;refine ⟨oki,c,hcl,hM,fun j u hu=>?_,fun k hk=>⟨(hoki k hk).1,fun he=>(hoki k hk).2 ?_⟩,fun hg hrow hM1=>H_back (H_grown hH hg hrow) hM1 (fun _ hk=>hk)⟩
 ·rw [ygp,Nat.zero_add]
  exact hcc j u hu
 ·simpa [Value.ownBlock] using he
theorem S_elem (h:S d e W base ok (.slice (some ⟨g,0,none⟩) n cap) xs) (z:α) (i:Int) (h0:0≤i) (h1:i<n) :
  ∃ (oki:Nat->Prop) (c:List Value),c.length=d.sz∧d.M W base oki (xs.getD i.toNat z) c∧(∀ j u,c[j]?=some u->W.cell? ⟨g,i.toNat * d.sz+j,none⟩=some u)∧(∀ j,W.frozen? ⟨g,i.toNat * d.sz+j,none⟩=false)∧(∀ k,oki k->ok k∧k≠g)∧H d e W base ok (.slice (some ⟨g,0,none⟩) n cap) xs i oki c:=by
 obtain ⟨_,_,_,_,hfr⟩:=ygr (S_R h) z i h0 h1;obtain ⟨oki,c,hcl,hM,hcc,hoki,hH⟩:=S_lend h z i h0 h1;exact ⟨oki,c,hcl,hM,hcc,hfr,hoki,hH⟩
theorem H_raw (h:H d e W base ok (.slice (some ⟨g,0,none⟩) n cap) xs i oki c) (h0:0≤i) (h1:i<n) :
  ∃ rows:List (List Value),rows.length=xs.length∧(raw d.sz).R e W base (fun _=>True) (.slice (some ⟨g,0,none⟩) n cap) rows∧c.length=d.sz∧(∀ u ∈ c,u.oneCell'=true)∧(∀ j u,c[j]?=some u->W.cell? ⟨g,i.toNat * d.sz+j,none⟩=some u) ∧
   ∀ w1 c',W.grownBy w1 (some g)->(raw d.sz).R e w1 base (fun _=>True) (.slice (some ⟨g,0,none⟩) n cap) (rows.set i.toNat c')->H d e w1 base ok (.slice (some ⟨g,0,none⟩) n cap) xs i oki c':=by
 obtain ⟨hoo,f,hR⟩:=h;have hn:=(R_reads' hR).1;rw [List.length_zipIdx] at hn;have hgo:some g=(Value.slice (some ⟨g,0,none⟩) n cap).ownBlock:=by simp [Value.ownBlock]
 obtain ⟨hok0,inner,ho,hr⟩:=hR;have hil:i.toNat<xs.length:=by omega
 have hlen:inner.length=xs.length * d.sz:=by have:=hr.1;rw [List.length_zipIdx] at this;exact this
 have hkg:∀ k,some k≠(Value.slice (some ⟨g,0,none⟩) n cap).ownBlock->k≠g:=fun k hk he=>hk (by rw [he];exact hgo)
 have hci:=(hr.2 i.toNat _ (y4o (List.getElem?_eq_getElem hil))).1 rfl;rw [hci.1] at hci;have hc:=((hr.2 i.toNat _ (y4o (List.getElem?_eq_getElem hil))).1 rfl).1;refine ⟨(List.range xs.length).map fun j=>(inner.drop (j * d.sz)).take d.sz,by rw [List.length_map,List.length_range],⟨fun _ _=>trivial,inner,?_,?_,fun j p hj=>?_⟩,hci.2.1,hci.2.2,fun j u hu=>?_,fun w1 c' hg hraw=>?_⟩
 ·rw [List.length_map,List.length_range];rw [List.length_zipIdx] at ho;exact ho
 ·rw [List.length_map,List.length_range];exact hlen
 ·rw [List.getElem?_map] at hj
  obtain ⟨j',hj',rfl⟩:=Option.map_eq_some_iff.1 hj;obtain ⟨hl,he⟩:=List.getElem?_eq_some_iff.1 hj';rw [List.getElem_range] at he;subst he;rw [List.length_range] at hl;have hm:=(gap f d i.toNat c).K_of_M (hr.2 j _ (y4o (List.getElem?_eq_getElem hl)));exact ⟨rfl,(gap f d i.toNat c).K_len hm,(gap f d i.toNat c).K_one hm⟩
 ·rw [← hc,List.getElem?_take] at hu
  split at hu
  ·rw [List.getElem?_drop] at hu
   have:=ho.cells (g:=g) hgo.symm _ u hu
   rwa [y18] at this
  ·cases hu
 ·obtain ⟨_,inner',ho',hr'⟩:=hraw
  have hl':inner'.length=xs.length * d.sz:=by have:=hr'.1;rw [List.length_set,List.length_map,List.length_range] at this;exact this
  rw [List.length_set,List.length_map,List.length_range] at ho';refine ⟨hoo,f,hok0,inner',by rw [List.length_zipIdx];exact ho',by rw [List.length_zipIdx];exact hl',fun m p hm=>?_⟩;rw [List.getElem?_zipIdx,Nat.zero_add] at hm;obtain ⟨q,hq,rfl⟩:=Option.map_eq_some_iff.1 hm;have hml:m<xs.length:=(List.getElem?_eq_some_iff.1 hq).1;have hold:=hr.2 m (q,m) (y4o hq);refine ⟨fun hx=>?_,fun hx=>?_⟩
  ·have hx':m=i.toNat:=hx
   subst hx';exact hr'.2 i.toNat c' (List.getElem?_set_self (by rw [List.length_map,List.length_range];exact hml))
  ·have hx':m≠i.toNat:=hx
   have hcm:=(hr'.2 m ((inner.drop (m * d.sz)).take d.sz) (by
    rw [List.getElem?_set_ne (Ne.symm hx'),List.getElem?_map,List.getElem?_eq_getElem (by rw [List.length_range];exact hml),List.getElem_range];rfl)).1
   show d.M w1 base _ q ((inner'.drop (m * d.sz)).take d.sz);rw [show (inner'.drop (m * d.sz)).take d.sz=_ from hcm];exact d.M_mono (fun k hk=>hk.1) (d.M_move (w1:=w1) (fun k hk=>hg.block k hk.2.2.1 (fun he=>hkg k hk.1.1.2 (by injection he))) (d.M_bound (hold.2 hx)))
theorem H_seg (h:H d e W base ok (.slice (some ⟨g,0,none⟩) n cap) xs i oki c) (h0:0≤i) (h1:i<n) {seg:List Value} {j:Nat} (hj:j+seg.length≤d.sz) (hone:∀ q ∈ seg,q.oneCell'=true) :
  H d e (W.setCells g (i.toNat * d.sz+j) seg) base ok (.slice (some ⟨g,0,none⟩) n cap) xs i oki (c.take j ++ seg ++ c.drop (j+seg.length))∧W.grownBy (W.setCells g (i.toNat * d.sz+j) seg) (some g):=by
 obtain ⟨rows,_,hraw,hcl,hco,hcc,hback⟩:=H_raw h h0 h1;obtain ⟨h2,h3⟩:=R_seg hraw i h0 h1 (c:=c) (seg:=seg) (j:=j) (x':=c.take j ++ seg ++ c.drop (j+seg.length)) (okp:=fun _=>False) hcl hcc hj
  ⟨rfl,by
   show (c.take j ++ seg ++ c.drop (j+seg.length)).length=d.sz;simp only [List.length_append,List.length_take,List.length_drop];omega,fun u hu=>by
   rcases List.mem_append.1 hu with hu|hu
   ·rcases List.mem_append.1 hu with hu|hu
    ·exact hco u (List.mem_of_mem_take hu)
    ·exact hone u hu
   ·exact hco u (List.mem_of_mem_drop hu)⟩ (fun _ hk=>hk.elim)
 exact ⟨hback _ _ h3 h2,h3⟩
theorem S_seg {okg:Nat->Prop} (hH:H d e W base (fun k=>ok k∧¬ okg k) (.slice (some ⟨g,0,none⟩) n cap) xs i oki c) (h0:0≤i) (h1:i<n) {seg:List Value} {j:Nat} (hj:j+seg.length≤d.sz)
  {x':α} (hM:d.M W base okp x' (c.take j ++ seg ++ c.drop (j+seg.length))) (hokp:∀ k,okp k->oki k∨okg k) (hg:∀ k,okg k->ok k∧k≠g) :
  S d e (W.setCells g (i.toNat * d.sz+j) seg) base ok (.slice (some ⟨g,0,none⟩) n cap) (xs.set i.toNat x')∧W.grownBy (W.setCells g (i.toNat * d.sz+j) seg) (some g):=by
 have hne:∀ k,oki k∨okg k->k≠g:=by
  intro k hk he;subst he;rcases hk with hk|hk
  ·obtain ⟨_,f,hR⟩:=hH
   exact (hR.1 k (by simp [Value.ownBlock])).2 hk
  ·exact (hg k hk).2 rfl
 obtain ⟨h2,h3⟩:=H_seg (H_more hH (fun k hk=>(hg k hk).1)) h0 h1 hj (fun q hq=>d.K_one (d.K_of_M hM) q (List.mem_append_left _ (List.mem_append_right _ hq)));exact ⟨H_back h2 (M_step hM (fun k hk hlt=>h3.block k hlt (fun he=>hne k (hokp k hk) (by injection he)))) hokp,h3⟩
end
end Kd
end
section
namespace Kd
structure Heap {α:Type} (d:Kd α):Prop where
 K:∀ {w w1:World} {x:α} {cs:List Value},(∀ k,k<w.heap.size->w1.heap[k]?=w.heap[k]?)->d.K w x cs->d.K w1 x cs
theorem ydq {w w1:World} (hb:∀ k,k<w.heap.size->w1.heap[k]?=w.heap[k]?) {a:Addr} {v:Value} (h:w.cell? a=some v):w1.cell? a=some v:=by
 have:=hb a.block (World.block_lt_of_cell? w a h);simpa [World.cell?,this] using h
theorem Heap.C {α:Type} {d:Kd α} (hd:Heap d) {w w1:World} {A:Option Addr} {n:Nat} {xs:List α} (hb:∀ k,k<w.heap.size->w1.heap[k]?=w.heap[k]?) (h:d.C w A n xs):d.C w1 A n xs :=
 ⟨h.1,h.2.1,fun hn=>by
  obtain ⟨ad,e,hc⟩:=h.2.2 hn;refine ⟨ad,e,fun j p hj=>?_⟩;obtain ⟨c,hs,hr,hcell⟩:=hc j p hj;exact ⟨c,hs,hd.K hb hr,fun i u hu=>ydq hb (hcell i u hu)⟩⟩
theorem heap_int (k:IntKind):Heap (Kd.int k):=⟨fun _ h=>h⟩
end Kd
end
section
def Foot (P:World->Prop) (W:World) (ok:Nat->Prop):Prop:=∀ W':World,(∀ k,ok k->k<W.heap.size->W'.heap[k]?=W.heap[k]?)->P W'
theorem heap_lt {W W1:World} {k:Nat} (h:W1.heap[k]?=W.heap[k]?) (hlt:k<W.heap.size):k<W1.heap.size:=by
 rw [Array.getElem?_eq_getElem hlt] at h;exact (zGe h).1
namespace Foot
variable {P Q:World->Prop} {W W1:World} {ok ok':Nat->Prop}
theorem now (h:Foot P W ok):P W:=h W (fun _ _ _=>rfl)
theorem mono (h:Foot P W ok) (hok:∀ k,ok k->ok' k):Foot P W ok':=fun W' hW=>h W' (fun k hk hlt=>hW k (hok k hk) hlt)
theorem bound (h:Foot P W ok):Foot P W (fun k=>ok k∧k<W.heap.size):=fun W' hW=>h W' (fun k hk hlt=>hW k ⟨hk,hlt⟩ hlt)
theorem step (h:Foot P W ok) (hm:∀ k,ok k->k<W.heap.size->W1.heap[k]?=W.heap[k]?):Foot P W1 ok:=fun W' hW=>h W' (fun k hk hlt=>(hW k hk (heap_lt (hm k hk hlt) hlt)).trans (hm k hk hlt))
theorem old (h:Foot P W ok) (hb:Below W.heap.size W W1):Foot P W1 (fun k=>ok k∧k<W.heap.size):=(h.bound).step (fun k _ hlt=>hb.block k hlt)
end Foot
namespace Kd
def F {α:Type} (d:Kd α) (W:World) (ok:Nat->Prop) (A:Option Addr) (n:Nat) (xs:List α):Prop:=Foot (fun W=>d.C W A n xs) W ok
def FK {α:Type} (d:Kd α) (W:World) (ok:Nat->Prop) (x:α) (c:List Value):Prop:=Foot (fun W=>d.K W x c) W ok
section
variable {α β:Type} {d:Kd α} {e base n n' cc g N:Nat} {ok ok' okp S:Nat->Prop} {w w0 w1 W W1:World} {A A':Option Addr} {u v v1:Value} {xs:List α} {xs':List β} {d':Kd β} {x:α} {c:List Value}
theorem F_now (h:F d W ok A n xs):d.C W A n xs:=Foot.now h
theorem F_mono (h:F d W ok A n xs) (hok:∀ k,ok k->ok' k):F d W ok' A n xs:=Foot.mono h hok
theorem ygt (h:F d W ok A n xs):F d W (fun k=>ok k∧k<W.heap.size) A n xs:=Foot.bound h
theorem F_step (h:F d W ok A n xs) (hm:∀ k,ok k->k<W.heap.size->W1.heap[k]?=W.heap[k]?):F d W1 ok A n xs:=Foot.step h hm
theorem F_below (h:F d W ok A n xs) (hb:Below W.heap.size W W1):F d W1 ok A n xs:=F_step h (fun k _ hlt=>hb.block k hlt)
theorem F_far (h:F d W ok A n xs) {p:Addr} (hok:∀ k,ok k->k≠p.block) (u:Value):F d (W.setCell p u) ok A n xs:=F_step h (fun k hk _=>Below.heap_setCell W p u k (hok k hk))
theorem yjf (h:F d W ok A n xs) (hbase:∀ k,v.ownBlock=some k->W.heap.size≤k) (hb:Below W.heap.size W W1):F d W1 (fun k=>ok k∧some k≠v.ownBlock) A n xs :=
 F_mono (Foot.old h hb) (fun k hk=>⟨hk.1,fun he=>by have:=hbase k he.symm;have:=hk.2;omega⟩)
theorem yje (h:F d W ok A n xs) (a:Nat) (ha:W.heap.size≤a):F d W (fun k=>ok k∧k≠a) A n xs:=F_mono (ygt h) (fun k hk=>⟨hk.1,by have:=hk.2;omega⟩)
theorem F_after (h:F d W (fun k=>ok k∧some k≠v.ownBlock) A n xs) (hg:W.grownBy W1 v.ownBlock) (hat:v1.ownBlock=v.ownBlock∨∃ b,v1.ownBlock=some b∧W.heap.size≤b):F d W1 (fun k=>ok k∧some k≠v1.ownBlock) A n xs:=by
 refine F_mono (Foot.step (ygt h) (fun k hk hlt=>hg.block k hlt hk.1.2)) (fun k hk=>⟨hk.1.1,?_⟩);rcases hat with hat|⟨b,hb,hle⟩
 ·rw [hat];exact hk.1.2
 ·rw [hb]
  intro he;injection he with he
  have:=hk.2;omega
theorem C_F (hd:Heap d) (h:d.C w A n xs):F d w (fun k=>k<w.heap.size) A n xs:=fun _ hW=>hd.C (fun k hlt=>hW k hlt hlt) h
theorem ygv (h:FK d W ok x c):d.K W x c:=Foot.now h
theorem yag (h:FK d W ok x c) (hok:∀ k,ok k->ok' k):FK d W ok' x c:=Foot.mono h hok
theorem yb6 (h:FK d W ok x c):FK d W (fun k=>ok k∧k<W.heap.size) x c:=Foot.bound h
theorem ygu (h:FK d W ok x c) (hm:∀ k,ok k->k<W.heap.size->W1.heap[k]?=W.heap[k]?):FK d W1 ok x c:=Foot.step h hm
end
end Kd
end
section
namespace Kd
def y68 (sz:Nat) (n:Nat) (inner:List Value):List (List Value):=(List.range n).map fun j=>(inner.drop (j * sz)).take sz
theorem y1j (sz n:Nat) (inner:List Value):(y68 sz n inner).length=n:=by simp [y68]
theorem ydp {sz n:Nat} {inner:List Value} {j:Nat} (hj:j<n):(y68 sz n inner)[j]?=some ((inner.drop (j * sz)).take sz):=by simp [y68,hj]
theorem y6z {sz n:Nat} {inner:List Value} {j:Nat} {c:List Value} (h:(y68 sz n inner)[j]?=some c):c=(inner.drop (j * sz)).take sz:=by
 have hj:j<n:=by have:=(List.getElem?_eq_some_iff.1 h).1;rwa [y1j] at this
 rw [ydp hj] at h;injection h with h
 exact h.symm
theorem yh1 {α:Type} {Rr:α->List Value->Prop} {sz:Nat} {xs:List α} {inner:List Value} (h:Reps Rr sz xs inner) (hR:∀ x c,Rr x c->c.length=sz∧∀ u ∈ c,u.oneCell'=true):Reps (fun x cs=>cs=x∧cs.length=sz∧∀ u ∈ cs,u.oneCell'=true) sz (y68 sz xs.length inner) inner:=by
 refine ⟨by rw [y1j];exact h.1,fun j p hj=>?_⟩;have hjl:j<xs.length:=by have:=(List.getElem?_eq_some_iff.1 hj).1;rwa [y1j] at this
 have hp:=y6z hj;exact ⟨hp.symm,hR _ _ (h.2 j _ (List.getElem?_eq_getElem hjl))⟩
section
variable {α:Type} {d:Kd α} {e base n cc g:Nat} {ok ok' okp S:Nat->Prop} {w w1 W W1:World} {A:Option Addr} {u v v1:Value} {xs:List α} {x:α} {c:List Value}
def N {α:Type} (d:Kd α) (e:Nat) (w:World) (base:Nat) (ok:Nat->Prop) (v:Value) (xs:List α):Prop :=
 (∀ k,v.ownBlock=some k->ok k)∧∃ rows:List (List Value),rows.length=xs.length∧(raw d.sz).R e w base (fun k=>some k=v.ownBlock) v rows∧∀ (j:Nat) (x:α) (c:List Value),xs[j]?=some x->rows[j]?=some c->FK d w (fun k=>ok k∧some k≠v.ownBlock) x c
theorem ycz {sz:Nat} {rows:List (List Value)} (h:(raw sz).R e w base ok v rows):(raw sz).R e w base (fun k=>some k=v.ownBlock) v rows:=ygq rfl h
theorem N_mono (h:N d e w base ok v xs) (hok:∀ k,ok k->ok' k):N d e w base ok' v xs:=by
 obtain ⟨h0,rows,hl,hR,hf⟩:=h;exact ⟨fun k hk=>hok k (h0 k hk),rows,hl,hR,fun j x c hx hc=>yag (hf j x c hx hc) (fun k hk=>⟨hok k hk.1,hk.2⟩)⟩
theorem N_lt (h:N d e w base ok v xs):∀ k,v.ownBlock=some k->k<w.heap.size:=by
 obtain ⟨_,rows,_,hR,_⟩:=h;exact R_lt hR
theorem N_base (h:N d e w base ok v xs):∀ k,v.ownBlock=some k->base≤k:=by
 obtain ⟨_,rows,_,hR,_⟩:=h;exact R_base hR
theorem N_bound (h:N d e w base ok v xs):N d e w base (fun k=>ok k∧k<w.heap.size) v xs:=by
 have hlt:=N_lt h;obtain ⟨h0,rows,hl,hR,hf⟩:=h;exact ⟨fun k hk=>⟨h0 k hk,hlt k hk⟩,rows,hl,hR,fun j x c hx hc=>yag (yb6 (hf j x c hx hc)) (fun k hk=>⟨⟨hk.1.1,hk.2⟩,hk.1.2⟩)⟩
theorem N_lower {base':Nat} (h:N d e w base ok v xs) (hb:base'≤base):N d e w base' ok v xs:=by
 obtain ⟨h0,rows,hl,hR,hf⟩:=h;exact ⟨h0,rows,hl,R_lower hR hb,hf⟩
theorem N_step (h:N d e w base ok v xs) (hm:∀ k,ok k->k<w.heap.size->w1.heap[k]?=w.heap[k]?):N d e w1 base ok v xs:=by
 obtain ⟨h0,rows,hl,hR,hf⟩:=h;exact ⟨h0,rows,hl,yb5 hR (fun k hk hlt=>hm k (h0 k hk.symm) hlt),fun j x c hx hc=>ygu (hf j x c hx hc) (fun k hk hlt=>hm k hk.1 hlt)⟩
theorem N_below (h:N d e w base ok v xs) (hb:Below w.heap.size w w1):N d e w1 base ok v xs:=N_step h (fun k _ hk=>hb.block k hk)
theorem N_elderB (h:N d e w base ok v xs) (a:Nat) (ha:w.heap.size≤a):N d e w base (fun k=>ok k∧k≠a) v xs:=N_mono (N_bound h) (fun k hk=>⟨hk.1,by have:=hk.2;omega⟩)
theorem N_slice (h:N d e w base ok v xs):∃ A c,v=.slice A xs.length c:=by
 obtain ⟨_,rows,hl,hR,_⟩:=h;obtain ⟨A,c,he⟩:=R_slice hR;exact ⟨A,c,by rw [he,hl]⟩
theorem N_reads' {n c:Nat} (h:N d e w base ok (.slice A n c) xs):n=xs.length∧n≤c∧d.C w A xs.length xs:=by
 obtain ⟨_,rows,hl,hR,hf⟩:=h;obtain ⟨hn,hc,hC⟩:=R_reads' hR;refine ⟨by omega,hc,?_⟩;rw [hl] at hC;refine ⟨rfl,hC.2.1,fun hp=>?_⟩;obtain ⟨ad,he,hcell⟩:=hC.2.2 hp;refine ⟨ad,he,fun j p hj=>?_⟩;have hjl:j<rows.length:=by have:=(List.getElem?_eq_some_iff.1 hj).1;omega
 obtain ⟨c',hcl,hK,hcc⟩:=hcell j _ (List.getElem?_eq_getElem hjl);have hk:=ygv (hf j p _ hj (List.getElem?_eq_getElem hjl));refine ⟨c',hcl,?_,hcc⟩;rw [show c'=rows[j] from hK.1];exact hk
end
end Kd
end
section
section
variable {w w' u:World} {m B g:Nat} {o:Obj} {row:Option Nat} {S:Nat->Prop} {a:Addr} {v:Value}
theorem y85 (hq:w.drewN m=w') (h:Below B u w):Below B u w':=by subst hq;exact y00 h m
end
namespace Kd
section
variable {α:Type} {d:Kd α} {e base n m:Nat} {ok:Nat->Prop} {w w':World} {v:Value} {A:Option Addr} {xs:List α}
theorem R_at (hq:w.drewN m=w') (h:d.R e w base ok v xs):d.R e w' base ok v xs:=by subst hq;exact R_drewN h m
theorem S_at (hq:w.drewN m=w') (h:Kd.S d e w base ok v xs):Kd.S d e w' base ok v xs:=by subst hq;exact S_drewN h m
end
end Kd
end
end Go.Proofs.Yw.Wd
namespace Go.Proofs.Yw.Wd
theorem Reps.one {α:Type} {R:α->List Value->Prop} {ps:List α} {cs:List Value} {p:α} {v:Value} (hp:R p [v]) (h:Reps R 1 ps cs):Reps R 1 (p :: ps) (v :: cs):=by
 refine ⟨by simp [h.1],fun j q hq=>?_⟩;cases j with
 |zero =>
  simp only [List.getElem?_cons_zero,Option.some.injEq] at hq;subst hq;simpa using hp
 |succ j =>
  simp only [List.getElem?_cons_succ] at hq;have h1:=h.2 j q hq;simpa [Nat.mul_one] using h1
end Go.Proofs.Yw.Wd
namespace Go.Proofs.Yw.Wd
open Go.RowKit
namespace Kd
section
variable {α:Type} {d:Kd α} {e base n cap g:Nat} {ok ok' okp:Nat->Prop} {w w1 W:World} {v v1:Value} {xs ys:List α}
theorem N_made {rows:List (List Value)} (hR:(raw d.sz).R e w1 base (fun k=>k=W.heap.size) v1 rows) (hg:W.grownBy w1 none) (hat:∃ b,v1.ownBlock=some b∧W.heap.size≤b) (hl:rows.length=xs.length) (hf:∀ (j:Nat) (x:α) (c:List Value),xs[j]?=some x->rows[j]?=some c->FK d W okp x c)
  (hok:∀ k,okp k->ok k) (hfresh:ok W.heap.size):N d e w1 base ok v1 xs:=by
 obtain ⟨b,hb,hle⟩:=hat;refine ⟨fun k hk=>by rw [hR.1 k hk];exact hfresh,rows,hl,ycz hR,fun j x c hx hc=>?_⟩;refine yag (ygu (yb6 (hf j x c hx hc)) (fun k hk hlt=>hg.block k hlt (by simp))) (fun k hk=>⟨hok k hk.1,fun he=>?_⟩);rw [hb] at he;injection he with he
 have:=hk.2;omega
end
section
variable {P:Program} {ops:Array Oper} {rest:List Oper} {o:Oper} {a:Act} {Q:Exit->Act->World->Prop} {Kc:Act->World->Prop} {α:Type}
theorem N_lit (d:Kd α) {w0 W:World} (base e:Nat) (hgd:o.guard=none) {N':Tmp} (_hd:o.dst=some N') {xs:List α} {inner:List Value} {ok okp:Nat->Prop}
  (hrun:(execOp a.eval o).run P W=.ok (.value (.slice (some ⟨W.heap.size,0,none⟩) xs.length xs.length)) (W.alloc (.cells inner.toArray e)))
  (hrep:Reps (FK d W okp) d.sz xs inner) (hok:∀ k,okp k->ok k) (hfresh:ok W.heap.size) (HB:Below base w0 W) (hbase:base≤W.heap.size) (hm:xs.length≤9223372036854775807)
  (h:∀ v1 w1,N d e w1 base ok v1 xs->Below base w0 w1->W.grownBy w1 none->(∃ b,v1.ownBlock=some b∧W.heap.size≤b)->wpList P ops Q rest (a.put o.dst v1) w1) :
  wpList P ops Q (o :: rest) a W:=by
 refine R_lit (raw d.sz) base e hgd _hd (xs:=y68 d.sz xs.length inner) (inner:=inner) (ok:=fun k=>k=W.heap.size) (okp:=fun _=>False) (by rw [y1j];exact hrun) (yh1 hrep (fun y c hk=>⟨d.K_len (ygv hk),d.K_one (ygv hk)⟩)) (fun _ hk=>hk.elim) rfl HB hbase (by rw [y1j];exact hm) ?_;intro v1 w1 hr hb hg hat;exact h v1 w1 (N_made hr hg hat (y1j _ _ _) (fun j y c hy hc=>by rw [y6z hc];exact hrep.2 j y hy) hok hfresh) hb hg hat
end
end Kd
end Go.Proofs.Yw.Wd
namespace Go.Proofs.Yw.Mo
open Go.RowKit Go.Proofs.Yw.Wd
namespace Kd
open Go.Proofs.Yw.Wd.Kd
end Kd
namespace Kd
open Go.Proofs.Yw.Wd.Kd
end Kd
theorem y0y (k k':IntKind) (x y:Int):Builtin.max2 (.int k x) (.int k' y)=pure (.int k (if x<y then y else x)):=by simp only [Builtin.max2,gt_iff_lt]
theorem y0w (k k':IntKind) (x y:Int):Builtin.min2 (.int k x) (.int k' y)=pure (.int k (if y<x then y else x)):=by simp only [Builtin.min2]
theorem y17 (ats:Array TypeId) (ty:TypeId) (a b:Value):Builtin.max_ ats ty #[a,b]=(Builtin.max2 a b >>= fun s=>pure s):=by simp only [Builtin.max_,List.foldlM_cons,List.foldlM_nil]
theorem y16 (ats:Array TypeId) (ty:TypeId) (a b:Value):Builtin.min_ ats ty #[a,b]=(Builtin.min2 a b >>= fun s=>pure s):=by simp only [Builtin.min_,List.foldlM_cons,List.foldlM_nil]
theorem y0q (ats:Array TypeId) (ty:TypeId) (a b c:Value):Builtin.max_ ats ty #[a,b,c]=(Builtin.max2 a b >>= fun s=>Builtin.max2 s c >>= fun s=>pure s):=by simp only [Builtin.max_,List.foldlM_cons,List.foldlM_nil]
theorem y0p (ats:Array TypeId) (ty:TypeId) (a b c:Value):Builtin.min_ ats ty #[a,b,c]=(Builtin.min2 a b >>= fun s=>Builtin.min2 s c >>= fun s=>pure s):=by simp only [Builtin.min_,List.foldlM_cons,List.foldlM_nil]
theorem y0x (ats:Array TypeId) (ty:TypeId) (a b c d:Value):Builtin.max_ ats ty #[a,b,c,d]=(Builtin.max2 a b >>= fun s=>Builtin.max2 s c >>= fun s=>Builtin.max2 s d >>= fun s=>pure s):=by simp only [Builtin.max_,List.foldlM_cons,List.foldlM_nil]
theorem y0v (ats:Array TypeId) (ty:TypeId) (a b c d:Value):Builtin.min_ ats ty #[a,b,c,d]=(Builtin.min2 a b >>= fun s=>Builtin.min2 s c >>= fun s=>Builtin.min2 s d >>= fun s=>pure s):=by simp only [Builtin.min_,List.foldlM_cons,List.foldlM_nil]
end Go.Proofs.Yw.Mo
namespace Go.Proofs.Yw.Wd
open Go.RowKit
section
variable {P:Program} {ops:Array Oper} {rest:List Oper} {o:Oper} {a:Act} {Q:Exit->Act->World->Prop} {W:World}
theorem y0d {f:FuncId} {az:Array Operand} {ts:Array TypeId} (_ho:o.op=.call { callee:=.value (.func f),args:=az,argTypes:=ts }) (h:wpList P ops Q (o :: rest) a W):wpList P ops Q (o :: rest) a W:=h
theorem y0l {b:Builtin} {xs:Array Operand} {ts:Array TypeId} (_ho:o.op=.call { callee:=.builtin b,args:=xs,argTypes:=ts }) (h:wpList P ops Q (o :: rest) a W):wpList P ops Q (o :: rest) a W:=h
end
def mx (a b:Int):Int:=if a<b then b else a
theorem y9c {W:World} {o:Obj} {a:Addr} {v:Value} (h:(W.alloc o).cell? a=some v) (hlt:a.block<W.heap.size):W.cell? a=some v:=(World.cell?_alloc_lt _ _ _ hlt).symm.trans h
theorem y70 {W w1:World} {row:Option Nat} (hg:W.grownBy w1 row) {a:Addr} {v:Value} (h:W.cell? a=some v) (hne:some a.block≠row):w1.cell? a=some v:=by
 have:=hg.block a.block (World.block_lt_of_cell? W a h) hne;simpa [World.cell?,this] using h
namespace Kd
section
variable {α:Type} {d:Kd α} {e base:Nat} {ok:Nat->Prop} {W w1:World} {v:Value} {xs:List α}
theorem R_grown1 (h:d.R e W base ok v xs) (hE:d.E=[]) {row:Option Nat} (hg:W.grownBy w1 row) (hne:row≠v.ownBlock):d.R e w1 base ok v xs :=
 R_mono (R_grown (ygq hE h) hg (fun _ hk e_=>hne (e_.symm.trans hk))) (fun k hk=>h.1 k hk.symm)
end
section
variable {α:Type} {d:Kd α} {e base g n cap:Nat} {ok oki okp:Nat->Prop} {W:World} {xs:List α} {i:Int} {c:List Value}
theorem H_at (h:H d e W base ok (.slice (some ⟨g,0,none⟩) n cap) xs i oki c) (h0:0≤i) (h1:i<n):(∀ j u,c[j]?=some u->W.cell? ⟨g,i.toNat * d.sz+j,none⟩=some u)∧∀ j,W.frozen? ⟨g,i.toNat * d.sz+j,none⟩=false:=by
 obtain ⟨rows,_,hraw,_,_,hcc,_⟩:=H_raw h h0 h1;obtain ⟨_,_,_,_,hfr⟩:=ygr hraw [] i h0 h1;exact ⟨hcc,hfr⟩
theorem S_seg0 (hH:H d e W base ok (.slice (some ⟨g,0,none⟩) n cap) xs i oki c) (h0:0≤i) (h1:i<n) {seg:List Value} {j:Nat} (hj:j+seg.length≤d.sz)
  {x':α} (hM:d.M W base okp x' (c.take j ++ seg ++ c.drop (j+seg.length))) (hokp:∀ k,okp k->oki k) :
  S d e (W.setCells g (i.toNat * d.sz+j) seg) base ok (.slice (some ⟨g,0,none⟩) n cap) (xs.set i.toNat x')∧W.grownBy (W.setCells g (i.toNat * d.sz+j) seg) (some g) :=
 S_seg (okg:=fun _=>False) (H_mono hH (fun _ hk=>⟨hk,fun h=>h⟩)) h0 h1 hj hM (fun k hk=>.inl (hokp k hk)) (fun _ hk=>hk.elim)
end
end Kd
end Go.Proofs.Yw.Wd
namespace Go.Proofs.Yw.Wd
open Go.RowKit
namespace Kd
def V {α:Type} (d:Kd α) (_e:Nat) (W:World) (_base:Nat) (ok:Nat->Prop) (v:Value) (xs:List α):Prop:=∃ A c,v=.slice A xs.length c∧xs.length≤c∧F d W ok A xs.length xs
section
variable {α β:Type} {d:Kd α} {e base base' n m c g N' lo hi:Nat} {ok ok' S:Nat->Prop} {w W w1:World} {A:Option Addr} {ad:Addr} {u v v1:Value} {xs:List α}
theorem yc4 (h:V d e W base ok v xs) (hF:∀ A,F d W ok A xs.length xs->F d w1 ok' A xs.length xs):V d e w1 base' ok' v xs:=by
 obtain ⟨A,c,hv,hl,hf⟩:=h;exact ⟨A,c,hv,hl,hF A hf⟩
theorem V_mk (hl:xs.length≤c) (hf:F d W ok A xs.length xs):V d e W base ok (.slice A xs.length c) xs:=⟨A,c,rfl,hl,hf⟩
theorem V_at (h:V d e W base ok (.slice A n c) xs):n=xs.length∧n≤c∧F d W ok A xs.length xs:=by
 obtain ⟨A',c',hv,hl,hf⟩:=h;injection hv with ha hn hc
 subst ha;subst hc;exact ⟨hn,by rw [hn];exact hl,hf⟩
theorem V_reads' (h:V d e W base ok (.slice A n c) xs):n=xs.length∧n≤c∧d.C W A xs.length xs:=⟨(V_at h).1,(V_at h).2.1,F_now (V_at h).2.2⟩
theorem V_F (h:V d e W base ok (.slice A n c) xs):F d W ok A n xs:=by
 obtain ⟨hn,_,hf⟩:=V_at h;rw [hn];exact hf
theorem V_mono (h:V d e W base ok v xs) (hok:∀ k,ok k->ok' k):V d e W base ok' v xs:=yc4 h (fun _ hf=>F_mono hf hok)
theorem V_below (h:V d e W base ok v xs) (hb:Below W.heap.size W w1):V d e w1 base ok v xs:=yc4 h (fun _ hf=>F_below hf hb)
theorem V_far (h:V d e W base ok v xs) {p:Addr} (hok:∀ k,ok k->k≠p.block) (u:Value):V d e (W.setCell p u) base ok v xs:=yc4 h (fun _ hf=>F_far hf hok u)
theorem V_after (h:V d e W base (fun k=>ok k∧some k≠u.ownBlock) v xs) (hg:W.grownBy w1 u.ownBlock) (hat:v1.ownBlock=u.ownBlock∨∃ b,v1.ownBlock=some b∧W.heap.size≤b):V d e w1 base (fun k=>ok k∧some k≠v1.ownBlock) v xs:=yc4 h (fun _ hf=>F_after hf hg hat)
theorem V_afterv (h:V d e W base (fun k=>ok k∧some k≠v.ownBlock) u xs) (hg:W.grownBy w1 v.ownBlock) (hat:v1.ownBlock=v.ownBlock∨∃ b,v1.ownBlock=some b∧W.heap.size≤b):V d e w1 base (fun k=>ok k∧some k≠v1.ownBlock) u xs:=V_after h hg hat
theorem V_elder' (h:V d e W base ok v xs) (hbase:∀ k,u.ownBlock=some k->W.heap.size≤k) (hb:Below W.heap.size W w1):V d e w1 base (fun k=>ok k∧some k≠u.ownBlock) v xs:=yc4 h (fun _ hf=>yjf hf hbase hb)
theorem V_elderB (h:V d e W base ok v xs) (a:Nat) (ha:W.heap.size≤a):V d e W base (fun k=>ok k∧k≠a) v xs:=yc4 h (fun _ hf=>yje hf a ha)
theorem FK_slice_mk {l:List α} (hl:l.length≤c) (hf:F d W ok A l.length l):FK (Kd.slice e d) W ok l [.slice A l.length c]:=fun W' hW=>⟨A,c,rfl,hl,hf W' hW⟩
theorem R_newM {M:Nat->Prop} (h:d.R e w1 W.heap.size ok v xs) (hle:w.heap.size≤W.heap.size) (hM:∀ k,w.heap.size≤k->M k):d.R e w1 W.heap.size (fun k=>M k∧ok k) v xs:=R_mono (y3f h) (fun k hk=>⟨hM k (Nat.le_trans hle hk.2.1),hk.1⟩)
end
end Kd
end Go.Proofs.Yw.Wd
