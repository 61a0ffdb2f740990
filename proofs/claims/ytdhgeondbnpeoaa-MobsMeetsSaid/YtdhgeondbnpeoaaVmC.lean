/- The theorem of MobsMeets, proved; part 3 of 7: its texts, merged. -/
import Derived.Test.YtdhgeondbnpeoaaVmB
import Derived.Below
import Derived.Deep.Draws
import Derived.Deep.AppendLies
import Derived.Maps.AppendAt
import Derived.OwnWalk
import Derived.Laws.BytesArg
import Derived.Laws.MakeOwn
import Derived.Laws.OwnMore
import Derived.Deep.OwnRows
import Derived.Tactics
import Derived.Lib.ConvBytes
import Derived.Laws.Slices
import Derived.WalkKit
import Derived.RowKit3
import Derived.Deep.LoopGhost
import Derived.Deep.QuietTactic
import Derived.BigQuiet
import Derived.WideLaws
import Derived.Deep.DeepCutAuto
import Derived.Deep.CutBlock
import Derived.Deep.RegionHeld3
import Derived.Laws.Rows
import Derived.Lib.AppendStr
import Derived.ArgAppend
import Derived.Laws.IdiomCopy
import Derived.RowKit
import Derived.OrdersHeld
import Derived.Laws.BitsLemmas
import Derived.Laws.StructEq
import Derived.Maps.OwnOps
import Derived.DeepKeys4
import Derived.WalkSpells
import Derived.Maps.Keyed
set_option linter.unnecessarySimpa false
set_option linter.defProp false
set_option linter.unusedVariables false
set_option linter.unusedSimpArgs false
set_option linter.unusedSectionVars false
set_option maxRecDepth 100000
set_option maxHeartbeats 8000000
namespace Go.Mt
open Go.Tr Go.Conc Go.ConcN Go.Proofs
theorem _root_.Go.Proofs.Tra.same:wf Tra.prog Try.prog.funcs=Try.prog:=rfl
def kdL:List (Nat × List (Nat × Nat)):=[(8,[(26,2),(29,2),(32,2),(35,2),(46,2),(49,2),(53,2),(56,2)]),(10,[(64,2),(67,2),(71,2),(74,2),(77,2),(80,2),(83,2),(86,2),(89,2),(92,2),(129,2),(132,2),(135,2),(138,2),(141,2),(144,2),(147,2),(150,2),(153,2),(156,2),(159,2),(162,2)]),(16,[(31,1),(35,1),(41,1),(45,1),(49,1),(55,1)]),(18,[]),(20,[(12,1),(15,2),(17,2),(20,2),(22,2),(25,2),(28,2),(32,2),(33,2),(36,2),(37,2),(40,2),(42,2)]),(22,[]),(23,[(2,1),(6,1),(15,2),(17,2)]),(25,[(5,1),(17,2),(19,2)]),(27,[(19,1),(23,1)]),(30,[(16,1),(22,1),(29,1)]),(32,[]),(33,[]),(35,[(29,1),(34,1),(58,1),(62,1),(68,1),(72,1),(79,1),(83,1),(91,1),(93,1)]),(36,[(20,1)]),(40,[(13,1)]),(45,[]),(47,[]),(49,[(9,1),(23,1),(27,1)]),(50,[(2,1),(39,1),(43,1),(49,1),(53,1),(60,1),(64,1)]),(51,[]),(53,[(29,1)]),(54,[(14,1),(16,2),(19,2)]),(55,[(25,1),(29,1),(34,1)]),(56,[]),(57,[(18,1),(22,1),(28,1),(32,1)]),(58,[]),(59,[(20,1),(24,1),(30,1),(34,1)]),(63,[(15,1),(19,1)]),(65,[(25,1),(29,1),(35,1),(39,1),(45,1),(49,1),(56,1),(64,1)]),(67,[(21,1),(40,1),(46,1),(49,1),(54,1)]),(70,[]),(84,[(6,1),(14,1),(16,2),(19,2)]),(91,[(14,1)]),(34,[]),(60,[(7,1)])]
def kdOf (f:FuncId):y0q:=fun t=>min 2 (match kdL.find? (fun p=>p.1 == f) with|some p=>(match p.2.find? (fun q=>q.1 == t) with|some q=>q.2|none=>0)|none=>0)
theorem kd_two (f:FuncId) (t:Nat):kdOf f t≤2:=Nat.min_le_left _ _
def lawL:List Nat:=[20,8,10]
def subL:List Nat:=[16,18,22,23,25,27,30,32,33,35,36,40,45,47,49,50,51,53,54,55,56,57,58,59,63,65,67,70,84,91]
def S0 (f:FuncId):Bool:=subL.contains f
def S1 (f:FuncId):Bool:=(subL ++ lawL).contains f
def T1 (f:FuncId):Bool:=(34 :: (subL ++ lawL)).contains f
def T2 (f:FuncId):Bool:=(60 :: 34 :: (subL ++ lawL)).contains f
noncomputable def okG (fo:Option Func) (T:FuncId->Bool) (f:FuncId):Bool :=
 match fo with
 |some fn=>(match fn.body with
  |some c=>!(fn.name == "runtime.NumGoroutine") && (codeB Tra.prog T (kdOf f) c && (fn.results.all (resB (kdOf f)) && (List.range fn.params.size).all (fun i=>kdOf f i == 0)))
  |none=>false)
 |none=>false
theorem y7u {T:FuncId->Bool} {f:FuncId} {fo:Option Func} (hf:Tra.prog.funcs[f]?=fo) (h:okG fo T f=true):y6b Tra.prog T (kdOf f) f:=by
 unfold okG at h;split at h
 ·rename_i fn
  split at h
  ·rename_i c hc
   simp only [Bool.and_eq_true,Bool.not_eq_true'] at h;obtain ⟨h1,h2,h3,h4⟩:=h;exact ⟨kd_two f,fn,c,hf,hc,h1,h2,h3,fun i hi=>by simpa using List.all_eq_true.1 h4 i (List.mem_range.2 hi)⟩
  ·cases h
 ·cases h
noncomputable def oldG (T:FuncId->Bool) (f:FuncId):Bool:=f != 34 && (f != 60 && okG Try.prog.funcs[f]? T f)
theorem y5t {T:FuncId->Bool} {f:FuncId} (h:oldG T f=true):Tra.Old f∧y6b Tra.prog T (kdOf f) f:=by
 simp only [oldG,Bool.and_eq_true,bne_iff_ne] at h;exact ⟨⟨h.1,h.2.1⟩,y7u (Tra.func f ⟨h.1,h.2.1⟩) h.2.2⟩
theorem all0:subL.all (oldG S0)=true:=by kernel_rfl
theorem all1:(subL ++ lawL).all (oldG T1)=true:=by kernel_rfl
theorem all2:(subL ++ lawL).all (oldG T2)=true:=by kernel_rfl
theorem calm34:y6b Tra.prog T2 (kdOf 34) 34:=y7u Tra.func34 (by kernel_rfl)
theorem calm60:y6b Tra.prog T2 (kdOf 60) 60:=y7u Tra.func60 (by kernel_rfl)
theorem y60 {T:FuncId->Bool} {f:FuncId} (h20:Tra.Old f) (h:y6b Tra.prog T (kdOf f) f):Has Tra.prog Try.prog.funcs f:=by
 obtain ⟨fn,c,hf,hb,hn,_⟩:=h.fn;have hb':fn.body.isNone=false:=by rw [hb];rfl
 exact ⟨fn,fn,⟨hf,hn,hb'⟩,(Tra.func f h20).symm.trans hf,hn,hb'⟩
theorem has34:Has Tra.prog Try.prog.funcs 34:=⟨Tra.f34,Try.f34,⟨Tra.func34,by kernel_rfl,rfl⟩,Try.func34,by kernel_rfl,rfl⟩
theorem yfb {T:FuncId->Bool} {f:FuncId} (h:y6b Tra.prog T (kdOf f) f):Has Tra.prog Tra.prog.funcs f:=by
 obtain ⟨fn,c,hf,hb,hn,_⟩:=h.fn;have hb':fn.body.isNone=false:=by rw [hb];rfl
 exact ⟨fn,fn,⟨hf,hn,hb'⟩,hf,hn,hb'⟩
theorem mem0 {f:FuncId} (h:S0 f=true):Tra.Old f∧y6b Tra.prog S0 (kdOf f) f:=y5t (List.all_eq_true.1 all0 f (by simpa [S0] using h))
theorem mem1 {f:FuncId} (h:S1 f=true):Tra.Old f∧y6b Tra.prog T1 (kdOf f) f:=y5t (List.all_eq_true.1 all1 f (by simpa [S1] using h))
theorem mem2 {f:FuncId} (h:S1 f=true):Tra.Old f∧y6b Tra.prog T2 (kdOf f) f:=y5t (List.all_eq_true.1 all2 f (by simpa [S1] using h))
theorem memT {f:FuncId} (h:T1 f=true):f=34∨S1 f=true:=by
 have:f ∈ 34 :: (subL ++ lawL):=by simpa [T1] using h
 exact (List.mem_cons.1 this).imp id fun h=>by simpa [S1] using h
theorem memT2 {f:FuncId} (h:T2 f=true):f=60∨T1 f=true:=by
 have:f ∈ 60 :: 34 :: (subL ++ lawL):=by simpa [T2] using h
 exact (List.mem_cons.1 this).imp id fun h=>by simpa [T1] using h
theorem _root_.Go.Proofs.Tra.duo:Duo Tra.prog S0 kdOf:=⟨Tra.same,⟨fun f h=>(mem0 h).2,fun f h=>(Tra.func f (mem0 h).1).symm,fun f h=>y60 (mem0 h).1 (mem0 h).2⟩⟩
theorem _root_.Go.Proofs.Tra.calm1:y2j Tra.prog Try.prog.funcs S1 T1 kdOf:=⟨fun f h=>(mem1 h).2,fun f h=>(Tra.func f (mem1 h).1).symm,fun f h=>by
 rcases memT h with rfl|h
 ·exact has34
 ·exact y60 (mem1 h).1 (mem1 h).2⟩
theorem calmTT {f:FuncId} (h:T2 f=true):y6b Tra.prog T2 (kdOf f) f:=by
 rcases memT2 h with rfl|h
 ·exact calm60
 rcases memT h with rfl|h
 ·exact calm34
 ·exact (mem2 h).2
theorem _root_.Go.Proofs.Tra.calmT:y2j Tra.prog Tra.prog.funcs T2 T2 kdOf:=⟨fun f h=>calmTT h,fun f h=>rfl,fun f h=>yfb (calmTT h)⟩
theorem _root_.Go.Proofs.Tra.t34:∀ f,T1 f=true->S1 f=false->f=34:=fun f h hs=>(memT h).resolve_right (by rw [hs];decide)
theorem _root_.Go.Proofs.Tra.s49:S0 49=true:=by decide
theorem _root_.Go.Proofs.Tra.s63:S0 63=true:=by decide
theorem _root_.Go.Proofs.Tra.s65:S0 65=true:=by decide
end Go.Mt
namespace Go.Mt
open Go.Tr Go.Conc Go.ConcN Go.Proofs Go.RowKit Go.Conc.Lib Go.ConcR.Gen Go.ConcN.Gen
theorem y8i {P:Program} {main:Bool} {b:Frame} {a:Act} {todo:List Item} {c:Frame} {cs:List Frame} {w:World} {fn:Func} {i:Nat} (hn:b.kind=.normal) (hd:a.defers=[]) (hf:P.funcs[b.fn]?=some fn) (hr:fn.results=#[.tmp i]) :
  stepG P main (G { b.at a todo with mode:=.returning } (c :: cs)) w=.go (G (c.finish (a.tmps.getD i undef)) cs) w #[]:=by
 refine stepG_leave (v:=a.tmps.getD i undef) hn hd hf ?_ ?_
 ·simp [results,hr]
 ·simp [results,hr]
end Go.Mt
namespace Go.Mt
open Go.Tr Go.Conc Go.ConcN Go.Proofs
section
variable {P:Program} {Post:FuncId->Array Value->World->Prop} {g0:Goroutine} {u0:World}
structure At (P:Program) (Post:FuncId->Array Value->World->Prop) (g0:Goroutine) (u0:World) (g:Goroutine) (u:World):Prop where
 lt:LT P Post g u
 path:LPath P g0 u0 g u
theorem At.go (hP:∀ f t u τ,Post f t u->Post f t (retape u τ)) {fr c:Frame} {cs:List Frame} {u u1:World} {g1:Goroutine} {es:Array Event} (h:At P Post g0 u0 (G fr (c :: (cs ++ [c0]))) u) (hs:stepG P true (G fr (c :: (cs ++ [c0]))) u=.go g1 u1 es) (ht:u1.tape=u.tape):At P Post g0 u0 g1 u1 :=
 ⟨h.lt.next hP ydm hs,h.path.trans (.cons u.tape (by rw [y15,hs,← ht,y15]) (.nil (y15 u1)))⟩
theorem At.bad (hP:∀ f t u τ,Post f t u->Post f t (retape u τ)) {f i:Nat} {tm:Array Value} {ops:Array Oper} {rest:List Nat} {td:List Item} {c:Frame} {cs:List Frame} {u:World} {o:Oper} {s:Sem Next} (h:At P Post g0 u0 (G ((base f).at ⟨tm,[]⟩ (.inRegion ops (i :: rest) :: td)) (c :: (cs ++ [c0]))) u) (hcs:∀ x ∈ c :: cs,x.defers=[])
  (ho:ops[i]?=some o) (hw:Region.wanted o (yielded ops tm)=true) (he:execOp (Act.eval ⟨tm,[]⟩) o=s) (hr:∃ hh u1,s.run P u=.halt hh u1∧y0r hh):False:=by
 obtain ⟨hh,u1,hr,hc⟩:=hr;have h1:stepG P true (G ((base f).at ⟨tm,[]⟩ (.inRegion ops (i :: rest) :: td)) (c :: (cs ++ [c0]))) u=_:=stepG_oper ho hw;rw [he] at h1;have e:(base f).at ⟨tm,[]⟩ (.inRegion ops (i :: rest) :: td)=frm f tm (.inRegion ops (i :: rest) :: td) .run:=rfl;rw [e] at h1 h;obtain ⟨fr1,cs1,u2,es2,h2,h3⟩:=h.lt.go hP ydm;rcases y3u (P:=P) (f:=f) (tm:=tm) (ops:=ops) (i:=i) (rest:=rest) (td:=td) (cs:=c :: (cs ++ [c0])) hc hr with ⟨o1,u3,es3,h4⟩|⟨ch,u3,es3,h4⟩
 ·rw [h1,h4] at h2
  cases h2
 ·rw [h1,h4] at h2
  injection h2 with e1 e2 e3
  rw [← e1] at h3;exact y5s h3 ⟨_,c :: cs,ch,rfl,rfl,rfl,hcs⟩
theorem At.badv (hP:∀ f t u τ,Post f t u->Post f t (retape u τ)) {f i:Nat} {tm:Array Value} {ops:Array Oper} {rest:List Nat} {td:List Item} {c:Frame} {cs:List Frame} {u:World} {o:Oper} {s:Sem Value} (h:At P Post g0 u0 (G ((base f).at ⟨tm,[]⟩ (.inRegion ops (i :: rest) :: td)) (c :: (cs ++ [c0]))) u) (hcs:∀ x ∈ c :: cs,x.defers=[])
  (ho:ops[i]?=some o) (hw:Region.wanted o (yielded ops tm)=true) (he:execOp (Act.eval ⟨tm,[]⟩) o=s.bind fun v=>.pure (.value v)) (hr:∃ hh u1,s.run P u=.halt hh u1∧y0r hh):False:=by
 obtain ⟨hh,u1,hr,hc⟩:=hr;refine h.bad hP hcs ho hw he ⟨hh,u1,?_,hc⟩;show Sem.run P (s >>= fun v=>(pure (.value v):Sem Next)) u=_;rw [Sem.run_bind,hr];rfl
end
abbrev wa:Array Oper:=#[{ dst:=some 1,op:=Go.Op.assign (Go.Operand.const (Go.Value.int Go.IntKind.i64 0)),type:=3,pos := "", after:=#[],guard:=none }]
abbrev ws:Array Oper:=#[{ dst:=some 3,op:=Go.Op.call { callee:=Go.Callee.builtin Go.Builtin.len,args:=#[Go.Operand.tmp 0],argTypes:=#[29] },type:=3,pos := "", after:=#[],guard:=none },{ dst:=some 4,op:=Go.Op.slice 29 (Go.Operand.tmp 0) none (some (Go.Operand.tmp 3)) none,type:=29,pos := "", after:=#[{ on:=0,ground:=Go.Ground.data }],guard:=none }]
abbrev wb:Array Oper:=#[{ dst:=some 2,op:=Go.Op.assign (Go.Operand.const (Go.Value.int Go.IntKind.i64 0)),type:=3,pos := "", after:=#[],guard:=none }]
abbrev wc:Array Oper:=#[{ dst:=some 5,op:=Go.Op.call { callee:=Go.Callee.builtin Go.Builtin.len,args:=#[Go.Operand.tmp 0],argTypes:=#[29] },type:=3,pos := "", after:=#[],guard:=none },{ dst:=some 6,op:=Go.Op.binOp Go.BinOp.lss 3 (Go.Operand.tmp 2) (Go.Operand.tmp 5) 3,type:=4,pos := "", after:=#[{ on:=0,ground:=Go.Ground.data }],guard:=none }]
abbrev wd:Array Oper:=#[{ dst:=some 7,op:=Go.Op.indexAddr 29 (Go.Operand.tmp 0) (Go.Operand.tmp 2),type:=0,pos := "", after:=#[],guard:=none },{ dst:=some 8,op:=Go.Op.load 3 (Go.Operand.tmp 7),type:=3,pos := "", after:=#[{ on:=0,ground:=Go.Ground.data }],guard:=none },{ dst:=some 9,op:=Go.Op.binOp Go.BinOp.add 3 (Go.Operand.tmp 1) (Go.Operand.tmp 8) 3,type:=3,pos := "", after:=#[{ on:=1,ground:=Go.Ground.data }],guard:=none },{ dst:=some 1,op:=Go.Op.assign (Go.Operand.tmp 9),type:=3,pos := "", after:=#[{ on:=2,ground:=Go.Ground.data }],guard:=none }]
abbrev we:Array Oper:=#[{ dst:=some 10,op:=Go.Op.binOp Go.BinOp.add 3 (Go.Operand.tmp 2) (Go.Operand.const (Go.Value.int Go.IntKind.i64 1)) 3,type:=3,pos := "", after:=#[],guard:=none },{ dst:=some 2,op:=Go.Op.assign (Go.Operand.tmp 10),type:=3,pos := "", after:=#[{ on:=0,ground:=Go.Ground.data }],guard:=none }]
abbrev wL:Code:=((((Go.Code.region 2 wc false).seq (Go.Code.cond (Go.Operand.tmp 6) Go.Code.skip (Go.Code.exit 0))).seq ((Go.Code.block 1 (Go.Code.region 3 wd false)).seq (Go.Code.region 4 we false))))
abbrev wB:Code:=((Go.Code.region 0 wa false).seq ((Go.Code.region 5 ws false).seq (((Go.Code.region 1 wb false).seq (Go.Code.block 0 wL.loop)).seq Go.Code.ret)))
theorem body60:Tra.f60.body=some wB:=rfl
abbrev wa0:Oper:=wa[0]'(by decide)
abbrev ws0:Oper:=ws[0]'(by decide)
abbrev ws1:Oper:=ws[1]'(by decide)
abbrev wb0:Oper:=wb[0]'(by decide)
abbrev wc0:Oper:=wc[0]'(by decide)
abbrev wc1:Oper:=wc[1]'(by decide)
abbrev wd0:Oper:=wd[0]'(by decide)
abbrev wd1:Oper:=wd[1]'(by decide)
abbrev wd2:Oper:=wd[2]'(by decide)
abbrev wd3:Oper:=wd[3]'(by decide)
abbrev we0:Oper:=we[0]'(by decide)
abbrev we1:Oper:=we[1]'(by decide)
theorem hands60 (v:Value):Frame.enter Tra.prog 60 #[v] .normal=(base 60).at ⟨#[v,undef,undef,undef,undef,undef,undef,undef,undef,undef,undef],[]⟩ [.code wB]:=by
 rw [enter_at _ Tra.func60 body60,Tra.ntmps60];rfl
def yai (u:World) (a:Option Addr):Prop:=∀ ad,a=some ad->(∃ cs e fr,u.heap[ad.block]?=some (.cells cs e fr)∧∀ (i:Nat) (x:Value),cs[i]?=some x->∃ K L y,RelC K L x y)∨∃ es cl,u.heap[ad.block]?=some (.map es cl)
theorem ydv {u:World} {a:Option Addr} (h:yai u a) {ad:Addr} (ha:a=some ad) (j:Nat):(∃ x,u.cell? (ad.add j)=some x∧∃ K L y,RelC K L x y)∨(u.cell? (ad.add j)=none∧∃ hh,u.farLoad Tra.prog (ad.add j) false=.error hh∧y0r hh):=by
 have hb:(ad.add j).block=ad.block:=by unfold Addr.add;split<;>rfl
 rcases h ad ha with ⟨cs,e,fr,h1,h2⟩|⟨es,cl,h1⟩
 ·rw [← hb] at h1
  cases hx:u.cell? (ad.add j) with
  |none=>exact .inr ⟨rfl,y2f h1 (.inl ⟨_,_,_,rfl⟩)⟩
  |some x =>
   rw [y1n h1] at hx;split at hx
   ·cases hx
   ·exact .inl ⟨x,rfl,h2 _ x hx⟩
 ·rw [← hb] at h1
  refine .inr ⟨?_,y2f h1 (.inr ⟨_,_,rfl⟩)⟩;rw [y36 h1]
abbrev St60 (c:Frame) (cs:List Frame) (tm:Array Value) (k:List Item):Goroutine:=G ((base 60).at ⟨tm,[]⟩ k) (c :: (cs ++ [c0]))
theorem ix_bad {u:World} {a:Option Addr} {n cp:Nat} {i:Int} (h:a=none∨¬ 0≤i):∃ hh u1,(Instr.indexAt 29 (.slice a n cp) (.int .i64 i)).run Tra.prog u=.halt hh u1∧y0r hh:=by
 obtain ⟨v,u1,hv⟩:∃ v u1,(Instr.indexAt 29 (.slice a n cp) (.int .i64 i)).run Tra.prog u=.halt (.panic v) u1:=by
  rcases h with rfl|h
  ·simp [Instr.indexAt,boundsPanic,runtimePanic,go_sem,Tra.runUnderlying29]
   split<;>exact ⟨_,_,rfl⟩
  ·cases a with
   |none =>
    simp [Instr.indexAt,boundsPanic,runtimePanic,go_sem,Tra.runUnderlying29];split<;>exact ⟨_,_,rfl⟩
   |some ad =>
    simp [Instr.indexAt,boundsPanic,runtimePanic,go_sem,Tra.runUnderlying29,h]
 exact ⟨_,u1,hv,trivial⟩
theorem len_bad {u:World} {v:Value} (h:¬ ∃ a n cp,v=.slice a n cp):∃ hh u1,(Builtin.len_ #[29] 3 #[v]).run Tra.prog u=.halt hh u1∧y0r hh:=by
 obtain ⟨s,hs⟩:∃ s,(Builtin.len_ #[29] 3 #[v]).run Tra.prog u=.halt (.stuck s) u:=by
  refine ⟨"len: string, array, pointer to array, slice, map or channel expected", ?_⟩;cases v<;>first|(exfalso;exact h ⟨_,_,_,rfl⟩)|(unfold Builtin.len_;simp [go_sem,Tra.runUnderlying29];done)
 exact ⟨_,_,hs,trivial⟩
theorem add_bad {u:World} {s:Int} {x y:Value} {K:Cfg} {L:List Nat} (hr:RelC K L x y) (hz:¬ ∃ z,x=.int .i64 z):∃ hh u1,(do eqGuard .add 3 (.tmp 1) (.tmp 8) (.int .i64 s) x;binOp .add 3 (.int .i64 s) x:Sem Value).run Tra.prog u=.halt hh u1∧y0r hh:=by
 cases hr with
 |flat h =>
  cases x<;>simp [y1c] at h<;>first|(simp [eqGuard,binOp,go_sem,y0r];done)|skip
  rename_i k z;have hk:IntKind.i64≠k:=by
   rintro rfl
   exact hz ⟨z,rfl⟩
  simp [eqGuard,binOp,go_sem,hk,y0r]
 |slice _ _ _=>simp [eqGuard,binOp,go_sem,y0r]
 |map _=>simp [eqGuard,binOp,go_sem,y0r]
section
variable {Post:FuncId->Array Value->World->Prop} {g0:Goroutine} {u0 u:World} {c:Frame} {cs:List Frame} {a:Option Addr} {n cp:Nat}
theorem y9t (hP:∀ f t u τ,Post f t u->Post f t (retape u τ)) (hcs:∀ x ∈ c :: cs,x.defers=[]) (hs:yai u a) {s i:Int} {a3 a4 a5 a6 a7 a8 a9 a10:Value} {k:List Item}
  (h:At Tra.prog Post g0 u0 (St60 c cs #[.slice a n cp,.int .i64 s,.int .i64 i,a3,a4,a5,a6,a7,a8,a9,a10] (.code wL :: k)) u) :
  (i<n∧0≤i∧(∃ ad x,a=some ad∧u.cell? (ad.add i.toNat)=some (.int .i64 x))∧∃ s' a3 a4 a5 a6 a7 a8 a9 a10,At Tra.prog Post g0 u0 (St60 c cs #[.slice a n cp,.int .i64 s',.int .i64 (IntKind.i64.wrap (i+1)),a3,a4,a5,a6,a7,a8,a9,a10] k) u) ∨
  (¬ i<n∧∃ a3 a4 a5 a6 a7 a8 a9 a10,At Tra.prog Post g0 u0 (St60 c cs #[.slice a n cp,.int .i64 s,.int .i64 i,a3,a4,a5,a6,a7,a8,a9,a10] (.code (.exit 0) :: .code ((Go.Code.block 1 (Go.Code.region 3 wd false)).seq (Go.Code.region 4 we false)) :: k)) u):=by
 replace h:=h.go hP stepG_seq rfl;replace h:=h.go hP stepG_seq rfl;replace h:=h.go hP stepG_region rfl;have e1:(execOp (Act.eval ⟨#[.slice a n cp,.int .i64 s,.int .i64 i,a3,a4,a5,a6,a7,a8,a9,a10],[]⟩) wc0).run Tra.prog u=.ok (.value (.int .i64 n)) u:=by
  unfold execOp;simp [go_sem,Tra.runUnderlying29,Act.eval]
 replace h:At Tra.prog Post g0 u0 (St60 c cs #[.slice a n cp,.int .i64 s,.int .i64 i,a3,a4,.int .i64 n,a6,a7,a8,a9,a10] (.inRegion wc [1] :: .code (.cond (.tmp 6) .skip (.exit 0)) :: .code ((Go.Code.block 1 (Go.Code.region 3 wd false)).seq (Go.Code.region 4 we false)) :: k)) u:=h.go hP (stepG_value (o:=wc0) rfl rfl (by decide) e1) rfl;have e2:(execOp (Act.eval ⟨#[.slice a n cp,.int .i64 s,.int .i64 i,a3,a4,.int .i64 n,a6,a7,a8,a9,a10],[]⟩) wc1).run Tra.prog u=.ok (.value (.bool (decide (i<n)))) u:=by
  unfold execOp;simp [go_sem,Tra.runUnderlying3,Act.eval]
 replace h:At Tra.prog Post g0 u0 (St60 c cs #[.slice a n cp,.int .i64 s,.int .i64 i,a3,a4,.int .i64 n,.bool (decide (i<n)),a7,a8,a9,a10] (.inRegion wc [] :: .code (.cond (.tmp 6) .skip (.exit 0)) :: .code ((Go.Code.block 1 (Go.Code.region 3 wd false)).seq (Go.Code.region 4 we false)) :: k)) u:=h.go hP (stepG_value (o:=wc1) rfl rfl (by decide) e2) rfl;replace h:=h.go hP stepG_region_end rfl;replace h:=h.go hP (stepG_cond (t:=decide (i<n)) rfl) rfl
 by_cases hi:i<n
 rotate_left
 ·right
  rw [zDf hi] at h;exact ⟨hi,_,_,_,_,_,_,_,_,h⟩
 left;rw [zDt hi] at h;replace h:=h.go hP stepG_skip rfl;replace h:=h.go hP stepG_seq rfl;replace h:=h.go hP stepG_block rfl;replace h:=h.go hP stepG_region rfl;cases a with
 |none =>
  exfalso;exact h.badv hP hcs (o:=wd0) rfl rfl (s:=Instr.indexAt 29 (.slice none n cp) (.int .i64 i)) rfl (ix_bad (.inl rfl))
 |some ad =>
  by_cases h0:0≤i
  rotate_left
  ·exfalso
   exact h.badv hP hcs (o:=wd0) rfl rfl (s:=Instr.indexAt 29 (.slice (some ad) n cp) (.int .i64 i)) rfl (ix_bad (.inr h0))
  refine ⟨hi,h0,?_⟩;have e3:(execOp (Act.eval ⟨#[.slice (some ad) n cp,.int .i64 s,.int .i64 i,a3,a4,.int .i64 n,.bool (decide (i<n)),a7,a8,a9,a10],[]⟩) wd0).run Tra.prog u=.ok (.value (.pointer (some (ad.add i.toNat)))) u:=by
   unfold execOp;simp [go_sem,Tra.runUnderlying29,Tra.sizeOf3,Act.eval,h0,hi]
  rw [zDt hi] at e3;replace h:At Tra.prog Post g0 u0 (St60 c cs #[.slice (some ad) n cp,.int .i64 s,.int .i64 i,a3,a4,.int .i64 n,.bool true,.pointer (some (ad.add i.toNat)),a8,a9,a10] (.inRegion wd [1,2,3] :: .inBlock 1 :: .code (Go.Code.region 4 we false) :: k)) u:=h.go hP (stepG_value (o:=wd0) rfl rfl (by decide) e3) rfl;rcases ydv hs rfl i.toNat with ⟨x,hx,K,L,y,hr⟩|⟨hx,hh,hf,hc⟩
  rotate_left
  ·exfalso
   refine h.badv hP hcs (o:=wd1) rfl rfl (s:=Instr.loadAt 3 (.pointer (some (ad.add i.toNat)))) rfl ⟨hh,u,?_,hc⟩;have hf':u.farLoad Tra.prog (ad.add i.toNat) (Mode.plain == Mode.atomic)=.error hh:=hf;simp [Instr.loadAt,loadVar,load,go_sem,Tra.isAgg3,Sem.run,hx,hf']
  have e4:(execOp (Act.eval ⟨#[.slice (some ad) n cp,.int .i64 s,.int .i64 i,a3,a4,.int .i64 n,.bool true,.pointer (some (ad.add i.toNat)),a8,a9,a10],[]⟩) wd1).run Tra.prog u=.ok (.value x) u:=by
   unfold execOp;simp [go_sem,Tra.isAgg3,Act.eval,hx]
  replace h:At Tra.prog Post g0 u0 (St60 c cs #[.slice (some ad) n cp,.int .i64 s,.int .i64 i,a3,a4,.int .i64 n,.bool true,.pointer (some (ad.add i.toNat)),x,a9,a10] (.inRegion wd [2,3] :: .inBlock 1 :: .code (Go.Code.region 4 we false) :: k)) u:=h.go hP (stepG_value (o:=wd1) rfl rfl (by decide) e4) rfl;have key:∃ z,x=.int .i64 z:=by
   by_cases hz:∃ z,x=.int .i64 z
   ·exact hz
   ·exfalso
    exact h.badv hP hcs (o:=wd2) rfl rfl (s:=do eqGuard .add 3 (.tmp 1) (.tmp 8) (.int .i64 s) x;binOp .add 3 (.int .i64 s) x) rfl (add_bad hr hz)
  obtain ⟨z,rfl⟩:=key;refine ⟨⟨ad,z,rfl,hx⟩,?_⟩;have e5:(execOp (Act.eval ⟨#[.slice (some ad) n cp,.int .i64 s,.int .i64 i,a3,a4,.int .i64 n,.bool true,.pointer (some (ad.add i.toNat)),.int .i64 z,a9,a10],[]⟩) wd2).run Tra.prog u=.ok (.value (.int .i64 (IntKind.i64.wrap (s+z)))) u:=by
   unfold execOp;simp [go_sem,Tra.runUnderlying3,Act.eval]
  replace h:At Tra.prog Post g0 u0 (St60 c cs #[.slice (some ad) n cp,.int .i64 s,.int .i64 i,a3,a4,.int .i64 n,.bool true,.pointer (some (ad.add i.toNat)),.int .i64 z,.int .i64 (IntKind.i64.wrap (s+z)),a10] (.inRegion wd [3] :: .inBlock 1 :: .code (Go.Code.region 4 we false) :: k)) u:=h.go hP (stepG_value (o:=wd2) rfl rfl (by decide) e5) rfl;replace h:At Tra.prog Post g0 u0 (St60 c cs #[.slice (some ad) n cp,.int .i64 (IntKind.i64.wrap (s+z)),.int .i64 i,a3,a4,.int .i64 n,.bool true,.pointer (some (ad.add i.toNat)),.int .i64 z,.int .i64 (IntKind.i64.wrap (s+z)),a10] (.inRegion wd [] :: .inBlock 1 :: .code (Go.Code.region 4 we false) :: k)) u:=h.go hP (stepG_value (o:=wd3) rfl rfl (by decide) (w':=u) (v:=.int .i64 (IntKind.i64.wrap (s+z))) (by unfold execOp;simp [go_sem,Act.eval])) rfl;replace h:=h.go hP stepG_region_end rfl;replace h:=h.go hP stepG_inBlock rfl;replace h:=h.go hP stepG_region rfl;have e6:(execOp (Act.eval ⟨#[.slice (some ad) n cp,.int .i64 (IntKind.i64.wrap (s+z)),.int .i64 i,a3,a4,.int .i64 n,.bool true,.pointer (some (ad.add i.toNat)),.int .i64 z,.int .i64 (IntKind.i64.wrap (s+z)),a10],[]⟩) we0).run Tra.prog u=.ok (.value (.int .i64 (IntKind.i64.wrap (i+1)))) u:=by
   unfold execOp;simp [go_sem,Tra.runUnderlying3,Act.eval]
  replace h:At Tra.prog Post g0 u0 (St60 c cs #[.slice (some ad) n cp,.int .i64 (IntKind.i64.wrap (s+z)),.int .i64 i,a3,a4,.int .i64 n,.bool true,.pointer (some (ad.add i.toNat)),.int .i64 z,.int .i64 (IntKind.i64.wrap (s+z)),.int .i64 (IntKind.i64.wrap (i+1))] (.inRegion we [1] :: k)) u:=h.go hP (stepG_value (o:=we0) rfl rfl (by decide) e6) rfl;replace h:At Tra.prog Post g0 u0 (St60 c cs #[.slice (some ad) n cp,.int .i64 (IntKind.i64.wrap (s+z)),.int .i64 (IntKind.i64.wrap (i+1)),a3,a4,.int .i64 n,.bool true,.pointer (some (ad.add i.toNat)),.int .i64 z,.int .i64 (IntKind.i64.wrap (s+z)),.int .i64 (IntKind.i64.wrap (i+1))] (.inRegion we [] :: k)) u:=h.go hP (stepG_value (o:=we1) rfl rfl (by decide) (w':=u) (v:=.int .i64 (IntKind.i64.wrap (i+1))) (by unfold execOp;simp [go_sem,Act.eval])) rfl;replace h:=h.go hP stepG_region_end rfl;exact ⟨_,_,_,_,_,_,_,_,_,h⟩
theorem wrap_lo {i:Nat} (h:i+1≤9223372036854775807):IntKind.i64.wrap ((i:Int)+1)=((i+1:Nat):Int):=by
 have:=IntKind.wrap_i64 ((i:Int)+1);rw [this];omega
theorem wrap_hi {i:Nat} (h:i≤9223372036854775807) (h':¬ i+1≤9223372036854775807):IntKind.i64.wrap ((i:Int)+1)<0:=by
 have:=IntKind.wrap_i64 ((i:Int)+1);rw [this];omega
theorem loop60 (hP:∀ f t u τ,Post f t u->Post f t (retape u τ)) (hcs:∀ x ∈ c :: cs,x.defers=[]) (hs:yai u a) (d:Nat):∀ (i:Nat) (s:Int) (a3 a4 a5 a6 a7 a8 a9 a10:Value),i+d=n->i≤9223372036854775807 →
  At Tra.prog Post g0 u0 (St60 c cs #[.slice a n cp,.int .i64 s,.int .i64 i,a3,a4,a5,a6,a7,a8,a9,a10] [.code wL,.inLoop wL,.inBlock 0,.code .ret]) u →
  n≤9223372036854775807∧(∀ j,i≤j->j<n->∃ ad x,a=some ad∧u.cell? (ad.add j)=some (.int .i64 x))∧∃ s',At Tra.prog Post g0 u0 (G (c.finish (.int .i64 s')) (cs ++ [c0])) u:=by
 induction d with
 |zero =>
  intro i s a3 a4 a5 a6 a7 a8 a9 a10 hd hm h;rcases y9t hP hcs hs h with ⟨hi,_⟩|⟨_,b3,b4,b5,b6,b7,b8,b9,b10,h⟩
  ·omega
  refine ⟨by omega,fun j h1 h2=>by omega,s,?_⟩;replace h:=h.go hP (stepG_exit (k':=[.code .ret]) rfl) rfl;replace h:=h.go hP stepG_ret' rfl;have e9:stepG Tra.prog true (G { (base 60).at ⟨#[.slice a n cp,.int .i64 s,.int .i64 i,b3,b4,b5,b6,b7,b8,b9,b10],[]⟩ [.code .ret] with mode:=.returning } (c :: (cs ++ [c0]))) u=.go (G (c.finish (.int .i64 s)) (cs ++ [c0])) u:=y8i (i:=1) rfl rfl Tra.func60 (by kernel_rfl);exact h.go hP e9 rfl
 |succ d ih =>
  intro i s a3 a4 a5 a6 a7 a8 a9 a10 hd hm h;rcases y9t hP hcs hs h with ⟨hi,h0,⟨ad,x,ha,hx⟩,s',b3,b4,b5,b6,b7,b8,b9,b10,h⟩|⟨hn,_⟩
  rotate_left
  ·omega
  replace h:=h.go hP stepG_inLoop rfl
  by_cases hmx:i+1≤9223372036854775807
  ·rw [wrap_lo hmx] at h
   obtain ⟨q1,q2,q3⟩:=ih (i+1) _ _ _ _ _ _ _ _ _ (by omega) hmx h;refine ⟨q1,fun j h1 h2=>?_,q3⟩
   by_cases hj:j=i
   ·subst hj
    exact ⟨ad,x,ha,by simpa using hx⟩
   ·exact q2 j (by omega) h2
  ·exfalso
   have e:=wrap_hi hm hmx;rcases y9t hP hcs hs h with ⟨_,h0,_⟩|⟨hn,_⟩
   ·omega
   ·omega
theorem ycf (hP:∀ f t u τ,Post f t u->Post f t (retape u τ)) (hcs:∀ x ∈ c :: cs,x.defers=[]) {v:Value} (hs:∀ a n cp,v=.slice a n cp->yai u a)
  (h:At Tra.prog Post g0 u0 (G (Frame.enter Tra.prog 60 #[v] .normal) (c :: (cs ++ [c0]))) u) :
  ∃ a n cp,v=.slice a n cp∧n≤cp∧n≤9223372036854775807∧(∀ j,j<n->∃ ad x,a=some ad∧u.cell? (ad.add j)=some (.int .i64 x))∧∃ s',At Tra.prog Post g0 u0 (G (c.finish (.int .i64 s')) (cs ++ [c0])) u:=by
 rw [hands60] at h;replace h:=h.go hP stepG_seq rfl;replace h:=h.go hP stepG_region rfl;replace h:At Tra.prog Post g0 u0 (St60 c cs #[v,.int .i64 0,undef,undef,undef,undef,undef,undef,undef,undef,undef] _) u:=h.go hP (stepG_value (o:=wa0) rfl rfl (by decide) (w':=u) (v:=.int .i64 0) (by unfold execOp;simp [go_sem,Act.eval])) rfl;replace h:=h.go hP stepG_region_end rfl;replace h:=h.go hP stepG_seq rfl;replace h:=h.go hP stepG_region rfl;have hsl:∃ a n cp,v=.slice a n cp:=by
  by_cases hz:∃ a n cp,v=.slice a n cp
  ·exact hz
  ·exfalso
   obtain ⟨hh,u1,hr,hc⟩:=len_bad (u:=u) hz;refine h.bad hP hcs (o:=ws0) rfl rfl rfl ⟨hh,u1,?_,hc⟩;unfold execOp;simp [go_sem,Act.eval,hr]
 obtain ⟨a,n,cp,rfl⟩:=hsl;have e1:(execOp (Act.eval ⟨#[.slice a n cp,.int .i64 0,undef,undef,undef,undef,undef,undef,undef,undef,undef],[]⟩) ws0).run Tra.prog u=.ok (.value (.int .i64 n)) u:=by
  unfold execOp;simp [go_sem,Tra.runUnderlying29,Act.eval]
 replace h:At Tra.prog Post g0 u0 (St60 c cs #[.slice a n cp,.int .i64 0,undef,.int .i64 n,undef,undef,undef,undef,undef,undef,undef] _) u:=h.go hP (stepG_value (o:=ws0) rfl rfl (by decide) e1) rfl;have hcap:n≤cp:=by
  by_cases hc:n≤cp
  ·exact hc
  ·exfalso
   refine h.badv hP hcs (o:=ws1) rfl rfl (s:=Instr.sliceAt 29 (.slice a n cp) none (some (.int .i64 n)) none) rfl ?_;obtain ⟨v',u1,hv⟩:∃ v u1,(Instr.sliceAt 29 (.slice a n cp) none (some (.int .i64 n)) none).run Tra.prog u=.halt (.panic v) u1:=by
    simp [Instr.sliceAt,Instr.slice,Instr.sliceBounds,Instr.sliceBound,boundsPanic,runtimePanic,go_sem,Tra.runUnderlying29,hc];split<;>exact ⟨_,_,rfl⟩
   exact ⟨_,u1,hv,trivial⟩
 obtain ⟨y,ey⟩:∃ y,(Instr.sliceAt 29 (.slice a n cp) none (some (.int .i64 n)) none).run Tra.prog u=.ok y u:=by
  simp [Instr.sliceAt,Instr.slice,Instr.sliceBounds,Instr.sliceBound,go_sem,Tra.runUnderlying29,Tra.sizeOf3,hcap]
 have e2:(execOp (Act.eval ⟨#[.slice a n cp,.int .i64 0,undef,.int .i64 n,undef,undef,undef,undef,undef,undef,undef],[]⟩) ws1).run Tra.prog u=.ok (.value y) u:=by
  unfold execOp;simp [go_sem,Act.eval,ey]
 replace h:At Tra.prog Post g0 u0 (St60 c cs #[.slice a n cp,.int .i64 0,undef,.int .i64 n,y,undef,undef,undef,undef,undef,undef] _) u:=h.go hP (stepG_value (o:=ws1) rfl rfl (by decide) e2) rfl;replace h:=h.go hP stepG_region_end rfl;replace h:=h.go hP stepG_seq rfl;replace h:=h.go hP stepG_seq rfl;replace h:=h.go hP stepG_region rfl;replace h:At Tra.prog Post g0 u0 (St60 c cs #[.slice a n cp,.int .i64 0,.int .i64 0,.int .i64 n,y,undef,undef,undef,undef,undef,undef] _) u:=h.go hP (stepG_value (o:=wb0) rfl rfl (by decide) (w':=u) (v:=.int .i64 0) (by unfold execOp;simp [go_sem,Act.eval])) rfl;replace h:=h.go hP stepG_region_end rfl;replace h:=h.go hP stepG_block rfl;replace h:=h.go hP stepG_loop rfl;have h2:At Tra.prog Post g0 u0 (St60 c cs #[.slice a n cp,.int .i64 0,.int .i64 ((0:Nat):Int),.int .i64 n,y,undef,undef,undef,undef,undef,undef] [.code wL,.inLoop wL,.inBlock 0,.code .ret]) u:=h;have e0:0+n=n:=Nat.zero_add n;have q:=loop60 hP hcs (hs a n cp rfl) n 0 0 (.int .i64 n) y undef undef undef undef undef undef e0 (Nat.zero_le _) h2;obtain ⟨q1,q2,q3⟩:=q;exact ⟨a,n,cp,rfl,hcap,q1,fun j hj=>q2 j (Nat.zero_le _) hj,q3⟩
end
end Go.Mt
namespace Go.Proofs.Yw.Wd
open Go.RowKit
structure As0 (p:Prop):Prop where mk :: (out:p)
structure Drawn0 (w w':World):Prop where mk :: (out:∃ n,w'=w.drewN n)
theorem Drawn0.refl (w:World):Drawn0 w w:=⟨⟨0,rfl⟩⟩
theorem Drawn0.step {w w':World} (h:Drawn0 w w') (n:Nat):Drawn0 w (w'.drewN n):=by
 obtain ⟨m,rfl⟩:=h;exact ⟨⟨m+n,World.drewN_drewN ..⟩⟩
theorem Drawn0.below {w w':World} (h:Drawn0 w w'):Below w.heap.size w w':=by
 obtain ⟨n,rfl⟩:=h
 induction n with
 |zero=>exact Below.refl _ _
 |succ n ih=>rw [← World.drew_drewN];exact ih.drew
def rd (xs:List Int) (i:Int):Int:=xs.getD i.toNat 0
def nums (k:IntKind) (xs:List Int):List Value:=xs.map fun x=>.int k x
theorem y02 {w W:World} (h:Below w.heap.size w W) (o:Obj):Below w.heap.size w (W.alloc o):=h.alloc h.size o
theorem yc9 {B:Nat} {w W:World} (h:Below B w W):Below B w W.drew:=⟨h.os,h.tape,h.output,h.size,h.block⟩
theorem y00 {B:Nat} {w W:World} (h:Below B w W) (n:Nat):Below B w (W.drewN n):=⟨h.os,h.tape,h.output,h.size,h.block⟩
theorem yc8 {B:Nat} {w w1 w2:World} (h:Below B w w1) (hB:B≤w1.heap.size) (k:Below w1.heap.size w1 w2):Below B w w2 :=
 h.trans ⟨k.os,k.tape,k.output,k.size,fun i hi=>k.block i (Nat.lt_of_lt_of_le hi hB)⟩
theorem y34 {w w1:World} (h:Below w.heap.size w w1) {a:Addr} {v:Value} (hc:w.cell? a=some v):w1.cell? a=some v:=(h.cell (World.block_lt_of_cell? w a hc)).trans hc
theorem y14 (g j:Nat):(⟨g,0,none⟩:Addr).add j=⟨g,j,none⟩:=by unfold Addr.add;split<;>simp_all
def ReadsInt (w:World) (k:IntKind) (A:Option Addr) (n:Nat) (xs:List Int):Prop :=
 xs.length=n∧n≤9223372036854775807∧(0<n->∃ ad,A=some ad∧∀ j,j<n->w.cell? (ad.add j)=some (.int k (xs.getD j 0)))
theorem ydh (W:World) (base:Nat) (e:TypeId) (size:Nat):W.ownsRow base e size (.slice none 0 0) 0 []:=⟨by simp,.inl ⟨rfl,rfl⟩⟩
theorem y3k {w:World} {base:Nat} {e:TypeId} {size n:Nat} {v:Value} {xs:List Value} (h:w.ownsRow base e size v n xs) (k:Nat) (hk:v.ownBlock=some k):base≤k:=by
 rcases h.2 with ⟨rfl,_⟩|⟨g,cap,cur,rfl,hb,_⟩
 ·simp [Value.ownBlock] at hk
 ·have:g=k:=by simpa [Value.ownBlock] using hk
  omega
theorem own_lt {w:World} {base:Nat} {e:TypeId} {size n:Nat} {v:Value} {xs:List Value} (h:w.ownsRow base e size v n xs) (k:Nat) (hk:v.ownBlock=some k):k<w.heap.size:=by
 rcases h.2 with ⟨rfl,_⟩|⟨g,cap,cur,rfl,hb,hh,_⟩
 ·simp [Value.ownBlock] at hk
 ·have:g=k:=by simpa [Value.ownBlock] using hk
  subst this;exact (zGe hh).1
def LeO {α:Type} (a b:Option α):Prop:=∀ r,a=some r->b=some r
theorem LeO.none {α:Type} (b:Option α):LeO Option.none b:=fun _ h=>by cases h
def Reps {α:Type} (R:α->List Value->Prop) (size:Nat) (ps:List α) (cs:List Value):Prop :=
 cs.length=ps.length * size∧∀ j p,ps[j]?=some p->R p ((cs.drop (j * size)).take size)
theorem Reps.none {α:Type} (R:α->List Value->Prop) (size:Nat):Reps R size [] []:=⟨by simp,fun j p h=>by simp at h⟩
theorem Reps.snoc {α:Type} {R:α->List Value->Prop} {size:Nat} {ps:List α} {cs c:List Value} {p:α} (h:Reps R size ps cs) (hp:R p c) (hc:c.length=size):Reps R size (ps ++ [p]) (cs ++ c):=by
 refine ⟨by rw [List.length_append,h.1,hc,List.length_append,List.length_singleton,Nat.add_mul,Nat.one_mul],fun j q hq=>?_⟩;rcases Nat.lt_or_ge j ps.length with hj|hj
 ·rw [List.getElem?_append_left hj] at hq
  have h1:j * size+size≤cs.length:=by rw [h.1,← Nat.succ_mul];exact Nat.mul_le_mul_right _ hj
  have h2:=h.2 j q hq;rw [List.drop_append_of_le_length (by omega),List.take_append_of_le_length (by rw [List.length_drop];omega)];exact h2
 ·have hj':j=ps.length:=by
   have:=(List.getElem?_eq_some_iff.1 hq).1;rw [List.length_append,List.length_singleton] at this;omega
  subst hj';have hq':p=q:=by simpa using hq
  subst hq';rw [← h.1,List.drop_left,← hc,List.take_length];exact hp
theorem Reps.imp_ {α:Type} {R R':α->List Value->Prop} {size:Nat} {ps:List α} {cs:List Value} (h:Reps R size ps cs) (hR:∀ p c,R p c->R' p c):Reps R' size ps cs:=⟨h.1,fun j p hj=>hR _ _ (h.2 j p hj)⟩
def ReadsRow {α:Type} (R:α->List Value->Prop) (size:Nat) (w:World) (A:Option Addr) (n:Nat) (ps:List α):Prop :=
 ps.length=n∧n≤9223372036854775807∧(0<n->∃ ad,A=some ad∧∀ j p,ps[j]?=some p->∃ c,c.length=size∧R p c∧∀ i u,c[i]?=some u->w.cell? (ad.add (j * size+i))=some u)
theorem ReadsRow.get_ {α:Type} {R:α->List Value->Prop} {size:Nat} {w:World} {A:Option Addr} {n:Nat} {ps:List α} (h:ReadsRow R size w A n ps) (d:α) (i:Int) (h0:0≤i) (h1:i<n) :
  ∃ ad c,A=some ad∧c.length=size∧R (ps.getD i.toNat d) c∧∀ j u,c[j]?=some u->w.cell? (ad.add (i.toNat * size+j))=some u:=by
 obtain ⟨ad,e,hc⟩:=h.2.2 (by omega);have hl:i.toNat<ps.length:=by have:=h.1;omega
 obtain ⟨c,hs,hr,hcell⟩:=hc i.toNat _ (List.getElem?_eq_getElem hl);refine ⟨ad,c,e,hs,?_,hcell⟩;rw [List.getD_eq_getElem?_getD,List.getElem?_eq_getElem hl];exact hr
theorem ReadsRow.imp_ {α:Type} {R R':α->List Value->Prop} {size:Nat} {w w1:World} {A:Option Addr} {n:Nat} {ps:List α} (h:ReadsRow R size w A n ps) (hb:Below w.heap.size w w1) (hR:∀ p c,R p c->R' p c):ReadsRow R' size w1 A n ps :=
 ⟨h.1,h.2.1,fun hn=>by
  obtain ⟨ad,e,hc⟩:=h.2.2 hn;refine ⟨ad,e,fun j p hj=>?_⟩;obtain ⟨c,hs,hr,hcell⟩:=hc j p hj;exact ⟨c,hs,hR _ _ hr,fun i u hu=>y34 hb (hcell i u hu)⟩⟩
theorem y7s {α:Type} {R:α->List Value->Prop} {w:World} {base n size:Nat} {e:TypeId} {v:Value} {ps:List α} {cs:List Value} (h:w.ownsRow base e size v n cs) (hR:Reps R size ps cs) (hn:ps.length=n) :
  ∃ A c,v=.slice A n c∧ReadsRow R size w A n ps:=by
 rcases Nat.eq_zero_or_pos n with h0|h0
 ·rcases h.2 with ⟨rfl,rfl⟩|⟨g,cap,cur,rfl,_⟩
  ·exact ⟨none,0,rfl,hn,by omega,fun hp=>absurd hp (by omega)⟩
  ·exact ⟨_,cap,rfl,hn,by omega,fun hp=>absurd hp (by omega)⟩
 ·obtain ⟨g,cap,rfl,_,_⟩:=h.form h0
  have hm:n≤9223372036854775807:=by
   rcases h.2 with ⟨_,h1⟩|⟨g',cap',cur,he,_,_,h1,h2,_⟩
   ·omega
   ·simp only [maxLen] at h2
    omega
  refine ⟨_,cap,rfl,hn,hm,fun _=>⟨_,rfl,fun j p hj=>⟨(cs.drop (j * size)).take size,?_,hR.2 j p hj,fun i u hu=>?_⟩⟩⟩
  ·have hjl:=(List.getElem?_eq_some_iff.1 hj).1
   have h1:j * size+size≤cs.length:=by rw [hR.1,← Nat.succ_mul];exact Nat.mul_le_mul_right _ hjl
   rw [List.length_take,List.length_drop];omega
  ·refine h.cells (g:=g) rfl _ u ?_
   rw [List.getElem?_take] at hu;split at hu
   ·rw [List.getElem?_drop] at hu
    exact hu
   ·cases hu
section
variable {P:Program} {ops:Array Oper} {rest:List Oper} {o:Oper} {a:Act} {Q:Exit->Act->World->Prop}
theorem y43 {w0 W:World} (base:Nat) (hgd:o.guard=none) (s x:Operand) (t e:TypeId) (z:Value) (size bytes:Nat)
  (ho:o.op=.call { callee:=.builtin .append,args:=#[s,x],argTypes:=#[t,t] })
  (ht:P.underlying t=some (.slice e)) (hinfo:(P.info? e).map (fun i=>(i.zero,i.size,i.bytes))=some (some z,size,bytes)) (hz:z.cells.size=size) (hs0:0<size) (hb0:0<bytes)
  (v:Value) (n:Nat) (xs ys:List Value) (hs:a.eval s=v) (hx:a.eval x=.slice (some ⟨W.heap.size,0,none⟩) 1 1) (hys:ys.length=size) (h1:∀ u ∈ ys,u.oneCell'=true)
  (HO:W.ownsRow base e size v n xs) (HB:Below base w0 W) (hbase:base≤W.heap.size) (hl:(n+1) * bytes≤140737488355328)
  (h:∀ v1 w1,w1.ownsRow base e size v1 (n+1) (xs ++ ys)->Below base w0 w1->W.grownBy w1 v.ownBlock->(v1.ownBlock=v.ownBlock∨∃ b,v1.ownBlock=some b∧W.heap.size≤b)->wpList P ops Q rest (a.put o.dst v1) w1) :
  wpList P ops Q (o :: rest) a (W.alloc (.cells ys.toArray e)):=by
 obtain ⟨i0,hi,hzz⟩:=Option.map_eq_some_iff.1 hinfo;simp only [Prod.mk.injEq] at hzz;obtain ⟨hz0,hz1,hz2⟩:=hzz;have hlen:n+1≤140737488355328:=Nat.le_trans (Nat.le_mul_of_pos_right _ hb0) hl;refine wpList_append_own_at (W.alloc (.cells ys.toArray e)) hgd s x t ho base e i0 z size bytes ht hi hz0 hz1 hz2 hz hs0 v n xs hs (HO.alloc _) ⟨W.heap.size,0,none⟩ 1 1 ys hx (by rw [hys];simp)
  (by simpa using World.news_of_block (cs:=ys.toArray) (t:=e) (fr:=(0,0)) (heap_alloc_new W (.cells ys.toArray e))) h1 (by simp only [maxLen];omega) hl (by simp;omega) ?_
 intro v1 w1 hown hg _ hat;refine h v1 w1 hown ((HB.alloc hbase _).grown hg (by simp;omega) (y3k HO)) (World.grownBy.trans (World.grownBy_alloc W _ _) hg) ?_;rcases hat with hat|hat
 ·exact .inl hat
 ·exact .inr ⟨_,hat,by simp⟩
end
theorem own_ne {w:World} {base:Nat} {e t:TypeId} {size n g:Nat} {v:Value} {xs:List Value} {cs:Array Value} (h:w.ownsRow base e size v n xs) (hg:w.heap[g]?=some (.cells cs t (0,0))) (hne:e≠t):some g≠v.ownBlock:=by
 rcases h.2 with ⟨rfl,_⟩|⟨g',cap,cur,rfl,_,hh,_⟩
 ·simp [Value.ownBlock]
 ·intro he
  have:g=g':=by simpa [Value.ownBlock] using he
  subst this;rw [hg] at hh;injection hh with hh
  injection hh with _ ht
  exact hne ht.symm
theorem blk_set {w:World} {g:Nat} {t:TypeId} {cs:Array Value} (h:w.heap[g]?=some (.cells cs t (0,0))) (i:Nat) (u:Value):(w.setCell ⟨g,i,none⟩ u).heap[g]?=some (.cells (cs.setIfInBounds i u) t (0,0)):=by
 simp [World.setCell,Array.getElem?_modify,h]
theorem y87 {w:World} {g:Nat} {t:TypeId} {cs:Array Value} (h:w.heap[g]?=some (.cells cs t (0,0))) {p:Addr} (hp:g≠p.block) (u:Value):(w.setCell p u).heap[g]?=some (.cells cs t (0,0)):=(Below.heap_setCell w p u g hp).trans h
theorem y4s {w:World} {g:Nat} {o:Obj} (h:w.heap[g]?=some o):g<w.heap.size:=(zGe h).1
theorem y0i {w:World} {g:Nat} {t:TypeId} {cs:Array Value} (h:w.heap[g]?=some (.cells cs t (0,0))) (i:Nat):w.cell? ⟨g,i,none⟩=cs[i]?:=cell_of_row w g i cs t (0,0) h
theorem y0f {w:World} {g:Nat} {t:TypeId} {cs:Array Value} (h:w.heap[g]?=some (.cells cs t (0,0))) (i:Nat):w.frozen? ⟨g,i,none⟩=false:=by simp [World.frozen?,h]
theorem yeb {w w1:World} {g:Nat} {o:Obj} {row:Option Nat} (h:w.heap[g]?=some o) (hg:w.grownBy w1 row) (hne:some g≠row):w1.heap[g]?=some o:=(hg.block g (y4s h) hne).trans h
section
variable {P:Program} {ops:Array Oper} {o:Oper} {a:Act} {Q:Exit->Act->World->Prop} {K:Act->World->Prop}
theorem y4b {w0 W:World} (base:Nat) (hw:Region.wanted o (yielded ops a.tmps)=true) (s x:Operand) (t e:TypeId) (z:Value) (size bytes:Nat)
  (ho:o.op=.call { callee:=.builtin .append,args:=#[s,x],argTypes:=#[t,t] })
  (ht:P.underlying t=some (.slice e)) (hinfo:(P.info? e).map (fun i=>(i.zero,i.size,i.bytes))=some (some z,size,bytes)) (hz:z.cells.size=size) (hs0:0<size) (hb0:0<bytes)
  (v:Value) (n:Nat) (xs ys:List Value) (hs:a.eval s=v) (hx:a.eval x=.slice (some ⟨W.heap.size,0,none⟩) 1 1) (hys:ys.length=size) (h1:∀ u ∈ ys,u.oneCell'=true)
  (HO:W.ownsRow base e size v n xs) (HB:Below base w0 W) (hbase:base≤W.heap.size) (hl:(n+1) * bytes≤140737488355328)
  (h:∀ v1 w1,w1.ownsRow base e size v1 (n+1) (xs ++ ys)->Below base w0 w1->W.grownBy w1 v.ownBlock->(v1.ownBlock=v.ownBlock∨∃ b,v1.ownBlock=some b∧W.heap.size≤b)->K (a.put o.dst v1) w1) :
  if Region.wanted o (yielded ops a.tmps)=true then Oper.wp P o a (W.alloc (.cells ys.toArray e)) K Q else K (a.put o.dst undef) (W.alloc (.cells ys.toArray e)):=by
 obtain ⟨i0,hi,hzz⟩:=Option.map_eq_some_iff.1 hinfo;simp only [Prod.mk.injEq] at hzz;obtain ⟨hz0,hz1,hz2⟩:=hzz;have hlen:n+1≤140737488355328:=Nat.le_trans (Nat.le_mul_of_pos_right _ hb0) hl;rw [if_pos hw];obtain ⟨v1,w1,hr,hown,hg,_,hat⟩:=run_append_own_at (P:=P) (W.alloc (.cells ys.toArray e)) base t o.type e i0 z size bytes ht hi hz0 hz1 hz2 hz hs0 v n xs (HO.alloc _) ⟨W.heap.size,0,none⟩ 1 1 ys (by rw [hys];simp)
  (by simpa using World.news_of_block (cs:=ys.toArray) (t:=e) (fr:=(0,0)) (heap_alloc_new W (.cells ys.toArray e))) h1 (by simp only [maxLen];omega) hl (by simp;omega)
 unfold Oper.wp execOp;simp only [ho,resolve,invoke,builtin,Sem.run_bind,Sem.run_pure,Result.andThen_ok,List.map_toArray,List.map_cons,List.map_nil,hs,hx,hr];refine h v1 w1 hown ((HB.alloc hbase _).grown hg (by simp;omega) (y3k HO)) (World.grownBy.trans (World.grownBy_alloc W _ _) hg) ?_;rcases hat with hat|hat
 ·exact .inl hat
 ·exact .inr ⟨_,hat,by simp⟩
end
theorem y6w {w:World} {base base':Nat} {e:TypeId} {size n:Nat} {v:Value} {xs:List Value} (h:w.ownsRow base e size v n xs) (hb:base'≤base):w.ownsRow base' e size v n xs:=by
 obtain ⟨h1,h2⟩:=h;refine ⟨h1,?_⟩;rcases h2 with h2|⟨g,cap,cur,rfl,hg,r⟩
 ·exact .inl h2
 ·exact .inr ⟨g,cap,cur,rfl,Nat.le_trans hb hg,r⟩
section
variable {α:Type} {enc:α->Value} {d:α}
def encs (enc:α->Value) (xs:List α):List Value:=xs.map enc
def rdOf (d:α) (xs:List α) (i:Int):α:=xs.getD i.toNat d
theorem y62 (xs:List α):(encs enc xs).length=xs.length:=by simp [encs]
theorem yfh (xs:List α) (j:Nat) (h:j<xs.length):(encs enc xs)[j]?=some (enc (xs.getD j d)):=by
 simp [encs,List.getElem?_eq_getElem h,List.getD_eq_getElem?_getD]
def ReadsOf (enc:α->Value) (d:α) (w:World) (A:Option Addr) (n:Nat) (xs:List α):Prop :=
 xs.length=n∧n≤9223372036854775807∧(0<n->∃ ad,A=some ad∧∀ j,j<n->w.cell? (ad.add j)=some (enc (xs.getD j d)))
theorem ReadsOf.at_ {w:World} {A:Option Addr} {n:Nat} {xs:List α} (h:ReadsOf enc d w A n xs) (i:Int) (h0:0≤i) (h1:i<n):∃ ad,A=some ad∧w.cell? (ad.add i.toNat)=some (enc (rdOf d xs i)):=by
 obtain ⟨ad,e,hc⟩:=h.2.2 (by omega);exact ⟨ad,e,hc _ (by omega)⟩
theorem ReadsOf.take_ {w:World} {A:Option Addr} {n:Nat} {xs:List α} (h:ReadsOf enc d w A n xs) (i:Nat) (hi:i≤n):ReadsOf enc d w A i (xs.take i):=by
 refine ⟨by rw [List.length_take,h.1];omega,by have:=h.2.1;omega,fun hp=>?_⟩;obtain ⟨ad,e,hc⟩:=h.2.2 (by omega);refine ⟨ad,e,fun j hj=>?_⟩;rw [hc j (by omega)];simp [List.getD_eq_getElem?_getD,hj]
theorem ReadsOf.drop_ {w:World} {A:Option Addr} {n c:Nat} {xs:List α} (h:ReadsOf enc d w A n xs) (i:Nat) (hi:i≤n) (hc:n≤c):ReadsOf enc d w (if c=i then A else A.map (·.add i)) (n - i) (xs.drop i):=by
 refine ⟨by rw [List.length_drop,h.1],by have:=h.2.1;omega,fun hp=>?_⟩;obtain ⟨ad,rfl,hcell⟩:=h.2.2 (by omega);rw [if_neg (by omega)];refine ⟨ad.add i,rfl,fun j hj=>?_⟩;have ha:(ad.add i).add j=ad.add (i+j):=by
  unfold Addr.add
  by_cases h1:i=0<;>by_cases h2:j=0<;>simp [h1,h2,Nat.add_assoc]
 rw [ha,hcell (i+j) (by omega)];simp [List.getD_eq_getElem?_getD,List.getElem?_drop]
theorem y92 {P:Program} (enc:α->Value) (d:α) (t e:TypeId) (kl:IntKind) {i:TypeInfo} (ht:P.underlying t=some (.slice e)) (hi:P.info? e=some i) (hsz:i.size=1) (A:Option Addr) (n c m:Nat) (hm:m≤n) :
  ∃ A':Option Addr,(∀ W:World,(Instr.slice t (.slice A n c) (some (.int kl (m:Int))) none none).run P W=.ok (.slice A' (n - m) (c - m)) W) ∧
   ∀ (w:World) (xs:List α),n≤c->ReadsOf enc d w A n xs->ReadsOf enc d w A' (n - m) (xs.drop m):=by
 refine ⟨if c=m then A else A.map (·.add m),fun W=>?_,fun w xs hc h=>h.drop_ m hm hc⟩;have hel:P.elem t=e:=by simp [Program.elem,ht]
 have hu:P.underlying t=some (.slice (P.elem t)):=by rw [hel];exact ht
 rw [run_slice_l W t A n c hu kl (m:Int) (Int.natCast_nonneg _) (by omega),hel];simp [sizeOf,typeInfo,hi,hsz,sliced,Result.andThen]
theorem ydi {W:World} {base g n cap:Nat} {e:TypeId} {xs:List α} (h:W.ownsRow base e 1 (.slice (some ⟨g,0,none⟩) n cap) n (encs enc xs)) (i:Int) (h0:0≤i) (h1:i<n) :
  W.cell? ⟨g,i.toNat,none⟩=some (enc (rdOf d xs i))∧W.frozen? ⟨g,i.toNat,none⟩=false:=by
 have hl:xs.length=n:=by have:=h.1;simp [encs] at this;exact this
 constructor
 ·have hc:=h.cells (g:=g) rfl i.toNat _ (yfh (d:=d) xs i.toNat (by omega))
  rwa [y14] at hc
 ·rcases h.2 with ⟨h',_⟩|⟨g',cap',cur,h',_,hh,_⟩
  ·cases h'
  ·have:g=g':=by injection h' with h';injection h' with h';injection h' with h'
   subst this;simp [World.frozen?,hh]
theorem y95 {W:World} {base g n cap:Nat} {e:TypeId} {xs:List α} (h:W.ownsRow base e 1 (.slice (some ⟨g,0,none⟩) n cap) n (encs enc xs)) (i:Int) (x:α) :
  (W.setCell ⟨g,i.toNat,none⟩ (enc x)).ownsRow base e 1 (.slice (some ⟨g,0,none⟩) n cap) n (encs enc (xs.set i.toNat x))∧W.grownBy (W.setCell ⟨g,i.toNat,none⟩ (enc x)) (some g):=by
 have hs:=h.stored i.toNat (enc x);have he:(encs enc xs).set i.toNat (enc x)=encs enc (xs.set i.toNat x):=by simp [encs,List.map_set]
 rwa [he] at hs
end
theorem y0c {w:World} {g:Nat} {o:Obj} (h:w.heap[g]?=some o) (n:Nat):(w.drewN n).heap[g]?=some o:=h
theorem y1d {w w1:World} {g:Nat} {o:Obj} (h:w.heap[g]?=some o) (hb:Below w.heap.size w w1):w1.heap[g]?=some o:=(hb.block g (y4s h)).trans h
theorem blk_new (w:World) (o:Obj):(w.alloc o).heap[w.heap.size]?=some o:=heap_alloc_new w o
section
variable {P:Program}
theorem y6o {fn:Func} {p u:Tmp} {ty:TypeId} (h:fn.results=#[.cell p ty,.tmp u]) (tmps:Array Value) (w:World) (g:Nat) (t:TypeId) (cs:Array Value) (fr:Nat × Nat) (d:TypeDesc)
  (hp:tmps.getD p undef=.pointer (some ⟨g,0,none⟩)) (hg:w.heap[g]?=some (.cells cs t fr))
  (hu:P.underlying ty=some d) (hd:(match d with|.struct _|.array _ _=>true|_=>false)=true) (hi:(P.info? ty).map (·.size)=some cs.size) :
  (results fn tmps).run P w=.ok (.tuple #[.agg cs,tmps.getD u undef]) w:=by
 have hp':tmps[p]?.getD undef=.pointer (some ⟨g,0,none⟩):=by simpa using hp
 simp [results,h,hp',asAddr,run_loadVar_row w g t ty cs fr d hg hu hd hi]
theorem y5e {fn:Func} {p u v:Tmp} {ty:TypeId} (h:fn.results=#[.cell p ty,.tmp u,.tmp v]) (tmps:Array Value) (w:World) (g:Nat) (t:TypeId) (cs:Array Value) (fr:Nat × Nat) (d:TypeDesc)
  (hp:tmps.getD p undef=.pointer (some ⟨g,0,none⟩)) (hg:w.heap[g]?=some (.cells cs t fr))
  (hu:P.underlying ty=some d) (hd:(match d with|.struct _|.array _ _=>true|_=>false)=true) (hi:(P.info? ty).map (·.size)=some cs.size) :
  (results fn tmps).run P w=.ok (.tuple #[.agg cs,tmps.getD u undef,tmps.getD v undef]) w:=by
 have hp':tmps[p]?.getD undef=.pointer (some ⟨g,0,none⟩):=by simpa using hp
 simp [results,h,hp',asAddr,run_loadVar_row w g t ty cs fr d hg hu hd hi]
end
theorem own_le {w:World} {base n m c size:Nat} {e:TypeId} {A:Option Addr} {xs:List Value} (h:w.ownsRow base e size (.slice A m c) n xs):m≤c:=by
 rcases h.2 with ⟨he,_⟩|⟨g,cap,cur,he,_,_,hnc,_⟩
 ·injection he with _ h2 h3
  omega
 ·injection he with _ h2 h3
  omega
def OwnRow {α:Type} (R:α->List Value->Prop) (e:TypeId) (size:Nat) (w:World) (base:Nat) (v:Value) (ps:List α):Prop :=
 ∃ inner,w.ownsRow base e size v ps.length inner∧Reps R size ps inner
section
variable {α:Type} {R R':α->List Value->Prop} {e:TypeId} {size:Nat} {w w1:World} {base:Nat} {v:Value} {ps:List α}
theorem OwnRow.none_ (R:α->List Value->Prop) (e:TypeId) (size:Nat) (w:World) (base:Nat):OwnRow R e size w base (.slice none 0 0) []:=⟨[],ydh _ _ _ _,Reps.none _ _⟩
theorem OwnRow.imp_ (h:OwnRow R e size w base v ps) (hR:∀ p c,R p c->R' p c):OwnRow R' e size w base v ps:=by
 obtain ⟨inner,ho,hr⟩:=h;exact ⟨inner,ho,hr.imp_ hR⟩
theorem OwnRow.reads (h:OwnRow R e size w base v ps):∃ A c,v=.slice A ps.length c∧ps.length≤c∧ReadsRow R size w A ps.length ps:=by
 obtain ⟨inner,ho,hr⟩:=h;obtain ⟨A,c,rfl,hrow⟩:=y7s ho hr rfl;exact ⟨A,c,rfl,own_le ho,hrow⟩
theorem OwnRow.ne_block (h:OwnRow R e size w base v ps) {g:Nat} {t:TypeId} {cells:Array Value} (hb:w.heap[g]?=some (.cells cells t (0,0))) (ht:e≠t):some g≠v.ownBlock:=by
 obtain ⟨inner,ho,hr⟩:=h;exact own_ne ho hb ht
end
theorem ReadsRow.inner_ {α:Type} {R:α->List Value->Prop} {size:Nat} {w:World} {ad:Addr} {n:Nat} {ps:List α} (h:ReadsRow R size w (some ad) n ps) :
  ∃ inner,Reps R size ps inner∧∀ j u,inner[j]?=some u->w.cell? (ad.add j)=some u:=by
 have key:∀ m,m≤ps.length->∃ inner,Reps R size (ps.take m) inner∧∀ j u,inner[j]?=some u->w.cell? (ad.add j)=some u:=by
  intro m
  induction m with
  |zero=>exact fun _=>⟨[],Reps.none _ _,fun j u hu=>by simp at hu⟩
  |succ m ih =>
   intro hm;obtain ⟨inner,hr,hc⟩:=ih (by omega);obtain ⟨ad',he,hcell⟩:=h.2.2 (by have:=h.1;omega);injection he with he
   subst he;obtain ⟨c,hcl,hp,hcc⟩:=hcell m _ (List.getElem?_eq_getElem (show m<ps.length by omega));refine ⟨inner ++ c,?_,fun j u hu=>?_⟩
   ·rw [List.take_succ_eq_append_getElem (show m<ps.length by omega)]
    exact hr.snoc hp hcl
   ·have hil:inner.length=m * size:=by rw [hr.1,List.length_take,Nat.min_eq_left (by omega)]
    rcases Nat.lt_or_ge j inner.length with hj|hj
    ·rw [List.getElem?_append_left hj] at hu
     exact hc j u hu
    ·rw [List.getElem?_append_right hj] at hu
     have:=hcc (j - inner.length) u hu
     rwa [hil,Nat.add_sub_cancel' (by omega)] at this
 obtain ⟨inner,hr,hc⟩:=key ps.length (zLe _);rw [List.take_length] at hr;exact ⟨inner,hr,hc⟩
section
variable {α:Type} {P:Program}
theorem y7q (enc:α->Value) (d:α) (t e:TypeId) (kl:IntKind) {i:TypeInfo} (ht:P.underlying t=some (.slice e)) (hi:P.info? e=some i) (hsz:i.size=1) (A:Option Addr) (c:Nat) (xs:List α) (j:Int) (h0:0≤j) (hm:j≤xs.length) (hc:xs.length≤c) :
  (∀ W:World,(Instr.slice t (.slice A xs.length c) none (some (.int kl j)) none).run P W=.ok (.slice A (xs.take j.toNat).length c) W) ∧
   (∀ w:World,ReadsOf enc d w A xs.length xs->ReadsOf enc d w A (xs.take j.toNat).length (xs.take j.toNat))∧(xs.take j.toNat).length≤c:=by
 have hl:(xs.take j.toNat).length=j.toNat:=by rw [List.length_take];omega
 refine ⟨fun W=>?_,fun w h=>by rw [hl];exact h.take_ j.toNat (by omega),by rw [hl];omega⟩;have hel:P.elem t=e:=by simp [Program.elem,ht]
 have hu:P.underlying t=some (.slice (P.elem t)):=by rw [hel];exact ht
 have ha:(A.map fun x=>x.add 0)=A:=by cases A<;>simp [Addr.add]
 rw [run_slice_h W t A xs.length c hu kl j h0 (by omega),hel,hl];simp [sizeOf,typeInfo,hi,hsz,sliced,Result.andThen,ha]
theorem y7r (enc:α->Value) (d:α) (t e:TypeId) (kl:IntKind) {i:TypeInfo} (ht:P.underlying t=some (.slice e)) (hi:P.info? e=some i) (hsz:i.size=1) (A:Option Addr) (c:Nat) (xs:List α) (j:Int) (h0:0≤j) (hm:j≤xs.length) (hc:xs.length≤c) :
  ∃ A':Option Addr,(∀ W:World,(Instr.slice t (.slice A xs.length c) (some (.int kl j)) none none).run P W=.ok (.slice A' (xs.drop j.toNat).length (c - j.toNat)) W) ∧
   (∀ w:World,ReadsOf enc d w A xs.length xs->ReadsOf enc d w A' (xs.drop j.toNat).length (xs.drop j.toNat))∧(xs.drop j.toNat).length≤c - j.toNat:=by
 obtain ⟨m,rfl⟩:=Int.eq_ofNat_of_zero_le h0;simp only [Int.toNat_natCast];have hmn:m≤xs.length:=by omega
 obtain ⟨A',h1,h2⟩:=y92 (P:=P) enc d t e kl ht hi hsz A xs.length c m hmn;have hl:(xs.drop m).length=xs.length - m:=List.length_drop;exact ⟨A',fun W=>by rw [hl];exact h1 W,fun w h=>by rw [hl];exact h2 w xs hc h,by rw [hl];omega⟩
theorem y91 (enc:α->Value) (d:α) (t e:TypeId) (kl kh:IntKind) {i:TypeInfo} (ht:P.underlying t=some (.slice e)) (hi:P.info? e=some i) (hsz:i.size=1) (A:Option Addr) (c:Nat) (xs:List α) (a b:Int) (h0:0≤a) (h1:a≤b) (hm:b≤xs.length) (hc:xs.length≤c) :
  ∃ A':Option Addr,(∀ W:World,(Instr.slice t (.slice A xs.length c) (some (.int kl a)) (some (.int kh b)) none).run P W=.ok (.slice A' ((xs.take b.toNat).drop a.toNat).length (c - a.toNat)) W) ∧
   (∀ w:World,ReadsOf enc d w A xs.length xs->ReadsOf enc d w A' ((xs.take b.toNat).drop a.toNat).length ((xs.take b.toNat).drop a.toNat))∧((xs.take b.toNat).drop a.toNat).length≤c - a.toNat:=by
 have hlt:(xs.take b.toNat).length=b.toNat:=by rw [List.length_take];omega
 have hl:((xs.take b.toNat).drop a.toNat).length=b.toNat - a.toNat:=by rw [List.length_drop,hlt]
 refine ⟨if c=a.toNat then A else A.map (·.add a.toNat),fun W=>?_,fun w h=>?_,by rw [hl];omega⟩
 ·have hel:P.elem t=e:=by simp [Program.elem,ht]
  have hu:P.underlying t=some (.slice (P.elem t)):=by rw [hel];exact ht
  rw [run_slice_lh W t A xs.length c hu kl kh a b h0 h1 (by omega),hel,hl];simp [sizeOf,typeInfo,hi,hsz,sliced,Result.andThen]
 ·have h2:=(h.take_ b.toNat (by omega)).drop_ (c:=c) a.toNat (by omega) (by omega)
  rw [hl];exact h2
end
structure Kd (α:Type) where
 sz:Nat
 E:List Nat
 K:World->α->List Value->Prop
 M:World->Nat->(Nat->Prop)->α->List Value->Prop
 K_len:∀ {w x cs},K w x cs->cs.length=sz
 K_one:∀ {w x cs},K w x cs->∀ u ∈ cs,u.oneCell'=true
 K_below:∀ {w w1:World} {x cs},Below w.heap.size w w1->K w x cs->K w1 x cs
 K_of_M:∀ {w base ok x cs},M w base ok x cs->K w x cs
 M_mono:∀ {w base ok ok' x cs},(∀ k,ok k->ok' k)->M w base ok x cs->M w base ok' x cs
 M_bound:∀ {w:World} {base ok x cs},M w base ok x cs->M w base (fun k=>ok k∧base≤k∧k<w.heap.size∧∃ q,q ∈ E∧∃ cells,w.heap[k]?=some (.cells cells q (0,0))) x cs
 M_move:∀ {w w1:World} {base ok x cs},(∀ k,ok k->w1.heap[k]?=w.heap[k]?)->M w base ok x cs->M w1 base ok x cs
 M_lower:∀ {w base base' ok x cs},base'≤base->M w base ok x cs->M w base' ok x cs
theorem yaw {w w1:World} {base:Nat} {e:TypeId} {size n:Nat} {v:Value} {xs:List Value} (h:w.ownsRow base e size v n xs) (hm:∀ k,v.ownBlock=some k->w1.heap[k]?=w.heap[k]?):w1.ownsRow base e size v n xs:=by
 obtain ⟨h1,h2⟩:=h;refine ⟨h1,?_⟩;rcases h2 with h2|⟨g,cap,cur,rfl,hg,hh,r⟩
 ·exact .inl h2
 ·exact .inr ⟨g,cap,cur,rfl,hg,(hm g (by simp [Value.ownBlock])).trans hh,r⟩
theorem y44 {w:World} {base:Nat} {e:TypeId} {size n:Nat} {v:Value} {xs:List Value} (h:w.ownsRow base e size v n xs) (k:Nat) (hk:v.ownBlock=some k):∃ cells,w.heap[k]?=some (.cells cells e (0,0)):=by
 rcases h.2 with ⟨rfl,_⟩|⟨g,cap,cur,rfl,hg,hh,r⟩
 ·simp [Value.ownBlock] at hk
 ·have:g=k:=by simpa [Value.ownBlock] using hk
  subst this;exact ⟨cur,hh⟩
namespace Kd
def C {α:Type} (d:Kd α) (w:World) (A:Option Addr) (n:Nat) (xs:List α):Prop:=ReadsRow (d.K w) d.sz w A n xs
def R {α:Type} (d:Kd α) (e:Nat) (w:World) (base:Nat) (ok:Nat->Prop) (v:Value) (xs:List α):Prop :=
 (∀ k,v.ownBlock=some k->ok k)∧OwnRow (d.M w base (fun k=>ok k∧some k≠v.ownBlock)) e d.sz w base v xs
section
variable {α:Type} {d:Kd α} {e:Nat} {w w1:World} {base:Nat} {ok ok':Nat->Prop} {v:Value} {xs:List α}
theorem C_below {A:Option Addr} {n:Nat} (h:d.C w A n xs) (hb:Below w.heap.size w w1):d.C w1 A n xs:=ReadsRow.imp_ h hb (fun _ _ hp=>d.K_below hb hp)
theorem R_nil (d:Kd α) (e:Nat) (w:World) (base:Nat) (ok:Nat->Prop):d.R e w base ok (.slice none 0 0) []:=⟨fun k hk=>by simp [Value.ownBlock] at hk,OwnRow.none_ _ _ _ _ _⟩
theorem R_mono (h:d.R e w base ok v xs) (hok:∀ k,ok k->ok' k):d.R e w base ok' v xs:=⟨fun k hk=>hok k (h.1 k hk),h.2.imp_ (fun _ _ hp=>d.M_mono (fun k hk=>⟨hok k hk.1,hk.2⟩) hp)⟩
theorem y3i (h:d.R e w base ok v xs):d.R e w base (fun k=>ok k∧base≤k∧k<w.heap.size∧∃ q,q ∈ e :: d.E∧∃ cells,w.heap[k]?=some (.cells cells q (0,0))) v xs:=by
 obtain ⟨h0,inner,ho,hr⟩:=h;refine ⟨fun k hk=>?_,inner,ho,hr.imp_ (fun _ _ hp=>d.M_mono (fun k hk=>?_) (d.M_bound hp))⟩
 ·obtain ⟨cells,hc⟩:=y44 ho k hk
  exact ⟨h0 k hk,y3k ho k hk,own_lt ho k hk,e,List.mem_cons_self,cells,hc⟩
 ·obtain ⟨⟨h1,h2⟩,h3,h4,q,hq,hc⟩:=hk
  exact ⟨⟨h1,h3,h4,q,List.mem_cons_of_mem _ hq,hc⟩,h2⟩
theorem yba (h:d.R e w base ok v xs) (hm:∀ k,ok k->w1.heap[k]?=w.heap[k]?):d.R e w1 base ok v xs:=by
 obtain ⟨h0,inner,ho,hr⟩:=h;exact ⟨h0,inner,yaw ho (fun k hk=>hm k (h0 k hk)),hr.imp_ (fun _ _ hp=>d.M_move (fun k hk=>hm k hk.1) hp)⟩
theorem R_lower {base':Nat} (h:d.R e w base ok v xs) (hb:base'≤base):d.R e w base' ok v xs:=by
 obtain ⟨h0,inner,ho,hr⟩:=h;exact ⟨h0,inner,y6w ho hb,hr.imp_ (fun _ _ hp=>d.M_lower hb hp)⟩
theorem yb9 (h:d.R e w base ok v xs) (hm:∀ k,ok k->k<w.heap.size->w1.heap[k]?=w.heap[k]?):d.R e w1 base ok v xs :=
 R_mono (yba (y3i h) (fun k hk=>hm k hk.1 hk.2.2.1)) (fun _ hk=>hk.1)
theorem M_step {x:α} {cs:List Value} (h:d.M w base ok x cs) (hm:∀ k,ok k->k<w.heap.size->w1.heap[k]?=w.heap[k]?):d.M w1 base ok x cs :=
 d.M_mono (fun _ hk=>hk.1) (d.M_move (fun k hk=>hm k hk.1 hk.2.2.1) (d.M_bound h))
theorem R_below (h:d.R e w base ok v xs) (hb:Below w.heap.size w w1):d.R e w1 base ok v xs:=yb9 h (fun k _ hk=>hb.block k hk)
theorem M_below {x:α} {cs:List Value} (h:d.M w base ok x cs) (hb:Below w.heap.size w w1):d.M w1 base ok x cs:=M_step h (fun k _ hk=>hb.block k hk)
theorem R_far (h:d.R e w base ok v xs) {p:Addr} (hok:∀ k,ok k->k≠p.block) (u:Value):d.R e (w.setCell p u) base ok v xs:=yb9 h (fun k ho _=>Below.heap_setCell w p u k (hok k ho))
theorem R_types (h:d.R e w base ok v xs) {g t:Nat} {cells:Array Value} (hb:w.heap[g]?=some (.cells cells t (0,0))) (ht:∀ q,q ∈ e :: d.E->q≠t):d.R e w base (fun k=>ok k∧k≠g) v xs :=
 R_mono (y3i h) (fun k hk=>⟨hk.1,by
  obtain ⟨_,_,_,q,hq,cells',hc⟩:=hk
  rintro rfl
  rw [hc] at hb;injection hb with hb
  injection hb with _ hb
  exact ht q hq hb⟩)
theorem R_reads (h:d.R e w base ok v xs):∃ A c,v=.slice A xs.length c∧xs.length≤c∧d.C w A xs.length xs:=by
 obtain ⟨A,c,he,hl,hr⟩:=OwnRow.reads h.2;exact ⟨A,c,he,hl,hr.imp_ (Below.refl _ _) (fun _ _ hp=>d.K_of_M hp)⟩
theorem R_slice (h:d.R e w base ok v xs):∃ A c,v=.slice A xs.length c:=by
 obtain ⟨A,c,he,_⟩:=R_reads h;exact ⟨A,c,he⟩
theorem R_own (h:d.R e w base ok v xs):∃ inner,w.ownsRow base e d.sz v xs.length inner:=by
 obtain ⟨_,inner,ho,_⟩:=h;exact ⟨inner,ho⟩
theorem R_ne (h:d.R e w base ok v xs) {g t:Nat} {cells:Array Value} (hb:w.heap[g]?=some (.cells cells t (0,0))) (ht:e≠t):some g≠v.ownBlock:=OwnRow.ne_block h.2 hb ht
end
def scalar {α:Type} (enc:α->Value) (h1:∀ x,(enc x).oneCell'=true):Kd α where
 sz:=1
 E:=[]
 K:=fun _ x cs=>cs=[enc x]
 M:=fun _ _ _ x cs=>cs=[enc x]
 K_len:=fun h=>by rw [h];rfl
 K_one:=fun h u hu=>by
  rw [h] at hu;rw [List.mem_singleton.1 hu];exact h1 _
 K_below:=fun _ h=>h
 K_of_M:=fun h=>h
 M_mono:=fun _ h=>h
 M_bound:=fun h=>h
 M_move:=fun _ h=>h
 M_lower:=fun _ h=>h
def int (k:IntKind):Kd Int:=scalar (Value.int k) (fun _=>rfl)
def slice {α:Type} (e:Nat) (d:Kd α):Kd (List α) where
 sz:=1
 E:=e :: d.E
 K:=fun w xs cs=>∃ A c,cs=[.slice A xs.length c]∧xs.length≤c∧d.C w A xs.length xs
 M:=fun w base ok xs cs=>∃ v,cs=[v]∧d.R e w base ok v xs
 K_len:=by
  rintro w x cs ⟨A,c,rfl,_⟩
  rfl
 K_one:=by
  rintro w x cs ⟨A,c,rfl,_⟩ u hu
  rw [List.mem_singleton.1 hu];rfl
 K_below:=by
  rintro w w1 x cs hb ⟨A,c,rfl,hl,hr⟩
  exact ⟨A,c,rfl,hl,C_below hr hb⟩
 K_of_M:=by
  rintro w base ok x cs ⟨v,rfl,h⟩
  obtain ⟨A,c,rfl,hl,hr⟩:=R_reads h;exact ⟨A,c,rfl,hl,hr⟩
 M_mono:=by
  rintro w base ok ok' x cs hok ⟨v,rfl,h⟩
  exact ⟨v,rfl,R_mono h hok⟩
 M_bound:=by
  rintro w base ok x cs ⟨v,rfl,h⟩
  exact ⟨v,rfl,y3i h⟩
 M_move:=by
  rintro w w1 base ok x cs hm ⟨v,rfl,h⟩
  exact ⟨v,rfl,yba h hm⟩
 M_lower:=by
  rintro w base base' ok x cs hb ⟨v,rfl,h⟩
  exact ⟨v,rfl,R_lower h hb⟩
def pair {α β:Type} (a:Kd α) (b:Kd β):Kd (α × β) where
 sz:=a.sz+b.sz
 E:=a.E ++ b.E
 K:=fun w x cs=>∃ c0 c1,cs=c0 ++ c1∧a.K w x.1 c0∧b.K w x.2 c1
 M:=fun w base ok x cs=>∃ c0 c1,cs=c0 ++ c1∧a.M w base ok x.1 c0∧b.M w base ok x.2 c1
 K_len:=by
  rintro w x cs ⟨c0,c1,rfl,h0,h1⟩
  rw [List.length_append,a.K_len h0,b.K_len h1]
 K_one:=by
  rintro w x cs ⟨c0,c1,rfl,h0,h1⟩ u hu
  rcases List.mem_append.1 hu with hu|hu
  ·exact a.K_one h0 u hu
  ·exact b.K_one h1 u hu
 K_below:=by
  rintro w w1 x cs hb ⟨c0,c1,rfl,h0,h1⟩
  exact ⟨c0,c1,rfl,a.K_below hb h0,b.K_below hb h1⟩
 K_of_M:=by
  rintro w base ok x cs ⟨c0,c1,rfl,h0,h1⟩
  exact ⟨c0,c1,rfl,a.K_of_M h0,b.K_of_M h1⟩
 M_mono:=by
  rintro w base ok ok' x cs hok ⟨c0,c1,rfl,h0,h1⟩
  exact ⟨c0,c1,rfl,a.M_mono hok h0,b.M_mono hok h1⟩
 M_bound:=by
  rintro w base ok x cs ⟨c0,c1,rfl,h0,h1⟩
  refine ⟨c0,c1,rfl,a.M_mono ?_ (a.M_bound h0),b.M_mono ?_ (b.M_bound h1)⟩
  ·rintro k ⟨h2,h3,h4,q,hq,hc⟩
   exact ⟨h2,h3,h4,q,List.mem_append_left _ hq,hc⟩
  ·rintro k ⟨h2,h3,h4,q,hq,hc⟩
   exact ⟨h2,h3,h4,q,List.mem_append_right _ hq,hc⟩
 M_move:=by
  rintro w w1 base ok x cs hm ⟨c0,c1,rfl,h0,h1⟩
  exact ⟨c0,c1,rfl,a.M_move hm h0,b.M_move hm h1⟩
 M_lower:=by
  rintro w base base' ok x cs hb ⟨c0,c1,rfl,h0,h1⟩
  exact ⟨c0,c1,rfl,a.M_lower hb h0,b.M_lower hb h1⟩
def iso {α β:Type} (d:Kd α) (f:β->α):Kd β where
 sz:=d.sz
 E:=d.E
 K:=fun w x cs=>d.K w (f x) cs
 M:=fun w base ok x cs=>d.M w base ok (f x) cs
 K_len:=d.K_len
 K_one:=d.K_one
 K_below:=d.K_below
 K_of_M:=d.K_of_M
 M_mono:=d.M_mono
 M_bound:=d.M_bound
 M_move:=d.M_move
 M_lower:=d.M_lower
theorem C_get {α:Type} {d:Kd α} {w:World} {A:Option Addr} {n:Nat} {xs:List α} (h:d.C w A n xs) (z:α) (i:Int) (h0:0≤i) (h1:i<n) :
  ∃ ad c,A=some ad∧c.length=d.sz∧d.K w (xs.getD i.toNat z) c∧∀ j u,c[j]?=some u->w.cell? (ad.add (i.toNat * d.sz+j))=some u:=ReadsRow.get_ h z i h0 h1
theorem y74 {α:Type} {d:Kd α} {e base:Nat} {ok okp:Nat->Prop} {W w1:World} {v v1:Value} {xs:List α} {p:α} {inner cs:List Value} (h0:∀ k,v.ownBlock=some k->ok k) (hr:Reps (d.M W base (fun k=>ok k∧some k≠v.ownBlock)) d.sz xs inner) (hp:d.M W base okp p cs) (hokp:∀ k,okp k->ok k∧some k≠v.ownBlock) (hfresh:∀ k,W.heap.size≤k->ok k)
  (hown:w1.ownsRow base e d.sz v1 (xs.length+1) (inner ++ cs)) (hg:W.grownBy w1 v.ownBlock) (hat:v1.ownBlock=v.ownBlock∨∃ b,v1.ownBlock=some b∧W.heap.size≤b):d.R e w1 base ok v1 (xs ++ [p]):=by
 have hne:∀ k,some k≠v.ownBlock->k<W.heap.size->some k≠v1.ownBlock:=by
  intro k hk hlt;rcases hat with hat|⟨b,hb,hle⟩
  ·rw [hat];exact hk
  ·rw [hb]
   intro he;injection he with he
   omega
 have step:∀ {q:α} {c:List Value} {o:Nat->Prop},d.M W base o q c->(∀ k,o k->ok k∧some k≠v.ownBlock)->d.M w1 base (fun k=>ok k∧some k≠v1.ownBlock) q c:=by
  intro q c o hq ho;have h1:=d.M_move (w1:=w1) (fun k hk=>hg.block k hk.2.2.1 (ho k hk.1).2) (d.M_bound hq);exact d.M_mono (fun k hk=>⟨(ho k hk.1).1,hne k (ho k hk.1).2 hk.2.2.1⟩) h1
 refine ⟨fun k hk=>?_,inner ++ cs,by rw [List.length_append,List.length_singleton];exact hown,?_⟩
 ·rcases hat with hat|⟨b,hb,hle⟩
  ·exact h0 k (hat ▸ hk)
  ·rw [hb] at hk
   injection hk with hk
   exact hfresh k (by omega)
 ·exact (hr.imp_ (fun _ _ hq=>step hq (fun _ hk=>hk))).snoc (step hp hokp) (d.K_len (d.K_of_M hp))
section
variable {P:Program} {ops:Array Oper} {rest:List Oper} {o:Oper} {a:Act} {Q:Exit->Act->World->Prop} {α:Type}
theorem R_append (d:Kd α) {w0 W:World} (base:Nat) (hgd:o.guard=none) (s x:Operand) (t e:TypeId) (z:Value) (bytes:Nat)
  (ho:o.op=.call { callee:=.builtin .append,args:=#[s,x],argTypes:=#[t,t] })
  (ht:P.underlying t=some (.slice e)) (hinfo:(P.info? e).map (fun i=>(i.zero,i.size,i.bytes))=some (some z,d.sz,bytes)) (hz:z.cells.size=d.sz) (hs0:0<d.sz) (hb0:0<bytes)
  (v:Value) (xs:List α) (p:α) (cs:List Value) (ok okp:Nat->Prop) (hs:a.eval s=v) (hx:a.eval x=.slice (some ⟨W.heap.size,0,none⟩) 1 1) (hp:d.M W base okp p cs) (hokp:∀ k,okp k->ok k∧some k≠v.ownBlock) (hfresh:∀ k,W.heap.size≤k->ok k)
  (HO:d.R e W base ok v xs) (HB:Below base w0 W) (hbase:base≤W.heap.size) (hl:(xs.length+1) * bytes≤140737488355328)
  (h:∀ v1 w1,d.R e w1 base ok v1 (xs ++ [p])->Below base w0 w1->W.grownBy w1 v.ownBlock->(v1.ownBlock=v.ownBlock∨∃ b,v1.ownBlock=some b∧W.heap.size≤b)->wpList P ops Q rest (a.put o.dst v1) w1) :
  wpList P ops Q (o :: rest) a (W.alloc (.cells cs.toArray e)):=by
 obtain ⟨h0,inner,hown,hr⟩:=HO;refine y43 base hgd s x t e z d.sz bytes ho ht hinfo hz hs0 hb0 v xs.length inner cs hs hx (d.K_len (d.K_of_M hp)) (d.K_one (d.K_of_M hp)) hown HB hbase hl ?_;intro v1 w1 hown1 hb1 hg1 hat1;exact h v1 w1 (y74 h0 hr hp hokp hfresh hown1 hg1 hat1) hb1 hg1 hat1
end
section
variable {P:Program} {ops:Array Oper} {o:Oper} {a:Act} {Q:Exit->Act->World->Prop} {Kc:Act->World->Prop} {α:Type}
theorem R_append_step (d:Kd α) {w0 W:World} (base:Nat) (hw:Region.wanted o (yielded ops a.tmps)=true) (s x:Operand) (t e:TypeId) (z:Value) (bytes:Nat)
  (ho:o.op=.call { callee:=.builtin .append,args:=#[s,x],argTypes:=#[t,t] })
  (ht:P.underlying t=some (.slice e)) (hinfo:(P.info? e).map (fun i=>(i.zero,i.size,i.bytes))=some (some z,d.sz,bytes)) (hz:z.cells.size=d.sz) (hs0:0<d.sz) (hb0:0<bytes)
  (v:Value) (xs:List α) (p:α) (cs:List Value) (ok okp:Nat->Prop) (hs:a.eval s=v) (hx:a.eval x=.slice (some ⟨W.heap.size,0,none⟩) 1 1) (hp:d.M W base okp p cs) (hokp:∀ k,okp k->ok k∧some k≠v.ownBlock) (hfresh:∀ k,W.heap.size≤k->ok k)
  (HO:d.R e W base ok v xs) (HB:Below base w0 W) (hbase:base≤W.heap.size) (hl:(xs.length+1) * bytes≤140737488355328)
  (h:∀ v1 w1,d.R e w1 base ok v1 (xs ++ [p])->Below base w0 w1->W.grownBy w1 v.ownBlock->(v1.ownBlock=v.ownBlock∨∃ b,v1.ownBlock=some b∧W.heap.size≤b)->Kc (a.put o.dst v1) w1) :
  if Region.wanted o (yielded ops a.tmps)=true then Oper.wp P o a (W.alloc (.cells cs.toArray e)) Kc Q else Kc (a.put o.dst undef) (W.alloc (.cells cs.toArray e)):=by
 obtain ⟨h0,inner,hown,hr⟩:=HO;refine y4b base hw s x t e z d.sz bytes ho ht hinfo hz hs0 hb0 v xs.length inner cs hs hx (d.K_len (d.K_of_M hp)) (d.K_one (d.K_of_M hp)) hown HB hbase hl ?_;intro v1 w1 hown1 hb1 hg1 hat1;exact h v1 w1 (y74 h0 hr hp hokp hfresh hown1 hg1 hat1) hb1 hg1 hat1
end
theorem y9v {α:Type} {enc:α->Value} (xs:List α):Reps (fun (x:α) (cs:List Value)=>cs=[enc x]) 1 xs (encs enc xs):=by
 refine ⟨by simp [encs],fun j p hj=>?_⟩;obtain ⟨hl,hp⟩:=List.getElem?_eq_some_iff.1 hj;have hl':j<(encs enc xs).length:=by rw [y62];exact hl
 rw [Nat.mul_one,List.drop_eq_getElem_cons hl'];simp [encs,hp]
theorem yfo {α:Type} {enc:α->Value} {h1:∀ x,(enc x).oneCell'=true} {e:Nat} {w:World} {base:Nat} {ok:Nat->Prop} {v:Value} {xs:List α} (ho:w.ownsRow base e 1 v xs.length (encs enc xs)) (hok:∀ k,v.ownBlock=some k->ok k):(scalar enc h1).R e w base ok v xs:=⟨hok,encs enc xs,ho,y9v xs⟩
theorem yav {α:Type} {enc:α->Value} {h1:∀ x,(enc x).oneCell'=true} {e:Nat} {w:World} {base:Nat} {ok:Nat->Prop} {v:Value} {xs:List α} (h:(scalar enc h1).R e w base ok v xs):w.ownsRow base e 1 v xs.length (encs enc xs):=by
 obtain ⟨_,inner,ho,hr⟩:=h;have:inner=encs enc xs:=by
  apply List.ext_getElem?;intro j;rcases Nat.lt_or_ge j xs.length with hj|hj
  ·have h2:=hr.2 j _ (List.getElem?_eq_getElem hj)
   have hl:j<inner.length:=by have:=hr.1;simp [scalar] at this;omega
   have h3:(inner.drop (j * 1)).take 1=[enc xs[j]]:=h2;rw [Nat.mul_one,List.drop_eq_getElem_cons hl] at h3;have h4:inner[j]=enc xs[j]:=by
    have h5:=congrArg List.head? h3;rw [List.take_succ_cons] at h5;exact zSi h5
   rw [List.getElem?_eq_getElem hl,h4];simp [encs,List.getElem?_eq_getElem hj]
  ·have h3:inner.length=xs.length:=by have:=hr.1;simp [scalar] at this;omega
   rw [List.getElem?_eq_none (by omega),List.getElem?_eq_none (by rw [y62];omega)]
 rw [← this];exact ho
theorem C_of_reads {α:Type} {enc:α->Value} {d:α} {h1:∀ x,(enc x).oneCell'=true} {w:World} {A:Option Addr} {n:Nat} {xs:List α} (h:ReadsOf enc d w A n xs):(scalar enc h1).C w A n xs:=by
 refine ⟨h.1,h.2.1,fun hn=>?_⟩;obtain ⟨ad,e,hc⟩:=h.2.2 hn;refine ⟨ad,e,fun j p hj=>⟨[enc p],rfl,rfl,fun i u hu=>?_⟩⟩;obtain ⟨hl,hp⟩:=List.getElem?_eq_some_iff.1 hj;have h2:=hc j (by have:=h.1;omega);rw [List.getD_eq_getElem?_getD,hj] at h2;cases i with
 |zero =>
  have:enc p=u:=by simpa using hu
  subst this;simpa [scalar] using h2
 |succ i=>simp at hu
theorem reads_of_C {α:Type} {enc:α->Value} {d:α} {h1:∀ x,(enc x).oneCell'=true} {w:World} {A:Option Addr} {n:Nat} {xs:List α} (h:(scalar enc h1).C w A n xs):ReadsOf enc d w A n xs:=by
 refine ⟨h.1,h.2.1,fun hn=>?_⟩;obtain ⟨ad,e,hc⟩:=h.2.2 hn;refine ⟨ad,e,fun j hj=>?_⟩;have hl:j<xs.length:=by have:=h.1;omega
 obtain ⟨c,_,hK,hcell⟩:=hc j _ (List.getElem?_eq_getElem hl);have hK':c=[enc xs[j]]:=hK;subst hK';have:=hcell 0 _ rfl;simpa [scalar,List.getD_eq_getElem?_getD,List.getElem?_eq_getElem hl] using this
end Kd
namespace Kd
end Kd
namespace Kd
theorem R_after {α:Type} {d:Kd α} {e base:Nat} {ok:Nat->Prop} {W w1:World} {u v v1:Value} {xs:List α} (h:d.R e W base (fun k=>ok k∧some k≠v.ownBlock) u xs) (hg:W.grownBy w1 v.ownBlock) (hat:v1.ownBlock=v.ownBlock∨∃ b,v1.ownBlock=some b∧W.heap.size≤b):d.R e w1 base (fun k=>ok k∧some k≠v1.ownBlock) u xs:=by
 refine R_mono (yba (y3i h) (fun k hk=>hg.block k hk.2.2.1 hk.1.2)) (fun k hk=>⟨hk.1.1,?_⟩);rcases hat with hat|⟨b,hb,hle⟩
 ·rw [hat];exact hk.1.2
 ·rw [hb]
  intro he;injection he with he
  have:=hk.2.2.1;omega
theorem R_apart_nil {α:Type} {d:Kd α} {e base:Nat} {ok:Nat->Prop} {w:World} {u:Value} {xs:List α} (h:d.R e w base ok u xs):d.R e w base (fun k=>ok k∧some k≠(Value.slice none 0 0).ownBlock) u xs:=R_mono h (fun k hk=>⟨hk,by simp [Value.ownBlock]⟩)
end Kd
namespace Kd
section
variable {α β:Type} {d:Kd α} {d':Kd β} {e e':Nat} {w w1 W:World} {base b b':Nat} {ok ok' okv oku:Nat->Prop} {v u:Value} {xs:List α} {ys:List β}
theorem R_drew (h:d.R e w base ok v xs):d.R e w.drew base ok v xs:=R_below h (yc9 (Below.refl _ _))
theorem R_drewN (h:d.R e w base ok v xs) (m:Nat):d.R e (w.drewN m) base ok v xs:=R_below h (y00 (Below.refl _ _) m)
theorem R_reads' {A:Option Addr} {n c:Nat} (h:d.R e w base ok (.slice A n c) xs):n=xs.length∧n≤c∧d.C w A xs.length xs:=by
 obtain ⟨A',c',he,hl,hr⟩:=R_reads h;injection he with h1 h2 h3
 subst h1;exact ⟨h2,by omega,hr⟩
theorem R_lt (h:d.R e w base ok v xs):∀ k,v.ownBlock=some k->k<w.heap.size:=by
 obtain ⟨inner,ho⟩:=R_own h;exact own_lt ho
theorem R_base (h:d.R e w base ok v xs):∀ k,v.ownBlock=some k->base≤k:=by
 obtain ⟨inner,ho⟩:=R_own h;exact y3k ho
theorem R_form (h:d.R e w base ok v xs) (hp:0<xs.length):∃ g cap,v=.slice (some ⟨g,0,none⟩) xs.length cap∧base≤g∧g<w.heap.size∧∃ cells,w.heap[g]?=some (.cells cells e (0,0)):=by
 obtain ⟨inner,ho⟩:=R_own h;obtain ⟨g,cap,he,hb,hl⟩:=ho.form hp;obtain ⟨cells,hc⟩:=y44 ho g (by rw [he];simp [Value.ownBlock]);exact ⟨g,cap,he,hb,hl,cells,hc⟩
end
section
variable {w W:World} {A:Option Addr} {n:Nat}
theorem at_int {k:IntKind} {xs:List Int} (h:(Kd.int k).C w A n xs) (i:Int) (h0:0≤i) (h1:i<n):∃ ad,A=some ad∧w.cell? (ad.add i.toNat)=some (.int k (rd xs i)) :=
 ReadsOf.at_ (reads_of_C (enc:=Value.int k) (d:=(0:Int)) (h1:=fun _=>rfl) h) i h0 h1
variable {α:Type} {enc:α->Value} {h1:∀ x,(enc x).oneCell'=true} {e base g cap:Nat} {ok:Nat->Prop} {xs:List α}
theorem R_cell (d:α) (h:(scalar enc h1).R e W base ok (.slice (some ⟨g,0,none⟩) xs.length cap) xs) (i:Int) (h0:0≤i) (hi:i<xs.length):W.cell? ⟨g,i.toNat,none⟩=some (enc (rdOf d xs i))∧W.frozen? ⟨g,i.toNat,none⟩=false:=ydi (yav h) i h0 hi
theorem R_put (h:(scalar enc h1).R e W base ok (.slice (some ⟨g,0,none⟩) xs.length cap) xs) (i:Int) (x:α):(scalar enc h1).R e (W.setCell ⟨g,i.toNat,none⟩ (enc x)) base ok (.slice (some ⟨g,0,none⟩) xs.length cap) (xs.set i.toNat x)∧W.grownBy (W.setCell ⟨g,i.toNat,none⟩ (enc x)) (some g):=by
 obtain ⟨ho,hg⟩:=y95 (yav h) i x;exact ⟨yfo (by rw [List.length_set];exact ho) h.1,hg⟩
end
section
variable {P:Program} {ops:Array Oper} {rest:List Oper} {o:Oper} {a:Act} {Q:Exit->Act->World->Prop}
theorem event_run {W w1:World} {v:Value} (hgd:o.guard=none) (hrun:(execOp a.eval o).run P W=.ok (.value v) w1) (h:wpList P ops Q rest (a.put o.dst v) w1):wpList P ops Q (o :: rest) a W:=by
 refine wpList_plain hgd fun K hK=>?_
 unfold Oper.wp;rw [hrun];exact hK _ _ h
variable {α:Type}
theorem R_lit (d:Kd α) {w0 W:World} (base e:Nat) (hgd:o.guard=none) {N:Tmp} (_hd:o.dst=some N) {xs:List α} {inner:List Value} {ok okp:Nat->Prop}
  (hrun:(execOp a.eval o).run P W=.ok (.value (.slice (some ⟨W.heap.size,0,none⟩) xs.length xs.length)) (W.alloc (.cells inner.toArray e)))
  (hrep:Reps (d.M W base okp) d.sz xs inner) (hok:∀ k,okp k->ok k) (hfresh:ok W.heap.size) (HB:Below base w0 W) (hbase:base≤W.heap.size) (hm:xs.length≤9223372036854775807)
  (h:∀ v1 w1,d.R e w1 base ok v1 xs->Below base w0 w1->W.grownBy w1 none->(∃ b,v1.ownBlock=some b∧W.heap.size≤b)->wpList P ops Q rest (a.put o.dst v1) w1):wpList P ops Q (o :: rest) a W:=by
 refine event_run hgd hrun (h _ _ ⟨fun k hk=>?_,inner,?_,?_⟩ (HB.alloc hbase _) (World.grownBy_alloc W _ none) ⟨W.heap.size,by simp [Value.ownBlock],zLe _⟩)
 ·have:W.heap.size=k:=by simpa [Value.ownBlock] using hk
  subst this;exact hfresh
 ·have h2:=World.ownsRow_lit (base:=base) (e:=e) (size:=d.sz) W inner.toArray xs.length hbase (by simpa [maxLen] using hm) (by simpa using hrep.1)
  simpa using h2
 ·refine hrep.imp_ (fun p c hp=>d.M_mono (fun k hk=>⟨hok k hk.1,fun he=>?_⟩) (M_below (d.M_bound hp) (y02 (Below.refl _ _) _)))
  have h3:k=W.heap.size:=by simpa [Value.ownBlock] using he
  have:=hk.2.2.1;omega
theorem yd1 {α:Type} {R:α->List Value->Prop} {z:Value} {size:Nat} {z0:α} (hz:z.cells.size=size) (hs:0<size) (h0:R z0 z.cells.toList) (m:Nat):Reps R size (List.replicate m z0) (madeCells z.cells (m * size)).toList:=by
 refine ⟨by simp [size_madeCells],fun j p hj=>?_⟩;obtain ⟨hjl,hp⟩:=List.getElem?_eq_some_iff.1 hj;have hjm:j<m:=by simpa using hjl
 have hp':z0=p:=by simpa using hp
 subst hp';have hle:j * size+size≤m * size:=by rw [← Nat.succ_mul];exact Nat.mul_le_mul_right _ hjm
 have:((madeCells z.cells (m * size)).toList.drop (j * size)).take size=z.cells.toList:=by
  apply List.ext_getElem
  ·simp [size_madeCells,hz]
   omega
  ·intro i h1 h2
   have hi:i<size:=by rw [Array.length_toList,hz] at h2;exact h2
   have hmod:(j * size+i) % size=i:=by
    rw [Nat.mul_comm,Nat.mul_add_mod];exact Nat.mod_eq_of_lt hi
   simp [madeCells,hz,hmod];rw [getElem!_pos z.cells i (by omega)]
 rw [this];exact h0
theorem R_make (d:Kd α) {w0 W:World} (base e:Nat) (hgd:o.guard=none) {N:Tmp} (hd:o.dst=some N) (t:TypeId) (x y:Operand) (ho:o.op=.makeSlice t x y) (n:Int) (hx:a.eval x=.int .i64 n) (hy:a.eval y=.int .i64 n)
  (ht:P.underlying t=some (.slice e)) (z:Value) (bytes:Nat) (hinfo:(P.info? e).map (fun i=>(i.zero,i.size,i.bytes))=some (some z,d.sz,bytes)) (hz:z.cells.size=d.sz) (hs0:0<d.sz) (hb0:0<bytes)
  (z0:α) {ok okp:Nat->Prop} (hzero:d.M W base okp z0 z.cells.toList) (hok:∀ k,okp k->ok k) (hfresh:ok W.heap.size) (h0:0≤n) (hl:n.toNat * bytes≤281474976710656) (HB:Below base w0 W) (hbase:base≤W.heap.size)
  (h:∀ v1 w1,d.R e w1 base ok v1 (List.replicate n.toNat z0)->Below base w0 w1->W.grownBy w1 none->(∃ b,v1.ownBlock=some b∧W.heap.size≤b)->wpList P ops Q rest (a.put o.dst v1) w1):wpList P ops Q (o :: rest) a W:=by
 obtain ⟨m,rfl⟩:=Int.eq_ofNat_of_zero_le h0;simp only [Int.toNat_natCast] at hl h;obtain ⟨i0,hi,hzz⟩:=Option.map_eq_some_iff.1 hinfo;simp only [Prod.mk.injEq] at hzz;obtain ⟨hz0,hz1,hz2⟩:=hzz;have hm:m≤281474976710656:=Nat.le_trans (Nat.le_mul_of_pos_right _ hb0) hl;have hr:=run_make (P:=P) W t e i0 z ht hi hz0 .i64 .i64 (m:Int) (m:Int) (by omega) (by omega)
  (by
   have h3:((i0.bytes * m:Nat):Int)≤281474976710656:=by rw [hz2,Nat.mul_comm];omega
   rwa [Int.natCast_mul] at h3) (by omega)
 simp only [Int.toNat_natCast] at hr;rw [hz1] at hr;refine R_lit d base e hgd hd (xs:=List.replicate m z0) (inner:=(madeCells z.cells (m * d.sz)).toList) (okp:=okp) (ok:=ok) ?_ (yd1 hz hs0 hzero m) hok hfresh HB hbase (by simp;omega) h;simp [execOp,ho,hx,hy,hr]
end
end Kd
section
variable {w w1:World} {base n size:Nat} {e:TypeId} {v:Value} {xs:List Value}
theorem add_at (g o j:Nat):(⟨g,o,none⟩:Addr).add j=⟨g,o+j,none⟩:=by unfold Addr.add;split<;>simp_all
end
namespace Kd
end Kd
namespace Kd
section
variable {α:Type} {d:Kd α} {e e':Nat} {w w1 W:World} {base:Nat} {ok:Nat->Prop} {u v:Value} {xs:List α}
theorem R_elder' (hu:d.R e W base ok u xs) (hbase:∀ k,v.ownBlock=some k->W.heap.size≤k) (hb:Below W.heap.size W w1):d.R e w1 base (fun k=>ok k∧some k≠v.ownBlock) u xs :=
 R_mono (yba (y3i hu) (fun k hk=>hb.block k hk.2.2.1)) (fun k hk=>⟨hk.1,fun he=>by have:=hbase k he.symm;have:=hk.2.2.1;omega⟩)
theorem R_new' (h:d.R e w1 W.heap.size ok v xs) (hlt:∀ k,u.ownBlock=some k->k<W.heap.size):d.R e w1 W.heap.size (fun k=>ok k∧some k≠u.ownBlock) v xs :=
 R_mono (y3i h) (fun k hk=>⟨hk.1,fun he=>by have:=hlt k he.symm;have:=hk.2.1;omega⟩)
theorem fresh' (hlt:∀ k,u.ownBlock=some k->k<W.heap.size):∀ k,W.heap.size≤k->some k≠u.ownBlock:=fun k hk he=>by have:=hlt k he.symm;omega
end
end Kd
namespace Kd
end Kd
namespace Kd
end Kd
namespace Kd
theorem y5f {α:Type} {R:α->List Value->Prop} {size:Nat} {ps qs:List α} {cs ds:List Value} (h:Reps R size ps cs) (h':Reps R size qs ds):Reps R size (ps ++ qs) (cs ++ ds):=by
 refine ⟨by rw [List.length_append,List.length_append,h.1,h'.1,Nat.add_mul],fun j p hj=>?_⟩;rcases Nat.lt_or_ge j ps.length with hlt|hge
 ·rw [List.getElem?_append_left hlt] at hj
  have hle:j * size+size≤cs.length:=by rw [h.1,← Nat.succ_mul];exact Nat.mul_le_mul_right _ hlt
  rw [List.drop_append_of_le_length (by omega),List.take_append_of_le_length (by rw [List.length_drop];omega)];exact h.2 j p hj
 ·rw [List.getElem?_append_right hge] at hj
  have h2:=h'.2 (j - ps.length) p hj;have hle:ps.length * size≤j * size:=Nat.mul_le_mul_right _ hge;rw [List.drop_append,List.drop_eq_nil_of_le (by rw [h.1];exact hle),List.nil_append,h.1,← Nat.sub_mul];exact h2
section
variable {P:Program} {ops:Array Oper} {rest:List Oper} {o:Oper} {a:Act} {Q:Exit->Act->World->Prop} {α:Type}
theorem R_append_rows (d:Kd α) {Rr:α->List Value->Prop} {w0 W:World} (base:Nat) (hgd:o.guard=none) (s x:Operand) (t e:TypeId) (z:Value) (bytes:Nat)
  (ho:o.op=.call { callee:=.builtin .append,args:=#[s,x],argTypes:=#[t,t] })
  (ht:P.underlying t=some (.slice e)) (hinfo:(P.info? e).map (fun i=>(i.zero,i.size,i.bytes))=some (some z,d.sz,bytes)) (hz:z.cells.size=d.sz) (hs0:0<d.sz) (hb0:0<bytes)
  (v:Value) (xs ys:List α) (A:Option Addr) (m c:Nat) (ok okp:Nat->Prop) (hs:a.eval s=v) (hx:a.eval x=.slice A m c)
  (HO:d.R e W base ok v xs) (HR:ReadsRow Rr d.sz W A m ys) (hKM:∀ x cs,Rr x cs->d.M W base okp x cs) (hokp:∀ k,okp k->ok k∧some k≠v.ownBlock) (hfresh:∀ k,W.heap.size≤k->ok k)
  (HB:Below base w0 W) (hbase:base≤W.heap.size) (hl:(xs.length+m) * bytes≤140737488355328)
  (h:∀ v1 w1,d.R e w1 base ok v1 (xs ++ ys)->Below base w0 w1->W.grownBy w1 v.ownBlock->(v1.ownBlock=v.ownBlock∨∃ b,v1.ownBlock=some b∧W.heap.size≤b)->wpList P ops Q rest (a.put o.dst v1) w1) :
  wpList P ops Q (o :: rest) a W:=by
 obtain ⟨i0,hi,hzz⟩:=Option.map_eq_some_iff.1 hinfo;simp only [Prod.mk.injEq] at hzz;obtain ⟨hz0,hz1,hz2⟩:=hzz;have hm:ys.length=m:=HR.1;have hlen:xs.length+m≤140737488355328:=Nat.le_trans (Nat.le_mul_of_pos_right _ hb0) hl;obtain ⟨hok,inner,hown,hr⟩:=HO;have hrun:∃ v1 w1,(Builtin.append_ #[t,t] o.type #[v,.slice A m c]).run P W=.ok v1 w1∧d.R e w1 base ok v1 (xs ++ ys)∧W.grownBy w1 v.ownBlock∧(v1.ownBlock=v.ownBlock∨∃ b,v1.ownBlock=some b∧W.heap.size≤b):=by
  rcases A with _|ad
  ·have h0:m=0:=by
    rcases Nat.eq_zero_or_pos m with h0|h0
    ·exact h0
    ·obtain ⟨ad,h,_⟩:=HR.2.2 h0
     cases h
   subst h0;obtain rfl:ys=[]:=List.eq_nil_of_length_eq_zero hm;refine ⟨v,W,?_,by rw [List.append_nil];exact ⟨hok,inner,hown,hr⟩,World.grownBy.refl W _,.inl rfl⟩;rcases hown.2 with ⟨rfl,hn⟩|⟨g,cap,cur,rfl,_,_,hnc,_⟩
   ·simp [Builtin.append_,run_underlying ht,sizeOf,typeInfo,hi,Builtin.lenOf,Builtin.firstCells]
   ·simp [Builtin.append_,run_underlying ht,sizeOf,typeInfo,hi,Builtin.lenOf,Builtin.firstCells,hnc,storeCells]
  ·obtain ⟨news,hnr,hnc⟩:=ReadsRow.inner_ HR
   have hnM:Reps (d.M W base okp) d.sz ys news:=hnr.imp_ (fun p c hp=>hKM p c hp);have hone:∀ u ∈ news,u.oneCell'=true:=by
    intro u hu;obtain ⟨q,hq,rfl⟩:=List.mem_iff_getElem.1 hu;have hql:q / d.sz<ys.length:=by
     rw [Nat.div_lt_iff_lt_mul hs0];rw [← hnM.1];exact hq
    have hc:=hnM.2 (q / d.sz) _ (List.getElem?_eq_getElem hql);refine d.K_one (d.K_of_M hc) _ ?_;rw [List.mem_iff_getElem?];refine ⟨q % d.sz,?_⟩;rw [List.getElem?_take,if_pos (Nat.mod_lt _ hs0),List.getElem?_drop,Nat.mul_comm,Nat.div_add_mod,List.getElem?_eq_getElem hq]
   obtain ⟨v1,w1,hrun,h2,hg,_,hat⟩:=run_append_own_at (P:=P) W base t o.type e i0 z d.sz bytes ht hi hz0 hz1 hz2 hz hs0 v xs.length inner hown ad m c news (by rw [hnM.1,hm]) hnc hone (by simp only [maxLen];omega) hl hbase;have hat':v1.ownBlock=v.ownBlock∨∃ b,v1.ownBlock=some b∧W.heap.size≤b:=by
    rcases hat with hat|hat
    ·exact .inl hat
    ·exact .inr ⟨_,hat,zLe _⟩
   have hne:∀ k,some k≠v.ownBlock->k<W.heap.size->some k≠v1.ownBlock:=by
    intro k hk hlt;rcases hat' with hat|⟨b,hb,hle⟩
    ·rw [hat];exact hk
    ·rw [hb]
     intro he;injection he with he
     omega
   have step:∀ {q:α} {c:List Value} {o:Nat->Prop},d.M W base o q c->(∀ k,o k->ok k∧some k≠v.ownBlock)->d.M w1 base (fun k=>ok k∧some k≠v1.ownBlock) q c:=by
    intro q c o hq ho;have h1:=d.M_move (w1:=w1) (fun k hk=>hg.block k hk.2.2.1 (ho k hk.1).2) (d.M_bound hq);exact d.M_mono (fun k hk=>⟨(ho k hk.1).1,hne k (ho k hk.1).2 hk.2.2.1⟩) h1
   refine ⟨v1,w1,hrun,⟨fun k hk=>?_,inner ++ news,by rw [List.length_append,hm];exact h2,y5f (hr.imp_ (fun _ _ hq=>step hq (fun _ hk=>hk))) (hnM.imp_ (fun _ _ hq=>step hq hokp))⟩,hg,hat'⟩;rcases hat' with hat|⟨b,hb,hle⟩
   ·exact hok k (hat ▸ hk)
   ·rw [hb] at hk
    injection hk with hk
    exact hfresh k (by omega)
 obtain ⟨v1,w1,hr1,h1,hg,hat⟩:=hrun;refine wpList_plain hgd fun K hK=>?_
 unfold Oper.wp execOp;simp only [ho,resolve,invoke,builtin,Sem.run_bind,Sem.run_pure,Result.andThen_ok,List.map_toArray,List.map_cons,List.map_nil,hs,hx,hr1];exact hK _ _ (h v1 w1 h1 (HB.grown hg hbase (y3k hown)) hg hat)
end
end Kd
namespace Kd
end Kd
namespace Kd
end Kd
theorem y03 {w W:World} (h:Below w.heap.size w W):w.heap.size≤W.heap.size:=h.size
theorem y05 {w W w2:World} (h:Below w.heap.size w W) (k:Below W.heap.size W w2):Below w.heap.size w w2:=yc8 h h.size k
theorem ReadsInt.nil (W:World) (k:IntKind):ReadsInt W k none ([]:List Int).length []:=⟨rfl,by simp,fun h=>absurd h (Nat.lt_irrefl 0)⟩
theorem ReadsInt.ofRow {k:IntKind} {w:World} {a:Option Addr} {len cap:Nat} {zs:List Int} (h:(a=none∧len=0∧cap=0∧zs=[])∨∃ x,a=some x∧len≤cap∧cap≤maxLen∧zs.length=cap∧(∀ i,i<zs.length->w.cell? (x.add i)=some (.int k (zs.getD i 0)))∧∀ n ∈ zs,(Lit.int k n).wf=true) :
  ∃ l:List Int,len=l.length∧ReadsInt w k a l.length l∧l.length≤maxLen∧∀ x ∈ l,(Lit.int k x).wf=true:=by
 rcases h with ⟨rfl,rfl,rfl,rfl⟩|⟨x,rfl,hl,hm,hz,hc,hw⟩
 ·exact ⟨[],rfl,ReadsInt.nil _ _,Nat.zero_le _,fun x hx=>by simp at hx⟩
 ·have e:(zs.take len).length=len:=by simp;omega
  have hm':len≤maxLen:=Nat.le_trans hl hm;refine ⟨zs.take len,e.symm,⟨rfl,by rw [e];simpa [maxLen] using hm',fun _=>⟨x,rfl,fun j hj=>?_⟩⟩,by rw [e];exact hm',fun y hy=>hw y (List.mem_of_mem_take hy)⟩;rw [e] at hj;rw [hc j (by omega)];simp [List.getD,List.getElem?_take,hj]
theorem y0e {w W:World} {g j:Nat} {v:Value} (h:Below w.heap.size w W) (hg:w.heap.size≤g):Below w.heap.size w (W.setCell ⟨g,j,none⟩ v):=h.setCell hg _
theorem y0y {w:World} {g:Nat} {t:TypeId} {cs cs':Array Value} (h:w.heap[g]?=some (.cells cs t (0,0))) (i:Nat) (u:Value) (e:cs.setIfInBounds i u=cs'):(w.setCell ⟨g,i,none⟩ u).heap[g]?=some (.cells cs' t (0,0)):=e ▸ blk_set h i u
theorem ReadsInt.ofRowC {k:IntKind} {w:World} {a:Option Addr} {len cap:Nat} {zs:List Int} (h:(a=none∧len=0∧cap=0∧zs=[])∨∃ x,a=some x∧len≤cap∧cap≤maxLen∧zs.length=cap∧(∀ i,i<zs.length->w.cell? (x.add i)=some (.int k (zs.getD i 0)))∧∀ n ∈ zs,(Lit.int k n).wf=true) :
  ∃ l:List Int,len=l.length∧ReadsInt w k a l.length l∧l.length≤maxLen∧(∀ x ∈ l,(Lit.int k x).wf=true)∧l.length≤cap:=by
 have hl:len≤cap:=by
  rcases h with ⟨_,rfl,rfl,_⟩|⟨_,_,h,_⟩
  ·exact zLe _
  ·exact h
 obtain ⟨l,e,h1,h2,h3⟩:=ReadsInt.ofRow h;exact ⟨l,e,h1,h2,h3,e ▸ hl⟩
theorem y01 {base:Nat} {w W:World} (h:Below base w W):Below base w W.drew:=h.drew
namespace Kd
end Kd
namespace Kd
section
variable {α:Type} {d:Kd α} {e base g:Nat} {ok:Nat->Prop} {w w1:World} {v:Value} {xs:List α} {o:Obj}
theorem freshB (hb:w.heap[g]?=some o):∀ k,w.heap.size≤k->k≠g:=fun k hk=>by have:=y4s hb;omega
end
end Kd
section
variable {P:Program} {ops:Array Oper} {rest:List Oper} {o:Oper} {a:Act} {Q:Exit->Act->World->Prop}
theorem y1y {W:World} (hgd:o.guard=none) {N:Tmp} (_hd:o.dst=some N) {cs:Array Value} {t:TypeId}
  (hrun:(execOp a.eval o).run P W=.ok (.value (.pointer (some ⟨W.heap.size,0,none⟩))) (W.alloc (.cells cs t (0,0))))
  (h:∀ g,g=W.heap.size->∀ w1,w1.heap[g]?=some (.cells cs t (0,0))->Below W.heap.size W w1->wpList P ops Q rest (a.put o.dst (.pointer (some ⟨g,0,none⟩))) w1):wpList P ops Q (o :: rest) a W :=
 Kd.event_run hgd hrun (h _ rfl _ (blk_new W _) (y02 (Below.refl _ _) _))
end
namespace Kd
section
variable {α:Type} {enc:α->Value} {h1:∀ x,(enc x).oneCell'=true} {e base g n cap:Nat} {ok:Nat->Prop} {W:World} {xs:List α}
theorem R_celln (d:α) (h:(scalar enc h1).R e W base ok (.slice (some ⟨g,0,none⟩) n cap) xs) (i:Int) (h0:0≤i) (hi:i<n):W.cell? ⟨g,i.toNat,none⟩=some (enc (rdOf d xs i))∧W.frozen? ⟨g,i.toNat,none⟩=false:=by
 obtain ⟨rfl,_⟩:=R_reads' h;exact R_cell d h i h0 hi
theorem R_putn (h:(scalar enc h1).R e W base ok (.slice (some ⟨g,0,none⟩) n cap) xs) (i:Int) (x:α):(scalar enc h1).R e (W.setCell ⟨g,i.toNat,none⟩ (enc x)) base ok (.slice (some ⟨g,0,none⟩) n cap) (xs.set i.toNat x):=by
 obtain ⟨rfl,_⟩:=R_reads' h;exact (R_put h i x).1
end
end Kd
section
variable {P:Program} {ops:Array Oper} {rest:List Oper} {o:Oper} {a:Act} {Q:Exit->Act->World->Prop}
theorem y2i {W w1:World} (hgd:o.guard=none) {t:TypeId} {p:Tmp} {v:Operand} (_ho:o.op=.store t (.tmp p) v) (hN:o.dst=none)
  (hrun:(execOp a.eval o).run P W=.ok .skip w1) (h:∀ w',w'=w1->wpList P ops Q rest a w'):wpList P ops Q (o :: rest) a W:=by
 refine wpList_plain hgd fun K hK=>?_
 unfold Oper.wp;rw [hrun];show K (a.put o.dst undef) w1;rw [hN];exact hK _ _ (h _ rfl)
end
namespace Kd
section
variable {α:Type} {enc:α->Value} {h1:∀ x,(enc x).oneCell'=true} {e base g n cap:Nat} {ok:Nat->Prop} {W:World} {xs:List α}
theorem R_putg (h:(scalar enc h1).R e W base ok (.slice (some ⟨g,0,none⟩) n cap) xs) (i:Int) (x:α):(scalar enc h1).R e (W.setCell ⟨g,i.toNat,none⟩ (enc x)) base ok (.slice (some ⟨g,0,none⟩) n cap) (xs.set i.toNat x)∧W.grownBy (W.setCell ⟨g,i.toNat,none⟩ (enc x)) (some g):=by
 obtain ⟨rfl,_⟩:=R_reads' h;exact R_put h i x
end
end Kd
section
variable {P:Program} {ops:Array Oper} {rest:List Oper} {o:Oper} {a:Act} {Q:Exit->Act->World->Prop} {W:World}
theorem y0l {N:Tmp} (_hN:o.dst=some N) (h:wpList P ops Q (o :: rest) a W):wpList P ops Q (o :: rest) a W:=h
theorem y2w {t:TypeId} {p:Tmp} {v:Operand} (_ho:o.op=.store t (.tmp p) v) (h:wpList P ops Q (o :: rest) a W):wpList P ops Q (o :: rest) a W:=h
end
section
variable {P:Program} {ops:Array Oper} {o:Oper} {a:Act} {Q:Exit->Act->World->Prop} {Kc:Act->World->Prop}
namespace Kd
variable {α:Type}
theorem R_append_rows_step (d:Kd α) {Rr:α->List Value->Prop} {w0 W:World} (base:Nat) (hw:Region.wanted o (yielded ops a.tmps)=true) (s x:Operand) (t e:TypeId) (z:Value) (bytes:Nat)
  (ho:o.op=.call { callee:=.builtin .append,args:=#[s,x],argTypes:=#[t,t] })
  (ht:P.underlying t=some (.slice e)) (hinfo:(P.info? e).map (fun i=>(i.zero,i.size,i.bytes))=some (some z,d.sz,bytes)) (hz:z.cells.size=d.sz) (hs0:0<d.sz) (hb0:0<bytes)
  (v:Value) (xs ys:List α) (A:Option Addr) (m c:Nat) (ok okp:Nat->Prop) (hs:a.eval s=v) (hx:a.eval x=.slice A m c)
  (HO:d.R e W base ok v xs) (HR:ReadsRow Rr d.sz W A m ys) (hKM:∀ x cs,Rr x cs->d.M W base okp x cs) (hokp:∀ k,okp k->ok k∧some k≠v.ownBlock) (hfresh:∀ k,W.heap.size≤k->ok k)
  (HB:Below base w0 W) (hbase:base≤W.heap.size) (hl:(xs.length+m) * bytes≤140737488355328)
  (h:∀ v1 w1,d.R e w1 base ok v1 (xs ++ ys)->Below base w0 w1->W.grownBy w1 v.ownBlock->(v1.ownBlock=v.ownBlock∨∃ b,v1.ownBlock=some b∧W.heap.size≤b)->Kc (a.put o.dst v1) w1) :
  if Region.wanted o (yielded ops a.tmps)=true then Oper.wp P o a W Kc Q else Kc (a.put o.dst undef) W:=by
 obtain ⟨i0,hi,hzz⟩:=Option.map_eq_some_iff.1 hinfo;simp only [Prod.mk.injEq] at hzz;obtain ⟨hz0,hz1,hz2⟩:=hzz;have hm:ys.length=m:=HR.1;have hlen:xs.length+m≤140737488355328:=Nat.le_trans (Nat.le_mul_of_pos_right _ hb0) hl;obtain ⟨hok,inner,hown,hr⟩:=HO;have hrun:∃ v1 w1,(Builtin.append_ #[t,t] o.type #[v,.slice A m c]).run P W=.ok v1 w1∧d.R e w1 base ok v1 (xs ++ ys)∧W.grownBy w1 v.ownBlock∧(v1.ownBlock=v.ownBlock∨∃ b,v1.ownBlock=some b∧W.heap.size≤b):=by
  rcases A with _|ad
  ·have h0:m=0:=by
    rcases Nat.eq_zero_or_pos m with h0|h0
    ·exact h0
    ·obtain ⟨ad,h,_⟩:=HR.2.2 h0
     cases h
   subst h0;obtain rfl:ys=[]:=List.eq_nil_of_length_eq_zero hm;refine ⟨v,W,?_,by rw [List.append_nil];exact ⟨hok,inner,hown,hr⟩,World.grownBy.refl W _,.inl rfl⟩;rcases hown.2 with ⟨rfl,hn⟩|⟨g,cap,cur,rfl,_,_,hnc,_⟩
   ·simp [Builtin.append_,run_underlying ht,sizeOf,typeInfo,hi,Builtin.lenOf,Builtin.firstCells]
   ·simp [Builtin.append_,run_underlying ht,sizeOf,typeInfo,hi,Builtin.lenOf,Builtin.firstCells,hnc,storeCells]
  ·obtain ⟨news,hnr,hnc⟩:=ReadsRow.inner_ HR
   have hnM:Reps (d.M W base okp) d.sz ys news:=hnr.imp_ (fun p c hp=>hKM p c hp);have hone:∀ u ∈ news,u.oneCell'=true:=by
    intro u hu;obtain ⟨q,hq,rfl⟩:=List.mem_iff_getElem.1 hu;have hql:q / d.sz<ys.length:=by
     rw [Nat.div_lt_iff_lt_mul hs0];rw [← hnM.1];exact hq
    have hc:=hnM.2 (q / d.sz) _ (List.getElem?_eq_getElem hql);refine d.K_one (d.K_of_M hc) _ ?_;rw [List.mem_iff_getElem?];refine ⟨q % d.sz,?_⟩;rw [List.getElem?_take,if_pos (Nat.mod_lt _ hs0),List.getElem?_drop,Nat.mul_comm,Nat.div_add_mod,List.getElem?_eq_getElem hq]
   obtain ⟨v1,w1,hrun,h2,hg,_,hat⟩:=run_append_own_at (P:=P) W base t o.type e i0 z d.sz bytes ht hi hz0 hz1 hz2 hz hs0 v xs.length inner hown ad m c news (by rw [hnM.1,hm]) hnc hone (by simp only [maxLen];omega) hl hbase;have hat':v1.ownBlock=v.ownBlock∨∃ b,v1.ownBlock=some b∧W.heap.size≤b:=by
    rcases hat with hat|hat
    ·exact .inl hat
    ·exact .inr ⟨_,hat,zLe _⟩
   have hne:∀ k,some k≠v.ownBlock->k<W.heap.size->some k≠v1.ownBlock:=by
    intro k hk hlt;rcases hat' with hat|⟨b,hb,hle⟩
    ·rw [hat];exact hk
    ·rw [hb]
     intro he;injection he with he
     omega
   have step:∀ {q:α} {c:List Value} {o:Nat->Prop},d.M W base o q c->(∀ k,o k->ok k∧some k≠v.ownBlock)->d.M w1 base (fun k=>ok k∧some k≠v1.ownBlock) q c:=by
    intro q c o hq ho;have h1:=d.M_move (w1:=w1) (fun k hk=>hg.block k hk.2.2.1 (ho k hk.1).2) (d.M_bound hq);exact d.M_mono (fun k hk=>⟨(ho k hk.1).1,hne k (ho k hk.1).2 hk.2.2.1⟩) h1
   refine ⟨v1,w1,hrun,⟨fun k hk=>?_,inner ++ news,by rw [List.length_append,hm];exact h2,y5f (hr.imp_ (fun _ _ hq=>step hq (fun _ hk=>hk))) (hnM.imp_ (fun _ _ hq=>step hq hokp))⟩,hg,hat'⟩;rcases hat' with hat|⟨b,hb,hle⟩
   ·exact hok k (hat ▸ hk)
   ·rw [hb] at hk
    injection hk with hk
    exact hfresh k (by omega)
 obtain ⟨v1,w1,hr1,h1,hg,hat⟩:=hrun;rw [if_pos hw];unfold Oper.wp execOp;simp only [ho,resolve,invoke,builtin,Sem.run_bind,Sem.run_pure,Result.andThen_ok,List.map_toArray,List.map_cons,List.map_nil,hs,hx,hr1];exact h v1 w1 h1 (HB.grown hg hbase (y3k hown)) hg hat
end Kd
end
namespace Kd
end Kd
end Go.Proofs.Yw.Wd
namespace Go.Proofs.Yw.La
section
variable {P:Program} {ops:Array Oper} {Q:Exit->Act->World->Prop} {md:Region.Mode} {S:World->Prop} {ds:List Nat}
def Region.reachB (md:Region.Mode) (ops:Array Oper) (i:Nat):Nat->Nat->Bool
 |0,_=>false
 |fuel+1,d=>match ops[d]? with
  |some o=>o.after.any fun e=>Region.binds md e && (e.on == i || Region.reachB md ops i fuel e.on)
  |none=>false
def Region.closedB (md:Region.Mode) (ops:Array Oper) (listed:Array Bool):Bool :=
 (List.range ops.size).all fun j=>!listed.getD j false || match ops[j]? with
  |some o=>o.after.all fun e=>!Region.binds md e || listed.getD e.on false
  |none=>true
def Region.lastB (md:Region.Mode) (ops:Array Oper) (listed:Array Bool) (ds:List Nat) (i:Nat):Bool :=
 ds.all fun d=>listed.getD d true || Region.reachB md ops i ops.size d
def ListedClosed (md:Region.Mode) (ops:Array Oper) (listed:Array Bool):Prop :=
 ∀ j oj,ops[j]?=some oj->listed.getD j false=true->∀ e ∈ oj.after,Region.binds md e=true->listed.getD e.on false=true
theorem Region.closedB_spec {listed:Array Bool} (h:Region.closedB md ops listed=true):ListedClosed md ops listed:=by
 intro j oj hj hl e he hb;have hlt:j<ops.size:=(zGe hj).1;have h1:=List.all_eq_true.1 h j (List.mem_range.2 hlt);simp only [hl,hj,Bool.not_true,Bool.false_or] at h1;have h2:=Array.all_eq_true_iff_forall_mem.1 h1 e he;simpa [hb] using h2
theorem ListedClosed.set {listed:Array Bool} {i:Nat} (h:ListedClosed md ops listed) (hi:i ∈ Region.ready md ops listed):ListedClosed md ops (listed.setIfInBounds i true):=by
 obtain ⟨_,oi,hoi,hall⟩:=mem_ready.1 hi;intro j oj hj hl e he hb
 by_cases hij:i=j
 ·subst hij
  have:oj=oi:=zSi (hj.symm.trans hoi);subst this;exact getD_set_true (hall e he hb)
 ·rw [getD_set_ne false hij] at hl
  exact getD_set_true (h j oj hj hl e he hb)
theorem Region.reach_listed {listed:Array Bool} {i:Nat} (hc:ListedClosed md ops listed):∀ (fuel d:Nat),Region.reachB md ops i fuel d=true->listed.getD d false=true->listed.getD i false=true
 |0,_,h,_=>by simp [Region.reachB] at h
 |fuel+1,d,h,hl=>by
  unfold Region.reachB at h;cases ho:ops[d]? with
  |none=>rw [ho] at h;simp at h
  |some o =>
   rw [ho] at h;obtain ⟨e,he,h1⟩:=Array.any_eq_true'.1 h;simp only [Bool.and_eq_true,Bool.or_eq_true,beq_iff_eq] at h1;have hle:=hc d o ho hl e he h1.1;rcases h1.2 with h2|h2
   ·rw [← h2];exact hle
   ·exact Region.reach_listed hc fuel e.on h2 hle
theorem Region.reach_not_ready {listed:Array Bool} {i d fuel:Nat} (hc:ListedClosed md ops listed) (hr:Region.reachB md ops i fuel d=true) (hun:listed.getD i true=false):d ∉ Region.ready md ops listed:=by
 intro hd;obtain ⟨_,o,ho,hall⟩:=mem_ready.1 hd;have hi:listed.getD i false=true:=by
  cases fuel with
  |zero=>simp [Region.reachB] at hr
  |succ n =>
   unfold Region.reachB at hr;rw [ho] at hr;obtain ⟨e,he,h1⟩:=Array.any_eq_true'.1 hr;simp only [Bool.and_eq_true,Bool.or_eq_true,beq_iff_eq] at h1;have hle:=hall e he h1.1;rcases h1.2 with h2|h2
   ·rw [← h2];exact hle
   ·exact Region.reach_listed hc n e.on h2 hle
 rcases Nat.lt_or_ge i listed.size with h'|h'
 ·simp [h'] at hun hi
  rw [hun] at hi;cases hi
 ·simp [Array.getElem?_eq_none h'] at hun
def y0j (P:Program) (md:Region.Mode) (ops:Array Oper) (Q:Exit->Act->World->Prop) (S:World->Prop) (ds:List Nat):Nat->Array Bool->Act->World->Prop
 |0,listed,a,w=>Region.ready md ops listed=[]∧Q .normal a w
 |fuel+1,listed,a,w =>
  (Region.ready md ops listed=[]->Q .normal a w) ∧
  ∀ i ∈ Region.ready md ops listed,wpOp P ops Q i (fun a' w'=>(i ∉ ds->S w->S w')∧y0j P md ops Q S ds fuel (listed.setIfInBounds i true) a' w') a w
theorem y3w:∀ (fuel:Nat) (listed:Array Bool) (a:Act) (w:World),y0j P md ops Q S ds fuel listed a w->wpAny P md ops Q fuel listed a w
 |0,_,_,_,h=>h
 |fuel+1,_,_,_,h=>⟨h.1,fun i hi=>wpOp_mono (fun a' w' h'=>y3w fuel _ a' w' h'.2) (h.2 i hi)⟩
theorem y50 {i:Nat} {oi:Oper} {v:Value} (hi:ops[i]?=some oi) (hsel:∀ (j:Nat) (o:Oper) cs b,ops[j]?=some o->o.op≠.select cs b)
  (hQ:∀ c a w,Q (.panic c) (a.put oi.dst v) w->Q (.panic c) a w) (n:Nat) :
  ∀ (fuel:Nat) (listed:Array Bool) (a:Act) (w:World),
   (∀ j oj,ops[j]?=some oj->j≠i->listed.getD j true=false->(∀ e ∈ oj.after,Region.binds md e=true->e.on≠i)->oi.apart ops oj=true) →
   ListedClosed md ops listed->(∀ d ∈ ds,listed.getD d true=false->Region.reachB md ops i n d=true) →
   i ∈ Region.ready md ops listed->YieldsIf P ops S oi v a->S w →
   y0j P md ops Q S ds fuel (listed.setIfInBounds i true) (a.put oi.dst v) w->y0j P md ops Q S ds (fuel+1) listed a w:=by
 intro fuel
 induction fuel with
 |zero =>
  intro listed a w _ _ _ hr hy hS H;refine ⟨fun h=>(by rw [h] at hr;cases hr),fun j hj=>?_⟩
  by_cases hji:j=i
  ·subst hji;exact hy.wpOp hi hS ⟨fun _ h=>h,H⟩
  ·have:=ready_mono hj hji
   rw [H.1] at this;cases this
 |succ fuel ih =>
  intro listed a w hfree hc hd hr hy hS H;refine ⟨fun h=>(by rw [h] at hr;cases hr),fun j hj=>?_⟩
  by_cases hji:j=i
  ·subst hji;exact hy.wpOp hi hS ⟨fun _ h=>h,H⟩
  ·have h1:=H.2 j (ready_mono hj hji)
   obtain ⟨hjun,oj,hoj,hall⟩:=mem_ready.1 hj;have hiun:=(mem_ready.1 hr).1;have hnot:∀ e ∈ oj.after,Region.binds md e=true->e.on≠i:=fun e he hb heq=>by
    have h1:=hall e he hb;rw [heq] at h1;rcases Nat.lt_or_ge i listed.size with h'|h'
    ·simp [h'] at hiun h1;rw [hiun] at h1;cases h1
    ·simp [Array.getElem?_eq_none h'] at h1
   have hjd:j ∉ ds:=fun hm=>Region.reach_not_ready hc (hd j hm hjun) hiun hj
   have h2:=wpOp_putIf hoj (hfree j oj hoj hji hjun hnot) (fun cs b=>hsel i oi cs b hi) (fun cs b=>hsel j oj cs b hoj) hQ hy h1;have hfree':∀ k ok,ops[k]?=some ok->k≠i->(listed.setIfInBounds j true).getD k true=false →
     (∀ e ∈ ok.after,Region.binds md e=true->e.on≠i)->oi.apart ops ok=true:=fun k ok hk hki hun hno=>by
    refine hfree k ok hk hki ?_ hno
    by_cases hjk:j=k
    ·subst hjk;exact hjun
    ·rw [getD_set_ne true hjk] at hun;exact hun
   have hd':∀ d ∈ ds,(listed.setIfInBounds j true).getD d true=false->Region.reachB md ops i n d=true:=fun d hm hun=>by
    refine hd d hm ?_
    by_cases hjk:j=d
    ·subst hjk;exact hjun
    ·rw [getD_set_ne true hjk] at hun;exact hun
   refine wpOp_mono (fun a' w' h3=>⟨h3.2.1,ih (listed.setIfInBounds j true) a' w' hfree' (hc.set hj) hd' (ready_mono hr (Ne.symm hji)) h3.1 (h3.2.1 hjd hS) ?_⟩) h2;rw [Array.setIfInBounds_comm _ _ hji];exact h3.2.2
theorem y76 {i:Nat} {oi:Oper} {v:Value} (hi:ops[i]?=some oi) (hsel:∀ (j:Nat) (o:Oper) cs b,ops[j]?=some o->o.op≠.select cs b)
  (hQ:∀ c a w,Q (.panic c) (a.put oi.dst v) w->Q (.panic c) a w) :
  ∀ (fuel:Nat) (listed:Array Bool) (a:Act) (w:World),
   (∀ j oj,ops[j]?=some oj->j≠i->listed.getD j true=false->(∀ e ∈ oj.after,Region.binds md e=true->e.on≠i)->oi.apart ops oj=true) →
   i ∈ Region.ready md ops listed->Yields P ops oi v a →
   y0j P md ops Q S ds fuel (listed.setIfInBounds i true) (a.put oi.dst v) w->y0j P md ops Q S ds (fuel+1) listed a w:=by
 intro fuel
 induction fuel with
 |zero =>
  intro listed a w _ hr hy H;refine ⟨fun h=>(by rw [h] at hr;cases hr),fun j hj=>?_⟩
  by_cases hji:j=i
  ·subst hji;exact (hy.yieldsIf (S:=fun _=>True)).wpOp hi trivial ⟨fun _ h=>h,H⟩
  ·have:=ready_mono hj hji
   rw [H.1] at this;cases this
 |succ fuel ih =>
  intro listed a w hfree hr hy H;refine ⟨fun h=>(by rw [h] at hr;cases hr),fun j hj=>?_⟩
  by_cases hji:j=i
  ·subst hji;exact (hy.yieldsIf (S:=fun _=>True)).wpOp hi trivial ⟨fun _ h=>h,H⟩
  ·have h1:=H.2 j (ready_mono hj hji)
   obtain ⟨hjun,oj,hoj,hall⟩:=mem_ready.1 hj;have hiun:=(mem_ready.1 hr).1;have hnot:∀ e ∈ oj.after,Region.binds md e=true->e.on≠i:=fun e he hb heq=>by
    have h1:=hall e he hb;rw [heq] at h1;rcases Nat.lt_or_ge i listed.size with h'|h'
    ·simp [h'] at hiun h1;rw [hiun] at h1;cases h1
    ·simp [Array.getElem?_eq_none h'] at h1
   have h2:=wpOp_put hoj (hfree j oj hoj hji hjun hnot) (fun cs b=>hsel i oi cs b hi) (fun cs b=>hsel j oj cs b hoj) hQ hy h1;have hfree':∀ k ok,ops[k]?=some ok->k≠i->(listed.setIfInBounds j true).getD k true=false →
     (∀ e ∈ ok.after,Region.binds md e=true->e.on≠i)->oi.apart ops ok=true:=fun k ok hk hki hun hno=>by
    refine hfree k ok hk hki ?_ hno
    by_cases hjk:j=k
    ·subst hjk;exact hjun
    ·rw [getD_set_ne true hjk] at hun;exact hun
   refine wpOp_mono (fun a' w' h3=>⟨h3.2.1,ih (listed.setIfInBounds j true) a' w' hfree' (ready_mono hr (Ne.symm hji)) h3.1 ?_⟩) h2;rw [Array.setIfInBounds_comm _ _ hji];exact h3.2.2
theorem y6d {i:Nat} {oi:Oper} {v:Value} {fuel:Nat} {listed:Array Bool} {a:Act} {w:World} (hi:ops[i]?=some oi)
  (hs:Region.noSelect ops=true) (hf:Region.free md ops listed i=true) (hr:(Region.ready md ops listed).contains i=true)
  (hc:Region.closedB md ops listed=true) (hl:Region.lastB md ops listed ds i=true)
  (hQ:∀ c a w,Q (.panic c) (a.put oi.dst v) w->Q (.panic c) a w) (hy:YieldsIf P ops S oi v a) (hS:S w)
  (h:y0j P md ops Q S ds fuel (listed.setIfInBounds i true) (a.put oi.dst v) w):y0j P md ops Q S ds (fuel+1) listed a w :=
 y50 hi (Region.noSelect_spec hs) hQ ops.size fuel listed a w (Region.free_spec hi hf) (Region.closedB_spec hc)
  (fun d hm hun=>by have:=List.all_eq_true.1 hl d hm;rw [hun] at this;simpa using this) (by simpa using hr) hy hS h
theorem y77 {rs:List Nat} {fuel:Nat} {listed:Array Bool} {a:Act} {w:World} (hr:Region.ready md ops listed=rs) (hne:rs≠[])
  (h:∀ i ∈ rs,wpOp P ops Q i (fun a' w'=>(i ∉ ds->S w->S w')∧y0j P md ops Q S ds fuel (listed.setIfInBounds i true) a' w') a w):y0j P md ops Q S ds (fuel+1) listed a w :=
 ⟨fun h0=>absurd (hr ▸ h0) hne,hr ▸ h⟩
theorem y6e {listed:Array Bool} {a:Act} {w:World} (hr:Region.ready md ops listed=[]) (h:Q .normal a w) :
  ∀ fuel,y0j P md ops Q S ds fuel listed a w
 |0=>⟨hr,h⟩
 |_+1=>⟨fun _=>h,by rw [hr];simp⟩
theorem y6c {id:Nat} {a:Act} {w:World} (hm:P.follows .mixedOrders=true)
  (h:y0j P .any ops Q S ds ops.size (Array.replicate ops.size false) a { w with drawn:=w.drawn+1 }):(Code.region id ops true).wp P Q a w :=
 wp_region_any hm (y3w _ _ _ _ h)
end
section
variable {P:Program} {ops:Array Oper} {Q:Exit->Act->World->Prop} {md:Region.Mode} {S:World->Prop} {ds:List Nat}
def AllReadyL (P:Program) (md:Region.Mode) (ops:Array Oper) (Q:Exit->Act->World->Prop) (S:World->Prop) (ds:List Nat) (fuel:Nat) (listed:Array Bool) (a:Act) (w:World) (rs:List Nat):Prop :=
 ∀ i ∈ rs,wpOp P ops Q i (fun a' w'=>(i ∉ ds->S w->S w')∧y0j P md ops Q S ds fuel (listed.setIfInBounds i true) a' w') a w
theorem AllReadyL.nil {fuel:Nat} {listed:Array Bool} {a:Act} {w:World}:AllReadyL P md ops Q S ds fuel listed a w []:=fun _ h=>by cases h
theorem AllReadyL.cons {fuel:Nat} {listed:Array Bool} {a:Act} {w:World} {i:Nat} {o:Oper} {rs:List Nat} (ho:ops[i]?=some o) (hd:i ∉ ds)
  (h:∀ K':Act->World->Prop,Shut (∀ a w,S w->(S w->y0j P md ops Q S ds fuel (listed.setIfInBounds i true) a w)->K' a w)->if Region.wanted o (yielded ops a.tmps)=true then Oper.wp P o a w K' Q else K' (a.put o.dst undef) w)
  (hs:AllReadyL P md ops Q S ds fuel listed a w rs):AllReadyL P md ops Q S ds fuel listed a w (i :: rs):=fun j hj=>by
 rcases List.mem_cons.1 hj with rfl|hj
 ·exact wpOp_step ho (fun K' hK=>h K' (fun a w hS hW=>hK a w ⟨fun _ _=>hS,hW hS⟩))
 ·exact hs j hj
theorem AllReadyL.cons_last {fuel:Nat} {listed:Array Bool} {a:Act} {w:World} {i:Nat} {o:Oper} {rs:List Nat} (ho:ops[i]?=some o) (hd:i ∈ ds)
  (h:∀ K':Act->World->Prop,Shut (∀ a w,y0j P md ops Q S ds fuel (listed.setIfInBounds i true) a w->K' a w)->if Region.wanted o (yielded ops a.tmps)=true then Oper.wp P o a w K' Q else K' (a.put o.dst undef) w)
  (hs:AllReadyL P md ops Q S ds fuel listed a w rs):AllReadyL P md ops Q S ds fuel listed a w (i :: rs):=fun j hj=>by
 rcases List.mem_cons.1 hj with rfl|hj
 ·exact wpOp_step ho (fun K' hK=>h K' (fun a w hW=>hK a w ⟨fun hn=>absurd hd hn,hW⟩))
 ·exact hs j hj
theorem y39 {rs:List Nat} {fuel:Nat} {listed:Array Bool} {a:Act} {w:World} (hr:Region.ready md ops listed=rs) (hne:rs≠[])
  (h:AllReadyL P md ops Q S ds fuel listed a w rs):y0j P md ops Q S ds (fuel+1) listed a w:=y77 hr hne h
theorem y3n {id n:Nat} {a:Act} {w:World} (l:Array Bool) (hm:P.follows .mixedOrders=true) (hn:ops.size=n) (hl:Array.replicate n false=l) (hS:S w.drew)
  (h:S w.drew->y0j P .any ops Q S ds n l a w.drew):(Code.region id ops true).wp P Q a w:=by
 subst hn;subst hl;exact y6c hm (h hS)
def ycn (md:Region.Mode) (ops:Array Oper) (ds:List Nat) (l l':Array Bool) (i:Nat):Bool :=
 Region.noSelect ops && Region.free md ops l i && (Region.ready md ops l).contains i && Region.closedB md ops l && Region.lastB md ops l ds i && (l.setIfInBounds i true == l')
theorem take_ {i:Nat} {N:Option Tmp} {oi:Oper} {v:Value} {fuel:Nat} {l:Array Bool} {a:Act} {w:World} (l':Array Bool) (hi:ops[i]?=some oi) (hN:oi.dst=N) (hc:ycn md ops ds l l' i=true)
  (hQ:∀ c a w,Q (.panic c) (a.put oi.dst v) w->Q (.panic c) a w) (hy:YieldsIf P ops S oi v a) (hS:S w) {a':Act} (ha:a.put N v=a')
  (h:y0j P md ops Q S ds fuel l' a' w):y0j P md ops Q S ds (fuel+1) l a w:=by
 subst ha;subst hN;simp only [ycn,Bool.and_eq_true,beq_iff_eq] at hc;obtain ⟨⟨⟨⟨⟨h1,h2⟩,h3⟩,h4⟩,h5⟩,h6⟩:=hc;subst h6;exact y6d hi h1 h2 h3 h4 h5 hQ hy hS h
def anyB (md:Region.Mode) (ops:Array Oper) (l l':Array Bool) (i:Nat):Bool :=
 Region.noSelect ops && Region.free md ops l i && (Region.ready md ops l).contains i && (l.setIfInBounds i true == l')
theorem y0d {i:Nat} {N:Option Tmp} {oi:Oper} {v:Value} {fuel:Nat} {l:Array Bool} {a:Act} {w:World} (l':Array Bool) (hi:ops[i]?=some oi) (hN:oi.dst=N) (hc:anyB md ops l l' i=true)
  (hQ:∀ c a w,Q (.panic c) (a.put oi.dst v) w->Q (.panic c) a w) (hy:Yields P ops oi v a) {a':Act} (ha:a.put N v=a')
  (h:y0j P md ops Q S ds fuel l' a' w):y0j P md ops Q S ds (fuel+1) l a w:=by
 subst ha;subst hN;simp only [anyB,Bool.and_eq_true,beq_iff_eq] at hc;obtain ⟨⟨⟨h1,h2⟩,h3⟩,h6⟩:=hc;subst h6;exact y76 hi (Region.noSelect_spec h1) hQ fuel l a w (Region.free_spec hi h2) (by simpa using h3) hy h
def y6u (md:Region.Mode) (ops:Array Oper) (l l':Array Bool) (i:Nat):Bool:=(Region.ready md ops l == [i]) && (l.setIfInBounds i true == l')
theorem one_ {i:Nat} {N:Option Tmp} {oi:Oper} {fuel:Nat} {l:Array Bool} {a:Act} {w:World} (l':Array Bool) (hi:ops[i]?=some oi) (hN:oi.dst=N) (hc:y6u md ops l l' i=true) (hd:i ∉ ds)
  (h:∀ K:Act->World->Prop,Shut (∀ a' w',S w'->(S w'->y0j P md ops Q S ds fuel l' a' w')->K a' w')->if Region.wanted oi (yielded ops a.tmps)=true then Oper.wp P oi a w K Q else K (a.put N undef) w) :
  y0j P md ops Q S ds (fuel+1) l a w:=by
 subst hN;simp only [y6u,Bool.and_eq_true,beq_iff_eq] at hc;obtain ⟨h1,h2⟩:=hc;subst h2;exact y39 h1 (by simp) (AllReadyL.cons hi hd (fun K hK=>h K hK) AllReadyL.nil)
theorem last_ {i:Nat} {N:Option Tmp} {oi:Oper} {fuel:Nat} {l:Array Bool} {a:Act} {w:World} (l':Array Bool) (hi:ops[i]?=some oi) (hN:oi.dst=N) (hc:y6u md ops l l' i=true) (hd:i ∈ ds)
  (h:∀ K:Act->World->Prop,Shut (∀ a' w',y0j P md ops Q S ds fuel l' a' w'->K a' w')->if Region.wanted oi (yielded ops a.tmps)=true then Oper.wp P oi a w K Q else K (a.put N undef) w) :
  y0j P md ops Q S ds (fuel+1) l a w:=by
 subst hN;simp only [y6u,Bool.and_eq_true,beq_iff_eq] at hc;obtain ⟨h1,h2⟩:=hc;subst h2;exact y39 h1 (by simp) (AllReadyL.cons_last hi hd (fun K hK=>h K hK) AllReadyL.nil)
theorem y6j {l:Array Bool} {a:Act} {w:World} {n:Nat} (hr:(Region.ready md ops l == [])=true) (h:Q .normal a w):y0j P md ops Q S ds n l a w:=y6e (by simpa using hr) h n
theorem y97 {fuel:Nat} {l:Array Bool} {a a':Act} {w:World} (ha:a=a') (h:y0j P md ops Q S ds fuel l a' w):y0j P md ops Q S ds fuel l a w:=by
 subst ha;exact h
theorem call_ {oi:Oper} {N:Option Tmp} {a:Act} {w:World} {K:Act->World->Prop} (f:FuncId) (args:Array Value) (hw:Region.wanted oi (yielded ops a.tmps)=true) (hN:oi.dst=N) (hrun:(execOp a.eval oi).run P w=.ok (.enter f args) w)
  (h:Calls P f args w fun e w'=>∃ v,e=.returned v∧K (a.put N v) w'):if Region.wanted oi (yielded ops a.tmps)=true then Oper.wp P oi a w K Q else K (a.put N undef) w:=by
 rw [if_pos hw];subst hN;unfold Oper.wp;rw [hrun,Oper.upon_enter];refine h.mono fun e w'' hh=>?_
 obtain ⟨v,rfl,hk⟩:=hh;exact hk
theorem ye5 {f:FuncId} {fn:Func} (hf:P.funcs[f]?=some fn) (hname:(fn.name == "runtime.NumGoroutine")=false) (hb:fn.body.isSome=true) (args:Array Value) (w:World):(callFunc f args).run P w=.ok (.enter f args) w:=by
 have h1:fn.name ≠ "runtime.NumGoroutine" := by simpa using hname
 obtain ⟨c,hc⟩:=Option.isSome_iff_exists.1 hb;simp [callFunc,hf,h1,hc]
theorem goes_ {oi:Oper} {N:Option Tmp} {a:Act} {w:World} {K:Act->World->Prop} {f:FuncId} {fn:Func} {az:Array Operand} {ts:Array TypeId} (hf:P.funcs[f]?=some fn) (hname:(fn.name == "runtime.NumGoroutine")=false) (hb:fn.body.isSome=true) (args:Array Value)
  (hw:Region.wanted oi (yielded ops a.tmps)=true) (hN:oi.dst=N) (hop:oi.op=.call { callee:=.value (.func f),args:=az,argTypes:=ts }) (hargs:az.map a.eval=args)
  (h:Calls P f args w fun e w'=>∃ v,e=.returned v∧K (a.put N v) w'):if Region.wanted oi (yielded ops a.tmps)=true then Oper.wp P oi a w K Q else K (a.put N undef) w:=by
 refine call_ f args hw hN ?_ h;have he:=ye5 hf hname hb args w;unfold execOp;simp [hop,resolve,Deferred.ofValue,invoke,Act.eval,hargs,he]
theorem y0h {rest:List Oper} {oi:Oper} {a:Act} {w:World} (N:Option Tmp) (hd:oi.dst=N) (hg:oi.guard=none) {f:FuncId} {fn:Func} {az:Array Operand} {ts:Array TypeId} (hf:P.funcs[f]?=some fn) (hname:(fn.name == "runtime.NumGoroutine")=false) (hb:fn.body.isSome=true) (args:Array Value)
  (hop:oi.op=.call { callee:=.value (.func f),args:=az,argTypes:=ts }) (hargs:az.map a.eval=args)
  (h:Calls P f args w fun e w'=>∃ v,e=.returned v∧wpList P ops Q rest (a.put N v) w'):wpList P ops Q (oi :: rest) a w:=by
 refine wpList_plain hg fun K hK=>?_
 have he:=ye5 hf hname hb args w;have hrun:(execOp a.eval oi).run P w=.ok (.enter f args) w:=by
  unfold execOp;simp [hop,resolve,Deferred.ofValue,invoke,Act.eval,hargs,he]
 unfold Oper.wp;rw [hrun,Oper.upon_enter];refine h.mono fun e w'' hh=>?_
 obtain ⟨v,rfl,hk⟩:=hh;subst hd;exact hK _ _ hk
theorem yci {oi:Oper} {N:Option Tmp} {a:Act} {w w1:World} {v:Value} {K:Act->World->Prop} (hw:Region.wanted oi (yielded ops a.tmps)=true) (hN:oi.dst=N) (hrun:(execOp a.eval oi).run P w=.ok (.value v) w1)
  (h:K (a.put N v) w1):if Region.wanted oi (yielded ops a.tmps)=true then Oper.wp P oi a w K Q else K (a.put N undef) w:=by
 rw [if_pos hw];subst hN;unfold Oper.wp;rw [hrun];exact h
theorem skip_ {oi:Oper} {a:Act} {w w1:World} {K:Act->World->Prop} (hw:Region.wanted oi (yielded ops a.tmps)=true) (hN:oi.dst=none) (hrun:(execOp a.eval oi).run P w=.ok .skip w1)
  (h:K a w1):if Region.wanted oi (yielded ops a.tmps)=true then Oper.wp P oi a w K Q else K (a.put none undef) w:=by
 rw [if_pos hw];unfold Oper.wp;rw [hrun];show K (a.put oi.dst undef) w1;rw [hN];exact h
theorem y0a (n:Int):IntKind.i64.wrap n=Go.RowKit.wrap64 n:=by unfold Go.RowKit.wrap64;exact IntKind.wrap_i64 n
theorem y0b (n:Int):IntKind.i32.wrap n=Go.RowKit.wrap32 n:=by unfold Go.RowKit.wrap32;exact IntKind.wrap_i32 n
end
end Go.Proofs.Yw.La
namespace Go.Proofs.Yw.La
open Go.Proofs.Yw.Wd (As0)
def y4f (md:Region.Mode) (o:Oper):List Nat:=(o.after.toList.filter (fun e=>Region.binds md e)).map (fun e=>e.on)
def yad (md:Region.Mode) (ops:Array Oper) (i:Nat) (oi:Oper):List Nat:=(List.range ops.size).filter fun j=>!(j == i) && match ops[j]? with
 |some oj=>!(oj.after.any (fun e=>Region.binds md e && e.on == i) || oi.apart ops oj)
 |none=>false
def rtab (md:Region.Mode) (ops:Array Oper):Bool × List (List Nat × List Nat):=(Region.noSelect ops,(List.range ops.size).map fun i=>match ops[i]? with
 |some o=>(y4f md o,yad md ops i o)
 |none=>([],[]))
def y3b (T:List (List Nat × List Nat)) (l:List Bool) (i:Nat):Bool:=!l.getD i true && match T[i]? with
 |some r=>r.1.all (fun j=>l.getD j false)
 |none=>false
def y8z (T:List (List Nat × List Nat)) (l:List Bool):List Nat:=(List.range T.length).filter (y3b T l)
def ye2 (T:List (List Nat × List Nat)) (l:List Bool) (i:Nat):Bool:=match T[i]? with
 |some r=>r.2.all (fun j=>l.getD j true)
 |none=>false
def y85 (T:List (List Nat × List Nat)) (l:List Bool):Bool:=(List.range T.length).all fun j=>!l.getD j false || match T[j]? with
 |some r=>r.1.all (fun k=>l.getD k false)
 |none=>true
def y6v (T:List (List Nat × List Nat)) (i:Nat):Nat->Nat->Bool
 |0,_=>false
 |fuel+1,d=>match T[d]? with
  |some r=>r.1.any fun j=>j == i || y6v T i fuel j
  |none=>false
def yf7 (T:List (List Nat × List Nat)) (l:List Bool) (ds:List Nat) (i:Nat):Bool:=ds.all fun d=>l.getD d true || y6v T i T.length d
section
variable {md:Region.Mode} {ops:Array Oper} {T:Bool × List (List Nat × List Nat)} {l l' li lj lk:Array Bool} {ds:List Nat} {i j k:Nat}
theorem gd (l:Array Bool) (j:Nat) (b:Bool):l.getD j b=l.toList.getD j b:=by simp [Array.getD_eq_getD_getElem?,List.getD_eq_getElem?_getD]
theorem y98 (o:Oper) (p:Nat->Bool):o.after.all (fun e=>!Region.binds md e || p e.on)=(y4f md o).all p:=by
 unfold y4f;rw [← Array.all_toList]
 induction o.after.toList with
 |nil=>rfl
 |cons e r ih =>
  rw [List.all_cons,ih,List.filter_cons];cases h:Region.binds md e<;>simp
theorem ydn (o:Oper) (p:Nat->Bool):o.after.any (fun e=>Region.binds md e && p e.on)=(y4f md o).any p:=by
 unfold y4f;rw [← Array.any_toList]
 induction o.after.toList with
 |nil=>rfl
 |cons e r ih =>
  rw [List.any_cons,ih,List.filter_cons];cases h:Region.binds md e<;>simp
theorem y32:(rtab md ops).2.length=ops.size:=by simp [rtab]
theorem y3y {o:Oper} (h:ops[i]?=some o):(rtab md ops).2[i]?=some (y4f md o,yad md ops i o):=by
 have hi:=(zGe h).1;unfold rtab;rw [List.getElem?_map,List.getElem?_range hi,Option.map_some,h]
theorem y3z (h:ops[i]?=none):(rtab md ops).2[i]?=none:=by
 have hi:ops.size≤i:=Array.getElem?_eq_none_iff.1 h;exact List.getElem?_eq_none (by rw [y32];exact hi)
theorem yby:y3b (rtab md ops).2 l.toList i=(!l.getD i true && ((ops[i]?).map (·.after.all fun e=>!Region.binds md e || l.getD e.on false)).getD false):=by
 unfold y3b;rw [gd];cases h:ops[i]? with
 |none=>rw [y3z h];rfl
 |some o =>
  rw [y3y h];simp only [Option.map_some,Option.getD_some];rw [← y98];simp only [gd]
theorem y7o:Region.ready md ops l=y8z (rtab md ops).2 l.toList:=by
 unfold Region.ready y8z;rw [y32];refine List.filter_congr (fun i _=>?_);rw [yby]
theorem ye1:Region.free md ops l i=ye2 (rtab md ops).2 l.toList i:=by
 unfold Region.free ye2;cases h:ops[i]? with
 |none=>rw [y3z h]
 |some oi =>
  rw [y3y h];simp only [yad];rw [List.all_filter]
  congr 1
  funext j
  rw [gd];cases hj:ops[j]? with
  |none=>cases (j == i)<;>cases (l.toList.getD j true)<;>simp
  |some oj =>
   cases (j == i)<;>cases (l.toList.getD j true)<;>cases (oj.after.any (fun e=>Region.binds md e && e.on == i) || oi.apart ops oj)<;>simp_all
theorem ye7:Region.closedB md ops l=y85 (rtab md ops).2 l.toList:=by
 unfold Region.closedB y85;rw [y32]
 congr 1
 funext j
 rw [gd];cases h:ops[j]? with
 |none=>rw [y3z h]
 |some o =>
  rw [y3y h];simp only;rw [← y98];simp only [gd]
theorem yau:∀ (fuel d:Nat),Region.reachB md ops i fuel d=y6v (rtab md ops).2 i fuel d
 |0,_=>rfl
 |fuel+1,d=>by
  unfold Region.reachB y6v;cases h:ops[d]? with
  |none=>rw [y3z h]
  |some o =>
   rw [y3y h];simp only;rw [← ydn]
   congr 1
   funext e
   rw [yau fuel]
theorem last_eq:Region.lastB md ops l ds i=yf7 (rtab md ops).2 l.toList ds i:=by
 unfold Region.lastB yf7;rw [y32]
 congr 1
 funext d
 rw [gd,yau]
theorem y5q (h:y3b T.2 l.toList i=true) (hT:rtab md ops=T):(Region.ready md ops l).contains i=true:=by
 subst hT;rw [y7o];unfold y8z;rw [List.contains_iff_mem,List.mem_filter,List.mem_range];refine ⟨?_,h⟩;unfold y3b at h;rw [Bool.and_eq_true] at h;cases hq:(rtab md ops).2[i]? with
 |none=>rw [hq] at h;simp at h
 |some r=>exact (List.getElem?_eq_some_iff.1 hq).1
theorem ycu (h:(l.toList.set i true == l'.toList)=true):(l.setIfInBounds i true == l')=true:=by
 rw [beq_iff_eq] at h ⊢;apply Array.ext';rw [Array.toList_setIfInBounds];exact h
def anyT (T:Bool × List (List Nat × List Nat)) (l l':List Bool) (i:Nat):Bool:=T.1 && ye2 T.2 l i && y3b T.2 l i && (l.set i true == l')
theorem y06 (hT:rtab md ops=T) (h:anyT T l.toList l'.toList i=true):anyB md ops l l' i=true:=by
 simp only [anyT,Bool.and_eq_true] at h;obtain ⟨⟨⟨h1,h2⟩,h3⟩,h4⟩:=h;have h5:=y5q h3 hT;have h6:=ycu h4;subst hT;simp only [anyB,Bool.and_eq_true];exact ⟨⟨⟨h1,by rw [ye1];exact h2⟩,h5⟩,h6⟩
def takeT (T:Bool × List (List Nat × List Nat)) (ds:List Nat) (l l':List Bool) (i:Nat):Bool:=T.1 && ye2 T.2 l i && y3b T.2 l i && y85 T.2 l && yf7 T.2 l ds i && (l.set i true == l')
theorem take_of (hT:rtab md ops=T) (h:takeT T ds l.toList l'.toList i=true):ycn md ops ds l l' i=true:=by
 simp only [takeT,Bool.and_eq_true] at h;obtain ⟨⟨⟨⟨⟨h1,h2⟩,h3⟩,h4⟩,h5⟩,h6⟩:=h;have h7:=y5q h3 hT;have h8:=ycu h6;subst hT;simp only [ycn,Bool.and_eq_true];exact ⟨⟨⟨⟨⟨h1,by rw [ye1];exact h2⟩,h7⟩,by rw [ye7];exact h4⟩,by rw [last_eq];exact h5⟩,h8⟩
theorem y45 (hT:rtab md ops=T) (h:(y8z T.2 l.toList == [i] && l.toList.set i true == l'.toList)=true):y6u md ops l l' i=true:=by
 simp only [Bool.and_eq_true] at h;obtain ⟨h1,h2⟩:=h;subst hT;simp only [y6u,Bool.and_eq_true];exact ⟨by rw [y7o];exact h1,ycu h2⟩
theorem y2q (hT:rtab md ops=T) (h:(y8z T.2 l.toList == [])=true):(Region.ready md ops l == [])=true:=by
 subst hT;rw [y7o];exact h
def upM (B:List Nat) (d:Nat):List Nat->Nat
 |[]=>0
 |n :: r=>(2 ^ n ||| (if n<d then B.getD n 0 else 0)) ||| upM B d r
def y2z (T:List (List Nat × List Nat)) (B:List Nat):Bool:=(List.range T.length).all fun d=>match T[d]? with
 |some r=>(B.getD d 0 ||| upM B d r.1) == upM B d r.1
 |none=>false
theorem ycj {B:List Nat} {d i:Nat}:∀ {ns:List Nat},(upM B d ns).testBit i=true->∃ n ∈ ns,n=i∨(n<d∧(B.getD n 0).testBit i=true)
 |[],h=>by simp [upM] at h
 |n :: r,h=>by
  unfold upM at h;rw [Nat.testBit_or,Nat.testBit_or,Bool.or_eq_true,Bool.or_eq_true] at h;rcases h with (h|h)|h
  ·rw [Nat.testBit_two_pow] at h
   exact ⟨n,List.mem_cons_self,.inl (by simpa using h)⟩
  ·by_cases hn:n<d
   ·rw [if_pos hn] at h
    exact ⟨n,List.mem_cons_self,.inr ⟨hn,h⟩⟩
   ·rw [if_neg hn] at h
    simp at h
  ·obtain ⟨m,hm,h2⟩:=ycj h
   exact ⟨m,List.mem_cons_of_mem _ hm,h2⟩
theorem y90 {T:List (List Nat × List Nat)} {B:List Nat} (hB:y2z T B=true):∀ (fuel d:Nat),d<fuel->d<T.length->(B.getD d 0).testBit i=true->y6v T i fuel d=true
 |0,d,h,_,_=>by omega
 |fuel+1,d,h,hd,hb=>by
  have h1:=List.all_eq_true.1 hB d (List.mem_range.2 hd);cases hr:T[d]? with
  |none=>rw [hr] at h1;simp at h1
  |some r =>
   rw [hr] at h1;simp only [beq_iff_eq] at h1;have h2:(upM B d r.1).testBit i=true:=by rw [← h1,Nat.testBit_or,hb,Bool.true_or]
   obtain ⟨n,hn,h3⟩:=ycj h2;unfold y6v;rw [hr];simp only;rw [List.any_eq_true];refine ⟨n,hn,?_⟩;rcases h3 with rfl|⟨h4,h5⟩
   ·simp
   ·rw [y90 hB fuel n (by omega) (by omega) h5,Bool.or_true]
def lastW (T:List (List Nat × List Nat)) (B:List Nat) (l:List Bool) (ds:List Nat) (i:Nat):Bool:=ds.all fun d=>l.getD d true || (decide (d<T.length) && (B.getD d 0).testBit i)
def takeW (T:Bool × List (List Nat × List Nat)) (B:List Nat) (ds:List Nat) (l l':List Bool) (i:Nat):Bool:=T.1 && ye2 T.2 l i && y3b T.2 l i && y85 T.2 l && lastW T.2 B l ds i && (l.set i true == l')
theorem y0m {B:List Nat} (hT:rtab md ops=T) (hB:y2z T.2 B=true) (h:takeW T B ds l.toList l'.toList i=true):ycn md ops ds l l' i=true:=by
 refine take_of hT ?_;simp only [takeW,takeT,Bool.and_eq_true] at h ⊢;obtain ⟨⟨⟨⟨⟨h1,h2⟩,h3⟩,h4⟩,h5⟩,h6⟩:=h;refine ⟨⟨⟨⟨⟨h1,h2⟩,h3⟩,h4⟩,?_⟩,h6⟩;unfold lastW at h5;unfold yf7;rw [List.all_eq_true] at h5 ⊢;intro d hd;have h7:=h5 d hd;rw [Bool.or_eq_true,Bool.and_eq_true,decide_eq_true_eq] at h7;rcases h7 with h7|⟨h8,h9⟩
 ·rw [h7,Bool.true_or]
 ·rw [y90 hB _ d h8 h8 h9,Bool.or_true]
theorem y1o {P:Program} {Q:Exit->Act->World->Prop} {S:World->Prop} {n:Nat} {a:Act} {w:World} {B:List Nat} (hT:rtab md ops=T) (hB:y2z T.2 B=true) (h:As0 (rtab md ops=T)->As0 (y2z T.2 B=true)->y0j P md ops Q S ds n l a w):y0j P md ops Q S ds n l a w:=h ⟨hT⟩ ⟨hB⟩
end
def y6g:Code->Nat->Option (Array Oper)
 |.region id ops _,k=>if id == k then some ops else none
 |.seq a b,k=>match y6g a k with
  |some o=>some o
  |none=>y6g b k
 |.cond _ a b,k=>match y6g a k with
  |some o=>some o
  |none=>y6g b k
 |.block _ c,k=>y6g c k
 |.loop c,k=>y6g c k
 |.scope c,k=>y6g c k
 |.rangeFunc _ _ a b,k=>match y6g a k with
  |some o=>some o
  |none=>y6g b k
 |_,_=>none
def ydj (f:Func) (k:Nat):Array Oper:=((f.body.bind fun c=>y6g c k)).getD #[]
end Go.Proofs.Yw.La
namespace Go.Proofs.Yw.Wd
open Go.RowKit
section
namespace Kd
def raw (sz:Nat):Kd (List Value) where
 sz:=sz
 E:=[]
 K:=fun _ x cs=>cs=x∧cs.length=sz∧∀ u ∈ cs,u.oneCell'=true
 M:=fun _ _ _ x cs=>cs=x∧cs.length=sz∧∀ u ∈ cs,u.oneCell'=true
 K_len:=fun h=>h.2.1
 K_one:=fun h=>h.2.2
 K_below:=fun _ h=>h
 K_of_M:=fun h=>h
 M_mono:=fun _ h=>h
 M_bound:=fun h=>h
 M_move:=fun _ h=>h
 M_lower:=fun _ h=>h
section
variable {α β:Type} {d:Kd α} {d':Kd β} {e e':Nat} {w w1 W:World} {base b:Nat} {ok ok' okv oku:Nat->Prop} {u v:Value} {xs:List α} {ys:List β}
theorem R_tight (hE:d.E=[]) (h:d.R e w base ok v xs):d.R e w base (fun k=>some k=v.ownBlock) v xs:=by
 obtain ⟨h0,inner,ho,hr⟩:=h;refine ⟨fun k hk=>hk.symm,inner,ho,hr.imp_ (fun p c hp=>d.M_mono (fun k hk=>?_) (d.M_bound hp))⟩;obtain ⟨_,_,_,q,hq,_⟩:=hk;rw [hE] at hq;cases hq
end
end Kd
end
section
def Foot (P:World->Prop) (W:World) (ok:Nat->Prop):Prop:=∀ W':World,(∀ k,ok k->k<W.heap.size->W'.heap[k]?=W.heap[k]?)->P W'
theorem heap_lt {W W1:World} {k:Nat} (h:W1.heap[k]?=W.heap[k]?) (hlt:k<W.heap.size):k<W1.heap.size:=by
 rw [Array.getElem?_eq_getElem hlt] at h;exact (zGe h).1
namespace Foot
variable {P Q:World->Prop} {W W1:World} {ok ok':Nat->Prop}
theorem now (h:Foot P W ok):P W:=h W (fun _ _ _=>rfl)
theorem mono (h:Foot P W ok) (hok:∀ k,ok k->ok' k):Foot P W ok':=fun W' hW=>h W' (fun k hk hlt=>hW k (hok k hk) hlt)
theorem bound (h:Foot P W ok):Foot P W (fun k=>ok k∧k<W.heap.size):=fun W' hW=>h W' (fun k hk hlt=>hW k ⟨hk,hlt⟩ hlt)
theorem step (h:Foot P W ok) (hm:∀ k,ok k->k<W.heap.size->W1.heap[k]?=W.heap[k]?):Foot P W1 ok:=fun W' hW=>h W' (fun k hk hlt=>(hW k hk (heap_lt (hm k hk hlt) hlt)).trans (hm k hk hlt))
theorem old (h:Foot P W ok) (hb:Below W.heap.size W W1):Foot P W1 (fun k=>ok k∧k<W.heap.size):=(h.bound).step (fun k _ hlt=>hb.block k hlt)
end Foot
namespace Kd
def F {α:Type} (d:Kd α) (W:World) (ok:Nat->Prop) (A:Option Addr) (n:Nat) (xs:List α):Prop:=Foot (fun W=>d.C W A n xs) W ok
def FK {α:Type} (d:Kd α) (W:World) (ok:Nat->Prop) (x:α) (c:List Value):Prop:=Foot (fun W=>d.K W x c) W ok
section
variable {α β:Type} {d:Kd α} {e base n n' cc g N:Nat} {ok ok' okp S:Nat->Prop} {w w0 w1 W W1:World} {A A':Option Addr} {u v v1:Value} {xs:List α} {xs':List β} {d':Kd β} {x:α} {c:List Value}
theorem F_now (h:F d W ok A n xs):d.C W A n xs:=Foot.now h
theorem y9h (h:F d W ok A n xs) (hok:∀ k,ok k->ok' k):F d W ok' A n xs:=Foot.mono h hok
theorem yel (h:F d W ok A n xs):F d W (fun k=>ok k∧k<W.heap.size) A n xs:=Foot.bound h
theorem F_step (h:F d W ok A n xs) (hm:∀ k,ok k->k<W.heap.size->W1.heap[k]?=W.heap[k]?):F d W1 ok A n xs:=Foot.step h hm
theorem F_below (h:F d W ok A n xs) (hb:Below W.heap.size W W1):F d W1 ok A n xs:=F_step h (fun k _ hlt=>hb.block k hlt)
theorem F_far (h:F d W ok A n xs) {p:Addr} (hok:∀ k,ok k->k≠p.block) (u:Value):F d (W.setCell p u) ok A n xs:=F_step h (fun k hk _=>Below.heap_setCell W p u k (hok k hk))
theorem yft (h:F d W ok A n xs) (hbase:∀ k,v.ownBlock=some k->W.heap.size≤k) (hb:Below W.heap.size W W1):F d W1 (fun k=>ok k∧some k≠v.ownBlock) A n xs :=
 y9h (Foot.old h hb) (fun k hk=>⟨hk.1,fun he=>by have:=hbase k he.symm;have:=hk.2;omega⟩)
theorem yfs (h:F d W ok A n xs) (a:Nat) (ha:W.heap.size≤a):F d W (fun k=>ok k∧k≠a) A n xs:=y9h (yel h) (fun k hk=>⟨hk.1,by have:=hk.2;omega⟩)
theorem F_after (h:F d W (fun k=>ok k∧some k≠v.ownBlock) A n xs) (hg:W.grownBy W1 v.ownBlock) (hat:v1.ownBlock=v.ownBlock∨∃ b,v1.ownBlock=some b∧W.heap.size≤b):F d W1 (fun k=>ok k∧some k≠v1.ownBlock) A n xs:=by
 refine y9h (Foot.step (yel h) (fun k hk hlt=>hg.block k hlt hk.1.2)) (fun k hk=>⟨hk.1.1,?_⟩);rcases hat with hat|⟨b,hb,hle⟩
 ·rw [hat];exact hk.1.2
 ·rw [hb]
  intro he;injection he with he
  have:=hk.2;omega
theorem yal (h:F d W ok A n xs):F d W (fun k=>ok k∧some k≠(Value.slice none 0 0).ownBlock) A n xs:=y9h h (fun k hk=>⟨hk,by simp [Value.ownBlock]⟩)
theorem R_F (h:d.R e W base ok (.slice A n cc) xs):F d W ok A n xs:=fun W' hW=>by
 have h2:=R_reads' (yb9 h hW);rw [h2.1];exact h2.2.2
theorem yen (h:FK d W ok x c):d.K W x c:=Foot.now h
theorem yam (h:FK d W ok x c) (hok:∀ k,ok k->ok' k):FK d W ok' x c:=Foot.mono h hok
theorem ybc (h:FK d W ok x c):FK d W (fun k=>ok k∧k<W.heap.size) x c:=Foot.bound h
theorem yem (h:FK d W ok x c) (hm:∀ k,ok k->k<W.heap.size->W1.heap[k]?=W.heap[k]?):FK d W1 ok x c:=Foot.step h hm
end
end Kd
end
section
namespace Kd
def y63 (sz:Nat) (n:Nat) (inner:List Value):List (List Value):=(List.range n).map fun j=>(inner.drop (j * sz)).take sz
theorem y1m (sz n:Nat) (inner:List Value):(y63 sz n inner).length=n:=by simp [y63]
theorem ye8 {sz n:Nat} {inner:List Value} {j:Nat} (hj:j<n):(y63 sz n inner)[j]?=some ((inner.drop (j * sz)).take sz):=by simp [y63,hj]
theorem y72 {sz n:Nat} {inner:List Value} {j:Nat} {c:List Value} (h:(y63 sz n inner)[j]?=some c):c=(inner.drop (j * sz)).take sz:=by
 have hj:j<n:=by have:=(List.getElem?_eq_some_iff.1 h).1;rwa [y1m] at this
 rw [ye8 hj] at h;injection h with h
 exact h.symm
theorem yet {α:Type} {Rr:α->List Value->Prop} {sz:Nat} {xs:List α} {inner:List Value} (h:Reps Rr sz xs inner) (hR:∀ x c,Rr x c->c.length=sz∧∀ u ∈ c,u.oneCell'=true):Reps (fun x cs=>cs=x∧cs.length=sz∧∀ u ∈ cs,u.oneCell'=true) sz (y63 sz xs.length inner) inner:=by
 refine ⟨by rw [y1m];exact h.1,fun j p hj=>?_⟩;have hjl:j<xs.length:=by have:=(List.getElem?_eq_some_iff.1 hj).1;rwa [y1m] at this
 have hp:=y72 hj;exact ⟨hp.symm,hR _ _ (h.2 j _ (List.getElem?_eq_getElem hjl))⟩
section
variable {α:Type} {d:Kd α} {e base n cc g:Nat} {ok ok' okp S:Nat->Prop} {w w1 W W1:World} {A:Option Addr} {u v v1:Value} {xs:List α} {x:α} {c:List Value}
def N {α:Type} (d:Kd α) (e:Nat) (w:World) (base:Nat) (ok:Nat->Prop) (v:Value) (xs:List α):Prop :=
 (∀ k,v.ownBlock=some k->ok k)∧∃ rows:List (List Value),rows.length=xs.length∧(raw d.sz).R e w base (fun k=>some k=v.ownBlock) v rows∧∀ (j:Nat) (x:α) (c:List Value),xs[j]?=some x->rows[j]?=some c->FK d w (fun k=>ok k∧some k≠v.ownBlock) x c
theorem ydb {sz:Nat} {rows:List (List Value)} (h:(raw sz).R e w base ok v rows):(raw sz).R e w base (fun k=>some k=v.ownBlock) v rows:=R_tight rfl h
theorem ybb (h:N d e w base ok v xs) (hok:∀ k,ok k->ok' k):N d e w base ok' v xs:=by
 obtain ⟨h0,rows,hl,hR,hf⟩:=h;exact ⟨fun k hk=>hok k (h0 k hk),rows,hl,hR,fun j x c hx hc=>yam (hf j x c hx hc) (fun k hk=>⟨hok k hk.1,hk.2⟩)⟩
theorem N_lt (h:N d e w base ok v xs):∀ k,v.ownBlock=some k->k<w.heap.size:=by
 obtain ⟨_,rows,_,hR,_⟩:=h;exact R_lt hR
theorem N_base (h:N d e w base ok v xs):∀ k,v.ownBlock=some k->base≤k:=by
 obtain ⟨_,rows,_,hR,_⟩:=h;exact R_base hR
theorem yak (h:N d e w base ok v xs):N d e w base (fun k=>ok k∧k<w.heap.size) v xs:=by
 have hlt:=N_lt h;obtain ⟨h0,rows,hl,hR,hf⟩:=h;exact ⟨fun k hk=>⟨h0 k hk,hlt k hk⟩,rows,hl,hR,fun j x c hx hc=>yam (ybc (hf j x c hx hc)) (fun k hk=>⟨⟨hk.1.1,hk.2⟩,hk.1.2⟩)⟩
theorem N_lower {base':Nat} (h:N d e w base ok v xs) (hb:base'≤base):N d e w base' ok v xs:=by
 obtain ⟨h0,rows,hl,hR,hf⟩:=h;exact ⟨h0,rows,hl,R_lower hR hb,hf⟩
theorem N_step (h:N d e w base ok v xs) (hm:∀ k,ok k->k<w.heap.size->w1.heap[k]?=w.heap[k]?):N d e w1 base ok v xs:=by
 obtain ⟨h0,rows,hl,hR,hf⟩:=h;exact ⟨h0,rows,hl,yb9 hR (fun k hk hlt=>hm k (h0 k hk.symm) hlt),fun j x c hx hc=>yem (hf j x c hx hc) (fun k hk hlt=>hm k hk.1 hlt)⟩
theorem N_below (h:N d e w base ok v xs) (hb:Below w.heap.size w w1):N d e w1 base ok v xs:=N_step h (fun k _ hk=>hb.block k hk)
theorem N_apart_nil (h:N d e w base ok v xs):N d e w base (fun k=>ok k∧some k≠(Value.slice none 0 0).ownBlock) v xs:=ybb h (fun k hk=>⟨hk,by simp [Value.ownBlock]⟩)
theorem N_elder' (h:N d e W base ok v xs) (hbase:∀ k,u.ownBlock=some k->W.heap.size≤k) (hb:Below W.heap.size W w1):N d e w1 base (fun k=>ok k∧some k≠u.ownBlock) v xs :=
 ybb (N_below (yak h) hb) (fun k hk=>⟨hk.1,fun he=>by have:=hbase k he.symm;have:=hk.2;omega⟩)
theorem N_elderB (h:N d e w base ok v xs) (a:Nat) (ha:w.heap.size≤a):N d e w base (fun k=>ok k∧k≠a) v xs:=ybb (yak h) (fun k hk=>⟨hk.1,by have:=hk.2;omega⟩)
theorem N_after (h:N d e W base (fun k=>ok k∧some k≠u.ownBlock) v xs) {u1:Value} (hg:W.grownBy w1 u.ownBlock) (hat:u1.ownBlock=u.ownBlock∨∃ b,u1.ownBlock=some b∧W.heap.size≤b):N d e w1 base (fun k=>ok k∧some k≠u1.ownBlock) v xs:=by
 refine ybb (N_step (yak h) (fun k hk hlt=>hg.block k hlt hk.1.2)) (fun k hk=>⟨hk.1.1,?_⟩);rcases hat with hat|⟨b,hb,hle⟩
 ·rw [hat];exact hk.1.2
 ·rw [hb]
  intro he;injection he with he
  have:=hk.2;omega
theorem N_slice (h:N d e w base ok v xs):∃ A c,v=.slice A xs.length c:=by
 obtain ⟨_,rows,hl,hR,_⟩:=h;obtain ⟨A,c,he⟩:=R_slice hR;exact ⟨A,c,by rw [he,hl]⟩
theorem N_reads' {n c:Nat} (h:N d e w base ok (.slice A n c) xs):n=xs.length∧n≤c∧d.C w A xs.length xs:=by
 obtain ⟨_,rows,hl,hR,hf⟩:=h;obtain ⟨hn,hc,hC⟩:=R_reads' hR;refine ⟨by omega,hc,?_⟩;rw [hl] at hC;refine ⟨rfl,hC.2.1,fun hp=>?_⟩;obtain ⟨ad,he,hcell⟩:=hC.2.2 hp;refine ⟨ad,he,fun j p hj=>?_⟩;have hjl:j<rows.length:=by have:=(List.getElem?_eq_some_iff.1 hj).1;omega
 obtain ⟨c',hcl,hK,hcc⟩:=hcell j _ (List.getElem?_eq_getElem hjl);have hk:=yen (hf j p _ hj (List.getElem?_eq_getElem hjl));refine ⟨c',hcl,?_,hcc⟩;rw [show c'=rows[j] from hK.1];exact hk
end
end Kd
end
end Go.Proofs.Yw.Wd
namespace Go.Proofs.Yw.Wd
theorem Reps.one {α:Type} {R:α->List Value->Prop} {ps:List α} {cs:List Value} {p:α} {v:Value} (hp:R p [v]) (h:Reps R 1 ps cs):Reps R 1 (p :: ps) (v :: cs):=by
 refine ⟨by simp [h.1],fun j q hq=>?_⟩;cases j with
 |zero =>
  simp only [List.getElem?_cons_zero,Option.some.injEq] at hq;subst hq;simpa using hp
 |succ j =>
  simp only [List.getElem?_cons_succ] at hq;have h1:=h.2 j q hq;simpa [Nat.mul_one] using h1
end Go.Proofs.Yw.Wd
namespace Go.Proofs.Yw.Wd
open Go.RowKit
section
section
variable {P:Program} {ops:Array Oper} {rest:List Oper} {o:Oper} {a:Act} {Q:Exit->Act->World->Prop} {W:World}
theorem y1k (hw:Region.wanted o (yielded ops a.tmps)=true) (h:wpList P ops Q ({ o with guard:=none } :: rest) a W):wpList P ops Q (o :: rest) a W:=by
 have h1:Region.wanted { o with guard:=none } (yielded ops a.tmps)=true:=rfl;unfold wpList at h ⊢;rw [if_pos h1] at h;rw [if_pos hw];exact h
end
end
section
namespace Kd
section
variable {α:Type} {d:Kd α} {e base n cap g:Nat} {ok ok' okp:Nat->Prop} {w w1 W:World} {v v1:Value} {xs ys:List α}
theorem N_made {rows:List (List Value)} (hR:(raw d.sz).R e w1 base (fun k=>k=W.heap.size) v1 rows) (hg:W.grownBy w1 none) (hat:∃ b,v1.ownBlock=some b∧W.heap.size≤b) (hl:rows.length=xs.length) (hf:∀ (j:Nat) (x:α) (c:List Value),xs[j]?=some x->rows[j]?=some c->FK d W okp x c)
  (hok:∀ k,okp k->ok k) (hfresh:ok W.heap.size):N d e w1 base ok v1 xs:=by
 obtain ⟨b,hb,hle⟩:=hat;refine ⟨fun k hk=>by rw [hR.1 k hk];exact hfresh,rows,hl,ydb hR,fun j x c hx hc=>?_⟩;refine yam (yem (ybc (hf j x c hx hc)) (fun k hk hlt=>hg.block k hlt (by simp))) (fun k hk=>⟨hok k hk.1,fun he=>?_⟩);rw [hb] at he;injection he with he
 have:=hk.2;omega
end
section
variable {P:Program} {ops:Array Oper} {rest:List Oper} {o:Oper} {a:Act} {Q:Exit->Act->World->Prop} {Kc:Act->World->Prop} {α:Type}
theorem N_lit (d:Kd α) {w0 W:World} (base e:Nat) (hgd:o.guard=none) {N':Tmp} (_hd:o.dst=some N') {xs:List α} {inner:List Value} {ok okp:Nat->Prop}
  (hrun:(execOp a.eval o).run P W=.ok (.value (.slice (some ⟨W.heap.size,0,none⟩) xs.length xs.length)) (W.alloc (.cells inner.toArray e)))
  (hrep:Reps (FK d W okp) d.sz xs inner) (hok:∀ k,okp k->ok k) (hfresh:ok W.heap.size) (HB:Below base w0 W) (hbase:base≤W.heap.size) (hm:xs.length≤9223372036854775807)
  (h:∀ v1 w1,N d e w1 base ok v1 xs->Below base w0 w1->W.grownBy w1 none->(∃ b,v1.ownBlock=some b∧W.heap.size≤b)->wpList P ops Q rest (a.put o.dst v1) w1) :
  wpList P ops Q (o :: rest) a W:=by
 refine R_lit (raw d.sz) base e hgd _hd (xs:=y63 d.sz xs.length inner) (inner:=inner) (ok:=fun k=>k=W.heap.size) (okp:=fun _=>False) (by rw [y1m];exact hrun) (yet hrep (fun y c hk=>⟨d.K_len (yen hk),d.K_one (yen hk)⟩)) (fun _ hk=>hk.elim) rfl HB hbase (by rw [y1m];exact hm) ?_;intro v1 w1 hr hb hg hat;exact h v1 w1 (N_made hr hg hat (y1m _ _ _) (fun j y c hy hc=>by rw [y72 hc];exact hrep.2 j y hy) hok hfresh) hb hg hat
end
end Kd
end
end Go.Proofs.Yw.Wd
namespace Go.Proofs.Yw.Mo
open Go.RowKit Go.Proofs.Yw.Wd
namespace Kd
open Go.Proofs.Yw.Wd.Kd
end Kd
namespace Kd
open Go.Proofs.Yw.Wd.Kd
section
variable {α:Type} {d:Kd α} {e base g N:Nat} {ok:Nat->Prop} {W w1:World} {u v:Value} {xs:List α}
theorem R_old (hu:d.R e W base ok u xs) (hb:Below W.heap.size W w1):d.R e w1 base (fun k=>ok k∧k<W.heap.size) u xs :=
 R_mono (R_below (y3i hu) hb) (fun _ h=>⟨h.1,h.2.2.1⟩)
theorem R_told (h:d.R e w1 base (fun k=>ok k∧k<N) u xs) (hbase:∀ k,v.ownBlock=some k->N≤k):d.R e w1 base (fun k=>(ok k∧some k≠v.ownBlock)∧k<N) u xs :=
 R_mono h (fun k hk=>⟨⟨hk.1,fun e=>Nat.lt_irrefl _ (Nat.lt_of_lt_of_le hk.2 (hbase k e.symm))⟩,hk.2⟩)
end
end Kd
theorem y1b (k k':IntKind) (x y:Int):Builtin.max2 (.int k x) (.int k' y)=pure (.int k (if x<y then y else x)):=by simp only [Builtin.max2,gt_iff_lt]
theorem y19 (k k':IntKind) (x y:Int):Builtin.min2 (.int k x) (.int k' y)=pure (.int k (if y<x then y else x)):=by simp only [Builtin.min2]
theorem y1q (ats:Array TypeId) (ty:TypeId) (a b:Value):Builtin.max_ ats ty #[a,b]=(Builtin.max2 a b >>= fun s=>pure s):=by simp only [Builtin.max_,List.foldlM_cons,List.foldlM_nil]
theorem y1p (ats:Array TypeId) (ty:TypeId) (a b:Value):Builtin.min_ ats ty #[a,b]=(Builtin.min2 a b >>= fun s=>pure s):=by simp only [Builtin.min_,List.foldlM_cons,List.foldlM_nil]
theorem y12 (ats:Array TypeId) (ty:TypeId) (a b c:Value):Builtin.max_ ats ty #[a,b,c]=(Builtin.max2 a b >>= fun s=>Builtin.max2 s c >>= fun s=>pure s):=by simp only [Builtin.max_,List.foldlM_cons,List.foldlM_nil]
theorem y11 (ats:Array TypeId) (ty:TypeId) (a b c:Value):Builtin.min_ ats ty #[a,b,c]=(Builtin.min2 a b >>= fun s=>Builtin.min2 s c >>= fun s=>pure s):=by simp only [Builtin.min_,List.foldlM_cons,List.foldlM_nil]
theorem y1a (ats:Array TypeId) (ty:TypeId) (a b c d:Value):Builtin.max_ ats ty #[a,b,c,d]=(Builtin.max2 a b >>= fun s=>Builtin.max2 s c >>= fun s=>Builtin.max2 s d >>= fun s=>pure s):=by simp only [Builtin.max_,List.foldlM_cons,List.foldlM_nil]
theorem y18 (ats:Array TypeId) (ty:TypeId) (a b c d:Value):Builtin.min_ ats ty #[a,b,c,d]=(Builtin.min2 a b >>= fun s=>Builtin.min2 s c >>= fun s=>Builtin.min2 s d >>= fun s=>pure s):=by simp only [Builtin.min_,List.foldlM_cons,List.foldlM_nil]
end Go.Proofs.Yw.Mo
namespace Go.Proofs.Yw.Wd
open Go.RowKit
section
variable {P:Program} {ops:Array Oper} {rest:List Oper} {o:Oper} {a:Act} {Q:Exit->Act->World->Prop} {W:World}
theorem y04 {f:FuncId} {az:Array Operand} {ts:Array TypeId} (_ho:o.op=.call { callee:=.value (.func f),args:=az,argTypes:=ts }) (h:wpList P ops Q (o :: rest) a W):wpList P ops Q (o :: rest) a W:=h
theorem y0n {b:Builtin} {xs:Array Operand} {ts:Array TypeId} (_ho:o.op=.call { callee:=.builtin b,args:=xs,argTypes:=ts }) (h:wpList P ops Q (o :: rest) a W):wpList P ops Q (o :: rest) a W:=h
end
def mx (a b:Int):Int:=if a<b then b else a
theorem yc7 (w:World) (n:Nat):w.drewN n=w.drewN n:=rfl
namespace Kd
end Kd
end Go.Proofs.Yw.Wd
namespace Go.Proofs.Yw.Wd
open Go.RowKit
namespace Kd
def V {α:Type} (d:Kd α) (_e:Nat) (W:World) (_base:Nat) (ok:Nat->Prop) (v:Value) (xs:List α):Prop:=∃ A c,v=.slice A xs.length c∧xs.length≤c∧F d W ok A xs.length xs
section
variable {α β:Type} {d:Kd α} {e base base' n m c g N' lo hi:Nat} {ok ok' S:Nat->Prop} {w W w1:World} {A:Option Addr} {ad:Addr} {u v v1:Value} {xs:List α}
theorem yag (h:V d e W base ok v xs) (hF:∀ A,F d W ok A xs.length xs->F d w1 ok' A xs.length xs):V d e w1 base' ok' v xs:=by
 obtain ⟨A,c,hv,hl,hf⟩:=h;exact ⟨A,c,hv,hl,hF A hf⟩
theorem V_at (h:V d e W base ok (.slice A n c) xs):n=xs.length∧n≤c∧F d W ok A xs.length xs:=by
 obtain ⟨A',c',hv,hl,hf⟩:=h;injection hv with ha hn hc
 subst ha;subst hc;exact ⟨hn,by rw [hn];exact hl,hf⟩
theorem V_reads' (h:V d e W base ok (.slice A n c) xs):n=xs.length∧n≤c∧d.C W A xs.length xs:=⟨(V_at h).1,(V_at h).2.1,F_now (V_at h).2.2⟩
theorem V_F (h:V d e W base ok (.slice A n c) xs):F d W ok A n xs:=by
 obtain ⟨hn,_,hf⟩:=V_at h;rw [hn];exact hf
theorem R_V (h:d.R e W base ok v xs):V d e W base' ok v xs:=by
 obtain ⟨A,c,rfl⟩:=R_slice h;exact ⟨A,c,rfl,(R_reads' h).2.1,R_F h⟩
theorem V_mono (h:V d e W base ok v xs) (hok:∀ k,ok k->ok' k):V d e W base ok' v xs:=yag h (fun _ hf=>y9h hf hok)
theorem V_below (h:V d e W base ok v xs) (hb:Below W.heap.size W w1):V d e w1 base ok v xs:=yag h (fun _ hf=>F_below hf hb)
theorem V_far (h:V d e W base ok v xs) {p:Addr} (hok:∀ k,ok k->k≠p.block) (u:Value):V d e (W.setCell p u) base ok v xs:=yag h (fun _ hf=>F_far hf hok u)
theorem V_after (h:V d e W base (fun k=>ok k∧some k≠u.ownBlock) v xs) (hg:W.grownBy w1 u.ownBlock) (hat:v1.ownBlock=u.ownBlock∨∃ b,v1.ownBlock=some b∧W.heap.size≤b):V d e w1 base (fun k=>ok k∧some k≠v1.ownBlock) v xs:=yag h (fun _ hf=>F_after hf hg hat)
theorem V_afterv (h:V d e W base (fun k=>ok k∧some k≠v.ownBlock) u xs) (hg:W.grownBy w1 v.ownBlock) (hat:v1.ownBlock=v.ownBlock∨∃ b,v1.ownBlock=some b∧W.heap.size≤b):V d e w1 base (fun k=>ok k∧some k≠v1.ownBlock) u xs:=V_after h hg hat
theorem N_afterv (h:N d e W base (fun k=>ok k∧some k≠v.ownBlock) u xs) (hg:W.grownBy w1 v.ownBlock) (hat:v1.ownBlock=v.ownBlock∨∃ b,v1.ownBlock=some b∧W.heap.size≤b):N d e w1 base (fun k=>ok k∧some k≠v1.ownBlock) u xs:=N_after h hg hat
theorem V_apart_nil (h:V d e W base ok v xs):V d e W base (fun k=>ok k∧some k≠(Value.slice none 0 0).ownBlock) v xs:=yag h (fun _ hf=>yal hf)
theorem V_elder' (h:V d e W base ok v xs) (hbase:∀ k,u.ownBlock=some k->W.heap.size≤k) (hb:Below W.heap.size W w1):V d e w1 base (fun k=>ok k∧some k≠u.ownBlock) v xs:=yag h (fun _ hf=>yft hf hbase hb)
theorem V_elderB (h:V d e W base ok v xs) (a:Nat) (ha:W.heap.size≤a):V d e W base (fun k=>ok k∧k≠a) v xs:=yag h (fun _ hf=>yfs hf a ha)
theorem FK_slice_mk {l:List α} (hl:l.length≤c) (hf:F d W ok A l.length l):FK (Kd.slice e d) W ok l [.slice A l.length c]:=fun W' hW=>⟨A,c,rfl,hl,hf W' hW⟩
theorem R_newM {M:Nat->Prop} (h:d.R e w1 W.heap.size ok v xs) (hle:w.heap.size≤W.heap.size) (hM:∀ k,w.heap.size≤k->M k):d.R e w1 W.heap.size (fun k=>M k∧ok k) v xs:=R_mono (y3i h) (fun k hk=>⟨hM k (Nat.le_trans hle hk.2.1),hk.1⟩)
end
end Kd
end Go.Proofs.Yw.Wd
namespace Go.Proofs.Ytdhgeondbnpeoaa.Ext
open Go.RowKit Go.Proofs.Yw.Wd Go.Proofs.Yw.La Go.Proofs.Yw.Mo
section
attribute [local go_sem] y1b y19 y1q y1p y12 y11 y1a y18
theorem info3:(Tra.prog.info? 3).map (fun i=>(i.zero,i.size,i.bytes))=some (some (.int .i64 0),1,8):=by kernel_rfl
theorem clone_calls (A:Option Addr) (c:Nat) (l:List Int) (w:World) (hr:Kd.C (Kd.int .i64) w A l.length l) (hL:l.length<17592186044416) :
  Calls Tra.prog 56 #[.slice A l.length c] w fun e w'=>∃ v,e=.returned v∧Kd.R (Kd.int .i64) 3 w' w.heap.size (fun _=>True) v l∧Below w.heap.size w w':=by
 have HR:=As0.mk hr;have HL:=As0.mk hL;have HB:=As0.mk (Below.refl w.heap.size w);clear hL;cases A with
 |none =>
  have hl:l=[]:=by
   rcases Nat.eq_zero_or_pos l.length with h|h
   ·exact List.eq_nil_of_length_eq_zero h
   ·obtain ⟨ad,h1,_⟩:=Kd.at_int hr 0 (by omega) (by omega)
    cases h1
  subst hl;clear hr;have hq:∀ W,(binOp .eql 29 (.slice none 0 c) (.slice none 0 0)).run Tra.prog W=.ok (.bool true) W:=fun W=>Lib.run_eql_slice_nil W 29 3 none _ _ _ _ Tra.underlying29
  go_enter Tra.func56,Tra.ntmps56
  go_wp2
  go_ret
  exact ⟨_,rfl,Kd.R_nil _ _ _ _ _,HB.out⟩
 |some ad =>
  clear hr;have hq:∀ W,(binOp .eql 29 (.slice (some ad) l.length c) (.slice none 0 0)).run Tra.prog W=.ok (.bool false) W:=fun W=>Lib.run_eql_slice_nil W 29 3 (some ad) _ _ _ _ Tra.underlying29
  go_enter Tra.func56,Tra.ntmps56
  go_wp2_with (first|((with_reducible refine y0l (N:=5) rfl ?_);refine Kd.R_lit (Kd.int .i64) _ 3 ?hg (N:=5) ?hd (xs:=([]:List Int)) (inner:=[]) (ok:=fun _=>True) (okp:=fun _=>True) ?hr ?hp (fun _ hk=>hk) trivial (Below.refl _ _) (zLe _) (by simp) ?_;(case hd=>rfl);(case hg=>rfl);(case hr=>(go_simp;done));(case hp=>exact (Reps.none _ _));intro v464 w11 ho12 hb hg_ hnew_;have HO:=As0.mk ho12;have HB2:=As0.mk (y05 HB.out hb);clear HB hg_ hnew_ ho12 hb)|(at_builtin;refine Kd.R_append_rows (Kd.int .i64) (w0:=w) w.heap.size rfl (.tmp 5) (.tmp 6) 29 3 (.int .i64 0) 8 rfl Tra.underlying29 info3 rfl (by decide) (by omega) v464 [] l _ _ _ (fun _=>True) (fun _=>False) rfl rfl ?aO ?aR (fun _ _ h=>h) (fun _ h=>h.elim) ?aF ?aB ?aS ?aL ?_;(case aR=>exact (Kd.C_below HR.out HB2.out));(case aB=>exact HB2.out);(case aF=>exact (fun _ _=>trivial));(case aO=>exact HO.out);(case aS=>exact y03 HB2.out);(case aL=>have:=HL.out;simp only [List.length_nil];omega);intro v467 w13 ho hb hg hat))
  go_ret
  exact ⟨_,rfl,ho,hb⟩
end
section
def OwnI (w:World) (base:Nat) (v:Value) (xs:List Int):Prop :=
 w.ownsRow base 3 1 v xs.length (nums .i64 xs)∧(∀ g cs fr,v.ownBlock=some g->w.heap[g]?=some (.cells cs 3 fr)->(∀ c ∈ cs,∃ x,c=.int .i64 x)∧∀ j,xs.length≤j->j<cs.size->cs[j]?=some (.int .i64 0))∧(xs=[]->v=.slice none 0 0)
theorem OwnI.nil (w:World) (base:Nat):OwnI w base (.slice none 0 0) []:=⟨ydh _ _ _ _,fun g cs fr h=>by simp [Value.ownBlock] at h,fun _=>rfl⟩
theorem OwnI.move {w w1:World} {base:Nat} {v:Value} {xs:List Int} (h:OwnI w base v xs) (hm:∀ k,v.ownBlock=some k->w1.heap[k]?=w.heap[k]?):OwnI w1 base v xs :=
 ⟨yaw h.1 hm,fun g cs fr hg hb=>h.2.1 g cs fr hg ((hm g hg).symm.trans hb),h.2.2⟩
theorem OwnI.lt {w:World} {base:Nat} {v:Value} {xs:List Int} (h:OwnI w base v xs) (k:Nat) (hk:v.ownBlock=some k):base≤k∧k<w.heap.size:=h.1.lt k hk
theorem OwnI.lower {w:World} {base base':Nat} {v:Value} {xs:List Int} (h:OwnI w base v xs) (hb:base'≤base):OwnI w base' v xs:=⟨y6w h.1 hb,h.2⟩
theorem OwnI.below {w w1:World} {base:Nat} {v:Value} {xs:List Int} (h:OwnI w base v xs) (hb:Below w.heap.size w w1):OwnI w1 base v xs:=h.move fun k hk=>hb.block k (h.lt k hk).2
theorem OwnI.grown {w w1:World} {base:Nat} {v:Value} {xs:List Int} (h:OwnI w base v xs) {row:Option Nat} (hg:w.grownBy w1 row) (hne:v.ownBlock=none∨v.ownBlock≠row):OwnI w1 base v xs :=
 h.move fun k hk=>hg.block k (h.lt k hk).2 (by
  rcases hne with h0|h0
  ·rw [hk] at h0;cases h0
  ·rw [← hk];exact h0)
theorem OwnI.toR {w:World} {base:Nat} {v:Value} {xs:List Int} (h:OwnI w base v xs):Kd.R (Kd.int .i64) 3 w base (fun _=>True) v xs:=by
 refine ⟨fun _ _=>trivial,nums .i64 xs,h.1,?_⟩;refine ⟨by simp [nums,Kd.int,Kd.scalar],fun j p hj=>?_⟩;show _=_;simp only [nums,Kd.int,Kd.scalar,Nat.mul_one];obtain ⟨hlt,rfl⟩:=List.getElem?_eq_some_iff.1 hj;rw [List.drop_eq_getElem_cons (by simpa using hlt)];simp
theorem zeros_int (n:Nat):∀ c ∈ Builtin.zeroCells #[Value.int .i64 0] n,c=.int .i64 0:=by
 intro c hc;unfold Builtin.zeroCells at hc;obtain ⟨i,_,rfl⟩:=Array.mem_map.1 hc;show #[Value.int .i64 0][i % 1]! = _;rw [Nat.mod_one];rfl
section
variable {P:Program} {w:World}
theorem y9s {t ty:TypeId} {i:TypeInfo} (ht:P.underlying t=some (.slice 3)) (hi:P.info? 3=some i) (hz:i.zero=some (.int .i64 0)) (hs:i.size=1) (hby:i.bytes=8) {base:Nat} {v:Value} {xs:List Int} (HO:OwnI w base v xs) (hbase:base≤w.heap.size)
  {ad:Addr} {c:Nat} {y:Int} (hy:w.cell? ad=some (.int .i64 y)) (hl:xs.length+1≤17592186044416) :
  ∃ v' w',(Builtin.append_ #[t,t] ty #[v,.slice (some ad) 1 c]).run P w=.ok v' w'∧OwnI w' base v' (xs ++ [y])∧w.grownBy w' v.ownBlock∧(v'.ownBlock=v.ownBlock∨v'.ownBlock=some w.heap.size):=by
 have hnews:∀ j u,[Value.int .i64 y][j]?=some u->w.cell? (ad.add j)=some u:=by
  intro j u hu;rcases j with _|j
  ·injection hu with hu
   subst hu;have e:ad.add 0=ad:=by cases ad with|mk b o s=>unfold Addr.add;split<;>simp_all
   rw [e];exact hy
  ·simp at hu
 have grown:∀ (old:Nat) (row:Option Nat),OwnI (w.drew.alloc (.cells ((nums .i64 xs).toArray ++ [Value.int .i64 y].toArray ++ Builtin.zeroCells #[Value.int .i64 0] (grownCap w (xs.length+1) old 3 - (xs.length+1))) 3)) base (.slice (some ⟨w.heap.size,0,none⟩) (xs.length+1) (grownCap w (xs.length+1) old 3)) (xs ++ [y]) ∧
   w.grownBy (w.drew.alloc (.cells ((nums .i64 xs).toArray ++ [Value.int .i64 y].toArray ++ Builtin.zeroCells #[Value.int .i64 0] (grownCap w (xs.length+1) old 3 - (xs.length+1))) 3)) row:=by
  intro old row;have hge:=grownCap_ge w (xs.length+1) old 3;have hcm:grownCap w (xs.length+1) old 3≤maxLen:=grownCap_le_maxLen w (xs.length+1) old 3 (by simp only [maxLen];omega);have hn:(nums .i64 xs).length=xs.length:=by simp [nums]
  have hsz:(Builtin.zeroCells #[Value.int .i64 0] (grownCap w (xs.length+1) old 3 - (xs.length+1))).size=grownCap w (xs.length+1) old 3 - (xs.length+1):=by rw [size_zeroCells];simp
  refine ⟨⟨⟨by simp [nums],.inr ⟨w.heap.size,_,_,by simp,hbase,heap_alloc_new w.drew _,by simp;omega,hcm,?_,?_⟩⟩,?_,fun h=>by simp at h⟩,⟨rfl,rfl,rfl,by simp,fun k hk _=>heap_alloc_old w.drew _ hk⟩⟩
  ·simp only [Array.size_append,List.size_toArray,hn,hsz,List.length_singleton];omega
  ·rw [show (nums IntKind.i64 (xs ++ [y]))=nums .i64 xs ++ [Value.int .i64 y] by simp [nums]]
   simp only [Array.toList_append,List.length_append,List.length_singleton,Nat.mul_one];rw [show xs.length+1=(nums .i64 xs ++ [Value.int .i64 y]).length by simp [nums]];exact List.take_left
  ·intro g cs fr hg hb
   have hg':w.heap.size=g:=by simpa [Value.ownBlock] using hg
   subst hg';have hb':(w.drew.alloc (.cells ((nums .i64 xs).toArray ++ [Value.int .i64 y].toArray ++ Builtin.zeroCells #[Value.int .i64 0] (grownCap w (xs.length+1) old 3 - (xs.length+1))) 3)).heap[w.heap.size]?=_:=heap_alloc_new w.drew _;rw [hb'] at hb;injection hb with hb
   injection hb with hb
   subst hb;refine ⟨fun c hc=>?_,fun j hj hjs=>?_⟩;rotate_left
   ·have hz:((nums .i64 xs).toArray ++ [Value.int .i64 y].toArray).size=xs.length+1:=by simp [nums]
    rw [List.length_append,List.length_singleton] at hj;rw [Array.getElem?_append_right (by omega)];have hlt:j - ((nums .i64 xs).toArray ++ [Value.int .i64 y].toArray).size<(Builtin.zeroCells #[Value.int .i64 0] (grownCap w (xs.length+1) old 3 - (xs.length+1))).size:=by rw [Array.size_append] at hjs;omega
    rw [Array.getElem?_eq_getElem hlt];exact congrArg some (zeros_int _ _ (Array.getElem_mem hlt))
   simp only [Array.mem_append,List.mem_toArray] at hc;rcases hc with (hc|hc)|hc
   ·simp only [nums,List.mem_map] at hc
    obtain ⟨x,_,rfl⟩:=hc;exact ⟨x,rfl⟩
   ·exact ⟨y,by simpa using hc⟩
   ·exact ⟨0,zeros_int _ c hc⟩
 have hcopy:=HO;obtain ⟨⟨h1,h2⟩,h3,_⟩:=HO;rcases h2 with ⟨rfl,h0⟩|⟨g,cap,cur,rfl,hbg,hg,hnc,hcm,hcs,htake⟩
 ·have hx:xs=[]:=List.eq_nil_of_length_eq_zero h0
  subst hx;have hr:=run_append_nil (P:=P) w t ty 3 i (.int .i64 0) ht hi hz ad 1 c [Value.int .i64 y] (by rw [hs];rfl) hnews (by omega) (by omega) (by rw [hby];omega);have hgr:=grown 0 (Value.ownBlock (.slice none 0 0));simp only [List.length_nil,Nat.zero_add,List.nil_append,nums,List.map_nil,Array.empty_append] at hgr ⊢;exact ⟨_,_,hr,hgr.1,hgr.2,.inr rfl⟩
 ·by_cases hroom:xs.length+1≤cap
  ·have hcs':cur.size=cap:=by rw [hcs,Nat.mul_one]
   have hr:=run_append_room (P:=P) w t ty 3 i ht hi g xs.length cap cur hg ad 1 c [Value.int .i64 y] (by rw [hs];rfl) hnews (by simp [Value.oneCell']) hroom (by rw [hs,hcs'];simp;omega);rw [hs,Nat.mul_one] at hr;rw [Nat.mul_one] at htake;refine ⟨_,_,hr,⟨⟨by simp [nums],.inr ⟨g,cap,_,by simp,hbg,setRow_heap w g cur _ 3 _ hg,by simp;omega,hcm,?_,?_⟩⟩,?_,fun h=>by simp at h⟩,⟨rfl,rfl,rfl,by simp,fun k _ hk=>setRow_other w g k _ (fun e=>hk (by simp [Value.ownBlock,e]))⟩,.inl rfl⟩
   ·simp only [List.size_toArray,List.length_append,List.length_take,List.length_drop,Array.length_toList,List.length_singleton]
    omega
   ·simp only [List.length_append,List.length_singleton,Nat.mul_one]
    rw [htake,show (nums IntKind.i64 (xs ++ [y]))=nums .i64 xs ++ [Value.int .i64 y] by simp [nums],show xs.length+1=(nums .i64 xs ++ [Value.int .i64 y]).length by simp [nums]];exact List.take_left
   ·intro g' cs fr hg' hb
    have e:g=g':=by simpa [Value.ownBlock] using hg'
    subst e;rw [setRow_heap w g cur _ 3 _ hg] at hb;injection hb with hb
    injection hb with hb
    subst hb;obtain ⟨h4,h5⟩:=h3 g cur _ rfl hg;refine ⟨fun c hc=>?_,fun j hj hjs=>?_⟩
    ·simp only [List.mem_toArray,List.mem_append] at hc
     rcases hc with (hc|hc)|hc
     ·exact h4 c (Array.mem_def.2 (List.mem_of_mem_take hc))
     ·exact ⟨y,by simpa using hc⟩
     ·exact h4 c (Array.mem_def.2 (List.mem_of_mem_drop hc))
    ·rw [List.length_append,List.length_singleton] at hj
     have h6:=h5 j (by omega) (by simp only [List.size_toArray,List.length_append,List.length_take,List.length_drop,Array.length_toList,List.length_singleton] at hjs;omega);have hlt:xs.length≤cur.toList.length:=by have e:cur.toList.length=cur.size:=Array.length_toList;omega
     rw [List.getElem?_toArray,List.getElem?_append_right (by simp;omega),List.getElem?_drop];rw [show xs.length+[Value.int IntKind.i64 y].length+(j - (List.take xs.length cur.toList ++ [Value.int IntKind.i64 y]).length)=j from by simp only [List.length_append,List.length_take,List.length_singleton,Array.length_toList];omega];simpa using h6
  ·have holds:∀ j u,(nums .i64 xs)[j]?=some u->w.cell? ((⟨g,0,none⟩:Addr).add j)=some u:=hcopy.1.cells (g:=g) rfl
   have hr:=run_append_grow (P:=P) w t ty 3 i (.int .i64 0) ht hi hz ⟨g,0,none⟩ xs.length cap (nums .i64 xs) (by rw [hs];simp [nums]) holds ad 1 c [Value.int .i64 y] (by rw [hs];rfl) hnews (by omega) (by omega) (growslice_fits (by omega) (by rw [hby];omega));have hgr:=grown cap (Value.ownBlock (.slice (some ⟨g,0,none⟩) xs.length cap));exact ⟨_,_,hr,hgr.1,hgr.2,.inr rfl⟩
end
section
variable {P:Program} {ops:Array Oper} {rest:List Oper} {o:Oper} {a:Act} {Q:Exit->Act->World->Prop}
theorem y2m {W:World} (base:Nat) (hgd:o.guard=none) (s x:Operand) (t:TypeId)
  (ho:o.op=.call { callee:=.builtin .append,args:=#[s,x],argTypes:=#[t,t] })
  (ht:P.underlying t=some (.slice 3)) (hinfo:(P.info? 3).map (fun i=>(i.zero,i.size,i.bytes))=some (some (.int .i64 0),1,8))
  (v:Value) (xs:List Int) (y:Int) (hs:a.eval s=v) (hx:a.eval x=.slice (some ⟨W.heap.size,0,none⟩) 1 1)
  (HO:OwnI W base v xs) (hbase:base≤W.heap.size) (hl:xs.length+1≤17592186044416)
  (h:∀ v1 w1,OwnI w1 base v1 (xs ++ [y])->W.grownBy w1 v.ownBlock->(v1.ownBlock=v.ownBlock∨∃ b,v1.ownBlock=some b∧W.heap.size≤b)->wpList P ops Q rest (a.put o.dst v1) w1) :
  wpList P ops Q (o :: rest) a (W.alloc (.cells #[.int .i64 y] 3)):=by
 obtain ⟨i0,hi,hzz⟩:=Option.map_eq_some_iff.1 hinfo;simp only [Prod.mk.injEq] at hzz;obtain ⟨hz0,hz1,hz2⟩:=hzz;have hb:(W.alloc (.cells #[.int .i64 y] 3)).heap[W.heap.size]?=some (.cells #[.int .i64 y] 3 (0,0)):=heap_alloc_new _ _;have hc:(W.alloc (.cells #[.int .i64 y] 3)).cell? ⟨W.heap.size,0,none⟩=some (.int .i64 y):=(y0i hb 0).trans rfl;obtain ⟨v',w',hr,h2,h3,h4⟩:=y9s (P:=P) (w:=W.alloc (.cells #[.int .i64 y] 3)) (t:=t) (ty:=o.type) (c:=1) ht hi hz0 hz1 hz2 (HO.below (y02 (Below.refl _ _) _)) (by simp;omega) hc hl;refine wpList_plain hgd fun _ hK=>?_
 unfold Oper.wp execOp;simp only [ho,resolve,invoke,builtin,Sem.run_bind,Sem.run_pure,Result.andThen_ok,List.map_toArray,List.map_cons,List.map_nil,hs,hx,hr];refine hK _ _ (h v' w' h2 (World.grownBy.trans (World.grownBy_alloc W _ _) h3) ?_);rcases h4 with h4|h4
 ·exact .inl h4
 ·exact .inr ⟨_,h4,by simp⟩
end
end
section
section
variable {α:Type} [DecidableEq α]
def met (S:List α) (x:α):List α:=if x ∈ S then S else S ++ [x]
def y2a (s:List α × List Int) (x:α):List α × List Int:=(met s.1 x,s.2 ++ [((met s.1 x).idxOf x:Int)])
def y1v (l:List α):List α × List Int:=l.foldl y2a ([],[])
def numL (l:List α):List Int:=(y1v l).2
theorem y4e (l:List α) (x:α):y1v (l ++ [x])=y2a (y1v l) x:=by simp [y1v]
theorem y6y {l:List α} {k:Nat} (h:k<l.length):y1v (l.take (k+1))=y2a (y1v (l.take k)) l[k]:=by
 rw [List.take_succ_eq_append_getElem h,y4e]
theorem yds {S:List α} (h:S.Nodup) (x:α):(met S x).Nodup:=by
 unfold met;split
 ·exact h
 ·rename_i hx
  rw [List.nodup_append];refine ⟨h,by simp,?_⟩;intro a ha b hb e;rw [List.mem_singleton] at hb;exact hx (hb ▸ e ▸ ha)
theorem y46 (l:List α):(y1v l).2.length=l.length∧(y1v l).1.length≤l.length:=by
 suffices h:∀ (l:List α) (s:List α × List Int),(l.foldl y2a s).2.length=s.2.length+l.length∧(l.foldl y2a s).1.length≤s.1.length+l.length by
  have:=h l ([],[]);simpa [y1v] using this
 intro l
 induction l with
 |nil=>intro s;simp
 |cons x l ih =>
  intro s;obtain ⟨h1,h2⟩:=ih (y2a s x);rw [List.foldl_cons];have h3:(y2a s x).2.length=s.2.length+1:=by simp [y2a]
  have h4:(y2a s x).1.length≤s.1.length+1:=by
   simp only [y2a,met];split<;>simp
  refine ⟨by rw [h1,h3,List.length_cons];omega,by rw [List.length_cons];omega⟩
theorem y2e (l:List α):(numL l).length=l.length:=(y46 l).1
end
structure KeyD (P:Program) (α:Type) where
 enc:α->Value
 kt:TypeId
 ok:α->Prop
 inj:∀ {x y},enc x=enc y->x=y
 keyed:Go.Maps.Keyed P kt
 key:∀ {x},ok x->∃ l,keyOf P kt (enc x)=some l
section
variable {P:Program} {α:Type} [DecidableEq α] {D:KeyD P α}
def Named (D:KeyD P α) (w:World) (g:Nat) (S:List α):Prop :=
 S.Nodup∧(∀ x ∈ S,D.ok x)∧∃ (es:Array MapEntry) (clock:Nat),w.heap[g]?=some (.map es clock)∧es.size=S.length∧∀ (i:Nat) (e:MapEntry),es.toList[i]?=some e->∃ x,S[i]?=some x∧e.key=D.enc x∧e.val=.int .i64 (i:Int)
theorem Named.made (D:KeyD P α) (w:World):Named D (w.alloc (.map #[] 0)) w.heap.size []:=⟨List.nodup_nil,by simp,#[],0,heap_alloc_new _ _,rfl,by simp⟩
theorem Named.lt {w:World} {g:Nat} {S:List α} (h:Named D w g S):g<w.heap.size:=by
 obtain ⟨_,_,es,clock,hb,_⟩:=h;exact y4s hb
theorem Named.move {w w1:World} {g:Nat} {S:List α} (h:Named D w g S) (hm:w1.heap[g]?=w.heap[g]?):Named D w1 g S:=by
 obtain ⟨h1,h2,es,clock,hb,r⟩:=h;exact ⟨h1,h2,es,clock,hm.trans hb,r⟩
theorem Named.keys {S:List α} (hok:∀ x ∈ S,D.ok x) {es:Array MapEntry} (r:∀ (i:Nat) (e:MapEntry),es.toList[i]?=some e->∃ x,S[i]?=some x∧e.key=D.enc x∧e.val=.int .i64 (i:Int)):∀ e ∈ es.toList,∃ l,keyOf P D.kt e.key=some l:=by
 intro e he;obtain ⟨i,hi⟩:=List.mem_iff_getElem?.1 he;obtain ⟨x,hx,hk,_⟩:=r i e hi;rw [hk];exact D.key (hok x (List.mem_of_getElem? hx))
theorem Named.find {w:World} {g:Nat} {S:List α} (h:Named D w g S) {x:α} (hx:D.ok x):∃ es clock l,w.heap[g]?=some (.map es clock)∧es.size=S.length∧keyOf P D.kt (D.enc x)=some l ∧
  ((x ∉ S∧(Instr.findKey D.kt (D.enc x) es.toList).run P w=.ok none w)∨(x ∈ S∧∃ j,(Instr.findKey D.kt (D.enc x) es.toList).run P w=.ok (some (j,.int .i64 (S.idxOf x:Int))) w)):=by
 obtain ⟨hn,hok,es,clock,hb,hs,r⟩:=h;obtain ⟨l,hl⟩:=D.key hx;refine ⟨es,clock,l,hb,hs,hl,?_⟩;rcases D.keyed.find w hl es.toList (Named.keys hok r) with ⟨h1,h2⟩|⟨j,e0,h1,h2,h3⟩
 ·refine .inl ⟨fun hin=>?_,h1⟩
  obtain ⟨i,hi⟩:=List.mem_iff_getElem?.1 hin;have hlt:i<es.toList.length:=by
   have:=(List.getElem?_eq_some_iff.1 hi).1;simpa [hs] using this
  obtain ⟨y,hy,hk,_⟩:=r i _ (List.getElem?_eq_getElem hlt);rw [hi] at hy;injection hy with hy
  subst hy;exact h2 _ (List.getElem_mem hlt) hk
 ·obtain ⟨y,hy,hk,hv⟩:=r j e0 h2
  have e:y=x:=D.inj (hk.symm.trans h3);subst e;obtain ⟨hlt,hj⟩:=List.getElem?_eq_some_iff.1 hy;have hi:S.idxOf y=j:=by rw [← hj];exact hn.idxOf_getElem j hlt
  exact .inr ⟨List.mem_of_getElem? hy,j,by rw [h1,hv,hi]⟩
theorem Named.lookup {w:World} {g:Nat} {S:List α} (h:Named D w g S) {mt:TypeId} (hmt:P.underlying mt=some (.map D.kt 3)) (hz:(zeroValue 3).run P w=.ok (.int .i64 0) w) {x:α} (hx:D.ok x) :
  (x ∉ S∧(Instr.lookup mt (.map (some g)) (D.enc x) true).run P w=.ok (.tuple #[.int .i64 0,.bool false]) w) ∨
  (x ∈ S∧(Instr.lookup mt (.map (some g)) (D.enc x) true).run P w=.ok (.tuple #[.int .i64 (S.idxOf x:Int),.bool true]) w):=by
 obtain ⟨es,clock,l,hb,hs,hl,h⟩:=h.find hx;rcases h with ⟨h1,h2⟩|⟨h1,j,h2⟩
 ·refine .inl ⟨h1,?_⟩
  simp [Instr.lookup,run_underlying hmt,MapKept.run_getObj_map hb,D.keyed.check w _ hl,h2,hz,Result.andThen]
 ·refine .inr ⟨h1,?_⟩
  simp [Instr.lookup,run_underlying hmt,MapKept.run_getObj_map hb,D.keyed.check w _ hl,h2,Result.andThen]
theorem Named.get {w:World} {g:Nat} {S:List α} (h:Named D w g S) {mt:TypeId} (hmt:P.underlying mt=some (.map D.kt 3)) {x:α} (hx:D.ok x) (hin:x ∈ S) :
  (Instr.lookup mt (.map (some g)) (D.enc x) false).run P w=.ok (.int .i64 (S.idxOf x:Int)) w:=by
 obtain ⟨es,clock,l,hb,hs,hl,h⟩:=h.find hx;rcases h with ⟨h1,h2⟩|⟨h1,j,h2⟩
 ·exact absurd hin h1
 ·simp [Instr.lookup,run_underlying hmt,MapKept.run_getObj_map hb,D.keyed.check w _ hl,h2,Result.andThen]
theorem Named.len {w:World} {g:Nat} {S:List α} (h:Named D w g S) {mt ty:TypeId} (hmt:P.underlying mt=some (.map D.kt 3)) :
  (Builtin.len_ #[mt] ty #[.map (some g)]).run P w=.ok (.int .i64 (S.length:Int)) w:=by
 obtain ⟨hn,hok,es,clock,hb,hs,r⟩:=h;simp [Builtin.len_,run_underlying hmt,MapKept.run_getObj_map hb,Result.andThen,hs,goInt]
theorem y5w {w:World} {g:Nat} (o:Obj):w.grownBy (Go.ChangeMaps.setBlock w g o) (some g) :=
 ⟨rfl,rfl,rfl,by simp [Go.ChangeMaps.setBlock],fun i hi hne=>by
  have:g≠i:=fun e=>hne (by rw [e])
  simp [Go.ChangeMaps.setBlock,Array.getElem?_setIfInBounds,this]⟩
theorem y99 {w:World} {g:Nat} (h:g<w.heap.size) (o:Obj):(Go.ChangeMaps.setBlock w g o).heap[g]?=some o:=by
 simp [Go.ChangeMaps.setBlock,Array.getElem?_setIfInBounds,h]
theorem Named.update {w:World} {g:Nat} {S:List α} (h:Named D w g S) {mt:TypeId} (hmt:P.underlying mt=some (.map D.kt 3)) {x:α} (hx:D.ok x) (hin:x ∉ S) :
  ∃ w',(Instr.mapUpdate mt (.map (some g)) (D.enc x) (.int .i64 (S.length:Int))).run P w=.ok () w'∧Named D w' g (S ++ [x])∧w.grownBy w' (some g):=by
 have hf:=h.find hx;obtain ⟨hn,hok,es,clock,hb,hs,r⟩:=h;obtain ⟨es',clock',l,hb',hs',hl,hf⟩:=hf;rw [hb] at hb';injection hb' with hb'
 injection hb' with e1 e2
 subst e1 e2;rcases hf with ⟨h1,h2⟩|⟨h1,_⟩
 ·have hlt:=y4s hb
  refine ⟨Go.ChangeMaps.setBlock w g (.map (es.push { key:=D.enc x,val:=.int .i64 (S.length:Int),born:=clock }) (clock+1)),?_,⟨?_,?_,_,_,y99 hlt _,?_,?_⟩,y5w _⟩
  ·simp [Instr.mapUpdate,run_underlying hmt,MapKept.run_getObj_map hb,D.keyed.check w _ hl,h2,MapKept.run_setObj_map _ hb,Result.andThen,Go.ChangeMaps.setBlock]
  ·have:=yds hn x
   rwa [met,if_neg hin] at this
  ·intro y hy
   rcases List.mem_append.1 hy with hy|hy
   ·exact hok y hy
   ·rw [List.mem_singleton.1 hy];exact hx
  ·simp [hs]
  ·intro i e he
   have hsl:es.toList.length=S.length:=by simp [hs]
   rw [Array.toList_push] at he;rcases Nat.lt_or_ge i S.length with hi|hi
   ·rw [List.getElem?_append_left (by omega)] at he
    obtain ⟨y,hy,r2⟩:=r i e he;exact ⟨y,by rw [List.getElem?_append_left hi];exact hy,r2⟩
   ·have hi2:i=S.length:=by
     have:=(List.getElem?_eq_some_iff.1 he).1;simp only [List.length_append,List.length_singleton] at this;omega
    subst hi2;rw [← hsl,List.getElem?_concat_length] at he;injection he with he
    subst he;exact ⟨x,by simp,rfl,by simp [hs]⟩
 ·exact absurd h1 hin
end
end
section
attribute [local go_sem] y1b y19 y1q y1p y12 y11 y1a y18
theorem yf8:laidOutB Tra.prog=true:=by kernel_rfl
theorem zero3 (w:World):(zeroValue 3).run Tra.prog w=.ok (.int .i64 0) w:=Tra.zeroValue3 w
def In64 (x:Int):Prop:=-9223372036854775808≤x∧x≤9223372036854775807
instance (x:Int):Decidable (In64 x):=inferInstanceAs (Decidable (_∧_))
theorem wf64 {x:Int} (h:In64 x):(Lit.int .i64 x).wf=true:=by
 have h1:IntKind.i64.min = -9223372036854775808:=by decide
 have h2:IntKind.i64.max=9223372036854775807:=by decide
 unfold In64 at h;simp only [Lit.wf,h1,h2,Bool.and_eq_true,decide_eq_true_eq];omega
theorem num_key {x:Int} (h:In64 x):∃ l,keyOf Tra.prog 3 (.int .i64 x)=some l:=by
 have ht:Tra.prog.keyType 3=true:=by kernel_rfl
 have hfo:(Value.int .i64 x).formed Tra.prog 3=true:=by kernel_rfl
 have hw:=wf64 h;unfold keyOf;rw [Tra.underlying3];simp [ht,hfo,hw,mapKey,Tra.underlying3]
def kInt:KeyD Tra.prog Int:=⟨.int .i64,3,In64,fun h=>by injection h,Go.Maps.int_keyed Tra.underlying3,num_key⟩
theorem ydl (A:Option Addr) (c:Nat) (l:List Int) (w:World) (hr:Kd.C (Kd.int .i64) w A l.length l) (hok:∀ x ∈ l,In64 x) (hL:l.length<17592186044416) :
  Calls Tra.prog 54 #[.slice A l.length c] w fun e w'=>∃ v,e=.returned v∧OwnI w' w.heap.size v (numL l)∧Below w.heap.size w w':=by
 have HR:=As0.mk hr;have HL:=As0.mk hL;have HOK:=As0.mk hok;clear hr hL hok;have hmm:=@run_makeMap Tra.prog;go_enter Tra.func54,Tra.ntmps54
 go_wp2_with fail
 go_loopw [4,12] (fun v4 v12 W=>∃ k:Nat,v12=.int .i64 k∧As0 (k≤l.length)∧As0 (Named kInt W w.heap.size (y1v (l.take k)).1)∧As0 (OwnI W w.heap.size v4 (y1v (l.take k)).2)∧As0 (Below w.heap.size w W)) (fun v4 v12 _=>(l.length - intOf v12).toNat)
 case atStart=>exact ⟨0,rfl,⟨Nat.zero_le _⟩,⟨Named.made kInt w⟩,⟨OwnI.nil _ _⟩,⟨y02 (Below.refl _ _) _⟩⟩
 case round =>
  obtain ⟨k,rfl,hk,hN,hO,hB⟩:=hrel;have hk':=hk.out;have hLo:=HL.out
  by_cases hlt:k<l.length
  ·obtain ⟨ad,rfl,hcell⟩:=Kd.at_int (Kd.C_below HR.out hB.out) (k:Int) (by omega) (by omega)
   have hrd:rd l (k:Int)=l[k]:=by simp [rd,List.getD_eq_getElem?_getD,List.getElem?_eq_getElem hlt]
   have HX:=As0.mk (HOK.out l[k] (List.getElem_mem hlt));have HS:=As0.mk (y6y hlt);have hlen:=y46 (l.take k);have hlen2:(y1v (l.take k)).2.length=k:=by rw [hlen.1,List.length_take];omega
   have HLN:=As0.mk hlen2;clear hlen hlen2;rw [hrd,Int.toNat_natCast] at hcell;clear hrd;obtain ⟨x,hxe⟩:∃ x,x=l[k]:=⟨_,rfl⟩
   rw [← hxe] at hcell HX HS;have HXE:=As0.mk hxe;clear hxe;obtain ⟨S,hSe⟩:∃ S,S=(y1v (l.take k)).1:=⟨_,rfl⟩
   obtain ⟨out,hOe⟩:∃ out,out=(y1v (l.take k)).2:=⟨_,rfl⟩
   rw [← hSe] at hN;rw [← hOe] at hO HLN;have HSE:=As0.mk hSe;have HOE:=As0.mk hOe;clear hSe hOe;have HNE:=As0.mk (show u4.ownBlock≠some w.heap.size from by
    intro e;obtain ⟨cells,hc⟩:=y44 hO.out.1 _ e;obtain ⟨_,_,es,clock,hb,_⟩:=hN.out;rw [hc] at hb;cases hb)
   rcases hN.out.lookup (mt:=73) Tra.underlying73 (zero3 _) HX.out with ⟨hin,hl1⟩|⟨hin,hl1⟩
   ·have hln:=hN.out.len (mt:=73) (ty:=3) Tra.underlying73
    obtain ⟨w2,hu,hN2,hg2⟩:=hN.out.update (mt:=73) Tra.underlying73 HX.out hin;have hl2:=hN2.get (mt:=73) Tra.underlying73 (x:=x) HX.out (by simp);have HN2:=As0.mk hN2;have HIN:=As0.mk (show met S x=S ++ [x] from if_neg hin);have HO2:=As0.mk (hO.out.grown hg2 (.inr HNE.out));have HB2:=As0.mk (hB.out.grown hg2 hB.out.size (by intro b hb;injection hb with hb;omega));simp only [kInt] at hl1 hu hl2;clear hN2 hg2 hin;go_wp2_with (((with_reducible refine y0n (b:=.append) (xs:=#[.tmp 28,.tmp 32]) rfl ?_);at_builtin;refine y2m w.heap.size rfl (.tmp 28) (.tmp 32) 29 rfl Tra.underlying29 info3 u4 out _ rfl rfl HO2.out HB2.out.size (by have:=HLN.out;have:=HL.out;omega) ?_;intro v3 w3 ho3 hg3 hat3;have HO3:=As0.mk ho3;have HB3:=As0.mk (HB2.out.grown hg3 HB2.out.size (fun k hk=>(HO2.out.lt k hk).1));have HN3:=As0.mk (HN2.out.move (hg3.block _ HN2.out.lt (fun e=>HNE.out e.symm)));clear ho3 hg3 hat3))
    go_roundw
    case rel =>
     refine ⟨k+1,by go_num,⟨by omega⟩,⟨?_⟩,⟨?_⟩,HB3⟩
     ·rw [HS.out]
      show Named kInt _ _ (met (y1v (l.take k)).1 x);rw [← HSE.out,HIN.out];exact HN3.out
     ·rw [HS.out]
      show OwnI _ _ _ ((y1v (l.take k)).2 ++ [((met (y1v (l.take k)).1 x).idxOf x:Int)]);rw [← HSE.out,← HOE.out,HIN.out];exact HO3.out
    case measure=>simp [intOf];omega
   ·have hl2:=hN.out.get (mt:=73) Tra.underlying73 (x:=x) HX.out hin
    have HIN:=As0.mk (show met S x=S from if_pos hin);simp only [kInt] at hl1 hl2;clear hin;go_wp2_with (((with_reducible refine y0n (b:=.append) (xs:=#[.tmp 28,.tmp 32]) rfl ?_);at_builtin;refine y2m w.heap.size rfl (.tmp 28) (.tmp 32) 29 rfl Tra.underlying29 info3 u4 out _ rfl rfl hO.out hB.out.size (by have:=HLN.out;have:=HL.out;omega) ?_;intro v3 w3 ho3 hg3 hat3;have HO3:=As0.mk ho3;have HB3:=As0.mk (hB.out.grown hg3 hB.out.size (fun k hk=>(hO.out.lt k hk).1));have HN3:=As0.mk (hN.out.move (hg3.block _ hN.out.lt (fun e=>HNE.out e.symm)));clear ho3 hg3 hat3))
    go_roundw
    case rel =>
     refine ⟨k+1,by go_num,⟨by omega⟩,⟨?_⟩,⟨?_⟩,HB3⟩
     ·rw [HS.out]
      show Named kInt _ _ (met (y1v (l.take k)).1 x);rw [← HSE.out,HIN.out];exact HN3.out
     ·rw [HS.out]
      show OwnI _ _ _ ((y1v (l.take k)).2 ++ [((met (y1v (l.take k)).1 x).idxOf x:Int)]);rw [← HSE.out,← HOE.out,HIN.out];exact HO3.out
    case measure=>simp [intOf];omega
  ·have hke:k=l.length:=by omega
   have HO:=As0.mk (show OwnI wr w.heap.size u4 (numL l) from by have:=hO.out;rwa [hke,List.take_length] at this);clear hke;go_wp2_with fail
   go_ret
   exact ⟨_,rfl,HO.out,hB.out⟩
theorem num_calls (A:Option Addr) (c:Nat) (l:List Int) (w:World) (hr:Kd.C (Kd.int .i64) w A l.length l) (hc:l.length≤c) (hok:∀ x ∈ l,In64 x) (hL:l.length<17592186044416) :
  Calls Tra.prog 54 #[.slice A l.length c] w fun e w'=>∃ v,e=.returned v∧Kd.R (Kd.int .i64) 3 w' w.heap.size (fun _=>True) v (numL l)∧Below w.heap.size w w':=by
 refine (ydl A c l w hr hok hL).mono ?_
 rintro e w' ⟨v,he,hO,hB⟩
 exact ⟨v,he,hO.toR,hB⟩
end
section
attribute [local go_sem] y1b y19 y1q y1p y12 y11 y1a y18
def pv (p:Int × Int):Value:=.agg #[.int .i64 p.1,.int .i64 p.2]
theorem pv_inj {p q:Int × Int} (h:pv p=pv q):p=q:=by
 unfold pv at h;injection h with h
 have h2:[Value.int .i64 p.1,.int .i64 p.2]=[.int .i64 q.1,.int .i64 q.2]:=by simpa using congrArg Array.toList h
 simp only [List.cons.injEq,Value.int.injEq,true_and,and_true] at h2;exact Prod.ext h2.1 h2.2
theorem keyed89:Go.Maps.Keyed Tra.prog 89 :=
 Go.Maps.Keyed.of_law (deep_law_laid yf8 (m:=2) (by decide) (zDo (by kernel_rfl)) (by kernel_rfl) (by kernel_rfl))
theorem key64 {x:Int} (h:In64 x) (d:Nat):Tra.prog.keyLits (d+1) 3 [.int .i64 x]=some [.int .i64 x]:=by
 simp [Program.keyLits,Tra.underlying3,wf64 h]
theorem pv_key {p:Int × Int} (h:In64 p.1∧In64 p.2):∃ l,keyOf Tra.prog 89 (pv p)=some l:=by
 have ka:=fun D=>key64 h.1 D
 have kb:=fun D=>key64 h.2 D
 have ht:Tra.prog.keyType 89=true:=by kernel_rfl
 have hfo:(pv p).formed Tra.prog 89=true:=by kernel_rfl
 have hs:Tra.prog.types.size=117:=by kernel_rfl
 have c6:Tra.prog.cellsOf 89=2:=by kernel_rfl
 have c3:Tra.prog.cellsOf 3=1:=by kernel_rfl
 have hl:Tra.prog.keyLits (117+1) 89 (pv p).cells.toList=some [.int .i64 p.1,.int .i64 p.2]:=by
  show Tra.prog.keyLits (117+1) 89 [.int .i64 p.1,.int .i64 p.2]=_;unfold Program.keyLits;simp [Tra.underlying89,c6,c3,List.range_succ,ka,kb]
 refine ⟨.string (keyBytes [.int .i64 p.1,.int .i64 p.2]),?_⟩;unfold keyOf;rw [Tra.underlying89];simp only [ht,hfo,Bool.and_self,if_true,hs,hl,Option.map_some]
def yc4:KeyD Tra.prog (Int × Int):=⟨pv,89,fun p=>In64 p.1∧In64 p.2,pv_inj,keyed89,pv_key⟩
def Reads2 (w:World) (A:Option Addr) (l:List (Int × Int)):Prop :=
 0<l.length->∃ ad,A=some ad∧∀ (j:Nat) p,l[j]?=some p->w.cell? (ad.add (j * 2))=some (.int .i64 p.1)∧w.cell? (ad.add (j * 2+1))=some (.int .i64 p.2)
theorem Reads2.below {w w1:World} {A:Option Addr} {l:List (Int × Int)} (h:Reads2 w A l) (hb:Below w.heap.size w w1):Reads2 w1 A l:=fun hn=>by
 obtain ⟨ad,e,hc⟩:=h hn;exact ⟨ad,e,fun j p hj=>⟨y34 hb (hc j p hj).1,y34 hb (hc j p hj).2⟩⟩
theorem num2_all (A:Option Addr) (c:Nat) (l:List (Int × Int)) (w:World) (hr:Reads2 w A l) (hok:∀ p ∈ l,In64 p.1∧In64 p.2) (hL:l.length<17592186044416) :
  Calls Tra.prog 84 #[.slice A l.length c] w fun e w'=>∃ v,e=.returned v∧OwnI w' w.heap.size v (numL l)∧Below w.heap.size w w':=by
 have HR:=As0.mk hr;have HL:=As0.mk hL;have HOK:=As0.mk hok;clear hr hL hok;have hmm:=@run_makeMap Tra.prog;go_enter Tra.func84,Tra.ntmps84
 go_wp2_with fail
 go_loopw [4,12] (fun v4 v12 W=>∃ k:Nat,v12=.int .i64 k∧As0 (k≤l.length)∧As0 (Named yc4 W w.heap.size (y1v (l.take k)).1)∧As0 (OwnI W w.heap.size v4 (y1v (l.take k)).2)∧As0 (Below w.heap.size w W)) (fun v4 v12 _=>(l.length - intOf v12).toNat)
 case atStart=>exact ⟨0,rfl,⟨Nat.zero_le _⟩,⟨Named.made yc4 w⟩,⟨OwnI.nil _ _⟩,⟨y02 (Below.refl _ _) _⟩⟩
 case round =>
  obtain ⟨k,rfl,hk,hN,hO,hB⟩:=hrel;have hk':=hk.out;have hLo:=HL.out
  by_cases hlt:k<l.length
  ·obtain ⟨ad,rfl,hcl⟩:=(HR.out.below hB.out) (by omega)
   obtain ⟨hc0,hc1⟩:=hcl k _ (List.getElem?_eq_getElem hlt);have hc2:wr.cell? { block:=(ad.add (k * 2)).block,off:=(ad.add (k * 2)).off+1 }=some (.int .i64 l[k].2):=by
    have h:=hc1;rw [← Addr.add_add] at h;generalize ad.add (k * 2)=q at h ⊢;simpa [Addr.add] using h
   clear hc1;clear hcl;have HX:=As0.mk (HOK.out l[k] (List.getElem_mem hlt));have HS:=As0.mk (y6y hlt);have hlen:=y46 (l.take k);have hlen2:(y1v (l.take k)).2.length=k:=by rw [hlen.1,List.length_take];omega
   have HLN:=As0.mk hlen2;clear hlen hlen2;obtain ⟨⟨x,y⟩,hxe⟩:∃ x:Int × Int,x=l[k]:=⟨_,rfl⟩
   rw [← hxe] at hc0 hc2 HX HS;simp only at hc0 hc2;have HXE:=As0.mk hxe;clear hxe;obtain ⟨S,hSe⟩:∃ S,S=(y1v (l.take k)).1:=⟨_,rfl⟩
   obtain ⟨out,hOe⟩:∃ out,out=(y1v (l.take k)).2:=⟨_,rfl⟩
   rw [← hSe] at hN;rw [← hOe] at hO HLN;have HSE:=As0.mk hSe;have HOE:=As0.mk hOe;clear hSe hOe;have HNE:=As0.mk (show u4.ownBlock≠some w.heap.size from by
    intro e;obtain ⟨cells,hc⟩:=y44 hO.out.1 _ e;obtain ⟨_,_,es,clock,hb,_⟩:=hN.out;rw [hc] at hb;cases hb)
   have hb1:=y02 (Below.refl wr.heap.size wr) (.cells #[.int .i64 x,.int .i64 y] 89);have HN1:=As0.mk (hN.out.move (hb1.block _ hN.out.lt));have HO1:=As0.mk (hO.out.below hb1);have HB1:=As0.mk (y05 hB.out hb1);have HBX1:=As0.mk (heap_alloc_new wr (.cells #[.int .i64 x,.int .i64 y] 89));clear hb1;rcases HN1.out.lookup (mt:=100) Tra.underlying100 (zero3 _) HX.out with ⟨hin,hl1⟩|⟨hin,hl1⟩
   ·have hln:=HN1.out.len (mt:=100) (ty:=3) Tra.underlying100
    obtain ⟨w2,hu,hN2,hg2⟩:=HN1.out.update (mt:=100) Tra.underlying100 HX.out hin;have hl2:=hN2.get (mt:=100) Tra.underlying100 (x:=(x,y)) HX.out (by simp);have HN2:=As0.mk hN2;have HIN:=As0.mk (show met S (x,y)=S ++ [(x,y)] from if_neg hin);have HO2:=As0.mk (HO1.out.grown hg2 (.inr HNE.out));have HB2:=As0.mk (HB1.out.grown hg2 HB1.out.size (by intro b hb;injection hb with hb;omega));have hbx2:w2.heap[wr.heap.size]?=some (.cells #[.int .i64 x,.int .i64 y] 89 (0,0)):=(hg2.block _ (y4s HBX1.out) (by intro e;injection e with e;have:=hN.out.lt;omega)).trans HBX1.out;have d0:=y0i hbx2 0;have d1:=y0i hbx2 1;simp only [List.getElem?_toArray,List.getElem?_cons_zero,List.getElem?_cons_succ] at d0 d1;simp only [yc4,pv] at hl1 hu hl2;clear hN2 hg2 hin hbx2;go_wp2_with (((with_reducible refine y0n (b:=.append) (xs:=#[.tmp 28,.tmp 32]) rfl ?_);at_builtin;refine y2m w.heap.size rfl (.tmp 28) (.tmp 32) 29 rfl Tra.underlying29 info3 u4 out _ rfl rfl HO2.out HB2.out.size (by have:=HLN.out;have:=HL.out;omega) ?_;intro v3 w3 ho3 hg3 hat3;have HO3:=As0.mk ho3;have HB3:=As0.mk (HB2.out.grown hg3 HB2.out.size (fun k hk=>(HO2.out.lt k hk).1));have HN3:=As0.mk (HN2.out.move (hg3.block _ HN2.out.lt (fun e=>HNE.out e.symm)));clear ho3 hg3 hat3))
    go_roundw
    case rel =>
     refine ⟨k+1,by go_num,⟨by omega⟩,⟨?_⟩,⟨?_⟩,HB3⟩
     ·rw [HS.out]
      show Named yc4 _ _ (met (y1v (l.take k)).1 (x,y));rw [← HSE.out,HIN.out];exact HN3.out
     ·rw [HS.out]
      dsimp only [y2a];rw [← HSE.out,← HOE.out,HIN.out];exact HO3.out
    case measure=>simp [intOf];omega
   ·have hl2:=HN1.out.get (mt:=100) Tra.underlying100 (x:=(x,y)) HX.out hin
    have HIN:=As0.mk (show met S (x,y)=S from if_pos hin);simp only [yc4,pv] at hl1 hl2;clear hin;go_wp2_with (((with_reducible refine y0n (b:=.append) (xs:=#[.tmp 28,.tmp 32]) rfl ?_);at_builtin;refine y2m w.heap.size rfl (.tmp 28) (.tmp 32) 29 rfl Tra.underlying29 info3 u4 out _ rfl (by (show Value.slice (some ⟨wr.heap.size+1,0,none⟩) 1 1=_;simp)) HO1.out HB1.out.size (by have:=HLN.out;have:=HL.out;omega) ?_;intro v3 w3 ho3 hg3 hat3;have HO3:=As0.mk ho3;have HB3:=As0.mk (HB1.out.grown hg3 HB1.out.size (fun k hk=>(HO1.out.lt k hk).1));have HN3:=As0.mk (HN1.out.move (hg3.block _ HN1.out.lt (fun e=>HNE.out e.symm)));clear ho3 hg3 hat3))
    go_roundw
    case rel =>
     refine ⟨k+1,by go_num,⟨by omega⟩,⟨?_⟩,⟨?_⟩,HB3⟩
     ·rw [HS.out]
      show Named yc4 _ _ (met (y1v (l.take k)).1 (x,y));rw [← HSE.out,HIN.out];exact HN3.out
     ·rw [HS.out]
      dsimp only [y2a];rw [← HSE.out,← HOE.out,HIN.out];exact HO3.out
    case measure=>simp [intOf];omega
  ·have hke:k=l.length:=by omega
   have HO:=As0.mk (show OwnI wr w.heap.size u4 (numL l) from by have:=hO.out;rwa [hke,List.take_length] at this);clear hke;go_wp2_with fail
   go_ret
   exact ⟨_,rfl,HO.out,hB.out⟩
end
section
attribute [local go_sem] y1b y19 y1q y1p y12 y11 y1a y18
def y3q (x y:Int) (out:List Int):List Int:=out.map fun z=>if z=x then y else z
def y1t (x y:Int) (out:List Int) (j:Nat):List Int:=y3q x y (out.take j) ++ out.drop j
def y27 (b:List Int) (i k:Nat) (out:List Int):List Int:=if b.getD i 0≠b.getD k 0∨out.getD i 0=out.getD k 0 then out else y3q (out.getD i 0) (out.getD k 0) out
def y38 (b:List Int) (i:Nat):Nat->List Int->List Int
 |0,o=>o
 |k+1,o=>y27 b i k (y38 b i k o)
def y1i (b:List Int):Nat->List Int->List Int
 |0,o=>o
 |i+1,o=>y38 b i i (y1i b i o)
def aboveL (a b:List Int):List Int:=numL (y1i b b.length a)
theorem y2t (x y:Int) (o:List Int):(y3q x y o).length=o.length:=by simp [y3q]
theorem ybj (x y:Int) (o:List Int) (j:Nat):(y1t x y o j).length=o.length:=by simp [y1t,y2t];omega
theorem y9d (b:List Int) (i k:Nat) (o:List Int):(y27 b i k o).length=o.length:=by unfold y27;split<;>simp [y2t]
theorem y4i (b:List Int) (i:Nat):∀ (k:Nat) (o:List Int),(y38 b i k o).length=o.length
 |0,_=>rfl
 |k+1,o=>(y9d b i k _).trans (y4i b i k o)
theorem y25 (b:List Int):∀ (i:Nat) (o:List Int),(y1i b i o).length=o.length
 |0,_=>rfl
 |i+1,o=>(y4i b i i _).trans (y25 b i o)
theorem y9j (x y:Int) (o:List Int):y1t x y o 0=o:=by simp [y1t,y3q]
theorem ybk (x y:Int) (o:List Int):y1t x y o o.length=y3q x y o:=by simp [y1t]
theorem y8h (x y:Int) {o:List Int} {j:Nat} (h:j<o.length):(y1t x y o j).getD j 0=o.getD j 0:=by
 have h1:(y3q x y (o.take j)).length=j:=by rw [y2t,List.length_take];omega
 unfold y1t;rw [List.getD_eq_getElem?_getD,List.getElem?_append_right (by omega),h1,Nat.sub_self,List.getElem?_drop,List.getD_eq_getElem?_getD,Nat.add_zero]
theorem y52 (x y:Int) {o:List Int} {j:Nat} (h:j<o.length):y1t x y o (j+1)=(y1t x y o j).set j (if o.getD j 0=x then y else o.getD j 0):=by
 have h1:(y3q x y (o.take j)).length=j:=by rw [y2t,List.length_take];omega
 unfold y1t;rw [List.set_append,if_neg (by omega),h1,Nat.sub_self,List.drop_eq_getElem_cons h,List.set_cons_zero,List.take_succ_eq_append_getElem h];rw [List.getD_eq_getElem?_getD,List.getElem?_eq_getElem h];unfold y3q;rw [List.map_append,List.append_assoc];rfl
theorem y9k (x y:Int) {o:List Int} {j:Nat} (h:j<o.length) (hne:o.getD j 0≠x):y1t x y o (j+1)=y1t x y o j:=by
 rw [y52 x y h,if_neg hne,← y8h x y h];have hl:j<(y1t x y o j).length:=by rw [ybj];exact h
 rw [List.getD_eq_getElem?_getD,List.getElem?_eq_getElem hl,Option.getD_some,List.set_getElem_self]
theorem yf5 {b:List Int} {p:Int->Prop}:∀ {i:Nat} {o:List Int},(∀ x ∈ o,p x)->p 0->∀ x ∈ y1i b i o,p x:=by
 have hg:∀ {o:List Int} (i:Nat),(∀ x ∈ o,p x)->p 0->p (o.getD i 0):=by
  intro o i h h0;rw [List.getD_eq_getElem?_getD];cases hi:o[i]? with
  |none=>exact h0
  |some v=>exact h v (List.mem_of_getElem? hi)
 have hs:∀ {i k:Nat} {o:List Int},(∀ x ∈ o,p x)->p 0->∀ x ∈ y27 b i k o,p x:=by
  intro i k o h h0 x hx;unfold y27 at hx;split at hx
  ·exact h x hx
  ·simp only [y3q,List.mem_map] at hx
   obtain ⟨z,hz,rfl⟩:=hx;split
   ·exact hg k h h0
   ·exact h z hz
 have hi:∀ {i:Nat} (k:Nat) {o:List Int},(∀ x ∈ o,p x)->p 0->∀ x ∈ y38 b i k o,p x:=by
  intro i k
  induction k with
  |zero=>intro o h _;exact h
  |succ k ih=>intro o h h0;exact hs (ih h h0) h0
 intro i
 induction i with
 |zero=>intro o h _;exact h
 |succ i ih=>intro o h h0;exact hi i (ih h h0) h0
theorem above_all (A:Option Addr) (c:Nat) (la:List Int) (B:Option Addr) (cb:Nat) (lb:List Int) (w:World) (hra:Kd.C (Kd.int .i64) w A la.length la) (hrb:Kd.C (Kd.int .i64) w B lb.length lb) (hab:la.length=lb.length) (hok:∀ x ∈ la,In64 x) (hL:la.length<17592186044416) :
  Calls Tra.prog 65 #[.slice A la.length c,.slice B lb.length cb] w fun e w'=>∃ v,e=.returned v∧OwnI w' w.heap.size v (aboveL la lb)∧Below w.heap.size w w':=by
 have HRB:=As0.mk hrb;have HL:=As0.mk hL;have HAB:=As0.mk hab;have HOK:=As0.mk (yf5 (b:=lb) (i:=lb.length) hok (by unfold In64;omega));have HA:=As0.mk (clone_calls A c la w hra hL);clear hra hrb hL hab hok;go_enter Tra.func65,Tra.ntmps65
 go_wp2_with fail
 refine HA.out.mono ?_
 rintro e w1 ⟨v5,rfl,hR5,hB1⟩
 have HR1:=As0.mk hR5;have HB1:=As0.mk hB1;clear hR5 hB1 HA;go_wp2_with fail
 go_loopw [16] (fun v16 W=>∃ i:Nat,v16=.int .i64 i∧As0 (i≤lb.length)∧As0 (Kd.R (Kd.int .i64) 3 W w.heap.size (fun _=>True) v5 (y1i lb i la))∧As0 (Below w.heap.size w W)) (fun v16 _=>(lb.length - intOf v16).toNat)
 case atStart=>exact ⟨0,rfl,⟨Nat.zero_le _⟩,HR1,HB1⟩
 case round =>
  obtain ⟨i,rfl,hi,hR,hB⟩:=hrel;have hi':=hi.out;have hab:=HAB.out;have hLo:lb.length<17592186044416:=by have:=HL.out;omega
  by_cases hlt:i<lb.length
  ·obtain ⟨g,cap,hv,hbg,hgl,_⟩:=Kd.R_form hR.out (by rw [y25];omega)
   rw [y25,hab] at hv;subst hv;have HLEN:=As0.mk (y25 lb i la);have HI:=As0.mk hlt;clear hab;go_wp2_with fail
   go_loopw [20] (fun v20 W=>∃ k:Nat,v20=.int .i64 k∧As0 (k≤i)∧As0 (Kd.R (Kd.int .i64) 3 W w.heap.size (fun _=>True) (.slice (some ⟨g,0,none⟩) lb.length cap) (y38 lb i k (y1i lb i la)))∧As0 (Below w.heap.size w W)) (fun v20 _=>(i - intOf v20).toNat)
   case atStart=>exact ⟨0,rfl,⟨Nat.zero_le _⟩,hR,hB⟩
   case round =>
    clear hR hB;obtain ⟨k,rfl,hk,hR,hB⟩:=hrel;have hk':=hk.out
    by_cases hki:k<i
    ·have hkl:k<lb.length:=by omega
     have hln:=y4i lb i k (y1i lb i la);have hln2:=HLEN.out;have hab:=HAB.out;obtain ⟨o,ho⟩:∃ o,o=y38 lb i k (y1i lb i la):=⟨_,rfl⟩
     rw [← ho] at hR hln;have HOE:=As0.mk ho;clear ho;obtain ⟨hci,hfi⟩:=Kd.R_celln 0 hR.out (i:Int) (by omega) (by omega);obtain ⟨hck,hfk⟩:=Kd.R_celln 0 hR.out (k:Int) (by omega) (by omega);obtain ⟨bd,rfl,hbi⟩:=Kd.at_int (Kd.C_below HRB.out hB.out) (i:Int) (by omega) (by omega);obtain ⟨bd',hbe,hbk⟩:=Kd.at_int (Kd.C_below HRB.out hB.out) (k:Int) (by omega) (by omega);injection hbe with hbe
     subst hbe;simp only [Int.toNat_natCast,rdOf,rd] at hci hck hbi hbk;obtain ⟨oi,hoi⟩:∃ x,x=o.getD i 0:=⟨_,rfl⟩
     obtain ⟨ok,hok⟩:∃ x,x=o.getD k 0:=⟨_,rfl⟩
     obtain ⟨bi,hbi'⟩:∃ x,x=lb.getD i 0:=⟨_,rfl⟩
     obtain ⟨bk,hbk'⟩:∃ x,x=lb.getD k 0:=⟨_,rfl⟩
     replace hci:wr.cell? ⟨g,i,none⟩=some (.int .i64 oi):=by rw [hoi];exact hci
     replace hck:wr.cell? ⟨g,k,none⟩=some (.int .i64 ok):=by rw [hok];exact hck
     rw [← hbi'] at hbi;rw [← hbk'] at hbk;have HST:=As0.mk (show y38 lb i (k+1) (y1i lb i la)=if bi≠bk∨oi=ok then o else y3q oi ok o from by rw [hbi',hbk',hoi,hok,HOE.out];rfl);have HOI:=As0.mk hoi;have HOK2:=As0.mk hok;have HLN:=As0.mk (hln.trans hln2);clear hoi hok hbi' hbk' hfi hfk hln hln2
     by_cases hbb:bi=bk
     ·by_cases hoo:oi=ok
      ·subst hbb hoo
       have HST2:=As0.mk (HST.out.trans (if_pos (.inr rfl)));clear HST;go_wp2_with fail
       go_quiet (fail)
       go_wp2_with fail
       go_roundw
       case rel=>exact ⟨k+1,by go_num,⟨by omega⟩,⟨by rw [HST2.out];exact Kd.R_drewN hR.out _⟩,⟨y00 hB.out _⟩⟩
       case measure=>simp [intOf];omega
      ·subst hbb
       have HST2:=As0.mk (HST.out.trans (if_neg (by rintro (h|h);exact h rfl;exact hoo h)));have hoo1:(oi == ok)=false:=beq_eq_false_iff_ne.mpr hoo;clear HST;go_wp2_with fail
       go_quiet (fail)
       have HRq:=As0.mk (Kd.R_drewN hR.out nq);have HBq:=As0.mk (y00 hB.out nq);go_wp2_with fail
       go_quiet (fail)
       have HR0:=As0.mk (show Kd.R (Kd.int .i64) 3 _ w.heap.size (fun _=>True) (.slice (some ⟨g,0,none⟩) lb.length cap) (y1t oi ok o 0) from by rw [y9j];exact Kd.R_drewN HRq.out nq);have HB0:=As0.mk (y00 HBq.out nq);clear hci hck hbi hbk hR hB HRq HBq;go_wp2_with fail
       go_loopw [53] (fun v53 W=>∃ j:Nat,v53=.int .i64 j∧As0 (j≤lb.length)∧As0 (Kd.R (Kd.int .i64) 3 W w.heap.size (fun _=>True) (.slice (some ⟨g,0,none⟩) lb.length cap) (y1t oi ok o j))∧As0 (Below w.heap.size w W)) (fun v53 _=>(lb.length - intOf v53).toNat)
       case atStart=>exact ⟨0,rfl,⟨Nat.zero_le _⟩,⟨by exact HR0.out⟩,⟨by (have h:=HB0.out;rwa [World.drewN_drewN] at h)⟩⟩
       case round =>
        clear HR0 HB0;obtain ⟨j,rfl,hj,hR,hB⟩:=hrel;have hj':=hj.out
        by_cases hjl:j<lb.length
        ·have hol:j<o.length:=by have:=HLN.out;have:=HAB.out;omega
         obtain ⟨hcj,hfj⟩:=Kd.R_celln 0 hR.out (j:Int) (by omega) (by omega);simp only [Int.toNat_natCast] at hcj hfj;obtain ⟨oj,hoj⟩:∃ x,x=o.getD j 0:=⟨_,rfl⟩
         replace hcj:wr.cell? ⟨g,j,none⟩=some (.int .i64 oj):=by rw [hoj,← y8h oi ok hol];exact hcj
         by_cases hjo:oj=oi
         ·have HP:=Kd.R_putn hR.out (j:Int) ok
          rw [Int.toNat_natCast,show (y1t oi ok o j).set j ok=y1t oi ok o (j+1) from by rw [y52 oi ok hol,← hoj,if_pos hjo]] at HP;have HP2:=As0.mk HP;have HB2:=As0.mk (hB.out.setCell (p:=⟨g,j,none⟩) hbg (.int .i64 ok));subst hjo;clear HP hoj hol;go_wp2_with fail
          go_roundw
          case rel=>exact ⟨j+1,by go_num,⟨by omega⟩,HP2,HB2⟩
          case measure=>simp [intOf];omega
         ·have HP2:=As0.mk (show Kd.R (Kd.int .i64) 3 wr w.heap.size (fun _=>True) (.slice (some ⟨g,0,none⟩) lb.length cap) (y1t oi ok o (j+1)) from by rw [y9k oi ok hol (by rw [← hoj];exact hjo)];exact hR.out)
          have hjo1:(oj == oi)=false:=beq_eq_false_iff_ne.mpr hjo;clear hoj hol;go_wp2_with fail
          go_roundw
          case rel=>exact ⟨j+1,by go_num,⟨by omega⟩,HP2,hB⟩
          case measure=>simp [intOf];omega
        ·have hje:j=lb.length:=by omega
         have HRn:=As0.mk (show Kd.R (Kd.int .i64) 3 wr w.heap.size (fun _=>True) (.slice (some ⟨g,0,none⟩) lb.length cap) (y38 lb i (k+1) (y1i lb i la)) from by
          rw [HST2.out,← ybk,HLN.out,HAB.out];have h:=hR.out;rw [hje] at h;exact h)
         clear hje;go_wp2_with fail
         go_roundw
         case rel=>exact ⟨k+1,by go_num,⟨by omega⟩,HRn,hB⟩
         case measure=>simp [intOf];omega
     ·have HST2:=As0.mk (HST.out.trans (if_pos (.inl hbb)))
      have hbb1:(bi == bk)=false:=beq_eq_false_iff_ne.mpr hbb;have hbb2:(bi != bk)=true:=bne_iff_ne.mpr hbb;clear HST;go_wp2_with fail
      go_quiet (fail)
      go_wp2_with fail
      go_roundw
      case rel=>exact ⟨k+1,by go_num,⟨by omega⟩,⟨by rw [HST2.out];exact Kd.R_drewN hR.out _⟩,⟨y00 hB.out _⟩⟩
      case measure=>simp [intOf];omega
    ·have hke:k=i:=by omega
     have HRn:=As0.mk (show Kd.R (Kd.int .i64) 3 wr w.heap.size (fun _=>True) (.slice (some ⟨g,0,none⟩) lb.length cap) (y1i lb (i+1) la) from by have:=hR.out;rw [hke] at this;exact this);clear hke;go_wp2_with fail
     have hii:=HI.out
     go_roundw
     case rel=>exact ⟨i+1,by go_num,⟨by have:=HI.out;omega⟩,HRn,hB⟩
     case measure=>have:=HI.out;simp [intOf];omega
  ·have hke:i=lb.length:=by omega
   have HR:=As0.mk (show Kd.R (Kd.int .i64) 3 wr w.heap.size (fun _=>True) v5 (y1i lb lb.length la) from hke ▸ hR.out);clear hke;obtain ⟨Ao,co,rfl,hco,hC⟩:=Kd.R_reads HR.out;have HN:=As0.mk (ydl Ao co _ wr hC HOK.out (by rw [y25];exact HL.out));clear hC;go_wp2_with fail
   refine HN.out.mono ?_
   rintro e w2 ⟨v,rfl,hO,hb⟩
   have HO:=As0.mk (hO.lower hB.out.size);have HB2:=As0.mk (y05 hB.out hb);clear hO hb HN;go_wp2_with fail
   go_ret
   exact ⟨_,rfl,HO.out,HB2.out⟩
end
end Go.Proofs.Ytdhgeondbnpeoaa.Ext
namespace Go.Proofs.Ytdhgeondbnpeoaa.P
open Go.RowKit Go.Proofs.Yw.Wd Go.Proofs.Yw.La Go.Proofs.Yw.Mo
section
attribute [local go_sem] y1b y19 y1q y1p y12 y11 y1a y18
def errW:Option Int->Value
 |none=>.nilIface
 |some c=>.iface 0 (.int .i64 c)
theorem y08:errW none=.nilIface:=rfl
theorem y07 (c:Int):errW (some c)=.iface 0 (.int .i64 c):=rfl
theorem info3:(Tra.prog.info? 3).map (fun i=>(i.zero,i.size,i.bytes))=some (some (.int .i64 0),1,8):=by kernel_rfl
theorem info89:(Tra.prog.info? 89).map (fun i=>(i.zero,i.size,i.bytes))=some (some (.agg #[(.int .i64 0),(.int .i64 0)]),2,16):=by kernel_rfl
structure S89 where
 f0:Int
 f1:Int
def k89:Kd S89:=Kd.iso (Kd.pair (Kd.int .i64) (Kd.int .i64)) (fun x:S89=>(x.f0,x.f1))
theorem yf9 {w:World} {x:S89} {cs:List Value} (h:k89.K w x cs):cs=[.int .i64 x.f0,.int .i64 x.f1]:=by
 obtain ⟨_,_,rfl,rfl,rfl⟩:=h;exact rfl
theorem ydw (w:World) (base:Nat) (ok:Nat->Prop) (x:S89)  : k89.M w base ok x [.int .i64 x.f0,.int .i64 x.f1]:=⟨[.int .i64 x.f0],[.int .i64 x.f1],rfl,rfl,rfl⟩
def y1h (xs:List (List Int)) (i:Int):(List Int):=xs.getD i.toNat ([]:List Int)
theorem yaf {w:World} {A:Option Addr} {n:Nat} {xs:List (List Int)} (h:Kd.C (Kd.slice 3 (Kd.int .i64)) w A n xs) (i:Int) (h0:0≤i) (h1:i<n):∃ ad A0 c0,A=some ad∧w.cell? (ad.add i.toNat)=some (.slice A0 (y1h xs i).length c0)∧(y1h xs i).length≤c0∧(Kd.int .i64).C w A0 (y1h xs i).length (y1h xs i):=by
 obtain ⟨ad,c,e,_,hK,hc0⟩:=Kd.C_get h ([]:List Int) i h0 h1;have hc:∀ j u,c[j]?=some u->w.cell? (ad.add (i.toNat * 1+j))=some u:=hc0;obtain ⟨A0,c0,rfl,l0,g0⟩:=hK;exact ⟨ad,A0,c0,e,by have hq:=hc 0 _ rfl;rwa [Nat.mul_one,Nat.add_zero] at hq,l0,g0⟩
end
section
attribute [local go_sem] y1b y19 y1q y1p y12 y11 y1a y18
def mobs_number_2_int.f (l0:List S89):Option (List Int):=if (∀ p ∈ l0,Ext.In64 p.f0∧Ext.In64 p.f1)∧l0.length<17592186044416 then some (Ext.numL (l0.map fun p=>(p.f0,p.f1))) else none
theorem yda {w:World} {A:Option Addr} {l:List S89} (h:Kd.C k89 w A l.length l):Ext.Reads2 w A (l.map fun p=>(p.f0,p.f1)):=by
 intro hn;rw [List.length_map] at hn;obtain ⟨ad,hA,hc⟩:=h.2.2 hn;refine ⟨ad,hA,fun j p hj=>?_⟩;rw [List.getElem?_map] at hj;obtain ⟨q,hq,rfl⟩:=Option.map_eq_some_iff.1 hj;obtain ⟨c,hs,hr,hcell⟩:=hc j q hq;obtain rfl:=yf9 hr;have e:k89.sz=2:=rfl;rw [e] at hcell;exact ⟨hcell 0 _ rfl,hcell 1 _ rfl⟩
theorem mobs_number_2_int.own (A0:Option Addr) (c0:Nat) (l0:List S89) (r1:List Int) (w:World) (hr0:Kd.C k89 w A0 l0.length l0) (hc0:l0.length≤c0) (h:mobs_number_2_int.f l0=some r1) :
  Calls Tra.prog 84 #[.slice A0 l0.length c0] w fun e w'=>∃ v0_:Value,e=.returned v0_∧Ext.OwnI w' w.heap.size v0_ r1∧Below w.heap.size w w':=by
 unfold mobs_number_2_int.f at h;split at h
 ·rename_i hL
  obtain rfl:=zSi h;exact (by have:=Ext.num2_all A0 c0 (l0.map fun p=>(p.f0,p.f1)) w (yda hr0) (by simpa using hL.1) (by simpa using hL.2);rwa [List.length_map] at this)
 ·cases h
theorem mobs_number_2_int.calls (A0:Option Addr) (c0:Nat) (l0:List S89) (r1:List Int) (w:World) (hr0:Kd.C k89 w A0 l0.length l0) (hc0:l0.length≤c0) (h:mobs_number_2_int.f l0=some r1) :
  Calls Tra.prog 84 #[.slice A0 l0.length c0] w fun e w'=>∃ v0_:Value,e=.returned v0_∧Kd.R (Kd.int .i64) 3 w' w.heap.size (fun _=>True) v0_ r1∧Below w.heap.size w w':=by
 refine (mobs_number_2_int.own A0 c0 l0 r1 w hr0 hc0 h).mono ?_
 rintro e w' ⟨v,he,hO,hB⟩
 exact ⟨v,he,hO.toR,hB⟩
def mobs_below.l0:Nat->List Int->List Int->List (S89)->Int->Int->Option (List Int)
 |0,_,_,_,_,_=>none
 |k+1,x0,x1,x5,x8,x9=>if x9<x8 then (if 0≤x9 then (if x9<(x0.length:Int) then (if x9<(x1.length:Int) then (if x5.length<8796093022208 then (mobs_below.l0 k x0 x1 (x5 ++ [(⟨rd x0 x9,rd x1 x9⟩:S89)]) x8 (wrap64 (x9+1))) else (none)) else (none)) else (none)) else (none)) else ((mobs_number_2_int.f x5).bind fun t106=>(some t106))
def mobs_below.f (k:Nat) (l0:List Int) (l1:List Int):Option (List Int):=mobs_below.l0 k l0 l1 ([]:List (S89)) (l0.length:Int) 0
def mobs_below.T5:Bool × List (List Nat × List Nat):=(true,[([],[]),([],[]),([],[]),([1,2],[1,2]),([3],[3]),([],[]),([],[]),([5,6],[5,6]),([7],[7]),([4,8],[4,8]),([9],[9]),([0,10],[0,10]),([11,11,0,1,2,3,4,5,6,7,8,9,10,11],[0,11])])
def mobs_below.B5:List Nat:=[0,0,0,6,14,0,0,96,224,510,1022,2047,4095]
theorem mobs_below.tab5:rtab .any (ydj Tra.f63 5)=mobs_below.T5:=by kernel_rfl
theorem mobs_below.bits5:y2z mobs_below.T5.2 mobs_below.B5=true:=by kernel_rfl
theorem mobs_below.calls (k:Nat) (A0:Option Addr) (c0:Nat) (l0:List Int) (A1:Option Addr) (c1:Nat) (l1:List Int) (r:List Int) (w:World) (hr0:Kd.C (Kd.int .i64) w A0 l0.length l0) (hc0:l0.length≤c0) (hr1:Kd.C (Kd.int .i64) w A1 l1.length l1) (hc1:l1.length≤c1) (h:mobs_below.f k l0 l1=some r) :
  Calls Tra.prog 63 #[.slice A0 l0.length c0,.slice A1 l1.length c1] w fun e w'=>∃ v0_:Value,e=.returned (v0_)∧Kd.R (Kd.int .i64) 3 w' w.heap.size (fun _=>True) v0_ r∧Below w.heap.size w w':=by
 have hu89:=Tra.underlying89;have HR0:=As0.mk hr0;have HC0:=As0.mk hc0;clear hr0 hc0;have HR1:=As0.mk hr1;have HC1:=As0.mk hc1;clear hr1 hc1;have HB:=As0.mk (Below.refl w.heap.size w);have H:(mobs_below.l0 k l0 l1 ([]:List (S89)) (l0.length:Int) 0)=some r:=h;clear h;have H':=As0.mk H;clear H;go_enter Tra.func63,Tra.ntmps63
 go_wp2
 go_loopg [5,9] k (fun kq v5 v9 w'=>∃ (x5_1:List (S89)) (x9_1:Int),v9=.int .i64 x9_1∧As0 (mobs_below.l0 kq l0 l1 x5_1 (l0.length:Int) x9_1=some r)∧As0 (kq≤k)∧As0 (Kd.R k89 89 w' w.heap.size (fun _=>True) v5 x5_1)∧As0 (Below w.heap.size w w'))
 case atStart=>exact ⟨(([]:List (S89))),(0),(by rfl),H',⟨zLe _⟩,⟨by exact Kd.R_nil _ _ _ _ _⟩,⟨by repeat (with_reducible exact HB.out)⟩⟩
 case round =>
  clear H'
  try clear c1
  try clear p2
  obtain ⟨x5_1,x9_1,rfl,HA,HK1,HO_5,HB⟩:=hrel;cases gk with
  |zero=>exact absurd HA.out (by simp [mobs_below.l0])
  |succ k1 =>
   have H:=HA.out;clear HA;simp only [mobs_below.l0] at H
   by_cases c3:x9_1<(l0.length:Int)
   ·rw [if_pos c3] at H
    have c3b0:decide (x9_1<(l0.length:Int))=true:=zDt c3;clear c3
    by_cases c4:0≤x9_1
    ·rw [if_pos c4] at H
     have c4b0:decide (0≤x9_1)=true:=zDt c4;clear c4
     by_cases c5:x9_1<(l0.length:Int)
     ·rw [if_pos c5] at H
      have c5b0:decide (x9_1<(l0.length:Int))=true:=zDt c5;clear c5
      by_cases c6:x9_1<(l1.length:Int)
      ·rw [if_pos c6] at H
       have c6b0:decide (x9_1<(l1.length:Int))=true:=zDt c6;clear c6
       by_cases c7:x5_1.length<8796093022208
       ·rw [if_pos c7] at H
        have LMc7:=As0.mk c7;clear c7;obtain ⟨y103,hy103⟩:∃ y_:List (S89),y_=(x5_1 ++ [(⟨rd l0 x9_1,rd l1 x9_1⟩:S89)]):=⟨_,rfl⟩
        replace H:(mobs_below.l0 k1 l0 l1 y103 (l0.length:Int) (wrap64 (x9_1+1)))=some r:=by (rw [hy103];with_reducible exact H)
        have Ny103:=As0.mk hy103;clear hy103;have H':=As0.mk H;clear H
        try go_wp2
        have n0_:=As0.mk (Kd.R_drew HO_5.out);have n1_:=As0.mk (y01 HB.out);clear HO_5;clear HB;have HO_5:=n0_;have HB:=n1_;clear n0_ n1_;have p101:0≤(x9_1:Int):=zDo (by with_reducible assumption);have q101:x9_1<(l0.length:Int):=zDo (by with_reducible assumption);obtain ⟨ad101,e101,hx101_0⟩:=Kd.at_int HR0.out x9_1 p101 q101;have hw101_0:=hx101_0;cases e101
        replace hx101_0:=(HB.out.cell (World.block_lt_of_cell? w _ hx101_0)).trans hx101_0;replace p101:=eq_true p101;replace q101:=eq_true q101;have p102:0≤(x9_1:Int):=zDo (by with_reducible assumption);have q102:x9_1<(l1.length:Int):=zDo (by with_reducible assumption);obtain ⟨ad102,e102,hx102_0⟩:=Kd.at_int HR1.out x9_1 p102 q102;have hw102_0:=hx102_0;cases e102
        replace hx102_0:=(HB.out.cell (World.block_lt_of_cell? w _ hx102_0)).trans hx102_0;replace p102:=eq_true p102;replace q102:=eq_true q102;refine y3n (n:=13) (S:=fun w'=>w'.cell? (ad101.add (x9_1).toNat)=some (.int .i64 (rd l0 x9_1))∧w'.cell? (ad102.add (x9_1).toNat)=some (.int .i64 (rd l1 x9_1))) (ds:=[]) #[false,false,false,false,false,false,false,false,false,false,false,false,false] (by kernel_rfl) rfl rfl ⟨((HB.out.cell (World.block_lt_of_cell? w _ hw101_0)).trans hw101_0),((HB.out.cell (World.block_lt_of_cell? w _ hw102_0)).trans hw102_0)⟩ (fun hHeld=>?_);refine y1o mobs_below.tab5 mobs_below.bits5 (fun HT_ HW_=>?_);generalize wr.drew=w8 at HO_5 HB hx101_0 hx102_0 hHeld ⊢;refine y0d (i:=0) (N:=some 12) (v:=?_) (a':=?_) #[true,false,false,false,false,false,false,false,false,false,false,false,false] rfl rfl (y06 HT_.out (by kernel_rfl)) (fun _ _ _ h=>h) (Or.inl ⟨by rfl,?_⟩) ?_ ?_;rotate_left
        ·intro w'
         go_simp
         with_reducible rfl
        rotate_left
        ·simp only [Act.put,List.setIfInBounds_toArray,List.set_cons_zero,List.set_cons_succ,y0a,y0b]
         rfl
        refine y0d (i:=1) (N:=some 13) (v:=?_) (a':=?_) #[true,true,false,false,false,false,false,false,false,false,false,false,false] rfl rfl (y06 HT_.out (by kernel_rfl)) (fun _ _ _ h=>h) (Or.inl ⟨by rfl,?_⟩) ?_ ?_;rotate_left
        ·intro w'
         go_simp
         with_reducible rfl
        rotate_left
        ·simp only [Act.put,List.setIfInBounds_toArray,List.set_cons_zero,List.set_cons_succ,y0a,y0b]
         rfl
        refine y0d (i:=2) (N:=some 14) (v:=?_) (a':=?_) #[true,true,true,false,false,false,false,false,false,false,false,false,false] rfl rfl (y06 HT_.out (by kernel_rfl)) (fun _ _ _ h=>h) (Or.inl ⟨by rfl,?_⟩) ?_ ?_;rotate_left
        ·intro w'
         go_simp
         with_reducible rfl
        rotate_left
        ·simp only [Act.put,List.setIfInBounds_toArray,List.set_cons_zero,List.set_cons_succ,y0a,y0b]
         rfl
        refine y0d (i:=3) (N:=some 15) (v:=?_) (a':=?_) #[true,true,true,true,false,false,false,false,false,false,false,false,false] rfl rfl (y06 HT_.out (by kernel_rfl)) (fun _ _ _ h=>h) (Or.inl ⟨by rfl,?_⟩) ?_ ?_;rotate_left
        ·intro w'
         go_simp
         with_reducible rfl
        rotate_left
        ·simp only [Act.put,List.setIfInBounds_toArray,List.set_cons_zero,List.set_cons_succ,y0a,y0b]
         rfl
        refine y0d (i:=5) (N:=some 17) (v:=?_) (a':=?_) #[true,true,true,true,false,true,false,false,false,false,false,false,false] rfl rfl (y06 HT_.out (by kernel_rfl)) (fun _ _ _ h=>h) (Or.inl ⟨by rfl,?_⟩) ?_ ?_;rotate_left
        ·intro w'
         go_simp
         with_reducible rfl
        rotate_left
        ·simp only [Act.put,List.setIfInBounds_toArray,List.set_cons_zero,List.set_cons_succ,y0a,y0b]
         rfl
        refine y0d (i:=6) (N:=some 18) (v:=?_) (a':=?_) #[true,true,true,true,false,true,true,false,false,false,false,false,false] rfl rfl (y06 HT_.out (by kernel_rfl)) (fun _ _ _ h=>h) (Or.inl ⟨by rfl,?_⟩) ?_ ?_;rotate_left
        ·intro w'
         go_simp
         with_reducible rfl
        rotate_left
        ·simp only [Act.put,List.setIfInBounds_toArray,List.set_cons_zero,List.set_cons_succ,y0a,y0b]
         rfl
        refine y0d (i:=7) (N:=some 19) (v:=?_) (a':=?_) #[true,true,true,true,false,true,true,true,false,false,false,false,false] rfl rfl (y06 HT_.out (by kernel_rfl)) (fun _ _ _ h=>h) (Or.inl ⟨by rfl,?_⟩) ?_ ?_;rotate_left
        ·intro w'
         go_simp
         with_reducible rfl
        rotate_left
        ·simp only [Act.put,List.setIfInBounds_toArray,List.set_cons_zero,List.set_cons_succ,y0a,y0b]
         rfl
        refine take_ (i:=4) (N:=some 16) (v:=?_) (a':=?_) #[true,true,true,true,true,true,true,true,false,false,false,false,false] rfl rfl (y0m HT_.out HW_.out (by kernel_rfl)) (fun _ _ _ h=>h) (Or.inl ⟨by rfl,?_⟩) hHeld ?_ ?_;rotate_left
        ·rintro w' ⟨s0,s1⟩
         go_simp
         with_reducible rfl
        rotate_left
        ·simp only [Act.put,List.setIfInBounds_toArray,List.set_cons_zero,List.set_cons_succ,y0a,y0b]
         rfl
        refine take_ (i:=8) (N:=some 20) (v:=?_) (a':=?_) #[true,true,true,true,true,true,true,true,true,false,false,false,false] rfl rfl (y0m HT_.out HW_.out (by kernel_rfl)) (fun _ _ _ h=>h) (Or.inl ⟨by rfl,?_⟩) hHeld ?_ ?_;rotate_left
        ·rintro w' ⟨s0,s1⟩
         go_simp
         with_reducible rfl
        rotate_left
        ·simp only [Act.put,List.setIfInBounds_toArray,List.set_cons_zero,List.set_cons_succ,y0a,y0b]
         rfl
        refine y0d (i:=9) (N:=some 21) (v:=?_) (a':=?_) #[true,true,true,true,true,true,true,true,true,true,false,false,false] rfl rfl (y06 HT_.out (by kernel_rfl)) (fun _ _ _ h=>h) (Or.inl ⟨by rfl,?_⟩) ?_ ?_;rotate_left
        ·intro w'
         go_simp
         with_reducible rfl
        rotate_left
        ·simp only [Act.put,List.setIfInBounds_toArray,List.set_cons_zero,List.set_cons_succ,y0a,y0b]
         rfl
        refine one_ (i:=10) (N:=some 22) #[true,true,true,true,true,true,true,true,true,true,true,false,false] rfl rfl (y45 HT_.out (by kernel_rfl)) (by decide) (fun K hK=>?_);refine yci (w1:=?_) (v:=?_) (by rfl) rfl ?_ ?_;rotate_left 2
        ·go_simp
         constructor
         ·rfl
         ·rfl
        refine hK.out _ _ ⟨(World.cell?_alloc_lt _ _ _ (World.block_lt_of_cell? _ _ (((HB.out.cell (World.block_lt_of_cell? w _ hw101_0)).trans hw101_0)))).trans (((HB.out.cell (World.block_lt_of_cell? w _ hw101_0)).trans hw101_0)),(World.cell?_alloc_lt _ _ _ (World.block_lt_of_cell? _ _ (((HB.out.cell (World.block_lt_of_cell? w _ hw102_0)).trans hw102_0)))).trans (((HB.out.cell (World.block_lt_of_cell? w _ hw102_0)).trans hw102_0))⟩ (fun hHeld=>?_);clear hK K;refine y97 (a':=?_) ?_ ?_;rotate_left
        ·show Act.put _ (some 22) _=_
         simp only [Act.put,List.setIfInBounds_toArray,List.set_cons_zero,List.set_cons_succ,y0a,y0b];rfl
        refine one_ (i:=11) (N:=some 23) #[true,true,true,true,true,true,true,true,true,true,true,true,false] rfl rfl (y45 HT_.out (by kernel_rfl)) (by decide) (fun K hK=>?_);refine Kd.R_append_step k89 (w0:=w) w.heap.size (by rfl) (.tmp 12) (.tmp 22) 88 89 (.agg #[(.int .i64 0),(.int .i64 0)]) 16 rfl Tra.underlying88 info89 rfl (by decide) (by omega) u5 x5_1 (⟨rd l0 x9_1,rd l1 x9_1⟩:S89) [.int .i64 (rd l0 x9_1),.int .i64 (rd l1 x9_1)] (fun _=>True) (fun _=>False) rfl rfl ?aP (fun _ hk=>hk.elim) ?aF ?aO ?aB ?aS ?aL ?_
        (case aP=>exact ydw _ _ _ (⟨rd l0 x9_1,rd l1 x9_1⟩:S89))
        (case aB=>exact (by repeat (with_reducible exact HB.out)))
        (case aF=>exact (fun _ _=>trivial))
        (case aO=>exact (by (with_reducible repeat (first|apply Kd.R_alloc|apply Kd.R_drewN|apply Kd.R_drew));exact HO_5.out))
        (case aS=>exact (y03 (by repeat (with_reducible exact HB.out))))
        (case aL=>have:=LMc7.out;omega)
        intro v104 w9 ho hb hg hat;rw [← Ny103.out] at ho;have n0_:=As0.mk (hb);have n1_:=As0.mk (ho);clear HB;clear HO_5;have HB:=n0_;have HO105:=n1_;clear n0_ n1_;clear ho hb hg hat;refine hK.out _ _ ⟨((HB.out.cell (World.block_lt_of_cell? w _ hw101_0)).trans hw101_0),((HB.out.cell (World.block_lt_of_cell? w _ hw102_0)).trans hw102_0)⟩ (fun hHeld=>?_);clear hK K;refine y97 (a':=?_) ?_ ?_;rotate_left
        ·show Act.put _ (some 23) _=_
         simp only [Act.put,List.setIfInBounds_toArray,List.set_cons_zero,List.set_cons_succ,y0a,y0b];rfl
        refine y0d (i:=12) (N:=some 5) (v:=?_) (a':=?_) #[true,true,true,true,true,true,true,true,true,true,true,true,true] rfl rfl (y06 HT_.out (by kernel_rfl)) (fun _ _ _ h=>h) (Or.inl ⟨by rfl,?_⟩) ?_ ?_;rotate_left
        ·intro w'
         go_simp
         with_reducible rfl
        rotate_left
        ·simp only [Act.put,List.setIfInBounds_toArray,List.set_cons_zero,List.set_cons_succ,y0a,y0b]
         rfl
        refine y6j (y2q HT_.out (by kernel_rfl)) ?_
        try go_wp2
        go_roundg k1
        case measure=>have:=HK1.out;omega
        case rel=>exact ⟨(y103),(wrap64 (x9_1+1)),(by rfl),H',⟨by have:=HK1.out;omega⟩,⟨by (with_reducible repeat (first|apply Kd.R_alloc|apply Kd.R_drewN|apply Kd.R_drew));exact HO105.out⟩,⟨by repeat (with_reducible exact HB.out)⟩⟩
       ·rw [if_neg c7] at H
        exact absurd H (by simp)
      ·rw [if_neg c6] at H
       exact absurd H (by simp)
     ·rw [if_neg c5] at H
      exact absurd H (by simp)
    ·rw [if_neg c4] at H
     exact absurd H (by simp)
   ·rw [if_neg c3] at H
    have c3b0:decide (x9_1<(l0.length:Int))=false:=zDf c3;clear c3;replace H:=Option.bind_eq_some_iff.mp H;obtain ⟨t106,A100,H⟩:=H;replace H:(some t106)=some r:=H;have A10:=As0.mk A100;clear A100;obtain rfl:=zSi H;obtain ⟨Ao11,co11,eo11⟩:=Kd.R_slice HO_5.out;subst eo11;go_wp2_with (((with_reducible refine y04 (f:=84) rfl ?_);refine y0h (some 26) rfl rfl Tra.func84 (by kernel_rfl) rfl #[.slice Ao11 x5_1.length co11] rfl (by (try simp only [List.map_toArray,List.map_cons,List.map_nil]);rfl) ?_;(with_reducible refine (mobs_number_2_int.calls _ _ x5_1 t106 _ ?side1 ?side2 A10.out).mono ?_);(case side1=>repeat (exact (Kd.R_reads' HO_5.out).2.2));(case side2=>exact (Kd.R_reads' HO_5.out).2.1);rintro e w12 ⟨v107,rfl,ho0,hb⟩;refine ⟨_,rfl,?_⟩;have n0_:=As0.mk (Kd.R_below (by (with_reducible repeat (first|apply Kd.R_alloc|apply Kd.R_drewN|apply Kd.R_drew));exact HO_5.out) hb);have n1_:=As0.mk (Kd.R_lower ho0 (y03 (by repeat (with_reducible exact HB.out))));have n2_:=As0.mk (y05 (by repeat (with_reducible exact HB.out)) hb);clear HO_5;clear HB;have HO_5:=n0_;have HO108:=n1_;have HB:=n2_;clear n0_ n1_ n2_;(try clear hb);(try clear hb2);(try clear hk);(try clear hi);(try clear ho0)))
    go_ret
    exact ⟨_,by rfl,by (with_reducible repeat (first|apply Kd.R_alloc|apply Kd.R_drewN|apply Kd.R_drew));exact HO108.out,by repeat (with_reducible exact HB.out)⟩
theorem mobs_below.flat (k:Nat) (A0:Option Addr) (c0:Nat) (l0:List Int) (A1:Option Addr) (c1:Nat) (l1:List Int) (r:List Int) (w:World) (hr0:Kd.C (Kd.int .i64) w A0 l0.length l0) (hc0:l0.length≤c0) (hr1:Kd.C (Kd.int .i64) w A1 l1.length l1) (hc1:l1.length≤c1) (h:mobs_below.f k l0 l1=some r) :
  Calls Tra.prog 63 #[.slice A0 l0.length c0,.slice A1 l1.length c1] w fun e w'=>∃ v0_:Value,e=.returned (v0_)∧Ext.OwnI w' w.heap.size v0_ r∧Below w.heap.size w w':=by
 have hu89:=Tra.underlying89;have HR0:=As0.mk hr0;have HC0:=As0.mk hc0;clear hr0 hc0;have HR1:=As0.mk hr1;have HC1:=As0.mk hc1;clear hr1 hc1;have HB:=As0.mk (Below.refl w.heap.size w);have H:(mobs_below.l0 k l0 l1 ([]:List (S89)) (l0.length:Int) 0)=some r:=h;clear h;have H':=As0.mk H;clear H;go_enter Tra.func63,Tra.ntmps63
 go_wp2
 go_loopg [5,9] k (fun kq v5 v9 w'=>∃ (x5_1:List (S89)) (x9_1:Int),v9=.int .i64 x9_1∧As0 (mobs_below.l0 kq l0 l1 x5_1 (l0.length:Int) x9_1=some r)∧As0 (kq≤k)∧As0 (Kd.R k89 89 w' w.heap.size (fun _=>True) v5 x5_1)∧As0 (Below w.heap.size w w'))
 case atStart=>exact ⟨(([]:List (S89))),(0),(by rfl),H',⟨zLe _⟩,⟨by exact Kd.R_nil _ _ _ _ _⟩,⟨by repeat (with_reducible exact HB.out)⟩⟩
 case round =>
  clear H'
  try clear c1
  try clear p2
  obtain ⟨x5_1,x9_1,rfl,HA,HK1,HO_5,HB⟩:=hrel;cases gk with
  |zero=>exact absurd HA.out (by simp [mobs_below.l0])
  |succ k1 =>
   have H:=HA.out;clear HA;simp only [mobs_below.l0] at H
   by_cases c3:x9_1<(l0.length:Int)
   ·rw [if_pos c3] at H
    have c3b0:decide (x9_1<(l0.length:Int))=true:=zDt c3;clear c3
    by_cases c4:0≤x9_1
    ·rw [if_pos c4] at H
     have c4b0:decide (0≤x9_1)=true:=zDt c4;clear c4
     by_cases c5:x9_1<(l0.length:Int)
     ·rw [if_pos c5] at H
      have c5b0:decide (x9_1<(l0.length:Int))=true:=zDt c5;clear c5
      by_cases c6:x9_1<(l1.length:Int)
      ·rw [if_pos c6] at H
       have c6b0:decide (x9_1<(l1.length:Int))=true:=zDt c6;clear c6
       by_cases c7:x5_1.length<8796093022208
       ·rw [if_pos c7] at H
        have LMc7:=As0.mk c7;clear c7;obtain ⟨y103,hy103⟩:∃ y_:List (S89),y_=(x5_1 ++ [(⟨rd l0 x9_1,rd l1 x9_1⟩:S89)]):=⟨_,rfl⟩
        replace H:(mobs_below.l0 k1 l0 l1 y103 (l0.length:Int) (wrap64 (x9_1+1)))=some r:=by (rw [hy103];with_reducible exact H)
        have Ny103:=As0.mk hy103;clear hy103;have H':=As0.mk H;clear H
        try go_wp2
        have n0_:=As0.mk (Kd.R_drew HO_5.out);have n1_:=As0.mk (y01 HB.out);clear HO_5;clear HB;have HO_5:=n0_;have HB:=n1_;clear n0_ n1_;have p101:0≤(x9_1:Int):=zDo (by with_reducible assumption);have q101:x9_1<(l0.length:Int):=zDo (by with_reducible assumption);obtain ⟨ad101,e101,hx101_0⟩:=Kd.at_int HR0.out x9_1 p101 q101;have hw101_0:=hx101_0;cases e101
        replace hx101_0:=(HB.out.cell (World.block_lt_of_cell? w _ hx101_0)).trans hx101_0;replace p101:=eq_true p101;replace q101:=eq_true q101;have p102:0≤(x9_1:Int):=zDo (by with_reducible assumption);have q102:x9_1<(l1.length:Int):=zDo (by with_reducible assumption);obtain ⟨ad102,e102,hx102_0⟩:=Kd.at_int HR1.out x9_1 p102 q102;have hw102_0:=hx102_0;cases e102
        replace hx102_0:=(HB.out.cell (World.block_lt_of_cell? w _ hx102_0)).trans hx102_0;replace p102:=eq_true p102;replace q102:=eq_true q102;refine y3n (n:=13) (S:=fun w'=>w'.cell? (ad101.add (x9_1).toNat)=some (.int .i64 (rd l0 x9_1))∧w'.cell? (ad102.add (x9_1).toNat)=some (.int .i64 (rd l1 x9_1))) (ds:=[]) #[false,false,false,false,false,false,false,false,false,false,false,false,false] (by kernel_rfl) rfl rfl ⟨((HB.out.cell (World.block_lt_of_cell? w _ hw101_0)).trans hw101_0),((HB.out.cell (World.block_lt_of_cell? w _ hw102_0)).trans hw102_0)⟩ (fun hHeld=>?_);refine y1o mobs_below.tab5 mobs_below.bits5 (fun HT_ HW_=>?_);generalize wr.drew=w8 at HO_5 HB hx101_0 hx102_0 hHeld ⊢;refine y0d (i:=0) (N:=some 12) (v:=?_) (a':=?_) #[true,false,false,false,false,false,false,false,false,false,false,false,false] rfl rfl (y06 HT_.out (by kernel_rfl)) (fun _ _ _ h=>h) (Or.inl ⟨by rfl,?_⟩) ?_ ?_;rotate_left
        ·intro w'
         go_simp
         with_reducible rfl
        rotate_left
        ·simp only [Act.put,List.setIfInBounds_toArray,List.set_cons_zero,List.set_cons_succ,y0a,y0b]
         rfl
        refine y0d (i:=1) (N:=some 13) (v:=?_) (a':=?_) #[true,true,false,false,false,false,false,false,false,false,false,false,false] rfl rfl (y06 HT_.out (by kernel_rfl)) (fun _ _ _ h=>h) (Or.inl ⟨by rfl,?_⟩) ?_ ?_;rotate_left
        ·intro w'
         go_simp
         with_reducible rfl
        rotate_left
        ·simp only [Act.put,List.setIfInBounds_toArray,List.set_cons_zero,List.set_cons_succ,y0a,y0b]
         rfl
        refine y0d (i:=2) (N:=some 14) (v:=?_) (a':=?_) #[true,true,true,false,false,false,false,false,false,false,false,false,false] rfl rfl (y06 HT_.out (by kernel_rfl)) (fun _ _ _ h=>h) (Or.inl ⟨by rfl,?_⟩) ?_ ?_;rotate_left
        ·intro w'
         go_simp
         with_reducible rfl
        rotate_left
        ·simp only [Act.put,List.setIfInBounds_toArray,List.set_cons_zero,List.set_cons_succ,y0a,y0b]
         rfl
        refine y0d (i:=3) (N:=some 15) (v:=?_) (a':=?_) #[true,true,true,true,false,false,false,false,false,false,false,false,false] rfl rfl (y06 HT_.out (by kernel_rfl)) (fun _ _ _ h=>h) (Or.inl ⟨by rfl,?_⟩) ?_ ?_;rotate_left
        ·intro w'
         go_simp
         with_reducible rfl
        rotate_left
        ·simp only [Act.put,List.setIfInBounds_toArray,List.set_cons_zero,List.set_cons_succ,y0a,y0b]
         rfl
        refine y0d (i:=5) (N:=some 17) (v:=?_) (a':=?_) #[true,true,true,true,false,true,false,false,false,false,false,false,false] rfl rfl (y06 HT_.out (by kernel_rfl)) (fun _ _ _ h=>h) (Or.inl ⟨by rfl,?_⟩) ?_ ?_;rotate_left
        ·intro w'
         go_simp
         with_reducible rfl
        rotate_left
        ·simp only [Act.put,List.setIfInBounds_toArray,List.set_cons_zero,List.set_cons_succ,y0a,y0b]
         rfl
        refine y0d (i:=6) (N:=some 18) (v:=?_) (a':=?_) #[true,true,true,true,false,true,true,false,false,false,false,false,false] rfl rfl (y06 HT_.out (by kernel_rfl)) (fun _ _ _ h=>h) (Or.inl ⟨by rfl,?_⟩) ?_ ?_;rotate_left
        ·intro w'
         go_simp
         with_reducible rfl
        rotate_left
        ·simp only [Act.put,List.setIfInBounds_toArray,List.set_cons_zero,List.set_cons_succ,y0a,y0b]
         rfl
        refine y0d (i:=7) (N:=some 19) (v:=?_) (a':=?_) #[true,true,true,true,false,true,true,true,false,false,false,false,false] rfl rfl (y06 HT_.out (by kernel_rfl)) (fun _ _ _ h=>h) (Or.inl ⟨by rfl,?_⟩) ?_ ?_;rotate_left
        ·intro w'
         go_simp
         with_reducible rfl
        rotate_left
        ·simp only [Act.put,List.setIfInBounds_toArray,List.set_cons_zero,List.set_cons_succ,y0a,y0b]
         rfl
        refine take_ (i:=4) (N:=some 16) (v:=?_) (a':=?_) #[true,true,true,true,true,true,true,true,false,false,false,false,false] rfl rfl (y0m HT_.out HW_.out (by kernel_rfl)) (fun _ _ _ h=>h) (Or.inl ⟨by rfl,?_⟩) hHeld ?_ ?_;rotate_left
        ·rintro w' ⟨s0,s1⟩
         go_simp
         with_reducible rfl
        rotate_left
        ·simp only [Act.put,List.setIfInBounds_toArray,List.set_cons_zero,List.set_cons_succ,y0a,y0b]
         rfl
        refine take_ (i:=8) (N:=some 20) (v:=?_) (a':=?_) #[true,true,true,true,true,true,true,true,true,false,false,false,false] rfl rfl (y0m HT_.out HW_.out (by kernel_rfl)) (fun _ _ _ h=>h) (Or.inl ⟨by rfl,?_⟩) hHeld ?_ ?_;rotate_left
        ·rintro w' ⟨s0,s1⟩
         go_simp
         with_reducible rfl
        rotate_left
        ·simp only [Act.put,List.setIfInBounds_toArray,List.set_cons_zero,List.set_cons_succ,y0a,y0b]
         rfl
        refine y0d (i:=9) (N:=some 21) (v:=?_) (a':=?_) #[true,true,true,true,true,true,true,true,true,true,false,false,false] rfl rfl (y06 HT_.out (by kernel_rfl)) (fun _ _ _ h=>h) (Or.inl ⟨by rfl,?_⟩) ?_ ?_;rotate_left
        ·intro w'
         go_simp
         with_reducible rfl
        rotate_left
        ·simp only [Act.put,List.setIfInBounds_toArray,List.set_cons_zero,List.set_cons_succ,y0a,y0b]
         rfl
        refine one_ (i:=10) (N:=some 22) #[true,true,true,true,true,true,true,true,true,true,true,false,false] rfl rfl (y45 HT_.out (by kernel_rfl)) (by decide) (fun K hK=>?_);refine yci (w1:=?_) (v:=?_) (by rfl) rfl ?_ ?_;rotate_left 2
        ·go_simp
         constructor
         ·rfl
         ·rfl
        refine hK.out _ _ ⟨(World.cell?_alloc_lt _ _ _ (World.block_lt_of_cell? _ _ (((HB.out.cell (World.block_lt_of_cell? w _ hw101_0)).trans hw101_0)))).trans (((HB.out.cell (World.block_lt_of_cell? w _ hw101_0)).trans hw101_0)),(World.cell?_alloc_lt _ _ _ (World.block_lt_of_cell? _ _ (((HB.out.cell (World.block_lt_of_cell? w _ hw102_0)).trans hw102_0)))).trans (((HB.out.cell (World.block_lt_of_cell? w _ hw102_0)).trans hw102_0))⟩ (fun hHeld=>?_);clear hK K;refine y97 (a':=?_) ?_ ?_;rotate_left
        ·show Act.put _ (some 22) _=_
         simp only [Act.put,List.setIfInBounds_toArray,List.set_cons_zero,List.set_cons_succ,y0a,y0b];rfl
        refine one_ (i:=11) (N:=some 23) #[true,true,true,true,true,true,true,true,true,true,true,true,false] rfl rfl (y45 HT_.out (by kernel_rfl)) (by decide) (fun K hK=>?_);refine Kd.R_append_step k89 (w0:=w) w.heap.size (by rfl) (.tmp 12) (.tmp 22) 88 89 (.agg #[(.int .i64 0),(.int .i64 0)]) 16 rfl Tra.underlying88 info89 rfl (by decide) (by omega) u5 x5_1 (⟨rd l0 x9_1,rd l1 x9_1⟩:S89) [.int .i64 (rd l0 x9_1),.int .i64 (rd l1 x9_1)] (fun _=>True) (fun _=>False) rfl rfl ?aP (fun _ hk=>hk.elim) ?aF ?aO ?aB ?aS ?aL ?_
        (case aP=>exact ydw _ _ _ (⟨rd l0 x9_1,rd l1 x9_1⟩:S89))
        (case aB=>exact (by repeat (with_reducible exact HB.out)))
        (case aF=>exact (fun _ _=>trivial))
        (case aO=>exact (by (with_reducible repeat (first|apply Kd.R_alloc|apply Kd.R_drewN|apply Kd.R_drew));exact HO_5.out))
        (case aS=>exact (y03 (by repeat (with_reducible exact HB.out))))
        (case aL=>have:=LMc7.out;omega)
        intro v104 w9 ho hb hg hat;rw [← Ny103.out] at ho;have n0_:=As0.mk (hb);have n1_:=As0.mk (ho);clear HB;clear HO_5;have HB:=n0_;have HO105:=n1_;clear n0_ n1_;clear ho hb hg hat;refine hK.out _ _ ⟨((HB.out.cell (World.block_lt_of_cell? w _ hw101_0)).trans hw101_0),((HB.out.cell (World.block_lt_of_cell? w _ hw102_0)).trans hw102_0)⟩ (fun hHeld=>?_);clear hK K;refine y97 (a':=?_) ?_ ?_;rotate_left
        ·show Act.put _ (some 23) _=_
         simp only [Act.put,List.setIfInBounds_toArray,List.set_cons_zero,List.set_cons_succ,y0a,y0b];rfl
        refine y0d (i:=12) (N:=some 5) (v:=?_) (a':=?_) #[true,true,true,true,true,true,true,true,true,true,true,true,true] rfl rfl (y06 HT_.out (by kernel_rfl)) (fun _ _ _ h=>h) (Or.inl ⟨by rfl,?_⟩) ?_ ?_;rotate_left
        ·intro w'
         go_simp
         with_reducible rfl
        rotate_left
        ·simp only [Act.put,List.setIfInBounds_toArray,List.set_cons_zero,List.set_cons_succ,y0a,y0b]
         rfl
        refine y6j (y2q HT_.out (by kernel_rfl)) ?_
        try go_wp2
        go_roundg k1
        case measure=>have:=HK1.out;omega
        case rel=>exact ⟨(y103),(wrap64 (x9_1+1)),(by rfl),H',⟨by have:=HK1.out;omega⟩,⟨by (with_reducible repeat (first|apply Kd.R_alloc|apply Kd.R_drewN|apply Kd.R_drew));exact HO105.out⟩,⟨by repeat (with_reducible exact HB.out)⟩⟩
       ·rw [if_neg c7] at H
        exact absurd H (by simp)
      ·rw [if_neg c6] at H
       exact absurd H (by simp)
     ·rw [if_neg c5] at H
      exact absurd H (by simp)
    ·rw [if_neg c4] at H
     exact absurd H (by simp)
   ·rw [if_neg c3] at H
    have c3b0:decide (x9_1<(l0.length:Int))=false:=zDf c3;clear c3;replace H:=Option.bind_eq_some_iff.mp H;obtain ⟨t106,A100,H⟩:=H;replace H:(some t106)=some r:=H;have A10:=As0.mk A100;clear A100;obtain rfl:=zSi H;obtain ⟨Ao11,co11,eo11⟩:=Kd.R_slice HO_5.out;subst eo11;go_wp2_with (((with_reducible refine y04 (f:=84) rfl ?_);refine y0h (some 26) rfl rfl Tra.func84 (by kernel_rfl) rfl #[.slice Ao11 x5_1.length co11] rfl (by (try simp only [List.map_toArray,List.map_cons,List.map_nil]);rfl) ?_;(with_reducible refine (mobs_number_2_int.own _ _ x5_1 t106 _ ?side1 ?side2 A10.out).mono ?_);(case side1=>repeat (exact (Kd.R_reads' HO_5.out).2.2));(case side2=>exact (Kd.R_reads' HO_5.out).2.1);rintro e w12 ⟨v107,rfl,hoI_,hb⟩;have HOI_:=As0.mk (hoI_.lower (y03 (by repeat (with_reducible exact HB.out))));have ho0:=hoI_.toR;clear hoI_;refine ⟨_,rfl,?_⟩;have n0_:=As0.mk (Kd.R_below (by (with_reducible repeat (first|apply Kd.R_alloc|apply Kd.R_drewN|apply Kd.R_drew));exact HO_5.out) hb);have n1_:=As0.mk (Kd.R_lower ho0 (y03 (by repeat (with_reducible exact HB.out))));have n2_:=As0.mk (y05 (by repeat (with_reducible exact HB.out)) hb);clear HO_5;clear HB;have HO_5:=n0_;have HO108:=n1_;have HB:=n2_;clear n0_ n1_ n2_;(try clear hb);(try clear hb2);(try clear hk);(try clear hi);(try clear ho0)))
    go_ret
    exact ⟨_,by rfl,HOI_.out,by repeat (with_reducible exact HB.out)⟩
def mobs_number_int.f (l0:List Int):Option (List Int):=if (∀ x ∈ l0,Ext.In64 x)∧l0.length<17592186044416 then some (Ext.numL l0) else none
theorem mobs_number_int.calls (A0:Option Addr) (c0:Nat) (l0:List Int) (r1:List Int) (w:World) (hr0:Kd.C (Kd.int .i64) w A0 l0.length l0) (hc0:l0.length≤c0) (h:mobs_number_int.f l0=some r1) :
  Calls Tra.prog 54 #[.slice A0 l0.length c0] w fun e w'=>∃ v0_:Value,e=.returned v0_∧Kd.R (Kd.int .i64) 3 w' w.heap.size (fun _=>True) v0_ r1∧Below w.heap.size w w':=by
 unfold mobs_number_int.f at h;split at h
 ·rename_i hL
  obtain rfl:=zSi h;exact Ext.num_calls A0 c0 l0 w hr0 hc0 hL.1 hL.2
 ·cases h
def slices_Clone_int_int.f (l0:List Int):Option (List Int):=if l0.length<17592186044416 then some l0 else none
theorem slices_Clone_int_int.calls (A0:Option Addr) (c0:Nat) (l0:List Int) (r1:List Int) (w:World) (hr0:Kd.C (Kd.int .i64) w A0 l0.length l0) (hc0:l0.length≤c0) (h:slices_Clone_int_int.f l0=some r1) :
  Calls Tra.prog 56 #[.slice A0 l0.length c0] w fun e w'=>∃ v0_:Value,e=.returned v0_∧Kd.R (Kd.int .i64) 3 w' w.heap.size (fun _=>True) v0_ r1∧Below w.heap.size w w':=by
 unfold slices_Clone_int_int.f at h;split at h
 ·rename_i hL
  obtain rfl:=zSi h;exact Ext.clone_calls A0 c0 l0 w hr0 hL
 ·cases h
def mobs_above.f (l0:List Int) (l1:List Int):Option (List Int):=if l0.length=l1.length∧(∀ x ∈ l0,Ext.In64 x)∧l0.length<17592186044416 then some (Ext.aboveL l0 l1) else none
theorem mobs_above.own (A0:Option Addr) (c0:Nat) (l0:List Int) (A1:Option Addr) (c1:Nat) (l1:List Int) (r1:List Int) (w:World) (hr0:Kd.C (Kd.int .i64) w A0 l0.length l0) (hc0:l0.length≤c0) (hr1:Kd.C (Kd.int .i64) w A1 l1.length l1) (hc1:l1.length≤c1) (h:mobs_above.f l0 l1=some r1) :
  Calls Tra.prog 65 #[.slice A0 l0.length c0,.slice A1 l1.length c1] w fun e w'=>∃ v0_:Value,e=.returned v0_∧Ext.OwnI w' w.heap.size v0_ r1∧Below w.heap.size w w':=by
 unfold mobs_above.f at h;split at h
 ·rename_i hL
  obtain rfl:=zSi h;exact Ext.above_all A0 c0 l0 A1 c1 l1 w hr0 hr1 hL.1 hL.2.1 hL.2.2
 ·cases h
theorem mobs_above.calls (A0:Option Addr) (c0:Nat) (l0:List Int) (A1:Option Addr) (c1:Nat) (l1:List Int) (r1:List Int) (w:World) (hr0:Kd.C (Kd.int .i64) w A0 l0.length l0) (hc0:l0.length≤c0) (hr1:Kd.C (Kd.int .i64) w A1 l1.length l1) (hc1:l1.length≤c1) (h:mobs_above.f l0 l1=some r1) :
  Calls Tra.prog 65 #[.slice A0 l0.length c0,.slice A1 l1.length c1] w fun e w'=>∃ v0_:Value,e=.returned v0_∧Kd.R (Kd.int .i64) 3 w' w.heap.size (fun _=>True) v0_ r1∧Below w.heap.size w w':=by
 refine (mobs_above.own A0 c0 l0 A1 c1 l1 r1 w hr0 hc0 hr1 hc1 h).mono ?_
 rintro e w' ⟨v,he,hO,hB⟩
 exact ⟨v,he,hO.toR,hB⟩
def mobs_counted.f (a0:Int) (a1:Int):Option (Int):=if a0<0 then (some 2) else (if a0 > 12 then (some 2) else (if a1<0 then (some 2) else (if a1 > a0 then (some 2) else (some 0))))
theorem mobs_counted.calls (a0:Int) (a1:Int) (r:Int) (w:World) (h:mobs_counted.f a0 a1=some r) :
  Calls Tra.prog 45 #[.int .i64 a0,.int .i64 a1] w fun e w'=>e=.returned (.int .i64 r)∧Drawn0 w w':=by
 have H:(if a0<0 then (some 2) else (if a0 > 12 then (some 2) else (if a1<0 then (some 2) else (if a1 > a0 then (some 2) else (some 0)))))=some r:=h;clear h
 by_cases c3:a0<0
 ·rw [if_pos c3] at H
  have c3b0:decide (a0<0)=true:=zDt c3;clear c3;obtain rfl:=zSi H;go_enter Tra.func45,Tra.ntmps45
  go_wp2
  go_ret
  exact ⟨by rfl,by repeat (exact Drawn0.refl _)⟩
 ·rw [if_neg c3] at H
  have c3b0:decide (a0<0)=false:=zDf c3;clear c3
  by_cases c4:a0 > 12
  ·rw [if_pos c4] at H
   have c4b0:decide (12<a0)=true:=zDt c4;clear c4;obtain rfl:=zSi H;go_enter Tra.func45,Tra.ntmps45
   go_wp2
   go_ret
   exact ⟨by rfl,by repeat (exact Drawn0.refl _)⟩
  ·rw [if_neg c4] at H
   have c4b0:decide (12<a0)=false:=zDf c4;clear c4
   by_cases c5:a1<0
   ·rw [if_pos c5] at H
    have c5b0:decide (a1<0)=true:=zDt c5;clear c5;obtain rfl:=zSi H;go_enter Tra.func45,Tra.ntmps45
    go_wp2
    go_ret
    exact ⟨by rfl,by repeat (exact Drawn0.refl _)⟩
   ·rw [if_neg c5] at H
    have c5b0:decide (a1<0)=false:=zDf c5;clear c5
    by_cases c6:a1 > a0
    ·rw [if_pos c6] at H
     have c6b0:decide (a0<a1)=true:=zDt c6;clear c6;obtain rfl:=zSi H;go_enter Tra.func45,Tra.ntmps45
     go_wp2
     go_ret
     exact ⟨by rfl,by repeat (exact Drawn0.refl _)⟩
    ·rw [if_neg c6] at H
     have c6b0:decide (a0<a1)=false:=zDf c6;clear c6;obtain rfl:=zSi H;go_enter Tra.func45,Tra.ntmps45
     go_wp2
     go_ret
     exact ⟨by rfl,by repeat (exact Drawn0.refl _)⟩
end
end Go.Proofs.Ytdhgeondbnpeoaa.P
namespace Go.Proofs.Ytdhgeondbnpeoaa.P
open Go.RowKit Go.Proofs.Yw.Wd Go.Proofs.Yw.La Go.Proofs.Yw.Mo
attribute [local go_sem] y1b y19 y1q y1p y12 y11 y1a y18
mutual
def mobs_Count.l0:Nat->Int->List Int->Int->Int->Option (Int × Int)
 |0,_,_,_,_=>none
 |k+1,x1,x7,x19,x20=>if x20<x19 then (if 0≤(wrap64 (x20+2)) then (if (wrap64 (x20+2):Int).toNat≤35184372088832 then (mobs_Count.l1 k x1 (List.replicate (wrap64 (x20+2):Int).toNat 0) x19 x20 x7 (x7.length:Int) 0) else (none)) else (none)) else (if 0≤x1 then (if x1<(x7.length:Int) then (some (rd x7 x1,0)) else (none)) else (none))
def mobs_Count.l1:Nat->Int->List Int->Int->Int->List Int->Int->Int->Option (Int × Int)
 |0,_,_,_,_,_,_,_=>none
 |k+1,x1,x9,x19,x20,x26,x27,x28=>if x28<x27 then (if 0≤x28 then (if x28<(x26.length:Int) then (if x28<(x9.length:Int) then ((some (x9.set (x28:Int).toNat (wrap64 ((rd x9 x28)+(wrap64 (x28 * (rd x26 x28))))):List Int)).bind fun y119=>(if 0≤(wrap64 (x28+1)) then (if (wrap64 (x28+1))<(x9.length:Int) then (mobs_Count.l1 k x1 (y119.set ((wrap64 (x28+1)):Int).toNat (wrap64 ((rd y119 (wrap64 (x28+1)))+(rd x26 x28)))) x19 x20 x26 x27 (wrap64 (x28+1))) else (none)) else (none))) else (none)) else (none)) else (none)) else (mobs_Count.l0 k x1 x9 x19 (wrap64 (x20+1)))
end
def mobs_Count.f (k:Nat) (a0:Int) (a1:Int):Option (Int × Int):=(mobs_counted.f a0 a1).bind fun t109=>(if t109=0 then (mobs_Count.l0 k a1 (([1]:List Int)) a0 0) else (some (0,t109)))
theorem mobs_Count.calls (k:Nat) (a0:Int) (a1:Int) (r1:Int) (r2:Int) (w:World) (h:mobs_Count.f k a0 a1=some (r1,r2)) :
  Calls Tra.prog 16 #[.int .i64 a0,.int .i64 a1] w fun e w'=>e=.returned (.tuple #[.int .i64 r1,.int .i64 r2])∧Below w.heap.size w w':=by
 have HB:=As0.mk (Below.refl w.heap.size w);have H:((mobs_counted.f a0 a1).bind fun t109=>(if t109=0 then (mobs_Count.l0 k a1 (([1]:List Int)) a0 0) else (some (0,t109))))=some (r1,r2):=h;clear h;replace H:=Option.bind_eq_some_iff.mp H;obtain ⟨t109,A30,H⟩:=H;replace H:(if t109=0 then (mobs_Count.l0 k a1 (([1]:List Int)) a0 0) else (some (0,t109)))=some (r1,r2):=H;have A3:=As0.mk A30;clear A30
 by_cases c4:t109=0
 ·rw [if_pos c4] at H
  have c4b0:(t109 == 0)=true:=beq_iff_eq.mpr c4;have c4b1:(t109 != 0)=false:=bne_eq_false_iff_eq.mpr c4;clear c4;obtain ⟨y110,hy110⟩:∃ y_:List Int,y_=(([1]:List Int)):=⟨_,rfl⟩
  replace H:(mobs_Count.l0 k a1 y110 a0 0)=some (r1,r2):=by (rw [hy110];with_reducible exact H)
  have Ny110:=As0.mk hy110;clear hy110;have H':=As0.mk H;clear H;go_enter Tra.func16,Tra.ntmps16
  go_wp2_with (first|((with_reducible refine y04 (f:=45) rfl ?_);refine y0h (some 14) rfl rfl Tra.func45 (by kernel_rfl) rfl #[.int .i64 a0,.int .i64 a1] rfl (by (try simp only [List.map_toArray,List.map_cons,List.map_nil]);rfl) ?_;(with_reducible refine (mobs_counted.calls a0 a1 t109 _ A3.out).mono ?_);rintro e w' ⟨rfl,⟨nd,rfl⟩⟩;refine ⟨_,rfl,?_⟩)|((with_reducible refine y0l (N:=18) rfl ?_);refine Kd.R_lit (Kd.int .i64) _ 3 ?hg (N:=18) ?hd (xs:=([1]:List Int)) (inner:=[.int .i64 1]) (ok:=fun _=>True) (okp:=fun _=>True) ?hr ?hp (fun _ hk=>hk) trivial (Below.refl _ _) (zLe _) (by simp) ?_;(case hd=>rfl);(case hg=>rfl);(case hr=>(go_simp;done));(case hp=>exact (Reps.one (show Kd.M (Kd.int .i64) _ _ _ 1 [.int .i64 1] from rfl) (Reps.none _ _)));intro v111 w5 ho6 hb hg_ hnew_;clear hg_ hnew_;(rw [← Ny110.out] at ho6);have n0_:=As0.mk (Kd.R_lower ho6 (y03 (by repeat (with_reducible first|exact HB.out|apply y00))));have n1_:=As0.mk (y05 (by repeat (with_reducible first|exact HB.out|apply y00)) hb);clear HB;have HO112:=n0_;have HB:=n1_;clear n0_ n1_;clear hb ho6))
  go_loopg [7,20] k (fun kq v7 v20 w'=>∃ (x7_1:List Int) (x20_1:Int),v20=.int .i64 x20_1∧As0 (mobs_Count.l0 kq a1 x7_1 a0 x20_1=some (r1,r2))∧As0 (kq≤k)∧As0 (Kd.R (Kd.int .i64) 3 w' w.heap.size (fun _=>True) v7 x7_1)∧As0 (Below w.heap.size w w'))
  case atStart=>exact ⟨(y110),(0),(by rfl),H',⟨zLe _⟩,⟨by (with_reducible repeat (first|apply Kd.R_alloc|apply Kd.R_drewN|apply Kd.R_drew));exact HO112.out⟩,⟨by repeat (with_reducible exact HB.out)⟩⟩
  case round =>
   clear H'
   try clear c1
   try clear p2
   try clear c4
   try clear c4b0
   try clear c4b1
   obtain ⟨x7_1,x20_1,rfl,HA,HK1,HO_7,HB⟩:=hrel;cases gk with
   |zero=>exact absurd HA.out (by simp [mobs_Count.l0])
   |succ k1 =>
    have H:=HA.out;clear HA;simp only [mobs_Count.l0] at H
    by_cases c7:x20_1<a0
    ·rw [if_pos c7] at H
     have c7b0:decide (x20_1<a0)=true:=zDt c7;clear c7;obtain ⟨ji8,hji8⟩:∃ j_:Int,(wrap64 (x20_1+2))=j_:=⟨_,rfl⟩
     replace H:(if 0≤(ji8) then (if (ji8:Int).toNat≤35184372088832 then (mobs_Count.l1 k1 a1 (List.replicate (ji8:Int).toNat 0) a0 x20_1 x7_1 (x7_1.length:Int) 0) else (none)) else (none))=some (r1,r2):=by (rw [hji8] at H;exact H)
     have hji8w:(IntKind.i64.wrap (x20_1+2))=ji8:=(y0a _).trans hji8
     by_cases c9:0≤(ji8)
     ·rw [if_pos c9] at H
      have c9b0:=eq_true c9;have c9b1:decide (0≤(ji8))=true:=zDt c9;clear c9
      by_cases c10:(ji8:Int).toNat≤35184372088832
      ·rw [if_pos c10] at H
       have c10b0:=eq_true c10;have c10b1:decide ((ji8:Int).toNat≤35184372088832)=true:=zDt c10;clear c10;obtain ⟨y114,hy114⟩:∃ y_:List Int,y_=(List.replicate (ji8:Int).toNat 0):=⟨_,rfl⟩
       replace H:(mobs_Count.l1 k1 a1 y114 a0 x20_1 x7_1 (x7_1.length:Int) 0)=some (r1,r2):=by (rw [hy114];with_reducible exact H)
       have Ny114:=As0.mk hy114;clear hy114;have H':=As0.mk H;clear H;go_wp2_with (((with_reducible refine y0l (N:=25) rfl ?_);refine Kd.R_make (Kd.int .i64) _ 3 rfl (N:=25) rfl 29 _ _ rfl ji8 rfl rfl Tra.underlying29 (.int .i64 0) 8 info3 rfl (by decide) (by omega) 0 (ok:=fun _=>True) (okp:=fun _=>True) rfl (fun _ hk=>hk) trivial (zDo (by with_reducible assumption)) (Nat.le_trans (Nat.mul_le_mul_right _ (zDo (by with_reducible assumption):ji8.toNat≤35184372088832)) (by omega)) (Below.refl _ _) (zLe _) ?_;intro v115 w11 ho12 hb hg_ hnew_;clear hg_ hnew_;(rw [← Ny114.out] at ho12);have n0_:=As0.mk (Kd.R_elder' (by (with_reducible repeat (first|apply Kd.R_alloc|apply Kd.R_drewN|apply Kd.R_drew));exact HO_7.out) (Kd.R_base ho12) hb);have n1_:=As0.mk (Kd.R_lower (Kd.R_new' ho12 (Kd.R_lt (by (with_reducible repeat (first|apply Kd.R_alloc|apply Kd.R_drewN|apply Kd.R_drew));exact HO_7.out))) (y03 (by repeat (with_reducible exact HB.out))));have n2_:=As0.mk (y05 (by repeat (with_reducible exact HB.out)) hb);clear HO_7;clear HB;have HO_7:=n0_;have HO116:=n1_;have HB:=n2_;clear n0_ n1_ n2_;clear hb ho12;obtain ⟨Ao13,co13,eo13⟩:=Kd.R_slice HO_7.out;subst eo13))
       go_loopg [28] k1 (fun kq v28 w'=>∃ (x9_2:List Int) (x28_2:Int),v28=.int .i64 x28_2∧As0 (mobs_Count.l1 kq a1 x9_2 a0 x20_1 x7_1 (x7_1.length:Int) x28_2=some (r1,r2))∧As0 (kq≤k1)∧As0 (Kd.R (Kd.int .i64) 3 w' w.heap.size (fun k_=>some k_≠((.slice Ao13 x7_1.length co13):Value).ownBlock) v115 x9_2)∧As0 (Kd.R (Kd.int .i64) 3 w' w.heap.size (fun k_=>some k_≠(v115:Value).ownBlock) (.slice Ao13 x7_1.length co13) x7_1)∧As0 (Below w.heap.size w w'))
       case atStart=>exact ⟨(y114),(0),(by rfl),H',⟨zLe _⟩,⟨by (with_reducible repeat (first|apply Kd.R_alloc|apply Kd.R_drewN|apply Kd.R_drew));exact Kd.R_mono HO116.out (fun _ hk=>hk.2)⟩,⟨by (with_reducible repeat (first|apply Kd.R_alloc|apply Kd.R_drewN|apply Kd.R_drew));exact Kd.R_mono HO_7.out (fun _ hk=>hk.2)⟩,⟨by repeat (with_reducible exact HB.out)⟩⟩
       case round =>
        clear H'
        try clear c1
        try clear p2
        try clear c4
        try clear c4b0
        try clear c4b1
        try clear p6
        try clear c7
        try clear c7b0
        try clear c9
        try clear c9b0
        try clear c9b1
        try clear c10
        try clear c10b0
        try clear c10b1
        try clear p2
        obtain ⟨x9_2,x28_2,rfl,HA,HK2,HO_9,HO_26,HB⟩:=hrel;cases gk with
        |zero=>exact absurd HA.out (by simp [mobs_Count.l1])
        |succ k2 =>
         have H:=HA.out;clear HA;simp only [mobs_Count.l1] at H
         by_cases c14:x28_2<(x7_1.length:Int)
         ·rw [if_pos c14] at H
          have c14b0:decide (x28_2<(x7_1.length:Int))=true:=zDt c14;clear c14
          by_cases c15:0≤x28_2
          ·rw [if_pos c15] at H
           have c15b0:decide (0≤x28_2)=true:=zDt c15;clear c15
           by_cases c16:x28_2<(x7_1.length:Int)
           ·rw [if_pos c16] at H
            have c16b0:decide (x28_2<(x7_1.length:Int))=true:=zDt c16;clear c16
            by_cases c17:x28_2<(x9_2.length:Int)
            ·rw [if_pos c17] at H
             have c17b0:decide (x28_2<(x9_2.length:Int))=true:=zDt c17;clear c17;obtain ⟨y119,hy119⟩:∃ y_:List Int,y_=(x9_2.set (x28_2:Int).toNat (wrap64 ((rd x9_2 x28_2)+(wrap64 (x28_2 * (rd x7_1 x28_2)))))):=⟨_,rfl⟩
             replace H:(if 0≤(wrap64 (x28_2+1)) then (if (wrap64 (x28_2+1))<(x9_2.length:Int) then (mobs_Count.l1 k2 a1 (y119.set ((wrap64 (x28_2+1)):Int).toNat (wrap64 ((rd y119 (wrap64 (x28_2+1)))+(rd x7_1 x28_2)))) a0 x20_1 x7_1 (x7_1.length:Int) (wrap64 (x28_2+1))) else (none)) else (none))=some (r1,r2):=by (have H2_:=(Option.bind_some _ _).symm.trans H;rw [hy119];with_reducible exact H2_)
             have Ny119:=As0.mk hy119;clear hy119;obtain ⟨ji19,hji19⟩:∃ j_:Int,(wrap64 (x28_2+1))=j_:=⟨_,rfl⟩
             replace H:(if 0≤(ji19) then (if (ji19)<(x9_2.length:Int) then (mobs_Count.l1 k2 a1 (y119.set ((ji19):Int).toNat (wrap64 ((rd y119 (ji19))+(rd x7_1 x28_2)))) a0 x20_1 x7_1 (x7_1.length:Int) ji19) else (none)) else (none))=some (r1,r2):=by (rw [hji19] at H;exact H)
             have hji19w:(IntKind.i64.wrap (x28_2+1))=ji19:=(y0a _).trans hji19
             by_cases c20:0≤(ji19)
             ·rw [if_pos c20] at H
              have c20b0:decide (0≤(ji19))=true:=zDt c20;clear c20
              by_cases c21:(ji19)<(x9_2.length:Int)
              ·rw [if_pos c21] at H
               have c21b0:decide ((ji19)<(x9_2.length:Int))=true:=zDt c21;clear c21;obtain ⟨y121,hy121⟩:∃ y_:List Int,y_=(y119.set ((ji19):Int).toNat (wrap64 ((rd y119 (ji19))+(rd x7_1 x28_2)))):=⟨_,rfl⟩
               replace H:(mobs_Count.l1 k2 a1 y121 a0 x20_1 x7_1 (x7_1.length:Int) ji19)=some (r1,r2):=by (rw [hy121];with_reducible exact H)
               have Ny121:=As0.mk hy121;clear hy121;have H':=As0.mk H;clear H;have p117:0≤(x28_2:Int):=zDo (by with_reducible assumption);have q117:x28_2<(x7_1.length:Int):=zDo (by with_reducible assumption);obtain ⟨ad117,e117,hx117_0⟩:=Kd.at_int (Kd.R_reads' HO_26.out).2.2 x28_2 p117 q117;cases e117
               replace p117:=eq_true p117;replace q117:=eq_true q117;obtain ⟨Ao23,co23,eo23⟩:=Kd.R_slice HO_9.out;subst eo23;have p118:0≤(x28_2:Int):=zDo (by with_reducible assumption);have q118:x28_2<(x9_2.length:Int):=zDo (by with_reducible assumption);obtain ⟨ad118,e118,hx118_0⟩:=Kd.at_int (Kd.R_reads' HO_9.out).2.2 x28_2 p118 q118;cases e118
               replace p118:=eq_true p118;replace q118:=eq_true q118;have p18:0≤(x28_2:Int):=zDo (by with_reducible assumption);have q18:(x28_2:Int)<((x9_2.length:Int):Int):=zDo (by with_reducible assumption);obtain ⟨go18,co18,eo18,gb18,gl18,cl18,HG18⟩:=Kd.R_form HO_9.out (by omega)
               (cases eo18)
               have GB18:=As0.mk gb18;have GG18:=As0.mk HG18;clear gb18 gl18 HG18
               (simp only [y14] at hx118_0)
               obtain ⟨hx18_0,hf18_0⟩:=Kd.R_celln 0 HO_9.out (x28_2:Int) p18 q18;replace p18:=eq_true p18;replace q18:=eq_true q18;have HP24:=Kd.R_putg HO_9.out (x28_2:Int) (wrap64 ((rd x9_2 x28_2)+(wrap64 (x28_2 * (rd x7_1 x28_2)))));go_wp2_with (first|((with_reducible refine y2w (t:=3) (p:=41) rfl ?_);refine y2i (t:=3) (p:=41) (v:=?vo_w25) (w1:=(wr.setCell ⟨go18,(x28_2:Int).toNat,none⟩ (.int .i64 (wrap64 ((rd x9_2 x28_2)+(wrap64 (x28_2 * (rd x7_1 x28_2)))))))) ?hg ?ho ?hn ?hr ?_;(case ho=>rfl);(case hg=>rfl);(case hn=>rfl);(case hr=>(go_simp;done));intro w25 hw;have hg:wr.grownBy w25 (some go18):=(by rw [hw];exact HP24.2);have hp_:Kd.R (Kd.int .i64) 3 w25 w.heap.size (fun k_=>some k_≠(.slice (some ad117) x7_1.length co13:Value).ownBlock) (.slice (some ⟨go18,0,none⟩) x9_2.length co23) y119:=(by rw [hw,Ny119.out];exact HP24.1);clear HP24;have n0_:=As0.mk (hp_);have n1_:=As0.mk (Kd.R_after (v:=(.slice (some ⟨go18,0,none⟩) x9_2.length co23)) (v1:=(.slice (some ⟨go18,0,none⟩) x9_2.length co23)) (ok:=(fun _=>True)) (by (with_reducible repeat (first|apply Kd.R_alloc|apply Kd.R_drewN|apply Kd.R_drew));exact Kd.R_mono HO_26.out (fun _ hk=>⟨trivial,hk⟩)) hg (.inl rfl));have n2_:=As0.mk ((by rw [hw];exact y0e (HB.out) GB18.out:Below w.heap.size w w25));clear HO_9;clear HO_26;clear HB;have HO_9:=n0_;have HO_26:=n1_;have HB:=n2_;clear n0_ n1_ n2_;clear hg hw hp_;have p120:0≤((ji19):Int):=zDo (by with_reducible assumption);have q120:(ji19)<(y119.length:Int):=(by have h_:((ji19):Int)<((x9_2.length:Int):Int):=zDo (by with_reducible assumption);(have e_:=(Kd.R_reads' HO_9.out).1;omega));have ql120:(((ji19):Int)<((x9_2.length:Int):Int))=True:=eq_true (zDo (by with_reducible assumption));obtain ⟨ad120,e120,hx120_0⟩:=Kd.at_int (Kd.R_reads' HO_9.out).2.2 (ji19) p120 q120;obtain rfl:(⟨go18,0,none⟩:Addr)=ad120:=(by injection e120);(simp only [y14] at hx120_0);replace p120:=eq_true p120;replace q120:=eq_true q120;have p22:0≤((ji19):Int):=zDo (by with_reducible assumption);have q22:((ji19):Int)<((x9_2.length:Int):Int):=zDo (by with_reducible assumption);obtain ⟨hx22_0,hf22_0⟩:=Kd.R_celln 0 HO_9.out ((ji19):Int) p22 q22;replace p22:=eq_true p22;replace q22:=eq_true q22;obtain ⟨hy26_,hz26_⟩:=Kd.R_celln 0 HO_9.out ((ji19):Int) (zDo (by with_reducible assumption)) (zDo (by with_reducible assumption));have HP26:=Kd.R_putg HO_9.out ((ji19):Int) (wrap64 ((rd y119 (ji19))+(rd x7_1 x28_2))))|((with_reducible refine y2w (t:=3) (p:=49) rfl ?_);refine y2i (t:=3) (p:=49) (v:=?vo_w27) (w1:=(w25.setCell ⟨go18,((ji19):Int).toNat,none⟩ (.int .i64 (wrap64 ((rd y119 (ji19))+(rd x7_1 x28_2)))))) ?hg ?ho ?hn ?hr ?_;(case ho=>rfl);(case hg=>rfl);(case hn=>rfl);(case hr=>(go_simp;done));intro w27 hw;have hg:w25.grownBy w27 (some go18):=(by rw [hw];exact HP26.2);have hp_:Kd.R (Kd.int .i64) 3 w27 w.heap.size (fun k_=>some k_≠(.slice (some ad117) x7_1.length co13:Value).ownBlock) (.slice (some ⟨go18,0,none⟩) x9_2.length co23) y121:=(by rw [hw,Ny121.out];exact HP26.1);clear HP26;have n0_:=As0.mk (hp_);have n1_:=As0.mk (Kd.R_after (v:=(.slice (some ⟨go18,0,none⟩) x9_2.length co23)) (v1:=(.slice (some ⟨go18,0,none⟩) x9_2.length co23)) (ok:=(fun _=>True)) (by (with_reducible repeat (first|apply Kd.R_alloc|apply Kd.R_drewN|apply Kd.R_drew));exact HO_26.out) hg (.inl rfl));have n2_:=As0.mk ((by rw [hw];exact y0e (HB.out) GB18.out:Below w.heap.size w w27));clear HO_9;clear HO_26;clear HB;have HO_9:=n0_;have HO_26:=n1_;have HB:=n2_;clear n0_ n1_ n2_;clear hg hw hp_))
               go_roundg k2
               case measure=>have:=HK1.out;have:=HK2.out;omega
               case rel=>exact ⟨(y121),(ji19),(by rfl),H',⟨by have:=HK1.out;have:=HK2.out;omega⟩,⟨by (with_reducible repeat (first|apply Kd.R_alloc|apply Kd.R_drewN|apply Kd.R_drew));exact HO_9.out⟩,⟨by (with_reducible repeat (first|apply Kd.R_alloc|apply Kd.R_drewN|apply Kd.R_drew));exact Kd.R_mono HO_26.out (fun _ hk=>hk.2)⟩,⟨by repeat (with_reducible exact HB.out)⟩⟩
              ·rw [if_neg c21] at H
               exact absurd H (by simp)
             ·rw [if_neg c20] at H
              exact absurd H (by simp)
            ·rw [if_neg c17] at H
             exact absurd H (by simp)
           ·rw [if_neg c16] at H
            exact absurd H (by simp)
          ·rw [if_neg c15] at H
           exact absurd H (by simp)
         ·rw [if_neg c14] at H
          have c14b0:decide (x28_2<(x7_1.length:Int))=false:=zDf c14;clear c14;have H':=As0.mk H;clear H;go_wp2
          go_roundg k2
          case measure=>have:=HK1.out;have:=HK2.out;omega
          case rel=>exact ⟨(x9_2),(wrap64 (x20_1+1)),(by rfl),H',⟨by have:=HK1.out;have:=HK2.out;omega⟩,⟨by (with_reducible repeat (first|apply Kd.R_alloc|apply Kd.R_drewN|apply Kd.R_drew));exact Kd.R_mono HO_9.out (fun _ hk=>trivial)⟩,⟨by repeat (with_reducible exact HB.out)⟩⟩
      ·rw [if_neg c10] at H
       exact absurd H (by simp)
     ·rw [if_neg c9] at H
      exact absurd H (by simp)
    ·rw [if_neg c7] at H
     have c7b0:decide (x20_1<a0)=false:=zDf c7;clear c7
     by_cases c28:0≤a1
     ·rw [if_pos c28] at H
      have c28b0:decide (0≤a1)=true:=zDt c28;clear c28
      by_cases c29:a1<(x7_1.length:Int)
      ·rw [if_pos c29] at H
       have c29b0:decide (a1<(x7_1.length:Int))=true:=zDt c29;clear c29;simp only [Option.some.injEq,Prod.mk.injEq] at H;obtain ⟨rfl,rfl⟩:=H;obtain ⟨Ao30,co30,eo30⟩:=Kd.R_slice HO_7.out;subst eo30;have p113:0≤(a1:Int):=zDo (by with_reducible assumption);have q113:a1<(x7_1.length:Int):=zDo (by with_reducible assumption);obtain ⟨ad113,e113,hx113_0⟩:=Kd.at_int (Kd.R_reads' HO_7.out).2.2 a1 p113 q113;cases e113
       replace p113:=eq_true p113;replace q113:=eq_true q113;go_wp2
       go_ret2
       exact ⟨by rfl,by repeat (with_reducible exact HB.out)⟩
      ·rw [if_neg c29] at H
       exact absurd H (by simp)
     ·rw [if_neg c28] at H
      exact absurd H (by simp)
 ·rw [if_neg c4] at H
  have c4b0:(t109 == 0)=false:=beq_eq_false_iff_ne.mpr c4;have c4b1:(t109 != 0)=true:=bne_iff_ne.mpr c4;simp only [Option.some.injEq,Prod.mk.injEq] at H;obtain ⟨rfl,rfl⟩:=H;go_enter Tra.func16,Tra.ntmps16
  go_wp2_with (((with_reducible refine y04 (f:=45) rfl ?_);refine y0h (some 14) rfl rfl Tra.func45 (by kernel_rfl) rfl #[.int .i64 a0,.int .i64 a1] rfl (by (try simp only [List.map_toArray,List.map_cons,List.map_nil]);rfl) ?_;(with_reducible refine (mobs_counted.calls a0 a1 t109 _ A3.out).mono ?_);rintro e w' ⟨rfl,⟨nd,rfl⟩⟩;refine ⟨_,rfl,?_⟩))
  go_ret2
  exact ⟨by rfl,by repeat (with_reducible first|exact HB.out|apply y00)⟩
mutual
def mobs_choose.j0:Nat->Int->Int->Bool->Option (Int)
 |0,_,_,_=>none
 |k+1,x0,x1,x13=>if x13=true then (some 0) else (mobs_choose.l0 k x0 1 x1 0)
def mobs_choose.l0:Nat->Int->Int->Int->Int->Option (Int)
 |0,_,_,_,_=>none
 |k+1,x0,x5,x14,x15=>if x15<x14 then (if (wrap64 (x15+1))=0 then (none) else (mobs_choose.l0 k x0 (wrap64 (Int.tdiv (wrap64 (x5 * (wrap64 (x0 - x15)))) (wrap64 (x15+1)))) x14 (wrap64 (x15+1)))) else (some x5)
end
def mobs_choose.f (k:Nat) (a0:Int) (a1:Int):Option (Int):=if a1<0 then (mobs_choose.j0 k a0 a1 true) else (mobs_choose.j0 k a0 a1 (decide (a1 > a0)))
theorem mobs_choose.calls (k:Nat) (a0:Int) (a1:Int) (r:Int) (w:World) (h:mobs_choose.f k a0 a1=some r) :
  Calls Tra.prog 47 #[.int .i64 a0,.int .i64 a1] w fun e w'=>e=.returned (.int .i64 r)∧Drawn0 w w':=by
 have H:(if a1<0 then (mobs_choose.j0 k a0 a1 true) else (mobs_choose.j0 k a0 a1 (decide (a1 > a0))))=some r:=h;clear h;have HC3:=As0.mk H;clear H;go_enter Tra.func47,Tra.ntmps47
 go_upto_region 1 with (fail)
 go_cut [13] (fun v13 wc=>∃ (kq:Nat) (x13_2:Bool),v13=.bool x13_2∧As0 (mobs_choose.j0 kq a0 a1 x13_2=some r)∧As0 (kq≤k)∧Drawn0 w wc)
 case first =>
  have H:=HC3.out;clear HC3
  by_cases c4:a1<0
  ·rw [if_pos c4] at H
   have c4b0:decide (a1<0)=true:=zDt c4;clear c4
   (skip)
   have H':=As0.mk H;clear H;go_wp2
   go_meet
   case rel=>exact ⟨_,(true),(by rfl),H',⟨by omega⟩,by repeat (exact Drawn0.refl _)⟩
  ·rw [if_neg c4] at H
   have c4b0:decide (a1<0)=false:=zDf c4;clear c4
   (skip)
   have H':=As0.mk H;clear H;go_wp2
   go_meet
   case rel=>exact ⟨_,(decide (a1 > a0)),(by rfl),H',⟨by omega⟩,by repeat (exact Drawn0.refl _)⟩
 case rest =>
  clear HC3
  try clear p2
  try clear c4
  try clear c4b0
  obtain ⟨kq,x13_2,rfl,HA,HJ2,⟨mc2,rfl⟩⟩:=hcut;cases kq with
  |zero=>exact absurd HA.out (by simp [mobs_choose.j0])
  |succ kj2 =>
   have H:=HA.out;clear HA;simp only [mobs_choose.j0] at H
   by_cases c5:x13_2=true
   ·subst c5
    have H1:(some 0)=some r:=by rw [if_pos rfl] at H;exact H
    clear H;have H:=H1;clear H1;obtain rfl:=zSi H;go_wp2
    go_ret
    exact ⟨by rfl,by repeat (first|exact Drawn0.refl _|apply Drawn0.step)⟩
   ·replace c5:=Bool.eq_false_iff.mpr c5
    subst c5;have H1:(mobs_choose.l0 kj2 a0 1 a1 0)=some r:=by rw [if_neg (show ¬ (false=true) by decide)] at H;exact H
    clear H;have H:=H1;clear H1;have H':=As0.mk H;clear H;go_wp2
    go_loopg [5,15] kj2 (fun kq v5 v15 w'=>∃ (x5_2:Int) (x15_2:Int),v5=.int .i64 x5_2∧v15=.int .i64 x15_2∧As0 (mobs_choose.l0 kq a0 x5_2 a1 x15_2=some r)∧As0 (kq≤kj2)∧Drawn0 w w')
    case atStart=>exact ⟨(1),(0),(by rfl),(by rfl),H',⟨zLe _⟩,by repeat (first|exact Drawn0.refl _|apply Drawn0.step)⟩
    case round =>
     clear H'
     try clear c2
     try clear p2
     try clear c4
     try clear c4b0
     try clear c5
     try clear p2
     obtain ⟨x5_2,x15_2,rfl,rfl,HA,HK2,⟨m2,rfl⟩⟩:=hrel;cases gk with
     |zero=>exact absurd HA.out (by simp [mobs_choose.l0])
     |succ k2 =>
      have H:=HA.out;clear HA;simp only [mobs_choose.l0] at H
      by_cases c6:x15_2<a1
      ·rw [if_pos c6] at H
       have c6b0:decide (x15_2<a1)=true:=zDt c6;clear c6
       by_cases c7:(wrap64 (x15_2+1))=0
       ·rw [if_pos c7] at H
        exact absurd H (by simp)
       ·rw [if_neg c7] at H
        have c7b0:((wrap64 (x15_2+1)) == 0)=false:=beq_eq_false_iff_ne.mpr c7;have c7b1:((wrap64 (x15_2+1)) != 0)=true:=bne_iff_ne.mpr c7;have H':=As0.mk H;clear H;go_wp2
        go_roundg k2
        case measure=>have:=HJ2.out;have:=HK2.out;omega
        case rel=>exact ⟨(wrap64 (Int.tdiv (wrap64 (x5_2 * (wrap64 (a0 - x15_2)))) (wrap64 (x15_2+1)))),(wrap64 (x15_2+1)),(by rfl),(by rfl),H',⟨by have:=HJ2.out;have:=HK2.out;omega⟩,by repeat (first|exact Drawn0.refl _|apply Drawn0.step)⟩
      ·rw [if_neg c6] at H
       have c6b0:decide (x15_2<a1)=false:=zDf c6;clear c6;obtain rfl:=zSi H;go_wp2
       go_ret
       exact ⟨by rfl,by repeat (first|exact Drawn0.refl _|apply Drawn0.step)⟩
def mobs_Plain.f (k:Nat) (a0:Int) (a1:Int):Option (Int × Int):=(mobs_counted.f a0 a1).bind fun t122=>(if t122=0 then (if a0=0 then (some (1,0)) else ((mobs_choose.f k a0 a1).bind fun t123=>((mobs_choose.f k a0 (wrap64 (a1 - 1))).bind fun t124=>(some (wrap64 (Int.tdiv (wrap64 (t123 * t124)) a0),0))))) else (some (0,t122)))
theorem mobs_Plain.calls (k:Nat) (a0:Int) (a1:Int) (r1:Int) (r2:Int) (w:World) (h:mobs_Plain.f k a0 a1=some (r1,r2)) :
  Calls Tra.prog 18 #[.int .i64 a0,.int .i64 a1] w fun e w'=>e=.returned (.tuple #[.int .i64 r1,.int .i64 r2])∧Drawn0 w w':=by
 have H:((mobs_counted.f a0 a1).bind fun t122=>(if t122=0 then (if a0=0 then (some (1,0)) else ((mobs_choose.f k a0 a1).bind fun t123=>((mobs_choose.f k a0 (wrap64 (a1 - 1))).bind fun t124=>(some (wrap64 (Int.tdiv (wrap64 (t123 * t124)) a0),0))))) else (some (0,t122))))=some (r1,r2):=h;clear h;replace H:=Option.bind_eq_some_iff.mp H;obtain ⟨t122,A30,H⟩:=H;replace H:(if t122=0 then (if a0=0 then (some (1,0)) else ((mobs_choose.f k a0 a1).bind fun t123=>((mobs_choose.f k a0 (wrap64 (a1 - 1))).bind fun t124=>(some (wrap64 (Int.tdiv (wrap64 (t123 * t124)) a0),0))))) else (some (0,t122)))=some (r1,r2):=H;have A3:=As0.mk A30;clear A30
 by_cases c4:t122=0
 ·rw [if_pos c4] at H
  have c4b0:(t122 == 0)=true:=beq_iff_eq.mpr c4;have c4b1:(t122 != 0)=false:=bne_eq_false_iff_eq.mpr c4;clear c4
  by_cases c5:a0=0
  ·rw [if_pos c5] at H
   have c5b0:(a0 == 0)=true:=beq_iff_eq.mpr c5;have c5b1:(a0 != 0)=false:=bne_eq_false_iff_eq.mpr c5;clear c5;simp only [Option.some.injEq,Prod.mk.injEq] at H;obtain ⟨rfl,rfl⟩:=H;go_enter Tra.func18,Tra.ntmps18
   go_wp2_with (((with_reducible refine y04 (f:=45) rfl ?_);refine y0h (some 9) rfl rfl Tra.func45 (by kernel_rfl) rfl #[.int .i64 a0,.int .i64 a1] rfl (by (try simp only [List.map_toArray,List.map_cons,List.map_nil]);rfl) ?_;(with_reducible refine (mobs_counted.calls a0 a1 t122 _ A3.out).mono ?_);rintro e w' ⟨rfl,⟨nd,rfl⟩⟩;refine ⟨_,rfl,?_⟩))
   go_ret2
   exact ⟨by rfl,by repeat (first|exact Drawn0.refl _|apply Drawn0.step)⟩
  ·rw [if_neg c5] at H
   have c5b0:(a0 == 0)=false:=beq_eq_false_iff_ne.mpr c5;have c5b1:(a0 != 0)=true:=bne_iff_ne.mpr c5;replace H:=Option.bind_eq_some_iff.mp H;obtain ⟨t123,A60,H⟩:=H;replace H:((mobs_choose.f k a0 (wrap64 (a1 - 1))).bind fun t124=>(some (wrap64 (Int.tdiv (wrap64 (t123 * t124)) a0),0)))=some (r1,r2):=H;have A6:=As0.mk A60;clear A60;replace H:=Option.bind_eq_some_iff.mp H;obtain ⟨t124,A70,H⟩:=H;replace H:(some (wrap64 (Int.tdiv (wrap64 (t123 * t124)) a0),0))=some (r1,r2):=H;have A7:=As0.mk A70;clear A70;simp only [Option.some.injEq,Prod.mk.injEq] at H;obtain ⟨rfl,rfl⟩:=H;go_enter Tra.func18,Tra.ntmps18
   go_wp2_with (first|((with_reducible refine y04 (f:=45) rfl ?_);refine y0h (some 9) rfl rfl Tra.func45 (by kernel_rfl) rfl #[.int .i64 a0,.int .i64 a1] rfl (by (try simp only [List.map_toArray,List.map_cons,List.map_nil]);rfl) ?_;(with_reducible refine (mobs_counted.calls a0 a1 t122 _ A3.out).mono ?_);rintro e w' ⟨rfl,⟨nd,rfl⟩⟩;refine ⟨_,rfl,?_⟩)|((with_reducible refine y04 (f:=47) rfl ?_);refine y0h (some 17) rfl rfl Tra.func47 (by kernel_rfl) rfl #[.int .i64 a0,.int .i64 a1] rfl (by (try simp only [List.map_toArray,List.map_cons,List.map_nil]);rfl) ?_;(with_reducible refine (mobs_choose.calls k a0 a1 t123 _ A6.out).mono ?_);rintro e w' ⟨rfl,⟨nd,rfl⟩⟩;refine ⟨_,rfl,?_⟩)|((with_reducible refine y04 (f:=47) rfl ?_);refine y0h (some 21) rfl rfl Tra.func47 (by kernel_rfl) rfl #[.int .i64 a0,.int .i64 (wrap64 (a1 - 1))] rfl (by (try simp only [List.map_toArray,List.map_cons,List.map_nil]);rfl) ?_;(with_reducible refine (mobs_choose.calls k a0 (wrap64 (a1 - 1)) t124 _ A7.out).mono ?_);rintro e w' ⟨rfl,⟨nd,rfl⟩⟩;refine ⟨_,rfl,?_⟩))
   go_ret2
   exact ⟨by rfl,by repeat (first|exact Drawn0.refl _|apply Drawn0.step)⟩
 ·rw [if_neg c4] at H
  have c4b0:(t122 == 0)=false:=beq_eq_false_iff_ne.mpr c4;have c4b1:(t122 != 0)=true:=bne_iff_ne.mpr c4;simp only [Option.some.injEq,Prod.mk.injEq] at H;obtain ⟨rfl,rfl⟩:=H;go_enter Tra.func18,Tra.ntmps18
  go_wp2_with (((with_reducible refine y04 (f:=45) rfl ?_);refine y0h (some 9) rfl rfl Tra.func45 (by kernel_rfl) rfl #[.int .i64 a0,.int .i64 a1] rfl (by (try simp only [List.map_toArray,List.map_cons,List.map_nil]);rfl) ?_;(with_reducible refine (mobs_counted.calls a0 a1 t122 _ A3.out).mono ?_);rintro e w' ⟨rfl,⟨nd,rfl⟩⟩;refine ⟨_,rfl,?_⟩))
  go_ret2
  exact ⟨by rfl,by repeat (first|exact Drawn0.refl _|apply Drawn0.step)⟩
def mobs_IsParting.l0:Nat->Int->List Int->Int->Int->Option (Bool)
 |0,_,_,_,_=>none
 |k+1,x3,x9,x10,x11=>if x11<x10 then (if 0≤x11 then (if x11<(x9.length:Int) then (if (rd x9 x11)<0 then (some false) else (if (rd x9 x11) > x3 then (some false) else (mobs_IsParting.l0 k (mx x3 (wrap64 ((rd x9 x11)+1))) x9 x10 (wrap64 (x11+1))))) else (none)) else (none)) else (some true)
def mobs_IsParting.f (k:Nat) (l0:List Int):Option (Bool):=if (l0.length:Int) > 12 then (some false) else (mobs_IsParting.l0 k 0 l0 (l0.length:Int) 0)
theorem mobs_IsParting.calls (k:Nat) (A0:Option Addr) (c0:Nat) (l0:List Int) (r:Bool) (w:World) (hr0:Kd.C (Kd.int .i64) w A0 l0.length l0) (hc0:l0.length≤c0) (h:mobs_IsParting.f k l0=some r) :
  Calls Tra.prog 40 #[.slice A0 l0.length c0] w fun e w'=>e=.returned (.bool r)∧Below w.heap.size w w':=by
 have HR0:=As0.mk hr0;have HC0:=As0.mk hc0;clear hr0 hc0;have HB:=As0.mk (Below.refl w.heap.size w);have H:(if (l0.length:Int) > 12 then (some false) else (mobs_IsParting.l0 k 0 l0 (l0.length:Int) 0))=some r:=h;clear h
 by_cases c2:(l0.length:Int) > 12
 ·rw [if_pos c2] at H
  have c2b0:decide (12<(l0.length:Int))=true:=zDt c2;have c2b1:decide (12<l0.length)=true:=zDt (by omega);clear c2;obtain rfl:=zSi H;go_enter Tra.func40,Tra.ntmps40
  go_wp2
  go_ret
  exact ⟨by rfl,by repeat (with_reducible exact HB.out)⟩
 ·rw [if_neg c2] at H
  have c2b0:decide (12<(l0.length:Int))=false:=zDf c2;have c2b1:decide (12<l0.length)=false:=zDf (by omega);clear c2;have H':=As0.mk H;clear H;go_enter Tra.func40,Tra.ntmps40
  go_wp2
  go_loopg [3,11] k (fun kq v3 v11 w'=>∃ (x3_1:Int) (x11_1:Int),v3=.int .i64 x3_1∧v11=.int .i64 x11_1∧As0 (mobs_IsParting.l0 kq x3_1 l0 (l0.length:Int) x11_1=some r)∧As0 (kq≤k)∧As0 (Below w.heap.size w w'))
  case atStart=>exact ⟨(0),(0),(by rfl),(by rfl),H',⟨zLe _⟩,⟨by repeat (with_reducible exact HB.out)⟩⟩
  case round =>
   clear H'
   try clear c2
   try clear c2b0
   try clear c2b1
   try clear p2
   obtain ⟨x3_1,x11_1,rfl,rfl,HA,HK1,HB⟩:=hrel;cases gk with
   |zero=>exact absurd HA.out (by simp [mobs_IsParting.l0])
   |succ k1 =>
    have H:=HA.out;clear HA;simp only [mobs_IsParting.l0] at H
    by_cases c3:x11_1<(l0.length:Int)
    ·rw [if_pos c3] at H
     have c3b0:decide (x11_1<(l0.length:Int))=true:=zDt c3;clear c3
     by_cases c4:0≤x11_1
     ·rw [if_pos c4] at H
      have c4b0:decide (0≤x11_1)=true:=zDt c4;clear c4
      by_cases c5:x11_1<(l0.length:Int)
      ·rw [if_pos c5] at H
       have c5b0:decide (x11_1<(l0.length:Int))=true:=zDt c5;clear c5
       by_cases c6:(rd l0 x11_1)<0
       ·rw [if_pos c6] at H
        have c6b0:decide ((rd l0 x11_1)<0)=true:=zDt c6;clear c6;obtain rfl:=zSi H;have p125:0≤(x11_1:Int):=zDo (by with_reducible assumption);have q125:x11_1<(l0.length:Int):=zDo (by with_reducible assumption);obtain ⟨ad125,e125,hx125_0⟩:=Kd.at_int HR0.out x11_1 p125 q125;cases e125
        replace hx125_0:=(HB.out.cell (World.block_lt_of_cell? w _ hx125_0)).trans hx125_0;replace p125:=eq_true p125;replace q125:=eq_true q125;go_wp2
        go_ret
        exact ⟨by rfl,by repeat (with_reducible exact HB.out)⟩
       ·rw [if_neg c6] at H
        have c6b0:decide ((rd l0 x11_1)<0)=false:=zDf c6;clear c6
        by_cases c7:(rd l0 x11_1) > x3_1
        ·rw [if_pos c7] at H
         have c7b0:decide (x3_1<(rd l0 x11_1))=true:=zDt c7;clear c7;obtain rfl:=zSi H;have p125:0≤(x11_1:Int):=zDo (by with_reducible assumption);have q125:x11_1<(l0.length:Int):=zDo (by with_reducible assumption);obtain ⟨ad125,e125,hx125_0⟩:=Kd.at_int HR0.out x11_1 p125 q125;cases e125
         replace hx125_0:=(HB.out.cell (World.block_lt_of_cell? w _ hx125_0)).trans hx125_0;replace p125:=eq_true p125;replace q125:=eq_true q125;go_wp2
         go_ret
         exact ⟨by rfl,by repeat (with_reducible exact HB.out)⟩
        ·rw [if_neg c7] at H
         have c7b0:decide (x3_1<(rd l0 x11_1))=false:=zDf c7;clear c7;obtain ⟨ji8,hji8⟩:∃ j_:Int,(mx x3_1 (wrap64 ((rd l0 x11_1)+1)))=j_:=⟨_,rfl⟩
         replace H:(mobs_IsParting.l0 k1 ji8 l0 (l0.length:Int) (wrap64 (x11_1+1)))=some r:=by (rw [hji8] at H;exact H)
         have hji8_:(if x3_1<(wrap64 ((rd l0 x11_1)+1)) then (wrap64 ((rd l0 x11_1)+1)) else x3_1)=ji8:=hji8;have H':=As0.mk H;clear H;have p125:0≤(x11_1:Int):=zDo (by with_reducible assumption);have q125:x11_1<(l0.length:Int):=zDo (by with_reducible assumption);obtain ⟨ad125,e125,hx125_0⟩:=Kd.at_int HR0.out x11_1 p125 q125;cases e125
         replace hx125_0:=(HB.out.cell (World.block_lt_of_cell? w _ hx125_0)).trans hx125_0;replace p125:=eq_true p125;replace q125:=eq_true q125;go_wp2
         go_roundg k1
         case measure=>have:=HK1.out;omega
         case rel=>exact ⟨(ji8),(wrap64 (x11_1+1)),(by rfl),(by rfl),H',⟨by have:=HK1.out;omega⟩,⟨by repeat (with_reducible exact HB.out)⟩⟩
      ·rw [if_neg c5] at H
       exact absurd H (by simp)
     ·rw [if_neg c4] at H
      exact absurd H (by simp)
    ·rw [if_neg c3] at H
     have c3b0:decide (x11_1<(l0.length:Int))=false:=zDf c3;clear c3;obtain rfl:=zSi H;go_wp2
     go_ret
     exact ⟨by rfl,by repeat (with_reducible exact HB.out)⟩
end Go.Proofs.Ytdhgeondbnpeoaa.P
