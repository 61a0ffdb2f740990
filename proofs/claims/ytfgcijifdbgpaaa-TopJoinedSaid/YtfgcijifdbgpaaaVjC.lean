/- The theorem of TopJoined, proved; part 3 of 7: its texts, merged. -/
import Derived.Test.YtfgcijifdbgpaaaVjB
import Derived.KernelRfl
import Derived.Below
import Derived.Deep.Draws
import Derived.Deep.AppendLies
import Derived.Maps.AppendAt
import Derived.OwnWalk
import Derived.Laws.BytesArg
import Derived.Laws.MakeOwn
import Derived.Laws.OwnMore
import Derived.Deep.OwnRows
import Derived.Tactics
import Derived.Lib.ConvBytes
import Derived.Laws.Slices
import Derived.WalkKit
import Derived.RowKit3
import Derived.Deep.LoopGhost
import Derived.Deep.QuietTactic
import Derived.BigQuiet
import Derived.WideLaws
import Derived.Deep.DeepCutAuto
import Derived.Deep.CutBlock
import Derived.Deep.RegionHeld3
import Derived.Laws.Rows
import Derived.Lib.AppendStr
import Derived.ArgAppend
import Derived.Laws.IdiomCopy
import Derived.RowKit
import Derived.OrdersHeld
import Derived.Laws.BitsLemmas
import Derived.Laws.StructEq
import Derived.Maps.OwnOps
import Derived.DeepKeys4
import Derived.WalkSpells
import Derived.Maps.Keyed
set_option linter.unnecessarySimpa false
set_option linter.defProp false
set_option linter.unusedVariables false
set_option linter.unusedSimpArgs false
set_option linter.unusedSectionVars false
set_option maxRecDepth 100000
set_option maxHeartbeats 8000000
namespace Go.Mt
open Go.Tr Go.Conc Go.ConcN Go.Proofs
section
variable {P:Program} {F:Array Func} {S T T':FuncId->Bool} {kdOf:FuncId->y17}
theorem sg_end {Q:Program} {main:Bool} {f:FuncId} {fn:Func} (hf:Q.funcs[f]?=some fn) (hi:Q.inits.idxOf? f=none) (hres:y7l fn=true) (tm:Array Value) (td:List Item) (w:World) :
  ∃ es,stepG Q true (G (frm f tm td .returning) []) w=.ended (.done (y2q fn tm)) w es∧∀ e ∈ es,False:=by
 refine ⟨#[],?_,by simp⟩;have e1:(results fn tm).run Q w=.ok (y2q fn tm) w:=by rw [Go.Tr.results_tmp hres];rfl
 have e2:(results fn tm).events Q w #[]=#[]:=by rw [Go.Tr.results_tmp hres];rfl
 simp [G,frm,stepG,unwind,doReturn,hf,e1,e2,hi,seen,GStep.after]
theorem yg3 (Sh:Loc->Prop) (B:Nat):PstD 0 Sh 1 B #[] :=
 ⟨past_nil.clean,fun i a ha=>by simp [touchAt,Trace.act?] at ha,past_nil.over,rfl,by simp,fun i op x hi=>by simp at hi,by simp,by simp⟩
theorem yit (Sh:Loc->Prop) (a:Goroutine) (w:World):Fr Try.prog Sh 0 #[a] a w #[] (fun _=>0):=⟨rfl,leavers_one _ _,yg3 Sh _⟩
theorem hyb_run {Rd:Nat->Prop} {al:List (Nat × Nat)} {L0:List Nat} {W u0:World} (hQ:wf P F=Try.prog) (hC:y34 P F S T kdOf) (hC':y34 P P.funcs T' T' kdOf) (hSp:∀ Post',(∀ f t u τ,Post' f t u->Post' f t (retape u τ))->y9b W P F S T kdOf ⟨W.heap.size,Rd,fun _=>False,al,fun _ _ _=>False⟩ [] [] Post')
  {f:FuncId} {fn:Func} (hi:Try.prog.inits.idxOf? f=none) (hf:P.funcs[f]?=some fn) (hS:S f=true) (hT:T' f=true) (hres:y7l fn=true) {args args':Array Value} (ha:RelPs ⟨W.heap.size,Rd,fun _=>False,al,fun _ _ _=>False⟩ L0 args args') (hW:WRel ⟨W.heap.size,Rd,fun _=>False,al,fun _ _ _=>False⟩ L0 u0 W)
  {Post:Value->World->Prop} (hP:∀ v u τ,Post v u->Post v (retape u τ)) (hc:∀ τ,Calls P f args (retape u0 τ) fun e u'=>∃ v,e=.returned v∧Post v u') :
  ∃ M last o w' t',runNT Try.prog (M+1) (solo (G (Frame.enter Try.prog f args' .normal) []) W) #[]=(.ended o w',t')∧runN Try.prog M (solo (G (Frame.enter Try.prog f args' .normal) []) W)=.next last∧step Try.prog last=.ended o w' ∧
   Go.Conc.Good Try.prog (fun v' w'=>∃ L v u,(if oneB P f=true then RelP ⟨W.heap.size,Rd,fun _=>False,al,fun _ _ _=>False⟩ L v v' else RelV ⟨W.heap.size,Rd,fun _=>False,al,fun _ _ _=>False⟩ L v v')∧WRel ⟨W.heap.size,Rd,fun _=>False,al,fun _ _ _=>False⟩ L u w'∧Kept W.heap.size W w'∧Post v u) last o w' t':=by
 let K:Cfg:=⟨W.heap.size,Rd,fun _=>False,al,fun _ _ _=>False⟩
 obtain ⟨fn',c,hf',hb,hnm,hcode,hresB,hpar⟩:=(hC.calm f hS).fn;obtain rfl:fn=fn':=zSi (hf.symm.trans hf');obtain ⟨fn2,c2,hf2,hb2,_,hcode',_⟩:=(hC'.calm f hT).fn;obtain rfl:fn=fn2:=zSi (hf.symm.trans hf2);obtain rfl:c=c2:=zSi (hb.symm.trans hb2);let Post':FuncId->Array Value->World->Prop:=fun f' tm u=>f'=f∧Post (y2q fn tm) u
 have hP':∀ f t u τ,Post' f t u->Post' f t (retape u τ):=fun f t u τ h=>⟨h.1,hP _ _ _ h.2⟩
 have h0:∀ T,∃ m fr' u',runN P m (lone (Frame.enter P f args .normal) [c0] (retape u0 T))=.next (lone fr' [c0] u')∧FinF fr'∧Post' fr'.fn fr'.tmps u':=by
  intro T;obtain ⟨e,w',fr,⟨v,rfl,hp⟩,hcomes,hfn,hleave⟩:=hc T [c0];obtain ⟨hm,hd,hk,fn2,hf2,hr⟩:=hleave;obtain ⟨n,hn⟩:=hcomes;rw [hfn] at hf2;obtain rfl:fn=fn2:=zSi (hf.symm.trans hf2);rw [Go.Tr.results_tmp hres] at hr;simp only [Sem.run] at hr;injection hr with hr _
  exact ⟨n,fr,w',hn,.inl hm,hfn,hr ▸ hp⟩
 have e1:=y3g hf hb args;have hft:Try.prog.funcs[f]?=some fn:=by
  rw [← hQ];exact (hC.same f hS).trans hf
 have e2:=y3g hft hb args';have hfq:(wf P P.funcs).funcs[f]?=some fn:=hf;have hsim':Sims P T' T' kdOf K [] [] [c0] L0 (G (Frame.enter P f args .normal) [c0]) (G (frm f (args' ++ Array.replicate (fn.ntmps - args'.size) undef) [.code c] .run) []):=by
  rw [e1];exact ⟨f,_,_,[.code c],.run,[],[],rfl,rfl,.enter ha fn.ntmps,by simp [y3a,hcode'],hT,.nil,.inl rfl⟩
 have hlt:=y6x hC' (fun _ h=>h) hP' h0 hsim' hW;have hsim:Sims P S T kdOf K [] [] [c0] L0 (G (Frame.enter P f args .normal) [c0]) (G (Frame.enter Try.prog f args' .normal) []):=by
  rw [e1,e2];exact ⟨f,_,_,[.code c],.run,[],[],rfl,rfl,.enter ha fn.ntmps,by simp [y3a,hcode],hS,.nil,.inl rfl⟩
 have hsh:ShI W K L0 (fun l=>l.isMemory=false) W:=by
  have hno:∀ (l:Loc) (b:Nat),l.isMemory=false->inB b l->False:=fun l b h1 h2=>by cases l<;>first|exact h2|cases h1
  exact ⟨Kept.refl _ _,fun l h=>h,fun l b h1 h2=>(hno l b h1 h2).elim,fun b _ l h1 h2=>hno l b h2 h1,fun b _ l h1 h2=>hno l b h2 h1,fun _ b _ _ l h1 h2=>hno l b h2 h1,fun _ b _ _ l h1 h2=>hno l b h2 h1⟩
 obtain ⟨N1,m1,t1,hr1,gs,w,sl,q,Sh,L,fr,g',u,hm,hF,⟨f1,tm,tm',td,m,cs,cs',hl,rfl,ht,hcalm,hSf,hstk,hmm⟩,hW1,hfin,⟨hf1,hp⟩,hI⟩ :=
  (hybrid (K:=K) (fun b (h:False)=>h) hQ hC (hSp _ hP') hP' hlt).1 L0 _ #[G (Frame.enter Try.prog f args' .normal) []] W #[] _ _ none hsim hW hsh (yit _ _ _)
 subst hm;obtain ⟨hfr,hcs⟩:=y79 hl;have hcs0:cs=[]:=by
  cases cs with
  |nil=>rfl
  |cons x xs =>
   have:=congrArg List.length hcs;simp at this
 subst hcs0;subst hfr;obtain rfl:f1=f:=hf1;cases hstk
 have hrv:=y3n (P:=P) (F:=F) ht hresB;rw [Go.Tr.results_tmp hres,Go.Tr.results_tmp hres] at hrv;have hval:if oneB P f1=true then RelP K L (y2q fn tm) (y2q fn tm') else RelV K L (y2q fn tm) (y2q fn tm'):=by
  have hone:oneB P f1=(fn.results.size == 1):=by simp [oneB,hf]
  rw [hone];cases hrv with
  |pure h=>exact h
  |doomed h =>
   obtain ⟨_,_,e,_⟩:=h default;cases e
 let PC:Value->World->Prop:=fun v' w'=>∃ L v u,(if oneB P f1=true then RelP K L v v' else RelV K L v v')∧WRel K L u w'∧Kept W.heap.size W w'∧Post v u
 have hpc:∀ d,PC (y2q fn tm') (w.at d):=fun d=>⟨L,y2q fn tm,u,hval,hW1.congr rfl rfl rfl rfl rfl rfl,⟨hI.kept.os,hI.kept.output,hI.kept.tape,hI.kept.size,hI.kept.old⟩,hp⟩
 have hend:∀ (w1:World) td,AtRel w w1->AtEnd Try.prog Sh w.heap.size PC (G (frm f1 tm' td .returning) []) w1:=by
  rintro w1 td ⟨d,rfl⟩
  obtain ⟨es,he,hno⟩:=sg_end (main:=true) hft hi hres tm' td (w.at d);exact ⟨rfl,_,es,he,fun e he=>(hno e he).elim,hpc d⟩
 have hgoes:∃ n,Goes Try.prog true AtRel (fun w w' es=>w'=w∧es=#[]) (AtEnd Try.prog Sh w.heap.size PC) n (G (frm f1 tm' (td ++ tail [] []) m) []) w:=by
  rcases hmm with rfl|rfl
  ·have htd:td=[]:=by
    rcases hfin with h|⟨_,h⟩
    ·cases h
    ·exact h
   subst htd;refine ⟨1,Goes.step rfl fun w1 r=>?_⟩;show (stepG Try.prog true (G (frm f1 tm' [] .run) []) w1).goes _;rw [y5q];refine ⟨⟨rfl,rfl⟩,fun w2 r2=>hend w2 _ (atRel_trans _ _ _ r r2)⟩
  ·exact ⟨0,fun w1 r=>hend w1 _ r⟩
 obtain ⟨n,hgoes⟩:=hgoes;obtain ⟨N,last,o,w',t',h1,h2,h3,h4⟩:=beside_ends (Post:=PC) (Shun:=Sh) (B:=w.heap.size) (D:=fun w w' es=>w'=w∧es=#[]) (fun w w' es h e he=>by rw [h.2] at he;simp at he) hF.g0 hF.lv hF.pst.to.past hgoes (sl:=sl);refine ⟨N1+N,last,o,w',t',?_,?_,h3,h4⟩
 ·rw [show N1+N+1=N1+(N+1) by omega]
  exact (y9w _ N1 (N+1) _ _ _ _ hr1).trans h1
 ·have hn1:runN Try.prog N1 (solo (G (Frame.enter Try.prog f1 args' .normal) []) W)=.next (crowd gs w sl):=by
   rw [← runNT_fst _ _ _ #[]];exact congrArg Prod.fst hr1
  rw [runN_add,hn1];exact h2
end
end Go.Mt
namespace Go.Proofs
open Go
def Tra.f9:Go.Func :=
{ name := "droveway/mobs.Meet", origin := "", params:=#[29,29],resultTypes:=#[29,29,24],nfree:=0,ntmps:=18,
  results:=#[Go.ResultVar.tmp 4,Go.ResultVar.tmp 5,Go.ResultVar.tmp 6],
  body:=some ((Go.Code.region 0 #[{ dst:=some 4,op:=Go.Op.assign (Go.Operand.const (Go.Value.slice none 0 0)),type:=29,pos := "", after:=#[],guard:=none },{ dst:=some 5,op:=Go.Op.assign (Go.Operand.const (Go.Value.slice none 0 0)),type:=29,pos := "", after:=#[],guard:=none },{ dst:=some 6,op:=Go.Op.assign (Go.Operand.const (Go.Value.int Go.IntKind.i64 0)),type:=24,pos := "", after:=#[],guard:=none }] false).seq ((Go.Code.region 1 #[{ dst:=some 7,op:=Go.Op.call { callee:=Go.Callee.value (Go.Operand.func 21),args:=#[Go.Operand.tmp 0],argTypes:=#[29] },type:=3,pos := "", after:=#[],guard:=none }] false).seq ((Go.Code.region 2 #[{ dst:=some 7,op:=Go.Op.call { callee:=Go.Callee.value (Go.Operand.func 21),args:=#[Go.Operand.tmp 1],argTypes:=#[29] },type:=3,pos := "", after:=#[],guard:=none }] false).seq ((Go.Code.region 3 #[{ dst:=some 8,op:=Go.Op.buildSlice 79 2 #[(0,Go.Operand.tmp 0),(1,Go.Operand.tmp 1)],type:=79,pos := "", after:=#[],guard:=none },{ dst:=some 9,op:=Go.Op.call { callee:=Go.Callee.value (Go.Operand.func 20),args:=#[Go.Operand.tmp 8],argTypes:=#[79] },type:=24,pos := "", after:=#[{ on:=0,ground:=Go.Ground.data }],guard:=none }] false).seq (((Go.Code.region 4 #[{ dst:=some 10,op:=Go.Op.binOp Go.BinOp.neq 24 (Go.Operand.tmp 9) (Go.Operand.const (Go.Value.int Go.IntKind.i64 0)) 24,type:=4,pos := "", after:=#[],guard:=none }] false).seq (Go.Code.cond (Go.Operand.tmp 10) ((Go.Code.region 5 #[{ dst:=some 4,op:=Go.Op.assign (Go.Operand.const (Go.Value.slice none 0 0)),type:=29,pos := "", after:=#[],guard:=none },{ dst:=some 5,op:=Go.Op.assign (Go.Operand.const (Go.Value.slice none 0 0)),type:=29,pos := "", after:=#[],guard:=none },{ dst:=some 6,op:=Go.Op.assign (Go.Operand.tmp 9),type:=24,pos := "", after:=#[],guard:=none }] false).seq Go.Code.ret) Go.Code.skip)).seq ((Go.Code.region 6 #[{ dst:=some 11,op:=Go.Op.call { callee:=Go.Callee.value (Go.Operand.func 24),args:=#[Go.Operand.tmp 0,Go.Operand.tmp 1],argTypes:=#[29,29] },type:=29,pos := "", after:=#[],guard:=none }] false).seq ((Go.Code.region 7 #[{ dst:=some 12,op:=Go.Op.call { callee:=Go.Callee.value (Go.Operand.func 26),args:=#[Go.Operand.tmp 0,Go.Operand.tmp 1],argTypes:=#[29,29] },type:=29,pos := "", after:=#[],guard:=none }] false).seq ((Go.Code.region 8 #[{ dst:=some 13,op:=Go.Op.assign (Go.Operand.const (Go.Value.slice none 0 0)),type:=29,pos := "", after:=#[],guard:=none }] false).seq ((Go.Code.region 9 #[{ dst:=some 14,op:=Go.Op.call { callee:=Go.Callee.builtin Go.Builtin.append,args:=#[Go.Operand.tmp 13,Go.Operand.tmp 11],argTypes:=#[29,29] },type:=29,pos := "", after:=#[],guard:=none }] false).seq ((Go.Code.region 10 #[{ dst:=some 15,op:=Go.Op.call { callee:=Go.Callee.builtin Go.Builtin.append,args:=#[Go.Operand.tmp 13,Go.Operand.tmp 12],argTypes:=#[29,29] },type:=29,pos := "", after:=#[],guard:=none }] false).seq ((Go.Code.region 11 #[{ dst:=some 4,op:=Go.Op.assign (Go.Operand.tmp 14),type:=29,pos := "", after:=#[],guard:=none },{ dst:=some 5,op:=Go.Op.assign (Go.Operand.tmp 15),type:=29,pos := "", after:=#[],guard:=none },{ dst:=some 6,op:=Go.Op.assign (Go.Operand.const (Go.Value.int Go.IntKind.i64 0)),type:=24,pos := "", after:=#[],guard:=none }] false).seq Go.Code.ret))))))))))),
  norace:=false,file := "", tmpNames:=#["", "", "", "", "", "", "", "", "", "", "", "", "", "", "", "", "", ""] }
def Tra.f21:Go.Func :=
{ name := "droveway/mobs.whole", origin := "", params:=#[29],resultTypes:=#[3],nfree:=0,ntmps:=11,
  results:=#[Go.ResultVar.tmp 1],
  body:=some ((Go.Code.region 0 #[{ dst:=some 1,op:=Go.Op.assign (Go.Operand.const (Go.Value.int Go.IntKind.i64 0)),type:=3,pos := "", after:=#[],guard:=none }] false).seq ((Go.Code.region 5 #[{ dst:=some 3,op:=Go.Op.call { callee:=Go.Callee.builtin Go.Builtin.len,args:=#[Go.Operand.tmp 0],argTypes:=#[29] },type:=3,pos := "", after:=#[],guard:=none },{ dst:=some 4,op:=Go.Op.slice 29 (Go.Operand.tmp 0) none (some (Go.Operand.tmp 3)) none,type:=29,pos := "", after:=#[{ on:=0,ground:=Go.Ground.data }],guard:=none }] false).seq (((Go.Code.region 1 #[{ dst:=some 2,op:=Go.Op.assign (Go.Operand.const (Go.Value.int Go.IntKind.i64 0)),type:=3,pos := "", after:=#[],guard:=none }] false).seq (Go.Code.block 0 ((((Go.Code.region 2 #[{ dst:=some 5,op:=Go.Op.call { callee:=Go.Callee.builtin Go.Builtin.len,args:=#[Go.Operand.tmp 0],argTypes:=#[29] },type:=3,pos := "", after:=#[],guard:=none },{ dst:=some 6,op:=Go.Op.binOp Go.BinOp.lss 3 (Go.Operand.tmp 2) (Go.Operand.tmp 5) 3,type:=4,pos := "", after:=#[{ on:=0,ground:=Go.Ground.data }],guard:=none }] false).seq (Go.Code.cond (Go.Operand.tmp 6) Go.Code.skip (Go.Code.exit 0))).seq ((Go.Code.block 1 (Go.Code.region 3 #[{ dst:=some 7,op:=Go.Op.indexAddr 29 (Go.Operand.tmp 0) (Go.Operand.tmp 2),type:=0,pos := "", after:=#[],guard:=none },{ dst:=some 8,op:=Go.Op.load 3 (Go.Operand.tmp 7),type:=3,pos := "", after:=#[{ on:=0,ground:=Go.Ground.data }],guard:=none },{ dst:=some 9,op:=Go.Op.binOp Go.BinOp.add 3 (Go.Operand.tmp 1) (Go.Operand.tmp 8) 3,type:=3,pos := "", after:=#[{ on:=1,ground:=Go.Ground.data }],guard:=none },{ dst:=some 1,op:=Go.Op.assign (Go.Operand.tmp 9),type:=3,pos := "", after:=#[{ on:=2,ground:=Go.Ground.data }],guard:=none }] false)).seq (Go.Code.region 4 #[{ dst:=some 10,op:=Go.Op.binOp Go.BinOp.add 3 (Go.Operand.tmp 2) (Go.Operand.const (Go.Value.int Go.IntKind.i64 1)) 3,type:=3,pos := "", after:=#[],guard:=none },{ dst:=some 2,op:=Go.Op.assign (Go.Operand.tmp 10),type:=3,pos := "", after:=#[{ on:=0,ground:=Go.Ground.data }],guard:=none }] false)))).loop)).seq Go.Code.ret))),
  norace:=false,file := "", tmpNames:=#["", "", "", "", "", "", "", "", "", "", ""] }
def Tra.f78:Go.Func :=
{ name := "stub78", origin := "", params:=#[29,3,3],resultTypes:=#[],nfree:=0,ntmps:=56,results:=#[],body:=some (Go.Code.exit 0),norace:=false,file := "", tmpNames:=#[] }
def Tra.f79:Go.Func :=
{ name := "stub79", origin := "", params:=#[29,3,3],resultTypes:=#[],nfree:=0,ntmps:=65,results:=#[],body:=some (Go.Code.exit 0),norace:=false,file := "", tmpNames:=#[] }
def Tra.f80:Go.Func :=
{ name := "stub80", origin := "", params:=#[29,3,3],resultTypes:=#[3,128],nfree:=0,ntmps:=57,results:=#[Go.ResultVar.tmp 6,Go.ResultVar.tmp 7],body:=some (Go.Code.exit 0),norace:=false,file := "", tmpNames:=#[] }
def Tra.f81:Go.Func :=
{ name := "stub81", origin := "", params:=#[29,3,3],resultTypes:=#[],nfree:=0,ntmps:=32,results:=#[],body:=some (Go.Code.exit 0),norace:=false,file := "", tmpNames:=#[] }
def Tra.f82:Go.Func :=
{ name := "stub82", origin := "", params:=#[29,3,3],resultTypes:=#[4],nfree:=0,ntmps:=133,results:=#[Go.ResultVar.tmp 6],body:=some (Go.Code.exit 0),norace:=false,file := "", tmpNames:=#[] }
def Tra.f84:Go.Func :=
{ name := "stub84", origin := "", params:=#[29,3,3,3],resultTypes:=#[3],nfree:=0,ntmps:=84,results:=#[Go.ResultVar.tmp 8],body:=some (Go.Code.exit 0),norace:=false,file := "", tmpNames:=#[] }
def Tra.f85:Go.Func :=
{ name := "stub85", origin := "", params:=#[29,3,3,3],resultTypes:=#[3,4],nfree:=0,ntmps:=168,results:=#[Go.ResultVar.tmp 8,Go.ResultVar.tmp 9],body:=some (Go.Code.exit 0),norace:=false,file := "", tmpNames:=#[] }
def setL {α:Type} (a:Array α):List (Nat × α)->Array α
 |[]=>a
 |(i,x) :: l=>(setL a l).setIfInBounds i x
theorem y9t {α:Type} (a:Array α):∀ l:List (Nat × α),(setL a l).size=a.size
 |[]=>rfl
 |(i,x) :: l=>by simp [setL,y9t a l]
theorem yfh {α:Type} (a:Array α) (f:Nat):∀ l:List (Nat × α),(l.map Prod.fst).contains f=false->(setL a l)[f]?=a[f]?
 |[],_=>rfl
 |(i,x) :: l,h=>by
  simp only [List.map_cons,List.contains_cons,Bool.or_eq_false_iff] at h;have hne:i≠f:=fun e=>by subst e;simp at h
  show ((setL a l).setIfInBounds i x)[f]?=_;rw [Array.getElem?_setIfInBounds_ne hne];exact yfh a f l h.2
theorem y38 {α:Type} (a:Array α) (f:Nat) (x:α) (hf:f<a.size):∀ l:List (Nat × α),(l.find? fun p=>p.1 == f)=some (f,x)->(setL a l)[f]?=some x
 |[],h=>by cases h
 |(i,y) :: l,h=>by
  show ((setL a l).setIfInBounds i y)[f]?=_
  by_cases e:i=f
  ·subst e
   rw [List.find?_cons_of_pos (by simp)] at h;obtain ⟨_,rfl⟩:=Prod.mk.injEq _ _ _ _ ▸ zSi h;exact Array.getElem?_setIfInBounds_self_of_lt (by rw [y9t];exact hf)
  ·rw [List.find?_cons_of_neg (by simpa using e)] at h
   rw [Array.getElem?_setIfInBounds_ne e];exact y38 a f x hf l h
def Tra.sets:List (Nat × Func):=[(9,Tra.f9),(21,Tra.f21),(78,Tra.f78),(79,Tra.f79),(80,Tra.f80),(81,Tra.f81),(82,Tra.f82),(84,Tra.f84),(85,Tra.f85)]
noncomputable def Tra.prog:Program:={ Try.prog with funcs:=setL Try.prog.funcs Tra.sets }
def Tra.Old (f:Nat):Prop:=([9,21,78,79,80,81,82,84,85]:List Nat).contains f=false
instance (f:Nat):Decidable (Tra.Old f):=by unfold Tra.Old;infer_instance
theorem Tra.funcs_eq:Tra.prog.funcs=setL Try.prog.funcs Tra.sets:=by kernel_rfl
theorem Tra.func (f:Nat) (h:Tra.Old f):Tra.prog.funcs[f]?=Try.prog.funcs[f]?:=by rw [Tra.funcs_eq];exact yfh Try.prog.funcs f Tra.sets h
@[simp] theorem Tra.func9:Tra.prog.funcs[9]?=some Tra.f9:=by rw [Tra.funcs_eq];exact y38 Try.prog.funcs 9 Tra.f9 (zGe Try.func9).1 Tra.sets rfl
@[simp] theorem Tra.func21:Tra.prog.funcs[21]?=some Tra.f21:=by rw [Tra.funcs_eq];exact y38 Try.prog.funcs 21 Tra.f21 (zGe Try.func21).1 Tra.sets rfl
@[simp] theorem Tra.func78:Tra.prog.funcs[78]?=some Tra.f78:=by rw [Tra.funcs_eq];exact y38 Try.prog.funcs 78 Tra.f78 (zGe Try.func78).1 Tra.sets rfl
@[simp] theorem Tra.func79:Tra.prog.funcs[79]?=some Tra.f79:=by rw [Tra.funcs_eq];exact y38 Try.prog.funcs 79 Tra.f79 (zGe Try.func79).1 Tra.sets rfl
@[simp] theorem Tra.func80:Tra.prog.funcs[80]?=some Tra.f80:=by rw [Tra.funcs_eq];exact y38 Try.prog.funcs 80 Tra.f80 (zGe Try.func80).1 Tra.sets rfl
@[simp] theorem Tra.func81:Tra.prog.funcs[81]?=some Tra.f81:=by rw [Tra.funcs_eq];exact y38 Try.prog.funcs 81 Tra.f81 (zGe Try.func81).1 Tra.sets rfl
@[simp] theorem Tra.func82:Tra.prog.funcs[82]?=some Tra.f82:=by rw [Tra.funcs_eq];exact y38 Try.prog.funcs 82 Tra.f82 (zGe Try.func82).1 Tra.sets rfl
@[simp] theorem Tra.func84:Tra.prog.funcs[84]?=some Tra.f84:=by rw [Tra.funcs_eq];exact y38 Try.prog.funcs 84 Tra.f84 (zGe Try.func84).1 Tra.sets rfl
@[simp] theorem Tra.func85:Tra.prog.funcs[85]?=some Tra.f85:=by rw [Tra.funcs_eq];exact y38 Try.prog.funcs 85 Tra.f85 (zGe Try.func85).1 Tra.sets rfl
end Go.Proofs
namespace Go.Proofs
theorem y0g {P:Program} {f:FuncId} {fn:Func} (hf:P.funcs[f]?=some fn) (hn:(fn.name == "runtime.NumGoroutine")=false) (hb:fn.body.isNone=false) {args:Array Value} {w:World}:Sem.run P (callFunc f args) w=Result.ok (Next.enter f args) w:=by
 have h1:¬ fn.name = "runtime.NumGoroutine" := by simpa using hn
 have h2:¬ fn.body=none:=by intro e;rw [e] at hb;cases hb
 simp [callFunc,hf,h1,h2]
open Go
noncomputable abbrev Tra.f3:Func:=Try.f3
@[simp] theorem Tra.func3:Tra.prog.funcs[3]?=Option.some Go.Proofs.Try.f3:=(Tra.func 3 (by decide)).trans Try.func3
@[simp] theorem Tra.func4:Tra.prog.funcs[4]?=Option.some Go.Proofs.Try.f4:=(Tra.func 4 (by decide)).trans Try.func4
@[simp] theorem Tra.func5:Tra.prog.funcs[5]?=Option.some Go.Proofs.Try.f5:=(Tra.func 5 (by decide)).trans Try.func5
@[simp] theorem Tra.func6:Tra.prog.funcs[6]?=Option.some Go.Proofs.Try.f6:=(Tra.func 6 (by decide)).trans Try.func6
@[simp] theorem Tra.func7:Tra.prog.funcs[7]?=Option.some Go.Proofs.Try.f7:=(Tra.func 7 (by decide)).trans Try.func7
@[simp] theorem Tra.func8:Tra.prog.funcs[8]?=Option.some Go.Proofs.Try.f8:=(Tra.func 8 (by decide)).trans Try.func8
@[simp] theorem Tra.func10:Tra.prog.funcs[10]?=Option.some Go.Proofs.Try.f10:=(Tra.func 10 (by decide)).trans Try.func10
@[simp] theorem Tra.func11:Tra.prog.funcs[11]?=Option.some Go.Proofs.Try.f11:=(Tra.func 11 (by decide)).trans Try.func11
@[simp] theorem Tra.func12:Tra.prog.funcs[12]?=Option.some Go.Proofs.Try.f12:=(Tra.func 12 (by decide)).trans Try.func12
@[simp] theorem Tra.func13:Tra.prog.funcs[13]?=Option.some Go.Proofs.Try.f13:=(Tra.func 13 (by decide)).trans Try.func13
@[simp] theorem Tra.func14:Tra.prog.funcs[14]?=Option.some Go.Proofs.Try.f14:=(Tra.func 14 (by decide)).trans Try.func14
@[simp] theorem Tra.func15:Tra.prog.funcs[15]?=Option.some Go.Proofs.Try.f15:=(Tra.func 15 (by decide)).trans Try.func15
@[simp] theorem Tra.func16:Tra.prog.funcs[16]?=Option.some Go.Proofs.Try.f16:=(Tra.func 16 (by decide)).trans Try.func16
@[simp] theorem Tra.func17:Tra.prog.funcs[17]?=Option.some Go.Proofs.Try.f17:=(Tra.func 17 (by decide)).trans Try.func17
@[simp] theorem Tra.func19:Tra.prog.funcs[19]?=Option.some Go.Proofs.Try.f19:=(Tra.func 19 (by decide)).trans Try.func19
@[simp] theorem Tra.func20:Tra.prog.funcs[20]?=Option.some Go.Proofs.Try.f20:=(Tra.func 20 (by decide)).trans Try.func20
noncomputable abbrev Tra.f24:Func:=Try.f24
@[simp] theorem Tra.func24:Tra.prog.funcs[24]?=Option.some Go.Proofs.Try.f24:=(Tra.func 24 (by decide)).trans Try.func24
@[simp] theorem Tra.func26:Tra.prog.funcs[26]?=Option.some Go.Proofs.Try.f26:=(Tra.func 26 (by decide)).trans Try.func26
@[simp] theorem Tra.func28:Tra.prog.funcs[28]?=Option.some Go.Proofs.Try.f28:=(Tra.func 28 (by decide)).trans Try.func28
@[simp] theorem Tra.func29:Tra.prog.funcs[29]?=Option.some Go.Proofs.Try.f29:=(Tra.func 29 (by decide)).trans Try.func29
@[simp] theorem Tra.func30:Tra.prog.funcs[30]?=Option.some Go.Proofs.Try.f30:=(Tra.func 30 (by decide)).trans Try.func30
@[simp] theorem Tra.func31:Tra.prog.funcs[31]?=Option.some Go.Proofs.Try.f31:=(Tra.func 31 (by decide)).trans Try.func31
@[simp] theorem Tra.func32:Tra.prog.funcs[32]?=Option.some Go.Proofs.Try.f32:=(Tra.func 32 (by decide)).trans Try.func32
@[simp] theorem Tra.func33:Tra.prog.funcs[33]?=Option.some Go.Proofs.Try.f33:=(Tra.func 33 (by decide)).trans Try.func33
@[simp] theorem Tra.func34:Tra.prog.funcs[34]?=Option.some Go.Proofs.Try.f34:=(Tra.func 34 (by decide)).trans Try.func34
@[simp] theorem Tra.func35:Tra.prog.funcs[35]?=Option.some Go.Proofs.Try.f35:=(Tra.func 35 (by decide)).trans Try.func35
@[simp] theorem Tra.func36:Tra.prog.funcs[36]?=Option.some Go.Proofs.Try.f36:=(Tra.func 36 (by decide)).trans Try.func36
@[simp] theorem Tra.func50:Tra.prog.funcs[50]?=Option.some Go.Proofs.Try.f50:=(Tra.func 50 (by decide)).trans Try.func50
@[simp] theorem Tra.func51:Tra.prog.funcs[51]?=Option.some Go.Proofs.Try.f51:=(Tra.func 51 (by decide)).trans Try.func51
@[simp] theorem Tra.func57:Tra.prog.funcs[57]?=Option.some Go.Proofs.Try.f57:=(Tra.func 57 (by decide)).trans Try.func57
@[simp] theorem Tra.func58:Tra.prog.funcs[58]?=Option.some Go.Proofs.Try.f58:=(Tra.func 58 (by decide)).trans Try.func58
@[simp] theorem Tra.func59:Tra.prog.funcs[59]?=Option.some Go.Proofs.Try.f59:=(Tra.func 59 (by decide)).trans Try.func59
@[simp] theorem Tra.func60:Tra.prog.funcs[60]?=Option.some Go.Proofs.Try.f60:=(Tra.func 60 (by decide)).trans Try.func60
@[simp] theorem Tra.func61:Tra.prog.funcs[61]?=Option.some Go.Proofs.Try.f61:=(Tra.func 61 (by decide)).trans Try.func61
@[simp] theorem Tra.func62:Tra.prog.funcs[62]?=Option.some Go.Proofs.Try.f62:=(Tra.func 62 (by decide)).trans Try.func62
@[simp] theorem Tra.func63:Tra.prog.funcs[63]?=Option.some Go.Proofs.Try.f63:=(Tra.func 63 (by decide)).trans Try.func63
@[simp] theorem Tra.func69:Tra.prog.funcs[69]?=Option.some Go.Proofs.Try.f69:=(Tra.func 69 (by decide)).trans Try.func69
@[simp] theorem Tra.func70:Tra.prog.funcs[70]?=Option.some Go.Proofs.Try.f70:=(Tra.func 70 (by decide)).trans Try.func70
@[simp] theorem Tra.func71:Tra.prog.funcs[71]?=Option.some Go.Proofs.Try.f71:=(Tra.func 71 (by decide)).trans Try.func71
@[simp] theorem Tra.func72:Tra.prog.funcs[72]?=Option.some Go.Proofs.Try.f72:=(Tra.func 72 (by decide)).trans Try.func72
@[simp] theorem Tra.func73:Tra.prog.funcs[73]?=Option.some Go.Proofs.Try.f73:=(Tra.func 73 (by decide)).trans Try.func73
@[simp] theorem Tra.func74:Tra.prog.funcs[74]?=Option.some Go.Proofs.Try.f74:=(Tra.func 74 (by decide)).trans Try.func74
@[simp] theorem Tra.func75:Tra.prog.funcs[75]?=Option.some Go.Proofs.Try.f75:=(Tra.func 75 (by decide)).trans Try.func75
@[simp] theorem Tra.func76:Tra.prog.funcs[76]?=Option.some Go.Proofs.Try.f76:=(Tra.func 76 (by decide)).trans Try.func76
noncomputable abbrev Tra.f77:Func:=Try.f77
@[simp] theorem Tra.func77:Tra.prog.funcs[77]?=Option.some Go.Proofs.Try.f77:=(Tra.func 77 (by decide)).trans Try.func77
@[simp] theorem Tra.func83:Tra.prog.funcs[83]?=Option.some Go.Proofs.Try.f83:=(Tra.func 83 (by decide)).trans Try.func83
@[simp] theorem Tra.func87:Tra.prog.funcs[87]?=Option.some Go.Proofs.Try.f87:=(Tra.func 87 (by decide)).trans Try.func87
@[simp] theorem Tra.func88:Tra.prog.funcs[88]?=Option.some Go.Proofs.Try.f88:=(Tra.func 88 (by decide)).trans Try.func88
@[simp] theorem Tra.func89:Tra.prog.funcs[89]?=Option.some Go.Proofs.Try.f89:=(Tra.func 89 (by decide)).trans Try.func89
@[simp] theorem Tra.func95:Tra.prog.funcs[95]?=Option.some Go.Proofs.Try.f95:=(Tra.func 95 (by decide)).trans Try.func95
@[simp] theorem Tra.func96:Tra.prog.funcs[96]?=Option.some Go.Proofs.Try.f96:=(Tra.func 96 (by decide)).trans Try.func96
@[simp] theorem Tra.call13:∀ (args:Array Go.Value) (w:Go.World),Go.Sem.run Tra.prog (Go.callFunc 13 args) w=Go.Result.ok (Go.Next.enter 13 args) w:=fun _ _=>y0g (Tra.func13) (by kernel_rfl) (by kernel_rfl)
@[simp] theorem Tra.call14:∀ (args:Array Go.Value) (w:Go.World),Go.Sem.run Tra.prog (Go.callFunc 14 args) w=Go.Result.ok (Go.Next.enter 14 args) w:=fun _ _=>y0g (Tra.func14) (by kernel_rfl) (by kernel_rfl)
@[simp] theorem Tra.call15:∀ (args:Array Go.Value) (w:Go.World),Go.Sem.run Tra.prog (Go.callFunc 15 args) w=Go.Result.ok (Go.Next.enter 15 args) w:=fun _ _=>y0g (Tra.func15) (by kernel_rfl) (by kernel_rfl)
@[simp] theorem Tra.call16:∀ (args:Array Go.Value) (w:Go.World),Go.Sem.run Tra.prog (Go.callFunc 16 args) w=Go.Result.ok (Go.Next.enter 16 args) w:=fun _ _=>y0g (Tra.func16) (by kernel_rfl) (by kernel_rfl)
@[simp] theorem Tra.call17:∀ (args:Array Go.Value) (w:Go.World),Go.Sem.run Tra.prog (Go.callFunc 17 args) w=Go.Result.ok (Go.Next.enter 17 args) w:=fun _ _=>y0g (Tra.func17) (by kernel_rfl) (by kernel_rfl)
@[simp] theorem Tra.call19:∀ (args:Array Go.Value) (w:Go.World),Go.Sem.run Tra.prog (Go.callFunc 19 args) w=Go.Result.ok (Go.Next.enter 19 args) w:=fun _ _=>y0g (Tra.func19) (by kernel_rfl) (by kernel_rfl)
@[simp] theorem Tra.call20:∀ (args:Array Go.Value) (w:Go.World),Go.Sem.run Tra.prog (Go.callFunc 20 args) w=Go.Result.ok (Go.Next.enter 20 args) w:=fun _ _=>y0g (Tra.func20) (by kernel_rfl) (by kernel_rfl)
@[simp] theorem Tra.call21:∀ (args:Array Go.Value) (w:Go.World),Go.Sem.run Tra.prog (Go.callFunc 21 args) w=Go.Result.ok (Go.Next.enter 21 args) w:=fun _ _=>y0g (Tra.func21) (by kernel_rfl) (by kernel_rfl)
@[simp] theorem Tra.call24:∀ (args:Array Go.Value) (w:Go.World),Go.Sem.run Tra.prog (Go.callFunc 24 args) w=Go.Result.ok (Go.Next.enter 24 args) w:=fun _ _=>y0g (Tra.func24) (by kernel_rfl) (by kernel_rfl)
@[simp] theorem Tra.call26:∀ (args:Array Go.Value) (w:Go.World),Go.Sem.run Tra.prog (Go.callFunc 26 args) w=Go.Result.ok (Go.Next.enter 26 args) w:=fun _ _=>y0g (Tra.func26) (by kernel_rfl) (by kernel_rfl)
@[simp] theorem Tra.call30:∀ (args:Array Go.Value) (w:Go.World),Go.Sem.run Tra.prog (Go.callFunc 30 args) w=Go.Result.ok (Go.Next.enter 30 args) w:=fun _ _=>y0g (Tra.func30) (by kernel_rfl) (by kernel_rfl)
@[simp] theorem Tra.call31:∀ (args:Array Go.Value) (w:Go.World),Go.Sem.run Tra.prog (Go.callFunc 31 args) w=Go.Result.ok (Go.Next.enter 31 args) w:=fun _ _=>y0g (Tra.func31) (by kernel_rfl) (by kernel_rfl)
@[simp] theorem Tra.call32:∀ (args:Array Go.Value) (w:Go.World),Go.Sem.run Tra.prog (Go.callFunc 32 args) w=Go.Result.ok (Go.Next.enter 32 args) w:=fun _ _=>y0g (Tra.func32) (by kernel_rfl) (by kernel_rfl)
@[simp] theorem Tra.call33:∀ (args:Array Go.Value) (w:Go.World),Go.Sem.run Tra.prog (Go.callFunc 33 args) w=Go.Result.ok (Go.Next.enter 33 args) w:=fun _ _=>y0g (Tra.func33) (by kernel_rfl) (by kernel_rfl)
@[simp] theorem Tra.call34:∀ (args:Array Go.Value) (w:Go.World),Go.Sem.run Tra.prog (Go.callFunc 34 args) w=Go.Result.ok (Go.Next.enter 34 args) w:=fun _ _=>y0g (Tra.func34) (by kernel_rfl) (by kernel_rfl)
@[simp] theorem Tra.call35:∀ (args:Array Go.Value) (w:Go.World),Go.Sem.run Tra.prog (Go.callFunc 35 args) w=Go.Result.ok (Go.Next.enter 35 args) w:=fun _ _=>y0g (Tra.func35) (by kernel_rfl) (by kernel_rfl)
@[simp] theorem Tra.call36:∀ (args:Array Go.Value) (w:Go.World),Go.Sem.run Tra.prog (Go.callFunc 36 args) w=Go.Result.ok (Go.Next.enter 36 args) w:=fun _ _=>y0g (Tra.func36) (by kernel_rfl) (by kernel_rfl)
@[simp] theorem Tra.call51:∀ (args:Array Go.Value) (w:Go.World),Go.Sem.run Tra.prog (Go.callFunc 51 args) w=Go.Result.ok (Go.Next.enter 51 args) w:=fun _ _=>y0g (Tra.func51) (by kernel_rfl) (by kernel_rfl)
@[simp] theorem Tra.call57:∀ (args:Array Go.Value) (w:Go.World),Go.Sem.run Tra.prog (Go.callFunc 57 args) w=Go.Result.ok (Go.Next.enter 57 args) w:=fun _ _=>y0g (Tra.func57) (by kernel_rfl) (by kernel_rfl)
@[simp] theorem Tra.call58:∀ (args:Array Go.Value) (w:Go.World),Go.Sem.run Tra.prog (Go.callFunc 58 args) w=Go.Result.ok (Go.Next.enter 58 args) w:=fun _ _=>y0g (Tra.func58) (by kernel_rfl) (by kernel_rfl)
@[simp] theorem Tra.call59:∀ (args:Array Go.Value) (w:Go.World),Go.Sem.run Tra.prog (Go.callFunc 59 args) w=Go.Result.ok (Go.Next.enter 59 args) w:=fun _ _=>y0g (Tra.func59) (by kernel_rfl) (by kernel_rfl)
@[simp] theorem Tra.call60:∀ (args:Array Go.Value) (w:Go.World),Go.Sem.run Tra.prog (Go.callFunc 60 args) w=Go.Result.ok (Go.Next.enter 60 args) w:=fun _ _=>y0g (Tra.func60) (by kernel_rfl) (by kernel_rfl)
@[simp] theorem Tra.call61:∀ (args:Array Go.Value) (w:Go.World),Go.Sem.run Tra.prog (Go.callFunc 61 args) w=Go.Result.ok (Go.Next.enter 61 args) w:=fun _ _=>y0g (Tra.func61) (by kernel_rfl) (by kernel_rfl)
@[simp] theorem Tra.call62:∀ (args:Array Go.Value) (w:Go.World),Go.Sem.run Tra.prog (Go.callFunc 62 args) w=Go.Result.ok (Go.Next.enter 62 args) w:=fun _ _=>y0g (Tra.func62) (by kernel_rfl) (by kernel_rfl)
@[simp] theorem Tra.call63:∀ (args:Array Go.Value) (w:Go.World),Go.Sem.run Tra.prog (Go.callFunc 63 args) w=Go.Result.ok (Go.Next.enter 63 args) w:=fun _ _=>y0g (Tra.func63) (by kernel_rfl) (by kernel_rfl)
@[simp] theorem Tra.call69:∀ (args:Array Go.Value) (w:Go.World),Go.Sem.run Tra.prog (Go.callFunc 69 args) w=Go.Result.ok (Go.Next.enter 69 args) w:=fun _ _=>y0g (Tra.func69) (by kernel_rfl) (by kernel_rfl)
@[simp] theorem Tra.call70:∀ (args:Array Go.Value) (w:Go.World),Go.Sem.run Tra.prog (Go.callFunc 70 args) w=Go.Result.ok (Go.Next.enter 70 args) w:=fun _ _=>y0g (Tra.func70) (by kernel_rfl) (by kernel_rfl)
@[simp] theorem Tra.call71:∀ (args:Array Go.Value) (w:Go.World),Go.Sem.run Tra.prog (Go.callFunc 71 args) w=Go.Result.ok (Go.Next.enter 71 args) w:=fun _ _=>y0g (Tra.func71) (by kernel_rfl) (by kernel_rfl)
@[simp] theorem Tra.call72:∀ (args:Array Go.Value) (w:Go.World),Go.Sem.run Tra.prog (Go.callFunc 72 args) w=Go.Result.ok (Go.Next.enter 72 args) w:=fun _ _=>y0g (Tra.func72) (by kernel_rfl) (by kernel_rfl)
@[simp] theorem Tra.call74:∀ (args:Array Go.Value) (w:Go.World),Go.Sem.run Tra.prog (Go.callFunc 74 args) w=Go.Result.ok (Go.Next.enter 74 args) w:=fun _ _=>y0g (Tra.func74) (by kernel_rfl) (by kernel_rfl)
@[simp] theorem Tra.call75:∀ (args:Array Go.Value) (w:Go.World),Go.Sem.run Tra.prog (Go.callFunc 75 args) w=Go.Result.ok (Go.Next.enter 75 args) w:=fun _ _=>y0g (Tra.func75) (by kernel_rfl) (by kernel_rfl)
@[simp] theorem Tra.call76:∀ (args:Array Go.Value) (w:Go.World),Go.Sem.run Tra.prog (Go.callFunc 76 args) w=Go.Result.ok (Go.Next.enter 76 args) w:=fun _ _=>y0g (Tra.func76) (by kernel_rfl) (by kernel_rfl)
@[simp] theorem Tra.call77:∀ (args:Array Go.Value) (w:Go.World),Go.Sem.run Tra.prog (Go.callFunc 77 args) w=Go.Result.ok (Go.Next.enter 77 args) w:=fun _ _=>y0g (Tra.func77) (by kernel_rfl) (by kernel_rfl)
@[simp] theorem Tra.call88:∀ (args:Array Go.Value) (w:Go.World),Go.Sem.run Tra.prog (Go.callFunc 88 args) w=Go.Result.ok (Go.Next.enter 88 args) w:=fun _ _=>y0g (Tra.func88) (by kernel_rfl) (by kernel_rfl)
@[simp] theorem Tra.call89:∀ (args:Array Go.Value) (w:Go.World),Go.Sem.run Tra.prog (Go.callFunc 89 args) w=Go.Result.ok (Go.Next.enter 89 args) w:=fun _ _=>y0g (Tra.func89) (by kernel_rfl) (by kernel_rfl)
@[simp] theorem Tra.call95:∀ (args:Array Go.Value) (w:Go.World),Go.Sem.run Tra.prog (Go.callFunc 95 args) w=Go.Result.ok (Go.Next.enter 95 args) w:=fun _ _=>y0g (Tra.func95) (by kernel_rfl) (by kernel_rfl)
@[simp] theorem Tra.call96:∀ (args:Array Go.Value) (w:Go.World),Go.Sem.run Tra.prog (Go.callFunc 96 args) w=Go.Result.ok (Go.Next.enter 96 args) w:=fun _ _=>y0g (Tra.func96) (by kernel_rfl) (by kernel_rfl)
@[simp] theorem Tra.isAgg3:∀ (w:Go.World),Go.Sem.run Tra.prog (Go.isAgg 3) w=Go.Result.ok Bool.false w:=fun _=>by kernel_rfl
@[simp] theorem Tra.isAgg4:∀ (w:Go.World),Go.Sem.run Tra.prog (Go.isAgg 4) w=Go.Result.ok Bool.false w:=fun _=>by kernel_rfl
@[simp] theorem Tra.isAgg22:∀ (w:Go.World),Go.Sem.run Tra.prog (Go.isAgg 22) w=Go.Result.ok Bool.false w:=fun _=>by kernel_rfl
@[simp] theorem Tra.isAgg28:∀ (w:Go.World),Go.Sem.run Tra.prog (Go.isAgg 28) w=Go.Result.ok Bool.true w:=fun _=>by kernel_rfl
@[simp] theorem Tra.isAgg29:∀ (w:Go.World),Go.Sem.run Tra.prog (Go.isAgg 29) w=Go.Result.ok Bool.false w:=fun _=>by kernel_rfl
@[simp] theorem Tra.isAgg42:∀ (w:Go.World),Go.Sem.run Tra.prog (Go.isAgg 42) w=Go.Result.ok Bool.true w:=fun _=>by kernel_rfl
@[simp] theorem Tra.isAgg74:∀ (w:Go.World),Go.Sem.run Tra.prog (Go.isAgg 74) w=Go.Result.ok Bool.true w:=fun _=>by kernel_rfl
@[simp] theorem Tra.isAgg100:∀ (w:Go.World),Go.Sem.run Tra.prog (Go.isAgg 100) w=Go.Result.ok Bool.true w:=fun _=>by kernel_rfl
@[simp] theorem Tra.isAgg102:∀ (w:Go.World),Go.Sem.run Tra.prog (Go.isAgg 102) w=Go.Result.ok Bool.true w:=fun _=>by kernel_rfl
@[simp] theorem Tra.isAgg104:∀ (w:Go.World),Go.Sem.run Tra.prog (Go.isAgg 104) w=Go.Result.ok Bool.true w:=fun _=>by kernel_rfl
theorem Tra.ntmps3:Go.Proofs.Try.f3.ntmps=164:=Try.ntmps3
theorem Tra.ntmps4:Go.Proofs.Try.f4.ntmps=79:=Try.ntmps4
theorem Tra.ntmps5:Go.Proofs.Try.f5.ntmps=73:=Try.ntmps5
theorem Tra.ntmps6:Go.Proofs.Try.f6.ntmps=37:=Try.ntmps6
theorem Tra.ntmps7:Go.Proofs.Try.f7.ntmps=9:=Try.ntmps7
theorem Tra.ntmps8:Go.Proofs.Try.f8.ntmps=34:=Try.ntmps8
theorem Tra.ntmps9:Tra.f9.ntmps=18:=rfl
theorem Tra.ntmps10:Go.Proofs.Try.f10.ntmps=49:=Try.ntmps10
theorem Tra.ntmps11:Go.Proofs.Try.f11.ntmps=25:=Try.ntmps11
theorem Tra.ntmps12:Go.Proofs.Try.f12.ntmps=55:=Try.ntmps12
theorem Tra.ntmps13:Go.Proofs.Try.f13.ntmps=28:=Try.ntmps13
theorem Tra.ntmps14:Go.Proofs.Try.f14.ntmps=65:=Try.ntmps14
theorem Tra.ntmps15:Go.Proofs.Try.f15.ntmps=63:=Try.ntmps15
theorem Tra.ntmps16:Go.Proofs.Try.f16.ntmps=6:=Try.ntmps16
theorem Tra.ntmps17:Go.Proofs.Try.f17.ntmps=9:=Try.ntmps17
theorem Tra.ntmps19:Go.Proofs.Try.f19.ntmps=36:=Try.ntmps19
theorem Tra.ntmps20:Go.Proofs.Try.f20.ntmps=32:=Try.ntmps20
theorem Tra.ntmps21:Tra.f21.ntmps=11:=rfl
theorem Tra.ntmps24:Go.Proofs.Try.f24.ntmps=27:=Try.ntmps24
theorem Tra.ntmps26:Go.Proofs.Try.f26.ntmps=70:=Try.ntmps26
theorem Tra.ntmps28:Go.Proofs.Try.f28.ntmps=20:=Try.ntmps28
theorem Tra.ntmps29:Go.Proofs.Try.f29.ntmps=28:=Try.ntmps29
theorem Tra.ntmps30:Go.Proofs.Try.f30.ntmps=19:=Try.ntmps30
theorem Tra.ntmps31:Go.Proofs.Try.f31.ntmps=21:=Try.ntmps31
theorem Tra.ntmps32:Go.Proofs.Try.f32.ntmps=30:=Try.ntmps32
theorem Tra.ntmps33:Go.Proofs.Try.f33.ntmps=26:=Try.ntmps33
theorem Tra.ntmps34:Go.Proofs.Try.f34.ntmps=11:=Try.ntmps34
theorem Tra.ntmps35:Go.Proofs.Try.f35.ntmps=19:=Try.ntmps35
theorem Tra.ntmps36:Go.Proofs.Try.f36.ntmps=27:=Try.ntmps36
theorem Tra.ntmps50:Go.Proofs.Try.f50.ntmps=36:=Try.ntmps50
theorem Tra.ntmps51:Go.Proofs.Try.f51.ntmps=8:=Try.ntmps51
theorem Tra.ntmps57:Go.Proofs.Try.f57.ntmps=44:=Try.ntmps57
theorem Tra.ntmps58:Go.Proofs.Try.f58.ntmps=7:=Try.ntmps58
theorem Tra.ntmps59:Go.Proofs.Try.f59.ntmps=66:=Try.ntmps59
theorem Tra.ntmps60:Go.Proofs.Try.f60.ntmps=54:=Try.ntmps60
theorem Tra.ntmps61:Go.Proofs.Try.f61.ntmps=4:=Try.ntmps61
theorem Tra.ntmps62:Go.Proofs.Try.f62.ntmps=134:=Try.ntmps62
theorem Tra.ntmps63:Go.Proofs.Try.f63.ntmps=8:=Try.ntmps63
theorem Tra.ntmps69:Go.Proofs.Try.f69.ntmps=60:=Try.ntmps69
theorem Tra.ntmps70:Go.Proofs.Try.f70.ntmps=9:=Try.ntmps70
theorem Tra.ntmps71:Go.Proofs.Try.f71.ntmps=15:=Try.ntmps71
theorem Tra.ntmps72:Go.Proofs.Try.f72.ntmps=5:=Try.ntmps72
theorem Tra.ntmps73:Go.Proofs.Try.f73.ntmps=22:=Try.ntmps73
theorem Tra.ntmps74:Go.Proofs.Try.f74.ntmps=16:=Try.ntmps74
theorem Tra.ntmps75:Go.Proofs.Try.f75.ntmps=7:=Try.ntmps75
theorem Tra.ntmps76:Go.Proofs.Try.f76.ntmps=9:=Try.ntmps76
theorem Tra.ntmps77:Go.Proofs.Try.f77.ntmps=49:=Try.ntmps77
theorem Tra.ntmps83:Go.Proofs.Try.f83.ntmps=17:=Try.ntmps83
theorem Tra.ntmps87:Go.Proofs.Try.f87.ntmps=25:=Try.ntmps87
theorem Tra.ntmps88:Go.Proofs.Try.f88.ntmps=27:=Try.ntmps88
theorem Tra.ntmps89:Go.Proofs.Try.f89.ntmps=9:=Try.ntmps89
theorem Tra.ntmps95:Go.Proofs.Try.f95.ntmps=6:=Try.ntmps95
theorem Tra.ntmps96:Go.Proofs.Try.f96.ntmps=12:=Try.ntmps96
@[simp] theorem Tra.rt_eq:Tra.prog.rt={ boundsError:=8,errorString:=10,plainError:=11,errorAddressString:=14,typeAssertionError:=15,panicNilError:=16,unhashableTypeError:=19,string:=9,any:=20,int:=3,bool:=4,rune:=21,byte:=5 }:=by kernel_rfl
@[simp] theorem Tra.runUnderlying3:∀ (w:Go.World),Go.Sem.run Tra.prog (Go.underlying 3) w=Go.Result.ok (Go.TypeDesc.int Go.IntKind.i64) w:=fun _=>by kernel_rfl
@[simp] theorem Tra.runUnderlying22:∀ (w:Go.World),Go.Sem.run Tra.prog (Go.underlying 22) w=Go.Result.ok (Go.TypeDesc.slice 28) w:=fun _=>by kernel_rfl
@[simp] theorem Tra.runUnderlying24:∀ (w:Go.World),Go.Sem.run Tra.prog (Go.underlying 24) w=Go.Result.ok (Go.TypeDesc.int Go.IntKind.i64) w:=fun _=>by kernel_rfl
@[simp] theorem Tra.runUnderlying28:∀ (w:Go.World),Go.Sem.run Tra.prog (Go.underlying 28) w=Go.Result.ok (Go.TypeDesc.struct #[{ name := "A", type:=3,offset:=0,embedded:=Bool.false,tag := "", pkgPath := "", byteOffset:=0 },{ name := "B", type:=3,offset:=1,embedded:=Bool.false,tag := "", pkgPath := "", byteOffset:=8 },{ name := "Feud", type:=4,offset:=2,embedded:=Bool.false,tag := "", pkgPath := "", byteOffset:=16 }]) w:=fun _=>by kernel_rfl
@[simp] theorem Tra.runUnderlying29:∀ (w:Go.World),Go.Sem.run Tra.prog (Go.underlying 29) w=Go.Result.ok (Go.TypeDesc.slice 3) w:=fun _=>by kernel_rfl
@[simp] theorem Tra.runUnderlying42:∀ (w:Go.World),Go.Sem.run Tra.prog (Go.underlying 42) w=Go.Result.ok (Go.TypeDesc.struct #[{ name := "n", type:=3,offset:=0,embedded:=Bool.false,tag := "", pkgPath := "droveway/feuds", byteOffset:=0 },{ name := "ties", type:=22,offset:=1,embedded:=Bool.false,tag := "", pkgPath := "droveway/feuds", byteOffset:=8 }]) w:=fun _=>by kernel_rfl
@[simp] theorem Tra.runUnderlying66:∀ (w:Go.World),Go.Sem.run Tra.prog (Go.underlying 66) w=Go.Result.ok (Go.TypeDesc.struct #[{ name := "a", type:=3,offset:=0,embedded:=Bool.false,tag := "", pkgPath := "droveway/graze", byteOffset:=0 },{ name := "b", type:=3,offset:=1,embedded:=Bool.false,tag := "", pkgPath := "droveway/graze", byteOffset:=8 }]) w:=fun _=>by kernel_rfl
@[simp] theorem Tra.runUnderlying74:∀ (w:Go.World),Go.Sem.run Tra.prog (Go.underlying 74) w=Go.Result.ok (Go.TypeDesc.array 2 3) w:=fun _=>by kernel_rfl
@[simp] theorem Tra.runUnderlying79:∀ (w:Go.World),Go.Sem.run Tra.prog (Go.underlying 79) w=Go.Result.ok (Go.TypeDesc.slice 29) w:=fun _=>by kernel_rfl
@[simp] theorem Tra.runUnderlying94:∀ (w:Go.World),Go.Sem.run Tra.prog (Go.underlying 94) w=Go.Result.ok (Go.TypeDesc.slice 74) w:=fun _=>by kernel_rfl
@[simp] theorem Tra.runUnderlying100:∀ (w:Go.World),Go.Sem.run Tra.prog (Go.underlying 100) w=Go.Result.ok (Go.TypeDesc.struct #[{ name := "m", type:=3,offset:=0,embedded:=Bool.false,tag := "", pkgPath := "droveway/ambush", byteOffset:=0 },{ name := "lines", type:=29,offset:=1,embedded:=Bool.false,tag := "", pkgPath := "droveway/ambush", byteOffset:=8 }]) w:=fun _=>by kernel_rfl
@[simp] theorem Tra.runUnderlying102:∀ (w:Go.World),Go.Sem.run Tra.prog (Go.underlying 102) w=Go.Result.ok (Go.TypeDesc.struct #[{ name := "wolves", type:=3,offset:=0,embedded:=Bool.false,tag := "", pkgPath := "droveway/ambush", byteOffset:=0 },{ name := "dogs", type:=3,offset:=1,embedded:=Bool.false,tag := "", pkgPath := "droveway/ambush", byteOffset:=8 }]) w:=fun _=>by kernel_rfl
@[simp] theorem Tra.runUnderlying104:∀ (w:Go.World),Go.Sem.run Tra.prog (Go.underlying 104) w=Go.Result.ok (Go.TypeDesc.struct #[{ name := "position", type:=102,offset:=0,embedded:=Bool.true,tag := "", pkgPath := "droveway/ambush", byteOffset:=0 },{ name := "next", type:=3,offset:=2,embedded:=Bool.false,tag := "", pkgPath := "droveway/ambush", byteOffset:=16 }]) w:=fun _=>by kernel_rfl
@[simp] theorem Tra.sizeOf3:∀ (w:Go.World),Go.Sem.run Tra.prog (Go.sizeOf 3) w=Go.Result.ok 1 w:=fun _=>by kernel_rfl
@[simp] theorem Tra.sizeOf4:∀ (w:Go.World),Go.Sem.run Tra.prog (Go.sizeOf 4) w=Go.Result.ok 1 w:=fun _=>by kernel_rfl
@[simp] theorem Tra.sizeOf22:∀ (w:Go.World),Go.Sem.run Tra.prog (Go.sizeOf 22) w=Go.Result.ok 1 w:=fun _=>by kernel_rfl
@[simp] theorem Tra.sizeOf28:∀ (w:Go.World),Go.Sem.run Tra.prog (Go.sizeOf 28) w=Go.Result.ok 3 w:=fun _=>by kernel_rfl
@[simp] theorem Tra.sizeOf29:∀ (w:Go.World),Go.Sem.run Tra.prog (Go.sizeOf 29) w=Go.Result.ok 1 w:=fun _=>by kernel_rfl
@[simp] theorem Tra.sizeOf42:∀ (w:Go.World),Go.Sem.run Tra.prog (Go.sizeOf 42) w=Go.Result.ok 2 w:=fun _=>by kernel_rfl
@[simp] theorem Tra.sizeOf66:∀ (w:Go.World),Go.Sem.run Tra.prog (Go.sizeOf 66) w=Go.Result.ok 2 w:=fun _=>by kernel_rfl
@[simp] theorem Tra.sizeOf74:∀ (w:Go.World),Go.Sem.run Tra.prog (Go.sizeOf 74) w=Go.Result.ok 2 w:=fun _=>by kernel_rfl
@[simp] theorem Tra.sizeOf100:∀ (w:Go.World),Go.Sem.run Tra.prog (Go.sizeOf 100) w=Go.Result.ok 2 w:=fun _=>by kernel_rfl
@[simp] theorem Tra.sizeOf102:∀ (w:Go.World),Go.Sem.run Tra.prog (Go.sizeOf 102) w=Go.Result.ok 2 w:=fun _=>by kernel_rfl
@[simp] theorem Tra.sizeOf104:∀ (w:Go.World),Go.Sem.run Tra.prog (Go.sizeOf 104) w=Go.Result.ok 3 w:=fun _=>by kernel_rfl
@[simp] theorem Tra.typeInfo3:∀ (w:Go.World),Go.Sem.run Tra.prog (Go.typeInfo 3) w=Go.Result.ok Go.Proofs.Try.t3 w:=fun _=>by kernel_rfl
@[simp] theorem Tra.underlying3:Tra.prog.underlying 3=Option.some (Go.TypeDesc.int Go.IntKind.i64):=by kernel_rfl
@[simp] theorem Tra.underlying5:Tra.prog.underlying 5=Option.some (Go.TypeDesc.int Go.IntKind.u8):=by kernel_rfl
@[simp] theorem Tra.underlying9:Tra.prog.underlying 9=Option.some Go.TypeDesc.string:=by kernel_rfl
@[simp] theorem Tra.underlying22:Tra.prog.underlying 22=Option.some (Go.TypeDesc.slice 28):=by kernel_rfl
@[simp] theorem Tra.underlying28:Tra.prog.underlying 28=Option.some (Go.TypeDesc.struct #[{ name := "A", type:=3,offset:=0,embedded:=Bool.false,tag := "", pkgPath := "", byteOffset:=0 },{ name := "B", type:=3,offset:=1,embedded:=Bool.false,tag := "", pkgPath := "", byteOffset:=8 },{ name := "Feud", type:=4,offset:=2,embedded:=Bool.false,tag := "", pkgPath := "", byteOffset:=16 }]):=by kernel_rfl
@[simp] theorem Tra.underlying29:Tra.prog.underlying 29=Option.some (Go.TypeDesc.slice 3):=by kernel_rfl
@[simp] theorem Tra.underlying42:Tra.prog.underlying 42=Option.some (Go.TypeDesc.struct #[{ name := "n", type:=3,offset:=0,embedded:=Bool.false,tag := "", pkgPath := "droveway/feuds", byteOffset:=0 },{ name := "ties", type:=22,offset:=1,embedded:=Bool.false,tag := "", pkgPath := "droveway/feuds", byteOffset:=8 }]):=by kernel_rfl
@[simp] theorem Tra.underlying56:Tra.prog.underlying 56=Option.some (Go.TypeDesc.int Go.IntKind.u64):=by kernel_rfl
@[simp] theorem Tra.underlying66:Tra.prog.underlying 66=Option.some (Go.TypeDesc.struct #[{ name := "a", type:=3,offset:=0,embedded:=Bool.false,tag := "", pkgPath := "droveway/graze", byteOffset:=0 },{ name := "b", type:=3,offset:=1,embedded:=Bool.false,tag := "", pkgPath := "droveway/graze", byteOffset:=8 }]):=by kernel_rfl
@[simp] theorem Tra.underlying73:Tra.prog.underlying 73=Option.some (Go.TypeDesc.map 74 4):=by kernel_rfl
@[simp] theorem Tra.underlying74:Tra.prog.underlying 74=Option.some (Go.TypeDesc.array 2 3):=by kernel_rfl
@[simp] theorem Tra.underlying77:Tra.prog.underlying 77=Option.some (Go.TypeDesc.map 3 3):=by kernel_rfl
@[simp] theorem Tra.underlying79:Tra.prog.underlying 79=Option.some (Go.TypeDesc.slice 29):=by kernel_rfl
@[simp] theorem Tra.underlying88:Tra.prog.underlying 88=Option.some (Go.TypeDesc.int Go.IntKind.u64):=by kernel_rfl
@[simp] theorem Tra.underlying94:Tra.prog.underlying 94=Option.some (Go.TypeDesc.slice 74):=by kernel_rfl
@[simp] theorem Tra.underlying100:Tra.prog.underlying 100=Option.some (Go.TypeDesc.struct #[{ name := "m", type:=3,offset:=0,embedded:=Bool.false,tag := "", pkgPath := "droveway/ambush", byteOffset:=0 },{ name := "lines", type:=29,offset:=1,embedded:=Bool.false,tag := "", pkgPath := "droveway/ambush", byteOffset:=8 }]):=by kernel_rfl
@[simp] theorem Tra.underlying102:Tra.prog.underlying 102=Option.some (Go.TypeDesc.struct #[{ name := "wolves", type:=3,offset:=0,embedded:=Bool.false,tag := "", pkgPath := "droveway/ambush", byteOffset:=0 },{ name := "dogs", type:=3,offset:=1,embedded:=Bool.false,tag := "", pkgPath := "droveway/ambush", byteOffset:=8 }]):=by kernel_rfl
@[simp] theorem Tra.underlying104:Tra.prog.underlying 104=Option.some (Go.TypeDesc.struct #[{ name := "position", type:=102,offset:=0,embedded:=Bool.true,tag := "", pkgPath := "droveway/ambush", byteOffset:=0 },{ name := "next", type:=3,offset:=2,embedded:=Bool.false,tag := "", pkgPath := "droveway/ambush", byteOffset:=16 }]):=by kernel_rfl
@[simp] theorem Tra.underlying109:Tra.prog.underlying 109=Option.some (Go.TypeDesc.map 104 3):=by kernel_rfl
@[simp] theorem Tra.underlying119:Tra.prog.underlying 119=Option.some (Go.TypeDesc.map 74 3):=by kernel_rfl
@[simp] theorem Tra.zeroValue3:∀ (w:Go.World),Go.Sem.run Tra.prog (Go.zeroValue 3) w=Go.Result.ok (Go.Value.int Go.IntKind.i64 0) w:=fun _=>by kernel_rfl
@[simp] theorem Tra.zeroValue4:∀ (w:Go.World),Go.Sem.run Tra.prog (Go.zeroValue 4) w=Go.Result.ok (Go.Value.bool Bool.false) w:=fun _=>by kernel_rfl
@[simp] theorem Tra.zeroValue28:∀ (w:Go.World),Go.Sem.run Tra.prog (Go.zeroValue 28) w=Go.Result.ok (Go.Value.agg #[Go.Value.int Go.IntKind.i64 0,Go.Value.int Go.IntKind.i64 0,Go.Value.bool Bool.false]) w:=fun _=>by kernel_rfl
@[simp] theorem Tra.zeroValue29:∀ (w:Go.World),Go.Sem.run Tra.prog (Go.zeroValue 29) w=Go.Result.ok (Go.Value.slice Option.none 0 0) w:=fun _=>by kernel_rfl
@[simp] theorem Tra.zeroValue42:∀ (w:Go.World),Go.Sem.run Tra.prog (Go.zeroValue 42) w=Go.Result.ok (Go.Value.agg #[Go.Value.int Go.IntKind.i64 0,Go.Value.slice Option.none 0 0]) w:=fun _=>by kernel_rfl
@[simp] theorem Tra.zeroValue66:∀ (w:Go.World),Go.Sem.run Tra.prog (Go.zeroValue 66) w=Go.Result.ok (Go.Value.agg #[Go.Value.int Go.IntKind.i64 0,Go.Value.int Go.IntKind.i64 0]) w:=fun _=>by kernel_rfl
@[simp] theorem Tra.zeroValue74:∀ (w:Go.World),Go.Sem.run Tra.prog (Go.zeroValue 74) w=Go.Result.ok (Go.Value.agg #[Go.Value.int Go.IntKind.i64 0,Go.Value.int Go.IntKind.i64 0]) w:=fun _=>by kernel_rfl
@[simp] theorem Tra.zeroValue100:∀ (w:Go.World),Go.Sem.run Tra.prog (Go.zeroValue 100) w=Go.Result.ok (Go.Value.agg #[Go.Value.int Go.IntKind.i64 0,Go.Value.slice Option.none 0 0]) w:=fun _=>by kernel_rfl
@[simp] theorem Tra.zeroValue102:∀ (w:Go.World),Go.Sem.run Tra.prog (Go.zeroValue 102) w=Go.Result.ok (Go.Value.agg #[Go.Value.int Go.IntKind.i64 0,Go.Value.int Go.IntKind.i64 0]) w:=fun _=>by kernel_rfl
@[simp] theorem Tra.zeroValue104:∀ (w:Go.World),Go.Sem.run Tra.prog (Go.zeroValue 104) w=Go.Result.ok (Go.Value.agg #[Go.Value.int Go.IntKind.i64 0,Go.Value.int Go.IntKind.i64 0,Go.Value.int Go.IntKind.i64 0]) w:=fun _=>by kernel_rfl
end Go.Proofs
namespace Go.Mt
open Go.Tr Go.Conc Go.ConcN Go.Proofs
section
variable {P:Program} {Post:FuncId->Array Value->World->Prop}
theorem y1j (u:World):retape u u.tape=u:=rfl
theorem _root_.Go.Tr.LT.congr (hP:∀ f t u τ,Post f t u->Post f t (retape u τ)) {g:Goroutine} {u v:World} (h:LT P Post g u) (e:retape v u.tape=u):LT P Post g v:=by
 have e2:∀ τ,retape v τ=retape u τ:=fun τ=>by rw [← e,y27]
 cases h with
 |@fin fr _ h1 h2 h3 =>
  have:=hP _ _ _ v.tape h3;rw [← e2,y1j] at this;exact .fin h1 h2 this
 |step nx hn hs hl=>exact .step nx hn (fun τ=>by rw [e2];exact hs τ) hl
theorem _root_.Go.Tr.LT.go (hP:∀ f t u τ,Post f t u->Post f t (retape u τ)) {fr:Frame} {cs:List Frame} {u:World} (h:LT P Post (G fr cs) u) (hn:¬ Fin [c0] (G fr cs)):∃ fr1 cs1 u1 es,stepG P true (G fr cs) u=.go (G fr1 cs1) u1 es∧LT P Post (G fr1 cs1) u1:=by
 generalize hg:G fr cs=g at h;cases h with
 |fin h1 h2 h3 =>
  obtain ⟨rfl,rfl⟩:=y79 hg;exact absurd ⟨rfl,h1⟩ hn
 |@step fr' cs' _ nx hn hs hl =>
  have h1:=hs u.tape;rw [y1j] at h1;refine ⟨_,_,_,_,h1,(hl u.tape).congr hP ?_⟩;rw [y27];rfl
theorem _root_.Go.Tr.LT.next (hP:∀ f t u τ,Post f t u->Post f t (retape u τ)) {fr:Frame} {cs:List Frame} {u:World} (h:LT P Post (G fr cs) u) (hn:¬ Fin [c0] (G fr cs)) {g1:Goroutine} {u1:World} {es:Array Event} (hs:stepG P true (G fr cs) u=.go g1 u1 es):LT P Post g1 u1:=by
 obtain ⟨fr1,cs1,u2,es2,h1,h2⟩:=h.go hP hn;rw [hs] at h1;injection h1 with e1 e2 e3
 rw [e1,e2];exact h2
theorem ybu {fr c:Frame} {cs:List Frame}:¬ Fin [c0] (G fr (c :: (cs ++ [c0]))):=by
 rintro ⟨h,_⟩
 have:=congrArg List.length (show c :: (cs ++ [c0])=[c0] from h);simp at this
end
end Go.Mt
namespace Go.Mt
open Go.Tr Go.Conc Go.ConcN Go.Proofs
theorem _root_.Go.Proofs.Tra.same:wf Tra.prog Try.prog.funcs=Try.prog:=rfl
def kdL:List (Nat × List (Nat × Nat)):=[(3,[(11,1),(41,1),(42,1),(46,1),(47,1),(67,2),(70,2),(73,2),(76,2),(79,2),(82,2),(95,2),(99,2),(102,2),(106,2),(109,2),(113,2),(116,2),(119,2),(156,1),(160,1)]),(4,[(24,1),(25,1),(31,1),(32,1),(36,1),(37,1),(44,1),(45,1),(57,1),(58,1),(62,1),(63,1),(69,1),(70,1),(74,1),(75,1)]),(5,[(9,2),(10,2),(13,2),(14,2),(17,2),(18,2),(21,2),(24,2),(60,1),(66,1)]),(6,[(6,1),(10,1),(11,2),(14,2),(26,1),(28,1)]),(7,[]),(8,[(23,1),(32,1)]),(10,[(27,1),(35,1),(47,1)]),(11,[]),(12,[(8,1),(13,2),(16,2),(21,1),(23,1),(40,1),(48,1)]),(13,[(5,2),(7,2),(10,2),(12,2)]),(14,[(4,1),(8,1),(27,1),(29,1),(33,1),(35,1),(40,1),(47,1),(49,1),(56,1),(58,1)]),(15,[(2,1),(9,1),(11,1),(21,1),(25,1),(30,1),(32,1),(35,1),(61,2)]),(16,[(1,1),(3,1)]),(17,[]),(18,[(1,1),(5,1),(12,1)]),(19,[(14,1),(16,2),(19,2)]),(20,[(9,1),(23,1),(27,1)]),(24,[(15,1),(19,1)]),(26,[(25,1),(29,1),(35,1),(39,1),(45,1),(49,1),(56,1),(64,1)]),(28,[]),(29,[]),(30,[(4,1)]),(31,[]),(32,[(10,1),(11,1),(13,2),(18,2)]),(33,[]),(34,[(10,2)]),(35,[(14,1)]),(36,[(13,1)]),(50,[(6,1),(14,1),(16,2),(19,2)]),(51,[]),(57,[(8,1),(9,1),(11,1),(12,1),(14,2),(18,2)]),(58,[]),(59,[(3,1),(4,1),(11,1),(15,1),(25,1),(28,1),(34,1),(43,1),(45,1),(49,1),(55,1),(59,1)]),(60,[(6,1),(23,1),(41,1)]),(61,[(1,1)]),(62,[(27,2),(33,2),(39,2),(42,2),(46,2),(54,2),(79,1),(83,1),(94,2),(99,2),(121,2),(132,2)]),(63,[]),(69,[(6,1),(7,1),(9,1),(11,1),(14,2),(17,2),(32,1),(33,2),(42,1),(47,1),(50,1),(55,1)]),(70,[(2,1),(3,1),(5,1)]),(71,[(2,1),(3,1),(5,1),(9,1),(11,1)]),(72,[]),(73,[(3,1),(6,1),(9,1),(14,1),(15,1),(20,1)]),(74,[(1,1)]),(75,[(1,1),(2,1)]),(76,[(1,1)]),(77,[(22,1),(27,1),(41,1),(45,1),(47,1),(48,1)]),(83,[]),(86,[]),(87,[]),(88,[(2,1),(4,1)]),(89,[(1,1),(5,1)]),(95,[]),(96,[(1,1)]),(9,[]),(78,[]),(79,[]),(80,[]),(81,[]),(82,[]),(84,[]),(85,[]),(21,[(7,1)])]
def kdOf (f:FuncId):y17:=fun t=>min 2 (match kdL.find? (fun p=>p.1 == f) with|some p=>(match p.2.find? (fun q=>q.1 == t) with|some q=>q.2|none=>0)|none=>0)
theorem kd_two (f:FuncId) (t:Nat):kdOf f t≤2:=Nat.min_le_left _ _
def lawL:List Nat:=[3,4,5,6,7,8,10,11,12,13,14,15,16,17,18,28,29,30,31,32,33,34,35,57,58,59,60,61,62,63,69,70,71,72,73,74,75,76,77,83,86,87,88,89,95,96]
def subL:List Nat:=[19,20,24,26,36,50,51]
def y7d:List Nat:=[9,78,79,80,81,82,84,85]
def S0 (f:FuncId):Bool:=subL.contains f
def S1 (f:FuncId):Bool:=(subL ++ lawL).contains f
def T1 (f:FuncId):Bool:=(y7d ++ (subL ++ lawL)).contains f
def T2 (f:FuncId):Bool:=(21 :: (y7d ++ (subL ++ lawL))).contains f
noncomputable def okG (fo:Option Func) (T:FuncId->Bool) (f:FuncId):Bool :=
 match fo with
 |some fn=>(match fn.body with
  |some c=>!(fn.name == "runtime.NumGoroutine") && (codeB Tra.prog T (kdOf f) c && (fn.results.all (resB (kdOf f)) && ((List.range fn.params.size).all (fun i=>kdOf f i == 0) && (List.range fn.nfree).all (fun i=>kdOf f (fn.params.size+i) == 1))))
  |none=>false)
 |none=>false
theorem y2m {T:FuncId->Bool} {f:FuncId} {fo:Option Func} (hf:Tra.prog.funcs[f]?=fo) (h:okG fo T f=true):y3y Tra.prog T (kdOf f) f:=by
 unfold okG at h;split at h
 ·rename_i fn
  split at h
  ·rename_i c hc
   simp only [Bool.and_eq_true,Bool.not_eq_true'] at h;obtain ⟨h1,h2,h3,h4,h5⟩:=h;exact ⟨kd_two f,fn,c,hf,hc,h1,h2,h3,fun i hi=>by simpa using List.all_eq_true.1 h4 i (List.mem_range.2 hi),fun i hi hj=>by
    have:=List.all_eq_true.1 h5 (i - fn.params.size) (List.mem_range.2 (by omega));rw [show fn.params.size+(i - fn.params.size)=i by omega] at this;simpa using this⟩
  ·cases h
 ·cases h
noncomputable def oldG (T:FuncId->Bool) (f:FuncId):Bool:=!(21 :: y7d).contains f && okG Try.prog.funcs[f]? T f
theorem y6t {T:FuncId->Bool} {f:FuncId} (h:oldG T f=true):Tra.Old f∧y3y Tra.prog T (kdOf f) f:=by
 simp only [oldG,Bool.and_eq_true,Bool.not_eq_true'] at h;have ho:Tra.Old f:=by
  have h1:=h.1;simp only [y7d,List.contains_eq_mem,List.mem_cons,List.not_mem_nil,or_false,decide_eq_false_iff_not,not_or] at h1;unfold Tra.Old;simp only [List.contains_eq_mem,List.mem_cons,List.not_mem_nil,or_false,decide_eq_false_iff_not,not_or];omega
 exact ⟨ho,y2m (Tra.func f ho) h.2⟩
theorem all0:subL.all (oldG S0)=true:=by kernel_rfl
theorem all1:(subL ++ lawL).all (oldG T1)=true:=by kernel_rfl
theorem all2:(subL ++ lawL).all (oldG T2)=true:=by kernel_rfl
theorem calm9:y3y Tra.prog T2 (kdOf 9) 9:=y2m Tra.func9 (by kernel_rfl)
theorem calm78:y3y Tra.prog T2 (kdOf 78) 78:=y2m Tra.func78 (by kernel_rfl)
theorem calm79:y3y Tra.prog T2 (kdOf 79) 79:=y2m Tra.func79 (by kernel_rfl)
theorem calm80:y3y Tra.prog T2 (kdOf 80) 80:=y2m Tra.func80 (by kernel_rfl)
theorem calm81:y3y Tra.prog T2 (kdOf 81) 81:=y2m Tra.func81 (by kernel_rfl)
theorem calm82:y3y Tra.prog T2 (kdOf 82) 82:=y2m Tra.func82 (by kernel_rfl)
theorem calm84:y3y Tra.prog T2 (kdOf 84) 84:=y2m Tra.func84 (by kernel_rfl)
theorem calm85:y3y Tra.prog T2 (kdOf 85) 85:=y2m Tra.func85 (by kernel_rfl)
theorem calm21:y3y Tra.prog T2 (kdOf 21) 21:=y2m Tra.func21 (by kernel_rfl)
theorem y6z {T:FuncId->Bool} {f:FuncId} (h20:Tra.Old f) (h:y3y Tra.prog T (kdOf f) f):Has Tra.prog Try.prog.funcs f:=by
 obtain ⟨fn,c,hf,hb,hn,_⟩:=h.fn;have hb':fn.body.isNone=false:=by rw [hb];rfl
 exact ⟨fn,fn,⟨hf,hn,hb'⟩,(Tra.func f h20).symm.trans hf,hn,hb'⟩
theorem has9:Has Tra.prog Try.prog.funcs 9:=⟨Tra.f9,Try.f9,⟨Tra.func9,by kernel_rfl,rfl⟩,Try.func9,by kernel_rfl,rfl⟩
theorem has78:Has Tra.prog Try.prog.funcs 78:=⟨Tra.f78,Try.f78,⟨Tra.func78,by kernel_rfl,rfl⟩,Try.func78,by kernel_rfl,rfl⟩
theorem has79:Has Tra.prog Try.prog.funcs 79:=⟨Tra.f79,Try.f79,⟨Tra.func79,by kernel_rfl,rfl⟩,Try.func79,by kernel_rfl,rfl⟩
theorem has80:Has Tra.prog Try.prog.funcs 80:=⟨Tra.f80,Try.f80,⟨Tra.func80,by kernel_rfl,rfl⟩,Try.func80,by kernel_rfl,rfl⟩
theorem has81:Has Tra.prog Try.prog.funcs 81:=⟨Tra.f81,Try.f81,⟨Tra.func81,by kernel_rfl,rfl⟩,Try.func81,by kernel_rfl,rfl⟩
theorem has82:Has Tra.prog Try.prog.funcs 82:=⟨Tra.f82,Try.f82,⟨Tra.func82,by kernel_rfl,rfl⟩,Try.func82,by kernel_rfl,rfl⟩
theorem has84:Has Tra.prog Try.prog.funcs 84:=⟨Tra.f84,Try.f84,⟨Tra.func84,by kernel_rfl,rfl⟩,Try.func84,by kernel_rfl,rfl⟩
theorem has85:Has Tra.prog Try.prog.funcs 85:=⟨Tra.f85,Try.f85,⟨Tra.func85,by kernel_rfl,rfl⟩,Try.func85,by kernel_rfl,rfl⟩
theorem yis {T:FuncId->Bool} {f:FuncId} (h:y3y Tra.prog T (kdOf f) f):Has Tra.prog Tra.prog.funcs f:=by
 obtain ⟨fn,c,hf,hb,hn,_⟩:=h.fn;have hb':fn.body.isNone=false:=by rw [hb];rfl
 exact ⟨fn,fn,⟨hf,hn,hb'⟩,hf,hn,hb'⟩
theorem mem0 {f:FuncId} (h:S0 f=true):Tra.Old f∧y3y Tra.prog S0 (kdOf f) f:=y6t (List.all_eq_true.1 all0 f (by simpa [S0] using h))
theorem mem1 {f:FuncId} (h:S1 f=true):Tra.Old f∧y3y Tra.prog T1 (kdOf f) f:=y6t (List.all_eq_true.1 all1 f (by simpa [S1] using h))
theorem mem2 {f:FuncId} (h:S1 f=true):Tra.Old f∧y3y Tra.prog T2 (kdOf f) f:=y6t (List.all_eq_true.1 all2 f (by simpa [S1] using h))
theorem memT {f:FuncId} (h:T1 f=true):f ∈ y7d∨S1 f=true:=by
 have:f ∈ y7d ++ (subL ++ lawL):=by simpa [T1] using h
 exact (List.mem_append.1 this).imp id fun h=>by simpa [S1] using h
theorem memT2 {f:FuncId} (h:T2 f=true):f=21∨T1 f=true:=by
 have:f ∈ 21 :: (y7d ++ (subL ++ lawL)):=by simpa [T2] using h
 exact (List.mem_cons.1 this).imp id fun h=>by simpa [T1] using h
theorem y5d {f:FuncId} (h:f ∈ y7d):f=9∨f=78∨f=79∨f=80∨f=81∨f=82∨f=84∨f=85:=by
 simpa [y7d] using h
structure Duo (P:Program) (S:FuncId->Bool) (kdOf:FuncId->y17):Prop where
 same:wf P Try.prog.funcs=Try.prog
 calm:y34 P Try.prog.funcs S S kdOf
theorem _root_.Go.Proofs.Tra.duo:Duo Tra.prog S0 kdOf:=⟨Tra.same,⟨fun f h=>(mem0 h).2,fun f h=>(Tra.func f (mem0 h).1).symm,fun f h=>y6z (mem0 h).1 (mem0 h).2,fun p _ h=>h⟩⟩
theorem clo1:∀ p ∈ cloT,S1 p.1=true:=by decide
theorem _root_.Go.Proofs.Tra.calm1:y34 Tra.prog Try.prog.funcs S1 T1 kdOf:=⟨fun f h=>(mem1 h).2,fun f h=>(Tra.func f (mem1 h).1).symm,fun f h=>by
 rcases memT h with h|h
 ·rcases y5d h with rfl|rfl|rfl|rfl|rfl|rfl|rfl|rfl
  ·exact has9
  ·exact has78
  ·exact has79
  ·exact has80
  ·exact has81
  ·exact has82
  ·exact has84
  ·exact has85
 ·exact y6z (mem1 h).1 (mem1 h).2,fun p hp _=>clo1 p hp⟩
theorem calmTT {f:FuncId} (h:T2 f=true):y3y Tra.prog T2 (kdOf f) f:=by
 rcases memT2 h with rfl|h
 ·exact calm21
 rcases memT h with h|h
 ·rcases y5d h with rfl|rfl|rfl|rfl|rfl|rfl|rfl|rfl
  ·exact calm9
  ·exact calm78
  ·exact calm79
  ·exact calm80
  ·exact calm81
  ·exact calm82
  ·exact calm84
  ·exact calm85
 ·exact (mem2 h).2
theorem _root_.Go.Proofs.Tra.calmT:y34 Tra.prog Tra.prog.funcs T2 T2 kdOf:=⟨fun f h=>calmTT h,fun f h=>rfl,fun f h=>yis (calmTT h),fun p _ h=>h⟩
theorem _root_.Go.Proofs.Tra.specs:∀ f,T1 f=true->S1 f=false->f ∈ y7d:=fun f h hs=>(memT h).resolve_right (by rw [hs];decide)
theorem _root_.Go.Proofs.Tra.s20:S0 20=true:=by decide
theorem _root_.Go.Proofs.Tra.s24:S0 24=true:=by decide
theorem _root_.Go.Proofs.Tra.s26:S0 26=true:=by decide
end Go.Mt
namespace Go.Mt
open Go.Tr Go.Conc Go.ConcN Go.Proofs
theorem y9k {P:Program} {main:Bool} {b:Frame} {a:Act} {todo:List Item} {c:Frame} {cs:List Frame} {w:World} {fn:Func} {i:Nat} (hn:b.kind=.normal) (hd:a.defers=[]) (hf:P.funcs[b.fn]?=some fn) (hr:fn.results=#[.tmp i]) :
  stepG P main (G { b.at a todo with mode:=.returning } (c :: cs)) w=.go (G (c.finish (a.tmps.getD i undef)) cs) w #[]:=by
 refine stepG_leave (v:=a.tmps.getD i undef) hn hd hf ?_ ?_
 ·simp [results,hr]
 ·simp [results,hr]
section
variable {P:Program} {Post:FuncId->Array Value->World->Prop} {g0:Goroutine} {u0:World}
structure At (P:Program) (Post:FuncId->Array Value->World->Prop) (g0:Goroutine) (u0:World) (g:Goroutine) (u:World):Prop where
 lt:LT P Post g u
 path:LPath P g0 u0 g u
theorem At.go (hP:∀ f t u τ,Post f t u->Post f t (retape u τ)) {fr c:Frame} {cs:List Frame} {u u1:World} {g1:Goroutine} {es:Array Event} (h:At P Post g0 u0 (G fr (c :: (cs ++ [c0]))) u) (hs:stepG P true (G fr (c :: (cs ++ [c0]))) u=.go g1 u1 es) (ht:u1.tape=u.tape):At P Post g0 u0 g1 u1 :=
 ⟨h.lt.next hP ybu hs,h.path.trans (.cons u.tape (by rw [y1j,hs,← ht,y1j]) (.nil (y1j u1)))⟩
theorem At.bad (hP:∀ f t u τ,Post f t u->Post f t (retape u τ)) {f i:Nat} {tm:Array Value} {ops:Array Oper} {rest:List Nat} {td:List Item} {c:Frame} {cs:List Frame} {u:World} {o:Oper} {s:Sem Next} (h:At P Post g0 u0 (G ((base f).at ⟨tm,[]⟩ (.inRegion ops (i :: rest) :: td)) (c :: (cs ++ [c0]))) u) (hcs:∀ x ∈ c :: cs,x.defers=[])
  (ho:ops[i]?=some o) (hw:Region.wanted o (yielded ops tm)=true) (he:execOp (Act.eval ⟨tm,[]⟩) o=s) (hr:∃ hh u1,s.run P u=.halt hh u1∧y0z hh):False:=by
 obtain ⟨hh,u1,hr,hc⟩:=hr;have h1:stepG P true (G ((base f).at ⟨tm,[]⟩ (.inRegion ops (i :: rest) :: td)) (c :: (cs ++ [c0]))) u=_:=stepG_oper ho hw;rw [he] at h1;have e:(base f).at ⟨tm,[]⟩ (.inRegion ops (i :: rest) :: td)=frm f tm (.inRegion ops (i :: rest) :: td) .run:=rfl;rw [e] at h1 h;obtain ⟨fr1,cs1,u2,es2,h2,h3⟩:=h.lt.go hP ybu;rcases y4u (P:=P) (f:=f) (tm:=tm) (ops:=ops) (i:=i) (rest:=rest) (td:=td) (cs:=c :: (cs ++ [c0])) hc hr with ⟨o1,u3,es3,h4⟩|⟨ch,u3,es3,h4⟩
 ·rw [h1,h4] at h2
  cases h2
 ·rw [h1,h4] at h2
  injection h2 with e1 e2 e3
  rw [← e1] at h3;exact y6s h3 ⟨_,c :: cs,ch,rfl,rfl,rfl,hcs⟩
theorem At.badv (hP:∀ f t u τ,Post f t u->Post f t (retape u τ)) {f i:Nat} {tm:Array Value} {ops:Array Oper} {rest:List Nat} {td:List Item} {c:Frame} {cs:List Frame} {u:World} {o:Oper} {s:Sem Value} (h:At P Post g0 u0 (G ((base f).at ⟨tm,[]⟩ (.inRegion ops (i :: rest) :: td)) (c :: (cs ++ [c0]))) u) (hcs:∀ x ∈ c :: cs,x.defers=[])
  (ho:ops[i]?=some o) (hw:Region.wanted o (yielded ops tm)=true) (he:execOp (Act.eval ⟨tm,[]⟩) o=s.bind fun v=>.pure (.value v)) (hr:∃ hh u1,s.run P u=.halt hh u1∧y0z hh):False:=by
 obtain ⟨hh,u1,hr,hc⟩:=hr;refine h.bad hP hcs ho hw he ⟨hh,u1,?_,hc⟩;show Sem.run P (s >>= fun v=>(pure (.value v):Sem Next)) u=_;rw [Sem.run_bind,hr];rfl
end
abbrev wa:Array Oper:=#[{ dst:=some 1,op:=Go.Op.assign (Go.Operand.const (Go.Value.int Go.IntKind.i64 0)),type:=3,pos := "", after:=#[],guard:=none }]
abbrev ws:Array Oper:=#[{ dst:=some 3,op:=Go.Op.call { callee:=Go.Callee.builtin Go.Builtin.len,args:=#[Go.Operand.tmp 0],argTypes:=#[29] },type:=3,pos := "", after:=#[],guard:=none },{ dst:=some 4,op:=Go.Op.slice 29 (Go.Operand.tmp 0) none (some (Go.Operand.tmp 3)) none,type:=29,pos := "", after:=#[{ on:=0,ground:=Go.Ground.data }],guard:=none }]
abbrev wb:Array Oper:=#[{ dst:=some 2,op:=Go.Op.assign (Go.Operand.const (Go.Value.int Go.IntKind.i64 0)),type:=3,pos := "", after:=#[],guard:=none }]
abbrev wc:Array Oper:=#[{ dst:=some 5,op:=Go.Op.call { callee:=Go.Callee.builtin Go.Builtin.len,args:=#[Go.Operand.tmp 0],argTypes:=#[29] },type:=3,pos := "", after:=#[],guard:=none },{ dst:=some 6,op:=Go.Op.binOp Go.BinOp.lss 3 (Go.Operand.tmp 2) (Go.Operand.tmp 5) 3,type:=4,pos := "", after:=#[{ on:=0,ground:=Go.Ground.data }],guard:=none }]
abbrev wd:Array Oper:=#[{ dst:=some 7,op:=Go.Op.indexAddr 29 (Go.Operand.tmp 0) (Go.Operand.tmp 2),type:=0,pos := "", after:=#[],guard:=none },{ dst:=some 8,op:=Go.Op.load 3 (Go.Operand.tmp 7),type:=3,pos := "", after:=#[{ on:=0,ground:=Go.Ground.data }],guard:=none },{ dst:=some 9,op:=Go.Op.binOp Go.BinOp.add 3 (Go.Operand.tmp 1) (Go.Operand.tmp 8) 3,type:=3,pos := "", after:=#[{ on:=1,ground:=Go.Ground.data }],guard:=none },{ dst:=some 1,op:=Go.Op.assign (Go.Operand.tmp 9),type:=3,pos := "", after:=#[{ on:=2,ground:=Go.Ground.data }],guard:=none }]
abbrev we:Array Oper:=#[{ dst:=some 10,op:=Go.Op.binOp Go.BinOp.add 3 (Go.Operand.tmp 2) (Go.Operand.const (Go.Value.int Go.IntKind.i64 1)) 3,type:=3,pos := "", after:=#[],guard:=none },{ dst:=some 2,op:=Go.Op.assign (Go.Operand.tmp 10),type:=3,pos := "", after:=#[{ on:=0,ground:=Go.Ground.data }],guard:=none }]
abbrev wL:Code:=((((Go.Code.region 2 wc false).seq (Go.Code.cond (Go.Operand.tmp 6) Go.Code.skip (Go.Code.exit 0))).seq ((Go.Code.block 1 (Go.Code.region 3 wd false)).seq (Go.Code.region 4 we false))))
abbrev wB:Code:=((Go.Code.region 0 wa false).seq ((Go.Code.region 5 ws false).seq (((Go.Code.region 1 wb false).seq (Go.Code.block 0 wL.loop)).seq Go.Code.ret)))
theorem body60:Tra.f21.body=some wB:=rfl
abbrev wa0:Oper:=wa[0]'(by decide)
abbrev ws0:Oper:=ws[0]'(by decide)
abbrev ws1:Oper:=ws[1]'(by decide)
abbrev wb0:Oper:=wb[0]'(by decide)
abbrev wc0:Oper:=wc[0]'(by decide)
abbrev wc1:Oper:=wc[1]'(by decide)
abbrev wd0:Oper:=wd[0]'(by decide)
abbrev wd1:Oper:=wd[1]'(by decide)
abbrev wd2:Oper:=wd[2]'(by decide)
abbrev wd3:Oper:=wd[3]'(by decide)
abbrev we0:Oper:=we[0]'(by decide)
abbrev we1:Oper:=we[1]'(by decide)
theorem hands60 (v:Value):Frame.enter Tra.prog 21 #[v] .normal=(base 21).at ⟨#[v,undef,undef,undef,undef,undef,undef,undef,undef,undef,undef],[]⟩ [.code wB]:=by
 rw [enter_at _ Tra.func21 body60,Tra.ntmps21];rfl
def ycc (u:World) (a:Option Addr):Prop:=∀ ad,a=some ad->(∃ cs e fr,u.heap[ad.block]?=some (.cells cs e fr)∧∀ (i:Nat) (x:Value),cs[i]?=some x->∃ K L y,RelC K L x y)∨(∃ es cl,u.heap[ad.block]?=some (.map es cl))∨∃ st p,u.heap[ad.block]?=some (.stringIter st p)
theorem ygn {u:World} {a:Option Addr} (h:ycc u a) {ad:Addr} (ha:a=some ad) (j:Nat):(∃ x,u.cell? (ad.add j)=some x∧∃ K L y,RelC K L x y)∨(u.cell? (ad.add j)=none∧∃ hh,u.farLoad Tra.prog (ad.add j) false=.error hh∧y0z hh):=by
 have hb:(ad.add j).block=ad.block:=by unfold Addr.add;split<;>rfl
 rcases h ad ha with ⟨cs,e,fr,h1,h2⟩|⟨es,cl,h1⟩|⟨st,p,h1⟩
 ·rw [← hb] at h1
  cases hx:u.cell? (ad.add j) with
  |none=>exact .inr ⟨rfl,y1w h1 (.inl ⟨_,_,_,rfl⟩)⟩
  |some x =>
   rw [y1z h1] at hx;split at hx
   ·cases hx
   ·exact .inl ⟨x,rfl,h2 _ x hx⟩
 ·rw [← hb] at h1
  refine .inr ⟨?_,y1w h1 (.inr (.inl ⟨_,_,rfl⟩))⟩;rw [y3s h1]
 ·rw [← hb] at h1
  refine .inr ⟨?_,y1w h1 (.inr (.inr ⟨_,_,rfl⟩))⟩;simp [World.cell?,h1]
abbrev St60 (c:Frame) (cs:List Frame) (tm:Array Value) (k:List Item):Goroutine:=G ((base 21).at ⟨tm,[]⟩ k) (c :: (cs ++ [c0]))
theorem ix_bad {u:World} {a:Option Addr} {n cp:Nat} {i:Int} (h:a=none∨¬ 0≤i):∃ hh u1,(Instr.indexAt 29 (.slice a n cp) (.int .i64 i)).run Tra.prog u=.halt hh u1∧y0z hh:=by
 obtain ⟨v,u1,hv⟩:∃ v u1,(Instr.indexAt 29 (.slice a n cp) (.int .i64 i)).run Tra.prog u=.halt (.panic v) u1:=by
  rcases h with rfl|h
  ·simp [Instr.indexAt,boundsPanic,runtimePanic,go_sem,Tra.runUnderlying29]
   split<;>exact ⟨_,_,rfl⟩
  ·cases a with
   |none =>
    simp [Instr.indexAt,boundsPanic,runtimePanic,go_sem,Tra.runUnderlying29];split<;>exact ⟨_,_,rfl⟩
   |some ad =>
    simp [Instr.indexAt,boundsPanic,runtimePanic,go_sem,Tra.runUnderlying29,h]
 exact ⟨_,u1,hv,trivial⟩
theorem len_bad {u:World} {v:Value} (h:¬ ∃ a n cp,v=.slice a n cp):∃ hh u1,(Builtin.len_ #[29] 3 #[v]).run Tra.prog u=.halt hh u1∧y0z hh:=by
 obtain ⟨s,hs⟩:∃ s,(Builtin.len_ #[29] 3 #[v]).run Tra.prog u=.halt (.stuck s) u:=by
  refine ⟨"len: string, array, pointer to array, slice, map or channel expected", ?_⟩;cases v<;>first|(exfalso;exact h ⟨_,_,_,rfl⟩)|(unfold Builtin.len_;simp [go_sem,Tra.runUnderlying29];done)
 exact ⟨_,_,hs,trivial⟩
theorem add_bad {u:World} {s:Int} {x y:Value} {K:Cfg} {L:List Nat} (hr:RelC K L x y) (hz:¬ ∃ z,x=.int .i64 z):∃ hh u1,(do eqGuard .add 3 (.tmp 1) (.tmp 8) (.int .i64 s) x;binOp .add 3 (.int .i64 s) x:Sem Value).run Tra.prog u=.halt hh u1∧y0z hh:=by
 cases hr with
 |flat h =>
  cases x<;>simp [y1m] at h<;>first|(simp [eqGuard,binOp,go_sem,y0z];done)|skip
  rename_i k z;have hk:IntKind.i64≠k:=by
   rintro rfl
   exact hz ⟨z,rfl⟩
  simp [eqGuard,binOp,go_sem,hk,y0z]
 |slice _ _ _=>simp [eqGuard,binOp,go_sem,y0z]
 |map _=>simp [eqGuard,binOp,go_sem,y0z]
 |func _ _ _=>simp [eqGuard,binOp,go_sem,y0z]
section
variable {Post:FuncId->Array Value->World->Prop} {g0:Goroutine} {u0 u:World} {c:Frame} {cs:List Frame} {a:Option Addr} {n cp:Nat}
theorem ybd (hP:∀ f t u τ,Post f t u->Post f t (retape u τ)) (hcs:∀ x ∈ c :: cs,x.defers=[]) (hs:ycc u a) {s i:Int} {a3 a4 a5 a6 a7 a8 a9 a10:Value} {k:List Item}
  (h:At Tra.prog Post g0 u0 (St60 c cs #[.slice a n cp,.int .i64 s,.int .i64 i,a3,a4,a5,a6,a7,a8,a9,a10] (.code wL :: k)) u) :
  (i<n∧0≤i∧(∃ ad x,a=some ad∧u.cell? (ad.add i.toNat)=some (.int .i64 x))∧∃ s' a3 a4 a5 a6 a7 a8 a9 a10,At Tra.prog Post g0 u0 (St60 c cs #[.slice a n cp,.int .i64 s',.int .i64 (IntKind.i64.wrap (i+1)),a3,a4,a5,a6,a7,a8,a9,a10] k) u) ∨
  (¬ i<n∧∃ a3 a4 a5 a6 a7 a8 a9 a10,At Tra.prog Post g0 u0 (St60 c cs #[.slice a n cp,.int .i64 s,.int .i64 i,a3,a4,a5,a6,a7,a8,a9,a10] (.code (.exit 0) :: .code ((Go.Code.block 1 (Go.Code.region 3 wd false)).seq (Go.Code.region 4 we false)) :: k)) u):=by
 replace h:=h.go hP stepG_seq rfl;replace h:=h.go hP stepG_seq rfl;replace h:=h.go hP stepG_region rfl;have e1:(execOp (Act.eval ⟨#[.slice a n cp,.int .i64 s,.int .i64 i,a3,a4,a5,a6,a7,a8,a9,a10],[]⟩) wc0).run Tra.prog u=.ok (.value (.int .i64 n)) u:=by
  unfold execOp;simp [go_sem,Tra.runUnderlying29,Act.eval]
 replace h:At Tra.prog Post g0 u0 (St60 c cs #[.slice a n cp,.int .i64 s,.int .i64 i,a3,a4,.int .i64 n,a6,a7,a8,a9,a10] (.inRegion wc [1] :: .code (.cond (.tmp 6) .skip (.exit 0)) :: .code ((Go.Code.block 1 (Go.Code.region 3 wd false)).seq (Go.Code.region 4 we false)) :: k)) u:=h.go hP (stepG_value (o:=wc0) rfl rfl (by decide) e1) rfl;have e2:(execOp (Act.eval ⟨#[.slice a n cp,.int .i64 s,.int .i64 i,a3,a4,.int .i64 n,a6,a7,a8,a9,a10],[]⟩) wc1).run Tra.prog u=.ok (.value (.bool (decide (i<n)))) u:=by
  unfold execOp;simp [go_sem,Tra.runUnderlying3,Act.eval]
 replace h:At Tra.prog Post g0 u0 (St60 c cs #[.slice a n cp,.int .i64 s,.int .i64 i,a3,a4,.int .i64 n,.bool (decide (i<n)),a7,a8,a9,a10] (.inRegion wc [] :: .code (.cond (.tmp 6) .skip (.exit 0)) :: .code ((Go.Code.block 1 (Go.Code.region 3 wd false)).seq (Go.Code.region 4 we false)) :: k)) u:=h.go hP (stepG_value (o:=wc1) rfl rfl (by decide) e2) rfl;replace h:=h.go hP stepG_region_end rfl;replace h:=h.go hP (stepG_cond (t:=decide (i<n)) rfl) rfl
 by_cases hi:i<n
 rotate_left
 ·right
  rw [zDf hi] at h;exact ⟨hi,_,_,_,_,_,_,_,_,h⟩
 left;rw [zDt hi] at h;replace h:=h.go hP stepG_skip rfl;replace h:=h.go hP stepG_seq rfl;replace h:=h.go hP stepG_block rfl;replace h:=h.go hP stepG_region rfl;cases a with
 |none =>
  exfalso;exact h.badv hP hcs (o:=wd0) rfl rfl (s:=Instr.indexAt 29 (.slice none n cp) (.int .i64 i)) rfl (ix_bad (.inl rfl))
 |some ad =>
  by_cases h0:0≤i
  rotate_left
  ·exfalso
   exact h.badv hP hcs (o:=wd0) rfl rfl (s:=Instr.indexAt 29 (.slice (some ad) n cp) (.int .i64 i)) rfl (ix_bad (.inr h0))
  refine ⟨hi,h0,?_⟩;have e3:(execOp (Act.eval ⟨#[.slice (some ad) n cp,.int .i64 s,.int .i64 i,a3,a4,.int .i64 n,.bool (decide (i<n)),a7,a8,a9,a10],[]⟩) wd0).run Tra.prog u=.ok (.value (.pointer (some (ad.add i.toNat)))) u:=by
   unfold execOp;simp [go_sem,Tra.runUnderlying29,Tra.sizeOf3,Act.eval,h0,hi]
  rw [zDt hi] at e3;replace h:At Tra.prog Post g0 u0 (St60 c cs #[.slice (some ad) n cp,.int .i64 s,.int .i64 i,a3,a4,.int .i64 n,.bool true,.pointer (some (ad.add i.toNat)),a8,a9,a10] (.inRegion wd [1,2,3] :: .inBlock 1 :: .code (Go.Code.region 4 we false) :: k)) u:=h.go hP (stepG_value (o:=wd0) rfl rfl (by decide) e3) rfl;rcases ygn hs rfl i.toNat with ⟨x,hx,K,L,y,hr⟩|⟨hx,hh,hf,hc⟩
  rotate_left
  ·exfalso
   refine h.badv hP hcs (o:=wd1) rfl rfl (s:=Instr.loadAt 3 (.pointer (some (ad.add i.toNat)))) rfl ⟨hh,u,?_,hc⟩;have hf':u.farLoad Tra.prog (ad.add i.toNat) (Mode.plain == Mode.atomic)=.error hh:=hf;simp [Instr.loadAt,loadVar,load,go_sem,Tra.isAgg3,Sem.run,hx,hf']
  have e4:(execOp (Act.eval ⟨#[.slice (some ad) n cp,.int .i64 s,.int .i64 i,a3,a4,.int .i64 n,.bool true,.pointer (some (ad.add i.toNat)),a8,a9,a10],[]⟩) wd1).run Tra.prog u=.ok (.value x) u:=by
   unfold execOp;simp [go_sem,Tra.isAgg3,Act.eval,hx]
  replace h:At Tra.prog Post g0 u0 (St60 c cs #[.slice (some ad) n cp,.int .i64 s,.int .i64 i,a3,a4,.int .i64 n,.bool true,.pointer (some (ad.add i.toNat)),x,a9,a10] (.inRegion wd [2,3] :: .inBlock 1 :: .code (Go.Code.region 4 we false) :: k)) u:=h.go hP (stepG_value (o:=wd1) rfl rfl (by decide) e4) rfl;have key:∃ z,x=.int .i64 z:=by
   by_cases hz:∃ z,x=.int .i64 z
   ·exact hz
   ·exfalso
    exact h.badv hP hcs (o:=wd2) rfl rfl (s:=do eqGuard .add 3 (.tmp 1) (.tmp 8) (.int .i64 s) x;binOp .add 3 (.int .i64 s) x) rfl (add_bad hr hz)
  obtain ⟨z,rfl⟩:=key;refine ⟨⟨ad,z,rfl,hx⟩,?_⟩;have e5:(execOp (Act.eval ⟨#[.slice (some ad) n cp,.int .i64 s,.int .i64 i,a3,a4,.int .i64 n,.bool true,.pointer (some (ad.add i.toNat)),.int .i64 z,a9,a10],[]⟩) wd2).run Tra.prog u=.ok (.value (.int .i64 (IntKind.i64.wrap (s+z)))) u:=by
   unfold execOp;simp [go_sem,Tra.runUnderlying3,Act.eval]
  replace h:At Tra.prog Post g0 u0 (St60 c cs #[.slice (some ad) n cp,.int .i64 s,.int .i64 i,a3,a4,.int .i64 n,.bool true,.pointer (some (ad.add i.toNat)),.int .i64 z,.int .i64 (IntKind.i64.wrap (s+z)),a10] (.inRegion wd [3] :: .inBlock 1 :: .code (Go.Code.region 4 we false) :: k)) u:=h.go hP (stepG_value (o:=wd2) rfl rfl (by decide) e5) rfl;replace h:At Tra.prog Post g0 u0 (St60 c cs #[.slice (some ad) n cp,.int .i64 (IntKind.i64.wrap (s+z)),.int .i64 i,a3,a4,.int .i64 n,.bool true,.pointer (some (ad.add i.toNat)),.int .i64 z,.int .i64 (IntKind.i64.wrap (s+z)),a10] (.inRegion wd [] :: .inBlock 1 :: .code (Go.Code.region 4 we false) :: k)) u:=h.go hP (stepG_value (o:=wd3) rfl rfl (by decide) (w':=u) (v:=.int .i64 (IntKind.i64.wrap (s+z))) (by unfold execOp;simp [go_sem,Act.eval])) rfl;replace h:=h.go hP stepG_region_end rfl;replace h:=h.go hP stepG_inBlock rfl;replace h:=h.go hP stepG_region rfl;have e6:(execOp (Act.eval ⟨#[.slice (some ad) n cp,.int .i64 (IntKind.i64.wrap (s+z)),.int .i64 i,a3,a4,.int .i64 n,.bool true,.pointer (some (ad.add i.toNat)),.int .i64 z,.int .i64 (IntKind.i64.wrap (s+z)),a10],[]⟩) we0).run Tra.prog u=.ok (.value (.int .i64 (IntKind.i64.wrap (i+1)))) u:=by
   unfold execOp;simp [go_sem,Tra.runUnderlying3,Act.eval]
  replace h:At Tra.prog Post g0 u0 (St60 c cs #[.slice (some ad) n cp,.int .i64 (IntKind.i64.wrap (s+z)),.int .i64 i,a3,a4,.int .i64 n,.bool true,.pointer (some (ad.add i.toNat)),.int .i64 z,.int .i64 (IntKind.i64.wrap (s+z)),.int .i64 (IntKind.i64.wrap (i+1))] (.inRegion we [1] :: k)) u:=h.go hP (stepG_value (o:=we0) rfl rfl (by decide) e6) rfl;replace h:At Tra.prog Post g0 u0 (St60 c cs #[.slice (some ad) n cp,.int .i64 (IntKind.i64.wrap (s+z)),.int .i64 (IntKind.i64.wrap (i+1)),a3,a4,.int .i64 n,.bool true,.pointer (some (ad.add i.toNat)),.int .i64 z,.int .i64 (IntKind.i64.wrap (s+z)),.int .i64 (IntKind.i64.wrap (i+1))] (.inRegion we [] :: k)) u:=h.go hP (stepG_value (o:=we1) rfl rfl (by decide) (w':=u) (v:=.int .i64 (IntKind.i64.wrap (i+1))) (by unfold execOp;simp [go_sem,Act.eval])) rfl;replace h:=h.go hP stepG_region_end rfl;exact ⟨_,_,_,_,_,_,_,_,_,h⟩
theorem wrap_lo {i:Nat} (h:i+1≤9223372036854775807):IntKind.i64.wrap ((i:Int)+1)=((i+1:Nat):Int):=by
 have:=IntKind.wrap_i64 ((i:Int)+1);rw [this];omega
theorem wrap_hi {i:Nat} (h:i≤9223372036854775807) (h':¬ i+1≤9223372036854775807):IntKind.i64.wrap ((i:Int)+1)<0:=by
 have:=IntKind.wrap_i64 ((i:Int)+1);rw [this];omega
theorem loop60 (hP:∀ f t u τ,Post f t u->Post f t (retape u τ)) (hcs:∀ x ∈ c :: cs,x.defers=[]) (hs:ycc u a) (d:Nat):∀ (i:Nat) (s:Int) (a3 a4 a5 a6 a7 a8 a9 a10:Value),i+d=n->i≤9223372036854775807 →
  At Tra.prog Post g0 u0 (St60 c cs #[.slice a n cp,.int .i64 s,.int .i64 i,a3,a4,a5,a6,a7,a8,a9,a10] [.code wL,.inLoop wL,.inBlock 0,.code .ret]) u →
  n≤9223372036854775807∧(∀ j,i≤j->j<n->∃ ad x,a=some ad∧u.cell? (ad.add j)=some (.int .i64 x))∧∃ s',At Tra.prog Post g0 u0 (G (c.finish (.int .i64 s')) (cs ++ [c0])) u:=by
 induction d with
 |zero =>
  intro i s a3 a4 a5 a6 a7 a8 a9 a10 hd hm h;rcases ybd hP hcs hs h with ⟨hi,_⟩|⟨_,b3,b4,b5,b6,b7,b8,b9,b10,h⟩
  ·omega
  refine ⟨by omega,fun j h1 h2=>by omega,s,?_⟩;replace h:=h.go hP (stepG_exit (k':=[.code .ret]) rfl) rfl;replace h:=h.go hP stepG_ret' rfl;have e9:stepG Tra.prog true (G { (base 21).at ⟨#[.slice a n cp,.int .i64 s,.int .i64 i,b3,b4,b5,b6,b7,b8,b9,b10],[]⟩ [.code .ret] with mode:=.returning } (c :: (cs ++ [c0]))) u=.go (G (c.finish (.int .i64 s)) (cs ++ [c0])) u:=y9k (i:=1) rfl rfl Tra.func21 (by kernel_rfl);exact h.go hP e9 rfl
 |succ d ih =>
  intro i s a3 a4 a5 a6 a7 a8 a9 a10 hd hm h;rcases ybd hP hcs hs h with ⟨hi,h0,⟨ad,x,ha,hx⟩,s',b3,b4,b5,b6,b7,b8,b9,b10,h⟩|⟨hn,_⟩
  rotate_left
  ·omega
  replace h:=h.go hP stepG_inLoop rfl
  by_cases hmx:i+1≤9223372036854775807
  ·rw [wrap_lo hmx] at h
   obtain ⟨q1,q2,q3⟩:=ih (i+1) _ _ _ _ _ _ _ _ _ (by omega) hmx h;refine ⟨q1,fun j h1 h2=>?_,q3⟩
   by_cases hj:j=i
   ·subst hj
    exact ⟨ad,x,ha,by simpa using hx⟩
   ·exact q2 j (by omega) h2
  ·exfalso
   have e:=wrap_hi hm hmx;rcases ybd hP hcs hs h with ⟨_,h0,_⟩|⟨hn,_⟩
   ·omega
   ·omega
theorem yex (hP:∀ f t u τ,Post f t u->Post f t (retape u τ)) (hcs:∀ x ∈ c :: cs,x.defers=[]) {v:Value} (hs:∀ a n cp,v=.slice a n cp->ycc u a)
  (h:At Tra.prog Post g0 u0 (G (Frame.enter Tra.prog 21 #[v] .normal) (c :: (cs ++ [c0]))) u) :
  ∃ a n cp,v=.slice a n cp∧n≤cp∧n≤9223372036854775807∧(∀ j,j<n->∃ ad x,a=some ad∧u.cell? (ad.add j)=some (.int .i64 x))∧∃ s',At Tra.prog Post g0 u0 (G (c.finish (.int .i64 s')) (cs ++ [c0])) u:=by
 rw [hands60] at h;replace h:=h.go hP stepG_seq rfl;replace h:=h.go hP stepG_region rfl;replace h:At Tra.prog Post g0 u0 (St60 c cs #[v,.int .i64 0,undef,undef,undef,undef,undef,undef,undef,undef,undef] _) u:=h.go hP (stepG_value (o:=wa0) rfl rfl (by decide) (w':=u) (v:=.int .i64 0) (by unfold execOp;simp [go_sem,Act.eval])) rfl;replace h:=h.go hP stepG_region_end rfl;replace h:=h.go hP stepG_seq rfl;replace h:=h.go hP stepG_region rfl;have hsl:∃ a n cp,v=.slice a n cp:=by
  by_cases hz:∃ a n cp,v=.slice a n cp
  ·exact hz
  ·exfalso
   obtain ⟨hh,u1,hr,hc⟩:=len_bad (u:=u) hz;refine h.bad hP hcs (o:=ws0) rfl rfl rfl ⟨hh,u1,?_,hc⟩;unfold execOp;simp [go_sem,Act.eval,hr]
 obtain ⟨a,n,cp,rfl⟩:=hsl;have e1:(execOp (Act.eval ⟨#[.slice a n cp,.int .i64 0,undef,undef,undef,undef,undef,undef,undef,undef,undef],[]⟩) ws0).run Tra.prog u=.ok (.value (.int .i64 n)) u:=by
  unfold execOp;simp [go_sem,Tra.runUnderlying29,Act.eval]
 replace h:At Tra.prog Post g0 u0 (St60 c cs #[.slice a n cp,.int .i64 0,undef,.int .i64 n,undef,undef,undef,undef,undef,undef,undef] _) u:=h.go hP (stepG_value (o:=ws0) rfl rfl (by decide) e1) rfl;have hcap:n≤cp:=by
  by_cases hc:n≤cp
  ·exact hc
  ·exfalso
   refine h.badv hP hcs (o:=ws1) rfl rfl (s:=Instr.sliceAt 29 (.slice a n cp) none (some (.int .i64 n)) none) rfl ?_;obtain ⟨v',u1,hv⟩:∃ v u1,(Instr.sliceAt 29 (.slice a n cp) none (some (.int .i64 n)) none).run Tra.prog u=.halt (.panic v) u1:=by
    simp [Instr.sliceAt,Instr.slice,Instr.sliceBounds,Instr.sliceBound,boundsPanic,runtimePanic,go_sem,Tra.runUnderlying29,hc];split<;>exact ⟨_,_,rfl⟩
   exact ⟨_,u1,hv,trivial⟩
 obtain ⟨y,ey⟩:∃ y,(Instr.sliceAt 29 (.slice a n cp) none (some (.int .i64 n)) none).run Tra.prog u=.ok y u:=by
  simp [Instr.sliceAt,Instr.slice,Instr.sliceBounds,Instr.sliceBound,go_sem,Tra.runUnderlying29,Tra.sizeOf3,hcap]
 have e2:(execOp (Act.eval ⟨#[.slice a n cp,.int .i64 0,undef,.int .i64 n,undef,undef,undef,undef,undef,undef,undef],[]⟩) ws1).run Tra.prog u=.ok (.value y) u:=by
  unfold execOp;simp [go_sem,Act.eval,ey]
 replace h:At Tra.prog Post g0 u0 (St60 c cs #[.slice a n cp,.int .i64 0,undef,.int .i64 n,y,undef,undef,undef,undef,undef,undef] _) u:=h.go hP (stepG_value (o:=ws1) rfl rfl (by decide) e2) rfl;replace h:=h.go hP stepG_region_end rfl;replace h:=h.go hP stepG_seq rfl;replace h:=h.go hP stepG_seq rfl;replace h:=h.go hP stepG_region rfl;replace h:At Tra.prog Post g0 u0 (St60 c cs #[.slice a n cp,.int .i64 0,.int .i64 0,.int .i64 n,y,undef,undef,undef,undef,undef,undef] _) u:=h.go hP (stepG_value (o:=wb0) rfl rfl (by decide) (w':=u) (v:=.int .i64 0) (by unfold execOp;simp [go_sem,Act.eval])) rfl;replace h:=h.go hP stepG_region_end rfl;replace h:=h.go hP stepG_block rfl;replace h:=h.go hP stepG_loop rfl;have h2:At Tra.prog Post g0 u0 (St60 c cs #[.slice a n cp,.int .i64 0,.int .i64 ((0:Nat):Int),.int .i64 n,y,undef,undef,undef,undef,undef,undef] [.code wL,.inLoop wL,.inBlock 0,.code .ret]) u:=h;have e0:0+n=n:=Nat.zero_add n;have q:=loop60 hP hcs (hs a n cp rfl) n 0 0 (.int .i64 n) y undef undef undef undef undef undef e0 (Nat.zero_le _) h2;obtain ⟨q1,q2,q3⟩:=q;exact ⟨a,n,cp,rfl,hcap,q1,fun j hj=>q2 j (Nat.zero_le _) hj,q3⟩
end
end Go.Mt
namespace Go.Proofs.YtfgcijifdbgpaaaW.Wd
open Go.RowKit
structure As0 (p:Prop):Prop where mk :: (out:p)
structure Drawn0 (w w':World):Prop where mk :: (out:∃ n,w'=w.drewN n)
theorem Drawn0.refl (w:World):Drawn0 w w:=⟨⟨0,rfl⟩⟩
theorem Drawn0.step {w w':World} (h:Drawn0 w w') (n:Nat):Drawn0 w (w'.drewN n):=by
 obtain ⟨m,rfl⟩:=h;exact ⟨⟨m+n,World.drewN_drewN ..⟩⟩
theorem Drawn0.below {w w':World} (h:Drawn0 w w'):Below w.heap.size w w':=by
 obtain ⟨n,rfl⟩:=h
 induction n with
 |zero=>exact Below.refl _ _
 |succ n ih=>rw [← World.drew_drewN];exact ih.drew
def rd (xs:List Int) (i:Int):Int:=xs.getD i.toNat 0
def bt (s:ByteArray) (i:Int):Int:=if h:i.toNat<s.size then ((s[i.toNat]'h).toNat:Int) else 0
theorem yiz (s:ByteArray) (i:Int):∀ h:i.toNat<s.size,((s[i.toNat]'h).toNat:Int)=bt s i:=fun h=>by simp [bt,h]
def nums (k:IntKind) (xs:List Int):List Value:=xs.map fun x=>.int k x
theorem y01 {w W:World} (h:Below w.heap.size w W) (o:Obj):Below w.heap.size w (W.alloc o):=h.alloc h.size o
theorem yep {B:Nat} {w W:World} (h:Below B w W):Below B w W.drew:=⟨h.os,h.tape,h.output,h.size,h.block⟩
theorem y00 {B:Nat} {w W:World} (h:Below B w W) (n:Nat):Below B w (W.drewN n):=⟨h.os,h.tape,h.output,h.size,h.block⟩
theorem yeo {B:Nat} {w w1 w2:World} (h:Below B w w1) (hB:B≤w1.heap.size) (k:Below w1.heap.size w1 w2):Below B w w2 :=
 h.trans ⟨k.os,k.tape,k.output,k.size,fun i hi=>k.block i (Nat.lt_of_lt_of_le hi hB)⟩
theorem y1v {w w1:World} (h:Below w.heap.size w w1) {a:Addr} {v:Value} (hc:w.cell? a=some v):w1.cell? a=some v:=(h.cell (World.block_lt_of_cell? w a hc)).trans hc
theorem y2t (g j:Nat):(⟨g,0,none⟩:Addr).add j=⟨g,j,none⟩:=by unfold Addr.add;split<;>simp_all
theorem yga (W:World) (base:Nat) (e:TypeId) (size:Nat):W.ownsRow base e size (.slice none 0 0) 0 []:=⟨by simp,.inl ⟨rfl,rfl⟩⟩
theorem y57 {w:World} {base:Nat} {e:TypeId} {size n:Nat} {v:Value} {xs:List Value} (h:w.ownsRow base e size v n xs) (k:Nat) (hk:v.ownBlock=some k):base≤k:=by
 rcases h.2 with ⟨rfl,_⟩|⟨g,cap,cur,rfl,hb,_⟩
 ·simp [Value.ownBlock] at hk
 ·have:g=k:=by simpa [Value.ownBlock] using hk
  omega
theorem own_lt {w:World} {base:Nat} {e:TypeId} {size n:Nat} {v:Value} {xs:List Value} (h:w.ownsRow base e size v n xs) (k:Nat) (hk:v.ownBlock=some k):k<w.heap.size:=by
 rcases h.2 with ⟨rfl,_⟩|⟨g,cap,cur,rfl,hb,hh,_⟩
 ·simp [Value.ownBlock] at hk
 ·have:g=k:=by simpa [Value.ownBlock] using hk
  subst this;exact (zGe hh).1
def LeO {α:Type} (a b:Option α):Prop:=∀ r,a=some r->b=some r
theorem LeO.refl {α:Type} (a:Option α):LeO a a:=fun _ h=>h
theorem LeO.none {α:Type} (b:Option α):LeO Option.none b:=fun _ h=>by cases h
theorem LeO.ite {α:Type} {c:Prop} [Decidable c] {a a' b b':Option α} (h:LeO a a') (k:LeO b b'):LeO (if c then a else b) (if c then a' else b'):=by
 split
 ·exact h
 ·exact k
theorem LeO.bind {α β:Type} {a a':Option α} {f f':α->Option β} (h:LeO a a') (k:∀ x,LeO (f x) (f' x)):LeO (a.bind f) (a'.bind f'):=by
 intro r hr;obtain ⟨x,hx,hf⟩:=Option.bind_eq_some_iff.1 hr;exact Option.bind_eq_some_iff.2 ⟨x,h x hx,k x r hf⟩
def Reps {α:Type} (R:α->List Value->Prop) (size:Nat) (ps:List α) (cs:List Value):Prop :=
 cs.length=ps.length * size∧∀ j p,ps[j]?=some p->R p ((cs.drop (j * size)).take size)
theorem Reps.none {α:Type} (R:α->List Value->Prop) (size:Nat):Reps R size [] []:=⟨by simp,fun j p h=>by simp at h⟩
theorem Reps.snoc {α:Type} {R:α->List Value->Prop} {size:Nat} {ps:List α} {cs c:List Value} {p:α} (h:Reps R size ps cs) (hp:R p c) (hc:c.length=size):Reps R size (ps ++ [p]) (cs ++ c):=by
 refine ⟨by rw [List.length_append,h.1,hc,List.length_append,List.length_singleton,Nat.add_mul,Nat.one_mul],fun j q hq=>?_⟩;rcases Nat.lt_or_ge j ps.length with hj|hj
 ·rw [List.getElem?_append_left hj] at hq
  have h1:j * size+size≤cs.length:=by rw [h.1,← Nat.succ_mul];exact Nat.mul_le_mul_right _ hj
  have h2:=h.2 j q hq;rw [List.drop_append_of_le_length (by omega),List.take_append_of_le_length (by rw [List.length_drop];omega)];exact h2
 ·have hj':j=ps.length:=by
   have:=(List.getElem?_eq_some_iff.1 hq).1;rw [List.length_append,List.length_singleton] at this;omega
  subst hj';have hq':p=q:=by simpa using hq
  subst hq';rw [← h.1,List.drop_left,← hc,List.take_length];exact hp
theorem Reps.imp_ {α:Type} {R R':α->List Value->Prop} {size:Nat} {ps:List α} {cs:List Value} (h:Reps R size ps cs) (hR:∀ p c,R p c->R' p c):Reps R' size ps cs:=⟨h.1,fun j p hj=>hR _ _ (h.2 j p hj)⟩
def ReadsRow {α:Type} (R:α->List Value->Prop) (size:Nat) (w:World) (A:Option Addr) (n:Nat) (ps:List α):Prop :=
 ps.length=n∧n≤9223372036854775807∧(0<n->∃ ad,A=some ad∧∀ j p,ps[j]?=some p->∃ c,c.length=size∧R p c∧∀ i u,c[i]?=some u->w.cell? (ad.add (j * size+i))=some u)
theorem ReadsRow.get_ {α:Type} {R:α->List Value->Prop} {size:Nat} {w:World} {A:Option Addr} {n:Nat} {ps:List α} (h:ReadsRow R size w A n ps) (d:α) (i:Int) (h0:0≤i) (h1:i<n) :
  ∃ ad c,A=some ad∧c.length=size∧R (ps.getD i.toNat d) c∧∀ j u,c[j]?=some u->w.cell? (ad.add (i.toNat * size+j))=some u:=by
 obtain ⟨ad,e,hc⟩:=h.2.2 (by omega);have hl:i.toNat<ps.length:=by have:=h.1;omega
 obtain ⟨c,hs,hr,hcell⟩:=hc i.toNat _ (List.getElem?_eq_getElem hl);refine ⟨ad,c,e,hs,?_,hcell⟩;rw [List.getD_eq_getElem?_getD,List.getElem?_eq_getElem hl];exact hr
theorem ReadsRow.imp_ {α:Type} {R R':α->List Value->Prop} {size:Nat} {w w1:World} {A:Option Addr} {n:Nat} {ps:List α} (h:ReadsRow R size w A n ps) (hb:Below w.heap.size w w1) (hR:∀ p c,R p c->R' p c):ReadsRow R' size w1 A n ps :=
 ⟨h.1,h.2.1,fun hn=>by
  obtain ⟨ad,e,hc⟩:=h.2.2 hn;refine ⟨ad,e,fun j p hj=>?_⟩;obtain ⟨c,hs,hr,hcell⟩:=hc j p hj;exact ⟨c,hs,hR _ _ hr,fun i u hu=>y1v hb (hcell i u hu)⟩⟩
theorem y8u {α:Type} {R:α->List Value->Prop} {w:World} {base n size:Nat} {e:TypeId} {v:Value} {ps:List α} {cs:List Value} (h:w.ownsRow base e size v n cs) (hR:Reps R size ps cs) (hn:ps.length=n) :
  ∃ A c,v=.slice A n c∧ReadsRow R size w A n ps:=by
 rcases Nat.eq_zero_or_pos n with h0|h0
 ·rcases h.2 with ⟨rfl,rfl⟩|⟨g,cap,cur,rfl,_⟩
  ·exact ⟨none,0,rfl,hn,by omega,fun hp=>absurd hp (by omega)⟩
  ·exact ⟨_,cap,rfl,hn,by omega,fun hp=>absurd hp (by omega)⟩
 ·obtain ⟨g,cap,rfl,_,_⟩:=h.form h0
  have hm:n≤9223372036854775807:=by
   rcases h.2 with ⟨_,h1⟩|⟨g',cap',cur,he,_,_,h1,h2,_⟩
   ·omega
   ·simp only [maxLen] at h2
    omega
  refine ⟨_,cap,rfl,hn,hm,fun _=>⟨_,rfl,fun j p hj=>⟨(cs.drop (j * size)).take size,?_,hR.2 j p hj,fun i u hu=>?_⟩⟩⟩
  ·have hjl:=(List.getElem?_eq_some_iff.1 hj).1
   have h1:j * size+size≤cs.length:=by rw [hR.1,← Nat.succ_mul];exact Nat.mul_le_mul_right _ hjl
   rw [List.length_take,List.length_drop];omega
  ·refine h.cells (g:=g) rfl _ u ?_
   rw [List.getElem?_take] at hu;split at hu
   ·rw [List.getElem?_drop] at hu
    exact hu
   ·cases hu
theorem yaw (ad:Addr) (m j:Nat) (hj:0<j):ad.add (m+j)=⟨(ad.add m).block,(ad.add m).off+j,none⟩:=by
 unfold Addr.add
 by_cases hm:m=0
 ·subst hm
  simp [Nat.ne_of_gt hj]
 ·simp [hm,Nat.add_assoc]
section
variable {P:Program} {ops:Array Oper} {rest:List Oper} {o:Oper} {a:Act} {Q:Exit->Act->World->Prop}
theorem y54 {w0 W:World} (base:Nat) (hgd:o.guard=none) (s x:Operand) (t e:TypeId) (z:Value) (size bytes:Nat)
  (ho:o.op=.call { callee:=.builtin .append,args:=#[s,x],argTypes:=#[t,t] })
  (ht:P.underlying t=some (.slice e)) (hinfo:(P.info? e).map (fun i=>(i.zero,i.size,i.bytes))=some (some z,size,bytes)) (hz:z.cells.size=size) (hs0:0<size) (hb0:0<bytes)
  (v:Value) (n:Nat) (xs ys:List Value) (hs:a.eval s=v) (hx:a.eval x=.slice (some ⟨W.heap.size,0,none⟩) 1 1) (hys:ys.length=size) (h1:∀ u ∈ ys,u.oneCell'=true)
  (HO:W.ownsRow base e size v n xs) (HB:Below base w0 W) (hbase:base≤W.heap.size) (hl:(n+1) * bytes≤140737488355328)
  (h:∀ v1 w1,w1.ownsRow base e size v1 (n+1) (xs ++ ys)->Below base w0 w1->W.grownBy w1 v.ownBlock->(v1.ownBlock=v.ownBlock∨∃ b,v1.ownBlock=some b∧W.heap.size≤b)->wpList P ops Q rest (a.put o.dst v1) w1) :
  wpList P ops Q (o :: rest) a (W.alloc (.cells ys.toArray e)):=by
 obtain ⟨i0,hi,hzz⟩:=Option.map_eq_some_iff.1 hinfo;simp only [Prod.mk.injEq] at hzz;obtain ⟨hz0,hz1,hz2⟩:=hzz;have hlen:n+1≤140737488355328:=Nat.le_trans (Nat.le_mul_of_pos_right _ hb0) hl;refine wpList_append_own_at (W.alloc (.cells ys.toArray e)) hgd s x t ho base e i0 z size bytes ht hi hz0 hz1 hz2 hz hs0 v n xs hs (HO.alloc _) ⟨W.heap.size,0,none⟩ 1 1 ys hx (by rw [hys];simp)
  (by simpa using World.news_of_block (cs:=ys.toArray) (t:=e) (fr:=(0,0)) (heap_alloc_new W (.cells ys.toArray e))) h1 (by simp only [maxLen];omega) hl (by simp;omega) ?_
 intro v1 w1 hown hg _ hat;refine h v1 w1 hown ((HB.alloc hbase _).grown hg (by simp;omega) (y57 HO)) (World.grownBy.trans (World.grownBy_alloc W _ _) hg) ?_;rcases hat with hat|hat
 ·exact .inl hat
 ·exact .inr ⟨_,hat,by simp⟩
end
theorem blk_set {w:World} {g:Nat} {t:TypeId} {cs:Array Value} (h:w.heap[g]?=some (.cells cs t (0,0))) (i:Nat) (u:Value):(w.setCell ⟨g,i,none⟩ u).heap[g]?=some (.cells (cs.setIfInBounds i u) t (0,0)):=by
 simp [World.setCell,Array.getElem?_modify,h]
theorem y1b {w:World} {g:Nat} {t:TypeId} {cs:Array Value} (h:w.heap[g]?=some (.cells cs t (0,0))) {p:Addr} (hp:g≠p.block) (u:Value):(w.setCell p u).heap[g]?=some (.cells cs t (0,0)):=(Below.heap_setCell w p u g hp).trans h
theorem y1i {w:World} {g:Nat} {o:Obj} (h:w.heap[g]?=some o):g<w.heap.size:=(zGe h).1
theorem y07 {w:World} {g:Nat} {t:TypeId} {cs:Array Value} (h:w.heap[g]?=some (.cells cs t (0,0))) (i:Nat):w.cell? ⟨g,i,none⟩=cs[i]?:=cell_of_row w g i cs t (0,0) h
theorem y09 {w:World} {g:Nat} {t:TypeId} {cs:Array Value} (h:w.heap[g]?=some (.cells cs t (0,0))) (i:Nat):w.frozen? ⟨g,i,none⟩=false:=by simp [World.frozen?,h]
theorem blk_grown {w w1:World} {g:Nat} {o:Obj} {row:Option Nat} (h:w.heap[g]?=some o) (hg:w.grownBy w1 row) (hne:some g≠row):w1.heap[g]?=some o:=(hg.block g (y1i h) hne).trans h
section
variable {P:Program} {ops:Array Oper} {o:Oper} {a:Act} {Q:Exit->Act->World->Prop} {K:Act->World->Prop}
theorem y5c {w0 W:World} (base:Nat) (hw:Region.wanted o (yielded ops a.tmps)=true) (s x:Operand) (t e:TypeId) (z:Value) (size bytes:Nat)
  (ho:o.op=.call { callee:=.builtin .append,args:=#[s,x],argTypes:=#[t,t] })
  (ht:P.underlying t=some (.slice e)) (hinfo:(P.info? e).map (fun i=>(i.zero,i.size,i.bytes))=some (some z,size,bytes)) (hz:z.cells.size=size) (hs0:0<size) (hb0:0<bytes)
  (v:Value) (n:Nat) (xs ys:List Value) (hs:a.eval s=v) (hx:a.eval x=.slice (some ⟨W.heap.size,0,none⟩) 1 1) (hys:ys.length=size) (h1:∀ u ∈ ys,u.oneCell'=true)
  (HO:W.ownsRow base e size v n xs) (HB:Below base w0 W) (hbase:base≤W.heap.size) (hl:(n+1) * bytes≤140737488355328)
  (h:∀ v1 w1,w1.ownsRow base e size v1 (n+1) (xs ++ ys)->Below base w0 w1->W.grownBy w1 v.ownBlock->(v1.ownBlock=v.ownBlock∨∃ b,v1.ownBlock=some b∧W.heap.size≤b)->K (a.put o.dst v1) w1) :
  if Region.wanted o (yielded ops a.tmps)=true then Oper.wp P o a (W.alloc (.cells ys.toArray e)) K Q else K (a.put o.dst undef) (W.alloc (.cells ys.toArray e)):=by
 obtain ⟨i0,hi,hzz⟩:=Option.map_eq_some_iff.1 hinfo;simp only [Prod.mk.injEq] at hzz;obtain ⟨hz0,hz1,hz2⟩:=hzz;have hlen:n+1≤140737488355328:=Nat.le_trans (Nat.le_mul_of_pos_right _ hb0) hl;rw [if_pos hw];obtain ⟨v1,w1,hr,hown,hg,_,hat⟩:=run_append_own_at (P:=P) (W.alloc (.cells ys.toArray e)) base t o.type e i0 z size bytes ht hi hz0 hz1 hz2 hz hs0 v n xs (HO.alloc _) ⟨W.heap.size,0,none⟩ 1 1 ys (by rw [hys];simp)
  (by simpa using World.news_of_block (cs:=ys.toArray) (t:=e) (fr:=(0,0)) (heap_alloc_new W (.cells ys.toArray e))) h1 (by simp only [maxLen];omega) hl (by simp;omega)
 unfold Oper.wp execOp;simp only [ho,resolve,invoke,builtin,Sem.run_bind,Sem.run_pure,Result.andThen_ok,List.map_toArray,List.map_cons,List.map_nil,hs,hx,hr];refine h v1 w1 hown ((HB.alloc hbase _).grown hg (by simp;omega) (y57 HO)) (World.grownBy.trans (World.grownBy_alloc W _ _) hg) ?_;rcases hat with hat|hat
 ·exact .inl hat
 ·exact .inr ⟨_,hat,by simp⟩
end
theorem y7v {w:World} {base base':Nat} {e:TypeId} {size n:Nat} {v:Value} {xs:List Value} (h:w.ownsRow base e size v n xs) (hb:base'≤base):w.ownsRow base' e size v n xs:=by
 obtain ⟨h1,h2⟩:=h;refine ⟨h1,?_⟩;rcases h2 with h2|⟨g,cap,cur,rfl,hg,r⟩
 ·exact .inl h2
 ·exact .inr ⟨g,cap,cur,rfl,Nat.le_trans hb hg,r⟩
section
variable {α:Type} {enc:α->Value} {d:α}
def encs (enc:α->Value) (xs:List α):List Value:=xs.map enc
def rdOf (d:α) (xs:List α) (i:Int):α:=xs.getD i.toNat d
theorem y72 (xs:List α):(encs enc xs).length=xs.length:=by simp [encs]
theorem yix (xs:List α) (j:Nat) (h:j<xs.length):(encs enc xs)[j]?=some (enc (xs.getD j d)):=by
 simp [encs,List.getElem?_eq_getElem h,List.getD_eq_getElem?_getD]
def ReadsOf (enc:α->Value) (d:α) (w:World) (A:Option Addr) (n:Nat) (xs:List α):Prop :=
 xs.length=n∧n≤9223372036854775807∧(0<n->∃ ad,A=some ad∧∀ j,j<n->w.cell? (ad.add j)=some (enc (xs.getD j d)))
theorem ReadsOf.at_ {w:World} {A:Option Addr} {n:Nat} {xs:List α} (h:ReadsOf enc d w A n xs) (i:Int) (h0:0≤i) (h1:i<n):∃ ad,A=some ad∧w.cell? (ad.add i.toNat)=some (enc (rdOf d xs i)):=by
 obtain ⟨ad,e,hc⟩:=h.2.2 (by omega);exact ⟨ad,e,hc _ (by omega)⟩
theorem ygb {W:World} {base g n cap:Nat} {e:TypeId} {xs:List α} (h:W.ownsRow base e 1 (.slice (some ⟨g,0,none⟩) n cap) n (encs enc xs)) (i:Int) (h0:0≤i) (h1:i<n) :
  W.cell? ⟨g,i.toNat,none⟩=some (enc (rdOf d xs i))∧W.frozen? ⟨g,i.toNat,none⟩=false:=by
 have hl:xs.length=n:=by have:=h.1;simp [encs] at this;exact this
 constructor
 ·have hc:=h.cells (g:=g) rfl i.toNat _ (yix (d:=d) xs i.toNat (by omega))
  rwa [y2t] at hc
 ·rcases h.2 with ⟨h',_⟩|⟨g',cap',cur,h',_,hh,_⟩
  ·cases h'
  ·have:g=g':=by injection h' with h';injection h' with h';injection h' with h'
   subst this;simp [World.frozen?,hh]
theorem yah {W:World} {base g n cap:Nat} {e:TypeId} {xs:List α} (h:W.ownsRow base e 1 (.slice (some ⟨g,0,none⟩) n cap) n (encs enc xs)) (i:Int) (x:α) :
  (W.setCell ⟨g,i.toNat,none⟩ (enc x)).ownsRow base e 1 (.slice (some ⟨g,0,none⟩) n cap) n (encs enc (xs.set i.toNat x))∧W.grownBy (W.setCell ⟨g,i.toNat,none⟩ (enc x)) (some g):=by
 have hs:=h.stored i.toNat (enc x);have he:(encs enc xs).set i.toNat (enc x)=encs enc (xs.set i.toNat x):=by simp [encs,List.map_set]
 rwa [he] at hs
end
theorem y0d {w:World} {g:Nat} {o:Obj} (h:w.heap[g]?=some o) (o':Obj):(w.alloc o').heap[g]?=some o:=(Below.heap_alloc w o' g (y1i h)).trans h
theorem y0h {w:World} {g:Nat} {o:Obj} (h:w.heap[g]?=some o):w.drew.heap[g]?=some o:=h
theorem y0f {w:World} {g:Nat} {o:Obj} (h:w.heap[g]?=some o) (n:Nat):(w.drewN n).heap[g]?=some o:=h
theorem y0r {w w1:World} {g:Nat} {o:Obj} (h:w.heap[g]?=some o) (hb:Below w.heap.size w w1):w1.heap[g]?=some o:=(hb.block g (y1i h)).trans h
theorem yha (w:World) (o:Obj):(w.alloc o).heap[w.heap.size]?=some o:=heap_alloc_new w o
section
variable {P:Program}
theorem y7p {fn:Func} {p u:Tmp} {ty:TypeId} (h:fn.results=#[.cell p ty,.tmp u]) (tmps:Array Value) (w:World) (g:Nat) (t:TypeId) (cs:Array Value) (fr:Nat × Nat) (d:TypeDesc)
  (hp:tmps.getD p undef=.pointer (some ⟨g,0,none⟩)) (hg:w.heap[g]?=some (.cells cs t fr))
  (hu:P.underlying ty=some d) (hd:(match d with|.struct _|.array _ _=>true|_=>false)=true) (hi:(P.info? ty).map (·.size)=some cs.size) :
  (results fn tmps).run P w=.ok (.tuple #[.agg cs,tmps.getD u undef]) w:=by
 have hp':tmps[p]?.getD undef=.pointer (some ⟨g,0,none⟩):=by simpa using hp
 simp [results,h,hp',asAddr,run_loadVar_row w g t ty cs fr d hg hu hd hi]
end
theorem own_le {w:World} {base n m c size:Nat} {e:TypeId} {A:Option Addr} {xs:List Value} (h:w.ownsRow base e size (.slice A m c) n xs):m≤c:=by
 rcases h.2 with ⟨he,_⟩|⟨g,cap,cur,he,_,_,hnc,_⟩
 ·injection he with _ h2 h3
  omega
 ·injection he with _ h2 h3
  omega
def OwnRow {α:Type} (R:α->List Value->Prop) (e:TypeId) (size:Nat) (w:World) (base:Nat) (v:Value) (ps:List α):Prop :=
 ∃ inner,w.ownsRow base e size v ps.length inner∧Reps R size ps inner
section
variable {α:Type} {R R':α->List Value->Prop} {e:TypeId} {size:Nat} {w w1:World} {base:Nat} {v:Value} {ps:List α}
theorem OwnRow.none_ (R:α->List Value->Prop) (e:TypeId) (size:Nat) (w:World) (base:Nat):OwnRow R e size w base (.slice none 0 0) []:=⟨[],yga _ _ _ _,Reps.none _ _⟩
theorem OwnRow.imp_ (h:OwnRow R e size w base v ps) (hR:∀ p c,R p c->R' p c):OwnRow R' e size w base v ps:=by
 obtain ⟨inner,ho,hr⟩:=h;exact ⟨inner,ho,hr.imp_ hR⟩
theorem OwnRow.reads (h:OwnRow R e size w base v ps):∃ A c,v=.slice A ps.length c∧ps.length≤c∧ReadsRow R size w A ps.length ps:=by
 obtain ⟨inner,ho,hr⟩:=h;obtain ⟨A,c,rfl,hrow⟩:=y8u ho hr rfl;exact ⟨A,c,rfl,own_le ho,hrow⟩
end
theorem ReadsRow.inner_ {α:Type} {R:α->List Value->Prop} {size:Nat} {w:World} {ad:Addr} {n:Nat} {ps:List α} (h:ReadsRow R size w (some ad) n ps) :
  ∃ inner,Reps R size ps inner∧∀ j u,inner[j]?=some u->w.cell? (ad.add j)=some u:=by
 have key:∀ m,m≤ps.length->∃ inner,Reps R size (ps.take m) inner∧∀ j u,inner[j]?=some u->w.cell? (ad.add j)=some u:=by
  intro m
  induction m with
  |zero=>exact fun _=>⟨[],Reps.none _ _,fun j u hu=>by simp at hu⟩
  |succ m ih =>
   intro hm;obtain ⟨inner,hr,hc⟩:=ih (by omega);obtain ⟨ad',he,hcell⟩:=h.2.2 (by have:=h.1;omega);injection he with he
   subst he;obtain ⟨c,hcl,hp,hcc⟩:=hcell m _ (List.getElem?_eq_getElem (show m<ps.length by omega));refine ⟨inner ++ c,?_,fun j u hu=>?_⟩
   ·rw [List.take_succ_eq_append_getElem (show m<ps.length by omega)]
    exact hr.snoc hp hcl
   ·have hil:inner.length=m * size:=by rw [hr.1,List.length_take,Nat.min_eq_left (by omega)]
    rcases Nat.lt_or_ge j inner.length with hj|hj
    ·rw [List.getElem?_append_left hj] at hu
     exact hc j u hu
    ·rw [List.getElem?_append_right hj] at hu
     have:=hcc (j - inner.length) u hu
     rwa [hil,Nat.add_sub_cancel' (by omega)] at this
 obtain ⟨inner,hr,hc⟩:=key ps.length (zLe _);rw [List.take_length] at hr;exact ⟨inner,hr,hc⟩
structure Kd (α:Type) where
 sz:Nat
 E:List Nat
 K:World->α->List Value->Prop
 M:World->Nat->(Nat->Prop)->α->List Value->Prop
 K_len:∀ {w x cs},K w x cs->cs.length=sz
 K_one:∀ {w x cs},K w x cs->∀ u ∈ cs,u.oneCell'=true
 K_below:∀ {w w1:World} {x cs},Below w.heap.size w w1->K w x cs->K w1 x cs
 K_of_M:∀ {w base ok x cs},M w base ok x cs->K w x cs
 M_mono:∀ {w base ok ok' x cs},(∀ k,ok k->ok' k)->M w base ok x cs->M w base ok' x cs
 M_bound:∀ {w:World} {base ok x cs},M w base ok x cs->M w base (fun k=>ok k∧base≤k∧k<w.heap.size∧∃ q,q ∈ E∧∃ cells,w.heap[k]?=some (.cells cells q (0,0))) x cs
 M_move:∀ {w w1:World} {base ok x cs},(∀ k,ok k->w1.heap[k]?=w.heap[k]?)->M w base ok x cs->M w1 base ok x cs
 M_lower:∀ {w base base' ok x cs},base'≤base->M w base ok x cs->M w base' ok x cs
theorem ycp {w w1:World} {base:Nat} {e:TypeId} {size n:Nat} {v:Value} {xs:List Value} (h:w.ownsRow base e size v n xs) (hm:∀ k,v.ownBlock=some k->w1.heap[k]?=w.heap[k]?):w1.ownsRow base e size v n xs:=by
 obtain ⟨h1,h2⟩:=h;refine ⟨h1,?_⟩;rcases h2 with h2|⟨g,cap,cur,rfl,hg,hh,r⟩
 ·exact .inl h2
 ·exact .inr ⟨g,cap,cur,rfl,hg,(hm g (by simp [Value.ownBlock])).trans hh,r⟩
theorem y56 {w:World} {base:Nat} {e:TypeId} {size n:Nat} {v:Value} {xs:List Value} (h:w.ownsRow base e size v n xs) (k:Nat) (hk:v.ownBlock=some k):∃ cells,w.heap[k]?=some (.cells cells e (0,0)):=by
 rcases h.2 with ⟨rfl,_⟩|⟨g,cap,cur,rfl,hg,hh,r⟩
 ·simp [Value.ownBlock] at hk
 ·have:g=k:=by simpa [Value.ownBlock] using hk
  subst this;exact ⟨cur,hh⟩
namespace Kd
def C {α:Type} (d:Kd α) (w:World) (A:Option Addr) (n:Nat) (xs:List α):Prop:=ReadsRow (d.K w) d.sz w A n xs
def R {α:Type} (d:Kd α) (e:Nat) (w:World) (base:Nat) (ok:Nat->Prop) (v:Value) (xs:List α):Prop :=
 (∀ k,v.ownBlock=some k->ok k)∧OwnRow (d.M w base (fun k=>ok k∧some k≠v.ownBlock)) e d.sz w base v xs
section
variable {α:Type} {d:Kd α} {e:Nat} {w w1:World} {base:Nat} {ok ok':Nat->Prop} {v:Value} {xs:List α}
theorem C_below {A:Option Addr} {n:Nat} (h:d.C w A n xs) (hb:Below w.heap.size w w1):d.C w1 A n xs:=ReadsRow.imp_ h hb (fun _ _ hp=>d.K_below hb hp)
theorem R_nil (d:Kd α) (e:Nat) (w:World) (base:Nat) (ok:Nat->Prop):d.R e w base ok (.slice none 0 0) []:=⟨fun k hk=>by simp [Value.ownBlock] at hk,OwnRow.none_ _ _ _ _ _⟩
theorem R_mono (h:d.R e w base ok v xs) (hok:∀ k,ok k->ok' k):d.R e w base ok' v xs:=⟨fun k hk=>hok k (h.1 k hk),h.2.imp_ (fun _ _ hp=>d.M_mono (fun k hk=>⟨hok k hk.1,hk.2⟩) hp)⟩
theorem R_bound (h:d.R e w base ok v xs):d.R e w base (fun k=>ok k∧base≤k∧k<w.heap.size∧∃ q,q ∈ e :: d.E∧∃ cells,w.heap[k]?=some (.cells cells q (0,0))) v xs:=by
 obtain ⟨h0,inner,ho,hr⟩:=h;refine ⟨fun k hk=>?_,inner,ho,hr.imp_ (fun _ _ hp=>d.M_mono (fun k hk=>?_) (d.M_bound hp))⟩
 ·obtain ⟨cells,hc⟩:=y56 ho k hk
  exact ⟨h0 k hk,y57 ho k hk,own_lt ho k hk,e,List.mem_cons_self,cells,hc⟩
 ·obtain ⟨⟨h1,h2⟩,h3,h4,q,hq,hc⟩:=hk
  exact ⟨⟨h1,h3,h4,q,List.mem_cons_of_mem _ hq,hc⟩,h2⟩
theorem yde (h:d.R e w base ok v xs) (hm:∀ k,ok k->w1.heap[k]?=w.heap[k]?):d.R e w1 base ok v xs:=by
 obtain ⟨h0,inner,ho,hr⟩:=h;exact ⟨h0,inner,ycp ho (fun k hk=>hm k (h0 k hk)),hr.imp_ (fun _ _ hp=>d.M_move (fun k hk=>hm k hk.1) hp)⟩
theorem R_lower {base':Nat} (h:d.R e w base ok v xs) (hb:base'≤base):d.R e w base' ok v xs:=by
 obtain ⟨h0,inner,ho,hr⟩:=h;exact ⟨h0,inner,y7v ho hb,hr.imp_ (fun _ _ hp=>d.M_lower hb hp)⟩
theorem ydd (h:d.R e w base ok v xs) (hm:∀ k,ok k->k<w.heap.size->w1.heap[k]?=w.heap[k]?):d.R e w1 base ok v xs :=
 R_mono (yde (R_bound h) (fun k hk=>hm k hk.1 hk.2.2.1)) (fun _ hk=>hk.1)
theorem M_step {x:α} {cs:List Value} (h:d.M w base ok x cs) (hm:∀ k,ok k->k<w.heap.size->w1.heap[k]?=w.heap[k]?):d.M w1 base ok x cs :=
 d.M_mono (fun _ hk=>hk.1) (d.M_move (fun k hk=>hm k hk.1 hk.2.2.1) (d.M_bound h))
theorem R_below (h:d.R e w base ok v xs) (hb:Below w.heap.size w w1):d.R e w1 base ok v xs:=ydd h (fun k _ hk=>hb.block k hk)
theorem M_below {x:α} {cs:List Value} (h:d.M w base ok x cs) (hb:Below w.heap.size w w1):d.M w1 base ok x cs:=M_step h (fun k _ hk=>hb.block k hk)
theorem R_far (h:d.R e w base ok v xs) {p:Addr} (hok:∀ k,ok k->k≠p.block) (u:Value):d.R e (w.setCell p u) base ok v xs:=ydd h (fun k ho _=>Below.heap_setCell w p u k (hok k ho))
theorem R_reads (h:d.R e w base ok v xs):∃ A c,v=.slice A xs.length c∧xs.length≤c∧d.C w A xs.length xs:=by
 obtain ⟨A,c,he,hl,hr⟩:=OwnRow.reads h.2;exact ⟨A,c,he,hl,hr.imp_ (Below.refl _ _) (fun _ _ hp=>d.K_of_M hp)⟩
theorem R_slice (h:d.R e w base ok v xs):∃ A c,v=.slice A xs.length c:=by
 obtain ⟨A,c,he,_⟩:=R_reads h;exact ⟨A,c,he⟩
theorem R_own (h:d.R e w base ok v xs):∃ inner,w.ownsRow base e d.sz v xs.length inner:=by
 obtain ⟨_,inner,ho,_⟩:=h;exact ⟨inner,ho⟩
end
def scalar {α:Type} (enc:α->Value) (h1:∀ x,(enc x).oneCell'=true):Kd α where
 sz:=1
 E:=[]
 K:=fun _ x cs=>cs=[enc x]
 M:=fun _ _ _ x cs=>cs=[enc x]
 K_len:=fun h=>by rw [h];rfl
 K_one:=fun h u hu=>by
  rw [h] at hu;rw [List.mem_singleton.1 hu];exact h1 _
 K_below:=fun _ h=>h
 K_of_M:=fun h=>h
 M_mono:=fun _ h=>h
 M_bound:=fun h=>h
 M_move:=fun _ h=>h
 M_lower:=fun _ h=>h
def int (k:IntKind):Kd Int:=scalar (Value.int k) (fun _=>rfl)
def bool:Kd Bool:=scalar Value.bool (fun _=>rfl)
def slice {α:Type} (e:Nat) (d:Kd α):Kd (List α) where
 sz:=1
 E:=e :: d.E
 K:=fun w xs cs=>∃ A c,cs=[.slice A xs.length c]∧xs.length≤c∧d.C w A xs.length xs
 M:=fun w base ok xs cs=>∃ v,cs=[v]∧d.R e w base ok v xs
 K_len:=by
  rintro w x cs ⟨A,c,rfl,_⟩
  rfl
 K_one:=by
  rintro w x cs ⟨A,c,rfl,_⟩ u hu
  rw [List.mem_singleton.1 hu];rfl
 K_below:=by
  rintro w w1 x cs hb ⟨A,c,rfl,hl,hr⟩
  exact ⟨A,c,rfl,hl,C_below hr hb⟩
 K_of_M:=by
  rintro w base ok x cs ⟨v,rfl,h⟩
  obtain ⟨A,c,rfl,hl,hr⟩:=R_reads h;exact ⟨A,c,rfl,hl,hr⟩
 M_mono:=by
  rintro w base ok ok' x cs hok ⟨v,rfl,h⟩
  exact ⟨v,rfl,R_mono h hok⟩
 M_bound:=by
  rintro w base ok x cs ⟨v,rfl,h⟩
  exact ⟨v,rfl,R_bound h⟩
 M_move:=by
  rintro w w1 base ok x cs hm ⟨v,rfl,h⟩
  exact ⟨v,rfl,yde h hm⟩
 M_lower:=by
  rintro w base base' ok x cs hb ⟨v,rfl,h⟩
  exact ⟨v,rfl,R_lower h hb⟩
def pair {α β:Type} (a:Kd α) (b:Kd β):Kd (α × β) where
 sz:=a.sz+b.sz
 E:=a.E ++ b.E
 K:=fun w x cs=>∃ c0 c1,cs=c0 ++ c1∧a.K w x.1 c0∧b.K w x.2 c1
 M:=fun w base ok x cs=>∃ c0 c1,cs=c0 ++ c1∧a.M w base ok x.1 c0∧b.M w base ok x.2 c1
 K_len:=by
  rintro w x cs ⟨c0,c1,rfl,h0,h1⟩
  rw [List.length_append,a.K_len h0,b.K_len h1]
 K_one:=by
  rintro w x cs ⟨c0,c1,rfl,h0,h1⟩ u hu
  rcases List.mem_append.1 hu with hu|hu
  ·exact a.K_one h0 u hu
  ·exact b.K_one h1 u hu
 K_below:=by
  rintro w w1 x cs hb ⟨c0,c1,rfl,h0,h1⟩
  exact ⟨c0,c1,rfl,a.K_below hb h0,b.K_below hb h1⟩
 K_of_M:=by
  rintro w base ok x cs ⟨c0,c1,rfl,h0,h1⟩
  exact ⟨c0,c1,rfl,a.K_of_M h0,b.K_of_M h1⟩
 M_mono:=by
  rintro w base ok ok' x cs hok ⟨c0,c1,rfl,h0,h1⟩
  exact ⟨c0,c1,rfl,a.M_mono hok h0,b.M_mono hok h1⟩
 M_bound:=by
  rintro w base ok x cs ⟨c0,c1,rfl,h0,h1⟩
  refine ⟨c0,c1,rfl,a.M_mono ?_ (a.M_bound h0),b.M_mono ?_ (b.M_bound h1)⟩
  ·rintro k ⟨h2,h3,h4,q,hq,hc⟩
   exact ⟨h2,h3,h4,q,List.mem_append_left _ hq,hc⟩
  ·rintro k ⟨h2,h3,h4,q,hq,hc⟩
   exact ⟨h2,h3,h4,q,List.mem_append_right _ hq,hc⟩
 M_move:=by
  rintro w w1 base ok x cs hm ⟨c0,c1,rfl,h0,h1⟩
  exact ⟨c0,c1,rfl,a.M_move hm h0,b.M_move hm h1⟩
 M_lower:=by
  rintro w base base' ok x cs hb ⟨c0,c1,rfl,h0,h1⟩
  exact ⟨c0,c1,rfl,a.M_lower hb h0,b.M_lower hb h1⟩
def iso {α β:Type} (d:Kd α) (f:β->α):Kd β where
 sz:=d.sz
 E:=d.E
 K:=fun w x cs=>d.K w (f x) cs
 M:=fun w base ok x cs=>d.M w base ok (f x) cs
 K_len:=d.K_len
 K_one:=d.K_one
 K_below:=d.K_below
 K_of_M:=d.K_of_M
 M_mono:=d.M_mono
 M_bound:=d.M_bound
 M_move:=d.M_move
 M_lower:=d.M_lower
theorem C_get {α:Type} {d:Kd α} {w:World} {A:Option Addr} {n:Nat} {xs:List α} (h:d.C w A n xs) (z:α) (i:Int) (h0:0≤i) (h1:i<n) :
  ∃ ad c,A=some ad∧c.length=d.sz∧d.K w (xs.getD i.toNat z) c∧∀ j u,c[j]?=some u->w.cell? (ad.add (i.toNat * d.sz+j))=some u:=ReadsRow.get_ h z i h0 h1
theorem y84 {α:Type} {d:Kd α} {e base:Nat} {ok okp:Nat->Prop} {W w1:World} {v v1:Value} {xs:List α} {p:α} {inner cs:List Value} (h0:∀ k,v.ownBlock=some k->ok k) (hr:Reps (d.M W base (fun k=>ok k∧some k≠v.ownBlock)) d.sz xs inner) (hp:d.M W base okp p cs) (hokp:∀ k,okp k->ok k∧some k≠v.ownBlock) (hfresh:∀ k,W.heap.size≤k->ok k)
  (hown:w1.ownsRow base e d.sz v1 (xs.length+1) (inner ++ cs)) (hg:W.grownBy w1 v.ownBlock) (hat:v1.ownBlock=v.ownBlock∨∃ b,v1.ownBlock=some b∧W.heap.size≤b):d.R e w1 base ok v1 (xs ++ [p]):=by
 have hne:∀ k,some k≠v.ownBlock->k<W.heap.size->some k≠v1.ownBlock:=by
  intro k hk hlt;rcases hat with hat|⟨b,hb,hle⟩
  ·rw [hat];exact hk
  ·rw [hb]
   intro he;injection he with he
   omega
 have step:∀ {q:α} {c:List Value} {o:Nat->Prop},d.M W base o q c->(∀ k,o k->ok k∧some k≠v.ownBlock)->d.M w1 base (fun k=>ok k∧some k≠v1.ownBlock) q c:=by
  intro q c o hq ho;have h1:=d.M_move (w1:=w1) (fun k hk=>hg.block k hk.2.2.1 (ho k hk.1).2) (d.M_bound hq);exact d.M_mono (fun k hk=>⟨(ho k hk.1).1,hne k (ho k hk.1).2 hk.2.2.1⟩) h1
 refine ⟨fun k hk=>?_,inner ++ cs,by rw [List.length_append,List.length_singleton];exact hown,?_⟩
 ·rcases hat with hat|⟨b,hb,hle⟩
  ·exact h0 k (hat ▸ hk)
  ·rw [hb] at hk
   injection hk with hk
   exact hfresh k (by omega)
 ·exact (hr.imp_ (fun _ _ hq=>step hq (fun _ hk=>hk))).snoc (step hp hokp) (d.K_len (d.K_of_M hp))
section
variable {P:Program} {ops:Array Oper} {rest:List Oper} {o:Oper} {a:Act} {Q:Exit->Act->World->Prop} {α:Type}
theorem R_append (d:Kd α) {w0 W:World} (base:Nat) (hgd:o.guard=none) (s x:Operand) (t e:TypeId) (z:Value) (bytes:Nat)
  (ho:o.op=.call { callee:=.builtin .append,args:=#[s,x],argTypes:=#[t,t] })
  (ht:P.underlying t=some (.slice e)) (hinfo:(P.info? e).map (fun i=>(i.zero,i.size,i.bytes))=some (some z,d.sz,bytes)) (hz:z.cells.size=d.sz) (hs0:0<d.sz) (hb0:0<bytes)
  (v:Value) (xs:List α) (p:α) (cs:List Value) (ok okp:Nat->Prop) (hs:a.eval s=v) (hx:a.eval x=.slice (some ⟨W.heap.size,0,none⟩) 1 1) (hp:d.M W base okp p cs) (hokp:∀ k,okp k->ok k∧some k≠v.ownBlock) (hfresh:∀ k,W.heap.size≤k->ok k)
  (HO:d.R e W base ok v xs) (HB:Below base w0 W) (hbase:base≤W.heap.size) (hl:(xs.length+1) * bytes≤140737488355328)
  (h:∀ v1 w1,d.R e w1 base ok v1 (xs ++ [p])->Below base w0 w1->W.grownBy w1 v.ownBlock->(v1.ownBlock=v.ownBlock∨∃ b,v1.ownBlock=some b∧W.heap.size≤b)->wpList P ops Q rest (a.put o.dst v1) w1) :
  wpList P ops Q (o :: rest) a (W.alloc (.cells cs.toArray e)):=by
 obtain ⟨h0,inner,hown,hr⟩:=HO;refine y54 base hgd s x t e z d.sz bytes ho ht hinfo hz hs0 hb0 v xs.length inner cs hs hx (d.K_len (d.K_of_M hp)) (d.K_one (d.K_of_M hp)) hown HB hbase hl ?_;intro v1 w1 hown1 hb1 hg1 hat1;exact h v1 w1 (y84 h0 hr hp hokp hfresh hown1 hg1 hat1) hb1 hg1 hat1
end
section
variable {P:Program} {ops:Array Oper} {o:Oper} {a:Act} {Q:Exit->Act->World->Prop} {Kc:Act->World->Prop} {α:Type}
theorem R_append_step (d:Kd α) {w0 W:World} (base:Nat) (hw:Region.wanted o (yielded ops a.tmps)=true) (s x:Operand) (t e:TypeId) (z:Value) (bytes:Nat)
  (ho:o.op=.call { callee:=.builtin .append,args:=#[s,x],argTypes:=#[t,t] })
  (ht:P.underlying t=some (.slice e)) (hinfo:(P.info? e).map (fun i=>(i.zero,i.size,i.bytes))=some (some z,d.sz,bytes)) (hz:z.cells.size=d.sz) (hs0:0<d.sz) (hb0:0<bytes)
  (v:Value) (xs:List α) (p:α) (cs:List Value) (ok okp:Nat->Prop) (hs:a.eval s=v) (hx:a.eval x=.slice (some ⟨W.heap.size,0,none⟩) 1 1) (hp:d.M W base okp p cs) (hokp:∀ k,okp k->ok k∧some k≠v.ownBlock) (hfresh:∀ k,W.heap.size≤k->ok k)
  (HO:d.R e W base ok v xs) (HB:Below base w0 W) (hbase:base≤W.heap.size) (hl:(xs.length+1) * bytes≤140737488355328)
  (h:∀ v1 w1,d.R e w1 base ok v1 (xs ++ [p])->Below base w0 w1->W.grownBy w1 v.ownBlock->(v1.ownBlock=v.ownBlock∨∃ b,v1.ownBlock=some b∧W.heap.size≤b)->Kc (a.put o.dst v1) w1) :
  if Region.wanted o (yielded ops a.tmps)=true then Oper.wp P o a (W.alloc (.cells cs.toArray e)) Kc Q else Kc (a.put o.dst undef) (W.alloc (.cells cs.toArray e)):=by
 obtain ⟨h0,inner,hown,hr⟩:=HO;refine y5c base hw s x t e z d.sz bytes ho ht hinfo hz hs0 hb0 v xs.length inner cs hs hx (d.K_len (d.K_of_M hp)) (d.K_one (d.K_of_M hp)) hown HB hbase hl ?_;intro v1 w1 hown1 hb1 hg1 hat1;exact h v1 w1 (y84 h0 hr hp hokp hfresh hown1 hg1 hat1) hb1 hg1 hat1
end
theorem ybf {α:Type} {enc:α->Value} (xs:List α):Reps (fun (x:α) (cs:List Value)=>cs=[enc x]) 1 xs (encs enc xs):=by
 refine ⟨by simp [encs],fun j p hj=>?_⟩;obtain ⟨hl,hp⟩:=List.getElem?_eq_some_iff.1 hj;have hl':j<(encs enc xs).length:=by rw [y72];exact hl
 rw [Nat.mul_one,List.drop_eq_getElem_cons hl'];simp [encs,hp]
theorem yj3 {α:Type} {enc:α->Value} {h1:∀ x,(enc x).oneCell'=true} {e:Nat} {w:World} {base:Nat} {ok:Nat->Prop} {v:Value} {xs:List α} (ho:w.ownsRow base e 1 v xs.length (encs enc xs)) (hok:∀ k,v.ownBlock=some k->ok k):(scalar enc h1).R e w base ok v xs:=⟨hok,encs enc xs,ho,ybf xs⟩
theorem yco {α:Type} {enc:α->Value} {h1:∀ x,(enc x).oneCell'=true} {e:Nat} {w:World} {base:Nat} {ok:Nat->Prop} {v:Value} {xs:List α} (h:(scalar enc h1).R e w base ok v xs):w.ownsRow base e 1 v xs.length (encs enc xs):=by
 obtain ⟨_,inner,ho,hr⟩:=h;have:inner=encs enc xs:=by
  apply List.ext_getElem?;intro j;rcases Nat.lt_or_ge j xs.length with hj|hj
  ·have h2:=hr.2 j _ (List.getElem?_eq_getElem hj)
   have hl:j<inner.length:=by have:=hr.1;simp [scalar] at this;omega
   have h3:(inner.drop (j * 1)).take 1=[enc xs[j]]:=h2;rw [Nat.mul_one,List.drop_eq_getElem_cons hl] at h3;have h4:inner[j]=enc xs[j]:=by
    have h5:=congrArg List.head? h3;rw [List.take_succ_cons] at h5;exact zSi h5
   rw [List.getElem?_eq_getElem hl,h4];simp [encs,List.getElem?_eq_getElem hj]
  ·have h3:inner.length=xs.length:=by have:=hr.1;simp [scalar] at this;omega
   rw [List.getElem?_eq_none (by omega),List.getElem?_eq_none (by rw [y72];omega)]
 rw [← this];exact ho
theorem C_of_reads {α:Type} {enc:α->Value} {d:α} {h1:∀ x,(enc x).oneCell'=true} {w:World} {A:Option Addr} {n:Nat} {xs:List α} (h:ReadsOf enc d w A n xs):(scalar enc h1).C w A n xs:=by
 refine ⟨h.1,h.2.1,fun hn=>?_⟩;obtain ⟨ad,e,hc⟩:=h.2.2 hn;refine ⟨ad,e,fun j p hj=>⟨[enc p],rfl,rfl,fun i u hu=>?_⟩⟩;obtain ⟨hl,hp⟩:=List.getElem?_eq_some_iff.1 hj;have h2:=hc j (by have:=h.1;omega);rw [List.getD_eq_getElem?_getD,hj] at h2;cases i with
 |zero =>
  have:enc p=u:=by simpa using hu
  subst this;simpa [scalar] using h2
 |succ i=>simp at hu
theorem ye9 {α:Type} {enc:α->Value} {d:α} {h1:∀ x,(enc x).oneCell'=true} {w:World} {A:Option Addr} {n:Nat} {xs:List α} (h:(scalar enc h1).C w A n xs):ReadsOf enc d w A n xs:=by
 refine ⟨h.1,h.2.1,fun hn=>?_⟩;obtain ⟨ad,e,hc⟩:=h.2.2 hn;refine ⟨ad,e,fun j hj=>?_⟩;have hl:j<xs.length:=by have:=h.1;omega
 obtain ⟨c,_,hK,hcell⟩:=hc j _ (List.getElem?_eq_getElem hl);have hK':c=[enc xs[j]]:=hK;subst hK';have:=hcell 0 _ rfl;simpa [scalar,List.getD_eq_getElem?_getD,List.getElem?_eq_getElem hl] using this
end Kd
namespace Kd
end Kd
namespace Kd
theorem R_after {α:Type} {d:Kd α} {e base:Nat} {ok:Nat->Prop} {W w1:World} {u v v1:Value} {xs:List α} (h:d.R e W base (fun k=>ok k∧some k≠v.ownBlock) u xs) (hg:W.grownBy w1 v.ownBlock) (hat:v1.ownBlock=v.ownBlock∨∃ b,v1.ownBlock=some b∧W.heap.size≤b):d.R e w1 base (fun k=>ok k∧some k≠v1.ownBlock) u xs:=by
 refine R_mono (yde (R_bound h) (fun k hk=>hg.block k hk.2.2.1 hk.1.2)) (fun k hk=>⟨hk.1.1,?_⟩);rcases hat with hat|⟨b,hb,hle⟩
 ·rw [hat];exact hk.1.2
 ·rw [hb]
  intro he;injection he with he
  have:=hk.2.2.1;omega
theorem R_apart_nil {α:Type} {d:Kd α} {e base:Nat} {ok:Nat->Prop} {w:World} {u:Value} {xs:List α} (h:d.R e w base ok u xs):d.R e w base (fun k=>ok k∧some k≠(Value.slice none 0 0).ownBlock) u xs:=R_mono h (fun k hk=>⟨hk,by simp [Value.ownBlock]⟩)
end Kd
namespace Kd
section
variable {α β:Type} {d:Kd α} {d':Kd β} {e e':Nat} {w w1 W:World} {base b b':Nat} {ok ok' okv oku:Nat->Prop} {v u:Value} {xs:List α} {ys:List β}
theorem R_drew (h:d.R e w base ok v xs):d.R e w.drew base ok v xs:=R_below h (yep (Below.refl _ _))
theorem R_drewN (h:d.R e w base ok v xs) (m:Nat):d.R e (w.drewN m) base ok v xs:=R_below h (y00 (Below.refl _ _) m)
theorem C_drewN {A:Option Addr} {n:Nat} (h:d.C w A n xs) (m:Nat):d.C (w.drewN m) A n xs:=C_below h (y00 (Below.refl _ _) m)
theorem R_reads' {A:Option Addr} {n c:Nat} (h:d.R e w base ok (.slice A n c) xs):n=xs.length∧n≤c∧d.C w A xs.length xs:=by
 obtain ⟨A',c',he,hl,hr⟩:=R_reads h;injection he with h1 h2 h3
 subst h1;exact ⟨h2,by omega,hr⟩
theorem R_lt (h:d.R e w base ok v xs):∀ k,v.ownBlock=some k->k<w.heap.size:=by
 obtain ⟨inner,ho⟩:=R_own h;exact own_lt ho
theorem R_base (h:d.R e w base ok v xs):∀ k,v.ownBlock=some k->base≤k:=by
 obtain ⟨inner,ho⟩:=R_own h;exact y57 ho
theorem R_away (h:d.R e w base ok v xs) {g:Nat} (hok:∀ k,ok k->k≠g):some g≠v.ownBlock:=fun e=>hok g (h.1 g e.symm) rfl
theorem R_form (h:d.R e w base ok v xs) (hp:0<xs.length):∃ g cap,v=.slice (some ⟨g,0,none⟩) xs.length cap∧base≤g∧g<w.heap.size∧∃ cells,w.heap[g]?=some (.cells cells e (0,0)):=by
 obtain ⟨inner,ho⟩:=R_own h;obtain ⟨g,cap,he,hb,hl⟩:=ho.form hp;obtain ⟨cells,hc⟩:=y56 ho g (by rw [he];simp [Value.ownBlock]);exact ⟨g,cap,he,hb,hl,cells,hc⟩
end
section
variable {w W:World} {A:Option Addr} {n:Nat}
theorem at_int {k:IntKind} {xs:List Int} (h:(Kd.int k).C w A n xs) (i:Int) (h0:0≤i) (h1:i<n):∃ ad,A=some ad∧w.cell? (ad.add i.toNat)=some (.int k (rd xs i)) :=
 ReadsOf.at_ (ye9 (enc:=Value.int k) (d:=(0:Int)) (h1:=fun _=>rfl) h) i h0 h1
variable {α:Type} {enc:α->Value} {h1:∀ x,(enc x).oneCell'=true} {e base g cap:Nat} {ok:Nat->Prop} {xs:List α}
theorem R_cell (d:α) (h:(scalar enc h1).R e W base ok (.slice (some ⟨g,0,none⟩) xs.length cap) xs) (i:Int) (h0:0≤i) (hi:i<xs.length):W.cell? ⟨g,i.toNat,none⟩=some (enc (rdOf d xs i))∧W.frozen? ⟨g,i.toNat,none⟩=false:=ygb (yco h) i h0 hi
theorem R_put (h:(scalar enc h1).R e W base ok (.slice (some ⟨g,0,none⟩) xs.length cap) xs) (i:Int) (x:α):(scalar enc h1).R e (W.setCell ⟨g,i.toNat,none⟩ (enc x)) base ok (.slice (some ⟨g,0,none⟩) xs.length cap) (xs.set i.toNat x)∧W.grownBy (W.setCell ⟨g,i.toNat,none⟩ (enc x)) (some g):=by
 obtain ⟨ho,hg⟩:=yah (yco h) i x;exact ⟨yj3 (by rw [List.length_set];exact ho) h.1,hg⟩
end
section
variable {P:Program} {ops:Array Oper} {rest:List Oper} {o:Oper} {a:Act} {Q:Exit->Act->World->Prop}
theorem event_run {W w1:World} {v:Value} (hgd:o.guard=none) (hrun:(execOp a.eval o).run P W=.ok (.value v) w1) (h:wpList P ops Q rest (a.put o.dst v) w1):wpList P ops Q (o :: rest) a W:=by
 refine wpList_plain hgd fun K hK=>?_
 unfold Oper.wp;rw [hrun];exact hK _ _ h
variable {α:Type}
theorem R_lit (d:Kd α) {w0 W:World} (base e:Nat) (hgd:o.guard=none) {N:Tmp} (_hd:o.dst=some N) {xs:List α} {inner:List Value} {ok okp:Nat->Prop}
  (hrun:(execOp a.eval o).run P W=.ok (.value (.slice (some ⟨W.heap.size,0,none⟩) xs.length xs.length)) (W.alloc (.cells inner.toArray e)))
  (hrep:Reps (d.M W base okp) d.sz xs inner) (hok:∀ k,okp k->ok k) (hfresh:ok W.heap.size) (HB:Below base w0 W) (hbase:base≤W.heap.size) (hm:xs.length≤9223372036854775807)
  (h:∀ v1 w1,d.R e w1 base ok v1 xs->Below base w0 w1->W.grownBy w1 none->(∃ b,v1.ownBlock=some b∧W.heap.size≤b)->wpList P ops Q rest (a.put o.dst v1) w1):wpList P ops Q (o :: rest) a W:=by
 refine event_run hgd hrun (h _ _ ⟨fun k hk=>?_,inner,?_,?_⟩ (HB.alloc hbase _) (World.grownBy_alloc W _ none) ⟨W.heap.size,by simp [Value.ownBlock],zLe _⟩)
 ·have:W.heap.size=k:=by simpa [Value.ownBlock] using hk
  subst this;exact hfresh
 ·have h2:=World.ownsRow_lit (base:=base) (e:=e) (size:=d.sz) W inner.toArray xs.length hbase (by simpa [maxLen] using hm) (by simpa using hrep.1)
  simpa using h2
 ·refine hrep.imp_ (fun p c hp=>d.M_mono (fun k hk=>⟨hok k hk.1,fun he=>?_⟩) (M_below (d.M_bound hp) (y01 (Below.refl _ _) _)))
  have h3:k=W.heap.size:=by simpa [Value.ownBlock] using he
  have:=hk.2.2.1;omega
theorem yfo {α:Type} {R:α->List Value->Prop} {z:Value} {size:Nat} {z0:α} (hz:z.cells.size=size) (hs:0<size) (h0:R z0 z.cells.toList) (m:Nat):Reps R size (List.replicate m z0) (madeCells z.cells (m * size)).toList:=by
 refine ⟨by simp [size_madeCells],fun j p hj=>?_⟩;obtain ⟨hjl,hp⟩:=List.getElem?_eq_some_iff.1 hj;have hjm:j<m:=by simpa using hjl
 have hp':z0=p:=by simpa using hp
 subst hp';have hle:j * size+size≤m * size:=by rw [← Nat.succ_mul];exact Nat.mul_le_mul_right _ hjm
 have:((madeCells z.cells (m * size)).toList.drop (j * size)).take size=z.cells.toList:=by
  apply List.ext_getElem
  ·simp [size_madeCells,hz]
   omega
  ·intro i h1 h2
   have hi:i<size:=by rw [Array.length_toList,hz] at h2;exact h2
   have hmod:(j * size+i) % size=i:=by
    rw [Nat.mul_comm,Nat.mul_add_mod];exact Nat.mod_eq_of_lt hi
   simp [madeCells,hz,hmod];rw [getElem!_pos z.cells i (by omega)]
 rw [this];exact h0
theorem R_make (d:Kd α) {w0 W:World} (base e:Nat) (hgd:o.guard=none) {N:Tmp} (hd:o.dst=some N) (t:TypeId) (x y:Operand) (ho:o.op=.makeSlice t x y) (n:Int) (hx:a.eval x=.int .i64 n) (hy:a.eval y=.int .i64 n)
  (ht:P.underlying t=some (.slice e)) (z:Value) (bytes:Nat) (hinfo:(P.info? e).map (fun i=>(i.zero,i.size,i.bytes))=some (some z,d.sz,bytes)) (hz:z.cells.size=d.sz) (hs0:0<d.sz) (hb0:0<bytes)
  (z0:α) {ok okp:Nat->Prop} (hzero:d.M W base okp z0 z.cells.toList) (hok:∀ k,okp k->ok k) (hfresh:ok W.heap.size) (h0:0≤n) (hl:n.toNat * bytes≤281474976710656) (HB:Below base w0 W) (hbase:base≤W.heap.size)
  (h:∀ v1 w1,d.R e w1 base ok v1 (List.replicate n.toNat z0)->Below base w0 w1->W.grownBy w1 none->(∃ b,v1.ownBlock=some b∧W.heap.size≤b)->wpList P ops Q rest (a.put o.dst v1) w1):wpList P ops Q (o :: rest) a W:=by
 obtain ⟨m,rfl⟩:=Int.eq_ofNat_of_zero_le h0;simp only [Int.toNat_natCast] at hl h;obtain ⟨i0,hi,hzz⟩:=Option.map_eq_some_iff.1 hinfo;simp only [Prod.mk.injEq] at hzz;obtain ⟨hz0,hz1,hz2⟩:=hzz;have hm:m≤281474976710656:=Nat.le_trans (Nat.le_mul_of_pos_right _ hb0) hl;have hr:=run_make (P:=P) W t e i0 z ht hi hz0 .i64 .i64 (m:Int) (m:Int) (by omega) (by omega)
  (by
   have h3:((i0.bytes * m:Nat):Int)≤281474976710656:=by rw [hz2,Nat.mul_comm];omega
   rwa [Int.natCast_mul] at h3) (by omega)
 simp only [Int.toNat_natCast] at hr;rw [hz1] at hr;refine R_lit d base e hgd hd (xs:=List.replicate m z0) (inner:=(madeCells z.cells (m * d.sz)).toList) (okp:=okp) (ok:=ok) ?_ (yfo hz hs0 hzero m) hok hfresh HB hbase (by simp;omega) h;simp [execOp,ho,hx,hy,hr]
end
end Kd
namespace Kd
end Kd
namespace Kd
section
variable {α:Type} {d:Kd α} {e e':Nat} {w w1 W:World} {base:Nat} {ok:Nat->Prop} {u v:Value} {xs:List α}
theorem R_elder' (hu:d.R e W base ok u xs) (hbase:∀ k,v.ownBlock=some k->W.heap.size≤k) (hb:Below W.heap.size W w1):d.R e w1 base (fun k=>ok k∧some k≠v.ownBlock) u xs :=
 R_mono (yde (R_bound hu) (fun k hk=>hb.block k hk.2.2.1)) (fun k hk=>⟨hk.1,fun he=>by have:=hbase k he.symm;have:=hk.2.2.1;omega⟩)
theorem R_new' (h:d.R e w1 W.heap.size ok v xs) (hlt:∀ k,u.ownBlock=some k->k<W.heap.size):d.R e w1 W.heap.size (fun k=>ok k∧some k≠u.ownBlock) v xs :=
 R_mono (R_bound h) (fun k hk=>⟨hk.1,fun he=>by have:=hlt k he.symm;have:=hk.2.1;omega⟩)
theorem fresh' (hlt:∀ k,u.ownBlock=some k->k<W.heap.size):∀ k,W.heap.size≤k->some k≠u.ownBlock:=fun k hk he=>by have:=hlt k he.symm;omega
end
end Kd
namespace Kd
end Kd
namespace Kd
end Kd
namespace Kd
theorem ybg {α:Type} {R:α->List Value->Prop} {size:Nat} {ps qs:List α} {cs ds:List Value} (h:Reps R size ps cs) (h':Reps R size qs ds):Reps R size (ps ++ qs) (cs ++ ds):=by
 refine ⟨by rw [List.length_append,List.length_append,h.1,h'.1,Nat.add_mul],fun j p hj=>?_⟩;rcases Nat.lt_or_ge j ps.length with hlt|hge
 ·rw [List.getElem?_append_left hlt] at hj
  have hle:j * size+size≤cs.length:=by rw [h.1,← Nat.succ_mul];exact Nat.mul_le_mul_right _ hlt
  rw [List.drop_append_of_le_length (by omega),List.take_append_of_le_length (by rw [List.length_drop];omega)];exact h.2 j p hj
 ·rw [List.getElem?_append_right hge] at hj
  have h2:=h'.2 (j - ps.length) p hj;have hle:ps.length * size≤j * size:=Nat.mul_le_mul_right _ hge;rw [List.drop_append,List.drop_eq_nil_of_le (by rw [h.1];exact hle),List.nil_append,h.1,← Nat.sub_mul];exact h2
section
variable {P:Program} {ops:Array Oper} {rest:List Oper} {o:Oper} {a:Act} {Q:Exit->Act->World->Prop} {α:Type}
theorem R_append_rows (d:Kd α) {Rr:α->List Value->Prop} {w0 W:World} (base:Nat) (hgd:o.guard=none) (s x:Operand) (t e:TypeId) (z:Value) (bytes:Nat)
  (ho:o.op=.call { callee:=.builtin .append,args:=#[s,x],argTypes:=#[t,t] })
  (ht:P.underlying t=some (.slice e)) (hinfo:(P.info? e).map (fun i=>(i.zero,i.size,i.bytes))=some (some z,d.sz,bytes)) (hz:z.cells.size=d.sz) (hs0:0<d.sz) (hb0:0<bytes)
  (v:Value) (xs ys:List α) (A:Option Addr) (m c:Nat) (ok okp:Nat->Prop) (hs:a.eval s=v) (hx:a.eval x=.slice A m c)
  (HO:d.R e W base ok v xs) (HR:ReadsRow Rr d.sz W A m ys) (hKM:∀ x cs,Rr x cs->d.M W base okp x cs) (hokp:∀ k,okp k->ok k∧some k≠v.ownBlock) (hfresh:∀ k,W.heap.size≤k->ok k)
  (HB:Below base w0 W) (hbase:base≤W.heap.size) (hl:(xs.length+m) * bytes≤140737488355328)
  (h:∀ v1 w1,d.R e w1 base ok v1 (xs ++ ys)->Below base w0 w1->W.grownBy w1 v.ownBlock->(v1.ownBlock=v.ownBlock∨∃ b,v1.ownBlock=some b∧W.heap.size≤b)->wpList P ops Q rest (a.put o.dst v1) w1) :
  wpList P ops Q (o :: rest) a W:=by
 obtain ⟨i0,hi,hzz⟩:=Option.map_eq_some_iff.1 hinfo;simp only [Prod.mk.injEq] at hzz;obtain ⟨hz0,hz1,hz2⟩:=hzz;have hm:ys.length=m:=HR.1;have hlen:xs.length+m≤140737488355328:=Nat.le_trans (Nat.le_mul_of_pos_right _ hb0) hl;obtain ⟨hok,inner,hown,hr⟩:=HO;have hrun:∃ v1 w1,(Builtin.append_ #[t,t] o.type #[v,.slice A m c]).run P W=.ok v1 w1∧d.R e w1 base ok v1 (xs ++ ys)∧W.grownBy w1 v.ownBlock∧(v1.ownBlock=v.ownBlock∨∃ b,v1.ownBlock=some b∧W.heap.size≤b):=by
  rcases A with _|ad
  ·have h0:m=0:=by
    rcases Nat.eq_zero_or_pos m with h0|h0
    ·exact h0
    ·obtain ⟨ad,h,_⟩:=HR.2.2 h0
     cases h
   subst h0;obtain rfl:ys=[]:=List.eq_nil_of_length_eq_zero hm;refine ⟨v,W,?_,by rw [List.append_nil];exact ⟨hok,inner,hown,hr⟩,World.grownBy.refl W _,.inl rfl⟩;rcases hown.2 with ⟨rfl,hn⟩|⟨g,cap,cur,rfl,_,_,hnc,_⟩
   ·simp [Builtin.append_,run_underlying ht,sizeOf,typeInfo,hi,Builtin.lenOf,Builtin.firstCells]
   ·simp [Builtin.append_,run_underlying ht,sizeOf,typeInfo,hi,Builtin.lenOf,Builtin.firstCells,hnc,storeCells]
  ·obtain ⟨news,hnr,hnc⟩:=ReadsRow.inner_ HR
   have hnM:Reps (d.M W base okp) d.sz ys news:=hnr.imp_ (fun p c hp=>hKM p c hp);have hone:∀ u ∈ news,u.oneCell'=true:=by
    intro u hu;obtain ⟨q,hq,rfl⟩:=List.mem_iff_getElem.1 hu;have hql:q / d.sz<ys.length:=by
     rw [Nat.div_lt_iff_lt_mul hs0];rw [← hnM.1];exact hq
    have hc:=hnM.2 (q / d.sz) _ (List.getElem?_eq_getElem hql);refine d.K_one (d.K_of_M hc) _ ?_;rw [List.mem_iff_getElem?];refine ⟨q % d.sz,?_⟩;rw [List.getElem?_take,if_pos (Nat.mod_lt _ hs0),List.getElem?_drop,Nat.mul_comm,Nat.div_add_mod,List.getElem?_eq_getElem hq]
   obtain ⟨v1,w1,hrun,h2,hg,_,hat⟩:=run_append_own_at (P:=P) W base t o.type e i0 z d.sz bytes ht hi hz0 hz1 hz2 hz hs0 v xs.length inner hown ad m c news (by rw [hnM.1,hm]) hnc hone (by simp only [maxLen];omega) hl hbase;have hat':v1.ownBlock=v.ownBlock∨∃ b,v1.ownBlock=some b∧W.heap.size≤b:=by
    rcases hat with hat|hat
    ·exact .inl hat
    ·exact .inr ⟨_,hat,zLe _⟩
   have hne:∀ k,some k≠v.ownBlock->k<W.heap.size->some k≠v1.ownBlock:=by
    intro k hk hlt;rcases hat' with hat|⟨b,hb,hle⟩
    ·rw [hat];exact hk
    ·rw [hb]
     intro he;injection he with he
     omega
   have step:∀ {q:α} {c:List Value} {o:Nat->Prop},d.M W base o q c->(∀ k,o k->ok k∧some k≠v.ownBlock)->d.M w1 base (fun k=>ok k∧some k≠v1.ownBlock) q c:=by
    intro q c o hq ho;have h1:=d.M_move (w1:=w1) (fun k hk=>hg.block k hk.2.2.1 (ho k hk.1).2) (d.M_bound hq);exact d.M_mono (fun k hk=>⟨(ho k hk.1).1,hne k (ho k hk.1).2 hk.2.2.1⟩) h1
   refine ⟨v1,w1,hrun,⟨fun k hk=>?_,inner ++ news,by rw [List.length_append,hm];exact h2,ybg (hr.imp_ (fun _ _ hq=>step hq (fun _ hk=>hk))) (hnM.imp_ (fun _ _ hq=>step hq hokp))⟩,hg,hat'⟩;rcases hat' with hat|⟨b,hb,hle⟩
   ·exact hok k (hat ▸ hk)
   ·rw [hb] at hk
    injection hk with hk
    exact hfresh k (by omega)
 obtain ⟨v1,w1,hr1,h1,hg,hat⟩:=hrun;refine wpList_plain hgd fun K hK=>?_
 unfold Oper.wp execOp;simp only [ho,resolve,invoke,builtin,Sem.run_bind,Sem.run_pure,Result.andThen_ok,List.map_toArray,List.map_cons,List.map_nil,hs,hx,hr1];exact hK _ _ (h v1 w1 h1 (HB.grown hg hbase (y57 hown)) hg hat)
end
end Kd
namespace Kd
end Kd
namespace Kd
section
variable {α:Type} {k:Kd α} {w:World} {A:Option Addr} {xs:List α} {m c:Nat}
theorem C_take (h:k.C w A xs.length xs) (hm:m≤xs.length):k.C w A (xs.take m).length (xs.take m):=by
 have hl:(xs.take m).length=m:=by rw [List.length_take];omega
 refine ⟨rfl,by rw [hl];have:=h.2.1;omega,fun hp=>?_⟩;obtain ⟨ad,e,hc⟩:=h.2.2 (by omega);refine ⟨ad,e,fun j p hj=>hc j p ?_⟩;rw [List.getElem?_take] at hj;split at hj
 ·exact hj
 ·cases hj
end
end Kd
theorem y05 {w W:World} (h:Below w.heap.size w W):w.heap.size≤W.heap.size:=h.size
theorem y04 {w W w2:World} (h:Below w.heap.size w W) (k:Below W.heap.size W w2):Below w.heap.size w w2:=yeo h h.size k
theorem y0j {w W:World} {g j:Nat} {v:Value} (h:Below w.heap.size w W) (hg:w.heap.size≤g):Below w.heap.size w (W.setCell ⟨g,j,none⟩ v):=h.setCell hg _
theorem y0t {W:World} {p a:Addr} (h:a.block≠p.block) (u:Value):(W.setCell p u).cell? a=W.cell? a:=by
 have:=Below.heap_setCell W p u a.block h;simp [World.cell?,this]
theorem y0y {w:World} {g:Nat} {t:TypeId} {cs cs':Array Value} (h:w.heap[g]?=some (.cells cs t (0,0))) (i:Nat) (u:Value) (e:cs.setIfInBounds i u=cs'):(w.setCell ⟨g,i,none⟩ u).heap[g]?=some (.cells cs' t (0,0)):=e ▸ blk_set h i u
theorem y02 {base:Nat} {w W:World} (h:Below base w W):Below base w W.drew:=h.drew
namespace Kd
end Kd
namespace Kd
section
variable {α:Type} {d:Kd α} {e base g:Nat} {ok:Nat->Prop} {w w1:World} {v:Value} {xs:List α} {o:Obj}
theorem R_elderB (h:d.R e w base ok v xs) (a:Nat) (ha:w.heap.size≤a):d.R e w base (fun k=>ok k∧k≠a) v xs:=R_mono (R_bound h) (fun k hk=>⟨hk.1,by have:=hk.2.2.1;omega⟩)
theorem freshB (hb:w.heap[g]?=some o):∀ k,w.heap.size≤k->k≠g:=fun k hk=>by have:=y1i hb;omega
end
end Kd
section
variable {P:Program} {ops:Array Oper} {rest:List Oper} {o:Oper} {a:Act} {Q:Exit->Act->World->Prop}
theorem y19 {W:World} (hgd:o.guard=none) {N:Tmp} (_hd:o.dst=some N) {cs:Array Value} {t:TypeId}
  (hrun:(execOp a.eval o).run P W=.ok (.value (.pointer (some ⟨W.heap.size,0,none⟩))) (W.alloc (.cells cs t (0,0))))
  (h:∀ g,g=W.heap.size->∀ w1,w1.heap[g]?=some (.cells cs t (0,0))->Below W.heap.size W w1->wpList P ops Q rest (a.put o.dst (.pointer (some ⟨g,0,none⟩))) w1):wpList P ops Q (o :: rest) a W :=
 Kd.event_run hgd hrun (h _ rfl _ (yha W _) (y01 (Below.refl _ _) _))
end
namespace Kd
section
variable {α:Type} {enc:α->Value} {h1:∀ x,(enc x).oneCell'=true} {e base g n cap:Nat} {ok:Nat->Prop} {W:World} {xs:List α}
theorem R_celln (d:α) (h:(scalar enc h1).R e W base ok (.slice (some ⟨g,0,none⟩) n cap) xs) (i:Int) (h0:0≤i) (hi:i<n):W.cell? ⟨g,i.toNat,none⟩=some (enc (rdOf d xs i))∧W.frozen? ⟨g,i.toNat,none⟩=false:=by
 obtain ⟨rfl,_⟩:=R_reads' h;exact R_cell d h i h0 hi
theorem R_putn (h:(scalar enc h1).R e W base ok (.slice (some ⟨g,0,none⟩) n cap) xs) (i:Int) (x:α):(scalar enc h1).R e (W.setCell ⟨g,i.toNat,none⟩ (enc x)) base ok (.slice (some ⟨g,0,none⟩) n cap) (xs.set i.toNat x):=by
 obtain ⟨rfl,_⟩:=R_reads' h;exact (R_put h i x).1
end
end Kd
section
variable {P:Program} {ops:Array Oper} {rest:List Oper} {o:Oper} {a:Act} {Q:Exit->Act->World->Prop}
theorem yb2 {W w1:World} (hgd:o.guard=none) {t:TypeId} {p:Tmp} {v:Operand} (_ho:o.op=.store t (.tmp p) v) (hN:o.dst=none)
  (hrun:(execOp a.eval o).run P W=.ok .skip w1) (h:∀ w',w'=w1->wpList P ops Q rest a w'):wpList P ops Q (o :: rest) a W:=by
 refine wpList_plain hgd fun K hK=>?_
 unfold Oper.wp;rw [hrun];show K (a.put o.dst undef) w1;rw [hN];exact hK _ _ (h _ rfl)
end
namespace Kd
section
variable {α:Type} {enc:α->Value} {h1:∀ x,(enc x).oneCell'=true} {e base g n cap:Nat} {ok:Nat->Prop} {W:World} {xs:List α}
theorem R_putg (h:(scalar enc h1).R e W base ok (.slice (some ⟨g,0,none⟩) n cap) xs) (i:Int) (x:α):(scalar enc h1).R e (W.setCell ⟨g,i.toNat,none⟩ (enc x)) base ok (.slice (some ⟨g,0,none⟩) n cap) (xs.set i.toNat x)∧W.grownBy (W.setCell ⟨g,i.toNat,none⟩ (enc x)) (some g):=by
 obtain ⟨rfl,_⟩:=R_reads' h;exact R_put h i x
end
end Kd
section
variable {P:Program} {ops:Array Oper} {rest:List Oper} {o:Oper} {a:Act} {Q:Exit->Act->World->Prop} {W:World}
theorem y0s {N:Tmp} (_hN:o.dst=some N) (h:wpList P ops Q (o :: rest) a W):wpList P ops Q (o :: rest) a W:=h
theorem yej {t:TypeId} {p:Tmp} {v:Operand} (_ho:o.op=.store t (.tmp p) v) (h:wpList P ops Q (o :: rest) a W):wpList P ops Q (o :: rest) a W:=h
end
section
variable {P:Program} {ops:Array Oper} {o:Oper} {a:Act} {Q:Exit->Act->World->Prop} {Kc:Act->World->Prop}
theorem yel {W w1:World} {v:Value} (hw:Region.wanted o (yielded ops a.tmps)=true) (hrun:(execOp a.eval o).run P W=.ok (.value v) w1) (h:Kc (a.put o.dst v) w1):if Region.wanted o (yielded ops a.tmps)=true then Oper.wp P o a W Kc Q else Kc (a.put o.dst undef) W:=by
 rw [if_pos hw];unfold Oper.wp;rw [hrun];exact h
theorem yd9 {W:World} (hw:Region.wanted o (yielded ops a.tmps)=true) {N:Tmp} (_hd:o.dst=some N) {cs:Array Value} {t:TypeId}
  (hrun:(execOp a.eval o).run P W=.ok (.value (.pointer (some ⟨W.heap.size,0,none⟩))) (W.alloc (.cells cs t (0,0))))
  (h:∀ g,g=W.heap.size->∀ w1,w1.heap[g]?=some (.cells cs t (0,0))->Below W.heap.size W w1->Kc (a.put o.dst (.pointer (some ⟨g,0,none⟩))) w1):if Region.wanted o (yielded ops a.tmps)=true then Oper.wp P o a W Kc Q else Kc (a.put o.dst undef) W :=
 yel hw hrun (h _ rfl _ (yha W _) (y01 (Below.refl _ _) _))
namespace Kd
variable {α:Type}
end Kd
end
inductive Vals (P:Program) (tmps:Array Value) (w:World):List ResultVar->List Value->Prop where
 |nil:Vals P tmps w [] []
 |tmp {u:Tmp} {rs:List ResultVar} {vs:List Value} (h:Vals P tmps w rs vs):Vals P tmps w (.tmp u :: rs) (tmps.getD u undef :: vs)
 |cell {p:Tmp} {ty:TypeId} {rs:List ResultVar} {vs:List Value} (g:Nat) (t:TypeId) (cs:Array Value) (fr:Nat × Nat) (d:TypeDesc)
   (hp:tmps.getD p undef=.pointer (some ⟨g,0,none⟩)) (hg:w.heap[g]?=some (.cells cs t fr))
   (hu:P.underlying ty=some d) (hd:(match d with|.struct _|.array _ _=>true|_=>false)=true) (hi:(P.info? ty).map (·.size)=some cs.size)
   (h:Vals P tmps w rs vs):Vals P tmps w (.cell p ty :: rs) (.agg cs :: vs)
section
variable {P:Program} {tmps:Array Value} {w:World}
theorem yhv {rs:List ResultVar} {vs:List Value} (hv:Vals P tmps w rs vs) (f:ResultVar->Sem Value) (hf:∀ u,f (.tmp u)=pure (tmps.getD u undef)) (hc:∀ a t,f (.cell a t)=(do loadVar t (← asAddr (tmps.getD a undef)))) :
  (rs.mapM f).run P w=.ok vs w:=by
 induction hv with
 |nil=>simp
 |tmp h ih=>simp [List.mapM_cons,hf,ih]
 |cell g t cs fr d hp hg hu hd hi h ih =>
  rw [List.mapM_cons,hc,hp];simp [asAddr,run_loadVar_row w g t _ cs fr d hg hu hd hi,ih]
theorem y35 {fn:Func} {rs:List ResultVar} {vs:List Value} (h:fn.results=rs.toArray) (hl:vs.length≠1) (hv:Vals P tmps w rs vs):(results fn tmps).run P w=.ok (.tuple vs.toArray) w:=by
 unfold results;rw [h,List.mapM_toArray];simp only [Sem.run_bind,Sem.run_map];rw [yhv hv]
 ·simp [hl]
 ·intro u
  rfl
 ·intro a t
  rfl
end
namespace Kd
end Kd
end Go.Proofs.YtfgcijifdbgpaaaW.Wd
namespace Go.Proofs.YtfgcijifdbgpaaaW.La
section
variable {P:Program} {ops:Array Oper} {Q:Exit->Act->World->Prop} {md:Region.Mode} {S:World->Prop} {ds:List Nat}
def Region.reachB (md:Region.Mode) (ops:Array Oper) (i:Nat):Nat->Nat->Bool
 |0,_=>false
 |fuel+1,d=>match ops[d]? with
  |some o=>o.after.any fun e=>Region.binds md e && (e.on == i || Region.reachB md ops i fuel e.on)
  |none=>false
def Region.closedB (md:Region.Mode) (ops:Array Oper) (listed:Array Bool):Bool :=
 (List.range ops.size).all fun j=>!listed.getD j false || match ops[j]? with
  |some o=>o.after.all fun e=>!Region.binds md e || listed.getD e.on false
  |none=>true
def Region.lastB (md:Region.Mode) (ops:Array Oper) (listed:Array Bool) (ds:List Nat) (i:Nat):Bool :=
 ds.all fun d=>listed.getD d true || Region.reachB md ops i ops.size d
def ListedClosed (md:Region.Mode) (ops:Array Oper) (listed:Array Bool):Prop :=
 ∀ j oj,ops[j]?=some oj->listed.getD j false=true->∀ e ∈ oj.after,Region.binds md e=true->listed.getD e.on false=true
theorem Region.closedB_spec {listed:Array Bool} (h:Region.closedB md ops listed=true):ListedClosed md ops listed:=by
 intro j oj hj hl e he hb;have hlt:j<ops.size:=(zGe hj).1;have h1:=List.all_eq_true.1 h j (List.mem_range.2 hlt);simp only [hl,hj,Bool.not_true,Bool.false_or] at h1;have h2:=Array.all_eq_true_iff_forall_mem.1 h1 e he;simpa [hb] using h2
theorem ListedClosed.set {listed:Array Bool} {i:Nat} (h:ListedClosed md ops listed) (hi:i ∈ Region.ready md ops listed):ListedClosed md ops (listed.setIfInBounds i true):=by
 obtain ⟨_,oi,hoi,hall⟩:=mem_ready.1 hi;intro j oj hj hl e he hb
 by_cases hij:i=j
 ·subst hij
  have:oj=oi:=zSi (hj.symm.trans hoi);subst this;exact getD_set_true (hall e he hb)
 ·rw [getD_set_ne false hij] at hl
  exact getD_set_true (h j oj hj hl e he hb)
theorem Region.reach_listed {listed:Array Bool} {i:Nat} (hc:ListedClosed md ops listed):∀ (fuel d:Nat),Region.reachB md ops i fuel d=true->listed.getD d false=true->listed.getD i false=true
 |0,_,h,_=>by simp [Region.reachB] at h
 |fuel+1,d,h,hl=>by
  unfold Region.reachB at h;cases ho:ops[d]? with
  |none=>rw [ho] at h;simp at h
  |some o =>
   rw [ho] at h;obtain ⟨e,he,h1⟩:=Array.any_eq_true'.1 h;simp only [Bool.and_eq_true,Bool.or_eq_true,beq_iff_eq] at h1;have hle:=hc d o ho hl e he h1.1;rcases h1.2 with h2|h2
   ·rw [← h2];exact hle
   ·exact Region.reach_listed hc fuel e.on h2 hle
theorem Region.reach_not_ready {listed:Array Bool} {i d fuel:Nat} (hc:ListedClosed md ops listed) (hr:Region.reachB md ops i fuel d=true) (hun:listed.getD i true=false):d ∉ Region.ready md ops listed:=by
 intro hd;obtain ⟨_,o,ho,hall⟩:=mem_ready.1 hd;have hi:listed.getD i false=true:=by
  cases fuel with
  |zero=>simp [Region.reachB] at hr
  |succ n =>
   unfold Region.reachB at hr;rw [ho] at hr;obtain ⟨e,he,h1⟩:=Array.any_eq_true'.1 hr;simp only [Bool.and_eq_true,Bool.or_eq_true,beq_iff_eq] at h1;have hle:=hall e he h1.1;rcases h1.2 with h2|h2
   ·rw [← h2];exact hle
   ·exact Region.reach_listed hc n e.on h2 hle
 rcases Nat.lt_or_ge i listed.size with h'|h'
 ·simp [h'] at hun hi
  rw [hun] at hi;cases hi
 ·simp [Array.getElem?_eq_none h'] at hun
def y0o (P:Program) (md:Region.Mode) (ops:Array Oper) (Q:Exit->Act->World->Prop) (S:World->Prop) (ds:List Nat):Nat->Array Bool->Act->World->Prop
 |0,listed,a,w=>Region.ready md ops listed=[]∧Q .normal a w
 |fuel+1,listed,a,w =>
  (Region.ready md ops listed=[]->Q .normal a w) ∧
  ∀ i ∈ Region.ready md ops listed,wpOp P ops Q i (fun a' w'=>(i ∉ ds->S w->S w')∧y0o P md ops Q S ds fuel (listed.setIfInBounds i true) a' w') a w
theorem y4w:∀ (fuel:Nat) (listed:Array Bool) (a:Act) (w:World),y0o P md ops Q S ds fuel listed a w->wpAny P md ops Q fuel listed a w
 |0,_,_,_,h=>h
 |fuel+1,_,_,_,h=>⟨h.1,fun i hi=>wpOp_mono (fun a' w' h'=>y4w fuel _ a' w' h'.2) (h.2 i hi)⟩
theorem y64 {i:Nat} {oi:Oper} {v:Value} (hi:ops[i]?=some oi) (hsel:∀ (j:Nat) (o:Oper) cs b,ops[j]?=some o->o.op≠.select cs b)
  (hQ:∀ c a w,Q (.panic c) (a.put oi.dst v) w->Q (.panic c) a w) (n:Nat) :
  ∀ (fuel:Nat) (listed:Array Bool) (a:Act) (w:World),
   (∀ j oj,ops[j]?=some oj->j≠i->listed.getD j true=false->(∀ e ∈ oj.after,Region.binds md e=true->e.on≠i)->oi.apart ops oj=true) →
   ListedClosed md ops listed->(∀ d ∈ ds,listed.getD d true=false->Region.reachB md ops i n d=true) →
   i ∈ Region.ready md ops listed->YieldsIf P ops S oi v a->S w →
   y0o P md ops Q S ds fuel (listed.setIfInBounds i true) (a.put oi.dst v) w->y0o P md ops Q S ds (fuel+1) listed a w:=by
 intro fuel
 induction fuel with
 |zero =>
  intro listed a w _ _ _ hr hy hS H;refine ⟨fun h=>(by rw [h] at hr;cases hr),fun j hj=>?_⟩
  by_cases hji:j=i
  ·subst hji;exact hy.wpOp hi hS ⟨fun _ h=>h,H⟩
  ·have:=ready_mono hj hji
   rw [H.1] at this;cases this
 |succ fuel ih =>
  intro listed a w hfree hc hd hr hy hS H;refine ⟨fun h=>(by rw [h] at hr;cases hr),fun j hj=>?_⟩
  by_cases hji:j=i
  ·subst hji;exact hy.wpOp hi hS ⟨fun _ h=>h,H⟩
  ·have h1:=H.2 j (ready_mono hj hji)
   obtain ⟨hjun,oj,hoj,hall⟩:=mem_ready.1 hj;have hiun:=(mem_ready.1 hr).1;have hnot:∀ e ∈ oj.after,Region.binds md e=true->e.on≠i:=fun e he hb heq=>by
    have h1:=hall e he hb;rw [heq] at h1;rcases Nat.lt_or_ge i listed.size with h'|h'
    ·simp [h'] at hiun h1;rw [hiun] at h1;cases h1
    ·simp [Array.getElem?_eq_none h'] at h1
   have hjd:j ∉ ds:=fun hm=>Region.reach_not_ready hc (hd j hm hjun) hiun hj
   have h2:=wpOp_putIf hoj (hfree j oj hoj hji hjun hnot) (fun cs b=>hsel i oi cs b hi) (fun cs b=>hsel j oj cs b hoj) hQ hy h1;have hfree':∀ k ok,ops[k]?=some ok->k≠i->(listed.setIfInBounds j true).getD k true=false →
     (∀ e ∈ ok.after,Region.binds md e=true->e.on≠i)->oi.apart ops ok=true:=fun k ok hk hki hun hno=>by
    refine hfree k ok hk hki ?_ hno
    by_cases hjk:j=k
    ·subst hjk;exact hjun
    ·rw [getD_set_ne true hjk] at hun;exact hun
   have hd':∀ d ∈ ds,(listed.setIfInBounds j true).getD d true=false->Region.reachB md ops i n d=true:=fun d hm hun=>by
    refine hd d hm ?_
    by_cases hjk:j=d
    ·subst hjk;exact hjun
    ·rw [getD_set_ne true hjk] at hun;exact hun
   refine wpOp_mono (fun a' w' h3=>⟨h3.2.1,ih (listed.setIfInBounds j true) a' w' hfree' (hc.set hj) hd' (ready_mono hr (Ne.symm hji)) h3.1 (h3.2.1 hjd hS) ?_⟩) h2;rw [Array.setIfInBounds_comm _ _ hji];exact h3.2.2
theorem y86 {i:Nat} {oi:Oper} {v:Value} (hi:ops[i]?=some oi) (hsel:∀ (j:Nat) (o:Oper) cs b,ops[j]?=some o->o.op≠.select cs b)
  (hQ:∀ c a w,Q (.panic c) (a.put oi.dst v) w->Q (.panic c) a w) :
  ∀ (fuel:Nat) (listed:Array Bool) (a:Act) (w:World),
   (∀ j oj,ops[j]?=some oj->j≠i->listed.getD j true=false->(∀ e ∈ oj.after,Region.binds md e=true->e.on≠i)->oi.apart ops oj=true) →
   i ∈ Region.ready md ops listed->Yields P ops oi v a →
   y0o P md ops Q S ds fuel (listed.setIfInBounds i true) (a.put oi.dst v) w->y0o P md ops Q S ds (fuel+1) listed a w:=by
 intro fuel
 induction fuel with
 |zero =>
  intro listed a w _ hr hy H;refine ⟨fun h=>(by rw [h] at hr;cases hr),fun j hj=>?_⟩
  by_cases hji:j=i
  ·subst hji;exact (hy.yieldsIf (S:=fun _=>True)).wpOp hi trivial ⟨fun _ h=>h,H⟩
  ·have:=ready_mono hj hji
   rw [H.1] at this;cases this
 |succ fuel ih =>
  intro listed a w hfree hr hy H;refine ⟨fun h=>(by rw [h] at hr;cases hr),fun j hj=>?_⟩
  by_cases hji:j=i
  ·subst hji;exact (hy.yieldsIf (S:=fun _=>True)).wpOp hi trivial ⟨fun _ h=>h,H⟩
  ·have h1:=H.2 j (ready_mono hj hji)
   obtain ⟨hjun,oj,hoj,hall⟩:=mem_ready.1 hj;have hiun:=(mem_ready.1 hr).1;have hnot:∀ e ∈ oj.after,Region.binds md e=true->e.on≠i:=fun e he hb heq=>by
    have h1:=hall e he hb;rw [heq] at h1;rcases Nat.lt_or_ge i listed.size with h'|h'
    ·simp [h'] at hiun h1;rw [hiun] at h1;cases h1
    ·simp [Array.getElem?_eq_none h'] at h1
   have h2:=wpOp_put hoj (hfree j oj hoj hji hjun hnot) (fun cs b=>hsel i oi cs b hi) (fun cs b=>hsel j oj cs b hoj) hQ hy h1;have hfree':∀ k ok,ops[k]?=some ok->k≠i->(listed.setIfInBounds j true).getD k true=false →
     (∀ e ∈ ok.after,Region.binds md e=true->e.on≠i)->oi.apart ops ok=true:=fun k ok hk hki hun hno=>by
    refine hfree k ok hk hki ?_ hno
    by_cases hjk:j=k
    ·subst hjk;exact hjun
    ·rw [getD_set_ne true hjk] at hun;exact hun
   refine wpOp_mono (fun a' w' h3=>⟨h3.2.1,ih (listed.setIfInBounds j true) a' w' hfree' (ready_mono hr (Ne.symm hji)) h3.1 ?_⟩) h2;rw [Array.setIfInBounds_comm _ _ hji];exact h3.2.2
theorem y7b {i:Nat} {oi:Oper} {v:Value} {fuel:Nat} {listed:Array Bool} {a:Act} {w:World} (hi:ops[i]?=some oi)
  (hs:Region.noSelect ops=true) (hf:Region.free md ops listed i=true) (hr:(Region.ready md ops listed).contains i=true)
  (hc:Region.closedB md ops listed=true) (hl:Region.lastB md ops listed ds i=true)
  (hQ:∀ c a w,Q (.panic c) (a.put oi.dst v) w->Q (.panic c) a w) (hy:YieldsIf P ops S oi v a) (hS:S w)
  (h:y0o P md ops Q S ds fuel (listed.setIfInBounds i true) (a.put oi.dst v) w):y0o P md ops Q S ds (fuel+1) listed a w :=
 y64 hi (Region.noSelect_spec hs) hQ ops.size fuel listed a w (Region.free_spec hi hf) (Region.closedB_spec hc)
  (fun d hm hun=>by have:=List.all_eq_true.1 hl d hm;rw [hun] at this;simpa using this) (by simpa using hr) hy hS h
theorem y87 {rs:List Nat} {fuel:Nat} {listed:Array Bool} {a:Act} {w:World} (hr:Region.ready md ops listed=rs) (hne:rs≠[])
  (h:∀ i ∈ rs,wpOp P ops Q i (fun a' w'=>(i ∉ ds->S w->S w')∧y0o P md ops Q S ds fuel (listed.setIfInBounds i true) a' w') a w):y0o P md ops Q S ds (fuel+1) listed a w :=
 ⟨fun h0=>absurd (hr ▸ h0) hne,hr ▸ h⟩
theorem y7c {listed:Array Bool} {a:Act} {w:World} (hr:Region.ready md ops listed=[]) (h:Q .normal a w) :
  ∀ fuel,y0o P md ops Q S ds fuel listed a w
 |0=>⟨hr,h⟩
 |_+1=>⟨fun _=>h,by rw [hr];simp⟩
theorem y7a {id:Nat} {a:Act} {w:World} (hm:P.follows .mixedOrders=true)
  (h:y0o P .any ops Q S ds ops.size (Array.replicate ops.size false) a { w with drawn:=w.drawn+1 }):(Code.region id ops true).wp P Q a w :=
 wp_region_any hm (y4w _ _ _ _ h)
end
section
variable {P:Program} {ops:Array Oper} {Q:Exit->Act->World->Prop} {md:Region.Mode} {S:World->Prop} {ds:List Nat}
def AllReadyL (P:Program) (md:Region.Mode) (ops:Array Oper) (Q:Exit->Act->World->Prop) (S:World->Prop) (ds:List Nat) (fuel:Nat) (listed:Array Bool) (a:Act) (w:World) (rs:List Nat):Prop :=
 ∀ i ∈ rs,wpOp P ops Q i (fun a' w'=>(i ∉ ds->S w->S w')∧y0o P md ops Q S ds fuel (listed.setIfInBounds i true) a' w') a w
theorem AllReadyL.nil {fuel:Nat} {listed:Array Bool} {a:Act} {w:World}:AllReadyL P md ops Q S ds fuel listed a w []:=fun _ h=>by cases h
theorem AllReadyL.cons {fuel:Nat} {listed:Array Bool} {a:Act} {w:World} {i:Nat} {o:Oper} {rs:List Nat} (ho:ops[i]?=some o) (hd:i ∉ ds)
  (h:∀ K':Act->World->Prop,Shut (∀ a w,S w->(S w->y0o P md ops Q S ds fuel (listed.setIfInBounds i true) a w)->K' a w)->if Region.wanted o (yielded ops a.tmps)=true then Oper.wp P o a w K' Q else K' (a.put o.dst undef) w)
  (hs:AllReadyL P md ops Q S ds fuel listed a w rs):AllReadyL P md ops Q S ds fuel listed a w (i :: rs):=fun j hj=>by
 rcases List.mem_cons.1 hj with rfl|hj
 ·exact wpOp_step ho (fun K' hK=>h K' (fun a w hS hW=>hK a w ⟨fun _ _=>hS,hW hS⟩))
 ·exact hs j hj
theorem AllReadyL.cons_last {fuel:Nat} {listed:Array Bool} {a:Act} {w:World} {i:Nat} {o:Oper} {rs:List Nat} (ho:ops[i]?=some o) (hd:i ∈ ds)
  (h:∀ K':Act->World->Prop,Shut (∀ a w,y0o P md ops Q S ds fuel (listed.setIfInBounds i true) a w->K' a w)->if Region.wanted o (yielded ops a.tmps)=true then Oper.wp P o a w K' Q else K' (a.put o.dst undef) w)
  (hs:AllReadyL P md ops Q S ds fuel listed a w rs):AllReadyL P md ops Q S ds fuel listed a w (i :: rs):=fun j hj=>by
 rcases List.mem_cons.1 hj with rfl|hj
 ·exact wpOp_step ho (fun K' hK=>h K' (fun a w hW=>hK a w ⟨fun hn=>absurd hd hn,hW⟩))
 ·exact hs j hj
theorem y3z {rs:List Nat} {fuel:Nat} {listed:Array Bool} {a:Act} {w:World} (hr:Region.ready md ops listed=rs) (hne:rs≠[])
  (h:AllReadyL P md ops Q S ds fuel listed a w rs):y0o P md ops Q S ds (fuel+1) listed a w:=y87 hr hne h
theorem y2d {id n:Nat} {a:Act} {w:World} (l:Array Bool) (hm:P.follows .mixedOrders=true) (hn:ops.size=n) (hl:Array.replicate n false=l) (hS:S w.drew)
  (h:S w.drew->y0o P .any ops Q S ds n l a w.drew):(Code.region id ops true).wp P Q a w:=by
 subst hn;subst hl;exact y7a hm (h hS)
def yf9 (md:Region.Mode) (ops:Array Oper) (ds:List Nat) (l l':Array Bool) (i:Nat):Bool :=
 Region.noSelect ops && Region.free md ops l i && (Region.ready md ops l).contains i && Region.closedB md ops l && Region.lastB md ops l ds i && (l.setIfInBounds i true == l')
theorem y1l {i:Nat} {N:Option Tmp} {oi:Oper} {v:Value} {fuel:Nat} {l:Array Bool} {a:Act} {w:World} (l':Array Bool) (hi:ops[i]?=some oi) (hN:oi.dst=N) (hc:yf9 md ops ds l l' i=true)
  (hQ:∀ c a w,Q (.panic c) (a.put oi.dst v) w->Q (.panic c) a w) (hy:YieldsIf P ops S oi v a) (hS:S w) {a':Act} (ha:a.put N v=a')
  (h:y0o P md ops Q S ds fuel l' a' w):y0o P md ops Q S ds (fuel+1) l a w:=by
 subst ha;subst hN;simp only [yf9,Bool.and_eq_true,beq_iff_eq] at hc;obtain ⟨⟨⟨⟨⟨h1,h2⟩,h3⟩,h4⟩,h5⟩,h6⟩:=hc;subst h6;exact y7b hi h1 h2 h3 h4 h5 hQ hy hS h
def anyB (md:Region.Mode) (ops:Array Oper) (l l':Array Bool) (i:Nat):Bool :=
 Region.noSelect ops && Region.free md ops l i && (Region.ready md ops l).contains i && (l.setIfInBounds i true == l')
theorem y0e {i:Nat} {N:Option Tmp} {oi:Oper} {v:Value} {fuel:Nat} {l:Array Bool} {a:Act} {w:World} (l':Array Bool) (hi:ops[i]?=some oi) (hN:oi.dst=N) (hc:anyB md ops l l' i=true)
  (hQ:∀ c a w,Q (.panic c) (a.put oi.dst v) w->Q (.panic c) a w) (hy:Yields P ops oi v a) {a':Act} (ha:a.put N v=a')
  (h:y0o P md ops Q S ds fuel l' a' w):y0o P md ops Q S ds (fuel+1) l a w:=by
 subst ha;subst hN;simp only [anyB,Bool.and_eq_true,beq_iff_eq] at hc;obtain ⟨⟨⟨h1,h2⟩,h3⟩,h6⟩:=hc;subst h6;exact y86 hi (Region.noSelect_spec h1) hQ fuel l a w (Region.free_spec hi h2) (by simpa using h3) hy h
def y7t (md:Region.Mode) (ops:Array Oper) (l l':Array Bool) (i:Nat):Bool:=(Region.ready md ops l == [i]) && (l.setIfInBounds i true == l')
theorem one_ {i:Nat} {N:Option Tmp} {oi:Oper} {fuel:Nat} {l:Array Bool} {a:Act} {w:World} (l':Array Bool) (hi:ops[i]?=some oi) (hN:oi.dst=N) (hc:y7t md ops l l' i=true) (hd:i ∉ ds)
  (h:∀ K:Act->World->Prop,Shut (∀ a' w',S w'->(S w'->y0o P md ops Q S ds fuel l' a' w')->K a' w')->if Region.wanted oi (yielded ops a.tmps)=true then Oper.wp P oi a w K Q else K (a.put N undef) w) :
  y0o P md ops Q S ds (fuel+1) l a w:=by
 subst hN;simp only [y7t,Bool.and_eq_true,beq_iff_eq] at hc;obtain ⟨h1,h2⟩:=hc;subst h2;exact y3z h1 (by simp) (AllReadyL.cons hi hd (fun K hK=>h K hK) AllReadyL.nil)
theorem y7h {i:Nat} {N:Option Tmp} {oi:Oper} {fuel:Nat} {l:Array Bool} {a:Act} {w:World} (l':Array Bool) (hi:ops[i]?=some oi) (hN:oi.dst=N) (hc:y7t md ops l l' i=true) (hd:i ∈ ds)
  (h:∀ K:Act->World->Prop,Shut (∀ a' w',y0o P md ops Q S ds fuel l' a' w'->K a' w')->if Region.wanted oi (yielded ops a.tmps)=true then Oper.wp P oi a w K Q else K (a.put N undef) w) :
  y0o P md ops Q S ds (fuel+1) l a w:=by
 subst hN;simp only [y7t,Bool.and_eq_true,beq_iff_eq] at hc;obtain ⟨h1,h2⟩:=hc;subst h2;exact y3z h1 (by simp) (AllReadyL.cons_last hi hd (fun K hK=>h K hK) AllReadyL.nil)
theorem y3x {l:Array Bool} {a:Act} {w:World} {n:Nat} (hr:(Region.ready md ops l == [])=true) (h:Q .normal a w):y0o P md ops Q S ds n l a w:=y7c (by simpa using hr) h n
theorem y43 {fuel:Nat} {l:Array Bool} {a a':Act} {w:World} (ha:a=a') (h:y0o P md ops Q S ds fuel l a' w):y0o P md ops Q S ds fuel l a w:=by
 subst ha;exact h
theorem call_ {oi:Oper} {N:Option Tmp} {a:Act} {w:World} {K:Act->World->Prop} (f:FuncId) (args:Array Value) (hw:Region.wanted oi (yielded ops a.tmps)=true) (hN:oi.dst=N) (hrun:(execOp a.eval oi).run P w=.ok (.enter f args) w)
  (h:Calls P f args w fun e w'=>∃ v,e=.returned v∧K (a.put N v) w'):if Region.wanted oi (yielded ops a.tmps)=true then Oper.wp P oi a w K Q else K (a.put N undef) w:=by
 rw [if_pos hw];subst hN;unfold Oper.wp;rw [hrun,Oper.upon_enter];refine h.mono fun e w'' hh=>?_
 obtain ⟨v,rfl,hk⟩:=hh;exact hk
theorem yh2 {f:FuncId} {fn:Func} (hf:P.funcs[f]?=some fn) (hname:(fn.name == "runtime.NumGoroutine")=false) (hb:fn.body.isSome=true) (args:Array Value) (w:World):(callFunc f args).run P w=.ok (.enter f args) w:=by
 have h1:fn.name ≠ "runtime.NumGoroutine" := by simpa using hname
 obtain ⟨c,hc⟩:=Option.isSome_iff_exists.1 hb;simp [callFunc,hf,h1,hc]
theorem y70 {oi:Oper} {N:Option Tmp} {a:Act} {w:World} {K:Act->World->Prop} {f:FuncId} {fn:Func} {az:Array Operand} {ts:Array TypeId} (hf:P.funcs[f]?=some fn) (hname:(fn.name == "runtime.NumGoroutine")=false) (hb:fn.body.isSome=true) (args:Array Value)
  (hw:Region.wanted oi (yielded ops a.tmps)=true) (hN:oi.dst=N) (hop:oi.op=.call { callee:=.value (.func f),args:=az,argTypes:=ts }) (hargs:az.map a.eval=args)
  (h:Calls P f args w fun e w'=>∃ v,e=.returned v∧K (a.put N v) w'):if Region.wanted oi (yielded ops a.tmps)=true then Oper.wp P oi a w K Q else K (a.put N undef) w:=by
 refine call_ f args hw hN ?_ h;have he:=yh2 hf hname hb args w;unfold execOp;simp [hop,resolve,Deferred.ofValue,invoke,Act.eval,hargs,he]
theorem y0n {rest:List Oper} {oi:Oper} {a:Act} {w:World} (N:Option Tmp) (hd:oi.dst=N) (hg:oi.guard=none) {f:FuncId} {fn:Func} {az:Array Operand} {ts:Array TypeId} (hf:P.funcs[f]?=some fn) (hname:(fn.name == "runtime.NumGoroutine")=false) (hb:fn.body.isSome=true) (args:Array Value)
  (hop:oi.op=.call { callee:=.value (.func f),args:=az,argTypes:=ts }) (hargs:az.map a.eval=args)
  (h:Calls P f args w fun e w'=>∃ v,e=.returned v∧wpList P ops Q rest (a.put N v) w'):wpList P ops Q (oi :: rest) a w:=by
 refine wpList_plain hg fun K hK=>?_
 have he:=yh2 hf hname hb args w;have hrun:(execOp a.eval oi).run P w=.ok (.enter f args) w:=by
  unfold execOp;simp [hop,resolve,Deferred.ofValue,invoke,Act.eval,hargs,he]
 unfold Oper.wp;rw [hrun,Oper.upon_enter];refine h.mono fun e w'' hh=>?_
 obtain ⟨v,rfl,hk⟩:=hh;subst hd;exact hK _ _ hk
theorem yf0 {oi:Oper} {N:Option Tmp} {a:Act} {w w1:World} {v:Value} {K:Act->World->Prop} (hw:Region.wanted oi (yielded ops a.tmps)=true) (hN:oi.dst=N) (hrun:(execOp a.eval oi).run P w=.ok (.value v) w1)
  (h:K (a.put N v) w1):if Region.wanted oi (yielded ops a.tmps)=true then Oper.wp P oi a w K Q else K (a.put N undef) w:=by
 rw [if_pos hw];subst hN;unfold Oper.wp;rw [hrun];exact h
theorem y5w {oi:Oper} {a:Act} {w w1:World} {K:Act->World->Prop} (hw:Region.wanted oi (yielded ops a.tmps)=true) (hN:oi.dst=none) (hrun:(execOp a.eval oi).run P w=.ok .skip w1)
  (h:K a w1):if Region.wanted oi (yielded ops a.tmps)=true then Oper.wp P oi a w K Q else K (a.put none undef) w:=by
 rw [if_pos hw];unfold Oper.wp;rw [hrun];show K (a.put oi.dst undef) w1;rw [hN];exact h
theorem y0a (n:Int):IntKind.i64.wrap n=Go.RowKit.wrap64 n:=by unfold Go.RowKit.wrap64;exact IntKind.wrap_i64 n
theorem y0b (n:Int):IntKind.i32.wrap n=Go.RowKit.wrap32 n:=by unfold Go.RowKit.wrap32;exact IntKind.wrap_i32 n
end
end Go.Proofs.YtfgcijifdbgpaaaW.La
namespace Go.Proofs.YtfgcijifdbgpaaaW.La
open Go.Proofs.YtfgcijifdbgpaaaW.Wd (As0)
def y5h (md:Region.Mode) (o:Oper):List Nat:=(o.after.toList.filter (fun e=>Region.binds md e)).map (fun e=>e.on)
def yc9 (md:Region.Mode) (ops:Array Oper) (i:Nat) (oi:Oper):List Nat:=(List.range ops.size).filter fun j=>!(j == i) && match ops[j]? with
 |some oj=>!(oj.after.any (fun e=>Region.binds md e && e.on == i) || oi.apart ops oj)
 |none=>false
def rtab (md:Region.Mode) (ops:Array Oper):Bool × List (List Nat × List Nat):=(Region.noSelect ops,(List.range ops.size).map fun i=>match ops[i]? with
 |some o=>(y5h md o,yc9 md ops i o)
 |none=>([],[]))
def y42 (T:List (List Nat × List Nat)) (l:List Bool) (i:Nat):Bool:=!l.getD i true && match T[i]? with
 |some r=>r.1.all (fun j=>l.getD j false)
 |none=>false
def yad (T:List (List Nat × List Nat)) (l:List Bool):List Nat:=(List.range T.length).filter (y42 T l)
def ygw (T:List (List Nat × List Nat)) (l:List Bool) (i:Nat):Bool:=match T[i]? with
 |some r=>r.2.all (fun j=>l.getD j true)
 |none=>false
def y97 (T:List (List Nat × List Nat)) (l:List Bool):Bool:=(List.range T.length).all fun j=>!l.getD j false || match T[j]? with
 |some r=>r.1.all (fun k=>l.getD k false)
 |none=>true
def y7u (T:List (List Nat × List Nat)) (i:Nat):Nat->Nat->Bool
 |0,_=>false
 |fuel+1,d=>match T[d]? with
  |some r=>r.1.any fun j=>j == i || y7u T i fuel j
  |none=>false
def yil (T:List (List Nat × List Nat)) (l:List Bool) (ds:List Nat) (i:Nat):Bool:=ds.all fun d=>l.getD d true || y7u T i T.length d
section
variable {md:Region.Mode} {ops:Array Oper} {T:Bool × List (List Nat × List Nat)} {l l' li lj lk:Array Bool} {ds:List Nat} {i j k:Nat}
theorem gd (l:Array Bool) (j:Nat) (b:Bool):l.getD j b=l.toList.getD j b:=by simp [Array.getD_eq_getD_getElem?,List.getD_eq_getElem?_getD]
theorem yal (o:Oper) (p:Nat->Bool):o.after.all (fun e=>!Region.binds md e || p e.on)=(y5h md o).all p:=by
 unfold y5h;rw [← Array.all_toList]
 induction o.after.toList with
 |nil=>rfl
 |cons e r ih =>
  rw [List.all_cons,ih,List.filter_cons];cases h:Region.binds md e<;>simp
theorem ygg (o:Oper) (p:Nat->Bool):o.after.any (fun e=>Region.binds md e && p e.on)=(y5h md o).any p:=by
 unfold y5h;rw [← Array.any_toList]
 induction o.after.toList with
 |nil=>rfl
 |cons e r ih =>
  rw [List.any_cons,ih,List.filter_cons];cases h:Region.binds md e<;>simp
theorem y3m:(rtab md ops).2.length=ops.size:=by simp [rtab]
theorem y4y {o:Oper} (h:ops[i]?=some o):(rtab md ops).2[i]?=some (y5h md o,yc9 md ops i o):=by
 have hi:=(zGe h).1;unfold rtab;rw [List.getElem?_map,List.getElem?_range hi,Option.map_some,h]
theorem y4z (h:ops[i]?=none):(rtab md ops).2[i]?=none:=by
 have hi:ops.size≤i:=Array.getElem?_eq_none_iff.1 h;exact List.getElem?_eq_none (by rw [y3m];exact hi)
theorem ye8:y42 (rtab md ops).2 l.toList i=(!l.getD i true && ((ops[i]?).map (·.after.all fun e=>!Region.binds md e || l.getD e.on false)).getD false):=by
 unfold y42;rw [gd];cases h:ops[i]? with
 |none=>rw [y4z h];rfl
 |some o =>
  rw [y4y h];simp only [Option.map_some,Option.getD_some];rw [← yal];simp only [gd]
theorem y8r:Region.ready md ops l=yad (rtab md ops).2 l.toList:=by
 unfold Region.ready yad;rw [y3m];refine List.filter_congr (fun i _=>?_);rw [ye8]
theorem ygv:Region.free md ops l i=ygw (rtab md ops).2 l.toList i:=by
 unfold Region.free ygw;cases h:ops[i]? with
 |none=>rw [y4z h]
 |some oi =>
  rw [y4y h];simp only [yc9];rw [List.all_filter]
  congr 1
  funext j
  rw [gd];cases hj:ops[j]? with
  |none=>cases (j == i)<;>cases (l.toList.getD j true)<;>simp
  |some oj =>
   cases (j == i)<;>cases (l.toList.getD j true)<;>cases (oj.after.any (fun e=>Region.binds md e && e.on == i) || oi.apart ops oj)<;>simp_all
theorem yh6:Region.closedB md ops l=y97 (rtab md ops).2 l.toList:=by
 unfold Region.closedB y97;rw [y3m]
 congr 1
 funext j
 rw [gd];cases h:ops[j]? with
 |none=>rw [y4z h]
 |some o =>
  rw [y4y h];simp only;rw [← yal];simp only [gd]
theorem ycn:∀ (fuel d:Nat),Region.reachB md ops i fuel d=y7u (rtab md ops).2 i fuel d
 |0,_=>rfl
 |fuel+1,d=>by
  unfold Region.reachB y7u;cases h:ops[d]? with
  |none=>rw [y4z h]
  |some o =>
   rw [y4y h];simp only;rw [← ygg]
   congr 1
   funext e
   rw [ycn fuel]
theorem last_eq:Region.lastB md ops l ds i=yil (rtab md ops).2 l.toList ds i:=by
 unfold Region.lastB yil;rw [y3m]
 congr 1
 funext d
 rw [gd,ycn]
theorem y6o (h:y42 T.2 l.toList i=true) (hT:rtab md ops=T):(Region.ready md ops l).contains i=true:=by
 subst hT;rw [y8r];unfold yad;rw [List.contains_iff_mem,List.mem_filter,List.mem_range];refine ⟨?_,h⟩;unfold y42 at h;rw [Bool.and_eq_true] at h;cases hq:(rtab md ops).2[i]? with
 |none=>rw [hq] at h;simp at h
 |some r=>exact (List.getElem?_eq_some_iff.1 hq).1
theorem yfg (h:(l.toList.set i true == l'.toList)=true):(l.setIfInBounds i true == l')=true:=by
 rw [beq_iff_eq] at h ⊢;apply Array.ext';rw [Array.toList_setIfInBounds];exact h
def anyT (T:Bool × List (List Nat × List Nat)) (l l':List Bool) (i:Nat):Bool:=T.1 && ygw T.2 l i && y42 T.2 l i && (l.set i true == l')
theorem y0i (hT:rtab md ops=T) (h:anyT T l.toList l'.toList i=true):anyB md ops l l' i=true:=by
 simp only [anyT,Bool.and_eq_true] at h;obtain ⟨⟨⟨h1,h2⟩,h3⟩,h4⟩:=h;have h5:=y6o h3 hT;have h6:=yfg h4;subst hT;simp only [anyB,Bool.and_eq_true];exact ⟨⟨⟨h1,by rw [ygv];exact h2⟩,h5⟩,h6⟩
def takeT (T:Bool × List (List Nat × List Nat)) (ds:List Nat) (l l':List Bool) (i:Nat):Bool:=T.1 && ygw T.2 l i && y42 T.2 l i && y97 T.2 l && yil T.2 l ds i && (l.set i true == l')
theorem take_of (hT:rtab md ops=T) (h:takeT T ds l.toList l'.toList i=true):yf9 md ops ds l l' i=true:=by
 simp only [takeT,Bool.and_eq_true] at h;obtain ⟨⟨⟨⟨⟨h1,h2⟩,h3⟩,h4⟩,h5⟩,h6⟩:=h;have h7:=y6o h3 hT;have h8:=yfg h6;subst hT;simp only [yf9,Bool.and_eq_true];exact ⟨⟨⟨⟨⟨h1,by rw [ygv];exact h2⟩,h7⟩,by rw [yh6];exact h4⟩,by rw [last_eq];exact h5⟩,h8⟩
theorem y4j (hT:rtab md ops=T) (h:(yad T.2 l.toList == [i] && l.toList.set i true == l'.toList)=true):y7t md ops l l' i=true:=by
 simp only [Bool.and_eq_true] at h;obtain ⟨h1,h2⟩:=h;subst hT;simp only [y7t,Bool.and_eq_true];exact ⟨by rw [y8r];exact h1,yfg h2⟩
theorem y3p (hT:rtab md ops=T) (h:(yad T.2 l.toList == [])=true):(Region.ready md ops l == [])=true:=by
 subst hT;rw [y8r];exact h
def upM (B:List Nat) (d:Nat):List Nat->Nat
 |[]=>0
 |n :: r=>(2 ^ n ||| (if n<d then B.getD n 0 else 0)) ||| upM B d r
def y3j (T:List (List Nat × List Nat)) (B:List Nat):Bool:=(List.range T.length).all fun d=>match T[d]? with
 |some r=>(B.getD d 0 ||| upM B d r.1) == upM B d r.1
 |none=>false
theorem yf2 {B:List Nat} {d i:Nat}:∀ {ns:List Nat},(upM B d ns).testBit i=true->∃ n ∈ ns,n=i∨(n<d∧(B.getD n 0).testBit i=true)
 |[],h=>by simp [upM] at h
 |n :: r,h=>by
  unfold upM at h;rw [Nat.testBit_or,Nat.testBit_or,Bool.or_eq_true,Bool.or_eq_true] at h;rcases h with (h|h)|h
  ·rw [Nat.testBit_two_pow] at h
   exact ⟨n,List.mem_cons_self,.inl (by simpa using h)⟩
  ·by_cases hn:n<d
   ·rw [if_pos hn] at h
    exact ⟨n,List.mem_cons_self,.inr ⟨hn,h⟩⟩
   ·rw [if_neg hn] at h
    simp at h
  ·obtain ⟨m,hm,h2⟩:=yf2 h
   exact ⟨m,List.mem_cons_of_mem _ hm,h2⟩
theorem yae {T:List (List Nat × List Nat)} {B:List Nat} (hB:y3j T B=true):∀ (fuel d:Nat),d<fuel->d<T.length->(B.getD d 0).testBit i=true->y7u T i fuel d=true
 |0,d,h,_,_=>by omega
 |fuel+1,d,h,hd,hb=>by
  have h1:=List.all_eq_true.1 hB d (List.mem_range.2 hd);cases hr:T[d]? with
  |none=>rw [hr] at h1;simp at h1
  |some r =>
   rw [hr] at h1;simp only [beq_iff_eq] at h1;have h2:(upM B d r.1).testBit i=true:=by rw [← h1,Nat.testBit_or,hb,Bool.true_or]
   obtain ⟨n,hn,h3⟩:=yf2 h2;unfold y7u;rw [hr];simp only;rw [List.any_eq_true];refine ⟨n,hn,?_⟩;rcases h3 with rfl|⟨h4,h5⟩
   ·simp
   ·rw [yae hB fuel n (by omega) (by omega) h5,Bool.or_true]
def lastW (T:List (List Nat × List Nat)) (B:List Nat) (l:List Bool) (ds:List Nat) (i:Nat):Bool:=ds.all fun d=>l.getD d true || (decide (d<T.length) && (B.getD d 0).testBit i)
def takeW (T:Bool × List (List Nat × List Nat)) (B:List Nat) (ds:List Nat) (l l':List Bool) (i:Nat):Bool:=T.1 && ygw T.2 l i && y42 T.2 l i && y97 T.2 l && lastW T.2 B l ds i && (l.set i true == l')
theorem y1k {B:List Nat} (hT:rtab md ops=T) (hB:y3j T.2 B=true) (h:takeW T B ds l.toList l'.toList i=true):yf9 md ops ds l l' i=true:=by
 refine take_of hT ?_;simp only [takeW,takeT,Bool.and_eq_true] at h ⊢;obtain ⟨⟨⟨⟨⟨h1,h2⟩,h3⟩,h4⟩,h5⟩,h6⟩:=h;refine ⟨⟨⟨⟨⟨h1,h2⟩,h3⟩,h4⟩,?_⟩,h6⟩;unfold lastW at h5;unfold yil;rw [List.all_eq_true] at h5 ⊢;intro d hd;have h7:=h5 d hd;rw [Bool.or_eq_true,Bool.and_eq_true,decide_eq_true_eq] at h7;rcases h7 with h7|⟨h8,h9⟩
 ·rw [h7,Bool.true_or]
 ·rw [yae hB _ d h8 h8 h9,Bool.or_true]
theorem y25 {P:Program} {Q:Exit->Act->World->Prop} {S:World->Prop} {n:Nat} {a:Act} {w:World} {B:List Nat} (hT:rtab md ops=T) (hB:y3j T.2 B=true) (h:As0 (rtab md ops=T)->As0 (y3j T.2 B=true)->y0o P md ops Q S ds n l a w):y0o P md ops Q S ds n l a w:=h ⟨hT⟩ ⟨hB⟩
end
def y7f:Code->Nat->Option (Array Oper)
 |.region id ops _,k=>if id == k then some ops else none
 |.seq a b,k=>match y7f a k with
  |some o=>some o
  |none=>y7f b k
 |.cond _ a b,k=>match y7f a k with
  |some o=>some o
  |none=>y7f b k
 |.block _ c,k=>y7f c k
 |.loop c,k=>y7f c k
 |.scope c,k=>y7f c k
 |.rangeFunc _ _ a b,k=>match y7f a k with
  |some o=>some o
  |none=>y7f b k
 |_,_=>none
def ygd (f:Func) (k:Nat):Array Oper:=((f.body.bind fun c=>y7f c k)).getD #[]
end Go.Proofs.YtfgcijifdbgpaaaW.La
namespace Go.Proofs.YtfgcijifdbgpaaaW.Wd
open Go.RowKit
section
namespace Kd
def raw (sz:Nat):Kd (List Value) where
 sz:=sz
 E:=[]
 K:=fun _ x cs=>cs=x∧cs.length=sz∧∀ u ∈ cs,u.oneCell'=true
 M:=fun _ _ _ x cs=>cs=x∧cs.length=sz∧∀ u ∈ cs,u.oneCell'=true
 K_len:=fun h=>h.2.1
 K_one:=fun h=>h.2.2
 K_below:=fun _ h=>h
 K_of_M:=fun h=>h
 M_mono:=fun _ h=>h
 M_bound:=fun h=>h
 M_move:=fun _ h=>h
 M_lower:=fun _ h=>h
section
variable {α β:Type} {d:Kd α} {d':Kd β} {e e':Nat} {w w1 W:World} {base b:Nat} {ok ok' okv oku:Nat->Prop} {u v:Value} {xs:List α} {ys:List β}
theorem R_tight (hE:d.E=[]) (h:d.R e w base ok v xs):d.R e w base (fun k=>some k=v.ownBlock) v xs:=by
 obtain ⟨h0,inner,ho,hr⟩:=h;refine ⟨fun k hk=>hk.symm,inner,ho,hr.imp_ (fun p c hp=>d.M_mono (fun k hk=>?_) (d.M_bound hp))⟩;obtain ⟨_,_,_,q,hq,_⟩:=hk;rw [hE] at hq;cases hq
end
end Kd
end
section
def Kept (w W:World) (S:Nat->Prop):Prop:=w.heap.size≤W.heap.size∧∀ i,i<w.heap.size->¬ S i->W.heap[i]?=w.heap[i]?
section
variable {w W W2:World} {S S2 S':Nat->Prop}
theorem Kept.refl (w:World) (S:Nat->Prop):Kept w w S:=⟨zLe _,fun _ _ _=>rfl⟩
theorem Kept.then_ (h:Kept w W S) (k:Kept W W2 S2) (hs:∀ k,S2 k->S k∨w.heap.size≤k):Kept w W2 S :=
 ⟨Nat.le_trans h.1 k.1,fun i hi hn=>(k.2 i (Nat.lt_of_lt_of_le hi h.1) (fun h2=>(hs i h2).elim hn (fun h3=>by omega))).trans (h.2 i hi hn)⟩
theorem Kept.drew (h:Kept w W S):Kept w W.drew S:=h
theorem Kept.drewN (h:Kept w W S) (m:Nat):Kept w (W.drewN m) S:=h
theorem Kept.setCell (h:Kept w W S) {p:Addr} (hp:S p.block∨w.heap.size≤p.block) (u:Value):Kept w (W.setCell p u) S :=
 h.then_ (S2:=fun k=>k=p.block) ⟨by simp [World.setCell],fun i _ hn=>Below.heap_setCell W p u i hn⟩ (fun k hk=>by rw [hk];exact hp)
end
namespace Kd
end Kd
end
section
def Foot (P:World->Prop) (W:World) (ok:Nat->Prop):Prop:=∀ W':World,(∀ k,ok k->k<W.heap.size->W'.heap[k]?=W.heap[k]?)->P W'
theorem heap_lt {W W1:World} {k:Nat} (h:W1.heap[k]?=W.heap[k]?) (hlt:k<W.heap.size):k<W1.heap.size:=by
 rw [Array.getElem?_eq_getElem hlt] at h;exact (zGe h).1
namespace Foot
variable {P Q:World->Prop} {W W1:World} {ok ok':Nat->Prop}
theorem now (h:Foot P W ok):P W:=h W (fun _ _ _=>rfl)
theorem mono (h:Foot P W ok) (hok:∀ k,ok k->ok' k):Foot P W ok':=fun W' hW=>h W' (fun k hk hlt=>hW k (hok k hk) hlt)
theorem bound (h:Foot P W ok):Foot P W (fun k=>ok k∧k<W.heap.size):=fun W' hW=>h W' (fun k hk hlt=>hW k ⟨hk,hlt⟩ hlt)
theorem step (h:Foot P W ok) (hm:∀ k,ok k->k<W.heap.size->W1.heap[k]?=W.heap[k]?):Foot P W1 ok:=fun W' hW=>h W' (fun k hk hlt=>(hW k hk (heap_lt (hm k hk hlt) hlt)).trans (hm k hk hlt))
theorem old (h:Foot P W ok) (hb:Below W.heap.size W W1):Foot P W1 (fun k=>ok k∧k<W.heap.size):=(h.bound).step (fun k _ hlt=>hb.block k hlt)
end Foot
namespace Kd
def F {α:Type} (d:Kd α) (W:World) (ok:Nat->Prop) (A:Option Addr) (n:Nat) (xs:List α):Prop:=Foot (fun W=>d.C W A n xs) W ok
def FK {α:Type} (d:Kd α) (W:World) (ok:Nat->Prop) (x:α) (c:List Value):Prop:=Foot (fun W=>d.K W x c) W ok
section
variable {α β:Type} {d:Kd α} {e base n n' cc g N:Nat} {ok ok' okp S:Nat->Prop} {w w0 w1 W W1:World} {A A':Option Addr} {u v v1:Value} {xs:List α} {xs':List β} {d':Kd β} {x:α} {c:List Value}
theorem F_now (h:F d W ok A n xs):d.C W A n xs:=Foot.now h
theorem ydf (h:F d W ok A n xs) (hok:∀ k,ok k->ok' k):F d W ok' A n xs:=Foot.mono h hok
theorem F_bound (h:F d W ok A n xs):F d W (fun k=>ok k∧k<W.heap.size) A n xs:=Foot.bound h
theorem F_step (h:F d W ok A n xs) (hm:∀ k,ok k->k<W.heap.size->W1.heap[k]?=W.heap[k]?):F d W1 ok A n xs:=Foot.step h hm
theorem F_below (h:F d W ok A n xs) (hb:Below W.heap.size W W1):F d W1 ok A n xs:=F_step h (fun k _ hlt=>hb.block k hlt)
theorem yj7 (h:F d W ok A n xs) (hbase:∀ k,v.ownBlock=some k->W.heap.size≤k) (hb:Below W.heap.size W W1):F d W1 (fun k=>ok k∧some k≠v.ownBlock) A n xs :=
 ydf (Foot.old h hb) (fun k hk=>⟨hk.1,fun he=>by have:=hbase k he.symm;have:=hk.2;omega⟩)
theorem F_after (h:F d W (fun k=>ok k∧some k≠v.ownBlock) A n xs) (hg:W.grownBy W1 v.ownBlock) (hat:v1.ownBlock=v.ownBlock∨∃ b,v1.ownBlock=some b∧W.heap.size≤b):F d W1 (fun k=>ok k∧some k≠v1.ownBlock) A n xs:=by
 refine ydf (Foot.step (F_bound h) (fun k hk hlt=>hg.block k hlt hk.1.2)) (fun k hk=>⟨hk.1.1,?_⟩);rcases hat with hat|⟨b,hb,hle⟩
 ·rw [hat];exact hk.1.2
 ·rw [hb]
  intro he;injection he with he
  have:=hk.2;omega
theorem ycd (h:F d W ok A n xs):F d W (fun k=>ok k∧some k≠(Value.slice none 0 0).ownBlock) A n xs:=ydf h (fun k hk=>⟨hk,by simp [Value.ownBlock]⟩)
theorem R_F (h:d.R e W base ok (.slice A n cc) xs):F d W ok A n xs:=fun W' hW=>by
 have h2:=R_reads' (ydd h hW);rw [h2.1];exact h2.2.2
theorem yho (h:FK d W ok x c):d.K W x c:=Foot.now h
theorem yce (h:FK d W ok x c) (hok:∀ k,ok k->ok' k):FK d W ok' x c:=Foot.mono h hok
theorem ydg (h:FK d W ok x c):FK d W (fun k=>ok k∧k<W.heap.size) x c:=Foot.bound h
theorem yhn (h:FK d W ok x c) (hm:∀ k,ok k->k<W.heap.size->W1.heap[k]?=W.heap[k]?):FK d W1 ok x c:=Foot.step h hm
end
end Kd
end
section
namespace Kd
def y73 (sz:Nat) (n:Nat) (inner:List Value):List (List Value):=(List.range n).map fun j=>(inner.drop (j * sz)).take sz
theorem y1y (sz n:Nat) (inner:List Value):(y73 sz n inner).length=n:=by simp [y73]
theorem yh8 {sz n:Nat} {inner:List Value} {j:Nat} (hj:j<n):(y73 sz n inner)[j]?=some ((inner.drop (j * sz)).take sz):=by simp [y73,hj]
theorem y82 {sz n:Nat} {inner:List Value} {j:Nat} {c:List Value} (h:(y73 sz n inner)[j]?=some c):c=(inner.drop (j * sz)).take sz:=by
 have hj:j<n:=by have:=(List.getElem?_eq_some_iff.1 h).1;rwa [y1y] at this
 rw [yh8 hj] at h;injection h with h
 exact h.symm
theorem yi0 {α:Type} {Rr:α->List Value->Prop} {sz:Nat} {xs:List α} {inner:List Value} (h:Reps Rr sz xs inner) (hR:∀ x c,Rr x c->c.length=sz∧∀ u ∈ c,u.oneCell'=true):Reps (fun x cs=>cs=x∧cs.length=sz∧∀ u ∈ cs,u.oneCell'=true) sz (y73 sz xs.length inner) inner:=by
 refine ⟨by rw [y1y];exact h.1,fun j p hj=>?_⟩;have hjl:j<xs.length:=by have:=(List.getElem?_eq_some_iff.1 hj).1;rwa [y1y] at this
 have hp:=y82 hj;exact ⟨hp.symm,hR _ _ (h.2 j _ (List.getElem?_eq_getElem hjl))⟩
section
variable {α:Type} {d:Kd α} {e base n cc g:Nat} {ok ok' okp S:Nat->Prop} {w w1 W W1:World} {A:Option Addr} {u v v1:Value} {xs:List α} {x:α} {c:List Value}
def N {α:Type} (d:Kd α) (e:Nat) (w:World) (base:Nat) (ok:Nat->Prop) (v:Value) (xs:List α):Prop :=
 (∀ k,v.ownBlock=some k->ok k)∧∃ rows:List (List Value),rows.length=xs.length∧(raw d.sz).R e w base (fun k=>some k=v.ownBlock) v rows∧∀ (j:Nat) (x:α) (c:List Value),xs[j]?=some x->rows[j]?=some c->FK d w (fun k=>ok k∧some k≠v.ownBlock) x c
theorem yg1 {sz:Nat} {rows:List (List Value)} (h:(raw sz).R e w base ok v rows):(raw sz).R e w base (fun k=>some k=v.ownBlock) v rows:=R_tight rfl h
theorem yhk (h:N d e w base ok v xs) (hok:∀ k,ok k->ok' k):N d e w base ok' v xs:=by
 obtain ⟨h0,rows,hl,hR,hf⟩:=h;exact ⟨fun k hk=>hok k (h0 k hk),rows,hl,hR,fun j x c hx hc=>yce (hf j x c hx hc) (fun k hk=>⟨hok k hk.1,hk.2⟩)⟩
theorem N_lt (h:N d e w base ok v xs):∀ k,v.ownBlock=some k->k<w.heap.size:=by
 obtain ⟨_,rows,_,hR,_⟩:=h;exact R_lt hR
theorem N_base (h:N d e w base ok v xs):∀ k,v.ownBlock=some k->base≤k:=by
 obtain ⟨_,rows,_,hR,_⟩:=h;exact R_base hR
theorem yhl (h:N d e w base ok v xs):N d e w base (fun k=>ok k∧k<w.heap.size) v xs:=by
 have hlt:=N_lt h;obtain ⟨h0,rows,hl,hR,hf⟩:=h;exact ⟨fun k hk=>⟨h0 k hk,hlt k hk⟩,rows,hl,hR,fun j x c hx hc=>yce (ydg (hf j x c hx hc)) (fun k hk=>⟨⟨hk.1.1,hk.2⟩,hk.1.2⟩)⟩
theorem N_lower {base':Nat} (h:N d e w base ok v xs) (hb:base'≤base):N d e w base' ok v xs:=by
 obtain ⟨h0,rows,hl,hR,hf⟩:=h;exact ⟨h0,rows,hl,R_lower hR hb,hf⟩
theorem N_step (h:N d e w base ok v xs) (hm:∀ k,ok k->k<w.heap.size->w1.heap[k]?=w.heap[k]?):N d e w1 base ok v xs:=by
 obtain ⟨h0,rows,hl,hR,hf⟩:=h;exact ⟨h0,rows,hl,ydd hR (fun k hk hlt=>hm k (h0 k hk.symm) hlt),fun j x c hx hc=>yhn (hf j x c hx hc) (fun k hk hlt=>hm k hk.1 hlt)⟩
theorem N_below (h:N d e w base ok v xs) (hb:Below w.heap.size w w1):N d e w1 base ok v xs:=N_step h (fun k _ hk=>hb.block k hk)
theorem N_apart_nil (h:N d e w base ok v xs):N d e w base (fun k=>ok k∧some k≠(Value.slice none 0 0).ownBlock) v xs:=yhk h (fun k hk=>⟨hk,by simp [Value.ownBlock]⟩)
theorem N_elder' (h:N d e W base ok v xs) (hbase:∀ k,u.ownBlock=some k->W.heap.size≤k) (hb:Below W.heap.size W w1):N d e w1 base (fun k=>ok k∧some k≠u.ownBlock) v xs :=
 yhk (N_below (yhl h) hb) (fun k hk=>⟨hk.1,fun he=>by have:=hbase k he.symm;have:=hk.2;omega⟩)
theorem N_after (h:N d e W base (fun k=>ok k∧some k≠u.ownBlock) v xs) {u1:Value} (hg:W.grownBy w1 u.ownBlock) (hat:u1.ownBlock=u.ownBlock∨∃ b,u1.ownBlock=some b∧W.heap.size≤b):N d e w1 base (fun k=>ok k∧some k≠u1.ownBlock) v xs:=by
 refine yhk (N_step (yhl h) (fun k hk hlt=>hg.block k hlt hk.1.2)) (fun k hk=>⟨hk.1.1,?_⟩);rcases hat with hat|⟨b,hb,hle⟩
 ·rw [hat];exact hk.1.2
 ·rw [hb]
  intro he;injection he with he
  have:=hk.2;omega
theorem N_slice (h:N d e w base ok v xs):∃ A c,v=.slice A xs.length c:=by
 obtain ⟨_,rows,hl,hR,_⟩:=h;obtain ⟨A,c,he⟩:=R_slice hR;exact ⟨A,c,by rw [he,hl]⟩
theorem N_reads' {n c:Nat} (h:N d e w base ok (.slice A n c) xs):n=xs.length∧n≤c∧d.C w A xs.length xs:=by
 obtain ⟨_,rows,hl,hR,hf⟩:=h;obtain ⟨hn,hc,hC⟩:=R_reads' hR;refine ⟨by omega,hc,?_⟩;rw [hl] at hC;refine ⟨rfl,hC.2.1,fun hp=>?_⟩;obtain ⟨ad,he,hcell⟩:=hC.2.2 hp;refine ⟨ad,he,fun j p hj=>?_⟩;have hjl:j<rows.length:=by have:=(List.getElem?_eq_some_iff.1 hj).1;omega
 obtain ⟨c',hcl,hK,hcc⟩:=hcell j _ (List.getElem?_eq_getElem hjl);have hk:=yho (hf j p _ hj (List.getElem?_eq_getElem hjl));refine ⟨c',hcl,?_,hcc⟩;rw [show c'=rows[j] from hK.1];exact hk
end
end Kd
end
end Go.Proofs.YtfgcijifdbgpaaaW.Wd
namespace Go.Proofs.YtfgcijifdbgpaaaW.Wd
theorem Reps.one {α:Type} {R:α->List Value->Prop} {ps:List α} {cs:List Value} {p:α} {v:Value} (hp:R p [v]) (h:Reps R 1 ps cs):Reps R 1 (p :: ps) (v :: cs):=by
 refine ⟨by simp [h.1],fun j q hq=>?_⟩;cases j with
 |zero =>
  simp only [List.getElem?_cons_zero,Option.some.injEq] at hq;subst hq;simpa using hp
 |succ j =>
  simp only [List.getElem?_cons_succ] at hq;have h1:=h.2 j q hq;simpa [Nat.mul_one] using h1
theorem Reps.front {α:Type} {R:α->List Value->Prop} {size:Nat} {ps:List α} {cs c all:List Value} {p:α} (hp:R p c) (hc:c.length=size) (h:Reps R size ps cs) (ha:c ++ cs=all):Reps R size (p :: ps) all:=by
 subst ha;refine ⟨by rw [List.length_append,hc,h.1,List.length_cons,Nat.succ_mul,Nat.add_comm],fun j q hq=>?_⟩;cases j with
 |zero =>
  simp only [List.getElem?_cons_zero,Option.some.injEq] at hq;subst hq;rw [Nat.zero_mul,List.drop_zero,List.take_append_of_le_length (by omega),List.take_of_length_le (by omega)];exact hp
 |succ j =>
  simp only [List.getElem?_cons_succ] at hq;have h1:=h.2 j q hq;rw [Nat.succ_mul,List.drop_append,List.drop_of_length_le (by rw [hc];exact Nat.le_add_left _ _),List.nil_append,hc,Nat.add_sub_cancel];exact h1
theorem Reps.c3 {α:Type} {R:α->List Value->Prop} {ps:List α} {cs:List Value} {p:α} {va vb vc:Value} (hp:R p [va,vb,vc]) (h:Reps R 3 ps cs):Reps R 3 (p :: ps) (va :: vb :: vc :: cs):=Reps.front hp rfl h rfl
end Go.Proofs.YtfgcijifdbgpaaaW.Wd
namespace Go.Proofs.YtfgcijifdbgpaaaW.Wd
open Go.RowKit
section
section
variable {P:Program} {ops:Array Oper} {rest:List Oper} {o:Oper} {a:Act} {Q:Exit->Act->World->Prop} {W:World}
theorem y14 (hw:Region.wanted o (yielded ops a.tmps)=true) (h:wpList P ops Q ({ o with guard:=none } :: rest) a W):wpList P ops Q (o :: rest) a W:=by
 have h1:Region.wanted { o with guard:=none } (yielded ops a.tmps)=true:=rfl;unfold wpList at h ⊢;rw [if_pos h1] at h;rw [if_pos hw];exact h
end
end
section
namespace Kd
section
variable {α:Type} {d:Kd α} {e base n cap g:Nat} {ok ok' okp:Nat->Prop} {w w1 W:World} {v v1:Value} {xs ys:List α}
theorem N_made {rows:List (List Value)} (hR:(raw d.sz).R e w1 base (fun k=>k=W.heap.size) v1 rows) (hg:W.grownBy w1 none) (hat:∃ b,v1.ownBlock=some b∧W.heap.size≤b) (hl:rows.length=xs.length) (hf:∀ (j:Nat) (x:α) (c:List Value),xs[j]?=some x->rows[j]?=some c->FK d W okp x c)
  (hok:∀ k,okp k->ok k) (hfresh:ok W.heap.size):N d e w1 base ok v1 xs:=by
 obtain ⟨b,hb,hle⟩:=hat;refine ⟨fun k hk=>by rw [hR.1 k hk];exact hfresh,rows,hl,yg1 hR,fun j x c hx hc=>?_⟩;refine yce (yhn (ydg (hf j x c hx hc)) (fun k hk hlt=>hg.block k hlt (by simp))) (fun k hk=>⟨hok k hk.1,fun he=>?_⟩);rw [hb] at he;injection he with he
 have:=hk.2;omega
end
section
variable {P:Program} {ops:Array Oper} {rest:List Oper} {o:Oper} {a:Act} {Q:Exit->Act->World->Prop} {Kc:Act->World->Prop} {α:Type}
theorem N_lit (d:Kd α) {w0 W:World} (base e:Nat) (hgd:o.guard=none) {N':Tmp} (_hd:o.dst=some N') {xs:List α} {inner:List Value} {ok okp:Nat->Prop}
  (hrun:(execOp a.eval o).run P W=.ok (.value (.slice (some ⟨W.heap.size,0,none⟩) xs.length xs.length)) (W.alloc (.cells inner.toArray e)))
  (hrep:Reps (FK d W okp) d.sz xs inner) (hok:∀ k,okp k->ok k) (hfresh:ok W.heap.size) (HB:Below base w0 W) (hbase:base≤W.heap.size) (hm:xs.length≤9223372036854775807)
  (h:∀ v1 w1,N d e w1 base ok v1 xs->Below base w0 w1->W.grownBy w1 none->(∃ b,v1.ownBlock=some b∧W.heap.size≤b)->wpList P ops Q rest (a.put o.dst v1) w1) :
  wpList P ops Q (o :: rest) a W:=by
 refine R_lit (raw d.sz) base e hgd _hd (xs:=y73 d.sz xs.length inner) (inner:=inner) (ok:=fun k=>k=W.heap.size) (okp:=fun _=>False) (by rw [y1y];exact hrun) (yi0 hrep (fun y c hk=>⟨d.K_len (yho hk),d.K_one (yho hk)⟩)) (fun _ hk=>hk.elim) rfl HB hbase (by rw [y1y];exact hm) ?_;intro v1 w1 hr hb hg hat;exact h v1 w1 (N_made hr hg hat (y1y _ _ _) (fun j y c hy hc=>by rw [y82 hc];exact hrep.2 j y hy) hok hfresh) hb hg hat
end
end Kd
end
end Go.Proofs.YtfgcijifdbgpaaaW.Wd
namespace Go.Proofs.YtfgcijifdbgpaaaW.Mo
open Go.RowKit Go.Proofs.YtfgcijifdbgpaaaW.Wd
namespace Kd
open Go.Proofs.YtfgcijifdbgpaaaW.Wd.Kd
end Kd
namespace Kd
open Go.Proofs.YtfgcijifdbgpaaaW.Wd.Kd
section
variable {α:Type} {d:Kd α} {e base g N:Nat} {ok:Nat->Prop} {W w1:World} {u v:Value} {xs:List α}
theorem R_old (hu:d.R e W base ok u xs) (hb:Below W.heap.size W w1):d.R e w1 base (fun k=>ok k∧k<W.heap.size) u xs :=
 R_mono (R_below (R_bound hu) hb) (fun _ h=>⟨h.1,h.2.2.1⟩)
theorem R_told (h:d.R e w1 base (fun k=>ok k∧k<N) u xs) (hbase:∀ k,v.ownBlock=some k->N≤k):d.R e w1 base (fun k=>(ok k∧some k≠v.ownBlock)∧k<N) u xs :=
 R_mono h (fun k hk=>⟨⟨hk.1,fun e=>Nat.lt_irrefl _ (Nat.lt_of_lt_of_le hk.2 (hbase k e.symm))⟩,hk.2⟩)
end
end Kd
theorem y0x (k k':IntKind) (x y:Int):Builtin.max2 (.int k x) (.int k' y)=pure (.int k (if x<y then y else x)):=by simp only [Builtin.max2,gt_iff_lt]
theorem y0v (k k':IntKind) (x y:Int):Builtin.min2 (.int k x) (.int k' y)=pure (.int k (if y<x then y else x)):=by simp only [Builtin.min2]
theorem y16 (ats:Array TypeId) (ty:TypeId) (a b:Value):Builtin.max_ ats ty #[a,b]=(Builtin.max2 a b >>= fun s=>pure s):=by simp only [Builtin.max_,List.foldlM_cons,List.foldlM_nil]
theorem y15 (ats:Array TypeId) (ty:TypeId) (a b:Value):Builtin.min_ ats ty #[a,b]=(Builtin.min2 a b >>= fun s=>pure s):=by simp only [Builtin.min_,List.foldlM_cons,List.foldlM_nil]
theorem y0q (ats:Array TypeId) (ty:TypeId) (a b c:Value):Builtin.max_ ats ty #[a,b,c]=(Builtin.max2 a b >>= fun s=>Builtin.max2 s c >>= fun s=>pure s):=by simp only [Builtin.max_,List.foldlM_cons,List.foldlM_nil]
theorem y0p (ats:Array TypeId) (ty:TypeId) (a b c:Value):Builtin.min_ ats ty #[a,b,c]=(Builtin.min2 a b >>= fun s=>Builtin.min2 s c >>= fun s=>pure s):=by simp only [Builtin.min_,List.foldlM_cons,List.foldlM_nil]
theorem y0w (ats:Array TypeId) (ty:TypeId) (a b c d:Value):Builtin.max_ ats ty #[a,b,c,d]=(Builtin.max2 a b >>= fun s=>Builtin.max2 s c >>= fun s=>Builtin.max2 s d >>= fun s=>pure s):=by simp only [Builtin.max_,List.foldlM_cons,List.foldlM_nil]
theorem y0u (ats:Array TypeId) (ty:TypeId) (a b c d:Value):Builtin.min_ ats ty #[a,b,c,d]=(Builtin.min2 a b >>= fun s=>Builtin.min2 s c >>= fun s=>Builtin.min2 s d >>= fun s=>pure s):=by simp only [Builtin.min_,List.foldlM_cons,List.foldlM_nil]
end Go.Proofs.YtfgcijifdbgpaaaW.Mo
namespace Go.Proofs.YtfgcijifdbgpaaaW.Wd
open Go.RowKit
section
variable {P:Program} {ops:Array Oper} {rest:List Oper} {o:Oper} {a:Act} {Q:Exit->Act->World->Prop} {W:World}
theorem y08 {f:FuncId} {az:Array Operand} {ts:Array TypeId} (_ho:o.op=.call { callee:=.value (.func f),args:=az,argTypes:=ts }) (h:wpList P ops Q (o :: rest) a W):wpList P ops Q (o :: rest) a W:=h
theorem y10 {b:Builtin} {xs:Array Operand} {ts:Array TypeId} (_ho:o.op=.call { callee:=.builtin b,args:=xs,argTypes:=ts }) (h:wpList P ops Q (o :: rest) a W):wpList P ops Q (o :: rest) a W:=h
end
def mx (a b:Int):Int:=if a<b then b else a
def mn (a b:Int):Int:=if b<a then b else a
def shl (k:IntKind) (x y:Int):Int:=k.wrap (x * 2 ^ min y.toNat k.bits)
def shr (k:IntKind) (x y:Int):Int:=x / 2 ^ min y.toNat k.bits
theorem y69 {k:IntKind} {x y j:Int} (h:shl k x y=j) (hy:y≤k.bits):k.wrap (x * 2 ^ y.toNat)=j:=by rw [← h];unfold shl;rw [Nat.min_eq_left (by omega)]
theorem y9q {k:IntKind} {x y j:Int} (h:shr k x y=j) (hy:y≤k.bits):x / 2 ^ y.toNat=j:=by rw [← h];unfold shr;rw [Nat.min_eq_left (by omega)]
theorem yem (w:World) (n:Nat):w.drewN n=w.drewN n:=rfl
namespace Kd
end Kd
end Go.Proofs.YtfgcijifdbgpaaaW.Wd
namespace Go.Proofs.YtfgcijifdbgpaaaW.Wd
open Go.RowKit
namespace Kd
def V {α:Type} (d:Kd α) (_e:Nat) (W:World) (_base:Nat) (ok:Nat->Prop) (v:Value) (xs:List α):Prop:=∃ A c,v=.slice A xs.length c∧xs.length≤c∧F d W ok A xs.length xs
section
variable {α β:Type} {d:Kd α} {e base base' n m c g N' lo hi:Nat} {ok ok' S:Nat->Prop} {w W w1:World} {A:Option Addr} {ad:Addr} {u v v1:Value} {xs:List α}
theorem yhi (h:V d e W base ok v xs) (hF:∀ A,F d W ok A xs.length xs->F d w1 ok' A xs.length xs):V d e w1 base' ok' v xs:=by
 obtain ⟨A,c,hv,hl,hf⟩:=h;exact ⟨A,c,hv,hl,hF A hf⟩
theorem V_at (h:V d e W base ok (.slice A n c) xs):n=xs.length∧n≤c∧F d W ok A xs.length xs:=by
 obtain ⟨A',c',hv,hl,hf⟩:=h;injection hv with ha hn hc
 subst ha;subst hc;exact ⟨hn,by rw [hn];exact hl,hf⟩
theorem V_reads' (h:V d e W base ok (.slice A n c) xs):n=xs.length∧n≤c∧d.C W A xs.length xs:=⟨(V_at h).1,(V_at h).2.1,F_now (V_at h).2.2⟩
theorem V_F (h:V d e W base ok (.slice A n c) xs):F d W ok A n xs:=by
 obtain ⟨hn,_,hf⟩:=V_at h;rw [hn];exact hf
theorem R_V (h:d.R e W base ok v xs):V d e W base' ok v xs:=by
 obtain ⟨A,c,rfl⟩:=R_slice h;exact ⟨A,c,rfl,(R_reads' h).2.1,R_F h⟩
theorem V_mono (h:V d e W base ok v xs) (hok:∀ k,ok k->ok' k):V d e W base ok' v xs:=yhi h (fun _ hf=>ydf hf hok)
theorem V_below (h:V d e W base ok v xs) (hb:Below W.heap.size W w1):V d e w1 base ok v xs:=yhi h (fun _ hf=>F_below hf hb)
theorem V_after (h:V d e W base (fun k=>ok k∧some k≠u.ownBlock) v xs) (hg:W.grownBy w1 u.ownBlock) (hat:v1.ownBlock=u.ownBlock∨∃ b,v1.ownBlock=some b∧W.heap.size≤b):V d e w1 base (fun k=>ok k∧some k≠v1.ownBlock) v xs:=yhi h (fun _ hf=>F_after hf hg hat)
theorem V_afterv (h:V d e W base (fun k=>ok k∧some k≠v.ownBlock) u xs) (hg:W.grownBy w1 v.ownBlock) (hat:v1.ownBlock=v.ownBlock∨∃ b,v1.ownBlock=some b∧W.heap.size≤b):V d e w1 base (fun k=>ok k∧some k≠v1.ownBlock) u xs:=V_after h hg hat
theorem N_afterv (h:N d e W base (fun k=>ok k∧some k≠v.ownBlock) u xs) (hg:W.grownBy w1 v.ownBlock) (hat:v1.ownBlock=v.ownBlock∨∃ b,v1.ownBlock=some b∧W.heap.size≤b):N d e w1 base (fun k=>ok k∧some k≠v1.ownBlock) u xs:=N_after h hg hat
theorem V_apart_nil (h:V d e W base ok v xs):V d e W base (fun k=>ok k∧some k≠(Value.slice none 0 0).ownBlock) v xs:=yhi h (fun _ hf=>ycd hf)
theorem V_elder' (h:V d e W base ok v xs) (hbase:∀ k,u.ownBlock=some k->W.heap.size≤k) (hb:Below W.heap.size W w1):V d e w1 base (fun k=>ok k∧some k≠u.ownBlock) v xs:=yhi h (fun _ hf=>yj7 hf hbase hb)
theorem FK_slice_mk {l:List α} (hl:l.length≤c) (hf:F d W ok A l.length l):FK (Kd.slice e d) W ok l [.slice A l.length c]:=fun W' hW=>⟨A,c,rfl,hl,hf W' hW⟩
theorem R_newM {M:Nat->Prop} (h:d.R e w1 W.heap.size ok v xs) (hle:w.heap.size≤W.heap.size) (hM:∀ k,w.heap.size≤k->M k):d.R e w1 W.heap.size (fun k=>M k∧ok k) v xs:=R_mono (R_bound h) (fun k hk=>⟨hM k (Nat.le_trans hle hk.2.1),hk.1⟩)
end
end Kd
end Go.Proofs.YtfgcijifdbgpaaaW.Wd
namespace Go.Proofs.Ytfgcijifdbgpaaa.Ext
open Go.RowKit Go.Proofs.YtfgcijifdbgpaaaW.Wd Go.Proofs.YtfgcijifdbgpaaaW.La Go.Proofs.YtfgcijifdbgpaaaW.Mo
section
attribute [local go_sem] y0x y0v y16 y15 y0q y0p y0w y0u
theorem info3:(Tra.prog.info? 3).map (fun i=>(i.zero,i.size,i.bytes))=some (some (.int .i64 0),1,8):=by kernel_rfl
theorem yc8 (A:Option Addr) (c:Nat) (l:List Int) (w:World) (hr:Kd.C (Kd.int .i64) w A l.length l) (hL:l.length<17592186044416) :
  Calls Tra.prog 51 #[.slice A l.length c] w fun e w'=>∃ v,e=.returned v∧Kd.R (Kd.int .i64) 3 w' w.heap.size (fun _=>True) v l∧Below w.heap.size w w':=by
 have HR:=As0.mk hr;have HL:=As0.mk hL;have HB:=As0.mk (Below.refl w.heap.size w);clear hL;cases A with
 |none =>
  have hl:l=[]:=by
   rcases Nat.eq_zero_or_pos l.length with h|h
   ·exact List.eq_nil_of_length_eq_zero h
   ·obtain ⟨ad,h1,_⟩:=Kd.at_int hr 0 (by omega) (by omega)
    cases h1
  subst hl;clear hr;have hq:∀ W,(binOp .eql 29 (.slice none 0 c) (.slice none 0 0)).run Tra.prog W=.ok (.bool true) W:=fun W=>Lib.run_eql_slice_nil W 29 3 none _ _ _ _ Tra.underlying29
  go_enter Tra.func51,Tra.ntmps51
  go_wp2
  go_ret
  exact ⟨_,rfl,Kd.R_nil _ _ _ _ _,HB.out⟩
 |some ad =>
  clear hr;have hq:∀ W,(binOp .eql 29 (.slice (some ad) l.length c) (.slice none 0 0)).run Tra.prog W=.ok (.bool false) W:=fun W=>Lib.run_eql_slice_nil W 29 3 (some ad) _ _ _ _ Tra.underlying29
  go_enter Tra.func51,Tra.ntmps51
  go_wp2_with (first|((with_reducible refine y0s (N:=5) rfl ?_);refine Kd.R_lit (Kd.int .i64) _ 3 ?hg (N:=5) ?hd (xs:=([]:List Int)) (inner:=[]) (ok:=fun _=>True) (okp:=fun _=>True) ?hr ?hp (fun _ hk=>hk) trivial (Below.refl _ _) (zLe _) (by simp) ?_;(case hd=>rfl);(case hg=>rfl);(case hr=>first|(go_simp;done)|(go_simp;rfl));(case hp=>exact (Reps.none _ _));intro v464 w11 ho12 hb hg_ hnew_;have HO:=As0.mk ho12;have HB2:=As0.mk (y04 HB.out hb);clear HB hg_ hnew_ ho12 hb)|(at_builtin;refine Kd.R_append_rows (Kd.int .i64) (w0:=w) w.heap.size rfl (.tmp 5) (.tmp 6) 29 3 (.int .i64 0) 8 rfl Tra.underlying29 info3 rfl (by decide) (by omega) v464 [] l _ _ _ (fun _=>True) (fun _=>False) rfl rfl ?aO ?aR (fun _ _ h=>h) (fun _ h=>h.elim) ?aF ?aB ?aS ?aL ?_;(case aR=>exact (Kd.C_below HR.out HB2.out));(case aB=>exact HB2.out);(case aF=>exact (fun _ _=>trivial));(case aO=>exact HO.out);(case aS=>exact y05 HB2.out);(case aL=>have:=HL.out;simp only [List.length_nil];omega);intro v467 w13 ho hb hg hat))
  go_ret
  exact ⟨_,rfl,ho,hb⟩
end
section
def OwnI (w:World) (base:Nat) (v:Value) (xs:List Int):Prop :=
 w.ownsRow base 3 1 v xs.length (nums .i64 xs)∧(∀ g cs fr,v.ownBlock=some g->w.heap[g]?=some (.cells cs 3 fr)->(∀ c ∈ cs,∃ x,c=.int .i64 x)∧∀ j,xs.length≤j->j<cs.size->cs[j]?=some (.int .i64 0))∧(xs=[]->v=.slice none 0 0)
theorem OwnI.nil (w:World) (base:Nat):OwnI w base (.slice none 0 0) []:=⟨yga _ _ _ _,fun g cs fr h=>by simp [Value.ownBlock] at h,fun _=>rfl⟩
theorem OwnI.move {w w1:World} {base:Nat} {v:Value} {xs:List Int} (h:OwnI w base v xs) (hm:∀ k,v.ownBlock=some k->w1.heap[k]?=w.heap[k]?):OwnI w1 base v xs :=
 ⟨ycp h.1 hm,fun g cs fr hg hb=>h.2.1 g cs fr hg ((hm g hg).symm.trans hb),h.2.2⟩
theorem OwnI.lt {w:World} {base:Nat} {v:Value} {xs:List Int} (h:OwnI w base v xs) (k:Nat) (hk:v.ownBlock=some k):base≤k∧k<w.heap.size:=h.1.lt k hk
theorem OwnI.lower {w:World} {base base':Nat} {v:Value} {xs:List Int} (h:OwnI w base v xs) (hb:base'≤base):OwnI w base' v xs:=⟨y7v h.1 hb,h.2⟩
theorem OwnI.below {w w1:World} {base:Nat} {v:Value} {xs:List Int} (h:OwnI w base v xs) (hb:Below w.heap.size w w1):OwnI w1 base v xs:=h.move fun k hk=>hb.block k (h.lt k hk).2
theorem OwnI.grown {w w1:World} {base:Nat} {v:Value} {xs:List Int} (h:OwnI w base v xs) {row:Option Nat} (hg:w.grownBy w1 row) (hne:v.ownBlock=none∨v.ownBlock≠row):OwnI w1 base v xs :=
 h.move fun k hk=>hg.block k (h.lt k hk).2 (by
  rcases hne with h0|h0
  ·rw [hk] at h0;cases h0
  ·rw [← hk];exact h0)
theorem OwnI.toR {w:World} {base:Nat} {v:Value} {xs:List Int} (h:OwnI w base v xs):Kd.R (Kd.int .i64) 3 w base (fun _=>True) v xs:=by
 refine ⟨fun _ _=>trivial,nums .i64 xs,h.1,?_⟩;refine ⟨by simp [nums,Kd.int,Kd.scalar],fun j p hj=>?_⟩;show _=_;simp only [nums,Kd.int,Kd.scalar,Nat.mul_one];obtain ⟨hlt,rfl⟩:=List.getElem?_eq_some_iff.1 hj;rw [List.drop_eq_getElem_cons (by simpa using hlt)];simp
theorem zeros_int (n:Nat):∀ c ∈ Builtin.zeroCells #[Value.int .i64 0] n,c=.int .i64 0:=by
 intro c hc;unfold Builtin.zeroCells at hc;obtain ⟨i,_,rfl⟩:=Array.mem_map.1 hc;show #[Value.int .i64 0][i % 1]! = _;rw [Nat.mod_one];rfl
section
variable {P:Program} {w:World}
theorem yba {t ty:TypeId} {i:TypeInfo} (ht:P.underlying t=some (.slice 3)) (hi:P.info? 3=some i) (hz:i.zero=some (.int .i64 0)) (hs:i.size=1) (hby:i.bytes=8) {base:Nat} {v:Value} {xs:List Int} (HO:OwnI w base v xs) (hbase:base≤w.heap.size)
  {ad:Addr} {c:Nat} {y:Int} (hy:w.cell? ad=some (.int .i64 y)) (hl:xs.length+1≤17592186044416) :
  ∃ v' w',(Builtin.append_ #[t,t] ty #[v,.slice (some ad) 1 c]).run P w=.ok v' w'∧OwnI w' base v' (xs ++ [y])∧w.grownBy w' v.ownBlock∧(v'.ownBlock=v.ownBlock∨v'.ownBlock=some w.heap.size):=by
 have hnews:∀ j u,[Value.int .i64 y][j]?=some u->w.cell? (ad.add j)=some u:=by
  intro j u hu;rcases j with _|j
  ·injection hu with hu
   subst hu;have e:ad.add 0=ad:=by cases ad with|mk b o s=>unfold Addr.add;split<;>simp_all
   rw [e];exact hy
  ·simp at hu
 have grown:∀ (old:Nat) (row:Option Nat),OwnI (w.drew.alloc (.cells ((nums .i64 xs).toArray ++ [Value.int .i64 y].toArray ++ Builtin.zeroCells #[Value.int .i64 0] (grownCap w (xs.length+1) old 3 - (xs.length+1))) 3)) base (.slice (some ⟨w.heap.size,0,none⟩) (xs.length+1) (grownCap w (xs.length+1) old 3)) (xs ++ [y]) ∧
   w.grownBy (w.drew.alloc (.cells ((nums .i64 xs).toArray ++ [Value.int .i64 y].toArray ++ Builtin.zeroCells #[Value.int .i64 0] (grownCap w (xs.length+1) old 3 - (xs.length+1))) 3)) row:=by
  intro old row;have hge:=grownCap_ge w (xs.length+1) old 3;have hcm:grownCap w (xs.length+1) old 3≤maxLen:=grownCap_le_maxLen w (xs.length+1) old 3 (by simp only [maxLen];omega);have hn:(nums .i64 xs).length=xs.length:=by simp [nums]
  have hsz:(Builtin.zeroCells #[Value.int .i64 0] (grownCap w (xs.length+1) old 3 - (xs.length+1))).size=grownCap w (xs.length+1) old 3 - (xs.length+1):=by rw [size_zeroCells];simp
  refine ⟨⟨⟨by simp [nums],.inr ⟨w.heap.size,_,_,by simp,hbase,heap_alloc_new w.drew _,by simp;omega,hcm,?_,?_⟩⟩,?_,fun h=>by simp at h⟩,⟨rfl,rfl,rfl,by simp,fun k hk _=>heap_alloc_old w.drew _ hk⟩⟩
  ·simp only [Array.size_append,List.size_toArray,hn,hsz,List.length_singleton];omega
  ·rw [show (nums IntKind.i64 (xs ++ [y]))=nums .i64 xs ++ [Value.int .i64 y] by simp [nums]]
   simp only [Array.toList_append,List.length_append,List.length_singleton,Nat.mul_one];rw [show xs.length+1=(nums .i64 xs ++ [Value.int .i64 y]).length by simp [nums]];exact List.take_left
  ·intro g cs fr hg hb
   have hg':w.heap.size=g:=by simpa [Value.ownBlock] using hg
   subst hg';have hb':(w.drew.alloc (.cells ((nums .i64 xs).toArray ++ [Value.int .i64 y].toArray ++ Builtin.zeroCells #[Value.int .i64 0] (grownCap w (xs.length+1) old 3 - (xs.length+1))) 3)).heap[w.heap.size]?=_:=heap_alloc_new w.drew _;rw [hb'] at hb;injection hb with hb
   injection hb with hb
   subst hb;refine ⟨fun c hc=>?_,fun j hj hjs=>?_⟩;rotate_left
   ·have hz:((nums .i64 xs).toArray ++ [Value.int .i64 y].toArray).size=xs.length+1:=by simp [nums]
    rw [List.length_append,List.length_singleton] at hj;rw [Array.getElem?_append_right (by omega)];have hlt:j - ((nums .i64 xs).toArray ++ [Value.int .i64 y].toArray).size<(Builtin.zeroCells #[Value.int .i64 0] (grownCap w (xs.length+1) old 3 - (xs.length+1))).size:=by rw [Array.size_append] at hjs;omega
    rw [Array.getElem?_eq_getElem hlt];exact congrArg some (zeros_int _ _ (Array.getElem_mem hlt))
   simp only [Array.mem_append,List.mem_toArray] at hc;rcases hc with (hc|hc)|hc
   ·simp only [nums,List.mem_map] at hc
    obtain ⟨x,_,rfl⟩:=hc;exact ⟨x,rfl⟩
   ·exact ⟨y,by simpa using hc⟩
   ·exact ⟨0,zeros_int _ c hc⟩
 have hcopy:=HO;obtain ⟨⟨h1,h2⟩,h3,_⟩:=HO;rcases h2 with ⟨rfl,h0⟩|⟨g,cap,cur,rfl,hbg,hg,hnc,hcm,hcs,htake⟩
 ·have hx:xs=[]:=List.eq_nil_of_length_eq_zero h0
  subst hx;have hr:=run_append_nil (P:=P) w t ty 3 i (.int .i64 0) ht hi hz ad 1 c [Value.int .i64 y] (by rw [hs];rfl) hnews (by omega) (by omega) (by rw [hby];omega);have hgr:=grown 0 (Value.ownBlock (.slice none 0 0));simp only [List.length_nil,Nat.zero_add,List.nil_append,nums,List.map_nil,Array.empty_append] at hgr ⊢;exact ⟨_,_,hr,hgr.1,hgr.2,.inr rfl⟩
 ·by_cases hroom:xs.length+1≤cap
  ·have hcs':cur.size=cap:=by rw [hcs,Nat.mul_one]
   have hr:=run_append_room (P:=P) w t ty 3 i ht hi g xs.length cap cur hg ad 1 c [Value.int .i64 y] (by rw [hs];rfl) hnews (by simp [Value.oneCell']) hroom (by rw [hs,hcs'];simp;omega);rw [hs,Nat.mul_one] at hr;rw [Nat.mul_one] at htake;refine ⟨_,_,hr,⟨⟨by simp [nums],.inr ⟨g,cap,_,by simp,hbg,setRow_heap w g cur _ 3 _ hg,by simp;omega,hcm,?_,?_⟩⟩,?_,fun h=>by simp at h⟩,⟨rfl,rfl,rfl,by simp,fun k _ hk=>setRow_other w g k _ (fun e=>hk (by simp [Value.ownBlock,e]))⟩,.inl rfl⟩
   ·simp only [List.size_toArray,List.length_append,List.length_take,List.length_drop,Array.length_toList,List.length_singleton]
    omega
   ·simp only [List.length_append,List.length_singleton,Nat.mul_one]
    rw [htake,show (nums IntKind.i64 (xs ++ [y]))=nums .i64 xs ++ [Value.int .i64 y] by simp [nums],show xs.length+1=(nums .i64 xs ++ [Value.int .i64 y]).length by simp [nums]];exact List.take_left
   ·intro g' cs fr hg' hb
    have e:g=g':=by simpa [Value.ownBlock] using hg'
    subst e;rw [setRow_heap w g cur _ 3 _ hg] at hb;injection hb with hb
    injection hb with hb
    subst hb;obtain ⟨h4,h5⟩:=h3 g cur _ rfl hg;refine ⟨fun c hc=>?_,fun j hj hjs=>?_⟩
    ·simp only [List.mem_toArray,List.mem_append] at hc
     rcases hc with (hc|hc)|hc
     ·exact h4 c (Array.mem_def.2 (List.mem_of_mem_take hc))
     ·exact ⟨y,by simpa using hc⟩
     ·exact h4 c (Array.mem_def.2 (List.mem_of_mem_drop hc))
    ·rw [List.length_append,List.length_singleton] at hj
     have h6:=h5 j (by omega) (by simp only [List.size_toArray,List.length_append,List.length_take,List.length_drop,Array.length_toList,List.length_singleton] at hjs;omega);have hlt:xs.length≤cur.toList.length:=by have e:cur.toList.length=cur.size:=Array.length_toList;omega
     rw [List.getElem?_toArray,List.getElem?_append_right (by simp;omega),List.getElem?_drop];rw [show xs.length+[Value.int IntKind.i64 y].length+(j - (List.take xs.length cur.toList ++ [Value.int IntKind.i64 y]).length)=j from by simp only [List.length_append,List.length_take,List.length_singleton,Array.length_toList];omega];simpa using h6
  ·have holds:∀ j u,(nums .i64 xs)[j]?=some u->w.cell? ((⟨g,0,none⟩:Addr).add j)=some u:=hcopy.1.cells (g:=g) rfl
   have hr:=run_append_grow (P:=P) w t ty 3 i (.int .i64 0) ht hi hz ⟨g,0,none⟩ xs.length cap (nums .i64 xs) (by rw [hs];simp [nums]) holds ad 1 c [Value.int .i64 y] (by rw [hs];rfl) hnews (by omega) (by omega) (growslice_fits (by omega) (by rw [hby];omega));have hgr:=grown cap (Value.ownBlock (.slice (some ⟨g,0,none⟩) xs.length cap));exact ⟨_,_,hr,hgr.1,hgr.2,.inr rfl⟩
end
section
variable {P:Program} {ops:Array Oper} {rest:List Oper} {o:Oper} {a:Act} {Q:Exit->Act->World->Prop}
theorem y37 {W:World} (base:Nat) (hgd:o.guard=none) (s x:Operand) (t:TypeId)
  (ho:o.op=.call { callee:=.builtin .append,args:=#[s,x],argTypes:=#[t,t] })
  (ht:P.underlying t=some (.slice 3)) (hinfo:(P.info? 3).map (fun i=>(i.zero,i.size,i.bytes))=some (some (.int .i64 0),1,8))
  (v:Value) (xs:List Int) (y:Int) (hs:a.eval s=v) (hx:a.eval x=.slice (some ⟨W.heap.size,0,none⟩) 1 1)
  (HO:OwnI W base v xs) (hbase:base≤W.heap.size) (hl:xs.length+1≤17592186044416)
  (h:∀ v1 w1,OwnI w1 base v1 (xs ++ [y])->W.grownBy w1 v.ownBlock->(v1.ownBlock=v.ownBlock∨∃ b,v1.ownBlock=some b∧W.heap.size≤b)->wpList P ops Q rest (a.put o.dst v1) w1) :
  wpList P ops Q (o :: rest) a (W.alloc (.cells #[.int .i64 y] 3)):=by
 obtain ⟨i0,hi,hzz⟩:=Option.map_eq_some_iff.1 hinfo;simp only [Prod.mk.injEq] at hzz;obtain ⟨hz0,hz1,hz2⟩:=hzz;have hb:(W.alloc (.cells #[.int .i64 y] 3)).heap[W.heap.size]?=some (.cells #[.int .i64 y] 3 (0,0)):=heap_alloc_new _ _;have hc:(W.alloc (.cells #[.int .i64 y] 3)).cell? ⟨W.heap.size,0,none⟩=some (.int .i64 y):=(y07 hb 0).trans rfl;obtain ⟨v',w',hr,h2,h3,h4⟩:=yba (P:=P) (w:=W.alloc (.cells #[.int .i64 y] 3)) (t:=t) (ty:=o.type) (c:=1) ht hi hz0 hz1 hz2 (HO.below (y01 (Below.refl _ _) _)) (by simp;omega) hc hl;refine wpList_plain hgd fun _ hK=>?_
 unfold Oper.wp execOp;simp only [ho,resolve,invoke,builtin,Sem.run_bind,Sem.run_pure,Result.andThen_ok,List.map_toArray,List.map_cons,List.map_nil,hs,hx,hr];refine hK _ _ (h v' w' h2 (World.grownBy.trans (World.grownBy_alloc W _ _) h3) ?_);rcases h4 with h4|h4
 ·exact .inl h4
 ·exact .inr ⟨_,h4,by simp⟩
end
end
section
section
variable {α:Type} [DecidableEq α]
def met (S:List α) (x:α):List α:=if x ∈ S then S else S ++ [x]
def y2u (s:List α × List Int) (x:α):List α × List Int:=(met s.1 x,s.2 ++ [((met s.1 x).idxOf x:Int)])
def y28 (l:List α):List α × List Int:=l.foldl y2u ([],[])
def numL (l:List α):List Int:=(y28 l).2
theorem y5g (l:List α) (x:α):y28 (l ++ [x])=y2u (y28 l) x:=by simp [y28]
theorem y7x {l:List α} {k:Nat} (h:k<l.length):y28 (l.take (k+1))=y2u (y28 (l.take k)) l[k]:=by
 rw [List.take_succ_eq_append_getElem h,y5g]
theorem yan {S:List α} (h:S.Nodup) (x:α):(met S x).Nodup:=by
 unfold met;split
 ·exact h
 ·rename_i hx
  rw [List.nodup_append];refine ⟨h,by simp,?_⟩;intro a ha b hb e;rw [List.mem_singleton] at hb;exact hx (hb ▸ e ▸ ha)
theorem y6u (l:List α):(y28 l).2.length=l.length∧(y28 l).1.length≤l.length:=by
 suffices h:∀ (l:List α) (s:List α × List Int),(l.foldl y2u s).2.length=s.2.length+l.length∧(l.foldl y2u s).1.length≤s.1.length+l.length by
  have:=h l ([],[]);simpa [y28] using this
 intro l
 induction l with
 |nil=>intro s;simp
 |cons x l ih =>
  intro s;obtain ⟨h1,h2⟩:=ih (y2u s x);rw [List.foldl_cons];have h3:(y2u s x).2.length=s.2.length+1:=by simp [y2u]
  have h4:(y2u s x).1.length≤s.1.length+1:=by
   simp only [y2u,met];split<;>simp
  refine ⟨by rw [h1,h3,List.length_cons];omega,by rw [List.length_cons];omega⟩
theorem y2n (l:List α):(numL l).length=l.length:=(y6u l).1
end
structure KeyD (P:Program) (α:Type) where
 enc:α->Value
 kt:TypeId
 ok:α->Prop
 inj:∀ {x y},enc x=enc y->x=y
 keyed:Go.Maps.Keyed P kt
 key:∀ {x},ok x->∃ l,keyOf P kt (enc x)=some l
section
variable {P:Program} {α:Type} [DecidableEq α] {D:KeyD P α}
def Named (D:KeyD P α) (w:World) (g:Nat) (S:List α):Prop :=
 S.Nodup∧(∀ x ∈ S,D.ok x)∧∃ (es:Array MapEntry) (clock:Nat),w.heap[g]?=some (.map es clock)∧es.size=S.length∧∀ (i:Nat) (e:MapEntry),es.toList[i]?=some e->∃ x,S[i]?=some x∧e.key=D.enc x∧e.val=.int .i64 (i:Int)
theorem Named.made (D:KeyD P α) (w:World):Named D (w.alloc (.map #[] 0)) w.heap.size []:=⟨List.nodup_nil,by simp,#[],0,heap_alloc_new _ _,rfl,by simp⟩
theorem Named.lt {w:World} {g:Nat} {S:List α} (h:Named D w g S):g<w.heap.size:=by
 obtain ⟨_,_,es,clock,hb,_⟩:=h;exact y1i hb
theorem Named.move {w w1:World} {g:Nat} {S:List α} (h:Named D w g S) (hm:w1.heap[g]?=w.heap[g]?):Named D w1 g S:=by
 obtain ⟨h1,h2,es,clock,hb,r⟩:=h;exact ⟨h1,h2,es,clock,hm.trans hb,r⟩
theorem Named.keys {S:List α} (hok:∀ x ∈ S,D.ok x) {es:Array MapEntry} (r:∀ (i:Nat) (e:MapEntry),es.toList[i]?=some e->∃ x,S[i]?=some x∧e.key=D.enc x∧e.val=.int .i64 (i:Int)):∀ e ∈ es.toList,∃ l,keyOf P D.kt e.key=some l:=by
 intro e he;obtain ⟨i,hi⟩:=List.mem_iff_getElem?.1 he;obtain ⟨x,hx,hk,_⟩:=r i e hi;rw [hk];exact D.key (hok x (List.mem_of_getElem? hx))
theorem Named.find {w:World} {g:Nat} {S:List α} (h:Named D w g S) {x:α} (hx:D.ok x):∃ es clock l,w.heap[g]?=some (.map es clock)∧es.size=S.length∧keyOf P D.kt (D.enc x)=some l ∧
  ((x ∉ S∧(Instr.findKey D.kt (D.enc x) es.toList).run P w=.ok none w)∨(x ∈ S∧∃ j,(Instr.findKey D.kt (D.enc x) es.toList).run P w=.ok (some (j,.int .i64 (S.idxOf x:Int))) w)):=by
 obtain ⟨hn,hok,es,clock,hb,hs,r⟩:=h;obtain ⟨l,hl⟩:=D.key hx;refine ⟨es,clock,l,hb,hs,hl,?_⟩;rcases D.keyed.find w hl es.toList (Named.keys hok r) with ⟨h1,h2⟩|⟨j,e0,h1,h2,h3⟩
 ·refine .inl ⟨fun hin=>?_,h1⟩
  obtain ⟨i,hi⟩:=List.mem_iff_getElem?.1 hin;have hlt:i<es.toList.length:=by
   have:=(List.getElem?_eq_some_iff.1 hi).1;simpa [hs] using this
  obtain ⟨y,hy,hk,_⟩:=r i _ (List.getElem?_eq_getElem hlt);rw [hi] at hy;injection hy with hy
  subst hy;exact h2 _ (List.getElem_mem hlt) hk
 ·obtain ⟨y,hy,hk,hv⟩:=r j e0 h2
  have e:y=x:=D.inj (hk.symm.trans h3);subst e;obtain ⟨hlt,hj⟩:=List.getElem?_eq_some_iff.1 hy;have hi:S.idxOf y=j:=by rw [← hj];exact hn.idxOf_getElem j hlt
  exact .inr ⟨List.mem_of_getElem? hy,j,by rw [h1,hv,hi]⟩
theorem Named.lookup {w:World} {g:Nat} {S:List α} (h:Named D w g S) {mt:TypeId} (hmt:P.underlying mt=some (.map D.kt 3)) (hz:(zeroValue 3).run P w=.ok (.int .i64 0) w) {x:α} (hx:D.ok x) :
  (x ∉ S∧(Instr.lookup mt (.map (some g)) (D.enc x) true).run P w=.ok (.tuple #[.int .i64 0,.bool false]) w) ∨
  (x ∈ S∧(Instr.lookup mt (.map (some g)) (D.enc x) true).run P w=.ok (.tuple #[.int .i64 (S.idxOf x:Int),.bool true]) w):=by
 obtain ⟨es,clock,l,hb,hs,hl,h⟩:=h.find hx;rcases h with ⟨h1,h2⟩|⟨h1,j,h2⟩
 ·refine .inl ⟨h1,?_⟩
  simp [Instr.lookup,run_underlying hmt,MapKept.run_getObj_map hb,D.keyed.check w _ hl,h2,hz,Result.andThen]
 ·refine .inr ⟨h1,?_⟩
  simp [Instr.lookup,run_underlying hmt,MapKept.run_getObj_map hb,D.keyed.check w _ hl,h2,Result.andThen]
theorem Named.get {w:World} {g:Nat} {S:List α} (h:Named D w g S) {mt:TypeId} (hmt:P.underlying mt=some (.map D.kt 3)) {x:α} (hx:D.ok x) (hin:x ∈ S) :
  (Instr.lookup mt (.map (some g)) (D.enc x) false).run P w=.ok (.int .i64 (S.idxOf x:Int)) w:=by
 obtain ⟨es,clock,l,hb,hs,hl,h⟩:=h.find hx;rcases h with ⟨h1,h2⟩|⟨h1,j,h2⟩
 ·exact absurd hin h1
 ·simp [Instr.lookup,run_underlying hmt,MapKept.run_getObj_map hb,D.keyed.check w _ hl,h2,Result.andThen]
theorem Named.len {w:World} {g:Nat} {S:List α} (h:Named D w g S) {mt ty:TypeId} (hmt:P.underlying mt=some (.map D.kt 3)) :
  (Builtin.len_ #[mt] ty #[.map (some g)]).run P w=.ok (.int .i64 (S.length:Int)) w:=by
 obtain ⟨hn,hok,es,clock,hb,hs,r⟩:=h;simp [Builtin.len_,run_underlying hmt,MapKept.run_getObj_map hb,Result.andThen,hs,goInt]
theorem y44 {w:World} {g:Nat} (o:Obj):w.grownBy (Go.ChangeMaps.setBlock w g o) (some g) :=
 ⟨rfl,rfl,rfl,by simp [Go.ChangeMaps.setBlock],fun i hi hne=>by
  have:g≠i:=fun e=>hne (by rw [e])
  simp [Go.ChangeMaps.setBlock,Array.getElem?_setIfInBounds,this]⟩
theorem y5u {w:World} {g:Nat} (h:g<w.heap.size) (o:Obj):(Go.ChangeMaps.setBlock w g o).heap[g]?=some o:=by
 simp [Go.ChangeMaps.setBlock,Array.getElem?_setIfInBounds,h]
theorem Named.update {w:World} {g:Nat} {S:List α} (h:Named D w g S) {mt:TypeId} (hmt:P.underlying mt=some (.map D.kt 3)) {x:α} (hx:D.ok x) (hin:x ∉ S) :
  ∃ w',(Instr.mapUpdate mt (.map (some g)) (D.enc x) (.int .i64 (S.length:Int))).run P w=.ok () w'∧Named D w' g (S ++ [x])∧w.grownBy w' (some g):=by
 have hf:=h.find hx;obtain ⟨hn,hok,es,clock,hb,hs,r⟩:=h;obtain ⟨es',clock',l,hb',hs',hl,hf⟩:=hf;rw [hb] at hb';injection hb' with hb'
 injection hb' with e1 e2
 subst e1 e2;rcases hf with ⟨h1,h2⟩|⟨h1,_⟩
 ·have hlt:=y1i hb
  refine ⟨Go.ChangeMaps.setBlock w g (.map (es.push { key:=D.enc x,val:=.int .i64 (S.length:Int),born:=clock }) (clock+1)),?_,⟨?_,?_,_,_,y5u hlt _,?_,?_⟩,y44 _⟩
  ·simp [Instr.mapUpdate,run_underlying hmt,MapKept.run_getObj_map hb,D.keyed.check w _ hl,h2,MapKept.run_setObj_map _ hb,Result.andThen,Go.ChangeMaps.setBlock]
  ·have:=yan hn x
   rwa [met,if_neg hin] at this
  ·intro y hy
   rcases List.mem_append.1 hy with hy|hy
   ·exact hok y hy
   ·rw [List.mem_singleton.1 hy];exact hx
  ·simp [hs]
  ·intro i e he
   have hsl:es.toList.length=S.length:=by simp [hs]
   rw [Array.toList_push] at he;rcases Nat.lt_or_ge i S.length with hi|hi
   ·rw [List.getElem?_append_left (by omega)] at he
    obtain ⟨y,hy,r2⟩:=r i e he;exact ⟨y,by rw [List.getElem?_append_left hi];exact hy,r2⟩
   ·have hi2:i=S.length:=by
     have:=(List.getElem?_eq_some_iff.1 he).1;simp only [List.length_append,List.length_singleton] at this;omega
    subst hi2;rw [← hsl,List.getElem?_concat_length] at he;injection he with he
    subst he;exact ⟨x,by simp,rfl,by simp [hs]⟩
 ·exact absurd h1 hin
end
end
section
attribute [local go_sem] y0x y0v y16 y15 y0q y0p y0w y0u
theorem laidOutP:laidOutB Tra.prog=true:=by kernel_rfl
theorem zero3 (w:World):(zeroValue 3).run Tra.prog w=.ok (.int .i64 0) w:=Tra.zeroValue3 w
def In64 (x:Int):Prop:=-9223372036854775808≤x∧x≤9223372036854775807
instance (x:Int):Decidable (In64 x):=inferInstanceAs (Decidable (_∧_))
theorem wf64 {x:Int} (h:In64 x):(Lit.int .i64 x).wf=true:=by
 have h1:IntKind.i64.min = -9223372036854775808:=by decide
 have h2:IntKind.i64.max=9223372036854775807:=by decide
 unfold In64 at h;simp only [Lit.wf,h1,h2,Bool.and_eq_true,decide_eq_true_eq];omega
theorem num_key {x:Int} (h:In64 x):∃ l,keyOf Tra.prog 3 (.int .i64 x)=some l:=by
 have ht:Tra.prog.keyType 3=true:=by kernel_rfl
 have hfo:(Value.int .i64 x).formed Tra.prog 3=true:=by kernel_rfl
 have hw:=wf64 h;unfold keyOf;rw [Tra.underlying3];simp [ht,hfo,hw,mapKey,Tra.underlying3]
def kInt:KeyD Tra.prog Int:=⟨.int .i64,3,In64,fun h=>by injection h,Go.Maps.int_keyed Tra.underlying3,num_key⟩
theorem ygf (A:Option Addr) (c:Nat) (l:List Int) (w:World) (hr:Kd.C (Kd.int .i64) w A l.length l) (hok:∀ x ∈ l,In64 x) (hL:l.length<17592186044416) :
  Calls Tra.prog 19 #[.slice A l.length c] w fun e w'=>∃ v,e=.returned v∧OwnI w' w.heap.size v (numL l)∧Below w.heap.size w w':=by
 have HR:=As0.mk hr;have HL:=As0.mk hL;have HOK:=As0.mk hok;clear hr hL hok;have hmm:=@run_makeMap Tra.prog;go_enter Tra.func19,Tra.ntmps19
 go_wp2_with fail
 go_loopw [4,12] (fun v4 v12 W=>∃ k:Nat,v12=.int .i64 k∧As0 (k≤l.length)∧As0 (Named kInt W w.heap.size (y28 (l.take k)).1)∧As0 (OwnI W w.heap.size v4 (y28 (l.take k)).2)∧As0 (Below w.heap.size w W)) (fun v4 v12 _=>(l.length - intOf v12).toNat)
 case atStart=>exact ⟨0,rfl,⟨Nat.zero_le _⟩,⟨Named.made kInt w⟩,⟨OwnI.nil _ _⟩,⟨y01 (Below.refl _ _) _⟩⟩
 case round =>
  obtain ⟨k,rfl,hk,hN,hO,hB⟩:=hrel;have hk':=hk.out;have hLo:=HL.out
  by_cases hlt:k<l.length
  ·obtain ⟨ad,rfl,hcell⟩:=Kd.at_int (Kd.C_below HR.out hB.out) (k:Int) (by omega) (by omega)
   have hrd:rd l (k:Int)=l[k]:=by simp [rd,List.getD_eq_getElem?_getD,List.getElem?_eq_getElem hlt]
   have HX:=As0.mk (HOK.out l[k] (List.getElem_mem hlt));have HS:=As0.mk (y7x hlt);have hlen:=y6u (l.take k);have hlen2:(y28 (l.take k)).2.length=k:=by rw [hlen.1,List.length_take];omega
   have HLN:=As0.mk hlen2;clear hlen hlen2;rw [hrd,Int.toNat_natCast] at hcell;clear hrd;obtain ⟨x,hxe⟩:∃ x,x=l[k]:=⟨_,rfl⟩
   rw [← hxe] at hcell HX HS;have HXE:=As0.mk hxe;clear hxe;obtain ⟨S,hSe⟩:∃ S,S=(y28 (l.take k)).1:=⟨_,rfl⟩
   obtain ⟨out,hOe⟩:∃ out,out=(y28 (l.take k)).2:=⟨_,rfl⟩
   rw [← hSe] at hN;rw [← hOe] at hO HLN;have HSE:=As0.mk hSe;have HOE:=As0.mk hOe;clear hSe hOe;have HNE:=As0.mk (show u4.ownBlock≠some w.heap.size from by
    intro e;obtain ⟨cells,hc⟩:=y56 hO.out.1 _ e;obtain ⟨_,_,es,clock,hb,_⟩:=hN.out;rw [hc] at hb;cases hb)
   rcases hN.out.lookup (mt:=77) Tra.underlying77 (zero3 _) HX.out with ⟨hin,hl1⟩|⟨hin,hl1⟩
   ·have hln:=hN.out.len (mt:=77) (ty:=3) Tra.underlying77
    obtain ⟨w2,hu,hN2,hg2⟩:=hN.out.update (mt:=77) Tra.underlying77 HX.out hin;have hl2:=hN2.get (mt:=77) Tra.underlying77 (x:=x) HX.out (by simp);have HN2:=As0.mk hN2;have HIN:=As0.mk (show met S x=S ++ [x] from if_neg hin);have HO2:=As0.mk (hO.out.grown hg2 (.inr HNE.out));have HB2:=As0.mk (hB.out.grown hg2 hB.out.size (by intro b hb;injection hb with hb;omega));simp only [kInt] at hl1 hu hl2;clear hN2 hg2 hin;go_wp2_with (first|((with_reducible refine y10 (b:=.append) (xs:=#[.tmp 28,.tmp 32]) rfl ?_);at_builtin;refine y37 w.heap.size rfl (.tmp 28) (.tmp 32) 29 rfl Tra.underlying29 info3 u4 out _ rfl rfl HO2.out HB2.out.size (by have:=HLN.out;have:=HL.out;omega) ?_;intro v3 w3 ho3 hg3 hat3;have HO3:=As0.mk ho3;have HB3:=As0.mk (HB2.out.grown hg3 HB2.out.size (fun k hk=>(HO2.out.lt k hk).1));have HN3:=As0.mk (HN2.out.move (hg3.block _ HN2.out.lt (fun e=>HNE.out e.symm)));clear ho3 hg3 hat3)|fail)
    go_roundw
    case rel =>
     refine ⟨k+1,by go_num,⟨by omega⟩,⟨?_⟩,⟨?_⟩,HB3⟩
     ·rw [HS.out]
      show Named kInt _ _ (met (y28 (l.take k)).1 x);rw [← HSE.out,HIN.out];exact HN3.out
     ·rw [HS.out]
      show OwnI _ _ _ ((y28 (l.take k)).2 ++ [((met (y28 (l.take k)).1 x).idxOf x:Int)]);rw [← HSE.out,← HOE.out,HIN.out];exact HO3.out
    case measure=>simp [intOf];omega
   ·have hl2:=hN.out.get (mt:=77) Tra.underlying77 (x:=x) HX.out hin
    have HIN:=As0.mk (show met S x=S from if_pos hin);simp only [kInt] at hl1 hl2;clear hin;go_wp2_with (first|((with_reducible refine y10 (b:=.append) (xs:=#[.tmp 28,.tmp 32]) rfl ?_);at_builtin;refine y37 w.heap.size rfl (.tmp 28) (.tmp 32) 29 rfl Tra.underlying29 info3 u4 out _ rfl rfl hO.out hB.out.size (by have:=HLN.out;have:=HL.out;omega) ?_;intro v3 w3 ho3 hg3 hat3;have HO3:=As0.mk ho3;have HB3:=As0.mk (hB.out.grown hg3 hB.out.size (fun k hk=>(hO.out.lt k hk).1));have HN3:=As0.mk (hN.out.move (hg3.block _ hN.out.lt (fun e=>HNE.out e.symm)));clear ho3 hg3 hat3)|fail)
    go_roundw
    case rel =>
     refine ⟨k+1,by go_num,⟨by omega⟩,⟨?_⟩,⟨?_⟩,HB3⟩
     ·rw [HS.out]
      show Named kInt _ _ (met (y28 (l.take k)).1 x);rw [← HSE.out,HIN.out];exact HN3.out
     ·rw [HS.out]
      show OwnI _ _ _ ((y28 (l.take k)).2 ++ [((met (y28 (l.take k)).1 x).idxOf x:Int)]);rw [← HSE.out,← HOE.out,HIN.out];exact HO3.out
    case measure=>simp [intOf];omega
  ·have hke:k=l.length:=by omega
   have HO:=As0.mk (show OwnI wr w.heap.size u4 (numL l) from by have:=hO.out;rwa [hke,List.take_length] at this);clear hke;go_wp2_with fail
   go_ret
   exact ⟨_,rfl,HO.out,hB.out⟩
theorem num_calls (A:Option Addr) (c:Nat) (l:List Int) (w:World) (hr:Kd.C (Kd.int .i64) w A l.length l) (hc:l.length≤c) (hok:∀ x ∈ l,In64 x) (hL:l.length<17592186044416) :
  Calls Tra.prog 19 #[.slice A l.length c] w fun e w'=>∃ v,e=.returned v∧Kd.R (Kd.int .i64) 3 w' w.heap.size (fun _=>True) v (numL l)∧Below w.heap.size w w':=by
 refine (ygf A c l w hr hok hL).mono ?_
 rintro e w' ⟨v,he,hO,hB⟩
 exact ⟨v,he,hO.toR,hB⟩
end
section
attribute [local go_sem] y0x y0v y16 y15 y0q y0p y0w y0u
def pv (p:Int × Int):Value:=.agg #[.int .i64 p.1,.int .i64 p.2]
theorem pv_inj {p q:Int × Int} (h:pv p=pv q):p=q:=by
 unfold pv at h;injection h with h
 have h2:[Value.int .i64 p.1,.int .i64 p.2]=[.int .i64 q.1,.int .i64 q.2]:=by simpa using congrArg Array.toList h
 simp only [List.cons.injEq,Value.int.injEq,true_and,and_true] at h2;exact Prod.ext h2.1 h2.2
theorem keyed89:Go.Maps.Keyed Tra.prog 74 :=
 Go.Maps.Keyed.of_law (deep_law_laid laidOutP (m:=2) (by decide) (zDo (by kernel_rfl)) (by kernel_rfl) (by kernel_rfl))
theorem key64 {x:Int} (h:In64 x) (d:Nat):Tra.prog.keyLits (d+1) 3 [.int .i64 x]=some [.int .i64 x]:=by
 simp [Program.keyLits,Tra.underlying3,wf64 h]
theorem pv_key {p:Int × Int} (h:In64 p.1∧In64 p.2):∃ l,keyOf Tra.prog 74 (pv p)=some l:=by
 have ka:=fun D=>key64 h.1 D
 have kb:=fun D=>key64 h.2 D
 have ht:Tra.prog.keyType 74=true:=by kernel_rfl
 have hfo:(pv p).formed Tra.prog 74=true:=by kernel_rfl
 have hs:Tra.prog.types.size=165:=by kernel_rfl
 have c6:Tra.prog.cellsOf 74=2:=by kernel_rfl
 have c3:Tra.prog.cellsOf 3=1:=by kernel_rfl
 have hl:Tra.prog.keyLits (165+1) 74 (pv p).cells.toList=some [.int .i64 p.1,.int .i64 p.2]:=by
  show Tra.prog.keyLits (165+1) 74 [.int .i64 p.1,.int .i64 p.2]=_;unfold Program.keyLits;simp [Tra.underlying74,c6,c3,List.range_succ,ka,kb]
 refine ⟨.string (keyBytes [.int .i64 p.1,.int .i64 p.2]),?_⟩;unfold keyOf;rw [Tra.underlying74];simp only [ht,hfo,Bool.and_self,if_true,hs,hl,Option.map_some]
def kPair:KeyD Tra.prog (Int × Int):=⟨pv,74,fun p=>In64 p.1∧In64 p.2,pv_inj,keyed89,pv_key⟩
def Reads2 (w:World) (A:Option Addr) (l:List (Int × Int)):Prop :=
 0<l.length->∃ ad,A=some ad∧∀ (j:Nat) p,l[j]?=some p->w.cell? (ad.add (j * 2))=some (.int .i64 p.1)∧w.cell? (ad.add (j * 2+1))=some (.int .i64 p.2)
theorem Reads2.below {w w1:World} {A:Option Addr} {l:List (Int × Int)} (h:Reads2 w A l) (hb:Below w.heap.size w w1):Reads2 w1 A l:=fun hn=>by
 obtain ⟨ad,e,hc⟩:=h hn;exact ⟨ad,e,fun j p hj=>⟨y1v hb (hc j p hj).1,y1v hb (hc j p hj).2⟩⟩
theorem num2_all (A:Option Addr) (c:Nat) (l:List (Int × Int)) (w:World) (hr:Reads2 w A l) (hok:∀ p ∈ l,In64 p.1∧In64 p.2) (hL:l.length<17592186044416) :
  Calls Tra.prog 50 #[.slice A l.length c] w fun e w'=>∃ v,e=.returned v∧OwnI w' w.heap.size v (numL l)∧Below w.heap.size w w':=by
 have HR:=As0.mk hr;have HL:=As0.mk hL;have HOK:=As0.mk hok;clear hr hL hok;have hmm:=@run_makeMap Tra.prog;go_enter Tra.func50,Tra.ntmps50
 go_wp2_with fail
 go_loopw [4,12] (fun v4 v12 W=>∃ k:Nat,v12=.int .i64 k∧As0 (k≤l.length)∧As0 (Named kPair W w.heap.size (y28 (l.take k)).1)∧As0 (OwnI W w.heap.size v4 (y28 (l.take k)).2)∧As0 (Below w.heap.size w W)) (fun v4 v12 _=>(l.length - intOf v12).toNat)
 case atStart=>exact ⟨0,rfl,⟨Nat.zero_le _⟩,⟨Named.made kPair w⟩,⟨OwnI.nil _ _⟩,⟨y01 (Below.refl _ _) _⟩⟩
 case round =>
  obtain ⟨k,rfl,hk,hN,hO,hB⟩:=hrel;have hk':=hk.out;have hLo:=HL.out
  by_cases hlt:k<l.length
  ·obtain ⟨ad,rfl,hcl⟩:=(HR.out.below hB.out) (by omega)
   obtain ⟨hc0,hc1⟩:=hcl k _ (List.getElem?_eq_getElem hlt);have hc2:wr.cell? { block:=(ad.add (k * 2)).block,off:=(ad.add (k * 2)).off+1 }=some (.int .i64 l[k].2):=by
    have h:=hc1;rw [← Addr.add_add] at h;generalize ad.add (k * 2)=q at h ⊢;simpa [Addr.add] using h
   clear hc1;clear hcl;have HX:=As0.mk (HOK.out l[k] (List.getElem_mem hlt));have HS:=As0.mk (y7x hlt);have hlen:=y6u (l.take k);have hlen2:(y28 (l.take k)).2.length=k:=by rw [hlen.1,List.length_take];omega
   have HLN:=As0.mk hlen2;clear hlen hlen2;obtain ⟨⟨x,y⟩,hxe⟩:∃ x:Int × Int,x=l[k]:=⟨_,rfl⟩
   rw [← hxe] at hc0 hc2 HX HS;simp only at hc0 hc2;have HXE:=As0.mk hxe;clear hxe;obtain ⟨S,hSe⟩:∃ S,S=(y28 (l.take k)).1:=⟨_,rfl⟩
   obtain ⟨out,hOe⟩:∃ out,out=(y28 (l.take k)).2:=⟨_,rfl⟩
   rw [← hSe] at hN;rw [← hOe] at hO HLN;have HSE:=As0.mk hSe;have HOE:=As0.mk hOe;clear hSe hOe;have HNE:=As0.mk (show u4.ownBlock≠some w.heap.size from by
    intro e;obtain ⟨cells,hc⟩:=y56 hO.out.1 _ e;obtain ⟨_,_,es,clock,hb,_⟩:=hN.out;rw [hc] at hb;cases hb)
   have hb1:=y01 (Below.refl wr.heap.size wr) (.cells #[.int .i64 x,.int .i64 y] 74);have HN1:=As0.mk (hN.out.move (hb1.block _ hN.out.lt));have HO1:=As0.mk (hO.out.below hb1);have HB1:=As0.mk (y04 hB.out hb1);have HBX1:=As0.mk (heap_alloc_new wr (.cells #[.int .i64 x,.int .i64 y] 74));clear hb1;rcases HN1.out.lookup (mt:=119) Tra.underlying119 (zero3 _) HX.out with ⟨hin,hl1⟩|⟨hin,hl1⟩
   ·have hln:=HN1.out.len (mt:=119) (ty:=3) Tra.underlying119
    obtain ⟨w2,hu,hN2,hg2⟩:=HN1.out.update (mt:=119) Tra.underlying119 HX.out hin;have hl2:=hN2.get (mt:=119) Tra.underlying119 (x:=(x,y)) HX.out (by simp);have HN2:=As0.mk hN2;have HIN:=As0.mk (show met S (x,y)=S ++ [(x,y)] from if_neg hin);have HO2:=As0.mk (HO1.out.grown hg2 (.inr HNE.out));have HB2:=As0.mk (HB1.out.grown hg2 HB1.out.size (by intro b hb;injection hb with hb;omega));have hbx2:w2.heap[wr.heap.size]?=some (.cells #[.int .i64 x,.int .i64 y] 74 (0,0)):=(hg2.block _ (y1i HBX1.out) (by intro e;injection e with e;have:=hN.out.lt;omega)).trans HBX1.out;have d0:=y07 hbx2 0;have d1:=y07 hbx2 1;simp only [List.getElem?_toArray,List.getElem?_cons_zero,List.getElem?_cons_succ] at d0 d1;simp only [kPair,pv] at hl1 hu hl2;clear hN2 hg2 hin hbx2;go_wp2_with (first|((with_reducible refine y10 (b:=.append) (xs:=#[.tmp 28,.tmp 32]) rfl ?_);at_builtin;refine y37 w.heap.size rfl (.tmp 28) (.tmp 32) 29 rfl Tra.underlying29 info3 u4 out _ rfl rfl HO2.out HB2.out.size (by have:=HLN.out;have:=HL.out;omega) ?_;intro v3 w3 ho3 hg3 hat3;have HO3:=As0.mk ho3;have HB3:=As0.mk (HB2.out.grown hg3 HB2.out.size (fun k hk=>(HO2.out.lt k hk).1));have HN3:=As0.mk (HN2.out.move (hg3.block _ HN2.out.lt (fun e=>HNE.out e.symm)));clear ho3 hg3 hat3)|fail)
    go_roundw
    case rel =>
     refine ⟨k+1,by go_num,⟨by omega⟩,⟨?_⟩,⟨?_⟩,HB3⟩
     ·rw [HS.out]
      show Named kPair _ _ (met (y28 (l.take k)).1 (x,y));rw [← HSE.out,HIN.out];exact HN3.out
     ·rw [HS.out]
      dsimp only [y2u];rw [← HSE.out,← HOE.out,HIN.out];exact HO3.out
    case measure=>simp [intOf];omega
   ·have hl2:=HN1.out.get (mt:=119) Tra.underlying119 (x:=(x,y)) HX.out hin
    have HIN:=As0.mk (show met S (x,y)=S from if_pos hin);simp only [kPair,pv] at hl1 hl2;clear hin;go_wp2_with (first|((with_reducible refine y10 (b:=.append) (xs:=#[.tmp 28,.tmp 32]) rfl ?_);at_builtin;refine y37 w.heap.size rfl (.tmp 28) (.tmp 32) 29 rfl Tra.underlying29 info3 u4 out _ rfl (by first|rfl|(show Value.slice (some ⟨wr.heap.size+1,0,none⟩) 1 1=_;simp)) HO1.out HB1.out.size (by have:=HLN.out;have:=HL.out;omega) ?_;intro v3 w3 ho3 hg3 hat3;have HO3:=As0.mk ho3;have HB3:=As0.mk (HB1.out.grown hg3 HB1.out.size (fun k hk=>(HO1.out.lt k hk).1));have HN3:=As0.mk (HN1.out.move (hg3.block _ HN1.out.lt (fun e=>HNE.out e.symm)));clear ho3 hg3 hat3)|fail)
    go_roundw
    case rel =>
     refine ⟨k+1,by go_num,⟨by omega⟩,⟨?_⟩,⟨?_⟩,HB3⟩
     ·rw [HS.out]
      show Named kPair _ _ (met (y28 (l.take k)).1 (x,y));rw [← HSE.out,HIN.out];exact HN3.out
     ·rw [HS.out]
      dsimp only [y2u];rw [← HSE.out,← HOE.out,HIN.out];exact HO3.out
    case measure=>simp [intOf];omega
  ·have hke:k=l.length:=by omega
   have HO:=As0.mk (show OwnI wr w.heap.size u4 (numL l) from by have:=hO.out;rwa [hke,List.take_length] at this);clear hke;go_wp2_with fail
   go_ret
   exact ⟨_,rfl,HO.out,hB.out⟩
end
section
attribute [local go_sem] y0x y0v y16 y15 y0q y0p y0w y0u
def y4n (x y:Int) (out:List Int):List Int:=out.map fun z=>if z=x then y else z
def y26 (x y:Int) (out:List Int) (j:Nat):List Int:=y4n x y (out.take j) ++ out.drop j
def y2o (b:List Int) (i k:Nat) (out:List Int):List Int:=if b.getD i 0≠b.getD k 0∨out.getD i 0=out.getD k 0 then out else y4n (out.getD i 0) (out.getD k 0) out
def y3v (b:List Int) (i:Nat):Nat->List Int->List Int
 |0,o=>o
 |k+1,o=>y2o b i k (y3v b i k o)
def y1t (b:List Int):Nat->List Int->List Int
 |0,o=>o
 |i+1,o=>y3v b i i (y1t b i o)
def aboveL (a b:List Int):List Int:=numL (y1t b b.length a)
theorem y3c (x y:Int) (o:List Int):(y4n x y o).length=o.length:=by simp [y4n]
theorem ydn (x y:Int) (o:List Int) (j:Nat):(y26 x y o j).length=o.length:=by simp [y26,y3c];omega
theorem yaq (b:List Int) (i k:Nat) (o:List Int):(y2o b i k o).length=o.length:=by unfold y2o;split<;>simp [y3c]
theorem y5k (b:List Int) (i:Nat):∀ (k:Nat) (o:List Int),(y3v b i k o).length=o.length
 |0,_=>rfl
 |k+1,o=>(yaq b i k _).trans (y5k b i k o)
theorem y2j (b:List Int):∀ (i:Nat) (o:List Int),(y1t b i o).length=o.length
 |0,_=>rfl
 |i+1,o=>(y5k b i i _).trans (y2j b i o)
theorem yb0 (x y:Int) (o:List Int):y26 x y o 0=o:=by simp [y26,y4n]
theorem ydo (x y:Int) (o:List Int):y26 x y o o.length=y4n x y o:=by simp [y26]
theorem y9j (x y:Int) {o:List Int} {j:Nat} (h:j<o.length):(y26 x y o j).getD j 0=o.getD j 0:=by
 have h1:(y4n x y (o.take j)).length=j:=by rw [y3c,List.length_take];omega
 unfold y26;rw [List.getD_eq_getElem?_getD,List.getElem?_append_right (by omega),h1,Nat.sub_self,List.getElem?_drop,List.getD_eq_getElem?_getD,Nat.add_zero]
theorem y66 (x y:Int) {o:List Int} {j:Nat} (h:j<o.length):y26 x y o (j+1)=(y26 x y o j).set j (if o.getD j 0=x then y else o.getD j 0):=by
 have h1:(y4n x y (o.take j)).length=j:=by rw [y3c,List.length_take];omega
 unfold y26;rw [List.set_append,if_neg (by omega),h1,Nat.sub_self,List.drop_eq_getElem_cons h,List.set_cons_zero,List.take_succ_eq_append_getElem h];rw [List.getD_eq_getElem?_getD,List.getElem?_eq_getElem h];unfold y4n;rw [List.map_append,List.append_assoc];rfl
theorem yb1 (x y:Int) {o:List Int} {j:Nat} (h:j<o.length) (hne:o.getD j 0≠x):y26 x y o (j+1)=y26 x y o j:=by
 rw [y66 x y h,if_neg hne,← y9j x y h];have hl:j<(y26 x y o j).length:=by rw [ydn];exact h
 rw [List.getD_eq_getElem?_getD,List.getElem?_eq_getElem hl,Option.getD_some,List.set_getElem_self]
theorem yih {b:List Int} {p:Int->Prop}:∀ {i:Nat} {o:List Int},(∀ x ∈ o,p x)->p 0->∀ x ∈ y1t b i o,p x:=by
 have hg:∀ {o:List Int} (i:Nat),(∀ x ∈ o,p x)->p 0->p (o.getD i 0):=by
  intro o i h h0;rw [List.getD_eq_getElem?_getD];cases hi:o[i]? with
  |none=>exact h0
  |some v=>exact h v (List.mem_of_getElem? hi)
 have hs:∀ {i k:Nat} {o:List Int},(∀ x ∈ o,p x)->p 0->∀ x ∈ y2o b i k o,p x:=by
  intro i k o h h0 x hx;unfold y2o at hx;split at hx
  ·exact h x hx
  ·simp only [y4n,List.mem_map] at hx
   obtain ⟨z,hz,rfl⟩:=hx;split
   ·exact hg k h h0
   ·exact h z hz
 have hi:∀ {i:Nat} (k:Nat) {o:List Int},(∀ x ∈ o,p x)->p 0->∀ x ∈ y3v b i k o,p x:=by
  intro i k
  induction k with
  |zero=>intro o h _;exact h
  |succ k ih=>intro o h h0;exact hs (ih h h0) h0
 intro i
 induction i with
 |zero=>intro o h _;exact h
 |succ i ih=>intro o h h0;exact hi i (ih h h0) h0
theorem above_all (A:Option Addr) (c:Nat) (la:List Int) (B:Option Addr) (cb:Nat) (lb:List Int) (w:World) (hra:Kd.C (Kd.int .i64) w A la.length la) (hrb:Kd.C (Kd.int .i64) w B lb.length lb) (hab:la.length=lb.length) (hok:∀ x ∈ la,In64 x) (hL:la.length<17592186044416) :
  Calls Tra.prog 26 #[.slice A la.length c,.slice B lb.length cb] w fun e w'=>∃ v,e=.returned v∧OwnI w' w.heap.size v (aboveL la lb)∧Below w.heap.size w w':=by
 have HRB:=As0.mk hrb;have HL:=As0.mk hL;have HAB:=As0.mk hab;have HOK:=As0.mk (yih (b:=lb) (i:=lb.length) hok (by unfold In64;omega));have HA:=As0.mk (yc8 A c la w hra hL);clear hra hrb hL hab hok;go_enter Tra.func26,Tra.ntmps26
 go_wp2_with fail
 refine HA.out.mono ?_
 rintro e w1 ⟨v5,rfl,hR5,hB1⟩
 have HR1:=As0.mk hR5;have HB1:=As0.mk hB1;clear hR5 hB1 HA;go_wp2_with fail
 go_loopw [16] (fun v16 W=>∃ i:Nat,v16=.int .i64 i∧As0 (i≤lb.length)∧As0 (Kd.R (Kd.int .i64) 3 W w.heap.size (fun _=>True) v5 (y1t lb i la))∧As0 (Below w.heap.size w W)) (fun v16 _=>(lb.length - intOf v16).toNat)
 case atStart=>exact ⟨0,rfl,⟨Nat.zero_le _⟩,HR1,HB1⟩
 case round =>
  obtain ⟨i,rfl,hi,hR,hB⟩:=hrel;have hi':=hi.out;have hab:=HAB.out;have hLo:lb.length<17592186044416:=by have:=HL.out;omega
  by_cases hlt:i<lb.length
  ·obtain ⟨g,cap,hv,hbg,hgl,_⟩:=Kd.R_form hR.out (by rw [y2j];omega)
   rw [y2j,hab] at hv;subst hv;have HLEN:=As0.mk (y2j lb i la);have HI:=As0.mk hlt;clear hab;go_wp2_with fail
   go_loopw [20] (fun v20 W=>∃ k:Nat,v20=.int .i64 k∧As0 (k≤i)∧As0 (Kd.R (Kd.int .i64) 3 W w.heap.size (fun _=>True) (.slice (some ⟨g,0,none⟩) lb.length cap) (y3v lb i k (y1t lb i la)))∧As0 (Below w.heap.size w W)) (fun v20 _=>(i - intOf v20).toNat)
   case atStart=>exact ⟨0,rfl,⟨Nat.zero_le _⟩,hR,hB⟩
   case round =>
    clear hR hB;obtain ⟨k,rfl,hk,hR,hB⟩:=hrel;have hk':=hk.out
    by_cases hki:k<i
    ·have hkl:k<lb.length:=by omega
     have hln:=y5k lb i k (y1t lb i la);have hln2:=HLEN.out;have hab:=HAB.out;obtain ⟨o,ho⟩:∃ o,o=y3v lb i k (y1t lb i la):=⟨_,rfl⟩
     rw [← ho] at hR hln;have HOE:=As0.mk ho;clear ho;obtain ⟨hci,hfi⟩:=Kd.R_celln 0 hR.out (i:Int) (by omega) (by omega);obtain ⟨hck,hfk⟩:=Kd.R_celln 0 hR.out (k:Int) (by omega) (by omega);obtain ⟨bd,rfl,hbi⟩:=Kd.at_int (Kd.C_below HRB.out hB.out) (i:Int) (by omega) (by omega);obtain ⟨bd',hbe,hbk⟩:=Kd.at_int (Kd.C_below HRB.out hB.out) (k:Int) (by omega) (by omega);injection hbe with hbe
     subst hbe;simp only [Int.toNat_natCast,rdOf,rd] at hci hck hbi hbk;obtain ⟨oi,hoi⟩:∃ x,x=o.getD i 0:=⟨_,rfl⟩
     obtain ⟨ok,hok⟩:∃ x,x=o.getD k 0:=⟨_,rfl⟩
     obtain ⟨bi,hbi'⟩:∃ x,x=lb.getD i 0:=⟨_,rfl⟩
     obtain ⟨bk,hbk'⟩:∃ x,x=lb.getD k 0:=⟨_,rfl⟩
     replace hci:wr.cell? ⟨g,i,none⟩=some (.int .i64 oi):=by rw [hoi];exact hci
     replace hck:wr.cell? ⟨g,k,none⟩=some (.int .i64 ok):=by rw [hok];exact hck
     rw [← hbi'] at hbi;rw [← hbk'] at hbk;have HST:=As0.mk (show y3v lb i (k+1) (y1t lb i la)=if bi≠bk∨oi=ok then o else y4n oi ok o from by rw [hbi',hbk',hoi,hok,HOE.out];rfl);have HOI:=As0.mk hoi;have HOK2:=As0.mk hok;have HLN:=As0.mk (hln.trans hln2);clear hoi hok hbi' hbk' hfi hfk hln hln2
     by_cases hbb:bi=bk
     ·by_cases hoo:oi=ok
      ·subst hbb hoo
       have HST2:=As0.mk (HST.out.trans (if_pos (.inr rfl)));clear HST;go_wp2_with fail
       go_quiet (fail)
       go_wp2_with fail
       go_roundw
       case rel=>exact ⟨k+1,by go_num,⟨by omega⟩,⟨by rw [HST2.out];exact Kd.R_drewN hR.out _⟩,⟨y00 hB.out _⟩⟩
       case measure=>simp [intOf];omega
      ·subst hbb
       have HST2:=As0.mk (HST.out.trans (if_neg (by rintro (h|h);exact h rfl;exact hoo h)));have hoo1:(oi == ok)=false:=beq_eq_false_iff_ne.mpr hoo;clear HST;go_wp2_with fail
       go_quiet (fail)
       have HRq:=As0.mk (Kd.R_drewN hR.out nq);have HBq:=As0.mk (y00 hB.out nq);go_wp2_with fail
       go_quiet (fail)
       have HR0:=As0.mk (show Kd.R (Kd.int .i64) 3 _ w.heap.size (fun _=>True) (.slice (some ⟨g,0,none⟩) lb.length cap) (y26 oi ok o 0) from by rw [yb0];exact Kd.R_drewN HRq.out nq);have HB0:=As0.mk (y00 HBq.out nq);clear hci hck hbi hbk hR hB HRq HBq;go_wp2_with fail
       go_loopw [53] (fun v53 W=>∃ j:Nat,v53=.int .i64 j∧As0 (j≤lb.length)∧As0 (Kd.R (Kd.int .i64) 3 W w.heap.size (fun _=>True) (.slice (some ⟨g,0,none⟩) lb.length cap) (y26 oi ok o j))∧As0 (Below w.heap.size w W)) (fun v53 _=>(lb.length - intOf v53).toNat)
       case atStart=>exact ⟨0,rfl,⟨Nat.zero_le _⟩,⟨by first|exact HR0.out|(have h:=HR0.out;rwa [World.drewN_drewN] at h)⟩,⟨by first|exact HB0.out|(have h:=HB0.out;rwa [World.drewN_drewN] at h)⟩⟩
       case round =>
        clear HR0 HB0;obtain ⟨j,rfl,hj,hR,hB⟩:=hrel;have hj':=hj.out
        by_cases hjl:j<lb.length
        ·have hol:j<o.length:=by have:=HLN.out;have:=HAB.out;omega
         obtain ⟨hcj,hfj⟩:=Kd.R_celln 0 hR.out (j:Int) (by omega) (by omega);simp only [Int.toNat_natCast] at hcj hfj;obtain ⟨oj,hoj⟩:∃ x,x=o.getD j 0:=⟨_,rfl⟩
         replace hcj:wr.cell? ⟨g,j,none⟩=some (.int .i64 oj):=by rw [hoj,← y9j oi ok hol];exact hcj
         by_cases hjo:oj=oi
         ·have HP:=Kd.R_putn hR.out (j:Int) ok
          rw [Int.toNat_natCast,show (y26 oi ok o j).set j ok=y26 oi ok o (j+1) from by rw [y66 oi ok hol,← hoj,if_pos hjo]] at HP;have HP2:=As0.mk HP;have HB2:=As0.mk (hB.out.setCell (p:=⟨g,j,none⟩) hbg (.int .i64 ok));subst hjo;clear HP hoj hol;go_wp2_with fail
          go_roundw
          case rel=>exact ⟨j+1,by go_num,⟨by omega⟩,HP2,HB2⟩
          case measure=>simp [intOf];omega
         ·have HP2:=As0.mk (show Kd.R (Kd.int .i64) 3 wr w.heap.size (fun _=>True) (.slice (some ⟨g,0,none⟩) lb.length cap) (y26 oi ok o (j+1)) from by rw [yb1 oi ok hol (by rw [← hoj];exact hjo)];exact hR.out)
          have hjo1:(oj == oi)=false:=beq_eq_false_iff_ne.mpr hjo;clear hoj hol;go_wp2_with fail
          go_roundw
          case rel=>exact ⟨j+1,by go_num,⟨by omega⟩,HP2,hB⟩
          case measure=>simp [intOf];omega
        ·have hje:j=lb.length:=by omega
         have HRn:=As0.mk (show Kd.R (Kd.int .i64) 3 wr w.heap.size (fun _=>True) (.slice (some ⟨g,0,none⟩) lb.length cap) (y3v lb i (k+1) (y1t lb i la)) from by
          rw [HST2.out,← ydo,HLN.out,HAB.out];have h:=hR.out;rw [hje] at h;exact h)
         clear hje;go_wp2_with fail
         go_roundw
         case rel=>exact ⟨k+1,by go_num,⟨by omega⟩,HRn,hB⟩
         case measure=>simp [intOf];omega
     ·have HST2:=As0.mk (HST.out.trans (if_pos (.inl hbb)))
      have hbb1:(bi == bk)=false:=beq_eq_false_iff_ne.mpr hbb;have hbb2:(bi != bk)=true:=bne_iff_ne.mpr hbb;clear HST;go_wp2_with fail
      go_quiet (fail)
      go_wp2_with fail
      go_roundw
      case rel=>exact ⟨k+1,by go_num,⟨by omega⟩,⟨by rw [HST2.out];exact Kd.R_drewN hR.out _⟩,⟨y00 hB.out _⟩⟩
      case measure=>simp [intOf];omega
    ·have hke:k=i:=by omega
     have HRn:=As0.mk (show Kd.R (Kd.int .i64) 3 wr w.heap.size (fun _=>True) (.slice (some ⟨g,0,none⟩) lb.length cap) (y1t lb (i+1) la) from by have:=hR.out;rw [hke] at this;exact this);clear hke;go_wp2_with fail
     have hii:=HI.out
     go_roundw
     case rel=>exact ⟨i+1,by go_num,⟨by have:=HI.out;omega⟩,HRn,hB⟩
     case measure=>have:=HI.out;simp [intOf];omega
  ·have hke:i=lb.length:=by omega
   have HR:=As0.mk (show Kd.R (Kd.int .i64) 3 wr w.heap.size (fun _=>True) v5 (y1t lb lb.length la) from hke ▸ hR.out);clear hke;obtain ⟨Ao,co,rfl,hco,hC⟩:=Kd.R_reads HR.out;have HN:=As0.mk (ygf Ao co _ wr hC HOK.out (by rw [y2j];exact HL.out));clear hC;go_wp2_with fail
   refine HN.out.mono ?_
   rintro e w2 ⟨v,rfl,hO,hb⟩
   have HO:=As0.mk (hO.lower hB.out.size);have HB2:=As0.mk (y04 hB.out hb);clear hO hb HN;go_wp2_with fail
   go_ret
   exact ⟨_,rfl,HO.out,HB2.out⟩
end
end Go.Proofs.Ytfgcijifdbgpaaa.Ext
namespace Go.Proofs.Ytfgcijifdbgpaaa.Q
open Go.RowKit Go.Proofs.YtfgcijifdbgpaaaW.Wd Go.Proofs.YtfgcijifdbgpaaaW.La Go.Proofs.YtfgcijifdbgpaaaW.Mo
section
attribute [local go_sem] y0x y0v y16 y15 y0q y0p y0w y0u
def errW:Option Int->Value
 |none=>.nilIface
 |some c=>.iface 0 (.int .i64 c)
theorem errW_none:errW none=.nilIface:=rfl
theorem errW_some (c:Int):errW (some c)=.iface 0 (.int .i64 c):=rfl
end
section
attribute [local go_sem] y0x y0v y16 y15 y0q y0p y0w y0u
def ambush_letter.f (a0:Int):Option (ByteArray):=if 0≤a0 then (if a0≤(wrap64 (a0+1)) then (if (wrap64 (a0+1))≤3 then (some ((⟨#[32,119,100]⟩:ByteArray).extract (a0:Int).toNat ((wrap64 (a0+1)):Int).toNat)) else (none)) else (none)) else (none)
theorem ambush_letter.calls (a0:Int) (r:ByteArray) (w:World) (h:ambush_letter.f a0=some r) :
  Calls Tra.prog 58 #[.int .i64 a0] w fun e w'=>e=.returned (.string r)∧Drawn0 w w':=by
 have H:(if 0≤a0 then (if a0≤(wrap64 (a0+1)) then (if (wrap64 (a0+1))≤3 then (some ((⟨#[32,119,100]⟩:ByteArray).extract (a0:Int).toNat ((wrap64 (a0+1)):Int).toNat)) else (none)) else (none)) else (none))=some r:=h;clear h
 by_cases c2:0≤a0
 ·rw [if_pos c2] at H
  have c2b0:=eq_true c2;have c2b1:decide (0≤a0)=true:=zDt c2;clear c2
  by_cases c3:a0≤(wrap64 (a0+1))
  ·rw [if_pos c3] at H
   have c3b0:=eq_true c3;have c3b1:decide (a0≤(wrap64 (a0+1)))=true:=zDt c3
   by_cases c4:(wrap64 (a0+1))≤3
   ·rw [if_pos c4] at H
    have c4b0:=eq_true c4;have c4b1:decide ((wrap64 (a0+1))≤3)=true:=zDt c4;obtain rfl:=zSi H;go_enter Tra.func58,Tra.ntmps58
    go_wp2
    go_ret
    exact ⟨by first|rfl|(simp;done)|(simp [*];done),by repeat (first|exact Drawn0.refl _|apply Drawn0.step)⟩
   ·rw [if_neg c4] at H
    exact absurd H (by simp)
  ·rw [if_neg c3] at H
   exact absurd H (by simp)
 ·rw [if_neg c2] at H
  exact absurd H (by simp)
def ambush_position_after.f (a0_0:Int) (a0_1:Int) (a1:Int) (a2:Int):Option (Int × Int):=if a1=1 then (if 0≤a2 then (some (Go.bits .or .i64 a0_0 (shl .i64 1 a2),a0_1)) else (none)) else (if 0≤a2 then (some (a0_0,Go.bits .or .i64 a0_1 (shl .i64 1 a2))) else (none))
theorem ambush_position_after.calls (a0_0:Int) (a0_1:Int) (a1:Int) (a2:Int) (r1:Int) (r2:Int) (w:World) (h:ambush_position_after.f a0_0 a0_1 a1 a2=some (r1,r2)) :
  Calls Tra.prog 73 #[.agg #[.int .i64 a0_0,.int .i64 a0_1],.int .i64 a1,.int .i64 a2] w fun e w'=>e=.returned (.agg #[.int .i64 r1,.int .i64 r2])∧Below w.heap.size w w':=by
 have hu102:=Tra.underlying102;have HB:=As0.mk (Below.refl w.heap.size w);have H:(if a1=1 then (if 0≤a2 then (some (Go.bits .or .i64 a0_0 (shl .i64 1 a2),a0_1)) else (none)) else (if 0≤a2 then (some (a0_0,Go.bits .or .i64 a0_1 (shl .i64 1 a2))) else (none)))=some (r1,r2):=h;clear h
 by_cases c4:a1=1
 ·rw [if_pos c4] at H
  have c4b0:(a1 == 1)=true:=beq_iff_eq.mpr c4;have c4b1:(a1 != 1)=false:=bne_eq_false_iff_eq.mpr c4;clear c4
  by_cases c5:0≤a2
  ·rw [if_pos c5] at H
   have c5b0:=eq_true c5;have c5b1:decide (0≤a2)=true:=zDt c5;clear c5;obtain ⟨ji6,hji6⟩:∃ j_:Int,(shl .i64 1 a2)=j_:=⟨_,rfl⟩
   replace H:(some (Go.bits .or .i64 a0_0 (ji6),a0_1))=some (r1,r2):=by first|(rw [hji6] at H;exact H)|(simp only [hji6] at H ⊢;exact H)
   have hji6_:(IntKind.i64.wrap (1 * 2 ^ min a2.toNat 64))=ji6:=hji6;have hji6z:a2≤64->(IntKind.i64.wrap (1 * 2 ^ a2.toNat))=ji6:=y69 hji6;have hji6u:(IntKind.i64.wrap (2 ^ min a2.toNat 64))=ji6:=by have h_:=hji6_;rw [Int.one_mul] at h_;exact h_
   have hji6v:a2≤64->(IntKind.i64.wrap (2 ^ a2.toNat))=ji6:=fun hle_=>by have h_:=hji6z hle_;rw [Int.one_mul] at h_;exact h_
   have hji6y:(wrap64 (1 * 2 ^ min a2.toNat 64))=ji6:=(y0a _).symm.trans hji6_;have hji6x:a2≤64->(wrap64 (1 * 2 ^ a2.toNat))=ji6:=fun h_=>(y0a _).symm.trans (hji6z h_)
   simp only [Option.some.injEq,Prod.mk.injEq] at H;obtain ⟨rfl,rfl⟩:=H;go_enter Tra.func73,Tra.ntmps73
   try go_wp2_with (first|((with_reducible refine y0s (N:=3) rfl ?_);refine y19 ?hg (N:=3) ?hd (cs:=#[.int .i64 a0_0,.int .i64 a0_1]) (t:=102) ?hr ?_;(case hd=>rfl);(case hg=>rfl);(case hr=>first|(go_simp;done)|(go_simp;rfl));intro gb101 hg w7 hbox hb;have n0_:=As0.mk (y04 (by repeat (with_reducible first|exact HB.out|apply y01|apply y00|apply y02)) hb);have n1_:=As0.mk (hbox);have n2_:=As0.mk ((by rw [hg];exact (y05 (by repeat (with_reducible first|exact HB.out|apply y01|apply y00|apply y02))):w.heap.size≤gb101));have n3_:=As0.mk ((by rw [hg];exact (y05 (by repeat (with_reducible first|exact HB.out|apply y01|apply y00|apply y02))):w.heap.size≤gb101));clear HB;have HB:=n0_;have BK101:=n1_;have GW101:=n2_;have GE101:=n3_;clear n0_ n1_ n2_ n3_;clear hb hbox hg)|((with_reducible refine y0s (N:=6) rfl ?_);refine y19 ?hg (N:=6) ?hd (cs:=#[.int .i64 0,.int .i64 0]) (t:=102) ?hr ?_;(case hd=>rfl);(case hg=>rfl);(case hr=>first|(go_simp;done)|(go_simp;rfl));intro gb102 hg w8 hbox hb;have n0_:=As0.mk (y0r (g:=gb101) (o:=.cells #[.int .i64 a0_0,.int .i64 a0_1] 102 (0,0)) (by (with_reducible repeat (first|refine y0f ?_ _|refine y0h ?_|refine y0d ?_ _));exact BK101.out) hb);have n1_:=As0.mk (y04 (by repeat (with_reducible first|exact HB.out|apply y01|apply y00|apply y02|refine y0j ?_ GE101.out)) hb);have n2_:=As0.mk (hbox);have n3_:=As0.mk ((by rw [hg];exact (y05 (by repeat (with_reducible first|exact HB.out|apply y01|apply y00|apply y02|refine y0j ?_ GE101.out))):w.heap.size≤gb102));have n4_:=As0.mk ((by rw [hg];exact (y05 (by repeat (with_reducible first|exact HB.out|apply y01|apply y00|apply y02|refine y0j ?_ GE101.out))):w.heap.size≤gb102));have n5_:=As0.mk ((by rw [hg];exact Nat.ne_of_lt (y1i (g:=gb101) (o:=.cells #[.int .i64 a0_0,.int .i64 a0_1] 102 (0,0)) (by (with_reducible repeat (first|refine y0f ?_ _|refine y0h ?_|refine y0d ?_ _));exact BK101.out)):gb101≠gb102));have n6_:=As0.mk ((by rw [hg];exact Nat.ne_of_gt (y1i (g:=gb101) (o:=.cells #[.int .i64 a0_0,.int .i64 a0_1] 102 (0,0)) (by (with_reducible repeat (first|refine y0f ?_ _|refine y0h ?_|refine y0d ?_ _));exact BK101.out)):gb102≠gb101));clear BK101;clear HB;have BK101:=n0_;have HB:=n1_;have BK102:=n2_;have GW102:=n3_;have GE102:=n4_;have NB101_102:=n5_;have NB102_101:=n6_;clear n0_ n1_ n2_ n3_ n4_ n5_ n6_;clear hb hbox hg))
   have n0_:=As0.mk (y0h BK101.out);have n1_:=As0.mk (y0h BK102.out);have n2_:=As0.mk (y02 HB.out);clear BK101;clear BK102;clear HB;have BK101:=n0_;have BK102:=n1_;have HB:=n2_;clear n0_ n1_ n2_;refine y2d (n:=7) (S:=fun w'=>w'.cell? ⟨gb101,0,none⟩=some (.int .i64 a0_0)∧w'.cell? ⟨gb101,1,none⟩=some (.int .i64 a0_1)) (ds:=[6]) #[false,false,false,false,false,false,false] (by kernel_rfl) rfl rfl ⟨(y07 BK101.out 0).trans rfl,(y07 BK101.out 1).trans rfl⟩ (fun hHeld=>?_);generalize w8.drew=w9 at BK101 BK102 HB hHeld ⊢;refine y0e (i:=0) (N:=some 9) (v:=?_) (a':=?_) #[true,false,false,false,false,false,false] rfl rfl (by kernel_rfl) (fun _ _ _ h=>h) (Or.inl ⟨by rfl,?_⟩) ?_ ?_;rotate_left
   ·intro w'
    go_simp
    with_reducible rfl
   rotate_left
   ·simp only [Act.put,List.setIfInBounds_toArray,List.set_cons_zero,List.set_cons_succ,y0a,y0b]
    rfl
   refine y0e (i:=2) (N:=some 11) (v:=?_) (a':=?_) #[true,false,true,false,false,false,false] rfl rfl (by kernel_rfl) (fun _ _ _ h=>h) (Or.inl ⟨by rfl,?_⟩) ?_ ?_;rotate_left
   ·intro w'
    go_simp
    with_reducible rfl
   rotate_left
   ·simp only [Act.put,List.setIfInBounds_toArray,List.set_cons_zero,List.set_cons_succ,y0a,y0b]
    rfl
   refine y0e (i:=3) (N:=some 12) (v:=?_) (a':=?_) #[true,false,true,true,false,false,false] rfl rfl (by kernel_rfl) (fun _ _ _ h=>h) (Or.inl ⟨by rfl,?_⟩) ?_ ?_;rotate_left
   ·intro w'
    go_simp
    with_reducible rfl
   rotate_left
   ·simp only [Act.put,List.setIfInBounds_toArray,List.set_cons_zero,List.set_cons_succ,y0a,y0b]
    rfl
   refine y1l (i:=1) (N:=some 10) (v:=?_) (a':=?_) #[true,true,true,true,false,false,false] rfl rfl (by kernel_rfl) (fun _ _ _ h=>h) (Or.inl ⟨by rfl,?_⟩) hHeld ?_ ?_;rotate_left
   ·rintro w' ⟨s0,s1⟩
    go_simp
    with_reducible rfl
   rotate_left
   ·simp only [Act.put,List.setIfInBounds_toArray,List.set_cons_zero,List.set_cons_succ,y0a,y0b]
    rfl
   refine y0e (i:=4) (N:=some 13) (v:=?_) (a':=?_) #[true,true,true,true,true,false,false] rfl rfl (by kernel_rfl) (fun _ _ _ h=>h) (Or.inl ⟨by rfl,?_⟩) ?_ ?_;rotate_left
   ·intro w'
    go_simp
    with_reducible rfl
   rotate_left
   ·simp only [Act.put,List.setIfInBounds_toArray,List.set_cons_zero,List.set_cons_succ,y0a,y0b]
    rfl
   refine y0e (i:=5) (N:=some 14) (v:=?_) (a':=?_) #[true,true,true,true,true,true,false] rfl rfl (by kernel_rfl) (fun _ _ _ h=>h) (Or.inl ⟨by rfl,?_⟩) ?_ ?_;rotate_left
   ·intro w'
    go_simp
    with_reducible rfl
   rotate_left
   ·simp only [Act.put,List.setIfInBounds_toArray,List.set_cons_zero,List.set_cons_succ,y0a,y0b]
    rfl
   refine y7h (i:=6) (N:=none) #[true,true,true,true,true,true,true] rfl rfl (by kernel_rfl) (by decide) (fun K hK=>?_);have hs10:w9.cell? ⟨gb101,0,none⟩=some (.int .i64 a0_0):=(y07 BK101.out 0).trans rfl;have hfs10:=y09 BK101.out 0;have hns10_1:=NB102_101.out;have hms10_1:=NB101_102.out;refine y5w (w1:=?_) (by rfl) rfl ?_ ?_;rotate_left
   ·go_simp
    rfl
   refine hK.out _ _ ?_;clear hK K;refine y3x (by kernel_rfl) ?_;have hnb11:=NB101_102.out;have hnc11:=NB102_101.out;have hcz12_0:w9.cell? ⟨gb101,0,none⟩=some (.int .i64 a0_0):=(y07 BK101.out 0).trans rfl;have hcz12_1:w9.cell? ⟨gb101,1,none⟩=some (.int .i64 a0_1):=(y07 BK101.out 1).trans rfl;have hfz12_0:=y09 BK101.out 0;have hfz12_1:=y09 BK101.out 1;have hcz13_0:w9.cell? ⟨gb102,0,none⟩=some (.int .i64 0):=(y07 BK102.out 0).trans rfl;have hcz13_1:w9.cell? ⟨gb102,1,none⟩=some (.int .i64 0):=(y07 BK102.out 1).trans rfl;have hfz13_0:=y09 BK102.out 0;have hfz13_1:=y09 BK102.out 1
   try go_wp2
   refine bodyPost_ret (results_cell_row rfl _ _ gb102 102 #[.int .i64 (Go.bits .or .i64 a0_0 (ji6)),.int .i64 a0_1] (0,0) _ rfl (by (with_reducible repeat (first|refine y0f ?_ _|refine y0h ?_|refine y0d ?_ _));refine y0y (cs:=#[.int .i64 (Go.bits .or .i64 a0_0 (ji6)),.int .i64 0]) ?_ 1 _ rfl;(with_reducible repeat (first|refine y0f ?_ _|refine y0h ?_|refine y0d ?_ _));refine y0y (cs:=#[.int .i64 0,.int .i64 0]) ?_ 0 _ rfl;(with_reducible repeat (first|refine y0f ?_ _|refine y0h ?_|refine y0d ?_ _));refine y1b ?_ NB102_101.out _;(with_reducible repeat (first|refine y0f ?_ _|refine y0h ?_|refine y0d ?_ _));exact BK102.out) Tra.underlying102 rfl (by kernel_rfl)) rfl ?_;exact ⟨by first|rfl|(simp [errW_none,errW_some]<;>rfl)|(simp only [← hji6];first|rfl|(simp [errW_none,errW_some]<;>rfl))|(simp [*,errW_none,errW_some]<;>rfl),by repeat (with_reducible first|exact HB.out|apply y01|apply y00|apply y02|refine y0j ?_ GE101.out|refine y0j ?_ GE102.out)⟩
  ·rw [if_neg c5] at H
   exact absurd H (by simp)
 ·rw [if_neg c4] at H
  have c4b0:(a1 == 1)=false:=beq_eq_false_iff_ne.mpr c4;have c4b1:(a1 != 1)=true:=bne_iff_ne.mpr c4
  by_cases c14:0≤a2
  ·rw [if_pos c14] at H
   have c14b0:=eq_true c14;have c14b1:decide (0≤a2)=true:=zDt c14;clear c14;obtain ⟨ji15,hji15⟩:∃ j_:Int,(shl .i64 1 a2)=j_:=⟨_,rfl⟩
   replace H:(some (a0_0,Go.bits .or .i64 a0_1 (ji15)))=some (r1,r2):=by first|(rw [hji15] at H;exact H)|(simp only [hji15] at H ⊢;exact H)
   have hji15_:(IntKind.i64.wrap (1 * 2 ^ min a2.toNat 64))=ji15:=hji15;have hji15z:a2≤64->(IntKind.i64.wrap (1 * 2 ^ a2.toNat))=ji15:=y69 hji15;have hji15u:(IntKind.i64.wrap (2 ^ min a2.toNat 64))=ji15:=by have h_:=hji15_;rw [Int.one_mul] at h_;exact h_
   have hji15v:a2≤64->(IntKind.i64.wrap (2 ^ a2.toNat))=ji15:=fun hle_=>by have h_:=hji15z hle_;rw [Int.one_mul] at h_;exact h_
   have hji15y:(wrap64 (1 * 2 ^ min a2.toNat 64))=ji15:=(y0a _).symm.trans hji15_;have hji15x:a2≤64->(wrap64 (1 * 2 ^ a2.toNat))=ji15:=fun h_=>(y0a _).symm.trans (hji15z h_)
   simp only [Option.some.injEq,Prod.mk.injEq] at H;obtain ⟨rfl,rfl⟩:=H;go_enter Tra.func73,Tra.ntmps73
   try go_wp2_with (first|((with_reducible refine y0s (N:=3) rfl ?_);refine y19 ?hg (N:=3) ?hd (cs:=#[.int .i64 a0_0,.int .i64 a0_1]) (t:=102) ?hr ?_;(case hd=>rfl);(case hg=>rfl);(case hr=>first|(go_simp;done)|(go_simp;rfl));intro gb101 hg w16 hbox hb;have n0_:=As0.mk (y04 (by repeat (with_reducible first|exact HB.out|apply y01|apply y00|apply y02)) hb);have n1_:=As0.mk (hbox);have n2_:=As0.mk ((by rw [hg];exact (y05 (by repeat (with_reducible first|exact HB.out|apply y01|apply y00|apply y02))):w.heap.size≤gb101));have n3_:=As0.mk ((by rw [hg];exact (y05 (by repeat (with_reducible first|exact HB.out|apply y01|apply y00|apply y02))):w.heap.size≤gb101));clear HB;have HB:=n0_;have BK101:=n1_;have GW101:=n2_;have GE101:=n3_;clear n0_ n1_ n2_ n3_;clear hb hbox hg)|((with_reducible refine y0s (N:=6) rfl ?_);refine y19 ?hg (N:=6) ?hd (cs:=#[.int .i64 0,.int .i64 0]) (t:=102) ?hr ?_;(case hd=>rfl);(case hg=>rfl);(case hr=>first|(go_simp;done)|(go_simp;rfl));intro gb102 hg w17 hbox hb;have n0_:=As0.mk (y0r (g:=gb101) (o:=.cells #[.int .i64 a0_0,.int .i64 a0_1] 102 (0,0)) (by (with_reducible repeat (first|refine y0f ?_ _|refine y0h ?_|refine y0d ?_ _));exact BK101.out) hb);have n1_:=As0.mk (y04 (by repeat (with_reducible first|exact HB.out|apply y01|apply y00|apply y02|refine y0j ?_ GE101.out)) hb);have n2_:=As0.mk (hbox);have n3_:=As0.mk ((by rw [hg];exact (y05 (by repeat (with_reducible first|exact HB.out|apply y01|apply y00|apply y02|refine y0j ?_ GE101.out))):w.heap.size≤gb102));have n4_:=As0.mk ((by rw [hg];exact (y05 (by repeat (with_reducible first|exact HB.out|apply y01|apply y00|apply y02|refine y0j ?_ GE101.out))):w.heap.size≤gb102));have n5_:=As0.mk ((by rw [hg];exact Nat.ne_of_lt (y1i (g:=gb101) (o:=.cells #[.int .i64 a0_0,.int .i64 a0_1] 102 (0,0)) (by (with_reducible repeat (first|refine y0f ?_ _|refine y0h ?_|refine y0d ?_ _));exact BK101.out)):gb101≠gb102));have n6_:=As0.mk ((by rw [hg];exact Nat.ne_of_gt (y1i (g:=gb101) (o:=.cells #[.int .i64 a0_0,.int .i64 a0_1] 102 (0,0)) (by (with_reducible repeat (first|refine y0f ?_ _|refine y0h ?_|refine y0d ?_ _));exact BK101.out)):gb102≠gb101));clear BK101;clear HB;have BK101:=n0_;have HB:=n1_;have BK102:=n2_;have GW102:=n3_;have GE102:=n4_;have NB101_102:=n5_;have NB102_101:=n6_;clear n0_ n1_ n2_ n3_ n4_ n5_ n6_;clear hb hbox hg))
   have n0_:=As0.mk (y0h BK101.out);have n1_:=As0.mk (y0h BK102.out);have n2_:=As0.mk (y02 HB.out);clear BK101;clear BK102;clear HB;have BK101:=n0_;have BK102:=n1_;have HB:=n2_;clear n0_ n1_ n2_;refine y2d (n:=7) (S:=fun w'=>w'.cell? ⟨gb101,0,none⟩=some (.int .i64 a0_0)∧w'.cell? ⟨gb101,1,none⟩=some (.int .i64 a0_1)) (ds:=[6]) #[false,false,false,false,false,false,false] (by kernel_rfl) rfl rfl ⟨(y07 BK101.out 0).trans rfl,(y07 BK101.out 1).trans rfl⟩ (fun hHeld=>?_);generalize w17.drew=w18 at BK101 BK102 HB hHeld ⊢;refine y0e (i:=0) (N:=some 15) (v:=?_) (a':=?_) #[true,false,false,false,false,false,false] rfl rfl (by kernel_rfl) (fun _ _ _ h=>h) (Or.inl ⟨by rfl,?_⟩) ?_ ?_;rotate_left
   ·intro w'
    go_simp
    with_reducible rfl
   rotate_left
   ·simp only [Act.put,List.setIfInBounds_toArray,List.set_cons_zero,List.set_cons_succ,y0a,y0b]
    rfl
   refine y0e (i:=2) (N:=some 17) (v:=?_) (a':=?_) #[true,false,true,false,false,false,false] rfl rfl (by kernel_rfl) (fun _ _ _ h=>h) (Or.inl ⟨by rfl,?_⟩) ?_ ?_;rotate_left
   ·intro w'
    go_simp
    with_reducible rfl
   rotate_left
   ·simp only [Act.put,List.setIfInBounds_toArray,List.set_cons_zero,List.set_cons_succ,y0a,y0b]
    rfl
   refine y0e (i:=3) (N:=some 18) (v:=?_) (a':=?_) #[true,false,true,true,false,false,false] rfl rfl (by kernel_rfl) (fun _ _ _ h=>h) (Or.inl ⟨by rfl,?_⟩) ?_ ?_;rotate_left
   ·intro w'
    go_simp
    with_reducible rfl
   rotate_left
   ·simp only [Act.put,List.setIfInBounds_toArray,List.set_cons_zero,List.set_cons_succ,y0a,y0b]
    rfl
   refine y1l (i:=1) (N:=some 16) (v:=?_) (a':=?_) #[true,true,true,true,false,false,false] rfl rfl (by kernel_rfl) (fun _ _ _ h=>h) (Or.inl ⟨by rfl,?_⟩) hHeld ?_ ?_;rotate_left
   ·rintro w' ⟨s0,s1⟩
    go_simp
    with_reducible rfl
   rotate_left
   ·simp only [Act.put,List.setIfInBounds_toArray,List.set_cons_zero,List.set_cons_succ,y0a,y0b]
    rfl
   refine y0e (i:=4) (N:=some 19) (v:=?_) (a':=?_) #[true,true,true,true,true,false,false] rfl rfl (by kernel_rfl) (fun _ _ _ h=>h) (Or.inl ⟨by rfl,?_⟩) ?_ ?_;rotate_left
   ·intro w'
    go_simp
    with_reducible rfl
   rotate_left
   ·simp only [Act.put,List.setIfInBounds_toArray,List.set_cons_zero,List.set_cons_succ,y0a,y0b]
    rfl
   refine y0e (i:=5) (N:=some 20) (v:=?_) (a':=?_) #[true,true,true,true,true,true,false] rfl rfl (by kernel_rfl) (fun _ _ _ h=>h) (Or.inl ⟨by rfl,?_⟩) ?_ ?_;rotate_left
   ·intro w'
    go_simp
    with_reducible rfl
   rotate_left
   ·simp only [Act.put,List.setIfInBounds_toArray,List.set_cons_zero,List.set_cons_succ,y0a,y0b]
    rfl
   refine y7h (i:=6) (N:=none) #[true,true,true,true,true,true,true] rfl rfl (by kernel_rfl) (by decide) (fun K hK=>?_);have hs19:w18.cell? ⟨gb101,1,none⟩=some (.int .i64 a0_1):=(y07 BK101.out 1).trans rfl;have hfs19:=y09 BK101.out 1;have hns19_1:=NB102_101.out;have hms19_1:=NB101_102.out;refine y5w (w1:=?_) (by rfl) rfl ?_ ?_;rotate_left
   ·go_simp
    rfl
   refine hK.out _ _ ?_;clear hK K;refine y3x (by kernel_rfl) ?_;have hnb20:=NB101_102.out;have hnc20:=NB102_101.out;have hcz21_0:w18.cell? ⟨gb101,0,none⟩=some (.int .i64 a0_0):=(y07 BK101.out 0).trans rfl;have hcz21_1:w18.cell? ⟨gb101,1,none⟩=some (.int .i64 a0_1):=(y07 BK101.out 1).trans rfl;have hfz21_0:=y09 BK101.out 0;have hfz21_1:=y09 BK101.out 1;have hcz22_0:w18.cell? ⟨gb102,0,none⟩=some (.int .i64 0):=(y07 BK102.out 0).trans rfl;have hcz22_1:w18.cell? ⟨gb102,1,none⟩=some (.int .i64 0):=(y07 BK102.out 1).trans rfl;have hfz22_0:=y09 BK102.out 0;have hfz22_1:=y09 BK102.out 1
   try go_wp2
   refine bodyPost_ret (results_cell_row rfl _ _ gb102 102 #[.int .i64 a0_0,.int .i64 (Go.bits .or .i64 a0_1 (ji15))] (0,0) _ rfl (by (with_reducible repeat (first|refine y0f ?_ _|refine y0h ?_|refine y0d ?_ _));refine y0y (cs:=#[.int .i64 a0_0,.int .i64 0]) ?_ 1 _ rfl;(with_reducible repeat (first|refine y0f ?_ _|refine y0h ?_|refine y0d ?_ _));refine y0y (cs:=#[.int .i64 0,.int .i64 0]) ?_ 0 _ rfl;(with_reducible repeat (first|refine y0f ?_ _|refine y0h ?_|refine y0d ?_ _));refine y1b ?_ NB102_101.out _;(with_reducible repeat (first|refine y0f ?_ _|refine y0h ?_|refine y0d ?_ _));exact BK102.out) Tra.underlying102 rfl (by kernel_rfl)) rfl ?_;exact ⟨by first|rfl|(simp [errW_none,errW_some]<;>rfl)|(simp only [← hji15];first|rfl|(simp [errW_none,errW_some]<;>rfl))|(simp [*,errW_none,errW_some]<;>rfl),by repeat (with_reducible first|exact HB.out|apply y01|apply y00|apply y02|refine y0j ?_ GE101.out|refine y0j ?_ GE102.out)⟩
  ·rw [if_neg c14] at H
   exact absurd H (by simp)
def ambush_field_free.f (a0_0:Int) (l0_1:List Int) (a1_0:Int) (a1_1:Int):Option (Int):=if 0≤a0_0 then (some (Go.bits .andNot .i64 (wrap64 ((shl .i64 1 a0_0) - 1)) (Go.bits .or .i64 a1_0 a1_1))) else (none)
theorem ambush_field_free.calls (a0_0:Int) (A0_1:Option Addr) (c0_1:Nat) (l0_1:List Int) (a1_0:Int) (a1_1:Int) (r:Int) (w:World) (hr0_1:Kd.C (Kd.int .i64) w A0_1 l0_1.length l0_1) (hc0_1:l0_1.length≤c0_1) (h:ambush_field_free.f a0_0 l0_1 a1_0 a1_1=some r) :
  Calls Tra.prog 71 #[.agg #[.int .i64 a0_0,.slice A0_1 l0_1.length c0_1],.agg #[.int .i64 a1_0,.int .i64 a1_1]] w fun e w'=>e=.returned (.int .i64 r)∧Below w.heap.size w w':=by
 have hu100:=Tra.underlying100;have hu102:=Tra.underlying102;have HR0_1:=As0.mk hr0_1;have HC0_1:=As0.mk hc0_1;clear hr0_1 hc0_1;have HB:=As0.mk (Below.refl w.heap.size w);have H:(if 0≤a0_0 then (some (Go.bits .andNot .i64 (wrap64 ((shl .i64 1 a0_0) - 1)) (Go.bits .or .i64 a1_0 a1_1))) else (none))=some r:=h;clear h
 by_cases c3:0≤a0_0
 ·rw [if_pos c3] at H
  have c3b0:=eq_true c3;have c3b1:decide (0≤a0_0)=true:=zDt c3;clear c3;obtain ⟨ji4,hji4⟩:∃ j_:Int,(shl .i64 1 a0_0)=j_:=⟨_,rfl⟩
  replace H:(some (Go.bits .andNot .i64 (wrap64 ((ji4) - 1)) (Go.bits .or .i64 a1_0 a1_1)))=some r:=by first|(rw [hji4] at H;exact H)|(simp only [hji4] at H ⊢;exact H)
  have hji4_:(IntKind.i64.wrap (1 * 2 ^ min a0_0.toNat 64))=ji4:=hji4;have hji4z:a0_0≤64->(IntKind.i64.wrap (1 * 2 ^ a0_0.toNat))=ji4:=y69 hji4;have hji4u:(IntKind.i64.wrap (2 ^ min a0_0.toNat 64))=ji4:=by have h_:=hji4_;rw [Int.one_mul] at h_;exact h_
  have hji4v:a0_0≤64->(IntKind.i64.wrap (2 ^ a0_0.toNat))=ji4:=fun hle_=>by have h_:=hji4z hle_;rw [Int.one_mul] at h_;exact h_
  have hji4y:(wrap64 (1 * 2 ^ min a0_0.toNat 64))=ji4:=(y0a _).symm.trans hji4_;have hji4x:a0_0≤64->(wrap64 (1 * 2 ^ a0_0.toNat))=ji4:=fun h_=>(y0a _).symm.trans (hji4z h_)
  obtain rfl:=zSi H;go_enter Tra.func71,Tra.ntmps71
  go_wp2_with (first|((with_reducible refine y0s (N:=2) rfl ?_);refine y19 ?hg (N:=2) ?hd (cs:=#[.int .i64 a0_0,.slice A0_1 l0_1.length c0_1]) (t:=100) ?hr ?_;(case hd=>rfl);(case hg=>rfl);(case hr=>first|(go_simp;done)|(go_simp;rfl));intro gb103 hg w5 hbox hb;have n0_:=As0.mk (y04 (by repeat (with_reducible first|exact HB.out|apply y01|apply y00|apply y02)) hb);have n1_:=As0.mk (hbox);have n2_:=As0.mk ((by rw [hg];exact (y05 (by repeat (with_reducible first|exact HB.out|apply y01|apply y00|apply y02))):w.heap.size≤gb103));have n3_:=As0.mk ((by rw [hg];exact (y05 (by repeat (with_reducible first|exact HB.out|apply y01|apply y00|apply y02))):w.heap.size≤gb103));clear HB;have HB:=n0_;have BK103:=n1_;have GW103:=n2_;have GE103:=n3_;clear n0_ n1_ n2_ n3_;clear hb hbox hg)|((with_reducible refine y0s (N:=3) rfl ?_);refine y19 ?hg (N:=3) ?hd (cs:=#[.int .i64 a1_0,.int .i64 a1_1]) (t:=102) ?hr ?_;(case hd=>rfl);(case hg=>rfl);(case hr=>first|(go_simp;done)|(go_simp;rfl));intro gb104 hg w6 hbox hb;have n0_:=As0.mk (y0r (g:=gb103) (o:=.cells #[.int .i64 a0_0,.slice A0_1 l0_1.length c0_1] 100 (0,0)) (by (with_reducible repeat (first|refine y0f ?_ _|refine y0h ?_|refine y0d ?_ _));exact BK103.out) hb);have n1_:=As0.mk (y04 (by repeat (with_reducible first|exact HB.out|apply y01|apply y00|apply y02|refine y0j ?_ GE103.out)) hb);have n2_:=As0.mk (hbox);have n3_:=As0.mk ((by rw [hg];exact (y05 (by repeat (with_reducible first|exact HB.out|apply y01|apply y00|apply y02|refine y0j ?_ GE103.out))):w.heap.size≤gb104));have n4_:=As0.mk ((by rw [hg];exact (y05 (by repeat (with_reducible first|exact HB.out|apply y01|apply y00|apply y02|refine y0j ?_ GE103.out))):w.heap.size≤gb104));have n5_:=As0.mk ((by rw [hg];exact Nat.ne_of_lt (y1i (g:=gb103) (o:=.cells #[.int .i64 a0_0,.slice A0_1 l0_1.length c0_1] 100 (0,0)) (by (with_reducible repeat (first|refine y0f ?_ _|refine y0h ?_|refine y0d ?_ _));exact BK103.out)):gb103≠gb104));have n6_:=As0.mk ((by rw [hg];exact Nat.ne_of_gt (y1i (g:=gb103) (o:=.cells #[.int .i64 a0_0,.slice A0_1 l0_1.length c0_1] 100 (0,0)) (by (with_reducible repeat (first|refine y0f ?_ _|refine y0h ?_|refine y0d ?_ _));exact BK103.out)):gb104≠gb103));clear BK103;clear HB;have BK103:=n0_;have HB:=n1_;have BK104:=n2_;have GW104:=n3_;have GE104:=n4_;have NB103_104:=n5_;have NB104_103:=n6_;clear n0_ n1_ n2_ n3_ n4_ n5_ n6_;clear hb hbox hg;have hnb7:=NB103_104.out;have hnc7:=NB104_103.out;have hcz8_0:w6.cell? ⟨gb103,0,none⟩=some (.int .i64 a0_0):=(y07 BK103.out 0).trans rfl;have hcz8_1:w6.cell? ⟨gb103,1,none⟩=some (.slice A0_1 l0_1.length c0_1):=(y07 BK103.out 1).trans rfl;have hfz8_0:=y09 BK103.out 0;have hfz8_1:=y09 BK103.out 1;have hcz9_0:w6.cell? ⟨gb104,0,none⟩=some (.int .i64 a1_0):=(y07 BK104.out 0).trans rfl;have hcz9_1:w6.cell? ⟨gb104,1,none⟩=some (.int .i64 a1_1):=(y07 BK104.out 1).trans rfl;have hfz9_0:=y09 BK104.out 0;have hfz9_1:=y09 BK104.out 1))
  repeat (go_quiet (first|((with_reducible refine y0s (N:=2) rfl ?_);refine y19 ?hg (N:=2) ?hd (cs:=#[.int .i64 a0_0,.slice A0_1 l0_1.length c0_1]) (t:=100) ?hr ?_;(case hd=>rfl);(case hg=>rfl);(case hr=>first|(go_simp;done)|(go_simp;rfl));intro gb103 hg w5 hbox hb;have n0_:=As0.mk (y04 (by repeat (with_reducible first|exact HB.out|apply y01|apply y00|apply y02)) hb);have n1_:=As0.mk (hbox);have n2_:=As0.mk ((by rw [hg];exact (y05 (by repeat (with_reducible first|exact HB.out|apply y01|apply y00|apply y02))):w.heap.size≤gb103));have n3_:=As0.mk ((by rw [hg];exact (y05 (by repeat (with_reducible first|exact HB.out|apply y01|apply y00|apply y02))):w.heap.size≤gb103));clear HB;have HB:=n0_;have BK103:=n1_;have GW103:=n2_;have GE103:=n3_;clear n0_ n1_ n2_ n3_;clear hb hbox hg)|((with_reducible refine y0s (N:=3) rfl ?_);refine y19 ?hg (N:=3) ?hd (cs:=#[.int .i64 a1_0,.int .i64 a1_1]) (t:=102) ?hr ?_;(case hd=>rfl);(case hg=>rfl);(case hr=>first|(go_simp;done)|(go_simp;rfl));intro gb104 hg w6 hbox hb;have n0_:=As0.mk (y0r (g:=gb103) (o:=.cells #[.int .i64 a0_0,.slice A0_1 l0_1.length c0_1] 100 (0,0)) (by (with_reducible repeat (first|refine y0f ?_ _|refine y0h ?_|refine y0d ?_ _));exact BK103.out) hb);have n1_:=As0.mk (y04 (by repeat (with_reducible first|exact HB.out|apply y01|apply y00|apply y02|refine y0j ?_ GE103.out)) hb);have n2_:=As0.mk (hbox);have n3_:=As0.mk ((by rw [hg];exact (y05 (by repeat (with_reducible first|exact HB.out|apply y01|apply y00|apply y02|refine y0j ?_ GE103.out))):w.heap.size≤gb104));have n4_:=As0.mk ((by rw [hg];exact (y05 (by repeat (with_reducible first|exact HB.out|apply y01|apply y00|apply y02|refine y0j ?_ GE103.out))):w.heap.size≤gb104));have n5_:=As0.mk ((by rw [hg];exact Nat.ne_of_lt (y1i (g:=gb103) (o:=.cells #[.int .i64 a0_0,.slice A0_1 l0_1.length c0_1] 100 (0,0)) (by (with_reducible repeat (first|refine y0f ?_ _|refine y0h ?_|refine y0d ?_ _));exact BK103.out)):gb103≠gb104));have n6_:=As0.mk ((by rw [hg];exact Nat.ne_of_gt (y1i (g:=gb103) (o:=.cells #[.int .i64 a0_0,.slice A0_1 l0_1.length c0_1] 100 (0,0)) (by (with_reducible repeat (first|refine y0f ?_ _|refine y0h ?_|refine y0d ?_ _));exact BK103.out)):gb104≠gb103));clear BK103;clear HB;have BK103:=n0_;have HB:=n1_;have BK104:=n2_;have GW104:=n3_;have GE104:=n4_;have NB103_104:=n5_;have NB104_103:=n6_;clear n0_ n1_ n2_ n3_ n4_ n5_ n6_;clear hb hbox hg;have hnb7:=NB103_104.out;have hnc7:=NB104_103.out;have hcz8_0:w6.cell? ⟨gb103,0,none⟩=some (.int .i64 a0_0):=(y07 BK103.out 0).trans rfl;have hcz8_1:w6.cell? ⟨gb103,1,none⟩=some (.slice A0_1 l0_1.length c0_1):=(y07 BK103.out 1).trans rfl;have hfz8_0:=y09 BK103.out 0;have hfz8_1:=y09 BK103.out 1;have hcz9_0:w6.cell? ⟨gb104,0,none⟩=some (.int .i64 a1_0):=(y07 BK104.out 0).trans rfl;have hcz9_1:w6.cell? ⟨gb104,1,none⟩=some (.int .i64 a1_1):=(y07 BK104.out 1).trans rfl;have hfz9_0:=y09 BK104.out 0;have hfz9_1:=y09 BK104.out 1));try go_wp2_with (first|((with_reducible refine y0s (N:=2) rfl ?_);refine y19 ?hg (N:=2) ?hd (cs:=#[.int .i64 a0_0,.slice A0_1 l0_1.length c0_1]) (t:=100) ?hr ?_;(case hd=>rfl);(case hg=>rfl);(case hr=>first|(go_simp;done)|(go_simp;rfl));intro gb103 hg w5 hbox hb;have n0_:=As0.mk (y04 (by repeat (with_reducible first|exact HB.out|apply y01|apply y00|apply y02)) hb);have n1_:=As0.mk (hbox);have n2_:=As0.mk ((by rw [hg];exact (y05 (by repeat (with_reducible first|exact HB.out|apply y01|apply y00|apply y02))):w.heap.size≤gb103));have n3_:=As0.mk ((by rw [hg];exact (y05 (by repeat (with_reducible first|exact HB.out|apply y01|apply y00|apply y02))):w.heap.size≤gb103));clear HB;have HB:=n0_;have BK103:=n1_;have GW103:=n2_;have GE103:=n3_;clear n0_ n1_ n2_ n3_;clear hb hbox hg)|((with_reducible refine y0s (N:=3) rfl ?_);refine y19 ?hg (N:=3) ?hd (cs:=#[.int .i64 a1_0,.int .i64 a1_1]) (t:=102) ?hr ?_;(case hd=>rfl);(case hg=>rfl);(case hr=>first|(go_simp;done)|(go_simp;rfl));intro gb104 hg w6 hbox hb;have n0_:=As0.mk (y0r (g:=gb103) (o:=.cells #[.int .i64 a0_0,.slice A0_1 l0_1.length c0_1] 100 (0,0)) (by (with_reducible repeat (first|refine y0f ?_ _|refine y0h ?_|refine y0d ?_ _));exact BK103.out) hb);have n1_:=As0.mk (y04 (by repeat (with_reducible first|exact HB.out|apply y01|apply y00|apply y02|refine y0j ?_ GE103.out)) hb);have n2_:=As0.mk (hbox);have n3_:=As0.mk ((by rw [hg];exact (y05 (by repeat (with_reducible first|exact HB.out|apply y01|apply y00|apply y02|refine y0j ?_ GE103.out))):w.heap.size≤gb104));have n4_:=As0.mk ((by rw [hg];exact (y05 (by repeat (with_reducible first|exact HB.out|apply y01|apply y00|apply y02|refine y0j ?_ GE103.out))):w.heap.size≤gb104));have n5_:=As0.mk ((by rw [hg];exact Nat.ne_of_lt (y1i (g:=gb103) (o:=.cells #[.int .i64 a0_0,.slice A0_1 l0_1.length c0_1] 100 (0,0)) (by (with_reducible repeat (first|refine y0f ?_ _|refine y0h ?_|refine y0d ?_ _));exact BK103.out)):gb103≠gb104));have n6_:=As0.mk ((by rw [hg];exact Nat.ne_of_gt (y1i (g:=gb103) (o:=.cells #[.int .i64 a0_0,.slice A0_1 l0_1.length c0_1] 100 (0,0)) (by (with_reducible repeat (first|refine y0f ?_ _|refine y0h ?_|refine y0d ?_ _));exact BK103.out)):gb104≠gb103));clear BK103;clear HB;have BK103:=n0_;have HB:=n1_;have BK104:=n2_;have GW104:=n3_;have GE104:=n4_;have NB103_104:=n5_;have NB104_103:=n6_;clear n0_ n1_ n2_ n3_ n4_ n5_ n6_;clear hb hbox hg;have hnb7:=NB103_104.out;have hnc7:=NB104_103.out;have hcz8_0:w6.cell? ⟨gb103,0,none⟩=some (.int .i64 a0_0):=(y07 BK103.out 0).trans rfl;have hcz8_1:w6.cell? ⟨gb103,1,none⟩=some (.slice A0_1 l0_1.length c0_1):=(y07 BK103.out 1).trans rfl;have hfz8_0:=y09 BK103.out 0;have hfz8_1:=y09 BK103.out 1;have hcz9_0:w6.cell? ⟨gb104,0,none⟩=some (.int .i64 a1_0):=(y07 BK104.out 0).trans rfl;have hcz9_1:w6.cell? ⟨gb104,1,none⟩=some (.int .i64 a1_1):=(y07 BK104.out 1).trans rfl;have hfz9_0:=y09 BK104.out 0;have hfz9_1:=y09 BK104.out 1)))
  go_ret
  exact ⟨by first|rfl|(simp [errW_none,errW_some]<;>rfl)|(simp only [← hji4];first|rfl|(simp [errW_none,errW_some]<;>rfl))|(simp [*,errW_none,errW_some]<;>rfl),by repeat (with_reducible first|exact HB.out|apply y01|apply y00|apply y02|refine y0j ?_ GE103.out|refine y0j ?_ GE104.out)⟩
 ·rw [if_neg c3] at H
  exact absurd H (by simp)
def ambush_other.f (a0:Int):Option (Int):=some (wrap64 (3 - a0))
theorem ambush_other.calls (a0:Int) (r:Int) (w:World) (h:ambush_other.f a0=some r) :
  Calls Tra.prog 72 #[.int .i64 a0] w fun e w'=>e=.returned (.int .i64 r)∧Drawn0 w w':=by
 have H:(some (wrap64 (3 - a0)))=some r:=h;clear h;obtain rfl:=zSi H;go_enter Tra.func72,Tra.ntmps72
 go_wp2
 go_ret
 exact ⟨by first|rfl|(simp;done)|(simp [*];done),by repeat (first|exact Drawn0.refl _|apply Drawn0.step)⟩
def bits_Len64.j0:Nat->Int->Int->Option (Int)
 |0,_,_=>none
 |k+1,x0,x2=>if x0 ≥ 65536 then (if (x0 / 65536) ≥ 256 then (if 0≤(((x0 / 65536) / 256) % 256) then (if (((x0 / 65536) / 256) % 256)<256 then (some (wrap64 ((wrap64 ((wrap64 (x2+16))+8))+(wrap64 (bt (⟨#[0,1,2,2,3,3,3,3,4,4,4,4,4,4,4,4,5,5,5,5,5,5,5,5,5,5,5,5,5,5,5,5,6,6,6,6,6,6,6,6,6,6,6,6,6,6,6,6,6,6,6,6,6,6,6,6,6,6,6,6,6,6,6,6,7,7,7,7,7,7,7,7,7,7,7,7,7,7,7,7,7,7,7,7,7,7,7,7,7,7,7,7,7,7,7,7,7,7,7,7,7,7,7,7,7,7,7,7,7,7,7,7,7,7,7,7,7,7,7,7,7,7,7,7,7,7,7,7,8,8,8,8,8,8,8,8,8,8,8,8,8,8,8,8,8,8,8,8,8,8,8,8,8,8,8,8,8,8,8,8,8,8,8,8,8,8,8,8,8,8,8,8,8,8,8,8,8,8,8,8,8,8,8,8,8,8,8,8,8,8,8,8,8,8,8,8,8,8,8,8,8,8,8,8,8,8,8,8,8,8,8,8,8,8,8,8,8,8,8,8,8,8,8,8,8,8,8,8,8,8,8,8,8,8,8,8,8,8,8,8,8,8,8,8,8,8,8,8,8,8,8,8,8,8,8,8]⟩:ByteArray) (((x0 / 65536) / 256) % 256)))))) else (none)) else (none)) else (if 0≤((x0 / 65536) % 256) then (if ((x0 / 65536) % 256)<256 then (some (wrap64 ((wrap64 (x2+16))+(wrap64 (bt (⟨#[0,1,2,2,3,3,3,3,4,4,4,4,4,4,4,4,5,5,5,5,5,5,5,5,5,5,5,5,5,5,5,5,6,6,6,6,6,6,6,6,6,6,6,6,6,6,6,6,6,6,6,6,6,6,6,6,6,6,6,6,6,6,6,6,7,7,7,7,7,7,7,7,7,7,7,7,7,7,7,7,7,7,7,7,7,7,7,7,7,7,7,7,7,7,7,7,7,7,7,7,7,7,7,7,7,7,7,7,7,7,7,7,7,7,7,7,7,7,7,7,7,7,7,7,7,7,7,7,8,8,8,8,8,8,8,8,8,8,8,8,8,8,8,8,8,8,8,8,8,8,8,8,8,8,8,8,8,8,8,8,8,8,8,8,8,8,8,8,8,8,8,8,8,8,8,8,8,8,8,8,8,8,8,8,8,8,8,8,8,8,8,8,8,8,8,8,8,8,8,8,8,8,8,8,8,8,8,8,8,8,8,8,8,8,8,8,8,8,8,8,8,8,8,8,8,8,8,8,8,8,8,8,8,8,8,8,8,8,8,8,8,8,8,8,8,8,8,8,8,8,8,8,8,8,8,8]⟩:ByteArray) ((x0 / 65536) % 256)))))) else (none)) else (none))) else (if x0 ≥ 256 then (if 0≤((x0 / 256) % 256) then (if ((x0 / 256) % 256)<256 then (some (wrap64 ((wrap64 (x2+8))+(wrap64 (bt (⟨#[0,1,2,2,3,3,3,3,4,4,4,4,4,4,4,4,5,5,5,5,5,5,5,5,5,5,5,5,5,5,5,5,6,6,6,6,6,6,6,6,6,6,6,6,6,6,6,6,6,6,6,6,6,6,6,6,6,6,6,6,6,6,6,6,7,7,7,7,7,7,7,7,7,7,7,7,7,7,7,7,7,7,7,7,7,7,7,7,7,7,7,7,7,7,7,7,7,7,7,7,7,7,7,7,7,7,7,7,7,7,7,7,7,7,7,7,7,7,7,7,7,7,7,7,7,7,7,7,8,8,8,8,8,8,8,8,8,8,8,8,8,8,8,8,8,8,8,8,8,8,8,8,8,8,8,8,8,8,8,8,8,8,8,8,8,8,8,8,8,8,8,8,8,8,8,8,8,8,8,8,8,8,8,8,8,8,8,8,8,8,8,8,8,8,8,8,8,8,8,8,8,8,8,8,8,8,8,8,8,8,8,8,8,8,8,8,8,8,8,8,8,8,8,8,8,8,8,8,8,8,8,8,8,8,8,8,8,8,8,8,8,8,8,8,8,8,8,8,8,8,8,8,8,8,8,8]⟩:ByteArray) ((x0 / 256) % 256)))))) else (none)) else (none)) else (if 0≤((x0) % 256) then (if ((x0) % 256)<256 then (some (wrap64 (x2+(wrap64 (bt (⟨#[0,1,2,2,3,3,3,3,4,4,4,4,4,4,4,4,5,5,5,5,5,5,5,5,5,5,5,5,5,5,5,5,6,6,6,6,6,6,6,6,6,6,6,6,6,6,6,6,6,6,6,6,6,6,6,6,6,6,6,6,6,6,6,6,7,7,7,7,7,7,7,7,7,7,7,7,7,7,7,7,7,7,7,7,7,7,7,7,7,7,7,7,7,7,7,7,7,7,7,7,7,7,7,7,7,7,7,7,7,7,7,7,7,7,7,7,7,7,7,7,7,7,7,7,7,7,7,7,8,8,8,8,8,8,8,8,8,8,8,8,8,8,8,8,8,8,8,8,8,8,8,8,8,8,8,8,8,8,8,8,8,8,8,8,8,8,8,8,8,8,8,8,8,8,8,8,8,8,8,8,8,8,8,8,8,8,8,8,8,8,8,8,8,8,8,8,8,8,8,8,8,8,8,8,8,8,8,8,8,8,8,8,8,8,8,8,8,8,8,8,8,8,8,8,8,8,8,8,8,8,8,8,8,8,8,8,8,8,8,8,8,8,8,8,8,8,8,8,8,8,8,8,8,8,8,8]⟩:ByteArray) ((x0) % 256)))))) else (none)) else (none)))
def bits_Len64.f (k:Nat) (a0:Int):Option (Int):=if a0 ≥ 4294967296 then (bits_Len64.j0 k (a0 / 4294967296) 32) else (bits_Len64.j0 k a0 0)
theorem bits_Len64.calls (k:Nat) (a0:Int) (r:Int) (w:World) (h:bits_Len64.f k a0=some r) :
  Calls Tra.prog 87 #[.int .u64 a0] w fun e w'=>e=.returned (.int .i64 r)∧Drawn0 w w':=by
 have H:(if a0 ≥ 4294967296 then (bits_Len64.j0 k (a0 / 4294967296) 32) else (bits_Len64.j0 k a0 0))=some r:=h;clear h;have HC2:=As0.mk H;clear H;go_enter Tra.func87,Tra.ntmps87
 go_upto_if 4 with (fail)
 go_cut [0,2] (fun v0 v2 wc=>∃ (kq:Nat) (x0_1:Int) (x2_1:Int),v0=.int .u64 x0_1∧v2=.int .i64 x2_1∧As0 (bits_Len64.j0 kq x0_1 x2_1=some r)∧As0 (kq≤k)∧Drawn0 w wc)
 case first =>
  have H:=HC2.out;clear HC2
  by_cases c3:a0 ≥ 4294967296
  ·rw [if_pos c3] at H
   have c3b0:decide (4294967296≤a0)=true:=zDt c3;clear c3
   (first|rw [c3b0]|(simp only [y0a,y0b];rw [c3b0])|skip)
   have H':=As0.mk H;clear H;go_wp2
   go_meet
   case rel=>exact ⟨_,(a0 / 4294967296),(32),(by first|rfl|(simp;done)|(simp [*];done)),(by first|rfl|(simp;done)|(simp [*];done)),H',⟨by first|omega|exact zLe _⟩,by repeat (first|exact Drawn0.refl _|apply Drawn0.step)⟩
  ·rw [if_neg c3] at H
   have c3b0:decide (4294967296≤a0)=false:=zDf c3;clear c3
   (first|rw [c3b0]|(simp only [y0a,y0b];rw [c3b0])|skip)
   have H':=As0.mk H;clear H;go_wp2
   go_meet
   case rel=>exact ⟨_,(a0),(0),(by first|rfl|(simp;done)|(simp [*];done)),(by first|rfl|(simp;done)|(simp [*];done)),H',⟨by first|omega|exact zLe _⟩,by repeat (first|exact Drawn0.refl _|apply Drawn0.step)⟩
 case rest =>
  clear HC2
  try clear p2
  try clear c3
  try clear c3b0
  obtain ⟨kq,x0_1,x2_1,rfl,rfl,HA,HJ1,⟨mc1,rfl⟩⟩:=hcut;cases kq with
  |zero=>exact absurd HA.out (by simp [bits_Len64.j0])
  |succ kj1 =>
   have H:=HA.out;clear HA;simp only [bits_Len64.j0] at H
   by_cases c4:x0_1 ≥ 65536
   ·rw [if_pos c4] at H
    have c4b0:decide (65536≤x0_1)=true:=zDt c4;clear c4
    by_cases c5:(x0_1 / 65536) ≥ 256
    ·rw [if_pos c5] at H
     have c5b0:decide (256≤(x0_1 / 65536))=true:=zDt c5;clear c5;obtain ⟨ji6,hji6⟩:∃ j_:Int,(((x0_1 / 65536) / 256) % 256)=j_:=⟨_,rfl⟩
     replace H:(if 0≤(ji6) then (if (ji6)<256 then (some (wrap64 ((wrap64 ((wrap64 (x2_1+16))+8))+(wrap64 (bt (⟨#[0,1,2,2,3,3,3,3,4,4,4,4,4,4,4,4,5,5,5,5,5,5,5,5,5,5,5,5,5,5,5,5,6,6,6,6,6,6,6,6,6,6,6,6,6,6,6,6,6,6,6,6,6,6,6,6,6,6,6,6,6,6,6,6,7,7,7,7,7,7,7,7,7,7,7,7,7,7,7,7,7,7,7,7,7,7,7,7,7,7,7,7,7,7,7,7,7,7,7,7,7,7,7,7,7,7,7,7,7,7,7,7,7,7,7,7,7,7,7,7,7,7,7,7,7,7,7,7,8,8,8,8,8,8,8,8,8,8,8,8,8,8,8,8,8,8,8,8,8,8,8,8,8,8,8,8,8,8,8,8,8,8,8,8,8,8,8,8,8,8,8,8,8,8,8,8,8,8,8,8,8,8,8,8,8,8,8,8,8,8,8,8,8,8,8,8,8,8,8,8,8,8,8,8,8,8,8,8,8,8,8,8,8,8,8,8,8,8,8,8,8,8,8,8,8,8,8,8,8,8,8,8,8,8,8,8,8,8,8,8,8,8,8,8,8,8,8,8,8,8,8,8,8,8,8,8]⟩:ByteArray) (ji6)))))) else (none)) else (none))=some r:=by first|(rw [hji6] at H;exact H)|(simp only [hji6] at H ⊢;exact H)
     by_cases c7:0≤(ji6)
     ·rw [if_pos c7] at H
      have c7b0:decide (0≤(ji6))=true:=zDt c7;clear c7
      by_cases c8:(ji6)<256
      ·rw [if_pos c8] at H
       have c8b0:decide ((ji6)<256)=true:=zDt c8;clear c8;obtain rfl:=zSi H;have p9:0≤((ji6):Int):=zDo (by with_reducible assumption);have q9:(ji6)<(256:Int):=zDo (by with_reducible assumption);have hx9:=yiz (⟨#[0,1,2,2,3,3,3,3,4,4,4,4,4,4,4,4,5,5,5,5,5,5,5,5,5,5,5,5,5,5,5,5,6,6,6,6,6,6,6,6,6,6,6,6,6,6,6,6,6,6,6,6,6,6,6,6,6,6,6,6,6,6,6,6,7,7,7,7,7,7,7,7,7,7,7,7,7,7,7,7,7,7,7,7,7,7,7,7,7,7,7,7,7,7,7,7,7,7,7,7,7,7,7,7,7,7,7,7,7,7,7,7,7,7,7,7,7,7,7,7,7,7,7,7,7,7,7,7,8,8,8,8,8,8,8,8,8,8,8,8,8,8,8,8,8,8,8,8,8,8,8,8,8,8,8,8,8,8,8,8,8,8,8,8,8,8,8,8,8,8,8,8,8,8,8,8,8,8,8,8,8,8,8,8,8,8,8,8,8,8,8,8,8,8,8,8,8,8,8,8,8,8,8,8,8,8,8,8,8,8,8,8,8,8,8,8,8,8,8,8,8,8,8,8,8,8,8,8,8,8,8,8,8,8,8,8,8,8,8,8,8,8,8,8,8,8,8,8,8,8,8,8,8,8,8,8]⟩:ByteArray) (ji6);replace p9:=eq_true p9;replace q9:=eq_true q9;go_wp2
       go_ret
       exact ⟨by first|rfl|(simp;done)|(simp only [← hji6]<;>(first|rfl|simp))|(simp [*];done),by repeat (first|exact Drawn0.refl _|apply Drawn0.step)⟩
      ·rw [if_neg c8] at H
       exact absurd H (by simp)
     ·rw [if_neg c7] at H
      exact absurd H (by simp)
    ·rw [if_neg c5] at H
     have c5b0:decide (256≤(x0_1 / 65536))=false:=zDf c5;clear c5;obtain ⟨ji10,hji10⟩:∃ j_:Int,((x0_1 / 65536) % 256)=j_:=⟨_,rfl⟩
     replace H:(if 0≤(ji10) then (if (ji10)<256 then (some (wrap64 ((wrap64 (x2_1+16))+(wrap64 (bt (⟨#[0,1,2,2,3,3,3,3,4,4,4,4,4,4,4,4,5,5,5,5,5,5,5,5,5,5,5,5,5,5,5,5,6,6,6,6,6,6,6,6,6,6,6,6,6,6,6,6,6,6,6,6,6,6,6,6,6,6,6,6,6,6,6,6,7,7,7,7,7,7,7,7,7,7,7,7,7,7,7,7,7,7,7,7,7,7,7,7,7,7,7,7,7,7,7,7,7,7,7,7,7,7,7,7,7,7,7,7,7,7,7,7,7,7,7,7,7,7,7,7,7,7,7,7,7,7,7,7,8,8,8,8,8,8,8,8,8,8,8,8,8,8,8,8,8,8,8,8,8,8,8,8,8,8,8,8,8,8,8,8,8,8,8,8,8,8,8,8,8,8,8,8,8,8,8,8,8,8,8,8,8,8,8,8,8,8,8,8,8,8,8,8,8,8,8,8,8,8,8,8,8,8,8,8,8,8,8,8,8,8,8,8,8,8,8,8,8,8,8,8,8,8,8,8,8,8,8,8,8,8,8,8,8,8,8,8,8,8,8,8,8,8,8,8,8,8,8,8,8,8,8,8,8,8,8,8]⟩:ByteArray) (ji10)))))) else (none)) else (none))=some r:=by first|(rw [hji10] at H;exact H)|(simp only [hji10] at H ⊢;exact H)
     by_cases c11:0≤(ji10)
     ·rw [if_pos c11] at H
      have c11b0:decide (0≤(ji10))=true:=zDt c11;clear c11
      by_cases c12:(ji10)<256
      ·rw [if_pos c12] at H
       have c12b0:decide ((ji10)<256)=true:=zDt c12;clear c12;obtain rfl:=zSi H;have p13:0≤((ji10):Int):=zDo (by with_reducible assumption);have q13:(ji10)<(256:Int):=zDo (by with_reducible assumption);have hx13:=yiz (⟨#[0,1,2,2,3,3,3,3,4,4,4,4,4,4,4,4,5,5,5,5,5,5,5,5,5,5,5,5,5,5,5,5,6,6,6,6,6,6,6,6,6,6,6,6,6,6,6,6,6,6,6,6,6,6,6,6,6,6,6,6,6,6,6,6,7,7,7,7,7,7,7,7,7,7,7,7,7,7,7,7,7,7,7,7,7,7,7,7,7,7,7,7,7,7,7,7,7,7,7,7,7,7,7,7,7,7,7,7,7,7,7,7,7,7,7,7,7,7,7,7,7,7,7,7,7,7,7,7,8,8,8,8,8,8,8,8,8,8,8,8,8,8,8,8,8,8,8,8,8,8,8,8,8,8,8,8,8,8,8,8,8,8,8,8,8,8,8,8,8,8,8,8,8,8,8,8,8,8,8,8,8,8,8,8,8,8,8,8,8,8,8,8,8,8,8,8,8,8,8,8,8,8,8,8,8,8,8,8,8,8,8,8,8,8,8,8,8,8,8,8,8,8,8,8,8,8,8,8,8,8,8,8,8,8,8,8,8,8,8,8,8,8,8,8,8,8,8,8,8,8,8,8,8,8,8,8]⟩:ByteArray) (ji10);replace p13:=eq_true p13;replace q13:=eq_true q13;go_wp2
       go_ret
       exact ⟨by first|rfl|(simp;done)|(simp only [← hji10]<;>(first|rfl|simp))|(simp [*];done),by repeat (first|exact Drawn0.refl _|apply Drawn0.step)⟩
      ·rw [if_neg c12] at H
       exact absurd H (by simp)
     ·rw [if_neg c11] at H
      exact absurd H (by simp)
   ·rw [if_neg c4] at H
    have c4b0:decide (65536≤x0_1)=false:=zDf c4;clear c4
    by_cases c14:x0_1 ≥ 256
    ·rw [if_pos c14] at H
     have c14b0:decide (256≤x0_1)=true:=zDt c14;clear c14;obtain ⟨ji15,hji15⟩:∃ j_:Int,((x0_1 / 256) % 256)=j_:=⟨_,rfl⟩
     replace H:(if 0≤(ji15) then (if (ji15)<256 then (some (wrap64 ((wrap64 (x2_1+8))+(wrap64 (bt (⟨#[0,1,2,2,3,3,3,3,4,4,4,4,4,4,4,4,5,5,5,5,5,5,5,5,5,5,5,5,5,5,5,5,6,6,6,6,6,6,6,6,6,6,6,6,6,6,6,6,6,6,6,6,6,6,6,6,6,6,6,6,6,6,6,6,7,7,7,7,7,7,7,7,7,7,7,7,7,7,7,7,7,7,7,7,7,7,7,7,7,7,7,7,7,7,7,7,7,7,7,7,7,7,7,7,7,7,7,7,7,7,7,7,7,7,7,7,7,7,7,7,7,7,7,7,7,7,7,7,8,8,8,8,8,8,8,8,8,8,8,8,8,8,8,8,8,8,8,8,8,8,8,8,8,8,8,8,8,8,8,8,8,8,8,8,8,8,8,8,8,8,8,8,8,8,8,8,8,8,8,8,8,8,8,8,8,8,8,8,8,8,8,8,8,8,8,8,8,8,8,8,8,8,8,8,8,8,8,8,8,8,8,8,8,8,8,8,8,8,8,8,8,8,8,8,8,8,8,8,8,8,8,8,8,8,8,8,8,8,8,8,8,8,8,8,8,8,8,8,8,8,8,8,8,8,8,8]⟩:ByteArray) (ji15)))))) else (none)) else (none))=some r:=by first|(rw [hji15] at H;exact H)|(simp only [hji15] at H ⊢;exact H)
     by_cases c16:0≤(ji15)
     ·rw [if_pos c16] at H
      have c16b0:decide (0≤(ji15))=true:=zDt c16;clear c16
      by_cases c17:(ji15)<256
      ·rw [if_pos c17] at H
       have c17b0:decide ((ji15)<256)=true:=zDt c17;clear c17;obtain rfl:=zSi H;have p18:0≤((ji15):Int):=zDo (by with_reducible assumption);have q18:(ji15)<(256:Int):=zDo (by with_reducible assumption);have hx18:=yiz (⟨#[0,1,2,2,3,3,3,3,4,4,4,4,4,4,4,4,5,5,5,5,5,5,5,5,5,5,5,5,5,5,5,5,6,6,6,6,6,6,6,6,6,6,6,6,6,6,6,6,6,6,6,6,6,6,6,6,6,6,6,6,6,6,6,6,7,7,7,7,7,7,7,7,7,7,7,7,7,7,7,7,7,7,7,7,7,7,7,7,7,7,7,7,7,7,7,7,7,7,7,7,7,7,7,7,7,7,7,7,7,7,7,7,7,7,7,7,7,7,7,7,7,7,7,7,7,7,7,7,8,8,8,8,8,8,8,8,8,8,8,8,8,8,8,8,8,8,8,8,8,8,8,8,8,8,8,8,8,8,8,8,8,8,8,8,8,8,8,8,8,8,8,8,8,8,8,8,8,8,8,8,8,8,8,8,8,8,8,8,8,8,8,8,8,8,8,8,8,8,8,8,8,8,8,8,8,8,8,8,8,8,8,8,8,8,8,8,8,8,8,8,8,8,8,8,8,8,8,8,8,8,8,8,8,8,8,8,8,8,8,8,8,8,8,8,8,8,8,8,8,8,8,8,8,8,8,8]⟩:ByteArray) (ji15);replace p18:=eq_true p18;replace q18:=eq_true q18;go_wp2
       go_ret
       exact ⟨by first|rfl|(simp;done)|(simp only [← hji15]<;>(first|rfl|simp))|(simp [*];done),by repeat (first|exact Drawn0.refl _|apply Drawn0.step)⟩
      ·rw [if_neg c17] at H
       exact absurd H (by simp)
     ·rw [if_neg c16] at H
      exact absurd H (by simp)
    ·rw [if_neg c14] at H
     have c14b0:decide (256≤x0_1)=false:=zDf c14;clear c14;obtain ⟨ji19,hji19⟩:∃ j_:Int,((x0_1) % 256)=j_:=⟨_,rfl⟩
     replace H:(if 0≤(ji19) then (if (ji19)<256 then (some (wrap64 (x2_1+(wrap64 (bt (⟨#[0,1,2,2,3,3,3,3,4,4,4,4,4,4,4,4,5,5,5,5,5,5,5,5,5,5,5,5,5,5,5,5,6,6,6,6,6,6,6,6,6,6,6,6,6,6,6,6,6,6,6,6,6,6,6,6,6,6,6,6,6,6,6,6,7,7,7,7,7,7,7,7,7,7,7,7,7,7,7,7,7,7,7,7,7,7,7,7,7,7,7,7,7,7,7,7,7,7,7,7,7,7,7,7,7,7,7,7,7,7,7,7,7,7,7,7,7,7,7,7,7,7,7,7,7,7,7,7,8,8,8,8,8,8,8,8,8,8,8,8,8,8,8,8,8,8,8,8,8,8,8,8,8,8,8,8,8,8,8,8,8,8,8,8,8,8,8,8,8,8,8,8,8,8,8,8,8,8,8,8,8,8,8,8,8,8,8,8,8,8,8,8,8,8,8,8,8,8,8,8,8,8,8,8,8,8,8,8,8,8,8,8,8,8,8,8,8,8,8,8,8,8,8,8,8,8,8,8,8,8,8,8,8,8,8,8,8,8,8,8,8,8,8,8,8,8,8,8,8,8,8,8,8,8,8,8]⟩:ByteArray) (ji19)))))) else (none)) else (none))=some r:=by first|(rw [hji19] at H;exact H)|(simp only [hji19] at H ⊢;exact H)
     by_cases c20:0≤(ji19)
     ·rw [if_pos c20] at H
      have c20b0:decide (0≤(ji19))=true:=zDt c20;clear c20
      by_cases c21:(ji19)<256
      ·rw [if_pos c21] at H
       have c21b0:decide ((ji19)<256)=true:=zDt c21;clear c21;obtain rfl:=zSi H;have p22:0≤((ji19):Int):=zDo (by with_reducible assumption);have q22:(ji19)<(256:Int):=zDo (by with_reducible assumption);have hx22:=yiz (⟨#[0,1,2,2,3,3,3,3,4,4,4,4,4,4,4,4,5,5,5,5,5,5,5,5,5,5,5,5,5,5,5,5,6,6,6,6,6,6,6,6,6,6,6,6,6,6,6,6,6,6,6,6,6,6,6,6,6,6,6,6,6,6,6,6,7,7,7,7,7,7,7,7,7,7,7,7,7,7,7,7,7,7,7,7,7,7,7,7,7,7,7,7,7,7,7,7,7,7,7,7,7,7,7,7,7,7,7,7,7,7,7,7,7,7,7,7,7,7,7,7,7,7,7,7,7,7,7,7,8,8,8,8,8,8,8,8,8,8,8,8,8,8,8,8,8,8,8,8,8,8,8,8,8,8,8,8,8,8,8,8,8,8,8,8,8,8,8,8,8,8,8,8,8,8,8,8,8,8,8,8,8,8,8,8,8,8,8,8,8,8,8,8,8,8,8,8,8,8,8,8,8,8,8,8,8,8,8,8,8,8,8,8,8,8,8,8,8,8,8,8,8,8,8,8,8,8,8,8,8,8,8,8,8,8,8,8,8,8,8,8,8,8,8,8,8,8,8,8,8,8,8,8,8,8,8,8]⟩:ByteArray) (ji19);replace p22:=eq_true p22;replace q22:=eq_true q22;go_wp2
       go_ret
       exact ⟨by first|rfl|(simp;done)|(simp only [← hji19]<;>(first|rfl|simp))|(simp [*];done),by repeat (first|exact Drawn0.refl _|apply Drawn0.step)⟩
      ·rw [if_neg c21] at H
       exact absurd H (by simp)
     ·rw [if_neg c20] at H
      exact absurd H (by simp)
def bits_Len.f (k:Nat) (a0:Int):Option (Int):=(bits_Len64.f k a0).bind fun t105=>(some t105)
theorem bits_Len.calls (k:Nat) (a0:Int) (r:Int) (w:World) (h:bits_Len.f k a0=some r) :
  Calls Tra.prog 63 #[.int .u64 a0] w fun e w'=>e=.returned (.int .i64 r)∧Drawn0 w w':=by
 have H:((bits_Len64.f k a0).bind fun t105=>(some t105))=some r:=h;clear h;replace H:=Option.bind_eq_some_iff.mp H;obtain ⟨t105,A20,H⟩:=H;replace H:(some t105)=some r:=H;have A2:=As0.mk A20;clear A20;obtain rfl:=zSi H;go_enter Tra.func63,Tra.ntmps63
 go_wp2_with (first|((with_reducible refine y08 (f:=87) rfl ?_);refine y0n (some 7) rfl rfl Tra.func87 (by kernel_rfl) rfl #[.int .u64 a0] rfl (by (try simp only [List.map_toArray,List.map_cons,List.map_nil]);first|done|rfl|(simp only [List.length_drop,List.length_take];rfl)) ?_;(with_reducible refine (bits_Len64.calls k a0 t105 _ A2.out).mono ?_);rintro e w' ⟨rfl,⟨nd,rfl⟩⟩;refine ⟨_,rfl,?_⟩))
 go_ret
 exact ⟨by first|rfl|(simp;done)|(simp [*];done),by repeat (first|exact Drawn0.refl _|apply Drawn0.step)⟩
def cmp_isNaN_int.f (a0:Int):Option (Bool):=some (a0 != a0)
theorem cmp_isNaN_int.calls (a0:Int) (r:Bool) (w:World) (h:cmp_isNaN_int.f a0=some r) :
  Calls Tra.prog 95 #[.int .i64 a0] w fun e w'=>e=.returned (.bool r)∧Drawn0 w w':=by
 have H:(some (a0 != a0))=some r:=h;clear h;obtain rfl:=zSi H;go_enter Tra.func95,Tra.ntmps95
 go_wp2
 go_ret
 exact ⟨by first|rfl|(simp;done)|(simp [*];done),by repeat (first|exact Drawn0.refl _|apply Drawn0.step)⟩
def cmp_Less_int.f (a0:Int) (a1:Int):Option (Bool):=(cmp_isNaN_int.f a0).bind fun t106=>(if t106=true then ((cmp_isNaN_int.f a1).bind fun t107=>(if t107=true then (some (decide (a0<a1))) else (some true))) else (some (decide (a0<a1))))
theorem cmp_Less_int.calls (a0:Int) (a1:Int) (r:Bool) (w:World) (h:cmp_Less_int.f a0 a1=some r) :
  Calls Tra.prog 83 #[.int .i64 a0,.int .i64 a1] w fun e w'=>e=.returned (.bool r)∧Drawn0 w w':=by
 have H:((cmp_isNaN_int.f a0).bind fun t106=>(if t106=true then ((cmp_isNaN_int.f a1).bind fun t107=>(if t107=true then (some (decide (a0<a1))) else (some true))) else (some (decide (a0<a1)))))=some r:=h;clear h;replace H:=Option.bind_eq_some_iff.mp H;obtain ⟨t106,A30,H⟩:=H;replace H:(if t106=true then ((cmp_isNaN_int.f a1).bind fun t107=>(if t107=true then (some (decide (a0<a1))) else (some true))) else (some (decide (a0<a1))))=some r:=H;have A3:=As0.mk A30;clear A30
 by_cases c4:t106=true
 ·subst c4
  have H1:((cmp_isNaN_int.f a1).bind fun t107=>(if t107=true then (some (decide (a0<a1))) else (some true)))=some r:=by rw [if_pos rfl] at H;exact H
  clear H;have H:=H1;clear H1;replace H:=Option.bind_eq_some_iff.mp H;obtain ⟨t107,A50,H⟩:=H;replace H:(if t107=true then (some (decide (a0<a1))) else (some true))=some r:=H;have A5:=As0.mk A50;clear A50
  by_cases c6:t107=true
  ·subst c6
   have H1:(some (decide (a0<a1)))=some r:=by rw [if_pos rfl] at H;exact H
   clear H;have H:=H1;clear H1;obtain rfl:=zSi H;go_enter Tra.func83,Tra.ntmps83
   go_wp2_with (first|((with_reducible refine y08 (f:=95) rfl ?_);refine y0n (some 6) rfl rfl Tra.func95 (by kernel_rfl) rfl #[.int .i64 a0] rfl (by (try simp only [List.map_toArray,List.map_cons,List.map_nil]);first|done|rfl|(simp only [List.length_drop,List.length_take];rfl)) ?_;(with_reducible refine (cmp_isNaN_int.calls a0 true _ A3.out).mono ?_);rintro e w' ⟨rfl,⟨nd,rfl⟩⟩;refine ⟨_,rfl,?_⟩)|(go_at_call 95;(with_reducible refine (cmp_isNaN_int.calls a1 true _ A5.out).mono ?_);rintro e w' ⟨rfl,⟨nd,rfl⟩⟩))
   go_ret
   exact ⟨by first|rfl|(simp;done)|(simp [*];done),by repeat (first|exact Drawn0.refl _|apply Drawn0.step)⟩
  ·replace c6:=Bool.eq_false_iff.mpr c6
   subst c6;have H1:(some true)=some r:=by rw [if_neg (show ¬ (false=true) by decide)] at H;exact H
   clear H;have H:=H1;clear H1;obtain rfl:=zSi H;go_enter Tra.func83,Tra.ntmps83
   go_wp2_with (first|((with_reducible refine y08 (f:=95) rfl ?_);refine y0n (some 6) rfl rfl Tra.func95 (by kernel_rfl) rfl #[.int .i64 a0] rfl (by (try simp only [List.map_toArray,List.map_cons,List.map_nil]);first|done|rfl|(simp only [List.length_drop,List.length_take];rfl)) ?_;(with_reducible refine (cmp_isNaN_int.calls a0 true _ A3.out).mono ?_);rintro e w' ⟨rfl,⟨nd,rfl⟩⟩;refine ⟨_,rfl,?_⟩)|(go_at_call 95;(with_reducible refine (cmp_isNaN_int.calls a1 false _ A5.out).mono ?_);rintro e w' ⟨rfl,⟨nd,rfl⟩⟩))
   go_ret
   exact ⟨by first|rfl|(simp;done)|(simp [*];done),by repeat (first|exact Drawn0.refl _|apply Drawn0.step)⟩
 ·replace c4:=Bool.eq_false_iff.mpr c4
  subst c4;have H1:(some (decide (a0<a1)))=some r:=by rw [if_neg (show ¬ (false=true) by decide)] at H;exact H
  clear H;have H:=H1;clear H1;obtain rfl:=zSi H;go_enter Tra.func83,Tra.ntmps83
  go_wp2_with (first|((with_reducible refine y08 (f:=95) rfl ?_);refine y0n (some 6) rfl rfl Tra.func95 (by kernel_rfl) rfl #[.int .i64 a0] rfl (by (try simp only [List.map_toArray,List.map_cons,List.map_nil]);first|done|rfl|(simp only [List.length_drop,List.length_take];rfl)) ?_;(with_reducible refine (cmp_isNaN_int.calls a0 false _ A3.out).mono ?_);rintro e w' ⟨rfl,⟨nd,rfl⟩⟩;refine ⟨_,rfl,?_⟩))
  go_ret
  exact ⟨by first|rfl|(simp;done)|(simp [*];done),by repeat (first|exact Drawn0.refl _|apply Drawn0.step)⟩
end
end Go.Proofs.Ytfgcijifdbgpaaa.Q
