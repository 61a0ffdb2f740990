/- What is proved: the statement of TopJoined, for every input, without any condition. -/
import Derived.Test.YtfgcijifdbgpaaaVjF
import Derived.Test.YtfgcijifdbgpaaaRows
import Derived.ProofKit
import Derived.OpenShut
import Derived.ShutString
import Derived.ChangeOld
import Derived.SizedLaws
set_option linter.unnecessarySimpa false
set_option linter.defProp false
set_option linter.unusedVariables false
set_option maxRecDepth 100000
set_option maxHeartbeats 8000000
namespace Go.Proofs.Ytfgcijifdbgpaaa.topJoined
open Go.ChangeShapes Go.WideShapes Go.ChangeAt Go.RowKit
theorem own:ownKnob Try.prog.godebug=none:=by kernel_rfl
theorem laidOut:laidOutB Try.prog=true:=by kernel_rfl
theorem lifted (os:Os) (started:os.Started) (H:Type) (enc:TypeId × Value->H) :
  ReturnsInLeavingWide {} Try.checked os 3 .any (Rows.topJoinedSpec.pre6 enc Try.prog Try.f3 Rows.topJoinedRow.domain false) (Rows.topJoinedSpec.post enc Try.prog Try.f3 false true false false):=by
 refine Ca.leaving_sized (C:=Try.checked) own started Ca.some_block Try.func3
  (ChangeSpec.witness6 (enc:=enc) (C:=Try.checked) false ⟨#[],#[.int .i64 0,.slice none 0 0,.int .u32 0],[]⟩ 8 (by kernel_rfl) (by kernel_rfl) (by kernel_rfl) (by kernel_rfl)) ?_
 intro W base args ds gs before h0W hval0 hW hcnd hsz0 _;have hval:∀ (j:Nat) t v,Try.f3.params[j]?=some t->args[j]?=some v->Value.okWide Try.prog W .any base t v:=hval0;have hW':=hW;obtain ⟨p,q,hA0,hV,rfl,hfz,hnd⟩:=hW;have hA:DataW.TrodAll enc Try.prog W 0 (fun _=>true) true Try.f3.params.toList args.toList ds p:=hA0;rw [Try.params3] at hA hval;obtain ⟨v0,vs0,d0,ds0,p0,q0,hargs,rfl,rfl,h0,r0⟩:=trodAll_cons hA;obtain ⟨v1,vs1,d1,ds1,p1,q1,rfl,rfl,rfl,h1,r1⟩:=trodAll_cons r0;obtain ⟨v2,vs2,d2,ds2,p2,q2,rfl,rfl,rfl,h2,r2⟩:=trodAll_cons r1;obtain ⟨rfl,rfl,rfl⟩:=trodAll_nil r2;obtain rfl:args=#[v0,v1,v2]:=by cases args;simp_all
 obtain ⟨rfl,rfl⟩:=trodVars_none hV;have k0:=h0;have lt0:∀ x ∈ p0,x.block<W.heap.size:=by obtain ⟨m,hm⟩:=k0;exact DataW.trod_lt m _ _ _ hm
 obtain ⟨n,rfl,_⟩:=open_int Try.underlying3 (hval 0 3 v0 rfl rfl) h0;have k1:=h1;have lt1:∀ x ∈ p1,x.block<W.heap.size:=by obtain ⟨m,hm⟩:=k1;exact DataW.trod_lt m _ _ _ hm
 obtain ⟨a1,len1,cap1,rfl⟩:=okWide_slice Try.underlying22 (hval 1 22 v1 rfl rfl);have k2:=h2;have lt2:∀ x ∈ p2,x.block<W.heap.size:=by obtain ⟨m,hm⟩:=k2;exact DataW.trod_lt m _ _ _ hm
 obtain ⟨wh,rfl,_⟩:=open_int Try.underlying23 (hval 2 23 v2 rfl rfl) h2;obtain ⟨l,hlc,hle,hok1⟩:∃ l:List P.S28,l.length=cap1∧len1≤cap1∧(⟨a1,len1,cap1,Ca.tiesC l⟩:Ca.SlD).ok W:=by
  obtain ⟨fuel,hf⟩:=h1;rcases Ca.open_ties hf with hcs|⟨x,ln,c,l,hcs,hl,hm,hz,hcell⟩
  ·simp [Value.cells] at hcs
   obtain ⟨rfl,rfl,rfl⟩:=hcs;exact ⟨[],rfl,zLe _,.inl ⟨rfl,rfl,rfl,rfl⟩⟩
  ·simp [Value.cells] at hcs
   obtain ⟨rfl,rfl,rfl⟩:=hcs;obtain ⟨_,hsp,row,cells,hs,_⟩:=Ca.has_of Try.underlying22 (hval 1 22 _ rfl rfl);refine ⟨l,hz,hl,.inr ⟨x,rfl,hsp,?_,hl,hm,by rw [Ca.tiesC_len,hz],fun i hi=>Ca.tiesC_get l hi W x hcell,Ca.tiesC_flat l⟩⟩;unfold World.shape? at hs;cases hb:W.heap[x.block]? with
   |none=>rw [hb] at hs;simp at hs
   |some o =>
    rw [hb] at hs;cases o with
    |cells cs e fr=>exact ⟨cs,e,fr,rfl⟩
    |_=>simp at hs
 clear hA0 hval0 hsz0;have hok:∀ d ∈ ([⟨a1,len1,cap1,Ca.tiesC l⟩]:List Ca.SlD),d.ok W:=by
   intro d hd;simp only [List.mem_cons,List.not_mem_nil,or_false] at hd;rcases hd with rfl
   exact hok1
 obtain ⟨M,last,o,w',t',h1,h2,h3,v',e0,⟨hv,bel⟩,r0⟩:=Ca.law_runS (f:=3) (W:=W) h0W [⟨a1,len1,cap1,Ca.tiesC l⟩] hok (fun ds=>match ds with|[d1]=>#[.int .i64 n,d1.val,.int .u32 wh]|_=>#[]) (by kernel_rfl) Tra.func3 (by decide) (by decide) (by kernel_rfl)
  (fun K L ds' hl h=>by
   match ds',hl with
   |[d1],_=>exact Ca.relPs_push (Ca.relPs_push (Ca.relPs_push (Ca.relPs_nil K L) (.flat rfl)) (h 0 _ _ rfl rfl)) (.flat rfl))
  (fun u ds' hl h=>by
   match ds',hl with
   |[d1],_ =>
    obtain ⟨e1,e2,e3,o1⟩:=h 0 _ _ rfl rfl;simp only at e1 e2 e3;have hC:=Ca.ties_C o1 e3 (by rw [e2];exact hlc) (by rw [e1,e2];exact hle);have hln:(l.take d1.len).length=d1.len:=by rw [List.length_take,e1];omega
    obtain ⟨k,hk⟩:=Pure.TopJoined n (l.take d1.len) wh;have hc:=P.drovewaytop_TopJoined.calls k n d1.a d1.cap (l.take d1.len) wh true u (by rw [hln];exact hC) (by rw [hln,e1,e2];exact hle) hk;rw [hln] at hc;exact hc.mono fun e _ h=>h.1)
 subst hv;exact ⟨M,last,o,w',t',h1,h2,h3,_,e0,⟨_,_,_,[],_,[],hW',trodAll_mk1 (shut_bool Try.underlying4 _),(trodAll_cons_mk (Below.trod laidOut (by kernel_rfl) (zDo (by kernel_rfl)) k0 bel lt0) (trodAll_cons_mk (Below.trod laidOut (by kernel_rfl) (zDo (by kernel_rfl)) k1 bel lt1) (trodAll_cons_mk (Below.trod laidOut (by kernel_rfl) (zDo (by kernel_rfl)) k2 bel lt2) trodAll_mk0))),rfl,bel.frame _,fun h=>by cases h⟩,r0⟩
theorem over:Rows.topJoinedRow.holds Try.pinned (OpenSpec.ofChange Rows.topJoinedSpec) :=
 OpenClaim.holds_of_wide_leaving 3 Try.f3 rfl rfl rfl rfl rfl rfl rfl ⟨rfl,rfl,rfl,rfl,rfl⟩ rfl rfl rfl rfl rfl (by kernel_rfl) Try.func3 (by kernel_rfl)
  (zDo (by kernel_rfl)) (by unfold Func.isWrapper;first|(rw [if_pos (by decide +kernel)];kernel_rfl)|(rw [if_neg (by decide +kernel)];exact ⟨rfl,rfl⟩))
  (fun os started H enc _=>lifted os started H enc)
theorem proved:Rows.TopJoinedSaid:=over
end Go.Proofs.Ytfgcijifdbgpaaa.topJoined
namespace Go.Proofs.Ytfgcijifdbgpaaa
theorem topJoined_holds:Rows.TopJoinedSaid:=topJoined.proved
end Go.Proofs.Ytfgcijifdbgpaaa
