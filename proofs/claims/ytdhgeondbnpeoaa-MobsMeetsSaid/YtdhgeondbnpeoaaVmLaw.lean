/- What is proved: the statement of MobsMeets, for every input, without any condition. -/
import Derived.Test.YtdhgeondbnpeoaaVmF
import Derived.Test.YtdhgeondbnpeoaaRows
import Derived.ProofKit
import Derived.OpenShut
import Derived.ShutString
import Derived.ChangeOld
set_option linter.unnecessarySimpa false
set_option linter.defProp false
set_option linter.unusedVariables false
set_option maxRecDepth 100000
set_option maxHeartbeats 8000000
namespace Go.Proofs.Ytdhgeondbnpeoaa.mobsMeets
open Go.ChangeShapes Go.WideShapes Go.ChangeAt Go.RowKit
open Go.ChangeMaps (open_string shut_string)
theorem own:ownKnob Try.prog.godebug=none:=by kernel_rfl
theorem laidOut:laidOutB Try.prog=true:=by kernel_rfl
def IsRow (k:IntKind) (w:World) (a:Option Addr) (len cap:Nat) (zs:List Int):Prop :=
 (a=none∧len=0∧cap=0∧zs=[]) ∨
 ∃ x,a=some x∧len≤cap∧cap≤maxLen∧zs.length=cap∧(∀ i,i<zs.length->w.cell? (x.add i)=some (.int k (zs.getD i 0)))∧∀ n ∈ zs,(Lit.int k n).wf=true
theorem lifted (os:Os) (started:os.Started) (H:Type) (enc:TypeId × Value->H) :
  ReturnsInLeavingWide {} Try.checked os 8 .any (Rows.mobsMeetsSpec.pre6 enc Try.prog Try.f8 Rows.mobsMeetsRow.domain false) (Rows.mobsMeetsSpec.post enc Try.prog Try.f8 false true false false):=by
 refine Ca.leaving_sized (C:=Try.checked) own started Ca.some_block Try.func8
  (ChangeSpec.witness6 (enc:=enc) (C:=Try.checked) false ⟨#[],#[.slice none 0 0,.slice none 0 0],[]⟩ 8 (by kernel_rfl) (by kernel_rfl) (by kernel_rfl) (by kernel_rfl)) ?_
 intro W base args ds gs before h0W hval0 hW hcnd hsz0 _;have hsz:(DataW.weightsEach Try.prog (Try.f8.params.toList ++ Rows.mobsMeetsSpec.plain.varTypes Try.prog) (ds ++ gs)).all (·≤reachBytes)=true:=hsz0;have hval:∀ (j:Nat) t v,Try.f8.params[j]?=some t->args[j]?=some v->Value.okWide Try.prog W .any base t v:=hval0;have hW':=hW;obtain ⟨p,q,hA0,hV,rfl,hfz,hnd⟩:=hW;have hA:DataW.TrodAll enc Try.prog W 0 (fun _=>true) true Try.f8.params.toList args.toList ds p:=hA0;rw [Try.params8] at hA hval hsz;obtain ⟨v0,vs0,d0,ds0,p0,q0,hargs,rfl,rfl,h0,r0⟩:=trodAll_cons hA;obtain ⟨v1,vs1,d1,ds1,p1,q1,rfl,rfl,rfl,h1,r1⟩:=trodAll_cons r0;obtain ⟨rfl,rfl,rfl⟩:=trodAll_nil r1;obtain rfl:args=#[v0,v1]:=by cases args;simp_all
 obtain ⟨rfl,rfl⟩:=trodVars_none hV;obtain ⟨a0,len0,cap0,rfl⟩:=okWide_slice Try.underlying29 (hval 0 29 v0 rfl rfl);have k0:=h0;have lt0:∀ x ∈ p0,x.block<W.heap.size:=by obtain ⟨m,hm⟩:=k0;exact DataW.trod_lt m _ _ _ hm
 obtain ⟨z0,w0⟩:∃ zs,IsRow .i64 W a0 len0 cap0 zs:=by
  obtain ⟨fuel,hf⟩:=h0;rcases open_ints Try.underlying29 Try.underlying3 (by kernel_rfl) hf with ⟨hcs,_⟩|⟨x,l,c,zs,hcs,_,hl,hm,hz,_,hcell,hwz⟩
  ·simp [Value.cells] at hcs
   obtain ⟨rfl,rfl,rfl⟩:=hcs;exact ⟨[],.inl ⟨rfl,rfl,rfl,rfl⟩⟩
  ·simp [Value.cells] at hcs
   obtain ⟨rfl,rfl,rfl⟩:=hcs;exact ⟨zs,.inr ⟨_,rfl,hl,hm,by simpa using hz,hcell,hwz⟩⟩
 have y0:len0 * 8≤140737488351232:=Go.Proofs.Yw.Wd.sized_ints hsz (j:=0) (t:=29) rfl rfl Try.underlying29 Try.underlying3 (by kernel_rfl) (by kernel_rfl) h0;obtain ⟨a1,len1,cap1,rfl⟩:=okWide_slice Try.underlying29 (hval 1 29 v1 rfl rfl);have k1:=h1;have lt1:∀ x ∈ p1,x.block<W.heap.size:=by obtain ⟨m,hm⟩:=k1;exact DataW.trod_lt m _ _ _ hm
 obtain ⟨z1,w1⟩:∃ zs,IsRow .i64 W a1 len1 cap1 zs:=by
  obtain ⟨fuel,hf⟩:=h1;rcases open_ints Try.underlying29 Try.underlying3 (by kernel_rfl) hf with ⟨hcs,_⟩|⟨x,l,c,zs,hcs,_,hl,hm,hz,_,hcell,hwz⟩
  ·simp [Value.cells] at hcs
   obtain ⟨rfl,rfl,rfl⟩:=hcs;exact ⟨[],.inl ⟨rfl,rfl,rfl,rfl⟩⟩
  ·simp [Value.cells] at hcs
   obtain ⟨rfl,rfl,rfl⟩:=hcs;exact ⟨zs,.inr ⟨_,rfl,hl,hm,by simpa using hz,hcell,hwz⟩⟩
 have y1:len1 * 8≤140737488351232:=Go.Proofs.Yw.Wd.sized_ints hsz (j:=1) (t:=29) rfl rfl Try.underlying29 Try.underlying3 (by kernel_rfl) (by kernel_rfl) h1;clear hA0 hval0 hsz0 hsz;have hok:∀ d ∈ ([⟨a0,len0,cap0,z0⟩,⟨a1,len1,cap1,z1⟩]:List Ca.SlD),d.ok W:=by
   intro d hd;simp only [List.mem_cons,List.not_mem_nil,or_false] at hd;rcases hd with rfl|rfl
   ·exact Ca.sl_ok (hval 0 29 _ rfl rfl) w0
   ·exact Ca.sl_ok (hval 1 29 _ rfl rfl) w1
 obtain ⟨M,last,o,w',t',h1,h2,h3,v',e0,⟨hv,bel⟩,r0⟩:=Ca.law_runS (f:=8) (W:=W) h0W [⟨a0,len0,cap0,z0⟩,⟨a1,len1,cap1,z1⟩] hok (fun ds=>match ds with|[d0,d1]=>#[d0.val,d1.val]|_=>#[]) (by kernel_rfl) Tra.func8 (by decide) (by decide) (by kernel_rfl)
  (fun K L ds' hl h=>by
   match ds',hl with
   |[d0,d1],_=>exact Ca.relPs_push (Ca.relPs_push (Ca.relPs_nil K L) (h 0 _ _ rfl rfl)) (h 1 _ _ rfl rfl))
  (fun u ds' hl h=>by
   match ds',hl with
   |[d0,d1],_ =>
    obtain ⟨e0,_,_,o0⟩:=h 0 _ _ rfl rfl;obtain ⟨e1,_,_,o1⟩:=h 1 _ _ rfl rfl;show Calls Tra.prog 8 #[.slice d0.a d0.len d0.cap,.slice d1.a d1.len d1.cap] u _;exact (P.w6_MobsMeets.walk Pure.MobsMeets d0.a d0.len d0.cap d0.zs d1.a d1.len d1.cap d1.zs u (Ca.SlD.row o0) (by rw [e0];exact y0) (Ca.SlD.row o1) (by rw [e1];exact y1)).mono fun e _ h=>h.1)
 subst hv;exact ⟨M,last,o,w',t',h1,h2,h3,_,e0,⟨_,_,_,[],_,[],hW',trodAll_mk1 (shut_bool Try.underlying4 _),(trodAll_cons_mk (Below.trod laidOut (by kernel_rfl) (zDo (by kernel_rfl)) k0 bel lt0) (trodAll_cons_mk (Below.trod laidOut (by kernel_rfl) (zDo (by kernel_rfl)) k1 bel lt1) trodAll_mk0)),rfl,bel.frame _,fun h=>by cases h⟩,r0⟩
theorem over:Rows.mobsMeetsRow.holds Try.pinned (OpenSpec.ofChange Rows.mobsMeetsSpec) :=
 OpenClaim.holds_of_wide_leaving 8 Try.f8 rfl rfl rfl rfl rfl rfl rfl ⟨rfl,rfl,rfl,rfl,rfl⟩ rfl rfl rfl rfl rfl (by kernel_rfl) Try.func8 (by kernel_rfl)
  (zDo (by kernel_rfl)) (by unfold Func.isWrapper;(rw [if_neg (by decide +kernel)];exact ⟨rfl,rfl⟩))
  (fun os started H enc _=>lifted os started H enc)
theorem proved:Rows.MobsMeetsSaid:=over
end Go.Proofs.Ytdhgeondbnpeoaa.mobsMeets
namespace Go.Proofs.Ytdhgeondbnpeoaa
theorem mobsMeets_holds:Rows.MobsMeetsSaid:=mobsMeets.proved
end Go.Proofs.Ytdhgeondbnpeoaa
