/- The theorem of TopJoined, proved; part 2 of 7: its texts, merged. -/
import Derived.Test.YtfgcijifdbgpaaaVjA
import Derived.Conc.WgGenN3
import Derived.Test.YtfgcijifdbgpaaaProg
set_option linter.unnecessarySimpa false
set_option linter.defProp false
set_option linter.unusedVariables false
set_option linter.unusedSimpArgs false
set_option linter.unusedSectionVars false
set_option maxRecDepth 100000
set_option maxHeartbeats 8000000
namespace Go.Mt
open Go.Tr Go.Conc Go.ConcN
open Go.ConcR (KK wgBlock WgAt stA smA rd wr Payload DC0 Bk g_of_ofEvents again_blocked bk_of_mute ofEvent_loc_mark ofEvent_cell loc_of_ofEvent)
variable [Payload]
section
variable {H:PH} {Fin:Goroutine->World->Prop} {AnchW:Goroutine->World->Prop} {gs:Array Goroutine} {w w':World} {sl:Option (Nat × Nat)} {j:Nat} {D:Nat->WD} {tag:CTag} {f0 d0:Nat} {a:Goroutine} {t u:Trace} {st sm:Int}
  {L:Nat->List Nat} {R:Nat->y2c} {q:Nat->Nat} {μ:Mu}
theorem yam {R:Nat->y2c} {i:Nat} {ρ:y2c} {A B:Nat} {y y':Nat × Nat} (hi:i<2) (h:WLt ρ (R i)):MLt (A,B,upd R i ρ 0,upd R i ρ 1,y') (A,B,R 0,R 1,y):=by
 obtain rfl|rfl:i=0∨i=1:=by omega
 ·rw [upd_same]
  exact .w1 h
 ·rw [upd_same,upd_ne R _ (by omega)]
  exact .w2 h
theorem y88 (hP:H.Ok) (hAr:∀ g w,AnchW g w->g.status=.running) (ha:gs[0]?=some a) (hms:MSit H Fin AnchW tag j f0 d0 a w) (h:Com H j gs w t D d0 L R q)
  {i:Nat} (hi:i<j) {g g':Goroutine} {es:Array Event} {L':List Nat} {ρ:y2c} {dd:Nat} {st' sm':Int} (hg:gs[H.G.n0+i]?=some g) (hgo:stepG H.P false g w=.go g' w' es)
  (hT:Turn H i (L i) L' w w') (hw:Wit H i ρ dd L' g' w')
  (hev:∀ e ∈ es,(∀ x,(MemAct.ofEvent e).touch?=some x->(H.G.Sh x.loc∧x.kind=.atomic)∨(x.kind=.plain∧(H.G.Own (upd L i L' 0) (upd L i L' 1) (H.G.n0+i) x.loc∨(H.G.Rd (H.G.n0+i) x.loc∧x.write=false))))∧(MemAct.ofEvent e).low w'.heap.size∧∀ a,e.loc≠.mark (.release a))
  (hdeaf:deafBehind (D i).deaf es=dd) (hrel:ρ.1≤6->∃ r,RelBy (stA H.G.Wg) (t ++ MemOp.ofEvents (H.G.n0+i) g.frame.fn g.frame.place es) (H.G.n0+i) r) (hpost:ρ.1≤6->H.Post i L' w')
  (hwg:WgAt H.ty H.G.Wg w' st' sm')
  (hmode:∀ tag',(tag'=tag∨(tag=.blk∧tag'=.w3))->(mayWake H.P g=true->g'.status=.running->tag'≠.blk)->Go.ConcN.Mode j (upd D i ⟨ρ.1,0,dd⟩) tag' st' sm')
  (hlt:WLt ρ (R i)) (hμ:μ=(2 - j,sumTo H.G.n0 q,R 0,R 1,phi 2 (Vc j D) tag,f0)) :
  ∃ m₁ ops μ',runT H.P (crowd gs w sl) (H.G.n0+i)=(.next m₁,ops)∧MLt μ' μ∧Inv H Fin AnchW μ' m₁ (t ++ ops):=by
 have hj:=h.j12;have hn1:=hP.G.n1;obtain ⟨tag',f',hms',htag,hwk⟩:=hms.wokenBy hAr (fun _=>hT.live) g g';have hrun:=runT_crowd_go (P:=H.P) (sl:=sl) (i:=H.G.n0+i) hg (by rw [show (H.G.n0+i == 0)=false by simp;omega];exact hgo);have hcom:=h.stepW (gs':=(gs.map (woken H.P g g' w')).setIfInBounds (H.G.n0+i) g') (u:=MemOp.ofEvents (H.G.n0+i) g.frame.fn g.frame.place es) hP hi hT hw (by simp) (get_map_set_same _ _ _ (by rw [h.size];omega))
  (fun k x h0 hne hx hs=>by
   rw [get_map_set _ _ _ _ (Ne.symm hne),hx,Option.map_some];unfold Go.Conc.woken;split
   ·rw [again_running _ hs]
   ·rfl)
  (fun op hop=>by
   obtain ⟨e,he,rfl⟩:=Go.Conc.mem_ofEvents hop;exact ⟨rfl,(hev e he).1⟩)
  (fun op hop=>by
   obtain ⟨e,he,rfl⟩:=Go.Conc.mem_ofEvents hop;exact (hev e he).2.1)
  (fun op hop x hx=>by
   obtain ⟨e,he,rfl⟩:=Go.Conc.mem_ofEvents hop;exact (hev e he).2.2 x (loc_of_ofEvent hx))
  (by rw [Deaf_own,h.deafW i hi];exact hdeaf) hrel hpost
 refine ⟨_,_,(2 - j,sumTo H.G.n0 q,upd R i ρ 0,upd R i ρ 1,phi 2 (Vc j (upd D i ⟨ρ.1,0,dd⟩)) tag',f'),hrun,?_,_,w',sl,j,_,tag',f',d0,_,st',sm',_,_,q,rfl,?_,hms',hcom,hwg,hmode tag' htag hwk,rfl⟩
 ·rw [hμ]
  exact yam (by omega) hlt
 ·rw [get_map_set _ _ _ _ (by omega),ha]
  rfl
theorem yiw {i:Nat} {L':List Nat} {e:Event} (hi:i<2) (hG:H.G.Ok) (hN:H.G.N0≤w'.heap.size) (hin:∀ b,b ∈ L'->H.G.N0≤b∧b<w'.heap.size) (h:EvP H.G.Vis (H.Wr i) L' e) :
  (∀ x,(MemAct.ofEvent e).touch?=some x->(H.G.Sh x.loc∧x.kind=.atomic)∨(x.kind=.plain∧(H.G.Own (upd L i L' 0) (upd L i L' 1) (H.G.n0+i) x.loc∨(H.G.Rd (H.G.n0+i) x.loc∧x.write=false))))∧(MemAct.ofEvent e).low w'.heap.size∧∀ a,e.loc≠.mark (.release a):=by
 have hrd:∀ b l,H.G.Vis b->inB b l->H.G.Rd (H.G.n0+i) l:=fun b l hv hl=>⟨by omega,b,hv,hl⟩
 have hown:∀ b l,b ∈ L'->inB b l->H.G.Own (upd L i L' 0) (upd L i L' 1) (H.G.n0+i) l:=by
  intro b l hb hl;obtain rfl|rfl:i=0∨i=1:=by omega
  ·exact .inl ⟨rfl,b,by rw [upd_same];exact hb,hl⟩
  ·exact .inr ⟨rfl,.inl ⟨b,by rw [upd_same];exact hb,hl⟩⟩
 cases h with
 |@read a hr =>
  have hlow:a.block<w'.heap.size:=by
   rcases hr with hr|hr
   ·have:=(hG.vis _ hr).1;omega
   ·exact (hin _ hr).2
  refine ⟨fun x hx=>?_,hlow,fun a=>by simp⟩;simp only [ofEvent_cell,MemAct.touch?,Option.some.injEq] at hx;subst hx;refine .inr ⟨rfl,?_⟩;rcases hr with hr|hr
  ·exact .inr ⟨hrd _ _ hr rfl,rfl⟩
  ·exact .inl (hown _ _ hr rfl)
 |@write a hr =>
  have hlow:a.block<w'.heap.size:=by
   rcases hr with hr|⟨_,hr⟩
   ·exact (hin _ hr).2
   ·have:=hG.lh;omega
  refine ⟨fun x hx=>?_,hlow,fun a=>by simp⟩;simp only [ofEvent_cell,MemAct.touch?,Option.some.injEq] at hx;subst hx;refine .inr ⟨rfl,.inl ?_⟩;rcases hr with hr|⟨rfl,hr⟩
  ·exact hown _ _ hr rfl
  ·exact .inr ⟨rfl,.inr hr⟩
 |@map r wr hr =>
  have he:MemAct.ofEvent ⟨.obj r,wr,false⟩=.access ⟨.obj r,wr,false⟩:=by cases wr<;>rfl
  rw [he];refine ⟨fun x hx=>?_,(hin _ hr).2,fun a=>by simp⟩;simp only [MemAct.touch?,Option.some.injEq] at hx;subst hx;exact .inr ⟨rfl,.inl (hown r _ hr rfl)⟩
 |room=>exact ⟨fun x hx=>by simp [MemAct.ofEvent,MemAct.touch?] at hx,trivial,fun a=>by simp⟩
theorem bk_well {i:Nat} {L':List Nat} {e:Event} (hW:H.G.Wg<w'.heap.size) (h:Bk H.G.Wg e) :
  (∀ x,(MemAct.ofEvent e).touch?=some x->(H.G.Sh x.loc∧x.kind=.atomic)∨(x.kind=.plain∧(H.G.Own (upd L i L' 0) (upd L i L' 1) (H.G.n0+i) x.loc∨(H.G.Rd (H.G.n0+i) x.loc∧x.write=false))))∧(MemAct.ofEvent e).low w'.heap.size∧∀ a,e.loc≠.mark (.release a):=by
 rcases h with h1|h1|⟨a,wr,rfl,ha⟩
 ·exact ⟨fun x hx=>by rw [ofEvent_loc_mark h1] at hx;simp [MemAct.touch?] at hx,by rw [ofEvent_loc_mark h1];trivial,fun a=>by rw [h1];simp⟩
 ·exact ⟨fun x hx=>by rw [ofEvent_loc_mark h1] at hx;simp [MemAct.touch?] at hx,by rw [ofEvent_loc_mark h1];trivial,fun a=>by rw [h1];simp⟩
 ·refine ⟨fun x hx=>?_,?_,fun a=>by simp⟩
  ·simp only [ofEvent_cell,MemAct.touch?,Option.some.injEq] at hx
   subst hx;exact .inl ⟨.inr (.inl ha),by simp⟩
  ·rw [ofEvent_cell]
   show a.block<_;omega
theorem ydm {i:Nat} (h:Com H j gs w t D d0 L R q) (hi:i<j) (hwg:WgAt H.ty H.G.Wg w st sm):Turn H i (L i) (L i) w w:=by
 have hj:=h.j12;have hL:∀ b ∈ L i,H.G.N0≤b∧b<w.heap.size:=by
  obtain rfl|rfl:i=0∨i=1:=by omega
  ·exact h.fam.l1
  ·exact h.fam.l2
 exact ⟨rfl,rfl,rfl,zLe _,List.prefix_refl _,fun k b hk hl=>by have:=(List.getElem?_eq_some_iff.1 hk).1;omega,hL,fun _ _ _ _ _=>rfl,⟨_,_,hwg⟩⟩
theorem yf4 {i:Nat} (h:Com H j gs w t D d0 L R q) (hi:i<j) (hA:Aside H.G.Wg w w') (hwg:WgAt H.ty H.G.Wg w' st sm):Turn H i (L i) (L i) w w':=by
 have hj:=h.j12;have hL:∀ b ∈ L i,H.G.N0≤b∧b<w'.heap.size:=by
  rw [hA.size];obtain rfl|rfl:i=0∨i=1:=by omega
  ·exact h.fam.l1
  ·exact h.fam.l2
 exact ⟨hA.tape,hA.os,hA.output,by rw [hA.size];exact zLe _,List.prefix_refl _,fun k b hk hl=>by have:=(List.getElem?_eq_some_iff.1 hk).1;omega,hL,fun b _ _ hb _=>hA.block b hb,⟨_,_,hwg⟩⟩
theorem ydj (hP:H.Ok) (hAr:∀ g w,AnchW g w->g.status=.running) (ha:gs[0]?=some a) (hms:MSit H Fin AnchW tag j f0 d0 a w) (h:Com H j gs w t D d0 L R q)
  {i:Nat} (hi:i<j) {g g':Goroutine} {es:Array Event} {ρ:y2c} {dd:Nat} {st' sm':Int} (hg:gs[H.G.n0+i]?=some g) (hgo:stepG H.P false g w=.go g' w' es)
  (hA:Aside H.G.Wg w w') (hwg:WgAt H.ty H.G.Wg w' st' sm') (hw:Wit H i ρ dd (L i) g' w') (hbk:∀ e ∈ es,Bk H.G.Wg e)
  (hd:∀ jx e,es[jx]?=some e->(MemAct.ofEvent e).touch?=none∨0<deafBehind (D i).deaf (es.extract 0 jx)) (hdeaf:deafBehind (D i).deaf es=dd) (h6:(D i).stage≤6)
  (hmode:∀ tag',(tag'=tag∨(tag=.blk∧tag'=.w3))->(mayWake H.P g=true->g'.status=.running->tag'≠.blk)->Go.ConcN.Mode j (upd D i ⟨ρ.1,0,dd⟩) tag' st' sm')
  (hlt:WLt ρ (R i)) (hμ:μ=(2 - j,sumTo H.G.n0 q,R 0,R 1,phi 2 (Vc j D) tag,f0)) :
  ∃ m₁ ops μ',runT H.P (crowd gs w sl) (H.G.n0+i)=(.next m₁,ops)∧MLt μ' μ∧Inv H Fin AnchW μ' m₁ (t ++ ops):=by
 have hT:=yf4 h hi hA hwg;have hW:H.G.Wg<w'.heap.size:=by rw [hA.size];have:=hP.G.lw;have:=h.since.size;omega
 have hrely:H.R i (L i) w w':=by
  have hj:=h.j12;have hn1:=hP.G.n1;refine ⟨hA.os,hA.output,by rw [hA.size];exact zLe _,fun _=>⟨_,_,hwg⟩,fun b hb=>hA.block b ?_,fun b hb=>hA.block b ?_⟩
  ·rcases hb with hv|⟨_,rfl⟩|⟨_,rfl⟩
   ·exact (hP.G.vis b hv).2.2.2.1
   ·exact hP.G.cw
   ·exact hP.G.hw
  ·have:=(hT.within b hb).1
   have:=hP.G.lw;omega
 exact y88 hP hAr ha hms h hi hg hgo hT hw (fun e he=>bk_well hW (hbk e he)) hdeaf (fun _=>let ⟨r,hr⟩:=h.rel i hi h6;⟨r,hr.book (h.deafW i hi) _ _ hbk hd⟩)
  (fun _=>hP.post _ _ _ _ (h.post i hi h6) hrely) hwg hmode hlt hμ
end
end Go.Mt
namespace Go.Mt
open Go.Tr Go.Conc Go.ConcN
open Go.ConcR (KK wgBlock WgAt stA smA rd wr Payload DC0 Bk g_of_ofEvents again_blocked bk_of_mute ofEvent_loc_mark ofEvent_cell loc_of_ofEvent)
variable [Payload]
omit [Payload] in
theorem y5t {gs:Array Goroutine} {c:Nat} {s:Bool} (h:∀ g ∈ gs,g.status≠.blocked∨g.offers=none):partners gs c s=[]:=by
 unfold partners;rw [List.flatMap_eq_nil_iff]
 rintro ⟨g,i⟩ hx
 have hg:g ∈ gs:=by
  have:=List.fst_mem_of_mem_zipIdx (by simpa using hx);simpa using this
 rcases h g hg with h1|h1
 ·cases hs:g.status<;>first|exact absurd hs h1|simp [hs]
 ·cases hs:g.status<;>simp [hs,h1]
omit [Payload] in
theorem y6g {P:Program} {gs:Array Goroutine} {w w₁:World} {sl:Option (Nat × Nat)} {i c cap s r:Nat} {g b2:Goroutine} {v z':Value} {buf:Array Value} {tm:Bool} {es:Array Event} (hi:gs[i]?=some g)
  (h:stepG P (i == 0) g w=.comm b2 #[scase c v z'] true .send w₁ es) (hc:w₁.heap[c]?=some (.chan cap buf false s r tm)) (hroom:buf.size<cap) (hp:∀ x ∈ gs,x.status≠.blocked∨x.offers=none) :
  runT P (crowd gs w sl) i=(.next (crowd (gs.setIfInBounds i (Go.Conc.served b2 undef)) (w₁.setChan c cap (buf.push v) false (s+1) r tm) sl),
   MemOp.ofEvents i g.frame.fn g.frame.place es ++ #[{ g:=i,fn:=b2.frame.fn,pos:=b2.frame.place,act:=.send c s },{ g:=i,fn:=b2.frame.fn,pos:=b2.frame.place,act:=.sendDone c s }]):=by
 obtain ⟨hlt,rfl⟩:=zGe hi;have hsw:=swapAt_of_lt hlt { (default:Goroutine) with status:=.finished };have hpn:partners (gs.set i { (default:Goroutine) with status:=.finished } hlt) c false=[]:=y5t fun x hx=>by
  rcases Array.mem_or_eq_of_mem_set hx with hx|rfl
  ·exact hp x hx
  ·exact .inl (by simp)
 show runT P { world:=w,gs:=gs,rest:={ timers:=#[],alone:=none,slice:=sl } } i=_;unfold runT;simp only [hsw,h,GStep.es];simp [communicate,ways,scase,hc,hpn,hroom,choose,Sem.run,Question.forced,bind,Sem.bind,pure,Goroutine.finishComm,commResult,Go.Conc.served,World.setChan,crowd,set_setIfInBounds]
section
variable {H:PH} {Fin:Goroutine->World->Prop} {AnchW:Goroutine->World->Prop} {gs:Array Goroutine} {w w':World} {sl:Option (Nat × Nat)} {j:Nat} {D:Nat->WD} {tag:CTag} {f0 d0:Nat} {a:Goroutine} {t u:Trace} {st sm:Int}
  {L:Nat->List Nat} {R:Nat->y2c} {q:Nat->Nat} {μ:Mu}
theorem nobody (hAr:∀ g w,AnchW g w->g.status=.running) (ha:gs[0]?=some a) (hms:MSit H Fin AnchW tag j f0 d0 a w) (h:Com H j gs w t D d0 L R q):∀ g ∈ gs,g.status≠.blocked∨g.offers=none:=by
 intro g hg;obtain ⟨i,hi⟩:=Array.mem_iff_getElem?.1 hg
 by_cases h0:i=0
 ·subst h0
  rw [ha] at hi;obtain rfl:=zSi hi;rcases hms.status hAr with ⟨hs,_⟩|⟨_,ho,_⟩
  ·exact .inl (by rw [hs];simp)
  ·exact .inr ho
 ·have hst:g.status=.running∨g.status=.finished:=by
   rcases Nat.lt_or_ge i H.G.n0 with hlt|hge
   ·exact (h.old i g (by omega) hlt hi).status
   ·have hlt:=(zGe hi).1
    rw [h.size] at hlt;obtain ⟨x,hx,hs,_⟩:=h.wk (i - H.G.n0) (by omega);rw [show H.G.n0+(i - H.G.n0)=i by omega,hi] at hx;obtain rfl:=zSi hx;exact hs.status
  exact .inl (by rcases hst with h|h<;>rw [h]<;>simp)
theorem ydi (hP:H.Ok) (hAr:∀ g w,AnchW g w->g.status=.running) (ha:gs[0]?=some a) (hms:MSit H Fin AnchW tag j f0 d0 a w) (h:Com H j gs w t D d0 L R q) (hwg:WgAt H.ty H.G.Wg w st sm)
  (hmode:Go.ConcN.Mode j D tag st sm) {g:Goroutine} (hg:gs[H.G.n0]?=some g) {r:Rk} (hR:R 0=(7,1,r)) (hs:(D 0).stage=7) (hdz:(D 0).deaf=0) (hj:0<j) (hst:H.AtSend (L 0) g w) (hμ:μ=(2 - j,sumTo H.G.n0 q,R 0,R 1,phi 2 (Vc j D) tag,f0)) :
  ∃ m₁ ops μ',runT H.P (crowd gs w sl) H.G.n0=(.next m₁,ops)∧MLt μ' μ∧Inv H Fin AnchW μ' m₁ (t ++ ops):=by
 obtain ⟨hrun,v,z',b2,s,r0,hstep,hc,hgo⟩:=hst;have hG:=hP.G;have hn1:=hG.n1;have h0:(H.G.n0 == 0)=false:=by simp;omega
 have hr:=y6g (sl:=sl) hg (by rw [h0];exact hstep) hc (by simp) (nobody hAr ha hms h);obtain ⟨rk,hwr⟩:=WR.of_walk hgo;have hcl:H.G.c<w.heap.size:=(zGe hc).1;have hsz:(w.setChan H.G.c 1 #[v] false (s+1) r0 false).heap.size=w.heap.size:=by simp [World.setChan]
 have hget:∀ b,b≠H.G.c->(w.setChan H.G.c 1 #[v] false (s+1) r0 false).heap[b]?=w.heap[b]?:=by
  intro b hb;simp only [World.setChan];rw [Array.getElem?_setIfInBounds_ne (Ne.symm hb)]
 have hwg':WgAt H.ty H.G.Wg (w.setChan H.G.c 1 #[v] false (s+1) r0 false) st sm:=(hget _ (Ne.symm hG.cw)).trans hwg;have hT:Turn H 0 (L 0) (L 0) w (w.setChan H.G.c 1 #[v] false (s+1) r0 false):=by
  refine ⟨rfl,rfl,rfl,by rw [hsz];exact zLe _,List.prefix_refl _,fun k b hk hl=>by have:=(List.getElem?_eq_some_iff.1 hk).1;omega,by rw [hsz];exact h.fam.l1,fun b _ _ _ hx=>hget b fun e=>hx (.inl ⟨rfl,e⟩),⟨_,_,hwg'⟩⟩
 have e0:MemOp.ofEvents H.G.n0 g.frame.fn g.frame.place #[]=#[]:=by rw [ofEvents_eq];simp
 rw [e0,Array.empty_append] at hr;have hops:∀ op ∈ (#[{ g:=H.G.n0,fn:=b2.frame.fn,pos:=b2.frame.place,act:=.send H.G.c s },{ g:=H.G.n0,fn:=b2.frame.fn,pos:=b2.frame.place,act:=.sendDone H.G.c s }]:Trace),op.g=H.G.n0∧op.act.touch?=none∧op.act.low w.heap.size∧(∀ a,op.act≠.mark (.release a))∧op.act≠.mark .disable∧op.act≠.mark .enable:=by
  intro op hop;rcases y2x hop with rfl|rfl
  ·exact ⟨rfl,rfl,hcl,fun a=>by simp,by simp,by simp⟩
  ·exact ⟨rfl,rfl,hcl,fun a=>by simp,by simp,by simp⟩
 have hcom:=h.stepW (gs':=gs.setIfInBounds H.G.n0 (Go.Conc.served b2 undef)) (u:=#[{ g:=H.G.n0,fn:=b2.frame.fn,pos:=b2.frame.place,act:=.send H.G.c s },{ g:=H.G.n0,fn:=b2.frame.fn,pos:=b2.frame.place,act:=.sendDone H.G.c s }]) (ρ:=(7,0,rk)) (dd:=0) hP hj hT (.s7 hwr) (by simp)
  (by show (gs.setIfInBounds H.G.n0 _)[H.G.n0]?=_;rw [Array.getElem?_setIfInBounds_self_of_lt (by rw [h.size];omega)])
  (fun k x h0 hne hx _=>by rw [Array.getElem?_setIfInBounds_ne (show H.G.n0≠k from Ne.symm hne)];exact hx)
  (fun op hop=>⟨(hops op hop).1,fun x hx=>by rw [(hops op hop).2.1] at hx;cases hx⟩)
  (fun op hop=>by rw [hsz];exact (hops op hop).2.2.1) (fun op hop=>(hops op hop).2.2.2.1)
  (by rw [Deaf_still t _ _ fun op hop=>(hops op hop).2.2.2.2];exact (h.deafW 0 hj).trans hdz) (fun h=>by simp at h) (fun h=>by simp at h)
 have hDs:∀ x,x<j->(upd D 0 ⟨7,0,0⟩ x).stage=(D x).stage:=by
  intro x hx
  by_cases e:x=0
  ·subst e;rw [upd_same];exact hs.symm
  ·rw [upd_ne D _ e]
 refine ⟨_,_,(2 - j,sumTo H.G.n0 q,upd R 0 (7,0,rk) 0,upd R 0 (7,0,rk) 1,phi 2 (Vc j (upd D 0 ⟨7,0,0⟩)) tag,f0),hr,?_,_,_,sl,j,_,tag,f0,d0,a,st,sm,_,_,q,rfl,?_,hms.rely (fun _=>⟨_,_,hwg'⟩),hcom,hwg',hmode.congr hDs,rfl⟩
 ·rw [hμ]
  refine yam (by omega) ?_;rw [hR];exact .sub (by omega)
 ·rw [Array.getElem?_setIfInBounds_ne (by omega)]
  exact ha
theorem ydp (hP:H.Ok) (hAr:∀ g w,AnchW g w->g.status=.running) (ha:gs[0]?=some a) (hms:MSit H Fin AnchW tag j f0 d0 a w) (h:Com H j gs w t D d0 L R q) (hwg:WgAt H.ty H.G.Wg w st sm)
  (hmode:Go.ConcN.Mode j D tag st sm) {i:Nat} (hi:i<j) {g:Goroutine} (hg:gs[H.G.n0+i]?=some g) (hrun:g.status=.running) (hμ:μ=(2 - j,sumTo H.G.n0 q,R 0,R 1,phi 2 (Vc j D) tag,f0)) :
  ∃ m₁ ops μ',runT H.P (crowd gs w sl) (H.G.n0+i)=(.next m₁,ops)∧MLt μ' μ∧Inv H Fin AnchW μ' m₁ (t ++ ops):=by
 obtain ⟨g₁,hg₁,hs,hst⟩:=h.wk i hi;obtain rfl:g=g₁:=by rw [hg] at hg₁;exact zSi hg₁
 have hj:=h.j12;have hG:=hP.G;have hN:=h.since.size;have hVj:=Vc_le j D;generalize hRi:R i=ρ at hs hst;generalize hde:(D i).deaf=dd at hs;have hdk:Deaf t (H.G.n0+i)=dd:=by rw [h.deafW i hi,hde]
 have hLi:∀ b ∈ L i,H.G.N0≤b∧b<w.heap.size:=by
  obtain rfl|rfl:i=0∨i=1:=by omega
  ·exact h.fam.l1
  ·exact h.fam.l2
 have hN':∀ w':World,w.heap.size≤w'.heap.size->H.G.N0≤w'.heap.size:=fun _ h=>Nat.le_trans hN h
 have work:∀ {r r':Rk} {u:Nat} {L':List Nat} {g':Goroutine} {w':World} {es:Array Event},R i=(7,u,r)->dd=0->RkLt r' r->stepG H.P false g w=.go g' w' es->H.D i (L i) L' w w' es->Wit H i (7,u,r') 0 L' g' w'->(D i).stage=7 →
   ∃ m₁ ops μ',runT H.P (crowd gs w sl) (H.G.n0+i)=(.next m₁,ops)∧MLt μ' μ∧Inv H Fin AnchW μ' m₁ (t ++ ops):=by
  intro r r' u L' g' w' es hR hd0 hlt hgo hD hw h7;have hwg':WgAt H.ty H.G.Wg w' st sm:=(hD.block _ (by have:=hG.lw;omega) (fun x=>by have:=(hD.within _ x).1;have:=hG.lw;omega) (fun x=>hG.hw x.2.symm)).trans hwg;have hT:Turn H i (L i) L' w w':=⟨hD.tape,hD.os,hD.output,hD.size,hD.pre,hD.news,hD.within,fun b h1 h2 _ h4=>hD.block b h1 h2 fun x=>h4 (.inr x),⟨_,_,hwg'⟩⟩
  refine y88 (ρ:=(7,u,r')) (dd:=0) hP hAr ha hms h hi hg hgo hT hw (fun e he=>yiw (by omega) hG (hN' _ hD.size) hD.within (hD.evs e he)) ?_ (fun x=>by simp at x) (fun x=>by simp at x) hwg' (fun tag' htag _=>Go.ConcN.Mode.retag ?_ htag) (by rw [hR];exact .rk hlt) hμ
  ·rw [hde,hd0]
   refine deafBehind_idle (fun e he=>?_) 0;cases hD.evs e he<;>simp
  ·have:=hmode.same (i:=i) 0 0
   rwa [h7] at this
 have bookG:∀ {C s m s' m' dd':Nat} {v:Value} {g':Goroutine} {w':World} {es:Array Event} {st' sm':Int},R i=(s,0,rkN m)->H.Kp i C->C≠H.G.Wg->stepG H.P false g w=.go g' w' es->Aside H.G.Wg w w'->WgAt H.ty H.G.Wg w' st' sm'->(∀ e ∈ es,Bk H.G.Wg e) →
   (∀ jx e,es[jx]?=some e->(MemAct.ofEvent e).touch?=none∨0<deafBehind dd (es.extract 0 jx))->WSit H.P H.ty H.G.Wg C 0 No No 0 1 v s' m' dd' g' w'->s'≤6->deafBehind dd es=dd'->(D i).stage≤6 →
   (∀ tag',(tag'=tag∨(tag=.blk∧tag'=.w3))->(mayWake H.P g=true->g'.status=.running->tag'≠.blk)->Go.ConcN.Mode j (upd D i ⟨s',0,dd'⟩) tag' st' sm')->(s'<s∨(s'=s∧m'+1=m)) →
   ∃ m₁ ops μ',runT H.P (crowd gs w sl) (H.G.n0+i)=(.next m₁,ops)∧MLt μ' μ∧Inv H Fin AnchW μ' m₁ (t ++ ops):=by
  intro C s m s' m' dd' v g' w' es st' sm' hR hC hCW hgo hA hwg' hbk hd hw hs6 hdd h6 hm hlt;refine ydj (ρ:=(s',0,rkN m')) hP hAr ha hms h hi hg hgo hA hwg' (.lib hs6 hC hCW hw) hbk (by rw [hde];exact hd) (by rw [hde];exact hdd) h6 hm ?_ hμ;rw [hR];rcases hlt with hlt|⟨rfl,rfl⟩
  ·exact .stage hlt
  ·exact .rk (rkN_lt _)
 have book:∀ {C s m s' m' dd':Nat} {v:Value} {g':Goroutine} {w':World} {es:Array Event} {st' sm':Int},R i=(s,0,rkN m)->H.Kp i C->C≠H.G.Wg->stepG H.P false g w=.go g' w' es->Aside H.G.Wg w w'->WgAt H.ty H.G.Wg w' st' sm'->(∀ e ∈ es,Bk H.G.Wg e) →
   (∀ jx e,es[jx]?=some e->(MemAct.ofEvent e).touch?=none∨0<deafBehind dd (es.extract 0 jx))->WSit H.P H.ty H.G.Wg C 0 No No 0 1 v s' m' dd' g' w'->s'≤6->deafBehind dd es=dd'->(D i).stage≤6 →
   Go.ConcN.Mode j (upd D i ⟨s',0,dd'⟩) tag st' sm'->(s'<s∨(s'=s∧m'+1=m)) →
   ∃ m₁ ops μ',runT H.P (crowd gs w sl) (H.G.n0+i)=(.next m₁,ops)∧MLt μ' μ∧Inv H Fin AnchW μ' m₁ (t ++ ops) :=
  fun {C s m s2 m2 dd2 v} {_ _ _ _ _} hR hC hCW hgo hA hwg' hbk hd hw hs6 hdd h6 hm hlt=>bookG (v:=v) hR hC hCW hgo hA hwg' hbk hd hw hs6 hdd h6 (fun _ ht _=>hm.retag ht) hlt
 cases hs with
 |@s8 r _ _ _ hi0 hw =>
  subst hi0;rcases hw.cases' RelW.refl with hstop|⟨_,r',L',g',w',es,hlt,hgo,hD,hw'⟩
  ·exact ydi hP hAr ha hms h hwg hmode hg hRi hst.symm (by rw [hde]) (by omega) (hstop w (.refl _ w)) hμ
  ·exact work hRi rfl hlt hgo hD (.s8 rfl hw') hst.symm
 |@s7 r _ _ _ hw =>
  rcases hw.cases' RelW.refl with hstop|⟨_,r',L',g',w',es,hlt,hgo,hD,hw'⟩
  ·
   obtain ⟨⟨C,v,hC,hCW,_,hhas,g',hgo,m₂,hk⟩,hpost⟩:=hstop w (.refl _ w);refine y88 (ρ:=(6,0,rkN m₂)) (dd:=0) hP hAr ha hms h hi hg hgo (ydm h hi hwg) (.lib (v:=v) (by omega) hC hCW (.k1 hk)) (fun e he=>?_) (by rw [hde];rfl) (fun _=>⟨t.size,RelBy.new hdk _ _⟩) (fun _=>hpost) hwg
    (fun tag' htag _=>(hmode.counted hi (by rw [← hst];simp) (.inl rfl) _ _).retag htag) (by rw [hRi];exact .stage (by omega)) hμ
   simp at he;subst he;exact ⟨fun x hx=>by simp [Go.ConcR.mk,MemAct.ofEvent,MemAct.touch?] at hx,by show H.G.Wg<_;have:=hG.lw;omega,fun a=>by simp [Go.ConcR.mk]⟩
  ·exact work hRi rfl hlt hgo hD (.s7 hw') hst.symm
 |@lib C s m _ v _ _ _ h6 hC hCW hw =>
  have hst':(D i).stage=s:=hst.symm;have idle:∀ {g':Goroutine} {m':Nat},stepG H.P false g w=.go g' w #[]->WSit H.P H.ty H.G.Wg C 0 No No 0 1 v s m' dd g' w->m'+1=m →
    ∃ m₁ ops μ',runT H.P (crowd gs w sl) (H.G.n0+i)=(.next m₁,ops)∧MLt μ' μ∧Inv H Fin AnchW μ' m₁ (t ++ ops):=by
   intro g' m' hgo hw hm;exact book (v:=v) hRi hC hCW hgo (.refl _ w) hwg (by simp) (by simp) hw h6 rfl (by omega) (by have:=hmode.same (i:=i) 0 dd;rwa [hst'] at this) (.inr ⟨rfl,hm⟩)
  cases hw with
  |r0 _=>omega
  |k1 hw =>
   rcases Goes.cases hw with hstop|⟨m',rfl,hstep⟩
   ·obtain ⟨_,g',hgo,m₂,hk⟩:=hstop w (RW.refl w)
    exact book (v:=v) hRi hC hCW hgo (.refl _ w) hwg (by intro e he;simp at he;subst he;exact .inl rfl) (by intro jx e he;exact .inl (by have:=Array.mem_of_getElem? he;simp at this;subst this;rfl)) (.d1 hk) (by omega) rfl (by omega)
     (hmode.counted hi (by omega) (.inr rfl) _ _) (.inl (by omega))
   ·obtain ⟨g',w',es,hgo,⟨rfl,rfl⟩,hg'⟩:=hstep w (RW.refl w)
    exact idle hgo (.k1 hg') rfl
  |d1 hw =>
   rcases Goes.cases hw with hstop|⟨m',rfl,hstep⟩
   ·obtain ⟨_,hall⟩:=hstop w (RW.refl w)
    have hc1:cnt (D i)=1:=by simp [cnt,hst']
    have hV1:1≤Vc j D:=by have:=le_sumTo (f:=fun x=>cnt (D x)) hi;simp only [Vc];omega
    have bk2:∀ e ∈ #[rd (stA H.G.Wg),wr (stA H.G.Wg)],Bk H.G.Wg e:=by intro e he;simp at he;rcases he with rfl|rfl<;>exact bk_cell _ _ rfl
    have df2:∀ jx e,(#[rd (stA H.G.Wg),wr (stA H.G.Wg)]:Array Event)[jx]?=some e->(MemAct.ofEvent e).touch?=none∨0<deafBehind 1 ((#[rd (stA H.G.Wg),wr (stA H.G.Wg)]:Array Event).extract 0 jx):=by
     intro jx e he
     match jx,he with
     |0,_=>exact .inr (by simp [deafBehind])
     |1,_=>exact .inr (by simp [deafBehind,rd])
     |jx+2,he=>simp at he
    have hq0:cnt (⟨1,0,1⟩:WD)=0:=rfl;have opq:OpenSt j D->OpenSt j (upd D i ⟨1,0,1⟩):=fun h a ha=>by
     by_cases e:a=i
     ·subst e;rw [upd_same];simp
     ·rw [upd_ne D _ e];exact h a ha
    have hu:=Vc_upd D (⟨1,0,1⟩:WD) hi;have hpend:pend tag≤1:=by cases tag<;>simp only [pend]<;>(try split)<;>omega
    cases hmode with
    |opn h1 h2 h3 =>
     obtain ⟨v',hv⟩:∃ v,Vc j D+pend tag=v+1:=⟨Vc j D+pend tag - 1,by omega⟩
     rw [hv] at hwg;have hw1:WgAt H.ty H.G.Wg w (((v':Nat)+1) * KK+((0:Nat):Int)) 0:=by simpa using hwg
     obtain ⟨g',hgo,_,hq⟩:=hall v' 0 (by omega) (by omega) hw1;obtain ⟨q',hq⟩:=hq (by omega);have hv':Vc j (upd D i ⟨1,0,1⟩)+pend tag=v':=by omega
     refine book (v:=v) hRi hC hCW hgo (aside_setCell w (stA H.G.Wg) _) (hwg.setSt _) bk2 df2 (.quit hq) (by omega) rfl (by omega) ?_ (.inl (by omega));have e:((v':Nat):Int) * KK+((0:Nat):Int)=((Vc j (upd D i ⟨1,0,1⟩)+pend tag:Nat):Int) * KK:=by rw [hv'];simp
     rw [e];exact .opn h1 (opq h2) (fun vs ev=>by have:=h3 vs ev;omega)
    |reg h1 h2 h3 =>
     obtain ⟨v',hv⟩:∃ v,Vc j D=v+1:=⟨Vc j D - 1,by omega⟩
     rw [hv] at hwg;have hw1:WgAt H.ty H.G.Wg w (((v':Nat)+1) * KK+((1:Nat):Int)) 0:=by simpa using hwg
     obtain ⟨g',hgo,hl,hq⟩:=hall v' 1 (by omega) (by omega) hw1
     by_cases hv0:v'=0
     ·subst hv0
      obtain ⟨m₂,hk⟩:=hl ⟨rfl,rfl⟩;refine book (v:=v) hRi hC hCW hgo (aside_setCell w (stA H.G.Wg) _) (hwg.setSt _) bk2 df2 (.d2 hk) (by omega) rfl (by omega) ?_ (.inl (by omega));have hoth:∀ a,a<j->a≠i->(D a).stage=1:=fun a ha e=>by
       have c0:=others_uncounted hi hv hc1 a ha e;have:=h2 a ha;simp only [cnt] at c0;split at c0<;>omega
      have:=Go.ConcN.Mode.last (j:=j) (D:=upd D i ⟨4,0,1⟩) (tag:=tag) i h1 hi (by rw [upd_same];simp) (fun a ha e=>by rw [upd_ne D _ e];exact hoth a ha e);rw [upd_same] at this;simpa using this
     ·obtain ⟨q',hq⟩:=hq (by omega)
      have hv':Vc j (upd D i ⟨1,0,1⟩)=v':=by omega
      refine book (v:=v) hRi hC hCW hgo (aside_setCell w (stA H.G.Wg) _) (hwg.setSt _) bk2 df2 (.quit hq) (by omega) rfl (by omega) ?_ (.inl (by omega));have e:((v':Nat):Int) * KK+((1:Nat):Int)=((Vc j (upd D i ⟨1,0,1⟩):Nat):Int) * KK+1:=by rw [hv'];simp
      rw [e];exact .reg h1 (opq h2) (by omega)
    |last L' _ h2 h3 h4 =>
     by_cases e:i=L'
     ·subst e;omega
     ·have:=h4 i hi e;omega
    |sema h2=>have:=h2 i hi;omega
    |fin _ h2=>have:=h2 i hi;omega
   ·obtain ⟨g',w',es,hgo,⟨rfl,rfl⟩,hg'⟩:=hstep w (RW.refl w)
    exact idle hgo (.d1 hg') rfl
  |d2 hw =>
   rcases Goes.cases hw with hstop|⟨m',rfl,hstep⟩
   ·obtain ⟨_,hx⟩:=hstop w (RW.refl w)
    obtain ⟨hW3,hoth,rfl,rfl⟩:=hmode.isLast hi (by omega);simp only [hst'] at hwg;obtain ⟨g',hgo,m₂,hk⟩:=hx (by simpa using hwg);refine book (v:=v) hRi hC hCW hgo (.refl _ w) hwg (by intro e he;simp at he;subst he;exact bk_cell _ _ rfl) (by intro jx e he;match jx,he with|0,_=>exact .inr (by simp [deafBehind])|jx+1,he=>simp at he) (.d3 hk) (by omega) rfl (by omega) ?_ (.inl (by omega));have:=Go.ConcN.Mode.last (j:=j) (D:=upd D i ⟨3,0,1⟩) (tag:=tag) i hW3 hi (by rw [upd_same];simp) (fun a ha e=>by rw [upd_ne D _ e];exact hoth a ha e);rw [upd_same] at this;simpa using this
   ·obtain ⟨g',w',es,hgo,⟨rfl,rfl⟩,hg'⟩:=hstep w (RW.refl w)
    exact idle hgo (.d2 hg') rfl
  |d3 hw =>
   rcases Goes.cases hw with hstop|⟨m',rfl,hstep⟩
   ·obtain ⟨_,hx⟩:=hstop w (RW.refl w)
    obtain ⟨hW3,hoth,rfl,rfl⟩:=hmode.isLast hi (by omega);simp only [hst'] at hwg;obtain ⟨g',hgo,m₂,hk⟩:=hx (by simpa using hwg);refine book (v:=v) hRi hC hCW hgo (aside_setCell w (stA H.G.Wg) _) (hwg.setSt 0) (by intro e he;simp at he;subst he;exact bk_cell _ _ rfl) (by intro jx e he;match jx,he with|0,_=>exact .inr (by simp [deafBehind])|jx+1,he=>simp at he) (.d4 hk) (by omega) rfl (by omega) ?_ (.inl (by omega));have:=Go.ConcN.Mode.last (j:=j) (D:=upd D i ⟨2,0,1⟩) (tag:=tag) i hW3 hi (by rw [upd_same];simp) (fun a ha e=>by rw [upd_ne D _ e];exact hoth a ha e);rw [upd_same] at this;simpa using this
   ·obtain ⟨g',w',es,hgo,⟨rfl,rfl⟩,hg'⟩:=hstep w (RW.refl w)
    exact idle hgo (.d3 hg') rfl
  |d4 hw =>
   rcases Goes.cases hw with hstop|⟨m',rfl,hstep⟩
   ·obtain ⟨_,hmw,hx⟩:=hstop w (RW.refl w)
    obtain ⟨hW3,hoth,rfl,rfl⟩:=hmode.isLast hi (by omega);simp only [hst'] at hwg;obtain ⟨g',hgo,q',hq⟩:=hx (by simpa using hwg);have hrun':g'.status=.running:=by
     cases q' with
     |zero=>exact absurd hq.2 (by decide)
     |succ q'=>exact hq.elim (fun x=>absurd x.2 (by decide)) (fun x=>x.1)
    refine bookG (v:=v) hRi hC hCW hgo (aside_setCell w (smA H.G.Wg) _) (hwg.setSm 1) (es:=semEvents (smA H.G.Wg)) ?_ ?_ (.quit hq) (by omega) (by simp [deafBehind,semEvents]) (by omega) ?_ (.inl (by omega))
    ·intro e he
     simp [semEvents] at he;rcases he with rfl|rfl|rfl|rfl
     ·exact .inl rfl
     ·exact bk_cell _ _ rfl
     ·exact bk_cell _ _ rfl
     ·exact .inr (.inl rfl)
    ·intro jx e he
     match jx,he with
     |0,he=>simp [semEvents] at he;subst he;exact .inl rfl
     |1,_=>exact .inr (by simp [deafBehind,semEvents])
     |2,_=>exact .inr (by simp [deafBehind,semEvents])
     |3,he=>simp [semEvents] at he;subst he;exact .inl rfl
     |jx+4,he=>simp [semEvents] at he
    ·intro tag' ht hw
     have hnb:=hw hmw hrun';have e3:tag'=.w3:=by
      rcases ht with rfl|⟨_,rfl⟩
      ·cases tag'<;>first|rfl|exact hW3.elim|exact absurd rfl hnb
      ·rfl
     subst e3;simp only [if_true];exact .sema fun a ha=>by
      by_cases e:a=i
      ·subst e;rw [upd_same]
      ·rw [upd_ne D _ e];exact hoth a ha e
   ·obtain ⟨g',w',es,hgo,⟨rfl,rfl⟩,hg'⟩:=hstep w (RW.refl w)
    exact idle hgo (.d4 hg') rfl
  |quit hw =>
   cases m with
   |zero=>rw [hw.1] at hrun;cases hrun
   |succ q' =>
    rcases hw with ⟨hf,_⟩|⟨_,g',es,hmute,hstep,hq⟩
    ·rw [hf] at hrun;cases hrun
    ·have hbk:∀ e ∈ es,Bk H.G.Wg e:=fun e he=>bk_of_mute (hmute e he)
     have hno:∀ jx e,es[jx]?=some e->(MemAct.ofEvent e).touch?=none∨0<deafBehind dd (es.extract 0 jx):=fun jx e he=>.inl (touch_mute (hmute e (Array.mem_of_getElem? he)))
     exact book (v:=v) hRi hC hCW (hstep w) (.refl _ w) hwg hbk hno (.quit hq) (by omega) rfl (by omega) (by have:=hmode.same (i:=i) 0 (deafBehind dd es);rwa [hst'] at this) (.inr ⟨rfl,rfl⟩)
end
end Go.Mt
namespace Go.Mt
open Go.Tr Go.Conc Go.ConcN
open Go.ConcR (KK wgBlock WgAt stA smA rd wr Payload DC0 Bk g_of_ofEvents again_blocked bk_of_mute ofEvent_loc_mark ofEvent_cell loc_of_ofEvent ofEvent_mk)
variable [Payload]
structure Done (H:PH) (Fin:Goroutine->World->Prop) (m:Machine) (t:Trace):Prop where
 out:∃ (gs:Array Goroutine) (w:World) (sl:Option (Nat × Nat)) (a:Goroutine) (L1 L2:List Nat) (q:Nat->Nat),
  m=crowd gs w sl∧gs.size=H.G.n0+2∧gs[0]?=some a∧Fin a w∧Leavers H.P t gs q∧Pst H.G.Sh (H.G.n0+2) w.heap.size t∧y83 H w∧Fams H.G L1 L2 w.heap.size∧H.Post 0 L1 w∧H.Post 1 L2 w
section
variable {H:PH} {Fin:Goroutine->World->Prop} {AnchW:Goroutine->World->Prop} {gs gs':Array Goroutine} {w w':World} {sl:Option (Nat × Nat)} {j:Nat} {D:Nat->WD} {tag tag':CTag} {f0 f' d0 d0':Nat} {a a':Goroutine} {t u:Trace} {st sm st' sm':Int}
  {L:Nat->List Nat} {R:Nat->y2c} {q:Nat->Nat} {μ:Mu} {es:Array Event}
theorem y2a (g g':Goroutine) (i:Nat) {k:Nat} {x:Goroutine} (hne:k≠i) (hx:gs[k]?=some x) (hs:x.status=.running∨x.status=.finished):((gs.map (woken H.P g g' w')).setIfInBounds i g')[k]?=some x:=by
 rw [get_map_set _ _ _ _ (Ne.symm hne),hx,Option.map_some];unfold Go.Conc.woken;split
 ·rw [again_running _ hs]
 ·rfl
theorem Com.step0 (hP:H.Ok) (h:Com H j gs w t D d0 L R q) (hA:Aside H.G.Wg w w') (hwg:WgAt H.ty H.G.Wg w' st' sm') (hgo:stepG H.P true a w=.go a' w' es)
  (hev:∀ e ∈ es,(∀ x,(MemAct.ofEvent e).touch?=some x->H.G.Sh x.loc∧x.kind≠.plain)∧(MemAct.ofEvent e).low w'.heap.size∧∀ a,e.loc≠.mark (.release a)) :
  Com H j ((gs.map (woken H.P a a' w')).setIfInBounds 0 a') w' (t ++ MemOp.ofEvents 0 a.frame.fn a.frame.place es) D (deafBehind d0 es) L R q:=by
 have hG:=hP.G;have hn1:=hG.n1;have hj:=h.j12;have hgu:∀ op ∈ MemOp.ofEvents 0 a.frame.fn a.frame.place es,op.g=0:=g_of_ofEvents;have hL:∀ k,k<2->∀ b ∈ L k,H.G.N0≤b∧b<w.heap.size:=by
  intro k hk b hb;obtain rfl|rfl:k=0∨k=1:=by omega
  ·exact h.fam.l1 b hb
  ·exact h.fam.l2 b hb
 have hrel:∀ i,i<2->H.R i (L i) w w':=by
  intro i hi;refine ⟨hA.os,hA.output,by rw [hA.size];exact zLe _,fun _=>⟨_,_,hwg⟩,fun b hb=>hA.block b ?_,fun b hb=>hA.block b ?_⟩
  ·rcases hb with hv|⟨_,rfl⟩|⟨_,rfl⟩
   ·exact (hG.vis b hv).2.2.2.1
   ·exact hG.cw
   ·exact hG.hw
  ·have:=(hL i hi b hb).1
   have:=hG.lw;omega
 refine ⟨by simp [h.size],hj,fun k x h0 hlt hx=>?_,fun k hk=>?_,fun k hk=>?_,?_,?_,by rw [Deaf_own,h.deaf0],fun k hk=>by rw [Deaf_other t (by omega) _ hgu,h.deafW k hk],fun k hk hs=>?_,fun k hk hs=>hP.post _ _ _ _ (h.post k hk hs) (hrel k (by omega)),by rw [hA.size];exact h.fam,?_,fun e=>?_⟩
 ·have hlt2:k<gs.size:=by rw [h.size];omega
  have hy:gs[k]?=some gs[k]:=Array.getElem?_eq_getElem hlt2;have hq:=h.old k _ h0 hlt hy;rw [y2a a a' 0 (by omega) hy hq.status] at hx;obtain rfl:=zSi hx;rw [Deaf_other t (by omega) _ hgu];exact hq
 ·have hk':gs.size≤k:=by simpa using hk
  rw [Deaf_other t (g':=0) (by rw [h.size] at hk';omega) _ hgu];exact h.above k hk'
 ·obtain ⟨x,hx,hs,he⟩:=h.wk k hk
  exact ⟨x,y2a a a' 0 (by omega) hx hs.status,hs.rely (hrel k (by omega)),he⟩
 ·have hti:=h.ti.mono (B':=w'.heap.size) (by rw [hA.size];exact zLe _)
  refine hti.app0 hG (by rw [hA.size];exact h.fam) (fun op hop=>?_) (fun op hop=>?_) fun op hop=>?_
  ·obtain ⟨e,he,rfl⟩:=Go.Conc.mem_ofEvents hop
   exact ⟨rfl,(hev e he).1⟩
  ·obtain ⟨e,he,rfl⟩:=Go.Conc.mem_ofEvents hop
   exact (hev e he).2.1
  ·obtain ⟨e,he,rfl⟩:=Go.Conc.mem_ofEvents hop
   exact fun x=>(hev e he).2.2 _ (loc_of_ofEvent x)
 ·intro op hop x hx
  rcases Array.mem_append.1 hop with ho|ho
  ·exact h.nr op ho x hx
  ·obtain ⟨e,he,rfl⟩:=Go.Conc.mem_ofEvents ho
   exact (hev e he).2.2 x (loc_of_ofEvent hx)
 ·obtain ⟨r,hr⟩:=h.rel k hk hs
  exact ⟨r,hr.appOther hgu (by omega)⟩
 ·exact ⟨hA.tape.trans h.since.tape,hA.os.trans h.since.os,hA.output.trans h.since.output,by rw [hA.size];exact h.since.size,fun b hb h1 h2 h3=>(hA.block b h3).trans (h.since.block b hb h1 h2 h3)⟩
 ·obtain ⟨e1,e2⟩:=h.one e
  exact ⟨e1,(hA.block _ hG.hw).trans e2⟩
theorem y68 (hP:H.Ok) (ha:gs[0]?=some a) (h:Com H j gs w t D d0 L R q) (hA:Aside H.G.Wg w w') (hwg:WgAt H.ty H.G.Wg w' st' sm') (hgo:stepG H.P true a w=.go a' w' es)
  (hev:∀ e ∈ es,(∀ x,(MemAct.ofEvent e).touch?=some x->H.G.Sh x.loc∧x.kind≠.plain)∧(MemAct.ofEvent e).low w'.heap.size∧∀ a,e.loc≠.mark (.release a))
  (hms:MSit H Fin AnchW tag' j f' (deafBehind d0 es) a' w') (hmode:Go.ConcN.Mode j D tag' st' sm')
  (hlt:phi 2 (Vc j D) tag'<phi 2 (Vc j D) tag∨(phi 2 (Vc j D) tag'=phi 2 (Vc j D) tag∧f'<f0)) (hμ:μ=(2 - j,sumTo H.G.n0 q,R 0,R 1,phi 2 (Vc j D) tag,f0)) :
  ∃ m₁ ops μ',runT H.P (crowd gs w sl) 0=(.next m₁,ops)∧MLt μ' μ∧Inv H Fin AnchW μ' m₁ (t ++ ops):=by
 have hrun:=runT_crowd_go (P:=H.P) (sl:=sl) (i:=0) ha (by simpa using hgo);refine ⟨_,_,(2 - j,sumTo H.G.n0 q,R 0,R 1,phi 2 (Vc j D) tag',f'),hrun,?_,_,w',sl,j,D,tag',f',_,a',st',sm',L,R,q,rfl,get_map_set_same _ _ _ (by rw [h.size];have:=hP.G.n1;omega),hms,h.step0 hP hA hwg hgo hev,hwg,hmode,rfl⟩;rw [hμ];exact .m hlt
theorem book0 (hG:H.G.Ok) (hN:H.G.N0≤w'.heap.size) {e:Event} (h:Bk H.G.Wg e):(∀ x,(MemAct.ofEvent e).touch?=some x->H.G.Sh x.loc∧x.kind≠.plain)∧(MemAct.ofEvent e).low w'.heap.size∧∀ a,e.loc≠.mark (.release a):=by
 rcases h with h1|h1|⟨a,wr,rfl,ha⟩
 ·exact ⟨fun x hx=>by rw [ofEvent_loc_mark h1] at hx;simp [MemAct.touch?] at hx,by rw [ofEvent_loc_mark h1];trivial,fun a=>by rw [h1];simp⟩
 ·exact ⟨fun x hx=>by rw [ofEvent_loc_mark h1] at hx;simp [MemAct.touch?] at hx,by rw [ofEvent_loc_mark h1];trivial,fun a=>by rw [h1];simp⟩
 ·refine ⟨fun x hx=>?_,?_,fun a=>by simp⟩
  ·simp only [ofEvent_cell,MemAct.touch?,Option.some.injEq] at hx
   subst hx;exact ⟨.inr (.inl ha),by simp⟩
  ·rw [ofEvent_cell]
   show a.block<_;have:=hG.lw;omega
theorem evm0 (hG:H.G.Ok) (hN:H.G.N0≤w'.heap.size) {e:Event} (h:H.EvM e):(∀ x,(MemAct.ofEvent e).touch?=some x->H.G.Sh x.loc∧x.kind≠.plain)∧(MemAct.ofEvent e).low w'.heap.size∧∀ a,e.loc≠.mark (.release a) :=
 ⟨fun x hx=>⟨.inr (.inl (h.1 x hx).1),(h.1 x hx).2⟩,MemAct.low_mono (by have:=hG.lw;omega) h.2.2.2.2,h.2.2.2.1⟩
omit [Payload] in
theorem bk_dis' {Wg:Nat}:∀ e ∈ #[Go.ConcR.mk .disable],Bk Wg e:=by intro e he;simp at he;subst he;exact .inl rfl
omit [Payload] in
theorem bk_en' {Wg:Nat}:∀ e ∈ #[Go.ConcR.mk .enable],Bk Wg e:=by intro e he;simp at he;subst he;exact .inr (.inl rfl)
theorem joined (hP:H.Ok) (ha:gs[0]?=some a) (h:Com H 2 gs w t D 0 L R q) (hwg:WgAt H.ty H.G.Wg w st sm) (hq:AllQuit 2 D) (hgo:stepG H.P true a w=.go a' w #[Go.ConcR.mk (.acquire (stA H.G.Wg))]) (hf:Fin a' w) :
  ∃ m₁ ops,runT H.P (crowd gs w sl) 0=(.next m₁,ops)∧Done H Fin m₁ (t ++ ops):=by
 have hG:=hP.G;have hn1:=hG.n1;have hrun:=runT_crowd_go (P:=H.P) (sl:=sl) (i:=0) ha (by simpa using hgo);have e1:MemOp.ofEvents 0 a.frame.fn a.frame.place #[Go.ConcR.mk (.acquire (stA H.G.Wg))]=#[{ g:=0,fn:=a.frame.fn,pos:=a.frame.place,act:=.mark (.acquire (stA H.G.Wg)) }]:=by rw [ofEvents_eq];simp [ofEvent_mk]
 obtain ⟨r1,h1⟩:=h.rel 0 (by omega) (by rw [hq 0 (by omega)];omega);obtain ⟨r2,h2⟩:=h.rel 1 (by omega) (by rw [hq 1 (by omega)];omega);have hpst:=h.ti.join hG h1 h2 h.deaf0 (by have:=hG.lw;have:=h.since.size;omega) h.nr (y:={ g:=0,fn:=a.frame.fn,pos:=a.frame.place,act:=.mark (.acquire (stA H.G.Wg)) }) ⟨rfl,rfl⟩;have hdeaf:∀ k,Deaf (t ++ #[({ g:=0,fn:=a.frame.fn,pos:=a.frame.place,act:=.mark (.acquire (stA H.G.Wg)) }:MemOp)]) k=Deaf t k:=fun k=>Deaf_still t k _ fun op hop=>by
  obtain rfl:op=_:=by simpa using hop
  simp
 have hquit:∀ i,i<2->∃ g m,gs[H.G.n0+i]?=some g∧QuitsD H.P m (Deaf t (H.G.n0+i)) g:=by
  intro i hi;obtain ⟨g,hg,hs,he⟩:=h.wk i hi;rw [hq i hi] at he;rw [h.deafW i hi];generalize R i=ρ at hs he;generalize (D i).deaf=dd at hs ⊢;cases hs with
  |s8 _ _=>simp at he
  |s7 _=>simp at he
  |lib h6 hC hCW hw =>
   obtain rfl:=he;exact ⟨g,_,hg,hw.quits rfl⟩
 obtain ⟨g1,m1,hg1,hq1⟩:=hquit 0 (by omega);rw [Nat.add_zero] at hg1 hq1;obtain ⟨g2,m2,hg2,hq2⟩:=hquit 1 (by omega);refine ⟨_,_,hrun,⟨_,w,sl,a',L 0,L 1,fun k=>if k=H.G.n0 then m1 else if k=H.G.n0+1 then m2 else q k,rfl,by simp [h.size],get_map_set_same _ _ _ (by rw [h.size];omega),hf,⟨fun k x h0 hx=>?_,fun k hk=>?_⟩,by rw [e1];exact hpst,h.since,h.fam,h.post 0 (by omega) (by rw [hq 0 (by omega)];omega),h.post 1 (by omega) (by rw [hq 1 (by omega)];omega)⟩⟩
 ·rw [e1,hdeaf]
  have hsz:((gs.map (woken H.P a a' w)).setIfInBounds 0 a').size=H.G.n0+2:=by simp [h.size]
  have hlt:=(zGe hx).1;rw [hsz] at hlt
  by_cases ek:k=H.G.n0
  ·subst ek
   rw [y2a a a' 0 (by omega) hg1 hq1.status] at hx;obtain rfl:=zSi hx;simpa using hq1
  ·by_cases ek2:k=H.G.n0+1
   ·subst ek2
    rw [y2a a a' 0 (by omega) hg2 hq2.status] at hx;obtain rfl:=zSi hx;simpa using hq2
   ·have hk2:k<gs.size:=by rw [h.size];omega
    have hy:gs[k]?=some gs[k]:=Array.getElem?_eq_getElem hk2;have hqq:=h.old k _ h0 (by omega) hy;rw [y2a a a' 0 (by omega) hy hqq.status] at hx;obtain rfl:=zSi hx;simpa [ek,ek2] using hqq
 ·rw [e1,hdeaf]
  exact h.above k (by simpa using hk)
theorem yb3 (hP:H.Ok) (hAn:∀ g w,AnchW g w->∃ m,Goes H.P true H.R0 H.D0 (H.AtW1 Fin AnchW) m g w) (ha:gs[0]?=some a) (hms:MSit H Fin AnchW tag j f0 d0 a w) (h:Com H j gs w t D d0 L R q) (hwg:WgAt H.ty H.G.Wg w st sm)
  (hmode:Go.ConcN.Mode j D tag st sm) (hrun:a.status=.running) (hμ:μ=(2 - j,sumTo H.G.n0 q,R 0,R 1,phi 2 (Vc j D) tag,f0)) :
  (∃ m₁ ops,runT H.P (crowd gs w sl) 0=(.next m₁,ops)∧Done H Fin m₁ (t ++ ops))∨∃ m₁ ops μ',runT H.P (crowd gs w sl) 0=(.next m₁,ops)∧MLt μ' μ∧Inv H Fin AnchW μ' m₁ (t ++ ops):=by
 have hG:=hP.G;have hn1:=hG.n1;have hN:=h.since.size;have hVj:=Vc_le j D;have hj:=h.j12;have rr:∀ w,H.R0 w w:=y2h;have idle:∀ {a':Goroutine} {w':World} {es:Array Event} {f':Nat},stepG H.P true a w=.go a' w' es->H.D0 w w' es->MSit H Fin AnchW tag j f' d0 a' w'->f'<f0 →
   ∃ m₁ ops μ',runT H.P (crowd gs w sl) 0=(.next m₁,ops)∧MLt μ' μ∧Inv H Fin AnchW μ' m₁ (t ++ ops):=by
  rintro a' w' es f' hgo ⟨rfl,hes⟩ hms' hlt
  have hdf:deafBehind d0 es=d0:=deafBehind_idle (fun e he=>⟨(hes e he).2.1,(hes e he).2.2.1⟩) d0;exact y68 hP ha h (.refl _ _) hwg hgo (fun e he=>evm0 hG hN (hes e he)) (by rw [hdf];exact hms') hmode (.inr ⟨rfl,hlt⟩) hμ
 have book:∀ {a':Goroutine} {w':World} {es:Array Event} {f':Nat} {tag':CTag} {st' sm':Int},stepG H.P true a w=.go a' w' es->Aside H.G.Wg w w'->WgAt H.ty H.G.Wg w' st' sm'->(∀ e ∈ es,Bk H.G.Wg e)->MSit H Fin AnchW tag' j f' (deafBehind d0 es) a' w' →
   Go.ConcN.Mode j D tag' st' sm'->(phi 2 (Vc j D) tag'<phi 2 (Vc j D) tag∨(phi 2 (Vc j D) tag'=phi 2 (Vc j D) tag∧f'<f0)) →
   ∃ m₁ ops μ',runT H.P (crowd gs w sl) 0=(.next m₁,ops)∧MLt μ' μ∧Inv H Fin AnchW μ' m₁ (t ++ ops) :=
  fun hgo hA hwg' hbk hms' hm' hlt=>y68 hP ha h hA hwg' hgo (fun e he=>book0 hG (by rw [hA.size];exact hN) (hbk e he)) hms' hm' hlt hμ
 cases hms with
 |sgo hw =>
  rcases Goes.cases hw with hstop|⟨m',rfl,hstep⟩
  ·
   obtain ⟨_,a',child,hsp,hwk0,m₂,hnext⟩:=hstop w (rr w);obtain ⟨hL1,hhi⟩:=h.one rfl;obtain ⟨rk,hwr⟩:=WR.of_walk (hwk0 h.since hhi ⟨_,_,hwg⟩);obtain ⟨ho,rfl,rfl,_⟩:=hmode.open_inv trivial;have hrun':=runT_crowd_spawn (P:=H.P) (sl:=sl) (i:=0) ha (by simpa using hsp);have e0:MemOp.ofEvents 0 a.frame.fn a.frame.place #[]=#[]:=by rw [ofEvents_eq];simp
   rw [h.size] at hrun';have hx2:∀ op ∈ (#[{ g:=0,fn:=a.frame.fn,pos:=a.frame.place,act:=.go (H.G.n0+1) },{ g:=H.G.n0+1,fn:=child.frame.fn,pos:=a.frame.place,act:=.start }]:Trace),op.act.touch?=none∧(∀ x,op.act≠.mark x)∧op.g≠H.G.n0∧(op.g=0∨op.g=H.G.n0+1):=by
    intro op hop;rcases y2x hop with rfl|rfl
    ·exact ⟨rfl,fun x=>by simp,by show 0≠_;omega,.inl rfl⟩
    ·exact ⟨rfl,fun x=>by simp,by show H.G.n0+1≠_;omega,.inr rfl⟩
   have hds:∀ k,Deaf (t ++ #[({ g:=0,fn:=a.frame.fn,pos:=a.frame.place,act:=.go (H.G.n0+1) }:MemOp),{ g:=H.G.n0+1,fn:=child.frame.fn,pos:=a.frame.place,act:=.start }]) k=Deaf t k:=fun k=>Deaf_still t k _ fun op hop=>⟨(hx2 op hop).2.1 _,(hx2 op hop).2.1 _⟩
   have hold:∀ k x,0<k->gs[k]?=some x->((gs.setIfInBounds 0 a').push child)[k]?=some x:=by
    intro k x h0 hx;have hlt:=(zGe hx).1;rw [Array.getElem?_push,if_neg (by simp;omega),Array.getElem?_setIfInBounds_ne (by omega)];exact hx
   have hnew:((gs.setIfInBounds 0 a').push child)[H.G.n0+1]?=some child:=by
    rw [Array.getElem?_push,if_pos (by simp [h.size])]
   have hcom:Com H 2 ((gs.setIfInBounds 0 a').push child) w (t ++ #[({ g:=0,fn:=a.frame.fn,pos:=a.frame.place,act:=.go (H.G.n0+1) }:MemOp),{ g:=H.G.n0+1,fn:=child.frame.fn,pos:=a.frame.place,act:=.start }]) (upd D 1 ⟨7,0,0⟩) 0 L (upd R 1 (7,0,rk)) q:=by
    refine ⟨by simp [h.size],.inr rfl,fun k x h0 hlt hx=>?_,fun k hk=>?_,fun k hk=>?_,h.ti.fork hG h.fam ⟨rfl,rfl⟩ ⟨rfl,rfl⟩ h.deaf0,fun op hop x hx=>?_,by rw [hds];exact h.deaf0,fun k hk=>?_,fun k hk hs=>?_,fun k hk hs=>?_,h.fam,h.since,fun e=>by omega⟩
    ·obtain ⟨y,hy⟩:∃ y,gs[k]?=some y:=⟨_,Array.getElem?_eq_getElem (by rw [h.size];omega)⟩
     rw [hold k y h0 hy] at hx;obtain rfl:=zSi hx;rw [hds];exact h.old k _ h0 hlt hy
    ·rw [hds]
     exact h.above k (by simp at hk;omega)
    ·obtain rfl|rfl:k=0∨k=1:=by omega
     ·obtain ⟨x,hx,hs,he⟩:=h.wk 0 (by omega)
      exact ⟨x,hold _ _ (by omega) hx,by rw [upd_ne D _ (by omega),upd_ne R _ (by omega)];exact hs,by rw [upd_ne D _ (by omega),upd_ne R _ (by omega)];exact he⟩
     ·exact ⟨child,hnew,by rw [upd_same,upd_same,hL1];exact .s7 hwr,by rw [upd_same,upd_same]⟩
    ·rcases Array.mem_append.1 hop with hh|hh
     ·exact h.nr op hh x hx
     ·exact (hx2 op hh).2.1 _ hx
    ·rw [hds]
     obtain rfl|rfl:k=0∨k=1:=by omega
     ·rw [upd_ne D _ (by omega)]
      exact h.deafW 0 (by omega)
     ·rw [upd_same]
      exact h.above _ (by rw [h.size];exact zLe _)
    ·obtain rfl|rfl:k=0∨k=1:=by omega
     ·rw [upd_ne D _ (by omega)] at hs
      obtain ⟨r,hr⟩:=h.rel 0 (by omega) hs;exact ⟨r,hr.appNot fun op hop=>(hx2 op hop).2.2.1⟩
     ·rw [upd_same] at hs
      simp at hs
    ·obtain rfl|rfl:k=0∨k=1:=by omega
     ·rw [upd_ne D _ (by omega)] at hs
      exact h.post 0 (by omega) hs
     ·rw [upd_same] at hs
      simp at hs
   have eV:Vc 2 (upd D 1 ⟨7,0,0⟩)=Vc 1 D+1:=by
    simp only [Vc,sumTo,upd_same,upd_ne D _ (show (0:Nat)≠1 by omega)];rfl
   have ho':OpenSt 2 (upd D 1 ⟨7,0,0⟩):=fun i hi=>by
    by_cases e:i=1
    ·subst e;rw [upd_same];simp
    ·rw [upd_ne D _ e];exact ho i (by omega)
   have hm':Go.ConcN.Mode 2 (upd D 1 ⟨7,0,0⟩) .kd (((Vc 1 D+pend (.sp 0 2):Nat):Int) * KK) 0:=by
    have:=Go.ConcN.Mode.opn (j:=2) (D:=upd D 1 ⟨7,0,0⟩) (tag:=.kd) trivial ho' (by simp);rw [eV] at this;simpa [pend] using this
   rw [e0] at hrun';refine .inr ⟨_,_,(0,sumTo H.G.n0 q,upd R 1 (7,0,rk) 0,upd R 1 (7,0,rk) 1,phi 2 (Vc 2 (upd D 1 ⟨7,0,0⟩)) .kd,m₂),hrun',?_,_,w,sl,2,_,.kd,m₂,0,a',_,_,L,_,q,rfl,?_,.kd hnext,hcom,hwg,hm',rfl⟩
   ·rw [hμ]
    exact .a (by omega)
   ·rw [Array.getElem?_push,if_neg (by simp [h.size])]
    exact Array.getElem?_setIfInBounds_self_of_lt (by rw [h.size];omega)
  ·obtain ⟨a',w',es,hgo,hD,hg'⟩:=hstep w (rr w)
   exact .inr (idle hgo hD (.sgo hg') (by omega))
 |kd hw =>
  rcases Goes.cases hw with hstop|⟨m',rfl,hstep⟩
  ·obtain ⟨_,a',hgo,m₂,hk⟩:=hstop w (rr w)
   exact .inr (book hgo (.refl _ w) hwg bk_dis' (tag':=.anch) (.anch hk) (hmode.reopen trivial trivial rfl (by simp)) (.inl (by simp only [phi];omega)))
  ·obtain ⟨a',w',es,hgo,hD,hg'⟩:=hstep w (rr w)
   exact .inr (idle hgo hD (.kd hg') (by omega))
 |anch hw =>
  rcases Goes.cases hw with hstop|⟨m',rfl,hstep⟩
  ·obtain ⟨m₂,hk⟩:=hAn a w (hstop w (rr w))
   rcases Goes.cases hk with hstop|⟨m',rfl,hstep⟩
   ·obtain ⟨_,hall⟩:=hstop w (rr w)
    obtain ⟨ho,rfl,rfl,_⟩:=hmode.open_inv trivial;obtain ⟨a',hgo,h0,hne⟩:=hall (Vc 2 D) (by omega) (by simpa [pend] using hwg);have hbk:∀ e ∈ #[rd (stA H.G.Wg)],Bk H.G.Wg e:=by intro e he;simp at he;subst he;exact bk_cell _ _ rfl
    by_cases hv:Vc 2 D=0
    ·obtain ⟨m₂,hk⟩:=h0 hv
     refine .inr (book hgo (.refl _ w) hwg hbk (tag':=.ke) (.ke hk) ?_ (.inl (by simp only [phi];omega)));have e:((Vc 2 D+pend .anch:Nat):Int) * KK=0:=by rw [hv];simp [pend]
     rw [e];exact .fin trivial (allQuit_of ho hv)
    ·obtain ⟨m₂,hk⟩:=hne hv
     exact .inr (book hgo (.refl _ w) hwg hbk (tag':=.w2 (Vc 2 D)) (.w2 hk) (hmode.reopen trivial trivial rfl (fun vs e=>by cases e;omega)) (.inl (by simp only [phi];omega)))
   ·obtain ⟨a',w',es,hgo,hD,hg'⟩:=hstep w (rr w)
    obtain ⟨rfl,hes⟩:=hD;have hdf:deafBehind 1 es=1:=deafBehind_idle (fun e he=>⟨(hes e he).2.1,(hes e he).2.2.1⟩) 1;exact .inr (y68 hP ha h (.refl _ _) hwg hgo (fun e he=>evm0 hG hN (hes e he)) (tag':=.w1) (by rw [hdf];exact .w1 hg') (hmode.reopen trivial trivial rfl (by simp)) (.inl (by simp only [phi];omega)) hμ)
  ·obtain ⟨a',w',es,hgo,hD,hg'⟩:=hstep w (rr w)
   exact .inr (idle hgo hD (.anch hg') (by omega))
 |w1 hw =>
  rcases Goes.cases hw with hstop|⟨m',rfl,hstep⟩
  ·obtain ⟨_,hall⟩:=hstop w (rr w)
   obtain ⟨ho,rfl,rfl,_⟩:=hmode.open_inv trivial;obtain ⟨a',hgo,h0,hne⟩:=hall (Vc 2 D) (by omega) (by simpa [pend] using hwg);have hbk:∀ e ∈ #[rd (stA H.G.Wg)],Bk H.G.Wg e:=by intro e he;simp at he;subst he;exact bk_cell _ _ rfl
   by_cases hv:Vc 2 D=0
   ·obtain ⟨m₂,hk⟩:=h0 hv
    refine .inr (book hgo (.refl _ w) hwg hbk (tag':=.ke) (.ke hk) ?_ (.inl (by simp only [phi];omega)));have e:((Vc 2 D+pend .w1:Nat):Int) * KK=0:=by rw [hv];simp [pend]
    rw [e];exact .fin trivial (allQuit_of ho hv)
   ·obtain ⟨m₂,hk⟩:=hne hv
    exact .inr (book hgo (.refl _ w) hwg hbk (tag':=.w2 (Vc 2 D)) (.w2 hk) (hmode.reopen trivial trivial rfl (fun vs e=>by cases e;omega)) (.inl (by simp only [phi];omega)))
  ·obtain ⟨a',w',es,hgo,hD,hg'⟩:=hstep w (rr w)
   exact .inr (idle hgo hD (.w1 hg') (by omega))
 |w2 hw =>
  rename_i vs;rcases Goes.cases hw with hstop|⟨m',rfl,hstep⟩
  ·obtain ⟨_,hall⟩:=hstop w (rr w)
   obtain ⟨ho,rfl,rfl,hw2⟩:=hmode.open_inv trivial;obtain ⟨hle,h1⟩:=hw2 vs rfl;obtain ⟨hhit,hmiss⟩:=hall (Vc 2 D) (by omega) (by simpa [pend] using hwg)
   by_cases e:Vc 2 D=vs
   ·obtain ⟨a',hgo,m₂,hk⟩:=hhit e
    exact .inr (book hgo (aside_setCell w (stA H.G.Wg) _) (hwg.setSt _) (by intro e he;simp at he;rcases he with rfl|rfl<;>exact bk_cell _ _ rfl) (tag':=.w3) (.w3 hk) (.reg trivial ho (by omega)) (.inl (by simp only [phi];omega)))
   ·obtain ⟨a',hgo,m₂,hk⟩:=hmiss e
    exact .inr (book hgo (.refl _ w) hwg (by intro e he;simp at he;subst he;exact bk_cell _ _ rfl) (tag':=.anch) (.anch hk) (hmode.reopen trivial trivial rfl (by simp)) (.inl (by simp only [phi];omega)))
  ·obtain ⟨a',w',es,hgo,hD,hg'⟩:=hstep w (rr w)
   exact .inr (idle hgo hD (.w2 hg') (by omega))
 |w3 hw =>
  rcases Goes.cases hw with hstop|⟨m',rfl,hstep⟩
  ·obtain ⟨_,hoff,hblk,htake⟩:=hstop w (rr w)
   cases hmode with
   |opn h1 _ _=>exact h1.elim
   |reg h1 h2 h3=>exact .inr (book (hblk ⟨_,hwg⟩) (.refl _ w) hwg (by simp) (tag':=.blk) (.blk hstop) (.reg trivial h2 h3) (.inr ⟨rfl,by omega⟩))
   |last L' h1 h2 h3 h4=>exact .inr (book (hblk ⟨_,hwg⟩) (.refl _ w) hwg (by simp) (tag':=.blk) (.blk hstop) (.last L' trivial h2 h3 h4) (.inr ⟨rfl,by omega⟩))
   |sema h2 =>
    obtain ⟨a',hgo,m₂,hk⟩:=htake hwg;exact .inr (book hgo (aside_setCell w (smA H.G.Wg) _) (hwg.setSm 0) bk_sem (tag':=.w4) (.w4 hk) (.fin trivial h2) (.inl (by simp only [phi];omega)))
   |fin h1 _=>exact h1.elim
  ·obtain ⟨a',w',es,hgo,hD,hg'⟩:=hstep w (rr w)
   exact .inr (idle hgo hD (.w3 hg') (by omega))
 |blk hw=>simp at hrun
 |w4 hw =>
  rcases Goes.cases hw with hstop|⟨m',rfl,hstep⟩
  ·obtain ⟨_,hx⟩:=hstop w (rr w)
   obtain ⟨hq,rfl,rfl⟩:=hmode.fin_inv trivial;obtain ⟨a',hgo,m₂,hk⟩:=hx hwg;exact .inr (book hgo (.refl _ w) hwg bk_rd (tag':=.ke) (.ke hk) (.fin trivial hq) (.inl (by simp only [phi];omega)))
  ·obtain ⟨a',w',es,hgo,hD,hg'⟩:=hstep w (rr w)
   exact .inr (idle hgo hD (.w4 hg') (by omega))
 |ke hw =>
  rcases Goes.cases hw with hstop|⟨m',rfl,hstep⟩
  ·obtain ⟨_,a',hgo,m₂,hk⟩:=hstop w (rr w)
   obtain ⟨hq,rfl,rfl⟩:=hmode.fin_inv trivial;exact .inr (book hgo (.refl _ w) hwg bk_en' (tag':=.acq) (.acq hk) (.fin trivial hq) (.inl (by simp only [phi];omega)))
  ·obtain ⟨a',w',es,hgo,hD,hg'⟩:=hstep w (rr w)
   exact .inr (idle hgo hD (.ke hg') (by omega))
 |acq hw =>
  rcases Goes.cases hw with hstop|⟨m',rfl,hstep⟩
  ·obtain ⟨_,a',hgo,hf⟩:=hstop w (rr w)
   obtain ⟨hq,rfl,rfl⟩:=hmode.fin_inv trivial;exact .inl (joined hP ha h hwg hq hgo hf)
  ·obtain ⟨a',w',es,hgo,hD,hg'⟩:=hstep w (rr w)
   exact .inr (idle hgo hD (.acq hg') (by omega))
end
end Go.Mt
namespace Go.Mt
open Go.Tr Go.Conc Go.ConcN
open Go.ConcR (KK wgBlock WgAt stA smA rd wr Payload DC0 Bk g_of_ofEvents again_blocked bk_of_mute ofEvent_loc_mark ofEvent_cell loc_of_ofEvent ofEvent_mk)
variable [Payload]
section
variable {H:PH} {Fin:Goroutine->World->Prop} {AnchW:Goroutine->World->Prop} {gs gs':Array Goroutine} {w w':World} {sl:Option (Nat × Nat)} {j:Nat} {D:Nat->WD} {tag tag':CTag} {f0 f' d0 d0':Nat} {a a':Goroutine} {t u:Trace} {st sm st' sm':Int}
  {L:Nat->List Nat} {R:Nat->y2c} {q:Nat->Nat} {μ:Mu} {es:Array Event}
omit [Payload] in
theorem y45 {e:Event} (h:e.mute=true):(MemAct.ofEvent e).touch?=none∧∀ a,e.loc≠.mark (.release a):=by
 refine ⟨touch_mute h,fun a=>?_⟩;intro hl;obtain ⟨loc,wr,sy⟩:=e;simp only at hl;subst hl;simp [Event.mute] at h
theorem ydq (hP:H.Ok) (hAr:∀ g w,AnchW g w->g.status=.running) (ha:gs[0]?=some a) (hms:MSit H Fin AnchW tag j f0 d0 a w) (h:Com H j gs w t D d0 L R q) (hwg:WgAt H.ty H.G.Wg w st sm)
  (hmode:Go.ConcN.Mode j D tag st sm) {i:Nat} (i0:0<i) (hi:i<H.G.n0) {g:Goroutine} (hg:gs[i]?=some g) (hrun:g.status=.running) (hμ:μ=(2 - j,sumTo H.G.n0 q,R 0,R 1,phi 2 (Vc j D) tag,f0)) :
  ∃ m₁ ops μ',runT H.P (crowd gs w sl) i=(.next m₁,ops)∧MLt μ' μ∧Inv H Fin AnchW μ' m₁ (t ++ ops):=by
 have hG:=hP.G;have hn1:=hG.n1;have hj:=h.j12;have hq:=h.old i g i0 hi hg;cases hqi:q i with
 |zero=>rw [hqi] at hq;rw [hq.1] at hrun;cases hrun
 |succ k =>
  rw [hqi] at hq;rcases hq with ⟨hf,_⟩|⟨_,g',es,hm,hstp,hq'⟩
  ·rw [hf] at hrun;cases hrun
  have hgo:=hstp w;have hrunT:=runT_crowd_go (P:=H.P) (sl:=sl) (i:=i) hg (by rw [show (i == 0)=false by simp;omega];exact hgo);have hgu:∀ op ∈ MemOp.ofEvents i g.frame.fn g.frame.place es,op.g=i:=g_of_ofEvents;obtain ⟨tag',f',hms',htag,hwk⟩:=hms.wokenBy hAr (y2h w) g g';have hsum:sumTo H.G.n0 (upd q i k)+(k+1)=sumTo H.G.n0 q+k:=by
   have:=sumTo_upd q k id hi;simpa [hqi] using this
  have hcom:Com H j ((gs.map (woken H.P g g' w)).setIfInBounds i g') w (t ++ MemOp.ofEvents i g.frame.fn g.frame.place es) D d0 L R (upd q i k):=by
   refine ⟨by simp [h.size],hj,fun x y h0 hlt hx=>?_,fun x hx=>?_,fun x hx=>?_,?_,fun op hop y hy=>?_,by rw [Deaf_other t (by omega) _ hgu,h.deaf0],fun x hx=>by rw [Deaf_other t (by omega) _ hgu,h.deafW x hx],fun x hx hs=>?_,h.post,h.fam,h.since,h.one⟩
   ·by_cases e:x=i
    ·subst e
     rw [get_map_set_same _ _ _ (zGe hg).1] at hx;obtain rfl:=zSi hx;rw [upd_same,Deaf_own];exact hq'
    ·obtain ⟨z,hz⟩:∃ z,gs[x]?=some z:=⟨_,Array.getElem?_eq_getElem (by rw [h.size];omega)⟩
     have hqz:=h.old x z h0 hlt hz;rw [y2a g g' i e hz hqz.status] at hx;obtain rfl:=zSi hx;rw [upd_ne q k e,Deaf_other t (by omega) _ hgu];exact hqz
   ·have hx':gs.size≤x:=by simpa using hx
    rw [Deaf_other t (g':=i) (by rw [h.size] at hx';omega) _ hgu];exact h.above x hx'
   ·obtain ⟨y,hy,hs,he⟩:=h.wk x hx
    exact ⟨y,y2a g g' i (by omega) hy hs.status,hs,he⟩
   ·refine h.ti.appL hG h.fam (by omega) i0 hi (fun op hop=>?_) (fun op hop=>?_) fun op hop=>?_
    ·obtain ⟨e,he,rfl⟩:=Go.Conc.mem_ofEvents hop
     exact ⟨rfl,(y45 (hm e he)).1⟩
    ·obtain ⟨e,he,rfl⟩:=Go.Conc.mem_ofEvents hop
     exact low_mute (hm e he) _
    ·obtain ⟨e,he,rfl⟩:=Go.Conc.mem_ofEvents hop
     exact fun x=>(y45 (hm e he)).2 _ (loc_of_ofEvent x)
   ·rcases Array.mem_append.1 hop with ho|ho
    ·exact h.nr op ho y hy
    ·obtain ⟨e,he,rfl⟩:=Go.Conc.mem_ofEvents ho
     exact (y45 (hm e he)).2 y (loc_of_ofEvent hy)
   ·obtain ⟨r,hr⟩:=h.rel x hx hs
    exact ⟨r,hr.appOther hgu (by omega)⟩
  refine ⟨_,_,(2 - j,sumTo H.G.n0 (upd q i k),R 0,R 1,phi 2 (Vc j D) tag',f'),hrunT,?_,_,w,sl,j,D,tag',f',d0,_,st,sm,L,R,_,rfl,?_,hms',hcom,hwg,hmode.retag htag,rfl⟩
  ·rw [hμ]
   exact .q (by omega)
  ·rw [get_map_set _ _ _ _ (by omega),ha]
   rfl
theorem y9o (hP:H.Ok) (hAr:∀ g w,AnchW g w->g.status=.running) (ha:gs[0]?=some a) (hms:MSit H Fin AnchW tag j f0 d0 a w) (h:Com H j gs w t D d0 L R q) (hmode:Go.ConcN.Mode j D tag st sm) :
  ∃ (i:Nat) (g:Goroutine),gs[i]?=some g∧g.status=.running:=by
 rcases hms.status hAr with ⟨hs,_⟩|⟨_,_,rfl⟩
 ·exact ⟨0,a,ha,hs⟩
 ·cases hmode with
  |opn h1 _ _=>exact h1.elim
  |reg _ _ h3 =>
   obtain ⟨i,hi,h5⟩:=exists_counted h3;obtain ⟨g,hg,hs,he⟩:=h.wk i hi;exact ⟨_,g,hg,hs.running (by omega)⟩
  |last L' _ h2 h3 _ =>
   obtain ⟨g,hg,hs,he⟩:=h.wk L' h2;exact ⟨_,g,hg,hs.running (by omega)⟩
  |fin h1 _=>exact h1.elim
theorem yhf (hAr:∀ g w,AnchW g w->g.status=.running) (ha:gs[0]?=some a) (hms:MSit H Fin AnchW tag j f0 d0 a w) (h:Com H j gs w t D d0 L R q):∀ g ∈ gs,awake g:=by
 intro g hg tm;obtain ⟨i,hi⟩:=Array.mem_iff_getElem?.1 hg
 by_cases h0:i=0
 ·subst h0
  rw [ha] at hi;obtain rfl:=zSi hi;rcases hms.status hAr with ⟨hs,_⟩|⟨hs,_⟩<;>rw [hs]<;>simp
 ·have hst:g.status=.running∨g.status=.finished:=by
   rcases Nat.lt_or_ge i H.G.n0 with hlt|hge
   ·exact (h.old i g (by omega) hlt hi).status
   ·have hlt:=(zGe hi).1
    rw [h.size] at hlt;obtain ⟨x,hx,hs,_⟩:=h.wk (i - H.G.n0) (by omega);rw [show H.G.n0+(i - H.G.n0)=i by omega,hi] at hx;obtain rfl:=zSi hx;exact hs.status
  rcases hst with h|h<;>rw [h]<;>simp
theorem mt_step (hP:H.Ok) (hAr:∀ g w,AnchW g w->g.status=.running) (hAn:∀ g w,AnchW g w->∃ m,Goes H.P true H.R0 H.D0 (H.AtW1 Fin AnchW) m g w) (μ:Mu) (m:Machine) (t:Trace) (hI:Inv H Fin AnchW μ m t) :
  (∃ m₁ ops,stepT H.P m=(.next m₁,ops)∧Done H Fin m₁ (t ++ ops))∨∃ m₁ ops μ',stepT H.P m=(.next m₁,ops)∧MLt μ' μ∧Inv H Fin AnchW μ' m₁ (t ++ ops):=by
 obtain ⟨gs,w,sl,j,D,tag,f0,d0,a,st,sm,L,R,q,rfl,ha,hms,h,hwg,hmode,hμ⟩:=hI;obtain ⟨i,g,d,sl',hg,hrun,hstep⟩:=crowd_pick (P:=H.P) (w:=w) (sl:=sl) (yhf hAr ha hms h) (y9o hP hAr ha hms h hmode);rw [hstep];have hms':=hms.rely (r0_at w d);have h':=h.at hP d;have hwg':WgAt H.ty H.G.Wg (w.at d) st sm:=hwg
 by_cases h0:i=0
 ·subst h0
  rw [ha] at hg;obtain rfl:=zSi hg;exact yb3 hP hAn ha hms' h' hwg' hmode hrun hμ
 ·right
  rcases Nat.lt_or_ge i H.G.n0 with hlt|hge
  ·exact ydq hP hAr ha hms' h' hwg' hmode (by omega) hlt hg hrun hμ
  ·obtain ⟨k,rfl⟩:=Nat.exists_eq_add_of_le hge
   have hlt:=(zGe hg).1;rw [h.size] at hlt;exact ydp hP hAr ha hms' h' hwg' hmode (by omega) hg hrun hμ
omit [Payload] in
theorem yi8 {P:Program} {M:Type} {r:M->M->Prop} (wf:WellFounded r) (I:M->Machine->Trace->Prop) (Goal:Machine->Trace->Prop)
  (hs:∀ μ m t,I μ m t->(∃ m₁ ops,stepT P m=(.next m₁,ops)∧Goal m₁ (t ++ ops))∨∃ m₁ ops μ',stepT P m=(.next m₁,ops)∧r μ' μ∧I μ' m₁ (t ++ ops)) (μ:M) :
  ∀ m t,I μ m t->∃ N m' t',runNT P N m t=(.next m',t')∧Goal m' t':=by
 induction μ using wf.induction with
 |_ μ ih =>
  intro m t h;rcases hs μ m t h with ⟨m₁,ops,h1,h2⟩|⟨m₁,ops,μ',h1,h2,h3⟩
  ·exact ⟨1,m₁,t ++ ops,by simp [runNT,h1],h2⟩
  ·obtain ⟨N,m',t',h4,h5⟩:=ih μ' h2 m₁ _ h3
   exact ⟨N+1,m',t',by simp only [runNT,h1];exact h4,h5⟩
structure AtGo1 (H:PH) (AnchW:Goroutine->World->Prop) (a:Goroutine) (w:World):Prop where
 run:a.status=.running
 go:∀ d,∃ a' child,stepG H.P true a (w.at d)=.spawn a' child (w.at d) #[]∧WG H.P false (H.R 0) (H.D 0) H.AtSend [] child (w.at d)∧∃ m,Goes H.P true H.R0 H.D0 (H.AtGo AnchW) m a' (w.at d)
theorem AtGo1.at {a:Goroutine} {w:World} (h:AtGo1 H AnchW a w) (d:Nat):AtGo1 H AnchW a (w.at d):=⟨h.run,fun d'=>h.go d'⟩
omit [Payload] in
theorem Pst.mute {Sh:Loc->Prop} {n B i:Nat} {fn:FuncId} {pos:String} {es:Array Event} (h:Pst Sh n B t) (h0:i≠0) (hi:i<n) (hm:∀ e ∈ es,e.mute=true):Pst Sh n B (t ++ MemOp.ofEvents i fn pos es):=by
 refine ⟨h.past.mute h0 hm,h.quiet.app fun op hop x hx=>?_,fun op hop=>?_,fun op hop a ha=>?_⟩
 ·obtain ⟨e,he,rfl⟩:=Go.Conc.mem_ofEvents hop
  rw [touch_mute (hm e he)] at hx;cases hx
 ·rcases Array.mem_append.1 hop with ho|ho
  ·exact h.gs op ho
  ·obtain ⟨e,he,rfl⟩:=Go.Conc.mem_ofEvents ho
   exact hi
 ·rcases Array.mem_append.1 hop with ho|ho
  ·exact h.nr op ho a ha
  ·obtain ⟨e,he,rfl⟩:=Go.Conc.mem_ofEvents ho
   exact (y45 (hm e he)).2 a (loc_of_ofEvent ha)
theorem phase (hP:H.Ok) (hAr:∀ g w,AnchW g w->g.status=.running) (hAn:∀ g w,AnchW g w->∃ m,Goes H.P true H.R0 H.D0 (H.AtW1 Fin AnchW) m g w) :
  ∀ (M:Nat) (gs:Array Goroutine) (a:Goroutine) (w:World) (sl:Option (Nat × Nat)) (t:Trace) (q:Nat->Nat),sumTo H.G.n0 q≤M->gs.size=H.G.n0->gs[0]?=some a->Leavers H.P t gs q->Pst H.G.Sh H.G.n0 w.heap.size t->AtGo1 H AnchW a w->y83 H w->w.heap[H.G.hi]?=H.W0.heap[H.G.hi]?->WgAt H.ty H.G.Wg w (2 * KK) 0 →
   ∃ N m' t',runNT H.P N (crowd gs w sl) t=(.next m',t')∧Done H Fin m' t':=by
 have hG:=hP.G;have hn1:=hG.n1;intro M
 induction M with
 |zero=>?_
 |succ M ih=>?_
 all_goals
  intro gs a w sl t q hM hsz h0 hL hPst hat hs0 hhi hwg;have haw:∀ g ∈ gs,awake g:=by
   intro g hg;obtain ⟨i,hi,rfl⟩:=Array.mem_iff_getElem.1 hg;rcases Nat.eq_zero_or_pos i with rfl|hpos
   ·have:gs[0]=a:=by simpa [Array.getElem?_eq_getElem hi] using h0
    rw [this];exact awake_of (.inl hat.run)
   ·exact awake_of ((hL.old i _ hpos (Array.getElem?_eq_getElem hi)).status.elim .inl fun x=>.inr (.inr x))
  obtain ⟨i,g,d,sl',hi,hg,hst⟩:=crowd_pick (P:=H.P) (w:=w) (sl:=sl) haw ⟨0,a,h0,hat.run⟩;rcases Nat.eq_zero_or_pos i with rfl|hpos
  ·
   obtain rfl:g=a:=by rw [h0] at hi;exact (zSi hi).symm
   obtain ⟨a',child,hsp,hwk,m₂,hnext⟩:=hat.go d;obtain ⟨rk,hwr⟩:=WR.of_walk hwk;have hrun':=runT_crowd_spawn (P:=H.P) (sl:=sl') (i:=0) hi (by simpa using hsp);have e0:MemOp.ofEvents 0 g.frame.fn g.frame.place #[]=#[]:=by rw [ofEvents_eq];simp
   rw [hsz,e0] at hrun';have hx2:∀ op ∈ (#[{ g:=0,fn:=g.frame.fn,pos:=g.frame.place,act:=.go H.G.n0 },{ g:=H.G.n0,fn:=child.frame.fn,pos:=g.frame.place,act:=.start }]:Trace),∀ x,op.act≠.mark x:=by
    intro op hop;rcases y2x hop with rfl|rfl
    ·exact fun x=>by simp
    ·exact fun x=>by simp
   have hds:∀ k,Deaf (t ++ #[({ g:=0,fn:=g.frame.fn,pos:=g.frame.place,act:=.go H.G.n0 }:MemOp),{ g:=H.G.n0,fn:=child.frame.fn,pos:=g.frame.place,act:=.start }]) k=Deaf t k:=fun k=>Deaf_still t k _ fun op hop=>⟨hx2 op hop _,hx2 op hop _⟩
   have hold:∀ k x,0<k->gs[k]?=some x->((gs.setIfInBounds 0 a').push child)[k]?=some x:=by
    intro k x h0 hx;have hlt:=(zGe hx).1;rw [Array.getElem?_push,if_neg (by simp;omega),Array.getElem?_setIfInBounds_ne (by omega)];exact hx
   have hnew:((gs.setIfInBounds 0 a').push child)[H.G.n0+0]?=some child:=by
    rw [Array.getElem?_push,if_pos (by simp [hsz])]
   have hcom:Com H 1 ((gs.setIfInBounds 0 a').push child) (w.at d) (t ++ #[({ g:=0,fn:=g.frame.fn,pos:=g.frame.place,act:=.go H.G.n0 }:MemOp),{ g:=H.G.n0,fn:=child.frame.fn,pos:=g.frame.place,act:=.start }]) (fun _=>⟨7,0,0⟩) 0 (fun _=>[]) (fun _=>(7,1,rk)) q:=by
    refine ⟨by simp [hsz],.inl rfl,fun k x h0 hlt hx=>?_,fun k hk=>?_,fun k hk=>?_,TI.start hG hs0.size hPst ⟨rfl,rfl⟩ ⟨rfl,rfl⟩,fun op hop x hx=>?_,by rw [hds];exact hPst.past.hears,fun k hk=>?_,fun k hk hs=>by simp at hs,fun k hk hs=>by simp at hs,⟨by simp,by simp,by simp⟩,⟨hs0.tape,hs0.os,hs0.output,hs0.size,hs0.block⟩,fun _=>⟨rfl,hhi⟩⟩
    ·obtain ⟨y,hy⟩:∃ y,gs[k]?=some y:=⟨_,Array.getElem?_eq_getElem (by rw [hsz];omega)⟩
     rw [hold k y h0 hy] at hx;obtain rfl:=zSi hx;rw [hds];exact hL.old k _ h0 hy
    ·rw [hds]
     exact hL.above k (by simp at hk;omega)
    ·obtain rfl:k=0:=by omega
     exact ⟨child,hnew,.s8 rfl hwr,rfl⟩
    ·rcases Array.mem_append.1 hop with hh|hh
     ·exact hPst.nr op hh x hx
     ·exact hx2 op hh _ hx
    ·rw [hds]
     obtain rfl:k=0:=by omega
     exact hL.above _ (by omega)
   have hmode:Go.ConcN.Mode 1 (fun _=>(⟨7,0,0⟩:WD)) (.sp 0 2) (2 * KK) 0:=by
    have:=Go.ConcN.Mode.opn (j:=1) (D:=fun _=>(⟨7,0,0⟩:WD)) (tag:=.sp 0 2) trivial (fun i hi=>.inl rfl) (by simp);have e:((Vc 1 (fun _=>(⟨7,0,0⟩:WD))+pend (.sp 0 2):Nat):Int) * KK=2 * KK:=by simp [Vc,sumTo,cnt,pend]
    rwa [e] at this
   have hI:Inv H Fin AnchW (2 - 1,sumTo H.G.n0 q,(7,1,rk),(7,1,rk),phi 2 (Vc 1 (fun _=>(⟨7,0,0⟩:WD))) (.sp 0 2),m₂) (crowd ((gs.setIfInBounds 0 a').push child) (w.at d) sl') (t ++ #[({ g:=0,fn:=g.frame.fn,pos:=g.frame.place,act:=.go H.G.n0 }:MemOp),{ g:=H.G.n0,fn:=child.frame.fn,pos:=g.frame.place,act:=.start }]):=by
    refine ⟨_,_,_,1,_,.sp 0 2,m₂,0,a',_,_,_,_,q,rfl,?_,.sgo hnext,hcom,hwg,hmode,rfl⟩;rw [Array.getElem?_push,if_neg (by simp [hsz];omega)];exact Array.getElem?_setIfInBounds_self_of_lt (by rw [hsz];omega)
   obtain ⟨N,m',t',h1,h2⟩:=yi8 mlex.wf (Inv H Fin AnchW) (Done H Fin) (mt_step hP hAr hAn) _ _ _ hI;refine ⟨N+1,m',t',?_,h2⟩;simp only [runNT,hst,hrun'];exact h1
  ·
   have hq:=hL.old i g hpos hi;have hi0:(i == 0)=false:=by simp;omega
   have hlt:i<gs.size:=(zGe hi).1;cases hqi:q i with
   |zero=>rw [hqi] at hq;rw [hq.1] at hg;cases hg
   |succ k =>
    have hle:=le_sumTo (f:=q) (i:=i) (j:=H.G.n0) (by omega)
    first
    |(exfalso;omega)
    |rw [hqi] at hq
     rcases hq with ⟨hf,_⟩|⟨_,g',es,hm,hstp,hq'⟩
     ·rw [hf] at hg;cases hg
     have hrunT:=runT_crowd_go (P:=H.P) (sl:=sl') (i:=i) hi (by rw [hi0];exact hstp (w.at d));have hsum:sumTo H.G.n0 (upd q i k)+(k+1)=sumTo H.G.n0 q+k:=by
      have:=sumTo_upd q k id (show i<H.G.n0 by omega);simpa [hqi] using this
     have hgu:∀ op ∈ MemOp.ofEvents i g.frame.fn g.frame.place es,op.g=i:=g_of_ofEvents;obtain ⟨N,m',t',h1,h2⟩:=ih ((gs.map (woken H.P g g' (w.at d))).setIfInBounds i g') a (w.at d) sl' (t ++ MemOp.ofEvents i g.frame.fn g.frame.place es) (upd q i k) (by omega) (by simp [hsz])
      (y2a g g' i (by omega) h0 (.inl hat.run))
      ⟨fun x y hx hy=>by
       by_cases e:x=i
       ·subst e
        rw [get_map_set_same _ _ _ hlt] at hy;obtain rfl:=zSi hy;rw [upd_same,Deaf_own];exact hq'
       ·have hxl:x<gs.size:=by
         have:=(zGe hy).1;simpa using this
        obtain ⟨z,hz⟩:∃ z,gs[x]?=some z:=⟨_,Array.getElem?_eq_getElem hxl⟩
        have hqz:=hL.old x z hx hz;rw [y2a g g' i e hz hqz.status] at hy;obtain rfl:=zSi hy;rw [upd_ne q k e,Deaf_other t (by omega) _ hgu];exact hqz,fun x hx=>by
       have hx':gs.size≤x:=by simpa using hx
       rw [Deaf_other t (g':=i) (by omega) _ hgu];exact hL.above x hx'⟩
      (hPst.mute (by omega) (by omega) hm) (hat.at d) ⟨hs0.tape,hs0.os,hs0.output,hs0.size,hs0.block⟩ hhi hwg
     refine ⟨N+1,m',t',?_,h2⟩;simp only [runNT,hst,hrunT];exact h1
end
end Go.Mt
namespace Go.Mt
open Go.Tr Go.Conc Go.ConcN Go.RowKit Go.Conc.Lib Go.ConcR.Gen Go.ConcN.Gen
open Go.ConcR (KK wgBlock WgAt stA smA rd wr Payload DC0)
variable [Payload] {L:WgLink}
def Rel5 (P:Program) (ty:TypeId) (Wg:Nat) (g:Goroutine) (_:World):Prop :=
 g.status=.running∧∀ w,WgLive ty Wg w->∃ g1 g2 g3 g4 g5,stepG P false g w=.go g1 w #[Go.ConcR.mk (.releaseMerge (stA Wg))]∧stepG P false g1 w=.go g2 w #[]∧stepG P false g2 w=.go g3 w #[]∧stepG P false g3 w=.go g4 w #[] ∧
  stepG P false g4 w=.go g5 w #[Go.ConcR.mk .disable]
def Lv (ty:TypeId) (Wg:Nat) (w w₁:World):Prop:=WgLive ty Wg w->WgLive ty Wg w₁
def rz0:=And.intro @List.size_toArray.{0} (And.intro @List.length_cons.{0} (And.intro @List.length_nil.{0} @Nat.zero_add))
theorem gsL {P:Program} {main:Bool} {R:World->World->Prop} {D:World->World->Array Event->Prop} {Stop:Goroutine->World->Prop} {n:Nat} {g:Goroutine} {w:World} {F:World->Prop} (hs:g.status=.running) (h:∀ w₁,F w₁->(stepG P main g w₁).goes fun g' w' es=>D w₁ w' es∧Goes P main R D Stop n g' w') (hR:∀ w₁,R w w₁->F w->F w₁:=by exact fun _ h=>h) (hF:F w):Goes P main R D Stop (n+1) g w:=Goes.step hs fun w₁ h₁=>h w₁ (hR w₁ h₁ hF)
theorem yat {P:Program} (H:WgLib P L) {Wg:Nat} {c:Frame} {cs:List Frame} (w:World) (hF:WgLive L.tWg Wg w) :
  Goes P false (Lv L.tWg Wg) DC0 (Rel5 P L.tWg Wg) 20 (G ((baseD L.done).at ⟨#[.pointer (some ⟨Wg,0,none⟩),undef,undef,undef],[]⟩ [.code (body_done L)]) (c :: cs)) w:=by
 lib_facts
 simp only [body_done,doneFn,Option.getD_some];revert hF;refine gsL rfl (fun _ hF=>?_);rw [stepG_region];simp only [goes_go,rz0,Nat.reduceAdd,List.range,List.range.loop];refine ⟨⟨rfl,rfl⟩,?_⟩;revert hF;refine gsL rfl (fun _ hF=>?_);refine goes_oper_k rfl rfl (by k_ne) (fun Kx hKx=>?_);go_simp
 refine hKx _ _ ⟨?_,?_⟩
 ·refine ⟨rfl,Array.eq_empty_iff_forall_not_mem.2 ?_⟩
  intro ex hex;have hmx:=mem_listed hex;simp [go_sem, *] at hmx
 clear hKx Kx
 try w_num
 revert hF;refine gsL rfl (fun _ hF=>?_);refine goes_call rfl rfl (by k_ne) rfl H.f_add (nm_add L) rfl ⟨⟨rfl,rfl⟩,?_⟩
 walk_nrmf addFn
 revert hF;refine gsL rfl (fun _ hF=>?_);rw [stepG_seq];simp only [goes_go];refine ⟨⟨rfl,rfl⟩,?_⟩;revert hF;refine gsL rfl (fun _ hF=>?_);rw [stepG_cond (t:=true) rfl];simp only [goes_go,if_true,if_false,Bool.false_eq_true,↓reduceIte];refine ⟨⟨rfl,rfl⟩,?_⟩;revert hF;refine gsL rfl (fun _ hF=>?_);rw [stepG_seq];simp only [goes_go];refine ⟨⟨rfl,rfl⟩,?_⟩;revert hF;refine gsL rfl (fun _ hF=>?_);rw [stepG_seq];simp only [goes_go];refine ⟨⟨rfl,rfl⟩,?_⟩;revert hF;refine gsL rfl (fun _ hF=>?_);rw [stepG_region];simp only [goes_go,rz0,Nat.reduceAdd,List.range,List.range.loop];refine ⟨⟨rfl,rfl⟩,?_⟩;revert hF;refine gsL rfl (fun _ hF=>?_);refine goes_oper_k rfl rfl (by k_ne) (fun Kx hKx=>?_);go_simp
 refine hKx _ _ ⟨?_,?_⟩
 ·refine ⟨rfl,Array.eq_empty_iff_forall_not_mem.2 ?_⟩
  intro ex hex;have hmx:=mem_listed hex;simp [go_sem, *] at hmx
 clear hKx Kx
 try w_num
 revert hF;refine gsL rfl (fun _ hF=>?_);refine goes_oper_k rfl rfl (by k_ne) (fun Kx hKx=>?_);go_simp
 refine hKx _ _ ⟨?_,?_⟩
 ·refine ⟨rfl,Array.eq_empty_iff_forall_not_mem.2 ?_⟩
  intro ex hex;have hmx:=mem_listed hex;simp [go_sem, *] at hmx
 clear hKx Kx
 try w_num
 revert hF;refine gsL rfl (fun _ hF=>?_);rw [stepG_region_end];simp only [goes_go];refine ⟨⟨rfl,rfl⟩,?_⟩;revert hF;refine gsL rfl (fun _ hF=>?_);rw [stepG_cond (t:=true) rfl];simp only [goes_go,if_true,if_false,Bool.false_eq_true,↓reduceIte];refine ⟨⟨rfl,rfl⟩,?_⟩;revert hF;refine gsL rfl (fun _ hF=>?_);rw [stepG_region];simp only [goes_go,rz0,Nat.reduceAdd,List.range,List.range.loop];refine ⟨⟨rfl,rfl⟩,?_⟩;revert hF;refine gsL rfl (fun _ hF=>?_);refine goes_oper_k rfl rfl (by k_ne) (fun Kx hKx=>?_);go_simp
 refine hKx _ _ ⟨?_,?_⟩
 ·refine ⟨rfl,Array.eq_empty_iff_forall_not_mem.2 ?_⟩
  intro ex hex;have hmx:=mem_listed hex;simp [go_sem, *] at hmx
 clear hKx Kx
 try w_num
 revert hF;refine gsL rfl (fun _ hF=>?_);refine goes_oper_k rfl rfl (by k_ne) (fun Kx hKx=>?_);have hcv:=run_convert_to_unsafe (P:=P) H.underlying_tWgP H.underlying_tUP H.room_tWg (WgLive.cell0 hF).choose_spec;have hce:=fun es=>events_convert_to_unsafe (P:=P) H.underlying_tWgP H.underlying_tUP H.room_tWg (WgLive.cell0 hF).choose_spec es
 go_simp
 refine hKx _ _ ⟨?_,?_⟩
 ·refine ⟨rfl,Array.eq_empty_iff_forall_not_mem.2 ?_⟩
  intro ex hex;have hmx:=mem_listed hex;simp [go_sem,hce] at hmx
 clear hKx Kx hcv hce;refine Goes.stop (fun w₁ h₁=>?_);clear h₁ hF;refine ⟨rfl,fun w hw=>⟨_,_,_,_,_,stepG_markAt .releaseMerge (by simp) rfl rfl (by k_ne) rfl H.f_relMerge (x_relMerge_n L) (x_relMerge_b L) (x_relMerge_x L) (x_relMerge_f L) (by simp [Act.eval,stA]),stepG_region_end,stepG_seq,stepG_region,stepG_mark0 .disable (by simp) rfl rfl (by k_ne) rfl H.f_disable (x_disable_n L) (x_disable_b L) (x_disable_x L) (x_disable_f L)⟩⟩
section
variable {P:Program} {ty:TypeId} {Wg C m:Nat} {v:Value} {g g':Goroutine} {w w':World} {es:Array Event}
theorem y5x (w:World):RW ty Wg C 0 0 0 w w:=⟨fun _ _ _ _=>rfl,id,id,rfl⟩
theorem y47 (h:(Goes P false (RW ty Wg C 0 0 (1 - 1)) (DWs Wg No No C 0 1) (AtR0 P ty Wg C 0 0 1 v)) m g w) (hgo:stepG P false g w=.go g' w' es) (hne:es≠#[Go.ConcR.mk (.releaseMerge (stA Wg))]):(∃ m',(Goes P false (RW ty Wg C 0 0 (1 - 1)) (DWs Wg No No C 0 1) (AtR0 P ty Wg C 0 0 1 v)) m' g' w')∧∀ e ∈ es,EvW Wg No No 1 e:=by
 rcases Goes.cases h with h|⟨m',_,h⟩
 ·obtain ⟨_,_,g1,h1,_⟩:=h w (y5x w)
  rw [hgo] at h1;injection h1 with _ _ e
  exact absurd e hne
 ·obtain ⟨g1,w1,es1,h1,h2,h3⟩:=h w (y5x w)
  rw [hgo] at h1;injection h1 with e1 e2 e3
  subst e1 e2 e3;exact ⟨⟨m',h3⟩,h2.2⟩
theorem y9z (h:Rel5 P ty Wg g w) (hl:WgLive ty Wg w) (h2:(Goes P false (RW ty Wg C 0 0 (1 - 1)) (DWs Wg No No C 0 1) (AtR0 P ty Wg C 0 0 1 v)) m g w):AtR0 P ty Wg C 0 0 1 v g w:=by
 obtain ⟨_,hs⟩:=h;obtain ⟨g1,g2,g3,g4,g5,s1,s2,s3,s4,s5⟩:=hs w hl;rcases Goes.cases h2 with h|⟨m',_,h⟩
 ·exact h w (y5x w)
 ·obtain ⟨_,_,_,h1,_,h3⟩:=h w (y5x w)
  rw [s1] at h1;injection h1 with e1 e2 e3
  subst e1 e2 e3;have key:∀ m:Mark,(#[]:Array Event)≠#[Go.ConcR.mk m]:=fun m e=>by simpa using congrArg Array.size e
  obtain ⟨⟨_,k2⟩,_⟩:=y47 h3 s2 (key _);obtain ⟨⟨_,k3⟩,_⟩:=y47 k2 s3 (key _);obtain ⟨⟨_,k4⟩,_⟩:=y47 k3 s4 (key _);obtain ⟨_,k5⟩:=y47 k4 s5 (by simp [Go.ConcR.mk]);exact absurd rfl (k5 (Go.ConcR.mk .disable) (by simp)).2.1
theorem yh3 {X:PH} {i:Nat} {Lst:List Nat} (hty:X.ty=ty) (hWg:X.G.Wg=Wg) (hP:X.P=P) (hpost:∀ L w w₁,X.Post i L w->X.R i L w w₁->X.Post i L w₁) (hC:X.Kp i C) (hCW:C≠X.G.Wg) {n:Nat} :
  ∀ (m:Nat) (g:Goroutine) (w:World),Goes P false (Lv ty Wg) DC0 (Rel5 P ty Wg) n g w->(Goes P false (RW ty Wg C 0 0 (1 - 1)) (DWs Wg No No C 0 1) (AtR0 P ty Wg C 0 0 1 v)) m g w->WgLive ty Wg w->(∀ b ∈ Lst,X.G.N0≤b∧b<w.heap.size)->X.Post i Lst w->WG X.P false (X.R i) (X.D i) (X.AtRel i) Lst g w:=by
 subst hty hWg hP
 induction n with
 |zero=>?_
 |succ n ih=>?_
 all_goals
  intro m g w h1 h2 hl hL hp;have stop:(∀ w₁,Lv X.ty X.G.Wg w w₁->Rel5 X.P X.ty X.G.Wg g w₁)->WG X.P false (X.R i) (X.D i) (X.AtRel i) Lst g w:=fun hs=>.stop fun w₁ r =>
   ⟨⟨C,v,hC,hCW,y9z (hs w₁ r.live) (r.live hl) (Goes.rely (fun a b c h k=>⟨fun x _ y z=>(k.low x ‹_› y z).trans (h.low x ‹_› y z),fun x=>k.live (h.live x),fun x=>k.pay (h.pay x),k.cell.trans h.cell⟩) h2 (y6f hC r))⟩,hpost _ _ _ hp r⟩
 ·exact stop h1
 ·rcases h1 with h1|⟨hr,h1⟩
  ·exact stop h1
  ·refine .of_step hr fun w₁ r=>?_
   obtain ⟨g',w',es,hgo,hd,hn⟩:=goes_elim (h1 w₁ r.live);obtain ⟨rfl,rfl⟩:=hd;have h2':=Goes.rely (fun a b c h k=>⟨fun x _ y z=>(k.low x ‹_› y z).trans (h.low x ‹_› y z),fun x=>k.live (h.live x),fun x=>k.pay (h.pay x),k.cell.trans h.cell⟩) h2 (y6f hC r);obtain ⟨⟨m',h3⟩,_⟩:=y47 h2' hgo (by intro e;simpa using congrArg Array.size e);have hL':∀ b ∈ Lst,X.G.N0≤b∧b<w'.heap.size:=fun b hb=>⟨(hL b hb).1,Nat.lt_of_lt_of_le (hL b hb).2 r.size⟩
   exact ⟨Lst,g',w',#[],hgo,GuarW.still hL' (by simp),ih m' g' w' hn h3 (r.live hl) hL' (hpost _ _ _ hp r)⟩
end
end Go.Mt
namespace Go.Proofs
abbrev Try.link:Go.Conc.Lib.WgLink:={ add:=21,done:=23,wait:=27,relMerge:=37,disable:=38,enable:=39,inBubble:=40,associate:=41,fatal:=42,uOr:=43,uAdd:=44,raceRead:=45,uLoad:=46,uStore:=47,disassociate:=48,semrelease:=49,acquire:=52,isAssociated:=53,uCas:=54,raceWrite:=55,semacquire:=56,orU64:=64,addU64:=65,loadU64:=66,storeU64:=67,casU64:=68,tWgP:=81,tUP:=83,tAssoc:=84,tWg:=60,tAU:=58,tU64:=56,tUint:=88,tU32:=23,tPU32:=89,tPAU:=114,tPU64:=116,tNoCopy:=53,tANoCopy:=54,tAlign64:=55 }
theorem Try.wgLib:Go.Conc.Lib.WgLib Try.prog Try.link :=
 ⟨Try.func21,Try.func23,Try.func27,Try.func37,Try.func38,Try.func39,Try.func40,Try.func41,Try.func42,Try.func43,Try.func44,Try.func45,Try.func46,Try.func47,Try.func48,Try.func49,Try.func52,Try.func53,Try.func54,Try.func55,Try.func56,Try.func64,Try.func65,Try.func66,Try.func67,Try.func68,Try.underlying81,Try.runUnderlying81,Try.sizeOf81,Try.isAgg81,Try.zeroValue81,Try.underlying83,Try.runUnderlying83,Try.sizeOf83,Try.isAgg83,Try.zeroValue83,Try.underlying84,Try.runUnderlying84,Try.sizeOf84,Try.isAgg84,Try.zeroValue84,Try.underlying60,Try.runUnderlying60,Try.sizeOf60,Try.isAgg60,Try.zeroValue60,Try.underlying58,Try.runUnderlying58,Try.sizeOf58,Try.isAgg58,Try.zeroValue58,Try.underlying56,Try.runUnderlying56,Try.sizeOf56,Try.isAgg56,Try.zeroValue56,Try.underlying88,Try.runUnderlying88,Try.sizeOf88,Try.isAgg88,Try.zeroValue88,Try.underlying23,Try.runUnderlying23,Try.sizeOf23,Try.isAgg23,Try.zeroValue23,Try.underlying89,Try.runUnderlying89,Try.sizeOf89,Try.isAgg89,Try.zeroValue89,Try.underlying114,Try.runUnderlying114,Try.sizeOf114,Try.isAgg114,Try.zeroValue114,Try.underlying116,Try.runUnderlying116,Try.sizeOf116,Try.isAgg116,Try.zeroValue116,Try.underlying0,Try.runUnderlying0,Try.sizeOf0,Try.isAgg0,Try.zeroValue0,Try.underlying3,Try.runUnderlying3,Try.sizeOf3,Try.isAgg3,Try.zeroValue3,Try.underlying4,Try.runUnderlying4,Try.sizeOf4,Try.isAgg4,Try.zeroValue4,Try.underlying9,Try.runUnderlying9,Try.sizeOf9,Try.isAgg9,Try.zeroValue9,Try.underlying20,Try.runUnderlying20,Try.sizeOf20,Try.isAgg20,Try.zeroValue20,Try.underlying21,Try.runUnderlying21,Try.sizeOf21,Try.isAgg21,Try.zeroValue21,(by kernel_rfl),(by kernel_rfl)⟩
end Go.Proofs
namespace Go.Mt
open Go.Tr Go.Conc Go.ConcN Go.Proofs
open Go.ConcR (KK wgBlock WgAt stA smA rd wr Payload DC0)
def yhg (m:Region.Mode) (ops:Array Oper):Nat->Array Bool->List Nat->List (List Nat)
 |0,_,acc=>[acc.reverse]
 |fuel+1,listed,acc =>
  let rs:=(List.range ops.size).filter fun i=>!listed.getD i true && ((ops[i]?).map (·.after.all fun e=>!Region.binds m e || listed.getD e.on false)).getD false
  if rs.isEmpty then [acc.reverse] else rs.flatMap fun i=>yhg m ops fuel (listed.setIfInBounds i true) (i :: acc)
theorem ygt (m:Region.Mode) (ops:Array Oper):∀ (fuel t:Nat) (listed:Array Bool) (acc:List Nat),Region.linearise.go m ops fuel t listed acc ∈ yhg m ops fuel listed acc:=by
 intro fuel
 induction fuel with
 |zero=>intro t listed acc;simp [Region.linearise.go,yhg]
 |succ n ih =>
  intro t listed acc;simp only [Region.linearise.go,yhg];generalize hrs:((List.range ops.size).filter fun i=>!listed.getD i true && ((ops[i]?).map (·.after.all fun e=>!Region.binds m e || listed.getD e.on false)).getD false)=rs;cases rs with
  |nil=>simp
  |cons x xs =>
   have hlt:t % (x :: xs).length<(x :: xs).length:=Nat.mod_lt _ (by simp);rw [List.getElem?_eq_getElem hlt];simp only [List.isEmpty_cons,Bool.false_eq_true,if_false];exact List.mem_flatMap.2 ⟨_,List.getElem_mem hlt,ih _ _ _⟩
def y4l (m:Region.Mode) (ops:Array Oper):List (List Nat):=yhg m ops ops.size (Array.replicate ops.size false) []
theorem y9u (mixed:Bool) (ops:Array Oper) (t:Nat):Region.schedule mixed ops t ∈ y4l .any ops∨(Region.departs ops=true∧(Region.schedule mixed ops t ∈ y4l .text ops∨Region.schedule mixed ops t ∈ y4l .gc ops)):=by
 unfold Region.schedule;split
 ·exact .inl (ygt _ _ _ _ _ _)
 ·rename_i h
  refine .inr ⟨by simp at h;exact h.2,?_⟩;split
  ·exact .inl (ygt _ _ _ _ _ _)
  ·exact .inr (ygt _ _ _ _ _ _)
section
variable {P:Program} {main:Bool} {R:List Nat->World->World->Prop} {D:List Nat->List Nat->World->World->Array Event->Prop} {Stop:List Nat->Goroutine->World->Prop} {L:List Nat} {g:Goroutine} {w:World}
theorem WG.keep {I:List Nat->World->Prop} (rf:∀ L a,R L a a) (hR:∀ L w w₁,I L w->R L w w₁->I L w₁) (hD:∀ L L' w w' es,I L w->D L L' w w' es->I L' w') (h:WG P main R D Stop L g w):I L w->WG P main R D (fun L g w=>Stop L g w∧I L w) L g w:=by
 induction h with
 |stop h=>exact fun hi=>.stop fun w₁ hw=>⟨h w₁ hw,hR _ _ _ hi hw⟩
 |step nx hr h1 _ ih=>exact fun hi=>.step nx hr h1 fun w₁ hw=>ih w₁ hw (hD _ _ _ _ _ (hR _ _ _ hi hw) (h1 w₁ hw).2)
end
section
variable {X:PH} {i:Nat} {Stop:List Nat->Goroutine->World->Prop} {L:List Nat} {g:Goroutine} {w:World}
theorem yht {g':Goroutine} {es:Array Event} (hr:g.status=.running) (hL:∀ b ∈ L,X.G.N0≤b∧b<w.heap.size) (h:∀ w₁,X.R i L w w₁->stepG X.P false g w₁=.go g' w₁ es∧(∀ e ∈ es,EvP X.G.Vis (X.Wr i) L e)∧(WG X.P false (X.R i) (X.D i) Stop) L g' w₁):(WG X.P false (X.R i) (X.D i) Stop) L g w :=
 .of_step hr fun w₁ r=>let ⟨h1,h2,h3⟩:=h w₁ r;⟨L,g',w₁,es,h1,GuarW.still (fun b hb=>⟨(hL b hb).1,Nat.lt_of_lt_of_le (hL b hb).2 r.size⟩) h2,h3⟩
theorem ycg {g':Goroutine} (hr:g.status=.running) (hL:∀ b ∈ L,X.G.N0≤b∧b<w.heap.size) (hgo:∀ w₁,stepG X.P false g w₁=.go g' w₁ #[]) (h:∀ w₁,X.R i L w w₁->(WG X.P false (X.R i) (X.D i) Stop) L g' w₁):(WG X.P false (X.R i) (X.D i) Stop) L g w :=
 yht hr hL fun w₁ r=>⟨hgo w₁,by simp,h w₁ r⟩
end
structure Base (X:PH) (i:Nat) (w0:World) (L:List Nat) (w:World):Prop where
 os:w.os=w0.os
 output:w.output=w0.output
 size:w0.heap.size≤w.heap.size
 live:WgLive X.ty X.G.Wg w
 kept:∀ b,X.Kp i b->w.heap[b]?=w0.heap[b]?
 within:∀ b ∈ L,X.G.N0≤b∧b<w.heap.size
theorem Base.rely {X:PH} {i:Nat} {w0 w w₁:World} {L:List Nat} (h:Base X i w0 L w) (r:X.R i L w w₁):Base X i w0 L w₁ :=
 ⟨r.os.trans h.os,r.output.trans h.output,Nat.le_trans h.size r.size,r.live h.live,fun b hb=>(r.kept b hb).trans (h.kept b hb),fun b hb=>⟨(h.within b hb).1,Nat.lt_of_lt_of_le (h.within b hb).2 r.size⟩⟩
theorem Base.draw {X:PH} {i:Nat} {w0 w:World} {L:List Nat} (h:Base X i w0 L w) (d:Nat):Base X i w0 L (w.at d):=⟨h.os,h.output,h.size,h.live,h.kept,h.within⟩
theorem Base.calm {X:PH} {i:Nat} {w0 w w':World} {L L':List Nat} {es:Array Event} {Rd:Nat->Prop} (hG:X.G.Ok) (hN:X.G.N0≤w0.heap.size) (h:Base X i w0 L w) (d:GuarW X.G.N0 Rd (fun _=>False) L L' w w' es):Base X i w0 L' w':=by
 have hlow:∀ b,b<X.G.N0->w'.heap[b]?=w.heap[b]?:=fun b hb=>d.block b (by have:=h.size;omega) (fun x=>by have:=(d.within b x).1;omega) (fun x=>x)
 have hK:∀ b,X.Kp i b->b<X.G.N0:=by
  rintro b (hv|⟨_,rfl⟩|⟨_,rfl⟩)
  ·exact (hG.vis b hv).1
  ·exact hG.lc
  ·exact hG.lh
 refine ⟨d.os.trans h.os,d.output.trans h.output,Nat.le_trans h.size d.size,?_,fun b hb=>(hlow b (hK b hb)).trans (h.kept b hb),d.within⟩;obtain ⟨st,sm,hw⟩:=h.live;exact ⟨st,sm,hw.of_block (hlow _ hG.lw)⟩
theorem y74 {P:Program} {F:Array Func} {S T:FuncId->Bool} {kdOf:FuncId->y17} {X:PH} {i:Nat} (hXP:X.P=wf P F) (hG:X.G.Ok) (hC:y34 P F S T kdOf) (hST:∀ f,T f=true->S f=true)
  {K:Cfg} (hKa:K.al=[]) (hKo:∀ b b' s,K.ro b b' s->X.G.Vis b') (hKN:K.N=X.G.N0) (hKr:∀ b,K.Rd b->X.G.Vis b) (hKw:∀ b,¬ K.Wr b) {f:FuncId} {fn:Func} (hf:P.funcs[f]?=some fn) (hS:S f=true) (hres:y7l fn=true)
  {args args':Array Value} {u w0 w:World} (hN:X.G.N0≤w0.heap.size) (ha:RelPs K [] args args') (hW:WRel K [] u w) {Post:Value->World->Prop} (hP:∀ v u τ,Post v u->Post v (retape u τ))
  (hc:∀ τ,Calls P f args (retape u τ) fun e u'=>∃ v,e=.returned v∧Post v u') (hB:Base X i w0 [] w) (b:Frame) (bs:List Frame) {Stop:List Nat->Goroutine->World->Prop}
  (hs:∀ L v v' u w,Base X i w0 L w->(if oneB P f=true then RelP K L v v' else RelV K L v v')->WRel K L u w->Post v u->WG X.P false (X.R i) (X.D i) Stop L (G (b.finish v') bs) w) :
  WG X.P false (X.R i) (X.D i) Stop [] (G (Frame.enter X.P f args' .normal) (b :: bs)) w:=by
 have h1:=yet (main:=false) hC hST hf hS hres ha hW hP hc b bs;rw [← hXP] at h1;have h2:WG X.P false (X.R i) (GuarW X.G.N0 X.G.Vis (fun _=>False)) _ [] (G (Frame.enter X.P f args' .normal) (b :: bs)) w:=WG.of_calm (ty:=X.ty) (Wg:=X.G.Wg) (Kp:=X.Kp i) hKa (fun b b' s h=>⟨.inl (hKo _ _ _ h),hKo _ _ _ h⟩) (by omega) (fun b hb=>.inl (hKr b hb)) hKr (fun b hb=>(hKw b hb).elim) h1 (by simp) (by have:=hB.size;omega);have h3:=WG.keep (I:=Base X i w0) (fun L a=>RelW.refl L a) (fun L w w₁ hi r=>hi.rely r) (fun L L' w w' es hi d=>Base.calm hG hN hi d) h2 hB;have h4:=WG.mono (R':=X.R i) (D':=X.D i) (fun _ _ _ x=>x) (fun L L' w w' es d=>⟨d.tape,d.os,d.output,d.size,d.pre,d.news,d.within,fun b h1 h2 h3=>d.block b h1 h2 (fun x=>x),fun e he=>?_⟩) (fun _ _ _ x=>x) h3
 ·refine h4.bind (fun L=>RelW.trans L) (fun L a=>RelW.refl L a) (fun L g w ⟨⟨_,_,_,hg,_⟩,_⟩=>by rw [hg];rfl) fun L g w hst=>?_
  obtain ⟨⟨v,v',u1,rfl,hv,hW1,hp⟩,hb⟩:=hst w (RelW.refl L w);exact hs L v v' u1 w hb hv hW1 hp
 ·cases d.evs e he with
  |read h=>exact .read h
  |write h=>exact .write (h.imp id False.elim)
  |map h=>exact .map h
  |room=>exact .room
end Go.Mt
namespace Go.Mt
open Go.Tr Go.Conc Go.ConcN Go.Proofs Go.RowKit Go.Conc.Lib Go.ConcR.Gen Go.ConcN.Gen
open Go.ConcR (KK wgBlock WgAt stA smA rd wr Payload DC0)
instance instPay:Payload:=⟨3⟩
theorem y4f {P:Program} {fn:FuncId} {e x:Event} (h:e ∈ seen P fn #[x]):e=x:=by
 have:=y4a (by simpa using h);simpa using this
noncomputable def bot:Frame:={ (default:Frame) with fn:=Try.prog.funcs.size,defers:=[],mode:=.panicking [goexitEntry] }
section
variable {main:Bool} {b:Frame} {a:Act} {kk:List Item} {cs:List Frame} {w:World} {ops:Array Oper} {i:Nat} {rest:List Nat} {o:Oper} {x y:Operand}
theorem y7o (ho:ops[i]?=some o) (hw:Region.wanted o (yielded ops a.tmps)=true) (hk:b.kind≠.early) (hop:o.op=.load 29 x) {ad:Addr} {v:Value} (hx:a.eval x=.pointer (some ad)) (hc:w.cell? ad=some v) :
  ∃ es,stepG Try.prog main (G (b.at a (.inRegion ops (i :: rest) :: kk)) cs) w=.go (G (b.at (a.put o.dst v) (.inRegion ops rest :: kk)) cs) w es∧∀ e ∈ es,e=⟨.cell ad,false,false⟩:=by
 have hr:(execOp a.eval o).run Try.prog w=.ok (.value v) w:=by
  unfold execOp;simp only [hop,hx];simp [go_sem,hc,Try.isAgg29,Try.runUnderlying29,Try.sizeOf29]
 refine ⟨_,stepG_value ho hw hk hr,fun e he=>?_⟩;have he':(execOp a.eval o).events Try.prog w #[]=#[⟨.cell ad,false,false⟩]:=by
  unfold execOp;simp only [hop,hx];simp [go_sem,hc,Try.isAgg29,Try.runUnderlying29,Try.sizeOf29]
 unfold listed at he;rw [he'] at he;exact y4f he
theorem y7n (ho:ops[i]?=some o) (hw:Region.wanted o (yielded ops a.tmps)=true) (hk:b.kind≠.early) (hop:o.op=.load 51 x) {ad:Addr} {v:Value} (hx:a.eval x=.pointer (some ad)) (hc:w.cell? ad=some v) :
  ∃ es,stepG Try.prog main (G (b.at a (.inRegion ops (i :: rest) :: kk)) cs) w=.go (G (b.at (a.put o.dst v) (.inRegion ops rest :: kk)) cs) w es∧∀ e ∈ es,e=⟨.cell ad,false,false⟩:=by
 have hr:(execOp a.eval o).run Try.prog w=.ok (.value v) w:=by
  unfold execOp;simp only [hop,hx];simp [go_sem,hc,Try.isAgg51,Try.runUnderlying51,Try.sizeOf51]
 refine ⟨_,stepG_value ho hw hk hr,fun e he=>?_⟩;have he':(execOp a.eval o).events Try.prog w #[]=#[⟨.cell ad,false,false⟩]:=by
  unfold execOp;simp only [hop,hx];simp [go_sem,hc,Try.isAgg51,Try.runUnderlying51,Try.sizeOf51]
 unfold listed at he;rw [he'] at he;exact y4f he
theorem ydr (ho:ops[i]?=some o) (hw:Region.wanted o (yielded ops a.tmps)=true) (hk:b.kind≠.early) (hop:o.op=.store 29 x y) {ad:Addr} {u v:Value} (hx:a.eval x=.pointer (some ad)) (hy:a.eval y=v) (hv:(∃ s n c,v=.slice s n c)) (hc:w.cell? ad=some u) (hz:w.frozen? ad=false) :
  ∃ es,stepG Try.prog main (G (b.at a (.inRegion ops (i :: rest) :: kk)) cs) w=.go (G (b.at (a.put o.dst undef) (.inRegion ops rest :: kk)) cs) (w.setCell ad v) es∧∀ e ∈ es,e=⟨.cell ad,true,false⟩:=by
 obtain ⟨s,n,c,rfl⟩:=hv;have hr:(execOp a.eval o).run Try.prog w=.ok .skip (w.setCell ad (.slice s n c)):=by
  unfold execOp;simp only [hop,hx,hy];simp [go_sem,stored,hc,hz,Try.isAgg29,Try.runUnderlying29,Try.sizeOf29]
 refine ⟨_,stepG_none ho hw hk hr,fun e he=>?_⟩;have he':(execOp a.eval o).events Try.prog w #[]=#[⟨.cell ad,true,false⟩]:=by
  unfold execOp;simp only [hop,hx,hy];simp [go_sem,hc,hz,Try.isAgg29,Try.runUnderlying29,Try.sizeOf29,events_store Try.prog w _ ad (.slice s n c) _ rfl,storedEv]
 unfold listed at he;rw [he'] at he;exact y4f he
theorem yds {P:Program} (ho:ops[i]?=some o) (hw:Region.wanted o (yielded ops a.tmps)=true) (hop:o.op=.send x y) {c:Nat} (hx:a.eval x=.chan (some c)) :
  stepG P main (G (b.at a (.inRegion ops (i :: rest) :: kk)) cs) w=.comm (G (b.at a (.inRegion ops (i :: rest) :: kk)) cs) #[scase c (a.eval y) (.tuple #[])] true .send w #[]:=by
 have hr:(execOp a.eval o).run P w=.ok (.comm #[scase c (a.eval y) (.tuple #[])] true .send) w:=by
  unfold execOp;simp [hop,hx,scase]
 have he:(execOp a.eval o).events P w #[]=#[]:=by
  unfold execOp;simp [hop,hx]
 rw [stepG_oper ho hw];simp [stepG.apply,hr,he,G,Frame.at,GStep.after,seen]
theorem yfi (ho:ops[i]?=some o):Go.Conc.served (G (b.at a (.inRegion ops (i :: rest) :: kk)) cs) undef=G (b.at (a.put o.dst undef) (.inRegion ops rest :: kk)) cs:=by
 have hfin:(b.at a (.inRegion ops (i :: rest) :: kk)).finish undef=b.at (a.put o.dst undef) (.inRegion ops rest :: kk):=by rw [Frame.finish_at,ho];rfl
 simp only [Go.Conc.served,G,hfin]
end
theorem yg2 {f:FuncId} {fn:Func} (hf:Try.prog.funcs[f]?=some fn) (hres:fn.results=#[]) (T:Array Value):QuitsD Try.prog 2 0 (G { (baseD f).at ⟨T,[]⟩ [] with mode:=.returning } [bot]):=by
 refine QuitsD.ctl (g':=G bot []) rfl (fun w=>?_) ?_
 ·simp [G,stepG,unwind,doReturn,results,Frame.at,baseD,bot,hf,hres,seen,GStep.after,goexitEntry]
 refine QuitsD.ctl (g':={ G bot [] with status:=.finished }) rfl (fun w=>?_) ⟨rfl,rfl⟩;simp [G,stepG,unwind,bot,goexitEntry,Frame.catches];rfl
section
variable {X:PH} {i C:Nat} {cv:Value} {L:List Nat} {w:World}
theorem y65 (hX:X.P=Try.prog) (hty:X.ty=60) (hpost:∀ L w w₁,X.Post i L w->X.R i L w w₁->X.Post i L w₁) {f:FuncId} {fn:Func} (hf:Try.prog.funcs[f]?=some fn) (hres:fn.results=#[]) (hC:X.Kp i C) (hCW:C≠X.G.Wg)
  (T:Array Value) (ops:Array Oper) (hc:w.cell? ⟨C,0,none⟩=some cv) (hl:WgLive 60 X.G.Wg w) (hL:∀ b ∈ L,X.G.N0≤b∧b<w.heap.size) (hp:X.Post i L w) :
  WG X.P false (X.R i) (X.D i) (X.AtRel i) L (G ((baseD f).at ⟨T,[dcall 23 #[.pointer (some ⟨X.G.Wg,0,none⟩)]]⟩ [.inRegion ops []]) [bot]) w:=by
 refine ycg rfl hL (fun _=>stepG_region_end) fun w1 r1=>?_
 have hL1:=fun b hb=>(⟨(hL b hb).1,Nat.lt_of_lt_of_le (hL b hb).2 r1.size⟩:X.G.N0≤b∧b<w1.heap.size)
 refine ycg rfl hL1 (fun _=>stepG_end) fun w2 r2=>?_
 have hL2:=fun b hb=>(⟨(hL1 b hb).1,Nat.lt_of_lt_of_le (hL1 b hb).2 r2.size⟩:X.G.N0≤b∧b<w2.heap.size)
 refine ycg rfl hL2 (fun _=>by rw [hX];exact stepG_unwind_enter rfl Try.func23 (by kernel_rfl) rfl) fun w3 r3=>?_
 have hL3:=fun b hb=>(⟨(hL2 b hb).1,Nat.lt_of_lt_of_le (hL2 b hb).2 r3.size⟩:X.G.N0≤b∧b<w3.heap.size)
 have r:=RelW.trans _ _ _ _ (RelW.trans _ _ _ _ r1 r2) r3;have hl3:WgLive 60 X.G.Wg w3:=by
  have:=r.live;rw [hty] at this;exact this hl
 have hc3:w3.cell? ⟨C,0,none⟩=some cv:=(cell_of_block (r.kept C hC) 0).trans hc;have h1:=yat Try.wgLib (Wg:=X.G.Wg) (c:={ (baseD f).at ⟨T,[]⟩ [.inRegion ops []] with mode:=.returning }) (cs:=[bot]) w3 hl3;have h2:=doneN Try.wgLib (Own:=No) (Rd:=No) (Wg:=X.G.Wg) (C:=C) (n:=0) (Low:=0) (k:=1) (val:=cv) (c:={ (baseD f).at ⟨T,[]⟩ [] with mode:=.returning }) (cs:=[bot]) (qt:=2) rfl (yg2 hf hres T) w3 ⟨hl3,hc3⟩;exact yh3 hty rfl hX hpost hC hCW _ _ _ (yat Try.wgLib w3 hl3) h2 hl3 hL3 (hpost _ _ _ hp r)
end
end Go.Mt
namespace Go.Mt
open Go.Tr Go.Conc Go.ConcN Go.Proofs Go.RowKit Go.Conc.Lib Go.ConcR.Gen Go.ConcN.Gen
open Go.ConcR (KK wgBlock WgAt stA smA rd wr Payload DC0)
def sndReg:Code->Array Oper
 |.seq _ (.region _ o _)=>o
 |_=>#[]
noncomputable def y2i:Array Oper:=sndReg (Try.f22.body.getD .skip)
noncomputable def ops64:Array Oper:=sndReg (Try.f25.body.getD .skip)
theorem ord61 (m:Bool) (t:Nat):Region.schedule m y2i t ∈ [[0,1,2,3,4],[0,2,1,3,4],[1,0,2,3,4],[1,2,0,3,4],[1,2,3,0,4],[2,0,1,3,4],[2,1,0,3,4],[2,1,3,0,4]]:=by
 have e:y4l .any y2i=[[0,1,2,3,4],[0,2,1,3,4],[1,0,2,3,4],[1,2,0,3,4],[1,2,3,0,4],[2,0,1,3,4],[2,1,0,3,4],[2,1,3,0,4]]:=by kernel_rfl
 have hd:Region.departs y2i=false:=by kernel_rfl
 rcases y9u m y2i t with h|⟨h,_⟩
 ·rw [← e]
  exact h
 ·rw [hd] at h;cases h
theorem y6n {P:Program} {main:Bool} {b:Frame} {a:Act} {k:List Item} {cs:List Frame} {w:World} {id:Nat} {ops:Array Oper} :
  stepG P main (G (b.at a (.code (.region id ops true) :: k)) cs) w=.go (G (b.at a (.inRegion ops (Region.schedule (P.follows .mixedOrders) ops (w.tape w.drawn (.order b.fn id))) :: k)) cs) { w with drawn:=w.drawn+1 } #[]:=by
 simp [G,stepG,stepG.exec,Frame.at,choose,Sem.run,Question.forced,Question.cut]
section
variable {X:PH} {i:Nat} {Stop:List Nat->Goroutine->World->Prop} {L:List Nat} {w0 w:World} {b:Frame} {a:Act} {kk:List Item} {cs:List Frame} {ops:Array Oper} {j:Nat} {rest:List Nat} {o:Oper} {x:Operand}
theorem y3b {g g':Goroutine} (hB:Base X i w0 L w) (hr:g.status=.running) (hgo:∀ w₁,stepG X.P false g w₁=.go g' w₁ #[]) (h:∀ w₁,Base X i w0 L w₁->(WG X.P false (X.R i) (X.D i) Stop) L g' w₁):(WG X.P false (X.R i) (X.D i) Stop) L g w :=
 ycg hr hB.within hgo fun w₁ r=>h w₁ (hB.rely r)
theorem wb_draw {id:Nat} (hB:Base X i w0 L w) (h:∀ w₁ t,Base X i w0 L w₁->(WG X.P false (X.R i) (X.D i) Stop) L (G (b.at a (.inRegion ops (Region.schedule (X.P.follows .mixedOrders) ops t) :: kk)) cs) w₁):(WG X.P false (X.R i) (X.D i) Stop) L (G (b.at a (.code (.region id ops true) :: kk)) cs) w:=by
 refine .of_step rfl fun w₁ r=>⟨L,_,_,_,y6n,?_,h _ _ ((hB.rely r).draw (w₁.drawn+1))⟩
 have hB1:=hB.rely r;exact ⟨rfl,rfl,rfl,zLe _,List.prefix_refl L,fun j b hj hl=>by have:=(List.getElem?_eq_some_iff.1 hj).1;omega,hB1.within,fun _ _ _ _=>rfl,by simp⟩
theorem wb_ld' (hX:X.P=Try.prog) (hB:Base X i w0 L w) (ho:ops[j]?=some o) (hg:o.guard=none) (hk:b.kind≠.early) (hop:o.op=.load 29 x∨o.op=.load 51 x) {bl:Nat} {v:Value} (hx:a.eval x=.pointer (some ⟨bl,0,none⟩)) (hv:X.G.Vis bl) (hc:w0.cell? ⟨bl,0,none⟩=some v)
  (h:∀ w₁,X.R i L w w₁->Base X i w0 L w₁->(WG X.P false (X.R i) (X.D i) Stop) L (G (b.at (a.put o.dst v) (.inRegion ops rest :: kk)) cs) w₁):(WG X.P false (X.R i) (X.D i) Stop) L (G (b.at a (.inRegion ops (j :: rest) :: kk)) cs) w:=by
 refine .of_step rfl fun w₁ r=>?_
 have hB1:=hB.rely r;have hc1:w₁.cell? ⟨bl,0,none⟩=some v:=(cell_of_block (hB1.kept bl (.inl hv)) 0).trans hc;have hw:Region.wanted o (yielded ops a.tmps)=true:=by simp [Region.wanted,hg]
 have key:∃ es,stepG X.P false (G (b.at a (.inRegion ops (j :: rest) :: kk)) cs) w₁=.go (G (b.at (a.put o.dst v) (.inRegion ops rest :: kk)) cs) w₁ es∧∀ e ∈ es,e=⟨.cell ⟨bl,0,none⟩,false,false⟩:=by
  rw [hX];rcases hop with hop|hop
  ·exact y7o ho hw hk hop hx hc1
  ·exact y7n ho hw hk hop hx hc1
 obtain ⟨es,h1,h2⟩:=key;exact ⟨L,_,_,es,h1,GuarW.still hB1.within fun e he=>by rw [h2 e he];exact .read (.inl hv),h w₁ r hB1⟩
theorem yey (hX:X.P=Try.prog) (hB:Base X i w0 L w) (ho:ops[j]?=some o) (hg:o.guard=none) (hk:b.kind≠.early) (hop:o.op=.load 29 x∨o.op=.load 51 x) {bl:Nat} {v:Value} (hx:a.eval x=.pointer (some ⟨bl,0,none⟩)) (hv:X.G.Vis bl) (hc:w0.cell? ⟨bl,0,none⟩=some v)
  (h:∀ w₁,Base X i w0 L w₁->(WG X.P false (X.R i) (X.D i) Stop) L (G (b.at (a.put o.dst v) (.inRegion ops rest :: kk)) cs) w₁):(WG X.P false (X.R i) (X.D i) Stop) L (G (b.at a (.inRegion ops (j :: rest) :: kk)) cs) w :=
 wb_ld' hX hB ho hg hk hop hx hv hc fun w₁ _ hB1=>h w₁ hB1
end
def Got0 (X:PG) (K:Cfg) (Post:Value->World->Prop) (L:List Nat) (w:World):Prop:=∃ v v' u s r,w.heap[X.c]?=some (.chan 1 #[v'] false s r false)∧RelP K L v v'∧WRel K L u w∧Post v u
def Got1 (X:PG) (K:Cfg) (Post:Value->World->Prop) (L:List Nat) (w:World):Prop:=∃ v v' u,w.cell? ⟨X.hi,0,none⟩=some v'∧RelP K L v v'∧WRel K L u w∧Post v u
theorem y50 {X:PH} {i:Nat} {K:Cfg} (hKa:K.al=[]) (hKo:∀ b b' s,K.ro b b' s->X.G.Vis b') (hKr:∀ b,K.Rd b->X.G.Vis b) {L:List Nat} {w w₁:World} (r:X.R i L w w₁):RelyK K L w w₁:=⟨r.os,r.output,r.size,fun b hb _=>r.kept b (.inl (hKr b hb)),fun b hb=>r.own b hb.1,fun j b s hj=>by rw [hKa] at hj;simp at hj,fun b b' s hj=>r.kept b' (.inl (hKo b b' s hj))⟩
theorem Got0.rely {X:PH} {K:Cfg} {Post:Value->World->Prop} (hKa:K.al=[]) (hKo:∀ b b' s,K.ro b b' s->X.G.Vis b') (hKr:∀ b,K.Rd b->X.G.Vis b) {L:List Nat} {w w₁:World} (h:Got0 X.G K Post L w) (r:X.R 0 L w w₁):Got0 X.G K Post L w₁:=by
 obtain ⟨v,v',u,s,r',h1,h2,h3,h4⟩:=h;exact ⟨v,v',u,s,r',(r.kept _ (.inr (.inl ⟨rfl,rfl⟩))).trans h1,h2,h3.rely (y50 hKa hKo hKr r),h4⟩
theorem Got1.rely {X:PH} {K:Cfg} {Post:Value->World->Prop} (hKa:K.al=[]) (hKo:∀ b b' s,K.ro b b' s->X.G.Vis b') (hKr:∀ b,K.Rd b->X.G.Vis b) {L:List Nat} {w w₁:World} (h:Got1 X.G K Post L w) (r:X.R 1 L w w₁):Got1 X.G K Post L w₁:=by
 obtain ⟨v,v',u,h1,h2,h3,h4⟩:=h;exact ⟨v,v',u,(cell_of_block (r.kept _ (.inr (.inr ⟨rfl,rfl⟩))) 0).trans h1,h2,h3.rely (y50 hKa hKo hKr r),h4⟩
structure Told (X:PH) (K:Cfg) (P:Program) (S T:FuncId->Bool) (kdOf:FuncId->y17) (ba bb:Nat) (va vb xa xb:Value) (u0 w0:World):Prop where
 prog:X.P=Try.prog
 ty:X.ty=60
 same:wf P Try.prog.funcs=Try.prog
 G:X.G.Ok
 calm:y34 P Try.prog.funcs S T kdOf
 ST:∀ f,T f=true->S f=true
 al:K.al=[]
 ro:∀ b b' s,K.ro b b' s->X.G.Vis b'
 N:K.N=X.G.N0
 Rd:∀ b,K.Rd b->X.G.Vis b
 Wr:∀ b,¬ K.Wr b
 size:X.G.N0≤w0.heap.size
 visa:X.G.Vis ba
 visb:X.G.Vis bb
 ca:w0.cell? ⟨ba,0,none⟩=some va
 cb:w0.cell? ⟨bb,0,none⟩=some vb
 args:RelPs K [] #[xa,xb] #[va,vb]
 rel:∀ i w,Base X i w0 [] w->WRel K [] u0 w
noncomputable abbrev b61:Frame:=baseD 22
theorem o61_0:∃ o,y2i[0]?=some o∧o.dst=some 4∧o.op=.load 51 (.tmp 1)∧o.guard=none:=⟨_,rfl,rfl,rfl,rfl⟩
theorem o61_1:∃ o,y2i[1]?=some o∧o.dst=some 5∧o.op=.load 29 (.tmp 2)∧o.guard=none:=⟨_,rfl,rfl,rfl,rfl⟩
theorem o61_2:∃ o,y2i[2]?=some o∧o.dst=some 6∧o.op=.load 29 (.tmp 3)∧o.guard=none:=⟨_,rfl,rfl,rfl,rfl⟩
theorem o61_3:∃ o,y2i[3]?=some o∧o.dst=some 7∧o.op=.call { callee:=.value (.func 24),args:=#[.tmp 5,.tmp 6],argTypes:=#[29,29] }∧o.guard=none:=⟨_,rfl,rfl,rfl,rfl⟩
theorem o61_4:∃ o,y2i[4]?=some o∧o.dst=none∧o.op=.send (.tmp 4) (.tmp 7)∧o.guard=none:=⟨_,rfl,rfl,rfl,rfl⟩
noncomputable def def61:Oper:=(match Try.f22.body with|some (.seq (.region _ o _) _)=>o[0]!|_=>default)
theorem body61:Try.f22.body=some (.seq (.region 0 #[def61] false) (.region 1 y2i true)):=by kernel_rfl
theorem d61:def61.dst=none∧def61.op=.defer { callee:=.value (.func 23),args:=#[.tmp 0],argTypes:=#[60] }∧def61.guard=none:=⟨by kernel_rfl,by kernel_rfl,by kernel_rfl⟩
def ptr (b:Nat):Value:=.pointer (some ⟨b,0,none⟩)
def call61 (wg lo ba bb:Nat):Deferred:={ target:=.fn (.func 22) #[ptr wg,ptr lo,ptr ba,ptr bb],args:=#[] }
theorem born61 (wg lo ba bb:Nat) (w:World):stepG Try.prog false (born Try.prog (call61 wg lo ba bb)) w =
  .go (G (b61.at ⟨#[ptr wg,ptr lo,ptr ba,ptr bb,undef,undef,undef,undef],[]⟩ [.code (.seq (.region 0 #[def61] false) (.region 1 y2i true))]) [bot]) w #[]:=by
 have hb:=body61;have hn:(Try.f22.name == "runtime.NumGoroutine")=false:=by kernel_rfl
 have hn':¬ Try.f22.name = "runtime.NumGoroutine" := by simpa using hn
 have ht:Try.f22.ntmps=8:=by kernel_rfl
 simp [born,call61,stepG,unwind,callDeferred,invoke,callFunc,Try.func22,hb,hn',ht,seen,GStep.after,G,Frame.enter,Frame.at,b61,baseD,bot]
section
variable {X:PH} {K:Cfg} {P:Program} {S T:FuncId->Bool} {kdOf:FuncId->y17} {ba bb lo:Nat} {va vb xa xb:Value} {u0 w0:World} {Post0 Post1:Value->World->Prop} {w:World} {L:List Nat} {i:Nat}
theorem y1e {o:Oper} (hg:o.guard=none) (a:Act) (ops:Array Oper):Region.wanted o (yielded ops a.tmps)=true:=by simp [Region.wanted,hg]
theorem yi9 (a:Act) (v:Value):a.put none v=a:=rfl
theorem start61 (H:Told X K P S T kdOf ba bb va vb xa xb u0 w0) {Stop:List Nat->Goroutine->World->Prop} (hB:Base X i w0 [] w)
  (h:∀ w₁ t,Base X i w0 [] w₁->WG X.P false (X.R i) (X.D i) Stop [] (G (b61.at ⟨#[ptr X.G.Wg,ptr lo,ptr ba,ptr bb,undef,undef,undef,undef],[dcall 23 #[ptr X.G.Wg]]⟩ [.inRegion y2i (Region.schedule (X.P.follows .mixedOrders) y2i t)]) [bot]) w₁) :
  WG X.P false (X.R i) (X.D i) Stop [] (born Try.prog (call61 X.G.Wg lo ba bb)) w:=by
 have hX:=H.prog;refine y3b hB rfl (fun w₁=>by rw [hX];exact born61 _ _ _ _ w₁) fun w hB=>?_
 refine y3b hB rfl (fun _=>stepG_seq) fun w hB=>?_
 refine y3b hB rfl (fun _=>stepG_region) fun w hB=>?_
 have hd:∀ w,stepG X.P false (G (b61.at ⟨#[ptr X.G.Wg,ptr lo,ptr ba,ptr bb,undef,undef,undef,undef],[]⟩ [.inRegion #[def61] [0],.code (.region 1 y2i true)]) [bot]) w=.go (G (b61.at ⟨#[ptr X.G.Wg,ptr lo,ptr ba,ptr bb,undef,undef,undef,undef],[dcall 23 #[ptr X.G.Wg]]⟩ [.inRegion #[def61] [],.code (.region 1 y2i true)]) [bot]) w #[]:=by
  intro w;obtain ⟨h1,h2,h3⟩:=d61;rw [stepG_defer (o:=def61) rfl (y1e h3 _ _) (by decide) h2,h1];simp [Act.put,Act.eval]
 refine y3b hB rfl hd fun w hB=>?_
 refine y3b hB rfl (fun _=>stepG_region_end) fun w hB=>?_
 exact wb_draw hB h
theorem send61 (H:Told X K P S T kdOf ba bb va vb xa xb u0 w0) (hp0:X.Post 0=Got0 X.G K Post0) {s r:Nat} (hch:w0.heap[X.G.c]?=some (.chan 1 #[] false s r false)) {v v':Value} {u:World} (hB:Base X 0 w0 L w) (hv:RelP K L v v') (hW:WRel K L u w) (hp:Post0 v u) (x2 x3 x5 x6 x0 x1:Value) :
  WG X.P false (X.R 0) (X.D 0) X.AtSend L (G (b61.at ⟨#[x0,x1,x2,x3,.chan (some X.G.c),x5,x6,v'],[dcall 23 #[ptr X.G.Wg]]⟩ [.inRegion y2i [4]]) [bot]) w:=by
 have hX:=H.prog;refine .stop fun w₁ r1=>?_
 obtain ⟨o,ho,hd,hop,hg⟩:=o61_4;have hB1:=hB.rely r1;have hch1:w₁.heap[X.G.c]?=some (.chan 1 #[] false s r false):=(hB1.kept _ (.inr (.inl ⟨rfl,rfl⟩))).trans hch;have hst:=yds (P:=X.P) (main:=false) (b:=b61) (kk:=[]) (cs:=[bot]) (w:=w₁) (rest:=[]) ho (y1e hg ⟨#[x0,x1,x2,x3,.chan (some X.G.c),x5,x6,v'],[dcall 23 #[ptr X.G.Wg]]⟩ y2i) hop (c:=X.G.c) rfl;refine ⟨rfl,v',_,_,s,r,hst,hch1,?_⟩;rw [yfi ho,hd,yi9];have hlt:=zGe hch1;have hsz:(w₁.setChan X.G.c 1 #[v'] false (s+1) r false).heap.size=w₁.heap.size:=by simp [World.setChan]
 have hoth:∀ b,b≠X.G.c->(w₁.setChan X.G.c 1 #[v'] false (s+1) r false).heap[b]?=w₁.heap[b]?:=fun b hb=>by simp [World.setChan,Array.getElem?_setIfInBounds_ne (Ne.symm hb)]
 have hGv:=H.G.vis ba H.visa;have hl:WgLive 60 X.G.Wg (w₁.setChan X.G.c 1 #[v'] false (s+1) r false):=by
  have:=hB1.live;rw [H.ty] at this;obtain ⟨st,sm,hw⟩:=this;exact ⟨st,sm,hw.of_block (hoth _ (Ne.symm H.G.cw))⟩
 have hrel:RelyK K L w₁ (w₁.setChan X.G.c 1 #[v'] false (s+1) r false):=⟨rfl,rfl,Nat.le_of_eq hsz.symm,fun b hb _=>hoth b (H.G.vis b (H.Rd b hb)).2.1,fun b hb=>hoth b (by have:=(hB1.within b hb.1).1;have:=H.G.lc;omega),fun j b s hj=>(by rw [H.al] at hj;simp at hj),fun b b' s hj=>hoth b' (H.G.vis b' (H.ro b b' s hj)).2.1⟩
 refine y65 hX H.ty (fun L w w₁ h r=>by rw [hp0] at h ⊢;exact h.rely H.al H.ro H.Rd r) Try.func22 (by kernel_rfl) (C:=ba) (.inl H.visa) hGv.2.2.2.1 _ y2i (cv:=va) ?_ hl (fun b hb=>by rw [hsz];exact hB1.within b hb) ?_
 ·exact (cell_of_block ((hoth ba hGv.2.1).trans (hB1.kept _ (.inl H.visa))) 0).trans H.ca
 ·rw [hp0]
  exact ⟨v,v',u,s+1,r,by simp [World.setChan,hlt.1],hv,(hW.rely (y50 H.al H.ro H.Rd r1)).rely hrel,hp⟩
theorem y75 {args:Array Operand} {f:FuncId} {fn:Func} {cd:Code} {X:PH} (hX:X.P=Try.prog) {b:Frame} {a:Act} {kk:List Item} {cs:List Frame} {ops:Array Oper} {j:Nat} {rest:List Nat} {o:Oper} {ats:Array TypeId} (ho:ops[j]?=some o) (hg:o.guard=none) (hk:b.kind≠.early) (hop:o.op=.call { callee:=.value (.func f),args,argTypes:=ats }) (hf:Try.prog.funcs[f]?=some fn) (hn:(fn.name == "runtime.NumGoroutine")=false) (hb:fn.body=some cd) (w:World) :
  ∃ es,stepG X.P false (G (b.at a (.inRegion ops (j :: rest) :: kk)) cs) w=.go (G (Frame.enter X.P f (args.map a.eval) .normal) (b.at a (.inRegion ops (j :: rest) :: kk) :: cs)) w es∧es=#[]:=by
 have hb':fn.body.isNone=false:=by rw [hb];rfl
 rw [hX];refine ⟨_,stepG_enter ho (y1e hg _ _) hk (run_call_body hop hf hn hb'),?_⟩;unfold listed;rw [events_call_body hop hf hn hb',seen_none]
theorem worker0 (H:Told X K P S T kdOf ba bb va vb xa xb u0 w0) (hp0:X.Post 0=Got0 X.G K Post0) {s r:Nat} (hch:w0.heap[X.G.c]?=some (.chan 1 #[] false s r false)) (hlo:X.G.Vis lo) (hcl:w0.cell? ⟨lo,0,none⟩=some (.chan (some X.G.c)))
  (hS:S 24=true) (hPt:∀ v u τ,Post0 v u->Post0 v (retape u τ)) (hc:∀ τ,Calls P 24 #[xa,xb] (retape u0 τ) fun e u'=>∃ v,e=.returned v∧Post0 v u') (hB:Base X 0 w0 [] w) :
  WG X.P false (X.R 0) (X.D 0) X.AtSend [] (born Try.prog (call61 X.G.Wg lo ba bb)) w:=by
 have hX:=H.prog;obtain ⟨o0,ho0,hd0,hop0,hg0⟩:=o61_0;obtain ⟨o1,ho1,hd1,hop1,hg1⟩:=o61_1;obtain ⟨o2,ho2,hd2,hop2,hg2⟩:=o61_2;obtain ⟨o3,ho3,hd3,hop3,hg3⟩:=o61_3;have hf:P.funcs[24]?=some Try.f24:=(H.calm.same 24 hS).symm.trans Try.func24;have hone:oneB P 24=true:=by
  have:(Try.f24.results.size == 1)=true:=by kernel_rfl
  simpa [oneB,hf] using this
 have hn:(Try.f24.name == "runtime.NumGoroutine")=false:=by kernel_rfl
 obtain ⟨cd,hcd⟩:∃ cd,Try.f24.body=some cd:=⟨_,rfl⟩
 have call:∀ (T:Array Value) (rest:List Nat) (w:World),Base X 0 w0 [] w->T[5]?=some va->T[6]?=some vb →
   (∀ (L:List Nat) (v v':Value) (u w:World),Base X 0 w0 L w->RelP K L v v'->WRel K L u w->Post0 v u->WG X.P false (X.R 0) (X.D 0) X.AtSend L (G (b61.at ⟨T.setIfInBounds 7 v',[dcall 23 #[ptr X.G.Wg]]⟩ [.inRegion y2i rest]) [bot]) w) →
   WG X.P false (X.R 0) (X.D 0) X.AtSend [] (G (b61.at ⟨T,[dcall 23 #[ptr X.G.Wg]]⟩ [.inRegion y2i (3 :: rest)]) [bot]) w:=by
  intro T rest w hB h5 h6 hk;refine y3b (g':=G (Frame.enter X.P 24 #[va,vb] .normal) (b61.at ⟨T,[dcall 23 #[ptr X.G.Wg]]⟩ [.inRegion y2i (3 :: rest)] :: [bot])) hB rfl (fun w=>?_) fun w hB=>?_
  ·obtain ⟨es,h1,rfl⟩:=y75 (X:=X) hX (b:=b61) (a:=⟨T,[dcall 23 #[ptr X.G.Wg]]⟩) (kk:=[]) (cs:=[bot]) (rest:=rest) ho3 hg3 (by decide) hop3 Try.func24 hn hcd w
   rw [h1];have e:Array.map (Act.eval ⟨T,[dcall 23 #[ptr X.G.Wg]]⟩) #[Operand.tmp 5,Operand.tmp 6]=#[va,vb]:=by
    simp [Act.eval,h5,h6]
   rw [e]
  ·refine y74 (hX.trans H.same.symm) H.G H.calm H.ST H.al H.ro H.N H.Rd H.Wr hf hS (by kernel_rfl) H.size H.args (H.rel 0 w hB) hPt hc hB _ _ fun L v v' u w hB hv hW hp=>?_
   rw [hone,if_pos rfl] at hv;have:=hk L v v' u w hB hv hW hp;rw [Frame.finish_at,ho3];simpa [Act.put,hd3] using this
 refine start61 H hB fun w t hB=>?_
 have hsend:=fun (L:List Nat) (v v':Value) (u w:World) (hB:Base X 0 w0 L w) (hv:RelP K L v v') (hW:WRel K L u w) (hp:Post0 v u)=>send61 H hp0 hch hB hv hW hp (ptr ba) (ptr bb) va vb (ptr X.G.Wg) (ptr lo)
 have ld0:=fun (T:Array Value) (rest:List Nat) (L:List Nat) (w:World) (hB:Base X 0 w0 L w) (h1:T[1]?=some (ptr lo)) (hk:∀ w,Base X 0 w0 L w->WG X.P false (X.R 0) (X.D 0) X.AtSend L (G (b61.at ⟨T.setIfInBounds 4 (.chan (some X.G.c)),[dcall 23 #[ptr X.G.Wg]]⟩ [.inRegion y2i rest]) [bot]) w) =>
  yey (b:=b61) (kk:=[]) (cs:=[bot]) (rest:=rest) (a:=⟨T,[dcall 23 #[ptr X.G.Wg]]⟩) hX hB ho0 hg0 (by decide) (.inr hop0) (bl:=lo) (by simp [Act.eval,h1,ptr]) hlo hcl fun w hB=>by simpa [Act.put,hd0] using hk w hB
 have ld1:=fun (T:Array Value) (rest:List Nat) (L:List Nat) (w:World) (hB:Base X 0 w0 L w) (h1:T[2]?=some (ptr ba)) (hk:∀ w,Base X 0 w0 L w->WG X.P false (X.R 0) (X.D 0) X.AtSend L (G (b61.at ⟨T.setIfInBounds 5 va,[dcall 23 #[ptr X.G.Wg]]⟩ [.inRegion y2i rest]) [bot]) w) =>
  yey (b:=b61) (kk:=[]) (cs:=[bot]) (rest:=rest) (a:=⟨T,[dcall 23 #[ptr X.G.Wg]]⟩) hX hB ho1 hg1 (by decide) (.inl hop1) (bl:=ba) (by simp [Act.eval,h1,ptr]) H.visa H.ca fun w hB=>by simpa [Act.put,hd1] using hk w hB
 have ld2:=fun (T:Array Value) (rest:List Nat) (L:List Nat) (w:World) (hB:Base X 0 w0 L w) (h1:T[3]?=some (ptr bb)) (hk:∀ w,Base X 0 w0 L w->WG X.P false (X.R 0) (X.D 0) X.AtSend L (G (b61.at ⟨T.setIfInBounds 6 vb,[dcall 23 #[ptr X.G.Wg]]⟩ [.inRegion y2i rest]) [bot]) w) =>
  yey (b:=b61) (kk:=[]) (cs:=[bot]) (rest:=rest) (a:=⟨T,[dcall 23 #[ptr X.G.Wg]]⟩) hX hB ho2 hg2 (by decide) (.inl hop2) (bl:=bb) (by simp [Act.eval,h1,ptr]) H.visb H.cb fun w hB=>by simpa [Act.put,hd2] using hk w hB
 have hord:=ord61 (X.P.follows .mixedOrders) t;generalize Region.schedule (X.P.follows .mixedOrders) y2i t=ord at hord;simp only [List.mem_cons,List.not_mem_nil,or_false] at hord;have early:∀ w,Base X 0 w0 [] w->WG X.P false (X.R 0) (X.D 0) X.AtSend [] (G (b61.at ⟨#[ptr X.G.Wg,ptr lo,ptr ba,ptr bb,.chan (some X.G.c),va,vb,undef],[dcall 23 #[ptr X.G.Wg]]⟩ [.inRegion y2i [3,4]]) [bot]) w:=fun w hB =>
  call _ _ w hB rfl rfl fun L v v' u w hB hv hW hp=>hsend L v v' u w hB hv hW hp
 have late:∀ w,Base X 0 w0 [] w->WG X.P false (X.R 0) (X.D 0) X.AtSend [] (G (b61.at ⟨#[ptr X.G.Wg,ptr lo,ptr ba,ptr bb,undef,va,vb,undef],[dcall 23 #[ptr X.G.Wg]]⟩ [.inRegion y2i [3,0,4]]) [bot]) w:=fun w hB =>
  call _ _ w hB rfl rfl fun L v v' u w hB hv hW hp=>by
   refine wb_ld' (b:=b61) (kk:=[]) (cs:=[bot]) (rest:=[4]) (L:=L) (a:=⟨#[ptr X.G.Wg,ptr lo,ptr ba,ptr bb,undef,va,vb,v'],[dcall 23 #[ptr X.G.Wg]]⟩) hX hB ho0 hg0 (by decide) (.inr hop0) (bl:=lo) rfl hlo hcl fun w₁ r hB1=>?_
   have:=hsend L v v' u w₁ hB1 hv (hW.rely (y50 H.al H.ro H.Rd r)) hp;simpa [Act.put,hd0] using this
 rcases hord with rfl|rfl|rfl|rfl|rfl|rfl|rfl|rfl
 ·exact ld0 _ _ _ w hB rfl fun w hB=>ld1 _ _ _ w hB rfl fun w hB=>ld2 _ _ _ w hB rfl early
 ·exact ld0 _ _ _ w hB rfl fun w hB=>ld2 _ _ _ w hB rfl fun w hB=>ld1 _ _ _ w hB rfl early
 ·exact ld1 _ _ _ w hB rfl fun w hB=>ld0 _ _ _ w hB rfl fun w hB=>ld2 _ _ _ w hB rfl early
 ·exact ld1 _ _ _ w hB rfl fun w hB=>ld2 _ _ _ w hB rfl fun w hB=>ld0 _ _ _ w hB rfl early
 ·exact ld1 _ _ _ w hB rfl fun w hB=>ld2 _ _ _ w hB rfl late
 ·exact ld2 _ _ _ w hB rfl fun w hB=>ld0 _ _ _ w hB rfl fun w hB=>ld1 _ _ _ w hB rfl early
 ·exact ld2 _ _ _ w hB rfl fun w hB=>ld1 _ _ _ w hB rfl fun w hB=>ld0 _ _ _ w hB rfl early
 ·exact ld2 _ _ _ w hB rfl fun w hB=>ld1 _ _ _ w hB rfl late
end
end Go.Mt
namespace Go.Mt
open Go.Tr Go.Conc Go.ConcN Go.Proofs Go.RowKit Go.Conc.Lib Go.ConcR.Gen Go.ConcN.Gen
open Go.ConcR (KK wgBlock WgAt stA smA rd wr Payload DC0)
noncomputable abbrev b64:Frame:=baseD 25
theorem o64_0:∃ o,ops64[0]?=some o∧o.dst=some 4∧o.op=.load 29 (.tmp 1)∧o.guard=none:=⟨_,rfl,rfl,rfl,rfl⟩
theorem o64_1:∃ o,ops64[1]?=some o∧o.dst=some 5∧o.op=.load 29 (.tmp 2)∧o.guard=none:=⟨_,rfl,rfl,rfl,rfl⟩
theorem o64_2:∃ o,ops64[2]?=some o∧o.dst=some 6∧o.op=.call { callee:=.value (.func 26),args:=#[.tmp 4,.tmp 5],argTypes:=#[29,29] }∧o.guard=none:=⟨_,rfl,rfl,rfl,rfl⟩
theorem o64_3:∃ o,ops64[3]?=some o∧o.dst=none∧o.op=.store 29 (.tmp 3) (.tmp 6)∧o.guard=none:=⟨_,rfl,rfl,rfl,rfl⟩
noncomputable def def64:Oper:=(match Try.f25.body with|some (.seq (.region _ o _) _)=>o[0]!|_=>default)
theorem body64:Try.f25.body=some (.seq (.region 0 #[def64] false) (.region 1 ops64 false)):=by kernel_rfl
theorem d64:def64.dst=none∧def64.op=.defer { callee:=.value (.func 23),args:=#[.tmp 0],argTypes:=#[60] }∧def64.guard=none:=⟨by kernel_rfl,by kernel_rfl,by kernel_rfl⟩
theorem size64:ops64.size=4:=by kernel_rfl
def yd8 (wg ba bb hi:Nat):Deferred:={ target:=.fn (.func 25) #[ptr wg,ptr ba,ptr bb,ptr hi],args:=#[] }
theorem born64 (wg ba bb hi:Nat) (w:World):stepG Try.prog false (born Try.prog (yd8 wg ba bb hi)) w =
  .go (G (b64.at ⟨#[ptr wg,ptr ba,ptr bb,ptr hi,undef,undef,undef],[]⟩ [.code (.seq (.region 0 #[def64] false) (.region 1 ops64 false))]) [bot]) w #[]:=by
 have hb:=body64;have hn:(Try.f25.name == "runtime.NumGoroutine")=false:=by kernel_rfl
 have hn':¬ Try.f25.name = "runtime.NumGoroutine" := by simpa using hn
 have ht:Try.f25.ntmps=7:=by kernel_rfl
 simp [born,yd8,stepG,unwind,callDeferred,invoke,callFunc,Try.func25,hb,hn',ht,seen,GStep.after,G,Frame.enter,Frame.at,b64,baseD,bot]
section
variable {X:PH} {K:Cfg} {P:Program} {S T:FuncId->Bool} {kdOf:FuncId->y17} {ba bb lo:Nat} {va vb xa xb:Value} {u0 w0:World} {Post0 Post1:Value->World->Prop} {w:World} {L:List Nat} {i:Nat}
theorem start64 (H:Told X K P S T kdOf ba bb va vb xa xb u0 w0) {Stop:List Nat->Goroutine->World->Prop} (hB:Base X i w0 [] w)
  (h:∀ w₁,Base X i w0 [] w₁->WG X.P false (X.R i) (X.D i) Stop [] (G (b64.at ⟨#[ptr X.G.Wg,ptr ba,ptr bb,ptr X.G.hi,undef,undef,undef],[dcall 23 #[ptr X.G.Wg]]⟩ [.inRegion ops64 [0,1,2,3]]) [bot]) w₁) :
  WG X.P false (X.R i) (X.D i) Stop [] (born Try.prog (yd8 X.G.Wg ba bb X.G.hi)) w:=by
 have hX:=H.prog;refine y3b hB rfl (fun w₁=>by rw [hX];exact born64 _ _ _ _ w₁) fun w hB=>?_
 refine y3b hB rfl (fun _=>stepG_seq) fun w hB=>?_
 refine y3b hB rfl (fun _=>stepG_region) fun w hB=>?_
 have hd:∀ w,stepG X.P false (G (b64.at ⟨#[ptr X.G.Wg,ptr ba,ptr bb,ptr X.G.hi,undef,undef,undef],[]⟩ [.inRegion #[def64] [0],.code (.region 1 ops64 false)]) [bot]) w=.go (G (b64.at ⟨#[ptr X.G.Wg,ptr ba,ptr bb,ptr X.G.hi,undef,undef,undef],[dcall 23 #[ptr X.G.Wg]]⟩ [.inRegion #[def64] [],.code (.region 1 ops64 false)]) [bot]) w #[]:=by
  intro w;obtain ⟨h1,h2,h3⟩:=d64;rw [stepG_defer (o:=def64) rfl (y1e h3 _ _) (by decide) h2,h1];simp [Act.put,Act.eval]
 refine y3b hB rfl hd fun w hB=>?_
 refine y3b hB rfl (fun _=>stepG_region_end) fun w hB=>?_
 refine y3b hB rfl (fun _=>stepG_region) fun w hB=>?_
 rw [size64];exact h w hB
theorem worker1 (H:Told X K P S T kdOf ba bb va vb xa xb u0 w0) (hp1:X.Post 1=Got1 X.G K Post1) {x0:Value} (hhi:w0.heap[X.G.hi]?=some (.cells #[x0] 29 (0,0)))
  (hS:S 26=true) (hPt:∀ v u τ,Post1 v u->Post1 v (retape u τ)) (hsl:∀ v u,Post1 v u->∃ s n c,v=.slice s n c) (hc:∀ τ,Calls P 26 #[xa,xb] (retape u0 τ) fun e u'=>∃ v,e=.returned v∧Post1 v u') (hB:Base X 1 w0 [] w) :
  WG X.P false (X.R 1) (X.D 1) (X.AtRel 1) [] (born Try.prog (yd8 X.G.Wg ba bb X.G.hi)) w:=by
 have hX:=H.prog;obtain ⟨o0,ho0,hd0,hop0,hg0⟩:=o64_0;obtain ⟨o1,ho1,hd1,hop1,hg1⟩:=o64_1;obtain ⟨o2,ho2,hd2,hop2,hg2⟩:=o64_2;obtain ⟨o3,ho3,hd3,hop3,hg3⟩:=o64_3;have hf:P.funcs[26]?=some Try.f26:=(H.calm.same 26 hS).symm.trans Try.func26;have hone:oneB P 26=true:=by
  have:(Try.f26.results.size == 1)=true:=by kernel_rfl
  simpa [oneB,hf] using this
 have hn:(Try.f26.name == "runtime.NumGoroutine")=false:=by kernel_rfl
 obtain ⟨cd,hcd⟩:∃ cd,Try.f26.body=some cd:=⟨_,rfl⟩
 refine start64 H hB fun w hB=>?_
 refine yey (b:=b64) (kk:=[]) (cs:=[bot]) hX hB ho0 hg0 (by decide) (.inl hop0) (bl:=ba) rfl H.visa H.ca fun w hB=>?_
 rw [hd0];refine yey (b:=b64) (kk:=[]) (cs:=[bot]) hX hB ho1 hg1 (by decide) (.inl hop1) (bl:=bb) rfl H.visb H.cb fun w hB=>?_
 rw [hd1];refine y3b (g':=G (Frame.enter X.P 26 #[va,vb] .normal) (b64.at ⟨#[ptr X.G.Wg,ptr ba,ptr bb,ptr X.G.hi,va,vb,undef],[dcall 23 #[ptr X.G.Wg]]⟩ [.inRegion ops64 [2,3]] :: [bot])) hB rfl (fun w=>?_) fun w hB=>?_
 ·obtain ⟨es,h1,rfl⟩:=y75 (X:=X) hX (b:=b64) (a:=⟨#[ptr X.G.Wg,ptr ba,ptr bb,ptr X.G.hi,va,vb,undef],[dcall 23 #[ptr X.G.Wg]]⟩) (kk:=[]) (cs:=[bot]) (rest:=[3]) ho2 hg2 (by decide) hop2 Try.func26 hn hcd w
  refine Eq.trans h1 ?_;have e:Array.map (Act.eval ⟨#[ptr X.G.Wg,ptr ba,ptr bb,ptr X.G.hi,va,vb,undef],[dcall 23 #[ptr X.G.Wg]]⟩) #[Operand.tmp 4,Operand.tmp 5]=#[va,vb]:=by
   simp [Act.eval]
  rw [e]
 ·refine y74 (hX.trans H.same.symm) H.G H.calm H.ST H.al H.ro H.N H.Rd H.Wr hf hS (by kernel_rfl) H.size H.args (H.rel 1 w hB) hPt hc hB _ _ fun L v v' u w hB hv hW hp=>?_
  rw [hone,if_pos rfl] at hv;rw [Frame.finish_at,ho2,Option.bind_some,hd2];show WG X.P false (X.R 1) (X.D 1) (X.AtRel 1) L (G (b64.at ⟨#[ptr X.G.Wg,ptr ba,ptr bb,ptr X.G.hi,va,vb,v'],[dcall 23 #[ptr X.G.Wg]]⟩ [.inRegion ops64 [3]]) [bot]) w;refine .of_step rfl fun w₁ r1=>?_
  have hB1:=hB.rely r1;have hW1:=hW.rely (y50 H.al H.ro H.Rd r1);have hhi1:w₁.heap[X.G.hi]?=some (.cells #[x0] 29 (0,0)):=(hB1.kept _ (.inr (.inr ⟨rfl,rfl⟩))).trans hhi;have hcell:w₁.cell? ⟨X.G.hi,0,none⟩=some x0:=by simp [World.cell?,hhi1]
  have hfz:w₁.frozen? ⟨X.G.hi,0,none⟩=false:=by simp [World.frozen?,hhi1]
  have hsl':∃ s n c,v'=.slice s n c:=by
   obtain ⟨s,n,c,rfl⟩:=hsl v u hp;cases hv with
   |cell h =>
    cases h with
    |flat h=>exact ⟨_,_,_,rfl⟩
    |slice _ _ _=>exact ⟨_,_,_,rfl⟩
  have hst:∃ es,stepG X.P false (G (b64.at ⟨#[ptr X.G.Wg,ptr ba,ptr bb,ptr X.G.hi,va,vb,v'],[dcall 23 #[ptr X.G.Wg]]⟩ [.inRegion ops64 [3]]) [bot]) w₁=.go (G (b64.at ⟨#[ptr X.G.Wg,ptr ba,ptr bb,ptr X.G.hi,va,vb,v'],[dcall 23 #[ptr X.G.Wg]]⟩ [.inRegion ops64 []]) [bot]) (w₁.setCell ⟨X.G.hi,0,none⟩ v') es∧∀ e ∈ es,e=⟨.cell ⟨X.G.hi,0,none⟩,true,false⟩:=by
   rw [hX];obtain ⟨es,h1,h2⟩:=ydr (main:=false) (b:=b64) (kk:=[]) (cs:=[bot]) (rest:=[]) (a:=⟨#[ptr X.G.Wg,ptr ba,ptr bb,ptr X.G.hi,va,vb,v'],[dcall 23 #[ptr X.G.Wg]]⟩) ho3 (y1e hg3 _ _) (by decide) hop3 (ad:=⟨X.G.hi,0,none⟩) (v:=v') rfl rfl hsl' hcell hfz;rw [hd3] at h1;exact ⟨es,h1,h2⟩
  obtain ⟨es,hgo,hes⟩:=hst;have hA:=aside_setCell w₁ ⟨X.G.hi,0,none⟩ v';have hnew:(w₁.setCell ⟨X.G.hi,0,none⟩ v').heap[X.G.hi]?=some (.cells #[v'] 29 (0,0)):=by
   rw [setCell_eq_setRow w₁ X.G.hi 0 #[x0] _ (0,0) _ hhi1,setRow_heap w₁ X.G.hi _ _ _ _ hhi1];simp
  have hGv:=H.G.vis ba H.visa;have hL':∀ b ∈ L,X.G.N0≤b∧b<(w₁.setCell ⟨X.G.hi,0,none⟩ v').heap.size:=fun b hb=>by rw [hA.size];exact hB1.within b hb
  have hrel:RelyK K L w₁ (w₁.setCell ⟨X.G.hi,0,none⟩ v'):=⟨hA.os,hA.output,Nat.le_of_eq hA.size.symm,fun b hb _=>hA.block b (H.G.vis b (H.Rd b hb)).2.2.1,fun b hb=>hA.block b (by have:=(hB1.within b hb.1).1;have:=H.G.lh;simp only;omega),fun j b s hj=>(by rw [H.al] at hj;simp at hj),fun b b' s hj=>hA.block b' (H.G.vis b' (H.ro b b' s hj)).2.2.1⟩
  refine ⟨L,_,_,es,hgo,⟨hA.tape,hA.os,hA.output,Nat.le_of_eq hA.size.symm,List.prefix_refl L,fun j b hj hl=>by have:=(List.getElem?_eq_some_iff.1 hj).1;omega,hL',fun b h1 h2 h3=>hA.block b fun e=>h3 ⟨rfl,e⟩,fun e he=>by rw [hes e he];exact .write (.inr ⟨rfl,rfl⟩)⟩,?_⟩;refine y65 hX H.ty (fun L w w₁ h r=>by rw [hp1] at h ⊢;exact h.rely H.al H.ro H.Rd r) Try.func25 (by kernel_rfl) (C:=ba) (.inl H.visa) hGv.2.2.2.1 _ ops64 (cv:=va) ?_ ?_ hL' ?_
  ·exact (cell_of_block ((hA.block ba hGv.2.2.1).trans (hB1.kept _ (.inl H.visa))) 0).trans H.ca
  ·have:=hB1.live
   rw [H.ty] at this;obtain ⟨st,sm,hw⟩:=this;exact ⟨st,sm,hw.of_block (hA.block _ (Ne.symm H.G.hw))⟩
  ·rw [hp1]
   exact ⟨v,v',u,by simp [World.cell?,hnew],hv,hW1.rely hrel,hp⟩
end
end Go.Mt
namespace Go.Mt
open Go.Tr Go.Conc Go.ConcN
open Go.ConcR (KK wgBlock WgAt stA smA rd wr Payload DC0 Bk g_of_ofEvents again_blocked bk_of_mute ofEvent_loc_mark ofEvent_cell loc_of_ofEvent ofEvent_mk)
structure PstD (d:Nat) (Sh:Loc->Prop) (n B:Nat) (t:Trace):Prop where
 clean:∀ said,¬ Race said t
 known:∀ i a,touchAt t i=some a->a.loc.isMemory=true->Knows t 0 i∨(Sh a.loc∧a.kind=.atomic)
 over:t.HandedOver
 deaf:Deaf t 0=d
 seen:∀ op ∈ t,op.act.low B
 quiet:Quiet Sh t
 gs:∀ op ∈ t,op.g<n
 nr:∀ op ∈ t,∀ a,op.act≠.mark (.release a)
theorem PstD.to {Sh:Loc->Prop} {n B:Nat} {t:Trace} (h:PstD 0 Sh n B t):Pst Sh n B t:=⟨⟨h.clean,h.known,h.over,h.deaf,h.seen⟩,h.quiet,h.gs,h.nr⟩
theorem Pst.toD {Sh:Loc->Prop} {n B:Nat} {t:Trace} (h:Pst Sh n B t):PstD 0 Sh n B t:=⟨h.past.clean,h.past.known,h.past.over,h.past.hears,h.past.seen,h.quiet,h.gs,h.nr⟩
def EvB (Sh:Loc->Prop) (B:Nat) (e:Event):Prop:=(∀ x,(MemAct.ofEvent e).touch?=some x->Sh x.loc->x.kind≠.plain)∧(MemAct.ofEvent e).low B∧∀ a,e.loc≠.mark (.release a)
def RB:List Nat->World->World->Prop:=fun _ w w₁=>AtRel w w₁
def DB (Sh:Loc->Prop) (L L':List Nat) (w w':World) (es:Array Event):Prop:=w.heap.size≤w'.heap.size∧deafBehind L.length es=L'.length∧∀ e ∈ es,EvB Sh w'.heap.size e
section
variable {Sh:Loc->Prop} {n B B' d d':Nat} {t u:Trace}
theorem PstD.mono (h:PstD d Sh n B t) (hB:B≤B'):PstD d Sh n B' t:=⟨h.clean,h.known,h.over,h.deaf,fun op hop=>MemAct.low_mono hB (h.seen op hop),h.quiet,h.gs,h.nr⟩
theorem PstD.app0 (h:PstD d Sh n B t) (hn:0<n) (hu:∀ op ∈ u,op.g=0) (hs:∀ op ∈ u,∀ b,op.act.touch?=some b->Sh b.loc->b.kind≠.plain) (hd:Deaf (t ++ u) 0=d') (hl:∀ op ∈ u,op.act.low B) (hr:∀ op ∈ u,∀ a,op.act≠.mark (.release a)):PstD d' Sh n B (t ++ u):=by
 refine ⟨fun said=>noRace_append (h.clean said) hu fun i a ha op hop b hb hc=>?_,fun i a ha hm=>?_,handedOver_app h.over fun op hop=>.inl (hu op hop),hd,seen_app h.seen hl,h.quiet.app fun op hop x hx hxs=>⟨hs op hop x hx hxs,fun _=>hu op hop⟩,fun op hop=>?_,fun op hop a=>?_⟩
 ·rcases h.known i a ha hc.2.1 with hk|⟨hsa,hka⟩
  ·exact hk
  ·have hkb:=hs op hop b hb (hc.1 ▸ hsa)
   obtain ⟨_,_,_,hcase⟩:=hc;rw [hka] at hcase;rcases hcase with x|x|⟨_,x,_⟩
   ·cases x
   ·exact absurd x hkb
   ·cases x
 ·obtain ⟨x,hx,hxa⟩:=touch_of ha
  rcases getElem?_append_cases hx with ⟨_,hx'⟩|⟨_,hxu⟩
  ·exact (h.known i a (by rw [touchAt_of hx'];exact hxa) hm).imp (·.app u) id
  ·have:=knows_own hx
   rw [hu x hxu] at this;exact .inl this
 ·rcases Array.mem_append.1 hop with ho|ho
  ·exact h.gs op ho
  ·rw [hu op ho];exact hn
 ·rcases Array.mem_append.1 hop with ho|ho
  ·exact h.nr op ho a
  ·exact hr op ho a
theorem PstD.own (h:PstD d Sh n B t) (hn:0<n) {fn:FuncId} {pos:String} {es:Array Event} (hes:∀ e ∈ es,EvB Sh B e):PstD (deafBehind d es) Sh n B (t ++ MemOp.ofEvents 0 fn pos es):=by
 refine h.app0 hn (fun op hop=>by obtain ⟨e,_,rfl⟩:=Go.Conc.mem_ofEvents hop;rfl) (fun op hop b hb=>by obtain ⟨e,he,rfl⟩:=Go.Conc.mem_ofEvents hop;exact (hes e he).1 b hb) ?_ (fun op hop=>by obtain ⟨e,he,rfl⟩:=Go.Conc.mem_ofEvents hop;exact (hes e he).2.1) (fun op hop a ha=>by obtain ⟨e,he,rfl⟩:=Go.Conc.mem_ofEvents hop;exact (hes e he).2.2 a (loc_of_ofEvent ha));rw [Deaf_own,h.deaf]
theorem PstD.mute {i:Nat} {fn:FuncId} {pos:String} {es:Array Event} (h:PstD d Sh n B t) (h0:i≠0) (hi:i<n) (hm:∀ e ∈ es,e.mute=true):PstD d Sh n B (t ++ MemOp.ofEvents i fn pos es):=by
 have hg:∀ op ∈ MemOp.ofEvents i fn pos es,op.g=i:=g_of_ofEvents;have hn:∀ op ∈ MemOp.ofEvents i fn pos es,op.act.touch?=none:=fun op hop=>by obtain ⟨e,he,rfl⟩:=Go.Conc.mem_ofEvents hop;exact touch_mute (hm e he)
 refine ⟨fun said=>noRace_append (h.clean said) hg fun i a _ op hop b hb _=>(by rw [hn op hop] at hb;cases hb),fun i a ha hm=>?_,handedOver_app h.over fun op hop=>.inr (hn op hop),(Deaf_other t h0 _ hg).trans h.deaf,seen_app h.seen fun op hop=>?_,h.quiet.app fun op hop x hx=>(by rw [hn op hop] at hx;cases hx),fun op hop=>?_,fun op hop a ha=>?_⟩
 ·obtain ⟨x,hx,hxa⟩:=touch_of ha
  rcases getElem?_append_cases hx with ⟨_,hx'⟩|⟨_,hxu⟩
  ·exact (h.known _ a (by rw [touchAt_of hx'];exact hxa) hm).imp (·.app _) id
  ·rw [hn x hxu] at hxa;cases hxa
 ·obtain ⟨e,he,rfl⟩:=Go.Conc.mem_ofEvents hop
  exact low_mute (hm e he) B
 ·rcases Array.mem_append.1 hop with ho|ho
  ·exact h.gs op ho
  ·rw [hg op ho];exact hi
 ·rcases Array.mem_append.1 hop with ho|ho
  ·exact h.nr op ho a ha
  ·obtain ⟨e,he,rfl⟩:=Go.Conc.mem_ofEvents ho
   exact (y45 (hm e he)).2 a (loc_of_ofEvent ha)
theorem PstD.shun {Sh':Loc->Prop} (h:PstD d Sh n B t) (hs:∀ l,Sh l->Sh' l) (hn:∀ l,Sh' l->Sh l∨∃ b,B≤b∧inB b l):PstD d Sh' n B t:=by
 refine ⟨h.clean,fun i a ha hm=>(h.known i a ha hm).imp id fun x=>⟨hs _ x.1,x.2⟩,h.over,h.deaf,h.seen,fun i op x hi hx hxs=>?_,h.gs,h.nr⟩;rcases hn _ hxs with h1|⟨b,hb,hl⟩
 ·exact h.quiet i op x hi hx h1
 ·exact (y9i h.seen hb hl i x (by rw [touchAt_of hi];exact hx) rfl).elim
end
theorem y99 (w:World) (c d:Nat):(w.at c).at d=w.at d:=rfl
structure Fr (P:Program) (Sh:Loc->Prop) (d:Nat) (gs:Array Goroutine) (a:Goroutine) (w:World) (t:Trace) (q:Nat->Nat):Prop where
 g0:gs[0]?=some a
 lv:Leavers P t gs q
 pst:PstD d Sh gs.size w.heap.size t
theorem Fr.at {P:Program} {Sh:Loc->Prop} {d:Nat} {gs:Array Goroutine} {a:Goroutine} {w:World} {t:Trace} {q:Nat->Nat} (h:Fr P Sh d gs a w t q) (c:Nat):Fr P Sh d gs a (w.at c) t q:=⟨h.g0,h.lv,h.pst⟩
section
variable {P:Program} {Sh:Loc->Prop} {d:Nat} {gs:Array Goroutine} {a:Goroutine} {w:World} {t:Trace} {q:Nat->Nat} {sl:Option (Nat × Nat)}
theorem y5l (P:Program) (g g':Goroutine) (w':World) (i:Nat) {k:Nat} {x:Goroutine} (hne:k≠i) (hx:gs[k]?=some x) (hs:x.status=.running∨x.status=.finished):((gs.map (woken P g g' w')).setIfInBounds i g')[k]?=some x:=by
 rw [get_map_set _ _ _ _ (Ne.symm hne),hx,Option.map_some];unfold Go.Conc.woken;split
 ·rw [again_running _ hs]
 ·rfl
theorem Fr.pick (h:Fr P Sh d gs a w t q) (hr:a.status=.running):∃ (i c:Nat) (sl':Option (Nat × Nat)) (g:Goroutine),stepT P (crowd gs w sl)=runT P (crowd gs (w.at c) sl') i∧gs[i]?=some g∧g.status=.running:=by
 have haw:∀ g ∈ gs,awake g:=by
  intro g hg;obtain ⟨i,hi,rfl⟩:=Array.mem_iff_getElem.1 hg;rcases Nat.eq_zero_or_pos i with rfl|hpos
  ·have:gs[0]=a:=by simpa [Array.getElem?_eq_getElem hi] using h.g0
   rw [this];exact awake_of (.inl hr)
  ·exact awake_of ((h.lv.old i _ hpos (Array.getElem?_eq_getElem hi)).status.elim .inl fun x=>.inr (.inr x))
 obtain ⟨i,g,c,sl',hi,hg,hst⟩:=crowd_pick (P:=P) (w:=w) (sl:=sl) haw ⟨0,a,h.g0,hr⟩;exact ⟨i,c,sl',g,hst,hi,hg⟩
theorem Fr.leaver (h:Fr P Sh d gs a w t q) (hr:a.status=.running∨a.status=.finished) {i:Nat} {g:Goroutine} (i0:0<i) (hi:gs[i]?=some g) (hg:g.status=.running) :
  ∃ gs' ops q',runT P (crowd gs w sl) i=(.next (crowd gs' w sl),ops)∧gs'.size=gs.size∧Fr P Sh d gs' a w (t ++ ops) q'∧sumTo gs.size q'<sumTo gs.size q:=by
 have hlt:i<gs.size:=(zGe hi).1;have hq:=h.lv.old i g i0 hi;cases hqi:q i with
 |zero=>rw [hqi] at hq;rw [hq.1] at hg;cases hg
 |succ k =>
  rw [hqi] at hq;rcases hq with ⟨hf,_⟩|⟨_,g',es,hm,hstp,hq'⟩
  ·rw [hf] at hg;cases hg
  have hrunT:=runT_crowd_go (P:=P) (sl:=sl) (i:=i) hi (by rw [show (i == 0)=false by simp;omega];exact hstp w);have hgu:∀ op ∈ MemOp.ofEvents i g.frame.fn g.frame.place es,op.g=i:=g_of_ofEvents;have hsum:sumTo gs.size (upd q i k)+(k+1)=sumTo gs.size q+k:=by
   have:=sumTo_upd q k id hlt;simpa [hqi] using this
  refine ⟨_,_,upd q i k,hrunT,by simp,⟨y5l P g g' w i (by omega) h.g0 hr,⟨fun x y hx hy=>?_,fun x hx=>?_⟩,?_⟩,by omega⟩
  ·by_cases e:x=i
   ·subst e
    rw [get_map_set_same _ _ _ hlt] at hy;obtain rfl:=zSi hy;rw [upd_same,Deaf_own];exact hq'
   ·have hxl:x<gs.size:=by
     have:=(zGe hy).1;simpa using this
    obtain ⟨z,hz⟩:∃ z,gs[x]?=some z:=⟨_,Array.getElem?_eq_getElem hxl⟩
    have hqz:=h.lv.old x z hx hz;rw [y5l P g g' w i e hz hqz.status] at hy;obtain rfl:=zSi hy;rw [upd_ne q k e,Deaf_other t (by omega) _ hgu];exact hqz
  ·have hx':gs.size≤x:=by simpa using hx
   rw [Deaf_other t (g':=i) (by omega) _ hgu];exact h.lv.above x hx'
  ·have:=h.pst.mute (fn:=g.frame.fn) (pos:=g.frame.place) (by omega) hlt hm
   simpa using this
theorem Fr.own (h:Fr P Sh d gs a w t q) {a':Goroutine} {w':World} {es:Array Event} (hgo:stepG P true a w=.go a' w' es) (hsz:w.heap.size≤w'.heap.size) (hes:∀ e ∈ es,EvB Sh w'.heap.size e) :
  ∃ gs' ops,runT P (crowd gs w sl) 0=(.next (crowd gs' w' sl),ops)∧gs'.size=gs.size∧Fr P Sh (deafBehind d es) gs' a' w' (t ++ ops) q:=by
 have hlt:0<gs.size:=(zGe h.g0).1;have hrunT:=runT_crowd_go (P:=P) (sl:=sl) (i:=0) h.g0 (by simpa using hgo);have hgu:∀ op ∈ MemOp.ofEvents 0 a.frame.fn a.frame.place es,op.g=0:=g_of_ofEvents;refine ⟨_,_,hrunT,by simp,⟨get_map_set_same _ _ _ hlt,⟨fun x y hx hy=>?_,fun x hx=>?_⟩,?_⟩⟩
 ·have hxl:x<gs.size:=by
   have:=(zGe hy).1;simpa using this
  obtain ⟨z,hz⟩:∃ z,gs[x]?=some z:=⟨_,Array.getElem?_eq_getElem hxl⟩
  have hqz:=h.lv.old x z hx hz;rw [y5l P a a' w' 0 (by omega) hz hqz.status] at hy;obtain rfl:=zSi hy;rw [Deaf_other t (by omega) _ hgu];exact hqz
 ·have hx':gs.size≤x:=by simpa using hx
  rw [Deaf_other t (g':=0) (by omega) _ hgu];exact h.lv.above x hx'
 ·have:=(h.pst.mono hsz).own (fn:=a.frame.fn) (pos:=a.frame.place) hlt hes
  simpa using this
theorem Fr.turn (hr:a.status=.running) {Goal:Machine->Trace->Prop}
  (hs:∀ (gs':Array Goroutine) (c:Nat) (sl':Option (Nat × Nat)) (t':Trace) (q':Nat->Nat),gs'.size=gs.size->Fr P Sh d gs' a (w.at c) t' q'->∃ m₁ ops,runT P (crowd gs' (w.at c) sl') 0=(.next m₁,ops)∧∃ N m' t'',runNT P N m₁ (t' ++ ops)=(.next m',t'')∧Goal m' t'') :
  ∀ (M:Nat) (gs':Array Goroutine) (c:Nat) (sl:Option (Nat × Nat)) (t:Trace) (q:Nat->Nat),gs'.size=gs.size->sumTo gs.size q≤M->Fr P Sh d gs' a (w.at c) t q->∃ N m' t',runNT P N (crowd gs' (w.at c) sl) t=(.next m',t')∧Goal m' t':=by
 intro M
 induction M with
 |zero=>?_
 |succ M ih=>?_
 all_goals
  intro gs' c sl t q hsz hM h;obtain ⟨i,c',sl',g,hst,hi,hg⟩:=h.pick (sl:=sl) hr;rcases Nat.eq_zero_or_pos i with rfl|hpos
  ·obtain ⟨m₁,ops,h1,N,m',t'',h2,h3⟩:=hs gs' c' sl' t q hsz (h.at c')
   exact ⟨N+1,m',t'',by rw [y99] at hst;simp only [runNT,hst,h1];exact h2,h3⟩
  ·obtain ⟨gs2,ops,q',h1,h2,h3,h4⟩:=Fr.leaver (sl:=sl') (h.at c') (.inl hr) hpos hi hg
   rw [hsz] at h4
   first
   |(exfalso;omega)
   |obtain ⟨N,m',t',h5,h6⟩:=ih gs2 c' sl' (t ++ ops) q' (h2.trans hsz) (by omega) h3
    exact ⟨N+1,m',t',by rw [y99] at hst h1;simp only [runNT,hst,h1];exact h5,h6⟩
theorem besideW {Stop:List Nat->Goroutine->World->Prop} {L:List Nat} (hW:WG P true RB (DB Sh) Stop L a w):∀ (gs:Array Goroutine) (sl:Option (Nat × Nat)) (t:Trace) (q:Nat->Nat),Fr P Sh L.length gs a w t q →
  ∃ N m' t',runNT P N (crowd gs w sl) t=(.next m',t')∧∃ (gs':Array Goroutine) (a':Goroutine) (w':World) (sl':Option (Nat × Nat)) (q':Nat->Nat) (L':List Nat),m'=crowd gs' w' sl'∧gs'.size=gs.size∧Fr P Sh L'.length gs' a' w' t' q'∧Stop L' a' w':=by
 induction hW with
 |@stop L a w h=>exact fun gs sl t q hF=>⟨0,_,t,rfl,gs,a,w,sl,q,L,rfl,rfl,hF,h w (atRel_refl w)⟩
 |@step L a w nx hr h1 h2 ih =>
  intro gs sl t q hF;have hF':Fr P Sh L.length gs a (w.at w.drawn) t q:=hF;refine Fr.turn (w:=w) (gs:=gs) (Goal:=fun m' t'=>∃ (gs':Array Goroutine) (a':Goroutine) (w':World) (sl':Option (Nat × Nat)) (q':Nat->Nat) (L':List Nat),m'=crowd gs' w' sl'∧gs'.size=gs.size∧Fr P Sh L'.length gs' a' w' t' q'∧Stop L' a' w') hr (fun gs2 c sl2 t2 q2 hsz2 hF2=>?_) _ gs w.drawn sl t q rfl (zLe _) hF';have hr2:RB L w (w.at c):=⟨c,rfl⟩
  obtain ⟨hgo,hsz,hdf,hes⟩:=h1 _ hr2;obtain ⟨gs3,ops,h3,h4,h5⟩:=hF2.own (sl:=sl2) hgo hsz hes;rw [hdf] at h5;obtain ⟨N,m',t',h6,gs',a',w',sl',q',L',h7,h8,h9⟩:=ih _ hr2 gs3 sl2 _ q2 h5;exact ⟨_,ops,h3,N,m',t',h6,gs',a',w',sl',q',L',h7,h8.trans (h4.trans hsz2),h9⟩
end
end Go.Mt
namespace Go.Mt
open Go.Tr Go.Conc Go.ConcN Go.Proofs Go.RowKit Go.Conc.Lib Go.ConcR.Gen Go.ConcN.Gen
open Go.ConcR (KK wgBlock WgAt stA smA rd wr Payload DC0)
theorem y0m (w:World) (o:Obj):(w.alloc o).heap.size=w.heap.size+1:=by
 show (w.heap.push o).size=_;simp
def MW (Sh:Loc->Prop) (Stop:List Nat->Goroutine->World->Prop) (g:Goroutine) (w:World):Prop:=∀ d,WG Try.prog true RB (DB Sh) Stop [] g (w.at d)
def EvQ (Sh:Loc->Prop) (B:Nat) (e:Event):Prop:=EvB Sh B e∧e.loc≠.mark .disable∧e.loc≠.mark .enable
theorem y4g {es:Array Event} (h:∀ e ∈ es,e.loc≠.mark .disable∧e.loc≠.mark .enable) (d:Nat):deafBehind d es=d:=by
 have key:∀ (l:List Event),(∀ e ∈ l,e.loc≠.mark .disable∧e.loc≠.mark .enable)->∀ d,l.foldl (fun n e=>match e.loc with|.mark .disable=>n+1|.mark .enable=>n - 1|_=>n) d=d:=by
  intro l
  induction l with
  |nil=>intro _ d;rfl
  |cons e l ih =>
   intro hl d;obtain ⟨h1,h2⟩:=hl e (by simp);rw [List.foldl_cons];have:(match e.loc with|.mark .disable=>d+1|.mark .enable=>d - 1|_=>d)=d:=by
    split
    ·rename_i hx;exact absurd hx h1
    ·rename_i hx;exact absurd hx h2
    ·rfl
   rw [this];exact ih (fun x hx=>hl x (by simp [hx])) d
 unfold deafBehind;rw [← Array.foldl_toList];exact key _ (fun e he=>h e (by simpa using he)) d
section
variable {Sh:Loc->Prop} {Stop:List Nat->Goroutine->World->Prop} {g g':Goroutine} {w w':World}
theorem y5i (hr:g.status=.running) (hsz:w.heap.size≤w'.heap.size) (h:∀ d,∃ es d',stepG Try.prog true g (w.at d)=.go g' (w'.at d') es∧∀ e ∈ es,EvQ Sh w'.heap.size e) (hn:MW Sh Stop g' w'):MW Sh Stop g w:=by
 intro d;refine .of_step hr fun w₁ r=>?_
 obtain ⟨d1,rfl⟩:=r;obtain ⟨es,d2,h1,h2⟩:=h d1;exact ⟨[],g',w'.at d2,es,h1,⟨hsz,y4g (fun e he=>(h2 e he).2) 0,fun e he=>(h2 e he).1⟩,hn d2⟩
theorem y12 (hr:g.status=.running) (h:∀ w,stepG Try.prog true g w=.go g' w #[]) (hn:MW Sh Stop g' w):MW Sh Stop g w :=
 y5i hr (zLe _) (fun d=>⟨#[],d,h _,by simp⟩) hn
theorem y6v (h:∀ d,Stop [] g (w.at d)):MW Sh Stop g w:=fun d=>.stop fun w₁ ⟨d1,e⟩=>by
 rw [e];exact h d1
end
section
variable {Sh:Loc->Prop} {Stop:List Nat->Goroutine->World->Prop} {b:Frame} {a:Act} {kk:List Item} {cs:List Frame} {w w':World} {ops:Array Oper} {j:Nat} {rest:List Nat} {o:Oper} {x y:Operand} {v:Value}
theorem y59 (ho:ops[j]?=some o) (hg:o.guard=none) (hk:b.kind≠.early) (hsz:w.heap.size≤w'.heap.size) (hr:∀ d,(execOp a.eval o).run Try.prog (w.at d)=.ok (.value v) (w'.at d)) (he:∀ d,(execOp a.eval o).events Try.prog (w.at d) #[]=#[])
  (hn:MW Sh Stop (G (b.at (a.put o.dst v) (.inRegion ops rest :: kk)) cs) w'):MW Sh Stop (G (b.at a (.inRegion ops (j :: rest) :: kk)) cs) w :=
 y5i rfl hsz (fun d=>⟨_,d,stepG_value ho (y1e hg _ _) hk (hr d),fun e hm=>by
  unfold listed at hm;rw [he d,seen_none] at hm;simp at hm⟩) hn
theorem mw_box (ho:ops[j]?=some o) (hg:o.guard=none) (hk:b.kind≠.early) (hop:o.op=.box 29 x) {s:Option Addr} {n c:Nat} (hx:a.eval x=.slice s n c)
  (hn:MW Sh Stop (G (b.at (a.put o.dst (ptr w.heap.size)) (.inRegion ops rest :: kk)) cs) (w.alloc (.cells #[.slice s n c] 29 (0,0)))):MW Sh Stop (G (b.at a (.inRegion ops (j :: rest) :: kk)) cs) w:=by
 refine y59 ho hg hk (by rw [y0m];omega) (fun d=>?_) (fun d=>?_) hn
 ·unfold execOp
  simp only [hop,hx];simp [go_sem,Try.isAgg29,Try.runUnderlying29,Try.sizeOf29];exact ⟨rfl,rfl⟩
 ·unfold execOp
  simp only [hop,hx];simp [go_sem,Try.isAgg29,Try.runUnderlying29,Try.sizeOf29]
theorem yef (ho:ops[j]?=some o) (hg:o.guard=none) (hk:b.kind≠.early) (hop:o.op=.alloc 29)
  (hn:MW Sh Stop (G (b.at (a.put o.dst (ptr w.heap.size)) (.inRegion ops rest :: kk)) cs) (w.alloc (.cells #[.slice none 0 0] 29 (0,0)))):MW Sh Stop (G (b.at a (.inRegion ops (j :: rest) :: kk)) cs) w:=by
 refine y59 ho hg hk (by rw [y0m];omega) (fun d=>?_) (fun d=>?_) hn
 ·unfold execOp
  simp only [hop];simp [go_sem,Try.isAgg29,Try.runUnderlying29,Try.sizeOf29,Try.zeroValue29];exact ⟨rfl,rfl⟩
 ·unfold execOp
  simp only [hop];simp [go_sem,Try.isAgg29,Try.runUnderlying29,Try.sizeOf29,Try.zeroValue29]
theorem yee (ho:ops[j]?=some o) (hg:o.guard=none) (hk:b.kind≠.early) (hop:o.op=.alloc 51)
  (hn:MW Sh Stop (G (b.at (a.put o.dst (ptr w.heap.size)) (.inRegion ops rest :: kk)) cs) (w.alloc (.cells #[.chan none] 51 (0,0)))):MW Sh Stop (G (b.at a (.inRegion ops (j :: rest) :: kk)) cs) w:=by
 refine y59 ho hg hk (by rw [y0m];omega) (fun d=>?_) (fun d=>?_) hn
 ·unfold execOp
  simp only [hop];simp [go_sem,Try.isAgg51,Try.runUnderlying51,Try.sizeOf51,Try.zeroValue51];exact ⟨rfl,rfl⟩
 ·unfold execOp
  simp only [hop];simp [go_sem,Try.isAgg51,Try.runUnderlying51,Try.sizeOf51,Try.zeroValue51]
theorem yed (ho:ops[j]?=some o) (hg:o.guard=none) (hk:b.kind≠.early) (hop:o.op=.alloc 60)
  (hn:MW Sh Stop (G (b.at (a.put o.dst (ptr w.heap.size)) (.inRegion ops rest :: kk)) cs) (w.alloc (Go.ConcR.wgBlock 60 0 0))):MW Sh Stop (G (b.at a (.inRegion ops (j :: rest) :: kk)) cs) w:=by
 refine y59 ho hg hk (by rw [y0m];omega) (fun d=>?_) (fun d=>?_) hn
 ·unfold execOp
  simp only [hop];simp [go_sem,Try.isAgg60,Try.runUnderlying60,Try.sizeOf60,Try.zeroValue60];exact ⟨rfl,rfl⟩
 ·unfold execOp
  simp only [hop];simp [go_sem,Try.isAgg60,Try.runUnderlying60,Try.sizeOf60,Try.zeroValue60]
theorem mw_chan (ho:ops[j]?=some o) (hg:o.guard=none) (hk:b.kind≠.early) (hop:o.op=.makeChan 51 (.const (.int .i64 1)))
  (hn:MW Sh Stop (G (b.at (a.put o.dst (.chan (some w.heap.size))) (.inRegion ops rest :: kk)) cs) (w.alloc (.chan 1 #[] false 0 0 false))):MW Sh Stop (G (b.at a (.inRegion ops (j :: rest) :: kk)) cs) w:=by
 obtain ⟨i,hi,hb'⟩:∃ i,Try.prog.info? 29=some i∧i.bytes=24:=⟨_,rfl,by kernel_rfl⟩
 have hb:(i.bytes:Int) * (1:Nat)≤281474976710544:=by rw [hb'];omega
 refine y59 ho hg hk (by rw [y0m];omega) (fun d=>?_) (fun d=>?_) hn
 ·have:=fun w=>run_makeChan (P:=Try.prog) (w:=w) Try.underlying51 hi .i64 1 (by decide) hb
  unfold execOp;simp only [hop];simp [go_sem,Act.eval];rw [show (1:Int)=((1:Nat):Int) from rfl,this];rfl
 ·have:=fun w es=>events_makeChan (P:=Try.prog) (w:=w) Try.underlying51 hi .i64 1 (by decide) hb es
  unfold execOp;simp only [hop];simp [go_sem,Act.eval];rw [show (1:Int)=((1:Nat):Int) from rfl,this]
theorem y1x {B:Nat} {ad:Addr} {wr:Bool} (hs:∀ l,inB ad.block l->¬ Sh l) (hB:ad.block<B):EvQ Sh B ⟨.cell ad,wr,false⟩:=by
 refine ⟨⟨fun x hx hsx=>?_,hB,by simp⟩,by simp,by simp⟩;simp only [MemAct.ofEvent,MemAct.touch?,Option.some.injEq] at hx;subst hx;exact absurd hsx (hs _ rfl)
theorem y7g (ho:ops[j]?=some o) (hg:o.guard=none) (hk:b.kind≠.early) (hop:o.op=.load 29 x∨o.op=.load 51 x) {bl:Nat} (hx:a.eval x=ptr bl) (hs:∀ l,inB bl l->¬ Sh l) (hB:bl<w.heap.size) (hc:w.cell? ⟨bl,0,none⟩=some v)
  (hn:MW Sh Stop (G (b.at (a.put o.dst v) (.inRegion ops rest :: kk)) cs) w):MW Sh Stop (G (b.at a (.inRegion ops (j :: rest) :: kk)) cs) w:=by
 refine y5i rfl (zLe _) (fun d=>?_) hn;rcases hop with hop|hop
 ·obtain ⟨es,h1,h2⟩:=y7o (main:=true) (b:=b) (kk:=kk) (cs:=cs) (rest:=rest) (w:=w.at d) ho (y1e hg a ops) hk hop hx hc
  exact ⟨es,d,h1,fun e he=>by rw [h2 e he];exact y1x hs hB⟩
 ·obtain ⟨es,h1,h2⟩:=y7n (main:=true) (b:=b) (kk:=kk) (cs:=cs) (rest:=rest) (w:=w.at d) ho (y1e hg a ops) hk hop hx hc
  exact ⟨es,d,h1,fun e he=>by rw [h2 e he];exact y1x hs hB⟩
theorem ygh (ho:ops[j]?=some o) (hg:o.guard=none) (hk:b.kind≠.early) (hop:o.op=.store 51 x y) {bl:Nat} {c:Option Nat} {u:Value} (hx:a.eval x=ptr bl) (hy:a.eval y=.chan c) (hs:∀ l,inB bl l->¬ Sh l) (hB:bl<w.heap.size) (hc:w.cell? ⟨bl,0,none⟩=some u) (hz:w.frozen? ⟨bl,0,none⟩=false)
  (hn:MW Sh Stop (G (b.at (a.put o.dst undef) (.inRegion ops rest :: kk)) cs) (w.setCell ⟨bl,0,none⟩ (.chan c))):MW Sh Stop (G (b.at a (.inRegion ops (j :: rest) :: kk)) cs) w:=by
 refine y5i rfl (by rw [(aside_setCell w ⟨bl,0,none⟩ (.chan c)).size];exact zLe _) (fun d=>?_) hn;have hc':(w.at d).cell? ⟨bl,0,none⟩=some u:=hc;have hz':(w.at d).frozen? ⟨bl,0,none⟩=false:=hz;have hr:(execOp a.eval o).run Try.prog (w.at d)=.ok .skip ((w.at d).setCell ⟨bl,0,none⟩ (.chan c)):=by
  unfold execOp;simp only [hop,hx,hy];simp [go_sem,ptr,stored,hc',hz',Try.isAgg51,Try.runUnderlying51,Try.sizeOf51]
 have he':(execOp a.eval o).events Try.prog (w.at d) #[]=#[⟨.cell ⟨bl,0,none⟩,true,false⟩]:=by
  unfold execOp;simp only [hop,hx,hy];simp [go_sem,ptr,hc',hz',Try.isAgg51,Try.runUnderlying51,Try.sizeOf51,storedEv]
 refine ⟨_,d,stepG_none ho (y1e hg _ _) hk hr,fun e hm=>?_⟩;unfold listed at hm;rw [he'] at hm;rw [y4f hm];exact y1x hs (by rw [(aside_setCell w ⟨bl,0,none⟩ (.chan c)).size];exact hB)
theorem ygi (ho:ops[j]?=some o) (hg:o.guard=none) (hk:b.kind≠.early) {p q:Nat} (hop:o.op=.buildSlice 79 2 #[(0,.tmp p),(1,.tmp q)]) {s s':Option Addr} {n n' c c':Nat} (hx:a.tmps[p]?=some (.slice s n c)) (hy:a.tmps[q]?=some (.slice s' n' c'))
  (hn:MW Sh Stop (G (b.at (a.put o.dst (.slice (some ⟨w.heap.size,0,none⟩) 2 2)) (.inRegion ops rest :: kk)) cs) (w.alloc (.cells #[.slice s n c,.slice s' n' c'] 29 (0,0)))):MW Sh Stop (G (b.at a (.inRegion ops (j :: rest) :: kk)) cs) w:=by
 refine y59 ho hg hk (by rw [y0m];omega) (fun d=>?_) (fun d=>?_) hn
 ·unfold execOp
  simp only [hop];simp [go_sem,hx,hy,Try.isAgg79,Try.runUnderlying79,Try.sizeOf79,Try.zeroValue79,Try.isAgg29,Try.runUnderlying29,Try.sizeOf29,Try.zeroValue29];exact ⟨rfl,rfl⟩
 ·unfold execOp
  simp only [hop];simp [go_sem,hx,hy,Try.isAgg79,Try.runUnderlying79,Try.sizeOf79,Try.zeroValue79,Try.isAgg29,Try.runUnderlying29,Try.sizeOf29,Try.zeroValue29]
theorem y18 (ho:ops[j]?=some o) (hg:o.guard=none) (hk:b.kind≠.early) (hop:o.op=.assign x∨o.op=.move x) (hx:a.eval x=v)
  (hn:MW Sh Stop (G (b.at (a.put o.dst v) (.inRegion ops rest :: kk)) cs) w):MW Sh Stop (G (b.at a (.inRegion ops (j :: rest) :: kk)) cs) w:=by
 refine y59 ho hg hk (zLe _) (fun d=>?_) (fun d=>?_) hn
 ·unfold execOp
  rcases hop with hop|hop<;>simp [hop,hx]
 ·unfold execOp
  rcases hop with hop|hop<;>simp [hop,hx]
end
structure Kept (B:Nat) (w0 w:World):Prop where
 os:w.os=w0.os
 output:w.output=w0.output
 tape:w.tape=w0.tape
 size:w0.heap.size≤w.heap.size
 old:∀ b,b<B->w.heap[b]?=w0.heap[b]?
theorem Kept.refl (B:Nat) (w:World):Kept B w w:=⟨rfl,rfl,rfl,zLe _,fun _ _=>rfl⟩
theorem Kept.trans {B:Nat} {a b c:World} (h:Kept B a b) (k:Kept B b c):Kept B a c :=
 ⟨k.os.trans h.os,k.output.trans h.output,k.tape.trans h.tape,Nat.le_trans h.size k.size,fun x hx=>(k.old x hx).trans (h.old x hx)⟩
theorem yca {P:Program} {K:Cfg} {Sh:Loc->Prop} {B:Nat} {Stop:List Nat->Goroutine->World->Prop} {L:List Nat} {g:Goroutine} {w:World} (hKB:B≤K.N) (hKw:∀ b,¬ K.Wr b) (hKr:∀ b l,K.Rd b->inB b l->¬ Sh l) (hKa:K.al=[]) (hKo:∀ b b' s,K.ro b b' s->b'<K.N∧∀ l,inB b' l->¬ Sh l) (hSh:∀ l b,Sh l->inB b l->b<B)
  (h:WX P true K Stop L g w):∀ w0,Kept B w0 w->(∀ b ∈ L,K.N≤b)->K.N≤w.heap.size->WG P true RB (DB Sh) (fun L0 g w=>L0=[]∧∃ L,Stop L g w∧Kept B w0 w∧K.N≤w.heap.size∧∀ b ∈ L,K.N≤b) [] g w:=by
 have rel:∀ (L:List Nat) (w:World) (d:Nat),RelyK K L w (w.at d):=fun L w d=>⟨rfl,rfl,zLe _,fun _ _ _=>rfl,fun _ _=>rfl,fun _ _ _ _=>rfl,fun _ _ _ _=>rfl⟩
 have katd:∀ (w0 w:World) (d:Nat),Kept B w0 w->Kept B w0 (w.at d):=fun w0 w d h=>⟨h.os,h.output,h.tape,h.size,h.old⟩
 induction h with
 |@stop L g w h =>
  intro w0 hk hL hN;exact .stop fun w₁ ⟨d,e⟩=>by
   rw [e];exact ⟨rfl,L,h _ (rel L w d),katd _ _ _ hk,hN,hL⟩
 |@step L g w nx hr h1 _ ih =>
  intro w0 hk hL hN;refine .of_step hr fun w₁ ⟨d,e⟩=>?_
  subst e;obtain ⟨hgo,s,hes,hin⟩:=h1 _ (rel L w d);have hl:=s.pre.length_le;have hsz:=s.size;have hL':∀ b ∈ (nx (w.at d)).1,K.N≤b:=fun b hb=>by
   rcases y6p s.pre hb with hx|⟨j,hj,hge⟩
   ·exact hL b hx
   ·have h2:=s.news j b hj hge
    have h3:(w.at d).heap.size=w.heap.size:=rfl;omega
  have hsz2:w.heap.size≤(nx (w.at d)).2.2.1.heap.size:=by
   have h3:(w.at d).heap.size=w.heap.size:=rfl;omega
  have hev:∀ e ∈ (nx (w.at d)).2.2.2,EvQ Sh (nx (w.at d)).2.2.1.heap.size e:=by
   intro e he;have hnew:∀ b ∈ (nx (w.at d)).1,∀ l,inB b l->¬ Sh l:=fun b hb l hl hs=>by
    have h2:=hSh l b hs hl;have h3:=hL' b hb;omega
   cases hes e he with
   |read h =>
    rcases h with ⟨_,⟨h1,_,h2⟩|⟨j,_,hj,_⟩⟩|⟨j,_,hj⟩|hq
    ·refine y1x (fun l hl=>hKr _ l h1 (by rw [← h2];exact hl)) (by rw [h2];omega)
    ·exact y1x (hnew _ (List.mem_iff_getElem?.2 ⟨j,hj⟩)) (hin _ (List.mem_iff_getElem?.2 ⟨j,hj⟩))
    ·rw [hKa] at hj;simp at hj
    ·exact y1x (hKo _ _ _ hq).2 (by have:=(hKo _ _ _ hq).1;omega)
   |write h =>
    rcases h with h|h
    ·exact y1x (hnew _ h.1) (hin _ h.1)
    ·exact absurd h (hKw _)
   |@map r wr h =>
    refine ⟨⟨fun x hx hsx=>?_,by have:=hin _ h.1;simpa [MemAct.ofEvent,MemAct.low,Loc.low] using this,by simp⟩,by simp,by simp⟩;simp only [MemAct.ofEvent,MemAct.touch?,Option.some.injEq] at hx;subst hx;exact absurd hsx (hnew _ h.1 _ rfl)
   |room=>exact ⟨⟨fun x hx=>by simp [MemAct.ofEvent,MemAct.touch?] at hx,by simp [MemAct.ofEvent,MemAct.low],by simp⟩,by simp,by simp⟩
  refine ⟨[],_,_,_,hgo,⟨hsz2,y4g (fun e he=>(hev e he).2) 0,fun e he=>(hev e he).1⟩,ih _ (rel L w d) w0 ?_ hL' (by omega)⟩;refine hk.trans ⟨s.os,s.output,s.tape,hsz2,fun b hb=>s.block b (by show b<w.heap.size;omega) (fun x=>by have:=x.2;omega) (hKw b)⟩
end Go.Mt
namespace Go.Mt
open Go.Tr Go.Conc Go.ConcN Go.Proofs Go.RowKit Go.Conc.Lib Go.ConcR.Gen Go.ConcN.Gen
open Go.ConcR (KK wgBlock WgAt stA smA rd wr Payload DC0)
def cutR:Code->List (Array Oper)
 |.seq a b=>cutR a ++ cutR b
 |.cond _ a b=>cutR a ++ cutR b
 |.region _ o _=>[o]
 |_=>[]
noncomputable def r34 (n:Nat):Array Oper:=(cutR (Try.f9.body.getD .skip)).getD n #[]
noncomputable def c11:Code:=.seq (.region 11 (r34 11) true) .ret
noncomputable def c10:Code:=.seq (.region 10 (r34 10) false) c11
noncomputable def c9:Code:=.seq (.region 9 (r34 9) false) c10
noncomputable def c8:Code:=.seq (.region 8 (r34 8) false) c9
noncomputable def c7:Code:=.seq (.region 7 (r34 7) false) c8
noncomputable def c6:Code:=.seq (.region 6 (r34 6) false) c7
noncomputable def c5:Code:=.seq (.region 5 (r34 5) false) c6
noncomputable def c4:Code:=.seq (.region 4 (r34 4) false) c5
noncomputable def c2:Code:=.seq (.region 2 (r34 2) false) (.cond (.tmp 16) (.seq (.region 3 (r34 3) false) .ret) .skip)
theorem body34:Try.f9.body=some (.seq (.region 0 (r34 0) false) (.seq (.seq (.region 1 (r34 1) false) c2) c4)):=by kernel_rfl
theorem s34_0:(r34 0).size=5:=by kernel_rfl
theorem s34_1:(r34 1).size=5:=by kernel_rfl
theorem s34_2:(r34 2).size=2:=by kernel_rfl
theorem s34_3:(r34 3).size=4:=by kernel_rfl
theorem s34_4:(r34 4).size=3:=by kernel_rfl
theorem s34_5:(r34 5).size=1:=by kernel_rfl
theorem s34_6:(r34 6).size=1:=by kernel_rfl
theorem s34_7:(r34 7).size=1:=by kernel_rfl
theorem s34_8:(r34 8).size=2:=by kernel_rfl
theorem s34_9:(r34 9).size=2:=by kernel_rfl
theorem s34_10:(r34 10).size=1:=by kernel_rfl
theorem o34_0_0:∃ o,(r34 0)[0]?=some o∧o.dst=some 2∧o.op=.box 29 (.tmp 0)∧o.guard=none:=⟨_,rfl,rfl,rfl,rfl⟩
theorem o34_0_1:∃ o,(r34 0)[1]?=some o∧o.dst=some 3∧o.op=.box 29 (.tmp 1)∧o.guard=none:=⟨_,rfl,rfl,rfl,rfl⟩
theorem o34_0_2:∃ o,(r34 0)[2]?=some o∧o.dst=some 4∧o.op=.assign (.const (.slice none 0 0))∧o.guard=none:=⟨_,rfl,rfl,rfl,rfl⟩
theorem o34_0_3:∃ o,(r34 0)[3]?=some o∧o.dst=some 5∧o.op=.assign (.const (.slice none 0 0))∧o.guard=none:=⟨_,rfl,rfl,rfl,rfl⟩
theorem o34_0_4:∃ o,(r34 0)[4]?=some o∧o.dst=some 6∧o.op=.assign (.const (.int .i64 0))∧o.guard=none:=⟨_,rfl,rfl,rfl,rfl⟩
theorem o34_1_0:∃ o,(r34 1)[0]?=some o∧o.dst=some 11∧o.op=.load 29 (.tmp 2)∧o.guard=none:=⟨_,rfl,rfl,rfl,rfl⟩
theorem o34_1_1:∃ o,(r34 1)[1]?=some o∧o.dst=some 12∧o.op=.load 29 (.tmp 3)∧o.guard=none:=⟨_,rfl,rfl,rfl,rfl⟩
theorem o34_1_2:∃ o,(r34 1)[2]?=some o∧o.dst=some 13∧o.op=.buildSlice 79 2 #[(0,.tmp 11),(1,.tmp 12)]∧o.guard=none:=⟨_,rfl,rfl,rfl,rfl⟩
theorem yge:∃ o,(r34 1)[3]?=some o∧o.dst=some 14∧o.op=.call { callee:=.value (.func 20),args:=#[.tmp 13],argTypes:=#[79] }∧o.guard=none:=⟨_,rfl,rfl,rfl,rfl⟩
theorem o34_1_4:∃ o,(r34 1)[4]?=some o∧o.dst=some 7∧o.op=.assign (.tmp 14)∧o.guard=none:=⟨_,rfl,rfl,rfl,rfl⟩
theorem o34_2_0:∃ o,(r34 2)[0]?=some o∧o.dst=some 15∧o.op=.move (.tmp 7)∧o.guard=none:=⟨_,rfl,rfl,rfl,rfl⟩
theorem o34_2_1:∃ o,(r34 2)[1]?=some o∧o.dst=some 16∧o.op=.binOp .neq 24 (.tmp 15) (.const (.int .i64 0)) 24∧o.guard=none:=⟨_,rfl,rfl,rfl,rfl⟩
theorem o34_3_0:∃ o,(r34 3)[0]?=some o∧o.dst=some 17∧o.op=.move (.tmp 7)∧o.guard=none:=⟨_,rfl,rfl,rfl,rfl⟩
theorem o34_3_1:∃ o,(r34 3)[1]?=some o∧o.dst=some 4∧o.op=.assign (.const (.slice none 0 0))∧o.guard=none:=⟨_,rfl,rfl,rfl,rfl⟩
theorem o34_3_2:∃ o,(r34 3)[2]?=some o∧o.dst=some 5∧o.op=.assign (.const (.slice none 0 0))∧o.guard=none:=⟨_,rfl,rfl,rfl,rfl⟩
theorem o34_3_3:∃ o,(r34 3)[3]?=some o∧o.dst=some 6∧o.op=.assign (.tmp 17)∧o.guard=none:=⟨_,rfl,rfl,rfl,rfl⟩
theorem o34_4_0:∃ o,(r34 4)[0]?=some o∧o.dst=some 18∧o.op=.makeChan 51 (.const (.int .i64 1))∧o.guard=none:=⟨_,rfl,rfl,rfl,rfl⟩
theorem o34_4_1:∃ o,(r34 4)[1]?=some o∧o.dst=some 8∧o.op=.alloc 51∧o.guard=none:=⟨_,rfl,rfl,rfl,rfl⟩
theorem o34_4_2:∃ o,(r34 4)[2]?=some o∧o.dst=none∧o.op=.store 51 (.tmp 8) (.tmp 18)∧o.guard=none:=⟨_,rfl,rfl,rfl,rfl⟩
theorem o34_5_0:∃ o,(r34 5)[0]?=some o∧o.dst=some 9∧o.op=.alloc 29∧o.guard=none:=⟨_,rfl,rfl,rfl,rfl⟩
theorem o34_6_0:∃ o,(r34 6)[0]?=some o∧o.dst=some 10∧o.op=.alloc 60∧o.guard=none:=⟨_,rfl,rfl,rfl,rfl⟩
theorem o34_7_0:∃ o,(r34 7)[0]?=some o∧o.dst=some 19∧o.op=.call { callee:=.value (.func 21),args:=#[.tmp 10,.const (.int .i64 2)],argTypes:=#[60,3] }∧o.guard=none:=⟨_,rfl,rfl,rfl,rfl⟩
theorem o34_8_0:∃ o,(r34 8)[0]?=some o∧o.dst=some 20∧o.op=.makeFunc (.func 22) #[] #[.tmp 10,.tmp 8,.tmp 2,.tmp 3]∧o.guard=none:=⟨_,rfl,rfl,rfl,rfl⟩
theorem o34_8_1:∃ o,(r34 8)[1]?=some o∧o.dst=none∧o.op=.go { callee:=.value (.tmp 20),args:=#[],argTypes:=#[] }∧o.guard=none:=⟨_,rfl,rfl,rfl,rfl⟩
theorem o34_9_0:∃ o,(r34 9)[0]?=some o∧o.dst=some 21∧o.op=.makeFunc (.func 25) #[] #[.tmp 10,.tmp 2,.tmp 3,.tmp 9]∧o.guard=none:=⟨_,rfl,rfl,rfl,rfl⟩
theorem o34_9_1:∃ o,(r34 9)[1]?=some o∧o.dst=none∧o.op=.go { callee:=.value (.tmp 21),args:=#[],argTypes:=#[] }∧o.guard=none:=⟨_,rfl,rfl,rfl,rfl⟩
theorem ycr:∃ o,(r34 10)[0]?=some o∧o.dst=some 22∧o.op=.call { callee:=.value (.func 27),args:=#[.tmp 10],argTypes:=#[60] }∧o.guard=none:=⟨_,rfl,rfl,rfl,rfl⟩
theorem y61:∃ o,(r34 11)[0]?=some o∧o.dst=some 23∧o.op=.load 51 (.tmp 8)∧o.guard=none:=⟨_,rfl,rfl,rfl,rfl⟩
theorem yid:∃ o,(r34 11)[1]?=some o∧o.dst=some 24∧o.op=.recv 51 (.tmp 23) false∧o.guard=none:=⟨_,rfl,rfl,rfl,rfl⟩
theorem y60:∃ o,(r34 11)[2]?=some o∧o.dst=some 25∧o.op=.load 29 (.tmp 9)∧o.guard=none:=⟨_,rfl,rfl,rfl,rfl⟩
theorem y8x:∃ o,(r34 11)[3]?=some o∧o.dst=some 4∧o.op=.assign (.tmp 24)∧o.guard=none:=⟨_,rfl,rfl,rfl,rfl⟩
theorem y8w:∃ o,(r34 11)[4]?=some o∧o.dst=some 5∧o.op=.assign (.tmp 25)∧o.guard=none:=⟨_,rfl,rfl,rfl,rfl⟩
theorem y8v:∃ o,(r34 11)[5]?=some o∧o.dst=some 6∧o.op=.assign (.const (.int .i64 0))∧o.guard=none:=⟨_,rfl,rfl,rfl,rfl⟩
theorem y1c (w:World) (o:Obj) (b:Nat):(w.alloc o).heap[b]?=if b=w.heap.size then some o else w.heap[b]?:=by
 show (w.heap.push o)[b]?=_;rw [Array.getElem?_push]
theorem y3r {w:World} {b:Nat} {v:Value} {e:TypeId} {fr:Nat × Nat} (h:w.heap[b]?=some (.cells #[v] e fr)):w.cell? ⟨b,0,none⟩=some v:=by simp [World.cell?,h]
theorem sh0 {Sh:Loc->Prop} {w:World} (hs:∀ l b,Sh l->inB b l->b<w.heap.size) {k:Nat}:∀ l,inB (w.heap.size+k) l->¬ Sh l:=fun l h1 h2=>by
 have:=hs l _ h2 h1;omega
abbrev sl (s:Option Addr) (n c:Nat):Value:=.slice s n c
noncomputable abbrev b34:Frame:=base 9
def TA (va vb:Value) (S:Nat):Array Value:=#[va,vb,ptr S,ptr (S+1),.slice none 0 0,.slice none 0 0,.int .i64 0,undef,undef,undef,undef,va,vb,.slice (some ⟨S+2,0,none⟩) 2 2,undef,undef,undef,undef,undef,undef,undef,undef,undef,undef,undef,undef]
def wA (w:World) (va vb:Value):World:=((w.alloc (.cells #[va] 29 (0,0))).alloc (.cells #[vb] 29 (0,0))).alloc (.cells #[va,vb] 29 (0,0))
section
variable {Sh:Loc->Prop} {Stop:List Nat->Goroutine->World->Prop} {w:World} {cs:List Frame} {sa sb:Option Addr} {na ca nb cb:Nat}
theorem meetA (hs:∀ l b,Sh l->inB b l->b<w.heap.size)
  (h:MW Sh Stop (G (Frame.enter Try.prog 20 #[.slice (some ⟨w.heap.size+2,0,none⟩) 2 2] .normal) (b34.at ⟨TA (sl sa na ca) (sl sb nb cb) w.heap.size,[]⟩ [.inRegion (r34 1) [3,4],.code c2,.code c4] :: cs)) (wA w (sl sa na ca) (sl sb nb cb))) :
  MW Sh Stop (G (Frame.enter Try.prog 9 #[sl sa na ca,sl sb nb cb] .normal) cs) w:=by
 have hnt:Try.f9.ntmps=26:=by kernel_rfl
 rw [enter_at _ Try.func9 body34,hnt];simp only [List.size_toArray,List.length_cons,List.length_nil,Nat.reduceAdd,Nat.reduceSub,Array.replicate_succ,Array.replicate_zero,List.push_toArray,List.append_toArray,List.nil_append,List.cons_append];refine y12 rfl (fun _=>stepG_seq) ?_;refine y12 rfl (fun _=>stepG_region) ?_;rw [s34_0];simp only [List.range,List.range.loop];obtain ⟨o,ho,hd,hop,hg⟩:=o34_0_0;refine mw_box ho hg (by decide) hop rfl ?_;rw [hd]
 walk_nrm
 clear ho hd hop hg o;obtain ⟨o,ho,hd,hop,hg⟩:=o34_0_1;refine mw_box ho hg (by decide) hop rfl ?_;rw [hd]
 walk_nrm
 clear ho hd hop hg o;obtain ⟨o,ho,hd,hop,hg⟩:=o34_0_2;refine y18 ho hg (by decide) (.inl hop) rfl ?_;rw [hd]
 walk_nrm
 clear ho hd hop hg o;obtain ⟨o,ho,hd,hop,hg⟩:=o34_0_3;refine y18 ho hg (by decide) (.inl hop) rfl ?_;rw [hd]
 walk_nrm
 clear ho hd hop hg o;obtain ⟨o,ho,hd,hop,hg⟩:=o34_0_4;refine y18 ho hg (by decide) (.inl hop) rfl ?_;rw [hd]
 walk_nrm
 clear ho hd hop hg o;refine y12 rfl (fun _=>stepG_region_end) ?_;refine y12 rfl (fun _=>stepG_seq) ?_;refine y12 rfl (fun _=>stepG_seq) ?_;refine y12 rfl (fun _=>stepG_region) ?_;rw [s34_1];simp only [List.range,List.range.loop];obtain ⟨o,ho,hd,hop,hg⟩:=o34_1_0;refine y7g ho hg (by decide) (.inl hop) rfl (sh0 (k:=0) hs) (by simp only [y0m];omega) (y3r (by rw [y1c,y0m,if_neg (by omega),y1c,if_pos rfl])) ?_;rw [hd]
 walk_nrm
 clear ho hd hop hg o;obtain ⟨o,ho,hd,hop,hg⟩:=o34_1_1;refine y7g ho hg (by decide) (.inl hop) rfl (by rw [y0m];exact sh0 (k:=1) hs) (by simp only [y0m];omega) (y3r (by rw [y0m,y1c,y0m,if_pos rfl])) ?_;rw [hd]
 walk_nrm
 clear ho hd hop hg o;obtain ⟨o,ho,hd,hop,hg⟩:=o34_1_2;refine ygi ho hg (by decide) hop rfl rfl ?_;rw [hd]
 walk_nrm
 clear ho hd hop hg o;obtain ⟨o,ho,hd,hop,hg⟩:=yge;have hn:(Try.f20.name == "runtime.NumGoroutine")=false:=by kernel_rfl
 obtain ⟨cd,hcd⟩:∃ cd,Try.f20.body=some cd:=⟨_,rfl⟩
 have hb':Try.f20.body.isNone=false:=by rw [hcd];rfl
 refine y5i rfl (zLe _) (fun d=>⟨_,d,stepG_enter ho (y1e hg _ _) (by decide) (run_call_body hop Try.func20 hn hb'),fun e he=>?_⟩) ?_
 ·unfold listed at he
  rw [events_call_body hop Try.func20 hn hb',seen_none] at he;simp at he
 walk_nrm
 simp only [y0m,TA,wA,sl] at h ⊢;exact h
end
end Go.Mt
namespace Go.Mt
open Go.Tr Go.Conc Go.ConcN Go.Proofs Go.RowKit Go.Conc.Lib Go.ConcR.Gen Go.ConcN.Gen
open Go.ConcR (KK wgBlock WgAt stA smA rd wr Payload DC0)
theorem yhz:Try.f9.results=#[.tmp 4,.tmp 5,.tmp 6]:=by kernel_rfl
theorem y24 {P:Program} {main:Bool} {b:Frame} {a:Act} {todo:List Item} {c:Frame} {cs:List Frame} {w:World} {fn:Func} {i j k:Nat} (hn:b.kind=.normal) (hd:a.defers=[]) (hf:P.funcs[b.fn]?=some fn) (hr:fn.results=#[.tmp i,.tmp j,.tmp k]) :
  stepG P main (G { b.at a todo with mode:=.returning } (c :: cs)) w=.go (G (c.finish (.tuple #[a.tmps.getD i undef,a.tmps.getD j undef,a.tmps.getD k undef])) cs) w #[]:=by
 refine stepG_leave (v:=.tuple #[a.tmps.getD i undef,a.tmps.getD j undef,a.tmps.getD k undef]) hn hd hf ?_ ?_
 ·simp [results,hr]
 ·simp [results,hr]
def TB (va vb:Value) (S:Nat):Array Value:=#[va,vb,ptr S,ptr (S+1),.slice none 0 0,.slice none 0 0,.int .i64 0,.int .i64 0,undef,undef,undef,va,vb,.slice (some ⟨S+2,0,none⟩) 2 2,.int .i64 0,.int .i64 0,.bool false,undef,undef,undef,undef,undef,undef,undef,undef,undef]
section
variable {Sh:Loc->Prop} {Stop:List Nat->Goroutine->World->Prop} {w:World} {c:Frame} {cs:List Frame} {va vb:Value} {S:Nat} {e:Int}
theorem mw_neq {b:Frame} {a:Act} {kk:List Item} {cs:List Frame} {ops:Array Oper} {j:Nat} {rest:List Nat} {o:Oper} {p:Nat} (ho:ops[j]?=some o) (hg:o.guard=none) (hk:b.kind≠.early) (hop:o.op=.binOp .neq 24 (.tmp p) (.const (.int .i64 0)) 24) (hx:a.tmps[p]?=some (.int .i64 e))
  (hn:MW Sh Stop (G (b.at (a.put o.dst (.bool (decide (e≠0)))) (.inRegion ops rest :: kk)) cs) w):MW Sh Stop (G (b.at a (.inRegion ops (j :: rest) :: kk)) cs) w:=by
 refine y59 ho hg hk (zLe _) (fun d=>?_) (fun d=>?_) hn
 ·unfold execOp
  simp only [hop];simp [go_sem,hx,Try.runUnderlying24]
  try rfl
 ·unfold execOp
  simp only [hop];simp [go_sem,hx,Try.runUnderlying24]
theorem meetB (he:e≠0->MW Sh Stop (G (c.finish (.tuple #[.slice none 0 0,.slice none 0 0,.int .i64 e])) cs) w) (h0:e=0->MW Sh Stop (G (b34.at ⟨TB va vb S,[]⟩ [.code c4]) (c :: cs)) w) :
  MW Sh Stop (G ((b34.at ⟨TA va vb S,[]⟩ [.inRegion (r34 1) [3,4],.code c2,.code c4]).finish (.int .i64 e)) (c :: cs)) w:=by
 have hfin:(b34.at ⟨TA va vb S,[]⟩ [.inRegion (r34 1) [3,4],.code c2,.code c4]).finish (.int .i64 e)=b34.at ⟨(TA va vb S).setIfInBounds 14 (.int .i64 e),[]⟩ [.inRegion (r34 1) [4],.code c2,.code c4]:=by
  obtain ⟨o,ho,hd,hop,hg⟩:=yge;rw [Frame.finish_at,ho,Option.bind_some,hd];rfl
 rw [hfin];simp only [TA,List.setIfInBounds_toArray,List.set_cons_succ,List.set_cons_zero];obtain ⟨o,ho,hd,hop,hg⟩:=o34_1_4;refine y18 ho hg (by decide) (.inl hop) rfl ?_;rw [hd]
 walk_nrm
 clear ho hd hop hg o;refine y12 rfl (fun _=>stepG_region_end) ?_;unfold c2;refine y12 rfl (fun _=>stepG_seq) ?_;refine y12 rfl (fun _=>stepG_region) ?_;rw [s34_2];simp only [List.range,List.range.loop];obtain ⟨o,ho,hd,hop,hg⟩:=o34_2_0;refine y18 ho hg (by decide) (.inr hop) rfl ?_;rw [hd]
 walk_nrm
 clear ho hd hop hg o;obtain ⟨o,ho,hd,hop,hg⟩:=o34_2_1;refine mw_neq ho hg (by decide) hop rfl ?_;rw [hd]
 walk_nrm
 clear ho hd hop hg o;refine y12 rfl (fun _=>stepG_region_end) ?_
 by_cases hz:e=0
 ·subst hz
  have h1:=h0 rfl;refine y12 rfl (fun _=>stepG_cond (t:=false) (by simp [Act.eval])) ?_;simp only [Bool.false_eq_true,if_false];refine y12 rfl (fun _=>stepG_skip) ?_;simpa only [TB,ne_eq,not_true_eq_false,decide_false] using h1
 ·have he:=he hz
  refine y12 rfl (fun _=>stepG_cond (t:=true) (by simp [Act.eval,hz])) ?_;simp only [if_true];refine y12 rfl (fun _=>stepG_seq) ?_;refine y12 rfl (fun _=>stepG_region) ?_;rw [s34_3];simp only [List.range,List.range.loop];obtain ⟨o,ho,hd,hop,hg⟩:=o34_3_0;refine y18 ho hg (by decide) (.inr hop) rfl ?_;rw [hd]
  walk_nrm
  clear ho hd hop hg o;obtain ⟨o,ho,hd,hop,hg⟩:=o34_3_1;refine y18 ho hg (by decide) (.inl hop) rfl ?_;rw [hd]
  walk_nrm
  clear ho hd hop hg o;obtain ⟨o,ho,hd,hop,hg⟩:=o34_3_2;refine y18 ho hg (by decide) (.inl hop) rfl ?_;rw [hd]
  walk_nrm
  clear ho hd hop hg o;obtain ⟨o,ho,hd,hop,hg⟩:=o34_3_3;refine y18 ho hg (by decide) (.inl hop) rfl ?_;rw [hd]
  walk_nrm
  clear ho hd hop hg o;refine y12 rfl (fun _=>stepG_region_end) ?_;refine y12 rfl (fun _=>stepG_ret') ?_;refine y12 rfl (fun _=>y24 rfl rfl Try.func9 yhz) ?_;simpa using he
end
end Go.Mt
namespace Go.Mt
open Go.Tr Go.Conc Go.ConcN Go.RowKit Go.Conc.Lib Go.ConcR.Gen Go.ConcN.Gen
theorem nev {p:Event->Prop}:∀ e ∈ (#[]:Array Event),p e:=by simp
open Go.ConcR (KK wgBlock WgAt stA smA rd wr Payload DC0)
variable [Payload] {L:WgLink}
theorem yek {X:PH} (a:Addr) (x:Bool) (h:a.block=X.G.Wg):X.EvM ⟨.cell a,x,true⟩:=by
 refine ⟨fun y hy=>?_,by simp,by simp,by simp,?_⟩
 ·simp only [Go.ConcR.ofEvent_cell,MemAct.touch?,Option.some.injEq] at hy
  subst hy;exact ⟨h,by simp⟩
 ·rw [Go.ConcR.ofEvent_cell]
  show a.block<X.G.Wg+1;omega
theorem y96 {X:PH} (a:Addr) (h:a.block=X.G.Wg):X.EvM ⟨.mark (.read a),false,true⟩:=by
 refine ⟨fun x hx=>?_,by simp,by simp,by simp,?_⟩
 ·simp only [MemAct.ofEvent,MemAct.touch?,Option.some.injEq] at hx
  subst hx;exact ⟨h,by simp⟩
 ·show a.block<X.G.Wg+1
  omega
def PH.DA (X:PH) (w w':World) (es:Array Event):Prop:=w'.heap.size=w.heap.size∧∀ e ∈ es,X.EvM e
def AtMk (P:Program) (m:Mark) (K:Goroutine->World->Prop) (g:Goroutine) (w:World):Prop:=g.status=.running∧∃ g',stepG P true g w=.go g' w #[Go.ConcR.mk m]∧K g' w
theorem bx1:bits .and .u64 8589934592 2147483648=0:=by decide
theorem bx2:bits .and .u64 8589934592 2147483647=0:=by decide
section
variable {X:PH} {b₀:Frame} {a₀:Act} {ops₀:Array Oper} {i₀:Nat} {rest₀:List Nat} {k₀:List Item} {cs:List Frame} {StopG:Goroutine->World->Prop} {mT:Nat}
theorem gsA {P:Program} {main:Bool} {D:World->World->Array Event->Prop} {Stop:Goroutine->World->Prop} {n:Nat} {g:Goroutine} {u w:World} (hs:g.status=.running) (h:∀ w₁,AtRel u w₁->(stepG P main g w₁).goes fun g' w' es=>D w₁ w' es∧Goes P main AtRel D Stop n g' w') (hF:AtRel u w):Goes P main AtRel D Stop (n+1) g w:=Goes.step hs fun w₁ h₁=>h w₁ (atRel_trans _ _ _ hF h₁)
theorem addTwoX (H:WgLib X.P L) (w:World) (hw:WgAt L.tWg X.G.Wg w 0 0)
  (hT:Goes X.P true AtRel X.DA StopG mT (G (b₀.at (a₀.put ((ops₀[i₀]?).bind (·.dst)) (.tuple #[])) (.inRegion ops₀ rest₀ :: k₀)) cs) (w.setCell (stA X.G.Wg) (.int .u64 (2 * KK)))) :
  Goes X.P true AtRel X.DA (AtMk X.P .disable fun a w=>∃ n,Goes X.P true AtRel X.DA (AtMk X.P .enable fun a w=>∃ n,Goes X.P true AtRel X.DA StopG n a w) n a w) 12
   (G ((base L.add).at ⟨#[.pointer (some ⟨X.G.Wg,0,none⟩),.int .i64 2,undef,undef,undef,undef,undef,undef,undef,undef,undef,undef,undef,undef,undef,undef,undef,undef,undef,undef,undef,undef,undef,undef,undef,undef,undef,undef,undef,undef,undef,undef,undef,undef,undef,undef,undef,undef,undef,undef,undef,undef,undef,undef,undef,undef,undef,undef,undef,undef,undef,undef,undef,undef,undef,undef,undef,undef,undef,undef,undef,undef,undef,undef,undef,undef,undef,undef,undef,undef,undef,undef,undef,undef,undef,undef,undef,undef,undef,undef,undef,undef,undef,undef,undef,undef,undef,undef,undef,undef,undef,undef,undef,undef,undef,undef,undef,undef,undef,undef,undef,undef,undef,undef,undef,undef,undef,undef,undef,undef,undef,undef,undef,undef,undef,undef,undef],[]⟩ [.code (body_add L)]) (b₀.at a₀ (.inRegion ops₀ (i₀ :: rest₀) :: k₀) :: cs)) w:=by
 lib_facts
 have hF:AtRel w w:=atRel_refl w;simp only [body_add,addFn,Option.getD_some];revert hF;refine gsA rfl (fun wc hF=>?_);rw [stepG_seq];simp only [goes_go];refine ⟨⟨rfl,nev⟩,?_⟩;revert hF;refine gsA rfl (fun wc hF=>?_);rw [stepG_cond (t:=true) rfl];simp only [goes_go,if_true,if_false,Bool.false_eq_true,↓reduceIte]
 iterate 2
  refine ⟨⟨rfl,nev⟩,?_⟩;revert hF;refine gsA rfl (fun wc hF=>?_);rw [stepG_seq];simp only [goes_go]
 refine ⟨⟨rfl,nev⟩,?_⟩;revert hF;refine gsA rfl (fun wc hF=>?_);rw [stepG_region];simp only [goes_go,rz0,Nat.reduceAdd,List.range,List.range.loop];refine ⟨⟨rfl,nev⟩,?_⟩
 iterate 2
  revert hF;refine gsA rfl (fun wc hF=>?_);refine goes_oper_k rfl rfl (by k_ne) (fun Kx hKx=>?_);go_simp
  refine hKx _ _ ⟨?_,?_⟩
  ·refine ⟨rfl,?_⟩
   intro ex hex;have hmx:=mem_listed hex;simp [go_sem, *] at hmx
  clear hKx Kx
  try w_num
  try simp only [bx1,bx2]
 revert hF;refine gsA rfl (fun wc hF=>?_);rw [stepG_region_end];simp only [goes_go];refine ⟨⟨rfl,nev⟩,?_⟩;revert hF;refine gsA rfl (fun wc hF=>?_);rw [stepG_cond (t:=false) rfl];simp only [goes_go,if_true,if_false,Bool.false_eq_true,↓reduceIte];refine ⟨⟨rfl,nev⟩,?_⟩;revert hF;refine gsA rfl (fun wc hF=>?_);rw [stepG_skip];simp only [goes_go];refine ⟨⟨rfl,nev⟩,?_⟩;revert hF;refine gsA rfl (fun wc hF=>?_);rw [stepG_seq];simp only [goes_go];refine ⟨⟨rfl,nev⟩,?_⟩;revert hF;refine gsA rfl (fun wc hF=>?_);rw [stepG_region];simp only [goes_go,rz0,Nat.reduceAdd,List.range,List.range.loop];refine ⟨⟨rfl,nev⟩,?_⟩;refine Goes.stop (fun wc h₁=>?_);replace hF:=atRel_trans _ _ _ hF h₁;clear h₁;refine ⟨rfl,_,stepG_mark0 .disable (by simp) rfl rfl (by k_ne) rfl H.f_disable (x_disable_n L) (x_disable_b L) (x_disable_x L) (x_disable_f L),128,?_⟩
 walk_nrm
 revert hF;refine gsA rfl (fun wc hF=>?_);rw [stepG_region_end];simp only [goes_go];refine ⟨⟨rfl,nev⟩,?_⟩;revert hF;refine gsA rfl (fun wc hF=>?_);rw [stepG_region];simp only [goes_go,rz0,Nat.reduceAdd,List.range,List.range.loop];refine ⟨⟨rfl,nev⟩,?_⟩;revert hF;refine gsA rfl (fun wc hF=>?_);rw [stepG_defer rfl rfl (by k_ne) rfl];simp only [goes_go];refine ⟨⟨rfl,nev⟩,?_⟩
 walk_nrm
 revert hF;refine gsA rfl (fun wc hF=>?_);rw [stepG_region_end];simp only [goes_go];refine ⟨⟨rfl,nev⟩,?_⟩;revert hF;refine gsA rfl (fun wc hF=>?_);rw [stepG_seq];simp only [goes_go];refine ⟨⟨rfl,nev⟩,?_⟩;revert hF;refine gsA rfl (fun wc hF=>?_);rw [stepG_region];simp only [goes_go,rz0,Nat.reduceAdd,List.range,List.range.loop];refine ⟨⟨rfl,nev⟩,?_⟩;revert hF;refine gsA rfl (fun wc hF=>?_);refine goes_oper_k rfl rfl (by k_ne) (fun Kx hKx=>?_);go_simp
 refine hKx _ _ ⟨?_,?_⟩
 ·refine ⟨rfl,?_⟩
  intro ex hex;have hmx:=mem_listed hex;simp [go_sem, *] at hmx
 clear hKx Kx
 try w_num
 try simp only [bx1,bx2]
 revert hF;refine gsA rfl (fun wc hF=>?_);rw [stepG_region_end]
 iterate 2
  simp only [goes_go];refine ⟨⟨rfl,nev⟩,?_⟩;revert hF;refine gsA rfl (fun wc hF=>?_);rw [stepG_seq]
 simp only [goes_go];refine ⟨⟨rfl,nev⟩,?_⟩;revert hF;refine gsA rfl (fun wc hF=>?_);rw [stepG_region];simp only [goes_go,rz0,Nat.reduceAdd,List.range,List.range.loop];refine ⟨⟨rfl,nev⟩,?_⟩;revert hF;refine gsA rfl (fun wc hF=>?_);rw [stepG_entry_pure (.bool false) rfl rfl (by k_ne) rfl H.f_inBubble (x_inBubble_n L) (x_inBubble_b L) (x_inBubble_x L) (x_inBubble_f L)];simp only [goes_go];refine ⟨⟨rfl,nev⟩,?_⟩
 walk_nrm
 revert hF;refine gsA rfl (fun wc hF=>?_);rw [stepG_region_end];simp only [goes_go];refine ⟨⟨rfl,nev⟩,?_⟩;revert hF;refine gsA rfl (fun wc hF=>?_);rw [stepG_cond (t:=false) rfl];simp only [goes_go,if_true,if_false,Bool.false_eq_true,↓reduceIte];refine ⟨⟨rfl,nev⟩,?_⟩;revert hF;refine gsA rfl (fun wc hF=>?_);rw [stepG_skip];simp only [goes_go];refine ⟨⟨rfl,nev⟩,?_⟩;revert hF;refine gsA rfl (fun wc hF=>?_);rw [stepG_seq];simp only [goes_go];refine ⟨⟨rfl,nev⟩,?_⟩;revert hF;refine gsA rfl (fun wc hF=>?_);rw [stepG_region];simp only [goes_go,rz0,Nat.reduceAdd,List.range,List.range.loop];refine ⟨⟨rfl,nev⟩,?_⟩
 iterate 6
  revert hF;refine gsA rfl (fun wc hF=>?_);refine goes_oper_k rfl rfl (by k_ne) (fun Kx hKx=>?_);go_simp
  refine hKx _ _ ⟨?_,?_⟩
  ·refine ⟨rfl,?_⟩
   intro ex hex;have hmx:=mem_listed hex;simp [go_sem, *] at hmx
  clear hKx Kx
  try w_num
  try simp only [bx1,bx2]
 revert hF;refine gsA rfl (fun wc hF=>?_);refine goes_call rfl rfl (by k_ne) rfl H.f_uAdd (nm_uAdd L) rfl ⟨⟨rfl,nev⟩,?_⟩
 walk_nrmf uAddFn
 revert hF;refine gsA rfl (fun wc hF=>?_);rw [stepG_seq];simp only [goes_go];refine ⟨⟨rfl,nev⟩,?_⟩;revert hF;refine gsA rfl (fun wc hF=>?_);rw [stepG_region];simp only [goes_go,rz0,Nat.reduceAdd,List.range,List.range.loop];refine ⟨⟨rfl,nev⟩,?_⟩;revert hF;refine gsA rfl (fun wc hF=>?_);refine goes_oper_k rfl rfl (by k_ne) (fun Kx hKx=>?_);go_simp
 refine hKx _ _ ⟨?_,?_⟩
 ·refine ⟨rfl,?_⟩
  intro ex hex;have hmx:=mem_listed hex;simp [go_sem, *] at hmx
 clear hKx Kx
 try w_num
 try simp only [bx1,bx2]
 revert hF;refine gsA rfl (fun wc hF=>?_);rw [stepG_region_end];simp only [goes_go];refine ⟨⟨rfl,nev⟩,?_⟩;revert hF;refine gsA rfl (fun wc hF=>?_);rw [stepG_seq];simp only [goes_go];refine ⟨⟨rfl,nev⟩,?_⟩;revert hF;refine gsA rfl (fun wc hF=>?_);rw [stepG_region];simp only [goes_go,rz0,Nat.reduceAdd,List.range,List.range.loop];refine ⟨⟨rfl,nev⟩,?_⟩
 iterate 4
  revert hF;refine gsA rfl (fun wc hF=>?_);refine goes_oper_k rfl rfl (by k_ne) (fun Kx hKx=>?_);go_simp
  refine hKx _ _ ⟨?_,?_⟩
  ·refine ⟨rfl,?_⟩
   intro ex hex;have hmx:=mem_listed hex;simp [go_sem, *] at hmx
  clear hKx Kx
  try w_num
  try simp only [bx1,bx2]
 revert hF;refine gsA rfl (fun wc hF=>?_);obtain ⟨d,rfl⟩:=hF;have hw1:WgAt L.tWg X.G.Wg (w.at d) 0 0:=hw;rw [stepG_add_atomic rfl rfl (by k_ne) rfl H.f_addU64 (x_addU64_n L) (x_addU64_b L) (x_addU64_x L) .u64 (x_addU64_f L) rfl rfl hw1.cellSt (hw1.thaw 0)];simp only [goes_go];refine ⟨⟨by simp [World.setCell],fun e he=>?_⟩,?_⟩
 ·simp at he
  rcases he with rfl|rfl<;>exact yek _ _ rfl
 have e0:IntKind.u64.wrap (0+8589934592)=8589934592:=by decide
 rw [e0];have hw2:=hw.setSt (2 * KK);have hF:AtRel (w.setCell (stA X.G.Wg) (.int .u64 (2 * KK))) ((w.at d).setCell (stA X.G.Wg) (.int .u64 8589934592)):=⟨d,rfl⟩
 walk_nrm
 revert hF;refine gsA rfl (fun wc hF=>?_);refine goes_oper_k rfl rfl (by k_ne) (fun Kx hKx=>?_);go_simp
 refine hKx _ _ ⟨?_,?_⟩
 ·refine ⟨rfl,?_⟩
  intro ex hex;have hmx:=mem_listed hex;simp [go_sem, *] at hmx
 clear hKx Kx
 try w_num
 try simp only [bx1,bx2]
 revert hF;refine gsA rfl (fun wc hF=>?_);rw [stepG_region_end];simp only [goes_go];refine ⟨⟨rfl,nev⟩,?_⟩;revert hF;refine gsA rfl (fun wc hF=>?_);rw [stepG_ret'];simp only [goes_go];refine ⟨⟨rfl,nev⟩,?_⟩;revert hF;refine gsA rfl (fun wc hF=>?_);refine goes_leave1 rfl rfl H.f_uAdd rfl ⟨⟨rfl,nev⟩,?_⟩
 walk_nrm
 revert hF;refine gsA rfl (fun wc hF=>?_);refine goes_oper_k rfl rfl (by k_ne) (fun Kx hKx=>?_);go_simp
 refine hKx _ _ ⟨?_,?_⟩
 ·refine ⟨rfl,?_⟩
  intro ex hex;have hmx:=mem_listed hex;simp [go_sem, *] at hmx
 clear hKx Kx
 try w_num
 try simp only [bx1,bx2]
 revert hF;refine gsA rfl (fun wc hF=>?_);rw [stepG_region_end]
 iterate 2
  simp only [goes_go];refine ⟨⟨rfl,nev⟩,?_⟩;revert hF;refine gsA rfl (fun wc hF=>?_);rw [stepG_seq]
 simp only [goes_go];refine ⟨⟨rfl,nev⟩,?_⟩;revert hF;refine gsA rfl (fun wc hF=>?_);rw [stepG_region];simp only [goes_go,rz0,Nat.reduceAdd,List.range,List.range.loop];refine ⟨⟨rfl,nev⟩,?_⟩
 iterate 4
  revert hF;refine gsA rfl (fun wc hF=>?_);refine goes_oper_k rfl rfl (by k_ne) (fun Kx hKx=>?_);go_simp
  refine hKx _ _ ⟨?_,?_⟩
  ·refine ⟨rfl,?_⟩
   intro ex hex;have hmx:=mem_listed hex;simp [go_sem, *] at hmx
  clear hKx Kx
  try w_num
  try simp only [bx1,bx2]
 iterate 2
  revert hF;refine gsA rfl (fun wc hF=>?_);rw [stepG_unwanted rfl rfl];simp only [goes_go];refine ⟨⟨rfl,nev⟩,?_⟩
  walk_nrm
 revert hF;refine gsA rfl (fun wc hF=>?_);refine goes_oper_k rfl rfl (by k_ne) (fun Kx hKx=>?_);go_simp
 refine hKx _ _ ⟨?_,?_⟩
 ·refine ⟨rfl,?_⟩
  intro ex hex;have hmx:=mem_listed hex;simp [go_sem, *] at hmx
 clear hKx Kx
 try w_num
 try simp only [bx1,bx2]
 revert hF;refine gsA rfl (fun wc hF=>?_);rw [stepG_region_end];simp only [goes_go];refine ⟨⟨rfl,nev⟩,?_⟩;revert hF;refine gsA rfl (fun wc hF=>?_);rw [stepG_cond (t:=false) rfl];simp only [goes_go,if_true,if_false,Bool.false_eq_true,↓reduceIte];refine ⟨⟨rfl,nev⟩,?_⟩;revert hF;refine gsA rfl (fun wc hF=>?_);rw [stepG_skip];simp only [goes_go];refine ⟨⟨rfl,nev⟩,?_⟩;revert hF;refine gsA rfl (fun wc hF=>?_);rw [stepG_seq];simp only [goes_go];refine ⟨⟨rfl,nev⟩,?_⟩;revert hF;refine gsA rfl (fun wc hF=>?_);rw [stepG_region];simp only [goes_go,rz0,Nat.reduceAdd,List.range,List.range.loop];refine ⟨⟨rfl,nev⟩,?_⟩
 iterate 4
  revert hF;refine gsA rfl (fun wc hF=>?_);refine goes_oper_k rfl rfl (by k_ne) (fun Kx hKx=>?_);go_simp
  refine hKx _ _ ⟨?_,?_⟩
  ·refine ⟨rfl,?_⟩
   intro ex hex;have hmx:=mem_listed hex;simp [go_sem, *] at hmx
  clear hKx Kx
  try w_num
  try simp only [bx1,bx2]
 revert hF;refine gsA rfl (fun wc hF=>?_);rw [stepG_region_end];simp only [goes_go];refine ⟨⟨rfl,nev⟩,?_⟩;revert hF;refine gsA rfl (fun wc hF=>?_);rw [stepG_seq];simp only [goes_go];refine ⟨⟨rfl,nev⟩,?_⟩;revert hF;refine gsA rfl (fun wc hF=>?_);rw [stepG_region];simp only [goes_go,rz0,Nat.reduceAdd,List.range,List.range.loop];refine ⟨⟨rfl,nev⟩,?_⟩
 iterate 4
  revert hF;refine gsA rfl (fun wc hF=>?_);refine goes_oper_k rfl rfl (by k_ne) (fun Kx hKx=>?_);go_simp
  refine hKx _ _ ⟨?_,?_⟩
  ·refine ⟨rfl,?_⟩
   intro ex hex;have hmx:=mem_listed hex;simp [go_sem, *] at hmx
  clear hKx Kx
  try w_num
  try simp only [bx1,bx2]
 revert hF;refine gsA rfl (fun wc hF=>?_);rw [stepG_region_end]
 iterate 2
  simp only [goes_go];refine ⟨⟨rfl,nev⟩,?_⟩;revert hF;refine gsA rfl (fun wc hF=>?_);rw [stepG_seq]
 simp only [goes_go];refine ⟨⟨rfl,nev⟩,?_⟩;revert hF;refine gsA rfl (fun wc hF=>?_);rw [stepG_region];simp only [goes_go,rz0,Nat.reduceAdd,List.range,List.range.loop];refine ⟨⟨rfl,nev⟩,?_⟩
 iterate 10
  revert hF;refine gsA rfl (fun wc hF=>?_);refine goes_oper_k rfl rfl (by k_ne) (fun Kx hKx=>?_);go_simp
  refine hKx _ _ ⟨?_,?_⟩
  ·refine ⟨rfl,?_⟩
   intro ex hex;have hmx:=mem_listed hex;simp [go_sem, *] at hmx
  clear hKx Kx
  try w_num
  try simp only [bx1,bx2]
 revert hF;refine gsA rfl (fun wc hF=>?_);rw [stepG_region_end];simp only [goes_go];refine ⟨⟨rfl,nev⟩,?_⟩;revert hF;refine gsA rfl (fun wc hF=>?_);rw [stepG_cond (t:=true) rfl];simp only [goes_go,if_true,if_false,Bool.false_eq_true,↓reduceIte];refine ⟨⟨rfl,nev⟩,?_⟩;revert hF;refine gsA rfl (fun wc hF=>?_);rw [stepG_region];simp only [goes_go,rz0,Nat.reduceAdd,List.range,List.range.loop];refine ⟨⟨rfl,nev⟩,?_⟩
 iterate 3
  revert hF;refine gsA rfl (fun wc hF=>?_);refine goes_oper_k rfl rfl (by k_ne) (fun Kx hKx=>?_);go_simp
  refine hKx _ _ ⟨?_,?_⟩
  ·refine ⟨rfl,?_⟩
   intro ex hex;have hmx:=mem_listed hex;simp [go_sem, *] at hmx
  clear hKx Kx
  try w_num
  try simp only [bx1,bx2]
 revert hF;refine gsA rfl (fun wc hF=>?_);have hc1:World.cell? wc ⟨X.G.Wg,1,none⟩=some (.int .u32 0):=by
  obtain ⟨d,hd⟩:=hF;rw [hd];exact hw2.cellSm
 refine goes_oper_k rfl rfl (by k_ne) (fun Kx hKx=>?_);have hcv:=run_convert_to_unsafe (P:=X.P) H.underlying_tPU32 H.underlying_tUP H.room_tU32 hc1;have hce:=fun es=>events_convert_to_unsafe (P:=X.P) H.underlying_tPU32 H.underlying_tUP H.room_tU32 hc1 es
 go_simp
 refine hKx _ _ ⟨?_,?_⟩
 ·refine ⟨rfl,?_⟩
  intro ex hex;have hmx:=mem_listed hex;simp [go_sem,hce] at hmx
 clear hKx Kx hcv hce hc1;revert hF;refine gsA rfl (fun wc hF=>?_);rw [stepG_markAt .read (by simp) rfl rfl (by k_ne) rfl H.f_raceRead (x_raceRead_n L) (x_raceRead_b L) (x_raceRead_x L) (x_raceRead_f L) (ad:=⟨X.G.Wg,1,none⟩) (by simp [Act.eval])];simp only [goes_go];refine ⟨⟨rfl,fun e he=>?_⟩,?_⟩
 ·rw [Array.mem_singleton] at he
  subst he;exact y96 _ rfl
 walk_nrm
 revert hF;refine gsA rfl (fun wc hF=>?_);rw [stepG_region_end]
 iterate 2
  simp only [goes_go];refine ⟨⟨rfl,nev⟩,?_⟩;revert hF;refine gsA rfl (fun wc hF=>?_);rw [stepG_seq]
 simp only [goes_go];refine ⟨⟨rfl,nev⟩,?_⟩;revert hF;refine gsA rfl (fun wc hF=>?_);rw [stepG_region];simp only [goes_go,rz0,Nat.reduceAdd,List.range,List.range.loop];refine ⟨⟨rfl,nev⟩,?_⟩
 iterate 2
  revert hF;refine gsA rfl (fun wc hF=>?_);refine goes_oper_k rfl rfl (by k_ne) (fun Kx hKx=>?_);go_simp
  refine hKx _ _ ⟨?_,?_⟩
  ·refine ⟨rfl,?_⟩
   intro ex hex;have hmx:=mem_listed hex;simp [go_sem, *] at hmx
  clear hKx Kx
  try w_num
  try simp only [bx1,bx2]
 revert hF;refine gsA rfl (fun wc hF=>?_);rw [stepG_region_end];simp only [goes_go];refine ⟨⟨rfl,nev⟩,?_⟩;revert hF;refine gsA rfl (fun wc hF=>?_);rw [stepG_cond (t:=false) rfl];simp only [goes_go,if_true,if_false,Bool.false_eq_true,↓reduceIte];refine ⟨⟨rfl,nev⟩,?_⟩;revert hF;refine gsA rfl (fun wc hF=>?_);rw [stepG_skip]
 iterate 2
  simp only [goes_go];refine ⟨⟨rfl,nev⟩,?_⟩;revert hF;refine gsA rfl (fun wc hF=>?_);rw [stepG_seq]
 simp only [goes_go];refine ⟨⟨rfl,nev⟩,?_⟩;revert hF;refine gsA rfl (fun wc hF=>?_);rw [stepG_region];simp only [goes_go,rz0,Nat.reduceAdd,List.range,List.range.loop];refine ⟨⟨rfl,nev⟩,?_⟩
 iterate 3
  revert hF;refine gsA rfl (fun wc hF=>?_);refine goes_oper_k rfl rfl (by k_ne) (fun Kx hKx=>?_);go_simp
  refine hKx _ _ ⟨?_,?_⟩
  ·refine ⟨rfl,?_⟩
   intro ex hex;have hmx:=mem_listed hex;simp [go_sem, *] at hmx
  clear hKx Kx
  try w_num
  try simp only [bx1,bx2]
 iterate 2
  revert hF;refine gsA rfl (fun wc hF=>?_);rw [stepG_unwanted rfl rfl];simp only [goes_go];refine ⟨⟨rfl,nev⟩,?_⟩
  walk_nrm
 iterate 2
  revert hF;refine gsA rfl (fun wc hF=>?_);refine goes_oper_k rfl rfl (by k_ne) (fun Kx hKx=>?_);go_simp
  refine hKx _ _ ⟨?_,?_⟩
  ·refine ⟨rfl,?_⟩
   intro ex hex;have hmx:=mem_listed hex;simp [go_sem, *] at hmx
  clear hKx Kx
  try w_num
  try simp only [bx1,bx2]
 iterate 4
  revert hF;refine gsA rfl (fun wc hF=>?_);rw [stepG_unwanted rfl rfl];simp only [goes_go];refine ⟨⟨rfl,nev⟩,?_⟩
  walk_nrm
 revert hF;refine gsA rfl (fun wc hF=>?_);refine goes_oper_k rfl rfl (by k_ne) (fun Kx hKx=>?_);go_simp
 refine hKx _ _ ⟨?_,?_⟩
 ·refine ⟨rfl,?_⟩
  intro ex hex;have hmx:=mem_listed hex;simp [go_sem, *] at hmx
 clear hKx Kx
 try w_num
 try simp only [bx1,bx2]
 revert hF;refine gsA rfl (fun wc hF=>?_);rw [stepG_region_end];simp only [goes_go];refine ⟨⟨rfl,nev⟩,?_⟩;revert hF;refine gsA rfl (fun wc hF=>?_);rw [stepG_cond (t:=false) rfl];simp only [goes_go,if_true,if_false,Bool.false_eq_true,↓reduceIte];refine ⟨⟨rfl,nev⟩,?_⟩;revert hF;refine gsA rfl (fun wc hF=>?_);rw [stepG_skip]
 iterate 2
  simp only [goes_go];refine ⟨⟨rfl,nev⟩,?_⟩;revert hF;refine gsA rfl (fun wc hF=>?_);rw [stepG_seq]
 simp only [goes_go];refine ⟨⟨rfl,nev⟩,?_⟩;revert hF;refine gsA rfl (fun wc hF=>?_);rw [stepG_region];simp only [goes_go,rz0,Nat.reduceAdd,List.range,List.range.loop];refine ⟨⟨rfl,nev⟩,?_⟩
 iterate 3
  revert hF;refine gsA rfl (fun wc hF=>?_);refine goes_oper_k rfl rfl (by k_ne) (fun Kx hKx=>?_);go_simp
  refine hKx _ _ ⟨?_,?_⟩
  ·refine ⟨rfl,?_⟩
   intro ex hex;have hmx:=mem_listed hex;simp [go_sem, *] at hmx
  clear hKx Kx
  try w_num
  try simp only [bx1,bx2]
 iterate 2
  revert hF;refine gsA rfl (fun wc hF=>?_);rw [stepG_unwanted rfl rfl];simp only [goes_go];refine ⟨⟨rfl,nev⟩,?_⟩
  walk_nrm
 revert hF;refine gsA rfl (fun wc hF=>?_);refine goes_oper_k rfl rfl (by k_ne) (fun Kx hKx=>?_);go_simp
 refine hKx _ _ ⟨?_,?_⟩
 ·refine ⟨rfl,?_⟩
  intro ex hex;have hmx:=mem_listed hex;simp [go_sem, *] at hmx
 clear hKx Kx
 try w_num
 try simp only [bx1,bx2]
 revert hF;refine gsA rfl (fun wc hF=>?_);rw [stepG_region_end];simp only [goes_go];refine ⟨⟨rfl,nev⟩,?_⟩;revert hF;refine gsA rfl (fun wc hF=>?_);rw [stepG_cond (t:=true) rfl];simp only [goes_go,if_true,if_false,Bool.false_eq_true,↓reduceIte];refine ⟨⟨rfl,nev⟩,?_⟩;revert hF;refine gsA rfl (fun wc hF=>?_);rw [stepG_ret'];simp only [goes_go];refine ⟨⟨rfl,nev⟩,?_⟩;refine Goes.stop (fun wc h₁=>?_);replace hF:=atRel_trans _ _ _ hF h₁;clear h₁;refine ⟨rfl,_,stepG_unwind_entry (v:=.tuple #[]) (evs:=#[Go.ConcR.mk .enable]) rfl H.f_enable (x_enable_n L) (x_enable_b L) (x_enable_x L) (x_enable_f L) (by simp [Extern.Race.none_]) (by simp [Go.ConcR.mk]) (by simp [Go.ConcR.mk]),mT+1,?_⟩;revert hF;refine gsA rfl (fun wc hF=>?_);refine goes_leave0 rfl rfl H.f_add rfl ⟨⟨rfl,nev⟩,?_⟩
 walk_nrm
 exact Goes.rely atRel_trans hT hF
end
end Go.Mt
namespace Go.Mt
open Go.Tr Go.Conc Go.ConcN Go.Proofs Go.RowKit Go.Conc.Lib Go.ConcR.Gen Go.ConcN.Gen
open Go.ConcR (KK wgBlock WgAt stA smA rd wr Payload DC0)
section
variable {X:PH} {Sh:Loc->Prop} {Stop:Goroutine->World->Prop} {Stop':List Nat->Goroutine->World->Prop} {L:List Nat}
theorem evm_q {B:Nat} {e:Event} (h:X.EvM e) (hB:X.G.Wg<B):EvQ Sh B e :=
 ⟨⟨fun x hx _=>(h.1 x hx).2,MemAct.low_mono (by omega) h.2.2.2.2,h.2.2.2.1⟩,h.2.1,h.2.2.1⟩
theorem yc1 (hk:∀ g w,X.G.Wg<w.heap.size->(∀ w₁,AtRel w w₁->Stop g w₁)->WG Try.prog true RB (DB Sh) Stop' L g w):∀ (m:Nat) (g:Goroutine) (w:World),Goes Try.prog true AtRel X.DA Stop m g w->X.G.Wg<w.heap.size->WG Try.prog true RB (DB Sh) Stop' L g w:=by
 intro m
 induction m with
 |zero=>exact fun g w h hW=>hk g w hW h
 |succ m ih =>
  intro g w h hW;rcases h with h|⟨hr,h⟩
  ·exact hk g w hW h
  ·refine .of_step hr fun w₁ r=>?_
   obtain ⟨g',w',es,hgo,hd,hn⟩:=goes_elim (h w₁ r);have hsz:w₁.heap.size=w.heap.size:=by obtain ⟨d,rfl⟩:=r;rfl
   have hsz':=hd.1;have hes:∀ e ∈ es,EvQ Sh w'.heap.size e:=fun e he=>evm_q (hd.2 e he) (by omega)
   exact ⟨L,g',w',es,hgo,⟨by omega,y4g (fun e he=>(hes e he).2) _,fun e he=>(hes e he).1⟩,ih g' w' hn (by omega)⟩
theorem ygl {m:Mark} {K:Goroutine->World->Prop} {L':List Nat} (hm:(m=.disable∧L'.length=L.length+1)∨(m=.enable∧L.length=L'.length+1)) {g:Goroutine} {w:World} (hW:X.G.Wg<w.heap.size) (h:∀ w₁,AtRel w w₁->AtMk Try.prog m K g w₁)
  (hk:∀ g w,X.G.Wg<w.heap.size->K g w->WG Try.prog true RB (DB Sh) Stop' L' g w):WG Try.prog true RB (DB Sh) Stop' L g w:=by
 refine .of_step (h w (atRel_refl w)).1 fun w₁ r=>?_
 obtain ⟨_,g',hgo,hK⟩:=h w₁ r;have hsz:w₁.heap.size=w.heap.size:=by obtain ⟨d,rfl⟩:=r;rfl
 refine ⟨L',g',w₁,_,hgo,⟨zLe _,?_,fun e he=>?_⟩,hk g' w₁ (by omega) hK⟩
 ·rcases hm with ⟨rfl,hl⟩|⟨rfl,hl⟩<;>simp [deafBehind,Go.ConcR.mk,hl]
 ·rw [Array.mem_singleton] at he
  subst he;rcases hm with ⟨rfl,hl⟩|⟨rfl,hl⟩<;>exact ⟨fun x hx=>by simp [Go.ConcR.mk,MemAct.ofEvent,MemAct.touch?] at hx,by simp [Go.ConcR.mk,MemAct.ofEvent,MemAct.low],by simp [Go.ConcR.mk]⟩
end
section
variable {Sh:Loc->Prop} {Stop:List Nat->Goroutine->World->Prop} {X:PH} {b₀:Frame} {a₀:Act} {ops₀:Array Oper} {i₀:Nat} {rest₀:List Nat} {k₀:List Item} {cs:List Frame} {w:World}
theorem mw_add (hX:X.P=Try.prog) (hw:WgAt 60 X.G.Wg w 0 0)
  (hn:MW Sh Stop (G (b₀.at (a₀.put ((ops₀[i₀]?).bind (·.dst)) (.tuple #[])) (.inRegion ops₀ rest₀ :: k₀)) cs) (w.setCell (stA X.G.Wg) (.int .u64 (2 * KK)))) :
  MW Sh Stop (G (Frame.enter Try.prog 21 #[ptr X.G.Wg,.int .i64 2] .normal) (b₀.at a₀ (.inRegion ops₀ (i₀ :: rest₀) :: k₀) :: cs)) w:=by
 have hb:Try.f21.body=some (body_add Try.link):=by kernel_rfl
 have hnt:Try.f21.ntmps=117:=by kernel_rfl
 intro d;have hlt:X.G.Wg<w.heap.size:=(zGe hw).1;have hg:Goes X.P true AtRel X.DA (fun g w'=>g=G (b₀.at (a₀.put ((ops₀[i₀]?).bind (·.dst)) (.tuple #[])) (.inRegion ops₀ rest₀ :: k₀)) cs∧∃ d,w'=(w.setCell (stA X.G.Wg) (.int .u64 (2 * KK))).at d) 0 (G (b₀.at (a₀.put ((ops₀[i₀]?).bind (·.dst)) (.tuple #[])) (.inRegion ops₀ rest₀ :: k₀)) cs) (((w.at d)).setCell (stA X.G.Wg) (.int .u64 (2 * KK))) :=
  Goes.stop fun w₁ ⟨d',e⟩=>⟨rfl,d',by rw [e];rfl⟩
 have h:=addTwoX (X:=X) (L:=Try.link) (hX ▸ Try.wgLib) (w.at d) hw hg;rw [enter_at _ Try.func21 hb,hnt];simp only [List.size_toArray,List.length_cons,List.length_nil,Nat.reduceAdd,Nat.reduceSub,Array.replicate_succ,Array.replicate_zero,List.push_toArray,List.append_toArray,List.nil_append,List.cons_append];rw [hX] at h;refine yc1 (X:=X) (fun g w' hW hs=>ygl (X:=X) (L':=[0]) (.inl ⟨rfl,rfl⟩) hW hs fun g w' hW ⟨n,hk⟩=>yc1 (X:=X) (fun g w' hW hs=>ygl (X:=X) (L':=[]) (.inr ⟨rfl,rfl⟩) hW hs fun g w' hW ⟨n,hk⟩=>yc1 (X:=X) (fun g w' hW hs=>?_) n g w' hk hW) n g w' hk hW) 12 _ _ h hlt;obtain ⟨rfl,d',rfl⟩:=hs w' (atRel_refl w');exact hn d'
end
def wC (w:World):World:=(((w.alloc (.chan 1 #[] false 0 0 false)).alloc (.cells #[.chan none] 51 (0,0))).setCell ⟨w.heap.size+1,0,none⟩ (.chan (some w.heap.size))).alloc (.cells #[.slice none 0 0] 29 (0,0))
def wD (w:World):World:=((wC w).alloc (Go.ConcR.wgBlock 60 0 0)).setCell (stA (w.heap.size+3)) (.int .u64 (2 * KK))
def TD (va vb:Value) (S M:Nat):Array Value:=#[va,vb,ptr S,ptr (S+1),.slice none 0 0,.slice none 0 0,.int .i64 0,.int .i64 0,ptr (M+1),ptr (M+2),ptr (M+3),va,vb,.slice (some ⟨S+2,0,none⟩) 2 2,.int .i64 0,.int .i64 0,.bool false,undef,.chan (some M),.tuple #[],.func (.func 22) #[] #[ptr (M+3),ptr (M+1),ptr S,ptr (S+1)],undef,undef,undef,undef,undef]
section
variable {Sh:Loc->Prop} {Stop:List Nat->Goroutine->World->Prop} {w:World} {cs:List Frame} {va vb:Value} {S:Nat} {X:PH}
theorem yay (w:World):(wC w).heap.size=w.heap.size+3:=by
 simp only [wC,y0m,(aside_setCell _ _ _).size]
theorem y9g (w:World) (b:Nat):(wC w).heap[b]?=if b=w.heap.size+2 then some (.cells #[.slice none 0 0] 29 (0,0)) else if b=w.heap.size+1 then some (.cells #[.chan (some w.heap.size)] 51 (0,0)) else if b=w.heap.size then some (.chan 1 #[] false 0 0 false) else w.heap[b]?:=by
 have h2:((w.alloc (.chan 1 #[] false 0 0 false)).alloc (.cells #[.chan none] 51 (0,0))).heap[w.heap.size+1]?=some (.cells #[.chan none] 51 (0,0)):=by rw [y1c,y0m,if_pos rfl]
 have h3:(((w.alloc (.chan 1 #[] false 0 0 false)).alloc (.cells #[.chan none] 51 (0,0))).setCell ⟨w.heap.size+1,0,none⟩ (.chan (some w.heap.size))).heap[w.heap.size+1]?=some (.cells #[.chan (some w.heap.size)] 51 (0,0)):=by
  rw [setCell_eq_setRow _ (w.heap.size+1) 0 #[.chan none] _ (0,0) _ h2,setRow_heap _ _ _ _ _ _ h2];simp
 unfold wC;rw [y1c,(aside_setCell _ _ _).size,y0m,y0m]
 by_cases e2:b=w.heap.size+2
 ·rw [if_pos (by omega),if_pos e2]
 ·rw [if_neg (by omega),if_neg e2]
  by_cases e1:b=w.heap.size+1
  ·subst e1
   rw [h3,if_pos rfl]
  ·rw [if_neg e1,(aside_setCell _ ⟨w.heap.size+1,0,none⟩ _).block b e1,y1c,y0m,if_neg e1,y1c]
theorem wD_at (w:World):WgAt 60 (w.heap.size+3) (wD w) (2 * KK) 0:=by
 have h:WgAt 60 (w.heap.size+3) ((wC w).alloc (Go.ConcR.wgBlock 60 0 0)) 0 0:=by
  show _=_;rw [y1c,yay,if_pos rfl]
 exact h.setSt _
theorem y8b (w:World):(wD w).heap.size=w.heap.size+4:=by
 unfold wD;rw [(aside_setCell _ _ _).size,y0m,yay]
theorem y9f (w:World) (b:Nat) (hb:b≠w.heap.size+3):(wD w).heap[b]?=(wC w).heap[b]?:=by
 unfold wD;rw [(aside_setCell _ (stA (w.heap.size+3)) _).block b hb,y1c,yay,if_neg hb]
theorem yci (w:World) (b:Nat) (hb:b<w.heap.size):(wD w).heap[b]?=w.heap[b]?:=by
 rw [y9f w b (by omega),y9g,if_neg (by omega),if_neg (by omega),if_neg (by omega)]
theorem meetC (hX:X.P=Try.prog) (hWg:X.G.Wg=w.heap.size+3) (hs:∀ l,inB (w.heap.size+1) l->¬ Sh l)
  (h:MW Sh Stop (G (b34.at ⟨TD va vb S w.heap.size,[]⟩ [.inRegion (r34 8) [1],.code c9]) cs) (wD w)):MW Sh Stop (G (b34.at ⟨TB va vb S,[]⟩ [.code c4]) cs) w:=by
 unfold TB;unfold c4;refine y12 rfl (fun _=>stepG_seq) ?_;refine y12 rfl (fun _=>stepG_region) ?_;rw [s34_4];simp only [List.range,List.range.loop];obtain ⟨o,ho,hd,hop,hg⟩:=o34_4_0;refine mw_chan ho hg (by decide) hop ?_;rw [hd]
 walk_nrm
 clear ho hd hop hg o;obtain ⟨o,ho,hd,hop,hg⟩:=o34_4_1;refine yee ho hg (by decide) hop ?_;rw [hd]
 walk_nrm
 clear ho hd hop hg o;obtain ⟨o,ho,hd,hop,hg⟩:=o34_4_2;refine ygh ho hg (by decide) hop rfl rfl (by rw [y0m];exact hs) (by simp only [y0m];omega) (y3r (by rw [y0m,y1c,y0m,if_pos rfl])) (by simp only [World.frozen?];rw [y0m,y1c,y0m,if_pos rfl];rfl) ?_;rw [hd]
 walk_nrm
 clear ho hd hop hg o;refine y12 rfl (fun _=>stepG_region_end) ?_;unfold c5;refine y12 rfl (fun _=>stepG_seq) ?_;refine y12 rfl (fun _=>stepG_region) ?_;rw [s34_5];simp only [List.range,List.range.loop];obtain ⟨o,ho,hd,hop,hg⟩:=o34_5_0;refine yef ho hg (by decide) hop ?_;rw [hd]
 walk_nrm
 clear ho hd hop hg o;refine y12 rfl (fun _=>stepG_region_end) ?_;unfold c6;refine y12 rfl (fun _=>stepG_seq) ?_;refine y12 rfl (fun _=>stepG_region) ?_;rw [s34_6];simp only [List.range,List.range.loop];obtain ⟨o,ho,hd,hop,hg⟩:=o34_6_0;refine yed ho hg (by decide) hop ?_;rw [hd]
 walk_nrm
 clear ho hd hop hg o;refine y12 rfl (fun _=>stepG_region_end) ?_;unfold c7;refine y12 rfl (fun _=>stepG_seq) ?_;refine y12 rfl (fun _=>stepG_region) ?_;rw [s34_7];simp only [List.range,List.range.loop];obtain ⟨o,ho,hd,hop,hg⟩:=o34_7_0;have hn:(Try.f21.name == "runtime.NumGoroutine")=false:=by kernel_rfl
 have hb':Try.f21.body.isNone=false:=by kernel_rfl
 refine y5i rfl (zLe _) (fun d=>⟨_,d,stepG_enter ho (y1e hg _ _) (by decide) (run_call_body hop Try.func21 hn hb'),fun e he=>?_⟩) ?_
 ·unfold listed at he
  rw [events_call_body hop Try.func21 hn hb',seen_none] at he;simp at he
 walk_nrm
 have e3:(((((w.alloc (.chan 1 #[] false 0 0 false)).alloc (.cells #[.chan none] 51 (0,0))).setCell ⟨(w.alloc (.chan 1 #[] false 0 0 false)).heap.size,0,none⟩ (.chan (some w.heap.size))).alloc (.cells #[.slice none 0 0] 29 (0,0)))).heap.size=X.G.Wg:=by
  rw [hWg,y0m,(aside_setCell _ _ _).size,y0m,y0m]
 have e2:((((w.alloc (.chan 1 #[] false 0 0 false)).alloc (.cells #[.chan none] 51 (0,0))).setCell ⟨(w.alloc (.chan 1 #[] false 0 0 false)).heap.size,0,none⟩ (.chan (some w.heap.size)))).heap.size=w.heap.size+2:=by
  rw [(aside_setCell _ _ _).size,y0m,y0m]
 rw [e3,e2];have e1:(w.alloc (.chan 1 #[] false 0 0 false)).heap.size=w.heap.size+1:=y0m _ _;rw [e1];refine mw_add hX ?_ ?_
 ·show _=_
  rw [y1c,← e3,e1,if_pos rfl]
 rw [ho,Option.bind_some,hd];clear ho hd hop hg o
 walk_nrm
 refine y12 rfl (fun _=>stepG_region_end) ?_;unfold c8;refine y12 rfl (fun _=>stepG_seq) ?_;refine y12 rfl (fun _=>stepG_region) ?_;rw [s34_8];simp only [List.range,List.range.loop];obtain ⟨o,ho,hd,hop,hg⟩:=o34_8_0;refine y59 ho hg (by decide) (zLe _) (v:=.func (.func 22) #[] #[ptr X.G.Wg,ptr (w.heap.size+1),ptr S,ptr (S+1)]) (fun d=>?_) (fun d=>?_) ?_
 ·unfold execOp
  simp [hop,Act.eval,go_sem];rfl
 ·unfold execOp
  simp [hop,Act.eval,go_sem];rfl
 rw [hd]
 walk_nrm
 rw [hWg];exact h
end
end Go.Mt
namespace Go.Mt
open Go.Tr Go.Conc Go.ConcN Go.Proofs Go.RowKit Go.Conc.Lib Go.ConcR.Gen Go.ConcN.Gen
open Go.ConcR (KK wgBlock WgAt stA smA rd wr Payload DC0)
theorem y7s {K:Cfg} {L:List Nat} {cs:Array Value} (h:∀ c ∈ cs,y1m c=true):RelCs K L cs cs :=
 ⟨rfl,fun i v v' h1 h2=>by
  rw [h1] at h2;obtain rfl:=zSi h2;exact .flat (h v (Array.mem_iff_getElem?.2 ⟨i,h1⟩))⟩
def y5j (w:World) (N:Nat) (bl:List Obj):World:={ w with heap:=bl.toArray ++ Array.replicate (N - bl.length) (.map #[] 0) }
theorem y7z (w:World) {N:Nat} {bl:List Obj} (h:bl.length≤N):(y5j w N bl).heap.size=N:=by simp [y5j];omega
theorem y5a (w:World) {N a:Nat} {bl:List Obj} {o:Obj} (h:bl[a]?=some o):(y5j w N bl).heap[a]?=some o:=by
 have hl:=(List.getElem?_eq_some_iff.1 h).1;simp only [y5j];rw [Array.getElem?_append_left (by simpa using hl)];simpa using h
abbrev KR (N:Nat) (ro:Nat->Nat->Nat->Prop):Cfg:=⟨N,fun _=>False,fun _=>False,[],ro⟩
theorem yeu {ro:Nat->Nat->Nat->Prop} {bl:List Obj} {N:Nat} {w0 w:World} (hos:w.os=w0.os) (hout:w.output=w0.output) (hN:N≤w.heap.size) (hbl:bl.length≤N)
  (h:∀ a b s,ro a b s->b<N∧∃ c c' e e' fr',bl[a]?=some (.cells c e (0,c.size))∧(0<c.size->w.heap[b]?=some (.cells c' e' fr'))∧RelSh (KR N ro) [] s c c'):WRel (KR N ro) [] (y5j w0 N bl) w:=by
 refine ⟨by rw [y7z _ hbl];rfl,hN,hos.symm,hout.symm,fun j b hj=>by simp at hj,fun j b hj=>by simp at hj,fun i j b hj=>by simp at hj,fun b hb=>hb.elim,fun b hb=>hb.elim,fun j b s hj=>(by simp at hj),fun a b s hr=>?_⟩;obtain ⟨h1,c,c',e,e',fr',h2,h3,h4⟩:=h a b s hr;have hl:=(List.getElem?_eq_some_iff.1 h2).1;exact ⟨by show a<N;omega,fun x=>x,h1,fun x=>x,c,c',e,e',fr',y5a w0 h2,h3,h4⟩
def xl (i:Nat) (s:Option Addr) (n c:Nat):Value:=match s with
 |none=>.slice none n c
 |some x=>.slice (some ⟨i,0,x.spot⟩) n c
theorem y8q {K:Cfg} {L:List Nat} {i:Nat} {s:Option Addr} {n c:Nat} (h:∀ x,s=some x->K.ro i x.block x.off):RelC K L (xl i s n c) (sl s n c):=by
 cases s with
 |none=>exact .flat rfl
 |some x=>exact .slice (s:=x.off) (.inr (.inr (h x rfl))) (by simp) rfl
def Lent (w:World) (Sh:Loc->Prop) (ro:Nat->Nat->Nat->Prop) (bl:List Obj):Prop :=
 ∀ a b s,ro a b s->b<w.heap.size∧(∀ l,inB b l->¬ Sh l)∧∃ c c' e e' fr',bl[a]?=some (.cells c e (0,c.size))∧(0<c.size->w.heap[b]?=some (.cells c' e' fr'))∧∀ K L,RelSh K L s c c'
structure yj6 (w:World) (Sh:Loc->Prop) (ro:Nat->Nat->Nat->Prop) (bl:List Obj) (sa sb:Option Addr):Prop where
 shB:∀ l b,Sh l->inB b l->b<w.heap.size
 mem:∀ l:Loc,l.isMemory=false->Sh l
 lent:Lent w Sh ro bl
 two:bl.length=2
 a:∀ x,sa=some x->ro 0 x.block x.off
 b:∀ x,sb=some x->ro 1 x.block x.off
section
variable {P:Program} {S T:FuncId->Bool} {kdOf:FuncId->y17} {Sh:Loc->Prop} {ro:Nat->Nat->Nat->Prop} {bl:List Obj} {sa sb:Option Addr} {na ca nb cb:Nat} {w:World} {er:Int} {c:Frame} {cs:List Frame}
theorem yez (w:World) (va vb:Value):(wA w va vb).heap.size=w.heap.size+3:=by simp only [wA,y0m]
theorem y9h (w:World) (va vb:Value) (b:Nat):(wA w va vb).heap[b]?=if b=w.heap.size+2 then some (.cells #[va,vb] 29 (0,0)) else if b=w.heap.size+1 then some (.cells #[vb] 29 (0,0)) else if b=w.heap.size then some (.cells #[va] 29 (0,0)) else w.heap[b]?:=by
 unfold wA;rw [y1c,y0m,y0m,y1c,y0m,y1c]
theorem meetAB (hPF:wf P Try.prog.funcs=Try.prog) (hC:y34 P Try.prog.funcs S T kdOf) (hST:∀ f,T f=true->S f=true) (hS:S 20=true) (hg:yj6 w Sh ro bl sa sb)
  (hc:∀ u:World,(∀ (a:Nat) (o:Obj),bl[a]?=some o->u.heap[a]?=some o)->u.heap[2]?=some (.cells #[xl 0 sa na ca,xl 1 sb nb cb] 29 (0,2))->Calls P 20 #[.slice (some ⟨2,0,none⟩) 2 2] u fun e _=>e=.returned (.int .i64 er)) :
  MW Sh (fun L g w'=>L=[]∧Kept (w.heap.size+3) (wA w (sl sa na ca) (sl sb nb cb)) w'∧((er≠0∧g=G (c.finish (.tuple #[.slice none 0 0,.slice none 0 0,.int .i64 er])) cs)∨(er=0∧g=G (b34.at ⟨TB (sl sa na ca) (sl sb nb cb) w.heap.size,[]⟩ [.code c4]) (c :: cs))))
   (G (Frame.enter Try.prog 9 #[sl sa na ca,sl sb nb cb] .normal) (c :: cs)) w:=by
 refine meetA hg.shB ?_;intro d;have hf:P.funcs[20]?=some Try.f20:=(hC.same 20 hS).symm.trans Try.func20;have hone:oneB P 20=true:=by
  have:(Try.f20.results.size == 1)=true:=by kernel_rfl
  simpa [oneB,hf] using this
 have hsz:(wA w (sl sa na ca) (sl sb nb cb)).heap.size=w.heap.size+3:=yez _ _ _;have hlow:∀ b,b<w.heap.size->(wA w (sl sa na ca) (sl sb nb cb)).heap[b]?=w.heap[b]?:=fun b hb=>by rw [y9h,if_neg (by omega),if_neg (by omega),if_neg (by omega)]
 let rp:Nat->Nat->Nat->Prop:=fun a b s=>ro a b s∨(a=2∧b=w.heap.size+2∧s=0)
 let pr:Obj:=.cells #[xl 0 sa na ca,xl 1 sb nb cb] 29 (0,2)
 have h2:=hg.two;have hlt2:∀ a b s,ro a b s->a<2:=fun a b s hr=>by
  obtain ⟨_,_,c,_,_,_,_,h,_⟩:=hg.lent a b s hr;have:=(List.getElem?_eq_some_iff.1 h).1;omega
 have hb2:(bl ++ [pr])[2]?=some pr:=by rw [List.getElem?_append_right (by omega),h2];rfl
 have hW:WRel (KR (w.heap.size+3) rp) [] (y5j (wA w (sl sa na ca) (sl sb nb cb)) (w.heap.size+3) (bl ++ [pr])) ((wA w (sl sa na ca) (sl sb nb cb)).at d):=by
  refine yeu rfl rfl (by show _≤(wA w _ _).heap.size;omega) (by simp;omega) fun a b s hr=>?_
  rcases hr with hr|⟨rfl,rfl,rfl⟩
  ·obtain ⟨q1,q2,c,c',e,e',fr',q3,q4,q5⟩:=hg.lent a b s hr
   exact ⟨by omega,c,c',e,e',fr',by rw [List.getElem?_append_left (List.getElem?_eq_some_iff.1 q3).1];exact q3,fun hp=>(hlow b q1).trans (q4 hp),q5 _ _⟩
  ·refine ⟨by omega,#[xl 0 sa na ca,xl 1 sb nb cb],#[sl sa na ca,sl sb nb cb],29,29,(0,0),hb2,fun _=>by show (wA w (sl sa na ca) (sl sb nb cb)).heap[_]?=_;rw [y9h,if_pos rfl],RelCs.sh ⟨rfl,fun i v v' h1 h2=>?_⟩⟩
   match i,h1,h2 with
   |0,h1,h2 =>
    obtain rfl:xl 0 sa na ca=v:=by simpa using h1
    obtain rfl:sl sa na ca=v':=by simpa using h2
    exact y8q fun x hx=>.inl (hg.a x hx)
   |1,h1,h2 =>
    obtain rfl:xl 1 sb nb cb=v:=by simpa using h1
    obtain rfl:sl sb nb cb=v':=by simpa using h2
    exact y8q fun x hx=>.inl (hg.b x hx)
   |k+2,h1,h2=>simp at h1
 have harg:RelPs (KR (w.heap.size+3) rp) [] #[.slice (some ⟨2,0,none⟩) 2 2] #[.slice (some ⟨w.heap.size+2,0,none⟩) 2 2]:=by
  refine ⟨rfl,fun i v v' h1 h2=>?_⟩
  match i,h1,h2 with
  |0,h1,h2 =>
   obtain rfl:(.slice (some ⟨2,0,none⟩) 2 2:Value)=v:=by simpa using h1
   obtain rfl:(.slice (some ⟨w.heap.size+2,0,none⟩) 2 2:Value)=v':=by simpa using h2
   exact .cell (.slice (s:=0) (.inr (.inr (.inr ⟨rfl,rfl,rfl⟩))) rfl rfl)
  |k+1,h1,h2=>simp at h1
 have hcalls:∀ τ,Calls P 20 #[.slice (some ⟨2,0,none⟩) 2 2] (retape (y5j (wA w (sl sa na ca) (sl sb nb cb)) (w.heap.size+3) (bl ++ [pr])) τ) fun e u'=>∃ v,e=.returned v∧v=.int .i64 er:=by
  intro τ bs;obtain ⟨e,w',fr,h3,h4⟩:=hc (retape (y5j (wA w (sl sa na ca) (sl sb nb cb)) (w.heap.size+3) (bl ++ [pr])) τ) (fun a o h=>y5a (N:=w.heap.size+3) (bl:=bl ++ [pr]) (wA w (sl sa na ca) (sl sb nb cb)) (by rw [List.getElem?_append_left (List.getElem?_eq_some_iff.1 h).1];exact h)) (y5a (N:=w.heap.size+3) (bl:=bl ++ [pr]) (wA w (sl sa na ca) (sl sb nb cb)) hb2) bs;exact ⟨e,w',fr,⟨_,h3,rfl⟩,h4⟩
 have hwx:=yet (main:=true) hC hST hf hS (by kernel_rfl) harg hW (Post:=fun v _=>v=.int .i64 er) (fun _ _ _ h=>h) hcalls (b34.at ⟨TA (sl sa na ca) (sl sb nb cb) w.heap.size,[]⟩ [.inRegion (r34 1) [3,4],.code c2,.code c4]) (c :: cs);rw [hPF,hone] at hwx;have hsh:∀ l b,Sh l->inB b l->b<w.heap.size+3:=fun l b h1 h2=>by have:=hg.shB l b h1 h2;omega
 have hB:=yca (K:=KR (w.heap.size+3) rp) (Sh:=Sh) (B:=w.heap.size+3) (zLe _) (fun b hb=>hb) (fun b l hb _=>hb.elim) rfl (fun a b s hr=>by
  rcases hr with hr|⟨rfl,rfl,rfl⟩
  ·obtain ⟨q1,q2,_⟩:=hg.lent a b s hr
   exact ⟨by show b<w.heap.size+3;omega,q2⟩
  ·exact ⟨by show _<w.heap.size+3;omega,fun l hl hs=>by
    have:=hg.shB l _ hs hl;omega⟩) hsh hwx ((wA w (sl sa na ca) (sl sb nb cb)).at d) (Kept.refl _ _) (by simp) (by show w.heap.size+3≤(wA w _ _).heap.size;omega)
 refine hB.bind (fun _ a b c h k=>atRel_trans _ _ _ h k) (fun _ a=>atRel_refl a) (fun L g w ⟨_,_,⟨_,_,_,hg',_⟩,_⟩=>by rw [hg'];rfl) fun L g w1 hst=>?_
 obtain ⟨rfl,L1,⟨v,v',u,rfl,hv,hWu,rfl⟩,hk,hN,hL⟩:=hst w1 (atRel_refl w1);rw [if_pos rfl] at hv;have hv':v'=.int .i64 er:=by
  cases hv with
  |cell h=>cases h with|flat _=>rfl
 subst hv';have hkd:∀ d,Kept (w.heap.size+3) (wA w (sl sa na ca) (sl sb nb cb)) (w1.at d):=fun d=>⟨hk.os,hk.output,hk.tape,hk.size,hk.old⟩
 exact meetB (Sh:=Sh) (w:=w1) (fun he=>y6v fun d=>⟨rfl,hkd d,.inl ⟨he,rfl⟩⟩) (fun he=>y6v fun d=>⟨rfl,hkd d,.inr ⟨he,rfl⟩⟩) w1.drawn
end
end Go.Mt
namespace Go.Mt
open Go.Tr Go.Conc Go.ConcN Go.RowKit Go.Conc.Lib Go.ConcR.Gen Go.ConcN.Gen
open Go.ConcR (KK wgBlock WgAt stA smA rd wr Payload DC0)
variable [Payload] {L:WgLink}
def yes (L:WgLink) (Wg:Nat) (c:Frame) (cs:List Frame) (g:Goroutine) (w:World):Prop :=
 ∃ T:Array Value,g=G ((base L.wait).at ⟨T,[]⟩ [.code (L7 L),.inLoop (L7 L),.inBlock 0]) (c :: cs)∧T.size=84∧T[0]?=some (.pointer (some ⟨Wg,0,none⟩))∧WgLive L.tWg Wg w
theorem yhe {Wg:Nat} {c:Frame} {cs:List Frame} (g:Goroutine) (w:World) (h:yes L Wg c cs g w):g.status=.running:=by
 obtain ⟨_,rfl,_⟩:=h;rfl
theorem y7i {X:PH} (a:Addr) (h:a.block=X.G.Wg):X.EvM ⟨.mark (.write a),false,true⟩:=by
 refine ⟨fun x hx=>?_,by simp,by simp,by simp,?_⟩
 ·simp only [MemAct.ofEvent,MemAct.touch?,Option.some.injEq] at hx
  subst hx;exact ⟨h,by simp⟩
 ·show a.block<X.G.Wg+1
  omega
section
variable {X:PH} {b₀:Frame} {a₀:Act} {ops₀:Array Oper} {i₀:Nat} {rest₀:List Nat} {k₀:List Item} {cs:List Frame}
theorem ydk (H:WgLib X.P L) (hty:X.ty=L.tWg) (w:World) (hF:WgLive X.ty X.G.Wg w) :
  Goes X.P true X.R0 X.D0 (X.AtKd (yes L X.G.Wg (b₀.at a₀ (.inRegion ops₀ (i₀ :: rest₀) :: k₀)) cs)) 3
   (G ((base L.wait).at ⟨#[.pointer (some ⟨X.G.Wg,0,none⟩),undef,undef,undef,undef,undef,undef,undef,undef,undef,undef,undef,undef,undef,undef,undef,undef,undef,undef,undef,undef,undef,undef,undef,undef,undef,undef,undef,undef,undef,undef,undef,undef,undef,undef,undef,undef,undef,undef,undef,undef,undef,undef,undef,undef,undef,undef,undef,undef,undef,undef,undef,undef,undef,undef,undef,undef,undef,undef,undef,undef,undef,undef,undef,undef,undef,undef,undef,undef,undef,undef,undef,undef,undef,undef,undef,undef,undef,undef,undef,undef,undef,undef,undef],[]⟩ [.code (body_wait L)]) (b₀.at a₀ (.inRegion ops₀ (i₀ :: rest₀) :: k₀) :: cs)) w:=by
 lib_facts
 simp only [body_wait,waitFn,Option.getD_some];revert hF;refine gsL rfl (fun _ hF=>?_);rw [stepG_seq];simp only [goes_go];refine ⟨⟨rfl,nev⟩,?_⟩;revert hF;refine gsL rfl (fun _ hF=>?_);rw [stepG_cond (t:=true) (by first|rfl|(simp [Act.eval];omega))];simp only [goes_go,if_true,if_false,Bool.false_eq_true,↓reduceIte];refine ⟨⟨rfl,nev⟩,?_⟩;revert hF;refine gsL rfl (fun _ hF=>?_);rw [stepG_region];simp only [goes_go,rz0,Nat.reduceAdd,List.range,List.range.loop];refine ⟨⟨rfl,nev⟩,?_⟩;refine Goes.stop (fun w1 h₁=>?_);replace hF:=h₁ hF;clear h₁;refine ⟨rfl,_,stepG_mark0 .disable (by simp) rfl rfl (by k_ne) rfl H.f_disable (x_disable_n L) (x_disable_b L) (x_disable_x L) (x_disable_f L),3,?_⟩
 walk_nrm
 revert hF;refine gsL rfl (fun _ hF=>?_);rw [stepG_region_end];simp only [goes_go];refine ⟨⟨rfl,nev⟩,?_⟩;revert hF;refine gsL rfl (fun _ hF=>?_);rw [stepG_block];simp only [goes_go];refine ⟨⟨rfl,nev⟩,?_⟩;revert hF;refine gsL rfl (fun _ hF=>?_);rw [stepG_loop];simp only [goes_go];refine ⟨⟨rfl,nev⟩,?_⟩;refine Goes.stop (fun w2 h₁=>?_);replace hF:=h₁ hF;clear h₁;exact ⟨_,rfl,by simp,by simp,hty ▸ hF⟩
def FinX (P:Program) (gA:Goroutine) (g:Goroutine) (w:World):Prop:=∃ m,Goes P true (fun _ _=>True) DC0 (fun g _=>g=gA) m g w
theorem ydl (H:WgLib X.P L) (hty:X.ty=L.tWg) (g:Goroutine) (w:World) (h:yes L X.G.Wg (b₀.at a₀ (.inRegion ops₀ (i₀ :: rest₀) :: k₀)) cs g w) :
  ∃ m,Goes X.P true X.R0 X.D0 (X.AtW1 (FinX X.P (G (b₀.at (a₀.put ((ops₀[i₀]?).bind (·.dst)) (.tuple #[])) (.inRegion ops₀ rest₀ :: k₀)) cs)) (yes L X.G.Wg (b₀.at a₀ (.inRegion ops₀ (i₀ :: rest₀) :: k₀)) cs)) m g w:=by
 lib_facts
 obtain ⟨T,rfl,hT84,t0,hF⟩:=h;obtain ⟨v0,v1,v2,v3,v4,v5,v6,v7,v8,v9,v10,v11,v12,v13,v14,v15,v16,v17,v18,v19,v20,v21,v22,v23,v24,v25,v26,v27,v28,v29,v30,v31,v32,v33,v34,v35,v36,v37,v38,v39,v40,v41,v42,v43,v44,v45,v46,v47,v48,v49,v50,v51,v52,v53,v54,v55,v56,v57,v58,v59,v60,v61,v62,v63,v64,v65,v66,v67,v68,v69,v70,v71,v72,v73,v74,v75,v76,v77,v78,v79,v80,v81,v82,v83,rfl⟩:=array84 T hT84;simp only [List.getElem?_toArray,List.getElem?_cons_zero,Option.some.injEq] at t0;subst t0;have hR0:X.R0=fun w w₁=>WgLive L.tWg X.G.Wg w->WgLive L.tWg X.G.Wg w₁:=by unfold PH.R0;rw [hty]
 unfold PH.AtW1 PH.AtW2 PH.AtW3 PH.AtW4 PH.AtKe PH.AtAcq;rw [hR0,hty];refine ⟨30,?_⟩;simp only [L7,body_wait,waitFn,Option.getD_some];revert hF;refine gsL rfl (fun _ hF=>?_);rw [stepG_block];simp only [goes_go];refine ⟨⟨rfl,nev⟩,?_⟩;revert hF;refine gsL rfl (fun _ hF=>?_);rw [stepG_seq];simp only [goes_go];refine ⟨⟨rfl,nev⟩,?_⟩;revert hF;refine gsL rfl (fun _ hF=>?_);rw [stepG_region];simp only [goes_go,rz0,Nat.reduceAdd,List.range,List.range.loop];refine ⟨⟨rfl,nev⟩,?_⟩
 iterate 3
  revert hF;refine gsL rfl (fun _ hF=>?_);refine goes_oper_k rfl rfl (by k_ne) (fun Kx hKx=>?_);go_simp
  refine hKx _ _ ⟨?_,?_⟩
  ·refine ⟨rfl,?_⟩
   intro ex hex;have hmx:=mem_listed hex;simp [go_sem, *] at hmx
  clear hKx Kx
  try w_num
 revert hF;refine gsL rfl (fun _ hF=>?_);refine goes_call rfl rfl (by k_ne) rfl H.f_uLoad (nm_uLoad L) rfl ⟨⟨rfl,nev⟩,?_⟩
 walk_nrmf uLoadFn
 revert hF;refine gsL rfl (fun _ hF=>?_);rw [stepG_seq];simp only [goes_go];refine ⟨⟨rfl,nev⟩,?_⟩;revert hF;refine gsL rfl (fun _ hF=>?_);rw [stepG_region];simp only [goes_go,rz0,Nat.reduceAdd,List.range,List.range.loop];refine ⟨⟨rfl,nev⟩,?_⟩;revert hF;refine gsL rfl (fun _ hF=>?_);refine goes_oper_k rfl rfl (by k_ne) (fun Kx hKx=>?_);go_simp
 refine hKx _ _ ⟨?_,?_⟩
 ·refine ⟨rfl,?_⟩
  intro ex hex;have hmx:=mem_listed hex;simp [go_sem, *] at hmx
 clear hKx Kx
 try w_num
 revert hF;refine gsL rfl (fun _ hF=>?_);rw [stepG_region_end];simp only [goes_go];refine ⟨⟨rfl,nev⟩,?_⟩;revert hF;refine gsL rfl (fun _ hF=>?_);rw [stepG_seq];simp only [goes_go];refine ⟨⟨rfl,nev⟩,?_⟩;revert hF;refine gsL rfl (fun _ hF=>?_);rw [stepG_region];simp only [goes_go,rz0,Nat.reduceAdd,List.range,List.range.loop];refine ⟨⟨rfl,nev⟩,?_⟩
 iterate 3
  revert hF;refine gsL rfl (fun _ hF=>?_);refine goes_oper_k rfl rfl (by k_ne) (fun Kx hKx=>?_);go_simp
  refine hKx _ _ ⟨?_,?_⟩
  ·refine ⟨rfl,?_⟩
   intro ex hex;have hmx:=mem_listed hex;simp [go_sem, *] at hmx
  clear hKx Kx
  try w_num
 refine Goes.stop (fun w₁ h₁=>?_);replace hF:=h₁ hF;clear h₁;refine ⟨rfl,fun v hv hw=>?_⟩;rcases Nat.eq_zero_or_pos v with rfl|hvp
 ·
  replace hw:WgAt L.tWg X.G.Wg w₁ 0 0:=by simpa using hw
  refine ⟨_,stepG_load_atomic (v:=0) rfl rfl (by k_ne) rfl H.f_loadU64 (x_loadU64_n L) (x_loadU64_b L) (x_loadU64_x L) .u64 (x_loadU64_f L) rfl hw.cellSt,fun _=>⟨50,?_⟩,fun h=>absurd rfl h⟩;clear hw
  walk_nrm
  revert hF;refine gsL rfl (fun _ hF=>?_);refine goes_oper_k rfl rfl (by k_ne) (fun Kx hKx=>?_);go_simp
  refine hKx _ _ ⟨?_,?_⟩
  ·refine ⟨rfl,?_⟩
   intro ex hex;have hmx:=mem_listed hex;simp [go_sem, *] at hmx
  clear hKx Kx
  try w_num
  revert hF;refine gsL rfl (fun _ hF=>?_);rw [stepG_region_end];simp only [goes_go];refine ⟨⟨rfl,nev⟩,?_⟩;revert hF;refine gsL rfl (fun _ hF=>?_);rw [stepG_ret'];simp only [goes_go];refine ⟨⟨rfl,nev⟩,?_⟩;revert hF;refine gsL rfl (fun _ hF=>?_);refine goes_leave1 rfl rfl H.f_uLoad rfl ⟨⟨rfl,nev⟩,?_⟩
  walk_nrm
  revert hF;refine gsL rfl (fun _ hF=>?_);refine goes_oper_k rfl rfl (by k_ne) (fun Kx hKx=>?_);go_simp
  refine hKx _ _ ⟨?_,?_⟩
  ·refine ⟨rfl,?_⟩
   intro ex hex;have hmx:=mem_listed hex;simp [go_sem, *] at hmx
  clear hKx Kx
  try w_num
  revert hF;refine gsL rfl (fun _ hF=>?_);rw [stepG_region_end];simp only [goes_go];refine ⟨⟨rfl,nev⟩,?_⟩;revert hF;refine gsL rfl (fun _ hF=>?_);rw [stepG_seq];simp only [goes_go];refine ⟨⟨rfl,nev⟩,?_⟩;revert hF;refine gsL rfl (fun _ hF=>?_);rw [stepG_region];simp only [goes_go,rz0,Nat.reduceAdd,List.range,List.range.loop];refine ⟨⟨rfl,nev⟩,?_⟩
  iterate 4
   revert hF;refine gsL rfl (fun _ hF=>?_);refine goes_oper_k rfl rfl (by k_ne) (fun Kx hKx=>?_);go_simp
   refine hKx _ _ ⟨?_,?_⟩
   ·refine ⟨rfl,?_⟩
    intro ex hex;have hmx:=mem_listed hex;simp [go_sem, *] at hmx
   clear hKx Kx
   try w_num
  revert hF;refine gsL rfl (fun _ hF=>?_);rw [stepG_region_end];simp only [goes_go];refine ⟨⟨rfl,nev⟩,?_⟩;revert hF;refine gsL rfl (fun _ hF=>?_);rw [stepG_seq];simp only [goes_go];refine ⟨⟨rfl,nev⟩,?_⟩;revert hF;refine gsL rfl (fun _ hF=>?_);rw [stepG_region];simp only [goes_go,rz0,Nat.reduceAdd,List.range,List.range.loop];refine ⟨⟨rfl,nev⟩,?_⟩
  iterate 4
   revert hF;refine gsL rfl (fun _ hF=>?_);refine goes_oper_k rfl rfl (by k_ne) (fun Kx hKx=>?_);go_simp
   refine hKx _ _ ⟨?_,?_⟩
   ·refine ⟨rfl,?_⟩
    intro ex hex;have hmx:=mem_listed hex;simp [go_sem, *] at hmx
   clear hKx Kx
   try w_num
  revert hF;refine gsL rfl (fun _ hF=>?_);rw [stepG_region_end]
  iterate 2
   simp only [goes_go];refine ⟨⟨rfl,nev⟩,?_⟩;revert hF;refine gsL rfl (fun _ hF=>?_);rw [stepG_seq]
  simp only [goes_go];refine ⟨⟨rfl,nev⟩,?_⟩;revert hF;refine gsL rfl (fun _ hF=>?_);rw [stepG_region];simp only [goes_go,rz0,Nat.reduceAdd,List.range,List.range.loop];refine ⟨⟨rfl,nev⟩,?_⟩
  iterate 2
   revert hF;refine gsL rfl (fun _ hF=>?_);refine goes_oper_k rfl rfl (by k_ne) (fun Kx hKx=>?_);go_simp
   refine hKx _ _ ⟨?_,?_⟩
   ·refine ⟨rfl,?_⟩
    intro ex hex;have hmx:=mem_listed hex;simp [go_sem, *] at hmx
   clear hKx Kx
   try w_num
  revert hF;refine gsL rfl (fun _ hF=>?_);rw [stepG_region_end]
  iterate 2
   simp only [goes_go];refine ⟨⟨rfl,nev⟩,?_⟩;revert hF;refine gsL rfl (fun _ hF=>?_);rw [stepG_cond (t:=true) (by first|rfl|(simp [Act.eval];omega))];simp only [goes_go,if_true,if_false,Bool.false_eq_true,↓reduceIte];refine ⟨⟨rfl,nev⟩,?_⟩;revert hF;refine gsL rfl (fun _ hF=>?_);rw [stepG_seq]
  simp only [goes_go];refine ⟨⟨rfl,nev⟩,?_⟩;revert hF;refine gsL rfl (fun _ hF=>?_);rw [stepG_region];simp only [goes_go,rz0,Nat.reduceAdd,List.range,List.range.loop];refine ⟨⟨rfl,nev⟩,?_⟩;refine Goes.stop (fun w5 h₁=>?_);replace hF:=h₁ hF;clear h₁;refine ⟨rfl,_,stepG_mark0 .enable (by simp) rfl rfl (by k_ne) rfl H.f_enable (x_enable_n L) (x_enable_b L) (x_enable_x L) (x_enable_f L),12,?_⟩
  walk_nrm
  revert hF;refine gsL rfl (fun _ hF=>?_);rw [stepG_region_end];simp only [goes_go];refine ⟨⟨rfl,nev⟩,?_⟩;revert hF;refine gsL rfl (fun _ hF=>?_);rw [stepG_region];simp only [goes_go,rz0,Nat.reduceAdd,List.range,List.range.loop];refine ⟨⟨rfl,nev⟩,?_⟩;revert hF;refine gsL rfl (fun _ hF=>?_);refine goes_oper_k rfl rfl (by k_ne) (fun Kx hKx=>?_);go_simp
  refine hKx _ _ ⟨?_,?_⟩
  ·refine ⟨rfl,?_⟩
   intro ex hex;have hmx:=mem_listed hex;simp [go_sem, *] at hmx
  clear hKx Kx
  try w_num
  revert hF;refine gsL rfl (fun _ hF=>?_);refine goes_oper_k rfl rfl (by k_ne) (fun Kx hKx=>?_);have hcv:=run_convert_to_unsafe (P:=X.P) H.underlying_tWgP H.underlying_tUP H.room_tWg (WgLive.cell0 hF).choose_spec;have hce:=fun es=>events_convert_to_unsafe (P:=X.P) H.underlying_tWgP H.underlying_tUP H.room_tWg (WgLive.cell0 hF).choose_spec es
  go_simp
  refine hKx _ _ ⟨?_,?_⟩
  ·refine ⟨rfl,?_⟩
   intro ex hex;have hmx:=mem_listed hex;simp [go_sem,hce] at hmx
  clear hKx Kx hcv hce;refine Goes.stop (fun w6 h₁=>?_);replace hF:=h₁ hF;clear h₁;refine ⟨rfl,_,stepG_markAt .acquire (by simp) rfl rfl (by k_ne) rfl H.f_acquire (x_acquire_n L) (x_acquire_b L) (x_acquire_x L) (x_acquire_f L) (by simp [Act.eval,stA]),?_⟩;refine ⟨20,?_⟩
  walk_nrm
  refine Goes.step rfl (fun _ _=>?_);rw [stepG_region_end]
  iterate 2
   simp only [goes_go];refine ⟨⟨rfl,rfl⟩,?_⟩;refine Goes.step rfl (fun _ _=>?_);rw [stepG_seq]
  simp only [goes_go];refine ⟨⟨rfl,rfl⟩,?_⟩;refine Goes.step rfl (fun _ _=>?_);rw [stepG_region];simp only [goes_go,rz0,Nat.reduceAdd,List.range,List.range.loop];refine ⟨⟨rfl,rfl⟩,?_⟩
  iterate 8
   refine Goes.step rfl (fun _ _=>?_);refine goes_oper_k rfl rfl (by k_ne) (fun Kx hKx=>?_);go_simp
   refine hKx _ _ ⟨?_,?_⟩
   ·refine ⟨rfl,Array.eq_empty_iff_forall_not_mem.2 ?_⟩
    intro ex hex;have hmx:=mem_listed hex;simp [go_sem, *] at hmx
   clear hKx Kx
   try w_num
  iterate 2
   refine Goes.step rfl (fun _ _=>?_);rw [stepG_unwanted rfl rfl];simp only [goes_go];refine ⟨⟨rfl,rfl⟩,?_⟩
   walk_nrm
  refine Goes.step rfl (fun _ _=>?_);refine goes_oper_k rfl rfl (by k_ne) (fun Kx hKx=>?_);go_simp
  refine hKx _ _ ⟨?_,?_⟩
  ·refine ⟨rfl,Array.eq_empty_iff_forall_not_mem.2 ?_⟩
   intro ex hex;have hmx:=mem_listed hex;simp [go_sem, *] at hmx
  clear hKx Kx
  try w_num
  refine Goes.step rfl (fun _ _=>?_);rw [stepG_region_end];simp only [goes_go];refine ⟨⟨rfl,rfl⟩,?_⟩;refine Goes.step rfl (fun _ _=>?_);rw [stepG_cond (t:=false) (by first|rfl|(simp [Act.eval];omega))];simp only [goes_go,if_true,if_false,Bool.false_eq_true,↓reduceIte];refine ⟨⟨rfl,rfl⟩,?_⟩;refine Goes.step rfl (fun _ _=>?_);rw [stepG_skip];simp only [goes_go];refine ⟨⟨rfl,rfl⟩,?_⟩;refine Goes.step rfl (fun _ _=>?_);rw [stepG_ret'];simp only [goes_go];refine ⟨⟨rfl,rfl⟩,?_⟩;refine Goes.step rfl (fun _ _=>?_);refine goes_leave0 rfl rfl H.f_wait rfl ⟨⟨rfl,rfl⟩,?_⟩
  walk_nrm
  exact Goes.stop fun _ _=>rfl
 ·
  obtain ⟨S,hS⟩:∃ S:Int,(v:Int) * KK=S:=⟨_,rfl⟩
  have a1:S / 4294967296=(v:Int):=by rw [← hS];simp only [KK];omega
  have b1:bits .and .u64 S 2147483648=0:=by rw [← hS];have:=st_flag v 0 (by omega) (by omega);simpa [KK] using this
  have b2:bits .and .u64 S 2147483647=0:=by rw [← hS];have:=st_waiters v 0 (by omega) (by omega);simpa [KK] using this
  have c1:IntKind.i32.wrap (v:Int)=(v:Int):=by rw [IntKind.wrap_i32];omega
  have w1:IntKind.u64.wrap (S+1)=S+1:=by rw [IntKind.wrap_u64,← hS];simp only [KK];omega
  have q3:decide ((v:Int)<0)=false:=zDf (by omega);have q4:decide (0<(v:Int))=true:=zDt (by omega);have q5:((v:Int) == 0)=false:=by simp;omega
  have q6:decide ((v:Int)=0)=false:=zDf (by omega);rw [hS] at hw;refine ⟨_,stepG_load_atomic (v:=S) rfl rfl (by k_ne) rfl H.f_loadU64 (x_loadU64_n L) (x_loadU64_b L) (x_loadU64_x L) .u64 (x_loadU64_f L) rfl hw.cellSt,fun h0=>absurd h0 (by omega),fun _=>⟨60,?_⟩⟩;clear hw
  walk_nrm
  revert hF;refine gsL rfl (fun _ hF=>?_);refine goes_oper_k rfl rfl (by k_ne) (fun Kx hKx=>?_);go_simp
  refine hKx _ _ ⟨?_,?_⟩
  ·refine ⟨rfl,?_⟩
   intro ex hex;have hmx:=mem_listed hex;simp [go_sem, *] at hmx
  clear hKx Kx
  try w_num
  revert hF;refine gsL rfl (fun _ hF=>?_);rw [stepG_region_end];simp only [goes_go];refine ⟨⟨rfl,nev⟩,?_⟩;revert hF;refine gsL rfl (fun _ hF=>?_);rw [stepG_ret'];simp only [goes_go];refine ⟨⟨rfl,nev⟩,?_⟩;revert hF;refine gsL rfl (fun _ hF=>?_);refine goes_leave1 rfl rfl H.f_uLoad rfl ⟨⟨rfl,nev⟩,?_⟩
  walk_nrm
  revert hF;refine gsL rfl (fun _ hF=>?_);refine goes_oper_k rfl rfl (by k_ne) (fun Kx hKx=>?_);go_simp
  refine hKx _ _ ⟨?_,?_⟩
  ·refine ⟨rfl,?_⟩
   intro ex hex;have hmx:=mem_listed hex;simp [go_sem, *] at hmx
  clear hKx Kx
  try w_num
  revert hF;refine gsL rfl (fun _ hF=>?_);rw [stepG_region_end];simp only [goes_go];refine ⟨⟨rfl,nev⟩,?_⟩;revert hF;refine gsL rfl (fun _ hF=>?_);rw [stepG_seq];simp only [goes_go];refine ⟨⟨rfl,nev⟩,?_⟩;revert hF;refine gsL rfl (fun _ hF=>?_);rw [stepG_region];simp only [goes_go,rz0,Nat.reduceAdd,List.range,List.range.loop];refine ⟨⟨rfl,nev⟩,?_⟩
  iterate 4
   revert hF;refine gsL rfl (fun _ hF=>?_);refine goes_oper_k rfl rfl (by k_ne) (fun Kx hKx=>?_);go_simp
   refine hKx _ _ ⟨?_,?_⟩
   ·refine ⟨rfl,?_⟩
    intro ex hex;have hmx:=mem_listed hex;simp [go_sem, *] at hmx
   clear hKx Kx
   try w_num
  revert hF;refine gsL rfl (fun _ hF=>?_);rw [stepG_region_end];simp only [goes_go];refine ⟨⟨rfl,nev⟩,?_⟩;revert hF;refine gsL rfl (fun _ hF=>?_);rw [stepG_seq];simp only [goes_go];refine ⟨⟨rfl,nev⟩,?_⟩;revert hF;refine gsL rfl (fun _ hF=>?_);rw [stepG_region];simp only [goes_go,rz0,Nat.reduceAdd,List.range,List.range.loop];refine ⟨⟨rfl,nev⟩,?_⟩
  iterate 4
   revert hF;refine gsL rfl (fun _ hF=>?_);refine goes_oper_k rfl rfl (by k_ne) (fun Kx hKx=>?_);go_simp
   refine hKx _ _ ⟨?_,?_⟩
   ·refine ⟨rfl,?_⟩
    intro ex hex;have hmx:=mem_listed hex;simp [go_sem, *] at hmx
   clear hKx Kx
   try w_num
  revert hF;refine gsL rfl (fun _ hF=>?_);rw [stepG_region_end]
  iterate 2
   simp only [goes_go];refine ⟨⟨rfl,nev⟩,?_⟩;revert hF;refine gsL rfl (fun _ hF=>?_);rw [stepG_seq]
  simp only [goes_go];refine ⟨⟨rfl,nev⟩,?_⟩;revert hF;refine gsL rfl (fun _ hF=>?_);rw [stepG_region];simp only [goes_go,rz0,Nat.reduceAdd,List.range,List.range.loop];refine ⟨⟨rfl,nev⟩,?_⟩
  iterate 2
   revert hF;refine gsL rfl (fun _ hF=>?_);refine goes_oper_k rfl rfl (by k_ne) (fun Kx hKx=>?_);go_simp
   refine hKx _ _ ⟨?_,?_⟩
   ·refine ⟨rfl,?_⟩
    intro ex hex;have hmx:=mem_listed hex;simp [go_sem, *] at hmx
   clear hKx Kx
   try w_num
  revert hF;refine gsL rfl (fun _ hF=>?_);rw [stepG_region_end];simp only [goes_go];refine ⟨⟨rfl,nev⟩,?_⟩;revert hF;refine gsL rfl (fun _ hF=>?_);rw [stepG_cond (t:=false) (by first|rfl|(simp [Act.eval];omega))];simp only [goes_go,if_true,if_false,Bool.false_eq_true,↓reduceIte];refine ⟨⟨rfl,nev⟩,?_⟩;revert hF;refine gsL rfl (fun _ hF=>?_);rw [stepG_skip];simp only [goes_go];refine ⟨⟨rfl,nev⟩,?_⟩;revert hF;refine gsL rfl (fun _ hF=>?_);rw [stepG_seq];simp only [goes_go];refine ⟨⟨rfl,nev⟩,?_⟩;revert hF;refine gsL rfl (fun _ hF=>?_);rw [stepG_region];simp only [goes_go,rz0,Nat.reduceAdd,List.range,List.range.loop];refine ⟨⟨rfl,nev⟩,?_⟩
  iterate 6
   revert hF;refine gsL rfl (fun _ hF=>?_);refine goes_oper_k rfl rfl (by k_ne) (fun Kx hKx=>?_);go_simp
   refine hKx _ _ ⟨?_,?_⟩
   ·refine ⟨rfl,?_⟩
    intro ex hex;have hmx:=mem_listed hex;simp [go_sem, *] at hmx
   clear hKx Kx
   try w_num
  revert hF;refine gsL rfl (fun _ hF=>?_);refine goes_call rfl rfl (by k_ne) rfl H.f_uCas (nm_uCas L) rfl ⟨⟨rfl,nev⟩,?_⟩
  walk_nrmf uCasFn
  revert hF;refine gsL rfl (fun _ hF=>?_);rw [stepG_seq];simp only [goes_go];refine ⟨⟨rfl,nev⟩,?_⟩;revert hF;refine gsL rfl (fun _ hF=>?_);rw [stepG_region];simp only [goes_go,rz0,Nat.reduceAdd,List.range,List.range.loop];refine ⟨⟨rfl,nev⟩,?_⟩;revert hF;refine gsL rfl (fun _ hF=>?_);refine goes_oper_k rfl rfl (by k_ne) (fun Kx hKx=>?_);go_simp
  refine hKx _ _ ⟨?_,?_⟩
  ·refine ⟨rfl,?_⟩
   intro ex hex;have hmx:=mem_listed hex;simp [go_sem, *] at hmx
  clear hKx Kx
  try w_num
  revert hF;refine gsL rfl (fun _ hF=>?_);rw [stepG_region_end];simp only [goes_go];refine ⟨⟨rfl,nev⟩,?_⟩;revert hF;refine gsL rfl (fun _ hF=>?_);rw [stepG_seq];simp only [goes_go];refine ⟨⟨rfl,nev⟩,?_⟩;revert hF;refine gsL rfl (fun _ hF=>?_);rw [stepG_region];simp only [goes_go,rz0,Nat.reduceAdd,List.range,List.range.loop];refine ⟨⟨rfl,nev⟩,?_⟩
  iterate 5
   revert hF;refine gsL rfl (fun _ hF=>?_);refine goes_oper_k rfl rfl (by k_ne) (fun Kx hKx=>?_);go_simp
   refine hKx _ _ ⟨?_,?_⟩
   ·refine ⟨rfl,?_⟩
    intro ex hex;have hmx:=mem_listed hex;simp [go_sem, *] at hmx
   clear hKx Kx
   try w_num
  refine Goes.stop (fun w2 h₁=>?_);replace hF:=h₁ hF;clear h₁;refine ⟨rfl,fun v' hv' hw=>⟨fun e=>?_,fun e=>?_⟩⟩
  ·
   subst e;rw [hS] at hw ⊢;refine ⟨_,(stepG_cas_hit (v:=S) (n:=S+1) rfl rfl (by k_ne) rfl H.f_casU64 (x_casU64_n L) (x_casU64_b L) (x_casU64_x L) .u64 (x_casU64_f L) rfl rfl rfl hw.cellSt (hw.thaw 0)).trans (by rfl),70,?_⟩;replace hF:WgLive L.tWg X.G.Wg (w2.setCell (stA X.G.Wg) (.int .u64 (S+1))):=⟨_,_,hw.setSt _⟩
   clear hw
   walk_nrm
   revert hF;refine gsL rfl (fun _ hF=>?_);refine goes_oper_k rfl rfl (by k_ne) (fun Kx hKx=>?_);go_simp
   refine hKx _ _ ⟨?_,?_⟩
   ·refine ⟨rfl,?_⟩
    intro ex hex;have hmx:=mem_listed hex;simp [go_sem, *] at hmx
   clear hKx Kx
   try w_num
   revert hF;refine gsL rfl (fun _ hF=>?_);rw [stepG_region_end];simp only [goes_go];refine ⟨⟨rfl,nev⟩,?_⟩;revert hF;refine gsL rfl (fun _ hF=>?_);rw [stepG_ret'];simp only [goes_go];refine ⟨⟨rfl,nev⟩,?_⟩;revert hF;refine gsL rfl (fun _ hF=>?_);refine goes_leave1 rfl rfl H.f_uCas rfl ⟨⟨rfl,nev⟩,?_⟩
   walk_nrm
   revert hF;refine gsL rfl (fun _ hF=>?_);rw [stepG_region_end];simp only [goes_go];refine ⟨⟨rfl,nev⟩,?_⟩;revert hF;refine gsL rfl (fun _ hF=>?_);rw [stepG_cond (t:=true) (by first|rfl|(simp [Act.eval];omega))];simp only [goes_go,if_true,if_false,Bool.false_eq_true,↓reduceIte]
   iterate 2
    refine ⟨⟨rfl,nev⟩,?_⟩;revert hF;refine gsL rfl (fun _ hF=>?_);rw [stepG_seq];simp only [goes_go]
   refine ⟨⟨rfl,nev⟩,?_⟩;revert hF;refine gsL rfl (fun _ hF=>?_);rw [stepG_region];simp only [goes_go,rz0,Nat.reduceAdd,List.range,List.range.loop];refine ⟨⟨rfl,nev⟩,?_⟩
   iterate 4
    revert hF;refine gsL rfl (fun _ hF=>?_);refine goes_oper_k rfl rfl (by k_ne) (fun Kx hKx=>?_);go_simp
    refine hKx _ _ ⟨?_,?_⟩
    ·refine ⟨rfl,?_⟩
     intro ex hex;have hmx:=mem_listed hex;simp [go_sem, *] at hmx
    clear hKx Kx
    try w_num
   revert hF;refine gsL rfl (fun _ hF=>?_);rw [stepG_region_end];simp only [goes_go];refine ⟨⟨rfl,nev⟩,?_⟩;revert hF;refine gsL rfl (fun _ hF=>?_);rw [stepG_cond (t:=true) (by first|rfl|(simp [Act.eval];omega))];simp only [goes_go,if_true,if_false,Bool.false_eq_true,↓reduceIte];refine ⟨⟨rfl,nev⟩,?_⟩;revert hF;refine gsL rfl (fun _ hF=>?_);rw [stepG_region];simp only [goes_go,rz0,Nat.reduceAdd,List.range,List.range.loop];refine ⟨⟨rfl,nev⟩,?_⟩
   iterate 3
    revert hF;refine gsL rfl (fun _ hF=>?_);refine goes_oper_k rfl rfl (by k_ne) (fun Kx hKx=>?_);go_simp
    refine hKx _ _ ⟨?_,?_⟩
    ·refine ⟨rfl,?_⟩
     intro ex hex;have hmx:=mem_listed hex;simp [go_sem, *] at hmx
    clear hKx Kx
    try w_num
   revert hF;refine gsL rfl (fun _ hF=>?_);refine goes_oper_k rfl rfl (by k_ne) (fun Kx hKx=>?_);have hcv:=run_convert_to_unsafe (P:=X.P) H.underlying_tPU32 H.underlying_tUP H.room_tU32 (WgLive.cell1 hF).choose_spec;have hce:=fun es=>events_convert_to_unsafe (P:=X.P) H.underlying_tPU32 H.underlying_tUP H.room_tU32 (WgLive.cell1 hF).choose_spec es
   go_simp
   refine hKx _ _ ⟨?_,?_⟩
   ·refine ⟨rfl,?_⟩
    intro ex hex;have hmx:=mem_listed hex;simp [go_sem,hce] at hmx
   clear hKx Kx hcv hce;revert hF;refine gsL rfl (fun _ hF=>?_);rw [stepG_markAt .write (by simp) rfl rfl (by k_ne) rfl H.f_raceWrite (x_raceWrite_n L) (x_raceWrite_b L) (x_raceWrite_x L) (x_raceWrite_f L) (ad:=⟨_,1,none⟩) (by simp [Act.eval]<;>rfl)];simp only [goes_go];refine ⟨⟨rfl,fun ex hex=>?_⟩,?_⟩
   ·rw [Array.mem_singleton] at hex
    subst hex;exact y7i _ rfl
   revert hF;refine gsL rfl (fun _ hF=>?_);rw [stepG_region_end];simp only [goes_go];refine ⟨⟨rfl,nev⟩,?_⟩;revert hF;refine gsL rfl (fun _ hF=>?_);rw [stepG_seq];simp only [goes_go];refine ⟨⟨rfl,nev⟩,?_⟩;revert hF;refine gsL rfl (fun _ hF=>?_);rw [stepG_region];simp only [goes_go,rz0,Nat.reduceAdd,List.range,List.range.loop];refine ⟨⟨rfl,nev⟩,?_⟩;revert hF;refine gsL rfl (fun _ hF=>?_);refine goes_oper_k rfl rfl (by k_ne) (fun Kx hKx=>?_);go_simp
   refine hKx _ _ ⟨?_,?_⟩
   ·refine ⟨rfl,?_⟩
    intro ex hex;have hmx:=mem_listed hex;simp [go_sem, *] at hmx
   clear hKx Kx
   try w_num
   revert hF;refine gsL rfl (fun _ hF=>?_);rw [stepG_region_end]
   iterate 2
    simp only [goes_go];refine ⟨⟨rfl,nev⟩,?_⟩;revert hF;refine gsL rfl (fun _ hF=>?_);rw [stepG_seq]
   simp only [goes_go];refine ⟨⟨rfl,nev⟩,?_⟩;revert hF;refine gsL rfl (fun _ hF=>?_);rw [stepG_region];simp only [goes_go,rz0,Nat.reduceAdd,List.range,List.range.loop];refine ⟨⟨rfl,nev⟩,?_⟩
   iterate 4
    revert hF;refine gsL rfl (fun _ hF=>?_);refine goes_oper_k rfl rfl (by k_ne) (fun Kx hKx=>?_);go_simp
    refine hKx _ _ ⟨?_,?_⟩
    ·refine ⟨rfl,?_⟩
     intro ex hex;have hmx:=mem_listed hex;simp [go_sem, *] at hmx
    clear hKx Kx
    try w_num
   revert hF;refine gsL rfl (fun _ hF=>?_);rw [stepG_unwanted rfl rfl];simp only [goes_go];refine ⟨⟨rfl,nev⟩,?_⟩
   walk_nrm
   revert hF;refine gsL rfl (fun _ hF=>?_);refine goes_oper_k rfl rfl (by k_ne) (fun Kx hKx=>?_);go_simp
   refine hKx _ _ ⟨?_,?_⟩
   ·refine ⟨rfl,?_⟩
    intro ex hex;have hmx:=mem_listed hex;simp [go_sem, *] at hmx
   clear hKx Kx
   try w_num
   revert hF;refine gsL rfl (fun _ hF=>?_);rw [stepG_region_end];simp only [goes_go];refine ⟨⟨rfl,nev⟩,?_⟩;revert hF;refine gsL rfl (fun _ hF=>?_);rw [stepG_cond (t:=false) (by first|rfl|(simp [Act.eval];omega))];simp only [goes_go,if_true,if_false,Bool.false_eq_true,↓reduceIte];refine ⟨⟨rfl,nev⟩,?_⟩;revert hF;refine gsL rfl (fun _ hF=>?_);rw [stepG_skip];simp only [goes_go];refine ⟨⟨rfl,nev⟩,?_⟩;revert hF;refine gsL rfl (fun _ hF=>?_);rw [stepG_seq];simp only [goes_go];refine ⟨⟨rfl,nev⟩,?_⟩;revert hF;refine gsL rfl (fun _ hF=>?_);rw [stepG_region];simp only [goes_go,rz0,Nat.reduceAdd,List.range,List.range.loop];refine ⟨⟨rfl,nev⟩,?_⟩
   iterate 4
    revert hF;refine gsL rfl (fun _ hF=>?_);refine goes_oper_k rfl rfl (by k_ne) (fun Kx hKx=>?_);go_simp
    refine hKx _ _ ⟨?_,?_⟩
    ·refine ⟨rfl,?_⟩
     intro ex hex;have hmx:=mem_listed hex;simp [go_sem, *] at hmx
    clear hKx Kx
    try w_num
   refine Goes.stop (fun w3 h₁=>?_);replace hF:=h₁ hF;clear h₁;refine ⟨rfl,rfl,fun ⟨st,hw⟩=>stepG_semacquire_wait rfl rfl rfl H.f_semacquire (x_semacquire_n L) (x_semacquire_b L) (x_semacquire_x L) (x_semacquire_f L) (by simp [Act.eval,smA]) hw.cellSm,fun hf=>?_⟩;refine ⟨_,(stepG_semacquire (n:=1) rfl rfl (by k_ne) rfl H.f_semacquire (x_semacquire_n L) (x_semacquire_b L) (x_semacquire_x L) (x_semacquire_f L) (by simp [Act.eval,smA]) hf.cellSm (by k_ne) (hf.thaw 1)).trans (by rfl),30,?_⟩;replace hF:WgLive L.tWg X.G.Wg (w3.setCell (smA X.G.Wg) (.int .u32 0)):=⟨_,_,hf.setSm 0⟩
   clear hf
   walk_nrm
   revert hF;refine gsL rfl (fun _ hF=>?_);rw [stepG_region_end];simp only [goes_go];refine ⟨⟨rfl,nev⟩,?_⟩;revert hF;refine gsL rfl (fun _ hF=>?_);rw [stepG_seq];simp only [goes_go];refine ⟨⟨rfl,nev⟩,?_⟩;revert hF;refine gsL rfl (fun _ hF=>?_);rw [stepG_region];simp only [goes_go,rz0,Nat.reduceAdd,List.range,List.range.loop];refine ⟨⟨rfl,nev⟩,?_⟩
   iterate 3
    revert hF;refine gsL rfl (fun _ hF=>?_);refine goes_oper_k rfl rfl (by k_ne) (fun Kx hKx=>?_);go_simp
    refine hKx _ _ ⟨?_,?_⟩
    ·refine ⟨rfl,?_⟩
     intro ex hex;have hmx:=mem_listed hex;simp [go_sem, *] at hmx
    clear hKx Kx
    try w_num
   revert hF;refine gsL rfl (fun _ hF=>?_);refine goes_call rfl rfl (by k_ne) rfl H.f_uLoad (nm_uLoad L) rfl ⟨⟨rfl,nev⟩,?_⟩
   walk_nrmf uLoadFn
   revert hF;refine gsL rfl (fun _ hF=>?_);rw [stepG_seq];simp only [goes_go];refine ⟨⟨rfl,nev⟩,?_⟩;revert hF;refine gsL rfl (fun _ hF=>?_);rw [stepG_region];simp only [goes_go,rz0,Nat.reduceAdd,List.range,List.range.loop];refine ⟨⟨rfl,nev⟩,?_⟩;revert hF;refine gsL rfl (fun _ hF=>?_);refine goes_oper_k rfl rfl (by k_ne) (fun Kx hKx=>?_);go_simp
   refine hKx _ _ ⟨?_,?_⟩
   ·refine ⟨rfl,?_⟩
    intro ex hex;have hmx:=mem_listed hex;simp [go_sem, *] at hmx
   clear hKx Kx
   try w_num
   revert hF;refine gsL rfl (fun _ hF=>?_);rw [stepG_region_end];simp only [goes_go];refine ⟨⟨rfl,nev⟩,?_⟩;revert hF;refine gsL rfl (fun _ hF=>?_);rw [stepG_seq];simp only [goes_go];refine ⟨⟨rfl,nev⟩,?_⟩;revert hF;refine gsL rfl (fun _ hF=>?_);rw [stepG_region];simp only [goes_go,rz0,Nat.reduceAdd,List.range,List.range.loop];refine ⟨⟨rfl,nev⟩,?_⟩
   iterate 3
    revert hF;refine gsL rfl (fun _ hF=>?_);refine goes_oper_k rfl rfl (by k_ne) (fun Kx hKx=>?_);go_simp
    refine hKx _ _ ⟨?_,?_⟩
    ·refine ⟨rfl,?_⟩
     intro ex hex;have hmx:=mem_listed hex;simp [go_sem, *] at hmx
    clear hKx Kx
    try w_num
   refine Goes.stop (fun w4 h₁=>?_);replace hF:=h₁ hF;clear h₁;refine ⟨rfl,fun hw=>⟨_,stepG_load_atomic (v:=0) rfl rfl (by k_ne) rfl H.f_loadU64 (x_loadU64_n L) (x_loadU64_b L) (x_loadU64_x L) .u64 (x_loadU64_f L) rfl hw.cellSt,30,?_⟩⟩;clear hw
   walk_nrm
   revert hF;refine gsL rfl (fun _ hF=>?_);refine goes_oper_k rfl rfl (by k_ne) (fun Kx hKx=>?_);go_simp
   refine hKx _ _ ⟨?_,?_⟩
   ·refine ⟨rfl,?_⟩
    intro ex hex;have hmx:=mem_listed hex;simp [go_sem, *] at hmx
   clear hKx Kx
   try w_num
   revert hF;refine gsL rfl (fun _ hF=>?_);rw [stepG_region_end];simp only [goes_go];refine ⟨⟨rfl,nev⟩,?_⟩;revert hF;refine gsL rfl (fun _ hF=>?_);rw [stepG_ret'];simp only [goes_go];refine ⟨⟨rfl,nev⟩,?_⟩;revert hF;refine gsL rfl (fun _ hF=>?_);refine goes_leave1 rfl rfl H.f_uLoad rfl ⟨⟨rfl,nev⟩,?_⟩
   walk_nrm
   iterate 2
    revert hF;refine gsL rfl (fun _ hF=>?_);refine goes_oper_k rfl rfl (by k_ne) (fun Kx hKx=>?_);go_simp
    refine hKx _ _ ⟨?_,?_⟩
    ·refine ⟨rfl,?_⟩
     intro ex hex;have hmx:=mem_listed hex;simp [go_sem, *] at hmx
    clear hKx Kx
    try w_num
   revert hF;refine gsL rfl (fun _ hF=>?_);rw [stepG_region_end];simp only [goes_go];refine ⟨⟨rfl,nev⟩,?_⟩;revert hF;refine gsL rfl (fun _ hF=>?_);rw [stepG_seq];simp only [goes_go];refine ⟨⟨rfl,nev⟩,?_⟩;revert hF;refine gsL rfl (fun _ hF=>?_);rw [stepG_cond (t:=true) (by first|rfl|(simp [Act.eval];omega))];simp only [goes_go,if_true,if_false,Bool.false_eq_true,↓reduceIte];refine ⟨⟨rfl,nev⟩,?_⟩;revert hF;refine gsL rfl (fun _ hF=>?_);rw [stepG_seq];simp only [goes_go];refine ⟨⟨rfl,nev⟩,?_⟩;revert hF;refine gsL rfl (fun _ hF=>?_);rw [stepG_region];simp only [goes_go,rz0,Nat.reduceAdd,List.range,List.range.loop];refine ⟨⟨rfl,nev⟩,?_⟩;refine Goes.stop (fun w5 h₁=>?_);replace hF:=h₁ hF;clear h₁;refine ⟨rfl,_,stepG_mark0 .enable (by simp) rfl rfl (by k_ne) rfl H.f_enable (x_enable_n L) (x_enable_b L) (x_enable_x L) (x_enable_f L),12,?_⟩
   walk_nrm
   revert hF;refine gsL rfl (fun _ hF=>?_);rw [stepG_region_end];simp only [goes_go];refine ⟨⟨rfl,nev⟩,?_⟩;revert hF;refine gsL rfl (fun _ hF=>?_);rw [stepG_region];simp only [goes_go,rz0,Nat.reduceAdd,List.range,List.range.loop];refine ⟨⟨rfl,nev⟩,?_⟩;revert hF;refine gsL rfl (fun _ hF=>?_);refine goes_oper_k rfl rfl (by k_ne) (fun Kx hKx=>?_);go_simp
   refine hKx _ _ ⟨?_,?_⟩
   ·refine ⟨rfl,?_⟩
    intro ex hex;have hmx:=mem_listed hex;simp [go_sem, *] at hmx
   clear hKx Kx
   try w_num
   revert hF;refine gsL rfl (fun _ hF=>?_);refine goes_oper_k rfl rfl (by k_ne) (fun Kx hKx=>?_);have hcv:=run_convert_to_unsafe (P:=X.P) H.underlying_tWgP H.underlying_tUP H.room_tWg (WgLive.cell0 hF).choose_spec;have hce:=fun es=>events_convert_to_unsafe (P:=X.P) H.underlying_tWgP H.underlying_tUP H.room_tWg (WgLive.cell0 hF).choose_spec es
   go_simp
   refine hKx _ _ ⟨?_,?_⟩
   ·refine ⟨rfl,?_⟩
    intro ex hex;have hmx:=mem_listed hex;simp [go_sem,hce] at hmx
   clear hKx Kx hcv hce;refine Goes.stop (fun w6 h₁=>?_);replace hF:=h₁ hF;clear h₁;refine ⟨rfl,_,stepG_markAt .acquire (by simp) rfl rfl (by k_ne) rfl H.f_acquire (x_acquire_n L) (x_acquire_b L) (x_acquire_x L) (x_acquire_f L) (by simp [Act.eval,stA]),?_⟩;refine ⟨20,?_⟩
   walk_nrm
   refine Goes.step rfl (fun _ _=>?_);rw [stepG_region_end]
   iterate 2
    simp only [goes_go];refine ⟨⟨rfl,rfl⟩,?_⟩;refine Goes.step rfl (fun _ _=>?_);rw [stepG_seq]
   simp only [goes_go];refine ⟨⟨rfl,rfl⟩,?_⟩;refine Goes.step rfl (fun _ _=>?_);rw [stepG_region];simp only [goes_go,rz0,Nat.reduceAdd,List.range,List.range.loop];refine ⟨⟨rfl,rfl⟩,?_⟩;refine Goes.step rfl (fun _ _=>?_);refine goes_oper_k rfl rfl (by k_ne) (fun Kx hKx=>?_);go_simp
   refine hKx _ _ ⟨?_,?_⟩
   ·refine ⟨rfl,Array.eq_empty_iff_forall_not_mem.2 ?_⟩
    intro ex hex;have hmx:=mem_listed hex;simp [go_sem, *] at hmx
   clear hKx Kx
   try w_num
   refine Goes.step rfl (fun _ _=>?_);rw [stepG_region_end];simp only [goes_go];refine ⟨⟨rfl,rfl⟩,?_⟩;refine Goes.step rfl (fun _ _=>?_);rw [stepG_cond (t:=false) (by first|rfl|(simp [Act.eval];omega))];simp only [goes_go,if_true,if_false,Bool.false_eq_true,↓reduceIte];refine ⟨⟨rfl,rfl⟩,?_⟩;refine Goes.step rfl (fun _ _=>?_);rw [stepG_skip];simp only [goes_go];refine ⟨⟨rfl,rfl⟩,?_⟩;refine Goes.step rfl (fun _ _=>?_);rw [stepG_ret'];simp only [goes_go];refine ⟨⟨rfl,rfl⟩,?_⟩;refine Goes.step rfl (fun _ _=>?_);refine goes_leave0 rfl rfl H.f_wait rfl ⟨⟨rfl,rfl⟩,?_⟩
   walk_nrm
   exact Goes.stop fun _ _=>rfl
  ·
   refine ⟨_,stepG_cas_miss (v:=(v':Int) * KK) (old:=S) (n:=S+1) rfl rfl (by k_ne) rfl H.f_casU64 (x_casU64_n L) (x_casU64_b L) (x_casU64_x L) .u64 (x_casU64_f L) rfl rfl rfl hw.cellSt (hw.thaw 0) (by rw [← hS];simp only [KK];omega),20,?_⟩;clear hw
   walk_nrm
   revert hF;refine gsL rfl (fun _ hF=>?_);refine goes_oper_k rfl rfl (by k_ne) (fun Kx hKx=>?_);go_simp
   refine hKx _ _ ⟨?_,?_⟩
   ·refine ⟨rfl,?_⟩
    intro ex hex;have hmx:=mem_listed hex;simp [go_sem, *] at hmx
   clear hKx Kx
   try w_num
   revert hF;refine gsL rfl (fun _ hF=>?_);rw [stepG_region_end];simp only [goes_go];refine ⟨⟨rfl,nev⟩,?_⟩;revert hF;refine gsL rfl (fun _ hF=>?_);rw [stepG_ret'];simp only [goes_go];refine ⟨⟨rfl,nev⟩,?_⟩;revert hF;refine gsL rfl (fun _ hF=>?_);refine goes_leave1 rfl rfl H.f_uCas rfl ⟨⟨rfl,nev⟩,?_⟩
   walk_nrm
   revert hF;refine gsL rfl (fun _ hF=>?_);rw [stepG_region_end];simp only [goes_go];refine ⟨⟨rfl,nev⟩,?_⟩;revert hF;refine gsL rfl (fun _ hF=>?_);rw [stepG_cond (t:=false) (by first|rfl|(simp [Act.eval];omega))];simp only [goes_go,if_true,if_false,Bool.false_eq_true,↓reduceIte];refine ⟨⟨rfl,nev⟩,?_⟩;revert hF;refine gsL rfl (fun _ hF=>?_);rw [stepG_skip];simp only [goes_go];refine ⟨⟨rfl,nev⟩,?_⟩;revert hF;refine gsL rfl (fun _ hF=>?_);rw [stepG_inBlock];simp only [goes_go];refine ⟨⟨rfl,nev⟩,?_⟩;revert hF;refine gsL rfl (fun _ hF=>?_);rw [stepG_inLoop];simp only [goes_go];refine ⟨⟨rfl,nev⟩,?_⟩;refine Goes.stop (fun w7 h₁=>?_);replace hF:=h₁ hF;clear h₁;exact ⟨_,rfl,by simp,by simp,hF⟩
end
end Go.Mt
namespace Go.Mt
open Go.Tr Go.Conc Go.ConcN Go.Proofs Go.RowKit Go.Conc.Lib Go.ConcR.Gen Go.ConcN.Gen
open Go.ConcR (KK wgBlock WgAt stA smA rd wr Payload DC0)
theorem y9m {main:Bool} {b:Frame} {a:Act} {k:List Item} {cs:List Frame} {w:World} {ops:Array Oper} {i p:Nat} {rest:List Nat} {o:Oper} {f:Fn} {caps:Array Value} (ho:ops[i]?=some o) (hg:o.guard=none) (hk:b.kind≠.early) (hd:o.dst=none)
  (hop:o.op=.go { callee:=.value (.tmp p),args:=#[],argTypes:=#[] }) (hx:a.tmps[p]?=some (.func f #[] caps)) :
  stepG Try.prog main (G (b.at a (.inRegion ops (i :: rest) :: k)) cs) w=.spawn (G (b.at a (.inRegion ops rest :: k)) cs) (born Try.prog { target:=.fn f caps,args:=#[] }) w #[]:=by
 rw [stepG_spawn (d:={ target:=.fn f caps,args:=#[] }) (w':=w) (f:=f) (c:=caps) ho (y1e hg _ _) hk (by unfold execOp;simp [hop,go_sem,hx,Deferred.ofValue]) rfl,hd];have e:listed Try.prog b.fn a o w=#[]:=by
  have he:(execOp a.eval o).events Try.prog w #[]=#[]:=by
   unfold execOp;simp [hop,go_sem,hx,Deferred.ofValue]
  unfold listed;rw [he,seen_none]
 rw [e];rfl
def XG (n0:Nat) (Sh:Loc->Prop) (ro:Nat->Nat->Nat->Prop) (S M:Nat):PG:={ n0,Sh0:=Sh,Vis:=fun b=>b=S∨b=S+1∨b=M+1∨∃ a s,ro a b s,c:=M,hi:=M+2,Wg:=M+3,N0:=M+4 }
abbrev XK (ro:Nat->Nat->Nat->Prop) (M:Nat):Cfg:=KR (M+4) ro
noncomputable def XH (n0:Nat) (Sh:Loc->Prop) (ro:Nat->Nat->Nat->Prop) (S:Nat) (w1:World) (Post0 Post1:Value->World->Prop):PH where
 G:=XG n0 Sh ro S w1.heap.size
 P:=Try.prog
 ty:=60
 W0:=wD w1
 Post:=fun i=>if i=0 then Got0 (XG n0 Sh ro S w1.heap.size) (XK ro w1.heap.size) Post0 else if i=1 then Got1 (XG n0 Sh ro S w1.heap.size) (XK ro w1.heap.size) Post1 else fun _ _=>True
structure AtC (n0:Nat) (Sh:Loc->Prop) (ro:Nat->Nat->Nat->Prop) (bl:List Obj) (S:Nat) (va vb:Value) (w1:World):Prop where
 n1:1≤n0
 mem:∀ l:Loc,l.isMemory=false->Sh l
 shB:∀ l b,Sh l->inB b l->b<S
 lent:∀ a b s,ro a b s->b<S∧(∀ l,inB b l->¬ Sh l)∧∃ c c' e e' fr',bl[a]?=some (.cells c e (0,c.size))∧(0<c.size->w1.heap[b]?=some (.cells c' e' fr'))∧∀ K L,RelSh K L s c c'
 two:bl.length=2
 S3:S+3≤w1.heap.size
 ca:w1.heap[S]?=some (.cells #[va] 29 (0,0))
 cb:w1.heap[S+1]?=some (.cells #[vb] 29 (0,0))
section
variable {n0 S:Nat} {Sh:Loc->Prop} {ro:Nat->Nat->Nat->Prop} {bl:List Obj} {va vb xa xb:Value} {w1:World} {Post0 Post1:Value->World->Prop}
theorem AtC.ok (h:AtC n0 Sh ro bl S va vb w1):(XG n0 Sh ro S w1.heap.size).Ok:=by
 have hnew:∀ b l,S≤b->inB b l->¬ Sh l:=fun b l hb hl hs=>by have:=h.shB l b hs hl;omega
 have h3:=h.S3;refine ⟨h.n1,fun b hb=>?_,by simp only [XG];omega,by simp only [XG];omega,by simp only [XG];omega,by simp only [XG];omega,by simp only [XG];omega,by simp only [XG];omega,fun l b hs hl=>?_,h.mem⟩
 ·simp only [XG] at hb ⊢
  rcases hb with rfl|rfl|rfl|⟨a,s,hb⟩
  ·exact ⟨by omega,by omega,by omega,by omega,fun l hl=>hnew _ l (by omega) hl⟩
  ·exact ⟨by omega,by omega,by omega,by omega,fun l hl=>hnew _ l (by omega) hl⟩
  ·exact ⟨by omega,by omega,by omega,by omega,fun l hl=>hnew _ l (by omega) hl⟩
  ·obtain ⟨h1,h2,_⟩:=h.lent a b s hb
   exact ⟨by omega,by omega,by omega,by omega,h2⟩
 ·have:=h.shB l b hs hl
  simp only [XG];omega
theorem AtC.okH (h:AtC n0 Sh ro bl S va vb w1):(XH n0 Sh ro S w1 Post0 Post1).Ok:=by
 have hR:∀ b,(XK ro w1.heap.size).Rd b->(XH n0 Sh ro S w1 Post0 Post1).G.Vis b:=fun b hb=>hb.elim
 have hO:∀ a b s,(XK ro w1.heap.size).ro a b s->(XH n0 Sh ro S w1 Post0 Post1).G.Vis b:=fun a b s hb=>.inr (.inr (.inr ⟨a,s,hb⟩))
 refine ⟨h.ok,fun i L w w₁ hp r=>?_⟩
 match i,hp,r with
 |0,hp,r=>exact Got0.rely rfl hO hR hp r
 |1,hp,r=>exact Got1.rely rfl hO hR hp r
 |k+2,hp,r=>trivial
theorem AtC.told {P:Program} {S' T:FuncId->Bool} {kdOf:FuncId->y17} (h:AtC n0 Sh ro bl S va vb w1) (hPF:wf P Try.prog.funcs=Try.prog) (hC:y34 P Try.prog.funcs S' T kdOf) (hST:∀ f,T f=true->S' f=true)
  (harg:RelPs (XK ro w1.heap.size) [] #[xa,xb] #[va,vb]):Told (XH n0 Sh ro S w1 Post0 Post1) (XK ro w1.heap.size) P S' T kdOf S (S+1) va vb xa xb (y5j (wD w1) (w1.heap.size+4) bl) (wD w1):=by
 have h3:=h.S3;have h2:=h.two;refine ⟨rfl,rfl,hPF,h.ok,hC,hST,rfl,fun a b s hb=>.inr (.inr (.inr ⟨a,s,hb⟩)),rfl,fun b hb=>hb.elim,fun b hb=>hb,by rw [y8b];exact zLe _,.inl rfl,.inr (.inl rfl),?_,?_,harg,fun i w hB=>?_⟩
 ·exact y3r (by rw [yci w1 S (by omega)];exact h.ca)
 ·exact y3r (by rw [yci w1 (S+1) (by omega)];exact h.cb)
 ·have hz:=hB.size
  rw [y8b] at hz;refine yeu (w0:=wD w1) hB.os hB.output hz (by omega) fun a b s hr=>?_
  obtain ⟨h1,_,c,c',e,e',fr',h4,h5,h6⟩:=h.lent a b s hr;exact ⟨by omega,c,c',e,e',fr',h4,fun hp=>(hB.kept b (.inl (.inr (.inr (.inr ⟨a,s,hr⟩))))).trans ((yci w1 b (by omega)).trans (h5 hp)),h6 _ _⟩
end
theorem y5v {X:PH} {Stop:Goroutine->World->Prop} {m:Nat} {g g':Goroutine} {w:World} (hr:g.status=.running) (h:∀ w,stepG X.P true g w=.go g' w #[]) (hF:WgLive X.ty X.G.Wg w) (hn:∀ w,WgLive X.ty X.G.Wg w->Goes X.P true X.R0 X.D0 Stop m g' w):Goes X.P true X.R0 X.D0 Stop (m+1) g w :=
 Goes.step hr fun w₁ h₁=>by
  rw [h w₁];exact ⟨⟨rfl,by simp⟩,hn w₁ (h₁ hF)⟩
theorem gr_mk {X:PH} (hX:X.P=Try.prog) {Stop:Goroutine->World->Prop} {m:Nat} {w:World} {b:Frame} {a:Act} {k:List Item} {cs:List Frame} {ops:Array Oper} {i p q r s:Nat} {rest:List Nat} {o:Oper} {f:FuncId} (ho:ops[i]?=some o) (hg:o.guard=none) (hk:b.kind≠.early)
  (hop:o.op=.makeFunc (.func f) #[] #[.tmp p,.tmp q,.tmp r,.tmp s]) {x y z u:Value} (h1:a.tmps[p]?=some x) (h2:a.tmps[q]?=some y) (h3:a.tmps[r]?=some z) (h4:a.tmps[s]?=some u) (hF:WgLive X.ty X.G.Wg w)
  (hn:∀ w,WgLive X.ty X.G.Wg w->Goes X.P true X.R0 X.D0 Stop m (G (b.at (a.put o.dst (.func (.func f) #[] #[x,y,z,u])) (.inRegion ops rest :: k)) cs) w):Goes X.P true X.R0 X.D0 Stop (m+1) (G (b.at a (.inRegion ops (i :: rest) :: k)) cs) w:=by
 refine y5v rfl (fun w=>?_) hF hn;have hr:(execOp a.eval o).run X.P w=.ok (.value (.func (.func f) #[] #[x,y,z,u])) w:=by
  unfold execOp;simp [hop,Act.eval,h1,h2,h3,h4];rfl
 have he:(execOp a.eval o).events X.P w #[]=#[]:=by
  unfold execOp;simp [hop,Act.eval,h1,h2,h3,h4];rfl
 rw [stepG_value ho (y1e hg _ _) hk hr];unfold listed;rw [he,seen_none]
theorem gr_call {X:PH} (hX:X.P=Try.prog) {Stop:Goroutine->World->Prop} {m:Nat} {w:World} {b:Frame} {a:Act} {k:List Item} {cs:List Frame} {ops:Array Oper} {i:Nat} {rest:List Nat} {o:Oper} {f:FuncId} {fn:Func} {cd:Code} {args:Array Operand} {ats:Array TypeId} (ho:ops[i]?=some o) (hg:o.guard=none) (hk:b.kind≠.early)
  (hop:o.op=.call { callee:=.value (.func f),args,argTypes:=ats }) (hf:Try.prog.funcs[f]?=some fn) (hnm:(fn.name == "runtime.NumGoroutine")=false) (hb:fn.body=some cd) (hF:WgLive X.ty X.G.Wg w) {vs:Array Value} {fr:Frame} (hvs:args.map a.eval=vs) (hfr:Frame.enter Try.prog f vs .normal=fr)
  (hn:∀ w,WgLive X.ty X.G.Wg w->Goes X.P true X.R0 X.D0 Stop m (G fr (b.at a (.inRegion ops (i :: rest) :: k) :: cs)) w):Goes X.P true X.R0 X.D0 Stop (m+1) (G (b.at a (.inRegion ops (i :: rest) :: k)) cs) w:=by
 refine y5v rfl (fun w=>?_) hF hn;have hb':fn.body.isNone=false:=by rw [hb];rfl
 rw [hX,stepG_enter ho (y1e hg _ _) hk (run_call_body hop hf hnm hb'),hvs,hfr];unfold listed;rw [events_call_body hop hf hnm hb',seen_none]
def TE (va vb:Value) (S M:Nat):Array Value:=#[va,vb,ptr S,ptr (S+1),.slice none 0 0,.slice none 0 0,.int .i64 0,.int .i64 0,ptr (M+1),ptr (M+2),ptr (M+3),va,vb,.slice (some ⟨S+2,0,none⟩) 2 2,.int .i64 0,.int .i64 0,.bool false,undef,.chan (some M),.tuple #[],.func (.func 22) #[] #[ptr (M+3),ptr (M+1),ptr S,ptr (S+1)],.func (.func 25) #[] #[ptr (M+3),ptr S,ptr (S+1),ptr (M+2)],undef,undef,undef,undef]
section
variable {n0 S:Nat} {Sh:Loc->Prop} {ro:Nat->Nat->Nat->Prop} {bl:List Obj} {va vb xa xb:Value} {w1:World} {Post0 Post1:Value->World->Prop} {P:Program} {S' T:FuncId->Bool} {kdOf:FuncId->y17} {c:Frame} {cs:List Frame}
noncomputable abbrev frW (va vb:Value) (S M:Nat):Frame:=b34.at ⟨TE va vb S M,[]⟩ [.inRegion (r34 10) [0],.code c11]
theorem meetGo (h:AtC n0 Sh ro bl S va vb w1) (hPF:wf P Try.prog.funcs=Try.prog) (hC:y34 P Try.prog.funcs S' T kdOf) (hST:∀ f,T f=true->S' f=true)
  (harg:RelPs (XK ro w1.heap.size) [] #[xa,xb] #[va,vb]) (hS63:S' 24=true) (hS65:S' 26=true) (hP0:∀ v u τ,Post0 v u->Post0 v (retape u τ)) (hP1:∀ v u τ,Post1 v u->Post1 v (retape u τ)) (hsl:∀ v u,Post1 v u->∃ s n c,v=.slice s n c)
  (h63:∀ τ,Calls P 24 #[xa,xb] (retape (y5j (wD w1) (w1.heap.size+4) bl) τ) fun e u'=>∃ v,e=.returned v∧Post0 v u') (h65:∀ τ,Calls P 26 #[xa,xb] (retape (y5j (wD w1) (w1.heap.size+4) bl) τ) fun e u'=>∃ v,e=.returned v∧Post1 v u') (d0:Nat) :
  AtGo1 (XH n0 Sh ro S w1 Post0 Post1) (yes Try.link (w1.heap.size+3) (frW va vb S w1.heap.size) (c :: cs)) (G (b34.at ⟨TD va vb S w1.heap.size,[]⟩ [.inRegion (r34 8) [1],.code c9]) (c :: cs)) ((wD w1).at d0):=by
 have hT:=AtC.told (Post0:=Post0) (Post1:=Post1) h hPF hC hST harg;have h3:=h.S3;have hlive:∀ d,WgLive 60 (w1.heap.size+3) ((wD w1).at d):=fun d=>⟨_,_,wD_at w1⟩
 refine ⟨rfl,fun d=>?_⟩;rw [y99];obtain ⟨o,ho,hd,hop,hg⟩:=o34_8_1;refine ⟨_,_,y9m ho hg (by decide) hd hop rfl,?_,?_⟩
 ·
  have hB:Base (XH n0 Sh ro S w1 Post0 Post1) 0 (wD w1) [] ((wD w1).at d):=⟨rfl,rfl,zLe _,hlive d,fun _ _=>rfl,by simp⟩
  exact worker0 hT rfl (s:=0) (r:=0) (by show (wD w1).heap[w1.heap.size]?=_;rw [y9f w1 _ (by omega),y9g,if_neg (by omega),if_neg (by omega),if_pos rfl]) (lo:=w1.heap.size+1) (.inr (.inr (.inl rfl)))
   (y3r (by rw [y9f w1 _ (by omega),y9g,if_neg (by omega),if_pos rfl];rfl)) hS63 hP0 h63 hB
 ·
  refine ⟨5,?_⟩;refine y5v rfl (fun _=>stepG_region_end) (hlive d) fun w hF=>?_
  refine y5v rfl (fun _=>stepG_seq) hF fun w hF=>?_
  refine y5v rfl (fun _=>stepG_region) hF fun w hF=>?_
  rw [s34_9];simp only [List.range,List.range.loop];obtain ⟨o,ho,hd,hop,hg⟩:=o34_9_0;refine gr_mk rfl ho hg (by decide) hop rfl rfl rfl rfl hF fun w hF=>?_
  rw [hd];clear ho hd hop hg o;unfold TD
  walk_nrm
  refine Goes.stop fun w h₁=>?_
  replace hF:=h₁ hF;clear h₁;obtain ⟨o,ho,hd,hop,hg⟩:=o34_9_1;refine ⟨rfl,_,_,y9m ho hg (by decide) hd hop rfl,fun hs hh hl=>?_,?_⟩
  ·have hB:Base (XH n0 Sh ro S w1 Post0 Post1) 1 (wD w1) [] w:=by
    refine ⟨hs.os,hs.output,?_,hl,fun b hb=>?_,by simp⟩
    ·have:=hs.size
     rw [y8b];exact this
    ·rcases hb with hb|⟨h0,_⟩|⟨_,rfl⟩
     ·obtain ⟨v1,v2,v3,v4,_⟩:=h.ok.vis b hb
      exact hs.block b v1 v2 v3 v4
     ·omega
     ·exact hh
   exact worker1 hT rfl (x0:=.slice none 0 0) (by show (wD w1).heap[w1.heap.size+2]?=_;rw [y9f w1 _ (by omega),y9g,if_pos rfl]) hS65 hP1 hsl h65 hB
  ·refine ⟨7,?_⟩
   refine y5v rfl (fun _=>stepG_region_end) hF fun w hF=>?_
   refine y5v rfl (fun _=>stepG_seq) hF fun w hF=>?_
   refine y5v rfl (fun _=>stepG_region) hF fun w hF=>?_
   rw [s34_10];simp only [List.range,List.range.loop];obtain ⟨o,ho,hd,hop,hg⟩:=ycr;have hb:Try.f27.body=some (body_wait Try.link):=by kernel_rfl
   have hnt:Try.f27.ntmps=84:=by kernel_rfl
   have hw:=fun w hF=>ydk (X:=XH n0 Sh ro S w1 Post0 Post1) (L:=Try.link) (b₀:=b34) (a₀:=⟨TE va vb S w1.heap.size,[]⟩) (ops₀:=r34 10) (i₀:=0) (rest₀:=[]) (k₀:=[.code c11]) (cs:=c :: cs) Try.wgLib rfl w hF
   refine gr_call (a:=⟨TE va vb S w1.heap.size,[]⟩) (vs:=#[ptr (w1.heap.size+3)]) rfl ho hg (by decide) hop Try.func27 (by kernel_rfl) hb hF (by simp [Act.eval,TE]) (by
    rw [enter_at _ Try.func27 hb,hnt];simp only [List.size_toArray,List.length_cons,List.length_nil,Nat.reduceAdd,Nat.reduceSub,Array.replicate_succ,Array.replicate_zero,List.push_toArray,List.append_toArray,List.nil_append,List.cons_append];rfl) fun w hF=>hw w hF
end
end Go.Mt
namespace Go.Mt
open Go.Tr Go.Conc Go.ConcN Go.Proofs Go.RowKit Go.Conc.Lib Go.ConcR.Gen Go.ConcN.Gen
open Go.ConcR (KK wgBlock WgAt stA smA rd wr Payload DC0 loc_of_ofEvent)
theorem y6h {P:Program} {gs:Array Goroutine} {w w₁:World} {sl:Option (Nat × Nat)} {i c cap s r:Nat} {g b2:Goroutine} {z v:Value} {cl tm:Bool} {es:Array Event} (hi:gs[i]?=some g)
  (h:stepG P (i == 0) g w=.comm b2 #[rcase c z] true (.recv false) w₁ es) (hc:w₁.heap[c]?=some (.chan cap #[v] cl s r tm)) (hp:∀ x ∈ gs,x.status≠.blocked∨x.offers=none) :
  runT P (crowd gs w sl) i=(.next (crowd (gs.setIfInBounds i (Go.Conc.served b2 v)) (w₁.setChan c cap #[] cl s (r+1) tm) sl),
   MemOp.ofEvents i g.frame.fn g.frame.place es ++ #[{ g:=i,fn:=b2.frame.fn,pos:=b2.frame.place,act:=.recv c r cap },{ g:=i,fn:=b2.frame.fn,pos:=b2.frame.place,act:=.recvDone c r }]):=by
 obtain ⟨hlt,rfl⟩:=zGe hi;have hsw:=swapAt_of_lt hlt { (default:Goroutine) with status:=.finished };have hpn:partners (gs.set i { (default:Goroutine) with status:=.finished } hlt) c true=[]:=by
  have key:∀ (gs:Array Goroutine),(∀ g ∈ gs,g.status≠.blocked∨g.offers=none)->partners gs c true=[]:=fun gs h=>y5t h
  exact key _ fun x hx=>by
   rcases Array.mem_or_eq_of_mem_set hx with hx|rfl
   ·exact hp x hx
   ·exact .inl (by simp)
 show runT P { world:=w,gs:=gs,rest:={ timers:=#[],alone:=none,slice:=sl } } i=_;unfold runT;simp only [hsw,h,GStep.es];simp [communicate,ways,rcase,hc,hpn,choose,Sem.run,Question.forced,bind,Sem.bind,pure,Goroutine.finishComm,commResult,Go.Conc.served,World.setChan,crowd,set_setIfInBounds]
section
variable {P:Program} {Sh:Loc->Prop} {gs:Array Goroutine} {a a2:Goroutine} {w:World} {t:Trace} {q:Nat->Nat} {sl:Option (Nat × Nat)} {c s r:Nat} {v z:Value}
theorem yg6 {x y op:MemOp} (h:op ∈ (#[x,y]:Trace)):op=x∨op=y:=by simpa using h
theorem Fr.recv (h:Fr P Sh 0 gs a w t q) (hr:a.status=.running) (hst:stepG P true a w=.comm a2 #[rcase c z] true (.recv false) w #[]) (hc:w.heap[c]?=some (.chan 1 #[v] false s r false)) :
  ∃ gs' ops,runT P (crowd gs w sl) 0=(.next (crowd gs' (w.setChan c 1 #[] false s (r+1) false) sl),ops)∧gs'.size=gs.size∧Fr P Sh 0 gs' (Go.Conc.served a2 v) (w.setChan c 1 #[] false s (r+1) false) (t ++ ops) q:=by
 have hlt:0<gs.size:=(zGe h.g0).1;have hcl:c<w.heap.size:=(zGe hc).1;have hp:∀ x ∈ gs,x.status≠.blocked∨x.offers=none:=by
  intro x hx;obtain ⟨i,hi,rfl⟩:=Array.mem_iff_getElem.1 hx;rcases Nat.eq_zero_or_pos i with rfl|hpos
  ·have:gs[0]=a:=by simpa [Array.getElem?_eq_getElem hi] using h.g0
   rw [this,hr];exact .inl (by simp)
  ·rcases (h.lv.old i _ hpos (Array.getElem?_eq_getElem hi)).status with e|e<;>exact .inl (by rw [e];simp)
 have hrun:=y6h (sl:=sl) h.g0 (by simpa using hst) hc hp;have e0:MemOp.ofEvents 0 a.frame.fn a.frame.place #[]=#[]:=by rw [ofEvents_eq];simp
 rw [e0,Array.empty_append] at hrun;have hops:∀ op ∈ (#[{ g:=0,fn:=a2.frame.fn,pos:=a2.frame.place,act:=.recv c r 1 },{ g:=0,fn:=a2.frame.fn,pos:=a2.frame.place,act:=.recvDone c r }]:Trace),op.g=0∧op.act.touch?=none∧op.act.low w.heap.size∧(∀ a,op.act≠.mark (.release a))∧op.act≠.mark .disable∧op.act≠.mark .enable:=by
  intro op hop;rcases yg6 hop with rfl|rfl
  ·exact ⟨rfl,rfl,hcl,fun a=>by simp,by simp,by simp⟩
  ·exact ⟨rfl,rfl,hcl,fun a=>by simp,by simp,by simp⟩
 have hds:∀ k,Deaf (t ++ #[({ g:=0,fn:=a2.frame.fn,pos:=a2.frame.place,act:=.recv c r 1 }:MemOp),{ g:=0,fn:=a2.frame.fn,pos:=a2.frame.place,act:=.recvDone c r }]) k=Deaf t k:=fun k=>Deaf_still t k _ fun op hop=>(hops op hop).2.2.2.2
 have hsz:(w.setChan c 1 #[] false s (r+1) false).heap.size=w.heap.size:=by simp [World.setChan]
 refine ⟨_,_,hrun,by simp,Array.getElem?_setIfInBounds_self_of_lt hlt,⟨fun x y hx hy=>?_,fun x hx=>?_⟩,?_⟩
 ·rw [Array.getElem?_setIfInBounds_ne (by omega)] at hy
  rw [hds];exact h.lv.old x y hx hy
 ·rw [hds]
  exact h.lv.above x (by simpa using hx)
 ·rw [hsz]
  have:=h.pst.app0 (d':=0) hlt (fun op hop=>(hops op hop).1) (fun op hop b hb=>by rw [(hops op hop).2.1] at hb;cases hb) (by rw [hds];exact h.pst.deaf) (fun op hop=>(hops op hop).2.2.1) (fun op hop=>(hops op hop).2.2.2.1);simpa using this
end
section
variable {main:Bool} {b:Frame} {a:Act} {kk:List Item} {cs:List Frame} {w:World} {ops:Array Oper} {i:Nat} {rest:List Nat} {o:Oper} {x:Operand}
theorem ydt (ho:ops[i]?=some o) (hg:o.guard=none) (hop:o.op=.recv 51 x false) {c:Nat} (hx:a.eval x=.chan (some c)) :
  stepG Try.prog main (G (b.at a (.inRegion ops (i :: rest) :: kk)) cs) w=.comm (G (b.at a (.inRegion ops (i :: rest) :: kk)) cs) #[rcase c (.slice none 0 0)] true (.recv false) w #[]:=by
 have hr:(execOp a.eval o).run Try.prog w=.ok (.comm #[rcase c (.slice none 0 0)] true (.recv false)) w:=by
  unfold execOp;simp only [hop,hx];simp [rcase,Try.runUnderlying51,Try.zeroValue29]
 have he:(execOp a.eval o).events Try.prog w #[]=#[]:=by
  unfold execOp;simp only [hop,hx];simp [rcase,go_sem,Try.runUnderlying51,Try.zeroValue29]
 rw [stepG_oper ho (y1e hg _ _)];simp [stepG.apply,hr,he,G,Frame.at,GStep.after,seen]
end
end Go.Mt
namespace Go.Mt
open Go.Tr Go.Conc Go.ConcN Go.Proofs Go.RowKit Go.Conc.Lib Go.ConcR.Gen Go.ConcN.Gen
open Go.ConcR (KK wgBlock WgAt stA smA rd wr Payload DC0 loc_of_ofEvent)
theorem ord11 (m:Bool) (t:Nat):Region.schedule m (r34 11) t ∈ [[0,1,2,3,4,5],[0,1,3,2,4,5],[0,2,1,3,4,5],[2,0,1,3,4,5]]:=by
 have e1:∀ l ∈ y4l .any (r34 11),l ∈ [[0,1,2,3,4,5],[0,1,3,2,4,5],[0,2,1,3,4,5],[2,0,1,3,4,5]]:=by
  have:y4l .any (r34 11)=[[0,1,2,3,4,5],[0,1,3,2,4,5],[0,2,1,3,4,5],[2,0,1,3,4,5]]:=by kernel_rfl
  rw [this];exact fun _ h=>h
 have e2:∀ l ∈ y4l .text (r34 11),l ∈ [[0,1,2,3,4,5],[0,1,3,2,4,5],[0,2,1,3,4,5],[2,0,1,3,4,5]]:=by
  have:y4l .text (r34 11)=[[0,1,2,3,4,5],[0,2,1,3,4,5],[2,0,1,3,4,5]]:=by kernel_rfl
  rw [this];decide
 have e3:∀ l ∈ y4l .gc (r34 11),l ∈ [[0,1,2,3,4,5],[0,1,3,2,4,5],[0,2,1,3,4,5],[2,0,1,3,4,5]]:=by
  have:y4l .gc (r34 11)=[[0,1,3,2,4,5]]:=by kernel_rfl
  rw [this];decide
 rcases y9u m (r34 11) t with h|⟨_,h|h⟩
 ·exact e1 _ h
 ·exact e2 _ h
 ·exact e3 _ h
theorem fin_mw {Sh:Loc->Prop} {Stop:List Nat->Goroutine->World->Prop} {gA:Goroutine}:∀ (m:Nat) (g:Goroutine) (w:World),Goes Try.prog true (fun _ _=>True) DC0 (fun g _=>g=gA) m g w->MW Sh Stop gA w->MW Sh Stop g w:=by
 intro m
 induction m with
 |zero =>
  intro g w h hn;obtain rfl:g=gA:=h w trivial;exact hn
 |succ m ih =>
  intro g w h hn;rcases h with h|⟨hr,h⟩
  ·obtain rfl:g=gA:=h w trivial
   exact hn
  ·intro d
   refine .of_step hr fun w₁ ⟨d1,e⟩=>?_
   subst e;obtain ⟨g',w',es,hgo,⟨rfl,rfl⟩,hk⟩:=goes_elim (h ((w.at d).at d1) trivial);exact ⟨[],g',_,#[],hgo,⟨zLe _,rfl,by simp⟩,ih g' _ hk (fun d=>hn d) ((w.at d).at d1).drawn⟩
def TG (va vb:Value) (S M:Nat) (x23 x24 x25:Value):Array Value:=#[va,vb,ptr S,ptr (S+1),.slice none 0 0,.slice none 0 0,.int .i64 0,.int .i64 0,ptr (M+1),ptr (M+2),ptr (M+3),va,vb,.slice (some ⟨S+2,0,none⟩) 2 2,.int .i64 0,.int .i64 0,.bool false,undef,.chan (some M),.tuple #[],.func (.func 22) #[] #[ptr (M+3),ptr (M+1),ptr S,ptr (S+1)],.func (.func 25) #[] #[ptr (M+3),ptr S,ptr (S+1),ptr (M+2)],.tuple #[],x23,x24,x25]
section
variable {Sh:Loc->Prop} {Stop:List Nat->Goroutine->World->Prop} {w:World} {c:Frame} {cs:List Frame} {va vb v0 v1 x24:Value} {S M:Nat}
theorem mw_draw {b:Frame} {a:Act} {kk:List Item} {cs:List Frame} {ops:Array Oper} {id:Nat} (h:∀ t,MW Sh Stop (G (b.at a (.inRegion ops (Region.schedule (Try.prog.follows .mixedOrders) ops t) :: kk)) cs) w):MW Sh Stop (G (b.at a (.code (.region id ops true) :: kk)) cs) w:=by
 intro d;refine .of_step rfl fun w₁ ⟨d1,e⟩=>?_
 subst e;exact ⟨[],_,_,#[],y6n,⟨zLe _,rfl,by simp⟩,h _ (d1+1)⟩
def yhp (va vb v1:Value) (S M:Nat) (c:Frame) (cs:List Frame) (g:Goroutine):Prop :=
 ∃ x25 rest,g=G (b34.at ⟨TG va vb S M (.chan (some M)) undef x25,[]⟩ [.inRegion (r34 11) (1 :: rest),.code .ret]) (c :: cs)∧((x25=v1∧rest=[3,4,5])∨rest=[2,3,4,5]∨rest=[3,2,4,5])
theorem meetE (hs1:∀ l,inB (M+1) l->¬ Sh l) (hs2:∀ l,inB (M+2) l->¬ Sh l) (hB1:M+1<w.heap.size) (hB2:M+2<w.heap.size) (hc1:w.cell? ⟨M+1,0,none⟩=some (.chan (some M))) (hc2:w.cell? ⟨M+2,0,none⟩=some v1)
  (hstop:∀ g,yhp va vb v1 S M c cs g->MW Sh Stop g w) :
  MW Sh Stop (G (b34.at ((⟨TE va vb S M,[]⟩:Act).put (((r34 10)[0]?).bind (·.dst)) (.tuple #[])) [.inRegion (r34 10) [],.code c11]) (c :: cs)) w:=by
 have hT:((⟨TE va vb S M,[]⟩:Act).put (((r34 10)[0]?).bind (·.dst)) (.tuple #[]))=⟨TG va vb S M undef undef undef,[]⟩:=by
  obtain ⟨o,ho,hd,hop,hg⟩:=ycr;rw [ho,Option.bind_some,hd];rfl
 rw [hT];refine y12 rfl (fun _=>stepG_region_end) ?_;unfold c11;refine y12 rfl (fun _=>stepG_seq) ?_;refine mw_draw fun t=>?_
 have hord:=ord11 (Try.prog.follows .mixedOrders) t;generalize Region.schedule (Try.prog.follows .mixedOrders) (r34 11) t=ord at hord;simp only [List.mem_cons,List.not_mem_nil,or_false] at hord;unfold TG;rcases hord with rfl|rfl|rfl|rfl
 ·skip
  obtain ⟨o,ho,hd,hop,hg⟩:=y61;refine y7g ho hg (by decide) (.inr hop) rfl hs1 hB1 hc1 ?_;rw [hd]
  walk_nrm
  clear ho hd hop hg o;exact hstop _ ⟨undef,_,rfl,.inr (.inl rfl)⟩
 ·skip
  obtain ⟨o,ho,hd,hop,hg⟩:=y61;refine y7g ho hg (by decide) (.inr hop) rfl hs1 hB1 hc1 ?_;rw [hd]
  walk_nrm
  clear ho hd hop hg o;exact hstop _ ⟨undef,_,rfl,.inr (.inr rfl)⟩
 ·skip
  obtain ⟨o,ho,hd,hop,hg⟩:=y61;refine y7g ho hg (by decide) (.inr hop) rfl hs1 hB1 hc1 ?_;rw [hd]
  walk_nrm
  clear ho hd hop hg o;obtain ⟨o,ho,hd,hop,hg⟩:=y60;refine y7g ho hg (by decide) (.inl hop) rfl hs2 hB2 hc2 ?_;rw [hd]
  walk_nrm
  clear ho hd hop hg o;exact hstop _ ⟨v1,_,rfl,.inl ⟨rfl,rfl⟩⟩
 ·skip
  obtain ⟨o,ho,hd,hop,hg⟩:=y60;refine y7g ho hg (by decide) (.inl hop) rfl hs2 hB2 hc2 ?_;rw [hd]
  walk_nrm
  clear ho hd hop hg o;obtain ⟨o,ho,hd,hop,hg⟩:=y61;refine y7g ho hg (by decide) (.inr hop) rfl hs1 hB1 hc1 ?_;rw [hd]
  walk_nrm
  clear ho hd hop hg o;exact hstop _ ⟨v1,_,rfl,.inl ⟨rfl,rfl⟩⟩
theorem meetF {g:Goroutine} (h:yhp va vb v1 S M c cs g):(∀ w,stepG Try.prog true g w=.comm g #[rcase M (.slice none 0 0)] true (.recv false) w #[])∧g.status=.running ∧
  ∀ (Sh:Loc->Prop) (Stop:List Nat->Goroutine->World->Prop) (w:World) (v0:Value) (hs2:∀ l,inB (M+2) l->¬ Sh l) (hB2:M+2<w.heap.size) (hc2:w.cell? ⟨M+2,0,none⟩=some v1) (hn:MW Sh Stop (G (c.finish (.tuple #[v0,v1,.int .i64 0])) cs) w),
   MW Sh Stop (Go.Conc.served g v0) w:=by
 obtain ⟨x25,rest,rfl,hr⟩:=h;obtain ⟨o1,ho1,hd1,hop1,hg1⟩:=yid;refine ⟨fun w=>ydt ho1 hg1 hop1 rfl,rfl,fun Sh Stop w v0 hs2 hB2 hc2 hn=>?_⟩;have e:Go.Conc.served (G (b34.at ⟨TG va vb S M (.chan (some M)) undef x25,[]⟩ [.inRegion (r34 11) (1 :: rest),.code .ret]) (c :: cs)) v0=G (b34.at ⟨TG va vb S M (.chan (some M)) v0 x25,[]⟩ [.inRegion (r34 11) rest,.code .ret]) (c :: cs):=by
  have hfin:(b34.at ⟨TG va vb S M (.chan (some M)) undef x25,[]⟩ [.inRegion (r34 11) (1 :: rest),.code .ret]).finish v0=b34.at ⟨TG va vb S M (.chan (some M)) v0 x25,[]⟩ [.inRegion (r34 11) rest,.code .ret]:=by
   rw [Frame.finish_at,ho1,Option.bind_some,hd1];rfl
  simp only [Go.Conc.served,G,hfin]
 rw [e];clear e ho1 hd1 hop1 hg1;unfold TG;rcases hr with ⟨rfl,rfl⟩|rfl|rfl
 ·skip
  obtain ⟨o,ho,hd,hop,hg⟩:=y8x;refine y18 ho hg (by decide) (.inl hop) rfl ?_;rw [hd]
  walk_nrm
  clear ho hd hop hg o;obtain ⟨o,ho,hd,hop,hg⟩:=y8w;refine y18 ho hg (by decide) (.inl hop) rfl ?_;rw [hd]
  walk_nrm
  clear ho hd hop hg o;obtain ⟨o,ho,hd,hop,hg⟩:=y8v;refine y18 ho hg (by decide) (.inl hop) rfl ?_;rw [hd]
  walk_nrm
  clear ho hd hop hg o;refine y12 rfl (fun _=>stepG_region_end) ?_;refine y12 rfl (fun _=>stepG_ret') ?_;refine y12 rfl (fun _=>y24 rfl rfl Try.func9 yhz) ?_;simpa using hn
 ·skip
  obtain ⟨o,ho,hd,hop,hg⟩:=y60;refine y7g ho hg (by decide) (.inl hop) rfl hs2 hB2 hc2 ?_;rw [hd]
  walk_nrm
  clear ho hd hop hg o;obtain ⟨o,ho,hd,hop,hg⟩:=y8x;refine y18 ho hg (by decide) (.inl hop) rfl ?_;rw [hd]
  walk_nrm
  clear ho hd hop hg o;obtain ⟨o,ho,hd,hop,hg⟩:=y8w;refine y18 ho hg (by decide) (.inl hop) rfl ?_;rw [hd]
  walk_nrm
  clear ho hd hop hg o;obtain ⟨o,ho,hd,hop,hg⟩:=y8v;refine y18 ho hg (by decide) (.inl hop) rfl ?_;rw [hd]
  walk_nrm
  clear ho hd hop hg o;refine y12 rfl (fun _=>stepG_region_end) ?_;refine y12 rfl (fun _=>stepG_ret') ?_;refine y12 rfl (fun _=>y24 rfl rfl Try.func9 yhz) ?_;simpa using hn
 ·skip
  obtain ⟨o,ho,hd,hop,hg⟩:=y8x;refine y18 ho hg (by decide) (.inl hop) rfl ?_;rw [hd]
  walk_nrm
  clear ho hd hop hg o;obtain ⟨o,ho,hd,hop,hg⟩:=y60;refine y7g ho hg (by decide) (.inl hop) rfl hs2 hB2 hc2 ?_;rw [hd]
  walk_nrm
  clear ho hd hop hg o;obtain ⟨o,ho,hd,hop,hg⟩:=y8w;refine y18 ho hg (by decide) (.inl hop) rfl ?_;rw [hd]
  walk_nrm
  clear ho hd hop hg o;obtain ⟨o,ho,hd,hop,hg⟩:=y8v;refine y18 ho hg (by decide) (.inl hop) rfl ?_;rw [hd]
  walk_nrm
  clear ho hd hop hg o;refine y12 rfl (fun _=>stepG_region_end) ?_;refine y12 rfl (fun _=>stepG_ret') ?_;refine y12 rfl (fun _=>y24 rfl rfl Try.func9 yhz) ?_;simpa using hn
end
end Go.Mt
namespace Go.Mt
open Go.Tr Go.Conc Go.ConcN Go.Proofs Go.RowKit Go.Conc.Lib Go.ConcR.Gen Go.ConcN.Gen
open Go.ConcR (KK wgBlock WgAt stA smA rd wr Payload DC0 loc_of_ofEvent)
def Runs (m:Machine) (t:Trace) (R:Machine->Trace->Prop):Prop:=∃ N m' t',runNT Try.prog N m t=(.next m',t')∧R m' t'
theorem y9w (P:Program):∀ (N K:Nat) (m m':Machine) (t t':Trace),runNT P N m t=(.next m',t')->runNT P (N+K) m t=runNT P K m' t':=by
 intro N
 induction N with
 |zero =>
  intro K m m' t t' h;simp only [runNT] at h;injection h with h1 h2
  injection h1 with h1
  subst h1 h2;rw [Nat.zero_add]
 |succ N ih =>
  intro K m m' t t' h;rw [show N+1+K=(N+K)+1 by omega];simp only [runNT] at h ⊢;generalize stepT P m=x at h ⊢;obtain ⟨e,ops⟩:=x;cases e<;>first|exact ih K _ _ _ _ h|(exfalso;injection h with h1 h2;cases h1)
theorem Runs.bind {m:Machine} {t:Trace} {R R':Machine->Trace->Prop} (h:Runs m t R) (k:∀ m t,R m t->Runs m t R'):Runs m t R':=by
 obtain ⟨N,m',t',h1,h2⟩:=h;obtain ⟨K,m2,t2,h3,h4⟩:=k m' t' h2;exact ⟨N+K,m2,t2,(y9w _ N K m m' t t' h1).trans h3,h4⟩
theorem Runs.mono {m:Machine} {t:Trace} {R R':Machine->Trace->Prop} (h:Runs m t R) (k:∀ m t,R m t->R' m t):Runs m t R':=by
 obtain ⟨N,m',t',h1,h2⟩:=h;exact ⟨N,m',t',h1,k _ _ h2⟩
theorem y3l {Sh:Loc->Prop} {gs:Array Goroutine} {a:Goroutine} {w:World} {t:Trace} {q:Nat->Nat} {sl:Option (Nat × Nat)} {Stop:List Nat->Goroutine->World->Prop} (hF:Fr Try.prog Sh 0 gs a w t q) (hW:MW Sh Stop a w) :
  Runs (crowd gs w sl) t fun m t=>∃ (gs':Array Goroutine) (a':Goroutine) (w':World) (sl':Option (Nat × Nat)) (q':Nat->Nat) (L':List Nat),m=crowd gs' w' sl'∧gs'.size=gs.size∧Fr Try.prog Sh L'.length gs' a' w' t q'∧Stop L' a' w':=by
 obtain ⟨N,m',t',h1,h2⟩:=besideW (hW w.drawn) gs sl t q hF;exact ⟨N,m',t',h1,h2⟩
structure Left (w:World) (Sh Sh':Loc->Prop) (ro:Nat->Nat->Nat->Prop) (er:Int) (Post0 Post1:Nat->Value->World->Prop) (r:Value) (w':World):Prop where
 kept:Kept w.heap.size w w'
 sh:∀ l,Sh l->Sh' l
 news:∀ l b,Sh' l->inB b l->Sh l∨w.heap.size≤b
 shB:∀ l b,Sh' l->inB b l->b<w'.heap.size
 val:(er≠0∧r=.tuple #[.slice none 0 0,.slice none 0 0,.int .i64 er]) ∨
  (er=0∧∃ M L1 L2 v0 v0' u0 v1 v1' u1,r=.tuple #[v0',v1',.int .i64 0]∧w.heap.size+3≤M∧RelP (XK ro M) L1 v0 v0'∧WRel (XK ro M) L1 u0 w'∧Post0 (M+4) v0 u0∧RelP (XK ro M) L2 v1 v1'∧WRel (XK ro M) L2 u1 w'∧Post1 (M+4) v1 u1 ∧
   (∀ b ∈ L1,M+4≤b∧b ∉ L2)∧(∀ b ∈ L2,M+4≤b)∧∀ l b,Sh' l->inB b l->b<M+4)
section
variable {P:Program} {S T:FuncId->Bool} {kdOf:FuncId->y17} {Sh:Loc->Prop} {ro:Nat->Nat->Nat->Prop} {bl:List Obj} {sa sb:Option Addr} {na ca nb cb:Nat} {w:World} {er:Int} {c:Frame} {cs:List Frame} {gs:Array Goroutine} {t:Trace} {q:Nat->Nat} {sl0:Option (Nat × Nat)} {Post0 Post1:Nat->Value->World->Prop}
theorem meetCo (hPF:wf P Try.prog.funcs=Try.prog) (hC:y34 P Try.prog.funcs S T kdOf) (hST:∀ f,T f=true->S f=true) (hS49:S 20=true) (hS63:S 24=true) (hS65:S 26=true) (hg:yj6 w Sh ro bl sa sb)
  (hP0:∀ n v u τ,Post0 n v u->Post0 n v (retape u τ)) (hP1:∀ n v u τ,Post1 n v u->Post1 n v (retape u τ)) (hsl:∀ n v u,Post1 n v u->∃ s n c,v=.slice s n c)
  (h49:∀ u:World,(∀ (a:Nat) (o:Obj),bl[a]?=some o->u.heap[a]?=some o)->u.heap[2]?=some (.cells #[xl 0 sa na ca,xl 1 sb nb cb] 29 (0,2))->Calls P 20 #[.slice (some ⟨2,0,none⟩) 2 2] u fun e _=>e=.returned (.int .i64 er))
  (h63:er=0->∀ u:World,(∀ (a:Nat) (o:Obj),bl[a]?=some o->u.heap[a]?=some o)->Calls P 24 #[xl 0 sa na ca,xl 1 sb nb cb] u fun e u'=>∃ v,e=.returned v∧Post0 u.heap.size v u')
  (h65:er=0->∀ u:World,(∀ (a:Nat) (o:Obj),bl[a]?=some o->u.heap[a]?=some o)->Calls P 26 #[xl 0 sa na ca,xl 1 sb nb cb] u fun e u'=>∃ v,e=.returned v∧Post1 u.heap.size v u')
  (hF:Fr Try.prog Sh 0 gs (G (Frame.enter Try.prog 9 #[sl sa na ca,sl sb nb cb] .normal) (c :: cs)) w t q) :
  Runs (crowd gs w sl0) t fun m t=>∃ (gs':Array Goroutine) (w':World) (sl':Option (Nat × Nat)) (q':Nat->Nat) (Sh':Loc->Prop) (r:Value),m=crowd gs' w' sl'∧Fr Try.prog Sh' 0 gs' (G (c.finish r) cs) w' t q'∧Left w Sh Sh' ro er Post0 Post1 r w':=by
 have hn1:1≤gs.size:=(zGe hF.g0).1;refine (y3l hF (meetAB hPF hC hST hS49 hg h49)).bind fun m1 t1 ⟨gs1,a1,w1,sl1,q1,L1,hm,hsz1,hF1,hL1,hk1,hcase⟩=>?_
 subst hm hL1;have hA:=yez w (sl sa na ca) (sl sb nb cb);have hlow:∀ b,b<w.heap.size->w1.heap[b]?=w.heap[b]?:=fun b hb=>by
  rw [hk1.old b (by omega),y9h,if_neg (by omega),if_neg (by omega),if_neg (by omega)]
 have hkw:Kept w.heap.size w w1:=⟨hk1.os,hk1.output,hk1.tape,by have:=hk1.size;omega,hlow⟩
 rcases hcase with ⟨hne,rfl⟩|⟨he0,rfl⟩
 ·exact ⟨0,_,_,rfl,gs1,w1,sl1,q1,Sh,_,rfl,hF1,hkw,fun _ h=>h,fun l b h _=>.inl h,fun l b h1 h2=>by have:=hg.shB l b h1 h2;have:=hkw.size;omega,.inl ⟨hne,rfl⟩⟩
 have hS3:w.heap.size+3≤w1.heap.size:=by have:=hk1.size;omega
 have hAt:AtC gs1.size Sh ro bl w.heap.size (sl sa na ca) (sl sb nb cb) w1:=by
  refine ⟨by omega,hg.mem,hg.shB,fun a b s hb=>?_,hg.two,hS3,?_,?_⟩
  ·obtain ⟨h1,h2,xs,xs',e,e',fr',h3,h4,h5⟩:=hg.lent a b s hb
   exact ⟨h1,h2,xs,xs',e,e',fr',h3,fun hp=>(hlow b h1).trans (h4 hp),h5⟩
  ·rw [hk1.old _ (by omega),y9h,if_neg (by omega),if_neg (by omega),if_pos rfl]
  ·rw [hk1.old _ (by omega),y9h,if_neg (by omega),if_pos rfl]
 have hX:=hAt.ok;let X:PG:=XG gs1.size Sh ro w.heap.size w1.heap.size
 have hF2:Fr Try.prog X.Sh 0 gs1 (G (b34.at ⟨TB (sl sa na ca) (sl sb nb cb) w.heap.size,[]⟩ [.code c4]) (c :: cs)) w1 t1 q1:=by
  refine ⟨hF1.g0,hF1.lv,hF1.pst.shun (fun l h=>.inl h) fun l h=>?_⟩;rcases h with h|h|h
  ·exact .inl h
  ·exact .inr ⟨_,by show w1.heap.size≤w1.heap.size+3;omega,h⟩
  ·exact .inr ⟨_,zLe _,h⟩
 have hXsh:∀ l b,X.Sh l->inB b l->b<w1.heap.size+4:=by
  rintro l b (h|h|h) hb
  ·have:=hg.shB l b h hb
   omega
  ·have:b=w1.heap.size+3:=y23 hb h
   omega
  ·have:b=w1.heap.size:=y23 hb h
   omega
 have hXno:∀ l k,(k=1∨k=2)->inB (w1.heap.size+k) l->¬ X.Sh l:=by
  rintro l k hk hb (h|h|h)
  ·have:=hg.shB l _ h hb
   omega
  ·have:w1.heap.size+k=w1.heap.size+3:=y23 hb h
   omega
  ·have:w1.heap.size+k=w1.heap.size:=y23 hb h
   omega
 refine (y3l hF2 (meetC (X:=XH gs1.size Sh ro w.heap.size w1 (Post0 (w1.heap.size+4)) (Post1 (w1.heap.size+4))) (Stop:=fun L g w'=>L=[]∧g=G (b34.at ⟨TD (sl sa na ca) (sl sb nb cb) w.heap.size w1.heap.size,[]⟩ [.inRegion (r34 8) [1],.code c9]) (c :: cs)∧∃ d,w'=(wD w1).at d) rfl rfl (fun l hl=>hXno l 1 (.inl rfl) hl) (y6v fun d=>⟨rfl,rfl,d,rfl⟩))).bind fun m2 t2 ⟨gs2,a2,w2,sl2,q2,L2,hm,hsz2,hF3,hL2,ha2,d2,hw2⟩=>?_
 subst hm hL2 ha2 hw2;have harg:RelPs (XK ro w1.heap.size) [] #[xl 0 sa na ca,xl 1 sb nb cb] #[sl sa na ca,sl sb nb cb]:=by
  refine ⟨rfl,fun i v v' h1 h2=>?_⟩
  match i,h1,h2 with
  |0,h1,h2 =>
   obtain rfl:xl 0 sa na ca=v:=by simpa using h1
   obtain rfl:sl sa na ca=v':=by simpa using h2
   exact .cell (y8q hg.a)
  |1,h1,h2 =>
   obtain rfl:xl 1 sb nb cb=v:=by simpa using h1
   obtain rfl:sl sb nb cb=v':=by simpa using h2
   exact .cell (y8q hg.b)
  |k+2,h1,h2=>simp at h1
 have hbl4:bl.length≤w1.heap.size+4:=by have:=hg.two;omega
 have hArg:∀ τ,∀ (a:Nat) (o:Obj),bl[a]?=some o->(retape (y5j (wD w1) (w1.heap.size+4) bl) τ).heap[a]?=some o:=fun τ a o h=>y5a (wD w1) h
 have hfs:∀ τ,(retape (y5j (wD w1) (w1.heap.size+4) bl) τ).heap.size=w1.heap.size+4:=fun τ=>y7z (wD w1) hbl4
 have hgo:=meetGo (Post0:=Post0 (w1.heap.size+4)) (Post1:=Post1 (w1.heap.size+4)) (c:=c) (cs:=cs) hAt hPF hC hST harg hS63 hS65 (hP0 _) (hP1 _) (hsl _) (fun τ=>by have:=h63 he0 _ (hArg τ);rw [hfs τ] at this;exact this) (fun τ=>by have:=h65 he0 _ (hArg τ);rw [hfs τ] at this;exact this) d2;let H:PH:=XH gs1.size Sh ro w.heap.size w1 (Post0 (w1.heap.size+4)) (Post1 (w1.heap.size+4))
 have hb1:(wD w1).heap[w1.heap.size+1]?=some (.cells #[.chan (some w1.heap.size)] 51 (0,0)):=by rw [y9f w1 _ (by omega),y9g,if_neg (by omega),if_pos rfl]
 have hsn:gs2.size=gs1.size:=hsz2;have hph:=phase (H:=H) (Fin:=FinX Try.prog (G (b34.at ((⟨TE (sl sa na ca) (sl sb nb cb) w.heap.size w1.heap.size,[]⟩:Act).put (((r34 10)[0]?).bind fun (x:Oper)=>x.dst) (.tuple #[])) [.inRegion (r34 10) [],.code c11]) (c :: cs)))
  (AnchW:=yes Try.link (w1.heap.size+3) (frW (sl sa na ca) (sl sb nb cb) w.heap.size w1.heap.size) (c :: cs)) hAt.okH (fun g w h=>yhe g w h) (fun g w h=>ydl (X:=H) (L:=Try.link) Try.wgLib rfl g w h) _ gs2 _ _ sl2 t2 q2 (zLe _) hsn hF3.g0 hF3.lv
  (by have:=hF3.pst.to;rw [hsn] at this;exact this) hgo ⟨rfl,rfl,rfl,by show _≤(wD w1).heap.size;rw [y8b];exact zLe _,fun _ _ _ _ _=>rfl⟩ rfl (wD_at w1)
 refine (show Runs _ _ _ from hph).bind fun m3 t3 hdone=>?_
 obtain ⟨gs3,w3,sl3,a3,K1,K2,q3,hm,hsz3,hg3,⟨mf,hfin⟩,hlv3,hpst3,hsince,hfam,hgot0,hgot1⟩:=hdone.out;subst hm;have hF4:Fr Try.prog X.Sh 0 gs3 a3 w3 t3 q3:=⟨hg3,hlv3,by rw [hsz3];exact hpst3.toD⟩
 obtain ⟨v0,v0',u0,s,r,hch,hv0,hw0,hp0⟩:Got0 X (XK ro w1.heap.size) (Post0 (w1.heap.size+4)) K1 w3:=hgot0;obtain ⟨v1,v1',u1,hhi,hv1,hw1,hp1⟩:Got1 X (XK ro w1.heap.size) (Post1 (w1.heap.size+4)) K2 w3:=hgot1;have hN3:w1.heap.size+4≤w3.heap.size:=hsince.size;have hlo3:w3.cell? ⟨w1.heap.size+1,0,none⟩=some (.chan (some w1.heap.size)):=by
  refine y3r ((hsince.block (w1.heap.size+1) ?_ ?_ ?_ ?_).trans hb1)
  ·show _<w1.heap.size+4;omega
  ·show _≠w1.heap.size;omega
  ·show _≠w1.heap.size+2;omega
  ·show _≠w1.heap.size+3;omega
 refine (y3l hF4 (Stop:=fun L g w'=>L=[]∧yhp (sl sa na ca) (sl sb nb cb) v1' w.heap.size w1.heap.size c cs g∧∃ d,w'=w3.at d) (fin_mw mf a3 w3 hfin (meetE (v1:=v1') (fun l hl=>hXno l 1 (.inl rfl) hl) (fun l hl=>hXno l 2 (.inr rfl) hl) (by omega) (by omega) hlo3 hhi fun g hgr=>y6v fun d=>⟨rfl,hgr,d,rfl⟩))).bind fun m4 t4 ⟨gs4,a4,w4,sl4,q4,L4,hm,hsz4,hF5,hL4,hrec,d4,hw4⟩=>?_
 subst hm hL4 hw4;obtain ⟨hst,hrun,hgoon⟩:=meetF hrec;let w5:World:=w3.setChan w1.heap.size 1 #[] false s (r+1) false
 have hsz5:w5.heap.size=w3.heap.size:=by simp [w5,World.setChan]
 have hoth5:∀ b,b≠w1.heap.size->w5.heap[b]?=w3.heap[b]?:=fun b hb=>by simp [w5,World.setChan,Array.getElem?_setIfInBounds_ne (Ne.symm hb)]
 have hrel:∀ (K:List Nat) (d:Nat),(∀ b ∈ K,w1.heap.size+4≤b)->RelyK (XK ro w1.heap.size) K w3 (w5.at d):=fun K d hK=>⟨rfl,rfl,Nat.le_of_eq hsz5.symm,fun b hb _=>hb.elim,fun b hb=>hoth5 b (by have:=hK b hb.1;omega),fun j b s hj=>(by simp [XK] at hj),fun a b s hr=>hoth5 b (by have:=(hg.lent a b s hr).1;omega)⟩
 have hK1:∀ b ∈ K1,w1.heap.size+4≤b:=fun b hb=>(hfam.l1 b hb).1
 have hK2:∀ b ∈ K2,w1.heap.size+4≤b:=fun b hb=>(hfam.l2 b hb).1
 have hkept:∀ d,Kept w.heap.size w (w5.at d):=fun d=>by
  refine ⟨hsince.os.trans hkw.os,hsince.output.trans hkw.output,hsince.tape.trans hkw.tape,by show _≤w5.heap.size;omega,fun b hb=>?_⟩;show w5.heap[b]?=_;rw [hoth5 b (by omega),hsince.block b (by show _<w1.heap.size+4;omega) (by show _≠w1.heap.size;omega) (by show _≠w1.heap.size+2;omega) (by show _≠w1.heap.size+3;omega)];exact (yci w1 b (by omega)).trans (hlow b hb)
 have hleft:∀ d,Left w Sh X.Sh ro er Post0 Post1 (.tuple #[v0',v1',.int .i64 0]) (w5.at d):=fun d=>by
  refine ⟨hkept d,fun l h=>.inl h,fun l b h hb=>?_,fun l b h hb=>?_,.inr ⟨he0,w1.heap.size,K1,K2,v0,v0',u0,v1,v1',u1,rfl,hS3,hv0,hw0.rely (hrel K1 d hK1),hp0,hv1,hw1.rely (hrel K2 d hK2),hp1,fun b hb=>⟨hK1 b hb,hfam.ap b hb⟩,hK2,hXsh⟩⟩
  ·rcases h with h|h|h
   ·exact .inl h
   ·have:b=w1.heap.size+3:=y23 hb h
    exact .inr (by omega)
   ·have:b=w1.heap.size:=y23 hb h
    exact .inr (by omega)
  ·have:=hXsh l b h hb
   show b<w5.heap.size;omega
 have hgoal:=Fr.turn (P:=Try.prog) (w:=w3) (gs:=gs4) (a:=a4) (Sh:=X.Sh) (d:=0) (Goal:=fun m t=>∃ (gs':Array Goroutine) (w':World) (sl':Option (Nat × Nat)) (q':Nat->Nat) (Sh':Loc->Prop) (r:Value),m=crowd gs' w' sl'∧Fr Try.prog Sh' 0 gs' (G (c.finish r) cs) w' t q'∧Left w Sh Sh' ro er Post0 Post1 r w') hrun (fun gs5 d5 sl5 t5 q5 hsz5' hF6=>?_) _ gs4 d4 sl4 t4 q4 rfl (zLe _) hF5
 ·exact hgoal
 ·obtain ⟨gs6,ops,hr1,hr2,hF7⟩:=Fr.recv (sl:=sl5) hF6 hrun (hst _) (v:=v0') (s:=s) (r:=r) hch
  refine ⟨_,ops,hr1,?_⟩;have hcont:=hgoon X.Sh (fun L g w'=>L=[]∧g=G (c.finish (.tuple #[v0',v1',.int .i64 0])) cs∧∃ d,w'=w5.at d) ((w3.at d5).setChan w1.heap.size 1 #[] false s (r+1) false) v0' (fun l hl=>hXno l 2 (.inr rfl) hl) (by show _<w5.heap.size;omega)
   (by
    refine Eq.trans (cell_of_block ?_ 0) hhi;exact hoth5 (w1.heap.size+2) (by omega)) (y6v fun d=>⟨rfl,rfl,d,rfl⟩)
  obtain ⟨N,m',t',h1,gs7,a7,w7,sl7,q7,L7,hm,hsz7,hF8,hL7,ha7,d7,hw7⟩:=y3l (sl:=sl5) hF7 hcont;subst hm hL7 ha7 hw7;exact ⟨N,_,t',h1,gs7,_,sl7,q7,X.Sh,_,rfl,hF8,hleft d7⟩
end
def y92 (l:List Int):Array Value:=(l.map (Value.int .i64)).toArray
def intO (l:List Int):Obj:=.cells (y92 l) 3 (0,(y92 l).size)
def RowAt (w:World) (Sh:Loc->Prop) (s:Option Addr) (l:List Int):Prop :=
 ∀ x,s=some x->x.block<w.heap.size∧(∀ k,inB x.block k->¬ Sh k)∧∃ cs e fr,(0<l.length->w.heap[x.block]?=some (.cells cs e fr))∧∀ (i:Nat) (v:Int),l[i]?=some v->cs[i+x.off]?=some (.int .i64 v)
def roAB (sa sb:Option Addr) (a b s:Nat):Prop:=(∃ x,sa=some x∧a=0∧b=x.block∧s=x.off)∨∃ x,sb=some x∧a=1∧b=x.block∧s=x.off
theorem yfd {cs:Array Value} {l:List Int} {s:Nat} (h:∀ (i:Nat) (v:Int),l[i]?=some v->cs[i+s]?=some (.int .i64 v)) (K:Cfg) (L:List Nat):RelSh K L s (y92 l) cs:=fun i v hv=>by
 simp only [y92,List.getElem?_toArray,List.getElem?_map,Option.map_eq_some_iff] at hv;obtain ⟨n,hn,rfl⟩:=hv;exact ⟨_,h i n hn,.flat rfl⟩
theorem yei {w:World} {Sh:Loc->Prop} {sa sb:Option Addr} {la lb:List Int} (hsh:∀ l b,Sh l->inB b l->b<w.heap.size) (hmem:∀ l:Loc,l.isMemory=false->Sh l) (ha:RowAt w Sh sa la) (hb:RowAt w Sh sb lb):yj6 w Sh (roAB sa sb) [intO la,intO lb] sa sb:=by
 refine ⟨hsh,hmem,fun a b s hr=>?_,rfl,fun x hx=>.inl ⟨x,hx,rfl,rfl,rfl⟩,fun x hx=>.inr ⟨x,hx,rfl,rfl,rfl⟩⟩;rcases hr with ⟨x,hx,rfl,rfl,rfl⟩|⟨x,hx,rfl,rfl,rfl⟩
 ·obtain ⟨h1,h2,cs,e,fr,h3,h4⟩:=ha x hx
  exact ⟨h1,h2,y92 la,cs,3,e,fr,rfl,fun hp=>h3 (by simpa [y92] using hp),yfd h4⟩
 ·obtain ⟨h1,h2,cs,e,fr,h3,h4⟩:=hb x hx
  exact ⟨h1,h2,y92 lb,cs,3,e,fr,rfl,fun hp=>h3 (by simpa [y92] using hp),yfd h4⟩
end Go.Mt
namespace Go.Mt
open Go.Tr Go.Conc Go.ConcN Go.Proofs
inductive LPath (P:Program):Goroutine->World->Goroutine->World->Prop
 |nil {g:Goroutine} {u u2:World}:retape u u2.tape=u2->LPath P g u g u2
 |cons {g g1 g2:Goroutine} {u u1 u2:World} {es:Array Event} (τ:Nat->Question->Nat):stepG P true g (retape u τ)=.go g1 (retape u1 τ) es->LPath P g1 u1 g2 u2->LPath P g u g2 u2
theorem y6j {u v:World} {t:Nat->Question->Nat} (h:retape u t=retape v t) (s:Nat->Question->Nat):retape u s=retape v s:=by
 rw [← y27 u t s,h,y27]
theorem LPath.congr {P:Program} {g g2:Goroutine} {u v u2:World} {t:Nat->Question->Nat} (h:LPath P g u g2 u2) (e:retape v t=retape u t):LPath P g v g2 u2:=by
 cases h with
 |nil h=>exact .nil ((y6j e _).trans h)
 |cons τ h1 h2=>exact .cons τ ((congrArg (stepG P true g) (y6j e τ)).trans h1) h2
theorem LPath.trans {P:Program} {g1 g2 g3:Goroutine} {u1 u2 u3:World} (h:LPath P g1 u1 g2 u2) (k:LPath P g2 u2 g3 u3):LPath P g1 u1 g3 u3:=by
 induction h with
 |@nil g u u2 e=>exact k.congr (t:=u2.tape) (by rw [e];rfl)
 |cons τ h1 _ ih=>exact .cons τ h1 (ih k)
structure ShI (W0:World) (K:Cfg) (L:List Nat) (Sh:Loc->Prop) (w:World):Prop where
 kept:Kept K.N W0 w
 mem:∀ l:Loc,l.isMemory=false->Sh l
 shB:∀ l b,Sh l->inB b l->b<w.heap.size
 rd:∀ b,K.Rd b->∀ l,inB b l->¬ Sh l
 al:∀ b,In K L b->∀ l,inB b l->¬ Sh l
 ra:∀ (j b s:Nat),K.al[j]?=some (b,s)->∀ l,inB b l->¬ Sh l
 rr:∀ (a b s:Nat),K.ro a b s->∀ l,inB b l->¬ Sh l
section
variable {W0:World} {P:Program} {F:Array Func} {S T:FuncId->Bool} {kdOf:FuncId->y17} {K:Cfg} {k:List Item} {base:List Frame} {Post:FuncId->Array Value->World->Prop}
theorem yiu {fr:Frame} {u u2:World} {g2:Goroutine} (hf:FinF fr) (hp:∃ f tm td m fn,fr=frm f tm td m∧P.funcs[f]?=some fn) (h:LPath P (G fr [c0]) u g2 u2):Fin [c0] g2∨g2.callers=[]:=by
 have dead:∀ (g:Goroutine) (u:World),LPath P g u g2 u2->(∃ ch,g=G { c0 with mode:=.panicking ch } [])->g2.callers=[]:=by
  rintro g u h ⟨ch,rfl⟩
  cases h with
  |nil _=>rfl
  |cons τ h1 _ =>
   obtain ⟨o,u1,es,he⟩:=y98 (P:=P) ch (retape u τ);rw [he] at h1;cases h1
 have ret:∀ (f:FuncId) (tm:Array Value) (td:List Item) (fn:Func) (g:Goroutine) (u:World),P.funcs[f]?=some fn->g=G (frm f tm td .returning) [c0]->LPath P g u g2 u2->Fin [c0] g2∨g2.callers=[]:=by
  rintro f tm td fn g u hfn rfl h
  cases h with
  |nil _=>exact .inl ⟨rfl,.inl rfl⟩
  |@cons _ g1 _ _ u1 _ es τ h1 h2 =>
   have h:=y1r (P:=P) true f tm td c0 [] (retape u τ) hfn;rw [Sem.runT_eq] at h;cases hr:(results fn tm).run P (retape u τ) with
   |ok v u' =>
    rw [hr] at h;rw [h] at h1;injection h1 with e1 e2 e3
    refine .inr (dead g1 u1 h2 ⟨[],?_⟩);rw [← e1,y76]
   |halt hh u' =>
    rw [hr] at h;rw [h] at h1;cases hh<;>cases h1
 obtain ⟨f,tm,td,m,fn,rfl,hfn⟩:=hp;rcases hf with hf|⟨hf,ht⟩
 ·obtain rfl:m=.returning:=hf
  exact ret f tm td fn _ u hfn rfl h
 ·obtain rfl:m=.run:=hf
  obtain rfl:td=[]:=ht;cases h with
  |nil _=>exact .inl ⟨rfl,.inr ⟨rfl,rfl⟩⟩
  |@cons _ g1 _ _ u1 _ es τ h1 h2 =>
   have h:=y5q (P:=P) true f tm [c0] (retape u τ);rw [h] at h1;injection h1 with e1 e2 e3
   exact ret f tm [] fn g1 u1 hfn e1.symm h2
def HGoal (W0:World) (P:Program) (S T:FuncId->Bool) (kdOf:FuncId->y17) (K:Cfg) (k:List Item) (base:List Frame) (Post:FuncId->Array Value->World->Prop) (m:Machine) (t:Trace):Prop :=
 ∃ (gs:Array Goroutine) (w:World) (sl:Option (Nat × Nat)) (q:Nat->Nat) (Sh:Loc->Prop) (L:List Nat) (fr:Frame) (g':Goroutine) (u:World),m=crowd gs w sl∧Fr Try.prog Sh 0 gs g' w t q∧Sims P S T kdOf K k base [c0] L (G fr [c0]) g'∧WRel K L u w∧FinF fr∧Post fr.fn fr.tmps u∧ShI W0 K L Sh w
def Claim (W0:World) (P:Program) (S T:FuncId->Bool) (kdOf:FuncId->y17) (K:Cfg) (k:List Item) (base:List Frame) (Post:FuncId->Array Value->World->Prop) (g:Goroutine) (u:World):Prop :=
 ∀ (L:List Nat) (g':Goroutine) (gs:Array Goroutine) (w:World) (t:Trace) (q:Nat->Nat) (Sh:Loc->Prop) (sl:Option (Nat × Nat)),Sims P S T kdOf K k base [c0] L g g'->WRel K L u w->ShI W0 K L Sh w->Fr Try.prog Sh 0 gs g' w t q->Runs (crowd gs w sl) t (HGoal W0 P S T kdOf K k base Post)
def y9b (W0:World) (P:Program) (F:Array Func) (S T:FuncId->Bool) (kdOf:FuncId->y17) (K:Cfg) (k:List Item) (base:List Frame) (Post:FuncId->Array Value->World->Prop):Prop :=
 ∀ (L:List Nat) (g g':Goroutine) (gs:Array Goroutine) (u w:World) (t:Trace) (q:Nat->Nat) (Sh:Loc->Prop) (sl:Option (Nat × Nat)),Ent P F S T kdOf K k base [c0] L g g'->LT P Post g u->WRel K L u w->ShI W0 K L Sh w->Fr Try.prog Sh 0 gs g' w t q →
  Runs (crowd gs w sl) t fun m t=>∃ (gs':Array Goroutine) (w':World) (sl':Option (Nat × Nat)) (q':Nat->Nat) (Sh':Loc->Prop) (L':List Nat) (g2 g2':Goroutine) (u2:World),m=crowd gs' w' sl'∧Fr Try.prog Sh' 0 gs' g2' w' t q'∧LPath P g u g2 u2∧¬ Fin [c0] g2∧Sims P S T kdOf K k base [c0] L' g2 g2'∧WRel K L' u2 w'∧ShI W0 K L' Sh' w'
def EntF (fe:FuncId) (P:Program) (F:Array Func) (S T:FuncId->Bool) (kdOf:FuncId->y17) (K:Cfg) (k:List Item) (base lb:List Frame) (L:List Nat) (g g':Goroutine):Prop :=
 ∃ xs xs' cs cs',g=G (Frame.enter P fe xs .normal) (cs ++ lb)∧g'=G (Frame.enter (wf P F) fe xs' .normal) cs'∧RelPs K L xs xs'∧cs≠[]∧szB P fe xs.size=true∧Stk P S T kdOf K k base L fe cs cs'
def SpecF (fe:FuncId) (W0:World) (P:Program) (F:Array Func) (S T:FuncId->Bool) (kdOf:FuncId->y17) (K:Cfg) (k:List Item) (base:List Frame) (Post:FuncId->Array Value->World->Prop):Prop :=
 ∀ (L:List Nat) (g g':Goroutine) (gs:Array Goroutine) (u w:World) (t:Trace) (q:Nat->Nat) (Sh:Loc->Prop) (sl:Option (Nat × Nat)),EntF fe P F S T kdOf K k base [c0] L g g'->LT P Post g u->WRel K L u w->ShI W0 K L Sh w->Fr Try.prog Sh 0 gs g' w t q →
  Runs (crowd gs w sl) t fun m t=>∃ (gs':Array Goroutine) (w':World) (sl':Option (Nat × Nat)) (q':Nat->Nat) (Sh':Loc->Prop) (L':List Nat) (g2 g2':Goroutine) (u2:World),m=crowd gs' w' sl'∧Fr Try.prog Sh' 0 gs' g2' w' t q'∧LPath P g u g2 u2∧¬ Fin [c0] g2∧Sims P S T kdOf K k base [c0] L' g2 g2'∧WRel K L' u2 w'∧ShI W0 K L' Sh' w'
theorem ydv (h:∀ fe,T fe=true->S fe=false->SpecF fe W0 P F S T kdOf K k base Post):y9b W0 P F S T kdOf K k base Post:=by
 intro L g g' gs u w t q Sh sl hE;obtain ⟨fe,xs,xs',cs,cs',hS,hT,h1,h2,h3,h4,h5,h6⟩:=hE;exact h fe hT hS L g g' gs u w t q Sh sl ⟨xs,xs',cs,cs',h1,h2,h3,h4,h5,h6⟩
theorem Claim.congr {g:Goroutine} {u v:World} {t:Nat->Question->Nat} (h:Claim W0 P S T kdOf K k base Post g u) (e:retape v t=retape u t):Claim W0 P S T kdOf K k base Post g v:=by
 have e1:v.heap=u.heap:=(congrArg World.heap e:(retape v t).heap=(retape u t).heap)
 have e2:v.os=u.os:=(congrArg World.os e:(retape v t).os=(retape u t).os)
 have e3:v.output=u.output:=(congrArg World.output e:(retape v t).output=(retape u t).output)
 exact fun L g' gs w t q Sh sl h1 h2 h3 h4=>h L g' gs w t q Sh sl h1 (h2.congr e1.symm rfl e2.symm rfl e3.symm rfl) h3 h4
theorem hybrid (hWr:∀ b,¬ K.Wr b) (hQ:wf P F=Try.prog) (hC:y34 P F S T kdOf) (hSp:y9b W0 P F S T kdOf K k base Post) (hPost:∀ f t u τ,Post f t u->Post f t (retape u τ)) {g:Goroutine} {u:World} (h:LT P Post g u) :
  Claim W0 P S T kdOf K k base Post g u∧∀ g2 u2,LPath P g u g2 u2->¬ Fin [c0] g2->g2.callers≠[]->Claim W0 P S T kdOf K k base Post g2 u2:=by
 induction h with
 |@fin fr u hf hp hpo =>
  refine ⟨fun L g' gs w t q Sh sl h1 h2 h3 h4=>⟨0,_,_,rfl,gs,w,sl,q,Sh,L,fr,g',u,rfl,h4,h1,h2,hf,hpo,h3⟩,fun g2 u2 h hn hc=>?_⟩;rcases yiu hf hp h with h|h
  ·exact absurd h hn
  ·exact absurd h hc
 |@step fr cs u nx hn hs hl ih =>
  have hclaim:Claim W0 P S T kdOf K k base Post (G fr cs) u:=by
   intro L g' gs w t q Sh sl hS hW hI hF;refine Fr.turn (P:=Try.prog) (w:=w) (gs:=gs) (a:=g') (Sh:=Sh) (d:=0) (Goal:=HGoal W0 P S T kdOf K k base Post) (y40 hS) (fun gs' c sl' t' q' hsz hF'=>?_) _ gs w.drawn sl t q rfl (zLe _) hF;let w₁:World:=w.at c
   let τ:Nat->Question->Nat:=fun j q=>w₁.tape (j - u.drawn+w₁.drawn) q
   have hW1:WRel K L u w₁:=hW.congr rfl rfl rfl rfl rfl rfl;have hg:=hs τ;rcases y8h (main:=true) hC hS (w:=w₁) (hW1.congr (u':=retape u τ) rfl rfl rfl rfl rfl rfl) (fun j q=>by
     show w₁.tape (u.drawn+j - u.drawn+w₁.drawn) q=w₁.tape (w₁.drawn+j) q
     congr 1
     omega) hn hg with hp|⟨L',g1',w1,es',h1,hcase,hM⟩
   ·exact absurd hp (y6s (hl τ))
   rw [hQ] at h1;have hsz1:w₁.heap.size≤w1.heap.size:=by
    have:=hM.step.size;have:=hM.step.pre.length_le;omega
   have hI1:ShI W0 K L' Sh w1:=by
    refine ⟨hI.kept.trans ⟨hM.step.os,hM.step.output,hM.step.tape,hsz1,fun b hb=>hM.step.block b (by have:=hW.wsize;show b<w.heap.size;omega) (fun x=>by have:=x.2;omega) (hWr b)⟩,hI.mem,fun l b h1 h2=>Nat.lt_of_lt_of_le (hI.shB l b h1 h2) hsz1,hI.rd,fun b hb l hl hs=>?_,hI.ra,hI.rr⟩;rcases y6p hM.step.pre hb.1 with hx|⟨j,hj,hge⟩
    ·exact hI.al b ⟨hx,hb.2⟩ l hl hs
    ·have h1:=hM.step.news j b hj hge
     have h2:=hI.shB l b hs hl;have h3:w₁.heap.size=w.heap.size:=rfl;omega
   have hev:∀ e ∈ es',EvQ Sh w1.heap.size e:=by
    intro e he;have hin:∀ b,In K L' b->(∀ l,inB b l->¬ Sh l)∧b<w1.heap.size:=fun b hb=>⟨hI1.al b hb,hM.rel.within b hb.1⟩
    have hrd:∀ b,K.Rd b->b<K.N->(∀ l,inB b l->¬ Sh l)∧b<w1.heap.size:=fun b hb hl=>⟨hI1.rd b hb,Nat.lt_of_lt_of_le hl hM.rel.wsize⟩
    have hwr:∀ b,K.Wr b->(∀ l,inB b l->¬ Sh l)∧b<w1.heap.size:=fun b hb=>by
     exact absurd hb (hWr b)
    cases hM.evs e he with
    |read h =>
     rcases h with ⟨_,⟨h1,h2,h3⟩|⟨j,_,hj,hnn⟩⟩|⟨j,_,hj⟩|hq
     ·obtain ⟨x1,x2⟩:=hrd _ h1 h2
      rw [← h3] at x1 x2;exact y1x x1 x2
     ·obtain ⟨x1,x2⟩:=hin _ ⟨List.mem_iff_getElem?.2 ⟨j,hj⟩,hnn⟩
      exact y1x x1 x2
     ·exact y1x (hI1.ra j _ _ hj) (Nat.lt_of_lt_of_le (hM.rel.ali j _ _ hj).1 hM.rel.wsize)
     ·exact y1x (hI1.rr _ _ _ hq) (Nat.lt_of_lt_of_le (hM.rel.roa _ _ _ hq).2.2.1 hM.rel.wsize)
    |write h =>
     rcases h with h|h
     ·obtain ⟨x1,x2⟩:=hin _ h
      exact y1x x1 x2
     ·obtain ⟨x1,x2⟩:=hwr _ h
      exact y1x x1 x2
    |@map r wr h =>
     obtain ⟨x1,x2⟩:=hin _ h;refine ⟨⟨fun x hx hsx=>?_,by simpa [MemAct.ofEvent,MemAct.low,Loc.low] using x2,by simp⟩,by simp,by simp⟩;simp only [MemAct.ofEvent,MemAct.touch?,Option.some.injEq] at hx;subst hx;exact absurd hsx (x1 _ rfl)
    |room=>exact ⟨⟨fun x hx=>by simp [MemAct.ofEvent,MemAct.touch?] at hx,by simp [MemAct.ofEvent,MemAct.low],by simp⟩,by simp,by simp⟩
   obtain ⟨gs2,ops,hr1,hsz2,hF2⟩:=hF'.own (sl:=sl') h1 hsz1 (fun e he=>(hev e he).1);rw [y4g (fun e he=>(hev e he).2)] at hF2;refine ⟨_,ops,hr1,?_⟩;have hrel1:WRel K L' (nx τ).2.2.1 w1:=hM.rel.congr rfl rfl rfl rfl rfl rfl;rcases hcase with hS1|hE
   ·exact (ih τ).1 L' g1' gs2 w1 (t' ++ ops) q' Sh sl' hS1 hrel1 hI1 hF2
   ·exact (hSp L' _ g1' gs2 _ w1 (t' ++ ops) q' Sh sl' hE (hl τ) hrel1 hI1 hF2).bind fun m t ⟨gs3,w3,sl3,q3,Sh3,L3,g2,g2',u2,hm,hF3,hpath,hnf,hS3,hW3,hI3⟩=>by
     subst hm;refine (ih τ).2 g2 u2 hpath hnf ?_ L3 g2' gs3 w3 t q3 Sh3 sl3 hS3 hW3 hI3 hF3;obtain ⟨_,_,_,_,_,cs3,_,hl3,_⟩:=hS3;rw [hl3];simp [G]
  refine ⟨hclaim,fun g2 u2 h hnf hc=>?_⟩;cases h with
  |nil h=>exact hclaim.congr (t:=u2.tape) h.symm
  |cons τ h1 h2 =>
   have h3:=(hs τ).symm.trans h1;injection h3 with e1 e2 e3
   subst e1;exact (ih τ).2 g2 u2 (h2.congr e2) hnf hc
end
end Go.Mt
