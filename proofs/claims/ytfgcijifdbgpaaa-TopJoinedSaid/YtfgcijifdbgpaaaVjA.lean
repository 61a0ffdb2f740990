/- The theorem of TopJoined, proved; part 1 of 7: its texts, merged. -/
import Derived.Calls
import Derived.Conc.Beside
import Derived.Laws.Sem
import Derived.Conc.CrowdRun
import Derived.Conc.CommBuf
set_option linter.unnecessarySimpa false
set_option linter.defProp false
set_option linter.unusedVariables false
set_option linter.unusedSimpArgs false
set_option linter.unusedSectionVars false
set_option maxRecDepth 100000
set_option maxHeartbeats 8000000
namespace Go
theorem zDo {p:Prop} [Decidable p] (h:decide p=true):p:=of_decide_eq_true h
theorem zDt {p:Prop} [Decidable p] (h:p):decide p=true:=decide_eq_true h
theorem zDf {p:Prop} [Decidable p] (h:¬p):decide p=false:=decide_eq_false h
theorem zLe (n:Nat):n≤n:=Nat.le_refl n
theorem zSi.{u} {α:Type u} {a b:α} (h:some a=some b):a=b:=Option.some.inj h
theorem zGe.{u} {α:Type u} {a:α} {i:Nat} {xs:Array α} (h:xs[i]?=some a):∃ h:i<xs.size,xs[i]=a:=Array.getElem?_eq_some_iff.1 h
end Go
namespace Go.Tr
structure Cfg where
 N:Nat
 Rd:Nat->Prop
 Wr:Nat->Prop
 al:List (Nat × Nat)
 ro:Nat->Nat->Nat->Prop
def RelB0 (K:Cfg) (L:List Nat) (b b':Nat):Prop:=(K.Rd b∧b<K.N∧b'=b)∨∃ j,b=K.N+j∧L[j]?=some b'∧K.N≤b'
def RelB (K:Cfg) (L:List Nat) (b b' s:Nat):Prop:=(s=0∧RelB0 K L b b')∨(∃ j,b=K.N+j∧K.al[j]?=some (b',s))∨K.ro b b' s
def strB:Value->Bool
 |.string _=>true
 |_=>false
def y1m:Value->Bool
 |.bool _|.int _ _=>true
 |.slice a _ _=>a.isNone
 |.map r=>r.isNone
 |.iface _ v=>strB v
 |.tuple cs=>cs.isEmpty
 |.string _=>true
 |.nilFunc=>true
 |_=>false
def cloT:List (Nat × Nat):=[(16,0),(18,1),(74,1),(75,1),(76,1),(89,1),(96,1)]
def junkB:Value->Bool
 |.pointer _|.bool _=>false
 |_=>true
inductive RelT (K:Cfg) (L:List Nat):Value->Value->Prop
 |ptr {a a':Addr} {s:Nat}:RelB K L a.block a'.block s->a'.off=a.off+s->a'.spot=a.spot->RelT K L (.pointer (some a)) (.pointer (some a'))
 |flat {v:Value}:y1m v=true->RelT K L v v
 |junk {v v':Value}:junkB v=true->junkB v'=true->RelT K L v v'
inductive RelC (K:Cfg) (L:List Nat):Value->Value->Prop
 |flat {v:Value}:y1m v=true->RelC K L v v
 |slice {a a':Addr} {n c s:Nat}:RelB K L a.block a'.block s->a'.off=a.off+s->a'.spot=a.spot->RelC K L (.slice (some a) n c) (.slice (some a') n c)
 |map {r r':Nat}:RelB K L r r' 0->RelC K L (.map (some r)) (.map (some r'))
 |func {f:Nat} {cs cs':Array Value}:(f,cs.size) ∈ cloT->cs'.size=cs.size->(∀ (i:Nat) (v v':Value),cs[i]?=some v->cs'[i]?=some v'->RelT K L v v')->RelC K L (.func (.func f) #[] cs) (.func (.func f) #[] cs')
def RelCs (K:Cfg) (L:List Nat) (cs cs':Array Value):Prop:=cs'.size=cs.size∧∀ (i:Nat) (v v':Value),cs[i]?=some v->cs'[i]?=some v'->RelC K L v v'
inductive RelP (K:Cfg) (L:List Nat):Value->Value->Prop
 |cell {v v':Value}:RelC K L v v'->RelP K L v v'
 |agg {cs cs':Array Value}:RelCs K L cs cs'->RelP K L (.agg cs) (.agg cs')
def RelPs (K:Cfg) (L:List Nat) (cs cs':Array Value):Prop:=cs'.size=cs.size∧∀ (i:Nat) (v v':Value),cs[i]?=some v->cs'[i]?=some v'->RelP K L v v'
inductive RelV (K:Cfg) (L:List Nat):Value->Value->Prop
 |part {v v':Value}:RelP K L v v'->RelV K L v v'
 |tuple {cs cs':Array Value}:RelPs K L cs cs'->RelV K L (.tuple cs) (.tuple cs')
theorem RelC.t {K:Cfg} {L:List Nat} {v v':Value} (h:RelC K L v v'):RelT K L v v':=by
 cases h with
 |flat h=>exact .flat h
 |slice _ _ _=>exact .junk rfl rfl
 |map _=>exact .junk rfl rfl
 |func _ _ _=>exact .junk rfl rfl
theorem RelP.t {K:Cfg} {L:List Nat} {v v':Value} (h:RelP K L v v'):RelT K L v v':=by
 cases h with
 |cell h=>exact h.t
 |agg _=>exact .junk rfl rfl
theorem RelT.val {K:Cfg} {L:List Nat} {v v':Value} (h:RelV K L v v'):RelT K L v v':=by
 cases h with
 |part h=>exact h.t
 |tuple _=>exact .junk rfl rfl
structure RelE (K:Cfg) (L:List Nat) (es es':Array MapEntry):Prop where
 size:es'.size=es.size
 at_:∀ (i:Nat) (e e':MapEntry),es[i]?=some e->es'[i]?=some e'->RelP K L e.key e'.key∧RelP K L e.val e'.val∧e'.born=e.born
inductive RelO (K:Cfg) (L:List Nat):Obj->Obj->Prop
 |cells {c c':Array Value} {e:TypeId} {fr:Nat × Nat}:RelCs K L c c'->RelO K L (.cells c e fr) (.cells c' e fr)
 |map {es es':Array MapEntry} {clock:Nat}:RelE K L es es'->RelO K L (.map es clock) (.map es' clock)
 |iter {s:ByteArray} {p:Nat}:RelO K L (.stringIter s p) (.stringIter s p)
section mono
variable {K:Cfg} {L L':List Nat}
theorem ybr {j x:Nat} (h:L <+: L') (hj:L[j]?=some x):L'[j]?=some x:=by
 obtain ⟨t,rfl⟩:=h;rw [List.getElem?_append_left (List.getElem?_eq_some_iff.1 hj).1];exact hj
theorem RelB0.mono {b b':Nat} (h:RelB0 K L b b') (hp:L <+: L'):RelB0 K L' b b':=h.imp id fun ⟨j,e,hj,hn⟩=>⟨j,e,ybr hp hj,hn⟩
theorem RelB.mono {b b' s:Nat} (h:RelB K L b b' s) (hp:L <+: L'):RelB K L' b b' s:=h.imp (fun ⟨e,h⟩=>⟨e,h.mono hp⟩) id
theorem RelT.mono {v v':Value} (h:RelT K L v v') (hp:L <+: L'):RelT K L' v v':=by
 cases h with
 |ptr h1 h2 h3=>exact .ptr (h1.mono hp) h2 h3
 |flat h=>exact .flat h
 |junk h1 h2=>exact .junk h1 h2
theorem RelC.mono {v v':Value} (h:RelC K L v v') (hp:L <+: L'):RelC K L' v v':=by
 cases h with
 |flat h=>exact .flat h
 |slice h1 h2 h3=>exact .slice (h1.mono hp) h2 h3
 |map h=>exact .map (h.mono hp)
 |func h1 h2 h3=>exact .func h1 h2 fun i a b ha hb=>(h3 i a b ha hb).mono hp
theorem RelCs.mono {v v':Array Value} (h:RelCs K L v v') (hp:L <+: L'):RelCs K L' v v':=⟨h.1,fun i a b ha hb=>(h.2 i a b ha hb).mono hp⟩
theorem RelP.mono {v v':Value} (h:RelP K L v v') (hp:L <+: L'):RelP K L' v v':=by
 cases h with
 |cell h=>exact .cell (h.mono hp)
 |agg h=>exact .agg (h.mono hp)
theorem RelPs.mono {v v':Array Value} (h:RelPs K L v v') (hp:L <+: L'):RelPs K L' v v':=⟨h.1,fun i a b ha hb=>(h.2 i a b ha hb).mono hp⟩
theorem RelV.mono {v v':Value} (h:RelV K L v v') (hp:L <+: L'):RelV K L' v v':=by
 cases h with
 |part h=>exact .part (h.mono hp)
 |tuple h=>exact .tuple (h.mono hp)
theorem RelE.mono {v v':Array MapEntry} (h:RelE K L v v') (hp:L <+: L'):RelE K L' v v' :=
 ⟨h.size,fun i a b ha hb=>let ⟨x,y,z⟩:=h.at_ i a b ha hb;⟨x.mono hp,y.mono hp,z⟩⟩
theorem RelO.mono {v v':Obj} (h:RelO K L v v') (hp:L <+: L'):RelO K L' v v':=by
 cases h with
 |cells h=>exact .cells (h.mono hp)
 |map h=>exact .map (h.mono hp)
 |iter=>exact .iter
end mono
def In (K:Cfg) (L:List Nat) (b:Nat):Prop:=b ∈ L∧K.N≤b
theorem In.mono {K:Cfg} {L L':List Nat} {b:Nat} (h:In K L b) (hp:L <+: L'):In K L' b:=⟨List.IsPrefix.subset hp h.1,h.2⟩
def RelSh (K:Cfg) (L:List Nat) (s:Nat) (cs cs':Array Value):Prop:=∀ (i:Nat) (v:Value),cs[i]?=some v->∃ v',cs'[i+s]?=some v'∧RelC K L v v'
theorem RelSh.mono {K:Cfg} {L L':List Nat} {s:Nat} {v v':Array Value} (h:RelSh K L s v v') (hp:L <+: L'):RelSh K L' s v v':=fun i a ha=>let ⟨b,hb,hr⟩:=h i a ha;⟨b,hb,hr.mono hp⟩
theorem RelCs.sh {K:Cfg} {L:List Nat} {cs cs':Array Value} (h:RelCs K L cs cs'):RelSh K L 0 cs cs':=fun i v hv=>by
 have hl:i<cs'.size:=by rw [h.1];exact (zGe hv).1
 exact ⟨_,Array.getElem?_eq_getElem hl,h.2 i v _ hv (Array.getElem?_eq_getElem hl)⟩
structure WRel (K:Cfg) (L:List Nat) (u w:World):Prop where
 usize:u.heap.size=K.N+L.length
 wsize:K.N≤w.heap.size
 os:u.os=w.os
 output:u.output=w.output
 fresh:∀ (j b:Nat),L[j]?=some b->b<w.heap.size
 new:∀ (j b:Nat),L[j]?=some b->K.N≤b->∃ o o',u.heap[K.N+j]?=some o∧w.heap[b]?=some o'∧RelO K L o o'
 nodup:∀ (i j b:Nat),L[i]?=some b->L[j]?=some b->K.N≤b->i=j
 old:∀ b:Nat,K.Rd b->b<K.N->∃ c c' e fr fr',u.heap[b]?=some (.cells c e fr)∧w.heap[b]?=some (.cells c' e fr')∧RelCs K L c c'∧(K.Wr b->fr=fr')∧(¬ K.Wr b->fr=(0,c.size))
 wr:∀ b,K.Wr b->K.Rd b
 ali:∀ (j b' s:Nat),K.al[j]?=some (b',s)->b'<K.N∧¬ K.Wr b'∧(∃ x,L[j]?=some x∧x<K.N)∧∃ c c' e e' fr',u.heap[K.N+j]?=some (.cells c e (0,c.size))∧w.heap[b']?=some (.cells c' e' fr')∧RelSh K L s c c'
 roa:∀ (b b' s:Nat),K.ro b b' s->b<K.N∧¬ K.Rd b∧b'<K.N∧¬ K.Wr b'∧∃ c c' e e' fr',u.heap[b]?=some (.cells c e (0,c.size))∧(0<c.size->w.heap[b']?=some (.cells c' e' fr'))∧RelSh K L s c c'
section
variable {K:Cfg} {L:List Nat} {u w:World}
theorem WRel.fn (_h:WRel K L u w) {b b1 b2:Nat} (h1:RelB0 K L b b1) (h2:RelB0 K L b b2):b1=b2:=by
 rcases h1 with ⟨_,hl,rfl⟩|⟨j,rfl,hj,_⟩<;>rcases h2 with ⟨_,hl2,rfl⟩|⟨i,e,hi,_⟩
 ·rfl
 ·omega
 ·omega
 ·obtain rfl:j=i:=by omega
  exact zSi (hj.symm.trans hi)
theorem WRel.inj (h:WRel K L u w) {b b1 b2:Nat} (h1:RelB0 K L b1 b) (h2:RelB0 K L b2 b):b1=b2:=by
 rcases h1 with ⟨_,hl,rfl⟩|⟨j,rfl,hj,hn⟩<;>rcases h2 with ⟨_,hl2,e⟩|⟨i,rfl,hi,hn2⟩
 ·exact e
 ·omega
 ·omega
 ·rw [h.nodup j i b hj hi hn]
theorem WRel.obj (h:WRel K L u w) {b b' s:Nat} (hb:RelB K L b b' s) :
  (∃ c c' e e' fr fr',u.heap[b]?=some (.cells c e fr)∧(0<c.size->w.heap[b']?=some (.cells c' e' fr'))∧RelSh K L s c c'∧((In K L b'∨K.Wr b')->s=0∧RelB0 K L b b'∧e=e'∧RelCs K L c c'∧fr=fr')∧(¬ (In K L b'∨K.Wr b')->fr=(0,c.size))) ∨
  (∃ es es' clock,u.heap[b]?=some (.map es clock)∧w.heap[b']?=some (.map es' clock)∧RelE K L es es'∧In K L b'∧RelB0 K L b b') ∨
  (∃ st p,u.heap[b]?=some (.stringIter st p)∧w.heap[b']?=some (.stringIter st p)∧In K L b'∧RelB0 K L b b'):=by
 rcases hb with ⟨rfl,hb⟩|⟨j,rfl,hj⟩|hro
 ·have hb0:=hb
  rcases hb with ⟨hr,hl,rfl⟩|⟨j,rfl,hj,hnn⟩
  ·obtain ⟨c,c',e,fr,fr',h1,h2,h3,h4,h5⟩:=h.old b' hr hl
   have hn:¬ In K L b':=fun hm=>by
    have:=hm.2;omega
   exact .inl ⟨c,c',e,e,fr,fr',h1,fun _=>h2,h3.sh,fun x=>⟨rfl,hb0,rfl,h3,h4 (x.resolve_left hn)⟩,fun x=>h5 (fun y=>x (.inr y))⟩
  ·obtain ⟨o,o',h1,h2,h3⟩:=h.new j b' hj hnn
   have hm:In K L b':=⟨List.mem_iff_getElem?.2 ⟨j,hj⟩,hnn⟩
   cases h3 with
   |cells h3=>exact .inl ⟨_,_,_,_,_,_,h1,fun _=>h2,h3.sh,fun _=>⟨rfl,hb0,rfl,h3,rfl⟩,fun x=>absurd (.inl hm) x⟩
   |map h3=>exact .inr (.inl ⟨_,_,_,h1,h2,h3,hm,hb0⟩)
   |iter=>exact .inr (.inr ⟨_,_,h1,h2,hm,hb0⟩)
 ·obtain ⟨hl,hw,_,c,c',e,e',fr',h1,h2,h3⟩:=h.ali j b' s hj
  have hn:¬ (In K L b'∨K.Wr b'):=fun hm=>hm.elim (fun hm=>by have:=hm.2;omega) hw
  exact .inl ⟨c,c',e,e',_,fr',h1,fun _=>h2,h3,fun x=>absurd x hn,fun _=>rfl⟩
 ·obtain ⟨_,_,hl,hw,c,c',e,e',fr',h1,h2,h3⟩:=h.roa b b' s hro
  have hn:¬ (In K L b'∨K.Wr b'):=fun hm=>hm.elim (fun hm=>by have:=hm.2;omega) hw
  exact .inl ⟨c,c',e,e',_,fr',h1,h2,h3,fun x=>absurd x hn,fun _=>rfl⟩
end
theorem WRel.odd {K:Cfg} {L:List Nat} {u w:World} (h:WRel K L u w) {r r' s:Nat} (ho:(∃ j,r=K.N+j∧K.al[j]?=some (r',s))∨K.ro r r' s):∃ c e fr,u.heap[r]?=some (.cells c e fr):=by
 rcases ho with ⟨j,rfl,hj⟩|hro
 ·obtain ⟨_,_,_,c,c',e,e',fr',h1,_⟩:=h.ali j r' s hj
  exact ⟨c,e,_,h1⟩
 ·obtain ⟨_,_,_,_,c,c',e,e',fr',h1,_⟩:=h.roa r r' s hro
  exact ⟨c,e,_,h1⟩
def y0z:Halt->Prop
 |.panic _|.stuck _=>True
 |.unsupported (.initOrder _)=>False
 |.unsupported _=>True
 |_=>False
inductive EvK (K:Cfg) (L:List Nat):Event->Prop
 |read {a:Addr} {b s:Nat}:RelB K L b a.block s->EvK K L ⟨.cell a,false,false⟩
 |write {a:Addr}:(In K L a.block∨K.Wr a.block)->EvK K L ⟨.cell a,true,false⟩
 |map {r:Nat} {wr:Bool}:In K L r->EvK K L ⟨.obj r,wr,false⟩
 |room:EvK K L ⟨.mark .noRoom,false,true⟩
theorem EvK.mono {K:Cfg} {L L':List Nat} {e:Event} (h:EvK K L e) (hp:L <+: L'):EvK K L' e:=by
 have hm:∀ b,In K L b->In K L' b:=fun b hb=>hb.mono hp
 cases h with
 |read h=>exact .read (h.mono hp)
 |write h=>exact .write (h.imp (hm _) id)
 |map h=>exact .map (hm _ h)
 |room=>exact .room
abbrev wf (P:Program) (F:Array Func):Program:={ P with funcs:=F }
inductive RelS (P:Program) (F:Array Func) (K:Cfg) {α:Type} (RA:List Nat->α->α->Prop):List Nat->Sem α->Sem α->Prop
 |pure {L:List Nat} {a a':α}:RA L a a'->RelS P F K RA L (.pure a) (.pure a')
 |load {L:List Nat} {a a':Addr} {s:Nat} {k k':Value->Sem α}:RelB K L a.block a'.block s->a'.off=a.off+s->a'.spot=a.spot->(∀ v v',RelC K L v v'->RelS P F K RA L (k v) (k' v'))->RelS P F K RA L (.load .plain a k) (.load .plain a' k')
 |store {L:List Nat} {a a':Addr} {s:Nat} {v v':Value} {k k':Sem α}:RelB K L a.block a'.block s->a'.off=a.off+s->a'.spot=a.spot->RelC K L v v'->RelS P F K RA L k k'->RelS P F K RA L (.store .plain a v k) (.store .plain a' v' k')
 |new {L:List Nat} {o o':Obj} {k k':Nat->Sem α}:RelO K L o o'->(∀ b',K.N≤b'->RelS P F K RA (L ++ [b']) (k (K.N+L.length)) (k' b'))->RelS P F K RA L (.new o k) (.new o' k')
 |getMap {L:List Nat} {r r':Nat} {k k':Obj->Sem α}:RelB K L r r' 0->(∀ st p w,∃ h w',(k (.stringIter st p)).run P w=.halt h w'∧y0z h)->(∀ es es' clock,RelE K L es es'->RelS P F K RA L (k (.map es clock)) (k' (.map es' clock)))->RelS P F K RA L (.getObj r k) (.getObj r' k')
 |getIter {L:List Nat} {r r':Nat} {k k':Obj->Sem α}:RelB K L r r' 0->(∀ es cl w,∃ h w',(k (.map es cl)).run P w=.halt h w'∧y0z h)->(∀ st p,RelS P F K RA L (k (.stringIter st p)) (k' (.stringIter st p)))->RelS P F K RA L (.getObj r k) (.getObj r' k')
 |getOdd {L:List Nat} {r r' s:Nat} {k:Obj->Sem α} {t':Sem α}:((∃ j,r=K.N+j∧K.al[j]?=some (r',s))∨K.ro r r' s)->RelS P F K RA L (.getObj r k) t'
 |setIter {L:List Nat} {r r':Nat} {st:ByteArray} {p:Nat} {k k':Sem α}:RelB K L r r' 0->RelS P F K RA L k k'->RelS P F K RA L (.setObj r (.stringIter st p) k) (.setObj r' (.stringIter st p) k')
 |setMap {L:List Nat} {r r':Nat} {es es':Array MapEntry} {clock:Nat} {k k':Sem α}:RelB K L r r' 0->RelE K L es es'->RelS P F K RA L k k'->RelS P F K RA L (.setObj r (.map es clock) k) (.setObj r' (.map es' clock) k')
 |choose {L:List Nat} {q:Question} {k k':Nat->Sem α}:(∀ n,RelS P F K RA L (k n) (k' n))->RelS P F K RA L (.choose q k) (.choose q k')
 |program {L:List Nat} {k k':Program->Sem α}:RelS P F K RA L (k P) (k' (wf P F))->RelS P F K RA L (.program k) (.program k')
 |room {L:List Nat} {k k':Sem α}:RelS P F K RA L k k'->RelS P F K RA L (.mark .noRoom k) (.mark .noRoom k')
 |doomed {L:List Nat} {s s':Sem α}:(∀ w,∃ h w',s.run P w=.halt h w'∧y0z h)->RelS P F K RA L s s'
structure StepK (K:Cfg) (L L':List Nat) (w w':World):Prop where
 tape:w'.tape=w.tape
 os:w'.os=w.os
 output:w'.output=w.output
 size:w'.heap.size+L.length=w.heap.size+L'.length
 pre:L <+: L'
 news:∀ (j b:Nat),L'[j]?=some b->L.length≤j->w.heap.size≤b
 block:∀ b,b<w.heap.size->¬ In K L' b->¬ K.Wr b->w'.heap[b]?=w.heap[b]?
theorem StepK.refl (K:Cfg) (L:List Nat) (w:World):StepK K L L w w :=
 ⟨rfl,rfl,rfl,rfl,List.prefix_refl L,fun j b hj hl=>by have:=(List.getElem?_eq_some_iff.1 hj).1;omega,fun _ _ _ _=>rfl⟩
theorem StepK.trans {K:Cfg} {L1 L2 L3:List Nat} {w1 w2 w3:World} (h:StepK K L1 L2 w1 w2) (k:StepK K L2 L3 w2 w3):StepK K L1 L3 w1 w3:=by
 have hl:=List.IsPrefix.length_le h.pre;have hs1:=h.size;have hs2:=k.size;refine ⟨k.tape.trans h.tape,k.os.trans h.os,k.output.trans h.output,by omega,h.pre.trans k.pre,fun j b hj hl'=>?_,fun b hb hn hw=>?_⟩
 ·by_cases hj2:j<L2.length
  ·have:L2[j]?=some b:=by
    obtain ⟨t,rfl⟩:=k.pre
    rwa [List.getElem?_append_left hj2] at hj
   exact h.news j b this hl'
  ·have:=k.news j b hj (by omega)
   omega
 ·have hs:w1.heap.size≤w2.heap.size:=by omega
  rw [k.block b (by omega) hn hw,h.block b hb (fun hm=>hn (hm.mono k.pre)) hw]
theorem RelCs.set {K:Cfg} {L:List Nat} {cs cs':Array Value} (h:RelCs K L cs cs') {v v':Value} (hv:RelC K L v v') (i:Nat):RelCs K L (cs.setIfInBounds i v) (cs'.setIfInBounds i v'):=by
 refine ⟨by simp [h.1],fun j a b ha hb=>?_⟩;rw [Array.getElem?_setIfInBounds] at ha hb
 by_cases hij:i=j
 ·subst hij
  rw [if_pos rfl] at ha hb
  by_cases hi:i<cs.size
  ·rw [if_pos hi] at ha
   rw [if_pos (by rw [h.1];exact hi)] at hb;obtain rfl:=zSi ha;obtain rfl:=zSi hb;exact hv
  ·rw [if_neg hi] at ha
   cases ha
 ·rw [if_neg hij] at ha hb
  exact h.2 j a b ha hb
section
variable {K:Cfg} {L:List Nat} {u w:World}
theorem WRel.put (h:WRel K L u w) {b b':Nat} (hb:RelB0 K L b b') {u' w':World} {o o':Obj}
  (hu:∀ i,u'.heap[i]?=if i=b then some o else u.heap[i]?) (hw:∀ i,w'.heap[i]?=if i=b' then some o' else w.heap[i]?)
  (hus:u'.heap.size=u.heap.size) (hws:w'.heap.size=w.heap.size) (ho:u'.os=u.os) (ho2:w'.os=w.os) (hp:u'.output=u.output) (hp2:w'.output=w.output)
  (hO:(In K L b'∧RelO K L o o')∨(∃ c c' e fr fr',o=.cells c e fr∧o'=.cells c' e fr'∧RelCs K L c c'∧fr=fr'∧K.Wr b∧¬ In K L b')):WRel K L u' w':=by
 refine ⟨hus.trans h.usize,by rw [hws];exact h.wsize,by rw [ho,ho2,h.os],by rw [hp,hp2,h.output],fun j x hj=>by rw [hws];exact h.fresh j x hj,fun j x hj hnx=>?_,h.nodup,fun x hx hl=>?_,h.wr,fun j x s hj=>?_,fun y x s hj=>?_⟩
 ·by_cases hxb:x=b'
  ·subst hxb
   have hbj:K.N+j=b:=h.inj (.inr ⟨j,rfl,hj,hnx⟩) hb;rw [hu,hw,if_pos hbj,if_pos rfl];rcases hO with ⟨_,hO⟩|⟨c,c',e,fr,fr',_,_,_,_,_,hn⟩
   ·exact ⟨o,o',rfl,rfl,hO⟩
   ·exact absurd ⟨List.mem_iff_getElem?.2 ⟨j,hj⟩,hnx⟩ hn
  ·have hbj:K.N+j≠b:=fun e=>hxb (h.fn (b:=b) (.inr ⟨j,e.symm,hj,hnx⟩) hb)
   rw [hu,hw,if_neg hbj,if_neg hxb];exact h.new j x hj hnx
 ·by_cases hxb:x=b
  ·subst hxb
   obtain rfl:=h.fn (.inl ⟨hx,hl,rfl⟩) hb;rw [hu,hw,if_pos rfl,if_pos rfl];rcases hO with ⟨hm,_⟩|⟨c,c',e,fr,fr',rfl,rfl,h1,h2,h3,_⟩
   ·have:=hm.2
    omega
   ·exact ⟨c,c',e,fr,fr',rfl,rfl,h1,fun _=>h2,fun hn=>absurd h3 hn⟩
  ·have hxb':x≠b':=fun e=>hxb (h.inj (b:=b') (.inl ⟨hx,hl,e.symm⟩) hb)
   rw [hu,hw,if_neg hxb,if_neg hxb'];exact h.old x hx hl
 ·obtain ⟨hl,hnw,⟨y,hy,hyl⟩,c,c',e,e',fr',h1,h2,h3⟩:=h.ali j x s hj
  refine ⟨hl,hnw,⟨y,hy,hyl⟩,c,c',e,e',fr',?_,?_,h3⟩
  ·rw [hu,if_neg ?_]
   ·exact h1
   ·rintro rfl
    rcases hb with ⟨_,hb2,_⟩|⟨i,e2,hi,hn⟩
    ·omega
    ·obtain rfl:j=i:=by omega
     obtain rfl:=zSi (hy.symm.trans hi);omega
  ·rw [hw,if_neg ?_]
   ·exact h2
   ·rintro rfl
    rcases hO with ⟨hm,_⟩|⟨_,_,_,_,_,_,_,_,_,hwr,hni⟩
    ·have:=hm.2
     omega
    ·rcases hb with ⟨_,_,rfl⟩|⟨i,_,hi,hn⟩
     ·exact hnw hwr
     ·exact hni ⟨List.mem_iff_getElem?.2 ⟨i,hi⟩,hn⟩
 ·obtain ⟨hyl,hyr,hl,hnw,c,c',e,e',fr',h1,h2,h3⟩:=h.roa y x s hj
  refine ⟨hyl,hyr,hl,hnw,c,c',e,e',fr',?_,?_,h3⟩
  ·rw [hu,if_neg ?_]
   ·exact h1
   ·rintro rfl
    rcases hb with ⟨hb1,_,_⟩|⟨i,e2,hi,hn⟩
    ·exact hyr hb1
    ·omega
  ·intro hpos
   rw [hw,if_neg ?_]
   ·exact h2 hpos
   ·rintro rfl
    rcases hO with ⟨hm,_⟩|⟨_,_,_,_,_,_,_,_,_,hwr,hni⟩
    ·have:=hm.2
     omega
    ·rcases hb with ⟨_,_,rfl⟩|⟨i,_,hi,hn⟩
     ·exact hnw hwr
     ·exact hni ⟨List.mem_iff_getElem?.2 ⟨i,hi⟩,hn⟩
theorem y1n (w:World) (a:Addr) (v:Value) {c:Array Value} {e:TypeId} {fr:Nat × Nat} (h:w.heap[a.block]?=some (.cells c e fr)) (i:Nat) :
  (w.setCell a v).heap[i]?=if i=a.block then some (.cells (if a.spot.isSome then c else c.setIfInBounds a.off v) e fr) else w.heap[i]?:=by
 unfold World.setCell;simp only [Array.getElem?_modify]
 by_cases hi:a.block=i
 ·subst hi
  rw [if_pos rfl,if_pos rfl,h];rfl
 ·rw [if_neg hi,if_neg (Ne.symm hi)]
theorem y0k (w:World) (r:Nat) (o:Obj) {o0:Obj} (h:w.heap[r]?=some o0) (i:Nat):({ w with heap:=w.heap.setIfInBounds r o }:World).heap[i]?=if i=r then some o else w.heap[i]?:=by
 show (w.heap.setIfInBounds r o)[i]?=_;rw [Array.getElem?_setIfInBounds]
 by_cases hi:r=i
 ·subst hi
  rw [if_pos rfl,if_pos rfl,if_pos (zGe h).1]
 ·rw [if_neg hi,if_neg (Ne.symm hi)]
theorem WRel.push (h:WRel K L u w) {o o':Obj} (ho:RelO K L o o'):WRel K (L ++ [w.heap.size]) { u with heap:=u.heap.push o } { w with heap:=w.heap.push o' }:=by
 have hp:L <+: L ++ [w.heap.size]:=List.prefix_append _ _;have get:∀ (j x:Nat),(L ++ [w.heap.size])[j]?=some x->(L[j]?=some x)∨(j=L.length∧x=w.heap.size):=by
  intro j x hj
  by_cases hjl:j<L.length
  ·rw [List.getElem?_append_left hjl] at hj
   exact .inl hj
  ·rw [List.getElem?_append_right (by omega)] at hj
   have:=(List.getElem?_eq_some_iff.1 hj).1;simp at this;have hj0:j=L.length:=by omega
   subst hj0;simp at hj;exact .inr ⟨rfl,hj.symm⟩
 refine ⟨?_,?_,h.os,h.output,fun j x hj=>?_,fun j x hj hnx=>?_,fun i j x hi hj hnx=>?_,fun b hb hl=>?_,h.wr,fun j x s hj=>?_,fun y x s hj=>?_⟩
 ·show (u.heap.push o).size=_
  rw [Array.size_push,h.usize,List.length_append];rfl
 ·show K.N≤(w.heap.push o').size
  rw [Array.size_push];have:=h.wsize;omega
 ·show x<(w.heap.push o').size
  rw [Array.size_push];rcases get j x hj with hj|⟨_,rfl⟩
  ·have:=h.fresh j x hj
   omega
  ·have:=h.wsize
   omega
 ·show ∃ o1 o2,(u.heap.push o)[K.N+j]?=some o1∧(w.heap.push o')[x]?=some o2∧_
  rcases get j x hj with hj|⟨rfl,rfl⟩
  ·obtain ⟨o1,o2,h1,h2,h3⟩:=h.new j x hj hnx
   have l1:=(zGe h1).1;have l2:=(zGe h2).1;refine ⟨o1,o2,?_,?_,h3.mono hp⟩
   ·rw [Array.getElem?_push,if_neg (by omega)];exact h1
   ·rw [Array.getElem?_push,if_neg (by omega)];exact h2
  ·refine ⟨o,o',?_,?_,ho.mono hp⟩
   ·rw [Array.getElem?_push,if_pos (by rw [h.usize])]
   ·rw [Array.getElem?_push,if_pos rfl]
 ·rcases get i x hi with hi|⟨rfl,rfl⟩<;>rcases get j _ hj with hj|⟨rfl,e⟩
  ·exact h.nodup i j x hi hj hnx
  ·subst e
   have:=h.fresh i _ hi;omega
  ·have:=h.fresh j _ hj
   omega
  ·rfl
 ·obtain ⟨c,c',e,fr,fr',h1,h2,h3,h4,h5⟩:=h.old b hb hl
  have l1:=(zGe h1).1;have l2:=(zGe h2).1;refine ⟨c,c',e,fr,fr',?_,?_,h3.mono hp,h4,h5⟩
  ·show (u.heap.push o)[b]?=_
   rw [Array.getElem?_push,if_neg (by omega)];exact h1
  ·show (w.heap.push o')[b]?=_
   rw [Array.getElem?_push,if_neg (by omega)];exact h2
 ·obtain ⟨hl,hnw,⟨y,hy,hyl⟩,c,c',e,e',fr',h1,h2,h3⟩:=h.ali j x s hj
  have l1:=(zGe h1).1;have l2:=(zGe h2).1;refine ⟨hl,hnw,⟨y,ybr hp hy,hyl⟩,c,c',e,e',fr',?_,?_,h3.mono hp⟩
  ·show (u.heap.push o)[K.N+j]?=_
   rw [Array.getElem?_push,if_neg (by omega)];exact h1
  ·show (w.heap.push o')[x]?=_
   rw [Array.getElem?_push,if_neg (by omega)];exact h2
 ·obtain ⟨hyl,hyr,hl,hnw,c,c',e,e',fr',h1,h2,h3⟩:=h.roa y x s hj
  have l1:=(zGe h1).1;have l2:=h.wsize;refine ⟨hyl,hyr,hl,hnw,c,c',e,e',fr',?_,?_,h3.mono hp⟩
  ·show (u.heap.push o)[y]?=_
   rw [Array.getElem?_push,if_neg (by omega)];exact h1
  ·intro hpos
   show (w.heap.push o')[x]?=_;rw [Array.getElem?_push,if_neg (by omega)];exact h2 hpos
end
end Go.Tr
namespace Go.Tr
structure Ran (K:Cfg) (L:List Nat) {α:Type} (RA:List Nat->α->α->Prop) (P:Program) (s':Sem α) (u w:World) (a:α) (u':World) (L':List Nat) (a':α) (w':World) (es':Array Event):Prop where
 run:∀ es,s'.runT P w es=(.ok a' w',es ++ es')
 val:RA L' a a'
 step:StepK K L L' w w'
 rel:WRel K L' u' w'
 evs:∀ e ∈ es',EvK K L' e
 drawn:∃ c,u'.drawn=u.drawn+c∧w'.drawn=w.drawn+c
 tape:u'.tape=u.tape
theorem WRel.congr {K:Cfg} {L:List Nat} {u w u' w':World} (h:WRel K L u w) (h1:u'.heap=u.heap) (h2:w'.heap=w.heap) (h3:u'.os=u.os) (h4:w'.os=w.os) (h5:u'.output=u.output) (h6:w'.output=w.output):WRel K L u' w' :=
 ⟨by rw [h1];exact h.usize,by rw [h2];exact h.wsize,by rw [h3,h4,h.os],by rw [h5,h6,h.output],by rw [h2];exact h.fresh,by rw [h1,h2];exact h.new,h.nodup,by rw [h1,h2];exact h.old,h.wr,by rw [h1,h2];exact h.ali,by rw [h1,h2];exact h.roa⟩
theorem y1z {w:World} {a:Addr} {c:Array Value} {e:TypeId} {fr:Nat × Nat} (h:w.heap[a.block]?=some (.cells c e fr)):w.cell? a=if a.spot.isSome then none else c[a.off]?:=by
 unfold World.cell?;rw [h]
theorem y3s {w:World} {a:Addr} {es:Array MapEntry} {cl:Nat} (h:w.heap[a.block]?=some (.map es cl)):w.cell? a=none:=by
 unfold World.cell?;rw [h]
theorem y3h {w:World} {a:Addr} {st:ByteArray} {p:Nat} (h:w.heap[a.block]?=some (.stringIter st p)):w.cell? a=none:=by
 unfold World.cell?;rw [h]
theorem y1w {P:Program} {w:World} {a:Addr} {b:Bool} {o:Obj} (h:w.heap[a.block]?=some o) (ho:(∃ c e fr,o=.cells c e fr)∨(∃ es cl,o=.map es cl)∨∃ st p,o=.stringIter st p):∃ hh,w.farLoad P a b=.error hh∧y0z hh:=by
 unfold World.farLoad World.noCell;rw [h];rcases ho with ⟨c,e,fr,rfl⟩|⟨es,cl,rfl⟩|⟨st,p,rfl⟩
 ·exact ⟨_,rfl,trivial⟩
 ·exact ⟨_,rfl,trivial⟩
 ·exact ⟨_,rfl,trivial⟩
theorem y2b {P:Program} {w:World} {a:Addr} {v:Value} {b:Bool} {o:Obj} (h:w.heap[a.block]?=some o) (ho:(∃ c e fr,o=.cells c e fr)∨(∃ es cl,o=.map es cl)∨∃ st p,o=.stringIter st p):∃ hh,w.farStore P a v b=.error hh∧y0z hh:=by
 unfold World.farStore World.noCell;rw [h];rcases ho with ⟨c,e,fr,rfl⟩|⟨es,cl,rfl⟩|⟨st,p,rfl⟩
 ·exact ⟨_,rfl,trivial⟩
 ·exact ⟨_,rfl,trivial⟩
 ·exact ⟨_,rfl,trivial⟩
theorem y2s {w:World} {a:Addr} {c:Array Value} {e:TypeId} {fr:Nat × Nat} (h:w.heap[a.block]?=some (.cells c e fr)):w.frozen? a=(decide (fr.1≤a.off) && decide (a.off<fr.2)):=by
 unfold World.frozen?;rw [h]
section
variable {P:Program} {F:Array Func} {K:Cfg} {α:Type} {RA:List Nat->α->α->Prop} {L:List Nat} {s s':Sem α}
theorem y4x {a:Addr} {v:Value} {k:Sem α} {w:World} (hv:∀ cs,v≠.agg cs∧v≠.tuple cs) :
  Sem.run P (.store .plain a v k) w=match w.cell? a with
   |some _=>if w.frozen? a then .halt (.unsupported (.unsafePointer "a write to bytes that a string shares")) w else k.run P (w.setCell a v)
   |none=>match w.farStore P a v false with
    |.ok (w,_)=>k.run P w
    |.error h=>.halt h w:=by
 cases v<;>first
  |exact absurd rfl (hv _).1
  |exact absurd rfl (hv _).2
  |rfl
theorem ydx {a:Addr} {v:Value} {k:Sem α} {w:World} {es:Array Event} (hv:∀ cs,v≠.agg cs∧v≠.tuple cs) {x:Value} (hc:w.cell? a=some x) (hf:w.frozen? a=false) :
  Sem.runT P (.store .plain a v k) w es=k.runT P (w.setCell a v) (es.push ⟨.cell a,true,false⟩):=by
 cases v<;>first
  |exact absurd rfl (hv _).1
  |exact absurd rfl (hv _).2
  |(simp only [Sem.runT,hc,hf];rfl)
theorem RelC.plain {v v':Value} (h:RelC K L v v'):((∀ cs,v≠.agg cs∧v≠.tuple cs)∧(∀ cs,v'≠.agg cs∧v'≠.tuple cs))∨(v=.tuple #[]∧v'=.tuple #[]):=by
 cases h with
 |flat h =>
  cases v with
  |tuple cs =>
   have h:cs.isEmpty=true:=h;obtain rfl:cs=#[]:=by simpa using h
   exact .inr ⟨rfl,rfl⟩
  |agg cs=>simp [y1m] at h
  |_=>exact .inl ⟨fun _=>⟨by simp,by simp⟩,fun _=>⟨by simp,by simp⟩⟩
 |slice _ _ _=>exact .inl ⟨fun _=>⟨by simp,by simp⟩,fun _=>⟨by simp,by simp⟩⟩
 |map _=>exact .inl ⟨fun _=>⟨by simp,by simp⟩,fun _=>⟨by simp,by simp⟩⟩
 |func _ _ _=>exact .inl ⟨fun _=>⟨by simp,by simp⟩,fun _=>⟨by simp,by simp⟩⟩
theorem RelC.noAgg {v v':Value} (h:RelC K L v v'):(∀ cs,v≠.agg cs)∧(∀ cs,v'≠.agg cs):=by
 rcases h.plain with ⟨h1,h2⟩|⟨rfl,rfl⟩
 ·exact ⟨fun cs=>(h1 cs).1,fun cs=>(h2 cs).1⟩
 ·exact ⟨fun cs=>by simp,fun cs=>by simp⟩
theorem Ran.after {L1 L2:List Nat} {t t':Sem α} {u u1 u2 w w1 w2:World} {a a':α} {es1 es2:Array Event} (hst:StepK K L L1 w w1) (hev:∀ e ∈ es1,EvK K L1 e) (hdr:∃ c,u1.drawn=u.drawn+c∧w1.drawn=w.drawn+c) (htp:u1.tape=u.tape)
  (hrun:∀ es,t.runT P w es=t'.runT P w1 (es ++ es1)) (h:Ran K L1 RA P t' u1 w1 a u2 L2 a' w2 es2):Ran K L RA P t u w a u2 L2 a' w2 (es1 ++ es2):=by
 refine ⟨fun es=>?_,h.val,hst.trans h.step,h.rel,fun e he=>?_,?_,h.tape.trans htp⟩
 ·rw [hrun,h.run,Array.append_assoc]
 ·rcases Array.mem_append.1 he with he|he
  ·exact (hev e he).mono h.step.pre
  ·exact h.evs e he
 ·obtain ⟨c,h1,h2⟩:=hdr
  obtain ⟨d,h3,h4⟩:=h.drawn;exact ⟨c+d,by omega,by omega⟩
theorem RelS.halts (h:RelS P F K RA L s s'):∀ (u w:World),WRel K L u w->∀ hh u',s.run P u=.halt hh u'->y0z hh:=by
 induction h with
 |pure _=>intro u w _ hh u' hr;simp [Sem.run] at hr
 |@load L a a' sh k k' hb ho hs _ ih =>
  intro u w hW hh u' hr;simp only [Sem.run] at hr;rcases hW.obj hb with ⟨c,c',e,e1,fr,fr',h1,h2,h3,_,_⟩|⟨es,es',cl,h1,_,_,_,_⟩|⟨st,pp,h1,h2,hm,hb0⟩
  ·rw [y1z h1] at hr
   by_cases hsp:a.spot.isSome
   ·rw [if_pos hsp] at hr
    obtain ⟨x,hx,hc⟩:=y1w (P:=P) (b:=(Mode.plain == Mode.atomic)) h1 (.inl ⟨_,_,_,rfl⟩);simp only [hx] at hr;injection hr with hr _
    exact hr ▸ hc
   ·rw [if_neg hsp] at hr
    cases hv:c[a.off]? with
    |none =>
     rw [hv] at hr;obtain ⟨x,hx,hc⟩:=y1w (P:=P) (b:=(Mode.plain == Mode.atomic)) h1 (.inl ⟨_,_,_,rfl⟩);simp only [hx] at hr;injection hr with hr _
     exact hr ▸ hc
    |some v =>
     rw [hv] at hr;obtain ⟨v1,hv1,hr1⟩:=h3 a.off v hv;exact ih v v1 hr1 u w hW hh u' hr
  ·rw [y3s h1] at hr
   obtain ⟨x,hx,hc⟩:=y1w (P:=P) (b:=(Mode.plain == Mode.atomic)) h1 (.inr (.inl ⟨_,_,rfl⟩));simp only [hx] at hr;injection hr with hr _
   exact hr ▸ hc
  ·rw [y3h h1] at hr
   obtain ⟨x,hx,hc⟩:=y1w (P:=P) (b:=(Mode.plain == Mode.atomic)) h1 (.inr (.inr ⟨_,_,rfl⟩));simp only [hx] at hr;injection hr with hr _
   exact hr ▸ hc
 |@store L a a' sh v v' k k' hb ho hs hv _ ih =>
  intro u w hW hh u' hr;rcases hv.plain with hpl|⟨rfl,rfl⟩
  case inr =>
   simp only [Sem.run] at hr;injection hr with hr _
   subst hr
   trivial
  rw [y4x hpl.1] at hr;rcases hW.obj hb with ⟨c,c',e,e1,fr,fr',h1,h2,h3,h4,h5⟩|⟨es,es',cl,h1,_,_,_,_⟩|⟨st,pp,h1,h2,hm,hb0⟩
  ·rw [y1z h1] at hr
   have far:∀ {hh u'},(match u.farStore P a v false with|.ok (w,_)=>k.run P w|.error h=>.halt h u)=Result.halt hh u'->y0z hh:=by
    intro hh u' hr;obtain ⟨x,hx,hc⟩:=y2b (P:=P) (v:=v) (b:=false) h1 (.inl ⟨_,_,_,rfl⟩);simp only [hx] at hr;injection hr with hr _
    exact hr ▸ hc
   by_cases hsp:a.spot.isSome
   ·rw [if_pos hsp] at hr
    exact far hr
   ·rw [if_neg hsp] at hr
    cases hx:c[a.off]? with
    |none=>rw [hx] at hr;exact far hr
    |some x =>
     rw [hx] at hr;cases hf:u.frozen? a with
     |true =>
      simp only [hf,if_true] at hr;injection hr with hr _
      subst hr
      trivial
     |false =>
      simp only [hf,Bool.false_eq_true,if_false] at hr;have hlt:a.off<c.size:=(zGe hx).1;replace h2:=h2 (Nat.lt_of_le_of_lt (Nat.zero_le _) hlt);have hown:In K L a'.block∨K.Wr a'.block:=by
       apply Classical.byContradiction;intro hno;have:=h5 hno;rw [y2s h1,this] at hf;simp [hlt] at hf
      obtain ⟨rfl,hb0,rfl,h3s,hfr⟩:=h4 hown;rw [Nat.add_zero] at ho;have hspf:a.spot.isSome=false:=by simpa using hsp
      have hspf':a'.spot.isSome=false:=by rw [hs];exact hspf
      have hWr':WRel K L (u.setCell a v) (w.setCell a' v'):=hW.put hb0 (y1n u a v h1) (y1n w a' v' h2) (by simp [World.setCell]) (by simp [World.setCell]) rfl rfl rfl rfl (by
       rw [hspf,hspf',ho];simp only [Bool.false_eq_true,if_false];subst hfr;rcases Classical.em (In K L a'.block) with hm|hm
       ·exact .inl ⟨hm,.cells (h3s.set hv a.off)⟩
       ·refine .inr ⟨_,_,_,_,_,rfl,rfl,h3s.set hv a.off,rfl,?_,hm⟩
        rcases hb0 with ⟨_,_,e⟩|⟨j,_,hj,hnn⟩
        ·exact e ▸ hown.resolve_left hm
        ·exact absurd ⟨List.mem_iff_getElem?.2 ⟨j,hj⟩,hnn⟩ hm)
      exact ih _ _ hWr' hh u' hr
  ·rw [y3s h1] at hr
   obtain ⟨x,hx,hc⟩:=y2b (P:=P) (v:=v) (b:=false) h1 (.inr (.inl ⟨_,_,rfl⟩));simp only [hx] at hr;injection hr with hr _
   exact hr ▸ hc
  ·rw [y3h h1] at hr
   obtain ⟨x,hx,hc⟩:=y2b (P:=P) (v:=v) (b:=false) h1 (.inr (.inr ⟨_,_,rfl⟩));simp only [hx] at hr;injection hr with hr _
   exact hr ▸ hc
 |@new L o o' k k' ho _ ih =>
  intro u w hW hh u' hr;simp only [Sem.run,hW.usize] at hr;exact ih w.heap.size hW.wsize _ _ (hW.push ho) hh u' hr
 |@getMap L r r' k k' hb hi _ ih =>
  intro u w hW hh u' hr;simp only [Sem.run] at hr;rcases hW.obj hb with ⟨c,c',e,e1,fr,fr',h1,h2,h3,_,_⟩|⟨es,es',cl,h1,h2,h3,_,_⟩|⟨st,pp,h1,h2,hm,hb0⟩
  ·simp only [h1] at hr
   injection hr with hr _
   subst hr
   trivial
  ·simp only [h1] at hr
   exact ih es es' cl h3 u w hW hh u' hr
  ·simp only [h1] at hr
   obtain ⟨x,y,e,hc⟩:=hi st pp u;rw [e] at hr;injection hr with hr _
   exact hr ▸ hc
 |@getIter L r r' k k' hb hi _ ih =>
  intro u w hW hh u' hr;simp only [Sem.run] at hr;rcases hW.obj hb with ⟨c,c',e,e1,fr,fr',h1,h2,h3,_,_⟩|⟨es,es',cl,h1,h2,h3,_,_⟩|⟨st,pp,h1,h2,hm,hb0⟩
  ·simp only [h1] at hr
   injection hr with hr _
   subst hr
   trivial
  ·simp only [h1] at hr
   obtain ⟨x,y,e,hc⟩:=hi es cl u;rw [e] at hr;injection hr with hr _
   exact hr ▸ hc
  ·simp only [h1] at hr
   exact ih st pp u w hW hh u' hr
 |@getOdd L r r' s k t' ho =>
  intro u w hW hh u' hr;obtain ⟨c,e,fr,h1⟩:=hW.odd ho;simp only [Sem.run,h1] at hr;injection hr with hr _
  subst hr
  trivial
 |@setIter L r r' st0 p0 k k' hb _ ih =>
  intro u w hW hh u' hr;simp only [Sem.run] at hr;rcases hW.obj hb with ⟨c,c',e,e1,fr,fr',h1,h2,h3,_,_⟩|⟨es0,es0',cl,h1,h2,h3,hm,hb0⟩|⟨st,pp,h1,h2,hm,hb0⟩
  ·simp only [h1] at hr
   injection hr with hr _
   subst hr
   trivial
  ·simp only [h1] at hr
   have hWr':WRel K L { u with heap:=u.heap.setIfInBounds r (.stringIter st0 p0) } { w with heap:=w.heap.setIfInBounds r' (.stringIter st0 p0) } :=
    hW.put hb0 (y0k u r _ h1) (y0k w r' _ h2) (by simp) (by simp) rfl rfl rfl rfl (.inl ⟨hm,.iter⟩)
   exact ih _ _ hWr' hh u' hr
  ·simp only [h1] at hr
   have hWr':WRel K L { u with heap:=u.heap.setIfInBounds r (.stringIter st0 p0) } { w with heap:=w.heap.setIfInBounds r' (.stringIter st0 p0) } :=
    hW.put hb0 (y0k u r _ h1) (y0k w r' _ h2) (by simp) (by simp) rfl rfl rfl rfl (.inl ⟨hm,.iter⟩)
   exact ih _ _ hWr' hh u' hr
 |@setMap L r r' es es' clock k k' hb he _ ih =>
  intro u w hW hh u' hr;simp only [Sem.run] at hr;rcases hW.obj hb with ⟨c,c',e,e1,fr,fr',h1,h2,h3,_,_⟩|⟨es0,es0',cl,h1,h2,h3,hm,hb0⟩|⟨st,pp,h1,h2,hm,hb0⟩
  ·simp only [h1] at hr
   injection hr with hr _
   subst hr
   trivial
  ·simp only [h1] at hr
   have hWr':WRel K L { u with heap:=u.heap.setIfInBounds r (.map es clock) } { w with heap:=w.heap.setIfInBounds r' (.map es' clock) } :=
    hW.put hb0 (y0k u r _ h1) (y0k w r' _ h2) (by simp) (by simp) rfl rfl rfl rfl (.inl ⟨hm,.map he⟩)
   exact ih _ _ hWr' hh u' hr
  ·simp only [h1] at hr
   have hWr':WRel K L { u with heap:=u.heap.setIfInBounds r (.map es clock) } { w with heap:=w.heap.setIfInBounds r' (.map es' clock) } :=
    hW.put hb0 (y0k u r _ h1) (y0k w r' _ h2) (by simp) (by simp) rfl rfl rfl rfl (.inl ⟨hm,.map he⟩)
   exact ih _ _ hWr' hh u' hr
 |@choose L q k k' _ ih =>
  intro u w hW hh u' hr;simp only [Sem.run] at hr;split at hr
  ·exact ih 0 u w hW hh u' hr
  ·exact ih _ { u with drawn:=u.drawn+1 } w (hW.congr rfl rfl rfl rfl rfl rfl) hh u' hr
 |@program L k k' _ ih =>
  intro u w hW hh u' hr;exact ih u w hW hh u' hr
 |@room L k k' _ ih =>
  intro u w hW hh u' hr;exact ih u w hW hh u' hr
 |@doomed L s s' hd =>
  intro u w hW hh u' hr;obtain ⟨x,y,e,hc⟩:=hd u;rw [e] at hr;injection hr with hr _
  exact hr ▸ hc
theorem RelS.runs (h:RelS P F K RA L s s'):∀ (u w:World),WRel K L u w->(∀ j q,u.tape (u.drawn+j) q=w.tape (w.drawn+j) q)->∀ a u',s.run P u=.ok a u' →
  ∃ L' a' w' es',Ran K L RA (wf P F) s' u w a u' L' a' w' es':=by
 induction h with
 |@pure L a0 a0' hv =>
  intro u w hW ht a u' hr;simp only [Sem.run] at hr;injection hr with h1 h2
  subst h1 h2;exact ⟨L,a0',w,#[],fun es=>by simp [Sem.runT],hv,.refl K L w,hW,by simp,⟨0,rfl,rfl⟩,rfl⟩
 |@load L a a' sh k k' hb ho hs _ ih =>
  intro u w hW ht r u' hr;simp only [Sem.run] at hr;rcases hW.obj hb with ⟨c,c',e,e1,fr,fr',h1,h2,h3,_,_⟩|⟨es,es',cl,h1,_,_,_,_⟩|⟨st,pp,h1,h2,hm,hb0⟩
  ·rw [y1z h1] at hr
   have far:∀ {r u'},(match u.farLoad P a (Mode.plain == Mode.atomic) with|.ok (v,_)=>(k v).run P u|.error h=>.halt h u)=Result.ok r u'->False:=by
    intro r u' hr;obtain ⟨x,hx,_⟩:=y1w (P:=P) (b:=(Mode.plain == Mode.atomic)) h1 (.inl ⟨_,_,_,rfl⟩);simp only [hx] at hr;cases hr
   by_cases hsp:a.spot.isSome
   ·rw [if_pos hsp] at hr
    exact (far hr).elim
   ·rw [if_neg hsp] at hr
    cases hv:c[a.off]? with
    |none=>rw [hv] at hr;exact (far hr).elim
    |some v =>
     rw [hv] at hr;obtain ⟨v1,hv',hr1⟩:=h3 a.off v hv;have hc':w.cell? a'=some v1:=by
      rw [y1z (h2 (Nat.lt_of_le_of_lt (Nat.zero_le _) (zGe hv).1)),hs,if_neg hsp,ho];exact hv'
     obtain ⟨L',x',w',es',hR⟩:=ih v v1 hr1 u w hW ht r u' hr;refine ⟨L',x',w',#[⟨.cell a',false,false⟩] ++ es',Ran.after (.refl K L w) (fun e he=>?_) ⟨0,rfl,rfl⟩ rfl (fun es=>?_) hR⟩
     ·simp at he
      subst he;exact .read hb
     ·simp only [Sem.runT,hc']
      rfl
  ·rw [y3s h1] at hr
   obtain ⟨x,hx,_⟩:=y1w (P:=P) (b:=(Mode.plain == Mode.atomic)) h1 (.inr (.inl ⟨_,_,rfl⟩));simp only [hx] at hr;cases hr
  ·rw [y3h h1] at hr
   obtain ⟨x,hx,_⟩:=y1w (P:=P) (b:=(Mode.plain == Mode.atomic)) h1 (.inr (.inr ⟨_,_,rfl⟩));simp only [hx] at hr;cases hr
 |@store L a a' sh v v' k k' hb ho hs hv _ ih =>
  intro u w hW ht r u' hr;rcases hv.plain with hpl|⟨rfl,rfl⟩
  case inr =>
   simp only [Sem.run] at hr;cases hr
  rw [y4x hpl.1] at hr;rcases hW.obj hb with ⟨c,c',e,e1,fr,fr',h1,h2,h3,h4,h5⟩|⟨es,es',cl,h1,_,_,_,_⟩|⟨st,pp,h1,h2,hm,hb0⟩
  ·rw [y1z h1] at hr
   have far:∀ {r u'},(match u.farStore P a v false with|.ok (w,_)=>k.run P w|.error h=>.halt h u)=Result.ok r u'->False:=by
    intro hh u' hr;obtain ⟨x,hx,_⟩:=y2b (P:=P) (v:=v) (b:=false) h1 (.inl ⟨_,_,_,rfl⟩);simp only [hx] at hr;cases hr
   by_cases hsp:a.spot.isSome
   ·rw [if_pos hsp] at hr
    exact (far hr).elim
   ·rw [if_neg hsp] at hr
    cases hx:c[a.off]? with
    |none=>rw [hx] at hr;exact (far hr).elim
    |some x =>
     rw [hx] at hr;cases hf:u.frozen? a with
     |true=>simp only [hf,if_true] at hr;cases hr
     |false =>
      simp only [hf,Bool.false_eq_true,if_false] at hr;have hlt:a.off<c.size:=(zGe hx).1;replace h2:=h2 (Nat.lt_of_le_of_lt (Nat.zero_le _) hlt);have hown:In K L a'.block∨K.Wr a'.block:=by
       apply Classical.byContradiction;intro hno;have:=h5 hno;rw [y2s h1,this] at hf;simp [hlt] at hf
      obtain ⟨rfl,hb0,rfl,h3s,hfr⟩:=h4 hown;rw [Nat.add_zero] at ho;have hspf:a.spot.isSome=false:=by simpa using hsp
      have hspf':a'.spot.isSome=false:=by rw [hs];exact hspf
      have hWr':WRel K L (u.setCell a v) (w.setCell a' v'):=hW.put hb0 (y1n u a v h1) (y1n w a' v' h2) (by simp [World.setCell]) (by simp [World.setCell]) rfl rfl rfl rfl (by
       rw [hspf,hspf',ho];simp only [Bool.false_eq_true,if_false];subst hfr;rcases Classical.em (In K L a'.block) with hm|hm
       ·exact .inl ⟨hm,.cells (h3s.set hv a.off)⟩
       ·refine .inr ⟨_,_,_,_,_,rfl,rfl,h3s.set hv a.off,rfl,?_,hm⟩
        rcases hb0 with ⟨_,_,e⟩|⟨j,_,hj,hnn⟩
        ·exact e ▸ hown.resolve_left hm
        ·exact absurd ⟨List.mem_iff_getElem?.2 ⟨j,hj⟩,hnn⟩ hm)
      have hl':a.off<c'.size:=by rw [h3s.1];exact hlt
      have hc':w.cell? a'=some c'[a.off]:=by
       rw [y1z h2,hs,if_neg hsp,ho];exact Array.getElem?_eq_getElem hl'
      have hf':w.frozen? a'=false:=by
       rw [y2s h2,ho,← hfr,← y2s h1];exact hf
      obtain ⟨L',x',w',es',hR⟩:=ih _ _ hWr' ht r u' hr;refine ⟨L',x',w',#[⟨.cell a',true,false⟩] ++ es',Ran.after (L1:=L) (w1:=w.setCell a' v') (u1:=u.setCell a v) ⟨rfl,rfl,rfl,by simp [World.setCell],List.prefix_refl L,fun j b hj hl=>by have:=(List.getElem?_eq_some_iff.1 hj).1;omega,fun b hb hn hw=>?_⟩ (fun e he=>?_) ⟨0,rfl,rfl⟩ rfl (fun es=>?_) hR⟩
      ·rw [y1n w a' v' h2,if_neg]
       rintro rfl
       exact hown.elim hn hw
      ·simp at he
       subst he;exact .write hown
      ·rw [ydx hpl.2 hc' hf']
       rfl
  ·rw [y3s h1] at hr
   obtain ⟨x,hx,_⟩:=y2b (P:=P) (v:=v) (b:=false) h1 (.inr (.inl ⟨_,_,rfl⟩));simp only [hx] at hr;cases hr
  ·rw [y3h h1] at hr
   obtain ⟨x,hx,_⟩:=y2b (P:=P) (v:=v) (b:=false) h1 (.inr (.inr ⟨_,_,rfl⟩));simp only [hx] at hr;cases hr
 |@new L o o' k k' ho _ ih =>
  intro u w hW ht r u' hr;simp only [Sem.run,hW.usize] at hr;obtain ⟨L',x',w',es',hR⟩:=ih w.heap.size hW.wsize _ _ (hW.push ho) ht r u' hr;refine ⟨L',x',w',#[] ++ es',Ran.after (L1:=L ++ [w.heap.size]) (u1:={ u with heap:=u.heap.push o }) (w1:={ w with heap:=w.heap.push o' }) ⟨rfl,rfl,rfl,?_,List.prefix_append _ _,fun j b hj hl=>?_,fun b hb hn hw=>?_⟩ (by simp) ⟨0,rfl,rfl⟩ rfl (fun es=>?_) hR⟩
  ·show (w.heap.push o').size+L.length=_
   rw [Array.size_push,List.length_append];simp;omega
  ·rw [List.getElem?_append_right hl] at hj
   have:=(List.getElem?_eq_some_iff.1 hj).1;simp at this;have hj0:j - L.length=0:=by omega
   rw [hj0] at hj;simp at hj;omega
  ·show (w.heap.push o')[b]?=_
   rw [Array.getElem?_push,if_neg (by omega)]
  ·simp only [Sem.runT,Array.append_empty]
 |@getMap L r r' k k' hb hi _ ih =>
  intro u w hW ht a u' hr;simp only [Sem.run] at hr;rcases hW.obj hb with ⟨c,c',e,e1,fr,fr',h1,h2,h3,_,_⟩|⟨es0,es0',cl,h1,h2,h3,hm,hb0⟩|⟨st,pp,h1,h2,hm,hb0⟩
  ·simp only [h1] at hr
   cases hr
  ·simp only [h1] at hr
   obtain ⟨L',x',w',es1,hR⟩:=ih es0 es0' cl h3 u w hW ht a u' hr;refine ⟨L',x',w',#[⟨.obj r',false,false⟩] ++ es1,Ran.after (.refl K L w) (fun e he=>?_) ⟨0,rfl,rfl⟩ rfl (fun es=>?_) hR⟩
   ·simp at he
    subst he;exact .map hm
   ·simp only [Sem.runT,h2]
    rfl
  ·simp only [h1] at hr
   obtain ⟨x,y,e,hc⟩:=hi st pp u;rw [e] at hr;cases hr
 |@getIter L r r' k k' hb hi _ ih =>
  intro u w hW ht a u' hr;simp only [Sem.run] at hr;rcases hW.obj hb with ⟨c,c',e,e1,fr,fr',h1,h2,h3,_,_⟩|⟨es0,es0',cl,h1,h2,h3,hm,hb0⟩|⟨st,pp,h1,h2,hm,hb0⟩
  ·simp only [h1] at hr
   cases hr
  ·simp only [h1] at hr
   obtain ⟨x,y,e,hc⟩:=hi es0 cl u;rw [e] at hr;cases hr
  ·simp only [h1] at hr
   obtain ⟨L',x',w',es1,hR⟩:=ih st pp u w hW ht a u' hr;refine ⟨L',x',w',#[⟨.obj r',false,false⟩] ++ es1,Ran.after (.refl K L w) (fun e he=>?_) ⟨0,rfl,rfl⟩ rfl (fun es=>?_) hR⟩
   ·simp at he
    subst he;exact .map hm
   ·simp only [Sem.runT,h2]
    rfl
 |@getOdd L r r' s k t' ho =>
  intro u w hW ht a u' hr;obtain ⟨c,e,fr,h1⟩:=hW.odd ho;simp only [Sem.run,h1] at hr;cases hr
 |@setIter L r r' st0 p0 k k' hb _ ih =>
  intro u w hW ht a u' hr;simp only [Sem.run] at hr;rcases hW.obj hb with ⟨c,c',e,e1,fr,fr',h1,h2,h3,_,_⟩|⟨es0,es0',cl,h1,h2,h3,hm,hb0⟩|⟨st,pp,h1,h2,hm,hb0⟩
  ·simp only [h1] at hr
   cases hr
  ·simp only [h1] at hr
   have hWr':WRel K L { u with heap:=u.heap.setIfInBounds r (.stringIter st0 p0) } { w with heap:=w.heap.setIfInBounds r' (.stringIter st0 p0) } :=
    hW.put hb0 (y0k u r _ h1) (y0k w r' _ h2) (by simp) (by simp) rfl rfl rfl rfl (.inl ⟨hm,.iter⟩)
   obtain ⟨L',x',w',es1,hR⟩:=ih _ _ hWr' ht a u' hr;refine ⟨L',x',w',#[⟨.obj r',true,false⟩] ++ es1,Ran.after (L1:=L) (u1:={ u with heap:=u.heap.setIfInBounds r (.stringIter st0 p0) }) (w1:={ w with heap:=w.heap.setIfInBounds r' (.stringIter st0 p0) }) ⟨rfl,rfl,rfl,by simp,List.prefix_refl L,fun j b hj hl=>by have:=(List.getElem?_eq_some_iff.1 hj).1;omega,fun b hb hn hw=>?_⟩ (fun e he=>?_) ⟨0,rfl,rfl⟩ rfl (fun es=>?_) hR⟩
   ·rw [y0k w r' _ h2,if_neg]
    rintro rfl
    exact hn hm
   ·simp at he
    subst he;exact .map hm
   ·simp only [Sem.runT,h2]
    rfl
  ·simp only [h1] at hr
   have hWr':WRel K L { u with heap:=u.heap.setIfInBounds r (.stringIter st0 p0) } { w with heap:=w.heap.setIfInBounds r' (.stringIter st0 p0) } :=
    hW.put hb0 (y0k u r _ h1) (y0k w r' _ h2) (by simp) (by simp) rfl rfl rfl rfl (.inl ⟨hm,.iter⟩)
   obtain ⟨L',x',w',es1,hR⟩:=ih _ _ hWr' ht a u' hr;refine ⟨L',x',w',#[⟨.obj r',true,false⟩] ++ es1,Ran.after (L1:=L) (u1:={ u with heap:=u.heap.setIfInBounds r (.stringIter st0 p0) }) (w1:={ w with heap:=w.heap.setIfInBounds r' (.stringIter st0 p0) }) ⟨rfl,rfl,rfl,by simp,List.prefix_refl L,fun j b hj hl=>by have:=(List.getElem?_eq_some_iff.1 hj).1;omega,fun b hb hn hw=>?_⟩ (fun e he=>?_) ⟨0,rfl,rfl⟩ rfl (fun es=>?_) hR⟩
   ·rw [y0k w r' _ h2,if_neg]
    rintro rfl
    exact hn hm
   ·simp at he
    subst he;exact .map hm
   ·simp only [Sem.runT,h2]
    rfl
 |@setMap L r r' es es' clock k k' hb he _ ih =>
  intro u w hW ht a u' hr;simp only [Sem.run] at hr;rcases hW.obj hb with ⟨c,c',e,e1,fr,fr',h1,h2,h3,_,_⟩|⟨es0,es0',cl,h1,h2,h3,hm,hb0⟩|⟨st,pp,h1,h2,hm,hb0⟩
  ·simp only [h1] at hr
   cases hr
  ·simp only [h1] at hr
   have hWr':WRel K L { u with heap:=u.heap.setIfInBounds r (.map es clock) } { w with heap:=w.heap.setIfInBounds r' (.map es' clock) } :=
    hW.put hb0 (y0k u r _ h1) (y0k w r' _ h2) (by simp) (by simp) rfl rfl rfl rfl (.inl ⟨hm,.map he⟩)
   obtain ⟨L',x',w',es1,hR⟩:=ih _ _ hWr' ht a u' hr;refine ⟨L',x',w',#[⟨.obj r',true,false⟩] ++ es1,Ran.after (L1:=L) (u1:={ u with heap:=u.heap.setIfInBounds r (.map es clock) }) (w1:={ w with heap:=w.heap.setIfInBounds r' (.map es' clock) }) ⟨rfl,rfl,rfl,by simp,List.prefix_refl L,fun j b hj hl=>by have:=(List.getElem?_eq_some_iff.1 hj).1;omega,fun b hb hn hw=>?_⟩ (fun e he=>?_) ⟨0,rfl,rfl⟩ rfl (fun es=>?_) hR⟩
   ·rw [y0k w r' _ h2,if_neg]
    rintro rfl
    exact hn hm
   ·simp at he
    subst he;exact .map hm
   ·simp only [Sem.runT,h2]
    rfl
  ·simp only [h1] at hr
   have hWr':WRel K L { u with heap:=u.heap.setIfInBounds r (.map es clock) } { w with heap:=w.heap.setIfInBounds r' (.map es' clock) } :=
    hW.put hb0 (y0k u r _ h1) (y0k w r' _ h2) (by simp) (by simp) rfl rfl rfl rfl (.inl ⟨hm,.map he⟩)
   obtain ⟨L',x',w',es1,hR⟩:=ih _ _ hWr' ht a u' hr;refine ⟨L',x',w',#[⟨.obj r',true,false⟩] ++ es1,Ran.after (L1:=L) (u1:={ u with heap:=u.heap.setIfInBounds r (.map es clock) }) (w1:={ w with heap:=w.heap.setIfInBounds r' (.map es' clock) }) ⟨rfl,rfl,rfl,by simp,List.prefix_refl L,fun j b hj hl=>by have:=(List.getElem?_eq_some_iff.1 hj).1;omega,fun b hb hn hw=>?_⟩ (fun e he=>?_) ⟨0,rfl,rfl⟩ rfl (fun es=>?_) hR⟩
   ·rw [y0k w r' _ h2,if_neg]
    rintro rfl
    exact hn hm
   ·simp at he
    subst he;exact .map hm
   ·simp only [Sem.runT,h2]
    rfl
 |@choose L q k k' _ ih =>
  intro u w hW ht a u' hr;simp only [Sem.run] at hr
  by_cases hq:q.forced=true
  ·rw [if_pos hq] at hr
   obtain ⟨L',x',w',es1,hR⟩:=ih 0 u w hW ht a u' hr;refine ⟨L',x',w',#[] ++ es1,Ran.after (.refl K L w) (by simp) ⟨0,rfl,rfl⟩ rfl (fun es=>?_) hR⟩;simp only [Sem.runT,hq,if_true,Array.append_empty]
  ·rw [if_neg hq] at hr
   have e0:=ht 0 q;rw [Nat.add_zero,Nat.add_zero] at e0;rw [e0] at hr;obtain ⟨L',x',w',es1,hR⟩:=ih _ { u with drawn:=u.drawn+1 } { w with drawn:=w.drawn+1 } (hW.congr rfl rfl rfl rfl rfl rfl) (fun j q=>by
    have:=ht (j+1) q;show u.tape (u.drawn+1+j) q=w.tape (w.drawn+1+j) q;rw [show u.drawn+1+j=u.drawn+(j+1) by omega,show w.drawn+1+j=w.drawn+(j+1) by omega];exact this) a u' hr
   refine ⟨L',x',w',#[] ++ es1,Ran.after (L1:=L) (w1:={ w with drawn:=w.drawn+1 }) (u1:={ u with drawn:=u.drawn+1 }) ⟨rfl,rfl,rfl,rfl,List.prefix_refl L,fun j b hj hl=>by have:=(List.getElem?_eq_some_iff.1 hj).1;omega,fun _ _ _ _=>rfl⟩ (by simp) ⟨1,rfl,rfl⟩ rfl (fun es=>?_) hR⟩;simp only [Sem.runT,hq,if_false,Array.append_empty];rfl
 |@program L k k' _ ih =>
  intro u w hW ht a u' hr;obtain ⟨L',x',w',es1,hR⟩:=ih u w hW ht a u' hr;exact ⟨L',x',w',es1,⟨fun es=>hR.run es,hR.val,hR.step,hR.rel,hR.evs,hR.drawn,hR.tape⟩⟩
 |@room L k k' _ ih =>
  intro u w hW ht a u' hr;obtain ⟨L',x',w',es1,hR⟩:=ih u w hW ht a u' hr;refine ⟨L',x',w',#[⟨.mark .noRoom,false,true⟩] ++ es1,Ran.after (.refl K L w) (fun e he=>?_) ⟨0,rfl,rfl⟩ rfl (fun es=>?_) hR⟩
  ·simp at he
   subst he;exact .room
  ·simp only [Sem.runT]
   rfl
 |@doomed L s s' hd =>
  intro u w hW ht a u' hr;obtain ⟨x,y,e,hc⟩:=hd u;rw [e] at hr;cases hr
end
end Go.Tr
namespace Go.Tr
section
variable {P:Program} {F:Array Func} {K:Cfg} {α β:Type} {RA:List Nat->α->α->Prop} {RB:List Nat->β->β->Prop} {L:List Nat}
theorem yar {s:Sem α} {f:α->Sem β} {w:World} (h:∃ h w',s.run P w=.halt h w'∧y0z h):∃ h w',(s.bind f).run P w=.halt h w'∧y0z h:=by
 obtain ⟨x,w',e,hc⟩:=h;refine ⟨x,w',?_,hc⟩;rw [Sem.run_bind',e];rfl
theorem RelS.bind {s s':Sem α} {f f':α->Sem β} (h:RelS P F K RA L s s') (hf:∀ L' a a',L <+: L'->RA L' a a'->RelS P F K RB L' (f a) (f' a')):RelS P F K RB L (s.bind f) (s'.bind f'):=by
 induction h with
 |@pure L a a' hv=>exact hf L a a' (List.prefix_refl L) hv
 |load hb ho hs _ ih=>exact .load hb ho hs fun v v' hv=>ih v v' hv fun L' a a' hp=>hf L' a a' hp
 |store hb ho hs hv _ ih=>exact .store hb ho hs hv (ih fun L' a a' hp=>hf L' a a' hp)
 |new ho _ ih=>exact .new ho fun b' hb'=>ih b' hb' fun L' a a' hp=>hf L' a a' ((List.prefix_append _ _).trans hp)
 |getMap hb hi _ ih=>exact .getMap hb (fun st p w=>yar (hi st p w)) fun es es' cl he=>ih es es' cl he fun L' a a' hp=>hf L' a a' hp
 |getIter hb hi _ ih=>exact .getIter hb (fun es cl w=>yar (hi es cl w)) fun st p=>ih st p fun L' a a' hp=>hf L' a a' hp
 |getOdd ho=>exact .getOdd ho
 |setIter hb _ ih=>exact .setIter hb (ih fun L' a a' hp=>hf L' a a' hp)
 |setMap hb he _ ih=>exact .setMap hb he (ih fun L' a a' hp=>hf L' a a' hp)
 |choose _ ih=>exact .choose fun n=>ih n fun L' a a' hp=>hf L' a a' hp
 |program _ ih=>exact .program (ih fun L' a a' hp=>hf L' a a' hp)
 |room _ ih=>exact .room (ih fun L' a a' hp=>hf L' a a' hp)
 |@doomed L s s' hd =>
  refine .doomed fun w=>?_
  obtain ⟨x,w',e,hc⟩:=hd w;refine ⟨x,w',?_,hc⟩;rw [Sem.run_bind',e];rfl
theorem y06 {s':Sem α} (x:String):RelS P F K RA L (stuck x) s':=.doomed fun w=>⟨_,w,rfl,trivial⟩
theorem y2r {s':Sem α} (x:Unsupported) (h:∀ g,x≠.initOrder g):RelS P F K RA L (unsupported x) s':=.doomed fun w=>⟨_,w,rfl,by
 cases x<;>first|trivial|exact absurd rfl (h _)⟩
theorem ybm {s':Sem α} (v:Value):RelS P F K RA L (goPanic v) s':=.doomed fun w=>⟨_,w,rfl,trivial⟩
theorem y5f {s':Sem α} (e:RuntimeError) (he:(∃ x y s c,e=.bounds x y s c)∨(∃ m,e=.error m)∨∃ m,e=.plain m):RelS P F K RA L (runtimePanic e) s':=.doomed fun w=>by
 rcases he with ⟨x,y,s,c,rfl⟩|⟨m,rfl⟩|⟨m,rfl⟩<;>exact ⟨_,w,rfl,trivial⟩
theorem y4c {s':Sem α} (k:IntKind) (x y:Int) (c:BoundsCode):RelS P F K RA L (boundsPanic k x y c) s':=.doomed fun w=>by
 unfold boundsPanic;split
 ·exact ⟨_,_,rfl,trivial⟩
 ·exact ⟨_,_,rfl,trivial⟩
def Same (α:Type):List Nat->α->α->Prop:=fun _ a a'=>a'=a
theorem y2k (t:TypeId):RelS P F K (fun _ a a'=>a'=a∧P.info? t=some a) L (typeInfo t) (typeInfo t):=by
 refine .program ?_;show RelS P F K _ L (match P.info? t with|some i=>Pure.pure i|none=>stuck "no such type") (match P.info? t with|some i=>Pure.pure i|none=>stuck "no such type");cases h:P.info? t with
 |none=>exact y06 _
 |some i=>exact .pure ⟨rfl,rfl⟩
theorem y51 (t:TypeId):RelS P F K (fun _ a a'=>a'=a∧P.underlying t=some a) L (underlying t) (underlying t):=by
 refine .program ?_;show RelS P F K _ L (match P.underlying t with|some i=>Pure.pure i|none=>stuck "no such type") (match P.underlying t with|some i=>Pure.pure i|none=>stuck "no such type");cases h:P.underlying t with
 |none=>exact y06 _
 |some i=>exact .pure ⟨rfl,rfl⟩
theorem y1q (t:TypeId):RelS P F K (Same Nat) L (sizeOf t) (sizeOf t) :=
 (y2k t).bind fun L' a a' _ h=>by rw [h.1];exact .pure rfl
theorem y2w (t:TypeId):RelS P F K (fun _ a a'=>a'=a∧(P.info? t).bind (·.zero)=some a) L (zeroValue t) (zeroValue t) :=
 (y2k t).bind fun L' a a' _ h=>by
  rw [h.1];cases hz:a.zero with
  |none=>exact y2r _ (by simp)
  |some v=>exact .pure ⟨rfl,by rw [h.2];exact hz⟩
theorem ya5 (t:TypeId):RelS P F K (Same Bool) L (isAgg t) (isAgg t) :=
 (y51 t).bind fun L' a a' _ h=>by
  rw [h.1];cases a<;>exact .pure rfl
theorem yab {v v':Value} (h:RelV K L v v'):RelS P F K (Same Int) L (asInt v) (asInt v'):=by
 cases h with
 |part h =>
  cases h with
  |cell h =>
   cases h with
   |flat h=>cases v<;>simp [y1m] at h<;>first|exact .pure rfl|exact y06 _
   |slice _ _ _=>exact y06 _
   |map _=>exact y06 _
   |func _ _ _=>exact y06 _
  |agg _=>exact y06 _
 |tuple _=>exact y06 _
theorem y4r {v v':Value} (h:RelV K L v v'):RelS P F K (Same (IntKind × Int)) L (asIntOf v) (asIntOf v'):=by
 cases h with
 |part h =>
  cases h with
  |cell h =>
   cases h with
   |flat h=>cases v<;>simp [y1m] at h<;>first|exact .pure rfl|exact y06 _
   |slice _ _ _=>exact y06 _
   |map _=>exact y06 _
   |func _ _ _=>exact y06 _
  |agg _=>exact y06 _
 |tuple _=>exact y06 _
theorem ye5 {v v':Value} (h:RelV K L v v'):RelS P F K (Same Bool) L (asBool v) (asBool v'):=by
 cases h with
 |part h =>
  cases h with
  |cell h =>
   cases h with
   |flat h=>cases v<;>simp [y1m] at h<;>first|exact .pure rfl|exact y06 _
   |slice _ _ _=>exact y06 _
   |map _=>exact y06 _
   |func _ _ _=>exact y06 _
  |agg _=>exact y06 _
 |tuple _=>exact y06 _
theorem y03 (a:Addr) (n:Nat):(a.add n).block=a.block:=by unfold Addr.add;split<;>rfl
def RelA (K:Cfg) (L:List Nat) (a a':Addr):Prop:=∃ s,RelB K L a.block a'.block s∧a'.off=a.off+s∧a'.spot=a.spot
theorem RelA.add {a a':Addr} (h:RelA K L a a') (n:Nat):RelA K L (a.add n) (a'.add n):=by
 obtain ⟨s,h1,h2,h3⟩:=h;refine ⟨s,by rw [y03,y03];exact h1,?_,?_⟩
 ·unfold Addr.add;split<;>simp [h2]<;>omega
 ·unfold Addr.add;split<;>simp [h3]
theorem RelA.mono {a a':Addr} {L':List Nat} (h:RelA K L a a') (hp:L <+: L'):RelA K L' a a':=let ⟨s,h1,h2,h3⟩:=h;⟨s,h1.mono hp,h2,h3⟩
theorem RelA.slice {a a':Addr} (h:RelA K L a a') (n c:Nat):RelC K L (.slice (some a) n c) (.slice (some a') n c):=let ⟨_,h1,h2,h3⟩:=h;.slice h1 h2 h3
theorem RelA.ptr {a a':Addr} (h:RelA K L a a'):RelT K L (.pointer (some a)) (.pointer (some a')):=let ⟨_,h1,h2,h3⟩:=h;.ptr h1 h2 h3
theorem RelA.load {α:Type} {RA:List Nat->α->α->Prop} {k k':Value->Sem α} {a a':Addr} (h:RelA K L a a') (hk:∀ v v',RelC K L v v'->RelS P F K RA L (k v) (k' v')):RelS P F K RA L (.load .plain a k) (.load .plain a' k'):=let ⟨_,h1,h2,h3⟩:=h;.load h1 h2 h3 hk
theorem RelA.store {α:Type} {RA:List Nat->α->α->Prop} {v v':Value} {k k':Sem α} {a a':Addr} (h:RelA K L a a') (hv:RelC K L v v') (hk:RelS P F K RA L k k'):RelS P F K RA L (.store .plain a v k) (.store .plain a' v' k'):=let ⟨_,h1,h2,h3⟩:=h;.store h1 h2 h3 hv hk
theorem RelCs.push {cs cs':Array Value} (h:RelCs K L cs cs') {v v':Value} (hv:RelC K L v v'):RelCs K L (cs.push v) (cs'.push v'):=by
 refine ⟨by simp [h.1],fun i a b ha hb=>?_⟩;rw [Array.getElem?_push] at ha hb
 by_cases hi:i=cs.size
 ·rw [if_pos hi] at ha
  rw [if_pos (by rw [h.1];exact hi)] at hb;obtain rfl:=zSi ha;obtain rfl:=zSi hb;exact hv
 ·rw [if_neg hi] at ha
  rw [if_neg (by rw [h.1];exact hi)] at hb;exact h.2 i a b ha hb
theorem RelCs.nil:RelCs K L #[] #[]:=⟨rfl,fun i v v' h=>by simp at h⟩
theorem y3d:∀ (n:Nat) (L:List Nat) (a a':Addr) (i:Nat) (acc acc':Array Value),RelA K L a a'->RelCs K L acc acc'->RelS P F K (fun L=>RelCs K L) L (loadCellsFrom a i n acc) (loadCellsFrom a' i n acc')
 |0,L,a,a',i,acc,acc',ha,hc=>.pure hc
 |n+1,L,a,a',i,acc,acc',ha,hc=>by
  have hi:=ha.add i;refine hi.load fun v v' hv=>?_
  exact y3d n L a a' (i+1) _ _ ha (hc.push hv)
theorem y52 {a a':Addr} (n:Nat) (ha:RelA K L a a'):RelS P F K (fun L=>RelCs K L) L (loadCells a n) (loadCells a' n):=y3d n L a a' 0 _ _ ha .nil
theorem y39:∀ (vs vs':List Value) (L:List Nat) (a a':Addr) (i:Nat),RelA K L a a'->vs'.length=vs.length->(∀ (j:Nat) (v v':Value),vs[j]?=some v->vs'[j]?=some v'->RelC K L v v')->RelS P F K (Same Unit) L (storeCells a vs i) (storeCells a' vs' i)
 |[],[],L,a,a',i,ha,_,_=>.pure rfl
 |[],_ :: _,L,a,a',i,ha,hl,_=>by simp at hl
 |_ :: _,[],L,a,a',i,ha,hl,_=>by simp at hl
 |v :: vs,v' :: vs',L,a,a',i,ha,hl,hv=>by
  have hi:=ha.add i;refine hi.store (hv 0 v v' rfl rfl) ?_;exact y39 vs vs' L a a' (i+1) ha (by simpa using hl) fun j x x' h1 h2=>hv (j+1) x x' (by simpa using h1) (by simpa using h2)
theorem y6k (t:TypeId) {a a':Addr} (ha:RelA K L a a'):RelS P F K (fun L=>RelP K L) L (loadVar t a) (loadVar t a'):=by
 refine (ya5 t).bind fun L1 b b' hp hb=>?_
 rw [show b'=b from hb];cases b with
 |true =>
  refine (y1q t).bind fun L2 n n' hp2 hn=>?_
  rw [show n'=n from hn];refine (y52 n ((ha.mono hp).mono hp2)).bind fun L3 c c' hp3 hc=>.pure (.agg hc)
 |false=>exact (ha.mono hp).load fun v v' hv=>.pure (.cell hv)
theorem RelP.cells {v v':Value} (h:RelP K L v v'):RelCs K L v.cells v'.cells:=by
 cases h with
 |agg h=>exact h
 |cell h =>
  have h1:v.cells=#[v]:=by cases v<;>first|rfl|exact absurd rfl (h.noAgg.1 _)
  have h2:v'.cells=#[v']:=by cases v'<;>first|rfl|exact absurd rfl (h.noAgg.2 _)
  rw [h1,h2];refine ⟨rfl,fun i a b ha hb=>?_⟩;rcases i with _|i
  ·simp at ha hb
   subst ha hb;exact h
  ·simp at ha
theorem ya0 (t:TypeId) {a a':Addr} {v v':Value} (ha:RelA K L a a') (hv:RelP K L v v'):RelS P F K (Same Unit) L (storeVar t a v) (storeVar t a' v'):=by
 have hc:=hv.cells;refine (y1q t).bind fun L1 n n' hp hn=>?_
 obtain rfl:=hn;rw [hc.1];split
 ·exact y06 _
 ·refine y39 _ _ _ _ _ _ (ha.mono hp) (by simp [hc.1]) fun j x x' h1 h2=>(hc.2 j x x' (by simpa using h1) (by simpa using h2)).mono hp
theorem y2f (t:TypeId) {c c':Array Value} (hc:RelCs K L c c'):RelS P F K (fun L=>RelA K L) L (newRow t c) (newRow t c'):=by
 refine .new (.cells hc) fun b' hb'=>.pure ⟨0,.inl ⟨rfl,.inr ⟨L.length,rfl,by simp,hb'⟩⟩,rfl,rfl⟩
end
end Go.Tr
namespace Go.Tr
section
variable {P:Program} {F:Array Func} {K:Cfg} {α β γ:Type} {L:List Nat}
inductive RStep (RB:List Nat->β->β->Prop) (L:List Nat):ForInStep β->ForInStep β->Prop
 |yield {b b':β}:RB L b b'->RStep RB L (.yield b) (.yield b')
 |done {b b':β}:RB L b b'->RStep RB L (.done b) (.done b')
theorem y41 {RB:List Nat->β->β->Prop} (f f':γ->β->Sem (ForInStep β)):∀ (l:List γ) (L:List Nat) (b b':β),(∀ x,x ∈ l->∀ L' b b',L <+: L'->RB L' b b'->RelS P F K (RStep RB) L' (f x b) (f' x b'))->RB L b b'->RelS P F K RB L (forIn l b f) (forIn l b' f')
 |[],L,b,b',hf,hb=>by
  simp only [List.forIn_nil];exact .pure hb
 |x :: l,L,b,b',hf,hb=>by
  simp only [List.forIn_cons];refine (hf x (by simp) L b b' (List.prefix_refl L) hb).bind fun L' s s' hp hs=>?_
  cases hs with
  |done h=>exact .pure h
  |yield h=>exact y41 f f' l L' _ _ (fun y hy L2 c c' hp2=>hf y (by simp [hy]) L2 c c' (hp.trans hp2)) h
theorem RelCs.extract {cs cs':Array Value} (h:RelCs K L cs cs') (i j:Nat):RelCs K L (cs.extract i j) (cs'.extract i j):=by
 refine ⟨by simp [h.1],fun k a b ha hb=>?_⟩;rw [Array.getElem?_extract] at ha hb;split at ha
 ·split at hb
  ·exact h.2 _ a b ha hb
  ·cases hb
 ·cases ha
theorem y4b (t:TypeId) {cs cs':Array Value} (h:RelCs K L cs cs') (off:Nat):RelS P F K (fun L=>RelP K L) L (part t cs off) (part t cs' off):=by
 refine (ya5 t).bind fun L1 b b' hp hb=>?_
 rw [show b'=b from hb];have h1:=h.mono hp;cases b with
 |true=>exact (y1q t).bind fun L2 n n' hp2 hn=>by rw [show n'=n from hn];exact .pure (.agg ((h1.extract off (off+n)).mono hp2))
 |false =>
  show RelS P F K _ L1 (match cs[off]? with|some v=>Pure.pure v|none=>stuck "part: no such cell") (match cs'[off]? with|some v=>Pure.pure v|none=>stuck "part: no such cell");cases hc:cs[off]? with
  |none=>exact y06 _
  |some v =>
   have hl:off<cs'.size:=by rw [h1.1];exact (zGe hc).1
   rw [Array.getElem?_eq_getElem hl];exact .pure (.cell (h1.2 off v _ hc (Array.getElem?_eq_getElem hl)))
inductive EqT (P:Program):TypeId->Prop
 |bool {t:TypeId}:P.underlying t=some .bool->EqT P t
 |int {t:TypeId} {k:IntKind}:P.underlying t=some (.int k)->EqT P t
 |slice {t e:TypeId}:P.underlying t=some (.slice e)->EqT P t
 |str {t:TypeId}:P.underlying t=some .string->EqT P t
 |arr {t e:TypeId} {n:Nat}:P.underlying t=some (.array n e)->EqT P e->EqT P t
 |struct {t:TypeId} {fs:Array Field}:P.underlying t=some (.struct fs)->P.stoodInHeld t=false->(∀ f ∈ fs,EqT P f.type)->EqT P t
theorem y0l {t:TypeId} {d:TypeDesc} (hu:P.underlying t=some d) {s s':TypeDesc->Sem α} {RA:List Nat->α->α->Prop} (h:RelS P F K RA L (s d) (s' d)):RelS P F K RA L ((underlying t).bind s) ((underlying t).bind s'):=by
 refine .program ?_;show RelS P F K RA L (Sem.bind (match P.underlying t with|some i=>Pure.pure i|none=>stuck "no such type") s) (Sem.bind (match P.underlying t with|some i=>Pure.pure i|none=>stuck "no such type") s');rw [hu];exact h
inductive Shp (K:Cfg) (L:List Nat):Value->Value->Prop
 |bool (b:Bool):Shp K L (.bool b) (.bool b)
 |int (k:IntKind) (n:Int):Shp K L (.int k n) (.int k n)
 |slN (n c:Nat):Shp K L (.slice none n c) (.slice none n c)
 |mpN:Shp K L (.map none) (.map none)
 |ifc (t:TypeId) (s:ByteArray):Shp K L (.iface t (.string s)) (.iface t (.string s))
 |sl {a a':Addr} (n c:Nat):RelA K L a a'->Shp K L (.slice (some a) n c) (.slice (some a') n c)
 |mp {r r':Nat}:RelB K L r r' 0->Shp K L (.map (some r)) (.map (some r'))
 |und:Shp K L (.tuple #[]) (.tuple #[])
 |nilF:Shp K L .nilFunc .nilFunc
 |str (s:ByteArray):Shp K L (.string s) (.string s)
 |fn {f:Nat} {cs cs':Array Value}:(f,cs.size) ∈ cloT->cs'.size=cs.size->(∀ (i:Nat) (v v':Value),cs[i]?=some v->cs'[i]?=some v'->RelT K L v v')->Shp K L (.func (.func f) #[] cs) (.func (.func f) #[] cs')
 |agg {cs cs':Array Value}:RelCs K L cs cs'->Shp K L (.agg cs) (.agg cs')
theorem RelP.shp {v v':Value} (h:RelP K L v v'):Shp K L v v':=by
 cases h with
 |agg h=>exact .agg h
 |cell h =>
  cases h with
  |slice h1 h2 h3=>exact .sl _ _ ⟨_,h1,h2,h3⟩
  |map h=>exact .mp h
  |func h1 h2 h3=>exact .fn h1 h2 h3
  |flat h =>
   cases v with
   |bool b=>exact .bool b
   |int k n=>exact .int k n
   |slice o n c=>cases o with
    |none=>exact .slN n c
    |some _=>simp [y1m] at h
   |map o=>cases o with
    |none=>exact .mpN
    |some _=>simp [y1m] at h
   |iface t x=>cases x with
    |string s=>exact .ifc t s
    |_=>simp [y1m,strB] at h
   |tuple cs =>
    have h:cs.isEmpty=true:=h;obtain rfl:cs=#[]:=by simpa using h
    exact .und
   |string s=>exact .str s
   |nilFunc=>exact .nilF
   |_=>simp [y1m] at h
theorem ye2 (d:Nat) {t:TypeId} {k:IntKind} (hu:P.underlying t=some (.int k)) {x x' y y':Value} (hx:RelP K L x x') (hy:RelP K L y y'):RelS P F K (Same Bool) L (Op.equalIn (d+1) t x y) (Op.equalIn (d+1) t x' y'):=by
 rw [Op.equalIn.eq_2,Op.equalIn.eq_2];refine y0l hu ?_;have sx:=hx.shp;have sy:=hy.shp;cases sx
 case int a b =>
  cases sy
  case int a2 b2 =>
   show RelS P F K _ L (if a=a2 then Pure.pure (b == b2) else stuck "==: kinds differ") (if a=a2 then Pure.pure (b == b2) else stuck "==: kinds differ");split
   ·exact .pure rfl
   ·exact y06 _
  all_goals (first|exact y06 _|exact .pure rfl)
 all_goals (cases sy<;>(first|exact y06 _|exact .pure rfl))
theorem ybp (d:Nat) {t:TypeId} (hu:P.underlying t=some .bool) {x x' y y':Value} (hx:RelP K L x x') (hy:RelP K L y y'):RelS P F K (Same Bool) L (Op.equalIn (d+1) t x y) (Op.equalIn (d+1) t x' y'):=by
 rw [Op.equalIn.eq_2,Op.equalIn.eq_2];refine y0l hu ?_;have sx:=hx.shp;have sy:=hy.shp;cases sx<;>cases sy<;>(first|exact y06 _|exact .pure rfl)
theorem ya9 (d:Nat) {t e:TypeId} (hu:P.underlying t=some (.slice e)) {x x' y y':Value} (hx:RelP K L x x') (hy:RelP K L y y'):RelS P F K (Same Bool) L (Op.equalIn (d+1) t x y) (Op.equalIn (d+1) t x' y'):=by
 rw [Op.equalIn.eq_2,Op.equalIn.eq_2];refine y0l hu ?_;have sx:=hx.shp;have sy:=hy.shp;cases sx<;>cases sy<;>(first|exact y06 _|exact .pure rfl)
theorem ych (P:Program) (F:Array Func):∀ (n:Nat) (t u:TypeId),(wf P F).alikeButTags n t u=P.alikeButTags n t u
 |0,_,_=>rfl
 |n+1,t,u=>by
  unfold Program.alikeButTags;have ih:(wf P F).alikeButTags n=P.alikeButTags n:=funext fun t=>funext fun u=>ych P F n t u
  rw [ih]
theorem yhu (P:Program) (F:Array Func) (t:TypeId):(wf P F).stoodInHeld t=P.stoodInHeld t:=by
 have h:(wf P F).stoodInAs t=P.stoodInAs t:=by
  unfold Program.stoodInAs;have ih:(wf P F).alikeButTags (wf P F).depth=P.alikeButTags P.depth:=funext fun t=>funext fun u=>ych P F P.depth t u
  rw [ih];rfl
 unfold Program.stoodInHeld;rw [h]
theorem ye1 (d:Nat) {t:TypeId} (hu:P.underlying t=some .string) {x x' y y':Value} (hx:RelP K L x x') (hy:RelP K L y y'):RelS P F K (Same Bool) L (Op.equalIn (d+1) t x y) (Op.equalIn (d+1) t x' y'):=by
 rw [Op.equalIn.eq_2,Op.equalIn.eq_2];refine y0l hu ?_;have sx:=hx.shp;have sy:=hy.shp;cases sx<;>cases sy<;>(first|exact y06 _|exact .pure rfl)
theorem y2g {t:TypeId} {x x' y y':Value}:RelS P F K (Same Bool) L (Op.equalIn 0 t x y) (Op.equalIn 0 t x' y'):=by
 rw [Op.equalIn.eq_1,Op.equalIn.eq_1];exact y2r _ (by simp)
theorem rel_eq {t:TypeId} (h:EqT P t):∀ (d:Nat) (L:List Nat) {x x' y y':Value},RelP K L x x'->RelP K L y y'->RelS P F K (Same Bool) L (Op.equalIn d t x y) (Op.equalIn d t x' y'):=by
 induction h with
 |bool hu =>
  intro d L x x' y y' hx hy;cases d with
  |zero=>exact y2g
  |succ d=>exact ybp d hu hx hy
 |int hu =>
  intro d L x x' y y' hx hy;cases d with
  |zero=>exact y2g
  |succ d=>exact ye2 d hu hx hy
 |slice hu =>
  intro d L x x' y y' hx hy;cases d with
  |zero=>exact y2g
  |succ d=>exact ya9 d hu hx hy
 |str hu =>
  intro d L x x' y y' hx hy;cases d with
  |zero=>exact y2g
  |succ d=>exact ye1 d hu hx hy
 |@arr t e n hu _ ih =>
  intro d L x x' y y' hx hy;cases d with
  |zero=>exact y2g
  |succ d =>
   rw [Op.equalIn.eq_2,Op.equalIn.eq_2];refine y0l hu ?_;have sx:=hx.shp;have sy:=hy.shp;cases sx
   case agg cs cs' rx =>
    cases sy
    case agg cs2 cs2' ry =>
     refine (y1q e).bind fun L1 m m' hp hm=>?_
     rw [show m'=m from hm];simp only [Std.Legacy.Range.forIn_eq_forIn_range'];refine (y41 (RB:=fun _ (a b:Option Bool × Unit)=>b=a) _ _ _ _ _ _ (fun i hi L2 b b' hp2 hb=>?_) rfl).bind fun L2 s s' _ hs=>?_
     ·refine (y4b e ((rx.mono hp).mono hp2) (i * m)).bind fun L3 v v' hp3 hv=>?_
      refine (y4b e (((ry.mono hp).mono hp2).mono hp3) (i * m)).bind fun L4 v2 v2' hp4 hv2=>?_
      refine (ih d L4 (hv.mono hp4) hv2).bind fun L5 c c' _ hc=>?_
      rw [show c'=c from hc];cases c
      ·exact .pure (.done rfl)
      ·exact .pure (.yield rfl)
     ·rw [show s'=s from hs]
      obtain ⟨o,u⟩:=s;cases o<;>exact .pure rfl
    all_goals (first|exact y06 _|exact .pure rfl)
   all_goals (cases sy<;>(first|exact y06 _|exact .pure rfl))
 |@struct t fs hu hst _ ih =>
  intro d L x x' y y' hx hy;cases d with
  |zero=>exact y2g
  |succ d =>
   rw [Op.equalIn.eq_2,Op.equalIn.eq_2];refine y0l hu ?_;have sx:=hx.shp;have sy:=hy.shp;cases sx
   case agg cs cs' rx =>
    cases sy
    case agg cs2 cs2' ry =>
     refine .program ?_;have hst':(wf P F).stoodInHeld t=false:=(yhu P F t).trans hst;show RelS P F K _ L (if P.stoodInHeld t=true then _ else _) (if (wf P F).stoodInHeld t=true then _ else _);rw [if_neg (by rw [hst];decide),if_neg (by rw [hst'];decide)];rw [← Array.forIn_toList,← Array.forIn_toList];refine (y41 (RB:=fun _ (a b:Option Bool × Unit)=>b=a) _ _ _ _ _ _ (fun f hf L2 b b' hp2 hb=>?_) rfl).bind fun L2 s s' _ hs=>?_
     ·by_cases hn:f.name ≠ "_"
      ·rw [if_pos hn,if_pos hn]
       refine (y4b f.type (rx.mono hp2) f.offset).bind fun L3 v v' hp3 hv=>?_
       refine (y4b f.type ((ry.mono hp2).mono hp3) f.offset).bind fun L4 v2 v2' hp4 hv2=>?_
       refine (ih f (by simpa using hf) d L4 (hv.mono hp4) hv2).bind fun L5 c c' _ hc=>?_
       rw [show c'=c from hc];cases c
       ·exact .pure (.done rfl)
       ·exact .pure (.yield rfl)
      ·rw [if_neg hn,if_neg hn]
       exact .pure (.yield rfl)
     ·rw [show s'=s from hs]
      obtain ⟨o,u⟩:=s;cases o<;>exact .pure rfl
    all_goals (first|exact y06 _|exact .pure rfl)
   all_goals (cases sy<;>(first|exact y06 _|exact .pure rfl))
theorem ya8 {t:TypeId} (h:EqT P t) {x x' y y':Value} (hx:RelP K L x x') (hy:RelP K L y y'):RelS P F K (Same Bool) L (Op.equal t x y) (Op.equal t x' y'):=rel_eq h _ L hx hy
end
end Go.Tr
namespace Go.Tr
section
variable {P:Program} {F:Array Func} {K:Cfg} {α β γ:Type} {L:List Nat}
inductive KeyT (P:Program):TypeId->Prop
 |int {t:TypeId} {k:IntKind}:P.underlying t=some (.int k)->KeyT P t
 |arr {t e:TypeId} {n:Nat}:P.underlying t=some (.array n e)->KeyT P e->KeyT P t
 |struct {t:TypeId} {fs:Array Field}:P.underlying t=some (.struct fs)->P.stoodInHeld t=false->(∀ f ∈ fs,KeyT P f.type)->KeyT P t
theorem KeyT.eq {t:TypeId} (h:KeyT P t):EqT P t:=by
 induction h with
 |int h=>exact .int h
 |arr h _ ih=>exact .arr h ih
 |struct h hs _ ih=>exact .struct h hs ih
theorem ye3 (empty:Bool) {t:TypeId} (h:KeyT P t):∀ (d:Nat) (L:List Nat) {v v':Value},RelP K L v v'->RelS P F K (Same Unit) L (Instr.checkKey empty d t v) (Instr.checkKey empty d t v'):=by
 induction h with
 |int hu =>
  intro d L v v' hv;cases d with
  |zero=>rw [Instr.checkKey.eq_1,Instr.checkKey.eq_1];exact y2r _ (by simp)
  |succ d =>
   rw [Instr.checkKey.eq_2,Instr.checkKey.eq_2];exact y0l hu (.pure rfl)
 |@arr t e n hu _ ih =>
  intro d L v v' hv;cases d with
  |zero=>rw [Instr.checkKey.eq_1,Instr.checkKey.eq_1];exact y2r _ (by simp)
  |succ d =>
   rw [Instr.checkKey.eq_2,Instr.checkKey.eq_2];refine y0l hu ?_;have sv:=hv.shp;cases sv
   case agg cs cs' rx =>
    simp only [Std.Legacy.Range.forIn_eq_forIn_range'];refine (y41 (RB:=fun _ (a b:PUnit)=>True) _ _ _ _ _ _ (fun i hi L2 b b' hp2 hb=>?_) trivial).bind fun L2 s s' _ hs=>.pure rfl
    refine (y1q e).bind fun L3 m m' hp hm=>?_
    rw [show m'=m from hm];refine (y4b e ((rx.mono hp2).mono hp) (i * m)).bind fun L4 x x' hp4 hx=>?_
    exact (ih d L4 hx).bind fun L5 _ _ _ _=>.pure (.yield trivial)
   all_goals exact y06 _
 |@struct t fs hu _ _ ih =>
  intro d L v v' hv;cases d with
  |zero=>rw [Instr.checkKey.eq_1,Instr.checkKey.eq_1];exact y2r _ (by simp)
  |succ d =>
   rw [Instr.checkKey.eq_2,Instr.checkKey.eq_2];refine y0l hu ?_;have sv:=hv.shp;cases sv
   case agg cs cs' rx =>
    dsimp only;rw [← Array.forIn_toList,← Array.forIn_toList];refine (y41 (RB:=fun _ (a b:PUnit)=>True) _ _ _ _ _ _ (fun f hf L2 b b' hp2 hb=>?_) trivial).bind fun L2 s s' _ hs=>.pure rfl
    by_cases hn:f.name ≠ "_"
    ·rw [if_pos hn,if_pos hn]
     refine (y4b f.type (rx.mono hp2) f.offset).bind fun L4 x x' hp4 hx=>?_
     exact (ih f (by simpa using hf) d L4 hx).bind fun L5 _ _ _ _=>.pure (.yield trivial)
    ·rw [if_neg hn,if_neg hn]
     exact .pure (.yield trivial)
   all_goals exact y06 _
theorem y6m {t:TypeId} (h:KeyT P t) (empty:Bool) {v v':Value} (hv:RelP K L v v'):RelS P F K (Same Unit) L (Instr.checkKey empty 10000 t v) (Instr.checkKey empty 10000 t v'):=ye3 empty h _ L hv
theorem yb9 (kind:TypeDesc) {k k' x x':Value} (hk:RelP K L k k') (hx:RelP K L x x'):Instr.sameNow kind k' x'=Instr.sameNow kind k x:=by
 have sk:=hk.shp;have sx:=hx.shp;cases sk<;>cases sx<;>first|rfl|(cases kind<;>rfl)
theorem RelE.list {es es':Array MapEntry} (h:RelE K L es es'):∀ (i:Nat) (e e':MapEntry),es.toList[i]?=some e->es'.toList[i]?=some e'->RelP K L e.key e'.key∧RelP K L e.val e'.val∧e'.born=e.born :=
 fun i e e' h1 h2=>h.at_ i e e' (by simpa using h1) (by simpa using h2)
def RelF (K:Cfg) (L:List Nat):Option (Nat × Value)->Option (Nat × Value)->Prop
 |none,none=>True
 |some (i,v),some (j,v')=>j=i∧RelP K L v v'
 |_,_=>False
theorem y71 (kind:TypeDesc) {k k':Value} (hk:RelP K L k k'):∀ (l l':List MapEntry) (i:Nat),l'.length=l.length->(∀ (j:Nat) (e e':MapEntry),l[j]?=some e->l'[j]?=some e'->RelP K L e.key e'.key∧RelP K L e.val e'.val∧e'.born=e.born) →
  (Instr.findNow kind k l i=none∧Instr.findNow kind k' l' i=none)∨∃ o o',Instr.findNow kind k l i=some o∧Instr.findNow kind k' l' i=some o'∧RelF K L o o'
 |[],[],i,_,_=>.inr ⟨none,none,rfl,rfl,trivial⟩
 |[],_ :: _,i,h,_=>by simp at h
 |_ :: _,[],i,h,_=>by simp at h
 |e :: l,e' :: l',i,hl,he=>by
  obtain ⟨h1,h2,h3⟩:=he 0 e e' rfl rfl;have hs:=yb9 kind hk h1;unfold Instr.findNow;rw [hs];cases Instr.sameNow kind k e.key with
  |none=>exact .inl ⟨rfl,rfl⟩
  |some b =>
   cases b with
   |true=>exact .inr ⟨_,_,rfl,rfl,rfl,h2⟩
   |false=>exact y71 kind hk l l' (i+1) (by simpa using hl) fun j x x' h1 h2=>he (j+1) x x' (by simpa using h1) (by simpa using h2)
theorem RelF.mono {L':List Nat} {o o':Option (Nat × Value)} (h:RelF K L o o') (hp:L <+: L'):RelF K L' o o':=by
 rcases o with _|⟨i,v⟩<;>rcases o' with _|⟨j,v'⟩<;>first|exact h|exact ⟨h.1,h.2.mono hp⟩
theorem y4i {t:TypeId} (ht:EqT P t) {k k':Value}:∀ (l l':List MapEntry) (i:Nat) (L:List Nat),RelP K L k k'->l'.length=l.length->(∀ (j:Nat) (e e':MapEntry),l[j]?=some e->l'[j]?=some e'->RelP K L e.key e'.key∧RelP K L e.val e'.val∧e'.born=e.born) →
  RelS P F K (RelF K) L (Instr.findAsking t k l i) (Instr.findAsking t k' l' i)
 |[],[],i,L,_,_,_=>.pure trivial
 |[],_ :: _,i,L,_,h,_=>by simp at h
 |_ :: _,[],i,L,_,h,_=>by simp at h
 |e :: l,e' :: l',i,L,hk,hl,he=>by
  obtain ⟨h1,h2,h3⟩:=he 0 e e' rfl rfl;unfold Instr.findAsking;refine (ya8 ht hk h1).bind fun L1 b b' hp hb=>?_
  rw [show b'=b from hb];cases b with
  |true=>exact .pure ⟨rfl,h2.mono hp⟩
  |false=>exact y4i ht l l' (i+1) L1 (hk.mono hp) (by simpa using hl) fun j x x' g1 g2=>let ⟨y1,y2,y3⟩:=he (j+1) x x' (by simpa using g1) (by simpa using g2);⟨y1.mono hp,y2.mono hp,y3⟩
theorem y4o {t:TypeId} (ht:KeyT P t) {k k':Value} (hk:RelP K L k k') {es es':Array MapEntry} (he:RelE K L es es'):RelS P F K (RelF K) L (Instr.findKey t k es.toList) (Instr.findKey t k' es'.toList):=by
 unfold Instr.findKey;refine (y51 t).bind fun L1 d d' hp hd=>?_
 rw [hd.1];rcases y71 d hk es.toList es'.toList 0 (by simp [he.size]) he.list with ⟨h1,h2⟩|⟨o,o',h1,h2,h3⟩
 ·rw [h1,h2]
  exact y4i ht.eq _ _ 0 L1 (hk.mono hp) (by simp [he.size]) (he.mono hp).list
 ·rw [h1,h2]
  exact .pure (h3.mono hp)
def y7j (P:Program) (t:TypeId):Prop:=∀ v,(P.info? t).bind (·.zero)=some v->(y1m v=true∨∃ cs,v=.agg cs∧∀ c ∈ cs,y1m c=true)
theorem y33 {cs:Array Value} (h:∀ c ∈ cs,y1m c=true):RelCs K L cs cs:=by
 refine ⟨rfl,fun i a b ha hb=>?_⟩;obtain rfl:a=b:=zSi (ha.symm.trans hb);exact .flat (h a (Array.mem_of_getElem? ha))
theorem ycf {t:TypeId} (h:y7j P t) {v:Value} (hv:(P.info? t).bind (·.zero)=some v):RelP K L v v:=by
 rcases h v hv with h|⟨cs,rfl,h⟩
 ·exact .cell (.flat h)
 ·exact .agg (y33 h)
theorem yia {v v':Value} (hv:RelP K L v v') (b:Bool):RelPs K L #[v,.bool b] #[v',.bool b]:=by
 refine ⟨rfl,fun i x y hx hy=>?_⟩;rcases i with _|_|i
 ·simp at hx hy
  subst hx hy;exact hv
 ·simp at hx hy
  subst hx hy;exact .cell (.flat rfl)
 ·simp at hx
theorem ye0 {t key elem:TypeId} (hu:P.underlying t=some (.map key elem)) (hk:KeyT P key) (hz:y7j P elem) {m m' k k':Value} (hm:RelP K L m m') (hkk:RelP K L k k') (ok:Bool) :
  RelS P F K (fun L a b=>RelV K L a b∧(ok=false->RelP K L a b)) L (Instr.lookup t m k ok) (Instr.lookup t m' k' ok):=by
 unfold Instr.lookup;refine y0l hu ?_;have fin:∀ (L4:List Nat) (v v':Value) (b:Bool),RelP K L4 v v'->RelS P F K (fun L a b=>RelV K L a b∧(ok=false->RelP K L a b)) L4 (Pure.pure (if ok then .tuple #[v,.bool b] else v)) (Pure.pure (if ok then .tuple #[v',.bool b] else v')):=by
  intro L4 v v' b hv;cases ok with
  |true=>exact .pure ⟨.tuple (yia hv b),fun h=>by cases h⟩
  |false=>exact .pure ⟨.part hv,fun _=>hv⟩
 have sm:=hm.shp;cases sm
 case mpN =>
  have he0:RelE K L #[] #[]:=⟨rfl,fun i e e' h=>by simp at h⟩
  have hemp:(#[]:Array MapEntry).isEmpty=(#[]:Array MapEntry).isEmpty:=by simp [Array.isEmpty,(he0).size]
  refine RelS.bind (RA:=Same Unit) (hemp ▸ y6m hk _ hkk) fun L2 _ _ hp2 _=>?_
  refine RelS.bind (y4o hk (hkk.mono hp2) (RelE.mono he0 hp2)) fun L3 o o' hp3 ho=>?_
  rcases o with _|⟨i,v⟩<;>rcases o' with _|⟨j,v'⟩
  ·refine RelS.bind (y2w elem) fun L4 z z' hp4 hzz=>?_
   rw [hzz.1];exact fin L4 z z false (ycf hz hzz.2)
  ·exact ho.elim
  ·exact ho.elim
  ·exact fin L3 v v' true ho.2
 case mp r r' hr =>
  refine .getMap hr (fun st p w=>⟨_,w,rfl,trivial⟩) fun es es' cl he=>?_
  have hemp:es'.isEmpty=es.isEmpty:=by simp [Array.isEmpty,(he).size]
  refine RelS.bind (RA:=Same Unit) (hemp ▸ y6m hk _ hkk) fun L2 _ _ hp2 _=>?_
  refine RelS.bind (y4o hk (hkk.mono hp2) (RelE.mono he hp2)) fun L3 o o' hp3 ho=>?_
  rcases o with _|⟨i,v⟩<;>rcases o' with _|⟨j,v'⟩
  ·refine RelS.bind (y2w elem) fun L4 z z' hp4 hzz=>?_
   rw [hzz.1];exact fin L4 z z false (ycf hz hzz.2)
  ·exact ho.elim
  ·exact ho.elim
  ·exact fin L3 v v' true ho.2
 all_goals exact y06 _
theorem y5r (n:Nat) {k k' x x':Value} (hk:RelC K L k k') (hx:RelC K L x x'):Instr.sameBits n k' x'=Instr.sameBits n k x:=by
 have sk:=(RelP.cell hk).shp;have sx:=(RelP.cell hx).shp;cases sk with
 |agg _=>exact absurd rfl (hk.noAgg.1 _)
 |_=>cases sx with
  |agg _=>exact absurd rfl (hx.noAgg.1 _)
  |_=>first|rfl|(cases n<;>rfl)
theorem y77 (n:Nat):∀ (l l' m m':List Value),l'.length=l.length->m'.length=m.length->(∀ (j:Nat) (v v':Value),l[j]?=some v->l'[j]?=some v'->RelC K L v v')->(∀ (j:Nat) (v v':Value),m[j]?=some v->m'[j]?=some v'->RelC K L v v') →
  ((l'.zip m').all fun (x,y)=>Instr.sameBits n x y)=((l.zip m).all fun (x,y)=>Instr.sameBits n x y)
 |[],[],_,_,_,_,_,_=>by simp
 |[],_ :: _,_,_,h,_,_,_=>by simp at h
 |_ :: _,[],_,_,h,_,_,_=>by simp at h
 |_ :: _,_ :: _,[],[],_,_,_,_=>by simp
 |_ :: _,_ :: _,[],_ :: _,_,h,_,_=>by simp at h
 |_ :: _,_ :: _,_ :: _,[],_,h,_,_=>by simp at h
 |a :: l,a' :: l',b :: m,b' :: m',hl,hm,h1,h2=>by
  simp only [List.zip_cons_cons,List.all_cons];rw [y77 n l l' m m' (by simpa using hl) (by simpa using hm) (fun j v v' g1 g2=>h1 (j+1) v v' (by simpa using g1) (by simpa using g2)) (fun j v v' g1 g2=>h2 (j+1) v v' (by simpa using g1) (by simpa using g2)),
   y5r n (h1 0 a a' rfl rfl) (h2 0 b b' rfl rfl)]
theorem y8j {k k' x x':Value} (hk:RelP K L k k') (hx:RelP K L x x'):Instr.sameBits 10000 k' x'=Instr.sameBits 10000 k x:=by
 cases hk with
 |cell hk =>
  cases hx with
  |cell hx=>exact y5r 10000 hk hx
  |agg hx =>
   have sk:=(RelP.cell hk).shp;cases sk with
   |agg _=>exact absurd rfl (hk.noAgg.1 _)
   |_=>rfl
 |agg hk =>
  cases hx with
  |cell hx =>
   have sx:=(RelP.cell hx).shp;cases sx with
   |agg _=>exact absurd rfl (hx.noAgg.1 _)
   |_=>rfl
  |@agg ds ds' hx =>
   rename_i cs cs';show (cs'.size == ds'.size && (cs'.toList.zip ds'.toList).all fun (x,y)=>Instr.sameBits 9999 x y)=(cs.size == ds.size && (cs.toList.zip ds.toList).all fun (x,y)=>Instr.sameBits 9999 x y)
   rw [hk.1,hx.1,y77 9999 cs.toList cs'.toList ds.toList ds'.toList (by simp [hk.1]) (by simp [hx.1]) (fun j v v' g1 g2=>hk.2 j v v' (by simpa using g1) (by simpa using g2)) (fun j v v' g1 g2=>hx.2 j v v' (by simpa using g1) (by simpa using g2))]
theorem ya4 {o o' k k':Value} (ho:RelP K L o o') (hk:RelP K L k k'):RelS P F K (fun L=>RelP K L) L (Instr.keyThatStays o k) (Instr.keyThatStays o' k'):=by
 unfold Instr.keyThatStays;rw [y8j ho hk];split
 ·exact .pure hk
 ·refine .choose fun n=>?_
  show RelS P F K _ L (Pure.pure (if n=0 then k else o)) (Pure.pure (if n=0 then k' else o'));split
  ·exact .pure hk
  ·exact .pure ho
theorem y8l {t key elem:TypeId} (hu:P.underlying t=some (.map key elem)) (hk:KeyT P key) {m m' k k' v v':Value} (hm:RelP K L m m') (hkk:RelP K L k k') (hv:RelP K L v v') :
  RelS P F K (Same Unit) L (Instr.mapUpdate t m k v) (Instr.mapUpdate t m' k' v'):=by
 unfold Instr.mapUpdate;refine y0l hu ?_;have sm:=hm.shp;cases sm
 case mpN=>exact y5f _ (.inr (.inr ⟨_,rfl⟩))
 case mp r r' hr =>
  refine .getMap hr (fun st p w=>⟨_,w,rfl,trivial⟩) fun es es' cl he=>?_
  refine (y6m hk _ hkk).bind fun L2 _ _ hp2 _=>?_
  refine (y4o hk (hkk.mono hp2) (he.mono hp2)).bind fun L3 o o' hp3 ho=>?_
  have hp:=hp2.trans hp3;have he3:=(he.mono hp2).mono hp3;rcases o with _|⟨i,x⟩<;>rcases o' with _|⟨j,x'⟩
  ·refine .setMap (hr.mono hp) ⟨by simp [he3.size],fun i e e' h1 h2=>?_⟩ (.pure rfl)
   rw [Array.getElem?_push] at h1 h2
   by_cases hi:i=es.size
   ·rw [if_pos hi] at h1
    rw [if_pos (by rw [he3.size];exact hi)] at h2;obtain rfl:=zSi h1;obtain rfl:=zSi h2;exact ⟨hkk.mono hp,hv.mono hp,rfl⟩
   ·rw [if_neg hi] at h1
    rw [if_neg (by rw [he3.size];exact hi)] at h2;exact he3.at_ i e e' h1 h2
  ·exact ho.elim
  ·exact ho.elim
  ·obtain ⟨hij,_⟩:=ho
   obtain rfl:j=i:=hij;have hold:RelP K L3 (((es[j]?).map (·.key)).getD k) (((es'[j]?).map (·.key)).getD k'):=by
    cases h1:es[j]? with
    |none =>
     rw [Array.getElem?_eq_none (by rw [he3.size];exact Array.getElem?_eq_none_iff.1 h1)];exact hkk.mono hp
    |some e =>
     have hl:j<es'.size:=by rw [he3.size];exact (zGe h1).1
     rw [Array.getElem?_eq_getElem hl];exact (he3.at_ j e _ h1 (Array.getElem?_eq_getElem hl)).1
   refine (ya4 hold (hkk.mono hp)).bind fun L4 kk kk' hp4 hkk4=>?_
   have he4:=he3.mono hp4;refine .setMap ((hr.mono hp).mono hp4) ⟨by simp [he4.size],fun i e e' h1 h2=>?_⟩ (.pure rfl);rw [Array.getElem?_modify] at h1 h2
   by_cases hi:j=i
   ·subst hi
    rw [if_pos rfl] at h1 h2;obtain ⟨e0,g1,rfl⟩:=Option.map_eq_some_iff.1 h1;obtain ⟨e1,g2,rfl⟩:=Option.map_eq_some_iff.1 h2;exact ⟨hkk4,(hv.mono hp).mono hp4,(he4.at_ j e0 e1 g1 g2).2.2⟩
   ·rw [if_neg hi] at h1 h2
    exact he4.at_ i e e' h1 h2
 all_goals exact y06 _
end
end Go.Tr
namespace Go.Tr
section
variable {P:Program} {F:Array Func} {K:Cfg} {α β γ:Type} {L:List Nat}
theorem RelCs.append {a a' b b':Array Value} (h:RelCs K L a a') (k:RelCs K L b b'):RelCs K L (a ++ b) (a' ++ b'):=by
 refine ⟨by simp [h.1,k.1],fun i x y hx hy=>?_⟩;rw [Array.getElem?_append] at hx hy;rw [h.1] at hy;split at hx
 ·rename_i hl
  rw [if_pos hl] at hy;exact h.2 i x y hx hy
 ·rename_i hl
  rw [if_neg hl] at hy;exact k.2 _ x y hx hy
def RelQ (K:Cfg) (L:List Nat) (ps ps':List (Nat × Value)):Prop:=ps'.length=ps.length∧∀ (i:Nat) (p p':Nat × Value),ps[i]?=some p->ps'[i]?=some p'->p'.1=p.1∧RelP K L p.2 p'.2
theorem yiv {cs cs' vs vs':Array Value} (off:Nat) (hc:RelCs K L cs cs') (hv:RelCs K L vs vs'):RelCs K L (vs.zipIdx.foldl (fun cs (c,j)=>cs.setIfInBounds (off+j) c) cs) (vs'.zipIdx.foldl (fun cs (c,j)=>cs.setIfInBounds (off+j) c) cs'):=by
 have key:∀ (l l':List Value) (n:Nat) (cs cs':Array Value),l'.length=l.length->(∀ (j:Nat) (v v':Value),l[j]?=some v->l'[j]?=some v'->RelC K L v v')->RelCs K L cs cs' →
   RelCs K L ((l.zipIdx n).foldl (fun cs (x:Value × Nat)=>cs.setIfInBounds (off+x.2) x.1) cs) ((l'.zipIdx n).foldl (fun cs (x:Value × Nat)=>cs.setIfInBounds (off+x.2) x.1) cs'):=by
  intro l
  induction l with
  |nil =>
   intro l' n cs cs' hl _ hc;obtain rfl:l'=[]:=List.length_eq_zero_iff.1 hl;exact hc
  |cons v l ih =>
   intro l' n cs cs' hl hv hc;cases l' with
   |nil=>simp at hl
   |cons v' l' =>
    simp only [List.zipIdx_cons,List.foldl_cons];exact ih l' (n+1) _ _ (by simpa using hl) (fun j x y h1 h2=>hv (j+1) x y (by simpa using h1) (by simpa using h2)) (hc.set (hv 0 v v' rfl rfl) _)
 have e:∀ (vs cs:Array Value),vs.zipIdx.foldl (fun cs (c,j)=>cs.setIfInBounds (off+j) c) cs=(vs.toList.zipIdx 0).foldl (fun cs (x:Value × Nat)=>cs.setIfInBounds (off+x.2) x.1) cs:=by
  intro vs cs;rw [← Array.foldl_toList,Array.toList_zipIdx]
 rw [e,e];exact key _ _ 0 _ _ (by simp [hv.1]) (fun j x y h1 h2=>hv.2 j x y (by simpa using h1) (by simpa using h2)) hc
theorem y63 (place:Nat->Option (Nat × Nat)):∀ (ps ps':List (Nat × Value)) (cs cs':Array Value),RelQ K L ps ps'->RelCs K L cs cs' →
  (Instr.fill place cs ps=none∧Instr.fill place cs' ps'=none)∨∃ c c',Instr.fill place cs ps=some c∧Instr.fill place cs' ps'=some c'∧RelCs K L c c'
 |[],[],cs,cs',_,hc=>.inr ⟨_,_,rfl,rfl,hc⟩
 |[],_ :: _,_,_,h,_=>by simp [RelQ] at h
 |_ :: _,[],_,_,h,_=>by simp [RelQ] at h
 |(i,v) :: ps,(i',v') :: ps',cs,cs',h,hc=>by
  obtain ⟨h1,h2⟩:=h.2 0 (i,v) (i',v') rfl rfl;obtain rfl:i'=i:=h1;have hv:=h2.cells;have hrest:RelQ K L ps ps':=⟨by simpa using h.1,fun j p p' g1 g2=>h.2 (j+1) p p' (by simpa using g1) (by simpa using g2)⟩
  unfold Instr.fill;cases place i' with
  |none=>exact .inl ⟨rfl,rfl⟩
  |some q =>
   obtain ⟨off,size⟩:=q;have e1:v'.cells.size=v.cells.size:=hv.1;have e2:cs'.size=cs.size:=hc.1;simp only [e1,e2];split
   ·exact .inl ⟨rfl,rfl⟩
   ·exact y63 place ps ps' _ _ hrest (yiv off hc hv)
theorem y4v {z:Array Value} (h:∀ c ∈ z,y1m c=true) (n:Nat):RelCs K L ((Array.range n).map (z[· % z.size]!)) ((Array.range n).map (z[· % z.size]!)):=by
 refine y33 fun c hc=>?_
 obtain ⟨i,_,rfl⟩:=Array.mem_map.1 hc;show y1m (z[i % z.size]!)=true;rw [getElem!_def];cases hz:z[i % z.size]? with
 |none=>rfl
 |some x=>exact h x (Array.mem_of_getElem? hz)
theorem y21 {t:TypeId} (h:y7j P t) {v:Value} (hv:(P.info? t).bind (·.zero)=some v):∀ c ∈ v.cells,y1m c=true:=by
 rcases h v hv with h|⟨cs,rfl,h⟩
 ·intro c hc
  have:v.cells=#[v]:=by cases v<;>first|rfl|(simp [y1m] at h;done)
  rw [this] at hc;simp at hc;exact hc ▸ h
 ·exact h
theorem yft {t e:TypeId} {n:Nat} (hu:P.underlying t=some (.array n e)) (hz:y7j P t) {ps ps':Array (Nat × Value)} (h:RelQ K L ps.toList ps'.toList):RelS P F K (fun L=>RelP K L) L (Instr.build t ps) (Instr.build t ps'):=by
 unfold Instr.build;refine RelS.bind (y2w t) fun L1 z z' hp hzz=>?_
 rw [hzz.1];refine y0l hu ?_;refine RelS.bind (y1q e) fun L2 m m' hp2 hm=>?_
 rw [show m'=m from hm];have hq:RelQ K L2 ps.toList ps'.toList:=⟨h.1,fun i p p' h1 h2=>let ⟨x,y⟩:=h.2 i p p' h1 h2;⟨x,y.mono (hp.trans hp2)⟩⟩
 rcases y63 (fun i=>some (i * m,m)) _ _ _ _ hq (y33 (y21 hz hzz.2)) with ⟨h1,h2⟩|⟨c,c',h1,h2,h3⟩
 ·simp only [h1,h2]
  exact y06 _
 ·simp only [h1,h2]
  exact .pure (.agg h3)
theorem y7q:∀ (fs:List Field) (L:List Nat),RelS P F K (Same (List (Nat × Nat))) L (fs.mapM fun f=>(sizeOf f.type).bind fun n=>Pure.pure (f.offset,n)) (fs.mapM fun f=>(sizeOf f.type).bind fun n=>Pure.pure (f.offset,n))
 |[],L=>.pure rfl
 |f :: fs,L=>by
  simp only [List.mapM_cons];refine RelS.bind (RA:=Same (Nat × Nat)) ((y1q f.type).bind fun L1 n n' _ hn=>by rw [show n'=n from hn];exact .pure rfl) fun L1 p p' _ hp=>?_
  rw [show p'=p from hp];refine RelS.bind (y7q fs L1) fun L2 ps ps' _ hps=>?_
  rw [show ps'=ps from hps];exact .pure rfl
theorem ye4 {t:TypeId} {fs:Array Field} (hu:P.underlying t=some (.struct fs)) (hz:y7j P t) {ps ps':Array (Nat × Value)} (h:RelQ K L ps.toList ps'.toList):RelS P F K (fun L=>RelP K L) L (Instr.build t ps) (Instr.build t ps'):=by
 unfold Instr.build;refine RelS.bind (y2w t) fun L1 z z' hp hzz=>?_
 rw [hzz.1];refine y0l hu ?_;dsimp only;simp only [Array.mapM_eq_mapM_toList,bind_map_left];refine RelS.bind (y7q fs.toList L1) fun L2 m m' hp2 hm=>?_
 rw [show m'=m from hm];have hq:RelQ K L2 ps.toList ps'.toList:=⟨h.1,fun i p p' h1 h2=>let ⟨x,y⟩:=h.2 i p p' h1 h2;⟨x,y.mono (hp.trans hp2)⟩⟩
 rcases y63 (fun i=>m.toArray[i]?) _ _ _ _ hq (y33 (y21 hz hzz.2)) with ⟨h1,h2⟩|⟨c,c',h1,h2,h3⟩
 ·simp only [h1,h2]
  exact y06 _
 ·simp only [h1,h2]
  exact .pure (.agg h3)
theorem y7e {t e:TypeId} (hu:P.underlying t=some (.slice e)) (hz:y7j P e) (len:Nat) {ps ps':Array (Nat × Value)} (h:RelQ K L ps.toList ps'.toList):RelS P F K (fun L=>RelP K L) L (Instr.buildSlice t len ps) (Instr.buildSlice t len ps'):=by
 unfold Instr.buildSlice;refine y0l hu ?_;refine RelS.bind (y1q e) fun L2 m m' hp2 hm=>?_
 rw [show m'=m from hm];have tail:∀ (L3:List Nat) (z:Array Value),L2 <+: L3->(∀ c ∈ z,y1m c=true)->RelS P F K (fun L=>RelP K L) L3
   (match Instr.fill (fun i=>some (i * m,m)) ((Array.range (len * m)).map (z[· % z.size]!)) ps.toList with
    |some cells=>(newRow e cells).bind fun a=>Pure.pure (.slice (some a) len len)
    |_=>stuck "buildSlice: a part of the wrong size")
   (match Instr.fill (fun i=>some (i * m,m)) ((Array.range (len * m)).map (z[· % z.size]!)) ps'.toList with
    |some cells=>(newRow e cells).bind fun a=>Pure.pure (.slice (some a) len len)
    |_=>stuck "buildSlice: a part of the wrong size"):=by
  intro L3 z hp3 hzf;have hq:RelQ K L3 ps.toList ps'.toList:=⟨h.1,fun i p p' h1 h2=>let ⟨x,y⟩:=h.2 i p p' h1 h2;⟨x,y.mono (hp2.trans hp3)⟩⟩
  rcases y63 (fun i=>some (i * m,m)) _ _ _ _ hq (y4v hzf (len * m)) with ⟨h1,h2⟩|⟨c,c',h1,h2,h3⟩
  ·simp only [h1,h2]
   exact y06 _
  ·simp only [h1,h2]
   exact (y2f e h3).bind fun L4 a a' _ ha=>.pure (.cell (ha.slice _ _))
 dsimp only
 by_cases hbig:len * m > 2 ^ 24
 ·rw [if_pos hbig,if_pos hbig]
  exact .doomed fun w=>⟨_,w,rfl,trivial⟩
 ·rw [if_neg hbig,if_neg hbig]
  by_cases h0:len * m=0
  ·rw [if_pos h0,if_pos h0]
   exact tail L2 #[] (List.prefix_refl _) (by simp)
  ·rw [if_neg h0,if_neg h0]
   refine RelS.bind (y2w e) fun L3 z z' hp3 hzz=>?_
   rw [hzz.1];exact tail L3 z.cells hp3 (y21 hz hzz.2)
theorem y1p (size n:Nat) {v v':Value} (h:RelV K L v v'):RelS P F K (fun L=>RelCs K L) L (Builtin.firstCells size n v) (Builtin.firstCells size n v'):=by
 cases h with
 |tuple _=>exact y06 _
 |part h =>
  have s:=h.shp;cases s
  case sl a a' m c ha=>exact y52 (n * size) ha
  case slN m c=>exact .pure .nil
  case str s=>exact .pure (y33 fun c hc=>by obtain ⟨b,_,rfl⟩:=Array.mem_map.1 hc;rfl)
  all_goals exact y06 _
theorem ya3 {v v':Value} (h:RelV K L v v'):RelS P F K (Same Nat) L (Builtin.lenOf v) (Builtin.lenOf v'):=by
 cases h with
 |tuple _=>exact y06 _
 |part h =>
  have s:=h.shp;cases s
  case sl a a' m c ha=>exact .pure rfl
  case slN m c=>exact .pure rfl
  case str s=>exact .pure rfl
  all_goals exact y06 _
theorem y4q (b:Nat):RelS P F K (Same Unit) L (askRoom b) (askRoom b):=by
 unfold askRoom;split
 ·exact .room (.pure rfl)
 ·exact .pure rfl
theorem yc3 {s:Sem α} {f:α->Sem β} (hs:∀ w,(∃ a w',s.run P w=.ok a w')∨∃ h w',s.run P w=.halt h w'∧y0z h) (hf:∀ a w,∃ h w',(f a).run P w=.halt h w'∧y0z h):∀ w,∃ h w',(s.bind f).run P w=.halt h w'∧y0z h:=by
 intro w;rw [Sem.run_bind'];rcases hs w with ⟨a,w',e⟩|⟨h,w',e,hc⟩
 ·rw [e]
  exact hf a w'
 ·rw [e]
  exact ⟨h,w',rfl,hc⟩
theorem run_holds (a:Addr) (n:Nat) (w:World):∃ b w',(Builtin.holdsCells a n).run P w=.ok b w':=by
 unfold Builtin.holdsCells;simp only [Sem.run_bind,run_shape,Result.andThen];split<;>exact ⟨_,_,rfl⟩
theorem y6w (size sLen n:Nat) (base:Option Addr) (x:Value) (w:World):∃ b w',(Builtin.mayShare size sLen n base x).run P w=.ok b w':=by
 have last:∀ (there:Bool) (w:World),∃ b w',((if !there then Pure.pure true else match x with
   |.slice (some b) _ _=>do Pure.pure (!(← Builtin.holdsCells b (n * size)) || base.any (·.block == b.block))
   |_=>Pure.pure false:Sem Bool)).run P w=.ok b w':=by
  intro there w;split
  ·exact ⟨_,_,rfl⟩
  ·split
   ·obtain ⟨b,w',e⟩:=run_holds (P:=P) (by assumption) (n * size) w
    simp only [Sem.run_bind,e,Result.andThen];exact ⟨_,_,rfl⟩
   ·exact ⟨_,_,rfl⟩
 unfold Builtin.mayShare;cases base with
 |none=>exact last true w
 |some a =>
  obtain ⟨b,w',e⟩:=run_holds (P:=P) a (sLen * size) w;simp only [Sem.run_bind,e,Result.andThen,run_frozen,Sem.run_pure];exact last _ _
end
end Go.Tr
namespace Go.Tr
section
variable {P:Program} {F:Array Func} {K:Cfg} {α β γ:Type} {L:List Nat}
theorem y7k {z:Array Value} (h:∀ c ∈ z,y1m c=true) (n:Nat):RelCs K L (Builtin.zeroCells z n) (Builtin.zeroCells z n):=y4v h _
theorem ye6 {t t2 e e2:TypeId} (hu:P.underlying t=some (.slice e)) (hu2:P.underlying t2=some (.slice e2)) (hz:y7j P e) (ty:TypeId) {s s' x x':Value} (hs:RelV K L s s') (hx:RelV K L x x') :
  RelS P F K (fun L=>RelP K L) L (Builtin.append_ #[t,t2] ty #[s,x]) (Builtin.append_ #[t,t2] ty #[s',x']):=by
 unfold Builtin.append_;refine y0l hu ?_;cases hs with
 |tuple _=>exact y06 _
 |part hs =>
  have ss:=hs.shp;cases ss
  case slN sLen sCap =>
   have hsl:RelV K L (.slice none sLen sCap) (.slice none sLen sCap):=.part (.cell (.flat rfl));refine RelS.bind (y1q e) fun L1 size size' hp1 hsz=>?_
   rw [show size'=size from hsz]
   try dsimp only
   refine y0l hu2 ?_;refine RelS.bind (RA:=fun _ (a b:Bool)=>a=false∧b=false) (.pure ⟨rfl,rfl⟩) fun L2 zs zs' hp2 hzs=>?_
   obtain ⟨rfl,rfl⟩:=hzs
   try dsimp only
   rw [if_neg (by simp),if_neg (by simp)];refine RelS.bind (RA:=Same Nat) (ya3 ((hx.mono hp1).mono hp2)) fun L3 n n' hp3 hn=>?_
   rw [show n'=n from hn];have hp:=(hp1.trans hp2).trans hp3;have hx3:=hx.mono hp;have hsl3:=hsl.mono hp
   try dsimp only
   by_cases hneed:sLen+n≤sCap
   ·rw [if_pos hneed,if_pos hneed]
    simp only [Bool.not_false,if_true];refine RelS.bind (RA:=fun L=>RelCs K L) (y1p size n hx3) fun L4 c c' hp4 hc=>?_
    exact .pure (.cell (.flat rfl))
   ·rw [if_neg hneed,if_neg hneed]
    simp only [Bool.not_false,if_true];refine RelS.bind (y2k e) fun L4 i i' hp4 hi=>?_
    rw [hi.1]
    by_cases hover:((sLen+n:Nat):Int) > IntKind.i64.max∧(false=true∨i.bytes=0)
    ·rw [if_pos hover,if_pos hover]
     exact .doomed fun w=>⟨_,_,rfl,trivial⟩
    ·rw [if_neg hover,if_neg hover]
     refine RelS.bind (y2k e) fun L6 i2 i2' hp6 hi2=>?_
     rw [hi2.1]
     by_cases hbig:Builtin.nextslicecap (sLen+n) sCap * i2.bytes > 2 ^ 48
     ·rw [if_pos hbig,if_pos hbig,if_neg (by simp),if_neg (by simp)]
      refine .doomed fun w=>?_
      obtain ⟨b,w',hb⟩:=y6w (P:=P) size sLen n none ((#[Value.slice none sLen sCap,x]:Array Value)[1]) w;simp only [Sem.run_bind,hb,Result.andThen];cases b<;>exact ⟨_,_,rfl,trivial⟩
     ·rw [if_neg hbig,if_neg hbig]
      refine RelS.bind (RA:=Same Nat) (.choose fun newCap=>.pure rfl) fun L7 newCap newCap' hp7 hnc=>?_
      rw [show newCap'=newCap from hnc];refine RelS.bind (y2k e) fun L8 i3 i3' hp8 hi3=>?_
      rw [hi3.1];refine RelS.bind (y4q _) fun L9 _ _ hp9 _=>?_
      have hpa:=(((hp4.trans hp6).trans hp7).trans hp8).trans hp9;refine RelS.bind (RA:=fun L=>RelCs K L) (y1p size sLen (hsl3.mono hpa)) fun LA o o' hpA ho=>?_
      refine RelS.bind (RA:=fun L=>RelCs K L) (y1p size n ((hx3.mono hpa).mono hpA)) fun LB nw nw' hpB hnw=>?_
      refine RelS.bind (y2w e) fun LC z z' hpC hzz=>?_
      rw [hzz.1];have hzr:RelCs K LC (Builtin.zeroCells z.cells (newCap - (sLen+n))) (Builtin.zeroCells z.cells (newCap - (sLen+n))):=y7k (y21 hz hzz.2) _;refine RelS.bind (RA:=fun L=>RelA K L) (y2f e ((((ho.mono hpB).mono hpC).append (hnw.mono hpC)).append hzr)) fun LD a2 a2' hpD ha2=>?_
      exact .pure (.cell (ha2.slice _ _))
  case sl a a' sLen sCap ha =>
   have hsl:RelV K L (.slice (some a) sLen sCap) (.slice (some a') sLen sCap):=.part (.cell (ha.slice _ _));refine RelS.bind (y1q e) fun L1 size size' hp1 hsz=>?_
   rw [show size'=size from hsz]
   try dsimp only
   refine y0l hu2 ?_;refine RelS.bind (RA:=fun _ (a b:Bool)=>a=false∧b=false) (.pure ⟨rfl,rfl⟩) fun L2 zs zs' hp2 hzs=>?_
   obtain ⟨rfl,rfl⟩:=hzs
   try dsimp only
   rw [if_neg (by simp),if_neg (by simp)];refine RelS.bind (RA:=Same Nat) (ya3 ((hx.mono hp1).mono hp2)) fun L3 n n' hp3 hn=>?_
   rw [show n'=n from hn];have hp:=(hp1.trans hp2).trans hp3;have hx3:=hx.mono hp;have hsl3:=hsl.mono hp
   try dsimp only
   by_cases hneed:sLen+n≤sCap
   ·rw [if_pos hneed,if_pos hneed]
    simp only [Bool.not_false,if_true];refine RelS.bind (RA:=fun L=>RelCs K L) (y1p size n hx3) fun L4 c c' hp4 hc=>?_
    have ha4:=(ha.mono hp).mono hp4;refine RelS.bind (RA:=Same Unit) (y39 _ _ _ _ _ 0 (ha4.add (sLen * size)) (by simp [hc.1]) fun j v v' g1 g2=>hc.2 j v v' (by simpa using g1) (by simpa using g2)) fun L5 _ _ hp5 _=>?_
    have ha5:=ha4.mono hp5;exact .pure (.cell (ha5.slice _ _))
   ·rw [if_neg hneed,if_neg hneed]
    simp only [Bool.not_false,if_true];refine RelS.bind (y2k e) fun L4 i i' hp4 hi=>?_
    rw [hi.1]
    by_cases hover:((sLen+n:Nat):Int) > IntKind.i64.max∧(false=true∨i.bytes=0)
    ·rw [if_pos hover,if_pos hover]
     exact .doomed fun w=>⟨_,_,rfl,trivial⟩
    ·rw [if_neg hover,if_neg hover]
     refine RelS.bind (y2k e) fun L6 i2 i2' hp6 hi2=>?_
     rw [hi2.1]
     by_cases hbig:Builtin.nextslicecap (sLen+n) sCap * i2.bytes > 2 ^ 48
     ·rw [if_pos hbig,if_pos hbig,if_neg (by simp),if_neg (by simp)]
      refine .doomed fun w=>?_
      obtain ⟨b,w',hb⟩:=y6w (P:=P) size sLen n (some a) ((#[Value.slice (some a) sLen sCap,x]:Array Value)[1]) w;simp only [Sem.run_bind,hb,Result.andThen];cases b<;>exact ⟨_,_,rfl,trivial⟩
     ·rw [if_neg hbig,if_neg hbig]
      refine RelS.bind (RA:=Same Nat) (.choose fun newCap=>.pure rfl) fun L7 newCap newCap' hp7 hnc=>?_
      rw [show newCap'=newCap from hnc];refine RelS.bind (y2k e) fun L8 i3 i3' hp8 hi3=>?_
      rw [hi3.1];refine RelS.bind (y4q _) fun L9 _ _ hp9 _=>?_
      have hpa:=(((hp4.trans hp6).trans hp7).trans hp8).trans hp9;refine RelS.bind (RA:=fun L=>RelCs K L) (y1p size sLen (hsl3.mono hpa)) fun LA o o' hpA ho=>?_
      refine RelS.bind (RA:=fun L=>RelCs K L) (y1p size n ((hx3.mono hpa).mono hpA)) fun LB nw nw' hpB hnw=>?_
      refine RelS.bind (y2w e) fun LC z z' hpC hzz=>?_
      rw [hzz.1];have hzr:RelCs K LC (Builtin.zeroCells z.cells (newCap - (sLen+n))) (Builtin.zeroCells z.cells (newCap - (sLen+n))):=y7k (y21 hz hzz.2) _;refine RelS.bind (RA:=fun L=>RelA K L) (y2f e ((((ho.mono hpB).mono hpC).append (hnw.mono hpC)).append hzr)) fun LD a2 a2' hpD ha2=>?_
      exact .pure (.cell (ha2.slice _ _))
  all_goals exact y06 _
end
end Go.Tr
namespace Go.Tr
abbrev y17:=Tmp->Nat
def y81:Value->Bool
 |.agg cs=>cs.all y1m
 |v=>y1m v
def valB (kd:y17):Operand->Bool
 |.tmp t=>kd t == 0
 |.const v=>y81 v
 |.func f=>cloT.contains (f,0)
 |_=>false
def tupB (kd:y17):Operand->Bool
 |.tmp t=>kd t == 0 || kd t == 2
 |.const v=>y81 v
 |_=>false
def tmpB:Operand->Bool
 |.tmp _=>true
 |_=>false
def y3k (P:Program) (t:TypeId):Option TypeId:=match P.underlying t with|some (.slice e)=>some e|_=>none
def intB (P:Program) (t:TypeId):Bool:=match P.underlying t with|some (.int _)=>true|_=>false
def y9c (P:Program) (t:TypeId):Bool:=match (P.info? t).bind (·.zero) with|some v=>y81 v|none=>true
def ygp (P:Program):Nat->TypeId->Bool
 |0,_=>false
 |d+1,t=>match P.underlying t with
  |some (.int _)=>true
  |some (.array _ e)=>ygp P d e
  |some (.struct fs)=>!P.stoodInHeld t && fs.all fun f=>ygp P d f.type
  |_=>false
def keyB (P:Program) (t:TypeId):Bool:=ygp P 3 t
def strT (P:Program) (t:TypeId):Bool:=match P.underlying t with|some .string=>true|_=>false
def yhy (P:Program) (t:TypeId):Bool:=match P.info? t with|some i=>i.size != 0|none=>true
def eqFB (P:Program):Nat->TypeId->Bool
 |0,_=>false
 |d+1,t=>match P.underlying t with
  |some .bool=>true
  |some (.int _)=>true
  |some (.slice _)=>true
  |some .string=>true
  |some (.array _ e)=>eqFB P d e
  |some (.struct fs)=>!P.stoodInHeld t && fs.all fun f=>eqFB P d f.type
  |_=>false
def eqB (P:Program) (t:TypeId):Bool:=eqFB P 3 t
def dstB (kd:y17) (n:Nat):Option Tmp->Bool
 |some d=>kd d == n || kd d == 1
 |none=>true
def y3i:BinOp->Bool
 |.add|.sub|.mul|.quo|.rem|.lss|.leq|.gtr|.geq|.and|.or|.xor|.andNot|.shl|.shr=>true
 |_=>false
def yif (kd:y17) (dst:Option Tmp):Operand->Bool
 |.tmp t=>kd t == 0 || dstB kd (kd t) dst
 |.const v=>y81 v
 |.func f=>cloT.contains (f,0)
 |_=>false
def oneB (P:Program) (f:FuncId):Bool:=match P.funcs[f]? with|some fn=>fn.results.size == 1|none=>false
def strC:Operand->Bool
 |.const v=>strB v
 |_=>false
def szB (P:Program) (f:FuncId) (n:Nat):Bool:=match P.funcs[f]? with|some fn=>fn.params.size == n|none=>false
def nfB (P:Program) (f:FuncId) (n:Nat):Bool:=match P.funcs[f]? with|some fn=>fn.nfree == n|none=>false
def parN (P:Program) (f:FuncId):Nat:=match P.funcs[f]? with|some fn=>fn.params.size|none=>0
def freN (P:Program) (f:FuncId):Nat:=match P.funcs[f]? with|some fn=>fn.nfree|none=>0
def callB (P:Program) (S:FuncId->Bool) (kd:y17) (dst:Option Tmp) (c:Call):Bool :=
 match c.callee with
 |.builtin b =>
  match b with
  |.len=>(match c.args.toList,c.argTypes.toList with
   |[x],[t]=>((y3k P t).isSome || ((match P.underlying t with|some (.map _ _)=>true|_=>false) || strT P t)) && valB kd x
   |_,_=>false)
  |.append=>(match c.args.toList,c.argTypes.toList with
   |[x,y],[t,t2]=>(match y3k P t with|some e=>y9c P e|none=>false) && (y3k P t2).isSome && valB kd x && valB kd y
   |_,_=>false)
  |.max=>(match c.args.toList with|[x,y]=>valB kd x && valB kd y|_=>false)
  |.min=>(match c.args.toList with|[x,y]=>valB kd x && valB kd y|_=>false)
  |_=>false
 |.value x=>(match x with|.func f=>S f && c.args.all (valB kd) && dstB kd (if oneB P f then 0 else 2) dst && szB P f c.args.size|.tmp t=>kd t == 0 && c.args.all (valB kd) && dstB kd 0 dst && cloT.all (fun p=>S p.1 && oneB P p.1 && szB P p.1 c.args.size && nfB P p.1 p.2)|_=>false)
 |_=>false
def y5o (P:Program) (S:FuncId->Bool) (kd:y17) (o:Oper):Bool :=
 match o.op with
 |.move x=>yif kd o.dst x
 |.assign x=>yif kd o.dst x
 |.pick c a b=>valB kd c && valB kd a && valB kd b
 |.alloc e=>dstB kd 1 o.dst && y9c P e
 |.box e x=>dstB kd 1 o.dst && valB kd x
 |.makeFunc fn first caps=>(match fn with|.func f=>cloT.contains (f,caps.size)|_=>false) && first.isEmpty && caps.all tmpB
 |.fieldAddr t x i=>dstB kd 1 o.dst && tmpB x && (match P.underlying t with|some (.struct fs)=>(match fs[i]? with|some f=>yhy P f.type|none=>true)|_=>true)
 |.index t x ix=>strT P t && valB kd x && valB kd ix
 |.range t x=>dstB kd 1 o.dst && strT P t && valB kd x
 |.next x s=>s && tmpB x && dstB kd 2 o.dst
 |.build t ps=>(match P.underlying t with|some (.array _ _)=>true|some (.struct _)=>true|_=>false) && y9c P t && ps.all fun p=>valB kd p.2
 |.buildSlice t _ ps=>(match y3k P t with|some e=>y9c P e|none=>false) && ps.all fun p=>valB kd p.2
 |.load _ a=>tmpB a
 |.store _ a x=>tmpB a && valB kd x
 |.binOp op xt x y _=>valB kd x && valB kd y && (y3i op || ((match op with|.eql|.neq=>true|_=>false) && eqB P xt && !P.eqGuardType P.depth xt))
 |.unOp u _ x=>(match u with|.not=>true|.neg=>true|_=>false) && valB kd x
 |.convert s d x=>intB P s && intB P d && valB kd x
 |.makeMap _ r=>r.isNone
 |.makeSlice t l c=>(match y3k P t with|some e=>y9c P e|none=>false) && valB kd l && valB kd c
 |.slice t x lo hi mx=>((y3k P t).isSome || strT P t) && valB kd x && lo.all (valB kd) && hi.all (valB kd) && mx.all (valB kd)
 |.indexAddr t x ix=>(y3k P t).isSome && valB kd x && valB kd ix && dstB kd 1 o.dst
 |.lookup t m k ok=>(match P.underlying t with|some (.map key e)=>keyB P key && y9c P e|_=>false) && valB kd m && valB kd k && (!ok || dstB kd 2 o.dst)
 |.mapUpdate t m k v=>(match P.underlying t with|some (.map key e)=>keyB P key|_=>false) && valB kd m && valB kd k && valB kd v
 |.extract x _=>tupB kd x
 |.makeInterface t x=>strC x && (match P.underlying t with|some (.interface _)=>false|some _=>true|none=>false)
 |.panic x=>valB kd x
 |.call c=>callB P S kd o.dst c
 |_=>false
structure TRel (K:Cfg) (kd:y17) (L:List Nat) (cs cs':Array Value):Prop where
 size:cs'.size=cs.size
 any:∀ (i:Nat) (v v':Value),cs[i]?=some v->cs'[i]?=some v'->RelT K L v v'
 val:∀ (i:Nat) (v v':Value),cs[i]?=some v->cs'[i]?=some v'->kd i=0->RelP K L v v'
 tup:∀ (i:Nat) (v v':Value),cs[i]?=some v->cs'[i]?=some v'->kd i≠1->RelV K L v v'
structure RelD (K:Cfg) (kd:y17) (dst:Option Tmp) (L:List Nat) (v v':Value):Prop where
 any:RelT K L v v'
 val:∀ d,dst=some d->kd d=0->RelP K L v v'
 tup:∀ d,dst=some d->kd d≠1->RelV K L v v'
def RelEs (K:Cfg) (L:List Nat) (n m:Nat) (az az':Array Value):Prop:=az'.size=az.size∧az.size≤n+m∧∀ (i:Nat) (v v':Value),az[i]?=some v->az'[i]?=some v'->RelT K L v v'∧(i<n->RelP K L v v')
def RelN (P:Program) (K:Cfg) (S:FuncId->Bool) (kd:y17) (dst:Option Tmp) (L:List Nat):Next->Next->Prop
 |.value v,.value v'=>RelD K kd dst L v v'
 |.skip,.skip=>True
 |.enter f az,.enter f' az'=>f'=f∧S f=true∧RelEs K L (parN P f) (freN P f) az az'∧dstB kd (if oneB P f then 0 else 2) dst=true∧((RelPs K L az az'∧szB P f az.size=true)∨∃ n,(f,n) ∈ cloT)
 |_,_=>False
section
variable {P:Program} {F:Array Func} {K:Cfg} {S:FuncId->Bool} {kd:y17} {L:List Nat} {ev ev':Operand->Value} {dst:Option Tmp}
theorem undef_rel:RelP K L undef undef:=.cell (.flat rfl)
theorem yau {v:Value} (h:y81 v=true):RelP K L v v:=by
 cases v with
 |agg cs=>exact .agg (y33 fun c hc=>by
   have h:cs.all y1m=true:=h;exact Array.all_eq_true_iff_forall_mem.1 h c hc)
 |_=>exact .cell (.flat h)
structure EvR (K:Cfg) (kd:y17) (L:List Nat) (ev ev':Operand->Value):Prop where
 val:∀ x,valB kd x=true->RelP K L (ev x) (ev' x)
 tup:∀ x,tupB kd x=true->RelV K L (ev x) (ev' x)
 any:∀ x,tmpB x=true->RelT K L (ev x) (ev' x)
 fn:∀ f,ev (.func f)=.func (.func f) #[] #[]∧ev' (.func f)=.func (.func f) #[] #[]
 con:∀ v,ev (.const v)=v∧ev' (.const v)=v
theorem RelD.part {v v':Value} (h:RelP K L v v'):RelD K kd dst L v v':=⟨.val (.part h),fun _ _ _=>h,fun _ _ _=>.part h⟩
theorem RelD.tuple {v v':Value} (h:RelV K L v v') (hd:dstB kd 2 dst=true):RelD K kd dst L v v':=by
 refine ⟨.val h,fun d e hk=>?_,fun _ _ _=>h⟩;subst e;simp only [dstB,Bool.or_eq_true,beq_iff_eq,hk] at hd;omega
theorem RelD.ptr {v v':Value} (h:RelT K L v v') (hd:dstB kd 1 dst=true):RelD K kd dst L v v':=by
 refine ⟨h,fun d e hk=>?_,fun d e hk=>?_⟩
 ·subst e
  simp only [dstB,Bool.or_eq_true,beq_iff_eq,hk] at hd;omega
 ·subst e
  simp only [dstB,Bool.or_eq_true,beq_iff_eq] at hd;omega
theorem y11 {s s':Sem Value} (h:RelS P F K (fun L=>RelP K L) L s s'):RelS P F K (RelN P K S kd dst) L (s.bind fun v=>.pure (.value v)) (s'.bind fun v=>.pure (.value v)) :=
 h.bind fun L' a a' hp ha=>.pure (RelD.part ha)
theorem y2z {s s':Sem Value} (hd:dstB kd 1 dst=true) (h:RelS P F K (fun L=>RelT K L) L s s'):RelS P F K (RelN P K S kd dst) L (s.bind fun v=>.pure (.value v)) (s'.bind fun v=>.pure (.value v)) :=
 h.bind fun L' a a' hp ha=>.pure (RelD.ptr ha hd)
theorem ycl {s s':Sem Unit} (h:RelS P F K (Same Unit) L s s'):RelS P F K (RelN P K S kd dst) L (s.bind fun _=>.pure .skip) (s'.bind fun _=>.pure .skip) :=
 h.bind fun L' a a' hp ha=>.pure trivial
theorem y4m {t:TypeId} (h:y9c P t=true):y7j P t:=by
 intro v hv;unfold y9c at h;rw [hv] at h;have h:y81 v=true:=h;cases v with
 |agg cs =>
  refine .inr ⟨cs,rfl,fun c hc=>?_⟩;have h:cs.all y1m=true:=h;exact Array.all_eq_true_iff_forall_mem.1 h c hc
 |_=>exact .inl h
theorem y2e {t e:TypeId} (h:y3k P t=some e):P.underlying t=some (.slice e):=by
 unfold y3k at h;split at h
 ·rename_i e' he
  rw [he];injection h with h
  rw [h]
 ·cases h
theorem yc0:∀ (d:Nat) {t:TypeId},ygp P d t=true->KeyT P t
 |0,t,h=>by cases h
 |d+1,t,h=>by
  unfold ygp at h;split at h
  ·exact .int (by assumption)
  ·exact .arr (by assumption) (yc0 d h)
  ·rename_i fs hu
   simp only [Bool.and_eq_true,Bool.not_eq_true'] at h;exact .struct hu h.1 fun f hf=>yc0 d (Array.all_eq_true_iff_forall_mem.1 h.2 f hf)
  ·cases h
theorem keyB_T {t:TypeId} (h:keyB P t=true):KeyT P t:=yc0 3 h
theorem yh1:∀ (d:Nat) {t:TypeId},eqFB P d t=true->EqT P t
 |0,t,h=>by cases h
 |d+1,t,h=>by
  unfold eqFB at h;split at h
  ·exact .bool (by assumption)
  ·exact .int (by assumption)
  ·exact .slice (by assumption)
  ·exact .str (by assumption)
  ·exact .arr (by assumption) (yh1 d h)
  ·rename_i fs hu
   simp only [Bool.and_eq_true,Bool.not_eq_true'] at h;exact .struct hu h.1 fun f hf=>yh1 d (Array.all_eq_true_iff_forall_mem.1 h.2 f hf)
  ·cases h
theorem eqB_T {t:TypeId} (h:eqB P t=true):EqT P t:=yh1 3 h
theorem y8e {t:TypeId} (h:strT P t=true):P.underlying t=some .string:=by
 unfold strT at h;split at h
 ·assumption
 ·cases h
theorem ygr {t:TypeId} (h:intB P t=true):∃ k,P.underlying t=some (.int k):=by
 unfold intB at h;split at h
 ·exact ⟨_,by assumption⟩
 ·cases h
end
end Go.Tr
namespace Go.Tr
section
variable {P:Program} {F:Array Func} {K:Cfg} {S:FuncId->Bool} {kd:y17} {L:List Nat} {ev ev':Operand->Value} {dst:Option Tmp}
theorem y8k {v v':Value} (h:RelT K L v v'):RelS P F K (fun L=>RelA K L) L (Instr.sureAddr v) (Instr.sureAddr v'):=by
 cases h with
 |ptr h1 h2 h3=>exact .pure ⟨_,h1,h2,h3⟩
 |flat h=>cases v<;>first|exact y06 _|(simp [y1m] at h;done)
 |junk h _=>cases v<;>first|exact y06 _|(cases h;done)
theorem yi4 (t:TypeId) {v v':Value} (h:RelT K L v v'):RelS P F K (fun L=>RelP K L) L (Instr.loadAt t v) (Instr.loadAt t v') :=
 (y8k h).bind fun L1 a a' _ ha=>y6k t ha
theorem yfp (t:TypeId) {v v' x x':Value} (h:RelT K L v v') (hx:RelV K L x x'):RelS P F K (Same Unit) L (Instr.storeAt t v x) (Instr.storeAt t v' x'):=by
 refine (y8k h).bind fun L1 a a' hp ha=>?_
 cases hx with
 |part hx=>exact ya0 t ha (hx.mono hp)
 |@tuple cs cs' hx =>
  refine .doomed fun w=>?_
  unfold storeVar;have hs:∀ w,(∃ n w',(sizeOf t).run P w=.ok n w')∨∃ h w',(sizeOf t).run P w=.halt h w'∧y0z h:=by
   intro w;unfold sizeOf typeInfo;simp only [Sem.run_bind,run_program,Result.andThen];cases P.info? t with
   |none=>exact .inr ⟨_,_,rfl,trivial⟩
   |some i=>exact .inl ⟨_,_,rfl⟩
  refine yc3 hs (fun n w=>?_) w;show ∃ h w',(if (Value.tuple cs).cells.size≠n then _ else _:Sem Unit).run P w=.halt h w'∧y0z h;split
  ·exact ⟨_,_,rfl,trivial⟩
  ·exact ⟨_,_,rfl,trivial⟩
theorem yfv {e:TypeId} (hz:y7j P e):RelS P F K (fun L=>RelT K L) L (Instr.alloc e true (.tuple #[])) (Instr.alloc e true (.tuple #[])):=by
 refine RelS.bind (y2w e) fun L1 z z' hp hzz=>?_
 rw [hzz.1];refine RelS.bind (y2f e (y33 (y21 hz hzz.2))) fun L2 a a' hp2 ha=>?_
 exact .pure ha.ptr
theorem rel_box (e:TypeId) {v v':Value} (hv:RelP K L v v'):RelS P F K (fun L=>RelT K L) L (Instr.box e v) (Instr.box e v'):=by
 unfold Instr.box newVar;exact (y2f e hv.cells).bind fun L2 a a' hp2 ha=>.pure ha.ptr
theorem ybh {t:TypeId} (h:yhy P t=true):RelS P F K (fun _ a a'=>a'=a∧a≠0) L (sizeOf t) (sizeOf t) :=
 (y2k t).bind fun L' a a' _ hi=>by
  rw [hi.1];refine .pure ⟨rfl,?_⟩;unfold yhy at h;rw [hi.2] at h;simpa using h
theorem ybn {t:TypeId} {fs:Array Field} (hu:P.underlying t=some (.struct fs)) (i:Nat) (hs:∀ f,fs[i]?=some f->yhy P f.type=true) {v v':Value} (h:RelT K L v v'):RelS P F K (fun L=>RelT K L) L (Instr.fieldAt t v i) (Instr.fieldAt t v' i):=by
 unfold Instr.fieldAt;refine y0l hu ?_;dsimp only;cases hf:fs[i]? with
 |none=>exact y06 _
 |some f =>
  dsimp only;refine RelS.bind (y8k h) fun L1 a a' hp ha=>?_
  unfold fieldPlace;refine RelS.bind (RA:=fun L=>RelA K L) ?_ fun L2 b b' hp2 hb=>.pure hb.ptr
  refine RelS.bind (ybh (hs f hf)) fun L2 n n' hp2 hn=>?_
  rw [hn.1,if_neg hn.2,if_neg hn.2];exact .pure ((ha.mono hp2).add _)
theorem ya2 {f:FuncId} {cs cs':Array Value} (hf:(f,cs.size) ∈ cloT) (hs:cs'.size=cs.size) (hc:∀ (i:Nat) (v v':Value),cs[i]?=some v->cs'[i]?=some v'->RelT K L v v'):RelS P F K (fun L=>RelP K L) L (Instr.makeFunc (.func f) #[] cs) (Instr.makeFunc (.func f) #[] cs') :=
 .pure (.cell (.func hf hs hc))
theorem yfs {t:TypeId} (hu:P.underlying t=some .string) {x x' i i':Value} (hx:RelV K L x x') (hi:RelV K L i i'):RelS P F K (fun L=>RelP K L) L (Instr.index t x i) (Instr.index t x' i'):=by
 unfold Instr.index;refine RelS.bind (y4r hi) fun L1 n n' hp1 hn=>?_
 rw [show n'=n from hn];obtain ⟨k,j⟩:=n;refine y0l hu ?_;cases hx with
 |tuple _=>exact y06 _
 |part h =>
  have sx:=h.shp;cases sx
  case str s =>
   dsimp only;cases (if 0≤j then s[j.toNat]? else none) with
   |none=>exact y4c _ _ _ _
   |some b=>exact .pure (.cell (.flat rfl))
  all_goals exact y06 _
theorem yfr {t:TypeId} (hu:P.underlying t=some .string) {x x':Value} (hx:RelV K L x x'):RelS P F K (fun L=>RelT K L) L (Instr.range t x) (Instr.range t x'):=by
 unfold Instr.range;refine y0l hu ?_;cases hx with
 |tuple _=>exact y06 _
 |part h =>
  have sx:=h.shp;cases sx
  case str s=>exact .new .iter fun b' hb'=>.pure (.ptr (s:=0) (.inl ⟨rfl,.inr ⟨L.length,rfl,by simp,hb'⟩⟩) rfl rfl)
  all_goals exact y06 _
theorem yi1 (ty:TypeId) {x x':Value} (hx:RelT K L x x'):RelS P F K (fun L=>RelV K L) L (Instr.next x true ty) (Instr.next x' true ty):=by
 have over:∀ L,RelS P F K (fun L=>RelV K L) L (Pure.pure (.tuple #[.bool false])) (Pure.pure (.tuple #[.bool false])):=fun L=>.pure (.tuple ⟨rfl,fun i v v' h1 h2=>by
  rw [h1] at h2;obtain rfl:=zSi h2;rcases i with _|i
  ·obtain rfl:_=v:=by simpa using h1
   exact .cell (.flat rfl)
  ·simp at h1⟩)
 cases hx with
 |flat h=>cases x<;>first|exact y06 _|(simp [y1m] at h;done)
 |junk h _=>cases x<;>first|exact y06 _|(cases h;done)
 |@ptr a a' s hb ho hs =>
  obtain ⟨r,o,sp⟩:=a;obtain ⟨r',o',sp'⟩:=a';simp only at hb ho hs;cases o with
  |succ o=>exact y06 _
  |zero =>
   rcases hb with ⟨rfl,hb0⟩|hodd
   ·obtain rfl:o'=0:=by omega
    refine .getIter (.inl ⟨rfl,hb0⟩) (fun es cl w=>⟨_,w,rfl,trivial⟩) fun st p=>?_
    show RelS P F K _ L (if p<st.size then _ else _) (if p<st.size then _ else _)
    by_cases hp:p<st.size
    ·rw [if_pos hp,if_pos hp]
     refine .setIter (.inl ⟨rfl,hb0⟩) (.pure (.tuple ⟨rfl,fun i v v' h1 h2=>?_⟩));rw [h1] at h2;obtain rfl:=zSi h2;rcases i with _|_|_|i
     ·obtain rfl:_=v:=by simpa using h1
      exact .cell (.flat rfl)
     ·obtain rfl:_=v:=by simpa using h1
      exact .cell (.flat rfl)
     ·obtain rfl:_=v:=by simpa using h1
      exact .cell (.flat rfl)
     ·simp at h1
    ·rw [if_neg hp,if_neg hp]
     exact over L
   ·exact .getOdd hodd
theorem ybq {s d:TypeId} {k k2:IntKind} (hs:P.underlying s=some (.int k)) (hd:P.underlying d=some (.int k2)) {x x':Value} (hx:RelV K L x x'):RelS P F K (fun L=>RelP K L) L (convert s d x) (convert s d x'):=by
 unfold convert;refine y0l hs ?_;refine y0l hd ?_;cases hx with
 |tuple _=>exact y2r _ (by simp)
 |part h =>
  have sx:=h.shp;cases sx
  case int a b=>exact .pure (.cell (.flat rfl))
  all_goals exact y2r _ (by simp)
theorem ybi (t:TypeId):RelS P F K (fun L=>RelP K L) L (Instr.makeMap t none) (Instr.makeMap t none):=by
 refine .new (.map ⟨rfl,fun i e e' h=>by simp at h⟩) fun b' hb'=>.pure (.cell (.map (.inl ⟨rfl,.inr ⟨L.length,rfl,by simp,hb'⟩⟩)))
theorem y8m {t e:TypeId} (hu:P.underlying t=some (.slice e)) (hz:y7j P e) {l l' c c':Value} (hl:RelV K L l l') (hc:RelV K L c c'):RelS P F K (fun L=>RelP K L) L (Instr.makeSlice t l c) (Instr.makeSlice t l' c'):=by
 unfold Instr.makeSlice;refine y0l hu ?_;refine RelS.bind (yab hl) fun L1 n n' hp1 hn=>?_
 rw [show n'=n from hn];refine RelS.bind (yab (hc.mono hp1)) fun L2 m m' hp2 hm=>?_
 rw [show m'=m from hm];refine RelS.bind (y2k e) fun L3 i i' hp3 hi=>?_
 rw [hi.1];dsimp only;have good:∀ (L3:List Nat),RelS P F K (fun L=>RelP K L) L3
   ((askRoom ((IntKind.i64.wrap m).toNat * i.bytes)).bind fun _=>(sizeOf e).bind fun q=>(if (IntKind.i64.wrap m).toNat * q=0 then ((newRow e ((Array.range ((IntKind.i64.wrap m).toNat * q)).map ((#[]:Array Value)[· % (#[]:Array Value).size]!))).bind fun a=>Pure.pure (.slice (some a) (IntKind.i64.wrap n).toNat (IntKind.i64.wrap m).toNat)) else ((zeroValue e).bind fun z=>(newRow e ((Array.range ((IntKind.i64.wrap m).toNat * q)).map (z.cells[· % z.cells.size]!))).bind fun a=>Pure.pure (.slice (some a) (IntKind.i64.wrap n).toNat (IntKind.i64.wrap m).toNat)):Sem Value))
   ((askRoom ((IntKind.i64.wrap m).toNat * i.bytes)).bind fun _=>(sizeOf e).bind fun q=>(if (IntKind.i64.wrap m).toNat * q=0 then ((newRow e ((Array.range ((IntKind.i64.wrap m).toNat * q)).map ((#[]:Array Value)[· % (#[]:Array Value).size]!))).bind fun a=>Pure.pure (.slice (some a) (IntKind.i64.wrap n).toNat (IntKind.i64.wrap m).toNat)) else ((zeroValue e).bind fun z=>(newRow e ((Array.range ((IntKind.i64.wrap m).toNat * q)).map (z.cells[· % z.cells.size]!))).bind fun a=>Pure.pure (.slice (some a) (IntKind.i64.wrap n).toNat (IntKind.i64.wrap m).toNat)):Sem Value)):=by
  intro L3;refine RelS.bind (y4q _) fun L4 _ _ hp4 _=>?_
  refine RelS.bind (y1q e) fun L5 q q' hp5 hq=>?_
  rw [show q'=q from hq];split
  ·refine RelS.bind (y2f e (y4v (by simp) _)) fun L6 a a' hp6 ha=>?_
   exact .pure (.cell (ha.slice _ _))
  ·refine RelS.bind (y2w e) fun L6 z z' hp6 hzz=>?_
   rw [hzz.1];refine RelS.bind (y2f e (y4v (y21 hz hzz.2) _)) fun L7 a a' hp7 ha=>?_
   exact .pure (.cell (ha.slice _ _))
 by_cases hbad:((decide (IntKind.i64.wrap m<0) || decide ((i.bytes:Int) * IntKind.i64.wrap m > 2 ^ 48)) || decide (IntKind.i64.wrap n<0) || decide (IntKind.i64.wrap n > IntKind.i64.wrap m))=true
 ·rw [if_pos hbad]
  refine .doomed fun w=>?_
  split
  ·exact ⟨_,_,rfl,trivial⟩
  ·split
   ·exact ⟨_,_,rfl,trivial⟩
   ·have hq:(Question.extern "makeslice.lenOrCap" 2).forced=false:=rfl
    simp only [Sem.run_bind,run_choose,hq,Bool.false_eq_true,if_false,Result.andThen_ok];exact ⟨_,_,rfl,trivial⟩
 ·rw [if_neg hbad]
  exact good L3
theorem y3e {x x':Value} (h:RelV K L x x') (y:Nat) (c:BoundsCode):RelS P F K (Same Nat) L (Instr.sliceBound x y c) (Instr.sliceBound x' y c):=by
 unfold Instr.sliceBound;refine RelS.bind (y4r h) fun L1 n n' hp1 hn=>?_
 rw [show n'=n from hn];obtain ⟨k,i⟩:=n;show RelS P F K _ L1 (if 0≤i∧i≤y then Pure.pure i.toNat else boundsPanic k i y c) (if 0≤i∧i≤y then Pure.pure i.toNat else boundsPanic k i y c);split
 ·exact .pure rfl
 ·exact y4c _ _ _ _
def y78 (K:Cfg) (L:List Nat):Option Value->Option Value->Prop
 |none,none=>True
 |some v,some v'=>RelV K L v v'
 |_,_=>False
theorem y4p (b:Bool) (len cap:Nat) {lo lo' hi hi' mx mx':Option Value} (h1:y78 K L lo lo') (h2:y78 K L hi hi') (h3:y78 K L mx mx'):RelS P F K (Same (Nat × Nat × Nat)) L (Instr.sliceBounds b len cap lo hi mx) (Instr.sliceBounds b len cap lo' hi' mx'):=by
 unfold Instr.sliceBounds;cases mx<;>cases mx'<;>first|exact h3.elim|skip
 ·refine RelS.bind (RA:=Same Nat) (.pure rfl) fun L1 m m' hp1 hm=>?_
  rw [show m'=m from hm];cases hi<;>cases hi'<;>first|exact h2.elim|skip
  ·refine RelS.bind (RA:=Same Nat) (.pure rfl) fun L2 n n' hp2 hn=>?_
   rw [show n'=n from hn];cases lo<;>cases lo'<;>first|exact h1.elim|skip
   ·exact RelS.bind (RA:=Same Nat) (.pure rfl) fun L3 q q' _ hq=>by rw [show q'=q from hq];exact .pure rfl
   ·exact RelS.bind (RA:=Same Nat) (y3e (RelV.mono h1 (hp1.trans hp2)) _ _) fun L3 q q' _ hq=>by rw [show q'=q from hq];exact .pure rfl
  ·refine RelS.bind (RA:=Same Nat) (y3e (RelV.mono h2 hp1) _ _) fun L2 n n' hp2 hn=>?_
   rw [show n'=n from hn];cases lo<;>cases lo'<;>first|exact h1.elim|skip
   ·exact RelS.bind (RA:=Same Nat) (.pure rfl) fun L3 q q' _ hq=>by rw [show q'=q from hq];exact .pure rfl
   ·exact RelS.bind (RA:=Same Nat) (y3e (RelV.mono h1 (hp1.trans hp2)) _ _) fun L3 q q' _ hq=>by rw [show q'=q from hq];exact .pure rfl
 ·refine RelS.bind (RA:=Same Nat) (y3e h3 _ _) fun L1 m m' hp1 hm=>?_
  rw [show m'=m from hm];cases hi<;>cases hi'<;>first|exact h2.elim|skip
  ·exact y06 _
  ·refine RelS.bind (RA:=Same Nat) (y3e (RelV.mono h2 hp1) _ _) fun L2 n n' hp2 hn=>?_
   rw [show n'=n from hn];cases lo<;>cases lo'<;>first|exact h1.elim|skip
   ·exact RelS.bind (RA:=Same Nat) (.pure rfl) fun L3 q q' _ hq=>by rw [show q'=q from hq];exact .pure rfl
   ·exact RelS.bind (RA:=Same Nat) (y3e (RelV.mono h1 (hp1.trans hp2)) _ _) fun L3 q q' _ hq=>by rw [show q'=q from hq];exact .pure rfl
theorem yfq {t e:TypeId} (hu:P.underlying t=some (.slice e)) {x x':Value} {lo lo' hi hi' mx mx':Option Value} (hx:RelV K L x x') (h1:y78 K L lo lo') (h2:y78 K L hi hi') (h3:y78 K L mx mx') :
  RelS P F K (fun L=>RelP K L) L (Instr.sliceAt t x lo hi mx) (Instr.sliceAt t x' lo' hi' mx'):=by
 unfold Instr.sliceAt Instr.slice;refine y0l hu ?_;refine y0l hu ?_;cases hx with
 |tuple _=>exact y06 _
 |part h =>
  have sx:=h.shp;cases sx
  case slN n c =>
   refine RelS.bind (y4p true n c h1 h2 h3) fun L1 q q' hp1 hq=>?_
   rw [show q'=q from hq];obtain ⟨l,hh,m⟩:=q;refine RelS.bind (y1q e) fun L2 z z' hp2 hz=>?_
   rw [show z'=z from hz];refine .pure (.cell ?_)
   by_cases hml:m=l
   ·simp only [hml,if_true];exact .flat rfl
   ·simp only [hml,if_false];exact .flat rfl
  case sl a a' n c ha =>
   refine RelS.bind (y4p true n c h1 h2 h3) fun L1 q q' hp1 hq=>?_
   rw [show q'=q from hq];obtain ⟨l,hh,m⟩:=q;refine RelS.bind (y1q e) fun L2 z z' hp2 hz=>?_
   rw [show z'=z from hz];have ha2:=ha.mono (hp1.trans hp2);refine .pure (.cell ?_)
   by_cases hml:m=l
   ·simp only [hml,if_true];exact ha2.slice _ _
   ·simp only [hml,if_false]
    have hb:=ha2.add (l * z);exact hb.slice _ _
  all_goals exact y06 _
theorem ydy {t:TypeId} (hu:P.underlying t=some .string) {x x':Value} {lo lo' hi hi' mx mx':Option Value} (hx:RelV K L x x') (h1:y78 K L lo lo') (h2:y78 K L hi hi') (h3:y78 K L mx mx') :
  RelS P F K (fun L=>RelP K L) L (Instr.sliceAt t x lo hi mx) (Instr.sliceAt t x' lo' hi' mx'):=by
 unfold Instr.sliceAt Instr.slice;refine y0l hu ?_;refine y0l hu ?_;cases hx with
 |tuple _=>exact y06 _
 |part h =>
  have sx:=h.shp;cases sx
  case str s =>
   dsimp only;cases mx<;>cases mx'<;>first|exact h3.elim|skip
   ·simp only [Option.isSome_none,Bool.false_eq_true,if_false]
    refine RelS.bind (y4p false s.size s.size h1 h2 (show y78 K L none none from trivial)) fun L1 q q' hp1 hq=>?_
    rw [show q'=q from hq];obtain ⟨l,hh,m⟩:=q;exact .pure (.cell (.flat rfl))
   ·simp only [Option.isSome_some,if_true]
    exact y06 _
  all_goals exact y06 _
theorem ybl {t e:TypeId} (hu:P.underlying t=some (.slice e)) {x x' i i':Value} (hx:RelV K L x x') (hi:RelV K L i i'):RelS P F K (fun L=>RelT K L) L (Instr.indexAt t x i) (Instr.indexAt t x' i'):=by
 unfold Instr.indexAt;refine RelS.bind (y4r hi) fun L1 n n' hp1 hn=>?_
 rw [show n'=n from hn];obtain ⟨k,j⟩:=n;refine y0l hu ?_;cases hx with
 |tuple _=>exact y06 _
 |part h =>
  have sx:=h.shp;cases sx
  case slN n c =>
   refine y0l hu ?_;exact y4c _ _ _ _
  case sl a a' n c ha =>
   refine y0l hu ?_;have ha1:=ha.mono hp1;simp only [Bool.and_false,Bool.false_eq_true,if_false]
   by_cases hj:0≤j∧j<(n:Int)
   ·rw [if_pos hj,if_pos hj]
    refine RelS.bind (y1q e) fun L2 z z' hp2 hz=>?_
    rw [show z'=z from hz];have hb:=(ha1.mono hp2).add (j.toNat * z);exact .pure hb.ptr
   ·rw [if_neg hj,if_neg hj]
    exact y4c _ _ _ _
  all_goals exact y06 _
theorem ybo {x x':Value} (hx:RelV K L x x') (i:Nat):RelS P F K (fun L=>RelP K L) L (Instr.extract x i) (Instr.extract x' i):=by
 cases hx with
 |part h =>
  have sx:=h.shp;cases sx<;>exact y06 _
 |@tuple cs cs' h =>
  show RelS P F K _ L (match cs[i]? with|some v=>Pure.pure v|none=>stuck "Extract: no such component") (match cs'[i]? with|some v=>Pure.pure v|none=>stuck "Extract: no such component");cases hc:cs[i]? with
  |none=>exact y06 _
  |some v =>
   have hl:i<cs'.size:=by rw [h.1];exact (zGe hc).1
   rw [Array.getElem?_eq_getElem hl];exact .pure (h.2 i v _ hc (Array.getElem?_eq_getElem hl))
theorem rel_len {t:TypeId} (hu:(∃ e,P.underlying t=some (.slice e))∨(∃ k e,P.underlying t=some (.map k e))∨P.underlying t=some .string) (ty:TypeId) {x x':Value} (hx:RelV K L x x'):RelS P F K (fun L=>RelP K L) L (Builtin.len_ #[t] ty #[x]) (Builtin.len_ #[t] ty #[x']):=by
 unfold Builtin.len_;rcases hu with ⟨e,hu⟩|⟨k,e,hu⟩|hu
 ·refine y0l hu ?_
  cases hx with
  |tuple _=>exact y06 _
  |part h =>
   have sx:=h.shp;cases sx
   case slN n c=>exact .pure (.cell (.flat rfl))
   case sl a a' n c ha=>exact .pure (.cell (.flat rfl))
   all_goals exact y06 _
 ·refine y0l hu ?_
  cases hx with
  |tuple _=>exact y06 _
  |part h =>
   have sx:=h.shp;cases sx
   case mpN=>exact .pure (.cell (.flat rfl))
   case mp r r' hr =>
    refine .getMap hr (fun st p w=>⟨_,w,rfl,trivial⟩) fun es es' cl he=>?_
    refine .pure (.cell ?_);rw [he.size];exact .flat rfl
   all_goals exact y06 _
 ·refine y0l hu ?_
  cases hx with
  |tuple _=>exact y06 _
  |part h =>
   have sx:=h.shp;cases sx
   case str st=>exact .pure (.cell (.flat rfl))
   all_goals exact y06 _
theorem rel_neg {x x':Value} (hx:RelV K L x x'):RelS P F K (fun L=>RelP K L) L (Op.unary .neg x) (Op.unary .neg x'):=by
 cases hx with
 |tuple _=>exact y06 _
 |part h =>
  have sx:=h.shp;cases sx
  case int k n=>exact .pure (.cell (.flat rfl))
  all_goals exact y06 _
theorem yi3 {x x' y y':Value} (hx:RelV K L x x') (hy:RelV K L y y'):RelS P F K (fun L=>RelP K L) L (Builtin.max2 x y) (Builtin.max2 x' y'):=by
 cases hx with
 |tuple _ =>
  cases hy with
  |tuple _=>exact y06 _
  |part hy =>
   have sy:=hy.shp;cases sy<;>exact y06 _
 |part h =>
  have sx:=h.shp;cases hy with
  |tuple _=>cases sx<;>exact y06 _
  |part hy =>
   have sy:=hy.shp;cases sx<;>cases sy<;>first|exact y06 _|exact .pure (.cell (.flat rfl))
theorem yi2 {x x' y y':Value} (hx:RelV K L x x') (hy:RelV K L y y'):RelS P F K (fun L=>RelP K L) L (Builtin.min2 x y) (Builtin.min2 x' y'):=by
 cases hx with
 |tuple _ =>
  cases hy with
  |tuple _=>exact y06 _
  |part hy =>
   have sy:=hy.shp;cases sy<;>exact y06 _
 |part h =>
  have sx:=h.shp;cases hy with
  |tuple _=>cases sx<;>exact y06 _
  |part hy =>
   have sy:=hy.shp;cases sx<;>cases sy<;>first|exact y06 _|exact .pure (.cell (.flat rfl))
theorem rel_not {x x':Value} (hx:RelV K L x x'):RelS P F K (fun L=>RelP K L) L (Op.unary .not x) (Op.unary .not x'):=by
 cases hx with
 |tuple _=>exact y06 _
 |part h =>
  have sx:=h.shp;cases sx
  case bool b=>exact .pure (.cell (.flat rfl))
  all_goals exact y06 _
end
end Go.Tr
namespace Go.Tr
section
variable {P:Program} {F:Array Func} {K:Cfg} {S:FuncId->Bool} {kd:y17} {L:List Nat} {ev ev':Operand->Value} {dst:Option Tmp}
theorem y8p (op:BinOp) (k:IntKind) (a b:Int):RelS P F K (fun L=>RelP K L) L (Op.intArith op k a b) (Op.intArith op k a b):=by
 unfold Op.intArith;split<;>first|exact .pure (.cell (.flat rfl))|exact y06 _
theorem ybk (op:BinOp) (a b:Int):RelS P F K (fun L=>RelP K L) L (Op.intCmp op a b) (Op.intCmp op a b):=by
 unfold Op.intCmp;split<;>first|exact .pure (.cell (.flat rfl))|exact y06 _
theorem ya6 (op:BinOp) (k:IntKind) (a b:Int):RelS P F K (fun L=>RelP K L) L (Op.intBits op k a b) (Op.intBits op k a b):=by
 unfold Op.intBits;split<;>first|exact .pure (.cell (.flat rfl))|exact y06 _
theorem ya1 (op:BinOp) (k k':IntKind) (a b:Int):RelS P F K (fun L=>RelP K L) L (Op.shift op k a k' b) (Op.shift op k a k' b):=by
 unfold Op.shift;split
 ·exact y5f _ (.inr (.inl ⟨_,rfl⟩))
 ·dsimp only
  split<;>first|exact .pure (.cell (.flat rfl))|exact y06 _
theorem y13 (op:BinOp) (a b:ByteArray):RelS P F K (fun L=>RelP K L) L (Op.stringOp op a b) (Op.stringOp op a b):=by
 unfold Op.stringOp;dsimp only;split<;>first|exact .pure (.cell (.flat rfl))|exact y06 _|skip
 split
 ·exact y2r _ (by simp)
 ·exact .pure (.cell (.flat rfl))
theorem ybj (op:BinOp) (k:IntKind) (a b:Int):RelS P F K (fun L=>RelP K L) L (Op.intDiv op k a b) (Op.intDiv op k a b):=by
 unfold Op.intDiv;split
 ·exact y5f _ (.inr (.inl ⟨_,rfl⟩))
 ·split<;>first|exact .pure (.cell (.flat rfl))|exact y06 _
theorem y8o (op:BinOp) (h:y3i op=true∨op=.eql∨op=.neq) (xt:TypeId) (k k':IntKind) (a b:Int):RelS P F K (fun L=>RelP K L) L (binOp op xt (.int k a) (.int k' b)) (binOp op xt (.int k a) (.int k' b)):=by
 have key:∀ s:Sem Value,RelS P F K (fun L=>RelP K L) L s s->RelS P F K (fun L=>RelP K L) L (if k≠k' then stuck "BinOp: operands of different kinds" else s) (if k≠k' then stuck "BinOp: operands of different kinds" else s):=by
  intro s hs;split
  ·exact y06 _
  ·exact hs
 cases op<;>simp [y3i] at h<;>first
  |exact key _ (y8p _ k a b)
  |exact key _ (ybj _ k a b)
  |exact ya1 .shl k k' a b
  |exact ya1 .shr k k' a b
  |exact key _ (ya6 _ k a b)
  |exact key _ (ybk _ a b)
theorem yfu (op:BinOp) (h:y3i op=true) (xt:TypeId) {x x' y y':Value} (hx:RelV K L x x') (hy:RelV K L y y'):RelS P F K (fun L=>RelP K L) L (binOp op xt x y) (binOp op xt x' y'):=by
 cases hx with
 |tuple hx =>
  cases hy with
  |tuple hy=>cases op<;>simp [y3i] at h<;>exact y06 _
  |part hy=>have sy:=hy.shp;cases sy<;>cases op<;>simp [y3i] at h<;>exact y06 _
 |part hx =>
  have sx:=hx.shp;cases hy with
  |tuple hy=>cases sx<;>cases op<;>simp [y3i] at h<;>exact y06 _
  |part hy =>
   have sy:=hy.shp;cases sx
   case int k a =>
    cases sy
    case int k' b=>exact y8o op (.inl h) xt k k' a b
    all_goals (cases op<;>simp [y3i] at h<;>exact y06 _)
   case str s =>
    cases sy
    case str s2=>cases op<;>simp [y3i] at h<;>first|exact y13 .add s s2|exact y13 .sub s s2|exact y13 .mul s s2|exact y13 .quo s s2|exact y13 .rem s s2|exact y13 .lss s s2|exact y13 .leq s s2|exact y13 .gtr s s2|exact y13 .geq s s2|exact y13 .and s s2|exact y13 .or s s2|exact y13 .xor s s2|exact y13 .andNot s s2|exact y13 .shl s s2|exact y13 .shr s s2
    all_goals (cases op<;>simp [y3i] at h<;>exact y06 _)
   all_goals (cases sy<;>cases op<;>simp [y3i] at h<;>exact y06 _)
theorem y7r {t:TypeId} (h:EqT P t) {x x' y y':Value} (hx:RelV K L x x') (hy:RelV K L y y'):RelS P F K (Same Bool) L (Op.equal t x y) (Op.equal t x' y'):=by
 cases hx with
 |part hx =>
  cases hy with
  |part hy=>exact ya8 h hx hy
  |tuple hy =>
   have sx:=hx.shp;unfold Op.equal;show RelS P F K _ L (Op.equalIn (9999+1) _ _ _) (Op.equalIn (9999+1) _ _ _);rw [Op.equalIn.eq_2,Op.equalIn.eq_2];cases h with
   |bool hu=>exact y0l hu (by cases sx<;>exact y06 _)
   |int hu=>exact y0l hu (by cases sx<;>exact y06 _)
   |slice hu=>exact y0l hu (by cases sx<;>exact y06 _)
   |str hu=>exact y0l hu (by cases sx<;>exact y06 _)
   |struct hu _ _=>exact y0l hu (by cases sx<;>exact y06 _)
   |arr hu _=>exact y0l hu (by cases sx<;>exact y06 _)
 |tuple hx =>
  unfold Op.equal;show RelS P F K _ L (Op.equalIn (9999+1) _ _ _) (Op.equalIn (9999+1) _ _ _);rw [Op.equalIn.eq_2,Op.equalIn.eq_2];have hy':∀ {d:TypeDesc} {t:TypeId},True:=trivial;cases hy with
  |tuple hy =>
   cases h with
   |bool hu=>exact y0l hu (y06 _)
   |int hu=>exact y0l hu (y06 _)
   |slice hu=>exact y0l hu (y06 _)
   |str hu=>exact y0l hu (y06 _)
   |struct hu _ _=>exact y0l hu (y06 _)
   |arr hu _=>exact y0l hu (y06 _)
  |part hy =>
   have sy:=hy.shp;cases h with
   |bool hu=>exact y0l hu (by cases sy<;>exact y06 _)
   |int hu=>exact y0l hu (by cases sy<;>exact y06 _)
   |slice hu=>exact y0l hu (by cases sy<;>exact y06 _)
   |str hu=>exact y0l hu (by cases sy<;>exact y06 _)
   |struct hu _ _=>exact y0l hu (by cases sy<;>exact y06 _)
   |arr hu _=>exact y0l hu (by cases sy<;>exact y06 _)
theorem yi5 (op:BinOp) (h:op=.eql∨op=.neq) {xt:TypeId} (ht:EqT P xt) {x x' y y':Value} (hx:RelV K L x x') (hy:RelV K L y y'):RelS P F K (fun L=>RelP K L) L (binOp op xt x y) (binOp op xt x' y'):=by
 have eqv:RelS P F K (fun L=>RelP K L) L ((Op.equal xt x y).bind fun b=>Pure.pure (.bool b)) ((Op.equal xt x' y').bind fun b=>Pure.pure (.bool b)) :=
  (y7r ht hx hy).bind fun L1 b b' _ hb=>by rw [show b'=b from hb];exact .pure (.cell (.flat rfl))
 have nev:RelS P F K (fun L=>RelP K L) L ((Op.equal xt x y).bind fun b=>Pure.pure (.bool (!b))) ((Op.equal xt x' y').bind fun b=>Pure.pure (.bool (!b))) :=
  (y7r ht hx hy).bind fun L1 b b' _ hb=>by rw [show b'=b from hb];exact .pure (.cell (.flat rfl))
 rcases h with rfl|rfl
 ·cases hx with
  |tuple hx =>
   cases hy with
   |tuple hy=>exact eqv
   |part hy=>have sy:=hy.shp;cases sy<;>exact eqv
  |part hx =>
   have sx:=hx.shp;cases hy with
   |tuple hy=>cases sx<;>exact eqv
   |part hy =>
    have sy:=hy.shp;cases sx
    case int k a =>
     cases sy
     case int k' b=>exact y8o .eql (.inr (.inl rfl)) xt k k' a b
     all_goals exact eqv
    case str s =>
     cases sy
     case str s2=>exact y13 .eql s s2
     all_goals exact eqv
    all_goals (cases sy<;>exact eqv)
 ·cases hx with
  |tuple hx =>
   cases hy with
   |tuple hy=>exact nev
   |part hy=>have sy:=hy.shp;cases sy<;>exact nev
  |part hx =>
   have sx:=hx.shp;cases hy with
   |tuple hy=>cases sx<;>exact nev
   |part hy =>
    have sy:=hy.shp;cases sx
    case int k a =>
     cases sy
     case int k' b=>exact y8o .neq (.inr (.inr rfl)) xt k k' a b
     all_goals exact nev
    case str s =>
     cases sy
     case str s2=>exact y13 .neq s s2
     all_goals exact nev
    all_goals (cases sy<;>exact nev)
theorem y6l (op:BinOp) (h:y3i op=true) (xt:TypeId) (a b:Operand) (x x' y y':Value):RelS P F K (Same Unit) L (eqGuard op xt a b x y) (eqGuard op xt a b x' y'):=by
 cases op<;>simp [y3i] at h<;>exact .pure rfl
theorem y8a (P:Program) (F:Array Func):∀ (d:Nat) (t:TypeId),(wf P F).eqGuardType d t=P.eqGuardType d t
 |0,_=>rfl
 |d+1,t=>by
  unfold Program.eqGuardType;have hu:(wf P F).underlying t=P.underlying t:=rfl;have ih:(wf P F).eqGuardType d=P.eqGuardType d:=funext (y8a P F d);rw [hu,ih]
theorem ya7 (op:BinOp) (h:op=.eql∨op=.neq) {xt:TypeId} (hg:P.eqGuardType P.depth xt=false) (a b:Operand) {x x' y y':Value} (hx:RelV K L x x') (hy:RelV K L y y'):RelS P F K (Same Unit) L (eqGuard op xt a b x y) (eqGuard op xt a b x' y'):=by
 have aggs:∀ cs ds cs' ds',RelS P F K (Same Unit) L (eqGuard op xt a b (.agg cs) (.agg ds)) (eqGuard op xt a b (.agg cs') (.agg ds')):=by
  intro cs ds cs' ds';rcases h with rfl|rfl
  ·refine .program (.program ?_)
   show RelS P F K _ L (if (!P.eqGuardType P.depth xt)=true then Pure.pure () else _) (if (!(wf P F).eqGuardType P.depth xt)=true then Pure.pure () else _);rw [if_pos (by rw [hg];rfl),if_pos (by rw [y8a,hg];rfl)];exact .pure rfl
  ·refine .program (.program ?_)
   show RelS P F K _ L (if (!P.eqGuardType P.depth xt)=true then Pure.pure () else _) (if (!(wf P F).eqGuardType P.depth xt)=true then Pure.pure () else _);rw [if_pos (by rw [hg];rfl),if_pos (by rw [y8a,hg];rfl)];exact .pure rfl
 cases hx with
 |tuple hx=>cases hy with
  |tuple hy=>rcases h with rfl|rfl<;>exact .pure rfl
  |part hy=>have sy:=hy.shp;cases sy<;>rcases h with rfl|rfl<;>exact .pure rfl
 |part hx =>
  have sx:=hx.shp;cases hy with
  |tuple hy=>cases sx<;>rcases h with rfl|rfl<;>exact .pure rfl
  |part hy =>
   have sy:=hy.shp;cases sx
   case agg cs cs' hc =>
    cases sy
    case agg ds ds' hd=>exact aggs _ _ _ _
    all_goals (rcases h with rfl|rfl<;>exact .pure rfl)
   all_goals (cases sy<;>rcases h with rfl|rfl<;>exact .pure rfl)
end
end Go.Tr
namespace Go.Tr
section
variable {P:Program} {F:Array Func} {K:Cfg} {S:FuncId->Bool} {kd:y17} {L:List Nat} {ev ev':Operand->Value} {dst:Option Tmp}
theorem y6r (he:EvR K kd L ev ev') {ps:Array (Nat × Operand)} (h:(ps.all fun p=>valB kd p.2)=true):RelQ K L (ps.map fun (i,x)=>(i,ev x)).toList (ps.map fun (i,x)=>(i,ev' x)).toList:=by
 refine ⟨by simp,fun i p p' h1 h2=>?_⟩;simp only [Array.toList_map,List.getElem?_map] at h1 h2;obtain ⟨q,hq,rfl⟩:=Option.map_eq_some_iff.1 h1;obtain ⟨q',hq',rfl⟩:=Option.map_eq_some_iff.1 h2;obtain rfl:q=q':=zSi (hq.symm.trans hq');exact ⟨rfl,he.val _ (Array.all_eq_true_iff_forall_mem.1 h q (Array.mem_of_getElem? (by simpa using hq)))⟩
theorem ydb (he:EvR K kd L ev ev') {xs:Array Operand} (h:xs.all (valB kd)=true):RelPs K L (xs.map ev) (xs.map ev'):=by
 refine ⟨by simp,fun i v v' h1 h2=>?_⟩;rw [Array.getElem?_map] at h1 h2;obtain ⟨q,hq,rfl⟩:=Option.map_eq_some_iff.1 h1;obtain ⟨q',hq',rfl⟩:=Option.map_eq_some_iff.1 h2;obtain rfl:q=q':=zSi (hq.symm.trans hq');exact he.val _ (Array.all_eq_true_iff_forall_mem.1 h q (Array.mem_of_getElem? hq))
theorem y4e (he:EvR K kd L ev ev') {o:Option Operand} (h:o.all (valB kd)=true):y78 K L (o.map ev) (o.map ev'):=by
 cases o with
 |none=>exact trivial
 |some x=>exact .part (he.val x h)
theorem ycw (he:EvR K kd L ev ev') {x:Operand} (h:yif kd dst x=true) (hk:∀ t,kd t≤2):RelD K kd dst L (ev x) (ev' x):=by
 cases x with
 |const v=>exact .part (he.val (.const v) h)
 |tmp t =>
  simp only [yif,Bool.or_eq_true,beq_iff_eq] at h
  by_cases h0:kd t=0
  ·exact .part (he.val (.tmp t) (by simp [valB,h0]))
  ·have h:=h.resolve_left h0
   by_cases h1:kd t=1
   ·rw [h1] at h
    exact .ptr (he.any (.tmp t) rfl) h
   ·have h2:kd t=2:=by have:=hk t;omega
    rw [h2] at h;exact .tuple (he.tup (.tmp t) (by simp [tupB,h2])) h
 |global g=>cases h
 |func f=>exact .part (he.val (.func f) h)
theorem y8n {t:TypeId} (h:(match P.underlying t with|some (.interface _)=>false|some _=>true|none=>false)=true) (s:ByteArray):RelS P F K (fun L=>RelP K L) L (Instr.makeInterface t (.string s)) (Instr.makeInterface t (.string s)):=by
 unfold Instr.makeInterface;refine RelS.bind (y51 t) fun L1 a a' hp ha=>?_
 rw [ha.1];rw [ha.2] at h;cases a<;>first|(cases h;done)|exact .pure (.cell (.flat rfl))
theorem ydz {v v':Value} (h:RelP K L v v'):RelS P F K (fun L=>RelP K L) L (Instr.panic v) (Instr.panic v'):=by
 have hx:=h.shp;cases hx
 case ifc t s=>exact ybm _
 all_goals exact y06 _
def Has (P:Program) (F:Array Func) (f:FuncId):Prop :=
 ∃ fn fn',(P.funcs[f]?=some fn∧(fn.name == "runtime.NumGoroutine")=false∧fn.body.isNone=false)∧F[f]?=some fn'∧(fn'.name == "runtime.NumGoroutine")=false∧fn'.body.isNone=false
theorem yaa {f:FuncId} {fn fn':Func} (hf:P.funcs[f]?=some fn) (hn:(fn.name == "runtime.NumGoroutine")=false) (hb:fn.body.isNone=false)
  (hf':F[f]?=some fn') (hn':(fn'.name == "runtime.NumGoroutine")=false) (hb':fn'.body.isNone=false) (hS:S f=true) (hd:dstB kd (if oneB P f then 0 else 2) dst=true) {az az':Array Value} (ha:RelEs K L (parN P f) (freN P f) az az') (hz:(RelPs K L az az'∧szB P f az.size=true)∨∃ n,(f,n) ∈ cloT) :
  RelS P F K (RelN P K S kd dst) L (callFunc f az) (callFunc f az'):=by
 have e:∀ xs:Array Value,callFunc f xs=.program fun p=>(match p.funcs[f]? with
  |none=>stuck "call: no such function"
  |some fn =>
   if fn.name == "runtime.NumGoroutine" then Pure.pure .numGoroutine
   else if fn.body.isNone then (do
    mark (.extern f)
    if let some e:=Extern.findNext fn then return ← e xs
    match Extern.find fn with
    |some e=>Pure.pure (.value (← e xs))
    |none =>
     if fn.name.endsWith ".init" && !fn.name.startsWith "(" && !fn.name.startsWith "gosem." then Pure.pure (.value (.tuple #[]))
     else unsupported (.extern fn.name))
   else Pure.pure (.enter f xs):Sem Next):=fun xs=>rfl
 rw [e,e];refine .program ?_;have hq:(wf P F).funcs[f]?=some fn':=hf';rw [hf,hq];simp only [hn,hb,hn',hb',Bool.false_eq_true,if_false];exact .pure ⟨rfl,hS,ha,hd,hz⟩
theorem yi6 {f:FuncId} {az az':Array Value} (hz:szB P f az.size=true) (ha:RelPs K L az az'):RelEs K L (parN P f) (freN P f) az az':=by
 have h:az.size=parN P f:=by
  unfold szB at hz;unfold parN;cases hf:P.funcs[f]? with
  |none=>rw [hf] at hz;cases hz
  |some fn=>rw [hf] at hz;exact (by simpa using hz:fn.params.size=az.size).symm
 exact ⟨ha.1,by omega,fun i v v' h1 h2=>⟨(ha.2 i v v' h1 h2).t,fun _=>ha.2 i v v' h1 h2⟩⟩
theorem yfx {f:FuncId} {az az' cs cs':Array Value} (hz:szB P f az.size=true) (hn:nfB P f cs.size=true) (ha:RelPs K L az az') (hs:cs'.size=cs.size) (hc:∀ (i:Nat) (v v':Value),cs[i]?=some v->cs'[i]?=some v'->RelT K L v v'):RelEs K L (parN P f) (freN P f) (az ++ cs) (az' ++ cs'):=by
 have h:az.size=parN P f:=by
  unfold szB at hz;unfold parN;cases hf:P.funcs[f]? with
  |none=>rw [hf] at hz;cases hz
  |some fn=>rw [hf] at hz;exact (by simpa using hz:fn.params.size=az.size).symm
 have h':cs.size=freN P f:=by
  unfold nfB at hn;unfold freN;cases hf:P.funcs[f]? with
  |none=>rw [hf] at hn;cases hn
  |some fn=>rw [hf] at hn;exact (by simpa using hn:fn.nfree=cs.size).symm
 refine ⟨by simp [ha.1,hs],by simp;omega,fun i v v' h1 h2=>?_⟩;rw [Array.getElem?_append] at h1 h2;rw [ha.1] at h2;split at h1
 ·rename_i hi
  rw [if_pos hi] at h2;exact ⟨(ha.2 i v v' h1 h2).t,fun _=>ha.2 i v v' h1 h2⟩
 ·rename_i hi
  rw [if_neg hi] at h2;exact ⟨hc _ v v' h1 h2,fun hlt=>by omega⟩
theorem ycz {f n:Nat} (h:cloT.contains (f,n)=true):(f,n) ∈ cloT:=by simpa using h
theorem yiy {c:Call} {type:TypeId} (h:callB P S kd dst c=true) (hS:∀ f,S f=true->Has P F f) (he:EvR K kd L ev ev') :
  RelS P F K (RelN P K S kd dst) L ((resolve ev c type).bind fun d=>invoke d.target d.args) ((resolve ev' c type).bind fun d=>invoke d.target d.args):=by
 obtain ⟨callee,args,ts⟩:=c;unfold callB at h;cases callee with
 |invoke r m=>cases h
 |value x =>
  cases x with
  |func f =>
   simp only [Bool.and_eq_true] at h;obtain ⟨⟨⟨h1,h2⟩,h3⟩,h4⟩:=h;obtain ⟨fn,fn',⟨hf,hn,hb⟩,hf',hn',hb'⟩:=hS f h1;have e:∀ (g:Operand->Value),g (.func f)=.func (.func f) #[] #[]->((resolve g { callee:=.value (.func f),args:=args,argTypes:=ts } type).bind fun d=>invoke d.target d.args)=callFunc f (args.map g):=by
    intro g hg;unfold resolve;simp only [hg];show callFunc f ((#[] ++ args.map g) ++ #[])=_;rw [Array.empty_append,Array.append_empty]
   rw [e ev (he.fn f).1,e ev' (he.fn f).2];have hps:=ydb he h2;have hsz:szB P f (args.map ev).size=true:=by simpa using h4
   exact yaa hf hn hb hf' hn' hb' h1 h3 (yi6 hsz hps) (.inl ⟨hps,hsz⟩)
  |tmp t =>
   simp only [Bool.and_eq_true] at h;obtain ⟨⟨⟨h0,h1⟩,h3⟩,h2⟩:=h;have hps:=ydb he h1;have hv:=he.val (.tmp t) (by simpa [valB] using h0);have e:∀ (g:Operand->Value),((resolve g { callee:=.value (.tmp t),args:=args,argTypes:=ts } type).bind fun d=>invoke d.target d.args)=(Deferred.ofValue (g (.tmp t)) (args.map g)).bind fun d=>invoke d.target d.args:=fun g=>rfl
   rw [e,e];have sv:=hv.shp;revert sv;generalize ev (.tmp t)=v;generalize ev' (.tmp t)=v';intro sv;cases sv
   case fn f cs cs' hf hs hc =>
    have hall:=List.all_eq_true.1 h2 _ hf;simp only [Bool.and_eq_true] at hall;obtain ⟨⟨⟨g1,g2⟩,g3⟩,g4⟩:=hall;obtain ⟨fn,fn',⟨hf1,hn,hb⟩,hf1',hn',hb'⟩:=hS f g1;have e1:∀ (az cs:Array Value),((Deferred.ofValue (.func (.func f) #[] cs) az).bind fun d=>invoke d.target d.args)=callFunc f (az ++ cs):=by
     intro az cs;show callFunc f ((#[] ++ az) ++ cs)=_;rw [Array.empty_append]
    rw [e1,e1];refine yaa hf1 hn hb hf1' hn' hb' g1 ?_ (yfx (by simpa using g3) g4 hps hs hc) (.inr ⟨_,hf⟩);rw [if_pos g2];exact h3
   case nilF=>exact .doomed fun w=>⟨_,w,rfl,trivial⟩
   all_goals exact y06 _
  |_=>cases h
 |builtin b =>
  cases b with
  |len =>
   dsimp only at h;split at h
   ·rename_i x t h1 h2
    obtain rfl:args=#[x]:=by apply Array.toList_inj.1;simpa using h1
    obtain rfl:ts=#[t]:=by apply Array.toList_inj.1;simpa using h2
    simp only [Bool.and_eq_true,Bool.or_eq_true] at h;obtain ⟨h1,h2⟩:=h;have hu:(∃ e,P.underlying t=some (.slice e))∨(∃ k e,P.underlying t=some (.map k e))∨P.underlying t=some .string:=by
     rcases h1 with h1|h1|h1
     ·obtain ⟨e,he⟩:=Option.isSome_iff_exists.1 h1
      exact .inl ⟨e,y2e he⟩
     ·split at h1
      ·exact .inr (.inl ⟨_,_,by assumption⟩)
      ·cases h1
     ·exact .inr (.inr (y8e h1))
    have hm:∀ e:Operand->Value,(#[x]:Array Operand).map e=#[e x]:=fun e=>by simp
    show RelS P F K _ L ((Builtin.len_ #[t] type ((#[x]:Array Operand).map ev)).bind _) ((Builtin.len_ #[t] type ((#[x]:Array Operand).map ev')).bind _);rw [hm,hm];exact y11 (rel_len hu type (.part (he.val x h2)))
   ·cases h
  |append =>
   dsimp only at h;split at h
   ·rename_i x y t t2 h1 h2
    obtain rfl:args=#[x,y]:=by apply Array.toList_inj.1;simpa using h1
    obtain rfl:ts=#[t,t2]:=by apply Array.toList_inj.1;simpa using h2
    simp only [Bool.and_eq_true] at h;obtain ⟨⟨⟨h1,h2⟩,h3⟩,h4⟩:=h;split at h1
    ·rename_i e hu
     obtain ⟨e2,hu2⟩:=Option.isSome_iff_exists.1 h2;have hm:∀ e:Operand->Value,(#[x,y]:Array Operand).map e=#[e x,e y]:=fun e=>by simp
     show RelS P F K _ L ((Builtin.append_ #[t,t2] type ((#[x,y]:Array Operand).map ev)).bind _) ((Builtin.append_ #[t,t2] type ((#[x,y]:Array Operand).map ev')).bind _);rw [hm,hm];exact y11 (ye6 (y2e hu) (y2e hu2) (y4m h1) type (.part (he.val x h3)) (.part (he.val y h4)))
    ·cases h1
   ·cases h
  |max =>
   dsimp only at h;split at h
   ·rename_i x y h1
    obtain rfl:args=#[x,y]:=by apply Array.toList_inj.1;simpa using h1
    simp only [Bool.and_eq_true] at h;have hm:∀ e:Operand->Value,(#[x,y]:Array Operand).map e=#[e x,e y]:=fun e=>by simp
    show RelS P F K _ L ((Builtin.max_ ts type ((#[x,y]:Array Operand).map ev)).bind _) ((Builtin.max_ ts type ((#[x,y]:Array Operand).map ev')).bind _);rw [hm,hm];refine y11 ?_;unfold Builtin.max_;simp only [List.foldlM_cons,List.foldlM_nil];exact RelS.bind (yi3 (.part (he.val x h.1)) (.part (he.val y h.2))) fun L1 v v' _ hv=>.pure hv
   ·cases h
  |min =>
   dsimp only at h;split at h
   ·rename_i x y h1
    obtain rfl:args=#[x,y]:=by apply Array.toList_inj.1;simpa using h1
    simp only [Bool.and_eq_true] at h;have hm:∀ e:Operand->Value,(#[x,y]:Array Operand).map e=#[e x,e y]:=fun e=>by simp
    show RelS P F K _ L ((Builtin.min_ ts type ((#[x,y]:Array Operand).map ev)).bind _) ((Builtin.min_ ts type ((#[x,y]:Array Operand).map ev')).bind _);rw [hm,hm];refine y11 ?_;unfold Builtin.min_;simp only [List.foldlM_cons,List.foldlM_nil];exact RelS.bind (yi2 (.part (he.val x h.1)) (.part (he.val y h.2))) fun L1 v v' _ hv=>.pure hv
   ·cases h
  |_=>cases h
theorem yd7 {o:Oper} (h:y5o P S kd o=true) (hk:∀ t,kd t≤2) (hS:∀ f,S f=true->Has P F f) (he:EvR K kd L ev ev') :
  RelS P F K (RelN P K S kd o.dst) L (execOp ev o) (execOp ev' o):=by
 obtain ⟨dst,op,type,pos,after,guard⟩:=o;unfold y5o at h;cases op with
 |move x=>exact .pure (ycw he h hk)
 |assign x=>exact .pure (ycw he h hk)
 |pick c a b =>
  simp only [Bool.and_eq_true] at h;refine RelS.bind (ye5 (.part (he.val c h.1.1))) fun L1 x x' hp hx=>?_
  rw [show x'=x from hx];refine .pure (RelD.part ?_);cases x
  ·exact (he.val b h.2).mono hp
  ·exact (he.val a h.1.2).mono hp
 |alloc e =>
  simp only [Bool.and_eq_true] at h;exact y2z h.1 (yfv (y4m h.2))
 |build t ps =>
  simp only [Bool.and_eq_true] at h;obtain ⟨⟨h1,h2⟩,h3⟩:=h;split at h1
  ·rename_i n e hu
   exact y11 (yft hu (y4m h2) (y6r he h3))
  ·rename_i fs hu
   exact y11 (ye4 hu (y4m h2) (y6r he h3))
  ·cases h1
 |box e x =>
  simp only [Bool.and_eq_true] at h;exact y2z h.1 (rel_box e (he.val x h.2))
 |makeFunc fn first caps =>
  simp only [Bool.and_eq_true] at h;obtain ⟨⟨h1,h2⟩,h3⟩:=h;obtain rfl:first=#[]:=by simpa using h2
  cases fn with
  |func f =>
   refine y11 (s:=Instr.makeFunc (.func f) ((#[]:Array Operand).map ev) (caps.map ev)) (s':=Instr.makeFunc (.func f) ((#[]:Array Operand).map ev') (caps.map ev')) ?_;rw [show (#[]:Array Operand).map ev=#[] from by simp,show (#[]:Array Operand).map ev'=#[] from by simp];refine ya2 (cs:=caps.map ev) (cs':=caps.map ev') (by rw [Array.size_map];exact ycz h1) (by simp) fun i v v' g1 g2=>?_
   rw [Array.getElem?_map] at g1 g2;obtain ⟨q,hq,rfl⟩:=Option.map_eq_some_iff.1 g1;obtain ⟨q',hq',rfl⟩:=Option.map_eq_some_iff.1 g2;obtain rfl:q=q':=zSi (hq.symm.trans hq');exact he.any q (Array.all_eq_true_iff_forall_mem.1 h3 q (Array.mem_of_getElem? hq))
  |_=>cases h1
 |fieldAddr t x i =>
  simp only [Bool.and_eq_true] at h;obtain ⟨⟨h1,h2⟩,h3⟩:=h;split at h3
  ·rename_i fs hu
   refine y2z h1 (ybn hu i (fun f hf=>?_) (he.any x h2));rw [hf] at h3;exact h3
  ·rename_i hno
   refine y2z h1 ?_;unfold Instr.fieldAt;refine RelS.bind (y51 t) fun L1 d d' hp hd=>?_
   rw [hd.1];cases d<;>first|exact y06 _|exact absurd hd.2 (hno _)
 |index t x ix =>
  simp only [Bool.and_eq_true] at h;exact y11 (yfs (y8e h.1.1) (.part (he.val x h.1.2)) (.part (he.val ix h.2)))
 |range t x =>
  simp only [Bool.and_eq_true] at h;exact y2z h.1.1 (yfr (y8e h.1.2) (.part (he.val x h.2)))
 |next x s =>
  simp only [Bool.and_eq_true] at h;obtain ⟨⟨h1,h2⟩,h3⟩:=h;obtain rfl:s=true:=h1;exact RelS.bind (yi1 type (he.any x h2)) fun L1 v v' hp hv=>.pure (RelD.tuple hv h3)
 |buildSlice t len ps =>
  simp only [Bool.and_eq_true] at h;obtain ⟨h1,h2⟩:=h;split at h1
  ·rename_i e hu
   exact y11 (y7e (y2e hu) (y4m h1) len (y6r he h2))
  ·cases h1
 |load t a=>exact y11 (yi4 t (he.any a h))
 |store t a x =>
  simp only [Bool.and_eq_true] at h;exact ycl (yfp t (he.any a h.1) (.part (he.val x h.2)))
 |binOp op xt x y yt =>
  simp only [Bool.and_eq_true,Bool.or_eq_true] at h;obtain ⟨⟨hx,hy⟩,h⟩:=h;have hx:=RelV.part (he.val x hx);have hy:=RelV.part (he.val y hy);refine y11 ?_;rcases h with h|⟨⟨h1,h2⟩,h3⟩
  ·refine RelS.bind (y6l op h xt x y _ _ _ _) fun L1 _ _ hp _=>?_
   exact yfu op h xt (hx.mono hp) (hy.mono hp)
  ·have hop:op=.eql∨op=.neq:=by cases op<;>simp at h1<;>simp
   refine RelS.bind (ya7 op hop (by simpa using h3) x y hx hy) fun L1 _ _ hp _=>?_
   exact yi5 op hop (eqB_T h2) (hx.mono hp) (hy.mono hp)
 |unOp u t x =>
  simp only [Bool.and_eq_true] at h;cases u<;>simp at h
  ·exact y11 (rel_neg (.part (he.val x h)))
  ·exact y11 (rel_not (.part (he.val x h)))
 |convert s d x =>
  simp only [Bool.and_eq_true] at h;obtain ⟨k1,h1⟩:=ygr h.1.1;obtain ⟨k2,h2⟩:=ygr h.1.2;exact y11 (ybq h1 h2 (.part (he.val x h.2)))
 |makeMap t r =>
  cases r with
  |some _=>cases h
  |none=>exact y11 (ybi t)
 |makeSlice t l c =>
  simp only [Bool.and_eq_true] at h;obtain ⟨⟨h1,h2⟩,h3⟩:=h;split at h1
  ·rename_i e hu
   exact y11 (y8m (y2e hu) (y4m h1) (.part (he.val l h2)) (.part (he.val c h3)))
  ·cases h1
 |slice t x lo hi mx =>
  simp only [Bool.and_eq_true] at h;obtain ⟨⟨⟨⟨h1,h2⟩,h3⟩,h4⟩,h5⟩:=h;simp only [Bool.or_eq_true] at h1;rcases h1 with h1|h1
  rotate_left
  ·exact y11 (ydy (y8e h1) (.part (he.val x h2)) (y4e he h3) (y4e he h4) (y4e he h5))
  obtain ⟨e,hu⟩:=Option.isSome_iff_exists.1 h1;exact y11 (yfq (y2e hu) (.part (he.val x h2)) (y4e he h3) (y4e he h4) (y4e he h5))
 |indexAddr t x ix =>
  simp only [Bool.and_eq_true] at h;obtain ⟨⟨⟨h1,h2⟩,h3⟩,h4⟩:=h;obtain ⟨e,hu⟩:=Option.isSome_iff_exists.1 h1;exact y2z h4 (ybl (y2e hu) (.part (he.val x h2)) (.part (he.val ix h3)))
 |lookup t m k ok =>
  simp only [Bool.and_eq_true] at h;obtain ⟨⟨⟨h1,h2⟩,h3⟩,h4⟩:=h;split at h1
  ·rename_i key e hu
   simp only [Bool.and_eq_true] at h1;refine RelS.bind (ye0 hu (keyB_T h1.1) (y4m h1.2) (he.val m h2) (he.val k h3) ok) fun L1 v v' hp hv=>.pure ?_
   cases ok with
   |false=>exact RelD.part (hv.2 rfl)
   |true=>exact RelD.tuple hv.1 (by simpa using h4)
  ·cases h1
 |mapUpdate t m k v =>
  simp only [Bool.and_eq_true] at h;obtain ⟨⟨⟨h1,h2⟩,h3⟩,h4⟩:=h;split at h1
  ·rename_i key e hu
   exact ycl (y8l hu (keyB_T h1) (he.val m h2) (he.val k h3) (he.val v h4))
  ·cases h1
 |extract x i=>exact y11 (ybo (he.tup x h) i)
 |makeInterface t x =>
  simp only [Bool.and_eq_true] at h;obtain ⟨h1,h2⟩:=h;cases x with
  |const v =>
   cases v with
   |string s =>
    show RelS P F K _ L ((Instr.makeInterface t (ev _)).bind _) ((Instr.makeInterface t (ev' _)).bind _);rw [(he.con _).1,(he.con _).2];exact y11 (y8n h2 s)
   |_=>cases h1
  |_=>cases h1
 |panic x=>exact y11 (ydz (he.val x h))
 |call c=>exact yiy h hS he
 |_=>cases h
end
end Go.Tr
namespace Go.Tr
open Go.Conc (G)
def codeB (P:Program) (T:FuncId->Bool) (kd:y17):Code->Bool
 |.skip|.ret|.exit _=>true
 |.region _ ops _=>ops.all (y5o P T kd)
 |.seq a b=>codeB P T kd a && codeB P T kd b
 |.cond c x y=>valB kd c && codeB P T kd x && codeB P T kd y
 |.block _ c=>codeB P T kd c
 |.loop c=>codeB P T kd c
 |_=>false
def y3a (P:Program) (T:FuncId->Bool) (kd:y17):Item->Bool
 |.code c=>codeB P T kd c
 |.inBlock _=>true
 |.inLoop c=>codeB P T kd c
 |.inRegion ops _=>ops.all (y5o P T kd)
 |_=>false
def resB (kd:y17):ResultVar->Bool
 |.tmp t=>kd t == 0
 |.cell _ _=>true
structure y3y (P:Program) (T:FuncId->Bool) (kd:y17) (f:FuncId):Prop where
 two:∀ t,kd t≤2
 fn:∃ fn c,P.funcs[f]?=some fn∧fn.body=some c∧(fn.name == "runtime.NumGoroutine")=false∧codeB P T kd c=true∧fn.results.all (resB kd)=true∧(∀ i,i<fn.params.size->kd i=0)∧(∀ i,fn.params.size≤i->i<fn.params.size+fn.nfree->kd i=1)
def frm (f:FuncId) (tm:Array Value) (td:List Item) (m:FrameMode):Frame:={ fn:=f,tmps:=tm,todo:=td,defers:=[],mode:=m,kind:=.normal }
def tail (k:List Item) (cs:List Frame):List Item:=if cs.isEmpty then k else []
section
variable (P:Program) (S T:FuncId->Bool) (kdOf:FuncId->y17) (K:Cfg) (k:List Item) (base lb:List Frame)
inductive Stk (L:List Nat):FuncId->List Frame->List Frame->Prop
 |nil {f:FuncId}:Stk L f [] base
 |cons {f g:FuncId} {tm tm':Array Value} {ops:Array Oper} {i:Nat} {rest:List Nat} {td:List Item} {cs cs':List Frame} {o:Oper} :
   TRel K (kdOf g) L tm tm'->ops[i]?=some o->dstB (kdOf g) (if oneB P f then 0 else 2) o.dst=true->(Item.inRegion ops (i :: rest) :: td).all (y3a P T (kdOf g))=true->S g=true->Stk L g cs cs' →
   Stk L f (frm g tm (.inRegion ops (i :: rest) :: td) .run :: cs) (frm g tm' (.inRegion ops (i :: rest) :: (td ++ tail k cs)) .run :: cs')
structure Sim (L:List Nat) (g g':Goroutine) (f:FuncId) (tm tm':Array Value) (td:List Item) (m:FrameMode) (cs cs':List Frame):Prop where
 lone:g=G (frm f tm td m) (cs ++ lb)
 comp:g'=G (frm f tm' (td ++ tail k cs) m) cs'
 tmps:TRel K (kdOf f) L tm tm'
 calm:td.all (y3a P T (kdOf f))=true
 here:S f=true
 stk:Stk P S T kdOf K k base L f cs cs'
 mode:m=.run∨m=.returning
def Sims (L:List Nat) (g g':Goroutine):Prop:=∃ f tm tm' td m cs cs',Sim P S T kdOf K k base lb L g g' f tm tm' td m cs cs'
def Fin (g:Goroutine):Prop:=g.callers=lb∧(g.frame.mode=.returning∨(g.frame.mode=.run∧g.frame.todo=[]))
end
structure Moved (K:Cfg) (L L':List Nat) (u u' w w':World) (es:Array Event):Prop where
 step:StepK K L L' w w'
 rel:WRel K L' u' w'
 evs:∀ e ∈ es,EvK K L' e
 drawn:∃ c,u'.drawn=u.drawn+c∧w'.drawn=w.drawn+c
 tape:u'.tape=u.tape
theorem Moved.refl {K:Cfg} {L:List Nat} {u w:World} (h:WRel K L u w):Moved K L L u u w w #[]:=⟨.refl K L w,h,by simp,⟨0,rfl,rfl⟩,rfl⟩
section
variable {P:Program} {F:Array Func} {S T:FuncId->Bool} {kdOf:FuncId->y17} {K:Cfg} {k:List Item} {base:List Frame} {L L':List Nat}
theorem TRel.mono {kd:y17} {a b:Array Value} (h:TRel K kd L a b) (hp:L <+: L'):TRel K kd L' a b :=
 ⟨h.size,fun i v v' x y=>(h.any i v v' x y).mono hp,fun i v v' x y z=>(h.val i v v' x y z).mono hp,fun i v v' x y z=>(h.tup i v v' x y z).mono hp⟩
theorem Stk.mono {f:FuncId} {cs cs':List Frame} (h:Stk P S T kdOf K k base L f cs cs') (hp:L <+: L'):Stk P S T kdOf K k base L' f cs cs':=by
 induction h with
 |nil=>exact .nil
 |cons h1 h2 h3 h4 h5 _ ih=>exact .cons (h1.mono hp) h2 h3 h4 h5 ih
theorem TRel.set {kd:y17} {a b:Array Value} (h:TRel K kd L a b) {d:Nat} {v v':Value} (hv:RelD K kd (some d) L v v'):TRel K kd L (a.setIfInBounds d v) (b.setIfInBounds d v'):=by
 have key:∀ (i:Nat) (x y:Value),(a.setIfInBounds d v)[i]?=some x->(b.setIfInBounds d v')[i]?=some y->(i=d∧x=v∧y=v')∨(a[i]?=some x∧b[i]?=some y):=by
  intro i x y hx hy;rw [Array.getElem?_setIfInBounds] at hx hy
  by_cases hd:d=i
  ·subst hd
   rw [if_pos rfl] at hx hy;split at hx
   ·split at hy
    ·exact .inl ⟨rfl,(zSi hx).symm,(zSi hy).symm⟩
    ·cases hy
   ·cases hx
  ·rw [if_neg hd] at hx hy
   exact .inr ⟨hx,hy⟩
 refine ⟨by simp [h.size],fun i x y hx hy=>?_,fun i x y hx hy h0=>?_,fun i x y hx hy h0=>?_⟩
 ·rcases key i x y hx hy with ⟨rfl,rfl,rfl⟩|⟨h1,h2⟩
  ·exact hv.any
  ·exact h.any i x y h1 h2
 ·rcases key i x y hx hy with ⟨rfl,rfl,rfl⟩|⟨h1,h2⟩
  ·exact hv.val i rfl h0
  ·exact h.val i x y h1 h2 h0
 ·rcases key i x y hx hy with ⟨rfl,rfl,rfl⟩|⟨h1,h2⟩
  ·exact hv.tup i rfl h0
  ·exact h.tup i x y h1 h2 h0
theorem TRel.get {kd:y17} {a b:Array Value} (h:TRel K kd L a b) (i:Nat):RelT K L (a.getD i undef) (b.getD i undef)∧(kd i=0->RelP K L (a.getD i undef) (b.getD i undef))∧(kd i≠1->RelV K L (a.getD i undef) (b.getD i undef)):=by
 rw [Array.getD_eq_getD_getElem?,Array.getD_eq_getD_getElem?];cases ha:a[i]? with
 |none =>
  rw [Array.getElem?_eq_none (by rw [h.size];exact Array.getElem?_eq_none_iff.1 ha)];exact ⟨.val (.part undef_rel),fun _=>undef_rel,fun _=>.part undef_rel⟩
 |some v =>
  have hl:i<b.size:=by rw [h.size];exact (zGe ha).1
  rw [Array.getElem?_eq_getElem hl];have hb:=Array.getElem?_eq_getElem hl;exact ⟨h.any i v _ ha hb,fun h0=>h.val i v _ ha hb h0,fun h0=>h.tup i v _ ha hb h0⟩
theorem TRel.ev {kd:y17} (hk:∀ t,kd t≤2) {a b:Array Value} (h:TRel K kd L a b) {fr fr':Frame} (h1:fr.tmps=a) (h2:fr'.tmps=b):EvR K kd L fr.eval fr'.eval:=by
 refine ⟨fun x hx=>?_,fun x hx=>?_,fun x hx=>?_,fun f=>⟨rfl,rfl⟩,fun v=>⟨rfl,rfl⟩⟩
 ·cases x with
  |tmp t =>
   show RelP K L (fr.tmps.getD t undef) (fr'.tmps.getD t undef);rw [h1,h2];exact (h.get t).2.1 (by simpa [valB] using hx)
  |const v=>exact yau hx
  |func f=>exact .cell (.func (cs:=#[]) (cs':=#[]) (ycz hx) rfl fun i v v' h=>by simp at h)
  |_=>cases hx
 ·cases x with
  |tmp t =>
   show RelV K L (fr.tmps.getD t undef) (fr'.tmps.getD t undef);rw [h1,h2];refine (h.get t).2.2 ?_;simp only [tupB,Bool.or_eq_true,beq_iff_eq] at hx;omega
  |const v=>exact .part (yau hx)
  |_=>cases hx
 ·cases x with
  |tmp t =>
   show RelT K L (fr.tmps.getD t undef) (fr'.tmps.getD t undef);rw [h1,h2];exact (h.get t).1
  |_=>cases hx
theorem TRel.yielded {kd:y17} {a b:Array Value} (h:TRel K kd L a b) (ops:Array Oper) (j:Nat):Go.yielded ops b j=Go.yielded ops a j:=by
 unfold Go.yielded;cases hd:(ops[j]?).bind (·.dst) with
 |none=>rfl
 |some t =>
  simp only [Option.bind_some];cases ha:a[t]? with
  |none =>
   rw [Array.getElem?_eq_none (by rw [h.size];exact Array.getElem?_eq_none_iff.1 ha)]
  |some v =>
   have hl:t<b.size:=by rw [h.size];exact (zGe ha).1
   rw [Array.getElem?_eq_getElem hl];have hv:=h.any t v _ ha (Array.getElem?_eq_getElem hl);revert hv;generalize b[t]=v';intro hv;cases hv with
   |ptr _ _ _=>rfl
   |flat _=>rfl
   |junk h1 h2 =>
    cases v<;>first|(cases h1;done)|(cases v'<;>first|rfl|(cases h2;done))
theorem y5m {id:Nat}:∀ (t:List Item) (r k:List Item),exitTo id t=some r->exitTo id (t ++ k)=some (r ++ k)
 |[],_,_,h=>by cases h
 |x :: t,r,k,h=>by
  cases x with
  |inBlock id' =>
   simp only [exitTo,List.cons_append] at h ⊢
   by_cases hid:(id' == id)=true
   ·rw [if_pos hid] at h ⊢
    rw [zSi h]
   ·rw [if_neg hid] at h ⊢
    exact y5m t r k h
  |_=>exact y5m t r k h
theorem y5n {id:Nat} {p:Item->Bool}:∀ (t r:List Item),exitTo id t=some r->t.all p=true->r.all p=true
 |[],_,h,_=>by cases h
 |x :: t,r,h,hp=>by
  simp only [List.all_cons,Bool.and_eq_true] at hp;cases x with
  |inBlock id' =>
   simp only [exitTo] at h
   by_cases hid:(id' == id)=true
   ·rw [if_pos hid] at h
    rw [← zSi h];exact hp.2
   ·rw [if_neg hid] at h
    exact y5n t r h hp.2
  |_=>exact y5n t r h hp.2
theorem y4a {fn:FuncId} {es:Array Event} {e:Event} (h:e ∈ seen P fn es):e ∈ es:=by
 unfold seen at h;dsimp only at h;rw [← Array.foldl_toList] at h;have key:∀ (l:List Event) (f:Bool × Array Event->Event->Bool × Array Event) (hf:∀ x y,∀ z ∈ (f x y).2,z ∈ x.2∨z=y) (x:Bool × Array Event),∀ z ∈ (l.foldl f x).2,z ∈ x.2∨z ∈ l:=by
  intro l f hf
  induction l with
  |nil=>intro x z hz;exact .inl hz
  |cons y l ih =>
   intro x z hz;rcases ih (f x y) z hz with h|h
   ·rcases hf x y z h with h|h
    ·exact .inl h
    ·exact .inr (by simp [h])
   ·exact .inr (by simp [h])
 rcases key es.toList _ (by
  intro x y z hz;obtain ⟨q,kept⟩:=x;dsimp only at hz ⊢;split at hz
  ·exact .inl hz
  ·dsimp only at hz
   split at hz
   ·exact .inl hz
   ·rcases Array.mem_push.1 hz with h|h
    ·exact .inl h
    ·exact .inr h) _ e h with h|h
 ·simp at h
 ·simpa using h
end
end Go.Tr
namespace Go.Tr
open Go.Conc (G)
section
variable {P:Program} {F:Array Func} {S:FuncId->Bool} {kdOf:FuncId->y17} {K:Cfg} {k:List Item} {base:List Frame} {L L':List Nat}
theorem y5q (main:Bool) (f:FuncId) (tm:Array Value) (cs:List Frame) (w:World):stepG P main (G (frm f tm [] .run) cs) w=.go (G (frm f tm [] .returning) cs) w:=by simp [G,frm,stepG,stepG.exec]
theorem yff (main:Bool) (f:FuncId) (tm:Array Value) (td:List Item) (cs:List Frame) (w:World):stepG P main (G (frm f tm (.code .ret :: td) .run) cs) w=.go (G (frm f tm (.code .ret :: td) .returning) cs) w:=by simp [G,frm,stepG,stepG.exec]
theorem yb4 (main:Bool) (f:FuncId) (tm:Array Value) (td:List Item) (cs:List Frame) (w:World):stepG P main (G (frm f tm (.code .skip :: td) .run) cs) w=.go (G (frm f tm td .run) cs) w:=by simp [G,frm,stepG,stepG.exec]
theorem y5e (main:Bool) (f:FuncId) (tm:Array Value) (id:Nat) (td:List Item) (cs:List Frame) (w:World):stepG P main (G (frm f tm (.inBlock id :: td) .run) cs) w=.go (G (frm f tm td .run) cs) w:=by simp [G,frm,stepG,stepG.exec]
theorem yfe (main:Bool) (f:FuncId) (tm:Array Value) (a b:Code) (td:List Item) (cs:List Frame) (w:World):stepG P main (G (frm f tm (.code (.seq a b) :: td) .run) cs) w=.go (G (frm f tm (.code a :: .code b :: td) .run) cs) w:=by simp [G,frm,stepG,stepG.exec]
theorem y8i (main:Bool) (f:FuncId) (tm:Array Value) (id:Nat) (c:Code) (td:List Item) (cs:List Frame) (w:World):stepG P main (G (frm f tm (.code (.block id c) :: td) .run) cs) w=.go (G (frm f tm (.code c :: .inBlock id :: td) .run) cs) w:=by simp [G,frm,stepG,stepG.exec]
theorem yb6 (main:Bool) (f:FuncId) (tm:Array Value) (c:Code) (td:List Item) (cs:List Frame) (w:World):stepG P main (G (frm f tm (.code (.loop c) :: td) .run) cs) w=.go (G (frm f tm (.code c :: .inLoop c :: td) .run) cs) w:=by simp [G,frm,stepG,stepG.exec]
theorem y6d (main:Bool) (f:FuncId) (tm:Array Value) (c:Code) (td:List Item) (cs:List Frame) (w:World):stepG P main (G (frm f tm (.inLoop c :: td) .run) cs) w=.go (G (frm f tm (.code c :: .inLoop c :: td) .run) cs) w:=by simp [G,frm,stepG,stepG.exec]
theorem y6c (main:Bool) (f:FuncId) (tm:Array Value) (ops:Array Oper) (td:List Item) (cs:List Frame) (w:World):stepG P main (G (frm f tm (.inRegion ops [] :: td) .run) cs) w=.go (G (frm f tm td .run) cs) w:=by simp [G,frm,stepG,stepG.exec]
theorem y6b (main:Bool) (f:FuncId) (tm:Array Value) (id:Nat) (ops:Array Oper) (td:List Item) (cs:List Frame) (w:World):stepG P main (G (frm f tm (.code (.region id ops false) :: td) .run) cs) w=.go (G (frm f tm (.inRegion ops (List.range ops.size) :: td) .run) cs) w:=by simp [G,frm,stepG,stepG.exec]
theorem yb7 (main:Bool) (f:FuncId) (tm:Array Value) (id:Nat) (ops:Array Oper) (td:List Item) (cs:List Frame) (w:World):stepG P main (G (frm f tm (.code (.region id ops true) :: td) .run) cs) w=.go (G (frm f tm (.inRegion ops (Region.schedule (P.follows .mixedOrders) ops (w.tape w.drawn (.order f id))) :: td) .run) cs) { w with drawn:=w.drawn+1 }:=by
 simp [G,frm,stepG,stepG.exec,choose,Sem.run,Question.forced,Question.cut]
theorem yb8 (main:Bool) (f:FuncId) (tm:Array Value) (c:Operand) (x y:Code) (td:List Item) (cs:List Frame) (w:World):stepG P main (G (frm f tm (.code (.cond c x y) :: td) .run) cs) w =
  match (frm f tm (.code (.cond c x y) :: td) .run).eval c with
  |.bool b=>.go (G (frm f tm (.code (if b then x else y) :: td) .run) cs) w
  |_=>.ended (.stuck "cond: bool expected" ((frm f tm (.code (.cond c x y) :: td) .run).pos P)) w:=by
 simp only [G,frm,stepG,stepG.exec];generalize Frame.eval _ c=v;cases v<;>rfl
theorem y6e (main:Bool) (f:FuncId) (tm:Array Value) (id:Nat) (td:List Item) (cs:List Frame) (w:World):stepG P main (G (frm f tm (.code (.exit id) :: td) .run) cs) w =
  match exitTo id td with
  |some r=>.go (G (frm f tm r .run) cs) w
  |none=>.ended (.stuck "exit, goto: no such block or label" ((frm f tm (.code (.exit id) :: td) .run).pos P)) w:=by
 cases h:exitTo id td with
 |some r=>simp [G,frm,stepG,stepG.exec,h]
 |none=>simp [G,frm,stepG,stepG.exec,h]
theorem y30 (f:FuncId) (tm:Array Value) (ops:Array Oper) (i:Nat) (rest:List Nat) (td:List Item) (v:Value):(frm f tm (.inRegion ops (i :: rest) :: td) .run).finish v=frm f (match (ops[i]?).bind (·.dst) with|some d=>tm.setIfInBounds d v|none=>tm) (.inRegion ops rest :: td) .run:=by
 unfold Frame.finish frm;rfl
theorem y6a (main:Bool) (f:FuncId) (tm:Array Value) (ops:Array Oper) (i:Nat) (rest:List Nat) (td:List Item) (cs:List Frame) (w:World) (h:((ops[i]?).map (Region.wanted · (yielded ops tm))).getD false=false) :
    stepG P main (G (frm f tm (.inRegion ops (i :: rest) :: td) .run) cs) w=.go (G (frm f (match (ops[i]?).bind (·.dst) with|some d=>tm.setIfInBounds d undef|none=>tm) (.inRegion ops rest :: td) .run) cs) w:=by
  rw [← y30];simp [G,frm,stepG,stepG.exec,h]
theorem yb5 (main:Bool) (f:FuncId) (tm:Array Value) (ops:Array Oper) (i:Nat) (rest:List Nat) (td:List Item) (cs:List Frame) (w:World) (o:Oper) (ho:ops[i]?=some o) (h:Region.wanted o (yielded ops tm)=true) :
  stepG P main (G (frm f tm (.inRegion ops (i :: rest) :: td) .run) cs) w=stepG.apply P true (frm f tm (.inRegion ops (i :: rest) :: td) .run) cs none (execOp (frm f tm (.inRegion ops (i :: rest) :: td) .run).eval o) w:=by
 simp [G,frm,stepG,stepG.exec,stepG.oper,Frame.oper?,ho,h]
theorem y1r (main:Bool) (f:FuncId) (tm:Array Value) (td:List Item) (c:Frame) (cs:List Frame) (w:World) {fn:Func} (hf:P.funcs[f]?=some fn) :
  stepG P main (G (frm f tm td .returning) (c :: cs)) w=GStep.after (seen P f ((results fn tm).runT P w #[]).2) (match ((results fn tm).runT P w #[]).1 with
   |.ok v w=>.go (G (c.finish v) cs) w
   |.halt (.stuck s) w=>.ended (.stuck s ((frm f tm td .returning).pos P)) w
   |.halt _ w=>.ended (.stuck "return: the result variables cannot be read" ((frm f tm td .returning).pos P)) w):=by
 simp only [G,frm,stepG,unwind,hf,doReturn];generalize Sem.runT P (results fn tm) w #[]=r;obtain ⟨r,es⟩:=r;cases r with
 |ok v w=>rfl
 |halt h w=>cases h<;>rfl
end
end Go.Tr
namespace Go.Tr
open Go.Conc (G)
section
variable {P:Program} {F:Array Func} {S:FuncId->Bool} {kdOf:FuncId->y17} {K:Cfg} {k:List Item} {base:List Frame} {L L':List Nat}
def ybv (P:Program) (fr:Frame) (cs:List Frame):Next->Goroutine
 |.value v=>G (fr.finish v) cs
 |.skip=>G (fr.finish undef) cs
 |.enter f args=>G (Frame.enter P f args .normal) (fr :: cs)
 |_=>default
theorem y3t {f:FuncId} {tm:Array Value} {ops:Array Oper} {i:Nat} {rest:List Nat} {td:List Item} {cs:List Frame} {s:Sem Next} {w w':World} {a:Next} {es:Array Event}
  (hr:s.runT P w #[]=(.ok a w',es)) (ha:(∃ v,a=.value v)∨a=.skip∨∃ g az,a=.enter g az) :
  stepG.apply P true (frm f tm (.inRegion ops (i :: rest) :: td) .run) cs none s w=.go (ybv P (frm f tm (.inRegion ops (i :: rest) :: td) .run) cs a) w' (seen P f es):=by
 have hk:((frm f tm (.inRegion ops (i :: rest) :: td) .run).kind == CallKind.early)=false:=rfl;rcases ha with ⟨v,rfl⟩|rfl|⟨g,az,rfl⟩ <;>
 ·unfold stepG.apply
  simp only [if_true,hr,hk,Bool.false_eq_true,if_false];simp [GStep.after,ybv,G,frm]
theorem y3n {kd:y17} {a b:Array Value} (h:TRel K kd L a b) {fn:Func} (hr:fn.results.all (resB kd)=true):RelS P F K (fun L v v'=>if (fn.results.size == 1)=true then RelP K L v v' else RelV K L v v') L (results fn a) (results fn b):=by
 have one:∀ (r:ResultVar) (L1:List Nat),L <+: L1->resB kd r=true->RelS P F K (fun L=>RelP K L) L1
   (match r with|.tmp t=>pure (a.getD t undef)|.cell x t=>(asAddr (a.getD x undef)).bind fun y=>loadVar t y) (match r with|.tmp t=>pure (b.getD t undef)|.cell x t=>(asAddr (b.getD x undef)).bind fun y=>loadVar t y):=by
  intro r L1 hp hb;cases r with
  |tmp t=>exact .pure (((h.get t).2.1 (by simpa [resB] using hb)).mono hp)
  |cell x t =>
   have hx:=((h.get x).1).mono hp;show RelS P F K _ L1 ((asAddr (a.getD x undef)).bind fun y=>loadVar t y) ((asAddr (b.getD x undef)).bind fun y=>loadVar t y);revert hx;generalize a.getD x undef=v;generalize b.getD x undef=v';intro hx;refine RelS.bind (RA:=fun L=>RelA K L) ?_ fun L2 y y' hp2 hy=>y6k t hy
   cases hx with
   |ptr h1 h2 h3=>exact .pure ⟨_,h1,h2,h3⟩
   |flat h=>cases v<;>first|exact y06 _|(simp [y1m] at h;done)
   |junk h _=>cases v<;>first|exact y06 _|(cases h;done)
 have many:∀ (l:List ResultVar) (L1:List Nat),L <+: L1->(∀ r ∈ l,resB kd r=true)->RelS P F K (fun L (vs vs':List Value)=>vs.length=l.length∧vs'.length=l.length∧∀ (i:Nat) (v v':Value),vs[i]?=some v->vs'[i]?=some v'->RelP K L v v') L1
   (l.mapM fun|.tmp t=>pure (a.getD t undef)|.cell x t=>(asAddr (a.getD x undef)).bind fun y=>loadVar t y) (l.mapM fun|.tmp t=>pure (b.getD t undef)|.cell x t=>(asAddr (b.getD x undef)).bind fun y=>loadVar t y):=by
  intro l
  induction l with
  |nil=>intro L1 hp hb;exact .pure ⟨rfl,rfl,fun i v v' h=>by simp at h⟩
  |cons r l ih =>
   intro L1 hp hb;simp only [List.mapM_cons];refine RelS.bind (one r L1 hp (hb r (by simp))) fun L2 v v' hp2 hv=>?_
   refine RelS.bind (ih L2 (hp.trans hp2) (fun x hx=>hb x (by simp [hx]))) fun L3 vs vs' hp3 hvs=>.pure ⟨by simp [hvs.1],by simp [hvs.2.1],fun i x x' h1 h2=>?_⟩
   cases i with
   |zero =>
    simp at h1 h2;subst h1 h2;exact hv.mono hp3
   |succ i=>exact hvs.2.2 i x x' (by simpa using h1) (by simpa using h2)
 unfold results;simp only [Array.mapM_eq_mapM_toList,bind_map_left];refine RelS.bind (many fn.results.toList L (List.prefix_refl L) (fun r hr'=>Array.all_eq_true_iff_forall_mem.1 hr r (by simpa using hr'))) fun L2 vs vs' hp hvs=>?_
 obtain ⟨l1,l2,hv⟩:=hvs;have e1:vs.toArray.size=fn.results.size:=by simp [l1]
 have e2:vs'.toArray.size=fn.results.size:=by simp [l2]
 refine .pure ?_
 by_cases h1:fn.results.size=1
 ·rw [dif_pos (by rw [e1];exact h1),dif_pos (by rw [e2];exact h1),if_pos (by simpa using h1)]
  exact hv 0 _ _ (by simp [List.getElem?_eq_getElem (show 0<vs.length by simp at e1;omega)]) (by simp [List.getElem?_eq_getElem (show 0<vs'.length by simp at e2;omega)])
 ·rw [dif_neg (by rw [e1];exact h1),dif_neg (by rw [e2];exact h1),if_neg (by simpa using h1)]
  exact .tuple ⟨by rw [e1,e2],fun i x x' g1 g2=>hv i x x' (by simpa using g1) (by simpa using g2)⟩
end
end Go.Tr
namespace Go.Tr
open Go.Conc (G)
section
variable {P:Program} {F:Array Func} {S T:FuncId->Bool} {kdOf:FuncId->y17} {K:Cfg} {k:List Item} {base lb:List Frame} {L:List Nat}
def y85 (lb:List Frame) (g:Goroutine):Prop:=∃ fr cs ch,g=G fr (cs ++ lb)∧fr.mode=.panicking ch∧fr.defers=[]∧∀ c ∈ cs,c.defers=[]
theorem Stk.bare {f:FuncId} {cs cs':List Frame} (h:Stk P S T kdOf K k base L f cs cs'):∀ c ∈ cs,c.defers=[]:=by
 induction h with
 |nil=>simp
 |cons _ _ _ _ _ _ ih =>
  intro c hc;rcases List.mem_cons.1 hc with rfl|hc
  ·rfl
  ·exact ih c hc
theorem y4u {f:FuncId} {tm:Array Value} {ops:Array Oper} {i:Nat} {rest:List Nat} {td:List Item} {cs:List Frame} {s:Sem Next} {w w':World} {h:Halt} (hc:y0z h)
  (hr:s.run P w=.halt h w'):(∃ o u1 es,stepG.apply P true (frm f tm (.inRegion ops (i :: rest) :: td) .run) cs none s w=.ended o u1 es) ∨
   ∃ ch u1 es,stepG.apply P true (frm f tm (.inRegion ops (i :: rest) :: td) .run) cs none s w=.go (G (frm f tm (.inRegion ops (i :: rest) :: td) (.panicking ch)) cs) u1 es:=by
 unfold stepG.apply;simp only [if_true,Sem.runT_eq,hr];cases h with
 |panic v=>exact .inr ⟨_,_,_,rfl⟩
 |stuck s=>exact .inl ⟨_,_,_,rfl⟩
 |unsupported u =>
  cases u
  case initOrder _=>exact hc.elim
  all_goals exact .inl ⟨_,_,_,rfl⟩
 |_=>exact absurd hc (by simp [y0z])
def Ent (P:Program) (F:Array Func) (S T:FuncId->Bool) (kdOf:FuncId->y17) (K:Cfg) (k:List Item) (base lb:List Frame) (L:List Nat) (g g':Goroutine):Prop :=
 ∃ fe az az' cs cs',S fe=false∧T fe=true∧g=G (Frame.enter P fe az .normal) (cs ++ lb)∧g'=G (Frame.enter (wf P F) fe az' .normal) cs'∧RelPs K L az az'∧cs≠[]∧szB P fe az.size=true∧Stk P S T kdOf K k base L fe cs cs'
def yj5 (P:Program) (F:Array Func) (S T:FuncId->Bool) (kdOf:FuncId->y17) (K:Cfg) (k:List Item) (base lb:List Frame) (main:Bool) (L:List Nat) (u u1 w:World) (g1 g':Goroutine):Prop :=
 ∃ L' g1' w1 es',stepG (wf P F) main g' w=.go g1' w1 es'∧(Sims P S T kdOf K k base lb L' g1 g1'∨Ent P F S T kdOf K k base lb L' g1 g1')∧Moved K L L' u u1 w w1 es'
theorem yfa (k:List Item) (c:Frame) (cs:List Frame):tail k (c :: cs)=[]:=rfl
theorem TRel.put2 {kd:y17} {a b:Array Value} (h:TRel K kd L a b) (dst:Option Nat):∀ {v v':Value},RelD K kd dst L v v' →
  TRel K kd L (match dst with|some d=>a.setIfInBounds d v|none=>a) (match dst with|some d=>b.setIfInBounds d v'|none=>b):=by
 intro v v' hv;cases dst with
 |none=>exact h
 |some d=>exact h.set hv
theorem y1a {main:Bool} {u w:World} {g1 g':Goroutine} {f:FuncId} {tm tm':Array Value} {td:List Item} {m:FrameMode} {cs cs':List Frame} (hW:WRel K L u w)
  (h1:g1=G (frm f tm td m) (cs ++ lb)) (h2:stepG (wf P F) main g' w=.go (G (frm f tm' (td ++ tail k cs) m) cs') w)
  (ht:TRel K (kdOf f) L tm tm') (hc:td.all (y3a P T (kdOf f))=true) (hS:S f=true) (hs:Stk P S T kdOf K k base L f cs cs') (hm:m=.run∨m=.returning) :
  yj5 P F S T kdOf K k base lb main L u u w g1 g' :=
 ⟨L,_,w,#[],h2,.inl ⟨f,tm,tm',td,m,cs,cs',h1,rfl,ht,hc,hS,hs,hm⟩,.refl hW⟩
theorem y36 {g1 g2:Goroutine} {w1 w2:World} {es:Array Event} (h:GStep.go g1 w1=GStep.go g2 w2 es):g1=g2∧w1=w2:=by
 injection h with a b c
 exact ⟨a,b⟩
theorem y3g {f:FuncId} {fn:Func} {c:Code} (h:P.funcs[f]?=some fn) (hb:fn.body=some c) (az:Array Value) :
  Frame.enter P f az .normal=frm f (az ++ Array.replicate (fn.ntmps - az.size) undef) [.code c] .run:=by
 simp [Frame.enter,frm,h,hb]
theorem TRel.enter {kd:y17} {az az':Array Value} (h:RelPs K L az az') (n:Nat):TRel K kd L (az ++ Array.replicate (n - az.size) undef) (az' ++ Array.replicate (n - az'.size) undef):=by
 have key:∀ (i:Nat) (v v':Value),(az ++ Array.replicate (n - az.size) undef)[i]?=some v->(az' ++ Array.replicate (n - az'.size) undef)[i]?=some v'->RelP K L v v':=by
  intro i v v' h1 h2;rw [Array.getElem?_append] at h1 h2;rw [h.1] at h2;split at h1
  ·rename_i hi
   rw [if_pos hi] at h2;exact h.2 i v v' h1 h2
  ·rename_i hi
   rw [if_neg hi] at h2;rw [Array.getElem?_replicate] at h1 h2;split at h1
   ·split at h2
    ·rw [← zSi h1,← zSi h2]
     exact undef_rel
    ·omega
   ·cases h1
 exact ⟨by simp [h.1],fun i v v' a b=>.val (.part (key i v v' a b)),fun i v v' a b _=>key i v v' a b,fun i v v' a b _=>.part (key i v v' a b)⟩
theorem TRel.enterE {kd:y17} {az az':Array Value} {p m:Nat} (h:RelEs K L p m az az') (hk:∀ i,p≤i->i<p+m->kd i=1) (n:Nat):TRel K kd L (az ++ Array.replicate (n - az.size) undef) (az' ++ Array.replicate (n - az'.size) undef):=by
 have key:∀ (i:Nat) (v v':Value),(az ++ Array.replicate (n - az.size) undef)[i]?=some v->(az' ++ Array.replicate (n - az'.size) undef)[i]?=some v'->RelT K L v v'∧(RelP K L v v'∨kd i=1):=by
  intro i v v' h1 h2;rw [Array.getElem?_append] at h1 h2;rw [h.1] at h2;split at h1
  ·rename_i hi
   rw [if_pos hi] at h2;obtain ⟨q1,q2⟩:=h.2.2 i v v' h1 h2;refine ⟨q1,?_⟩
   by_cases hp:i<p
   ·exact .inl (q2 hp)
   ·exact .inr (hk i (by omega) (by have:=h.2.1;omega))
  ·rename_i hi
   rw [if_neg hi] at h2;rw [Array.getElem?_replicate] at h1 h2;split at h1
   ·split at h2
    ·rw [← zSi h1,← zSi h2]
     exact ⟨undef_rel.t,.inl undef_rel⟩
    ·omega
   ·cases h1
 refine ⟨by simp [h.1],fun i v v' a b=>(key i v v' a b).1,fun i v v' a b h0=>?_,fun i v v' a b h0=>?_⟩
 ·rcases (key i v v' a b).2 with q|q
  ·exact q
  ·omega
 ·rcases (key i v v' a b).2 with q|q
  ·exact .part q
  ·exact absurd q h0
structure y34 (P:Program) (F:Array Func) (S T:FuncId->Bool) (kdOf:FuncId->y17):Prop where
 calm:∀ f,S f=true->y3y P T (kdOf f) f
 same:∀ f,S f=true->F[f]?=P.funcs[f]?
 has:∀ f,T f=true->Has P F f
 clo:∀ p ∈ cloT,T p.1=true->S p.1=true
theorem sim_op (hC:y34 P F S T kdOf) {main:Bool} {f:FuncId} {tm tm':Array Value} {ops:Array Oper} {i:Nat} {rest:List Nat} {td:List Item} {cs cs':List Frame} {u w:World}
    (hW:WRel K L u w) (hT:∀ j q,u.tape (u.drawn+j) q=w.tape (w.drawn+j) q)
    (ht:TRel K (kdOf f) L tm tm') (hc:(Item.inRegion ops (i :: rest) :: td).all (y3a P T (kdOf f))=true) (hS:S f=true) (hs:Stk P S T kdOf K k base L f cs cs')
    {g1:Goroutine} {u1:World} {es:Array Event} (hg:stepG P true (G (frm f tm (.inRegion ops (i :: rest) :: td) .run) (cs ++ lb)) u=.go g1 u1 es) :
    y85 lb g1∨yj5 P F S T kdOf K k base lb main L u u1 w g1 (G (frm f tm' (.inRegion ops (i :: rest) :: (td ++ tail k cs)) .run) cs'):=by
  have hcr:(Item.inRegion ops rest :: td).all (y3a P T (kdOf f))=true:=by
    simp only [List.all_cons,Bool.and_eq_true,y3a] at hc ⊢;exact hc
  have hy:=ht.yielded ops;have hy:yielded ops tm'=yielded ops tm:=funext hy;have skip:((ops[i]?).map (Region.wanted · (yielded ops tm))).getD false=false →
      y85 lb g1∨yj5 P F S T kdOf K k base lb main L u u1 w g1 (G (frm f tm' (.inRegion ops (i :: rest) :: (td ++ tail k cs)) .run) cs'):=by
    intro hk;rw [y6a true f tm ops i rest td _ u hk] at hg;obtain ⟨rfl,rfl⟩:=y36 hg;refine .inr (y1a hW rfl (y6a main f tm' ops i rest _ cs' w (by rw [hy];exact hk)) (ht.put2 _ (RelD.part undef_rel)) hcr hS hs (.inl rfl))
  cases ho:ops[i]? with
  | none=>exact skip (by rw [ho];rfl)
  | some o =>
    cases hw:Region.wanted o (yielded ops tm) with
    | false=>exact skip (by rw [ho];simpa using hw)
    | true =>
      have hcalm:y5o P T (kdOf f) o=true:=by
        simp only [List.all_cons,Bool.and_eq_true,y3a] at hc;exact Array.all_eq_true_iff_forall_mem.1 hc.1 o (Array.mem_of_getElem? ho)
      have he:=ht.ev (hC.calm f hS).two (fr:=frm f tm (.inRegion ops (i :: rest) :: td) .run) (fr':=frm f tm' (.inRegion ops (i :: rest) :: (td ++ tail k cs)) .run) rfl rfl;have hr:=yd7 hcalm (hC.calm f hS).two hC.has he;rw [yb5 true f tm ops i rest td _ u o ho hw] at hg;have hstep:=yb5 (P:=wf P F) main f tm' ops i rest (td ++ tail k cs) cs' w o ho (by rw [hy];exact hw);cases hrun:(execOp (frm f tm (.inRegion ops (i :: rest) :: td) .run).eval o).run P u with
      | halt hh u' =>
        rcases y4u (P:=P) (f:=f) (tm:=tm) (ops:=ops) (i:=i) (rest:=rest) (td:=td) (cs:=cs ++ lb) (hr.halts u w hW hh u' hrun) hrun with ⟨o1,u2,es2,h1⟩|⟨ch,u2,es2,h1⟩
        · rw [h1] at hg
          cases hg
        · rw [h1] at hg
          injection hg with h2 _ _
          exact .inl ⟨_,cs,ch,h2.symm,rfl,rfl,hs.bare⟩
      | ok a u' =>
        right;obtain ⟨L',a',w',es',hR⟩:=hr.runs u w hW hT a u' hrun;have hrt:∃ e0,(execOp (frm f tm (.inRegion ops (i :: rest) :: td) .run).eval o).runT P u #[]=(.ok a u',e0):=⟨_,by rw [Sem.runT_eq,hrun]⟩
        obtain ⟨e0,hrt⟩:=hrt;have hrt':=hR.run #[];rw [Array.empty_append] at hrt';have hval:=hR.val;have hp:=hR.step.pre;have ht':=ht.mono hp;have hs':=hs.mono hp;have hmoved:∀ es2,(∀ e ∈ es2,e ∈ es')->Moved K L L' u u' w w' es2:=fun es2 h2=>⟨hR.step,hR.rel,fun e he=>hR.evs e (h2 e he),hR.drawn,hR.tape⟩
        have hdst:(ops[i]?).bind (·.dst)=o.dst:=by rw [ho];rfl
        cases a with
        | value v =>
          cases a' with
          | value v' =>
            rw [y3t hrt (.inl ⟨v,rfl⟩)] at hg;injection hg with h1 h2 h3
            subst h1 h2;refine ⟨L',_,w',_,hstep.trans (y3t hrt' (.inl ⟨v',rfl⟩)),?_,hmoved _ (fun e he=>y4a he)⟩;simp only [ybv,y30,hdst];exact .inl ⟨f,_,_,_,_,cs,cs',rfl,rfl,ht'.put2 _ hval,hcr,hS,hs',.inl rfl⟩
          | _=>exact hval.elim
        | skip =>
          cases a' with
          | skip =>
            rw [y3t hrt (.inr (.inl rfl))] at hg;injection hg with h1 h2 h3
            subst h1 h2;refine ⟨L',_,w',_,hstep.trans (y3t hrt' (.inr (.inl rfl))),?_,hmoved _ (fun e he=>y4a he)⟩;simp only [ybv,y30,hdst];exact .inl ⟨f,_,_,_,_,cs,cs',rfl,rfl,ht'.put2 _ (RelD.part undef_rel),hcr,hS,hs',.inl rfl⟩
          | _=>exact hval.elim
        | enter fe az =>
          cases a' with
          | enter fe' az' =>
            obtain ⟨rfl,hSe,has,hd,hz⟩:=hval;rw [y3t hrt (.inr (.inr ⟨_,_,rfl⟩))] at hg;injection hg with h1 h2 h3
            subst h1 h2;have hstk:Stk P S T kdOf K k base L' fe' (frm f tm (.inRegion ops (i :: rest) :: td) .run :: cs) (frm f tm' (.inRegion ops (i :: rest) :: (td ++ tail k cs)) .run :: cs'):=.cons ht' ho hd hc hS hs';refine ⟨L',_,w',_,hstep.trans (y3t hrt' (.inr (.inr ⟨_,_,rfl⟩))),?_,hmoved _ (fun e he=>y4a he)⟩;cases hSS:S fe' with
            | false =>
              rcases hz with ⟨hps,hz⟩|⟨n,hn⟩
              rotate_left
              · have:=hC.clo _ hn hSe
                rw [hSS] at this;cases this
              exact .inr ⟨fe',az,az',frm f tm (.inRegion ops (i :: rest) :: td) .run :: cs,frm f tm' (.inRegion ops (i :: rest) :: (td ++ tail k cs)) .run :: cs',hSS,hSe,rfl,rfl,hps,by simp,hz,hstk⟩
            | true =>
              obtain ⟨fn,c,hf,hb,hnm,hcode,hres,hpar⟩:=(hC.calm fe' hSS).fn;have hfq:(wf P F).funcs[fe']?=some fn:=(hC.same fe' hSS).trans hf;have ep:parN P fe'=fn.params.size:=by unfold parN;rw [hf]
              have ef:freN P fe'=fn.nfree:=by unfold freN;rw [hf]
              rw [ep,ef] at has;simp only [ybv,y3g hf hb,y3g hfq hb];refine .inl ⟨fe',_,_,[.code c],.run,frm f tm (.inRegion ops (i :: rest) :: td) .run :: cs,frm f tm' (.inRegion ops (i :: rest) :: (td ++ tail k cs)) .run :: cs',rfl,rfl,.enterE has hpar.2 fn.ntmps,by simp [y3a,hcode],hSS,hstk,.inl rfl⟩
          | _=>exact hval.elim
        | _=>cases a'<;>exact hval.elim
theorem y8h (hC:y34 P F S T kdOf) {main:Bool} {g g':Goroutine} {u w:World} (h:Sims P S T kdOf K k base lb L g g') (hW:WRel K L u w) (hT:∀ j q,u.tape (u.drawn+j) q=w.tape (w.drawn+j) q)
  (hn:¬ Fin lb g) {g1:Goroutine} {u1:World} {es:Array Event} (hg:stepG P true g u=.go g1 u1 es) :
  y85 lb g1∨yj5 P F S T kdOf K k base lb main L u u1 w g1 g':=by
 obtain ⟨f,tm,tm',td,m,cs,cs',rfl,rfl,ht,hc,hS,hs,hm⟩:=h;rcases hm with rfl|rfl
 ·cases td with
  |nil =>
   cases cs with
   |nil=>exact absurd ⟨rfl,.inr ⟨rfl,rfl⟩⟩ hn
   |cons c cs =>
    rw [y5q] at hg;obtain ⟨rfl,rfl⟩:=y36 hg;exact .inr (y1a hW rfl (by rw [yfa];exact y5q main f tm' cs' w) ht hc hS hs (.inr rfl))
  |cons it td =>
   have hc0:=hc;simp only [List.all_cons,Bool.and_eq_true] at hc;obtain ⟨h1,h2⟩:=hc;rw [List.cons_append];cases it with
   |code c =>
    cases c with
    |skip =>
     rw [yb4] at hg;obtain ⟨rfl,rfl⟩:=y36 hg;exact .inr (y1a hW rfl (yb4 main f tm' _ cs' w) ht h2 hS hs (.inl rfl))
    |ret =>
     rw [yff] at hg;obtain ⟨rfl,rfl⟩:=y36 hg;exact .inr (y1a hW rfl (yff main f tm' _ cs' w) ht hc0 hS hs (.inr rfl))
    |exit id =>
     rw [y6e] at hg;cases hx:exitTo id td with
     |none=>rw [hx] at hg;cases hg
     |some r =>
      rw [hx] at hg;obtain ⟨rfl,rfl⟩:=y36 hg;refine .inr (y1a (td:=r) hW rfl ?_ ht (y5n td r hx h2) hS hs (.inl rfl));rw [y6e,y5m td r _ hx]
    |region id ops d =>
     have hops:(Item.inRegion ops [] :: td).all (y3a P T (kdOf f))=true:=by simp only [List.all_cons,Bool.and_eq_true];exact ⟨h1,h2⟩
     cases d with
     |false =>
      rw [y6b] at hg;obtain ⟨rfl,rfl⟩:=y36 hg;exact .inr (y1a hW rfl (y6b main f tm' id ops _ cs' w) ht hops hS hs (.inl rfl))
     |true =>
      rw [yb7] at hg;obtain ⟨rfl,rfl⟩:=y36 hg;have e0:=hT 0 (.order f id);rw [Nat.add_zero,Nat.add_zero] at e0;rw [e0];refine .inr ⟨L,_,_,#[],yb7 main f tm' id ops _ cs' w,.inl ⟨f,tm,tm',_,.run,cs,cs',rfl,rfl,ht,hops,hS,hs,.inl rfl⟩,?_⟩;exact ⟨⟨rfl,rfl,rfl,rfl,List.prefix_refl L,fun j b hj hl=>by have:=(List.getElem?_eq_some_iff.1 hj).1;omega,fun _ _ _ _=>rfl⟩,hW.congr rfl rfl rfl rfl rfl rfl,by simp,⟨1,rfl,rfl⟩,rfl⟩
    |seq a b =>
     simp only [y3a,codeB,Bool.and_eq_true] at h1;rw [yfe] at hg;obtain ⟨rfl,rfl⟩:=y36 hg;exact .inr (y1a hW rfl (yfe main f tm' a b _ cs' w) ht (by simp only [List.all_cons,Bool.and_eq_true];exact ⟨h1.1,h1.2,h2⟩) hS hs (.inl rfl))
    |cond x a b =>
     simp only [y3a,codeB,Bool.and_eq_true] at h1;rw [yb8] at hg;have he:=(ht.ev (hC.calm f hS).two (fr:=frm f tm (.code (.cond x a b) :: td) .run) (fr':=frm f tm' (.code (.cond x a b) :: (td ++ tail k cs)) .run) rfl rfl).val x h1.1.1;have hsc:=yb8 (P:=wf P F) main f tm' x a b (td ++ tail k cs) cs' w;revert he hg hsc;generalize (frm f tm (.code (.cond x a b) :: td) .run).eval x=v;generalize (frm f tm' (.code (.cond x a b) :: (td ++ tail k cs)) .run).eval x=v';intro hg he hsc;have sv:=he.shp;cases sv
     case bool t =>
      obtain ⟨rfl,rfl⟩:=y36 hg;refine .inr (y1a hW rfl hsc ht ?_ hS hs (.inl rfl));simp only [List.all_cons,Bool.and_eq_true];refine ⟨?_,h2⟩;cases t
      ·exact h1.2
      ·exact h1.1.2
     all_goals cases hg
    |block id c =>
     rw [y8i] at hg;obtain ⟨rfl,rfl⟩:=y36 hg;refine .inr (y1a hW rfl (y8i main f tm' id c _ cs' w) ht ?_ hS hs (.inl rfl));simp only [List.all_cons,Bool.and_eq_true];exact ⟨h1,rfl,h2⟩
    |loop c =>
     rw [yb6] at hg;obtain ⟨rfl,rfl⟩:=y36 hg;refine .inr (y1a hW rfl (yb6 main f tm' c _ cs' w) ht ?_ hS hs (.inl rfl));simp only [List.all_cons,Bool.and_eq_true];exact ⟨h1,h1,h2⟩
    |_=>cases h1
   |inBlock id =>
    rw [y5e] at hg;obtain ⟨rfl,rfl⟩:=y36 hg;exact .inr (y1a hW rfl (y5e main f tm' id _ cs' w) ht h2 hS hs (.inl rfl))
   |inLoop c =>
    rw [y6d] at hg;obtain ⟨rfl,rfl⟩:=y36 hg;refine .inr (y1a hW rfl (y6d main f tm' c _ cs' w) ht ?_ hS hs (.inl rfl));simp only [List.all_cons,Bool.and_eq_true];exact ⟨h1,h1,h2⟩
   |inRegion ops todo =>
    cases todo with
    |nil =>
     rw [y6c] at hg;obtain ⟨rfl,rfl⟩:=y36 hg;exact .inr (y1a hW rfl (y6c main f tm' ops _ cs' w) ht h2 hS hs (.inl rfl))
    |cons i rest=>exact sim_op hC hW hT ht hc0 hS hs hg
   |_=>cases h1
 ·cases hs with
  |nil=>exact absurd ⟨rfl,.inl rfl⟩ hn
  |@cons f g tm1 tm1' ops i rest td1 cs1 cs1' o ht1 ho hd hc1 hS1 hs1 =>
   obtain ⟨fn,c,hf,hb,hnm,hcode,hres,hpar⟩:=(hC.calm f hS).fn;rw [List.cons_append,y1r true f tm td _ _ u hf] at hg;have hfq:(wf P F).funcs[f]?=some fn:=(hC.same f hS).trans hf;have hstep:=y1r (P:=wf P F) main f tm' (td ++ tail k (frm g tm1 (.inRegion ops (i :: rest) :: td1) .run :: cs1)) (frm g tm1' (.inRegion ops (i :: rest) :: (td1 ++ tail k cs1)) .run) cs1' w hfq;have hr:=y3n (P:=P) (F:=F) ht hres;rw [Sem.runT_eq] at hg;cases hrun:(results fn tm).run P u with
   |halt hh u' =>
    rw [hrun] at hg;cases hh<;>simp only [GStep.after] at hg<;>cases hg
   |ok v u' =>
    rw [hrun] at hg;obtain ⟨L',v',w',es',hR⟩:=hr.runs u w hW hT v u' hrun;have hrt':=hR.run #[];rw [Array.empty_append] at hrt';rw [hrt'] at hstep;simp only [GStep.after] at hg hstep;injection hg with h1 h2 h3
    subst h1 h2;have hval:=hR.val;have hp:=hR.step.pre;have hdst:(ops[i]?).bind (·.dst)=o.dst:=by rw [ho];rfl
    refine .inr ⟨L',_,w',_,hstep,?_,hR.step,hR.rel,fun e he=>hR.evs e (y4a (by simpa using he)),hR.drawn,hR.tape⟩;have hcr:(Item.inRegion ops rest :: td1).all (y3a P T (kdOf g))=true:=by
     simp only [List.all_cons,Bool.and_eq_true,y3a] at hc1 ⊢;exact hc1
    have hvd:RelD K (kdOf g) o.dst L' v v':=by
     have hone:oneB P f=(fn.results.size == 1):=by simp [oneB,hf]
     rw [hone] at hd
     by_cases h1:(fn.results.size == 1)=true
     ·rw [if_pos h1] at hval
      exact RelD.part hval
     ·rw [if_neg h1] at hval hd
      exact RelD.tuple hval hd
    simp only [y30,hdst];exact .inl ⟨g,_,_,_,_,cs1,cs1',rfl,rfl,(ht1.mono hp).put2 _ hvd,hcr,hS1,hs1.mono hp,.inl rfl⟩
end
end Go.Tr
namespace Go.Tr
open Go.Conc (G)
def retape (u:World) (τ:Nat->Question->Nat):World:={ u with tape:=τ }
theorem y27 (u:World) (τ σ:Nat->Question->Nat):retape (retape u τ) σ=retape u σ:=rfl
structure Retaped {α:Type} (P:Program) (s:Sem α) (u:World) (a:α) (u':World):Prop where
 drawn:u.drawn≤u'.drawn
 tape:u'.tape=u.tape
 run:∀ τ,(∀ j q,u.drawn≤j->j<u'.drawn->τ j q=u.tape j q)->s.run P (retape u τ)=.ok a (retape u' τ)
section
variable {P:Program} {F:Array Func} {K:Cfg} {α:Type} {RA:List Nat->α->α->Prop} {L:List Nat} {s s':Sem α}
theorem RelS.retape (h:RelS P F K RA L s s'):∀ (u w:World),WRel K L u w->∀ a u',s.run P u=.ok a u'->Retaped P s u a u':=by
 induction h with
 |@pure L a0 a0' hv =>
  intro u w hW a u' hr;simp only [Sem.run] at hr;injection hr with h1 h2
  subst h1 h2;exact ⟨zLe _,rfl,fun τ _=>rfl⟩
 |@load L a a' sh k k' hb ho hs _ ih =>
  intro u w hW r u' hr;simp only [Sem.run] at hr;rcases hW.obj hb with ⟨c,c',e,e1,fr,fr',h1,h2,h3,_,_⟩|⟨es,es',cl,h1,_,_,_,_⟩|⟨st,pp,h1,h2,hm,hb0⟩
  ·have hcell:=y1z h1
   rw [hcell] at hr;have far:∀ {r u'},(match u.farLoad P a (Mode.plain == Mode.atomic) with|.ok (v,_)=>(k v).run P u|.error h=>.halt h u)=Result.ok r u'->False:=by
    intro r u' hr;obtain ⟨x,hx,_⟩:=y1w (P:=P) (b:=(Mode.plain == Mode.atomic)) h1 (.inl ⟨_,_,_,rfl⟩);simp only [hx] at hr;cases hr
   by_cases hsp:a.spot.isSome
   ·rw [if_pos hsp] at hr
    exact (far hr).elim
   ·rw [if_neg hsp] at hr hcell
    cases hv:c[a.off]? with
    |none=>rw [hv] at hr;exact (far hr).elim
    |some v =>
     rw [hv] at hr;obtain ⟨v1,hv1,hr1⟩:=h3 a.off v hv;have hR:=ih v v1 hr1 u w hW r u' hr;refine ⟨hR.drawn,hR.tape,fun τ hτ=>?_⟩;have:=hR.run τ hτ;have hc2:(Go.Tr.retape u τ).cell? a=some v:=by rw [← hv];exact hcell
     simp only [Sem.run,hc2];exact this
  ·rw [y3s h1] at hr
   obtain ⟨x,hx,_⟩:=y1w (P:=P) (b:=(Mode.plain == Mode.atomic)) h1 (.inr (.inl ⟨_,_,rfl⟩));simp only [hx] at hr;cases hr
  ·rw [y3h h1] at hr
   obtain ⟨x,hx,_⟩:=y1w (P:=P) (b:=(Mode.plain == Mode.atomic)) h1 (.inr (.inr ⟨_,_,rfl⟩));simp only [hx] at hr;cases hr
 |@store L a a' sh v v' k k' hb ho hs hv _ ih =>
  intro u w hW r u' hr;rcases hv.plain with hpl|⟨rfl,rfl⟩
  case inr =>
   simp only [Sem.run] at hr;cases hr
  rw [y4x hpl.1] at hr;rcases hW.obj hb with ⟨c,c',e,e1,fr,fr',h1,h2,h3,h4,h5⟩|⟨es,es',cl,h1,_,_,_,_⟩|⟨st,pp,h1,h2,hm,hb0⟩
  ·have hcell:=y1z h1
   rw [hcell] at hr;have far:∀ {r u'},(match u.farStore P a v false with|.ok (w,_)=>k.run P w|.error h=>.halt h u)=Result.ok r u'->False:=by
    intro hh u' hr;obtain ⟨x,hx,_⟩:=y2b (P:=P) (v:=v) (b:=false) h1 (.inl ⟨_,_,_,rfl⟩);simp only [hx] at hr;cases hr
   by_cases hsp:a.spot.isSome
   ·rw [if_pos hsp] at hr
    exact (far hr).elim
   ·rw [if_neg hsp] at hr hcell
    cases hx:c[a.off]? with
    |none=>rw [hx] at hr;exact (far hr).elim
    |some x =>
     rw [hx] at hr;cases hf:u.frozen? a with
     |true=>simp only [hf,if_true] at hr;cases hr
     |false =>
      simp only [hf,Bool.false_eq_true,if_false] at hr;have hlt:a.off<c.size:=(zGe hx).1;replace h2:=h2 (Nat.lt_of_le_of_lt (Nat.zero_le _) hlt);have hown:In K L a'.block∨K.Wr a'.block:=by
       apply Classical.byContradiction;intro hno;have:=h5 hno;rw [y2s h1,this] at hf;simp [hlt] at hf
      obtain ⟨rfl,hb0,rfl,h3s,hfr⟩:=h4 hown;rw [Nat.add_zero] at ho;have hspf:a.spot.isSome=false:=by simpa using hsp
      have hspf':a'.spot.isSome=false:=by rw [hs];exact hspf
      have hWr':WRel K L (u.setCell a v) (w.setCell a' v'):=hW.put hb0 (y1n u a v h1) (y1n w a' v' h2) (by simp [World.setCell]) (by simp [World.setCell]) rfl rfl rfl rfl (by
       rw [hspf,hspf',ho];simp only [Bool.false_eq_true,if_false];subst hfr;rcases Classical.em (In K L a'.block) with hm|hm
       ·exact .inl ⟨hm,.cells (h3s.set hv a.off)⟩
       ·refine .inr ⟨_,_,_,_,_,rfl,rfl,h3s.set hv a.off,rfl,?_,hm⟩
        rcases hb0 with ⟨_,_,e⟩|⟨j,_,hj,hnn⟩
        ·exact e ▸ hown.resolve_left hm
        ·exact absurd ⟨List.mem_iff_getElem?.2 ⟨j,hj⟩,hnn⟩ hm)
      have hR:=ih _ _ hWr' r u' hr;refine ⟨hR.drawn,hR.tape,fun τ hτ=>?_⟩;have:=hR.run τ hτ;have hc2:(Go.Tr.retape u τ).cell? a=some x:=by rw [← hx];exact hcell
      have hf2:(Go.Tr.retape u τ).frozen? a=false:=hf;rw [y4x hpl.1,hc2];simp only [hf2,Bool.false_eq_true,if_false];exact this
  ·rw [y3s h1] at hr
   obtain ⟨x,hx,_⟩:=y2b (P:=P) (v:=v) (b:=false) h1 (.inr (.inl ⟨_,_,rfl⟩));simp only [hx] at hr;cases hr
  ·rw [y3h h1] at hr
   obtain ⟨x,hx,_⟩:=y2b (P:=P) (v:=v) (b:=false) h1 (.inr (.inr ⟨_,_,rfl⟩));simp only [hx] at hr;cases hr
 |@new L o o' k k' ho _ ih =>
  intro u w hW a u' hr;have hr0:=hr;simp only [Sem.run,hW.usize] at hr;have hR:=ih w.heap.size hW.wsize _ _ (hW.push ho) a u' hr;refine ⟨hR.drawn,hR.tape,fun τ hτ=>?_⟩;have:=hR.run τ hτ;have hsz:(Go.Tr.retape u τ).heap.size=K.N+L.length:=hW.usize;simp only [Sem.run,hsz];exact this
 |@getMap L r r' k k' hb hi _ ih =>
  intro u w hW a u' hr;simp only [Sem.run] at hr;rcases hW.obj hb with ⟨c,c',e,e1,fr,fr',h1,h2,h3,_,_⟩|⟨es0,es0',cl,h1,h2,h3,hm,hb0⟩|⟨st,pp,h1,h2,hm,hb0⟩
  ·simp only [h1] at hr
   cases hr
  ·simp only [h1] at hr
   have hR:=ih es0 es0' cl h3 u w hW a u' hr;refine ⟨hR.drawn,hR.tape,fun τ hτ=>?_⟩;have:=hR.run τ hτ;have h2:(Go.Tr.retape u τ).heap[r]?=some (.map es0 cl):=h1;simp only [Sem.run,h2];exact this
  ·simp only [h1] at hr
   obtain ⟨x,y,e,hc⟩:=hi st pp u;rw [e] at hr;cases hr
 |@getIter L r r' k k' hb hi _ ih =>
  intro u w hW a u' hr;simp only [Sem.run] at hr;rcases hW.obj hb with ⟨c,c',e,e1,fr,fr',h1,h2,h3,_,_⟩|⟨es0,es0',cl,h1,h2,h3,hm,hb0⟩|⟨st,pp,h1,h2,hm,hb0⟩
  ·simp only [h1] at hr
   cases hr
  ·simp only [h1] at hr
   obtain ⟨x,y,e,hc⟩:=hi es0 cl u;rw [e] at hr;cases hr
  ·simp only [h1] at hr
   have hR:=ih st pp u w hW a u' hr;refine ⟨hR.drawn,hR.tape,fun τ hτ=>?_⟩;have:=hR.run τ hτ;have h2:(Go.Tr.retape u τ).heap[r]?=some (.stringIter st pp):=h1;simp only [Sem.run,h2];exact this
 |@getOdd L r r' s k t' ho =>
  intro u w hW a u' hr;obtain ⟨c,e,fr,h1⟩:=hW.odd ho;simp only [Sem.run,h1] at hr;cases hr
 |@setIter L r r' st0 p0 k k' hb _ ih =>
  intro u w hW a u' hr;simp only [Sem.run] at hr;rcases hW.obj hb with ⟨c,c',e,e1,fr,fr',h1,h2,h3,_,_⟩|⟨es0,es0',cl,h1,h2,h3,hm,hb0⟩|⟨st,pp,h1,h2,hm,hb0⟩
  ·simp only [h1] at hr
   cases hr
  ·simp only [h1] at hr
   have hWr':WRel K L { u with heap:=u.heap.setIfInBounds r (.stringIter st0 p0) } { w with heap:=w.heap.setIfInBounds r' (.stringIter st0 p0) } :=
    hW.put hb0 (y0k u r _ h1) (y0k w r' _ h2) (by simp) (by simp) rfl rfl rfl rfl (.inl ⟨hm,.iter⟩)
   have hR:=ih _ _ hWr' a u' hr;refine ⟨hR.drawn,hR.tape,fun τ hτ=>?_⟩;have:=hR.run τ hτ;have h2:(Go.Tr.retape u τ).heap[r]?=some (.map es0 cl):=h1;simp only [Sem.run,h2];exact this
  ·simp only [h1] at hr
   have hWr':WRel K L { u with heap:=u.heap.setIfInBounds r (.stringIter st0 p0) } { w with heap:=w.heap.setIfInBounds r' (.stringIter st0 p0) } :=
    hW.put hb0 (y0k u r _ h1) (y0k w r' _ h2) (by simp) (by simp) rfl rfl rfl rfl (.inl ⟨hm,.iter⟩)
   have hR:=ih _ _ hWr' a u' hr;refine ⟨hR.drawn,hR.tape,fun τ hτ=>?_⟩;have:=hR.run τ hτ;have h2:(Go.Tr.retape u τ).heap[r]?=some (.stringIter st pp):=h1;simp only [Sem.run,h2];exact this
 |@setMap L r r' es es' clock k k' hb he _ ih =>
  intro u w hW a u' hr;simp only [Sem.run] at hr;rcases hW.obj hb with ⟨c,c',e,e1,fr,fr',h1,h2,h3,_,_⟩|⟨es0,es0',cl,h1,h2,h3,hm,hb0⟩|⟨st,pp,h1,h2,hm,hb0⟩
  ·simp only [h1] at hr
   cases hr
  ·simp only [h1] at hr
   have hWr':WRel K L { u with heap:=u.heap.setIfInBounds r (.map es clock) } { w with heap:=w.heap.setIfInBounds r' (.map es' clock) } :=
    hW.put hb0 (y0k u r _ h1) (y0k w r' _ h2) (by simp) (by simp) rfl rfl rfl rfl (.inl ⟨hm,.map he⟩)
   have hR:=ih _ _ hWr' a u' hr;refine ⟨hR.drawn,hR.tape,fun τ hτ=>?_⟩;have:=hR.run τ hτ;have h2:(Go.Tr.retape u τ).heap[r]?=some (.map es0 cl):=h1;simp only [Sem.run,h2];exact this
  ·simp only [h1] at hr
   have hWr':WRel K L { u with heap:=u.heap.setIfInBounds r (.map es clock) } { w with heap:=w.heap.setIfInBounds r' (.map es' clock) } :=
    hW.put hb0 (y0k u r _ h1) (y0k w r' _ h2) (by simp) (by simp) rfl rfl rfl rfl (.inl ⟨hm,.map he⟩)
   have hR:=ih _ _ hWr' a u' hr;refine ⟨hR.drawn,hR.tape,fun τ hτ=>?_⟩;have:=hR.run τ hτ;have h2:(Go.Tr.retape u τ).heap[r]?=some (.stringIter st pp):=h1;simp only [Sem.run,h2];exact this
 |@choose L q k k' _ ih =>
  intro u w hW a u' hr;simp only [Sem.run] at hr
  by_cases hq:q.forced=true
  ·rw [if_pos hq] at hr
   have hR:=ih 0 u w hW a u' hr;refine ⟨hR.drawn,hR.tape,fun τ hτ=>?_⟩;simp only [Sem.run,hq,if_true];exact hR.run τ hτ
  ·rw [if_neg hq] at hr
   have hR:=ih _ { u with drawn:=u.drawn+1 } w (hW.congr rfl rfl rfl rfl rfl rfl) a u' hr;have hd:u.drawn+1≤u'.drawn:=hR.drawn;refine ⟨by omega,hR.tape,fun τ hτ=>?_⟩;have:=hR.run τ (fun j q h1 h2=>hτ j q (by have:u.drawn+1≤j:=h1;omega) h2);have e0:(Go.Tr.retape u τ).tape (Go.Tr.retape u τ).drawn q=u.tape u.drawn q:=hτ u.drawn q (zLe _) (by omega);simp only [Sem.run,hq,e0];exact this
 |@program L k k' _ ih =>
  intro u w hW a u' hr;have hR:=ih u w hW a u' hr;exact ⟨hR.drawn,hR.tape,fun τ hτ=>hR.run τ hτ⟩
 |@room L k k' _ ih =>
  intro u w hW a u' hr;have hR:=ih u w hW a u' hr;exact ⟨hR.drawn,hR.tape,fun τ hτ=>hR.run τ hτ⟩
 |@doomed L s s' hd =>
  intro u w hW a u' hr;obtain ⟨x,y,e,hc⟩:=hd u;rw [e] at hr;cases hr
end
end Go.Tr
namespace Go.Tr
open Go.Conc (G)
def c0:Frame:={ fn:=0,tmps:=#[],todo:=[],defers:=[{ target:=.nil,args:=#[] }],mode:=.panicking [],kind:=.normal }
structure LoneStep (P:Program) (h:Goroutine) (u:World) (fr1:Frame) (cs1:List Frame) (u1:World):Prop where
 drawn:u.drawn≤u1.drawn
 tape:u1.tape=u.tape
 run:∀ τ,(∀ j q,u.drawn≤j->j<u1.drawn->τ j q=u.tape j q)->∃ es,stepG P true h (retape u τ)=.go (G fr1 cs1) (retape u1 τ) es
section
variable {P:Program} {F:Array Func} {S Tc:FuncId->Bool} {kdOf:FuncId->y17} {K:Cfg} {k:List Item} {base lb:List Frame} {L:List Nat}
theorem LoneStep.still {h:Goroutine} {u:World} {fr1:Frame} {cs1:List Frame} (hh:∀ τ,stepG P true h (retape u τ)=.go (G fr1 cs1) (retape u τ)):LoneStep P h u fr1 cs1 u :=
 ⟨zLe _,rfl,fun τ _=>⟨#[],hh τ⟩⟩
inductive Kind (P:Program) (lb:List Frame) (g:Goroutine) (u:World):Prop
 |ended {o:Outcome} {u1:World} {es:Array Event}:stepG P true g u=.ended o u1 es->Kind P lb g u
 |panics {g1:Goroutine} {u1:World} {es:Array Event}:stepG P true g u=.go g1 u1 es->y85 lb g1->Kind P lb g u
 |goes {fr1:Frame} {cs1:List Frame} {u1:World}:LoneStep P g u fr1 cs1 u1->Kind P lb g u
theorem kind_op (hC:y34 P F S Tc kdOf) {f:FuncId} {tm tm':Array Value} {ops:Array Oper} {i:Nat} {rest:List Nat} {td:List Item} {cs cs':List Frame} {u w:World}
    (hW:WRel K L u w) (ht:TRel K (kdOf f) L tm tm') (hc:(Item.inRegion ops (i :: rest) :: td).all (y3a P Tc (kdOf f))=true) (hS:S f=true) (hs:Stk P S Tc kdOf K k base L f cs cs') :
    Kind P lb (G (frm f tm (.inRegion ops (i :: rest) :: td) .run) (cs ++ lb)) u:=by
  have skip:((ops[i]?).map (Region.wanted · (yielded ops tm))).getD false=false->Kind P lb (G (frm f tm (.inRegion ops (i :: rest) :: td) .run) (cs ++ lb)) u:=by
    intro hk;exact .goes (.still fun τ=>y6a true f tm ops i rest td _ _ hk)
  cases ho:ops[i]? with
  | none=>exact skip (by rw [ho];rfl)
  | some o =>
    cases hw:Region.wanted o (yielded ops tm) with
    | false=>exact skip (by rw [ho];simpa using hw)
    | true =>
      have hcalm:y5o P Tc (kdOf f) o=true:=by
        simp only [List.all_cons,Bool.and_eq_true,y3a] at hc;exact Array.all_eq_true_iff_forall_mem.1 hc.1 o (Array.mem_of_getElem? ho)
      have he:=ht.ev (hC.calm f hS).two (fr:=frm f tm (.inRegion ops (i :: rest) :: td) .run) (fr':=frm f tm' (.inRegion ops (i :: rest) :: (td ++ tail k cs)) .run) rfl rfl;have hr:=yd7 hcalm (hC.calm f hS).two hC.has he;have hg:=fun u=>yb5 (P:=P) true f tm ops i rest td (cs ++ lb) u o ho hw
      cases hrun:(execOp (frm f tm (.inRegion ops (i :: rest) :: td) .run).eval o).run P u with
      | halt hh u' =>
        rcases y4u (P:=P) (f:=f) (tm:=tm) (ops:=ops) (i:=i) (rest:=rest) (td:=td) (cs:=cs ++ lb) (hr.halts u w hW hh u' hrun) hrun with ⟨o1,u1,es,h1⟩|⟨ch,u1,es,h1⟩
        · exact .ended ((hg u).trans h1)
        · exact .panics ((hg u).trans h1) ⟨_,cs,ch,rfl,rfl,rfl,hs.bare⟩
      | ok a u' =>
        have hT:=hr.retape u w hW a u' hrun;have hwt:∃ a',RelN P K Tc (kdOf f) o.dst L a a'∨∃ L',RelN P K Tc (kdOf f) o.dst L' a a':=by
          obtain ⟨L',a',w',es',hR⟩:=hr.runs u { w with tape:=fun j q=>u.tape (j - w.drawn+u.drawn) q } (hW.congr rfl rfl rfl rfl rfl rfl) (fun j q=>by
            show u.tape (u.drawn+j) q=u.tape (w.drawn+j - w.drawn+u.drawn) q
            congr 1
            omega) a u' hrun
          exact ⟨a',.inr ⟨L',hR.val⟩⟩
        have ha:(∃ v,a=.value v)∨a=.skip∨∃ g az,a=.enter g az:=by
          obtain ⟨a',h|⟨L',h⟩⟩:=hwt<;>cases a<;>cases a'<;>first|exact h.elim|exact .inl ⟨_,rfl⟩|exact .inr (.inl rfl)|exact .inr (.inr ⟨_,_,rfl⟩)
        have key:∀ τ,(∀ j q,u.drawn≤j->j<u'.drawn->τ j q=u.tape j q)->∃ es,stepG P true (G (frm f tm (.inRegion ops (i :: rest) :: td) .run) (cs ++ lb)) (retape u τ)=.go (ybv P (frm f tm (.inRegion ops (i :: rest) :: td) .run) (cs ++ lb) a) (retape u' τ) es:=by
          intro τ hτ;have h1:=hT.run τ hτ;obtain ⟨e0,hrt⟩:∃ e0,(execOp (frm f tm (.inRegion ops (i :: rest) :: td) .run).eval o).runT P (retape u τ) #[]=(.ok a (retape u' τ),e0):=⟨_,by rw [Sem.runT_eq,h1]⟩
          exact ⟨_,(hg _).trans (y3t hrt ha)⟩
        have hn:∃ fr1 cs1,ybv P (frm f tm (.inRegion ops (i :: rest) :: td) .run) (cs ++ lb) a=G fr1 cs1:=by
          rcases ha with ⟨v,rfl⟩|rfl|⟨g,az,rfl⟩<;>exact ⟨_,_,rfl⟩
        obtain ⟨fr1,cs1,hn⟩:=hn;rw [hn] at key;exact .goes ⟨hT.drawn,hT.tape,key⟩
theorem ygm (hC:y34 P F S Tc kdOf) {g g':Goroutine} {u w:World} (h:Sims P S Tc kdOf K k base lb L g g') (hW:WRel K L u w) (hn:¬ Fin lb g):Kind P lb g u:=by
 obtain ⟨f,tm,tm',td,m,cs,cs',rfl,rfl,ht,hc,hS,hs,hm⟩:=h;rcases hm with rfl|rfl
 ·cases td with
  |nil =>
   cases cs with
   |nil=>exact absurd ⟨rfl,.inr ⟨rfl,rfl⟩⟩ hn
   |cons c cs=>exact .goes (.still fun τ=>y5q ..)
  |cons it td =>
   have hc0:=hc;simp only [List.all_cons,Bool.and_eq_true] at hc;obtain ⟨h1,h2⟩:=hc;cases it with
   |code c =>
    cases c with
    |skip=>exact .goes (.still fun τ=>yb4 ..)
    |ret=>exact .goes (.still fun τ=>yff ..)
    |exit id =>
     cases hx:exitTo id td with
     |none=>exact .ended (by rw [y6e,hx])
     |some r=>exact .goes (.still fun τ=>by rw [y6e,hx])
    |region id ops d =>
     cases d with
     |false=>exact .goes (.still fun τ=>y6b ..)
     |true =>
      refine .goes (fr1:=frm f tm (.inRegion ops (Region.schedule (P.follows .mixedOrders) ops (u.tape u.drawn (.order f id))) :: td) .run) (cs1:=cs ++ lb) (u1:={ u with drawn:=u.drawn+1 }) ⟨by simp,rfl,fun τ hτ=>⟨#[],?_⟩⟩;rw [yb7];have e0:(retape u τ).tape (retape u τ).drawn (.order f id)=u.tape u.drawn (.order f id):=hτ u.drawn _ (zLe _) (by simp);rw [e0];rfl
    |seq a b=>exact .goes (.still fun τ=>yfe ..)
    |cond x a b =>
     simp only [y3a,codeB,Bool.and_eq_true] at h1;have he:=(ht.ev (hC.calm f hS).two (fr:=frm f tm (.code (.cond x a b) :: td) .run) (fr':=frm f tm' (.code (.cond x a b) :: (td ++ tail k cs)) .run) rfl rfl).val x h1.1.1;have hsc:=fun u=>yb8 (P:=P) true f tm x a b td (cs ++ lb) u
     revert he hsc;generalize (frm f tm (.code (.cond x a b) :: td) .run).eval x=v;generalize (frm f tm' (.code (.cond x a b) :: (td ++ tail k cs)) .run).eval x=v';intro he hsc;have sv:=he.shp;cases sv
     case bool t=>exact .goes (.still fun τ=>hsc _)
     all_goals exact .ended (hsc u)
    |block id c=>exact .goes (.still fun τ=>y8i ..)
    |loop c=>exact .goes (.still fun τ=>yb6 ..)
    |_=>cases h1
   |inBlock id=>exact .goes (.still fun τ=>y5e ..)
   |inLoop c=>exact .goes (.still fun τ=>y6d ..)
   |inRegion ops todo =>
    cases todo with
    |nil=>exact .goes (.still fun τ=>y6c ..)
    |cons i rest=>exact kind_op hC hW ht hc0 hS hs
   |_=>cases h1
 ·cases hs with
  |nil=>exact absurd ⟨rfl,.inl rfl⟩ hn
  |@cons f g tm1 tm1' ops i rest td1 cs1 cs1' o ht1 ho hd hc1 hS1 hs1 =>
   obtain ⟨fn,c,hf,hb,hnm,hcode,hres,hpar⟩:=(hC.calm f hS).fn;have hstep:=fun u=>y1r (P:=P) true f tm td (frm g tm1 (.inRegion ops (i :: rest) :: td1) .run) (cs1 ++ lb) u hf
   have hr:=y3n (P:=P) (F:=F) ht hres;cases hrun:(results fn tm).run P u with
   |halt hh u' =>
    have:=hstep u;rw [Sem.runT_eq,hrun] at this;cases hh<;>exact .ended this
   |ok v u' =>
    have hT:=hr.retape u w hW v u' hrun;refine .goes (fr1:=(frm g tm1 (.inRegion ops (i :: rest) :: td1) .run).finish v) (cs1:=cs1 ++ lb) (u1:=u') ⟨hT.drawn,hT.tape,fun τ hτ=>?_⟩;have h1:=hT.run τ hτ;have:=hstep (retape u τ);rw [Sem.runT_eq,h1] at this;exact ⟨_,this⟩
end
section
variable {P:Program}
theorem step_go {fr fr1:Frame} {cs cs1:List Frame} {u u1:World} {es:Array Event} (h:stepG P true (G fr cs) u=.go (G fr1 cs1) u1 es):step P (lone fr cs u)=.next (lone fr1 cs1 u1) :=
 step_lone_go (by unfold G at h;rw [h];rfl)
theorem yfb {fr:Frame} {cs:List Frame} {u u1:World} {o:Outcome} {es:Array Event} (h:stepG P true (G fr cs) u=.ended o u1 es):step P (lone fr cs u)=.ended o u1 :=
 step_lone_ended (by unfold G at h;rw [h];rfl)
theorem y1h {fr fr1:Frame} {cs cs1:List Frame} {u u1:World} {es:Array Event} (h:stepG P true (G fr cs) u=.go (G fr1 cs1) u1 es) (n:Nat):runN P (n+1) (lone fr cs u)=runN P n (lone fr1 cs1 u1):=by
 simp only [runN,step_go h]
theorem y1o {fr:Frame} {cs:List Frame} {u u1:World} {o:Outcome} {es:Array Event} (h:stepG P true (G fr cs) u=.ended o u1 es) (n:Nat) (m:Machine):runN P (n+1) (lone fr cs u)≠.next m:=by
 simp only [runN,yfb h];intro e;cases e
theorem y29 {fr fr':Frame} {cs cs':List Frame} {u u':World} (h:lone fr cs u=lone fr' cs' u'):fr=fr'∧cs=cs'∧u=u':=by
 unfold lone at h;injection h with h1 h2 h3
 have:=congrArg (fun a:Array Goroutine=>a[0]?) h2;simp at this;exact ⟨this.1,this.2,h1⟩
theorem y98 (ch:List PanicEntry) (u:World):∃ o u1 es,stepG P true (G { c0 with mode:=.panicking ch } []) u=.ended o u1 es:=by
 show ∃ o u1 es,unwind P true { c0 with mode:=.panicking ch } [] none u=.ended o u1 es;exact ⟨_,_,_,rfl⟩
theorem ycv (n:Nat) {ch:List PanicEntry} {u u':World} {fr:Frame}:runN P n (lone { c0 with mode:=.panicking ch } [] u)≠.next (lone fr [c0] u'):=by
 cases n with
 |zero =>
  intro h;simp only [runN] at h;injection h with h
  exact absurd (y29 h).2.1 (by simp)
 |succ n =>
  obtain ⟨o,u1,es,h⟩:=y98 (P:=P) ch u;exact y1o h n _
theorem y49 {fr:Frame} {cs:List Frame} {ch:List PanicEntry} (u:World) (hm:fr.mode=.panicking ch) (hd:fr.defers=[]) (hc:fr.catches P=true):∃ o u1 es,stepG P true (G fr cs) u=.ended o u1 es:=by
 refine ⟨.unsupported (.noEntry "a panic or Goexit out of a method that fmt calls behind a cut's door") (fr.pos P),u,#[],?_⟩;simp [G,stepG,unwind,hm,hd,hc]
theorem y8s (c:Frame) (ch:List PanicEntry):∃ ch',c.raise ch={ c with mode:=.panicking ch' }:=by
 unfold Frame.raise;split<;>exact ⟨_,rfl⟩
theorem yec:∀ (cs:List Frame) (n:Nat) (fr:Frame) (ch:List PanicEntry) (u u':World) (fr':Frame),fr.mode=.panicking ch->fr.defers=[]->(∀ c ∈ cs,c.defers=[]) →
  (∀ ch,fr'.mode≠.panicking ch)->runN P n (lone fr (cs ++ [c0]) u)≠.next (lone fr' [c0] u'):=by
 intro cs
 induction cs with
 |nil =>
  intro n fr ch u u' fr' hm hd _ hn;cases n with
  |zero =>
   intro h;simp only [runN] at h;injection h with h
   exact hn ch ((y29 h).1 ▸ hm)
  |succ n =>
   by_cases hc:fr.catches P=true
   ·obtain ⟨o,u1,es,he⟩:=y49 (cs:=[c0]) u hm hd hc
    exact y1o he n _
   ·obtain ⟨ch',e⟩:=y8s c0 ch
    rw [List.nil_append,y1h (fr1:={ c0 with mode:=.panicking ch' }) (cs1:=[]) (u1:=u) (es:=#[]) (by simp [G,stepG,unwind,hm,hd,hc,e])];exact ycv n
 |cons c cs ih =>
  intro n fr ch u u' fr' hm hd hcs hn;cases n with
  |zero =>
   intro h;simp only [runN] at h;injection h with h
   exact hn ch ((y29 h).1 ▸ hm)
  |succ n =>
   by_cases hc:fr.catches P=true
   ·obtain ⟨o,u1,es,he⟩:=y49 (cs:=c :: cs ++ [c0]) u hm hd hc
    exact y1o he n _
   ·obtain ⟨ch',e⟩:=y8s c ch
    rw [List.cons_append,y1h (fr1:={ c with mode:=.panicking ch' }) (cs1:=cs ++ [c0]) (u1:=u) (es:=#[]) (by simp [G,stepG,unwind,hm,hd,hc,e])];exact ih n _ ch' u u' fr' rfl (hcs c (by simp)) (fun x hx=>hcs x (by simp [hx])) hn
end
end Go.Tr
namespace Go.Tr
open Go.Conc (G)
def FinF (fr:Frame):Prop:=fr.mode=.returning∨(fr.mode=.run∧fr.todo=[])
inductive LT (P:Program) (Post:FuncId->Array Value->World->Prop):Goroutine->World->Prop
 |fin {fr:Frame} {u:World}:FinF fr->(∃ f tm td m fn,fr=frm f tm td m∧P.funcs[f]?=some fn)->Post fr.fn fr.tmps u->LT P Post (G fr [c0]) u
 |step {fr:Frame} {cs:List Frame} {u:World} (nx:(Nat->Question->Nat)->Frame × List Frame × World × Array Event):¬ Fin [c0] (G fr cs) →
   (∀ τ,stepG P true (G fr cs) (retape u τ)=.go (G (nx τ).1 (nx τ).2.1) (retape (nx τ).2.2.1 τ) (nx τ).2.2.2)->(∀ τ,LT P Post (G (nx τ).1 (nx τ).2.1) (nx τ).2.2.1)->LT P Post (G fr cs) u
theorem LT.of_step {P:Program} {Post:FuncId->Array Value->World->Prop} {fr:Frame} {cs:List Frame} {u:World} (hn:¬ Fin [c0] (G fr cs))
  (h:∀ τ,∃ fr1 cs1 u1 es,stepG P true (G fr cs) (retape u τ)=.go (G fr1 cs1) (retape u1 τ) es∧LT P Post (G fr1 cs1) u1):LT P Post (G fr cs) u:=by
 have h':∀ τ,∃ x:Frame × List Frame × World × Array Event,stepG P true (G fr cs) (retape u τ)=.go (G x.1 x.2.1) (retape x.2.2.1 τ) x.2.2.2∧LT P Post (G x.1 x.2.1) x.2.2.1 :=
  fun τ=>let ⟨a,b,c,d,e⟩:=h τ;⟨(a,b,c,d),e⟩
 exact .step (fun τ=>Classical.choose (h' τ)) hn (fun τ=>(Classical.choose_spec (h' τ)).1) (fun τ=>(Classical.choose_spec (h' τ)).2)
structure Reach (P:Program) (fr0:Frame) (u0:World) (n:Nat) (T:Nat->Question->Nat) (fr:Frame) (cs:List Frame) (u:World):Prop where
 run:∀ τ,(∀ j q,j<u.drawn->τ j q=T j q)->runN P n (lone fr0 [c0] (retape u0 τ))=.next (lone fr cs (retape u τ))
 non:∀ i,i<n->∀ τ,(∀ j q,j<u.drawn->τ j q=T j q)->∀ fr' cs' u',runN P i (lone fr0 [c0] (retape u0 τ))=.next (lone fr' cs' u')->¬ Fin [c0] (G fr' cs')
section
variable {P:Program} {F:Array Func} {S Tc:FuncId->Bool} {kdOf:FuncId->y17} {K:Cfg} {k:List Item} {base:List Frame} {L:List Nat} {Post:FuncId->Array Value->World->Prop}
theorem y76 (v:Value):c0.finish v={ c0 with mode:=.panicking [] }:=rfl
theorem ret_c0 {f:FuncId} {tm:Array Value} {td:List Item} {u u':World} {fr:Frame} (n:Nat) {fn:Func} (hf:P.funcs[f]?=some fn):runN P (n+1) (lone (frm f tm td .returning) [c0] u)≠.next (lone fr [c0] u'):=by
 have h:=y1r (P:=P) true f tm td c0 [] u hf;rw [Sem.runT_eq] at h;cases hr:(results fn tm).run P u with
 |ok v u1 =>
  rw [hr] at h;rw [y1h h,y76];exact ycv n
 |halt hh u1 =>
  rw [hr] at h;cases hh<;>exact y1o h n _
theorem yh0 (hC:y34 P F S Tc kdOf) (hST:∀ f,Tc f=true->S f=true) {fr0:Frame} {u0:World} {n:Nat} {T:Nat->Question->Nat} {fr:Frame} {cs:List Frame} {u:World} (hR:Reach P fr0 u0 n T fr cs u) (hP:∀ f t u τ,Post f t u->Post f t (retape u τ))
  {g':Goroutine} (hS:Sims P S Tc kdOf K k base [c0] L (G fr cs) g') (hfin:Fin [c0] (G fr cs))
  (h0:∃ m fr' u',runN P m (lone fr0 [c0] (retape u0 T))=.next (lone fr' [c0] u')∧FinF fr'∧Post fr'.fn fr'.tmps u'):FinF fr∧cs=[c0]∧Post fr.fn fr.tmps u:=by
 obtain ⟨hcs,hfin⟩:=hfin;have hcs:cs=[c0]:=hcs;subst hcs;refine ⟨hfin,rfl,?_⟩;obtain ⟨m,fr',u',hm,hf',hp'⟩:=h0;have hn:=hR.run T (fun _ _ _=>rfl);rcases Nat.lt_trichotomy m n with hlt|rfl|hgt
 ·exact absurd ⟨rfl,hf'⟩ (hR.non m hlt T (fun _ _ _=>rfl) _ _ _ hm)
 ·rw [hn] at hm
  injection hm with hm
  obtain ⟨rfl,_,rfl⟩:=y29 hm;have:=hP _ _ _ u.tape hp';exact this
 ·obtain ⟨d,rfl⟩:∃ d,m=n+(d+1):=⟨m - n - 1,by omega⟩
  rw [runN_add,hn] at hm;obtain ⟨f,tm,tm',td,md,cs1,cs1',hl,_,_,_,hSf,_,hmode⟩:=hS;have hfr:fr=frm f tm td md:=congrArg Goroutine.frame hl;subst hfr;obtain ⟨fn,c,hf,_⟩:=(hC.calm f hSf).fn;rcases hmode with rfl|rfl
  ·have htd:td=[]:=by
    rcases hfin with h|⟨_,h⟩
    ·cases h
    ·exact h
   subst htd;simp only at hm;rw [y1h (y5q true f tm [c0] _)] at hm;cases d with
   |zero =>
    simp only [runN] at hm;injection hm with hm
    obtain ⟨rfl,_,rfl⟩:=y29 hm;have:=hP _ _ _ u.tape hp';exact this
   |succ d=>exact absurd hm (ret_c0 d hf)
  ·exact absurd hm (ret_c0 d hf)
theorem Reach.more (hC:y34 P F S Tc kdOf) (hST:∀ f,Tc f=true->S f=true) {fr0:Frame} {u0:World} {n:Nat} {T:Nat->Question->Nat} {fr:Frame} {cs:List Frame} {u w:World} (hR:Reach P fr0 u0 n T fr cs u)
  {g':Goroutine} (hS:Sims P S Tc kdOf K k base [c0] L (G fr cs) g') (hW:WRel K L u w) (hnf:¬ Fin [c0] (G fr cs)) (τ:Nat->Question->Nat)
  (h0:∀ T,∃ m fr' u',runN P m (lone fr0 [c0] (retape u0 T))=.next (lone fr' [c0] u')∧FinF fr') :
  ∃ T' fr1 cs1 u1,(∀ j q,j<u.drawn->T' j q=T j q)∧u.drawn≤u1.drawn∧Reach P fr0 u0 (n+1) T' fr1 cs1 u1∧(∃ L' g1' w',Sims P S Tc kdOf K k base [c0] L' (G fr1 cs1) g1'∧WRel K L' u1 w') ∧
   ∃ es,stepG P true (G fr cs) (retape u τ)=.go (G fr1 cs1) (retape u1 τ) es:=by
 let T':Nat->Question->Nat:=fun j q=>if j<u.drawn then T j q else τ j q
 have hTT:∀ j q,j<u.drawn->T' j q=T j q:=fun j q hj=>if_pos hj
 have hn:=hR.run T' hTT;have hW':WRel K L (retape u T') w:=hW.congr rfl rfl rfl rfl rfl rfl;obtain ⟨m,fr',u',hm,hf'⟩:=h0 T';have hmn:n<m:=by
  rcases Nat.lt_trichotomy m n with hlt|rfl|hgt
  ·exact absurd ⟨rfl,hf'⟩ (hR.non m hlt T' hTT _ _ _ hm)
  ·rw [hn] at hm
   injection hm with hm
   obtain ⟨rfl,rfl,_⟩:=y29 hm;exact absurd ⟨rfl,hf'⟩ hnf
  ·exact hgt
 obtain ⟨d,rfl⟩:∃ d,m=n+(d+1):=⟨m - n - 1,by omega⟩
 rw [runN_add,hn] at hm;simp only at hm;have hnp:∀ ch,fr'.mode≠.panicking ch:=by
  intro ch e;rcases hf' with h|⟨h,_⟩<;>rw [h] at e<;>cases e
 have nopanic:∀ g1 u1 es,stepG P true (G fr cs) (retape u T')=.go g1 u1 es->y85 [c0] g1->False:=by
  rintro g1 u1 es hs ⟨frp,csp,ch,rfl,h1,h2,h3⟩
  rw [y1h hs] at hm;exact yec csp d frp ch u1 u' fr' h1 h2 h3 hnp hm
 cases ygm hC hS hW' hnf with
 |ended h=>exact absurd hm (y1o h d _)
 |panics h hp=>exact (nopanic _ _ _ h hp).elim
 |@goes fr1 cs1 u1 h =>
  have hdr:u.drawn≤u1.drawn:=h.drawn;obtain ⟨es1,hs1⟩:=h.run T' (fun _ _ _ _=>rfl);have hs1:stepG P true (G fr cs) (retape u T')=.go (G fr1 cs1) (retape u1 T') es1:=hs1;refine ⟨T',fr1,cs1,u1,hTT,hdr,⟨fun σ hσ=>?_,fun i hi σ hσ fr2 cs2 u2 h2=>?_⟩,?_,?_⟩
  ·have hσu:∀ j q,j<u.drawn->σ j q=T j q:=fun j q hj=>by rw [hσ j q (by omega),hTT j q hj]
   rw [runN_add,hR.run σ hσu];obtain ⟨es2,hs2⟩:=h.run σ (fun j q _ hj=>hσ j q hj);have hs2:stepG P true (G fr cs) (retape u σ)=.go (G fr1 cs1) (retape u1 σ) es2:=hs2;show runN P 1 _=_;rw [y1h hs2];rfl
  ·have hσu:∀ j q,j<u.drawn->σ j q=T j q:=fun j q hj=>by rw [hσ j q (by omega),hTT j q hj]
   rcases Nat.lt_or_ge i n with hlt|hge
   ·exact hR.non i hlt σ hσu _ _ _ h2
   ·obtain rfl:i=n:=by omega
    rw [hR.run σ hσu] at h2;injection h2 with h2
    obtain ⟨rfl,rfl,_⟩:=y29 h2;exact hnf
  ·rcases y8h (main:=true) hC hS (w:={ w with tape:=fun j q=>T' (j - w.drawn+u.drawn) q }) (hW'.congr rfl rfl rfl rfl rfl rfl) (fun j q=>by
    show T' (u.drawn+j) q=T' (w.drawn+j - w.drawn+u.drawn) q
    congr 1
    omega) hnf hs1 with hp|⟨L',g1',w1,es',_,hS1|⟨fe,_,_,_,_,h1,h2,_⟩,hM⟩
   ·exact (nopanic _ _ _ hs1 hp).elim
   rotate_left
   ·rw [hST fe h2] at h1
    cases h1
   ·exact ⟨L',g1',w1,hS1,hM.rel.congr rfl rfl rfl rfl rfl rfl⟩
  ·obtain ⟨es2,hs2⟩:=h.run τ (fun j q hj _=>(if_neg (by have:u.drawn≤j:=hj;omega):T' j q=τ j q).symm)
   exact ⟨es2,hs2⟩
structure Place (P:Program) (S Tc:FuncId->Bool) (kdOf:FuncId->y17) (K:Cfg) (k:List Item) (base:List Frame) (Post:FuncId->Array Value->World->Prop) (fr0:Frame) (u0:World) where
 n:Nat
 T:Nat->Question->Nat
 fr:Frame
 cs:List Frame
 u:World
 reach:Reach P fr0 u0 n T fr cs u
 sims:∃ L g' w,Sims P S Tc kdOf K k base [c0] L (G fr cs) g'∧WRel K L u w
 not:¬ LT P Post (G fr cs) u
theorem Place.notFin (hC:y34 P F S Tc kdOf) (hST:∀ f,Tc f=true->S f=true) {fr0:Frame} {u0:World} (hP:∀ f t u τ,Post f t u->Post f t (retape u τ)) (h0:∀ T,∃ m fr' u',runN P m (lone fr0 [c0] (retape u0 T))=.next (lone fr' [c0] u')∧FinF fr'∧Post fr'.fn fr'.tmps u')
  (s:Place P S Tc kdOf K k base Post fr0 u0):¬ Fin [c0] (G s.fr s.cs):=by
 intro hf;obtain ⟨L,g',w,hS,hW⟩:=s.sims;obtain ⟨h1,h2,h3⟩:=yh0 hC hST s.reach hP hS hf (h0 s.T);apply s.not;rw [h2];obtain ⟨f,tm,tm',td,m,cs,cs',hl,_,_,_,hSf,_⟩:=hS;obtain ⟨fn,_,hfn,_⟩:=(hC.calm f hSf).fn;have hfr:s.fr=frm f tm td m:=congrArg Goroutine.frame hl;exact .fin h1 ⟨f,tm,td,m,fn,hfr,hfn⟩ h3
theorem Place.next (hC:y34 P F S Tc kdOf) (hST:∀ f,Tc f=true->S f=true) {fr0:Frame} {u0:World} (hP:∀ f t u τ,Post f t u->Post f t (retape u τ)) (h0:∀ T,∃ m fr' u',runN P m (lone fr0 [c0] (retape u0 T))=.next (lone fr' [c0] u')∧FinF fr'∧Post fr'.fn fr'.tmps u')
  (s:Place P S Tc kdOf K k base Post fr0 u0):∃ s':Place P S Tc kdOf K k base Post fr0 u0,s'.n=s.n+1∧(∀ j q,j<s.u.drawn->s'.T j q=s.T j q)∧s.u.drawn≤s'.u.drawn:=by
 have hnf:=s.notFin hC hST hP h0;obtain ⟨L,g',w,hS,hW⟩:=s.sims;have hex:∃ τ,¬ ∃ fr1 cs1 u1 es,stepG P true (G s.fr s.cs) (retape s.u τ)=.go (G fr1 cs1) (retape u1 τ) es∧LT P Post (G fr1 cs1) u1:=by
  apply Classical.byContradiction;intro hno;refine s.not (.of_step hnf fun τ=>?_);apply Classical.byContradiction;intro h;exact hno ⟨τ,h⟩
 obtain ⟨τ,hτ⟩:=hex;obtain ⟨T',fr1,cs1,u1,h1,h2,h3,h4,es,h5⟩:=s.reach.more hC hST hS hW hnf τ (fun T=>let ⟨m,a,b,c,d,_⟩:=h0 T;⟨m,a,b,c,d⟩);exact ⟨⟨s.n+1,T',fr1,cs1,u1,h3,h4,fun hl=>hτ ⟨fr1,cs1,u1,es,h5,hl⟩⟩,rfl,h1,h2⟩
theorem y6x (hC:y34 P F S Tc kdOf) (hST:∀ f,Tc f=true->S f=true) {fr0:Frame} {u0 w0:World} {g0:Goroutine} (hP:∀ f t u τ,Post f t u->Post f t (retape u τ)) (h0:∀ T,∃ m fr' u',runN P m (lone fr0 [c0] (retape u0 T))=.next (lone fr' [c0] u')∧FinF fr'∧Post fr'.fn fr'.tmps u')
  (hS:Sims P S Tc kdOf K k base [c0] L (G fr0 [c0]) g0) (hW:WRel K L u0 w0):LT P Post (G fr0 [c0]) u0:=by
 apply Classical.byContradiction;intro hno;let s0:Place P S Tc kdOf K k base Post fr0 u0:=⟨0,u0.tape,fr0,[c0],u0,⟨fun τ _=>rfl,fun i hi=>by omega⟩,⟨L,g0,w0,hS,hW⟩,hno⟩
 let nx:Place P S Tc kdOf K k base Post fr0 u0->Place P S Tc kdOf K k base Post fr0 u0:=fun s=>Classical.choose (s.next hC hST hP h0)
 have hnx:∀ s,(nx s).n=s.n+1∧(∀ j q,j<s.u.drawn->(nx s).T j q=s.T j q)∧s.u.drawn≤(nx s).u.drawn:=fun s=>Classical.choose_spec (s.next hC hST hP h0)
 let f:Nat->Place P S Tc kdOf K k base Post fr0 u0:=fun n=>Nat.rec s0 (fun _ s=>nx s) n
 have hf:∀ n,f (n+1)=nx (f n):=fun n=>rfl
 have hn:∀ n,(f n).n=n:=by
  intro n
  induction n with
  |zero=>rfl
  |succ n ih=>rw [hf,(hnx _).1,ih]
 have hmono:∀ m d,(f m).u.drawn≤(f (m+d)).u.drawn∧∀ j q,j<(f m).u.drawn->(f (m+d)).T j q=(f m).T j q:=by
  intro m d
  induction d with
  |zero=>exact ⟨zLe _,fun _ _ _=>rfl⟩
  |succ d ih =>
   have h1:=hnx (f (m+d));rw [← hf] at h1;refine ⟨Nat.le_trans ih.1 h1.2.2,fun j q hj=>?_⟩;rw [show m+(d+1)=m+d+1 from rfl,h1.2.1 j q (by omega),ih.2 j q hj]
 have hany:∀ a b j q,j<(f a).u.drawn->j<(f b).u.drawn->(f a).T j q=(f b).T j q:=by
  intro a b j q ha hb;rcases Nat.le_total a b with h|h
  ·obtain ⟨d,rfl⟩:=Nat.exists_eq_add_of_le h
   exact ((hmono a d).2 j q ha).symm
  ·obtain ⟨d,rfl⟩:=Nat.exists_eq_add_of_le h
   exact (hmono b d).2 j q hb
 let T:Nat->Question->Nat:=fun j q=>open Classical in if h:∃ n,j<(f n).u.drawn then (f (Classical.choose h)).T j q else 0
 have hT:∀ n j q,j<(f n).u.drawn->T j q=(f n).T j q:=by
  intro n j q hj;have h:∃ n,j<(f n).u.drawn:=⟨n,hj⟩
  have e:T j q=(f (Classical.choose h)).T j q:=dif_pos h;rw [e];exact hany _ _ _ _ (Classical.choose_spec h) hj
 obtain ⟨m,fr',u',hm,hf',_⟩:=h0 T;have hr:=(f m).reach.run T (fun j q hj=>hT m j q hj);rw [hn m,hm] at hr;injection hr with hr
 obtain ⟨e1,e2,_⟩:=y29 hr;refine (f m).notFin hC hST hP h0 ⟨e2.symm,?_⟩;show FinF (f m).fr;rw [← e1];exact hf'
end
structure RelyK (K:Cfg) (L:List Nat) (w w₁:World):Prop where
 os:w₁.os=w.os
 output:w₁.output=w.output
 size:w.heap.size≤w₁.heap.size
 rd:∀ b,K.Rd b->b<K.N->w₁.heap[b]?=w.heap[b]?
 own:∀ b,In K L b->w₁.heap[b]?=w.heap[b]?
 al:∀ (j b s:Nat),K.al[j]?=some (b,s)->w₁.heap[b]?=w.heap[b]?
 ro:∀ (b b' s:Nat),K.ro b b' s->w₁.heap[b']?=w.heap[b']?
theorem RelyK.refl (K:Cfg) (L:List Nat) (w:World):RelyK K L w w:=⟨rfl,rfl,zLe _,fun _ _ _=>rfl,fun _ _=>rfl,fun _ _ _ _=>rfl,fun _ _ _ _=>rfl⟩
theorem RelyK.trans {K:Cfg} {L:List Nat} {a b c:World} (h:RelyK K L a b) (k:RelyK K L b c):RelyK K L a c :=
 ⟨k.os.trans h.os,k.output.trans h.output,Nat.le_trans h.size k.size,fun x hx hl=>(k.rd x hx hl).trans (h.rd x hx hl),fun x hx=>(k.own x hx).trans (h.own x hx),fun j b s hj=>(k.al j b s hj).trans (h.al j b s hj),fun b b' s hj=>(k.ro b b' s hj).trans (h.ro b b' s hj)⟩
theorem WRel.rely {K:Cfg} {L:List Nat} {u w w₁:World} (h:WRel K L u w) (r:RelyK K L w w₁):WRel K L u w₁:=by
 refine ⟨h.usize,Nat.le_trans h.wsize r.size,h.os.trans r.os.symm,h.output.trans r.output.symm,fun j b hj=>Nat.lt_of_lt_of_le (h.fresh j b hj) r.size,fun j b hj hn=>?_,h.nodup,fun b hb hl=>?_,h.wr,fun j b s hj=>?_,fun b b' s hj=>?_⟩
 ·rw [r.own b ⟨List.mem_iff_getElem?.2 ⟨j,hj⟩,hn⟩]
  exact h.new j b hj hn
 ·rw [r.rd b hb hl]
  exact h.old b hb hl
 ·rw [r.al j b s hj]
  exact h.ali j b s hj
 ·rw [r.ro b b' s hj]
  exact h.roa b b' s hj
theorem WRel.within {K:Cfg} {L:List Nat} {u w:World} (h:WRel K L u w):∀ b ∈ L,b<w.heap.size:=fun b hb=>by
 obtain ⟨j,hj⟩:=List.mem_iff_getElem?.1 hb;exact h.fresh j b hj
inductive WG (P:Program) (main:Bool) (R:List Nat->World->World->Prop) (D:List Nat->List Nat->World->World->Array Event->Prop) (Stop:List Nat->Goroutine->World->Prop):List Nat->Goroutine->World->Prop
 |stop {L:List Nat} {g:Goroutine} {w:World}:(∀ w₁,R L w w₁->Stop L g w₁)->WG P main R D Stop L g w
 |step {L:List Nat} {g:Goroutine} {w:World} (nx:World->List Nat × Goroutine × World × Array Event):g.status=.running →
   (∀ w₁,R L w w₁->stepG P main g w₁=.go (nx w₁).2.1 (nx w₁).2.2.1 (nx w₁).2.2.2∧D L (nx w₁).1 w₁ (nx w₁).2.2.1 (nx w₁).2.2.2) →
   (∀ w₁,R L w w₁->WG P main R D Stop (nx w₁).1 (nx w₁).2.1 (nx w₁).2.2.1)->WG P main R D Stop L g w
section
variable {P:Program} {main:Bool} {R R':List Nat->World->World->Prop} {D D':List Nat->List Nat->World->World->Array Event->Prop} {Stop Stop':List Nat->Goroutine->World->Prop} {L:List Nat} {g:Goroutine} {w w1:World}
theorem WG.of_step (hr:g.status=.running) (h:∀ w₁,R L w w₁->∃ L' g' w' es,stepG P main g w₁=.go g' w' es∧D L L' w₁ w' es∧WG P main R D Stop L' g' w'):WG P main R D Stop L g w:=by
 have h':∀ w₁,∃ x:List Nat × Goroutine × World × Array Event,R L w w₁->stepG P main g w₁=.go x.2.1 x.2.2.1 x.2.2.2∧D L x.1 w₁ x.2.2.1 x.2.2.2∧WG P main R D Stop x.1 x.2.1 x.2.2.1:=by
  intro w₁
  by_cases hw:R L w w₁
  ·obtain ⟨a,b,c,d,e⟩:=h w₁ hw
   exact ⟨(a,b,c,d),fun _=>e⟩
  ·exact ⟨(L,g,w,#[]),fun x=>absurd x hw⟩
 exact .step (fun w₁=>Classical.choose (h' w₁)) hr (fun w₁ hw=>let ⟨a,b,_⟩:=Classical.choose_spec (h' w₁) hw;⟨a,b⟩) (fun w₁ hw=>let ⟨_,_,d⟩:=Classical.choose_spec (h' w₁) hw;d)
theorem WG.mono (hR:∀ L w w₁,R' L w w₁->R L w w₁) (hD:∀ L L' w w' es,D L L' w w' es->D' L L' w w' es) (hs:∀ L g w,Stop L g w->Stop' L g w) (h:WG P main R D Stop L g w):WG P main R' D' Stop' L g w:=by
 induction h with
 |stop h=>exact .stop fun w₁ hw=>hs _ _ _ (h w₁ (hR _ _ _ hw))
 |step nx hr h1 _ ih=>exact .step nx hr (fun w₁ hw=>⟨(h1 w₁ (hR _ _ _ hw)).1,hD _ _ _ _ _ (h1 w₁ (hR _ _ _ hw)).2⟩) (fun w₁ hw=>ih w₁ (hR _ _ _ hw))
theorem WG.bind (tr:∀ L a b c,R L a b->R L b c->R L a c) (rf:∀ L a,R L a a) (hr:∀ L g w,Stop L g w->g.status=.running) (hs:∀ L g w,(∀ w₁,R L w w₁->Stop L g w₁)->WG P main R D Stop' L g w) (h:WG P main R D Stop L g w):WG P main R D Stop' L g w:=by
 induction h with
 |stop h=>exact hs _ _ _ h
 |step nx hr h1 _ ih=>exact .step nx hr h1 ih
end
abbrev WX (P:Program) (main:Bool) (K:Cfg) (Stop:List Nat->Goroutine->World->Prop):List Nat->Goroutine->World->Prop :=
 WG P main (RelyK K) (fun L L' w w' es=>StepK K L L' w w'∧(∀ e ∈ es,EvK K L' e)∧∀ b ∈ L',b<w'.heap.size) Stop
section
variable {P:Program} {F:Array Func} {S Tc:FuncId->Bool} {kdOf:FuncId->y17} {K:Cfg} {k:List Item} {base:List Frame} {L:List Nat} {Post:FuncId->Array Value->World->Prop}
def AtFin (P:Program) (S Tc:FuncId->Bool) (kdOf:FuncId->y17) (K:Cfg) (k:List Item) (base:List Frame) (Post:FuncId->Array Value->World->Prop) (L:List Nat) (g':Goroutine) (w:World):Prop :=
 ∃ fr u,Sims P S Tc kdOf K k base [c0] L (G fr [c0]) g'∧WRel K L u w∧FinF fr∧Post fr.fn fr.tmps u
theorem y79 {fr fr':Frame} {cs cs':List Frame} (h:G fr cs=G fr' cs'):fr=fr'∧cs=cs':=⟨congrArg Goroutine.frame h,congrArg Goroutine.callers h⟩
theorem y67 {fr c:Frame} {cs:List Frame} {ch:List PanicEntry} (u:World) (hm:fr.mode=.panicking ch) (hd:fr.defers=[]) :
  (∃ o u1 es,stepG P true (G fr (c :: cs)) u=.ended o u1 es)∨∃ ch',stepG P true (G fr (c :: cs)) u=.go (G { c with mode:=.panicking ch' } cs) u #[]:=by
 by_cases hc:fr.catches P=true
 ·exact .inl (y49 u hm hd hc)
 ·obtain ⟨ch',e⟩:=y8s c ch
  exact .inr ⟨ch',by simp [G,stepG,unwind,hm,hd,hc,e]⟩
theorem lt_c0 {ch:List PanicEntry} {u:World}:¬ LT P Post (G { c0 with mode:=.panicking ch } []) u:=by
 generalize hg:G { c0 with mode:=.panicking ch } []=g;intro h;cases h with
 |fin _ _ _=>exact absurd (y79 hg).2 (by simp)
 |step nx hn hs _ =>
  obtain ⟨rfl,rfl⟩:=y79 hg;obtain ⟨o,u1,es,he⟩:=y98 (P:=P) ch (retape u u.tape);have:=hs u.tape;rw [he] at this;cases this
theorem y6s {g:Goroutine} {u:World} (h:LT P Post g u):¬ y85 [c0] g:=by
 induction h with
 |@fin fr0 u0 hf _ _ =>
  rintro ⟨fr,cs,ch,e,h1,_,_⟩
  obtain ⟨rfl,_⟩:=y79 e;rcases hf with h|⟨h,_⟩
  ·exact absurd (h.symm.trans h1) (by simp)
  ·exact absurd (h.symm.trans h1) (by simp)
 |@step fr0 cs0 u nx hn hs hl ih =>
  rintro ⟨fr,cs,ch,e,h1,h2,h3⟩
  obtain ⟨rfl,rfl⟩:=y79 e;have hg:=hs u.tape;cases cs with
  |nil =>
   rcases y67 (P:=P) (c:=c0) (cs:=[]) (retape u u.tape) h1 h2 with ⟨o,u1,es,he⟩|⟨ch',he⟩
   ·rw [List.nil_append,he] at hg;cases hg
   ·rw [List.nil_append,he] at hg
    injection hg with e1 _ _
    have:=hl u.tape;rw [← e1] at this;exact lt_c0 this
  |cons c cs =>
   rcases y67 (P:=P) (c:=c) (cs:=cs ++ [c0]) (retape u u.tape) h1 h2 with ⟨o,u1,es,he⟩|⟨ch',he⟩
   ·rw [List.cons_append,he] at hg;cases hg
   ·rw [List.cons_append,he] at hg
    injection hg with e1 _ _
    refine ih u.tape ?_;rw [← e1];exact ⟨_,cs,ch',rfl,rfl,h3 c (by simp),fun x hx=>h3 x (by simp [hx])⟩
theorem y40 {L:List Nat} {g g':Goroutine} {lb:List Frame} (h:Sims P S Tc kdOf K k base lb L g g'):g'.status=.running:=by
 obtain ⟨f,tm,tm',td,m,cs,cs',_,rfl,_⟩:=h;rfl
theorem yhq (hC:y34 P F S Tc kdOf) (hST:∀ f,Tc f=true->S f=true) {main:Bool} {g:Goroutine} {u:World} (h:LT P Post g u):∀ (L:List Nat) (g':Goroutine) (w:World),Sims P S Tc kdOf K k base [c0] L g g'->WRel K L u w →
  WX (wf P F) main K (AtFin P S Tc kdOf K k base Post) L g' w:=by
 induction h with
 |@fin fr u hf _ hp=>exact fun L g' w hS hW=>.stop fun w₁ hr=>⟨fr,u,hS,hW.rely hr,hf,hp⟩
 |@step fr cs u nx hn hs hl ih =>
  intro L g' w hS hW;refine .of_step (y40 hS) fun w₁ hr=>?_
  have hW1:=hW.rely hr;let τ:Nat->Question->Nat:=fun j q=>w₁.tape (j - u.drawn+w₁.drawn) q
  have hg:=hs τ;rcases y8h (main:=main) hC hS (w:=w₁) (hW1.congr (u':=retape u τ) rfl rfl rfl rfl rfl rfl) (fun j q=>by
    show w₁.tape (u.drawn+j - u.drawn+w₁.drawn) q=w₁.tape (w₁.drawn+j) q
    congr 1
    omega) hn hg with hp|⟨L',g1',w1,es',h1,hS1|⟨fe,_,_,_,_,h1,h2,_⟩,hM⟩
  ·exact absurd hp (y6s (hl τ))
  rotate_left
  ·rw [hST fe h2] at h1
   cases h1
  ·exact ⟨L',g1',w1,es',h1,⟨hM.step,hM.evs,hM.rel.within⟩,ih τ L' g1' w1 hS1 (hM.rel.congr rfl rfl rfl rfl rfl rfl)⟩
end
end Go.Tr
namespace Go.Tr
open Go.Conc (G)
def y7l (fn:Func):Bool:=fn.results.all fun r=>match r with|.tmp _=>true|_=>false
def y2q (fn:Func) (tm:Array Value):Value :=
 let vs:=fn.results.map fun r=>match r with|.tmp t=>tm.getD t undef|_=>undef
 if h:vs.size=1 then vs[0] else .tuple vs
theorem results_tmp {fn:Func} (h:y7l fn=true) (tm:Array Value):results fn tm=.pure (y2q fn tm):=by
 unfold results y2q;have key:∀ (l:List ResultVar),(∀ r ∈ l,(match r with|.tmp _=>true|_=>false)=true) →
   (l.mapM fun|.tmp t=>(Pure.pure (tm.getD t undef):Sem Value)|.cell x t=>(asAddr (tm.getD x undef)).bind fun y=>loadVar t y)=Sem.pure (l.map fun r=>match r with|.tmp t=>tm.getD t undef|_=>undef):=by
  intro l
  induction l with
  |nil=>intro _;rfl
  |cons r l ih =>
   intro hl;have hr:=hl r (by simp);have hl':=ih fun x hx=>hl x (by simp [hx])
   cases r with
   |tmp t =>
    simp only [List.mapM_cons];rw [hl'];rfl
   |cell _ _=>cases hr
 have hk:=key fn.results.toList fun r hr=>Array.all_eq_true_iff_forall_mem.1 h r (by simpa using hr)
 simp only [Array.mapM_eq_mapM_toList,bind_map_left];refine Eq.trans (congrArg (fun s=>Sem.bind s (fun a:List Value=>Sem.pure (if h:a.toArray.size=1 then a.toArray[0] else Value.tuple a.toArray))) hk) ?_;have go:∀ a b:Array Value,a=b->(Sem.pure (if h:a.size=1 then a[0] else Value.tuple a))=Sem.pure (if h:b.size=1 then b[0] else Value.tuple b):=by rintro a _ rfl;rfl
 exact go _ _ (by apply Array.toList_inj.1;simp only [Array.toList_map])
section
variable {P:Program} {F:Array Func} {S Tc:FuncId->Bool} {kdOf:FuncId->y17} {K:Cfg}
theorem tr_rely (K:Cfg):∀ L a b c,RelyK K L a b->RelyK K L b c->RelyK K L a c:=fun _ _ _ _ h k=>h.trans k
theorem yet (hC:y34 P F S Tc kdOf) (hST:∀ f,Tc f=true->S f=true) {main:Bool} {f:FuncId} {fn:Func} (hf:P.funcs[f]?=some fn) (hS:S f=true) (hres:y7l fn=true) {args args':Array Value} {u w:World} (ha:RelPs K [] args args') (hW:WRel K [] u w)
  {Post:Value->World->Prop} (hP:∀ v u τ,Post v u->Post v (retape u τ)) (hc:∀ τ,Calls P f args (retape u τ) fun e u'=>∃ v,e=.returned v∧Post v u') (b:Frame) (bs:List Frame) :
  WX (wf P F) main K (fun L g w=>∃ v v' u,g=G (b.finish v') bs∧(if oneB P f=true then RelP K L v v' else RelV K L v v')∧WRel K L u w∧Post v u) [] (G (Frame.enter (wf P F) f args' .normal) (b :: bs)) w:=by
 obtain ⟨fn',c,hf',hb,hnm,hcode,hresB,hpar⟩:=(hC.calm f hS).fn;obtain rfl:fn=fn':=zSi (hf.symm.trans hf');let Post':FuncId->Array Value->World->Prop:=fun f' tm u=>f'=f∧Post (y2q fn tm) u
 have hP':∀ f t u τ,Post' f t u->Post' f t (retape u τ):=fun f t u τ h=>⟨h.1,hP _ _ _ h.2⟩
 have h0:∀ T,∃ m fr' u',runN P m (lone (Frame.enter P f args .normal) [c0] (retape u T))=.next (lone fr' [c0] u')∧FinF fr'∧Post' fr'.fn fr'.tmps u':=by
  intro T;obtain ⟨e,w',fr,⟨v,rfl,hp⟩,hcomes,hfn,hleave⟩:=hc T [c0];obtain ⟨hm,hd,hk,fn2,hf2,hr⟩:=hleave;obtain ⟨n,hn⟩:=hcomes;rw [hfn] at hf2;obtain rfl:fn=fn2:=zSi (hf.symm.trans hf2);rw [results_tmp hres] at hr;simp only [Sem.run] at hr;injection hr with hr _
  exact ⟨n,fr,w',hn,.inl hm,hfn,hr ▸ hp⟩
 have e1:=y3g hf hb args;have hfq:(wf P F).funcs[f]?=some fn:=(hC.same f hS).trans hf;have e2:=y3g hfq hb args';have hsim:Sims P S Tc kdOf K [] (b :: bs) [c0] [] (G (Frame.enter P f args .normal) [c0]) (G (Frame.enter (wf P F) f args' .normal) (b :: bs)):=by
  rw [e1,e2];exact ⟨f,_,_,[.code c],.run,[],b :: bs,rfl,rfl,.enter ha fn.ntmps,by simp [y3a,hcode],hS,.nil,.inl rfl⟩
 have hlt:=y6x hC hST hP' h0 hsim hW;have hwx:=yhq hC hST (main:=main) hlt [] _ w hsim hW;refine hwx.bind (tr_rely K) (fun L a=>.refl K L a) (fun L g w ⟨fr,u,hs,_⟩=>y40 hs) fun L g w hst=>?_
 obtain ⟨fr,u1,⟨f1,tm,tm',td,m,cs,cs',hl,rfl,ht,hcalm,hSf,hstk,hm⟩,hW1,hfin,hf1,hp⟩:=hst w (.refl K L w);obtain ⟨hfr,hcs⟩:=y79 hl;have hcs0:cs=[]:=by
  cases cs with
  |nil=>rfl
  |cons x xs =>
   have:=congrArg List.length hcs;simp at this
 subst hcs0;subst hfr;obtain rfl:f1=f:=hf1;cases hstk
 have hretv:∀ w₁ td,∃ es,stepG (wf P F) main (G (frm f1 tm' td .returning) (b :: bs)) w₁=.go (G (b.finish (y2q fn tm')) bs) w₁ es∧∀ e ∈ es,EvK K L e:=by
  intro w₁ td;have:=y1r (P:=wf P F) main f1 tm' td b bs w₁ hfq;rw [results_tmp hres] at this;refine ⟨_,this,fun e he=>?_⟩;have:=y4a (by simpa using he);simp [Sem.runT] at this
 have hrv:=y3n (P:=P) (F:=F) ht hresB;rw [results_tmp hres,results_tmp hres] at hrv;have hval:if oneB P f1=true then RelP K L (y2q fn tm) (y2q fn tm') else RelV K L (y2q fn tm) (y2q fn tm'):=by
  have hone:oneB P f1=(fn.results.size == 1):=by simp [oneB,hf]
  rw [hone];cases hrv with
  |pure h=>exact h
  |doomed h =>
   obtain ⟨_,_,e,_⟩:=h default;cases e
 have step2:∀ (w:World) td,WRel K L u1 w->WX (wf P F) main K (fun L g w=>∃ v v' u,g=G (b.finish v') bs∧(if oneB P f1=true then RelP K L v v' else RelV K L v v')∧WRel K L u w∧Post v u) L (G (frm f1 tm' td .returning) (b :: bs)) w:=by
  intro w td hW1;refine .of_step rfl fun w₁ hr=>?_
  obtain ⟨es,he,hev⟩:=hretv w₁ td;refine ⟨L,_,w₁,es,he,⟨.refl K L w₁,hev,(hW1.rely hr).within⟩,.stop fun w₂ hr2=>?_⟩;exact ⟨_,_,u1,rfl,hval,(hW1.rely hr).rely hr2,hp⟩
 rcases hm with rfl|rfl
 ·have htd:td=[]:=by
   rcases hfin with h|⟨_,h⟩
   ·cases h
   ·exact h
  subst htd;refine .of_step rfl fun w₁ hr=>⟨L,_,w₁,#[],y5q main f1 tm' (b :: bs) w₁,⟨.refl K L w₁,by simp,(hW1.rely hr).within⟩,?_⟩
  exact step2 w₁ _ (hW1.rely hr)
 ·exact step2 w _ hW1
end
end Go.Tr
namespace Go.Mt
open Go.Tr Go.Conc Go.ConcN
open Go.ConcR (KK wgBlock WgAt stA smA rd wr mk Payload DC0 Bk g_of_ofEvents)
inductive Rk:Type
 |z:Rk
 |s (f:World->Rk):Rk
inductive RkLt:Rk->Rk->Prop
 |mk (f:World->Rk) (w:World):RkLt (f w) (.s f)
theorem rk_wf:WellFounded RkLt:=⟨fun a=>by
 induction a with
 |z=>exact ⟨_,fun y h=>by cases h⟩
 |s f ih=>exact ⟨_,fun y h=>by cases h with|mk _ w=>exact ih w⟩⟩
def rkN:Nat->Rk
 |0=>.z
 |n+1=>.s fun _=>rkN n
theorem rkN_lt (n:Nat):RkLt (rkN n) (rkN (n+1)):=.mk (fun _=>rkN n) default
section
variable (P:Program) (main:Bool) (R:List Nat->World->World->Prop) (D:List Nat->List Nat->World->World->Array Event->Prop) (Stop:List Nat->Goroutine->World->Prop)
inductive WR:Rk->List Nat->Goroutine->World->Prop
 |stop {r:Rk} {L:List Nat} {g:Goroutine} {w:World}:(∀ w₁,R L w w₁->Stop L g w₁)->WR r L g w
 |step {f:World->Rk} {L:List Nat} {g:Goroutine} {w:World} (nx:World->List Nat × Goroutine × World × Array Event):g.status=.running →
   (∀ w₁,R L w w₁->stepG P main g w₁=.go (nx w₁).2.1 (nx w₁).2.2.1 (nx w₁).2.2.2∧D L (nx w₁).1 w₁ (nx w₁).2.2.1 (nx w₁).2.2.2) →
   (∀ w₁,R L w w₁->WR (f w₁) (nx w₁).1 (nx w₁).2.1 (nx w₁).2.2.1)->WR (.s f) L g w
end
section
variable {P:Program} {main:Bool} {R:List Nat->World->World->Prop} {D:List Nat->List Nat->World->World->Array Event->Prop} {Stop:List Nat->Goroutine->World->Prop} {L:List Nat} {g:Goroutine} {w w1:World} {r:Rk}
theorem WR.of_walk (h:WG P main R D Stop L g w):∃ r,WR P main R D Stop r L g w:=by
 induction h with
 |stop h=>exact ⟨.z,.stop h⟩
 |@step L g w nx hr h1 _ ih =>
  have h':∀ w₁,∃ r,R L w w₁->WR P main R D Stop r (nx w₁).1 (nx w₁).2.1 (nx w₁).2.2.1:=by
   intro w₁
   by_cases hw:R L w w₁
   ·obtain ⟨r,hr⟩:=ih w₁ hw
    exact ⟨r,fun _=>hr⟩
   ·exact ⟨.z,fun x=>absurd x hw⟩
  exact ⟨.s fun w₁=>Classical.choose (h' w₁),.step nx hr h1 fun w₁ hw=>Classical.choose_spec (h' w₁) hw⟩
theorem WR.rely (tr:∀ L a b c,R L a b->R L b c->R L a c) (h:WR P main R D Stop r L g w) (x:R L w w1):WR P main R D Stop r L g w1:=by
 cases h with
 |stop h=>exact .stop fun w₁ hw=>h w₁ (tr _ _ _ _ x hw)
 |step nx hr h1 h2=>exact .step nx hr (fun w₁ hw=>h1 w₁ (tr _ _ _ _ x hw)) (fun w₁ hw=>h2 w₁ (tr _ _ _ _ x hw))
theorem WR.cases' (rf:∀ L a,R L a a) (h:WR P main R D Stop r L g w):(∀ w₁,R L w w₁->Stop L g w₁) ∨
  (g.status=.running∧∃ r' L' g' w' es,RkLt r' r∧stepG P main g w=.go g' w' es∧D L L' w w' es∧WR P main R D Stop r' L' g' w'):=by
 cases h with
 |stop h=>exact .inl h
 |@step f _ _ _ nx hr h1 h2=>exact .inr ⟨hr,_,_,_,_,_,.mk f w,(h1 w (rf L w)).1,(h1 w (rf L w)).2,h2 w (rf L w)⟩
theorem WR.running (rf:∀ L a,R L a a) (hs:∀ L g w,Stop L g w->g.status=.running) (h:WR P main R D Stop r L g w):g.status=.running:=by
 cases h with
 |stop h=>exact hs _ _ _ (h w (rf L w))
 |step nx hr _ _=>exact hr
end
structure RelW (ty:TypeId) (Wg:Nat) (Kp:Nat->Prop) (L:List Nat) (w w₁:World):Prop where
 os:w₁.os=w.os
 output:w₁.output=w.output
 size:w.heap.size≤w₁.heap.size
 live:WgLive ty Wg w->WgLive ty Wg w₁
 kept:∀ b,Kp b->w₁.heap[b]?=w.heap[b]?
 own:∀ b,b ∈ L->w₁.heap[b]?=w.heap[b]?
theorem RelW.refl {ty:TypeId} {Wg:Nat} {Kp:Nat->Prop} (L:List Nat) (w:World):RelW ty Wg Kp L w w:=⟨rfl,rfl,zLe _,id,fun _ _=>rfl,fun _ _=>rfl⟩
theorem RelW.trans {ty:TypeId} {Wg:Nat} {Kp:Nat->Prop}:∀ (L:List Nat) (a b c:World),RelW ty Wg Kp L a b->RelW ty Wg Kp L b c->RelW ty Wg Kp L a c:=fun L a b c h k =>
 ⟨k.os.trans h.os,k.output.trans h.output,Nat.le_trans h.size k.size,fun x=>k.live (h.live x),fun x hx=>(k.kept x hx).trans (h.kept x hx),fun x hx=>(k.own x hx).trans (h.own x hx)⟩
inductive EvP (Rd Wr:Nat->Prop) (L:List Nat):Event->Prop
 |read {a:Addr}:(Rd a.block∨a.block ∈ L)->EvP Rd Wr L ⟨.cell a,false,false⟩
 |write {a:Addr}:(a.block ∈ L∨Wr a.block)->EvP Rd Wr L ⟨.cell a,true,false⟩
 |map {r:Nat} {wr:Bool}:r ∈ L->EvP Rd Wr L ⟨.obj r,wr,false⟩
 |room:EvP Rd Wr L ⟨.mark .noRoom,false,true⟩
structure GuarW (N:Nat) (Rd Wr:Nat->Prop) (L L':List Nat) (w w':World) (es:Array Event):Prop where
 tape:w'.tape=w.tape
 os:w'.os=w.os
 output:w'.output=w.output
 size:w.heap.size≤w'.heap.size
 pre:L <+: L'
 news:∀ (j b:Nat),L'[j]?=some b->L.length≤j->w.heap.size≤b
 within:∀ b,b ∈ L'->N≤b∧b<w'.heap.size
 block:∀ b,b<w.heap.size->b ∉ L'->¬ Wr b->w'.heap[b]?=w.heap[b]?
 evs:∀ e ∈ es,EvP Rd Wr L' e
theorem GuarW.still {N:Nat} {Rd Wr:Nat->Prop} {L:List Nat} {w:World} {es:Array Event} (hL:∀ b,b ∈ L->N≤b∧b<w.heap.size) (h:∀ e ∈ es,EvP Rd Wr L e):GuarW N Rd Wr L L w w es :=
 ⟨rfl,rfl,rfl,zLe _,List.prefix_refl L,fun j b hj hl=>by have:=(List.getElem?_eq_some_iff.1 hj).1;omega,hL,fun _ _ _ _=>rfl,h⟩
theorem y6p {L L':List Nat} (h:L <+: L') {b:Nat} (hb:b ∈ L'):b ∈ L∨∃ j,L'[j]?=some b∧L.length≤j:=by
 obtain ⟨j,hj⟩:=List.mem_iff_getElem?.1 hb;rcases Nat.lt_or_ge j L.length with hlt|hge
 ·obtain ⟨s,hs⟩:=h
  rw [← hs,List.getElem?_append_left hlt] at hj;exact .inl (List.mem_iff_getElem?.2 ⟨j,hj⟩)
 ·exact .inr ⟨j,hj,hge⟩
theorem WG.of_calm {P:Program} {main:Bool} {ty:TypeId} {Wg N:Nat} {Kp Rd Wr:Nat->Prop} {K:Cfg} (hka:K.al=[]) (hro:∀ b b' s,K.ro b b' s->Kp b'∧Rd b') (hN:N≤K.N) (hk:∀ b,K.Rd b->Kp b) (hr:∀ b,K.Rd b->Rd b) (hw:∀ b,K.Wr b->Wr b)
  {Stop:List Nat->Goroutine->World->Prop} {L:List Nat} {g:Goroutine} {w:World} (h:WX P main K Stop L g w):(∀ b ∈ L,K.N≤b)->K.N≤w.heap.size->WG P main (RelW ty Wg Kp) (GuarW N Rd Wr) Stop L g w:=by
 have rel:∀ L w w₁,RelW ty Wg Kp L w w₁->RelyK K L w w₁:=fun L w w₁ r=>⟨r.os,r.output,r.size,fun b hb _=>r.kept b (hk b hb),fun b hb=>r.own b hb.1,fun j b s hj=>by rw [hka] at hj;simp at hj,fun b b' s hj=>r.kept b' (hro b b' s hj).1⟩
 induction h with
 |stop h=>exact fun _ _=>.stop fun w₁ r=>h w₁ (rel _ _ _ r)
 |@step L g w nx hrun h1 _ ih =>
  intro hL hK;have both:∀ w₁,RelW ty Wg Kp L w w₁->(∀ b ∈ (nx w₁).1,K.N≤b)∧K.N≤(nx w₁).2.2.1.heap.size∧w₁.heap.size≤(nx w₁).2.2.1.heap.size:=by
   intro w₁ r;obtain ⟨_,s,_,_⟩:=h1 w₁ (rel _ _ _ r);have hl:=s.pre.length_le;have hsz:=s.size;have:=r.size;refine ⟨fun b hb=>?_,by omega,by omega⟩;rcases y6p s.pre hb with hx|⟨j,hj,hge⟩
   ·exact hL b hx
   ·have:=s.news j b hj hge
    omega
  refine .step nx hrun (fun w₁ r=>?_) (fun w₁ r=>ih w₁ (rel _ _ _ r) (both w₁ r).1 (both w₁ r).2.1);obtain ⟨hgo,s,hes,hin⟩:=h1 w₁ (rel _ _ _ r);obtain ⟨b1,b2,b3⟩:=both w₁ r;refine ⟨hgo,s.tape,s.os,s.output,b3,s.pre,s.news,fun b hb=>⟨Nat.le_trans hN (b1 b hb),hin b hb⟩,fun b h1 h2 h3=>s.block b h1 (fun x=>h2 x.1) (fun x=>h3 (hw b x)),fun e he=>?_⟩;cases hes e he with
  |read h =>
   rcases h with ⟨_,⟨h1,_,h2⟩|⟨j,_,hj,_⟩⟩|⟨j,_,hj⟩|hq
   ·exact .read (.inl (by rw [h2];exact hr _ h1))
   ·exact .read (.inr (List.mem_iff_getElem?.2 ⟨j,hj⟩))
   ·rw [hka] at hj;simp at hj
   ·exact .read (.inl (hro _ _ _ hq).2)
  |write h=>exact .write (h.imp (·.1) (hw _))
  |map h=>exact .map h.1
  |room=>exact .room
end Go.Mt
namespace Go.Mt
open Go.Tr Go.Conc Go.ConcN
open Go.ConcR (KK wgBlock WgAt stA smA rd wr mk Payload DC0 Bk g_of_ofEvents)
def inB (b:Nat):Loc->Prop
 |.cell a=>a.block=b
 |.obj r=>r=b
 |_=>False
structure PG where
 n0:Nat
 Sh0:Loc->Prop
 Vis:Nat->Prop
 c:Nat
 hi:Nat
 Wg:Nat
 N0:Nat
def PG.Sh (G:PG) (l:Loc):Prop:=G.Sh0 l∨inB G.Wg l∨inB G.c l
def PG.Own (G:PG) (L1 L2:List Nat) (k:Nat) (l:Loc):Prop:=(k=G.n0∧∃ b ∈ L1,inB b l)∨(k=G.n0+1∧((∃ b ∈ L2,inB b l)∨inB G.hi l))
def PG.Rd (G:PG) (k:Nat) (l:Loc):Prop:=(k=G.n0∨k=G.n0+1)∧∃ b,G.Vis b∧inB b l
structure PG.Ok (G:PG):Prop where
 n1:1≤G.n0
 vis:∀ b,G.Vis b->b<G.N0∧b≠G.c∧b≠G.hi∧b≠G.Wg∧∀ l,inB b l->¬ G.Sh0 l
 lc:G.c<G.N0
 lh:G.hi<G.N0
 lw:G.Wg<G.N0
 ch:G.c≠G.hi
 cw:G.c≠G.Wg
 hw:G.hi≠G.Wg
 sh0:∀ l b,G.Sh0 l->inB b l->b<G.N0∧b≠G.hi
 mem:∀ l:Loc,l.isMemory=false->G.Sh0 l
theorem y23 {b b':Nat} {l:Loc} (h:inB b l) (h':inB b' l):b=b':=by
 cases l<;>first|exact h.elim|exact h.symm.trans h'
theorem inB_low {b B:Nat} {l:Loc} (h:inB b l) (hl:l.low B):b<B:=by
 cases l<;>first|exact h.elim|(have h:_=b:=h;exact h ▸ hl)
theorem yf5 {x:MemAct} {y:Touch} {B:Nat} (h:x.touch?=some y) (hx:x.low B):y.loc.low B:=by
 cases x with
 |access e =>
  simp only [MemAct.touch?,Option.some.injEq] at h;subst h;exact hx
 |mark m =>
  cases m with
  |read a =>
   simp only [MemAct.touch?,Option.some.injEq] at h;subst h;exact hx
  |write a =>
   simp only [MemAct.touch?,Option.some.injEq] at h;subst h;exact hx
  |_=>simp [MemAct.touch?] at h
 |_=>simp [MemAct.touch?] at h
structure Fams (G:PG) (L1 L2:List Nat) (B:Nat):Prop where
 l1:∀ b ∈ L1,G.N0≤b∧b<B
 l2:∀ b ∈ L2,G.N0≤b∧b<B
 ap:∀ b,b ∈ L1->b ∉ L2
theorem Fams.apart {G:PG} {L1 L2:List Nat} {B:Nat} (hG:G.Ok) (h:Fams G L1 L2 B):Apart G.Sh (G.Own L1 L2) G.Rd:=by
 have hsh:∀ l b,inB b l->(G.N0≤b∨b=G.hi)->¬ G.Sh l:=by
  rintro l b hb hN (hs|hs|hs)
  ·have:=hG.sh0 l b hs hb
   omega
  ·have:=y23 hb hs
   have:=hG.lw;have:=hG.hw;omega
  ·have:=y23 hb hs
   have:=hG.lc;have:=hG.ch;omega
 have hown:∀ k l,G.Own L1 L2 k l->∃ b,inB b l∧(G.N0≤b∨b=G.hi):=by
  rintro k l (⟨_,b,hb,hl⟩|⟨_,⟨b,hb,hl⟩|hl⟩)
  ·exact ⟨b,hl,.inl (h.l1 b hb).1⟩
  ·exact ⟨b,hl,.inl (h.l2 b hb).1⟩
  ·exact ⟨_,hl,.inr rfl⟩
 refine ⟨fun k k' l h1 h2=>?_,fun k k' l h1 h2=>?_,fun k l h1=>?_,fun k l h1=>?_⟩
 ·rcases h1 with ⟨e1,b1,hb1,hl1⟩|⟨e1,⟨b1,hb1,hl1⟩|hl1⟩<;>rcases h2 with ⟨e2,b2,hb2,hl2⟩|⟨e2,⟨b2,hb2,hl2⟩|hl2⟩
  ·omega
  ·obtain rfl:=y23 hl1 hl2
   exact absurd hb2 (h.ap _ hb1)
  ·have:=y23 hl1 hl2
   have:=h.l1 _ hb1;have:=hG.lh;omega
  ·obtain rfl:=y23 hl1 hl2
   exact absurd hb1 (h.ap _ hb2)
  ·omega
  ·omega
  ·have:=y23 hl1 hl2
   have:=h.l1 _ hb2;have:=hG.lh;omega
  ·omega
  ·omega
 ·obtain ⟨b,hb,hN⟩:=hown k l h1
  obtain ⟨_,b',hv,hb'⟩:=h2;obtain rfl:=y23 hb hb';have:=hG.vis _ hv;omega
 ·obtain ⟨b,hb,hN⟩:=hown k l h1
  exact hsh l b hb hN
 ·obtain ⟨_,b,hv,hb⟩:=h1
  obtain ⟨v1,v2,v3,v4,v5⟩:=hG.vis _ hv
  rintro (hs|hs|hs)
  ·exact v5 l hb hs
  ·exact v4 (y23 hb hs)
  ·exact v2 (y23 hb hs)
structure TI (G:PG) (L1 L2:List Nat) (j B:Nat) (t:Trace):Prop where
 ct:CT G.Sh (G.Own L1 L2) G.Rd t (G.n0+j - 1)
 kn:∀ i a,touchAt t i=some a->a.loc.isMemory=true->Knows t 0 i∨(G.Sh a.loc∧a.kind=.atomic)∨((t.g? i=some G.n0∨t.g? i=some (G.n0+1))∧(a.kind=.atomic->G.Sh a.loc))
 ov:∀ i g,t.g? i=some g->g≠0->g≠G.n0->g≠G.n0+1->t.counts i->∃ q,t.g? q=some 0∧HappensBefore t i q
 seen:∀ op ∈ t,op.act.low B
 nr:NoRelease (stA G.Wg) t
section
variable {G:PG} {L1 L2:List Nat} {j B:Nat} {t u:Trace}
theorem TI.mono {B':Nat} (h:TI G L1 L2 j B t) (hB:B≤B'):TI G L1 L2 j B' t:=⟨h.ct,h.kn,h.ov,fun op hop=>MemAct.low_mono hB (h.seen op hop),h.nr⟩
theorem yap (h:∀ i a,touchAt t i=some a->a.loc.isMemory=true->Knows t 0 i∨(G.Sh a.loc∧a.kind=.atomic)∨((t.g? i=some G.n0∨t.g? i=some (G.n0+1))∧(a.kind=.atomic->G.Sh a.loc)))
  (hu:∀ op ∈ u,∀ a,op.act.touch?=some a->op.g=0∨((op.g=G.n0∨op.g=G.n0+1)∧(a.kind=.atomic->G.Sh a.loc))) :
  ∀ i a,touchAt (t ++ u) i=some a->a.loc.isMemory=true->Knows (t ++ u) 0 i∨(G.Sh a.loc∧a.kind=.atomic)∨(((t ++ u).g? i=some G.n0∨(t ++ u).g? i=some (G.n0+1))∧(a.kind=.atomic->G.Sh a.loc)):=by
 intro i a ha hm;obtain ⟨x,hx,hxa⟩:=touch_of ha;rcases getElem?_append_cases hx with ⟨hi,hx'⟩|⟨_,hxu⟩
 ·rcases h i a (by rw [touchAt_of hx'];exact hxa) hm with h|h|h
  ·exact .inl (h.app u)
  ·exact .inr (.inl h)
  ·rw [g?_old hi]
   exact .inr (.inr h)
 ·rcases hu x hxu a hxa with h|⟨h,h2⟩
  ·have:=knows_own hx
   rw [h] at this;exact .inl this
  ·refine .inr (.inr ⟨?_,h2⟩)
   rcases h with h|h
   ·exact .inl (by simp [Trace.g?,hx,h])
   ·exact .inr (by simp [Trace.g?,hx,h])
theorem yai {P:Nat->Prop} (h:∀ i g,t.g? i=some g->P g->t.counts i->∃ q,t.g? q=some 0∧HappensBefore t i q) (hu:∀ op ∈ u,P op.g->op.act.touch?=none) :
  ∀ i g,(t ++ u).g? i=some g->P g->(t ++ u).counts i->∃ q,(t ++ u).g? q=some 0∧HappensBefore (t ++ u) i q:=by
 intro i g hg hp hc;obtain ⟨op,hop,rfl⟩:=Option.map_eq_some_iff.1 hg;rcases getElem?_append_cases hop with ⟨hi,hop'⟩|⟨_,hopu⟩
 ·obtain ⟨q,hq,hb⟩:=h i op.g (by rw [← g?_old (u:=u) hi];exact hg) hp ((counts_old hi).1 hc)
  have hql:q<t.size:=by
   obtain ⟨z,hz,_⟩:=Option.map_eq_some_iff.1 hq;exact lt_size_of_getElem? hz
  exact ⟨q,by rw [g?_old hql];exact hq,hb_app u hb⟩
 ·obtain ⟨x,hx,_⟩:=hc
  obtain ⟨op',hop',hox⟩:=touch_of hx;rw [hop] at hop';obtain rfl:=zSi hop';rw [hu op hopu hp] at hox;cases hox
theorem TI.app0 (hG:G.Ok) (F:Fams G L1 L2 B) (h:TI G L1 L2 j B t) (hu:∀ op ∈ u,op.g=0∧∀ x,op.act.touch?=some x->G.Sh x.loc∧x.kind≠.plain) (hl:∀ op ∈ u,op.act.low B) (hn:∀ op ∈ u,op.act≠.mark (.release (stA G.Wg))):TI G L1 L2 j B (t ++ u):=by
 refine ⟨h.ct.app0 (F.apart hG) fun op hop=>⟨(hu op hop).1,fun x hx=>.inl ((hu op hop).2 x hx)⟩,yap h.kn fun op hop a _=>.inl (hu op hop).1,fun i g hg h1 h2 h3 hc=>?_,seen_app h.seen hl,h.nr.app hn⟩;exact yai (P:=fun g=>g≠0∧g≠G.n0∧g≠G.n0+1) (fun i g hg hp hc=>h.ov i g hg hp.1 hp.2.1 hp.2.2 hc) (fun op hop hp=>absurd (hu op hop).1 hp.1) i g hg ⟨h1,h2,h3⟩ hc
theorem TI.appL (hG:G.Ok) (F:Fams G L1 L2 B) (h:TI G L1 L2 j B t) (hj:1≤j) {k:Nat} (k1:1≤k) (k2:k<G.n0) (hu:∀ op ∈ u,op.g=k∧op.act.touch?=none) (hl:∀ op ∈ u,op.act.low B) (hn:∀ op ∈ u,op.act≠.mark (.release (stA G.Wg))):TI G L1 L2 j B (t ++ u):=by
 refine ⟨h.ct.appW (F.apart hG) k1 (by omega) fun op hop=>⟨(hu op hop).1,fun x hx=>(by rw [(hu op hop).2] at hx;cases hx)⟩,yap h.kn fun op hop a ha=>(by rw [(hu op hop).2] at ha;cases ha),fun i g hg h1 h2 h3 hc=>?_,seen_app h.seen hl,h.nr.app hn⟩;exact yai (P:=fun g=>g≠0∧g≠G.n0∧g≠G.n0+1) (fun i g hg hp hc=>h.ov i g hg hp.1 hp.2.1 hp.2.2 hc) (fun op hop hp=>(hu op hop).2) i g hg ⟨h1,h2,h3⟩ hc
theorem TI.appW (hG:G.Ok) (F:Fams G L1 L2 B) (h:TI G L1 L2 j B t) {k:Nat} (hk:k=G.n0∨k=G.n0+1) (hj:k≤G.n0+j - 1)
  (hu:∀ op ∈ u,op.g=k∧∀ x,op.act.touch?=some x->(G.Sh x.loc∧x.kind=.atomic)∨(x.kind=.plain∧(G.Own L1 L2 k x.loc∨(G.Rd k x.loc∧x.write=false))))
  (hl:∀ op ∈ u,op.act.low B) (hn:∀ op ∈ u,op.act≠.mark (.release (stA G.Wg))):TI G L1 L2 j B (t ++ u):=by
 refine ⟨h.ct.appW (F.apart hG) (by have:=hG.n1;omega) hj fun op hop=>⟨(hu op hop).1,fun x hx=>?_⟩,yap h.kn fun op hop a ha=>.inr ⟨by rw [(hu op hop).1];exact hk,fun e=>?_⟩,fun i g hg h1 h2 h3 hc=>?_,seen_app h.seen hl,h.nr.app hn⟩
 ·rcases (hu op hop).2 x hx with ⟨h1,h2⟩|⟨h1,h2⟩
  ·exact .inl ⟨h1,by rw [h2];simp,by rw [h2];simp⟩
  ·exact .inr h2
 ·rcases (hu op hop).2 a ha with ⟨h1,h2⟩|⟨h1,h2⟩
  ·exact h1
  ·rw [h1] at e;cases e
 ·exact yai (P:=fun g=>g≠0∧g≠G.n0∧g≠G.n0+1) (fun i g hg hp hc=>h.ov i g hg hp.1 hp.2.1 hp.2.2 hc) (fun op hop hp=>by
   have:=(hu op hop).1;rcases hk with rfl|rfl
   ·exact absurd this hp.2.1
   ·exact absurd this hp.2.2) i g hg ⟨h1,h2,h3⟩ hc
theorem y9i {b:Nat} (hs:∀ op ∈ t,op.act.low B) (hb:B≤b) {l:Loc} (hl:inB b l):∀ i a,touchAt t i=some a->a.loc=l->False:=by
 intro i a ha e;obtain ⟨x,hx,hxa⟩:=touch_of ha;have h1:=yf5 hxa (hs x (mem_of_getElem? hx));rw [e] at h1;have:=inB_low hl h1;omega
theorem TI.grow {L1' L2':List Nat} (h:TI G L1 L2 j B t) (hB:∀ l k,G.Own L1' L2' k l->G.Own L1 L2 k l∨∃ b,B≤b∧inB b l) (hS:∀ l k,G.Own L1 L2 k l->G.Own L1' L2' k l):TI G L1' L2' j B t:=by
 refine ⟨⟨h.ct.quiet,fun k k1 kj l hl=>?_,h.ct.rd,fun l hs hl=>h.ct.free l hs fun k k1 kj=>⟨fun ho=>(hl k k1 kj).1 (hS l k ho),(hl k k1 kj).2⟩,fun l hs hl=>h.ct.mine l hs fun k k1 kj ho=>hl k k1 kj (hS l k ho),h.ct.nr,h.ct.gs⟩,h.kn,h.ov,h.seen,h.nr⟩;rcases hB l k hl with ho|⟨b,hb,hlb⟩
 ·exact h.ct.own k k1 kj l ho
 ·exact fun i a ha e=>(y9i h.seen hb hlb i a ha e).elim
end
end Go.Mt
namespace Go.Mt
open Go.Tr Go.Conc Go.ConcN
open Go.ConcR (KK wgBlock WgAt stA smA rd wr mk Payload DC0 Bk g_of_ofEvents)
structure Pst (Sh:Loc->Prop) (n B:Nat) (t:Trace):Prop where
 past:Past Sh B t
 quiet:Quiet Sh t
 gs:∀ op ∈ t,op.g<n
 nr:∀ op ∈ t,∀ a,op.act≠.mark (.release a)
section
variable {G:PG} {L1 L2:List Nat} {j B:Nat} {t u:Trace}
theorem y2x {x y op:MemOp} (h:op ∈ #[x,y]):op=x∨op=y:=by simpa using h
theorem TI.start (hG:G.Ok) (hN:G.N0≤B) (h:Pst G.Sh G.n0 B t) {x y:MemOp} (hx:x.g=0∧x.act=.go G.n0) (hy:y.g=G.n0∧y.act=.start):TI G [] [] 1 B (t ++ #[x,y]):=by
 have hn1:=hG.n1;have e1:G.n0 - 1+1=G.n0:=by omega
 have F:Fams G [] [] B:=⟨by simp,by simp,by simp⟩
 have hno:∀ k,k≤G.n0 - 1->∀ l,¬ G.Own [] [] k l:=by
  rintro k hk l (⟨e,_⟩|⟨e,_⟩)<;>omega
 have hnr:∀ k,k≤G.n0 - 1->∀ l,¬ G.Rd k l:=by
  rintro k hk l ⟨e|e,_⟩<;>omega
 have hperm:∀ l,¬ G.Sh l->Perm t 0 l:=by
  intro l hl i a ha e;have hm:a.loc.isMemory=true:=by
   cases hmm:a.loc.isMemory with
   |true=>rfl
   |false=>exact absurd (.inl (hG.mem _ hmm)) (e ▸ hl)
  rcases h.past.known i a ha hm with hk|⟨hs,_⟩
  ·exact hk
  ·exact absurd hs (e ▸ hl)
 have c0:CT G.Sh (G.Own [] []) G.Rd t (G.n0 - 1) :=
  ⟨h.quiet,fun k _ kj l hl=>absurd hl (hno k kj l),fun k _ kj l hl=>absurd hl (hnr k kj l),fun l hs _=>hperm l hs,fun l hs _=>.of (hperm l hs),h.past.clean,fun i op hi=>by have:=h.gs op (mem_of_getElem? hi);omega⟩
 have c1:=c0.fork (F.apart hG) (x:=x) (y:=y) (by rw [e1];exact hx) (by rw [e1];exact hy) h.past.hears;have hnt:∀ op ∈ #[x,y],op.act.touch?=none:=by
  intro op hop;rcases y2x hop with rfl|rfl
  ·rw [hx.2];rfl
  ·rw [hy.2];rfl
 refine ⟨by rw [show G.n0+1 - 1=G.n0 - 1+1 by omega];exact c1,yap (fun i a ha hm=>(h.past.known i a ha hm).imp id .inl) fun op hop a ha=>(by rw [hnt op hop] at ha;cases ha),fun i g hg h1 h2 h3 hc=>?_,seen_app h.past.seen fun op hop=>?_,?_⟩
 ·exact yai (P:=fun g=>g≠0) (fun i g hg hp hc=>h.past.over i g hg hp hc) (fun op hop _=>hnt op hop) i g hg h1 hc
 ·rcases y2x hop with rfl|rfl
  ·rw [hx.2];trivial
  ·rw [hy.2];trivial
 ·refine NoRelease.app (fun i hi=>?_) fun op hop=>?_
  ·obtain ⟨op,ho,hoa⟩:=Option.map_eq_some_iff.1 hi
   exact h.nr op (mem_of_getElem? ho) _ hoa
  ·rcases y2x hop with rfl|rfl
   ·rw [hx.2];simp
   ·rw [hy.2];simp
theorem TI.fork (hG:G.Ok) (F:Fams G L1 L2 B) (h:TI G L1 L2 1 B t) {x y:MemOp} (hx:x.g=0∧x.act=.go (G.n0+1)) (hy:y.g=G.n0+1∧y.act=.start) (hd:Deaf t 0=0):TI G L1 L2 2 B (t ++ #[x,y]):=by
 have hc:=h.ct;rw [show G.n0+1 - 1=G.n0 by omega] at hc;have c1:=hc.fork (F.apart hG) hx hy hd;have hnt:∀ op ∈ #[x,y],op.act.touch?=none:=by
  intro op hop;rcases y2x hop with rfl|rfl
  ·rw [hx.2];rfl
  ·rw [hy.2];rfl
 refine ⟨by rw [show G.n0+2 - 1=G.n0+1 by omega];exact c1,yap h.kn fun op hop a ha=>(by rw [hnt op hop] at ha;cases ha),fun i g hg h1 h2 h3 hc=>?_,seen_app h.seen fun op hop=>?_,h.nr.app fun op hop=>?_⟩
 ·exact yai (P:=fun g=>g≠0∧g≠G.n0∧g≠G.n0+1) (fun i g hg hp hc=>h.ov i g hg hp.1 hp.2.1 hp.2.2 hc) (fun op hop hp=>hnt op hop) i g hg ⟨h1,h2,h3⟩ hc
 ·rcases y2x hop with rfl|rfl
  ·rw [hx.2];trivial
  ·rw [hy.2];trivial
 ·rcases y2x hop with rfl|rfl
  ·rw [hx.2];simp
  ·rw [hy.2];simp
theorem TI.join (hG:G.Ok) (h:TI G L1 L2 2 B t) {r1 r2:Nat} (h1:RelBy (stA G.Wg) t G.n0 r1) (h2:RelBy (stA G.Wg) t (G.n0+1) r2) (hd:Deaf t 0=0) (hW:G.Wg<B) (hnr:∀ op ∈ t,∀ a,op.act≠.mark (.release a)) {y:MemOp} (hy:y.g=0∧y.act=.mark (.acquire (stA G.Wg))) :
  Pst G.Sh (G.n0+2) B (t ++ #[y]):=by
 have hq:(t ++ #[y]).act? t.size=some (.mark (.acquire (stA G.Wg))):=by simp [Trace.act?,hy.2]
 have hqg:(t ++ #[y]).g? t.size=some 0:=by simp [Trace.g?,hy.1]
 have hqh:(t ++ #[y]).heard t.size:=⟨0,hqg,by rw [deaf_old (zLe _)];exact hd⟩
 have hyt:∀ op ∈ #[y],op.act.touch?=none:=by
  intro op hop;obtain rfl:op=y:=by simpa using hop
  rw [hy.2];rfl
 have hn:NoRelease (stA G.Wg) (t ++ #[y]):=h.nr.app fun op hop=>by
  obtain rfl:op=y:=by simpa using hop
  rw [hy.2];simp
 have edge:∀ k r,RelBy (stA G.Wg) t k r->∀ i,i≤r->t.g? i=some k->HappensBefore (t ++ #[y]) i t.size:=by
  intro k r hr i hi hg;have hr':RelBy (stA G.Wg) (t ++ #[y]) k r:=hr.app fun i hi _ hc=>by
   obtain ⟨x,hx,_⟩:=hc;obtain ⟨op,hop,hox⟩:=touch_of hx;rcases getElem?_append_cases hop with ⟨hlt,_⟩|⟨_,hopu⟩
   ·omega
   ·rw [hyt op hopu] at hox;cases hox
  have hlt:r<t.size:=lt_of_act? hr.act;have e:HappensBefore (t ++ #[y]) r t.size:=.single (.inr ⟨.marked hlt (.inr hr'.act) hq (fun k _ _=>hn k),hr'.heard,hqh⟩);rcases Nat.lt_or_ge i r with hlt2|hge
  ·exact .trans (.single (.inl ⟨hlt2,k,by rw [g?_old (by omega)];exact hg,hr'.g⟩)) e
  ·obtain rfl:i=r:=by omega
   exact e
 have rel:∀ k,(k=G.n0∨k=G.n0+1)->∃ r,RelBy (stA G.Wg) t k r:=by
  rintro k (rfl|rfl)
  ·exact ⟨r1,h1⟩
  ·exact ⟨r2,h2⟩
 have acq:∀ i,HappensBefore (t ++ #[y]) i t.size->Knows (t ++ #[y]) 0 i:=fun i hb=>⟨t.size,y,by simp,hy.1,.inr hb⟩
 have hmem:∀ {op:MemOp},op ∈ t ++ #[y]->op ∈ t∨op=y:=by
  intro op hop;rcases Array.mem_append.1 hop with hx|hx
  ·exact .inl hx
  ·exact .inr (by simpa using hx)
 have hnr':∀ said,¬ Race said (t ++ #[y]):=fun said=>noRace_append (g:=0) (h.ct.nr said) (fun op hop=>by
  obtain rfl:op=y:=by simpa using hop
  exact hy.1) fun i a _ op hop b hb _=>(by rw [hyt op hop] at hb;cases hb)
 refine ⟨⟨hnr',fun i a ha hm=>?_,fun i g hg hne hc=>?_,?_,seen_app h.seen fun op hop=>?_⟩,h.ct.quiet.app fun op hop x hx=>(by rw [hyt op hop] at hx;cases hx),fun op hop=>?_,fun op hop a=>?_⟩
 ·obtain ⟨x,hx,hxa⟩:=touch_of ha
  rcases getElem?_append_cases hx with ⟨hi,hx'⟩|⟨_,hxu⟩
  ·have ha':touchAt t i=some a:=by rw [touchAt_of hx'];exact hxa
   rcases h.kn i a ha' hm with hk|hs|⟨hg,hs⟩
   ·exact .inl (hk.app _)
   ·exact .inr hs
   ·have hg':∃ k,(k=G.n0∨k=G.n0+1)∧t.g? i=some k:=hg.elim (fun e=>⟨_,.inl rfl,e⟩) (fun e=>⟨_,.inr rfl,e⟩)
    obtain ⟨k,hk,hgk⟩:=hg';obtain ⟨r,hr⟩:=rel k hk;rcases Nat.lt_or_ge r i with hlt|hge
    ·have hnc:=hr.after i hlt hgk
     have hat:a.kind=.atomic:=by
      apply Classical.byContradiction;intro hna;exact hnc ⟨a,ha',hm,.inl hna⟩
     exact .inr ⟨hs hat,hat⟩
    ·exact .inl (acq i (edge k r hr i hge hgk))
  ·rw [hyt x hxu] at hxa;cases hxa
 ·
  obtain ⟨x,hx,hxm,hxk⟩:=hc;obtain ⟨op,hop,hox⟩:=touch_of hx;rcases getElem?_append_cases hop with ⟨hi,hop'⟩|⟨_,hopu⟩
  ·have hg':t.g? i=some g:=by rw [← g?_old (u:=#[y]) hi];exact hg
   have hc':t.counts i:=(counts_old hi).1 ⟨x,hx,hxm,hxk⟩
   by_cases hk:g=G.n0∨g=G.n0+1
   ·obtain ⟨r,hr⟩:=rel g hk
    rcases Nat.lt_or_ge r i with hlt|hge
    ·exact absurd hc' (hr.after i hlt hg')
    ·exact ⟨t.size,hqg,edge g r hr i hge hg'⟩
   ·obtain ⟨q,hq0,hb⟩:=h.ov i g hg' hne (fun e=>hk (.inl e)) (fun e=>hk (.inr e)) hc'
    have hql:q<t.size:=by
     obtain ⟨z,hz,_⟩:=Option.map_eq_some_iff.1 hq0;exact lt_size_of_getElem? hz
    exact ⟨q,by rw [g?_old hql];exact hq0,hb_app _ hb⟩
  ·rw [hyt op hopu] at hox;cases hox
 ·rw [Deaf_still t 0 _ fun op hop=>by
   obtain rfl:op=y:=by simpa using hop
   rw [hy.2];simp]
  exact hd
 ·obtain rfl:op=y:=by simpa using hop
  rw [hy.2];exact hW
 ·rcases hmem hop with ho|rfl
  ·obtain ⟨i,hi⟩:=Array.mem_iff_getElem?.1 ho
   have:=h.ct.gs i op hi;omega
  ·rw [hy.1];omega
 ·rcases hmem hop with ho|rfl
  ·exact hnr op ho a
  ·rw [hy.2];simp
end
end Go.Mt
namespace Go.Mt
open Go.Tr Go.Conc Go.ConcN
open Go.ConcR (KK wgBlock WgAt stA smA rd wr mk Payload DC0 Bk g_of_ofEvents)
variable [Payload]
def No:Nat->Loc->Prop:=fun _ _=>False
structure PH where
 G:PG
 P:Program
 ty:TypeId
 W0:World
 Post:Nat->List Nat->World->Prop
def PH.Kp (H:PH) (i b:Nat):Prop:=H.G.Vis b∨(i=0∧b=H.G.c)∨(i=1∧b=H.G.hi)
def PH.Wx (H:PH) (i b:Nat):Prop:=(i=0∧b=H.G.c)∨(i=1∧b=H.G.hi)
def PH.Wr (H:PH) (i b:Nat):Prop:=i=1∧b=H.G.hi
structure PH.Ok (H:PH):Prop where
 G:H.G.Ok
 post:∀ i L w w₁,H.Post i L w->RelW H.ty H.G.Wg (H.Kp i) L w w₁->H.Post i L w₁
section
variable (H:PH)
abbrev PH.R (i:Nat):List Nat->World->World->Prop:=RelW H.ty H.G.Wg (H.Kp i)
abbrev PH.D (i:Nat):List Nat->List Nat->World->World->Array Event->Prop:=GuarW H.G.N0 H.G.Vis (H.Wr i)
def PH.AtRel (i:Nat) (L:List Nat) (g:Goroutine) (w:World):Prop :=
 (∃ C v,H.Kp i C∧C≠H.G.Wg∧AtR0 H.P H.ty H.G.Wg C 0 0 1 v g w)∧H.Post i L w
def PH.AtSend (L:List Nat) (g:Goroutine) (w:World):Prop :=
 g.status=.running∧∃ v z' b2 s r,stepG H.P false g w=.comm b2 #[scase H.G.c v z'] true .send w #[]∧w.heap[H.G.c]?=some (.chan 1 #[] false s r false) ∧
  WG H.P false (H.R 0) (H.D 0) (H.AtRel 0) L (Go.Conc.served b2 undef) (w.setChan H.G.c 1 #[v] false (s+1) r false)
abbrev y2c:Type:=Nat × Nat × Rk
inductive Wit (i:Nat):y2c->Nat->List Nat->Goroutine->World->Prop
 |s8 {r:Rk} {L:List Nat} {g:Goroutine} {w:World}:i=0->WR H.P false (H.R i) (H.D i) H.AtSend r L g w->Wit i (7,1,r) 0 L g w
 |s7 {r:Rk} {L:List Nat} {g:Goroutine} {w:World}:WR H.P false (H.R i) (H.D i) (H.AtRel i) r L g w->Wit i (7,0,r) 0 L g w
 |lib {C s m d:Nat} {v:Value} {L:List Nat} {g:Goroutine} {w:World}:s≤6->H.Kp i C->C≠H.G.Wg->WSit H.P H.ty H.G.Wg C 0 No No 0 1 v s m d g w->Wit i (s,0,rkN m) d L g w
end
section
variable {H:PH}
theorem y6f {i C:Nat} {L:List Nat} {w w₁:World} (hC:H.Kp i C) (h:H.R i L w w₁):RW H.ty H.G.Wg C 0 0 0 w w₁ :=
 ⟨fun b hb _ _=>absurd hb (Nat.not_lt_zero b),h.live,fun ⟨cs,h1,h2⟩=>⟨cs,(h.kept C hC).trans h1,h2⟩,cell_of_block (h.kept C hC) 0⟩
theorem Wit.rely {i:Nat} {ρ:y2c} {d:Nat} {L:List Nat} {g:Goroutine} {w w₁:World} (h:Wit H i ρ d L g w) (r:H.R i L w w₁):Wit H i ρ d L g w₁:=by
 cases h with
 |s8 hi h=>exact .s8 hi (h.rely RelW.trans r)
 |s7 h=>exact .s7 (h.rely RelW.trans r)
 |lib hs hC hW h=>exact .lib hs hC hW (h.rely (y6f hC r))
theorem Wit.status {i:Nat} {ρ:y2c} {d:Nat} {L:List Nat} {g:Goroutine} {w:World} (h:Wit H i ρ d L g w):g.status=.running∨g.status=.finished:=by
 cases h with
 |s8 hi h=>exact .inl (h.running RelW.refl fun L g w x=>x.1)
 |s7 h=>exact .inl (h.running RelW.refl fun L g w ⟨⟨_,_,_,_,x⟩,_⟩=>x.1)
 |lib hs hC hW h=>exact h.status
theorem Wit.running {i:Nat} {ρ:y2c} {d:Nat} {L:List Nat} {g:Goroutine} {w:World} (h:Wit H i ρ d L g w) (hs:ρ.1≠1):g.status=.running:=by
 cases h with
 |s8 hi h=>exact h.running RelW.refl fun L g w x=>x.1
 |s7 h=>exact h.running RelW.refl fun L g w ⟨⟨_,_,_,_,x⟩,_⟩=>x.1
 |lib h6 hC hW h=>exact h.running_of hs
end
structure y83 (H:PH) (w:World):Prop where
 tape:w.tape=H.W0.tape
 os:w.os=H.W0.os
 output:w.output=H.W0.output
 size:H.G.N0≤w.heap.size
 block:∀ b,b<H.G.N0->b≠H.G.c->b≠H.G.hi->b≠H.G.Wg->w.heap[b]?=H.W0.heap[b]?
structure Com (H:PH) (j:Nat) (gs:Array Goroutine) (w:World) (t:Trace) (D:Nat->WD) (d0:Nat) (L:Nat->List Nat) (R:Nat->y2c) (q:Nat->Nat):Prop where
 size:gs.size=H.G.n0+j
 j12:j=1∨j=2
 old:∀ i g,0<i->i<H.G.n0->gs[i]?=some g->QuitsD H.P (q i) (Deaf t i) g
 above:∀ i,gs.size≤i->Deaf t i=0
 wk:∀ i,i<j->∃ g,gs[H.G.n0+i]?=some g∧Wit H i (R i) (D i).deaf (L i) g w∧(R i).1=(D i).stage
 ti:TI H.G (L 0) (L 1) j w.heap.size t
 nr:∀ op ∈ t,∀ a,op.act≠.mark (.release a)
 deaf0:Deaf t 0=d0
 deafW:∀ i,i<j->Deaf t (H.G.n0+i)=(D i).deaf
 rel:∀ i,i<j->(D i).stage≤6->∃ r,RelBy (stA H.G.Wg) t (H.G.n0+i) r
 post:∀ i,i<j->(D i).stage≤6->H.Post i (L i) w
 fam:Fams H.G (L 0) (L 1) w.heap.size
 since:y83 H w
 one:j=1->L 1=[]∧w.heap[H.G.hi]?=H.W0.heap[H.G.hi]?
section
variable {H:PH} {j:Nat} {gs gs':Array Goroutine} {w w':World} {t u:Trace} {D:Nat->WD} {d0:Nat} {L:Nat->List Nat} {R:Nat->y2c} {q:Nat->Nat}
omit [Payload] in
theorem RelW.at {ty:TypeId} {Wg:Nat} {Kp:Nat->Prop} (L:List Nat) (w:World) (d:Nat):RelW ty Wg Kp L w (w.at d):=⟨rfl,rfl,zLe _,id,fun _ _=>rfl,fun _ _=>rfl⟩
theorem Com.at (h:Com H j gs w t D d0 L R q) (hP:H.Ok) (d:Nat):Com H j gs (w.at d) t D d0 L R q :=
 ⟨h.size,h.j12,h.old,h.above,fun i hi=>let ⟨g,h1,h2,h3⟩:=h.wk i hi;⟨g,h1,h2.rely (RelW.at _ w d),h3⟩,h.ti,h.nr,h.deaf0,h.deafW,h.rel,fun i hi hs=>hP.post _ _ _ _ (h.post i hi hs) (RelW.at _ w d),h.fam,
  ⟨h.since.tape,h.since.os,h.since.output,h.since.size,h.since.block⟩,h.one⟩
structure Turn (H:PH) (i:Nat) (L L':List Nat) (w w':World):Prop where
 tape:w'.tape=w.tape
 os:w'.os=w.os
 output:w'.output=w.output
 size:w.heap.size≤w'.heap.size
 pre:L <+: L'
 news:∀ (j b:Nat),L'[j]?=some b->L.length≤j->w.heap.size≤b
 within:∀ b,b ∈ L'->H.G.N0≤b∧b<w'.heap.size
 block:∀ b,b<w.heap.size->b ∉ L'->b≠H.G.Wg->¬ H.Wx i b->w'.heap[b]?=w.heap[b]?
 live:WgLive H.ty H.G.Wg w'
omit [Payload] in
theorem Turn.old {i:Nat} {L L':List Nat} (h:Turn H i L L' w w') {b:Nat} (hb:b ∈ L'):b ∈ L∨w.heap.size≤b:=by
 obtain ⟨j,hj⟩:=List.mem_iff_getElem?.1 hb;rcases Nat.lt_or_ge j L.length with hlt|hge
 ·obtain ⟨s,hs⟩:=h.pre
  rw [← hs,List.getElem?_append_left hlt] at hj;exact .inl (List.mem_iff_getElem?.2 ⟨j,hj⟩)
 ·exact .inr (h.news j b hj hge)
omit [Payload] in
theorem Turn.other {i i':Nat} {L L' M:List Nat} (hG:H.G.Ok) (h:Turn H i L L' w w') (hi:i<2) (hi':i'<2) (hne:i'≠i) (hN:H.G.N0≤w.heap.size) (hM:∀ b ∈ M,H.G.N0≤b∧b<w.heap.size) (hd:∀ b ∈ M,b ∉ L):H.R i' M w w':=by
 have hx:∀ b,H.Wx i b->b=H.G.c∨b=H.G.hi:=by
  rintro b (⟨_,e⟩|⟨_,e⟩)
  ·exact .inl e
  ·exact .inr e
 refine ⟨h.os,h.output,h.size,fun _=>h.live,fun b hb=>?_,fun b hb=>?_⟩
 ·rcases hb with hv|⟨e,rfl⟩|⟨e,rfl⟩
  ·obtain ⟨v1,v2,v3,v4,_⟩:=hG.vis b hv
   exact h.block b (by omega) (fun x=>by have:=(h.within b x).1;omega) v4 (fun x=>(hx b x).elim v2 v3)
  ·have:=hG.lc
   refine h.block _ (by omega) (fun x=>by have:=(h.within _ x).1;omega) hG.cw ?_
   rintro (⟨e2,_⟩|⟨_,e2⟩)
   ·omega
   ·exact hG.ch e2
  ·have:=hG.lh
   refine h.block _ (by omega) (fun x=>by have:=(h.within _ x).1;omega) hG.hw ?_
   rintro (⟨_,e2⟩|⟨e2,_⟩)
   ·exact hG.ch e2.symm
   ·omega
 ·have h1:=hM b hb
  have:=hG.lw;refine h.block b h1.2 (fun x=>?_) (by omega) (fun x=>?_)
  ·rcases h.old x with hx|hx
   ·exact hd b hb hx
   ·omega
  ·have:=hG.lc
   have:=hG.lh;rcases hx b x with e|e<;>omega
omit [Payload] in
theorem Turn.since {i:Nat} {L L':List Nat} (h:Turn H i L L' w w') (hs:y83 H w):y83 H w':=by
 refine ⟨h.tape.trans hs.tape,h.os.trans hs.os,h.output.trans hs.output,Nat.le_trans hs.size h.size,fun b hb h1 h2 h3=>(h.block b (Nat.lt_of_lt_of_le hb hs.size) (fun x=>by have:=(h.within b x).1;omega) h3 ?_).trans (hs.block b hb h1 h2 h3)⟩
 rintro (⟨_,e⟩|⟨_,e⟩)
 ·exact h1 e
 ·exact h2 e
theorem Com.stepW (hP:H.Ok) (h:Com H j gs w t D d0 L R q) {i:Nat} (hi:i<j) {g':Goroutine} {L':List Nat} {ρ:y2c} {dd:Nat}
  (hT:Turn H i (L i) L' w w') (hw:Wit H i ρ dd L' g' w')
  (hsz:gs'.size=gs.size) (hg':gs'[H.G.n0+i]?=some g') (hoth:∀ k x,0<k->k≠H.G.n0+i->gs[k]?=some x->(x.status=.running∨x.status=.finished)->gs'[k]?=some x)
  (hu:∀ op ∈ u,op.g=H.G.n0+i∧∀ x,op.act.touch?=some x->(H.G.Sh x.loc∧x.kind=.atomic)∨(x.kind=.plain∧(H.G.Own (upd L i L' 0) (upd L i L' 1) (H.G.n0+i) x.loc∨(H.G.Rd (H.G.n0+i) x.loc∧x.write=false))))
  (hl:∀ op ∈ u,op.act.low w'.heap.size) (hn:∀ op ∈ u,∀ a,op.act≠.mark (.release a))
  (hdeaf:Deaf (t ++ u) (H.G.n0+i)=dd) (hrel:ρ.1≤6->∃ r,RelBy (stA H.G.Wg) (t ++ u) (H.G.n0+i) r) (hpost:ρ.1≤6->H.Post i L' w') :
  Com H j gs' w' (t ++ u) (upd D i ⟨ρ.1,0,dd⟩) d0 (upd L i L') (upd R i ρ) q:=by
 have hG:=hP.G;have hj:=h.j12;have hi2:i<2:=by omega
 have hgu:∀ op ∈ u,op.g=H.G.n0+i:=fun op hop=>(hu op hop).1
 have hn1:=hG.n1;have hL:∀ k,k<2->∀ b ∈ L k,H.G.N0≤b∧b<w.heap.size:=by
  intro k hk b hb;obtain rfl|rfl:k=0∨k=1:=by omega
  ·exact h.fam.l1 b hb
  ·exact h.fam.l2 b hb
 have hdis:∀ k,k<2->k≠i->∀ b ∈ L k,b ∉ L i:=by
  intro k hk hne b hb hb2;obtain rfl|rfl:k=0∨k=1:=by omega
  ·obtain rfl:i=1:=by omega
   exact h.fam.ap b hb hb2
  ·obtain rfl:i=0:=by omega
   exact h.fam.ap b hb2 hb
 have hrel':∀ k,k<2->k≠i->H.R k (L k) w w':=fun k hk hne=>hT.other hG hi2 hk hne h.since.size (hL k hk) (hdis k hk hne)
 have hfam:Fams H.G (upd L i L' 0) (upd L i L' 1) w'.heap.size:=by
  have hnew:∀ b,b ∈ L'->b ∈ L i∨w.heap.size≤b:=fun b hb=>hT.old hb
  have key:∀ k,k<2->∀ b ∈ upd L i L' k,H.G.N0≤b∧b<w'.heap.size:=by
   intro k hk b hb
   by_cases e:k=i
   ·subst e
    rw [upd_same] at hb;exact hT.within b hb
   ·rw [upd_ne L _ e] at hb
    exact ⟨(hL k hk b hb).1,Nat.lt_of_lt_of_le (hL k hk b hb).2 hT.size⟩
  refine ⟨key 0 (by omega),key 1 (by omega),fun b h1 h2=>?_⟩;obtain rfl|rfl:i=0∨i=1:=by omega
  ·rw [upd_same] at h1
   rw [upd_ne L _ (by omega)] at h2;rcases hnew b h1 with hx|hx
   ·exact h.fam.ap b hx h2
   ·have:=(hL 1 (by omega) b h2).2
    omega
  ·rw [upd_same] at h2
   rw [upd_ne L _ (by omega)] at h1;rcases hnew b h2 with hx|hx
   ·exact h.fam.ap b h1 hx
   ·have:=(hL 0 (by omega) b h1).2
    omega
 have hti1:TI H.G (upd L i L' 0) (upd L i L' 1) j w.heap.size t:=by
  refine h.ti.grow (fun l k ho=>?_) (fun l k ho=>?_)
  ·have hmem:∀ a,a<2->∀ b,b ∈ upd L i L' a->inB b l->(b ∈ L a)∨∃ b,w.heap.size≤b∧inB b l:=by
    intro a ha b hb hl
    by_cases e:a=i
    ·subst e
     rw [upd_same] at hb;rcases hT.old hb with hx|hx
     ·exact .inl hx
     ·exact .inr ⟨b,hx,hl⟩
    ·rw [upd_ne L _ e] at hb
     exact .inl hb
   rcases ho with ⟨e,b,hb,hl⟩|⟨e,⟨b,hb,hl⟩|hl⟩
   ·exact (hmem 0 (by omega) b hb hl).imp (fun x=>.inl ⟨e,b,x,hl⟩) id
   ·exact (hmem 1 (by omega) b hb hl).imp (fun x=>.inr ⟨e,.inl ⟨b,x,hl⟩⟩) id
   ·exact .inl (.inr ⟨e,.inr hl⟩)
  ·have hmem:∀ a b,b ∈ L a->b ∈ upd L i L' a:=by
    intro a b hb
    by_cases e:a=i
    ·subst e
     rw [upd_same];exact List.IsPrefix.subset hT.pre hb
    ·rw [upd_ne L _ e]
     exact hb
   rcases ho with ⟨e,b,hb,hl⟩|⟨e,⟨b,hb,hl⟩|hl⟩
   ·exact .inl ⟨e,b,hmem 0 b hb,hl⟩
   ·exact .inr ⟨e,.inl ⟨b,hmem 1 b hb,hl⟩⟩
   ·exact .inr ⟨e,.inr hl⟩
 refine ⟨hsz.trans h.size,h.j12,fun k x h0 hlt hx=>?_,fun k hk=>?_,fun k hk=>?_,?_,?_,?_,fun k hk=>?_,fun k hk hs=>?_,fun k hk hs=>?_,hfam,hT.since h.since,fun e=>?_⟩
 ·have hlt2:k<gs.size:=by rw [h.size];omega
  have hy:gs[k]?=some gs[k]:=Array.getElem?_eq_getElem hlt2;have hq:=h.old k _ h0 hlt hy;rw [hoth k _ h0 (by omega) hy hq.status] at hx;obtain rfl:=zSi hx;rw [Deaf_other t (by omega) _ hgu];exact hq
 ·rw [Deaf_other t (g':=H.G.n0+i) (by rw [hsz,h.size] at hk;omega) _ hgu]
  exact h.above k (by rw [hsz] at hk;exact hk)
 ·by_cases e:k=i
  ·subst e
   exact ⟨g',hg',by rw [upd_same,upd_same,upd_same];exact hw,by rw [upd_same,upd_same]⟩
  ·obtain ⟨x,hx,hs,he⟩:=h.wk k hk
   refine ⟨x,hoth _ _ (by omega) (by omega) hx hs.status,?_,?_⟩
   ·rw [upd_ne D _ e,upd_ne L _ e,upd_ne R _ e]
    exact hs.rely (hrel' k (by omega) e)
   ·rw [upd_ne D _ e,upd_ne R _ e]
    exact he
 ·exact (hti1.mono hT.size).appW hG hfam (k:=H.G.n0+i) (by omega) (by omega) hu hl fun op hop=>hn op hop _
 ·intro op hop a
  rcases Array.mem_append.1 hop with hx|hx
  ·exact h.nr op hx a
  ·exact hn op hx a
 ·rw [Deaf_other t (by omega) _ hgu,h.deaf0]
 ·by_cases e:k=i
  ·subst e
   rw [upd_same];exact hdeaf
  ·rw [upd_ne D _ e,Deaf_other t (by omega) _ hgu,h.deafW k hk]
 ·by_cases e:k=i
  ·subst e
   rw [upd_same] at hs;exact hrel hs
  ·rw [upd_ne D _ e] at hs
   obtain ⟨r,hr⟩:=h.rel k hk hs;exact ⟨r,hr.appOther hgu (by omega)⟩
 ·by_cases e:k=i
  ·subst e
   rw [upd_same] at hs ⊢;exact hpost hs
  ·rw [upd_ne D _ e] at hs
   rw [upd_ne L _ e];exact hP.post _ _ _ _ (h.post k hk hs) (hrel' k (by omega) e)
 ·obtain rfl:i=0:=by omega
  obtain ⟨e1,e2⟩:=h.one e;refine ⟨by rw [upd_ne L _ (by omega)];exact e1,(hT.block _ (by have:=hG.lh;have:=h.since.size;omega) (fun x=>by have:=(hT.within _ x).1;have:=hG.lh;omega) hG.hw ?_).trans e2⟩
  rintro (⟨_,e⟩|⟨e,_⟩)
  ·exact hG.ch e.symm
  ·omega
end
end Go.Mt
namespace Go.Mt
open Go.Tr Go.Conc Go.ConcN
open Go.ConcR (KK wgBlock WgAt stA smA rd wr mk Payload DC0 Bk g_of_ofEvents again_blocked)
variable [Payload]
section
variable (H:PH)
def PH.EvM (e:Event):Prop :=
 (∀ x,(MemAct.ofEvent e).touch?=some x->inB H.G.Wg x.loc∧x.kind≠.plain)∧e.loc≠.mark .disable∧e.loc≠.mark .enable∧(∀ a,e.loc≠.mark (.release a))∧(MemAct.ofEvent e).low (H.G.Wg+1)
def PH.R0 (w w₁:World):Prop:=WgLive H.ty H.G.Wg w->WgLive H.ty H.G.Wg w₁
def PH.D0 (w w':World) (es:Array Event):Prop:=w'=w∧∀ e ∈ es,H.EvM e
variable (Fin:Goroutine->World->Prop) (AnchW:Goroutine->World->Prop)
def PH.AtAcq (g:Goroutine) (w:World):Prop :=
 g.status=.running∧∃ g',stepG H.P true g w=.go g' w #[Go.ConcR.mk (.acquire (stA H.G.Wg))]∧Fin g' w
def PH.AtKe (g:Goroutine) (w:World):Prop :=
 g.status=.running∧∃ g',stepG H.P true g w=.go g' w #[Go.ConcR.mk .enable]∧∃ m,(Goes H.P true H.R0 H.D0) (H.AtAcq Fin) m g' w
def PH.AtW4 (g:Goroutine) (w:World):Prop :=
 g.status=.running∧(WgAt H.ty H.G.Wg w 0 0->∃ g',stepG H.P true g w=.go g' w #[rd (stA H.G.Wg)]∧∃ m,(Goes H.P true H.R0 H.D0) (H.AtKe Fin) m g' w)
def PH.AtW3 (g:Goroutine) (w:World):Prop :=
 g.status=.running∧g.offers=none ∧
  ((∃ st,WgAt H.ty H.G.Wg w st 0)->stepG H.P true g w=.go { g with status:=.blocked } w #[]) ∧
  (WgAt H.ty H.G.Wg w 0 1->∃ g',stepG H.P true g w=.go g' (w.setCell (smA H.G.Wg) (.int .u32 0)) (semEvents (smA H.G.Wg))∧∃ m,(Goes H.P true H.R0 H.D0) (H.AtW4 Fin) m g' (w.setCell (smA H.G.Wg) (.int .u32 0)))
def PH.AtW2 (vs:Nat) (g:Goroutine) (w:World):Prop :=
 g.status=.running∧∀ v:Nat,v<2147483648->WgAt H.ty H.G.Wg w (v * KK) 0 →
  (v=vs->∃ g',stepG H.P true g w=.go g' (w.setCell (stA H.G.Wg) (.int .u64 (v * KK+1))) #[rd (stA H.G.Wg),wr (stA H.G.Wg)]∧∃ m,(Goes H.P true H.R0 H.D0) (H.AtW3 Fin) m g' (w.setCell (stA H.G.Wg) (.int .u64 (v * KK+1)))) ∧
  (v≠vs->∃ g',stepG H.P true g w=.go g' w #[rd (stA H.G.Wg)]∧∃ m,(Goes H.P true H.R0 H.D0) AnchW m g' w)
def PH.AtW1 (g:Goroutine) (w:World):Prop :=
 g.status=.running∧∀ v:Nat,v<2147483648->WgAt H.ty H.G.Wg w (v * KK) 0->∃ g',stepG H.P true g w=.go g' w #[rd (stA H.G.Wg)] ∧
  (v=0->∃ m,(Goes H.P true H.R0 H.D0) (H.AtKe Fin) m g' w)∧(v≠0->∃ m,(Goes H.P true H.R0 H.D0) (H.AtW2 Fin AnchW v) m g' w)
def PH.AtKd (g:Goroutine) (w:World):Prop :=
 g.status=.running∧∃ g',stepG H.P true g w=.go g' w #[Go.ConcR.mk .disable]∧∃ m,(Goes H.P true H.R0 H.D0) AnchW m g' w
def PH.AtGo (g:Goroutine) (w:World):Prop :=
 g.status=.running∧∃ g' child,stepG H.P true g w=.spawn g' child w #[] ∧
  (y83 H w->w.heap[H.G.hi]?=H.W0.heap[H.G.hi]?->WgLive H.ty H.G.Wg w->WG H.P false (H.R 1) (H.D 1) (H.AtRel 1) [] child w)∧∃ m,(Goes H.P true H.R0 H.D0) (H.AtKd AnchW) m g' w
inductive MSit:CTag->Nat->Nat->Nat->Goroutine->World->Prop
 |sgo {m:Nat} {g:Goroutine} {w:World}:(Goes H.P true H.R0 H.D0) (H.AtGo AnchW) m g w->MSit (.sp 0 2) 1 m 0 g w
 |kd {m:Nat} {g:Goroutine} {w:World}:(Goes H.P true H.R0 H.D0) (H.AtKd AnchW) m g w->MSit .kd 2 m 0 g w
 |anch {m:Nat} {g:Goroutine} {w:World}:(Goes H.P true H.R0 H.D0) AnchW m g w->MSit .anch 2 m 1 g w
 |w1 {m:Nat} {g:Goroutine} {w:World}:(Goes H.P true H.R0 H.D0) (H.AtW1 Fin AnchW) m g w->MSit .w1 2 m 1 g w
 |w2 {vs m:Nat} {g:Goroutine} {w:World}:(Goes H.P true H.R0 H.D0) (H.AtW2 Fin AnchW vs) m g w->MSit (.w2 vs) 2 m 1 g w
 |w3 {m:Nat} {g:Goroutine} {w:World}:(Goes H.P true H.R0 H.D0) (H.AtW3 Fin) m g w->MSit .w3 2 (m+1) 1 g w
 |blk {g:Goroutine} {w:World}:(∀ w₁,H.R0 w w₁->H.AtW3 Fin g w₁)->MSit .blk 2 0 1 { g with status:=.blocked } w
 |w4 {m:Nat} {g:Goroutine} {w:World}:(Goes H.P true H.R0 H.D0) (H.AtW4 Fin) m g w->MSit .w4 2 m 1 g w
 |ke {m:Nat} {g:Goroutine} {w:World}:(Goes H.P true H.R0 H.D0) (H.AtKe Fin) m g w->MSit .ke 2 m 1 g w
 |acq {m:Nat} {g:Goroutine} {w:World}:(Goes H.P true H.R0 H.D0) (H.AtAcq Fin) m g w->MSit .acq 2 m 0 g w
end
abbrev Mu:Type:=Nat × Nat × y2c × y2c × Nat × Nat
abbrev wlex:WellFoundedRelation y2c:=Prod.lex Nat.lt_wfRel (Prod.lex Nat.lt_wfRel ⟨RkLt,rk_wf⟩)
abbrev mlex:WellFoundedRelation Mu:=Prod.lex Nat.lt_wfRel (Prod.lex Nat.lt_wfRel (Prod.lex wlex (Prod.lex wlex (Prod.lex Nat.lt_wfRel Nat.lt_wfRel))))
def MLt:Mu->Mu->Prop:=mlex.rel
def WLt:y2c->y2c->Prop:=wlex.rel
theorem MLt.a {a a':Nat} {x x':Nat × y2c × y2c × Nat × Nat} (h:a'<a):MLt (a',x') (a,x):=Prod.Lex.left _ _ h
theorem MLt.q {a b b':Nat} {x x':y2c × y2c × Nat × Nat} (h:b'<b):MLt (a,b',x') (a,b,x):=Prod.Lex.right _ (Prod.Lex.left _ _ h)
theorem MLt.w1 {a b:Nat} {r r':y2c} {x x':y2c × Nat × Nat} (h:WLt r' r):MLt (a,b,r',x') (a,b,r,x):=Prod.Lex.right _ (Prod.Lex.right _ (Prod.Lex.left _ _ h))
theorem MLt.w2 {a b:Nat} {s r r':y2c} {x x':Nat × Nat} (h:WLt r' r):MLt (a,b,s,r',x') (a,b,s,r,x):=Prod.Lex.right _ (Prod.Lex.right _ (Prod.Lex.right _ (Prod.Lex.left _ _ h)))
theorem MLt.m {a b:Nat} {s r:y2c} {f f' m m':Nat} (h:f'<f∨(f'=f∧m'<m)):MLt (a,b,s,r,f',m') (a,b,s,r,f,m):=by
 refine Prod.Lex.right _ (Prod.Lex.right _ (Prod.Lex.right _ (Prod.Lex.right _ ?_)));rcases h with h|⟨rfl,h⟩
 ·exact Prod.Lex.left _ _ h
 ·exact Prod.Lex.right _ h
theorem WLt.stage {s s':Nat} {x x':Nat × Rk} (h:s'<s):WLt (s',x') (s,x):=Prod.Lex.left _ _ h
theorem WLt.sub {s u u':Nat} {x x':Rk} (h:u'<u):WLt (s,u',x') (s,u,x):=Prod.Lex.right _ (Prod.Lex.left _ _ h)
theorem WLt.rk {s u:Nat} {x x':Rk} (h:RkLt x' x):WLt (s,u,x') (s,u,x):=Prod.Lex.right _ (Prod.Lex.right _ h)
section
variable (H:PH) (Fin:Goroutine->World->Prop) (AnchW:Goroutine->World->Prop)
def Inv (μ:Mu) (m:Machine) (t:Trace):Prop :=
 ∃ (gs:Array Goroutine) (w:World) (sl:Option (Nat × Nat)) (j:Nat) (D:Nat->WD) (tag:CTag) (f0 d0:Nat) (a:Goroutine) (st sm:Int) (L:Nat->List Nat) (R:Nat->y2c) (q:Nat->Nat),
  m=crowd gs w sl∧gs[0]?=some a∧MSit H Fin AnchW tag j f0 d0 a w∧Com H j gs w t D d0 L R q∧WgAt H.ty H.G.Wg w st sm∧Go.ConcN.Mode j D tag st sm ∧
  μ=(2 - j,sumTo H.G.n0 q,R 0,R 1,phi 2 (Vc j D) tag,f0)
end
section
variable {H:PH} {Fin:Goroutine->World->Prop} {AnchW:Goroutine->World->Prop} {tag:CTag} {j f d:Nat} {a:Goroutine} {w w':World}
theorem y2l:∀ a b c,H.R0 a b->H.R0 b c->H.R0 a c:=fun _ _ _ h k x=>k (h x)
theorem y2h (w:World):H.R0 w w:=id
theorem r0_at (w:World) (d:Nat):H.R0 w (w.at d):=id
theorem MSit.rely (h:MSit H Fin AnchW tag j f d a w) (hr:H.R0 w w'):MSit H Fin AnchW tag j f d a w':=by
 cases h with
 |sgo h=>exact .sgo (Goes.rely y2l h hr)
 |kd h=>exact .kd (Goes.rely y2l h hr)
 |anch h=>exact .anch (Goes.rely y2l h hr)
 |w1 h=>exact .w1 (Goes.rely y2l h hr)
 |w2 h=>exact .w2 (Goes.rely y2l h hr)
 |w3 h=>exact .w3 (Goes.rely y2l h hr)
 |blk h=>exact .blk (fun w₂ h₂=>h w₂ (y2l _ _ _ hr h₂))
 |w4 h=>exact .w4 (Goes.rely y2l h hr)
 |ke h=>exact .ke (Goes.rely y2l h hr)
 |acq h=>exact .acq (Goes.rely y2l h hr)
theorem MSit.status (hAr:∀ g w,AnchW g w->g.status=.running) (h:MSit H Fin AnchW tag j f d a w):(a.status=.running∧tag≠.blk)∨(a.status=.blocked∧a.offers=none∧tag=.blk):=by
 cases h with
 |sgo h=>exact .inl ⟨Goes.running (fun _ _ x=>x.1) w (y2h w) h,by simp⟩
 |kd h=>exact .inl ⟨Goes.running (fun _ _ x=>x.1) w (y2h w) h,by simp⟩
 |anch h=>exact .inl ⟨Goes.running hAr w (y2h w) h,by simp⟩
 |w1 h=>exact .inl ⟨Goes.running (fun _ _ x=>x.1) w (y2h w) h,by simp⟩
 |w2 h=>exact .inl ⟨Goes.running (fun _ _ x=>x.1) w (y2h w) h,by simp⟩
 |w3 h=>exact .inl ⟨Goes.running (fun _ _ x=>x.1) w (y2h w) h,by simp⟩
 |blk h=>exact .inr ⟨rfl,(h w (y2h w)).2.1,rfl⟩
 |w4 h=>exact .inl ⟨Goes.running (fun _ _ x=>x.1) w (y2h w) h,by simp⟩
 |ke h=>exact .inl ⟨Goes.running (fun _ _ x=>x.1) w (y2h w) h,by simp⟩
 |acq h=>exact .inl ⟨Goes.running (fun _ _ x=>x.1) w (y2h w) h,by simp⟩
theorem MSit.wokenBy (hAr:∀ g w,AnchW g w->g.status=.running) (h:MSit H Fin AnchW tag j f d a w) (hr:H.R0 w w') (g g':Goroutine) :
  ∃ tag' f',MSit H Fin AnchW tag' j f' d (woken H.P g g' w' a) w'∧(tag'=tag∨(tag=.blk∧tag'=.w3))∧(mayWake H.P g=true->g'.status=.running->tag'≠.blk):=by
 have h':=h.rely hr;unfold Go.Conc.woken;split
 ·rcases h'.status hAr with ⟨hs,hne⟩|⟨_,_,rfl⟩
  ·exact ⟨tag,f,by rw [again_running _ (.inl hs)];exact h',.inl rfl,fun _ _=>hne⟩
  ·cases h' with
   |blk hb =>
    rename_i g0;have h3:=hb w' (y2h w');exact ⟨.w3,0+1,by rw [again_blocked h3.1 h3.2.1];exact .w3 (Goes.stop hb),.inr ⟨rfl,rfl⟩,fun _ _=>by simp⟩
 ·rename_i hc
  exact ⟨tag,f,h',.inl rfl,fun h1 h2=>absurd (by simp [h1,h2]) hc⟩
end
end Go.Mt
