/- The theorem of MobsNumbers, proved; part 4 of 7: its texts, merged. -/
import Derived.Test.YtdhgeondbnpeoaaNuC
import Derived.Maps.OwnOps
import Derived.DeepKeys4
import Derived.WalkSpells
import Derived.Maps.Keyed
set_option linter.unnecessarySimpa false
set_option linter.defProp false
set_option linter.unusedVariables false
set_option linter.unusedSimpArgs false
set_option linter.unusedSectionVars false
set_option maxRecDepth 100000
set_option maxHeartbeats 8000000
namespace Go.Proofs.Ytdhgeondbnpeoaa.Ext
open Go.RowKit Go.Proofs.Yw.Wd Go.Proofs.Yw.La Go.Proofs.Yw.Mo
section
attribute [local go_sem] y0y y0w y17 y16 y0q y0p y0x y0v
theorem info3:(Tra.prog.info? 3).map (fun i=>(i.zero,i.size,i.bytes))=some (some (.int .i64 0),1,8):=by kernel_rfl
theorem clone_calls (A:Option Addr) (c:Nat) (l:List Int) (w:World) (hr:Kd.C (Kd.int .i64) w A l.length l) (hL:l.length<17592186044416) :
  Calls Tra.prog 56 #[.slice A l.length c] w fun e w'=>∃ v,e=.returned v∧Kd.R (Kd.int .i64) 3 w' w.heap.size (fun _=>True) v l∧Below w.heap.size w w':=by
 have HR:=As0.mk hr;have HL:=As0.mk hL;have HB:=As0.mk (Below.refl w.heap.size w);clear hL;cases A with
 |none =>
  have hl:l=[]:=by
   rcases Nat.eq_zero_or_pos l.length with h|h
   ·exact List.eq_nil_of_length_eq_zero h
   ·obtain ⟨ad,h1,_⟩:=Kd.at_int hr 0 (by omega) (by omega)
    cases h1
  subst hl;clear hr;have hq:∀ W,(binOp .eql 29 (.slice none 0 c) (.slice none 0 0)).run Tra.prog W=.ok (.bool true) W:=fun W=>Lib.run_eql_slice_nil W 29 3 none _ _ _ _ Tra.underlying29
  go_enter Tra.func56,Tra.ntmps56
  go_wp2
  go_ret
  exact ⟨_,rfl,Kd.R_nil _ _ _ _ _,HB.out⟩
 |some ad =>
  clear hr;have hq:∀ W,(binOp .eql 29 (.slice (some ad) l.length c) (.slice none 0 0)).run Tra.prog W=.ok (.bool false) W:=fun W=>Lib.run_eql_slice_nil W 29 3 (some ad) _ _ _ _ Tra.underlying29
  go_enter Tra.func56,Tra.ntmps56
  go_wp2_with (first|((with_reducible refine y0n (N:=5) rfl ?_);refine Kd.R_lit (Kd.int .i64) _ 3 ?hg (N:=5) ?hd (xs:=([]:List Int)) (inner:=[]) (ok:=fun _=>True) (okp:=fun _=>True) ?hr ?hp (fun _ hk=>hk) trivial (Below.refl _ _) (zLe _) (by simp) ?_;(case hd=>rfl);(case hg=>rfl);(case hr=>first|(go_simp;done)|(go_simp;rfl));(case hp=>exact (Reps.none _ _));intro v464 w11 ho12 hb hg_ hnew_;have HO:=As0.mk ho12;have HB2:=As0.mk (y03 HB.out hb);clear HB hg_ hnew_ ho12 hb)|(at_builtin;refine Kd.R_append_rows (Kd.int .i64) (w0:=w) w.heap.size rfl (.tmp 5) (.tmp 6) 29 3 (.int .i64 0) 8 rfl Tra.underlying29 info3 rfl (by decide) (by omega) v464 [] l _ _ _ (fun _=>True) (fun _=>False) rfl rfl ?aO ?aR (fun _ _ h=>h) (fun _ h=>h.elim) ?aF ?aB ?aS ?aL ?_;(case aR=>exact (Kd.C_below HR.out HB2.out));(case aB=>exact HB2.out);(case aF=>exact (fun _ _=>trivial));(case aO=>exact HO.out);(case aS=>exact y04 HB2.out);(case aL=>have:=HL.out;simp only [List.length_nil];omega);intro v467 w13 ho hb hg hat))
  go_ret
  exact ⟨_,rfl,ho,hb⟩
theorem alive_calls (w:World):Calls Tra.prog 20 #[] w fun e w'=>e=.returned (.bool true)∧Below w.heap.size w w':=by
 go_enter Tra.func20,Tra.ntmps20
 go_wp2
 go_ret
 exact ⟨rfl,Below.refl _ _⟩
end
section
def OwnI (w:World) (base:Nat) (v:Value) (xs:List Int):Prop :=
 w.ownsRow base 3 1 v xs.length (nums .i64 xs)∧∀ g cs fr,v.ownBlock=some g->w.heap[g]?=some (.cells cs 3 fr)->∀ c ∈ cs,∃ x,c=.int .i64 x
theorem OwnI.nil (w:World) (base:Nat):OwnI w base (.slice none 0 0) []:=⟨yd4 _ _ _ _,fun g cs fr h=>by simp [Value.ownBlock] at h⟩
theorem OwnI.move {w w1:World} {base:Nat} {v:Value} {xs:List Int} (h:OwnI w base v xs) (hm:∀ k,v.ownBlock=some k->w1.heap[k]?=w.heap[k]?):OwnI w1 base v xs :=
 ⟨yat h.1 hm,fun g cs fr hg hb=>h.2 g cs fr hg ((hm g hg).symm.trans hb)⟩
theorem OwnI.lt {w:World} {base:Nat} {v:Value} {xs:List Int} (h:OwnI w base v xs) (k:Nat) (hk:v.ownBlock=some k):base≤k∧k<w.heap.size:=h.1.lt k hk
theorem OwnI.lower {w:World} {base base':Nat} {v:Value} {xs:List Int} (h:OwnI w base v xs) (hb:base'≤base):OwnI w base' v xs:=⟨y6v h.1 hb,h.2⟩
theorem OwnI.below {w w1:World} {base:Nat} {v:Value} {xs:List Int} (h:OwnI w base v xs) (hb:Below w.heap.size w w1):OwnI w1 base v xs:=h.move fun k hk=>hb.block k (h.lt k hk).2
theorem OwnI.grown {w w1:World} {base:Nat} {v:Value} {xs:List Int} (h:OwnI w base v xs) {row:Option Nat} (hg:w.grownBy w1 row) (hne:v.ownBlock=none∨v.ownBlock≠row):OwnI w1 base v xs :=
 h.move fun k hk=>hg.block k (h.lt k hk).2 (by
  rcases hne with h0|h0
  ·rw [hk] at h0;cases h0
  ·rw [← hk];exact h0)
theorem OwnI.toR {w:World} {base:Nat} {v:Value} {xs:List Int} (h:OwnI w base v xs):Kd.R (Kd.int .i64) 3 w base (fun _=>True) v xs:=by
 refine ⟨fun _ _=>trivial,nums .i64 xs,h.1,?_⟩;refine ⟨by simp [nums,Kd.int,Kd.scalar],fun j p hj=>?_⟩;show _=_;simp only [nums,Kd.int,Kd.scalar,Nat.mul_one];obtain ⟨hlt,rfl⟩:=List.getElem?_eq_some_iff.1 hj;rw [List.drop_eq_getElem_cons (by simpa using hlt)];simp
theorem yc6 (n:Nat):∀ c ∈ Builtin.zeroCells #[Value.int .i64 0] n,c=.int .i64 0:=by
 intro c hc;unfold Builtin.zeroCells at hc;obtain ⟨i,_,rfl⟩:=Array.mem_map.1 hc;show #[Value.int .i64 0][i % 1]! = _;rw [Nat.mod_one];rfl
section
variable {P:Program} {w:World}
theorem y9r {t ty:TypeId} {i:TypeInfo} (ht:P.underlying t=some (.slice 3)) (hi:P.info? 3=some i) (hz:i.zero=some (.int .i64 0)) (hs:i.size=1) (hby:i.bytes=8) {base:Nat} {v:Value} {xs:List Int} (HO:OwnI w base v xs) (hbase:base≤w.heap.size)
  {ad:Addr} {c:Nat} {y:Int} (hy:w.cell? ad=some (.int .i64 y)) (hl:xs.length+1≤17592186044416) :
  ∃ v' w',(Builtin.append_ #[t,t] ty #[v,.slice (some ad) 1 c]).run P w=.ok v' w'∧OwnI w' base v' (xs ++ [y])∧w.grownBy w' v.ownBlock∧(v'.ownBlock=v.ownBlock∨v'.ownBlock=some w.heap.size):=by
 have hnews:∀ j u,[Value.int .i64 y][j]?=some u->w.cell? (ad.add j)=some u:=by
  intro j u hu;rcases j with _|j
  ·injection hu with hu
   subst hu;have e:ad.add 0=ad:=by cases ad with|mk b o s=>unfold Addr.add;split<;>simp_all
   rw [e];exact hy
  ·simp at hu
 have grown:∀ (old:Nat) (row:Option Nat),OwnI (w.drew.alloc (.cells ((nums .i64 xs).toArray ++ [Value.int .i64 y].toArray ++ Builtin.zeroCells #[Value.int .i64 0] (grownCap w (xs.length+1) old 3 - (xs.length+1))) 3)) base (.slice (some ⟨w.heap.size,0,none⟩) (xs.length+1) (grownCap w (xs.length+1) old 3)) (xs ++ [y]) ∧
   w.grownBy (w.drew.alloc (.cells ((nums .i64 xs).toArray ++ [Value.int .i64 y].toArray ++ Builtin.zeroCells #[Value.int .i64 0] (grownCap w (xs.length+1) old 3 - (xs.length+1))) 3)) row:=by
  intro old row;have hge:=grownCap_ge w (xs.length+1) old 3;have hcm:grownCap w (xs.length+1) old 3≤maxLen:=grownCap_le_maxLen w (xs.length+1) old 3 (by simp only [maxLen];omega);have hn:(nums .i64 xs).length=xs.length:=by simp [nums]
  have hsz:(Builtin.zeroCells #[Value.int .i64 0] (grownCap w (xs.length+1) old 3 - (xs.length+1))).size=grownCap w (xs.length+1) old 3 - (xs.length+1):=by rw [size_zeroCells];simp
  refine ⟨⟨⟨by simp [nums],.inr ⟨w.heap.size,_,_,by simp,hbase,heap_alloc_new w.drew _,by simp;omega,hcm,?_,?_⟩⟩,?_⟩,⟨rfl,rfl,rfl,by simp,fun k hk _=>heap_alloc_old w.drew _ hk⟩⟩
  ·simp only [Array.size_append,List.size_toArray,hn,hsz,List.length_singleton];omega
  ·rw [show (nums IntKind.i64 (xs ++ [y]))=nums .i64 xs ++ [Value.int .i64 y] by simp [nums]]
   simp only [Array.toList_append,List.length_append,List.length_singleton,Nat.mul_one];rw [show xs.length+1=(nums .i64 xs ++ [Value.int .i64 y]).length by simp [nums]];exact List.take_left
  ·intro g cs fr hg hb
   have hg':w.heap.size=g:=by simpa [Value.ownBlock] using hg
   subst hg';have hb':(w.drew.alloc (.cells ((nums .i64 xs).toArray ++ [Value.int .i64 y].toArray ++ Builtin.zeroCells #[Value.int .i64 0] (grownCap w (xs.length+1) old 3 - (xs.length+1))) 3)).heap[w.heap.size]?=_:=heap_alloc_new w.drew _;rw [hb'] at hb;injection hb with hb
   injection hb with hb
   subst hb;intro c hc;simp only [Array.mem_append,List.mem_toArray] at hc;rcases hc with (hc|hc)|hc
   ·simp only [nums,List.mem_map] at hc
    obtain ⟨x,_,rfl⟩:=hc;exact ⟨x,rfl⟩
   ·exact ⟨y,by simpa using hc⟩
   ·exact ⟨0,yc6 _ c hc⟩
 have hcopy:=HO;obtain ⟨⟨h1,h2⟩,h3⟩:=HO;rcases h2 with ⟨rfl,h0⟩|⟨g,cap,cur,rfl,hbg,hg,hnc,hcm,hcs,htake⟩
 ·have hx:xs=[]:=List.eq_nil_of_length_eq_zero h0
  subst hx;have hr:=run_append_nil (P:=P) w t ty 3 i (.int .i64 0) ht hi hz ad 1 c [Value.int .i64 y] (by rw [hs];rfl) hnews (by omega) (by omega) (by rw [hby];omega);have hgr:=grown 0 (Value.ownBlock (.slice none 0 0));simp only [List.length_nil,Nat.zero_add,List.nil_append,nums,List.map_nil,Array.empty_append] at hgr ⊢;exact ⟨_,_,hr,hgr.1,hgr.2,.inr rfl⟩
 ·by_cases hroom:xs.length+1≤cap
  ·have hcs':cur.size=cap:=by rw [hcs,Nat.mul_one]
   have hr:=run_append_room (P:=P) w t ty 3 i ht hi g xs.length cap cur hg ad 1 c [Value.int .i64 y] (by rw [hs];rfl) hnews (by simp [Value.oneCell']) hroom (by rw [hs,hcs'];simp;omega);rw [hs,Nat.mul_one] at hr;rw [Nat.mul_one] at htake;refine ⟨_,_,hr,⟨⟨by simp [nums],.inr ⟨g,cap,_,by simp,hbg,setRow_heap w g cur _ 3 _ hg,by simp;omega,hcm,?_,?_⟩⟩,?_⟩,⟨rfl,rfl,rfl,by simp,fun k _ hk=>setRow_other w g k _ (fun e=>hk (by simp [Value.ownBlock,e]))⟩,.inl rfl⟩
   ·simp only [List.size_toArray,List.length_append,List.length_take,List.length_drop,Array.length_toList,List.length_singleton]
    omega
   ·simp only [List.length_append,List.length_singleton,Nat.mul_one]
    rw [htake,show (nums IntKind.i64 (xs ++ [y]))=nums .i64 xs ++ [Value.int .i64 y] by simp [nums],show xs.length+1=(nums .i64 xs ++ [Value.int .i64 y]).length by simp [nums]];exact List.take_left
   ·intro g' cs fr hg' hb
    have e:g=g':=by simpa [Value.ownBlock] using hg'
    subst e;rw [setRow_heap w g cur _ 3 _ hg] at hb;injection hb with hb
    injection hb with hb
    subst hb;intro c hc;simp only [List.mem_toArray,List.mem_append] at hc;rcases hc with (hc|hc)|hc
    ·exact h3 g cur _ rfl hg c (Array.mem_def.2 (List.mem_of_mem_take hc))
    ·exact ⟨y,by simpa using hc⟩
    ·exact h3 g cur _ rfl hg c (Array.mem_def.2 (List.mem_of_mem_drop hc))
  ·have holds:∀ j u,(nums .i64 xs)[j]?=some u->w.cell? ((⟨g,0,none⟩:Addr).add j)=some u:=hcopy.1.cells (g:=g) rfl
   have hr:=run_append_grow (P:=P) w t ty 3 i (.int .i64 0) ht hi hz ⟨g,0,none⟩ xs.length cap (nums .i64 xs) (by rw [hs];simp [nums]) holds ad 1 c [Value.int .i64 y] (by rw [hs];rfl) hnews (by omega) (by omega) (growslice_fits (by omega) (by rw [hby];omega));have hgr:=grown cap (Value.ownBlock (.slice (some ⟨g,0,none⟩) xs.length cap));exact ⟨_,_,hr,hgr.1,hgr.2,.inr rfl⟩
end
section
variable {P:Program} {ops:Array Oper} {rest:List Oper} {o:Oper} {a:Act} {Q:Exit->Act->World->Prop}
theorem y2q {W:World} (base:Nat) (hgd:o.guard=none) (s x:Operand) (t:TypeId)
  (ho:o.op=.call { callee:=.builtin .append,args:=#[s,x],argTypes:=#[t,t] })
  (ht:P.underlying t=some (.slice 3)) (hinfo:(P.info? 3).map (fun i=>(i.zero,i.size,i.bytes))=some (some (.int .i64 0),1,8))
  (v:Value) (xs:List Int) (y:Int) (hs:a.eval s=v) (hx:a.eval x=.slice (some ⟨W.heap.size,0,none⟩) 1 1)
  (HO:OwnI W base v xs) (hbase:base≤W.heap.size) (hl:xs.length+1≤17592186044416)
  (h:∀ v1 w1,OwnI w1 base v1 (xs ++ [y])->W.grownBy w1 v.ownBlock->(v1.ownBlock=v.ownBlock∨∃ b,v1.ownBlock=some b∧W.heap.size≤b)->wpList P ops Q rest (a.put o.dst v1) w1) :
  wpList P ops Q (o :: rest) a (W.alloc (.cells #[.int .i64 y] 3)):=by
 obtain ⟨i0,hi,hzz⟩:=Option.map_eq_some_iff.1 hinfo;simp only [Prod.mk.injEq] at hzz;obtain ⟨hz0,hz1,hz2⟩:=hzz;have hb:(W.alloc (.cells #[.int .i64 y] 3)).heap[W.heap.size]?=some (.cells #[.int .i64 y] 3 (0,0)):=heap_alloc_new _ _;have hc:(W.alloc (.cells #[.int .i64 y] 3)).cell? ⟨W.heap.size,0,none⟩=some (.int .i64 y):=(y0m hb 0).trans rfl;obtain ⟨v',w',hr,h2,h3,h4⟩:=y9r (P:=P) (w:=W.alloc (.cells #[.int .i64 y] 3)) (t:=t) (ty:=o.type) (c:=1) ht hi hz0 hz1 hz2 (HO.below (y01 (Below.refl _ _) _)) (by simp;omega) hc hl;refine wpList_plain hgd fun _ hK=>?_
 unfold Oper.wp execOp;simp only [ho,resolve,invoke,builtin,Sem.run_bind,Sem.run_pure,Result.andThen_ok,List.map_toArray,List.map_cons,List.map_nil,hs,hx,hr];refine hK _ _ (h v' w' h2 (World.grownBy.trans (World.grownBy_alloc W _ _) h3) ?_);rcases h4 with h4|h4
 ·exact .inl h4
 ·exact .inr ⟨_,h4,by simp⟩
end
end
section
section
variable {α:Type} [DecidableEq α]
def met (S:List α) (x:α):List α:=if x ∈ S then S else S ++ [x]
def y29 (s:List α × List Int) (x:α):List α × List Int:=(met s.1 x,s.2 ++ [((met s.1 x).idxOf x:Int)])
def y1r (l:List α):List α × List Int:=l.foldl y29 ([],[])
def numL (l:List α):List Int:=(y1r l).2
theorem y4h (l:List α) (x:α):y1r (l ++ [x])=y29 (y1r l) x:=by simp [y1r]
theorem y6w {l:List α} {k:Nat} (h:k<l.length):y1r (l.take (k+1))=y29 (y1r (l.take k)) l[k]:=by
 rw [List.take_succ_eq_append_getElem h,y4h]
theorem ydc {S:List α} (h:S.Nodup) (x:α):(met S x).Nodup:=by
 unfold met;split
 ·exact h
 ·rename_i hx
  rw [List.nodup_append];refine ⟨h,by simp,?_⟩;intro a ha b hb e;rw [List.mem_singleton] at hb;exact hx (hb ▸ e ▸ ha)
theorem y4a (l:List α):(y1r l).2.length=l.length∧(y1r l).1.length≤l.length:=by
 suffices h:∀ (l:List α) (s:List α × List Int),(l.foldl y29 s).2.length=s.2.length+l.length∧(l.foldl y29 s).1.length≤s.1.length+l.length by
  have:=h l ([],[]);simpa [y1r] using this
 intro l
 induction l with
 |nil=>intro s;simp
 |cons x l ih =>
  intro s;obtain ⟨h1,h2⟩:=ih (y29 s x);rw [List.foldl_cons];have h3:(y29 s x).2.length=s.2.length+1:=by simp [y29]
  have h4:(y29 s x).1.length≤s.1.length+1:=by
   simp only [y29,met];split<;>simp
  refine ⟨by rw [h1,h3,List.length_cons];omega,by rw [List.length_cons];omega⟩
theorem y7x (l:List α):(numL l).length=l.length:=(y4a l).1
end
structure KeyD (P:Program) (α:Type) where
 enc:α->Value
 kt:TypeId
 ok:α->Prop
 inj:∀ {x y},enc x=enc y->x=y
 keyed:Go.Maps.Keyed P kt
 key:∀ {x},ok x->∃ l,keyOf P kt (enc x)=some l
section
variable {P:Program} {α:Type} [DecidableEq α] {D:KeyD P α}
def Named (D:KeyD P α) (w:World) (g:Nat) (S:List α):Prop :=
 S.Nodup∧(∀ x ∈ S,D.ok x)∧∃ (es:Array MapEntry) (clock:Nat),w.heap[g]?=some (.map es clock)∧es.size=S.length∧∀ (i:Nat) (e:MapEntry),es.toList[i]?=some e->∃ x,S[i]?=some x∧e.key=D.enc x∧e.val=.int .i64 (i:Int)
theorem Named.made (D:KeyD P α) (w:World):Named D (w.alloc (.map #[] 0)) w.heap.size []:=⟨List.nodup_nil,by simp,#[],0,heap_alloc_new _ _,rfl,by simp⟩
theorem Named.lt {w:World} {g:Nat} {S:List α} (h:Named D w g S):g<w.heap.size:=by
 obtain ⟨_,_,es,clock,hb,_⟩:=h;exact y4z hb
theorem Named.move {w w1:World} {g:Nat} {S:List α} (h:Named D w g S) (hm:w1.heap[g]?=w.heap[g]?):Named D w1 g S:=by
 obtain ⟨h1,h2,es,clock,hb,r⟩:=h;exact ⟨h1,h2,es,clock,hm.trans hb,r⟩
theorem Named.keys {S:List α} (hok:∀ x ∈ S,D.ok x) {es:Array MapEntry} (r:∀ (i:Nat) (e:MapEntry),es.toList[i]?=some e->∃ x,S[i]?=some x∧e.key=D.enc x∧e.val=.int .i64 (i:Int)):∀ e ∈ es.toList,∃ l,keyOf P D.kt e.key=some l:=by
 intro e he;obtain ⟨i,hi⟩:=List.mem_iff_getElem?.1 he;obtain ⟨x,hx,hk,_⟩:=r i e hi;rw [hk];exact D.key (hok x (List.mem_of_getElem? hx))
theorem Named.find {w:World} {g:Nat} {S:List α} (h:Named D w g S) {x:α} (hx:D.ok x):∃ es clock l,w.heap[g]?=some (.map es clock)∧es.size=S.length∧keyOf P D.kt (D.enc x)=some l ∧
  ((x ∉ S∧(Instr.findKey D.kt (D.enc x) es.toList).run P w=.ok none w)∨(x ∈ S∧∃ j,(Instr.findKey D.kt (D.enc x) es.toList).run P w=.ok (some (j,.int .i64 (S.idxOf x:Int))) w)):=by
 obtain ⟨hn,hok,es,clock,hb,hs,r⟩:=h;obtain ⟨l,hl⟩:=D.key hx;refine ⟨es,clock,l,hb,hs,hl,?_⟩;rcases D.keyed.find w hl es.toList (Named.keys hok r) with ⟨h1,h2⟩|⟨j,e0,h1,h2,h3⟩
 ·refine .inl ⟨fun hin=>?_,h1⟩
  obtain ⟨i,hi⟩:=List.mem_iff_getElem?.1 hin;have hlt:i<es.toList.length:=by
   have:=(List.getElem?_eq_some_iff.1 hi).1;simpa [hs] using this
  obtain ⟨y,hy,hk,_⟩:=r i _ (List.getElem?_eq_getElem hlt);rw [hi] at hy;injection hy with hy
  subst hy;exact h2 _ (List.getElem_mem hlt) hk
 ·obtain ⟨y,hy,hk,hv⟩:=r j e0 h2
  have e:y=x:=D.inj (hk.symm.trans h3);subst e;obtain ⟨hlt,hj⟩:=List.getElem?_eq_some_iff.1 hy;have hi:S.idxOf y=j:=by rw [← hj];exact hn.idxOf_getElem j hlt
  exact .inr ⟨List.mem_of_getElem? hy,j,by rw [h1,hv,hi]⟩
theorem Named.lookup {w:World} {g:Nat} {S:List α} (h:Named D w g S) {mt:TypeId} (hmt:P.underlying mt=some (.map D.kt 3)) (hz:(zeroValue 3).run P w=.ok (.int .i64 0) w) {x:α} (hx:D.ok x) :
  (x ∉ S∧(Instr.lookup mt (.map (some g)) (D.enc x) true).run P w=.ok (.tuple #[.int .i64 0,.bool false]) w) ∨
  (x ∈ S∧(Instr.lookup mt (.map (some g)) (D.enc x) true).run P w=.ok (.tuple #[.int .i64 (S.idxOf x:Int),.bool true]) w):=by
 obtain ⟨es,clock,l,hb,hs,hl,h⟩:=h.find hx;rcases h with ⟨h1,h2⟩|⟨h1,j,h2⟩
 ·refine .inl ⟨h1,?_⟩
  simp [Instr.lookup,run_underlying hmt,MapKept.run_getObj_map hb,D.keyed.check w _ hl,h2,hz,Result.andThen]
 ·refine .inr ⟨h1,?_⟩
  simp [Instr.lookup,run_underlying hmt,MapKept.run_getObj_map hb,D.keyed.check w _ hl,h2,Result.andThen]
theorem Named.get {w:World} {g:Nat} {S:List α} (h:Named D w g S) {mt:TypeId} (hmt:P.underlying mt=some (.map D.kt 3)) {x:α} (hx:D.ok x) (hin:x ∈ S) :
  (Instr.lookup mt (.map (some g)) (D.enc x) false).run P w=.ok (.int .i64 (S.idxOf x:Int)) w:=by
 obtain ⟨es,clock,l,hb,hs,hl,h⟩:=h.find hx;rcases h with ⟨h1,h2⟩|⟨h1,j,h2⟩
 ·exact absurd hin h1
 ·simp [Instr.lookup,run_underlying hmt,MapKept.run_getObj_map hb,D.keyed.check w _ hl,h2,Result.andThen]
theorem Named.len {w:World} {g:Nat} {S:List α} (h:Named D w g S) {mt ty:TypeId} (hmt:P.underlying mt=some (.map D.kt 3)) :
  (Builtin.len_ #[mt] ty #[.map (some g)]).run P w=.ok (.int .i64 (S.length:Int)) w:=by
 obtain ⟨hn,hok,es,clock,hb,hs,r⟩:=h;simp [Builtin.len_,run_underlying hmt,MapKept.run_getObj_map hb,Result.andThen,hs,goInt]
theorem y62 {w:World} {g:Nat} (o:Obj):w.grownBy (Go.ChangeMaps.setBlock w g o) (some g) :=
 ⟨rfl,rfl,rfl,by simp [Go.ChangeMaps.setBlock],fun i hi hne=>by
  have:g≠i:=fun e=>hne (by rw [e])
  simp [Go.ChangeMaps.setBlock,Array.getElem?_setIfInBounds,this]⟩
theorem y95 {w:World} {g:Nat} (h:g<w.heap.size) (o:Obj):(Go.ChangeMaps.setBlock w g o).heap[g]?=some o:=by
 simp [Go.ChangeMaps.setBlock,Array.getElem?_setIfInBounds,h]
theorem Named.update {w:World} {g:Nat} {S:List α} (h:Named D w g S) {mt:TypeId} (hmt:P.underlying mt=some (.map D.kt 3)) {x:α} (hx:D.ok x) (hin:x ∉ S) :
  ∃ w',(Instr.mapUpdate mt (.map (some g)) (D.enc x) (.int .i64 (S.length:Int))).run P w=.ok () w'∧Named D w' g (S ++ [x])∧w.grownBy w' (some g):=by
 have hf:=h.find hx;obtain ⟨hn,hok,es,clock,hb,hs,r⟩:=h;obtain ⟨es',clock',l,hb',hs',hl,hf⟩:=hf;rw [hb] at hb';injection hb' with hb'
 injection hb' with e1 e2
 subst e1 e2;rcases hf with ⟨h1,h2⟩|⟨h1,_⟩
 ·have hlt:=y4z hb
  refine ⟨Go.ChangeMaps.setBlock w g (.map (es.push { key:=D.enc x,val:=.int .i64 (S.length:Int),born:=clock }) (clock+1)),?_,⟨?_,?_,_,_,y95 hlt _,?_,?_⟩,y62 _⟩
  ·simp [Instr.mapUpdate,run_underlying hmt,MapKept.run_getObj_map hb,D.keyed.check w _ hl,h2,MapKept.run_setObj_map _ hb,Result.andThen,Go.ChangeMaps.setBlock]
  ·have:=ydc hn x
   rwa [met,if_neg hin] at this
  ·intro y hy
   rcases List.mem_append.1 hy with hy|hy
   ·exact hok y hy
   ·rw [List.mem_singleton.1 hy];exact hx
  ·simp [hs]
  ·intro i e he
   have hsl:es.toList.length=S.length:=by simp [hs]
   rw [Array.toList_push] at he;rcases Nat.lt_or_ge i S.length with hi|hi
   ·rw [List.getElem?_append_left (by omega)] at he
    obtain ⟨y,hy,r2⟩:=r i e he;exact ⟨y,by rw [List.getElem?_append_left hi];exact hy,r2⟩
   ·have hi2:i=S.length:=by
     have:=(List.getElem?_eq_some_iff.1 he).1;simp only [List.length_append,List.length_singleton] at this;omega
    subst hi2;rw [← hsl,List.getElem?_concat_length] at he;injection he with he
    subst he;exact ⟨x,by simp,rfl,by simp [hs]⟩
 ·exact absurd h1 hin
end
end
section
attribute [local go_sem] y0y y0w y17 y16 y0q y0p y0x y0v
theorem yit:laidOutB Tra.prog=true:=by kernel_rfl
theorem zero3 (w:World):(zeroValue 3).run Tra.prog w=.ok (.int .i64 0) w:=Tra.zeroValue3 w
def In64 (x:Int):Prop:=-9223372036854775808≤x∧x≤9223372036854775807
instance (x:Int):Decidable (In64 x):=inferInstanceAs (Decidable (_∧_))
theorem wf64 {x:Int} (h:In64 x):(Lit.int .i64 x).wf=true:=by
 have h1:IntKind.i64.min = -9223372036854775808:=by decide
 have h2:IntKind.i64.max=9223372036854775807:=by decide
 unfold In64 at h;simp only [Lit.wf,h1,h2,Bool.and_eq_true,decide_eq_true_eq];omega
theorem num_key {x:Int} (h:In64 x):∃ l,keyOf Tra.prog 3 (.int .i64 x)=some l:=by
 have ht:Tra.prog.keyType 3=true:=by kernel_rfl
 have hfo:(Value.int .i64 x).formed Tra.prog 3=true:=by kernel_rfl
 have hw:=wf64 h;unfold keyOf;rw [Tra.underlying3];simp [ht,hfo,hw,mapKey,Tra.underlying3]
def kInt:KeyD Tra.prog Int:=⟨.int .i64,3,In64,fun h=>by injection h,Go.Maps.int_keyed Tra.underlying3,num_key⟩
theorem num_all (A:Option Addr) (c:Nat) (l:List Int) (w:World) (hr:Kd.C (Kd.int .i64) w A l.length l) (hok:∀ x ∈ l,In64 x) (hL:l.length<17592186044416) :
  Calls Tra.prog 54 #[.slice A l.length c] w fun e w'=>∃ v,e=.returned v∧OwnI w' w.heap.size v (numL l)∧Below w.heap.size w w':=by
 have HR:=As0.mk hr;have HL:=As0.mk hL;have HOK:=As0.mk hok;clear hr hL hok;have hmm:=@run_makeMap Tra.prog;go_enter Tra.func54,Tra.ntmps54
 go_wp2_with fail
 go_loopw [4,12] (fun v4 v12 W=>∃ k:Nat,v12=.int .i64 k∧As0 (k≤l.length)∧As0 (Named kInt W w.heap.size (y1r (l.take k)).1)∧As0 (OwnI W w.heap.size v4 (y1r (l.take k)).2)∧As0 (Below w.heap.size w W)) (fun v4 v12 _=>(l.length - intOf v12).toNat)
 case atStart=>exact ⟨0,rfl,⟨Nat.zero_le _⟩,⟨Named.made kInt w⟩,⟨OwnI.nil _ _⟩,⟨y01 (Below.refl _ _) _⟩⟩
 case round =>
  obtain ⟨k,rfl,hk,hN,hO,hB⟩:=hrel;have hk':=hk.out;have hLo:=HL.out
  by_cases hlt:k<l.length
  ·obtain ⟨ad,rfl,hcell⟩:=Kd.at_int (Kd.C_below HR.out hB.out) (k:Int) (by omega) (by omega)
   have hrd:rd l (k:Int)=l[k]:=by simp [rd,List.getD_eq_getElem?_getD,List.getElem?_eq_getElem hlt]
   have HX:=As0.mk (HOK.out l[k] (List.getElem_mem hlt));have HS:=As0.mk (y6w hlt);have hlen:=y4a (l.take k);have hlen2:(y1r (l.take k)).2.length=k:=by rw [hlen.1,List.length_take];omega
   have HLN:=As0.mk hlen2;clear hlen hlen2;rw [hrd,Int.toNat_natCast] at hcell;clear hrd;obtain ⟨x,hxe⟩:∃ x,x=l[k]:=⟨_,rfl⟩
   rw [← hxe] at hcell HX HS;have HXE:=As0.mk hxe;clear hxe;obtain ⟨S,hSe⟩:∃ S,S=(y1r (l.take k)).1:=⟨_,rfl⟩
   obtain ⟨out,hOe⟩:∃ out,out=(y1r (l.take k)).2:=⟨_,rfl⟩
   rw [← hSe] at hN;rw [← hOe] at hO HLN;have HSE:=As0.mk hSe;have HOE:=As0.mk hOe;clear hSe hOe;have HNE:=As0.mk (show u4.ownBlock≠some w.heap.size from by
    intro e;obtain ⟨cells,hc⟩:=y2x hO.out.1 _ e;obtain ⟨_,_,es,clock,hb,_⟩:=hN.out;rw [hc] at hb;cases hb)
   rcases hN.out.lookup (mt:=73) Tra.underlying73 (zero3 _) HX.out with ⟨hin,hl1⟩|⟨hin,hl1⟩
   ·have hln:=hN.out.len (mt:=73) (ty:=3) Tra.underlying73
    obtain ⟨w2,hu,hN2,hg2⟩:=hN.out.update (mt:=73) Tra.underlying73 HX.out hin;have hl2:=hN2.get (mt:=73) Tra.underlying73 (x:=x) HX.out (by simp);have HN2:=As0.mk hN2;have HIN:=As0.mk (show met S x=S ++ [x] from if_neg hin);have HO2:=As0.mk (hO.out.grown hg2 (.inr HNE.out));have HB2:=As0.mk (hB.out.grown hg2 hB.out.size (by intro b hb;injection hb with hb;omega));simp only [kInt] at hl1 hu hl2;clear hN2 hg2 hin;go_wp2_with (first|((with_reducible refine y0l (b:=.append) (xs:=#[.tmp 28,.tmp 32]) rfl ?_);at_builtin;refine y2q w.heap.size rfl (.tmp 28) (.tmp 32) 29 rfl Tra.underlying29 info3 u4 out _ rfl rfl HO2.out HB2.out.size (by have:=HLN.out;have:=HL.out;omega) ?_;intro v3 w3 ho3 hg3 hat3;have HO3:=As0.mk ho3;have HB3:=As0.mk (HB2.out.grown hg3 HB2.out.size (fun k hk=>(HO2.out.lt k hk).1));have HN3:=As0.mk (HN2.out.move (hg3.block _ HN2.out.lt (fun e=>HNE.out e.symm)));clear ho3 hg3 hat3)|fail)
    go_roundw
    case rel =>
     refine ⟨k+1,by go_num,⟨by omega⟩,⟨?_⟩,⟨?_⟩,HB3⟩
     ·rw [HS.out]
      show Named kInt _ _ (met (y1r (l.take k)).1 x);rw [← HSE.out,HIN.out];exact HN3.out
     ·rw [HS.out]
      show OwnI _ _ _ ((y1r (l.take k)).2 ++ [((met (y1r (l.take k)).1 x).idxOf x:Int)]);rw [← HSE.out,← HOE.out,HIN.out];exact HO3.out
    case measure=>simp [intOf];omega
   ·have hl2:=hN.out.get (mt:=73) Tra.underlying73 (x:=x) HX.out hin
    have HIN:=As0.mk (show met S x=S from if_pos hin);simp only [kInt] at hl1 hl2;clear hin;go_wp2_with (first|((with_reducible refine y0l (b:=.append) (xs:=#[.tmp 28,.tmp 32]) rfl ?_);at_builtin;refine y2q w.heap.size rfl (.tmp 28) (.tmp 32) 29 rfl Tra.underlying29 info3 u4 out _ rfl rfl hO.out hB.out.size (by have:=HLN.out;have:=HL.out;omega) ?_;intro v3 w3 ho3 hg3 hat3;have HO3:=As0.mk ho3;have HB3:=As0.mk (hB.out.grown hg3 hB.out.size (fun k hk=>(hO.out.lt k hk).1));have HN3:=As0.mk (hN.out.move (hg3.block _ hN.out.lt (fun e=>HNE.out e.symm)));clear ho3 hg3 hat3)|fail)
    go_roundw
    case rel =>
     refine ⟨k+1,by go_num,⟨by omega⟩,⟨?_⟩,⟨?_⟩,HB3⟩
     ·rw [HS.out]
      show Named kInt _ _ (met (y1r (l.take k)).1 x);rw [← HSE.out,HIN.out];exact HN3.out
     ·rw [HS.out]
      show OwnI _ _ _ ((y1r (l.take k)).2 ++ [((met (y1r (l.take k)).1 x).idxOf x:Int)]);rw [← HSE.out,← HOE.out,HIN.out];exact HO3.out
    case measure=>simp [intOf];omega
  ·have hke:k=l.length:=by omega
   have HO:=As0.mk (show OwnI wr w.heap.size u4 (numL l) from by have:=hO.out;rwa [hke,List.take_length] at this);clear hke;go_wp2_with fail
   go_ret
   exact ⟨_,rfl,HO.out,hB.out⟩
theorem num_calls (A:Option Addr) (c:Nat) (l:List Int) (w:World) (hr:Kd.C (Kd.int .i64) w A l.length l) (hc:l.length≤c) (hok:∀ x ∈ l,In64 x) (hL:l.length<17592186044416) :
  Calls Tra.prog 54 #[.slice A l.length c] w fun e w'=>∃ v,e=.returned v∧Kd.R (Kd.int .i64) 3 w' w.heap.size (fun _=>True) v (numL l)∧Below w.heap.size w w':=by
 refine (num_all A c l w hr hok hL).mono ?_
 rintro e w' ⟨v,he,hO,hB⟩
 exact ⟨v,he,hO.toR,hB⟩
end
section
attribute [local go_sem] y0y y0w y17 y16 y0q y0p y0x y0v
def pv (p:Int × Int):Value:=.agg #[.int .i64 p.1,.int .i64 p.2]
theorem pv_inj {p q:Int × Int} (h:pv p=pv q):p=q:=by
 unfold pv at h;injection h with h
 have h2:[Value.int .i64 p.1,.int .i64 p.2]=[.int .i64 q.1,.int .i64 q.2]:=by simpa using congrArg Array.toList h
 simp only [List.cons.injEq,Value.int.injEq,true_and,and_true] at h2;exact Prod.ext h2.1 h2.2
theorem keyed89:Go.Maps.Keyed Tra.prog 89 :=
 Go.Maps.Keyed.of_law (deep_law_laid yit (m:=2) (by decide) (zDo (by kernel_rfl)) (by kernel_rfl) (by kernel_rfl))
theorem key64 {x:Int} (h:In64 x) (d:Nat):Tra.prog.keyLits (d+1) 3 [.int .i64 x]=some [.int .i64 x]:=by
 simp [Program.keyLits,Tra.underlying3,wf64 h]
theorem pv_key {p:Int × Int} (h:In64 p.1∧In64 p.2):∃ l,keyOf Tra.prog 89 (pv p)=some l:=by
 have ka:=fun D=>key64 h.1 D
 have kb:=fun D=>key64 h.2 D
 have ht:Tra.prog.keyType 89=true:=by kernel_rfl
 have hfo:(pv p).formed Tra.prog 89=true:=by kernel_rfl
 have hs:Tra.prog.types.size=117:=by kernel_rfl
 have c6:Tra.prog.cellsOf 89=2:=by kernel_rfl
 have c3:Tra.prog.cellsOf 3=1:=by kernel_rfl
 have hl:Tra.prog.keyLits (117+1) 89 (pv p).cells.toList=some [.int .i64 p.1,.int .i64 p.2]:=by
  show Tra.prog.keyLits (117+1) 89 [.int .i64 p.1,.int .i64 p.2]=_;unfold Program.keyLits;simp [Tra.underlying89,c6,c3,List.range_succ,ka,kb]
 refine ⟨.string (keyBytes [.int .i64 p.1,.int .i64 p.2]),?_⟩;unfold keyOf;rw [Tra.underlying89];simp only [ht,hfo,Bool.and_self,if_true,hs,hl,Option.map_some]
def ybz:KeyD Tra.prog (Int × Int):=⟨pv,89,fun p=>In64 p.1∧In64 p.2,pv_inj,keyed89,pv_key⟩
def Reads2 (w:World) (A:Option Addr) (l:List (Int × Int)):Prop :=
 0<l.length->∃ ad,A=some ad∧∀ (j:Nat) p,l[j]?=some p->w.cell? (ad.add (j * 2))=some (.int .i64 p.1)∧w.cell? (ad.add (j * 2+1))=some (.int .i64 p.2)
theorem Reads2.below {w w1:World} {A:Option Addr} {l:List (Int × Int)} (h:Reads2 w A l) (hb:Below w.heap.size w w1):Reads2 w1 A l:=fun hn=>by
 obtain ⟨ad,e,hc⟩:=h hn;exact ⟨ad,e,fun j p hj=>⟨y32 hb (hc j p hj).1,y32 hb (hc j p hj).2⟩⟩
theorem num2_all (A:Option Addr) (c:Nat) (l:List (Int × Int)) (w:World) (hr:Reads2 w A l) (hok:∀ p ∈ l,In64 p.1∧In64 p.2) (hL:l.length<17592186044416) :
  Calls Tra.prog 84 #[.slice A l.length c] w fun e w'=>∃ v,e=.returned v∧OwnI w' w.heap.size v (numL l)∧Below w.heap.size w w':=by
 have HR:=As0.mk hr;have HL:=As0.mk hL;have HOK:=As0.mk hok;clear hr hL hok;have hmm:=@run_makeMap Tra.prog;go_enter Tra.func84,Tra.ntmps84
 go_wp2_with fail
 go_loopw [4,12] (fun v4 v12 W=>∃ k:Nat,v12=.int .i64 k∧As0 (k≤l.length)∧As0 (Named ybz W w.heap.size (y1r (l.take k)).1)∧As0 (OwnI W w.heap.size v4 (y1r (l.take k)).2)∧As0 (Below w.heap.size w W)) (fun v4 v12 _=>(l.length - intOf v12).toNat)
 case atStart=>exact ⟨0,rfl,⟨Nat.zero_le _⟩,⟨Named.made ybz w⟩,⟨OwnI.nil _ _⟩,⟨y01 (Below.refl _ _) _⟩⟩
 case round =>
  obtain ⟨k,rfl,hk,hN,hO,hB⟩:=hrel;have hk':=hk.out;have hLo:=HL.out
  by_cases hlt:k<l.length
  ·obtain ⟨ad,rfl,hcl⟩:=(HR.out.below hB.out) (by omega)
   obtain ⟨hc0,hc1⟩:=hcl k _ (List.getElem?_eq_getElem hlt);have hc2:wr.cell? { block:=(ad.add (k * 2)).block,off:=(ad.add (k * 2)).off+1 }=some (.int .i64 l[k].2):=by
    have h:=hc1;rw [← Addr.add_add] at h;generalize ad.add (k * 2)=q at h ⊢;simpa [Addr.add] using h
   clear hc1;clear hcl;have HX:=As0.mk (HOK.out l[k] (List.getElem_mem hlt));have HS:=As0.mk (y6w hlt);have hlen:=y4a (l.take k);have hlen2:(y1r (l.take k)).2.length=k:=by rw [hlen.1,List.length_take];omega
   have HLN:=As0.mk hlen2;clear hlen hlen2;obtain ⟨⟨x,y⟩,hxe⟩:∃ x:Int × Int,x=l[k]:=⟨_,rfl⟩
   rw [← hxe] at hc0 hc2 HX HS;simp only at hc0 hc2;have HXE:=As0.mk hxe;clear hxe;obtain ⟨S,hSe⟩:∃ S,S=(y1r (l.take k)).1:=⟨_,rfl⟩
   obtain ⟨out,hOe⟩:∃ out,out=(y1r (l.take k)).2:=⟨_,rfl⟩
   rw [← hSe] at hN;rw [← hOe] at hO HLN;have HSE:=As0.mk hSe;have HOE:=As0.mk hOe;clear hSe hOe;have HNE:=As0.mk (show u4.ownBlock≠some w.heap.size from by
    intro e;obtain ⟨cells,hc⟩:=y2x hO.out.1 _ e;obtain ⟨_,_,es,clock,hb,_⟩:=hN.out;rw [hc] at hb;cases hb)
   have hb1:=y01 (Below.refl wr.heap.size wr) (.cells #[.int .i64 x,.int .i64 y] 89);have HN1:=As0.mk (hN.out.move (hb1.block _ hN.out.lt));have HO1:=As0.mk (hO.out.below hb1);have HB1:=As0.mk (y03 hB.out hb1);have HBX1:=As0.mk (heap_alloc_new wr (.cells #[.int .i64 x,.int .i64 y] 89));clear hb1;rcases HN1.out.lookup (mt:=100) Tra.underlying100 (zero3 _) HX.out with ⟨hin,hl1⟩|⟨hin,hl1⟩
   ·have hln:=HN1.out.len (mt:=100) (ty:=3) Tra.underlying100
    obtain ⟨w2,hu,hN2,hg2⟩:=HN1.out.update (mt:=100) Tra.underlying100 HX.out hin;have hl2:=hN2.get (mt:=100) Tra.underlying100 (x:=(x,y)) HX.out (by simp);have HN2:=As0.mk hN2;have HIN:=As0.mk (show met S (x,y)=S ++ [(x,y)] from if_neg hin);have HO2:=As0.mk (HO1.out.grown hg2 (.inr HNE.out));have HB2:=As0.mk (HB1.out.grown hg2 HB1.out.size (by intro b hb;injection hb with hb;omega));have hbx2:w2.heap[wr.heap.size]?=some (.cells #[.int .i64 x,.int .i64 y] 89 (0,0)):=(hg2.block _ (y4z HBX1.out) (by intro e;injection e with e;have:=hN.out.lt;omega)).trans HBX1.out;have d0:=y0m hbx2 0;have d1:=y0m hbx2 1;simp only [List.getElem?_toArray,List.getElem?_cons_zero,List.getElem?_cons_succ] at d0 d1;simp only [ybz,pv] at hl1 hu hl2;clear hN2 hg2 hin hbx2;go_wp2_with (first|((with_reducible refine y0l (b:=.append) (xs:=#[.tmp 28,.tmp 32]) rfl ?_);at_builtin;refine y2q w.heap.size rfl (.tmp 28) (.tmp 32) 29 rfl Tra.underlying29 info3 u4 out _ rfl rfl HO2.out HB2.out.size (by have:=HLN.out;have:=HL.out;omega) ?_;intro v3 w3 ho3 hg3 hat3;have HO3:=As0.mk ho3;have HB3:=As0.mk (HB2.out.grown hg3 HB2.out.size (fun k hk=>(HO2.out.lt k hk).1));have HN3:=As0.mk (HN2.out.move (hg3.block _ HN2.out.lt (fun e=>HNE.out e.symm)));clear ho3 hg3 hat3)|fail)
    go_roundw
    case rel =>
     refine ⟨k+1,by go_num,⟨by omega⟩,⟨?_⟩,⟨?_⟩,HB3⟩
     ·rw [HS.out]
      show Named ybz _ _ (met (y1r (l.take k)).1 (x,y));rw [← HSE.out,HIN.out];exact HN3.out
     ·rw [HS.out]
      dsimp only [y29];rw [← HSE.out,← HOE.out,HIN.out];exact HO3.out
    case measure=>simp [intOf];omega
   ·have hl2:=HN1.out.get (mt:=100) Tra.underlying100 (x:=(x,y)) HX.out hin
    have HIN:=As0.mk (show met S (x,y)=S from if_pos hin);simp only [ybz,pv] at hl1 hl2;clear hin;go_wp2_with (first|((with_reducible refine y0l (b:=.append) (xs:=#[.tmp 28,.tmp 32]) rfl ?_);at_builtin;refine y2q w.heap.size rfl (.tmp 28) (.tmp 32) 29 rfl Tra.underlying29 info3 u4 out _ rfl (by first|rfl|(show Value.slice (some ⟨wr.heap.size+1,0,none⟩) 1 1=_;simp)) HO1.out HB1.out.size (by have:=HLN.out;have:=HL.out;omega) ?_;intro v3 w3 ho3 hg3 hat3;have HO3:=As0.mk ho3;have HB3:=As0.mk (HB1.out.grown hg3 HB1.out.size (fun k hk=>(HO1.out.lt k hk).1));have HN3:=As0.mk (HN1.out.move (hg3.block _ HN1.out.lt (fun e=>HNE.out e.symm)));clear ho3 hg3 hat3)|fail)
    go_roundw
    case rel =>
     refine ⟨k+1,by go_num,⟨by omega⟩,⟨?_⟩,⟨?_⟩,HB3⟩
     ·rw [HS.out]
      show Named ybz _ _ (met (y1r (l.take k)).1 (x,y));rw [← HSE.out,HIN.out];exact HN3.out
     ·rw [HS.out]
      dsimp only [y29];rw [← HSE.out,← HOE.out,HIN.out];exact HO3.out
    case measure=>simp [intOf];omega
  ·have hke:k=l.length:=by omega
   have HO:=As0.mk (show OwnI wr w.heap.size u4 (numL l) from by have:=hO.out;rwa [hke,List.take_length] at this);clear hke;go_wp2_with fail
   go_ret
   exact ⟨_,rfl,HO.out,hB.out⟩
end
end Go.Proofs.Ytdhgeondbnpeoaa.Ext
namespace Go.Proofs.Ytdhgeondbnpeoaa.P
open Go.RowKit Go.Proofs.Yw.Wd Go.Proofs.Yw.La Go.Proofs.Yw.Mo
section
attribute [local go_sem] y0y y0w y17 y16 y0q y0p y0x y0v
def errW:Option Int->Value
 |none=>.nilIface
 |some c=>.iface 0 (.int .i64 c)
theorem y06:errW none=.nilIface:=rfl
theorem y05 (c:Int):errW (some c)=.iface 0 (.int .i64 c):=rfl
theorem info3:(Tra.prog.info? 3).map (fun i=>(i.zero,i.size,i.bytes))=some (some (.int .i64 0),1,8):=by kernel_rfl
theorem info29:(Tra.prog.info? 29).map (fun i=>(i.zero,i.size,i.bytes))=some (some (.slice none 0 0),1,24):=by kernel_rfl
theorem info89:(Tra.prog.info? 89).map (fun i=>(i.zero,i.size,i.bytes))=some (some (.agg #[(.int .i64 0),(.int .i64 0)]),2,16):=by kernel_rfl
def y0i (xs:List (List Int)) (i:Int):(List Int):=xs.getD i.toNat ([]:List Int)
theorem y3k {w:World} {A:Option Addr} {n:Nat} {xs:List (List Int)} (h:Kd.C (Kd.slice 3 (Kd.int .i64)) w A n xs) (i:Int) (h0:0≤i) (h1:i<n):∃ ad A0 c0,A=some ad∧w.cell? (ad.add i.toNat)=some (.slice A0 (y0i xs i).length c0)∧(y0i xs i).length≤c0∧(Kd.int .i64).C w A0 (y0i xs i).length (y0i xs i):=by
 obtain ⟨ad,c,e,_,hK,hc0⟩:=Kd.C_get h ([]:List Int) i h0 h1;have hc:∀ j u,c[j]?=some u->w.cell? (ad.add (i.toNat * 1+j))=some u:=hc0;obtain ⟨A0,c0,rfl,l0,g0⟩:=hK;exact ⟨ad,A0,c0,e,by have hq:=hc 0 _ rfl;rwa [Nat.mul_one,Nat.add_zero] at hq,l0,g0⟩
structure S89 where
 f0:Int
 f1:Int
def k89:Kd S89:=Kd.iso (Kd.pair (Kd.int .i64) (Kd.int .i64)) (fun x:S89=>(x.f0,x.f1))
theorem yiu {w:World} {x:S89} {cs:List Value} (h:k89.K w x cs):cs=[.int .i64 x.f0,.int .i64 x.f1]:=by
 obtain ⟨_,_,rfl,rfl,rfl⟩:=h;exact rfl
theorem k89_mkM (w:World) (base:Nat) (ok:Nat->Prop) (x:S89)  : k89.M w base ok x [.int .i64 x.f0,.int .i64 x.f1]:=⟨[.int .i64 x.f0],[.int .i64 x.f1],rfl,rfl,rfl⟩
end
section
attribute [local go_sem] y0y y0w y17 y16 y0q y0p y0x y0v
def mobs_counted.f (a0:Int) (a1:Int):Option (Int):=if a0<0 then (some 2) else (if a0 > 12 then (some 2) else (if a1<0 then (some 2) else (if a1 > a0 then (some 2) else (some 0))))
theorem mobs_counted.calls (a0:Int) (a1:Int) (r:Int) (w:World) (h:mobs_counted.f a0 a1=some r) :
  Calls Tra.prog 45 #[.int .i64 a0,.int .i64 a1] w fun e w'=>e=.returned (.int .i64 r)∧Drawn0 w w':=by
 have H:(if a0<0 then (some 2) else (if a0 > 12 then (some 2) else (if a1<0 then (some 2) else (if a1 > a0 then (some 2) else (some 0)))))=some r:=h;clear h
 by_cases c3:a0<0
 ·rw [if_pos c3] at H
  have c3b0:decide (a0<0)=true:=zDt c3;clear c3;obtain rfl:=zSi H;go_enter Tra.func45,Tra.ntmps45
  go_wp2
  go_ret
  exact ⟨by first|rfl|(simp;done)|(simp [*];done),by repeat (first|exact Drawn0.refl _|apply Drawn0.step)⟩
 ·rw [if_neg c3] at H
  have c3b0:decide (a0<0)=false:=zDf c3;clear c3
  by_cases c4:a0 > 12
  ·rw [if_pos c4] at H
   have c4b0:decide (12<a0)=true:=zDt c4;clear c4;obtain rfl:=zSi H;go_enter Tra.func45,Tra.ntmps45
   go_wp2
   go_ret
   exact ⟨by first|rfl|(simp;done)|(simp [*];done),by repeat (first|exact Drawn0.refl _|apply Drawn0.step)⟩
  ·rw [if_neg c4] at H
   have c4b0:decide (12<a0)=false:=zDf c4;clear c4
   by_cases c5:a1<0
   ·rw [if_pos c5] at H
    have c5b0:decide (a1<0)=true:=zDt c5;clear c5;obtain rfl:=zSi H;go_enter Tra.func45,Tra.ntmps45
    go_wp2
    go_ret
    exact ⟨by first|rfl|(simp;done)|(simp [*];done),by repeat (first|exact Drawn0.refl _|apply Drawn0.step)⟩
   ·rw [if_neg c5] at H
    have c5b0:decide (a1<0)=false:=zDf c5;clear c5
    by_cases c6:a1 > a0
    ·rw [if_pos c6] at H
     have c6b0:decide (a0<a1)=true:=zDt c6;clear c6;obtain rfl:=zSi H;go_enter Tra.func45,Tra.ntmps45
     go_wp2
     go_ret
     exact ⟨by first|rfl|(simp;done)|(simp [*];done),by repeat (first|exact Drawn0.refl _|apply Drawn0.step)⟩
    ·rw [if_neg c6] at H
     have c6b0:decide (a0<a1)=false:=zDf c6;clear c6;obtain rfl:=zSi H;go_enter Tra.func45,Tra.ntmps45
     go_wp2
     go_ret
     exact ⟨by first|rfl|(simp;done)|(simp [*];done),by repeat (first|exact Drawn0.refl _|apply Drawn0.step)⟩
mutual
def mobs_Count.l0:Nat->Int->List Int->Int->Int->Option (Int × Int)
 |0,_,_,_,_=>none
 |k+1,x1,x7,x19,x20=>if x20<x19 then (if 0≤(wrap64 (x20+2)) then (if (wrap64 (x20+2):Int).toNat≤35184372088832 then (mobs_Count.l1 k x1 (List.replicate (wrap64 (x20+2):Int).toNat 0) x19 x20 x7 (x7.length:Int) 0) else (none)) else (none)) else (if 0≤x1 then (if x1<(x7.length:Int) then (some (rd x7 x1,0)) else (none)) else (none))
def mobs_Count.l1:Nat->Int->List Int->Int->Int->List Int->Int->Int->Option (Int × Int)
 |0,_,_,_,_,_,_,_=>none
 |k+1,x1,x9,x19,x20,x26,x27,x28=>if x28<x27 then (if 0≤x28 then (if x28<(x26.length:Int) then (if x28<(x9.length:Int) then ((some (x9.set (x28:Int).toNat (wrap64 ((rd x9 x28)+(wrap64 (x28 * (rd x26 x28))))):List Int)).bind fun y111=>(if 0≤(wrap64 (x28+1)) then (if (wrap64 (x28+1))<(x9.length:Int) then (mobs_Count.l1 k x1 (y111.set ((wrap64 (x28+1)):Int).toNat (wrap64 ((rd y111 (wrap64 (x28+1)))+(rd x26 x28)))) x19 x20 x26 x27 (wrap64 (x28+1))) else (none)) else (none))) else (none)) else (none)) else (none)) else (mobs_Count.l0 k x1 x9 x19 (wrap64 (x20+1)))
end
def mobs_Count.f (k:Nat) (a0:Int) (a1:Int):Option (Int × Int):=(mobs_counted.f a0 a1).bind fun t101=>(if t101=0 then (mobs_Count.l0 k a1 (([1]:List Int)) a0 0) else (some (0,t101)))
theorem mobs_Count.calls (k:Nat) (a0:Int) (a1:Int) (r1:Int) (r2:Int) (w:World) (h:mobs_Count.f k a0 a1=some (r1,r2)) :
  Calls Tra.prog 16 #[.int .i64 a0,.int .i64 a1] w fun e w'=>e=.returned (.tuple #[.int .i64 r1,.int .i64 r2])∧Below w.heap.size w w':=by
 have HB:=As0.mk (Below.refl w.heap.size w);have H:((mobs_counted.f a0 a1).bind fun t101=>(if t101=0 then (mobs_Count.l0 k a1 (([1]:List Int)) a0 0) else (some (0,t101))))=some (r1,r2):=h;clear h;replace H:=Option.bind_eq_some_iff.mp H;obtain ⟨t101,A30,H⟩:=H;replace H:(if t101=0 then (mobs_Count.l0 k a1 (([1]:List Int)) a0 0) else (some (0,t101)))=some (r1,r2):=H;have A3:=As0.mk A30;clear A30
 by_cases c4:t101=0
 ·rw [if_pos c4] at H
  have c4b0:(t101 == 0)=true:=beq_iff_eq.mpr c4;have c4b1:(t101 != 0)=false:=bne_eq_false_iff_eq.mpr c4;clear c4;obtain ⟨y102,hy102⟩:∃ y_:List Int,y_=(([1]:List Int)):=⟨_,rfl⟩
  replace H:(mobs_Count.l0 k a1 y102 a0 0)=some (r1,r2):=by first|(rw [hy102];with_reducible exact H)|(have H2_:=(Option.bind_some _ _).symm.trans H;rw [hy102];with_reducible exact H2_)|(have H2_:=(Option.bind_some _ _).symm.trans H;with_reducible exact H2_)|with_reducible exact H|(rw [hy102];exact H)|exact H
  have Ny102:=As0.mk hy102;clear hy102;have H':=As0.mk H;clear H;go_enter Tra.func16,Tra.ntmps16
  go_wp2_with (first|((with_reducible refine y0d (f:=45) rfl ?_);refine y12 (some 14) rfl rfl Tra.func45 (by kernel_rfl) rfl #[.int .i64 a0,.int .i64 a1] rfl (by (try simp only [List.map_toArray,List.map_cons,List.map_nil]);first|done|rfl|(simp only [List.length_drop,List.length_take];rfl)) ?_;(with_reducible refine (mobs_counted.calls a0 a1 t101 _ A3.out).mono ?_);rintro e w' ⟨rfl,⟨nd,rfl⟩⟩;refine ⟨_,rfl,?_⟩)|((with_reducible refine y0n (N:=18) rfl ?_);refine Kd.R_lit (Kd.int .i64) _ 3 ?hg (N:=18) ?hd (xs:=([1]:List Int)) (inner:=[.int .i64 1]) (ok:=fun _=>True) (okp:=fun _=>True) ?hr ?hp (fun _ hk=>hk) trivial (Below.refl _ _) (zLe _) (by simp) ?_;(case hd=>rfl);(case hg=>rfl);(case hr=>first|(go_simp;done)|(go_simp;rfl));(case hp=>exact (Reps.one (show Kd.M (Kd.int .i64) _ _ _ 1 [.int .i64 1] from rfl) (Reps.none _ _)));intro v103 w5 ho6 hb hg_ hnew_;clear hg_ hnew_;(first|rw [← Ny102.out] at ho6|(simp only [Int.reduceToNat] at ho6;rw [← Ny102.out] at ho6));have n0_:=As0.mk (Kd.R_lower ho6 (y04 (by repeat (with_reducible first|exact HB.out|apply y01|apply y00|apply y02))));have n1_:=As0.mk (y03 (by repeat (with_reducible first|exact HB.out|apply y01|apply y00|apply y02)) hb);clear HB;have HO104:=n0_;have HB:=n1_;clear n0_ n1_;clear hb ho6))
  go_loopg [7,20] k (fun kq v7 v20 w'=>∃ (x7_1:List Int) (x20_1:Int),v20=.int .i64 x20_1∧As0 (mobs_Count.l0 kq a1 x7_1 a0 x20_1=some (r1,r2))∧As0 (kq≤k)∧As0 (Kd.R (Kd.int .i64) 3 w' w.heap.size (fun _=>True) v7 x7_1)∧As0 (Below w.heap.size w w'))
  case atStart=>exact ⟨(y102),(0),(by first|rfl|(simp;done)|(simp [*];done)),H',⟨zLe _⟩,⟨by (with_reducible repeat (first|apply Kd.R_alloc|apply Kd.R_drewN|apply Kd.R_drew));exact HO104.out⟩,⟨by repeat (with_reducible first|exact HB.out|apply y01|apply y00|apply y02)⟩⟩
  case round =>
   clear H'
   try clear c1
   try clear p2
   try clear c4
   try clear c4b0
   try clear c4b1
   obtain ⟨x7_1,x20_1,rfl,HA,HK1,HO_7,HB⟩:=hrel;cases gk with
   |zero=>exact absurd HA.out (by simp [mobs_Count.l0])
   |succ k1 =>
    have H:=HA.out;clear HA;simp only [mobs_Count.l0] at H
    by_cases c7:x20_1<a0
    ·rw [if_pos c7] at H
     have c7b0:decide (x20_1<a0)=true:=zDt c7;clear c7;obtain ⟨ji8,hji8⟩:∃ j_:Int,(wrap64 (x20_1+2))=j_:=⟨_,rfl⟩
     replace H:(if 0≤(ji8) then (if (ji8:Int).toNat≤35184372088832 then (mobs_Count.l1 k1 a1 (List.replicate (ji8:Int).toNat 0) a0 x20_1 x7_1 (x7_1.length:Int) 0) else (none)) else (none))=some (r1,r2):=by first|(rw [hji8] at H;exact H)|(simp only [hji8] at H ⊢;exact H)
     have hji8w:(IntKind.i64.wrap (x20_1+2))=ji8:=(y0o _).trans hji8
     by_cases c9:0≤(ji8)
     ·rw [if_pos c9] at H
      have c9b0:=eq_true c9;have c9b1:decide (0≤(ji8))=true:=zDt c9;clear c9
      by_cases c10:(ji8:Int).toNat≤35184372088832
      ·rw [if_pos c10] at H
       have c10b0:=eq_true c10;have c10b1:decide ((ji8:Int).toNat≤35184372088832)=true:=zDt c10;clear c10;obtain ⟨y106,hy106⟩:∃ y_:List Int,y_=(List.replicate (ji8:Int).toNat 0):=⟨_,rfl⟩
       replace H:(mobs_Count.l1 k1 a1 y106 a0 x20_1 x7_1 (x7_1.length:Int) 0)=some (r1,r2):=by first|(rw [hy106];with_reducible exact H)|(have H2_:=(Option.bind_some _ _).symm.trans H;rw [hy106];with_reducible exact H2_)|(have H2_:=(Option.bind_some _ _).symm.trans H;with_reducible exact H2_)|with_reducible exact H|(rw [hy106];exact H)|exact H
       have Ny106:=As0.mk hy106;clear hy106;have H':=As0.mk H;clear H;go_wp2_with (first|((with_reducible refine y0n (N:=25) rfl ?_);refine Kd.R_make (Kd.int .i64) _ 3 rfl (N:=25) rfl 29 _ _ rfl ji8 rfl rfl Tra.underlying29 (.int .i64 0) 8 info3 rfl (by decide) (by omega) 0 (ok:=fun _=>True) (okp:=fun _=>True) rfl (fun _ hk=>hk) trivial (zDo (by with_reducible assumption)) (Nat.le_trans (Nat.mul_le_mul_right _ (zDo (by with_reducible assumption):ji8.toNat≤35184372088832)) (by omega)) (Below.refl _ _) (zLe _) ?_;intro v107 w11 ho12 hb hg_ hnew_;clear hg_ hnew_;(first|rw [← Ny106.out] at ho12|(simp only [Int.reduceToNat] at ho12;rw [← Ny106.out] at ho12));have n0_:=As0.mk (Kd.R_elder' (by (with_reducible repeat (first|apply Kd.R_alloc|apply Kd.R_drewN|apply Kd.R_drew));exact HO_7.out) (Kd.R_base ho12) hb);have n1_:=As0.mk (Kd.R_lower (Kd.R_new' ho12 (Kd.R_lt (by (with_reducible repeat (first|apply Kd.R_alloc|apply Kd.R_drewN|apply Kd.R_drew));exact HO_7.out))) (y04 (by repeat (with_reducible first|exact HB.out|apply y01|apply y00|apply y02))));have n2_:=As0.mk (y03 (by repeat (with_reducible first|exact HB.out|apply y01|apply y00|apply y02)) hb);clear HO_7;clear HB;have HO_7:=n0_;have HO108:=n1_;have HB:=n2_;clear n0_ n1_ n2_;clear hb ho12;obtain ⟨Ao13,co13,eo13⟩:=Kd.R_slice HO_7.out;subst eo13))
       go_loopg [28] k1 (fun kq v28 w'=>∃ (x9_2:List Int) (x28_2:Int),v28=.int .i64 x28_2∧As0 (mobs_Count.l1 kq a1 x9_2 a0 x20_1 x7_1 (x7_1.length:Int) x28_2=some (r1,r2))∧As0 (kq≤k1)∧As0 (Kd.R (Kd.int .i64) 3 w' w.heap.size (fun k_=>some k_≠((.slice Ao13 x7_1.length co13):Value).ownBlock) v107 x9_2)∧As0 (Kd.R (Kd.int .i64) 3 w' w.heap.size (fun k_=>some k_≠(v107:Value).ownBlock) (.slice Ao13 x7_1.length co13) x7_1)∧As0 (Below w.heap.size w w'))
       case atStart=>exact ⟨(y106),(0),(by first|rfl|(simp;done)|(simp [*];done)),H',⟨zLe _⟩,⟨by (with_reducible repeat (first|apply Kd.R_alloc|apply Kd.R_drewN|apply Kd.R_drew));exact Kd.R_mono HO108.out (fun _ hk=>hk.2)⟩,⟨by (with_reducible repeat (first|apply Kd.R_alloc|apply Kd.R_drewN|apply Kd.R_drew));exact Kd.R_mono HO_7.out (fun _ hk=>hk.2)⟩,⟨by repeat (with_reducible first|exact HB.out|apply y01|apply y00|apply y02)⟩⟩
       case round =>
        clear H'
        try clear c1
        try clear p2
        try clear c4
        try clear c4b0
        try clear c4b1
        try clear p6
        try clear c7
        try clear c7b0
        try clear c9
        try clear c9b0
        try clear c9b1
        try clear c10
        try clear c10b0
        try clear c10b1
        try clear p2
        obtain ⟨x9_2,x28_2,rfl,HA,HK2,HO_9,HO_26,HB⟩:=hrel;cases gk with
        |zero=>exact absurd HA.out (by simp [mobs_Count.l1])
        |succ k2 =>
         have H:=HA.out;clear HA;simp only [mobs_Count.l1] at H
         by_cases c14:x28_2<(x7_1.length:Int)
         ·rw [if_pos c14] at H
          have c14b0:decide (x28_2<(x7_1.length:Int))=true:=zDt c14;clear c14
          by_cases c15:0≤x28_2
          ·rw [if_pos c15] at H
           have c15b0:decide (0≤x28_2)=true:=zDt c15;clear c15
           by_cases c16:x28_2<(x7_1.length:Int)
           ·rw [if_pos c16] at H
            have c16b0:decide (x28_2<(x7_1.length:Int))=true:=zDt c16;clear c16
            by_cases c17:x28_2<(x9_2.length:Int)
            ·rw [if_pos c17] at H
             have c17b0:decide (x28_2<(x9_2.length:Int))=true:=zDt c17;clear c17;obtain ⟨y111,hy111⟩:∃ y_:List Int,y_=(x9_2.set (x28_2:Int).toNat (wrap64 ((rd x9_2 x28_2)+(wrap64 (x28_2 * (rd x7_1 x28_2)))))):=⟨_,rfl⟩
             replace H:(if 0≤(wrap64 (x28_2+1)) then (if (wrap64 (x28_2+1))<(x9_2.length:Int) then (mobs_Count.l1 k2 a1 (y111.set ((wrap64 (x28_2+1)):Int).toNat (wrap64 ((rd y111 (wrap64 (x28_2+1)))+(rd x7_1 x28_2)))) a0 x20_1 x7_1 (x7_1.length:Int) (wrap64 (x28_2+1))) else (none)) else (none))=some (r1,r2):=by first|(rw [hy111];with_reducible exact H)|(have H2_:=(Option.bind_some _ _).symm.trans H;rw [hy111];with_reducible exact H2_)|(have H2_:=(Option.bind_some _ _).symm.trans H;with_reducible exact H2_)|with_reducible exact H|(rw [hy111];exact H)|exact H
             have Ny111:=As0.mk hy111;clear hy111;obtain ⟨ji19,hji19⟩:∃ j_:Int,(wrap64 (x28_2+1))=j_:=⟨_,rfl⟩
             replace H:(if 0≤(ji19) then (if (ji19)<(x9_2.length:Int) then (mobs_Count.l1 k2 a1 (y111.set ((ji19):Int).toNat (wrap64 ((rd y111 (ji19))+(rd x7_1 x28_2)))) a0 x20_1 x7_1 (x7_1.length:Int) ji19) else (none)) else (none))=some (r1,r2):=by first|(rw [hji19] at H;exact H)|(simp only [hji19] at H ⊢;exact H)
             have hji19w:(IntKind.i64.wrap (x28_2+1))=ji19:=(y0o _).trans hji19
             by_cases c20:0≤(ji19)
             ·rw [if_pos c20] at H
              have c20b0:decide (0≤(ji19))=true:=zDt c20;clear c20
              by_cases c21:(ji19)<(x9_2.length:Int)
              ·rw [if_pos c21] at H
               have c21b0:decide ((ji19)<(x9_2.length:Int))=true:=zDt c21;clear c21;obtain ⟨y113,hy113⟩:∃ y_:List Int,y_=(y111.set ((ji19):Int).toNat (wrap64 ((rd y111 (ji19))+(rd x7_1 x28_2)))):=⟨_,rfl⟩
               replace H:(mobs_Count.l1 k2 a1 y113 a0 x20_1 x7_1 (x7_1.length:Int) ji19)=some (r1,r2):=by first|(rw [hy113];with_reducible exact H)|(have H2_:=(Option.bind_some _ _).symm.trans H;rw [hy113];with_reducible exact H2_)|(have H2_:=(Option.bind_some _ _).symm.trans H;with_reducible exact H2_)|with_reducible exact H|(rw [hy113];exact H)|exact H
               have Ny113:=As0.mk hy113;clear hy113;have H':=As0.mk H;clear H;have p109:0≤(x28_2:Int):=zDo (by with_reducible assumption);have q109:x28_2<(x7_1.length:Int):=zDo (by with_reducible assumption);obtain ⟨ad109,e109,hx109_0⟩:=Kd.at_int (Kd.R_reads' HO_26.out).2.2 x28_2 p109 q109;cases e109
               replace p109:=eq_true p109;replace q109:=eq_true q109;obtain ⟨Ao23,co23,eo23⟩:=Kd.R_slice HO_9.out;subst eo23;have p110:0≤(x28_2:Int):=zDo (by with_reducible assumption);have q110:x28_2<(x9_2.length:Int):=zDo (by with_reducible assumption);obtain ⟨ad110,e110,hx110_0⟩:=Kd.at_int (Kd.R_reads' HO_9.out).2.2 x28_2 p110 q110;cases e110
               replace p110:=eq_true p110;replace q110:=eq_true q110;have p18:0≤(x28_2:Int):=zDo (by with_reducible assumption);have q18:(x28_2:Int)<((x9_2.length:Int):Int):=zDo (by with_reducible assumption);obtain ⟨go18,co18,eo18,gb18,gl18,cl18,HG18⟩:=Kd.R_form HO_9.out (by omega)
               (first|cases eo18|(injection eo18 with ea_ en_ ec_;(first|subst ea_|(injection ea_ with ea_;subst ea_));subst ec_;clear en_))
               have GB18:=As0.mk gb18;have GG18:=As0.mk HG18;clear gb18 gl18 HG18
               (first|simp only [y18] at hx110_0|skip)
               obtain ⟨hx18_0,hf18_0⟩:=Kd.R_celln 0 HO_9.out (x28_2:Int) p18 q18;replace p18:=eq_true p18;replace q18:=eq_true q18;have HP24:=Kd.R_putg HO_9.out (x28_2:Int) (wrap64 ((rd x9_2 x28_2)+(wrap64 (x28_2 * (rd x7_1 x28_2)))));go_wp2_with (first|((with_reducible refine y20 (t:=3) (p:=41) rfl ?_);refine y1l (t:=3) (p:=41) (v:=?vo_w25) (w1:=(wr.setCell ⟨go18,(x28_2:Int).toNat,none⟩ (.int .i64 (wrap64 ((rd x9_2 x28_2)+(wrap64 (x28_2 * (rd x7_1 x28_2)))))))) ?hg ?ho ?hn ?hr ?_;(case ho=>rfl);(case hg=>rfl);(case hn=>rfl);(case hr=>first|(go_simp;done)|(go_simp;rfl));intro w25 hw;have hg:wr.grownBy w25 (some go18):=(by rw [hw];exact HP24.2);have hp_:Kd.R (Kd.int .i64) 3 w25 w.heap.size (fun k_=>some k_≠(.slice (some ad109) x7_1.length co13:Value).ownBlock) (.slice (some ⟨go18,0,none⟩) x9_2.length co23) y111:=(by rw [hw,Ny111.out];exact HP24.1);clear HP24;have n0_:=As0.mk (hp_);have n1_:=As0.mk (Kd.R_after (v:=(.slice (some ⟨go18,0,none⟩) x9_2.length co23)) (v1:=(.slice (some ⟨go18,0,none⟩) x9_2.length co23)) (ok:=(fun _=>True)) (by (with_reducible repeat (first|apply Kd.R_alloc|apply Kd.R_drewN|apply Kd.R_drew));exact Kd.R_mono HO_26.out (fun _ hk=>⟨trivial,hk⟩)) hg (.inl rfl));have n2_:=As0.mk ((by rw [hw];exact y0c (HB.out) GB18.out:Below w.heap.size w w25));clear HO_9;clear HO_26;clear HB;have HO_9:=n0_;have HO_26:=n1_;have HB:=n2_;clear n0_ n1_ n2_;clear hg hw hp_;have p112:0≤((ji19):Int):=zDo (by with_reducible assumption);have q112:(ji19)<(y111.length:Int):=(by have h_:((ji19):Int)<((x9_2.length:Int):Int):=zDo (by with_reducible assumption);first|(have e_:=(Kd.R_reads' HO_9.out).1;omega)|simpa only [Ny111.out,List.length_set] using h_);have ql112:(((ji19):Int)<((x9_2.length:Int):Int))=True:=eq_true (zDo (by with_reducible assumption));obtain ⟨ad112,e112,hx112_0⟩:=Kd.at_int (Kd.R_reads' HO_9.out).2.2 (ji19) p112 q112;obtain rfl:(⟨go18,0,none⟩:Addr)=ad112:=(by injection e112);(first|simp only [y18] at hx112_0|simp only [ygp] at hx112_0|simp only [Addr.add,Nat.zero_add] at hx112_0|skip);replace p112:=eq_true p112;replace q112:=eq_true q112;have p22:0≤((ji19):Int):=zDo (by with_reducible assumption);have q22:((ji19):Int)<((x9_2.length:Int):Int):=zDo (by with_reducible assumption);obtain ⟨hx22_0,hf22_0⟩:=Kd.R_celln 0 HO_9.out ((ji19):Int) p22 q22;replace p22:=eq_true p22;replace q22:=eq_true q22;obtain ⟨hy26_,hz26_⟩:=Kd.R_celln 0 HO_9.out ((ji19):Int) (zDo (by with_reducible assumption)) (zDo (by with_reducible assumption));have HP26:=Kd.R_putg HO_9.out ((ji19):Int) (wrap64 ((rd y111 (ji19))+(rd x7_1 x28_2))))|((with_reducible refine y20 (t:=3) (p:=49) rfl ?_);refine y1l (t:=3) (p:=49) (v:=?vo_w27) (w1:=(w25.setCell ⟨go18,((ji19):Int).toNat,none⟩ (.int .i64 (wrap64 ((rd y111 (ji19))+(rd x7_1 x28_2)))))) ?hg ?ho ?hn ?hr ?_;(case ho=>rfl);(case hg=>rfl);(case hn=>rfl);(case hr=>first|(go_simp;done)|(go_simp;rfl));intro w27 hw;have hg:w25.grownBy w27 (some go18):=(by rw [hw];exact HP26.2);have hp_:Kd.R (Kd.int .i64) 3 w27 w.heap.size (fun k_=>some k_≠(.slice (some ad109) x7_1.length co13:Value).ownBlock) (.slice (some ⟨go18,0,none⟩) x9_2.length co23) y113:=(by rw [hw,Ny113.out];exact HP26.1);clear HP26;have n0_:=As0.mk (hp_);have n1_:=As0.mk (Kd.R_after (v:=(.slice (some ⟨go18,0,none⟩) x9_2.length co23)) (v1:=(.slice (some ⟨go18,0,none⟩) x9_2.length co23)) (ok:=(fun _=>True)) (by (with_reducible repeat (first|apply Kd.R_alloc|apply Kd.R_drewN|apply Kd.R_drew));exact HO_26.out) hg (.inl rfl));have n2_:=As0.mk ((by rw [hw];exact y0c (HB.out) GB18.out:Below w.heap.size w w27));clear HO_9;clear HO_26;clear HB;have HO_9:=n0_;have HO_26:=n1_;have HB:=n2_;clear n0_ n1_ n2_;clear hg hw hp_))
               go_roundg k2
               case measure=>have:=HK1.out;have:=HK2.out;omega
               case rel=>exact ⟨(y113),(ji19),(by first|rfl|(simp;done)|(simp only [← hji19]<;>(first|rfl|simp))|(simp [*];done)),H',⟨by have:=HK1.out;have:=HK2.out;omega⟩,⟨by (with_reducible repeat (first|apply Kd.R_alloc|apply Kd.R_drewN|apply Kd.R_drew));exact HO_9.out⟩,⟨by (with_reducible repeat (first|apply Kd.R_alloc|apply Kd.R_drewN|apply Kd.R_drew));exact Kd.R_mono HO_26.out (fun _ hk=>hk.2)⟩,⟨by repeat (with_reducible first|exact HB.out|apply y01|apply y00|apply y02)⟩⟩
              ·rw [if_neg c21] at H
               exact absurd H (by simp)
             ·rw [if_neg c20] at H
              exact absurd H (by simp)
            ·rw [if_neg c17] at H
             exact absurd H (by simp)
           ·rw [if_neg c16] at H
            exact absurd H (by simp)
          ·rw [if_neg c15] at H
           exact absurd H (by simp)
         ·rw [if_neg c14] at H
          have c14b0:decide (x28_2<(x7_1.length:Int))=false:=zDf c14;clear c14;have H':=As0.mk H;clear H;go_wp2
          go_roundg k2
          case measure=>have:=HK1.out;have:=HK2.out;omega
          case rel=>exact ⟨(x9_2),(wrap64 (x20_1+1)),(by first|rfl|(simp;done)|(simp [*];done)),H',⟨by have:=HK1.out;have:=HK2.out;omega⟩,⟨by (with_reducible repeat (first|apply Kd.R_alloc|apply Kd.R_drewN|apply Kd.R_drew));exact Kd.R_mono HO_9.out (fun _ hk=>trivial)⟩,⟨by repeat (with_reducible first|exact HB.out|apply y01|apply y00|apply y02)⟩⟩
      ·rw [if_neg c10] at H
       exact absurd H (by simp)
     ·rw [if_neg c9] at H
      exact absurd H (by simp)
    ·rw [if_neg c7] at H
     have c7b0:decide (x20_1<a0)=false:=zDf c7;clear c7
     by_cases c28:0≤a1
     ·rw [if_pos c28] at H
      have c28b0:decide (0≤a1)=true:=zDt c28;clear c28
      by_cases c29:a1<(x7_1.length:Int)
      ·rw [if_pos c29] at H
       have c29b0:decide (a1<(x7_1.length:Int))=true:=zDt c29;clear c29;simp only [Option.some.injEq,Prod.mk.injEq] at H;obtain ⟨rfl,rfl⟩:=H;obtain ⟨Ao30,co30,eo30⟩:=Kd.R_slice HO_7.out;subst eo30;have p105:0≤(a1:Int):=zDo (by with_reducible assumption);have q105:a1<(x7_1.length:Int):=zDo (by with_reducible assumption);obtain ⟨ad105,e105,hx105_0⟩:=Kd.at_int (Kd.R_reads' HO_7.out).2.2 a1 p105 q105;cases e105
       replace p105:=eq_true p105;replace q105:=eq_true q105;go_wp2
       go_ret2
       exact ⟨by first|rfl|(simp [y06,y05]<;>rfl)|(simp [*,y06,y05]<;>rfl),by repeat (with_reducible first|exact HB.out|apply y01|apply y00|apply y02)⟩
      ·rw [if_neg c29] at H
       exact absurd H (by simp)
     ·rw [if_neg c28] at H
      exact absurd H (by simp)
 ·rw [if_neg c4] at H
  have c4b0:(t101 == 0)=false:=beq_eq_false_iff_ne.mpr c4;have c4b1:(t101 != 0)=true:=bne_iff_ne.mpr c4;simp only [Option.some.injEq,Prod.mk.injEq] at H;obtain ⟨rfl,rfl⟩:=H;go_enter Tra.func16,Tra.ntmps16
  go_wp2_with (first|((with_reducible refine y0d (f:=45) rfl ?_);refine y12 (some 14) rfl rfl Tra.func45 (by kernel_rfl) rfl #[.int .i64 a0,.int .i64 a1] rfl (by (try simp only [List.map_toArray,List.map_cons,List.map_nil]);first|done|rfl|(simp only [List.length_drop,List.length_take];rfl)) ?_;(with_reducible refine (mobs_counted.calls a0 a1 t101 _ A3.out).mono ?_);rintro e w' ⟨rfl,⟨nd,rfl⟩⟩;refine ⟨_,rfl,?_⟩))
  go_ret2
  exact ⟨by first|rfl|(simp [y06,y05]<;>rfl)|(simp [*,y06,y05]<;>rfl),by repeat (with_reducible first|exact HB.out|apply y01|apply y00|apply y02)⟩
end
section
attribute [local go_sem] y0y y0w y17 y16 y0q y0p y0x y0v
def mobs_IsParting.l0:Nat->Int->List Int->Int->Int->Option (Bool)
 |0,_,_,_,_=>none
 |k+1,x3,x9,x10,x11=>if x11<x10 then (if 0≤x11 then (if x11<(x9.length:Int) then (if (rd x9 x11)<0 then (some false) else (if (rd x9 x11) > x3 then (some false) else (mobs_IsParting.l0 k (mx x3 (wrap64 ((rd x9 x11)+1))) x9 x10 (wrap64 (x11+1))))) else (none)) else (none)) else (some true)
def mobs_IsParting.f (k:Nat) (l0:List Int):Option (Bool):=if (l0.length:Int) > 12 then (some false) else (mobs_IsParting.l0 k 0 l0 (l0.length:Int) 0)
theorem mobs_IsParting.calls (k:Nat) (A0:Option Addr) (c0:Nat) (l0:List Int) (r:Bool) (w:World) (hr0:Kd.C (Kd.int .i64) w A0 l0.length l0) (hc0:l0.length≤c0) (h:mobs_IsParting.f k l0=some r) :
  Calls Tra.prog 40 #[.slice A0 l0.length c0] w fun e w'=>e=.returned (.bool r)∧Below w.heap.size w w':=by
 have HR0:=As0.mk hr0;have HC0:=As0.mk hc0;clear hr0 hc0;have HB:=As0.mk (Below.refl w.heap.size w);have H:(if (l0.length:Int) > 12 then (some false) else (mobs_IsParting.l0 k 0 l0 (l0.length:Int) 0))=some r:=h;clear h
 by_cases c2:(l0.length:Int) > 12
 ·rw [if_pos c2] at H
  have c2b0:decide (12<(l0.length:Int))=true:=zDt c2;have c2b1:decide (12<l0.length)=true:=zDt (by omega);clear c2;obtain rfl:=zSi H;go_enter Tra.func40,Tra.ntmps40
  go_wp2
  go_ret
  exact ⟨by first|rfl|(simp [y06,y05]<;>rfl)|(simp [*,y06,y05]<;>rfl),by repeat (with_reducible first|exact HB.out|apply y01|apply y00|apply y02)⟩
 ·rw [if_neg c2] at H
  have c2b0:decide (12<(l0.length:Int))=false:=zDf c2;have c2b1:decide (12<l0.length)=false:=zDf (by omega);clear c2;have H':=As0.mk H;clear H;go_enter Tra.func40,Tra.ntmps40
  go_wp2
  go_loopg [3,11] k (fun kq v3 v11 w'=>∃ (x3_1:Int) (x11_1:Int),v3=.int .i64 x3_1∧v11=.int .i64 x11_1∧As0 (mobs_IsParting.l0 kq x3_1 l0 (l0.length:Int) x11_1=some r)∧As0 (kq≤k)∧As0 (Below w.heap.size w w'))
  case atStart=>exact ⟨(0),(0),(by first|rfl|(simp;done)|(simp [*];done)),(by first|rfl|(simp;done)|(simp [*];done)),H',⟨zLe _⟩,⟨by repeat (with_reducible first|exact HB.out|apply y01|apply y00|apply y02)⟩⟩
  case round =>
   clear H'
   try clear c2
   try clear c2b0
   try clear c2b1
   try clear p2
   obtain ⟨x3_1,x11_1,rfl,rfl,HA,HK1,HB⟩:=hrel;cases gk with
   |zero=>exact absurd HA.out (by simp [mobs_IsParting.l0])
   |succ k1 =>
    have H:=HA.out;clear HA;simp only [mobs_IsParting.l0] at H
    by_cases c3:x11_1<(l0.length:Int)
    ·rw [if_pos c3] at H
     have c3b0:decide (x11_1<(l0.length:Int))=true:=zDt c3;clear c3
     by_cases c4:0≤x11_1
     ·rw [if_pos c4] at H
      have c4b0:decide (0≤x11_1)=true:=zDt c4;clear c4
      by_cases c5:x11_1<(l0.length:Int)
      ·rw [if_pos c5] at H
       have c5b0:decide (x11_1<(l0.length:Int))=true:=zDt c5;clear c5
       by_cases c6:(rd l0 x11_1)<0
       ·rw [if_pos c6] at H
        have c6b0:decide ((rd l0 x11_1)<0)=true:=zDt c6;clear c6;obtain rfl:=zSi H;have p155:0≤(x11_1:Int):=zDo (by with_reducible assumption);have q155:x11_1<(l0.length:Int):=zDo (by with_reducible assumption);obtain ⟨ad155,e155,hx155_0⟩:=Kd.at_int HR0.out x11_1 p155 q155;cases e155
        replace hx155_0:=(HB.out.cell (World.block_lt_of_cell? w _ hx155_0)).trans hx155_0;replace p155:=eq_true p155;replace q155:=eq_true q155;go_wp2
        go_ret
        exact ⟨by first|rfl|(simp [y06,y05]<;>rfl)|(simp [*,y06,y05]<;>rfl),by repeat (with_reducible first|exact HB.out|apply y01|apply y00|apply y02)⟩
       ·rw [if_neg c6] at H
        have c6b0:decide ((rd l0 x11_1)<0)=false:=zDf c6;clear c6
        by_cases c7:(rd l0 x11_1) > x3_1
        ·rw [if_pos c7] at H
         have c7b0:decide (x3_1<(rd l0 x11_1))=true:=zDt c7;clear c7;obtain rfl:=zSi H;have p155:0≤(x11_1:Int):=zDo (by with_reducible assumption);have q155:x11_1<(l0.length:Int):=zDo (by with_reducible assumption);obtain ⟨ad155,e155,hx155_0⟩:=Kd.at_int HR0.out x11_1 p155 q155;cases e155
         replace hx155_0:=(HB.out.cell (World.block_lt_of_cell? w _ hx155_0)).trans hx155_0;replace p155:=eq_true p155;replace q155:=eq_true q155;go_wp2
         go_ret
         exact ⟨by first|rfl|(simp [y06,y05]<;>rfl)|(simp [*,y06,y05]<;>rfl),by repeat (with_reducible first|exact HB.out|apply y01|apply y00|apply y02)⟩
        ·rw [if_neg c7] at H
         have c7b0:decide (x3_1<(rd l0 x11_1))=false:=zDf c7;clear c7;obtain ⟨ji8,hji8⟩:∃ j_:Int,(mx x3_1 (wrap64 ((rd l0 x11_1)+1)))=j_:=⟨_,rfl⟩
         replace H:(mobs_IsParting.l0 k1 ji8 l0 (l0.length:Int) (wrap64 (x11_1+1)))=some r:=by first|(rw [hji8] at H;exact H)|(simp only [hji8] at H ⊢;exact H)
         have hji8_:(if x3_1<(wrap64 ((rd l0 x11_1)+1)) then (wrap64 ((rd l0 x11_1)+1)) else x3_1)=ji8:=hji8;have H':=As0.mk H;clear H;have p155:0≤(x11_1:Int):=zDo (by with_reducible assumption);have q155:x11_1<(l0.length:Int):=zDo (by with_reducible assumption);obtain ⟨ad155,e155,hx155_0⟩:=Kd.at_int HR0.out x11_1 p155 q155;cases e155
         replace hx155_0:=(HB.out.cell (World.block_lt_of_cell? w _ hx155_0)).trans hx155_0;replace p155:=eq_true p155;replace q155:=eq_true q155;go_wp2
         go_roundg k1
         case measure=>have:=HK1.out;omega
         case rel=>exact ⟨(ji8),(wrap64 (x11_1+1)),(by first|rfl|(simp;done)|(simp only [← hji8]<;>(first|rfl|simp))|(simp [*];done)),(by first|rfl|(simp;done)|(simp [*];done)),H',⟨by have:=HK1.out;omega⟩,⟨by repeat (with_reducible first|exact HB.out|apply y01|apply y00|apply y02)⟩⟩
      ·rw [if_neg c5] at H
       exact absurd H (by simp)
     ·rw [if_neg c4] at H
      exact absurd H (by simp)
    ·rw [if_neg c3] at H
     have c3b0:decide (x11_1<(l0.length:Int))=false:=zDf c3;clear c3;obtain rfl:=zSi H;go_wp2
     go_ret
     exact ⟨by first|rfl|(simp [y06,y05]<;>rfl)|(simp [*,y06,y05]<;>rfl),by repeat (with_reducible first|exact HB.out|apply y01|apply y00|apply y02)⟩
def mobs_read.l0:Nat->List (List Int)->List (List Int)->Int->Int->Option (Int)
 |0,_,_,_,_=>none
 |k+1,x0,x5,x6,x7=>if x7<x6 then (if 0≤x7 then (if x7<(x5.length:Int) then (if ((y0i x5 x7).length:Int) > 12 then (some 3) else ((mobs_IsParting.f k (y0i x5 x7)).bind fun t159=>(if t159=true then (mobs_read.l0 k x0 x5 x6 (wrap64 (x7+1))) else (some 2)))) else (none)) else (none)) else (if (x0.length:Int)=2 then (if 0<(x0.length:Int) then (if 1<(x0.length:Int) then (if ((y0i x0 0).length:Int)=((y0i x0 1).length:Int) then (some 0) else (some 2)) else (none)) else (none)) else (some 0))
def mobs_read.f (k:Nat) (l0:List (List Int)):Option (Int):=mobs_read.l0 k l0 l0 (l0.length:Int) 0
theorem mobs_read.calls (k:Nat) (A0:Option Addr) (c0:Nat) (l0:List (List Int)) (r:Int) (w:World) (hr0:Kd.C (Kd.slice 3 (Kd.int .i64)) w A0 l0.length l0) (hc0:l0.length≤c0) (h:mobs_read.f k l0=some r) :
  Calls Tra.prog 49 #[.slice A0 l0.length c0] w fun e w'=>e=.returned (.int .i64 r)∧Below w.heap.size w w':=by
 have HR0:=As0.mk hr0;have HC0:=As0.mk hc0;clear hr0 hc0;have HB:=As0.mk (Below.refl w.heap.size w);have H:(mobs_read.l0 k l0 l0 (l0.length:Int) 0)=some r:=h;clear h;have H':=As0.mk H;clear H;go_enter Tra.func49,Tra.ntmps49
 go_wp2
 repeat (go_quiet (fail);try go_wp2)
 go_loopg [7] k (fun kq v7 w'=>∃ (x7_1:Int),v7=.int .i64 x7_1∧As0 (mobs_read.l0 kq l0 l0 (l0.length:Int) x7_1=some r)∧As0 (kq≤k)∧As0 (Below w.heap.size w w'))
 case atStart=>exact ⟨(0),(by first|rfl|(simp;done)|(simp [*];done)),H',⟨zLe _⟩,⟨by repeat (with_reducible first|exact HB.out|apply y01|apply y00|apply y02)⟩⟩
 case round =>
  clear H';obtain ⟨x7_1,rfl,HA,HK1,HB⟩:=hrel;cases gk with
  |zero=>exact absurd HA.out (by simp [mobs_read.l0])
  |succ k1 =>
   have H:=HA.out;clear HA;simp only [mobs_read.l0] at H
   by_cases c2:x7_1<(l0.length:Int)
   ·rw [if_pos c2] at H
    have c2b0:decide (x7_1<(l0.length:Int))=true:=zDt c2;clear c2
    by_cases c3:0≤x7_1
    ·rw [if_pos c3] at H
     have c3b0:decide (0≤x7_1)=true:=zDt c3;clear c3
     by_cases c4:x7_1<(l0.length:Int)
     ·rw [if_pos c4] at H
      have c4b0:decide (x7_1<(l0.length:Int))=true:=zDt c4;clear c4
      by_cases c5:((y0i l0 x7_1).length:Int) > 12
      ·rw [if_pos c5] at H
       have c5b0:decide (12<((y0i l0 x7_1).length:Int))=true:=zDt c5;have c5b1:decide (12<(y0i l0 x7_1).length)=true:=zDt (by omega);clear c5;obtain rfl:=zSi H;have p158:0≤(x7_1:Int):=zDo (by with_reducible assumption);have q158:x7_1<(l0.length:Int):=zDo (by with_reducible assumption);obtain ⟨ad158,A158_0,c158_0,e158,hx158_0,hl158_0,hi158_0⟩:=y3k HR0.out x7_1 p158 q158;cases e158
       replace hx158_0:=(HB.out.cell (World.block_lt_of_cell? w _ hx158_0)).trans hx158_0;have HR158_0:=As0.mk hi158_0;have HC158_0:=As0.mk hl158_0;clear hi158_0 hl158_0;replace p158:=eq_true p158;replace q158:=eq_true q158;go_wp2
       repeat (go_quiet (fail);try go_wp2)
       go_ret
       exact ⟨by first|rfl|(simp [y06,y05]<;>rfl)|(simp [*,y06,y05]<;>rfl),by repeat (with_reducible first|exact HB.out|apply y01|apply y00|apply y02)⟩
      ·rw [if_neg c5] at H
       have c5b0:decide (12<((y0i l0 x7_1).length:Int))=false:=zDf c5;have c5b1:decide (12<(y0i l0 x7_1).length)=false:=zDf (by omega);clear c5;replace H:=Option.bind_eq_some_iff.mp H;obtain ⟨t159,A60,H⟩:=H;replace H:(if t159=true then (mobs_read.l0 k1 l0 l0 (l0.length:Int) (wrap64 (x7_1+1))) else (some 2))=some r:=H;have A6:=As0.mk A60;clear A60
       by_cases c7:t159=true
       ·subst c7
        have H1:(mobs_read.l0 k1 l0 l0 (l0.length:Int) (wrap64 (x7_1+1)))=some r:=by rw [if_pos rfl] at H;exact H
        clear H;have H:=H1;clear H1;have H':=As0.mk H;clear H;have p158:0≤(x7_1:Int):=zDo (by with_reducible assumption);have q158:x7_1<(l0.length:Int):=zDo (by with_reducible assumption);obtain ⟨ad158,A158_0,c158_0,e158,hx158_0,hl158_0,hi158_0⟩:=y3k HR0.out x7_1 p158 q158;cases e158
        replace hx158_0:=(HB.out.cell (World.block_lt_of_cell? w _ hx158_0)).trans hx158_0;have HR158_0:=As0.mk hi158_0;have HC158_0:=As0.mk hl158_0;clear hi158_0 hl158_0;replace p158:=eq_true p158;replace q158:=eq_true q158;go_wp2_with (first|(go_at_call 40;(with_reducible refine (mobs_IsParting.calls k1 _ _ (y0i l0 x7_1) true _ ?side1 ?side2 A6.out).mono ?_);(case side1=>repeat (first|exact (Kd.C_below HR158_0.out HB.out)|(with_reducible refine Kd.C_alloc ?_ _)|(with_reducible refine Kd.C_drewN ?_ _)|(with_reducible refine Kd.C_drew ?_)));(case side2=>exact HC158_0.out);rintro e w8 ⟨rfl,hb⟩;have n0_:=As0.mk (y03 (by repeat (with_reducible first|exact HB.out|apply y01|apply y00|apply y02)) hb);clear HB;have HB:=n0_;clear n0_;(try clear hb);(try clear hb2);(try clear hk);(try clear hi)))
        repeat (go_quiet (first|(go_at_call 40;(with_reducible refine (mobs_IsParting.calls k1 _ _ (y0i l0 x7_1) true _ ?side1 ?side2 A6.out).mono ?_);(case side1=>repeat (first|exact (Kd.C_below HR158_0.out HB.out)|(with_reducible refine Kd.C_alloc ?_ _)|(with_reducible refine Kd.C_drewN ?_ _)|(with_reducible refine Kd.C_drew ?_)));(case side2=>exact HC158_0.out);rintro e w8 ⟨rfl,hb⟩;have n0_:=As0.mk (y03 (by repeat (with_reducible first|exact HB.out|apply y01|apply y00|apply y02)) hb);clear HB;have HB:=n0_;clear n0_;(try clear hb);(try clear hb2);(try clear hk);(try clear hi)));try go_wp2_with (first|(go_at_call 40;(with_reducible refine (mobs_IsParting.calls k1 _ _ (y0i l0 x7_1) true _ ?side1 ?side2 A6.out).mono ?_);(case side1=>repeat (first|exact (Kd.C_below HR158_0.out HB.out)|(with_reducible refine Kd.C_alloc ?_ _)|(with_reducible refine Kd.C_drewN ?_ _)|(with_reducible refine Kd.C_drew ?_)));(case side2=>exact HC158_0.out);rintro e w8 ⟨rfl,hb⟩;have n0_:=As0.mk (y03 (by repeat (with_reducible first|exact HB.out|apply y01|apply y00|apply y02)) hb);clear HB;have HB:=n0_;clear n0_;(try clear hb);(try clear hb2);(try clear hk);(try clear hi))))
        go_roundg k1
        case measure=>have:=HK1.out;omega
        case rel=>exact ⟨(wrap64 (x7_1+1)),(by first|rfl|(simp;done)|(simp [*];done)),H',⟨by have:=HK1.out;omega⟩,⟨by repeat (with_reducible first|exact HB.out|apply y01|apply y00|apply y02)⟩⟩
       ·replace c7:=Bool.eq_false_iff.mpr c7
        subst c7;have H1:(some 2)=some r:=by rw [if_neg (show ¬ (false=true) by decide)] at H;exact H
        clear H;have H:=H1;clear H1;obtain rfl:=zSi H;have p158:0≤(x7_1:Int):=zDo (by with_reducible assumption);have q158:x7_1<(l0.length:Int):=zDo (by with_reducible assumption);obtain ⟨ad158,A158_0,c158_0,e158,hx158_0,hl158_0,hi158_0⟩:=y3k HR0.out x7_1 p158 q158;cases e158
        replace hx158_0:=(HB.out.cell (World.block_lt_of_cell? w _ hx158_0)).trans hx158_0;have HR158_0:=As0.mk hi158_0;have HC158_0:=As0.mk hl158_0;clear hi158_0 hl158_0;replace p158:=eq_true p158;replace q158:=eq_true q158;go_wp2_with (first|(go_at_call 40;(with_reducible refine (mobs_IsParting.calls k1 _ _ (y0i l0 x7_1) false _ ?side1 ?side2 A6.out).mono ?_);(case side1=>repeat (first|exact (Kd.C_below HR158_0.out HB.out)|(with_reducible refine Kd.C_alloc ?_ _)|(with_reducible refine Kd.C_drewN ?_ _)|(with_reducible refine Kd.C_drew ?_)));(case side2=>exact HC158_0.out);rintro e w9 ⟨rfl,hb⟩;have n0_:=As0.mk (y03 (by repeat (with_reducible first|exact HB.out|apply y01|apply y00|apply y02)) hb);clear HB;have HB:=n0_;clear n0_;(try clear hb);(try clear hb2);(try clear hk);(try clear hi)))
        repeat (go_quiet (first|(go_at_call 40;(with_reducible refine (mobs_IsParting.calls k1 _ _ (y0i l0 x7_1) false _ ?side1 ?side2 A6.out).mono ?_);(case side1=>repeat (first|exact (Kd.C_below HR158_0.out HB.out)|(with_reducible refine Kd.C_alloc ?_ _)|(with_reducible refine Kd.C_drewN ?_ _)|(with_reducible refine Kd.C_drew ?_)));(case side2=>exact HC158_0.out);rintro e w9 ⟨rfl,hb⟩;have n0_:=As0.mk (y03 (by repeat (with_reducible first|exact HB.out|apply y01|apply y00|apply y02)) hb);clear HB;have HB:=n0_;clear n0_;(try clear hb);(try clear hb2);(try clear hk);(try clear hi)));try go_wp2_with (first|(go_at_call 40;(with_reducible refine (mobs_IsParting.calls k1 _ _ (y0i l0 x7_1) false _ ?side1 ?side2 A6.out).mono ?_);(case side1=>repeat (first|exact (Kd.C_below HR158_0.out HB.out)|(with_reducible refine Kd.C_alloc ?_ _)|(with_reducible refine Kd.C_drewN ?_ _)|(with_reducible refine Kd.C_drew ?_)));(case side2=>exact HC158_0.out);rintro e w9 ⟨rfl,hb⟩;have n0_:=As0.mk (y03 (by repeat (with_reducible first|exact HB.out|apply y01|apply y00|apply y02)) hb);clear HB;have HB:=n0_;clear n0_;(try clear hb);(try clear hb2);(try clear hk);(try clear hi))))
        go_ret
        exact ⟨by first|rfl|(simp [y06,y05]<;>rfl)|(simp [*,y06,y05]<;>rfl),by repeat (with_reducible first|exact HB.out|apply y01|apply y00|apply y02)⟩
     ·rw [if_neg c4] at H
      exact absurd H (by simp)
    ·rw [if_neg c3] at H
     exact absurd H (by simp)
   ·rw [if_neg c2] at H
    have c2b0:decide (x7_1<(l0.length:Int))=false:=zDf c2;clear c2
    by_cases c10:(l0.length:Int)=2
    ·rw [if_pos c10] at H
     have c10b0:((l0.length:Int) == 2)=true:=beq_iff_eq.mpr c10;have c10b1:((l0.length:Int) != 2)=false:=bne_eq_false_iff_eq.mpr c10;clear c10
     by_cases c11:0<(l0.length:Int)
     ·rw [if_pos c11] at H
      have c11b0:decide (0<(l0.length:Int))=true:=zDt c11;have c11b1:decide (0<l0.length)=true:=zDt (by omega);clear c11
      by_cases c12:1<(l0.length:Int)
      ·rw [if_pos c12] at H
       have c12b0:decide (1<(l0.length:Int))=true:=zDt c12;have c12b1:decide (1<l0.length)=true:=zDt (by omega);clear c12
       by_cases c13:((y0i l0 0).length:Int)=((y0i l0 1).length:Int)
       ·rw [if_pos c13] at H
        have c13b0:(((y0i l0 0).length:Int) == ((y0i l0 1).length:Int))=true:=beq_iff_eq.mpr c13;have c13b1:(((y0i l0 0).length:Int) != ((y0i l0 1).length:Int))=false:=bne_eq_false_iff_eq.mpr c13;have c13b2:((y0i l0 0).length == (y0i l0 1).length)=true:=by first|simpa using c13|(simp at c13 ⊢;omega)
        clear c13;obtain rfl:=zSi H;have p156:0≤(0:Int):=(by omega)
        have q156:0<(l0.length:Int):=zDo (by with_reducible assumption);obtain ⟨ad156,A156_0,c156_0,e156,hx156_0,hl156_0,hi156_0⟩:=y3k HR0.out 0 p156 q156;cases e156
        have qi156:(0<l0.length)=True:=eq_true (by omega)
        (try rw [show ((0:Int)).toNat=0 from rfl] at hx156_0)
        (try rw [Addr.add_zero'] at hx156_0)
        replace hx156_0:=(HB.out.cell (World.block_lt_of_cell? w _ hx156_0)).trans hx156_0;have HR156_0:=As0.mk hi156_0;have HC156_0:=As0.mk hl156_0;clear hi156_0 hl156_0;replace p156:=eq_true p156;replace q156:=eq_true q156;have p157:0≤(1:Int):=(by omega)
        have q157:1<(l0.length:Int):=zDo (by with_reducible assumption);obtain ⟨ad157,A157_0,c157_0,e157,hx157_0,hl157_0,hi157_0⟩:=y3k HR0.out 1 p157 q157;obtain rfl:ad156=ad157:=(by injection e157)
        (try simp only [show (1:Int).toNat=1 from rfl,Nat.reduceMul,Nat.reduceEqDiff,Go.Addr.add,↓reduceIte] at hx157_0)
        have qi157:(1<l0.length)=True:=eq_true (by omega)
        (try rw [show ((1:Int)).toNat=1 from rfl] at hx157_0)
        replace hx157_0:=(HB.out.cell (World.block_lt_of_cell? w _ hx157_0)).trans hx157_0;have HR157_0:=As0.mk hi157_0;have HC157_0:=As0.mk hl157_0;clear hi157_0 hl157_0;replace p157:=eq_true p157;replace q157:=eq_true q157;go_wp2
        repeat (go_quiet (fail);try go_wp2)
        go_ret
        exact ⟨by first|rfl|(simp [y06,y05]<;>rfl)|(simp [*,y06,y05]<;>rfl),by repeat (with_reducible first|exact HB.out|apply y01|apply y00|apply y02)⟩
       ·rw [if_neg c13] at H
        have c13b0:(((y0i l0 0).length:Int) == ((y0i l0 1).length:Int))=false:=beq_eq_false_iff_ne.mpr c13;have c13b1:(((y0i l0 0).length:Int) != ((y0i l0 1).length:Int))=true:=bne_iff_ne.mpr c13;have c13b2:((y0i l0 0).length == (y0i l0 1).length)=false:=by first|simpa using c13|(simp at c13 ⊢;omega)
        obtain rfl:=zSi H;have p156:0≤(0:Int):=(by omega)
        have q156:0<(l0.length:Int):=zDo (by with_reducible assumption);obtain ⟨ad156,A156_0,c156_0,e156,hx156_0,hl156_0,hi156_0⟩:=y3k HR0.out 0 p156 q156;cases e156
        have qi156:(0<l0.length)=True:=eq_true (by omega)
        (try rw [show ((0:Int)).toNat=0 from rfl] at hx156_0)
        (try rw [Addr.add_zero'] at hx156_0)
        replace hx156_0:=(HB.out.cell (World.block_lt_of_cell? w _ hx156_0)).trans hx156_0;have HR156_0:=As0.mk hi156_0;have HC156_0:=As0.mk hl156_0;clear hi156_0 hl156_0;replace p156:=eq_true p156;replace q156:=eq_true q156;have p157:0≤(1:Int):=(by omega)
        have q157:1<(l0.length:Int):=zDo (by with_reducible assumption);obtain ⟨ad157,A157_0,c157_0,e157,hx157_0,hl157_0,hi157_0⟩:=y3k HR0.out 1 p157 q157;obtain rfl:ad156=ad157:=(by injection e157)
        (try simp only [show (1:Int).toNat=1 from rfl,Nat.reduceMul,Nat.reduceEqDiff,Go.Addr.add,↓reduceIte] at hx157_0)
        have qi157:(1<l0.length)=True:=eq_true (by omega)
        (try rw [show ((1:Int)).toNat=1 from rfl] at hx157_0)
        replace hx157_0:=(HB.out.cell (World.block_lt_of_cell? w _ hx157_0)).trans hx157_0;have HR157_0:=As0.mk hi157_0;have HC157_0:=As0.mk hl157_0;clear hi157_0 hl157_0;replace p157:=eq_true p157;replace q157:=eq_true q157;go_wp2
        repeat (go_quiet (fail);try go_wp2)
        go_ret
        exact ⟨by first|rfl|(simp [y06,y05]<;>rfl)|(simp [*,y06,y05]<;>rfl),by repeat (with_reducible first|exact HB.out|apply y01|apply y00|apply y02)⟩
      ·rw [if_neg c12] at H
       exact absurd H (by simp)
     ·rw [if_neg c11] at H
      exact absurd H (by simp)
    ·rw [if_neg c10] at H
     have c10b0:((l0.length:Int) == 2)=false:=beq_eq_false_iff_ne.mpr c10;have c10b1:((l0.length:Int) != 2)=true:=bne_iff_ne.mpr c10;obtain rfl:=zSi H;go_wp2
     repeat (go_quiet (fail);try go_wp2)
     go_ret
     exact ⟨by first|rfl|(simp [y06,y05]<;>rfl)|(simp [*,y06,y05]<;>rfl),by repeat (with_reducible first|exact HB.out|apply y01|apply y00|apply y02)⟩
end
end Go.Proofs.Ytdhgeondbnpeoaa.P
namespace Go.Proofs.Ytdhgeondbnpeoaa.P
open Go.RowKit Go.Proofs.Yw.Wd Go.Proofs.Yw.La Go.Proofs.Yw.Mo
attribute [local go_sem] y0y y0w y17 y16 y0q y0p y0x y0v
mutual
def mobs_crossed.l0:Nat->List Int->Int->Int->Option (Int × Int × Int × Int × Bool)
 |0,_,_,_=>none
 |k+1,x0,x9,x10=>if x10<x9 then (mobs_crossed.l1 k x0 x10 (wrap64 (x10+1)) x9 x10) else (some (0,0,0,0,false))
def mobs_crossed.l1:Nat->List Int->Int->Int->Int->Int->Option (Int × Int × Int × Int × Bool)
 |0,_,_,_,_,_=>none
 |k+1,x0,x4,x5,x9,x10=>if x5<(x0.length:Int) then (mobs_crossed.l2 k x0 x4 x5 (wrap64 (x5+1)) x9 x10) else (mobs_crossed.l0 k x0 x9 (wrap64 (x10+1)))
def mobs_crossed.l2:Nat->List Int->Int->Int->Int->Int->Int->Option (Int × Int × Int × Int × Bool)
 |0,_,_,_,_,_,_=>none
 |k+1,x0,x4,x5,x6,x9,x10=>if x6<(x0.length:Int) then (mobs_crossed.l3 k x0 x4 x5 x6 (wrap64 (x6+1)) x9 x10) else (mobs_crossed.l1 k x0 x4 (wrap64 (x5+1)) x9 x10)
def mobs_crossed.l3:Nat->List Int->Int->Int->Int->Int->Int->Int->Option (Int × Int × Int × Int × Bool)
 |0,_,_,_,_,_,_,_=>none
 |k+1,x0,x4,x5,x6,x7,x9,x10=>if x7<(x0.length:Int) then (if 0≤x4 then (if x4<(x0.length:Int) then (if 0≤x6 then (if x6<(x0.length:Int) then (if (rd x0 x4)=(rd x0 x6) then (if 0≤x5 then (if x5<(x0.length:Int) then (if 0≤x7 then (if (rd x0 x5)=(rd x0 x7) then (if (rd x0 x4)=(rd x0 x5) then (mobs_crossed.l3 k x0 x4 x5 x6 (wrap64 (x7+1)) x9 x10) else (some (x4,x5,x6,x7,true))) else (mobs_crossed.l3 k x0 x4 x5 x6 (wrap64 (x7+1)) x9 x10)) else (none)) else (none)) else (none)) else (mobs_crossed.l3 k x0 x4 x5 x6 (wrap64 (x7+1)) x9 x10)) else (none)) else (none)) else (none)) else (none)) else (mobs_crossed.l2 k x0 x4 x5 (wrap64 (x6+1)) x9 x10)
end
def mobs_crossed.f (k:Nat) (l0:List Int):Option (Int × Int × Int × Int × Bool):=mobs_crossed.l0 k l0 (l0.length:Int) 0
theorem mobs_crossed.calls (k:Nat) (A0:Option Addr) (c0:Nat) (l0:List Int) (r1:Int) (r2:Int) (r3:Int) (r4:Int) (r5:Bool) (w:World) (hr0:Kd.C (Kd.int .i64) w A0 l0.length l0) (hc0:l0.length≤c0) (h:mobs_crossed.f k l0=some (r1,r2,r3,r4,r5)) :
  Calls Tra.prog 50 #[.slice A0 l0.length c0] w fun e w'=>e=.returned (.tuple #[.agg #[.int .i64 r1,.int .i64 r2,.int .i64 r3,.int .i64 r4],.bool r5])∧Below w.heap.size w w':=by
 have hu31:=Tra.underlying31;have HR0:=As0.mk hr0;have HC0:=As0.mk hc0;clear hr0 hc0;have HB:=As0.mk (Below.refl w.heap.size w);have H:(mobs_crossed.l0 k l0 (l0.length:Int) 0)=some (r1,r2,r3,r4,r5):=h;clear h;have H':=As0.mk H;clear H;go_enter Tra.func50,Tra.ntmps50
 go_wp2_with (first|((with_reducible refine y0n (N:=2) rfl ?_);refine y25 ?hg (N:=2) ?hd (cs:=#[.int .i64 0,.int .i64 0,.int .i64 0,.int .i64 0]) (t:=31) ?hr ?_;(case hd=>rfl);(case hg=>rfl);(case hr=>first|(go_simp;done)|(go_simp;rfl));intro gb160 hg w2 hbox hb;have n0_:=As0.mk (y03 (by repeat (with_reducible first|exact HB.out|apply y01|apply y00|apply y02)) hb);have n1_:=As0.mk (hbox);have n2_:=As0.mk ((by rw [hg];exact (y04 (by repeat (with_reducible first|exact HB.out|apply y01|apply y00|apply y02))):w.heap.size≤gb160));have n3_:=As0.mk ((by rw [hg];exact (y04 (by repeat (with_reducible first|exact HB.out|apply y01|apply y00|apply y02))):w.heap.size≤gb160));clear HB;have HB:=n0_;have BK160:=n1_;have GW160:=n2_;have GE160:=n3_;clear n0_ n1_ n2_ n3_;clear hb hbox hg))
 repeat (go_quiet (first|((with_reducible refine y0n (N:=2) rfl ?_);refine y25 ?hg (N:=2) ?hd (cs:=#[.int .i64 0,.int .i64 0,.int .i64 0,.int .i64 0]) (t:=31) ?hr ?_;(case hd=>rfl);(case hg=>rfl);(case hr=>first|(go_simp;done)|(go_simp;rfl));intro gb160 hg w2 hbox hb;have n0_:=As0.mk (y03 (by repeat (with_reducible first|exact HB.out|apply y01|apply y00|apply y02)) hb);have n1_:=As0.mk (hbox);have n2_:=As0.mk ((by rw [hg];exact (y04 (by repeat (with_reducible first|exact HB.out|apply y01|apply y00|apply y02))):w.heap.size≤gb160));have n3_:=As0.mk ((by rw [hg];exact (y04 (by repeat (with_reducible first|exact HB.out|apply y01|apply y00|apply y02))):w.heap.size≤gb160));clear HB;have HB:=n0_;have BK160:=n1_;have GW160:=n2_;have GE160:=n3_;clear n0_ n1_ n2_ n3_;clear hb hbox hg));try go_wp2_with (first|((with_reducible refine y0n (N:=2) rfl ?_);refine y25 ?hg (N:=2) ?hd (cs:=#[.int .i64 0,.int .i64 0,.int .i64 0,.int .i64 0]) (t:=31) ?hr ?_;(case hd=>rfl);(case hg=>rfl);(case hr=>first|(go_simp;done)|(go_simp;rfl));intro gb160 hg w2 hbox hb;have n0_:=As0.mk (y03 (by repeat (with_reducible first|exact HB.out|apply y01|apply y00|apply y02)) hb);have n1_:=As0.mk (hbox);have n2_:=As0.mk ((by rw [hg];exact (y04 (by repeat (with_reducible first|exact HB.out|apply y01|apply y00|apply y02))):w.heap.size≤gb160));have n3_:=As0.mk ((by rw [hg];exact (y04 (by repeat (with_reducible first|exact HB.out|apply y01|apply y00|apply y02))):w.heap.size≤gb160));clear HB;have HB:=n0_;have BK160:=n1_;have GW160:=n2_;have GE160:=n3_;clear n0_ n1_ n2_ n3_;clear hb hbox hg)))
 go_loopg [10] k (fun kq v10 w'=>∃ (x10_1:Int) (x161000_1:Int) (x161001_1:Int) (x161002_1:Int) (x161003_1:Int),v10=.int .i64 x10_1∧As0 (mobs_crossed.l0 kq l0 (l0.length:Int) x10_1=some (r1,r2,r3,r4,r5))∧As0 (kq≤k)∧As0 (w'.heap[gb160]?=some (.cells #[.int .i64 x161000_1,.int .i64 x161001_1,.int .i64 x161002_1,.int .i64 x161003_1] 31 (0,0)))∧As0 (Below w.heap.size w w'))
 case atStart=>exact ⟨(0),(0),(0),(0),(0),(by first|rfl|(simp;done)|(simp [*];done)),H',⟨zLe _⟩,⟨by (with_reducible repeat (first|refine y0b ?_ _|refine blk_drew ?_|refine blk_alloc ?_ _));exact BK160.out⟩,⟨by repeat (with_reducible first|exact HB.out|apply y01|apply y00|apply y02|refine y0c ?_ GE160.out)⟩⟩
 case round =>
  clear H'
  try clear p2
  obtain ⟨x10_1,x161000_1,x161001_1,x161002_1,x161003_1,rfl,HA,HK1,BK160,HB⟩:=hrel;cases gk with
  |zero=>exact absurd HA.out (by simp [mobs_crossed.l0])
  |succ k1 =>
   have H:=HA.out;clear HA;simp only [mobs_crossed.l0] at H
   by_cases c3:x10_1<(l0.length:Int)
   ·rw [if_pos c3] at H
    have c3b0:decide (x10_1<(l0.length:Int))=true:=zDt c3;clear c3;have H':=As0.mk H;clear H;go_wp2
    repeat (go_quiet (fail);try go_wp2)
    go_loopg [5] k1 (fun kq v5 w'=>∃ (x5_2:Int) (x161000_2:Int) (x161001_2:Int) (x161002_2:Int) (x161003_2:Int),v5=.int .i64 x5_2∧As0 (mobs_crossed.l1 kq l0 x10_1 x5_2 (l0.length:Int) x10_1=some (r1,r2,r3,r4,r5))∧As0 (kq≤k1)∧As0 (w'.heap[gb160]?=some (.cells #[.int .i64 x161000_2,.int .i64 x161001_2,.int .i64 x161002_2,.int .i64 x161003_2] 31 (0,0)))∧As0 (Below w.heap.size w w'))
    case atStart=>exact ⟨(wrap64 (x10_1+1)),(x161000_1),(x161001_1),(x161002_1),(x161003_1),(by first|rfl|(simp;done)|(simp [*];done)),H',⟨zLe _⟩,⟨by (with_reducible repeat (first|refine y0b ?_ _|refine blk_drew ?_|refine blk_alloc ?_ _));exact BK160.out⟩,⟨by repeat (with_reducible first|exact HB.out|apply y01|apply y00|apply y02|refine y0c ?_ GE160.out)⟩⟩
    case round =>
     clear H'
     try clear p2
     try clear c3
     try clear c3b0
     try clear p2
     obtain ⟨x5_2,x161000_2,x161001_2,x161002_2,x161003_2,rfl,HA,HK2,BK160,HB⟩:=hrel;cases gk with
     |zero=>exact absurd HA.out (by simp [mobs_crossed.l1])
     |succ k2 =>
      have H:=HA.out;clear HA;simp only [mobs_crossed.l1] at H
      by_cases c4:x5_2<(l0.length:Int)
      ·rw [if_pos c4] at H
       have c4b0:decide (x5_2<(l0.length:Int))=true:=zDt c4;clear c4;have H':=As0.mk H;clear H;go_wp2
       repeat (go_quiet (fail);try go_wp2)
       go_loopg [6] k2 (fun kq v6 w'=>∃ (x6_3:Int) (x161000_3:Int) (x161001_3:Int) (x161002_3:Int) (x161003_3:Int),v6=.int .i64 x6_3∧As0 (mobs_crossed.l2 kq l0 x10_1 x5_2 x6_3 (l0.length:Int) x10_1=some (r1,r2,r3,r4,r5))∧As0 (kq≤k2)∧As0 (w'.heap[gb160]?=some (.cells #[.int .i64 x161000_3,.int .i64 x161001_3,.int .i64 x161002_3,.int .i64 x161003_3] 31 (0,0)))∧As0 (Below w.heap.size w w'))
       case atStart=>exact ⟨(wrap64 (x5_2+1)),(x161000_2),(x161001_2),(x161002_2),(x161003_2),(by first|rfl|(simp;done)|(simp [*];done)),H',⟨zLe _⟩,⟨by (with_reducible repeat (first|refine y0b ?_ _|refine blk_drew ?_|refine blk_alloc ?_ _));exact BK160.out⟩,⟨by repeat (with_reducible first|exact HB.out|apply y01|apply y00|apply y02|refine y0c ?_ GE160.out)⟩⟩
       case round =>
        clear H'
        try clear p2
        try clear c3
        try clear c3b0
        try clear c4
        try clear c4b0
        try clear p2
        obtain ⟨x6_3,x161000_3,x161001_3,x161002_3,x161003_3,rfl,HA,HK3,BK160,HB⟩:=hrel;cases gk with
        |zero=>exact absurd HA.out (by simp [mobs_crossed.l2])
        |succ k3 =>
         have H:=HA.out;clear HA;simp only [mobs_crossed.l2] at H
         by_cases c5:x6_3<(l0.length:Int)
         ·rw [if_pos c5] at H
          have c5b0:decide (x6_3<(l0.length:Int))=true:=zDt c5;clear c5;have H':=As0.mk H;clear H;go_wp2
          repeat (go_quiet (fail);try go_wp2)
          go_loopg [7] k3 (fun kq v7 w'=>∃ (x7_4:Int) (x161000_4:Int) (x161001_4:Int) (x161002_4:Int) (x161003_4:Int),v7=.int .i64 x7_4∧As0 (mobs_crossed.l3 kq l0 x10_1 x5_2 x6_3 x7_4 (l0.length:Int) x10_1=some (r1,r2,r3,r4,r5))∧As0 (kq≤k3)∧As0 (w'.heap[gb160]?=some (.cells #[.int .i64 x161000_4,.int .i64 x161001_4,.int .i64 x161002_4,.int .i64 x161003_4] 31 (0,0)))∧As0 (Below w.heap.size w w'))
          case atStart=>exact ⟨(wrap64 (x6_3+1)),(x161000_3),(x161001_3),(x161002_3),(x161003_3),(by first|rfl|(simp;done)|(simp [*];done)),H',⟨zLe _⟩,⟨by (with_reducible repeat (first|refine y0b ?_ _|refine blk_drew ?_|refine blk_alloc ?_ _));exact BK160.out⟩,⟨by repeat (with_reducible first|exact HB.out|apply y01|apply y00|apply y02|refine y0c ?_ GE160.out)⟩⟩
          case round =>
           clear H'
           try clear p2
           try clear c3
           try clear c3b0
           try clear c4
           try clear c4b0
           try clear c5
           try clear c5b0
           try clear p2
           obtain ⟨x7_4,x161000_4,x161001_4,x161002_4,x161003_4,rfl,HA,HK4,BK160,HB⟩:=hrel;cases gk with
           |zero=>exact absurd HA.out (by simp [mobs_crossed.l3])
           |succ k4 =>
            have H:=HA.out;clear HA;simp only [mobs_crossed.l3] at H
            by_cases c6:x7_4<(l0.length:Int)
            ·rw [if_pos c6] at H
             have c6b0:decide (x7_4<(l0.length:Int))=true:=zDt c6;clear c6
             by_cases c7:0≤x10_1
             ·rw [if_pos c7] at H
              have c7b0:decide (0≤x10_1)=true:=zDt c7;clear c7
              by_cases c8:x10_1<(l0.length:Int)
              ·rw [if_pos c8] at H
               have c8b0:decide (x10_1<(l0.length:Int))=true:=zDt c8;clear c8
               by_cases c9:0≤x6_3
               ·rw [if_pos c9] at H
                have c9b0:decide (0≤x6_3)=true:=zDt c9;clear c9
                by_cases c10:x6_3<(l0.length:Int)
                ·rw [if_pos c10] at H
                 have c10b0:decide (x6_3<(l0.length:Int))=true:=zDt c10;clear c10
                 by_cases c11:(rd l0 x10_1)=(rd l0 x6_3)
                 ·rw [if_pos c11] at H
                  have c11b0:((rd l0 x10_1) == (rd l0 x6_3))=true:=beq_iff_eq.mpr c11;have c11b1:((rd l0 x10_1) != (rd l0 x6_3))=false:=bne_eq_false_iff_eq.mpr c11;clear c11
                  by_cases c12:0≤x5_2
                  ·rw [if_pos c12] at H
                   have c12b0:decide (0≤x5_2)=true:=zDt c12;clear c12
                   by_cases c13:x5_2<(l0.length:Int)
                   ·rw [if_pos c13] at H
                    have c13b0:decide (x5_2<(l0.length:Int))=true:=zDt c13;clear c13
                    by_cases c14:0≤x7_4
                    ·rw [if_pos c14] at H
                     have c14b0:decide (0≤x7_4)=true:=zDt c14;clear c14
                     by_cases c15:(rd l0 x5_2)=(rd l0 x7_4)
                     ·rw [if_pos c15] at H
                      have c15b0:((rd l0 x5_2) == (rd l0 x7_4))=true:=beq_iff_eq.mpr c15;have c15b1:((rd l0 x5_2) != (rd l0 x7_4))=false:=bne_eq_false_iff_eq.mpr c15;clear c15
                      by_cases c16:(rd l0 x10_1)=(rd l0 x5_2)
                      ·rw [if_pos c16] at H
                       have c16b0:((rd l0 x10_1) == (rd l0 x5_2))=true:=beq_iff_eq.mpr c16;have c16b1:((rd l0 x10_1) != (rd l0 x5_2))=false:=bne_eq_false_iff_eq.mpr c16;clear c16;have H':=As0.mk H;clear H;have p161:0≤(x10_1:Int):=zDo (by with_reducible assumption);have q161:x10_1<(l0.length:Int):=zDo (by with_reducible assumption);obtain ⟨ad161,e161,hx161_0⟩:=Kd.at_int HR0.out x10_1 p161 q161;cases e161
                       replace hx161_0:=(HB.out.cell (World.block_lt_of_cell? w _ hx161_0)).trans hx161_0;replace p161:=eq_true p161;replace q161:=eq_true q161;have p162:0≤(x6_3:Int):=zDo (by with_reducible assumption);have q162:x6_3<(l0.length:Int):=zDo (by with_reducible assumption);obtain ⟨ad162,e162,hx162_0⟩:=Kd.at_int HR0.out x6_3 p162 q162;obtain rfl:ad161=ad162:=(by injection e162)
                       replace hx162_0:=(HB.out.cell (World.block_lt_of_cell? w _ hx162_0)).trans hx162_0;replace p162:=eq_true p162;replace q162:=eq_true q162;have p163:0≤(x5_2:Int):=zDo (by with_reducible assumption);have q163:x5_2<(l0.length:Int):=zDo (by with_reducible assumption);obtain ⟨ad163,e163,hx163_0⟩:=Kd.at_int HR0.out x5_2 p163 q163;obtain rfl:ad161=ad163:=(by injection e163)
                       replace hx163_0:=(HB.out.cell (World.block_lt_of_cell? w _ hx163_0)).trans hx163_0;replace p163:=eq_true p163;replace q163:=eq_true q163;have p164:0≤(x7_4:Int):=zDo (by with_reducible assumption);have q164:x7_4<(l0.length:Int):=zDo (by with_reducible assumption);obtain ⟨ad164,e164,hx164_0⟩:=Kd.at_int HR0.out x7_4 p164 q164;obtain rfl:ad161=ad164:=(by injection e164)
                       replace hx164_0:=(HB.out.cell (World.block_lt_of_cell? w _ hx164_0)).trans hx164_0;replace p164:=eq_true p164;replace q164:=eq_true q164;have p165:0≤(x10_1:Int):=zDo (by with_reducible assumption);have q165:x10_1<(l0.length:Int):=zDo (by with_reducible assumption);obtain ⟨ad165,e165,hx165_0⟩:=Kd.at_int HR0.out x10_1 p165 q165;obtain rfl:ad161=ad165:=(by injection e165)
                       replace hx165_0:=(HB.out.cell (World.block_lt_of_cell? w _ hx165_0)).trans hx165_0;replace p165:=eq_true p165;replace q165:=eq_true q165;have p166:0≤(x5_2:Int):=zDo (by with_reducible assumption);have q166:x5_2<(l0.length:Int):=zDo (by with_reducible assumption);obtain ⟨ad166,e166,hx166_0⟩:=Kd.at_int HR0.out x5_2 p166 q166;obtain rfl:ad161=ad166:=(by injection e166)
                       replace hx166_0:=(HB.out.cell (World.block_lt_of_cell? w _ hx166_0)).trans hx166_0;replace p166:=eq_true p166;replace q166:=eq_true q166;go_wp2
                       repeat (go_quiet (fail);try go_wp2)
                       go_roundg k4
                       case measure=>have:=HK1.out;have:=HK2.out;have:=HK3.out;have:=HK4.out;omega
                       case rel=>exact ⟨(wrap64 (x7_4+1)),(x161000_4),(x161001_4),(x161002_4),(x161003_4),(by first|rfl|(simp;done)|(simp [*];done)),H',⟨by have:=HK1.out;have:=HK2.out;have:=HK3.out;have:=HK4.out;omega⟩,⟨by (with_reducible repeat (first|refine y0b ?_ _|refine blk_drew ?_|refine blk_alloc ?_ _));exact BK160.out⟩,⟨by repeat (with_reducible first|exact HB.out|apply y01|apply y00|apply y02|refine y0c ?_ GE160.out)⟩⟩
                      ·rw [if_neg c16] at H
                       have c16b0:((rd l0 x10_1) == (rd l0 x5_2))=false:=beq_eq_false_iff_ne.mpr c16;have c16b1:((rd l0 x10_1) != (rd l0 x5_2))=true:=bne_iff_ne.mpr c16;simp only [Option.some.injEq,Prod.mk.injEq] at H;obtain ⟨rfl,rfl,rfl,rfl,rfl⟩:=H;have p161:0≤(x10_1:Int):=zDo (by with_reducible assumption);have q161:x10_1<(l0.length:Int):=zDo (by with_reducible assumption);obtain ⟨ad161,e161,hx161_0⟩:=Kd.at_int HR0.out x10_1 p161 q161;cases e161
                       replace hx161_0:=(HB.out.cell (World.block_lt_of_cell? w _ hx161_0)).trans hx161_0;replace p161:=eq_true p161;replace q161:=eq_true q161;have p162:0≤(x6_3:Int):=zDo (by with_reducible assumption);have q162:x6_3<(l0.length:Int):=zDo (by with_reducible assumption);obtain ⟨ad162,e162,hx162_0⟩:=Kd.at_int HR0.out x6_3 p162 q162;obtain rfl:ad161=ad162:=(by injection e162)
                       replace hx162_0:=(HB.out.cell (World.block_lt_of_cell? w _ hx162_0)).trans hx162_0;replace p162:=eq_true p162;replace q162:=eq_true q162;have p163:0≤(x5_2:Int):=zDo (by with_reducible assumption);have q163:x5_2<(l0.length:Int):=zDo (by with_reducible assumption);obtain ⟨ad163,e163,hx163_0⟩:=Kd.at_int HR0.out x5_2 p163 q163;obtain rfl:ad161=ad163:=(by injection e163)
                       replace hx163_0:=(HB.out.cell (World.block_lt_of_cell? w _ hx163_0)).trans hx163_0;replace p163:=eq_true p163;replace q163:=eq_true q163;have p164:0≤(x7_4:Int):=zDo (by with_reducible assumption);have q164:x7_4<(l0.length:Int):=zDo (by with_reducible assumption);obtain ⟨ad164,e164,hx164_0⟩:=Kd.at_int HR0.out x7_4 p164 q164;obtain rfl:ad161=ad164:=(by injection e164)
                       replace hx164_0:=(HB.out.cell (World.block_lt_of_cell? w _ hx164_0)).trans hx164_0;replace p164:=eq_true p164;replace q164:=eq_true q164;have p165:0≤(x10_1:Int):=zDo (by with_reducible assumption);have q165:x10_1<(l0.length:Int):=zDo (by with_reducible assumption);obtain ⟨ad165,e165,hx165_0⟩:=Kd.at_int HR0.out x10_1 p165 q165;obtain rfl:ad161=ad165:=(by injection e165)
                       replace hx165_0:=(HB.out.cell (World.block_lt_of_cell? w _ hx165_0)).trans hx165_0;replace p165:=eq_true p165;replace q165:=eq_true q165;have p166:0≤(x5_2:Int):=zDo (by with_reducible assumption);have q166:x5_2<(l0.length:Int):=zDo (by with_reducible assumption);obtain ⟨ad166,e166,hx166_0⟩:=Kd.at_int HR0.out x5_2 p166 q166;obtain rfl:ad161=ad166:=(by injection e166)
                       replace hx166_0:=(HB.out.cell (World.block_lt_of_cell? w _ hx166_0)).trans hx166_0;replace p166:=eq_true p166;replace q166:=eq_true q166;have hcz17_0:wr.cell? ⟨gb160,0,none⟩=some (.int .i64 x161000_4):=(y0m BK160.out 0).trans rfl;have hcz17_1:wr.cell? ⟨gb160,1,none⟩=some (.int .i64 x161001_4):=(y0m BK160.out 1).trans rfl;have hcz17_2:wr.cell? ⟨gb160,2,none⟩=some (.int .i64 x161002_4):=(y0m BK160.out 2).trans rfl;have hcz17_3:wr.cell? ⟨gb160,3,none⟩=some (.int .i64 x161003_4):=(y0m BK160.out 3).trans rfl;have hfz17_0:=y0h BK160.out 0;have hfz17_1:=y0h BK160.out 1;have hfz17_2:=y0h BK160.out 2;have hfz17_3:=y0h BK160.out 3;go_wp2
                       repeat (go_quiet (fail);try go_wp2)
                       refine bodyPost_ret (y6o rfl _ _ gb160 31 #[.int .i64 x10_1,.int .i64 x5_2,.int .i64 x6_3,.int .i64 x7_4] (0,0) _ rfl (by (with_reducible repeat (first|refine y0b ?_ _|refine blk_drew ?_|refine blk_alloc ?_ _));refine y1b (cs:=#[.int .i64 x10_1,.int .i64 x5_2,.int .i64 x6_3,.int .i64 x161003_4]) ?_ 3 _ rfl;(with_reducible repeat (first|refine y0b ?_ _|refine blk_drew ?_|refine blk_alloc ?_ _));refine y1b (cs:=#[.int .i64 x10_1,.int .i64 x5_2,.int .i64 x161002_4,.int .i64 x161003_4]) ?_ 2 _ rfl;(with_reducible repeat (first|refine y0b ?_ _|refine blk_drew ?_|refine blk_alloc ?_ _));refine y1b (cs:=#[.int .i64 x10_1,.int .i64 x161001_4,.int .i64 x161002_4,.int .i64 x161003_4]) ?_ 1 _ rfl;(with_reducible repeat (first|refine y0b ?_ _|refine blk_drew ?_|refine blk_alloc ?_ _));refine y1b (cs:=#[.int .i64 x161000_4,.int .i64 x161001_4,.int .i64 x161002_4,.int .i64 x161003_4]) ?_ 0 _ rfl;(with_reducible repeat (first|refine y0b ?_ _|refine blk_drew ?_|refine blk_alloc ?_ _));exact BK160.out) Tra.underlying31 rfl (by kernel_rfl)) rfl ?_;exact ⟨by first|rfl|(simp [y06,y05]<;>rfl)|(simp [*,y06,y05]<;>rfl),by repeat (with_reducible first|exact HB.out|apply y01|apply y00|apply y02|refine y0c ?_ GE160.out)⟩
                     ·rw [if_neg c15] at H
                      have c15b0:((rd l0 x5_2) == (rd l0 x7_4))=false:=beq_eq_false_iff_ne.mpr c15;have c15b1:((rd l0 x5_2) != (rd l0 x7_4))=true:=bne_iff_ne.mpr c15;have H':=As0.mk H;clear H;have p161:0≤(x10_1:Int):=zDo (by with_reducible assumption);have q161:x10_1<(l0.length:Int):=zDo (by with_reducible assumption);obtain ⟨ad161,e161,hx161_0⟩:=Kd.at_int HR0.out x10_1 p161 q161;cases e161
                      replace hx161_0:=(HB.out.cell (World.block_lt_of_cell? w _ hx161_0)).trans hx161_0;replace p161:=eq_true p161;replace q161:=eq_true q161;have p162:0≤(x6_3:Int):=zDo (by with_reducible assumption);have q162:x6_3<(l0.length:Int):=zDo (by with_reducible assumption);obtain ⟨ad162,e162,hx162_0⟩:=Kd.at_int HR0.out x6_3 p162 q162;obtain rfl:ad161=ad162:=(by injection e162)
                      replace hx162_0:=(HB.out.cell (World.block_lt_of_cell? w _ hx162_0)).trans hx162_0;replace p162:=eq_true p162;replace q162:=eq_true q162;have p163:0≤(x5_2:Int):=zDo (by with_reducible assumption);have q163:x5_2<(l0.length:Int):=zDo (by with_reducible assumption);obtain ⟨ad163,e163,hx163_0⟩:=Kd.at_int HR0.out x5_2 p163 q163;obtain rfl:ad161=ad163:=(by injection e163)
                      replace hx163_0:=(HB.out.cell (World.block_lt_of_cell? w _ hx163_0)).trans hx163_0;replace p163:=eq_true p163;replace q163:=eq_true q163;have p164:0≤(x7_4:Int):=zDo (by with_reducible assumption);have q164:x7_4<(l0.length:Int):=zDo (by with_reducible assumption);obtain ⟨ad164,e164,hx164_0⟩:=Kd.at_int HR0.out x7_4 p164 q164;obtain rfl:ad161=ad164:=(by injection e164)
                      replace hx164_0:=(HB.out.cell (World.block_lt_of_cell? w _ hx164_0)).trans hx164_0;replace p164:=eq_true p164;replace q164:=eq_true q164;go_wp2
                      repeat (go_quiet (fail);try go_wp2)
                      go_roundg k4
                      case measure=>have:=HK1.out;have:=HK2.out;have:=HK3.out;have:=HK4.out;omega
                      case rel=>exact ⟨(wrap64 (x7_4+1)),(x161000_4),(x161001_4),(x161002_4),(x161003_4),(by first|rfl|(simp;done)|(simp [*];done)),H',⟨by have:=HK1.out;have:=HK2.out;have:=HK3.out;have:=HK4.out;omega⟩,⟨by (with_reducible repeat (first|refine y0b ?_ _|refine blk_drew ?_|refine blk_alloc ?_ _));exact BK160.out⟩,⟨by repeat (with_reducible first|exact HB.out|apply y01|apply y00|apply y02|refine y0c ?_ GE160.out)⟩⟩
                    ·rw [if_neg c14] at H
                     exact absurd H (by simp)
                   ·rw [if_neg c13] at H
                    exact absurd H (by simp)
                  ·rw [if_neg c12] at H
                   exact absurd H (by simp)
                 ·rw [if_neg c11] at H
                  have c11b0:((rd l0 x10_1) == (rd l0 x6_3))=false:=beq_eq_false_iff_ne.mpr c11;have c11b1:((rd l0 x10_1) != (rd l0 x6_3))=true:=bne_iff_ne.mpr c11;have H':=As0.mk H;clear H;have p161:0≤(x10_1:Int):=zDo (by with_reducible assumption);have q161:x10_1<(l0.length:Int):=zDo (by with_reducible assumption);obtain ⟨ad161,e161,hx161_0⟩:=Kd.at_int HR0.out x10_1 p161 q161;cases e161
                  replace hx161_0:=(HB.out.cell (World.block_lt_of_cell? w _ hx161_0)).trans hx161_0;replace p161:=eq_true p161;replace q161:=eq_true q161;have p162:0≤(x6_3:Int):=zDo (by with_reducible assumption);have q162:x6_3<(l0.length:Int):=zDo (by with_reducible assumption);obtain ⟨ad162,e162,hx162_0⟩:=Kd.at_int HR0.out x6_3 p162 q162;obtain rfl:ad161=ad162:=(by injection e162)
                  replace hx162_0:=(HB.out.cell (World.block_lt_of_cell? w _ hx162_0)).trans hx162_0;replace p162:=eq_true p162;replace q162:=eq_true q162;go_wp2
                  repeat (go_quiet (fail);try go_wp2)
                  go_roundg k4
                  case measure=>have:=HK1.out;have:=HK2.out;have:=HK3.out;have:=HK4.out;omega
                  case rel=>exact ⟨(wrap64 (x7_4+1)),(x161000_4),(x161001_4),(x161002_4),(x161003_4),(by first|rfl|(simp;done)|(simp [*];done)),H',⟨by have:=HK1.out;have:=HK2.out;have:=HK3.out;have:=HK4.out;omega⟩,⟨by (with_reducible repeat (first|refine y0b ?_ _|refine blk_drew ?_|refine blk_alloc ?_ _));exact BK160.out⟩,⟨by repeat (with_reducible first|exact HB.out|apply y01|apply y00|apply y02|refine y0c ?_ GE160.out)⟩⟩
                ·rw [if_neg c10] at H
                 exact absurd H (by simp)
               ·rw [if_neg c9] at H
                exact absurd H (by simp)
              ·rw [if_neg c8] at H
               exact absurd H (by simp)
             ·rw [if_neg c7] at H
              exact absurd H (by simp)
            ·rw [if_neg c6] at H
             have c6b0:decide (x7_4<(l0.length:Int))=false:=zDf c6;clear c6;have H':=As0.mk H;clear H;go_wp2
             repeat (go_quiet (fail);try go_wp2)
             go_roundg k4
             case measure=>have:=HK1.out;have:=HK2.out;have:=HK3.out;have:=HK4.out;omega
             case rel=>exact ⟨(wrap64 (x6_3+1)),(x161000_4),(x161001_4),(x161002_4),(x161003_4),(by first|rfl|(simp;done)|(simp [*];done)),H',⟨by have:=HK1.out;have:=HK2.out;have:=HK3.out;have:=HK4.out;omega⟩,⟨by (with_reducible repeat (first|refine y0b ?_ _|refine blk_drew ?_|refine blk_alloc ?_ _));exact BK160.out⟩,⟨by repeat (with_reducible first|exact HB.out|apply y01|apply y00|apply y02|refine y0c ?_ GE160.out)⟩⟩
         ·rw [if_neg c5] at H
          have c5b0:decide (x6_3<(l0.length:Int))=false:=zDf c5;clear c5;have H':=As0.mk H;clear H;go_wp2
          repeat (go_quiet (fail);try go_wp2)
          go_roundg k3
          case measure=>have:=HK1.out;have:=HK2.out;have:=HK3.out;omega
          case rel=>exact ⟨(wrap64 (x5_2+1)),(x161000_3),(x161001_3),(x161002_3),(x161003_3),(by first|rfl|(simp;done)|(simp [*];done)),H',⟨by have:=HK1.out;have:=HK2.out;have:=HK3.out;omega⟩,⟨by (with_reducible repeat (first|refine y0b ?_ _|refine blk_drew ?_|refine blk_alloc ?_ _));exact BK160.out⟩,⟨by repeat (with_reducible first|exact HB.out|apply y01|apply y00|apply y02|refine y0c ?_ GE160.out)⟩⟩
      ·rw [if_neg c4] at H
       have c4b0:decide (x5_2<(l0.length:Int))=false:=zDf c4;clear c4;have H':=As0.mk H;clear H;go_wp2
       repeat (go_quiet (fail);try go_wp2)
       go_roundg k2
       case measure=>have:=HK1.out;have:=HK2.out;omega
       case rel=>exact ⟨(wrap64 (x10_1+1)),(x161000_2),(x161001_2),(x161002_2),(x161003_2),(by first|rfl|(simp;done)|(simp [*];done)),H',⟨by have:=HK1.out;have:=HK2.out;omega⟩,⟨by (with_reducible repeat (first|refine y0b ?_ _|refine blk_drew ?_|refine blk_alloc ?_ _));exact BK160.out⟩,⟨by repeat (with_reducible first|exact HB.out|apply y01|apply y00|apply y02|refine y0c ?_ GE160.out)⟩⟩
   ·rw [if_neg c3] at H
    have c3b0:decide (x10_1<(l0.length:Int))=false:=zDf c3;clear c3;simp only [Option.some.injEq,Prod.mk.injEq] at H;obtain ⟨rfl,rfl,rfl,rfl,rfl⟩:=H;have hcz18_0:wr.cell? ⟨gb160,0,none⟩=some (.int .i64 x161000_1):=(y0m BK160.out 0).trans rfl;have hcz18_1:wr.cell? ⟨gb160,1,none⟩=some (.int .i64 x161001_1):=(y0m BK160.out 1).trans rfl;have hcz18_2:wr.cell? ⟨gb160,2,none⟩=some (.int .i64 x161002_1):=(y0m BK160.out 2).trans rfl;have hcz18_3:wr.cell? ⟨gb160,3,none⟩=some (.int .i64 x161003_1):=(y0m BK160.out 3).trans rfl;have hfz18_0:=y0h BK160.out 0;have hfz18_1:=y0h BK160.out 1;have hfz18_2:=y0h BK160.out 2;have hfz18_3:=y0h BK160.out 3;go_wp2
    repeat (go_quiet (fail);try go_wp2)
    refine bodyPost_ret (y6o rfl _ _ gb160 31 #[.int .i64 0,.int .i64 0,.int .i64 0,.int .i64 0] (0,0) _ rfl (by (with_reducible repeat (first|refine y0b ?_ _|refine blk_drew ?_|refine blk_alloc ?_ _));refine y1b (cs:=#[.int .i64 0,.int .i64 0,.int .i64 0,.int .i64 x161003_1]) ?_ 3 _ rfl;(with_reducible repeat (first|refine y0b ?_ _|refine blk_drew ?_|refine blk_alloc ?_ _));refine y1b (cs:=#[.int .i64 0,.int .i64 0,.int .i64 x161002_1,.int .i64 x161003_1]) ?_ 2 _ rfl;(with_reducible repeat (first|refine y0b ?_ _|refine blk_drew ?_|refine blk_alloc ?_ _));refine y1b (cs:=#[.int .i64 0,.int .i64 x161001_1,.int .i64 x161002_1,.int .i64 x161003_1]) ?_ 1 _ rfl;(with_reducible repeat (first|refine y0b ?_ _|refine blk_drew ?_|refine blk_alloc ?_ _));refine y1b (cs:=#[.int .i64 x161000_1,.int .i64 x161001_1,.int .i64 x161002_1,.int .i64 x161003_1]) ?_ 0 _ rfl;(with_reducible repeat (first|refine y0b ?_ _|refine blk_drew ?_|refine blk_alloc ?_ _));exact BK160.out) Tra.underlying31 rfl (by kernel_rfl)) rfl ?_;exact ⟨by first|rfl|(simp [y06,y05]<;>rfl)|(simp [*,y06,y05]<;>rfl),by repeat (with_reducible first|exact HB.out|apply y01|apply y00|apply y02|refine y0c ?_ GE160.out)⟩
def mobs_Crossed.f (k:Nat) (l0:List Int):Option (Int × Int × Int × Int × Bool × Int):=(mobs_read.f k (([l0]:List (List Int)))).bind fun t171=>(if t171=0 then ((mobs_crossed.f k l0).bind fun bt172=>(some (bt172.1,bt172.2.1,bt172.2.2.1,bt172.2.2.2.1,bt172.2.2.2.2,0))) else (some (0,0,0,0,false,t171)))
theorem mobs_Crossed.calls (k:Nat) (P0_:Nat->Prop) (A0:Option Addr) (c0:Nat) (l0:List Int) (r1:Int) (r2:Int) (r3:Int) (r4:Int) (r5:Bool) (r6:Int) (w:World) (hs0:Kd.V (Kd.int .i64) 3 w w.heap.size (fun k_=>P0_ k_) (.slice A0 l0.length c0) l0) (h:mobs_Crossed.f k l0=some (r1,r2,r3,r4,r5,r6)) :
  Calls Tra.prog 23 #[.slice A0 l0.length c0] w fun e w'=>e=.returned (.tuple #[.agg #[.int .i64 r1,.int .i64 r2,.int .i64 r3,.int .i64 r4],.bool r5,.int .i64 r6])∧Below w.heap.size w w':=by
 have hu31:=Tra.underlying31;have HO0:=As0.mk (show Kd.V (Kd.int .i64) 3 w w.heap.size (fun k_=>(P0_ k_∨w.heap.size≤k_)) (.slice A0 l0.length c0) l0 from Kd.V_mono hs0 (fun k_ hk=>.inl hk));have HB:=As0.mk (Below.refl w.heap.size w);have H:((mobs_read.f k (([l0]:List (List Int)))).bind fun t171=>(if t171=0 then ((mobs_crossed.f k l0).bind fun bt172=>(some (bt172.1,bt172.2.1,bt172.2.2.1,bt172.2.2.2.1,bt172.2.2.2.2,0))) else (some (0,0,0,0,false,t171))))=some (r1,r2,r3,r4,r5,r6):=h;clear h;obtain ⟨y168,hy168⟩:∃ y_:List (List Int),y_=(([l0]:List (List Int))):=⟨_,rfl⟩
 replace H:((mobs_read.f k y168).bind fun t171=>(if t171=0 then ((mobs_crossed.f k l0).bind fun bt172=>(some (bt172.1,bt172.2.1,bt172.2.2.1,bt172.2.2.2.1,bt172.2.2.2.2,0))) else (some (0,0,0,0,false,t171))))=some (r1,r2,r3,r4,r5,r6):=by first|(rw [hy168];with_reducible exact H)|(have H2_:=(Option.bind_some _ _).symm.trans H;rw [hy168];with_reducible exact H2_)|(have H2_:=(Option.bind_some _ _).symm.trans H;with_reducible exact H2_)|with_reducible exact H|(rw [hy168];exact H)|exact H
 have Ny168:=As0.mk hy168;clear hy168;replace H:=Option.bind_eq_some_iff.mp H;obtain ⟨t171,A20,H⟩:=H;replace H:(if t171=0 then ((mobs_crossed.f k l0).bind fun bt172=>(some (bt172.1,bt172.2.1,bt172.2.2.1,bt172.2.2.2.1,bt172.2.2.2.2,0))) else (some (0,0,0,0,false,t171)))=some (r1,r2,r3,r4,r5,r6):=H;have A2:=As0.mk A20;clear A20
 by_cases c3:t171=0
 ·rw [if_pos c3] at H
  have c3b0:(t171 == 0)=true:=beq_iff_eq.mpr c3;have c3b1:(t171 != 0)=false:=bne_eq_false_iff_eq.mpr c3;clear c3;replace H:=Option.bind_eq_some_iff.mp H;obtain ⟨⟨t172,t173,t174,t175,t176⟩,A40,H⟩:=H;replace H:(some (t172,t173,t174,t175,t176,0))=some (r1,r2,r3,r4,r5,r6):=H;have A4:=As0.mk A40;clear A40;simp only [Option.some.injEq,Prod.mk.injEq] at H;obtain ⟨rfl,rfl,rfl,rfl,rfl,rfl⟩:=H;go_enter Tra.func23,Tra.ntmps23
  go_wp2_with (first|((with_reducible refine y0n (N:=2) rfl ?_);refine y25 ?hg (N:=2) ?hd (cs:=#[.int .i64 0,.int .i64 0,.int .i64 0,.int .i64 0]) (t:=31) ?hr ?_;(case hd=>rfl);(case hg=>rfl);(case hr=>first|(go_simp;done)|(go_simp;rfl));intro gb167 hg w5 hbox hb;have n0_:=As0.mk (Kd.V_below (Kd.V_elderB (by (with_reducible repeat (first|apply Kd.V_alloc|apply Kd.V_drewN|apply Kd.V_drew));exact HO0.out) gb167 (Nat.le_of_eq hg.symm)) hb);have n1_:=As0.mk (y03 (by repeat (with_reducible first|exact HB.out|apply y01|apply y00|apply y02)) hb);have n2_:=As0.mk (hbox);have n3_:=As0.mk ((by rw [hg];exact (y04 (by repeat (with_reducible first|exact HB.out|apply y01|apply y00|apply y02))):w.heap.size≤gb167));have n4_:=As0.mk ((by rw [hg];exact (y04 (by repeat (with_reducible first|exact HB.out|apply y01|apply y00|apply y02))):w.heap.size≤gb167));clear HO0;clear HB;have HO0:=n0_;have HB:=n1_;have BK167:=n2_;have GW167:=n3_;have GE167:=n4_;clear n0_ n1_ n2_ n3_ n4_;clear hb hbox hg)|((with_reducible refine y0n (N:=9) rfl ?_);refine Kd.N_lit (Kd.slice 3 (Kd.int .i64)) _ 29 ?hg (N':=9) ?hd (xs:=([l0]:List (List Int))) (inner:=[.slice A0 l0.length c0]) (ok:=(fun k_=>(P0_ k_∨w.heap.size≤k_)∧k_≠gb167)) (okp:=(fun k_=>(P0_ k_∨w.heap.size≤k_)∧k_≠gb167)) ?hr ?hp (fun _ hk=>hk) ((show ∀ k_,w5.heap.size≤k_->(fun k_=>(P0_ k_∨w.heap.size≤k_)∧k_≠gb167) k_ from fun k_ hk=>⟨(.inr (Nat.le_trans (y04 (by repeat (with_reducible first|exact HB.out|apply y01|apply y00|apply y02|refine y0c ?_ GE167.out))) hk)),Kd.freshB (g:=gb167) (o:=.cells #[.int .i64 0,.int .i64 0,.int .i64 0,.int .i64 0] 31 (0,0)) (by (with_reducible repeat (first|refine y0b ?_ _|refine blk_drew ?_|refine blk_alloc ?_ _));exact BK167.out) k_ hk⟩) _ (zLe _)) (Below.refl _ _) (zLe _) (by simp) ?_;(case hd=>rfl);(case hg=>rfl);(case hr=>first|(go_simp;done)|(go_simp;rfl));(case hp=>exact (Reps.one (show Kd.FK (Kd.slice 3 (Kd.int .i64)) _ _ l0 [.slice A0 l0.length c0] from (Kd.FK_slice_mk (Kd.V_reads' (Kd.V_mono (ok':=(fun k_=>(P0_ k_∨w.heap.size≤k_)∧k_≠gb167)) (HO0.out) (fun k_ hk=>⟨hk.1,hk.2⟩))).2.1 (Kd.V_F (Kd.V_mono (ok':=(fun k_=>(P0_ k_∨w.heap.size≤k_)∧k_≠gb167)) (HO0.out) (fun k_ hk=>⟨hk.1,hk.2⟩))))) (Reps.none _ _)));intro v169 w6 ho7 hb hg_ hnew_;clear hg_ hnew_;(first|rw [← Ny168.out] at ho7|(simp only [Int.reduceToNat] at ho7;rw [← Ny168.out] at ho7));have n0_:=As0.mk (Kd.V_elder' (by (with_reducible repeat (first|apply Kd.V_alloc|apply Kd.V_drewN|apply Kd.V_drew));exact HO0.out) (Kd.N_base ho7) hb);have n1_:=As0.mk (Kd.N_lower ho7 (y04 (by repeat (with_reducible first|exact HB.out|apply y01|apply y00|apply y02|refine y0c ?_ GE167.out))));have n2_:=As0.mk (y1t (g:=gb167) (o:=.cells #[.int .i64 0,.int .i64 0,.int .i64 0,.int .i64 0] 31 (0,0)) (by (with_reducible repeat (first|refine y0b ?_ _|refine blk_drew ?_|refine blk_alloc ?_ _));exact BK167.out) hb);have n3_:=As0.mk (y03 (by repeat (with_reducible first|exact HB.out|apply y01|apply y00|apply y02|refine y0c ?_ GE167.out)) hb);clear HO0;clear BK167;clear HB;have HO0:=n0_;have HO170:=n1_;have BK167:=n2_;have HB:=n3_;clear n0_ n1_ n2_ n3_;clear hb ho7;obtain ⟨Ao8,co8,eo8⟩:=Kd.N_slice HO170.out;subst eo8)|((with_reducible refine y0d (f:=49) rfl ?_);refine y12 (some 10) rfl rfl Tra.func49 (by kernel_rfl) rfl #[.slice Ao8 y168.length co8] rfl (by (try simp only [List.map_toArray,List.map_cons,List.map_nil]);first|done|rfl|(simp only [List.length_drop,List.length_take];rfl)) ?_;(with_reducible refine (mobs_read.calls k _ _ y168 t171 _ ?side1 ?side2 A2.out).mono ?_);(case side1=>repeat (first|exact (Kd.N_reads' HO170.out).2.2|(with_reducible refine Kd.C_alloc ?_ _)|(with_reducible refine Kd.C_drewN ?_ _)|(with_reducible refine Kd.C_drew ?_)));(case side2=>exact (Kd.N_reads' HO170.out).2.1);rintro e w9 ⟨rfl,hb⟩;refine ⟨_,rfl,?_⟩;have n0_:=As0.mk (Kd.V_below (by (with_reducible repeat (first|apply Kd.V_alloc|apply Kd.V_drewN|apply Kd.V_drew));exact HO0.out) hb);have n1_:=As0.mk (Kd.N_below (by (with_reducible repeat (first|apply Kd.N_alloc|apply Kd.N_drewN|apply Kd.N_drew));exact HO170.out) hb);have n2_:=As0.mk (y1t (g:=gb167) (o:=.cells #[.int .i64 0,.int .i64 0,.int .i64 0,.int .i64 0] 31 (0,0)) (by (with_reducible repeat (first|refine y0b ?_ _|refine blk_drew ?_|refine blk_alloc ?_ _));exact BK167.out) hb);have n3_:=As0.mk (y03 (by repeat (with_reducible first|exact HB.out|apply y01|apply y00|apply y02|refine y0c ?_ GE167.out)) hb);clear HO0;clear HO170;clear BK167;clear HB;have HO0:=n0_;have HO170:=n1_;have BK167:=n2_;have HB:=n3_;clear n0_ n1_ n2_ n3_;(try clear hb);(try clear hb2);(try clear hk);(try clear hi))|((with_reducible refine y0d (f:=50) rfl ?_);refine y12 (some 17) rfl rfl Tra.func50 (by kernel_rfl) rfl #[.slice A0 l0.length c0] rfl (by (try simp only [List.map_toArray,List.map_cons,List.map_nil]);first|done|rfl|(simp only [List.length_drop,List.length_take];rfl)) ?_;(with_reducible refine (mobs_crossed.calls k _ _ l0 t172 t173 t174 t175 t176 _ ?side1 ?side2 A4.out).mono ?_);(case side1=>repeat (first|exact (Kd.V_reads' HO0.out).2.2|(with_reducible refine Kd.C_alloc ?_ _)|(with_reducible refine Kd.C_drewN ?_ _)|(with_reducible refine Kd.C_drew ?_)));(case side2=>exact (Kd.V_reads' HO0.out).2.1);rintro e w10 ⟨rfl,hb⟩;refine ⟨_,rfl,?_⟩;have n0_:=As0.mk (Kd.V_below (by (with_reducible repeat (first|apply Kd.V_alloc|apply Kd.V_drewN|apply Kd.V_drew));exact HO0.out) hb);have n1_:=As0.mk (Kd.N_below (by (with_reducible repeat (first|apply Kd.N_alloc|apply Kd.N_drewN|apply Kd.N_drew));exact HO170.out) hb);have n2_:=As0.mk (y1t (g:=gb167) (o:=.cells #[.int .i64 0,.int .i64 0,.int .i64 0,.int .i64 0] 31 (0,0)) (by (with_reducible repeat (first|refine y0b ?_ _|refine blk_drew ?_|refine blk_alloc ?_ _));exact BK167.out) hb);have n3_:=As0.mk (y03 (by repeat (with_reducible first|exact HB.out|apply y01|apply y00|apply y02|refine y0c ?_ GE167.out)) hb);clear HO0;clear HO170;clear BK167;clear HB;have HO0:=n0_;have HO170:=n1_;have BK167:=n2_;have HB:=n3_;clear n0_ n1_ n2_ n3_;(try clear hb);(try clear hb2);(try clear hk);(try clear hi))|((with_reducible refine y0n (N:=6) rfl ?_);refine y25 ?hg (N:=6) ?hd (cs:=#[.int .i64 0,.int .i64 0,.int .i64 0,.int .i64 0]) (t:=31) ?hr ?_;(case hd=>rfl);(case hg=>rfl);(case hr=>first|(go_simp;done)|(go_simp;rfl));intro gb177 hg w11 hbox hb;have n0_:=As0.mk (Kd.V_below (Kd.V_elderB (by (with_reducible repeat (first|apply Kd.V_alloc|apply Kd.V_drewN|apply Kd.V_drew));exact HO0.out) gb177 (Nat.le_of_eq hg.symm)) hb);have n1_:=As0.mk (Kd.N_below (Kd.N_elderB (by (with_reducible repeat (first|apply Kd.N_alloc|apply Kd.N_drewN|apply Kd.N_drew));exact HO170.out) gb177 (Nat.le_of_eq hg.symm)) hb);have n2_:=As0.mk (y1t (g:=gb167) (o:=.cells #[.int .i64 0,.int .i64 0,.int .i64 0,.int .i64 0] 31 (0,0)) (by (with_reducible repeat (first|refine y0b ?_ _|refine blk_drew ?_|refine blk_alloc ?_ _));exact BK167.out) hb);have n3_:=As0.mk (y03 (by repeat (with_reducible first|exact HB.out|apply y01|apply y00|apply y02|refine y0c ?_ GE167.out)) hb);have n4_:=As0.mk (hbox);have n5_:=As0.mk ((by rw [hg];exact (y04 (by repeat (with_reducible first|exact HB.out|apply y01|apply y00|apply y02|refine y0c ?_ GE167.out))):w.heap.size≤gb177));have n6_:=As0.mk ((by rw [hg];exact (y04 (by repeat (with_reducible first|exact HB.out|apply y01|apply y00|apply y02|refine y0c ?_ GE167.out))):w.heap.size≤gb177));have n7_:=As0.mk ((by rw [hg];exact Nat.ne_of_lt (y4z (g:=gb167) (o:=.cells #[.int .i64 0,.int .i64 0,.int .i64 0,.int .i64 0] 31 (0,0)) (by (with_reducible repeat (first|refine y0b ?_ _|refine blk_drew ?_|refine blk_alloc ?_ _));exact BK167.out)):gb167≠gb177));have n8_:=As0.mk ((by rw [hg];exact Nat.ne_of_gt (y4z (g:=gb167) (o:=.cells #[.int .i64 0,.int .i64 0,.int .i64 0,.int .i64 0] 31 (0,0)) (by (with_reducible repeat (first|refine y0b ?_ _|refine blk_drew ?_|refine blk_alloc ?_ _));exact BK167.out)):gb177≠gb167));clear HO0;clear HO170;clear BK167;clear HB;have HO0:=n0_;have HO170:=n1_;have BK167:=n2_;have HB:=n3_;have BK177:=n4_;have GW177:=n5_;have GE177:=n6_;have NB167_177:=n7_;have NB177_167:=n8_;clear n0_ n1_ n2_ n3_ n4_ n5_ n6_ n7_ n8_;clear hb hbox hg;have hnb12:=NB177_167.out;have hnc12:=NB167_177.out;have hcz13_0:w11.cell? ⟨gb177,0,none⟩=some (.int .i64 0):=(y0m BK177.out 0).trans rfl;have hcz13_1:w11.cell? ⟨gb177,1,none⟩=some (.int .i64 0):=(y0m BK177.out 1).trans rfl;have hcz13_2:w11.cell? ⟨gb177,2,none⟩=some (.int .i64 0):=(y0m BK177.out 2).trans rfl;have hcz13_3:w11.cell? ⟨gb177,3,none⟩=some (.int .i64 0):=(y0m BK177.out 3).trans rfl;have hfz13_0:=y0h BK177.out 0;have hfz13_1:=y0h BK177.out 1;have hfz13_2:=y0h BK177.out 2;have hfz13_3:=y0h BK177.out 3;have hcz14_0:w11.cell? ⟨gb167,0,none⟩=some (.int .i64 0):=(y0m BK167.out 0).trans rfl;have hcz14_1:w11.cell? ⟨gb167,1,none⟩=some (.int .i64 0):=(y0m BK167.out 1).trans rfl;have hcz14_2:w11.cell? ⟨gb167,2,none⟩=some (.int .i64 0):=(y0m BK167.out 2).trans rfl;have hcz14_3:w11.cell? ⟨gb167,3,none⟩=some (.int .i64 0):=(y0m BK167.out 3).trans rfl;have hfz14_0:=y0h BK167.out 0;have hfz14_1:=y0h BK167.out 1;have hfz14_2:=y0h BK167.out 2;have hfz14_3:=y0h BK167.out 3))
  refine bodyPost_ret (y5p rfl _ _ gb167 31 #[.int .i64 t172,.int .i64 t173,.int .i64 t174,.int .i64 t175] (0,0) _ rfl (by (with_reducible repeat (first|refine y0b ?_ _|refine blk_drew ?_|refine blk_alloc ?_ _));refine y1b (cs:=#[.int .i64 t172,.int .i64 t173,.int .i64 t174,.int .i64 0]) ?_ 3 _ rfl;(with_reducible repeat (first|refine y0b ?_ _|refine blk_drew ?_|refine blk_alloc ?_ _));refine y1b (cs:=#[.int .i64 t172,.int .i64 t173,.int .i64 0,.int .i64 0]) ?_ 2 _ rfl;(with_reducible repeat (first|refine y0b ?_ _|refine blk_drew ?_|refine blk_alloc ?_ _));refine y1b (cs:=#[.int .i64 t172,.int .i64 0,.int .i64 0,.int .i64 0]) ?_ 1 _ rfl;(with_reducible repeat (first|refine y0b ?_ _|refine blk_drew ?_|refine blk_alloc ?_ _));refine y1b (cs:=#[.int .i64 0,.int .i64 0,.int .i64 0,.int .i64 0]) ?_ 0 _ rfl;(with_reducible repeat (first|refine y0b ?_ _|refine blk_drew ?_|refine blk_alloc ?_ _));refine y84 ?_ NB167_177.out _;(with_reducible repeat (first|refine y0b ?_ _|refine blk_drew ?_|refine blk_alloc ?_ _));refine y84 ?_ NB167_177.out _;(with_reducible repeat (first|refine y0b ?_ _|refine blk_drew ?_|refine blk_alloc ?_ _));refine y84 ?_ NB167_177.out _;(with_reducible repeat (first|refine y0b ?_ _|refine blk_drew ?_|refine blk_alloc ?_ _));refine y84 ?_ NB167_177.out _;(with_reducible repeat (first|refine y0b ?_ _|refine blk_drew ?_|refine blk_alloc ?_ _));exact BK167.out) Tra.underlying31 rfl (by kernel_rfl)) rfl ?_;exact ⟨by first|rfl|(simp [y06,y05]<;>rfl)|(simp [*,y06,y05]<;>rfl),by repeat (with_reducible first|exact HB.out|apply y01|apply y00|apply y02|refine y0c ?_ GE167.out|refine y0c ?_ GE177.out)⟩
 ·rw [if_neg c3] at H
  have c3b0:(t171 == 0)=false:=beq_eq_false_iff_ne.mpr c3;have c3b1:(t171 != 0)=true:=bne_iff_ne.mpr c3;simp only [Option.some.injEq,Prod.mk.injEq] at H;obtain ⟨rfl,rfl,rfl,rfl,rfl,rfl⟩:=H;go_enter Tra.func23,Tra.ntmps23
  go_wp2_with (first|((with_reducible refine y0n (N:=2) rfl ?_);refine y25 ?hg (N:=2) ?hd (cs:=#[.int .i64 0,.int .i64 0,.int .i64 0,.int .i64 0]) (t:=31) ?hr ?_;(case hd=>rfl);(case hg=>rfl);(case hr=>first|(go_simp;done)|(go_simp;rfl));intro gb167 hg w15 hbox hb;have n0_:=As0.mk (Kd.V_below (Kd.V_elderB (by (with_reducible repeat (first|apply Kd.V_alloc|apply Kd.V_drewN|apply Kd.V_drew));exact HO0.out) gb167 (Nat.le_of_eq hg.symm)) hb);have n1_:=As0.mk (y03 (by repeat (with_reducible first|exact HB.out|apply y01|apply y00|apply y02)) hb);have n2_:=As0.mk (hbox);have n3_:=As0.mk ((by rw [hg];exact (y04 (by repeat (with_reducible first|exact HB.out|apply y01|apply y00|apply y02))):w.heap.size≤gb167));have n4_:=As0.mk ((by rw [hg];exact (y04 (by repeat (with_reducible first|exact HB.out|apply y01|apply y00|apply y02))):w.heap.size≤gb167));clear HO0;clear HB;have HO0:=n0_;have HB:=n1_;have BK167:=n2_;have GW167:=n3_;have GE167:=n4_;clear n0_ n1_ n2_ n3_ n4_;clear hb hbox hg)|((with_reducible refine y0n (N:=9) rfl ?_);refine Kd.N_lit (Kd.slice 3 (Kd.int .i64)) _ 29 ?hg (N':=9) ?hd (xs:=([l0]:List (List Int))) (inner:=[.slice A0 l0.length c0]) (ok:=(fun k_=>(P0_ k_∨w.heap.size≤k_)∧k_≠gb167)) (okp:=(fun k_=>(P0_ k_∨w.heap.size≤k_)∧k_≠gb167)) ?hr ?hp (fun _ hk=>hk) ((show ∀ k_,w15.heap.size≤k_->(fun k_=>(P0_ k_∨w.heap.size≤k_)∧k_≠gb167) k_ from fun k_ hk=>⟨(.inr (Nat.le_trans (y04 (by repeat (with_reducible first|exact HB.out|apply y01|apply y00|apply y02|refine y0c ?_ GE167.out))) hk)),Kd.freshB (g:=gb167) (o:=.cells #[.int .i64 0,.int .i64 0,.int .i64 0,.int .i64 0] 31 (0,0)) (by (with_reducible repeat (first|refine y0b ?_ _|refine blk_drew ?_|refine blk_alloc ?_ _));exact BK167.out) k_ hk⟩) _ (zLe _)) (Below.refl _ _) (zLe _) (by simp) ?_;(case hd=>rfl);(case hg=>rfl);(case hr=>first|(go_simp;done)|(go_simp;rfl));(case hp=>exact (Reps.one (show Kd.FK (Kd.slice 3 (Kd.int .i64)) _ _ l0 [.slice A0 l0.length c0] from (Kd.FK_slice_mk (Kd.V_reads' (Kd.V_mono (ok':=(fun k_=>(P0_ k_∨w.heap.size≤k_)∧k_≠gb167)) (HO0.out) (fun k_ hk=>⟨hk.1,hk.2⟩))).2.1 (Kd.V_F (Kd.V_mono (ok':=(fun k_=>(P0_ k_∨w.heap.size≤k_)∧k_≠gb167)) (HO0.out) (fun k_ hk=>⟨hk.1,hk.2⟩))))) (Reps.none _ _)));intro v169 w16 ho17 hb hg_ hnew_;clear hg_ hnew_;(first|rw [← Ny168.out] at ho17|(simp only [Int.reduceToNat] at ho17;rw [← Ny168.out] at ho17));have n0_:=As0.mk (Kd.V_elder' (by (with_reducible repeat (first|apply Kd.V_alloc|apply Kd.V_drewN|apply Kd.V_drew));exact HO0.out) (Kd.N_base ho17) hb);have n1_:=As0.mk (Kd.N_lower ho17 (y04 (by repeat (with_reducible first|exact HB.out|apply y01|apply y00|apply y02|refine y0c ?_ GE167.out))));have n2_:=As0.mk (y1t (g:=gb167) (o:=.cells #[.int .i64 0,.int .i64 0,.int .i64 0,.int .i64 0] 31 (0,0)) (by (with_reducible repeat (first|refine y0b ?_ _|refine blk_drew ?_|refine blk_alloc ?_ _));exact BK167.out) hb);have n3_:=As0.mk (y03 (by repeat (with_reducible first|exact HB.out|apply y01|apply y00|apply y02|refine y0c ?_ GE167.out)) hb);clear HO0;clear BK167;clear HB;have HO0:=n0_;have HO170:=n1_;have BK167:=n2_;have HB:=n3_;clear n0_ n1_ n2_ n3_;clear hb ho17;obtain ⟨Ao18,co18,eo18⟩:=Kd.N_slice HO170.out;subst eo18)|((with_reducible refine y0d (f:=49) rfl ?_);refine y12 (some 10) rfl rfl Tra.func49 (by kernel_rfl) rfl #[.slice Ao18 y168.length co18] rfl (by (try simp only [List.map_toArray,List.map_cons,List.map_nil]);first|done|rfl|(simp only [List.length_drop,List.length_take];rfl)) ?_;(with_reducible refine (mobs_read.calls k _ _ y168 t171 _ ?side1 ?side2 A2.out).mono ?_);(case side1=>repeat (first|exact (Kd.N_reads' HO170.out).2.2|(with_reducible refine Kd.C_alloc ?_ _)|(with_reducible refine Kd.C_drewN ?_ _)|(with_reducible refine Kd.C_drew ?_)));(case side2=>exact (Kd.N_reads' HO170.out).2.1);rintro e w19 ⟨rfl,hb⟩;refine ⟨_,rfl,?_⟩;have n0_:=As0.mk (Kd.V_below (by (with_reducible repeat (first|apply Kd.V_alloc|apply Kd.V_drewN|apply Kd.V_drew));exact HO0.out) hb);have n1_:=As0.mk (Kd.N_below (by (with_reducible repeat (first|apply Kd.N_alloc|apply Kd.N_drewN|apply Kd.N_drew));exact HO170.out) hb);have n2_:=As0.mk (y1t (g:=gb167) (o:=.cells #[.int .i64 0,.int .i64 0,.int .i64 0,.int .i64 0] 31 (0,0)) (by (with_reducible repeat (first|refine y0b ?_ _|refine blk_drew ?_|refine blk_alloc ?_ _));exact BK167.out) hb);have n3_:=As0.mk (y03 (by repeat (with_reducible first|exact HB.out|apply y01|apply y00|apply y02|refine y0c ?_ GE167.out)) hb);clear HO0;clear HO170;clear BK167;clear HB;have HO0:=n0_;have HO170:=n1_;have BK167:=n2_;have HB:=n3_;clear n0_ n1_ n2_ n3_;(try clear hb);(try clear hb2);(try clear hk);(try clear hi);have hcz20_0:w19.cell? ⟨gb167,0,none⟩=some (.int .i64 0):=(y0m BK167.out 0).trans rfl;have hcz20_1:w19.cell? ⟨gb167,1,none⟩=some (.int .i64 0):=(y0m BK167.out 1).trans rfl;have hcz20_2:w19.cell? ⟨gb167,2,none⟩=some (.int .i64 0):=(y0m BK167.out 2).trans rfl;have hcz20_3:w19.cell? ⟨gb167,3,none⟩=some (.int .i64 0):=(y0m BK167.out 3).trans rfl;have hfz20_0:=y0h BK167.out 0;have hfz20_1:=y0h BK167.out 1;have hfz20_2:=y0h BK167.out 2;have hfz20_3:=y0h BK167.out 3))
  refine bodyPost_ret (y5p rfl _ _ gb167 31 #[.int .i64 0,.int .i64 0,.int .i64 0,.int .i64 0] (0,0) _ rfl (by (with_reducible repeat (first|refine y0b ?_ _|refine blk_drew ?_|refine blk_alloc ?_ _));refine y1b (cs:=#[.int .i64 0,.int .i64 0,.int .i64 0,.int .i64 0]) ?_ 3 _ rfl;(with_reducible repeat (first|refine y0b ?_ _|refine blk_drew ?_|refine blk_alloc ?_ _));refine y1b (cs:=#[.int .i64 0,.int .i64 0,.int .i64 0,.int .i64 0]) ?_ 2 _ rfl;(with_reducible repeat (first|refine y0b ?_ _|refine blk_drew ?_|refine blk_alloc ?_ _));refine y1b (cs:=#[.int .i64 0,.int .i64 0,.int .i64 0,.int .i64 0]) ?_ 1 _ rfl;(with_reducible repeat (first|refine y0b ?_ _|refine blk_drew ?_|refine blk_alloc ?_ _));refine y1b (cs:=#[.int .i64 0,.int .i64 0,.int .i64 0,.int .i64 0]) ?_ 0 _ rfl;(with_reducible repeat (first|refine y0b ?_ _|refine blk_drew ?_|refine blk_alloc ?_ _));exact BK167.out) Tra.underlying31 rfl (by kernel_rfl)) rfl ?_;exact ⟨by first|rfl|(simp [y06,y05]<;>rfl)|(simp [*,y06,y05]<;>rfl),by repeat (with_reducible first|exact HB.out|apply y01|apply y00|apply y02|refine y0c ?_ GE167.out)⟩
def slices_Clone_int_int.f (l0:List Int):Option (List Int):=if l0.length<17592186044416 then some l0 else none
theorem slices_Clone_int_int.calls (A0:Option Addr) (c0:Nat) (l0:List Int) (r1:List Int) (w:World) (hr0:Kd.C (Kd.int .i64) w A0 l0.length l0) (hc0:l0.length≤c0) (h:slices_Clone_int_int.f l0=some r1) :
  Calls Tra.prog 56 #[.slice A0 l0.length c0] w fun e w'=>∃ v0_:Value,e=.returned v0_∧Kd.R (Kd.int .i64) 3 w' w.heap.size (fun _=>True) v0_ r1∧Below w.heap.size w w':=by
 unfold slices_Clone_int_int.f at h;split at h
 ·rename_i hL
  obtain rfl:=zSi h;exact Ext.clone_calls A0 c0 l0 w hr0 hL
 ·cases h
def slices_Index_int_int.l0:Nat->List Int->Int->Int->Int->Option (Int)
 |0,_,_,_,_=>none
 |k+1,x0,x1,x7,x8=>if x8<x7 then (if 0≤x8 then (if x8<(x0.length:Int) then (if x1=(rd x0 x8) then (some x8) else (slices_Index_int_int.l0 k x0 x1 x7 (wrap64 (x8+1)))) else (none)) else (none)) else (some (-1))
def slices_Index_int_int.f (k:Nat) (l0:List Int) (a1:Int):Option (Int):=slices_Index_int_int.l0 k l0 a1 (l0.length:Int) 0
theorem slices_Index_int_int.calls (k:Nat) (A0:Option Addr) (c0:Nat) (l0:List Int) (a1:Int) (r:Int) (w:World) (hr0:Kd.C (Kd.int .i64) w A0 l0.length l0) (hc0:l0.length≤c0) (h:slices_Index_int_int.f k l0 a1=some r) :
  Calls Tra.prog 91 #[.slice A0 l0.length c0,.int .i64 a1] w fun e w'=>e=.returned (.int .i64 r)∧Drawn0 w w':=by
 have HR0:=As0.mk hr0;have HC0:=As0.mk hc0;clear hr0 hc0;have H:(slices_Index_int_int.l0 k l0 a1 (l0.length:Int) 0)=some r:=h;clear h;have H':=As0.mk H;clear H;go_enter Tra.func91,Tra.ntmps91
 go_wp2
 go_loopg [8] k (fun kq v8 w'=>∃ (x8_1:Int),v8=.int .i64 x8_1∧As0 (slices_Index_int_int.l0 kq l0 a1 (l0.length:Int) x8_1=some r)∧As0 (kq≤k)∧Drawn0 w w')
 case atStart=>exact ⟨(0),(by first|rfl|(simp;done)|(simp [*];done)),H',⟨zLe _⟩,by repeat (first|exact Drawn0.refl _|apply Drawn0.step)⟩
 case round =>
  clear H'
  try clear p2
  obtain ⟨x8_1,rfl,HA,HK1,⟨m1,rfl⟩⟩:=hrel;cases gk with
  |zero=>exact absurd HA.out (by simp [slices_Index_int_int.l0])
  |succ k1 =>
   have H:=HA.out;clear HA;simp only [slices_Index_int_int.l0] at H
   by_cases c3:x8_1<(l0.length:Int)
   ·rw [if_pos c3] at H
    have c3b0:decide (x8_1<(l0.length:Int))=true:=zDt c3;clear c3
    by_cases c4:0≤x8_1
    ·rw [if_pos c4] at H
     have c4b0:decide (0≤x8_1)=true:=zDt c4;clear c4
     by_cases c5:x8_1<(l0.length:Int)
     ·rw [if_pos c5] at H
      have c5b0:decide (x8_1<(l0.length:Int))=true:=zDt c5;clear c5
      by_cases c6:a1=(rd l0 x8_1)
      ·rw [if_pos c6] at H
       have c6b0:(a1 == (rd l0 x8_1))=true:=beq_iff_eq.mpr c6;have c6b1:(a1 != (rd l0 x8_1))=false:=bne_eq_false_iff_eq.mpr c6;clear c6;obtain rfl:=zSi H;have p178:0≤(x8_1:Int):=zDo (by with_reducible assumption);have q178:x8_1<(l0.length:Int):=zDo (by with_reducible assumption);obtain ⟨ad178,e178,hx178_0⟩:=Kd.at_int HR0.out x8_1 p178 q178;cases e178
       replace p178:=eq_true p178;replace q178:=eq_true q178;go_wp2
       go_ret
       exact ⟨by first|rfl|(simp;done)|(simp [*];done),by repeat (first|exact Drawn0.refl _|apply Drawn0.step)⟩
      ·rw [if_neg c6] at H
       have c6b0:(a1 == (rd l0 x8_1))=false:=beq_eq_false_iff_ne.mpr c6;have c6b1:(a1 != (rd l0 x8_1))=true:=bne_iff_ne.mpr c6;have H':=As0.mk H;clear H;have p178:0≤(x8_1:Int):=zDo (by with_reducible assumption);have q178:x8_1<(l0.length:Int):=zDo (by with_reducible assumption);obtain ⟨ad178,e178,hx178_0⟩:=Kd.at_int HR0.out x8_1 p178 q178;cases e178
       replace p178:=eq_true p178;replace q178:=eq_true q178;go_wp2
       go_roundg k1
       case measure=>have:=HK1.out;omega
       case rel=>exact ⟨(wrap64 (x8_1+1)),(by first|rfl|(simp;done)|(simp [*];done)),H',⟨by have:=HK1.out;omega⟩,by repeat (first|exact Drawn0.refl _|apply Drawn0.step)⟩
     ·rw [if_neg c5] at H
      exact absurd H (by simp)
    ·rw [if_neg c4] at H
     exact absurd H (by simp)
   ·rw [if_neg c3] at H
    have c3b0:decide (x8_1<(l0.length:Int))=false:=zDf c3;clear c3;obtain rfl:=zSi H;go_wp2
    go_ret
    exact ⟨by first|rfl|(simp;done)|(simp [*];done),by repeat (first|exact Drawn0.refl _|apply Drawn0.step)⟩
def slices_Contains_int_int.f (k:Nat) (l0:List Int) (a1:Int):Option (Bool):=(slices_Index_int_int.f k l0 a1).bind fun t179=>(some (decide (t179 ≥ 0)))
theorem slices_Contains_int_int.calls (k:Nat) (A0:Option Addr) (c0:Nat) (l0:List Int) (a1:Int) (r:Bool) (w:World) (hr0:Kd.C (Kd.int .i64) w A0 l0.length l0) (hc0:l0.length≤c0) (h:slices_Contains_int_int.f k l0 a1=some r) :
  Calls Tra.prog 70 #[.slice A0 l0.length c0,.int .i64 a1] w fun e w'=>e=.returned (.bool r)∧Drawn0 w w':=by
 have HR0:=As0.mk hr0;have HC0:=As0.mk hc0;clear hr0 hc0;have H:((slices_Index_int_int.f k l0 a1).bind fun t179=>(some (decide (t179 ≥ 0))))=some r:=h;clear h;replace H:=Option.bind_eq_some_iff.mp H;obtain ⟨t179,A30,H⟩:=H;replace H:(some (decide (t179 ≥ 0)))=some r:=H;have A3:=As0.mk A30;clear A30;obtain rfl:=zSi H;go_enter Tra.func70,Tra.ntmps70
 go_wp2_with (first|((with_reducible refine y0d (f:=91) rfl ?_);refine y12 (some 7) rfl rfl Tra.func91 (by kernel_rfl) rfl #[.slice A0 l0.length c0,.int .i64 a1] rfl (by (try simp only [List.map_toArray,List.map_cons,List.map_nil]);first|done|rfl|(simp only [List.length_drop,List.length_take];rfl)) ?_;(with_reducible refine (slices_Index_int_int.calls k _ _ l0 a1 t179 _ ?side1 ?side2 A3.out).mono ?_);(case side1=>repeat (first|exact HR0.out|(with_reducible refine Kd.C_alloc ?_ _)|(with_reducible refine Kd.C_drewN ?_ _)|(with_reducible refine Kd.C_drew ?_)));(case side2=>exact HC0.out);rintro e w' ⟨rfl,⟨nd,rfl⟩⟩;refine ⟨_,rfl,?_⟩))
 go_ret
 exact ⟨by first|rfl|(simp;done)|(simp [*];done),by repeat (first|exact Drawn0.refl _|apply Drawn0.step)⟩
end Go.Proofs.Ytdhgeondbnpeoaa.P
namespace Go.Proofs.Ytdhgeondbnpeoaa.P
open Go.RowKit Go.Proofs.Yw.Wd Go.Proofs.Yw.La Go.Proofs.Yw.Mo
attribute [local go_sem] y0y y0w y17 y16 y0q y0p y0x y0v
def mobs_parted.l0:Nat->List Int->List Int->Int->Int->Option (Bool)
 |0,_,_,_,_=>none
 |k+1,x7,x25,x26,x27=>if x27<x26 then (if 0≤x27 then (if x27<(x25.length:Int) then ((slices_Contains_int_int.f k x7 (rd x25 x27)).bind fun t190=>(if t190=true then (some true) else (mobs_parted.l0 k x7 x25 x26 (wrap64 (x27+1))))) else (none)) else (none)) else (some false)
def mobs_parted.f (k:Nat) (l0:List Int) (a1:Int) (a2:Int):Option (Bool):=if 0≤(wrap64 (a1+1)) then (if (wrap64 (a1+1))≤(wrap64 (a2+1)) then (if (wrap64 (a2+1))≤(l0.length:Int) then (if (wrap64 (a1+1))≤(l0.length:Int) then ((slices_Clone_int_int.f (l0.take ((wrap64 (a1+1)):Int).toNat)).bind fun t182=>(if 0≤(wrap64 (a2+1)) then (if t182.length+(l0.drop ((wrap64 (a2+1)):Int).toNat).length<17592186044416 then ((some (t182 ++ (l0.drop ((wrap64 (a2+1)):Int).toNat):List Int)).bind fun y186=>(mobs_parted.l0 k ((l0.take ((wrap64 (a2+1)):Int).toNat).drop ((wrap64 (a1+1)):Int).toNat) y186 (y186.length:Int) 0)) else (none)) else (none))) else (none)) else (none)) else (none)) else (none)
def mobs_parted.T2:Bool × List (List Nat × List Nat):=(true,[([],[]),([],[]),([1],[1]),([0,2],[0,2]),([3],[3]),([],[]),([],[]),([6],[6]),([5,7],[5,7]),([4,8,4],[4,8]),([9],[9]),([],[])])
def mobs_parted.B2:List Nat:=[0,0,2,7,15,0,0,64,224,511,1023,0]
theorem mobs_parted.tab2:rtab .any (yh9 Tra.f53 2)=mobs_parted.T2:=by kernel_rfl
theorem mobs_parted.bits2:y37 mobs_parted.T2.2 mobs_parted.B2=true:=by kernel_rfl
theorem mobs_parted.calls (k:Nat) (A0:Option Addr) (c0:Nat) (l0:List Int) (a1:Int) (a2:Int) (r:Bool) (w:World) (hr0:Kd.C (Kd.int .i64) w A0 l0.length l0) (hc0:l0.length≤c0) (h:mobs_parted.f k l0 a1 a2=some r) :
  Calls Tra.prog 53 #[.slice A0 l0.length c0,.int .i64 a1,.int .i64 a2] w fun e w'=>e=.returned (.bool r)∧Below w.heap.size w w':=by
 have HR0:=As0.mk hr0;have HC0:=As0.mk hc0;clear hr0 hc0;have HB:=As0.mk (Below.refl w.heap.size w);have H:(if 0≤(wrap64 (a1+1)) then (if (wrap64 (a1+1))≤(wrap64 (a2+1)) then (if (wrap64 (a2+1))≤(l0.length:Int) then (if (wrap64 (a1+1))≤(l0.length:Int) then ((slices_Clone_int_int.f (l0.take ((wrap64 (a1+1)):Int).toNat)).bind fun t182=>(if 0≤(wrap64 (a2+1)) then (if t182.length+(l0.drop ((wrap64 (a2+1)):Int).toNat).length<17592186044416 then ((some (t182 ++ (l0.drop ((wrap64 (a2+1)):Int).toNat):List Int)).bind fun y186=>(mobs_parted.l0 k ((l0.take ((wrap64 (a2+1)):Int).toNat).drop ((wrap64 (a1+1)):Int).toNat) y186 (y186.length:Int) 0)) else (none)) else (none))) else (none)) else (none)) else (none)) else (none))=some r:=h;clear h;obtain ⟨ji4,hji4⟩:∃ j_:Int,(wrap64 (a1+1))=j_:=⟨_,rfl⟩
 replace H:(if 0≤(ji4) then (if (ji4)≤(wrap64 (a2+1)) then (if (wrap64 (a2+1))≤(l0.length:Int) then (if (ji4)≤(l0.length:Int) then ((slices_Clone_int_int.f (l0.take ((ji4):Int).toNat)).bind fun t182=>(if 0≤(wrap64 (a2+1)) then (if t182.length+(l0.drop ((wrap64 (a2+1)):Int).toNat).length<17592186044416 then ((some (t182 ++ (l0.drop ((wrap64 (a2+1)):Int).toNat):List Int)).bind fun y186=>(mobs_parted.l0 k ((l0.take ((wrap64 (a2+1)):Int).toNat).drop ((ji4):Int).toNat) y186 (y186.length:Int) 0)) else (none)) else (none))) else (none)) else (none)) else (none)) else (none))=some r:=by first|(rw [hji4] at H;exact H)|(simp only [hji4] at H ⊢;exact H)
 have hji4w:(IntKind.i64.wrap (a1+1))=ji4:=(y0o _).trans hji4
 by_cases c5:0≤(ji4)
 ·rw [if_pos c5] at H
  have c5b0:=eq_true c5;have c5b1:decide (0≤(ji4))=true:=zDt c5;clear c5
  by_cases c6:(ji4)≤(wrap64 (a2+1))
  ·rw [if_pos c6] at H
   have c6b0:=eq_true c6;have c6b1:decide ((ji4)≤(wrap64 (a2+1)))=true:=zDt c6
   by_cases c7:(wrap64 (a2+1))≤(l0.length:Int)
   ·rw [if_pos c7] at H
    have c7b0:=eq_true c7;have c7b1:decide ((wrap64 (a2+1))≤(l0.length:Int))=true:=zDt c7;have c8b0:=eq_true (zDo (by with_reducible assumption):0≤(ji4))
    by_cases c9:(ji4)≤(l0.length:Int)
    ·rw [if_pos c9] at H
     have c9b0:=eq_true c9;have c9b1:decide ((ji4)≤(l0.length:Int))=true:=zDt c9;clear c9;replace H:=Option.bind_eq_some_iff.mp H;obtain ⟨t182,A100,H⟩:=H;replace H:(if 0≤(wrap64 (a2+1)) then (if t182.length+(l0.drop ((wrap64 (a2+1)):Int).toNat).length<17592186044416 then ((some (t182 ++ (l0.drop ((wrap64 (a2+1)):Int).toNat):List Int)).bind fun y186=>(mobs_parted.l0 k ((l0.take ((wrap64 (a2+1)):Int).toNat).drop ((ji4):Int).toNat) y186 (y186.length:Int) 0)) else (none)) else (none))=some r:=H;have A10:=As0.mk A100;clear A100;obtain ⟨ji11,hji11⟩:∃ j_:Int,(wrap64 (a2+1))=j_:=⟨_,rfl⟩
     replace H:(if 0≤(ji11) then (if t182.length+(l0.drop ((ji11):Int).toNat).length<17592186044416 then ((some (t182 ++ (l0.drop ((ji11):Int).toNat):List Int)).bind fun y186=>(mobs_parted.l0 k ((l0.take ((ji11):Int).toNat).drop ((ji4):Int).toNat) y186 (y186.length:Int) 0)) else (none)) else (none))=some r:=by first|(rw [hji11] at H;exact H)|(simp only [hji11] at H ⊢;exact H)
     (try rw [hji11] at c6b0)
     (try rw [hji11] at c6b1)
     (try rw [hji11] at c6)
     (try rw [hji11] at c7b0)
     (try rw [hji11] at c7b1)
     (try rw [hji11] at c7)
     (try rw [hji11] at A10)
     have hji11w:(IntKind.i64.wrap (a2+1))=ji11:=(y0o _).trans hji11
     by_cases c12:0≤(ji11)
     ·rw [if_pos c12] at H
      have c12b0:=eq_true c12;have c12b1:decide (0≤(ji11))=true:=zDt c12;clear c12;have HLj_:=As0.mk (zDo (by with_reducible assumption):(ji11)≤(l0.length:Int));have c13b0:=eq_true (zDo (by with_reducible assumption):(ji11)≤(l0.length:Int))
      by_cases c14:t182.length+(l0.drop ((ji11):Int).toNat).length<17592186044416
      ·rw [if_pos c14] at H
       have LMc14:=As0.mk c14;clear c14;obtain ⟨y186,hy186⟩:∃ y_:List Int,y_=(t182 ++ (l0.drop ((ji11):Int).toNat)):=⟨_,rfl⟩
       replace H:(mobs_parted.l0 k ((l0.take ((ji11):Int).toNat).drop ((ji4):Int).toNat) y186 (y186.length:Int) 0)=some r:=by first|(rw [hy186];with_reducible exact H)|(have H2_:=(Option.bind_some _ _).symm.trans H;rw [hy186];with_reducible exact H2_)|(have H2_:=(Option.bind_some _ _).symm.trans H;with_reducible exact H2_)|with_reducible exact H|(rw [hy186];exact H)|exact H
       have Ny186:=As0.mk hy186;clear hy186;have H':=As0.mk H;clear H;obtain ⟨i015,hi015,_,hsz15,_⟩:=info_parts info3;obtain ⟨A15,hcut15,hA15,hC15⟩:=y8x (P:=Tra.prog) (Value.int .i64) 0 29 3 .i64 .i64 Tra.underlying29 hi015 hsz15 A0 c0 l0 (ji4) (ji11) (zDo (by with_reducible assumption)) (by first|omega|exact zDo (by with_reducible assumption)) (zDo (by with_reducible assumption)) HC0.out;have HR180:=As0.mk (Kd.C_of_reads (h1:=fun _=>rfl) (hA15 _ (Kd.reads_of_C HR0.out)));have HC180:=As0.mk hC15;clear hA15 hC15 hi015 hsz15;go_enter Tra.func53,Tra.ntmps53
       try go_wp2
       have n0_:=As0.mk (y02 HB.out);clear HB;have HB:=n0_;clear n0_;obtain ⟨i017,hi017,_,hsz17,_⟩:=info_parts info3;obtain ⟨hcut17,hA17,hC17⟩:=y7q (P:=Tra.prog) (Value.int .i64) 0 29 3 .i64 Tra.underlying29 hi017 hsz17 A0 c0 l0 (ji4) (zDo (by with_reducible assumption)) (zDo (by with_reducible assumption)) HC0.out;have HR181:=As0.mk (Kd.C_of_reads (h1:=fun _=>rfl) (hA17 _ (Kd.reads_of_C HR0.out)));have HC181:=As0.mk hC17;clear hA17 hC17 hi017 hsz17;obtain ⟨i018,hi018,_,hsz18,_⟩:=info_parts info3;obtain ⟨A18,hcut18,hA18,hC18⟩:=y7r (P:=Tra.prog) (Value.int .i64) 0 29 3 .i64 Tra.underlying29 hi018 hsz18 A0 c0 l0 (ji11) (zDo (by with_reducible assumption)) (zDo (by with_reducible assumption)) HC0.out;have HR185:=As0.mk (Kd.C_of_reads (h1:=fun _=>rfl) (hA18 _ (Kd.reads_of_C HR0.out)));have HC185:=As0.mk hC18;clear hA18 hC18 hi018 hsz18;refine yam (n:=12) (S:=fun w'=>True) (ds:=[]) #[false,false,false,false,false,false,false,false,false,false,false,false] (by kernel_rfl) rfl rfl trivial (fun hHeld=>?_);refine y3y mobs_parted.tab2 mobs_parted.bits2 (fun HT_ HW_=>?_);generalize w.drew=w16 at HB HR181 HR185 hHeld ⊢;refine y19 (i:=0) (N:=some 16) (v:=?_) (a':=?_) #[true,false,false,false,false,false,false,false,false,false,false,false] rfl rfl (y0r HT_.out (by kernel_rfl)) (fun _ _ _ h=>h) (Or.inl ⟨by rfl,?_⟩) ?_ ?_;rotate_left
       ·intro w'
        go_simp
        with_reducible rfl
       rotate_left
       ·simp only [Act.put,List.setIfInBounds_toArray,List.set_cons_zero,List.set_cons_succ,y0o,y0s]
        rfl
       refine y19 (i:=1) (N:=some 17) (v:=?_) (a':=?_) #[true,true,false,false,false,false,false,false,false,false,false,false] rfl rfl (y0r HT_.out (by kernel_rfl)) (fun _ _ _ h=>h) (Or.inl ⟨by rfl,?_⟩) ?_ ?_;rotate_left
       ·intro w'
        go_simp
        with_reducible rfl
       rotate_left
       ·simp only [Act.put,List.setIfInBounds_toArray,List.set_cons_zero,List.set_cons_succ,y0o,y0s]
        rfl
       refine y19 (i:=2) (N:=some 18) (v:=?_) (a':=?_) #[true,true,true,false,false,false,false,false,false,false,false,false] rfl rfl (y0r HT_.out (by kernel_rfl)) (fun _ _ _ h=>h) (Or.inl ⟨by rfl,?_⟩) ?_ ?_;rotate_left
       ·intro w'
        go_simp
        with_reducible rfl
       rotate_left
       ·simp only [Act.put,List.setIfInBounds_toArray,List.set_cons_zero,List.set_cons_succ,y0o,y0s]
        rfl
       refine y19 (i:=3) (N:=some 19) (v:=?_) (a':=?_) #[true,true,true,true,false,false,false,false,false,false,false,false] rfl rfl (y0r HT_.out (by kernel_rfl)) (fun _ _ _ h=>h) (Or.inl ⟨by rfl,?_⟩) ?_ ?_;rotate_left
       ·intro w'
        go_simp
        with_reducible rfl
       rotate_left
       ·simp only [Act.put,List.setIfInBounds_toArray,List.set_cons_zero,List.set_cons_succ,y0o,y0s]
        rfl
       refine y19 (i:=5) (N:=some 21) (v:=?_) (a':=?_) #[true,true,true,true,false,true,false,false,false,false,false,false] rfl rfl (y0r HT_.out (by kernel_rfl)) (fun _ _ _ h=>h) (Or.inl ⟨by rfl,?_⟩) ?_ ?_;rotate_left
       ·intro w'
        go_simp
        with_reducible rfl
       rotate_left
       ·simp only [Act.put,List.setIfInBounds_toArray,List.set_cons_zero,List.set_cons_succ,y0o,y0s]
        rfl
       refine y19 (i:=6) (N:=some 22) (v:=?_) (a':=?_) #[true,true,true,true,false,true,true,false,false,false,false,false] rfl rfl (y0r HT_.out (by kernel_rfl)) (fun _ _ _ h=>h) (Or.inl ⟨by rfl,?_⟩) ?_ ?_;rotate_left
       ·intro w'
        go_simp
        with_reducible rfl
       rotate_left
       ·simp only [Act.put,List.setIfInBounds_toArray,List.set_cons_zero,List.set_cons_succ,y0o,y0s]
        rfl
       refine y19 (i:=7) (N:=some 23) (v:=?_) (a':=?_) #[true,true,true,true,false,true,true,true,false,false,false,false] rfl rfl (y0r HT_.out (by kernel_rfl)) (fun _ _ _ h=>h) (Or.inl ⟨by rfl,?_⟩) ?_ ?_;rotate_left
       ·intro w'
        go_simp
        with_reducible rfl
       rotate_left
       ·simp only [Act.put,List.setIfInBounds_toArray,List.set_cons_zero,List.set_cons_succ,y0o,y0s]
        rfl
       refine y19 (i:=8) (N:=some 24) (v:=?_) (a':=?_) #[true,true,true,true,false,true,true,true,true,false,false,false] rfl rfl (y0r HT_.out (by kernel_rfl)) (fun _ _ _ h=>h) (Or.inl ⟨by rfl,?_⟩) ?_ ?_;rotate_left
       ·intro w'
        go_simp
        with_reducible rfl
       rotate_left
       ·simp only [Act.put,List.setIfInBounds_toArray,List.set_cons_zero,List.set_cons_succ,y0o,y0s]
        rfl
       refine y19 (i:=11) (N:=some 27) (v:=?_) (a':=?_) #[true,true,true,true,false,true,true,true,true,false,false,true] rfl rfl (y0r HT_.out (by kernel_rfl)) (fun _ _ _ h=>h) (Or.inl ⟨by rfl,?_⟩) ?_ ?_;rotate_left
       ·intro w'
        go_simp
        with_reducible rfl
       rotate_left
       ·simp only [Act.put,List.setIfInBounds_toArray,List.set_cons_zero,List.set_cons_succ,y0o,y0s]
        rfl
       refine one_ (i:=4) (N:=some 20) #[true,true,true,true,true,true,true,true,true,false,false,true] rfl rfl (y4w HT_.out (by kernel_rfl)) (by decide) (fun K hK=>?_);refine goes_ Tra.func56 (by kernel_rfl) rfl #[.slice A0 (l0.take ((ji4):Int).toNat).length c0] (by rfl) rfl rfl (by (try simp only [List.map_toArray,List.map_cons,List.map_nil]);first|done|(rw [show (l0.take ((ji4):Int).toNat).length=(ji4).toNat from (by rw [List.length_take];have h_:((ji4):Int)≤(l0.length:Int):=(by first|exact zDo (by with_reducible assumption)|exact HLj_.out);omega)]<;>rfl)|(simp only [hji4];rfl)|rfl|(simp only [List.length_drop,List.length_take];rfl)) ?_
       with_reducible refine (slices_Clone_int_int.calls _ _ (l0.take ((ji4):Int).toNat) t182 _ ?side1 ?side2 A10.out).mono ?_
       (case side1=>repeat (first|exact (Kd.C_below HR181.out HB.out)|(with_reducible refine Kd.C_alloc ?_ _)|(with_reducible refine Kd.C_drewN ?_ _)|(with_reducible refine Kd.C_drew ?_)))
       (case side2=>exact HC181.out)
       rintro e w19 ⟨v183,rfl,ho0,hb⟩
       refine ⟨_,rfl,?_⟩;have n0_:=As0.mk (Kd.R_lower ho0 (y04 (by repeat (with_reducible first|exact HB.out|apply y01|apply y00|apply y02))));have n1_:=As0.mk (y03 (by repeat (with_reducible first|exact HB.out|apply y01|apply y00|apply y02)) hb);clear HB;have HO184:=n0_;have HB:=n1_;clear n0_ n1_
       (try clear hb)
       (try clear hb2)
       (try clear hk)
       (try clear hi)
       (try clear ho0)
       refine hK.out _ _ trivial (fun hHeld=>?_);clear hK K;refine ybt (a':=?_) ?_ ?_;rotate_left
       ·show Act.put _ (some 20) _=_
        simp only [Act.put,List.setIfInBounds_toArray,List.set_cons_zero,List.set_cons_succ,y0o,y0s];rfl
       refine one_ (i:=9) (N:=some 25) #[true,true,true,true,true,true,true,true,true,true,false,true] rfl rfl (y4w HT_.out (by kernel_rfl)) (by decide) (fun K hK=>?_);refine Kd.R_append_rows_step (Kd.int .i64) (w0:=w) w.heap.size (by rfl) (.tmp 20) (.tmp 24) 29 3 (.int .i64 0) 8 rfl Tra.underlying29 info3 rfl (by decide) (by omega) v183 t182 (l0.drop ((ji11):Int).toNat) _ _ _ (fun _=>True) (fun _=>False) rfl rfl ?aO ?aR (fun _ _ h=>h) (fun _ h=>h.elim) ?aF ?aB ?aS ?aL ?_
       (case aR=>first|(rw [← show (l0.drop ((ji11):Int).toNat).length=(l0.length - (ji11).toNat) from List.length_drop];repeat (first|exact (Kd.C_below HR185.out HB.out)|(with_reducible refine Kd.C_alloc ?_ _)|(with_reducible refine Kd.C_drewN ?_ _)|(with_reducible refine Kd.C_drew ?_)))|(repeat (first|exact (Kd.C_below HR185.out HB.out)|(with_reducible refine Kd.C_alloc ?_ _)|(with_reducible refine Kd.C_drewN ?_ _)|(with_reducible refine Kd.C_drew ?_))))
       (case aB=>exact (by repeat (with_reducible first|exact HB.out|apply y01|apply y00|apply y02)))
       (case aF=>exact (fun _ _=>trivial))
       (case aO=>exact (by (with_reducible repeat (first|apply Kd.R_alloc|apply Kd.R_drewN|apply Kd.R_drew));exact HO184.out))
       (case aS=>exact (y04 (by repeat (with_reducible first|exact HB.out|apply y01|apply y00|apply y02))))
       (case aL=>have:=LMc14.out;have hlx_:=(show (l0.drop ((ji11):Int).toNat).length=(l0.length - (ji11).toNat) from List.length_drop);omega)
       intro v187 w20 ho hb hg hat;rw [← Ny186.out] at ho;have n0_:=As0.mk (hb);have n1_:=As0.mk (ho);clear HB;clear HO184;have HB:=n0_;have HO188:=n1_;clear n0_ n1_;clear ho hb hg hat;obtain ⟨Ao21,co21,eo21⟩:=Kd.R_slice HO188.out
       (first|subst eo21|(injection eo21 with f1_ f2_ f3_;have f4_:=f1_.symm;have f5_:=f3_.symm;clear f1_ f2_ f3_;subst f4_;subst f5_))
       refine hK.out _ _ trivial (fun hHeld=>?_);clear hK K;refine ybt (a':=?_) ?_ ?_;rotate_left
       ·show Act.put _ (some 25) _=_
        simp only [Act.put,List.setIfInBounds_toArray,List.set_cons_zero,List.set_cons_succ,y0o,y0s];rfl
       refine y19 (i:=10) (N:=some 26) (v:=?_) (a':=?_) #[true,true,true,true,true,true,true,true,true,true,true,true] rfl rfl (y0r HT_.out (by kernel_rfl)) (fun _ _ _ h=>h) (Or.inl ⟨by rfl,?_⟩) ?_ ?_;rotate_left
       ·intro w'
        go_simp
        with_reducible rfl
       rotate_left
       ·simp only [Act.put,List.setIfInBounds_toArray,List.set_cons_zero,List.set_cons_succ,y0o,y0s]
        rfl
       refine yj1 (y82 HT_.out (by kernel_rfl)) ?_
       try go_wp2
       go_loopg [27] k (fun kq v27 w'=>∃ (x27_1:Int),v27=.int .i64 x27_1∧As0 (mobs_parted.l0 kq ((l0.take ((ji11):Int).toNat).drop ((ji4):Int).toNat) y186 (y186.length:Int) x27_1=some r)∧As0 (kq≤k)∧As0 (Kd.R (Kd.int .i64) 3 w' w.heap.size (fun _=>True) (.slice Ao21 y186.length co21) y186)∧As0 (Below w.heap.size w w'))
       case atStart=>exact ⟨(0),(by first|rfl|(simp;done)|(simp [*];done)),H',⟨zLe _⟩,⟨by (with_reducible repeat (first|apply Kd.R_alloc|apply Kd.R_drewN|apply Kd.R_drew));exact HO188.out⟩,⟨by repeat (with_reducible first|exact HB.out|apply y01|apply y00|apply y02)⟩⟩
       case round =>
        clear H'
        try clear c1
        try clear p2
        try clear c5
        try clear c5b0
        try clear c5b1
        try clear c6
        try clear c6b0
        try clear c6b1
        try clear p6
        try clear c7
        try clear c7b0
        try clear c7b1
        try clear c8
        try clear c8b0
        try clear c9
        try clear c9b0
        try clear c9b1
        try clear c12
        try clear c12b0
        try clear c12b1
        try clear c13
        try clear c13b0
        try clear c14
        obtain ⟨x27_1,rfl,HA,HK1,HO_25,HB⟩:=hrel;cases gk with
        |zero=>exact absurd HA.out (by simp [mobs_parted.l0])
        |succ k1 =>
         have H:=HA.out;clear HA;simp only [mobs_parted.l0] at H
         by_cases c22:x27_1<(y186.length:Int)
         ·rw [if_pos c22] at H
          have c22b0:decide (x27_1<(y186.length:Int))=true:=zDt c22;clear c22
          by_cases c23:0≤x27_1
          ·rw [if_pos c23] at H
           have c23b0:decide (0≤x27_1)=true:=zDt c23;clear c23
           by_cases c24:x27_1<(y186.length:Int)
           ·rw [if_pos c24] at H
            have c24b0:decide (x27_1<(y186.length:Int))=true:=zDt c24;clear c24;replace H:=Option.bind_eq_some_iff.mp H;obtain ⟨t190,A250,H⟩:=H;replace H:(if t190=true then (some true) else (mobs_parted.l0 k1 ((l0.take ((ji11):Int).toNat).drop ((ji4):Int).toNat) y186 (y186.length:Int) (wrap64 (x27_1+1))))=some r:=H;have A25:=As0.mk A250;clear A250
            by_cases c26:t190=true
            ·subst c26
             have H1:(some true)=some r:=by rw [if_pos rfl] at H;exact H
             clear H;have H:=H1;clear H1;obtain rfl:=zSi H;have p189:0≤(x27_1:Int):=zDo (by with_reducible assumption);have q189:x27_1<(y186.length:Int):=zDo (by with_reducible assumption);obtain ⟨ad189,e189,hx189_0⟩:=Kd.at_int (Kd.R_reads' HO_25.out).2.2 x27_1 p189 q189;cases e189
             replace p189:=eq_true p189;replace q189:=eq_true q189;go_wp2_with (first|((with_reducible refine y0d (f:=70) rfl ?_);refine y12 (some 33) rfl rfl Tra.func70 (by kernel_rfl) rfl #[.slice A15 ((l0.take ((ji11):Int).toNat).drop ((ji4):Int).toNat).length (c0 - (ji4).toNat),.int .i64 (rd y186 x27_1)] rfl (by (try simp only [List.map_toArray,List.map_cons,List.map_nil]);first|done|(rw [show ((l0.take ((ji11):Int).toNat).drop ((ji4):Int).toNat).length=((ji11).toNat - (ji4).toNat) from (by rw [List.length_drop,List.length_take];have h_:((ji11):Int)≤(l0.length:Int):=(by first|exact zDo (by with_reducible assumption)|exact HLj_.out);omega)]<;>rfl)|(simp only [hji11,hji4];rfl)|rfl|(simp only [List.length_drop,List.length_take];rfl)) ?_;(with_reducible refine (slices_Contains_int_int.calls k1 _ _ ((l0.take ((ji11):Int).toNat).drop ((ji4):Int).toNat) (rd y186 x27_1) true _ ?side1 ?side2 A25.out).mono ?_);(case side1=>repeat (first|exact (Kd.C_below HR180.out HB.out)|(with_reducible refine Kd.C_alloc ?_ _)|(with_reducible refine Kd.C_drewN ?_ _)|(with_reducible refine Kd.C_drew ?_)));(case side2=>exact HC180.out);rintro e w' ⟨rfl,⟨nd,rfl⟩⟩;refine ⟨_,rfl,?_⟩))
             go_ret
             exact ⟨by first|rfl|(simp [y06,y05]<;>rfl)|(simp only [← hji4,← hji11];first|rfl|(simp [y06,y05]<;>rfl))|(simp [*,y06,y05]<;>rfl),by repeat (with_reducible first|exact HB.out|apply y01|apply y00|apply y02)⟩
            ·replace c26:=Bool.eq_false_iff.mpr c26
             subst c26;have H1:(mobs_parted.l0 k1 ((l0.take ((ji11):Int).toNat).drop ((ji4):Int).toNat) y186 (y186.length:Int) (wrap64 (x27_1+1)))=some r:=by rw [if_neg (show ¬ (false=true) by decide)] at H;exact H
             clear H;have H:=H1;clear H1;have H':=As0.mk H;clear H;have p189:0≤(x27_1:Int):=zDo (by with_reducible assumption);have q189:x27_1<(y186.length:Int):=zDo (by with_reducible assumption);obtain ⟨ad189,e189,hx189_0⟩:=Kd.at_int (Kd.R_reads' HO_25.out).2.2 x27_1 p189 q189;cases e189
             replace p189:=eq_true p189;replace q189:=eq_true q189;go_wp2_with (first|((with_reducible refine y0d (f:=70) rfl ?_);refine y12 (some 33) rfl rfl Tra.func70 (by kernel_rfl) rfl #[.slice A15 ((l0.take ((ji11):Int).toNat).drop ((ji4):Int).toNat).length (c0 - (ji4).toNat),.int .i64 (rd y186 x27_1)] rfl (by (try simp only [List.map_toArray,List.map_cons,List.map_nil]);first|done|(rw [show ((l0.take ((ji11):Int).toNat).drop ((ji4):Int).toNat).length=((ji11).toNat - (ji4).toNat) from (by rw [List.length_drop,List.length_take];have h_:((ji11):Int)≤(l0.length:Int):=(by first|exact zDo (by with_reducible assumption)|exact HLj_.out);omega)]<;>rfl)|(simp only [hji11,hji4];rfl)|rfl|(simp only [List.length_drop,List.length_take];rfl)) ?_;(with_reducible refine (slices_Contains_int_int.calls k1 _ _ ((l0.take ((ji11):Int).toNat).drop ((ji4):Int).toNat) (rd y186 x27_1) false _ ?side1 ?side2 A25.out).mono ?_);(case side1=>repeat (first|exact (Kd.C_below HR180.out HB.out)|(with_reducible refine Kd.C_alloc ?_ _)|(with_reducible refine Kd.C_drewN ?_ _)|(with_reducible refine Kd.C_drew ?_)));(case side2=>exact HC180.out);rintro e w' ⟨rfl,⟨nd,rfl⟩⟩;refine ⟨_,rfl,?_⟩))
             go_roundg k1
             case measure=>have:=HK1.out;omega
             case rel=>exact ⟨(wrap64 (x27_1+1)),(by first|rfl|(simp;done)|(simp [*];done)),H',⟨by have:=HK1.out;omega⟩,⟨by (with_reducible repeat (first|apply Kd.R_alloc|apply Kd.R_drewN|apply Kd.R_drew));exact HO_25.out⟩,⟨by repeat (with_reducible first|exact HB.out|apply y01|apply y00|apply y02)⟩⟩
           ·rw [if_neg c24] at H
            exact absurd H (by simp)
          ·rw [if_neg c23] at H
           exact absurd H (by simp)
         ·rw [if_neg c22] at H
          have c22b0:decide (x27_1<(y186.length:Int))=false:=zDf c22;clear c22;obtain rfl:=zSi H;go_wp2
          go_ret
          exact ⟨by first|rfl|(simp [y06,y05]<;>rfl)|(simp only [← hji4,← hji11];first|rfl|(simp [y06,y05]<;>rfl))|(simp [*,y06,y05]<;>rfl),by repeat (with_reducible first|exact HB.out|apply y01|apply y00|apply y02)⟩
      ·rw [if_neg c14] at H
       exact absurd H (by simp)
     ·rw [if_neg c12] at H
      exact absurd H (by simp)
    ·rw [if_neg c9] at H
     exact absurd H (by simp)
   ·rw [if_neg c7] at H
    exact absurd H (by simp)
  ·rw [if_neg c6] at H
   exact absurd H (by simp)
 ·rw [if_neg c5] at H
  exact absurd H (by simp)
def mobs_number_int.f (l0:List Int):Option (List Int):=if (∀ x ∈ l0,Ext.In64 x)∧l0.length<17592186044416 then some (Ext.numL l0) else none
theorem mobs_number_int.calls (A0:Option Addr) (c0:Nat) (l0:List Int) (r1:List Int) (w:World) (hr0:Kd.C (Kd.int .i64) w A0 l0.length l0) (hc0:l0.length≤c0) (h:mobs_number_int.f l0=some r1) :
  Calls Tra.prog 54 #[.slice A0 l0.length c0] w fun e w'=>∃ v0_:Value,e=.returned v0_∧Kd.R (Kd.int .i64) 3 w' w.heap.size (fun _=>True) v0_ r1∧Below w.heap.size w w':=by
 unfold mobs_number_int.f at h;split at h
 ·rename_i hL
  obtain rfl:=zSi h;exact Ext.num_calls A0 c0 l0 w hr0 hc0 hL.1 hL.2
 ·cases h
theorem mobs_number_int.own (A0:Option Addr) (c0:Nat) (l0:List Int) (r1:List Int) (w:World) (hr0:Kd.C (Kd.int .i64) w A0 l0.length l0) (hc0:l0.length≤c0) (h:mobs_number_int.f l0=some r1) :
  Calls Tra.prog 54 #[.slice A0 l0.length c0] w fun e w'=>∃ v0_:Value,e=.returned v0_∧Ext.OwnI w' w.heap.size v0_ r1∧Below w.heap.size w w':=by
 unfold mobs_number_int.f at h;split at h
 ·rename_i hL
  obtain rfl:=zSi h;exact Ext.num_all A0 c0 l0 w hr0 hL.1 hL.2
 ·cases h
mutual
def mobs_Between.l0:Nat->List Int->List Int->Int->Int->Option (List Int × Int)
 |0,_,_,_,_=>none
 |k+1,x0,x7,x24,x25=>if x25<x24 then (mobs_Between.l1 k x0 x7 x25 x25 (wrap64 (x25 - 1)) x24 x25) else ((mobs_number_int.f x7).bind fun t201=>(some (t201,0)))
def mobs_Between.l1:Nat->List Int->List Int->Int->Int->Int->Int->Int->Option (List Int × Int)
 |0,_,_,_,_,_,_,_=>none
 |k+1,x0,x7,x8,x9,x10,x24,x25=>if x10 ≥ 0 then ((mobs_parted.f k x0 x10 x8).bind fun t204=>(if t204=true then (mobs_Between.l1 k x0 x7 x8 x9 (wrap64 (x10 - 1)) x24 x25) else (mobs_Between.l1 k x0 x7 x8 x10 (wrap64 (x10 - 1)) x24 x25))) else (if x7.length<17592186044416 then (mobs_Between.l0 k x0 (x7 ++ [x9]) x24 (wrap64 (x25+1))) else (none))
end
def mobs_Between.f (k:Nat) (l0:List Int):Option (List Int × Int):=(mobs_read.f k (([l0]:List (List Int)))).bind fun t194=>(if t194=0 then ((mobs_crossed.f k l0).bind fun bt195=>(if bt195.2.2.2.2=true then (some (([]:List Int),9)) else (mobs_Between.l0 k l0 ([]:List Int) (l0.length:Int) 0))) else (some (([]:List Int),t194)))
theorem mobs_Between.flat (k:Nat) (P0_:Nat->Prop) (A0:Option Addr) (c0:Nat) (l0:List Int) (r1:List Int) (r2:Int) (w:World) (hs0:Kd.V (Kd.int .i64) 3 w w.heap.size (fun k_=>P0_ k_) (.slice A0 l0.length c0) l0) (h:mobs_Between.f k l0=some (r1,r2)) :
  Calls Tra.prog 25 #[.slice A0 l0.length c0] w fun e w'=>∃ v0_:Value,e=.returned (.tuple #[v0_,.int .i64 r2])∧Ext.OwnI w' w.heap.size v0_ r1∧Below w.heap.size w w':=by
 have hu31:=Tra.underlying31;have HO0:=As0.mk (show Kd.V (Kd.int .i64) 3 w w.heap.size (fun k_=>(P0_ k_∨w.heap.size≤k_)) (.slice A0 l0.length c0) l0 from Kd.V_mono hs0 (fun k_ hk=>.inl hk));have HB:=As0.mk (Below.refl w.heap.size w);have H:((mobs_read.f k (([l0]:List (List Int)))).bind fun t194=>(if t194=0 then ((mobs_crossed.f k l0).bind fun bt195=>(if bt195.2.2.2.2=true then (some (([]:List Int),9)) else (mobs_Between.l0 k l0 ([]:List Int) (l0.length:Int) 0))) else (some (([]:List Int),t194))))=some (r1,r2):=h;clear h;obtain ⟨y191,hy191⟩:∃ y_:List (List Int),y_=(([l0]:List (List Int))):=⟨_,rfl⟩
 replace H:((mobs_read.f k y191).bind fun t194=>(if t194=0 then ((mobs_crossed.f k l0).bind fun bt195=>(if bt195.2.2.2.2=true then (some (([]:List Int),9)) else (mobs_Between.l0 k l0 ([]:List Int) (l0.length:Int) 0))) else (some (([]:List Int),t194))))=some (r1,r2):=by first|(rw [hy191];with_reducible exact H)|(have H2_:=(Option.bind_some _ _).symm.trans H;rw [hy191];with_reducible exact H2_)|(have H2_:=(Option.bind_some _ _).symm.trans H;with_reducible exact H2_)|with_reducible exact H|(rw [hy191];exact H)|exact H
 have Ny191:=As0.mk hy191;clear hy191;replace H:=Option.bind_eq_some_iff.mp H;obtain ⟨t194,A20,H⟩:=H;replace H:(if t194=0 then ((mobs_crossed.f k l0).bind fun bt195=>(if bt195.2.2.2.2=true then (some (([]:List Int),9)) else (mobs_Between.l0 k l0 ([]:List Int) (l0.length:Int) 0))) else (some (([]:List Int),t194)))=some (r1,r2):=H;have A2:=As0.mk A20;clear A20
 by_cases c3:t194=0
 ·rw [if_pos c3] at H
  have c3b0:(t194 == 0)=true:=beq_iff_eq.mpr c3;have c3b1:(t194 != 0)=false:=bne_eq_false_iff_eq.mpr c3;clear c3;replace H:=Option.bind_eq_some_iff.mp H;obtain ⟨⟨t195,t196,t197,t198,t199⟩,A40,H⟩:=H;replace H:(if t199=true then (some (([]:List Int),9)) else (mobs_Between.l0 k l0 ([]:List Int) (l0.length:Int) 0))=some (r1,r2):=H;have A4:=As0.mk A40;clear A40
  by_cases c5:t199=true
  ·subst c5
   have H1:(some (([]:List Int),9))=some (r1,r2):=by rw [if_pos rfl] at H;exact H
   clear H;have H:=H1;clear H1;simp only [Option.some.injEq,Prod.mk.injEq] at H;obtain ⟨rfl,rfl⟩:=H;go_enter Tra.func25,Tra.ntmps25
   go_wp2_with (first|((with_reducible refine y0n (N:=12) rfl ?_);refine Kd.N_lit (Kd.slice 3 (Kd.int .i64)) _ 29 ?hg (N':=12) ?hd (xs:=([l0]:List (List Int))) (inner:=[.slice A0 l0.length c0]) (ok:=(fun k_=>(P0_ k_∨w.heap.size≤k_))) (okp:=(fun k_=>(P0_ k_∨w.heap.size≤k_))) ?hr ?hp (fun _ hk=>hk) ((show ∀ k_,w.heap.size≤k_->(fun k_=>(P0_ k_∨w.heap.size≤k_)) k_ from fun k_ hk=>(.inr (Nat.le_trans (y04 (by repeat (with_reducible first|exact HB.out|apply y01|apply y00|apply y02))) hk))) _ (zLe _)) (Below.refl _ _) (zLe _) (by simp) ?_;(case hd=>rfl);(case hg=>rfl);(case hr=>first|(go_simp;done)|(go_simp;rfl));(case hp=>exact (Reps.one (show Kd.FK (Kd.slice 3 (Kd.int .i64)) _ _ l0 [.slice A0 l0.length c0] from (Kd.FK_slice_mk (Kd.V_reads' (Kd.V_mono (ok':=(fun k_=>(P0_ k_∨w.heap.size≤k_))) (HO0.out) (fun k_ hk=>hk))).2.1 (Kd.V_F (Kd.V_mono (ok':=(fun k_=>(P0_ k_∨w.heap.size≤k_))) (HO0.out) (fun k_ hk=>hk))))) (Reps.none _ _)));intro v192 w6 ho7 hb hg_ hnew_;clear hg_ hnew_;(first|rw [← Ny191.out] at ho7|(simp only [Int.reduceToNat] at ho7;rw [← Ny191.out] at ho7));have n0_:=As0.mk (Kd.V_elder' (by (with_reducible repeat (first|apply Kd.V_alloc|apply Kd.V_drewN|apply Kd.V_drew));exact HO0.out) (Kd.N_base ho7) hb);have n1_:=As0.mk (Kd.N_lower ho7 (y04 (by repeat (with_reducible first|exact HB.out|apply y01|apply y00|apply y02))));have n2_:=As0.mk (y03 (by repeat (with_reducible first|exact HB.out|apply y01|apply y00|apply y02)) hb);clear HO0;clear HB;have HO0:=n0_;have HO193:=n1_;have HB:=n2_;clear n0_ n1_ n2_;clear hb ho7;obtain ⟨Ao8,co8,eo8⟩:=Kd.N_slice HO193.out;subst eo8)|((with_reducible refine y0d (f:=49) rfl ?_);refine y12 (some 13) rfl rfl Tra.func49 (by kernel_rfl) rfl #[.slice Ao8 y191.length co8] rfl (by (try simp only [List.map_toArray,List.map_cons,List.map_nil]);first|done|rfl|(simp only [List.length_drop,List.length_take];rfl)) ?_;(with_reducible refine (mobs_read.calls k _ _ y191 t194 _ ?side1 ?side2 A2.out).mono ?_);(case side1=>repeat (first|exact (Kd.N_reads' HO193.out).2.2|(with_reducible refine Kd.C_alloc ?_ _)|(with_reducible refine Kd.C_drewN ?_ _)|(with_reducible refine Kd.C_drew ?_)));(case side2=>exact (Kd.N_reads' HO193.out).2.1);rintro e w9 ⟨rfl,hb⟩;refine ⟨_,rfl,?_⟩;have n0_:=As0.mk (Kd.V_below (by (with_reducible repeat (first|apply Kd.V_alloc|apply Kd.V_drewN|apply Kd.V_drew));exact HO0.out) hb);have n1_:=As0.mk (Kd.N_below (by (with_reducible repeat (first|apply Kd.N_alloc|apply Kd.N_drewN|apply Kd.N_drew));exact HO193.out) hb);have n2_:=As0.mk (y03 (by repeat (with_reducible first|exact HB.out|apply y01|apply y00|apply y02)) hb);clear HO0;clear HO193;clear HB;have HO0:=n0_;have HO193:=n1_;have HB:=n2_;clear n0_ n1_ n2_;(try clear hb);(try clear hb2);(try clear hk);(try clear hi))|((with_reducible refine y0d (f:=50) rfl ?_);refine y12 (some 19) rfl rfl Tra.func50 (by kernel_rfl) rfl #[.slice A0 l0.length c0] rfl (by (try simp only [List.map_toArray,List.map_cons,List.map_nil]);first|done|rfl|(simp only [List.length_drop,List.length_take];rfl)) ?_;(with_reducible refine (mobs_crossed.calls k _ _ l0 t195 t196 t197 t198 true _ ?side1 ?side2 A4.out).mono ?_);(case side1=>repeat (first|exact (Kd.V_reads' HO0.out).2.2|(with_reducible refine Kd.C_alloc ?_ _)|(with_reducible refine Kd.C_drewN ?_ _)|(with_reducible refine Kd.C_drew ?_)));(case side2=>exact (Kd.V_reads' HO0.out).2.1);rintro e w10 ⟨rfl,hb⟩;refine ⟨_,rfl,?_⟩;have n0_:=As0.mk (Kd.V_below (by (with_reducible repeat (first|apply Kd.V_alloc|apply Kd.V_drewN|apply Kd.V_drew));exact HO0.out) hb);have n1_:=As0.mk (Kd.N_below (by (with_reducible repeat (first|apply Kd.N_alloc|apply Kd.N_drewN|apply Kd.N_drew));exact HO193.out) hb);have n2_:=As0.mk (y03 (by repeat (with_reducible first|exact HB.out|apply y01|apply y00|apply y02)) hb);clear HO0;clear HO193;clear HB;have HO0:=n0_;have HO193:=n1_;have HB:=n2_;clear n0_ n1_ n2_;(try clear hb);(try clear hb2);(try clear hk);(try clear hi))|((with_reducible refine y0n (N:=5) rfl ?_);refine y25 ?hg (N:=5) ?hd (cs:=#[.int .i64 0,.int .i64 0,.int .i64 0,.int .i64 0]) (t:=31) ?hr ?_;(case hd=>rfl);(case hg=>rfl);(case hr=>first|(go_simp;done)|(go_simp;rfl));intro gb200 hg w11 hbox hb;have n0_:=As0.mk (Kd.V_below (Kd.V_elderB (by (with_reducible repeat (first|apply Kd.V_alloc|apply Kd.V_drewN|apply Kd.V_drew));exact HO0.out) gb200 (Nat.le_of_eq hg.symm)) hb);have n1_:=As0.mk (Kd.N_below (Kd.N_elderB (by (with_reducible repeat (first|apply Kd.N_alloc|apply Kd.N_drewN|apply Kd.N_drew));exact HO193.out) gb200 (Nat.le_of_eq hg.symm)) hb);have n2_:=As0.mk (y03 (by repeat (with_reducible first|exact HB.out|apply y01|apply y00|apply y02)) hb);have n3_:=As0.mk (hbox);have n4_:=As0.mk ((by rw [hg];exact (y04 (by repeat (with_reducible first|exact HB.out|apply y01|apply y00|apply y02))):w.heap.size≤gb200));have n5_:=As0.mk ((by rw [hg];exact (y04 (by repeat (with_reducible first|exact HB.out|apply y01|apply y00|apply y02))):w.heap.size≤gb200));clear HO0;clear HO193;clear HB;have HO0:=n0_;have HO193:=n1_;have HB:=n2_;have BK200:=n3_;have GW200:=n4_;have GE200:=n5_;clear n0_ n1_ n2_ n3_ n4_ n5_;clear hb hbox hg;have hcz12_0:w11.cell? ⟨gb200,0,none⟩=some (.int .i64 0):=(y0m BK200.out 0).trans rfl;have hcz12_1:w11.cell? ⟨gb200,1,none⟩=some (.int .i64 0):=(y0m BK200.out 1).trans rfl;have hcz12_2:w11.cell? ⟨gb200,2,none⟩=some (.int .i64 0):=(y0m BK200.out 2).trans rfl;have hcz12_3:w11.cell? ⟨gb200,3,none⟩=some (.int .i64 0):=(y0m BK200.out 3).trans rfl;have hfz12_0:=y0h BK200.out 0;have hfz12_1:=y0h BK200.out 1;have hfz12_2:=y0h BK200.out 2;have hfz12_3:=y0h BK200.out 3))
   go_ret2
   exact ⟨_,by first|rfl|(simp [y06,y05]<;>rfl)|(simp [*,y06,y05]<;>rfl),by first|exact Ext.OwnI.nil _ _|exact Kd.N_nil _ _ _ _ _|exact Kd.V_nil _ _ _ _ _|exact Kd.Q_nil _ _ _ _ _|exact Kd.S_nil _ _ _ _ _,by repeat (with_reducible first|exact HB.out|apply y01|apply y00|apply y02|refine y0c ?_ GE200.out)⟩
  ·replace c5:=Bool.eq_false_iff.mpr c5
   subst c5;have H1:(mobs_Between.l0 k l0 ([]:List Int) (l0.length:Int) 0)=some (r1,r2):=by rw [if_neg (show ¬ (false=true) by decide)] at H;exact H
   clear H;have H:=H1;clear H1;have H':=As0.mk H;clear H;go_enter Tra.func25,Tra.ntmps25
   go_wp2_with (first|((with_reducible refine y0n (N:=12) rfl ?_);refine Kd.N_lit (Kd.slice 3 (Kd.int .i64)) _ 29 ?hg (N':=12) ?hd (xs:=([l0]:List (List Int))) (inner:=[.slice A0 l0.length c0]) (ok:=(fun k_=>(P0_ k_∨w.heap.size≤k_))) (okp:=(fun k_=>(P0_ k_∨w.heap.size≤k_))) ?hr ?hp (fun _ hk=>hk) ((show ∀ k_,w.heap.size≤k_->(fun k_=>(P0_ k_∨w.heap.size≤k_)) k_ from fun k_ hk=>(.inr (Nat.le_trans (y04 (by repeat (with_reducible first|exact HB.out|apply y01|apply y00|apply y02))) hk))) _ (zLe _)) (Below.refl _ _) (zLe _) (by simp) ?_;(case hd=>rfl);(case hg=>rfl);(case hr=>first|(go_simp;done)|(go_simp;rfl));(case hp=>exact (Reps.one (show Kd.FK (Kd.slice 3 (Kd.int .i64)) _ _ l0 [.slice A0 l0.length c0] from (Kd.FK_slice_mk (Kd.V_reads' (Kd.V_mono (ok':=(fun k_=>(P0_ k_∨w.heap.size≤k_))) (HO0.out) (fun k_ hk=>hk))).2.1 (Kd.V_F (Kd.V_mono (ok':=(fun k_=>(P0_ k_∨w.heap.size≤k_))) (HO0.out) (fun k_ hk=>hk))))) (Reps.none _ _)));intro v192 w13 ho14 hb hg_ hnew_;clear hg_ hnew_;(first|rw [← Ny191.out] at ho14|(simp only [Int.reduceToNat] at ho14;rw [← Ny191.out] at ho14));have n0_:=As0.mk (Kd.V_elder' (by (with_reducible repeat (first|apply Kd.V_alloc|apply Kd.V_drewN|apply Kd.V_drew));exact HO0.out) (Kd.N_base ho14) hb);have n1_:=As0.mk (Kd.N_lower ho14 (y04 (by repeat (with_reducible first|exact HB.out|apply y01|apply y00|apply y02))));have n2_:=As0.mk (y03 (by repeat (with_reducible first|exact HB.out|apply y01|apply y00|apply y02)) hb);clear HO0;clear HB;have HO0:=n0_;have HO193:=n1_;have HB:=n2_;clear n0_ n1_ n2_;clear hb ho14;obtain ⟨Ao15,co15,eo15⟩:=Kd.N_slice HO193.out;subst eo15)|((with_reducible refine y0d (f:=49) rfl ?_);refine y12 (some 13) rfl rfl Tra.func49 (by kernel_rfl) rfl #[.slice Ao15 y191.length co15] rfl (by (try simp only [List.map_toArray,List.map_cons,List.map_nil]);first|done|rfl|(simp only [List.length_drop,List.length_take];rfl)) ?_;(with_reducible refine (mobs_read.calls k _ _ y191 t194 _ ?side1 ?side2 A2.out).mono ?_);(case side1=>repeat (first|exact (Kd.N_reads' HO193.out).2.2|(with_reducible refine Kd.C_alloc ?_ _)|(with_reducible refine Kd.C_drewN ?_ _)|(with_reducible refine Kd.C_drew ?_)));(case side2=>exact (Kd.N_reads' HO193.out).2.1);rintro e w16 ⟨rfl,hb⟩;refine ⟨_,rfl,?_⟩;have n0_:=As0.mk (Kd.V_below (by (with_reducible repeat (first|apply Kd.V_alloc|apply Kd.V_drewN|apply Kd.V_drew));exact HO0.out) hb);have n1_:=As0.mk (Kd.N_below (by (with_reducible repeat (first|apply Kd.N_alloc|apply Kd.N_drewN|apply Kd.N_drew));exact HO193.out) hb);have n2_:=As0.mk (y03 (by repeat (with_reducible first|exact HB.out|apply y01|apply y00|apply y02)) hb);clear HO0;clear HO193;clear HB;have HO0:=n0_;have HO193:=n1_;have HB:=n2_;clear n0_ n1_ n2_;(try clear hb);(try clear hb2);(try clear hk);(try clear hi))|((with_reducible refine y0d (f:=50) rfl ?_);refine y12 (some 19) rfl rfl Tra.func50 (by kernel_rfl) rfl #[.slice A0 l0.length c0] rfl (by (try simp only [List.map_toArray,List.map_cons,List.map_nil]);first|done|rfl|(simp only [List.length_drop,List.length_take];rfl)) ?_;(with_reducible refine (mobs_crossed.calls k _ _ l0 t195 t196 t197 t198 false _ ?side1 ?side2 A4.out).mono ?_);(case side1=>repeat (first|exact (Kd.V_reads' HO0.out).2.2|(with_reducible refine Kd.C_alloc ?_ _)|(with_reducible refine Kd.C_drewN ?_ _)|(with_reducible refine Kd.C_drew ?_)));(case side2=>exact (Kd.V_reads' HO0.out).2.1);rintro e w17 ⟨rfl,hb⟩;refine ⟨_,rfl,?_⟩;have n0_:=As0.mk (Kd.V_below (by (with_reducible repeat (first|apply Kd.V_alloc|apply Kd.V_drewN|apply Kd.V_drew));exact HO0.out) hb);have n1_:=As0.mk (Kd.N_below (by (with_reducible repeat (first|apply Kd.N_alloc|apply Kd.N_drewN|apply Kd.N_drew));exact HO193.out) hb);have n2_:=As0.mk (y03 (by repeat (with_reducible first|exact HB.out|apply y01|apply y00|apply y02)) hb);clear HO0;clear HO193;clear HB;have HO0:=n0_;have HO193:=n1_;have HB:=n2_;clear n0_ n1_ n2_;(try clear hb);(try clear hb2);(try clear hk);(try clear hi))|((with_reducible refine y0n (N:=5) rfl ?_);refine y25 ?hg (N:=5) ?hd (cs:=#[.int .i64 0,.int .i64 0,.int .i64 0,.int .i64 0]) (t:=31) ?hr ?_;(case hd=>rfl);(case hg=>rfl);(case hr=>first|(go_simp;done)|(go_simp;rfl));intro gb200 hg w18 hbox hb;have n0_:=As0.mk (Kd.V_below (Kd.V_elderB (by (with_reducible repeat (first|apply Kd.V_alloc|apply Kd.V_drewN|apply Kd.V_drew));exact HO0.out) gb200 (Nat.le_of_eq hg.symm)) hb);have n1_:=As0.mk (Kd.N_below (Kd.N_elderB (by (with_reducible repeat (first|apply Kd.N_alloc|apply Kd.N_drewN|apply Kd.N_drew));exact HO193.out) gb200 (Nat.le_of_eq hg.symm)) hb);have n2_:=As0.mk (y03 (by repeat (with_reducible first|exact HB.out|apply y01|apply y00|apply y02)) hb);have n3_:=As0.mk (hbox);have n4_:=As0.mk ((by rw [hg];exact (y04 (by repeat (with_reducible first|exact HB.out|apply y01|apply y00|apply y02))):w.heap.size≤gb200));have n5_:=As0.mk ((by rw [hg];exact (y04 (by repeat (with_reducible first|exact HB.out|apply y01|apply y00|apply y02))):w.heap.size≤gb200));clear HO0;clear HO193;clear HB;have HO0:=n0_;have HO193:=n1_;have HB:=n2_;have BK200:=n3_;have GW200:=n4_;have GE200:=n5_;clear n0_ n1_ n2_ n3_ n4_ n5_;clear hb hbox hg;have hcz19_0:w18.cell? ⟨gb200,0,none⟩=some (.int .i64 0):=(y0m BK200.out 0).trans rfl;have hcz19_1:w18.cell? ⟨gb200,1,none⟩=some (.int .i64 0):=(y0m BK200.out 1).trans rfl;have hcz19_2:w18.cell? ⟨gb200,2,none⟩=some (.int .i64 0):=(y0m BK200.out 2).trans rfl;have hcz19_3:w18.cell? ⟨gb200,3,none⟩=some (.int .i64 0):=(y0m BK200.out 3).trans rfl;have hfz19_0:=y0h BK200.out 0;have hfz19_1:=y0h BK200.out 1;have hfz19_2:=y0h BK200.out 2;have hfz19_3:=y0h BK200.out 3))
   go_loopg [7,25] k (fun kq v7 v25 w'=>∃ (x7_1:List Int) (x25_1:Int),v25=.int .i64 x25_1∧As0 (mobs_Between.l0 kq l0 x7_1 (l0.length:Int) x25_1=some (r1,r2))∧As0 (kq≤k)∧As0 (Kd.V (Kd.int .i64) 3 w' w.heap.size (fun k_=>(P0_ k_∨w.heap.size≤k_)∧some k_≠(v7:Value).ownBlock∧k_≠gb200) (.slice A0 l0.length c0) l0)∧As0 (Kd.R (Kd.int .i64) 3 w' w.heap.size (fun k_=>(w.heap.size≤k_)) v7 x7_1)∧As0 (w'.heap[gb200]?=some (.cells #[.int .i64 t195,.int .i64 t196,.int .i64 t197,.int .i64 t198] 31 (0,0)))∧As0 (Below w.heap.size w w'))
   case atStart=>exact ⟨(([]:List Int)),(0),(by first|rfl|(simp;done)|(simp [*];done)),H',⟨zLe _⟩,⟨by (with_reducible repeat (first|apply Kd.V_alloc|apply Kd.V_drewN|apply Kd.V_drew));exact Kd.V_mono (Kd.V_far (p:=⟨gb200,3,none⟩) (Kd.V_far (p:=⟨gb200,2,none⟩) (Kd.V_far (p:=⟨gb200,1,none⟩) (Kd.V_far (p:=⟨gb200,0,none⟩) (Kd.V_mono HO0.out (fun k_ hk=>(⟨hk,hk.2⟩:_∧k_≠gb200))) (fun _ hk=>hk.2) (.int .i64 t195)) (fun _ hk=>hk.2) (.int .i64 t196)) (fun _ hk=>hk.2) (.int .i64 t197)) (fun _ hk=>hk.2) (.int .i64 t198)) (fun _ hk=>⟨hk.1.1.1,⟨(by simp [Value.ownBlock]),hk.1.2⟩⟩)⟩,⟨by first|exact Kd.R_nil _ _ _ _ _|exact Kd.N_nil _ _ _ _ _|exact Kd.V_nil _ _ _ _ _|exact Kd.Q_nil _ _ _ _ _|exact Kd.S_nil _ _ _ _ _⟩,⟨by (with_reducible repeat (first|refine y0b ?_ _|refine blk_drew ?_|refine blk_alloc ?_ _));refine y1b (cs:=#[.int .i64 t195,.int .i64 t196,.int .i64 t197,.int .i64 0]) ?_ 3 _ rfl;(with_reducible repeat (first|refine y0b ?_ _|refine blk_drew ?_|refine blk_alloc ?_ _));refine y1b (cs:=#[.int .i64 t195,.int .i64 t196,.int .i64 0,.int .i64 0]) ?_ 2 _ rfl;(with_reducible repeat (first|refine y0b ?_ _|refine blk_drew ?_|refine blk_alloc ?_ _));refine y1b (cs:=#[.int .i64 t195,.int .i64 0,.int .i64 0,.int .i64 0]) ?_ 1 _ rfl;(with_reducible repeat (first|refine y0b ?_ _|refine blk_drew ?_|refine blk_alloc ?_ _));refine y1b (cs:=#[.int .i64 0,.int .i64 0,.int .i64 0,.int .i64 0]) ?_ 0 _ rfl;(with_reducible repeat (first|refine y0b ?_ _|refine blk_drew ?_|refine blk_alloc ?_ _));exact BK200.out⟩,⟨by repeat (with_reducible first|exact HB.out|apply y01|apply y00|apply y02|refine y0c ?_ GE200.out)⟩⟩
   case round =>
    clear H'
    try clear c2
    try clear p2
    try clear c3
    try clear c3b0
    try clear c3b1
    try clear c4
    try clear c5
    try clear hcz12_0
    try clear hcz12_1
    try clear hcz12_2
    try clear hcz12_3
    try clear hcz19_0
    try clear hcz19_1
    try clear hcz19_2
    try clear hcz19_3
    try clear hfz12_0
    try clear hfz12_1
    try clear hfz12_2
    try clear hfz12_3
    try clear hfz19_0
    try clear hfz19_1
    try clear hfz19_2
    try clear hfz19_3
    obtain ⟨x7_1,x25_1,rfl,HA,HK1,HO_0,HO_7,BK200,HB⟩:=hrel;cases gk with
    |zero=>exact absurd HA.out (by simp [mobs_Between.l0])
    |succ k1 =>
     have H:=HA.out;clear HA;simp only [mobs_Between.l0] at H
     by_cases c20:x25_1<(l0.length:Int)
     ·rw [if_pos c20] at H
      have c20b0:decide (x25_1<(l0.length:Int))=true:=zDt c20;clear c20;have H':=As0.mk H;clear H;go_wp2
      go_loopg [9,10] k1 (fun kq v9 v10 w'=>∃ (x9_2:Int) (x10_2:Int),v9=.int .i64 x9_2∧v10=.int .i64 x10_2∧As0 (mobs_Between.l1 kq l0 x7_1 x25_1 x9_2 x10_2 (l0.length:Int) x25_1=some (r1,r2))∧As0 (kq≤k1)∧As0 (Kd.V (Kd.int .i64) 3 w' w.heap.size (fun k_=>(P0_ k_∨w.heap.size≤k_)∧some k_≠(u7:Value).ownBlock∧k_≠gb200) (.slice A0 l0.length c0) l0)∧As0 (Kd.R (Kd.int .i64) 3 w' w.heap.size (fun k_=>(w.heap.size≤k_)) u7 x7_1)∧As0 (w'.heap[gb200]?=some (.cells #[.int .i64 t195,.int .i64 t196,.int .i64 t197,.int .i64 t198] 31 (0,0)))∧As0 (Below w.heap.size w w'))
      case atStart=>exact ⟨(x25_1),(wrap64 (x25_1 - 1)),(by first|rfl|(simp;done)|(simp [*];done)),(by first|rfl|(simp;done)|(simp [*];done)),H',⟨zLe _⟩,⟨by (with_reducible repeat (first|apply Kd.V_alloc|apply Kd.V_drewN|apply Kd.V_drew));exact HO_0.out⟩,⟨by (with_reducible repeat (first|apply Kd.R_alloc|apply Kd.R_drewN|apply Kd.R_drew));exact HO_7.out⟩,⟨by (with_reducible repeat (first|refine y0b ?_ _|refine blk_drew ?_|refine blk_alloc ?_ _));exact BK200.out⟩,⟨by repeat (with_reducible first|exact HB.out|apply y01|apply y00|apply y02|refine y0c ?_ GE200.out)⟩⟩
      case round =>
       clear H'
       try clear c2
       try clear p2
       try clear c3
       try clear c3b0
       try clear c3b1
       try clear c4
       try clear c5
       try clear p6
       try clear c20
       try clear c20b0
       try clear hcz12_0
       try clear hcz12_1
       try clear hcz12_2
       try clear hcz12_3
       try clear hcz19_0
       try clear hcz19_1
       try clear hcz19_2
       try clear hcz19_3
       try clear hfz12_0
       try clear hfz12_1
       try clear hfz12_2
       try clear hfz12_3
       try clear hfz19_0
       try clear hfz19_1
       try clear hfz19_2
       try clear hfz19_3
       try clear p2
       obtain ⟨x9_2,x10_2,rfl,rfl,HA,HK2,HO_0,HO_7,BK200,HB⟩:=hrel;cases gk with
       |zero=>exact absurd HA.out (by simp [mobs_Between.l1])
       |succ k2 =>
        have H:=HA.out;clear HA;simp only [mobs_Between.l1] at H
        by_cases c21:x10_2 ≥ 0
        ·rw [if_pos c21] at H
         have c21b0:decide (0≤x10_2)=true:=zDt c21;clear c21;replace H:=Option.bind_eq_some_iff.mp H;obtain ⟨t204,A220,H⟩:=H;replace H:(if t204=true then (mobs_Between.l1 k2 l0 x7_1 x25_1 x9_2 (wrap64 (x10_2 - 1)) (l0.length:Int) x25_1) else (mobs_Between.l1 k2 l0 x7_1 x25_1 x10_2 (wrap64 (x10_2 - 1)) (l0.length:Int) x25_1))=some (r1,r2):=H;have A22:=As0.mk A220;clear A220
         by_cases c23:t204=true
         ·subst c23
          have H1:(mobs_Between.l1 k2 l0 x7_1 x25_1 x9_2 (wrap64 (x10_2 - 1)) (l0.length:Int) x25_1)=some (r1,r2):=by rw [if_pos rfl] at H;exact H
          clear H;have H:=H1;clear H1;have H':=As0.mk H;clear H;go_wp2_with (first|((with_reducible refine y0d (f:=53) rfl ?_);refine y12 (some 38) rfl rfl Tra.func53 (by kernel_rfl) rfl #[.slice A0 l0.length c0,.int .i64 x10_2,.int .i64 x25_1] rfl (by (try simp only [List.map_toArray,List.map_cons,List.map_nil]);first|done|rfl|(simp only [List.length_drop,List.length_take];rfl)) ?_;(with_reducible refine (mobs_parted.calls k2 _ _ l0 x10_2 x25_1 true _ ?side1 ?side2 A22.out).mono ?_);(case side1=>repeat (first|exact (Kd.V_reads' HO_0.out).2.2|(with_reducible refine Kd.C_alloc ?_ _)|(with_reducible refine Kd.C_drewN ?_ _)|(with_reducible refine Kd.C_drew ?_)));(case side2=>exact (Kd.V_reads' HO_0.out).2.1);rintro e w24 ⟨rfl,hb⟩;refine ⟨_,rfl,?_⟩;have n0_:=As0.mk (Kd.V_below (by (with_reducible repeat (first|apply Kd.V_alloc|apply Kd.V_drewN|apply Kd.V_drew));exact HO_0.out) hb);have n1_:=As0.mk (Kd.R_below (by (with_reducible repeat (first|apply Kd.R_alloc|apply Kd.R_drewN|apply Kd.R_drew));exact HO_7.out) hb);have n2_:=As0.mk (y1t (g:=gb200) (o:=.cells #[.int .i64 t195,.int .i64 t196,.int .i64 t197,.int .i64 t198] 31 (0,0)) (by (with_reducible repeat (first|refine y0b ?_ _|refine blk_drew ?_|refine blk_alloc ?_ _));exact BK200.out) hb);have n3_:=As0.mk (y03 (by repeat (with_reducible first|exact HB.out|apply y01|apply y00|apply y02|refine y0c ?_ GE200.out)) hb);clear HO_0;clear HO_7;clear BK200;clear HB;have HO_0:=n0_;have HO_7:=n1_;have BK200:=n2_;have HB:=n3_;clear n0_ n1_ n2_ n3_;(try clear hb);(try clear hb2);(try clear hk);(try clear hi)))
          go_roundg k2
          case measure=>have:=HK1.out;have:=HK2.out;omega
          case rel=>exact ⟨(x9_2),(wrap64 (x10_2 - 1)),(by first|rfl|(simp;done)|(simp [*];done)),(by first|rfl|(simp;done)|(simp [*];done)),H',⟨by have:=HK1.out;have:=HK2.out;omega⟩,⟨by (with_reducible repeat (first|apply Kd.V_alloc|apply Kd.V_drewN|apply Kd.V_drew));exact HO_0.out⟩,⟨by (with_reducible repeat (first|apply Kd.R_alloc|apply Kd.R_drewN|apply Kd.R_drew));exact HO_7.out⟩,⟨by (with_reducible repeat (first|refine y0b ?_ _|refine blk_drew ?_|refine blk_alloc ?_ _));exact BK200.out⟩,⟨by repeat (with_reducible first|exact HB.out|apply y01|apply y00|apply y02|refine y0c ?_ GE200.out)⟩⟩
         ·replace c23:=Bool.eq_false_iff.mpr c23
          subst c23;have H1:(mobs_Between.l1 k2 l0 x7_1 x25_1 x10_2 (wrap64 (x10_2 - 1)) (l0.length:Int) x25_1)=some (r1,r2):=by rw [if_neg (show ¬ (false=true) by decide)] at H;exact H
          clear H;have H:=H1;clear H1;have H':=As0.mk H;clear H;go_wp2_with (first|((with_reducible refine y0d (f:=53) rfl ?_);refine y12 (some 38) rfl rfl Tra.func53 (by kernel_rfl) rfl #[.slice A0 l0.length c0,.int .i64 x10_2,.int .i64 x25_1] rfl (by (try simp only [List.map_toArray,List.map_cons,List.map_nil]);first|done|rfl|(simp only [List.length_drop,List.length_take];rfl)) ?_;(with_reducible refine (mobs_parted.calls k2 _ _ l0 x10_2 x25_1 false _ ?side1 ?side2 A22.out).mono ?_);(case side1=>repeat (first|exact (Kd.V_reads' HO_0.out).2.2|(with_reducible refine Kd.C_alloc ?_ _)|(with_reducible refine Kd.C_drewN ?_ _)|(with_reducible refine Kd.C_drew ?_)));(case side2=>exact (Kd.V_reads' HO_0.out).2.1);rintro e w25 ⟨rfl,hb⟩;refine ⟨_,rfl,?_⟩;have n0_:=As0.mk (Kd.V_below (by (with_reducible repeat (first|apply Kd.V_alloc|apply Kd.V_drewN|apply Kd.V_drew));exact HO_0.out) hb);have n1_:=As0.mk (Kd.R_below (by (with_reducible repeat (first|apply Kd.R_alloc|apply Kd.R_drewN|apply Kd.R_drew));exact HO_7.out) hb);have n2_:=As0.mk (y1t (g:=gb200) (o:=.cells #[.int .i64 t195,.int .i64 t196,.int .i64 t197,.int .i64 t198] 31 (0,0)) (by (with_reducible repeat (first|refine y0b ?_ _|refine blk_drew ?_|refine blk_alloc ?_ _));exact BK200.out) hb);have n3_:=As0.mk (y03 (by repeat (with_reducible first|exact HB.out|apply y01|apply y00|apply y02|refine y0c ?_ GE200.out)) hb);clear HO_0;clear HO_7;clear BK200;clear HB;have HO_0:=n0_;have HO_7:=n1_;have BK200:=n2_;have HB:=n3_;clear n0_ n1_ n2_ n3_;(try clear hb);(try clear hb2);(try clear hk);(try clear hi)))
          go_roundg k2
          case measure=>have:=HK1.out;have:=HK2.out;omega
          case rel=>exact ⟨(x10_2),(wrap64 (x10_2 - 1)),(by first|rfl|(simp;done)|(simp [*];done)),(by first|rfl|(simp;done)|(simp [*];done)),H',⟨by have:=HK1.out;have:=HK2.out;omega⟩,⟨by (with_reducible repeat (first|apply Kd.V_alloc|apply Kd.V_drewN|apply Kd.V_drew));exact HO_0.out⟩,⟨by (with_reducible repeat (first|apply Kd.R_alloc|apply Kd.R_drewN|apply Kd.R_drew));exact HO_7.out⟩,⟨by (with_reducible repeat (first|refine y0b ?_ _|refine blk_drew ?_|refine blk_alloc ?_ _));exact BK200.out⟩,⟨by repeat (with_reducible first|exact HB.out|apply y01|apply y00|apply y02|refine y0c ?_ GE200.out)⟩⟩
        ·rw [if_neg c21] at H
         have c21b0:decide (0≤x10_2)=false:=zDf c21;clear c21
         by_cases c26:x7_1.length<17592186044416
         ·rw [if_pos c26] at H
          have LMc26:=As0.mk c26;clear c26;obtain ⟨y205,hy205⟩:∃ y_:List Int,y_=(x7_1 ++ [x9_2]):=⟨_,rfl⟩
          replace H:(mobs_Between.l0 k2 l0 y205 (l0.length:Int) (wrap64 (x25_1+1)))=some (r1,r2):=by first|(rw [hy205];with_reducible exact H)|(have H2_:=(Option.bind_some _ _).symm.trans H;rw [hy205];with_reducible exact H2_)|(have H2_:=(Option.bind_some _ _).symm.trans H;with_reducible exact H2_)|with_reducible exact H|(rw [hy205];exact H)|exact H
          have Ny205:=As0.mk hy205;clear hy205;have H':=As0.mk H;clear H;go_wp2_with (first|((with_reducible refine y0l (b:=.append) (xs:=#[.tmp 41,.tmp 43]) rfl ?_);at_builtin;refine Kd.R_append (Kd.int .i64) (w0:=w) w.heap.size rfl (.tmp 41) (.tmp 43) 29 3 (.int .i64 0) 8 rfl Tra.underlying29 info3 rfl (by decide) (by omega) u7 x7_1 x9_2 [.int .i64 x9_2] (fun k_=>(w.heap.size≤k_)) (fun _=>False) rfl rfl ?aP (fun _ hk=>hk.elim) ?aF ?aO ?aB ?aS ?aL ?_;(case aP=>exact rfl);(case aB=>exact (by repeat (with_reducible first|exact HB.out|apply y01|apply y00|apply y02|refine y0c ?_ GE200.out)));(case aF=>exact (fun k_ hk=>(Nat.le_trans (y04 (by repeat (with_reducible first|exact HB.out|apply y01|apply y00|apply y02|refine y0c ?_ GE200.out))) hk)));(case aO=>exact (by (with_reducible repeat (first|apply Kd.R_alloc|apply Kd.R_drewN|apply Kd.R_drew));exact HO_7.out));(case aS=>exact (y04 (by repeat (with_reducible first|exact HB.out|apply y01|apply y00|apply y02|refine y0c ?_ GE200.out))));(case aL=>have:=LMc26.out;omega);intro v206 w27 ho hb hg hat;rw [← Ny205.out] at ho;have n0_:=As0.mk (Kd.V_afterv (ok:=(fun k_=>(P0_ k_∨w.heap.size≤k_)∧k_≠gb200)) (by (with_reducible repeat (first|apply Kd.V_alloc|apply Kd.V_drewN|apply Kd.V_drew));exact Kd.V_mono HO_0.out (fun _ hk=>⟨⟨hk.1,hk.2.2⟩,hk.2.1⟩)) hg hat);have n1_:=As0.mk (ygk (g:=gb200) (o:=.cells #[.int .i64 t195,.int .i64 t196,.int .i64 t197,.int .i64 t198] 31 (0,0)) (by (with_reducible repeat (first|refine y0b ?_ _|refine blk_drew ?_|refine blk_alloc ?_ _));exact BK200.out) hg (Kd.R_ne HO_7.out BK200.out (by decide)));have n2_:=As0.mk (hb);have n3_:=As0.mk (ho);clear HO_0;clear BK200;clear HB;clear HO_7;have HO_0:=n0_;have BK200:=n1_;have HB:=n2_;have HO207:=n3_;clear n0_ n1_ n2_ n3_;clear ho hb hg hat))
          go_roundg k2
          case measure=>have:=HK1.out;have:=HK2.out;omega
          case rel=>exact ⟨(y205),(wrap64 (x25_1+1)),(by first|rfl|(simp;done)|(simp [*];done)),H',⟨by have:=HK1.out;have:=HK2.out;omega⟩,⟨by (with_reducible repeat (first|apply Kd.V_alloc|apply Kd.V_drewN|apply Kd.V_drew));exact Kd.V_mono HO_0.out (fun _ hk=>⟨hk.1.1,⟨hk.2,hk.1.2⟩⟩)⟩,⟨by (with_reducible repeat (first|apply Kd.R_alloc|apply Kd.R_drewN|apply Kd.R_drew));exact HO207.out⟩,⟨by (with_reducible repeat (first|refine y0b ?_ _|refine blk_drew ?_|refine blk_alloc ?_ _));exact BK200.out⟩,⟨by repeat (with_reducible first|exact HB.out|apply y01|apply y00|apply y02|refine y0c ?_ GE200.out)⟩⟩
         ·rw [if_neg c26] at H
          exact absurd H (by simp)
     ·rw [if_neg c20] at H
      have c20b0:decide (x25_1<(l0.length:Int))=false:=zDf c20;clear c20;replace H:=Option.bind_eq_some_iff.mp H;obtain ⟨t201,A280,H⟩:=H;replace H:(some (t201,0))=some (r1,r2):=H;have A28:=As0.mk A280;clear A280;simp only [Option.some.injEq,Prod.mk.injEq] at H;obtain ⟨rfl,rfl⟩:=H;obtain ⟨Ao29,co29,eo29⟩:=Kd.R_slice HO_7.out;subst eo29;go_wp2_with (first|((with_reducible refine y0d (f:=54) rfl ?_);refine y12 (some 47) rfl rfl Tra.func54 (by kernel_rfl) rfl #[.slice Ao29 x7_1.length co29] rfl (by (try simp only [List.map_toArray,List.map_cons,List.map_nil]);first|done|rfl|(simp only [List.length_drop,List.length_take];rfl)) ?_;(with_reducible refine (mobs_number_int.own _ _ x7_1 t201 _ ?side1 ?side2 A28.out).mono ?_);(case side1=>repeat (first|exact (Kd.R_reads' HO_7.out).2.2|(with_reducible refine Kd.C_alloc ?_ _)|(with_reducible refine Kd.C_drewN ?_ _)|(with_reducible refine Kd.C_drew ?_)));(case side2=>exact (Kd.R_reads' HO_7.out).2.1);rintro e w30 ⟨v202,rfl,hoI_,hb⟩;have HOI_:=As0.mk (hoI_.lower (y04 (by repeat (with_reducible first|exact HB.out|apply y01|apply y00|apply y02|refine y0c ?_ GE200.out))));have ho0:=hoI_.toR;clear hoI_;refine ⟨_,rfl,?_⟩;have n0_:=As0.mk (Kd.V_elder' (by (with_reducible repeat (first|apply Kd.V_alloc|apply Kd.V_drewN|apply Kd.V_drew));exact HO_0.out) (Kd.R_base ho0) hb);have n1_:=As0.mk (Kd.R_elder' (by (with_reducible repeat (first|apply Kd.R_alloc|apply Kd.R_drewN|apply Kd.R_drew));exact HO_7.out) (Kd.R_base ho0) hb);have n2_:=As0.mk (Kd.R_lower (Kd.R_new' (Kd.R_newM (M:=fun k_=>(w.heap.size≤k_)) ho0 (y04 (by repeat (with_reducible first|exact HB.out|apply y01|apply y00|apply y02|refine y0c ?_ GE200.out))) (fun k_ h_=>h_)) (Kd.R_lt (by (with_reducible repeat (first|apply Kd.R_alloc|apply Kd.R_drewN|apply Kd.R_drew));exact HO_7.out))) (y04 (by repeat (with_reducible first|exact HB.out|apply y01|apply y00|apply y02|refine y0c ?_ GE200.out))));have n3_:=As0.mk (y1t (g:=gb200) (o:=.cells #[.int .i64 t195,.int .i64 t196,.int .i64 t197,.int .i64 t198] 31 (0,0)) (by (with_reducible repeat (first|refine y0b ?_ _|refine blk_drew ?_|refine blk_alloc ?_ _));exact BK200.out) hb);have n4_:=As0.mk (y03 (by repeat (with_reducible first|exact HB.out|apply y01|apply y00|apply y02|refine y0c ?_ GE200.out)) hb);clear HO_0;clear HO_7;clear BK200;clear HB;have HO_0:=n0_;have HO_7:=n1_;have HO203:=n2_;have BK200:=n3_;have HB:=n4_;clear n0_ n1_ n2_ n3_ n4_;(try clear hb);(try clear hb2);(try clear hk);(try clear hi);(try clear ho0)))
      go_ret2
      exact ⟨_,by first|rfl|(simp [y06,y05]<;>rfl)|(simp [*,y06,y05]<;>rfl),HOI_.out,by repeat (with_reducible first|exact HB.out|apply y01|apply y00|apply y02|refine y0c ?_ GE200.out)⟩
 ·rw [if_neg c3] at H
  have c3b0:(t194 == 0)=false:=beq_eq_false_iff_ne.mpr c3;have c3b1:(t194 != 0)=true:=bne_iff_ne.mpr c3;simp only [Option.some.injEq,Prod.mk.injEq] at H;obtain ⟨rfl,rfl⟩:=H;go_enter Tra.func25,Tra.ntmps25
  go_wp2_with (first|((with_reducible refine y0n (N:=12) rfl ?_);refine Kd.N_lit (Kd.slice 3 (Kd.int .i64)) _ 29 ?hg (N':=12) ?hd (xs:=([l0]:List (List Int))) (inner:=[.slice A0 l0.length c0]) (ok:=(fun k_=>(P0_ k_∨w.heap.size≤k_))) (okp:=(fun k_=>(P0_ k_∨w.heap.size≤k_))) ?hr ?hp (fun _ hk=>hk) ((show ∀ k_,w.heap.size≤k_->(fun k_=>(P0_ k_∨w.heap.size≤k_)) k_ from fun k_ hk=>(.inr (Nat.le_trans (y04 (by repeat (with_reducible first|exact HB.out|apply y01|apply y00|apply y02))) hk))) _ (zLe _)) (Below.refl _ _) (zLe _) (by simp) ?_;(case hd=>rfl);(case hg=>rfl);(case hr=>first|(go_simp;done)|(go_simp;rfl));(case hp=>exact (Reps.one (show Kd.FK (Kd.slice 3 (Kd.int .i64)) _ _ l0 [.slice A0 l0.length c0] from (Kd.FK_slice_mk (Kd.V_reads' (Kd.V_mono (ok':=(fun k_=>(P0_ k_∨w.heap.size≤k_))) (HO0.out) (fun k_ hk=>hk))).2.1 (Kd.V_F (Kd.V_mono (ok':=(fun k_=>(P0_ k_∨w.heap.size≤k_))) (HO0.out) (fun k_ hk=>hk))))) (Reps.none _ _)));intro v192 w31 ho32 hb hg_ hnew_;clear hg_ hnew_;(first|rw [← Ny191.out] at ho32|(simp only [Int.reduceToNat] at ho32;rw [← Ny191.out] at ho32));have n0_:=As0.mk (Kd.V_elder' (by (with_reducible repeat (first|apply Kd.V_alloc|apply Kd.V_drewN|apply Kd.V_drew));exact HO0.out) (Kd.N_base ho32) hb);have n1_:=As0.mk (Kd.N_lower ho32 (y04 (by repeat (with_reducible first|exact HB.out|apply y01|apply y00|apply y02))));have n2_:=As0.mk (y03 (by repeat (with_reducible first|exact HB.out|apply y01|apply y00|apply y02)) hb);clear HO0;clear HB;have HO0:=n0_;have HO193:=n1_;have HB:=n2_;clear n0_ n1_ n2_;clear hb ho32;obtain ⟨Ao33,co33,eo33⟩:=Kd.N_slice HO193.out;subst eo33)|((with_reducible refine y0d (f:=49) rfl ?_);refine y12 (some 13) rfl rfl Tra.func49 (by kernel_rfl) rfl #[.slice Ao33 y191.length co33] rfl (by (try simp only [List.map_toArray,List.map_cons,List.map_nil]);first|done|rfl|(simp only [List.length_drop,List.length_take];rfl)) ?_;(with_reducible refine (mobs_read.calls k _ _ y191 t194 _ ?side1 ?side2 A2.out).mono ?_);(case side1=>repeat (first|exact (Kd.N_reads' HO193.out).2.2|(with_reducible refine Kd.C_alloc ?_ _)|(with_reducible refine Kd.C_drewN ?_ _)|(with_reducible refine Kd.C_drew ?_)));(case side2=>exact (Kd.N_reads' HO193.out).2.1);rintro e w34 ⟨rfl,hb⟩;refine ⟨_,rfl,?_⟩;have n0_:=As0.mk (Kd.V_below (by (with_reducible repeat (first|apply Kd.V_alloc|apply Kd.V_drewN|apply Kd.V_drew));exact HO0.out) hb);have n1_:=As0.mk (Kd.N_below (by (with_reducible repeat (first|apply Kd.N_alloc|apply Kd.N_drewN|apply Kd.N_drew));exact HO193.out) hb);have n2_:=As0.mk (y03 (by repeat (with_reducible first|exact HB.out|apply y01|apply y00|apply y02)) hb);clear HO0;clear HO193;clear HB;have HO0:=n0_;have HO193:=n1_;have HB:=n2_;clear n0_ n1_ n2_;(try clear hb);(try clear hb2);(try clear hk);(try clear hi)))
  go_ret2
  exact ⟨_,by first|rfl|(simp [y06,y05]<;>rfl)|(simp [*,y06,y05]<;>rfl),by first|exact Ext.OwnI.nil _ _|exact Kd.N_nil _ _ _ _ _|exact Kd.V_nil _ _ _ _ _|exact Kd.Q_nil _ _ _ _ _|exact Kd.S_nil _ _ _ _ _,by repeat (with_reducible first|exact HB.out|apply y01|apply y00|apply y02)⟩
end Go.Proofs.Ytdhgeondbnpeoaa.P
namespace Go.Proofs.Ytdhgeondbnpeoaa.P
open Go.RowKit Go.Proofs.Yw.Wd Go.Proofs.Yw.La Go.Proofs.Yw.Mo
section
attribute [local go_sem] y0y y0w y17 y16 y0q y0p y0x y0v
mutual
def mobs_choose.j0:Nat->Int->Int->Bool->Option (Int)
 |0,_,_,_=>none
 |k+1,x0,x1,x13=>if x13=true then (some 0) else (mobs_choose.l0 k x0 1 x1 0)
def mobs_choose.l0:Nat->Int->Int->Int->Int->Option (Int)
 |0,_,_,_,_=>none
 |k+1,x0,x5,x14,x15=>if x15<x14 then (if (wrap64 (x15+1))=0 then (none) else (mobs_choose.l0 k x0 (wrap64 (Int.tdiv (wrap64 (x5 * (wrap64 (x0 - x15)))) (wrap64 (x15+1)))) x14 (wrap64 (x15+1)))) else (some x5)
end
def mobs_choose.f (k:Nat) (a0:Int) (a1:Int):Option (Int):=if a1<0 then (mobs_choose.j0 k a0 a1 true) else (mobs_choose.j0 k a0 a1 (decide (a1 > a0)))
theorem mobs_choose.calls (k:Nat) (a0:Int) (a1:Int) (r:Int) (w:World) (h:mobs_choose.f k a0 a1=some r) :
  Calls Tra.prog 47 #[.int .i64 a0,.int .i64 a1] w fun e w'=>e=.returned (.int .i64 r)∧Drawn0 w w':=by
 have H:(if a1<0 then (mobs_choose.j0 k a0 a1 true) else (mobs_choose.j0 k a0 a1 (decide (a1 > a0))))=some r:=h;clear h;have HC3:=As0.mk H;clear H;go_enter Tra.func47,Tra.ntmps47
 go_upto_region 1 with (fail)
 go_cut [13] (fun v13 wc=>∃ (kq:Nat) (x13_2:Bool),v13=.bool x13_2∧As0 (mobs_choose.j0 kq a0 a1 x13_2=some r)∧As0 (kq≤k)∧Drawn0 w wc)
 case first =>
  have H:=HC3.out;clear HC3
  by_cases c4:a1<0
  ·rw [if_pos c4] at H
   have c4b0:decide (a1<0)=true:=zDt c4;clear c4
   (first|rw [c4b0]|(simp only [y0o,y0s];rw [c4b0])|skip)
   have H':=As0.mk H;clear H;go_wp2
   go_meet
   case rel=>exact ⟨_,(true),(by first|rfl|(simp;done)|(simp [*];done)),H',⟨by first|omega|exact zLe _⟩,by repeat (first|exact Drawn0.refl _|apply Drawn0.step)⟩
  ·rw [if_neg c4] at H
   have c4b0:decide (a1<0)=false:=zDf c4;clear c4
   (first|rw [c4b0]|(simp only [y0o,y0s];rw [c4b0])|skip)
   have H':=As0.mk H;clear H;go_wp2
   go_meet
   case rel=>exact ⟨_,(decide (a1 > a0)),(by first|rfl|(simp;done)|(simp [*];done)),H',⟨by first|omega|exact zLe _⟩,by repeat (first|exact Drawn0.refl _|apply Drawn0.step)⟩
 case rest =>
  clear HC3
  try clear p2
  try clear c4
  try clear c4b0
  obtain ⟨kq,x13_2,rfl,HA,HJ2,⟨mc2,rfl⟩⟩:=hcut;cases kq with
  |zero=>exact absurd HA.out (by simp [mobs_choose.j0])
  |succ kj2 =>
   have H:=HA.out;clear HA;simp only [mobs_choose.j0] at H
   by_cases c5:x13_2=true
   ·subst c5
    have H1:(some 0)=some r:=by rw [if_pos rfl] at H;exact H
    clear H;have H:=H1;clear H1;obtain rfl:=zSi H;go_wp2
    go_ret
    exact ⟨by first|rfl|(simp;done)|(simp [*];done),by repeat (first|exact Drawn0.refl _|apply Drawn0.step)⟩
   ·replace c5:=Bool.eq_false_iff.mpr c5
    subst c5;have H1:(mobs_choose.l0 kj2 a0 1 a1 0)=some r:=by rw [if_neg (show ¬ (false=true) by decide)] at H;exact H
    clear H;have H:=H1;clear H1;have H':=As0.mk H;clear H;go_wp2
    go_loopg [5,15] kj2 (fun kq v5 v15 w'=>∃ (x5_2:Int) (x15_2:Int),v5=.int .i64 x5_2∧v15=.int .i64 x15_2∧As0 (mobs_choose.l0 kq a0 x5_2 a1 x15_2=some r)∧As0 (kq≤kj2)∧Drawn0 w w')
    case atStart=>exact ⟨(1),(0),(by first|rfl|(simp;done)|(simp [*];done)),(by first|rfl|(simp;done)|(simp [*];done)),H',⟨zLe _⟩,by repeat (first|exact Drawn0.refl _|apply Drawn0.step)⟩
    case round =>
     clear H'
     try clear c2
     try clear p2
     try clear c4
     try clear c4b0
     try clear c5
     try clear p2
     obtain ⟨x5_2,x15_2,rfl,rfl,HA,HK2,⟨m2,rfl⟩⟩:=hrel;cases gk with
     |zero=>exact absurd HA.out (by simp [mobs_choose.l0])
     |succ k2 =>
      have H:=HA.out;clear HA;simp only [mobs_choose.l0] at H
      by_cases c6:x15_2<a1
      ·rw [if_pos c6] at H
       have c6b0:decide (x15_2<a1)=true:=zDt c6;clear c6
       by_cases c7:(wrap64 (x15_2+1))=0
       ·rw [if_pos c7] at H
        exact absurd H (by simp)
       ·rw [if_neg c7] at H
        have c7b0:((wrap64 (x15_2+1)) == 0)=false:=beq_eq_false_iff_ne.mpr c7;have c7b1:((wrap64 (x15_2+1)) != 0)=true:=bne_iff_ne.mpr c7;have H':=As0.mk H;clear H;go_wp2
        go_roundg k2
        case measure=>have:=HJ2.out;have:=HK2.out;omega
        case rel=>exact ⟨(wrap64 (Int.tdiv (wrap64 (x5_2 * (wrap64 (a0 - x15_2)))) (wrap64 (x15_2+1)))),(wrap64 (x15_2+1)),(by first|rfl|(simp;done)|(simp [*];done)),(by first|rfl|(simp;done)|(simp [*];done)),H',⟨by have:=HJ2.out;have:=HK2.out;omega⟩,by repeat (first|exact Drawn0.refl _|apply Drawn0.step)⟩
      ·rw [if_neg c6] at H
       have c6b0:decide (x15_2<a1)=false:=zDf c6;clear c6;obtain rfl:=zSi H;go_wp2
       go_ret
       exact ⟨by first|rfl|(simp;done)|(simp [*];done),by repeat (first|exact Drawn0.refl _|apply Drawn0.step)⟩
def mobs_Plain.f (k:Nat) (a0:Int) (a1:Int):Option (Int × Int):=(mobs_counted.f a0 a1).bind fun t129=>(if t129=0 then (if a0=0 then (some (1,0)) else ((mobs_choose.f k a0 a1).bind fun t130=>((mobs_choose.f k a0 (wrap64 (a1 - 1))).bind fun t131=>(some (wrap64 (Int.tdiv (wrap64 (t130 * t131)) a0),0))))) else (some (0,t129)))
theorem mobs_Plain.calls (k:Nat) (a0:Int) (a1:Int) (r1:Int) (r2:Int) (w:World) (h:mobs_Plain.f k a0 a1=some (r1,r2)) :
  Calls Tra.prog 18 #[.int .i64 a0,.int .i64 a1] w fun e w'=>e=.returned (.tuple #[.int .i64 r1,.int .i64 r2])∧Drawn0 w w':=by
 have H:((mobs_counted.f a0 a1).bind fun t129=>(if t129=0 then (if a0=0 then (some (1,0)) else ((mobs_choose.f k a0 a1).bind fun t130=>((mobs_choose.f k a0 (wrap64 (a1 - 1))).bind fun t131=>(some (wrap64 (Int.tdiv (wrap64 (t130 * t131)) a0),0))))) else (some (0,t129))))=some (r1,r2):=h;clear h;replace H:=Option.bind_eq_some_iff.mp H;obtain ⟨t129,A30,H⟩:=H;replace H:(if t129=0 then (if a0=0 then (some (1,0)) else ((mobs_choose.f k a0 a1).bind fun t130=>((mobs_choose.f k a0 (wrap64 (a1 - 1))).bind fun t131=>(some (wrap64 (Int.tdiv (wrap64 (t130 * t131)) a0),0))))) else (some (0,t129)))=some (r1,r2):=H;have A3:=As0.mk A30;clear A30
 by_cases c4:t129=0
 ·rw [if_pos c4] at H
  have c4b0:(t129 == 0)=true:=beq_iff_eq.mpr c4;have c4b1:(t129 != 0)=false:=bne_eq_false_iff_eq.mpr c4;clear c4
  by_cases c5:a0=0
  ·rw [if_pos c5] at H
   have c5b0:(a0 == 0)=true:=beq_iff_eq.mpr c5;have c5b1:(a0 != 0)=false:=bne_eq_false_iff_eq.mpr c5;clear c5;simp only [Option.some.injEq,Prod.mk.injEq] at H;obtain ⟨rfl,rfl⟩:=H;go_enter Tra.func18,Tra.ntmps18
   go_wp2_with (first|((with_reducible refine y0d (f:=45) rfl ?_);refine y12 (some 9) rfl rfl Tra.func45 (by kernel_rfl) rfl #[.int .i64 a0,.int .i64 a1] rfl (by (try simp only [List.map_toArray,List.map_cons,List.map_nil]);first|done|rfl|(simp only [List.length_drop,List.length_take];rfl)) ?_;(with_reducible refine (mobs_counted.calls a0 a1 t129 _ A3.out).mono ?_);rintro e w' ⟨rfl,⟨nd,rfl⟩⟩;refine ⟨_,rfl,?_⟩))
   go_ret2
   exact ⟨by first|rfl|(simp;done)|(simp [*];done),by repeat (first|exact Drawn0.refl _|apply Drawn0.step)⟩
  ·rw [if_neg c5] at H
   have c5b0:(a0 == 0)=false:=beq_eq_false_iff_ne.mpr c5;have c5b1:(a0 != 0)=true:=bne_iff_ne.mpr c5;replace H:=Option.bind_eq_some_iff.mp H;obtain ⟨t130,A60,H⟩:=H;replace H:((mobs_choose.f k a0 (wrap64 (a1 - 1))).bind fun t131=>(some (wrap64 (Int.tdiv (wrap64 (t130 * t131)) a0),0)))=some (r1,r2):=H;have A6:=As0.mk A60;clear A60;replace H:=Option.bind_eq_some_iff.mp H;obtain ⟨t131,A70,H⟩:=H;replace H:(some (wrap64 (Int.tdiv (wrap64 (t130 * t131)) a0),0))=some (r1,r2):=H;have A7:=As0.mk A70;clear A70;simp only [Option.some.injEq,Prod.mk.injEq] at H;obtain ⟨rfl,rfl⟩:=H;go_enter Tra.func18,Tra.ntmps18
   go_wp2_with (first|((with_reducible refine y0d (f:=45) rfl ?_);refine y12 (some 9) rfl rfl Tra.func45 (by kernel_rfl) rfl #[.int .i64 a0,.int .i64 a1] rfl (by (try simp only [List.map_toArray,List.map_cons,List.map_nil]);first|done|rfl|(simp only [List.length_drop,List.length_take];rfl)) ?_;(with_reducible refine (mobs_counted.calls a0 a1 t129 _ A3.out).mono ?_);rintro e w' ⟨rfl,⟨nd,rfl⟩⟩;refine ⟨_,rfl,?_⟩)|((with_reducible refine y0d (f:=47) rfl ?_);refine y12 (some 17) rfl rfl Tra.func47 (by kernel_rfl) rfl #[.int .i64 a0,.int .i64 a1] rfl (by (try simp only [List.map_toArray,List.map_cons,List.map_nil]);first|done|rfl|(simp only [List.length_drop,List.length_take];rfl)) ?_;(with_reducible refine (mobs_choose.calls k a0 a1 t130 _ A6.out).mono ?_);rintro e w' ⟨rfl,⟨nd,rfl⟩⟩;refine ⟨_,rfl,?_⟩)|((with_reducible refine y0d (f:=47) rfl ?_);refine y12 (some 21) rfl rfl Tra.func47 (by kernel_rfl) rfl #[.int .i64 a0,.int .i64 (wrap64 (a1 - 1))] rfl (by (try simp only [List.map_toArray,List.map_cons,List.map_nil]);first|done|rfl|(simp only [List.length_drop,List.length_take];rfl)) ?_;(with_reducible refine (mobs_choose.calls k a0 (wrap64 (a1 - 1)) t131 _ A7.out).mono ?_);rintro e w' ⟨rfl,⟨nd,rfl⟩⟩;refine ⟨_,rfl,?_⟩))
   go_ret2
   exact ⟨by first|rfl|(simp;done)|(simp [*];done),by repeat (first|exact Drawn0.refl _|apply Drawn0.step)⟩
 ·rw [if_neg c4] at H
  have c4b0:(t129 == 0)=false:=beq_eq_false_iff_ne.mpr c4;have c4b1:(t129 != 0)=true:=bne_iff_ne.mpr c4;simp only [Option.some.injEq,Prod.mk.injEq] at H;obtain ⟨rfl,rfl⟩:=H;go_enter Tra.func18,Tra.ntmps18
  go_wp2_with (first|((with_reducible refine y0d (f:=45) rfl ?_);refine y12 (some 9) rfl rfl Tra.func45 (by kernel_rfl) rfl #[.int .i64 a0,.int .i64 a1] rfl (by (try simp only [List.map_toArray,List.map_cons,List.map_nil]);first|done|rfl|(simp only [List.length_drop,List.length_take];rfl)) ?_;(with_reducible refine (mobs_counted.calls a0 a1 t129 _ A3.out).mono ?_);rintro e w' ⟨rfl,⟨nd,rfl⟩⟩;refine ⟨_,rfl,?_⟩))
  go_ret2
  exact ⟨by first|rfl|(simp;done)|(simp [*];done),by repeat (first|exact Drawn0.refl _|apply Drawn0.step)⟩
end
section
attribute [local go_sem] y0y y0w y17 y16 y0q y0p y0x y0v
def w6_same.l0:Nat->List Int->List Int->Int->Option (Bool)
 |0,_,_,_=>none
 |k+1,x0,x1,x5=>if x5<(x0.length:Int) then (if 0≤x5 then (if x5<(x1.length:Int) then (if (rd x0 x5)=(rd x1 x5) then (w6_same.l0 k x0 x1 (wrap64 (x5+1))) else (some false)) else (none)) else (none)) else (some true)
def w6_same.f (k:Nat) (l0:List Int) (l1:List Int):Option (Bool):=if (l0.length:Int)=(l1.length:Int) then (w6_same.l0 k l0 l1 0) else (some false)
theorem w6_same.calls (k:Nat) (A0:Option Addr) (c0:Nat) (l0:List Int) (A1:Option Addr) (c1:Nat) (l1:List Int) (r:Bool) (w:World) (hr0:Kd.C (Kd.int .i64) w A0 l0.length l0) (hc0:l0.length≤c0) (hr1:Kd.C (Kd.int .i64) w A1 l1.length l1) (hc1:l1.length≤c1) (h:w6_same.f k l0 l1=some r) :
  Calls Tra.prog 27 #[.slice A0 l0.length c0,.slice A1 l1.length c1] w fun e w'=>e=.returned (.bool r)∧Drawn0 w w':=by
 have HR0:=As0.mk hr0;have HC0:=As0.mk hc0;clear hr0 hc0;have HR1:=As0.mk hr1;have HC1:=As0.mk hc1;clear hr1 hc1;have H:(if (l0.length:Int)=(l1.length:Int) then (w6_same.l0 k l0 l1 0) else (some false))=some r:=h;clear h
 by_cases c3:(l0.length:Int)=(l1.length:Int)
 ·rw [if_pos c3] at H
  have c3b0:((l0.length:Int) == (l1.length:Int))=true:=beq_iff_eq.mpr c3;have c3b1:((l0.length:Int) != (l1.length:Int))=false:=bne_eq_false_iff_eq.mpr c3;have c3b2:(l0.length == l1.length)=true:=by first|simpa using c3|(simp at c3 ⊢;omega)
  clear c3;have H':=As0.mk H;clear H;go_enter Tra.func27,Tra.ntmps27
  go_wp2
  repeat (go_quiet (fail);try go_wp2)
  go_loopg [5] k (fun kq v5 w'=>∃ (x5_1:Int),v5=.int .i64 x5_1∧As0 (w6_same.l0 kq l0 l1 x5_1=some r)∧As0 (kq≤k)∧Drawn0 w w')
  case atStart=>exact ⟨(0),(by first|rfl|(simp;done)|(simp [*];done)),H',⟨zLe _⟩,by repeat (first|exact Drawn0.refl _|apply Drawn0.step)⟩
  case round =>
   clear H'
   try clear c1
   try clear c2
   try clear p2
   try clear c3
   try clear c3b0
   try clear c3b1
   try clear c3b2
   obtain ⟨x5_1,rfl,HA,HK1,⟨m1,rfl⟩⟩:=hrel;cases gk with
   |zero=>exact absurd HA.out (by simp [w6_same.l0])
   |succ k1 =>
    have H:=HA.out;clear HA;simp only [w6_same.l0] at H
    by_cases c4:x5_1<(l0.length:Int)
    ·rw [if_pos c4] at H
     have c4b0:decide (x5_1<(l0.length:Int))=true:=zDt c4;clear c4
     by_cases c5:0≤x5_1
     ·rw [if_pos c5] at H
      have c5b0:decide (0≤x5_1)=true:=zDt c5;clear c5
      by_cases c6:x5_1<(l1.length:Int)
      ·rw [if_pos c6] at H
       have c6b0:decide (x5_1<(l1.length:Int))=true:=zDt c6;clear c6
       by_cases c7:(rd l0 x5_1)=(rd l1 x5_1)
       ·rw [if_pos c7] at H
        have c7b0:((rd l0 x5_1) == (rd l1 x5_1))=true:=beq_iff_eq.mpr c7;have c7b1:((rd l0 x5_1) != (rd l1 x5_1))=false:=bne_eq_false_iff_eq.mpr c7;clear c7;have H':=As0.mk H;clear H;have p208:0≤(x5_1:Int):=zDo (by with_reducible assumption);have q208:x5_1<(l0.length:Int):=zDo (by with_reducible assumption);obtain ⟨ad208,e208,hx208_0⟩:=Kd.at_int HR0.out x5_1 p208 q208;cases e208
        replace p208:=eq_true p208;replace q208:=eq_true q208;have p209:0≤(x5_1:Int):=zDo (by with_reducible assumption);have q209:x5_1<(l1.length:Int):=zDo (by with_reducible assumption);obtain ⟨ad209,e209,hx209_0⟩:=Kd.at_int HR1.out x5_1 p209 q209;cases e209
        replace p209:=eq_true p209;replace q209:=eq_true q209;go_wp2
        repeat (go_quiet (fail);try go_wp2)
        go_roundg k1
        case measure=>have:=HK1.out;omega
        case rel=>exact ⟨(wrap64 (x5_1+1)),(by first|rfl|(simp;done)|(simp [*];done)),H',⟨by have:=HK1.out;omega⟩,by repeat (first|exact Drawn0.refl _|apply Drawn0.step)⟩
       ·rw [if_neg c7] at H
        have c7b0:((rd l0 x5_1) == (rd l1 x5_1))=false:=beq_eq_false_iff_ne.mpr c7;have c7b1:((rd l0 x5_1) != (rd l1 x5_1))=true:=bne_iff_ne.mpr c7;obtain rfl:=zSi H;have p208:0≤(x5_1:Int):=zDo (by with_reducible assumption);have q208:x5_1<(l0.length:Int):=zDo (by with_reducible assumption);obtain ⟨ad208,e208,hx208_0⟩:=Kd.at_int HR0.out x5_1 p208 q208;cases e208
        replace p208:=eq_true p208;replace q208:=eq_true q208;have p209:0≤(x5_1:Int):=zDo (by with_reducible assumption);have q209:x5_1<(l1.length:Int):=zDo (by with_reducible assumption);obtain ⟨ad209,e209,hx209_0⟩:=Kd.at_int HR1.out x5_1 p209 q209;cases e209
        replace p209:=eq_true p209;replace q209:=eq_true q209;go_wp2
        repeat (go_quiet (fail);try go_wp2)
        go_ret
        exact ⟨by first|rfl|(simp;done)|(simp [*];done),by repeat (first|exact Drawn0.refl _|apply Drawn0.step)⟩
      ·rw [if_neg c6] at H
       exact absurd H (by simp)
     ·rw [if_neg c5] at H
      exact absurd H (by simp)
    ·rw [if_neg c4] at H
     have c4b0:decide (x5_1<(l0.length:Int))=false:=zDf c4;clear c4;obtain rfl:=zSi H;go_wp2
     repeat (go_quiet (fail);try go_wp2)
     go_ret
     exact ⟨by first|rfl|(simp;done)|(simp [*];done),by repeat (first|exact Drawn0.refl _|apply Drawn0.step)⟩
 ·rw [if_neg c3] at H
  have c3b0:((l0.length:Int) == (l1.length:Int))=false:=beq_eq_false_iff_ne.mpr c3;have c3b1:((l0.length:Int) != (l1.length:Int))=true:=bne_iff_ne.mpr c3;have c3b2:(l0.length == l1.length)=false:=by first|simpa using c3|(simp at c3 ⊢;omega)
  obtain rfl:=zSi H;go_enter Tra.func27,Tra.ntmps27
  go_wp2
  repeat (go_quiet (fail);try go_wp2)
  go_ret
  exact ⟨by first|rfl|(simp;done)|(simp [*];done),by repeat (first|exact Drawn0.refl _|apply Drawn0.step)⟩
theorem w6_same.nocap (k:Nat) (A0:Option Addr) (c0:Nat) (l0:List Int) (A1:Option Addr) (c1:Nat) (l1:List Int) (r:Bool) (w:World) (hr0:Kd.C (Kd.int .i64) w A0 l0.length l0) (hr1:Kd.C (Kd.int .i64) w A1 l1.length l1) (h:w6_same.f k l0 l1=some r) :
  Calls Tra.prog 27 #[.slice A0 l0.length c0,.slice A1 l1.length c1] w fun e w'=>e=.returned (.bool r)∧Drawn0 w w':=by
 have HR0:=As0.mk hr0;clear hr0;have HR1:=As0.mk hr1;clear hr1;have H:(if (l0.length:Int)=(l1.length:Int) then (w6_same.l0 k l0 l1 0) else (some false))=some r:=h;clear h
 by_cases c3:(l0.length:Int)=(l1.length:Int)
 ·rw [if_pos c3] at H
  have c3b0:((l0.length:Int) == (l1.length:Int))=true:=beq_iff_eq.mpr c3;have c3b1:((l0.length:Int) != (l1.length:Int))=false:=bne_eq_false_iff_eq.mpr c3;have c3b2:(l0.length == l1.length)=true:=by first|simpa using c3|(simp at c3 ⊢;omega)
  clear c3;have H':=As0.mk H;clear H;go_enter Tra.func27,Tra.ntmps27
  go_wp2
  repeat (go_quiet (fail);try go_wp2)
  go_loopg [5] k (fun kq v5 w'=>∃ (x5_1:Int),v5=.int .i64 x5_1∧As0 (w6_same.l0 kq l0 l1 x5_1=some r)∧As0 (kq≤k)∧Drawn0 w w')
  case atStart=>exact ⟨(0),(by first|rfl|(simp;done)|(simp [*];done)),H',⟨zLe _⟩,by repeat (first|exact Drawn0.refl _|apply Drawn0.step)⟩
  case round =>
   clear H'
   try clear c1
   try clear c2
   try clear p2
   try clear c3
   try clear c3b0
   try clear c3b1
   try clear c3b2
   obtain ⟨x5_1,rfl,HA,HK1,⟨m1,rfl⟩⟩:=hrel;cases gk with
   |zero=>exact absurd HA.out (by simp [w6_same.l0])
   |succ k1 =>
    have H:=HA.out;clear HA;simp only [w6_same.l0] at H
    by_cases c4:x5_1<(l0.length:Int)
    ·rw [if_pos c4] at H
     have c4b0:decide (x5_1<(l0.length:Int))=true:=zDt c4;clear c4
     by_cases c5:0≤x5_1
     ·rw [if_pos c5] at H
      have c5b0:decide (0≤x5_1)=true:=zDt c5;clear c5
      by_cases c6:x5_1<(l1.length:Int)
      ·rw [if_pos c6] at H
       have c6b0:decide (x5_1<(l1.length:Int))=true:=zDt c6;clear c6
       by_cases c7:(rd l0 x5_1)=(rd l1 x5_1)
       ·rw [if_pos c7] at H
        have c7b0:((rd l0 x5_1) == (rd l1 x5_1))=true:=beq_iff_eq.mpr c7;have c7b1:((rd l0 x5_1) != (rd l1 x5_1))=false:=bne_eq_false_iff_eq.mpr c7;clear c7;have H':=As0.mk H;clear H;have p208:0≤(x5_1:Int):=zDo (by with_reducible assumption);have q208:x5_1<(l0.length:Int):=zDo (by with_reducible assumption);obtain ⟨ad208,e208,hx208_0⟩:=Kd.at_int HR0.out x5_1 p208 q208;cases e208
        replace p208:=eq_true p208;replace q208:=eq_true q208;have p209:0≤(x5_1:Int):=zDo (by with_reducible assumption);have q209:x5_1<(l1.length:Int):=zDo (by with_reducible assumption);obtain ⟨ad209,e209,hx209_0⟩:=Kd.at_int HR1.out x5_1 p209 q209;cases e209
        replace p209:=eq_true p209;replace q209:=eq_true q209;go_wp2
        repeat (go_quiet (fail);try go_wp2)
        go_roundg k1
        case measure=>have:=HK1.out;omega
        case rel=>exact ⟨(wrap64 (x5_1+1)),(by first|rfl|(simp;done)|(simp [*];done)),H',⟨by have:=HK1.out;omega⟩,by repeat (first|exact Drawn0.refl _|apply Drawn0.step)⟩
       ·rw [if_neg c7] at H
        have c7b0:((rd l0 x5_1) == (rd l1 x5_1))=false:=beq_eq_false_iff_ne.mpr c7;have c7b1:((rd l0 x5_1) != (rd l1 x5_1))=true:=bne_iff_ne.mpr c7;obtain rfl:=zSi H;have p208:0≤(x5_1:Int):=zDo (by with_reducible assumption);have q208:x5_1<(l0.length:Int):=zDo (by with_reducible assumption);obtain ⟨ad208,e208,hx208_0⟩:=Kd.at_int HR0.out x5_1 p208 q208;cases e208
        replace p208:=eq_true p208;replace q208:=eq_true q208;have p209:0≤(x5_1:Int):=zDo (by with_reducible assumption);have q209:x5_1<(l1.length:Int):=zDo (by with_reducible assumption);obtain ⟨ad209,e209,hx209_0⟩:=Kd.at_int HR1.out x5_1 p209 q209;cases e209
        replace p209:=eq_true p209;replace q209:=eq_true q209;go_wp2
        repeat (go_quiet (fail);try go_wp2)
        go_ret
        exact ⟨by first|rfl|(simp;done)|(simp [*];done),by repeat (first|exact Drawn0.refl _|apply Drawn0.step)⟩
      ·rw [if_neg c6] at H
       exact absurd H (by simp)
     ·rw [if_neg c5] at H
      exact absurd H (by simp)
    ·rw [if_neg c4] at H
     have c4b0:decide (x5_1<(l0.length:Int))=false:=zDf c4;clear c4;obtain rfl:=zSi H;go_wp2
     repeat (go_quiet (fail);try go_wp2)
     go_ret
     exact ⟨by first|rfl|(simp;done)|(simp [*];done),by repeat (first|exact Drawn0.refl _|apply Drawn0.step)⟩
 ·rw [if_neg c3] at H
  have c3b0:((l0.length:Int) == (l1.length:Int))=false:=beq_eq_false_iff_ne.mpr c3;have c3b1:((l0.length:Int) != (l1.length:Int))=true:=bne_iff_ne.mpr c3;have c3b2:(l0.length == l1.length)=false:=by first|simpa using c3|(simp at c3 ⊢;omega)
  obtain rfl:=zSi H;go_enter Tra.func27,Tra.ntmps27
  go_wp2
  repeat (go_quiet (fail);try go_wp2)
  go_ret
  exact ⟨by first|rfl|(simp;done)|(simp [*];done),by repeat (first|exact Drawn0.refl _|apply Drawn0.step)⟩
mutual
def mobs_ways.l0:Nat->Int->Int->List Int->Int->Int->Option (Int)
 |0,_,_,_,_,_=>none
 |k+1,x0,x1,x5,x15,x16=>if x16<x15 then (if 0≤x16 then (if x16<(x5.length:Int) then (mobs_ways.l0 k x0 x1 (x5.set (x16:Int).toNat 1) x15 (wrap64 (x16+1))) else (none)) else (none)) else (mobs_ways.l1 k x0 x1 x5 x0 0)
def mobs_ways.l1:Nat->Int->Int->List Int->Int->Int->Option (Int)
 |0,_,_,_,_,_=>none
 |k+1,x0,x1,x5,x23,x24=>if x24<x23 then (mobs_ways.l2 k x0 x1 x5 x23 x24 (wrap64 ((wrap64 (x0+x1)) - x24)) 0) else (if 0≤x1 then (if x1<(x5.length:Int) then (some (rd x5 x1)) else (none)) else (none))
def mobs_ways.l2:Nat->Int->Int->List Int->Int->Int->Int->Int->Option (Int)
 |0,_,_,_,_,_,_,_=>none
 |k+1,x0,x1,x5,x23,x24,x31,x32=>if x32<x31 then (if 0≤x32 then (if x32<(x5.length:Int) then (if 0≤(wrap64 (x32+1)) then (if (wrap64 (x32+1))<(x5.length:Int) then (mobs_ways.l2 k x0 x1 (x5.set (x32:Int).toNat (wrap64 ((wrap64 (x32 * (rd x5 x32)))+(rd x5 (wrap64 (x32+1)))))) x23 x24 x31 (wrap64 (x32+1))) else (none)) else (none)) else (none)) else (none)) else (mobs_ways.l1 k x0 x1 x5 x23 (wrap64 (x24+1)))
end
def mobs_ways.f (k:Nat) (a0:Int) (a1:Int):Option (Int):=if 0≤(wrap64 ((wrap64 (a0+a1))+1)) then (if (wrap64 ((wrap64 (a0+a1))+1):Int).toNat≤35184372088832 then ((some (List.replicate (wrap64 ((wrap64 (a0+a1))+1):Int).toNat 0:List Int)).bind fun y210=>(mobs_ways.l0 k a0 a1 y210 (y210.length:Int) 0)) else (none)) else (none)
def mobs_ways.T13:Bool × List (List Nat × List Nat):=(true,[([],[]),([],[]),([],[]),([],[]),([],[]),([3,4],[3,4]),([5],[5]),([2,6],[2,6]),([],[]),([],[]),([9],[9]),([8,10],[8,10]),([11],[11]),([7,12],[7,12]),([0,1,0,1,2,3,4,5,6,7,8,9,10,11,12,13],[0,1]),([14,13,0,1,2,3,4,5,6,7,8,9,10,11,12,13],[13,14])])
def mobs_ways.B13:List Nat:=[0,0,0,0,0,24,56,124,0,0,512,1792,3840,8188,16383,32767]
theorem mobs_ways.tab13:rtab .any (yh9 Tra.f67 13)=mobs_ways.T13:=by kernel_rfl
theorem mobs_ways.bits13:y37 mobs_ways.T13.2 mobs_ways.B13=true:=by kernel_rfl
theorem mobs_ways.calls (k:Nat) (a0:Int) (a1:Int) (r:Int) (w:World) (h:mobs_ways.f k a0 a1=some r) :
  Calls Tra.prog 67 #[.int .i64 a0,.int .i64 a1] w fun e w'=>e=.returned (.int .i64 r)∧Below w.heap.size w w':=by
 have HB:=As0.mk (Below.refl w.heap.size w);have H:(if 0≤(wrap64 ((wrap64 (a0+a1))+1)) then (if (wrap64 ((wrap64 (a0+a1))+1):Int).toNat≤35184372088832 then ((some (List.replicate (wrap64 ((wrap64 (a0+a1))+1):Int).toNat 0:List Int)).bind fun y210=>(mobs_ways.l0 k a0 a1 y210 (y210.length:Int) 0)) else (none)) else (none))=some r:=h;clear h;obtain ⟨ji3,hji3⟩:∃ j_:Int,(wrap64 ((wrap64 (a0+a1))+1))=j_:=⟨_,rfl⟩
 replace H:(if 0≤(ji3) then (if (ji3:Int).toNat≤35184372088832 then ((some (List.replicate (ji3:Int).toNat 0:List Int)).bind fun y210=>(mobs_ways.l0 k a0 a1 y210 (y210.length:Int) 0)) else (none)) else (none))=some r:=by first|(rw [hji3] at H;exact H)|(simp only [hji3] at H ⊢;exact H)
 have hji3w:(IntKind.i64.wrap ((wrap64 (a0+a1))+1))=ji3:=(y0o _).trans hji3
 by_cases c4:0≤(ji3)
 ·rw [if_pos c4] at H
  have c4b0:=eq_true c4;have c4b1:decide (0≤(ji3))=true:=zDt c4;clear c4
  by_cases c5:(ji3:Int).toNat≤35184372088832
  ·rw [if_pos c5] at H
   have c5b0:=eq_true c5;have c5b1:decide ((ji3:Int).toNat≤35184372088832)=true:=zDt c5;clear c5;obtain ⟨y210,hy210⟩:∃ y_:List Int,y_=(List.replicate (ji3:Int).toNat 0):=⟨_,rfl⟩
   replace H:(mobs_ways.l0 k a0 a1 y210 (y210.length:Int) 0)=some r:=by first|(rw [hy210];with_reducible exact H)|(have H2_:=(Option.bind_some _ _).symm.trans H;rw [hy210];with_reducible exact H2_)|(have H2_:=(Option.bind_some _ _).symm.trans H;with_reducible exact H2_)|with_reducible exact H|(rw [hy210];exact H)|exact H
   have Ny210:=As0.mk hy210;clear hy210;have H':=As0.mk H;clear H;go_enter Tra.func67,Tra.ntmps67
   go_wp2_with (first|((with_reducible refine y0n (N:=13) rfl ?_);refine Kd.R_make (Kd.int .i64) _ 3 rfl (N:=13) rfl 29 _ _ rfl ji3 rfl rfl Tra.underlying29 (.int .i64 0) 8 info3 rfl (by decide) (by omega) 0 (ok:=fun _=>True) (okp:=fun _=>True) rfl (fun _ hk=>hk) trivial (zDo (by with_reducible assumption)) (Nat.le_trans (Nat.mul_le_mul_right _ (zDo (by with_reducible assumption):ji3.toNat≤35184372088832)) (by omega)) (Below.refl _ _) (zLe _) ?_;intro v211 w6 ho7 hb hg_ hnew_;clear hg_ hnew_;(first|rw [← Ny210.out] at ho7|(simp only [Int.reduceToNat] at ho7;rw [← Ny210.out] at ho7));have n0_:=As0.mk (Kd.R_lower ho7 (y04 (by repeat (with_reducible first|exact HB.out|apply y01|apply y00|apply y02))));have n1_:=As0.mk (y03 (by repeat (with_reducible first|exact HB.out|apply y01|apply y00|apply y02)) hb);clear HB;have HO212:=n0_;have HB:=n1_;clear n0_ n1_;clear hb ho7;obtain ⟨Ao8,co8,eo8⟩:=Kd.R_slice HO212.out;subst eo8))
   go_loopg [16] k (fun kq v16 w'=>∃ (x5_1:List Int) (x16_1:Int),v16=.int .i64 x16_1∧As0 (mobs_ways.l0 kq a0 a1 x5_1 (y210.length:Int) x16_1=some r)∧As0 (kq≤k)∧As0 (Kd.R (Kd.int .i64) 3 w' w.heap.size (fun _=>True) (.slice Ao8 y210.length co8) x5_1)∧As0 (Below w.heap.size w w'))
   case atStart=>exact ⟨(y210),(0),(by first|rfl|(simp;done)|(simp [*];done)),H',⟨zLe _⟩,⟨by (with_reducible repeat (first|apply Kd.R_alloc|apply Kd.R_drewN|apply Kd.R_drew));exact HO212.out⟩,⟨by repeat (with_reducible first|exact HB.out|apply y01|apply y00|apply y02)⟩⟩
   case round =>
    clear H'
    try clear p2
    try clear c4
    try clear c4b0
    try clear c4b1
    try clear c5
    try clear c5b0
    try clear c5b1
    try clear c6
    try clear p6
    obtain ⟨x5_1,x16_1,rfl,HA,HK1,HO_5,HB⟩:=hrel;have hl5_1:=(Kd.R_reads' HO_5.out).1;rw [hl5_1] at HO_5
    (try simp only [hl5_1])
    cases gk with
    |zero=>exact absurd HA.out (by simp [mobs_ways.l0])
    |succ k1 =>
     have H:=HA.out;clear HA;simp only [mobs_ways.l0] at H
     by_cases c9:x16_1<(y210.length:Int)
     ·rw [if_pos c9] at H
      have c9b0:decide (x16_1<(y210.length:Int))=true:=zDt c9;clear c9
      by_cases c10:0≤x16_1
      ·rw [if_pos c10] at H
       have c10b0:decide (0≤x16_1)=true:=zDt c10;clear c10
       by_cases c11:x16_1<(x5_1.length:Int)
       ·rw [if_pos c11] at H
        have c11b0:decide (x16_1<(x5_1.length:Int))=true:=zDt c11;clear c11;obtain ⟨y213,hy213⟩:∃ y_:List Int,y_=(x5_1.set (x16_1:Int).toNat 1):=⟨_,rfl⟩
        replace H:(mobs_ways.l0 k1 a0 a1 y213 (y210.length:Int) (wrap64 (x16_1+1)))=some r:=by first|(rw [hy213];with_reducible exact H)|(have H2_:=(Option.bind_some _ _).symm.trans H;rw [hy213];with_reducible exact H2_)|(have H2_:=(Option.bind_some _ _).symm.trans H;with_reducible exact H2_)|with_reducible exact H|(rw [hy213];exact H)|exact H
        have Ny213:=As0.mk hy213;clear hy213;have H':=As0.mk H;clear H;have p12:0≤(x16_1:Int):=zDo (by with_reducible assumption);have q12:(x16_1:Int)<((x5_1.length:Int):Int):=zDo (by with_reducible assumption);obtain ⟨go12,co12,eo12,gb12,gl12,cl12,HG12⟩:=Kd.R_form HO_5.out (by omega)
        (first|cases eo12|(injection eo12 with ea_ en_ ec_;(first|subst ea_|(injection ea_ with ea_;subst ea_));subst ec_;clear en_))
        have GB12:=As0.mk gb12;have GG12:=As0.mk HG12;clear gb12 gl12 HG12;obtain ⟨hx12_0,hf12_0⟩:=Kd.R_celln 0 HO_5.out (x16_1:Int) p12 q12;replace p12:=eq_true p12;replace q12:=eq_true q12;have HP13:=Kd.R_putg HO_5.out (x16_1:Int) 1;go_wp2_with (first|((with_reducible refine y20 (t:=3) (p:=21) rfl ?_);refine y1l (t:=3) (p:=21) (v:=?vo_w14) (w1:=(wr.setCell ⟨go12,(x16_1:Int).toNat,none⟩ (.int .i64 1))) ?hg ?ho ?hn ?hr ?_;(case ho=>rfl);(case hg=>rfl);(case hn=>rfl);(case hr=>first|(go_simp;done)|(go_simp;rfl));intro w14 hw;have hg:wr.grownBy w14 (some go12):=(by rw [hw];exact HP13.2);have hp_:Kd.R (Kd.int .i64) 3 w14 w.heap.size (fun _=>True) (.slice (some ⟨go12,0,none⟩) x5_1.length co8) y213:=(by rw [hw,Ny213.out];exact HP13.1);clear HP13;have n0_:=As0.mk (hp_);have n1_:=As0.mk ((by rw [hw];exact y0c (HB.out) GB12.out:Below w.heap.size w w14));clear HO_5;clear HB;have HO_5:=n0_;have HB:=n1_;clear n0_ n1_;clear hg hw hp_))
        (try simp only [← hl5_1])
        go_roundg k1
        case measure=>have:=HK1.out;omega
        case rel=>exact ⟨(y213),(wrap64 (x16_1+1)),(by first|rfl|(simp;done)|(simp [*];done)),H',⟨by have:=HK1.out;omega⟩,⟨by (try simp only [hl5_1]);(with_reducible repeat (first|apply Kd.R_alloc|apply Kd.R_drewN|apply Kd.R_drew));exact HO_5.out⟩,⟨by repeat (with_reducible first|exact HB.out|apply y01|apply y00|apply y02)⟩⟩
       ·rw [if_neg c11] at H
        exact absurd H (by simp)
      ·rw [if_neg c10] at H
       exact absurd H (by simp)
     ·rw [if_neg c9] at H
      have c9b0:decide (x16_1<(y210.length:Int))=false:=zDf c9
      try (have c9b0_:=c9b0;simp only [hl5_1] at c9b0_)
      clear c9;have H':=As0.mk H;clear H;go_wp2
      go_loopg [24] k1 (fun kq v24 w'=>∃ (x5_2:List Int) (x24_2:Int),v24=.int .i64 x24_2∧As0 (mobs_ways.l1 kq a0 a1 x5_2 a0 x24_2=some r)∧As0 (kq≤k1)∧As0 (Kd.R (Kd.int .i64) 3 w' w.heap.size (fun _=>True) (.slice Ao8 x5_1.length co8) x5_2)∧As0 (Below w.heap.size w w'))
      case atStart=>exact ⟨(x5_1),(0),(by first|rfl|(simp;done)|(simp [*];done)),H',⟨zLe _⟩,⟨by (try simp only [hl5_1]);(with_reducible repeat (first|apply Kd.R_alloc|apply Kd.R_drewN|apply Kd.R_drew));exact HO_5.out⟩,⟨by repeat (with_reducible first|exact HB.out|apply y01|apply y00|apply y02)⟩⟩
      case round =>
       clear H'
       try clear c1
       try clear p1
       try clear q1
       try clear hx1
       try clear p2
       try clear c4
       try clear c4b0
       try clear c4b1
       try clear c5
       try clear c5b0
       try clear c5b1
       try clear c6
       try clear p6
       try clear c9
       try clear c9b0
       try clear c10
       try clear c10b0
       try clear c11
       try clear c11b0
       try clear p12
       try clear q12
       try clear hx12
       try clear hf12
       try clear hx12_0
       try clear p12
       try clear p2
       try clear p6
       try clear q12
       obtain ⟨x5_2,x24_2,rfl,HA,HK2,HO_5,HB⟩:=hrel;have hl5_2:=(Kd.R_reads' HO_5.out).1;rw [hl5_2] at HO_5
       (try simp only [hl5_2])
       cases gk with
       |zero=>exact absurd HA.out (by simp [mobs_ways.l1])
       |succ k2 =>
        have H:=HA.out;clear HA;simp only [mobs_ways.l1] at H
        by_cases c15:x24_2<a0
        ·rw [if_pos c15] at H
         have c15b0:decide (x24_2<a0)=true:=zDt c15;clear c15;have H':=As0.mk H;clear H;go_wp2
         go_loopg [32] k2 (fun kq v32 w'=>∃ (x5_3:List Int) (x32_3:Int),v32=.int .i64 x32_3∧As0 (mobs_ways.l2 kq a0 a1 x5_3 a0 x24_2 (wrap64 ((wrap64 (a0+a1)) - x24_2)) x32_3=some r)∧As0 (kq≤k2)∧As0 (Kd.R (Kd.int .i64) 3 w' w.heap.size (fun _=>True) (.slice Ao8 x5_2.length co8) x5_3)∧As0 (Below w.heap.size w w'))
         case atStart=>exact ⟨(x5_2),(0),(by first|rfl|(simp;done)|(simp [*];done)),H',⟨zLe _⟩,⟨by (try simp only [hl5_1]);(try simp only [hl5_2]);(with_reducible repeat (first|apply Kd.R_alloc|apply Kd.R_drewN|apply Kd.R_drew));exact HO_5.out⟩,⟨by repeat (with_reducible first|exact HB.out|apply y01|apply y00|apply y02)⟩⟩
         case round =>
          clear H'
          try clear c1
          try clear p1
          try clear q1
          try clear hx1
          try clear p2
          try clear c4
          try clear c4b0
          try clear c4b1
          try clear c5
          try clear c5b0
          try clear c5b1
          try clear c6
          try clear p6
          try clear c9
          try clear c9b0
          try clear c10
          try clear c10b0
          try clear c11
          try clear c11b0
          try clear p12
          try clear q12
          try clear hx12
          try clear hf12
          try clear c15
          try clear c15b0
          try clear hx12_0
          try clear p1
          try clear p12
          try clear p2
          try clear p6
          try clear q1
          try clear q12
          obtain ⟨x5_3,x32_3,rfl,HA,HK3,HO_5,HB⟩:=hrel;have hl5_3:=(Kd.R_reads' HO_5.out).1;rw [hl5_3] at HO_5
          (try simp only [hl5_3])
          cases gk with
          |zero=>exact absurd HA.out (by simp [mobs_ways.l2])
          |succ k3 =>
           have H:=HA.out;clear HA;simp only [mobs_ways.l2] at H
           by_cases c16:x32_3<(wrap64 ((wrap64 (a0+a1)) - x24_2))
           ·rw [if_pos c16] at H
            have c16b0:decide (x32_3<(wrap64 ((wrap64 (a0+a1)) - x24_2)))=true:=zDt c16;clear c16
            by_cases c17:0≤x32_3
            ·rw [if_pos c17] at H
             have c17b0:decide (0≤x32_3)=true:=zDt c17;clear c17
             by_cases c18:x32_3<(x5_3.length:Int)
             ·rw [if_pos c18] at H
              have c18b0:decide (x32_3<(x5_3.length:Int))=true:=zDt c18;clear c18;obtain ⟨ji19,hji19⟩:∃ j_:Int,(wrap64 (x32_3+1))=j_:=⟨_,rfl⟩
              replace H:(if 0≤(ji19) then (if (ji19)<(x5_3.length:Int) then (mobs_ways.l2 k3 a0 a1 (x5_3.set (x32_3:Int).toNat (wrap64 ((wrap64 (x32_3 * (rd x5_3 x32_3)))+(rd x5_3 (ji19))))) a0 x24_2 (wrap64 ((wrap64 (a0+a1)) - x24_2)) ji19) else (none)) else (none))=some r:=by first|(rw [hji19] at H;exact H)|(simp only [hji19] at H ⊢;exact H)
              have hji19w:(IntKind.i64.wrap (x32_3+1))=ji19:=(y0o _).trans hji19
              by_cases c20:0≤(ji19)
              ·rw [if_pos c20] at H
               have c20b0:decide (0≤(ji19))=true:=zDt c20;clear c20
               by_cases c21:(ji19)<(x5_3.length:Int)
               ·rw [if_pos c21] at H
                have c21b0:decide ((ji19)<(x5_3.length:Int))=true:=zDt c21;clear c21;obtain ⟨y217,hy217⟩:∃ y_:List Int,y_=(x5_3.set (x32_3:Int).toNat (wrap64 ((wrap64 (x32_3 * (rd x5_3 x32_3)))+(rd x5_3 (ji19))))):=⟨_,rfl⟩
                replace H:(mobs_ways.l2 k3 a0 a1 y217 a0 x24_2 (wrap64 ((wrap64 (a0+a1)) - x24_2)) ji19)=some r:=by first|(rw [hy217];with_reducible exact H)|(have H2_:=(Option.bind_some _ _).symm.trans H;rw [hy217];with_reducible exact H2_)|(have H2_:=(Option.bind_some _ _).symm.trans H;with_reducible exact H2_)|with_reducible exact H|(rw [hy217];exact H)|exact H
                have Ny217:=As0.mk hy217;clear hy217;have H':=As0.mk H;clear H
                try go_wp2
                have n0_:=As0.mk (Kd.R_drew HO_5.out);have n1_:=As0.mk (y02 HB.out);clear HO_5;clear HB;have HO_5:=n0_;have HB:=n1_;clear n0_ n1_;have p215:0≤(x32_3:Int):=zDo (by with_reducible assumption);have q215:x32_3<(x5_3.length:Int):=zDo (by with_reducible assumption);obtain ⟨ad215,e215,hx215_0⟩:=Kd.at_int (Kd.R_reads' HO_5.out).2.2 x32_3 p215 q215;cases e215
                replace p215:=eq_true p215;replace q215:=eq_true q215;have p216:0≤((ji19):Int):=zDo (by with_reducible assumption);have q216:(ji19)<(x5_3.length:Int):=zDo (by with_reducible assumption);obtain ⟨ad216,e216,hx216_0⟩:=Kd.at_int (Kd.R_reads' HO_5.out).2.2 (ji19) p216 q216;obtain rfl:ad215=ad216:=(by injection e216)
                replace p216:=eq_true p216;replace q216:=eq_true q216;have p22:0≤(x32_3:Int):=zDo (by with_reducible assumption);have q22:(x32_3:Int)<((x5_3.length:Int):Int):=zDo (by with_reducible assumption);obtain ⟨go22,co22,eo22,gb22,gl22,cl22,HG22⟩:=Kd.R_form HO_5.out (by omega)
                (first|cases eo22|(injection eo22 with ea_ en_ ec_;(first|subst ea_|(injection ea_ with ea_;subst ea_));subst ec_;clear en_))
                have GB22:=As0.mk gb22;have GG22:=As0.mk HG22;clear gb22 gl22 HG22
                (first|simp only [y18] at hx215_0|skip)
                (first|simp only [y18] at hx216_0|skip)
                obtain ⟨hx22_0,hf22_0⟩:=Kd.R_celln 0 HO_5.out (x32_3:Int) p22 q22;replace p22:=eq_true p22;replace q22:=eq_true q22;have HP24:=Kd.R_putn HO_5.out (x32_3:Int) (wrap64 ((wrap64 (x32_3 * (rd x5_3 x32_3)))+(rd x5_3 (ji19))));rw [← Ny217.out] at HP24;have HQ24:=As0.mk HP24;clear HP24;refine yam (n:=16) (S:=fun w'=>w'.cell? ⟨go22,(x32_3).toNat,none⟩=some (.int .i64 (rd x5_3 x32_3))∧w'.cell? ⟨go22,((ji19)).toNat,none⟩=some (.int .i64 (rd x5_3 (ji19)))) (ds:=[15]) #[false,false,false,false,false,false,false,false,false,false,false,false,false,false,false,false] (by kernel_rfl) rfl rfl ⟨hx215_0,hx216_0⟩ (fun hHeld=>?_);refine y3y mobs_ways.tab13 mobs_ways.bits13 (fun HT_ HW_=>?_);generalize wr.drew=w23 at HO_5 HB GG22 HQ24 hf22_0 hx215_0 hx216_0 hx22_0 hHeld ⊢;refine y19 (i:=0) (N:=some 35) (v:=?_) (a':=?_) #[true,false,false,false,false,false,false,false,false,false,false,false,false,false,false,false] rfl rfl (y0r HT_.out (by kernel_rfl)) (fun _ _ _ h=>h) (Or.inl ⟨by rfl,?_⟩) ?_ ?_;rotate_left
                ·intro w'
                 go_simp
                 with_reducible rfl
                rotate_left
                ·simp only [Act.put,List.setIfInBounds_toArray,List.set_cons_zero,List.set_cons_succ,y0o,y0s]
                 rfl
                refine y19 (i:=1) (N:=some 36) (v:=?_) (a':=?_) #[true,true,false,false,false,false,false,false,false,false,false,false,false,false,false,false] rfl rfl (y0r HT_.out (by kernel_rfl)) (fun _ _ _ h=>h) (Or.inl ⟨by rfl,?_⟩) ?_ ?_;rotate_left
                ·intro w'
                 go_simp
                 with_reducible rfl
                rotate_left
                ·simp only [Act.put,List.setIfInBounds_toArray,List.set_cons_zero,List.set_cons_succ,y0o,y0s]
                 rfl
                refine y19 (i:=2) (N:=some 37) (v:=?_) (a':=?_) #[true,true,true,false,false,false,false,false,false,false,false,false,false,false,false,false] rfl rfl (y0r HT_.out (by kernel_rfl)) (fun _ _ _ h=>h) (Or.inl ⟨by rfl,?_⟩) ?_ ?_;rotate_left
                ·intro w'
                 go_simp
                 with_reducible rfl
                rotate_left
                ·simp only [Act.put,List.setIfInBounds_toArray,List.set_cons_zero,List.set_cons_succ,y0o,y0s]
                 rfl
                refine y19 (i:=3) (N:=some 38) (v:=?_) (a':=?_) #[true,true,true,true,false,false,false,false,false,false,false,false,false,false,false,false] rfl rfl (y0r HT_.out (by kernel_rfl)) (fun _ _ _ h=>h) (Or.inl ⟨by rfl,?_⟩) ?_ ?_;rotate_left
                ·intro w'
                 go_simp
                 with_reducible rfl
                rotate_left
                ·simp only [Act.put,List.setIfInBounds_toArray,List.set_cons_zero,List.set_cons_succ,y0o,y0s]
                 rfl
                refine y19 (i:=4) (N:=some 39) (v:=?_) (a':=?_) #[true,true,true,true,true,false,false,false,false,false,false,false,false,false,false,false] rfl rfl (y0r HT_.out (by kernel_rfl)) (fun _ _ _ h=>h) (Or.inl ⟨by rfl,?_⟩) ?_ ?_;rotate_left
                ·intro w'
                 go_simp
                 with_reducible rfl
                rotate_left
                ·simp only [Act.put,List.setIfInBounds_toArray,List.set_cons_zero,List.set_cons_succ,y0o,y0s]
                 rfl
                refine y19 (i:=5) (N:=some 40) (v:=?_) (a':=?_) #[true,true,true,true,true,true,false,false,false,false,false,false,false,false,false,false] rfl rfl (y0r HT_.out (by kernel_rfl)) (fun _ _ _ h=>h) (Or.inl ⟨by rfl,?_⟩) ?_ ?_;rotate_left
                ·intro w'
                 go_simp
                 with_reducible rfl
                rotate_left
                ·simp only [Act.put,List.setIfInBounds_toArray,List.set_cons_zero,List.set_cons_succ,y0o,y0s]
                 rfl
                refine y19 (i:=8) (N:=some 43) (v:=?_) (a':=?_) #[true,true,true,true,true,true,false,false,true,false,false,false,false,false,false,false] rfl rfl (y0r HT_.out (by kernel_rfl)) (fun _ _ _ h=>h) (Or.inl ⟨by rfl,?_⟩) ?_ ?_;rotate_left
                ·intro w'
                 go_simp
                 with_reducible rfl
                rotate_left
                ·simp only [Act.put,List.setIfInBounds_toArray,List.set_cons_zero,List.set_cons_succ,y0o,y0s]
                 rfl
                refine y19 (i:=9) (N:=some 44) (v:=?_) (a':=?_) #[true,true,true,true,true,true,false,false,true,true,false,false,false,false,false,false] rfl rfl (y0r HT_.out (by kernel_rfl)) (fun _ _ _ h=>h) (Or.inl ⟨by rfl,?_⟩) ?_ ?_;rotate_left
                ·intro w'
                 go_simp
                 with_reducible rfl
                rotate_left
                ·simp only [Act.put,List.setIfInBounds_toArray,List.set_cons_zero,List.set_cons_succ,y0o,y0s]
                 rfl
                refine y19 (i:=10) (N:=some 45) (v:=?_) (a':=?_) #[true,true,true,true,true,true,false,false,true,true,true,false,false,false,false,false] rfl rfl (y0r HT_.out (by kernel_rfl)) (fun _ _ _ h=>h) (Or.inl ⟨by rfl,?_⟩) ?_ ?_;rotate_left
                ·intro w'
                 go_simp
                 with_reducible rfl
                rotate_left
                ·simp only [Act.put,List.setIfInBounds_toArray,List.set_cons_zero,List.set_cons_succ,y0o,y0s]
                 rfl
                refine y19 (i:=11) (N:=some 46) (v:=?_) (a':=?_) #[true,true,true,true,true,true,false,false,true,true,true,true,false,false,false,false] rfl rfl (y0r HT_.out (by kernel_rfl)) (fun _ _ _ h=>h) (Or.inl ⟨by rfl,?_⟩) ?_ ?_;rotate_left
                ·intro w'
                 go_simp
                 with_reducible rfl
                rotate_left
                ·simp only [Act.put,List.setIfInBounds_toArray,List.set_cons_zero,List.set_cons_succ,y0o,y0s]
                 rfl
                refine take_ (i:=6) (N:=some 41) (v:=?_) (a':=?_) #[true,true,true,true,true,true,true,false,true,true,true,true,false,false,false,false] rfl rfl (y2z HT_.out HW_.out (by kernel_rfl)) (fun _ _ _ h=>h) (Or.inl ⟨by rfl,?_⟩) hHeld ?_ ?_;rotate_left
                ·rintro w' ⟨s0,s1⟩
                 go_simp
                 with_reducible rfl
                rotate_left
                ·simp only [Act.put,List.setIfInBounds_toArray,List.set_cons_zero,List.set_cons_succ,y0o,y0s]
                 rfl
                refine y19 (i:=7) (N:=some 42) (v:=?_) (a':=?_) #[true,true,true,true,true,true,true,true,true,true,true,true,false,false,false,false] rfl rfl (y0r HT_.out (by kernel_rfl)) (fun _ _ _ h=>h) (Or.inl ⟨by rfl,?_⟩) ?_ ?_;rotate_left
                ·intro w'
                 go_simp
                 with_reducible rfl
                rotate_left
                ·simp only [Act.put,List.setIfInBounds_toArray,List.set_cons_zero,List.set_cons_succ,y0o,y0s]
                 rfl
                refine take_ (i:=12) (N:=some 47) (v:=?_) (a':=?_) #[true,true,true,true,true,true,true,true,true,true,true,true,true,false,false,false] rfl rfl (y2z HT_.out HW_.out (by kernel_rfl)) (fun _ _ _ h=>h) (Or.inl ⟨by rfl,?_⟩) hHeld ?_ ?_;rotate_left
                ·rintro w' ⟨s0,s1⟩
                 go_simp
                 with_reducible rfl
                rotate_left
                ·simp only [Act.put,List.setIfInBounds_toArray,List.set_cons_zero,List.set_cons_succ,y0o,y0s]
                 rfl
                refine y19 (i:=13) (N:=some 48) (v:=?_) (a':=?_) #[true,true,true,true,true,true,true,true,true,true,true,true,true,true,false,false] rfl rfl (y0r HT_.out (by kernel_rfl)) (fun _ _ _ h=>h) (Or.inl ⟨by rfl,?_⟩) ?_ ?_;rotate_left
                ·intro w'
                 go_simp
                 with_reducible rfl
                rotate_left
                ·simp only [Act.put,List.setIfInBounds_toArray,List.set_cons_zero,List.set_cons_succ,y0o,y0s]
                 rfl
                refine y19 (i:=14) (N:=some 49) (v:=?_) (a':=?_) #[true,true,true,true,true,true,true,true,true,true,true,true,true,true,true,false] rfl rfl (y0r HT_.out (by kernel_rfl)) (fun _ _ _ h=>h) (Or.inl ⟨by rfl,?_⟩) ?_ ?_;rotate_left
                ·intro w'
                 go_simp
                 with_reducible rfl
                rotate_left
                ·simp only [Act.put,List.setIfInBounds_toArray,List.set_cons_zero,List.set_cons_succ,y0o,y0s]
                 rfl
                refine last_ (i:=15) (N:=none) #[true,true,true,true,true,true,true,true,true,true,true,true,true,true,true,true] rfl rfl (y4w HT_.out (by kernel_rfl)) (by decide) (fun K hK=>?_);refine skip_ (w1:=?_) (by rfl) rfl ?_ ?_;rotate_left
                ·go_simp
                 rfl
                refine hK.out _ _ ?_;clear hK K;refine yj1 (y82 HT_.out (by kernel_rfl)) ?_
                try go_wp2
                (try simp only [← hl5_3])
                go_roundg k3
                case measure=>have:=HK1.out;have:=HK2.out;have:=HK3.out;omega
                case rel=>exact ⟨(y217),(ji19),(by first|rfl|(simp;done)|(simp only [← hji19]<;>(first|rfl|simp))|(simp [*];done)),H',⟨by have:=HK1.out;have:=HK2.out;have:=HK3.out;omega⟩,⟨by (try simp only [hl5_1]);(try simp only [hl5_2]);(try simp only [hl5_3]);(with_reducible repeat (first|apply Kd.R_alloc|apply Kd.R_drewN|apply Kd.R_drew));exact HQ24.out⟩,⟨by repeat (with_reducible first|exact HB.out|apply y01|apply y00|apply y02|refine y0c ?_ GB22.out)⟩⟩
               ·rw [if_neg c21] at H
                exact absurd H (by simp)
              ·rw [if_neg c20] at H
               exact absurd H (by simp)
             ·rw [if_neg c18] at H
              exact absurd H (by simp)
            ·rw [if_neg c17] at H
             exact absurd H (by simp)
           ·rw [if_neg c16] at H
            have c16b0:decide (x32_3<(wrap64 ((wrap64 (a0+a1)) - x24_2)))=false:=zDf c16;clear c16;have H':=As0.mk H;clear H;go_wp2
            (try simp only [← hl5_2,← hl5_3])
            go_roundg k3
            case measure=>have:=HK1.out;have:=HK2.out;have:=HK3.out;omega
            case rel=>exact ⟨(x5_3),(wrap64 (x24_2+1)),(by first|rfl|(simp;done)|(simp [*];done)),H',⟨by have:=HK1.out;have:=HK2.out;have:=HK3.out;omega⟩,⟨by (try simp only [hl5_1]);(try simp only [hl5_2]);(try simp only [hl5_3]);(with_reducible repeat (first|apply Kd.R_alloc|apply Kd.R_drewN|apply Kd.R_drew));exact HO_5.out⟩,⟨by repeat (with_reducible first|exact HB.out|apply y01|apply y00|apply y02)⟩⟩
        ·rw [if_neg c15] at H
         have c15b0:decide (x24_2<a0)=false:=zDf c15;clear c15
         by_cases c25:0≤a1
         ·rw [if_pos c25] at H
          have c25b0:decide (0≤a1)=true:=zDt c25;clear c25
          by_cases c26:a1<(x5_2.length:Int)
          ·rw [if_pos c26] at H
           have c26b0:decide (a1<(x5_2.length:Int))=true:=zDt c26;clear c26;obtain rfl:=zSi H;have p214:0≤(a1:Int):=zDo (by with_reducible assumption);have q214:a1<(x5_2.length:Int):=zDo (by with_reducible assumption);obtain ⟨ad214,e214,hx214_0⟩:=Kd.at_int (Kd.R_reads' HO_5.out).2.2 a1 p214 q214;cases e214
           replace p214:=eq_true p214;replace q214:=eq_true q214;go_wp2
           go_ret
           exact ⟨by first|rfl|(simp [y06,y05]<;>rfl)|(simp only [← hji3];first|rfl|(simp [y06,y05]<;>rfl))|(simp [*,y06,y05]<;>rfl),by repeat (with_reducible first|exact HB.out|apply y01|apply y00|apply y02)⟩
          ·rw [if_neg c26] at H
           exact absurd H (by simp)
         ·rw [if_neg c25] at H
          exact absurd H (by simp)
  ·rw [if_neg c5] at H
   exact absurd H (by simp)
 ·rw [if_neg c4] at H
  exact absurd H (by simp)
end
end Go.Proofs.Ytdhgeondbnpeoaa.P
