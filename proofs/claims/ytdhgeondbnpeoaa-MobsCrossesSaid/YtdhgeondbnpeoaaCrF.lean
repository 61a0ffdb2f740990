/- The theorem of MobsCrosses, proved; part 6 of 7: its texts, merged. -/
import Derived.Test.YtdhgeondbnpeoaaCrE
import Derived.SizedLaws
import Derived.ChangeSlices
set_option linter.unnecessarySimpa false
set_option linter.defProp false
set_option linter.unusedVariables false
set_option linter.unusedSimpArgs false
set_option maxRecDepth 100000
set_option maxHeartbeats 8000000
namespace Go.Proofs.Ytdhgeondbnpeoaa.Pl
open Go.RowKit Go.Proofs.Ytdhgeondbnpeoaa.P Go.Proofs.Yw.Wd Go.Proofs.Yw.La Go.Proofs.Ytdhgeondbnpeoaa.Ext
section
theorem ydm {l:List Int} (hp:isP l=true):rgs 0 l=true:=by
 simp only [isP,Bool.and_eq_true] at hp;exact hp.2
def C4 (l:List Int) (a b c d:Nat):Prop:=l.getD a 0=l.getD c 0∧l.getD b 0=l.getD d 0∧l.getD a 0≠l.getD b 0
def N0 (l:List Int) (a:Nat):Prop:=∀ a' b c d,a≤a'->a'<b->b<c->c<d->d<l.length->¬ C4 l a' b c d
def N1 (l:List Int) (a b:Nat):Prop:=N0 l (a+1)∧∀ b' c d,b≤b'->b'<c->c<d->d<l.length->¬ C4 l a b' c d
def N2 (l:List Int) (a b c:Nat):Prop:=N1 l a (b+1)∧∀ c' d,c≤c'->c'<d->d<l.length->¬ C4 l a b c' d
def N3 (l:List Int) (a b c d:Nat):Prop:=N2 l a b (c+1)∧∀ d',d≤d'->d'<l.length->¬ C4 l a b c d'
def Res (l:List Int) (N:Prop) (F:Nat->Option (Int × Int × Int × Int × Bool)):Prop :=
 ∃ r:Int × Int × Int × Int × Bool,(r.2.2.2.2=true->XX l)∧(r.2.2.2.2=false->N)∧Ev fun k=>F k=some r
section
variable {l:List Int} (hn:l.length≤12)
include hn
theorem cr3 {a b c:Nat} (h1:a<b) (h2:b<c) (hc:c<l.length) (h:Res l (N2 l a b (c+1)) fun k=>mobs_crossed.l2 k l (a:Int) (b:Int) ((c+1:Nat):Int) (l.length:Int) (a:Int)):∀ e d,d+e=l.length->c<d->Res l (N3 l a b c d) fun k=>mobs_crossed.l3 k l (a:Int) (b:Int) (c:Int) (d:Int) (l.length:Int) (a:Int)
 |0,d,hd,hcd=>by
  obtain ⟨r,r1,r2,r3⟩:=h;refine ⟨r,r1,fun hf=>⟨r2 hf,fun d' q1 q2=>by omega⟩,r3.step fun k hk=>?_⟩
  try dsimp only
  rw [mobs_crossed.l3];rw [if_neg (by omega),w64 (x:=(c:Int)+1) (by omega) (by omega)];exact hk
 |e+1,d,hd,hcd=>by
  have hdn:d<l.length:=by omega
  by_cases hC:C4 l a b c d
  ·refine ⟨((a:Int),(b:Int),(c:Int),(d:Int),true),fun _=>⟨a,b,c,d,h1,h2,hcd,hdn,hC⟩,fun hf=>absurd hf (by simp),Ev.next fun k=>?_⟩
   obtain ⟨c1,c2,c3⟩:=hC
   try dsimp only
   rw [mobs_crossed.l3];rw [y1e,y1e,y1e,y1e,if_pos (by omega),if_pos (by omega),if_pos (by omega),if_pos (by omega),if_pos (by omega),if_pos c1,if_pos (by omega),if_pos (by omega),if_pos (by omega),if_pos c2,if_neg c3]
  ·obtain ⟨r,r1,r2,r3⟩:=cr3 h1 h2 hc h e (d+1) (by omega) (by omega)
   refine ⟨r,r1,fun hf=>⟨(r2 hf).1,fun d' q1 q2=>?_⟩,r3.step fun k hk=>?_⟩
   ·by_cases q:d'=d
    ·exact q ▸ hC
    ·exact (r2 hf).2 d' (by omega) q2
   ·rw [show ((d+1:Nat):Int)=(d:Int)+1 by omega] at hk
    try dsimp only
    rw [mobs_crossed.l3];rw [y1e,y1e,y1e,y1e,if_pos (by omega),if_pos (by omega),if_pos (by omega),if_pos (by omega),if_pos (by omega),w64 (x:=(d:Int)+1) (by omega) (by omega)]
    by_cases c1:l.getD a 0=l.getD c 0
    ·rw [if_pos c1,if_pos (by omega),if_pos (by omega),if_pos (by omega)]
     by_cases c2:l.getD b 0=l.getD d 0
     ·rw [if_pos c2,if_pos (Decidable.byContradiction fun c3=>hC ⟨c1,c2,c3⟩)]
      exact hk
     ·rw [if_neg c2]
      exact hk
    ·rw [if_neg c1]
     exact hk
theorem cr2 {a b:Nat} (h1:a<b) (hb:b<l.length) (h:Res l (N1 l a (b+1)) fun k=>mobs_crossed.l1 k l (a:Int) ((b+1:Nat):Int) (l.length:Int) (a:Int)):∀ e c,c+e=l.length->b<c->Res l (N2 l a b c) fun k=>mobs_crossed.l2 k l (a:Int) (b:Int) (c:Int) (l.length:Int) (a:Int)
 |0,c,hc,hbc=>by
  obtain ⟨r,r1,r2,r3⟩:=h;refine ⟨r,r1,fun hf=>⟨r2 hf,fun c' d q1 q2 q3=>by omega⟩,r3.step fun k hk=>?_⟩
  try dsimp only
  rw [mobs_crossed.l2];rw [if_neg (by omega),w64 (x:=(b:Int)+1) (by omega) (by omega)];exact hk
 |e+1,c,hc,hbc=>by
  obtain ⟨r,r1,r2,r3⟩:=cr3 hn h1 hbc (by omega) (cr2 h1 hb h e (c+1) (by omega) (by omega)) e (c+1) (by omega) (by omega);refine ⟨r,r1,fun hf=>⟨(r2 hf).1.1,fun c' d q1 q2 q3=>?_⟩,r3.step fun k hk=>?_⟩
  ·by_cases q:c'=c
   ·subst q
    exact (r2 hf).2 d (by omega) q3
   ·exact (r2 hf).1.2 c' d (by omega) q2 q3
  ·try dsimp only
   rw [mobs_crossed.l2];rw [if_pos (by omega),w64 (x:=(c:Int)+1) (by omega) (by omega)];exact hk
theorem cr1 {a:Nat} (ha:a<l.length) (h:Res l (N0 l (a+1)) fun k=>mobs_crossed.l0 k l (l.length:Int) ((a+1:Nat):Int)):∀ e b,b+e=l.length->a<b->Res l (N1 l a b) fun k=>mobs_crossed.l1 k l (a:Int) (b:Int) (l.length:Int) (a:Int)
 |0,b,hb,hab=>by
  obtain ⟨r,r1,r2,r3⟩:=h;refine ⟨r,r1,fun hf=>⟨r2 hf,fun b' c d q1 q2 q3 q4=>by omega⟩,r3.step fun k hk=>?_⟩
  try dsimp only
  rw [mobs_crossed.l1];rw [if_neg (by omega),w64 (x:=(a:Int)+1) (by omega) (by omega)];exact hk
 |e+1,b,hb,hab=>by
  obtain ⟨r,r1,r2,r3⟩:=cr2 hn hab (by omega) (cr1 ha h e (b+1) (by omega) (by omega)) e (b+1) (by omega) (by omega);refine ⟨r,r1,fun hf=>⟨(r2 hf).1.1,fun b' c d q1 q2 q3 q4=>?_⟩,r3.step fun k hk=>?_⟩
  ·by_cases q:b'=b
   ·subst q
    exact (r2 hf).2 c d (by omega) q3 q4
   ·exact (r2 hf).1.2 b' c d (by omega) q2 q3 q4
  ·try dsimp only
   rw [mobs_crossed.l1];rw [if_pos (by omega),w64 (x:=(b:Int)+1) (by omega) (by omega)];exact hk
theorem cr0:∀ e a,a+e=l.length->Res l (N0 l a) fun k=>mobs_crossed.l0 k l (l.length:Int) (a:Int)
 |0,a,ha=>by
  refine ⟨(0,0,0,0,false),fun hf=>absurd hf (by simp),fun _ a' b c d q1 q2 q3 q4 q5=>by omega,Ev.next fun k=>?_⟩
  try dsimp only
  rw [mobs_crossed.l0];rw [if_neg (by omega)]
 |e+1,a,ha=>by
  obtain ⟨r,r1,r2,r3⟩:=cr1 hn (by omega) (cr0 e (a+1) (by omega)) e (a+1) (by omega) (by omega);refine ⟨r,r1,fun hf a' b c d q1 q2 q3 q4 q5=>?_,r3.step fun k hk=>?_⟩
  ·by_cases q:a'=a
   ·subst q
    exact (r2 hf).2 b c d (by omega) q3 q4 q5
   ·exact (r2 hf).1 a' b c d (by omega) q2 q3 q4 q5
  ·try dsimp only
   rw [mobs_crossed.l0];rw [if_pos (by omega),w64 (x:=(a:Int)+1) (by omega) (by omega)];exact hk
theorem yc6:∃ r:Int × Int × Int × Int × Bool,(r.2.2.2.2=true ↔ XX l)∧Ev fun k=>mobs_crossed.f k l=some r:=by
 obtain ⟨r,r1,r2,r3⟩:=cr0 hn l.length 0 (by omega);refine ⟨r,⟨r1,fun ⟨a,b,c,d,h1,h2,h3,h4,h5⟩=>?_⟩,r3⟩;cases hb:r.2.2.2.2 with
 |true=>rfl
 |false=>exact absurd h5 (r2 hb a b c d (Nat.zero_le _) h1 h2 h3 h4)
end
theorem y33 {l:List Int} (hp:isP l=true):∃ a b c d:Int,∃ x:Bool,(x=true ↔ XX l)∧(Ev fun k=>mobs_crossed.f k l=some (a,b,c,d,x))∧Ev fun k=>mobs_Crossed.f k l=some (a,b,c,d,x,0):=by
 obtain ⟨⟨a,b,c,d,x⟩,h1,h2⟩:=yc6 (y2l hp);refine ⟨a,b,c,d,x,h1,h2,(h2.and (Ev.ge 30 fun k hk=>hk)).mono fun k hk=>?_⟩;unfold mobs_Crossed.f;rw [y38 l hk.2,if_pos (y2l hp),if_pos hp];simp only [Option.bind_some,if_true];rw [hk.1];rfl
theorem ydo (s:List Int) (v:Int) (hn:s.length≤100):∀ e j,j+e=s.length->∃ q:Int,(q ≥ 0 ↔ v ∈ s.drop j)∧Ev fun k=>slices_Index_int_int.l0 k s v (s.length:Int) (j:Int)=some q
 |0,j,hj=>by
  refine ⟨-1,?_,Ev.next fun k=>?_⟩
  ·rw [List.drop_of_length_le (by omega)]
   simp
  ·try dsimp only
   rw [slices_Index_int_int.l0];rw [if_neg (by omega)]
 |e+1,j,hj=>by
  have hlt:j<s.length:=by omega
  rw [List.drop_eq_getElem_cons hlt]
  by_cases h:v=s[j]
  ·refine ⟨(j:Int),⟨fun _=>by rw [h];exact List.mem_cons_self ..,fun _=>by omega⟩,Ev.next fun k=>?_⟩
   try dsimp only
   rw [slices_Index_int_int.l0];rw [if_pos (by omega),if_pos (by omega),if_pos (by omega),y8u hlt,if_pos h]
  ·obtain ⟨q,h1,h2⟩:=ydo s v hn e (j+1) (by omega)
   refine ⟨q,by simp only [List.mem_cons,h,false_or];exact h1,h2.step fun k hk=>?_⟩
   try dsimp only
   rw [slices_Index_int_int.l0];rw [if_pos (by omega),if_pos (by omega),if_pos (by omega),y8u hlt,if_neg h,w64 (x:=(j:Int)+1) (by omega) (by omega)];exact hk
theorem yab (s:List Int) (v:Int) (hn:s.length≤100):Ev fun k=>slices_Contains_int_int.f k s v=some (decide (v ∈ s)):=by
 obtain ⟨q,h1,h2⟩:=ydo s v hn s.length 0 (by omega);refine h2.mono fun k hk=>?_
 unfold slices_Contains_int_int.f slices_Index_int_int.f;have hk':slices_Index_int_int.l0 k s v (s.length:Int) 0=some q:=hk;rw [hk'];simp only [Option.bind_some];rw [List.drop_zero] at h1;rw [decide_eq_decide.2 h1]
theorem yay (s y:List Int) (hs:s.length≤100) (hn:y.length≤100):∀ e j,j+e=y.length->Ev fun k=>mobs_parted.l0 k s y (y.length:Int) (j:Int)=some (decide (∃ v,v ∈ y.drop j∧v ∈ s))
 |0,j,hj=>Ev.next fun k=>by
  try dsimp only
  rw [mobs_parted.l0];rw [if_neg (by omega),List.drop_of_length_le (by omega)];simp
 |e+1,j,hj=>by
  have hlt:j<y.length:=by omega
  refine ((yab s y[j] hs).and (yay s y hs hn e (j+1) (by omega))).step fun k hk=>?_
  try dsimp only
  rw [mobs_parted.l0];rw [if_pos (by omega),if_pos (by omega),if_pos (by omega),y8u hlt,hk.1,List.drop_eq_getElem_cons hlt];simp only [Option.bind_some,decide_eq_true_eq]
  by_cases h:y[j] ∈ s
  ·rw [if_pos h,zDt]
   exact ⟨_,List.mem_cons_self ..,h⟩
  ·rw [if_neg h,w64 (x:=(j:Int)+1) (by omega) (by omega)]
   refine hk.2.trans (congrArg some (decide_eq_decide.2 ⟨fun ⟨v,h1,h2⟩=>⟨v,List.mem_cons_of_mem _ h1,h2⟩,fun ⟨v,h1,h2⟩=>⟨v,?_,h2⟩⟩));rcases List.mem_cons.1 h1 with e1|h1
   ·exact absurd (e1 ▸ h2) h
   ·exact h1
theorem mem_tk {l:List Int} {m:Nat} {v:Int}:v ∈ l.take m ↔ ∃ x,x<m∧x<l.length∧l.getD x 0=v:=by
 rw [List.mem_iff_getElem];constructor
 ·rintro ⟨x,hx,e⟩
  rw [List.length_take] at hx;refine ⟨x,by omega,by omega,?_⟩;rw [y2m (by omega),← e,List.getElem_take]
 ·rintro ⟨x,h1,h2,e⟩
  refine ⟨x,by rw [List.length_take];omega,?_⟩;rw [List.getElem_take,← y2m h2,e]
theorem mem_dr {l:List Int} {m:Nat} {v:Int}:v ∈ l.drop m ↔ ∃ x,m≤x∧x<l.length∧l.getD x 0=v:=by
 rw [List.mem_iff_getElem];constructor
 ·rintro ⟨x,hx,e⟩
  rw [List.length_drop] at hx;refine ⟨m+x,by omega,by omega,?_⟩;rw [y2m (by omega),← e,List.getElem_drop]
 ·rintro ⟨x,h1,h2,e⟩
  refine ⟨x - m,by rw [List.length_drop];omega,?_⟩;rw [List.getElem_drop,← e,y2m h2]
  congr 1
  omega
theorem mem_in {l:List Int} {i k:Nat} {v:Int}:v ∈ (l.take (k+1)).drop (i+1) ↔ ∃ x,i<x∧x≤k∧x<l.length∧l.getD x 0=v:=by
 rw [mem_dr];constructor
 ·rintro ⟨x,h1,h2,e⟩
  rw [List.length_take] at h2;refine ⟨x,by omega,by omega,by omega,?_⟩;rw [← e,List.getD_eq_getElem?_getD,List.getD_eq_getElem?_getD,List.getElem?_take,if_pos (by omega)]
 ·rintro ⟨x,h1,h2,h3,e⟩
  refine ⟨x,by omega,by rw [List.length_take];omega,?_⟩;rw [← e,List.getD_eq_getElem?_getD,List.getD_eq_getElem?_getD,List.getElem?_take,if_pos (by omega)]
open Classical in
theorem y8y {l:List Int} (hn:l.length≤12) {i k:Nat} (hik:i<k) (hk:k<l.length):Ev fun r=>mobs_parted.f r l (i:Int) (k:Int)=some (decide ¬ UU l i k):=by
 have e1:wrap64 ((i:Int)+1)=((i+1:Nat):Int):=by rw [w64 (by omega) (by omega)];omega
 have e2:wrap64 ((k:Int)+1)=((k+1:Nat):Int):=by rw [w64 (by omega) (by omega)];omega
 have hs:((l.take (k+1)).drop (i+1)).length≤100:=by rw [List.length_drop,List.length_take];omega
 have hy:(l.take (i+1) ++ l.drop (k+1)).length≤100:=by rw [List.length_append,List.length_drop,List.length_take];omega
 refine (yay _ _ hs hy _ 0 (Nat.zero_add _)).mono fun r hr=>?_
 unfold mobs_parted.f slices_Clone_int_int.f;rw [e1,e2,if_pos (by omega),if_pos (by omega),if_pos (by omega),if_pos (by omega),Int.toNat_natCast,Int.toNat_natCast,if_pos (by rw [List.length_take];omega)];simp only [Option.bind_some];rw [if_pos (by omega),if_pos (by rw [List.length_drop,List.length_take];omega)];refine Eq.trans hr (congrArg some (decide_eq_decide.2 ?_));rw [List.drop_zero];constructor
 ·rintro ⟨v,h1,h2⟩ u
  obtain ⟨x,x1,x2,x3,x4⟩:=mem_in.1 h2;rcases List.mem_append.1 h1 with h|h
  ·obtain ⟨y,y1,y2,y3⟩:=mem_tk.1 h
   have:=u x y x3 y2 (x4.trans y3.symm) x1 x2;omega
  ·obtain ⟨y,y1,y2,y3⟩:=mem_dr.1 h
   have:=u x y x3 y2 (x4.trans y3.symm) x1 x2;omega
 ·intro hu
  refine Classical.byContradiction fun hc=>hu fun x y hx hy e a b=>Classical.byContradiction fun h=>hc ⟨l.getD x 0,?_,mem_in.2 ⟨x,a,b,hx,rfl⟩⟩
  rw [List.mem_append,mem_tk,mem_dr]
  by_cases h':y≤i
  ·exact Or.inl ⟨y,by omega,hy,e.symm⟩
  ·exact Or.inr ⟨y,by omega,hy,e.symm⟩
theorem ygt {l:List Int} (hn:l.length≤12) {k:Nat} (hk:k<l.length) {out:List Int} (ho:out.length=k) {R:Option (List Int × Int)}:∀ (i a:Nat),i≤k->a≤k->(Ev fun r=>mobs_Between.l0 r l (out ++ [((loR l k i a:Nat):Int)]) (l.length:Int) ((k:Int)+1)=R)->Ev fun r=>mobs_Between.l1 r l out (k:Int) (a:Int) ((i:Int) - 1) (l.length:Int) (k:Int)=R
 |0,a,hi,ha,h=>h.step fun r hr=>by
  try dsimp only
  rw [mobs_Between.l1];rw [if_neg (by omega),if_pos (by omega),w64 (x:=(k:Int)+1) (by omega) (by omega)];exact hr
 |i+1,a,hi,ha,h=>by
  unfold loR at h;have e1:((i+1:Nat):Int) - 1=(i:Int):=by omega
  by_cases hu:UU l i k
  ·rw [if_pos hu] at h
   refine ((y8y hn (show i<k by omega) hk).and (ygt hn hk ho i i (by omega) (by omega) h)).step fun r hr=>?_
   try dsimp only
   rw [mobs_Between.l1];rw [e1,if_pos (by omega),hr.1];simp only [Option.bind_some,hu,not_true,decide_false,Bool.false_eq_true,if_false];rw [w64 (x:=(i:Int) - 1) (by omega) (by omega)];exact hr.2
  ·rw [if_neg hu] at h
   refine ((y8y hn (show i<k by omega) hk).and (ygt hn hk ho i a (by omega) ha h)).step fun r hr=>?_
   try dsimp only
   rw [mobs_Between.l1];rw [e1,if_pos (by omega),hr.1];simp only [Option.bind_some,hu,not_false_eq_true,decide_true,if_true];rw [w64 (x:=(i:Int) - 1) (by omega) (by omega)];exact hr.2
theorem yce {l:List Int} {k:Nat} (hk:k<l.length):(wi l).take (k+1)=(wi l).take k ++ [((lo l k:Nat):Int)]:=by
 have h:k<(wi l).length:=by rw [y50];exact hk
 rw [List.take_succ_eq_append_getElem h,← y2m h,wi_get hk]
theorem wi_in {l:List Int} (hn:l.length≤12):∀ x ∈ wi l,In64 x:=by
 intro x hx;unfold wi at hx;obtain ⟨k,hk,rfl⟩:=List.mem_map.1 hx;have h1:=List.mem_range.1 hk;have h2:=(ydk l k).1;unfold In64;omega
theorem btw_l0 {l:List Int} (hn:l.length≤12):∀ e k,k+e=l.length->Ev fun r=>mobs_Between.l0 r l ((wi l).take k) (l.length:Int) (k:Int)=some (numL (wi l),0)
 |0,k,hk=>Ev.next fun r=>by
  try dsimp only
  rw [mobs_Between.l0];rw [if_neg (by omega),List.take_of_length_le (by rw [y50];omega),num_f (by rw [y50];omega) (wi_in hn)];rfl
 |e+1,k,hk=>by
  have hlt:k<l.length:=by omega
  have ih:=btw_l0 hn e (k+1) (by omega);rw [yce hlt,show ((k+1:Nat):Int)=(k:Int)+1 by omega] at ih;refine (ygt hn hlt (by rw [List.length_take,y50];omega) k k (zLe _) (zLe _) ih).step fun r hr=>?_
  try dsimp only
  rw [mobs_Between.l0];rw [if_pos (by omega),w64 (x:=(k:Int) - 1) (by omega) (by omega)];exact hr
theorem yc9 {l:List Int} (hp:isP l=true) (hx:¬ XX l):Ev fun k=>mobs_Between.f k l=some (numL (wi l),0):=by
 obtain ⟨a,b,c,d,x,h1,h2,_⟩:=y33 hp;refine ((h2.and (Ev.ge 30 fun k hk=>hk)).and (btw_l0 (y2l hp) l.length 0 (Nat.zero_add _))).mono fun k hk=>?_
 have hx':x=false:=by
  cases x with
  |false=>rfl
  |true=>exact absurd (h1.1 rfl) hx
 unfold mobs_Between.f;rw [y38 l hk.1.2,if_pos (y2l hp),if_pos hp];simp only [Option.bind_some,if_true];rw [hk.1.1,hx'];exact hk.2
theorem yam {l:List Int} (hp:isP l=true) (hx:XX l):Ev fun k=>mobs_Between.f k l=some ([],9):=by
 obtain ⟨a,b,c,d,x,h1,h2,_⟩:=y33 hp;refine (h2.and (Ev.ge 30 fun k hk=>hk)).mono fun k hk=>?_
 unfold mobs_Between.f;rw [y38 l hk.2,if_pos (y2l hp),if_pos hp];simp only [Option.bind_some,if_true];rw [hk.1,h1.2 hx];rfl
theorem isP_in {l:List Int} (hp:isP l=true):∀ x ∈ l,In64 x:=by
 intro x hx;obtain ⟨i,hi,e⟩:=List.getElem_of_mem hx;have h1:=rgs_at (ydm hp) hi;obtain ⟨_,_,q3,q4⟩:=y5w l 0 i (ydm hp) (Int.le_refl _);have:=y2l hp;rw [y2m hi,e] at h1;unfold In64;omega
def shf (by_:Int) (n:Nat):Nat:=(by_ % (n:Int)).toNat
theorem shf_lt (b:Int) {n:Nat} (h:0<n):shf b n<n:=by
 have h1:=Int.emod_lt_of_pos b (show 0<(n:Int) by omega);have h2:=Int.emod_nonneg b (show (n:Int)≠0 by omega);unfold shf;omega
theorem yh5 (b:Int) {n:Nat} (h:0<n) (hn:n≤12):Int.tmod (wrap64 (Int.tmod b (n:Int)+(n:Int))) (n:Int)=((shf b n:Nat):Int):=by
 have h1:=Int.emod_lt_of_pos b (show 0<(n:Int) by omega);have h2:=Int.emod_nonneg b (show (n:Int)≠0 by omega);have h3:-(n:Int)<Int.tmod b n∧Int.tmod b n<n:=by
  have a1:=Int.tmod_lt_of_pos b (show 0<(n:Int) by omega);have a2:=Int.lt_tmod_of_pos b (show 0<(n:Int) by omega);omega
 have h4:Int.tmod b n % n=b % n:=by
  have:=Int.tmod_add_mul_tdiv b n;have e:b=Int.tmod b n+n * Int.tdiv b n:=by omega
  conv=>rhs;rw [e,Int.add_mul_emod_self_left]
 rw [w64 (by omega) (by omega),Int.tmod_eq_emod_of_nonneg (by omega),Int.add_emod_right,h4];unfold shf;omega
theorem rot_in {l:List Int} (h:∀ x ∈ l,In64 x) (k:Nat):∀ x ∈ rot k l,In64 x:=by
 intro x hx;rcases List.mem_append.1 hx with h'|h'
 ·exact h x (List.mem_of_mem_drop h')
 ·exact h x (List.mem_of_mem_take h')
theorem yjp {l:List Int} (hp:isP l=true) (b:Int) (h0:0<l.length) {k:Nat} (hk:30≤k):mobs_Around.f k l b=some (numL (rot (shf b l.length) l),0):=by
 have hl:=y2l hp;have hs:=shf_lt b h0;unfold mobs_Around.f slices_Clone_int_int.f;rw [y38 l hk,if_pos hl,if_pos hp];simp only [Option.bind_some,if_true];rw [if_neg (by omega),yh5 b h0 hl,if_pos (by omega),if_pos (by omega),Int.toNat_natCast,if_pos (by rw [List.length_drop];omega)];simp only [Option.bind_some];rw [if_pos (by rw [List.length_drop,List.length_take];omega)];have:=num_f (l:=rot (shf b l.length) l) (by rw [y9r];omega) (rot_in (isP_in hp) _);rw [rot] at this;rw [this];rfl
theorem yca (b:Int) {k:Nat} (hk:30≤k):mobs_Around.f k [] b=some ([],0):=by
 unfold mobs_Around.f;rw [y38 [] hk];rfl
end
section
theorem yar {l:List Int} {i:Nat} (hi:i<l.length):numL (l.take (i+1))=numL (l.take i) ++ [((met (y16 (l.take i)) l[i]).idxOf l[i]:Int)]:=by
 rw [List.take_succ_eq_append_getElem hi,y92]
theorem y8b {l:List Int} {i:Nat} (hi:i<l.length):y16 (l.take (i+1))=met (y16 (l.take i)) l[i]:=by
 rw [List.take_succ_eq_append_getElem hi,y6c]
theorem nbd_l1 {l:List Int} (hn:l.length≤40) {i:Nat} (hi:i<l.length) {R:Option (List Int)} (h:Ev fun k=>r6_numbered.l0 k l (numL (l.take (i+1))) ((y16 (l.take (i+1))).length:Int) ((i:Int)+1)=R):∀ d j,j+d=i->(∀ j',j'<j->l.getD j' 0≠l.getD i 0)->Ev fun k=>r6_numbered.l1 k l (numL (l.take i)) ((y16 (l.take i)).length:Int) (i:Int) (-1) (j:Int)=R
 |0,j,hj,hno=>by
  have hlen:(numL (l.take i)).length≤40:=by rw [y5d,List.length_take];omega
  have hk1:(y16 (l.take i)).length≤40:=by
   have:=(y4k (l.take i)).2;unfold y16;rw [List.length_take] at this;omega
  have hx:¬ l[i] ∈ y16 (l.take i):=by
   rw [y7y,mem_tk]
   rintro ⟨x,h1,h2,h3⟩
   exact hno x (by omega) (by rw [h3,y2m hi])
  rw [yar hi,y8b hi,met,if_neg hx,List.idxOf_append,if_neg hx] at h;have e0:List.idxOf l[i] [l[i]]=0:=by simp
  rw [e0,List.length_append,List.length_singleton] at h;refine (h.step (q:=fun k=>r6_numbered.j2 k l (numL (l.take i)) ((y16 (l.take i)).length:Int) (i:Int) (-1) (j:Int) false=R) fun k hk=>?_).step fun k hk=>?_
  ·rw [r6_numbered.j2,if_neg (by decide),if_pos (by omega),if_pos (by omega),w64 (x:=((y16 (l.take i)).length:Int)+1) (by omega) (by omega),w64 (x:=(i:Int)+1) (by omega) (by omega)]
   refine Eq.trans ?_ hk
   congr 2
   simp
  ·rw [r6_numbered.l1,if_neg (by omega)]
   exact hk
 |d+1,j,hj,hno=>by
  have hlen:(numL (l.take i)).length=i:=by rw [y5d,List.length_take];omega
  by_cases he:l.getD j 0=l.getD i 0
  ·have hjt:j<(l.take i).length:=by rw [List.length_take];omega
   have hv:rd (numL (l.take i)) (j:Int)=(((y16 (l.take i)).idxOf l[i]:Nat):Int):=by
    rw [y1e,yiv hjt,List.getElem_take];rw [y2m (by omega),y2m hi] at he;rw [he]
   have hx:l[i] ∈ y16 (l.take i):=by
    rw [y7y,mem_tk];exact ⟨j,by omega,by omega,by rw [he,y2m hi]⟩
   rw [yar hi,y8b hi,met,if_pos hx] at h;have h1:Ev fun k=>r6_numbered.j2 k l (numL (l.take i)) ((y16 (l.take i)).length:Int) (i:Int) (((y16 (l.take i)).idxOf l[i]:Nat):Int) ((j:Int)+1) false=R:=h.step fun k hk=>by
    rw [r6_numbered.j2,if_neg (by decide),if_neg (by omega),if_pos (by omega),w64 (x:=(i:Int)+1) (by omega) (by omega)];exact hk
   have h2:Ev fun k=>r6_numbered.l1 k l (numL (l.take i)) ((y16 (l.take i)).length:Int) (i:Int) (((y16 (l.take i)).idxOf l[i]:Nat):Int) ((j:Int)+1)=R:=h1.step fun k hk=>by
    rw [r6_numbered.l1]
    by_cases hji:(j:Int)+1<(i:Int)
    ·rw [if_pos hji,zDf (by omega)]
     exact hk
    ·rw [if_neg hji]
     exact hk
   refine (h2.step (q:=fun k=>r6_numbered.j2 k l (numL (l.take i)) ((y16 (l.take i)).length:Int) (i:Int) (-1) (j:Int) true=R) fun k hk=>?_).step fun k hk=>?_
   ·rw [r6_numbered.j2,if_pos rfl,if_pos (by omega),if_pos (by omega),if_pos (by omega),if_pos (by omega),y1e,y1e,if_pos he,if_pos (by omega),hv,w64 (x:=(j:Int)+1) (by omega) (by omega)]
    exact hk
   ·rw [r6_numbered.l1,if_pos (by omega),zDt (by omega)]
    exact hk
  ·have ih:=nbd_l1 hn hi h d (j+1) (by omega) (fun j' hj'=>by
    by_cases e:j'=j
    ·exact e ▸ he
    ·exact hno j' (by omega))
   rw [show ((j+1:Nat):Int)=(j:Int)+1 by omega] at ih;refine (ih.step (q:=fun k=>r6_numbered.j2 k l (numL (l.take i)) ((y16 (l.take i)).length:Int) (i:Int) (-1) (j:Int) true=R) fun k hk=>?_).step fun k hk=>?_
   ·rw [r6_numbered.j2,if_pos rfl,if_pos (by omega),if_pos (by omega),if_pos (by omega),if_pos (by omega),y1e,y1e,if_neg he,w64 (x:=(j:Int)+1) (by omega) (by omega)]
    exact hk
   ·rw [r6_numbered.l1,if_pos (by omega),zDt (by omega)]
    exact hk
theorem nbd_l0 {l:List Int} (hn:l.length≤40):∀ d i,i+d=l.length->Ev fun k=>r6_numbered.l0 k l (numL (l.take i)) ((y16 (l.take i)).length:Int) (i:Int)=some (numL l)
 |0,i,hi=>Ev.next fun k=>by
  rw [r6_numbered.l0,if_neg (by omega),List.take_of_length_le (by omega)]
 |d+1,i,hi=>by
  have ih:=nbd_l0 hn d (i+1) (by omega);rw [show ((i+1:Nat):Int)=(i:Int)+1 by omega] at ih;refine (nbd_l1 hn (by omega) ih i 0 (by omega) (fun j' hj'=>by omega)).step fun k hk=>?_
  rw [r6_numbered.l0,if_pos (by omega)];exact hk
theorem y69 {l:List Int} (hn:l.length≤40):Ev fun k=>r6_numbered.f k l=some (numL l):=nbd_l0 hn l.length 0 (Nat.zero_add _)
theorem ydw (l:List Int):∀ k,(∀ a,r6_crossed.l0 k l a=mobs_crossed.l0 k l (l.length:Int) a)∧(∀ a b,r6_crossed.l1 k l a b=mobs_crossed.l1 k l a b (l.length:Int) a)∧(∀ a b c,r6_crossed.l2 k l a b c=mobs_crossed.l2 k l a b c (l.length:Int) a)∧(∀ a b c d,r6_crossed.l3 k l a b c d=mobs_crossed.l3 k l a b c d (l.length:Int) a)
 |0=>⟨fun _=>rfl,fun _ _=>rfl,fun _ _ _=>rfl,fun _ _ _ _=>rfl⟩
 |k+1=>by
  obtain ⟨h0,h1,h2,h3⟩:=ydw l k;refine ⟨fun a=>?_,fun a b=>?_,fun a b c=>?_,fun a b c d=>?_⟩
  ·rw [r6_crossed.l0,mobs_crossed.l0,h1]
  ·rw [r6_crossed.l1,mobs_crossed.l1,h2,h0]
  ·rw [r6_crossed.l2,mobs_crossed.l2,h3,h1]
  ·rw [r6_crossed.l3,mobs_crossed.l3,h3,h2]
theorem ya2 (k:Nat) (l:List Int):r6_crossed.f k l=mobs_crossed.f k l:=(ydw l k).1 0
theorem y45 {l:List Int} (hp:isP l=true) {q:Int × Int × Int × Int × Bool} (h:Ev fun k=>mobs_crossed.f k l=some q):Ev fun k=>r6_Crossed.f k l=some (q.1,q.2.1,q.2.2.1,q.2.2.2.1,q.2.2.2.2,0):=by
 refine (h.and (Ev.ge 30 fun k hk=>hk)).mono fun k hk=>?_
 unfold r6_Crossed.f;rw [y2j l hk.2,if_pos (y2l hp),if_pos hp];simp only [Option.bind_some,if_true];rw [ya2,hk.1];rfl
open Classical in
theorem rb_l3 {l:List Int} (hn:l.length≤12) {of:List Int} {i j x:Nat} (hx:x<l.length) {R:Option (List Int × Int)}:∀ d y (t:Bool),y+d=l.length->(Ev fun k=>r6_Between.l2 k l of (i:Int) (j:Int) (t && decide (∀ y',y≤y'->y'<l.length->l.getD x 0=l.getD y' 0->j<x->x≤i->j<y'∧y'≤i)) ((x:Int)+1)=R)->Ev fun k=>r6_Between.l3 k l of (i:Int) (j:Int) t (x:Int) (y:Int)=R
 |0,y,t,hy,h=>h.step fun k hk=>by
  rw [zDt (fun y' a b=>by omega),Bool.and_true] at hk;rw [r6_Between.l3,if_neg (by omega),w64 (x:=(x:Int)+1) (by omega) (by omega)];exact hk
 |d+1,y,t,hy,h=>by
  have hyl:y<l.length:=by omega
  have key:∀ t':Bool,(t' && decide (∀ y',y+1≤y'->y'<l.length->l.getD x 0=l.getD y' 0->j<x->x≤i->j<y'∧y'≤i))=(t && decide (∀ y',y≤y'->y'<l.length->l.getD x 0=l.getD y' 0->j<x->x≤i->j<y'∧y'≤i))->Ev fun k=>r6_Between.l3 k l of (i:Int) (j:Int) t' (x:Int) ((y:Int)+1)=R:=by
   intro t' e;have:=rb_l3 hn (of:=of) (i:=i) (j:=j) hx (R:=R) d (y+1) t' (by omega) (by rw [e];exact h)
   rwa [show ((y+1:Nat):Int)=(y:Int)+1 by omega] at this
  have yes:(l.getD x 0=l.getD y 0->j<x->x≤i->j<y∧y≤i)->(decide (∀ y',y+1≤y'->y'<l.length->l.getD x 0=l.getD y' 0->j<x->x≤i->j<y'∧y'≤i))=(decide (∀ y',y≤y'->y'<l.length->l.getD x 0=l.getD y' 0->j<x->x≤i->j<y'∧y'≤i)):=by
   intro h0;refine decide_eq_decide.2 ⟨fun h y' a b c1 c2 c3=>?_,fun h y' a b=>h y' (by omega) b⟩
   by_cases e:y'=y
   ·subst e
    exact h0 c1 c2 c3
   ·exact h y' (by omega) b c1 c2 c3
  cases t with
  |false =>
   refine (key false rfl).step fun k hk=>?_
   rw [r6_Between.l3,if_pos (by omega),if_neg (by decide),w64 (x:=(y:Int)+1) (by omega) (by omega)];exact hk
  |true =>
   have go:∀ t':Bool,(t'=true ↔ (l.getD x 0=l.getD y 0->j<x->x≤i->j<y∧y≤i))->Ev fun k=>r6_Between.l3 k l of (i:Int) (j:Int) t' (x:Int) ((y:Int)+1)=R:=by
    intro t' ht;refine key t' ?_;cases t' with
    |true=>rw [yes (ht.1 rfl)]
    |false =>
     rw [Bool.false_and,Bool.true_and,eq_comm,decide_eq_false_iff_not];intro h0;exact absurd (ht.2 (h0 y (zLe _) hyl)) (by decide)
   by_cases c1:l.getD x 0=l.getD y 0
   ·by_cases c2:(j:Int)<(x:Int)
    ·by_cases c3:(x:Int)≤(i:Int)
     ·by_cases c4:(y:Int)≤(j:Int)
      ·refine (go (!true) ⟨fun h=>absurd h (by decide),fun h=>by have:=h c1 (by omega) (by omega);omega⟩).step fun k hk=>?_
       rw [r6_Between.l3,if_pos (by omega),if_pos rfl,if_pos (by omega),if_pos (by omega),if_pos (by omega),y1e,y1e,if_pos c1,if_pos c2,if_pos c3,if_pos c4,w64 (x:=(y:Int)+1) (by omega) (by omega)];exact hk
      ·refine (go (!(decide ((y:Int) > (i:Int)))) ⟨fun h _ _ _=>by simp at h;omega,fun h=>by have:=h c1 (by omega) (by omega);simp;omega⟩).step fun k hk=>?_
       rw [r6_Between.l3,if_pos (by omega),if_pos rfl,if_pos (by omega),if_pos (by omega),if_pos (by omega),y1e,y1e,if_pos c1,if_pos c2,if_pos c3,if_neg c4,w64 (x:=(y:Int)+1) (by omega) (by omega)];exact hk
     ·refine (go (!false) ⟨fun _ _ _ h=>by omega,fun _=>rfl⟩).step fun k hk=>?_
      rw [r6_Between.l3,if_pos (by omega),if_pos rfl,if_pos (by omega),if_pos (by omega),if_pos (by omega),y1e,y1e,if_pos c1,if_pos c2,if_neg c3,w64 (x:=(y:Int)+1) (by omega) (by omega)];exact hk
    ·refine (go (!false) ⟨fun _ _ h=>by omega,fun _=>rfl⟩).step fun k hk=>?_
     rw [r6_Between.l3,if_pos (by omega),if_pos rfl,if_pos (by omega),if_pos (by omega),if_pos (by omega),y1e,y1e,if_pos c1,if_neg c2,w64 (x:=(y:Int)+1) (by omega) (by omega)];exact hk
   ·refine (go (!false) ⟨fun _ h=>absurd h c1,fun _=>rfl⟩).step fun k hk=>?_
    rw [r6_Between.l3,if_pos (by omega),if_pos rfl,if_pos (by omega),if_pos (by omega),if_pos (by omega),y1e,y1e,if_neg c1,w64 (x:=(y:Int)+1) (by omega) (by omega)];exact hk
open Classical in
theorem rb_l2 {l:List Int} (hn:l.length≤12) {of:List Int} {i j:Nat} {R:Option (List Int × Int)}:∀ d x (t:Bool),x+d=l.length->(Ev fun k=>r6_Between.l2 k l of (i:Int) (j:Int) (t && decide (∀ x',x≤x'->x'<l.length->∀ y',0≤y'->y'<l.length->l.getD x' 0=l.getD y' 0->j<x'->x'≤i->j<y'∧y'≤i)) (l.length:Int)=R)->Ev fun k=>r6_Between.l2 k l of (i:Int) (j:Int) t (x:Int)=R
 |0,x,t,hx,h=>by
  rw [zDt (fun x' a b=>by omega),Bool.and_true] at h;have e:x=l.length:=by omega
  rw [e];exact h
 |d+1,x,t,hx,h=>by
  have hxl:x<l.length:=by omega
  have ih:=rb_l2 hn (of:=of) (i:=i) (j:=j) (R:=R) d (x+1) (t && decide (∀ y',0≤y'->y'<l.length->l.getD x 0=l.getD y' 0->j<x->x≤i->j<y'∧y'≤i)) (by omega) (by
   rw [Bool.and_assoc,← Bool.decide_and];refine h.mono fun k hk=>?_
   rw [← hk]
   congr 2
   refine decide_eq_decide.2 ⟨fun h x' a b=>?_,fun h=>⟨h x (zLe _) hxl,fun x' a b=>h x' (by omega) b⟩⟩
   by_cases e:x'=x
   ·subst e
    exact h.1
   ·exact h.2 x' (by omega) b)
  rw [show ((x+1:Nat):Int)=(x:Int)+1 by omega] at ih;refine (rb_l3 hn hxl l.length 0 t (Nat.zero_add _) ih).step fun k hk=>?_
  rw [r6_Between.l2,if_pos (by omega)];exact hk
noncomputable def y34 (l:List Int) (i k:Nat):Nat:=if lo l i<k then lo l i else i
open Classical in
theorem rb_l1 {l:List Int} (hn:l.length≤12) {i:Nat} (hi:i<l.length) {R:Option (List Int × Int)} (h:Ev fun r=>r6_Between.l0 r l ((wi l).take (i+1)) ((i:Int)+1)=R):∀ d k,k+d=i->Ev fun r=>r6_Between.l1 r l ((wi l).take i ++ [((y34 l i k:Nat):Int)]) (i:Int) (k:Int)=R
 |0,k,hk=>by
  have e:y34 l i k=lo l i:=by
   have:=(ydk l i).1;unfold y34;split<;>omega
  refine h.step fun r hr=>?_
  rw [e,← yce hi,r6_Between.l1,if_neg (by omega),w64 (x:=(i:Int)+1) (by omega) (by omega)];exact hr
 |d+1,k,hk=>by
  have ih:=rb_l1 hn hi h d (k+1) (by omega);rw [show ((k+1:Nat):Int)=(k:Int)+1 by omega] at ih;obtain ⟨a1,a2,a3⟩:=ydk l i;have htl:((wi l).take i).length=i:=by rw [List.length_take,y50];omega
  have hlen:((wi l).take i ++ [((y34 l i k:Nat):Int)]).length=i+1:=by rw [List.length_append,htl];rfl
  have gi:rd ((wi l).take i ++ [((y34 l i k:Nat):Int)]) (i:Int)=((y34 l i k:Nat):Int):=by
   rw [y1e,List.getD_eq_getElem?_getD,List.getElem?_append_right (by omega),htl];simp
  have gk:rd ((wi l).take i ++ [((y34 l i k:Nat):Int)]) (k:Int)=((lo l k:Nat):Int):=by
   rw [y1e,← wi_get (show k<l.length by omega),List.getD_eq_getElem?_getD,List.getD_eq_getElem?_getD,List.getElem?_append_left (by omega),List.getElem?_take,if_pos (by omega)]
  by_cases hu:UU l k i
  ·have h2:Ev fun r=>r6_Between.l2 r l ((wi l).take i ++ [((y34 l i k:Nat):Int)]) (i:Int) (k:Int) true (l.length:Int)=R:=by
    have lk:lo l i≤k:=Decidable.byContradiction fun c=>a3 k (by omega) hu
    by_cases hc:lo l i<k
    ·have e1:y34 l i k=lo l i:=if_pos hc
     have e2:y34 l i (k+1)=lo l i:=if_pos (by omega);rw [e2] at ih;rw [e1] at gi gk hlen ⊢;refine ih.step fun r hr=>?_
     rw [r6_Between.l2,if_neg (by omega),if_pos rfl,if_pos (by omega),if_pos (by rw [hlen];omega),gi,if_neg (by omega),w64 (x:=(k:Int)+1) (by omega) (by omega)];exact hr
    ·have e0:lo l i=k:=by omega
     have e1:y34 l i k=i:=if_neg hc;have e2:y34 l i (k+1)=lo l i:=if_pos (by omega);have e3:lo l k=lo l i:=(lo_iff (by omega) hi).2 hu;rw [e2] at ih;rw [e1] at gi gk hlen ⊢;refine ih.step fun r hr=>?_
     rw [r6_Between.l2,if_neg (by omega),if_pos rfl,if_pos (by omega),if_pos (by rw [hlen];omega),gi,if_pos rfl,if_pos (by omega),if_pos (by rw [hlen];omega),gk,e3,Int.toNat_natCast,List.set_append_right _ _ (by omega),htl,Nat.sub_self,List.set_cons_zero,w64 (x:=(k:Int)+1) (by omega) (by omega)];exact hr
   have h6:Ev fun r=>r6_Between.l2 r l ((wi l).take i ++ [((y34 l i k:Nat):Int)]) (i:Int) (k:Int) true ((0:Nat):Int)=R:=rb_l2 hn l.length 0 true (Nat.zero_add _) (by
    rw [zDt (fun x _ hx y _ hy e b c=>hu x y hx hy e b c)];exact h2)
   refine h6.step fun r hr=>?_
   ·rw [r6_Between.l1,if_pos (by omega)]
    exact hr
  ·have h2:Ev fun r=>r6_Between.l2 r l ((wi l).take i ++ [((y34 l i k:Nat):Int)]) (i:Int) (k:Int) false (l.length:Int)=R:=by
    have e0:lo l i≠k:=fun e=>hu (e ▸ a2)
    have e1:y34 l i (k+1)=y34 l i k:=by
     unfold y34;split<;>split<;>omega
    rw [e1] at ih;refine ih.step fun r hr=>?_
    rw [r6_Between.l2,if_neg (by omega),if_neg (by decide),w64 (x:=(k:Int)+1) (by omega) (by omega)];exact hr
   have h6:Ev fun r=>r6_Between.l2 r l ((wi l).take i ++ [((y34 l i k:Nat):Int)]) (i:Int) (k:Int) true ((0:Nat):Int)=R:=rb_l2 hn l.length 0 true (Nat.zero_add _) (by
    rw [zDf (fun h'=>hu fun x y hx hy e b c=>h' x (Nat.zero_le _) hx y (Nat.zero_le _) hy e b c)];exact h2)
   refine h6.step fun r hr=>?_
   ·rw [r6_Between.l1,if_pos (by omega)]
    exact hr
theorem rb_l0 {l:List Int} (hn:l.length≤12):∀ d i,i+d=l.length->Ev fun r=>r6_Between.l0 r l ((wi l).take i) (i:Int)=some (numL (wi l),0)
 |0,i,hi=>(y69 (l:=wi l) (by rw [y50];omega)).step fun r hr=>by
  rw [r6_Between.l0,if_neg (by omega),List.take_of_length_le (by rw [y50];omega),hr];rfl
 |d+1,i,hi=>by
  have ih:=rb_l0 hn d (i+1) (by omega);rw [show ((i+1:Nat):Int)=(i:Int)+1 by omega] at ih;refine (rb_l1 hn (by omega) ih i 0 (by omega)).step fun r hr=>?_
  rw [show y34 l i 0=i from if_neg (by omega)] at hr;rw [r6_Between.l0,if_pos (by omega),if_pos (by rw [List.length_take];omega)];exact hr
theorem yai {l:List Int} (hp:isP l=true) (hx:¬ XX l):Ev fun k=>r6_Between.f k l=some (numL (wi l),0):=by
 obtain ⟨a,b,c,d,x,h1,h2,_⟩:=y33 hp;refine ((y45 hp h2).and (rb_l0 (y2l hp) l.length 0 (Nat.zero_add _))).mono fun k hk=>?_
 have hx':x=false:=by
  cases x with
  |false=>rfl
  |true=>exact absurd (h1.1 rfl) hx
 unfold r6_Between.f;rw [hk.1];simp only [Option.bind_some,if_true];rw [if_neg (by rw [hx'];decide)];exact hk.2
theorem y9e {l:List Int} (hp:isP l=true) (hx:XX l):Ev fun k=>r6_Between.f k l=some ([],9):=by
 obtain ⟨a,b,c,d,x,h1,h2,_⟩:=y33 hp;refine (y45 hp h2).mono fun k hk=>?_
 unfold r6_Between.f;rw [hk];simp only [Option.bind_some,if_true];rw [if_pos (h1.2 hx)]
theorem yc8 {l:List Int} (hp:isP l=true) (b:Int) (h0:0<l.length):Ev fun k=>r6_Around.f k l b=some (numL (rot (shf b l.length) l),0):=by
 have hl:=y2l hp;have hs:=shf_lt b h0;have h3:-(l.length:Int)<Int.tmod b l.length∧Int.tmod b l.length<l.length:=by
  have a1:=Int.tmod_lt_of_pos b (show 0<(l.length:Int) by omega);have a2:=Int.lt_tmod_of_pos b (show 0<(l.length:Int) by omega);omega
 have h4:Int.tmod b l.length % l.length=b % l.length:=by
  have:=Int.tmod_add_mul_tdiv b l.length;have e:b=Int.tmod b l.length+l.length * Int.tdiv b l.length:=by omega
  conv=>rhs;rw [e,Int.add_mul_emod_self_left]
 have h5:((shf b l.length:Nat):Int)=Int.tmod b l.length % l.length:=by
  rw [h4];have:=Int.emod_nonneg b (show (l.length:Int)≠0 by omega);unfold shf;omega
 have hnum:=y69 (l:=rot (shf b l.length) l) (by rw [y9r];omega);have hj:Ev fun k=>r6_Around.j0 k l b 0 false=some (numL (rot (shf b l.length) l),0):=by
  refine hnum.step fun k hk=>?_
  rw [rot] at hk ⊢;rw [r6_Around.j0,if_neg (by decide),if_neg (by omega)]
  by_cases hc:Int.tmod b (l.length:Int)<0
  ·have e:wrap64 (Int.tmod b (l.length:Int)+(l.length:Int))=((shf b l.length:Nat):Int):=by
    rw [w64 (by omega) (by omega),h5,← Int.add_emod_right,Int.emod_eq_of_lt (by omega) (by omega)]
   rw [if_pos hc,e,if_pos (by omega),if_pos (by omega),Int.toNat_natCast,if_pos (by rw [List.length_drop];simp;omega)];simp only [Option.bind_some,List.nil_append];rw [if_pos (by rw [List.length_drop,List.length_take];omega),hk];rfl
  ·have e:Int.tmod b (l.length:Int)=((shf b l.length:Nat):Int):=by
    rw [h5,Int.emod_eq_of_lt (by omega) (by omega)]
   rw [if_neg hc,e,if_pos (by omega),if_pos (by omega),Int.toNat_natCast,if_pos (by rw [List.length_drop];simp;omega)];simp only [Option.bind_some,List.nil_append];rw [if_pos (by rw [List.length_drop,List.length_take];omega),hk];rfl
 refine (hj.and (Ev.ge 30 fun k hk=>hk)).mono fun k hk=>?_
 unfold r6_Around.f;rw [y2j l hk.2,if_pos hl,if_pos hp];simp only [Option.bind_some,if_true];rw [show (((l.length:Int) == 0)=false) from beq_eq_false_iff_ne.mpr (by omega)];exact hk.1
end
end Go.Proofs.Ytdhgeondbnpeoaa.Pl
namespace Go.Proofs.Ytdhgeondbnpeoaa.Pure
open Go.RowKit Go.Proofs.Ytdhgeondbnpeoaa.P Go.Proofs.Yw.Wd Go.Proofs.Yw.La
open Go.Proofs.Ytdhgeondbnpeoaa.Pl Go.Proofs.Ytdhgeondbnpeoaa.Ext
theorem y6g {l:List Int} {b:Int} {r1 r2:List Int} {e1 e2:Int} (h1:Ev fun k=>mobs_Between.f k l=some (r1,e1)) (h2:Ev fun k=>r6_Between.f k l=some (r1,e1)) (h3:Ev fun k=>mobs_Around.f k l b=some (r2,e2)) (h4:Ev fun k=>r6_Around.f k l b=some (r2,e2)) (l1:r1.length≤40) (l2:r2.length≤40):Ev fun k=>w6_MobsCrosses.j0 k l b false=some true:=by
 have h5:Ev fun k=>w6_MobsCrosses.j1 k l b false=some true:=by
  refine ((h3.and h4).and (Ev.ge 100 fun k hk=>hk)).step fun k hk=>?_
  rw [w6_MobsCrosses.j1,if_neg (by decide),hk.1.1,hk.1.2];simp only [Option.bind_some];rw [same_f l2 (by omega),zDt rfl];simp [w6_alive.f]
 refine (((h1.and h2).and h5).and (Ev.ge 100 fun k hk=>hk)).step fun k hk=>?_
 rw [w6_MobsCrosses.j0,if_neg (by decide),hk.1.1.1,hk.1.1.2];simp only [Option.bind_some];rw [same_f l1 (by omega),zDt rfl];simp only [Option.bind_some,if_true,bne_self_eq_false];exact hk.1.2
theorem yjb {l:List Int} (b:Int) (g0:l.length≤40):Ev fun k=>w6_MobsCrosses.f k l b=some true:=by
 by_cases hp:isP l=true
 ·have hn:=y2l hp
  obtain ⟨a0,b0,c0,d0,x,hxx,e0,e1⟩:=y33 hp;have e2:=y45 hp e0;have h0:Ev fun k=>w6_MobsCrosses.j0 k l b false=some true:=by
   have hA:∃ r2 e2,r2.length≤40∧(Ev fun k=>mobs_Around.f k l b=some (r2,e2))∧Ev fun k=>r6_Around.f k l b=some (r2,e2):=by
    by_cases h:0<l.length
    ·exact ⟨_,0,by rw [y5d,y9r];omega,Ev.ge 30 fun k hk=>yjp hp b h hk,yc8 hp b h⟩
    ·have e:l=[]:=List.eq_nil_of_length_eq_zero (by omega)
     subst e;have hj:Ev fun k=>r6_Around.j0 k [] b 0 true=some ([],0):=Ev.next fun k=>by rw [r6_Around.j0,if_pos rfl]
     refine ⟨[],0,by simp,Ev.ge 30 fun k hk=>yca b hk,(hj.and (Ev.ge 30 fun k hk=>hk)).mono fun k hk=>?_⟩;unfold r6_Around.f;rw [y2j [] hk.2,if_pos hn,if_pos hp];exact hk.1
   obtain ⟨r2,f2,l2,h3,h4⟩:=hA
   by_cases hX:XX l
   ·exact y6g (yam hp hX) (y9e hp hX) h3 h4 (by simp) l2
   ·exact y6g (yc9 hp hX) (yai hp hX) h3 h4 (by rw [y5d,y50];omega) l2
  refine ((e1.and e2).and h0).mono fun k hk=>?_
  unfold w6_MobsCrosses.f w6_few.f;rw [if_pos (by omega)];simp only [Option.bind_some];rw [zDt (by simp),if_pos rfl,hk.1.1,hk.1.2];simp only [Option.bind_some,beq_self_eq_true,Bool.not_true,Bool.or_false,bne_self_eq_false,Bool.false_eq_true,if_false];exact hk.2
 ·obtain ⟨e,he⟩:∃ e:Int,(∀ k,30≤k->mobs_read.f k [l]=some e)∧(∀ k,30≤k->r6_Parting.f k l=some e)∧e≠0:=by
   by_cases h:l.length≤12
   ·refine ⟨2,fun k hk=>?_,fun k hk=>?_,by decide⟩
    ·rw [y38 l hk,if_pos h,if_neg hp]
    ·rw [y2j l hk,if_pos h,if_neg hp]
   ·refine ⟨3,fun k hk=>?_,fun k hk=>?_,by decide⟩
    ·rw [y38 l hk,if_neg h]
    ·rw [y2j l hk,if_neg h]
  obtain ⟨m1,m2,m3⟩:=he;have c1:Ev fun k=>mobs_Crossed.f k l=some (0,0,0,0,false,e):=Ev.ge 30 fun k hk=>by
   unfold mobs_Crossed.f;rw [m1 k hk];simp only [Option.bind_some];rw [if_neg m3]
  have c2:Ev fun k=>r6_Crossed.f k l=some (0,0,0,0,false,e):=Ev.ge 30 fun k hk=>by
   unfold r6_Crossed.f;rw [m2 k hk];simp only [Option.bind_some];rw [if_neg m3]
  have b1:Ev fun k=>mobs_Between.f k l=some ([],e):=Ev.ge 30 fun k hk=>by
   unfold mobs_Between.f;rw [m1 k hk];simp only [Option.bind_some];rw [if_neg m3]
  have b2:Ev fun k=>r6_Between.f k l=some ([],e):=c2.mono fun k hk=>by
   unfold r6_Between.f;rw [hk];simp only [Option.bind_some];rw [if_neg m3]
  have a1:Ev fun k=>mobs_Around.f k l b=some ([],e):=Ev.ge 30 fun k hk=>by
   unfold mobs_Around.f;rw [m1 k hk];simp only [Option.bind_some];rw [if_neg m3]
  have hj:Ev fun k=>r6_Around.j0 k l b e true=some ([],e):=Ev.next fun k=>by rw [r6_Around.j0,if_pos rfl]
  have a2:Ev fun k=>r6_Around.f k l b=some ([],e):=(hj.and (Ev.ge 30 fun k hk=>hk)).mono fun k hk=>by
   unfold r6_Around.f;rw [m2 k hk.2];simp only [Option.bind_some];rw [if_neg m3];exact hk.1
  refine ((c1.and c2).and (y6g b1 b2 a1 a2 (by simp) (by simp))).mono fun k hk=>?_
  unfold w6_MobsCrosses.f w6_few.f;rw [if_pos (by omega)];simp only [Option.bind_some];rw [zDt (by simp),if_pos rfl,hk.1.1,hk.1.2];simp only [Option.bind_some,beq_self_eq_true,Bool.not_true,Bool.or_false,bne_self_eq_false,Bool.false_eq_true,if_false];exact hk.2
theorem MobsCrosses:w6_MobsCrosses.Pure:=by
 intro l b _ _ _ _
 by_cases g0:l.length≤40
 ·exact (yjb b g0).ex
 ·refine ⟨0,?_⟩
  unfold w6_MobsCrosses.f w6_few.f;rw [if_neg (by omega)];simp only [Option.bind_some];rw [if_neg (by decide)];rfl
end Go.Proofs.Ytdhgeondbnpeoaa.Pure
namespace Go.Proofs.Yw.Wd
open Go.ChangeShapes Go.WideShapes
theorem sized_ints {H:Type} {enc:TypeId × Value->H} {P:Program} {W:World} {base:Nat} {spare:Nat->Bool} {held:Bool} {t e:TypeId} {k:IntKind} {a:Option Addr} {len cap:Nat} {d:DataW H} {ps:List MemPlace} {ts:List TypeId} {ds:List (DataW H)} {j:Nat}
  (hsz:(DataW.weightsEach P ts ds).all (·≤reachBytes)=true) (ht:ts[j]?=some t) (hd:ds[j]?=some d) (hu:P.underlying t=some (.slice e)) (he:P.underlying e=some (.int k)) (hc:P.cellsOf e=1) {B:Nat} (hB:P.bytesOf e=B)
  (h:DataW.Trod enc P W base spare held t (.slice a len cap) d ps):len * B≤140737488351232:=by
 obtain ⟨fuel,hf⟩:=h;rcases open_ints hu he hc hf with ⟨hcs,_⟩|⟨x,l,c,zs,hcs,_,hl,_,hz,hx,_,_⟩
 ·simp [Value.cells] at hcs
  obtain ⟨rfl,rfl,rfl⟩:=hcs;simp
 ·simp [Value.cells] at hcs
  obtain ⟨rfl,rfl,rfl⟩:=hcs;obtain ⟨hx,_⟩:=Prod.mk.inj hx;subst hx;have z:=sized_slice hsz ht hd hu;rw [hB] at z;have hl2:len≤zs.length:=by
   rw [hz];split
   ·exact hl
   ·exact zLe _
  have h1:(lits (H:=H) k (zs.take len)).length+(lits (H:=H) k (zs.drop len)).length=zs.length:=by
   simp [lits];omega
  rw [h1] at z;exact Nat.le_trans (Nat.mul_le_mul_right _ hl2) z
end Go.Proofs.Yw.Wd
