/- Part of the proof of: The law HistReal returns true for every input, and leaves its arguments as they were. -/
import Derived.Test.YtemoifebbhoinaaGreatDoorHistReal15
set_option linter.all false
set_option maxRecDepth 20000
namespace Go.Proofs.YtemoifebbhoinaaGreatDoor
open Go.Proofs.Tryz
open Go.IntKind (i64 u64)
open _root_.Bool (and_eq_true)
open _root_.Int (fdiv toNat_natCast)
open _root_.List (append_assoc eq_nil_of_length_eq_zero getElem?_append_left getElem?_append_right getElem?_eq_getElem length_append length_drop length_pos_iff length_pos_of_mem length_take mem_of_mem_drop mem_of_mem_take pairwise_append take_append_drop)
open _root_.Nat (div_eq_of_lt le_refl lt_or_ge mul_comm zero_le)
section
open Go Mb
def Wit (u v:List Int) (a b:Nat) (R:Int->Int->Prop):Prop:=∃ x y,u[a]? = some x/\v[b]? = some y/\R x y
section
variable (s:Sl) (f:Value) (A:List As) (key:Int->Int) (S:Int->Prop) (hv:CmpOk f A key S)
include hv
def Ih (N:Nat):Prop:=∀ (p u v q:List Int) (a m b:Int) (h':Hp) (K:Unit->Hp->Prop),u.length + v.length <= N->u ≠ []->v ≠ []->(∀ y ∈ u,S y)->(∀ y ∈ v,S y)->Up key u->Up key v->p.length + u.length + v.length + q.length < 2 ^ 58->a = ((p.length:Nat):Int)->m = ((p.length + u.length:Nat):Int)->b = ((p.length + u.length + v.length:Nat):Int)->aB (vI s (p++(u++(v++q)))::A) h' ->
    (∀ m' h',m'.Perm (u++v)->Up key m'->aB (vI s (p++(m'++q))::A) h'->K () h')->cl prog cn [sv s,.int .i64 a,.int .i64 m,.int .i64 b,f] R_ K h'
omit hv in
theorem ih_of {N:Nat} (H:Ih s f A key S N):∀ (p u v q:List Int) (a m b:Int) (h':Hp) (K:Unit->Hp->Prop),u.length + v.length <= N->u ≠ []->v ≠ []->(∀ y ∈ u,S y)->(∀ y ∈ v,S y)->Up key u->Up key v->p.length + u.length + v.length + q.length < 2 ^ 58->a = ((p.length:Nat):Int)->m = ((p.length + u.length:Nat):Int)->b = ((p.length + u.length + v.length:Nat):Int)->aB (vI s (p++(u++(v++q)))::A) h' ->
    (∀ m' h',m'.Perm (u++v)->Up key m'->aB (vI s (p++(m'++q))::A) h'->K () h')->cl prog cn [sv s,.int .i64 a,.int .i64 m,.int .i64 b,f] R_ K h':=H
abbrev Tgt (p q u1 u2 v1 v2:List Int):Unit->Hp->Prop:=fun _ h=>∃ m',(m'.Perm ((u1++u2)++(v1++v2))/\Up key m')/\aB (vI s (p++(m'++q))::A) h
structure Cut4 (N:Nat) (p q u1 u2 v1 v2:List Int) (i M B mid:Nat):Prop where
 l1:p.length + u1.length = i
 l2:i + u2.length = M
 l3:i + v1.length = mid
 l4:M + v1.length + v2.length = B
 lm:mid = (p.length + B) / 2
 ln:u1.length + u2.length + (v1.length + v2.length) <= N + 1
 lu:2 <= u1.length + u2.length
 lv:2 <= v1.length + v2.length
 lb:B + q.length < 2 ^ 58
 s1:∀ y ∈ u1,S y
 s2:∀ y ∈ u2,S y
 s3:∀ y ∈ v1,S y
 s4:∀ y ∈ v2,S y
 u:Up key (u1++u2)
 v:Up key (v1++v2)
 h12:∀ x ∈ u1,∀ y ∈ v2,key x <= key y
 h21:∀ x ∈ v1,∀ y ∈ u2,key x <= key y
variable {N:Nat} {p q u1 u2 v1 v2:List Int} {i M B mid:Nat}
omit hv in
theorem merge_j3 (C:Cut4 key S N p q u1 u2 v1 v2 i M B mid) (IH:Ih s f A key S N) (w1:List Int) (h3:Hp) (p1:w1.Perm (u1++v1)) (o1:Up key w1) (s3:aB (vI s (p++(w1++(u2++(v2++q))))::A) h3) :
  dK s (p.length:Int) (M:Int) (B:Int) f (Tgt s A key p q u1 u2 v1 v2) ((i:Int),(i:Int)) () h3:=by
 have IH:=ih_of s f A key S IH
 obtain ⟨l1,l2,l3,l4,lm,ln,lu,lv,lb,hS1,hS2,hS3,hS4,hU1,hV1,h12,h21⟩:=C
 have lw:=p1.length_eq
 rw [length_append] at lw
 unfold dK
 simp only
 have hhm':i64.wrap (fdiv (u64.wrap (i64.wrap (((p.length:Nat):Int) + (B:Int)))) (2 ^ (min (Int.toNat 1) (IntKind.bits .u64)))) = ((mid:Nat):Int):=by rw [mid_eq _ _ (by omega),lm]
 have wn':i64.wrap ((mid:Int) + (M:Int)) = ((mid + M:Nat):Int):=by rw [bm (by omega) (by omega)]; omega
 have we':i64.wrap (((mid + M:Nat):Int) - (i:Int)) = ((mid + M - i:Nat):Int):=by rw [bm (by omega) (by omega)]; omega
 rw [hhm',wn',we']
 clear hhm' wn' we'
 have done:∀ (w2:List Int) (h':Hp),w2.Perm (u2++v2)->Up key w2->aB (vI s (p++(w1++(w2++q)))::A) h'->Tgt s A key p q u1 u2 v1 v2 () h':=by
  intro w2 h4 p2 o2 s4
  exact ⟨w1++w2,⟨perm_join p1 p2,up_join hU1 hV1 h12 h21 p1 p2 o1 o2⟩,by rw [append_assoc]; exact s4⟩
 refine aY (fun c3=>?_) (fun c3=>?_)
 ·rw [and_eq_true,decide_eq_true_eq,decide_eq_true_eq] at c3
  have e2:0 < u2.length:=by omega
  have e4:0 < v2.length:=by omega
  have epw:(p++w1).length = mid:=by rw [length_append]; omega
  refine IH (p++w1) u2 v2 q _ _ _ _ _ (by omega) (length_pos_iff.1 e2) (length_pos_iff.1 e4) hS2 hS4 (pairwise_append.1 hU1).2.1 (pairwise_append.1 hV1).2.1 (by omega) (by rw [epw]) (by rw [epw]; omega) (by rw [epw]; omega) (by rw [append_assoc]; exact s3) fun w2 h4 p2 o2 s4=>?_
  exact done w2 h4 p2 o2 (by rw [append_assoc] at s4; exact s4)
 ·have hor:u2 = []\/v2 = []:=by
   rw [Bool.and_eq_false_iff,decide_eq_false_iff_not,decide_eq_false_iff_not] at c3
   rcases c3 with h | h
   ·exact .inl (eq_nil_of_length_eq_zero (by omega))
   ·exact .inr (eq_nil_of_length_eq_zero (by omega))
  refine done (u2++v2) h3 (.refl _) ?_ (by rw [append_assoc u2 v2 q]; exact s3)
  rcases hor with e | e
  ·rw [e]; simpa using (pairwise_append.1 hV1).2.1
  ·rw [e]; simpa using (pairwise_append.1 hU1).2.1
omit hv in
theorem merge_j2 (C:Cut4 key S N p q u1 u2 v1 v2 i M B mid) (IH:Ih s f A key S N) (h3:Hp) (s3:aB (vI s (p++(u1++(v1++(u2++(v2++q)))))::A) h3) :
  bY s (p.length:Int) (M:Int) (B:Int) f (Tgt s A key p q u1 u2 v1 v2) ((i:Int),(i:Int)) () h3:=by
 have go3:=merge_j3 s f A key S C IH
 have IH:=ih_of s f A key S IH
 obtain ⟨l1,l2,l3,l4,lm,ln,lu,lv,lb,hS1,hS2,hS3,hS4,hU1,hV1,h12,h21⟩:=C
 unfold bY
 simp only
 have hhm':i64.wrap (fdiv (u64.wrap (i64.wrap (((p.length:Nat):Int) + (B:Int)))) (2 ^ (min (Int.toNat 1) (IntKind.bits .u64)))) = ((mid:Nat):Int):=by rw [mid_eq _ _ (by omega),lm]
 rw [hhm']
 clear hhm'
 refine aY (fun c3=>?_) (fun c3=>?_)
 ·rw [and_eq_true,decide_eq_true_eq,decide_eq_true_eq] at c3
  have e2:0 < u1.length:=by omega
  have e4:0 < v1.length:=by omega
  refine IH p u1 v1 (u2++(v2++q)) _ _ _ _ _ (by omega) (length_pos_iff.1 e2) (length_pos_iff.1 e4) hS1 hS3 (pairwise_append.1 hU1).1 (pairwise_append.1 hV1).1 (by rw [length_append,length_append]; omega) rfl (by omega) (by omega) s3 fun w1 h4 p1 o1 s4=>?_
  exact go3 w1 h4 p1 o1 s4
 ·have hor:u1 = []\/v1 = []:=by
   rw [Bool.and_eq_false_iff,decide_eq_false_iff_not,decide_eq_false_iff_not] at c3
   rcases c3 with h | h
   ·exact .inl (eq_nil_of_length_eq_zero (by omega))
   ·exact .inr (eq_nil_of_length_eq_zero (by omega))
  refine go3 (u1++v1) h3 (.refl _) ?_ (by rw [append_assoc u1 v1]; exact s3)
  rcases hor with e | e
  ·rw [e]; simpa using (pairwise_append.1 hV1).1
  ·rw [e]; simpa using (pairwise_append.1 hU1).1
omit hv in
theorem merge_j1 (C:Cut4 key S N p q u1 u2 v1 v2 i M B mid) (IH:Ih s f A key S N) (h1:Hp) (s2:aB (vI s (p++((u1++u2)++((v1++v2)++q)))::A) h1) :
  br ((decide ((i:Int) < (M:Int))) && (decide ((M:Int) < ((mid + M - i:Nat):Int)))) (
  cl prog dG [(sv s),(.int .i64 (i:Int)),(.int .i64 (M:Int)),(.int .i64 ((mid + M - i:Nat):Int)),f] R_ fun (_:Unit) =>
  bY s (p.length:Int) (M:Int) (B:Int) f (Tgt s A key p q u1 u2 v1 v2) ((i:Int),(i:Int)) ()) (
  bY s (p.length:Int) (M:Int) (B:Int) f (Tgt s A key p q u1 u2 v1 v2) ((i:Int),(i:Int)) ()) h1:=by
 have go2:=merge_j2 s f A key S C IH
 obtain ⟨l1,l2,l3,l4,lm,ln,lu,lv,lb,_,_,_,_,_,_,_,_⟩:=C
 refine aY (fun c3=>?_) (fun c3=>?_)
 ·rw [and_eq_true,decide_eq_true_eq,decide_eq_true_eq] at c3
  have lpu:(p++u1).length = i:=by rw [length_append]; omega
  have e2:0 < u2.length:=by omega
  have e4:0 < v1.length:=by omega
  have a1:((i:Nat):Int) = (((p++u1).length:Nat):Int):=by rw [lpu]
  have a2:((M:Nat):Int) = (((p++u1).length + u2.length:Nat):Int):=by rw [lpu]; omega
  have a3:((mid + M - i:Nat):Int) = (((p++u1).length + u2.length + v1.length:Nat):Int):=by rw [lpu]; omega
  have cr:cl prog dG [sv s,.int .i64 (((p++u1).length:Nat):Int),.int .i64 (((p++u1).length + u2.length:Nat):Int),.int .i64 (((p++u1).length + u2.length + v1.length:Nat):Int),f] R_ (fun _=>bY s (p.length:Int) (M:Int) (B:Int) f (Tgt s A key p q u1 u2 v1 v2) ((i:Int),(i:Int)) ()) h1:=by
   refine (sp_rotate s f A (p++u1) u2 v1 (v2++q) (length_pos_iff.1 e2) (length_pos_iff.1 e4) (by rw [lpu,length_append]; omega) h1 (by simpa using s2)).mono ?_
   rintro w h'' ⟨r,e,s4⟩
   exact ⟨r,e,go2 h'' (by simpa using s4)⟩
  rw [← a1,← a2,← a3] at cr
  exact cr
 ·have hor:u2 = []\/v1 = []:=by
   rw [Bool.and_eq_false_iff,decide_eq_false_iff_not,decide_eq_false_iff_not] at c3
   rcases c3 with h | h
   ·exact .inl (eq_nil_of_length_eq_zero (by omega))
   ·exact .inr (eq_nil_of_length_eq_zero (by omega))
  refine go2 h1 ?_
  rcases hor with e | e
  ·rw [e] at s2 ⊢; simpa using s2
  ·rw [e] at s2 ⊢; simpa using s2
omit hv in
theorem merge_exit (p u v q:List Int) (hN:u.length + v.length <= N + 1) (hSu:∀ y ∈ u,S y) (hSv:∀ y ∈ v,S y) (hUu:Up key u) (hUv:Up key v) (hb:p.length + u.length + v.length + q.length < 2 ^ 58) (hu2:2 <= u.length) (hv2:2 <= v.length) (hmid:mid = (p.length + (p.length + u.length + v.length)) / 2) (IH:Ih s f A key S N)
  (lo hi:Nat) (hlo:p.length <= lo) (hhi:hi <= p.length + u.length) (hhm2:hi <= mid) (hn2:mid + (p.length + u.length) - lo <= p.length + u.length + v.length)
  (hlo2:lo = p.length\/mid + (p.length + u.length) - lo = p.length + u.length + v.length) (hhi2:hi = p.length + u.length\/hi = mid) (h1:Hp) (hi0:lo <= i) (hj0:i <= hi)
  (hI:i = lo\/Wit u v (i - 1 - p.length) (mid - i) fun x y=>key x <= key y) (hJ:i = hi\/Wit u v (i - p.length) (mid - 1 - i) fun x y=>key y < key x) (s1:aB (vI s (p++(u++(v++q)))::A) h1) :
  br ((decide ((i:Int) < ((p.length + u.length:Nat):Int))) && (decide (((p.length + u.length:Nat):Int) < ((mid + (p.length + u.length) - i:Nat):Int)))) (
  cl prog dG [(sv s),(.int .i64 (i:Int)),(.int .i64 ((p.length + u.length:Nat):Int)),(.int .i64 ((mid + (p.length + u.length) - i:Nat):Int)),f] R_ fun (_:Unit) =>
  bY s (p.length:Int) ((p.length + u.length:Nat):Int) ((p.length + u.length + v.length:Nat):Int) f (fun _ h=>∃ m',(m'.Perm (u++v)/\Up key m')/\aB (vI s (p++(m'++q))::A) h) ((i:Int),(i:Int)) ()) (
  bY s (p.length:Int) ((p.length + u.length:Nat):Int) ((p.length + u.length + v.length:Nat):Int) f (fun _ h=>∃ m',(m'.Perm (u++v)/\Up key m')/\aB (vI s (p++(m'++q))::A) h) ((i:Int),(i:Int)) ()) h1:=by
 have hsu:u = u.take (i - p.length)++u.drop (i - p.length):=(take_append_drop _ _).symm
 have hsv:v = v.take (mid - i)++v.drop (mid - i):=(take_append_drop _ _).symm
 have l1:(u.take (i - p.length)).length = i - p.length:=by rw [length_take]; omega
 have l2:(u.drop (i - p.length)).length = p.length + u.length - i:=by rw [length_drop]; omega
 have l3:(v.take (mid - i)).length = mid - i:=by rw [length_take]; omega
 have l4:(v.drop (mid - i)).length = v.length - (mid - i):=length_drop
 have h12:∀ x ∈ u.take (i - p.length),∀ y ∈ v.drop (mid - i),key x <= key y:=by
  intro x hx y hy
  rcases hI with e | ⟨a,b,e1,e2,e3⟩
  ·exfalso
   have:=length_pos_of_mem hx
   have:=length_pos_of_mem hy
   omega
  ·have hil:0 < i - p.length:=by have:=length_pos_of_mem hx; omega
   have f1:=up_take hUu e1 (x:=x) (by rw [show i - 1 - p.length + 1 = i - p.length by omega]; exact hx)
   have f2:=up_drop hUv e2 hy
   omega
 have h21:∀ x ∈ v.take (mid - i),∀ y ∈ u.drop (i - p.length),key x <= key y:=by
  intro x hx y hy
  rcases hJ with e | ⟨a,b,e1,e2,e3⟩
  ·exfalso
   have:=length_pos_of_mem hx
   have:=length_pos_of_mem hy
   omega
  ·have hil:0 < mid - i:=by have:=length_pos_of_mem hx; omega
   have f1:=up_take hUv e2 (x:=x) (by rw [show mid - 1 - i + 1 = mid - i by omega]; exact hx)
   have f2:=up_drop hUu e1 hy
   omega
 have hS1:∀ y ∈ u.take (i - p.length),S y:=fun y hy=>hSu y (mem_of_mem_take hy)
 have hS2:∀ y ∈ u.drop (i - p.length),S y:=fun y hy=>hSu y (mem_of_mem_drop hy)
 have hS3:∀ y ∈ v.take (mid - i),S y:=fun y hy=>hSv y (mem_of_mem_take hy)
 have hS4:∀ y ∈ v.drop (mid - i),S y:=fun y hy=>hSv y (mem_of_mem_drop hy)
 have hperm:((u.take (i - p.length)++u.drop (i - p.length))++(v.take (mid - i)++v.drop (mid - i))) = u++v:=by rw [← hsu,← hsv]
 have s2:aB (vI s (p++((u.take (i - p.length)++u.drop (i - p.length))++((v.take (mid - i)++v.drop (mid - i))++q)))::A) h1:=by rw [← hsu,← hsv]; exact s1
 have C:Cut4 key S N p q (u.take (i - p.length)) (u.drop (i - p.length)) (v.take (mid - i)) (v.drop (mid - i)) i (p.length + u.length) (p.length + u.length + v.length) mid:=⟨by omega,by omega,by omega,by omega,hmid,by omega,by omega,by omega,by omega,hS1,hS2,hS3,hS4,by rw [← hsu]; exact hUu,by rw [← hsv]; exact hUv,h12,h21⟩
 have R:=merge_j1 s f A key S C IH h1 s2
 have eT:Tgt s A key p q (u.take (i - p.length)) (u.drop (i - p.length)) (v.take (mid - i)) (v.drop (mid - i)) = fun _ h=>∃ m',(m'.Perm (u++v)/\Up key m')/\aB (vI s (p++(m'++q))::A) h:=by unfold Tgt; rw [hperm]
 rw [eT] at R
 exact R
theorem merge_l5 (N:Nat) (p u v q:List Int) (hN:u.length + v.length <= N + 1) (hSu:∀ y ∈ u,S y) (hSv:∀ y ∈ v,S y) (hUu:Up key u) (hUv:Up key v) (hb:p.length + u.length + v.length + q.length < 2 ^ 58) (hu2:2 <= u.length) (hv2:2 <= v.length) (mid:Nat) (hmid:mid = (p.length + (p.length + u.length + v.length)) / 2) (IH:Ih s f A key S N) :
  ∀ (lo hi:Nat) (h:Hp),lo <= hi->p.length <= lo->hi <= p.length + u.length->hi <= mid->p.length + u.length <= mid + (p.length + u.length) - hi->mid + (p.length + u.length) - lo <= p.length + u.length + v.length ->
    (lo = p.length\/mid + (p.length + u.length) - lo = p.length + u.length + v.length)->(hi = p.length + u.length\/hi = mid)->aB (vI s (p++(u++(v++q)))::A) h ->
    Lp (eS s (p.length:Int) ((p.length + u.length:Nat):Int) ((p.length + u.length + v.length:Nat):Int) f (fun _ h=>∃ m',(m'.Perm (u++v)/\Up key m')/\aB (vI s (p++(m'++q))::A) h)) ((lo:Int),(hi:Int)) h:=by
 have hhm:i64.wrap (fdiv (u64.wrap (i64.wrap (((p.length:Nat):Int) + ((p.length + u.length + v.length:Nat):Int)))) (2 ^ (min (Int.toNat 1) (IntKind.bits .u64)))) = ((mid:Nat):Int):=by
  rw [mid_eq _ _ (by omega),hmid]
 have wn:i64.wrap ((mid:Int) + ((p.length + u.length:Nat):Int)) = ((mid + (p.length + u.length):Nat):Int):=by rw [bm (by omega) (by omega)]; omega
 intro lo hi h hlh hlo hhi hhm2 hn1 hn2 hlo2 hhi2 s0
 have getu:∀ c:Nat,p.length <= c->c < p.length + u.length->(p++(u++(v++q)))[c]? = u[c - p.length]?:=fun c h1 h2=>by rw [getElem?_append_right h1,getElem?_append_left (by omega)]
 have getv:∀ c:Nat,p.length + u.length <= c->c < p.length + u.length + v.length->(p++(u++(v++q)))[c]? = v[c - p.length - u.length]?:=fun c h1 h2=>by rw [getElem?_append_right (by omega),getElem?_append_right (by omega),getElem?_append_left (by omega)]
 have hL:(p++(u++(v++q))).length = p.length + u.length + v.length + q.length:=by simp; omega
 refine Lp.intro (fun (t:Int × Int) h=>∃ i j:Nat,t = ((i:Int),(j:Int))/\lo <= i/\i <= j/\j <= hi/\(i = lo\/Wit u v (i - 1 - p.length) (mid - i) fun x y=>key x <= key y)/\(j = hi\/Wit u v (j - p.length) (mid - 1 - j) fun x y=>key y < key x)/\aB (vI s (p++(u++(v++q)))::A) h) (fun (t:Int × Int) _=>t.2.toNat - t.1.toNat)
  ⟨lo,hi,rfl,le_refl _,hlh,le_refl _,.inl rfl,.inl rfl,s0⟩ ?_
 rintro t h1 ⟨i,j,rfl,hi0,hij,hj0,hI,hJ,s1⟩
 unfold eS
 simp only
 rw [hhm,wn]
 have wp:i64.wrap (((mid + (p.length + u.length):Nat):Int) - 1) = ((mid + (p.length + u.length) - 1:Nat):Int):=by rw [bm (by omega) (by omega)]; omega
 have we:i64.wrap (((mid + (p.length + u.length):Nat):Int) - (i:Int)) = ((mid + (p.length + u.length) - i:Nat):Int):=by rw [bm (by omega) (by omega)]; omega
 have hc:i64.wrap (fdiv (u64.wrap (i64.wrap ((i:Int) + (j:Int)))) (2 ^ (min (Int.toNat 1) (IntKind.bits .u64)))) = (((i + j) / 2:Nat):Int):=mid_eq _ _ (by omega)
 rw [wp,hc,we]
 refine aY (fun c=>?_) (fun c=>?_)
 ·have hlt:i < j:=by have:=of_decide_eq_true c; omega
  obtain ⟨m,hm⟩:∃ m,m = (i + j) / 2:=⟨_,rfl⟩
  rw [← hm]
  have wpc:i64.wrap (((mid + (p.length + u.length) - 1:Nat):Int) - (m:Int)) = ((mid + (p.length + u.length) - 1 - m:Nat):Int):=by rw [bm (by omega) (by omega)]; omega
  rw [wpc]
  have hmu:m - p.length < u.length:=by omega
  have hmv:mid - 1 - m < v.length:=by omega
  have g1:(p++(u++(v++q)))[mid + (p.length + u.length) - 1 - m]? = some v[mid - 1 - m]:=by
   rw [getv _ (by omega) (by omega),show mid + (p.length + u.length) - 1 - m - p.length - u.length = mid - 1 - m by omega,getElem?_eq_getElem hmv]
  have g2:(p++(u++(v++q)))[m]? = some u[m - p.length]:=by rw [getu _ (by omega) (by omega),getElem?_eq_getElem hmu]
  refine cZ s1 (j:=0) rfl (by omega) (by omega) fun q1 hq1=>?_
  refine cZ s1 (j:=0) rfl (by omega) (by omega) fun q2 hq2=>?_
  refine dz (j:=0) (i:=mid + (p.length + u.length) - 1 - m) (k:=0) v[mid - 1 - m] (ct _) s1 rfl hq1 (by rw [toNat_natCast]; rfl) g1 (by simp) ?_
  refine dz (j:=0) (i:=m) (k:=0) u[m - p.length] (ct _) s1 rfl hq2 (by rw [toNat_natCast]; rfl) g2 (by simp) ?_
  refine clv_t (hv v[mid - 1 - m] u[m - p.length] (hSv _ (List.getElem_mem hmv)) (hSu _ (List.getElem_mem hmu))) s1 fun r h3 s3=>?_
  obtain ⟨hr,s4⟩:=bt.1 s3
  have s5:=wA s4
  refine aY (fun k3=>?_) (fun k3=>?_)
  ·have k3':key u[m - p.length] <= key v[mid - 1 - m]:=by
    have:¬ key v[mid - 1 - m] < key u[m - p.length]:=fun hh=>by have:=hr.2 hh; simp at k3; omega
    omega
   have hw:i64.wrap (((m:Nat):Int) + 1) = ((m + 1:Nat):Int):=by rw [bm (by omega) (by omega)]; omega
   rw [hw]
   refine ⟨⟨m + 1,j,rfl,by omega,by omega,hj0,.inr ⟨u[m - p.length],v[mid - 1 - m],?_,?_,k3'⟩,hJ,s5⟩,by simp only [toNat_natCast]; omega⟩
   ·rw [show m + 1 - 1 - p.length = m - p.length by omega]; exact getElem?_eq_getElem hmu
   ·rw [show mid - (m + 1) = mid - 1 - m by omega]; exact getElem?_eq_getElem hmv
  ·have k3':key v[mid - 1 - m] < key u[m - p.length]:=hr.1 (by simpa using k3)
   exact ⟨⟨i,m,rfl,hi0,by omega,by omega,hI,.inr ⟨_,_,getElem?_eq_getElem hmu,getElem?_eq_getElem hmv,k3'⟩,s5⟩,by simp only [toNat_natCast]; omega⟩
 ·have he:i = j:=by have:=of_decide_eq_false c; omega
  subst he
  exact merge_exit s f A key S p u v q hN hSu hSv hUu hUv hb hu2 hv2 hmid IH lo hi hlo hhi hhm2 hn2 hlo2 hhi2 h1 hi0 hj0 hI hJ s1
theorem sp_symMerge:∀ (N:Nat) (p u v q:List Int),u.length + v.length <= N->u ≠ []->v ≠ []->(∀ y ∈ u,S y)->(∀ y ∈ v,S y)->Up key u->Up key v->p.length + u.length + v.length + q.length < 2 ^ 58 ->
  Sp prog cn [sv s,.int .i64 p.length,.int .i64 (p.length + u.length:Nat),.int .i64 (p.length + u.length + v.length:Nat),f] R_ (vI s (p++(u++(v++q)))::A) (fun _ h=>∃ m',(m'.Perm (u++v)/\Up key m')/\aB (vI s (p++(m'++q))::A) h)
 | 0,p,u,v,q,hN,hu,_,_,_,_,_,_=>absurd (length_pos_iff.2 hu) (by omega)
 | N + 1,p,u,v,q,hN,hu,hvn,hSu,hSv,hUu,hUv,hb=>by
  intro h s0
  have hup:=length_pos_iff.2 hu
  have hvp:=length_pos_iff.2 hvn
  refine qL _ _ _ _ _ ?_
  unfold kv
  have w1:i64.wrap (((p.length + u.length:Nat):Int) - ((p.length:Nat):Int)) = ((u.length:Nat):Int):=by rw [bm (by omega) (by omega)]; omega
  have w2:i64.wrap (((p.length + u.length + v.length:Nat):Int) - ((p.length + u.length:Nat):Int)) = ((v.length:Nat):Int):=by rw [bm (by omega) (by omega)]; omega
  rw [w1,w2]
  refine aY (fun c1=>?_) (fun c1=>?_)
  ·have hl0:((u.length:Nat):Int) = 1:=by simpa using c1
   have hl1:u.length = 1:=by omega
   obtain ⟨x,rfl⟩:=List.length_eq_one_iff.1 hl1
   have e:((p.length + [x].length + v.length:Nat):Int) = ((p.length + 1 + v.length:Nat):Int):=rfl
   rw [e]
   refine merge_l1 s f A key S hv p v q x _ ⟨hSu x (by simp),hSv⟩ hUv (by simp at hb; omega) (by simpa using s0) fun m' h' hp hm s'=>?_
   exact ⟨m',⟨hp,hm⟩,s'⟩
  refine aY (fun c2=>?_) (fun c2=>?_)
  ·have hl0:((v.length:Nat):Int) = 1:=by simpa using c2
   have hl1:v.length = 1:=by omega
   obtain ⟨x,rfl⟩:=List.length_eq_one_iff.1 hl1
   refine merge_l3 s f A key S hv p u q x _ ⟨hSv x (by simp),hSu⟩ hUu (by simp at hb; omega) (by simpa using s0) fun m' h' hp hm s'=>?_
   exact ⟨m',⟨hp,hm⟩,s'⟩
  have hu2:u.length ≠ 1:=by intro e; rw [e] at c1; cases c1
  have hv2:v.length ≠ 1:=by intro e; rw [e] at c2; cases c2
  obtain ⟨mid,hmid⟩:∃ mid,mid = (p.length + (p.length + u.length + v.length)) / 2:=⟨_,rfl⟩
  have hhm:i64.wrap (fdiv (u64.wrap (i64.wrap (((p.length:Nat):Int) + ((p.length + u.length + v.length:Nat):Int)))) (2 ^ (min (Int.toNat 1) (IntKind.bits .u64)))) = ((mid:Nat):Int):=by
   rw [mid_eq _ _ (by omega),hmid]
  rw [hhm]
  have wn:i64.wrap ((mid:Int) + ((p.length + u.length:Nat):Int)) = ((mid + (p.length + u.length):Nat):Int):=by rw [bm (by omega) (by omega)]; omega
  have IH:Ih s f A key S N:=by
   rintro p u v q a m b h' K h1 h2 h3 h4 h5 h6 h7 h8 rfl rfl rfl s1 k
   refine (sp_symMerge N p u v q h1 h2 h3 h4 h5 h6 h7 h8 h' s1).mono ?_
   rintro w h'' ⟨r,e,m',⟨g1,g2⟩,s2⟩
   exact ⟨r,e,k m' h'' g1 g2 s2⟩
  have key_:=merge_l5 s f A key S hv N p u v q hN hSu hSv hUu hUv hb (by omega) (by omega) mid hmid IH
  refine aY (fun c3=>?_) (fun c3=>?_)
  ·have hgt:mid < p.length + u.length:=by have:=of_decide_eq_true c3; omega
   have wl:i64.wrap ((i64.wrap ((mid:Int) + ((p.length + u.length:Nat):Int))) - ((p.length + u.length + v.length:Nat):Int)) = ((mid + (p.length + u.length) - (p.length + u.length + v.length):Nat):Int):=by rw [wn,bm (by omega) (by omega)]; omega
   rw [wl]
   unfold dL
   exact key_ _ mid h (by omega) (by omega) (by omega) (le_refl _) (by omega) (by omega) (.inr (by omega)) (.inr rfl) s0
  ·have hle:p.length + u.length <= mid:=by have:=of_decide_eq_false c3; omega
   unfold dL
   exact key_ p.length (p.length + u.length) h (by omega) (le_refl _) (le_refl _) hle (by omega) (by omega) (.inl rfl) (.inl rfl) s0
end
end
section
open Go Mb
def Bl (key:Int->Int) (sz lo hi:Nat) (L:List Int):Prop:=∀ (i j:Nat) (x y:Int),lo <= i->i < j->j < hi->i / sz = j / sz->L[i]? = some x->L[j]? = some y->key x <= key y
section pure
variable {key:Int->Int}
theorem cut3 (L:List Int) (a k:Nat):L = L.take a++((L.drop a).take k++L.drop (a + k)):=by
 have h1:(L.drop a).take k++L.drop (a + k) = L.drop a:=by rw [← List.drop_drop]; exact take_append_drop k (L.drop a)
 rw [h1,take_append_drop]
theorem div_mono {B i t:Nat} (hB:0 < B) (h:B * t <= i):t <= i / B:=by rw [Nat.le_div_iff_mul_le hB,mul_comm]; exact h
theorem div_small {B i t:Nat} (hB:0 < B) (h:i < B * t):i / B < t:=by rw [Nat.div_lt_iff_lt_mul hB,mul_comm]; exact h
theorem bl_step {B t:Nat} {p m m' q:List Int} (hB:0 < B) (hp:p.length = B * t) (hl:m'.length = m.length) (hu:Up key m') (h:Bl key B 0 (B * t) (p++(m++q))):Bl key B 0 (B * t + m.length) (p++(m'++q)):=by
 intro i j x y _ hij hj hd hx hy
 rcases lt_or_ge j (B * t) with h1 | h1
 ·rw [getElem?_append_left (by omega)] at hx hy
  exact h i j x y (zero_le _) hij h1 hd (by rw [getElem?_append_left (by omega)]; exact hx) (by rw [getElem?_append_left (by omega)]; exact hy)
 ·have h2:=div_mono hB h1
  have h3:B * t <= i:=by
   rcases lt_or_ge i (B * t) with h4 | h4
   ·have:=div_small hB h4; omega
   ·exact h4
  rw [getElem?_append_right (by omega),getElem?_append_left (by omega)] at hx hy
  exact up_get hu (by omega) hx hy
theorem bl_keep {sz lo hi n:Nat} {p m m' q:List Int} (hl:m'.length = m.length) (h1:lo <= hi) (h2:p.length + m.length <= hi) (h:Bl key sz lo n (p++(m++q))):Bl key sz hi n (p++(m'++q)):=by
 intro i j x y hi' hij hj hd hx hy
 rw [getElem?_append_right (by omega),getElem?_append_right (by omega)] at hx hy
 exact h i j x y (by omega) hij hj hd (by rw [getElem?_append_right (by omega),getElem?_append_right (by omega),← hl]; exact hx) (by rw [getElem?_append_right (by omega),getElem?_append_right (by omega),← hl]; exact hy)
theorem up_seg {sz lo hi c k:Nat} {L:List Int} (hs:0 < sz) (h:Bl key sz lo hi L) (h1:lo <= sz * c) (h2:sz * c + k <= hi) (h3:k <= sz):Up key ((L.drop (sz * c)).take k):=by
 refine List.pairwise_iff_getElem.2 fun i j hi' hj' hij=>?_
 rw [length_take,length_drop] at hi' hj'
 rw [List.getElem_take,List.getElem_take,List.getElem_drop,List.getElem_drop]
 have e:∀ a,a < sz->(sz * c + a) / sz = c:=fun a ha=>by
  rw [Nat.mul_add_div hs,div_eq_of_lt ha]; rfl
 exact h (sz * c + i) (sz * c + j) _ _ (by omega) (by omega) (by omega) (by rw [e i (by omega),e j (by omega)]) (getElem?_eq_getElem (by omega)) (getElem?_eq_getElem (by omega))
theorem bl_all {sz n:Nat} {L:List Int} (hL:L.length = n) (h:Bl key sz 0 n L) (hs:n <= sz):Up key L:=by
 refine List.pairwise_iff_getElem.2 fun i j hi hj hij=>?_
 exact h i j _ _ (zero_le _) hij (by omega) (by rw [div_eq_of_lt (by omega),div_eq_of_lt (by omega)]) (getElem?_eq_getElem hi) (getElem?_eq_getElem hj)
theorem bl_rest {sz n t:Nat} {L:List Int} (hs:0 < sz) (h1:Bl key (2 * sz) 0 (2 * sz * t) L) (h2:Bl key sz (2 * sz * t) n L) (h3:n <= 2 * sz * t + sz):Bl key (2 * sz) 0 n L:=by
 intro i j x y _ hij hj hd hx hy
 rcases lt_or_ge j (2 * sz * t) with h4 | h4
 ·exact h1 i j x y (zero_le _) hij h4 hd hx hy
 ·have h5:=div_mono (B:=2 * sz) (by omega) h4
  have h6:2 * sz * t <= i:=by
   rcases lt_or_ge i (2 * sz * t) with h7 | h7
   ·have:=div_small (B:=2 * sz) (by omega) h7; omega
   ·exact h7
  have e:∀ a,2 * sz * t <= a->a < 2 * sz * t + sz->a / sz = 2 * t:=fun a ha hb=>by
   have e1:2 * sz * t = sz * (2 * t):=by rw [mul_comm 2 sz,Nat.mul_assoc]
   rw [e1] at ha hb
   obtain ⟨d,rfl⟩:∃ d,a = sz * (2 * t) + d:=⟨a - sz * (2 * t),by omega⟩
   rw [Nat.mul_add_div hs,div_eq_of_lt (by omega)]; rfl
  exact h2 i j x y h6 hij hj (by rw [e i h6 (by omega),e j h4 (by omega)]) hx hy
end pure
section
variable (s:Sl) (f:Value) (A:List As) (key:Int->Int) (S:Int->Prop) (hv:CmpOk f A key S) (m0:List Int) (hS:∀ x ∈ m0,S x) (hb:m0.length < 2 ^ 55)
abbrev Fin5:Unit->Hp->Prop:=fun _ h=>∃ m',(m'.Perm m0/\Up key m')/\aB (vI s m'::A) h
include hv hS hb
theorem stable_l2 {h:Hp} (L:List Int) (sz:Nat) (hs:20 <= sz) (hs2:sz < 2 ^ 56) (hp:L.Perm m0) (hB:Bl key sz 0 m0.length L) (s0:aB (vI s L::A) h):Lp (cN s (m0.length:Int) f (Fin5 s A key m0)) (sz:Int) h:=by
 refine Lp.intro (fun (z:Int) h=>∃ (sz:Nat) (L:List Int),z = sz/\20 <= sz/\sz < 2 ^ 56/\L.Perm m0/\Bl key sz 0 m0.length L/\aB (vI s L::A) h) (fun (z:Int) _=>m0.length - z.toNat) ⟨sz,L,rfl,hs,hs2,hp,hB,s0⟩ ?_
 rintro z h1 ⟨sz,L,rfl,hs,hs2,hp,hB,s1⟩
 have hL:=hp.length_eq
 unfold cN
 refine aY (fun c=>?_) (fun c=>?_)
 ·have hlt:sz < m0.length:=by have:=of_decide_eq_true c; omega
  have w2:i64.wrap (2 * (sz:Int)) = ((2 * sz:Nat):Int):=by rw [bm (by omega) (by omega)]; omega
  have w3:i64.wrap ((sz:Int) * 2) = ((2 * sz:Nat):Int):=by rw [bm (by omega) (by omega)]; omega
  rw [w2]
  refine Lp.intro (fun (z:Int × Int) h=>∃ (t:Nat) (L:List Int),z = (((2 * sz * t:Nat):Int),((2 * sz * t + 2 * sz:Nat):Int))/\2 * sz * t <= m0.length/\L.Perm m0/\Bl key (2 * sz) 0 (2 * sz * t) L/\Bl key sz (2 * sz * t) m0.length L/\aB (vI s L::A) h) (fun (z:Int × Int) _=>m0.length - z.1.toNat) ⟨0,L,by simp,by simp,hp,fun i j x y _ _ h3=>absurd h3 (by simp),by simpa using hB,s1⟩ ?_
  rintro z h2 ⟨t,L,rfl,ht,hp,hB1,hB2,s2⟩
  have hL:=hp.length_eq
  have hSL:∀ x ∈ L,S x:=fun x hx=>hS x (hp.subset hx)
  obtain ⟨a,ha⟩:∃ a,a = 2 * sz * t:=⟨_,rfl⟩
  have e1:a = sz * (2 * t):=by rw [ha,mul_comm 2 sz,Nat.mul_assoc]
  have e2:a + sz = sz * (2 * t + 1):=by rw [e1,Nat.mul_add,Nat.mul_one]
  have e3:2 * sz * (t + 1) = a + 2 * sz:=by rw [ha,Nat.mul_add,Nat.mul_one]
  unfold hY
  simp only
  rw [w3]
  have mrg:∀ (k:Nat) (b:Int) (h':Hp) (K:Unit->Hp->Prop),0 < k->k <= sz->a + sz + k <= m0.length->b = ((a + sz + k:Nat):Int)->aB (vI s L::A) h'->(∀ (L':List Int) (h':Hp),L'.Perm m0->Bl key (2 * sz) 0 (a + sz + k) L'->Bl key sz (a + sz + k) m0.length L'->aB (vI s L'::A) h'->K () h') ->
    cl prog cn [sv s,.int .i64 (a:Int),.int .i64 ((a + sz:Nat):Int),.int .i64 b,f] R_ K h':=by
   rintro k b h' K hk hks hkn rfl s3 kk
   have c1:=cut3 L a (sz + k)
   have lp:(L.take a).length = a:=by rw [length_take]; omega
   have lu:((L.drop a).take sz).length = sz:=by rw [length_take,length_drop]; omega
   have lv:((L.drop (a + sz)).take k).length = k:=by rw [length_take,length_drop]; omega
   have c2:(L.drop a).take (sz + k) = (L.drop a).take sz++(L.drop (a + sz)).take k:=by rw [List.take_add,List.drop_drop]
   have u1:Up key ((L.drop a).take sz):=by rw [e1]; exact up_seg (by omega) hB2 (by omega) (by omega) (le_refl _)
   have u2:Up key ((L.drop (a + sz)).take k):=by rw [e2]; exact up_seg (by omega) hB2 (by omega) (by omega) hks
   have sp:=sp_symMerge s f A key S hv _ (L.take a) ((L.drop a).take sz) ((L.drop (a + sz)).take k) (L.drop (a + (sz + k))) (le_refl _) (length_pos_iff.1 (by omega)) (length_pos_iff.1 (by omega)) (fun y hy=>hSL y (mem_of_mem_drop (mem_of_mem_take hy))) (fun y hy=>hSL y (mem_of_mem_drop (mem_of_mem_take hy))) u1 u2 (by rw [lp,lu,lv,length_drop]; omega) h' (by
    rw [← append_assoc ((L.drop a).take sz),← c2,← c1]; exact s3)
   rw [lp,lu,lv] at sp
   refine sp.mono ?_
   rintro w h'' ⟨r,e,m',⟨g1,g2⟩,s4⟩
   rw [← c2] at g1
   have gl:=g1.length_eq
   have cl':((L.drop a).take (sz + k)).length = sz + k:=by rw [length_take,length_drop]; omega
   refine ⟨r,e,kk (L.take a++(m'++L.drop (a + (sz + k)))) h'' ?_ ?_ ?_ s4⟩
   ·refine List.Perm.trans ?_ hp
    rw (config:={ occs:=.pos [3] }) [c1]
    exact (g1.append_right _).append_left _
   ·have:=bl_step (B:=2 * sz) (t:=t) (q:=L.drop (a + (sz + k))) (by omega) (by rw [lp,ha]) gl g2 (by rw [← c1]; exact hB1)
    rw [cl',← ha] at this
    rw [Nat.add_assoc]; exact this
   ·refine bl_keep gl (show a <= a + sz + k by omega) (by rw [lp,cl']; omega) ?_
    rw [← c1,ha]; exact hB2
  refine aY (fun c3=>?_) (fun c3=>?_)
  ·have hle:a + 2 * sz <= m0.length:=by have:=of_decide_eq_true c3; omega
   have w4:i64.wrap (((2 * sz * t:Nat):Int) + (sz:Int)) = ((a + sz:Nat):Int):=by rw [← ha,bm (by omega) (by omega)]; omega
   have w5:i64.wrap (((2 * sz * t + 2 * sz:Nat):Int) + i64.wrap (2 * (sz:Int))) = ((a + 2 * sz + 2 * sz:Nat):Int):=by rw [← ha,w2,bm (by omega) (by omega)]; omega
   rw [w4,w5,← ha]
   refine mrg sz _ h2 _ (by omega) (le_refl _) (by omega) (by omega) s2 fun L' h3 p3 b1 b2 s3=>?_
   refine ⟨⟨t + 1,L',?_,by rw [e3]; omega,p3,?_,?_,s3⟩,by simp only [toNat_natCast]; omega⟩
   ·rw [e3]
   ·rw [e3,show a + 2 * sz = a + sz + sz by omega]; exact b1
   ·rw [e3,show a + 2 * sz = a + sz + sz by omega]; exact b2
  ·have hgt:m0.length < a + 2 * sz:=by have:=of_decide_eq_false c3; omega
   have w4:i64.wrap (((2 * sz * t:Nat):Int) + (sz:Int)) = ((a + sz:Nat):Int):=by rw [← ha,bm (by omega) (by omega)]; omega
   rw [w4,← ha]
   refine aY (fun c4=>?_) (fun c4=>?_)
   ·have hlt2:a + sz < m0.length:=by have:=of_decide_eq_true c4; omega
    refine mrg (m0.length - (a + sz)) _ h2 _ (by omega) (by omega) (by omega) (by omega) s2 fun L' h3 p3 b1 b2 s3=>?_
    refine ⟨⟨2 * sz,L',rfl,by omega,by omega,p3,?_,s3⟩,by simp only [toNat_natCast]; omega⟩
    rw [show a + sz + (m0.length - (a + sz)) = m0.length by omega] at b1
    exact b1
   ·have hle2:m0.length <= a + sz:=by have:=of_decide_eq_false c4; omega
    exact ⟨⟨2 * sz,L,rfl,by omega,by omega,hp,bl_rest (by omega) hB1 hB2 (by omega),s2⟩,by simp only [toNat_natCast]; omega⟩
 ·have hge:m0.length <= sz:=by have:=of_decide_eq_false c; omega
  exact ⟨L,⟨hp,bl_all hL hB hge⟩,s1⟩
theorem sp_SortStable:Sp prog eH [sv s,f] R_ (vI s m0::A) (fun _ h=>∃ m',(m'.Perm m0/\Up key m')/\aB (vI s m'::A) h):=by
 intro h s0
 have hl:=(cc (j:=0) s0 rfl).1
 refine iU _ _ ?_
 unfold fL
 unfold cl
 refine kS _ _ _ ?_
 unfold ia
 rw [hl]
 refine Lp.intro (fun (z:Int × Int) h=>∃ (t:Nat) (L:List Int),z = (((20 * t:Nat):Int),((20 * t + 20:Nat):Int))/\20 * t <= m0.length/\L.Perm m0/\Bl key 20 0 (20 * t) L/\aB (vI s L::A) h) (fun (z:Int × Int) _=>m0.length - z.1.toNat) ⟨0,m0,rfl,zero_le _,.refl _,fun i j x y _ _ h3=>absurd h3 (by simp),s0⟩ ?_
 rintro z h1 ⟨t,L,rfl,ht,hp,hB,s1⟩
 have hL:=hp.length_eq
 have hSL:∀ x ∈ L,S x:=fun x hx=>hS x (hp.subset hx)
 obtain ⟨a,ha⟩:∃ a,a = 20 * t:=⟨_,rfl⟩
 have ins:∀ (k:Nat) (b:Int) (h':Hp) (K:Unit->Hp->Prop),k <= 20->a + k <= m0.length->b = ((a + k:Nat):Int)->aB (vI s L::A) h'->(∀ (L':List Int) (h':Hp),L'.Perm m0->Bl key 20 0 (a + k) L'->aB (vI s L'::A) h'->K () h') ->
   cl prog bT [sv s,.int .i64 (a:Int),.int .i64 b,f] R_ K h':=by
  rintro k b h' K hk hkn rfl s3 kk
  have c1:=cut3 L a k
  have lp:(L.take a).length = a:=by rw [length_take]; omega
  have lu:((L.drop a).take k).length = k:=by rw [length_take,length_drop]; omega
  have sp:=sp_insertion s f A key S hv (L.take a) ((L.drop a).take k) (L.drop (a + k)) (fun y hy=>hSL y (mem_of_mem_drop (mem_of_mem_take hy))) (by rw [lp,lu,length_drop]; omega) h' (by rw [← c1]; exact s3)
  rw [lp,lu] at sp
  refine sp.mono ?_
  rintro w h'' ⟨r,e,m',⟨g1,g2⟩,s4⟩
  have gl:=g1.length_eq
  refine ⟨r,e,kk (L.take a++(m'++L.drop (a + k))) h'' ?_ ?_ s4⟩
  ·refine List.Perm.trans ?_ hp
   rw (config:={ occs:=.pos [3] }) [c1]
   exact (g1.append_right _).append_left _
  ·have:=bl_step (B:=20) (t:=t) (q:=L.drop (a + k)) (by omega) (by rw [lp,ha]) gl g2 (by rw [← c1]; exact hB)
   rw [lu,← ha] at this
   exact this
 unfold eA
 simp only
 refine aY (fun c=>?_) (fun c=>?_)
 ·have hle:a + 20 <= m0.length:=by have:=of_decide_eq_true c; omega
  have w1:i64.wrap (((20 * t + 20:Nat):Int) + 20) = ((20 * (t + 1) + 20:Nat):Int):=by rw [bm (by omega) (by omega)]; omega
  rw [w1,← ha]
  refine ins 20 _ h1 _ (le_refl _) hle rfl s1 fun L' h3 p3 b1 s3=>?_
  refine ⟨⟨t + 1,L',?_,by omega,p3,?_,s3⟩,by simp only [toNat_natCast]; omega⟩
  ·rw [show 20 * (t + 1) = a + 20 by omega]
  ·rw [show 20 * (t + 1) = a + 20 by omega]; exact b1
 ·have hgt:m0.length < a + 20:=by have:=of_decide_eq_false c; omega
  rw [← ha]
  refine ins (m0.length - a) _ h1 _ (by omega) (by omega) (by omega) s1 fun L' h3 p3 b1 s3=>?_
  rw [show a + (m0.length - a) = m0.length by omega] at b1
  exact stable_l2 s f A key S hv m0 hS hb L' 20 (by decide) (by decide) p3 b1 s3
end
end
section
open Go Mb
theorem sp_hist_OrderN (s:Sl) (es:List bu) (hb:es.length < 2 ^ 38) (ha:Hist.Apart es):Sp prog kI [sv s] cC [vE s es] (fun r=>aB [vI r (Hist.order es),vE s es]):=by
 intro h s0
 refine sim_hist_Order _ ?_
 unfold wd
 refine pG s0 fun b1 h1 s1=>?_
 refine bp s s1 (i:=0) rfl rfl rfl ?_
 refine cW [1,0] (tG s es _ (fun e=>decide (e.fHa > 0)) [blk b1 eu [sv s]] (by omega) ?_) s1 rfl fun r h2 s2=>?_
 ·intro e he
  refine ⟨_,_,_,rfl,sO,fun h s3=>?_⟩
  exact (xq e h).mono fun v h' ⟨r,hv,hr,hh⟩=>⟨r,hv,hr,by rw [hh]; exact s3⟩
 ·have s3:=dE s2
  have hpl:=Hist.placesFrom_len (fun e=>decide (e.fHa > 0)) es 0
  refine cW [0,0,0] (sp_SortStable r _ [vE s es,blk b1 eu [sv s]] (Hist.eff es) (fun x=>0 <= x/\x < es.length) ?_ (Hist.effs es) (fun x hx=>Hist.places_in hx) (by unfold Hist.effs Hist.places; omega)) s3 rfl fun u h4 s4=>?_
  ·rintro x y ⟨hx0,hx⟩ ⟨hy0,hy⟩
   refine ⟨_,_,_,rfl,sN,fun h s5=>?_⟩
   obtain ⟨n,rfl⟩:=Int.eq_ofNat_of_zero_le hx0
   obtain ⟨m,rfl⟩:=Int.eq_ofNat_of_zero_le hy0
   have hn:n < es.length:=by omega
   have hm:m < es.length:=by omega
   refine uO n m b1 ?_
   unfold qO
   refine bp s s5 (i:=1) rfl rfl rfl ?_
   refine cZ s5 (j:=0) rfl (by omega) (by omega) fun q hq=>?_
   refine dz (j:=0) (i:=n) (k:=8) es[n].fHa kM s5 rfl hq rfl (aE hn) (c1 rfl rfl) ?_
   refine bp s s5 (i:=1) rfl rfl rfl ?_
   refine cZ s5 (j:=0) rfl (by omega) (by omega) fun q2 hq2=>?_
   refine dz (j:=0) (i:=m) (k:=8) es[m].fHa kM s5 rfl hq2 rfl (aE hm) (c1 rfl rfl) ?_
   refine aZ ?_ s5
   rw [cmp_neg,Hist.eff_nat (aE hn),Hist.eff_nat (aE hm)]
  ·obtain ⟨g1,g2,d,rfl,⟨m',⟨p1,p2⟩,s5⟩,s6⟩:=s4
   rw [Hist.order_of ha p1 p2] at s5
   exact qJ (mB (l:=[vI r (Hist.order es),vE s es]) s5) d
theorem ordN {es:List bu} (s:Sl) (h:es.length < 2 ^ 38):Hist.Apart es->OrdOk s es:=fun ha=>sp_hist_OrderN s es h ha
end
section
open Go Mb
def errors_as_l2 (a1:Value) (a2:aM) (a3:Value) (K:Bool->Hp->Prop) (v48:Sl) (Rec25:Int->Hp->Prop) (s24:Int):Hp->Prop:=br (decide (s24 < (v48.len:Int))) ( ix v48 s24 fun q52=>ld (q52.1,q52.2 + Int.toNat s24 * 1) cV fun x53=>hpv prog (do eqGuard .eql 199 (.tmp 54) (.const Value.nilIface) x53 Value.nilIface; binOp .eql 199 x53 Value.nilIface:Sem Value) aC fun (v55:Bool)=>br v55 ( Rec25 (i64.wrap (s24 + 1))) ( cl prog vB [x53,a1,(.agg (aM.C a2).toArray),a3] aC fun r60=>br r60 ( K true) ( Rec25 (i64.wrap (s24 + 1))))) ( K false)
def yB (a1:Value) (a2:aM) (a3:Value) (K:Bool->Hp->Prop) (Rec2:Value->Hp->Prop) (s1:Value) (s11:Unit):Hp->Prop:=hpv prog (Instr.typeAssert s1 gH jG true) gF fun (v37:Value × Bool)=>br v37.2 ( cln prog (callMethod v37.1 "Unwrap" #[]) encV fun (v41:Value)=>hpv prog (do eqGuard .eql 199 (.tmp 42) (.const Value.nilIface) v41 Value.nilIface; binOp .eql 199 v41 Value.nilIface:Sem Value) aC fun (v43:Bool)=>br v43 ( K false) ( Rec2 v41)) ( hpv prog (Instr.typeAssert s1 gH iX true) gn fun (v44:Value × Bool)=>br v44.2 ( cln prog (callMethod v44.1 "Unwrap" #[]) R_Serror fun (v48:Sl)=>Lp (errors_as_l2 a1 a2 a3 K v48) 0) ( K false))
def yA (a1:Value) (a2:aM) (a3:Value) (K:Bool->Hp->Prop) (Rec2:Value->Hp->Prop) (s1:Value):Hp->Prop:=cln prog (callFunc gA #[s1]) encV fun (v17:Value)=>cln prog (callMethod v17 "AssignableTo" #[a3]) aC fun (v19:Bool)=>br v19 ( cln prog (callFunc fF #[(.agg (aM.C a2).toArray)]) fS fun (v21:aM)=>cln prog (callFunc dc #[s1]) fS fun (v23:aM)=>cln prog (callFunc fM #[(.agg (aM.C v21).toArray),(.agg (aM.C v23).toArray)]) R_ fun (v24:Unit)=>K true) ( hpv prog (Instr.typeAssert s1 gH rq true) oB fun (v27:Value × Bool)=>br v27.2 ( cln prog (callMethod v27.1 "As" #[a1]) aC fun (v34:Bool)=>br v34 ( K true) ( yB a1 a2 a3 K Rec2 s1 ())) ( yB a1 a2 a3 K Rec2 s1 ()))
def sh_errors_as (a0:Value) (a1:Value) (a2:aM) (a3:Value) (K:Bool->Hp->Prop):Hp->Prop:=Lp (yA a1 a2 a3 K) a0
theorem sim_errors_as (a0:Value) (a1:Value) (a2:aM) (a3:Value) {K:Bool->Hp->Prop} {h:Hp} (H:sh_errors_as a0 a1 a2 a3 K h):cl prog vB [a0,a1,(.agg (aM.C a2).toArray),a3] aC K h:=z_i func232 p p fun _=>O<|aa<|cD (l:=aM.C a2) p p p fun b6=>U p<|aw<|bz (step:=yA a1 a2 a3 K) (fun s1=>[(0,s1),(1,a1),(3,a3),(6,(.pointer (some ⟨b6,0,none⟩)))]) (fun s1=>[bx b6 296 (aM.C a2)]) H (.cons p<|.cons p<|.cons p<|.cons p<|.nil _) (.cons_cons _ .slnil) fun Rec2 s1 _ H3=>aw<|am<|O<|M p<|aa<|gu H3 (sQ (vs:=[s1]) p) p fun v17 _ H4=>M p<|aa<|gu H4 (gt (vs:=[a3]) p p) p fun v19 _ H5=>ae<|ax p H5 (fun k6 H7=>O<|bi (bH (k:=0) ag_296 p p p p) p<|aa<|gu H7 (sQ (vs:=[(.agg (aM.C a2).toArray)]) p) p fun v21 _ H8=>M p<|aa<|gu H8 (sQ (vs:=[s1]) p) p fun v23 _ H9=>aa<|gu H9 (sQ (vs:=[(.agg (aM.C v21).toArray),(.agg (aM.C v23).toArray)]) p) p fun v24 _ H10=>ae<|O<|U p<|aj<|Z ⟨true,p,H10⟩) fun k6 H7=>ap<|eC (yB a1 a2 a3 K Rec2 s1) (fun s11=>[(0,s1),(1,a1),(3,a3),(6,(.pointer (some ⟨b6,0,none⟩)))]) (fun s11=>[bx b6 296 (aM.C a2)]) (O<|M p<|aa<|aV H7 (gr p) p fun v27 _ H39=>M p<|J (al p p)<|J (al p p)<|J (av p)<|U p<|O<|M p<|M p<|W p p (ay _) (fun g40=>wv<|ai p)<|W p p (ay _) (fun g41=>wv<|ai p)<|bU H39 (fun k43 H44=>G (F k43)<|gu H44 (gt (vs:=[a1]) (aG p k43)<|aU (aG p k43) bX) p fun v34 _ H45=>J (aS p k43 p)<|ae<|ax p H45 (fun k46 H47=>O<|U p<|aj<|Z ⟨true,p,H47⟩) fun k46 H47=>ap<|cE () H47 (.cons p<|.cons p<|.cons p<|.cons p<|.nil _)<|.cons_cons _ .slnil) fun k43 H44=>Y (aT k43)<|J (au p k43 p)<|ae<|xm p p<|ap<|cE () H44 (.cons p<|.cons p<|.cons p<|.cons p<|.nil _)<|.cons_cons _ .slnil) fun s11 _ H12=>O<|M p<|ae<|aw<|O<|aa<|aV H12 (gr p) p fun v37 _ H13=>J (al p p)<|J (al p p)<|ae<|ax p H13 (fun k14 H15=>O<|U p<|O<|M p<|aa<|gu H15 (gt (vs:=[]) p p) p fun v41 _ H16=>U p<|O<|M p<|aa<|aV H16 (gG p p) p fun v43 _ H17=>ae<|ax p H17 (fun k18 H19=>O<|U p<|aj<|Z ⟨false,p,H19⟩) fun k18 H19=>ap<|cF v41 H19 (.cons p<|.cons p<|.cons p<|.cons p<|.nil _)<|.cons_cons _ .slnil) fun k14 H15=>O<|aa<|aV H15 (gr p) p fun v44 _ H20=>J (al p p)<|J (al p p)<|ae<|ax p H20 (fun k21 H22=>O<|U p<|am<|O<|M p<|aa<|gu H22 (gt (vs:=[]) p p) p fun v48 _ H23=>J (dA p underlying280 p)<|M p<|ae<|aw<|bz (step:=errors_as_l2 a1 a2 a3 K v48) (fun s24=>[(1,a1),(3,a3),(6,(.pointer (some ⟨b6,0,none⟩))),(48,(sv v48)),(49,(.int .i64 (v48.len:Int))),(50,(.int .i64 s24))]) (fun s24=>[bx b6 296 (aM.C a2)]) H23 (.cons p<|.cons p<|.cons p<|.cons p<|.cons p<|.cons p<|.nil _) (.cons_cons _ .slnil) fun Rec25 s24 _ H26=>O<|J (cj p p)<|ae<|am<|ax p H26 (fun k27 H28=>ap<|am<|aw<|O<|cq H28 fun q52 e29 h30 H31=>J (be slc_280 (aJ p<|aX e29) p h30)<|aa<|aW H31 sc_199 p (fun _=>p) p fun x53 H32=>U p<|am<|O<|M p<|aa<|aV H32 (gG p p) p fun v55 _ H33=>ae<|ax p H33 (fun k34 H35=>bh<|aq<|J (bk p p)<|M p<|ae<|cF (i64.wrap (s24 + 1)) H35 (.cons p<|.cons p<|.cons p<|.cons p<|.cons p<|.cons p<|.nil _)<|.cons_cons _ .slnil) fun k34 H35=>ap<|O<|M p<|M p<|bi (bH (k:=0) ag_296 p p p p) p<|M p<|aa<|D H35 en_232 fun r60 _ H36=>ae<|ax p H36 (fun k37 H38=>O<|U p<|aj<|Z ⟨true,p,H38⟩) fun k37 H38=>ap<|aq<|J (bk p p)<|M p<|ae<|cF (i64.wrap (s24 + 1)) H38 (.cons p<|.cons p<|.cons p<|.cons p<|.cons p<|.cons p<|.nil _)<|.cons_cons _ .slnil) fun k27 H28=>bh<|O<|U p<|aj<|Z ⟨false,p,H28⟩) fun k21 H22=>O<|U p<|O<|U p<|aj<|Z ⟨false,p,H22⟩
def ti (a0:Value) (a1:Value) (K:Bool->Hp->Prop) (v14:aM) (v26:Value) (s11:Unit):Hp->Prop:=cl prog vB [a0,a1,(.agg (aM.C v14).toArray),v26] aC fun r41=>K r41
def yC (a0:Value) (a1:Value) (K:Bool->Hp->Prop) (v14:aM) (v16:Value) (s8:Unit):Hp->Prop:=cln prog (callMethod v16 "Elem" #[]) encV fun (v26:Value)=>cln prog (callMethod v26 "Kind" #[]) R_abi_Kind fun (v28:Int)=>br (v28 != 20) ( ld (0,0) cV fun x32=>cln prog (callMethod v26 "Implements" #[x32]) aC fun (v33:Bool)=>br (!v33) ( hpv prog (Instr.makeInterface wz (.string str_6ae768b9)) encV fun (v36:Value)=>nope) ( ti a0 a1 K v14 v26 ())) ( ti a0 a1 K v14 v26 ())
def yD (a0:Value) (a1:Value) (K:Bool->Hp->Prop) (s4:Unit):Hp->Prop:=cln prog (callFunc dc #[a1]) fS fun (v14:aM)=>cln prog (callFunc iV #[(.agg (aM.C v14).toArray)]) encV fun (v16:Value)=>cln prog (callMethod v16 "Kind" #[]) R_abi_Kind fun (v18:Int)=>br (!(v18 != 22)) ( cln prog (callFunc fu #[(.agg (aM.C v14).toArray)]) aC fun (v22:Bool)=>br v22 ( hpv prog (Instr.makeInterface wz (.string str_ae9b7a08)) encV fun (v24:Value)=>nope) ( yC a0 a1 K v14 v16 ())) ( hpv prog (Instr.makeInterface wz (.string str_ae9b7a08)) encV fun (v24:Value)=>nope)
def ya (a0:Value) (a1:Value) (K:Bool->Hp->Prop):Hp->Prop:=hpv prog (do eqGuard .eql 199 (.tmp 8) (.const Value.nilIface) a0 Value.nilIface; binOp .eql 199 a0 Value.nilIface:Sem Value) aC fun (v9:Bool)=>br v9 ( K false) ( hpv prog (do eqGuard .eql 20 (.tmp 10) (.const Value.nilIface) a1 Value.nilIface; binOp .eql 20 a1 Value.nilIface:Sem Value) aC fun (v11:Bool)=>br v11 ( hpv prog (Instr.makeInterface wz (.string str_53947bae)) encV fun (v12:Value)=>nope) ( yD a0 a1 K ()))
theorem sim_errors_As (a0:Value) (a1:Value) {K:Bool->Hp->Prop} {h:Hp} (H:ya a0 a1 K h):cl prog vC [a0,a1] aC K h:=z_i func227 p p fun _=>O<|U p<|am<|O<|M p<|aa<|aV H (gG p p) p fun v9 _ H1=>ae<|ax p H1 (fun k2 H3=>O<|U p<|aj<|Z ⟨false,p,H3⟩) fun k2 H3=>ap<|eC (yD a0 a1 K) (fun s4=>[(0,a0),(1,a1)]) (fun s4=>[]) (O<|M p<|aa<|aV H3 (gG p p) p fun v11 _ H34=>ae<|ax p H34 (fun k35 H36=>aq<|aa<|aV H36 (gN p) p fun v12 _ H37=>evlNo H37) fun k35 H36=>ap<|cE () H36 (.cons p<|.cons p<|.nil _) .slnil) fun s4 _ H5=>O<|M p<|aa<|gu H5 (sQ (vs:=[a1]) p) p fun v14 _ H6=>aa<|aO (l:=aM.C (⟨none,none,0⟩:aM)) zero_296 p p fun b5=>aa<|aQ (k:=0) (vs:=aM.C v14) inf_296 p p p p p p p<|ae<|O<|bi (bH (k:=0) ag_296 p p p p) p<|aa<|gu H6 (sQ (vs:=[(.agg (aM.C v14).toArray)]) p) p fun v16 _ H7=>U p<|eC (yC a0 a1 K v14 v16) (fun s8=>[(0,a0),(1,a1),(5,(.pointer (some ⟨b5,0,none⟩))),(6,v16)]) (fun s8=>[bx b5 296 (aM.C v14)]) (O<|M p<|aa<|gu H7 (gt (vs:=[]) p p) p fun v18 _ H24=>J (qz p p)<|M p<|W p p (aL _) (fun g25=>cv<|bH (k:=0) ag_296 p p p p)<|bU H24 (fun k27 H28=>G (F<|bO k27)<|gu H28 (sQ (vs:=[(.agg (aM.C v14).toArray)])<|aU (aG p k27) bX) p fun v22 _ H29=>J (au p (bO k27) p)<|ae<|ax p H29 (fun k30 H31=>aq<|aa<|aV H31 (gN p) p fun v24 _ H32=>evlNo H32) fun k30 H31=>ap<|cE () H31 (.cons p<|.cons p<|.cons p<|.cons p<|.nil _)<|.cons_cons _ .slnil) fun k27 H28=>Y (bL<|bq k27)<|J (aS p (bq k27) p)<|ae<|kL p p<|aq<|aa<|aV H28 (gN p) p fun v24 _ H33=>evlNo H33) fun s8 _ H9=>O<|M p<|aa<|gu H9 (gt (vs:=[]) p p) p fun v26 _ H10=>U p<|eC (ti a0 a1 K v14 v26) (fun s11=>[(0,a0),(1,a1),(5,(.pointer (some ⟨b5,0,none⟩))),(7,v26)]) (fun s11=>[bx b5 296 (aM.C v14)]) (O<|M p<|aa<|gu H10 (gt (vs:=[]) p p) p fun v28 _ H14=>J (qz p p)<|M p<|W p p (ay _) (fun g15=>wv<|ai p)<|bU H14 (fun k17 H18=>G (F k17)<|aW H18 sc_249 p (fun _=>p) p fun x32 H19=>G (F k17)<|gu H19 (gt (vs:=[x32]) (aG p k17) p) p fun v33 _ H20=>G (F k17)<|z_p (cy p)<|J (aS p k17 p)<|ae<|ax p H20 (fun k21 H22=>aq<|aa<|aV H22 (gN p) p fun v36 _ H23=>evlNo H23) fun k21 H22=>ap<|cE () H22 (.cons p<|.cons p<|.cons p<|.cons p<|.nil _)<|.cons_cons _ .slnil) fun k17 H18=>Y (aT k17)<|Y (aT k17)<|Y (aT k17)<|J (au p k17 p)<|ae<|xm p p<|ap<|cE () H18 (.cons p<|.cons p<|.cons p<|.cons p<|.nil _)<|.cons_cons _ .slnil) fun s11 _ H12=>O<|M p<|M p<|bi (bH (k:=0) ag_296 p p p p) p<|M p<|aa<|D H12 en_232 fun r41 _ H13=>U p<|aj<|Z ⟨r41,p,H13⟩
def errors_is_l2 (a1:Value) (a2:Bool) (K:Bool->Hp->Prop) (v43:Sl) (Rec26:Int->Hp->Prop) (s25:Int):Hp->Prop:=br (decide (s25 < (v43.len:Int))) ( ix v43 s25 fun q47=>ld (q47.1,q47.2 + Int.toNat s25 * 1) cV fun x48=>cl prog oL [x48,a1,(.bool a2)] aC fun r52=>br r52 ( K true) ( Rec26 (i64.wrap (s25 + 1)))) ( K false)
def th (a1:Value) (a2:Bool) (K:Bool->Hp->Prop) (Rec2:Value->Hp->Prop) (s1:Value) (s12:Unit):Hp->Prop:=hpv prog (Instr.typeAssert s1 gH jG true) gF fun (v32:Value × Bool)=>br v32.2 ( cln prog (callMethod v32.1 "Unwrap" #[]) encV fun (v36:Value)=>hpv prog (do eqGuard .eql 199 (.tmp 37) (.const Value.nilIface) v36 Value.nilIface; binOp .eql 199 v36 Value.nilIface:Sem Value) aC fun (v38:Bool)=>br v38 ( K false) ( Rec2 v36)) ( hpv prog (Instr.typeAssert s1 gH iX true) gn fun (v39:Value × Bool)=>br v39.2 ( cln prog (callMethod v39.1 "Unwrap" #[]) R_Serror fun (v43:Sl)=>Lp (errors_is_l2 a1 a2 K v43) 0) ( K false))
def errors_is_l3 (a1:Value) (a2:Bool) (K:Bool->Hp->Prop) (v43:Sl) (Rec60:Int->Hp->Prop) (s59:Int):Hp->Prop:=br (decide (s59 < (v43.len:Int))) ( ix v43 s59 fun q47=>ld (q47.1,q47.2 + Int.toNat s59 * 1) cV fun x48=>cl prog oL [x48,a1,(.bool a2)] aC fun r52=>br r52 ( K true) ( Rec60 (i64.wrap (s59 + 1)))) ( K false)
def yz (a1:Value) (a2:Bool) (K:Bool->Hp->Prop) (Rec2:Value->Hp->Prop) (s1:Value) (s46:Unit):Hp->Prop:=hpv prog (Instr.typeAssert s1 gH jG true) gF fun (v32:Value × Bool)=>br v32.2 ( cln prog (callMethod v32.1 "Unwrap" #[]) encV fun (v36:Value)=>hpv prog (do eqGuard .eql 199 (.tmp 37) (.const Value.nilIface) v36 Value.nilIface; binOp .eql 199 v36 Value.nilIface:Sem Value) aC fun (v38:Bool)=>br v38 ( K false) ( Rec2 v36)) ( hpv prog (Instr.typeAssert s1 gH iX true) gn fun (v39:Value × Bool)=>br v39.2 ( cln prog (callMethod v39.1 "Unwrap" #[]) R_Serror fun (v43:Sl)=>Lp (errors_is_l3 a1 a2 K v43) 0) ( K false))
def tg (a1:Value) (a2:Bool) (K:Bool->Hp->Prop) (Rec2:Value->Hp->Prop) (s1:Value):Hp->Prop:=br a2 ( hpv prog (do eqGuard .eql 199 (.tmp 16) (.tmp 17) s1 a1; binOp .eql 199 s1 a1:Sem Value) aC fun (v18:Bool)=>br v18 ( K true) ( hpv prog (Instr.typeAssert s1 gH na true) kq fun (v22:Value × Bool)=>br v22.2 ( cln prog (callMethod v22.1 "Is" #[a1]) aC fun (v29:Bool)=>br v29 ( K true) ( th a1 a2 K Rec2 s1 ())) ( th a1 a2 K Rec2 s1 ()))) ( hpv prog (Instr.typeAssert s1 gH na true) kq fun (v22:Value × Bool)=>br v22.2 ( cln prog (callMethod v22.1 "Is" #[a1]) aC fun (v29:Bool)=>br v29 ( K true) ( yz a1 a2 K Rec2 s1 ())) ( yz a1 a2 K Rec2 s1 ()))
def xY (a0:Value) (a1:Value) (a2:Bool) (K:Bool->Hp->Prop):Hp->Prop:=Lp (tg a1 a2 K) a0
theorem sim_errors_is (a0:Value) (a1:Value) (a2:Bool) {K:Bool->Hp->Prop} {h:Hp} (H:xY a0 a1 a2 K h):cl prog oL [a0,a1,(.bool a2)] aC K h:=z_i func192 p p fun _=>O<|U p<|aw<|bz (step:=tg a1 a2 K) (fun s1=>[(0,s1),(1,a1),(2,(.bool a2))]) (fun s1=>[]) H (.cons p<|.cons p<|.cons p<|.nil _) .slnil fun Rec2 s1 _ H3=>aw<|am<|O<|M p<|M p<|W p p (ay _) (fun g4=>wv<|ai p)<|W p p (ay _) (fun g5=>wv<|ai p)<|bU H3 (fun k7 H8=>G (F k7)<|aV H8 (gG (aG p k7)<|aG p k7) p fun v18 _ H9=>J (aS p k7 p)<|ae<|ax p H9 (fun k10 H11=>O<|U p<|aj<|Z ⟨true,p,H11⟩) fun k10 H11=>ap<|eC (th a1 a2 K Rec2 s1) (fun s12=>[(0,s1),(1,a1),(2,(.bool a2))]) (fun s12=>[]) (O<|M p<|aa<|aV H11 (gr p) p fun v22 _ H37=>M p<|J (al p p)<|J (al p p)<|J (av p)<|U p<|O<|M p<|M p<|W p p (ay _) (fun g38=>wv<|ai p)<|W p p (ay _) (fun g39=>wv<|ai p)<|bU H37 (fun k41 H42=>G (F k41)<|gu H42 (gt (vs:=[a1]) (aG p k41)<|aU (aG p k41) bX) p fun v29 _ H43=>J (aS p k41 p)<|ae<|ax p H43 (fun k44 H45=>O<|U p<|aj<|Z ⟨true,p,H45⟩) fun k44 H45=>ap<|cE () H45 (.cons p<|.cons p<|.cons p<|.nil _) .slnil) fun k41 H42=>Y (aT k41)<|J (au p k41 p)<|ae<|xm p p<|ap<|cE () H42 (.cons p<|.cons p<|.cons p<|.nil _) .slnil) fun s12 _ H13=>O<|M p<|ae<|aw<|O<|aa<|aV H13 (gr p) p fun v32 _ H14=>J (al p p)<|J (al p p)<|ae<|ax p H14 (fun k15 H16=>O<|U p<|O<|M p<|aa<|gu H16 (gt (vs:=[]) p p) p fun v36 _ H17=>U p<|O<|M p<|aa<|aV H17 (gG p p) p fun v38 _ H18=>ae<|ax p H18 (fun k19 H20=>O<|U p<|aj<|Z ⟨false,p,H20⟩) fun k19 H20=>ap<|cF v36 H20 (.cons p<|.cons p<|.cons p<|.nil _) .slnil) fun k15 H16=>O<|aa<|aV H16 (gr p) p fun v39 _ H21=>J (al p p)<|J (al p p)<|ae<|ax p H21 (fun k22 H23=>O<|U p<|am<|O<|M p<|aa<|gu H23 (gt (vs:=[]) p p) p fun v43 _ H24=>J (dA p underlying280 p)<|M p<|ae<|aw<|bz (step:=errors_is_l2 a1 a2 K v43) (fun s25=>[(1,a1),(2,(.bool a2)),(43,(sv v43)),(44,(.int .i64 (v43.len:Int))),(45,(.int .i64 s25))]) (fun s25=>[]) H24 (.cons p<|.cons p<|.cons p<|.cons p<|.cons p<|.nil _) .slnil fun Rec26 s25 _ H27=>O<|J (cj p p)<|ae<|am<|ax p H27 (fun k28 H29=>ap<|am<|aw<|O<|cq H29 fun q47 e30 h31 H32=>J (be slc_280 (aJ p<|aX e30) p h31)<|aa<|aW H32 sc_199 p (fun _=>p) p fun x48 H33=>U p<|O<|M p<|M p<|M p<|aa<|D H33 en_192 fun r52 _ H34=>ae<|ax p H34 (fun k35 H36=>O<|U p<|aj<|Z ⟨true,p,H36⟩) fun k35 H36=>ap<|aq<|J (bk p p)<|M p<|ae<|cF (i64.wrap (s25 + 1)) H36 (.cons p<|.cons p<|.cons p<|.cons p<|.cons p<|.nil _) .slnil) fun k28 H29=>bh<|O<|U p<|aj<|Z ⟨false,p,H29⟩) fun k22 H23=>O<|U p<|O<|U p<|aj<|Z ⟨false,p,H23⟩) fun k7 H8=>Y (aT k7)<|J (au p k7 p)<|ae<|xm p p<|ap<|eC (yz a1 a2 K Rec2 s1) (fun s46=>[(0,s1),(1,a1),(2,(.bool a2))]) (fun s46=>[]) (O<|M p<|aa<|aV H8 (gr p) p fun v22 _ H71=>M p<|J (al p p)<|J (al p p)<|J (av p)<|U p<|O<|M p<|M p<|W p p (ay _) (fun g72=>wv<|ai p)<|W p p (ay _) (fun g73=>wv<|ai p)<|bU H71 (fun k75 H76=>G (F k75)<|gu H76 (gt (vs:=[a1]) (aG p k75)<|aU (aG p k75) bX) p fun v29 _ H77=>J (aS p k75 p)<|ae<|ax p H77 (fun k78 H79=>O<|U p<|aj<|Z ⟨true,p,H79⟩) fun k78 H79=>ap<|cE () H79 (.cons p<|.cons p<|.cons p<|.nil _) .slnil) fun k75 H76=>Y (aT k75)<|J (au p k75 p)<|ae<|xm p p<|ap<|cE () H76 (.cons p<|.cons p<|.cons p<|.nil _) .slnil) fun s46 _ H47=>O<|M p<|ae<|aw<|O<|aa<|aV H47 (gr p) p fun v32 _ H48=>J (al p p)<|J (al p p)<|ae<|ax p H48 (fun k49 H50=>O<|U p<|O<|M p<|aa<|gu H50 (gt (vs:=[]) p p) p fun v36 _ H51=>U p<|O<|M p<|aa<|aV H51 (gG p p) p fun v38 _ H52=>ae<|ax p H52 (fun k53 H54=>O<|U p<|aj<|Z ⟨false,p,H54⟩) fun k53 H54=>ap<|cF v36 H54 (.cons p<|.cons p<|.cons p<|.nil _) .slnil) fun k49 H50=>O<|aa<|aV H50 (gr p) p fun v39 _ H55=>J (al p p)<|J (al p p)<|ae<|ax p H55 (fun k56 H57=>O<|U p<|am<|O<|M p<|aa<|gu H57 (gt (vs:=[]) p p) p fun v43 _ H58=>J (dA p underlying280 p)<|M p<|ae<|aw<|bz (step:=errors_is_l3 a1 a2 K v43) (fun s59=>[(1,a1),(2,(.bool a2)),(43,(sv v43)),(44,(.int .i64 (v43.len:Int))),(45,(.int .i64 s59))]) (fun s59=>[]) H58 (.cons p<|.cons p<|.cons p<|.cons p<|.cons p<|.nil _) .slnil fun Rec60 s59 _ H61=>O<|J (cj p p)<|ae<|am<|ax p H61 (fun k62 H63=>ap<|am<|aw<|O<|cq H63 fun q47 e64 h65 H66=>J (be slc_280 (aJ p<|aX e64) p h65)<|aa<|aW H66 sc_199 p (fun _=>p) p fun x48 H67=>U p<|O<|M p<|M p<|M p<|aa<|D H67 en_192 fun r52 _ H68=>ae<|ax p H68 (fun k69 H70=>O<|U p<|aj<|Z ⟨true,p,H70⟩) fun k69 H70=>ap<|aq<|J (bk p p)<|M p<|ae<|cF (i64.wrap (s59 + 1)) H70 (.cons p<|.cons p<|.cons p<|.cons p<|.cons p<|.nil _) .slnil) fun k62 H63=>bh<|O<|U p<|aj<|Z ⟨false,p,H63⟩) fun k56 H57=>O<|U p<|O<|U p<|aj<|Z ⟨false,p,H57⟩
def xZ (a0:Value) (a1:Value) (K:Bool->Hp->Prop):Hp->Prop:=hpv prog (do eqGuard .eql 199 (.tmp 6) (.const Value.nilIface) a0 Value.nilIface; binOp .eql 199 a0 Value.nilIface:Sem Value) aC fun (v7:Bool)=>br (!v7) ( hpv prog (do eqGuard .eql 199 (.tmp 9) (.const Value.nilIface) a1 Value.nilIface; binOp .eql 199 a1 Value.nilIface:Sem Value) aC fun (v10:Bool)=>br v10 ( hpv prog (do eqGuard .eql 199 (.tmp 12) (.tmp 13) a0 a1; binOp .eql 199 a0 a1:Sem Value) aC fun (v14:Bool)=>K v14) ( cln prog (callFunc gA #[a1]) encV fun (v16:Value)=>cln prog (callMethod v16 "Comparable" #[]) aC fun (v17:Bool)=>cl prog oL [a0,a1,(.bool v17)] aC fun r21=>K r21)) ( hpv prog (do eqGuard .eql 199 (.tmp 12) (.tmp 13) a0 a1; binOp .eql 199 a0 a1:Sem Value) aC fun (v14:Bool)=>K v14)
theorem sim_errors_Is (a0:Value) (a1:Value) {K:Bool->Hp->Prop} {h:Hp} (H:xZ a0 a1 K h):cl prog oM [a0,a1] aC K h:=z_i func149 p p fun _=>O<|U p<|am<|O<|M p<|aa<|aV H (gG p p) p fun v7 _ H1=>M p<|W p p (aL _) (fun g2=>wv<|ai p)<|bU H1 (fun k4 H5=>G (F<|bO k4)<|aV H5 (gG (aG p k4) p) p fun v10 _ H6=>J (au p (bO k4) p)<|ae<|ax p H6 (fun k7 H8=>O<|M p<|M p<|aa<|aV H8 (gG p p) p fun v14 _ H9=>U p<|aj<|Z ⟨v14,p,H9⟩) fun k7 H8=>ap<|O<|M p<|aa<|gu H8 (sQ (vs:=[a1]) p) p fun v16 _ H10=>aa<|gu H10 (gt (vs:=[]) p p) p fun v17 _ H11=>U p<|O<|M p<|M p<|M p<|aa<|D H11 en_192 fun r21 _ H12=>U p<|aj<|Z ⟨r21,p,H12⟩) fun k4 H5=>Y (bL<|bq k4)<|J (aS p (bq k4) p)<|ae<|kL p p<|O<|M p<|M p<|aa<|aV H5 (gG p p) p fun v14 _ H13=>U p<|aj<|Z ⟨v14,p,H13⟩
end
section
open Go Mb
def sh_trap_Of (a0:Int) (K:Value->Hp->Prop):Hp->Prop:=br (a0 == 0) ( K Value.nilIface) ( nw oD (ce.C (⟨a0,(-1),(⟨0,0,0,0,0⟩:ak),Value.nilIface⟩:ce)) fun b7=>hpv prog (Instr.makeInterface bg (.pointer (some ⟨b7,0,none⟩))) encV fun (v8:Value)=>K v8)
theorem sim_trap_Of (a0:Int) {K:Value->Hp->Prop} {h:Hp} (H:sh_trap_Of a0 K h):cl prog kY [(.int .i64 a0)] iS K h:=z_i func150 p p fun _=>O<|U p<|am<|O<|M p<|J (bP p p)<|ae<|ax p H (fun k1 H2=>O<|U p<|aj<|Z ⟨Value.nilIface,p,H2⟩) fun k1 H2=>ap<|O<|M p<|J (bd p<|build_254_0_1 a0 (-1))<|aa<|iw p p p H2 fun b7 _ H3=>aa<|aV H3 (gN p) p fun v8 _ H4=>U p<|aj<|Z ⟨v8,p,H4⟩
def nA (K:(Ptr × Bool)->Hp->Prop) (b4:Nat) (s2:Bool):Hp->Prop:=br s2 ( K (none,false)) ( ld (b4,0) cP fun x13=>K (x13,true))
def wc (a0:Value) (K:(Ptr × Bool)->Hp->Prop):Hp->Prop:=nw bg [pv none] fun b4=>hpv prog (Instr.makeInterface bF (.pointer (some ⟨b4,0,none⟩))) encV fun (v6:Value)=>cl prog vC [a0,v6] aC fun r7=>br (!(!r7)) ( ld (b4,0) cP fun x10=>nA K b4 x10.isNone) ( nA K b4 true)
theorem sim_trap_First (a0:Value) {K:(Ptr × Bool)->Hp->Prop} {h:Hp} (H:wc a0 K h):cl prog kD [a0] eX K h:=z_i func222 p p fun _=>O<|J (av p)<|U p<|O<|aa<|to_alloc zero_252 p p H fun b4 _ H1=>ae<|am<|eC (nA K b4) (fun s2=>[(4,(.pointer (some ⟨b4,0,none⟩))),(12,(.bool s2))]) (fun s2=>[]) (aq<|M p<|aa<|aV H1 (gN p) p fun v6 _ H7=>aa<|D H7 en_227 fun r7 _ H8=>J (cy p)<|M p<|bU H8 (fun k10 H11=>G (F<|bO k10)<|aW H11 sc_252 p (fun _=>p) p fun x10 H12=>G (F<|bO k10)<|z_p (cA underlying252 p)<|J (au p (bO k10) p)<|ae<|cE x10.isNone H12 (.cons p<|.cons p<|.nil _) .slnil) fun k10 H11=>Y (bL<|bq k10)<|Y (bL<|bq k10)<|J (aS p (bq k10) p)<|ae<|cE true H11 (.cons p<|.cons p<|.nil _) .slnil) fun s2 _ H3=>ax p H3 (fun k4 H5=>O<|J (av p)<|U p<|aj<|bD (bW p (cg p)<|cg p) ⟨(none,false),p,H5⟩) fun k4 H5=>ap<|O<|aa<|aW H5 sc_252 p (fun _=>p) p fun x13 H6=>J (av p)<|U p<|aj<|bD (bW p (cg p)<|cg p) ⟨(x13,true),p,H6⟩
def sh_trap_Code (a0:Value) (K:Int->Hp->Prop):Hp->Prop:=hpv prog (do eqGuard .eql 199 (.tmp 5) (.const Value.nilIface) a0 Value.nilIface; binOp .eql 199 a0 Value.nilIface:Sem Value) aC fun (v6:Bool)=>br v6 ( K 0) ( cl prog kD [a0] eX fun r9=>br r9.2 ( nn r9.1 fun q14=>ld (q14.1,q14.2 + 0) (cI .i64) fun x16=>K x16) ( K 9))
theorem sim_trap_Code (a0:Value) {K:Int->Hp->Prop} {h:Hp} (H:sh_trap_Code a0 K h):cl prog vy [a0] bj K h:=z_i func208 p p fun _=>O<|U p<|am<|O<|M p<|aa<|aV H (gG p p) p fun v6 _ H1=>ae<|ax p H1 (fun k2 H3=>O<|U p<|aj<|Z ⟨0,p,H3⟩) fun k2 H3=>ap<|am<|O<|M p<|aa<|D H3 en_222 fun r9 _ H4=>M p<|J (al p p)<|J (al p p)<|J (av p)<|U p<|O<|M p<|ae<|ax p H4 (fun k5 H6=>O<|M p<|bK H6 fun q14 e7 H8=>J (aK<|aJ p<|ar e7)<|J (ah xg p)<|aa<|aW H8 pB p (fun _=>p) p fun x16 H9=>U p<|aj<|Z ⟨x16,p,H9⟩) fun k5 H6=>ap<|O<|U p<|aj<|Z ⟨9,p,H6⟩
def sh_trap_In (a0:Int) (a1:ak) (a2:Value) (K:Value->Hp->Prop):Hp->Prop:=hpv prog (do eqGuard .eql 199 (.tmp 7) (.const Value.nilIface) a2 Value.nilIface; binOp .eql 199 a2 Value.nilIface:Sem Value) aC fun (v8:Bool)=>br v8 ( K Value.nilIface) ( cl prog vy [a2] bj fun r10=>hpv prog (Instr.build oD #[(0,(.int .i64 r10)),(1,(.int .i64 a0)),(2,(.agg (ak.C a1).toArray)),(3,a2)]) R_trap_Trap fun (v14:ce)=>nw oD (ce.C v14) fun b15=>hpv prog (Instr.makeInterface bg (.pointer (some ⟨b15,0,none⟩))) encV fun (v16:Value)=>K v16)
theorem sim_trap_In (a0:Int) (a1:ak) (a2:Value) {K:Value->Hp->Prop} {h:Hp} (H:sh_trap_In a0 a1 a2 K h):cl prog n_trap_In [(.int .i64 a0),(.agg (ak.C a1).toArray),a2] iS K h:=z_i func186 p p fun _=>O<|aa<|cD (l:=ak.C a1) p p p fun b4=>U p<|am<|O<|M p<|aa<|aV H (gG p p) p fun v8 _ H1=>ae<|ax p H1 (fun k2 H3=>O<|U p<|aj<|Z ⟨Value.nilIface,p,H3⟩) fun k2 H3=>ap<|am<|bn (n:=9) [bx b4 34 (ak.C a1)] ck p (.cons_cons _ .slnil)<|V 0 p (ai p)<|V 2 p (ai p)<|z_E 3 p (eP (k:=0) fH p p p p)<|V 4 p (ai p)<|I 1 p<|D H3 en_208 fun r10 _ H4=>⟨.cons_cons _ .slnil,I 5 p<|aV H4 (x_build (vs:=[(.int .i64 r10),(.int .i64 a0),(.agg (ak.C a1).toArray),a2]) p) p fun v14 _ H5=>⟨.cons_cons _ .slnil,I 6 p<|iw p p p H5 fun b15 _ H6=>⟨.cons_cons _ .slnil,I 7 p<|aV H6 (gN p) p fun v16 _ H7=>⟨.cons_cons _ .slnil,V 8 p (av p)<|aR (by kernel_rfl)<|aj<|Z ⟨v16,p,H7⟩⟩⟩⟩⟩
def nB (K:Int->Hp->Prop) (Rec3:(Int × Ptr × Bool)->Hp->Prop) (s2:Int × Ptr × Bool):Hp->Prop:=br s2.2.2 ( nn s2.2.1 fun q14=>ld (q14.1,q14.2 + 7) cV fun x16=>cl prog kD [x16] eX fun r17=>Rec3 ((i64.wrap (s2.1 + 1)),r17.1,r17.2)) ( K s2.1)
def sh_trap_Depth (a0:Value) (K:Int->Hp->Prop):Hp->Prop:=cl prog kD [a0] eX fun r8=>Lp (nB K) (0,r8.1,r8.2)
theorem sim_trap_Depth (a0:Value) {K:Int->Hp->Prop} {h:Hp} (H:sh_trap_Depth a0 K h):cl prog yj [a0] eF K h:=z_i func228 p p fun _=>O<|U p<|O<|U p<|am<|O<|M p<|aa<|D H en_222 fun r8 _ H1=>M p<|J (al p p)<|J (al p p)<|J (av p)<|U p<|aw<|bz (step:=nB K) (fun s2=>[(3,(.int .i64 s2.1)),(4,(pv s2.2.1)),(5,(.bool s2.2.2))]) (fun s2=>[]) H1 (.cons p<|.cons p<|.cons p<|.nil _) .slnil fun Rec3 s2 _ H4=>am<|O<|M p<|ae<|ax p H4 (fun k5 H6=>ap<|am<|aw<|aq<|M p<|J (bk p p)<|U p<|aq<|M p<|bK H6 fun q14 e7 H8=>J (aK<|aJ p<|ar e7)<|J (ah fld_254_3 p)<|aa<|aW H8 sc_199 p (fun _=>p) p fun x16 H9=>aa<|D H9 en_222 fun r17 _ H10=>M p<|J (al p p)<|J (al p p)<|J (av p)<|U p<|cF ((i64.wrap (s2.1 + 1)),r17.1,r17.2) H10 (.cons p<|.cons p<|.cons p<|.nil _) .slnil) fun k5 H6=>bh<|O<|M p<|U p<|aj<|Z ⟨s2.1,p,H6⟩
def oa (a0:Ptr) (K:ByteArray->Hp->Prop):Hp->Prop:=br a0.isNone ( K (⟨#[]⟩:ByteArray)) ( nn a0 fun q7=>ld (q7.1,q7.2 + 0) (cI .i64) fun x9=>cl prog uc [(.int .i64 x9)] eB fun r10=>hpv prog (do eqGuard .add 9 (.const (.string (⟨#[116,114,97,112,32]⟩:ByteArray))) (.tmp 10) (.string (⟨#[116,114,97,112,32]⟩:ByteArray)) (.string r10); binOp .add 9 (.string (⟨#[116,114,97,112,32]⟩:ByteArray)) (.string r10):Sem Value) eB fun (v11:ByteArray)=>ld (q7.1,q7.2 + 7) cV fun x15=>hpv prog (do eqGuard .neq 199 (.tmp 15) (.const Value.nilIface) x15 Value.nilIface; binOp .neq 199 x15 Value.nilIface:Sem Value) aC fun (v16:Bool)=>br v16 ( ld (q7.1,q7.2 + 7) cV fun x21=>cln prog (callMethod x21 "Error" #[]) eB fun (v22:ByteArray)=>hpv prog (do eqGuard .add 9 (.const (.string (⟨#[58,32]⟩:ByteArray))) (.tmp 22) (.string (⟨#[58,32]⟩:ByteArray)) (.string v22); binOp .add 9 (.string (⟨#[58,32]⟩:ByteArray)) (.string v22):Sem Value) eB fun (v23:ByteArray)=>hpv prog (do eqGuard .add 9 (.tmp 17) (.tmp 23) (.string v11) (.string v23); binOp .add 9 (.string v11) (.string v23):Sem Value) eB fun (v24:ByteArray)=>K v24) ( K v11))
theorem sq (a0:Ptr) {K:ByteArray->Hp->Prop} {h:Hp} (H:oa a0 K h):cl prog jr [(pv a0)] eB K h:=z_i func253 p p fun _=>O<|U p<|am<|O<|M p<|J (cA underlying252 p)<|ae<|ax p H (fun k1 H2=>O<|U p<|aj<|Z ⟨(⟨#[]⟩:ByteArray),p,H2⟩) fun k1 H2=>ap<|O<|M p<|bK H2 fun q7 e3 H4=>J (aK<|aJ p<|ar e3)<|J (ah xg p)<|aa<|aW H4 pB p (fun _=>p) p fun x9 H5=>aa<|D H5 en_256 fun r10 _ H6=>aa<|aV H6 (gG p p) p fun v11 _ H7=>U p<|am<|O<|M (aJ p<|ar e3)<|J (aK p)<|J (ah fld_254_3 p)<|aa<|aW H7 sc_199 p (fun _=>p) p fun x15 H8=>aa<|aV H8 (gG p p) p fun v16 _ H9=>ae<|ax p H9 (fun k10 H11=>aq<|M p<|M (aJ p<|ar e3)<|J (aK p)<|J (ah fld_254_3 p)<|aa<|aW H11 sc_199 p (fun _=>p) p fun x21 H12=>aa<|gu H12 (gt (vs:=[]) p p) p fun v22 _ H13=>aa<|aV H13 (gG p p) p fun v23 _ H14=>aa<|aV H14 (gG p p) p fun v24 _ H15=>U p<|O<|M p<|U p<|aj<|Z ⟨v24,p,H15⟩) fun k10 H11=>ap<|O<|M p<|U p<|aj<|Z ⟨v11,p,H11⟩
def sh_trap_Trap_Is (a0:Ptr) (a1:Value) (K:Bool->Hp->Prop):Hp->Prop:=hpv prog (Instr.typeAssert a1 gH bg true) eX fun (v9:Ptr × Bool)=>br v9.2 ( br (!a0.isNone) ( br (!v9.1.isNone) ( nn a0 fun q23=>nn v9.1 fun q27=>ld (q23.1,q23.2 + 0) (cI .i64) fun x25=>ld (q27.1,q27.2 + 0) (cI .i64) fun x29=>K (x25 == x29)) ( K false)) ( K false)) ( K false)
theorem sim_trap_Trap_Is (a0:Ptr) (a1:Value) {K:Bool->Hp->Prop} {h:Hp} (H:sh_trap_Trap_Is a0 a1 K h):cl prog ua [(pv a0),a1] aC K h:=z_i func254 p p fun _=>O<|U p<|O<|M p<|aa<|aV H (gr p) p fun v9 _ H1=>M p<|J (al p p)<|J (al p p)<|J (av p)<|U p<|am<|bn (n:=21) [] ck p .slnil<|V 0 p (ai p)<|V 1 p (ai p)<|nt H1 (fun k2 H3=>z_n 2 p (F k2) (ve<|ai p)<|z_n 3 p (F k2) (ve<|v_pneT underlying252 p)<|V 4 p (aS p k2 p)<|V 5 p (ai p)<|nt H3 (fun k4 H5=>z_n 6 p (F k4) (ve<|ai p)<|z_n 7 p (F k4) (ve<|v_pneT underlying252 p)<|V 8 p (aS p k4 p)<|V 9 p (ai p)<|nt H5 (fun k6 H7=>z_n 10 p (F k6) (ve<|ai p)<|z_n 14 p (F k6) (ve<|ai p)<|ii H7 fun q23 e8 H9=>z_n 11 p (F k6) (ve<|aK<|aJ p<|ar e8)<|z_n 12 p (F k6) (ve<|ah xg p)<|ii H9 fun q27 e10 H11=>z_n 15 p (F k6) (ve<|aK<|aJ p<|ar e10)<|z_n 16 p (F k6) (ve<|ah xg p)<|mX (i:=13) (fun _ _ _ _ hh=>hh) H11 p (by kernel_rfl) p p p (F k6) pB p (fun _=>p) p fun x25 H12=>mX (i:=17) (fun _ _ _ _ hh=>hh) H12 p (by kernel_rfl) p p p (F k6) pB p (fun _=>p) p fun x29 H13=>z_n 18 p (F k6) (ve<|bP p p)<|V 19 p (aS p k6 p)<|V 20 p (av p)<|aR (by kernel_rfl)<|aj<|Z ⟨(x25 == x29),p,H13⟩) fun k6 H7=>z_f 10 p (aT k6)<|z_f 11 p (aT k6)<|z_f 12 p (aT k6)<|z_f 13 p (aT k6)<|z_f 14 p (aT k6)<|z_f 15 p (aT k6)<|z_f 16 p (aT k6)<|z_f 17 p (aT k6)<|z_f 18 p (aT k6)<|V 19 p (au p k6 p)<|V 20 p (av p)<|aR (by kernel_rfl)<|aj<|Z ⟨false,p,H7⟩) fun k4 H5=>z_f 6 p (aT k4)<|z_f 7 p (aT k4)<|V 8 p (au p k4 p)<|V 9 p (ai p)<|z_f 10 p p<|z_f 11 p p<|z_f 12 p p<|z_f 13 p p<|z_f 14 p p<|z_f 15 p p<|z_f 16 p p<|z_f 17 p p<|z_f 18 p p<|V 19 p (au p p p)<|V 20 p (av p)<|aR (by kernel_rfl)<|aj<|Z ⟨false,p,H5⟩) fun k2 H3=>z_f 2 p (aT k2)<|z_f 3 p (aT k2)<|V 4 p (au p k2 p)<|V 5 p (ai p)<|z_f 6 p p<|z_f 7 p p<|V 8 p (au p p p)<|V 9 p (ai p)<|z_f 10 p p<|z_f 11 p p<|z_f 12 p p<|z_f 13 p p<|z_f 14 p p<|z_f 15 p p<|z_f 16 p p<|z_f 17 p p<|z_f 18 p p<|V 19 p (au p p p)<|V 20 p (av p)<|aR (by kernel_rfl)<|aj<|Z ⟨false,p,H3⟩
def su (a0:Ptr) (K:Value->Hp->Prop):Hp->Prop:=br a0.isNone ( K Value.nilIface) ( nn a0 fun q6=>ld (q6.1,q6.2 + 7) cV fun x8=>K x8)
theorem sim_trap_Trap_Unwrap (a0:Ptr) {K:Value->Hp->Prop} {h:Hp} (H:su a0 K h):cl prog og [(pv a0)] iS K h:=z_i func255 p p fun _=>O<|U p<|am<|O<|M p<|J (cA underlying252 p)<|ae<|ax p H (fun k1 H2=>O<|U p<|aj<|Z ⟨Value.nilIface,p,H2⟩) fun k1 H2=>ap<|O<|M p<|bK H2 fun q6 e3 H4=>J (aK<|aJ p<|ar e3)<|J (ah fld_254_3 p)<|aa<|aW H4 sc_199 p (fun _=>p) p fun x8 H5=>U p<|aj<|Z ⟨x8,p,H5⟩
end
section
open Go Mb
variable {ET:Nat} {EF:Nat × Nat}
abbrev dD (b:Nat):Value:=.iface bg (.pointer (some ⟨b,0,none⟩))
theorem g0:prog.globals.size = 4:=by kernel_rfl
theorem g1:typeHandle prog bg = pv (some (4,bg)):=by kernel_rfl
theorem g2:(prog.globals[0]?).map (·.type) = some 249:=by kernel_rfl
theorem oneErr:((List.range 351).filter fun t=>prog.rowNamed t [101,114,114,111,114]) = [199]:=by kernel_rfl
theorem g4:prog.types.size = 351:=by kernel_rfl
abbrev rtV (T:Nat):Value:=.iface so (.agg #[pv (some (4,T))])
abbrev vl (T c f:Nat):aM:=⟨some (4,T),some (c,0),f⟩
abbrev vlV (T c f:Nat):Value:=.agg (aM.C (vl T c f)).toArray
section
variable (b:Nat) (K:Next->Hp->Prop) (h:Hp)
theorem x7:hp prog (callFunc gA #[dD b]) K h = K (.value (rtV bg)) h:=by kernel_rfl
theorem x8:hp prog (callFunc dc #[.iface bF (.pointer (some ⟨b,0,none⟩))]) K h = (true = true/\∀ e,h e = none->K (.value (vlV bF e 150)) (eG h e (.cells #[pv (some (b,0))] bF (0,0)))):=by kernel_rfl
theorem x8':hp prog (callFunc dc #[dD b]) K h = (true = true/\∀ e,h e = none->K (.value (vlV bg e 150)) (eG h e (.cells #[pv (some (b,0))] bg (0,0)))):=by kernel_rfl
theorem x10:hp prog (callMethod (rtV bF) "Kind" #[]) K h = K (.value (.int .u8 22)) h:=by kernel_rfl
theorem x11:hp prog (callMethod (rtV bF) "Elem" #[]) K h = K (.value (rtV bg)) h:=by kernel_rfl
theorem x12:hp prog (callMethod (rtV bg) "Kind" #[]) K h = K (.value (.int .u8 22)) h:=by kernel_rfl
theorem x13:hp prog (callMethod (rtV bg) "Comparable" #[]) K h = K (.value (.bool true)) h:=by kernel_rfl
theorem x14:hp prog (callMethod (rtV bg) "AssignableTo" #[rtV bg]) K h = K (.value (.bool true)) h:=by kernel_rfl
theorem x15 (c:Nat):hp prog (callFunc iV #[vlV bF c 150]) K h = K (.value (rtV bF)) h:=by kernel_rfl
theorem x16 (c:Nat):hp prog (callFunc fu #[vlV bF c 150]) K h =
 hp prog (do let r ← Extern.ReflectliteValue.isNil bF ⟨c,0,none⟩ 150 22; pure (.value r)) K h:=by kernel_rfl
theorem x17:hp prog (callMethod (rtV bg) "Implements" #[rtV gH]) K h = K (.value (.bool true)) h:=by kernel_rfl
theorem x18 (c:Nat):hp prog (callFunc fF #[vlV bF c 150]) K h =
 hp prog (do let r ← Extern.ReflectliteValue.elem bF ⟨c,0,none⟩ 150 22; pure (.value r)) K h:=by kernel_rfl
theorem x19 (c d:Nat):hp prog (callFunc fM #[vlV bg c 406,vlV bg d 150]) K h =
 hp prog (do let r ← (do let v ← loadVar bg ⟨d,0,none⟩; storeVar bg ⟨c,0,none⟩ v; pure (Value.tuple #[])); pure (.value r)) K h:=by kernel_rfl
theorem y1 (c:Nat) (K:Value->Hp->Prop):hp prog (loadVar bF ⟨c,0,none⟩) K h = ∃ v,lM h ⟨c,0,none⟩ = some v/\K v h:=by kernel_rfl
theorem y2 (c:Nat) (K:Value->Hp->Prop):hp prog (loadVar bg ⟨c,0,none⟩) K h = ∃ v,lM h ⟨c,0,none⟩ = some v/\K v h:=by kernel_rfl
theorem y3 (b:Nat) (K:Value->Hp->Prop):hp prog (Extern.ReflectliteValue.mk bg ⟨b,0,none⟩ Extern.ReflectliteValue.flagAddr) K h = K (vlV bg b 406) h:=by kernel_rfl
theorem y4 (K:Option TypeId->Hp->Prop):hp prog (Extern.Rtype.elem? bF) K h = K (some bg) h:=by kernel_rfl
theorem y5 (b c:Nat) (K:Unit->Hp->Prop):hp prog (storeVar bg ⟨c,0,none⟩ (.pointer (some ⟨b,0,none⟩))) K h = hp prog (storeCells ⟨c,0,none⟩ [.pointer (some ⟨b,0,none⟩)]) K h:=by kernel_rfl
theorem y6 (K:Value->Hp->Prop) {a b n m:Nat}:hp prog (do eqGuard .eql 199 (.tmp n) (.tmp m) (dD a) (dD b); binOp .eql 199 (dD a) (dD b):Sem Value) K h = hp prog (do let r ← sameAddr ⟨a,0,none⟩ ⟨b,0,none⟩; pure (.bool r)) K h:=by kernel_rfl
theorem x25 (K:Bool->Hp->Prop) {a b:Nat} {ca cb:List Value} {Ta Tb:Nat} (ha:h a = some (.cells ca.toArray Ta (0,0))) (hb:h b = some (.cells cb.toArray Tb (0,0))) (H:K (a == b) h):hp prog (sameAddr ⟨a,0,none⟩ ⟨b,0,none⟩) K h:=by
 unfold sameAddr
 rcases Decidable.em (a = b) with e | e
 ·subst e
  rw [if_pos (by simp)]
  have H':K true h:=by simpa using H
  simpa [yv] using H'
 ·rw [if_neg (by simpa using e)]
  have fa:∀ (K:Bool->Hp->Prop) (o:Nat),hp prog (frozen ⟨a,o,none⟩) K h↔K false h:=fun K o =>
   ⟨fun ⟨o',h1,h2⟩=>by rw [ha] at h1; cases h1; simpa [hp,vv] using h2,fun h2=>⟨_,ha,by simpa [hp,vv] using h2⟩⟩
  have fb:∀ (K:Bool->Hp->Prop) (o:Nat),hp prog (frozen ⟨b,o,none⟩) K h↔K false h:=fun K o =>
   ⟨fun ⟨o',h1,h2⟩=>by rw [hb] at h1; cases h1; simpa [hp,vv] using h2,fun h2=>⟨_,hb,by simpa [hp,vv] using h2⟩⟩
  have sa:∀ (K:Option (TypeId × Nat)->Hp->Prop),hp prog (shape a) K h↔K (some (Ta,ca.length)) h:=fun K =>
   ⟨fun ⟨o',h1,h2⟩=>by rw [ha] at h1; cases h1; simpa [hp,oshape] using h2,fun h2=>⟨_,ha,by simpa [hp,oshape] using h2⟩⟩
  have sb:∀ (K:Option (TypeId × Nat)->Hp->Prop),hp prog (shape b) K h↔K (some (Tb,cb.length)) h:=fun K =>
   ⟨fun ⟨o',h1,h2⟩=>by rw [hb] at h1; cases h1; simpa [hp,oshape] using h2,fun h2=>⟨_,hb,by simpa [hp,oshape] using h2⟩⟩
  have eb:(a == b) = false:=by simpa using e
  rw [eb] at H
  simp [da,fa,fb,sa,sb,noView,viewAt,mayBeOne,stringish,yv,H]
end
section
variable {P:Program} {τ:Type} {enc:τ->Value} {K:τ->Hp->Prop} {h:Hp}
theorem fO {m:Sem Value} (r:τ) (e:∀ (K:Value->Hp->Prop) h,hp P m K h = K (enc r) h) (k:K r h):hpv P m enc K h:=⟨by rw [e]; exact ⟨r,rfl,k⟩⟩
theorem ux {m:Sem Next} (r:τ) (e:∀ (K:Next->Hp->Prop) h,hp P m K h = K (.value (enc r)) h) (k:K r h):cln P m enc K h:=⟨by rw [e]; exact .inl ⟨r,rfl,k⟩⟩
theorem cln_en {m:Sem Next} {f:FuncId} {vs:List Value} (e:∀ (K:Next->Hp->Prop) h,hp P m K h = K (.enter f vs.toArray) h) (k:cl P f vs enc K h):cln P m enc K h:=⟨by rw [e]; exact .inr ⟨f,_,rfl,k⟩⟩
end
abbrev etB (ET:Nat) (EF:Nat × Nat):As:=obj 0 (.cells #[rtV gH] ET EF)
abbrev trB (b:Nat) (t:ce):As:=blk b oD (ce.C t)
theorem en_0 (b n:Nat) (K:Value->Hp->Prop) (h:Hp):hp prog (do eqGuard .eql 199 (.tmp n) (.const Value.nilIface) (dD b) Value.nilIface; binOp .eql 199 (dD b) Value.nilIface:Sem Value) K h = K (.bool false) h:=by kernel_rfl
theorem en_00 (n:Nat) (K:Value->Hp->Prop) (h:Hp):hp prog (do eqGuard .eql 199 (.tmp n) (.const Value.nilIface) Value.nilIface Value.nilIface; binOp .eql 199 Value.nilIface Value.nilIface:Sem Value) K h = K (.bool true) h:=by kernel_rfl
theorem en_1 (b n:Nat) (K:Value->Hp->Prop) (h:Hp):hp prog (do eqGuard .eql 20 (.tmp n) (.const Value.nilIface) (.iface bF (.pointer (some ⟨b,0,none⟩))) Value.nilIface; binOp .eql 20 (.iface bF (.pointer (some ⟨b,0,none⟩))) Value.nilIface:Sem Value) K h = K (.bool false) h:=by kernel_rfl
theorem sp_As_nil (v:Value):Sp prog vC [Value.nilIface,v] aC [] (fun r=>pa_ (r = false) []):=by
 intro h st
 refine sim_errors_As _ _ ?_
 unfold ya
 exact fO true (en_00 _) (eD rfl (aZ rfl st))
section
variable {h:Hp} {b c d:Nat}
theorem c22 {K:Bool->Hp->Prop} (e:lM h ⟨c,0,none⟩ = some (.pointer (some ⟨b,0,none⟩))) (H:K false h):cln prog (callFunc fu #[vlV bF c 150]) aC K h:=by
 constructor
 rw [x16,da]
 unfold Extern.ReflectliteValue.isNil
 rw [if_neg (by decide)]
 rw [da,y1]; exact ⟨_,e,.inl ⟨false,rfl,H⟩⟩
theorem c23 {K:aM->Hp->Prop} (e:lM h ⟨c,0,none⟩ = some (.pointer (some ⟨b,0,none⟩))) (H:K (vl bg b 406) h):cln prog (callFunc fF #[vlV bF c 150]) fS K h:=by
 constructor
 rw [x18,da]
 unfold Extern.ReflectliteValue.elem
 rw [if_neg (by decide),da,y1]
 refine ⟨_,e,?_⟩
 rw [da,y4]
 show hp _ (Extern.ReflectliteValue.mk _ _ _) _ h
 rw [y3]; exact .inl ⟨_,rfl,H⟩
theorem c24 {K:Unit->Hp->Prop} (e:lM h ⟨d,0,none⟩ = some (.pointer (some ⟨b,0,none⟩))) (H:hp prog (storeCells ⟨c,0,none⟩ [.pointer (some ⟨b,0,none⟩)]) (fun _=>K ()) h):cln prog (callFunc fM #[vlV bg c 406,vlV bg d 150]) R_ K h:=by
 constructor
 rw [x19,da,da,y2]; refine ⟨_,e,?_⟩
 rw [da,y5]; exact hp_mono _ (fun _ _ k=>.inl ⟨(),rfl,k⟩) _ H
theorem c8 {K:aM->Hp->Prop} (H:∀ e,h e = none->K (vl bF e 150) (eG h e (.cells #[pv (some (b,0))] bF (0,0)))):cln prog (callFunc dc #[.iface bF (.pointer (some ⟨b,0,none⟩))]) fS K h:=by
 constructor
 rw [x8]
 exact ⟨rfl,fun e he=>.inl ⟨_,rfl,H e he⟩⟩
theorem c8' {K:aM->Hp->Prop} (H:∀ e,h e = none->K (vl bg e 150) (eG h e (.cells #[pv (some (b,0))] bg (0,0)))):cln prog (callFunc dc #[dD b]) fS K h:=by
 constructor
 rw [x8']
 exact ⟨rfl,fun e he=>.inl ⟨_,rfl,H e he⟩⟩
end
theorem blk_cell {l:List As} {h:Hp} {i b:Nat} {T:TypeId} {c:List Value} {v:Value} (hi:l[i]? = some (blk b T c)) (hv:c[0]? = some v) (s:aB l h):lM h ⟨b,0,none⟩ = some v:=by
 obtain ⟨g1,a1,sub1⟩:=dV hi s
 have:=sub1 _ _ a1
 unfold lM
 rw [this]
 simpa using hv
theorem sp_as (b c d:Nat) (p:Ptr):Sp prog vB [dD b,.iface bF (.pointer (some ⟨c,0,none⟩)),vlV bF d 150,rtV bg] aC
  [blk c bg [pv p],blk d bF [pv (some (c,0))]] (fun r=>pa_ (r = true) [blk c bg [pv (some (b,0))]]):=by
 intro h st
 refine sim_errors_as _ _ _ _ ?_
 unfold sh_errors_as
 refine ⟨fun s h=>s = dD b/\aB [blk c bg [pv p],blk d bF [pv (some (c,0))]] h,fun _ _=>0,⟨rfl,st⟩,?_⟩
 rintro _ h1 ⟨rfl,s1⟩
 unfold yA
 refine ux (rtV bg) (fun K h=>x7 b K h) ?_
 refine ux true (fun K h=>x14 K h) (eD rfl ?_)
 refine c23 (blk_cell (i:=1) rfl rfl s1) ?_
 refine c8' fun e he=>?_
 have s2:aB (blk e bg [pv (some (b,0))]::_) _:=new_s (o:=.cells #[pv (some (b,0))] bg (0,0)) s1 he
 refine c24 (blk_cell (i:=0) (T:=bg) (c:=[pv (some (b,0))]) rfl rfl s2) ?_
 obtain ⟨g2,a2,sub2⟩:=dV (i:=1) (A:=blk c bg [pv p]) rfl s2
 refine hp_storeCells _ 0 0 [pv p] _ (sub2 _ _ a2) (by simp) rfl ?_
 have s3:aB (_::blk c bg [pv (some (b,0))]::_) _:=obj_set (o':=.cells #[pv (some (b,0))] bg (0,0)) (i:=1) s2 rfl
 exact aZ rfl (cd (l:=[_,_]) (bb [0,1] s3 rfl))
theorem sp_As (b c:Nat) (p:Ptr):Sp prog vC [dD b,.iface bF (.pointer (some ⟨c,0,none⟩))] aC
  [(etB ET EF),blk c bg [pv p]] (fun r=>pa_ (r = true) [(etB ET EF),blk c bg [pv (some (b,0))]]):=by
 intro h st
 refine sim_errors_As _ _ ?_
 unfold ya
 refine fO false (en_0 b _) (dO rfl ?_)
 refine fO false (en_1 c _) (dO rfl ?_)
 unfold yD
 refine c8 fun e he=>?_
 have s2:aB (blk e bF [pv (some (c,0))]::_) _:=new_s (o:=.cells #[pv (some (c,0))] bF (0,0)) st he
 refine ux (rtV bF) (fun K h=>x15 K h e) ?_
 refine ux 22 (fun K h=>x10 K h) (eD rfl ?_)
 refine c22 (blk_cell (i:=0) (T:=bF) (c:=[pv (some (c,0))]) rfl rfl s2) (dO rfl ?_)
 unfold yC
 refine ux (rtV bg) (fun K h=>x11 K h) ?_
 refine ux 22 (fun K h=>x12 K h) (eD rfl ?_)
 obtain ⟨g3,a3,sub3⟩:=dV (i:=1) (A:=etB ET EF) rfl s2
 refine ⟨rtV gH,⟨_,_,_,sub3 _ _ a3,fun i v hv=>?_⟩,?_⟩
 ·rcases i with _ | i <;> first | exact hv | simp [cV] at hv
 refine ux true (fun K h=>x17 K h) (dO rfl ?_)
 unfold ti
 refine cW [2,0,1] (rest:=[(etB ET EF)]) (sp_as b c e p) s2 rfl fun r h' s3=>?_
 obtain ⟨rfl,s4⟩:=bt.1 s3
 exact aZ rfl (bb [1,0] s4 rfl)
abbrev firstOf (b:Nat):Ptr × Bool:=(some (b,0),true)
theorem sp_First (b:Nat):Sp prog kD [dD b] eX [(etB ET EF)] (fun r=>pa_ (r = firstOf b) [(etB ET EF)]):=by
 intro h st
 refine sim_trap_First _ ?_
 unfold wc
 refine pG st fun c h1 s1=>?_
 refine fO (.iface bF (.pointer (some ⟨c,0,none⟩))) (fun K h=>by kernel_rfl) ?_
 refine cW [1,0] (rest:=[]) (sp_As b c none) s1 rfl fun r h' s2=>?_
 obtain ⟨rfl,s3⟩:=bt.1 s2
 refine eD rfl ?_
 refine bp (some (b,0)) s3 (i:=1) rfl rfl rfl ?_
 unfold nA
 refine dO rfl ?_
 refine bp (some (b,0)) s3 (i:=1) rfl rfl rfl ?_
 exact aZ rfl (cd (l:=[_]) (bb [1] s3 rfl))
theorem sp_First_nil:Sp prog kD [Value.nilIface] eX [] (fun r=>pa_ (r = (none,false)) []):=by
 intro h st
 refine sim_trap_First _ ?_
 unfold wc
 refine pG st fun c h1 s1=>?_
 refine fO (.iface bF (.pointer (some ⟨c,0,none⟩))) (fun K h=>by kernel_rfl) ?_
 refine uJ (sp_As_nil _) s1 fun r h' hr s2=>?_
 subst hr
 refine dO rfl ?_
 unfold nA
 exact eD rfl (aZ rfl trivial)
theorem sp_Of (n:Int) (hn:n ≠ 0):Sp prog kY [.int .i64 n] iS [] (fun r=>ex fun b=>pa_ (r = dD b) [trB b ⟨n,-1,⟨0,0,0,0,0⟩,.nilIface⟩]):=by
 intro h st
 refine sim_trap_Of _ ?_
 unfold sh_trap_Of
 refine dO (by simpa using hn) ?_
 refine pG st fun b h1 s1=>?_
 refine fO (dD b) (fun K h=>by kernel_rfl) ?_
 exact ⟨b,aZ rfl s1⟩
theorem sp_Of0:Sp prog kY [.int .i64 0] iS [] (fun r=>pa_ (r = Value.nilIface) []):=by
 intro h st
 refine sim_trap_Of _ ?_
 unfold sh_trap_Of
 exact eD rfl (aZ rfl st)
theorem sp_Code (b:Nat) (t:ce):Sp prog vy [dD b] bj [(etB ET EF),trB b t] (fun r=>pa_ (r = t.fBb) [(etB ET EF),trB b t]):=by
 intro h st
 refine sim_trap_Code _ ?_
 unfold sh_trap_Code
 refine fO false (en_0 b _) (dO rfl ?_)
 refine bS (i:=0) (sp_First b) rfl st fun r h' hr s2=>?_
 subst hr
 refine eD rfl (cL ?_)
 refine bp t.fBb s2 (i:=1) rfl rfl rfl ?_
 exact aZ rfl s2
theorem sp_In (env:Int) (c:ak) (b:Nat) (t:ce):Sp prog n_trap_In [.int .i64 env,.agg (ak.C c).toArray,dD b] iS [(etB ET EF),trB b t]
  (fun r=>ex fun e=>pa_ (r = dD e) [trB e ⟨t.fBb,env,c,dD b⟩,(etB ET EF),trB b t]):=by
 intro h st
 refine sim_trap_In _ _ _ ?_
 unfold sh_trap_In
 refine fO false (en_0 b _) (dO rfl ?_)
 refine cW [] (rest:=[]) (sp_Code b t) st (List.append_nil _).symm fun r h' s2=>?_
 obtain ⟨rfl,s3⟩:=bt.1 s2
 refine fO ⟨t.fBb,env,c,dD b⟩ (fun K h=>by kernel_rfl) ?_
 refine pG s3 fun e h1 s4=>?_
 refine fO (dD e) (fun K h=>by kernel_rfl) ?_
 exact ⟨e,aZ rfl s4⟩
theorem sp_Depth2 (b e:Nat) (t u:ce) (ht:t.fWa = dD e) (hu:u.fWa = Value.nilIface):Sp prog yj [dD b] eF [(etB ET EF),trB b t,trB e u] (fun r=>pa_ (r = 2) [(etB ET EF),trB b t,trB e u]):=by
 intro h st
 refine sim_trap_Depth _ ?_
 unfold sh_trap_Depth
 refine bS (i:=0) (sp_First b) rfl st fun r h' hr s2=>?_
 subst hr
 refine ⟨fun s h=>(s = (0,some (b,0),true)\/s = (1,some (e,0),true)\/s = (2,none,false))/\aB [(etB ET EF),trB b t,trB e u] h,fun s _=>3 - s.1.toNat,⟨.inl rfl,s2⟩,?_⟩
 rintro s h1 ⟨rfl | rfl | rfl,s3⟩
 ·unfold nB
  refine eD rfl (cL ?_)
  refine bp t.fWa s3 (i:=1) rfl rfl rfl ?_
  rw [ht]
  refine bS (i:=0) (sp_First e) rfl s3 fun r h' hr s4=>?_
  subst hr
  exact ⟨⟨.inr (.inl rfl),s4⟩,Nat.le_of_ble_eq_true rfl⟩
 ·unfold nB
  refine eD rfl (cL ?_)
  refine bp u.fWa s3 (i:=2) rfl rfl rfl ?_
  rw [hu]
  refine uJ sp_First_nil s3 fun r h' hr s4=>?_
  subst hr
  exact ⟨⟨.inr (.inr rfl),s4⟩,Nat.le_of_ble_eq_true rfl⟩
 ·unfold nB
  exact dO rfl (aZ rfl s3)
end
section
open Go Mb
def sh_strconv_Itoa (a0:Int) (K:ByteArray->Hp->Prop):Hp->Prop:=cl prog jY [(.int .i64 a0)] eB fun r4=>K r4
theorem sim_strconv_Itoa (a0:Int) {K:ByteArray->Hp->Prop} {h:Hp} (H:sh_strconv_Itoa a0 K h):cl prog uc [(.int .i64 a0)] eB K h:=z_i func256 p p fun _=>O<|U p<|O<|M p<|aa<|D H en_257 fun r4 _ H1=>U p<|aj<|Z ⟨r4,p,H1⟩
end
section
open Go Mb
def ne (a0:Int) (K:ByteArray->Hp->Prop):Hp->Prop:=br (decide (a0 < 10)) ( hpv prog (Instr.sliceAt wz (.string str_73df774b) (some (.int .i64 a0)) (some (.int .i64 (i64.wrap (a0 + 1)))) none) eB fun (v8:ByteArray)=>K v8) ( hpv prog (Instr.sliceAt wz (.string str_e9752c08) (some (.int .i64 (i64.wrap (a0 * 2)))) (some (.int .i64 (i64.wrap ((i64.wrap (a0 * 2)) + 2)))) none) eB fun (v14:ByteArray)=>K v14)
theorem tK (a0:Int) {K:ByteArray->Hp->Prop} {h:Hp} (H:ne a0 K h):cl prog jI [(.int .i64 a0)] eB K h:=z_i func259 p p fun _=>O<|U p<|am<|O<|M p<|J (cj p p)<|ae<|ax p H (fun k1 H2=>O<|M p<|M p<|J (bk p p)<|aa<|aV H2 (ff p p p p p) p fun v8 _ H3=>U p<|aj<|Z ⟨v8,p,H3⟩) fun k1 H2=>ap<|O<|M p<|J (v_mul p p)<|M p<|J (v_mul p p)<|J (bk p p)<|aa<|aV H2 (ff p p p p p) p fun v14 _ H4=>U p<|aj<|Z ⟨v14,p,H4⟩
def gC (a0:Int) (K:ByteArray->Hp->Prop) (b5:Nat) (s9:Int):Hp->Prop:=cl prog se [(.int .u64 s9)] eF fun r27=>hpv prog (Instr.sliceAt xB (.pointer (some ⟨b5,0,none⟩)) (some (.int .i64 1)) (some (.int .i64 (i64.wrap (1 + r27)))) none) R_Suint8 fun (v30:Sl)=>cl prog qf [(sv v30),(.int .u64 s9)] R_ fun (_:Unit)=>br (decide (a0 < 0)) ( st (b5,0) [.int .u8 45]<|hpv prog (Instr.sliceAt xB (.pointer (some ⟨b5,0,none⟩)) none (some (.int .i64 (i64.wrap (1 + r27)))) none) R_Suint8 fun (v38:Sl)=>hpv prog (convert 329 9 (sv v38)) eB fun (v39:ByteArray)=>K v39) ( hpv prog (Instr.sliceAt xB (.pointer (some ⟨b5,0,none⟩)) (some (.int .i64 1)) (some (.int .i64 (i64.wrap (1 + r27)))) none) R_Suint8 fun (v42:Sl)=>hpv prog (convert 329 9 (sv v42)) eB fun (v43:ByteArray)=>K v43)
def kx (a0:Int) (a1:Int) (K:ByteArray->Hp->Prop):Hp->Prop:=br (a1 == 10) ( br ((decide (0 <= a0)) && (decide (a0 < 100))) ( cl prog jI [(.int .i64 a0)] eB fun r19=>K r19) ( nw xB [.int .u8 0,.int .u8 0,.int .u8 0,.int .u8 0,.int .u8 0,.int .u8 0,.int .u8 0,.int .u8 0,.int .u8 0,.int .u8 0,.int .u8 0,.int .u8 0,.int .u8 0,.int .u8 0,.int .u8 0,.int .u8 0,.int .u8 0,.int .u8 0,.int .u8 0,.int .u8 0,.int .u8 0,.int .u8 0,.int .u8 0,.int .u8 0] fun b5=>br (decide (a0 < 0)) ( gC a0 K b5 (u64.wrap (0 - (u64.wrap a0)))) ( gC a0 K b5 (u64.wrap a0)))) ( cl prog rJ [(sv (⟨none,0,0,none⟩:Sl)),(.int .u64 (u64.wrap a0)),(.int .i64 a1),(.bool (decide (a0 < 0))),(.bool false)] R_Suint8_string fun r50=>K r50.2)
theorem qN (a0:Int) (a1:Int) {K:ByteArray->Hp->Prop} {h:Hp} (H:kx a0 a1 K h):cl prog gP [(.int .i64 a0),(.int .i64 a1)] eB K h:=z_i func258 p p fun _=>O<|U p<|am<|O<|M p<|J (bP p p)<|ae<|ax p H (fun k1 H2=>am<|O<|M p<|J (v_le p p)<|M p<|W p p (ay _) (fun g3=>wv<|ai p)<|W p p (ay _) (fun g4=>wv<|cj (aG p g4) p)<|J (bQ p p)<|ae<|ax p H2 (fun k5 H6=>O<|M p<|aa<|D H6 en_259 fun r19 _ H7=>U p<|aj<|Z ⟨r19,p,H7⟩) fun k5 H6=>ap<|O<|aa<|to_alloc zero_326 p p H6 fun b5 _ H8=>ae<|O<|M p<|J (dw ⟨_,underlying2⟩ underlying22 p)<|U p<|eC (gC a0 K b5) (fun s9=>[(0,(.int .i64 a0)),(5,(.pointer (some ⟨b5,0,none⟩))),(6,(.int .u64 s9))]) (fun s9=>[]) (O<|M p<|J (cj p p)<|ae<|ax p H8 (fun k21 H22=>aq<|M p<|J (v_neg p)<|U p<|cE (u64.wrap (0 - (u64.wrap a0))) H22 (.cons p<|.cons p<|.cons p<|.nil _) .slnil) fun k21 H22=>ap<|cE (u64.wrap a0) H22 (.cons p<|.cons p<|.cons p<|.nil _) .slnil) fun s9 _ H10=>O<|M p<|aa<|D H10 en_260 fun r27 _ H11=>U p<|O<|M p<|J (bk p p)<|aa<|aV H11 (ff p p p p p) p fun v30 _ H12=>M p<|aa<|D H12 en_261 fun r32 _ H13=>ae<|am<|O<|M p<|J (cj p p)<|ae<|ax p H13 (fun k14 H15=>O<|J (bC arr_326 p p (by decide))<|aa<|di inf_5 p p p p p H15 fun _ H16=>ae<|O<|M p<|J (bk p p)<|aa<|aV H16 (ff p p p p p) p fun v38 _ H17=>aa<|aV H17 (x_convert p) p fun v39 _ H18=>U p<|aj<|Z ⟨v39,p,H18⟩) fun k14 H15=>ap<|O<|M p<|J (bk p p)<|aa<|aV H15 (ff p p p p p) p fun v42 _ H19=>aa<|aV H19 (x_convert p) p fun v43 _ H20=>U p<|aj<|Z ⟨v43,p,H20⟩) fun k1 H2=>ap<|O<|M p<|J (dw ⟨_,underlying2⟩ underlying22 p)<|M p<|M p<|J (cj p p)<|aa<|D H2 en_262 fun r50 _ H23=>M p<|J (al p p)<|J (al p p)<|J (av p)<|U p<|O<|M p<|U p<|aj<|Z ⟨r50.2,p,H23⟩
def nI (a0:Int) (K:ByteArray->Hp->Prop):Hp->Prop:=cl prog gP [(.int .i64 a0),(.int .i64 10)] eB fun r4=>K r4
theorem uH (a0:Int) {K:ByteArray->Hp->Prop} {h:Hp} (H:nI a0 K h):cl prog jY [(.int .i64 a0)] eB K h:=z_i func257 p p fun _=>O<|U p<|O<|M p<|aa<|D H en_258 fun r4 _ H1=>U p<|aj<|Z ⟨r4,p,H1⟩
end
section
open Go Mb
def qn (K:Bool->Hp->Prop):Hp->Prop:=cl prog kY [(.int .i64 3)] iS fun r5=>cl prog n_trap_In [(.int .i64 2),(.agg (ak.C (⟨1,2,0,0,0⟩:ak)).toArray),r5] iS fun r6=>cl prog kD [r6] eX fun r9=>hpv prog (do eqGuard .eql 199 (.tmp 12) (.const Value.nilIface) r6 Value.nilIface; binOp .eql 199 r6 Value.nilIface:Sem Value) aC fun (v13:Bool)=>br (v13 || r9.1.isNone) ( K false) ( br r9.2 ( nn r9.1 fun q21=>ld (q21.1,q21.2 + 1) (cI .i64) fun x23=>br (x23 == 2) ( ld (q21.1,q21.2 + 2) ak.C fun x30=>br (ak.eqb x30 (⟨1,2,0,0,0⟩:ak)) ( ld (q21.1,q21.2 + 0) (cI .i64) fun x38=>br (x38 == 3) ( cl prog vy [r6] bj fun r43=>br (r43 == 3) ( cl prog yj [r6] eF fun r48=>br (r48 == 2) ( cl prog kY [(.int .i64 3)] iS fun r53=>cl prog oM [r6,r53] aC fun r54=>br r54 ( cl prog kY [(.int .i64 4)] iS fun r58=>cl prog oM [r6,r58] aC fun r59=>br (!r59) ( cln prog (callMethod r6 "Error" #[]) eB fun (v64:ByteArray)=>hpv prog (do eqGuard .eql 9 (.tmp 64) (.const (.string pd)) (.string v64) (.string pd); binOp .eql 9 (.string v64) (.string pd):Sem Value) aC fun (v65:Bool)=>br v65 ( cl prog kY [(.int .i64 0)] iS fun r68=>hpv prog (do eqGuard .eql 199 (.tmp 68) (.const Value.nilIface) r68 Value.nilIface; binOp .eql 199 r68 Value.nilIface:Sem Value) aC fun (v69:Bool)=>K v69) ( K false)) ( K false)) ( K false)) ( K false)) ( K false)) ( K false)) ( K false)) ( K false)) ( K false))
theorem xQ {K:Bool->Hp->Prop} {h:Hp} (H:qn K h):cl prog me [] aC K h:=z_i func223 p p fun _=>O<|U p<|O<|J (bd p<|mZ 1 2)<|aa<|D H yG fun r5 _ H1=>aa<|D H1 en_186 fun r6 _ H2=>U p<|O<|M p<|aa<|D H2 en_222 fun r9 _ H3=>M p<|J (al p p)<|J (al p p)<|J (av p)<|U p<|am<|O<|M p<|aa<|aV H3 (gG p p) p fun v13 _ H4=>M p<|W p p (aL _) (fun g5=>wv<|ai p)<|W p p (aL _) (fun g6=>wv<|cA underlying252<|aG p g6)<|J (dy p p)<|ae<|ax p H4 (fun k7 H8=>O<|U p<|aj<|Z ⟨false,p,H8⟩) fun k7 H8=>ap<|O<|M p<|M p<|W p p (ay _) (fun g9=>wv<|ai p)<|bU H8 (fun k11 H12=>bK H12 fun q21 e13 H14=>G (F k11)<|z_p (aK<|aJ (aG p k11)<|ar e13)<|G (F k11)<|z_p (ah fld_254_1 p)<|G (F k11)<|aW H14 ba p (fun _=>p) p fun x23 H15=>G (F k11)<|z_p (bP p p)<|J (aS p k11 p)<|M p<|W p p (ay _) (fun g16=>wv<|ai<|aJ p<|ar e13)<|W p p (ay _) (fun g17=>wv<|aK<|aG p g17)<|W p p (ay _) (fun g18=>wv<|ah fld_254_2<|aG p g18)<|bU H15 (fun k20 H21=>G (F k20)<|hO H21 fH (aG p k20) (fun _=>p) p fun x30 H22=>G (F k20)<|z_p (bd p<|mZ 1 2)<|G (F k20)<|z_p (v_eqA eqg_34 (eqr_34 9998 _ _) p p)<|J (aS p k20 p)<|M p<|W p p (ay _) (fun g23=>wv<|ai<|aJ p<|ar e13)<|W p p (ay _) (fun g24=>wv<|aK<|aG p g24)<|W p p (ay _) (fun g25=>wv<|ah xg<|aG p g25)<|bU H22 (fun k27 H28=>G (F k27)<|aW H28 pB (aG p k27) (fun _=>p) p fun x38 H29=>G (F k27)<|z_p (bP p p)<|J (aS p k27 p)<|M p<|W p p (ay _) (fun g30=>wv<|ai p)<|bU H29 (fun k32 H33=>G (F k32)<|gw H33 en_208 (aU (aG p k32) bX) p fun r43 _ H34=>G (F k32)<|z_p (bP p p)<|J (aS p k32 p)<|M p<|W p p (ay _) (fun g35=>wv<|ai p)<|bU H34 (fun k37 H38=>G (F k37)<|gw H38 en_228 (aU (aG p k37) bX) p fun r48 _ H39=>G (F k37)<|z_p (bP p p)<|J (aS p k37 p)<|M p<|W p p (ay _) (fun g40=>wv<|ai p)<|bU H39 (fun k42 H43=>G (F k42)<|D H43 yG fun r53 _ H44=>G (F k42)<|gw H44 en_149 (aU (aG p k42)<|aU p bX) p fun r54 _ H45=>J (aS p k42 p)<|M p<|W p p (ay _) (fun g46=>wv<|ai p)<|bU H45 (fun k48 H49=>G (F k48)<|D H49 yG fun r58 _ H50=>G (F k48)<|gw H50 en_149 (aU (aG p k48)<|aU p bX) p fun r59 _ H51=>G (F k48)<|z_p (cy p)<|J (aS p k48 p)<|M p<|W p p (ay _) (fun g52=>wv<|ai p)<|bU H51 (fun k54 H55=>G (F k54)<|gu H55 (gt (vs:=[]) (aG p k54) p) p fun v64 _ H56=>G (F k54)<|aV H56 (gG p p) p fun v65 _ H57=>J (aS p k54 p)<|M p<|bU H57 (fun k59 H60=>G (F k59)<|D H60 yG fun r68 _ H61=>G (F k59)<|aV H61 (gG p p) p fun v69 _ H62=>J (aS p k59 p)<|U p<|aj<|Z ⟨v69,p,H62⟩) fun k59 H60=>Y (aT k59)<|Y (aT k59)<|J (au p k59 p)<|U p<|aj<|Z ⟨false,p,H60⟩) fun k54 H55=>Y (aT k54)<|Y (aT k54)<|J (au p k54 p)<|M p<|Y p<|Y p<|J (au p p p)<|U p<|aj<|Z ⟨false,p,H55⟩) fun k48 H49=>Y (aT k48)<|Y (aT k48)<|Y (aT k48)<|J (au p k48 p)<|M p<|Y p<|Y p<|Y p<|J (au p p p)<|M p<|Y p<|Y p<|J (au p p p)<|U p<|aj<|Z ⟨false,p,H49⟩) fun k42 H43=>Y (aT k42)<|Y (aT k42)<|J (au p k42 p)<|M p<|Y p<|Y p<|Y p<|Y p<|J (au p p p)<|M p<|Y p<|Y p<|Y p<|J (au p p p)<|M p<|Y p<|Y p<|J (au p p p)<|U p<|aj<|Z ⟨false,p,H43⟩) fun k37 H38=>Y (aT k37)<|Y (aT k37)<|J (au p k37 p)<|M p<|Y p<|Y p<|Y p<|J (au p p p)<|M p<|Y p<|Y p<|Y p<|Y p<|J (au p p p)<|M p<|Y p<|Y p<|Y p<|J (au p p p)<|M p<|Y p<|Y p<|J (au p p p)<|U p<|aj<|Z ⟨false,p,H38⟩) fun k32 H33=>Y (aT k32)<|Y (aT k32)<|J (au p k32 p)<|M p<|Y p<|Y p<|Y p<|J (au p p p)<|M p<|Y p<|Y p<|Y p<|J (au p p p)<|M p<|Y p<|Y p<|Y p<|Y p<|J (au p p p)<|M p<|Y p<|Y p<|Y p<|J (au p p p)<|M p<|Y p<|Y p<|J (au p p p)<|U p<|aj<|Z ⟨false,p,H33⟩) fun k27 H28=>Y (aT k27)<|Y (aT k27)<|J (au p k27 p)<|M p<|Y p<|Y p<|Y p<|J (au p p p)<|M p<|Y p<|Y p<|Y p<|J (au p p p)<|M p<|Y p<|Y p<|Y p<|J (au p p p)<|M p<|Y p<|Y p<|Y p<|Y p<|J (au p p p)<|M p<|Y p<|Y p<|Y p<|J (au p p p)<|M p<|Y p<|Y p<|J (au p p p)<|U p<|aj<|Z ⟨false,p,H28⟩) fun k20 H21=>Y (aT k20)<|Y (aT k20)<|Y (aT k20)<|J (au p k20 p)<|M p<|Y p<|Y p<|Y p<|Y p<|Y p<|J (au p p p)<|M p<|Y p<|Y p<|Y p<|J (au p p p)<|M p<|Y p<|Y p<|Y p<|J (au p p p)<|M p<|Y p<|Y p<|Y p<|J (au p p p)<|M p<|Y p<|Y p<|Y p<|Y p<|J (au p p p)<|M p<|Y p<|Y p<|Y p<|J (au p p p)<|M p<|Y p<|Y p<|J (au p p p)<|U p<|aj<|Z ⟨false,p,H21⟩) fun k11 H12=>Y (aT k11)<|Y (aT k11)<|Y (aT k11)<|Y (aT k11)<|J (au p k11 p)<|M p<|Y p<|Y p<|Y p<|Y p<|Y p<|Y p<|J (au p p p)<|M p<|Y p<|Y p<|Y p<|Y p<|Y p<|J (au p p p)<|M p<|Y p<|Y p<|Y p<|J (au p p p)<|M p<|Y p<|Y p<|Y p<|J (au p p p)<|M p<|Y p<|Y p<|Y p<|J (au p p p)<|M p<|Y p<|Y p<|Y p<|Y p<|J (au p p p)<|M p<|Y p<|Y p<|Y p<|J (au p p p)<|M p<|Y p<|Y p<|J (au p p p)<|U p<|aj<|Z ⟨false,p,H12⟩
def qo (K:Bool->Hp->Prop):Hp->Prop:=cl prog me [] aC fun r1=>K r1
theorem xR {K:Bool->Hp->Prop} {h:Hp} (H:qo K h):cl prog mf [] aC K h:=z_i func213 p p fun _=>O<|U p<|O<|aa<|D H en_223 fun r1 _ H1=>U p<|aj<|Z ⟨r1,p,H1⟩
end
end Go.Proofs.YtemoifebbhoinaaGreatDoor
