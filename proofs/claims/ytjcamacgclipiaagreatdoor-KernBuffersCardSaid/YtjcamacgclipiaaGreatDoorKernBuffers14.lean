/- Part of the proof of: The law KernBuffers returns true for every input, and leaves its arguments as they were. -/
import Derived.Test.YtjcamacgclipiaaGreatDoorKernBuffers13
set_option linter.all false
set_option maxRecDepth 20000
set_option maxHeartbeats 4000000
namespace Go.Proofs.YtjcamacgclipiaaGreatDoor
open Go.Proofs.Tryz
open Go.IntKind (i64 u64)
open _root_.Bool (and_eq_true)
open _root_.Int (fdiv toNat_natCast)
open _root_.List (append_assoc eq_nil_of_length_eq_zero getElem?_append_left getElem?_append_right getElem?_eq_getElem length_append length_drop length_pos_iff length_pos_of_mem length_take mem_of_mem_drop mem_of_mem_take pairwise_append take_append_drop)
open _root_.Nat (div_eq_of_lt le_refl lt_or_ge mul_comm zero_le)
section
open Go Mb
def Wit (u v:List Int) (a b:Nat) (R:Int->Int->Prop):Prop:=∃ x y,u[a]? = some x/\v[b]? = some y/\R x y
section
variable (s:Sl) (f:Value) (A:List As) (key:Int->Int) (S:Int->Prop) (hv:CmpOk f A key S)
include hv
def Ih (N:Nat):Prop:=∀ (p u v q:List Int) (a m b:Int) (h':Hp) (K:Unit->Hp->Prop),u.length + v.length <= N->u ≠ []->v ≠ []->(∀ y ∈ u,S y)->(∀ y ∈ v,S y)->Up key u->Up key v->p.length + u.length + v.length + q.length < 2 ^ 58->a = ((p.length:Nat):Int)->m = ((p.length + u.length:Nat):Int)->b = ((p.length + u.length + v.length:Nat):Int)->ah (vI s (p++(u++(v++q)))::A) h' ->
    (∀ m' h',m'.Perm (u++v)->Up key m'->ah (vI s (p++(m'++q))::A) h'->K () h')->cl prog bm [sv s,.int .i64 a,.int .i64 m,.int .i64 b,f] R_ K h'
omit hv in
theorem ih_of {N:Nat} (H:Ih s f A key S N):∀ (p u v q:List Int) (a m b:Int) (h':Hp) (K:Unit->Hp->Prop),u.length + v.length <= N->u ≠ []->v ≠ []->(∀ y ∈ u,S y)->(∀ y ∈ v,S y)->Up key u->Up key v->p.length + u.length + v.length + q.length < 2 ^ 58->a = ((p.length:Nat):Int)->m = ((p.length + u.length:Nat):Int)->b = ((p.length + u.length + v.length:Nat):Int)->ah (vI s (p++(u++(v++q)))::A) h' ->
    (∀ m' h',m'.Perm (u++v)->Up key m'->ah (vI s (p++(m'++q))::A) h'->K () h')->cl prog bm [sv s,.int .i64 a,.int .i64 m,.int .i64 b,f] R_ K h':=H
abbrev Tgt (p q u1 u2 v1 v2:List Int):Unit->Hp->Prop:=fun _ h=>∃ m',(m'.Perm ((u1++u2)++(v1++v2))/\Up key m')/\ah (vI s (p++(m'++q))::A) h
structure Cut4 (N:Nat) (p q u1 u2 v1 v2:List Int) (i M B mid:Nat):Prop where
 l1:p.length + u1.length = i
 l2:i + u2.length = M
 l3:i + v1.length = mid
 l4:M + v1.length + v2.length = B
 lm:mid = (p.length + B) / 2
 ln:u1.length + u2.length + (v1.length + v2.length) <= N + 1
 lu:2 <= u1.length + u2.length
 lv:2 <= v1.length + v2.length
 lb:B + q.length < 2 ^ 58
 s1:∀ y ∈ u1,S y
 s2:∀ y ∈ u2,S y
 s3:∀ y ∈ v1,S y
 s4:∀ y ∈ v2,S y
 u:Up key (u1++u2)
 v:Up key (v1++v2)
 h12:∀ x ∈ u1,∀ y ∈ v2,key x <= key y
 h21:∀ x ∈ v1,∀ y ∈ u2,key x <= key y
variable {N:Nat} {p q u1 u2 v1 v2:List Int} {i M B mid:Nat}
omit hv in
theorem merge_j3 (C:Cut4 key S N p q u1 u2 v1 v2 i M B mid) (IH:Ih s f A key S N) (w1:List Int) (h3:Hp) (p1:w1.Perm (u1++v1)) (o1:Up key w1) (s3:ah (vI s (p++(w1++(u2++(v2++q))))::A) h3) :
  cE s (p.length:Int) (M:Int) (B:Int) f (Tgt s A key p q u1 u2 v1 v2) ((i:Int),(i:Int)) () h3:=by
 have IH:=ih_of s f A key S IH;obtain ⟨l1,l2,l3,l4,lm,ln,lu,lv,lb,hS1,hS2,hS3,hS4,hU1,hV1,h12,h21⟩:=C;have lw:=p1.length_eq;rw [length_append] at lw;unfold cE;simp only;have hhm':i64.wrap (fdiv (u64.wrap (i64.wrap (((p.length:Nat):Int) + (B:Int)))) (2 ^ (min (Int.toNat 1) (IntKind.bits .u64)))) = ((mid:Nat):Int):=by rw [mid_eq _ _ (by omega),lm]
 have wn':i64.wrap ((mid:Int) + (M:Int)) = ((mid + M:Nat):Int):=by rw [aE (by omega) (by omega)]; omega
 have we':i64.wrap (((mid + M:Nat):Int) - (i:Int)) = ((mid + M - i:Nat):Int):=by rw [aE (by omega) (by omega)]; omega
 rw [hhm',wn',we'];clear hhm' wn' we';have done:∀ (w2:List Int) (h':Hp),w2.Perm (u2++v2)->Up key w2->ah (vI s (p++(w1++(w2++q)))::A) h'->Tgt s A key p q u1 u2 v1 v2 () h':=by
  intro w2 h4 p2 o2 s4;exact ⟨w1++w2,⟨perm_join p1 p2,up_join hU1 hV1 h12 h21 p1 p2 o1 o2⟩,by rw [append_assoc]; exact s4⟩
 refine ar (fun c3=>?_) (fun c3=>?_)
 ·rw [and_eq_true,decide_eq_true_eq,decide_eq_true_eq] at c3;have e2:0 < u2.length:=by omega
  have e4:0 < v2.length:=by omega
  have epw:(p++w1).length = mid:=by rw [length_append]; omega
  refine IH (p++w1) u2 v2 q _ _ _ _ _ (by omega) (length_pos_iff.1 e2) (length_pos_iff.1 e4) hS2 hS4 (pairwise_append.1 hU1).2.1 (pairwise_append.1 hV1).2.1 (by omega) (by rw [epw]) (by rw [epw]; omega) (by rw [epw]; omega) (by rw [append_assoc]; exact s3) fun w2 h4 p2 o2 s4=>?_;exact done w2 h4 p2 o2 (by rw [append_assoc] at s4; exact s4)
 ·have hor:u2 = []\/v2 = []:=by
   rw [Bool.and_eq_false_iff,decide_eq_false_iff_not,decide_eq_false_iff_not] at c3;rcases c3 with h | h
   ·exact .inl (eq_nil_of_length_eq_zero (by omega))
   ·exact .inr (eq_nil_of_length_eq_zero (by omega))
  refine done (u2++v2) h3 (.refl _) ?_ (by rw [append_assoc u2 v2 q]; exact s3);rcases hor with e | e
  ·rw [e]; simpa using (pairwise_append.1 hV1).2.1
  ·rw [e]; simpa using (pairwise_append.1 hU1).2.1
omit hv in
theorem merge_j2 (C:Cut4 key S N p q u1 u2 v1 v2 i M B mid) (IH:Ih s f A key S N) (h3:Hp) (s3:ah (vI s (p++(u1++(v1++(u2++(v2++q)))))::A) h3) :
  bc s (p.length:Int) (M:Int) (B:Int) f (Tgt s A key p q u1 u2 v1 v2) ((i:Int),(i:Int)) () h3:=by
 have go3:=merge_j3 s f A key S C IH;have IH:=ih_of s f A key S IH;obtain ⟨l1,l2,l3,l4,lm,ln,lu,lv,lb,hS1,hS2,hS3,hS4,hU1,hV1,h12,h21⟩:=C;unfold bc;simp only;have hhm':i64.wrap (fdiv (u64.wrap (i64.wrap (((p.length:Nat):Int) + (B:Int)))) (2 ^ (min (Int.toNat 1) (IntKind.bits .u64)))) = ((mid:Nat):Int):=by rw [mid_eq _ _ (by omega),lm]
 rw [hhm'];clear hhm';refine ar (fun c3=>?_) (fun c3=>?_)
 ·rw [and_eq_true,decide_eq_true_eq,decide_eq_true_eq] at c3;have e2:0 < u1.length:=by omega
  have e4:0 < v1.length:=by omega
  refine IH p u1 v1 (u2++(v2++q)) _ _ _ _ _ (by omega) (length_pos_iff.1 e2) (length_pos_iff.1 e4) hS1 hS3 (pairwise_append.1 hU1).1 (pairwise_append.1 hV1).1 (by rw [length_append,length_append]; omega) rfl (by omega) (by omega) s3 fun w1 h4 p1 o1 s4=>?_;exact go3 w1 h4 p1 o1 s4
 ·have hor:u1 = []\/v1 = []:=by
   rw [Bool.and_eq_false_iff,decide_eq_false_iff_not,decide_eq_false_iff_not] at c3;rcases c3 with h | h
   ·exact .inl (eq_nil_of_length_eq_zero (by omega))
   ·exact .inr (eq_nil_of_length_eq_zero (by omega))
  refine go3 (u1++v1) h3 (.refl _) ?_ (by rw [append_assoc u1 v1]; exact s3);rcases hor with e | e
  ·rw [e]; simpa using (pairwise_append.1 hV1).1
  ·rw [e]; simpa using (pairwise_append.1 hU1).1
omit hv in
theorem merge_j1 (C:Cut4 key S N p q u1 u2 v1 v2 i M B mid) (IH:Ih s f A key S N) (h1:Hp) (s2:ah (vI s (p++((u1++u2)++((v1++v2)++q)))::A) h1) :
  br ((decide ((i:Int) < (M:Int))) && (decide ((M:Int) < ((mid + M - i:Nat):Int)))) (
  cl prog cu [(sv s),(.int .i64 (i:Int)),(.int .i64 (M:Int)),(.int .i64 ((mid + M - i:Nat):Int)),f] R_ fun (_:Unit) =>
  bc s (p.length:Int) (M:Int) (B:Int) f (Tgt s A key p q u1 u2 v1 v2) ((i:Int),(i:Int)) ()) (
  bc s (p.length:Int) (M:Int) (B:Int) f (Tgt s A key p q u1 u2 v1 v2) ((i:Int),(i:Int)) ()) h1:=by
 have go2:=merge_j2 s f A key S C IH;obtain ⟨l1,l2,l3,l4,lm,ln,lu,lv,lb,_,_,_,_,_,_,_,_⟩:=C;refine ar (fun c3=>?_) (fun c3=>?_)
 ·rw [and_eq_true,decide_eq_true_eq,decide_eq_true_eq] at c3;have lpu:(p++u1).length = i:=by rw [length_append]; omega
  have e2:0 < u2.length:=by omega
  have e4:0 < v1.length:=by omega
  have a1:((i:Nat):Int) = (((p++u1).length:Nat):Int):=by rw [lpu]
  have a2:((M:Nat):Int) = (((p++u1).length + u2.length:Nat):Int):=by rw [lpu]; omega
  have a3:((mid + M - i:Nat):Int) = (((p++u1).length + u2.length + v1.length:Nat):Int):=by rw [lpu]; omega
  have cr:cl prog cu [sv s,.int .i64 (((p++u1).length:Nat):Int),.int .i64 (((p++u1).length + u2.length:Nat):Int),.int .i64 (((p++u1).length + u2.length + v1.length:Nat):Int),f] R_ (fun _=>bc s (p.length:Int) (M:Int) (B:Int) f (Tgt s A key p q u1 u2 v1 v2) ((i:Int),(i:Int)) ()) h1:=by
   refine (sp_rotate s f A (p++u1) u2 v1 (v2++q) (length_pos_iff.1 e2) (length_pos_iff.1 e4) (by rw [lpu,length_append]; omega) h1 (by simpa using s2)).mono ?_;rintro w h'' ⟨r,e,s4⟩;exact ⟨r,e,go2 h'' (by simpa using s4)⟩
  rw [← a1,← a2,← a3] at cr;exact cr
 ·have hor:u2 = []\/v1 = []:=by
   rw [Bool.and_eq_false_iff,decide_eq_false_iff_not,decide_eq_false_iff_not] at c3;rcases c3 with h | h
   ·exact .inl (eq_nil_of_length_eq_zero (by omega))
   ·exact .inr (eq_nil_of_length_eq_zero (by omega))
  refine go2 h1 ?_;rcases hor with e | e
  ·rw [e] at s2 ⊢; simpa using s2
  ·rw [e] at s2 ⊢; simpa using s2
omit hv in
theorem merge_exit (p u v q:List Int) (hN:u.length + v.length <= N + 1) (hSu:∀ y ∈ u,S y) (hSv:∀ y ∈ v,S y) (hUu:Up key u) (hUv:Up key v) (hb:p.length + u.length + v.length + q.length < 2 ^ 58) (hu2:2 <= u.length) (hv2:2 <= v.length) (hmid:mid = (p.length + (p.length + u.length + v.length)) / 2) (IH:Ih s f A key S N)
  (lo hi:Nat) (hlo:p.length <= lo) (hhi:hi <= p.length + u.length) (hhm2:hi <= mid) (hn2:mid + (p.length + u.length) - lo <= p.length + u.length + v.length)
  (hlo2:lo = p.length\/mid + (p.length + u.length) - lo = p.length + u.length + v.length) (hhi2:hi = p.length + u.length\/hi = mid) (h1:Hp) (hi0:lo <= i) (hj0:i <= hi)
  (hI:i = lo\/Wit u v (i - 1 - p.length) (mid - i) fun x y=>key x <= key y) (hJ:i = hi\/Wit u v (i - p.length) (mid - 1 - i) fun x y=>key y < key x) (s1:ah (vI s (p++(u++(v++q)))::A) h1) :
  br ((decide ((i:Int) < ((p.length + u.length:Nat):Int))) && (decide (((p.length + u.length:Nat):Int) < ((mid + (p.length + u.length) - i:Nat):Int)))) (
  cl prog cu [(sv s),(.int .i64 (i:Int)),(.int .i64 ((p.length + u.length:Nat):Int)),(.int .i64 ((mid + (p.length + u.length) - i:Nat):Int)),f] R_ fun (_:Unit) =>
  bc s (p.length:Int) ((p.length + u.length:Nat):Int) ((p.length + u.length + v.length:Nat):Int) f (fun _ h=>∃ m',(m'.Perm (u++v)/\Up key m')/\ah (vI s (p++(m'++q))::A) h) ((i:Int),(i:Int)) ()) (
  bc s (p.length:Int) ((p.length + u.length:Nat):Int) ((p.length + u.length + v.length:Nat):Int) f (fun _ h=>∃ m',(m'.Perm (u++v)/\Up key m')/\ah (vI s (p++(m'++q))::A) h) ((i:Int),(i:Int)) ()) h1:=by
 have hsu:u = u.take (i - p.length)++u.drop (i - p.length):=(take_append_drop _ _).symm;have hsv:v = v.take (mid - i)++v.drop (mid - i):=(take_append_drop _ _).symm;have l1:(u.take (i - p.length)).length = i - p.length:=by rw [length_take]; omega
 have l2:(u.drop (i - p.length)).length = p.length + u.length - i:=by rw [length_drop]; omega
 have l3:(v.take (mid - i)).length = mid - i:=by rw [length_take]; omega
 have l4:(v.drop (mid - i)).length = v.length - (mid - i):=length_drop;have h12:∀ x ∈ u.take (i - p.length),∀ y ∈ v.drop (mid - i),key x <= key y:=by
  intro x hx y hy;rcases hI with e | ⟨a,b,e1,e2,e3⟩
  ·exfalso
   have:=length_pos_of_mem hx;have:=length_pos_of_mem hy;omega
  ·have hil:0 < i - p.length:=by have:=length_pos_of_mem hx; omega
   have f1:=up_take hUu e1 (x:=x) (by rw [show i - 1 - p.length + 1 = i - p.length by omega]; exact hx);have f2:=up_drop hUv e2 hy;omega
 have h21:∀ x ∈ v.take (mid - i),∀ y ∈ u.drop (i - p.length),key x <= key y:=by
  intro x hx y hy;rcases hJ with e | ⟨a,b,e1,e2,e3⟩
  ·exfalso
   have:=length_pos_of_mem hx;have:=length_pos_of_mem hy;omega
  ·have hil:0 < mid - i:=by have:=length_pos_of_mem hx; omega
   have f1:=up_take hUv e2 (x:=x) (by rw [show mid - 1 - i + 1 = mid - i by omega]; exact hx);have f2:=up_drop hUu e1 hy;omega
 have hS1:∀ y ∈ u.take (i - p.length),S y:=fun y hy=>hSu y (mem_of_mem_take hy);have hS2:∀ y ∈ u.drop (i - p.length),S y:=fun y hy=>hSu y (mem_of_mem_drop hy);have hS3:∀ y ∈ v.take (mid - i),S y:=fun y hy=>hSv y (mem_of_mem_take hy);have hS4:∀ y ∈ v.drop (mid - i),S y:=fun y hy=>hSv y (mem_of_mem_drop hy);have hperm:((u.take (i - p.length)++u.drop (i - p.length))++(v.take (mid - i)++v.drop (mid - i))) = u++v:=by rw [← hsu,← hsv]
 have s2:ah (vI s (p++((u.take (i - p.length)++u.drop (i - p.length))++((v.take (mid - i)++v.drop (mid - i))++q)))::A) h1:=by rw [← hsu,← hsv]; exact s1
 have C:Cut4 key S N p q (u.take (i - p.length)) (u.drop (i - p.length)) (v.take (mid - i)) (v.drop (mid - i)) i (p.length + u.length) (p.length + u.length + v.length) mid:=⟨by omega,by omega,by omega,by omega,hmid,by omega,by omega,by omega,by omega,hS1,hS2,hS3,hS4,by rw [← hsu]; exact hUu,by rw [← hsv]; exact hUv,h12,h21⟩
 have R:=merge_j1 s f A key S C IH h1 s2;have eT:Tgt s A key p q (u.take (i - p.length)) (u.drop (i - p.length)) (v.take (mid - i)) (v.drop (mid - i)) = fun _ h=>∃ m',(m'.Perm (u++v)/\Up key m')/\ah (vI s (p++(m'++q))::A) h:=by unfold Tgt; rw [hperm]
 rw [eT] at R;exact R
theorem merge_l5 (N:Nat) (p u v q:List Int) (hN:u.length + v.length <= N + 1) (hSu:∀ y ∈ u,S y) (hSv:∀ y ∈ v,S y) (hUu:Up key u) (hUv:Up key v) (hb:p.length + u.length + v.length + q.length < 2 ^ 58) (hu2:2 <= u.length) (hv2:2 <= v.length) (mid:Nat) (hmid:mid = (p.length + (p.length + u.length + v.length)) / 2) (IH:Ih s f A key S N) :
  ∀ (lo hi:Nat) (h:Hp),lo <= hi->p.length <= lo->hi <= p.length + u.length->hi <= mid->p.length + u.length <= mid + (p.length + u.length) - hi->mid + (p.length + u.length) - lo <= p.length + u.length + v.length ->
    (lo = p.length\/mid + (p.length + u.length) - lo = p.length + u.length + v.length)->(hi = p.length + u.length\/hi = mid)->ah (vI s (p++(u++(v++q)))::A) h ->
    Lp (dz s (p.length:Int) ((p.length + u.length:Nat):Int) ((p.length + u.length + v.length:Nat):Int) f (fun _ h=>∃ m',(m'.Perm (u++v)/\Up key m')/\ah (vI s (p++(m'++q))::A) h)) ((lo:Int),(hi:Int)) h:=by
 have hhm:i64.wrap (fdiv (u64.wrap (i64.wrap (((p.length:Nat):Int) + ((p.length + u.length + v.length:Nat):Int)))) (2 ^ (min (Int.toNat 1) (IntKind.bits .u64)))) = ((mid:Nat):Int):=by
  rw [mid_eq _ _ (by omega),hmid]
 have wn:i64.wrap ((mid:Int) + ((p.length + u.length:Nat):Int)) = ((mid + (p.length + u.length):Nat):Int):=by rw [aE (by omega) (by omega)]; omega
 intro lo hi h hlh hlo hhi hhm2 hn1 hn2 hlo2 hhi2 s0;have getu:∀ c:Nat,p.length <= c->c < p.length + u.length->(p++(u++(v++q)))[c]? = u[c - p.length]?:=fun c h1 h2=>by rw [getElem?_append_right h1,getElem?_append_left (by omega)]
 have getv:∀ c:Nat,p.length + u.length <= c->c < p.length + u.length + v.length->(p++(u++(v++q)))[c]? = v[c - p.length - u.length]?:=fun c h1 h2=>by rw [getElem?_append_right (by omega),getElem?_append_right (by omega),getElem?_append_left (by omega)]
 have hL:(p++(u++(v++q))).length = p.length + u.length + v.length + q.length:=by simp; omega
 refine Lp.intro (fun (t:Int × Int) h=>∃ i j:Nat,t = ((i:Int),(j:Int))/\lo <= i/\i <= j/\j <= hi/\(i = lo\/Wit u v (i - 1 - p.length) (mid - i) fun x y=>key x <= key y)/\(j = hi\/Wit u v (j - p.length) (mid - 1 - j) fun x y=>key y < key x)/\ah (vI s (p++(u++(v++q)))::A) h) (fun (t:Int × Int) _=>t.2.toNat - t.1.toNat)
  ⟨lo,hi,rfl,le_refl _,hlh,le_refl _,.inl rfl,.inl rfl,s0⟩ ?_
 rintro t h1 ⟨i,j,rfl,hi0,hij,hj0,hI,hJ,s1⟩;unfold dz;simp only;rw [hhm,wn];have wp:i64.wrap (((mid + (p.length + u.length):Nat):Int) - 1) = ((mid + (p.length + u.length) - 1:Nat):Int):=by rw [aE (by omega) (by omega)]; omega
 have we:i64.wrap (((mid + (p.length + u.length):Nat):Int) - (i:Int)) = ((mid + (p.length + u.length) - i:Nat):Int):=by rw [aE (by omega) (by omega)]; omega
 have hc:i64.wrap (fdiv (u64.wrap (i64.wrap ((i:Int) + (j:Int)))) (2 ^ (min (Int.toNat 1) (IntKind.bits .u64)))) = (((i + j) / 2:Nat):Int):=mid_eq _ _ (by omega);rw [wp,hc,we];refine ar (fun c=>?_) (fun c=>?_)
 ·have hlt:i < j:=by have:=of_decide_eq_true c; omega
  obtain ⟨m,hm⟩:∃ m,m = (i + j) / 2:=⟨_,rfl⟩
  rw [← hm];have wpc:i64.wrap (((mid + (p.length + u.length) - 1:Nat):Int) - (m:Int)) = ((mid + (p.length + u.length) - 1 - m:Nat):Int):=by rw [aE (by omega) (by omega)]; omega
  rw [wpc];have hmu:m - p.length < u.length:=by omega
  have hmv:mid - 1 - m < v.length:=by omega
  have g1:(p++(u++(v++q)))[mid + (p.length + u.length) - 1 - m]? = some v[mid - 1 - m]:=by
   rw [getv _ (by omega) (by omega),show mid + (p.length + u.length) - 1 - m - p.length - u.length = mid - 1 - m by omega,getElem?_eq_getElem hmv]
  have g2:(p++(u++(v++q)))[m]? = some u[m - p.length]:=by rw [getu _ (by omega) (by omega),getElem?_eq_getElem hmu]
  refine bE s1 (j:=0) rfl (by omega) (by omega) fun q1 hq1=>?_;refine bE s1 (j:=0) rfl (by omega) (by omega) fun q2 hq2=>?_;refine bK (j:=0) (i:=mid + (p.length + u.length) - 1 - m) (k:=0) v[mid - 1 - m] (bd _) s1 rfl hq1 (by rw [toNat_natCast]; rfl) g1 (by simp) ?_;refine bK (j:=0) (i:=m) (k:=0) u[m - p.length] (bd _) s1 rfl hq2 (by rw [toNat_natCast]; rfl) g2 (by simp) ?_;refine clv_t (hv v[mid - 1 - m] u[m - p.length] (hSv _ (List.getElem_mem hmv)) (hSu _ (List.getElem_mem hmu))) s1 fun r h3 s3=>?_;obtain ⟨hr,s4⟩:=aM.1 s3;have s5:=vW s4;refine ar (fun k3=>?_) (fun k3=>?_)
  ·have k3':key u[m - p.length] <= key v[mid - 1 - m]:=by
    have:¬ key v[mid - 1 - m] < key u[m - p.length]:=fun hh=>by have:=hr.2 hh; simp at k3; omega
    omega
   have hw:i64.wrap (((m:Nat):Int) + 1) = ((m + 1:Nat):Int):=by rw [aE (by omega) (by omega)]; omega
   rw [hw];refine ⟨⟨m + 1,j,rfl,by omega,by omega,hj0,.inr ⟨u[m - p.length],v[mid - 1 - m],?_,?_,k3'⟩,hJ,s5⟩,by simp only [toNat_natCast]; omega⟩
   ·rw [show m + 1 - 1 - p.length = m - p.length by omega]; exact getElem?_eq_getElem hmu
   ·rw [show mid - (m + 1) = mid - 1 - m by omega]; exact getElem?_eq_getElem hmv
  ·have k3':key v[mid - 1 - m] < key u[m - p.length]:=hr.1 (by simpa using k3);exact ⟨⟨i,m,rfl,hi0,by omega,by omega,hI,.inr ⟨_,_,getElem?_eq_getElem hmu,getElem?_eq_getElem hmv,k3'⟩,s5⟩,by simp only [toNat_natCast]; omega⟩
 ·have he:i = j:=by have:=of_decide_eq_false c; omega
  subst he;exact merge_exit s f A key S p u v q hN hSu hSv hUu hUv hb hu2 hv2 hmid IH lo hi hlo hhi hhm2 hn2 hlo2 hhi2 h1 hi0 hj0 hI hJ s1
theorem sp_symMerge:∀ (N:Nat) (p u v q:List Int),u.length + v.length <= N->u ≠ []->v ≠ []->(∀ y ∈ u,S y)->(∀ y ∈ v,S y)->Up key u->Up key v->p.length + u.length + v.length + q.length < 2 ^ 58 ->
  Sp prog bm [sv s,.int .i64 p.length,.int .i64 (p.length + u.length:Nat),.int .i64 (p.length + u.length + v.length:Nat),f] R_ (vI s (p++(u++(v++q)))::A) (fun _ h=>∃ m',(m'.Perm (u++v)/\Up key m')/\ah (vI s (p++(m'++q))::A) h)
 | 0,p,u,v,q,hN,hu,_,_,_,_,_,_=>absurd (length_pos_iff.2 hu) (by omega)
 | N + 1,p,u,v,q,hN,hu,hvn,hSu,hSv,hUu,hUv,hb=>by
  intro h s0;have hup:=length_pos_iff.2 hu;have hvp:=length_pos_iff.2 hvn;refine pU _ _ _ _ _ ?_;unfold jf;have w1:i64.wrap (((p.length + u.length:Nat):Int) - ((p.length:Nat):Int)) = ((u.length:Nat):Int):=by rw [aE (by omega) (by omega)]; omega
  have w2:i64.wrap (((p.length + u.length + v.length:Nat):Int) - ((p.length + u.length:Nat):Int)) = ((v.length:Nat):Int):=by rw [aE (by omega) (by omega)]; omega
  rw [w1,w2];refine ar (fun c1=>?_) (fun c1=>?_)
  ·have hl0:((u.length:Nat):Int) = 1:=by simpa using c1
   have hl1:u.length = 1:=by omega
   obtain ⟨x,rfl⟩:=List.length_eq_one_iff.1 hl1;have e:((p.length + [x].length + v.length:Nat):Int) = ((p.length + 1 + v.length:Nat):Int):=rfl;rw [e];refine merge_l1 s f A key S hv p v q x _ ⟨hSu x (by simp),hSv⟩ hUv (by simp at hb; omega) (by simpa using s0) fun m' h' hp hm s'=>?_;exact ⟨m',⟨hp,hm⟩,s'⟩
  refine ar (fun c2=>?_) (fun c2=>?_)
  ·have hl0:((v.length:Nat):Int) = 1:=by simpa using c2
   have hl1:v.length = 1:=by omega
   obtain ⟨x,rfl⟩:=List.length_eq_one_iff.1 hl1;refine merge_l3 s f A key S hv p u q x _ ⟨hSv x (by simp),hSu⟩ hUu (by simp at hb; omega) (by simpa using s0) fun m' h' hp hm s'=>?_;exact ⟨m',⟨hp,hm⟩,s'⟩
  have hu2:u.length ≠ 1:=by intro e; rw [e] at c1; cases c1
  have hv2:v.length ≠ 1:=by intro e; rw [e] at c2; cases c2
  obtain ⟨mid,hmid⟩:∃ mid,mid = (p.length + (p.length + u.length + v.length)) / 2:=⟨_,rfl⟩
  have hhm:i64.wrap (fdiv (u64.wrap (i64.wrap (((p.length:Nat):Int) + ((p.length + u.length + v.length:Nat):Int)))) (2 ^ (min (Int.toNat 1) (IntKind.bits .u64)))) = ((mid:Nat):Int):=by
   rw [mid_eq _ _ (by omega),hmid]
  rw [hhm];have wn:i64.wrap ((mid:Int) + ((p.length + u.length:Nat):Int)) = ((mid + (p.length + u.length):Nat):Int):=by rw [aE (by omega) (by omega)]; omega
  have IH:Ih s f A key S N:=by
   rintro p u v q a m b h' K h1 h2 h3 h4 h5 h6 h7 h8 rfl rfl rfl s1 k;refine (sp_symMerge N p u v q h1 h2 h3 h4 h5 h6 h7 h8 h' s1).mono ?_;rintro w h'' ⟨r,e,m',⟨g1,g2⟩,s2⟩;exact ⟨r,e,k m' h'' g1 g2 s2⟩
  have key_:=merge_l5 s f A key S hv N p u v q hN hSu hSv hUu hUv hb (by omega) (by omega) mid hmid IH;refine ar (fun c3=>?_) (fun c3=>?_)
  ·have hgt:mid < p.length + u.length:=by have:=of_decide_eq_true c3; omega
   have wl:i64.wrap ((i64.wrap ((mid:Int) + ((p.length + u.length:Nat):Int))) - ((p.length + u.length + v.length:Nat):Int)) = ((mid + (p.length + u.length) - (p.length + u.length + v.length):Nat):Int):=by rw [wn,aE (by omega) (by omega)]; omega
   rw [wl];unfold cF;exact key_ _ mid h (by omega) (by omega) (by omega) (le_refl _) (by omega) (by omega) (.inr (by omega)) (.inr rfl) s0
  ·have hle:p.length + u.length <= mid:=by have:=of_decide_eq_false c3; omega
   unfold cF;exact key_ p.length (p.length + u.length) h (by omega) (le_refl _) (le_refl _) hle (by omega) (by omega) (.inl rfl) (.inl rfl) s0
end
end
section
open Go Mb
def Bl (key:Int->Int) (sz lo hi:Nat) (L:List Int):Prop:=∀ (i j:Nat) (x y:Int),lo <= i->i < j->j < hi->i / sz = j / sz->L[i]? = some x->L[j]? = some y->key x <= key y
section pure
variable {key:Int->Int}
theorem cut3 (L:List Int) (a k:Nat):L = L.take a++((L.drop a).take k++L.drop (a + k)):=by
 have h1:(L.drop a).take k++L.drop (a + k) = L.drop a:=by rw [← List.drop_drop]; exact take_append_drop k (L.drop a)
 rw [h1,take_append_drop]
theorem div_mono {B i t:Nat} (hB:0 < B) (h:B * t <= i):t <= i / B:=by rw [Nat.le_div_iff_mul_le hB,mul_comm]; exact h
theorem div_small {B i t:Nat} (hB:0 < B) (h:i < B * t):i / B < t:=by rw [Nat.div_lt_iff_lt_mul hB,mul_comm]; exact h
theorem bl_step {B t:Nat} {p m m' q:List Int} (hB:0 < B) (hp:p.length = B * t) (hl:m'.length = m.length) (hu:Up key m') (h:Bl key B 0 (B * t) (p++(m++q))):Bl key B 0 (B * t + m.length) (p++(m'++q)):=by
 intro i j x y _ hij hj hd hx hy;rcases lt_or_ge j (B * t) with h1 | h1
 ·rw [getElem?_append_left (by omega)] at hx hy;exact h i j x y (zero_le _) hij h1 hd (by rw [getElem?_append_left (by omega)]; exact hx) (by rw [getElem?_append_left (by omega)]; exact hy)
 ·have h2:=div_mono hB h1;have h3:B * t <= i:=by
   rcases lt_or_ge i (B * t) with h4 | h4
   ·have:=div_small hB h4; omega
   ·exact h4
  rw [getElem?_append_right (by omega),getElem?_append_left (by omega)] at hx hy;exact up_get hu (by omega) hx hy
theorem bl_keep {sz lo hi n:Nat} {p m m' q:List Int} (hl:m'.length = m.length) (h1:lo <= hi) (h2:p.length + m.length <= hi) (h:Bl key sz lo n (p++(m++q))):Bl key sz hi n (p++(m'++q)):=by
 intro i j x y hi' hij hj hd hx hy;rw [getElem?_append_right (by omega),getElem?_append_right (by omega)] at hx hy;exact h i j x y (by omega) hij hj hd (by rw [getElem?_append_right (by omega),getElem?_append_right (by omega),← hl]; exact hx) (by rw [getElem?_append_right (by omega),getElem?_append_right (by omega),← hl]; exact hy)
theorem up_seg {sz lo hi c k:Nat} {L:List Int} (hs:0 < sz) (h:Bl key sz lo hi L) (h1:lo <= sz * c) (h2:sz * c + k <= hi) (h3:k <= sz):Up key ((L.drop (sz * c)).take k):=by
 refine List.pairwise_iff_getElem.2 fun i j hi' hj' hij=>?_;rw [length_take,length_drop] at hi' hj';rw [List.getElem_take,List.getElem_take,List.getElem_drop,List.getElem_drop];have e:∀ a,a < sz->(sz * c + a) / sz = c:=fun a ha=>by
  rw [Nat.mul_add_div hs,div_eq_of_lt ha]; rfl
 exact h (sz * c + i) (sz * c + j) _ _ (by omega) (by omega) (by omega) (by rw [e i (by omega),e j (by omega)]) (getElem?_eq_getElem (by omega)) (getElem?_eq_getElem (by omega))
theorem bl_all {sz n:Nat} {L:List Int} (hL:L.length = n) (h:Bl key sz 0 n L) (hs:n <= sz):Up key L:=by
 refine List.pairwise_iff_getElem.2 fun i j hi hj hij=>?_;exact h i j _ _ (zero_le _) hij (by omega) (by rw [div_eq_of_lt (by omega),div_eq_of_lt (by omega)]) (getElem?_eq_getElem hi) (getElem?_eq_getElem hj)
theorem bl_rest {sz n t:Nat} {L:List Int} (hs:0 < sz) (h1:Bl key (2 * sz) 0 (2 * sz * t) L) (h2:Bl key sz (2 * sz * t) n L) (h3:n <= 2 * sz * t + sz):Bl key (2 * sz) 0 n L:=by
 intro i j x y _ hij hj hd hx hy;rcases lt_or_ge j (2 * sz * t) with h4 | h4
 ·exact h1 i j x y (zero_le _) hij h4 hd hx hy
 ·have h5:=div_mono (B:=2 * sz) (by omega) h4;have h6:2 * sz * t <= i:=by
   rcases lt_or_ge i (2 * sz * t) with h7 | h7
   ·have:=div_small (B:=2 * sz) (by omega) h7; omega
   ·exact h7
  have e:∀ a,2 * sz * t <= a->a < 2 * sz * t + sz->a / sz = 2 * t:=fun a ha hb=>by
   have e1:2 * sz * t = sz * (2 * t):=by rw [mul_comm 2 sz,Nat.mul_assoc]
   rw [e1] at ha hb;obtain ⟨d,rfl⟩:∃ d,a = sz * (2 * t) + d:=⟨a - sz * (2 * t),by omega⟩
   rw [Nat.mul_add_div hs,div_eq_of_lt (by omega)]; rfl
  exact h2 i j x y h6 hij hj (by rw [e i h6 (by omega),e j h4 (by omega)]) hx hy
end pure
section
variable (s:Sl) (f:Value) (A:List As) (key:Int->Int) (S:Int->Prop) (hv:CmpOk f A key S) (m0:List Int) (hS:∀ x ∈ m0,S x) (hb:m0.length < 2 ^ 55)
abbrev Fin5:Unit->Hp->Prop:=fun _ h=>∃ m',(m'.Perm m0/\Up key m')/\ah (vI s m'::A) h
include hv hS hb
theorem stable_l2 {h:Hp} (L:List Int) (sz:Nat) (hs:20 <= sz) (hs2:sz < 2 ^ 56) (hp:L.Perm m0) (hB:Bl key sz 0 m0.length L) (s0:ah (vI s L::A) h):Lp (bN s (m0.length:Int) f (Fin5 s A key m0)) (sz:Int) h:=by
 refine Lp.intro (fun (z:Int) h=>∃ (sz:Nat) (L:List Int),z = sz/\20 <= sz/\sz < 2 ^ 56/\L.Perm m0/\Bl key sz 0 m0.length L/\ah (vI s L::A) h) (fun (z:Int) _=>m0.length - z.toNat) ⟨sz,L,rfl,hs,hs2,hp,hB,s0⟩ ?_;rintro z h1 ⟨sz,L,rfl,hs,hs2,hp,hB,s1⟩;have hL:=hp.length_eq;unfold bN;refine ar (fun c=>?_) (fun c=>?_)
 ·have hlt:sz < m0.length:=by have:=of_decide_eq_true c; omega
  have w2:i64.wrap (2 * (sz:Int)) = ((2 * sz:Nat):Int):=by rw [aE (by omega) (by omega)]; omega
  have w3:i64.wrap ((sz:Int) * 2) = ((2 * sz:Nat):Int):=by rw [aE (by omega) (by omega)]; omega
  rw [w2];refine Lp.intro (fun (z:Int × Int) h=>∃ (t:Nat) (L:List Int),z = (((2 * sz * t:Nat):Int),((2 * sz * t + 2 * sz:Nat):Int))/\2 * sz * t <= m0.length/\L.Perm m0/\Bl key (2 * sz) 0 (2 * sz * t) L/\Bl key sz (2 * sz * t) m0.length L/\ah (vI s L::A) h) (fun (z:Int × Int) _=>m0.length - z.1.toNat) ⟨0,L,by simp,by simp,hp,fun i j x y _ _ h3=>absurd h3 (by simp),by simpa using hB,s1⟩ ?_;rintro z h2 ⟨t,L,rfl,ht,hp,hB1,hB2,s2⟩;have hL:=hp.length_eq;have hSL:∀ x ∈ L,S x:=fun x hx=>hS x (hp.subset hx);obtain ⟨a,ha⟩:∃ a,a = 2 * sz * t:=⟨_,rfl⟩
  have e1:a = sz * (2 * t):=by rw [ha,mul_comm 2 sz,Nat.mul_assoc]
  have e2:a + sz = sz * (2 * t + 1):=by rw [e1,Nat.mul_add,Nat.mul_one]
  have e3:2 * sz * (t + 1) = a + 2 * sz:=by rw [ha,Nat.mul_add,Nat.mul_one]
  unfold kw;simp only;rw [w3];have mrg:∀ (k:Nat) (b:Int) (h':Hp) (K:Unit->Hp->Prop),0 < k->k <= sz->a + sz + k <= m0.length->b = ((a + sz + k:Nat):Int)->ah (vI s L::A) h'->(∀ (L':List Int) (h':Hp),L'.Perm m0->Bl key (2 * sz) 0 (a + sz + k) L'->Bl key sz (a + sz + k) m0.length L'->ah (vI s L'::A) h'->K () h') ->
    cl prog bm [sv s,.int .i64 (a:Int),.int .i64 ((a + sz:Nat):Int),.int .i64 b,f] R_ K h':=by
   rintro k b h' K hk hks hkn rfl s3 kk;have c1:=cut3 L a (sz + k);have lp:(L.take a).length = a:=by rw [length_take]; omega
   have lu:((L.drop a).take sz).length = sz:=by rw [length_take,length_drop]; omega
   have lv:((L.drop (a + sz)).take k).length = k:=by rw [length_take,length_drop]; omega
   have c2:(L.drop a).take (sz + k) = (L.drop a).take sz++(L.drop (a + sz)).take k:=by rw [List.take_add,List.drop_drop]
   have u1:Up key ((L.drop a).take sz):=by rw [e1]; exact up_seg (by omega) hB2 (by omega) (by omega) (le_refl _)
   have u2:Up key ((L.drop (a + sz)).take k):=by rw [e2]; exact up_seg (by omega) hB2 (by omega) (by omega) hks
   have sp:=sp_symMerge s f A key S hv _ (L.take a) ((L.drop a).take sz) ((L.drop (a + sz)).take k) (L.drop (a + (sz + k))) (le_refl _) (length_pos_iff.1 (by omega)) (length_pos_iff.1 (by omega)) (fun y hy=>hSL y (mem_of_mem_drop (mem_of_mem_take hy))) (fun y hy=>hSL y (mem_of_mem_drop (mem_of_mem_take hy))) u1 u2 (by rw [lp,lu,lv,length_drop]; omega) h' (by
    rw [← append_assoc ((L.drop a).take sz),← c2,← c1]; exact s3)
   rw [lp,lu,lv] at sp;refine sp.mono ?_;rintro w h'' ⟨r,e,m',⟨g1,g2⟩,s4⟩;rw [← c2] at g1;have gl:=g1.length_eq;have cl':((L.drop a).take (sz + k)).length = sz + k:=by rw [length_take,length_drop]; omega
   refine ⟨r,e,kk (L.take a++(m'++L.drop (a + (sz + k)))) h'' ?_ ?_ ?_ s4⟩
   ·refine List.Perm.trans ?_ hp;rw (config:={ occs:=.pos [3] }) [c1];exact (g1.append_right _).append_left _
   ·have:=bl_step (B:=2 * sz) (t:=t) (q:=L.drop (a + (sz + k))) (by omega) (by rw [lp,ha]) gl g2 (by rw [← c1]; exact hB1);rw [cl',← ha] at this;rw [Nat.add_assoc]; exact this
   ·refine bl_keep gl (show a <= a + sz + k by omega) (by rw [lp,cl']; omega) ?_;rw [← c1,ha]; exact hB2
  refine ar (fun c3=>?_) (fun c3=>?_)
  ·have hle:a + 2 * sz <= m0.length:=by have:=of_decide_eq_true c3; omega
   have w4:i64.wrap (((2 * sz * t:Nat):Int) + (sz:Int)) = ((a + sz:Nat):Int):=by rw [← ha,aE (by omega) (by omega)]; omega
   have w5:i64.wrap (((2 * sz * t + 2 * sz:Nat):Int) + i64.wrap (2 * (sz:Int))) = ((a + 2 * sz + 2 * sz:Nat):Int):=by rw [← ha,w2,aE (by omega) (by omega)]; omega
   rw [w4,w5,← ha];refine mrg sz _ h2 _ (by omega) (le_refl _) (by omega) (by omega) s2 fun L' h3 p3 b1 b2 s3=>?_;refine ⟨⟨t + 1,L',?_,by rw [e3]; omega,p3,?_,?_,s3⟩,by simp only [toNat_natCast]; omega⟩
   ·rw [e3]
   ·rw [e3,show a + 2 * sz = a + sz + sz by omega]; exact b1
   ·rw [e3,show a + 2 * sz = a + sz + sz by omega]; exact b2
  ·have hgt:m0.length < a + 2 * sz:=by have:=of_decide_eq_false c3; omega
   have w4:i64.wrap (((2 * sz * t:Nat):Int) + (sz:Int)) = ((a + sz:Nat):Int):=by rw [← ha,aE (by omega) (by omega)]; omega
   rw [w4,← ha];refine ar (fun c4=>?_) (fun c4=>?_)
   ·have hlt2:a + sz < m0.length:=by have:=of_decide_eq_true c4; omega
    refine mrg (m0.length - (a + sz)) _ h2 _ (by omega) (by omega) (by omega) (by omega) s2 fun L' h3 p3 b1 b2 s3=>?_;refine ⟨⟨2 * sz,L',rfl,by omega,by omega,p3,?_,s3⟩,by simp only [toNat_natCast]; omega⟩;rw [show a + sz + (m0.length - (a + sz)) = m0.length by omega] at b1;exact b1
   ·have hle2:m0.length <= a + sz:=by have:=of_decide_eq_false c4; omega
    exact ⟨⟨2 * sz,L,rfl,by omega,by omega,hp,bl_rest (by omega) hB1 hB2 (by omega),s2⟩,by simp only [toNat_natCast]; omega⟩
 ·have hge:m0.length <= sz:=by have:=of_decide_eq_false c; omega
  exact ⟨L,⟨hp,bl_all hL hB hge⟩,s1⟩
theorem sp_SortStable:Sp prog di [sv s,f] R_ (vI s m0::A) (fun _ h=>∃ m',(m'.Perm m0/\Up key m')/\ah (vI s m'::A) h):=by
 intro h s0;have hl:=(aX (j:=0) s0 rfl).1;refine gL _ _ ?_;unfold eA;unfold cl;refine jG _ _ _ ?_;unfold fQ;rw [hl];refine Lp.intro (fun (z:Int × Int) h=>∃ (t:Nat) (L:List Int),z = (((20 * t:Nat):Int),((20 * t + 20:Nat):Int))/\20 * t <= m0.length/\L.Perm m0/\Bl key 20 0 (20 * t) L/\ah (vI s L::A) h) (fun (z:Int × Int) _=>m0.length - z.1.toNat) ⟨0,m0,rfl,zero_le _,.refl _,fun i j x y _ _ h3=>absurd h3 (by simp),s0⟩ ?_;rintro z h1 ⟨t,L,rfl,ht,hp,hB,s1⟩;have hL:=hp.length_eq;have hSL:∀ x ∈ L,S x:=fun x hx=>hS x (hp.subset hx);obtain ⟨a,ha⟩:∃ a,a = 20 * t:=⟨_,rfl⟩
 have ins:∀ (k:Nat) (b:Int) (h':Hp) (K:Unit->Hp->Prop),k <= 20->a + k <= m0.length->b = ((a + k:Nat):Int)->ah (vI s L::A) h'->(∀ (L':List Int) (h':Hp),L'.Perm m0->Bl key 20 0 (a + k) L'->ah (vI s L'::A) h'->K () h') ->
   cl prog aY [sv s,.int .i64 (a:Int),.int .i64 b,f] R_ K h':=by
  rintro k b h' K hk hkn rfl s3 kk;have c1:=cut3 L a k;have lp:(L.take a).length = a:=by rw [length_take]; omega
  have lu:((L.drop a).take k).length = k:=by rw [length_take,length_drop]; omega
  have sp:=sp_insertion s f A key S hv (L.take a) ((L.drop a).take k) (L.drop (a + k)) (fun y hy=>hSL y (mem_of_mem_drop (mem_of_mem_take hy))) (by rw [lp,lu,length_drop]; omega) h' (by rw [← c1]; exact s3);rw [lp,lu] at sp;refine sp.mono ?_;rintro w h'' ⟨r,e,m',⟨g1,g2⟩,s4⟩;have gl:=g1.length_eq;refine ⟨r,e,kk (L.take a++(m'++L.drop (a + k))) h'' ?_ ?_ s4⟩
  ·refine List.Perm.trans ?_ hp;rw (config:={ occs:=.pos [3] }) [c1];exact (g1.append_right _).append_left _
  ·have:=bl_step (B:=20) (t:=t) (q:=L.drop (a + k)) (by omega) (by rw [lp,ha]) gl g2 (by rw [← c1]; exact hB);rw [lu,← ha] at this;exact this
 unfold dV;simp only;refine ar (fun c=>?_) (fun c=>?_)
 ·have hle:a + 20 <= m0.length:=by have:=of_decide_eq_true c; omega
  have w1:i64.wrap (((20 * t + 20:Nat):Int) + 20) = ((20 * (t + 1) + 20:Nat):Int):=by rw [aE (by omega) (by omega)]; omega
  rw [w1,← ha];refine ins 20 _ h1 _ (le_refl _) hle rfl s1 fun L' h3 p3 b1 s3=>?_;refine ⟨⟨t + 1,L',?_,by omega,p3,?_,s3⟩,by simp only [toNat_natCast]; omega⟩
  ·rw [show 20 * (t + 1) = a + 20 by omega]
  ·rw [show 20 * (t + 1) = a + 20 by omega]; exact b1
 ·have hgt:m0.length < a + 20:=by have:=of_decide_eq_false c; omega
  rw [← ha];refine ins (m0.length - a) _ h1 _ (by omega) (by omega) (by omega) s1 fun L' h3 p3 b1 s3=>?_;rw [show a + (m0.length - a) = m0.length by omega] at b1;exact stable_l2 s f A key S hv m0 hS hb L' 20 (by decide) (by decide) p3 b1 s3
end
end
section
open Go Mb
theorem sp_hist_OrderN (s:Sl) (es:List aL) (hb:es.length < 2 ^ 38) (ha:Hist.Apart es):Sp prog lR [sv s] av [vE s es] (fun r=>ah [vI r (Hist.order es),vE s es]):=by
 intro h s0;refine sim_hist_Order _ ?_;unfold vn;refine nP s0 fun b1 h1 s1=>?_;refine aJ s s1 (i:=0) rfl rfl rfl ?_;refine bG [1,0] (td s es _ (fun e=>decide (e.fIa > 0)) [blk b1 da [sv s]] (by omega) ?_) s1 rfl fun r h2 s2=>?_
 ·intro e he;refine ⟨_,_,_,rfl,sk,fun h s3=>?_⟩;exact (wU e h).mono fun v h' ⟨r,hv,hr,hh⟩=>⟨r,hv,hr,by rw [hh]; exact s3⟩
 ·have s3:=bT s2;have hpl:=Hist.placesFrom_len (fun e=>decide (e.fIa > 0)) es 0;refine bG [0,0,0] (sp_SortStable r _ [vE s es,blk b1 da [sv s]] (Hist.eff es) (fun x=>0 <= x/\x < es.length) ?_ (Hist.effs es) (fun x hx=>Hist.places_in hx) (by unfold Hist.effs Hist.places; omega)) s3 rfl fun u h4 s4=>?_
  ·rintro x y ⟨hx0,hx⟩ ⟨hy0,hy⟩;refine ⟨_,_,_,rfl,sj,fun h s5=>?_⟩;obtain ⟨n,rfl⟩:=Int.eq_ofNat_of_zero_le hx0;obtain ⟨m,rfl⟩:=Int.eq_ofNat_of_zero_le hy0;have hn:n < es.length:=by omega
   have hm:m < es.length:=by omega
   refine ui n m b1 ?_;unfold pZ;refine aJ s s5 (i:=1) rfl rfl rfl ?_;refine bE s5 (j:=0) rfl (by omega) (by omega) fun q hq=>?_;refine bK (j:=0) (i:=n) (k:=8) es[n].fIa fZ s5 rfl hq rfl (al hn) (c1 rfl rfl) ?_;refine aJ s s5 (i:=1) rfl rfl rfl ?_;refine bE s5 (j:=0) rfl (by omega) (by omega) fun q2 hq2=>?_;refine bK (j:=0) (i:=m) (k:=8) es[m].fIa fZ s5 rfl hq2 rfl (al hm) (c1 rfl rfl) ?_;refine aw ?_ s5;rw [cmp_neg,Hist.eff_nat (al hn),Hist.eff_nat (al hm)]
  ·obtain ⟨g1,g2,d,rfl,⟨m',⟨p1,p2⟩,s5⟩,s6⟩:=s4;rw [Hist.order_of ha p1 p2] at s5;exact pS (lD (l:=[vI r (Hist.order es),vE s es]) s5) d
end
section
open Go Mb
attribute [local irreducible] bM gR il Val Tx Tu Tn RV Res br nn ix gd ld st nw cl clv dL Lp ct
def errors_as_l2 (a1:Value) (a2:aF) (a3:Value) (K:kT Bool) (v48:Sl) (Rec25:kT Int) (s24:Int):hT:=br (decide (s24 < (v48.len:Int))) ( ix v48 s24 fun q52=>ld (q52.1,q52.2 + Int.toNat s24 * 1) cV fun x53=>hpv prog (do eqGuard .eql 206 (.tmp 54) (.const Value.nilIface) x53 Value.nilIface; binOp .eql 206 x53 Value.nilIface:Sem Value) ai fun (v55:Bool)=>br v55 ( Rec25 (i64.wrap (s24 + 1))) ( cl prog uQ [x53,a1,(.agg (aF.C a2).toArray),a3] ai fun r60=>br r60 ( K true) ( Rec25 (i64.wrap (s24 + 1))))) ( K false)
def yi (a1:Value) (a2:aF) (a3:Value) (K:kT Bool) (Rec2:kT Value) (s1:Value) (s11:Unit):hT:=hpv prog (Instr.typeAssert s1 fy iq true) fx fun (v37:Value × Bool)=>br v37.2 ( cln prog (callMethod v37.1 "Unwrap" #[]) encV fun (v41:Value)=>hpv prog (do eqGuard .eql 206 (.tmp 42) (.const Value.nilIface) v41 Value.nilIface; binOp .eql 206 v41 Value.nilIface:Sem Value) ai fun (v43:Bool)=>br v43 ( K false) ( Rec2 v41)) ( hpv prog (Instr.typeAssert s1 fy gO true) eY fun (v44:Value × Bool)=>br v44.2 ( cln prog (callMethod v44.1 "Unwrap" #[]) R_Serror fun (v48:Sl)=>Lp (errors_as_l2 a1 a2 a3 K v48) 0) ( K false))
def errors_as_l1 (a1:Value) (a2:aF) (a3:Value) (K:kT Bool) (Rec2:kT Value) (s1:Value):hT:=cln prog (callFunc fo #[s1]) encV fun (v17:Value)=>cln prog (callMethod v17 "AssignableTo" #[a3]) ai fun (v19:Bool)=>br v19 ( cln prog (callFunc dY #[(.agg (aF.C a2).toArray)]) eF fun (v21:aF)=>cln prog (callFunc bU #[s1]) eF fun (v23:aF)=>cln prog (callFunc eB #[(.agg (aF.C v21).toArray),(.agg (aF.C v23).toArray)]) R_ fun (v24:Unit)=>K true) ( ct (yi a1 a2 a3 K Rec2 s1)<|hpv prog (Instr.typeAssert s1 fy qG true) nr fun (v27:Value × Bool)=>br v27.2 ( cln prog (callMethod v27.1 "As" #[a1]) ai fun (v34:Bool)=>br v34 ( K true) ( yi a1 a2 a3 K Rec2 s1 ())) ( yi a1 a2 a3 K Rec2 s1 ()))
def sh_errors_as (a0:Value) (a1:Value) (a2:aF) (a3:Value) (K:kT Bool):hT:=Lp (errors_as_l1 a1 a2 a3 K) a0
theorem sim_errors_as (a0:Value) (a1:Value) (a2:aF) (a3:Value) {K:kT Bool} {h:Hp} (H:sh_errors_as a0 a1 a2 a3 K h):cl prog uQ [a0,a1,(.agg (aF.C a2).toArray),a3] ai K h:=have z0:LH (σ:=Value) 1 1 (fun s1 r=>(0,s1)::r) [0] [1,3,6] (fun _ l=>l):=⟨⟩; have z1:LH (σ:=Unit) 100007 1 (fun _ r=>r) [] [0,1,3,6] (fun _ l=>l):=⟨⟩; have z2:LH (σ:=Int) 18 1 (fun s24 r=>(50,(.int .i64 s24))::r) [50] [1,3,6,48,49] (fun _ l=>l):=⟨⟩; J [7,77777] func234 H
def sL (a0:Value) (a1:Value) (K:kT Bool) (v14:aF) (v26:Value) (s11:Unit):hT:=cl prog uQ [a0,a1,(.agg (aF.C v14).toArray),v26] ai fun r41=>K r41
def yj (a0:Value) (a1:Value) (K:kT Bool) (v14:aF) (v16:Value) (s8:Unit):hT:=cln prog (callMethod v16 "Elem" #[]) encV fun (v26:Value)=>ct (sL a0 a1 K v14 v26)<|cln prog (callMethod v26 "Kind" #[]) R_abi_Kind fun (v28:Int)=>br (v28 != 20) ( ld (0,0) cV fun x32=>cln prog (callMethod v26 "Implements" #[x32]) ai fun (v33:Bool)=>br (!v33) ( hpv prog (Instr.makeInterface ta (.string str_6ae768b9)) encV fun (v36:Value)=>nope) ( sL a0 a1 K v14 v26 ())) ( sL a0 a1 K v14 v26 ())
def yk (a0:Value) (a1:Value) (K:kT Bool) (s4:Unit):hT:=cln prog (callFunc bU #[a1]) eF fun (v14:aF)=>cln prog (callFunc gM #[(.agg (aF.C v14).toArray)]) encV fun (v16:Value)=>ct (yj a0 a1 K v14 v16)<|cln prog (callMethod v16 "Kind" #[]) R_abi_Kind fun (v18:Int)=>br (!(v18 != 22)) ( cln prog (callFunc dO #[(.agg (aF.C v14).toArray)]) ai fun (v22:Bool)=>br v22 ( hpv prog (Instr.makeInterface ta (.string str_ae9b7a08)) encV fun (v24:Value)=>nope) ( yj a0 a1 K v14 v16 ())) ( hpv prog (Instr.makeInterface ta (.string str_ae9b7a08)) encV fun (v24:Value)=>nope)
def xH (a0:Value) (a1:Value) (K:kT Bool):hT:=hpv prog (do eqGuard .eql 206 (.tmp 8) (.const Value.nilIface) a0 Value.nilIface; binOp .eql 206 a0 Value.nilIface:Sem Value) ai fun (v9:Bool)=>br v9 ( K false) ( ct (yk a0 a1 K)<|hpv prog (do eqGuard .eql 20 (.tmp 10) (.const Value.nilIface) a1 Value.nilIface; binOp .eql 20 a1 Value.nilIface:Sem Value) ai fun (v11:Bool)=>br v11 ( hpv prog (Instr.makeInterface ta (.string str_53947bae)) encV fun (v12:Value)=>nope) ( yk a0 a1 K ()))
theorem sim_errors_As (a0:Value) (a1:Value) {K:kT Bool} {h:Hp} (H:xH a0 a1 K h):cl prog uR [a0,a1] ai K h:=have z0:LH (σ:=Unit) 100005 0 (fun _ r=>r) [] [0,1] (fun _ l=>l):=⟨⟩; have z1:LH (σ:=Unit) 100009 1 (fun _ r=>r) [] [0,1,5,6] (fun _ l=>l):=⟨⟩; have z2:LH (σ:=Unit) 100012 1 (fun _ r=>r) [] [0,1,5,7] (fun _ l=>l):=⟨⟩; J [5,9,12,77777] func229 H
def errors_is_l2 (a1:Value) (a2:Bool) (K:kT Bool) (v43:Sl) (Rec26:kT Int) (s25:Int):hT:=br (decide (s25 < (v43.len:Int))) ( ix v43 s25 fun q47=>ld (q47.1,q47.2 + Int.toNat s25 * 1) cV fun x48=>cl prog nD [x48,a1,(.bool a2)] ai fun r52=>br r52 ( K true) ( Rec26 (i64.wrap (s25 + 1)))) ( K false)
def sK (a1:Value) (a2:Bool) (K:kT Bool) (Rec2:kT Value) (s1:Value) (s12:Unit):hT:=hpv prog (Instr.typeAssert s1 fy iq true) fx fun (v32:Value × Bool)=>br v32.2 ( cln prog (callMethod v32.1 "Unwrap" #[]) encV fun (v36:Value)=>hpv prog (do eqGuard .eql 206 (.tmp 37) (.const Value.nilIface) v36 Value.nilIface; binOp .eql 206 v36 Value.nilIface:Sem Value) ai fun (v38:Bool)=>br v38 ( K false) ( Rec2 v36)) ( hpv prog (Instr.typeAssert s1 fy gO true) eY fun (v39:Value × Bool)=>br v39.2 ( cln prog (callMethod v39.1 "Unwrap" #[]) R_Serror fun (v43:Sl)=>Lp (errors_is_l2 a1 a2 K v43) 0) ( K false))
def errors_is_l3 (a1:Value) (a2:Bool) (K:kT Bool) (v43:Sl) (Rec60:kT Int) (s59:Int):hT:=br (decide (s59 < (v43.len:Int))) ( ix v43 s59 fun q47=>ld (q47.1,q47.2 + Int.toNat s59 * 1) cV fun x48=>cl prog nD [x48,a1,(.bool a2)] ai fun r52=>br r52 ( K true) ( Rec60 (i64.wrap (s59 + 1)))) ( K false)
def yh (a1:Value) (a2:Bool) (K:kT Bool) (Rec2:kT Value) (s1:Value) (s46:Unit):hT:=hpv prog (Instr.typeAssert s1 fy iq true) fx fun (v32:Value × Bool)=>br v32.2 ( cln prog (callMethod v32.1 "Unwrap" #[]) encV fun (v36:Value)=>hpv prog (do eqGuard .eql 206 (.tmp 37) (.const Value.nilIface) v36 Value.nilIface; binOp .eql 206 v36 Value.nilIface:Sem Value) ai fun (v38:Bool)=>br v38 ( K false) ( Rec2 v36)) ( hpv prog (Instr.typeAssert s1 fy gO true) eY fun (v39:Value × Bool)=>br v39.2 ( cln prog (callMethod v39.1 "Unwrap" #[]) R_Serror fun (v43:Sl)=>Lp (errors_is_l3 a1 a2 K v43) 0) ( K false))
def yg (a1:Value) (a2:Bool) (K:kT Bool) (Rec2:kT Value) (s1:Value):hT:=br a2 ( hpv prog (do eqGuard .eql 206 (.tmp 16) (.tmp 17) s1 a1; binOp .eql 206 s1 a1:Sem Value) ai fun (v18:Bool)=>br v18 ( K true) ( ct (sK a1 a2 K Rec2 s1)<|hpv prog (Instr.typeAssert s1 fy lX true) iZ fun (v22:Value × Bool)=>br v22.2 ( cln prog (callMethod v22.1 "Is" #[a1]) ai fun (v29:Bool)=>br v29 ( K true) ( sK a1 a2 K Rec2 s1 ())) ( sK a1 a2 K Rec2 s1 ()))) ( ct (yh a1 a2 K Rec2 s1)<|hpv prog (Instr.typeAssert s1 fy lX true) iZ fun (v22:Value × Bool)=>br v22.2 ( cln prog (callMethod v22.1 "Is" #[a1]) ai fun (v29:Bool)=>br v29 ( K true) ( yh a1 a2 K Rec2 s1 ())) ( yh a1 a2 K Rec2 s1 ()))
def xF (a0:Value) (a1:Value) (a2:Bool) (K:kT Bool):hT:=Lp (yg a1 a2 K) a0
theorem sim_errors_is (a0:Value) (a1:Value) (a2:Bool) {K:kT Bool} {h:Hp} (H:xF a0 a1 a2 K h):cl prog nD [a0,a1,(.bool a2)] ai K h:=have z0:LH (σ:=Value) 1 0 (fun s1 r=>(0,s1)::r) [0] [1,2] (fun _ l=>l):=⟨⟩; have z1:LH (σ:=Unit) 100006 0 (fun _ r=>r) [] [0,1,2] (fun _ l=>l):=⟨⟩; have z2:LH (σ:=Int) 17 0 (fun s25 r=>(45,(.int .i64 s25))::r) [45] [1,2,43,44] (fun _ l=>l):=⟨⟩; have z3:LH (σ:=Int) 17 0 (fun s59 r=>(45,(.int .i64 s59))::r) [45] [1,2,43,44] (fun _ l=>l):=⟨⟩; J [6,77777] func192 H
def xG (a0:Value) (a1:Value) (K:kT Bool):hT:=hpv prog (do eqGuard .eql 206 (.tmp 6) (.const Value.nilIface) a0 Value.nilIface; binOp .eql 206 a0 Value.nilIface:Sem Value) ai fun (v7:Bool)=>br (!v7) ( hpv prog (do eqGuard .eql 206 (.tmp 9) (.const Value.nilIface) a1 Value.nilIface; binOp .eql 206 a1 Value.nilIface:Sem Value) ai fun (v10:Bool)=>br v10 ( hpv prog (do eqGuard .eql 206 (.tmp 12) (.tmp 13) a0 a1; binOp .eql 206 a0 a1:Sem Value) ai fun (v14:Bool)=>K v14) ( cln prog (callFunc fo #[a1]) encV fun (v16:Value)=>cln prog (callMethod v16 "Comparable" #[]) ai fun (v17:Bool)=>cl prog nD [a0,a1,(.bool v17)] ai fun r21=>K r21)) ( hpv prog (do eqGuard .eql 206 (.tmp 12) (.tmp 13) a0 a1; binOp .eql 206 a0 a1:Sem Value) ai fun (v14:Bool)=>K v14)
theorem sim_errors_Is (a0:Value) (a1:Value) {K:kT Bool} {h:Hp} (H:xG a0 a1 K h):cl prog nE [a0,a1] ai K h:=J [77777] func149 H
end
section
open Go Mb
attribute [local irreducible] bM gR il Val Tx Tu Tn RV Res br nn ix gd ld st nw cl clv dL Lp ct
def sh_trap_Of (a0:Int) (K:kT Value):hT:=br (a0 == 0) ( K Value.nilIface) ( nw ns (bh.C (⟨a0,(-1),(⟨0,0,0,0,0⟩:aa),Value.nilIface⟩:bh)) fun b7=>hpv prog (Instr.makeInterface aI (.pointer (some ⟨b7,0,none⟩))) encV fun (v8:Value)=>K v8)
theorem sim_trap_Of (a0:Int) {K:kT Value} {h:Hp} (H:sh_trap_Of a0 K h):cl prog jZ [(.int .i64 a0)] gK K h:=J [] func150 H
def mD (K:kT (Ptr × Bool)) (b4:Nat) (s2:Bool):hT:=br s2 ( K (none,false)) ( ld (b4,0) cP fun x13=>K (x13,true))
def vm (a0:Value) (K:kT (Ptr × Bool)):hT:=nw aI [pv none] fun b4=>ct (mD K b4)<|hpv prog (Instr.makeInterface aP (.pointer (some ⟨b4,0,none⟩))) encV fun (v6:Value)=>cl prog uR [a0,v6] ai fun r7=>br (!(!r7)) ( ld (b4,0) cP fun x10=>mD K b4 x10.isNone) ( mD K b4 true)
theorem sim_trap_First (a0:Value) {K:kT (Ptr × Bool)} {h:Hp} (H:vm a0 K h):cl prog jt [a0] dF K h:=have z0:LH (σ:=Bool) 102003 0 (fun s2 r=>(12,(.bool s2))::r) [12] [4] (fun _ l=>l):=⟨⟩; J [2003] func223 H
def sh_trap_Code (a0:Value) (K:kT Int):hT:=hpv prog (do eqGuard .eql 206 (.tmp 5) (.const Value.nilIface) a0 Value.nilIface; binOp .eql 206 a0 Value.nilIface:Sem Value) ai fun (v6:Bool)=>br v6 ( K 0) ( cl prog jt [a0] dF fun r9=>br r9.2 ( nn r9.1 fun q14=>ld (q14.1,q14.2 + 0) (cI .i64) fun x16=>K x16) ( K 9))
theorem sim_trap_Code (a0:Value) {K:kT Int} {h:Hp} (H:sh_trap_Code a0 K h):cl prog uO [a0] aC K h:=J [77777] func209 H
def sh_trap_In (a0:Int) (a1:aa) (a2:Value) (K:kT Value):hT:=hpv prog (do eqGuard .eql 206 (.tmp 7) (.const Value.nilIface) a2 Value.nilIface; binOp .eql 206 a2 Value.nilIface:Sem Value) ai fun (v8:Bool)=>br v8 ( K Value.nilIface) ( cl prog uO [a2] aC fun r10=>hpv prog (Instr.build ns #[(0,(.int .i64 r10)),(1,(.int .i64 a0)),(2,(.agg (aa.C a1).toArray)),(3,a2)]) R_trap_Trap fun (v14:bh)=>nw ns (bh.C v14) fun b15=>hpv prog (Instr.makeInterface aI (.pointer (some ⟨b15,0,none⟩))) encV fun (v16:Value)=>K v16)
theorem sim_trap_In (a0:Int) (a1:aa) (a2:Value) {K:kT Value} {h:Hp} (H:sh_trap_In a0 a1 a2 K h):cl prog n_trap_In [(.int .i64 a0),(.agg (aa.C a1).toArray),a2] gK K h:=have z0:OH 3 [0,8,12,16,6,22,26,30,32] .e []:=⟨⟩; J [77777] func186 H
def qp (K:kT Int) (Rec3:kT (Int × Ptr × Bool)) (s2:Int × Ptr × Bool):hT:=br s2.2.2 ( nn s2.2.1 fun q14=>ld (q14.1,q14.2 + 7) cV fun x16=>cl prog jt [x16] dF fun r17=>Rec3 ((i64.wrap (s2.1 + 1)),r17.1,r17.2)) ( K s2.1)
def sh_trap_Depth (a0:Value) (K:kT Int):hT:=cl prog jt [a0] dF fun r8=>Lp (qp K) (0,r8.1,r8.2)
theorem sim_trap_Depth (a0:Value) {K:kT Int} {h:Hp} (H:sh_trap_Depth a0 K h):cl prog xS [a0] cH K h:=have z0:LH (σ:=Int × Ptr × Bool) 3 0 (fun s2 r=>(3,(.int .i64 s2.1))::(4,(pv s2.2.1))::(5,(.bool s2.2.2))::r) [3,4,5] [] (fun _ l=>l):=⟨⟩; J [] func230 H
def mY (a0:Ptr) (K:kT ByteArray):hT:=br a0.isNone ( K (⟨#[]⟩:ByteArray)) ( nn a0 fun q7=>ld (q7.1,q7.2 + 0) (cI .i64) fun x9=>cl prog tF [(.int .i64 x9)] cA fun r10=>hpv prog (do eqGuard .add 9 (.const (.string (⟨#[116,114,97,112,32]⟩:ByteArray))) (.tmp 10) (.string (⟨#[116,114,97,112,32]⟩:ByteArray)) (.string r10); binOp .add 9 (.string (⟨#[116,114,97,112,32]⟩:ByteArray)) (.string r10):Sem Value) cA fun (v11:ByteArray)=>ld (q7.1,q7.2 + 7) cV fun x15=>hpv prog (do eqGuard .neq 206 (.tmp 15) (.const Value.nilIface) x15 Value.nilIface; binOp .neq 206 x15 Value.nilIface:Sem Value) ai fun (v16:Bool)=>br v16 ( ld (q7.1,q7.2 + 7) cV fun x21=>cln prog (callMethod x21 "Error" #[]) cA fun (v22:ByteArray)=>hpv prog (do eqGuard .add 9 (.const (.string (⟨#[58,32]⟩:ByteArray))) (.tmp 22) (.string (⟨#[58,32]⟩:ByteArray)) (.string v22); binOp .add 9 (.string (⟨#[58,32]⟩:ByteArray)) (.string v22):Sem Value) cA fun (v23:ByteArray)=>hpv prog (do eqGuard .add 9 (.tmp 17) (.tmp 23) (.string v11) (.string v23); binOp .add 9 (.string v11) (.string v23):Sem Value) cA fun (v24:ByteArray)=>K v24) ( K v11))
theorem rM (a0:Ptr) {K:kT ByteArray} {h:Hp} (H:mY a0 K h):cl prog hH [(pv a0)] cA K h:=J [77777] func255 H
def sh_trap_Trap_Is (a0:Ptr) (a1:Value) (K:kT Bool):hT:=hpv prog (Instr.typeAssert a1 fy aI true) dF fun (v9:Ptr × Bool)=>br v9.2 ( br (!a0.isNone) ( br (!v9.1.isNone) ( nn a0 fun q23=>nn v9.1 fun q27=>ld (q23.1,q23.2 + 0) (cI .i64) fun x25=>ld (q27.1,q27.2 + 0) (cI .i64) fun x29=>K (x25 == x29)) ( K false)) ( K false)) ( K false)
theorem sim_trap_Trap_Is (a0:Ptr) (a1:Value) {K:kT Bool} {h:Hp} (H:sh_trap_Trap_Is a0 a1 K h):cl prog tD [(pv a0),a1] ai K h:=have z0:OH 2 [0,4,8,12,16,20,24,28,32,36,40,56,44,48,60,64,53,69,72,76,80] .e []:=⟨⟩; J [] func256 H
def rN (a0:Ptr) (K:kT Value):hT:=br a0.isNone ( K Value.nilIface) ( nn a0 fun q6=>ld (q6.1,q6.2 + 7) cV fun x8=>K x8)
theorem sim_trap_Trap_Unwrap (a0:Ptr) {K:kT Value} {h:Hp} (H:rN a0 K h):cl prog na [(pv a0)] gK K h:=J [] func257 H
end
section
open Go Mb
variable {ET:Nat} {EF:Nat × Nat}
abbrev cq (b:Nat):Value:=.iface aI (.pointer (some ⟨b,0,none⟩))
theorem g0:prog.globals.size = 4:=by kernel_rfl
theorem g1:typeHandle prog aI = pv (some (4,aI)):=by kernel_rfl
theorem g2:(prog.globals[0]?).map (·.type) = some 255:=by kernel_rfl
theorem oneErr:((List.range 359).filter fun t=>prog.rowNamed t [101,114,114,111,114]) = [206]:=by kernel_rfl
theorem g4:prog.types.size = 359:=by kernel_rfl
abbrev rtV (T:Nat):Value:=.iface rL (.agg #[pv (some (4,T))])
abbrev vl (T c f:Nat):aF:=⟨some (4,T),some (c,0),f⟩
abbrev vlV (T c f:Nat):Value:=.agg (aF.C (vl T c f)).toArray
section
variable (b:Nat) (K:Next->Hp->Prop) (h:Hp)
theorem x7:hp prog (callFunc fo #[cq b]) K h = K (.value (rtV aI)) h:=by kernel_rfl
theorem x8:hp prog (callFunc bU #[.iface aP (.pointer (some ⟨b,0,none⟩))]) K h = (true = true/\∀ e,h e = none->K (.value (vlV aP e 150)) (dh h e (.cells #[pv (some (b,0))] aP (0,0)))):=by kernel_rfl
theorem x8':hp prog (callFunc bU #[cq b]) K h = (true = true/\∀ e,h e = none->K (.value (vlV aI e 150)) (dh h e (.cells #[pv (some (b,0))] aI (0,0)))):=by kernel_rfl
theorem x10:hp prog (callMethod (rtV aP) "Kind" #[]) K h = K (.value (.int .u8 22)) h:=by kernel_rfl
theorem x11:hp prog (callMethod (rtV aP) "Elem" #[]) K h = K (.value (rtV aI)) h:=by kernel_rfl
theorem x12:hp prog (callMethod (rtV aI) "Kind" #[]) K h = K (.value (.int .u8 22)) h:=by kernel_rfl
theorem x13:hp prog (callMethod (rtV aI) "Comparable" #[]) K h = K (.value (.bool true)) h:=by kernel_rfl
theorem x14:hp prog (callMethod (rtV aI) "AssignableTo" #[rtV aI]) K h = K (.value (.bool true)) h:=by kernel_rfl
theorem x15 (c:Nat):hp prog (callFunc gM #[vlV aP c 150]) K h = K (.value (rtV aP)) h:=by kernel_rfl
theorem x16 (c:Nat):hp prog (callFunc dO #[vlV aP c 150]) K h =
 hp prog (do let r ← Extern.ReflectliteValue.isNil aP ⟨c,0,none⟩ 150 22; pure (.value r)) K h:=by kernel_rfl
theorem x17:hp prog (callMethod (rtV aI) "Implements" #[rtV fy]) K h = K (.value (.bool true)) h:=by kernel_rfl
theorem x18 (c:Nat):hp prog (callFunc dY #[vlV aP c 150]) K h =
 hp prog (do let r ← Extern.ReflectliteValue.elem aP ⟨c,0,none⟩ 150 22; pure (.value r)) K h:=by kernel_rfl
theorem x19 (c d:Nat):hp prog (callFunc eB #[vlV aI c 406,vlV aI d 150]) K h =
 hp prog (do let r ← (do let v ← loadVar aI ⟨d,0,none⟩; storeVar aI ⟨c,0,none⟩ v; pure (Value.tuple #[])); pure (.value r)) K h:=by kernel_rfl
theorem y1 (c:Nat) (K:Value->Hp->Prop):hp prog (loadVar aP ⟨c,0,none⟩) K h = ∃ v,kG h ⟨c,0,none⟩ = some v/\K v h:=by kernel_rfl
theorem y2 (c:Nat) (K:Value->Hp->Prop):hp prog (loadVar aI ⟨c,0,none⟩) K h = ∃ v,kG h ⟨c,0,none⟩ = some v/\K v h:=by kernel_rfl
theorem y3 (b:Nat) (K:Value->Hp->Prop):hp prog (Extern.ReflectliteValue.mk aI ⟨b,0,none⟩ Extern.ReflectliteValue.flagAddr) K h = K (vlV aI b 406) h:=by kernel_rfl
theorem y4 (K:Option TypeId->Hp->Prop):hp prog (Extern.Rtype.elem? aP) K h = K (some aI) h:=by kernel_rfl
theorem y5 (b c:Nat) (K:Unit->Hp->Prop):hp prog (storeVar aI ⟨c,0,none⟩ (.pointer (some ⟨b,0,none⟩))) K h = hp prog (storeCells ⟨c,0,none⟩ [.pointer (some ⟨b,0,none⟩)]) K h:=by kernel_rfl
theorem y6 (K:Value->Hp->Prop) {a b n m:Nat}:hp prog (do eqGuard .eql 206 (.tmp n) (.tmp m) (cq a) (cq b); binOp .eql 206 (cq a) (cq b):Sem Value) K h = hp prog (do let r ← sameAddr ⟨a,0,none⟩ ⟨b,0,none⟩; pure (.bool r)) K h:=by kernel_rfl
theorem x25 (K:Bool->Hp->Prop) {a b:Nat} {ca cb:List Value} {Ta Tb:Nat} (ha:h a = some (.cells ca.toArray Ta (0,0))) (hb:h b = some (.cells cb.toArray Tb (0,0))) (H:K (a == b) h):hp prog (sameAddr ⟨a,0,none⟩ ⟨b,0,none⟩) K h:=by
 unfold sameAddr;rcases Decidable.em (a = b) with e | e
 ·subst e;rw [if_pos (by simp)];have H':K true h:=by simpa using H
  simpa [yf] using H'
 ·rw [if_neg (by simpa using e)];have fa:∀ (K:Bool->Hp->Prop) (o:Nat),hp prog (frozen ⟨a,o,none⟩) K h↔K false h:=fun K o =>
   ⟨fun ⟨o',h1,h2⟩=>by rw [ha] at h1; cases h1; simpa [hp,uK] using h2,fun h2=>⟨_,ha,by simpa [hp,uK] using h2⟩⟩
  have fb:∀ (K:Bool->Hp->Prop) (o:Nat),hp prog (frozen ⟨b,o,none⟩) K h↔K false h:=fun K o =>
   ⟨fun ⟨o',h1,h2⟩=>by rw [hb] at h1; cases h1; simpa [hp,uK] using h2,fun h2=>⟨_,hb,by simpa [hp,uK] using h2⟩⟩
  have sa:∀ (K:Option (TypeId × Nat)->Hp->Prop),hp prog (shape a) K h↔K (some (Ta,ca.length)) h:=fun K =>
   ⟨fun ⟨o',h1,h2⟩=>by rw [ha] at h1; cases h1; simpa [hp,oshape] using h2,fun h2=>⟨_,ha,by simpa [hp,oshape] using h2⟩⟩
  have sb:∀ (K:Option (TypeId × Nat)->Hp->Prop),hp prog (shape b) K h↔K (some (Tb,cb.length)) h:=fun K =>
   ⟨fun ⟨o',h1,h2⟩=>by rw [hb] at h1; cases h1; simpa [hp,oshape] using h2,fun h2=>⟨_,hb,by simpa [hp,oshape] using h2⟩⟩
  have eb:(a == b) = false:=by simpa using e
  rw [eb] at H;simp [bF,fa,fb,sa,sb,noView,viewAt,mayBeOne,stringish,yf,H]
end
section
variable {P:Program} {τ:Type} {enc:τ->Value} {K:τ->Hp->Prop} {h:Hp}
theorem eC {m:Sem Value} (r:τ) (e:∀ (K:Value->Hp->Prop) h,hp P m K h = K (enc r) h) (k:K r h):hpv P m enc K h:=⟨by rw [e]; exact ⟨r,rfl,k⟩⟩
theorem tV {m:Sem Next} (r:τ) (e:∀ (K:Next->Hp->Prop) h,hp P m K h = K (.value (enc r)) h) (k:K r h):cln P m enc K h:=⟨by rw [e]; exact .inl ⟨r,rfl,k⟩⟩
theorem cln_en {m:Sem Next} {f:FuncId} {vs:List Value} (e:∀ (K:Next->Hp->Prop) h,hp P m K h = K (.enter f vs.toArray) h) (k:cl P f vs enc K h):cln P m enc K h:=⟨by rw [e]; exact .inr ⟨f,_,rfl,k⟩⟩
end
abbrev etB (ET:Nat) (EF:Nat × Nat):As:=obj 0 (.cells #[rtV fy] ET EF)
abbrev trB (b:Nat) (t:bh):As:=blk b ns (bh.C t)
theorem en_0 (b n:Nat) (K:Value->Hp->Prop) (h:Hp):hp prog (do eqGuard .eql 206 (.tmp n) (.const Value.nilIface) (cq b) Value.nilIface; binOp .eql 206 (cq b) Value.nilIface:Sem Value) K h = K (.bool false) h:=by kernel_rfl
theorem en_00 (n:Nat) (K:Value->Hp->Prop) (h:Hp):hp prog (do eqGuard .eql 206 (.tmp n) (.const Value.nilIface) Value.nilIface Value.nilIface; binOp .eql 206 Value.nilIface Value.nilIface:Sem Value) K h = K (.bool true) h:=by kernel_rfl
theorem en_1 (b n:Nat) (K:Value->Hp->Prop) (h:Hp):hp prog (do eqGuard .eql 20 (.tmp n) (.const Value.nilIface) (.iface aP (.pointer (some ⟨b,0,none⟩))) Value.nilIface; binOp .eql 20 (.iface aP (.pointer (some ⟨b,0,none⟩))) Value.nilIface:Sem Value) K h = K (.bool false) h:=by kernel_rfl
theorem sp_As_nil (v:Value):Sp prog uR [Value.nilIface,v] ai [] (fun r=>pa_ (r = false) []):=by
 intro h st;refine sim_errors_As _ _ ?_;unfold xH;exact eC true (en_00 _) (cg rfl (aw rfl st))
section
variable {h:Hp} {b c d:Nat}
theorem c22 {K:Bool->Hp->Prop} (e:kG h ⟨c,0,none⟩ = some (.pointer (some ⟨b,0,none⟩))) (H:K false h):cln prog (callFunc dO #[vlV aP c 150]) ai K h:=by
 constructor;rw [x16,bF];unfold Extern.ReflectliteValue.isNil;rw [if_neg (by decide)];rw [bF,y1]; exact ⟨_,e,.inl ⟨false,rfl,H⟩⟩
theorem c23 {K:aF->Hp->Prop} (e:kG h ⟨c,0,none⟩ = some (.pointer (some ⟨b,0,none⟩))) (H:K (vl aI b 406) h):cln prog (callFunc dY #[vlV aP c 150]) eF K h:=by
 constructor;rw [x18,bF];unfold Extern.ReflectliteValue.elem;rw [if_neg (by decide),bF,y1];refine ⟨_,e,?_⟩;rw [bF,y4];show hp _ (Extern.ReflectliteValue.mk _ _ _) _ h;rw [y3]; exact .inl ⟨_,rfl,H⟩
theorem c24 {K:Unit->Hp->Prop} (e:kG h ⟨d,0,none⟩ = some (.pointer (some ⟨b,0,none⟩))) (H:hp prog (storeCells ⟨c,0,none⟩ [.pointer (some ⟨b,0,none⟩)]) (fun _=>K ()) h):cln prog (callFunc eB #[vlV aI c 406,vlV aI d 150]) R_ K h:=by
 constructor;rw [x19,bF,bF,y2]; refine ⟨_,e,?_⟩;rw [bF,y5]; exact hp_mono _ (fun _ _ k=>.inl ⟨(),rfl,k⟩) _ H
theorem c8 {K:aF->Hp->Prop} (H:∀ e,h e = none->K (vl aP e 150) (dh h e (.cells #[pv (some (b,0))] aP (0,0)))):cln prog (callFunc bU #[.iface aP (.pointer (some ⟨b,0,none⟩))]) eF K h:=by
 constructor;rw [x8];exact ⟨rfl,fun e he=>.inl ⟨_,rfl,H e he⟩⟩
theorem c8' {K:aF->Hp->Prop} (H:∀ e,h e = none->K (vl aI e 150) (dh h e (.cells #[pv (some (b,0))] aI (0,0)))):cln prog (callFunc bU #[cq b]) eF K h:=by
 constructor;rw [x8'];exact ⟨rfl,fun e he=>.inl ⟨_,rfl,H e he⟩⟩
end
theorem blk_cell {l:List As} {h:Hp} {i b:Nat} {T:TypeId} {c:List Value} {v:Value} (hi:l[i]? = some (blk b T c)) (hv:c[0]? = some v) (s:ah l h):kG h ⟨b,0,none⟩ = some v:=by
 obtain ⟨g1,a1,sub1⟩:=cL hi s;have:=sub1 _ _ a1;unfold kG;rw [this];simpa using hv
theorem sp_as (b c d:Nat) (p:Ptr):Sp prog uQ [cq b,.iface aP (.pointer (some ⟨c,0,none⟩)),vlV aP d 150,rtV aI] ai
  [blk c aI [pv p],blk d aP [pv (some (c,0))]] (fun r=>pa_ (r = true) [blk c aI [pv (some (b,0))]]):=by
 intro h st;refine sim_errors_as _ _ _ _ ?_;unfold sh_errors_as;refine ⟨fun s h=>s = cq b/\ah [blk c aI [pv p],blk d aP [pv (some (c,0))]] h,fun _ _=>0,⟨rfl,st⟩,?_⟩;rintro _ h1 ⟨rfl,s1⟩;unfold errors_as_l1;refine tV (rtV aI) (fun K h=>x7 b K h) ?_;refine tV true (fun K h=>x14 K h) (cg rfl ?_);refine c23 (blk_cell (i:=1) rfl rfl s1) ?_;refine c8' fun e he=>?_;have s2:ah (blk e aI [pv (some (b,0))]::_) _:=new_s (o:=.cells #[pv (some (b,0))] aI (0,0)) s1 he;refine c24 (blk_cell (i:=0) (T:=aI) (c:=[pv (some (b,0))]) rfl rfl s2) ?_;obtain ⟨g2,a2,sub2⟩:=cL (i:=1) (A:=blk c aI [pv p]) rfl s2;refine hp_storeCells _ 0 0 [pv p] _ (sub2 _ _ a2) (by simp) rfl ?_;have s3:ah (_::blk c aI [pv (some (b,0))]::_) _:=obj_set (o':=.cells #[pv (some (b,0))] aI (0,0)) (i:=1) s2 rfl;exact aw rfl (aT (l:=[_,_]) (aA [0,1] s3 rfl))
theorem sp_As (b c:Nat) (p:Ptr):Sp prog uR [cq b,.iface aP (.pointer (some ⟨c,0,none⟩))] ai
  [(etB ET EF),blk c aI [pv p]] (fun r=>pa_ (r = true) [(etB ET EF),blk c aI [pv (some (b,0))]]):=by
 intro h st;refine sim_errors_As _ _ ?_;unfold xH;refine eC false (en_0 b _) (bB rfl ?_);refine eC false (en_1 c _) (bB rfl ?_);unfold yk;refine c8 fun e he=>?_;have s2:ah (blk e aP [pv (some (c,0))]::_) _:=new_s (o:=.cells #[pv (some (c,0))] aP (0,0)) st he;refine tV (rtV aP) (fun K h=>x15 K h e) ?_;refine tV 22 (fun K h=>x10 K h) (cg rfl ?_);refine c22 (blk_cell (i:=0) (T:=aP) (c:=[pv (some (c,0))]) rfl rfl s2) (bB rfl ?_);unfold yj;refine tV (rtV aI) (fun K h=>x11 K h) ?_;refine tV 22 (fun K h=>x12 K h) (cg rfl ?_);obtain ⟨g3,a3,sub3⟩:=cL (i:=1) (A:=etB ET EF) rfl s2;refine ⟨rtV fy,⟨_,_,_,sub3 _ _ a3,fun i v hv=>?_⟩,?_⟩
 ·rcases i with _ | i <;> first | exact hv | simp [cV] at hv
 refine tV true (fun K h=>x17 K h) (bB rfl ?_);unfold sL;refine bG [2,0,1] (rest:=[(etB ET EF)]) (sp_as b c e p) s2 rfl fun r h' s3=>?_;obtain ⟨rfl,s4⟩:=aM.1 s3;exact aw rfl (aA [1,0] s4 rfl)
abbrev firstOf (b:Nat):Ptr × Bool:=(some (b,0),true)
theorem sp_First (b:Nat):Sp prog jt [cq b] dF [(etB ET EF)] (fun r=>pa_ (r = firstOf b) [(etB ET EF)]):=by
 intro h st;refine sim_trap_First _ ?_;unfold vm;refine nP st fun c h1 s1=>?_;refine eC (.iface aP (.pointer (some ⟨c,0,none⟩))) (fun K h=>by kernel_rfl) ?_;refine bG [1,0] (rest:=[]) (sp_As b c none) s1 rfl fun r h' s2=>?_;obtain ⟨rfl,s3⟩:=aM.1 s2;refine cg rfl ?_;refine aJ (some (b,0)) s3 (i:=1) rfl rfl rfl ?_;unfold mD;refine bB rfl ?_;refine aJ (some (b,0)) s3 (i:=1) rfl rfl rfl ?_;exact aw rfl (aT (l:=[_]) (aA [1] s3 rfl))
theorem sp_First_nil:Sp prog jt [Value.nilIface] dF [] (fun r=>pa_ (r = (none,false)) []):=by
 intro h st;refine sim_trap_First _ ?_;unfold vm;refine nP st fun c h1 s1=>?_;refine eC (.iface aP (.pointer (some ⟨c,0,none⟩))) (fun K h=>by kernel_rfl) ?_;refine ud (sp_As_nil _) s1 fun r h' hr s2=>?_;subst hr;refine bB rfl ?_;unfold mD;exact cg rfl (aw rfl trivial)
theorem sp_Of (n:Int) (hn:n ≠ 0):Sp prog jZ [.int .i64 n] gK [] (fun r=>ex fun b=>pa_ (r = cq b) [trB b ⟨n,-1,⟨0,0,0,0,0⟩,.nilIface⟩]):=by
 intro h st;refine sim_trap_Of _ ?_;unfold sh_trap_Of;refine bB (by simpa using hn) ?_;refine nP st fun b h1 s1=>?_;refine eC (cq b) (fun K h=>by kernel_rfl) ?_;exact ⟨b,aw rfl s1⟩
theorem sp_Of0:Sp prog jZ [.int .i64 0] gK [] (fun r=>pa_ (r = Value.nilIface) []):=by
 intro h st;refine sim_trap_Of _ ?_;unfold sh_trap_Of;exact cg rfl (aw rfl st)
theorem sp_Code (b:Nat) (t:bh):Sp prog uO [cq b] aC [(etB ET EF),trB b t] (fun r=>pa_ (r = t.fZa) [(etB ET EF),trB b t]):=by
 intro h st;refine sim_trap_Code _ ?_;unfold sh_trap_Code;refine eC false (en_0 b _) (bB rfl ?_);refine aW (i:=0) (sp_First b) rfl st fun r h' hr s2=>?_;subst hr;refine cg rfl (bn ?_);refine aJ t.fZa s2 (i:=1) rfl rfl rfl ?_;exact aw rfl s2
theorem sp_In (env:Int) (c:aa) (b:Nat) (t:bh):Sp prog n_trap_In [.int .i64 env,.agg (aa.C c).toArray,cq b] gK [(etB ET EF),trB b t]
  (fun r=>ex fun e=>pa_ (r = cq e) [trB e ⟨t.fZa,env,c,cq b⟩,(etB ET EF),trB b t]):=by
 intro h st;refine sim_trap_In _ _ _ ?_;unfold sh_trap_In;refine eC false (en_0 b _) (bB rfl ?_);refine bG [] (rest:=[]) (sp_Code b t) st (List.append_nil _).symm fun r h' s2=>?_;obtain ⟨rfl,s3⟩:=aM.1 s2;refine eC ⟨t.fZa,env,c,cq b⟩ (fun K h=>by kernel_rfl) ?_;refine nP s3 fun e h1 s4=>?_;refine eC (cq e) (fun K h=>by kernel_rfl) ?_;exact ⟨e,aw rfl s4⟩
theorem sp_Depth2 (b e:Nat) (t u:bh) (ht:t.fWa = cq e) (hu:u.fWa = Value.nilIface):Sp prog xS [cq b] cH [(etB ET EF),trB b t,trB e u] (fun r=>pa_ (r = 2) [(etB ET EF),trB b t,trB e u]):=by
 intro h st;refine sim_trap_Depth _ ?_;unfold sh_trap_Depth;refine aW (i:=0) (sp_First b) rfl st fun r h' hr s2=>?_;subst hr;refine ⟨fun s h=>(s = (0,some (b,0),true)\/s = (1,some (e,0),true)\/s = (2,none,false))/\ah [(etB ET EF),trB b t,trB e u] h,fun s _=>3 - s.1.toNat,⟨.inl rfl,s2⟩,?_⟩;rintro s h1 ⟨rfl | rfl | rfl,s3⟩
 ·unfold qp;refine cg rfl (bn ?_);refine aJ t.fWa s3 (i:=1) rfl rfl rfl ?_;rw [ht];refine aW (i:=0) (sp_First e) rfl s3 fun r h' hr s4=>?_;subst hr;exact ⟨⟨.inr (.inl rfl),s4⟩,Nat.le_of_ble_eq_true rfl⟩
 ·unfold qp;refine cg rfl (bn ?_);refine aJ u.fWa s3 (i:=2) rfl rfl rfl ?_;rw [hu];refine ud sp_First_nil s3 fun r h' hr s4=>?_;subst hr;exact ⟨⟨.inr (.inr rfl),s4⟩,Nat.le_of_ble_eq_true rfl⟩
 ·unfold qp;exact bB rfl (aw rfl s3)
end
section
open Go Mb
attribute [local irreducible] bM gR il Val Tx Tu Tn RV Res br nn ix gd ld st nw cl clv dL Lp ct
def sh_strconv_Itoa (a0:Int) (K:kT ByteArray):hT:=cl prog iK [(.int .i64 a0)] cA fun r4=>K r4
theorem sim_strconv_Itoa (a0:Int) {K:kT ByteArray} {h:Hp} (H:sh_strconv_Itoa a0 K h):cl prog tF [(.int .i64 a0)] cA K h:=J [] func258 H
end
section
open Go Mb
attribute [local irreducible] bM gR il Val Tx Tu Tn RV Res br nn ix gd ld st nw cl clv dL Lp ct
def lY (a0:Int) (K:kT ByteArray):hT:=br (decide (a0 < 10)) ( hpv prog (Instr.sliceAt ta (.string str_73df774b) (some (.int .i64 a0)) (some (.int .i64 (i64.wrap (a0 + 1)))) none) cA fun (v8:ByteArray)=>K v8) ( hpv prog (Instr.sliceAt ta (.string str_e9752c08) (some (.int .i64 (i64.wrap (a0 * 2)))) (some (.int .i64 (i64.wrap ((i64.wrap (a0 * 2)) + 2)))) none) cA fun (v14:ByteArray)=>K v14)
theorem th (a0:Int) {K:kT ByteArray} {h:Hp} (H:lY a0 K h):cl prog iu [(.int .i64 a0)] cA K h:=J [] func261 H
def ft (a0:Int) (K:kT ByteArray) (b5:Nat) (s9:Int):hT:=cl prog rD [(.int .u64 s9)] cH fun r27=>hpv prog (Instr.sliceAt xf (.pointer (some ⟨b5,0,none⟩)) (some (.int .i64 1)) (some (.int .i64 (i64.wrap (1 + r27)))) none) R_Suint8 fun (v30:Sl)=>cl prog oW [(sv v30),(.int .u64 s9)] R_ fun (_:Unit)=>br (decide (a0 < 0)) ( st (b5,0) [.int .u8 45]<|hpv prog (Instr.sliceAt xf (.pointer (some ⟨b5,0,none⟩)) none (some (.int .i64 (i64.wrap (1 + r27)))) none) R_Suint8 fun (v38:Sl)=>hpv prog (convert 337 9 (sv v38)) cA fun (v39:ByteArray)=>K v39) ( hpv prog (Instr.sliceAt xf (.pointer (some ⟨b5,0,none⟩)) (some (.int .i64 1)) (some (.int .i64 (i64.wrap (1 + r27)))) none) R_Suint8 fun (v42:Sl)=>hpv prog (convert 337 9 (sv v42)) cA fun (v43:ByteArray)=>K v43)
def jj (a0:Int) (a1:Int) (K:kT ByteArray):hT:=br (a1 == 10) ( br ((decide (0 <= a0)) && (decide (a0 < 100))) ( cl prog iu [(.int .i64 a0)] cA fun r19=>K r19) ( nw xf [.int .u8 0,.int .u8 0,.int .u8 0,.int .u8 0,.int .u8 0,.int .u8 0,.int .u8 0,.int .u8 0,.int .u8 0,.int .u8 0,.int .u8 0,.int .u8 0,.int .u8 0,.int .u8 0,.int .u8 0,.int .u8 0,.int .u8 0,.int .u8 0,.int .u8 0,.int .u8 0,.int .u8 0,.int .u8 0,.int .u8 0,.int .u8 0] fun b5=>ct (ft a0 K b5)<|br (decide (a0 < 0)) ( ft a0 K b5 (u64.wrap (0 - (u64.wrap a0)))) ( ft a0 K b5 (u64.wrap a0)))) ( cl prog ro [(sv (⟨none,0,0,none⟩:Sl)),(.int .u64 (u64.wrap a0)),(.int .i64 a1),(.bool (decide (a0 < 0))),(.bool false)] R_Suint8_string fun r50=>K r50.2)
theorem pY (a0:Int) (a1:Int) {K:kT ByteArray} {h:Hp} (H:jj a0 a1 K h):cl prog fE [(.int .i64 a0),(.int .i64 a1)] cA K h:=have z0:LH (σ:=Int) 100008 0 (fun s9 r=>(6,(.int .u64 s9))::r) [6] [0,5] (fun _ l=>l):=⟨⟩; J [8] func260 H
def mJ (a0:Int) (K:kT ByteArray):hT:=cl prog fE [(.int .i64 a0),(.int .i64 10)] cA fun r4=>K r4
theorem ua (a0:Int) {K:kT ByteArray} {h:Hp} (H:mJ a0 K h):cl prog iK [(.int .i64 a0)] cA K h:=J [] func259 H
end
section
open Go Mb
attribute [local irreducible] bM gR il Val Tx Tu Tn RV Res br nn ix gd ld st nw cl clv dL Lp ct
def px (K:kT Bool):hT:=cl prog jZ [(.int .i64 3)] gK fun r5=>cl prog n_trap_In [(.int .i64 2),(.agg (aa.C (⟨1,2,0,0,0⟩:aa)).toArray),r5] gK fun r6=>cl prog jt [r6] dF fun r9=>hpv prog (do eqGuard .eql 206 (.tmp 12) (.const Value.nilIface) r6 Value.nilIface; binOp .eql 206 r6 Value.nilIface:Sem Value) ai fun (v13:Bool)=>br (v13 || r9.1.isNone) ( K false) ( br r9.2 ( nn r9.1 fun q21=>ld (q21.1,q21.2 + 1) (cI .i64) fun x23=>br (x23 == 2) ( ld (q21.1,q21.2 + 2) aa.C fun x30=>br (aa.eqb x30 (⟨1,2,0,0,0⟩:aa)) ( ld (q21.1,q21.2 + 0) (cI .i64) fun x38=>br (x38 == 3) ( cl prog uO [r6] aC fun r43=>br (r43 == 3) ( cl prog xS [r6] cH fun r48=>br (r48 == 2) ( cl prog jZ [(.int .i64 3)] gK fun r53=>cl prog nE [r6,r53] ai fun r54=>br r54 ( cl prog jZ [(.int .i64 4)] gK fun r58=>cl prog nE [r6,r58] ai fun r59=>br (!r59) ( cln prog (callMethod r6 "Error" #[]) cA fun (v64:ByteArray)=>hpv prog (do eqGuard .eql 9 (.tmp 64) (.const (.string nS)) (.string v64) (.string nS); binOp .eql 9 (.string v64) (.string nS):Sem Value) ai fun (v65:Bool)=>br v65 ( cl prog jZ [(.int .i64 0)] gK fun r68=>hpv prog (do eqGuard .eql 206 (.tmp 68) (.const Value.nilIface) r68 Value.nilIface; binOp .eql 206 r68 Value.nilIface:Sem Value) ai fun (v69:Bool)=>K v69) ( K false)) ( K false)) ( K false)) ( K false)) ( K false)) ( K false)) ( K false)) ( K false)) ( K false))
theorem xx {K:kT Bool} {h:Hp} (H:px K h):cl prog lh [] ai K h:=J [77777] func224 H
def py (K:kT Bool):hT:=cl prog lh [] ai fun r1=>K r1
theorem xy {K:kT Bool} {h:Hp} (H:py K h):cl prog li [] ai K h:=J [] func214 H
end
section
open Go Mb
variable {ET:Nat} {EF:Nat × Nat}
abbrev s3_:ByteArray:=⟨#[51]⟩
theorem sp_small3:Sp prog iu [.int .i64 3] cA [] (fun r=>pa_ (r = s3_) []):=by
 intro h st;refine th _ ?_;unfold lY;exact cg rfl (eC s3_ (fun K h=>by kernel_rfl) (aw rfl st))
theorem sp_FormatInt3:Sp prog fE [.int .i64 3,.int .i64 10] cA [] (fun r=>pa_ (r = s3_) []):=by
 intro h st;refine pY _ _ ?_;unfold jj;refine cg rfl (cg rfl (ud sp_small3 st fun r h' hr s2=>?_));exact aw hr s2
theorem sp_Itoa3':Sp prog iK [.int .i64 3] cA [] (fun r=>pa_ (r = s3_) []):=by
 intro h st;refine ua _ ?_;unfold mJ;exact ud sp_FormatInt3 st fun r h' hr s2=>aw hr s2
theorem sp_Itoa3:Sp prog tF [.int .i64 3] cA [] (fun r=>pa_ (r = s3_) []):=by
 intro h st;refine sim_strconv_Itoa _ ?_;unfold sh_strconv_Itoa;exact ud sp_Itoa3' st fun r h' hr s2=>aw hr s2
abbrev t3_:ByteArray:=⟨#[116,114,97,112,32,51]⟩
theorem sp_Error1 (b:Nat) (t:bh) (hc:t.fZa = 3) (ht:t.fWa = Value.nilIface):Sp prog hH [pv (some (b,0))] cA [trB b t] (fun r=>pa_ (r = t3_) [trB b t]):=by
 intro h st;refine rM _ ?_;unfold mY;refine bB rfl (bn ?_);refine aJ t.fZa st (i:=0) rfl rfl rfl ?_;rw [hc];refine ud sp_Itoa3 st fun r h' hr s2=>?_;subst hr;refine eC t3_ (fun K h=>by kernel_rfl) ?_;refine aJ t.fWa s2 (i:=0) rfl rfl rfl ?_;rw [ht];refine eC false (fun K h=>by kernel_rfl) (bB rfl ?_);exact aw rfl s2
theorem sp_Error2 (b e:Nat) (t u:bh) (hc:t.fZa = 3) (ht:t.fWa = cq e) (hd:u.fZa = 3) (hu:u.fWa = Value.nilIface):Sp prog hH [pv (some (b,0))] cA [trB b t,trB e u] (fun r=>pa_ (r = nS) [trB b t,trB e u]):=by
 intro h st;refine rM _ ?_;unfold mY;refine bB rfl (bn ?_);refine aJ t.fZa st (i:=0) rfl rfl rfl ?_;rw [hc];refine ud sp_Itoa3 st fun r h' hr s2=>?_;subst hr;refine eC t3_ (fun K h=>by kernel_rfl) ?_;refine aJ t.fWa s2 (i:=0) rfl rfl rfl ?_;rw [ht];refine eC true (fun K h=>by kernel_rfl) (cg rfl ?_);refine aJ t.fWa s2 (i:=0) rfl rfl rfl ?_;rw [ht];refine cln_en (f:=hH) (vs:=[pv (some (e,0))]) (fun K h=>by kernel_rfl) ?_;refine aW (i:=1) (sp_Error1 e u hd hu) rfl s2 fun r h' hr s3=>?_;subst hr;refine eC ⟨#[58,32,116,114,97,112,32,51]⟩ (fun K h=>by kernel_rfl) ?_;refine eC nS (fun K h=>by kernel_rfl) ?_;exact aw rfl s3
theorem star_ne {b d:Nat} {T T':TypeId} {c c':List Value} {l:List As} {h:Hp} (s:ah (blk b T c::blk d T' c'::l) h):b ≠ d:=by
 obtain ⟨h1,h2,dj,e,a,h3,h4,dj2,e2,a2,_⟩:=s;rintro rfl;have h1b:h1 b = some _:=a;have h3b:h3 b = some _:=a2;rcases dj b with x | x
 ·rw [h1b] at x; cases x
 ·rw [e2,un_left h3b] at x; cases x
theorem sp_Trap_Is (b d:Nat) (t w:bh):Sp prog tD [pv (some (b,0)),cq d] ai [trB b t,trB d w] (fun r=>pa_ (r = (t.fZa == w.fZa)) [trB b t,trB d w]):=by
 intro h st;refine sim_trap_Trap_Is _ _ ?_;unfold sh_trap_Trap_Is;refine eC (some (d,0),true) (fun K h=>by kernel_rfl) (cg rfl (cg rfl (cg rfl (bn (bn ?_)))));refine aJ t.fZa st (i:=0) rfl rfl rfl ?_;refine aJ w.fZa st (i:=1) rfl rfl rfl ?_;exact aw rfl st
theorem sp_Unwrap (b:Nat) (t:bh):Sp prog na [pv (some (b,0))] encV [trB b t] (fun r=>pa_ (r = t.fWa) [trB b t]):=by
 intro h st;refine sim_trap_Trap_Unwrap _ ?_;unfold rN;refine bB rfl (bn ?_);refine aJ t.fWa st (i:=0) rfl rfl rfl ?_;exact aw rfl st
theorem eq_traps {K:Bool->Hp->Prop} {a b n m:Nat} {t u:bh} {l:List As} {h:Hp} (s:ah (trB a t::trB b u::l) h) (k:K false h):hpv prog (do eqGuard .eql 206 (.tmp n) (.tmp m) (cq a) (cq b); binOp .eql 206 (cq a) (cq b):Sem Value) ai K h:=by
 obtain ⟨g1,a1,sub1⟩:=cL (l:=trB a t::trB b u::l) (A:=trB a t) (i:=0) (by rfl) s;obtain ⟨g2,a2,sub2⟩:=cL (l:=trB a t::trB b u::l) (A:=trB b u) (i:=1) (by rfl) s;have q1:h a = some (.cells (bh.C t).toArray ns (0,0)):=sub1 _ _ a1;have q2:h b = some (.cells (bh.C u).toArray ns (0,0)):=sub2 _ _ a2;have hne:=star_ne s;have e:(a == b) = false:=by simpa using hne
 constructor;rw [y6,bF];refine x25 _ _ q1 q2 ?_;rw [e];exact ⟨false,rfl,k⟩
theorem is_step {b d:Nat} {t w:bh} {l:List As} {h:Hp} {K:Bool->Hp->Prop} {Rec:Value->Hp->Prop} (st:ah (trB b t::trB d w::l) h)
  (h1:t.fZa = w.fZa->∀ h',ah (trB b t::trB d w::l) h'->K true h') (h0:t.fZa ≠ w.fZa->t.fWa = .nilIface->∀ h',ah (trB b t::trB d w::l) h'->K false h')
  (h2:t.fZa ≠ w.fZa->∀ e,t.fWa = cq e->∀ h',ah (trB b t::trB d w::l) h'->Rec (cq e) h') (hok:t.fWa = .nilIface\/∃ e,t.fWa = cq e):yg (cq d) true K Rec (cq b) h:=by
 unfold yg;refine cg rfl (eq_traps st (bB rfl ?_));refine eC (cq b,true) (fun K h=>by kernel_rfl) (cg rfl ?_);refine cln_en (f:=tD) (vs:=[pv (some (b,0)),cq d]) (fun K h=>by kernel_rfl) ?_;refine bG [] (rest:=l) (sp_Trap_Is b d t w) st rfl fun r h' s2=>?_;obtain ⟨rfl,s3⟩:=aM.1 s2;by_cases e:t.fZa = w.fZa
 ·exact cg (by simpa using e) (h1 e _ s3)
 ·refine bB (by simpa using e) ?_;unfold sK;refine eC (cq b,true) (fun K h=>by kernel_rfl) (cg rfl ?_);refine cln_en (f:=na) (vs:=[pv (some (b,0))]) (fun K h=>by kernel_rfl) ?_;refine aW (i:=0) (sp_Unwrap b t) rfl s3 fun r h' hr s4=>?_;subst hr;rcases hok with hn | ⟨x,hx⟩
  ·rw [hn];refine eC true (en_00 _) (cg rfl (h0 e hn _ ?_));simpa using s4
  ·rw [hx];refine eC false (en_0 x _) (bB rfl (h2 e x hx _ ?_));simpa using s4
theorem sp_is1 (b d:Nat) (t w:bh) (hc:t.fZa = w.fZa) (hok:t.fWa = .nilIface\/∃ e,t.fWa = cq e):Sp prog nD [cq b,cq d,.bool true] ai [trB b t,trB d w] (fun r=>pa_ (r = true) [trB b t,trB d w]):=by
 intro h st;refine sim_errors_is _ _ _ ?_;unfold xF;refine ⟨fun s h=>s = cq b/\ah [trB b t,trB d w] h,fun _ _=>0,⟨rfl,st⟩,?_⟩;rintro _ h1 ⟨rfl,s1⟩;exact is_step s1 (fun _ h' s2=>aw rfl s2) (fun e=>absurd hc e) (fun e=>absurd hc e) hok
theorem sp_is2 (b e d:Nat) (t u w:bh) (ht:t.fWa = cq e) (hu:u.fWa = .nilIface) (hc:t.fZa ≠ w.fZa) (hd:u.fZa ≠ w.fZa) :
  Sp prog nD [cq b,cq d,.bool true] ai [trB b t,trB e u,trB d w] (fun r=>pa_ (r = false) [trB b t,trB e u,trB d w]):=by
 intro h st;refine sim_errors_is _ _ _ ?_;unfold xF;refine ⟨fun s h=>(s = cq b\/s = cq e)/\ah [trB b t,trB e u,trB d w] h,fun s _=>match s with | .iface _ (.pointer (some p))=>if p.block = b then 1 else 0 | _=>0,⟨.inl rfl,st⟩,?_⟩;have hne:e ≠ b:=fun h=>(star_ne st) h.symm;rintro _ h1 ⟨rfl | rfl,s1⟩
 ·refine is_step (l:=[trB e u]) (aA [0,1] s1 rfl) (fun x=>absurd x hc) (fun _ x=>by rw [ht] at x; cases x) (fun _ x hx h' s2=>?_) (.inr ⟨e,ht⟩);rw [ht] at hx;rw [← hx];exact ⟨⟨.inr rfl,aA [0,1] s2 rfl⟩,by show (if e = b then 1 else 0) < (if b = b then 1 else 0); rw [if_pos rfl,if_neg hne]; exact Nat.one_pos⟩
 ·refine is_step (l:=[trB b t]) (aA [1,1] s1 rfl) (fun x=>absurd x hd) (fun _ _ h' s2=>aw rfl (aA [2,0] s2 rfl)) (fun _ x hx=>by rw [hu] at hx; cases hx) (.inl hu)
theorem sp_Is1 (b d:Nat) (t w:bh) (hc:t.fZa = w.fZa) (hok:t.fWa = .nilIface\/∃ e,t.fWa = cq e):Sp prog nE [cq b,cq d] ai [trB b t,trB d w] (fun r=>pa_ (r = true) [trB b t,trB d w]):=by
 intro h st;refine sim_errors_Is _ _ ?_;unfold xG;refine eC false (en_0 b _) (cg rfl (eC false (en_0 d _) (bB rfl ?_)));refine tV (rtV aI) (fun K h=>x7 d K h) ?_;refine tV true (fun K h=>x13 K h) ?_;refine bG [] (rest:=[]) (sp_is1 b d t w hc hok) st rfl fun r h' s2=>?_;obtain ⟨rfl,s3⟩:=aM.1 s2;exact aw rfl s3
theorem sp_Is2 (b e d:Nat) (t u w:bh) (ht:t.fWa = cq e) (hu:u.fWa = .nilIface) (hc:t.fZa ≠ w.fZa) (hd:u.fZa ≠ w.fZa) :
  Sp prog nE [cq b,cq d] ai [trB b t,trB e u,trB d w] (fun r=>pa_ (r = false) [trB b t,trB e u,trB d w]):=by
 intro h st;refine sim_errors_Is _ _ ?_;unfold xG;refine eC false (en_0 b _) (cg rfl (eC false (en_0 d _) (bB rfl ?_)));refine tV (rtV aI) (fun K h=>x7 d K h) ?_;refine tV true (fun K h=>x13 K h) ?_;refine bG [] (rest:=[]) (sp_is2 b e d t u w ht hu hc hd) st rfl fun r h' s2=>?_;obtain ⟨rfl,s3⟩:=aM.1 s2;exact aw rfl s3
theorem uU {α:Type} {A:α->As} {l:List As} {h:Hp} (s:ah (ex A::l) h):∃ x,ah (A x::l) h:=by
 obtain ⟨h1,h2,d,e,⟨x,a⟩,s2⟩:=s;exact ⟨x,h1,h2,d,e,a,s2⟩
abbrev tr3:bh:=⟨3,-1,⟨0,0,0,0,0⟩,.nilIface⟩
abbrev tr4:bh:=⟨4,-1,⟨0,0,0,0,0⟩,.nilIface⟩
abbrev tr32 (e:Nat):bh:=⟨3,2,⟨1,2,0,0,0⟩,cq e⟩
theorem sp_begun1:Sp prog lh [] ai [(etB ET EF)] (fun r=>pa_ (r = true) [(etB ET EF)]):=by
 intro h st;refine xx ?_;unfold px;refine bG [] (rest:=[(etB ET EF)]) (sp_Of 3 (by decide)) st rfl fun r h1 s1=>?_;obtain ⟨e,x1⟩:=uU s1;obtain ⟨rfl,y1⟩:=aM.1 x1;refine bG [1,0] (rest:=[]) (sp_In 2 ⟨1,2,0,0,0⟩ e tr3) y1 rfl fun r h2 s2=>?_;obtain ⟨b,x2⟩:=uU s2;obtain ⟨rfl,y2⟩:=aM.1 x2;refine aW (i:=1) (sp_First b) rfl y2 fun r h3 hr s3=>?_;subst hr;refine eC false (en_0 b _) (bB rfl (cg rfl (bn ?_)));refine aJ 2 s3 (i:=0) rfl rfl rfl (cg rfl ?_);refine ld_s ⟨1,2,0,0,0⟩ s3 (i:=0) rfl (fun j v hj=>?_) (cg rfl ?_)
 ·rcases j with _ | _ | _ | _ | _ | j <;> first | exact hj | (simp [aa.C] at hj)
 refine aJ 3 s3 (i:=0) rfl rfl rfl (cg rfl ?_);refine bG [1,0] (rest:=[_]) (sp_Code b (tr32 e)) s3 rfl fun r h4 s4=>?_;obtain ⟨rfl,y4⟩:=aM.1 s4;refine cg rfl ?_;refine bG [] (rest:=[]) (sp_Depth2 b e (tr32 e) tr3 rfl rfl) y4 rfl fun r h5 s5=>?_;obtain ⟨rfl,y5⟩:=aM.1 s5;refine cg rfl ?_;refine bG [] (rest:=[_,_,_]) (sp_Of 3 (by decide)) y5 rfl fun r h6 s6=>?_;obtain ⟨d,x6⟩:=uU s6;obtain ⟨rfl,y6⟩:=aM.1 x6;refine bG [2,0] (rest:=[_,_]) (sp_Is1 b d (tr32 e) tr3 rfl (.inr ⟨e,rfl⟩)) y6 rfl fun r h7 s7=>?_;obtain ⟨rfl,y7⟩:=aM.1 s7;refine cg rfl ?_;refine bG [] (rest:=[_,_,_,_]) (sp_Of 4 (by decide)) y7 rfl fun r h8 s8=>?_;obtain ⟨f,x8⟩:=uU s8;obtain ⟨rfl,y8⟩:=aM.1 x8;refine bG [1,3,0] (rest:=[_,_]) (sp_Is2 b e f (tr32 e) tr3 tr4 rfl rfl (show (3:Int) ≠ 4 by decide) (show (3:Int) ≠ 4 by decide)) y8 rfl fun r h9 s9=>?_;obtain ⟨rfl,y9⟩:=aM.1 s9;refine cg rfl ?_;refine cln_en (f:=hH) (vs:=[pv (some (b,0))]) (fun K h=>by kernel_rfl) ?_;refine bG [] (rest:=[_,_,_]) (sp_Error2 b e (tr32 e) tr3 rfl rfl rfl rfl) y9 rfl fun r h10 s10=>?_;obtain ⟨rfl,y10⟩:=aM.1 s10;refine eC true (fun K h=>by kernel_rfl) (cg rfl ?_);refine ud sp_Of0 y10 fun r h11 hr s11=>?_;subst hr;refine eC true (en_00 _) ?_;exact aw rfl (aT (l:=[_,_,_,_]) s11)
end
section
open Go Mb
attribute [local irreducible] bM gR il Val Tx Tu Tn RV Res br nn ix gd ld st nw cl clv dL Lp ct
def sh_cell_New (a0:Int) (K:kT Ptr):hT:=nw qH (nN.C (⟨a0,0⟩:nN)) fun b5=>K (some (b5,0))
theorem sim_cell_New (a0:Int) {K:kT Ptr} {h:Hp} (H:sh_cell_New a0 K h):cl prog tJ [(.int .u64 a0)] oS K h:=J [] func210 H
def sh_cell_Cell_Up (a0:Ptr) (a1:Int) (K:kT (Int × Bool)):hT:=br a0.isNone ( K (0,false)) ( nn a0 fun q9=>ld (q9.1,q9.2 + 1) (cI .i64) fun x11=>st (q9.1,q9.2 + 1) [.int .i64 (i64.wrap (x11 + 1))]<|ld (q9.1,q9.2 + 0) (cI .u64) fun x18=>br (decide (x18 >= a1)) ( ld (q9.1,q9.2 + 0) (cI .u64) fun x24=>K (x24,false)) ( ld (q9.1,q9.2 + 0) (cI .u64) fun x28=>st (q9.1,q9.2 + 0) [.int .u64 (u64.wrap (x28 + 1))]<|ld (q9.1,q9.2 + 0) (cI .u64) fun x35=>K (x35,true)))
theorem sim_cell_Cell_Up (a0:Ptr) (a1:Int) {K:kT (Int × Bool)} {h:Hp} (H:sh_cell_Cell_Up a0 a1 K h):cl prog oK [(pv a0),(.int .u64 a1)] aU K h:=J [] func212 H
def uD (a0:Ptr) (K:kT Int):hT:=br a0.isNone ( K 0) ( nn a0 fun q6=>ld (q6.1,q6.2 + 1) (cI .i64) fun x8=>st (q6.1,q6.2 + 1) [.int .i64 (i64.wrap (x8 + 1))]<|ld (q6.1,q6.2 + 0) (cI .u64) fun x15=>K x15)
theorem sim_cell_Cell_Load (a0:Ptr) {K:kT Int} {h:Hp} (H:uD a0 K h):cl prog lS [(pv a0)] eE K h:=J [] func225 H
def wB (a0:Ptr) (a1:Int) (a2:Int) (K:kT Bool):hT:=br a0.isNone ( K false) ( nn a0 fun q10=>ld (q10.1,q10.2 + 1) (cI .i64) fun x12=>st (q10.1,q10.2 + 1) [.int .i64 (i64.wrap (x12 + 1))]<|ld (q10.1,q10.2 + 0) (cI .u64) fun x19=>br (x19 != a1) ( K false) ( st (q10.1,q10.2 + 0) [.int .u64 a2]<|K true))
theorem sim_cell_Cell_Cas (a0:Ptr) (a1:Int) (a2:Int) {K:kT Bool} {h:Hp} (H:wB a0 a1 a2 K h):cl prog rG [(pv a0),(.int .u64 a1),(.int .u64 a2)] ai K h:=J [] func226 H
end
section
open Go Mb
attribute [local irreducible] bM gR il Val Tx Tu Tn RV Res br nn ix gd ld st nw cl clv dL Lp ct
def sh_ticket_New (K:kT Ptr):hT:=cl prog tJ [(.int .u64 0)] oS fun r1=>cl prog tJ [(.int .u64 0)] oS fun r2=>nw mF (ka.C (⟨r1,r2⟩:ka)) fun b4=>K (some (b4,0))
theorem sim_ticket_New {K:kT Ptr} {h:Hp} (H:sh_ticket_New K h):cl prog xT [] tX K h:=J [] func211 H
def rQ (a0:Ptr) (K:kT Int):hT:=br a0.isNone ( K 0) ( nn a0 fun q9=>ld (q9.1,q9.2 + 0) cP fun x11=>cl prog oK [(pv x11),(.int .u64 18446744073709551615)] aU fun r12=>K (u64.wrap (r12.1 - 1)))
theorem sim_ticket_Lock_Draw (a0:Ptr) {K:kT Int} {h:Hp} (H:rQ a0 K h):cl prog ne [(pv a0)] eE K h:=J [] func213 H
def rO (a0:Ptr) (a1:Int) (K:kT Bool):hT:=br (!a0.isNone) ( nn a0 fun q9=>ld (q9.1,q9.2 + 1) cP fun x11=>cl prog lS [(pv x11)] eE fun r12=>br (r12 == a1) ( ld (q9.1,q9.2 + 0) cP fun x21=>cl prog lS [(pv x21)] eE fun r22=>K (decide (a1 < r22))) ( K false)) ( K false)
theorem sim_ticket_Lock_Turn (a0:Ptr) (a1:Int) {K:kT Bool} {h:Hp} (H:rO a0 a1 K h):cl prog ju [(pv a0),(.int .u64 a1)] ai K h:=J [] func215 H
def rP (a0:Ptr) (a1:Int) (K:kT Bool):hT:=cl prog ju [(pv a0),(.int .u64 a1)] ai fun r7=>br r7 ( nn a0 fun q10=>ld (q10.1,q10.2 + 1) cP fun x12=>cl prog rG [(pv x12),(.int .u64 a1),(.int .u64 (u64.wrap (a1 + 1)))] ai fun r16=>K r16) ( K false)
theorem sim_ticket_Lock_Pass (a0:Ptr) (a1:Int) {K:kT Bool} {h:Hp} (H:rP a0 a1 K h):cl prog nc [(pv a0),(.int .u64 a1)] ai K h:=J [] func216 H
end
section
open Go Mb
def ku (x:Ptr) (c:Int × Int):As:=fun h=>∃ b:Nat,(x = some (b,0))/\ah [blk b qH [.int .u64 c.1,.int .i64 c.2]] h
theorem cell_op {x:Ptr} {c:Int × Int} {l:List As} {h:Hp} (s0:ah (ku x c::l) h):∃ b,x = some (b,0)/\ah (blk b qH [.int .u64 c.1,.int .i64 c.2]::l) h:=by
 obtain ⟨b,hx,st⟩:=op_ s0;exact ⟨b,hx,st⟩
theorem cell_cl {b:Nat} {v n:Int} {l:List As} {h:Hp} (st:ah (blk b qH [.int .u64 v,.int .i64 n]::l) h):ah (ku (some (b,0)) (v,n)::l) h:=cl_ (m:=fun b=>[blk b qH [.int .u64 (v,n).1,.int .i64 (v,n).2]]) b rfl st
namespace Cell
def tick (c:Int × Int):Int × Int:=(c.1,i64.wrap (c.2 + 1))
def cas (c:Int × Int) (o v:Int):Bool × Int × Int:=if c.1 = o then (true,v,(tick c).2) else (false,tick c)
def up (c:Int × Int) (m:Int):(Int × Bool) × Int × Int:=if c.1 >= m then ((c.1,false),tick c) else ((u64.wrap (c.1 + 1),true),(u64.wrap (c.1 + 1),(tick c).2))
end Cell
theorem sp_cell_New (v:Int):Sp prog tJ [.int .u64 v] oS [] (fun r=>ah [ku r (v,0)]):=by
 intro h st;refine sim_cell_New _ ?_;unfold sh_cell_New;exact nP st fun b h' s1=>cell_cl s1
theorem sp_cell_Load (x:Ptr) (c:Int × Int):Sp prog lS [pv x] eE [ku x c] (fun r=>pa_ (r = c.1) [ku x (Cell.tick c)]):=by
 intro h s0;obtain ⟨b,rfl,st⟩:=cell_op s0;refine sim_cell_Cell_Load _ ?_;unfold uD;refine bB rfl (bn ?_);refine aJ c.2 st (i:=0) rfl rfl rfl ?_;refine mX (i:=0) st rfl (le_refl _) fun h2 s2=>?_;refine aJ c.1 s2 (i:=0) rfl rfl rfl ?_;exact aw rfl (cell_cl s2)
theorem sp_cell_Cas (x:Ptr) (c:Int × Int) (o v:Int):Sp prog rG [pv x,.int .u64 o,.int .u64 v] ai [ku x c] (fun r=>pa_ (r = (Cell.cas c o v).1) [ku x (Cell.cas c o v).2]):=by
 intro h s0;obtain ⟨b,rfl,st⟩:=cell_op s0;refine sim_cell_Cell_Cas _ _ _ ?_;unfold wB;refine bB rfl (bn ?_);refine aJ c.2 st (i:=0) rfl rfl rfl ?_;refine mX (i:=0) st rfl (le_refl _) fun h2 s2=>?_;refine aJ c.1 s2 (i:=0) rfl rfl rfl ?_;refine ar (fun k=>?_) (fun k=>?_)
 ·have k':¬ c.1 = o:=by simpa using k
  have e:Cell.cas c o v = (false,Cell.tick c):=if_neg k';rw [e];exact aw rfl (cell_cl s2)
 ·have k':c.1 = o:=by simpa using k
  have e:Cell.cas c o v = (true,v,(Cell.tick c).2):=if_pos k';rw [e];refine mX (i:=0) s2 rfl (show 0 + 0 + 1 <= 2 by decide) fun h3 s3=>?_;exact aw rfl (cell_cl s3)
theorem sp_cell_Up (x:Ptr) (c:Int × Int) (m:Int):Sp prog oK [pv x,.int .u64 m] aU [ku x c] (fun r=>pa_ (r = (Cell.up c m).1) [ku x (Cell.up c m).2]):=by
 intro h s0;obtain ⟨b,rfl,st⟩:=cell_op s0;refine sim_cell_Cell_Up _ _ ?_;unfold sh_cell_Cell_Up;refine bB rfl (bn ?_);refine aJ c.2 st (i:=0) rfl rfl rfl ?_;refine mX (i:=0) st rfl (le_refl _) fun h2 s2=>?_;refine aJ c.1 s2 (i:=0) rfl rfl rfl ?_;refine ar (fun k=>?_) (fun k=>?_)
 ·have k':c.1 >= m:=by simpa using k
  have e:Cell.up c m = ((c.1,false),Cell.tick c):=if_pos k';rw [e];refine aJ c.1 s2 (i:=0) rfl rfl rfl ?_;exact aw rfl (cell_cl s2)
 ·have k':¬ c.1 >= m:=by simpa using k
  have e:Cell.up c m = ((u64.wrap (c.1 + 1),true),(u64.wrap (c.1 + 1),(Cell.tick c).2)):=if_neg k';rw [e];refine aJ c.1 s2 (i:=0) rfl rfl rfl ?_;refine mX (i:=0) s2 rfl (show 0 + 0 + 1 <= 2 by decide) fun h3 s3=>?_;refine aJ (u64.wrap (c.1 + 1)) s3 (i:=0) rfl rfl rfl ?_;exact aw rfl (cell_cl s3)
def vz (x:Ptr) (k:(Int × Int) × (Int × Int)):As:=fun h=>∃ bs:Nat × Ptr × Ptr,(x = some (bs.1,0))/\ah [blk bs.1 mF [pv bs.2.1,pv bs.2.2],ku bs.2.1 k.1,ku bs.2.2 k.2] h
theorem lock_op {x:Ptr} {k:(Int × Int) × (Int × Int)} {l:List As} {h:Hp} (s0:ah (vz x k::l) h):∃ b p q,x = some (b,0)/\ah (blk b mF [pv p,pv q]::ku p k.1::ku q k.2::l) h:=by
 obtain ⟨⟨b,p,q⟩,hx,st⟩:=op_ s0;exact ⟨b,p,q,hx,st⟩
theorem lock_cl {b:Nat} {p q:Ptr} {k1 k2:Int × Int} {l:List As} {h:Hp} (st:ah (blk b mF [pv p,pv q]::ku p k1::ku q k2::l) h):ah (vz (some (b,0)) (k1,k2)::l) h :=
 cl_ (m:=fun bs:Nat × Ptr × Ptr=>[blk bs.1 mF [pv bs.2.1,pv bs.2.2],ku bs.2.1 (k1,k2).1,ku bs.2.2 (k1,k2).2]) (b,p,q) rfl st
namespace Lock
abbrev S:=(Int × Int) × (Int × Int)
def draw (k:S):Int × S:=(u64.wrap ((Cell.up k.1 18446744073709551615).1.1 - 1),((Cell.up k.1 18446744073709551615).2,k.2))
def turn (k:S) (t:Int):Bool × S:=if k.2.1 = t then (decide (t < k.1.1),(Cell.tick k.1,Cell.tick k.2)) else (false,(k.1,Cell.tick k.2))
def pass (k:S) (t:Int):Bool × S:=if (turn k t).1 then ((Cell.cas (turn k t).2.2 t (u64.wrap (t + 1))).1,((turn k t).2.1,(Cell.cas (turn k t).2.2 t (u64.wrap (t + 1))).2)) else (false,(turn k t).2)
end Lock
theorem sp_ticket_New:Sp prog xT [] tX [] (fun r=>ah [vz r ((0,0),(0,0))]):=by
 intro h st;refine sim_ticket_New ?_;unfold sh_ticket_New;refine bG [] (sp_cell_New 0) st rfl fun p h1 s1=>?_;refine bG [] (sp_cell_New 0) (bT s1) rfl fun q h2 s2=>?_;refine nP (bT s2) fun b h3 s3=>?_;exact lock_cl (aA [0,1] s3 rfl)
theorem sp_ticket_Draw (x:Ptr) (k:Lock.S):Sp prog ne [pv x] eE [vz x k] (fun r=>pa_ (r = (Lock.draw k).1) [vz x (Lock.draw k).2]):=by
 intro h s0;obtain ⟨b,p,q,rfl,st⟩:=lock_op s0;refine sim_ticket_Lock_Draw _ ?_;unfold rQ;refine bB rfl (bn ?_);refine aJ p st (i:=0) rfl rfl rfl ?_;refine bG [1] (sp_cell_Up p k.1 _) st rfl fun r h1 s1=>?_;obtain ⟨hr,s2⟩:=aM.1 s1;subst hr;exact aw rfl (lock_cl (aA [1] s2 rfl))
theorem sp_ticket_Turn (x:Ptr) (k:Lock.S) (t:Int):Sp prog ju [pv x,.int .u64 t] ai [vz x k] (fun r=>pa_ (r = (Lock.turn k t).1) [vz x (Lock.turn k t).2]):=by
 intro h s0;obtain ⟨b,p,q,rfl,st⟩:=lock_op s0;refine sim_ticket_Lock_Turn _ _ ?_;unfold rO;refine cg rfl (bn ?_);refine aJ q st (i:=0) rfl rfl rfl ?_;refine bG [2] (sp_cell_Load q k.2) st rfl fun r h1 s1=>?_;obtain ⟨hr,s2⟩:=aM.1 s1;subst hr;refine ar (fun c=>?_) (fun c=>?_)
 ·have c':k.2.1 = t:=by simpa using c
  have e:Lock.turn k t = (decide (t < k.1.1),(Cell.tick k.1,Cell.tick k.2)):=if_pos c';rw [e];refine aJ p s2 (i:=1) rfl rfl rfl ?_;refine bG [2] (sp_cell_Load p k.1) s2 rfl fun r h2 s3=>?_;obtain ⟨hr,s4⟩:=aM.1 s3;subst hr;exact aw rfl (lock_cl (aA [2] s4 rfl))
 ·have c':¬ k.2.1 = t:=by simpa using c
  have e:Lock.turn k t = (false,(k.1,Cell.tick k.2)):=if_neg c';rw [e];exact aw rfl (lock_cl (aA [1,1] s2 rfl))
theorem sp_ticket_Pass (x:Ptr) (k:Lock.S) (t:Int):Sp prog nc [pv x,.int .u64 t] ai [vz x k] (fun r=>pa_ (r = (Lock.pass k t).1) [vz x (Lock.pass k t).2]):=by
 intro h s0;refine sim_ticket_Lock_Pass _ _ ?_;unfold rP;refine bG [0] (sp_ticket_Turn x k t) s0 rfl fun r h1 s1=>?_;obtain ⟨hr,s2⟩:=aM.1 s1;subst hr;refine ar (fun c=>?_) (fun c=>?_)
 ·have e:Lock.pass k t = ((Cell.cas (Lock.turn k t).2.2 t (u64.wrap (t + 1))).1,((Lock.turn k t).2.1,(Cell.cas (Lock.turn k t).2.2 t (u64.wrap (t + 1))).2)):=if_pos c;rw [e];obtain ⟨b,p,q,rfl,st⟩:=lock_op s2;refine bn (aJ q st (i:=0) rfl rfl rfl ?_);refine bG [2] (sp_cell_Cas q _ t _) st rfl fun r h2 s3=>?_;obtain ⟨hr,s4⟩:=aM.1 s3;subst hr;exact aw rfl (lock_cl (aA [1,1] s4 rfl))
 ·have e:Lock.pass k t = (false,(Lock.turn k t).2):=by unfold Lock.pass; rw [c]; rfl
  rw [e];exact aw rfl s2
end
end Go.Proofs.YtjcamacgclipiaaGreatDoor
