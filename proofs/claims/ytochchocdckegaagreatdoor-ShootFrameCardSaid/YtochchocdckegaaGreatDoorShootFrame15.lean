/- Part of the proof of: The law ShootFrame returns true for every input, and leaves its arguments as they were. -/
import Derived.Test.YtochchocdckegaaGreatDoorShootFrame14
set_option linter.all false
set_option maxRecDepth 20000
namespace Go.Proofs.YtochchocdckegaaGreatDoor
open Go.Proofs.Tryz
open Go.IntKind (i64 u64)
open _root_.Bool (and_eq_true)
open _root_.Int (fdiv toNat_natCast)
open _root_.List (append_assoc cons_append eq_nil_of_length_eq_zero getElem?_append_left getElem?_append_right getElem?_eq_getElem getElem_mem length_append length_drop length_pos_iff length_pos_of_mem length_take mem_of_mem_drop mem_of_mem_take nil_append pairwise_append take_append_drop)
open _root_.Nat (div_eq_of_lt le_refl lt_or_ge mul_comm zero_le)
section
open Go Mb
theorem up_get {key:Int->Int} {l:List Int} (h:Up key l) {i j:Nat} {x y:Int} (hij:i <= j) (hx:l[i]? = some x) (hy:l[j]? = some y):key x <= key y:=by
 obtain ⟨hi,rfl⟩:=List.getElem?_eq_some_iff.1 hx;obtain ⟨hj,rfl⟩:=List.getElem?_eq_some_iff.1 hy;rcases lt_or_ge i j with h1 | h1
 ·exact List.pairwise_iff_getElem.1 h i j hi hj h1
 ·have:i = j:=by omega
  subst this; exact Int.le_refl _
theorem mem_get {l:List Int} {x:Int} (h:x ∈ l):∃ i:Nat,i < l.length/\l[i]? = some x:=by
 obtain ⟨i,hi,rfl⟩:=List.getElem_of_mem h;exact ⟨i,hi,getElem?_eq_getElem hi⟩
section
variable (s:Sl) (f:Value) (A:List As) (key:Int->Int) (S:Int->Prop) (hv:CmpOk f A key S)
include hv
theorem merge_l1 (p v q:List Int) (x:Int) (K:Unit->Hp->Prop) (hS:S x/\∀ y ∈ v,S y) (hu:Up key v) (hb:p.length + v.length + q.length + 1 < 2 ^ 60) {h:Hp} (s0:aB (vI s (p++(x::v++q))::A) h)
  (k:∀ m' h',m'.Perm (x::v)->Up key m'->aB (vI s (p++(m'++q))::A) h'->K () h') :
  Lp (eZ s p.length f K) (((p.length + 1:Nat):Int),((p.length + 1 + v.length:Nat):Int)) h:=by
 refine Lp.intro (fun (t:Int × Int) h=>∃ i j:Nat,t = (((p.length + 1 + i:Nat):Int),((p.length + 1 + j:Nat):Int))/\i <= j/\j <= v.length/\(∀ (t:Nat) y,t < i->v[t]? = some y->key y < key x)/\(∀ (t:Nat) y,j <= t->v[t]? = some y->key x <= key y)/\aB (vI s (p++(x::v++q))::A) h) (fun (t:Int × Int) _=>t.2.toNat - t.1.toNat)
  ⟨0,v.length,rfl,zero_le _,le_refl _,fun t y h=>absurd h (Nat.not_lt_zero t),fun t y h1 h2=>by have:=(List.getElem?_eq_some_iff.1 h2).1; omega,s0⟩ ?_
 rintro t h1 ⟨i,j,rfl,hij,hj,hlo,hhi,s1⟩;unfold eZ;simp only;have hh:i64.wrap (fdiv (u64.wrap (i64.wrap (((p.length + 1 + i:Nat):Int) + ((p.length + 1 + j:Nat):Int)))) (2 ^ (min (Int.toNat 1) (IntKind.bits .u64)))) = ((p.length + 1 + (i + j) / 2:Nat):Int):=by
  rw [mid_eq _ _ (by omega)]; omega
 rw [hh];refine aY (fun c=>?_) (fun c=>?_)
 ·have hlt:i < j:=by have:=of_decide_eq_true c; omega
  obtain ⟨m,hm⟩:∃ m,m = (i + j) / 2:=⟨_,rfl⟩
  rw [← hm];have hmv:m < v.length:=by omega
  have g1:(p++(x::v++q))[p.length + 1 + m]? = some v[m]:=by
   rw [getElem?_append_right (by omega),show p.length + 1 + m - p.length = m + 1 by omega,cons_append,List.getElem?_cons_succ,getElem?_append_left hmv,getElem?_eq_getElem hmv]
  have g2:(p++(x::v++q))[p.length]? = some x:=by
   rw [getElem?_append_right (by omega),show p.length - p.length = 0 by omega]; rfl
  have l1:=(List.getElem?_eq_some_iff.1 g1).1;refine dk s1 (j:=0) rfl (by omega) (by omega) fun q1 hq1=>?_;refine dk s1 (j:=0) rfl (by omega) (by omega) fun q2 hq2=>?_;refine dD (j:=0) (i:=p.length + 1 + m) (k:=0) v[m] (ck _) s1 rfl hq1 (by rw [toNat_natCast]; rfl) g1 (by simp) ?_;refine dD (j:=0) (i:=p.length) (k:=0) x (ck _) s1 rfl hq2 (by rw [toNat_natCast]; rfl) g2 (by simp) ?_;refine clv_t (hv v[m] x (hS.2 _ (getElem_mem hmv)) hS.1) s1 fun r h3 s3=>?_;obtain ⟨hr,s4⟩:=bt.1 s3;have s5:=wA s4;refine aY (fun k3=>?_) (fun k3=>?_)
  ·have k3':=hr.1 (of_decide_eq_true k3);have hw:i64.wrap (((p.length + 1 + m:Nat):Int) + 1) = ((p.length + 1 + (m + 1):Nat):Int):=by rw [bm (by omega) (by omega)]; omega
   rw [hw];refine ⟨⟨m + 1,j,rfl,by omega,hj,fun t y h4 h5=>?_,hhi,s5⟩,by simp only [toNat_natCast]; omega⟩;have:=up_get hu (show t <= m by omega) h5 (getElem?_eq_getElem hmv);omega
  ·have k3':key x <= key v[m]:=by
    have:¬ key v[m] < key x:=fun hh=>by have:=hr.2 hh; simp at k3; omega
    omega
   refine ⟨⟨i,m,rfl,by omega,by omega,hlo,fun t y h4 h5=>?_,s5⟩,by simp only [toNat_natCast]; omega⟩;have:=up_get hu h4 (getElem?_eq_getElem hmv) h5;omega
 ·have he:i = j:=by have:=of_decide_eq_false c; omega
  subst he;have fin:∀ (h':Hp),aB (vI s (p++((v.take i++x::v.drop i)++q))::A) h'->K () h':=by
   intro h' s';refine k _ h' ?_ ?_ s'
   ·have:=List.perm_middle (a:=x) (l₁:=v.take i) (l₂:=v.drop i);rw [take_append_drop] at this; exact this
   ·refine up_ins (by rw [take_append_drop]; exact hu) (fun y hy=>?_) (fun y hy=>?_)
    ·obtain ⟨t,h4,h5⟩:=mem_get hy;rw [length_take] at h4;rw [List.getElem?_take_of_lt (by omega)] at h5;exact Int.le_of_lt (hlo t y (by omega) h5)
    ·obtain ⟨t,h4,h5⟩:=mem_get hy;rw [List.getElem?_drop] at h5;exact hhi (i + t) y (by omega) h5
  refine Lp.intro (fun (t:Int) h=>∃ m:Nat,t = ((p.length + m:Nat):Int)/\m <= i/\aB (vI s (p++((v.take m++x::v.drop m)++q))::A) h) (fun (t:Int) _=>p.length + i - t.toNat) ⟨0,by simp,zero_le _,by simpa using s1⟩ ?_;rintro t h2 ⟨m,rfl,hm,s2⟩;unfold gF;simp only;have hw0:i64.wrap (((p.length + 1 + i:Nat):Int) - 1) = ((p.length + i:Nat):Int):=by rw [bm (by omega) (by omega)]; omega
  have hw1:i64.wrap (((p.length + m:Nat):Int) + 1) = ((p.length + m + 1:Nat):Int):=by rw [bm (by omega) (by omega)]; omega
  rw [hw0,hw1];refine aY (fun c2=>?_) (fun c2=>?_)
  ·have hlt:m < i:=by have:=of_decide_eq_true c2; omega
   have hmv:m < v.length:=by omega
   have hd:v.drop m = v[m]::v.drop (m + 1):=List.drop_eq_getElem_cons hmv;rw [hd] at s2;have hlt2:(v.take m).length = m:=by rw [length_take]; omega
   have d1:p++((v.take m++x::v[m]::v.drop (m + 1))++q) = (p++v.take m)++x::v[m]::(v.drop (m + 1)++q):=by simp only [append_assoc,cons_append,nil_append]
   rw [d1] at s2;have hL:p.length + m = (p++v.take m).length:=by rw [length_append,hlt2]
   rw [hL];have hsl:=(cj (j:=0) s2 rfl).1;have hlen:((p++v.take m)++x::v[m]::(v.drop (m + 1)++q)).length = (p++v.take m).length + 2 + (v.drop (m + 1)++q).length:=by simp; omega
   refine dk s2 (j:=0) rfl (by omega) (by omega) fun q1 hq1=>?_;refine dk s2 (j:=0) rfl (by omega) (by omega) fun q2 hq2=>?_;refine dD (j:=0) (i:=(p++v.take m).length + 1) (k:=0) v[m] (ck _) s2 rfl hq1 (by rw [toNat_natCast]; rfl) ur (by simp) ?_;refine dD (j:=0) (i:=(p++v.take m).length) (k:=0) x (ck _) s2 rfl hq2 (by rw [toNat_natCast]; rfl) pV (by simp) ?_;refine uJ (j:=0) (i:=(p++v.take m).length) (k:=0) v[m] (ck _) s2 rfl hq2 (by rw [toNat_natCast]; rfl) pV (by simp) rfl fun h6 s6=>?_;rw [mid_set] at s6;refine uJ (j:=0) (i:=(p++v.take m).length + 1) (k:=0) x (ck _) s6 rfl hq1 (by rw [toNat_natCast]; rfl) ur (by simp) rfl fun h7 s7=>?_;have s7:aB (vI s (((p++v.take m)++v[m]::v[m]::(v.drop (m + 1)++q)).set ((p++v.take m).length + 1) x)::A) h7:=s7;rw [mid_set1] at s7;refine ⟨⟨m + 1,by rw [← hL]; rfl,by omega,?_⟩,by rw [← hL]; simp only [toNat_natCast]; omega⟩;have ht:v.take (m + 1) = v.take m++[v[m]]:=by rw [List.take_append_getElem]
   rw [ht];have d2:p++((v.take m++[v[m]]++x::v.drop (m + 1))++q) = (p++v.take m)++v[m]::x::(v.drop (m + 1)++q):=by simp only [append_assoc,cons_append,nil_append]
   rw [d2]; exact s7
  ·have he:m = i:=by have:=of_decide_eq_false c2; omega
   subst he;exact fin h2 s2
theorem merge_l3 (p u q:List Int) (x:Int) (K:Unit->Hp->Prop) (hS:S x/\∀ y ∈ u,S y) (hu:Up key u) (hb:p.length + u.length + q.length + 1 < 2 ^ 60) {h:Hp} (s0:aB (vI s (p++(u++x::q))::A) h)
  (k:∀ m' h',m'.Perm (u++[x])->Up key m'->aB (vI s (p++(m'++q))::A) h'->K () h') :
  Lp (eY s ((p.length + u.length:Nat):Int) f K) (((p.length:Nat):Int),((p.length + u.length:Nat):Int)) h:=by
 refine Lp.intro (fun (t:Int × Int) h=>∃ i j:Nat,t = (((p.length + i:Nat):Int),((p.length + j:Nat):Int))/\i <= j/\j <= u.length/\(∀ (t:Nat) y,t < i->u[t]? = some y->key y <= key x)/\(∀ (t:Nat) y,j <= t->u[t]? = some y->key x < key y)/\aB (vI s (p++(u++x::q))::A) h) (fun (t:Int × Int) _=>t.2.toNat - t.1.toNat)
  ⟨0,u.length,by simp,zero_le _,le_refl _,fun t y h=>absurd h (Nat.not_lt_zero t),fun t y h1 h2=>by have:=(List.getElem?_eq_some_iff.1 h2).1; omega,s0⟩ ?_
 rintro t h1 ⟨i,j,rfl,hij,hj,hlo,hhi,s1⟩;unfold eY;simp only;have hh:i64.wrap (fdiv (u64.wrap (i64.wrap (((p.length + i:Nat):Int) + ((p.length + j:Nat):Int)))) (2 ^ (min (Int.toNat 1) (IntKind.bits .u64)))) = ((p.length + (i + j) / 2:Nat):Int):=by
  rw [mid_eq _ _ (by omega)]; omega
 rw [hh];refine aY (fun c=>?_) (fun c=>?_)
 ·have hlt:i < j:=by have:=of_decide_eq_true c; omega
  obtain ⟨m,hm⟩:∃ m,m = (i + j) / 2:=⟨_,rfl⟩
  rw [← hm];have hmv:m < u.length:=by omega
  have g1:(p++(u++x::q))[p.length + m]? = some u[m]:=by
   rw [getElem?_append_right (by omega),show p.length + m - p.length = m by omega,getElem?_append_left hmv,getElem?_eq_getElem hmv]
  have g2:(p++(u++x::q))[p.length + u.length]? = some x:=by
   rw [getElem?_append_right (by omega),show p.length + u.length - p.length = u.length by omega]; exact pV
  have l1:=(List.getElem?_eq_some_iff.1 g2).1;refine dk s1 (j:=0) rfl (by omega) (by omega) fun q1 hq1=>?_;refine dk s1 (j:=0) rfl (by omega) (by omega) fun q2 hq2=>?_;refine dD (j:=0) (i:=p.length + u.length) (k:=0) x (ck _) s1 rfl hq1 (by rw [toNat_natCast]; rfl) g2 (by simp) ?_;refine dD (j:=0) (i:=p.length + m) (k:=0) u[m] (ck _) s1 rfl hq2 (by rw [toNat_natCast]; rfl) g1 (by simp) ?_;refine clv_t (hv x u[m] hS.1 (hS.2 _ (getElem_mem hmv))) s1 fun r h3 s3=>?_;obtain ⟨hr,s4⟩:=bt.1 s3;have s5:=wA s4;refine aY (fun k3=>?_) (fun k3=>?_)
  ·have k3':key u[m] <= key x:=by
    have:¬ key x < key u[m]:=fun hh=>by have:=hr.2 hh; simp at k3; omega
    omega
   have hw:i64.wrap (((p.length + m:Nat):Int) + 1) = ((p.length + (m + 1):Nat):Int):=by rw [bm (by omega) (by omega)]; omega
   rw [hw];refine ⟨⟨m + 1,j,rfl,by omega,hj,fun t y h4 h5=>?_,hhi,s5⟩,by simp only [toNat_natCast]; omega⟩;have:=up_get hu (show t <= m by omega) h5 (getElem?_eq_getElem hmv);omega
  ·have k3':key x < key u[m]:=hr.1 (by simpa using k3);refine ⟨⟨i,m,rfl,by omega,by omega,hlo,fun t y h4 h5=>?_,s5⟩,by simp only [toNat_natCast]; omega⟩;have:=up_get hu h4 (getElem?_eq_getElem hmv) h5;omega
 ·have he:i = j:=by have:=of_decide_eq_false c; omega
  subst he;have fin:∀ (h':Hp),aB (vI s (p++((u.take i++x::u.drop i)++q))::A) h'->K () h':=by
   intro h' s';refine k _ h' ?_ ?_ s'
   ·have h4:=List.perm_middle (a:=x) (l₁:=u.take i) (l₂:=u.drop i);rw [take_append_drop] at h4;exact h4.trans (List.perm_append_comm (l₁:=[x]) (l₂:=u))
   ·refine up_ins (by rw [take_append_drop]; exact hu) (fun y hy=>?_) (fun y hy=>?_)
    ·obtain ⟨t,h4,h5⟩:=mem_get hy;rw [length_take] at h4;rw [List.getElem?_take_of_lt (by omega)] at h5;exact hlo t y (by omega) h5
    ·obtain ⟨t,h4,h5⟩:=mem_get hy;rw [List.getElem?_drop] at h5;exact Int.le_of_lt (hhi (i + t) y (by omega) h5)
  refine Lp.intro (fun (t:Int) h=>∃ m:Nat,t = ((p.length + m:Nat):Int)/\i <= m/\m <= u.length/\aB (vI s (p++((u.take m++x::u.drop m)++q))::A) h) (fun (t:Int) _=>t.toNat - p.length) ⟨u.length,rfl,hj,le_refl _,by simpa using s1⟩ ?_;rintro t h2 ⟨m,rfl,hm,hmu,s2⟩;unfold gE;simp only;refine aY (fun c2=>?_) (fun c2=>?_)
  ·have hlt:i < m:=by have:=of_decide_eq_true c2; omega
   obtain ⟨m,rfl⟩:∃ m',m = m' + 1:=⟨m - 1,by omega⟩
   have hw1:i64.wrap (((p.length + (m + 1):Nat):Int) - 1) = ((p.length + m:Nat):Int):=by rw [bm (by omega) (by omega)]; omega
   rw [hw1];have hmv:m < u.length:=by omega
   have ht:u.take (m + 1) = u.take m++[u[m]]:=by rw [List.take_append_getElem]
   rw [ht] at s2;have hlt2:(u.take m).length = m:=by rw [length_take]; omega
   have d1:p++((u.take m++[u[m]]++x::u.drop (m + 1))++q) = (p++u.take m)++u[m]::x::(u.drop (m + 1)++q):=by simp only [append_assoc,cons_append,nil_append]
   rw [d1] at s2;have hL:p.length + m = (p++u.take m).length:=by rw [length_append,hlt2]
   have hL1:p.length + (m + 1) = (p++u.take m).length + 1:=by omega
   rw [hL,hL1];have hlen:((p++u.take m)++u[m]::x::(u.drop (m + 1)++q)).length = (p++u.take m).length + 2 + (u.drop (m + 1)++q).length:=by simp; omega
   refine dk s2 (j:=0) rfl (by omega) (by omega) fun q1 hq1=>?_;refine dk s2 (j:=0) rfl (by omega) (by omega) fun q2 hq2=>?_;refine dD (j:=0) (i:=(p++u.take m).length) (k:=0) u[m] (ck _) s2 rfl hq1 (by rw [toNat_natCast]; rfl) pV (by simp) ?_;refine dD (j:=0) (i:=(p++u.take m).length + 1) (k:=0) x (ck _) s2 rfl hq2 (by rw [toNat_natCast]; rfl) ur (by simp) ?_;refine uJ (j:=0) (i:=(p++u.take m).length + 1) (k:=0) u[m] (ck _) s2 rfl hq2 (by rw [toNat_natCast]; rfl) ur (by simp) rfl fun h6 s6=>?_;rw [mid_set1] at s6;refine uJ (j:=0) (i:=(p++u.take m).length) (k:=0) x (ck _) s6 rfl hq1 (by rw [toNat_natCast]; rfl) pV (by simp) rfl fun h7 s7=>?_;have s7:aB (vI s (((p++u.take m)++u[m]::u[m]::(u.drop (m + 1)++q)).set (p++u.take m).length x)::A) h7:=s7;rw [mid_set] at s7;refine ⟨⟨m,by rw [← hL],by omega,by omega,?_⟩,by rw [← hL]; simp only [toNat_natCast]; omega⟩;have hd:u.drop m = u[m]::u.drop (m + 1):=List.drop_eq_getElem_cons hmv;rw [hd];have d2:p++((u.take m++x::u[m]::u.drop (m + 1))++q) = (p++u.take m)++x::u[m]::(u.drop (m + 1)++q):=by simp only [append_assoc,cons_append,nil_append]
   rw [d2]; exact s7
  ·have he:m = i:=by have:=of_decide_eq_false c2; omega
   subst he;exact fin h2 s2
end
end
section
open Go Mb
def Wit (u v:List Int) (a b:Nat) (R:Int->Int->Prop):Prop:=∃ x y,u[a]? = some x/\v[b]? = some y/\R x y
section
variable (s:Sl) (f:Value) (A:List As) (key:Int->Int) (S:Int->Prop) (hv:CmpOk f A key S)
include hv
def Ih (N:Nat):Prop:=∀ (p u v q:List Int) (a m b:Int) (h':Hp) (K:Unit->Hp->Prop),u.length + v.length <= N->u ≠ []->v ≠ []->(∀ y ∈ u,S y)->(∀ y ∈ v,S y)->Up key u->Up key v->p.length + u.length + v.length + q.length < 2 ^ 58->a = ((p.length:Nat):Int)->m = ((p.length + u.length:Nat):Int)->b = ((p.length + u.length + v.length:Nat):Int)->aB (vI s (p++(u++(v++q)))::A) h' ->
    (∀ m' h',m'.Perm (u++v)->Up key m'->aB (vI s (p++(m'++q))::A) h'->K () h')->cl prog cx [sv s,.int .i64 a,.int .i64 m,.int .i64 b,f] R_ K h'
omit hv in
theorem ih_of {N:Nat} (H:Ih s f A key S N):∀ (p u v q:List Int) (a m b:Int) (h':Hp) (K:Unit->Hp->Prop),u.length + v.length <= N->u ≠ []->v ≠ []->(∀ y ∈ u,S y)->(∀ y ∈ v,S y)->Up key u->Up key v->p.length + u.length + v.length + q.length < 2 ^ 58->a = ((p.length:Nat):Int)->m = ((p.length + u.length:Nat):Int)->b = ((p.length + u.length + v.length:Nat):Int)->aB (vI s (p++(u++(v++q)))::A) h' ->
    (∀ m' h',m'.Perm (u++v)->Up key m'->aB (vI s (p++(m'++q))::A) h'->K () h')->cl prog cx [sv s,.int .i64 a,.int .i64 m,.int .i64 b,f] R_ K h':=H
abbrev Tgt (p q u1 u2 v1 v2:List Int):Unit->Hp->Prop:=fun _ h=>∃ m',(m'.Perm ((u1++u2)++(v1++v2))/\Up key m')/\aB (vI s (p++(m'++q))::A) h
structure Cut4 (N:Nat) (p q u1 u2 v1 v2:List Int) (i M B mid:Nat):Prop where
 l1:p.length + u1.length = i
 l2:i + u2.length = M
 l3:i + v1.length = mid
 l4:M + v1.length + v2.length = B
 lm:mid = (p.length + B) / 2
 ln:u1.length + u2.length + (v1.length + v2.length) <= N + 1
 lu:2 <= u1.length + u2.length
 lv:2 <= v1.length + v2.length
 lb:B + q.length < 2 ^ 58
 s1:∀ y ∈ u1,S y
 s2:∀ y ∈ u2,S y
 s3:∀ y ∈ v1,S y
 s4:∀ y ∈ v2,S y
 u:Up key (u1++u2)
 v:Up key (v1++v2)
 h12:∀ x ∈ u1,∀ y ∈ v2,key x <= key y
 h21:∀ x ∈ v1,∀ y ∈ u2,key x <= key y
variable {N:Nat} {p q u1 u2 v1 v2:List Int} {i M B mid:Nat}
omit hv in
theorem merge_j3 (C:Cut4 key S N p q u1 u2 v1 v2 i M B mid) (IH:Ih s f A key S N) (w1:List Int) (h3:Hp) (p1:w1.Perm (u1++v1)) (o1:Up key w1) (s3:aB (vI s (p++(w1++(u2++(v2++q))))::A) h3) :
  dM s (p.length:Int) (M:Int) (B:Int) f (Tgt s A key p q u1 u2 v1 v2) ((i:Int),(i:Int)) () h3:=by
 have IH:=ih_of s f A key S IH;obtain ⟨l1,l2,l3,l4,lm,ln,lu,lv,lb,hS1,hS2,hS3,hS4,hU1,hV1,h12,h21⟩:=C;have lw:=p1.length_eq;rw [length_append] at lw;unfold dM;simp only;have hhm':i64.wrap (fdiv (u64.wrap (i64.wrap (((p.length:Nat):Int) + (B:Int)))) (2 ^ (min (Int.toNat 1) (IntKind.bits .u64)))) = ((mid:Nat):Int):=by rw [mid_eq _ _ (by omega),lm]
 have wn':i64.wrap ((mid:Int) + (M:Int)) = ((mid + M:Nat):Int):=by rw [bm (by omega) (by omega)]; omega
 have we':i64.wrap (((mid + M:Nat):Int) - (i:Int)) = ((mid + M - i:Nat):Int):=by rw [bm (by omega) (by omega)]; omega
 rw [hhm',wn',we'];clear hhm' wn' we';have done:∀ (w2:List Int) (h':Hp),w2.Perm (u2++v2)->Up key w2->aB (vI s (p++(w1++(w2++q)))::A) h'->Tgt s A key p q u1 u2 v1 v2 () h':=by
  intro w2 h4 p2 o2 s4;exact ⟨w1++w2,⟨perm_join p1 p2,up_join hU1 hV1 h12 h21 p1 p2 o1 o2⟩,by rw [append_assoc]; exact s4⟩
 refine aY (fun c3=>?_) (fun c3=>?_)
 ·rw [and_eq_true,decide_eq_true_eq,decide_eq_true_eq] at c3;have e2:0 < u2.length:=by omega
  have e4:0 < v2.length:=by omega
  have epw:(p++w1).length = mid:=by rw [length_append]; omega
  refine IH (p++w1) u2 v2 q _ _ _ _ _ (by omega) (length_pos_iff.1 e2) (length_pos_iff.1 e4) hS2 hS4 (pairwise_append.1 hU1).2.1 (pairwise_append.1 hV1).2.1 (by omega) (by rw [epw]) (by rw [epw]; omega) (by rw [epw]; omega) (by rw [append_assoc]; exact s3) fun w2 h4 p2 o2 s4=>?_;exact done w2 h4 p2 o2 (by rw [append_assoc] at s4; exact s4)
 ·have hor:u2 = []\/v2 = []:=by
   rw [Bool.and_eq_false_iff,decide_eq_false_iff_not,decide_eq_false_iff_not] at c3;rcases c3 with h | h
   ·exact .inl (eq_nil_of_length_eq_zero (by omega))
   ·exact .inr (eq_nil_of_length_eq_zero (by omega))
  refine done (u2++v2) h3 (.refl _) ?_ (by rw [append_assoc u2 v2 q]; exact s3);rcases hor with e | e
  ·rw [e]; simpa using (pairwise_append.1 hV1).2.1
  ·rw [e]; simpa using (pairwise_append.1 hU1).2.1
omit hv in
theorem merge_j2 (C:Cut4 key S N p q u1 u2 v1 v2 i M B mid) (IH:Ih s f A key S N) (h3:Hp) (s3:aB (vI s (p++(u1++(v1++(u2++(v2++q)))))::A) h3) :
  bV s (p.length:Int) (M:Int) (B:Int) f (Tgt s A key p q u1 u2 v1 v2) ((i:Int),(i:Int)) () h3:=by
 have go3:=merge_j3 s f A key S C IH;have IH:=ih_of s f A key S IH;obtain ⟨l1,l2,l3,l4,lm,ln,lu,lv,lb,hS1,hS2,hS3,hS4,hU1,hV1,h12,h21⟩:=C;unfold bV;simp only;have hhm':i64.wrap (fdiv (u64.wrap (i64.wrap (((p.length:Nat):Int) + (B:Int)))) (2 ^ (min (Int.toNat 1) (IntKind.bits .u64)))) = ((mid:Nat):Int):=by rw [mid_eq _ _ (by omega),lm]
 rw [hhm'];clear hhm';refine aY (fun c3=>?_) (fun c3=>?_)
 ·rw [and_eq_true,decide_eq_true_eq,decide_eq_true_eq] at c3;have e2:0 < u1.length:=by omega
  have e4:0 < v1.length:=by omega
  refine IH p u1 v1 (u2++(v2++q)) _ _ _ _ _ (by omega) (length_pos_iff.1 e2) (length_pos_iff.1 e4) hS1 hS3 (pairwise_append.1 hU1).1 (pairwise_append.1 hV1).1 (by rw [length_append,length_append]; omega) rfl (by omega) (by omega) s3 fun w1 h4 p1 o1 s4=>?_;exact go3 w1 h4 p1 o1 s4
 ·have hor:u1 = []\/v1 = []:=by
   rw [Bool.and_eq_false_iff,decide_eq_false_iff_not,decide_eq_false_iff_not] at c3;rcases c3 with h | h
   ·exact .inl (eq_nil_of_length_eq_zero (by omega))
   ·exact .inr (eq_nil_of_length_eq_zero (by omega))
  refine go3 (u1++v1) h3 (.refl _) ?_ (by rw [append_assoc u1 v1]; exact s3);rcases hor with e | e
  ·rw [e]; simpa using (pairwise_append.1 hV1).1
  ·rw [e]; simpa using (pairwise_append.1 hU1).1
omit hv in
theorem merge_j1 (C:Cut4 key S N p q u1 u2 v1 v2 i M B mid) (IH:Ih s f A key S N) (h1:Hp) (s2:aB (vI s (p++((u1++u2)++((v1++v2)++q)))::A) h1) :
  br ((decide ((i:Int) < (M:Int))) && (decide ((M:Int) < ((mid + M - i:Nat):Int)))) (
  cl prog dI [(sv s),(.int .i64 (i:Int)),(.int .i64 (M:Int)),(.int .i64 ((mid + M - i:Nat):Int)),f] R_ fun (_:Unit) =>
  bV s (p.length:Int) (M:Int) (B:Int) f (Tgt s A key p q u1 u2 v1 v2) ((i:Int),(i:Int)) ()) (
  bV s (p.length:Int) (M:Int) (B:Int) f (Tgt s A key p q u1 u2 v1 v2) ((i:Int),(i:Int)) ()) h1:=by
 have go2:=merge_j2 s f A key S C IH;obtain ⟨l1,l2,l3,l4,lm,ln,lu,lv,lb,_,_,_,_,_,_,_,_⟩:=C;refine aY (fun c3=>?_) (fun c3=>?_)
 ·rw [and_eq_true,decide_eq_true_eq,decide_eq_true_eq] at c3;have lpu:(p++u1).length = i:=by rw [length_append]; omega
  have e2:0 < u2.length:=by omega
  have e4:0 < v1.length:=by omega
  have a1:((i:Nat):Int) = (((p++u1).length:Nat):Int):=by rw [lpu]
  have a2:((M:Nat):Int) = (((p++u1).length + u2.length:Nat):Int):=by rw [lpu]; omega
  have a3:((mid + M - i:Nat):Int) = (((p++u1).length + u2.length + v1.length:Nat):Int):=by rw [lpu]; omega
  have cr:cl prog dI [sv s,.int .i64 (((p++u1).length:Nat):Int),.int .i64 (((p++u1).length + u2.length:Nat):Int),.int .i64 (((p++u1).length + u2.length + v1.length:Nat):Int),f] R_ (fun _=>bV s (p.length:Int) (M:Int) (B:Int) f (Tgt s A key p q u1 u2 v1 v2) ((i:Int),(i:Int)) ()) h1:=by
   refine (sp_rotate s f A (p++u1) u2 v1 (v2++q) (length_pos_iff.1 e2) (length_pos_iff.1 e4) (by rw [lpu,length_append]; omega) h1 (by simpa using s2)).mono ?_;rintro w h'' ⟨r,e,s4⟩;exact ⟨r,e,go2 h'' (by simpa using s4)⟩
  rw [← a1,← a2,← a3] at cr;exact cr
 ·have hor:u2 = []\/v1 = []:=by
   rw [Bool.and_eq_false_iff,decide_eq_false_iff_not,decide_eq_false_iff_not] at c3;rcases c3 with h | h
   ·exact .inl (eq_nil_of_length_eq_zero (by omega))
   ·exact .inr (eq_nil_of_length_eq_zero (by omega))
  refine go2 h1 ?_;rcases hor with e | e
  ·rw [e] at s2 ⊢; simpa using s2
  ·rw [e] at s2 ⊢; simpa using s2
omit hv in
theorem merge_exit (p u v q:List Int) (hN:u.length + v.length <= N + 1) (hSu:∀ y ∈ u,S y) (hSv:∀ y ∈ v,S y) (hUu:Up key u) (hUv:Up key v) (hb:p.length + u.length + v.length + q.length < 2 ^ 58) (hu2:2 <= u.length) (hv2:2 <= v.length) (hmid:mid = (p.length + (p.length + u.length + v.length)) / 2) (IH:Ih s f A key S N)
  (lo hi:Nat) (hlo:p.length <= lo) (hhi:hi <= p.length + u.length) (hhm2:hi <= mid) (hn2:mid + (p.length + u.length) - lo <= p.length + u.length + v.length)
  (hlo2:lo = p.length\/mid + (p.length + u.length) - lo = p.length + u.length + v.length) (hhi2:hi = p.length + u.length\/hi = mid) (h1:Hp) (hi0:lo <= i) (hj0:i <= hi)
  (hI:i = lo\/Wit u v (i - 1 - p.length) (mid - i) fun x y=>key x <= key y) (hJ:i = hi\/Wit u v (i - p.length) (mid - 1 - i) fun x y=>key y < key x) (s1:aB (vI s (p++(u++(v++q)))::A) h1) :
  br ((decide ((i:Int) < ((p.length + u.length:Nat):Int))) && (decide (((p.length + u.length:Nat):Int) < ((mid + (p.length + u.length) - i:Nat):Int)))) (
  cl prog dI [(sv s),(.int .i64 (i:Int)),(.int .i64 ((p.length + u.length:Nat):Int)),(.int .i64 ((mid + (p.length + u.length) - i:Nat):Int)),f] R_ fun (_:Unit) =>
  bV s (p.length:Int) ((p.length + u.length:Nat):Int) ((p.length + u.length + v.length:Nat):Int) f (fun _ h=>∃ m',(m'.Perm (u++v)/\Up key m')/\aB (vI s (p++(m'++q))::A) h) ((i:Int),(i:Int)) ()) (
  bV s (p.length:Int) ((p.length + u.length:Nat):Int) ((p.length + u.length + v.length:Nat):Int) f (fun _ h=>∃ m',(m'.Perm (u++v)/\Up key m')/\aB (vI s (p++(m'++q))::A) h) ((i:Int),(i:Int)) ()) h1:=by
 have hsu:u = u.take (i - p.length)++u.drop (i - p.length):=(take_append_drop _ _).symm;have hsv:v = v.take (mid - i)++v.drop (mid - i):=(take_append_drop _ _).symm;have l1:(u.take (i - p.length)).length = i - p.length:=by rw [length_take]; omega
 have l2:(u.drop (i - p.length)).length = p.length + u.length - i:=by rw [length_drop]; omega
 have l3:(v.take (mid - i)).length = mid - i:=by rw [length_take]; omega
 have l4:(v.drop (mid - i)).length = v.length - (mid - i):=length_drop;have h12:∀ x ∈ u.take (i - p.length),∀ y ∈ v.drop (mid - i),key x <= key y:=by
  intro x hx y hy;rcases hI with e | ⟨a,b,e1,e2,e3⟩
  ·exfalso
   have:=length_pos_of_mem hx;have:=length_pos_of_mem hy;omega
  ·have hil:0 < i - p.length:=by have:=length_pos_of_mem hx; omega
   have f1:=up_take hUu e1 (x:=x) (by rw [show i - 1 - p.length + 1 = i - p.length by omega]; exact hx);have f2:=up_drop hUv e2 hy;omega
 have h21:∀ x ∈ v.take (mid - i),∀ y ∈ u.drop (i - p.length),key x <= key y:=by
  intro x hx y hy;rcases hJ with e | ⟨a,b,e1,e2,e3⟩
  ·exfalso
   have:=length_pos_of_mem hx;have:=length_pos_of_mem hy;omega
  ·have hil:0 < mid - i:=by have:=length_pos_of_mem hx; omega
   have f1:=up_take hUv e2 (x:=x) (by rw [show mid - 1 - i + 1 = mid - i by omega]; exact hx);have f2:=up_drop hUu e1 hy;omega
 have hS1:∀ y ∈ u.take (i - p.length),S y:=fun y hy=>hSu y (mem_of_mem_take hy);have hS2:∀ y ∈ u.drop (i - p.length),S y:=fun y hy=>hSu y (mem_of_mem_drop hy);have hS3:∀ y ∈ v.take (mid - i),S y:=fun y hy=>hSv y (mem_of_mem_take hy);have hS4:∀ y ∈ v.drop (mid - i),S y:=fun y hy=>hSv y (mem_of_mem_drop hy);have hperm:((u.take (i - p.length)++u.drop (i - p.length))++(v.take (mid - i)++v.drop (mid - i))) = u++v:=by rw [← hsu,← hsv]
 have s2:aB (vI s (p++((u.take (i - p.length)++u.drop (i - p.length))++((v.take (mid - i)++v.drop (mid - i))++q)))::A) h1:=by rw [← hsu,← hsv]; exact s1
 have C:Cut4 key S N p q (u.take (i - p.length)) (u.drop (i - p.length)) (v.take (mid - i)) (v.drop (mid - i)) i (p.length + u.length) (p.length + u.length + v.length) mid:=⟨by omega,by omega,by omega,by omega,hmid,by omega,by omega,by omega,by omega,hS1,hS2,hS3,hS4,by rw [← hsu]; exact hUu,by rw [← hsv]; exact hUv,h12,h21⟩
 have R:=merge_j1 s f A key S C IH h1 s2;have eT:Tgt s A key p q (u.take (i - p.length)) (u.drop (i - p.length)) (v.take (mid - i)) (v.drop (mid - i)) = fun _ h=>∃ m',(m'.Perm (u++v)/\Up key m')/\aB (vI s (p++(m'++q))::A) h:=by unfold Tgt; rw [hperm]
 rw [eT] at R;exact R
theorem merge_l5 (N:Nat) (p u v q:List Int) (hN:u.length + v.length <= N + 1) (hSu:∀ y ∈ u,S y) (hSv:∀ y ∈ v,S y) (hUu:Up key u) (hUv:Up key v) (hb:p.length + u.length + v.length + q.length < 2 ^ 58) (hu2:2 <= u.length) (hv2:2 <= v.length) (mid:Nat) (hmid:mid = (p.length + (p.length + u.length + v.length)) / 2) (IH:Ih s f A key S N) :
  ∀ (lo hi:Nat) (h:Hp),lo <= hi->p.length <= lo->hi <= p.length + u.length->hi <= mid->p.length + u.length <= mid + (p.length + u.length) - hi->mid + (p.length + u.length) - lo <= p.length + u.length + v.length ->
    (lo = p.length\/mid + (p.length + u.length) - lo = p.length + u.length + v.length)->(hi = p.length + u.length\/hi = mid)->aB (vI s (p++(u++(v++q)))::A) h ->
    Lp (eX s (p.length:Int) ((p.length + u.length:Nat):Int) ((p.length + u.length + v.length:Nat):Int) f (fun _ h=>∃ m',(m'.Perm (u++v)/\Up key m')/\aB (vI s (p++(m'++q))::A) h)) ((lo:Int),(hi:Int)) h:=by
 have hhm:i64.wrap (fdiv (u64.wrap (i64.wrap (((p.length:Nat):Int) + ((p.length + u.length + v.length:Nat):Int)))) (2 ^ (min (Int.toNat 1) (IntKind.bits .u64)))) = ((mid:Nat):Int):=by
  rw [mid_eq _ _ (by omega),hmid]
 have wn:i64.wrap ((mid:Int) + ((p.length + u.length:Nat):Int)) = ((mid + (p.length + u.length):Nat):Int):=by rw [bm (by omega) (by omega)]; omega
 intro lo hi h hlh hlo hhi hhm2 hn1 hn2 hlo2 hhi2 s0;have getu:∀ c:Nat,p.length <= c->c < p.length + u.length->(p++(u++(v++q)))[c]? = u[c - p.length]?:=fun c h1 h2=>by rw [getElem?_append_right h1,getElem?_append_left (by omega)]
 have getv:∀ c:Nat,p.length + u.length <= c->c < p.length + u.length + v.length->(p++(u++(v++q)))[c]? = v[c - p.length - u.length]?:=fun c h1 h2=>by rw [getElem?_append_right (by omega),getElem?_append_right (by omega),getElem?_append_left (by omega)]
 have hL:(p++(u++(v++q))).length = p.length + u.length + v.length + q.length:=by simp; omega
 refine Lp.intro (fun (t:Int × Int) h=>∃ i j:Nat,t = ((i:Int),(j:Int))/\lo <= i/\i <= j/\j <= hi/\(i = lo\/Wit u v (i - 1 - p.length) (mid - i) fun x y=>key x <= key y)/\(j = hi\/Wit u v (j - p.length) (mid - 1 - j) fun x y=>key y < key x)/\aB (vI s (p++(u++(v++q)))::A) h) (fun (t:Int × Int) _=>t.2.toNat - t.1.toNat)
  ⟨lo,hi,rfl,le_refl _,hlh,le_refl _,.inl rfl,.inl rfl,s0⟩ ?_
 rintro t h1 ⟨i,j,rfl,hi0,hij,hj0,hI,hJ,s1⟩;unfold eX;simp only;rw [hhm,wn];have wp:i64.wrap (((mid + (p.length + u.length):Nat):Int) - 1) = ((mid + (p.length + u.length) - 1:Nat):Int):=by rw [bm (by omega) (by omega)]; omega
 have we:i64.wrap (((mid + (p.length + u.length):Nat):Int) - (i:Int)) = ((mid + (p.length + u.length) - i:Nat):Int):=by rw [bm (by omega) (by omega)]; omega
 have hc:i64.wrap (fdiv (u64.wrap (i64.wrap ((i:Int) + (j:Int)))) (2 ^ (min (Int.toNat 1) (IntKind.bits .u64)))) = (((i + j) / 2:Nat):Int):=mid_eq _ _ (by omega);rw [wp,hc,we];refine aY (fun c=>?_) (fun c=>?_)
 ·have hlt:i < j:=by have:=of_decide_eq_true c; omega
  obtain ⟨m,hm⟩:∃ m,m = (i + j) / 2:=⟨_,rfl⟩
  rw [← hm];have wpc:i64.wrap (((mid + (p.length + u.length) - 1:Nat):Int) - (m:Int)) = ((mid + (p.length + u.length) - 1 - m:Nat):Int):=by rw [bm (by omega) (by omega)]; omega
  rw [wpc];have hmu:m - p.length < u.length:=by omega
  have hmv:mid - 1 - m < v.length:=by omega
  have g1:(p++(u++(v++q)))[mid + (p.length + u.length) - 1 - m]? = some v[mid - 1 - m]:=by
   rw [getv _ (by omega) (by omega),show mid + (p.length + u.length) - 1 - m - p.length - u.length = mid - 1 - m by omega,getElem?_eq_getElem hmv]
  have g2:(p++(u++(v++q)))[m]? = some u[m - p.length]:=by rw [getu _ (by omega) (by omega),getElem?_eq_getElem hmu]
  refine dk s1 (j:=0) rfl (by omega) (by omega) fun q1 hq1=>?_;refine dk s1 (j:=0) rfl (by omega) (by omega) fun q2 hq2=>?_;refine dD (j:=0) (i:=mid + (p.length + u.length) - 1 - m) (k:=0) v[mid - 1 - m] (ck _) s1 rfl hq1 (by rw [toNat_natCast]; rfl) g1 (by simp) ?_;refine dD (j:=0) (i:=m) (k:=0) u[m - p.length] (ck _) s1 rfl hq2 (by rw [toNat_natCast]; rfl) g2 (by simp) ?_;refine clv_t (hv v[mid - 1 - m] u[m - p.length] (hSv _ (getElem_mem hmv)) (hSu _ (getElem_mem hmu))) s1 fun r h3 s3=>?_;obtain ⟨hr,s4⟩:=bt.1 s3;have s5:=wA s4;refine aY (fun k3=>?_) (fun k3=>?_)
  ·have k3':key u[m - p.length] <= key v[mid - 1 - m]:=by
    have:¬ key v[mid - 1 - m] < key u[m - p.length]:=fun hh=>by have:=hr.2 hh; simp at k3; omega
    omega
   have hw:i64.wrap (((m:Nat):Int) + 1) = ((m + 1:Nat):Int):=by rw [bm (by omega) (by omega)]; omega
   rw [hw];refine ⟨⟨m + 1,j,rfl,by omega,by omega,hj0,.inr ⟨u[m - p.length],v[mid - 1 - m],?_,?_,k3'⟩,hJ,s5⟩,by simp only [toNat_natCast]; omega⟩
   ·rw [show m + 1 - 1 - p.length = m - p.length by omega]; exact getElem?_eq_getElem hmu
   ·rw [show mid - (m + 1) = mid - 1 - m by omega]; exact getElem?_eq_getElem hmv
  ·have k3':key v[mid - 1 - m] < key u[m - p.length]:=hr.1 (by simpa using k3);exact ⟨⟨i,m,rfl,hi0,by omega,by omega,hI,.inr ⟨_,_,getElem?_eq_getElem hmu,getElem?_eq_getElem hmv,k3'⟩,s5⟩,by simp only [toNat_natCast]; omega⟩
 ·have he:i = j:=by have:=of_decide_eq_false c; omega
  subst he;exact merge_exit s f A key S p u v q hN hSu hSv hUu hUv hb hu2 hv2 hmid IH lo hi hlo hhi hhm2 hn2 hlo2 hhi2 h1 hi0 hj0 hI hJ s1
theorem sp_symMerge:∀ (N:Nat) (p u v q:List Int),u.length + v.length <= N->u ≠ []->v ≠ []->(∀ y ∈ u,S y)->(∀ y ∈ v,S y)->Up key u->Up key v->p.length + u.length + v.length + q.length < 2 ^ 58 ->
  Sp prog cx [sv s,.int .i64 p.length,.int .i64 (p.length + u.length:Nat),.int .i64 (p.length + u.length + v.length:Nat),f] R_ (vI s (p++(u++(v++q)))::A) (fun _ h=>∃ m',(m'.Perm (u++v)/\Up key m')/\aB (vI s (p++(m'++q))::A) h)
 | 0,p,u,v,q,hN,hu,_,_,_,_,_,_=>absurd (length_pos_iff.2 hu) (by omega)
 | N + 1,p,u,v,q,hN,hu,hvn,hSu,hSv,hUu,hUv,hb=>by
  intro h s0;have hup:=length_pos_iff.2 hu;have hvp:=length_pos_iff.2 hvn;refine qP _ _ _ _ _ ?_;unfold kA;have w1:i64.wrap (((p.length + u.length:Nat):Int) - ((p.length:Nat):Int)) = ((u.length:Nat):Int):=by rw [bm (by omega) (by omega)]; omega
  have w2:i64.wrap (((p.length + u.length + v.length:Nat):Int) - ((p.length + u.length:Nat):Int)) = ((v.length:Nat):Int):=by rw [bm (by omega) (by omega)]; omega
  rw [w1,w2];refine aY (fun c1=>?_) (fun c1=>?_)
  ·have hl0:((u.length:Nat):Int) = 1:=by simpa using c1
   have hl1:u.length = 1:=by omega
   obtain ⟨x,rfl⟩:=List.length_eq_one_iff.1 hl1;have e:((p.length + [x].length + v.length:Nat):Int) = ((p.length + 1 + v.length:Nat):Int):=rfl;rw [e];refine merge_l1 s f A key S hv p v q x _ ⟨hSu x (by simp),hSv⟩ hUv (by simp at hb; omega) (by simpa using s0) fun m' h' hp hm s'=>?_;exact ⟨m',⟨hp,hm⟩,s'⟩
  refine aY (fun c2=>?_) (fun c2=>?_)
  ·have hl0:((v.length:Nat):Int) = 1:=by simpa using c2
   have hl1:v.length = 1:=by omega
   obtain ⟨x,rfl⟩:=List.length_eq_one_iff.1 hl1;refine merge_l3 s f A key S hv p u q x _ ⟨hSv x (by simp),hSu⟩ hUu (by simp at hb; omega) (by simpa using s0) fun m' h' hp hm s'=>?_;exact ⟨m',⟨hp,hm⟩,s'⟩
  have hu2:u.length ≠ 1:=by intro e; rw [e] at c1; cases c1
  have hv2:v.length ≠ 1:=by intro e; rw [e] at c2; cases c2
  obtain ⟨mid,hmid⟩:∃ mid,mid = (p.length + (p.length + u.length + v.length)) / 2:=⟨_,rfl⟩
  have hhm:i64.wrap (fdiv (u64.wrap (i64.wrap (((p.length:Nat):Int) + ((p.length + u.length + v.length:Nat):Int)))) (2 ^ (min (Int.toNat 1) (IntKind.bits .u64)))) = ((mid:Nat):Int):=by
   rw [mid_eq _ _ (by omega),hmid]
  rw [hhm];have wn:i64.wrap ((mid:Int) + ((p.length + u.length:Nat):Int)) = ((mid + (p.length + u.length):Nat):Int):=by rw [bm (by omega) (by omega)]; omega
  have IH:Ih s f A key S N:=by
   rintro p u v q a m b h' K h1 h2 h3 h4 h5 h6 h7 h8 rfl rfl rfl s1 k;refine (sp_symMerge N p u v q h1 h2 h3 h4 h5 h6 h7 h8 h' s1).mono ?_;rintro w h'' ⟨r,e,m',⟨g1,g2⟩,s2⟩;exact ⟨r,e,k m' h'' g1 g2 s2⟩
  have key_:=merge_l5 s f A key S hv N p u v q hN hSu hSv hUu hUv hb (by omega) (by omega) mid hmid IH;refine aY (fun c3=>?_) (fun c3=>?_)
  ·have hgt:mid < p.length + u.length:=by have:=of_decide_eq_true c3; omega
   have wl:i64.wrap ((i64.wrap ((mid:Int) + ((p.length + u.length:Nat):Int))) - ((p.length + u.length + v.length:Nat):Int)) = ((mid + (p.length + u.length) - (p.length + u.length + v.length):Nat):Int):=by rw [wn,bm (by omega) (by omega)]; omega
   rw [wl];unfold dN;exact key_ _ mid h (by omega) (by omega) (by omega) (le_refl _) (by omega) (by omega) (.inr (by omega)) (.inr rfl) s0
  ·have hle:p.length + u.length <= mid:=by have:=of_decide_eq_false c3; omega
   unfold dN;exact key_ p.length (p.length + u.length) h (by omega) (le_refl _) (le_refl _) hle (by omega) (by omega) (.inl rfl) (.inl rfl) s0
end
end
section
open Go Mb
def Bl (key:Int->Int) (sz lo hi:Nat) (L:List Int):Prop:=∀ (i j:Nat) (x y:Int),lo <= i->i < j->j < hi->i / sz = j / sz->L[i]? = some x->L[j]? = some y->key x <= key y
section pure
variable {key:Int->Int}
theorem cut3 (L:List Int) (a k:Nat):L = L.take a++((L.drop a).take k++L.drop (a + k)):=by
 have h1:(L.drop a).take k++L.drop (a + k) = L.drop a:=by rw [← List.drop_drop]; exact take_append_drop k (L.drop a)
 rw [h1,take_append_drop]
theorem div_mono {B i t:Nat} (hB:0 < B) (h:B * t <= i):t <= i / B:=by rw [Nat.le_div_iff_mul_le hB,mul_comm]; exact h
theorem div_small {B i t:Nat} (hB:0 < B) (h:i < B * t):i / B < t:=by rw [Nat.div_lt_iff_lt_mul hB,mul_comm]; exact h
theorem bl_step {B t:Nat} {p m m' q:List Int} (hB:0 < B) (hp:p.length = B * t) (hl:m'.length = m.length) (hu:Up key m') (h:Bl key B 0 (B * t) (p++(m++q))):Bl key B 0 (B * t + m.length) (p++(m'++q)):=by
 intro i j x y _ hij hj hd hx hy;rcases lt_or_ge j (B * t) with h1 | h1
 ·rw [getElem?_append_left (by omega)] at hx hy;exact h i j x y (zero_le _) hij h1 hd (by rw [getElem?_append_left (by omega)]; exact hx) (by rw [getElem?_append_left (by omega)]; exact hy)
 ·have h2:=div_mono hB h1;have h3:B * t <= i:=by
   rcases lt_or_ge i (B * t) with h4 | h4
   ·have:=div_small hB h4; omega
   ·exact h4
  rw [getElem?_append_right (by omega),getElem?_append_left (by omega)] at hx hy;exact up_get hu (by omega) hx hy
theorem bl_keep {sz lo hi n:Nat} {p m m' q:List Int} (hl:m'.length = m.length) (h1:lo <= hi) (h2:p.length + m.length <= hi) (h:Bl key sz lo n (p++(m++q))):Bl key sz hi n (p++(m'++q)):=by
 intro i j x y hi' hij hj hd hx hy;rw [getElem?_append_right (by omega),getElem?_append_right (by omega)] at hx hy;exact h i j x y (by omega) hij hj hd (by rw [getElem?_append_right (by omega),getElem?_append_right (by omega),← hl]; exact hx) (by rw [getElem?_append_right (by omega),getElem?_append_right (by omega),← hl]; exact hy)
theorem up_seg {sz lo hi c k:Nat} {L:List Int} (hs:0 < sz) (h:Bl key sz lo hi L) (h1:lo <= sz * c) (h2:sz * c + k <= hi) (h3:k <= sz):Up key ((L.drop (sz * c)).take k):=by
 refine List.pairwise_iff_getElem.2 fun i j hi' hj' hij=>?_;rw [length_take,length_drop] at hi' hj';rw [List.getElem_take,List.getElem_take,List.getElem_drop,List.getElem_drop];have e:∀ a,a < sz->(sz * c + a) / sz = c:=fun a ha=>by
  rw [Nat.mul_add_div hs,div_eq_of_lt ha]; rfl
 exact h (sz * c + i) (sz * c + j) _ _ (by omega) (by omega) (by omega) (by rw [e i (by omega),e j (by omega)]) (getElem?_eq_getElem (by omega)) (getElem?_eq_getElem (by omega))
theorem bl_all {sz n:Nat} {L:List Int} (hL:L.length = n) (h:Bl key sz 0 n L) (hs:n <= sz):Up key L:=by
 refine List.pairwise_iff_getElem.2 fun i j hi hj hij=>?_;exact h i j _ _ (zero_le _) hij (by omega) (by rw [div_eq_of_lt (by omega),div_eq_of_lt (by omega)]) (getElem?_eq_getElem hi) (getElem?_eq_getElem hj)
theorem bl_rest {sz n t:Nat} {L:List Int} (hs:0 < sz) (h1:Bl key (2 * sz) 0 (2 * sz * t) L) (h2:Bl key sz (2 * sz * t) n L) (h3:n <= 2 * sz * t + sz):Bl key (2 * sz) 0 n L:=by
 intro i j x y _ hij hj hd hx hy;rcases lt_or_ge j (2 * sz * t) with h4 | h4
 ·exact h1 i j x y (zero_le _) hij h4 hd hx hy
 ·have h5:=div_mono (B:=2 * sz) (by omega) h4;have h6:2 * sz * t <= i:=by
   rcases lt_or_ge i (2 * sz * t) with h7 | h7
   ·have:=div_small (B:=2 * sz) (by omega) h7; omega
   ·exact h7
  have e:∀ a,2 * sz * t <= a->a < 2 * sz * t + sz->a / sz = 2 * t:=fun a ha hb=>by
   have e1:2 * sz * t = sz * (2 * t):=by rw [mul_comm 2 sz,Nat.mul_assoc]
   rw [e1] at ha hb;obtain ⟨d,rfl⟩:∃ d,a = sz * (2 * t) + d:=⟨a - sz * (2 * t),by omega⟩
   rw [Nat.mul_add_div hs,div_eq_of_lt (by omega)]; rfl
  exact h2 i j x y h6 hij hj (by rw [e i h6 (by omega),e j h4 (by omega)]) hx hy
end pure
section
variable (s:Sl) (f:Value) (A:List As) (key:Int->Int) (S:Int->Prop) (hv:CmpOk f A key S) (m0:List Int) (hS:∀ x ∈ m0,S x) (hb:m0.length < 2 ^ 55)
abbrev Fin5:Unit->Hp->Prop:=fun _ h=>∃ m',(m'.Perm m0/\Up key m')/\aB (vI s m'::A) h
include hv hS hb
theorem stable_l2 {h:Hp} (L:List Int) (sz:Nat) (hs:20 <= sz) (hs2:sz < 2 ^ 56) (hp:L.Perm m0) (hB:Bl key sz 0 m0.length L) (s0:aB (vI s L::A) h):Lp (cQ s (m0.length:Int) f (Fin5 s A key m0)) (sz:Int) h:=by
 refine Lp.intro (fun (z:Int) h=>∃ (sz:Nat) (L:List Int),z = sz/\20 <= sz/\sz < 2 ^ 56/\L.Perm m0/\Bl key sz 0 m0.length L/\aB (vI s L::A) h) (fun (z:Int) _=>m0.length - z.toNat) ⟨sz,L,rfl,hs,hs2,hp,hB,s0⟩ ?_;rintro z h1 ⟨sz,L,rfl,hs,hs2,hp,hB,s1⟩;have hL:=hp.length_eq;unfold cQ;refine aY (fun c=>?_) (fun c=>?_)
 ·have hlt:sz < m0.length:=by have:=of_decide_eq_true c; omega
  have w2:i64.wrap (2 * (sz:Int)) = ((2 * sz:Nat):Int):=by rw [bm (by omega) (by omega)]; omega
  have w3:i64.wrap ((sz:Int) * 2) = ((2 * sz:Nat):Int):=by rw [bm (by omega) (by omega)]; omega
  rw [w2];refine Lp.intro (fun (z:Int × Int) h=>∃ (t:Nat) (L:List Int),z = (((2 * sz * t:Nat):Int),((2 * sz * t + 2 * sz:Nat):Int))/\2 * sz * t <= m0.length/\L.Perm m0/\Bl key (2 * sz) 0 (2 * sz * t) L/\Bl key sz (2 * sz * t) m0.length L/\aB (vI s L::A) h) (fun (z:Int × Int) _=>m0.length - z.1.toNat) ⟨0,L,by simp,by simp,hp,fun i j x y _ _ h3=>absurd h3 (by simp),by simpa using hB,s1⟩ ?_;rintro z h2 ⟨t,L,rfl,ht,hp,hB1,hB2,s2⟩;have hL:=hp.length_eq;have hSL:∀ x ∈ L,S x:=fun x hx=>hS x (hp.subset hx);obtain ⟨a,ha⟩:∃ a,a = 2 * sz * t:=⟨_,rfl⟩
  have e1:a = sz * (2 * t):=by rw [ha,mul_comm 2 sz,Nat.mul_assoc]
  have e2:a + sz = sz * (2 * t + 1):=by rw [e1,Nat.mul_add,Nat.mul_one]
  have e3:2 * sz * (t + 1) = a + 2 * sz:=by rw [ha,Nat.mul_add,Nat.mul_one]
  unfold il;simp only;rw [w3];have mrg:∀ (k:Nat) (b:Int) (h':Hp) (K:Unit->Hp->Prop),0 < k->k <= sz->a + sz + k <= m0.length->b = ((a + sz + k:Nat):Int)->aB (vI s L::A) h'->(∀ (L':List Int) (h':Hp),L'.Perm m0->Bl key (2 * sz) 0 (a + sz + k) L'->Bl key sz (a + sz + k) m0.length L'->aB (vI s L'::A) h'->K () h') ->
    cl prog cx [sv s,.int .i64 (a:Int),.int .i64 ((a + sz:Nat):Int),.int .i64 b,f] R_ K h':=by
   rintro k b h' K hk hks hkn rfl s3 kk;have c1:=cut3 L a (sz + k);have lp:(L.take a).length = a:=by rw [length_take]; omega
   have lu:((L.drop a).take sz).length = sz:=by rw [length_take,length_drop]; omega
   have lv:((L.drop (a + sz)).take k).length = k:=by rw [length_take,length_drop]; omega
   have c2:(L.drop a).take (sz + k) = (L.drop a).take sz++(L.drop (a + sz)).take k:=by rw [List.take_add,List.drop_drop]
   have u1:Up key ((L.drop a).take sz):=by rw [e1]; exact up_seg (by omega) hB2 (by omega) (by omega) (le_refl _)
   have u2:Up key ((L.drop (a + sz)).take k):=by rw [e2]; exact up_seg (by omega) hB2 (by omega) (by omega) hks
   have sp:=sp_symMerge s f A key S hv _ (L.take a) ((L.drop a).take sz) ((L.drop (a + sz)).take k) (L.drop (a + (sz + k))) (le_refl _) (length_pos_iff.1 (by omega)) (length_pos_iff.1 (by omega)) (fun y hy=>hSL y (mem_of_mem_drop (mem_of_mem_take hy))) (fun y hy=>hSL y (mem_of_mem_drop (mem_of_mem_take hy))) u1 u2 (by rw [lp,lu,lv,length_drop]; omega) h' (by
    rw [← append_assoc ((L.drop a).take sz),← c2,← c1]; exact s3)
   rw [lp,lu,lv] at sp;refine sp.mono ?_;rintro w h'' ⟨r,e,m',⟨g1,g2⟩,s4⟩;rw [← c2] at g1;have gl:=g1.length_eq;have cl':((L.drop a).take (sz + k)).length = sz + k:=by rw [length_take,length_drop]; omega
   refine ⟨r,e,kk (L.take a++(m'++L.drop (a + (sz + k)))) h'' ?_ ?_ ?_ s4⟩
   ·refine List.Perm.trans ?_ hp;rw (config:={ occs:=.pos [3] }) [c1];exact (g1.append_right _).append_left _
   ·have:=bl_step (B:=2 * sz) (t:=t) (q:=L.drop (a + (sz + k))) (by omega) (by rw [lp,ha]) gl g2 (by rw [← c1]; exact hB1);rw [cl',← ha] at this;rw [Nat.add_assoc]; exact this
   ·refine bl_keep gl (show a <= a + sz + k by omega) (by rw [lp,cl']; omega) ?_;rw [← c1,ha]; exact hB2
  refine aY (fun c3=>?_) (fun c3=>?_)
  ·have hle:a + 2 * sz <= m0.length:=by have:=of_decide_eq_true c3; omega
   have w4:i64.wrap (((2 * sz * t:Nat):Int) + (sz:Int)) = ((a + sz:Nat):Int):=by rw [← ha,bm (by omega) (by omega)]; omega
   have w5:i64.wrap (((2 * sz * t + 2 * sz:Nat):Int) + i64.wrap (2 * (sz:Int))) = ((a + 2 * sz + 2 * sz:Nat):Int):=by rw [← ha,w2,bm (by omega) (by omega)]; omega
   rw [w4,w5,← ha];refine mrg sz _ h2 _ (by omega) (le_refl _) (by omega) (by omega) s2 fun L' h3 p3 b1 b2 s3=>?_;refine ⟨⟨t + 1,L',?_,by rw [e3]; omega,p3,?_,?_,s3⟩,by simp only [toNat_natCast]; omega⟩
   ·rw [e3]
   ·rw [e3,show a + 2 * sz = a + sz + sz by omega]; exact b1
   ·rw [e3,show a + 2 * sz = a + sz + sz by omega]; exact b2
  ·have hgt:m0.length < a + 2 * sz:=by have:=of_decide_eq_false c3; omega
   have w4:i64.wrap (((2 * sz * t:Nat):Int) + (sz:Int)) = ((a + sz:Nat):Int):=by rw [← ha,bm (by omega) (by omega)]; omega
   rw [w4,← ha];refine aY (fun c4=>?_) (fun c4=>?_)
   ·have hlt2:a + sz < m0.length:=by have:=of_decide_eq_true c4; omega
    refine mrg (m0.length - (a + sz)) _ h2 _ (by omega) (by omega) (by omega) (by omega) s2 fun L' h3 p3 b1 b2 s3=>?_;refine ⟨⟨2 * sz,L',rfl,by omega,by omega,p3,?_,s3⟩,by simp only [toNat_natCast]; omega⟩;rw [show a + sz + (m0.length - (a + sz)) = m0.length by omega] at b1;exact b1
   ·have hle2:m0.length <= a + sz:=by have:=of_decide_eq_false c4; omega
    exact ⟨⟨2 * sz,L,rfl,by omega,by omega,hp,bl_rest (by omega) hB1 hB2 (by omega),s2⟩,by simp only [toNat_natCast]; omega⟩
 ·have hge:m0.length <= sz:=by have:=of_decide_eq_false c; omega
  exact ⟨L,⟨hp,bl_all hL hB hge⟩,s1⟩
theorem sp_SortStable:Sp prog eJ [sv s,f] R_ (vI s m0::A) (fun _ h=>∃ m',(m'.Perm m0/\Up key m')/\aB (vI s m'::A) h):=by
 intro h s0;have hl:=(cj (j:=0) s0 rfl).1;refine jd _ _ ?_;unfold fR;unfold cl;refine kZ _ _ _ ?_;unfold io;rw [hl];refine Lp.intro (fun (z:Int × Int) h=>∃ (t:Nat) (L:List Int),z = (((20 * t:Nat):Int),((20 * t + 20:Nat):Int))/\20 * t <= m0.length/\L.Perm m0/\Bl key 20 0 (20 * t) L/\aB (vI s L::A) h) (fun (z:Int × Int) _=>m0.length - z.1.toNat) ⟨0,m0,rfl,zero_le _,.refl _,fun i j x y _ _ h3=>absurd h3 (by simp),s0⟩ ?_;rintro z h1 ⟨t,L,rfl,ht,hp,hB,s1⟩;have hL:=hp.length_eq;have hSL:∀ x ∈ L,S x:=fun x hx=>hS x (hp.subset hx);obtain ⟨a,ha⟩:∃ a,a = 20 * t:=⟨_,rfl⟩
 have ins:∀ (k:Nat) (b:Int) (h':Hp) (K:Unit->Hp->Prop),k <= 20->a + k <= m0.length->b = ((a + k:Nat):Int)->aB (vI s L::A) h'->(∀ (L':List Int) (h':Hp),L'.Perm m0->Bl key 20 0 (a + k) L'->aB (vI s L'::A) h'->K () h') ->
   cl prog bS [sv s,.int .i64 (a:Int),.int .i64 b,f] R_ K h':=by
  rintro k b h' K hk hkn rfl s3 kk;have c1:=cut3 L a k;have lp:(L.take a).length = a:=by rw [length_take]; omega
  have lu:((L.drop a).take k).length = k:=by rw [length_take,length_drop]; omega
  have sp:=sp_insertion s f A key S hv (L.take a) ((L.drop a).take k) (L.drop (a + k)) (fun y hy=>hSL y (mem_of_mem_drop (mem_of_mem_take hy))) (by rw [lp,lu,length_drop]; omega) h' (by rw [← c1]; exact s3);rw [lp,lu] at sp;refine sp.mono ?_;rintro w h'' ⟨r,e,m',⟨g1,g2⟩,s4⟩;have gl:=g1.length_eq;refine ⟨r,e,kk (L.take a++(m'++L.drop (a + k))) h'' ?_ ?_ s4⟩
  ·refine List.Perm.trans ?_ hp;rw (config:={ occs:=.pos [3] }) [c1];exact (g1.append_right _).append_left _
  ·have:=bl_step (B:=20) (t:=t) (q:=L.drop (a + k)) (by omega) (by rw [lp,ha]) gl g2 (by rw [← c1]; exact hB);rw [lu,← ha] at this;exact this
 unfold eC;simp only;refine aY (fun c=>?_) (fun c=>?_)
 ·have hle:a + 20 <= m0.length:=by have:=of_decide_eq_true c; omega
  have w1:i64.wrap (((20 * t + 20:Nat):Int) + 20) = ((20 * (t + 1) + 20:Nat):Int):=by rw [bm (by omega) (by omega)]; omega
  rw [w1,← ha];refine ins 20 _ h1 _ (le_refl _) hle rfl s1 fun L' h3 p3 b1 s3=>?_;refine ⟨⟨t + 1,L',?_,by omega,p3,?_,s3⟩,by simp only [toNat_natCast]; omega⟩
  ·rw [show 20 * (t + 1) = a + 20 by omega]
  ·rw [show 20 * (t + 1) = a + 20 by omega]; exact b1
 ·have hgt:m0.length < a + 20:=by have:=of_decide_eq_false c; omega
  rw [← ha];refine ins (m0.length - a) _ h1 _ (by omega) (by omega) (by omega) s1 fun L' h3 p3 b1 s3=>?_;rw [show a + (m0.length - a) = m0.length by omega] at b1;exact stable_l2 s f A key S hv m0 hS hb L' 20 (by decide) (by decide) p3 b1 s3
end
end
section
open Go Mb
theorem sp_hist_OrderN (s:Sl) (es:List bp) (hb:es.length < 2 ^ 38) (ha:Hist.Apart es):Sp prog mZ [sv s] cJ [vE s es] (fun r=>aB [vI r (Hist.order es),vE s es]):=by
 intro h s0;refine sim_hist_Order _ ?_;unfold wj;refine pL s0 fun b1 h1 s1=>?_;refine bq s s1 (i:=0) rfl rfl rfl ?_;refine cZ [1,0] (tO s es _ (fun e=>decide (e.fHa > 0)) [blk b1 eB [sv s]] (by omega) ?_) s1 rfl fun r h2 s2=>?_
 ·intro e he;refine ⟨_,_,_,rfl,sU,fun h s3=>?_⟩;exact (xm e h).mono fun v h' ⟨r,hv,hr,hh⟩=>⟨r,hv,hr,by rw [hh]; exact s3⟩
 ·have s3:=dH s2;have hpl:=Hist.placesFrom_len (fun e=>decide (e.fHa > 0)) es 0;refine cZ [0,0,0] (sp_SortStable r _ [vE s es,blk b1 eB [sv s]] (Hist.eff es) (fun x=>0 <= x/\x < es.length) ?_ (Hist.effs es) (fun x hx=>Hist.places_in hx) (by unfold Hist.effs Hist.places; omega)) s3 rfl fun u h4 s4=>?_
  ·rintro x y ⟨hx0,hx⟩ ⟨hy0,hy⟩;refine ⟨_,_,_,rfl,sT,fun h s5=>?_⟩;obtain ⟨n,rfl⟩:=Int.eq_ofNat_of_zero_le hx0;obtain ⟨m,rfl⟩:=Int.eq_ofNat_of_zero_le hy0;have hn:n < es.length:=by omega
   have hm:m < es.length:=by omega
   refine uS n m b1 ?_;unfold qS;refine bq s s5 (i:=1) rfl rfl rfl ?_;refine dk s5 (j:=0) rfl (by omega) (by omega) fun q hq=>?_;refine dD (j:=0) (i:=n) (k:=8) es[n].fHa lH s5 rfl hq rfl (aF hn) (c1 rfl rfl) ?_;refine bq s s5 (i:=1) rfl rfl rfl ?_;refine dk s5 (j:=0) rfl (by omega) (by omega) fun q2 hq2=>?_;refine dD (j:=0) (i:=m) (k:=8) es[m].fHa lH s5 rfl hq2 rfl (aF hm) (c1 rfl rfl) ?_;refine ba ?_ s5;rw [cmp_neg,Hist.eff_nat (aF hn),Hist.eff_nat (aF hm)]
  ·obtain ⟨g1,g2,d,rfl,⟨m',⟨p1,p2⟩,s5⟩,s6⟩:=s4;rw [Hist.order_of ha p1 p2] at s5;exact qO (mJ (l:=[vI r (Hist.order es),vE s es]) s5) d
theorem ordN {es:List bp} (s:Sl) (h:es.length < 2 ^ 38):Hist.Apart es->OrdOk s es:=fun ha=>sp_hist_OrderN s es h ha
end
section
open Go Mb
def errors_as_l2 (a1:Value) (a2:aM) (a3:Value) (K:kT Bool) (v48:Sl) (Rec25:kT Int) (s24:Int):hT:=br (decide (s24 < (v48.len:Int))) ( ix v48 s24 fun q52=>ld (q52.1,q52.2 + Int.toNat s24 * 1) cV fun x53=>hpv prog (do eqGuard .eql 159 (.tmp 54) (.const Value.nilIface) x53 Value.nilIface; binOp .eql 159 x53 Value.nilIface:Sem Value) aC fun (v55:Bool)=>br v55 ( Rec25 (i64.wrap (s24 + 1))) ( cl prog vD [x53,a1,(.agg (aM.C a2).toArray),a3] aC fun r60=>br r60 ( K true) ( Rec25 (i64.wrap (s24 + 1))))) ( K false)
def yx (a1:Value) (a2:aM) (a3:Value) (K:kT Bool) (Rec2:kT Value) (s1:Value) (s11:Unit):hT:=hpv prog (Instr.typeAssert s1 gR jI true) gN fun (v37:Value × Bool)=>br v37.2 ( cln prog (callMethod v37.1 "Unwrap" #[]) encV fun (v41:Value)=>hpv prog (do eqGuard .eql 159 (.tmp 42) (.const Value.nilIface) v41 Value.nilIface; binOp .eql 159 v41 Value.nilIface:Sem Value) aC fun (v43:Bool)=>br v43 ( K false) ( Rec2 v41)) ( hpv prog (Instr.typeAssert s1 gR jf true) gx fun (v44:Value × Bool)=>br v44.2 ( cln prog (callMethod v44.1 "Unwrap" #[]) R_Serror fun (v48:Sl)=>Lp (errors_as_l2 a1 a2 a3 K v48) 0) ( K false))
def yw (a1:Value) (a2:aM) (a3:Value) (K:kT Bool) (Rec2:kT Value) (s1:Value):hT:=cln prog (callFunc gG #[s1]) encV fun (v17:Value)=>cln prog (callMethod v17 "AssignableTo" #[a3]) aC fun (v19:Bool)=>br v19 ( cln prog (callFunc fN #[(.agg (aM.C a2).toArray)]) fX fun (v21:aM)=>cln prog (callFunc dh #[s1]) fX fun (v23:aM)=>cln prog (callFunc fT #[(.agg (aM.C v21).toArray),(.agg (aM.C v23).toArray)]) R_ fun (v24:Unit)=>K true) ( hpv prog (Instr.typeAssert s1 gR ry true) oA fun (v27:Value × Bool)=>br v27.2 ( cln prog (callMethod v27.1 "As" #[a1]) aC fun (v34:Bool)=>br v34 ( K true) ( yx a1 a2 a3 K Rec2 s1 ())) ( yx a1 a2 a3 K Rec2 s1 ()))
def sh_errors_as (a0:Value) (a1:Value) (a2:aM) (a3:Value) (K:kT Bool):hT:=Lp (yw a1 a2 a3 K) a0
theorem sim_errors_as (a0:Value) (a1:Value) (a2:aM) (a3:Value) {K:kT Bool} {h:Hp} (H:sh_errors_as a0 a1 a2 a3 K h):cl prog vD [a0,a1,(.agg (aM.C a2).toArray),a3] aC K h:=z_i func191 p p fun _=>O<|aa<|cX (l:=aM.C a2) p p p fun b6=>U p<|ax<|bv (step:=yw a1 a2 a3 K) (fun s1=>[(0,s1),(1,a1),(3,a3),(6,(.pointer (some ⟨b6,0,none⟩)))]) (fun s1=>[bx b6 262 (aM.C a2)]) H (.cons p<|.cons p<|.cons p<|.cons p<|.nil _) (.cons_cons _ .slnil) fun Rec2 s1 _ H3=>ax<|am<|O<|M p<|aa<|gD H3 (sX (vs:=[s1]) p) p fun v17 _ H4=>M p<|aa<|gD H4 (gC (vs:=[a3]) p p) p fun v19 _ H5=>ad<|aw p H5 (fun k6 H7=>O<|bn (bH (k:=0) ag_262 p p p p) p<|aa<|gD H7 (sX (vs:=[(.agg (aM.C a2).toArray)]) p) p fun v21 _ H8=>M p<|aa<|gD H8 (sX (vs:=[s1]) p) p fun v23 _ H9=>aa<|gD H9 (sX (vs:=[(.agg (aM.C v21).toArray),(.agg (aM.C v23).toArray)]) p) p fun v24 _ H10=>ad<|O<|U p<|aj<|Z ⟨true,p,H10⟩) fun k6 H7=>an<|eu (yx a1 a2 a3 K Rec2 s1) (fun s11=>[(0,s1),(1,a1),(3,a3),(6,(.pointer (some ⟨b6,0,none⟩)))]) (fun s11=>[bx b6 262 (aM.C a2)]) (O<|M p<|aa<|aT H7 (gy p) p fun v27 _ H39=>M p<|J (ak p p)<|J (ak p p)<|J (av p)<|U p<|O<|M p<|M p<|W p p (ay _) (fun g40=>wv<|ai p)<|W p p (ay _) (fun g41=>wv<|ai p)<|bW H39 (fun k43 H44=>G (F k43)<|gD H44 (gC (vs:=[a1]) (aD p k43)<|aV (aD p k43) bU) p fun v34 _ H45=>J (aU p k43 p)<|ad<|aw p H45 (fun k46 H47=>O<|U p<|aj<|Z ⟨true,p,H47⟩) fun k46 H47=>an<|cE () H47 (.cons p<|.cons p<|.cons p<|.cons p<|.nil _)<|.cons_cons _ .slnil) fun k43 H44=>Y (aS k43)<|J (au p k43 p)<|ad<|ev_no p p<|an<|cE () H44 (.cons p<|.cons p<|.cons p<|.cons p<|.nil _)<|.cons_cons _ .slnil) fun s11 _ H12=>O<|M p<|ad<|ax<|O<|aa<|aT H12 (gy p) p fun v37 _ H13=>J (ak p p)<|J (ak p p)<|ad<|aw p H13 (fun k14 H15=>O<|U p<|O<|M p<|aa<|gD H15 (gC (vs:=[]) p p) p fun v41 _ H16=>U p<|O<|M p<|aa<|aT H16 (gP p p) p fun v43 _ H17=>ad<|aw p H17 (fun k18 H19=>O<|U p<|aj<|Z ⟨false,p,H19⟩) fun k18 H19=>an<|cF v41 H19 (.cons p<|.cons p<|.cons p<|.cons p<|.nil _)<|.cons_cons _ .slnil) fun k14 H15=>O<|aa<|aT H15 (gy p) p fun v44 _ H20=>J (ak p p)<|J (ak p p)<|ad<|aw p H20 (fun k21 H22=>O<|U p<|am<|O<|M p<|aa<|gD H22 (gC (vs:=[]) p p) p fun v48 _ H23=>J (dK p underlying244 p)<|M p<|ad<|ax<|bv (step:=errors_as_l2 a1 a2 a3 K v48) (fun s24=>[(1,a1),(3,a3),(6,(.pointer (some ⟨b6,0,none⟩))),(48,(sv v48)),(49,(.int .i64 (v48.len:Int))),(50,(.int .i64 s24))]) (fun s24=>[bx b6 262 (aM.C a2)]) H23 (.cons p<|.cons p<|.cons p<|.cons p<|.cons p<|.cons p<|.nil _) (.cons_cons _ .slnil) fun Rec25 s24 _ H26=>O<|J (cn p p)<|ad<|am<|aw p H26 (fun k27 H28=>an<|am<|ax<|O<|cz H28 fun q52 e29 h30 H31=>J (bf slc_244 (aJ p<|aX e29) p h30)<|aa<|aW H31 sc_159 p (fun _=>p) p fun x53 H32=>U p<|am<|O<|M p<|aa<|aT H32 (gP p p) p fun v55 _ H33=>ad<|aw p H33 (fun k34 H35=>bh<|aq<|J (bk p p)<|M p<|ad<|cF (i64.wrap (s24 + 1)) H35 (.cons p<|.cons p<|.cons p<|.cons p<|.cons p<|.cons p<|.nil _)<|.cons_cons _ .slnil) fun k34 H35=>an<|O<|M p<|M p<|bn (bH (k:=0) ag_262 p p p p) p<|M p<|aa<|D H35 en_191 fun r60 _ H36=>ad<|aw p H36 (fun k37 H38=>O<|U p<|aj<|Z ⟨true,p,H38⟩) fun k37 H38=>an<|aq<|J (bk p p)<|M p<|ad<|cF (i64.wrap (s24 + 1)) H38 (.cons p<|.cons p<|.cons p<|.cons p<|.cons p<|.cons p<|.nil _)<|.cons_cons _ .slnil) fun k27 H28=>bh<|O<|U p<|aj<|Z ⟨false,p,H28⟩) fun k21 H22=>O<|U p<|O<|U p<|aj<|Z ⟨false,p,H22⟩
def tA (a0:Value) (a1:Value) (K:kT Bool) (v14:aM) (v26:Value) (s11:Unit):hT:=cl prog vD [a0,a1,(.agg (aM.C v14).toArray),v26] aC fun r41=>K r41
def yy (a0:Value) (a1:Value) (K:kT Bool) (v14:aM) (v16:Value) (s8:Unit):hT:=cln prog (callMethod v16 "Elem" #[]) encV fun (v26:Value)=>cln prog (callMethod v26 "Kind" #[]) R_abi_Kind fun (v28:Int)=>br (v28 != 20) ( ld (0,0) cV fun x32=>cln prog (callMethod v26 "Implements" #[x32]) aC fun (v33:Bool)=>br (!v33) ( hpv prog (Instr.makeInterface wz (.string str_6ae768b9)) encV fun (v36:Value)=>nope) ( tA a0 a1 K v14 v26 ())) ( tA a0 a1 K v14 v26 ())
def yz (a0:Value) (a1:Value) (K:kT Bool) (s4:Unit):hT:=cln prog (callFunc dh #[a1]) fX fun (v14:aM)=>cln prog (callFunc je #[(.agg (aM.C v14).toArray)]) encV fun (v16:Value)=>cln prog (callMethod v16 "Kind" #[]) R_abi_Kind fun (v18:Int)=>br (!(v18 != 22)) ( cln prog (callFunc fz #[(.agg (aM.C v14).toArray)]) aC fun (v22:Bool)=>br v22 ( hpv prog (Instr.makeInterface wz (.string str_ae9b7a08)) encV fun (v24:Value)=>nope) ( yy a0 a1 K v14 v16 ())) ( hpv prog (Instr.makeInterface wz (.string str_ae9b7a08)) encV fun (v24:Value)=>nope)
def xX (a0:Value) (a1:Value) (K:kT Bool):hT:=hpv prog (do eqGuard .eql 159 (.tmp 8) (.const Value.nilIface) a0 Value.nilIface; binOp .eql 159 a0 Value.nilIface:Sem Value) aC fun (v9:Bool)=>br v9 ( K false) ( hpv prog (do eqGuard .eql 20 (.tmp 10) (.const Value.nilIface) a1 Value.nilIface; binOp .eql 20 a1 Value.nilIface:Sem Value) aC fun (v11:Bool)=>br v11 ( hpv prog (Instr.makeInterface wz (.string str_53947bae)) encV fun (v12:Value)=>nope) ( yz a0 a1 K ()))
theorem sim_errors_As (a0:Value) (a1:Value) {K:kT Bool} {h:Hp} (H:xX a0 a1 K h):cl prog vF [a0,a1] aC K h:=z_i func186 p p fun _=>O<|U p<|am<|O<|M p<|aa<|aT H (gP p p) p fun v9 _ H1=>ad<|aw p H1 (fun k2 H3=>O<|U p<|aj<|Z ⟨false,p,H3⟩) fun k2 H3=>an<|eu (yz a0 a1 K) (fun s4=>[(0,a0),(1,a1)]) (fun s4=>[]) (O<|M p<|aa<|aT H3 (gP p p) p fun v11 _ H34=>ad<|aw p H34 (fun k35 H36=>aq<|aa<|aT H36 (gZ p) p fun v12 _ H37=>evlNo H37) fun k35 H36=>an<|cE () H36 (.cons p<|.cons p<|.nil _) .slnil) fun s4 _ H5=>O<|M p<|aa<|gD H5 (sX (vs:=[a1]) p) p fun v14 _ H6=>aa<|aI (l:=aM.C (⟨none,none,0⟩:aM)) zero_262 p p fun b5=>aa<|aP (k:=0) (vs:=aM.C v14) inf_262 p p p p p p p<|ad<|O<|bn (bH (k:=0) ag_262 p p p p) p<|aa<|gD H6 (sX (vs:=[(.agg (aM.C v14).toArray)]) p) p fun v16 _ H7=>U p<|eu (yy a0 a1 K v14 v16) (fun s8=>[(0,a0),(1,a1),(5,(.pointer (some ⟨b5,0,none⟩))),(6,v16)]) (fun s8=>[bx b5 262 (aM.C v14)]) (O<|M p<|aa<|gD H7 (gC (vs:=[]) p p) p fun v18 _ H24=>J (nY p p)<|M p<|W p p (aN _) (fun g25=>cv<|bH (k:=0) ag_262 p p p p)<|bW H24 (fun k27 H28=>G (F<|cm k27)<|gD H28 (sX (vs:=[(.agg (aM.C v14).toArray)])<|aV (aD p k27) bU) p fun v22 _ H29=>J (au p (cm k27) p)<|ad<|aw p H29 (fun k30 H31=>aq<|aa<|aT H31 (gZ p) p fun v24 _ H32=>evlNo H32) fun k30 H31=>an<|cE () H31 (.cons p<|.cons p<|.cons p<|.cons p<|.nil _)<|.cons_cons _ .slnil) fun k27 H28=>Y (cf<|bK k27)<|J (aU p (bK k27) p)<|ad<|ny p p<|aq<|aa<|aT H28 (gZ p) p fun v24 _ H33=>evlNo H33) fun s8 _ H9=>O<|M p<|aa<|gD H9 (gC (vs:=[]) p p) p fun v26 _ H10=>U p<|eu (tA a0 a1 K v14 v26) (fun s11=>[(0,a0),(1,a1),(5,(.pointer (some ⟨b5,0,none⟩))),(7,v26)]) (fun s11=>[bx b5 262 (aM.C v14)]) (O<|M p<|aa<|gD H10 (gC (vs:=[]) p p) p fun v28 _ H14=>J (nY p p)<|M p<|W p p (ay _) (fun g15=>wv<|ai p)<|bW H14 (fun k17 H18=>G (F k17)<|aW H18 sc_211 p (fun _=>p) p fun x32 H19=>G (F k17)<|gD H19 (gC (vs:=[x32]) (aD p k17) p) p fun v33 _ H20=>G (F k17)<|z_p (cy p)<|J (aU p k17 p)<|ad<|aw p H20 (fun k21 H22=>aq<|aa<|aT H22 (gZ p) p fun v36 _ H23=>evlNo H23) fun k21 H22=>an<|cE () H22 (.cons p<|.cons p<|.cons p<|.cons p<|.nil _)<|.cons_cons _ .slnil) fun k17 H18=>Y (aS k17)<|Y (aS k17)<|Y (aS k17)<|J (au p k17 p)<|ad<|ev_no p p<|an<|cE () H18 (.cons p<|.cons p<|.cons p<|.cons p<|.nil _)<|.cons_cons _ .slnil) fun s11 _ H12=>O<|M p<|M p<|bn (bH (k:=0) ag_262 p p p p) p<|M p<|aa<|D H12 en_191 fun r41 _ H13=>U p<|aj<|Z ⟨r41,p,H13⟩
def errors_is_l2 (a1:Value) (a2:Bool) (K:kT Bool) (v43:Sl) (Rec26:kT Int) (s25:Int):hT:=br (decide (s25 < (v43.len:Int))) ( ix v43 s25 fun q47=>ld (q47.1,q47.2 + Int.toNat s25 * 1) cV fun x48=>cl prog oL [x48,a1,(.bool a2)] aC fun r52=>br r52 ( K true) ( Rec26 (i64.wrap (s25 + 1)))) ( K false)
def tz (a1:Value) (a2:Bool) (K:kT Bool) (Rec2:kT Value) (s1:Value) (s12:Unit):hT:=hpv prog (Instr.typeAssert s1 gR jI true) gN fun (v32:Value × Bool)=>br v32.2 ( cln prog (callMethod v32.1 "Unwrap" #[]) encV fun (v36:Value)=>hpv prog (do eqGuard .eql 159 (.tmp 37) (.const Value.nilIface) v36 Value.nilIface; binOp .eql 159 v36 Value.nilIface:Sem Value) aC fun (v38:Bool)=>br v38 ( K false) ( Rec2 v36)) ( hpv prog (Instr.typeAssert s1 gR jf true) gx fun (v39:Value × Bool)=>br v39.2 ( cln prog (callMethod v39.1 "Unwrap" #[]) R_Serror fun (v43:Sl)=>Lp (errors_is_l2 a1 a2 K v43) 0) ( K false))
def errors_is_l3 (a1:Value) (a2:Bool) (K:kT Bool) (v43:Sl) (Rec60:kT Int) (s59:Int):hT:=br (decide (s59 < (v43.len:Int))) ( ix v43 s59 fun q47=>ld (q47.1,q47.2 + Int.toNat s59 * 1) cV fun x48=>cl prog oL [x48,a1,(.bool a2)] aC fun r52=>br r52 ( K true) ( Rec60 (i64.wrap (s59 + 1)))) ( K false)
def yv (a1:Value) (a2:Bool) (K:kT Bool) (Rec2:kT Value) (s1:Value) (s46:Unit):hT:=hpv prog (Instr.typeAssert s1 gR jI true) gN fun (v32:Value × Bool)=>br v32.2 ( cln prog (callMethod v32.1 "Unwrap" #[]) encV fun (v36:Value)=>hpv prog (do eqGuard .eql 159 (.tmp 37) (.const Value.nilIface) v36 Value.nilIface; binOp .eql 159 v36 Value.nilIface:Sem Value) aC fun (v38:Bool)=>br v38 ( K false) ( Rec2 v36)) ( hpv prog (Instr.typeAssert s1 gR jf true) gx fun (v39:Value × Bool)=>br v39.2 ( cln prog (callMethod v39.1 "Unwrap" #[]) R_Serror fun (v43:Sl)=>Lp (errors_is_l3 a1 a2 K v43) 0) ( K false))
def tx (a1:Value) (a2:Bool) (K:kT Bool) (Rec2:kT Value) (s1:Value):hT:=br a2 ( hpv prog (do eqGuard .eql 159 (.tmp 16) (.tmp 17) s1 a1; binOp .eql 159 s1 a1:Sem Value) aC fun (v18:Bool)=>br v18 ( K true) ( hpv prog (Instr.typeAssert s1 gR nj true) kw fun (v22:Value × Bool)=>br v22.2 ( cln prog (callMethod v22.1 "Is" #[a1]) aC fun (v29:Bool)=>br v29 ( K true) ( tz a1 a2 K Rec2 s1 ())) ( tz a1 a2 K Rec2 s1 ()))) ( hpv prog (Instr.typeAssert s1 gR nj true) kw fun (v22:Value × Bool)=>br v22.2 ( cln prog (callMethod v22.1 "Is" #[a1]) aC fun (v29:Bool)=>br v29 ( K true) ( yv a1 a2 K Rec2 s1 ())) ( yv a1 a2 K Rec2 s1 ()))
def xV (a0:Value) (a1:Value) (a2:Bool) (K:kT Bool):hT:=Lp (tx a1 a2 K) a0
theorem sim_errors_is (a0:Value) (a1:Value) (a2:Bool) {K:kT Bool} {h:Hp} (H:xV a0 a1 a2 K h):cl prog oL [a0,a1,(.bool a2)] aC K h:=z_i func149 p p fun _=>O<|U p<|ax<|bv (step:=tx a1 a2 K) (fun s1=>[(0,s1),(1,a1),(2,(.bool a2))]) (fun s1=>[]) H (.cons p<|.cons p<|.cons p<|.nil _) .slnil fun Rec2 s1 _ H3=>ax<|am<|O<|M p<|M p<|W p p (ay _) (fun g4=>wv<|ai p)<|W p p (ay _) (fun g5=>wv<|ai p)<|bW H3 (fun k7 H8=>G (F k7)<|aT H8 (gP (aD p k7)<|aD p k7) p fun v18 _ H9=>J (aU p k7 p)<|ad<|aw p H9 (fun k10 H11=>O<|U p<|aj<|Z ⟨true,p,H11⟩) fun k10 H11=>an<|eu (tz a1 a2 K Rec2 s1) (fun s12=>[(0,s1),(1,a1),(2,(.bool a2))]) (fun s12=>[]) (O<|M p<|aa<|aT H11 (gy p) p fun v22 _ H37=>M p<|J (ak p p)<|J (ak p p)<|J (av p)<|U p<|O<|M p<|M p<|W p p (ay _) (fun g38=>wv<|ai p)<|W p p (ay _) (fun g39=>wv<|ai p)<|bW H37 (fun k41 H42=>G (F k41)<|gD H42 (gC (vs:=[a1]) (aD p k41)<|aV (aD p k41) bU) p fun v29 _ H43=>J (aU p k41 p)<|ad<|aw p H43 (fun k44 H45=>O<|U p<|aj<|Z ⟨true,p,H45⟩) fun k44 H45=>an<|cE () H45 (.cons p<|.cons p<|.cons p<|.nil _) .slnil) fun k41 H42=>Y (aS k41)<|J (au p k41 p)<|ad<|ev_no p p<|an<|cE () H42 (.cons p<|.cons p<|.cons p<|.nil _) .slnil) fun s12 _ H13=>O<|M p<|ad<|ax<|O<|aa<|aT H13 (gy p) p fun v32 _ H14=>J (ak p p)<|J (ak p p)<|ad<|aw p H14 (fun k15 H16=>O<|U p<|O<|M p<|aa<|gD H16 (gC (vs:=[]) p p) p fun v36 _ H17=>U p<|O<|M p<|aa<|aT H17 (gP p p) p fun v38 _ H18=>ad<|aw p H18 (fun k19 H20=>O<|U p<|aj<|Z ⟨false,p,H20⟩) fun k19 H20=>an<|cF v36 H20 (.cons p<|.cons p<|.cons p<|.nil _) .slnil) fun k15 H16=>O<|aa<|aT H16 (gy p) p fun v39 _ H21=>J (ak p p)<|J (ak p p)<|ad<|aw p H21 (fun k22 H23=>O<|U p<|am<|O<|M p<|aa<|gD H23 (gC (vs:=[]) p p) p fun v43 _ H24=>J (dK p underlying244 p)<|M p<|ad<|ax<|bv (step:=errors_is_l2 a1 a2 K v43) (fun s25=>[(1,a1),(2,(.bool a2)),(43,(sv v43)),(44,(.int .i64 (v43.len:Int))),(45,(.int .i64 s25))]) (fun s25=>[]) H24 (.cons p<|.cons p<|.cons p<|.cons p<|.cons p<|.nil _) .slnil fun Rec26 s25 _ H27=>O<|J (cn p p)<|ad<|am<|aw p H27 (fun k28 H29=>an<|am<|ax<|O<|cz H29 fun q47 e30 h31 H32=>J (bf slc_244 (aJ p<|aX e30) p h31)<|aa<|aW H32 sc_159 p (fun _=>p) p fun x48 H33=>U p<|O<|M p<|M p<|M p<|aa<|D H33 en_149 fun r52 _ H34=>ad<|aw p H34 (fun k35 H36=>O<|U p<|aj<|Z ⟨true,p,H36⟩) fun k35 H36=>an<|aq<|J (bk p p)<|M p<|ad<|cF (i64.wrap (s25 + 1)) H36 (.cons p<|.cons p<|.cons p<|.cons p<|.cons p<|.nil _) .slnil) fun k28 H29=>bh<|O<|U p<|aj<|Z ⟨false,p,H29⟩) fun k22 H23=>O<|U p<|O<|U p<|aj<|Z ⟨false,p,H23⟩) fun k7 H8=>Y (aS k7)<|J (au p k7 p)<|ad<|ev_no p p<|an<|eu (yv a1 a2 K Rec2 s1) (fun s46=>[(0,s1),(1,a1),(2,(.bool a2))]) (fun s46=>[]) (O<|M p<|aa<|aT H8 (gy p) p fun v22 _ H71=>M p<|J (ak p p)<|J (ak p p)<|J (av p)<|U p<|O<|M p<|M p<|W p p (ay _) (fun g72=>wv<|ai p)<|W p p (ay _) (fun g73=>wv<|ai p)<|bW H71 (fun k75 H76=>G (F k75)<|gD H76 (gC (vs:=[a1]) (aD p k75)<|aV (aD p k75) bU) p fun v29 _ H77=>J (aU p k75 p)<|ad<|aw p H77 (fun k78 H79=>O<|U p<|aj<|Z ⟨true,p,H79⟩) fun k78 H79=>an<|cE () H79 (.cons p<|.cons p<|.cons p<|.nil _) .slnil) fun k75 H76=>Y (aS k75)<|J (au p k75 p)<|ad<|ev_no p p<|an<|cE () H76 (.cons p<|.cons p<|.cons p<|.nil _) .slnil) fun s46 _ H47=>O<|M p<|ad<|ax<|O<|aa<|aT H47 (gy p) p fun v32 _ H48=>J (ak p p)<|J (ak p p)<|ad<|aw p H48 (fun k49 H50=>O<|U p<|O<|M p<|aa<|gD H50 (gC (vs:=[]) p p) p fun v36 _ H51=>U p<|O<|M p<|aa<|aT H51 (gP p p) p fun v38 _ H52=>ad<|aw p H52 (fun k53 H54=>O<|U p<|aj<|Z ⟨false,p,H54⟩) fun k53 H54=>an<|cF v36 H54 (.cons p<|.cons p<|.cons p<|.nil _) .slnil) fun k49 H50=>O<|aa<|aT H50 (gy p) p fun v39 _ H55=>J (ak p p)<|J (ak p p)<|ad<|aw p H55 (fun k56 H57=>O<|U p<|am<|O<|M p<|aa<|gD H57 (gC (vs:=[]) p p) p fun v43 _ H58=>J (dK p underlying244 p)<|M p<|ad<|ax<|bv (step:=errors_is_l3 a1 a2 K v43) (fun s59=>[(1,a1),(2,(.bool a2)),(43,(sv v43)),(44,(.int .i64 (v43.len:Int))),(45,(.int .i64 s59))]) (fun s59=>[]) H58 (.cons p<|.cons p<|.cons p<|.cons p<|.cons p<|.nil _) .slnil fun Rec60 s59 _ H61=>O<|J (cn p p)<|ad<|am<|aw p H61 (fun k62 H63=>an<|am<|ax<|O<|cz H63 fun q47 e64 h65 H66=>J (bf slc_244 (aJ p<|aX e64) p h65)<|aa<|aW H66 sc_159 p (fun _=>p) p fun x48 H67=>U p<|O<|M p<|M p<|M p<|aa<|D H67 en_149 fun r52 _ H68=>ad<|aw p H68 (fun k69 H70=>O<|U p<|aj<|Z ⟨true,p,H70⟩) fun k69 H70=>an<|aq<|J (bk p p)<|M p<|ad<|cF (i64.wrap (s59 + 1)) H70 (.cons p<|.cons p<|.cons p<|.cons p<|.cons p<|.nil _) .slnil) fun k62 H63=>bh<|O<|U p<|aj<|Z ⟨false,p,H63⟩) fun k56 H57=>O<|U p<|O<|U p<|aj<|Z ⟨false,p,H57⟩
def xW (a0:Value) (a1:Value) (K:kT Bool):hT:=hpv prog (do eqGuard .eql 159 (.tmp 6) (.const Value.nilIface) a0 Value.nilIface; binOp .eql 159 a0 Value.nilIface:Sem Value) aC fun (v7:Bool)=>br (!v7) ( hpv prog (do eqGuard .eql 159 (.tmp 9) (.const Value.nilIface) a1 Value.nilIface; binOp .eql 159 a1 Value.nilIface:Sem Value) aC fun (v10:Bool)=>br v10 ( hpv prog (do eqGuard .eql 159 (.tmp 12) (.tmp 13) a0 a1; binOp .eql 159 a0 a1:Sem Value) aC fun (v14:Bool)=>K v14) ( cln prog (callFunc gG #[a1]) encV fun (v16:Value)=>cln prog (callMethod v16 "Comparable" #[]) aC fun (v17:Bool)=>cl prog oL [a0,a1,(.bool v17)] aC fun r21=>K r21)) ( hpv prog (do eqGuard .eql 159 (.tmp 12) (.tmp 13) a0 a1; binOp .eql 159 a0 a1:Sem Value) aC fun (v14:Bool)=>K v14)
theorem sim_errors_Is (a0:Value) (a1:Value) {K:kT Bool} {h:Hp} (H:xW a0 a1 K h):cl prog oM [a0,a1] aC K h:=z_i func106 p p fun _=>O<|U p<|am<|O<|M p<|aa<|aT H (gP p p) p fun v7 _ H1=>M p<|W p p (aN _) (fun g2=>wv<|ai p)<|bW H1 (fun k4 H5=>G (F<|cm k4)<|aT H5 (gP (aD p k4) p) p fun v10 _ H6=>J (au p (cm k4) p)<|ad<|aw p H6 (fun k7 H8=>O<|M p<|M p<|aa<|aT H8 (gP p p) p fun v14 _ H9=>U p<|aj<|Z ⟨v14,p,H9⟩) fun k7 H8=>an<|O<|M p<|aa<|gD H8 (sX (vs:=[a1]) p) p fun v16 _ H10=>aa<|gD H10 (gC (vs:=[]) p p) p fun v17 _ H11=>U p<|O<|M p<|M p<|M p<|aa<|D H11 en_149 fun r21 _ H12=>U p<|aj<|Z ⟨r21,p,H12⟩) fun k4 H5=>Y (cf<|bK k4)<|J (aU p (bK k4) p)<|ad<|ny p p<|O<|M p<|M p<|aa<|aT H5 (gP p p) p fun v14 _ H13=>U p<|aj<|Z ⟨v14,p,H13⟩
end
section
open Go Mb
def sh_trap_Of (a0:Int) (K:kT Value):hT:=br (a0 == 0) ( K Value.nilIface) ( nw oC (bZ.C (⟨a0,(-1),(⟨0,0,0,0,0⟩:ah),Value.nilIface⟩:bZ)) fun b7=>hpv prog (Instr.makeInterface bi (.pointer (some ⟨b7,0,none⟩))) encV fun (v8:Value)=>K v8)
theorem sim_trap_Of (a0:Int) {K:kT Value} {h:Hp} (H:sh_trap_Of a0 K h):cl prog lj [(.int .i64 a0)] ja K h:=z_i func107 p p fun _=>O<|U p<|am<|O<|M p<|J (bP p p)<|ad<|aw p H (fun k1 H2=>O<|U p<|aj<|Z ⟨Value.nilIface,p,H2⟩) fun k1 H2=>an<|O<|M p<|J (aZ p<|build_216_0_1 a0 (-1))<|aa<|iL p p p H2 fun b7 _ H3=>aa<|aT H3 (gZ p) p fun v8 _ H4=>U p<|aj<|Z ⟨v8,p,H4⟩
def nB (K:kT (Ptr × Bool)) (b4:Nat) (s2:Bool):hT:=br s2 ( K (none,false)) ( ld (b4,0) cP fun x13=>K (x13,true))
def wi (a0:Value) (K:kT (Ptr × Bool)):hT:=nw bi [pv none] fun b4=>hpv prog (Instr.makeInterface bF (.pointer (some ⟨b4,0,none⟩))) encV fun (v6:Value)=>cl prog vF [a0,v6] aC fun r7=>br (!(!r7)) ( ld (b4,0) cP fun x10=>nB K b4 x10.isNone) ( nB K b4 true)
theorem sim_trap_First (a0:Value) {K:kT (Ptr × Bool)} {h:Hp} (H:wi a0 K h):cl prog kJ [a0] fe K h:=z_i func181 p p fun _=>O<|J (av p)<|U p<|O<|aa<|to_alloc zero_214 p p H fun b4 _ H1=>ad<|am<|eu (nB K b4) (fun s2=>[(4,(.pointer (some ⟨b4,0,none⟩))),(12,(.bool s2))]) (fun s2=>[]) (aq<|M p<|aa<|aT H1 (gZ p) p fun v6 _ H7=>aa<|D H7 en_186 fun r7 _ H8=>J (cy p)<|M p<|bW H8 (fun k10 H11=>G (F<|cm k10)<|aW H11 sc_214 p (fun _=>p) p fun x10 H12=>G (F<|cm k10)<|z_p (cD underlying214 p)<|J (au p (cm k10) p)<|ad<|cE x10.isNone H12 (.cons p<|.cons p<|.nil _) .slnil) fun k10 H11=>Y (cf<|bK k10)<|Y (cf<|bK k10)<|J (aU p (bK k10) p)<|ad<|cE true H11 (.cons p<|.cons p<|.nil _) .slnil) fun s2 _ H3=>aw p H3 (fun k4 H5=>O<|J (av p)<|U p<|aj<|bB (bR p (cd p)<|cd p) ⟨(none,false),p,H5⟩) fun k4 H5=>an<|O<|aa<|aW H5 sc_214 p (fun _=>p) p fun x13 H6=>J (av p)<|U p<|aj<|bB (bR p (cd p)<|cd p) ⟨(x13,true),p,H6⟩
def sh_trap_Code (a0:Value) (K:kT Int):hT:=hpv prog (do eqGuard .eql 159 (.tmp 5) (.const Value.nilIface) a0 Value.nilIface; binOp .eql 159 a0 Value.nilIface:Sem Value) aC fun (v6:Bool)=>br v6 ( K 0) ( cl prog kJ [a0] fe fun r9=>br r9.2 ( nn r9.1 fun q14=>ld (q14.1,q14.2 + 0) (cI .i64) fun x16=>K x16) ( K 9))
theorem sim_trap_Code (a0:Value) {K:kT Int} {h:Hp} (H:sh_trap_Code a0 K h):cl prog vB [a0] bj K h:=z_i func166 p p fun _=>O<|U p<|am<|O<|M p<|aa<|aT H (gP p p) p fun v6 _ H1=>ad<|aw p H1 (fun k2 H3=>O<|U p<|aj<|Z ⟨0,p,H3⟩) fun k2 H3=>an<|am<|O<|M p<|aa<|D H3 en_181 fun r9 _ H4=>M p<|J (ak p p)<|J (ak p p)<|J (av p)<|U p<|O<|M p<|ad<|aw p H4 (fun k5 H6=>O<|M p<|bI H6 fun q14 e7 H8=>J (aL<|aJ p<|ar e7)<|J (ae xg p)<|aa<|aW H8 lO p (fun _=>p) p fun x16 H9=>U p<|aj<|Z ⟨x16,p,H9⟩) fun k5 H6=>an<|O<|U p<|aj<|Z ⟨9,p,H6⟩
def sh_trap_In (a0:Int) (a1:ah) (a2:Value) (K:kT Value):hT:=hpv prog (do eqGuard .eql 159 (.tmp 7) (.const Value.nilIface) a2 Value.nilIface; binOp .eql 159 a2 Value.nilIface:Sem Value) aC fun (v8:Bool)=>br v8 ( K Value.nilIface) ( cl prog vB [a2] bj fun r10=>hpv prog (Instr.build oC #[(0,(.int .i64 r10)),(1,(.int .i64 a0)),(2,(.agg (ah.C a1).toArray)),(3,a2)]) R_trap_Trap fun (v14:bZ)=>nw oC (bZ.C v14) fun b15=>hpv prog (Instr.makeInterface bi (.pointer (some ⟨b15,0,none⟩))) encV fun (v16:Value)=>K v16)
theorem sim_trap_In (a0:Int) (a1:ah) (a2:Value) {K:kT Value} {h:Hp} (H:sh_trap_In a0 a1 a2 K h):cl prog n_trap_In [(.int .i64 a0),(.agg (ah.C a1).toArray),a2] ja K h:=z_i func143 p p fun _=>O<|aa<|cX (l:=ah.C a1) p p p fun b4=>U p<|am<|O<|M p<|aa<|aT H (gP p p) p fun v8 _ H1=>ad<|aw p H1 (fun k2 H3=>O<|U p<|aj<|Z ⟨Value.nilIface,p,H3⟩) fun k2 H3=>an<|am<|bo (n:=9) [bx b4 33 (ah.C a1)] cu p (.cons_cons _ .slnil)<|V 0 p (ai p)<|V 2 p (ai p)<|z_E 3 p (eK (k:=0) fI p p p p)<|V 4 p (ai p)<|I 1 p<|D H3 en_166 fun r10 _ H4=>⟨.cons_cons _ .slnil,I 5 p<|aT H4 (x_build (vs:=[(.int .i64 r10),(.int .i64 a0),(.agg (ah.C a1).toArray),a2]) p) p fun v14 _ H5=>⟨.cons_cons _ .slnil,I 6 p<|iL p p p H5 fun b15 _ H6=>⟨.cons_cons _ .slnil,I 7 p<|aT H6 (gZ p) p fun v16 _ H7=>⟨.cons_cons _ .slnil,V 8 p (av p)<|aR (by kernel_rfl)<|aj<|Z ⟨v16,p,H7⟩⟩⟩⟩⟩
def nC (K:kT Int) (Rec3:kT (Int × Ptr × Bool)) (s2:Int × Ptr × Bool):hT:=br s2.2.2 ( nn s2.2.1 fun q14=>ld (q14.1,q14.2 + 7) cV fun x16=>cl prog kJ [x16] fe fun r17=>Rec3 ((i64.wrap (s2.1 + 1)),r17.1,r17.2)) ( K s2.1)
def sh_trap_Depth (a0:Value) (K:kT Int):hT:=cl prog kJ [a0] fe fun r8=>Lp (nC K) (0,r8.1,r8.2)
theorem sim_trap_Depth (a0:Value) {K:kT Int} {h:Hp} (H:sh_trap_Depth a0 K h):cl prog yf [a0] eH K h:=z_i func187 p p fun _=>O<|U p<|O<|U p<|am<|O<|M p<|aa<|D H en_181 fun r8 _ H1=>M p<|J (ak p p)<|J (ak p p)<|J (av p)<|U p<|ax<|bv (step:=nC K) (fun s2=>[(3,(.int .i64 s2.1)),(4,(pv s2.2.1)),(5,(.bool s2.2.2))]) (fun s2=>[]) H1 (.cons p<|.cons p<|.cons p<|.nil _) .slnil fun Rec3 s2 _ H4=>am<|O<|M p<|ad<|aw p H4 (fun k5 H6=>an<|am<|ax<|aq<|M p<|J (bk p p)<|U p<|aq<|M p<|bI H6 fun q14 e7 H8=>J (aL<|aJ p<|ar e7)<|J (ae fld_216_3 p)<|aa<|aW H8 sc_159 p (fun _=>p) p fun x16 H9=>aa<|D H9 en_181 fun r17 _ H10=>M p<|J (ak p p)<|J (ak p p)<|J (av p)<|U p<|cF ((i64.wrap (s2.1 + 1)),r17.1,r17.2) H10 (.cons p<|.cons p<|.cons p<|.nil _) .slnil) fun k5 H6=>bh<|O<|M p<|U p<|aj<|Z ⟨s2.1,p,H6⟩
def nZ (a0:Ptr) (K:kT ByteArray):hT:=br a0.isNone ( K (⟨#[]⟩:ByteArray)) ( nn a0 fun q7=>ld (q7.1,q7.2 + 0) (cI .i64) fun x9=>cl prog uj [(.int .i64 x9)] eE fun r10=>hpv prog (do eqGuard .add 9 (.const (.string (⟨#[116,114,97,112,32]⟩:ByteArray))) (.tmp 10) (.string (⟨#[116,114,97,112,32]⟩:ByteArray)) (.string r10); binOp .add 9 (.string (⟨#[116,114,97,112,32]⟩:ByteArray)) (.string r10):Sem Value) eE fun (v11:ByteArray)=>ld (q7.1,q7.2 + 7) cV fun x15=>hpv prog (do eqGuard .neq 159 (.tmp 15) (.const Value.nilIface) x15 Value.nilIface; binOp .neq 159 x15 Value.nilIface:Sem Value) aC fun (v16:Bool)=>br v16 ( ld (q7.1,q7.2 + 7) cV fun x21=>cln prog (callMethod x21 "Error" #[]) eE fun (v22:ByteArray)=>hpv prog (do eqGuard .add 9 (.const (.string (⟨#[58,32]⟩:ByteArray))) (.tmp 22) (.string (⟨#[58,32]⟩:ByteArray)) (.string v22); binOp .add 9 (.string (⟨#[58,32]⟩:ByteArray)) (.string v22):Sem Value) eE fun (v23:ByteArray)=>hpv prog (do eqGuard .add 9 (.tmp 17) (.tmp 23) (.string v11) (.string v23); binOp .add 9 (.string v11) (.string v23):Sem Value) eE fun (v24:ByteArray)=>K v24) ( K v11))
theorem sy (a0:Ptr) {K:kT ByteArray} {h:Hp} (H:nZ a0 K h):cl prog ju [(pv a0)] eE K h:=z_i func213 p p fun _=>O<|U p<|am<|O<|M p<|J (cD underlying214 p)<|ad<|aw p H (fun k1 H2=>O<|U p<|aj<|Z ⟨(⟨#[]⟩:ByteArray),p,H2⟩) fun k1 H2=>an<|O<|M p<|bI H2 fun q7 e3 H4=>J (aL<|aJ p<|ar e3)<|J (ae xg p)<|aa<|aW H4 lO p (fun _=>p) p fun x9 H5=>aa<|D H5 en_216 fun r10 _ H6=>aa<|aT H6 (gP p p) p fun v11 _ H7=>U p<|am<|O<|M (aJ p<|ar e3)<|J (aL p)<|J (ae fld_216_3 p)<|aa<|aW H7 sc_159 p (fun _=>p) p fun x15 H8=>aa<|aT H8 (gP p p) p fun v16 _ H9=>ad<|aw p H9 (fun k10 H11=>aq<|M p<|M (aJ p<|ar e3)<|J (aL p)<|J (ae fld_216_3 p)<|aa<|aW H11 sc_159 p (fun _=>p) p fun x21 H12=>aa<|gD H12 (gC (vs:=[]) p p) p fun v22 _ H13=>aa<|aT H13 (gP p p) p fun v23 _ H14=>aa<|aT H14 (gP p p) p fun v24 _ H15=>U p<|O<|M p<|U p<|aj<|Z ⟨v24,p,H15⟩) fun k10 H11=>an<|O<|M p<|U p<|aj<|Z ⟨v11,p,H11⟩
def sh_trap_Trap_Is (a0:Ptr) (a1:Value) (K:kT Bool):hT:=hpv prog (Instr.typeAssert a1 gR bi true) fe fun (v9:Ptr × Bool)=>br v9.2 ( br (!a0.isNone) ( br (!v9.1.isNone) ( nn a0 fun q23=>nn v9.1 fun q27=>ld (q23.1,q23.2 + 0) (cI .i64) fun x25=>ld (q27.1,q27.2 + 0) (cI .i64) fun x29=>K (x25 == x29)) ( K false)) ( K false)) ( K false)
theorem sim_trap_Trap_Is (a0:Ptr) (a1:Value) {K:kT Bool} {h:Hp} (H:sh_trap_Trap_Is a0 a1 K h):cl prog uh [(pv a0),a1] aC K h:=z_i func214 p p fun _=>O<|U p<|O<|M p<|aa<|aT H (gy p) p fun v9 _ H1=>M p<|J (ak p p)<|J (ak p p)<|J (av p)<|U p<|am<|bo (n:=21) [] cu p .slnil<|V 0 p (ai p)<|V 1 p (ai p)<|ox H1 (fun k2 H3=>z_n 2 p (F k2) (ve<|ai p)<|z_n 3 p (F k2) (ve<|v_pneT underlying214 p)<|V 4 p (aU p k2 p)<|V 5 p (ai p)<|ox H3 (fun k4 H5=>z_n 6 p (F k4) (ve<|ai p)<|z_n 7 p (F k4) (ve<|v_pneT underlying214 p)<|V 8 p (aU p k4 p)<|V 9 p (ai p)<|ox H5 (fun k6 H7=>z_n 10 p (F k6) (ve<|ai p)<|z_n 14 p (F k6) (ve<|ai p)<|iy H7 fun q23 e8 H9=>z_n 11 p (F k6) (ve<|aL<|aJ p<|ar e8)<|z_n 12 p (F k6) (ve<|ae xg p)<|iy H9 fun q27 e10 H11=>z_n 15 p (F k6) (ve<|aL<|aJ p<|ar e10)<|z_n 16 p (F k6) (ve<|ae xg p)<|ni (i:=13) (fun _ _ _ _ hh=>hh) H11 p (by kernel_rfl) p p p (F k6) lO p (fun _=>p) p fun x25 H12=>ni (i:=17) (fun _ _ _ _ hh=>hh) H12 p (by kernel_rfl) p p p (F k6) lO p (fun _=>p) p fun x29 H13=>z_n 18 p (F k6) (ve<|bP p p)<|V 19 p (aU p k6 p)<|V 20 p (av p)<|aR (by kernel_rfl)<|aj<|Z ⟨(x25 == x29),p,H13⟩) fun k6 H7=>z_f 10 p (aS k6)<|z_f 11 p (aS k6)<|z_f 12 p (aS k6)<|z_f 13 p (aS k6)<|z_f 14 p (aS k6)<|z_f 15 p (aS k6)<|z_f 16 p (aS k6)<|z_f 17 p (aS k6)<|z_f 18 p (aS k6)<|V 19 p (au p k6 p)<|V 20 p (av p)<|aR (by kernel_rfl)<|aj<|Z ⟨false,p,H7⟩) fun k4 H5=>z_f 6 p (aS k4)<|z_f 7 p (aS k4)<|V 8 p (au p k4 p)<|V 9 p (ai p)<|z_f 10 p p<|z_f 11 p p<|z_f 12 p p<|z_f 13 p p<|z_f 14 p p<|z_f 15 p p<|z_f 16 p p<|z_f 17 p p<|z_f 18 p p<|V 19 p (au p p p)<|V 20 p (av p)<|aR (by kernel_rfl)<|aj<|Z ⟨false,p,H5⟩) fun k2 H3=>z_f 2 p (aS k2)<|z_f 3 p (aS k2)<|V 4 p (au p k2 p)<|V 5 p (ai p)<|z_f 6 p p<|z_f 7 p p<|V 8 p (au p p p)<|V 9 p (ai p)<|z_f 10 p p<|z_f 11 p p<|z_f 12 p p<|z_f 13 p p<|z_f 14 p p<|z_f 15 p p<|z_f 16 p p<|z_f 17 p p<|z_f 18 p p<|V 19 p (au p p p)<|V 20 p (av p)<|aR (by kernel_rfl)<|aj<|Z ⟨false,p,H3⟩
def sD (a0:Ptr) (K:kT Value):hT:=br a0.isNone ( K Value.nilIface) ( nn a0 fun q6=>ld (q6.1,q6.2 + 7) cV fun x8=>K x8)
theorem sim_trap_Trap_Unwrap (a0:Ptr) {K:kT Value} {h:Hp} (H:sD a0 K h):cl prog od [(pv a0)] ja K h:=z_i func215 p p fun _=>O<|U p<|am<|O<|M p<|J (cD underlying214 p)<|ad<|aw p H (fun k1 H2=>O<|U p<|aj<|Z ⟨Value.nilIface,p,H2⟩) fun k1 H2=>an<|O<|M p<|bI H2 fun q6 e3 H4=>J (aL<|aJ p<|ar e3)<|J (ae fld_216_3 p)<|aa<|aW H4 sc_159 p (fun _=>p) p fun x8 H5=>U p<|aj<|Z ⟨x8,p,H5⟩
end
end Go.Proofs.YtochchocdckegaaGreatDoor
