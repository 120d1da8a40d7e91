/- Part of the proof of: The law HistAll returns true for every input, and leaves its arguments as they were. -/
import Derived.Test.YtochchocdckegaaGreatDoorHistAll11
set_option linter.all false
set_option maxRecDepth 20000
namespace Go.Proofs.YtochchocdckegaaGreatDoor
open Go.Proofs.Tryz
open Go.IntKind (i64 u64)
open _root_.Int (toNat_natCast)
open _root_.List (getElem?_append_right getElem?_eq_getElem getElem_mem length_drop length_replicate length_set length_take range replicate set_set)
open _root_.Nat (div_eq_of_lt le_refl lt_or_ge mul_comm zero_le)
section
open Go Mb
def Bl (key:Int->Int) (sz lo hi:Nat) (L:List Int):Prop:=∀ (i j:Nat) (x y:Int),lo <= i->i < j->j < hi->i / sz = j / sz->L[i]? = some x->L[j]? = some y->key x <= key y
section pure
variable {key:Int->Int}
theorem cut3 (L:List Int) (a k:Nat):L = L.take a++((L.drop a).take k++L.drop (a + k)):=by
 have h1:(L.drop a).take k++L.drop (a + k) = L.drop a:=by rw [← List.drop_drop]; exact List.take_append_drop k (L.drop a)
 rw [h1,List.take_append_drop]
theorem div_mono {B i t:Nat} (hB:0 < B) (h:B * t <= i):t <= i / B:=by rw [Nat.le_div_iff_mul_le hB,mul_comm]; exact h
theorem div_small {B i t:Nat} (hB:0 < B) (h:i < B * t):i / B < t:=by rw [Nat.div_lt_iff_lt_mul hB,mul_comm]; exact h
theorem bl_step {B t:Nat} {p m m' q:List Int} (hB:0 < B) (hp:p.length = B * t) (hl:m'.length = m.length) (hu:Up key m') (h:Bl key B 0 (B * t) (p++(m++q))):Bl key B 0 (B * t + m.length) (p++(m'++q)):=by
 intro i j x y _ hij hj hd hx hy;rcases lt_or_ge j (B * t) with h1 | h1
 ·rw [List.getElem?_append_left (by omega)] at hx hy;exact h i j x y (zero_le _) hij h1 hd (by rw [List.getElem?_append_left (by omega)]; exact hx) (by rw [List.getElem?_append_left (by omega)]; exact hy)
 ·have h2:=div_mono hB h1;have h3:B * t <= i:=by
   rcases lt_or_ge i (B * t) with h4 | h4
   ·have:=div_small hB h4; omega
   ·exact h4
  rw [getElem?_append_right (by omega),List.getElem?_append_left (by omega)] at hx hy;exact up_get hu (by omega) hx hy
theorem bl_keep {sz lo hi n:Nat} {p m m' q:List Int} (hl:m'.length = m.length) (h1:lo <= hi) (h2:p.length + m.length <= hi) (h:Bl key sz lo n (p++(m++q))):Bl key sz hi n (p++(m'++q)):=by
 intro i j x y hi' hij hj hd hx hy;rw [getElem?_append_right (by omega),getElem?_append_right (by omega)] at hx hy;exact h i j x y (by omega) hij hj hd (by rw [getElem?_append_right (by omega),getElem?_append_right (by omega),← hl]; exact hx) (by rw [getElem?_append_right (by omega),getElem?_append_right (by omega),← hl]; exact hy)
theorem up_seg {sz lo hi c k:Nat} {L:List Int} (hs:0 < sz) (h:Bl key sz lo hi L) (h1:lo <= sz * c) (h2:sz * c + k <= hi) (h3:k <= sz):Up key ((L.drop (sz * c)).take k):=by
 refine List.pairwise_iff_getElem.2 fun i j hi' hj' hij=>?_;rw [length_take,length_drop] at hi' hj';rw [List.getElem_take,List.getElem_take,List.getElem_drop,List.getElem_drop];have e:∀ a,a < sz->(sz * c + a) / sz = c:=fun a ha=>by
  rw [Nat.mul_add_div hs,div_eq_of_lt ha]; rfl
 exact h (sz * c + i) (sz * c + j) _ _ (by omega) (by omega) (by omega) (by rw [e i (by omega),e j (by omega)]) (getElem?_eq_getElem (by omega)) (getElem?_eq_getElem (by omega))
theorem bl_all {sz n:Nat} {L:List Int} (hL:L.length = n) (h:Bl key sz 0 n L) (hs:n <= sz):Up key L:=by
 refine List.pairwise_iff_getElem.2 fun i j hi hj hij=>?_;exact h i j _ _ (zero_le _) hij (by omega) (by rw [div_eq_of_lt (by omega),div_eq_of_lt (by omega)]) (getElem?_eq_getElem hi) (getElem?_eq_getElem hj)
theorem bl_rest {sz n t:Nat} {L:List Int} (hs:0 < sz) (h1:Bl key (2 * sz) 0 (2 * sz * t) L) (h2:Bl key sz (2 * sz * t) n L) (h3:n <= 2 * sz * t + sz):Bl key (2 * sz) 0 n L:=by
 intro i j x y _ hij hj hd hx hy;rcases lt_or_ge j (2 * sz * t) with h4 | h4
 ·exact h1 i j x y (zero_le _) hij h4 hd hx hy
 ·have h5:=div_mono (B:=2 * sz) (by omega) h4;have h6:2 * sz * t <= i:=by
   rcases lt_or_ge i (2 * sz * t) with h7 | h7
   ·have:=div_small (B:=2 * sz) (by omega) h7; omega
   ·exact h7
  have e:∀ a,2 * sz * t <= a->a < 2 * sz * t + sz->a / sz = 2 * t:=fun a ha hb=>by
   have e1:2 * sz * t = sz * (2 * t):=by rw [mul_comm 2 sz,Nat.mul_assoc]
   rw [e1] at ha hb;obtain ⟨d,rfl⟩:∃ d,a = sz * (2 * t) + d:=⟨a - sz * (2 * t),by omega⟩
   rw [Nat.mul_add_div hs,div_eq_of_lt (by omega)]; rfl
  exact h2 i j x y h6 hij hj (by rw [e i h6 (by omega),e j h4 (by omega)]) hx hy
end pure
section
variable (s:Sl) (f:Value) (A:List As) (key:Int->Int) (S:Int->Prop) (hv:CmpOk f A key S) (m0:List Int) (hS:∀ x ∈ m0,S x) (hb:m0.length < 2 ^ 55)
abbrev Fin5:Unit->Hp->Prop:=fun _ h=>∃ m',(m'.Perm m0/\Up key m')/\ay (vI s m'::A) h
include hv hS hb
theorem stable_l2 {h:Hp} (L:List Int) (sz:Nat) (hs:20 <= sz) (hs2:sz < 2 ^ 56) (hp:L.Perm m0) (hB:Bl key sz 0 m0.length L) (s0:ay (vI s L::A) h):Lp (cG s (m0.length:Int) f (Fin5 s A key m0)) (sz:Int) h:=by
 refine Lp.intro (fun (z:Int) h=>∃ (sz:Nat) (L:List Int),z = sz/\20 <= sz/\sz < 2 ^ 56/\L.Perm m0/\Bl key sz 0 m0.length L/\ay (vI s L::A) h) (fun (z:Int) _=>m0.length - z.toNat) ⟨sz,L,rfl,hs,hs2,hp,hB,s0⟩ ?_;rintro z h1 ⟨sz,L,rfl,hs,hs2,hp,hB,s1⟩;have hL:=hp.length_eq;unfold cG;refine aX (fun c=>?_) (fun c=>?_)
 ·have hlt:sz < m0.length:=by have:=of_decide_eq_true c; omega
  have w2:i64.wrap (2 * (sz:Int)) = ((2 * sz:Nat):Int):=by rw [bp (by omega) (by omega)]; omega
  have w3:i64.wrap ((sz:Int) * 2) = ((2 * sz:Nat):Int):=by rw [bp (by omega) (by omega)]; omega
  rw [w2];refine Lp.intro (fun (z:Int × Int) h=>∃ (t:Nat) (L:List Int),z = (((2 * sz * t:Nat):Int),((2 * sz * t + 2 * sz:Nat):Int))/\2 * sz * t <= m0.length/\L.Perm m0/\Bl key (2 * sz) 0 (2 * sz * t) L/\Bl key sz (2 * sz * t) m0.length L/\ay (vI s L::A) h) (fun (z:Int × Int) _=>m0.length - z.1.toNat) ⟨0,L,by simp,by simp,hp,fun i j x y _ _ h3=>absurd h3 (by simp),by simpa using hB,s1⟩ ?_;rintro z h2 ⟨t,L,rfl,ht,hp,hB1,hB2,s2⟩;have hL:=hp.length_eq;have hSL:∀ x ∈ L,S x:=fun x hx=>hS x (hp.subset hx);obtain ⟨a,ha⟩:∃ a,a = 2 * sz * t:=⟨_,rfl⟩
  have e1:a = sz * (2 * t):=by rw [ha,mul_comm 2 sz,Nat.mul_assoc]
  have e2:a + sz = sz * (2 * t + 1):=by rw [e1,Nat.mul_add,Nat.mul_one]
  have e3:2 * sz * (t + 1) = a + 2 * sz:=by rw [ha,Nat.mul_add,Nat.mul_one]
  unfold ie;simp only;rw [w3];have mrg:∀ (k:Nat) (b:Int) (h':Hp) (K:Unit->Hp->Prop),0 < k->k <= sz->a + sz + k <= m0.length->b = ((a + sz + k:Nat):Int)->ay (vI s L::A) h'->(∀ (L':List Int) (h':Hp),L'.Perm m0->Bl key (2 * sz) 0 (a + sz + k) L'->Bl key sz (a + sz + k) m0.length L'->ay (vI s L'::A) h'->K () h') ->
    cl prog co [sv s,.int .i64 (a:Int),.int .i64 ((a + sz:Nat):Int),.int .i64 b,f] R_ K h':=by
   rintro k b h' K hk hks hkn rfl s3 kk;have c1:=cut3 L a (sz + k);have lp:(L.take a).length = a:=by rw [length_take]; omega
   have lu:((L.drop a).take sz).length = sz:=by rw [length_take,length_drop]; omega
   have lv:((L.drop (a + sz)).take k).length = k:=by rw [length_take,length_drop]; omega
   have c2:(L.drop a).take (sz + k) = (L.drop a).take sz++(L.drop (a + sz)).take k:=by rw [List.take_add,List.drop_drop]
   have u1:Up key ((L.drop a).take sz):=by rw [e1]; exact up_seg (by omega) hB2 (by omega) (by omega) (le_refl _)
   have u2:Up key ((L.drop (a + sz)).take k):=by rw [e2]; exact up_seg (by omega) hB2 (by omega) (by omega) hks
   have sp:=sp_symMerge s f A key S hv _ (L.take a) ((L.drop a).take sz) ((L.drop (a + sz)).take k) (L.drop (a + (sz + k))) (le_refl _) (List.length_pos_iff.1 (by omega)) (List.length_pos_iff.1 (by omega)) (fun y hy=>hSL y (List.mem_of_mem_drop (List.mem_of_mem_take hy))) (fun y hy=>hSL y (List.mem_of_mem_drop (List.mem_of_mem_take hy))) u1 u2 (by rw [lp,lu,lv,length_drop]; omega) h' (by
    rw [← List.append_assoc ((L.drop a).take sz),← c2,← c1]; exact s3)
   rw [lp,lu,lv] at sp;refine sp.mono ?_;rintro w h'' ⟨r,e,m',⟨g1,g2⟩,s4⟩;rw [← c2] at g1;have gl:=g1.length_eq;have cl':((L.drop a).take (sz + k)).length = sz + k:=by rw [length_take,length_drop]; omega
   refine ⟨r,e,kk (L.take a++(m'++L.drop (a + (sz + k)))) h'' ?_ ?_ ?_ s4⟩
   ·refine List.Perm.trans ?_ hp;rw (config:={ occs:=.pos [3] }) [c1];exact (g1.append_right _).append_left _
   ·have:=bl_step (B:=2 * sz) (t:=t) (q:=L.drop (a + (sz + k))) (by omega) (by rw [lp,ha]) gl g2 (by rw [← c1]; exact hB1);rw [cl',← ha] at this;rw [Nat.add_assoc]; exact this
   ·refine bl_keep gl (show a <= a + sz + k by omega) (by rw [lp,cl']; omega) ?_;rw [← c1,ha]; exact hB2
  refine aX (fun c3=>?_) (fun c3=>?_)
  ·have hle:a + 2 * sz <= m0.length:=by have:=of_decide_eq_true c3; omega
   have w4:i64.wrap (((2 * sz * t:Nat):Int) + (sz:Int)) = ((a + sz:Nat):Int):=by rw [← ha,bp (by omega) (by omega)]; omega
   have w5:i64.wrap (((2 * sz * t + 2 * sz:Nat):Int) + i64.wrap (2 * (sz:Int))) = ((a + 2 * sz + 2 * sz:Nat):Int):=by rw [← ha,w2,bp (by omega) (by omega)]; omega
   rw [w4,w5,← ha];refine mrg sz _ h2 _ (by omega) (le_refl _) (by omega) (by omega) s2 fun L' h3 p3 b1 b2 s3=>?_;refine ⟨⟨t + 1,L',?_,by rw [e3]; omega,p3,?_,?_,s3⟩,by simp only [toNat_natCast]; omega⟩
   ·rw [e3]
   ·rw [e3,show a + 2 * sz = a + sz + sz by omega]; exact b1
   ·rw [e3,show a + 2 * sz = a + sz + sz by omega]; exact b2
  ·have hgt:m0.length < a + 2 * sz:=by have:=of_decide_eq_false c3; omega
   have w4:i64.wrap (((2 * sz * t:Nat):Int) + (sz:Int)) = ((a + sz:Nat):Int):=by rw [← ha,bp (by omega) (by omega)]; omega
   rw [w4,← ha];refine aX (fun c4=>?_) (fun c4=>?_)
   ·have hlt2:a + sz < m0.length:=by have:=of_decide_eq_true c4; omega
    refine mrg (m0.length - (a + sz)) _ h2 _ (by omega) (by omega) (by omega) (by omega) s2 fun L' h3 p3 b1 b2 s3=>?_;refine ⟨⟨2 * sz,L',rfl,by omega,by omega,p3,?_,s3⟩,by simp only [toNat_natCast]; omega⟩;rw [show a + sz + (m0.length - (a + sz)) = m0.length by omega] at b1;exact b1
   ·have hle2:m0.length <= a + sz:=by have:=of_decide_eq_false c4; omega
    exact ⟨⟨2 * sz,L,rfl,by omega,by omega,hp,bl_rest (by omega) hB1 hB2 (by omega),s2⟩,by simp only [toNat_natCast]; omega⟩
 ·have hge:m0.length <= sz:=by have:=of_decide_eq_false c; omega
  exact ⟨L,⟨hp,bl_all hL hB hge⟩,s1⟩
theorem sp_SortStable:Sp prog eO [sv s,f] R_ (vI s m0::A) (fun _ h=>∃ m',(m'.Perm m0/\Up key m')/\ay (vI s m'::A) h):=by
 intro h s0;have hl:=(bY (j:=0) s0 rfl).1;refine iX _ _ ?_;unfold fO;unfold cl;refine kN _ _ _ ?_;unfold ii;rw [hl];refine Lp.intro (fun (z:Int × Int) h=>∃ (t:Nat) (L:List Int),z = (((20 * t:Nat):Int),((20 * t + 20:Nat):Int))/\20 * t <= m0.length/\L.Perm m0/\Bl key 20 0 (20 * t) L/\ay (vI s L::A) h) (fun (z:Int × Int) _=>m0.length - z.1.toNat) ⟨0,m0,rfl,zero_le _,.refl _,fun i j x y _ _ h3=>absurd h3 (by simp),s0⟩ ?_;rintro z h1 ⟨t,L,rfl,ht,hp,hB,s1⟩;have hL:=hp.length_eq;have hSL:∀ x ∈ L,S x:=fun x hx=>hS x (hp.subset hx);obtain ⟨a,ha⟩:∃ a,a = 20 * t:=⟨_,rfl⟩
 have ins:∀ (k:Nat) (b:Int) (h':Hp) (K:Unit->Hp->Prop),k <= 20->a + k <= m0.length->b = ((a + k:Nat):Int)->ay (vI s L::A) h'->(∀ (L':List Int) (h':Hp),L'.Perm m0->Bl key 20 0 (a + k) L'->ay (vI s L'::A) h'->K () h') ->
   cl prog bT [sv s,.int .i64 (a:Int),.int .i64 b,f] R_ K h':=by
  rintro k b h' K hk hkn rfl s3 kk;have c1:=cut3 L a k;have lp:(L.take a).length = a:=by rw [length_take]; omega
  have lu:((L.drop a).take k).length = k:=by rw [length_take,length_drop]; omega
  have sp:=sp_insertion s f A key S hv (L.take a) ((L.drop a).take k) (L.drop (a + k)) (fun y hy=>hSL y (List.mem_of_mem_drop (List.mem_of_mem_take hy))) (by rw [lp,lu,length_drop]; omega) h' (by rw [← c1]; exact s3);rw [lp,lu] at sp;refine sp.mono ?_;rintro w h'' ⟨r,e,m',⟨g1,g2⟩,s4⟩;have gl:=g1.length_eq;refine ⟨r,e,kk (L.take a++(m'++L.drop (a + k))) h'' ?_ ?_ s4⟩
  ·refine List.Perm.trans ?_ hp;rw (config:={ occs:=.pos [3] }) [c1];exact (g1.append_right _).append_left _
  ·have:=bl_step (B:=20) (t:=t) (q:=L.drop (a + k)) (by omega) (by rw [lp,ha]) gl g2 (by rw [← c1]; exact hB);rw [lu,← ha] at this;exact this
 unfold eI;simp only;refine aX (fun c=>?_) (fun c=>?_)
 ·have hle:a + 20 <= m0.length:=by have:=of_decide_eq_true c; omega
  have w1:i64.wrap (((20 * t + 20:Nat):Int) + 20) = ((20 * (t + 1) + 20:Nat):Int):=by rw [bp (by omega) (by omega)]; omega
  rw [w1,← ha];refine ins 20 _ h1 _ (le_refl _) hle rfl s1 fun L' h3 p3 b1 s3=>?_;refine ⟨⟨t + 1,L',?_,by omega,p3,?_,s3⟩,by simp only [toNat_natCast]; omega⟩
  ·rw [show 20 * (t + 1) = a + 20 by omega]
  ·rw [show 20 * (t + 1) = a + 20 by omega]; exact b1
 ·have hgt:m0.length < a + 20:=by have:=of_decide_eq_false c; omega
  rw [← ha];refine ins (m0.length - a) _ h1 _ (by omega) (by omega) (by omega) s1 fun L' h3 p3 b1 s3=>?_;rw [show a + (m0.length - a) = m0.length by omega] at b1;exact stable_l2 s f A key S hv m0 hS hb L' 20 (by decide) (by decide) p3 b1 s3
end
end
section
open Go Mb
namespace Mb
theorem least {p:Nat->Prop}:∀ (n:Nat),p n->∃ m,p m/\∀ k,p k->m <= k:=by
 intro n
 induction n using Nat.strongRecOn with
 | _ n ih =>
  intro hn;by_cases h:∃ k,k < n/\p k
  ·obtain ⟨k,hk,hpk⟩:=h;exact ih k hk hpk
  ·exact ⟨n,hn,fun k hk=>Nat.le_of_not_lt fun hlt=>h ⟨k,hlt,hk⟩⟩
theorem Lp.ghost {σ γ:Type} {step:(σ->Hp->Prop)->σ->Hp->Prop} (I:γ->σ->Hp->Prop) (μ:γ->Nat) {s:σ} {h:Hp} {g:γ} (h0:I g s h)
  (hs:∀ g s h,I g s h->∀ R:σ->Hp->Prop,(∀ g' s' h',I g' s' h'->μ g' < μ g->R s' h')->step R s h):Lp step s h:=by
 have mins:∀ s h,(∃ g,I g s h)->∃ m,(∃ g,I g s h/\μ g = m)/\∀ k,(∃ g,I g s h/\μ g = k)->m <= k:=by
  rintro s h ⟨g,hg⟩;exact least (p:=fun m=>∃ g,I g s h/\μ g = m) (μ g) ⟨g,hg,rfl⟩
 let M:σ->Hp->Nat:=fun s h=>@dite Nat (∃ g,I g s h) (Classical.propDecidable _) (fun H=>Classical.choose (mins s h H)) (fun _=>0)
 have hM:∀ s h,(∃ g,I g s h)->(∃ g,I g s h/\μ g = M s h)/\∀ g,I g s h->M s h <= μ g:=by
  intro s h H;have e:M s h = Classical.choose (mins s h H):=by
   show @dite Nat (∃ g,I g s h) (Classical.propDecidable _) _ _ = _;rw [dif_pos H]
  have sp:=Classical.choose_spec (mins s h H);rw [e];exact ⟨sp.1,fun g hg=>sp.2 _ ⟨g,hg,rfl⟩⟩
 refine Lp.intro (fun s h=>∃ g,I g s h) M ⟨g,h0⟩ fun s h H=>?_;obtain ⟨⟨g,hg,e⟩,_⟩:=hM s h H;refine hs g s h hg _ fun g' s' h' hg' hlt=>⟨⟨g',hg'⟩,?_⟩
 have:=(hM s' h' ⟨g',hg'⟩).2 g' hg';omega
end Mb
namespace fAa
structure Sub (t o:T):Prop where
 len:t.length = o.length
 get:∀ e s,has o e s = true->get t e s = rZ\/get t e s = get o e s
def more1 (o t:T) (e s:Int):Bool × T :=
 if (at_ o e s).2 = false\/(at_ t e s).2 = true then (false,t)
 else if (at_ o e s).1.fCa < 0 then ((root t e s (at_ o e s).1.fFa).1 == 0,(root t e s (at_ o e s).1.fFa).2)
 else ((derive t (at_ o e s).1.fCa (at_ o e s).1.fEa e s (at_ o e s).1.fBa).1 == 0,(derive t (at_ o e s).1.fCa (at_ o e s).1.fEa e s (at_ o e s).1.fBa).2)
def moreS (o:T) (e:Nat):Nat->Bool × T->Bool × T
 | 0,st=>st
 | n + 1,st=>((moreS o e n st).1 || (more1 o (moreS o e n st).2 e n).1,(more1 o (moreS o e n st).2 e n).2)
def moreE (o:T):Nat->Bool × T->Bool × T
 | 0,st=>st
 | m + 1,st=>moreS o m 8 (moreE o m st)
def missing (o t:T) (p:Nat × Nat):Bool:=(at_ o p.1 p.2).2 && !(at_ t p.1 p.2).2
def pairs (n:Nat):List (Nat × Nat):=(range n).flatMap fun e=>(range 8).map fun s=>(e,s)
def miss (o t:T):Nat:=(pairs o.length).countP (missing o t)
theorem mem_pairs {n e s:Nat}:(e,s) ∈ pairs n↔e < n/\s < 8:=by
 unfold pairs; simp [List.mem_flatMap]
theorem countP_lt {α:Type} {P Q:α->Bool} {a:α}:∀ {l:List α},(∀ x ∈ l,Q x = true->P x = true)->a ∈ l->P a = true->Q a = false->l.countP Q < l.countP P
 | [],_,h,_,_=>by cases h
 | x::l,h1,h2,h3,h4=>by
  have le:∀ {l:List α},(∀ x ∈ l,Q x = true->P x = true)->l.countP Q <= l.countP P:=fun h=>List.countP_mono_left h;rcases List.mem_cons.1 h2 with rfl | h2
  ·rw [List.countP_cons_of_pos h3,List.countP_cons_of_neg (by rw [h4]; exact Bool.false_ne_true)];have:=le (l:=l) (fun x hx=>h1 x (by simp [hx]));omega
  ·have ih:=countP_lt (l:=l) (fun x hx=>h1 x (by simp [hx])) h2 h3 h4;by_cases hq:Q x = true
   ·rw [List.countP_cons_of_pos hq,List.countP_cons_of_pos (h1 x (by simp) hq)]; omega
   ·rw [List.countP_cons_of_neg hq];by_cases hpx:P x = true
    ·rw [List.countP_cons_of_pos hpx]; omega
    ·rw [List.countP_cons_of_neg hpx]; omega
theorem ul {t:T} {e s:Int}:(at_ t e s).2 = true↔has t e s = true/\(get t e s).fBa ≠ 0:=by
 unfold at_; split
 ·rename_i h; exact ⟨fun _=>h,fun _=>rfl⟩
 ·rename_i h; exact ⟨fun hh=>(by cases hh),fun hh=>absurd hh h⟩
theorem at_fst {t:T} {e s:Int} (h:(at_ t e s).2 = true):(at_ t e s).1 = get t e s:=by
 have:=ul.1 h;unfold at_; rw [if_pos this]
theorem sub_has {t o:T} (h:Sub t o) (e s:Int):has t e s = has o e s:=by unfold has; rw [h.len]
theorem cap_empty {n:Int} {o:T} {c:Cap} (h:CapFine n o c) (h0:c.fBa = 0):c = rZ:=by
 rcases h with h | h | h
 ·exact h
 ·omega
 ·have:=(wY h.2.2.2.1).1; omega
theorem more1_is {n:Int} {o t:T} (hn:n <= 16) (ok:Ok o) (F:fT n o) (okt:Ok t) (sb:Sub t o) {e s:Int} (hh:has o e s = true) :
  (more1 o t e s = (false,t)/\((at_ o e s).2 = true->(at_ t e s).2 = true\/(0 <= (get o e s).fCa/\(get t (get o e s).fCa (get o e s).fEa).fBa = 0))) \/
  (more1 o t e s = (true,put t e s (get o e s))/\(get t e s).fBa = 0/\(get o e s).fBa ≠ 0/\(0 <= (get o e s).fCa->has t (get o e s).fCa (get o e s).fEa = true/\(get t (get o e s).fCa (get o e s).fEa).fBa ≠ 0)):=by
 by_cases h1:(at_ o e s).2 = true
 ·by_cases h2:(at_ t e s).2 = true
  ·left
   exact ⟨by unfold more1; rw [if_pos (.inr h2)],fun _=>.inl h2⟩
  ·have hno:¬ ((at_ o e s).2 = false\/(at_ t e s).2 = true):=by simp [h1,h2]
   have hc:=(ul.1 h1).2;have hf:=at_fst h1;have hht:has t e s = true:=by rw [sub_has sb]; exact hh
   have h0:(get t e s).fBa = 0:=by
    by_cases hz:(get t e s).fBa = 0
    ·exact hz
    ·exact absurd (ul.2 ⟨hht,hz⟩) h2
   rcases F e s hh with ec | ec | ec
   ·rw [ec] at hc; exact absurd rfl hc
   ·right
    have hneg:(get o e s).fCa < 0:=by omega
    have er:root t e s (get o e s).fFa = (0,put t e s (get o e s)):=by
     unfold root;rw [if_neg (by simp [hht]; omega),if_neg (by simp [h0])];have:(⟨(get o e s).fFa,3,-1,0⟩:Cap) = get o e s:=by
      obtain ⟨a1,a2,a3,_⟩:=ec;cases hg:get o e s;rw [hg] at a1 a2 a3
      simp_all
     rw [this]
    refine ⟨?_,h0,hc,fun hp=>absurd hp (by omega)⟩;unfold more1;rw [if_neg hno,hf,if_pos hneg,er]; rfl
   ·have hpos:¬ (get o e s).fCa < 0:=by omega
    obtain ⟨p1,p2⟩:=parent_has ok hh hc ec.1;have p1t:has t (get o e s).fCa (get o e s).fEa = true:=by rw [sub_has sb]; exact p1
    have hw:=wY ec.2.2.2.1;have hmay:cK (get o e s).fBa = true:=may_iff.2 hw.1;by_cases hp:(get t (get o e s).fCa (get o e s).fEa).fBa = 0
    ·left
     have ed:derive t (get o e s).fCa (get o e s).fEa e s (get o e s).fBa = (3,t):=by
      unfold derive;rw [if_neg (by simp [p1t,hht,hmay]),if_pos hp]
     refine ⟨?_,fun _=>.inr ⟨ec.1,hp⟩⟩;unfold more1;rw [if_neg hno,hf,if_neg hpos,ed]; rfl
    ·right
     have eg:get t (get o e s).fCa (get o e s).fEa = get o (get o e s).fCa (get o e s).fEa:=by
      rcases sb.get _ _ p1 with h | h
      ·rw [h] at hp; exact absurd rfl hp
      ·exact h
     have ed:derive t (get o e s).fCa (get o e s).fEa e s (get o e s).fBa = (0,put t e s (get o e s)):=by
      unfold derive;rw [if_neg (by simp [p1t,hht,hmay]),if_neg hp,if_neg (by simp [h0]),eg,if_neg (by simp [ec.2.2.2.1]),ec.2.2.2.2]
     refine ⟨?_,h0,hc,fun _=>⟨p1t,hp⟩⟩;unfold more1;rw [if_neg hno,hf,if_neg hpos,ed]; rfl
 ·left
  exact ⟨by unfold more1; rw [if_pos (.inl (by simpa using h1))],fun h=>absurd h h1⟩
structure Way (o t0 t:T) (b:Bool) (D:Nat->Nat->Prop):Prop where
 ok:Ok t
 sub:Sub t o
 same:b = false->t = t0
 no:b = false->∀ e s:Nat,D e s->(more1 o t0 e s).1 = false
 le:miss o t <= miss o t0
 lt:b = true->miss o t < miss o t0
theorem way_step {n:Int} {o t0 t:T} {b:Bool} {D:Nat->Nat->Prop} (hn:n <= 16) (ok:Ok o) (F:fT n o) (w:Way o t0 t b D) {e s:Nat} (he:e < o.length) (hs:s < 8) :
  Way o t0 (more1 o t e s).2 (b || (more1 o t e s).1) (fun a i=>D a i\/(a = e/\i = s)):=by
 have hh:has o e s = true:=has_of he hs;have hht:has t e s = true:=by rw [sub_has w.sub]; exact hh
 rcases more1_is hn ok F w.ok w.sub hh with ⟨e1,h1⟩ | ⟨e1,h0,hc,hp⟩
 ·rw [e1,Bool.or_false];refine ⟨w.ok,w.sub,w.same,fun hb a i hd=>?_,w.le,w.lt⟩;rcases hd with hd | ⟨rfl,rfl⟩
  ·exact w.no hb a i hd
  ·have:=w.same hb;rw [← this,e1]
 ·rw [e1,Bool.or_true];have gp:∀ a i,has o a i = true->get (put t e s (get o e s)) a i = if a = e/\i = s then get o e s else get t a i:=fun a i hai=>xV w.ok.row hht (by rw [sub_has w.sub]; exact hai) _
  have hlt:miss o (put t e s (get o e s)) < miss o t:=by
   unfold miss;refine countP_lt (a:=(e,s)) (fun q hq hm=>?_) (mem_pairs.2 ⟨he,hs⟩) ?_ ?_
   ·unfold missing at hm ⊢;rw [Bool.and_eq_true] at hm ⊢;refine ⟨hm.1,?_⟩;have hq':=(ul.1 hm.1).1;have hm2:¬ (at_ (put t e s (get o e s)) q.1 q.2).2 = true:=by simpa using hm.2
    have:¬ (at_ t q.1 q.2).2 = true:=by
     intro hat;apply hm2;have h3:=ul.1 hat;refine ul.2 ⟨by rw [uV]; exact h3.1,?_⟩;rw [gp _ _ hq'];split
     ·exact hc
     ·exact h3.2
    simpa using this
   ·unfold missing;have a1:(at_ o e s).2 = true:=ul.2 ⟨hh,hc⟩;have a2:(at_ t e s).2 = false:=by
     cases hat:(at_ t e s).2 with
     | false=>rfl
     | true=>exact absurd h0 (ul.1 hat).2
    simp only [a1,a2]; rfl
   ·unfold missing;have a2:(at_ (put t e s (get o e s)) e s).2 = true:=ul.2 ⟨by rw [uV]; exact hht,by rw [gp _ _ hh,if_pos ⟨rfl,rfl⟩]; exact hc⟩;simp only [a2]; simp
  refine ⟨ok_put w.ok hht h0 _ hp,⟨by rw [put_len]; exact w.sub.len,fun a i hai=>?_⟩,fun h=>(by cases h),fun h=>(by cases h),Nat.le_of_lt (Nat.lt_of_lt_of_le hlt w.le),fun _=>Nat.lt_of_lt_of_le hlt w.le⟩;rw [gp a i hai];split
  ·rename_i hai2; obtain ⟨rfl,rfl⟩:=hai2; exact .inr rfl
  ·exact w.sub.get a i hai
theorem way_mono {o t0 t:T} {b:Bool} {D D':Nat->Nat->Prop} (w:Way o t0 t b D) (h:∀ e s,D' e s->D e s):Way o t0 t b D':=⟨w.ok,w.sub,w.same,fun hb e s hd=>w.no hb e s (h e s hd),w.le,w.lt⟩
theorem way_row {n:Int} {o t0 t:T} {b:Bool} {e:Nat} (hn:n <= 16) (ok:Ok o) (F:fT n o) (he:e < o.length) (w:Way o t0 t b (fun a i=>a < e/\i < 8)):∀ j,j <= 8->Way o t0 (moreS o e j (b,t)).2 (moreS o e j (b,t)).1 (fun a i=>a < e/\i < 8\/a = e/\i < j)
 | 0,_=>way_mono w fun a i h=>by rcases h with h | h; exact h; omega
 | j + 1,hj=>by
  have:=way_step hn ok F (way_row hn ok F he w j (by omega)) he (s:=j) (by omega);exact way_mono this fun a i h=>by
   rcases h with h | h
   ·exact .inl (.inl h)
   ·by_cases e1:i = j
    ·exact .inr ⟨h.1,e1⟩
    ·exact .inl (.inr ⟨h.1,by omega⟩)
theorem way_all {n:Int} {o t:T} (hn:n <= 16) (ok:Ok o) (F:fT n o) (okt:Ok t) (sb:Sub t o):∀ m,m <= o.length->Way o t (moreE o m (false,t)).2 (moreE o m (false,t)).1 (fun a i=>a < m/\i < 8)
 | 0,_=>⟨okt,sb,fun _=>rfl,fun _ e s h=>(by omega),le_refl _,fun h=>(by cases h)⟩
 | m + 1,hm=>by
  have:=way_row hn ok F (e:=m) (by omega) (way_all hn ok F okt sb m (by omega)) 8 (le_refl _);exact way_mono this fun a i h=>by
   by_cases e1:a = m
   ·exact .inr ⟨e1,h.2⟩
   ·exact .inl ⟨by omega,h.2⟩
theorem all_there {n:Int} {o t:T} (hn:n <= 16) (ok:Ok o) (F:fT n o) (okt:Ok t) (sb:Sub t o) (hno:∀ e s:Nat,e < o.length->s < 8->(more1 o t e s).1 = false):t = o:=by
 obtain ⟨rank,hr⟩:=ok.rk;have key:∀ (r:Nat) (e s:Nat),e < o.length->s < 8->rank e s <= r->get t e s = get o e s:=by
  intro r
  induction r using Nat.strongRecOn with
  | _ r ih =>
   intro e s he hs hrk;have hh:has o e s = true:=has_of he hs;by_cases hz:(get o e s).fBa = 0
   ·have e0:=cap_empty (F e s hh) hz;rcases sb.get e s hh with h | h
    ·rw [h,e0]
    ·exact h
   ·rcases more1_is hn ok F okt sb hh with ⟨e1,h1⟩ | ⟨e1,_⟩
    ·rcases h1 (ul.2 ⟨hh,hz⟩) with h2 | ⟨h2,h3⟩
     ·rcases sb.get e s hh with h | h
      ·have:=(ul.1 h2).2; rw [h] at this; exact absurd rfl this
      ·exact h
     ·exfalso
      obtain ⟨q1,q2,q3⟩:=hr e s hh hz h2;obtain ⟨a,i,ea,ei,ha,hi⟩:=has_nat q1;rw [ea,ei] at q2 q3 h3;have:=ih (rank a i) (by omega) a i ha hi (le_refl _);rw [this] at h3; exact q2 h3
    ·have:=hno e s he hs;rw [e1] at this; cases this
 apply List.ext_getElem?;intro m;by_cases hm:m < o.length
 ·have hmt:m < t.length:=by rw [sb.len]; exact hm
  rw [getElem?_eq_getElem hm,getElem?_eq_getElem hmt]
  congr 1
  have l1:=ok.row _ (getElem_mem hm);have l2:=okt.row _ (getElem_mem hmt);apply List.ext_getElem (by rw [l1,l2]);intro s h1 h2;have hs:s < 8:=by omega
  obtain ⟨_,g1⟩:=get_nat' ok.row hm hs;obtain ⟨_,g2⟩:=get_nat' okt.row hmt hs;rw [← g1,← g2];exact key _ m s hm hs (le_refl _)
 ·have hmt:¬ m < t.length:=by rw [sb.len]; exact hm
  rw [List.getElem?_eq_none (Nat.le_of_not_lt hm),List.getElem?_eq_none (Nat.le_of_not_lt hmt)]
end fAa
end
section
open Go Mb
theorem sp_plain_more (zb ob:Nat) (kc oc:List Value) (ts:Sl) (pc po:Ptr) (t o:fAa.T) (h4:kc[4]? = some (sv ts)) (h6:kc[6]? = some (pv pc)) (o6:oc[6]? = some (pv po)) (hl:ts.len = o.length) (hb:o.length <= 4) :
  Sp prog ng [pv (some (zb,0)),pv (some (ob,0))] aD [blk zb cE kc,cO pc t,blk ob cE oc,cO po o]
   (fun r=>pa_ (r = (fAa.moreE o o.length (false,t)).1) [blk zb cE kc,cO pc (fAa.moreE o o.length (false,t)).2,blk ob cE oc,cO po o]):=by
 intro h s0;refine sim_plain_Kernel_more _ _ ?_;unfold rq;refine cL (bt ts s0 (i:=0) rfl rfl h4 ?_);refine Lp.intro (fun (z:Bool × Int) h=>∃ m:Nat,z.2 = m/\m <= o.length/\z.1 = (fAa.moreE o m (false,t)).1/\ay [blk zb cE kc,cO pc (fAa.moreE o m (false,t)).2,blk ob cE oc,cO po o] h) (fun (z:Bool × Int) _=>o.length - z.2.toNat) ⟨0,rfl,zero_le _,rfl,s0⟩ ?_;rintro ⟨b,i⟩ h ⟨m,rfl,hm,rfl,s1⟩;unfold lQ;refine aX (fun k=>?_) (fun k=>?_)
 ·have hlt:m < o.length:=by rw [hl] at k; simpa using k
  have hw:i64.wrap ((m:Int) + 1) = ((m + 1:Nat):Int):=by rw [bp (by omega) (by omega)]; rfl
  refine Lp.intro (fun (z:Bool × Int) h=>∃ j:Nat,z.2 = j/\j <= 8/\z.1 = (fAa.moreS o m j (fAa.moreE o m (false,t))).1/\ay [blk zb cE kc,cO pc (fAa.moreS o m j (fAa.moreE o m (false,t))).2,blk ob cE oc,cO po o] h) (fun (z:Bool × Int) _=>8 - z.2.toNat) ⟨0,rfl,zero_le _,rfl,s1⟩ ?_;rintro ⟨b,i⟩ h ⟨j,rfl,hj,rfl,s2⟩;unfold lP;refine aX (fun k2=>?_) (fun k2=>?_)
  ·have hlt2:j < 8:=by have:=of_decide_eq_true k2; simp at this; omega
   have hw2:i64.wrap ((j:Int) + 1) = ((j + 1:Nat):Int):=by rw [bp (by omega) (by omega)]; rfl
   have es:fAa.moreS o m (j + 1) (fAa.moreE o m (false,t)) = ((fAa.moreS o m j (fAa.moreE o m (false,t))).1 || (fAa.more1 o (fAa.moreS o m j (fAa.moreE o m (false,t))).2 m j).1,(fAa.more1 o (fAa.moreS o m j (fAa.moreE o m (false,t))).2 m j).2):=rfl;generalize hst:fAa.moreS o m j (fAa.moreE o m (false,t)) = st at *
   refine cL (bt po s2 (i:=2) rfl rfl o6 ?_);refine cc (kx po o m j) (i:=3) rfl s2 fun r h3 hr s3=>?_;subst hr;refine bt pc s3 (i:=0) rfl rfl h6 ?_;refine cc (kx pc st.2 m j) (i:=1) rfl s3 fun r h4 hr s4=>?_;subst hr;rw [hw2];refine aX (fun k3=>?_) (fun k3=>?_)
   ·have k3':(fAa.at_ o m j).2 = false\/(fAa.at_ st.2 m j).2 = true:=by simpa using k3
    have e1:fAa.more1 o st.2 m j = (false,st.2):=if_pos k3';refine ⟨⟨j + 1,rfl,hlt2,?_,?_⟩,by simp; omega⟩
    ·rw [es,e1]; simp
    ·rw [es,e1]; exact s4
   ·have k3':¬ ((fAa.at_ o m j).2 = false\/(fAa.at_ st.2 m j).2 = true):=by simp at k3; simp [k3]
    refine aX (fun k4=>?_) (fun k4=>?_)
    ·have e1:fAa.more1 o st.2 m j = ((fAa.root st.2 m j (fAa.at_ o m j).1.fFa).1 == 0,(fAa.root st.2 m j (fAa.at_ o m j).1.fFa).2):=by unfold fAa.more1; rw [if_neg k3',if_pos (by simpa using k4)]
     refine bt pc s4 (i:=0) rfl rfl h6 ?_;refine cc (xl pc st.2 m j _) (i:=1) rfl s4 fun r h5 hr s5=>?_;subst hr;refine ⟨⟨j + 1,rfl,hlt2,?_,?_⟩,by simp; omega⟩
     ·rw [es,e1]
     ·rw [es,e1]; exact s5
    ·have e1:fAa.more1 o st.2 m j = ((fAa.derive st.2 (fAa.at_ o m j).1.fCa (fAa.at_ o m j).1.fEa m j (fAa.at_ o m j).1.fBa).1 == 0,(fAa.derive st.2 (fAa.at_ o m j).1.fCa (fAa.at_ o m j).1.fEa m j (fAa.at_ o m j).1.fBa).2):=by unfold fAa.more1; rw [if_neg k3',if_neg (by simpa using k4)]
     refine bt pc s4 (i:=0) rfl rfl h6 ?_;refine cc (tw pc st.2 _ _ m j _) (i:=1) rfl s4 fun r h5 hr s5=>?_;subst hr;refine ⟨⟨j + 1,rfl,hlt2,?_,?_⟩,by simp; omega⟩
     ·rw [es,e1]
     ·rw [es,e1]; exact s5
  ·have:j = 8:=by have:=of_decide_eq_false k2; simp at this; omega
   subst this;rw [hw];exact ⟨⟨m + 1,rfl,hlt,rfl,s2⟩,by simp; omega⟩
 ·have:m = o.length:=by rw [hl] at k; simp at k; omega
  subst this;exact ba rfl s1
section
variable {α:Type}
def fL (xs:List α) (d:α) (n:Nat):List α:=xs.take n++replicate (xs.length - n) d
theorem mixd_len (xs:List α) (d:α) {n:Nat} (h:n <= xs.length):(fL xs d n).length = xs.length:=by simp [fL]; omega
theorem th (xs:List α) (d:α):fL xs d 0 = replicate xs.length d:=by simp [fL]
theorem wI (xs:List α) (d:α):fL xs d xs.length = xs:=by simp [fL]
theorem mixd_get (xs:List α) (d:α) {n:Nat} (h:n < xs.length):(fL xs d n)[n]? = some d:=by
 unfold fL;rw [getElem?_append_right (by simp; omega),List.getElem?_replicate,if_pos (by simp; omega)]
theorem rD (xs:List α) (d:α) {n:Nat} (h:n < xs.length):(fL xs d n).set n xs[n] = fL xs d (n + 1):=by
 unfold fL;rw [List.set_append_right _ _ (by simp; omega)];have e1:n - (xs.take n).length = 0:=by simp; omega
 have e2:xs.length - n = (xs.length - (n + 1)) + 1:=by omega
 rw [e1,e2,List.replicate_succ,List.set_cons_zero];have e3:xs.take (n + 1) = xs.take n++[xs[n]]:=by simp
 rw [e3,List.append_assoc]; rfl
end
theorem put_ok {p:Pte} (h:PteFine p) (h0:p.fBa ≠ 0):(gS p).2 = true:=by
 rcases h with h | ⟨h1,h2,h3,h4,h5⟩
 ·rw [h] at h0; exact absurd rfl h0
 ·unfold gS;have e1:an.eqb p ⟨0,0,0⟩ = false:=by
   unfold an.eqb;have:(p.fBa == 0) = false:=by simpa using h0
   simp [this]
  have e2:(((((decide (p.fFa < 0)) || (decide (p.fFa >= 16))) || (decide (p.fEa < 0))) || (decide (p.fEa >= 8))) || (!(cK p.fBa))) = false:=by
   simp [h5]; omega
  rw [e1,e2]; rfl
theorem insert_mixd {row:List Pte} (h:qv row) {j:Nat} (hj:j < 8) (hr:row[j]?.map (·.fBa) ≠ some 0):Table.insert (fL row eW j) j (row.getD j eW) = (0,fL row eW (j + 1)):=by
 have hjl:j < row.length:=by rw [h.1]; exact hj
 have hg:row.getD j eW = row[j]:=by simp [hjl]
 rw [hg];have h0:row[j].fBa ≠ 0:=by
  intro e; apply hr; rw [getElem?_eq_getElem hjl]; simp [e]
 have hp:=put_ok (h.2 _ (getElem_mem hjl)) h0;have hat:Table.at_ (fL row eW j) j = eW:=by
  unfold Table.at_;rw [toNat_natCast,List.getD_eq_getElem?_getD,mixd_get row eW hjl]; rfl
 have his:cH j = true:=by unfold cH; simp; omega
 unfold Table.insert;rw [if_neg (by simp [hp,h0,his]),hat,if_neg (by simp),toNat_natCast,rD row eW hjl]
theorem idx_rep (m:Nat):∀ (f:Nat) (i:Int),gw 0 (replicate f 1++replicate (m + 1) 0) i = i + f
 | 0,i=>by simp [gw,List.replicate_succ]
 | f + 1,i=>by
  rw [List.replicate_succ,List.cons_append,gw,if_neg (by decide),idx_rep m f (i + 1)];omega
theorem take_mixd {F f:Nat} (h:f < F):(Pool.take (fL (replicate F (1:Int)) 0 f)).2.2 = fL (replicate F (1:Int)) 0 (f + 1):=by
 have hl:f < (replicate F (1:Int)).length:=by simpa using h
 have e:fL (replicate F (1:Int)) 0 f = replicate f 1++replicate ((F - f - 1) + 1) 0:=by
  unfold fL;rw [List.take_replicate,length_replicate,Nat.min_eq_left (by omega)]
  congr 2; omega
 have hi:gw 0 (fL (replicate F (1:Int)) 0 f) 0 = f:=by rw [e,idx_rep]; omega
 unfold Pool.take;rw [hi,if_neg (by omega)];have:=rD (replicate F (1:Int)) 0 hl;rw [List.getElem_replicate] at this;simpa using this
abbrev cpL (zo z:PZ) (o k:PK):List As:=plainL zo o++plainL z k
abbrev Done (z:PZ) (k:PK) (r:Ptr):As:=ay [bB r k,bB (some (z.b,0)) k]
theorem copy7 {zo z:PZ} {o k:PK} {h:Hp} (ok:PK.Ok k) (ho:zo.tp.length = k.tabs.length) (hz:z.tp.length = k.tabs.length) (es:o.s = k.s) (em:o.m = k.m) (et:o.tabs = k.tabs) (ep:o.pool = k.pool) (oko:fAa.Ok o.caps) (sb:fAa.Sub o.caps k.caps)
  (s0:ay (cpL zo z o k) h):Lp (jk (Done z k) (z.b,0) (some (zo.b,0))) () h:=by
 obtain ⟨os,om,ot,op,oc⟩:=o;simp only at es em et ep oko sb;subst es; subst em; subst et; subst ep;have hs:=jR.1 ok.sz;have hts:=(bY (j:=2) s0 rfl).1;have hcl:=ok.cl;have htl:=ok.tl;refine Lp.ghost (γ:=fAa.T) (fun c _ h=>fAa.Ok c/\fAa.Sub c k.caps/\ay (cpL zo z ⟨k.s,k.m,k.tabs,k.pool,c⟩ k) h) (fun c=>fAa.miss k.caps c) ⟨oko,sb,s0⟩ ?_;rintro c s h ⟨okc,sbc,s1⟩ R hR;have w:=fAa.way_all (n:=k.s.fYa) (by omega) ok.tree ok.fine okc sbc k.caps.length (le_refl _);unfold jk;refine cW [0,4,4,8] (sp_plain_more zo.b z.b (qR k.s zo) (qR k.s z) zo.ts zo.pc z.pc c k.caps rfl rfl rfl (by omega) (by omega)) s1 rfl fun r h2 s2=>?_;obtain ⟨hr,s3⟩:=bA.1 s2;have s4:ay (cpL zo z ⟨k.s,k.m,k.tabs,k.pool,(fAa.moreE k.caps k.caps.length (false,c)).2⟩ k) h2:=bd [0,3,3,3,3,0,0,1,1,1,1,0] s3 rfl;refine aX (fun d=>?_) (fun d=>?_)
 ·exact hR _ () h2 ⟨w.ok,w.sub,s4⟩ (w.lt (by rw [← hr,d]))
 ·have hf:(fAa.moreE k.caps k.caps.length (false,c)).1 = false:=by rw [← hr,d]
  have hsame:=w.same hf;rw [hsame] at s4;have hc:c = k.caps:=fAa.all_there (n:=k.s.fYa) (by omega) ok.tree ok.fine okc sbc fun e s he hs=>w.no hf e s ⟨he,hs⟩;subst hc;have s5:=di (z:=zo) (k:=k) (l:=plainL z k) ho ok s4;exact bd [1] (di (z:=z) (k:=k) hz ok (bd [1,1,1,1,1,1] s5 rfl)) rfl
theorem copy5 {zo z:PZ} {o k:PK} {h:Hp} {x92:Sl} (ok:PK.Ok k) (ho:zo.tp.length = k.tabs.length) (hz:z.tp.length = k.tabs.length) (hx:x92.len = k.tabs.length) (es:o.s = k.s) (em:o.m = k.m) (et:o.tabs = replicate k.tabs.length (replicate 8 eW)) (ep:o.pool = k.pool) (oko:fAa.Ok o.caps) (sb:fAa.Sub o.caps k.caps)
  (s0:ay (cpL zo z o k) h):Lp (jl (Done z k) (z.b,0) (some (zo.b,0)) x92) 0 h:=by
 obtain ⟨os,om,ot,op,oc⟩:=o;simp only at es em et ep oko sb;subst es; subst em; subst et; subst ep;have hs:=jR.1 ok.sz;have htl:=ok.tl;have hzs:=(bY (j:=8) s0 rfl).1;have hos:=(bY (j:=2) s0 rfl).1;have e0:replicate k.tabs.length (replicate 8 eW) = fL k.tabs (replicate 8 eW) 0:=(th _ _).symm;rw [e0] at s0;refine Lp.intro (fun (i:Int) h=>∃ e:Nat,i = e/\e <= k.tabs.length/\ay (cpL zo z ⟨k.s,k.m,fL k.tabs (replicate 8 eW) e,k.pool,oc⟩ k) h) (fun (i:Int) _=>k.tabs.length - i.toNat) ⟨0,rfl,zero_le _,s0⟩ ?_;rintro i h ⟨e,rfl,he,s1⟩;unfold jl;refine aX (fun d=>?_) (fun d=>?_)
 ·have hlt:e < k.tabs.length:=by rw [hx] at d; simpa using d
  have hw:i64.wrap ((e:Int) + 1) = ((e + 1:Nat):Int):=by rw [bp (by omega) (by omega)]; rfl
  have htab:qv k.tabs[e]:=ok.tr _ (getElem_mem hlt);have hml:=mixd_len k.tabs (replicate 8 eW) he;have heo:e < zo.tp.length:=by omega
  have hez:e < z.tp.length:=by omega
  have hmg:=mixd_get k.tabs (replicate 8 eW) hlt;have r0:replicate 8 eW = fL k.tabs[e] eW 0:=by rw [th,htab.1]
  refine Lp.intro (fun (i:Int) h=>∃ j:Nat,i = j/\j <= 8/\ay (cpL zo z ⟨k.s,k.m,(fL k.tabs (replicate 8 eW) e).set e (fL k.tabs[e] eW j),k.pool,oc⟩ k) h) (fun (i:Int) _=>8 - i.toNat) ⟨0,rfl,zero_le _,?_⟩ ?_
  ·rw [← r0,jj hmg]; exact s1
  rintro i h ⟨j,rfl,hj,s2⟩;unfold lR;refine aX (fun d2=>?_) (fun d2=>?_)
  ·have hlt2:j < 8:=by have:=of_decide_eq_true d2; omega
   have hjl:j < k.tabs[e].length:=by rw [htab.1]; exact hlt2
   have hw2:i64.wrap ((j:Int) + 1) = ((j + 1:Nat):Int):=by rw [bp (by omega) (by omega)]; rfl
   have his:cH j = true:=by unfold cH; simp; omega
   have hat:Table.at_ k.tabs[e] j = k.tabs[e][j]:=by simp [Table.at_,hjl]
   refine bt z.ts s2 (i:=6) rfl rfl rfl ?_;refine cU s2 (j:=8) rfl (by omega) (by omega) fun q hq=>?_;refine cX (j:=8) (i:=e) (k:=0) z.tp[e] iq s2 rfl hq (by simp) (aB hez) (by simp) ?_;have s3:=jM (aB hez) (aB hlt) (bd [9] s2 rfl);refine cc (oz z.tp[e] k.tabs[e] j) (i:=0) rfl s3 fun r h4 hr s4=>?_;subst hr;have s5:ay (cpL zo z ⟨k.s,k.m,(fL k.tabs (replicate 8 eW) e).set e (fL k.tabs[e] eW j),k.pool,oc⟩ k) h4:=bd [1,1,1,1,1,1,1,1,1,0] (wW (aB hez) (aB hlt) hz s4) rfl;refine aX (fun d3=>?_) (fun d3=>?_)
   ·have hne:k.tabs[e][j].fBa ≠ 0:=by
     unfold Table.get at d3;split at d3
     ·rename_i hh; rw [hat] at hh; exact hh.2
     ·cases d3
    have eg:(Table.get k.tabs[e] j).1 = k.tabs[e].getD j eW:=by
     unfold Table.get; rw [hat,if_pos ⟨his,hne⟩]; simp [hjl]
    have ei:=insert_mixd htab hlt2 (by rw [getElem?_eq_getElem hjl]; simpa using hne);rw [eg];refine cL (bt zo.ts s5 (i:=0) rfl rfl rfl ?_);refine cU s5 (j:=2) rfl (by omega) (by omega) fun q2 hq2=>?_;refine cX (j:=2) (i:=e) (k:=0) zo.tp[e] iq s5 rfl hq2 (by simp) (aB heo) (by simp) ?_;have fx:((fL k.tabs (replicate 8 eW) e).set e (fL k.tabs[e] eW j))[e]? = some (fL k.tabs[e] eW j):=by rw [List.getElem?_set,if_pos rfl,if_pos (by rw [hml]; exact hlt)]
    have s6:=jM (aB heo) fx (bd [3] s5 rfl);refine cc (kM zo.tp[e] _ j _) (i:=0) rfl s6 fun r h7 hr s7=>?_;rw [ei] at s7;have s8:=yf (aB heo) (by rw [length_set,hml]; exact hlt) (by rw [length_set,hml]; exact ho) s7;rw [set_set] at s8;rw [hw2];exact ⟨⟨j + 1,rfl,hlt2,bd [1,1,1] s8 rfl⟩,by simp; omega⟩
   ·have hze:k.tabs[e][j] = eW:=by
     rcases htab.2 _ (getElem_mem hjl) with h | h
     ·exact h
     ·have:=may_iff.1 h.2.2.2.2;unfold Table.get at d3;rw [hat,if_pos ⟨his,by omega⟩] at d3; cases d3
    have hsame:fL k.tabs[e] eW j = fL k.tabs[e] eW (j + 1):=by
     rw [← rD _ _ hjl,hze,jj (mixd_get _ _ hjl)]
    rw [hsame] at s5;rw [hw2];exact ⟨⟨j + 1,rfl,hlt2,s5⟩,by simp; omega⟩
  ·have:j = 8:=by have:=of_decide_eq_false d2; omega
   subst this;have er:fL k.tabs[e] eW 8 = k.tabs[e]:=by have:=wI k.tabs[e] eW; rw [htab.1] at this; exact this
   rw [er,rD _ _ hlt] at s2;rw [hw];exact ⟨⟨e + 1,rfl,hlt,s2⟩,by simp; omega⟩
 ·have:e = k.tabs.length:=by rw [hx] at d; simp at d; omega
  subst this;rw [wI] at s1;exact copy7 (o:=⟨k.s,k.m,k.tabs,k.pool,oc⟩) ok ho hz rfl rfl rfl rfl oko sb s1
theorem refs_nat {p:List Int} {f:Nat} (h:f < p.length):Pool.refs p f = p[f]:=by
 unfold Pool.refs; rw [if_neg (by omega)]; simp [h]
theorem copy3 {zo z:PZ} {o k:PK} {h:Hp} (ok:PK.Ok k) (ho:zo.tp.length = k.tabs.length) (hz:z.tp.length = k.tabs.length) (es:o.s = k.s) (em:o.m = k.m) (et:o.tabs = replicate k.tabs.length (replicate 8 eW)) (ep:o.pool = replicate k.pool.length 1) (oko:fAa.Ok o.caps) (sb:fAa.Sub o.caps k.caps)
  (s0:ay (cpL zo z o k) h):Lp (jm (Done z k) (z.b,0) (some (zo.b,0)) k.s.fYa) 0 h:=by
 obtain ⟨os,om,ot,op,oc⟩:=o;simp only at es em et ep oko sb;subst es; subst em; subst et; subst ep;have hs:=jR.1 ok.sz;have hpl:=ok.pl;rw [← th k.pool 1] at s0;refine Lp.intro (fun (i:Int) h=>∃ f:Nat,i = f/\f <= k.pool.length/\ay (cpL zo z ⟨k.s,k.m,replicate k.tabs.length (replicate 8 eW),fL k.pool 1 f,oc⟩ k) h) (fun (i:Int) _=>k.pool.length - i.toNat) ⟨0,rfl,zero_le _,s0⟩ ?_;rintro i h ⟨f,rfl,hf,s1⟩;unfold jm;refine aX (fun d=>?_) (fun d=>?_)
 ·have hlt:f < k.pool.length:=by have:=of_decide_eq_true d; omega
  have hw:i64.wrap ((f:Int) + 1) = ((f + 1:Nat):Int):=by rw [bp (by omega) (by omega)]; rfl
  have hml:=mixd_len k.pool 1 hf;have hmg:=mixd_get k.pool 1 hlt;have hr7:=ok.pr _ (getElem_mem hlt);refine bt z.pp s1 (i:=6) rfl rfl rfl ?_;refine cc (xi z.pp k.pool f) (i:=10) rfl s1 fun r h2 hr s2=>?_;rw [refs_nat hlt] at hr;subst hr;have hw0:i64.wrap (k.pool[f] - 1) = k.pool[f] - 1:=bp (by omega) (by omega);refine Lp.intro (fun (i:Int) h=>∃ j:Nat,i = j/\(j:Int) <= max 0 (k.pool[f] - 1)/\ay (cpL zo z ⟨k.s,k.m,replicate k.tabs.length (replicate 8 eW),(fL k.pool 1 f).set f (1 + (j:Int)),oc⟩ k) h) (fun (i:Int) _=>(8 - i).toNat) ⟨0,rfl,by omega,?_⟩ ?_
  ·have:(fL k.pool 1 f).set f (1 + ((0:Nat):Int)) = fL k.pool 1 f:=by
    rw [show (1:Int) + ((0:Nat):Int) = 1 from rfl,jj hmg]
   rw [this]; exact s2
  rintro i h ⟨j,rfl,hj,s3⟩;have fx:f < ((fL k.pool 1 f).set f (1 + (j:Int))).length:=by rw [length_set,hml]; exact hlt
  have hgs:((fL k.pool 1 f).set f (1 + (j:Int)))[f] = 1 + (j:Int):=by simp
  unfold lS;rw [hw0];refine aX (fun d2=>?_) (fun d2=>?_)
  ·have hlt2:(j:Int) < k.pool[f] - 1:=of_decide_eq_true d2;have hw2:i64.wrap ((j:Int) + 1) = ((j + 1:Nat):Int):=by rw [bp (by omega) (by omega)]; rfl
   refine cL (bt zo.pp s3 (i:=0) rfl rfl rfl ?_);refine cc (sp_pool_Hold zo.pp _ f) (i:=4) rfl s3 fun r h4 hr s4=>?_;have eh:(Pool.hold ((fL k.pool 1 f).set f (1 + (j:Int))) f).2 = (fL k.pool 1 f).set f (1 + ((j + 1:Nat):Int)):=by
    unfold Pool.hold;rw [refs_nat fx,hgs,if_neg (by omega),toNat_natCast,set_set,bp (by omega) (by omega)]
    congr 1 <;> omega
   rw [eh] at s4;rw [hw2];exact ⟨⟨j + 1,rfl,by omega,s4⟩,by omega⟩
  ·have hge:¬ (j:Int) < k.pool[f] - 1:=of_decide_eq_false d2;rw [hw];refine aX (fun d3=>?_) (fun d3=>?_)
   ·have h0:k.pool[f] = 0:=by simpa using d3
    have hj0:j = 0:=by omega
    subst hj0;refine cL (bt zo.pp s3 (i:=0) rfl rfl rfl ?_);refine cc (sp_pool_Let zo.pp _ f) (i:=4) rfl s3 fun r h4 hr s4=>?_;have eh:(Pool.lets ((fL k.pool 1 f).set f (1 + ((0:Nat):Int))) f).2.2 = fL k.pool 1 (f + 1):=by
     unfold Pool.lets;rw [refs_nat fx,hgs,if_neg (by omega),toNat_natCast,set_set,bp (by omega) (by omega),← rD _ _ hlt,h0]
     rfl
    rw [eh] at s4;exact ⟨⟨f + 1,rfl,hlt,s4⟩,by simp; omega⟩
   ·have h0:k.pool[f] ≠ 0:=by simpa using d3
    have ej:1 + (j:Int) = k.pool[f]:=by omega
    rw [ej,rD _ _ hlt] at s3;exact ⟨⟨f + 1,rfl,hlt,s3⟩,by simp; omega⟩
 ·have:f = k.pool.length:=by have:=of_decide_eq_false d; omega
  subst this;rw [wI] at s1;have hzs:=(bY (j:=8) s1 rfl).1;refine bt z.ts s1 (i:=6) rfl rfl rfl ?_;exact copy5 (o:=⟨k.s,k.m,replicate k.tabs.length (replicate 8 eW),k.pool,oc⟩) ok ho hz (by omega) rfl rfl rfl rfl oko sb s1
theorem frame_nat {m:List (List Int)} {f:Nat} (h:f < m.length):Mem.frame m f = m[f]:=by
 have hh:Mem.has m f 0:=⟨by omega,by omega,by omega,by omega⟩
 unfold Mem.frame;rw [if_pos hh];simp [h]
theorem copy1 {zo z:PZ} {o k:PK} {h:Hp} (ok:PK.Ok k) (ho:zo.tp.length = k.tabs.length) (hz:z.tp.length = k.tabs.length) (es:o.s = k.s) (em:o.m = replicate k.m.length (replicate 16 0)) (et:o.tabs = replicate k.tabs.length (replicate 8 eW)) (ep:o.pool = replicate k.pool.length 0) (oko:fAa.Ok o.caps) (sb:fAa.Sub o.caps k.caps)
  (s0:ay (cpL zo z o k) h):Lp (jn (Done z k) (z.b,0) (some (zo.b,0)) k.s.fYa) 0 h:=by
 obtain ⟨os,om,ot,op,oc⟩:=o;simp only at es em et ep oko sb;subst es; subst em; subst et; subst ep;have hs:=jR.1 ok.sz;have hpl:=ok.pl;have hml:=ok.ml;have hpm:k.pool.length = k.m.length:=by omega
 rw [← th k.m] at s0;have ep0:replicate k.pool.length (0:Int) = fL (replicate k.pool.length (1:Int)) 0 0:=by rw [th]; simp
 rw [ep0] at s0;refine Lp.intro (fun (i:Int) h=>∃ f:Nat,i = f/\f <= k.m.length/\ay (cpL zo z ⟨k.s,fL k.m (replicate 16 0) f,replicate k.tabs.length (replicate 8 eW),fL (replicate k.pool.length (1:Int)) 0 f,oc⟩ k) h) (fun (i:Int) _=>k.m.length - i.toNat) ⟨0,rfl,zero_le _,s0⟩ ?_;rintro i h ⟨f,rfl,hf,s1⟩;unfold jn;refine aX (fun d=>?_) (fun d=>?_)
 ·have hlt:f < k.m.length:=by have:=of_decide_eq_true d; omega
  have hw:i64.wrap ((f:Int) + 1) = ((f + 1:Nat):Int):=by rw [bp (by omega) (by omega)]; rfl
  have hrow:=ok.mr _ (getElem_mem hlt);have hmx:=mixd_len k.m (replicate 16 (0:Int)) hf;have hmg:=mixd_get k.m (replicate 16 (0:Int)) hlt;refine bt z.pm s1 (i:=6) rfl rfl rfl ?_;refine ui (sp_mem_Frame z.pm k.m f) (i:=7) rfl s1 fun r33 h2 s2=>?_;rw [frame_nat hlt] at s2;have hrl:=(bY (j:=0) s2 rfl).1;have r0:replicate 16 (0:Int) = fL k.m[f] 0 0:=by rw [th,hrow]
  refine Lp.intro (fun (i:Int) h=>∃ j:Nat,i = j/\j <= 16/\ay (vU r33 k.m[f]::cpL zo z ⟨k.s,(fL k.m (replicate 16 0) f).set f (fL k.m[f] 0 j),replicate k.tabs.length (replicate 8 eW),fL (replicate k.pool.length (1:Int)) 0 f,oc⟩ k) h) (fun (i:Int) _=>16 - i.toNat) ⟨0,rfl,zero_le _,?_⟩ ?_
  ·rw [← r0,jj hmg]; exact s2
  rintro i h ⟨j,rfl,hj,s3⟩;unfold lT;refine aX (fun d2=>?_) (fun d2=>?_)
  ·have hlt2:j < 16:=by rw [hrl,hrow] at d2; have:=of_decide_eq_true d2; omega
   have hjl:j < k.m[f].length:=by omega
   have hw2:i64.wrap ((j:Int) + 1) = ((j + 1:Nat):Int):=by rw [bp (by omega) (by omega)]; rfl
   refine cU s3 (j:=0) rfl (by omega) (by omega) fun q hq=>?_;refine cX (j:=0) (i:=j) (k:=0) k.m[f][j] (cf _) s3 rfl hq (by simp) (aB hjl) (by simp) ?_;refine cL (bt zo.pm s3 (i:=1) rfl rfl rfl ?_);refine cc (mC zo.pm _ f j k.m[f][j]) (i:=2) rfl s3 fun r h4 hr s4=>?_;have es:(Mem.store ((fL k.m (replicate 16 0) f).set f (fL k.m[f] 0 j)) f j k.m[f][j]).2 = (fL k.m (replicate 16 0) f).set f (fL k.m[f] 0 (j + 1)):=by
    have hh:Mem.has ((fL k.m (replicate 16 0) f).set f (fL k.m[f] 0 j)) f j:=⟨by omega,by simp only [length_set,hmx]; omega,by omega,by omega⟩
    unfold Mem.store;rw [if_pos hh];unfold Mem.put;simp only [toNat_natCast];have hg:((fL k.m (replicate 16 0) f).set f (fL k.m[f] 0 j)).getD f [] = fL k.m[f] 0 j:=by rw [List.getD_eq_getElem?_getD,List.getElem?_set,if_pos rfl,if_pos (by rw [hmx]; exact hlt)]; rfl
    rw [hg,set_set,rD _ _ hjl]
   rw [es] at s4;rw [hw2];exact ⟨⟨j + 1,rfl,hlt2,s4⟩,by simp; omega⟩
  ·have:j = 16:=by rw [hrl,hrow] at d2; have:=of_decide_eq_false d2; omega
   subst this;have er:fL k.m[f] 0 16 = k.m[f]:=by have:=wI k.m[f] (0:Int); rw [hrow] at this; exact this
   rw [er,rD _ _ hlt] at s3;refine cL (bt zo.pp s3 (i:=1) rfl rfl rfl ?_);refine cc (xh zo.pp _) (i:=5) rfl s3 fun r h4 hr s4=>?_;rw [take_mixd (by omega)] at s4;rw [hw];exact ⟨⟨f + 1,rfl,hlt,ce (l:=[vU r33 k.m[f]]) s4⟩,by simp; omega⟩
 ·have:f = k.m.length:=by have:=of_decide_eq_false d; omega
  subst this;have ea:fL (replicate k.pool.length (1:Int)) 0 k.m.length = replicate k.pool.length 1:=by
   have:=wI (replicate k.pool.length (1:Int)) 0;rw [length_replicate,hpm] at this;rw [hpm]; exact this
  rw [wI,ea] at s1;refine bt k.s.fYa s1 (i:=6) rfl rfl rfl ?_;exact copy3 (o:=⟨k.s,k.m,replicate k.tabs.length (replicate 8 eW),replicate k.pool.length 1,oc⟩) ok ho hz rfl rfl rfl rfl oko sb s1
theorem three {s:gX} {z:PZ}:∀ (i:Nat) (v:Value),(aK.C s)[i]? = some v->(qR s z)[0 + 0 + i]? = some v:=by
 intro j v hv;have:j < 3:=(List.getElem?_eq_some_iff.1 hv).1
 match j,this with
 | 0,_=>exact hv
 | 1,_=>exact hv
 | 2,_=>exact hv
theorem vx (x:Ptr) (k:PK):Sp prog hO [pv x] eA [bB x k] (fun r=>ay [bB r k,bB x k]):=by
 intro h s0;obtain ⟨z,rfl,h1,ok,hl,st⟩:=ge s0;have hs:=jR.1 ok.sz;refine sim_plain_Kernel_Copy _ ?_;unfold rv;refine dN rfl (cL ?_);refine ld_s (i:=0) k.s st rfl (fun i v hv=>by simpa using three i v hv) ?_;refine nl (sN k.s ok.sz) st fun r h2 s2=>?_;obtain ⟨zo,rfl,ho,okn,hlo,s3⟩:=ge s2;refine bt k.s.fYa s3 (i:=6) rfl rfl rfl ?_;have e1:k.s.fYa.toNat = k.m.length:=by have:=ok.ml; omega
 have e2:k.s.fIa.toNat = k.tabs.length:=by have:=ok.tl; omega
 have e3:k.s.fYa.toNat = k.pool.length:=by have:=ok.pl; omega
 have e4:k.s.fIa.toNat = k.caps.length:=by have:=ok.cl; omega
 refine copy1 (o:=PK.new k.s) ok ?_ h1 rfl (by simp only [PK.new,e1]) (by simp only [PK.new,e2]) (by simp only [PK.new,e3]) okn.tree ⟨by simp only [PK.new,length_replicate,e4],fun e s hh=>.inl ?_⟩ s3
 ·rw [ho]; simp only [PK.new,length_replicate,e2]
 ·obtain ⟨a,b,rfl,rfl,ha,hb⟩:=fAa.has_nat hh;simp only [fAa.get,PK.new,e4,toNat_natCast,List.getD_eq_getElem?_getD,List.getElem?_replicate,if_pos ha,Option.getD_some,if_pos hb]
end
section
open Go Mb
def eF (a2:Int) (a3:Int) (q22:Nat × Nat) (Rec9:kT (Sl × Int)) (s8:Sl × Int) (x49:aq) (s22:Bool):hT:=br s22 ( ld (q22.1,q22.2 + 4) cP fun x65=>cl prog hO [(pv x65)] eA fun r66=>cl prog dP [(pv r66),(.int .i64 x49.fCa),(.agg (al.C x49.fHa).toArray)] bq fun r72=>cl prog gj [(pv r66),(.int .i64 a2),(.int .i64 a3)] cF fun r77=>hpv prog (Instr.buildSlice qC 1 #[(0,(.agg (an.C r77.1).toArray))]) qY fun (v82:Sl)=>hpv prog (Builtin.append_ #[qC,qC] qC #[(sv s8.1),(sv v82)]) qY fun (v83:Sl)=>Rec9 (v83,(i64.wrap (s8.2 + 1)))) ( Rec9 (s8.1,(i64.wrap (s8.2 + 1))))
def lx (a2:Int) (a3:Int) (K:kT Sl) (q22:Nat × Nat) (r37:Sl) (Rec9:kT (Sl × Int)) (s8:Sl × Int):hT:=br (decide (s8.2 < (r37.len:Int))) ( ix r37 s8.2 fun q41=>ld (q41.1,q41.2 + Int.toNat s8.2 * 1) (cI .i64) fun x42=>ld (q22.1,q22.2 + 0) cS fun x46=>ix x46 x42 fun q48=>ld (q48.1,q48.2 + Int.toNat x42 * 16) aq.C fun x49=>br (((aH x49.fHa).1) == 7) ( eF a2 a3 q22 Rec9 s8 x49 (((aH x49.fHa).1) == 7)) ( br (((aH x49.fHa).1) == 8) ( eF a2 a3 q22 Rec9 s8 x49 (((aH x49.fHa).1) == 8)) ( br (((aH x49.fHa).1) == 4) ( eF a2 a3 q22 Rec9 s8 x49 (((aH x49.fHa).1) == 4)) ( eF a2 a3 q22 Rec9 s8 x49 (((aH x49.fHa).1) == 5))))) ( K s8.1)
def qo (a0:Ptr) (a1:Int) (a2:Int) (a3:Int) (K:kT Sl):hT:=nn a0 fun q22=>ld (q22.1,q22.2 + 4) cP fun x24=>cl prog gj [(pv x24),(.int .i64 a2),(.int .i64 a3)] cF fun r27=>hpv prog (Instr.buildSlice qC 1 #[(0,(.agg (an.C r27.1).toArray))]) qY fun (v31:Sl)=>ld (q22.1,q22.2 + 0) cS fun x35=>cl prog vg [(sv x35),(.int .i64 a1)] aU fun r37=>Lp (lx a2 a3 K q22 r37) (v31,0)
theorem xy (a0:Ptr) (a1:Int) (a2:Int) (a3:Int) {K:kT Sl} {h:Hp} (H:qo a0 a1 a2 a3 K h):cl prog mg [(pv a0),(.int .i64 a1),(.int .i64 a2),(.int .i64 a3)] qY K h:=z_i func140 p p fun _=>O<|U p<|O<|M p<|bL H fun q22 e1 H2=>J (aP<|aJ p<|au e1)<|J (ae wM p)<|aa<|aY H2 wA p (fun _=>p) p fun x24 H3=>M p<|M p<|aa<|G H3 en_77 fun r27 _ H4=>M p<|J (aj p p)<|J (aj p p)<|aa<|aT (l:=an.C (⟨0,0,0⟩:an)) fo p p fun b9=>aa<|aV (k:=0) (vs:=an.C r27.1) dp p p p p p p p<|U p<|O<|bo (bK (k:=0) eu p p p p) p<|aa<|aF H4 (bh (vs:=[(.agg (an.C r27.1).toArray)]) p) p fun v31 _ H5=>U p<|ai<|O<|M (aJ p<|au e1)<|J (aP p)<|J (ae fld_156_0 p)<|aa<|aY H5 sc_22 p (fun _=>p) p fun x35 H6=>M p<|aa<|G H6 en_8 fun r37 _ H7=>J (dh p underlying27 p)<|M p<|ad<|aw<|bv (step:=lx a2 a3 K q22 r37) (fun s8=>[(0,(pv a0)),(2,(.int .i64 a2)),(3,(.int .i64 a3)),(11,(sv s8.1)),(37,(sv r37)),(38,(.int .i64 (r37.len:Int))),(39,(.int .i64 s8.2))]) (fun s8=>[]) H7 (.cons p<|.cons p<|.cons p<|.cons p<|.cons p<|.cons p<|.cons p<|.nil _) (.cons _ .slnil) fun Rec9 s8 _ H10=>O<|J (bZ p p)<|ad<|ai<|av p H10 (fun k11 H12=>ak<|ai<|aw<|O<|cm H12 fun q41 e13 h14 H15=>J (aW dz (aJ p<|aM e13) p h14)<|aa<|aY H15 aR p (fun _=>p) p fun x42 H16=>U p<|O<|M (aJ p<|au e1)<|J (aP p)<|J (ae fld_156_0 p)<|aa<|aY H16 sc_22 p (fun _=>p) p fun x46 H17=>M p<|cm H17 fun q48 e18 h19 H20=>J (aW cQ (aJ p<|aM e18) p h19)<|aa<|ga H20 pV p (fun _=>p) p fun x49 H21=>aa<|aT (l:=aq.C (⟨0,0,(⟨0,0,0,0,0⟩:al),0,0,0,(⟨0,0⟩:ac),(⟨0,0,0,0⟩:ao)⟩:aq)) zero_40 p p fun b14=>aa<|aV (k:=0) (vs:=aq.C x49) inf_40 p p p p p p p<|ad<|O<|J (ae nF p)<|bo (bK (k:=0) fS p p p p) p<|aa<|cu (vs:=[(.agg (al.C x49.fHa).toArray)]) (bu<|kI x49.fHa _) en_44 p p<|M p<|J (aj p p)<|J (aj p p)<|J (ar p)<|U p<|O<|M p<|ad<|aw<|dY (eF a2 a3 q22 Rec9 s8 x49) (fun s22=>[(0,(pv a0)),(2,(.int .i64 a2)),(3,(.int .i64 a3)),(11,(sv s8.1)),(14,(.pointer (some ⟨b14,0,none⟩))),(37,(sv r37)),(38,(.int .i64 (r37.len:Int))),(39,(.int .i64 s8.2)),(57,(.bool s22))]) (fun s22=>[bx b14 40 (aq.C x49)]) (O<|J (bM p p)<|U p<|av p H21 (fun k32 H33=>ak<|ct (((aH x49.fHa).1) == 7) H33 (.cons p<|.cons p<|.cons p<|.cons p<|.cons p<|.cons p<|.cons p<|.cons p<|.cons p<|.nil _)<|.cons_cons _ .slnil) fun k32 H33=>O<|J (bM p p)<|U p<|av p H33 (fun k34 H35=>ak<|ct (((aH x49.fHa).1) == 8) H35 (.cons p<|.cons p<|.cons p<|.cons p<|.cons p<|.cons p<|.cons p<|.cons p<|.cons p<|.nil _)<|.cons_cons _ .slnil) fun k34 H35=>O<|J (bM p p)<|U p<|av p H35 (fun k36 H37=>ak<|ct (((aH x49.fHa).1) == 4) H37 (.cons p<|.cons p<|.cons p<|.cons p<|.cons p<|.cons p<|.cons p<|.cons p<|.cons p<|.nil _)<|.cons_cons _ .slnil) fun k36 H37=>am<|J (bM p p)<|U p<|ct (((aH x49.fHa).1) == 5) H37 (.cons p<|.cons p<|.cons p<|.cons p<|.cons p<|.cons p<|.cons p<|.cons p<|.cons p<|.nil _)<|.cons_cons _ .slnil) fun s22 _ H23=>av p H23 (fun k24 H25=>O<|M (aJ p<|au e1)<|J (aP p)<|J (ae wM p)<|aa<|aY H25 wA p (fun _=>p) p fun x65 H26=>aa<|G H26 en_141 fun r66 _ H27=>U p<|O<|M p<|J (ae ms p)<|bo (bc (k:=0) aR p p p) p<|J (ae nF p)<|bo (bK (k:=0) fS p p p p) p<|aa<|G H27 en_52 fun r72 _ H28=>ad<|O<|M p<|M p<|M p<|aa<|G H28 en_77 fun r77 _ H29=>M p<|J (aj p p)<|J (aj p p)<|aa<|aT (l:=an.C (⟨0,0,0⟩:an)) fo p p fun b18=>aa<|aV (k:=0) (vs:=an.C r77.1) dp p p p p p p p<|U p<|am<|M p<|bo (bK (k:=0) eu p p p p) p<|aa<|aF H29 (bh (vs:=[(.agg (an.C r77.1).toArray)]) p) p fun v82 _ H30=>aa<|aF H30 (bz p p) p fun v83 _ H31=>U p<|am<|J (bb p p)<|M p<|ad<|bU (v83,(i64.wrap (s8.2 + 1))) H31 (.cons p<|.cons p<|.cons p<|.cons p<|.cons p<|.cons p<|.cons p<|.nil _)<|.cons _<|.cons _ .slnil) fun k24 H25=>ak<|am<|J (bb p p)<|M p<|ad<|bU (s8.1,(i64.wrap (s8.2 + 1))) H25 (.cons p<|.cons p<|.cons p<|.cons p<|.cons p<|.cons p<|.cons p<|.nil _)<|.cons _ .slnil) fun k11 H12=>bf<|O<|M p<|U p<|ah<|F ⟨s8.1,p,H12⟩
def ly (a1:aq) (K:kT Bool) (q18:Nat × Nat) (r50:Sl) (Rec13:kT (Bool × Bool × Int)) (s12:Bool × Bool × Int):hT:=br (decide (s12.2.2 < (r50.len:Int))) ( ix r50 s12.2.2 fun q54=>ld (q54.1,q54.2 + Int.toNat s12.2.2 * 3) an.C fun x55=>Rec13 ((s12.1 || (!(dE x55.fBa (i64.wrap a1.fHa.e0)))),(s12.2.1 || ((x55.fFa == a1.fPa.fFa) && (bm a1.fPa.fBa x55.fBa))),(i64.wrap (s12.2.2 + 1)))) ( br (a1.fWa.fSa == 7) ( K ((s12.1 && (a1.fWa.fVal == 0)) && (ao.eqb a1.fPa (⟨0,0,0,0⟩:ao)))) ( ld (q18.1,q18.2 + 4) cP fun x103=>cl prog hO [(pv x103)] eA fun r104=>cl prog fE [(pv r104),(.int .i64 a1.fPa.fFa),(.agg (al.C a1.fHa).toArray)] bq fun r110=>K (((s12.2.1 && (((a1.fPa.fCa == a1.fCa) && (a1.fPa.fVa == (i64.wrap a1.fHa.e1))) && (dE a1.fPa.fBa (i64.wrap a1.fHa.e0)))) && r110.2) && (ac.eqb r110.1 a1.fWa))))
def qp (a0:Ptr) (a1:aq) (K:kT Bool):hT:=nn a0 fun q18=>ld (q18.1,q18.2 + 1 + 1) (cI .i64) fun x21=>cl prog im [(.agg (al.C a1.fHa).toArray),(.int .i64 x21)] bn fun r22=>br (r22 != 0) ( K ((ac.eqb a1.fWa (⟨r22,0⟩:ac)) && (ao.eqb a1.fPa (⟨0,0,0,0⟩:ao)))) ( cl prog mg [(.pointer (some ⟨q18.1,q18.2,none⟩)),(.int .i64 a1.fDa),(.int .i64 a1.fCa),(.int .i64 (i64.wrap a1.fHa.e1))] qY fun r50=>Lp (ly a1 K q18 r50) (false,false,0))
theorem xz (a0:Ptr) (a1:aq) {K:kT Bool} {h:Hp} (H:qp a0 a1 K h):cl prog mh [(pv a0),(.agg (aq.C a1).toArray)] aD K h:=z_i func97 p p fun _=>O<|aa<|cz (l:=aq.C a1) p p p fun b3=>U p<|ai<|ai<|bk (n:=9) [bx b3 40 (aq.C a1)] ch p (.cons_cons _ .slnil)<|V 0 p (ae nF p)<|z_E 1 p (eP (k:=0) fS p p p p)<|V 2 p (ag p)<|ip H fun q18 e1 H2=>V 3 p (aP<|aJ p<|au e1)<|V 4 p (ae fld_156_1 p)<|V 5 p (ae mu p)<|bw (i:=6) (fun _ _ _ _ hh=>hh) H2 p (by kernel_rfl) aR p (fun _=>p) p fun x21 H3=>R 7 p<|G H3 en_72 fun r22 _ H4=>⟨.cons_cons _ .slnil,V 8 p (ar p)<|aG (by kernel_rfl)<|O<|M p<|J (nS p p)<|ad<|av p H4 (fun k5 H6=>O<|J (ae kQ p)<|bo (bK (k:=0) cJ p p p p) p<|M p<|J (bg p<|jH r22)<|J (v_eqA eqg_36 (eqr_36 9998 _ _) p p)<|M p<|W p p (aA _) (fun g7=>wv<|ae gG p)<|W p p (aA _) (fun g8=>cv<|bK (k:=0) iA (aC p g8) p p p)<|W p p (aA _) (fun g9=>wv<|bg (vs:=[]) p my)<|W p p (aA _) (fun g10=>wv<|v_eqA eqg_38 (eqr_38 9998 _ _) (aC p g10)<|aC p g10)<|J (bN p p)<|U p<|ah<|F ⟨((ac.eqb a1.fWa (⟨r22,0⟩:ac)) && (ao.eqb a1.fPa (⟨0,0,0,0⟩:ao))),p,H6⟩) fun k5 H6=>ak<|ai<|bk (n:=10) [bx b3 40 (aq.C a1)] ch p (.cons_cons _ .slnil)<|V 0 p (ae nF p)<|V 1 p (bH dw p p (by decide))<|z_E 2 p (cA (k:=0) cC p p p)<|V 3 p (dB ⟨_,underlying31⟩ underlying3 p)<|V 4 p (ae nF p)<|V 5 p (bH dw p p (by decide))<|z_E 6 p (cA (k:=0) cC p p p)<|V 7 p (dB ⟨_,underlying31⟩ underlying3 p)<|V 8 p (ar p)<|V 9 p (ar p)<|aG (by kernel_rfl)<|O<|J (ar p)<|U p<|ai<|O<|M (aJ p<|au e1)<|J (ae cR p)<|bo (bc (k:=0) aR p p p) p<|J (ae ms p)<|bo (bc (k:=0) aR p p p) p<|M p<|aa<|G H6 en_140 fun r50 _ H11=>J (dh p underlying202 p)<|M p<|ad<|aw<|bv (step:=ly a1 K q18 r50) (fun s12=>[(0,(pv a0)),(3,(.pointer (some ⟨b3,0,none⟩))),(6,(.int .i64 (i64.wrap a1.fHa.e1))),(7,(.int .i64 (i64.wrap a1.fHa.e0))),(8,(.bool s12.1)),(9,(.bool s12.2.1)),(50,(sv r50)),(51,(.int .i64 (r50.len:Int))),(52,(.int .i64 s12.2.2))]) (fun s12=>[bx b3 40 (aq.C a1)]) H11 (.cons p<|.cons p<|.cons p<|.cons p<|.cons p<|.cons p<|.cons p<|.cons p<|.cons p<|.nil _) (.cons_cons _ .slnil) fun Rec13 s12 _ H14=>O<|J (bZ p p)<|ad<|ai<|av p H14 (fun k15 H16=>ak<|ai<|aw<|O<|cm H16 fun q54 e17 h18 H19=>J (aW slc_202 (aJ p<|aM e17) p h18)<|aa<|ga H19 eu p (fun _=>p) p fun x55 H20=>aa<|aT (l:=an.C (⟨0,0,0⟩:an)) fo p p fun b11=>aa<|aV (k:=0) (vs:=an.C x55) dp p p p p p p p<|ad<|O<|M p<|M p<|W p p (aL _) (fun g21=>wv<|ae eC p)<|W p p (aL _) (fun g22=>cv<|bc (k:=0) aR (aC p g22) p p)<|W p p (aL _) (fun g23=>wv<|ag p)<|dk (vs:=[(.int .i64 x55.fBa),(.int .i64 (i64.wrap a1.fHa.e0))]) p p p (aL _) (fun g24=>bu<|kv x55.fBa (i64.wrap a1.fHa.e0) _) en_120 (fun g24=>aZ (aC p g24)<|aZ (aC p g24) bX) p<|W p p (aL _) (fun g25=>wv<|cw<|aC p g25)<|J (dy p p)<|U p<|am<|M p<|M p<|W p p (aL _) (fun g26=>wv<|ae oP p)<|W p p (aL _) (fun g27=>cv<|bc (k:=0) aR (aC p g27) p p)<|W p p (aL _) (fun g28=>wv<|ae gG p)<|W p p (aL _) (fun g29=>wv<|ae mt<|aC p g29)<|W p p (aL _) (fun g30=>cv<|bc (k:=1) aR (aC p g30) p p)<|W p p (aL _) (fun g31=>wv<|bM (aC p g31)<|aC p g31)<|W p p (aL _) (fun g32=>wv<|ag<|aC p g32)<|W p p (eq _ _) (fun g33=>wv<|ae gG p)<|W p p (eq _ _) (fun g34=>wv<|ae rG<|aC p g34)<|W p p (eq _ _) (fun g35=>cv<|bc (k:=1) aR (aC p g35) p p)<|W p p (eq _ _) (fun g36=>wv<|ae eC p)<|W p p (eq _ _) (fun g37=>cv<|bc (k:=0) aR (aC p g37) p p)<|dk (vs:=[(.int .i64 a1.fPa.fBa),(.int .i64 x55.fBa)]) p p p (eq _ _) (fun g38=>bu<|du a1.fPa.fBa x55.fBa _) sH (fun g38=>aZ (aC p g38)<|aZ (aC p g38) bX) p<|W p p (aL _) (fun g39=>wv<|bN (aC p g39)<|aJ p<|ol g39)<|J (dy p p)<|U p<|am<|J (bb p p)<|M p<|ad<|bU ((s12.1 || (!(dE x55.fBa (i64.wrap a1.fHa.e0)))),(s12.2.1 || ((x55.fFa == a1.fPa.fFa) && (bm a1.fPa.fBa x55.fBa))),(i64.wrap (s12.2.2 + 1))) H20 (.cons p<|.cons p<|.cons p<|.cons p<|.cons p<|.cons p<|.cons p<|.cons p<|.cons p<|.nil _)<|.cons _<|.cons_cons _ .slnil) fun k15 H16=>bf<|ai<|O<|J (ae kQ p)<|J (ae kS p)<|bo (bc (k:=0) py p p p) p<|J (bM p p)<|ad<|av p H16 (fun k40 H41=>O<|M p<|M p<|W p p (aA _) (fun g42=>wv<|ae kQ p)<|W p p (aA _) (fun g43=>wv<|ae fld_36_1<|aC p g43)<|W p p (aA _) (fun g44=>cv<|bc (k:=0) cC (aC p g44) p p)<|W p p (aA _) (fun g45=>wv<|bM (aC p g45) p)<|J (bN p p)<|M p<|W p p (aA _) (fun g46=>wv<|ae gG p)<|W p p (aA _) (fun g47=>cv<|bK (k:=0) iA (aC p g47) p p p)<|W p p (aA _) (fun g48=>wv<|bg (vs:=[]) p my)<|W p p (aA _) (fun g49=>wv<|v_eqA eqg_38 (eqr_38 9998 _ _) (aC p g49)<|aC p g49)<|J (bN p p)<|U p<|ah<|F ⟨((s12.1 && (a1.fWa.fVal == 0)) && (ao.eqb a1.fPa (⟨0,0,0,0⟩:ao))),p,H41⟩) fun k40 H41=>ak<|ai<|bk (n:=17) [bx b3 40 (aq.C a1)] ch p (.cons_cons _ .slnil)<|V 0 p (ag<|aJ p<|au e1)<|V 1 p (aP p)<|V 2 p (ae wM p)<|V 5 p (ae gG p)<|V 6 p (ae mt p)<|z_E 7 p (cA (k:=0) aR p p p)<|V 8 p (ae nF p)<|z_E 9 p (eP (k:=0) fS p p p p)<|bw (i:=3) (fun _ _ _ _ hh=>hh) H41 p (by kernel_rfl) wA p (fun _=>p) p fun x103 H50=>fJ (i:=4) (j:=14) (by kernel_rfl) (bF p p<|G H50 en_141 fun r104 _ H52=>⟨.cons_cons _ .slnil,fJ (i:=10) (j:=14) (by kernel_rfl) (bF p p<|G H52 en_76 fun r110 _ H54=>⟨.cons_cons _ .slnil,V 11 p (ag p)<|V 12 p (aj p p)<|V 13 p (aj p p)<|R 14 p<|aT (l:=ac.C (⟨0,0⟩:ac)) dv p p fun b12=>⟨.cons _<|.cons_cons _ .slnil,R 15 p<|aV (k:=0) (vs:=ac.C r110.1) bR p p p p p p p ⟨.cons _<|.cons_cons _ .slnil,V 16 p (ar p)<|aG (by kernel_rfl)<|O<|J (ae gG p)<|J (ae kR p)<|bo (bc (k:=1) aR p p p) p<|J (ae ms p)<|bo (bc (k:=1) aR p p p) p<|J (bM p p)<|M p<|W p p (aA _) (fun g55=>wv<|ae gG p)<|W p p (aA _) (fun g56=>wv<|ae nG<|aC p g56)<|W p p (aA _) (fun g57=>cv<|bc (k:=1) aR (aC p g57) p p)<|W p p (aA _) (fun g58=>wv<|ag p)<|W p p (aA _) (fun g59=>wv<|bM (aC p g59)<|aC p g59)<|J (bN p p)<|M p<|W p p (aA _) (fun g60=>wv<|ae gG p)<|W p p (aA _) (fun g61=>wv<|ae rG<|aC p g61)<|W p p (aA _) (fun g62=>cv<|bc (k:=1) aR (aC p g62) p p)<|W p p (aA _) (fun g63=>wv<|ag p)<|dk (vs:=[(.int .i64 a1.fPa.fBa),(.int .i64 (i64.wrap a1.fHa.e0))]) p p p (aA _) (fun g64=>bu<|kv a1.fPa.fBa (i64.wrap a1.fHa.e0) _) en_120 (fun g64=>aZ (aC p g64)<|aZ (aC p g64) bX) p<|J (bN p p)<|U p<|O<|M p<|M p<|W p p (aA _) (fun g65=>wv<|ag p)<|J (bN p p)<|M p<|W p p (aA _) (fun g66=>wv<|ag p)<|J (bN p p)<|M p<|W p p (aA _) (fun g67=>cv<|bK (k:=0) cJ p p p p)<|W p p (aA _) (fun g68=>wv<|ae kQ p)<|W p p (aA _) (fun g69=>cv<|bK (k:=1) cJ (aC p g69) p p p)<|W p p (aA _) (fun g70=>wv<|v_eqA eqg_36 (eqr_36 9998 _ _) (aC p g70)<|aC p g70)<|J (bN p p)<|U p<|ah<|F ⟨(((s12.2.1 && (((a1.fPa.fCa == a1.fCa) && (a1.fPa.fVa == (i64.wrap a1.fHa.e1))) && (dE a1.fPa.fBa (i64.wrap a1.fHa.e0)))) && r110.2) && (ac.eqb r110.1 a1.fWa)),p,H54⟩⟩⟩⟩)<|bF p p<|aT (l:=ac.C (⟨0,0⟩:ac)) dv p p fun b12=>⟨.cons _<|.cons_cons _ .slnil,R 10 p<|G H52 en_76 fun r110 _ H54=>⟨.cons _<|.cons_cons _ .slnil,V 11 p (ag p)<|V 12 p (aj p p)<|V 13 p (aj p p)<|R 15 p<|aV (k:=0) (vs:=ac.C r110.1) bR p p p p p p p ⟨.cons _<|.cons_cons _ .slnil,V 16 p (ar p)<|aG (by kernel_rfl)<|O<|J (ae gG p)<|J (ae kR p)<|bo (bc (k:=1) aR p p p) p<|J (ae ms p)<|bo (bc (k:=1) aR p p p) p<|J (bM p p)<|M p<|W p p (aA _) (fun g55=>wv<|ae gG p)<|W p p (aA _) (fun g56=>wv<|ae nG<|aC p g56)<|W p p (aA _) (fun g57=>cv<|bc (k:=1) aR (aC p g57) p p)<|W p p (aA _) (fun g58=>wv<|ag p)<|W p p (aA _) (fun g59=>wv<|bM (aC p g59)<|aC p g59)<|J (bN p p)<|M p<|W p p (aA _) (fun g60=>wv<|ae gG p)<|W p p (aA _) (fun g61=>wv<|ae rG<|aC p g61)<|W p p (aA _) (fun g62=>cv<|bc (k:=1) aR (aC p g62) p p)<|W p p (aA _) (fun g63=>wv<|ag p)<|dk (vs:=[(.int .i64 a1.fPa.fBa),(.int .i64 (i64.wrap a1.fHa.e0))]) p p p (aA _) (fun g64=>bu<|kv a1.fPa.fBa (i64.wrap a1.fHa.e0) _) en_120 (fun g64=>aZ (aC p g64)<|aZ (aC p g64) bX) p<|J (bN p p)<|U p<|O<|M p<|M p<|W p p (aA _) (fun g65=>wv<|ag p)<|J (bN p p)<|M p<|W p p (aA _) (fun g66=>wv<|ag p)<|J (bN p p)<|M p<|W p p (aA _) (fun g67=>cv<|bK (k:=0) cJ p p p p)<|W p p (aA _) (fun g68=>wv<|ae kQ p)<|W p p (aA _) (fun g69=>cv<|bK (k:=1) cJ (aC p g69) p p p)<|W p p (aA _) (fun g70=>wv<|v_eqA eqg_36 (eqr_36 9998 _ _) (aC p g70)<|aC p g70)<|J (bN p p)<|U p<|ah<|F ⟨(((s12.2.1 && (((a1.fPa.fCa == a1.fCa) && (a1.fPa.fVa == (i64.wrap a1.fHa.e1))) && (dE a1.fPa.fBa (i64.wrap a1.fHa.e0)))) && r110.2) && (ac.eqb r110.1 a1.fWa)),p,H54⟩⟩⟩⟩⟩)<|bF p p<|aT (l:=ac.C (⟨0,0⟩:ac)) dv p p fun b12=>⟨.cons _<|.cons_cons _ .slnil,R 4 p<|G H50 en_141 fun r104 _ H52=>⟨.cons _<|.cons_cons _ .slnil,R 10 p<|G H52 en_76 fun r110 _ H53=>⟨.cons _<|.cons_cons _ .slnil,V 11 p (ag p)<|V 12 p (aj p p)<|V 13 p (aj p p)<|R 15 p<|aV (k:=0) (vs:=ac.C r110.1) bR p p p p p p p ⟨.cons _<|.cons_cons _ .slnil,V 16 p (ar p)<|aG (by kernel_rfl)<|O<|J (ae gG p)<|J (ae kR p)<|bo (bc (k:=1) aR p p p) p<|J (ae ms p)<|bo (bc (k:=1) aR p p p) p<|J (bM p p)<|M p<|W p p (aA _) (fun g54=>wv<|ae gG p)<|W p p (aA _) (fun g55=>wv<|ae nG<|aC p g55)<|W p p (aA _) (fun g56=>cv<|bc (k:=1) aR (aC p g56) p p)<|W p p (aA _) (fun g57=>wv<|ag p)<|W p p (aA _) (fun g58=>wv<|bM (aC p g58)<|aC p g58)<|J (bN p p)<|M p<|W p p (aA _) (fun g59=>wv<|ae gG p)<|W p p (aA _) (fun g60=>wv<|ae rG<|aC p g60)<|W p p (aA _) (fun g61=>cv<|bc (k:=1) aR (aC p g61) p p)<|W p p (aA _) (fun g62=>wv<|ag p)<|dk (vs:=[(.int .i64 a1.fPa.fBa),(.int .i64 (i64.wrap a1.fHa.e0))]) p p p (aA _) (fun g63=>bu<|kv a1.fPa.fBa (i64.wrap a1.fHa.e0) _) en_120 (fun g63=>aZ (aC p g63)<|aZ (aC p g63) bX) p<|J (bN p p)<|U p<|O<|M p<|M p<|W p p (aA _) (fun g64=>wv<|ag p)<|J (bN p p)<|M p<|W p p (aA _) (fun g65=>wv<|ag p)<|J (bN p p)<|M p<|W p p (aA _) (fun g66=>cv<|bK (k:=0) cJ p p p p)<|W p p (aA _) (fun g67=>wv<|ae kQ p)<|W p p (aA _) (fun g68=>cv<|bK (k:=1) cJ (aC p g68) p p p)<|W p p (aA _) (fun g69=>wv<|v_eqA eqg_36 (eqr_36 9998 _ _) (aC p g69)<|aC p g69)<|J (bN p p)<|U p<|ah<|F ⟨(((s12.2.1 && (((a1.fPa.fCa == a1.fCa) && (a1.fPa.fVa == (i64.wrap a1.fHa.e1))) && (dE a1.fPa.fBa (i64.wrap a1.fHa.e0)))) && r110.2) && (ac.eqb r110.1 a1.fWa)),p,H53⟩⟩⟩⟩⟩⟩
def sy (a0:Ptr) (a1:aq) (K:kT Bool):hT:=br (a1.fWa.fSa == 0) ( nn a0 fun q13=>ld (q13.1,q13.2 + 1 + 1) (cI .i64) fun x16=>cl prog im [(.agg (al.C a1.fHa).toArray),(.int .i64 x16)] bn fun r17=>br (r17 == 0) ( K (a1.fPa.fBa != 0)) ( K false)) ( K false)
theorem sim_judge_judge_well (a0:Ptr) (a1:aq) {K:kT Bool} {h:Hp} (H:sy a0 a1 K h):cl prog oa [(pv a0),(.agg (aq.C a1).toArray)] aD K h:=z_i func98 p p fun _=>O<|aa<|cz (l:=aq.C a1) p p p fun b3=>U p<|ai<|bk (n:=22) [bx b3 40 (aq.C a1)] ch p (.cons_cons _ .slnil)<|V 0 p (ae kQ p)<|V 1 p (ae kS p)<|z_E 2 p (cA (k:=0) py p p p)<|V 3 p (bM p p)<|V 4 p (ag p)<|dX H (fun k1 H2=>I 5 p (Z k1) (ve<|ae nF p)<|I 6 p (Z k1) (eP (k:=0) fS p p p p)<|I 7 p (Z k1) (ve<|ag p)<|ip H2 fun q13 e3 H4=>I 8 p (Z k1) (ve<|aP<|aJ p<|au e3)<|I 9 p (Z k1) (ve<|ae fld_156_1 p)<|I 10 p (Z k1) (ve<|ae mu p)<|cD (i:=11) (fun _ _ _ _ hh=>hh) H4 p (by kernel_rfl) p p p (Z k1) aR p (fun _=>p) p fun x16 H5=>eva_1 (i:=12) (by kernel_rfl)<|way_on p p p p (Z k1)<|G H5 en_72 fun r17 _ H6=>⟨.cons_cons _ .slnil,I 13 p (Z k1) (ve<|bM p p)<|V 14 p (aI p k1 p)<|V 15 p (ag p)<|dX H6 (fun k7 H8=>I 16 p (Z k7) (ve<|ae gG p)<|I 17 p (Z k7) (ve<|ae rG p)<|I 18 p (Z k7) (cA (k:=0) aR p p p)<|I 19 p (Z k7) (ve<|nS p p)<|V 20 p (aI p k7 p)<|V 21 p (ar p)<|aG (by kernel_rfl)<|ah<|F ⟨(a1.fPa.fBa != 0),p,H8⟩) fun k7 H8=>D 16 p (ax k7)<|D 17 p (ax k7)<|D 18 p (ax k7)<|D 19 p (ax k7)<|V 20 p (ap p k7 p)<|V 21 p (ar p)<|aG (by kernel_rfl)<|ah<|F ⟨false,p,H8⟩⟩) fun k1 H2=>D 5 p (ax k1)<|D 6 p (ax k1)<|D 7 p (ax k1)<|D 8 p (ax k1)<|D 9 p (ax k1)<|D 10 p (ax k1)<|D 11 p (ax k1)<|D 12 p (ax k1)<|D 13 p (ax k1)<|V 14 p (ap p k1 p)<|V 15 p (ag p)<|D 16 p p<|D 17 p p<|D 18 p p<|D 19 p p<|V 20 p (ap p p p)<|V 21 p (ar p)<|aG (by kernel_rfl)<|ah<|F ⟨false,p,H2⟩
def sW (b25:Nat) (Rec8:kT Int) (s7:Int) (x36:aq) (s22:Unit):hT:=cl prog oa [(.pointer (some ⟨b25,0,none⟩)),(.agg (aq.C x36).toArray)] aD fun r49=>br r49 ( ld (b25,4) cP fun x53=>cl prog fE [(pv x53),(.int .i64 x36.fPa.fFa),(.agg (al.C x36.fHa).toArray)] bq fun r59=>Rec8 (i64.wrap (s7 + 1))) ( Rec8 (i64.wrap (s7 + 1)))
def sV (K:kT (Int × Bool)) (b25:Nat) (Rec8:kT Int) (s7:Int) (x32:Int) (x36:aq) (s29:Bool):hT:=br s29 ( K (x32,false)) ( sW b25 Rec8 s7 x36 ())
def xS (a0:Sl) (a2:Bool) (a3:Bool) (K:kT (Int × Bool)) (b25:Nat) (r27:Sl) (Rec8:kT Int) (s7:Int):hT:=br (decide (s7 < (r27.len:Int))) ( ix r27 s7 fun q31=>ld (q31.1,q31.2 + Int.toNat s7 * 1) (cI .i64) fun x32=>ix a0 x32 fun q35=>ld (q35.1,q35.2 + Int.toNat x32 * 16) aq.C fun x36=>br (qZ x36) ( br a3 ( cl prog mh [(.pointer (some ⟨b25,0,none⟩)),(.agg (aq.C x36).toArray)] aD fun r43=>sV K b25 Rec8 s7 x32 x36 (!r43)) ( sV K b25 Rec8 s7 x32 x36 false)) ( ld (b25,4) cP fun x64=>cl prog dP [(pv x64),(.int .i64 x36.fCa),(.agg (al.C x36.fHa).toArray)] bq fun r69=>br (a2 && ((!r69.2) || (!(ac.eqb r69.1 x36.fWa)))) ( K (x32,false)) ( Rec8 (i64.wrap (s7 + 1))))) ( K ((-1),true))
def sh_judge_run (a0:Sl) (a1:aK) (a2:Bool) (a3:Bool) (K:kT (Int × Bool)):hT:=cl prog tU [(sv a0),(.agg (aK.C a1).toArray)] aD fun r18=>br (!r18) ( K ((-1),false)) ( cl prog oE [(.agg (aK.C a1).toArray)] eA fun r23=>nw dC (lc.C (⟨a0,a1,r23⟩:lc)) fun b25=>cl prog kF [(sv a0)] aU fun r27=>Lp (xS a0 a2 a3 K b25 r27) 0)
theorem sim_judge_run (a0:Sl) (a1:aK) (a2:Bool) (a3:Bool) {K:kT (Int × Bool)} {h:Hp} (H:sh_judge_run a0 a1 a2 a3 K h):cl prog vd [(sv a0),(.agg (aK.C a1).toArray),(.bool a2),(.bool a3)] bQ K h:=z_i func60 p p fun _=>O<|aa<|cz (l:=aK.C a1) p p p fun b5=>J (ar p)<|U p<|ai<|O<|M p<|bo (bK (k:=0) pW p p p p) p<|aa<|G H en_6 fun r18 _ H1=>J (cw p)<|ad<|av p H1 (fun k2 H3=>O<|J (ar p)<|U p<|ah<|bE (bW p (cj p)<|cj p) ⟨((-1),false),p,H3⟩) fun k2 H3=>ak<|ai<|bk (n:=7) [bx b5 24 (aK.C a1)] ch p (.cons_cons _ .slnil)<|V 0 p (ag p)<|z_E 1 p (eP (k:=0) pW p p p p)<|z_E 2 p (eP (k:=0) pW p p p p)<|R 3 p<|G H3 en_56 fun r23 _ H4=>⟨.cons_cons _ .slnil,V 4 p (bg p<|build_156_0_1_2 a0 a1 r23)<|R 5 p<|iF p p p H4 fun b25 _ H5=>⟨.cons_cons _ .slnil,V 6 p (ar p)<|aG (by kernel_rfl)<|ai<|O<|M p<|aa<|G H5 en_13 fun r27 _ H6=>J (dh p underlying27 p)<|M p<|ad<|aw<|bv (step:=xS a0 a2 a3 K b25 r27) (fun s7=>[(0,(sv a0)),(2,(.bool a2)),(3,(.bool a3)),(10,(.pointer (some ⟨b25,0,none⟩))),(27,(sv r27)),(28,(.int .i64 (r27.len:Int))),(29,(.int .i64 s7))]) (fun s7=>[]) H6 (.cons p<|.cons p<|.cons p<|.cons p<|.cons p<|.cons p<|.cons p<|.nil _) (.cons _ .slnil) fun Rec8 s7 _ H9=>O<|J (bZ p p)<|ad<|ai<|av p H9 (fun k10 H11=>ak<|ai<|aw<|O<|cm H11 fun q31 e12 h13 H14=>J (aW dz (aJ p<|aM e12) p h13)<|aa<|aY H14 aR p (fun _=>p) p fun x32 H15=>U p<|O<|M p<|M p<|cm H15 fun q35 e16 h17 H18=>J (aW cQ (aJ p<|aM e16) p h17)<|aa<|ga H18 pV p (fun _=>p) p fun x36 H19=>aa<|aT (l:=aq.C (⟨0,0,(⟨0,0,0,0,0⟩:al),0,0,0,(⟨0,0⟩:ac),(⟨0,0,0,0⟩:ao)⟩:aq)) zero_40 p p fun b13=>aa<|aV (k:=0) (vs:=aq.C x36) inf_40 p p p p p p p<|ad<|ai<|O<|bo (bK (k:=0) pV p p p p) p<|aa<|cu (vs:=[(.agg (aq.C x36).toArray)]) (bu<|ct_judge_user x36 _) en_96 p p<|ad<|av p H19 (fun k20 H21=>dY (sW b25 Rec8 s7 x36) (fun s22=>[(0,(sv a0)),(2,(.bool a2)),(3,(.bool a3)),(10,(.pointer (some ⟨b25,0,none⟩))),(13,(.pointer (some ⟨b13,0,none⟩))),(27,(sv r27)),(28,(.int .i64 (r27.len:Int))),(29,(.int .i64 s7))]) (fun s22=>[bx b13 40 (aq.C x36)]) (dY (sV K b25 Rec8 s7 x32 x36) (fun s29=>[(0,(sv a0)),(2,(.bool a2)),(3,(.bool a3)),(10,(.pointer (some ⟨b25,0,none⟩))),(12,(.int .i64 x32)),(13,(.pointer (some ⟨b13,0,none⟩))),(27,(sv r27)),(28,(.int .i64 (r27.len:Int))),(29,(.int .i64 s7)),(45,(.bool s29))]) (fun s29=>[bx b13 40 (aq.C x36)]) (am<|M p<|M p<|W p p (aA _) (fun g33=>wv<|ag p)<|W p p (aA _) (fun g34=>cv<|bK (k:=0) pV p p p p)<|bS H21 (fun k36 H37=>z_O (Z k36)<|gz H37 en_97 (aZ (aC p k36)<|aZ (aC p k36) bX) p fun r43 _ H38=>z_O (Z k36)<|z_p (cw p)<|J (aI p k36 p)<|ad<|ct (!r43) H38 (.cons p<|.cons p<|.cons p<|.cons p<|.cons p<|.cons p<|.cons p<|.cons p<|.cons p<|.cons p<|.nil _)<|.cons_cons _ .slnil) fun k36 H37=>Y (ax k36)<|Y (ax k36)<|J (ap p k36 p)<|ad<|ct false H37 (.cons p<|.cons p<|.cons p<|.cons p<|.cons p<|.cons p<|.cons p<|.cons p<|.cons p<|.cons p<|.nil _)<|.cons_cons _ .slnil) fun s29 _ H30=>av p H30 (fun k31 H32=>O<|M p<|J (ar p)<|U p<|ah<|bE (bW p (cj p)<|cj p) ⟨(x32,false),p,H32⟩) fun k31 H32=>ak<|ct () H32 (.cons p<|.cons p<|.cons p<|.cons p<|.cons p<|.cons p<|.cons p<|.cons p<|.nil _)<|.cons_cons _ .slnil) fun s22 _ H23=>ai<|O<|M p<|bo (bK (k:=0) pV p p p p) p<|aa<|G H23 en_98 fun r49 _ H24=>ad<|av p H24 (fun k25 H26=>bk (n:=10) [bx b13 40 (aq.C x36)] ch p (.cons_cons _ .slnil)<|V 0 p (ag p)<|V 1 p (aP p)<|V 2 p (ae wM p)<|V 4 p (ae gG p)<|V 5 p (ae mt p)<|z_E 6 p (cA (k:=0) aR p p p)<|V 7 p (ae nF p)<|z_E 8 p (eP (k:=0) fS p p p p)<|bw (i:=3) (fun _ _ _ _ hh=>hh) H26 p (by kernel_rfl) wA p (fun _=>p) p fun x53 H27=>R 9 p<|G H27 en_76 fun r59 _ H28=>⟨.cons_cons _ .slnil,aG (by kernel_rfl)<|bf<|am<|J (bb p p)<|M p<|ad<|bU (i64.wrap (s7 + 1)) H28 (.cons p<|.cons p<|.cons p<|.cons p<|.cons p<|.cons p<|.cons p<|.nil _)<|.cons _ .slnil⟩) fun k25 H26=>ak<|bf<|am<|J (bb p p)<|M p<|ad<|bU (i64.wrap (s7 + 1)) H26 (.cons p<|.cons p<|.cons p<|.cons p<|.cons p<|.cons p<|.cons p<|.nil _)<|.cons _ .slnil) fun k20 H21=>ak<|ai<|bk (n:=15) [bx b13 40 (aq.C x36)] ch p (.cons_cons _ .slnil)<|V 0 p (ag p)<|V 1 p (aP p)<|V 2 p (ae wM p)<|V 4 p (ae ms p)<|z_E 5 p (cA (k:=0) aR p p p)<|V 6 p (ae nF p)<|z_E 7 p (eP (k:=0) fS p p p p)<|bw (i:=3) (fun _ _ _ _ hh=>hh) H21 p (by kernel_rfl) wA p (fun _=>p) p fun x64 H39=>fJ (i:=8) (j:=12) (by kernel_rfl) (bF p p<|G H39 en_52 fun r69 _ H41=>⟨.cons_cons _ .slnil,V 9 p (ag p)<|V 10 p (aj p p)<|V 11 p (aj p p)<|R 12 p<|aT (l:=ac.C (⟨0,0⟩:ac)) dv p p fun b14=>⟨.cons _<|.cons_cons _ .slnil,R 13 p<|aV (k:=0) (vs:=ac.C r69.1) bR p p p p p p p ⟨.cons _<|.cons_cons _ .slnil,V 14 p (ar p)<|aG (by kernel_rfl)<|O<|M p<|M p<|W p p (aA _) (fun g42=>wv<|ag p)<|W p p (aA _) (fun g43=>wv<|cw<|aC p g43)<|W p p (aA _) (fun g44=>wv<|ag<|aC p g44)<|W p p (eL _ _) (fun g45=>cv<|bK (k:=0) cJ p p p p)<|W p p (eL _ _) (fun g46=>wv<|ae kQ p)<|W p p (eL _ _) (fun g47=>cv<|bK (k:=1) cJ (aC p g47) p p p)<|W p p (eL _ _) (fun g48=>wv<|v_neA eqg_36 (eqr_36 9998 _ _) (aC p g48)<|aC p g48)<|W p p (aA _) (fun g49=>wv<|dy (aC p g49)<|aJ p<|ol g49)<|J (bN p p)<|ad<|av p H41 (fun k50 H51=>O<|M p<|J (ar p)<|U p<|ah<|bE (bW p (cj p)<|cj p) ⟨(x32,false),p,H51⟩) fun k50 H51=>ak<|am<|J (bb p p)<|M p<|ad<|bU (i64.wrap (s7 + 1)) H51 (.cons p<|.cons p<|.cons p<|.cons p<|.cons p<|.cons p<|.cons p<|.nil _)<|.cons _<|.cons _ .slnil⟩⟩⟩)<|bF p p<|aT (l:=ac.C (⟨0,0⟩:ac)) dv p p fun b14=>⟨.cons _<|.cons_cons _ .slnil,R 8 p<|G H39 en_52 fun r69 _ H41=>⟨.cons _<|.cons_cons _ .slnil,V 9 p (ag p)<|V 10 p (aj p p)<|V 11 p (aj p p)<|R 13 p<|aV (k:=0) (vs:=ac.C r69.1) bR p p p p p p p ⟨.cons _<|.cons_cons _ .slnil,V 14 p (ar p)<|aG (by kernel_rfl)<|O<|M p<|M p<|W p p (aA _) (fun g42=>wv<|ag p)<|W p p (aA _) (fun g43=>wv<|cw<|aC p g43)<|W p p (aA _) (fun g44=>wv<|ag<|aC p g44)<|W p p (eL _ _) (fun g45=>cv<|bK (k:=0) cJ p p p p)<|W p p (eL _ _) (fun g46=>wv<|ae kQ p)<|W p p (eL _ _) (fun g47=>cv<|bK (k:=1) cJ (aC p g47) p p p)<|W p p (eL _ _) (fun g48=>wv<|v_neA eqg_36 (eqr_36 9998 _ _) (aC p g48)<|aC p g48)<|W p p (aA _) (fun g49=>wv<|dy (aC p g49)<|aJ p<|ol g49)<|J (bN p p)<|ad<|av p H41 (fun k50 H51=>O<|M p<|J (ar p)<|U p<|ah<|bE (bW p (cj p)<|cj p) ⟨(x32,false),p,H51⟩) fun k50 H51=>ak<|am<|J (bb p p)<|M p<|ad<|bU (i64.wrap (s7 + 1)) H51 (.cons p<|.cons p<|.cons p<|.cons p<|.cons p<|.cons p<|.cons p<|.nil _)<|.cons _<|.cons _ .slnil⟩⟩⟩) fun k10 H11=>bf<|O<|J (ar p)<|U p<|ah<|bE (bW p (cj p)<|cj p) ⟨((-1),true),p,H11⟩⟩⟩
def sh_judge_Linear (a0:Sl) (a1:aK) (K:kT (Int × Bool)):hT:=cl prog vd [(sv a0),(.agg (aK.C a1).toArray),(.bool true),(.bool false)] bQ fun r8=>K (r8.1,r8.2)
theorem sim_judge_Linear (a0:Sl) (a1:aK) {K:kT (Int × Bool)} {h:Hp} (H:sh_judge_Linear a0 a1 K h):cl prog pJ [(sv a0),(.agg (aK.C a1).toArray)] bQ K h:=z_i func26 p p fun _=>O<|aa<|cz (l:=aK.C a1) p p p fun b3=>J (ar p)<|U p<|O<|M p<|bo (bK (k:=0) pW p p p p) p<|aa<|G H en_60 fun r8 _ H1=>J (aj p p)<|J (aj p p)<|J (ar p)<|U p<|ah<|bE (bW p (cj p)<|cj p) ⟨(r8.1,r8.2),p,H1⟩
def sh_judge_Access (a0:Sl) (a1:aK) (K:kT (Int × Bool)):hT:=cl prog vd [(sv a0),(.agg (aK.C a1).toArray),(.bool false),(.bool true)] bQ fun r8=>K (r8.1,r8.2)
theorem sim_judge_Access (a0:Sl) (a1:aK) {K:kT (Int × Bool)} {h:Hp} (H:sh_judge_Access a0 a1 K h):cl prog pK [(sv a0),(.agg (aK.C a1).toArray)] bQ K h:=z_i func27 p p fun _=>O<|aa<|cz (l:=aK.C a1) p p p fun b3=>J (ar p)<|U p<|O<|M p<|bo (bK (k:=0) pW p p p p) p<|aa<|G H en_60 fun r8 _ H1=>J (aj p p)<|J (aj p p)<|J (ar p)<|U p<|ah<|bE (bW p (cj p)<|cj p) ⟨(r8.1,r8.2),p,H1⟩
def sh_judge_Right (a0:Sl) (a1:aK) (K:kT Bool):hT:=cl prog pJ [(sv a0),(.agg (aK.C a1).toArray)] bQ fun r12=>cl prog pK [(sv a0),(.agg (aK.C a1).toArray)] bQ fun r18=>K (r12.2 && r18.2)
theorem sim_judge_Right (a0:Sl) (a1:aK) {K:kT Bool} {h:Hp} (H:sh_judge_Right a0 a1 K h):cl prog vM [(sv a0),(.agg (aK.C a1).toArray)] aD K h:=z_i func24 p p fun _=>O<|aa<|cz (l:=aK.C a1) p p p fun b3=>U p<|O<|M p<|bo (bK (k:=0) pW p p p p) p<|aa<|G H en_26 fun r12 _ H1=>M p<|J (aj p p)<|J (aj p p)<|J (ar p)<|U p<|O<|M p<|bo (bK (k:=0) pW p p p p) p<|aa<|G H1 en_27 fun r18 _ H2=>M p<|J (aj p p)<|J (aj p p)<|J (ar p)<|U p<|O<|M p<|M p<|W p p (aA _) (fun g3=>wv<|ag p)<|J (bN p p)<|U p<|ah<|F ⟨(r12.2 && r18.2),p,H2⟩
end
end Go.Proofs.YtochchocdckegaaGreatDoor
