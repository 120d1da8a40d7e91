/- Part of the proof of: The law KernBuffers returns true for every input, and leaves its arguments as they were. -/
import Derived.Test.YtjcamacgclipiaaGreatDoorKernBuffers16
set_option linter.all false
set_option maxRecDepth 20000
set_option maxHeartbeats 4000000
namespace Go.Proofs.YtjcamacgclipiaaGreatDoor
open Go.Proofs.Tryz
open Go.IntKind (i64 u64)
open _root_.Int (eq_ofNat_of_zero_le toNat_natCast)
open _root_.List (getElem_mem length_append length_cons length_drop length_take mem_append mem_cons mem_cons_of_mem mem_map mem_range mem_singleton range take_append_drop)
open _root_.Nat (le_refl sub_mul zero_le)
section
open Go Mb
section
variable {b:Nat} {m:RM} {e:Nat} {c:bv} {h:Hp}
theorem do_gone {D:(bY × Bool) × RM} {l:List bf} {y:Sl} (hl:∀ p ∈ l,bf.in_ p) (hb:l.length < 2 ^ 30) (hD:D = ((⟨0,u64.wrap l.length⟩,true),lZ m l)) (s0:ah [vR y l,cj (some (b,0)) m] h) :
  dn (RK b D) (b,0) y h:=by
 unfold dn;have hyl:=(aX (j:=0) s0 rfl).1;refine bG [1,0] (sp_ref_Gone (some (b,0)) m y l hl hb (by simp)) s0 rfl fun r h1 s1=>?_;have s1:ah [cj (some (b,0)) (lZ m l),vR y l] h1:=bT s1;rw [hyl];exact rk hD (aT (l:=[_]) (aA [1,0] s1 rfl))
theorem do_j3 {D:(bY × Bool) × RM} (W:RW m) (he:e < 4) (h1:0 <= c.e1/\c.e1 < 8) (hk:aB c = (c.e0,true)) (hD:D = if (m.S e c.e1.toNat).fIs = false then ((⟨3,0⟩,true),m) else ((⟨0,u64.wrap (kO m e c).length⟩,true),lZ m (kO m e c))) (s0:ah [cj (some (b,0)) m] h) :
  bX (e:Int) c (RK b D) (b,0) true h:=by
 unfold bX;obtain ⟨s,hs⟩:=eq_ofNat_of_zero_le h1.1;have es:c.e1.toNat = s:=by omega
 have hw:i64.wrap c.e1 = c.e1:=aE (by omega) (by omega);refine cg rfl ⟨⟨by omega,by omega⟩,h1,?_⟩;obtain ⟨b',cs,hbb,H,s1⟩:=ow s0;cases hbb;rw [hk,hw];refine rd_is (j:=0) (e:=e) (s:=s) H s1 rfl he (by omega) (by simp [es]) ?_;refine ar (fun k1=>?_) (fun k1=>?_)
 ·have k1':(m.S e s).fIs = false:=by simpa using k1
  exact rk (by rw [hD,es,if_pos k1']; rfl) s0
 have k1':¬ (m.S e s).fIs = false:=by simpa using k1
 rw [es,if_neg k1'] at hD;have hq:bf.in_ (⟨e,c.e1⟩:bf):=⟨by show (0:Int) <= e; omega,by show (e:Int) < 4; omega,h1.1,h1.2⟩
 have hbl:=rbelow_len m ⟨e,c.e1⟩ 32;have hbl:(mg m ⟨e,c.e1⟩).length <= 32:=hbl;refine sM (i:=0) (sp_ref_Below (some (b,0)) m W ⟨e,c.e1⟩) rfl s0 fun y h2 s2=>?_;have s2:ah [vR y (mg m ⟨e,c.e1⟩),cj (some (b,0)) m] h2:=s2;refine ar (fun k2=>?_) (fun k2=>?_)
 ·have k2':c.e0 = 5:=by simpa using k2
  have ht:kO m e c = mg m ⟨e,c.e1⟩++[⟨e,c.e1⟩]:=if_pos k2';rw [ht] at hD;refine append1_p s2 (i:=0) rfl (by omega) fun v h4 s4=>?_;have s4:ah [vR v (mg m ⟨e,c.e1⟩++[⟨e,c.e1⟩]),cj (some (b,0)) m] h4:=s4;refine do_gone (l:=mg m ⟨e,c.e1⟩++[⟨e,c.e1⟩]) (fun p hp=>?_) (by rw [length_append]; simp; omega) hD s4;rcases mem_append.1 hp with hp | hp
  ·exact rbelow_in hp
  ·rw [mem_singleton.1 hp]; exact hq
 ·have k2':¬ c.e0 = 5:=by simpa using k2
  have ht:kO m e c = mg m ⟨e,c.e1⟩:=if_neg k2';rw [ht] at hD;exact do_gone (fun p hp=>rbelow_in hp) (by omega) hD s2
theorem do_j5 {D:(bY × Bool) × RM} (W:RW m) (he:e < 4) (cw:Cw c) (w:Well m.z.fHa c) (hk:aB c = (c.e0,true)) (hk2:6 <= c.e0) (hD:D = gg m e c) (s0:ah [cj (some (b,0)) m] h) {t:Bool} (ht:t = decide (c.e0 = 6\/c.e0 = 7\/c.e0 = 8)) :
  cx (e:Int) c (RK b D) (b,0) t h:=by
 unfold cx;rw [hk];simp only;obtain ⟨b',cs,hbb,H,s1⟩:=ow s0;cases hbb;have n1:¬ c.e0 = 1:=by omega
 have n2:¬ c.e0 = 2:=by omega
 have n3:¬ c.e0 = 3:=by omega
 have n4:¬ (c.e0 = 4\/c.e0 = 5):=by omega
 unfold gg at hD;rw [if_neg n1,if_neg n2,if_neg n3,if_neg n4] at hD;refine ar (fun k=>?_) (fun k=>?_)
 ·have hk3:c.e0 = 6\/c.e0 = 7\/c.e0 = 8:=by rw [ht] at k; exact of_decide_eq_true k
  rw [if_pos hk3] at hD;have h1:=w.w1 (by omega);refine aW (i:=0) (sp_ref_remap (some (b,0)) m W e c.e0 c he ⟨cw.c1,h1⟩ (fun h6=>⟨cw.c2,w.w2 (.inr h6)⟩)) rfl s0 fun r h2 hr s2=>?_;exact rk (by rw [hD,hr]; rfl) s2
 have hk3:¬ (c.e0 = 6\/c.e0 = 7\/c.e0 = 8):=by rw [ht] at k; exact of_decide_eq_false k
 rw [if_neg hk3] at hD;refine ar (fun k=>?_) (fun k=>?_)
 ·have hk9:c.e0 = 9:=by simpa using k
  rw [if_pos hk9] at hD;have h1:=w.w1 (by omega);have h6:=w.w6 hk9;have hw3:i64.wrap c.e3 = c.e3:=aE (by omega) (by omega);obtain ⟨s,hs⟩:=eq_ofNat_of_zero_le cw.c1;have es:c.e1.toNat = s:=by omega
  obtain ⟨a,ha⟩:=eq_ofNat_of_zero_le cw.c2;have ea:c.e2.toNat = a:=by omega
  unfold rsleep at hD;rw [es,ea] at hD;refine ⟨⟨by omega,by omega⟩,⟨cw.c1,h1⟩,?_⟩;refine rd_slot (j:=0) (e:=e) (s:=s) H s1 rfl he (by omega) (by simp [es]) ?_;refine ar (fun k1=>?_) (fun k1=>?_)
  ·have k1':(m.S e s).fIs = false:=by simpa using k1
   exact rk (by rw [hD,if_pos k1']; rfl) s0
  have k1':¬ (m.S e s).fIs = false:=by simpa using k1
  rw [if_neg k1'] at hD;refine ar (fun k2=>?_) (fun k2=>?_)
  ·have k2':(m.S e s).fCa.tmod 2 = 0:=by simpa using k2
   exact rk (by rw [hD,if_pos k2']; rfl) s0
  have k2':¬ (m.S e s).fCa.tmod 2 = 0:=by simpa using k2
  rw [if_neg k2'] at hD;have hfr:=W.fr e s he (by omega) (by simpa using k1');refine ⟨hfr,⟨cw.c2,h6.1⟩,?_⟩;refine rd_mem (j:=0) (f:=(m.S e s).fEa.toNat) (a:=a) H s1 rfl (by omega) (by omega) (by simp [ea]) ?_;rw [hw3,ref_holds];refine ar (fun k3=>?_) (fun k3=>?_)
  ·have k3':eo c.e3 (m.M (m.S e s).fEa.toNat a) c.e4 = false:=by simpa using k3
   exact rk (by rw [hD,if_pos k3']) s0
  ·have k3':¬ eo c.e3 (m.M (m.S e s).fEa.toNat a) c.e4 = false:=by simpa using k3
   exact rk (by rw [hD,if_neg k3']) s0
 have hk9:¬ c.e0 = 9:=by simpa using k
 rw [if_neg hk9] at hD;refine ar (fun k=>?_) (fun k=>?_)
 ·have hk10:c.e0 = 10:=by simpa using k
  rw [if_pos hk10] at hD;unfold bq;exact rk hD s0
 have hk10:¬ c.e0 = 10:=by simpa using k
 rw [if_neg hk10] at hD;have hku:20 <= c.e0/\c.e0 <= 23:=by have:=w.kind; omega
 have h1:=w.w1 hk10;have h7:=w.w7 hku.1;obtain ⟨p,hp⟩:=eq_ofNat_of_zero_le cw.c1;have ep:c.e1.toNat = p:=by omega
 rw [ep] at hD;refine ⟨⟨by omega,by omega⟩,⟨cw.c1,h1⟩,?_⟩;refine rd_pte (j:=0) (e:=e) (p:=p) H s1 rfl he (by omega) (by simp [ep]) ?_;refine cl_p (sp_ref_Lets (m.Q e p).fCa c.e0 hku) s0 fun r h2 hr s2=>?_;subst hr;refine ar (fun k1=>?_) (fun k1=>?_)
 ·have k1':bk (m.Q e p).fCa c.e0 = false:=by simpa using k1
  exact rk (by rw [hD,if_pos k1']; rfl) s2
 have k1':¬ bk (m.Q e p).fCa c.e0 = false:=by simpa using k1
 rw [if_neg k1'] at hD;have hne:(m.Q e p).fCa ≠ 0:=by
  intro h0;apply k1';rw [h0];have:c.e0 = 20\/c.e0 = 21\/c.e0 = 22\/c.e0 = 23:=by omega
  rcases this with e | e | e | e <;> rw [e] <;> decide
 have hqf:=W.qf e p he (by omega) hne;obtain ⟨f,hf⟩:=eq_ofNat_of_zero_le hqf.1;have ef:(m.Q e p).fEa.toNat = f:=by omega
 rw [ef] at hD;rw [hf];refine aW (i:=0) (sp_ref_Word (some (b,0)) m f c.e0 c (by omega) ⟨cw.c2,h7⟩) rfl s2 fun r h3 hr s3=>?_;exact rk (by rw [hD,hr]) s3
end
theorem sp_ref_Do (x:Ptr) (m:RM) (W:RW m) (e:Int) (c:bv) (cw:Cw c):Sp prog gP [pv x,.int .i64 e,.agg (aa.C c).toArray] aD [cj x m] (fun v=>pa_ (v = (rdo m e c).1) [cj x (rdo m e c).2]):=by
 intro h s0;refine sB _ _ _ ?_;unfold kN;obtain ⟨b,cs,rfl,H,s1⟩:=ow s0;generalize hD:rdo m e c = D;have hz1:=H.z1;have off:(e < 0\/e >= m.z.fHa)->cy (some (b,0)) e c (RK b D) true h:=by
  intro ho;unfold cy;exact cg rfl (rk (by rw [← hD]; unfold rdo; rw [if_pos ho]; rfl) s0)
 refine ar (fun k=>?_) (fun k=>off (.inl (by simpa using k)));have k0:0 <= e:=by simpa using k
 refine bn ?_;refine rd_z (j:=0) (i:=1) H s1 rfl hz1 (by simp) ?_;by_cases ho:e >= m.z.fHa
 ·rw [decide_eq_true ho]; exact off (.inr ho)
 rw [decide_eq_false ho];have hD1:D = if Word.check c m.z.fHa ≠ 0 then ((⟨Word.check c m.z.fHa,0⟩,true),m) else gg m e.toNat c:=by
  rw [← hD]; unfold rdo; rw [if_neg (by omega)]
 have hen:=W.en;unfold cy;refine bB rfl (bn ?_);refine rd_z (j:=0) (i:=1) H s1 rfl hz1 (by simp) ?_;refine cl_p (sp_ref_Check c m.z.fHa (by omega) (by omega)) s0 fun r h2 hr s2=>?_;subst hr;refine ar (fun k1=>?_) (fun k1=>?_)
 ·have k1':Word.check c m.z.fHa ≠ 0:=by simpa using k1
  exact rk (by rw [hD1,if_pos k1']; rfl) s2
 have k1':Word.check c m.z.fHa = 0:=by simpa using k1
 rw [if_neg (by rw [k1']; simp)] at hD1;have w:=qn hen.1 hen.2 k1';have hk:aB c = (c.e0,true):=oN w.kind;obtain ⟨n,hn⟩:=eq_ofNat_of_zero_le k0;have hn:e = (n:Int):=hn;subst hn;rw [toNat_natCast] at hD1;have he:n < 4:=by omega
 rw [hk];simp only;refine ar (fun k=>?_) (fun k=>?_)
 ·have hk1:c.e0 = 1:=by simpa using k
  exact do_alloc W he ⟨cw.c1,w.w1 (by omega)⟩ (by rw [hD1]; unfold gg; rw [if_pos hk1]) s2
 have n1:¬ c.e0 = 1:=by simpa using k
 have wr0:∀ {x:Int},0 <= x->x < 16->i64.wrap x = x:=fun a b=>aE (by omega) (by omega);refine ar (fun k=>?_) (fun k=>?_)
 ·have hk2:c.e0 = 2:=by simpa using k
  have a1:=w.w1 (by omega);have a2:=w.w2 (.inl hk2);have a4:=w.w4 (.inl hk2);rw [wr0 cw.c1 (by omega),wr0 cw.c2 (by omega),wr0 cw.c3 (by omega)];obtain ⟨s,hs⟩:=eq_ofNat_of_zero_le cw.c1;obtain ⟨t,ht⟩:=eq_ofNat_of_zero_le cw.c2;have hD2:D = xJ (dq m n c.e1.toNat n c.e2.toNat c.e3):=by rw [hD1]; unfold gg; rw [if_neg n1,if_pos hk2]
  rw [hs,ht,toNat_natCast,toNat_natCast] at hD2;rw [hs,ht];refine aW (i:=0) (sp_ref_derive (some (b,0)) m n s n t c.e3 he (by omega) he (by omega)) rfl s2 fun r h3 hr s3=>?_;exact rk (by rw [hD2,hr]; rfl) s3
 have n2:¬ c.e0 = 2:=by simpa using k
 refine ar (fun k=>?_) (fun k=>?_)
 ·have hk3:c.e0 = 3:=by simpa using k
  have a1:=w.w1 (by omega);have a3:=w.w3 hk3;rw [wr0 cw.c1 (by omega),wr0 cw.c2 (by omega),wr0 cw.c3 (by omega),wr0 cw.c4 (by omega)];obtain ⟨s,hs⟩:=eq_ofNat_of_zero_le cw.c1;obtain ⟨t,ht⟩:=eq_ofNat_of_zero_le cw.c2;obtain ⟨u,hu⟩:=eq_ofNat_of_zero_le cw.c3;have hD2:D = xJ (dq m n c.e1.toNat c.e2.toNat c.e3.toNat c.e4):=by rw [hD1]; unfold gg; rw [if_neg n1,if_neg n2,if_pos hk3]
  rw [hs,ht,hu,toNat_natCast,toNat_natCast,toNat_natCast] at hD2;rw [hs,ht,hu];refine aW (i:=0) (sp_ref_derive (some (b,0)) m n s t u c.e4 he (by omega) (by omega) (by omega)) rfl s2 fun r h3 hr s3=>?_;exact rk (by rw [hD2,hr]; rfl) s3
 have n3:¬ c.e0 = 3:=by simpa using k
 have g45:(c.e0 = 4\/c.e0 = 5)->bX (n:Int) c (RK b D) (b,0) true h2:=fun h45 =>
  do_j3 W he ⟨cw.c1,w.w1 (by omega)⟩ hk (by rw [hD1]; unfold gg; rw [if_neg n1,if_neg n2,if_neg n3,if_pos h45]) s2
 refine ar (fun k=>?_) (fun k=>?_)
 ·have hk4:c.e0 = 4:=by simpa using k
  rw [k]; exact g45 (.inl hk4)
 have n4:¬ c.e0 = 4:=by simpa using k
 by_cases hk5:c.e0 = 5
 ·have:(c.e0 == 5) = true:=by simpa using hk5
  rw [this]; exact g45 (.inr hk5)
 have:(c.e0 == 5) = false:=by simpa using hk5
 rw [this];unfold bX;refine bB rfl ?_;rw [hk];simp only;have hge:6 <= c.e0:=by have:=w.kind; omega
 refine ar (fun k=>?_) (fun k=>?_)
 ·have hk6:c.e0 = 6:=by simpa using k
  exact do_j5 W he cw w hk hge hD1 s2 (by rw [hk6]; rfl)
 have n6:¬ c.e0 = 6:=by simpa using k
 refine ar (fun k=>?_) (fun k=>?_)
 ·have hk7:c.e0 = 7:=by simpa using k
  exact do_j5 W he cw w hk hge hD1 s2 (by rw [hk7]; rfl)
 have n7:¬ c.e0 = 7:=by simpa using k
 refine do_j5 W he cw w hk hge hD1 s2 ?_;by_cases hk8:c.e0 = 8
 ·rw [hk8]; rfl
 ·rw [decide_eq_false (by omega)]; simpa using hk8
end
section
open Go Mb
def vd (t:fAa.T) (a b:Int):RSlot:=if fAa.has t a b = true/\(fAa.get t a b).fCa ≠ 0 then ⟨true,(fAa.get t a b).fEa,(fAa.get t a b).fCa,(fAa.get t a b).fBa,(fAa.get t a b).fDa⟩ else jp
structure Rel (k:PK) (m:RM):Prop where
 z:m.z = k.s
 s:∀ a b:Nat,a < 4->b < 8->m.S a b = vd k.caps a b
 q:∀ a p:Nat,a < 4->p < 8->m.Q a p = PK.q k a p
theorem slot_is (t:fAa.T) (a b:Int):(vd t a b).fIs = (fAa.at_ t a b).2:=by
 unfold vd fAa.at_;split <;> rfl
theorem vX {t:fAa.T} {a b:Int} (h:fAa.has t a b = true) (hr:(fAa.get t a b).fCa ≠ 0):vd t a b = ⟨true,(fAa.get t a b).fEa,(fAa.get t a b).fCa,(fAa.get t a b).fBa,(fAa.get t a b).fDa⟩:=if_pos ⟨h,hr⟩
theorem qr {t:fAa.T} {a b:Int} (h:¬ (fAa.has t a b = true/\(fAa.get t a b).fCa ≠ 0)):vd t a b = jp:=if_neg h
theorem get_out {t:fAa.T} {a b:Int} (ha:0 <= a) (hb:0 <= b/\b < 8) (h:¬ fAa.has t a b = true):fAa.get t a b = jd:=by
 have:¬ (0 <= a/\a < t.length/\0 <= b/\b < 8):=fun hh=>h (decide_eq_true hh);unfold fAa.get;have h2:t[a.toNat]? = none:=List.getElem?_eq_none (by omega);have h3:t.getD a.toNat [] = []:=by rw [List.getD_eq_getElem?_getD,h2]; rfl
 rw [h3]
 rfl
namespace fAa
theorem deep_lt {t:T} (ok:Ok t) {e s:Int} (h:has t e s = true) (n:Nat):deep n t (get t e s) < 32:=by
 obtain ⟨rank,hr⟩:=ok.rk;obtain ⟨l,hl,hp,hb⟩:=path ok hr n e s h;obtain ⟨i,j,rfl,rfl,hi,hj⟩:=has_nat h;have hlen:=ok.len;have e1:(i * 8 + j) / 8 = i:=by omega
 have e2:(i * 8 + j) % 8 = j:=by omega
 have:=pigeon 32 ((i * 8 + j)::l) (List.nodup_cons.2 ⟨fun hm=>by
  have:=(hb _ hm).2;rw [e1,e2] at this;exact absurd this (Nat.lt_irrefl _),hp.imp (by rintro a b hab rfl; exact absurd hab (Nat.lt_irrefl _))⟩) (fun x hx=>by
  rcases mem_cons.1 hx with rfl | hx
  ·omega
  ·exact (hb x hx).1)
 rw [length_cons] at this;omega
theorem up_under {t:T} (ok:Ok t) {e s:Int} (h:has t e s = true) (p:ba):up 32 t (get t e s) p = under t (get t e s) p:=by
 unfold under;have d:=fun n=>deep_lt ok h n;rw [qo (n:=39) (by have:=d 39; omega),qo (n:=38) (by have:=d 38; omega),qo (n:=37) (by have:=d 37; omega),qo (n:=36) (by have:=d 36; omega),
  qo (n:=35) (by have:=d 35; omega),qo (n:=34) (by have:=d 34; omega),qo (n:=33) (by have:=d 33; omega),qo (n:=32) (by have:=d 32; omega)]
end fAa
def toP (p:bf):ba:=⟨p.fBa,p.fDa⟩
theorem toP_in {k:PK} (ok:PK.Ok k) {p:ba} (h:fAa.has k.caps p.fBa p.fDa = true):bf.in_ ⟨p.fBa,p.fDa⟩:=by
 have:=of_decide_eq_true (show decide (0 <= p.fBa/\p.fBa < k.caps.length/\0 <= p.fDa/\p.fDa < 8) = true from h);have hl:=ok.tree.len;unfold bf.in_;simp only;omega
section
variable {k:PK} {m:RM}
theorem Rel.at_ (R:Rel k m) {p:bf} (hp:bf.in_ p):m.S p.fBa.toNat p.fDa.toNat = vd k.caps p.fBa p.fDa:=by
 obtain ⟨h1,h2,h3,h4⟩:=hp;have:=R.s p.fBa.toNat p.fDa.toNat (by omega) (by omega);rw [show ((p.fBa.toNat:Nat):Int) = p.fBa by omega,show ((p.fDa.toNat:Nat):Int) = p.fDa by omega] at this;exact this
theorem rfrom_up (ok:PK.Ok k) (R:Rel k m) (q:bf):∀ (n:Nat) (p:bf),bf.in_ p->wE m q n p = fAa.up n k.caps (fAa.get k.caps p.fBa p.fDa) (toP q)
 | 0,_,_=>rfl
 | n + 1,p,hp=>by
  rw [wE,fAa.up,R.at_ hp];by_cases hc:fAa.has k.caps p.fBa p.fDa = true/\(fAa.get k.caps p.fBa p.fDa).fCa ≠ 0
  ·rw [vX hc.1 hc.2];simp only;by_cases hg:0 <= (fAa.get k.caps p.fBa p.fDa).fBa
   ·rw [if_neg (show ¬ (true = false\/(fAa.get k.caps p.fBa p.fDa).fBa < 0) from fun h=>h.elim (fun h=>by cases h) (fun h=>absurd hg (by omega))),if_pos (show (fAa.get k.caps p.fBa p.fDa).fCa ≠ 0/\0 <= (fAa.get k.caps p.fBa p.fDa).fBa from ⟨hc.2,hg⟩)];obtain ⟨rank,hr⟩:=ok.tree.rk;have hpar:=(hr p.fBa p.fDa hc.1 hc.2 hg).1;have ih:=rfrom_up ok R q n ⟨(fAa.get k.caps p.fBa p.fDa).fBa,(fAa.get k.caps p.fBa p.fDa).fDa⟩ (toP_in ok (p:=⟨(fAa.get k.caps p.fBa p.fDa).fBa,(fAa.get k.caps p.fBa p.fDa).fDa⟩) hpar);by_cases he:(fAa.get k.caps p.fBa p.fDa).fBa = (toP q).fBa/\(fAa.get k.caps p.fBa p.fDa).fDa = (toP q).fDa
    ·have h1:(fAa.get k.caps p.fBa p.fDa).fBa = q.fBa:=he.1;have h2:(fAa.get k.caps p.fBa p.fDa).fDa = q.fDa:=he.2;rw [if_pos he,if_pos (show ae.eqb ⟨(fAa.get k.caps p.fBa p.fDa).fBa,(fAa.get k.caps p.fBa p.fDa).fDa⟩ q = true by unfold ae.eqb; simp [h1,h2])]
    ·rw [if_neg he,if_neg (show ¬ ae.eqb ⟨(fAa.get k.caps p.fBa p.fDa).fBa,(fAa.get k.caps p.fBa p.fDa).fDa⟩ q = true from fun h=>he (by unfold ae.eqb at h; simpa [toP] using h)),ih]
   ·rw [if_pos (show true = false\/(fAa.get k.caps p.fBa p.fDa).fBa < 0 from .inr (by omega)),if_neg (show ¬ ((fAa.get k.caps p.fBa p.fDa).fCa ≠ 0/\0 <= (fAa.get k.caps p.fBa p.fDa).fBa) from fun h=>hg h.2)]
  ·rw [qr hc,if_pos (show jp.fIs = false\/jp.fBa < 0 from .inl rfl),if_neg];rintro ⟨h1,_⟩;by_cases hh:fAa.has k.caps p.fBa p.fDa = true
   ·exact hc ⟨hh,h1⟩
   ·rw [get_out hp.1 hp.2.2 hh] at h1;exact h1 rfl
theorem rfrom_under (ok:PK.Ok k) (R:Rel k m) (q:bf) {p:bf} (hp:bf.in_ p):wE m q 32 p = true↔fAa.has k.caps p.fBa p.fDa = true/\(fAa.get k.caps p.fBa p.fDa).fCa ≠ 0/\fAa.under k.caps (fAa.get k.caps p.fBa p.fDa) (toP q) = true:=by
 rw [rfrom_up ok R q 32 p hp];by_cases hh:fAa.has k.caps p.fBa p.fDa = true
 ·rw [fAa.up_under ok.tree hh];refine ⟨fun h=>⟨hh,?_,h⟩,fun h=>h.2.2⟩;intro h0;unfold fAa.under at h;rw [fAa.up,if_neg (fun hx=>hx.1 h0)] at h;cases h
 ·refine ⟨fun h=>?_,fun h=>absurd h.1 hh⟩;rw [get_out hp.1 hp.2.2 hh,fAa.up,if_neg (fun hx=>hx.1 rfl)] at h;cases h
theorem pl_inj {i j:Nat} (h:pl i = pl j):i = j:=by
 unfold pl at h
 injection h with h1 h2
 omega
theorem mem_rbelow {q p:bf}:p ∈ mg m q↔bf.in_ p/\wE m q 32 p = true:=by
 unfold mg iH;rw [mem_map];constructor
 ·rintro ⟨i,h1,rfl⟩;obtain ⟨h2,h3⟩:=List.mem_filter.1 h1;have:=mem_range.1 h2;refine ⟨?_,h3⟩;unfold pl bf.in_;simp only;omega
 ·rintro ⟨⟨h1,h2,h3,h4⟩,h5⟩;have e:pl (p.fBa.toNat * 8 + p.fDa.toNat) = p:=by
   unfold pl;have e1:(p.fBa.toNat * 8 + p.fDa.toNat) / 8 = p.fBa.toNat:=by omega
   have e2:(p.fBa.toNat * 8 + p.fDa.toNat) % 8 = p.fDa.toNat:=by omega
   rw [e1,e2];cases p;simp only at h1 h3 ⊢
   congr 1 <;> omega
  exact ⟨_,List.mem_filter.2 ⟨mem_range.2 (by omega),by rw [e]; exact h5⟩,e⟩
theorem rbelow_nodup (q:bf):(mg m q).Nodup:=by
 unfold mg iH;exact List.Pairwise.map pl (fun a b h e=>h (pl_inj e)) (List.nodup_range.filter _)
end
end
section
open Go Mb
theorem nodup_len {α:Type} [DecidableEq α]:∀ {l m:List α},l.Nodup->(∀ x ∈ l,x ∈ m)->l.length <= m.length
 | [],_,_,_=>zero_le _
 | a::l,m,h,hs=>by
  obtain ⟨h1,h2⟩:=List.nodup_cons.1 h;have:=nodup_len (l:=l) (m:=m.erase a) h2 fun x hx=>(List.mem_erase_of_ne (fun e=>h1 (by rw [← e]; exact hx))).2 (hs x (by simp [hx]));have ha:=hs a (by simp);rw [List.length_erase_of_mem ha] at this;have:=List.length_pos_of_mem ha;rw [length_cons]; omega
section
variable {k:PK} {m:RM}
theorem mem_rtake (F:PK.Fine k) (R:Rel k m) {e:Nat} {c:bv} (he:e < 4) (h1:0 <= c.e1/\c.e1 < 8) (h:fAa.has k.caps e c.e1 = true) (hn:(fAa.get k.caps e c.e1).fCa ≠ 0) {p:bf}:p ∈ kO m e c↔bf.in_ p/\toP p ∈ fAa.fVa k.caps e c.e1 (decide (c.e0 = 5)):=by
 have hq:bf.in_ (⟨e,c.e1⟩:bf):=⟨by show (0:Int) <= e; omega,by show (e:Int) < 4; omega,h1.1,h1.2⟩
 rw [fAa.mem_goers F.ok.tree h hn];have hb:p ∈ mg m ⟨e,c.e1⟩↔bf.in_ p/\(fAa.has k.caps (toP p).fBa (toP p).fDa = true/\(fAa.get k.caps (toP p).fBa (toP p).fDa).fCa ≠ 0/\fAa.under k.caps (fAa.get k.caps (toP p).fBa (toP p).fDa) ⟨e,c.e1⟩ = true):=by
  rw [mem_rbelow];constructor
  ·rintro ⟨a,b⟩; exact ⟨a,(rfrom_under F.ok R _ a).1 b⟩
  ·rintro ⟨a,b⟩; exact ⟨a,(rfrom_under F.ok R _ a).2 b⟩
 unfold kO;by_cases h5:c.e0 = 5
 ·rw [if_pos h5,mem_append,hb,mem_singleton];constructor
  ·rintro (⟨a,b1,b2,b3⟩ | rfl)
   ·exact ⟨a,b1,b2,.inr b3⟩
   ·exact ⟨hq,h,hn,.inl ⟨decide_eq_true h5,rfl⟩⟩
  ·rintro ⟨a,b1,b2,b3⟩;rcases b3 with b3 | b3
   ·right
    have:=b3.2;cases p;unfold toP at this
    injection this with e1 e2
    simp only at e1 e2;rw [e1,e2]
   ·exact .inl ⟨a,b1,b2,b3⟩
 ·rw [if_neg h5,hb];constructor
  ·rintro ⟨a,b1,b2,b3⟩; exact ⟨a,b1,b2,.inr b3⟩
  ·rintro ⟨a,b1,b2,b3⟩;rcases b3 with b3 | b3
   ·have:=of_decide_eq_true b3.1;exact absurd this h5
   ·exact ⟨a,b1,b2,b3⟩
theorem toP_inj {p q:bf} (h:toP p = toP q):p = q:=by
 cases p; cases q;unfold toP at h
 injection h with h1 h2
 simp only at h1 h2;rw [h1,h2]
theorem rtake_nodup (F:PK.Fine k) (R:Rel k m) {e:Nat} {c:bv} (he:e < 4) (h1:0 <= c.e1/\c.e1 < 8) (h:fAa.has k.caps e c.e1 = true):(kO m e c).Nodup:=by
 unfold kO;split
 ·refine List.nodup_append.2 ⟨rbelow_nodup _,by simp,fun a ha b hb hab=>?_⟩;rw [mem_singleton.1 hb] at hab;subst hab;have:=mem_rbelow.1 ha;have h2:=(rfrom_under F.ok R _ this.1).1 this.2;have h3:=fAa.not_under_self F.ok.tree h;rw [show fAa.under k.caps (fAa.get k.caps (e:Int) c.e1) ⟨e,c.e1⟩ = true from h2.2.2] at h3;cases h3
 ·exact rbelow_nodup _
theorem rtake_len (F:PK.Fine k) (R:Rel k m) {e:Nat} {c:bv} (he:e < 4) (h1:0 <= c.e1/\c.e1 < 8) (h:fAa.has k.caps e c.e1 = true) (hn:(fAa.get k.caps e c.e1).fCa ≠ 0):(kO m e c).length = (fAa.fVa k.caps e c.e1 (decide (c.e0 = 5))).length:=by
 have a1:((kO m e c).map toP).Nodup:=List.Pairwise.map toP (fun a b h e=>h (toP_inj e)) (rtake_nodup F R he h1 h);have a2:=fAa.goers_nd F.ok.tree (w:=decide (c.e0 = 5)) h;have l1:=nodup_len a1 (m:=fAa.fVa k.caps e c.e1 (decide (c.e0 = 5))) fun x hx=>by
  obtain ⟨p,hp,rfl⟩:=mem_map.1 hx;exact ((mem_rtake F R he h1 h hn).1 hp).2
 have l2:=nodup_len a2 (m:=(kO m e c).map toP) fun x hx=>by
  have hin:=toP_in F.ok (fAa.goers_has F.ok.tree h hn x hx);exact mem_map.2 ⟨⟨x.fBa,x.fDa⟩,(mem_rtake F R he h1 h hn).2 ⟨hin,hx⟩,rfl⟩
 rw [List.length_map] at l1 l2;omega
theorem gone1_S (m:RM) (p:bf) (a b:Nat):(vp m p).S a b = if a = p.fBa.toNat/\b = p.fDa.toNat then jp else m.S a b:=rfl
theorem gone1_Q (m:RM) (p:bf) (a pg:Nat):(vp m p).Q a pg = if a = p.fBa.toNat/\pg < 8/\(m.Q a pg).fCa ≠ 0/\(m.Q a pg).fDa = p.fDa then ⟨0,0,0⟩ else m.Q a pg:=rfl
theorem rgone_z:∀ (l:List bf) (m:RM),(lZ m l).z = m.z/\(lZ m l).M = m.M
 | [],m=>⟨rfl,rfl⟩
 | p::l,m=>rgone_z l (vp m p)
theorem rgone_S:∀ (l:List bf) (m:RM) (a b:Nat),(∀ p ∈ l,bf.in_ p)->(((⟨a,b⟩:bf) ∈ l\/m.S a b = jp)->(lZ m l).S a b = jp)/\((⟨a,b⟩:bf) ∉ l->(lZ m l).S a b = m.S a b)
 | [],m,a,b,_=>⟨fun h=>h.elim (fun h=>by cases h) id,fun _=>rfl⟩
 | p::l,m,a,b,hl=>by
  obtain ⟨i1,i2⟩:=rgone_S l (vp m p) a b (fun q hq=>hl q (mem_cons_of_mem _ hq));obtain ⟨g1,g2,g3,g4⟩:=hl p List.mem_cons_self;have hp:(a = p.fBa.toNat/\b = p.fDa.toNat)↔(⟨a,b⟩:bf) = p:=by
   constructor
   ·rintro ⟨rfl,rfl⟩;cases p;simp only at g1 g3 ⊢
    congr 1 <;> omega
   ·intro h;rw [← h]; exact ⟨rfl,rfl⟩
  show ((_->(lZ (vp m p) l).S a b = _)/\(_->(lZ (vp m p) l).S a b = _));rw [gone1_S] at i1 i2;by_cases hc:a = p.fBa.toNat/\b = p.fDa.toNat
  ·rw [if_pos hc] at i1 i2;exact ⟨fun _=>i1 (.inr rfl),fun h=>absurd (mem_cons.2 (.inl (hp.1 hc))) h⟩
  ·rw [if_neg hc] at i1 i2;refine ⟨fun h=>i1 ?_,fun h=>i2 fun hh=>h (mem_cons_of_mem _ hh)⟩;rcases h with h | h
   ·rcases mem_cons.1 h with h | h
    ·exact absurd (hp.2 h) hc
    ·exact .inl h
   ·exact .inr h
theorem rgone_Q:∀ (l:List bf) (m:RM) (a pg:Nat),pg < 8->(∀ p ∈ l,bf.in_ p)->(((m.Q a pg).fCa ≠ 0/\(⟨a,(m.Q a pg).fDa⟩:bf) ∈ l)->(lZ m l).Q a pg = ⟨0,0,0⟩)/\(¬ ((m.Q a pg).fCa ≠ 0/\(⟨a,(m.Q a pg).fDa⟩:bf) ∈ l)->(lZ m l).Q a pg = m.Q a pg)
 | [],m,a,pg,_,_=>⟨fun h=>(by cases h.2),fun _=>rfl⟩
 | p::l,m,a,pg,hpg,hl=>by
  obtain ⟨i1,i2⟩:=rgone_Q l (vp m p) a pg hpg (fun q hq=>hl q (mem_cons_of_mem _ hq));obtain ⟨g1,g2,g3,g4⟩:=hl p List.mem_cons_self;show ((_->(lZ (vp m p) l).Q a pg = _)/\(_->(lZ (vp m p) l).Q a pg = _));rw [gone1_Q] at i1 i2;by_cases hc:a = p.fBa.toNat/\pg < 8/\(m.Q a pg).fCa ≠ 0/\(m.Q a pg).fDa = p.fDa
  ·rw [if_pos hc] at i1 i2;refine ⟨fun _=>i2 (fun h=>h.1 rfl),fun h=>absurd ⟨hc.2.2.1,mem_cons.2 (.inl ?_)⟩ h⟩;rw [hc.2.2.2,hc.1];cases p;simp only at g1 ⊢
   congr 1; omega
  ·rw [if_neg hc] at i1 i2;refine ⟨fun h=>i1 ⟨h.1,?_⟩,fun h=>i2 fun hh=>h ⟨hh.1,mem_cons_of_mem _ hh.2⟩⟩;rcases mem_cons.1 h.2 with h2 | h2
   ·refine absurd ⟨?_,hpg,h.1,?_⟩ hc
    ·rw [← h2]; rfl
    ·rw [← h2]
   ·exact h2
end
theorem hasF_eq {k:PK} {m:RM} (R:Rel k m) (f:Int) {a b:Nat} (ha:a < 4) (hb:b < 8):hasF m f a b = fAa.isF f (fAa.get k.caps a b):=by
 unfold hasF fAa.isF;rw [R.s a b ha hb];by_cases hc:fAa.has k.caps a b = true/\(fAa.get k.caps a b).fCa ≠ 0
 ·rw [vX hc.1 hc.2];simp [hc.2]
  rfl
 ·rw [qr hc];by_cases hh:fAa.has k.caps a b = true
  ·have h0:(fAa.get k.caps a b).fCa = 0:=by
    by_cases h0:(fAa.get k.caps a b).fCa = 0
    ·exact h0
    ·exact absurd ⟨hh,h0⟩ hc
   rw [h0]; rfl
  ·rw [get_out (by omega) (by omega) hh]; rfl
theorem row_cnt (P:Cap->Bool) {r:List Cap} (hr:r.length = 8):(range 8).countP (fun j=>P (r.getD j jd)) = r.countP P:=by
 have:r = (range 8).map fun j=>r.getD j jd:=by
  apply List.ext_getElem?;intro i;rw [List.getElem?_map];by_cases hi:i < 8
  ·rw [List.getElem?_range hi,List.getElem?_eq_getElem (by omega)];simp [List.getD_eq_getElem?_getD,show i < r.length by omega]
  ·rw [List.getElem?_eq_none (by omega),List.getElem?_eq_none (by rw [List.length_range]; omega)]; rfl
 rw [this,List.countP_map]
 congr 1
 funext j;simp only [Function.comp];rw [← this]
theorem cnt_range (f:Int):∀ (n:Nat) (t:fAa.T),(∀ r ∈ t,r.length = 8)->t.length <= n->(range (8 * n)).countP (fun j=>fAa.isF f (fAa.get t ((j / 8:Nat):Int) ((j % 8:Nat):Int))) = fAa.cnt f t
 | 0,t,_,h=>by
  have:t = []:=List.length_eq_zero_iff.1 (by omega);subst this
  rfl
 | n + 1,[],_,_=>by
  rw [show fAa.cnt f [] = 0 from rfl,List.countP_eq_zero];intro j _;show ¬ fAa.isF f (fAa.get [] _ _) = true;have:fAa.get [] ((j / 8:Nat):Int) ((j % 8:Nat):Int) = jd:=get_out (by omega) (by omega) (by unfold fAa.has; simp; intros; omega);rw [this];simp [fAa.isF]
 | n + 1,r::t,h,hl=>by
  rw [show 8 * (n + 1) = 8 + 8 * n by omega,List.range_add,List.countP_append,List.countP_map];have ih:=cnt_range f n t (fun x hx=>h x (mem_cons_of_mem _ hx)) (by simpa using hl);have e1:(range 8).countP (fun j=>fAa.isF f (fAa.get (r::t) ((j / 8:Nat):Int) ((j % 8:Nat):Int))) = r.countP (fAa.isF f):=by
   rw [← row_cnt (fAa.isF f) (h r List.mem_cons_self)];apply List.countP_congr;intro j hj;have:=mem_range.1 hj;rw [show j / 8 = 0 by omega,show j % 8 = j by omega]
   rfl
  have e2:(range (8 * n)).countP ((fun j=>fAa.isF f (fAa.get (r::t) ((j / 8:Nat):Int) ((j % 8:Nat):Int))) ∘ (8 + ·)) = (range (8 * n)).countP (fun j=>fAa.isF f (fAa.get t ((j / 8:Nat):Int) ((j % 8:Nat):Int))):=by
   congr 1
   funext j;simp only [Function.comp];rw [show (8 + j) / 8 = j / 8 + 1 by omega,show (8 + j) % 8 = j % 8 by omega]
   rfl
  rw [e1,e2,ih]; rfl
theorem rcnt_eq {k:PK} {m:RM} (ok:PK.Ok k) (R:Rel k m) (f:Int):rcnt m f = fAa.cnt f k.caps:=by
 rw [← cnt_range f 4 k.caps ok.tree.row ok.tree.len];unfold rcnt rpre;apply List.countP_congr;intro j hj;have:=mem_range.1 hj;rw [hasF_eq R f (by omega) (by omega)]
theorem free_range:∀ (p:List Int) (i:Nat),Pool.freeFrom p i = ((range p.length).filter fun j=>p.getD j 0 == 0).map fun j:Nat=>((i + j:Nat):Int)
 | [],_=>rfl
 | x::p,i=>by
  have ih:=free_range p (i + 1);rw [Pool.freeFrom,length_cons,List.range_succ_eq_map,List.filter_cons,List.filter_map];have e1:((fun j=>(x::p).getD j 0 == 0) ∘ Nat.succ) = fun j=>p.getD j 0 == 0:=by funext j; rfl
  rw [e1];have e2:((i:Int) + 1) = ((i + 1:Nat):Int):=rfl;rw [e2,ih];have e3:(List.map Nat.succ (List.filter (fun j=>p.getD j 0 == 0) (range p.length))).map (fun j:Nat=>((i + j:Nat):Int)) = (List.filter (fun j=>p.getD j 0 == 0) (range p.length)).map fun j:Nat=>((i + 1 + j:Nat):Int):=by
   rw [List.map_map];apply List.map_congr_left;intro j _;simp only [Function.comp];omega
  by_cases hx:x = 0
  ·rw [if_pos hx,if_pos (by show (x == 0) = true; simpa using hx),List.map_cons,e3]
   rfl
  ·rw [if_neg hx,if_neg (by show ¬ (x == 0) = true; simpa using hx),e3]
theorem rfree_eq {k:PK} {m:RM} (F:PK.Fine k) (R:Rel k m):rfree m = Pool.free k.pool:=by
 unfold rfree ov Pool.free;have hpl:=F.ok.pl;rw [show (0:Int) = ((0:Nat):Int) from rfl,free_range,R.z];rw [show k.s.fUa.toNat = k.pool.length by omega];have e1:(range k.pool.length).filter (fun i:Nat=>rcnt m i == 0) = (range k.pool.length).filter (fun j=>k.pool.getD j 0 == 0):=by
  apply List.filter_congr;intro j hj;have hj:=mem_range.1 hj;rw [rcnt_eq F.ok R];have h1:=F.num j (by omega) (by omega);unfold Pool.refs at h1;rw [if_neg (by omega),toNat_natCast] at h1;rw [h1];by_cases h0:fAa.cnt (j:Int) k.caps = 0
  ·rw [h0]; rfl
  ·have:(((fAa.cnt (j:Int) k.caps:Nat):Int) == 0) = false:=by simpa using h0
   rw [this]; simpa using h0
 rw [e1];apply List.map_congr_left;intro j _;omega
theorem rel_rw {k:PK} {m:RM} (F:PK.Fine k) (R:Rel k m):RW m:=by
 have hs:=cQ.1 F.ok.sz;have cap:∀ a b:Nat,a < 4->b < 8->(m.S a b).fIs = true->fAa.has k.caps a b = true/\(fAa.get k.caps a b).fCa ≠ 0:=by
  intro a b ha hb h;rw [R.s a b ha hb] at h;by_cases hc:fAa.has k.caps a b = true/\(fAa.get k.caps a b).fCa ≠ 0
  ·exact hc
  ·rw [qr hc] at h; cases h
 refine ⟨fun a b ha hb h h0=>?_,fun a b ha hb h=>?_,fun a p ha hp h=>?_,fun a p ha hp h=>?_,by rw [R.z]; omega,by rw [R.z]; omega⟩
 ·obtain ⟨c1,c2⟩:=cap a b ha hb h;rw [R.s a b ha hb,vX c1 c2] at h0 ⊢;obtain ⟨rank,hr⟩:=F.ok.tree.rk;have h2:=toP_in F.ok (p:=⟨(fAa.get k.caps a b).fBa,(fAa.get k.caps a b).fDa⟩) (hr a b c1 c2 h0).1;exact ⟨h2.2.1,h2.2.2.1,h2.2.2.2⟩
 ·obtain ⟨c1,c2⟩:=cap a b ha hb h;rw [R.s a b ha hb,vX c1 c2];have:=PK.fine_frame F.ok.fine c1 c2;show 0 <= (fAa.get k.caps a b).fEa/\(fAa.get k.caps a b).fEa < 16;omega
 ·rw [R.q a p ha hp] at h ⊢;have h2:=toP_in F.ok (p:=⟨a,(PK.q k a p).fDa⟩) (F.by_ a p h).1;exact ⟨h2.2.2.1,h2.2.2.2⟩
 ·rw [R.q a p ha hp] at h ⊢;obtain ⟨h1,h2,h3⟩:=F.by_ a p h;have hw:=bI h3;have:=PK.fine_frame F.ok.fine h1 (by omega);omega
end
section
open Go Mb
theorem put_well2 {p:Pte} (h:0 <= p.fEa/\p.fEa < 16/\0 <= p.fDa/\p.fDa < 8) (hr:1 <= p.fCa/\p.fCa <= 3):(cK p).2 = true:=by
 unfold cK;have h1:ak.eqb p (⟨0,0,0⟩:ak) = false:=by
  unfold ak.eqb;simp; omega
 have h2:(((((decide (p.fEa < 0)) || (decide (p.fEa >= 16))) || (decide (p.fDa < 0))) || (decide (p.fDa >= 8))) || (!(aS p.fCa))) = false:=by
  rw [oM.2 hr]; simp; omega
 rw [h1,h2]; rfl
theorem q_same {k k':PK} (hs:k'.s = k.s) (ht:k'.tabs = k.tabs) (a pg:Int):PK.q k' a pg = PK.q k a pg:=by
 unfold PK.q PK.pte PK.off PK.tab;rw [hs,ht]
theorem slot_put {t:fAa.T} (row:∀ r ∈ t,r.length = 8) {e s:Int} (h:fAa.has t e s = true) {c:Cap} (hc:c.fCa ≠ 0) (a b:Int):vd (fAa.put t e s c) a b = if a = e/\b = s then ⟨true,c.fEa,c.fCa,c.fBa,c.fDa⟩ else vd t a b:=by
 by_cases hh:fAa.has t a b = true
 ·have g:=fAa.get_put row h hh c;by_cases e1:a = e/\b = s
  ·rw [if_pos e1] at g ⊢;rw [vX (by rw [fAa.put_has]; exact hh) (by rw [g]; exact hc),g]
  ·rw [if_neg e1] at g ⊢;unfold vd;rw [fAa.put_has,g]
 ·rw [if_neg (fun e1=>hh (by rw [e1.1,e1.2]; exact h)),qr (fun hx=>hh (by rw [fAa.put_has] at hx; exact hx.1)),qr (fun hx=>hh hx.1)]
theorem rel_setS {k k':PK} {m m':RM} (R:Rel k m) (row:∀ r ∈ k.caps,r.length = 8) {e s:Nat} {c:Cap} {x:RSlot} (h:fAa.has k.caps e s = true) (hc:c.fCa ≠ 0) (hx:x = ⟨true,c.fEa,c.fCa,c.fBa,c.fDa⟩) (hs:k'.s = k.s) (hcaps:k'.caps = fAa.put k.caps e s c) (ht:k'.tabs = k.tabs)
  (mz:m'.z = m.z) (mS:m'.S = (m.setS e s x).S) (mQ:m'.Q = m.Q):Rel k' m':=by
 refine ⟨by rw [mz,hs]; exact R.z,fun a b ha hb=>?_,fun a p ha hp=>by rw [mQ,q_same hs ht]; exact R.q a p ha hp⟩;rw [hcaps,slot_put row h hc,mS];show (if a = e/\b = s then x else m.S a b) = _;by_cases e1:a = e/\b = s
 ·rw [if_pos e1,if_pos ⟨by omega,by omega⟩,hx]
 ·rw [if_neg e1,if_neg (fun h=>e1 ⟨by omega,by omega⟩)]; exact R.s a b ha hb
theorem idx_free:∀ (p:List Int) (i:Int),0 <= i->(cn 0 p i = -1/\Pool.freeFrom p i = [])\/∃ r,Pool.freeFrom p i = cn 0 p i::r/\0 <= cn 0 p i
 | [],_,_=>.inl ⟨rfl,rfl⟩
 | x::p,i,hi=>by
  rw [cn,Pool.freeFrom];by_cases h:x = 0
  ·rw [if_pos h,if_pos h.symm];exact .inr ⟨_,rfl,hi⟩
  ·rw [if_neg h,if_neg (fun e=>h e.symm)];exact idx_free p (i + 1) (by omega)
section
variable {k:PK} {m:RM}
theorem slot_at (R:Rel k m) {a b:Nat} (ha:a < 4) (hb:b < 8):(m.S a b).fIs = (fAa.at_ k.caps a b).2:=by rw [R.s a b ha hb,slot_is]
theorem rel_alloc (F:PK.Fine k) (R:Rel k m) {e s:Nat} (he:e < 4) (hs:s < 8) (hh:fAa.has k.caps e s = true):(xK m e s).1 = (PK.alloc k e s).1/\Rel (PK.alloc k e s).2 (xK m e s).2:=by
 unfold xK PK.alloc;rw [slot_at R he hs,rfree_eq F R];by_cases h1:(fAa.at_ k.caps e s).2 = true
 ·rw [if_pos h1,if_pos h1]; exact ⟨rfl,R⟩
 rw [if_neg h1,if_neg h1];have h0:(fAa.get k.caps e s).fCa = 0:=by
  by_cases h:(fAa.get k.caps e s).fCa = 0
  ·exact h
  ·exact absurd ((PK.at_snd _ _ _).2 ⟨hh,h⟩) h1
 unfold Pool.free;rcases idx_free k.pool 0 (Int.le_refl _) with ⟨i1,i2⟩ | ⟨r,i1,i2⟩
 ·have ht:(Pool.take k.pool).2.1 = false:=by unfold Pool.take; rw [if_pos (by rw [i1]; decide)]
  rw [i2,if_pos ht]; exact ⟨rfl,R⟩
 ·have ht:Pool.take k.pool = (cn 0 k.pool 0,true,k.pool.set (cn 0 k.pool 0).toNat 1):=by unfold Pool.take; rw [if_neg (by omega)]
  have hin:=take_in (p:=k.pool) (by rw [ht]);have hpl:=F.ok.pl;have hsz:=cQ.1 F.ok.sz;rw [ht] at hin ⊢;rw [i1,if_neg (by simp)];simp only at hin ⊢;have hroot:fAa.root k.caps e s (cn 0 k.pool 0) = (0,fAa.put k.caps e s ⟨cn 0 k.pool 0,3,-1,0⟩):=by
   unfold fAa.root;rw [if_neg (by rw [hh]; simp; omega),if_neg (by simp [h0])]
  rw [hroot];exact ⟨rfl,rel_setS R F.ok.tree.row hh (c:=⟨cn 0 k.pool 0,3,-1,0⟩) (by show (3:Int) ≠ 0; decide) rfl rfl rfl rfl rfl rfl rfl⟩
theorem rel_revoke (F:PK.Fine k) (R:Rel k m) {e:Nat} {c:bv} (he:e < 4) (h1:0 <= c.e1/\c.e1 < 8) (h:fAa.has k.caps e c.e1 = true) :
  (if (m.S e c.e1.toNat).fIs = false then (((⟨3,0⟩:bY),true),m) else ((⟨0,u64.wrap (kO m e c).length⟩,true),lZ m (kO m e c))).1 = ((PK.revoke k e c.e1 (decide (c.e0 = 5))).1,true) /\
  Rel (PK.revoke k e c.e1 (decide (c.e0 = 5))).2 (if (m.S e c.e1.toNat).fIs = false then (((⟨3,0⟩:bY),true),m) else ((⟨0,u64.wrap (kO m e c).length⟩,true),lZ m (kO m e c))).2:=by
 obtain ⟨s,hs⟩:=eq_ofNat_of_zero_le h1.1;have es:c.e1.toNat = s:=by omega
 rw [es,slot_at R he (by omega)];by_cases hn:(fAa.get k.caps e c.e1).fCa = 0
 ·have hat:(fAa.at_ k.caps e s).2 = false:=by
   rw [← hs];cases hx:(fAa.at_ k.caps e c.e1).2 with
   | false=>rfl
   | true=>exact absurd hn ((PK.at_snd _ _ _).1 hx).2
  rw [hat,if_pos rfl,PK.revoke_no h hn];exact ⟨rfl,R⟩
 ·have hat:(fAa.at_ k.caps e s).2 = true:=by rw [← hs]; exact (PK.at_snd _ _ _).2 ⟨h,hn⟩
  rw [hat,if_neg (by simp)];have hlen:=rtake_len F R he h1 h hn;have hmem:=fun p=>mem_rtake F R he h1 h hn (p:=p);have hq:=fun a pg=>PK.revoke_q F (w:=decide (c.e0 = 5)) h hn a pg;have hin:∀ p ∈ kO m e c,bf.in_ p:=fun p hp=>((hmem p).1 hp).1;have hgh:=fAa.goers_has F.ok.tree (w:=decide (c.e0 = 5)) h hn;rw [PK.revoke_eq F h hn] at hq ⊢;refine ⟨by rw [hlen],?_⟩;obtain ⟨g1,g2,_⟩:=PK.gone_same (fAa.fVa k.caps e c.e1 (decide (c.e0 = 5))) { k with caps:=fAa.fSa k.caps (fAa.fVa k.caps e c.e1 (decide (c.e0 = 5))) } (fAa.get k.caps e c.e1).fEa;refine ⟨by rw [(rgone_z _ _).1,g2]; exact R.z,fun a b ha hb=>?_,fun a p ha hp=>?_⟩
  ·rw [g1];obtain ⟨r1,r2⟩:=rgone_S (kO m e c) m a b hin;by_cases hc:(⟨a,b⟩:bf) ∈ kO m e c
   ·rw [r1 (.inl hc)];have hg:(⟨a,b⟩:ba) ∈ fAa.fVa k.caps e c.e1 (decide (c.e0 = 5)):=((hmem _).1 hc).2;have hab:fAa.has k.caps a b = true:=hgh _ hg;rw [qr];rintro ⟨_,x2⟩;rw [fAa.empties_get _ _ F.ok.tree.row hgh a b hab,if_pos hg] at x2;exact x2 rfl
   ·rw [r2 hc,R.s a b ha hb];by_cases hab:fAa.has k.caps a b = true
    ·have hg:¬ (⟨a,b⟩:ba) ∈ fAa.fVa k.caps e c.e1 (decide (c.e0 = 5)):=fun hg=>hc ((hmem _).2 ⟨⟨by show (0:Int) <= a; omega,by show (a:Int) < 4; omega,by show (0:Int) <= b; omega,by show (b:Int) < 8; omega⟩,hg⟩);unfold vd;rw [fAa.empties_has,fAa.empties_get _ _ F.ok.tree.row hgh a b hab,if_neg hg]
    ·rw [qr (fun hx=>hab hx.1),qr (fun hx=>hab (by rw [fAa.empties_has] at hx; exact hx.1))]
  ·have hq:=hq a p;rw [hq];obtain ⟨r1,r2⟩:=rgone_Q (kO m e c) m a p hp hin;have hqa:=R.q a p ha hp;rw [hqa] at r1 r2;by_cases hc:(PK.q k a p).fCa ≠ 0/\(⟨a,(PK.q k a p).fDa⟩:ba) ∈ fAa.fVa k.caps e c.e1 (decide (c.e0 = 5))
   ·rw [if_pos hc];have hs2:=toP_in F.ok (F.by_ a p hc.1).1 (p:=⟨a,(PK.q k a p).fDa⟩);exact r1 ⟨hc.1,(hmem _).2 ⟨hs2,hc.2⟩⟩
   ·rw [if_neg hc];exact r2 fun hx=>hc ⟨hx.1,((hmem _).1 hx.2).2⟩
end
end
section
open Go Mb
section
variable {k:PK} {m:RM}
theorem slot_full (R:Rel k m) {a b:Nat} (ha:a < 4) (hb:b < 8) (h:fAa.has k.caps a b = true) (hr:(fAa.get k.caps a b).fCa ≠ 0):m.S a b = ⟨true,(fAa.get k.caps a b).fEa,(fAa.get k.caps a b).fCa,(fAa.get k.caps a b).fBa,(fAa.get k.caps a b).fDa⟩:=by rw [R.s a b ha hb,vX h hr]
theorem slot_none (R:Rel k m) {a b:Nat} (ha:a < 4) (hb:b < 8) (hr:(fAa.get k.caps a b).fCa = 0):m.S a b = jp:=by rw [R.s a b ha hb,qr (fun h=>h.2 hr)]
theorem derive_leaf (F:PK.Fine k) {e src to dst r:Int} (hr0:r ≠ 0) (h1:fAa.has k.caps e src = true) (h2:fAa.has k.caps to dst = true) (hsr:(fAa.get k.caps e src).fCa ≠ 0) (hds:(fAa.get k.caps to dst).fCa = 0) :
  fAa.drop (fAa.put k.caps to dst ⟨(fAa.get k.caps e src).fEa,r,e,src⟩) to dst = (([⟨to,dst⟩],0),k.caps):=by
 have hc:0 <= e->fAa.has k.caps e src = true/\(fAa.get k.caps e src).fCa ≠ 0:=fun _=>⟨h1,hsr⟩
 have hpg:fAa.get (fAa.put k.caps to dst ⟨(fAa.get k.caps e src).fEa,r,e,src⟩) to dst = ⟨(fAa.get k.caps e src).fEa,r,e,src⟩:=by rw [fAa.get_put F.ok.tree.row h2 h2,if_pos ⟨rfl,rfl⟩]
 have okp:=fAa.ok_put F.ok.tree h2 hds ⟨(fAa.get k.caps e src).fEa,r,e,src⟩ hc;have ho:fAa.own (fAa.put k.caps to dst ⟨(fAa.get k.caps e src).fEa,r,e,src⟩) to dst = [⟨to,dst⟩]:=by
  refine fAa.own_leaf okp (by rw [fAa.put_has]; exact h2) (by rw [hpg]; exact hr0) fun a b hab hne=>?_;rw [fAa.put_has] at hab;by_cases hs:a = to/\b = dst
  ·obtain ⟨rfl,rfl⟩:=hs;exact fAa.not_under_self okp (by rw [fAa.put_has]; exact h2)
  ·have hg:fAa.get (fAa.put k.caps to dst ⟨(fAa.get k.caps e src).fEa,r,e,src⟩) a b = fAa.get k.caps a b:=by rw [fAa.get_put F.ok.tree.row h2 hab,if_neg hs]
   rw [hg] at hne ⊢;rw [fAa.under_put F.ok.tree h2 hds hc _ _ a b (le_refl _) hab hne];exact fAa.under_empty F.ok.tree (p:=⟨to,dst⟩) hds _ a b (le_refl _) hab
 have hlook:fAa.look (fAa.put k.caps to dst ⟨(fAa.get k.caps e src).fEa,r,e,src⟩) to dst = 0:=by
  unfold fAa.look; rw [if_neg (by rw [fAa.put_has,h2]; simp),if_neg (by rw [hpg]; exact hr0)]
 unfold fAa.drop;rw [if_neg (by rw [hlook]; simp),ho];show ((_,_),fAa.put (fAa.put k.caps to dst _) to dst jd) = _;rw [fAa.put_put _ _ h2,← fAa.cap_zero F.ok.fine h2 hds,fAa.put_self F.ok.tree.row h2]
theorem rel_derive (F:PK.Fine k) (R:Rel k m) {e s te ts:Nat} {r:Int} (he:e < 4) (hs:s < 8) (hte:te < 4) (hts:ts < 8) (h1:fAa.has k.caps e s = true) (h2:fAa.has k.caps te ts = true) (hr:1 <= r/\r <= 3):(dq m e s te ts r).1 = (PK.derive k e s te ts r).1/\Rel (PK.derive k e s te ts r).2 (dq m e s te ts r).2:=by
 have hm:aS r = true:=oM.2 hr;have hd:∀ v:Int,v ≠ 0->fAa.derive k.caps e s te ts r = (v,k.caps)->dq m e s te ts r = (v,m)->(dq m e s te ts r).1 = (PK.derive k e s te ts r).1/\Rel (PK.derive k e s te ts r).2 (dq m e s te ts r).2:=by
  intro v hv h h';have h3:PK.derive k e s te ts r = (v,k):=by unfold PK.derive; rw [h]; exact if_pos hv
  rw [h3,h'];exact ⟨rfl,R⟩
 have c0:¬ (fAa.has k.caps e s = false\/fAa.has k.caps te ts = false\/aS r = false):=by rw [h1,h2,hm]; simp
 by_cases c1:(fAa.get k.caps e s).fCa = 0
 ·refine hd 3 (by decide) (by unfold fAa.derive; rw [if_neg c0,if_pos c1]) ?_;unfold dq;rw [slot_none R he hs c1];exact if_pos rfl
 have f1:=slot_full R he hs h1 c1;rcases Decidable.em ((fAa.get k.caps te ts).fCa ≠ 0) with c2 | c2
 ·refine hd 4 (by decide) (by unfold fAa.derive; rw [if_neg c0,if_neg c1,if_pos c2]) ?_;unfold dq;rw [f1,slot_full R hte hts h2 c2];exact (if_neg (by simp)).trans (if_pos rfl)
 have c2':¬ (fAa.get k.caps te ts).fCa ≠ 0:=c2;have c2:(fAa.get k.caps te ts).fCa = 0:=by omega
 have f2:=slot_none R hte hts c2;have n1:¬ (m.S e s).fIs = false:=by rw [f1]; simp
 have n2:¬ (m.S te ts).fIs = true:=by rw [f2]; decide
 have n3:(m.S e s).fCa = (fAa.get k.caps e s).fCa:=by rw [f1]
 have n4:(m.S e s).fEa = (fAa.get k.caps e s).fEa:=by rw [f1]
 by_cases c3:ap r (fAa.get k.caps e s).fCa = false
 ·refine hd 5 (by decide) (by unfold fAa.derive; rw [if_neg c0,if_neg c1,if_neg c2',if_pos c3]) ?_;unfold dq;rw [if_neg n1,if_neg n2,tB,n3,if_pos c3]
 have hD:fAa.derive k.caps e s te ts r = (0,fAa.put k.caps te ts ⟨(fAa.get k.caps e s).fEa,r,e,s⟩):=by unfold fAa.derive; rw [if_neg c0,if_neg c1,if_neg c2',if_neg c3]
 have hr0:r ≠ 0:=by omega
 have hpg:fAa.get (fAa.put k.caps te ts ⟨(fAa.get k.caps e s).fEa,r,e,s⟩) te ts = ⟨(fAa.get k.caps e s).fEa,r,e,s⟩:=by rw [fAa.get_put F.ok.tree.row h2 h2,if_pos ⟨rfl,rfl⟩]
 have hat:fAa.at_ (fAa.put k.caps te ts ⟨(fAa.get k.caps e s).fEa,r,e,s⟩) te ts = (⟨(fAa.get k.caps e s).fEa,r,e,s⟩,true):=by
  rw [PK.at_of (by rw [fAa.put_has]; exact h2) (by rw [hpg]; exact hr0),hpg]
 have hP:PK.derive k e s te ts r = if (Pool.hold k.pool (fAa.get k.caps e s).fEa).1 = false then (6,{ k with caps:=(fAa.drop (fAa.put k.caps te ts ⟨(fAa.get k.caps e s).fEa,r,e,s⟩) te ts).2 }) else (0,{ k with caps:=fAa.put k.caps te ts ⟨(fAa.get k.caps e s).fEa,r,e,s⟩,pool:=(Pool.hold k.pool (fAa.get k.caps e s).fEa).2 }):=by
  unfold PK.derive;rw [hD];simp only [hat];rw [if_neg (fun h=>h rfl)]
 have hfr:=PK.fine_frame F.ok.fine h1 c1;have hpos:=fAa.cnt_pos F.ok.tree.row h1 c1 rfl;have hnum:=F.num _ hfr.1 hfr.2;have hrc:(rcnt m (m.S e s).fEa:Int) = Pool.refs k.pool (fAa.get k.caps e s).fEa:=by rw [n4,rcnt_eq F.ok R,hnum]
 have hR:dq m e s te ts r = if Pool.refs k.pool (fAa.get k.caps e s).fEa >= 7 then (6,m) else (0,m.setS te ts ⟨true,(fAa.get k.caps e s).fEa,r,e,s⟩):=by
  unfold dq;rw [if_neg n1,if_neg n2,tB,n3,if_neg c3,hrc,n4]
 rw [hP,hR];by_cases c4:Pool.refs k.pool (fAa.get k.caps e s).fEa >= 7
 ·have hh:Pool.hold k.pool (fAa.get k.caps e s).fEa = (false,k.pool):=by unfold Pool.hold; rw [if_pos (Or.inr c4)]
  rw [hh,if_pos c4,if_pos rfl,derive_leaf F hr0 h1 h2 c1 c2];exact ⟨rfl,R⟩
 ·have hh:(Pool.hold k.pool (fAa.get k.caps e s).fEa).1 = true:=by unfold Pool.hold; rw [if_neg (fun h=>h.elim (fun h=>by omega) c4)]
  rw [if_neg c4,if_neg (by rw [hh]; simp)];exact ⟨rfl,rel_setS R F.ok.tree.row h2 (c:=⟨(fAa.get k.caps e s).fEa,r,e,s⟩) hr0 rfl rfl rfl rfl rfl rfl rfl⟩
theorem rel_setQ {k':PK} (R:Rel k m) {e pg:Nat} {x:Pte} (hs:k'.s = k.s) (hc:k'.caps = k.caps) (hq:∀ a p:Nat,a < 4->p < 8->PK.q k' a p = if a = e/\p = pg then x else PK.q k a p):Rel k' (m.setQ e pg x):=by
 refine ⟨by rw [hs]; exact R.z,fun a b ha hb=>by rw [hc]; exact R.s a b ha hb,fun a p ha hp=>?_⟩;rw [hq a p ha hp];show (if a = e/\p = pg then x else m.Q a p) = _;rw [R.q a p ha hp]
theorem page_is {pg:Nat} (h:pg < 8):aK (pg:Int) = true:=by unfold aK; simp; omega
theorem rel_maps (F:PK.Fine k) (R:Rel k m) {e pg s:Nat} {r:Int} (he:e < 4) (hp:pg < 8) (hs:s < 8) (hoff:PK.off k e = false) (hh:fAa.has k.caps e s = true) (hr:1 <= r/\r <= 3) :
  (if (m.S e s).fIs = false then ((3:Int),m) else if (m.Q e pg).fCa ≠ 0 then (4,m) else if ap r (m.S e s).fCa = false then (5,m) else (0,m.setQ e pg ⟨(m.S e s).fEa,s,r⟩)).1 = (PK.maps k e pg s r).1 /\
  Rel (PK.maps k e pg s r).2 (if (m.S e s).fIs = false then ((3:Int),m) else if (m.Q e pg).fCa ≠ 0 then (4,m) else if ap r (m.S e s).fCa = false then (5,m) else (0,m.setQ e pg ⟨(m.S e s).fEa,s,r⟩)).2:=by
 unfold PK.maps;rw [slot_at R he hs];by_cases c1:(fAa.at_ k.caps e s).2 = false
 ·rw [if_pos c1,if_pos c1]; exact ⟨rfl,R⟩
 rw [if_neg c1,if_neg c1];have hn:=((PK.at_snd _ _ _).1 (by simpa using c1)).2;rw [R.q e pg he hp,Table.get_snd,← PK.q_get hoff];by_cases c2:(PK.q k e pg).fCa ≠ 0
 ·rw [if_pos c2,if_pos (decide_eq_true c2)]; exact ⟨rfl,R⟩
 rw [if_neg c2,if_neg (show ¬ (decide ((PK.q k e pg).fCa ≠ 0)) = true by simpa using c2),PK.at_of hh hn,slot_full R he hs hh hn];simp only;by_cases c3:ap r (fAa.get k.caps e s).fCa = false
 ·rw [if_pos c3,if_pos c3]; exact ⟨rfl,R⟩
 rw [if_neg c3,if_neg c3];have hfr:=PK.fine_frame F.ok.fine hh hn;have hsz:=cQ.1 F.ok.sz;have hput:(cK (⟨(fAa.get k.caps e s).fEa,s,r⟩:Pte)).2 = true:=put_well2 ⟨hfr.1,by show (fAa.get k.caps e s).fEa < 16; omega,by show (0:Int) <= s; omega,by show (s:Int) < 8; omega⟩ hr;have hat0:¬ (Table.at_ (PK.tab k e) pg).fCa ≠ 0:=by
  intro h;rw [PK.q_get hoff,Table.get_at (page_is hp) h] at c2;exact c2 h
 have hz:(Table.insert (PK.tab k e) pg ⟨(fAa.get k.caps e s).fEa,s,r⟩).1 = 0:=by
  unfold Table.insert;rw [if_neg (by rw [hput,page_is hp]; simp; omega),if_neg hat0]
 refine ⟨hz.symm,rel_setQ R rfl rfl fun a p ha hp2=>?_⟩;rw [PK.q_tabs F.ok hoff];by_cases h1:a = e
 ·subst h1;rw [if_pos rfl,Table.get_insert (PK.tab_in F.ok hoff).2 _ _ hz];by_cases h2:p = pg
  ·subst h2; rw [if_pos rfl,if_pos ⟨rfl,rfl⟩]
  ·rw [if_neg (by omega),if_neg (fun h=>h2 h.2),PK.q_get hoff]
 ·rw [if_neg (by omega),if_neg (fun h=>h1 h.1)]
theorem rel_remove (F:PK.Fine k) (R:Rel k m) {e pg:Nat} (he:e < 4) (hp:pg < 8) (hoff:PK.off k e = false) :
  (if (m.Q e pg).fCa = 0 then ((3:Int),m) else (0,m.setQ e pg ⟨0,0,0⟩)).1 = (PK.remove k e pg).1/\Rel (PK.remove k e pg).2 (if (m.Q e pg).fCa = 0 then ((3:Int),m) else (0,m.setQ e pg ⟨0,0,0⟩)).2:=by
 have hq:=PK.remove_q F.ok (pg:=(pg:Int)) hoff;rw [R.q e pg he hp];have hat:(PK.q k e pg).fCa = 0↔(Table.at_ (PK.tab k e) pg).fCa = 0:=by
  rw [PK.q_get hoff];unfold Table.get;by_cases h:(Table.at_ (PK.tab k e) pg).fCa = 0
  ·rw [if_neg (fun hx=>hx.2 h)]; exact ⟨fun _=>h,fun _=>rfl⟩
  ·rw [if_pos ⟨page_is hp,h⟩]
 have h1:(PK.remove k e pg).1 = if (Table.at_ (PK.tab k e) pg).fCa = 0 then 3 else 0:=by
  unfold PK.remove Table.remove;rw [if_neg (by rw [page_is hp]; simp)];split <;> rfl
 rw [h1];by_cases c1:(PK.q k e pg).fCa = 0
 ·rw [if_pos c1,if_pos (hat.1 c1)];refine ⟨rfl,R.z,R.s,fun a p ha hp2=>?_⟩;rw [hq];by_cases h2:(e:Int) = a/\(pg:Int) = p
  ·rw [if_pos h2,← PK.q_zero c1,h2.1,h2.2]; exact R.q a p ha hp2
  ·rw [if_neg h2]; exact R.q a p ha hp2
 ·rw [if_neg c1,if_neg (fun h=>c1 (hat.2 h))];refine ⟨rfl,rel_setQ R rfl rfl fun a p ha hp2=>?_⟩;rw [hq];by_cases h2:a = e/\p = pg
  ·rw [if_pos h2,if_pos ⟨by omega,by omega⟩]
  ·rw [if_neg h2,if_neg (fun h=>h2 ⟨by omega,by omega⟩)]
theorem rel_protect (F:PK.Fine k) (R:Rel k m) {e pg:Nat} {r:Int} (he:e < 4) (hp:pg < 8) (hoff:PK.off k e = false) :
  (if (m.Q e pg).fCa = 0 then ((3:Int),m) else if ap r (m.S e (m.Q e pg).fDa.toNat).fCa = false then (5,m) else (0,m.setQ e pg { m.Q e pg with fCa:=r })).1 = (PK.protect k e pg r).1 /\
  Rel (PK.protect k e pg r).2 (if (m.Q e pg).fCa = 0 then ((3:Int),m) else if ap r (m.S e (m.Q e pg).fDa.toNat).fCa = false then (5,m) else (0,m.setQ e pg { m.Q e pg with fCa:=r })).2:=by
 have hq:=PK.protect_q F (pg:=(pg:Int)) (r:=r) hoff;rw [R.q e pg he hp];unfold PK.protect at hq ⊢;rw [Table.get_snd,← PK.q_get hoff] at hq ⊢;by_cases c1:(PK.q k e pg).fCa = 0
 ·have h2:(decide ((PK.q k e pg).fCa ≠ 0)) = false:=by simpa using c1
  rw [if_pos c1,if_pos h2]; exact ⟨rfl,R⟩
 have h2:¬ (decide ((PK.q k e pg).fCa ≠ 0)) = false:=by simpa using c1
 rw [if_neg h2] at hq;rw [if_neg c1,if_neg h2];obtain ⟨b1,b2,b3⟩:=F.by_ e pg c1;have hin:=toP_in F.ok (p:=⟨e,(PK.q k e pg).fDa⟩) b1;have hw:=bI b3;have hcr:(fAa.get k.caps e (PK.q k e pg).fDa).fCa ≠ 0:=by omega
 obtain ⟨s,hs⟩:=eq_ofNat_of_zero_le hin.2.2.1;have hs:(PK.q k e pg).fDa = (s:Int):=hs;have hs8:s < 8:=by have:=hin.2.2.2; simp only at this; omega
 have hat:=PK.at_of b1 hcr;rw [hat] at hq ⊢;rw [hs] at b1 hcr hq ⊢;rw [toNat_natCast,slot_full R he hs8 b1 hcr];simp only at hq ⊢;by_cases c3:ap r (fAa.get k.caps e s).fCa = false
 ·rw [if_pos c3,if_pos c3]; exact ⟨rfl,R⟩
 rw [if_neg c3] at hq;rw [if_neg c3,if_neg c3];have c3':ap r (fAa.get k.caps e s).fCa = true:=by simpa using c3
 have hget:(Table.get (PK.tab k e) pg).2 = true:=by rw [Table.get_snd,← PK.q_get hoff]; simpa using c1
 refine ⟨(Table.protect_zero _ _ hget (oM.2 (bI c3').1)).symm,rel_setQ R rfl rfl fun a p ha hp2=>?_⟩;rw [hq];have hmp:PK.mayP k e pg r:=⟨c1,by rw [hs]; exact c3'⟩
 by_cases h3:a = e/\p = pg
 ·obtain ⟨rfl,rfl⟩:=h3;rw [if_pos ⟨⟨rfl,rfl⟩,hmp⟩,if_pos ⟨rfl,rfl⟩]
 ·rw [if_neg h3,if_neg (fun h=>h3 ⟨by have:=h.1.1; omega,by have:=h.1.2; omega⟩)]
end
end
section
open Go Mb
section
variable {k:PK} {m:RM}
theorem word_keep (m:RM) (f:Nat) (kind:Int) (c:bv):(si m f kind c).2.z = m.z/\(si m f kind c).2.S = m.S/\(si m f kind c).2.Q = m.Q:=by
 unfold si;split
 ·exact ⟨rfl,rfl,rfl⟩
 ·split
  ·simp only;split <;> exact ⟨rfl,rfl,rfl⟩
  ·split <;> exact ⟨rfl,rfl,rfl⟩
theorem touch_keep (k:PK) (f:Int) (c:bv):(PK.touch k f c).2.s = k.s/\(PK.touch k f c).2.caps = k.caps/\(PK.touch k f c).2.tabs = k.tabs:=by
 unfold PK.touch
 repeat' split
 all_goals exact ⟨rfl,rfl,rfl⟩
theorem Rel.same {k':PK} {m':RM} (R:Rel k m) (h1:k'.s = k.s) (h2:k'.caps = k.caps) (h3:k'.tabs = k.tabs) (g1:m'.z = m.z) (g2:m'.S = m.S) (g3:m'.Q = m.Q):Rel k' m' :=
 ⟨by rw [g1,h1]; exact R.z,fun a b ha hb=>by rw [g2,h2]; exact R.s a b ha hb,fun a p ha hp=>by rw [g3,q_same h1 h3]; exact R.q a p ha hp⟩
theorem rel_does (F:PK.Fine k) (R:Rel k m) {n:Nat} (hn:(n:Int) < k.s.fHa) {c:bv} (cw:Cw c) (w:Well k.s.fHa c):Rel (PK.does k n c).2 (gg m n c).2/\(c.e0 <= 8\/c.e0 = 10->(gg m n c).1 = (PK.does k n c).1):=by
 have hsz:=cQ.1 F.ok.sz;have hn4:n < 4:=by omega
 have hoff:PK.off k n = false:=PK.off_iff.2 ⟨by omega,hn⟩;have hw0:=PK.w0 w;have hhas:∀ {s:Nat},s < 8->fAa.has k.caps n s = true:=fun hs=>(PK.has_iff F.ok).2 ⟨hoff,by omega,by omega⟩;obtain ⟨a1,ha1⟩:=eq_ofNat_of_zero_le cw.c1;obtain ⟨a2,ha2⟩:=eq_ofNat_of_zero_le cw.c2;have t1:c.e1.toNat = a1:=by omega
 have t2:c.e2.toNat = a2:=by omega
 have l1:c.e0 ≠ 10->a1 < 8:=fun h=>by have:=w.w1 h; omega
 have wr0:∀ {x:Int},0 <= x->x < 16->i64.wrap x = x:=fun a b=>aE (by omega) (by omega);have c0:c.e0 = 1\/c.e0 = 2\/c.e0 = 3\/(c.e0 = 4\/c.e0 = 5)\/c.e0 = 6\/c.e0 = 7\/c.e0 = 8\/c.e0 = 9\/c.e0 = 10\/20 <= c.e0:=by have:=w.kind; omega
 rcases c0 with e | e | e | e | e | e | e | e | e | e
 ·have l:=l1 (by omega);have h:=rel_alloc F R hn4 l (hhas l);have e1:PK.does k n c = PK.errs (PK.alloc k n a1):=by unfold PK.does; rw [hw0,if_pos e,ha1,wr0 (by omega) (by omega)]
  have e2:gg m n c = xJ (xK m n a1):=by unfold gg; rw [if_pos e,t1]
  rw [e1,e2];exact ⟨h.2,fun _=>by unfold xJ PK.errs; rw [h.1]⟩
 ·have l:=l1 (by omega);have w2:=w.w2 (.inl e);have w4:=w.w4 (.inl e);have h:=rel_derive F R (r:=c.e3) hn4 l hn4 (by omega:a2 < 8) (hhas l) (hhas (by omega)) w4;have e1:PK.does k n c = PK.errs (PK.derive k n a1 n a2 c.e3):=by
   unfold PK.does;rw [hw0,if_neg (by omega),if_pos e,ha1,ha2,wr0 (by omega) (by omega),wr0 (x:=(a2:Int)) (by omega) (by omega),wr0 (x:=c.e3) (by omega) (by omega)]
  have e2:gg m n c = xJ (dq m n a1 n a2 c.e3):=by unfold gg; rw [if_neg (by omega),if_pos e,t1,t2]
  rw [e1,e2];exact ⟨h.2,fun _=>by unfold xJ PK.errs; rw [h.1]⟩
 ·have l:=l1 (by omega);have w3:=w.w3 e;obtain ⟨a3,ha3⟩:=eq_ofNat_of_zero_le cw.c3;have t3:c.e3.toNat = a3:=by omega
  have hoff2:PK.off k a2 = false:=PK.off_iff.2 ⟨by omega,by omega⟩;have h:=rel_derive F R (r:=c.e4) hn4 l (by omega:a2 < 4) (by omega:a3 < 8) (hhas l) ((PK.has_iff F.ok).2 ⟨hoff2,by omega,by omega⟩) w3.2.2;have e1:PK.does k n c = PK.errs (PK.derive k n a1 a2 a3 c.e4):=by
   unfold PK.does;rw [hw0,if_neg (by omega),if_neg (by omega),if_pos e,ha1,ha2,ha3,wr0 (by omega) (by omega),wr0 (x:=(a2:Int)) (by omega) (by omega),wr0 (x:=(a3:Int)) (by omega) (by omega),wr0 (x:=c.e4) (by omega) (by omega)]
  have e2:gg m n c = xJ (dq m n a1 a2 a3 c.e4):=by unfold gg; rw [if_neg (by omega),if_neg (by omega),if_pos e,t1,t2,t3]
  rw [e1,e2];exact ⟨h.2,fun _=>by unfold xJ PK.errs; rw [h.1]⟩
 ·have l:=l1 (by omega);have h:=rel_revoke F R (c:=c) hn4 ⟨cw.c1,by omega⟩ (by rw [ha1]; exact hhas l);have e1:=PK.does_revoke (k:=k) (e:=n) w cw e;have e2:gg m n c = (if (m.S n c.e1.toNat).fIs = false then (((⟨3,0⟩:bY),true),m) else ((⟨0,u64.wrap (kO m n c).length⟩,true),lZ m (kO m n c))):=by unfold gg; rw [if_neg (by omega),if_neg (by omega),if_neg (by omega),if_pos e]
  rw [e1,e2];exact ⟨h.2,fun _=>h.1⟩
 ·have l:=l1 (by omega);have w2:=w.w2 (.inr e);have w4:=w.w4 (.inr e);have h:=rel_maps F R (r:=c.e3) hn4 l (by omega:a2 < 8) hoff (hhas (by omega)) w4;have e1:PK.does k n c = PK.errs (PK.maps k n a1 a2 c.e3):=by
   unfold PK.does;rw [hw0,if_neg (by omega),if_neg (by omega),if_neg (by omega),if_neg (by omega),if_neg (by omega),if_pos e,ha1,ha2,wr0 (by omega) (by omega),wr0 (x:=(a2:Int)) (by omega) (by omega),wr0 (x:=c.e3) (by omega) (by omega)]
  have e2:gg m n c = xJ (if (m.S n a2).fIs = false then ((3:Int),m) else if (m.Q n a1).fCa ≠ 0 then (4,m) else if ap c.e3 (m.S n a2).fCa = false then (5,m) else (0,m.setQ n a1 ⟨(m.S n a2).fEa,a2,c.e3⟩)):=by
   unfold gg;rw [if_neg (by omega),if_neg (by omega),if_neg (by omega),if_neg (by omega),if_pos (by omega)];unfold kg;rw [if_pos e,t1,t2,wr0 (x:=c.e3) (by omega) (by omega),ha2,wr0 (x:=(a2:Int)) (by omega) (by omega)]
  rw [e1,e2];exact ⟨h.2,fun _=>by unfold xJ PK.errs; rw [h.1]⟩
 ·have l:=l1 (by omega);have h:=rel_remove F R hn4 l hoff;have e1:PK.does k n c = PK.errs (PK.remove k n a1):=by
   unfold PK.does;rw [hw0,if_neg (by omega),if_neg (by omega),if_neg (by omega),if_neg (by omega),if_neg (by omega),if_neg (by omega),if_pos e,ha1,wr0 (by omega) (by omega)]
  have e2:gg m n c = xJ (if (m.Q n a1).fCa = 0 then ((3:Int),m) else (0,m.setQ n a1 ⟨0,0,0⟩)):=by
   unfold gg;rw [if_neg (by omega),if_neg (by omega),if_neg (by omega),if_neg (by omega),if_pos (by omega)];unfold kg;rw [if_neg (by omega),if_pos e,t1]
  rw [e1,e2];exact ⟨h.2,fun _=>by unfold xJ PK.errs; rw [h.1]⟩
 ·have l:=l1 (by omega);have w5:=w.w5 e;have h:=rel_protect F R (r:=c.e2) hn4 l hoff;have e1:PK.does k n c = PK.errs (PK.protect k n a1 c.e2):=by
   unfold PK.does;rw [hw0,if_neg (by omega),if_neg (by omega),if_neg (by omega),if_neg (by omega),if_neg (by omega),if_neg (by omega),if_neg (by omega),if_pos e,ha1,wr0 (by omega) (by omega),wr0 (x:=c.e2) (by omega) (by omega)]
  have e2:gg m n c = xJ (if (m.Q n a1).fCa = 0 then ((3:Int),m) else if ap c.e2 (m.S n (m.Q n a1).fDa.toNat).fCa = false then (5,m) else (0,m.setQ n a1 { m.Q n a1 with fCa:=c.e2 })):=by
   unfold gg;rw [if_neg (by omega),if_neg (by omega),if_neg (by omega),if_neg (by omega),if_pos (by omega)];unfold kg;rw [if_neg (show ¬ c.e0 = 6 by omega),if_neg (show ¬ c.e0 = 7 by omega),t1,wr0 (x:=c.e2) (by omega) (by omega)]
  rw [e1,e2];exact ⟨h.2,fun _=>by unfold xJ PK.errs; rw [h.1]⟩
 ·have e1:PK.does k n c = (PK.sleep k n c,k):=by
   unfold PK.does;rw [hw0,if_neg (by omega),if_neg (by omega),if_neg (by omega),if_neg (by omega),if_neg (by omega),if_neg (by omega),if_neg (by omega),if_neg (by omega),if_pos e]
  have e2:gg m n c = (rsleep m n c,m):=by
   unfold gg;rw [if_neg (by omega),if_neg (by omega),if_neg (by omega),if_neg (by omega),if_neg (by omega),if_pos e]
  rw [e1,e2];exact ⟨R,fun h=>by omega⟩
 ·have e1:PK.does k n c = ((⟨0,0⟩,true),k):=by
   unfold PK.does;rw [hw0,if_neg (by omega),if_neg (by omega),if_neg (by omega),if_neg (by omega),if_neg (by omega),if_neg (by omega),if_neg (by omega),if_neg (by omega),if_neg (by omega),if_pos e]
  have e2:gg m n c = ((⟨0,0⟩,true),m):=by
   unfold gg;rw [if_neg (by omega),if_neg (by omega),if_neg (by omega),if_neg (by omega),if_neg (by omega),if_neg (by omega),if_pos e]
  rw [e1,e2];exact ⟨R,fun _=>rfl⟩
 ·have e1:PK.does k n c = (((PK.user k n c).1,true),(PK.user k n c).2):=by
   unfold PK.does;rw [hw0,if_neg (by omega),if_neg (by omega),if_neg (by omega),if_neg (by omega),if_neg (by omega),if_neg (by omega),if_neg (by omega),if_neg (by omega),if_neg (by omega),if_neg (by omega)]
  refine ⟨?_,fun h=>by omega⟩;have gu:(PK.user k n c).2.s = k.s/\(PK.user k n c).2.caps = k.caps/\(PK.user k n c).2.tabs = k.tabs:=by
   unfold PK.user;split
   ·exact ⟨rfl,rfl,rfl⟩
   ·exact touch_keep _ _ _
  have gr:(gg m n c).2.z = m.z/\(gg m n c).2.S = m.S/\(gg m n c).2.Q = m.Q:=by
   unfold gg;rw [if_neg (by omega),if_neg (by omega),if_neg (by omega),if_neg (by omega),if_neg (by omega),if_neg (by omega),if_neg (by omega)];split
   ·exact ⟨rfl,rfl,rfl⟩
   ·exact word_keep _ _ _ _
  rw [e1];exact R.same gu.1 gu.2.1 gu.2.2 gr.1 gr.2.1 gr.2.2
theorem rel_do (F:PK.Fine k) (R:Rel k m) (e:Int) {c:bv} (cw:Cw c):Rel (PK.do_ k e c).2 (rdo m e c).2/\(c.e0 <= 8\/c.e0 = 10->(rdo m e c).1 = (PK.do_ k e c).1):=by
 have hsz:=cQ.1 F.ok.sz;unfold rdo PK.do_;rw [R.z];by_cases ho:e < 0\/e >= k.s.fHa
 ·have:PK.off k e = true:=by unfold PK.off; simpa using ho
  rw [if_pos ho,if_pos this]; exact ⟨R,fun _=>rfl⟩
 have hoff:¬ PK.off k e = true:=by unfold PK.off; simpa using ho
 rw [if_neg ho,if_neg hoff];by_cases hc:Word.check c k.s.fHa ≠ 0
 ·rw [if_pos hc,if_pos hc]; exact ⟨R,fun _=>rfl⟩
 rw [if_neg hc,if_neg hc];have w:=qn (c:=c) hsz.2.2.1 hsz.2.2.2.1 (by omega);obtain ⟨n,hn⟩:=eq_ofNat_of_zero_le (show 0 <= e by omega);have hn:e = (n:Int):=hn;subst hn;rw [toNat_natCast];exact rel_does F R (by omega) cw w
theorem rel_new {s:dc} (h:PK.sized s = true):Rel (PK.new s) (RM.new s):=by
 refine ⟨rfl,fun a b ha hb=>?_,fun a p ha hp=>by rw [PK.q_new]; rfl⟩;show jp = _;rw [qr];rintro ⟨h1,h2⟩;obtain ⟨i,j,e1,e2,hi,hj⟩:=fAa.has_nat h1;apply h2;have e1:a = i:=by omega
 have e2:b = j:=by omega
 subst e1; subst e2;simp only [PK.new,List.length_replicate] at hi;simp only [fAa.get,PK.new,toNat_natCast,List.getD_eq_getElem?_getD,List.getElem?_replicate,if_pos hi,Option.getD_some,if_pos hj]
end
end
section
open Go Mb
def vw {τ:Type} (m:Nat) (enc:τ->List Value) (s:Sl) (xs:List τ) (lo hi:Nat):Sl:=⟨if s.cap = lo then s.a else s.a.map (fun q=>(q.1,q.2 + lo * m)),hi - lo,s.cap - lo,s.g.map fun x=>(x.1++(xs.take lo).flatMap enc,(xs.drop hi).flatMap enc++x.2.1,x.2.2.1,x.2.2.2)⟩
theorem vw_vec {τ:Type} {T m:Nat} {enc:τ->List Value} {s:Sl} {xs:List τ} {lo hi:Nat} (he:∀ x,(enc x).length = m) (h1:lo <= hi) (h2:hi <= xs.length) {h:Hp} (H:vec T m enc s xs h):vec T m enc (vw m enc s xs lo hi) ((xs.drop lo).take (hi - lo)) h:=by
 obtain ⟨e1,e2,e3⟩:=H;refine ⟨?_,by show hi - lo <= s.cap - lo; omega,?_⟩
 ·show hi - lo = _; rw [length_take,length_drop]; omega
 by_cases hc:s.cap = lo
 ·exact .inl (by show s.cap - lo = 0; omega)
 rcases e3 with h5 | ⟨b,pre,rest,U,fr,h4,h5,hg,h6⟩
 ·exact .inl (by show s.cap - lo = 0; omega)
 have hpl:(pre++(xs.take lo).flatMap enc).length = pre.length + lo * m:=by rw [length_append,bR he,length_take,Nat.min_eq_left (by omega)]
 have hdl:((xs.drop hi).flatMap enc).length = (xs.length - hi) * m:=by rw [bR he,length_drop]
 refine .inr ⟨b,pre++(xs.take lo).flatMap enc,(xs.drop hi).flatMap enc++rest,U,fr,?_,?_,?_,?_⟩
 ·show (if s.cap = lo then s.a else _) = _;rw [if_neg hc,h4,hpl]; rfl
 ·show (s.cap - lo) * m <= (hi - lo) * m + _;rw [length_append,hdl,sub_mul,sub_mul,sub_mul];have a1:lo * m <= hi * m:=Nat.mul_le_mul_right m h1;have a2:hi * m <= xs.length * m:=Nat.mul_le_mul_right m h2;rw [e1] at h5;omega
 ·unfold gh at hg ⊢;rw [show (vw m enc s xs lo hi).g = s.g.map fun x=>(x.1++(xs.take lo).flatMap enc,(xs.drop hi).flatMap enc++x.2.1,x.2.2.1,x.2.2.2) from rfl];cases hsg:s.g with
  | none=>rw [hsg] at hg; exact hg
  | some x =>
   rw [hsg] at hg;obtain ⟨hg1,hg2⟩:=hg;refine ⟨by rw [hg1],fun j j1 j2=>hg2 j (by rw [hpl] at j1; omega) ?_⟩;rw [hpl] at j2;have j2':j < pre.length + lo * m + (s.cap - lo) * m:=j2;have:lo * m + (s.cap - lo) * m = s.cap * m:=by rw [← Nat.add_mul]; congr 1; omega
   omega
 ·have hx:xs.take lo++((xs.drop lo).take (hi - lo)++xs.drop hi) = xs:=by
   have e:xs.drop hi = (xs.drop lo).drop (hi - lo):=by rw [List.drop_drop]; congr 1; omega
   rw [e,take_append_drop,take_append_drop]
  have:pre++(xs.take lo).flatMap enc++(((xs.drop lo).take (hi - lo)).flatMap enc++((xs.drop hi).flatMap enc++rest)) = pre++(xs.flatMap enc++rest):=by
   have e2:xs.flatMap enc = (xs.take lo).flatMap enc++(((xs.drop lo).take (hi - lo)).flatMap enc++(xs.drop hi).flatMap enc):=by rw [← List.flatMap_append,← List.flatMap_append,hx]
   rw [e2]; simp only [List.append_assoc]
  rw [this]; exact h6
theorem vw_sv {τ:Type} (m:Nat) (enc:τ->List Value) (s:Sl) (xs:List τ) (lo hi:Nat):sv (sub m s lo hi) = sv (vw m enc s xs lo hi):=rfl
theorem slice_w {τ:Type} {P:Program} {l:List As} {h:Hp} {S T m bys i:Nat} {z:List Value} {enc:τ->List Value} {R:Sl->Value} {s:Sl} {xs:List τ} {lo hi:Nat} {vlo vhi:Option Value} {K:Sl->Hp->Prop} (E:El P S T m bys z) (hR:R = sv) (st:ah l h) (hi':l[i]? = some (vec T m enc s xs))
  (hlo:vlo = some (.int .i64 lo)\/vlo = none/\lo = 0) (hhi:vhi = some (.int .i64 hi)\/vhi = none/\hi = xs.length) (h1:lo <= hi) (h2:hi <= xs.length) (k:K (vw m enc s xs lo hi) h):hpv P (Instr.sliceAt S (sv s) vlo vhi none) R K h:=by
 obtain ⟨_,⟨e1,e2,_⟩,_⟩:=cL hi' st;have H:=slice_raw (P:=P) (h:=h) (m:=m) (s:=s) (lo:=lo) (hi:=hi) (vlo:=vlo) (vhi:=vhi) (R:=R) (K:=fun r h'=>sv r = sv (vw m enc s xs lo hi)/\h' = h) E hR hlo (by rw [e1]; exact hhi) h1 (by omega) ⟨vw_sv m enc s xs lo hi,rfl⟩;subst hR;exact ⟨hp_mono _ (fun x h' ⟨r,e,e2,e3⟩=>⟨_,e.trans e2,by subst e3; exact k⟩) _ H.go⟩
theorem take_view {xs:List Int} {n:Nat}:(xs.drop 0).take (n - 0) = xs.take n:=by simp
theorem drop_view {xs:List Int} {n:Nat}:(xs.drop n).take (xs.length - n) = xs.drop n:=by
 rw [List.take_of_length_le]; rw [length_drop]; exact le_refl _
section
variable {s:Sl} {xs:List Int} {x:Int} {n:Nat} {E:List As} {h:Hp}
theorem ord_42 {K:Sl->Hp->Prop} {F:List As} {i:Nat} (st:ah F h) (hi:F[i]? = some (vI s xs)) (hn:n <= xs.length) (k:K (vw 1 (cI .i64) s xs 0 n) h):hpv prog (Instr.sliceAt aj (sv s) none (some (.int .i64 n)) none) av K h :=
 slice_w jB rfl st hi (.inr ⟨rfl,rfl⟩) (.inl rfl) (zero_le _) hn k
theorem ord_49 {K:Sl->Hp->Prop} {F:List As} {i:Nat} (st:ah F h) (hi:F[i]? = some (vI s xs)) (hn:n <= xs.length) (k:K (vw 1 (cI .i64) s xs n xs.length) h):hpv prog (Instr.sliceAt aj (sv s) (some (.int .i64 n)) none none) av K h :=
 slice_w jB rfl st hi (.inl rfl) (.inr ⟨rfl,rfl⟩) hn (le_refl _) k
theorem ord_45 {K:Sl->Hp->Prop} {F:List As} (st:ah F h) (k:∀ y h',ah (vI y [x]::F) h'->K y h'):hpv prog (Instr.buildSlice aj 1 #[(0,(.int .i64 x))]) av K h :=
 db (τ:=Int) [x] (val:=fun x=>.int .i64 x) (enc:=cI .i64) jB (bd _) (fun _=>rfl) st rfl rfl (by simp) k
theorem ord_43 {K:Sl->Hp->Prop} {F:List As} {i:Nat} (st:ah F h) (hi:F[i]? = some (vI s xs)) (hn:n <= xs.length) (hb:xs.length < 2 ^ 38) (k:∀ y h',ah (vI y (xs.take n)::F) h'->K y h'):hpv prog (Builtin.append_ #[aj,aj] aj #[(sv (⟨none,0,0,none⟩:Sl)),(sv (vw 1 (cI .i64) s xs 0 n))]) av K h:=by
 refine append_w (τ:=Int) (i:=0) (j:=i + 1) (enc:=cI .i64) (ys:=xs.take n) (B:=vI s xs) (fun h' H=>?_) jB jB.sl (bd _) (oneI _) (dp st) rfl (by simpa using hi) (by omega) (by simp; omega) (by simp; omega) fun v h2 s2=>k v h2 (by simpa using s2);have:=vw_vec (lo:=0) (hi:=n) (bd _) (zero_le _) hn H;rw [take_view] at this; exact this
theorem ord_46 {a b:Sl} {xa xb:List Int} {K:Sl->Hp->Prop} {F:List As} (st:ah (vI a xa::vI b xb::F) h) (hb:xa.length + xb.length < 2 ^ 39) (k:∀ y h',ah (vI y (xa++xb)::F) h'->K y h'):hpv prog (Builtin.append_ #[aj,aj] aj #[(sv a),(sv b)]) av K h :=
 ru (τ:=Int) (i:=0) (j:=1) (enc:=cI .i64) jB jB.sl (bd _) (oneI _) st rfl rfl (by omega) (by omega) (by omega) fun v h2 s2=>k v h2 (aA [0] (aT (l:=[vI b xb]) (aA [1] s2 rfl)) rfl)
theorem ord_50 {a:Sl} {xa:List Int} {K:Sl->Hp->Prop} {F:List As} {i:Nat} (st:ah (vI a xa::F) h) (hi:F[i]? = some (vI s xs)) (hn:n <= xs.length) (hb:xa.length + xs.length < 2 ^ 39) (k:∀ y h',ah (vI y (xa++xs.drop n)::F) h'->K y h'):hpv prog (Builtin.append_ #[aj,aj] aj #[(sv a),(sv (vw 1 (cI .i64) s xs n xs.length))]) av K h:=by
 refine append_w (τ:=Int) (i:=0) (j:=i + 1) (enc:=cI .i64) (ys:=xs.drop n) (B:=vI s xs) (fun h' H=>?_) jB jB.sl (bd _) (oneI _) st rfl (by simpa using hi) (by omega) (by simp; omega) (by simp; omega) fun v h2 s2=>k v h2 (by simpa using s2);have:=vw_vec (lo:=n) (hi:=xs.length) (bd _) hn (le_refl _) H;rw [drop_view] at this; exact this
theorem order_j1 {Rec:(Sl × Int)->Hp->Prop} (st:ah (vI s xs::E) h) (hn:n <= xs.length) (hb:xs.length < 2 ^ 38) (k:∀ y h',ah (vI y (xs.take n++[x]++xs.drop n)::E) h'->Rec (y,i64.wrap (x + 1)) h'):dG Rec (s,x) (n:Int) h:=by
 have ht:(xs.take n).length <= xs.length:=by rw [length_take]; omega
 have fin:∀ (y:Sl) (h':Hp),ah (vI y (xs.take n++[x]++xs.drop n)::vI s xs::E) h'->Rec (y,i64.wrap (x + 1)) h':=fun y h' s'=>k y h' (aA [0] (aT (l:=[vI s xs]) (aA [1] s' rfl)) rfl);have t50:∀ (a:Sl) (h':Hp),ah (vI a (xs.take n++[x])::vI s xs::E) h'->hpv prog (Builtin.append_ #[aj,aj] aj #[(sv a),(sv (vw 1 (cI .i64) s xs n xs.length))]) av (fun v50=>Rec (v50,i64.wrap (x + 1))) h':=fun a h' s'=>ord_50 (i:=0) s' rfl hn (by rw [length_append]; simp; omega) fin;have t49:∀ (a:Sl) (h':Hp),ah (vI a (xs.take n++[x])::vI s xs::E) h'->hpv prog (Instr.sliceAt aj (sv s) (some (.int .i64 n)) none none) av (fun v49=>hpv prog (Builtin.append_ #[aj,aj] aj #[(sv a),(sv v49)]) av (fun v50=>Rec (v50,i64.wrap (x + 1)))) h':=fun a h' s'=>ord_49 (i:=1) s' rfl hn (t50 a h' s');have t46:∀ (a b:Sl) (K:Sl->Hp->Prop) (h':Hp),ah (vI a (xs.take n)::vI b [x]::vI s xs::E) h'->(∀ y h'',ah (vI y (xs.take n++[x])::vI s xs::E) h''->K y h'')->hpv prog (Builtin.append_ #[aj,aj] aj #[(sv a),(sv b)]) av K h':=fun a b K h' s' kk=>ord_46 s' (by simp; omega) kk;have a46:∀ (a b:Sl) (h':Hp),ah (vI a (xs.take n)::vI b [x]::vI s xs::E) h'->dL (hpv prog (Builtin.append_ #[aj,aj] aj #[(sv a),(sv b)]) av fun (v46:Sl) =>
   hpv prog (Instr.sliceAt aj (sv s) (some (.int .i64 n)) none none) av fun (v49:Sl) =>
   hpv prog (Builtin.append_ #[aj,aj] aj #[(sv v46),(sv v49)]) av fun (v50:Sl)=>Rec (v50,(i64.wrap (x + 1)))) (
   hpv prog (Instr.sliceAt aj (sv s) (some (.int .i64 n)) none none) av fun (v49:Sl) =>
   hpv prog (Builtin.append_ #[aj,aj] aj #[(sv a),(sv b)]) av fun (v46:Sl) =>
   hpv prog (Builtin.append_ #[aj,aj] aj #[(sv v46),(sv v49)]) av fun (v50:Sl)=>Rec (v50,(i64.wrap (x + 1)))) h':=fun a b h' s' =>
  ⟨t46 a b _ h' s' fun y h'' s''=>t49 y h'' s'',ord_49 (i:=2) s' rfl hn (t46 a b _ h' s' fun y h'' s''=>t50 y h'' s'')⟩
 have b46:∀ (a b:Sl) (h':Hp),ah (vI a (xs.take n)::vI b [x]::vI s xs::E) h'->hpv prog (Builtin.append_ #[aj,aj] aj #[(sv a),(sv b)]) av (fun (v46:Sl) =>
   hpv prog (Builtin.append_ #[aj,aj] aj #[(sv v46),(sv (vw 1 (cI .i64) s xs n xs.length))]) av fun (v50:Sl)=>Rec (v50,(i64.wrap (x + 1)))) h':=fun a b h' s'=>t46 a b _ h' s' fun y h'' s''=>t50 y h'' s''
 have sw:∀ (a b:Sl) (h':Hp),ah (vI b [x]::vI a (xs.take n)::vI s xs::E) h'->ah (vI a (xs.take n)::vI b [x]::vI s xs::E) h':=fun a b h' s'=>aA [1] s' rfl;have a45:∀ (a:Sl) (h':Hp),ah (vI a (xs.take n)::vI s xs::E) h'->hpv prog (Instr.buildSlice aj 1 #[(0,(.int .i64 x))]) av (fun v45=>hpv prog (Builtin.append_ #[aj,aj] aj #[(sv a),(sv v45)]) av (fun (v46:Sl) =>
   hpv prog (Builtin.append_ #[aj,aj] aj #[(sv v46),(sv (vw 1 (cI .i64) s xs n xs.length))]) av fun (v50:Sl)=>Rec (v50,(i64.wrap (x + 1))))) h':=fun a h' s'=>ord_45 s' fun y h'' s''=>b46 a y h'' (sw a y h'' s'')
 have a43:∀ (b:Sl) (h':Hp),ah (vI b [x]::vI s xs::E) h'->hpv prog (Builtin.append_ #[aj,aj] aj #[(sv (⟨none,0,0,none⟩:Sl)),(sv (vw 1 (cI .i64) s xs 0 n))]) av (fun v43=>hpv prog (Builtin.append_ #[aj,aj] aj #[(sv v43),(sv b)]) av (fun (v46:Sl) =>
   hpv prog (Builtin.append_ #[aj,aj] aj #[(sv v46),(sv (vw 1 (cI .i64) s xs n xs.length))]) av fun (v50:Sl)=>Rec (v50,(i64.wrap (x + 1))))) h':=fun b h' s'=>ord_43 (i:=1) s' rfl hn hb fun y h'' s''=>b46 y b h'' s''
 have c45:∀ (h':Hp),ah (vI s xs::E) h'->hpv prog (Instr.buildSlice aj 1 #[(0,(.int .i64 x))]) av (fun v45=>hpv prog (Builtin.append_ #[aj,aj] aj #[(sv (⟨none,0,0,none⟩:Sl)),(sv (vw 1 (cI .i64) s xs 0 n))]) av (fun v43=>hpv prog (Builtin.append_ #[aj,aj] aj #[(sv v43),(sv v45)]) av (fun (v46:Sl) =>
   hpv prog (Builtin.append_ #[aj,aj] aj #[(sv v46),(sv (vw 1 (cI .i64) s xs n xs.length))]) av fun (v50:Sl)=>Rec (v50,(i64.wrap (x + 1)))))) h':=fun h' s'=>ord_45 s' fun y h'' s''=>a43 y h'' s''
 have c43:∀ (h':Hp),ah (vI s xs::E) h'->hpv prog (Builtin.append_ #[aj,aj] aj #[(sv (⟨none,0,0,none⟩:Sl)),(sv (vw 1 (cI .i64) s xs 0 n))]) av (fun v43=>hpv prog (Instr.buildSlice aj 1 #[(0,(.int .i64 x))]) av (fun v45=>hpv prog (Builtin.append_ #[aj,aj] aj #[(sv v43),(sv v45)]) av (fun (v46:Sl) =>
   hpv prog (Builtin.append_ #[aj,aj] aj #[(sv v46),(sv (vw 1 (cI .i64) s xs n xs.length))]) av fun (v50:Sl)=>Rec (v50,(i64.wrap (x + 1)))))) h':=fun h' s'=>ord_43 (i:=0) s' rfl hn hb fun y h'' s''=>a45 y h'' s''
 unfold dG;simp only;refine ⟨?_,?_,?_⟩
 ·refine ord_42 (i:=0) st rfl hn ⟨?_,?_,?_⟩
  ·refine ord_43 (i:=0) st rfl hn hb fun y1 h1 s1=>⟨?_,?_⟩
   ·exact ord_45 s1 fun y2 h2 s2=>a46 y1 y2 h2 (sw y1 y2 h2 s2)
   ·exact ord_49 (i:=1) s1 rfl hn (a45 y1 h1 s1)
  ·refine ord_45 st fun y1 h1 s1=>⟨?_,?_⟩
   ·exact ord_43 (i:=1) s1 rfl hn hb fun y2 h2 s2=>a46 y2 y1 h2 s2
   ·exact ord_49 (i:=1) s1 rfl hn (a43 y1 h1 s1)
  ·exact ord_49 (i:=0) st rfl hn ⟨c43 h st,c45 h st⟩
 ·refine ord_45 st fun y1 h1 s1=>⟨?_,?_⟩
  ·refine ord_42 (i:=1) s1 rfl hn ⟨?_,?_⟩
   ·exact ord_43 (i:=1) s1 rfl hn hb fun y2 h2 s2=>a46 y2 y1 h2 s2
   ·exact ord_49 (i:=1) s1 rfl hn (a43 y1 h1 s1)
  ·exact ord_49 (i:=1) s1 rfl hn (ord_42 (i:=1) s1 rfl hn (a43 y1 h1 s1))
 ·refine ord_49 (i:=0) st rfl hn ⟨?_,?_⟩
  ·exact ord_42 (i:=0) st rfl hn ⟨c43 h st,c45 h st⟩
  ·exact ord_45 st fun y1 h1 s1=>ord_42 (i:=1) s1 rfl hn (a43 y1 h1 s1)
end
theorem up_mid {key:Int->Int} {a1 a2:List Int} {y:Int} (h:Up key (a1++a2)) (h1:∀ x ∈ a1,key x <= key y) (h2:∀ x ∈ a2,key y < key x):Up key (a1++[y]++a2):=by
 rw [List.append_assoc];exact up_insert h h1 h2
theorem sp_ref2_Order (s:Sl) (es:List aL) (hb:es.length < 2 ^ 37) (ha:Hist.Apart es):Sp prog kY [sv s] av [vE s es] (fun r=>ah [vI r (Hist.order es),vE s es]):=by
 intro h s0;have hl:=(aX (j:=0) s0 rfl).1;refine xr _ ?_;unfold pj;refine Lp.intro (fun (z:Sl × Int) h=>∃ (n:Nat) (l:List Int),z.2 = n/\n <= es.length/\l.Perm (Hist.fEb (fun e=>decide (e.fIa > 0)) (es.take n) 0)/\Up (Hist.eff es) l/\ah [vI z.1 l,vE s es] h) (fun (z:Sl × Int) _=>es.length - z.2.toNat) ⟨0,[],rfl,zero_le _,.refl _,.nil,dp s0⟩ ?_;rintro ⟨y,i⟩ h1 ⟨n,l,rfl,hn,hp,hu,s1⟩;have hplen:l.length <= n:=by
  have h2:=hp.length_eq;have h3:=Hist.placesFrom_len (fun e=>decide (e.fIa > 0)) (es.take n) 0;rw [length_take] at h3;omega
 unfold pG;simp only;refine ar (fun k=>?_) (fun k=>?_)
 ·have hlt:n < es.length:=by rw [hl] at k; simpa using k
  have hw:i64.wrap ((n:Int) + 1) = ((n + 1:Nat):Int):=by rw [aE (by omega) (by omega)]; rfl
  have ht:es.take (n + 1) = es.take n++[es[n]]:=by simp
  have hlen:((es.take n).length:Int) = n:=by simp; omega
  refine bE s1 (j:=1) rfl (by omega) (by omega) fun q hq=>?_;refine bK (j:=1) (i:=n) (k:=8) es[n].fIa fZ s1 rfl hq rfl (al hlt) (c1 rfl rfl) ?_;refine ar (fun k2=>?_) (fun k2=>?_)
  ·have k2':¬ es[n].fIa > 0:=by have:=of_decide_eq_true k2; omega
   rw [hw];refine ⟨⟨n + 1,l,rfl,hlt,?_,hu,s1⟩,by simp; omega⟩;rw [ht,Hist.placesFrom_app,if_neg (by simpa using k2'),List.append_nil]; exact hp
  ·have k2':es[n].fIa > 0:=by have:=of_decide_eq_false k2; omega
   have hin:∀ x ∈ l,0 <= x/\x < es.length:=by
    intro x hx;obtain ⟨j,e,g1,g2,_⟩:=Hist.mem_placesFrom.1 (hp.subset hx);have:=(List.getElem?_eq_some_iff.1 g1).1;rw [length_take] at this;omega
   have ek:Hist.eff es n = es[n].fIa:=Hist.eff_nat (al hlt);have out:∀ (m:Nat) (h':Hp),m <= l.length->(∀ x ∈ l.take m,Hist.eff es x <= es[n].fIa)->(∀ x ∈ l.drop m,es[n].fIa < Hist.eff es x)->ah [vI y l,vE s es] h' ->
     dG (fun (s':Sl × Int) h'=>(∃ (n:Nat) (l:List Int),s'.2 = n/\n <= es.length/\l.Perm (Hist.fEb (fun e=>decide (e.fIa > 0)) (es.take n) 0)/\Up (Hist.eff es) l/\ah [vI s'.1 l,vE s es] h')/\es.length - s'.2.toNat < es.length - ((n:Nat):Int).toNat) (y,(n:Int)) (m:Int) h':=by
    intro m h' hm f1 f2 s';refine order_j1 s' hm (by omega) fun v h2 s2=>?_;rw [hw];refine ⟨⟨n + 1,l.take m++[(n:Int)]++l.drop m,rfl,hlt,?_,up_mid (by rw [take_append_drop]; exact hu) (by rw [ek]; exact f1) (by rw [ek]; exact f2),s2⟩,by simp only [toNat_natCast]; omega⟩;rw [ht,Hist.placesFrom_app,if_pos (by simpa using k2'),hlen,Int.zero_add];refine List.Perm.trans ?_ (hp.append_right _);have h4:=List.perm_middle (a:=(n:Int)) (l₁:=l.take m) (l₂:=l.drop m);rw [take_append_drop] at h4;rw [List.append_assoc];exact h4.trans (List.perm_append_comm (l₁:=[(n:Int)]) (l₂:=l))
   have hyl:=(aX (j:=0) s1 rfl).1;refine Lp.intro (fun (z:Int) h=>∃ m:Nat,z = m/\m <= l.length/\(∀ x ∈ l.take m,Hist.eff es x <= es[n].fIa)/\ah [vI y l,vE s es] h) (fun (z:Int) _=>l.length - z.toNat) ⟨0,rfl,zero_le _,fun x hx=>by simp at hx,s1⟩ ?_;rintro z h2 ⟨m,rfl,hm,f1,s2⟩;unfold pF;simp only;refine ar (fun k3=>?_) (fun k3=>?_)
   ·have hml:m < l.length:=by rw [hyl] at k3; simpa using k3
    have hwm:i64.wrap ((m:Int) + 1) = ((m + 1:Nat):Int):=by rw [aE (by omega) (by omega)]; rfl
    have hx:=hin l[m] (getElem_mem hml);obtain ⟨a,hae⟩:=eq_ofNat_of_zero_le hx.1;have hal:a < es.length:=by omega
    refine bE s2 (j:=0) rfl (by omega) (by omega) fun q2 hq2=>?_;refine bK (j:=0) (i:=m) (k:=0) l[m] (bd _) s2 rfl hq2 rfl (al hml) (by simp) ?_;rw [hae];refine bE s2 (j:=1) rfl (by omega) (by omega) fun q3 hq3=>?_;refine bK (j:=1) (i:=a) (k:=8) es[a].fIa fZ s2 rfl hq3 rfl (al hal) (c1 rfl rfl) ?_;refine bK (j:=1) (i:=n) (k:=8) es[n].fIa fZ s2 rfl hq rfl (al hlt) (c1 rfl rfl) ?_;have ea:Hist.eff es l[m] = es[a].fIa:=by rw [hae]; exact Hist.eff_nat (al hal)
    refine ar (fun k4=>?_) (fun k4=>?_)
    ·have k4':es[a].fIa <= es[n].fIa:=of_decide_eq_true k4;rw [hwm];refine ⟨⟨m + 1,rfl,hml,fun x hx=>?_,s2⟩,by simp; omega⟩;rw [List.take_succ_eq_append_getElem hml] at hx;rcases mem_append.1 hx with hx | hx
     ·exact f1 x hx
     ·rw [mem_singleton.1 hx,ea]; exact k4'
    ·have k4':es[n].fIa < es[a].fIa:=by have:=of_decide_eq_false k4; omega
     refine out m h2 hm f1 (fun x hx=>?_) s2;rw [List.drop_eq_getElem_cons hml] at hx;rcases mem_cons.1 hx with rfl | hx
     ·rw [ea]; exact k4'
     ·obtain ⟨j,hj,rfl⟩:=List.getElem_of_mem hx;rw [List.getElem_drop];rw [length_drop] at hj;have:=List.pairwise_iff_getElem.1 hu m (m + 1 + j) hml (by omega) (by omega);omega
   ·have:m = l.length:=by rw [hyl] at k3; simp at k3; omega
    subst this;exact out l.length h2 (le_refl _) f1 (fun x hx=>by simp at hx) s2
 ·have:n = es.length:=by rw [hl] at k; simp at k; omega
  subst this;rw [List.take_length] at hp;rw [Hist.order_of ha hp hu] at s1;exact s1
end
section
open Go Mb
def rstep (es:List aL) (m:RM) (i:Int):RM:=if bQ (fKa.ev es i) = true then m else (rdo m (fKa.ev es i).fBa (fKa.ev es i).fJa).2
def rrun (es:List aL):RM->List Int->RM
 | m,[]=>m
 | m,i::l=>rrun es (rstep es m i) l
theorem rrun_app {es:List aL} {i:Int}:∀ {l:List Int} {m:RM},rrun es m (l++[i]) = rstep es (rrun es m l) i
 | [],_=>rfl
 | _::l,_=>rrun_app (l:=l)
theorem rel_step {es:List aL} {s:dc} {k:PK} {m:RM} (F:PK.Fine k) (R:Rel k m) {i:Int} (cw:Cw (fKa.ev es i).fJa):PK.Fine (fKa.jstep es s k i)/\Rel (fKa.jstep es s k i) (rstep es m i):=by
 unfold fKa.jstep rstep;by_cases hu:bQ (fKa.ev es i) = true
 ·rw [if_pos hu,if_pos hu];split
  ·obtain ⟨t1,t2,t3⟩:=touch_keep k (fKa.ev es i).fAb.fEa (fKa.ev es i).fJa;exact ⟨(PK.mv_touch F _ _).1.fine,R.same t1 t2 t3 rfl rfl rfl⟩
  ·exact ⟨F,R⟩
 ·rw [if_neg hu,if_neg hu];exact ⟨(PK.do_mv F cw).1.fine,(rel_do F R _ cw).1⟩
theorem rel_run {es:List aL} {s:dc} (cw:∀ i:Int,Cw (fKa.ev es i).fJa):∀ (l:List Int) {k:PK} {m:RM},PK.Fine k->Rel k m->PK.Fine (fKa.jrun es s k l)/\Rel (fKa.jrun es s k l) (rrun es m l)
 | [],_,_,F,R=>⟨F,R⟩
 | i::l,k,m,F,R=>by
  obtain ⟨F',R'⟩:=rel_step (s:=s) F R (cw i);exact rel_run cw l F' R'
theorem cw_ev {es:List aL} (h:∀ e ∈ es,Cw e.fJa) (i:Int):Cw (fKa.ev es i).fJa:=by
 unfold fKa.ev;rw [List.getD_eq_getElem?_getD];cases hi:es[i.toNat]? with
 | none=>exact ⟨by decide,by decide,by decide,by decide,by decide⟩
 | some e=>exact h e (List.mem_of_getElem? hi)
theorem fcall_at (e:aL):∀ (n:Nat) v,(aa.C e.fJa)[n]? = some v->(ax.C e)[2 + n]? = some v:=by
 intro n v hv;rcases n with _ | _ | _ | _ | _ | n <;> first | exact hv | simp [aa.C] at hv
theorem user_iff (e:aL):((!(aB e.fJa).2) || (!(dQ ((aB e.fJa).1)))) = !(bQ e):=by
 rw [ref_kind,ref_user];unfold bQ;by_cases h:1 <= e.fJa.e0/\e.fJa.e0 <= 10\/20 <= e.fJa.e0/\e.fJa.e0 <= 23
 ·rw [oN h]; rfl
 ·rw [kind_no h]; rfl
theorem sp_replay (s:Sl) (es:List aL) (z:dc) (hz:PK.sized z = true) (hb:es.length < 2 ^ 37) (ha:Hist.Apart es) (hc:∀ e ∈ es,Cw e.fJa):Sp prog jy [sv s,.agg z.C.toArray] df [vE s es] (fun r=>ah [cj r (rrun es (RM.new z) (Hist.order es)),vE s es]):=by
 intro h s0;refine vi _ _ ?_;unfold nA;refine bG [] (sp_ref_New z) s0 rfl fun x h1 s1=>?_;have s1:ah [cj x (RM.new z),vE s es] h1:=bT s1;refine sM (i:=1) (sp_ref2_Order s es hb ha) rfl s1 fun y h2 s2=>?_;have s2:ah [vI y (Hist.order es),cj x (RM.new z),vE s es] h2:=s2;have hyl:=(aX (j:=0) s2 rfl).1;have hsl:=(aX (j:=2) s2 rfl).1;have hol:=order_len es;have rw_:∀ l,RW (rrun es (RM.new z) l):=fun l=>by
  obtain ⟨F,R⟩:=rel_run (s:=z) (cw_ev hc) l (PK.fine_new hz) (rel_new hz);exact rel_rw F R
 refine Lp.intro (fun (i:Int) h=>∃ n:Nat,i = n/\n <= (Hist.order es).length/\ah [vI y (Hist.order es),cj x (rrun es (RM.new z) ((Hist.order es).take n)),vE s es] h) (fun (i:Int) _=>(Hist.order es).length - i.toNat) ⟨0,rfl,zero_le _,s2⟩ ?_;rintro i h3 ⟨n,rfl,hn,s3⟩;unfold nG;refine ar (fun d=>?_) (fun d=>?_)
 ·have hlt:n < (Hist.order es).length:=by rw [hyl] at d; simpa using d
  have hw:i64.wrap ((n:Int) + 1) = ((n + 1:Nat):Int):=by rw [aE (by omega) (by omega)]; rfl
  have htk:=rrun_app (es:=es) (i:=(Hist.order es)[n]) (l:=(Hist.order es).take n) (m:=RM.new z);rw [← List.take_succ_eq_append_getElem hlt] at htk;have hin:=order_in (getElem_mem hlt);obtain ⟨j,hj⟩:=eq_ofNat_of_zero_le hin.1;have hjl:j < es.length:=by omega
  have hev:fKa.ev es (Hist.order es)[n] = es[j]:=by rw [hj]; exact fKa.ev_nat hjl
  unfold rstep at htk;rw [hev] at htk;rw [hw];refine bE s3 (j:=0) rfl (by omega) (by omega) fun q hq=>?_;refine bK (j:=0) (i:=n) (k:=0) (Hist.order es)[n] (bd _) s3 rfl hq rfl (al hlt) (by simp) ?_;rw [hj];refine bE s3 (j:=2) rfl (by omega) (by omega) fun q2 hq2=>?_;refine bK (j:=2) (i:=j) (k:=2) es[j].fJa fZ s3 rfl hq2 rfl (al hjl) (fcall_at _) ?_;rw [user_iff];refine ar (fun k=>?_) (fun k=>?_)
  ·have hu:¬ bQ es[j] = true:=by simpa using k
   rw [if_neg hu] at htk;refine bK (j:=2) (i:=j) (k:=1) es[j].fBa fZ s3 rfl hq2 rfl (al hjl) (c1 rfl rfl) ?_;refine bK (j:=2) (i:=j) (k:=2) es[j].fJa fZ s3 rfl hq2 rfl (al hjl) (fcall_at _) ?_;refine aW (i:=1) (sp_ref_Do x _ (rw_ _) es[j].fBa es[j].fJa (hc _ (getElem_mem hjl))) rfl s3 fun r h4 _ s4=>?_;refine ⟨⟨n + 1,rfl,hlt,?_⟩,by simp; omega⟩;rw [htk]; exact s4
  ·have hu:bQ es[j] = true:=by simpa using k
   rw [if_pos hu] at htk;refine ⟨⟨n + 1,rfl,hlt,?_⟩,by simp; omega⟩;rw [htk]; exact s3
 ·have:n = (Hist.order es).length:=by rw [hyl] at d; simp at d; omega
  subst this;rw [List.take_length] at s3;exact aT (l:=[_]) s3
end
section
open Go Mb
variable {ET:Nat} {EF:Nat × Nat}
structure Behind (z:dc) (n:Nat) (k:KK):Prop where
 ie:IE k
 s:k.p.s = z
 now:k.now <= n
theorem Behind.pick {z:dc} {n:Nat} {k:KK} (B:Behind z n k) (hn:n < 1000) {p:oX} (cw:Cw p.fJa):Behind z (n + 1) (KK.pick k p).2:=by
 have hk:k.now < 2 ^ 38:=by have:=B.now; omega
 have P:=pick_picked B.ie hk p;exact ⟨B.ie.pick (by omega) cw,P.s.trans B.s,by have:=P.now; have:=B.now; omega⟩
def Awake (k:KK):Prop:=∀ (d:Nat) x,k.calls[d]? = some (some x)->x.fc.e0 ≠ 9
theorem Awake.pick {k:KK} (W:Awake k) (A:IE k) (hn:k.now < 2 ^ 38) {p:oX} (h:p.fFb ≠ 1\/p.fJa.e0 ≠ 9):Awake (KK.pick k p).2:=by
 intro d y hy;rcases (pick_picked A hn p).calls d y hy with ⟨x,hx,e⟩ | ⟨e,hk⟩
 ·have h9:=W d x hx;rw [e h9]; exact h9
 ·rw [e];rcases h with h | h
  ·exact absurd hk h
  ·exact h
end
section
open Go Mb
theorem sp_kern_Lines (x:Ptr) (k:KK) (c:Int):Sp prog oD [pv x,.int .i64 c] im [bu x k] (fun r=>ah [vL r (KK.lines k c),bu x k]):=by
 intro h s0;refine sim_kern_Kern_Lines _ _ ?_;unfold tn;refine aW (pT x k c) (i:=0) rfl s0 fun r h1 hr s1=>?_;subst hr;refine ar (fun d=>?_) (fun d=>?_)
 ·have e1:KK.lines k c = []:=by unfold KK.lines; rw [if_neg (by simpa using d)]
  rw [e1]; exact dp s1
 ·have d':KK.is k c = true:=by simpa using d
  have e1:KK.lines k c = Tlb.lines (KK.buf k c):=by unfold KK.lines; rw [if_pos d']
  rw [e1];obtain ⟨z,rfl,zo,ok,st⟩:=qw s1;obtain ⟨n,rfl,hnc⟩:=is_nat d';obtain ⟨l1,l2,l3,l4,l5⟩:=kk_len ok;have hct:n < k.fMa.length:=by omega
  have hcp:n < z.tp.length:=by rw [zo.t]; exact hct
  have hts:=(aX (j:=2) st rfl).1;rw [buf_nat hct];refine bn (aJ z.ts st (i:=0) rfl rfl rfl ?_);refine bE st (j:=2) rfl (by omega) (by omega) fun q hq=>?_;refine bK (j:=2) (i:=n) (k:=0) z.tp[n] fu st rfl hq (by simp) (al hcp) (by simp) ?_;have s2:=gJ (al hcp) (al hct) (aA [3] st rfl);refine sM (sp_tlb_Lines z.tp[n] k.fMa[n]) (i:=0) rfl s2 fun r h3 s3=>?_;refine vV s3 fun h4 s4=>?_;exact lV zo ok (aA [1,1,1] (rv (al hcp) (al hct) zo.t s4) rfl)
end
section
open Go Mb
end
section
open Go Mb
end
section
open Go Mb
variable {ET:Nat} {EF:Nat × Nat}
theorem AE.rel {k:KK} (A:AE k):PK.Fine k.p/\Rel k.p (rrun k.events (RM.new k.p.s) (Hist.order k.events)):=by
 obtain ⟨log,L⟩:=A.lg;have hc:∀ e ∈ k.events,Cw e.fJa:=fun e he=>by
  obtain ⟨i,hi⟩:=List.getElem?_of_mem he;exact A.ec i e hi
 have hsz:=A.inv.F.ok.sz;have h:=rel_run (s:=k.p.s) (cw_ev hc) log (PK.fine_new hsz) (rel_new hsz);rw [L.run,L.order A.ev] at h;exact h
end
section
open Go Mb
variable {ET:Nat} {EF:Nat × Nat}
end
section
open Go Mb
variable {ET:Nat} {EF:Nat × Nat}
theorem bq_page {k:PK} {e pg:Int} (h:(PK.q k e pg).fCa ≠ 0):(0 <= e/\e < k.s.fHa)/\0 <= pg/\pg < 8:=by
 unfold PK.q PK.pte at h;by_cases ho:PK.off k e = true
 ·rw [if_pos ho] at h; exact absurd rfl h
 ·rw [if_neg ho] at h;refine ⟨PK.off_iff.1 (by simpa using ho),?_⟩;unfold Table.get at h;split at h
  ·rename_i hx;obtain ⟨n,rfl,hn⟩:=kJ hx.1;omega
  ·exact absurd rfl h
theorem line_cov {k:KK} (A:dJ k) {c:Nat} (hc:c < k.calls.length) {l:io} (hl:l ∈ KK.lines k c) (h0:0 <= l.fBa):Cov (PK.q k.p l.fBa l.fPa) l:=by
 unfold KK.lines at hl;rw [if_pos (by unfold KK.is; exact decide_eq_true (by omega)),tO] at hl;exact (A.line c hc l hl h0).cov
theorem lnc_len (c:io):(an.C c).length = 4:=rfl
theorem buf_l3 {z:dc} {x r:Ptr} {m:RM} {k:KK} {h:Hp} {F:List As} {K:Bool->Hp->Prop} {Rec7:Int->Hp->Prop} {s6:Int} {u:Bool × Int} (I:dJ k) (R:Rel k.p m) (hz:bb z = k.p.s) (hc:(k.calls.length:Int) = k.p.s.fRa) (st:ah (cj r m::bu x k::F) h) (kk:∀ h',ah (bu x k::F) h'->Rec7 (i64.wrap (s6 + 1)) h') :
  Lp (fF z K x Rec7 s6 u r) 0 h:=by
 have hsz:=cQ.1 I.F.ok.sz;refine Lp.intro (fun (i:Int) h=>∃ n:Nat,i = n/\n <= k.calls.length/\ah (cj r m::bu x k::F) h) (fun (i:Int) _=>k.calls.length - i.toNat) ⟨0,rfl,zero_le _,st⟩ ?_;rintro i h1 ⟨c,rfl,hcl,s1⟩;unfold fF;rw [hz];refine ar (fun d=>?_) (fun d=>kk h1 (aT (l:=[_]) s1));have hlt:c < k.calls.length:=by
  rw [Bool.and_eq_true] at d;have:=of_decide_eq_true d.1;omega
 have hw:i64.wrap ((c:Int) + 1) = ((c + 1:Nat):Int):=by rw [aE (by omega) (by omega)]; rfl
 refine sM (i:=1) (sp_kern_Lines x k c) rfl s1 fun y h2 s2=>?_;have s2:ah (vL y (KK.lines k c)::cj r m::bu x k::F) h2:=s2;have hyl:=(aX (j:=0) s2 rfl).1;have hll:=lines_len I hlt;refine Lp.intro (fun (i:Int) h=>∃ n:Nat,i = n/\n <= (KK.lines k c).length/\ah (vL y (KK.lines k c)::cj r m::bu x k::F) h) (fun (i:Int) _=>(KK.lines k c).length - i.toNat) ⟨0,rfl,zero_le _,s2⟩ ?_;rintro i h3 ⟨t,rfl,ht,s3⟩;unfold jU;rw [hz];refine ar (fun d2=>?_) (fun d2=>?_)
 ·have hlt2:t < (KK.lines k c).length:=by rw [hyl] at d2; simpa using d2
  have hw2:i64.wrap ((t:Int) + 1) = ((t + 1:Nat):Int):=by rw [aE (by omega) (by omega)]; rfl
  refine bE s3 (j:=0) rfl (by omega) (by omega) fun q hq=>?_;refine bK (j:=0) (i:=t) (k:=0) (KK.lines k c)[t] lnc_len s3 rfl hq rfl (al hlt2) (by simp) ?_;rw [hw2];have nxt:(fun (i:Int) h=>(∃ n:Nat,i = n/\n <= (KK.lines k c).length/\ah (vL y (KK.lines k c)::cj r m::bu x k::F) h)/\(KK.lines k c).length - i.toNat < (KK.lines k c).length - (t:Int).toNat) ((t + 1:Nat):Int) h3:=⟨⟨t + 1,rfl,hlt2,s3⟩,by simp; omega⟩
  refine ar (fun d3=>nxt) (fun d3=>?_);have h0:0 <= (KK.lines k c)[t].fBa:=by have:=of_decide_eq_false d3; omega
  have C:=line_cov I hlt (getElem_mem hlt2) h0;have hr:=C.r;obtain ⟨g1,g2⟩:=bq_page (k:=k.p) (e:=(KK.lines k c)[t].fBa) (pg:=(KK.lines k c)[t].fPa) (by omega);generalize (KK.lines k c)[t] = l at h0 C hr g1 g2;refine bB (by simp; omega) ?_;obtain ⟨b,cs,rfl,H,s4⟩:=ow (aA [1] s3 rfl);obtain ⟨e,he⟩:=eq_ofNat_of_zero_le g1.1;obtain ⟨p,hp⟩:=eq_ofNat_of_zero_le g2.1;have he4:e < 4:=by omega
  have hp8:p < 8:=by omega
  refine bn ⟨⟨by omega,by omega⟩,⟨by omega,by omega⟩,?_⟩;refine rd_pte (j:=0) (e:=e) (p:=p) H s4 rfl he4 hp8 (by rw [he,hp]; simp) ?_;have hqq:m.Q e p = PK.q k.p l.fBa l.fPa:=by rw [R.q e p he4 hp8,he,hp]
  refine bB ?_ nxt;rw [hqq,tB,C.f,C.w]; simp
 ·rw [hw];exact ⟨⟨c + 1,rfl,hlt,aT (l:=[_]) s3⟩,by simp; omega⟩
theorem sp_KernBuffers (z:dc) (s:Sl) (ps:List oX) (hf:∀ p ∈ ps,Cw p.fJa):Sp prog kz [.agg z.C.toArray,sv s] ai [etB ET EF,vK s ps] (fun r=>pa_ (r = true) [etB ET EF,vK s ps]):=by
 intro h st;refine qQ _ _ ?_;unfold jM;refine aW (i:=0) sp_begun16 rfl st fun r h1 hr s1=>?_;subst hr;refine bB rfl ?_;refine aW (i:=1) (sp_Cut s ps 250 (by decide) (by decide)) rfl s1 fun y h2 hback s2=>?_;have e250:(250:Int).toNat = 250:=rfl;rw [e250] at hback;rw [e250] at s2;have hlen:(ps.take 250).length <= 250:=by rw [length_take]; exact Nat.min_le_left _ _
 have hfq:∀ p ∈ ps.take 250,Cw p.fJa:=fun p hp=>hf p (List.mem_of_mem_take hp);generalize ps.take 250 = qs at hback s2 hlen hfq;have s2:ah [etB ET EF,vK y qs] h2:=s2;have hl:=(aX (j:=1) s2 rfl).1;obtain ⟨hs,d1,d4,_,_⟩:=size_in z;generalize hwz:bb z = w at hs d1 d4 ⊢;refine lW (sp_kern_New w hs) s2 fun x h3 s3=>?_;refine Lp.intro (fun (i:Int) h=>∃ (n:Nat) (k:KK),i = n/\n <= qs.length/\BehE w n k/\ah [bu x k,etB ET EF,vK y qs] h) (fun (i:Int) _=>qs.length - i.toNat) ⟨0,_,rfl,zero_le _,behe_new hs,s3⟩ ?_;rintro i h4 ⟨n,k,rfl,hn,B,s4⟩;have hk:k.now < 2 ^ 30:=by have:=B.now; omega
 unfold jW;refine ar (fun c=>?_) (fun c=>aw rfl (star_imp (i:=1) rfl hback (aT (l:=[_]) s4)));have hlt:n < qs.length:=by rw [hl] at c; simpa using c
 have hw:i64.wrap ((n:Int) + 1) = ((n + 1:Nat):Int):=by rw [aE (by omega) (by omega)]; rfl
 refine bE s4 (j:=2) rfl (by omega) (by omega) fun q hq=>?_;refine bK (j:=2) (i:=n) (k:=0) qs[n] pick_len s4 rfl hq rfl (al hlt) (by simp) ?_;refine aW (i:=0) (sp_Do x k qs[n] (by omega)) rfl s4 fun r h5 hr s5=>?_;have s5:ah [bu x (KK.pick k qs[n]).2,etB ET EF,vK y qs] h5:=s5;have B':=B.pick (by omega) (hfq _ (getElem_mem hlt));generalize (KK.pick k qs[n]).2 = k' at s5 B';have hbn:=B'.now;have hev:=B'.inv.ok.evn;have hcl:=B'.inv.ok.cl;refine sM (i:=0) (tc x k' (by omega)) rfl s5 fun v h6 s6=>?_;have s6:ah [vE v k'.events,bu x k',etB ET EF,vK y qs] h6:=s6;have hvl:=(aX (j:=0) s6 rfl).1;have hc:∀ e ∈ k'.events,Cw e.fJa:=fun e he=>by
  obtain ⟨i,hi⟩:=List.getElem?_of_mem he;exact B'.ec i e hi
 obtain ⟨F,R⟩:=B'.toAE.rel;rw [B'.s] at R;refine Lp.intro (fun (z:Bool × Int) h=>∃ t:Nat,z.2 = t/\t <= k'.events.length/\ah [vE v k'.events,bu x k',etB ET EF,vK y qs] h) (fun (z:Bool × Int) _=>k'.events.length - z.2.toNat) ⟨0,rfl,zero_le _,s6⟩ ?_;rintro ⟨ub,i⟩ h7 ⟨t,rfl,ht,s7⟩;unfold jV;simp only;refine ar (fun d=>?_) (fun d=>?_)
 ·have hlt2:t < k'.events.length:=by rw [hvl] at d; simpa using d
  have hw2:i64.wrap ((t:Int) + 1) = ((t + 1:Nat):Int):=by rw [aE (by omega) (by omega)]; rfl
  refine bE s7 (j:=0) rfl (by omega) (by omega) fun q1 hq1=>?_;refine bK (j:=0) (i:=t) (k:=0) k'.events[t] fZ s7 rfl hq1 rfl (al hlt2) (by simp) ?_;rw [hw2];exact ⟨⟨t + 1,rfl,hlt2,s7⟩,by simp only [toNat_natCast]; omega⟩
 ·rw [hwz];refine bG [0] (sp_replay v k'.events w hs (by omega) B'.ev.apart hc) s7 rfl fun r h8 s8=>?_;have s8:ah [cj r (rrun k'.events (RM.new w) (Hist.order k'.events)),vE v k'.events,bu x k',etB ET EF,vK y qs] h8:=bT s8;refine buf_l3 B'.inv R (by rw [hwz,B'.s]) hcl (aT (l:=[_]) (aA [1] s8 rfl)) fun h9 s9=>?_;rw [hw];exact ⟨⟨n + 1,k',rfl,hlt,B',s9⟩,by simp; omega⟩
end
end Go.Proofs.YtjcamacgclipiaaGreatDoor
