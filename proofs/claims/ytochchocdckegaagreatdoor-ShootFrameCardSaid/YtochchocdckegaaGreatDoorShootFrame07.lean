/- Part of the proof of: The law ShootFrame returns true for every input, and leaves its arguments as they were. -/
import Derived.Test.YtochchocdckegaaGreatDoorShootFrame06
set_option linter.all false
set_option maxRecDepth 20000
namespace Go.Proofs.YtochchocdckegaaGreatDoor
open Go.Proofs.Tryz
open Go.IntKind (i64 u64)
open _root_.Int (le_refl)
open _root_.List (getD_eq_getElem?_getD getElem_mem length_set mem_cons nil_append range replicate)
open _root_.Nat (add_zero)
section
open Go Mb
abbrev TL:=cA
theorem jV (p:TL):p.C.length = 5:=rfl
def fZ (x:Ptr) (t:List TL × Int):As:=fun h=>∃ b:Nat,(x = some (b,0)/\t.1.length = 8)/\aB [blk b qL ([]++(t.1.flatMap cA.C++[.int .i64 t.2]))] h
theorem pd {x:Ptr} {t:List TL × Int} {l:List As} {h:Hp} (s0:aB (fZ x t::l) h):∃ b,x = some (b,0)/\t.1.length = 8/\aB (blk b qL ([]++(t.1.flatMap cA.C++[.int .i64 t.2]))::l) h:=by
 obtain ⟨b,⟨hx,hb⟩,st⟩:=op_ s0;exact ⟨b,hx,hb,st⟩
theorem vX {b:Nat} {t:List TL × Int} {l:List As} {h:Hp} (hb:t.1.length = 8) (st:aB (blk b qL ([]++(t.1.flatMap cA.C++[.int .i64 t.2]))::l) h):aB (fZ (some (b,0)) t::l) h:=cl_ b ⟨rfl,hb⟩ st
namespace Tlb
abbrev line0:TL:=⟨⟨0,0,0,0⟩,0⟩
def ln (ls:List TL) (n:Nat):TL:=ls.getD n line0
def hit (ls:List TL) (e p:Int) (n:Nat):Prop:=(ln ls n).fl.fCa = e/\(ln ls n).fl.fOa = p
instance (ls:List TL) (e p:Int) (n:Nat):Decidable (hit ls e p n):=by unfold hit; infer_instance
def at_ (ls:List TL) (e p:Int):Option Nat :=
 if e < 0\/p < 0\/p >= 8 then none
 else if hit ls e p ((p.tmod 4).toNat * 2) then some ((p.tmod 4).toNat * 2) else if hit ls e p ((p.tmod 4).toNat * 2 + 1) then some ((p.tmod 4).toNat * 2 + 1) else none
def find (ls:List TL) (e p:Int):ap × Bool:=match at_ ls e p with | some n=>((ln ls n).fl,true) | none=>(⟨0,0,0,0⟩,false)
def flush (t:List TL × Int) (e p:Int):Bool × List TL × Int:=match at_ t.1 e p with | some n=>(true,t.1.set n { ln t.1 n with fl:=gA },t.2) | none=>(false,t)
theorem at_lt {ls:List TL} {e p:Int} {n:Nat} (h:at_ ls e p = some n):n < 8:=by
 unfold at_ at h;split at h
 ·cases h
 ·rename_i h0;have:(p.tmod 4).toNat < 4:=by
   obtain ⟨q,rfl⟩:=Int.eq_ofNat_of_zero_le (show 0 <= p by omega);rw [show ((4:Int)) = ((4:Nat):Int) from rfl,← Int.ofNat_tmod];simp; omega
  split at h
  ·cases h; omega
  ·split at h
   ·cases h; omega
   ·cases h
end Tlb
def ym (b:Nat) (o:Option Nat):Ptr:=o.map fun n=>(b,n * 5)
theorem ln_get {ls:List TL} {n:Nat} (h:n < ls.length):Tlb.ln ls n = ls[n]:=by simp [Tlb.ln,h]
theorem sp_tlb_at (b:Nat) (t:List TL × Int) (e p:Int) (hb:t.1.length = 8):Sp prog pN [pv (some (b,0)),.int .i64 e,.int .i64 p] kE [fZ (some (b,0)) t] (fun r=>pa_ (r = ym b (Tlb.at_ t.1 e p)) [fZ (some (b,0)) t]):=by
 intro h s0;obtain ⟨b',hb',_,st⟩:=pd s0;cases hb';refine sim_tlb_Tlb_at _ _ _ ?_;unfold sh_tlb_Tlb_at;refine aY (fun k=>?_) (fun k=>?_)
 ·have k':e < 0\/p < 0\/p >= 8:=by simpa [or_assoc] using k
  have e1:Tlb.at_ t.1 e p = none:=if_pos k';rw [e1];exact ba rfl (vX hb st)
 ·have k':¬ (e < 0\/p < 0\/p >= 8):=by simp at k; omega
  obtain ⟨q,rfl⟩:=Int.eq_ofNat_of_zero_le (show 0 <= p by omega);have hm:((q:Int).tmod 4) = ((q % 4:Nat):Int):=by rw [show ((4:Int)) = ((4:Nat):Int) from rfl,← Int.ofNat_tmod]
  have hq4:q % 4 < 4:=Nat.mod_lt _ (by omega);have e1:Tlb.at_ t.1 e q = if Tlb.hit t.1 e q (q % 4 * 2) then some (q % 4 * 2) else if Tlb.hit t.1 e q (q % 4 * 2 + 1) then some (q % 4 * 2 + 1) else none:=by
   unfold Tlb.at_; rw [if_neg k',hm,Int.toNat_natCast]
  refine Lp.intro (fun (w:Int) h=>∃ n:Nat,w = n/\n <= 2/\(∀ m,m < n->¬ Tlb.hit t.1 e q (q % 4 * 2 + m))/\aB [fZ (some (b,0)) t] h) (fun (w:Int) _=>2 - w.toNat) ⟨0,rfl,by omega,by intro m hm; omega,vX hb st⟩ ?_;rintro w h ⟨n,rfl,hn,hno,s1⟩;unfold vY;refine aY (fun k2=>?_) (fun k2=>?_)
  ·have hlt:n < 2:=by have:=of_decide_eq_true k2; omega
   obtain ⟨b',hb',_,s2⟩:=pd s1;cases hb';have hi:q % 4 * 2 + n < t.1.length:=by rw [hb]; omega
   have hw:i64.wrap ((n:Int) + 1) = ((n + 1:Nat):Int):=by rw [bm (by omega) (by omega)]; rfl
   rw [hm];refine cO ⟨⟨by omega,by omega⟩,⟨by omega,by omega⟩,?_⟩;have next:¬ Tlb.hit t.1 e q (q % 4 * 2 + n)->∀ h,aB [fZ (some (b,0)) t] h ->
     (∃ m:Nat,i64.wrap ((n:Int) + 1) = m/\m <= 2/\(∀ k,k < m->¬ Tlb.hit t.1 e q (q % 4 * 2 + k))/\aB [fZ (some (b,0)) t] h)/\2 - (i64.wrap ((n:Int) + 1)).toNat < 2 - (n:Int).toNat:=by
    intro hnot h s;rw [hw];refine ⟨⟨n + 1,rfl,hlt,fun k hk=>?_,s⟩,by simp; omega⟩;by_cases hkn:k = n
    ·subst hkn; exact hnot
    ·exact hno k (by omega)
   refine ld_a (j:=0) (i:=q % 4 * 2 + n) (k:=0) t.1[q % 4 * 2 + n].fl.fCa jV s2 rfl (by simp; omega) (aF hi) (c1 rfl rfl) ?_;refine aY (fun k3=>?_) (fun k3=>?_)
   ·refine ld_a (j:=0) (i:=q % 4 * 2 + n) (k:=1) t.1[q % 4 * 2 + n].fl.fOa jV s2 rfl (by simp; omega) (aF hi) (c1 rfl rfl) ?_;unfold nD;refine aY (fun k4=>?_) (fun k4=>?_)
    ·have hh:Tlb.hit t.1 e q (q % 4 * 2 + n):=by
      unfold Tlb.hit; rw [ln_get hi]; exact ⟨by simpa using k3,by simpa using k4⟩
     refine ba ?_ s1;rw [e1];have hn01:n = 0\/n = 1:=by omega
     rcases hn01 with rfl | rfl
     ·rw [add_zero] at hh; rw [if_pos hh]; simp [ym,hm]; omega
     ·have:=hno 0 (by omega); rw [add_zero] at this; rw [if_neg this,if_pos hh]; simp [ym,hm]; omega
    ·exact next (by unfold Tlb.hit; rw [ln_get hi]; intro hh; simp [hh.2] at k4) h s1
   ·unfold nD;refine dx rfl ?_;exact next (by unfold Tlb.hit; rw [ln_get hi]; intro hh; simp [hh.1] at k3) h s1
  ·have hn2:n = 2:=by have:=of_decide_eq_false k2; omega
   subst hn2;refine ba ?_ s1;have h0:=hno 0 (by omega);have h1:=hno 1 (by omega);rw [add_zero] at h0;rw [e1,if_neg h0,if_neg h1]
   rfl
theorem sp_tlb_Find (x:Ptr) (t:List TL × Int) (e p:Int):Sp prog pO [pv x,.int .i64 e,.int .i64 p] gc [fZ x t] (fun r=>pa_ (r = Tlb.find t.1 e p) [fZ x t]):=by
 intro h s0;obtain ⟨b,rfl,hb,st⟩:=pd s0;refine sim_tlb_Tlb_Find _ _ _ ?_;unfold sh_tlb_Tlb_Find;refine cZ [0] (sp_tlb_at b t e p hb) s0 rfl fun r h' s1=>?_;obtain ⟨hr,s2⟩:=bt.1 s1;unfold Tlb.find;cases ho:Tlb.at_ t.1 e p with
 | none =>
  rw [ho] at hr; subst hr;exact dW rfl (ba rfl s2)
 | some n =>
  rw [ho] at hr; subst hr;have hn:n < t.1.length:=by rw [hb]; exact Tlb.at_lt ho
  obtain ⟨b',hb',_,s3⟩:=pd s2;cases hb';refine dx rfl (cO ?_);refine ld_a (j:=0) (i:=n) (k:=0) t.1[n].fl jV s3 rfl (by simp) (aF hn) ?_ ?_
  ·intro m v hv;rw [Nat.zero_add];have:m < 4:=(List.getElem?_eq_some_iff.1 hv).1
   match m,this with
   | 0,_=>exact hv
   | 1,_=>exact hv
   | 2,_=>exact hv
   | 3,_=>exact hv
  ·refine ba ?_ (vX hb s3);show _ = ((Tlb.ln t.1 n).fl,true)
   rw [ln_get hn]
theorem sp_tlb_Flush (x:Ptr) (t:List TL × Int) (e p:Int):Sp prog nS [pv x,.int .i64 e,.int .i64 p] aC [fZ x t] (fun r=>pa_ (r = (Tlb.flush t e p).1) [fZ x (Tlb.flush t e p).2]):=by
 intro h s0;obtain ⟨b,rfl,hb,st⟩:=pd s0;refine sim_tlb_Tlb_Flush _ _ _ ?_;unfold wK;refine cZ [0] (sp_tlb_at b t e p hb) s0 rfl fun r h' s1=>?_;obtain ⟨hr,s2⟩:=bt.1 s1;cases ho:Tlb.at_ t.1 e p with
 | none =>
  rw [ho] at hr; subst hr;have e1:Tlb.flush t e p = (false,t):=by unfold Tlb.flush; rw [ho]
  rw [e1];exact dW rfl (ba rfl s2)
 | some n =>
  rw [ho] at hr; subst hr;have hn:n < t.1.length:=by rw [hb]; exact Tlb.at_lt ho
  have e1:Tlb.flush t e p = (true,t.1.set n { t.1[n] with fl:=gA },t.2):=by unfold Tlb.flush; rw [ho,← ln_get hn]
  rw [e1];obtain ⟨b',hb',_,s3⟩:=pd s2;cases hb';refine dx rfl (cO ?_);refine st_a (j:=0) (i:=n) (k:=0) { t.1[n] with fl:=gA } jV s3 rfl (by simp) (aF hn) (by simp [ap.C]) rfl fun h2 s4=>?_;exact ba rfl (vX (t:=(t.1.set n { t.1[n] with fl:=gA },t.2)) (by simpa using hb) s4)
namespace Tlb
def room (ls:List TL) (a:Nat):Nat :=
 if (ln ls a).fl.fCa < 0 then a else if (ln ls (a + 1)).fl.fCa < 0 then a + 1 else if (ln ls (a + 1)).fwhen < (ln ls a).fwhen then a + 1 else a
end Tlb
theorem sp_tlb_room (b:Nat) (t:List TL × Int) (s:Nat) (hs:s < 4) (hb:t.1.length = 8):Sp prog ui [pv (some (b,0)),.int .i64 s] kE [fZ (some (b,0)) t] (fun r=>pa_ (r = ym b (some (Tlb.room t.1 (s * 2)))) [fZ (some (b,0)) t]):=by
 intro h s0;refine sim_tlb_Tlb_room _ _ ?_;unfold sh_tlb_Tlb_room;have w1:i64.wrap (((0:Nat):Int) + 1) = 1:=by rw [bm (by omega) (by omega)]; rfl
 have w2:i64.wrap ((1:Int) + 1) = 2:=by rw [bm (by omega) (by omega)]; rfl
 have h0:s * 2 < t.1.length:=by omega
 have h1:s * 2 + 1 < t.1.length:=by omega
 have l0:=ln_get h0;have l1:=ln_get h1;refine Lp.intro (fun (z:Ptr × Int) h=>((z = (none,0))\/(z = (some (b,s * 2 * 5),1)/\¬ (t.1[s * 2]).fl.fCa < 0)\/(z.2 = 2/\z.1 = ym b (some (Tlb.room t.1 (s * 2)))))/\aB [fZ (some (b,0)) t] h) (fun (z:Ptr × Int) _=>2 - z.2.toNat) ⟨.inl rfl,s0⟩ ?_;rintro ⟨z,i⟩ h ⟨hz,s1⟩;obtain ⟨b',hb',_,s2⟩:=pd s1;cases hb';unfold rV;rcases hz with hz | ⟨hz,hne⟩ | ⟨hz1,hz2⟩
 ·cases hz;refine dW rfl (cO ⟨⟨by omega,by omega⟩,⟨by omega,by omega⟩,?_⟩);refine ld_a (j:=0) (i:=s * 2) (k:=0) t.1[s * 2].fl.fCa jV s2 rfl (by simp; omega) (aF h0) (c1 rfl rfl) ?_;refine aY (fun k=>?_) (fun k=>?_)
  ·have k':t.1[s * 2].fl.fCa < 0:=by simpa using k
   refine ba ?_ s1;unfold Tlb.room;rw [l0,if_pos k'];simp [ym]; omega
  ·have k':¬ t.1[s * 2].fl.fCa < 0:=by simpa using k
   refine dW rfl ?_;refine ⟨⟨.inr (.inl ⟨?_,k'⟩),s1⟩,?_⟩
   ·show (some (b,0 + 0 + (s:Int).toNat * 10 + (0:Int).toNat * 5),i64.wrap ((0:Int) + 1)) = _;have:i64.wrap ((0:Int) + 1) = 1:=w1;rw [this];simp; omega
   ·have:i64.wrap ((0:Int) + 1) = 1:=w1;show 2 - (i64.wrap ((0:Int) + 1)).toNat < _;rw [this]; decide
 ·cases hz;refine dW rfl (cO ⟨⟨by omega,by omega⟩,⟨by omega,by omega⟩,?_⟩);refine ld_a (j:=0) (i:=s * 2 + 1) (k:=0) t.1[s * 2 + 1].fl.fCa jV s2 rfl (by simp; omega) (aF h1) (c1 rfl rfl) ?_;refine aY (fun k=>?_) (fun k=>?_)
  ·have k':t.1[s * 2 + 1].fl.fCa < 0:=by simpa using k
   refine ba ?_ s1;unfold Tlb.room;rw [l0,l1,if_neg hne,if_pos k'];simp [ym]; omega
  ·have k':¬ t.1[s * 2 + 1].fl.fCa < 0:=by simpa using k
   refine dx rfl (cO ?_);refine ld_a (j:=0) (i:=s * 2 + 1) (k:=4) t.1[s * 2 + 1].fwhen jV s2 rfl (by simp; omega) (aF h1) (c1 rfl rfl) ?_;refine ld_a (j:=0) (i:=s * 2) (k:=4) t.1[s * 2].fwhen jV s2 rfl (by simp) (aF h0) (c1 rfl rfl) ?_;refine aY (fun k2=>?_) (fun k2=>?_)
   ·have k2':t.1[s * 2 + 1].fwhen < t.1[s * 2].fwhen:=by simpa using k2
    refine ⟨⟨.inr (.inr ⟨w2,?_⟩),s1⟩,by show 2 - (i64.wrap ((1:Int) + 1)).toNat < _; rw [w2]; simp⟩;unfold Tlb.room;rw [l0,l1,if_neg hne,if_neg k',if_pos k2'];simp [ym]; omega
   ·have k2':¬ t.1[s * 2 + 1].fwhen < t.1[s * 2].fwhen:=by simpa using k2
    refine ⟨⟨.inr (.inr ⟨w2,?_⟩),s1⟩,by show 2 - (i64.wrap ((1:Int) + 1)).toNat < _; rw [w2]; simp⟩;unfold Tlb.room;rw [l0,l1,if_neg hne,if_neg k',if_neg k2'];simp [ym]
 ·simp only at hz1 hz2;subst hz1;exact dx rfl (ba hz2 s1)
namespace Tlb
def bad (a:ap):Prop:=a.fCa < 0\/a.fCa >= 4\/a.fOa < 0\/a.fOa >= 8\/a.fEa < 0\/a.fEa >= 16\/ch a.fBa = false
instance (a:ap):Decidable (bad a):=by unfold bad; infer_instance
def place (ls:List TL) (a:ap):Nat:=match at_ ls a.fCa a.fOa with | some n=>n | none=>room ls ((a.fOa.tmod 4).toNat * 2)
def fill (t:List TL × Int) (a:ap):Bool × List TL × Int :=
 if bad a then (false,t) else (true,t.1.set (place t.1 a) ⟨a,i64.wrap (t.2 + 1)⟩,i64.wrap (t.2 + 1))
def clr (c:TL):TL:={ c with fl:=gA }
def clear (t:List TL × Int):List TL × Int:=(t.1.map clr,t.2)
end Tlb
theorem tmod4 {p:Int} (h0:0 <= p):∃ q:Nat,p.tmod 4 = q/\q < 4:=by
 obtain ⟨q,rfl⟩:=Int.eq_ofNat_of_zero_le h0;exact ⟨q % 4,by rw [show ((4:Int)) = ((4:Nat):Int) from rfl,← Int.ofNat_tmod],Nat.mod_lt _ (by omega)⟩
theorem room_lt (ls:List TL) (a:Nat):Tlb.room ls a <= a + 1:=by
 unfold Tlb.room; split <;> (try split) <;> (try split) <;> omega
theorem sp_tlb_Fill (x:Ptr) (t:List TL × Int) (a:ap):Sp prog pP [pv x,.agg a.C.toArray] aC [fZ x t] (fun r=>pa_ (r = (Tlb.fill t a).1) [fZ x (Tlb.fill t a).2]):=by
 intro h s0;obtain ⟨b,rfl,hb,st⟩:=pd s0;refine sim_tlb_Tlb_Fill _ _ ?_;unfold sh_tlb_Tlb_Fill;refine aY (fun k=>?_) (fun k=>?_)
 ·have k':Tlb.bad a:=by simpa [Tlb.bad,or_assoc] using k
  have e1:Tlb.fill t a = (false,t):=if_pos k';rw [e1];exact ba rfl (vX hb st)
 ·have k':¬ Tlb.bad a:=by
   unfold Tlb.bad;simp at k;obtain ⟨⟨⟨⟨⟨⟨c1,c2⟩,c3⟩,c4⟩,c5⟩,c6⟩,c7⟩:=k;simp [c7]; omega
  have e1:Tlb.fill t a = (true,t.1.set (Tlb.place t.1 a) ⟨a,i64.wrap (t.2 + 1)⟩,i64.wrap (t.2 + 1)):=if_neg k';rw [e1];have fin:∀ (n:Nat) (h:Hp),n = Tlb.place t.1 a->n < 8->aB [fZ (some (b,0)) t] h->kX (some (b,0)) a (fun r=>pa_ (r = true) [fZ (some (b,0)) (t.1.set (Tlb.place t.1 a) ⟨a,i64.wrap (t.2 + 1)⟩,i64.wrap (t.2 + 1))]) (some (b,n * 5)) h:=by
   intro n h hn hlt s1;obtain ⟨b',hb',_,s2⟩:=pd s1;cases hb';have hn':n < t.1.length:=by omega
   have hfl:(t.1.flatMap cA.C).length = 40:=by rw [eP jV,hb]
   have lU:([]++(t.1.flatMap cA.C++[Value.int .i64 t.2]))[0 + 40]? = some (.int .i64 t.2):=by
    rw [nil_append,List.getElem?_append_right (by omega),hfl]; rfl
   unfold kX;refine cO (bq t.2 s2 (i:=0) rfl rfl lU ?_);refine vZ (i:=0) s2 rfl (by simp [hfl]) fun h3 s3=>?_;have ew:wr ([]++(t.1.flatMap cA.C++[Value.int .i64 t.2])) (0 + 40) [.int .i64 (i64.wrap (t.2 + 1))] = []++(t.1.flatMap cA.C++[Value.int .i64 (i64.wrap (t.2 + 1))]):=by
    rw [nil_append,nil_append,show 0 + 40 = (t.1.flatMap cA.C).length + 0 from by rw [hfl],ru]; rfl
   have s4:aB [blk b qL ([]++(t.1.flatMap cA.C++[Value.int .i64 (i64.wrap (t.2 + 1))]))] h3:=by rw [← ew]; exact s3
   have hcell2:([]++(t.1.flatMap cA.C++[Value.int .i64 (i64.wrap (t.2 + 1))]))[0 + 40]? = some (.int .i64 (i64.wrap (t.2 + 1))):=by
    rw [nil_append,List.getElem?_append_right (by omega),hfl]; rfl
   refine bq (i64.wrap (t.2 + 1)) s4 (i:=0) rfl rfl hcell2 ?_;refine cO ?_;refine st_a (j:=0) (i:=n) (k:=0) (⟨a,i64.wrap (t.2 + 1)⟩:TL) jV s4 rfl (by simp) (aF hn') (by simp [jV]) rfl fun h5 s5=>?_;subst hn;exact ba rfl (vX (t:=(t.1.set (Tlb.place t.1 a) ⟨a,i64.wrap (t.2 + 1)⟩,i64.wrap (t.2 + 1))) (by simpa using hb) s5)
  refine cZ [0] (sp_tlb_at b t a.fCa a.fOa hb) s0 rfl fun r h' s1=>?_;obtain ⟨hr,s2⟩:=bt.1 s1;cases ho:Tlb.at_ t.1 a.fCa a.fOa with
  | none =>
   rw [ho] at hr; subst hr;refine dW rfl ?_;obtain ⟨q,hq,hq4⟩:=tmod4 (p:=a.fOa) (by unfold Tlb.bad at k'; omega);rw [hq];refine cZ [0] (sp_tlb_room b t q hq4 hb) s2 rfl fun r h' s3=>?_;obtain ⟨hr,s4⟩:=bt.1 s3;subst hr;have hp:Tlb.room t.1 (q * 2) = Tlb.place t.1 a:=by unfold Tlb.place; rw [ho,hq,Int.toNat_natCast]
   exact fin _ _ hp (by have:=room_lt t.1 (q * 2); omega) s4
  | some n =>
   rw [ho] at hr; subst hr;refine dx rfl ?_;exact fin _ _ (by unfold Tlb.place; rw [ho]) (Tlb.at_lt ho) s2
theorem tlb_clear_take (ls:List TL) (n:Nat) (hn:n < ls.length):(((ls.take n).map Tlb.clr)++ls.drop n).set n (Tlb.clr ls[n]) = ((ls.take (n + 1)).map Tlb.clr)++ls.drop (n + 1):=by
 have h1:ls.drop n = ls[n]::ls.drop (n + 1):=List.drop_eq_getElem_cons hn;have h2:ls.take (n + 1) = ls.take n++[ls[n]]:=by simp
 rw [h2,List.map_append,List.set_append_right _ _ (by simp; omega)];have:n - ((ls.take n).map Tlb.clr).length = 0:=by simp; omega
 rw [this,h1,List.append_assoc]
 rfl
theorem sp_tlb_Clear (x:Ptr) (t:List TL × Int):Sp prog sg [pv x] R_ [fZ x t] (fun _=>aB [fZ x (Tlb.clear t)]):=by
 intro h s0;obtain ⟨b,rfl,hb,st⟩:=pd s0;refine sim_tlb_Tlb_Clear _ ?_;unfold wL;refine dx rfl ?_;have mid:∀ n:Nat,n <= 8->((((t.1.take n).map Tlb.clr)++t.1.drop n)).length = 8:=by intro n hn; simp; omega
 refine Lp.intro (fun (i:Int) h=>∃ n:Nat,i = n/\n <= 4/\aB [fZ (some (b,0)) (((t.1.take (n * 2)).map Tlb.clr)++t.1.drop (n * 2),t.2)] h) (fun (i:Int) _=>4 - i.toNat) ⟨0,rfl,by omega,by simpa using vX hb st⟩ ?_;rintro i h ⟨n,rfl,hn,s1⟩;unfold qK;refine aY (fun k=>?_) (fun k=>?_)
 ·have hlt:n < 4:=by have:=of_decide_eq_true k; omega
  refine Lp.intro (fun (j:Int) h=>∃ m:Nat,j = m/\m <= 2/\aB [fZ (some (b,0)) (((t.1.take (n * 2 + m)).map Tlb.clr)++t.1.drop (n * 2 + m),t.2)] h) (fun (j:Int) _=>2 - j.toNat) ⟨0,rfl,by omega,s1⟩ ?_;rintro j h ⟨m,rfl,hm,s2⟩;unfold qJ;refine aY (fun k2=>?_) (fun k2=>?_)
  ·have hlt2:m < 2:=by have:=of_decide_eq_true k2; omega
   have hw:i64.wrap ((m:Int) + 1) = ((m + 1:Nat):Int):=by rw [bm (by omega) (by omega)]; rfl
   have hi:n * 2 + m < t.1.length:=by omega
   obtain ⟨b',hb',_,s3⟩:=pd s2;cases hb';refine cO ⟨⟨by omega,by omega⟩,⟨by omega,by omega⟩,?_⟩;have hget:(((t.1.take (n * 2 + m)).map Tlb.clr)++t.1.drop (n * 2 + m))[n * 2 + m]? = some t.1[n * 2 + m]:=by
    rw [List.getElem?_append_right (by simp; omega)];have:n * 2 + m - ((t.1.take (n * 2 + m)).map Tlb.clr).length = 0:=by simp; omega
    rw [this,List.getElem?_drop];exact aF hi
   refine st_a (j:=0) (i:=n * 2 + m) (k:=0) (Tlb.clr t.1[n * 2 + m]) jV s3 rfl (by simp; omega) hget (by simp [ap.C]) rfl fun h2 s4=>?_;rw [hw];refine ⟨⟨m + 1,rfl,hlt2,?_⟩,by simp; omega⟩;have:=tlb_clear_take t.1 (n * 2 + m) hi;have s5:=vX (t:=((((t.1.take (n * 2 + m)).map Tlb.clr)++t.1.drop (n * 2 + m)).set (n * 2 + m) (Tlb.clr t.1[n * 2 + m]),t.2)) (by simp; omega) s4;rw [this] at s5;exact s5
  ·have hm2:m = 2:=by have:=of_decide_eq_false k2; omega
   subst hm2;have hw:i64.wrap ((n:Int) + 1) = ((n + 1:Nat):Int):=by rw [bm (by omega) (by omega)]; rfl
   rw [hw];exact ⟨⟨n + 1,rfl,hlt,by rw [show (n + 1) * 2 = n * 2 + 2 from by omega]; exact s2⟩,by simp; omega⟩
 ·have hn4:n = 4:=by have:=of_decide_eq_false k; omega
  subst hn4;have e:(((t.1.take (4 * 2)).map Tlb.clr)++t.1.drop (4 * 2),t.2) = Tlb.clear t:=by
   unfold Tlb.clear;rw [show 4 * 2 = t.1.length from by rw [hb],List.take_length,List.drop_length,List.append_nil]
  rw [e] at s1;exact s1
theorem tlb_new_run (K:Value->Hp->Prop) (h:Hp):hp prog (Instr.build qL #[]) K h = K (.agg (((replicate 8 Tlb.line0).flatMap cA.C++[Value.int .i64 0])).toArray) h:=by kernel_rfl
abbrev tlb0:List TL × Int:=(replicate 8 ⟨⟨-1,0,0,0⟩,0⟩,0)
theorem xB:Sp prog jj [] hZ [] (fun r=>aB [fZ r tlb0]):=by
 intro h st;refine sim_tlb_New ?_;unfold sh_tlb_New;refine ⟨?_⟩;rw [tlb_new_run];refine ⟨_,rfl,?_⟩;refine pL st fun b h' s1=>?_;have s2:=vX (t:=(replicate 8 Tlb.line0,0)) rfl s1;refine cZ [0] (sp_tlb_Clear (some (b,0)) _) s2 rfl fun r h' s3=>?_;exact dH s3
abbrev vL (s:Sl) (xs:List ap):As:=vec t_api_Line 4 ap.C s xs
theorem line_len (p:ap):p.C.length = 4:=rfl
theorem line_one (p:ap):dO p.C = true:=rfl
def Tlb.lines (t:List TL × Int):List ap:=t.1.map (·.fl)
theorem sp_tlb_Lines (x:Ptr) (t:List TL × Int):Sp prog sf [pv x] rU [fZ x t] (fun r=>aB [vL r (Tlb.lines t),fZ x t]):=by
 intro h s0;obtain ⟨b,rfl,hb,st⟩:=pd s0;refine sim_tlb_Tlb_Lines _ ?_;unfold wJ;refine dx rfl ?_;refine Lp.intro (fun (z:Sl × Int) h=>∃ n:Nat,z.2 = n/\n <= 4/\aB [vL z.1 ((t.1.take (n * 2)).map (·.fl)),fZ (some (b,0)) t] h) (fun (z:Sl × Int) _=>4 - z.2.toNat) ⟨0,rfl,by omega,gg (vX hb st)⟩ ?_;rintro ⟨z,i⟩ h ⟨n,rfl,hn,s1⟩;unfold qI;refine aY (fun k=>?_) (fun k=>?_)
 ·have hlt:n < 4:=by have:=of_decide_eq_true k; omega
  have h0:n * 2 < t.1.length:=by omega
  have h1:n * 2 + 1 < t.1.length:=by omega
  obtain ⟨b',hb',_,s2⟩:=pd (bd [1] s1 rfl);cases hb';refine cO ⟨⟨by omega,by omega⟩,?_⟩;refine ld_s (⟨t.1[n * 2],t.1[n * 2 + 1]⟩:jG) s2 (i:=0) rfl ?_ ?_
  ·intro j v hv;have hfl:(t.1.flatMap cA.C).length = 40:=by rw [eP jV,hb]
   have hsp:jG.C ⟨t.1[n * 2],t.1[n * 2 + 1]⟩ = (t.1[n * 2]).C++(t.1[n * 2 + 1]).C:=rfl;rw [hsp] at hv;have hj:j < 10:=by have:=(List.getElem?_eq_some_iff.1 hv).1; simpa [jV] using this
   have key:(t.1.flatMap cA.C)[n * 10 + j]? = some v:=by
    by_cases h5:j < 5
    ·rw [List.getElem?_append_left (by simpa [jV] using h5)] at hv;have:=uz jV t.1 (n * 2) j _ v (aF h0) hv;rw [show n * 10 + j = n * 2 * 5 + j from by omega]; exact this
    ·rw [List.getElem?_append_right (by simp [jV]; omega),jV] at hv;have:=uz jV t.1 (n * 2 + 1) (j - 5) _ v (aF h1) hv;rw [show n * 10 + j = (n * 2 + 1) * 5 + (j - 5) from by omega]; exact this
   have hlt':=(List.getElem?_eq_some_iff.1 key).1;rw [nil_append,show (b,0).2 + 0 + (n:Int).toNat * 10 + j = n * 10 + j from by simp,List.getElem?_append_left hlt'];exact key
  ·refine Lp.intro (fun (z:Sl × Int) h=>∃ m:Nat,z.2 = m/\m <= 2/\aB [vL z.1 ((t.1.take (n * 2 + m)).map (·.fl)),fZ (some (b,0)) t] h) (fun (z:Sl × Int) _=>2 - z.2.toNat) ⟨0,rfl,by omega,s1⟩ ?_;rintro ⟨y,j⟩ h ⟨m,rfl,hm,s3⟩;unfold qH;refine aY (fun k2=>?_) (fun k2=>?_)
   ·have hlt2:m < 2:=by have:=of_decide_eq_true k2; omega
    have hw:i64.wrap ((m:Int) + 1) = ((m + 1:Nat):Int):=by rw [bm (by omega) (by omega)]; rfl
    have hi:n * 2 + m < t.1.length:=by omega
    have hget:[t.1[n * 2],t.1[n * 2 + 1]][m]? = some t.1[n * 2 + m]:=by
     have:m = 0\/m = 1:=by omega
     rcases this with rfl | rfl <;> rfl
    refine index_v (enc:=cA.C) (m:=5) (xs:=[t.1[n * 2],t.1[n * 2 + 1]]) arn_2_tlb_line age_2_tlb_line jV (fun _=>rfl) rfl hget ?_;have hlen:(((t.1.take (n * 2 + m)).map (·.fl)):List ap).length <= 8:=by simp; omega
    refine lr (τ:=ap) (i:=0) (enc:=ap.C) (val:=fun x=>.agg x.C.toArray) el_Sapi_Line line_len line_one (fun _=>rfl) (by omega) rfl rfl s3 rfl (by omega) (by omega) fun v h' s4=>?_;rw [hw];refine ⟨⟨m + 1,rfl,hlt2,?_⟩,by simp; omega⟩;have ht:t.1.take (n * 2 + (m + 1)) = t.1.take (n * 2 + m)++[t.1[n * 2 + m]]:=by rw [← Nat.add_assoc]; simp
    rw [ht,List.map_append];exact s4
   ·have hm2:m = 2:=by have:=of_decide_eq_false k2; omega
    subst hm2;have hw:i64.wrap ((n:Int) + 1) = ((n + 1:Nat):Int):=by rw [bm (by omega) (by omega)]; rfl
    rw [hw];exact ⟨⟨n + 1,rfl,hlt,by rw [show (n + 1) * 2 = n * 2 + 2 from by omega]; exact s3⟩,by simp; omega⟩
 ·have hn4:n = 4:=by have:=of_decide_eq_false k; omega
  subst hn4;rw [show t.1.take (4 * 2) = t.1 from by rw [show 4 * 2 = t.1.length from by rw [hb]]; exact List.take_length] at s1;exact s1
end
section
open Go Mb
def sh_user_Walk (a0:Ptr) (a1:Ptr) (a2:Int) (a3:Int) (a4:Int) (K:kT (ap × Bool)):hT:=cl prog pO [(pv a0),(.int .i64 a2),(.int .i64 a3)] gc fun r21=>br (r21.2 && (ct r21.1.fBa a4)) ( K (r21.1,true)) ( cl prog fC [(pv a1),(.int .i64 a3)] cN fun r35=>br (!(ct r35.1.fBa a4)) ( cl prog nS [(pv a0),(.int .i64 a2),(.int .i64 a3)] aC fun r46=>K ((⟨0,0,0,0⟩:ap),false)) ( cl prog pP [(pv a0),(.agg (ap.C (⟨a2,a3,r35.1.fEa,r35.1.fBa⟩:ap)).toArray)] aC fun r57=>K ((⟨a2,a3,r35.1.fEa,r35.1.fBa⟩:ap),true)))
theorem sim_user_Walk (a0:Ptr) (a1:Ptr) (a2:Int) (a3:Int) (a4:Int) {K:kT (ap × Bool)} {h:Hp} (H:sh_user_Walk a0 a1 a2 a3 a4 K h):cl prog vz [(pv a0),(pv a1),(.int .i64 a2),(.int .i64 a3),(.int .i64 a4)] gc K h:=z_i func75 p p fun _=>O<|aa<|aI (l:=ap.C (⟨0,0,0,0⟩:ap)) lK p p fun b10=>U p<|am<|O<|M p<|M p<|M p<|aa<|D H en_119 fun r21 _ H1=>M p<|J (ak p p)<|J (ak p p)<|aa<|aI (l:=ap.C (⟨0,0,0,0⟩:ap)) lK p p fun b12=>aa<|aP (k:=0) (vs:=ap.C r21.1) gf p p p p p p p<|U p<|O<|M p<|M p<|W p p (ay _) (fun g2=>wv<|ae rR p)<|W p p (ay _) (fun g3=>cv<|be (k:=0) bc (aD p g3) p p)<|W p p (ay _) (fun g4=>wv<|ai p)<|dm (vs:=[(.int .i64 r21.1.fBa),(.int .i64 a4)]) p p p (ay _) (fun g5=>bC<|kD r21.1.fBa a4 _) en_120 (fun g5=>aV (aD p g5)<|aV (aD p g5) bU) p<|J (bO p p)<|ad<|aw p H1 (fun k6 H7=>O<|bn (bH (k:=0) iH p p p p) p<|aa<|aP (k:=1) (vs:=ap.C r21.1) gf p p p p p p p<|U p<|aj<|bB (bR p (bG (k:=1) p iH p p)<|cd p) ⟨(r21.1,true),p,H7⟩) fun k6 H7=>an<|O<|M p<|M p<|aa<|D H7 en_121 fun r35 _ H8=>M p<|J (ak p p)<|J (ak p p)<|aa<|aI (l:=ao.C (⟨0,0,0⟩:ao)) fj p p fun b14=>aa<|aP (k:=0) (vs:=ao.C r35.1) dn p p p p p p p<|U p<|am<|O<|J (ae dZ p)<|bn (be (k:=0) bc p p p) p<|M p<|aa<|cW (vs:=[(.int .i64 r35.1.fBa),(.int .i64 a4)]) (bC<|kD r35.1.fBa a4 _) en_120 p p<|J (cy p)<|ad<|aw p H8 (fun k9 H10=>O<|M p<|M p<|M p<|aa<|D H10 en_69 fun r46 _ H11=>ad<|O<|J (aZ (vs:=[]) p mG)<|aa<|aP (k:=2) (vs:=ap.C (⟨0,0,0,0⟩:ap)) gf p p p p p p p<|U p<|aj<|bB (bR p (bG (k:=2) p iH p p)<|cd p) ⟨((⟨0,0,0,0⟩:ap),false),p,H11⟩) fun k9 H10=>an<|O<|M p<|M p<|J (ae oU p)<|bn (be (k:=0) bc p p p) p<|J (ae dZ p)<|bn (be (k:=0) bc p p p) p<|J (aZ p<|xq a2 a3 r35.1.fEa r35.1.fBa)<|aa<|aI (l:=ap.C (⟨0,0,0,0⟩:ap)) lK p p fun b16=>aa<|aP (k:=0) (vs:=ap.C (⟨a2,a3,r35.1.fEa,r35.1.fBa⟩:ap)) gf p p p p p p p<|ad<|O<|M p<|bn (bH (k:=0) iH p p p p) p<|aa<|D H10 en_122 fun r57 _ H12=>ad<|O<|bn (bH (k:=0) iH p p p p) p<|aa<|aP (k:=3) (vs:=ap.C (⟨a2,a3,r35.1.fEa,r35.1.fBa⟩:ap)) gf p p p p p p p<|U p<|aj<|bB (bR p (bG (k:=3) p iH p p)<|cd p) ⟨((⟨a2,a3,r35.1.fEa,r35.1.fBa⟩:ap),true),p,H12⟩
def sh_user_touch (a0:Ptr) (a1:Int) (a2:ah) (K:kT ab):hT:=br ((i64.wrap a2.e0) == 20) ( cl prog iR [(pv a0),(.int .i64 a1),(.int .i64 (i64.wrap a2.e2))] bN fun r21=>K (⟨0,r21.1⟩:ab)) ( br ((i64.wrap a2.e0) == 21) ( cl prog fY [(pv a0),(.int .i64 a1),(.int .i64 (i64.wrap a2.e2)),(.int .u64 a2.e3)] aC fun r31=>K (⟨0,0⟩:ab)) ( br ((i64.wrap a2.e0) == 22) ( cl prog rj [(pv a0),(.int .i64 a1),(.int .i64 (i64.wrap a2.e2)),(.int .u64 a2.e3),(.int .u64 a2.e4)] bN fun r42=>K (⟨0,r42.1⟩:ab)) ( br ((i64.wrap a2.e0) == 23) ( cl prog rl [(pv a0),(.int .i64 a1),(.int .i64 (i64.wrap a2.e2)),(.int .u64 a2.e3)] bN fun r53=>K (⟨0,r53.1⟩:ab)) ( K (⟨0,0⟩:ab)))))
theorem sim_user_touch (a0:Ptr) (a1:Int) (a2:ah) {K:kT ab} {h:Hp} (H:sh_user_touch a0 a1 a2 K h):cl prog ye [(pv a0),(.int .i64 a1),(.agg (ah.C a2).toArray)] iB K h:=z_i func142 p p fun _=>O<|aa<|cX (l:=ah.C a2) p p p fun b5=>aa<|aI (l:=ab.C (⟨0,0⟩:ab)) cY p p fun b6=>ad<|O<|J (bD dq p p (by decide))<|bn (be (k:=1) cG p p p) p<|J (dy ⟨_,underlying31⟩ underlying3 p)<|U p<|O<|U p<|am<|O<|J (bD dq p p (by decide))<|bn (be (k:=1) cG p p p) p<|J (dy ⟨_,underlying31⟩ underlying3 p)<|ad<|ax<|O<|J (bP p p)<|U p<|aw p H (fun k1 H2=>aq<|M p<|M p<|M p<|aa<|D H2 en_124 fun r21 _ H3=>M p<|J (ak p p)<|J (ak p p)<|U p<|O<|M p<|J (aZ p<|kS r21.1)<|aa<|aP (k:=0) (vs:=ab.C (⟨0,r21.1⟩:ab)) bL p p p p p p p<|ad<|aj<|bB (nK p<|bG (k:=0) p cM p p) ⟨(⟨0,r21.1⟩:ab),p,H3⟩) fun k1 H2=>O<|J (bP p p)<|U p<|aw p H2 (fun k4 H5=>aq<|M p<|M p<|M p<|J (bD dq p p (by decide))<|bn (be (k:=1) cG p p p) p<|aa<|D H5 en_125 fun r31 _ H6=>ad<|O<|M p<|J (aZ p<|kS 0)<|aa<|aP (k:=0) (vs:=ab.C (⟨0,0⟩:ab)) bL p p p p p p p<|ad<|aj<|bB (nK p<|bG (k:=0) p cM p p) ⟨(⟨0,0⟩:ab),p,H6⟩) fun k4 H5=>O<|J (bP p p)<|U p<|aw p H5 (fun k7 H8=>aq<|M p<|M p<|M p<|J (bD dq p p (by decide))<|bn (be (k:=1) cG p p p) p<|J (bD dq p p (by decide))<|bn (be (k:=1) cG p p p) p<|aa<|D H8 en_126 fun r42 _ H9=>M p<|J (ak p p)<|J (ak p p)<|U p<|O<|M p<|J (aZ p<|kS r42.1)<|aa<|aP (k:=0) (vs:=ab.C (⟨0,r42.1⟩:ab)) bL p p p p p p p<|ad<|aj<|bB (nK p<|bG (k:=0) p cM p p) ⟨(⟨0,r42.1⟩:ab),p,H9⟩) fun k7 H8=>O<|J (bP p p)<|U p<|aw p H8 (fun k10 H11=>aq<|M p<|M p<|M p<|J (bD dq p p (by decide))<|bn (be (k:=1) cG p p p) p<|aa<|D H11 en_127 fun r53 _ H12=>M p<|J (ak p p)<|J (ak p p)<|U p<|O<|M p<|J (aZ p<|kS r53.1)<|aa<|aP (k:=0) (vs:=ab.C (⟨0,r53.1⟩:ab)) bL p p p p p p p<|ad<|aj<|bB (nK p<|bG (k:=0) p cM p p) ⟨(⟨0,r53.1⟩:ab),p,H12⟩) fun k10 H11=>an<|O<|M p<|J (aZ p<|kS 0)<|aa<|aP (k:=0) (vs:=ab.C (⟨0,0⟩:ab)) bL p p p p p p p<|ad<|aj<|bB (nK p<|bG (k:=0) p cM p p) ⟨(⟨0,0⟩:ab),p,H11⟩
def qG (a0:Ptr) (a1:Ptr) (a2:Ptr) (a3:Int) (a4:ah) (K:kT (ab × ap)) (s2:Int):hT:=br (s2 != 0) ( K ((⟨s2,0⟩:ab),(⟨0,0,0,0⟩:ap))) ( cl prog vz [(pv a0),(pv a1),(.int .i64 a3),(.int .i64 (i64.wrap a4.e1)),(.int .i64 ((az a4).1))] gc fun r48=>br (!r48.2) ( K ((⟨7,0⟩:ab),(⟨0,0,0,0⟩:ap))) ( cl prog ye [(pv a2),(.int .i64 r48.1.fEa),(.agg (ah.C a4).toArray)] iB fun r59=>K (r59,r48.1)))
def sh_user_Do (a0:Ptr) (a1:Ptr) (a2:Ptr) (a3:Int) (a4:ah) (K:kT (ab × ap)):hT:=cl prog ir [(.agg (ah.C a4).toArray),(.int .i64 4)] bj fun r18=>br ((decide (a3 < 0)) || (decide (a3 >= 4))) ( qG a0 a1 a2 a3 a4 K 10) ( br (!(bE ((az a4).1))) ( qG a0 a1 a2 a3 a4 K 1) ( qG a0 a1 a2 a3 a4 K r18))
theorem sim_user_Do (a0:Ptr) (a1:Ptr) (a2:Ptr) (a3:Int) (a4:ah) {K:kT (ab × ap)} {h:Hp} (H:sh_user_Do a0 a1 a2 a3 a4 K h):cl prog n_user_Do [(pv a0),(pv a1),(pv a2),(.int .i64 a3),(.agg (ah.C a4).toArray)] fh K h:=z_i func101 p p fun _=>O<|aa<|cX (l:=ah.C a4) p p p fun b9=>aa<|aI (l:=ab.C (⟨0,0⟩:ab)) cY p p fun b10=>aa<|aI (l:=ap.C (⟨0,0,0,0⟩:ap)) lK p p fun b11=>ad<|O<|bn (bH (k:=2) fI p p p p) p<|aa<|D H en_72 fun r18 _ H1=>U p<|O<|bn (bH (k:=2) fI p p p p) p<|aa<|cW (vs:=[(.agg (ah.C a4).toArray)]) (bC<|kR a4 _) en_44 p p<|M p<|J (ak p p)<|J (ak p p)<|J (av p)<|U p<|eu (qG a0 a1 a2 a3 a4 K) (fun s2=>[(0,(pv a0)),(1,(pv a1)),(2,(pv a2)),(3,(.int .i64 a3)),(9,(.pointer (some ⟨b9,0,none⟩))),(10,(.pointer (some ⟨b10,0,none⟩))),(11,(.pointer (some ⟨b11,0,none⟩))),(12,(.int .i64 s2)),(13,(.int .i64 ((az a4).1)))]) (fun s2=>[bx b11 38 (ap.C (⟨0,0,0,0⟩:ap)),bx b10 36 (ab.C (⟨0,0⟩:ab)),bx b9 33 (ah.C a4)]) (ax<|O<|M p<|J (cn p p)<|M p<|W p p (aN _) (fun g10=>wv<|ai p)<|W p p (aN _) (fun g11=>wv<|kx (aD p g11) p)<|J (dC p p)<|U p<|aw p H1 (fun k12 H13=>aq<|U p<|cE 10 H13 (.cons p<|.cons p<|.cons p<|.cons p<|.cons p<|.cons p<|.cons p<|.cons p<|.cons p<|.nil _)<|.cons_cons _<|.cons_cons _<|.cons_cons _ .slnil) fun k12 H13=>O<|M p<|aa<|cW (vs:=[(.int .i64 ((az a4).1))]) (bC<|tB (az a4).1 _) en_45 p p<|J (cy p)<|U p<|aw p H13 (fun k14 H15=>aq<|U p<|cE 1 H15 (.cons p<|.cons p<|.cons p<|.cons p<|.cons p<|.cons p<|.cons p<|.cons p<|.cons p<|.nil _)<|.cons_cons _<|.cons_cons _<|.cons_cons _ .slnil) fun k14 H15=>an<|cE r18 H15 (.cons p<|.cons p<|.cons p<|.cons p<|.cons p<|.cons p<|.cons p<|.cons p<|.cons p<|.nil _)<|.cons_cons _<|.cons_cons _<|.cons_cons _ .slnil) fun s2 _ H3=>am<|O<|M p<|J (nY p p)<|ad<|aw p H3 (fun k4 H5=>O<|M p<|J (aZ p<|jM s2)<|J (aZ (vs:=[]) p mG)<|aa<|aP (k:=1) (vs:=ab.C (⟨s2,0⟩:ab)) bL p p p p p p p<|aa<|aP (k:=0) (vs:=ap.C (⟨0,0,0,0⟩:ap)) gf p p p p p p p<|ad<|aj<|bB (bR p (bG (k:=1) p cM p p)<|bG (k:=0) p iH p p) ⟨((⟨s2,0⟩:ab),(⟨0,0,0,0⟩:ap)),p,H5⟩) fun k4 H5=>an<|O<|M p<|M p<|M p<|J (bD dq p p (by decide))<|bn (be (k:=2) cG p p p) p<|J (dy ⟨_,underlying31⟩ underlying3 p)<|M p<|aa<|D H5 en_75 fun r48 _ H6=>M p<|J (ak p p)<|J (ak p p)<|aa<|aI (l:=ap.C (⟨0,0,0,0⟩:ap)) lK p p fun b15=>aa<|aP (k:=0) (vs:=ap.C r48.1) gf p p p p p p p<|U p<|am<|O<|M p<|J (cy p)<|ad<|aw p H6 (fun k7 H8=>O<|J (aZ p<|jM 7)<|J (aZ (vs:=[]) p mG)<|aa<|aP (k:=2) (vs:=ab.C (⟨7,0⟩:ab)) bL p p p p p p p<|aa<|aP (k:=1) (vs:=ap.C (⟨0,0,0,0⟩:ap)) gf p p p p p p p<|ad<|aj<|bB (bR p (bG (k:=2) p cM p p)<|bG (k:=1) p iH p p) ⟨((⟨7,0⟩:ab),(⟨0,0,0,0⟩:ap)),p,H8⟩) fun k7 H8=>an<|am<|bo (n:=8) [bx b15 38 (ap.C r48.1),bx b9 33 (ah.C a4)] cu p (.cons_cons _<|.cons _<|.cons _<|.cons_cons _ .slnil)<|V 0 p (ai p)<|V 1 p (ae mB p)<|z_E 2 p (dw (k:=0) bc p p p)<|z_E 3 p (eK (k:=1) fI p p p p)<|z_E 5 p (eK (k:=0) iH p p p p)<|I 4 p<|D H8 en_142 fun r59 _ H9=>⟨.cons_cons _<|.cons _<|.cons _<|.cons_cons _ .slnil,I 6 p<|aP (k:=2) (vs:=ab.C r59) bL p p p p p p p ⟨.cons_cons _<|.cons _<|.cons _<|.cons_cons _ .slnil,I 7 p<|aP (k:=1) (vs:=ap.C r48.1) gf p p p p p p p ⟨.cons_cons _<|.cons _<|.cons _<|.cons_cons _ .slnil,aR (by kernel_rfl)<|aj<|bB (bR p (bG (k:=2) p cM p p)<|bG (k:=1) p iH p p) ⟨(r59,r48.1),p,H9⟩⟩⟩⟩
end
section
open Go Mb
abbrev jO:=ap
abbrev Buf:=List TL × Int
abbrev jg:jO:=⟨0,0,0,0⟩
namespace User
def walk (b:Buf) (t:List Pte) (e pg kind:Int):(jO × Bool) × Buf :=
 if (Tlb.find b.1 e pg).2 = true/\ct (Tlb.find b.1 e pg).1.fBa kind = true then (((Tlb.find b.1 e pg).1,true),b)
 else if ct (Table.get t pg).1.fBa kind = false then ((jg,false),(Tlb.flush b e pg).2)
 else ((⟨e,pg,(Table.get t pg).1.fEa,(Table.get t pg).1.fBa⟩,true),(Tlb.fill b ⟨e,pg,(Table.get t pg).1.fEa,(Table.get t pg).1.fBa⟩).2)
def touch (m:List (List Int)) (f:Int) (c:cK):ab × List (List Int) :=
 if i64.wrap c.e0 = 20 then (⟨0,(Mem.load m f (i64.wrap c.e2)).1⟩,m)
 else if i64.wrap c.e0 = 21 then (⟨0,0⟩,(Mem.store m f (i64.wrap c.e2) c.e3).2)
 else if i64.wrap c.e0 = 22 then (⟨0,(Mem.cas m f (i64.wrap c.e2) c.e3 c.e4).1.1⟩,(Mem.cas m f (i64.wrap c.e2) c.e3 c.e4).2)
 else if i64.wrap c.e0 = 23 then (⟨0,(Mem.add m f (i64.wrap c.e2) c.e3).1.1⟩,(Mem.add m f (i64.wrap c.e2) c.e3).2)
 else (⟨0,0⟩,m)
def bad (e:Int) (c:cK):Int:=if e < 0\/e >= 4 then 10 else if bE (az c).1 = false then 1 else Word.check c 4
def do_ (b:Buf) (t:List Pte) (m:List (List Int)) (e:Int) (c:cK):(ab × jO) × Buf × List (List Int) :=
 if bad e c ≠ 0 then ((⟨bad e c,0⟩,jg),b,m)
 else if (walk b t e (i64.wrap c.e1) (az c).1).1.2 = false then ((⟨7,0⟩,jg),(walk b t e (i64.wrap c.e1) (az c).1).2,m)
 else (((touch m (walk b t e (i64.wrap c.e1) (az c).1).1.1.fEa c).1,(walk b t e (i64.wrap c.e1) (az c).1).1.1),(walk b t e (i64.wrap c.e1) (az c).1).2,(touch m (walk b t e (i64.wrap c.e1) (az c).1).1.1.fEa c).2)
end User
theorem sp_user_Walk (x y:Ptr) (b:Buf) (t:List Pte) (e pg kind:Int):Sp prog vz [pv x,pv y,.int .i64 e,.int .i64 pg,.int .i64 kind] gc [fZ x b,di y t] (fun r=>pa_ (r = (User.walk b t e pg kind).1) [fZ x (User.walk b t e pg kind).2,di y t]):=by
 intro h s0;refine sim_user_Walk _ _ _ _ _ ?_;unfold sh_user_Walk;refine bM (sp_tlb_Find x b e pg) (i:=0) rfl s0 fun r h1 hr s1=>?_;subst hr;refine aY (fun k=>?_) (fun k=>?_)
 ·have k':(Tlb.find b.1 e pg).2 = true/\ct (Tlb.find b.1 e pg).1.fBa kind = true:=by simpa using k
  have e1:User.walk b t e pg kind = (((Tlb.find b.1 e pg).1,true),b):=if_pos k';rw [e1]; exact ba rfl s1
 ·have k':¬ ((Tlb.find b.1 e pg).2 = true/\ct (Tlb.find b.1 e pg).1.fBa kind = true):=by simpa using k
  refine bM (oF y t pg) (i:=1) rfl s1 fun r h2 hr s2=>?_;subst hr;refine aY (fun k2=>?_) (fun k2=>?_)
  ·have e1:User.walk b t e pg kind = ((jg,false),(Tlb.flush b e pg).2):=by unfold User.walk; rw [if_neg k',if_pos (by simpa using k2)]
   rw [e1];exact bM (sp_tlb_Flush x b e pg) (i:=0) rfl s2 fun r h3 hr s3=>ba rfl s3
  ·have e1:User.walk b t e pg kind = ((⟨e,pg,(Table.get t pg).1.fEa,(Table.get t pg).1.fBa⟩,true),(Tlb.fill b ⟨e,pg,(Table.get t pg).1.fEa,(Table.get t pg).1.fBa⟩).2):=by unfold User.walk; rw [if_neg k',if_neg (by simpa using k2)]
   rw [e1];exact bM (sp_tlb_Fill x b ⟨e,pg,(Table.get t pg).1.fEa,(Table.get t pg).1.fBa⟩) (i:=0) rfl s2 fun r h3 hr s3=>ba rfl s3
theorem sp_user_touch (x:Ptr) (m:List (List Int)) (f:Int) (c:cK):Sp prog ye [pv x,.int .i64 f,.agg c.C.toArray] iB [iV x m] (fun r=>pa_ (r = (User.touch m f c).1) [iV x (User.touch m f c).2]):=by
 intro h s0;refine sim_user_touch _ _ _ ?_;unfold sh_user_touch;refine aY (fun k=>?_) (fun k=>?_)
 ·have e1:User.touch m f c = (⟨0,(Mem.load m f (i64.wrap c.e2)).1⟩,m):=if_pos (by simpa using k);rw [e1];exact bM (rD x m f _) (i:=0) rfl s0 fun r h1 hr s1=>ba (by rw [hr]) s1
 refine aY (fun k2=>?_) (fun k2=>?_)
 ·have e1:User.touch m f c = (⟨0,0⟩,(Mem.store m f (i64.wrap c.e2) c.e3).2):=by unfold User.touch; rw [if_neg (by simpa using k),if_pos (by simpa using k2)]
  rw [e1];exact bM (mK x m f _ _) (i:=0) rfl s0 fun r h1 hr s1=>ba rfl s1
 refine aY (fun k3=>?_) (fun k3=>?_)
 ·have e1:User.touch m f c = (⟨0,(Mem.cas m f (i64.wrap c.e2) c.e3 c.e4).1.1⟩,(Mem.cas m f (i64.wrap c.e2) c.e3 c.e4).2):=by unfold User.touch; rw [if_neg (by simpa using k),if_neg (by simpa using k2),if_pos (by simpa using k3)]
  rw [e1];exact bM (sp_mem_Cas x m f _ _ _) (i:=0) rfl s0 fun r h1 hr s1=>ba (by rw [hr]) s1
 refine aY (fun k4=>?_) (fun k4=>?_)
 ·have e1:User.touch m f c = (⟨0,(Mem.add m f (i64.wrap c.e2) c.e3).1.1⟩,(Mem.add m f (i64.wrap c.e2) c.e3).2):=by unfold User.touch; rw [if_neg (by simpa using k),if_neg (by simpa using k2),if_neg (by simpa using k3),if_pos (by simpa using k4)]
  rw [e1];exact bM (sp_mem_Add x m f _ _) (i:=0) rfl s0 fun r h1 hr s1=>ba (by rw [hr]) s1
 have e1:User.touch m f c = (⟨0,0⟩,m):=by unfold User.touch; rw [if_neg (by simpa using k),if_neg (by simpa using k2),if_neg (by simpa using k3),if_neg (by simpa using k4)]
 rw [e1];exact ba rfl s0
theorem sp_user_Do (x y z:Ptr) (b:Buf) (t:List Pte) (m:List (List Int)) (e:Int) (c:cK):Sp prog n_user_Do [pv x,pv y,pv z,.int .i64 e,.agg c.C.toArray] fh [fZ x b,di y t,iV z m] (fun r=>pa_ (r = (User.do_ b t m e c).1) [fZ x (User.do_ b t m e c).2.1,di y t,iV z (User.do_ b t m e c).2.2]):=by
 intro h s0;refine sim_user_Do _ _ _ _ _ ?_;unfold sh_user_Do;refine uM (jJ c 4) s0 fun r h1 hr s1=>?_;subst hr;have go:∀ n,n = User.bad e c->qG x y z e c (fun r=>pa_ (r = (User.do_ b t m e c).1) [fZ x (User.do_ b t m e c).2.1,di y t,iV z (User.do_ b t m e c).2.2]) n h1:=by
  intro n hn;unfold qG;refine aY (fun k=>?_) (fun k=>?_)
  ·have k':User.bad e c ≠ 0:=by rw [← hn]; simpa using k
   have e1:User.do_ b t m e c = ((⟨User.bad e c,0⟩,jg),b,m):=if_pos k';rw [e1]; exact ba (by rw [hn]) s1
  ·have k':¬ User.bad e c ≠ 0:=by rw [← hn]; simpa using k
   refine cZ [0,0] (sp_user_Walk x y b t e (i64.wrap c.e1) (az c).1) s1 rfl fun r h2 s2=>?_;obtain ⟨hr,s3⟩:=bt.1 s2;subst hr;refine aY (fun k2=>?_) (fun k2=>?_)
   ·have e1:User.do_ b t m e c = ((⟨7,0⟩,jg),(User.walk b t e (i64.wrap c.e1) (az c).1).2,m):=by unfold User.do_; rw [if_neg k',if_pos (by simpa using k2)]
    rw [e1]; exact ba rfl s3
   ·have e1:User.do_ b t m e c = (((User.touch m (User.walk b t e (i64.wrap c.e1) (az c).1).1.1.fEa c).1,(User.walk b t e (i64.wrap c.e1) (az c).1).1.1),(User.walk b t e (i64.wrap c.e1) (az c).1).2,(User.touch m (User.walk b t e (i64.wrap c.e1) (az c).1).1.1.fEa c).2):=by unfold User.do_; rw [if_neg k',if_neg (by simpa using k2)]
    rw [e1];exact bM (sp_user_touch z m _ c) (i:=2) rfl s3 fun r h3 hr s4=>ba (by rw [hr]) s4
 refine aY (fun k=>go 10 ?_) (fun k=>?_)
 ·unfold User.bad; rw [if_pos (by simpa using k)]
 ·have k':¬ (e < 0\/e >= 4):=by simpa using k
  refine aY (fun k2=>go 1 ?_) (fun k2=>go _ ?_)
  ·unfold User.bad; rw [if_neg k',if_pos (by simpa using k2)]
  ·unfold User.bad; rw [if_neg k',if_neg (by simpa using k2)]
end
section
open Go Mb
abbrev KC:=mH
abbrev bp:=aG
structure KK where
 p:PK
 fNa:List Buf
 fKa:Mail.S
 fFa:fLa.S
 calls:List (Option KC)
 events:List bp
 now:Int
namespace KK
def is (k:KK) (c:Int):Bool:=decide (0 <= c/\c < k.calls.length)
def call (k:KK) (c:Int):Option KC:=(k.calls.getD c.toNat none)
def busy (k:KK) (c:Int):Bool:=is k c && (call k c).isSome
def buf (k:KK) (c:Int):Buf:=k.fNa.getD c.toNat ([],0)
def ev0 (core env:Int) (c:cK) (n:Int):bp:=⟨core,env,c,n,0,0,⟨0,0⟩,jg⟩
def begin_ (k:KK) (core env:Int) (c:cK):Bool × KK :=
 if is k core = false\/busy k core = true\/env < 0\/env >= k.p.s.fJa then (false,k)
 else (true,{ k with now:=i64.wrap (k.now + 1),events:=k.events++[ev0 core env c (i64.wrap (k.now + 1))],calls:=k.calls.set core.toNat (some ⟨k.events.length,env,c,false,0⟩) })
def goes (p:PK) (x:KC) (e s:Int):Bool :=
 if x.fc.e0 = 5/\e = x.fGa/\s = i64.wrap x.fc.e1 then true
 else if fAa.has p.caps e s = true then fAa.under p.caps (fAa.get p.caps e s) ⟨x.fGa,i64.wrap x.fc.e1⟩ else false
def left (p:PK) (x:KC) (e pg:Int) (q:Pte):Pte :=
 if x.fc.e0 = 7 then (if x.fGa = e/\i64.wrap x.fc.e1 = pg then dc else q)
 else if x.fc.e0 = 8 then (if (x.fGa = e/\i64.wrap x.fc.e1 = pg)/\aO (i64.wrap x.fc.e2) (fAa.at_ p.caps e q.fDa).1.fBa = true then { q with fBa:=iand .i64 q.fBa (i64.wrap x.fc.e2) } else q)
 else if goes p x e q.fDa = true then dc else q
def fEb (p:PK) (e pg:Int):List (Option KC)->Bool->Pte->Pte × Bool
 | [],b,q=>(q,b)
 | none::cs,b,q=>fEb p e pg cs b q
 | some x::cs,b,q=>if b = true/\x.fPa = true then fEb p e pg cs ((left p x e pg q).fBa != 0) (left p x e pg q) else fEb p e pg cs b q
def seen (k:KK) (e pg:Int):Pte × Bool:=fEb k.p e pg k.calls (PK.pte k.p e pg).2 (PK.pte k.p e pg).1
def hits (p:PK) (x:KC) (e pg:Nat):Bool:=(PK.pte p e pg).2 && !(ao.eqb (left p x e pg (PK.pte p e pg).1) (PK.pte p e pg).1)
def takes (p:PK) (x:KC):Bool :=
 if Word.check x.fc p.s.fJa ≠ 0\/x.fc.e0 < 4\/x.fc.e0 > 8\/x.fc.e0 = 6 then false
 else (range p.s.fJa.toNat).any fun e=>(range 8).any fun pg=>hits p x e pg
def stale (k:KK) (l:jO):Bool:=decide (0 <= l.fCa) && (!(seen k l.fCa l.fOa).2 || (seen k l.fCa l.fOa).1.fEa != l.fEa || !(aO l.fBa (seen k l.fCa l.fOa).1.fBa))
def cleans (k:KK):List jO->Buf->Buf
 | [],b=>b
 | l::ls,b=>if stale k l = true then cleans k ls (Tlb.flush b l.fCa l.fOa).2 else cleans k ls b
def clean (k:KK) (c:Int):KK:={ k with fNa:=k.fNa.set c.toNat (cleans k (Tlb.lines (buf k c)) (buf k c)) }
def evend (e:bp) (n:Int) (a:eQ) (l:jO):bp:={ e with fHa:=n,fXa:=n,fYa:=a,fUa:=l }
def ends (k:KK) (c:Int) (x:KC) (a:eQ) (l:jO):KK :=
 { k with events:=k.events.set x.fat.toNat (evend (k.events.getD x.fat.toNat (ev0 0 0 ⟨0,0,0,0,0⟩ 0)) k.now a l),calls:=k.calls.set c.toNat none }
def fGb (k:KK) (e pg:Int):List Pte:=if (seen k e pg).2 = true then (Table.insert (replicate 8 dc) pg (seen k e pg).1).2 else replicate 8 dc
def fBb (k:KK) (c:Int) (x:KC):(jO × Bool) × Buf:=User.walk (buf k c) (fGb k x.fGa (i64.wrap x.fc.e1)) x.fGa (i64.wrap x.fc.e1) (i64.wrap x.fc.e0)
def access (k:KK) (c:Int) (x:KC):(eQ × jO) × KK :=
 if Word.check x.fc k.p.s.fJa ≠ 0 then ((⟨Word.check x.fc k.p.s.fJa,0⟩,jg),k)
 else if (fBb k c x).1.2 = false then ((⟨7,0⟩,jg),{ k with fNa:=k.fNa.set c.toNat (fBb k c x).2 })
 else (((PK.touch k.p (fBb k c x).1.1.fEa x.fc).1.1,(fBb k c x).1.1),{ k with fNa:=k.fNa.set c.toNat (fBb k c x).2,p:=(PK.touch k.p (fBb k c x).1.1.fEa x.fc).2 })
def tell (k:KK) (c:Int) (x:KC):KK:={ k with calls:=k.calls.set c.toNat (some { x with fPa:=true }) }
def send (k:KK) (c:Int) (x:KC):KK :=
 { k with fFa:=(fLa.begin_ k.fFa c).2,calls:=k.calls.set c.toNat (some { x with fPa:=true,fAb:=(fLa.begin_ k.fFa c).1.1 }),fKa:=(Mail.sends k.fKa c (fLa.begin_ k.fFa c).1.1 k.fKa.length).2 }
def tick (k:KK):KK:={ k with now:=i64.wrap (k.now + 1) }
def work (k:KK) (c:Int) (x:KC):KK :=
 if bE (az x.fc).1 = true then ends (access k c x).2 c x (access k c x).1.1 (access k c x).1.2
 else if x.fPa = false/\takes k.p x = true then send (clean (tell k c x) c) c x
 else if x.fPa = true/\fLa.done k.fFa x.fAb = false then k
 else if (PK.do_ k.p x.fGa x.fc).1.2 = true then ends { k with p:=(PK.do_ k.p x.fGa x.fc).2 } c x (PK.do_ k.p x.fGa x.fc).1.1 jg
 else { k with p:=(PK.do_ k.p x.fGa x.fc).2 }
def step (k:KK) (c:Int):Bool × KK :=
 if busy k c = false then (false,k) else match call k c with
 | none=>(false,k)
 | some x=>(true,work (tick k) c x)
def post (k:KK) (c:Int):Bool × KK :=
 if is k c = false then (false,k) else if (Mail.take k.fKa c).1.2 = false then (false,k)
 else (true,{ clean { tick k with fKa:=(Mail.take k.fKa c).2 } c with fFa:=(fLa.ack k.fFa c (Mail.take k.fKa c).1.1).2 })
def mail (k:KK) (c:Int):Int:=if is k c = true then Mail.waits k.fKa c else 0
def lines (k:KK) (c:Int):List jO:=if is k c = true then Tlb.lines (buf k c) else []
def new (s:eR):KK:=⟨PK.new s,replicate s.fWa.toNat tlb0,replicate s.fWa.toNat [],([],replicate s.fWa.toNat 0),replicate s.fWa.toNat none,[],0⟩
end KK
structure np (n:Nat) (l:List Int):Prop where
 up:l.Pairwise (· < ·)
 lo:∀ x ∈ l,1 <= x
 hi:∀ x ∈ l,x <= n
structure KK.Ok (k:KK):Prop where
 p:PK.Ok k.p
 tl:(k.fNa.length:Int) = k.p.s.fWa
 bl:(k.fKa.length:Int) = k.p.s.fWa
 el:(k.fFa.2.length:Int) = k.p.s.fWa
 cl:(k.calls.length:Int) = k.p.s.fWa
 cs:∀ x,some x ∈ k.calls->0 <= x.fat/\x.fat < k.events.length/\0 <= x.fGa/\x.fGa < k.p.s.fJa
 n0:0 <= k.now
 evn:(k.events.length:Int) <= k.now
 epn:(k.fFa.1.length:Int) <= k.now
 bx:∀ l ∈ k.fKa,np k.fFa.1.length l
theorem box_len {n:Nat} {l:List Int} (h:np n l):l.length <= n:=by
 have key:∀ (l:List Int) (a:Int),l.Pairwise (· < ·)->(∀ x ∈ l,a < x)->(∀ x ∈ l,x <= n)->(l.length:Int) <= max 0 (n - a):=by
  intro l
  induction l with
  | nil=>intro a _ _ _; simp; omega
  | cons b l ih =>
   intro a hp hl hh;obtain ⟨h1,h2⟩:=List.pairwise_cons.1 hp;have:=ih b h2 (fun x hx=>h1 x hx) (fun x hx=>hh x (by simp [hx]));have:=hl b (by simp);have:=hh b (by simp);simp only [List.length_cons]; omega
 have:=key l 0 h.up (fun x hx=>by have:=h.lo x hx; omega) h.hi;omega
theorem box_fit {n:Nat} {l:List Int} (h:np n l) (hn:n < 2 ^ 40):Mail.Fit l ((n:Int) + 1) :=
 ⟨fun x hx=>by have:=h.hi x hx; omega,h.up,by have:=box_len h; omega⟩
theorem box_more {n m:Nat} {l:List Int} (h:np n l) (hn:n <= m):np m l:=⟨h.up,h.lo,fun x hx=>by have:=h.hi x hx; omega⟩
theorem box_push {n:Nat} {l:List Int} (h:np n l):np (n + 1) (l++[(n:Int) + 1]):=by
 refine ⟨List.pairwise_append.2 ⟨h.up,List.pairwise_singleton _ _,fun a ha b hb=>?_⟩,fun x hx=>?_,fun x hx=>?_⟩
 ·rw [List.mem_singleton.1 hb]; have:=h.hi a ha; omega
 ·rcases List.mem_append.1 hx with h1 | h1
  ·exact h.lo x h1
  ·rw [List.mem_singleton.1 h1]; omega
 ·rcases List.mem_append.1 hx with h1 | h1
  ·have:=h.hi x h1; omega
  ·rw [List.mem_singleton.1 h1]; omega
theorem box_drop {n:Nat} {l:List Int} (h:np n l):np n (l.drop 1) :=
 ⟨h.up.sublist (List.drop_sublist 1 l),fun x hx=>h.lo x (List.mem_of_mem_drop hx),fun x hx=>h.hi x (List.mem_of_mem_drop hx)⟩
theorem boxes_set {bs:Mail.S} {n:Nat} (h:∀ l ∈ bs,np n l) (i:Nat) {b:List Int} (hb:np n b):∀ l ∈ bs.set i b,np n l:=by
 intro l hl;rcases List.mem_or_eq_of_mem_set hl with h1 | h1
 ·exact h l h1
 ·subst h1; exact hb
theorem box_of {bs:Mail.S} {n:Nat} (h:∀ l ∈ bs,np n l) (c:Int):np n (Mail.box bs c):=by
 unfold Mail.box;by_cases hi:c.toNat < bs.length
 ·simp [hi]; exact h _ (getElem_mem hi)
 ·simp [getD_eq_getElem?_getD,List.getElem?_eq_none (Nat.le_of_not_lt hi)];exact ⟨.nil,fun x hx=>(by cases hx),fun x hx=>(by cases hx)⟩
theorem boxes_send {bs:Mail.S} {n:Nat} (f t:Int) (h:∀ l ∈ bs,np (n + 1) l) (ht:np n (Mail.box bs t)):∀ l ∈ (Mail.send bs f t ((n:Int) + 1)).2,np (n + 1) l:=by
 unfold Mail.send;split
 ·exact boxes_set h _ (box_push ht)
 ·exact h
theorem boxes_sends {bs:Mail.S} {n:Nat} (f:Int) (h:∀ l ∈ bs,np n l):∀ j,j <= bs.length->∀ l ∈ (Mail.sends bs f ((n:Int) + 1) j).2,np (n + 1) l
 | 0,_=>fun l hl=>box_more (h l hl) (by omega)
 | j + 1,hj=>by
  have ih:=boxes_sends f h j (by omega);have hb:Mail.box (Mail.sends bs f ((n:Int) + 1) j).2 j = Mail.box bs j:=by
   unfold Mail.box;rw [Int.toNat_natCast,getD_eq_getElem?_getD,getD_eq_getElem?_getD,Mail.sends_ge bs f _ j j (Nat.le_refl _)]
  have:=boxes_send f (j:Int) ih (by rw [hb]; exact box_of h _);unfold Mail.sends;split <;> exact this
theorem wrapN {n:Int} (h0:0 <= n) (h1:n < 2 ^ 40):i64.wrap (n + 1) = n + 1:=bm (by omega) (by omega)
theorem calls_set {k:KK} (ok:KK.Ok k) (i:Nat) {o:Option KC} {n:Int} (hn:(k.events.length:Int) <= n) (ho:∀ x,o = some x->0 <= x.fat/\x.fat < n/\0 <= x.fGa/\x.fGa < k.p.s.fJa):∀ x,some x ∈ k.calls.set i o->0 <= x.fat/\x.fat < n/\0 <= x.fGa/\x.fGa < k.p.s.fJa:=by
 intro x hx;rcases List.mem_or_eq_of_mem_set hx with h1 | h1
 ·have:=ok.cs x h1; omega
 ·exact ho x h1.symm
theorem kok_new {s:eR} (h:PK.sized s = true):KK.Ok (KK.new s):=by
 have hs:=fV.1 h;refine ⟨ok_new h,?_,?_,?_,?_,?_,le_refl _,le_refl _,le_refl _,?_⟩
 ·simp [KK.new,PK.new]; omega
 ·simp [KK.new,PK.new]; omega
 ·simp [KK.new,PK.new]; omega
 ·simp [KK.new,PK.new]; omega
 ·intro x hx;have:=(List.mem_replicate.1 hx).2;cases this
 ·intro l hl;rw [(List.mem_replicate.1 hl).2];exact ⟨.nil,fun x hx=>(by cases hx),fun x hx=>(by cases hx)⟩
theorem kok_begin {k:KK} (ok:KK.Ok k) (hn:k.now < 2 ^ 40) (core env:Int) (c:cK):KK.Ok (KK.begin_ k core env c).2:=by
 unfold KK.begin_;split
 ·exact ok
 ·rename_i h;have h1:=ok.n0;have h2:=ok.evn;have h3:=ok.epn;simp at h;have hw:=wrapN h1 hn;refine ⟨ok.p,ok.tl,ok.bl,ok.el,by simpa using ok.cl,?_,by simp only [hw]; omega,by simp only [hw,List.length_append,List.length_singleton]; omega,by simp only [hw]; omega,ok.bx⟩;simp only [List.length_append,List.length_singleton];refine calls_set ok _ (by omega) fun x hx=>?_;cases hx;simp only; omega
theorem kok_tick {k:KK} (ok:KK.Ok k) (hn:k.now < 2 ^ 40):KK.Ok (KK.tick k):=by
 have h1:=ok.n0;have h2:=ok.evn;have h3:=ok.epn;have hw:=wrapN h1 hn;unfold KK.tick;exact ⟨ok.p,ok.tl,ok.bl,ok.el,ok.cl,ok.cs,by simp only [hw]; omega,by simp only [hw]; omega,by simp only [hw]; omega,ok.bx⟩
theorem kok_tlbs {k:KK} (ok:KK.Ok k) (i:Nat) (b:Buf):KK.Ok { k with fNa:=k.fNa.set i b }:=⟨ok.p,by simpa using ok.tl,ok.bl,ok.el,ok.cl,ok.cs,ok.n0,ok.evn,ok.epn,ok.bx⟩
theorem kok_p {k:KK} (ok:KK.Ok k) {p:PK} (h:PK.Ok p) (hs:p.s = k.p.s):KK.Ok { k with p:=p } :=
 ⟨h,by rw [hs]; exact ok.tl,by rw [hs]; exact ok.bl,by rw [hs]; exact ok.el,by rw [hs]; exact ok.cl,by rw [hs]; exact ok.cs,ok.n0,ok.evn,ok.epn,ok.bx⟩
theorem kok_ends {k:KK} (ok:KK.Ok k) (c:Int) (x:KC) (a:eQ) (l:jO):KK.Ok (KK.ends k c x a l):=by
 unfold KK.ends;refine ⟨ok.p,ok.tl,ok.bl,ok.el,by simpa using ok.cl,?_,ok.n0,by simpa using ok.evn,ok.epn,ok.bx⟩;simp only [length_set];exact calls_set ok _ (le_refl _) fun x hx=>by cases hx
theorem touch_s (k:PK) (f:Int) (c:cK):(PK.touch k f c).2.s = k.s:=by
 unfold PK.touch
 repeat' split
 all_goals rfl
theorem alloc_s (k:PK) (e s:Int):(PK.alloc k e s).2.s = k.s:=by
 unfold PK.alloc
 repeat' split
 all_goals rfl
theorem derive_s (k:PK) (e a b c d:Int):(PK.derive k e a b c d).2.s = k.s:=by
 unfold PK.derive
 repeat' split
 all_goals rfl
theorem gone_size (f:Int):∀ (l:List bX) (k:PK),(PK.gone k f l).s = k.s
 | [],_=>rfl
 | _::l,_=>by rw [PK.gone,gone_size f l]
theorem revoke_s (k:PK) (e s:Int) (w:Bool):(PK.revoke k e s w).2.s = k.s:=by
 unfold PK.revoke;split
 ·rfl
 ·split <;> simp only [gone_size]
theorem maps_s (k:PK) (e a b c:Int):(PK.maps k e a b c).2.s = k.s:=by
 unfold PK.maps
 repeat' split
 all_goals rfl
theorem protect_s (k:PK) (e a b:Int):(PK.protect k e a b).2.s = k.s:=by
 unfold PK.protect
 repeat' split
 all_goals rfl
theorem user_s (k:PK) (e:Int) (c:cK):(PK.user k e c).2.s = k.s:=by
 unfold PK.user; split
 ·rfl
 ·exact touch_s _ _ _
theorem does_s (k:PK) (e:Int) (c:cK):(PK.does k e c).2.s = k.s:=by
 unfold PK.does PK.errs
 repeat' split
 all_goals first | rfl | exact alloc_s _ _ _ | exact derive_s _ _ _ _ _ _ | exact revoke_s _ _ _ _ | exact maps_s _ _ _ _ _ | exact protect_s _ _ _ _ | exact user_s _ _ _
theorem do_s (k:PK) (e:Int) (c:cK):(PK.do_ k e c).2.s = k.s:=by
 unfold PK.do_; split
 ·rfl
 ·split
  ·rfl
  ·exact does_s _ _ _
theorem kok_access {k:KK} (ok:KK.Ok k) (c:Int) (x:KC):KK.Ok (KK.access k c x).2:=by
 unfold KK.access;split
 ·exact ok
 ·split
  ·exact kok_tlbs ok _ _
  ·have h1:=kok_tlbs ok c.toNat (KK.fBb k c x).2;exact kok_p h1 (ok_touch ok.p _ _) (touch_s _ _ _)
theorem kok_clean {k:KK} (ok:KK.Ok k) (c:Int):KK.Ok (KK.clean k c):=kok_tlbs ok _ _
theorem call_ok {k:KK} (ok:KK.Ok k) {c:Int} {x:KC} (h:KK.call k c = some x):0 <= x.fat/\x.fat < k.events.length/\0 <= x.fGa/\x.fGa < k.p.s.fJa:=by
 refine ok.cs x ?_;unfold KK.call at h;by_cases hi:c.toNat < k.calls.length
 ·simp [hi] at h; rw [← h]; exact getElem_mem hi
 ·simp [getD_eq_getElem?_getD,List.getElem?_eq_none (Nat.le_of_not_lt hi)] at h
theorem kok_call {k:KK} (ok:KK.Ok k) (c:Int) {x y:KC} (h:KK.call k c = some x) (h1:y.fat = x.fat) (h2:y.fGa = x.fGa):KK.Ok { k with calls:=k.calls.set c.toNat (some y) }:=by
 have hc:=call_ok ok h;refine ⟨ok.p,ok.tl,ok.bl,ok.el,by simpa using ok.cl,calls_set ok _ (le_refl _) fun z hz=>?_,ok.n0,ok.evn,ok.epn,ok.bx⟩;cases hz;show 0 <= y.fat/\y.fat < (k.events.length:Int)/\0 <= y.fGa/\y.fGa < k.p.s.fJa;omega
theorem call_set_same {k:KK} {c:Int} {x y:KC} (h:KK.call k c = some x):({ k with calls:=k.calls.set c.toNat (some y) }:KK).call c = some y:=by
 unfold KK.call at h ⊢;by_cases hi:c.toNat < k.calls.length
 ·simp [hi]
 ·simp [getD_eq_getElem?_getD,List.getElem?_eq_none (Nat.le_of_not_lt hi)] at h
theorem kok_send {k:KK} (ok:KK.Ok k) (hn:(k.fFa.1.length:Int) + 1 <= k.now) {c:Int} {x:KC} (hc:KK.call k c = some { x with fPa:=true }) (hi:KK.is k c = true):KK.Ok (KK.send k c x):=by
 have hc':=call_ok ok hc;simp only at hc';have he:fLa.is k.fFa c = true:=by
  unfold KK.is at hi;have h1:=of_decide_eq_true hi;have:=ok.el;have:=ok.cl;unfold fLa.is;exact decide_eq_true (by omega)
 have eb:fLa.begin_ k.fFa c = (((k.fFa.1.length:Int) + 1,true),(k.fFa.1++[c],k.fFa.2)):=if_pos he;unfold KK.send;rw [eb];refine ⟨ok.p,ok.tl,by rw [← ok.bl]; simp only [Mail.sends_len],ok.el,by simpa using ok.cl,calls_set ok _ (le_refl _) fun z hz=>?_,ok.n0,ok.evn,by simp; omega,?_⟩
 ·cases hz; exact hc'
 ·simp only [List.length_append,List.length_singleton];exact boxes_sends c ok.bx _ (Nat.le_refl _)
theorem kok_work {k:KK} (ok:KK.Ok k) (hn:(k.fFa.1.length:Int) + 1 <= k.now) {c:Int} {x:KC} (hc:KK.call k c = some x) (hi:KK.is k c = true):KK.Ok (KK.work k c x):=by
 unfold KK.work;split
 ·exact kok_ends (kok_access ok c x) _ _ _ _
 ·split
  ·refine kok_send (kok_clean (kok_call ok c hc (y:={ x with fPa:=true }) rfl rfl) c) hn ?_ ?_
   ·exact call_set_same hc
   ·unfold KK.is at hi ⊢;show decide (0 <= c/\c < ((k.calls.set c.toNat _).length:Int)) = true;rw [length_set]; exact hi
  ·split
   ·exact ok
   ·split
    ·exact kok_ends (kok_p ok (ok_do ok.p _ _) (do_s _ _ _)) _ _ _ _
    ·exact kok_p ok (ok_do ok.p _ _) (do_s _ _ _)
theorem busy_is {k:KK} {c:Int} (h:KK.busy k c = true):KK.is k c = true/\∃ x,KK.call k c = some x:=by
 unfold KK.busy at h;rw [Bool.and_eq_true,Option.isSome_iff_exists] at h;exact h
theorem kok_post {k:KK} (ok:KK.Ok k) (hn:k.now < 2 ^ 40) (c:Int):KK.Ok (KK.post k c).2:=by
 unfold KK.post;split
 ·exact ok
 ·split
  ·exact ok
  ·have o1:=kok_tick ok hn;have hb:∀ l ∈ (Mail.take k.fKa c).2,np k.fFa.1.length l:=by
    unfold Mail.take; split
    ·exact ok.bx
    ·exact boxes_set ok.bx _ (box_drop (box_of ok.bx c))
   have hbl:(Mail.take k.fKa c).2.length = k.fKa.length:=by unfold Mail.take; split <;> simp
   have ha:(fLa.ack k.fFa c (Mail.take k.fKa c).1.1).2.1 = k.fFa.1/\(fLa.ack k.fFa c (Mail.take k.fKa c).1.1).2.2.length = k.fFa.2.length:=by
    unfold fLa.ack; split <;> simp
   refine ⟨ok.p,?_,?_,?_,ok.cl,ok.cs,o1.n0,o1.evn,?_,?_⟩
   ·simp only [KK.clean,KK.tick,length_set]; exact ok.tl
   ·simp only [KK.clean,KK.tick,hbl]; exact ok.bl
   ·simp only [KK.clean,KK.tick,ha.2]; exact ok.el
   ·show ((fLa.ack k.fFa c (Mail.take k.fKa c).1.1).2.1.length:Int) <= _;rw [ha.1]; exact o1.epn
   ·show ∀ l ∈ (Mail.take k.fKa c).2,np (fLa.ack k.fFa c (Mail.take k.fKa c).1.1).2.1.length l;rw [ha.1]; exact hb
end
section
open Go Mb
namespace Tlb
theorem ln_set {ls:List TL} (hl:ls.length = 8) {n:Nat} (hn:n < 8) (y:TL) (i:Nat):ln (ls.set n y) i = if i = n then y else ln ls i:=by
 simp only [ln,getD_eq_getElem?_getD,List.getElem?_set];by_cases e:n = i
 ·subst e; simp [hl,hn]
 ·rw [if_neg e,if_neg (fun h=>e h.symm)]
abbrev bs (p:Int):Nat:=(p.tmod 4).toNat * 2
theorem bs_lt {p:Int} (h:0 <= p):bs p + 1 < 8:=by
 obtain ⟨q,h1,h2⟩:=tmod4 h;unfold bs; rw [h1]; simp; omega
theorem at_iff {ls:List TL} {e p:Int} {n:Nat}:at_ ls e p = some n↔(0 <= e/\0 <= p/\p < 8)/\(n = bs p/\hit ls e p (bs p)\/n = bs p + 1/\hit ls e p (bs p + 1)/\¬ hit ls e p (bs p)):=by
 unfold at_;by_cases h:e < 0\/p < 0\/p >= 8
 ·rw [if_pos h];constructor
  ·intro x; cases x
  ·rintro ⟨x,_⟩; omega
 ·rw [if_neg h];by_cases h1:hit ls e p (bs p)
  ·rw [if_pos h1];constructor
   ·intro x; cases x; exact ⟨by omega,.inl ⟨rfl,h1⟩⟩
   ·rintro ⟨_,⟨rfl,_⟩ | ⟨_,_,h2⟩⟩
    ·rfl
    ·exact absurd h1 h2
  ·rw [if_neg h1];by_cases h2:hit ls e p (bs p + 1)
   ·rw [if_pos h2];constructor
    ·intro x; cases x; exact ⟨by omega,.inr ⟨rfl,h2,h1⟩⟩
    ·rintro ⟨_,⟨_,h3⟩ | ⟨rfl,_⟩⟩
     ·exact absurd h3 h1
     ·rfl
   ·rw [if_neg h2];constructor
    ·intro x; cases x
    ·rintro ⟨_,⟨_,h3⟩ | ⟨_,h3,_⟩⟩
     ·exact absurd h3 h1
     ·exact absurd h3 h2
theorem at_hit {ls:List TL} {e p:Int} {n:Nat} (h:at_ ls e p = some n):(ln ls n).fl.fCa = e/\(ln ls n).fl.fOa = p:=by
 rcases (at_iff.1 h).2 with ⟨e1,h1⟩ | ⟨e1,h1,_⟩
 ·rw [e1]; exact h1
 ·rw [e1]; exact h1
structure TOk (t:Buf):Prop where
 len:t.1.length = 8
 at_:∀ i,i < 8->0 <= (ln t.1 i).fl.fCa->at_ t.1 (ln t.1 i).fl.fCa (ln t.1 i).fl.fOa = some i
theorem mem_lines {t:Buf} (h:t.1.length = 8) {l:jO}:l ∈ lines t↔∃ i,i < 8/\l = (ln t.1 i).fl:=by
 unfold lines;rw [List.mem_map];constructor
 ·rintro ⟨x,hx,rfl⟩;obtain ⟨i,hi,rfl⟩:=List.getElem_of_mem hx;exact ⟨i,by omega,by simp [ln,hi]⟩
 ·rintro ⟨i,hi,rfl⟩;have:i < t.1.length:=by omega
  exact ⟨t.1[i],getElem_mem this,by simp [ln,this]⟩
theorem tok_new:TOk tlb0:=by
 refine ⟨rfl,fun i hi h=>?_⟩;have key:∀ i,i < 8->(ln tlb0.1 i).fl.fCa = -1:=by decide
 rw [key i hi] at h;exact absurd h (by decide)
theorem tok_clear {t:Buf} (h:TOk t) {n:Nat} (hn:n < 8) {y:TL} (hy:y.fl.fCa < 0) (m:Int):TOk (t.1.set n y,m):=by
 refine ⟨by simpa using h.len,fun i hi he=>?_⟩;simp only at he ⊢;rw [ln_set h.len hn] at he ⊢;by_cases e:i = n
 ·rw [if_pos e] at he; omega
 ·rw [if_neg e] at he ⊢;have h1:=at_iff.1 (h.at_ i hi he);have keep:∀ j,hit (t.1.set n y) (ln t.1 i).fl.fCa (ln t.1 i).fl.fOa j↔j ≠ n/\hit t.1 (ln t.1 i).fl.fCa (ln t.1 i).fl.fOa j:=by
   intro j;unfold hit;rw [ln_set h.len hn];by_cases ej:j = n
   ·rw [if_pos ej];constructor
    ·intro x; omega
    ·intro x; exact absurd ej x.1
   ·rw [if_neg ej]; simp [ej]
  refine at_iff.2 ⟨h1.1,?_⟩;rcases h1.2 with ⟨a,b⟩ | ⟨a,b,c⟩
  ·exact .inl ⟨a,(keep _).2 ⟨a ▸ e,b⟩⟩
  ·exact .inr ⟨a,(keep _).2 ⟨a ▸ e,b⟩,fun x=>c ((keep _).1 x).2⟩
theorem flush_eq {t:Buf} {e p:Int}:flush t e p = (match at_ t.1 e p with | some n=>(true,t.1.set n { ln t.1 n with fl:=gA },t.2) | none=>(false,t)):=rfl
theorem lines_clear {t:Buf} (h:TOk t) {n:Nat} (hn:n < 8) {y:TL} (hy:y.fl.fCa < 0) {m:Int} {l:jO} (hl:l ∈ lines (t.1.set n y,m)) (he:0 <= l.fCa):∃ i,i < 8/\i ≠ n/\l = (ln t.1 i).fl:=by
 obtain ⟨i,hi,rfl⟩:=(mem_lines (by simpa using h.len)).1 hl;simp only at he ⊢;rw [ln_set h.len hn] at he ⊢;by_cases e:i = n
 ·rw [if_pos e] at he; omega
 ·rw [if_neg e]; exact ⟨i,hi,e,rfl⟩
theorem tok_flush {t:Buf} (h:TOk t) (e p:Int):TOk (flush t e p).2:=by
 rw [flush_eq];split
 ·rename_i n hn;exact tok_clear h (at_lt hn) (by show (-1:Int) < 0; omega) _
 ·exact h
theorem lines_flush {t:Buf} (h:TOk t) {e p:Int} {l:jO} (hl:l ∈ lines (flush t e p).2) (he:0 <= l.fCa):l ∈ lines t/\¬ (l.fCa = e/\l.fOa = p):=by
 rw [flush_eq] at hl;split at hl
 ·rename_i n hn;obtain ⟨i,hi,hne,rfl⟩:=lines_clear h (at_lt hn) (by show (-1:Int) < 0; omega) hl he;refine ⟨(mem_lines h.len).2 ⟨i,hi,rfl⟩,?_⟩;rintro ⟨rfl,rfl⟩;have:=h.at_ i hi he;rw [hn] at this;exact hne (Option.some.inj this).symm
 ·rename_i hn;refine ⟨hl,?_⟩;rintro ⟨rfl,rfl⟩;obtain ⟨i,hi,rfl⟩:=(mem_lines h.len).1 hl;rw [h.at_ i hi he] at hn;cases hn
theorem room_in (ls:List TL) (p:Int):room ls (bs p) = bs p\/room ls (bs p) = bs p + 1:=by
 unfold room; repeat' split
 all_goals simp
theorem place_in {ls:List TL} {a:jO} (hp:0 <= a.fOa):place ls a = bs a.fOa\/place ls a = bs a.fOa + 1:=by
 unfold place;split
 ·rename_i n hn;rcases (at_iff.1 hn).2 with h | h
  ·exact .inl h.1
  ·exact .inr h.1
 ·exact room_in ls a.fOa
theorem tok_fill {t:Buf} (h:TOk t) (a:jO):TOk (fill t a).2/\∀ l ∈ lines (fill t a).2,0 <= l.fCa->l = a/\¬ bad a\/l ∈ lines t:=by
 unfold fill;split
 ·exact ⟨h,fun l hl _=>.inr hl⟩
 ·rename_i hb;have hb':0 <= a.fCa/\0 <= a.fOa/\a.fOa < 8:=by unfold bad at hb; omega
  have hpl:=place_in (ls:=t.1) hb'.2.1;have hbs:=bs_lt hb'.2.1;have hn:place t.1 a < 8:=by omega
  have eI:=ln_set h.len hn (⟨a,i64.wrap (t.2 + 1)⟩:TL);have other:∀ i,i < 8->i ≠ place t.1 a->0 <= (ln t.1 i).fl.fCa->¬ ((ln t.1 i).fl.fCa = a.fCa/\(ln t.1 i).fl.fOa = a.fOa):=by
   rintro i hi hne he ⟨e1,e2⟩;have:=h.at_ i hi he;rw [e1,e2] at this;unfold place at hne;rw [this] at hne;exact hne rfl
  refine ⟨⟨by simpa using h.len,fun i hi he=>?_⟩,fun l hl he=>?_⟩
  ·simp only at he ⊢;rw [eI] at he ⊢;by_cases e:i = place t.1 a
   ·rw [if_pos e] at he ⊢;refine at_iff.2 ⟨hb',?_⟩;have hself:hit (t.1.set (place t.1 a) ⟨a,i64.wrap (t.2 + 1)⟩) a.fCa a.fOa (place t.1 a):=by unfold hit; rw [eI,if_pos rfl]; exact ⟨rfl,rfl⟩
    rcases hpl with h1 | h1
    ·exact .inl ⟨e.trans h1,by rw [h1] at hself ⊢; exact hself⟩
    ·refine .inr ⟨e.trans h1,by rw [h1] at hself ⊢; exact hself,fun hx=>?_⟩;have hx:hit (t.1.set (place t.1 a) ⟨a,i64.wrap (t.2 + 1)⟩) a.fCa a.fOa (bs a.fOa):=hx;unfold hit at hx;rw [eI,if_neg (by rw [h1]; omega)] at hx;exact other _ (by omega) (by rw [h1]; omega) (by rw [hx.1]; exact hb'.1) hx
   ·rw [if_neg e] at he ⊢;have h1:=at_iff.1 (h.at_ i hi he);have ho:=other i hi e he;have keep:∀ j,hit (t.1.set (place t.1 a) ⟨a,i64.wrap (t.2 + 1)⟩) (ln t.1 i).fl.fCa (ln t.1 i).fl.fOa j↔j ≠ place t.1 a/\hit t.1 (ln t.1 i).fl.fCa (ln t.1 i).fl.fOa j:=by
     intro j;unfold hit;rw [eI];by_cases ej:j = place t.1 a
     ·rw [if_pos ej];constructor
      ·rintro ⟨x,y⟩; exact absurd ⟨x.symm,y.symm⟩ ho
      ·intro x; exact absurd ej x.1
     ·rw [if_neg ej]; simp [ej]
    refine at_iff.2 ⟨h1.1,?_⟩;rcases h1.2 with ⟨x,y⟩ | ⟨x,y,z⟩
    ·exact .inl ⟨x,(keep _).2 ⟨x ▸ e,y⟩⟩
    ·exact .inr ⟨x,(keep _).2 ⟨x ▸ e,y⟩,fun u=>z ((keep _).1 u).2⟩
  ·obtain ⟨i,hi,rfl⟩:=(mem_lines (by simpa using h.len)).1 hl;simp only at he ⊢;rw [eI] at he ⊢;by_cases e:i = place t.1 a
   ·rw [if_pos e]; exact .inl ⟨rfl,hb⟩
   ·rw [if_neg e]; exact .inr ((mem_lines h.len).2 ⟨i,hi,rfl⟩)
theorem find_in {t:Buf} (h:TOk t) {e p:Int} (hf:(find t.1 e p).2 = true):(find t.1 e p).1 ∈ lines t/\(find t.1 e p).1.fCa = e/\(find t.1 e p).1.fOa = p/\0 <= e:=by
 unfold find at hf ⊢;split at hf
 ·rename_i n hn;simp only [hn];have:=at_hit hn;exact ⟨(mem_lines h.len).2 ⟨n,at_lt hn,rfl⟩,this.1,this.2,(at_iff.1 hn).1.1⟩
 ·cases hf
end Tlb
theorem cleans_spec (k:KK):∀ (L:List jO) {b:Buf},Tlb.TOk b->Tlb.TOk (KK.cleans k L b)/\∀ l ∈ Tlb.lines (KK.cleans k L b),0 <= l.fCa->l ∈ Tlb.lines b/\∀ d ∈ L,KK.stale k d = true->¬ (l.fCa = d.fCa/\l.fOa = d.fOa)
 | [],b,h=>⟨h,fun l hl _=>⟨hl,fun d hd=>by cases hd⟩⟩
 | d::L,b,h=>by
  rw [KK.cleans];split
  ·rename_i hs;have h1:=Tlb.tok_flush h d.fCa d.fOa;obtain ⟨i1,i2⟩:=cleans_spec k L h1;refine ⟨i1,fun l hl he=>?_⟩;obtain ⟨j1,j2⟩:=i2 l hl he;obtain ⟨k1,k2⟩:=Tlb.lines_flush h j1 he;refine ⟨k1,fun x hx hsx=>?_⟩;rcases mem_cons.1 hx with rfl | hx
   ·exact k2
   ·exact j2 x hx hsx
  ·rename_i hs;obtain ⟨i1,i2⟩:=cleans_spec k L h;refine ⟨i1,fun l hl he=>?_⟩;obtain ⟨j1,j2⟩:=i2 l hl he;refine ⟨j1,fun x hx hsx=>?_⟩;rcases mem_cons.1 hx with rfl | hx
   ·exact absurd hsx hs
   ·exact j2 x hx hsx
theorem cleans_all {k:KK} {b:Buf} (h:Tlb.TOk b):Tlb.TOk (KK.cleans k (Tlb.lines b) b)/\∀ l ∈ Tlb.lines (KK.cleans k (Tlb.lines b) b),0 <= l.fCa->l ∈ Tlb.lines b/\KK.stale k l = false:=by
 obtain ⟨h1,h2⟩:=cleans_spec k (Tlb.lines b) h;refine ⟨h1,fun l hl he=>?_⟩;obtain ⟨a,c⟩:=h2 l hl he;refine ⟨a,?_⟩;cases hs:KK.stale k l with
 | false=>rfl
 | true=>exact absurd ⟨rfl,rfl⟩ (c l a hs)
end
section
open Go Mb
theorem may3 {r:Int} (h:1 <= r/\r <= 3):r = 1\/r = 2\/r = 3:=by omega
theorem within_and {a b c:Int} (hb:1 <= b/\b <= 3) (hc:1 <= c/\c <= 3):aO a (iand .i64 b c) = true↔aO a b = true/\aO a c = true:=by
 by_cases ha:1 <= a/\a <= 3
 ·rcases may3 ha with rfl | rfl | rfl <;> rcases may3 hb with rfl | rfl | rfl <;> rcases may3 hc with rfl | rfl | rfl <;> decide
 ·constructor
  ·intro h; exact absurd (da h).1 ha
  ·intro h; exact absurd (da h.1).1 ha
theorem iand_le {b c:Int} (hb:1 <= b/\b <= 3) (hc:1 <= c/\c <= 3):0 <= iand .i64 b c/\iand .i64 b c <= 3:=by
 rcases may3 hb with rfl | rfl | rfl <;> rcases may3 hc with rfl | rfl | rfl <;> decide
theorem within_refl {a:Int} (h:1 <= a/\a <= 3):aO a a = true:=by rcases may3 h with rfl | rfl | rfl <;> decide
theorem within_trans {a b c:Int} (h1:aO a b = true) (h2:aO b c = true):aO a c = true:=by
 have e1:=da h1;have e2:=da h2
 revert h1 h2
 rcases may3 e1.1 with rfl | rfl | rfl <;> rcases may3 e1.2 with rfl | rfl | rfl <;> rcases may3 e2.2 with rfl | rfl | rfl <;> decide
structure Cov (p:Pte) (l:jO):Prop where
 f:p.fEa = l.fEa
 w:aO l.fBa p.fBa = true
theorem Cov.r {p:Pte} {l:jO} (h:Cov p l):1 <= p.fBa/\p.fBa <= 3:=(da h.w).2
theorem not_cov0 {l:jO}:¬ Cov dc l:=fun h=>by have:=h.r; simp at this
structure Stay (p:PK) (e:Int) (c:cK) (a pg s r:Int):Prop where
 s7:c.e0 = 7->¬ (e = a/\c.e1 = pg)
 s8:c.e0 = 8->e = a->c.e1 = pg->aO c.e2 (fAa.get p.caps a s).fBa = true->aO r c.e2 = true
 s4:c.e0 = 4\/c.e0 = 5->PK.gz p e c a s = false
theorem Stay.keep {p p':PK} {e:Int} {c:cK} {a pg s r:Int} (h:Stay p e c a pg s r) (k:fAa.Keep p.caps p'.caps a s) (hl:p'.caps.length = p.caps.length):Stay p' e c a pg s r:=by
 refine ⟨h.s7,fun h1 h2 h3 h4=>h.s8 h1 h2 h3 (by rw [← k.g]; exact h4),fun h1=>?_⟩;have:=h.s4 h1;unfold PK.gz at this ⊢;have hh:fAa.has p'.caps a s = fAa.has p.caps a s:=by unfold fAa.has; rw [hl]
 rw [hh,k.g,k.u];exact this
theorem aft_cov {p:PK} {e:Int} {c:cK} {a pg:Int} {l:jO} (ht:Tk c) (hc:Cov (PK.q p a pg) l) (hs:Stay p e c a pg (PK.q p a pg).fDa l.fBa):Cov (PK.aft p e c a pg) l/\(PK.aft p e c a pg).fDa = (PK.q p a pg).fDa:=by
 unfold PK.aft;by_cases h7:c.e0 = 7
 ·rw [if_pos h7,if_neg (hs.s7 h7)]; exact ⟨hc,rfl⟩
 ·rw [if_neg h7];by_cases h8:c.e0 = 8
  ·rw [if_pos h8];split
   ·rename_i h;obtain ⟨⟨rfl,rfl⟩,h1,h2⟩:=h;exact ⟨⟨hc.f,hs.s8 h8 rfl rfl h2⟩,rfl⟩
   ·exact ⟨hc,rfl⟩
  ·rw [if_neg h8,if_neg]
   ·exact ⟨hc,rfl⟩
   ·rintro ⟨_,h⟩;rw [hs.s4 (by unfold Tk at ht; omega)] at h;cases h
theorem at_rights {t:fAa.T} {e s:Int} (h:fAa.has t e s = true):(fAa.at_ t e s).1.fBa = (fAa.get t e s).fBa:=by
 unfold fAa.at_;by_cases hr:(fAa.get t e s).fBa ≠ 0
 ·rw [if_pos ⟨h,hr⟩]
 ·rw [if_neg (fun x=>hr x.2)];have:(fAa.get t e s).fBa = 0:=by simpa using hr
  rw [this]
structure Teller (n:Int) (x:KC):Prop where
 t:Tk x.fc
 k:Word.check x.fc n = 0
 w:Cw x.fc
theorem left_cov {p:PK} {x:KC} {a pg:Int} {l:jO} {qq:Pte} (hn:1 <= p.s.fJa/\p.s.fJa <= 4) (T:Teller p.s.fJa x) (hb:fAa.has p.caps a qq.fDa = true) (hq:1 <= qq.fBa/\qq.fBa <= 3) :
  (Cov (KK.left p x a pg qq) l↔Cov qq l/\Stay p x.fGa x.fc a pg qq.fDa l.fBa)/\((KK.left p x a pg qq).fBa ≠ 0->(KK.left p x a pg qq).fDa = qq.fDa/\1 <= (KK.left p x a pg qq).fBa/\(KK.left p x a pg qq).fBa <= 3):=by
 have w:=sY hn.1 hn.2 T.k;have ht:=T.t;have h1:i64.wrap x.fc.e1 = x.fc.e1:=kwr T.w.c1 (by have:=w.w1 (by unfold Tk at ht; omega); omega);have hg:KK.goes p x a qq.fDa = PK.gz p x.fGa x.fc a qq.fDa:=by unfold KK.goes PK.gz; rw [h1]
 unfold KK.left;rw [h1];by_cases h7:x.fc.e0 = 7
 ·rw [if_pos h7];by_cases ho:x.fGa = a/\x.fc.e1 = pg
  ·rw [if_pos ho];refine ⟨⟨fun h=>absurd h not_cov0,fun h=>absurd ho (h.2.s7 h7)⟩,fun h=>absurd rfl h⟩
  ·rw [if_neg ho];refine ⟨⟨fun h=>⟨h,⟨fun _=>ho,fun h8=>by omega,fun h45=>by omega⟩⟩,fun h=>h.1⟩,fun _=>⟨rfl,hq⟩⟩
 ·rw [if_neg h7];by_cases h8:x.fc.e0 = 8
  ·have h5:=w.w5 h8;have h2:i64.wrap x.fc.e2 = x.fc.e2:=kwr T.w.c2 (by omega);rw [if_pos h8,h2,at_rights hb];by_cases ho:(x.fGa = a/\x.fc.e1 = pg)/\aO x.fc.e2 (fAa.get p.caps a qq.fDa).fBa = true
   ·rw [if_pos ho];have hw:=within_and (a:=l.fBa) hq h5;refine ⟨⟨fun h=>?_,fun h=>?_⟩,fun h=>⟨rfl,?_⟩⟩
    ·have h3:=hw.1 h.w;exact ⟨⟨h.f,h3.1⟩,⟨fun h=>by omega,fun _ _ _ _=>h3.2,fun h=>by omega⟩⟩
    ·exact ⟨h.1.f,hw.2 ⟨h.1.w,h.2.s8 h8 ho.1.1 ho.1.2 ho.2⟩⟩
    ·have h6:=iand_le hq h5;have h:iand .i64 qq.fBa x.fc.e2 ≠ 0:=h;show 1 <= iand .i64 qq.fBa x.fc.e2/\iand .i64 qq.fBa x.fc.e2 <= 3;omega
   ·rw [if_neg ho];exact ⟨⟨fun h=>⟨h,⟨fun h=>by omega,fun _ a1 a2 a3=>absurd ⟨⟨a1,a2⟩,a3⟩ ho,fun h=>by omega⟩⟩,fun h=>h.1⟩,fun _=>⟨rfl,hq⟩⟩
  ·rw [if_neg h8,hg];by_cases ho:PK.gz p x.fGa x.fc a qq.fDa = true
   ·rw [if_pos ho];refine ⟨⟨fun h=>absurd h not_cov0,fun h=>?_⟩,fun h=>absurd rfl h⟩;have:=h.2.s4 (by unfold Tk at ht; omega);rw [this] at ho; cases ho
   ·rw [if_neg ho];exact ⟨⟨fun h=>⟨h,⟨fun h=>by omega,fun h=>by omega,fun _=>by simpa using ho⟩⟩,fun h=>h.1⟩,fun _=>⟨rfl,hq⟩⟩
theorem ti {p:PK} {a pg:Int} {l:jO} (hn:1 <= p.s.fJa/\p.s.fJa <= 4):∀ (cs:List (Option KC)) (b:Bool) (qq:Pte),(∀ x,some x ∈ cs->x.fPa = true->Teller p.s.fJa x)->(b = true->fAa.has p.caps a qq.fDa = true/\1 <= qq.fBa/\qq.fBa <= 3) ->
  (((KK.fEb p a pg cs b qq).2 = true/\Cov (KK.fEb p a pg cs b qq).1 l)↔(b = true/\Cov qq l/\∀ x,some x ∈ cs->x.fPa = true->Stay p x.fGa x.fc a pg qq.fDa l.fBa))
 | [],b,qq,_,_=>by simp [KK.fEb]
 | none::cs,b,qq,hT,hb=>by
  rw [KK.fEb,ti hn cs b qq (fun x hx=>hT x (by simp [hx])) hb];simp
 | some x::cs,b,qq,hT,hb=>by
  rw [KK.fEb];by_cases hc:b = true/\x.fPa = true
  ·rw [if_pos hc];obtain ⟨b1,b2⟩:=hb hc.1;obtain ⟨L1,L2⟩:=left_cov (l:=l) (pg:=pg) hn (hT x (by simp) hc.2) b1 b2;have ih:=ti (l:=l) (pg:=pg) hn cs ((KK.left p x a pg qq).fBa != 0) (KK.left p x a pg qq) (fun y hy=>hT y (by simp [hy])) (fun h=>by
    have:=L2 (by simpa using h);rw [this.1]; exact ⟨b1,this.2⟩)
   rw [ih,L1];constructor
   ·rintro ⟨h1,h2,h3⟩;have:=(L2 (by simpa using h1)).1;refine ⟨hc.1,h2.1,fun y hy hty=>?_⟩;rcases mem_cons.1 hy with hy | hy
    ·cases hy; exact h2.2
    ·rw [← this]; exact h3 y hy hty
   ·rintro ⟨_,h2,h3⟩;have hx:=h3 x (by simp) hc.2;have hcov:=L1.2 ⟨h2,hx⟩;have hne:(KK.left p x a pg qq).fBa ≠ 0:=by have:=hcov.r; omega
    refine ⟨by simpa using hne,⟨h2,hx⟩,fun y hy hty=>?_⟩;rw [(L2 hne).1]; exact h3 y (by simp [hy]) hty
  ·rw [if_neg hc,ti hn cs b qq (fun y hy=>hT y (by simp [hy])) hb];constructor
   ·rintro ⟨h1,h2,h3⟩;refine ⟨h1,h2,fun y hy hty=>?_⟩;rcases mem_cons.1 hy with hy | hy
    ·cases hy; exact absurd ⟨h1,hty⟩ hc
    ·exact h3 y hy hty
   ·rintro ⟨h1,h2,h3⟩;exact ⟨h1,h2,fun y hy hty=>h3 y (by simp [hy]) hty⟩
def Tells (k:KK) (d:Nat) (x:KC):Prop:=k.calls[d]? = some (some x)/\x.fPa = true
def fTa (k:KK) (c:Nat):Int:=k.fFa.2.getD c 0
def Hears (k:KK) (c d:Nat) (x:KC):Prop:=c = d\/x.fAb <= fTa k c
def gY (k:KK) (c:Nat):Buf:=k.fNa.getD c ([],0)
structure LineOk (k:KK) (c:Nat) (l:jO):Prop where
 cov:Cov (PK.q k.p l.fCa l.fOa) l
 stay:∀ d x,Tells k d x->Hears k c d x->Stay k.p x.fGa x.fc l.fCa l.fOa (PK.q k.p l.fCa l.fOa).fDa l.fBa
structure fA (k:KK):Prop where
 ok:KK.Ok k
 F:PK.Fine k.p
 cw:∀ (d:Nat) x,k.calls[d]? = some (some x)->Cw x.fc
 told:∀ d x,Tells k d x->(Tk x.fc/\Word.check x.fc k.p.s.fJa = 0)/\1 <= x.fAb/\x.fAb <= k.fFa.1.length/\k.fFa.1[(x.fAb - 1).toNat]? = some (d:Int)
 mail:∀ c n:Nat,c < k.calls.length->n < k.fFa.1.length->k.fFa.1[n]? ≠ some (c:Int)->(n:Int) + 1 <= fTa k c\/((n:Int) + 1) ∈ Mail.box k.fKa c
 hi:∀ c,fTa k c <= k.fFa.1.length
 tok:∀ c,c < k.calls.length->Tlb.TOk (gY k c)
 line:∀ c,c < k.calls.length->∀ l ∈ Tlb.lines (gY k c),0 <= l.fCa->LineOk k c l
theorem fA.teller {k:KK} (I:fA k) {d:Nat} {x:KC} (h:Tells k d x):Teller k.p.s.fJa x:=⟨(I.told d x h).1.1,(I.told d x h).1.2,I.cw d x h.1⟩
theorem fA.en {k:KK} (I:fA k):1 <= k.p.s.fJa/\k.p.s.fJa <= 4:=PK.envs_of I.F.ok
theorem q_slot {p:PK} (F:PK.Fine p) {a pg:Int} (h:(PK.q p a pg).fBa ≠ 0):fAa.has p.caps a (PK.q p a pg).fDa = true/\1 <= (PK.q p a pg).fBa/\(PK.q p a pg).fBa <= 3:=by
 have:=F.by_ a pg h;exact ⟨this.1,(da this.2.2).1⟩
theorem seen_cov {k:KK} (hn:1 <= k.p.s.fJa/\k.p.s.fJa <= 4) (F:PK.Fine k.p) (hT:∀ x,some x ∈ k.calls->x.fPa = true->Teller k.p.s.fJa x) (a pg:Int) (l:jO) :
  ((KK.seen k a pg).2 = true/\Cov (KK.seen k a pg).1 l)↔(Cov (PK.q k.p a pg) l/\∀ x,some x ∈ k.calls->x.fPa = true->Stay k.p x.fGa x.fc a pg (PK.q k.p a pg).fDa l.fBa):=by
 unfold KK.seen;rw [PK.pte_snd];show ((KK.fEb k.p a pg k.calls (decide ((PK.q k.p a pg).fBa ≠ 0)) (PK.q k.p a pg)).2 = true/\Cov (KK.fEb k.p a pg k.calls (decide ((PK.q k.p a pg).fBa ≠ 0)) (PK.q k.p a pg)).1 l)↔_;rw [ti hn k.calls _ _ hT (fun h=>q_slot F (of_decide_eq_true h))];constructor
 ·rintro ⟨_,h⟩; exact h
 ·intro h;exact ⟨decide_eq_true (by have:=h.1.r; omega),h⟩
theorem not_stale {k:KK} {l:jO} (h:KK.stale k l = false) (he:0 <= l.fCa):(KK.seen k l.fCa l.fOa).2 = true/\Cov (KK.seen k l.fCa l.fOa).1 l:=by
 unfold KK.stale at h;rw [decide_eq_true he,Bool.true_and] at h;simp only [Bool.or_eq_false_iff,Bool.not_eq_false',bne_eq_false_iff_eq] at h;exact ⟨h.1.1,⟨h.1.2,h.2⟩⟩
end
section
open Go Mb
theorem calls_mem {k:KK} {x:KC} (h:some x ∈ k.calls):∃ d:Nat,k.calls[d]? = some (some x):=by
 obtain ⟨i,hi,e⟩:=List.getElem_of_mem h;exact ⟨i,by rw [List.getElem?_eq_getElem hi,e]⟩
theorem fA.tell_all {k:KK} (I:fA k):∀ x,some x ∈ k.calls->x.fPa = true->Teller k.p.s.fJa x:=fun _ hx ht=>by
 obtain ⟨d,hd⟩:=calls_mem hx;exact I.teller ⟨hd,ht⟩
theorem heard_new (s:eR) (c:Nat):fTa (KK.new s) c = 0:=by
 simp only [fTa,KK.new,getD_eq_getElem?_getD,List.getElem?_replicate];split <;> rfl
theorem tk (s:eR) (d:Nat) (x:KC):(KK.new s).calls[d]? ≠ some (some x):=by
 simp only [KK.new,List.getElem?_replicate];split <;> simp
theorem inv_new {s:eR} (h:PK.sized s = true):fA (KK.new s):=by
 have hbuf:∀ c,c < (KK.new s).calls.length->gY (KK.new s) c = tlb0:=fun c hc=>by
  simp only [KK.new,List.length_replicate] at hc;simp only [gY,KK.new,getD_eq_getElem?_getD,List.getElem?_replicate,if_pos hc,Option.getD_some]
 refine ⟨kok_new h,PK.fine_new h,fun d x hx=>absurd hx (tk s d x),fun d x hx=>absurd hx.1 (tk s d x),fun c n _ hn=>absurd hn (Nat.not_lt_zero _),fun c=>by rw [heard_new]; exact Int.natCast_nonneg _,fun c hc=>by rw [hbuf c hc]; exact Tlb.tok_new,fun c hc l hl he=>?_⟩;rw [hbuf c hc] at hl;obtain ⟨i,hi,rfl⟩:=(Tlb.mem_lines rfl).1 hl;have key:∀ i,i < 8->(Tlb.ln tlb0.1 i).fl.fCa = -1:=by decide
 rw [key i hi] at he;exact absurd he (by decide)
theorem fA.same {k k':KK} (I:fA k) (ok:KK.Ok k') (hp:k'.p = k.p) (h1:k'.fNa = k.fNa) (h2:k'.fKa = k.fKa) (h3:k'.fFa = k.fFa) (h4:k'.calls = k.calls):fA k':=by
 obtain ⟨p,tl,bx,ep,ca,ev,no⟩:=k;obtain ⟨p',tl',bx',ep',ca',ev',no'⟩:=k';simp only at hp h1 h2 h3 h4;subst hp; subst h1; subst h2; subst h3; subst h4;exact ⟨ok,I.F,I.cw,I.told,I.mail,I.hi,I.tok,fun c hc l hl he=>⟨(I.line c hc l hl he).cov,(I.line c hc l hl he).stay⟩⟩
theorem fA.put {k k':KK} (I:fA k) (ok:KK.Ok k') {c:Nat} {o:Option KC} (ho:∀ x,o = some x->x.fPa = false/\Cw x.fc) (hp:k'.p = k.p) (h1:k'.fNa = k.fNa) (h2:k'.fKa = k.fKa) (h3:k'.fFa = k.fFa) (h4:k'.calls = k.calls.set c o):fA k':=by
 obtain ⟨p,tl,bx,ep,ca,ev,no⟩:=k;obtain ⟨p',tl',bx',ep',ca',ev',no'⟩:=k';simp only at hp h1 h2 h3 h4;subst hp; subst h1; subst h2; subst h3; subst h4;have back:∀ (d:Nat) x,(ca.set c o)[d]? = some (some x)->(o = some x/\d = c)\/ca[d]? = some (some x):=by
  intro d x hx;rw [List.getElem?_set] at hx;split at hx
  ·rename_i e;split at hx
   ·exact .inl ⟨by simpa using hx,e.symm⟩
   ·cases hx
  ·exact .inr hx
 have backT:∀ d x,Tells ⟨p',tl',bx',ep',ca.set c o,ev',no'⟩ d x->Tells ⟨p',tl',bx',ep',ca,ev,no⟩ d x:=by
  rintro d x ⟨hx,ht⟩;rcases back d x hx with ⟨h,_⟩ | h
  ·rw [(ho x h).1] at ht; cases ht
  ·exact ⟨h,ht⟩
 refine ⟨ok,I.F,fun d x hx=>?_,fun d x hx=>I.told d x (backT d x hx),fun a n ha hn=>I.mail a n (by simpa using ha) hn,I.hi,fun a ha=>I.tok a (by simpa using ha),fun a ha l hl he=>?_⟩
 ·rcases back d x hx with ⟨h,_⟩ | h
  ·exact (ho x h).2
  ·exact I.cw d x h
 ·have L:=I.line a (by simpa using ha) l hl he;exact ⟨L.cov,fun d x hx hh=>L.stay d x (backT d x hx) hh⟩
theorem fA.move {k:KK} (I:fA k) {p':PK} (okp:PK.Ok p') (M:PK.Mv k.p p') (h:∀ c,c < k.calls.length->∀ l ∈ Tlb.lines (gY k c),0 <= l.fCa->Cov (PK.q p' l.fCa l.fOa) l/\(PK.q p' l.fCa l.fOa).fDa = (PK.q k.p l.fCa l.fOa).fDa):fA { k with p:=p' }:=by
 refine ⟨kok_p I.ok okp M.s,M.fine,I.cw,fun d x hx=>by have:=I.told d x hx; exact ⟨⟨this.1.1,by show Word.check x.fc p'.s.fJa = 0; rw [M.s]; exact this.1.2⟩,this.2⟩,I.mail,I.hi,I.tok,fun c hc l hl he=>?_⟩;have L:=I.line c hc l hl he;obtain ⟨h1,h2⟩:=h c hc l hl he;refine ⟨h1,fun d x hx hh=>?_⟩;show Stay p' x.fGa x.fc l.fCa l.fOa (PK.q p' l.fCa l.fOa).fDa l.fBa;rw [h2];refine (L.stay d x hx hh).keep (M.keep _ _ (by have:=L.cov.r; omega) (by have:=h1.r; omega)) ?_;have e1:=I.F.ok.cl;have e2:=M.fine.ok.cl;rw [M.s] at e2;omega
theorem fA.effect {k:KK} (I:fA k) {e:Int} {c:cK} (cw:Cw c) (h:Tk c->PK.off k.p e = false->Word.check c k.p.s.fJa = 0->∀ a,a < k.calls.length->∀ l ∈ Tlb.lines (gY k a),0 <= l.fCa->Stay k.p e c l.fCa l.fOa (PK.q k.p l.fCa l.fOa).fDa l.fBa):fA { k with p:=(PK.do_ k.p e c).2 }:=by
 obtain ⟨M,mono⟩:=PK.do_mv I.F (e:=e) cw;refine I.move M.fine.ok M fun a ha l hl he=>?_;have L:=I.line a ha l hl he;have hne:(PK.q k.p l.fCa l.fOa).fBa ≠ 0:=by have:=L.cov.r; omega
 by_cases ht:Tk c
 ·by_cases hb:PK.off k.p e = true\/Word.check c k.p.s.fJa ≠ 0
  ·rw [(PK.do_bad hb).1]; exact ⟨L.cov,rfl⟩
  ·simp only [not_or,Bool.not_eq_true,Decidable.not_not] at hb;rw [PK.do_q I.F cw hb.1 hb.2 ht];exact aft_cov ht L.cov (h ht hb.1 hb.2 a ha l hl he)
 ·rw [mono ht _ _ hne]; exact ⟨L.cov,rfl⟩
theorem fA.touch {k:KK} (I:fA k) (f:Int) (c:cK):fA { k with p:=(PK.touch k.p f c).2 }:=by
 obtain ⟨M,mono⟩:=PK.mv_touch I.F f c;refine I.move M.fine.ok M fun a ha l hl he=>?_;have L:=I.line a ha l hl he;rw [mono _ _ (by have:=L.cov.r; omega)];exact ⟨L.cov,rfl⟩
theorem fA.buf {k:KK} (I:fA k) {c:Nat} (hc:c < k.calls.length) {b:Buf} (hb:Tlb.TOk b) (h:∀ l ∈ Tlb.lines b,0 <= l.fCa->LineOk k c l):fA { k with fNa:=k.fNa.set c b }:=by
 have hlen:k.fNa.length = k.calls.length:=by have:=I.ok.tl; have:=I.ok.cl; omega
 have hbuf:∀ a,gY { k with fNa:=k.fNa.set c b } a = if a = c then b else gY k a:=by
  intro a;simp only [gY,getD_eq_getElem?_getD,List.getElem?_set];by_cases e:c = a
  ·subst e; simp [hlen,hc]
  ·rw [if_neg e,if_neg (fun h=>e h.symm)]
 refine ⟨kok_tlbs I.ok _ _,I.F,I.cw,I.told,I.mail,I.hi,fun a ha=>?_,fun a ha l hl he=>?_⟩
 ·rw [hbuf]; split
  ·exact hb
  ·exact I.tok a ha
 ·rw [hbuf] at hl;by_cases e:a = c
  ·rw [if_pos e] at hl;subst e;have L:=h l hl he;exact ⟨L.cov,L.stay⟩
  ·rw [if_neg e] at hl;have L:=I.line a ha l hl he;exact ⟨L.cov,L.stay⟩
theorem clean_lines {k:KK} (hn:1 <= k.p.s.fJa/\k.p.s.fJa <= 4) (F:PK.Fine k.p) (hT:∀ x,some x ∈ k.calls->x.fPa = true->Teller k.p.s.fJa x) {b:Buf} (hb:Tlb.TOk b):Tlb.TOk (KK.cleans k (Tlb.lines b) b)/\∀ l ∈ Tlb.lines (KK.cleans k (Tlb.lines b) b),0 <= l.fCa->l ∈ Tlb.lines b/\Cov (PK.q k.p l.fCa l.fOa) l/\∀ x,some x ∈ k.calls->x.fPa = true->Stay k.p x.fGa x.fc l.fCa l.fOa (PK.q k.p l.fCa l.fOa).fDa l.fBa:=by
 obtain ⟨h1,h2⟩:=cleans_all (k:=k) hb;refine ⟨h1,fun l hl he=>?_⟩;obtain ⟨a,s⟩:=h2 l hl he;exact ⟨a,(seen_cov hn F hT _ _ _).1 (not_stale s he)⟩
theorem tells_mem {k:KK} {d:Nat} {x:KC} (h:Tells k d x):some x ∈ k.calls:=List.mem_of_getElem? h.1
theorem kW {k:KK} {c:Int} (h:KK.is k c = true):∃ n:Nat,c = n/\n < k.calls.length:=by
 unfold KK.is at h;have:=of_decide_eq_true h;exact ⟨c.toNat,by omega,by omega⟩
theorem kbuf_nat (k:KK) (n:Nat):KK.buf k n = gY k n:=by simp [KK.buf,gY]
theorem qZ {k:KK} {n:Nat} {x:KC} (h:KK.call k n = some x):k.calls[n]? = some (some x):=by
 unfold KK.call at h;rw [Int.toNat_natCast,getD_eq_getElem?_getD] at h;cases hc:k.calls[n]? with
 | none=>rw [hc] at h; cases h
 | some o=>rw [hc] at h; simp at h; rw [h]
end
end Go.Proofs.YtochchocdckegaaGreatDoor
