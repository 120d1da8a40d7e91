/- Part of the proof of: The law ShootFrame returns true for every input, and leaves its arguments as they were. -/
import Derived.Test.YtochchocdckegaaGreatDoorShootFrame04
set_option linter.all false
set_option maxRecDepth 20000
namespace Go.Proofs.YtochchocdckegaaGreatDoor
open Go.Proofs.Tryz
open Go.IntKind (i64 u64)
open _root_.List (countP_cons getD_eq_getElem?_getD getElem_mem mem_replicate replicate)
open _root_.Nat (le_refl)
section
open Go Mb
abbrev cK:=ah
namespace Word
def kinds (k:Int):List Int :=
 if k = 1\/k = 4\/k = 5 then [0] else if k = 2 then [0,0,4] else if k = 3 then [0,3,0,4] else if k = 6 then [1,0,4] else if k = 7 then [1] else if k = 8 then [1,4]
 else if k = 9 then [0,2,5,6] else if k = 20 then [1,2] else if k = 21\/k = 23 then [1,2,6] else if k = 22 then [1,2,6,6] else []
def arg (c:cK) (i m:Int):Int × Bool:=if i < 1\/i >= 5\/m <= 0\/ah.get c i >= u64.wrap m then (0,false) else (i64.wrap (ah.get c i),true)
def fits (c:cK) (i k envs:Int):Bool :=
 if k = 0 then (arg c i 8).2 else if k = 1 then (arg c i 8).2 else if k = 2 then (arg c i 16).2 else if k = 3 then (arg c i envs).2
 else if k = 4 then (iP (ah.get c i)).2 else if k = 5 then decide (ah.get c i >= 1) && decide (ah.get c i <= 4) else true
def checks (c:cK) (envs:Int):List Int->Int->Int
 | [],_=>0
 | k::ks,i=>if fits c i k envs = true then checks c envs ks (i + 1) else 2
def check (c:cK) (envs:Int):Int:=if (az c).2 = false then 1 else checks c envs (kinds (az c).1) 1
theorem kinds_len (k:Int):(kinds k).length <= 4:=by
 unfold kinds; repeat' split
 all_goals simp
end Word
theorem vec_nil' {xs:List Int} (hx:xs = []) {l:List As} {h:Hp} (s:aB l h):aB (vI (⟨none,0,0,none⟩:Sl) xs::l) h:=by subst hx; exact gg s
theorem iW {l:List As} {h:Hp} {K:Sl->Hp->Prop} (xs:List Int) (s:aB l h) {n:Nat} {ps:Array (Nat × Value)} (hps:ps = (pts (fun x=>.int .i64 x) 0 xs).toArray) (hn:n = xs.length) (hb:n <= 2 ^ 24)
  (k:∀ v h',aB (vI v xs::l) h'->K v h'):hpv prog (Instr.buildSlice dT n ps) cJ K h :=
 ft (τ:=Int) xs (val:=fun x=>.int .i64 x) (enc:=cI .i64) el_Sint (ck _) (fun _=>rfl) s hps hn (by omega) k
theorem sp_word_kinds (k:Int):Sp prog tm [.int .i64 k] cJ [] (fun r=>aB [vI r (Word.kinds k)]):=by
 intro h st;refine sim_word_kinds _ ?_;unfold sh_word_kinds;have one:∀ (xs:List Int) (v:Sl) (h':Hp),Word.kinds k = xs->aB [vI v xs] h'->aB [vI v (Word.kinds k)] h':=by
  intro xs v h' e s; rw [e]; exact s
 have j1:k = 1\/k = 4\/k = 5->jH k (fun r=>aB [vI r (Word.kinds k)]) true h:=by
  intro hk;unfold jH;exact dW rfl (iW [0] st rfl rfl (by decide) fun v h' s=>one _ v h' (if_pos hk) s)
 refine aY (fun c=>?_) (fun c=>?_)
 ·rw [c]; exact j1 (.inl (by simpa using c))
 have n1:k ≠ 1:=by simpa using c
 refine aY (fun c4=>?_) (fun c4=>?_)
 ·rw [c4]; exact j1 (.inr (.inl (by simpa using c4)))
 have n4:k ≠ 4:=by simpa using c4
 by_cases h5:k = 5
 ·have:(k == 5) = true:=by simpa using h5
  rw [this]; exact j1 (.inr (.inr h5))
 have:(k == 5) = false:=by simpa using h5
 rw [this];have hu:∀ {xs:List Int},xs = Word.kinds k->Word.kinds k = xs:=fun e=>e.symm;unfold jH;refine dx rfl ?_;refine aY (fun c=>?_) (fun c=>?_)
 ·have e:k = 2:=by simpa using c
  subst e; exact iW [0,0,4] st rfl rfl (by decide) fun v h' s=>s
 refine aY (fun c=>?_) (fun c=>?_)
 ·have e:k = 3:=by simpa using c
  subst e; exact iW [0,3,0,4] st rfl rfl (by decide) fun v h' s=>s
 refine aY (fun c=>?_) (fun c=>?_)
 ·have e:k = 6:=by simpa using c
  subst e; exact iW [1,0,4] st rfl rfl (by decide) fun v h' s=>s
 refine aY (fun c=>?_) (fun c=>?_)
 ·have e:k = 7:=by simpa using c
  subst e; exact iW [1] st rfl rfl (by decide) fun v h' s=>s
 refine aY (fun c=>?_) (fun c=>?_)
 ·have e:k = 8:=by simpa using c
  subst e; exact iW [1,4] st rfl rfl (by decide) fun v h' s=>s
 refine aY (fun c=>?_) (fun c=>?_)
 ·have e:k = 9:=by simpa using c
  subst e; exact iW [0,2,5,6] st rfl rfl (by decide) fun v h' s=>s
 refine aY (fun c=>?_) (fun c=>?_)
 ·have e:k = 20:=by simpa using c
  subst e; exact iW [1,2] st rfl rfl (by decide) fun v h' s=>s
 refine aY (fun c=>?_) (fun c=>?_)
 ·have e:k = 21:=by simpa using c
  subst e;unfold nz;exact dW rfl (iW [1,2,6] st rfl rfl (by decide) fun v h' s=>s)
 unfold nz;refine aY (fun c=>?_) (fun c=>?_)
 ·have e:k = 23:=by simpa using c
  subst e; exact iW [1,2,6] st rfl rfl (by decide) fun v h' s=>s
 refine aY (fun c=>?_) (fun c=>?_)
 ·have e:k = 22:=by simpa using c
  subst e; exact iW [1,2,6,6] st rfl rfl (by decide) fun v h' s=>s
 refine vec_nil' ?_ st
 simp_all [Word.kinds]
theorem rC (c:cK) (i m:Int):Sp prog oa [.agg c.C.toArray,.int .i64 i,.int .i64 m] bQ [] (fun r=>pa_ (r = Word.arg c i m) []):=by
 intro h st;refine sim_word_Arg _ _ _ ?_;unfold sh_word_Arg;unfold uO;refine aY (fun k=>?_) (fun k=>?_)
 ·have k':¬ (i < 1\/i >= 5\/m <= 0):=by simp at k; omega
  refine ⟨⟨by omega,by omega⟩,aY (fun k2=>?_) (fun k2=>⟨⟨by omega,by omega⟩,?_⟩)⟩
  ·exact ba (by unfold Word.arg; rw [if_pos (by right; right; right; simpa using k2)]) st
  ·refine ba ?_ st;unfold Word.arg;have k2':¬ ah.get c i >= u64.wrap m:=by simpa using k2
   rw [if_neg (by omega)]
 ·have k':i < 1\/i >= 5\/m <= 0:=by simp at k; omega
  exact dW rfl (ba (by unfold Word.arg; rw [if_pos (by omega)]) st)
theorem sp_word_fits (c:cK) (i k e:Int) (h0:0 <= i) (h5:i < 5):Sp prog n_word_fits [.agg c.C.toArray,.int .i64 i,.int .i64 k,.int .i64 e] aC [] (fun r=>pa_ (r = Word.fits c i k e) []):=by
 intro h st;refine sim_word_fits _ _ _ _ ?_;unfold sh_word_fits;refine aY (fun k0=>?_) (fun k0=>?_)
 ·have e0:k = 0:=by simpa using k0
  subst e0;exact uM (rC c i 8) st fun r h' hr s=>ba (by rw [hr]; rfl) s
 refine aY (fun k1=>?_) (fun k1=>?_)
 ·have e0:k = 1:=by simpa using k1
  subst e0;exact uM (rC c i 8) st fun r h' hr s=>ba (by rw [hr]; rfl) s
 refine aY (fun k2=>?_) (fun k2=>?_)
 ·have e0:k = 2:=by simpa using k2
  subst e0;exact uM (rC c i 16) st fun r h' hr s=>ba (by rw [hr]; rfl) s
 refine aY (fun k3=>?_) (fun k3=>?_)
 ·have e0:k = 3:=by simpa using k3
  subst e0;exact uM (rC c i e) st fun r h' hr s=>ba (by rw [hr]; rfl) s
 refine aY (fun k4=>⟨⟨h0,h5⟩,?_⟩) (fun k4=>?_)
 ·have e0:k = 4:=by simpa using k4
  subst e0;exact ba rfl st
 refine aY (fun k5=>⟨⟨h0,h5⟩,?_⟩) (fun k5=>?_)
 ·have e0:k = 5:=by simpa using k5
  subst e0;exact ba rfl st
 refine ba ?_ st;simp at k0 k1 k2 k3 k4 k5;simp [Word.fits,k0,k1,k2,k3,k4,k5]
theorem checks_drop (c:cK) (e:Int) (ks:List Int) (n:Nat) (h:n < ks.length):Word.checks c e (ks.drop n) ((n:Int) + 1) = if Word.fits c ((n:Int) + 1) ks[n] e = true then Word.checks c e (ks.drop (n + 1)) (((n + 1:Nat):Int) + 1) else 2:=by
 rw [List.drop_eq_getElem_cons h,Word.checks]; rfl
theorem jJ (c:cK) (e:Int):Sp prog ir [.agg c.C.toArray,.int .i64 e] bj [] (fun r=>pa_ (r = Word.check c e) []):=by
 intro h st;refine sim_word_Check _ _ ?_;unfold sh_word_Check;refine aY (fun k=>?_) (fun k=>?_)
 ·exact ba (by unfold Word.check; rw [if_pos (by simpa using k)]) st
 ·have hc:Word.check c e = Word.checks c e (Word.kinds (az c).1) 1:=by unfold Word.check; rw [if_neg (by simpa using k)]
  rw [hc];refine mD (sp_word_kinds _) st fun r h1 s1=>?_;have hl:=(cj (j:=0) s1 rfl).1;have h4:=Word.kinds_len (az c).1;refine Lp.intro (fun (i:Int) h=>∃ n:Nat,i = n/\n <= (Word.kinds (az c).1).length/\Word.checks c e ((Word.kinds (az c).1).drop n) ((n:Int) + 1) = Word.checks c e (Word.kinds (az c).1) 1/\aB [vI r (Word.kinds (az c).1)] h) (fun (i:Int) _=>(Word.kinds (az c).1).length - i.toNat) ⟨0,rfl,Nat.zero_le _,rfl,s1⟩ ?_;rintro i h ⟨n,rfl,hn,he,s2⟩;unfold vW;refine aY (fun k2=>?_) (fun k2=>?_)
  ·have hlt:n < (Word.kinds (az c).1).length:=by rw [hl] at k2; simpa using k2
   have hw:i64.wrap ((n:Int) + 1) = ((n + 1:Nat):Int):=by rw [bm (by omega) (by omega)]; rfl
   rw [checks_drop c e _ n hlt] at he;refine dk s2 (j:=0) rfl (by omega) (by omega) fun q hq=>?_;refine dD (j:=0) (i:=n) (k:=0) (Word.kinds (az c).1)[n] (ck _) s2 rfl hq (by simp) (aF hlt) (by simp) ?_;rw [hw];refine uM (sp_word_fits c ((n + 1:Nat):Int) _ e (by omega) (by omega)) s2 fun r2 h3 hr s3=>?_;subst hr;refine aY (fun k3=>?_) (fun k3=>?_)
   ·have k3':¬ Word.fits c ((n:Int) + 1) (Word.kinds (az c).1)[n] e = true:=by simpa using k3
    rw [if_neg k3'] at he;exact ba he trivial
   ·have k3':Word.fits c ((n:Int) + 1) (Word.kinds (az c).1)[n] e = true:=by simpa using k3
    rw [if_pos k3'] at he;exact ⟨⟨n + 1,rfl,hlt,he,s3⟩,by simp; omega⟩
  ·have:n = (Word.kinds (az c).1).length:=by rw [hl] at k2; simp at k2; omega
   subst this;rw [List.drop_length] at he;exact ba he trivial
theorem sp_word_Args (k:Int):Sp prog n_word_Args [.int .i64 k] eH [] (fun r=>pa_ (r = (Word.kinds k).length) []):=by
 intro h st;refine sim_word_Args _ ?_;unfold sh_word_Args;refine mD (sp_word_kinds k) st fun r h1 s1=>?_;have hl:=(cj (j:=0) s1 rfl).1;exact ba (by rw [hl]) trivial
end
section
open Go Mb
structure PK where
 s:aE
 m:List (List Int)
 tabs:List (List Pte)
 pool:List Int
 caps:fAa.T
abbrev eQ:=ab
abbrev eR:=aE
namespace PK
def off (k:PK) (e:Int):Bool:=decide (e < 0) || decide (e >= k.s.fJa)
def tab (k:PK) (e:Int):List Pte:=k.tabs.getD e.toNat []
def pte (k:PK) (e p:Int):Pte × Bool:=if off k e = true then (dc,false) else Table.get (tab k e) p
def touch (k:PK) (f:Int) (c:cK):(eQ × Bool) × PK :=
 if (Word.arg c 2 16).2 = false\/bE (az c).1 = false then ((⟨0,0⟩,false),k)
 else if (az c).1 = 20 then ((⟨0,(Mem.load k.m f (Word.arg c 2 16).1).1⟩,(Mem.load k.m f (Word.arg c 2 16).1).2),k)
 else if (az c).1 = 21 then ((⟨0,0⟩,(Mem.store k.m f (Word.arg c 2 16).1 c.e3).1),{ k with m:=(Mem.store k.m f (Word.arg c 2 16).1 c.e3).2 })
 else if (az c).1 = 22 then ((⟨0,(Mem.cas k.m f (Word.arg c 2 16).1 c.e3 c.e4).1.1⟩,(Mem.cas k.m f (Word.arg c 2 16).1 c.e3 c.e4).1.2),{ k with m:=(Mem.cas k.m f (Word.arg c 2 16).1 c.e3 c.e4).2 })
 else ((⟨0,(Mem.add k.m f (Word.arg c 2 16).1 c.e3).1.1⟩,(Mem.add k.m f (Word.arg c 2 16).1 c.e3).1.2),{ k with m:=(Mem.add k.m f (Word.arg c 2 16).1 c.e3).2 })
def alloc (k:PK) (e s:Int):Int × PK :=
 if (fAa.at_ k.caps e s).2 = true then (4,k) else if (Pool.take k.pool).2.1 = false then (6,k)
 else ((fAa.root k.caps e s (Pool.take k.pool).1).1,{ k with pool:=(Pool.take k.pool).2.2,m:=(Mem.zero k.m (Pool.take k.pool).1).2,caps:=(fAa.root k.caps e s (Pool.take k.pool).1).2 })
def derive (k:PK) (e src to dst r:Int):Int × PK :=
 if (fAa.derive k.caps e src to dst r).1 ≠ 0 then ((fAa.derive k.caps e src to dst r).1,k)
 else if (Pool.hold k.pool (fAa.at_ (fAa.derive k.caps e src to dst r).2 to dst).1.fEa).1 = false then (6,{ k with caps:=(fAa.drop (fAa.derive k.caps e src to dst r).2 to dst).2 })
 else (0,{ k with caps:=(fAa.derive k.caps e src to dst r).2,pool:=(Pool.hold k.pool (fAa.at_ (fAa.derive k.caps e src to dst r).2 to dst).1.fEa).2 })
def unmaps (ps:List Pte):List Int->List Pte
 | []=>ps
 | i::l=>unmaps (Table.remove ps i).2 l
def unmap (ps:List Pte) (s:Int):List Pte:=unmaps ps (Table.by_ ps s)
def gone (k:PK) (f:Int):List bX->PK
 | []=>k
 | p::l=>gone { k with tabs:=k.tabs.set p.fCa.toNat (unmap (tab k p.fCa) p.fDa),pool:=(Pool.lets k.pool f).2.2 } f l
def revoke (k:PK) (e s:Int) (w:Bool):eQ × PK :=
 if (fAa.revoke k.caps e s).1.2 ≠ 0 then (⟨(fAa.revoke k.caps e s).1.2,0⟩,k)
 else if w = true then (⟨0,u64.wrap ((fAa.revoke k.caps e s).1.1++(fAa.drop (fAa.revoke k.caps e s).2 e s).1.1).length⟩,
  gone { k with caps:=(fAa.drop (fAa.revoke k.caps e s).2 e s).2 } (fAa.at_ k.caps e s).1.fEa ((fAa.revoke k.caps e s).1.1++(fAa.drop (fAa.revoke k.caps e s).2 e s).1.1))
 else (⟨0,u64.wrap (fAa.revoke k.caps e s).1.1.length⟩,gone { k with caps:=(fAa.revoke k.caps e s).2 } (fAa.at_ k.caps e s).1.fEa (fAa.revoke k.caps e s).1.1)
def maps (k:PK) (e pg s r:Int):Int × PK :=
 if (fAa.at_ k.caps e s).2 = false then (3,k) else if (Table.get (tab k e) pg).2 = true then (4,k) else if aO r (fAa.at_ k.caps e s).1.fBa = false then (5,k)
 else ((Table.insert (tab k e) pg ⟨(fAa.at_ k.caps e s).1.fEa,s,r⟩).1,{ k with tabs:=k.tabs.set e.toNat (Table.insert (tab k e) pg ⟨(fAa.at_ k.caps e s).1.fEa,s,r⟩).2 })
def protect (k:PK) (e pg r:Int):Int × PK :=
 if (Table.get (tab k e) pg).2 = false then (3,k) else if aO r (fAa.at_ k.caps e (Table.get (tab k e) pg).1.fDa).1.fBa = false then (5,k)
 else ((Table.protect (tab k e) pg r).1,{ k with tabs:=k.tabs.set e.toNat (Table.protect (tab k e) pg r).2 })
def remove (k:PK) (e pg:Int):Int × PK:=((Table.remove (tab k e) pg).1.2,{ k with tabs:=k.tabs.set e.toNat (Table.remove (tab k e) pg).2 })
def sleep (k:PK) (e:Int) (c:cK):eQ × Bool :=
 if (fAa.at_ k.caps e (i64.wrap c.e1)).2 = false then (⟨3,0⟩,true) else if aO 1 (fAa.at_ k.caps e (i64.wrap c.e1)).1.fBa = false then (⟨5,0⟩,true)
 else if nL (i64.wrap c.e3) (Mem.load k.m (fAa.at_ k.caps e (i64.wrap c.e1)).1.fEa (i64.wrap c.e2)).1 c.e4 = false then (⟨0,0⟩,false)
 else (⟨0,(Mem.load k.m (fAa.at_ k.caps e (i64.wrap c.e1)).1.fEa (i64.wrap c.e2)).1⟩,true)
def user (k:PK) (e:Int) (c:cK):eQ × PK :=
 if (Table.get (tab k e) (i64.wrap c.e1)).2 = false\/ct (Table.get (tab k e) (i64.wrap c.e1)).1.fBa (i64.wrap c.e0) = false then (⟨7,0⟩,k)
 else ((touch k (Table.get (tab k e) (i64.wrap c.e1)).1.fEa c).1.1,(touch k (Table.get (tab k e) (i64.wrap c.e1)).1.fEa c).2)
def errs (r:Int × PK):(eQ × Bool) × PK:=((⟨r.1,0⟩,true),r.2)
def does (k:PK) (e:Int) (c:cK):(eQ × Bool) × PK :=
 if i64.wrap c.e0 = 1 then errs (alloc k e (i64.wrap c.e1))
 else if i64.wrap c.e0 = 2 then errs (derive k e (i64.wrap c.e1) e (i64.wrap c.e2) (i64.wrap c.e3))
 else if i64.wrap c.e0 = 3 then errs (derive k e (i64.wrap c.e1) (i64.wrap c.e2) (i64.wrap c.e3) (i64.wrap c.e4))
 else if i64.wrap c.e0 = 5 then (((revoke k e (i64.wrap c.e1) true).1,true),(revoke k e (i64.wrap c.e1) true).2)
 else if i64.wrap c.e0 = 4 then (((revoke k e (i64.wrap c.e1) false).1,true),(revoke k e (i64.wrap c.e1) false).2)
 else if i64.wrap c.e0 = 6 then errs (maps k e (i64.wrap c.e1) (i64.wrap c.e2) (i64.wrap c.e3))
 else if i64.wrap c.e0 = 7 then errs (remove k e (i64.wrap c.e1))
 else if i64.wrap c.e0 = 8 then errs (protect k e (i64.wrap c.e1) (i64.wrap c.e2))
 else if i64.wrap c.e0 = 9 then (sleep k e c,k)
 else if i64.wrap c.e0 = 10 then ((⟨0,0⟩,true),k)
 else (((user k e c).1,true),(user k e c).2)
def do_ (k:PK) (e:Int) (c:cK):(eQ × Bool) × PK :=
 if off k e = true then ((⟨10,0⟩,true),k) else if Word.check c k.s.fJa ≠ 0 then ((⟨Word.check c k.s.fJa,0⟩,true),k) else does k e c
def new (s:eR):PK:=⟨s,replicate s.fCb.toNat (replicate 16 0),replicate s.fJa.toNat (replicate 8 dc),replicate s.fCb.toNat 0,replicate s.fJa.toNat (replicate 8 mF)⟩
def sized (s:eR):Bool:=!(decide (s.fWa < 1) || decide (s.fWa > 8) || decide (s.fJa < 1) || decide (s.fJa > 4) || decide (s.fCb < 1) || decide (s.fCb > 16))
end PK
def PteFine (p:Pte):Prop:=p = dc\/(0 <= p.fEa/\p.fEa < 16/\0 <= p.fDa/\p.fDa < 8/\ch p.fBa = true)
def CapFine (n:Int) (t:fAa.T) (c:Cap):Prop :=
 c = mF\/(c.fBa = 3/\c.fCa = -1/\c.fDa = 0/\0 <= c.fEa/\c.fEa < n) \/
 (0 <= c.fCa/\0 <= c.fEa/\c.fEa < n/\aO c.fBa (fAa.get t c.fCa c.fDa).fBa = true/\(fAa.get t c.fCa c.fDa).fEa = c.fEa)
def eV (n:Int) (t:fAa.T):Prop:=∀ e s,fAa.has t e s = true->CapFine n t (fAa.get t e s)
structure PK.Ok (k:PK):Prop where
 sz:PK.sized k.s = true
 ml:(k.m.length:Int) = k.s.fCb
 mr:∀ r ∈ k.m,r.length = 16
 tl:(k.tabs.length:Int) = k.s.fJa
 tr:∀ ps ∈ k.tabs,ps.length = 8/\∀ p ∈ ps,PteFine p
 pl:(k.pool.length:Int) = k.s.fCb
 pr:∀ n ∈ k.pool,0 <= n/\n <= 7
 cl:(k.caps.length:Int) = k.s.fJa
 tree:fAa.Ok k.caps
 fine:eV k.s.fCb k.caps
theorem fV {s:eR}:PK.sized s = true↔1 <= s.fWa/\s.fWa <= 8/\1 <= s.fJa/\s.fJa <= 4/\1 <= s.fCb/\s.fCb <= 16:=by
 unfold PK.sized; simp; omega
theorem vM {r:Int}:ch r = true↔1 <= r/\r <= 3:=by unfold ch; simp
theorem da {a b:Int} (h:aO a b = true):(1 <= a/\a <= 3)/\(1 <= b/\b <= 3):=by
 unfold aO at h; simp only [Bool.and_eq_true,vM] at h; exact h.1
theorem wrapR {n:Int} (h0:-2^63 <= n) (h1:n < 2^63):i64.wrap n = n:=bm h0 h1
theorem ok_new {s:eR} (h:PK.sized s = true):PK.Ok (PK.new s):=by
 have hs:=fV.1 h;refine ⟨h,by simp [PK.new]; omega,?_,by simp [PK.new]; omega,?_,by simp [PK.new]; omega,?_,by simp [PK.new]; omega,fAa.ok_new _ (by omega),?_⟩
 ·intro r hr; rw [(mem_replicate.1 hr).2]; rfl
 ·intro r hr; rw [(mem_replicate.1 hr).2];exact ⟨rfl,fun p hp=>.inl (mem_replicate.1 hp).2⟩
 ·intro r hr; rw [(mem_replicate.1 hr).2]; omega
 ·intro e i hh;obtain ⟨a,b,rfl,rfl,ha,hb⟩:=fAa.has_nat hh;simp only [PK.new,List.length_replicate] at ha
  left
  simp only [fAa.get,PK.new,Int.toNat_natCast,getD_eq_getElem?_getD,List.getElem?_replicate,if_pos ha,Option.getD_some,if_pos hb]
def qF (ps:List Pte):Prop:=ps.length = 8/\∀ p ∈ ps,PteFine p
theorem tab_set {ps:List Pte} (h:qF ps) (n:Nat) {p:Pte} (hp:PteFine p):qF (ps.set n p) :=
 ⟨by simpa using h.1,fun q hq=>by
  rcases List.mem_or_eq_of_mem_set hq with h1 | h1
  ·exact h.2 q h1
  ·subst h1; exact hp⟩
theorem tab_at {ps:List Pte} (h:qF ps) (i:Int):PteFine (Table.at_ ps i):=by
 unfold Table.at_;by_cases hi:i.toNat < ps.length
 ·simp [hi]; exact h.2 _ (getElem_mem hi)
 ·simp [getD_eq_getElem?_getD,List.getElem?_eq_none (Nat.le_of_not_lt hi)]; exact .inl rfl
theorem put_fine {p:Pte} (h:(fw p).2 = true) (h0:p.fBa ≠ 0):PteFine p:=by
 unfold fw at h;cases hq:ao.eqb p ⟨0,0,0⟩ with
 | true =>
  exfalso; apply h0
  unfold ao.eqb at hq;simp at hq; exact hq.2.2
 | false =>
  rw [hq] at h;simp only [cond_false] at h;cases hb:(((((decide (p.fEa < 0)) || (decide (p.fEa >= 16))) || (decide (p.fDa < 0))) || (decide (p.fDa >= 8))) || (!(ch p.fBa))) with
  | true=>rw [hb] at h; simp at h
  | false =>
   simp at hb;obtain ⟨⟨⟨⟨h1,h2⟩,h3⟩,h4⟩,h5⟩:=hb;exact .inr ⟨h1,h2,h3,h4,h5⟩
theorem tab_insert {ps:List Pte} (h:qF ps) (i:Int) (p:Pte):qF (Table.insert ps i p).2:=by
 unfold Table.insert;split
 ·exact h
 ·split
  ·exact h
  ·rename_i h1 _;simp at h1;exact tab_set h _ (put_fine h1.1 h1.2.1)
theorem tab_remove {ps:List Pte} (h:qF ps) (i:Int):qF (Table.remove ps i).2:=by
 unfold Table.remove;split
 ·exact h
 ·split
  ·exact h
  ·exact tab_set h _ (.inl rfl)
theorem tab_protect {ps:List Pte} (h:qF ps) (i r:Int):qF (Table.protect ps i r).2:=by
 unfold Table.protect;split
 ·exact h
 ·split
  ·exact h
  ·rename_i h1 h2;simp at h1;refine tab_set h _ (.inr ?_);rcases tab_at h i with e | e
   ·rw [e] at h2; exact absurd rfl h2
   ·exact ⟨e.1,e.2.1,e.2.2.1,e.2.2.2.1,h1.2⟩
theorem tab_unmaps:∀ (l:List Int) {ps:List Pte},qF ps->qF (PK.unmaps ps l)
 | [],_,h=>h
 | i::l,_,h=>tab_unmaps l (tab_remove h i)
theorem tab_of {k:PK} (ok:PK.Ok k) {n:Nat} (h:n < k.tabs.length):PK.tab k n = k.tabs[n]/\qF k.tabs[n]:=by
 refine ⟨by simp [PK.tab,h],ok.tr _ (getElem_mem h)⟩
theorem tab_ok {k:PK} (ok:PK.Ok k) (e:Int) (h:e.toNat < k.tabs.length):qF (PK.tab k e):=by
 have:PK.tab k e = k.tabs[e.toNat]:=by simp [PK.tab,h]
 rw [this]; exact ok.tr _ (getElem_mem h)
theorem tabs_set {k:PK} (ok:PK.Ok k) (e:Int) {ps:List Pte} (h:e.toNat < k.tabs.length->qF ps):∀ qs ∈ k.tabs.set e.toNat ps,qF qs:=by
 intro qs hq;by_cases he:e.toNat < k.tabs.length
 ·rcases List.mem_or_eq_of_mem_set hq with h1 | h1
  ·exact ok.tr _ h1
  ·subst h1; exact h he
 ·rw [List.set_eq_of_length_le (by omega)] at hq; exact ok.tr _ hq
theorem ok_tabs {k:PK} (ok:PK.Ok k) (e:Int) {ps:List Pte} (h:e.toNat < k.tabs.length->qF ps):PK.Ok { k with tabs:=k.tabs.set e.toNat ps } :=
 ⟨ok.sz,ok.ml,ok.mr,by simpa using ok.tl,tabs_set ok e h,ok.pl,ok.pr,ok.cl,ok.tree,ok.fine⟩
theorem pool_set {p:List Int} (h:∀ n ∈ p,0 <= n/\n <= 7) (i:Nat) {v:Int} (hv:0 <= v/\v <= 7):∀ n ∈ p.set i v,0 <= n/\n <= 7:=by
 intro n hn;rcases List.mem_or_eq_of_mem_set hn with h1 | h1
 ·exact h n h1
 ·subst h1; exact hv
theorem refs_fine {p:List Int} (h:∀ n ∈ p,0 <= n/\n <= 7) (i:Int):0 <= Pool.refs p i/\Pool.refs p i <= 7:=by
 unfold Pool.refs;split
 ·omega
 ·by_cases hi:i.toNat < p.length
  ·simp [hi]; exact h _ (getElem_mem hi)
  ·simp [getD_eq_getElem?_getD,List.getElem?_eq_none (Nat.le_of_not_lt hi)]
theorem lets_fine {p:List Int} (h:∀ n ∈ p,0 <= n/\n <= 7) (i:Int):(Pool.lets p i).2.2.length = p.length/\∀ n ∈ (Pool.lets p i).2.2,0 <= n/\n <= 7:=by
 have hr:=refs_fine h i;unfold Pool.lets;split
 ·exact ⟨rfl,h⟩
 ·refine ⟨by simp,pool_set h _ ?_⟩;rw [wrapR (by omega) (by omega)]; omega
theorem hold_fine {p:List Int} (h:∀ n ∈ p,0 <= n/\n <= 7) (i:Int):(Pool.hold p i).2.length = p.length/\∀ n ∈ (Pool.hold p i).2,0 <= n/\n <= 7:=by
 have hr:=refs_fine h i;unfold Pool.hold;split
 ·exact ⟨rfl,h⟩
 ·refine ⟨by simp,pool_set h _ ?_⟩;rw [wrapR (by omega) (by omega)]; omega
theorem take_fine {p:List Int} (h:∀ n ∈ p,0 <= n/\n <= 7):(Pool.take p).2.2.length = p.length/\∀ n ∈ (Pool.take p).2.2,0 <= n/\n <= 7:=by
 unfold Pool.take;split
 ·exact ⟨rfl,h⟩
 ·exact ⟨by simp,pool_set h _ (by omega)⟩
theorem take_in {p:List Int} (h:(Pool.take p).2.1 = true):0 <= (Pool.take p).1/\(Pool.take p).1 < p.length:=by
 unfold Pool.take at h ⊢;split at h
 ·cases h
 ·rename_i h1;rw [if_neg h1];rcases idx_lt 0 p 0 with e | ⟨n,h2,e⟩
  ·omega
  ·simp only; omega
namespace fAa
theorem cf_root {n:Int} {t:T} {f:Int} (h0:0 <= f) (h1:f < n):CapFine n t ⟨f,3,-1,0⟩:=.inr (.inl ⟨rfl,rfl,rfl,h0,h1⟩)
theorem parent_has {t:T} (ok:Ok t) {e s:Int} (h:has t e s = true) (h1:(get t e s).fBa ≠ 0) (h2:0 <= (get t e s).fCa):has t (get t e s).fCa (get t e s).fDa = true/\(get t (get t e s).fCa (get t e s).fDa).fBa ≠ 0:=by
 obtain ⟨rank,hr⟩:=ok.rk;exact ⟨(hr e s h h1 h2).1,(hr e s h h1 h2).2.1⟩
theorem fine_put {n:Int} {t:T} (ok:Ok t) (F:eV n t) {e s:Int} (h:has t e s = true) (h0:(get t e s).fBa = 0) {c:Cap} (hc:CapFine n t c) (hc2:0 <= c.fCa->has t c.fCa c.fDa = true/\(get t c.fCa c.fDa).fBa ≠ 0):eV n (put t e s c):=by
 intro a b hab;rw [put_has] at hab;have keep:∀ {i j:Int},has t i j = true->(get t i j).fBa ≠ 0->get (put t e s c) i j = get t i j:=by
  intro i j hij hn;rw [get_put ok.row h hij,if_neg];rintro ⟨rfl,rfl⟩; exact hn h0
 rw [get_put ok.row h hab];split
 ·rcases hc with e1 | e1 | e1
  ·exact .inl e1
  ·exact .inr (.inl e1)
  ·obtain ⟨p1,p2⟩:=hc2 e1.1;exact .inr (.inr ⟨e1.1,e1.2.1,e1.2.2.1,by rw [keep p1 p2]; exact e1.2.2.2.1,by rw [keep p1 p2]; exact e1.2.2.2.2⟩)
 ·rcases F a b hab with e1 | e1 | e1
  ·exact .inl e1
  ·exact .inr (.inl e1)
  ·have hm:=(da e1.2.2.2.1).1;obtain ⟨p1,p2⟩:=parent_has ok hab (by omega) e1.1;exact .inr (.inr ⟨e1.1,e1.2.1,e1.2.2.1,by rw [keep p1 p2]; exact e1.2.2.2.1,by rw [keep p1 p2]; exact e1.2.2.2.2⟩)
theorem fine_empties {n:Int} {t:T} (ok:Ok t) (F:eV n t) {l:List bX} (hl:∀ p ∈ l,has t p.fCa p.fDa = true)
  (cl:∀ e s,has t e s = true->(get t e s).fBa ≠ 0->0 <= (get t e s).fCa->(⟨(get t e s).fCa,(get t e s).fDa⟩:bX) ∈ l->(⟨e,s⟩:bX) ∈ l):eV n (fVa t l):=by
 intro a b hab;rw [empties_has] at hab;rw [jF l t ok.row hl a b hab];split
 ·exact .inl rfl
 ·rename_i hm;rcases F a b hab with e1 | e1 | e1
  ·exact .inl e1
  ·exact .inr (.inl e1)
  ·have hmy:=(da e1.2.2.2.1).1;obtain ⟨p1,p2⟩:=parent_has ok hab (by omega) e1.1;have hp:(⟨(get t a b).fCa,(get t a b).fDa⟩:bX) ∉ l:=fun h=>hm (cl a b hab (by omega) e1.1 h);have hg:=jF l t ok.row hl _ _ p1;rw [if_neg hp] at hg;exact .inr (.inr ⟨e1.1,e1.2.1,e1.2.2.1,by rw [hg]; exact e1.2.2.2.1,by rw [hg]; exact e1.2.2.2.2⟩)
theorem below_closed {t:T} (ok:Ok t) (e s:Int):∀ a b,has t a b = true->(get t a b).fBa ≠ 0->0 <= (get t a b).fCa->(⟨(get t a b).fCa,(get t a b).fDa⟩:bX) ∈ below t e s->(⟨a,b⟩:bX) ∈ below t e s:=by
 intro a b hab hne hen hp;have h1:=(mem_below ok).1 hp;refine (mem_below ok).2 ⟨hab,hne,?_⟩;rw [under_step ok hab,if_pos ⟨hne,hen⟩];split
 ·rfl
 ·exact h1.2.2
theorem own_closed {t:T} (ok:Ok t) (e s:Int):∀ a b,has t a b = true->(get t a b).fBa ≠ 0->0 <= (get t a b).fCa->(⟨(get t a b).fCa,(get t a b).fDa⟩:bX) ∈ own t e s->(⟨a,b⟩:bX) ∈ own t e s:=by
 intro a b hab hne hen hp;have h1:=(mem_own ok).1 hp;refine (mem_own ok).2 ⟨hab,hne,.inr ?_⟩;rw [under_step ok hab,if_pos ⟨hne,hen⟩];split
 ·rfl
 ·rename_i hno;rcases h1.2.2 with h | h
  ·exact absurd ⟨congrArg aH.fCa h,congrArg aH.fDa h⟩ hno
  ·exact h
theorem fine_revoke {n:Int} {t:T} (ok:Ok t) (F:eV n t) (e s:Int):eV n (revoke t e s).2:=by
 unfold revoke; split
 ·exact F
 ·exact fine_empties ok F (fun p hp=>((mem_below ok).1 hp).1) (below_closed ok e s)
theorem fine_drop {n:Int} {t:T} (ok:Ok t) (F:eV n t) (e s:Int):eV n (drop t e s).2:=by
 unfold drop; split
 ·exact F
 ·exact fine_empties ok F (fun p hp=>((mem_own ok).1 hp).1) (own_closed ok e s)
theorem fine_rootc {n:Int} {t:T} (ok:Ok t) (F:eV n t) (e s:Int) {f:Int} (h1:f < n) (h0:0 <= f):eV n (root t e s f).2:=by
 unfold root; split
 ·exact F
 ·split
  ·exact F
  ·rename_i c1 c2;simp at c1;exact fine_put ok F c1.1 (by simpa using c2) (cf_root h0 h1) (fun h=>absurd h (by show ¬ (0:Int) <= -1; omega))
theorem fine_derive {n:Int} {t:T} (ok:Ok t) (F:eV n t) (e src to dst r:Int):eV n (derive t e src to dst r).2:=by
 unfold derive;split
 ·exact F
 ·split
  ·exact F
  ·split
   ·exact F
   ·split
    ·exact F
    ·rename_i h1 h2 h3 h4;simp at h1;have hw:aO r (get t e src).fBa = true:=by simpa using h4
     have hf:0 <= (get t e src).fEa/\(get t e src).fEa < n:=by
      rcases F e src h1.1 with e1 | e1 | e1
      ·rw [e1] at h2; exact absurd rfl h2
      ·exact ⟨e1.2.2.2.1,e1.2.2.2.2⟩
      ·exact ⟨e1.2.1,e1.2.2.1⟩
     have h0:0 <= e:=by
      obtain ⟨a,b,rfl,_,_,_⟩:=has_nat h1.1;omega
     exact fine_put ok F h1.2.1 (by simpa using h3) (.inr (.inr ⟨h0,hf.1,hf.2,hw,rfl⟩)) (fun _=>⟨h1.1,h2⟩)
theorem root_len (t:T) (e s f:Int):(root t e s f).2.length = t.length:=by
 unfold root; split
 ·rfl
 ·split
  ·rfl
  ·exact put_len _ _ _ _
theorem derive_len (t:T) (e src to dst r:Int):(derive t e src to dst r).2.length = t.length:=by
 unfold derive; repeat' split
 all_goals first | rfl | exact put_len _ _ _ _
theorem revoke_len (t:T) (e s:Int):(revoke t e s).2.length = t.length:=by
 unfold revoke; split
 ·rfl
 ·exact empties_len _ _
theorem drop_len (t:T) (e s:Int):(drop t e s).2.length = t.length:=by
 unfold drop; split
 ·rfl
 ·exact empties_len _ _
end fAa
theorem put_row16 {m:List (List Int)} (h:∀ r ∈ m,r.length = 16) (i:Nat) {r:List Int} (hr:i < m.length->r.length = 16):∀ q ∈ m.set i r,q.length = 16:=by
 intro q hq;by_cases hi:i < m.length
 ·rcases List.mem_or_eq_of_mem_set hq with h1 | h1
  ·exact h q h1
  ·subst h1; exact hr hi
 ·rw [List.set_eq_of_length_le (by omega)] at hq; exact h q hq
theorem mput {m:List (List Int)} (h:∀ r ∈ m,r.length = 16) (f a v:Int):(Mem.put m f a v).length = m.length/\∀ r ∈ Mem.put m f a v,r.length = 16:=by
 refine ⟨by simp [Mem.put],put_row16 h _ fun hi=>?_⟩;simp [hi]; exact h _ (getElem_mem hi)
theorem mstore {m:List (List Int)} (h:∀ r ∈ m,r.length = 16) (f a v:Int):(Mem.store m f a v).2.length = m.length/\∀ r ∈ (Mem.store m f a v).2,r.length = 16:=by
 unfold Mem.store; split
 ·exact mput h f a v
 ·exact ⟨rfl,h⟩
theorem mcas {m:List (List Int)} (h:∀ r ∈ m,r.length = 16) (f a o v:Int):(Mem.cas m f a o v).2.length = m.length/\∀ r ∈ (Mem.cas m f a o v).2,r.length = 16:=by
 unfold Mem.cas; split
 ·exact mstore h f a v
 ·exact ⟨rfl,h⟩
theorem madd {m:List (List Int)} (h:∀ r ∈ m,r.length = 16) (f a v:Int):(Mem.add m f a v).2.length = m.length/\∀ r ∈ (Mem.add m f a v).2,r.length = 16:=by
 unfold Mem.add;exact mstore h f a _
theorem mzero {m:List (List Int)} (h:∀ r ∈ m,r.length = 16) (f:Int):(Mem.zero m f).2.length = m.length/\∀ r ∈ (Mem.zero m f).2,r.length = 16:=by
 unfold Mem.zero; split
 ·refine ⟨by simp,put_row16 h _ fun hi=>by simp⟩
 ·exact ⟨rfl,h⟩
theorem ok_mem {k:PK} (ok:PK.Ok k) {m:List (List Int)} (h:m.length = k.m.length/\∀ r ∈ m,r.length = 16):PK.Ok { k with m:=m } :=
 ⟨ok.sz,by rw [← ok.ml,← h.1],h.2,ok.tl,ok.tr,ok.pl,ok.pr,ok.cl,ok.tree,ok.fine⟩
theorem ok_touch {k:PK} (ok:PK.Ok k) (f:Int) (c:cK):PK.Ok (PK.touch k f c).2:=by
 unfold PK.touch;split
 ·exact ok
 ·split
  ·exact ok
  ·split
   ·exact ok_mem ok (mstore ok.mr _ _ _)
   ·split
    ·exact ok_mem ok (mcas ok.mr _ _ _ _)
    ·exact ok_mem ok (madd ok.mr _ _ _)
theorem ok_alloc {k:PK} (ok:PK.Ok k) (e s:Int):PK.Ok (PK.alloc k e s).2:=by
 unfold PK.alloc;split
 ·exact ok
 ·split
  ·exact ok
  ·rename_i h;have ht:=take_in (by simpa using h);have h1:=take_fine ok.pr;have h2:=mzero ok.mr (Pool.take k.pool).1;refine ⟨ok.sz,by rw [← ok.ml,← h2.1],h2.2,ok.tl,ok.tr,by rw [← ok.pl,← h1.1],h1.2,by rw [← ok.cl]; simp only [fAa.root_len],fAa.ok_root ok.tree _ _ _,?_⟩;exact fAa.fine_rootc ok.tree ok.fine _ _ (by rw [← ok.pl]; exact ht.2) ht.1
theorem ok_derive {k:PK} (ok:PK.Ok k) (e src to dst r:Int):PK.Ok (PK.derive k e src to dst r).2:=by
 have o1:=fAa.ok_derive ok.tree e src to dst r;have f1:=fAa.fine_derive ok.tree ok.fine e src to dst r;unfold PK.derive;split
 ·exact ok
 ·split
  ·exact ⟨ok.sz,ok.ml,ok.mr,ok.tl,ok.tr,ok.pl,ok.pr,by rw [← ok.cl]; simp only [fAa.drop_len,fAa.derive_len],fAa.ok_drop o1 _ _,fAa.fine_drop o1 f1 _ _⟩
  ·have h1:=hold_fine ok.pr (fAa.at_ (fAa.derive k.caps e src to dst r).2 to dst).1.fEa;exact ⟨ok.sz,ok.ml,ok.mr,ok.tl,ok.tr,by rw [← ok.pl,← h1.1],h1.2,by rw [← ok.cl]; simp only [fAa.derive_len],o1,f1⟩
theorem ok_gone:∀ (l:List bX) {k:PK} (_:PK.Ok k) (f:Int),PK.Ok (PK.gone k f l)
 | [],_,ok,_=>ok
 | p::l,k,ok,f=>by
  have h1:=lets_fine ok.pr f;have h2:=ok_tabs ok p.fCa (ps:=PK.unmap (PK.tab k p.fCa) p.fDa) (fun h=>tab_unmaps _ (tab_ok ok _ h));have h3:PK.Ok { k with tabs:=k.tabs.set p.fCa.toNat (PK.unmap (PK.tab k p.fCa) p.fDa),pool:=(Pool.lets k.pool f).2.2 } :=
   ⟨h2.sz,h2.ml,h2.mr,h2.tl,h2.tr,by rw [← ok.pl]; exact congrArg Int.ofNat h1.1,h1.2,h2.cl,h2.tree,h2.fine⟩
  exact ok_gone l h3 f
theorem ok_caps {k:PK} (ok:PK.Ok k) {t:fAa.T} (h:t.length = k.caps.length) (o:fAa.Ok t) (f:eV k.s.fCb t):PK.Ok { k with caps:=t } :=
 ⟨ok.sz,ok.ml,ok.mr,ok.tl,ok.tr,ok.pl,ok.pr,by rw [← ok.cl,← h],o,f⟩
theorem ok_revoke {k:PK} (ok:PK.Ok k) (e s:Int) (w:Bool):PK.Ok (PK.revoke k e s w).2:=by
 have o1:=fAa.ok_revoke ok.tree e s;have f1:=fAa.fine_revoke ok.tree ok.fine e s;unfold PK.revoke;split
 ·exact ok
 ·split
  ·exact ok_gone _ (ok_caps ok (by rw [fAa.drop_len,fAa.revoke_len]) (fAa.ok_drop o1 _ _) (fAa.fine_drop o1 f1 _ _)) _
  ·exact ok_gone _ (ok_caps ok (by rw [fAa.revoke_len]) o1 f1) _
theorem ok_maps {k:PK} (ok:PK.Ok k) (e pg s r:Int):PK.Ok (PK.maps k e pg s r).2:=by
 unfold PK.maps
 repeat' split
 all_goals first | exact ok | exact ok_tabs ok e fun h=>tab_insert (tab_ok ok _ h) _ _
theorem ok_protect {k:PK} (ok:PK.Ok k) (e pg r:Int):PK.Ok (PK.protect k e pg r).2:=by
 unfold PK.protect
 repeat' split
 all_goals first | exact ok | exact ok_tabs ok e fun h=>tab_protect (tab_ok ok _ h) _ _
theorem ok_remove {k:PK} (ok:PK.Ok k) (e pg:Int):PK.Ok (PK.remove k e pg).2:=ok_tabs ok e fun h=>tab_remove (tab_ok ok _ h) _
theorem ok_user {k:PK} (ok:PK.Ok k) (e:Int) (c:cK):PK.Ok (PK.user k e c).2:=by
 unfold PK.user;split
 ·exact ok
 ·exact ok_touch ok _ _
theorem ok_does {k:PK} (ok:PK.Ok k) (e:Int) (c:cK):PK.Ok (PK.does k e c).2:=by
 unfold PK.does PK.errs
 repeat' split
 all_goals first | exact ok | exact ok_alloc ok _ _ | exact ok_derive ok _ _ _ _ _ | exact ok_revoke ok _ _ _ | exact ok_maps ok _ _ _ _ | exact ok_remove ok _ _ | exact ok_protect ok _ _ _ | exact ok_user ok _ _
theorem ok_do {k:PK} (ok:PK.Ok k) (e:Int) (c:cK):PK.Ok (PK.do_ k e c).2:=by
 unfold PK.do_;split
 ·exact ok
 ·split
  ·exact ok
  ·exact ok_does ok e c
end
section
open Go Mb
namespace fAa
theorem under_put {t:T} (ok:Ok t) {e s:Int} (h:has t e s = true) (h0:(get t e s).fBa = 0) {c:Cap} (hc:0 <= c.fCa->has t c.fCa c.fDa = true/\(get t c.fCa c.fDa).fBa ≠ 0) (p:bX) :
  ∀ (n:Nat) (a b:Int),deep 40 t (get t a b) <= n->has t a b = true->(get t a b).fBa ≠ 0->under (put t e s c) (get t a b) p = under t (get t a b) p:=by
 have ok':=ok_put ok h h0 c hc;intro n
 induction n with
 | zero =>
  intro a b hd hab hne;have hk:get (put t e s c) a b = get t a b:=by rw [get_put ok.row h hab,if_neg]; rintro ⟨rfl,rfl⟩; exact hne h0
  have s1:=under_step ok' (by rw [put_has]; exact hab) (e:=a) (s:=b) p;rw [hk] at s1;rw [s1,under_step ok hab];by_cases hen:(get t a b).fBa ≠ 0/\0 <= (get t a b).fCa
  ·have:=deep_step ok hab hen; omega
  ·rw [if_neg hen,if_neg hen]
 | succ n ih =>
  intro a b hd hab hne;have hk:get (put t e s c) a b = get t a b:=by rw [get_put ok.row h hab,if_neg]; rintro ⟨rfl,rfl⟩; exact hne h0
  have s1:=under_step ok' (by rw [put_has]; exact hab) (e:=a) (s:=b) p;rw [hk] at s1;rw [s1,under_step ok hab];by_cases hen:(get t a b).fBa ≠ 0/\0 <= (get t a b).fCa
  ·have hd2:=deep_step ok hab hen;obtain ⟨p1,p2⟩:=parent_has ok hab hen.1 hen.2;have hkp:get (put t e s c) (get t a b).fCa (get t a b).fDa = get t (get t a b).fCa (get t a b).fDa:=by
    rw [get_put ok.row h p1,if_neg]; rintro ⟨e1,e2⟩; rw [e1,e2] at p2; exact p2 h0
   rw [if_pos hen,if_pos hen,hkp,ih _ _ (by omega) p1 p2]
  ·rw [if_neg hen,if_neg hen]
theorem under_empties {t:T} (ok:Ok t) {l:List bX} (hl:∀ p ∈ l,has t p.fCa p.fDa = true)
  (cl:∀ e s,has t e s = true->(get t e s).fBa ≠ 0->0 <= (get t e s).fCa->(⟨(get t e s).fCa,(get t e s).fDa⟩:bX) ∈ l->(⟨e,s⟩:bX) ∈ l) (p:bX) :
  ∀ (n:Nat) (a b:Int),deep 40 t (get t a b) <= n->has t a b = true->(get t a b).fBa ≠ 0->(⟨a,b⟩:bX) ∉ l->under (fVa t l) (get t a b) p = under t (get t a b) p:=by
 have ok':=ok_empties ok hl cl;have hkeep:∀ a b,has t a b = true->(⟨a,b⟩:bX) ∉ l->get (fVa t l) a b = get t a b:=fun a b hab hm=>by
  rw [jF l t ok.row hl a b hab,if_neg hm]
 intro n
 induction n with
 | zero =>
  intro a b hd hab hne hm;have s1:=under_step ok' (by rw [empties_has]; exact hab) (e:=a) (s:=b) p;rw [hkeep a b hab hm] at s1;rw [s1,under_step ok hab];by_cases hen:(get t a b).fBa ≠ 0/\0 <= (get t a b).fCa
  ·have:=deep_step ok hab hen; omega
  ·rw [if_neg hen,if_neg hen]
 | succ n ih =>
  intro a b hd hab hne hm;have s1:=under_step ok' (by rw [empties_has]; exact hab) (e:=a) (s:=b) p;rw [hkeep a b hab hm] at s1;rw [s1,under_step ok hab];by_cases hen:(get t a b).fBa ≠ 0/\0 <= (get t a b).fCa
  ·have hd2:=deep_step ok hab hen;obtain ⟨p1,p2⟩:=parent_has ok hab hen.1 hen.2;have hpm:(⟨(get t a b).fCa,(get t a b).fDa⟩:bX) ∉ l:=fun h=>hm (cl a b hab hen.1 hen.2 h);rw [if_pos hen,if_pos hen,hkeep _ _ p1 hpm,ih _ _ (by omega) p1 p2 hpm]
  ·rw [if_neg hen,if_neg hen]
theorem under_self {t:T} (ok:Ok t):∀ (n:Nat) (a b:Int),deep 40 t (get t a b) <= n->has t a b = true->∀ p:bX,under t (get t a b) p = true->has t p.fCa p.fDa = true->deep 40 t (get t p.fCa p.fDa) < deep 40 t (get t a b):=by
 intro n
 induction n with
 | zero =>
  intro a b hd hab p hu hp;rw [under_step ok hab] at hu;by_cases hen:(get t a b).fBa ≠ 0/\0 <= (get t a b).fCa
  ·have:=deep_step ok hab hen; omega
  ·rw [if_neg hen] at hu; cases hu
 | succ n ih =>
  intro a b hd hab p hu hp;rw [under_step ok hab] at hu;by_cases hen:(get t a b).fBa ≠ 0/\0 <= (get t a b).fCa
  ·have hd2:=deep_step ok hab hen;rw [if_pos hen] at hu;by_cases he:(get t a b).fCa = p.fCa/\(get t a b).fDa = p.fDa
   ·rw [← he.1,← he.2]; exact hd2
   ·rw [if_neg he] at hu;obtain ⟨p1,p2⟩:=parent_has ok hab hen.1 hen.2;have:=ih _ _ (by omega) p1 p hu hp;omega
  ·rw [if_neg hen] at hu; cases hu
theorem not_under_self {t:T} (ok:Ok t) {a b:Int} (h:has t a b = true):under t (get t a b) ⟨a,b⟩ = false:=by
 cases hu:under t (get t a b) ⟨a,b⟩ with
 | false=>rfl
 | true=>exact absurd (under_self ok _ a b (le_refl _) h ⟨a,b⟩ hu h) (Nat.lt_irrefl _)
theorem under_frame {n:Int} {t:T} (ok:Ok t) (F:eV n t):∀ (m:Nat) (a b:Int),deep 40 t (get t a b) <= m->has t a b = true->∀ p:bX,under t (get t a b) p = true->(get t a b).fEa = (get t p.fCa p.fDa).fEa:=by
 intro m
 induction m with
 | zero =>
  intro a b hd hab p hu;rw [under_step ok hab] at hu;by_cases hen:(get t a b).fBa ≠ 0/\0 <= (get t a b).fCa
  ·have:=deep_step ok hab hen; omega
  ·rw [if_neg hen] at hu; cases hu
 | succ m ih =>
  intro a b hd hab p hu;rw [under_step ok hab] at hu;by_cases hen:(get t a b).fBa ≠ 0/\0 <= (get t a b).fCa
  ·have hd2:=deep_step ok hab hen;obtain ⟨p1,p2⟩:=parent_has ok hab hen.1 hen.2;have hfr:(get t (get t a b).fCa (get t a b).fDa).fEa = (get t a b).fEa:=by
    rcases F a b hab with e1 | e1 | e1
    ·rw [e1] at hen; exact absurd rfl hen.1
    ·have:=hen.2; omega
    ·exact e1.2.2.2.2
   rw [if_pos hen] at hu;by_cases he:(get t a b).fCa = p.fCa/\(get t a b).fDa = p.fDa
   ·rw [← he.1,← he.2,hfr]
   ·rw [if_neg he] at hu;rw [← hfr];exact ih _ _ (by omega) p1 p hu
  ·rw [if_neg hen] at hu; cases hu
def isF (f:Int) (c:Cap):Bool:=decide (c.fBa ≠ 0) && decide (c.fEa = f)
def cnt (f:Int):T->Nat
 | []=>0
 | r::t=>r.countP (isF f) + cnt f t
def b2n (b:Bool):Nat:=if b then 1 else 0
theorem countP_set {α:Type} (P:α->Bool):∀ (l:List α) (i:Nat) (a:α) (h:i < l.length),(l.set i a).countP P + b2n (P l[i]) = l.countP P + b2n (P a)
 | [],i,_,h=>by simp at h
 | x::l,0,a,_=>by simp [b2n,countP_cons]; omega
 | x::l,i + 1,a,h=>by
  have:=countP_set P l i a (by simpa using h);simp only [List.set_cons_succ,countP_cons,List.getElem_cons_succ];omega
theorem cnt_set (f:Int):∀ (t:T) (i:Nat) (r:List Cap) (h:i < t.length),cnt f (t.set i r) + t[i].countP (isF f) = cnt f t + r.countP (isF f)
 | [],i,_,h=>by simp at h
 | x::t,0,r,_=>by simp [cnt]; omega
 | x::t,i + 1,r,h=>by
  have:=cnt_set f t i r (by simpa using h);simp only [List.set_cons_succ,cnt,List.getElem_cons_succ];omega
theorem cnt_put (f:Int) {t:T} (row:∀ r ∈ t,r.length = 8) {e s:Int} (h:has t e s = true) (c:Cap):cnt f (put t e s c) + b2n (isF f (get t e s)) = cnt f t + b2n (isF f c):=by
 obtain ⟨m,n,rfl,rfl,hm,hn⟩:=has_nat h;obtain ⟨h3,hg⟩:=get_nat' row hm hn;rw [put_nat hm,hg];have h1:=cnt_set f t m (t[m].set n c) hm;have h2:=countP_set (isF f) t[m] n c h3;omega
theorem cnt_empties (f:Int):∀ (l:List bX) {t:T},(∀ r ∈ t,r.length = 8)->l.Nodup->(∀ p ∈ l,has t p.fCa p.fDa = true/\(get t p.fCa p.fDa).fBa ≠ 0) ->
  cnt f (fVa t l) + (l.countP fun p=>decide ((get t p.fCa p.fDa).fEa = f)) = cnt f t
 | [],_,_,_,_=>by simp [fVa]
 | p::l,t,row,nd,hl=>by
  obtain ⟨nd1,nd2⟩:=List.nodup_cons.1 nd;obtain ⟨hp1,hp2⟩:=hl p (by simp);have row':=put_row row p.fCa p.fDa mF;have hk:∀ q ∈ l,get (put t p.fCa p.fDa mF) q.fCa q.fDa = get t q.fCa q.fDa:=fun q hq=>by
   rw [get_put row hp1 (hl q (by simp [hq])).1,if_neg];rintro ⟨e1,e2⟩;apply nd1;have:q = p:=by cases p; cases q; simp_all
   exact this ▸ hq
  have ih:=cnt_empties f l row' nd2 (fun q hq=>by rw [put_has,hk q hq]; exact hl q (by simp [hq]));have h1:=cnt_put f row hp1 mF;have h0:b2n (isF f mF) = 0:=rfl;have h2:b2n (isF f (get t p.fCa p.fDa)) = if (get t p.fCa p.fDa).fEa = f then 1 else 0:=by
   unfold b2n isF;by_cases hf:(get t p.fCa p.fDa).fEa = f <;> simp [hp2,hf]
  have h3:(l.countP fun q=>decide ((get (put t p.fCa p.fDa mF) q.fCa q.fDa).fEa = f)) = l.countP fun q=>decide ((get t q.fCa q.fDa).fEa = f):=by
   refine List.countP_congr fun q hq=>?_;rw [hk q hq]
  rw [h3] at ih;rw [fVa,countP_cons];simp only [decide_eq_true_eq];omega
theorem cnt_pos {f:Int} {t:T} (row:∀ r ∈ t,r.length = 8) {e s:Int} (h:has t e s = true) (hr:(get t e s).fBa ≠ 0) (hf:(get t e s).fEa = f):0 < cnt f t:=by
 have:=cnt_put f row h mF;have h0:b2n (isF f mF) = 0:=rfl;have h1:b2n (isF f (get t e s)) = 1:=by unfold b2n isF; simp [hr,hf]
 omega
theorem cnt_new (f:Int) (n:Nat):cnt f (replicate n (replicate 8 mF)) = 0:=by
 induction n with
 | zero=>rfl
 | succ n ih=>rw [List.replicate_succ,cnt,ih]; rfl
theorem rowOf_nodup (P:Int->Int->Cap->Bool) (e:Int):∀ (cs:List Cap) (s:Int),(rowOf P e cs s).Nodup
 | [],_=>.nil
 | c::cs,s=>by
  rw [rowOf_c];split
  ·refine List.nodup_cons.2 ⟨fun h=>?_,rowOf_nodup P e cs (s + 1)⟩;obtain ⟨_,n,_,_,h2,_⟩:=mem_rowOf.1 h;simp only at h2;omega
  ·exact rowOf_nodup P e cs (s + 1)
theorem vV (P:Int->Int->Cap->Bool):∀ (t:T) (e:Int),(allOf P t e).Nodup
 | [],_=>.nil
 | r::t,e=>by
  rw [allOf,List.nodup_append];refine ⟨rowOf_nodup P e r 0,vV P t (e + 1),fun a ha b hb hab=>?_⟩;subst hab;obtain ⟨h1,_⟩:=mem_rowOf.1 ha;obtain ⟨m,n,r',c,_,_,h2,_⟩:=mem_allOf.1 hb;rw [h2] at h1;simp only at h1;omega
end fAa
end
section
open Go Mb
namespace Table
theorem get_snd (ps:List Pte) (i:Int):(get ps i).2 = decide ((get ps i).1.fBa ≠ 0):=by
 unfold get; split
 ·rename_i h; simp [h.2]
 ·rfl
theorem get_at {ps:List Pte} {i:Int} (h:bA i = true) (hr:(at_ ps i).fBa ≠ 0):get ps i = (at_ ps i,true):=by unfold get; rw [if_pos ⟨h,hr⟩]
theorem get_no {ps:List Pte} {i:Int} (h:¬ (bA i = true/\(at_ ps i).fBa ≠ 0)):get ps i = (dc,false):=by unfold get; rw [if_neg h]
theorem at_set {ps:List Pte} (hl:ps.length = 8) {i j:Int} (hi:bA i = true) (hj:bA j = true) (p:Pte):at_ (ps.set i.toNat p) j = if j = i then p else at_ ps j:=by
 obtain ⟨n,rfl,hn⟩:=nE hi;obtain ⟨m,rfl,hm⟩:=nE hj;simp only [at_,Int.toNat_natCast,getD_eq_getElem?_getD,List.getElem?_set];by_cases e:n = m
 ·subst e; simp [hl,hn]
 ·have:¬ ((m:Int) = n):=by omega
  rw [if_neg e,if_neg this]
theorem get_set {ps:List Pte} (hl:ps.length = 8) {i:Int} (hi:bA i = true) (p:Pte) (j:Int):get (ps.set i.toNat p) j = if j = i then (if p.fBa ≠ 0 then (p,true) else (dc,false)) else get ps j:=by
 by_cases hj:bA j = true
 ·unfold get;rw [at_set hl hi hj];by_cases e:j = i
  ·subst e; simp only [if_true,hj,true_and]
  ·simp only [if_neg e]
 ·have e:j ≠ i:=fun e=>hj (e ▸ hi);rw [if_neg e,get_no (fun h=>hj h.1),get_no (fun h=>hj h.1)]
theorem get_insert {ps:List Pte} (hl:ps.length = 8) (i:Int) (p:Pte) (h0:(insert ps i p).1 = 0) (j:Int):get (insert ps i p).2 j = if j = i then (p,true) else get ps j:=by
 unfold insert at h0 ⊢;by_cases h1:(fw p).2 = false\/p.fBa = 0\/bA i = false
 ·rw [if_pos h1] at h0; cases h0
 ·rw [if_neg h1] at h0 ⊢;by_cases h2:(at_ ps i).fBa ≠ 0
  ·rw [if_pos h2] at h0; cases h0
  ·rw [if_neg h2];simp only [not_or,Bool.not_eq_false] at h1;rw [get_set hl h1.2.2,if_pos h1.2.1]
theorem insert_same {ps:List Pte} (i:Int) (p:Pte) (h0:(insert ps i p).1 ≠ 0):(insert ps i p).2 = ps:=by
 unfold insert at h0 ⊢;split
 ·rfl
 ·rename_i h1;rw [if_neg h1] at h0;split
  ·rfl
  ·rename_i h2; rw [if_neg h2] at h0; exact absurd rfl h0
theorem get_remove {ps:List Pte} (hl:ps.length = 8) (i j:Int):get (remove ps i).2 j = if j = i then (dc,false) else get ps j:=by
 unfold remove;by_cases h1:bA i = false
 ·rw [if_pos h1];by_cases e:j = i
  ·subst e; rw [if_pos rfl,get_no (fun h=>by rw [h1] at h; exact Bool.false_ne_true h.1)]
  ·rw [if_neg e]
 ·rw [if_neg h1];have h1':bA i = true:=by simpa using h1
  by_cases h2:(at_ ps i).fBa = 0
  ·rw [if_pos h2];by_cases e:j = i
   ·subst e; rw [if_pos rfl,get_no (fun h=>h.2 h2)]
   ·rw [if_neg e]
  ·rw [if_neg h2,get_set hl h1'];simp
theorem get_protect {ps:List Pte} (hl:ps.length = 8) (i r:Int) (j:Int) (h:(get ps i).2 = true) (hr:ch r = true):get (protect ps i r).2 j = if j = i then ({ (get ps i).1 with fBa:=r },true) else get ps j:=by
 have hi:bA i = true/\(at_ ps i).fBa ≠ 0:=by
  by_cases hh:bA i = true/\(at_ ps i).fBa ≠ 0
  ·exact hh
  ·rw [get_no hh] at h; cases h
 have hr0:r ≠ 0:=by have:=vM.1 hr; omega
 unfold protect;rw [if_neg (by rw [hi.1,hr]; simp),if_neg hi.2,get_set hl hi.1,get_at hi.1 hi.2];simp [hr0]
theorem remove_len (ps:List Pte) (i:Int):(remove ps i).2.length = ps.length:=by unfold remove; split <;> (try split) <;> simp
theorem mem_byFrom {s x:Int}:∀ {ps:List Pte} {i:Int},x ∈ byFrom s ps i↔∃ (n:Nat) (p:Pte),ps[n]? = some p/\x = i + n/\p.fBa ≠ 0/\p.fDa = s
 | [],i=>by simp [byFrom]
 | d::ps,i=>by
  have ih:=mem_byFrom (s:=s) (x:=x) (ps:=ps) (i:=i + 1);have sp:(∃ (n:Nat) (p:Pte),(d::ps)[n]? = some p/\x = i + n/\p.fBa ≠ 0/\p.fDa = s)↔(x = i/\d.fBa ≠ 0/\d.fDa = s)\/∃ (n:Nat) (p:Pte),ps[n]? = some p/\x = i + 1 + n/\p.fBa ≠ 0/\p.fDa = s:=by
   constructor
   ·rintro ⟨n,e,h1,h2,h3⟩;cases n with
    | zero=>simp at h1; subst h1; exact .inl ⟨by simpa using h2,h3⟩
    | succ n=>exact .inr ⟨n,e,by simpa using h1,by omega,h3⟩
   ·rintro (⟨h2,h3⟩ | ⟨n,e,h1,h2,h3⟩)
    ·exact ⟨0,d,rfl,by simpa using h2,h3⟩
    ·exact ⟨n + 1,e,by simpa using h1,by omega,h3⟩
  rw [sp,← ih,byFrom];split
  ·rename_i hd;rw [List.mem_cons];constructor
   ·rintro (h | h)
    ·exact .inl ⟨h,hd⟩
    ·exact .inr h
   ·rintro (h | h)
    ·exact .inl h.1
    ·exact .inr h
  ·rename_i hd;constructor
   ·exact .inr
   ·rintro (h | h)
    ·exact absurd h.2 hd
    ·exact h
theorem mem_by {ps:List Pte} (hl:ps.length = 8) {s x:Int}:x ∈ by_ ps s↔(get ps x).2 = true/\(get ps x).1.fDa = s:=by
 unfold by_;rw [mem_byFrom];constructor
 ·rintro ⟨n,p,h1,rfl,h2,h3⟩;have hn:=(List.getElem?_eq_some_iff.1 h1).1;have hi:bA ((0:Int) + n) = true:=by unfold bA; simp; omega
  have ha:at_ ps ((0:Int) + n) = p:=by simp [at_,h1]
  rw [get_at hi (by rw [ha]; exact h2),ha];exact ⟨rfl,h3⟩
 ·rintro ⟨h1,h2⟩;by_cases hh:bA x = true/\(at_ ps x).fBa ≠ 0
  ·rw [get_at hh.1 hh.2] at h2;obtain ⟨n,rfl,hn⟩:=nE hh.1;refine ⟨n,at_ ps n,?_,by simp,hh.2,h2⟩;have:n < ps.length:=by omega
   simp [at_,this]
  ·rw [get_no hh] at h1; cases h1
end Table
namespace PK
def q (k:PK) (e pg:Int):Pte:=(pte k e pg).1
theorem pte_snd (k:PK) (e pg:Int):(pte k e pg).2 = decide ((q k e pg).fBa ≠ 0):=by
 unfold q pte; split
 ·rfl
 ·exact Table.get_snd _ _
theorem off_iff {k:PK} {e:Int}:off k e = false↔0 <= e/\e < k.s.fJa:=by unfold off; simp
theorem q_on {k:PK} {e pg:Int} (h:(q k e pg).fBa ≠ 0):off k e = false/\(Table.get (tab k e) pg).2 = true/\q k e pg = (Table.get (tab k e) pg).1:=by
 cases ho:off k e with
 | true=>unfold q pte at h; rw [if_pos ho] at h; exact absurd rfl h
 | false =>
  have e1:q k e pg = (Table.get (tab k e) pg).1:=by unfold q pte; rw [if_neg (by rw [ho]; exact Bool.false_ne_true)]
  refine ⟨rfl,?_,e1⟩;rw [Table.get_snd,← e1]; simpa using h
theorem q_get {k:PK} {e:Int} (h:off k e = false) (pg:Int):q k e pg = (Table.get (tab k e) pg).1:=by unfold q pte; rw [if_neg (by rw [h]; exact Bool.false_ne_true)]
theorem tab_in {k:PK} (ok:PK.Ok k) {e:Int} (h:off k e = false):e.toNat < k.tabs.length/\(tab k e).length = 8:=by
 have h1:=off_iff.1 h;have h2:=ok.tl;have:e.toNat < k.tabs.length:=by omega
 exact ⟨this,(tab_ok ok e this).1⟩
theorem tab_set' {k:PK} (ok:PK.Ok k) {e:Int} (h:off k e = false) (ps:List Pte) {a:Int} (ha:off k a = false):tab { k with tabs:=k.tabs.set e.toNat ps } a = if a = e then ps else tab k a:=by
 have h1:=off_iff.1 h;have h2:=off_iff.1 ha;have h3:=(tab_in ok h).1;have h4:=(tab_in ok ha).1;simp only [tab,getD_eq_getElem?_getD,List.getElem?_set];by_cases e1:a = e
 ·subst e1; simp [h3]
 ·have:¬ e.toNat = a.toNat:=by omega
  rw [if_neg this,if_neg e1]
theorem q_tabs {k:PK} (ok:PK.Ok k) {e:Int} (h:off k e = false) (ps:List Pte) (a pg:Int):q { k with tabs:=k.tabs.set e.toNat ps } a pg = if a = e then (Table.get ps pg).1 else q k a pg:=by
 cases ha:off k a with
 | true =>
  have e1:a ≠ e:=fun e1=>by rw [e1,h] at ha; cases ha
  rw [if_neg e1];unfold q pte;have:off { k with tabs:=k.tabs.set e.toNat ps } a = true:=ha;rw [if_pos this,if_pos ha]
 | false =>
  have h':off { k with tabs:=k.tabs.set e.toNat ps } a = false:=ha;rw [q_get h',tab_set' ok h ps ha];split
  ·rfl
  ·rw [q_get ha]
structure Fine (k:PK):Prop where
 ok:PK.Ok k
 by_:∀ e pg,(q k e pg).fBa ≠ 0->fAa.has k.caps e (q k e pg).fDa = true/\(fAa.get k.caps e (q k e pg).fDa).fEa = (q k e pg).fEa/\aO (q k e pg).fBa (fAa.get k.caps e (q k e pg).fDa).fBa = true
 num:∀ f:Int,0 <= f->f < k.s.fCb->Pool.refs k.pool f = fAa.cnt f k.caps
theorem q_new (s:eR) (e pg:Int):q (new s) e pg = dc:=by
 unfold q pte;split
 ·rfl
 ·rename_i h;have h':off (new s) e = false:=by simpa using h
  have h1:=off_iff.1 h';have h2:e < s.fJa:=h1.2;have:tab (new s) e = replicate 8 dc:=by
   simp only [tab,new,getD_eq_getElem?_getD,List.getElem?_replicate];rw [if_pos (by omega)]; rfl
  rw [this];unfold Table.get;split
  ·rename_i hh
   exfalso; apply hh.2
   simp only [Table.at_,getD_eq_getElem?_getD,List.getElem?_replicate];split <;> rfl
  ·rfl
theorem fine_new {s:eR} (h:sized s = true):Fine (new s):=by
 refine ⟨ok_new h,fun e pg hq=>by rw [q_new] at hq; exact absurd rfl hq,fun f h0 h1=>?_⟩;have:fAa.cnt f (new s).caps = 0:=fAa.cnt_new f _;rw [this];unfold Pool.refs;rw [if_neg (by omega)];simp only [new,getD_eq_getElem?_getD,List.getElem?_replicate];split <;> rfl
theorem touch_same (k:PK) (f:Int) (c:cK):(touch k f c).2.caps = k.caps/\(touch k f c).2.tabs = k.tabs/\(touch k f c).2.pool = k.pool/\(touch k f c).2.s = k.s:=by
 unfold touch
 repeat' split
 all_goals exact ⟨rfl,rfl,rfl,rfl⟩
theorem q_same {k k':PK} (h1:k'.tabs = k.tabs) (h2:k'.s = k.s) (e pg:Int):q k' e pg = q k e pg:=by
 unfold q pte off tab; rw [h1,h2]
theorem fine_same {k k':PK} (F:Fine k) (ok:PK.Ok k') (h0:k'.caps = k.caps) (h1:k'.tabs = k.tabs) (h2:k'.s = k.s) (h3:k'.pool = k.pool):Fine k' :=
 ⟨ok,fun e pg hq=>by rw [q_same h1 h2] at hq ⊢; rw [h0]; exact F.by_ e pg hq,fun f a b=>by rw [h0,h3]; exact F.num f a (by rw [← h2]; exact b)⟩
theorem fine_touch {k:PK} (F:Fine k) (f:Int) (c:cK):Fine (touch k f c).2 :=
 have h:=touch_same k f c
 fine_same F (ok_touch F.ok f c) h.1 h.2.1 h.2.2.2 h.2.2.1
end PK
end
section
open Go Mb
structure Cw (c:cK):Prop where
 c0:0 <= c.e0
 c1:0 <= c.e1
 c2:0 <= c.e2
 c3:0 <= c.e3
 c4:0 <= c.e4
theorem kwr {x:Int} (h0:0 <= x) (h1:x < 16):i64.wrap x = x:=bm (by omega) (by omega)
theorem kind_of {c:cK}:(az c).2 = true↔(1 <= c.e0/\c.e0 <= 10\/20 <= c.e0/\c.e0 <= 23):=by
 unfold az;by_cases h:(1 <= c.e0/\c.e0 <= 10\/20 <= c.e0/\c.e0 <= 23)
 ·have:(((decide (c.e0 >= 1)) && (decide (c.e0 <= 10))) || ((decide (c.e0 >= 20)) && (decide (c.e0 <= 23)))) = true:=by simpa using h
  rw [this]; simp [h]
 ·have:(((decide (c.e0 >= 1)) && (decide (c.e0 <= 10))) || ((decide (c.e0 >= 20)) && (decide (c.e0 <= 23)))) = false:=by
   cases hb:(((decide (c.e0 >= 1)) && (decide (c.e0 <= 10))) || ((decide (c.e0 >= 20)) && (decide (c.e0 <= 23)))) with
   | false=>rfl
   | true=>exact absurd (by simpa using hb) h
  rw [this]; simp [h]
theorem us {c:cK} (h:1 <= c.e0/\c.e0 <= 10\/20 <= c.e0/\c.e0 <= 23):az c = (c.e0,true):=by
 unfold az;have:(((decide (c.e0 >= 1)) && (decide (c.e0 <= 10))) || ((decide (c.e0 >= 20)) && (decide (c.e0 <= 23)))) = true:=by simpa using h
 rw [this];show (i64.wrap c.e0,true) = _;rw [bm (by omega) (by omega)]
structure Well (n:Int) (c:cK):Prop where
 kind:1 <= c.e0/\c.e0 <= 10\/20 <= c.e0/\c.e0 <= 23
 w1:c.e0 ≠ 10->c.e1 < 8
 w2:c.e0 = 2\/c.e0 = 6->c.e2 < 8
 w3:c.e0 = 3->c.e2 < n/\c.e3 < 8/\1 <= c.e4/\c.e4 <= 3
 w4:c.e0 = 2\/c.e0 = 6->1 <= c.e3/\c.e3 <= 3
 w5:c.e0 = 8->1 <= c.e2/\c.e2 <= 3
 w6:c.e0 = 9->c.e2 < 16/\1 <= c.e3/\c.e3 <= 4
 w7:20 <= c.e0->c.e2 < 16
theorem rights_of {w:Int}:(iP w).2 = true↔1 <= w/\w <= 3:=by
 unfold iP;cases h:((decide (w < 1)) || (decide (w > 3))) with
 | true=>simp at h ⊢; omega
 | false=>simp at h ⊢; omega
theorem arg_of {c:cK} {i m:Int} (hi:1 <= i) (hi5:i < 5) (hm:0 < m) (hm2:m < 2 ^ 60):(Word.arg c i m).2 = true↔ah.get c i < m:=by
 have hw:u64.wrap m = m:=by simp only [IntKind.wrap]; first | omega | (simp [IntKind.bits,IntKind.signed]; omega)
 unfold Word.arg;rw [hw];by_cases h:ah.get c i < m
 ·rw [if_neg (by omega)]; simp [h]
 ·rw [if_pos (by omega)]; simp [h]
theorem ku {c:cK} {n k i:Int} {ks:List Int}:Word.checks c n (k::ks) i = 0↔Word.fits c i k n = true/\Word.checks c n ks (i + 1) = 0:=by
 rw [Word.checks];split
 ·rename_i h; simp [h]
 ·rename_i h; simp [h]
theorem kQ {c:cK} {i n:Int} (hi:1 <= i) (hi5:i < 5):Word.fits c i 0 n = true↔ah.get c i < 8:=by unfold Word.fits; rw [if_pos rfl]; exact arg_of hi hi5 (by decide) (by decide)
theorem fit1 {c:cK} {i n:Int} (hi:1 <= i) (hi5:i < 5):Word.fits c i 1 n = true↔ah.get c i < 8:=by unfold Word.fits; rw [if_neg (by decide),if_pos rfl]; exact arg_of hi hi5 (by decide) (by decide)
theorem fit2 {c:cK} {i n:Int} (hi:1 <= i) (hi5:i < 5):Word.fits c i 2 n = true↔ah.get c i < 16:=by unfold Word.fits; rw [if_neg (by decide),if_neg (by decide),if_pos rfl]; exact arg_of hi hi5 (by decide) (by decide)
theorem fit3 {c:cK} {i n:Int} (hi:1 <= i) (hi5:i < 5) (hn:0 < n) (hn2:n < 2 ^ 60):Word.fits c i 3 n = true↔ah.get c i < n:=by unfold Word.fits; rw [if_neg (by decide),if_neg (by decide),if_neg (by decide),if_pos rfl]; exact arg_of hi hi5 hn hn2
theorem fit4 {c:cK} {i n:Int}:Word.fits c i 4 n = true↔1 <= ah.get c i/\ah.get c i <= 3:=by unfold Word.fits; rw [if_neg (by decide),if_neg (by decide),if_neg (by decide),if_neg (by decide),if_pos rfl]; exact rights_of
theorem fit5 {c:cK} {i n:Int}:Word.fits c i 5 n = true↔1 <= ah.get c i/\ah.get c i <= 4:=by unfold Word.fits; rw [if_neg (by decide),if_neg (by decide),if_neg (by decide),if_neg (by decide),if_neg (by decide),if_pos rfl]; simp
theorem fit6 {c:cK} {i n:Int}:Word.fits c i 6 n = true:=by unfold Word.fits; rw [if_neg (by decide),if_neg (by decide),if_neg (by decide),if_neg (by decide),if_neg (by decide),if_neg (by decide)]
theorem get1 (c:cK):ah.get c 1 = c.e1:=rfl
theorem get2 (c:cK):ah.get c 2 = c.e2:=rfl
theorem get3 (c:cK):ah.get c 3 = c.e3:=rfl
theorem get4 (c:cK):ah.get c 4 = c.e4:=rfl
theorem sY {n:Int} {c:cK} (hn:1 <= n) (hn2:n <= 4) (h:Word.check c n = 0):Well n c:=by
 unfold Word.check at h;split at h
 ·cases h
 ·rename_i hk;have hk':=kind_of.1 (by simpa using hk);rw [us hk'] at h;have key:∀ (v:Int) (ks:List Int),c.e0 = v->Word.kinds v = ks->Word.checks c n ks 1 = 0:=fun v ks e1 e2=>by rw [← e2,← e1]; exact h
  have a1:(1:Int) + 1 = 2:=rfl;have a2:(2:Int) + 1 = 3:=rfl;have a3:(3:Int) + 1 = 4:=rfl;have cases0:c.e0 = 1\/c.e0 = 2\/c.e0 = 3\/c.e0 = 4\/c.e0 = 5\/c.e0 = 6\/c.e0 = 7\/c.e0 = 8\/c.e0 = 9\/c.e0 = 10\/c.e0 = 20\/c.e0 = 21\/c.e0 = 22\/c.e0 = 23:=by omega
  rcases cases0 with e | e | e | e | e | e | e | e | e | e | e | e | e | e
  ·have hh:=key 1 [0] e (by decide);simp only [ku,a1,a2,a3,kQ (c:=c) (n:=n) (i:=1) (by decide) (by decide),kQ (c:=c) (n:=n) (i:=2) (by decide) (by decide),kQ (c:=c) (n:=n) (i:=3) (by decide) (by decide),fit1 (c:=c) (n:=n) (i:=1) (by decide) (by decide),fit2 (c:=c) (n:=n) (i:=2) (by decide) (by decide),fit3 (c:=c) (n:=n) (i:=2) (by decide) (by decide) (by omega) (by omega),fit4,fit5,fit6,get1,get2,get3,get4] at hh;exact ⟨hk',fun _=>by omega,fun _=>by omega,fun _=>by omega,fun _=>by omega,fun _=>by omega,fun _=>by omega,fun _=>by omega⟩
  ·have hh:=key 2 [0,0,4] e (by decide);simp only [ku,a1,a2,a3,kQ (c:=c) (n:=n) (i:=1) (by decide) (by decide),kQ (c:=c) (n:=n) (i:=2) (by decide) (by decide),kQ (c:=c) (n:=n) (i:=3) (by decide) (by decide),fit1 (c:=c) (n:=n) (i:=1) (by decide) (by decide),fit2 (c:=c) (n:=n) (i:=2) (by decide) (by decide),fit3 (c:=c) (n:=n) (i:=2) (by decide) (by decide) (by omega) (by omega),fit4,fit5,fit6,get1,get2,get3,get4] at hh;exact ⟨hk',fun _=>by omega,fun _=>by omega,fun _=>by omega,fun _=>by omega,fun _=>by omega,fun _=>by omega,fun _=>by omega⟩
  ·have hh:=key 3 [0,3,0,4] e (by decide);simp only [ku,a1,a2,a3,kQ (c:=c) (n:=n) (i:=1) (by decide) (by decide),kQ (c:=c) (n:=n) (i:=2) (by decide) (by decide),kQ (c:=c) (n:=n) (i:=3) (by decide) (by decide),fit1 (c:=c) (n:=n) (i:=1) (by decide) (by decide),fit2 (c:=c) (n:=n) (i:=2) (by decide) (by decide),fit3 (c:=c) (n:=n) (i:=2) (by decide) (by decide) (by omega) (by omega),fit4,fit5,fit6,get1,get2,get3,get4] at hh;exact ⟨hk',fun _=>by omega,fun _=>by omega,fun _=>by omega,fun _=>by omega,fun _=>by omega,fun _=>by omega,fun _=>by omega⟩
  ·have hh:=key 4 [0] e (by decide);simp only [ku,a1,a2,a3,kQ (c:=c) (n:=n) (i:=1) (by decide) (by decide),kQ (c:=c) (n:=n) (i:=2) (by decide) (by decide),kQ (c:=c) (n:=n) (i:=3) (by decide) (by decide),fit1 (c:=c) (n:=n) (i:=1) (by decide) (by decide),fit2 (c:=c) (n:=n) (i:=2) (by decide) (by decide),fit3 (c:=c) (n:=n) (i:=2) (by decide) (by decide) (by omega) (by omega),fit4,fit5,fit6,get1,get2,get3,get4] at hh;exact ⟨hk',fun _=>by omega,fun _=>by omega,fun _=>by omega,fun _=>by omega,fun _=>by omega,fun _=>by omega,fun _=>by omega⟩
  ·have hh:=key 5 [0] e (by decide);simp only [ku,a1,a2,a3,kQ (c:=c) (n:=n) (i:=1) (by decide) (by decide),kQ (c:=c) (n:=n) (i:=2) (by decide) (by decide),kQ (c:=c) (n:=n) (i:=3) (by decide) (by decide),fit1 (c:=c) (n:=n) (i:=1) (by decide) (by decide),fit2 (c:=c) (n:=n) (i:=2) (by decide) (by decide),fit3 (c:=c) (n:=n) (i:=2) (by decide) (by decide) (by omega) (by omega),fit4,fit5,fit6,get1,get2,get3,get4] at hh;exact ⟨hk',fun _=>by omega,fun _=>by omega,fun _=>by omega,fun _=>by omega,fun _=>by omega,fun _=>by omega,fun _=>by omega⟩
  ·have hh:=key 6 [1,0,4] e (by decide);simp only [ku,a1,a2,a3,kQ (c:=c) (n:=n) (i:=1) (by decide) (by decide),kQ (c:=c) (n:=n) (i:=2) (by decide) (by decide),kQ (c:=c) (n:=n) (i:=3) (by decide) (by decide),fit1 (c:=c) (n:=n) (i:=1) (by decide) (by decide),fit2 (c:=c) (n:=n) (i:=2) (by decide) (by decide),fit3 (c:=c) (n:=n) (i:=2) (by decide) (by decide) (by omega) (by omega),fit4,fit5,fit6,get1,get2,get3,get4] at hh;exact ⟨hk',fun _=>by omega,fun _=>by omega,fun _=>by omega,fun _=>by omega,fun _=>by omega,fun _=>by omega,fun _=>by omega⟩
  ·have hh:=key 7 [1] e (by decide);simp only [ku,a1,a2,a3,kQ (c:=c) (n:=n) (i:=1) (by decide) (by decide),kQ (c:=c) (n:=n) (i:=2) (by decide) (by decide),kQ (c:=c) (n:=n) (i:=3) (by decide) (by decide),fit1 (c:=c) (n:=n) (i:=1) (by decide) (by decide),fit2 (c:=c) (n:=n) (i:=2) (by decide) (by decide),fit3 (c:=c) (n:=n) (i:=2) (by decide) (by decide) (by omega) (by omega),fit4,fit5,fit6,get1,get2,get3,get4] at hh;exact ⟨hk',fun _=>by omega,fun _=>by omega,fun _=>by omega,fun _=>by omega,fun _=>by omega,fun _=>by omega,fun _=>by omega⟩
  ·have hh:=key 8 [1,4] e (by decide);simp only [ku,a1,a2,a3,kQ (c:=c) (n:=n) (i:=1) (by decide) (by decide),kQ (c:=c) (n:=n) (i:=2) (by decide) (by decide),kQ (c:=c) (n:=n) (i:=3) (by decide) (by decide),fit1 (c:=c) (n:=n) (i:=1) (by decide) (by decide),fit2 (c:=c) (n:=n) (i:=2) (by decide) (by decide),fit3 (c:=c) (n:=n) (i:=2) (by decide) (by decide) (by omega) (by omega),fit4,fit5,fit6,get1,get2,get3,get4] at hh;exact ⟨hk',fun _=>by omega,fun _=>by omega,fun _=>by omega,fun _=>by omega,fun _=>by omega,fun _=>by omega,fun _=>by omega⟩
  ·have hh:=key 9 [0,2,5,6] e (by decide);simp only [ku,a1,a2,a3,kQ (c:=c) (n:=n) (i:=1) (by decide) (by decide),kQ (c:=c) (n:=n) (i:=2) (by decide) (by decide),kQ (c:=c) (n:=n) (i:=3) (by decide) (by decide),fit1 (c:=c) (n:=n) (i:=1) (by decide) (by decide),fit2 (c:=c) (n:=n) (i:=2) (by decide) (by decide),fit3 (c:=c) (n:=n) (i:=2) (by decide) (by decide) (by omega) (by omega),fit4,fit5,fit6,get1,get2,get3,get4] at hh;exact ⟨hk',fun _=>by omega,fun _=>by omega,fun _=>by omega,fun _=>by omega,fun _=>by omega,fun _=>by omega,fun _=>by omega⟩
  ·have hh:=key 10 [] e (by decide);exact ⟨hk',fun _=>by omega,fun _=>by omega,fun _=>by omega,fun _=>by omega,fun _=>by omega,fun _=>by omega,fun _=>by omega⟩
  ·have hh:=key 20 [1,2] e (by decide);simp only [ku,a1,a2,a3,kQ (c:=c) (n:=n) (i:=1) (by decide) (by decide),kQ (c:=c) (n:=n) (i:=2) (by decide) (by decide),kQ (c:=c) (n:=n) (i:=3) (by decide) (by decide),fit1 (c:=c) (n:=n) (i:=1) (by decide) (by decide),fit2 (c:=c) (n:=n) (i:=2) (by decide) (by decide),fit3 (c:=c) (n:=n) (i:=2) (by decide) (by decide) (by omega) (by omega),fit4,fit5,fit6,get1,get2,get3,get4] at hh;exact ⟨hk',fun _=>by omega,fun _=>by omega,fun _=>by omega,fun _=>by omega,fun _=>by omega,fun _=>by omega,fun _=>by omega⟩
  ·have hh:=key 21 [1,2,6] e (by decide);simp only [ku,a1,a2,a3,kQ (c:=c) (n:=n) (i:=1) (by decide) (by decide),kQ (c:=c) (n:=n) (i:=2) (by decide) (by decide),kQ (c:=c) (n:=n) (i:=3) (by decide) (by decide),fit1 (c:=c) (n:=n) (i:=1) (by decide) (by decide),fit2 (c:=c) (n:=n) (i:=2) (by decide) (by decide),fit3 (c:=c) (n:=n) (i:=2) (by decide) (by decide) (by omega) (by omega),fit4,fit5,fit6,get1,get2,get3,get4] at hh;exact ⟨hk',fun _=>by omega,fun _=>by omega,fun _=>by omega,fun _=>by omega,fun _=>by omega,fun _=>by omega,fun _=>by omega⟩
  ·have hh:=key 22 [1,2,6,6] e (by decide);simp only [ku,a1,a2,a3,kQ (c:=c) (n:=n) (i:=1) (by decide) (by decide),kQ (c:=c) (n:=n) (i:=2) (by decide) (by decide),kQ (c:=c) (n:=n) (i:=3) (by decide) (by decide),fit1 (c:=c) (n:=n) (i:=1) (by decide) (by decide),fit2 (c:=c) (n:=n) (i:=2) (by decide) (by decide),fit3 (c:=c) (n:=n) (i:=2) (by decide) (by decide) (by omega) (by omega),fit4,fit5,fit6,get1,get2,get3,get4] at hh;exact ⟨hk',fun _=>by omega,fun _=>by omega,fun _=>by omega,fun _=>by omega,fun _=>by omega,fun _=>by omega,fun _=>by omega⟩
  ·have hh:=key 23 [1,2,6] e (by decide);simp only [ku,a1,a2,a3,kQ (c:=c) (n:=n) (i:=1) (by decide) (by decide),kQ (c:=c) (n:=n) (i:=2) (by decide) (by decide),kQ (c:=c) (n:=n) (i:=3) (by decide) (by decide),fit1 (c:=c) (n:=n) (i:=1) (by decide) (by decide),fit2 (c:=c) (n:=n) (i:=2) (by decide) (by decide),fit3 (c:=c) (n:=n) (i:=2) (by decide) (by decide) (by omega) (by omega),fit4,fit5,fit6,get1,get2,get3,get4] at hh;exact ⟨hk',fun _=>by omega,fun _=>by omega,fun _=>by omega,fun _=>by omega,fun _=>by omega,fun _=>by omega,fun _=>by omega⟩
namespace fAa
structure Keep (t t':T) (a b:Int):Prop where
 g:get t' a b = get t a b
 u:∀ p,under t' (get t a b) p = under t (get t a b) p
theorem Keep.refl (t:T) (a b:Int):Keep t t a b:=⟨rfl,fun _=>rfl⟩
theorem Keep.trans {t t' t'':T} {a b:Int} (h:Keep t t' a b) (h':Keep t' t'' a b):Keep t t'' a b :=
 ⟨h'.g.trans h.g,fun p=>by have:=h'.u p; rw [h.g] at this; rw [this]; exact h.u p⟩
theorem keep_put {t:T} (ok:Ok t) {e s:Int} (h:has t e s = true) (h0:(get t e s).fBa = 0) {c:Cap} (hc:0 <= c.fCa->has t c.fCa c.fDa = true/\(get t c.fCa c.fDa).fBa ≠ 0) {a b:Int} (hab:has t a b = true) (hne:(get t a b).fBa ≠ 0):Keep t (put t e s c) a b :=
 ⟨by rw [get_put ok.row h hab,if_neg]; rintro ⟨rfl,rfl⟩; exact hne h0,fun p=>under_put ok h h0 hc p _ a b (le_refl _) hab hne⟩
theorem keep_empties {t:T} (ok:Ok t) {l:List bX} (hl:∀ p ∈ l,has t p.fCa p.fDa = true)
  (cl:∀ e s,has t e s = true->(get t e s).fBa ≠ 0->0 <= (get t e s).fCa->(⟨(get t e s).fCa,(get t e s).fDa⟩:bX) ∈ l->(⟨e,s⟩:bX) ∈ l) {a b:Int} (hab:has t a b = true) (hne:(get t a b).fBa ≠ 0) (hm:(⟨a,b⟩:bX) ∉ l):Keep t (fVa t l) a b :=
 ⟨by rw [jF l t ok.row hl a b hab,if_neg hm],fun p=>under_empties ok hl cl p _ a b (le_refl _) hab hne hm⟩
theorem cap_zero {n:Int} {t:T} (F:eV n t) {e s:Int} (h:has t e s = true) (h0:(get t e s).fBa = 0):get t e s = mF:=by
 rcases F e s h with e1 | e1 | e1
 ·exact e1
 ·rw [e1.1] at h0; cases h0
 ·have:=(da e1.2.2.2.1).1; omega
theorem put_put {t:T} {e s:Int} (c d:Cap) (h:has t e s = true):put (put t e s c) e s d = put t e s d:=by
 obtain ⟨m,n,rfl,rfl,hm,hn⟩:=has_nat h;simp [put,hm]
theorem put_self {t:T} (row:∀ r ∈ t,r.length = 8) {e s:Int} (h:has t e s = true):put t e s (get t e s) = t:=by
 obtain ⟨m,n,rfl,rfl,hm,hn⟩:=has_nat h;obtain ⟨h3,hg⟩:=get_nat' row hm hn;rw [put_nat hm,hg];simp
theorem single {l:List bX} {p:bX} (nd:l.Nodup) (h:∀ x,x ∈ l↔x = p):l = [p]:=by
 match l,nd,h with
 | [],_,h=>exact absurd ((h p).2 rfl) (by simp)
 | [a],_,h=>rw [(h a).1 (by simp)]
 | a::b::l,nd,h =>
  have e1:=(h a).1 (by simp);have e2:=(h b).1 (by simp);rw [e1,e2] at nd;simp at nd
theorem own_leaf {t:T} (ok:Ok t) {e s:Int} (h:has t e s = true) (hne:(get t e s).fBa ≠ 0) (hl:∀ a b,has t a b = true->(get t a b).fBa ≠ 0->under t (get t a b) ⟨e,s⟩ = false):own t e s = [⟨e,s⟩]:=by
 refine single (vV _ _ _) fun x=>?_;constructor
 ·intro hx;have h1:=(mem_own ok).1 hx;rcases h1.2.2 with h2 | h2
  ·exact h2
  ·rw [hl _ _ h1.1 h1.2.1] at h2; cases h2
 ·rintro rfl;exact (mem_own ok).2 ⟨h,hne,.inl rfl⟩
end fAa
end
section
open Go Mb
namespace fAa
theorem rS:∀ (l m:List bX) (t:T),fVa t (l++m) = fVa (fVa t l) m
 | [],_,_=>rfl
 | p::l,m,t=>by simp only [List.cons_append,fVa]; exact rS l m _
def fZa (t:T) (e s:Int) (w:Bool):List bX:=if w = true then below t e s++[⟨e,s⟩] else below t e s
theorem mem_goers {t:T} (ok:Ok t) {e s:Int} {w:Bool} (h:has t e s = true) (hn:(get t e s).fBa ≠ 0) {p:bX}:p ∈ fZa t e s w↔has t p.fCa p.fDa = true/\(get t p.fCa p.fDa).fBa ≠ 0/\((w = true/\p = ⟨e,s⟩)\/under t (get t p.fCa p.fDa) ⟨e,s⟩ = true):=by
 unfold fZa;cases w with
 | false =>
  rw [if_neg Bool.false_ne_true,mem_below ok];constructor
  ·exact fun ⟨a,b,c⟩=>⟨a,b,.inr c⟩
  ·rintro ⟨a,b,c | c⟩
   ·cases c.1
   ·exact ⟨a,b,c⟩
 | true =>
  rw [if_pos rfl,List.mem_append,mem_below ok,List.mem_singleton];constructor
  ·rintro (⟨a,b,c⟩ | rfl)
   ·exact ⟨a,b,.inr c⟩
   ·exact ⟨h,hn,.inl ⟨rfl,rfl⟩⟩
  ·rintro ⟨a,b,c | c⟩
   ·exact .inr c.2
   ·exact .inl ⟨a,b,c⟩
theorem goers_nd {t:T} (ok:Ok t) {e s:Int} {w:Bool} (h:has t e s = true):(fZa t e s w).Nodup:=by
 unfold fZa;split
 ·refine List.nodup_append.2 ⟨vV _ _ _,by simp,fun a ha b hb hab=>?_⟩;rw [List.mem_singleton] at hb;subst hb; subst hab;have:=((mem_below ok).1 ha).2.2;rw [not_under_self ok h] at this;cases this
 ·exact vV _ _ _
theorem goers_cl {t:T} (ok:Ok t) {e s:Int} {w:Bool} (h:has t e s = true) (hn:(get t e s).fBa ≠ 0):∀ a b,has t a b = true->(get t a b).fBa ≠ 0->0 <= (get t a b).fCa->(⟨(get t a b).fCa,(get t a b).fDa⟩:bX) ∈ fZa t e s w->(⟨a,b⟩:bX) ∈ fZa t e s w:=by
 intro a b hab hne hen hp;have h1:=(mem_goers ok h hn).1 hp;refine (mem_goers ok h hn).2 ⟨hab,hne,.inr ?_⟩;rw [under_step ok hab,if_pos ⟨hne,hen⟩];split
 ·rfl
 ·rename_i hno;rcases h1.2.2 with h2 | h2
  ·exact absurd ⟨congrArg aH.fCa h2.2,congrArg aH.fDa h2.2⟩ hno
  ·exact h2
theorem goers_has {t:T} (ok:Ok t) {e s:Int} {w:Bool} (h:has t e s = true) (hn:(get t e s).fBa ≠ 0):∀ p ∈ fZa t e s w,has t p.fCa p.fDa = true:=fun _ hp=>((mem_goers ok h hn).1 hp).1
theorem drop_after {t:T} (ok:Ok t) {e s:Int} (h:has t e s = true) (hn:(get t e s).fBa ≠ 0):drop (fVa t (below t e s)) e s = (([⟨e,s⟩],0),fVa t (fZa t e s true)):=by
 have ok1:=ok_below ok e s;have hl:∀ p ∈ below t e s,has t p.fCa p.fDa = true:=fun p hp=>((mem_below ok).1 hp).1;have hself:(⟨e,s⟩:bX) ∉ below t e s:=fun hm=>by
  have:=((mem_below ok).1 hm).2.2;rw [not_under_self ok h] at this; cases this
 have hg:get (fVa t (below t e s)) e s = get t e s:=by rw [jF _ t ok.row hl e s h,if_neg hself]
 have hh:has (fVa t (below t e s)) e s = true:=by rw [empties_has]; exact h
 have ho:own (fVa t (below t e s)) e s = [⟨e,s⟩]:=by
  refine own_leaf ok1 hh (by rw [hg]; exact hn) fun a b hab hne=>?_;rw [empties_has] at hab;rw [jF _ t ok.row hl a b hab] at hne ⊢;by_cases hm:(⟨a,b⟩:bX) ∈ below t e s
  ·rw [if_pos hm] at hne; exact absurd rfl hne
  ·rw [if_neg hm] at hne ⊢;rw [under_empties ok hl (below_closed ok e s) _ _ a b (le_refl _) hab hne hm];cases hu:under t (get t a b) ⟨e,s⟩ with
   | false=>rfl
   | true=>exact absurd ((mem_below ok).2 ⟨hab,hne,hu⟩) hm
 unfold drop;have hlook:look (fVa t (below t e s)) e s = 0:=by unfold look; rw [hh,hg,if_neg (by simp),if_neg hn]
 rw [if_neg (by rw [hlook]; simp),ho];unfold fZa;rw [if_pos rfl,rS]
end fAa
theorem unmaps_get {ps:List Pte} (hl:ps.length = 8):∀ (l:List Int) {ps:List Pte},ps.length = 8->∀ pg,Table.get (PK.unmaps ps l) pg = if pg ∈ l then (dc,false) else Table.get ps pg
 | [],_,_,pg=>by simp [PK.unmaps]
 | i::l,ps,hl,pg=>by
  rw [PK.unmaps,unmaps_get hl l (by rw [Table.remove_len]; exact hl) pg,Table.get_remove hl];by_cases h1:pg ∈ l
  ·rw [if_pos h1,if_pos (by simp [h1])]
  ·rw [if_neg h1];by_cases h2:pg = i
   ·rw [if_pos h2,if_pos (by simp [h2])]
   ·rw [if_neg h2,if_neg (by simp [h1,h2])]
theorem unmap_get {ps:List Pte} (hl:ps.length = 8) (s pg:Int):(Table.get (PK.unmap ps s) pg).1 = if (Table.get ps pg).1.fBa ≠ 0/\(Table.get ps pg).1.fDa = s then dc else (Table.get ps pg).1:=by
 unfold PK.unmap;rw [unmaps_get hl _ hl];by_cases h:pg ∈ Table.by_ ps s
 ·have:=(Table.mem_by hl).1 h;rw [Table.get_snd] at this;rw [if_pos h,if_pos ⟨by simpa using this.1,this.2⟩]
 ·rw [if_neg h,if_neg];rintro ⟨h1,h2⟩;exact h ((Table.mem_by hl).2 ⟨by rw [Table.get_snd]; simpa using h1,h2⟩)
namespace PK
theorem gone_same:∀ (l:List bX) (k:PK) (f:Int),(gone k f l).caps = k.caps/\(gone k f l).s = k.s/\(gone k f l).m = k.m
 | [],_,_=>⟨rfl,rfl,rfl⟩
 | p::l,k,f=>by
  have:=gone_same l { k with tabs:=k.tabs.set p.fCa.toNat (unmap (tab k p.fCa) p.fDa),pool:=(Pool.lets k.pool f).2.2 } f;exact this
theorem gone_q:∀ (l:List bX) {k:PK} (_:PK.Ok k) (f:Int),(∀ p ∈ l,off k p.fCa = false)->∀ e pg,q (gone k f l) e pg = if (q k e pg).fBa ≠ 0/\(⟨e,(q k e pg).fDa⟩:bX) ∈ l then dc else q k e pg
 | [],k,_,_,_,e,pg=>by simp [gone]
 | p::l,k,ok,f,hl,e,pg=>by
  have hp:=hl p (by simp);have ht:=tab_in ok hp;have h1:=lets_fine ok.pr f;have h2:=ok_tabs ok p.fCa (ps:=unmap (tab k p.fCa) p.fDa) (fun h=>tab_unmaps _ (tab_ok ok _ h));have h3:PK.Ok { k with tabs:=k.tabs.set p.fCa.toNat (unmap (tab k p.fCa) p.fDa),pool:=(Pool.lets k.pool f).2.2 } :=
   ⟨h2.sz,h2.ml,h2.mr,h2.tl,h2.tr,by rw [← ok.pl]; exact congrArg Int.ofNat h1.1,h1.2,h2.cl,h2.tree,h2.fine⟩
  have hq:q { k with tabs:=k.tabs.set p.fCa.toNat (unmap (tab k p.fCa) p.fDa),pool:=(Pool.lets k.pool f).2.2 } e pg = if (q k e pg).fBa ≠ 0/\(⟨e,(q k e pg).fDa⟩:bX) = p then dc else q k e pg:=by
   have h4:q { k with tabs:=k.tabs.set p.fCa.toNat (unmap (tab k p.fCa) p.fDa),pool:=(Pool.lets k.pool f).2.2 } e pg = q { k with tabs:=k.tabs.set p.fCa.toNat (unmap (tab k p.fCa) p.fDa) } e pg:=q_same rfl rfl e pg;rw [h4,q_tabs ok hp];by_cases he:e = p.fCa
   ·subst he;rw [if_pos rfl,unmap_get ht.2,← q_get hp];by_cases hs:(q k p.fCa pg).fBa ≠ 0/\(q k p.fCa pg).fDa = p.fDa
    ·rw [if_pos hs,if_pos ⟨hs.1,by rw [hs.2]⟩]
    ·rw [if_neg hs,if_neg];rintro ⟨a,b⟩;exact hs ⟨a,congrArg aH.fDa b⟩
   ·rw [if_neg he,if_neg];rintro ⟨_,b⟩;exact he (congrArg aH.fCa b)
  have ih:=gone_q l h3 f (fun x hx=>hl x (by simp [hx])) e pg;show q (gone _ f l) e pg = _;rw [ih,hq];by_cases c1:(q k e pg).fBa ≠ 0/\(⟨e,(q k e pg).fDa⟩:bX) = p
  ·rw [if_pos c1,if_neg (fun h=>h.1 rfl),if_pos ⟨c1.1,by rw [c1.2]; simp⟩]
  ·rw [if_neg c1];by_cases c2:(q k e pg).fBa ≠ 0/\(⟨e,(q k e pg).fDa⟩:bX) ∈ l
   ·rw [if_pos c2,if_pos ⟨c2.1,by simp [c2.2]⟩]
   ·rw [if_neg c2,if_neg];rintro ⟨a,b⟩;rcases List.mem_cons.1 b with b | b
    ·exact c1 ⟨a,b⟩
    ·exact c2 ⟨a,b⟩
theorem refs_nn {p:List Int} {g:Int} (hg:0 <= g):Pool.refs p g = (p[g.toNat]?).getD 0:=by unfold Pool.refs; rw [if_neg (show ¬ g < 0 by omega),getD_eq_getElem?_getD]
theorem refs_set {p:List Int} {i:Int} (h0:0 <= i) (h1:i < p.length) (v g:Int) (hg:0 <= g):Pool.refs (p.set i.toNat v) g = if g = i then v else Pool.refs p g:=by
 rw [refs_nn hg,refs_nn hg,List.getElem?_set];by_cases e:g = i
 ·subst e;rw [if_pos rfl,if_pos rfl,if_pos (show g.toNat < p.length by omega)]; rfl
 ·rw [if_neg (show ¬ i.toNat = g.toNat by omega),if_neg e]
theorem refs_in {p:List Int} {i:Int} (h:Pool.refs p i ≠ 0):0 <= i/\i < p.length:=by
 unfold Pool.refs at h;split at h
 ·exact absurd rfl h
 ·refine ⟨by omega,?_⟩;by_cases hi:i.toNat < p.length
  ·omega
  ·simp [getD_eq_getElem?_getD,List.getElem?_eq_none (Nat.le_of_not_lt hi)] at h
theorem gone_pool:∀ (l:List bX) {k:PK} (f:Int),(∀ n ∈ k.pool,0 <= n/\n <= 7)->(l.length:Int) <= Pool.refs k.pool f->∀ g,0 <= g->Pool.refs (gone k f l).pool g = if g = f then Pool.refs k.pool f - l.length else Pool.refs k.pool g
 | [],k,f,_,_,g,_=>by simp only [gone,List.length_nil]; split <;> simp_all
 | p::l,k,f,hk,hl,g,hg=>by
  simp only [List.length_cons] at hl ⊢;have hr:=refs_fine hk f;have hne:Pool.refs k.pool f ≠ 0:=by omega
  have hin:=refs_in hne;have hlets:(Pool.lets k.pool f).2.2 = k.pool.set f.toNat (Pool.refs k.pool f - 1):=by
   unfold Pool.lets; rw [if_neg hne];show k.pool.set f.toNat (i64.wrap (Pool.refs k.pool f - 1)) = _;rw [wrapR (by omega) (by omega)]
  have h2:Pool.refs (Pool.lets k.pool f).2.2 f = Pool.refs k.pool f - 1:=by rw [hlets,refs_set hin.1 hin.2 _ _ hin.1,if_pos rfl]
  have ih:=gone_pool l (k:={ k with tabs:=k.tabs.set p.fCa.toNat (unmap (tab k p.fCa) p.fDa),pool:=(Pool.lets k.pool f).2.2 }) f (lets_fine hk f).2 (by show (l.length:Int) <= Pool.refs (Pool.lets k.pool f).2.2 f; rw [h2]; omega) g hg;show Pool.refs (gone _ f l).pool g = _;rw [ih];by_cases e:g = f
  ·rw [if_pos e,if_pos e];show Pool.refs (Pool.lets k.pool f).2.2 f - _ = _;rw [h2]; omega
  ·rw [if_neg e,if_neg e];show Pool.refs (Pool.lets k.pool f).2.2 g = _;rw [hlets,refs_set hin.1 hin.2 _ _ hg,if_neg e]
end PK
end
section
open Go Mb
theorem idx_spec (a:Int):∀ (xs:List Int) (i:Int),(fL a xs i = -1/\a ∉ xs)\/∃ n:Nat,fL a xs i = i + n/\xs[n]? = some a/\∀ m,m < n->xs[m]? ≠ some a
 | [],_=>.inl ⟨rfl,by simp⟩
 | x::xs,i=>by
  unfold fL;split
  ·rename_i h; subst h;exact .inr ⟨0,by simp,rfl,fun m hm=>by omega⟩
  ·rename_i h;rcases idx_spec a xs (i + 1) with ⟨h1,h2⟩ | ⟨n,h1,h2,h3⟩
   ·exact .inl ⟨h1,by simp [h,h2]⟩
   ·refine .inr ⟨n + 1,by rw [h1]; omega,h2,fun m hm=>?_⟩;cases m with
    | zero=>simp; exact fun e=>h e.symm
    | succ m=>exact h3 m (by omega)
namespace fAa
theorem under_empty {t:T} (ok:Ok t) {p:bX} (h0:(get t p.fCa p.fDa).fBa = 0):∀ (n:Nat) (a b:Int),deep 40 t (get t a b) <= n->has t a b = true->under t (get t a b) p = false:=by
 intro n
 induction n with
 | zero =>
  intro a b hd hab;rw [under_step ok hab];by_cases hen:(get t a b).fBa ≠ 0/\0 <= (get t a b).fCa
  ·have:=deep_step ok hab hen; omega
  ·rw [if_neg hen]
 | succ n ih =>
  intro a b hd hab;rw [under_step ok hab];by_cases hen:(get t a b).fBa ≠ 0/\0 <= (get t a b).fCa
  ·have hd2:=deep_step ok hab hen;obtain ⟨p1,p2⟩:=parent_has ok hab hen.1 hen.2;rw [if_pos hen,if_neg,ih _ _ (by omega) p1];rintro ⟨e1,e2⟩;rw [e1,e2] at p2; exact p2 h0
  ·rw [if_neg hen]
theorem cnt_put0 (f:Int) {t:T} (row:∀ r ∈ t,r.length = 8) {e s:Int} (h:has t e s = true) (h0:(get t e s).fBa = 0) {c:Cap} (hc:c.fBa ≠ 0):cnt f (put t e s c) = cnt f t + (if c.fEa = f then 1 else 0):=by
 have h1:=cnt_put f row h c;have h2:b2n (isF f (get t e s)) = 0:=by unfold b2n isF; simp [h0]
 have h3:b2n (isF f c) = if c.fEa = f then 1 else 0:=by unfold b2n isF; by_cases e:c.fEa = f <;> simp [hc,e]
 omega
end fAa
namespace PK
structure Mv (k k':PK):Prop where
 fine:Fine k'
 s:k'.s = k.s
 keep:∀ e pg,(q k e pg).fBa ≠ 0->(q k' e pg).fBa ≠ 0->fAa.Keep k.caps k'.caps e (q k e pg).fDa
def Mono (k k':PK):Prop:=∀ e pg,(q k e pg).fBa ≠ 0->q k' e pg = q k e pg
theorem Mv.refl {k:PK} (F:Fine k):Mv k k:=⟨F,rfl,fun _ _ _ _=>fAa.Keep.refl _ _ _⟩
theorem Mono.refl (k:PK):Mono k k:=fun _ _ _=>rfl
theorem has_iff {k:PK} (ok:PK.Ok k) {e s:Int}:fAa.has k.caps e s = true↔off k e = false/\0 <= s/\s < 8:=by
 have:=ok.cl;rw [off_iff];unfold fAa.has;constructor
 ·intro h; have:=of_decide_eq_true h; omega
 ·intro h; exact decide_eq_true (by omega)
theorem fine_frame {n:Int} {t:fAa.T} (F:eV n t) {e s:Int} (h:fAa.has t e s = true) (hr:(fAa.get t e s).fBa ≠ 0):0 <= (fAa.get t e s).fEa/\(fAa.get t e s).fEa < n:=by
 rcases F e s h with e1 | e1 | e1
 ·rw [e1] at hr; exact absurd rfl hr
 ·exact ⟨e1.2.2.2.1,e1.2.2.2.2⟩
 ·exact ⟨e1.2.1,e1.2.2.1⟩
theorem mv_put {k k':PK} (F:Fine k) (ok':PK.Ok k') {e s:Int} {c:Cap} (hs:k'.s = k.s) (ht:k'.tabs = k.tabs) (hh:fAa.has k.caps e s = true) (h0:(fAa.get k.caps e s).fBa = 0) (hc:0 <= c.fCa->fAa.has k.caps c.fCa c.fDa = true/\(fAa.get k.caps c.fCa c.fDa).fBa ≠ 0)
  (hcaps:k'.caps = fAa.put k.caps e s c) (num:∀ f:Int,0 <= f->f < k'.s.fCb->Pool.refs k'.pool f = fAa.cnt f k'.caps):Mv k k'/\Mono k k':=by
 have qs:=q_same ht hs;have kp:∀ a b,fAa.has k.caps a b = true->(fAa.get k.caps a b).fBa ≠ 0->fAa.Keep k.caps k'.caps a b:=fun a b h1 h2=>by rw [hcaps]; exact fAa.keep_put F.ok.tree hh h0 hc h1 h2
 refine ⟨⟨⟨ok',fun a pg hq=>?_,num⟩,hs,fun a pg hq _=>?_⟩,fun a pg _=>qs a pg⟩
 ·rw [qs] at hq ⊢;obtain ⟨h1,h2,h3⟩:=F.by_ a pg hq;have hn:(fAa.get k.caps a (q k a pg).fDa).fBa ≠ 0:=by have:=(da h3).2; omega
  have:=(kp a _ h1 hn).g;rw [this];exact ⟨by rw [hcaps,fAa.put_has]; exact h1,h2,h3⟩
 ·obtain ⟨h1,h2,h3⟩:=F.by_ a pg hq;exact kp a _ h1 (by have:=(da h3).2; omega)
theorem qd (t:fAa.T) (e s:Int):(fAa.at_ t e s).2 = true↔fAa.has t e s = true/\(fAa.get t e s).fBa ≠ 0:=by
 unfold fAa.at_; split <;> simp_all
theorem at_of {t:fAa.T} {e s:Int} (h:fAa.has t e s = true) (hr:(fAa.get t e s).fBa ≠ 0):fAa.at_ t e s = (fAa.get t e s,true):=by unfold fAa.at_; rw [if_pos ⟨h,hr⟩]
theorem mv_alloc {k:PK} (F:Fine k) {e s:Int} (hh:fAa.has k.caps e s = true):Mv k (alloc k e s).2/\Mono k (alloc k e s).2:=by
 have oka:=ok_alloc F.ok e s;unfold alloc at oka ⊢;split
 ·exact ⟨.refl F,.refl k⟩
 ·rename_i h1;rw [if_neg h1] at oka;split
  ·exact ⟨.refl F,.refl k⟩
  ·rename_i h2;rw [if_neg h2] at oka;have h0:(fAa.get k.caps e s).fBa = 0:=by
    cases Decidable.em ((fAa.get k.caps e s).fBa = 0) with
    | inl h=>exact h
    | inr h=>exact absurd ((qd _ _ _).2 ⟨hh,h⟩) h1
   have ht:=take_in (by simpa using h2);have hsz:=fV.1 F.ok.sz;have hpl:=F.ok.pl;have hroot:fAa.root k.caps e s (Pool.take k.pool).1 = (0,fAa.put k.caps e s ⟨(Pool.take k.pool).1,3,-1,0⟩):=by
    unfold fAa.root;rw [if_neg (by rw [hh]; simp; omega),if_neg (by simp [h0])]
   rw [hroot] at oka ⊢;refine mv_put F oka rfl rfl hh h0 (fun h=>absurd h (by show ¬ (0:Int) <= -1; omega)) rfl fun f f0 f1=>?_;rcases idx_spec 0 k.pool 0 with ⟨i1,_⟩ | ⟨n,i1,i2,_⟩
   ·exfalso; apply h2; unfold Pool.take; rw [if_pos (by rw [i1]; decide)]
   ·have htk:Pool.take k.pool = ((n:Int),true,k.pool.set n 1):=by
     unfold Pool.take; rw [if_neg (by rw [i1]; omega),i1]; simp
    rw [htk];have hn:=(List.getElem?_eq_some_iff.1 i2).1;show Pool.refs (k.pool.set n 1) f = (fAa.cnt f (fAa.put k.caps e s ⟨(n:Int),3,-1,0⟩):Int)
    rw [fAa.cnt_put0 f F.ok.tree.row hh h0 (show (3:Int) ≠ 0 by decide)];have:=refs_set (p:=k.pool) (i:=(n:Int)) (by omega) (by omega) 1 f f0;rw [Int.toNat_natCast] at this;rw [this];have hnum:=F.num f f0 f1;by_cases e1:f = n
    ·subst e1;rw [if_pos rfl,if_pos rfl];rw [refs_nn (by omega),Int.toNat_natCast,i2] at hnum;simp at hnum;omega
    ·rw [if_neg e1,if_neg (by simp; omega),hnum]; simp
theorem mv_derive {k:PK} (F:Fine k) {e src to dst r:Int} (h1:fAa.has k.caps e src = true) (h2:fAa.has k.caps to dst = true):Mv k (derive k e src to dst r).2/\Mono k (derive k e src to dst r).2:=by
 have oka:=ok_derive F.ok e src to dst r;unfold derive at oka ⊢;split
 ·exact ⟨.refl F,.refl k⟩
 ·rename_i h0;rw [if_neg h0] at oka;have hd:ch r = true/\(fAa.get k.caps e src).fBa ≠ 0/\(fAa.get k.caps to dst).fBa = 0/\fAa.derive k.caps e src to dst r = (0,fAa.put k.caps to dst ⟨(fAa.get k.caps e src).fEa,r,e,src⟩):=by
   unfold fAa.derive at h0 ⊢;split at h0
   ·exact absurd (by simp) h0
   ·rename_i c1;rw [if_neg c1];split at h0
    ·exact absurd (by simp) h0
    ·rename_i c2;rw [if_neg c2];split at h0
     ·exact absurd (by simp) h0
     ·rename_i c3;rw [if_neg c3];split at h0
      ·exact absurd (by simp) h0
      ·rename_i c4;rw [if_neg c4];simp only [not_or,Bool.not_eq_false] at c1;exact ⟨c1.2.2,c2,by simpa using c3,rfl⟩
  obtain ⟨hm,hsr,hds,he⟩:=hd;have hr0:r ≠ 0:=by have:=vM.1 hm; omega
  have hev:0 <= e:=((has_iff F.ok).1 h1).1 |> fun h=>(off_iff.1 h).1;rw [he] at oka ⊢;have hpg:fAa.get (fAa.put k.caps to dst ⟨(fAa.get k.caps e src).fEa,r,e,src⟩) to dst = ⟨(fAa.get k.caps e src).fEa,r,e,src⟩:=by rw [fAa.get_put F.ok.tree.row h2 h2,if_pos ⟨rfl,rfl⟩]
  have hat:fAa.at_ (fAa.put k.caps to dst ⟨(fAa.get k.caps e src).fEa,r,e,src⟩) to dst = (⟨(fAa.get k.caps e src).fEa,r,e,src⟩,true):=by
   rw [at_of (by rw [fAa.put_has]; exact h2) (by rw [hpg]; exact hr0),hpg]
  have hc:0 <= e->fAa.has k.caps e src = true/\(fAa.get k.caps e src).fBa ≠ 0:=fun _=>⟨h1,hsr⟩
  have hfr:=fine_frame F.ok.fine h1 hsr;have hpos:=fAa.cnt_pos F.ok.tree.row h1 hsr rfl;have hnum:=F.num _ hfr.1 hfr.2;simp only [hat] at oka ⊢;split
  ·rename_i h3;have okp:=fAa.ok_put F.ok.tree h2 hds ⟨(fAa.get k.caps e src).fEa,r,e,src⟩ hc;have hleaf:fAa.drop (fAa.put k.caps to dst ⟨(fAa.get k.caps e src).fEa,r,e,src⟩) to dst = (([⟨to,dst⟩],0),k.caps):=by
    have ho:fAa.own (fAa.put k.caps to dst ⟨(fAa.get k.caps e src).fEa,r,e,src⟩) to dst = [⟨to,dst⟩]:=by
     refine fAa.own_leaf okp (by rw [fAa.put_has]; exact h2) (by rw [hpg]; exact hr0) fun a b hab hne=>?_;rw [fAa.put_has] at hab;by_cases hs:a = to/\b = dst
     ·obtain ⟨rfl,rfl⟩:=hs;exact fAa.not_under_self okp (by rw [fAa.put_has]; exact h2)
     ·have hg:fAa.get (fAa.put k.caps to dst ⟨(fAa.get k.caps e src).fEa,r,e,src⟩) a b = fAa.get k.caps a b:=by rw [fAa.get_put F.ok.tree.row h2 hab,if_neg hs]
      rw [hg] at hne ⊢;rw [fAa.under_put F.ok.tree h2 hds hc _ _ a b (le_refl _) hab hne];exact fAa.under_empty F.ok.tree (p:=⟨to,dst⟩) hds _ a b (le_refl _) hab
    have hlook:fAa.look (fAa.put k.caps to dst ⟨(fAa.get k.caps e src).fEa,r,e,src⟩) to dst = 0:=by
     unfold fAa.look; rw [if_neg (by rw [fAa.put_has,h2]; simp),if_neg (by rw [hpg]; exact hr0)]
    unfold fAa.drop;rw [if_neg (by rw [hlook]; simp),ho];show ((_,_),fAa.put (fAa.put k.caps to dst _) to dst mF) = _;rw [fAa.put_put _ _ h2,← fAa.cap_zero F.ok.fine h2 hds,fAa.put_self F.ok.tree.row h2]
   rw [hleaf];exact ⟨.refl F,.refl k⟩
  ·rename_i h3;rw [if_neg h3] at oka;refine mv_put F oka rfl rfl h2 hds hc rfl fun f f0 f1=>?_;have hh:Pool.hold k.pool (fAa.get k.caps e src).fEa = (true,k.pool.set (fAa.get k.caps e src).fEa.toNat (Pool.refs k.pool (fAa.get k.caps e src).fEa + 1)):=by
    unfold Pool.hold at h3 ⊢;split at h3
    ·exact absurd rfl h3
    ·rename_i c1;have hrf:=refs_fine F.ok.pr (fAa.get k.caps e src).fEa;rw [if_neg c1,wrapR (by omega) (by omega)]
   rw [hh];show Pool.refs (k.pool.set _ _) f = (fAa.cnt f (fAa.put k.caps to dst _):Int)
   rw [fAa.cnt_put0 f F.ok.tree.row h2 hds (show r ≠ 0 from hr0)];have hpl:=F.ok.pl;rw [refs_set hfr.1 (by omega) _ f f0];have hnf:=F.num f f0 f1;by_cases e1:f = (fAa.get k.caps e src).fEa
   ·rw [if_pos e1,if_pos e1.symm,← e1,hnf]; simp
   ·rw [if_neg e1,if_neg (fun h=>e1 h.symm),hnf]; simp
end PK
end
end Go.Proofs.YtochchocdckegaaGreatDoor
