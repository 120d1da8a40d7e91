/- Part of the proof of: The law RaceGrant returns true for every input, and leaves its arguments as they were. -/
import Derived.Test.YtmggcfijlpldpaaGreatDoorRaceGrant05
set_option linter.all false
set_option maxRecDepth 20000
namespace Go.Proofs.YtmggcfijlpldpaaGreatDoor
open Go Mb
abbrev jx:=ah
namespace Word
def kinds (k:Int):List Int :=
  if k = 1∨k = 4∨k = 5 then [0] else if k = 2 then [0,0,4] else if k = 3 then [0,3,0,4] else if k = 6 then [1,0,4] else if k = 7 then [1] else if k = 8 then [1,4]
  else if k = 9 then [0,2,5,6] else if k = 20 then [1,2] else if k = 21∨k = 23 then [1,2,6] else if k = 22 then [1,2,6,6] else []
def arg (c:jx) (i m:Int):Int × Bool:=if i < 1∨i ≥ 5∨m ≤ 0∨ah.get c i ≥ IntKind.u64.wrap m then (0,false) else (IntKind.i64.wrap (ah.get c i),true)
def fits (c:jx) (i k envs:Int):Bool :=
  if k = 0 then (arg c i 8).2 else if k = 1 then (arg c i 8).2 else if k = 2 then (arg c i 16).2 else if k = 3 then (arg c i envs).2
  else if k = 4 then (kW (ah.get c i)).2 else if k = 5 then decide (ah.get c i ≥ 1) && decide (ah.get c i ≤ 4) else true
def checks (c:jx) (envs:Int):List Int→Int→Int
  | [],_=>0
  | k::ks,i=>if fits c i k envs = true then checks c envs ks (i + 1) else 2
def check (c:jx) (envs:Int):Int:=if (aC c).2 = false then 1 else checks c envs (kinds (aC c).1) 1
theorem kinds_len (k:Int):(kinds k).length ≤ 4:=by
  unfold kinds; repeat' split
  all_goals simp
end Word
theorem vec_nil' {xs:List Int} (hx:xs = []) {l:List As} {h:Hp} (s:aE l h):aE (vI (⟨none,0,0,none⟩:Sl) xs::l) h:=by subst hx; exact fC s
theorem ib {l:List As} {h:Hp} {K:Sl→Hp→Prop} (xs:List Int) (s:aE l h) {n:Nat} {ps:Array (Nat × Value)} (hps:ps = (pts (fun x=>.int .i64 x) 0 xs).toArray) (hn:n = xs.length) (hb:n ≤ 2 ^ 24)
    (k:∀ v h',aE (vI v xs::l) h'→K v h'):hpv Tryz.prog (Instr.buildSlice dB n ps) ct K h :=
  fh (τ:=Int) xs (val:=fun x=>.int .i64 x) (enc:=cI .i64) el_Sint (cW _) (fun _=>rfl) s hps hn (by omega) k
theorem sp_word_kinds (k:Int):Sp Tryz.prog rL [.int .i64 k] ct [] (fun r=>aE [vI r (Word.kinds k)]):=by
  intro h st
  refine sim_word_kinds _ ?_
  unfold sh_word_kinds
  have one:∀ (xs:List Int) (v:Sl) (h':Hp),Word.kinds k = xs→aE [vI v xs] h'→aE [vI v (Word.kinds k)] h':=by
    intro xs v h' e s; rw [e]; exact s
  have j1:k = 1∨k = 4∨k = 5→iQ k (fun r=>aE [vI r (Word.kinds k)]) true h:=by
    intro hk
    unfold iQ
    exact dc rfl (ib [0] st rfl rfl (by decide) fun v h' s=>one _ v h' (if_pos hk) s)
  refine aV (fun c=>?_) (fun c=>?_)
  · rw [c]; exact j1 (.inl (by simpa using c))
  have n1:k ≠ 1:=by simpa using c
  refine aV (fun c4=>?_) (fun c4=>?_)
  · rw [c4]; exact j1 (.inr (.inl (by simpa using c4)))
  have n4:k ≠ 4:=by simpa using c4
  by_cases h5:k = 5
  · have:(k == 5) = true:=by simpa using h5
    rw [this]; exact j1 (.inr (.inr h5))
  have:(k == 5) = false:=by simpa using h5
  rw [this]
  have hu:∀ {xs:List Int},xs = Word.kinds k→Word.kinds k = xs:=fun e=>e.symm
  unfold iQ
  refine cZ rfl ?_
  refine aV (fun c=>?_) (fun c=>?_)
  · have e:k = 2:=by simpa using c
    subst e; exact ib [0,0,4] st rfl rfl (by decide) fun v h' s=>s
  refine aV (fun c=>?_) (fun c=>?_)
  · have e:k = 3:=by simpa using c
    subst e; exact ib [0,3,0,4] st rfl rfl (by decide) fun v h' s=>s
  refine aV (fun c=>?_) (fun c=>?_)
  · have e:k = 6:=by simpa using c
    subst e; exact ib [1,0,4] st rfl rfl (by decide) fun v h' s=>s
  refine aV (fun c=>?_) (fun c=>?_)
  · have e:k = 7:=by simpa using c
    subst e; exact ib [1] st rfl rfl (by decide) fun v h' s=>s
  refine aV (fun c=>?_) (fun c=>?_)
  · have e:k = 8:=by simpa using c
    subst e; exact ib [1,4] st rfl rfl (by decide) fun v h' s=>s
  refine aV (fun c=>?_) (fun c=>?_)
  · have e:k = 9:=by simpa using c
    subst e; exact ib [0,2,5,6] st rfl rfl (by decide) fun v h' s=>s
  refine aV (fun c=>?_) (fun c=>?_)
  · have e:k = 20:=by simpa using c
    subst e; exact ib [1,2] st rfl rfl (by decide) fun v h' s=>s
  refine aV (fun c=>?_) (fun c=>?_)
  · have e:k = 21:=by simpa using c
    subst e
    unfold mn
    exact dc rfl (ib [1,2,6] st rfl rfl (by decide) fun v h' s=>s)
  unfold mn
  refine aV (fun c=>?_) (fun c=>?_)
  · have e:k = 23:=by simpa using c
    subst e; exact ib [1,2,6] st rfl rfl (by decide) fun v h' s=>s
  refine aV (fun c=>?_) (fun c=>?_)
  · have e:k = 22:=by simpa using c
    subst e; exact ib [1,2,6,6] st rfl rfl (by decide) fun v h' s=>s
  refine vec_nil' ?_ st
  simp_all [Word.kinds]
theorem qn (c:jx) (i m:Int):Sp Tryz.prog mQ [.agg c.C.toArray,.int .i64 i,.int .i64 m] bI [] (fun r=>pa_ (r = Word.arg c i m) []):=by
  intro h st
  refine sim_word_Arg _ _ _ ?_
  unfold sh_word_Arg
  unfold tw
  refine aV (fun k=>?_) (fun k=>?_)
  · have k':¬ (i < 1∨i ≥ 5∨m ≤ 0):=by simp at k; omega
    refine ⟨⟨by omega,by omega⟩,aV (fun k2=>?_) (fun k2=>⟨⟨by omega,by omega⟩,?_⟩)⟩
    · exact aU (by unfold Word.arg; rw [if_pos (by right; right; right; simpa using k2)]) st
    · refine aU ?_ st
      unfold Word.arg
      have k2':¬ ah.get c i ≥ IntKind.u64.wrap m:=by simpa using k2
      rw [if_neg (by omega)]
  · have k':i < 1∨i ≥ 5∨m ≤ 0:=by simp at k; omega
    exact dc rfl (aU (by unfold Word.arg; rw [if_pos (by omega)]) st)
theorem sp_word_fits (c:jx) (i k e:Int) (h0:0 ≤ i) (h5:i < 5):Sp Tryz.prog n_word_fits [.agg c.C.toArray,.int .i64 i,.int .i64 k,.int .i64 e] az [] (fun r=>pa_ (r = Word.fits c i k e) []):=by
  intro h st
  refine sim_word_fits _ _ _ _ ?_
  unfold sh_word_fits
  refine aV (fun k0=>?_) (fun k0=>?_)
  · have e0:k = 0:=by simpa using k0
    subst e0
    exact tt (qn c i 8) st fun r h' hr s=>aU (by rw [hr]; rfl) s
  refine aV (fun k1=>?_) (fun k1=>?_)
  · have e0:k = 1:=by simpa using k1
    subst e0
    exact tt (qn c i 8) st fun r h' hr s=>aU (by rw [hr]; rfl) s
  refine aV (fun k2=>?_) (fun k2=>?_)
  · have e0:k = 2:=by simpa using k2
    subst e0
    exact tt (qn c i 16) st fun r h' hr s=>aU (by rw [hr]; rfl) s
  refine aV (fun k3=>?_) (fun k3=>?_)
  · have e0:k = 3:=by simpa using k3
    subst e0
    exact tt (qn c i e) st fun r h' hr s=>aU (by rw [hr]; rfl) s
  refine aV (fun k4=>⟨⟨h0,h5⟩,?_⟩) (fun k4=>?_)
  · have e0:k = 4:=by simpa using k4
    subst e0
    exact aU rfl st
  refine aV (fun k5=>⟨⟨h0,h5⟩,?_⟩) (fun k5=>?_)
  · have e0:k = 5:=by simpa using k5
    subst e0
    exact aU rfl st
  refine aU ?_ st
  simp at k0 k1 k2 k3 k4 k5
  simp [Word.fits,k0,k1,k2,k3,k4,k5]
theorem checks_drop (c:jx) (e:Int) (ks:List Int) (n:Nat) (h:n < ks.length):Word.checks c e (ks.drop n) ((n:Int) + 1) = if Word.fits c ((n:Int) + 1) ks[n] e = true then Word.checks c e (ks.drop (n + 1)) (((n + 1:Nat):Int) + 1) else 2:=by
  rw [List.drop_eq_getElem_cons h,Word.checks]; rfl
theorem iS (c:jx) (e:Int):Sp Tryz.prog gH [.agg c.C.toArray,.int .i64 e] aZ [] (fun r=>pa_ (r = Word.check c e) []):=by
  intro h st
  refine sim_word_Check _ _ ?_
  unfold sh_word_Check
  refine aV (fun k=>?_) (fun k=>?_)
  · exact aU (by unfold Word.check; rw [if_pos (by simpa using k)]) st
  · have hc:Word.check c e = Word.checks c e (Word.kinds (aC c).1) 1:=by unfold Word.check; rw [if_neg (by simpa using k)]
    rw [hc]
    refine lT (sp_word_kinds _) st fun r h1 s1=>?_
    have hl:=(cd (j:=0) s1 rfl).1
    have h4:=Word.kinds_len (aC c).1
    refine Lp.intro (fun (i:Int) h=>∃ n:Nat,i = n∧n ≤ (Word.kinds (aC c).1).length∧Word.checks c e ((Word.kinds (aC c).1).drop n) ((n:Int) + 1) = Word.checks c e (Word.kinds (aC c).1) 1∧aE [vI r (Word.kinds (aC c).1)] h) (fun (i:Int) _=>(Word.kinds (aC c).1).length - i.toNat) ⟨0,rfl,Nat.zero_le _,rfl,s1⟩ ?_
    rintro i h ⟨n,rfl,hn,he,s2⟩
    unfold uo
    refine aV (fun k2=>?_) (fun k2=>?_)
    · have hlt:n < (Word.kinds (aC c).1).length:=by rw [hl] at k2; simpa using k2
      have hw:IntKind.i64.wrap ((n:Int) + 1) = ((n + 1:Nat):Int):=by rw [bR (by omega) (by omega)]; rfl
      rw [checks_drop c e _ n hlt] at he
      refine du s2 (j:=0) rfl (by omega) (by omega) fun q hq=>?_
      refine ef (j:=0) (i:=n) (k:=0) (Word.kinds (aC c).1)[n] (cW _) s2 rfl hq (by simp) (aD hlt) (by simp) ?_
      rw [hw]
      refine tt (sp_word_fits c ((n + 1:Nat):Int) _ e (by omega) (by omega)) s2 fun r2 h3 hr s3=>?_
      subst hr
      refine aV (fun k3=>?_) (fun k3=>?_)
      · have k3':¬ Word.fits c ((n:Int) + 1) (Word.kinds (aC c).1)[n] e = true:=by simpa using k3
        rw [if_neg k3'] at he
        exact aU he trivial
      · have k3':Word.fits c ((n:Int) + 1) (Word.kinds (aC c).1)[n] e = true:=by simpa using k3
        rw [if_pos k3'] at he
        exact ⟨⟨n + 1,rfl,hlt,he,s3⟩,by simp; omega⟩
    · have:n = (Word.kinds (aC c).1).length:=by rw [hl] at k2; simp at k2; omega
      subst this
      rw [List.drop_length] at he
      exact aU he trivial
theorem sp_word_Args (k:Int):Sp Tryz.prog n_word_Args [.int .i64 k] eo [] (fun r=>pa_ (r = (Word.kinds k).length) []):=by
  intro h st
  refine sim_word_Args _ ?_
  unfold sh_word_Args
  refine lT (sp_word_kinds k) st fun r h1 s1=>?_
  have hl:=(cd (j:=0) s1 rfl).1
  exact aU (by rw [hl]) trivial
end Go.Proofs.YtmggcfijlpldpaaGreatDoor
namespace Go.Proofs.YtmggcfijlpldpaaGreatDoor
open Go Mb
structure PK where
  s:aA
  m:List (List Int)
  tabs:List (List Pte)
  pool:List Int
  caps:Caps.T
abbrev eW:=ab
abbrev lx:=aA
namespace PK
def off (k:PK) (e:Int):Bool:=decide (e < 0) || decide (e ≥ k.s.fEnvs)
def tab (k:PK) (e:Int):List Pte:=k.tabs.getD e.toNat []
def pte (k:PK) (e p:Int):Pte × Bool:=if off k e = true then (ee,false) else Table.get (tab k e) p
def touch (k:PK) (f:Int) (c:jx):(eW × Bool) × PK :=
  if (Word.arg c 2 16).2 = false∨dk (aC c).1 = false then ((⟨0,0⟩,false),k)
  else if (aC c).1 = 20 then ((⟨0,(Mem.load k.m f (Word.arg c 2 16).1).1⟩,(Mem.load k.m f (Word.arg c 2 16).1).2),k)
  else if (aC c).1 = 21 then ((⟨0,0⟩,(Mem.store k.m f (Word.arg c 2 16).1 c.e3).1),{ k with m:=(Mem.store k.m f (Word.arg c 2 16).1 c.e3).2 })
  else if (aC c).1 = 22 then ((⟨0,(Mem.cas k.m f (Word.arg c 2 16).1 c.e3 c.e4).1.1⟩,(Mem.cas k.m f (Word.arg c 2 16).1 c.e3 c.e4).1.2),{ k with m:=(Mem.cas k.m f (Word.arg c 2 16).1 c.e3 c.e4).2 })
  else ((⟨0,(Mem.add k.m f (Word.arg c 2 16).1 c.e3).1.1⟩,(Mem.add k.m f (Word.arg c 2 16).1 c.e3).1.2),{ k with m:=(Mem.add k.m f (Word.arg c 2 16).1 c.e3).2 })
def alloc (k:PK) (e s:Int):Int × PK :=
  if (Caps.at_ k.caps e s).2 = true then (4,k) else if (Pool.take k.pool).2.1 = false then (6,k)
  else ((Caps.root k.caps e s (Pool.take k.pool).1).1,{ k with pool:=(Pool.take k.pool).2.2,m:=(Mem.zero k.m (Pool.take k.pool).1).2,caps:=(Caps.root k.caps e s (Pool.take k.pool).1).2 })
def derive (k:PK) (e src to dst r:Int):Int × PK :=
  if (Caps.derive k.caps e src to dst r).1 ≠ 0 then ((Caps.derive k.caps e src to dst r).1,k)
  else if (Pool.hold k.pool (Caps.at_ (Caps.derive k.caps e src to dst r).2 to dst).1.fFrame).1 = false then (6,{ k with caps:=(Caps.drop (Caps.derive k.caps e src to dst r).2 to dst).2 })
  else (0,{ k with caps:=(Caps.derive k.caps e src to dst r).2,pool:=(Pool.hold k.pool (Caps.at_ (Caps.derive k.caps e src to dst r).2 to dst).1.fFrame).2 })
def unmaps (ps:List Pte):List Int→List Pte
  | []=>ps
  | i::l=>unmaps (Table.remove ps i).2 l
def unmap (ps:List Pte) (s:Int):List Pte:=unmaps ps (Table.by_ ps s)
def gone (k:PK) (f:Int):List cY→PK
  | []=>k
  | p::l=>gone { k with tabs:=k.tabs.set p.fEnv.toNat (unmap (tab k p.fEnv) p.fSlot),pool:=(Pool.lets k.pool f).2.2 } f l
def revoke (k:PK) (e s:Int) (w:Bool):eW × PK :=
  if (Caps.revoke k.caps e s).1.2 ≠ 0 then (⟨(Caps.revoke k.caps e s).1.2,0⟩,k)
  else if w = true then (⟨0,IntKind.u64.wrap ((Caps.revoke k.caps e s).1.1++(Caps.drop (Caps.revoke k.caps e s).2 e s).1.1).length⟩,
    gone { k with caps:=(Caps.drop (Caps.revoke k.caps e s).2 e s).2 } (Caps.at_ k.caps e s).1.fFrame ((Caps.revoke k.caps e s).1.1++(Caps.drop (Caps.revoke k.caps e s).2 e s).1.1))
  else (⟨0,IntKind.u64.wrap (Caps.revoke k.caps e s).1.1.length⟩,gone { k with caps:=(Caps.revoke k.caps e s).2 } (Caps.at_ k.caps e s).1.fFrame (Caps.revoke k.caps e s).1.1)
def maps (k:PK) (e pg s r:Int):Int × PK :=
  if (Caps.at_ k.caps e s).2 = false then (3,k) else if (Table.get (tab k e) pg).2 = true then (4,k) else if be r (Caps.at_ k.caps e s).1.fRights = false then (5,k)
  else ((Table.insert (tab k e) pg ⟨(Caps.at_ k.caps e s).1.fFrame,s,r⟩).1,{ k with tabs:=k.tabs.set e.toNat (Table.insert (tab k e) pg ⟨(Caps.at_ k.caps e s).1.fFrame,s,r⟩).2 })
def protect (k:PK) (e pg r:Int):Int × PK :=
  if (Table.get (tab k e) pg).2 = false then (3,k) else if be r (Caps.at_ k.caps e (Table.get (tab k e) pg).1.fSlot).1.fRights = false then (5,k)
  else ((Table.protect (tab k e) pg r).1,{ k with tabs:=k.tabs.set e.toNat (Table.protect (tab k e) pg r).2 })
def remove (k:PK) (e pg:Int):Int × PK:=((Table.remove (tab k e) pg).1.2,{ k with tabs:=k.tabs.set e.toNat (Table.remove (tab k e) pg).2 })
def sleep (k:PK) (e:Int) (c:jx):eW × Bool :=
  if (Caps.at_ k.caps e (IntKind.i64.wrap c.e1)).2 = false then (⟨3,0⟩,true) else if be 1 (Caps.at_ k.caps e (IntKind.i64.wrap c.e1)).1.fRights = false then (⟨5,0⟩,true)
  else if mA (IntKind.i64.wrap c.e3) (Mem.load k.m (Caps.at_ k.caps e (IntKind.i64.wrap c.e1)).1.fFrame (IntKind.i64.wrap c.e2)).1 c.e4 = false then (⟨0,0⟩,false)
  else (⟨0,(Mem.load k.m (Caps.at_ k.caps e (IntKind.i64.wrap c.e1)).1.fFrame (IntKind.i64.wrap c.e2)).1⟩,true)
def user (k:PK) (e:Int) (c:jx):eW × PK :=
  if (Table.get (tab k e) (IntKind.i64.wrap c.e1)).2 = false∨dh (Table.get (tab k e) (IntKind.i64.wrap c.e1)).1.fRights (IntKind.i64.wrap c.e0) = false then (⟨7,0⟩,k)
  else ((touch k (Table.get (tab k e) (IntKind.i64.wrap c.e1)).1.fFrame c).1.1,(touch k (Table.get (tab k e) (IntKind.i64.wrap c.e1)).1.fFrame c).2)
def errs (r:Int × PK):(eW × Bool) × PK:=((⟨r.1,0⟩,true),r.2)
def does (k:PK) (e:Int) (c:jx):(eW × Bool) × PK :=
  if IntKind.i64.wrap c.e0 = 1 then errs (alloc k e (IntKind.i64.wrap c.e1))
  else if IntKind.i64.wrap c.e0 = 2 then errs (derive k e (IntKind.i64.wrap c.e1) e (IntKind.i64.wrap c.e2) (IntKind.i64.wrap c.e3))
  else if IntKind.i64.wrap c.e0 = 3 then errs (derive k e (IntKind.i64.wrap c.e1) (IntKind.i64.wrap c.e2) (IntKind.i64.wrap c.e3) (IntKind.i64.wrap c.e4))
  else if IntKind.i64.wrap c.e0 = 5 then (((revoke k e (IntKind.i64.wrap c.e1) true).1,true),(revoke k e (IntKind.i64.wrap c.e1) true).2)
  else if IntKind.i64.wrap c.e0 = 4 then (((revoke k e (IntKind.i64.wrap c.e1) false).1,true),(revoke k e (IntKind.i64.wrap c.e1) false).2)
  else if IntKind.i64.wrap c.e0 = 6 then errs (maps k e (IntKind.i64.wrap c.e1) (IntKind.i64.wrap c.e2) (IntKind.i64.wrap c.e3))
  else if IntKind.i64.wrap c.e0 = 7 then errs (remove k e (IntKind.i64.wrap c.e1))
  else if IntKind.i64.wrap c.e0 = 8 then errs (protect k e (IntKind.i64.wrap c.e1) (IntKind.i64.wrap c.e2))
  else if IntKind.i64.wrap c.e0 = 9 then (sleep k e c,k)
  else if IntKind.i64.wrap c.e0 = 10 then ((⟨0,0⟩,true),k)
  else (((user k e c).1,true),(user k e c).2)
def do_ (k:PK) (e:Int) (c:jx):(eW × Bool) × PK :=
  if off k e = true then ((⟨10,0⟩,true),k) else if Word.check c k.s.fEnvs ≠ 0 then ((⟨Word.check c k.s.fEnvs,0⟩,true),k) else does k e c
def new (s:lx):PK:=⟨s,List.replicate s.fFrames.toNat (List.replicate 16 0),List.replicate s.fEnvs.toNat (List.replicate 8 ee),List.replicate s.fFrames.toNat 0,List.replicate s.fEnvs.toNat (List.replicate 8 qY)⟩
def sized (s:lx):Bool:=!(decide (s.fCores < 1) || decide (s.fCores > 8) || decide (s.fEnvs < 1) || decide (s.fEnvs > 4) || decide (s.fFrames < 1) || decide (s.fFrames > 16))
end PK
def PteFine (p:Pte):Prop:=p = ee∨(0 ≤ p.fFrame∧p.fFrame < 16∧0 ≤ p.fSlot∧p.fSlot < 8∧cz p.fRights = true)
def CapFine (n:Int) (t:Caps.T) (c:Cap):Prop :=
  c = qY∨(c.fRights = 3∧c.fEnv = -1∧c.fSlot = 0∧0 ≤ c.fFrame∧c.fFrame < n) ∨
  (0 ≤ c.fEnv∧0 ≤ c.fFrame∧c.fFrame < n∧be c.fRights (Caps.get t c.fEnv c.fSlot).fRights = true∧(Caps.get t c.fEnv c.fSlot).fFrame = c.fFrame)
def fo (n:Int) (t:Caps.T):Prop:=∀ e s,Caps.has t e s = true→CapFine n t (Caps.get t e s)
structure PK.Ok (k:PK):Prop where
  sz:PK.sized k.s = true
  ml:(k.m.length:Int) = k.s.fFrames
  mr:∀ r ∈ k.m,r.length = 16
  tl:(k.tabs.length:Int) = k.s.fEnvs
  tr:∀ ps ∈ k.tabs,ps.length = 8∧∀ p ∈ ps,PteFine p
  pl:(k.pool.length:Int) = k.s.fFrames
  pr:∀ n ∈ k.pool,0 ≤ n∧n ≤ 7
  cl:(k.caps.length:Int) = k.s.fEnvs
  tree:Caps.Ok k.caps
  fine:fo k.s.fFrames k.caps
theorem ji {s:lx}:PK.sized s = true↔1 ≤ s.fCores∧s.fCores ≤ 8∧1 ≤ s.fEnvs∧s.fEnvs ≤ 4∧1 ≤ s.fFrames∧s.fFrames ≤ 16:=by
  unfold PK.sized; simp; omega
theorem may_iff {r:Int}:cz r = true↔1 ≤ r∧r ≤ 3:=by unfold cz; simp
theorem vM {a b:Int} (h:be a b = true):(1 ≤ a∧a ≤ 3)∧(1 ≤ b∧b ≤ 3):=by
  unfold be at h; simp only [Bool.and_eq_true,may_iff] at h; exact h.1
theorem wrapR {n:Int} (h0:-2^63 ≤ n) (h1:n < 2^63):IntKind.i64.wrap n = n:=bR h0 h1
theorem ok_new {s:lx} (h:PK.sized s = true):PK.Ok (PK.new s):=by
  have hs:=ji.1 h
  refine ⟨h,by simp [PK.new]; omega,?_,by simp [PK.new]; omega,?_,by simp [PK.new]; omega,?_,by simp [PK.new]; omega,Caps.ok_new _ (by omega),?_⟩
  · intro r hr; rw [(List.mem_replicate.1 hr).2]; rfl
  · intro r hr; rw [(List.mem_replicate.1 hr).2]
    exact ⟨rfl,fun p hp=>.inl (List.mem_replicate.1 hp).2⟩
  · intro r hr; rw [(List.mem_replicate.1 hr).2]; omega
  · intro e i hh
    obtain ⟨a,b,rfl,rfl,ha,hb⟩:=Caps.has_nat hh
    simp only [PK.new,List.length_replicate] at ha
    left
    simp only [Caps.get,PK.new,Int.toNat_natCast,List.getD_eq_getElem?_getD,List.getElem?_replicate,if_pos ha,Option.getD_some,if_pos hb]
def px (ps:List Pte):Prop:=ps.length = 8∧∀ p ∈ ps,PteFine p
theorem tab_set {ps:List Pte} (h:px ps) (n:Nat) {p:Pte} (hp:PteFine p):px (ps.set n p) :=
  ⟨by simpa using h.1,fun q hq=>by
    rcases List.mem_or_eq_of_mem_set hq with h1 | h1
    · exact h.2 q h1
    · subst h1; exact hp⟩
theorem tab_at {ps:List Pte} (h:px ps) (i:Int):PteFine (Table.at_ ps i):=by
  unfold Table.at_
  by_cases hi:i.toNat < ps.length
  · simp [hi]; exact h.2 _ (List.getElem_mem hi)
  · simp [List.getD_eq_getElem?_getD,List.getElem?_eq_none (Nat.le_of_not_lt hi)]; exact .inl rfl
theorem put_fine {p:Pte} (h:(gr p).2 = true) (h0:p.fRights ≠ 0):PteFine p:=by
  unfold gr at h
  cases hq:al.eqb p ⟨0,0,0⟩ with
  | true =>
    exfalso; apply h0
    unfold al.eqb at hq
    simp at hq; exact hq.2.2
  | false =>
    rw [hq] at h
    simp only [cond_false] at h
    cases hb:(((((decide (p.fFrame < 0)) || (decide (p.fFrame ≥ 16))) || (decide (p.fSlot < 0))) || (decide (p.fSlot ≥ 8))) || (!(cz p.fRights))) with
    | true=>rw [hb] at h; simp at h
    | false =>
      simp at hb
      obtain ⟨⟨⟨⟨h1,h2⟩,h3⟩,h4⟩,h5⟩:=hb
      exact .inr ⟨h1,h2,h3,h4,h5⟩
theorem tab_insert {ps:List Pte} (h:px ps) (i:Int) (p:Pte):px (Table.insert ps i p).2:=by
  unfold Table.insert
  split
  · exact h
  · split
    · exact h
    · rename_i h1 _
      simp at h1
      exact tab_set h _ (put_fine h1.1 h1.2.1)
theorem tab_remove {ps:List Pte} (h:px ps) (i:Int):px (Table.remove ps i).2:=by
  unfold Table.remove
  split
  · exact h
  · split
    · exact h
    · exact tab_set h _ (.inl rfl)
theorem tab_protect {ps:List Pte} (h:px ps) (i r:Int):px (Table.protect ps i r).2:=by
  unfold Table.protect
  split
  · exact h
  · split
    · exact h
    · rename_i h1 h2
      simp at h1
      refine tab_set h _ (.inr ?_)
      rcases tab_at h i with e | e
      · rw [e] at h2; exact absurd rfl h2
      · exact ⟨e.1,e.2.1,e.2.2.1,e.2.2.2.1,h1.2⟩
theorem tab_unmaps:∀ (l:List Int) {ps:List Pte},px ps→px (PK.unmaps ps l)
  | [],_,h=>h
  | i::l,_,h=>tab_unmaps l (tab_remove h i)
theorem tab_of {k:PK} (ok:PK.Ok k) {n:Nat} (h:n < k.tabs.length):PK.tab k n = k.tabs[n]∧px k.tabs[n]:=by
  refine ⟨by simp [PK.tab,h],ok.tr _ (List.getElem_mem h)⟩
theorem tab_ok {k:PK} (ok:PK.Ok k) (e:Int) (h:e.toNat < k.tabs.length):px (PK.tab k e):=by
  have:PK.tab k e = k.tabs[e.toNat]:=by simp [PK.tab,h]
  rw [this]; exact ok.tr _ (List.getElem_mem h)
theorem tabs_set {k:PK} (ok:PK.Ok k) (e:Int) {ps:List Pte} (h:e.toNat < k.tabs.length→px ps):∀ qs ∈ k.tabs.set e.toNat ps,px qs:=by
  intro qs hq
  by_cases he:e.toNat < k.tabs.length
  · rcases List.mem_or_eq_of_mem_set hq with h1 | h1
    · exact ok.tr _ h1
    · subst h1; exact h he
  · rw [List.set_eq_of_length_le (by omega)] at hq; exact ok.tr _ hq
theorem ok_tabs {k:PK} (ok:PK.Ok k) (e:Int) {ps:List Pte} (h:e.toNat < k.tabs.length→px ps):PK.Ok { k with tabs:=k.tabs.set e.toNat ps } :=
  ⟨ok.sz,ok.ml,ok.mr,by simpa using ok.tl,tabs_set ok e h,ok.pl,ok.pr,ok.cl,ok.tree,ok.fine⟩
theorem pool_set {p:List Int} (h:∀ n ∈ p,0 ≤ n∧n ≤ 7) (i:Nat) {v:Int} (hv:0 ≤ v∧v ≤ 7):∀ n ∈ p.set i v,0 ≤ n∧n ≤ 7:=by
  intro n hn
  rcases List.mem_or_eq_of_mem_set hn with h1 | h1
  · exact h n h1
  · subst h1; exact hv
theorem refs_fine {p:List Int} (h:∀ n ∈ p,0 ≤ n∧n ≤ 7) (i:Int):0 ≤ Pool.refs p i∧Pool.refs p i ≤ 7:=by
  unfold Pool.refs
  split
  · omega
  · by_cases hi:i.toNat < p.length
    · simp [hi]; exact h _ (List.getElem_mem hi)
    · simp [List.getD_eq_getElem?_getD,List.getElem?_eq_none (Nat.le_of_not_lt hi)]
theorem lets_fine {p:List Int} (h:∀ n ∈ p,0 ≤ n∧n ≤ 7) (i:Int):(Pool.lets p i).2.2.length = p.length∧∀ n ∈ (Pool.lets p i).2.2,0 ≤ n∧n ≤ 7:=by
  have hr:=refs_fine h i
  unfold Pool.lets
  split
  · exact ⟨rfl,h⟩
  · refine ⟨by simp,pool_set h _ ?_⟩
    rw [wrapR (by omega) (by omega)]; omega
theorem hold_fine {p:List Int} (h:∀ n ∈ p,0 ≤ n∧n ≤ 7) (i:Int):(Pool.hold p i).2.length = p.length∧∀ n ∈ (Pool.hold p i).2,0 ≤ n∧n ≤ 7:=by
  have hr:=refs_fine h i
  unfold Pool.hold
  split
  · exact ⟨rfl,h⟩
  · refine ⟨by simp,pool_set h _ ?_⟩
    rw [wrapR (by omega) (by omega)]; omega
theorem take_fine {p:List Int} (h:∀ n ∈ p,0 ≤ n∧n ≤ 7):(Pool.take p).2.2.length = p.length∧∀ n ∈ (Pool.take p).2.2,0 ≤ n∧n ≤ 7:=by
  unfold Pool.take
  split
  · exact ⟨rfl,h⟩
  · exact ⟨by simp,pool_set h _ (by omega)⟩
theorem take_in {p:List Int} (h:(Pool.take p).2.1 = true):0 ≤ (Pool.take p).1∧(Pool.take p).1 < p.length:=by
  unfold Pool.take at h ⊢
  split at h
  · cases h
  · rename_i h1
    rw [if_neg h1]
    rcases idx_lt 0 p 0 with e | ⟨n,h2,e⟩
    · omega
    · simp only; omega
namespace Caps
theorem cf_root {n:Int} {t:T} {f:Int} (h0:0 ≤ f) (h1:f < n):CapFine n t ⟨f,3,-1,0⟩:=.inr (.inl ⟨rfl,rfl,rfl,h0,h1⟩)
theorem parent_has {t:T} (ok:Ok t) {e s:Int} (h:has t e s = true) (h1:(get t e s).fRights ≠ 0) (h2:0 ≤ (get t e s).fEnv):has t (get t e s).fEnv (get t e s).fSlot = true∧(get t (get t e s).fEnv (get t e s).fSlot).fRights ≠ 0:=by
  obtain ⟨rank,hr⟩:=ok.rk
  exact ⟨(hr e s h h1 h2).1,(hr e s h h1 h2).2.1⟩
theorem fine_put {n:Int} {t:T} (ok:Ok t) (F:fo n t) {e s:Int} (h:has t e s = true) (h0:(get t e s).fRights = 0) {c:Cap} (hc:CapFine n t c) (hc2:0 ≤ c.fEnv→has t c.fEnv c.fSlot = true∧(get t c.fEnv c.fSlot).fRights ≠ 0):fo n (put t e s c):=by
  intro a b hab
  rw [tY] at hab
  have keep:∀ {i j:Int},has t i j = true→(get t i j).fRights ≠ 0→get (put t e s c) i j = get t i j:=by
    intro i j hij hn
    rw [wR ok.row h hij,if_neg]
    rintro ⟨rfl,rfl⟩; exact hn h0
  rw [wR ok.row h hab]
  split
  · rcases hc with e1 | e1 | e1
    · exact .inl e1
    · exact .inr (.inl e1)
    · obtain ⟨p1,p2⟩:=hc2 e1.1
      exact .inr (.inr ⟨e1.1,e1.2.1,e1.2.2.1,by rw [keep p1 p2]; exact e1.2.2.2.1,by rw [keep p1 p2]; exact e1.2.2.2.2⟩)
  · rcases F a b hab with e1 | e1 | e1
    · exact .inl e1
    · exact .inr (.inl e1)
    · have hm:=(vM e1.2.2.2.1).1
      obtain ⟨p1,p2⟩:=parent_has ok hab (by omega) e1.1
      exact .inr (.inr ⟨e1.1,e1.2.1,e1.2.2.1,by rw [keep p1 p2]; exact e1.2.2.2.1,by rw [keep p1 p2]; exact e1.2.2.2.2⟩)
theorem fine_empties {n:Int} {t:T} (ok:Ok t) (F:fo n t) {l:List cY} (hl:∀ p ∈ l,has t p.fEnv p.fSlot = true)
    (cl:∀ e s,has t e s = true→(get t e s).fRights ≠ 0→0 ≤ (get t e s).fEnv→(⟨(get t e s).fEnv,(get t e s).fSlot⟩:cY) ∈ l→(⟨e,s⟩:cY) ∈ l):fo n (empties t l):=by
  intro a b hab
  rw [empties_has] at hab
  rw [qG l t ok.row hl a b hab]
  split
  · exact .inl rfl
  · rename_i hm
    rcases F a b hab with e1 | e1 | e1
    · exact .inl e1
    · exact .inr (.inl e1)
    · have hmy:=(vM e1.2.2.2.1).1
      obtain ⟨p1,p2⟩:=parent_has ok hab (by omega) e1.1
      have hp:(⟨(get t a b).fEnv,(get t a b).fSlot⟩:cY) ∉ l:=fun h=>hm (cl a b hab (by omega) e1.1 h)
      have hg:=qG l t ok.row hl _ _ p1
      rw [if_neg hp] at hg
      exact .inr (.inr ⟨e1.1,e1.2.1,e1.2.2.1,by rw [hg]; exact e1.2.2.2.1,by rw [hg]; exact e1.2.2.2.2⟩)
theorem below_closed {t:T} (ok:Ok t) (e s:Int):∀ a b,has t a b = true→(get t a b).fRights ≠ 0→0 ≤ (get t a b).fEnv→(⟨(get t a b).fEnv,(get t a b).fSlot⟩:cY) ∈ below t e s→(⟨a,b⟩:cY) ∈ below t e s:=by
  intro a b hab hne hen hp
  have h1:=(mem_below ok).1 hp
  refine (mem_below ok).2 ⟨hab,hne,?_⟩
  rw [under_step ok hab,if_pos ⟨hne,hen⟩]
  split
  · rfl
  · exact h1.2.2
theorem own_closed {t:T} (ok:Ok t) (e s:Int):∀ a b,has t a b = true→(get t a b).fRights ≠ 0→0 ≤ (get t a b).fEnv→(⟨(get t a b).fEnv,(get t a b).fSlot⟩:cY) ∈ own t e s→(⟨a,b⟩:cY) ∈ own t e s:=by
  intro a b hab hne hen hp
  have h1:=(mem_own ok).1 hp
  refine (mem_own ok).2 ⟨hab,hne,.inr ?_⟩
  rw [under_step ok hab,if_pos ⟨hne,hen⟩]
  split
  · rfl
  · rename_i hno
    rcases h1.2.2 with h | h
    · exact absurd ⟨congrArg aF.fEnv h,congrArg aF.fSlot h⟩ hno
    · exact h
theorem fine_revoke {n:Int} {t:T} (ok:Ok t) (F:fo n t) (e s:Int):fo n (revoke t e s).2:=by
  unfold revoke; split
  · exact F
  · exact fine_empties ok F (fun p hp=>((mem_below ok).1 hp).1) (below_closed ok e s)
theorem fine_drop {n:Int} {t:T} (ok:Ok t) (F:fo n t) (e s:Int):fo n (drop t e s).2:=by
  unfold drop; split
  · exact F
  · exact fine_empties ok F (fun p hp=>((mem_own ok).1 hp).1) (own_closed ok e s)
theorem fine_rootc {n:Int} {t:T} (ok:Ok t) (F:fo n t) (e s:Int) {f:Int} (h1:f < n) (h0:0 ≤ f):fo n (root t e s f).2:=by
  unfold root; split
  · exact F
  · split
    · exact F
    · rename_i c1 c2
      simp at c1
      exact fine_put ok F c1.1 (by simpa using c2) (cf_root h0 h1) (fun h=>absurd h (by show ¬ (0:Int) ≤ -1; omega))
theorem fine_derive {n:Int} {t:T} (ok:Ok t) (F:fo n t) (e src to dst r:Int):fo n (derive t e src to dst r).2:=by
  unfold derive
  split
  · exact F
  · split
    · exact F
    · split
      · exact F
      · split
        · exact F
        · rename_i h1 h2 h3 h4
          simp at h1
          have hw:be r (get t e src).fRights = true:=by simpa using h4
          have hf:0 ≤ (get t e src).fFrame∧(get t e src).fFrame < n:=by
            rcases F e src h1.1 with e1 | e1 | e1
            · rw [e1] at h2; exact absurd rfl h2
            · exact ⟨e1.2.2.2.1,e1.2.2.2.2⟩
            · exact ⟨e1.2.1,e1.2.2.1⟩
          have h0:0 ≤ e:=by
            obtain ⟨a,b,rfl,_,_,_⟩:=has_nat h1.1
            omega
          exact fine_put ok F h1.2.1 (by simpa using h3) (.inr (.inr ⟨h0,hf.1,hf.2,hw,rfl⟩)) (fun _=>⟨h1.1,h2⟩)
theorem root_len (t:T) (e s f:Int):(root t e s f).2.length = t.length:=by
  unfold root; split
  · rfl
  · split
    · rfl
    · exact put_len _ _ _ _
theorem derive_len (t:T) (e src to dst r:Int):(derive t e src to dst r).2.length = t.length:=by
  unfold derive; repeat' split
  all_goals first | rfl | exact put_len _ _ _ _
theorem revoke_len (t:T) (e s:Int):(revoke t e s).2.length = t.length:=by
  unfold revoke; split
  · rfl
  · exact qF _ _
theorem drop_len (t:T) (e s:Int):(drop t e s).2.length = t.length:=by
  unfold drop; split
  · rfl
  · exact qF _ _
end Caps
theorem put_row16 {m:List (List Int)} (h:∀ r ∈ m,r.length = 16) (i:Nat) {r:List Int} (hr:i < m.length→r.length = 16):∀ q ∈ m.set i r,q.length = 16:=by
  intro q hq
  by_cases hi:i < m.length
  · rcases List.mem_or_eq_of_mem_set hq with h1 | h1
    · exact h q h1
    · subst h1; exact hr hi
  · rw [List.set_eq_of_length_le (by omega)] at hq; exact h q hq
theorem mput {m:List (List Int)} (h:∀ r ∈ m,r.length = 16) (f a v:Int):(Mem.put m f a v).length = m.length∧∀ r ∈ Mem.put m f a v,r.length = 16:=by
  refine ⟨by simp [Mem.put],put_row16 h _ fun hi=>?_⟩
  simp [hi]; exact h _ (List.getElem_mem hi)
theorem mstore {m:List (List Int)} (h:∀ r ∈ m,r.length = 16) (f a v:Int):(Mem.store m f a v).2.length = m.length∧∀ r ∈ (Mem.store m f a v).2,r.length = 16:=by
  unfold Mem.store; split
  · exact mput h f a v
  · exact ⟨rfl,h⟩
theorem mcas {m:List (List Int)} (h:∀ r ∈ m,r.length = 16) (f a o v:Int):(Mem.cas m f a o v).2.length = m.length∧∀ r ∈ (Mem.cas m f a o v).2,r.length = 16:=by
  unfold Mem.cas; split
  · exact mstore h f a v
  · exact ⟨rfl,h⟩
theorem madd {m:List (List Int)} (h:∀ r ∈ m,r.length = 16) (f a v:Int):(Mem.add m f a v).2.length = m.length∧∀ r ∈ (Mem.add m f a v).2,r.length = 16:=by
  unfold Mem.add
  exact mstore h f a _
theorem mzero {m:List (List Int)} (h:∀ r ∈ m,r.length = 16) (f:Int):(Mem.zero m f).2.length = m.length∧∀ r ∈ (Mem.zero m f).2,r.length = 16:=by
  unfold Mem.zero; split
  · refine ⟨by simp,put_row16 h _ fun hi=>by simp⟩
  · exact ⟨rfl,h⟩
theorem ok_mem {k:PK} (ok:PK.Ok k) {m:List (List Int)} (h:m.length = k.m.length∧∀ r ∈ m,r.length = 16):PK.Ok { k with m:=m } :=
  ⟨ok.sz,by rw [← ok.ml,← h.1],h.2,ok.tl,ok.tr,ok.pl,ok.pr,ok.cl,ok.tree,ok.fine⟩
theorem ok_touch {k:PK} (ok:PK.Ok k) (f:Int) (c:jx):PK.Ok (PK.touch k f c).2:=by
  unfold PK.touch
  split
  · exact ok
  · split
    · exact ok
    · split
      · exact ok_mem ok (mstore ok.mr _ _ _)
      · split
        · exact ok_mem ok (mcas ok.mr _ _ _ _)
        · exact ok_mem ok (madd ok.mr _ _ _)
theorem ok_alloc {k:PK} (ok:PK.Ok k) (e s:Int):PK.Ok (PK.alloc k e s).2:=by
  unfold PK.alloc
  split
  · exact ok
  · split
    · exact ok
    · rename_i h
      have ht:=take_in (by simpa using h)
      have h1:=take_fine ok.pr
      have h2:=mzero ok.mr (Pool.take k.pool).1
      refine ⟨ok.sz,by rw [← ok.ml,← h2.1],h2.2,ok.tl,ok.tr,by rw [← ok.pl,← h1.1],h1.2,by rw [← ok.cl]; simp only [Caps.root_len],Caps.ok_root ok.tree _ _ _,?_⟩
      exact Caps.fine_rootc ok.tree ok.fine _ _ (by rw [← ok.pl]; exact ht.2) ht.1
theorem ok_derive {k:PK} (ok:PK.Ok k) (e src to dst r:Int):PK.Ok (PK.derive k e src to dst r).2:=by
  have o1:=Caps.ok_derive ok.tree e src to dst r
  have f1:=Caps.fine_derive ok.tree ok.fine e src to dst r
  unfold PK.derive
  split
  · exact ok
  · split
    · exact ⟨ok.sz,ok.ml,ok.mr,ok.tl,ok.tr,ok.pl,ok.pr,by rw [← ok.cl]; simp only [Caps.drop_len,Caps.derive_len],Caps.ok_drop o1 _ _,Caps.fine_drop o1 f1 _ _⟩
    · have h1:=hold_fine ok.pr (Caps.at_ (Caps.derive k.caps e src to dst r).2 to dst).1.fFrame
      exact ⟨ok.sz,ok.ml,ok.mr,ok.tl,ok.tr,by rw [← ok.pl,← h1.1],h1.2,by rw [← ok.cl]; simp only [Caps.derive_len],o1,f1⟩
theorem ok_gone:∀ (l:List cY) {k:PK} (_:PK.Ok k) (f:Int),PK.Ok (PK.gone k f l)
  | [],_,ok,_=>ok
  | p::l,k,ok,f=>by
    have h1:=lets_fine ok.pr f
    have h2:=ok_tabs ok p.fEnv (ps:=PK.unmap (PK.tab k p.fEnv) p.fSlot) (fun h=>tab_unmaps _ (tab_ok ok _ h))
    have h3:PK.Ok { k with tabs:=k.tabs.set p.fEnv.toNat (PK.unmap (PK.tab k p.fEnv) p.fSlot),pool:=(Pool.lets k.pool f).2.2 } :=
      ⟨h2.sz,h2.ml,h2.mr,h2.tl,h2.tr,by rw [← ok.pl]; exact congrArg Int.ofNat h1.1,h1.2,h2.cl,h2.tree,h2.fine⟩
    exact ok_gone l h3 f
theorem ok_caps {k:PK} (ok:PK.Ok k) {t:Caps.T} (h:t.length = k.caps.length) (o:Caps.Ok t) (f:fo k.s.fFrames t):PK.Ok { k with caps:=t } :=
  ⟨ok.sz,ok.ml,ok.mr,ok.tl,ok.tr,ok.pl,ok.pr,by rw [← ok.cl,← h],o,f⟩
theorem ok_revoke {k:PK} (ok:PK.Ok k) (e s:Int) (w:Bool):PK.Ok (PK.revoke k e s w).2:=by
  have o1:=Caps.ok_revoke ok.tree e s
  have f1:=Caps.fine_revoke ok.tree ok.fine e s
  unfold PK.revoke
  split
  · exact ok
  · split
    · exact ok_gone _ (ok_caps ok (by rw [Caps.drop_len,Caps.revoke_len]) (Caps.ok_drop o1 _ _) (Caps.fine_drop o1 f1 _ _)) _
    · exact ok_gone _ (ok_caps ok (by rw [Caps.revoke_len]) o1 f1) _
theorem ok_maps {k:PK} (ok:PK.Ok k) (e pg s r:Int):PK.Ok (PK.maps k e pg s r).2:=by
  unfold PK.maps
  repeat' split
  all_goals first | exact ok | exact ok_tabs ok e fun h=>tab_insert (tab_ok ok _ h) _ _
theorem ok_protect {k:PK} (ok:PK.Ok k) (e pg r:Int):PK.Ok (PK.protect k e pg r).2:=by
  unfold PK.protect
  repeat' split
  all_goals first | exact ok | exact ok_tabs ok e fun h=>tab_protect (tab_ok ok _ h) _ _
theorem ok_remove {k:PK} (ok:PK.Ok k) (e pg:Int):PK.Ok (PK.remove k e pg).2:=ok_tabs ok e fun h=>tab_remove (tab_ok ok _ h) _
theorem ok_user {k:PK} (ok:PK.Ok k) (e:Int) (c:jx):PK.Ok (PK.user k e c).2:=by
  unfold PK.user
  split
  · exact ok
  · exact ok_touch ok _ _
theorem ok_does {k:PK} (ok:PK.Ok k) (e:Int) (c:jx):PK.Ok (PK.does k e c).2:=by
  unfold PK.does PK.errs
  repeat' split
  all_goals first | exact ok | exact ok_alloc ok _ _ | exact ok_derive ok _ _ _ _ _ | exact ok_revoke ok _ _ _ | exact ok_maps ok _ _ _ _ | exact ok_remove ok _ _ | exact ok_protect ok _ _ _ | exact ok_user ok _ _
theorem ok_do {k:PK} (ok:PK.Ok k) (e:Int) (c:jx):PK.Ok (PK.do_ k e c).2:=by
  unfold PK.do_
  split
  · exact ok
  · split
    · exact ok
    · exact ok_does ok e c
end Go.Proofs.YtmggcfijlpldpaaGreatDoor
namespace Go.Proofs.YtmggcfijlpldpaaGreatDoor
open Go Mb
theorem mid_eq (lo hi:Nat) (h:lo + hi < 2 ^ 62):IntKind.i64.wrap (Int.fdiv (IntKind.u64.wrap (IntKind.i64.wrap ((lo:Int) + (hi:Int)))) (2 ^ (min (Int.toNat 1) (IntKind.bits .u64)))) = (((lo + hi) / 2:Nat):Int):=by
  have e0:IntKind.i64.wrap ((lo:Int) + (hi:Int)) = ((lo + hi:Nat):Int):=by rw [bR (by omega) (by omega)]; rfl
  have e1:IntKind.u64.wrap ((lo + hi:Nat):Int) = ((lo + hi:Nat):Int):=by
    simp only [IntKind.wrap]; first | omega | (simp [IntKind.bits,IntKind.signed]; omega)
  have e2:(2:Int) ^ (min (Int.toNat 1) (IntKind.bits .u64)) = 2:=by decide
  rw [e0,e1,e2,Int.fdiv_eq_ediv_of_nonneg _ (by decide)]
  have e3:((lo + hi:Nat):Int) / 2 = (((lo + hi) / 2:Nat):Int):=by omega
  rw [e3,bR (by omega) (by omega)]
structure PlaceIn (xs:List Int) (a:Int) (i:Nat):Prop where
  le:i ≤ xs.length
  lo:∀ k (h:k < xs.length),k < i→xs[k] < a
  hi:∀ k (h:k < xs.length),i ≤ k→a ≤ xs[k]
theorem less_eq (x y:Int):gZ x y = decide (x < y):=by
  unfold gZ
  simp [dl]
theorem sp_BinarySearch (s:Sl) (xs:List Int) (a:Int) (hb:xs.length < 2 ^ 60) (hs:∀ i j (hi:i < xs.length) (hj:j < xs.length),i < j→xs[i] ≤ xs[j]) :
    Sp Tryz.prog eE [sv s,.int .u64 a] bI [vU s xs] (fun r=>pa_ (∃ i,PlaceIn xs a i∧r = ((i:Int),decide (xs[i]? = some a))) [vU s xs]):=by
  intro h s0
  have hl:=(cd (j:=0) s0 rfl).1
  refine lB _ _ ?_
  unfold gx
  refine Lp.intro (fun (z:Int × Int) h=>∃ lo hi:Nat,z = ((lo:Int),(hi:Int))∧lo ≤ hi∧hi ≤ xs.length∧(∀ k (h:k < xs.length),k < lo→xs[k] < a)∧(∀ k (h:k < xs.length),hi ≤ k→a ≤ xs[k])∧aE [vU s xs] h) (fun (z:Int × Int) _=>(z.2 - z.1).toNat)
    ⟨0,xs.length,by rw [hl]; rfl,Nat.zero_le _,Nat.le_refl _,fun k h h'=>by omega,fun k h h'=>by omega,s0⟩ ?_
  rintro z h ⟨lo,hi,rfl,h1,h2,h3,h4,s1⟩
  unfold eq
  refine aV (fun k=>?_) (fun k=>?_)
  · have hlt:lo < hi:=by have:=of_decide_eq_true k; simp at this; exact this
    have hm:=mid_eq lo hi (by omega)
    simp only [hm]
    have hml:(lo + hi) / 2 < xs.length:=by omega
    refine du s1 (j:=0) rfl (by omega) (by omega) fun q hq=>?_
    refine ef (j:=0) (i:=(lo + hi) / 2) (k:=0) xs[(lo + hi) / 2] (cW _) s1 rfl hq (by rw [Int.toNat_natCast]; rfl) (aD hml) (by simp) ?_
    rw [less_eq]
    refine aV (fun k2=>?_) (fun k2=>?_)
    · have k2':xs[(lo + hi) / 2] < a:=by simpa using k2
      have hw:IntKind.i64.wrap ((((lo + hi) / 2:Nat):Int) + 1) = (((lo + hi) / 2 + 1:Nat):Int):=by rw [bR (by omega) (by omega)]; rfl
      rw [hw]
      refine ⟨⟨(lo + hi) / 2 + 1,hi,rfl,by omega,h2,fun k hk hk'=>?_,h4,s1⟩,?_⟩
      · by_cases e:k = (lo + hi) / 2
        · subst e; exact k2'
        · have:=hs k _ hk hml (by omega); omega
      · show ((hi:Int) - (((lo + hi) / 2 + 1:Nat):Int)).toNat < ((hi:Int) - (lo:Int)).toNat
        omega
    · have k2':¬ xs[(lo + hi) / 2] < a:=by simpa using k2
      refine ⟨⟨lo,(lo + hi) / 2,rfl,by omega,by omega,h3,fun k hk hk'=>?_,s1⟩,?_⟩
      · by_cases e:k = (lo + hi) / 2
        · subst e; omega
        · have:=hs _ k hml hk (by omega); omega
      · show ((((lo + hi) / 2:Nat):Int) - (lo:Int)).toNat < ((hi:Int) - (lo:Int)).toNat
        omega
  · have hlt:lo = hi:=by have:=of_decide_eq_false k; simp at this; omega
    subst hlt
    have hp:PlaceIn xs a lo:=⟨h2,h3,h4⟩
    refine aV (fun k2=>?_) (fun k2=>?_)
    · have hlt:lo < xs.length:=by rw [hl] at k2; simpa using k2
      refine du s1 (j:=0) rfl (by omega) (by show (lo:Int) < _; omega) fun q hq=>?_
      refine ef (j:=0) (i:=lo) (k:=0) xs[lo] (cW _) s1 rfl hq (by simp) (aD hlt) (by simp) ?_
      refine aV (fun k3=>?_) (fun k3=>?_)
      · have k3':¬ xs[lo] = a:=by simpa using k3
        refine ef (j:=0) (i:=lo) (k:=0) xs[lo] (cW _) s1 rfl hq (by simp) (aD hlt) (by simp) ?_
        exact aU ⟨lo,hp,by simp [dz,hlt,k3']⟩ s1
      · have k3':xs[lo] = a:=by simpa using k3
        exact aU ⟨lo,hp,by simp [hlt,k3']⟩ s1
    · have hlt:¬ lo < xs.length:=by rw [hl] at k2; simpa using k2
      exact aU ⟨lo,hp,by simp [List.getElem?_eq_none (Nat.le_of_not_lt hlt)]⟩ s1
def sub (m:Nat) (s:Sl) (lo hi:Nat):Sl:=⟨if s.cap = lo then s.a else s.a.map (fun q=>(q.1,q.2 + lo * m)),hi - lo,s.cap - lo,none⟩
theorem pa_map (p:Ptr) (n:Nat):(pa p).map (·.add n) = pa (p.map fun q=>(q.1,q.2 + n)):=by
  cases p with
  | none=>rfl
  | some q=>simp [pa,add_plain]
theorem slice_raw {P:Program} {h:Hp} {S T m bys:Nat} {z:List Value} {s:Sl} {lo hi:Nat} {vlo vhi:Option Value} {R:Sl→Value} {K:Sl→Hp→Prop} (E:El P S T m bys z) (hR:R = sv)
    (hlo:vlo = some (.int .i64 lo)∨vlo = none∧lo = 0) (hhi:vhi = some (.int .i64 hi)∨vhi = none∧hi = s.len) (h1:lo ≤ hi) (h2:hi ≤ s.cap) (k:K (sub m s lo hi) h):hpv P (Instr.sliceAt S (sv s) vlo vhi none) R K h:=by
  subst hR
  refine ⟨?_⟩
  obtain ⟨inf,hinf,e1,e2,e3⟩:=E.inf
  unfold Instr.sliceAt
  refine cj (db E.sl ?_)
  show hp P (Instr.slice S (sv s) _ _ _) _ _
  unfold Instr.slice
  refine cj (db E.sl ?_)
  simp only [sv]
  refine cj ?_
  unfold Instr.sliceBounds
  have fin:∀ hh:Hp,hh = h→hp P (do let size ← sizeOf T; pure (Value.slice (if s.cap = lo then pa s.a else (pa s.a).map (·.add (lo * size))) (hi - lo) (s.cap - lo))) (fun v h'=>∃ r,v = sv r∧K r h') hh:=by
    rintro _ rfl
    refine cj (nD hinf ?_)
    rw [e1]
    refine ⟨sub m s lo hi,?_,k⟩
    unfold sub sv
    split
    · rfl
    · rw [pa_map]
  rcases hhi with rfl | ⟨rfl,rfl⟩
  · refine cj (cj (cj ?_))
    unfold Instr.sliceBound
    refine cj (sU ?_)
    refine hp_yes ⟨by omega,by omega⟩ ?_
    rcases hlo with rfl | ⟨rfl,rfl⟩
    · refine cj (cj (sU ?_))
      refine hp_yes ⟨by omega,by omega⟩ ?_
      exact fin h rfl
    · exact fin h rfl
  · refine cj (cj ?_)
    rcases hlo with rfl | ⟨rfl,rfl⟩
    · refine cj ?_
      unfold Instr.sliceBound
      refine cj (sU ?_)
      refine hp_yes ⟨by omega,by omega⟩ ?_
      exact fin h rfl
    · exact fin h rfl
end Go.Proofs.YtmggcfijlpldpaaGreatDoor
namespace Go.Proofs.YtmggcfijlpldpaaGreatDoor
open Go Mb
set_option linter.unusedVariables false
def sh_mail_Mail_is (a0:Ptr) (a1:Int) (K:Bool→Hp→Prop):Hp→Prop:=br ((!a0.isNone) && (decide (a1 ≥ 0))) ( nn a0 fun q14=>ld (q14.1,q14.2 + 0) cS fun x16=>K (decide (a1 < (x16.len:Int)))) ( K false)
theorem sim_mail_Mail_is (a0:Ptr) (a1:Int) {K:Bool→Hp→Prop} {h:Hp} (H:sh_mail_Mail_is a0 a1 K h):Ct Tryz.prog lh #[(pv a0),(.int .i64 a1)] h fun v h'=>∃ r,v = az r∧K r h':=aw [(pv a0),(.int .i64 a1)] Tryz.func163 c c c fun _=>M<|O c<|M<|J c<|p (v_pneT Tryz.underlying85 c)<|J c<|V c c (ay _) (fun g1=>wv<|ae c)<|V c c (ay _) (fun g2=>wv<|jy (aB c g2) c)<|p (bM c c)<|J c<|V c c (ay _) (fun g3=>wv<|ae c)<|V c c (ay _) (fun g4=>wv<|ae c)<|bP H (fun k6 H7=>bC H7 fun q14 e8 H9=>G (Z k6)<|z_p (aH<|aL (aB c k6)<|ao e8)<|G (Z k6)<|z_p (ad lQ c)<|G (Z k6)<|aT H9 kQ c (fun _=>c) c fun x16 H10=>G (Z k6)<|z_p (dv c Tryz.underlying155 c)<|G (Z k6)<|z_p (cm (aB c k6) c)<|p (aM c k6 c)<|O c<|ag<|Y ⟨decide (a1 < (x16.len:Int)),c,H10⟩) fun k6 H7=>W (aP k6)<|W (aP k6)<|W (aP k6)<|W (aP k6)<|W (aP k6)<|p (an c k6 c)<|O c<|ag<|Y ⟨false,c,H7⟩
def tK (a0:Ptr) (a1:Int) (a2:Int) (a3:Int) (K:Bool→Hp→Prop):Hp→Prop:=cl Tryz.prog lh [(pv a0),(.int .i64 a1)] az fun r13=>br (!(!r13)) ( cl Tryz.prog lh [(pv a0),(.int .i64 a2)] az fun r18=>br ((!r18) || (a1 == a2)) ( K false) ( nn a0 fun q28=>ld (q28.1,q28.2 + 0) cS fun x30=>ix x30 a2 fun q32=>ld (q32.1,q32.2 + Int.toNat a2 * 1) cS fun x33=>cl Tryz.prog eE [(sv x33),(.int .u64 a3)] bI fun r35=>br (!r35.2) ( ld (q28.1,q28.2 + 0) cS fun x48=>ix x48 a2 fun q50=>ld (q50.1,q50.2 + Int.toNat a2 * 1) cS fun x51=>both ( ld (q28.1,q28.2 + 0) cS fun x43=>hpv Tryz.prog (Instr.buildSlice bb 1 #[(0,(.int .u64 a3))]) bY fun (v54:Sl)=>cl Tryz.prog dw [(sv x51),(.int .i64 r35.1),(sv v54)] bY fun r55=>ix x43 a2 fun q56=>st (q56.1,q56.2 + Int.toNat a2 * 1) [sv r55]<|K true) ( hpv Tryz.prog (Instr.buildSlice bb 1 #[(0,(.int .u64 a3))]) bY fun (v54:Sl)=>both ( ld (q28.1,q28.2 + 0) cS fun x43=>cl Tryz.prog dw [(sv x51),(.int .i64 r35.1),(sv v54)] bY fun r55=>ix x43 a2 fun q56=>st (q56.1,q56.2 + Int.toNat a2 * 1) [sv r55]<|K true) ( cl Tryz.prog dw [(sv x51),(.int .i64 r35.1),(sv v54)] bY fun r55=>ld (q28.1,q28.2 + 0) cS fun x43=>ix x43 a2 fun q56=>st (q56.1,q56.2 + Int.toNat a2 * 1) [sv r55]<|K true))) ( K true))) ( K false)
theorem sim_mail_Mail_Send (a0:Ptr) (a1:Int) (a2:Int) (a3:Int) {K:Bool→Hp→Prop} {h:Hp} (H:tK a0 a1 a2 a3 K h):Ct Tryz.prog pK #[(pv a0),(.int .i64 a1),(.int .i64 a2),(.int .u64 a3)] h fun v h'=>∃ r,v = az r∧K r h':=aw [(pv a0),(.int .i64 a1),(.int .i64 a2),(.int .u64 a3)] Tryz.func110 c c c fun _=>M<|O c<|aj<|M<|J c<|J c<|aa<|D H en_163 fun r13 _ H1=>p (cf c)<|J c<|V c c (aK _) (fun g2=>wv<|ae c)<|V c c (aK _) (fun g3=>wv<|ae c)<|bP H1 (fun k5 H6=>G (Z<|bS k5)<|fT H6 en_163 (aS (aB c k5)<|aS (aB c k5) bO) c fun r18 _ H7=>G (Z<|bS k5)<|z_p (cf c)<|p (an c (bS k5) c)<|J c<|V c c (aK _) (fun g8=>wv<|ae c)<|V c c (aK _) (fun g9=>wv<|ae c)<|V c c (aK _) (fun g10=>wv<|bK (aB c g10)<|aB c g10)<|p (dm c c)<|ac<|av c H7 (fun k11 H12=>M<|O c<|ag<|Y ⟨false,c,H12⟩) fun k11 H12=>am<|aj<|M<|J c<|bC H12 fun q28 e13 H14=>p (aH<|aL c<|ao e13)<|p (ad lQ c)<|aa<|aT H14 kQ c (fun _=>c) c fun x30 H15=>J c<|cg H15 fun q32 e16 h17 H18=>p (bm lA (aL c<|aY e16) c h17)<|aa<|aT H18 qN c (fun _=>c) c fun x33 H19=>J c<|aa<|D H19 en_164 fun r35 _ H20=>J c<|p (ai c c)<|p (ai c c)<|p (aq c)<|O c<|M<|J c<|p (cf c)<|ac<|av c H20 (fun k21 H22=>bj (n:=18) [] ci c .slnil<|U 0 c (ae<|aL c<|ao e13)<|U 1 c (aH c)<|U 2 c (ad lQ c)<|U 4 c (ae c)<|U 5 c (ae<|aL c<|ao e13)<|U 6 c (aH c)<|U 7 c (ad lQ c)<|U 9 c (ae c)<|U 12 c (ae c)<|U 13 c (ae c)<|bD (i:=8) (fun _ _ _ _ hh=>hh) H22 c (by kernel_rfl) kQ c (fun _=>c) c fun x48 H23=>fZ H23 fun q50 e24 h25 H26=>U 10 c (bm lA (aL c<|aY e24) c h25)<|bD (i:=11) (fun _ _ _ _ hh=>hh) H26 c (by kernel_rfl) qN c (fun _=>c) c fun x51 H27=>js H27 fun H28_1 H28_2=>jt (i:=3) (j:=14) (by kernel_rfl) (cy c c<|aT H28_1 kQ c (fun _=>c) c fun x43 H29=>⟨.slnil,I 14 c<|aR H29 (bp (vs:=[(.int .u64 a3)]) c) c fun v54 _ H30=>⟨.slnil,I 15 c<|D H30 en_165 fun r55 _ H31=>⟨.slnil,fZ H31 fun q56 e32 h33 H34=>U 16 c (bm lA (aL c<|aY e32) c h33)<|I 17 c<|dq inf_158 c c c c c H34 fun _ H35=>⟨.slnil,aQ (by kernel_rfl)<|M<|O c<|ag<|Y ⟨true,c,H35⟩⟩⟩⟩⟩)<|cy c c<|aR H28_2 (bp (vs:=[(.int .u64 a3)]) c) c fun v54 _ H29=>⟨.slnil,js H29 fun H30_1 H30_2=>jt (i:=3) (j:=15) (by kernel_rfl) (cy c c<|aT H30_1 kQ c (fun _=>c) c fun x43 H31=>⟨.slnil,I 15 c<|D H31 en_165 fun r55 _ H32=>⟨.slnil,fZ H32 fun q56 e33 h34 H35=>U 16 c (bm lA (aL c<|aY e33) c h34)<|I 17 c<|dq inf_158 c c c c c H35 fun _ H36=>⟨.slnil,aQ (by kernel_rfl)<|M<|O c<|ag<|Y ⟨true,c,H36⟩⟩⟩⟩)<|cy c c<|D H30_2 en_165 fun r55 _ H31=>⟨.slnil,bD (i:=3) (fun _ _ _ _ hh=>hh) H31 c (by kernel_rfl) kQ c (fun _=>c) c fun x43 H32=>fZ H32 fun q56 e33 h34 H35=>U 16 c (bm lA (aL c<|aY e33) c h34)<|I 17 c<|dq inf_158 c c c c c H35 fun _ H36=>⟨.slnil,aQ (by kernel_rfl)<|M<|O c<|ag<|Y ⟨true,c,H36⟩⟩⟩⟩) fun k21 H22=>am<|M<|O c<|ag<|Y ⟨true,c,H22⟩) fun k5 H6=>W (bF<|bz k5)<|W (bF<|bz k5)<|p (aM c (bz k5) c)<|J c<|W c<|W c<|W c<|p (aM c c c)<|ac<|lq c c<|M<|O c<|ag<|Y ⟨false,c,H6⟩
def pO (a1:Int) (a2:Int) (K:Int→Hp→Prop) (q12:Nat × Nat) (x14:Sl) (Rec7:(Int × Int)→Hp→Prop) (s6:Int × Int):Hp→Prop:=br (decide (s6.2 < (x14.len:Int))) ( cl Tryz.prog pK [(.pointer (some ⟨q12.1,q12.2,none⟩)),(.int .i64 a1),(.int .i64 s6.2),(.int .u64 a2)] az fun r23=>br r23 ( Rec7 ((IntKind.i64.wrap (s6.1 + 1)),(IntKind.i64.wrap (s6.2 + 1)))) ( Rec7 (s6.1,(IntKind.i64.wrap (s6.2 + 1))))) ( K s6.1)
def uW (a0:Ptr) (a1:Int) (a2:Int) (K:Int→Hp→Prop):Hp→Prop:=br a0.isNone ( K 0) ( nn a0 fun q12=>ld (q12.1,q12.2 + 0) cS fun x14=>Lp (pO a1 a2 K q12 x14) (0,0))
theorem sim_mail_Mail_All (a0:Ptr) (a1:Int) (a2:Int) {K:Int→Hp→Prop} {h:Hp} (H:uW a0 a1 a2 K h):Ct Tryz.prog mK #[(pv a0),(.int .i64 a1),(.int .u64 a2)] h fun v h'=>∃ r,v = eo r∧K r h':=aw [(pv a0),(.int .i64 a1),(.int .u64 a2)] Tryz.func60 c c c fun _=>M<|O c<|aj<|M<|J c<|p (ch Tryz.underlying85 c)<|ac<|av c H (fun k1 H2=>M<|O c<|ag<|Y ⟨0,c,H2⟩) fun k1 H2=>am<|M<|O c<|aj<|M<|J c<|bC H2 fun q12 e3 H4=>p (aH<|aL c<|ao e3)<|p (ad lQ c)<|aa<|aT H4 kQ c (fun _=>c) c fun x14 H5=>p (dv c Tryz.underlying155 c)<|J c<|ac<|ax<|bB (step:=pO a1 a2 K q12 x14) (fun s6=>[(0,(pv a0)),(1,(.int .i64 a1)),(2,(.int .u64 a2)),(7,(.int .i64 s6.1)),(15,(.int .i64 (x14.len:Int))),(16,(.int .i64 s6.2))]) (fun s6=>[]) H5 (.cons c<|.cons c<|.cons c<|.cons c<|.cons c<|.cons c<|.nil _) .slnil fun Rec7 s6 _ H8=>M<|p (cm c c)<|ac<|aj<|av c H8 (fun k9 H10=>am<|aj<|ax<|M<|J c<|O c<|M<|J (aL c<|ao e3)<|J c<|J c<|J c<|aa<|D H10 en_110 fun r23 _ H11=>ac<|av c H11 (fun k12 H13=>ap<|J c<|p (bt c c)<|O c<|ap<|p (bt c c)<|J c<|ac<|cF ((IntKind.i64.wrap (s6.1 + 1)),(IntKind.i64.wrap (s6.2 + 1))) H13 (.cons c<|.cons c<|.cons c<|.cons c<|.cons c<|.cons c<|.nil _) .slnil) fun k12 H13=>am<|ap<|p (bt c c)<|J c<|ac<|cF (s6.1,(IntKind.i64.wrap (s6.2 + 1))) H13 (.cons c<|.cons c<|.cons c<|.cons c<|.cons c<|.cons c<|.nil _) .slnil) fun k9 H10=>bh<|M<|J c<|O c<|ag<|Y ⟨s6.1,c,H10⟩
def sy (a0:Ptr) (a1:Int) (K:Int→Hp→Prop):Hp→Prop:=cl Tryz.prog lh [(pv a0),(.int .i64 a1)] az fun r7=>br (!r7) ( K 0) ( nn a0 fun q10=>ld (q10.1,q10.2 + 0) cS fun x12=>ix x12 a1 fun q14=>ld (q14.1,q14.2 + Int.toNat a1 * 1) cS fun x15=>K (x15.len:Int))
theorem sim_mail_Mail_Waits (a0:Ptr) (a1:Int) {K:Int→Hp→Prop} {h:Hp} (H:sy a0 a1 K h):Ct Tryz.prog kH #[(pv a0),(.int .i64 a1)] h fun v h'=>∃ r,v = eo r∧K r h':=aw [(pv a0),(.int .i64 a1)] Tryz.func122 c c c fun _=>M<|O c<|aj<|M<|J c<|J c<|aa<|D H en_163 fun r7 _ H1=>p (cf c)<|ac<|av c H1 (fun k2 H3=>M<|O c<|ag<|Y ⟨0,c,H3⟩) fun k2 H3=>am<|M<|J c<|bC H3 fun q10 e4 H5=>p (aH<|aL c<|ao e4)<|p (ad lQ c)<|aa<|aT H5 kQ c (fun _=>c) c fun x12 H6=>J c<|cg H6 fun q14 e7 h8 H9=>p (bm lA (aL c<|aY e7) c h8)<|aa<|aT H9 qN c (fun _=>c) c fun x15 H10=>p (dv c Tryz.underlying158 c)<|O c<|ag<|Y ⟨(x15.len:Int),c,H10⟩
def tJ (a0:Ptr) (a1:Int) (K:(Int × Bool)→Hp→Prop):Hp→Prop:=cl Tryz.prog kH [(pv a0),(.int .i64 a1)] eo fun r9=>br (r9 == 0) ( K (0,false)) ( nn a0 fun q12=>ld (q12.1,q12.2 + 0) cS fun x14=>ix x14 a1 fun q16=>ld (q16.1,q16.2 + Int.toNat a1 * 1) cS fun x17=>ix x17 0 fun q18=>ld (q18.1,q18.2 + Int.toNat 0 * 1) (cI .u64) fun x19=>ld (q12.1,q12.2 + 0) cS fun x28=>ix x28 a1 fun q30=>ld (q30.1,q30.2 + Int.toNat a1 * 1) cS fun x31=>both ( ld (q12.1,q12.2 + 0) cS fun x23=>hpv Tryz.prog (Instr.sliceAt bb (sv x31) (some (.int .i64 1)) none none) bY fun (v32:Sl)=>ix x23 a1 fun q33=>st (q33.1,q33.2 + Int.toNat a1 * 1) [sv v32]<|K (x19,true)) ( hpv Tryz.prog (Instr.sliceAt bb (sv x31) (some (.int .i64 1)) none none) bY fun (v32:Sl)=>ld (q12.1,q12.2 + 0) cS fun x23=>ix x23 a1 fun q33=>st (q33.1,q33.2 + Int.toNat a1 * 1) [sv v32]<|K (x19,true)))
theorem sim_mail_Mail_Take (a0:Ptr) (a1:Int) {K:(Int × Bool)→Hp→Prop} {h:Hp} (H:tJ a0 a1 K h):Ct Tryz.prog lI #[(pv a0),(.int .i64 a1)] h fun v h'=>∃ r,v = bG r∧K r h':=aw [(pv a0),(.int .i64 a1)] Tryz.func123 c c c fun _=>M<|p (aq c)<|O c<|aj<|M<|J c<|J c<|aa<|D H en_122 fun r9 _ H1=>p (bK c c)<|ac<|av c H1 (fun k2 H3=>M<|p (aq c)<|O c<|ag<|bo (bL c (bV c)<|bV c) ⟨(0,false),c,H3⟩) fun k2 H3=>am<|M<|J c<|bC H3 fun q12 e4 H5=>p (aH<|aL c<|ao e4)<|p (ad lQ c)<|aa<|aT H5 kQ c (fun _=>c) c fun x14 H6=>J c<|cg H6 fun q16 e7 h8 H9=>p (bm lA (aL c<|aY e7) c h8)<|aa<|aT H9 qN c (fun _=>c) c fun x17 H10=>cg H10 fun q18 e11 h12 H13=>p (bm rI (aL c<|aY e11) c h12)<|aa<|aT H13 ck c (fun _=>c) c fun x19 H14=>O c<|aj<|bj (n:=15) [] ci c .slnil<|U 0 c (ae<|aL c<|ao e4)<|U 1 c (aH c)<|U 2 c (ad lQ c)<|U 4 c (ae c)<|U 5 c (ae<|aL c<|ao e4)<|U 6 c (aH c)<|U 7 c (ad lQ c)<|U 9 c (ae c)<|bD (i:=8) (fun _ _ _ _ hh=>hh) H14 c (by kernel_rfl) kQ c (fun _=>c) c fun x28 H15=>fZ H15 fun q30 e16 h17 H18=>U 10 c (bm lA (aL c<|aY e16) c h17)<|bD (i:=11) (fun _ _ _ _ hh=>hh) H18 c (by kernel_rfl) qN c (fun _=>c) c fun x31 H19=>js H19 fun H20_1 H20_2=>jt (i:=3) (j:=12) (by kernel_rfl) (cy c c<|aT H20_1 kQ c (fun _=>c) c fun x23 H21=>⟨.slnil,I 12 c<|aR H21 (eT c c c c c) c fun v32 _ H22=>⟨.slnil,fZ H22 fun q33 e23 h24 H25=>U 13 c (bm lA (aL c<|aY e23) c h24)<|I 14 c<|dq inf_158 c c c c c H25 fun _ H26=>⟨.slnil,aQ (by kernel_rfl)<|M<|J c<|p (aq c)<|O c<|ag<|bo (bL c (bV c)<|bV c) ⟨(x19,true),c,H26⟩⟩⟩⟩)<|cy c c<|aR H20_2 (eT c c c c c) c fun v32 _ H21=>⟨.slnil,bD (i:=3) (fun _ _ _ _ hh=>hh) H21 c (by kernel_rfl) kQ c (fun _=>c) c fun x23 H22=>fZ H22 fun q33 e23 h24 H25=>U 13 c (bm lA (aL c<|aY e23) c h24)<|I 14 c<|dq inf_158 c c c c c H25 fun _ H26=>⟨.slnil,aQ (by kernel_rfl)<|M<|J c<|p (aq c)<|O c<|ag<|bo (bL c (bV c)<|bV c) ⟨(x19,true),c,H26⟩⟩⟩
def sh_mail_New (a0:Int) (K:Ptr→Hp→Prop):Hp→Prop:=br ((decide (a0 < 1)) || (decide (a0 > 8))) ( K none) ( hpv Tryz.prog (Instr.makeSlice pF (.int .i64 a0) (.int .i64 a0)) R_SSuint64 fun (v10:Sl)=>nw kN (nJ.C (⟨v10⟩:nJ)) fun b12=>K (some (b12,0)))
theorem sim_mail_New (a0:Int) {K:Ptr→Hp→Prop} {h:Hp} (H:sh_mail_New a0 K h):Ct Tryz.prog sQ #[(.int .i64 a0)] h fun v h'=>∃ r,v = oN r∧K r h':=aw [(.int .i64 a0)] Tryz.func49 c c c fun _=>M<|O c<|aj<|M<|J c<|p (cm c c)<|J c<|V c c (aK _) (fun g1=>wv<|ae c)<|V c c (aK _) (fun g2=>wv<|qi (aB c g2) c)<|p (dm c c)<|ac<|av c H (fun k3 H4=>M<|O c<|ag<|Y ⟨none,c,H4⟩) fun k3 H4=>am<|M<|J c<|aa<|aR H4 (jz c c) c fun v10 _ H5=>p (aX c<|build_157_0 v10)<|aa<|gT c c c H5 fun b12 _ H6=>O c<|ag<|Y ⟨some (b12,0),c,H6⟩
end Go.Proofs.YtmggcfijlpldpaaGreatDoor
namespace Go.Proofs.YtmggcfijlpldpaaGreatDoor
open Go Mb
theorem uv (s y:Sl) (xs:List Int) (a:Int) (hl:xs.length < 2 ^ 40) :
    Sp Tryz.prog dw [sv s,.int .i64 xs.length,sv y] bY [vU s xs,vU y [a]] (fun r=>vU r (xs++[a])):=by
  intro h s0
  have hs:=(cd (j:=0) s0 rfl).1
  have hy:=(cd (j:=1) s0 rfl).1
  have hcap:s.len ≤ s.cap:=star_fact (i:=0) rfl (fun _ hv=>hv.2.1) s0
  refine oQ _ _ _ ?_
  unfold jj
  refine slice_raw (lo:=xs.length) (hi:=s.len) fM rfl (.inl rfl) (.inr ⟨rfl,rfl⟩) (by omega) hcap ?_
  refine cZ (by rw [hy]; rfl) ?_
  refine dc (by rw [hs]; simp) ?_
  refine tk (τ:=Int) (i:=0) (j:=1) (enc:=cI .u64) (ys:=[a]) fM fM.sl (cW _) (oneI _) s0 rfl rfl (by omega) (by simp; omega) (by simp; omega) fun v h2 s2=>?_
  obtain ⟨h3,h4,d,rfl,a2,_⟩:=s2
  obtain ⟨e1,e2,e3⟩:=a2
  refine ⟨e1,e2,?_⟩
  rcases e3 with e3 | ⟨b,pre,rest,U,fr,f1,f2,fg,f3⟩
  · exact .inl e3
  · exact .inr ⟨b,pre,rest,U,fr,f1,f2,fg,un_left f3⟩
def iU (x:Ptr) (bs:List (List Int)):As:=fun h=>∃ z:Nat × Sl × List Sl,(x = some (z.1,0)∧z.2.2.length = bs.length∧bs.length ≤ 8)∧aE [blk z.1 kN [sv z.2.1],vec bb 1 cS z.2.1 z.2.2,all vU z.2.2 bs] h
theorem mail_op {x:Ptr} {bs:List (List Int)} {l:List As} {h:Hp} (s0:aE (iU x bs::l) h):∃ b s ss,x = some (b,0)∧ss.length = bs.length∧bs.length ≤ 8∧s.len = bs.length∧aE (blk b kN [sv s]::vec bb 1 cS s ss::all vU ss bs::l) h:=by
  obtain ⟨⟨b,s,ss⟩,⟨hx,h1,h2⟩,st⟩:=op_ s0
  exact ⟨b,s,ss,hx,h1,h2,(cd (j:=1) st rfl).1.trans h1,st⟩
theorem mail_cl {b:Nat} {s:Sl} {ss:List Sl} {bs:List (List Int)} {l:List As} {h:Hp} (h1:ss.length = bs.length) (h2:bs.length ≤ 8) (st:aE (blk b kN [sv s]::vec bb 1 cS s ss::all vU ss bs::l) h):aE (iU (some (b,0)) bs::l) h :=
  cl_ (m:=fun z:Nat × Sl × List Sl=>[blk z.1 kN [sv z.2.1],vec bb 1 cS z.2.1 z.2.2,all vU z.2.2 bs]) (b,s,ss) ⟨rfl,h1,h2⟩ st
namespace Mail
abbrev S:=List (List Int)
def has (bs:S) (c:Int):Bool:=decide (0 ≤ c∧c < bs.length)
def box (bs:S) (c:Int):List Int:=bs.getD c.toNat []
def send (bs:S) (f t e:Int):Bool × S:=if has bs f = true∧has bs t = true∧f ≠ t then (true,bs.set t.toNat (box bs t++[e])) else (false,bs)
def sends (bs:S) (f e:Int):Nat→Int × S
  | 0=>(0,bs)
  | n + 1=>if (send (sends bs f e n).2 f n e).1 then ((sends bs f e n).1 + 1,(send (sends bs f e n).2 f n e).2) else ((sends bs f e n).1,(send (sends bs f e n).2 f n e).2)
def waits (bs:S) (c:Int):Int:=if has bs c then (box bs c).length else 0
def take (bs:S) (c:Int):(Int × Bool) × S:=if waits bs c = 0 then ((0,false),bs) else (((box bs c).getD 0 0,true),bs.set c.toNat ((box bs c).drop 1))
structure Fit (l:List Int) (e:Int):Prop where
  lt:∀ x ∈ l,x < e
  up:l.Pairwise (· < ·)
  len:l.length < 2 ^ 40
theorem send_len (bs:S) (f t e:Int):(send bs f t e).2.length = bs.length:=by unfold send; split <;> simp
theorem sends_len (bs:S) (f e:Int):∀ n,(sends bs f e n).2.length = bs.length
  | 0=>rfl
  | n + 1=>by unfold sends; split <;> simp only [send_len,sends_len bs f e n]
theorem send_other (bs:S) (f e:Int) (n m:Nat) (h:n ≠ m):(send bs f n e).2[m]? = bs[m]?:=by
  unfold send; split
  · simp only [Int.toNat_natCast]; rw [List.getElem?_set_ne h]
  · rfl
theorem sends_ge (bs:S) (f e:Int):∀ n m,n ≤ m→(sends bs f e n).2[m]? = bs[m]?
  | 0,_,_=>rfl
  | n + 1,m,h=>by unfold sends; split <;> simp only <;> rw [send_other _ _ _ _ _ (by omega),sends_ge bs f e n m (by omega)]
end Mail
theorem nils:∀ (n:Nat) {l:List As} {h:Hp},aE l h→aE (all vU (List.replicate n (⟨none,0,0,none⟩:Sl)) (List.replicate n ([]:List Int))::l) h
  | 0,_,_,s=>all_nil s
  | n + 1,l,h,s=>by
    have s1:=fC (τ:=Int) (T:=t_uint64) (m:=1) (enc:=cI .u64) (nils n s)
    rw [List.replicate_succ,List.replicate_succ]
    obtain ⟨h1,h2,d,e,a,h3,h4,d2,e2,b,s'⟩:=s1
    subst e2
    obtain ⟨d3,d4⟩:=Dj.of_un_right d
    exact ⟨un h1 h3,h4,Dj.un_left d4 d2,by rw [e,mo],⟨h1,h3,d3,rfl,a,b⟩,s'⟩
theorem sp_mail_New (n:Int) (h1:¬ n < 1) (h2:¬ n > 8):Sp Tryz.prog sQ [.int .i64 n] oN [] (fun r=>aE [iU r (List.replicate n.toNat [])]):=by
  intro h st
  refine sim_mail_New _ ?_
  unfold sh_mail_New
  obtain ⟨m,rfl⟩:=Int.eq_ofNat_of_zero_le (show 0 ≤ n by omega)
  refine cZ (by simp; omega) ?_
  refine nB (τ:=Sl) (x0:=⟨none,0,0,none⟩) (enc:=cS) (n:=m) (T:=bb) (m:=1) uj rfl st ?_ ?_ ?_
  · omega
  · omega
  · intro v h' s1
    have s2:=nils m s1
    refine oR s2 fun b h'' s3=>?_
    exact mail_cl (by simp) (by simp; omega) (ba [0,1] s3 rfl)
theorem sp_mail_is (x:Ptr) (bs:Mail.S) (c:Int):Sp Tryz.prog lh [pv x,.int .i64 c] az [iU x bs] (fun r=>pa_ (r = Mail.has bs c) [iU x bs]):=by
  intro h s0
  obtain ⟨b,s,ss,rfl,hss,hb,hs,st⟩:=mail_op s0
  refine sim_mail_Mail_is _ _ ?_
  unfold sh_mail_Mail_is
  refine aV (fun k=>?_) (fun k=>?_)
  · have k':0 ≤ c:=by simpa using k
    refine cu (bi s st (i:=0) rfl rfl rfl ?_)
    exact aU (by simp [Mail.has,k',hs]) s0
  · have k':¬ 0 ≤ c:=by simpa using k
    exact aU (by simp [Mail.has]; intro h; exact absurd h k') s0
theorem has_nat {bs:Mail.S} {c:Int} (h:Mail.has bs c = true):∃ n:Nat,c = n∧n < bs.length:=by
  unfold Mail.has at h
  have:=of_decide_eq_true h
  exact ⟨c.toNat,by omega,by omega⟩
theorem place_end {l:List Int} {e:Int} (f:Mail.Fit l e) {i:Nat} (p:PlaceIn l e i):i = l.length:=by
  rcases Nat.lt_or_ge i l.length with h | h
  · have h1:=p.hi i h (Nat.le_refl _)
    have h2:=f.lt _ (List.getElem_mem h)
    omega
  · have:=p.le; omega
theorem sp_mail_Send (x:Ptr) (bs:Mail.S) (f t e:Int) (hf:∀ l,bs[t.toNat]? = some l→Mail.Fit l e):Sp Tryz.prog pK [pv x,.int .i64 f,.int .i64 t,.int .u64 e] az [iU x bs] (fun r=>pa_ (r = (Mail.send bs f t e).1) [iU x (Mail.send bs f t e).2]):=by
  intro h s0
  refine sim_mail_Mail_Send _ _ _ _ ?_
  unfold tK
  refine cG [0] (sp_mail_is x bs f) s0 rfl fun r h1 s1=>?_
  obtain ⟨rfl,s2⟩:=bn.1 s1
  have no:¬ (Mail.has bs f = true∧Mail.has bs t = true∧f ≠ t)→Mail.send bs f t e = (false,bs):=fun hh=>if_neg hh
  refine aV (fun k=>?_) (fun k=>?_)
  · have k':Mail.has bs f = true:=by simpa using k
    refine cG [0] (sp_mail_is x bs t) s2 rfl fun r h3 s3=>?_
    obtain ⟨rfl,s4⟩:=bn.1 s3
    refine aV (fun k2=>?_) (fun k2=>?_)
    · rw [no (by simp at k2; intro hh; rcases k2 with k2 | k2; exact absurd hh.2.1 (by simp [k2]); exact hh.2.2 k2)]
      exact aU rfl s4
    · have k2':Mail.has bs t = true∧f ≠ t:=by simpa using k2
      obtain ⟨n,rfl,hn⟩:=has_nat k2'.1
      have ed:Mail.send bs f n e = (true,bs.set n (Mail.box bs n++[e])):=if_pos ⟨k',k2'.1,k2'.2⟩
      rw [ed]
      obtain ⟨b,s,ss,rfl,hss,hb,hs,st⟩:=mail_op s4
      have hns:n < ss.length:=by omega
      have hg:Mail.box bs n = bs[n]:=by simp [Mail.box,hn]
      have fit:=hf bs[n] (by rw [Int.toNat_natCast]; exact aD hn)
      refine cu (bi s st (i:=0) rfl rfl rfl ?_)
      refine du st (j:=1) rfl (by omega) (by omega) fun q hq=>?_
      refine ef (j:=1) (i:=n) (k:=0) ss[n] qZ st rfl hq (by simp) (aD hns) (by simp) ?_
      have st1:=jd (aD hns) (aD hn) (ba [2] st rfl)
      refine cG [0] (sp_BinarySearch ss[n] bs[n] e (by have:=fit.len; omega) (fun i j hi hj hij=>Int.le_of_lt (List.pairwise_iff_getElem.1 fit.up i j hi hj hij))) st1 rfl fun r h5 s5=>?_
      obtain ⟨⟨i,pi,hr⟩,s6⟩:=bn.1 s5
      have hi:=place_end fit pi
      subst hi
      have hr2:r.2 = false:=by rw [hr]; simp
      refine dc (by rw [hr2]; rfl) ?_
      refine bi s s6 (i:=2) rfl rfl rfl ?_
      refine du s6 (j:=3) rfl (by omega) (by omega) fun q2 hq2=>?_
      refine ef (j:=3) (i:=n) (k:=0) ss[n] qZ s6 rfl hq2 (by simp) (aD hns) (by simp) ?_
      have fin:∀ (r55:Sl) (v54:Sl) (h:Hp),aE [vU r55 (bs[n]++[e]),but vU ss bs n,blk b kN [sv s],vec bb 1 cS s ss] h →
          ix s n (fun q56=>Mb.st (q56.1,q56.2 + Int.toNat n * 1) [sv r55]<|pa_ (true = true) [iU (some (b,0)) (bs.set n (bs[n]++[e]))]) h:=by
        intro r55 v54 h s7
        refine du s7 (j:=3) rfl (by omega) (by omega) fun q3 hq3=>?_
        refine st_v (j:=3) (i:=n) (k:=0) r55 qZ s7 rfl hq3 (by simp) (aD hns) (by simp) rfl fun h8 s8=>?_
        have s9:=all_in2 (y:=bs[n]++[e]) hn hss s8
        exact aU rfl (mail_cl (by simpa using hss) (by simpa using hb) (ba [1,1] s9 rfl))
      rw [hg,hr]
      refine ⟨?_,?_⟩
      · refine bi s s6 (i:=2) rfl rfl rfl ?_
        refine fh (τ:=Int) [e] (val:=fun x=>.int .u64 x) (enc:=cI .u64) fM (cW _) (fun _=>rfl) s6 rfl rfl (by simp) fun y h' s7=>?_
        refine cG [1,0] (uv ss[n] y bs[n] e fit.len) s7 rfl fun r h8 s8=>?_
        exact fin r y h8 s8
      · refine fh (τ:=Int) [e] (val:=fun x=>.int .u64 x) (enc:=cI .u64) fM (cW _) (fun _=>rfl) s6 rfl rfl (by simp) fun y h' s7=>?_
        refine ⟨?_,?_⟩
        · refine bi s s7 (i:=3) rfl rfl rfl ?_
          refine cG [1,0] (uv ss[n] y bs[n] e fit.len) s7 rfl fun r h8 s8=>?_
          exact fin r y h8 s8
        · refine cG [1,0] (uv ss[n] y bs[n] e fit.len) s7 rfl fun r h8 s8=>?_
          refine bi s s8 (i:=2) rfl rfl rfl ?_
          exact fin r y h8 s8
  · rw [no (by simp at k; simp [k])]
    exact aU rfl s2
theorem sp_mail_All (x:Ptr) (bs:Mail.S) (f e:Int) (hf:∀ l ∈ bs,Mail.Fit l e):Sp Tryz.prog mK [pv x,.int .i64 f,.int .u64 e] eo [iU x bs] (fun r=>pa_ (r = (Mail.sends bs f e bs.length).1) [iU x (Mail.sends bs f e bs.length).2]):=by
  intro h s0
  obtain ⟨b,s,ss,rfl,hss,hb,hs,st⟩:=mail_op s0
  refine sim_mail_Mail_All _ _ _ ?_
  unfold uW
  refine cZ rfl (cu (bi s st (i:=0) rfl rfl rfl ?_))
  refine Lp.intro (fun (z:Int × Int) h=>∃ n:Nat,z.2 = n∧n ≤ bs.length∧z.1 = (Mail.sends bs f e n).1∧0 ≤ z.1∧z.1 ≤ n∧aE [iU (some (b,0)) (Mail.sends bs f e n).2] h) (fun (z:Int × Int) _=>bs.length - z.2.toNat) ⟨0,rfl,Nat.zero_le _,rfl,Int.le_refl _,Int.le_refl _,s0⟩ ?_
  rintro ⟨z,i⟩ h ⟨n,rfl,hn,hz,hz0,hz1,s1⟩
  simp only at hz hz0 hz1
  unfold pO
  refine aV (fun k=>?_) (fun k=>?_)
  · have hlt:n < bs.length:=by rw [hs] at k; simpa using k
    have hw:IntKind.i64.wrap ((n:Int) + 1) = ((n + 1:Nat):Int):=by rw [bR (by omega) (by omega)]; rfl
    have hw2:IntKind.i64.wrap (z + 1) = z + 1:=bR (by omega) (by omega)
    refine cG [0] (sp_mail_Send (some (b,0)) (Mail.sends bs f e n).2 f n e ?_) s1 rfl fun r h2 s2=>?_
    · intro l hl
      rw [Int.toNat_natCast,Mail.sends_ge bs f e n n (Nat.le_refl _)] at hl
      exact hf l (List.mem_of_getElem? hl)
    obtain ⟨rfl,s3⟩:=bn.1 s2
    refine aV (fun k2=>?_) (fun k2=>?_)
    · have e1:Mail.sends bs f e (n + 1) = ((Mail.sends bs f e n).1 + 1,(Mail.send (Mail.sends bs f e n).2 f n e).2):=by rw [Mail.sends,if_pos k2]
      rw [hw,hw2]
      refine ⟨⟨n + 1,rfl,hlt,?_,by simp only; omega,by simp only; omega,?_⟩,by simp; omega⟩
      · rw [e1,hz]
      · rw [e1]; exact s3
    · have e1:Mail.sends bs f e (n + 1) = ((Mail.sends bs f e n).1,(Mail.send (Mail.sends bs f e n).2 f n e).2):=by rw [Mail.sends,if_neg (by rw [k2]; exact Bool.false_ne_true)]
      rw [hw]
      refine ⟨⟨n + 1,rfl,hlt,?_,by simp only; omega,by simp only; omega,?_⟩,by simp; omega⟩
      · rw [e1,hz]
      · rw [e1]; exact s3
  · have:n = bs.length:=by rw [hs] at k; simp at k; omega
    subst this
    exact aU hz s1
theorem sp_mail_Waits (x:Ptr) (bs:Mail.S) (c:Int):Sp Tryz.prog kH [pv x,.int .i64 c] eo [iU x bs] (fun r=>pa_ (r = Mail.waits bs c) [iU x bs]):=by
  intro h s0
  refine sim_mail_Mail_Waits _ _ ?_
  unfold sy
  refine cG [0] (sp_mail_is x bs c) s0 rfl fun r h1 s1=>?_
  obtain ⟨rfl,s2⟩:=bn.1 s1
  refine aV (fun k=>?_) (fun k=>?_)
  · have k':Mail.has bs c = false:=by simpa using k
    exact aU (by simp [Mail.waits,k']) s2
  · have k':Mail.has bs c = true:=by simpa using k
    obtain ⟨n,rfl,hn⟩:=has_nat k'
    obtain ⟨b,s,ss,rfl,hss,hb,hs,st⟩:=mail_op s2
    have hns:n < ss.length:=by omega
    refine cu (bi s st (i:=0) rfl rfl rfl ?_)
    refine du st (j:=1) rfl (by omega) (by omega) fun q hq=>?_
    refine ef (j:=1) (i:=n) (k:=0) ss[n] qZ st rfl hq (by simp) (aD hns) (by simp) ?_
    have st1:=jd (aD hns) (aD hn) (ba [2] st rfl)
    have hl:=(cd (j:=0) st1 rfl).1
    exact aU (by simp [Mail.waits,k',Mail.box,hn,hl]) s2
theorem sp_mail_Take (x:Ptr) (bs:Mail.S) (c:Int):Sp Tryz.prog lI [pv x,.int .i64 c] bG [iU x bs] (fun r=>pa_ (r = (Mail.take bs c).1) [iU x (Mail.take bs c).2]):=by
  intro h s0
  refine sim_mail_Mail_Take _ _ ?_
  unfold tJ
  refine cG [0] (sp_mail_Waits x bs c) s0 rfl fun r h1 s1=>?_
  obtain ⟨rfl,s2⟩:=bn.1 s1
  refine aV (fun k=>?_) (fun k=>?_)
  · have k':Mail.waits bs c = 0:=by simpa using k
    have e1:Mail.take bs c = ((0,false),bs):=if_pos k'
    rw [e1]
    exact aU rfl s2
  · have k':¬ Mail.waits bs c = 0:=by simpa using k
    have e1:Mail.take bs c = (((Mail.box bs c).getD 0 0,true),bs.set c.toNat ((Mail.box bs c).drop 1)):=if_neg k'
    rw [e1]
    have hh:Mail.has bs c = true:=by
      unfold Mail.waits at k'
      cases e:Mail.has bs c with
      | true=>rfl
      | false=>rw [e] at k'; exact absurd rfl k'
    obtain ⟨n,rfl,hn⟩:=has_nat hh
    obtain ⟨b,s,ss,rfl,hss,hb,hs,st⟩:=mail_op s2
    have hns:n < ss.length:=by omega
    have hg:Mail.box bs n = bs[n]:=by simp [Mail.box,hn]
    have h0:0 < bs[n].length:=by
      unfold Mail.waits at k'
      rw [hh,hg] at k'
      simp at k'
      exact List.length_pos_iff.2 k'
    rw [hg]
    refine cu (bi s st (i:=0) rfl rfl rfl ?_)
    refine du st (j:=1) rfl (by omega) (by omega) fun q hq=>?_
    refine ef (j:=1) (i:=n) (k:=0) ss[n] qZ st rfl hq (by simp) (aD hns) (by simp) ?_
    have st1:=jd (aD hns) (aD hn) (ba [2] st rfl)
    refine du st1 (j:=0) rfl (by omega) (by omega) fun q1 hq1=>?_
    refine ef (j:=0) (i:=0) (k:=0) bs[n][0] (cW _) st1 rfl hq1 (by simp) (aD h0) (by simp) ?_
    refine bi s st1 (i:=2) rfl rfl rfl ?_
    refine du st1 (j:=3) rfl (by omega) (by omega) fun q2 hq2=>?_
    refine ef (j:=3) (i:=n) (k:=0) ss[n] qZ st1 rfl hq2 (by simp) (aD hns) (by simp) ?_
    have fin:∀ (v:Sl) (h:Hp),aE [vU v (bs[n].drop 1),but vU ss bs n,blk b kN [sv s],vec bb 1 cS s ss] h →
        ix s n (fun q33=>Mb.st (q33.1,q33.2 + Int.toNat n * 1) [sv v]<|pa_ ((bs[n][0],true) = ((bs[n].getD 0 0,true):Int × Bool)) [iU (some (b,0)) (bs.set n (bs[n].drop 1))]) h:=by
      intro v h s7
      refine du s7 (j:=3) rfl (by omega) (by omega) fun q3 hq3=>?_
      refine st_v (j:=3) (i:=n) (k:=0) v qZ s7 rfl hq3 (by simp) (aD hns) (by simp) rfl fun h8 s8=>?_
      have s9:=all_in2 (y:=bs[n].drop 1) hn hss s8
      exact aU (by simp [h0]) (mail_cl (by simpa using hss) (by simpa using hb) (ba [1,1] s9 rfl))
    refine ⟨?_,?_⟩
    · refine bi s st1 (i:=2) rfl rfl rfl ?_
      refine sliceFrom_v (i:=0) (n:=1) fM (cW _) rfl st1 rfl h0 fun v s5=>?_
      exact fin v _ s5
    · refine sliceFrom_v (i:=0) (n:=1) fM (cW _) rfl st1 rfl h0 fun v s5=>?_
      refine bi s s5 (i:=2) rfl rfl rfl ?_
      exact fin v _ s5
end Go.Proofs.YtmggcfijlpldpaaGreatDoor
namespace Go.Proofs.YtmggcfijlpldpaaGreatDoor
open Go Mb
set_option linter.unusedVariables false
def sD (a0:Ptr) (a1:Int) (K:Bool→Hp→Prop):Hp→Prop:=br ((!a0.isNone) && (decide (a1 ≥ 0))) ( nn a0 fun q14=>ld (q14.1,q14.2 + 1) cS fun x16=>K (decide (a1 < (x16.len:Int)))) ( K false)
theorem sim_epoch_Epochs_is (a0:Ptr) (a1:Int) {K:Bool→Hp→Prop} {h:Hp} (H:sD a0 a1 K h):Ct Tryz.prog kJ #[(pv a0),(.int .i64 a1)] h fun v h'=>∃ r,v = az r∧K r h':=aw [(pv a0),(.int .i64 a1)] Tryz.func108 c c c fun _=>M<|O c<|M<|J c<|p (v_pneT Tryz.underlying86 c)<|J c<|V c c (ay _) (fun g1=>wv<|ae c)<|V c c (ay _) (fun g2=>wv<|jy (aB c g2) c)<|p (bM c c)<|J c<|V c c (ay _) (fun g3=>wv<|ae c)<|V c c (ay _) (fun g4=>wv<|ae c)<|bP H (fun k6 H7=>bC H7 fun q14 e8 H9=>G (Z k6)<|z_p (aH<|aL (aB c k6)<|ao e8)<|G (Z k6)<|z_p (ad fld_160_1 c)<|G (Z k6)<|aT H9 qN c (fun _=>c) c fun x16 H10=>G (Z k6)<|z_p (dv c Tryz.underlying158 c)<|G (Z k6)<|z_p (cm (aB c k6) c)<|p (aM c k6 c)<|O c<|ag<|Y ⟨decide (a1 < (x16.len:Int)),c,H10⟩) fun k6 H7=>W (aP k6)<|W (aP k6)<|W (aP k6)<|W (aP k6)<|W (aP k6)<|p (an c k6 c)<|O c<|ag<|Y ⟨false,c,H7⟩
def rr (a0:Ptr) (K:Int→Hp→Prop):Hp→Prop:=br a0.isNone ( K 0) ( nn a0 fun q6=>ld (q6.1,q6.2 + 0) cS fun x8=>K (IntKind.u64.wrap (x8.len:Int)))
theorem sim_epoch_Epochs_Now (a0:Ptr) {K:Int→Hp→Prop} {h:Hp} (H:rr a0 K h):Ct Tryz.prog fK #[(pv a0)] h fun v h'=>∃ r,v = gC r∧K r h':=aw [(pv a0)] Tryz.func109 c c c fun _=>M<|O c<|aj<|M<|J c<|p (ch Tryz.underlying86 c)<|ac<|av c H (fun k1 H2=>M<|O c<|ag<|Y ⟨0,c,H2⟩) fun k1 H2=>am<|M<|J c<|bC H2 fun q6 e3 H4=>p (aH<|aL c<|ao e3)<|p (ad fld_160_0 c)<|aa<|aT H4 sc_40 c (fun _=>c) c fun x8 H5=>p (dv c Tryz.underlying40 c)<|p (dP ⟨_,Tryz.underlying3⟩ Tryz.underlying22 c)<|O c<|ag<|Y ⟨IntKind.u64.wrap (x8.len:Int),c,H5⟩
def pq (a0:Ptr) (a1:Int) (K:(Int × Bool)→Hp→Prop):Hp→Prop:=cl Tryz.prog kJ [(pv a0),(.int .i64 a1)] az fun r8=>br (!r8) ( K (0,false)) ( nn a0 fun q12=>ld (q12.1,q12.2 + 0) cS fun x14=>hpv Tryz.prog (Instr.buildSlice dB 1 #[(0,(.int .i64 a1))]) ct fun (v16:Sl)=>hpv Tryz.prog (Builtin.append_ #[dB,dB] dB #[(sv x14),(sv v16)]) ct fun (v17:Sl)=>st (q12.1,q12.2 + 0) [sv v17]<|cl Tryz.prog fK [(.pointer (some ⟨q12.1,q12.2,none⟩))] gC fun r21=>K (r21,true))
theorem wq (a0:Ptr) (a1:Int) {K:(Int × Bool)→Hp→Prop} {h:Hp} (H:pq a0 a1 K h):Ct Tryz.prog iI #[(pv a0),(.int .i64 a1)] h fun v h'=>∃ r,v = bG r∧K r h':=aw [(pv a0),(.int .i64 a1)] Tryz.func59 c c c fun _=>M<|p (aq c)<|O c<|aj<|M<|J c<|J c<|aa<|D H en_108 fun r8 _ H1=>p (cf c)<|ac<|av c H1 (fun k2 H3=>M<|p (aq c)<|O c<|ag<|bo (bL c (bV c)<|bV c) ⟨(0,false),c,H3⟩) fun k2 H3=>am<|M<|J c<|J c<|bC H3 fun q12 e4 H5=>p (aH<|aL c<|ao e4)<|p (ad fld_160_0 c)<|aa<|aT H5 sc_40 c (fun _=>c) c fun x14 H6=>J c<|aa<|aR H6 (bp (vs:=[(.int .i64 a1)]) c) c fun v16 _ H7=>aa<|aR H7 (dA c c) c fun v17 _ H8=>p (aH<|aL c<|ao e4)<|p (ad fld_160_0 c)<|aa<|dq inf_40 c c c c c H8 fun _ H9=>ac<|M<|J (aL c<|ao e4)<|aa<|D H9 en_109 fun r21 _ H10=>p (aq c)<|O c<|ag<|bo (bL c (bV c)<|bV c) ⟨(r21,true),c,H10⟩
def di (Rec13:(Sl × Int)→Hp→Prop) (s12:Sl × Int) (s21:Bool):Hp→Prop:=br s21 ( hpv Tryz.prog (Instr.buildSlice dB 1 #[(0,(.int .i64 s12.2))]) ct fun (v43:Sl)=>hpv Tryz.prog (Builtin.append_ #[dB,dB] dB #[(sv s12.1),(sv v43)]) ct fun (v44:Sl)=>Rec13 (v44,(IntKind.i64.wrap (s12.2 + 1)))) ( Rec13 (s12.1,(IntKind.i64.wrap (s12.2 + 1))))
def kA (a1:Int) (K:Sl→Hp→Prop) (q17:Nat × Nat) (x19:Sl) (Rec13:(Sl × Int)→Hp→Prop) (s12:Sl × Int):Hp→Prop:=br (decide (s12.2 < (x19.len:Int))) ( ix x19 s12.2 fun q24=>ld (q24.1,q24.2 + Int.toNat s12.2 * 1) (cI .u64) fun x25=>br (decide (x25 < a1)) ( ld (q17.1,q17.2 + 0) cS fun x33=>ix x33 (IntKind.u64.wrap (a1 - 1)) fun q36=>ld (q36.1,q36.2 + Int.toNat (IntKind.u64.wrap (a1 - 1)) * 1) (cI .i64) fun x37=>di Rec13 s12 (x37 != s12.2)) ( di Rec13 s12 false)) ( K s12.1)
def pn (a0:Ptr) (a1:Int) (K:Sl→Hp→Prop):Hp→Prop:=br (!(decide (a1 < 1))) ( cl Tryz.prog fK [(pv a0)] gC fun r13=>br (decide (a1 > r13)) ( K (⟨none,0,0,none⟩:Sl)) ( nn a0 fun q17=>ld (q17.1,q17.2 + 1) cS fun x19=>Lp (kA a1 K q17 x19) ((⟨none,0,0,none⟩:Sl),0))) ( K (⟨none,0,0,none⟩:Sl))
theorem wo (a0:Ptr) (a1:Int) {K:Sl→Hp→Prop} {h:Hp} (H:pn a0 a1 K h):Ct Tryz.prog iH #[(pv a0),(.int .u64 a1)] h fun v h'=>∃ r,v = ct r∧K r h':=aw [(pv a0),(.int .u64 a1)] Tryz.func111 c c c fun _=>M<|O c<|aj<|M<|J c<|p (cm c c)<|J c<|V c c (aK _) (fun g1=>wv<|ae c)<|V c c (aK _) (fun g2=>wv<|ae c)<|bP H (fun k4 H5=>G (Z<|bS k4)<|fT H5 en_109 (aS (aB c k4) bO) c fun r13 _ H6=>G (Z<|bS k4)<|z_p (qi (aB c k4) c)<|p (an c (bS k4) c)<|ac<|av c H6 (fun k7 H8=>M<|O c<|ag<|Y ⟨(⟨none,0,0,none⟩:Sl),c,H8⟩) fun k7 H8=>am<|M<|O c<|aj<|M<|J c<|bC H8 fun q17 e9 H10=>p (aH<|aL c<|ao e9)<|p (ad fld_160_1 c)<|aa<|aT H10 qN c (fun _=>c) c fun x19 H11=>p (dv c Tryz.underlying158 c)<|J c<|ac<|ax<|bB (step:=kA a1 K q17 x19) (fun s12=>[(0,(pv a0)),(1,(.int .u64 a1)),(5,(sv s12.1)),(19,(sv x19)),(20,(.int .i64 (x19.len:Int))),(21,(.int .i64 s12.2))]) (fun s12=>[]) H11 (.cons c<|.cons c<|.cons c<|.cons c<|.cons c<|.cons c<|.nil _) .slnil fun Rec13 s12 _ H14=>M<|p (cm c c)<|ac<|aj<|av c H14 (fun k15 H16=>am<|aj<|ax<|M<|J c<|cg H16 fun q24 e17 h18 H19=>p (bm rI (aL c<|aY e17) c h18)<|aa<|aT H19 ck c (fun _=>c) c fun x25 H20=>p (aq c)<|O c<|dX (di Rec13 s12) (fun s21=>[(0,(pv a0)),(1,(.int .u64 a1)),(5,(sv s12.1)),(6,(.int .i64 s12.2)),(19,(sv x19)),(20,(.int .i64 (x19.len:Int))),(21,(.int .i64 s12.2)),(40,(.bool s21))]) (fun s21=>[]) (ap<|J c<|J c<|p (cm c c)<|J c<|V c c (ay _) (fun g27=>wv<|ae<|aL c<|ao e9)<|V c c (ay _) (fun g28=>wv<|aH<|aB c g28)<|V c c (ay _) (fun g29=>wv<|ad fld_160_0<|aB c g29)<|bP H20 (fun k31 H32=>G (Z k31)<|aT H32 sc_40 (aB c k31) (fun _=>c) c fun x33 H33=>G (Z k31)<|z_p (ae c)<|G (Z k31)<|z_p (v_sub c c)<|cg H33 fun q36 e34 h35 H36=>G (Z k31)<|z_p (bm gV (aL c<|aY e34) c h35)<|G (Z k31)<|aT H36 aW c (fun _=>c) c fun x37 H37=>G (Z k31)<|z_p (ae c)<|G (Z k31)<|z_p (nO c c)<|p (aM c k31 c)<|ac<|cq (x37 != s12.2) H37 (.cons c<|.cons c<|.cons c<|.cons c<|.cons c<|.cons c<|.cons c<|.cons c<|.nil _) .slnil) fun k31 H32=>W (aP k31)<|W (aP k31)<|W (aP k31)<|W (aP k31)<|W (aP k31)<|W (aP k31)<|W (aP k31)<|p (an c k31 c)<|ac<|cq false H32 (.cons c<|.cons c<|.cons c<|.cons c<|.cons c<|.cons c<|.cons c<|.cons c<|.nil _) .slnil) fun s21 _ H22=>av c H22 (fun k23 H24=>ap<|J c<|J c<|aa<|aR H24 (bp (vs:=[(.int .i64 s12.2)]) c) c fun v43 _ H25=>aa<|aR H25 (dA c c) c fun v44 _ H26=>O c<|ap<|p (bt c c)<|J c<|ac<|cF (v44,(IntKind.i64.wrap (s12.2 + 1))) H26 (.cons c<|.cons c<|.cons c<|.cons c<|.cons c<|.cons c<|.nil _) .slnil) fun k23 H24=>am<|ap<|p (bt c c)<|J c<|ac<|cF (s12.1,(IntKind.i64.wrap (s12.2 + 1))) H24 (.cons c<|.cons c<|.cons c<|.cons c<|.cons c<|.cons c<|.nil _) .slnil) fun k15 H16=>bh<|M<|J c<|O c<|ag<|Y ⟨s12.1,c,H16⟩) fun k4 H5=>W (bF<|bz k4)<|W (bF<|bz k4)<|p (aM c (bz k4) c)<|ac<|lq c c<|M<|O c<|ag<|Y ⟨(⟨none,0,0,none⟩:Sl),c,H5⟩
def qw (a0:Ptr) (a1:Int) (K:Bool→Hp→Prop):Hp→Prop:=br (decide (a1 ≥ 1)) ( cl Tryz.prog fK [(pv a0)] gC fun r10=>br (decide (a1 ≤ r10)) ( cl Tryz.prog iH [(pv a0),(.int .u64 a1)] ct fun r16=>K ((r16.len:Int) == 0)) ( K false)) ( K false)
theorem sim_epoch_Epochs_Done (a0:Ptr) (a1:Int) {K:Bool→Hp→Prop} {h:Hp} (H:qw a0 a1 K h):Ct Tryz.prog iZ #[(pv a0),(.int .u64 a1)] h fun v h'=>∃ r,v = az r∧K r h':=aw [(pv a0),(.int .u64 a1)] Tryz.func61 c c c fun _=>M<|O c<|M<|J c<|p (jy c c)<|J c<|V c c (ay _) (fun g1=>wv<|ae c)<|V c c (ay _) (fun g2=>wv<|ae c)<|bP H (fun k4 H5=>G (Z k4)<|fT H5 en_109 (aS (aB c k4) bO) c fun r10 _ H6=>G (Z k4)<|z_p (v_le (aB c k4) c)<|p (aM c k4 c)<|J c<|V c c (ay _) (fun g7=>wv<|ae c)<|V c c (ay _) (fun g8=>wv<|ae c)<|bP H6 (fun k10 H11=>G (Z k10)<|fT H11 en_111 (aS (aB c k10)<|aS (aB c k10) bO) c fun r16 _ H12=>G (Z k10)<|z_p (dv c Tryz.underlying40 c)<|G (Z k10)<|z_p (bK c c)<|p (aM c k10 c)<|O c<|ag<|Y ⟨((r16.len:Int) == 0),c,H12⟩) fun k10 H11=>W (aP k10)<|W (aP k10)<|W (aP k10)<|p (an c k10 c)<|O c<|ag<|Y ⟨false,c,H11⟩) fun k4 H5=>W (aP k4)<|W (aP k4)<|p (an c k4 c)<|J c<|W c<|W c<|W c<|W c<|W c<|p (an c c c)<|O c<|ag<|Y ⟨false,c,H5⟩
def ru (a0:Ptr) (a1:Int) (a2:Int) (K:Bool→Hp→Prop):Hp→Prop:=cl Tryz.prog kJ [(pv a0),(.int .i64 a1)] az fun r9=>br (!((!r9) || (decide (a2 < 1)))) ( cl Tryz.prog fK [(pv a0)] gC fun r18=>br (decide (a2 > r18)) ( K false) ( nn a0 fun q22=>ld (q22.1,q22.2 + 1) cS fun x29=>ix x29 a1 fun q31=>ld (q31.1,q31.2 + Int.toNat a1 * 1) (cI .u64) fun x32=>ld (q22.1,q22.2 + 1) cS fun x24=>ix x24 a1 fun q35=>st (q35.1,q35.2 + Int.toNat a1 * 1) [.int .u64 (mx x32 a2)]<|K true)) ( K false)
theorem sim_epoch_Epochs_Ack (a0:Ptr) (a1:Int) (a2:Int) {K:Bool→Hp→Prop} {h:Hp} (H:ru a0 a1 a2 K h):Ct Tryz.prog jN #[(pv a0),(.int .i64 a1),(.int .u64 a2)] h fun v h'=>∃ r,v = az r∧K r h':=aw [(pv a0),(.int .i64 a1),(.int .u64 a2)] Tryz.func124 c c c fun _=>M<|O c<|aj<|M<|J c<|J c<|aa<|D H en_108 fun r9 _ H1=>p (cf c)<|J c<|V c c (aK _) (fun g2=>wv<|ae c)<|V c c (aK _) (fun g3=>wv<|cm (aB c g3) c)<|p (dm c c)<|J c<|V c c (aK _) (fun g4=>wv<|ae c)<|V c c (aK _) (fun g5=>wv<|ae c)<|bP H1 (fun k7 H8=>G (Z<|bS k7)<|fT H8 en_109 (aS (aB c k7) bO) c fun r18 _ H9=>G (Z<|bS k7)<|z_p (qi (aB c k7) c)<|p (an c (bS k7) c)<|ac<|av c H9 (fun k10 H11=>M<|O c<|ag<|Y ⟨false,c,H11⟩) fun k10 H11=>am<|aj<|bj (n:=16) [] ci c .slnil<|U 0 c (ae c)<|U 4 c (ae c)<|U 5 c (ae c)<|U 9 c (ae c)<|U 12 c (ae c)<|gI H11 fun q22 e12 H13=>U 1 c (aH<|aL c<|ao e12)<|U 2 c (ad fld_160_1 c)<|U 6 c (aH<|aL c<|ao e12)<|U 7 c (ad fld_160_1 c)<|bD (i:=8) (fun _ _ _ _ hh=>hh) H13 c (by kernel_rfl) qN c (fun _=>c) c fun x29 H14=>fZ H14 fun q31 e15 h16 H17=>U 10 c (bm rI (aL c<|aY e15) c h16)<|bD (i:=11) (fun _ _ _ _ hh=>hh) H17 c (by kernel_rfl) ck c (fun _=>c) c fun x32 H18=>U 13 c (v_maxT c c)<|bD (i:=3) (fun _ _ _ _ hh=>hh) H18 c (by kernel_rfl) qN c (fun _=>c) c fun x24 H19=>fZ H19 fun q35 e20 h21 H22=>U 14 c (bm rI (aL c<|aY e20) c h21)<|I 15 c<|dq inf_22 c c c c c H22 fun _ H23=>⟨.slnil,aQ (by kernel_rfl)<|M<|O c<|ag<|Y ⟨true,c,H23⟩⟩) fun k7 H8=>W (bF<|bz k7)<|W (bF<|bz k7)<|p (aM c (bz k7) c)<|ac<|lq c c<|M<|O c<|ag<|Y ⟨false,c,H8⟩
def sh_epoch_New (a0:Int) (K:Ptr→Hp→Prop):Hp→Prop:=br ((decide (a0 < 1)) || (decide (a0 > 8))) ( K none) ( hpv Tryz.prog (Instr.makeSlice bb (.int .i64 a0) (.int .i64 a0)) bY fun (v10:Sl)=>nw gU (jv.C (⟨(⟨none,0,0,none⟩:Sl),v10⟩:jv)) fun b12=>K (some (b12,0)))
theorem sim_epoch_New (a0:Int) {K:Ptr→Hp→Prop} {h:Hp} (H:sh_epoch_New a0 K h):Ct Tryz.prog nA #[(.int .i64 a0)] h fun v h'=>∃ r,v = ir r∧K r h':=aw [(.int .i64 a0)] Tryz.func50 c c c fun _=>M<|O c<|aj<|M<|J c<|p (cm c c)<|J c<|V c c (aK _) (fun g1=>wv<|ae c)<|V c c (aK _) (fun g2=>wv<|qi (aB c g2) c)<|p (dm c c)<|ac<|av c H (fun k3 H4=>M<|O c<|ag<|Y ⟨none,c,H4⟩) fun k3 H4=>am<|M<|J c<|aa<|aR H4 (jz c c) c fun v10 _ H5=>p (aX c<|build_160_1 v10)<|aa<|gT c c c H5 fun b12 _ H6=>O c<|ag<|Y ⟨some (b12,0),c,H6⟩
end Go.Proofs.YtmggcfijlpldpaaGreatDoor
namespace Go.Proofs.YtmggcfijlpldpaaGreatDoor
open Go Mb
def eR (x:Ptr) (e:List Int × List Int):As:=fun h=>∃ bs:Nat × Sl × Sl,(x = some (bs.1,0)∧e.2.length ≤ 8∧e.1.length < 2 ^ 38)∧aE [blk bs.1 gU [sv bs.2.1,sv bs.2.2],vI bs.2.1 e.1,vU bs.2.2 e.2] h
theorem ep_op {x:Ptr} {e:List Int × List Int} {l:List As} {h:Hp} (s0:aE (eR x e::l) h):∃ b s t,x = some (b,0)∧e.2.length ≤ 8∧e.1.length < 2 ^ 38∧s.len = e.1.length∧t.len = e.2.length∧aE (blk b gU [sv s,sv t]::vI s e.1::vU t e.2::l) h:=by
  obtain ⟨⟨b,s,t⟩,⟨hx,h1,h2⟩,st⟩:=op_ s0
  exact ⟨b,s,t,hx,h1,h2,(cd (j:=1) st rfl).1,(cd (j:=2) st rfl).1,st⟩
theorem ep_cl {b:Nat} {s t:Sl} {e1 e2:List Int} {l:List As} {h:Hp} (h1:e2.length ≤ 8) (h2:e1.length < 2 ^ 38) (st:aE (blk b gU [sv s,sv t]::vI s e1::vU t e2::l) h):aE (eR (some (b,0)) (e1,e2)::l) h :=
  cl_ (m:=fun bs:Nat × Sl × Sl=>[blk bs.1 gU [sv bs.2.1,sv bs.2.2],vI bs.2.1 (e1,e2).1,vU bs.2.2 (e1,e2).2]) (b,s,t) ⟨rfl,h1,h2⟩ st
namespace Epochs
abbrev S:=List Int × List Int
def is (e:S) (c:Int):Bool:=decide (0 ≤ c∧c < e.2.length)
def now (e:S):Int:=e.1.length
def begin_ (e:S) (c:Int):(Int × Bool) × S:=if is e c then ((e.1.length + 1,true),(e.1++[c],e.2)) else ((0,false),e)
def ack (e:S) (c n:Int):Bool × S:=if is e c = true∧¬ n < 1∧¬ n > now e then (true,(e.1,e.2.set c.toNat (mx (e.2.getD c.toNat 0) n))) else (false,e)
def waitsFrom (n o:Int):List Int→Int→List Int
  | [],_=>[]
  | a::l,i=>if a < n∧o ≠ i then i::waitsFrom n o l (i + 1) else waitsFrom n o l (i + 1)
def waits (e:S) (n:Int):List Int:=if n < 1∨n > now e then [] else waitsFrom n (e.1.getD (n - 1).toNat 0) e.2 0
def done (e:S) (n:Int):Bool:=decide (n ≥ 1) && decide (n ≤ now e) && decide (waits e n = [])
end Epochs
theorem wrapU {n:Int} (h0:0 ≤ n) (h1:n < 2^64):IntKind.u64.wrap n = n:=by
  simp only [IntKind.wrap]; first | omega | (simp [IntKind.bits,IntKind.signed]; omega)
theorem rH (n:Int) (h1:¬ n < 1) (h2:¬ n > 8):Sp Tryz.prog nA [.int .i64 n] ir [] (fun r=>aE [eR r ([],List.replicate n.toNat 0)]):=by
  intro h st
  refine sim_epoch_New _ ?_
  unfold sh_epoch_New
  obtain ⟨m,rfl⟩:=Int.eq_ofNat_of_zero_le (show 0 ≤ n by omega)
  refine cZ (by simp; omega) ?_
  refine nB (τ:=Int) (x0:=0) (enc:=cI .u64) (n:=m) fM rfl st ?_ ?_ ?_
  · omega
  · omega
  · intro v h' s1
    refine oR s1 fun b h'' s2=>?_
    exact ep_cl (by simp; omega) (by simp) (ba [1] (fC s2) rfl)
theorem sp_epoch_is (x:Ptr) (e:Epochs.S) (c:Int):Sp Tryz.prog kJ [pv x,.int .i64 c] az [eR x e] (fun r=>pa_ (r = Epochs.is e c) [eR x e]):=by
  intro h s0
  obtain ⟨b,s,t,rfl,hb,he,hs,ht,st⟩:=ep_op s0
  refine sim_epoch_Epochs_is _ _ ?_
  unfold sD
  refine aV (fun k=>?_) (fun k=>?_)
  · have k':0 ≤ c:=by simpa using k
    refine cu (bi t st (i:=0) rfl rfl rfl ?_)
    exact aU (by simp [Epochs.is,k',ht]) s0
  · have k':¬ 0 ≤ c:=by simpa using k
    exact aU (by simp [Epochs.is]; intro h; exact absurd h k') s0
theorem rG (x:Ptr) (e:Epochs.S):Sp Tryz.prog fK [pv x] gC [eR x e] (fun r=>pa_ (r = Epochs.now e) [eR x e]):=by
  intro h s0
  obtain ⟨b,s,t,rfl,hb,he,hs,ht,st⟩:=ep_op s0
  refine sim_epoch_Epochs_Now _ ?_
  unfold rr
  refine cZ rfl (cu (bi s st (i:=0) rfl rfl rfl ?_))
  exact aU (by rw [wrapU (by omega) (by omega),hs]; rfl) s0
theorem sp_epoch_Begin (x:Ptr) (e:Epochs.S) (c:Int) (hl:e.1.length < 2 ^ 37):Sp Tryz.prog iI [pv x,.int .i64 c] bG [eR x e] (fun r=>pa_ (r = (Epochs.begin_ e c).1) [eR x (Epochs.begin_ e c).2]):=by
  intro h s0
  refine wq _ _ ?_
  unfold pq
  refine cG [0] (sp_epoch_is x e c) s0 rfl fun r h1 s1=>?_
  obtain ⟨hr,s2⟩:=bn.1 s1
  subst hr
  refine aV (fun k=>?_) (fun k=>?_)
  · have k':Epochs.is e c = false:=by simpa using k
    have e1:Epochs.begin_ e c = ((0,false),e):=by unfold Epochs.begin_; rw [k']; rfl
    rw [e1]
    exact aU rfl s2
  · have k':Epochs.is e c = true:=by simpa using k
    have e1:Epochs.begin_ e c = (((e.1.length:Int) + 1,true),(e.1++[c],e.2)):=if_pos k'
    rw [e1]
    obtain ⟨b,s,t,rfl,hb,he,hs,ht,st⟩:=ep_op s2
    refine cu (bi s st (i:=0) rfl rfl rfl ?_)
    refine vD st (i:=1) rfl (by omega) fun v h3 s3=>?_
    refine us (i:=0) s3 rfl (show 0 + 0 + 1 ≤ 2 by decide) fun h4 s4=>?_
    have s5:=ep_cl (e1:=e.1++[c]) (e2:=e.2) hb (by simp; omega) s4
    refine cG [0] (rG (some (b,0)) (e.1++[c],e.2)) s5 rfl fun r h6 s6=>?_
    obtain ⟨hr,s7⟩:=bn.1 s6
    subst hr
    exact aU (by simp [Epochs.now]) s7
theorem sp_epoch_Ack (x:Ptr) (e:Epochs.S) (c n:Int):Sp Tryz.prog jN [pv x,.int .i64 c,.int .u64 n] az [eR x e] (fun r=>pa_ (r = (Epochs.ack e c n).1) [eR x (Epochs.ack e c n).2]):=by
  intro h s0
  refine sim_epoch_Epochs_Ack _ _ _ ?_
  unfold ru
  refine cG [0] (sp_epoch_is x e c) s0 rfl fun r h1 s1=>?_
  obtain ⟨hr,s2⟩:=bn.1 s1
  subst hr
  have no:¬ (Epochs.is e c = true∧¬ n < 1∧¬ n > Epochs.now e)→Epochs.ack e c n = (false,e):=fun hh=>if_neg hh
  refine aV (fun k=>?_) (fun k=>?_)
  · have k':Epochs.is e c = true∧¬ n < 1:=by simpa using k
    refine cG [0] (rG x e) s2 rfl fun r h3 s3=>?_
    obtain ⟨hr,s4⟩:=bn.1 s3
    subst hr
    refine aV (fun k2=>?_) (fun k2=>?_)
    · rw [no (fun hh=>hh.2.2 (by simpa using k2))]
      exact aU rfl s4
    · have k2':¬ n > Epochs.now e:=by simpa using k2
      have e1:Epochs.ack e c n = (true,(e.1,e.2.set c.toNat (mx (e.2.getD c.toNat 0) n))):=if_pos ⟨k'.1,k'.2,k2'⟩
      rw [e1]
      obtain ⟨b,s,t,rfl,hb,he,hs,ht,st⟩:=ep_op s4
      have hc:=k'.1
      unfold Epochs.is at hc
      have hc':=of_decide_eq_true hc
      obtain ⟨m,rfl⟩:=Int.eq_ofNat_of_zero_le hc'.1
      have hm:m < e.2.length:=by omega
      refine cu (bi t st (i:=0) rfl rfl rfl ?_)
      refine du st (j:=2) rfl (by omega) (by omega) fun q hq=>?_
      refine ef (j:=2) (i:=m) (k:=0) e.2[m] (cW _) st rfl hq (by simp) (aD hm) (by simp) ?_
      refine bi t st (i:=0) rfl rfl rfl ?_
      refine du st (j:=2) rfl (by omega) (by omega) fun q2 hq2=>?_
      refine st_v (j:=2) (i:=m) (k:=0) (mx e.2[m] n) (cW _) st rfl hq2 (by simp) (aD hm) (by simp) rfl fun h5 s5=>?_
      have hg:e.2.getD (m:Int).toNat 0 = e.2[m]:=by simp [hm]
      rw [hg]
      exact aU rfl (ep_cl (by simpa using hb) he s5)
  · have k':¬ (Epochs.is e c = true∧¬ n < 1):=by simp at k; simp; omega
    rw [no (fun hh=>k' ⟨hh.1,hh.2.1⟩)]
    exact aU rfl s2
theorem vN (n o:Int):∀ (l:List Int) (i:Int) (a:Int),Epochs.waitsFrom n o (l++[a]) i = Epochs.waitsFrom n o l i++(if a < n∧o ≠ i + l.length then [i + l.length] else [])
  | [],i,a=>by simp only [List.nil_append,Epochs.waitsFrom]; split <;> simp_all
  | y::l,i,a=>by
    simp only [List.cons_append,Epochs.waitsFrom]
    rw [vN n o l (i + 1) a]
    have e:i + 1 + (l.length:Int) = i + ((y::l).length:Int):=by simp; omega
    rw [e]
    split <;> simp
theorem waits_len (n o:Int):∀ (l:List Int) (i:Int),(Epochs.waitsFrom n o l i).length ≤ l.length
  | [],_=>Nat.le_refl _
  | a::l,i=>by unfold Epochs.waitsFrom; have:=waits_len n o l (i + 1); split <;> simp <;> omega
theorem sp_epoch_Waits (x:Ptr) (e:Epochs.S) (n:Int):Sp Tryz.prog iH [pv x,.int .u64 n] ct [eR x e] (fun r=>aE [vI r (Epochs.waits e n),eR x e]):=by
  intro h s0
  refine wo _ _ ?_
  unfold pn
  have no:(n < 1∨n > Epochs.now e)→Epochs.waits e n = []:=fun hh=>if_pos hh
  refine aV (fun k=>?_) (fun k=>?_)
  · have k':¬ n < 1:=by simpa using k
    refine cG [0] (rG x e) s0 rfl fun r h3 s3=>?_
    obtain ⟨hr,s4⟩:=bn.1 s3
    subst hr
    refine aV (fun k2=>?_) (fun k2=>?_)
    · rw [no (.inr (by simpa using k2))]
      exact fC s4
    · have k2':¬ n > Epochs.now e:=by simpa using k2
      have e1:Epochs.waits e n = Epochs.waitsFrom n (e.1.getD (n - 1).toNat 0) e.2 0:=if_neg (by omega)
      rw [e1]
      obtain ⟨b,s,t,rfl,hb,he,hs,ht,st⟩:=ep_op s4
      obtain ⟨m,hm⟩:=Int.eq_ofNat_of_zero_le (show 0 ≤ n - 1 by omega)
      have hm':m < e.1.length:=by unfold Epochs.now at k2'; omega
      have hwu:IntKind.u64.wrap (n - 1) = m:=by rw [wrapU (by omega) (by omega),hm]
      have hg:e.1.getD (n - 1).toNat 0 = e.1[m]:=by rw [hm]; simp [hm']
      rw [hg]
      refine cu (bi t st (i:=0) rfl rfl rfl ?_)
      refine Lp.intro (fun (z:Sl × Int) h=>∃ k:Nat,z.2 = k∧k ≤ e.2.length∧aE [vI z.1 (Epochs.waitsFrom n e.1[m] (e.2.take k) 0),blk b gU [sv s,sv t],vI s e.1,vU t e.2] h) (fun (z:Sl × Int) _=>e.2.length - z.2.toNat) ⟨0,rfl,Nat.zero_le _,fC st⟩ ?_
      rintro ⟨z,i⟩ h ⟨k3,rfl,hk3,s5⟩
      unfold kA
      refine aV (fun c=>?_) (fun c=>?_)
      · have hlt:k3 < e.2.length:=by rw [ht] at c; simpa using c
        have hw:IntKind.i64.wrap ((k3:Int) + 1) = ((k3 + 1:Nat):Int):=by rw [bR (by omega) (by omega)]; rfl
        have htk:e.2.take (k3 + 1) = e.2.take k3++[e.2[k3]]:=by simp
        have hlen:((e.2.take k3).length:Int) = k3:=by simp; omega
        have off:¬ (e.2[k3] < n∧e.1[m] ≠ k3)→di (fun z' h'=>(∃ k:Nat,z'.2 = k∧k ≤ e.2.length∧aE [vI z'.1 (Epochs.waitsFrom n e.1[m] (e.2.take k) 0),blk b gU [sv s,sv t],vI s e.1,vU t e.2] h')∧e.2.length - z'.2.toNat < e.2.length - (k3:Int).toNat) (z,(k3:Int)) false h:=by
          intro hno
          unfold di
          refine cZ rfl ?_
          rw [hw]
          refine ⟨⟨k3 + 1,rfl,hlt,?_⟩,by simp; omega⟩
          rw [htk,vN,hlen,Int.zero_add,if_neg hno,List.append_nil]
          exact s5
        refine du s5 (j:=3) rfl (by omega) (by show (k3:Int) < _; omega) fun q hq=>?_
        refine ef (j:=3) (i:=k3) (k:=0) e.2[k3] (cW _) s5 rfl hq (by simp) (aD hlt) (by simp) ?_
        refine aV (fun c2=>?_) (fun c2=>?_)
        · have c2':e.2[k3] < n:=by simpa using c2
          refine bi s s5 (i:=1) rfl rfl rfl ?_
          rw [hwu]
          refine du s5 (j:=2) rfl (by omega) (by omega) fun q2 hq2=>?_
          refine ef (j:=2) (i:=m) (k:=0) e.1[m] (cW _) s5 rfl hq2 (by simp) (aD hm') (by simp) ?_
          by_cases hne:e.1[m] = (k3:Int)
          · have:(e.1[m] != (k3:Int)) = false:=by simp [hne]
            show di _ _ (e.1[m] != (k3:Int)) h
            rw [this]
            exact off (fun hh=>hh.2 hne)
          · have:(e.1[m] != (k3:Int)) = true:=by simp [hne]
            show di _ _ (e.1[m] != (k3:Int)) h
            rw [this]
            unfold di
            refine dc rfl ?_
            refine vD s5 (i:=0) rfl ?_ fun v h' s6=>?_
            · have:=waits_len n e.1[m] (e.2.take k3) 0; simp at this; omega
            · rw [hw]
              refine ⟨⟨k3 + 1,rfl,hlt,?_⟩,by simp; omega⟩
              rw [htk,vN,hlen,Int.zero_add,if_pos ⟨c2',hne⟩]
              exact s6
        · have c2':¬ e.2[k3] < n:=by simpa using c2
          exact off (fun hh=>c2' hh.1)
      · have:k3 = e.2.length:=by rw [ht] at c; simp at c; omega
        subst this
        rw [List.take_length] at s5
        exact star_tail s5 fun h6 s6=>ep_cl hb he s6
  · have k':n < 1:=by simpa using k
    rw [no (.inl k')]
    exact fC s0
theorem sp_epoch_Done (x:Ptr) (e:Epochs.S) (n:Int):Sp Tryz.prog iZ [pv x,.int .u64 n] az [eR x e] (fun r=>pa_ (r = Epochs.done e n) [eR x e]):=by
  intro h s0
  refine sim_epoch_Epochs_Done _ _ ?_
  unfold qw
  refine aV (fun k=>?_) (fun k=>?_)
  · have k':n ≥ 1:=by simpa using k
    refine cG [0] (rG x e) s0 rfl fun r h3 s3=>?_
    obtain ⟨hr,s4⟩:=bn.1 s3
    subst hr
    refine aV (fun k2=>?_) (fun k2=>?_)
    · refine cG [0] (sp_epoch_Waits x e n) s4 rfl fun r h5 s5=>?_
      have s6:=dx s5
      have hl:=(cd (j:=0) s6 rfl).1
      refine aU ?_ (bX (l:=[vI r (Epochs.waits e n)]) s6)
      have e1:decide (n ≥ 1) = true:=k
      have e2:decide (n ≤ Epochs.now e) = true:=k2
      rw [hl]
      unfold Epochs.done
      rw [e1,e2]
      cases Epochs.waits e n with
      | nil=>rfl
      | cons a l=>simp; omega
    · exact aU (by unfold Epochs.done; rw [k2]; simp) s4
  · exact aU (by unfold Epochs.done; rw [k]; rfl) s0
end Go.Proofs.YtmggcfijlpldpaaGreatDoor
