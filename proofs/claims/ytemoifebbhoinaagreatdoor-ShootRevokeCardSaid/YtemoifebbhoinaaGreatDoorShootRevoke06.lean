/- Part of the proof of: The law ShootRevoke returns true for every input, and leaves its arguments as they were. -/
import Derived.Test.YtemoifebbhoinaaGreatDoorShootRevoke05
set_option linter.all false
set_option maxRecDepth 20000
namespace Go.Proofs.YtemoifebbhoinaaGreatDoor
open Go Mb
abbrev dc:=ah
namespace Word
def kinds (k:Int):List Int :=
  if k = 1∨k = 4∨k = 5 then [0] else if k = 2 then [0,0,4] else if k = 3 then [0,3,0,4] else if k = 6 then [1,0,4] else if k = 7 then [1] else if k = 8 then [1,4]
  else if k = 9 then [0,2,5,6] else if k = 20 then [1,2] else if k = 21∨k = 23 then [1,2,6] else if k = 22 then [1,2,6,6] else []
def arg (c:dc) (i m:Int):Int × Bool:=if i < 1∨i ≥ 5∨m ≤ 0∨ah.get c i ≥ IntKind.u64.wrap m then (0,false) else (IntKind.i64.wrap (ah.get c i),true)
def fits (c:dc) (i k envs:Int):Bool :=
  if k = 0 then (arg c i 8).2 else if k = 1 then (arg c i 8).2 else if k = 2 then (arg c i 16).2 else if k = 3 then (arg c i envs).2
  else if k = 4 then (ik (ah.get c i)).2 else if k = 5 then decide (ah.get c i ≥ 1) && decide (ah.get c i ≤ 4) else true
def checks (c:dc) (envs:Int):List Int→Int→Int
  | [],_=>0
  | k::ks,i=>if fits c i k envs = true then checks c envs ks (i + 1) else 2
def check (c:dc) (envs:Int):Int:=if (aA c).2 = false then 1 else checks c envs (kinds (aA c).1) 1
theorem kinds_len (k:Int):(kinds k).length ≤ 4:=by
  unfold kinds; repeat' split
  all_goals simp
end Word
theorem vec_nil' {xs:List Int} (hx:xs = []) {l:List As} {h:Hp} (s:aG l h):aG (vI (⟨none,0,0,none⟩:Sl) xs::l) h:=by subst hx; exact fN s
theorem iu {l:List As} {h:Hp} {K:Sl→Hp→Prop} (xs:List Int) (s:aG l h) {n:Nat} {ps:Array (Nat × Value)} (hps:ps = (pts (fun x=>.int .i64 x) 0 xs).toArray) (hn:n = xs.length) (hb:n ≤ 2 ^ 24)
    (k:∀ v h',aG (vI v xs::l) h'→K v h'):hpv Tryz.prog (Instr.buildSlice dI n ps) cu K h :=
  eS (τ:=Int) xs (val:=fun x=>.int .i64 x) (enc:=cI .i64) el_Sint (dl _) (fun _=>rfl) s hps hn (by omega) k
theorem sp_word_kinds (k:Int):Sp Tryz.prog sc [.int .i64 k] cu [] (fun r=>aG [vI r (Word.kinds k)]):=by
  intro h st
  refine sim_word_kinds _ ?_
  unfold sh_word_kinds
  have one:∀ (xs:List Int) (v:Sl) (h':Hp),Word.kinds k = xs→aG [vI v xs] h'→aG [vI v (Word.kinds k)] h':=by
    intro xs v h' e s; rw [e]; exact s
  have j1:k = 1∨k = 4∨k = 5→jg k (fun r=>aG [vI r (Word.kinds k)]) true h:=by
    intro hk
    unfold jg
    exact dG rfl (iu [0] st rfl rfl (by decide) fun v h' s=>one _ v h' (if_pos hk) s)
  refine ba (fun c=>?_) (fun c=>?_)
  · rw [c]; exact j1 (.inl (by simpa using c))
  have n1:k ≠ 1:=by simpa using c
  refine ba (fun c4=>?_) (fun c4=>?_)
  · rw [c4]; exact j1 (.inr (.inl (by simpa using c4)))
  have n4:k ≠ 4:=by simpa using c4
  by_cases h5:k = 5
  · have:(k == 5) = true:=by simpa using h5
    rw [this]; exact j1 (.inr (.inr h5))
  have:(k == 5) = false:=by simpa using h5
  rw [this]
  have hu:∀ {xs:List Int},xs = Word.kinds k→Word.kinds k = xs:=fun e=>e.symm
  unfold jg
  refine di rfl ?_
  refine ba (fun c=>?_) (fun c=>?_)
  · have e:k = 2:=by simpa using c
    subst e; exact iu [0,0,4] st rfl rfl (by decide) fun v h' s=>s
  refine ba (fun c=>?_) (fun c=>?_)
  · have e:k = 3:=by simpa using c
    subst e; exact iu [0,3,0,4] st rfl rfl (by decide) fun v h' s=>s
  refine ba (fun c=>?_) (fun c=>?_)
  · have e:k = 6:=by simpa using c
    subst e; exact iu [1,0,4] st rfl rfl (by decide) fun v h' s=>s
  refine ba (fun c=>?_) (fun c=>?_)
  · have e:k = 7:=by simpa using c
    subst e; exact iu [1] st rfl rfl (by decide) fun v h' s=>s
  refine ba (fun c=>?_) (fun c=>?_)
  · have e:k = 8:=by simpa using c
    subst e; exact iu [1,4] st rfl rfl (by decide) fun v h' s=>s
  refine ba (fun c=>?_) (fun c=>?_)
  · have e:k = 9:=by simpa using c
    subst e; exact iu [0,2,5,6] st rfl rfl (by decide) fun v h' s=>s
  refine ba (fun c=>?_) (fun c=>?_)
  · have e:k = 20:=by simpa using c
    subst e; exact iu [1,2] st rfl rfl (by decide) fun v h' s=>s
  refine ba (fun c=>?_) (fun c=>?_)
  · have e:k = 21:=by simpa using c
    subst e
    unfold mE
    exact dG rfl (iu [1,2,6] st rfl rfl (by decide) fun v h' s=>s)
  unfold mE
  refine ba (fun c=>?_) (fun c=>?_)
  · have e:k = 23:=by simpa using c
    subst e; exact iu [1,2,6] st rfl rfl (by decide) fun v h' s=>s
  refine ba (fun c=>?_) (fun c=>?_)
  · have e:k = 22:=by simpa using c
    subst e; exact iu [1,2,6,6] st rfl rfl (by decide) fun v h' s=>s
  refine vec_nil' ?_ st
  simp_all [Word.kinds]
theorem qG (c:dc) (i m:Int):Sp Tryz.prog nk [.agg c.C.toArray,.int .i64 i,.int .i64 m] bL [] (fun r=>pa_ (r = Word.arg c i m) []):=by
  intro h st
  refine sim_word_Arg _ _ _ ?_
  unfold sh_word_Arg
  unfold tK
  refine ba (fun k=>?_) (fun k=>?_)
  · have k':¬ (i < 1∨i ≥ 5∨m ≤ 0):=by simp at k; omega
    refine ⟨⟨by omega,by omega⟩,ba (fun k2=>?_) (fun k2=>⟨⟨by omega,by omega⟩,?_⟩)⟩
    · exact aX (by unfold Word.arg; rw [if_pos (by right; right; right; simpa using k2)]) st
    · refine aX ?_ st
      unfold Word.arg
      have k2':¬ ah.get c i ≥ IntKind.u64.wrap m:=by simpa using k2
      rw [if_neg (by omega)]
  · have k':i < 1∨i ≥ 5∨m ≤ 0:=by simp at k; omega
    exact dG rfl (aX (by unfold Word.arg; rw [if_pos (by omega)]) st)
theorem sp_word_fits (c:dc) (i k e:Int) (h0:0 ≤ i) (h5:i < 5):Sp Tryz.prog n_word_fits [.agg c.C.toArray,.int .i64 i,.int .i64 k,.int .i64 e] aC [] (fun r=>pa_ (r = Word.fits c i k e) []):=by
  intro h st
  refine sim_word_fits _ _ _ _ ?_
  unfold sh_word_fits
  refine ba (fun k0=>?_) (fun k0=>?_)
  · have e0:k = 0:=by simpa using k0
    subst e0
    exact tJ (qG c i 8) st fun r h' hr s=>aX (by rw [hr]; rfl) s
  refine ba (fun k1=>?_) (fun k1=>?_)
  · have e0:k = 1:=by simpa using k1
    subst e0
    exact tJ (qG c i 8) st fun r h' hr s=>aX (by rw [hr]; rfl) s
  refine ba (fun k2=>?_) (fun k2=>?_)
  · have e0:k = 2:=by simpa using k2
    subst e0
    exact tJ (qG c i 16) st fun r h' hr s=>aX (by rw [hr]; rfl) s
  refine ba (fun k3=>?_) (fun k3=>?_)
  · have e0:k = 3:=by simpa using k3
    subst e0
    exact tJ (qG c i e) st fun r h' hr s=>aX (by rw [hr]; rfl) s
  refine ba (fun k4=>⟨⟨h0,h5⟩,?_⟩) (fun k4=>?_)
  · have e0:k = 4:=by simpa using k4
    subst e0
    exact aX rfl st
  refine ba (fun k5=>⟨⟨h0,h5⟩,?_⟩) (fun k5=>?_)
  · have e0:k = 5:=by simpa using k5
    subst e0
    exact aX rfl st
  refine aX ?_ st
  simp at k0 k1 k2 k3 k4 k5
  simp [Word.fits,k0,k1,k2,k3,k4,k5]
theorem checks_drop (c:dc) (e:Int) (ks:List Int) (n:Nat) (h:n < ks.length):Word.checks c e (ks.drop n) ((n:Int) + 1) = if Word.fits c ((n:Int) + 1) ks[n] e = true then Word.checks c e (ks.drop (n + 1)) (((n + 1:Nat):Int) + 1) else 2:=by
  rw [List.drop_eq_getElem_cons h,Word.checks]; rfl
theorem ji (c:dc) (e:Int):Sp Tryz.prog gX [.agg c.C.toArray,.int .i64 e] bh [] (fun r=>pa_ (r = Word.check c e) []):=by
  intro h st
  refine sim_word_Check _ _ ?_
  unfold sh_word_Check
  refine ba (fun k=>?_) (fun k=>?_)
  · exact aX (by unfold Word.check; rw [if_pos (by simpa using k)]) st
  · have hc:Word.check c e = Word.checks c e (Word.kinds (aA c).1) 1:=by unfold Word.check; rw [if_neg (by simpa using k)]
    rw [hc]
    refine lL (sp_word_kinds _) st fun r h1 s1=>?_
    have hl:=(cj (j:=0) s1 rfl).1
    have h4:=Word.kinds_len (aA c).1
    refine Lp.intro (fun (i:Int) h=>∃ n:Nat,i = n∧n ≤ (Word.kinds (aA c).1).length∧Word.checks c e ((Word.kinds (aA c).1).drop n) ((n:Int) + 1) = Word.checks c e (Word.kinds (aA c).1) 1∧aG [vI r (Word.kinds (aA c).1)] h) (fun (i:Int) _=>(Word.kinds (aA c).1).length - i.toNat) ⟨0,rfl,Nat.zero_le _,rfl,s1⟩ ?_
    rintro i h ⟨n,rfl,hn,he,s2⟩
    unfold uF
    refine ba (fun k2=>?_) (fun k2=>?_)
    · have hlt:n < (Word.kinds (aA c).1).length:=by rw [hl] at k2; simpa using k2
      have hw:IntKind.i64.wrap ((n:Int) + 1) = ((n + 1:Nat):Int):=by rw [bR (by omega) (by omega)]; rfl
      rw [checks_drop c e _ n hlt] at he
      refine dC s2 (j:=0) rfl (by omega) (by omega) fun q hq=>?_
      refine eE (j:=0) (i:=n) (k:=0) (Word.kinds (aA c).1)[n] (dl _) s2 rfl hq (by simp) (aH hlt) (by simp) ?_
      rw [hw]
      refine tJ (sp_word_fits c ((n + 1:Nat):Int) _ e (by omega) (by omega)) s2 fun r2 h3 hr s3=>?_
      subst hr
      refine ba (fun k3=>?_) (fun k3=>?_)
      · have k3':¬ Word.fits c ((n:Int) + 1) (Word.kinds (aA c).1)[n] e = true:=by simpa using k3
        rw [if_neg k3'] at he
        exact aX he trivial
      · have k3':Word.fits c ((n:Int) + 1) (Word.kinds (aA c).1)[n] e = true:=by simpa using k3
        rw [if_pos k3'] at he
        exact ⟨⟨n + 1,rfl,hlt,he,s3⟩,by simp; omega⟩
    · have:n = (Word.kinds (aA c).1).length:=by rw [hl] at k2; simp at k2; omega
      subst this
      rw [List.drop_length] at he
      exact aX he trivial
theorem sp_word_Args (k:Int):Sp Tryz.prog n_word_Args [.int .i64 k] eB [] (fun r=>pa_ (r = (Word.kinds k).length) []):=by
  intro h st
  refine sim_word_Args _ ?_
  unfold sh_word_Args
  refine lL (sp_word_kinds k) st fun r h1 s1=>?_
  have hl:=(cj (j:=0) s1 rfl).1
  exact aX (by rw [hl]) trivial
end Go.Proofs.YtemoifebbhoinaaGreatDoor
namespace Go.Proofs.YtemoifebbhoinaaGreatDoor
open Go Mb
structure PK where
  s:aB
  m:List (List Int)
  tabs:List (List Pte)
  pool:List Int
  caps:Caps.T
abbrev eM:=ab
abbrev eY:=aB
namespace PK
def off (k:PK) (e:Int):Bool:=decide (e < 0) || decide (e ≥ k.s.fEnvs)
def tab (k:PK) (e:Int):List Pte:=k.tabs.getD e.toNat []
def pte (k:PK) (e p:Int):Pte × Bool:=if off k e = true then (dh,false) else Table.get (tab k e) p
def touch (k:PK) (f:Int) (c:dc):(eM × Bool) × PK :=
  if (Word.arg c 2 16).2 = false∨bT (aA c).1 = false then ((⟨0,0⟩,false),k)
  else if (aA c).1 = 20 then ((⟨0,(Mem.load k.m f (Word.arg c 2 16).1).1⟩,(Mem.load k.m f (Word.arg c 2 16).1).2),k)
  else if (aA c).1 = 21 then ((⟨0,0⟩,(Mem.store k.m f (Word.arg c 2 16).1 c.e3).1),{ k with m:=(Mem.store k.m f (Word.arg c 2 16).1 c.e3).2 })
  else if (aA c).1 = 22 then ((⟨0,(Mem.cas k.m f (Word.arg c 2 16).1 c.e3 c.e4).1.1⟩,(Mem.cas k.m f (Word.arg c 2 16).1 c.e3 c.e4).1.2),{ k with m:=(Mem.cas k.m f (Word.arg c 2 16).1 c.e3 c.e4).2 })
  else ((⟨0,(Mem.add k.m f (Word.arg c 2 16).1 c.e3).1.1⟩,(Mem.add k.m f (Word.arg c 2 16).1 c.e3).1.2),{ k with m:=(Mem.add k.m f (Word.arg c 2 16).1 c.e3).2 })
def alloc (k:PK) (e s:Int):Int × PK :=
  if (Caps.at_ k.caps e s).2 = true then (4,k) else if (Pool.take k.pool).2.1 = false then (6,k)
  else ((Caps.root k.caps e s (Pool.take k.pool).1).1,{ k with pool:=(Pool.take k.pool).2.2,m:=(Mem.zero k.m (Pool.take k.pool).1).2,caps:=(Caps.root k.caps e s (Pool.take k.pool).1).2 })
def derive (k:PK) (e src to dst r:Int):Int × PK :=
  if (Caps.derive k.caps e src to dst r).1 ≠ 0 then ((Caps.derive k.caps e src to dst r).1,k)
  else if (Pool.hold k.pool (Caps.at_ (Caps.derive k.caps e src to dst r).2 to dst).1.fFrame).1 = false then (6,{ k with caps:=(Caps.drop (Caps.derive k.caps e src to dst r).2 to dst).2 })
  else (0,{ k with caps:=(Caps.derive k.caps e src to dst r).2,pool:=(Pool.hold k.pool (Caps.at_ (Caps.derive k.caps e src to dst r).2 to dst).1.fFrame).2 })
def unmaps (ps:List Pte):List Int→List Pte
  | []=>ps
  | i::l=>unmaps (Table.remove ps i).2 l
def unmap (ps:List Pte) (s:Int):List Pte:=unmaps ps (Table.by_ ps s)
def gone (k:PK) (f:Int):List bV→PK
  | []=>k
  | p::l=>gone { k with tabs:=k.tabs.set p.fEnv.toNat (unmap (tab k p.fEnv) p.fSlot),pool:=(Pool.lets k.pool f).2.2 } f l
def revoke (k:PK) (e s:Int) (w:Bool):eM × PK :=
  if (Caps.revoke k.caps e s).1.2 ≠ 0 then (⟨(Caps.revoke k.caps e s).1.2,0⟩,k)
  else if w = true then (⟨0,IntKind.u64.wrap ((Caps.revoke k.caps e s).1.1++(Caps.drop (Caps.revoke k.caps e s).2 e s).1.1).length⟩,
    gone { k with caps:=(Caps.drop (Caps.revoke k.caps e s).2 e s).2 } (Caps.at_ k.caps e s).1.fFrame ((Caps.revoke k.caps e s).1.1++(Caps.drop (Caps.revoke k.caps e s).2 e s).1.1))
  else (⟨0,IntKind.u64.wrap (Caps.revoke k.caps e s).1.1.length⟩,gone { k with caps:=(Caps.revoke k.caps e s).2 } (Caps.at_ k.caps e s).1.fFrame (Caps.revoke k.caps e s).1.1)
def maps (k:PK) (e pg s r:Int):Int × PK :=
  if (Caps.at_ k.caps e s).2 = false then (3,k) else if (Table.get (tab k e) pg).2 = true then (4,k) else if aQ r (Caps.at_ k.caps e s).1.fRights = false then (5,k)
  else ((Table.insert (tab k e) pg ⟨(Caps.at_ k.caps e s).1.fFrame,s,r⟩).1,{ k with tabs:=k.tabs.set e.toNat (Table.insert (tab k e) pg ⟨(Caps.at_ k.caps e s).1.fFrame,s,r⟩).2 })
def protect (k:PK) (e pg r:Int):Int × PK :=
  if (Table.get (tab k e) pg).2 = false then (3,k) else if aQ r (Caps.at_ k.caps e (Table.get (tab k e) pg).1.fSlot).1.fRights = false then (5,k)
  else ((Table.protect (tab k e) pg r).1,{ k with tabs:=k.tabs.set e.toNat (Table.protect (tab k e) pg r).2 })
def remove (k:PK) (e pg:Int):Int × PK:=((Table.remove (tab k e) pg).1.2,{ k with tabs:=k.tabs.set e.toNat (Table.remove (tab k e) pg).2 })
def sleep (k:PK) (e:Int) (c:dc):eM × Bool :=
  if (Caps.at_ k.caps e (IntKind.i64.wrap c.e1)).2 = false then (⟨3,0⟩,true) else if aQ 1 (Caps.at_ k.caps e (IntKind.i64.wrap c.e1)).1.fRights = false then (⟨5,0⟩,true)
  else if mQ (IntKind.i64.wrap c.e3) (Mem.load k.m (Caps.at_ k.caps e (IntKind.i64.wrap c.e1)).1.fFrame (IntKind.i64.wrap c.e2)).1 c.e4 = false then (⟨0,0⟩,false)
  else (⟨0,(Mem.load k.m (Caps.at_ k.caps e (IntKind.i64.wrap c.e1)).1.fFrame (IntKind.i64.wrap c.e2)).1⟩,true)
def user (k:PK) (e:Int) (c:dc):eM × PK :=
  if (Table.get (tab k e) (IntKind.i64.wrap c.e1)).2 = false∨cA (Table.get (tab k e) (IntKind.i64.wrap c.e1)).1.fRights (IntKind.i64.wrap c.e0) = false then (⟨7,0⟩,k)
  else ((touch k (Table.get (tab k e) (IntKind.i64.wrap c.e1)).1.fFrame c).1.1,(touch k (Table.get (tab k e) (IntKind.i64.wrap c.e1)).1.fFrame c).2)
def errs (r:Int × PK):(eM × Bool) × PK:=((⟨r.1,0⟩,true),r.2)
def does (k:PK) (e:Int) (c:dc):(eM × Bool) × PK :=
  if IntKind.i64.wrap c.e0 = 1 then errs (alloc k e (IntKind.i64.wrap c.e1))
  else if IntKind.i64.wrap c.e0 = 2 then errs (derive k e (IntKind.i64.wrap c.e1) e (IntKind.i64.wrap c.e2) (IntKind.i64.wrap c.e3))
  else if IntKind.i64.wrap c.e0 = 3 then errs (derive k e (IntKind.i64.wrap c.e1) (IntKind.i64.wrap c.e2) (IntKind.i64.wrap c.e3) (IntKind.i64.wrap c.e4))
  else if IntKind.i64.wrap c.e0 = 5 then (((revoke k e (IntKind.i64.wrap c.e1) true).1,true),(revoke k e (IntKind.i64.wrap c.e1) true).2)
  else if IntKind.i64.wrap c.e0 = 4 then (((revoke k e (IntKind.i64.wrap c.e1) false).1,true),(revoke k e (IntKind.i64.wrap c.e1) false).2)
  else if IntKind.i64.wrap c.e0 = 6 then errs (maps k e (IntKind.i64.wrap c.e1) (IntKind.i64.wrap c.e2) (IntKind.i64.wrap c.e3))
  else if IntKind.i64.wrap c.e0 = 7 then errs (remove k e (IntKind.i64.wrap c.e1))
  else if IntKind.i64.wrap c.e0 = 8 then errs (protect k e (IntKind.i64.wrap c.e1) (IntKind.i64.wrap c.e2))
  else if IntKind.i64.wrap c.e0 = 9 then (sleep k e c,k)
  else if IntKind.i64.wrap c.e0 = 10 then ((⟨0,0⟩,true),k)
  else (((user k e c).1,true),(user k e c).2)
def do_ (k:PK) (e:Int) (c:dc):(eM × Bool) × PK :=
  if off k e = true then ((⟨10,0⟩,true),k) else if Word.check c k.s.fEnvs ≠ 0 then ((⟨Word.check c k.s.fEnvs,0⟩,true),k) else does k e c
def new (s:eY):PK:=⟨s,List.replicate s.fFrames.toNat (List.replicate 16 0),List.replicate s.fEnvs.toNat (List.replicate 8 dh),List.replicate s.fFrames.toNat 0,List.replicate s.fEnvs.toNat (List.replicate 8 mo)⟩
def sized (s:eY):Bool:=!(decide (s.fCores < 1) || decide (s.fCores > 8) || decide (s.fEnvs < 1) || decide (s.fEnvs > 4) || decide (s.fFrames < 1) || decide (s.fFrames > 16))
end PK
def PteFine (p:Pte):Prop:=p = dh∨(0 ≤ p.fFrame∧p.fFrame < 16∧0 ≤ p.fSlot∧p.fSlot < 8∧cg p.fRights = true)
def CapFine (n:Int) (t:Caps.T) (c:Cap):Prop :=
  c = mo∨(c.fRights = 3∧c.fEnv = -1∧c.fSlot = 0∧0 ≤ c.fFrame∧c.fFrame < n) ∨
  (0 ≤ c.fEnv∧0 ≤ c.fFrame∧c.fFrame < n∧aQ c.fRights (Caps.get t c.fEnv c.fSlot).fRights = true∧(Caps.get t c.fEnv c.fSlot).fFrame = c.fFrame)
def eC (n:Int) (t:Caps.T):Prop:=∀ e s,Caps.has t e s = true→CapFine n t (Caps.get t e s)
structure PK.Ok (k:PK):Prop where
  sz:PK.sized k.s = true
  ml:(k.m.length:Int) = k.s.fFrames
  mr:∀ r ∈ k.m,r.length = 16
  tl:(k.tabs.length:Int) = k.s.fEnvs
  tr:∀ ps ∈ k.tabs,ps.length = 8∧∀ p ∈ ps,PteFine p
  pl:(k.pool.length:Int) = k.s.fFrames
  pr:∀ n ∈ k.pool,0 ≤ n∧n ≤ 7
  cl:(k.caps.length:Int) = k.s.fEnvs
  tree:Caps.Ok k.caps
  fine:eC k.s.fFrames k.caps
theorem fQ {s:eY}:PK.sized s = true↔1 ≤ s.fCores∧s.fCores ≤ 8∧1 ≤ s.fEnvs∧s.fEnvs ≤ 4∧1 ≤ s.fFrames∧s.fFrames ≤ 16:=by
  unfold PK.sized; simp; omega
theorem uz {r:Int}:cg r = true↔1 ≤ r∧r ≤ 3:=by unfold cg; simp
theorem dk {a b:Int} (h:aQ a b = true):(1 ≤ a∧a ≤ 3)∧(1 ≤ b∧b ≤ 3):=by
  unfold aQ at h; simp only [Bool.and_eq_true,uz] at h; exact h.1
theorem wrapR {n:Int} (h0:-2^63 ≤ n) (h1:n < 2^63):IntKind.i64.wrap n = n:=bR h0 h1
theorem ok_new {s:eY} (h:PK.sized s = true):PK.Ok (PK.new s):=by
  have hs:=fQ.1 h
  refine ⟨h,by simp [PK.new]; omega,?_,by simp [PK.new]; omega,?_,by simp [PK.new]; omega,?_,by simp [PK.new]; omega,Caps.ok_new _ (by omega),?_⟩
  · intro r hr; rw [(List.mem_replicate.1 hr).2]; rfl
  · intro r hr; rw [(List.mem_replicate.1 hr).2]
    exact ⟨rfl,fun p hp=>.inl (List.mem_replicate.1 hp).2⟩
  · intro r hr; rw [(List.mem_replicate.1 hr).2]; omega
  · intro e i hh
    obtain ⟨a,b,rfl,rfl,ha,hb⟩:=Caps.has_nat hh
    simp only [PK.new,List.length_replicate] at ha
    left
    simp only [Caps.get,PK.new,Int.toNat_natCast,List.getD_eq_getElem?_getD,List.getElem?_replicate,if_pos ha,Option.getD_some,if_pos hb]
def pL (ps:List Pte):Prop:=ps.length = 8∧∀ p ∈ ps,PteFine p
theorem tab_set {ps:List Pte} (h:pL ps) (n:Nat) {p:Pte} (hp:PteFine p):pL (ps.set n p) :=
  ⟨by simpa using h.1,fun q hq=>by
    rcases List.mem_or_eq_of_mem_set hq with h1 | h1
    · exact h.2 q h1
    · subst h1; exact hp⟩
theorem tab_at {ps:List Pte} (h:pL ps) (i:Int):PteFine (Table.at_ ps i):=by
  unfold Table.at_
  by_cases hi:i.toNat < ps.length
  · simp [hi]; exact h.2 _ (List.getElem_mem hi)
  · simp [List.getD_eq_getElem?_getD,List.getElem?_eq_none (Nat.le_of_not_lt hi)]; exact .inl rfl
theorem put_fine {p:Pte} (h:(eV p).2 = true) (h0:p.fRights ≠ 0):PteFine p:=by
  unfold eV at h
  cases hq:am.eqb p ⟨0,0,0⟩ with
  | true =>
    exfalso; apply h0
    unfold am.eqb at hq
    simp at hq; exact hq.2.2
  | false =>
    rw [hq] at h
    simp only [cond_false] at h
    cases hb:(((((decide (p.fFrame < 0)) || (decide (p.fFrame ≥ 16))) || (decide (p.fSlot < 0))) || (decide (p.fSlot ≥ 8))) || (!(cg p.fRights))) with
    | true=>rw [hb] at h; simp at h
    | false =>
      simp at hb
      obtain ⟨⟨⟨⟨h1,h2⟩,h3⟩,h4⟩,h5⟩:=hb
      exact .inr ⟨h1,h2,h3,h4,h5⟩
theorem tab_insert {ps:List Pte} (h:pL ps) (i:Int) (p:Pte):pL (Table.insert ps i p).2:=by
  unfold Table.insert
  split
  · exact h
  · split
    · exact h
    · rename_i h1 _
      simp at h1
      exact tab_set h _ (put_fine h1.1 h1.2.1)
theorem tab_remove {ps:List Pte} (h:pL ps) (i:Int):pL (Table.remove ps i).2:=by
  unfold Table.remove
  split
  · exact h
  · split
    · exact h
    · exact tab_set h _ (.inl rfl)
theorem tab_protect {ps:List Pte} (h:pL ps) (i r:Int):pL (Table.protect ps i r).2:=by
  unfold Table.protect
  split
  · exact h
  · split
    · exact h
    · rename_i h1 h2
      simp at h1
      refine tab_set h _ (.inr ?_)
      rcases tab_at h i with e | e
      · rw [e] at h2; exact absurd rfl h2
      · exact ⟨e.1,e.2.1,e.2.2.1,e.2.2.2.1,h1.2⟩
theorem tab_unmaps:∀ (l:List Int) {ps:List Pte},pL ps→pL (PK.unmaps ps l)
  | [],_,h=>h
  | i::l,_,h=>tab_unmaps l (tab_remove h i)
theorem tab_of {k:PK} (ok:PK.Ok k) {n:Nat} (h:n < k.tabs.length):PK.tab k n = k.tabs[n]∧pL k.tabs[n]:=by
  refine ⟨by simp [PK.tab,h],ok.tr _ (List.getElem_mem h)⟩
theorem tab_ok {k:PK} (ok:PK.Ok k) (e:Int) (h:e.toNat < k.tabs.length):pL (PK.tab k e):=by
  have:PK.tab k e = k.tabs[e.toNat]:=by simp [PK.tab,h]
  rw [this]; exact ok.tr _ (List.getElem_mem h)
theorem tabs_set {k:PK} (ok:PK.Ok k) (e:Int) {ps:List Pte} (h:e.toNat < k.tabs.length→pL ps):∀ qs ∈ k.tabs.set e.toNat ps,pL qs:=by
  intro qs hq
  by_cases he:e.toNat < k.tabs.length
  · rcases List.mem_or_eq_of_mem_set hq with h1 | h1
    · exact ok.tr _ h1
    · subst h1; exact h he
  · rw [List.set_eq_of_length_le (by omega)] at hq; exact ok.tr _ hq
theorem ok_tabs {k:PK} (ok:PK.Ok k) (e:Int) {ps:List Pte} (h:e.toNat < k.tabs.length→pL ps):PK.Ok { k with tabs:=k.tabs.set e.toNat ps } :=
  ⟨ok.sz,ok.ml,ok.mr,by simpa using ok.tl,tabs_set ok e h,ok.pl,ok.pr,ok.cl,ok.tree,ok.fine⟩
theorem pool_set {p:List Int} (h:∀ n ∈ p,0 ≤ n∧n ≤ 7) (i:Nat) {v:Int} (hv:0 ≤ v∧v ≤ 7):∀ n ∈ p.set i v,0 ≤ n∧n ≤ 7:=by
  intro n hn
  rcases List.mem_or_eq_of_mem_set hn with h1 | h1
  · exact h n h1
  · subst h1; exact hv
theorem refs_fine {p:List Int} (h:∀ n ∈ p,0 ≤ n∧n ≤ 7) (i:Int):0 ≤ Pool.refs p i∧Pool.refs p i ≤ 7:=by
  unfold Pool.refs
  split
  · omega
  · by_cases hi:i.toNat < p.length
    · simp [hi]; exact h _ (List.getElem_mem hi)
    · simp [List.getD_eq_getElem?_getD,List.getElem?_eq_none (Nat.le_of_not_lt hi)]
theorem lets_fine {p:List Int} (h:∀ n ∈ p,0 ≤ n∧n ≤ 7) (i:Int):(Pool.lets p i).2.2.length = p.length∧∀ n ∈ (Pool.lets p i).2.2,0 ≤ n∧n ≤ 7:=by
  have hr:=refs_fine h i
  unfold Pool.lets
  split
  · exact ⟨rfl,h⟩
  · refine ⟨by simp,pool_set h _ ?_⟩
    rw [wrapR (by omega) (by omega)]; omega
theorem hold_fine {p:List Int} (h:∀ n ∈ p,0 ≤ n∧n ≤ 7) (i:Int):(Pool.hold p i).2.length = p.length∧∀ n ∈ (Pool.hold p i).2,0 ≤ n∧n ≤ 7:=by
  have hr:=refs_fine h i
  unfold Pool.hold
  split
  · exact ⟨rfl,h⟩
  · refine ⟨by simp,pool_set h _ ?_⟩
    rw [wrapR (by omega) (by omega)]; omega
theorem take_fine {p:List Int} (h:∀ n ∈ p,0 ≤ n∧n ≤ 7):(Pool.take p).2.2.length = p.length∧∀ n ∈ (Pool.take p).2.2,0 ≤ n∧n ≤ 7:=by
  unfold Pool.take
  split
  · exact ⟨rfl,h⟩
  · exact ⟨by simp,pool_set h _ (by omega)⟩
theorem take_in {p:List Int} (h:(Pool.take p).2.1 = true):0 ≤ (Pool.take p).1∧(Pool.take p).1 < p.length:=by
  unfold Pool.take at h ⊢
  split at h
  · cases h
  · rename_i h1
    rw [if_neg h1]
    rcases idx_lt 0 p 0 with e | ⟨n,h2,e⟩
    · omega
    · simp only; omega
namespace Caps
theorem cf_root {n:Int} {t:T} {f:Int} (h0:0 ≤ f) (h1:f < n):CapFine n t ⟨f,3,-1,0⟩:=.inr (.inl ⟨rfl,rfl,rfl,h0,h1⟩)
theorem parent_has {t:T} (ok:Ok t) {e s:Int} (h:has t e s = true) (h1:(get t e s).fRights ≠ 0) (h2:0 ≤ (get t e s).fEnv):has t (get t e s).fEnv (get t e s).fSlot = true∧(get t (get t e s).fEnv (get t e s).fSlot).fRights ≠ 0:=by
  obtain ⟨rank,hr⟩:=ok.rk
  exact ⟨(hr e s h h1 h2).1,(hr e s h h1 h2).2.1⟩
theorem fine_put {n:Int} {t:T} (ok:Ok t) (F:eC n t) {e s:Int} (h:has t e s = true) (h0:(get t e s).fRights = 0) {c:Cap} (hc:CapFine n t c) (hc2:0 ≤ c.fEnv→has t c.fEnv c.fSlot = true∧(get t c.fEnv c.fSlot).fRights ≠ 0):eC n (put t e s c):=by
  intro a b hab
  rw [put_has] at hab
  have keep:∀ {i j:Int},has t i j = true→(get t i j).fRights ≠ 0→get (put t e s c) i j = get t i j:=by
    intro i j hij hn
    rw [get_put ok.row h hij,if_neg]
    rintro ⟨rfl,rfl⟩; exact hn h0
  rw [get_put ok.row h hab]
  split
  · rcases hc with e1 | e1 | e1
    · exact .inl e1
    · exact .inr (.inl e1)
    · obtain ⟨p1,p2⟩:=hc2 e1.1
      exact .inr (.inr ⟨e1.1,e1.2.1,e1.2.2.1,by rw [keep p1 p2]; exact e1.2.2.2.1,by rw [keep p1 p2]; exact e1.2.2.2.2⟩)
  · rcases F a b hab with e1 | e1 | e1
    · exact .inl e1
    · exact .inr (.inl e1)
    · have hm:=(dk e1.2.2.2.1).1
      obtain ⟨p1,p2⟩:=parent_has ok hab (by omega) e1.1
      exact .inr (.inr ⟨e1.1,e1.2.1,e1.2.2.1,by rw [keep p1 p2]; exact e1.2.2.2.1,by rw [keep p1 p2]; exact e1.2.2.2.2⟩)
theorem fine_empties {n:Int} {t:T} (ok:Ok t) (F:eC n t) {l:List bV} (hl:∀ p ∈ l,has t p.fEnv p.fSlot = true)
    (cl:∀ e s,has t e s = true→(get t e s).fRights ≠ 0→0 ≤ (get t e s).fEnv→(⟨(get t e s).fEnv,(get t e s).fSlot⟩:bV) ∈ l→(⟨e,s⟩:bV) ∈ l):eC n (empties t l):=by
  intro a b hab
  rw [empties_has] at hab
  rw [jd l t ok.row hl a b hab]
  split
  · exact .inl rfl
  · rename_i hm
    rcases F a b hab with e1 | e1 | e1
    · exact .inl e1
    · exact .inr (.inl e1)
    · have hmy:=(dk e1.2.2.2.1).1
      obtain ⟨p1,p2⟩:=parent_has ok hab (by omega) e1.1
      have hp:(⟨(get t a b).fEnv,(get t a b).fSlot⟩:bV) ∉ l:=fun h=>hm (cl a b hab (by omega) e1.1 h)
      have hg:=jd l t ok.row hl _ _ p1
      rw [if_neg hp] at hg
      exact .inr (.inr ⟨e1.1,e1.2.1,e1.2.2.1,by rw [hg]; exact e1.2.2.2.1,by rw [hg]; exact e1.2.2.2.2⟩)
theorem below_closed {t:T} (ok:Ok t) (e s:Int):∀ a b,has t a b = true→(get t a b).fRights ≠ 0→0 ≤ (get t a b).fEnv→(⟨(get t a b).fEnv,(get t a b).fSlot⟩:bV) ∈ below t e s→(⟨a,b⟩:bV) ∈ below t e s:=by
  intro a b hab hne hen hp
  have h1:=(mem_below ok).1 hp
  refine (mem_below ok).2 ⟨hab,hne,?_⟩
  rw [under_step ok hab,if_pos ⟨hne,hen⟩]
  split
  · rfl
  · exact h1.2.2
theorem own_closed {t:T} (ok:Ok t) (e s:Int):∀ a b,has t a b = true→(get t a b).fRights ≠ 0→0 ≤ (get t a b).fEnv→(⟨(get t a b).fEnv,(get t a b).fSlot⟩:bV) ∈ own t e s→(⟨a,b⟩:bV) ∈ own t e s:=by
  intro a b hab hne hen hp
  have h1:=(mem_own ok).1 hp
  refine (mem_own ok).2 ⟨hab,hne,.inr ?_⟩
  rw [under_step ok hab,if_pos ⟨hne,hen⟩]
  split
  · rfl
  · rename_i hno
    rcases h1.2.2 with h | h
    · exact absurd ⟨congrArg aF.fEnv h,congrArg aF.fSlot h⟩ hno
    · exact h
theorem fine_revoke {n:Int} {t:T} (ok:Ok t) (F:eC n t) (e s:Int):eC n (revoke t e s).2:=by
  unfold revoke; split
  · exact F
  · exact fine_empties ok F (fun p hp=>((mem_below ok).1 hp).1) (below_closed ok e s)
theorem fine_drop {n:Int} {t:T} (ok:Ok t) (F:eC n t) (e s:Int):eC n (drop t e s).2:=by
  unfold drop; split
  · exact F
  · exact fine_empties ok F (fun p hp=>((mem_own ok).1 hp).1) (own_closed ok e s)
theorem fine_rootc {n:Int} {t:T} (ok:Ok t) (F:eC n t) (e s:Int) {f:Int} (h1:f < n) (h0:0 ≤ f):eC n (root t e s f).2:=by
  unfold root; split
  · exact F
  · split
    · exact F
    · rename_i c1 c2
      simp at c1
      exact fine_put ok F c1.1 (by simpa using c2) (cf_root h0 h1) (fun h=>absurd h (by show ¬ (0:Int) ≤ -1; omega))
theorem fine_derive {n:Int} {t:T} (ok:Ok t) (F:eC n t) (e src to dst r:Int):eC n (derive t e src to dst r).2:=by
  unfold derive
  split
  · exact F
  · split
    · exact F
    · split
      · exact F
      · split
        · exact F
        · rename_i h1 h2 h3 h4
          simp at h1
          have hw:aQ r (get t e src).fRights = true:=by simpa using h4
          have hf:0 ≤ (get t e src).fFrame∧(get t e src).fFrame < n:=by
            rcases F e src h1.1 with e1 | e1 | e1
            · rw [e1] at h2; exact absurd rfl h2
            · exact ⟨e1.2.2.2.1,e1.2.2.2.2⟩
            · exact ⟨e1.2.1,e1.2.2.1⟩
          have h0:0 ≤ e:=by
            obtain ⟨a,b,rfl,_,_,_⟩:=has_nat h1.1
            omega
          exact fine_put ok F h1.2.1 (by simpa using h3) (.inr (.inr ⟨h0,hf.1,hf.2,hw,rfl⟩)) (fun _=>⟨h1.1,h2⟩)
theorem root_len (t:T) (e s f:Int):(root t e s f).2.length = t.length:=by
  unfold root; split
  · rfl
  · split
    · rfl
    · exact put_len _ _ _ _
theorem derive_len (t:T) (e src to dst r:Int):(derive t e src to dst r).2.length = t.length:=by
  unfold derive; repeat' split
  all_goals first | rfl | exact put_len _ _ _ _
theorem revoke_len (t:T) (e s:Int):(revoke t e s).2.length = t.length:=by
  unfold revoke; split
  · rfl
  · exact empties_len _ _
theorem drop_len (t:T) (e s:Int):(drop t e s).2.length = t.length:=by
  unfold drop; split
  · rfl
  · exact empties_len _ _
end Caps
theorem put_row16 {m:List (List Int)} (h:∀ r ∈ m,r.length = 16) (i:Nat) {r:List Int} (hr:i < m.length→r.length = 16):∀ q ∈ m.set i r,q.length = 16:=by
  intro q hq
  by_cases hi:i < m.length
  · rcases List.mem_or_eq_of_mem_set hq with h1 | h1
    · exact h q h1
    · subst h1; exact hr hi
  · rw [List.set_eq_of_length_le (by omega)] at hq; exact h q hq
theorem mput {m:List (List Int)} (h:∀ r ∈ m,r.length = 16) (f a v:Int):(Mem.put m f a v).length = m.length∧∀ r ∈ Mem.put m f a v,r.length = 16:=by
  refine ⟨by simp [Mem.put],put_row16 h _ fun hi=>?_⟩
  simp [hi]; exact h _ (List.getElem_mem hi)
theorem mstore {m:List (List Int)} (h:∀ r ∈ m,r.length = 16) (f a v:Int):(Mem.store m f a v).2.length = m.length∧∀ r ∈ (Mem.store m f a v).2,r.length = 16:=by
  unfold Mem.store; split
  · exact mput h f a v
  · exact ⟨rfl,h⟩
theorem mcas {m:List (List Int)} (h:∀ r ∈ m,r.length = 16) (f a o v:Int):(Mem.cas m f a o v).2.length = m.length∧∀ r ∈ (Mem.cas m f a o v).2,r.length = 16:=by
  unfold Mem.cas; split
  · exact mstore h f a v
  · exact ⟨rfl,h⟩
theorem madd {m:List (List Int)} (h:∀ r ∈ m,r.length = 16) (f a v:Int):(Mem.add m f a v).2.length = m.length∧∀ r ∈ (Mem.add m f a v).2,r.length = 16:=by
  unfold Mem.add
  exact mstore h f a _
theorem mzero {m:List (List Int)} (h:∀ r ∈ m,r.length = 16) (f:Int):(Mem.zero m f).2.length = m.length∧∀ r ∈ (Mem.zero m f).2,r.length = 16:=by
  unfold Mem.zero; split
  · refine ⟨by simp,put_row16 h _ fun hi=>by simp⟩
  · exact ⟨rfl,h⟩
theorem ok_mem {k:PK} (ok:PK.Ok k) {m:List (List Int)} (h:m.length = k.m.length∧∀ r ∈ m,r.length = 16):PK.Ok { k with m:=m } :=
  ⟨ok.sz,by rw [← ok.ml,← h.1],h.2,ok.tl,ok.tr,ok.pl,ok.pr,ok.cl,ok.tree,ok.fine⟩
theorem ok_touch {k:PK} (ok:PK.Ok k) (f:Int) (c:dc):PK.Ok (PK.touch k f c).2:=by
  unfold PK.touch
  split
  · exact ok
  · split
    · exact ok
    · split
      · exact ok_mem ok (mstore ok.mr _ _ _)
      · split
        · exact ok_mem ok (mcas ok.mr _ _ _ _)
        · exact ok_mem ok (madd ok.mr _ _ _)
theorem ok_alloc {k:PK} (ok:PK.Ok k) (e s:Int):PK.Ok (PK.alloc k e s).2:=by
  unfold PK.alloc
  split
  · exact ok
  · split
    · exact ok
    · rename_i h
      have ht:=take_in (by simpa using h)
      have h1:=take_fine ok.pr
      have h2:=mzero ok.mr (Pool.take k.pool).1
      refine ⟨ok.sz,by rw [← ok.ml,← h2.1],h2.2,ok.tl,ok.tr,by rw [← ok.pl,← h1.1],h1.2,by rw [← ok.cl]; simp only [Caps.root_len],Caps.ok_root ok.tree _ _ _,?_⟩
      exact Caps.fine_rootc ok.tree ok.fine _ _ (by rw [← ok.pl]; exact ht.2) ht.1
theorem ok_derive {k:PK} (ok:PK.Ok k) (e src to dst r:Int):PK.Ok (PK.derive k e src to dst r).2:=by
  have o1:=Caps.ok_derive ok.tree e src to dst r
  have f1:=Caps.fine_derive ok.tree ok.fine e src to dst r
  unfold PK.derive
  split
  · exact ok
  · split
    · exact ⟨ok.sz,ok.ml,ok.mr,ok.tl,ok.tr,ok.pl,ok.pr,by rw [← ok.cl]; simp only [Caps.drop_len,Caps.derive_len],Caps.ok_drop o1 _ _,Caps.fine_drop o1 f1 _ _⟩
    · have h1:=hold_fine ok.pr (Caps.at_ (Caps.derive k.caps e src to dst r).2 to dst).1.fFrame
      exact ⟨ok.sz,ok.ml,ok.mr,ok.tl,ok.tr,by rw [← ok.pl,← h1.1],h1.2,by rw [← ok.cl]; simp only [Caps.derive_len],o1,f1⟩
theorem ok_gone:∀ (l:List bV) {k:PK} (_:PK.Ok k) (f:Int),PK.Ok (PK.gone k f l)
  | [],_,ok,_=>ok
  | p::l,k,ok,f=>by
    have h1:=lets_fine ok.pr f
    have h2:=ok_tabs ok p.fEnv (ps:=PK.unmap (PK.tab k p.fEnv) p.fSlot) (fun h=>tab_unmaps _ (tab_ok ok _ h))
    have h3:PK.Ok { k with tabs:=k.tabs.set p.fEnv.toNat (PK.unmap (PK.tab k p.fEnv) p.fSlot),pool:=(Pool.lets k.pool f).2.2 } :=
      ⟨h2.sz,h2.ml,h2.mr,h2.tl,h2.tr,by rw [← ok.pl]; exact congrArg Int.ofNat h1.1,h1.2,h2.cl,h2.tree,h2.fine⟩
    exact ok_gone l h3 f
theorem ok_caps {k:PK} (ok:PK.Ok k) {t:Caps.T} (h:t.length = k.caps.length) (o:Caps.Ok t) (f:eC k.s.fFrames t):PK.Ok { k with caps:=t } :=
  ⟨ok.sz,ok.ml,ok.mr,ok.tl,ok.tr,ok.pl,ok.pr,by rw [← ok.cl,← h],o,f⟩
theorem ok_revoke {k:PK} (ok:PK.Ok k) (e s:Int) (w:Bool):PK.Ok (PK.revoke k e s w).2:=by
  have o1:=Caps.ok_revoke ok.tree e s
  have f1:=Caps.fine_revoke ok.tree ok.fine e s
  unfold PK.revoke
  split
  · exact ok
  · split
    · exact ok_gone _ (ok_caps ok (by rw [Caps.drop_len,Caps.revoke_len]) (Caps.ok_drop o1 _ _) (Caps.fine_drop o1 f1 _ _)) _
    · exact ok_gone _ (ok_caps ok (by rw [Caps.revoke_len]) o1 f1) _
theorem ok_maps {k:PK} (ok:PK.Ok k) (e pg s r:Int):PK.Ok (PK.maps k e pg s r).2:=by
  unfold PK.maps
  repeat' split
  all_goals first | exact ok | exact ok_tabs ok e fun h=>tab_insert (tab_ok ok _ h) _ _
theorem ok_protect {k:PK} (ok:PK.Ok k) (e pg r:Int):PK.Ok (PK.protect k e pg r).2:=by
  unfold PK.protect
  repeat' split
  all_goals first | exact ok | exact ok_tabs ok e fun h=>tab_protect (tab_ok ok _ h) _ _
theorem ok_remove {k:PK} (ok:PK.Ok k) (e pg:Int):PK.Ok (PK.remove k e pg).2:=ok_tabs ok e fun h=>tab_remove (tab_ok ok _ h) _
theorem ok_user {k:PK} (ok:PK.Ok k) (e:Int) (c:dc):PK.Ok (PK.user k e c).2:=by
  unfold PK.user
  split
  · exact ok
  · exact ok_touch ok _ _
theorem ok_does {k:PK} (ok:PK.Ok k) (e:Int) (c:dc):PK.Ok (PK.does k e c).2:=by
  unfold PK.does PK.errs
  repeat' split
  all_goals first | exact ok | exact ok_alloc ok _ _ | exact ok_derive ok _ _ _ _ _ | exact ok_revoke ok _ _ _ | exact ok_maps ok _ _ _ _ | exact ok_remove ok _ _ | exact ok_protect ok _ _ _ | exact ok_user ok _ _
theorem ok_do {k:PK} (ok:PK.Ok k) (e:Int) (c:dc):PK.Ok (PK.do_ k e c).2:=by
  unfold PK.do_
  split
  · exact ok
  · split
    · exact ok
    · exact ok_does ok e c
end Go.Proofs.YtemoifebbhoinaaGreatDoor
namespace Go.Proofs.YtemoifebbhoinaaGreatDoor
open Go Mb
theorem mid_eq (lo hi:Nat) (h:lo + hi < 2 ^ 62):IntKind.i64.wrap (Int.fdiv (IntKind.u64.wrap (IntKind.i64.wrap ((lo:Int) + (hi:Int)))) (2 ^ (min (Int.toNat 1) (IntKind.bits .u64)))) = (((lo + hi) / 2:Nat):Int):=by
  have e0:IntKind.i64.wrap ((lo:Int) + (hi:Int)) = ((lo + hi:Nat):Int):=by rw [bR (by omega) (by omega)]; rfl
  have e1:IntKind.u64.wrap ((lo + hi:Nat):Int) = ((lo + hi:Nat):Int):=by
    simp only [IntKind.wrap]; first | omega | (simp [IntKind.bits,IntKind.signed]; omega)
  have e2:(2:Int) ^ (min (Int.toNat 1) (IntKind.bits .u64)) = 2:=by decide
  rw [e0,e1,e2,Int.fdiv_eq_ediv_of_nonneg _ (by decide)]
  have e3:((lo + hi:Nat):Int) / 2 = (((lo + hi) / 2:Nat):Int):=by omega
  rw [e3,bR (by omega) (by omega)]
structure PlaceIn (xs:List Int) (a:Int) (i:Nat):Prop where
  le:i ≤ xs.length
  lo:∀ k (h:k < xs.length),k < i→xs[k] < a
  hi:∀ k (h:k < xs.length),i ≤ k→a ≤ xs[k]
theorem less_eq (x y:Int):il x y = decide (x < y):=by
  unfold il
  simp [dv]
theorem sp_BinarySearch (s:Sl) (xs:List Int) (a:Int) (hb:xs.length < 2 ^ 60) (hs:∀ i j (hi:i < xs.length) (hj:j < xs.length),i < j→xs[i] ≤ xs[j]) :
    Sp Tryz.prog eK [sv s,.int .u64 a] bL [vU s xs] (fun r=>pa_ (∃ i,PlaceIn xs a i∧r = ((i:Int),decide (xs[i]? = some a))) [vU s xs]):=by
  intro h s0
  have hl:=(cj (j:=0) s0 rfl).1
  refine lT _ _ ?_
  unfold gK
  refine Lp.intro (fun (z:Int × Int) h=>∃ lo hi:Nat,z = ((lo:Int),(hi:Int))∧lo ≤ hi∧hi ≤ xs.length∧(∀ k (h:k < xs.length),k < lo→xs[k] < a)∧(∀ k (h:k < xs.length),hi ≤ k→a ≤ xs[k])∧aG [vU s xs] h) (fun (z:Int × Int) _=>(z.2 - z.1).toNat)
    ⟨0,xs.length,by rw [hl]; rfl,Nat.zero_le _,Nat.le_refl _,fun k h h'=>by omega,fun k h h'=>by omega,s0⟩ ?_
  rintro z h ⟨lo,hi,rfl,h1,h2,h3,h4,s1⟩
  unfold eD
  refine ba (fun k=>?_) (fun k=>?_)
  · have hlt:lo < hi:=by have:=of_decide_eq_true k; simp at this; exact this
    have hm:=mid_eq lo hi (by omega)
    simp only [hm]
    have hml:(lo + hi) / 2 < xs.length:=by omega
    refine dC s1 (j:=0) rfl (by omega) (by omega) fun q hq=>?_
    refine eE (j:=0) (i:=(lo + hi) / 2) (k:=0) xs[(lo + hi) / 2] (dl _) s1 rfl hq (by rw [Int.toNat_natCast]; rfl) (aH hml) (by simp) ?_
    rw [less_eq]
    refine ba (fun k2=>?_) (fun k2=>?_)
    · have k2':xs[(lo + hi) / 2] < a:=by simpa using k2
      have hw:IntKind.i64.wrap ((((lo + hi) / 2:Nat):Int) + 1) = (((lo + hi) / 2 + 1:Nat):Int):=by rw [bR (by omega) (by omega)]; rfl
      rw [hw]
      refine ⟨⟨(lo + hi) / 2 + 1,hi,rfl,by omega,h2,fun k hk hk'=>?_,h4,s1⟩,?_⟩
      · by_cases e:k = (lo + hi) / 2
        · subst e; exact k2'
        · have:=hs k _ hk hml (by omega); omega
      · show ((hi:Int) - (((lo + hi) / 2 + 1:Nat):Int)).toNat < ((hi:Int) - (lo:Int)).toNat
        omega
    · have k2':¬ xs[(lo + hi) / 2] < a:=by simpa using k2
      refine ⟨⟨lo,(lo + hi) / 2,rfl,by omega,by omega,h3,fun k hk hk'=>?_,s1⟩,?_⟩
      · by_cases e:k = (lo + hi) / 2
        · subst e; omega
        · have:=hs _ k hml hk (by omega); omega
      · show ((((lo + hi) / 2:Nat):Int) - (lo:Int)).toNat < ((hi:Int) - (lo:Int)).toNat
        omega
  · have hlt:lo = hi:=by have:=of_decide_eq_false k; simp at this; omega
    subst hlt
    have hp:PlaceIn xs a lo:=⟨h2,h3,h4⟩
    refine ba (fun k2=>?_) (fun k2=>?_)
    · have hlt:lo < xs.length:=by rw [hl] at k2; simpa using k2
      refine dC s1 (j:=0) rfl (by omega) (by show (lo:Int) < _; omega) fun q hq=>?_
      refine eE (j:=0) (i:=lo) (k:=0) xs[lo] (dl _) s1 rfl hq (by simp) (aH hlt) (by simp) ?_
      refine ba (fun k3=>?_) (fun k3=>?_)
      · have k3':¬ xs[lo] = a:=by simpa using k3
        refine eE (j:=0) (i:=lo) (k:=0) xs[lo] (dl _) s1 rfl hq (by simp) (aH hlt) (by simp) ?_
        exact aX ⟨lo,hp,by simp [dF,hlt,k3']⟩ s1
      · have k3':xs[lo] = a:=by simpa using k3
        exact aX ⟨lo,hp,by simp [hlt,k3']⟩ s1
    · have hlt:¬ lo < xs.length:=by rw [hl] at k2; simpa using k2
      exact aX ⟨lo,hp,by simp [List.getElem?_eq_none (Nat.le_of_not_lt hlt)]⟩ s1
def sub (m:Nat) (s:Sl) (lo hi:Nat):Sl:=⟨if s.cap = lo then s.a else s.a.map (fun q=>(q.1,q.2 + lo * m)),hi - lo,s.cap - lo,none⟩
theorem pa_map (p:Ptr) (n:Nat):(pa p).map (·.add n) = pa (p.map fun q=>(q.1,q.2 + n)):=by
  cases p with
  | none=>rfl
  | some q=>simp [pa,kI]
theorem slice_raw {P:Program} {h:Hp} {S T m bys:Nat} {z:List Value} {s:Sl} {lo hi:Nat} {vlo vhi:Option Value} {R:Sl→Value} {K:Sl→Hp→Prop} (E:El P S T m bys z) (hR:R = sv)
    (hlo:vlo = some (.int .i64 lo)∨vlo = none∧lo = 0) (hhi:vhi = some (.int .i64 hi)∨vhi = none∧hi = s.len) (h1:lo ≤ hi) (h2:hi ≤ s.cap) (k:K (sub m s lo hi) h):hpv P (Instr.sliceAt S (sv s) vlo vhi none) R K h:=by
  subst hR
  refine ⟨?_⟩
  obtain ⟨inf,hinf,e1,e2,e3⟩:=E.inf
  unfold Instr.sliceAt
  refine cy (dq E.sl ?_)
  show hp P (Instr.slice S (sv s) _ _ _) _ _
  unfold Instr.slice
  refine cy (dq E.sl ?_)
  simp only [sv]
  refine cy ?_
  unfold Instr.sliceBounds
  have fin:∀ hh:Hp,hh = h→hp P (do let size ← sizeOf T; pure (Value.slice (if s.cap = lo then pa s.a else (pa s.a).map (·.add (lo * size))) (hi - lo) (s.cap - lo))) (fun v h'=>∃ r,v = sv r∧K r h') hh:=by
    rintro _ rfl
    refine cy (nU hinf ?_)
    rw [e1]
    refine ⟨sub m s lo hi,?_,k⟩
    unfold sub sv
    split
    · rfl
    · rw [pa_map]
  rcases hhi with rfl | ⟨rfl,rfl⟩
  · refine cy (cy (cy ?_))
    unfold Instr.sliceBound
    refine cy (tk ?_)
    refine hp_yes ⟨by omega,by omega⟩ ?_
    rcases hlo with rfl | ⟨rfl,rfl⟩
    · refine cy (cy (tk ?_))
      refine hp_yes ⟨by omega,by omega⟩ ?_
      exact fin h rfl
    · exact fin h rfl
  · refine cy (cy ?_)
    rcases hlo with rfl | ⟨rfl,rfl⟩
    · refine cy ?_
      unfold Instr.sliceBound
      refine cy (tk ?_)
      refine hp_yes ⟨by omega,by omega⟩ ?_
      exact fin h rfl
    · exact fin h rfl
end Go.Proofs.YtemoifebbhoinaaGreatDoor
namespace Go.Proofs.YtemoifebbhoinaaGreatDoor
open Go Mb
set_option linter.unusedVariables false
def sh_mail_Mail_is (a0:Ptr) (a1:Int) (K:Bool→Hp→Prop):Hp→Prop:=br ((!a0.isNone) && (decide (a1 ≥ 0))) ( nn a0 fun q14=>ld (q14.1,q14.2 + 0) cS fun x16=>K (decide (a1 < (x16.len:Int)))) ( K false)
theorem sim_mail_Mail_is (a0:Ptr) (a1:Int) {K:Bool→Hp→Prop} {h:Hp} (H:sh_mail_Mail_is a0 a1 K h):Ct Tryz.prog lE #[(pv a0),(.int .i64 a1)] h fun v h'=>∃ r,v = aC r∧K r h':=aw [(pv a0),(.int .i64 a1)] Tryz.func168 c c c fun _=>M<|O c<|M<|J c<|p (v_pneT Tryz.underlying105 c)<|J c<|V c c (az _) (fun g1=>wv<|ai c)<|V c c (az _) (fun g2=>wv<|jN (aD c g2) c)<|p (bS c c)<|J c<|V c c (az _) (fun g3=>wv<|ai c)<|V c c (az _) (fun g4=>wv<|ai c)<|bU H (fun k6 H7=>bF H7 fun q14 e8 H9=>F (D k6)<|R (aL<|aN (aD c k6)<|ap e8)<|F (D k6)<|R (ae mi c)<|F (D k6)<|aW H9 lm c (fun _=>c) c fun x16 H10=>F (D k6)<|R (dA c Tryz.underlying163 c)<|F (D k6)<|R (cC (aD c k6) c)<|p (aU c k6 c)<|O c<|aj<|Y ⟨decide (a1 < (x16.len:Int)),c,H10⟩) fun k6 H7=>W (aR k6)<|W (aR k6)<|W (aR k6)<|W (aR k6)<|W (aR k6)<|p (aq c k6 c)<|O c<|aj<|Y ⟨false,c,H7⟩
def tY (a0:Ptr) (a1:Int) (a2:Int) (a3:Int) (K:Bool→Hp→Prop):Hp→Prop:=cl Tryz.prog lE [(pv a0),(.int .i64 a1)] aC fun r13=>br (!(!r13)) ( cl Tryz.prog lE [(pv a0),(.int .i64 a2)] aC fun r18=>br ((!r18) || (a1 == a2)) ( K false) ( nn a0 fun q28=>ld (q28.1,q28.2 + 0) cS fun x30=>ix x30 a2 fun q32=>ld (q32.1,q32.2 + Int.toNat a2 * 1) cS fun x33=>cl Tryz.prog eK [(sv x33),(.int .u64 a3)] bL fun r35=>br (!r35.2) ( ld (q28.1,q28.2 + 0) cS fun x48=>ix x48 a2 fun q50=>ld (q50.1,q50.2 + Int.toNat a2 * 1) cS fun x51=>both ( ld (q28.1,q28.2 + 0) cS fun x43=>hpv Tryz.prog (Instr.buildSlice be 1 #[(0,(.int .u64 a3))]) ce fun (v54:Sl)=>cl Tryz.prog dB [(sv x51),(.int .i64 r35.1),(sv v54)] ce fun r55=>ix x43 a2 fun q56=>st (q56.1,q56.2 + Int.toNat a2 * 1) [sv r55]<|K true) ( hpv Tryz.prog (Instr.buildSlice be 1 #[(0,(.int .u64 a3))]) ce fun (v54:Sl)=>both ( ld (q28.1,q28.2 + 0) cS fun x43=>cl Tryz.prog dB [(sv x51),(.int .i64 r35.1),(sv v54)] ce fun r55=>ix x43 a2 fun q56=>st (q56.1,q56.2 + Int.toNat a2 * 1) [sv r55]<|K true) ( cl Tryz.prog dB [(sv x51),(.int .i64 r35.1),(sv v54)] ce fun r55=>ld (q28.1,q28.2 + 0) cS fun x43=>ix x43 a2 fun q56=>st (q56.1,q56.2 + Int.toNat a2 * 1) [sv r55]<|K true))) ( K true))) ( K false)
theorem sim_mail_Mail_Send (a0:Ptr) (a1:Int) (a2:Int) (a3:Int) {K:Bool→Hp→Prop} {h:Hp} (H:tY a0 a1 a2 a3 K h):Ct Tryz.prog pY #[(pv a0),(.int .i64 a1),(.int .i64 a2),(.int .u64 a3)] h fun v h'=>∃ r,v = aC r∧K r h':=aw [(pv a0),(.int .i64 a1),(.int .i64 a2),(.int .u64 a3)] Tryz.func120 c c c fun _=>M<|O c<|al<|M<|J c<|J c<|aa<|Z H en_168 fun r13 _ H1=>p (cq c)<|J c<|V c c (aJ _) (fun g2=>wv<|ai c)<|V c c (aJ _) (fun g3=>wv<|ai c)<|bU H1 (fun k5 H6=>F (D<|ch k5)<|gw H6 en_168 (aT (aD c k5)<|aT (aD c k5) bQ) c fun r18 _ H7=>F (D<|ch k5)<|R (cq c)<|p (aq c (ch k5) c)<|J c<|V c c (aJ _) (fun g8=>wv<|ai c)<|V c c (aJ _) (fun g9=>wv<|ai c)<|V c c (aJ _) (fun g10=>wv<|bO (aD c g10)<|aD c g10)<|p (dm c c)<|ad<|av c H7 (fun k11 H12=>M<|O c<|aj<|Y ⟨false,c,H12⟩) fun k11 H12=>ao<|al<|M<|J c<|bF H12 fun q28 e13 H14=>p (aL<|aN c<|ap e13)<|p (ae mi c)<|aa<|aW H14 lm c (fun _=>c) c fun x30 H15=>J c<|ct H15 fun q32 e16 h17 H18=>p (bq lS (aN c<|bc e16) c h17)<|aa<|aW H18 sc_93 c (fun _=>c) c fun x33 H19=>J c<|aa<|Z H19 en_169 fun r35 _ H20=>J c<|p (ak c c)<|p (ak c c)<|p (au c)<|O c<|M<|J c<|p (cq c)<|ad<|av c H20 (fun k21 H22=>bm (n:=18) [] cx c .slnil<|U 0 c (ai<|aN c<|ap e13)<|U 1 c (aL c)<|U 2 c (ae mi c)<|U 4 c (ai c)<|U 5 c (ai<|aN c<|ap e13)<|U 6 c (aL c)<|U 7 c (ae mi c)<|U 9 c (ai c)<|U 12 c (ai c)<|U 13 c (ai c)<|bH (i:=8) (fun _ _ _ _ hh=>hh) H22 c (by kernel_rfl) lm c (fun _=>c) c fun x48 H23=>gn H23 fun q50 e24 h25 H26=>U 10 c (bq lS (aN c<|bc e24) c h25)<|bH (i:=11) (fun _ _ _ _ hh=>hh) H26 c (by kernel_rfl) sc_93 c (fun _=>c) c fun x51 H27=>jI H27 fun H28_1 H28_2=>jJ (i:=3) (j:=14) (by kernel_rfl) (cK c c<|aW H28_1 lm c (fun _=>c) c fun x43 H29=>⟨.slnil,G 14 c<|aS H29 (bo (vs:=[(.int .u64 a3)]) c) c fun v54 _ H30=>⟨.slnil,G 15 c<|Z H30 en_170 fun r55 _ H31=>⟨.slnil,gn H31 fun q56 e32 h33 H34=>U 16 c (bq lS (aN c<|bc e32) c h33)<|G 17 c<|dy inf_93 c c c c c H34 fun _ H35=>⟨.slnil,aV (by kernel_rfl)<|M<|O c<|aj<|Y ⟨true,c,H35⟩⟩⟩⟩⟩)<|cK c c<|aS H28_2 (bo (vs:=[(.int .u64 a3)]) c) c fun v54 _ H29=>⟨.slnil,jI H29 fun H30_1 H30_2=>jJ (i:=3) (j:=15) (by kernel_rfl) (cK c c<|aW H30_1 lm c (fun _=>c) c fun x43 H31=>⟨.slnil,G 15 c<|Z H31 en_170 fun r55 _ H32=>⟨.slnil,gn H32 fun q56 e33 h34 H35=>U 16 c (bq lS (aN c<|bc e33) c h34)<|G 17 c<|dy inf_93 c c c c c H35 fun _ H36=>⟨.slnil,aV (by kernel_rfl)<|M<|O c<|aj<|Y ⟨true,c,H36⟩⟩⟩⟩)<|cK c c<|Z H30_2 en_170 fun r55 _ H31=>⟨.slnil,bH (i:=3) (fun _ _ _ _ hh=>hh) H31 c (by kernel_rfl) lm c (fun _=>c) c fun x43 H32=>gn H32 fun q56 e33 h34 H35=>U 16 c (bq lS (aN c<|bc e33) c h34)<|G 17 c<|dy inf_93 c c c c c H35 fun _ H36=>⟨.slnil,aV (by kernel_rfl)<|M<|O c<|aj<|Y ⟨true,c,H36⟩⟩⟩⟩) fun k21 H22=>ao<|M<|O c<|aj<|Y ⟨true,c,H22⟩) fun k5 H6=>W (cd<|bJ k5)<|W (cd<|bJ k5)<|p (aU c (bJ k5) c)<|J c<|W c<|W c<|W c<|p (aU c c c)<|ad<|mB c c<|M<|O c<|aj<|Y ⟨false,c,H6⟩
def qe (a1:Int) (a2:Int) (K:Int→Hp→Prop) (q12:Nat × Nat) (x14:Sl) (Rec7:(Int × Int)→Hp→Prop) (s6:Int × Int):Hp→Prop:=br (decide (s6.2 < (x14.len:Int))) ( cl Tryz.prog pY [(.pointer (some ⟨q12.1,q12.2,none⟩)),(.int .i64 a1),(.int .i64 s6.2),(.int .u64 a2)] aC fun r23=>br r23 ( Rec7 ((IntKind.i64.wrap (s6.1 + 1)),(IntKind.i64.wrap (s6.2 + 1)))) ( Rec7 (s6.1,(IntKind.i64.wrap (s6.2 + 1))))) ( K s6.1)
def vv (a0:Ptr) (a1:Int) (a2:Int) (K:Int→Hp→Prop):Hp→Prop:=br a0.isNone ( K 0) ( nn a0 fun q12=>ld (q12.1,q12.2 + 0) cS fun x14=>Lp (qe a1 a2 K q12 x14) (0,0))
theorem sim_mail_Mail_All (a0:Ptr) (a1:Int) (a2:Int) {K:Int→Hp→Prop} {h:Hp} (H:vv a0 a1 a2 K h):Ct Tryz.prog na #[(pv a0),(.int .i64 a1),(.int .u64 a2)] h fun v h'=>∃ r,v = eB r∧K r h':=aw [(pv a0),(.int .i64 a1),(.int .u64 a2)] Tryz.func70 c c c fun _=>M<|O c<|al<|M<|J c<|p (cn Tryz.underlying105 c)<|ad<|av c H (fun k1 H2=>M<|O c<|aj<|Y ⟨0,c,H2⟩) fun k1 H2=>ao<|M<|O c<|al<|M<|J c<|bF H2 fun q12 e3 H4=>p (aL<|aN c<|ap e3)<|p (ae mi c)<|aa<|aW H4 lm c (fun _=>c) c fun x14 H5=>p (dA c Tryz.underlying163 c)<|J c<|ad<|ay<|bE (step:=qe a1 a2 K q12 x14) (fun s6=>[(0,(pv a0)),(1,(.int .i64 a1)),(2,(.int .u64 a2)),(7,(.int .i64 s6.1)),(15,(.int .i64 (x14.len:Int))),(16,(.int .i64 s6.2))]) (fun s6=>[]) H5 (.cons c<|.cons c<|.cons c<|.cons c<|.cons c<|.cons c<|.nil _) .slnil fun Rec7 s6 _ H8=>M<|p (cC c c)<|ad<|al<|av c H8 (fun k9 H10=>ao<|al<|ay<|M<|J c<|O c<|M<|J (aN c<|ap e3)<|J c<|J c<|J c<|aa<|Z H10 en_120 fun r23 _ H11=>ad<|av c H11 (fun k12 H13=>ar<|J c<|p (bw c c)<|O c<|ar<|p (bw c c)<|J c<|ad<|cR ((IntKind.i64.wrap (s6.1 + 1)),(IntKind.i64.wrap (s6.2 + 1))) H13 (.cons c<|.cons c<|.cons c<|.cons c<|.cons c<|.cons c<|.nil _) .slnil) fun k12 H13=>ao<|ar<|p (bw c c)<|J c<|ad<|cR (s6.1,(IntKind.i64.wrap (s6.2 + 1))) H13 (.cons c<|.cons c<|.cons c<|.cons c<|.cons c<|.cons c<|.nil _) .slnil) fun k9 H10=>bj<|M<|J c<|O c<|aj<|Y ⟨s6.1,c,H10⟩
def sP (a0:Ptr) (a1:Int) (K:Int→Hp→Prop):Hp→Prop:=cl Tryz.prog lE [(pv a0),(.int .i64 a1)] aC fun r7=>br (!r7) ( K 0) ( nn a0 fun q10=>ld (q10.1,q10.2 + 0) cS fun x12=>ix x12 a1 fun q14=>ld (q14.1,q14.2 + Int.toNat a1 * 1) cS fun x15=>K (x15.len:Int))
theorem sim_mail_Mail_Waits (a0:Ptr) (a1:Int) {K:Int→Hp→Prop} {h:Hp} (H:sP a0 a1 K h):Ct Tryz.prog la #[(pv a0),(.int .i64 a1)] h fun v h'=>∃ r,v = eB r∧K r h':=aw [(pv a0),(.int .i64 a1)] Tryz.func132 c c c fun _=>M<|O c<|al<|M<|J c<|J c<|aa<|Z H en_168 fun r7 _ H1=>p (cq c)<|ad<|av c H1 (fun k2 H3=>M<|O c<|aj<|Y ⟨0,c,H3⟩) fun k2 H3=>ao<|M<|J c<|bF H3 fun q10 e4 H5=>p (aL<|aN c<|ap e4)<|p (ae mi c)<|aa<|aW H5 lm c (fun _=>c) c fun x12 H6=>J c<|ct H6 fun q14 e7 h8 H9=>p (bq lS (aN c<|bc e7) c h8)<|aa<|aW H9 sc_93 c (fun _=>c) c fun x15 H10=>p (dA c Tryz.underlying93 c)<|O c<|aj<|Y ⟨(x15.len:Int),c,H10⟩
def tX (a0:Ptr) (a1:Int) (K:(Int × Bool)→Hp→Prop):Hp→Prop:=cl Tryz.prog la [(pv a0),(.int .i64 a1)] eB fun r9=>br (r9 == 0) ( K (0,false)) ( nn a0 fun q12=>ld (q12.1,q12.2 + 0) cS fun x14=>ix x14 a1 fun q16=>ld (q16.1,q16.2 + Int.toNat a1 * 1) cS fun x17=>ix x17 0 fun q18=>ld (q18.1,q18.2 + Int.toNat 0 * 1) (cI .u64) fun x19=>ld (q12.1,q12.2 + 0) cS fun x28=>ix x28 a1 fun q30=>ld (q30.1,q30.2 + Int.toNat a1 * 1) cS fun x31=>both ( ld (q12.1,q12.2 + 0) cS fun x23=>hpv Tryz.prog (Instr.sliceAt be (sv x31) (some (.int .i64 1)) none none) ce fun (v32:Sl)=>ix x23 a1 fun q33=>st (q33.1,q33.2 + Int.toNat a1 * 1) [sv v32]<|K (x19,true)) ( hpv Tryz.prog (Instr.sliceAt be (sv x31) (some (.int .i64 1)) none none) ce fun (v32:Sl)=>ld (q12.1,q12.2 + 0) cS fun x23=>ix x23 a1 fun q33=>st (q33.1,q33.2 + Int.toNat a1 * 1) [sv v32]<|K (x19,true)))
theorem sim_mail_Mail_Take (a0:Ptr) (a1:Int) {K:(Int × Bool)→Hp→Prop} {h:Hp} (H:tX a0 a1 K h):Ct Tryz.prog ma #[(pv a0),(.int .i64 a1)] h fun v h'=>∃ r,v = bK r∧K r h':=aw [(pv a0),(.int .i64 a1)] Tryz.func97 c c c fun _=>M<|p (au c)<|O c<|al<|M<|J c<|J c<|aa<|Z H en_132 fun r9 _ H1=>p (bO c c)<|ad<|av c H1 (fun k2 H3=>M<|p (au c)<|O c<|aj<|bv (bN c (bY c)<|bY c) ⟨(0,false),c,H3⟩) fun k2 H3=>ao<|M<|J c<|bF H3 fun q12 e4 H5=>p (aL<|aN c<|ap e4)<|p (ae mi c)<|aa<|aW H5 lm c (fun _=>c) c fun x14 H6=>J c<|ct H6 fun q16 e7 h8 H9=>p (bq lS (aN c<|bc e7) c h8)<|aa<|aW H9 sc_93 c (fun _=>c) c fun x17 H10=>ct H10 fun q18 e11 h12 H13=>p (bq ww (aN c<|bc e11) c h12)<|aa<|aW H13 cz c (fun _=>c) c fun x19 H14=>O c<|al<|bm (n:=15) [] cx c .slnil<|U 0 c (ai<|aN c<|ap e4)<|U 1 c (aL c)<|U 2 c (ae mi c)<|U 4 c (ai c)<|U 5 c (ai<|aN c<|ap e4)<|U 6 c (aL c)<|U 7 c (ae mi c)<|U 9 c (ai c)<|bH (i:=8) (fun _ _ _ _ hh=>hh) H14 c (by kernel_rfl) lm c (fun _=>c) c fun x28 H15=>gn H15 fun q30 e16 h17 H18=>U 10 c (bq lS (aN c<|bc e16) c h17)<|bH (i:=11) (fun _ _ _ _ hh=>hh) H18 c (by kernel_rfl) sc_93 c (fun _=>c) c fun x31 H19=>jI H19 fun H20_1 H20_2=>jJ (i:=3) (j:=12) (by kernel_rfl) (cK c c<|aW H20_1 lm c (fun _=>c) c fun x23 H21=>⟨.slnil,G 12 c<|aS H21 (fq c c c c c) c fun v32 _ H22=>⟨.slnil,gn H22 fun q33 e23 h24 H25=>U 13 c (bq lS (aN c<|bc e23) c h24)<|G 14 c<|dy inf_93 c c c c c H25 fun _ H26=>⟨.slnil,aV (by kernel_rfl)<|M<|J c<|p (au c)<|O c<|aj<|bv (bN c (bY c)<|bY c) ⟨(x19,true),c,H26⟩⟩⟩⟩)<|cK c c<|aS H20_2 (fq c c c c c) c fun v32 _ H21=>⟨.slnil,bH (i:=3) (fun _ _ _ _ hh=>hh) H21 c (by kernel_rfl) lm c (fun _=>c) c fun x23 H22=>gn H22 fun q33 e23 h24 H25=>U 13 c (bq lS (aN c<|bc e23) c h24)<|G 14 c<|dy inf_93 c c c c c H25 fun _ H26=>⟨.slnil,aV (by kernel_rfl)<|M<|J c<|p (au c)<|O c<|aj<|bv (bN c (bY c)<|bY c) ⟨(x19,true),c,H26⟩⟩⟩
def sh_mail_New (a0:Int) (K:Ptr→Hp→Prop):Hp→Prop:=br ((decide (a0 < 1)) || (decide (a0 > 8))) ( K none) ( hpv Tryz.prog (Instr.makeSlice pT (.int .i64 a0) (.int .i64 a0)) R_SSuint64 fun (v10:Sl)=>nw li (oa.C (⟨v10⟩:oa)) fun b12=>K (some (b12,0)))
theorem sim_mail_New (a0:Int) {K:Ptr→Hp→Prop} {h:Hp} (H:sh_mail_New a0 K h):Ct Tryz.prog tg #[(.int .i64 a0)] h fun v h'=>∃ r,v = ph r∧K r h':=aw [(.int .i64 a0)] Tryz.func57 c c c fun _=>M<|O c<|al<|M<|J c<|p (cC c c)<|J c<|V c c (aJ _) (fun g1=>wv<|ai c)<|V c c (aJ _) (fun g2=>wv<|qA (aD c g2) c)<|p (dm c c)<|ad<|av c H (fun k3 H4=>M<|O c<|aj<|Y ⟨none,c,H4⟩) fun k3 H4=>ao<|M<|J c<|aa<|aS H4 (jP c c) c fun v10 _ H5=>p (aY c<|build_165_0 v10)<|aa<|ie c c c H5 fun b12 _ H6=>O c<|aj<|Y ⟨some (b12,0),c,H6⟩
end Go.Proofs.YtemoifebbhoinaaGreatDoor
namespace Go.Proofs.YtemoifebbhoinaaGreatDoor
open Go Mb
theorem uK (s y:Sl) (xs:List Int) (a:Int) (hl:xs.length < 2 ^ 40) :
    Sp Tryz.prog dB [sv s,.int .i64 xs.length,sv y] ce [vU s xs,vU y [a]] (fun r=>vU r (xs++[a])):=by
  intro h s0
  have hs:=(cj (j:=0) s0 rfl).1
  have hy:=(cj (j:=1) s0 rfl).1
  have hcap:s.len ≤ s.cap:=star_fact (i:=0) rfl (fun _ hv=>hv.2.1) s0
  refine pq _ _ _ ?_
  unfold jz
  refine slice_raw (lo:=xs.length) (hi:=s.len) fY rfl (.inl rfl) (.inr ⟨rfl,rfl⟩) (by omega) hcap ?_
  refine di (by rw [hy]; rfl) ?_
  refine dG (by rw [hs]; simp) ?_
  refine tF (τ:=Int) (i:=0) (j:=1) (enc:=cI .u64) (ys:=[a]) fY fY.sl (dl _) (oneI _) s0 rfl rfl (by omega) (by simp; omega) (by simp; omega) fun v h2 s2=>?_
  obtain ⟨h3,h4,d,rfl,a2,_⟩:=s2
  obtain ⟨e1,e2,e3⟩:=a2
  refine ⟨e1,e2,?_⟩
  rcases e3 with e3 | ⟨b,pre,rest,U,fr,f1,f2,fg,f3⟩
  · exact .inl e3
  · exact .inr ⟨b,pre,rest,U,fr,f1,f2,fg,un_left f3⟩
def jk (x:Ptr) (bs:List (List Int)):As:=fun h=>∃ z:Nat × Sl × List Sl,(x = some (z.1,0)∧z.2.2.length = bs.length∧bs.length ≤ 8)∧aG [blk z.1 li [sv z.2.1],vec be 1 cS z.2.1 z.2.2,all vU z.2.2 bs] h
theorem mail_op {x:Ptr} {bs:List (List Int)} {l:List As} {h:Hp} (s0:aG (jk x bs::l) h):∃ b s ss,x = some (b,0)∧ss.length = bs.length∧bs.length ≤ 8∧s.len = bs.length∧aG (blk b li [sv s]::vec be 1 cS s ss::all vU ss bs::l) h:=by
  obtain ⟨⟨b,s,ss⟩,⟨hx,h1,h2⟩,st⟩:=op_ s0
  exact ⟨b,s,ss,hx,h1,h2,(cj (j:=1) st rfl).1.trans h1,st⟩
theorem mail_cl {b:Nat} {s:Sl} {ss:List Sl} {bs:List (List Int)} {l:List As} {h:Hp} (h1:ss.length = bs.length) (h2:bs.length ≤ 8) (st:aG (blk b li [sv s]::vec be 1 cS s ss::all vU ss bs::l) h):aG (jk (some (b,0)) bs::l) h :=
  cl_ (m:=fun z:Nat × Sl × List Sl=>[blk z.1 li [sv z.2.1],vec be 1 cS z.2.1 z.2.2,all vU z.2.2 bs]) (b,s,ss) ⟨rfl,h1,h2⟩ st
namespace Mail
abbrev S:=List (List Int)
def has (bs:S) (c:Int):Bool:=decide (0 ≤ c∧c < bs.length)
def box (bs:S) (c:Int):List Int:=bs.getD c.toNat []
def send (bs:S) (f t e:Int):Bool × S:=if has bs f = true∧has bs t = true∧f ≠ t then (true,bs.set t.toNat (box bs t++[e])) else (false,bs)
def sends (bs:S) (f e:Int):Nat→Int × S
  | 0=>(0,bs)
  | n + 1=>if (send (sends bs f e n).2 f n e).1 then ((sends bs f e n).1 + 1,(send (sends bs f e n).2 f n e).2) else ((sends bs f e n).1,(send (sends bs f e n).2 f n e).2)
def waits (bs:S) (c:Int):Int:=if has bs c then (box bs c).length else 0
def take (bs:S) (c:Int):(Int × Bool) × S:=if waits bs c = 0 then ((0,false),bs) else (((box bs c).getD 0 0,true),bs.set c.toNat ((box bs c).drop 1))
structure Fit (l:List Int) (e:Int):Prop where
  lt:∀ x ∈ l,x < e
  up:l.Pairwise (· < ·)
  len:l.length < 2 ^ 40
theorem send_len (bs:S) (f t e:Int):(send bs f t e).2.length = bs.length:=by unfold send; split <;> simp
theorem sends_len (bs:S) (f e:Int):∀ n,(sends bs f e n).2.length = bs.length
  | 0=>rfl
  | n + 1=>by unfold sends; split <;> simp only [send_len,sends_len bs f e n]
theorem send_other (bs:S) (f e:Int) (n m:Nat) (h:n ≠ m):(send bs f n e).2[m]? = bs[m]?:=by
  unfold send; split
  · simp only [Int.toNat_natCast]; rw [List.getElem?_set_ne h]
  · rfl
theorem sends_ge (bs:S) (f e:Int):∀ n m,n ≤ m→(sends bs f e n).2[m]? = bs[m]?
  | 0,_,_=>rfl
  | n + 1,m,h=>by unfold sends; split <;> simp only <;> rw [send_other _ _ _ _ _ (by omega),sends_ge bs f e n m (by omega)]
end Mail
theorem nils:∀ (n:Nat) {l:List As} {h:Hp},aG l h→aG (all vU (List.replicate n (⟨none,0,0,none⟩:Sl)) (List.replicate n ([]:List Int))::l) h
  | 0,_,_,s=>all_nil s
  | n + 1,l,h,s=>by
    have s1:=fN (τ:=Int) (T:=t_uint64) (m:=1) (enc:=cI .u64) (nils n s)
    rw [List.replicate_succ,List.replicate_succ]
    obtain ⟨h1,h2,d,e,a,h3,h4,d2,e2,b,s'⟩:=s1
    subst e2
    obtain ⟨d3,d4⟩:=Dj.of_un_right d
    exact ⟨un h1 h3,h4,Dj.un_left d4 d2,by rw [e,mF],⟨h1,h3,d3,rfl,a,b⟩,s'⟩
theorem sp_mail_New (n:Int) (h1:¬ n < 1) (h2:¬ n > 8):Sp Tryz.prog tg [.int .i64 n] ph [] (fun r=>aG [jk r (List.replicate n.toNat [])]):=by
  intro h st
  refine sim_mail_New _ ?_
  unfold sh_mail_New
  obtain ⟨m,rfl⟩:=Int.eq_ofNat_of_zero_le (show 0 ≤ n by omega)
  refine di (by simp; omega) ?_
  refine nS (τ:=Sl) (x0:=⟨none,0,0,none⟩) (enc:=cS) (n:=m) (T:=be) (m:=1) uC rfl st ?_ ?_ ?_
  · omega
  · omega
  · intro v h' s1
    have s2:=nils m s1
    refine pt s2 fun b h'' s3=>?_
    exact mail_cl (by simp) (by simp; omega) (bd [0,1] s3 rfl)
theorem sp_mail_is (x:Ptr) (bs:Mail.S) (c:Int):Sp Tryz.prog lE [pv x,.int .i64 c] aC [jk x bs] (fun r=>pa_ (r = Mail.has bs c) [jk x bs]):=by
  intro h s0
  obtain ⟨b,s,ss,rfl,hss,hb,hs,st⟩:=mail_op s0
  refine sim_mail_Mail_is _ _ ?_
  unfold sh_mail_Mail_is
  refine ba (fun k=>?_) (fun k=>?_)
  · have k':0 ≤ c:=by simpa using k
    refine cE (bk s st (i:=0) rfl rfl rfl ?_)
    exact aX (by simp [Mail.has,k',hs]) s0
  · have k':¬ 0 ≤ c:=by simpa using k
    exact aX (by simp [Mail.has]; intro h; exact absurd h k') s0
theorem has_nat {bs:Mail.S} {c:Int} (h:Mail.has bs c = true):∃ n:Nat,c = n∧n < bs.length:=by
  unfold Mail.has at h
  have:=of_decide_eq_true h
  exact ⟨c.toNat,by omega,by omega⟩
theorem place_end {l:List Int} {e:Int} (f:Mail.Fit l e) {i:Nat} (p:PlaceIn l e i):i = l.length:=by
  rcases Nat.lt_or_ge i l.length with h | h
  · have h1:=p.hi i h (Nat.le_refl _)
    have h2:=f.lt _ (List.getElem_mem h)
    omega
  · have:=p.le; omega
theorem sp_mail_Send (x:Ptr) (bs:Mail.S) (f t e:Int) (hf:∀ l,bs[t.toNat]? = some l→Mail.Fit l e):Sp Tryz.prog pY [pv x,.int .i64 f,.int .i64 t,.int .u64 e] aC [jk x bs] (fun r=>pa_ (r = (Mail.send bs f t e).1) [jk x (Mail.send bs f t e).2]):=by
  intro h s0
  refine sim_mail_Mail_Send _ _ _ _ ?_
  unfold tY
  refine cT [0] (sp_mail_is x bs f) s0 rfl fun r h1 s1=>?_
  obtain ⟨rfl,s2⟩:=bp.1 s1
  have no:¬ (Mail.has bs f = true∧Mail.has bs t = true∧f ≠ t)→Mail.send bs f t e = (false,bs):=fun hh=>if_neg hh
  refine ba (fun k=>?_) (fun k=>?_)
  · have k':Mail.has bs f = true:=by simpa using k
    refine cT [0] (sp_mail_is x bs t) s2 rfl fun r h3 s3=>?_
    obtain ⟨rfl,s4⟩:=bp.1 s3
    refine ba (fun k2=>?_) (fun k2=>?_)
    · rw [no (by simp at k2; intro hh; rcases k2 with k2 | k2; exact absurd hh.2.1 (by simp [k2]); exact hh.2.2 k2)]
      exact aX rfl s4
    · have k2':Mail.has bs t = true∧f ≠ t:=by simpa using k2
      obtain ⟨n,rfl,hn⟩:=has_nat k2'.1
      have ed:Mail.send bs f n e = (true,bs.set n (Mail.box bs n++[e])):=if_pos ⟨k',k2'.1,k2'.2⟩
      rw [ed]
      obtain ⟨b,s,ss,rfl,hss,hb,hs,st⟩:=mail_op s4
      have hns:n < ss.length:=by omega
      have hg:Mail.box bs n = bs[n]:=by simp [Mail.box,hn]
      have fit:=hf bs[n] (by rw [Int.toNat_natCast]; exact aH hn)
      refine cE (bk s st (i:=0) rfl rfl rfl ?_)
      refine dC st (j:=1) rfl (by omega) (by omega) fun q hq=>?_
      refine eE (j:=1) (i:=n) (k:=0) ss[n] rr st rfl hq (by simp) (aH hns) (by simp) ?_
      have st1:=ju (aH hns) (aH hn) (bd [2] st rfl)
      refine cT [0] (sp_BinarySearch ss[n] bs[n] e (by have:=fit.len; omega) (fun i j hi hj hij=>Int.le_of_lt (List.pairwise_iff_getElem.1 fit.up i j hi hj hij))) st1 rfl fun r h5 s5=>?_
      obtain ⟨⟨i,pi,hr⟩,s6⟩:=bp.1 s5
      have hi:=place_end fit pi
      subst hi
      have hr2:r.2 = false:=by rw [hr]; simp
      refine dG (by rw [hr2]; rfl) ?_
      refine bk s s6 (i:=2) rfl rfl rfl ?_
      refine dC s6 (j:=3) rfl (by omega) (by omega) fun q2 hq2=>?_
      refine eE (j:=3) (i:=n) (k:=0) ss[n] rr s6 rfl hq2 (by simp) (aH hns) (by simp) ?_
      have fin:∀ (r55:Sl) (v54:Sl) (h:Hp),aG [vU r55 (bs[n]++[e]),but vU ss bs n,blk b li [sv s],vec be 1 cS s ss] h →
          ix s n (fun q56=>Mb.st (q56.1,q56.2 + Int.toNat n * 1) [sv r55]<|pa_ (true = true) [jk (some (b,0)) (bs.set n (bs[n]++[e]))]) h:=by
        intro r55 v54 h s7
        refine dC s7 (j:=3) rfl (by omega) (by omega) fun q3 hq3=>?_
        refine st_v (j:=3) (i:=n) (k:=0) r55 rr s7 rfl hq3 (by simp) (aH hns) (by simp) rfl fun h8 s8=>?_
        have s9:=all_in2 (y:=bs[n]++[e]) hn hss s8
        exact aX rfl (mail_cl (by simpa using hss) (by simpa using hb) (bd [1,1] s9 rfl))
      rw [hg,hr]
      refine ⟨?_,?_⟩
      · refine bk s s6 (i:=2) rfl rfl rfl ?_
        refine eS (τ:=Int) [e] (val:=fun x=>.int .u64 x) (enc:=cI .u64) fY (dl _) (fun _=>rfl) s6 rfl rfl (by simp) fun y h' s7=>?_
        refine cT [1,0] (uK ss[n] y bs[n] e fit.len) s7 rfl fun r h8 s8=>?_
        exact fin r y h8 s8
      · refine eS (τ:=Int) [e] (val:=fun x=>.int .u64 x) (enc:=cI .u64) fY (dl _) (fun _=>rfl) s6 rfl rfl (by simp) fun y h' s7=>?_
        refine ⟨?_,?_⟩
        · refine bk s s7 (i:=3) rfl rfl rfl ?_
          refine cT [1,0] (uK ss[n] y bs[n] e fit.len) s7 rfl fun r h8 s8=>?_
          exact fin r y h8 s8
        · refine cT [1,0] (uK ss[n] y bs[n] e fit.len) s7 rfl fun r h8 s8=>?_
          refine bk s s8 (i:=2) rfl rfl rfl ?_
          exact fin r y h8 s8
  · rw [no (by simp at k; simp [k])]
    exact aX rfl s2
theorem sp_mail_All (x:Ptr) (bs:Mail.S) (f e:Int) (hf:∀ l ∈ bs,Mail.Fit l e):Sp Tryz.prog na [pv x,.int .i64 f,.int .u64 e] eB [jk x bs] (fun r=>pa_ (r = (Mail.sends bs f e bs.length).1) [jk x (Mail.sends bs f e bs.length).2]):=by
  intro h s0
  obtain ⟨b,s,ss,rfl,hss,hb,hs,st⟩:=mail_op s0
  refine sim_mail_Mail_All _ _ _ ?_
  unfold vv
  refine di rfl (cE (bk s st (i:=0) rfl rfl rfl ?_))
  refine Lp.intro (fun (z:Int × Int) h=>∃ n:Nat,z.2 = n∧n ≤ bs.length∧z.1 = (Mail.sends bs f e n).1∧0 ≤ z.1∧z.1 ≤ n∧aG [jk (some (b,0)) (Mail.sends bs f e n).2] h) (fun (z:Int × Int) _=>bs.length - z.2.toNat) ⟨0,rfl,Nat.zero_le _,rfl,Int.le_refl _,Int.le_refl _,s0⟩ ?_
  rintro ⟨z,i⟩ h ⟨n,rfl,hn,hz,hz0,hz1,s1⟩
  simp only at hz hz0 hz1
  unfold qe
  refine ba (fun k=>?_) (fun k=>?_)
  · have hlt:n < bs.length:=by rw [hs] at k; simpa using k
    have hw:IntKind.i64.wrap ((n:Int) + 1) = ((n + 1:Nat):Int):=by rw [bR (by omega) (by omega)]; rfl
    have hw2:IntKind.i64.wrap (z + 1) = z + 1:=bR (by omega) (by omega)
    refine cT [0] (sp_mail_Send (some (b,0)) (Mail.sends bs f e n).2 f n e ?_) s1 rfl fun r h2 s2=>?_
    · intro l hl
      rw [Int.toNat_natCast,Mail.sends_ge bs f e n n (Nat.le_refl _)] at hl
      exact hf l (List.mem_of_getElem? hl)
    obtain ⟨rfl,s3⟩:=bp.1 s2
    refine ba (fun k2=>?_) (fun k2=>?_)
    · have e1:Mail.sends bs f e (n + 1) = ((Mail.sends bs f e n).1 + 1,(Mail.send (Mail.sends bs f e n).2 f n e).2):=by rw [Mail.sends,if_pos k2]
      rw [hw,hw2]
      refine ⟨⟨n + 1,rfl,hlt,?_,by simp only; omega,by simp only; omega,?_⟩,by simp; omega⟩
      · rw [e1,hz]
      · rw [e1]; exact s3
    · have e1:Mail.sends bs f e (n + 1) = ((Mail.sends bs f e n).1,(Mail.send (Mail.sends bs f e n).2 f n e).2):=by rw [Mail.sends,if_neg (by rw [k2]; exact Bool.false_ne_true)]
      rw [hw]
      refine ⟨⟨n + 1,rfl,hlt,?_,by simp only; omega,by simp only; omega,?_⟩,by simp; omega⟩
      · rw [e1,hz]
      · rw [e1]; exact s3
  · have:n = bs.length:=by rw [hs] at k; simp at k; omega
    subst this
    exact aX hz s1
theorem sp_mail_Waits (x:Ptr) (bs:Mail.S) (c:Int):Sp Tryz.prog la [pv x,.int .i64 c] eB [jk x bs] (fun r=>pa_ (r = Mail.waits bs c) [jk x bs]):=by
  intro h s0
  refine sim_mail_Mail_Waits _ _ ?_
  unfold sP
  refine cT [0] (sp_mail_is x bs c) s0 rfl fun r h1 s1=>?_
  obtain ⟨rfl,s2⟩:=bp.1 s1
  refine ba (fun k=>?_) (fun k=>?_)
  · have k':Mail.has bs c = false:=by simpa using k
    exact aX (by simp [Mail.waits,k']) s2
  · have k':Mail.has bs c = true:=by simpa using k
    obtain ⟨n,rfl,hn⟩:=has_nat k'
    obtain ⟨b,s,ss,rfl,hss,hb,hs,st⟩:=mail_op s2
    have hns:n < ss.length:=by omega
    refine cE (bk s st (i:=0) rfl rfl rfl ?_)
    refine dC st (j:=1) rfl (by omega) (by omega) fun q hq=>?_
    refine eE (j:=1) (i:=n) (k:=0) ss[n] rr st rfl hq (by simp) (aH hns) (by simp) ?_
    have st1:=ju (aH hns) (aH hn) (bd [2] st rfl)
    have hl:=(cj (j:=0) st1 rfl).1
    exact aX (by simp [Mail.waits,k',Mail.box,hn,hl]) s2
theorem sp_mail_Take (x:Ptr) (bs:Mail.S) (c:Int):Sp Tryz.prog ma [pv x,.int .i64 c] bK [jk x bs] (fun r=>pa_ (r = (Mail.take bs c).1) [jk x (Mail.take bs c).2]):=by
  intro h s0
  refine sim_mail_Mail_Take _ _ ?_
  unfold tX
  refine cT [0] (sp_mail_Waits x bs c) s0 rfl fun r h1 s1=>?_
  obtain ⟨rfl,s2⟩:=bp.1 s1
  refine ba (fun k=>?_) (fun k=>?_)
  · have k':Mail.waits bs c = 0:=by simpa using k
    have e1:Mail.take bs c = ((0,false),bs):=if_pos k'
    rw [e1]
    exact aX rfl s2
  · have k':¬ Mail.waits bs c = 0:=by simpa using k
    have e1:Mail.take bs c = (((Mail.box bs c).getD 0 0,true),bs.set c.toNat ((Mail.box bs c).drop 1)):=if_neg k'
    rw [e1]
    have hh:Mail.has bs c = true:=by
      unfold Mail.waits at k'
      cases e:Mail.has bs c with
      | true=>rfl
      | false=>rw [e] at k'; exact absurd rfl k'
    obtain ⟨n,rfl,hn⟩:=has_nat hh
    obtain ⟨b,s,ss,rfl,hss,hb,hs,st⟩:=mail_op s2
    have hns:n < ss.length:=by omega
    have hg:Mail.box bs n = bs[n]:=by simp [Mail.box,hn]
    have h0:0 < bs[n].length:=by
      unfold Mail.waits at k'
      rw [hh,hg] at k'
      simp at k'
      exact List.length_pos_iff.2 k'
    rw [hg]
    refine cE (bk s st (i:=0) rfl rfl rfl ?_)
    refine dC st (j:=1) rfl (by omega) (by omega) fun q hq=>?_
    refine eE (j:=1) (i:=n) (k:=0) ss[n] rr st rfl hq (by simp) (aH hns) (by simp) ?_
    have st1:=ju (aH hns) (aH hn) (bd [2] st rfl)
    refine dC st1 (j:=0) rfl (by omega) (by omega) fun q1 hq1=>?_
    refine eE (j:=0) (i:=0) (k:=0) bs[n][0] (dl _) st1 rfl hq1 (by simp) (aH h0) (by simp) ?_
    refine bk s st1 (i:=2) rfl rfl rfl ?_
    refine dC st1 (j:=3) rfl (by omega) (by omega) fun q2 hq2=>?_
    refine eE (j:=3) (i:=n) (k:=0) ss[n] rr st1 rfl hq2 (by simp) (aH hns) (by simp) ?_
    have fin:∀ (v:Sl) (h:Hp),aG [vU v (bs[n].drop 1),but vU ss bs n,blk b li [sv s],vec be 1 cS s ss] h →
        ix s n (fun q33=>Mb.st (q33.1,q33.2 + Int.toNat n * 1) [sv v]<|pa_ ((bs[n][0],true) = ((bs[n].getD 0 0,true):Int × Bool)) [jk (some (b,0)) (bs.set n (bs[n].drop 1))]) h:=by
      intro v h s7
      refine dC s7 (j:=3) rfl (by omega) (by omega) fun q3 hq3=>?_
      refine st_v (j:=3) (i:=n) (k:=0) v rr s7 rfl hq3 (by simp) (aH hns) (by simp) rfl fun h8 s8=>?_
      have s9:=all_in2 (y:=bs[n].drop 1) hn hss s8
      exact aX (by simp [h0]) (mail_cl (by simpa using hss) (by simpa using hb) (bd [1,1] s9 rfl))
    refine ⟨?_,?_⟩
    · refine bk s st1 (i:=2) rfl rfl rfl ?_
      refine sliceFrom_v (i:=0) (n:=1) fY (dl _) rfl st1 rfl h0 fun v s5=>?_
      exact fin v _ s5
    · refine sliceFrom_v (i:=0) (n:=1) fY (dl _) rfl st1 rfl h0 fun v s5=>?_
      refine bk s s5 (i:=2) rfl rfl rfl ?_
      exact fin v _ s5
end Go.Proofs.YtemoifebbhoinaaGreatDoor
namespace Go.Proofs.YtemoifebbhoinaaGreatDoor
open Go Mb
set_option linter.unusedVariables false
def sT (a0:Ptr) (a1:Int) (K:Bool→Hp→Prop):Hp→Prop:=br ((!a0.isNone) && (decide (a1 ≥ 0))) ( nn a0 fun q14=>ld (q14.1,q14.2 + 1) cS fun x16=>K (decide (a1 < (x16.len:Int)))) ( K false)
theorem sim_epoch_Epochs_is (a0:Ptr) (a1:Int) {K:Bool→Hp→Prop} {h:Hp} (H:sT a0 a1 K h):Ct Tryz.prog lc #[(pv a0),(.int .i64 a1)] h fun v h'=>∃ r,v = aC r∧K r h':=aw [(pv a0),(.int .i64 a1)] Tryz.func118 c c c fun _=>M<|O c<|M<|J c<|p (v_pneT Tryz.underlying106 c)<|J c<|V c c (az _) (fun g1=>wv<|ai c)<|V c c (az _) (fun g2=>wv<|jN (aD c g2) c)<|p (bS c c)<|J c<|V c c (az _) (fun g3=>wv<|ai c)<|V c c (az _) (fun g4=>wv<|ai c)<|bU H (fun k6 H7=>bF H7 fun q14 e8 H9=>F (D k6)<|R (aL<|aN (aD c k6)<|ap e8)<|F (D k6)<|R (ae fld_167_1 c)<|F (D k6)<|aW H9 sc_93 c (fun _=>c) c fun x16 H10=>F (D k6)<|R (dA c Tryz.underlying93 c)<|F (D k6)<|R (cC (aD c k6) c)<|p (aU c k6 c)<|O c<|aj<|Y ⟨decide (a1 < (x16.len:Int)),c,H10⟩) fun k6 H7=>W (aR k6)<|W (aR k6)<|W (aR k6)<|W (aR k6)<|W (aR k6)<|p (aq c k6 c)<|O c<|aj<|Y ⟨false,c,H7⟩
def rJ (a0:Ptr) (K:Int→Hp→Prop):Hp→Prop:=br a0.isNone ( K 0) ( nn a0 fun q6=>ld (q6.1,q6.2 + 0) cS fun x8=>K (IntKind.u64.wrap (x8.len:Int)))
theorem sim_epoch_Epochs_Now (a0:Ptr) {K:Int→Hp→Prop} {h:Hp} (H:rJ a0 K h):Ct Tryz.prog fW #[(pv a0)] h fun v h'=>∃ r,v = gS r∧K r h':=aw [(pv a0)] Tryz.func119 c c c fun _=>M<|O c<|al<|M<|J c<|p (cn Tryz.underlying106 c)<|ad<|av c H (fun k1 H2=>M<|O c<|aj<|Y ⟨0,c,H2⟩) fun k1 H2=>ao<|M<|J c<|bF H2 fun q6 e3 H4=>p (aL<|aN c<|ap e3)<|p (ae fld_167_0 c)<|aa<|aW H4 sc_39 c (fun _=>c) c fun x8 H5=>p (dA c Tryz.underlying39 c)<|p (dV ⟨_,Tryz.underlying3⟩ Tryz.underlying22 c)<|O c<|aj<|Y ⟨IntKind.u64.wrap (x8.len:Int),c,H5⟩
def pI (a0:Ptr) (a1:Int) (K:(Int × Bool)→Hp→Prop):Hp→Prop:=cl Tryz.prog lc [(pv a0),(.int .i64 a1)] aC fun r8=>br (!r8) ( K (0,false)) ( nn a0 fun q12=>ld (q12.1,q12.2 + 0) cS fun x14=>hpv Tryz.prog (Instr.buildSlice dI 1 #[(0,(.int .i64 a1))]) cu fun (v16:Sl)=>hpv Tryz.prog (Builtin.append_ #[dI,dI] dI #[(sv x14),(sv v16)]) cu fun (v17:Sl)=>st (q12.1,q12.2 + 0) [sv v17]<|cl Tryz.prog fW [(.pointer (some ⟨q12.1,q12.2,none⟩))] gS fun r21=>K (r21,true))
theorem wL (a0:Ptr) (a1:Int) {K:(Int × Bool)→Hp→Prop} {h:Hp} (H:pI a0 a1 K h):Ct Tryz.prog iU #[(pv a0),(.int .i64 a1)] h fun v h'=>∃ r,v = bK r∧K r h':=aw [(pv a0),(.int .i64 a1)] Tryz.func69 c c c fun _=>M<|p (au c)<|O c<|al<|M<|J c<|J c<|aa<|Z H en_118 fun r8 _ H1=>p (cq c)<|ad<|av c H1 (fun k2 H3=>M<|p (au c)<|O c<|aj<|bv (bN c (bY c)<|bY c) ⟨(0,false),c,H3⟩) fun k2 H3=>ao<|M<|J c<|J c<|bF H3 fun q12 e4 H5=>p (aL<|aN c<|ap e4)<|p (ae fld_167_0 c)<|aa<|aW H5 sc_39 c (fun _=>c) c fun x14 H6=>J c<|aa<|aS H6 (bo (vs:=[(.int .i64 a1)]) c) c fun v16 _ H7=>aa<|aS H7 (dH c c) c fun v17 _ H8=>p (aL<|aN c<|ap e4)<|p (ae fld_167_0 c)<|aa<|dy inf_39 c c c c c H8 fun _ H9=>ad<|M<|J (aN c<|ap e4)<|aa<|Z H9 en_119 fun r21 _ H10=>p (au c)<|O c<|aj<|bv (bN c (bY c)<|bY c) ⟨(r21,true),c,H10⟩
def du (Rec13:(Sl × Int)→Hp→Prop) (s12:Sl × Int) (s21:Bool):Hp→Prop:=br s21 ( hpv Tryz.prog (Instr.buildSlice dI 1 #[(0,(.int .i64 s12.2))]) cu fun (v43:Sl)=>hpv Tryz.prog (Builtin.append_ #[dI,dI] dI #[(sv s12.1),(sv v43)]) cu fun (v44:Sl)=>Rec13 (v44,(IntKind.i64.wrap (s12.2 + 1)))) ( Rec13 (s12.1,(IntKind.i64.wrap (s12.2 + 1))))
def kT (a1:Int) (K:Sl→Hp→Prop) (q17:Nat × Nat) (x19:Sl) (Rec13:(Sl × Int)→Hp→Prop) (s12:Sl × Int):Hp→Prop:=br (decide (s12.2 < (x19.len:Int))) ( ix x19 s12.2 fun q24=>ld (q24.1,q24.2 + Int.toNat s12.2 * 1) (cI .u64) fun x25=>br (decide (x25 < a1)) ( ld (q17.1,q17.2 + 0) cS fun x33=>ix x33 (IntKind.u64.wrap (a1 - 1)) fun q36=>ld (q36.1,q36.2 + Int.toNat (IntKind.u64.wrap (a1 - 1)) * 1) (cI .i64) fun x37=>du Rec13 s12 (x37 != s12.2)) ( du Rec13 s12 false)) ( K s12.1)
def pH (a0:Ptr) (a1:Int) (K:Sl→Hp→Prop):Hp→Prop:=br (!(decide (a1 < 1))) ( cl Tryz.prog fW [(pv a0)] gS fun r13=>br (decide (a1 > r13)) ( K (⟨none,0,0,none⟩:Sl)) ( nn a0 fun q17=>ld (q17.1,q17.2 + 1) cS fun x19=>Lp (kT a1 K q17 x19) ((⟨none,0,0,none⟩:Sl),0))) ( K (⟨none,0,0,none⟩:Sl))
theorem wK (a0:Ptr) (a1:Int) {K:Sl→Hp→Prop} {h:Hp} (H:pH a0 a1 K h):Ct Tryz.prog iT #[(pv a0),(.int .u64 a1)] h fun v h'=>∃ r,v = cu r∧K r h':=aw [(pv a0),(.int .u64 a1)] Tryz.func121 c c c fun _=>M<|O c<|al<|M<|J c<|p (cC c c)<|J c<|V c c (aJ _) (fun g1=>wv<|ai c)<|V c c (aJ _) (fun g2=>wv<|ai c)<|bU H (fun k4 H5=>F (D<|ch k4)<|gw H5 en_119 (aT (aD c k4) bQ) c fun r13 _ H6=>F (D<|ch k4)<|R (qA (aD c k4) c)<|p (aq c (ch k4) c)<|ad<|av c H6 (fun k7 H8=>M<|O c<|aj<|Y ⟨(⟨none,0,0,none⟩:Sl),c,H8⟩) fun k7 H8=>ao<|M<|O c<|al<|M<|J c<|bF H8 fun q17 e9 H10=>p (aL<|aN c<|ap e9)<|p (ae fld_167_1 c)<|aa<|aW H10 sc_93 c (fun _=>c) c fun x19 H11=>p (dA c Tryz.underlying93 c)<|J c<|ad<|ay<|bE (step:=kT a1 K q17 x19) (fun s12=>[(0,(pv a0)),(1,(.int .u64 a1)),(5,(sv s12.1)),(19,(sv x19)),(20,(.int .i64 (x19.len:Int))),(21,(.int .i64 s12.2))]) (fun s12=>[]) H11 (.cons c<|.cons c<|.cons c<|.cons c<|.cons c<|.cons c<|.nil _) .slnil fun Rec13 s12 _ H14=>M<|p (cC c c)<|ad<|al<|av c H14 (fun k15 H16=>ao<|al<|ay<|M<|J c<|ct H16 fun q24 e17 h18 H19=>p (bq ww (aN c<|bc e17) c h18)<|aa<|aW H19 cz c (fun _=>c) c fun x25 H20=>p (au c)<|O c<|eo (du Rec13 s12) (fun s21=>[(0,(pv a0)),(1,(.int .u64 a1)),(5,(sv s12.1)),(6,(.int .i64 s12.2)),(19,(sv x19)),(20,(.int .i64 (x19.len:Int))),(21,(.int .i64 s12.2)),(40,(.bool s21))]) (fun s21=>[]) (ar<|J c<|J c<|p (cC c c)<|J c<|V c c (az _) (fun g27=>wv<|ai<|aN c<|ap e9)<|V c c (az _) (fun g28=>wv<|aL<|aD c g28)<|V c c (az _) (fun g29=>wv<|ae fld_167_0<|aD c g29)<|bU H20 (fun k31 H32=>F (D k31)<|aW H32 sc_39 (aD c k31) (fun _=>c) c fun x33 H33=>F (D k31)<|R (ai c)<|F (D k31)<|R (v_sub c c)<|ct H33 fun q36 e34 h35 H36=>F (D k31)<|R (bq iC (aN c<|bc e34) c h35)<|F (D k31)<|aW H36 bb c (fun _=>c) c fun x37 H37=>F (D k31)<|R (ai c)<|F (D k31)<|R (nh c c)<|p (aU c k31 c)<|ad<|cG (x37 != s12.2) H37 (.cons c<|.cons c<|.cons c<|.cons c<|.cons c<|.cons c<|.cons c<|.cons c<|.nil _) .slnil) fun k31 H32=>W (aR k31)<|W (aR k31)<|W (aR k31)<|W (aR k31)<|W (aR k31)<|W (aR k31)<|W (aR k31)<|p (aq c k31 c)<|ad<|cG false H32 (.cons c<|.cons c<|.cons c<|.cons c<|.cons c<|.cons c<|.cons c<|.cons c<|.nil _) .slnil) fun s21 _ H22=>av c H22 (fun k23 H24=>ar<|J c<|J c<|aa<|aS H24 (bo (vs:=[(.int .i64 s12.2)]) c) c fun v43 _ H25=>aa<|aS H25 (dH c c) c fun v44 _ H26=>O c<|ar<|p (bw c c)<|J c<|ad<|cR (v44,(IntKind.i64.wrap (s12.2 + 1))) H26 (.cons c<|.cons c<|.cons c<|.cons c<|.cons c<|.cons c<|.nil _) .slnil) fun k23 H24=>ao<|ar<|p (bw c c)<|J c<|ad<|cR (s12.1,(IntKind.i64.wrap (s12.2 + 1))) H24 (.cons c<|.cons c<|.cons c<|.cons c<|.cons c<|.cons c<|.nil _) .slnil) fun k15 H16=>bj<|M<|J c<|O c<|aj<|Y ⟨s12.1,c,H16⟩) fun k4 H5=>W (cd<|bJ k4)<|W (cd<|bJ k4)<|p (aU c (bJ k4) c)<|ad<|mB c c<|M<|O c<|aj<|Y ⟨(⟨none,0,0,none⟩:Sl),c,H5⟩
def qP (a0:Ptr) (a1:Int) (K:Bool→Hp→Prop):Hp→Prop:=br (decide (a1 ≥ 1)) ( cl Tryz.prog fW [(pv a0)] gS fun r10=>br (decide (a1 ≤ r10)) ( cl Tryz.prog iT [(pv a0),(.int .u64 a1)] cu fun r16=>K ((r16.len:Int) == 0)) ( K false)) ( K false)
theorem sim_epoch_Epochs_Done (a0:Ptr) (a1:Int) {K:Bool→Hp→Prop} {h:Hp} (H:qP a0 a1 K h):Ct Tryz.prog js #[(pv a0),(.int .u64 a1)] h fun v h'=>∃ r,v = aC r∧K r h':=aw [(pv a0),(.int .u64 a1)] Tryz.func71 c c c fun _=>M<|O c<|M<|J c<|p (jN c c)<|J c<|V c c (az _) (fun g1=>wv<|ai c)<|V c c (az _) (fun g2=>wv<|ai c)<|bU H (fun k4 H5=>F (D k4)<|gw H5 en_119 (aT (aD c k4) bQ) c fun r10 _ H6=>F (D k4)<|R (v_le (aD c k4) c)<|p (aU c k4 c)<|J c<|V c c (az _) (fun g7=>wv<|ai c)<|V c c (az _) (fun g8=>wv<|ai c)<|bU H6 (fun k10 H11=>F (D k10)<|gw H11 en_121 (aT (aD c k10)<|aT (aD c k10) bQ) c fun r16 _ H12=>F (D k10)<|R (dA c Tryz.underlying39 c)<|F (D k10)<|R (bO c c)<|p (aU c k10 c)<|O c<|aj<|Y ⟨((r16.len:Int) == 0),c,H12⟩) fun k10 H11=>W (aR k10)<|W (aR k10)<|W (aR k10)<|p (aq c k10 c)<|O c<|aj<|Y ⟨false,c,H11⟩) fun k4 H5=>W (aR k4)<|W (aR k4)<|p (aq c k4 c)<|J c<|W c<|W c<|W c<|W c<|W c<|p (aq c c c)<|O c<|aj<|Y ⟨false,c,H5⟩
def rK (a0:Ptr) (a1:Int) (a2:Int) (K:Bool→Hp→Prop):Hp→Prop:=cl Tryz.prog lc [(pv a0),(.int .i64 a1)] aC fun r9=>br (!((!r9) || (decide (a2 < 1)))) ( cl Tryz.prog fW [(pv a0)] gS fun r18=>br (decide (a2 > r18)) ( K false) ( nn a0 fun q22=>ld (q22.1,q22.2 + 1) cS fun x29=>ix x29 a1 fun q31=>ld (q31.1,q31.2 + Int.toNat a1 * 1) (cI .u64) fun x32=>ld (q22.1,q22.2 + 1) cS fun x24=>ix x24 a1 fun q35=>st (q35.1,q35.2 + Int.toNat a1 * 1) [.int .u64 (mx x32 a2)]<|K true)) ( K false)
theorem sim_epoch_Epochs_Ack (a0:Ptr) (a1:Int) (a2:Int) {K:Bool→Hp→Prop} {h:Hp} (H:rK a0 a1 a2 K h):Ct Tryz.prog kj #[(pv a0),(.int .i64 a1),(.int .u64 a2)] h fun v h'=>∃ r,v = aC r∧K r h':=aw [(pv a0),(.int .i64 a1),(.int .u64 a2)] Tryz.func98 c c c fun _=>M<|O c<|al<|M<|J c<|J c<|aa<|Z H en_118 fun r9 _ H1=>p (cq c)<|J c<|V c c (aJ _) (fun g2=>wv<|ai c)<|V c c (aJ _) (fun g3=>wv<|cC (aD c g3) c)<|p (dm c c)<|J c<|V c c (aJ _) (fun g4=>wv<|ai c)<|V c c (aJ _) (fun g5=>wv<|ai c)<|bU H1 (fun k7 H8=>F (D<|ch k7)<|gw H8 en_119 (aT (aD c k7) bQ) c fun r18 _ H9=>F (D<|ch k7)<|R (qA (aD c k7) c)<|p (aq c (ch k7) c)<|ad<|av c H9 (fun k10 H11=>M<|O c<|aj<|Y ⟨false,c,H11⟩) fun k10 H11=>ao<|al<|bm (n:=16) [] cx c .slnil<|U 0 c (ai c)<|U 4 c (ai c)<|U 5 c (ai c)<|U 9 c (ai c)<|U 12 c (ai c)<|gZ H11 fun q22 e12 H13=>U 1 c (aL<|aN c<|ap e12)<|U 2 c (ae fld_167_1 c)<|U 6 c (aL<|aN c<|ap e12)<|U 7 c (ae fld_167_1 c)<|bH (i:=8) (fun _ _ _ _ hh=>hh) H13 c (by kernel_rfl) sc_93 c (fun _=>c) c fun x29 H14=>gn H14 fun q31 e15 h16 H17=>U 10 c (bq ww (aN c<|bc e15) c h16)<|bH (i:=11) (fun _ _ _ _ hh=>hh) H17 c (by kernel_rfl) cz c (fun _=>c) c fun x32 H18=>U 13 c (v_maxT c c)<|bH (i:=3) (fun _ _ _ _ hh=>hh) H18 c (by kernel_rfl) sc_93 c (fun _=>c) c fun x24 H19=>gn H19 fun q35 e20 h21 H22=>U 14 c (bq ww (aN c<|bc e20) c h21)<|G 15 c<|dy inf_22 c c c c c H22 fun _ H23=>⟨.slnil,aV (by kernel_rfl)<|M<|O c<|aj<|Y ⟨true,c,H23⟩⟩) fun k7 H8=>W (cd<|bJ k7)<|W (cd<|bJ k7)<|p (aU c (bJ k7) c)<|ad<|mB c c<|M<|O c<|aj<|Y ⟨false,c,H8⟩
def sh_epoch_New (a0:Int) (K:Ptr→Hp→Prop):Hp→Prop:=br ((decide (a0 < 1)) || (decide (a0 > 8))) ( K none) ( hpv Tryz.prog (Instr.makeSlice be (.int .i64 a0) (.int .i64 a0)) ce fun (v10:Sl)=>nw ig (jL.C (⟨(⟨none,0,0,none⟩:Sl),v10⟩:jL)) fun b12=>K (some (b12,0)))
theorem sim_epoch_New (a0:Int) {K:Ptr→Hp→Prop} {h:Hp} (H:sh_epoch_New a0 K h):Ct Tryz.prog nR #[(.int .i64 a0)] h fun v h'=>∃ r,v = iI r∧K r h':=aw [(.int .i64 a0)] Tryz.func58 c c c fun _=>M<|O c<|al<|M<|J c<|p (cC c c)<|J c<|V c c (aJ _) (fun g1=>wv<|ai c)<|V c c (aJ _) (fun g2=>wv<|qA (aD c g2) c)<|p (dm c c)<|ad<|av c H (fun k3 H4=>M<|O c<|aj<|Y ⟨none,c,H4⟩) fun k3 H4=>ao<|M<|J c<|aa<|aS H4 (jP c c) c fun v10 _ H5=>p (aY c<|build_167_1 v10)<|aa<|ie c c c H5 fun b12 _ H6=>O c<|aj<|Y ⟨some (b12,0),c,H6⟩
end Go.Proofs.YtemoifebbhoinaaGreatDoor
namespace Go.Proofs.YtemoifebbhoinaaGreatDoor
open Go Mb
def ff (x:Ptr) (e:List Int × List Int):As:=fun h=>∃ bs:Nat × Sl × Sl,(x = some (bs.1,0)∧e.2.length ≤ 8∧e.1.length < 2 ^ 38)∧aG [blk bs.1 ig [sv bs.2.1,sv bs.2.2],vI bs.2.1 e.1,vU bs.2.2 e.2] h
theorem ep_op {x:Ptr} {e:List Int × List Int} {l:List As} {h:Hp} (s0:aG (ff x e::l) h):∃ b s t,x = some (b,0)∧e.2.length ≤ 8∧e.1.length < 2 ^ 38∧s.len = e.1.length∧t.len = e.2.length∧aG (blk b ig [sv s,sv t]::vI s e.1::vU t e.2::l) h:=by
  obtain ⟨⟨b,s,t⟩,⟨hx,h1,h2⟩,st⟩:=op_ s0
  exact ⟨b,s,t,hx,h1,h2,(cj (j:=1) st rfl).1,(cj (j:=2) st rfl).1,st⟩
theorem ep_cl {b:Nat} {s t:Sl} {e1 e2:List Int} {l:List As} {h:Hp} (h1:e2.length ≤ 8) (h2:e1.length < 2 ^ 38) (st:aG (blk b ig [sv s,sv t]::vI s e1::vU t e2::l) h):aG (ff (some (b,0)) (e1,e2)::l) h :=
  cl_ (m:=fun bs:Nat × Sl × Sl=>[blk bs.1 ig [sv bs.2.1,sv bs.2.2],vI bs.2.1 (e1,e2).1,vU bs.2.2 (e1,e2).2]) (b,s,t) ⟨rfl,h1,h2⟩ st
namespace Epochs
abbrev S:=List Int × List Int
def is (e:S) (c:Int):Bool:=decide (0 ≤ c∧c < e.2.length)
def now (e:S):Int:=e.1.length
def begin_ (e:S) (c:Int):(Int × Bool) × S:=if is e c then ((e.1.length + 1,true),(e.1++[c],e.2)) else ((0,false),e)
def ack (e:S) (c n:Int):Bool × S:=if is e c = true∧¬ n < 1∧¬ n > now e then (true,(e.1,e.2.set c.toNat (mx (e.2.getD c.toNat 0) n))) else (false,e)
def waitsFrom (n o:Int):List Int→Int→List Int
  | [],_=>[]
  | a::l,i=>if a < n∧o ≠ i then i::waitsFrom n o l (i + 1) else waitsFrom n o l (i + 1)
def waits (e:S) (n:Int):List Int:=if n < 1∨n > now e then [] else waitsFrom n (e.1.getD (n - 1).toNat 0) e.2 0
def done (e:S) (n:Int):Bool:=decide (n ≥ 1) && decide (n ≤ now e) && decide (waits e n = [])
end Epochs
theorem wrapU {n:Int} (h0:0 ≤ n) (h1:n < 2^64):IntKind.u64.wrap n = n:=by
  simp only [IntKind.wrap]; first | omega | (simp [IntKind.bits,IntKind.signed]; omega)
theorem rW (n:Int) (h1:¬ n < 1) (h2:¬ n > 8):Sp Tryz.prog nR [.int .i64 n] iI [] (fun r=>aG [ff r ([],List.replicate n.toNat 0)]):=by
  intro h st
  refine sim_epoch_New _ ?_
  unfold sh_epoch_New
  obtain ⟨m,rfl⟩:=Int.eq_ofNat_of_zero_le (show 0 ≤ n by omega)
  refine di (by simp; omega) ?_
  refine nS (τ:=Int) (x0:=0) (enc:=cI .u64) (n:=m) fY rfl st ?_ ?_ ?_
  · omega
  · omega
  · intro v h' s1
    refine pt s1 fun b h'' s2=>?_
    exact ep_cl (by simp; omega) (by simp) (bd [1] (fN s2) rfl)
theorem sp_epoch_is (x:Ptr) (e:Epochs.S) (c:Int):Sp Tryz.prog lc [pv x,.int .i64 c] aC [ff x e] (fun r=>pa_ (r = Epochs.is e c) [ff x e]):=by
  intro h s0
  obtain ⟨b,s,t,rfl,hb,he,hs,ht,st⟩:=ep_op s0
  refine sim_epoch_Epochs_is _ _ ?_
  unfold sT
  refine ba (fun k=>?_) (fun k=>?_)
  · have k':0 ≤ c:=by simpa using k
    refine cE (bk t st (i:=0) rfl rfl rfl ?_)
    exact aX (by simp [Epochs.is,k',ht]) s0
  · have k':¬ 0 ≤ c:=by simpa using k
    exact aX (by simp [Epochs.is]; intro h; exact absurd h k') s0
theorem rV (x:Ptr) (e:Epochs.S):Sp Tryz.prog fW [pv x] gS [ff x e] (fun r=>pa_ (r = Epochs.now e) [ff x e]):=by
  intro h s0
  obtain ⟨b,s,t,rfl,hb,he,hs,ht,st⟩:=ep_op s0
  refine sim_epoch_Epochs_Now _ ?_
  unfold rJ
  refine di rfl (cE (bk s st (i:=0) rfl rfl rfl ?_))
  exact aX (by rw [wrapU (by omega) (by omega),hs]; rfl) s0
theorem sp_epoch_Begin (x:Ptr) (e:Epochs.S) (c:Int) (hl:e.1.length < 2 ^ 37):Sp Tryz.prog iU [pv x,.int .i64 c] bK [ff x e] (fun r=>pa_ (r = (Epochs.begin_ e c).1) [ff x (Epochs.begin_ e c).2]):=by
  intro h s0
  refine wL _ _ ?_
  unfold pI
  refine cT [0] (sp_epoch_is x e c) s0 rfl fun r h1 s1=>?_
  obtain ⟨hr,s2⟩:=bp.1 s1
  subst hr
  refine ba (fun k=>?_) (fun k=>?_)
  · have k':Epochs.is e c = false:=by simpa using k
    have e1:Epochs.begin_ e c = ((0,false),e):=by unfold Epochs.begin_; rw [k']; rfl
    rw [e1]
    exact aX rfl s2
  · have k':Epochs.is e c = true:=by simpa using k
    have e1:Epochs.begin_ e c = (((e.1.length:Int) + 1,true),(e.1++[c],e.2)):=if_pos k'
    rw [e1]
    obtain ⟨b,s,t,rfl,hb,he,hs,ht,st⟩:=ep_op s2
    refine cE (bk s st (i:=0) rfl rfl rfl ?_)
    refine wg st (i:=1) rfl (by omega) fun v h3 s3=>?_
    refine uI (i:=0) s3 rfl (show 0 + 0 + 1 ≤ 2 by decide) fun h4 s4=>?_
    have s5:=ep_cl (e1:=e.1++[c]) (e2:=e.2) hb (by simp; omega) s4
    refine cT [0] (rV (some (b,0)) (e.1++[c],e.2)) s5 rfl fun r h6 s6=>?_
    obtain ⟨hr,s7⟩:=bp.1 s6
    subst hr
    exact aX (by simp [Epochs.now]) s7
theorem sp_epoch_Ack (x:Ptr) (e:Epochs.S) (c n:Int):Sp Tryz.prog kj [pv x,.int .i64 c,.int .u64 n] aC [ff x e] (fun r=>pa_ (r = (Epochs.ack e c n).1) [ff x (Epochs.ack e c n).2]):=by
  intro h s0
  refine sim_epoch_Epochs_Ack _ _ _ ?_
  unfold rK
  refine cT [0] (sp_epoch_is x e c) s0 rfl fun r h1 s1=>?_
  obtain ⟨hr,s2⟩:=bp.1 s1
  subst hr
  have no:¬ (Epochs.is e c = true∧¬ n < 1∧¬ n > Epochs.now e)→Epochs.ack e c n = (false,e):=fun hh=>if_neg hh
  refine ba (fun k=>?_) (fun k=>?_)
  · have k':Epochs.is e c = true∧¬ n < 1:=by simpa using k
    refine cT [0] (rV x e) s2 rfl fun r h3 s3=>?_
    obtain ⟨hr,s4⟩:=bp.1 s3
    subst hr
    refine ba (fun k2=>?_) (fun k2=>?_)
    · rw [no (fun hh=>hh.2.2 (by simpa using k2))]
      exact aX rfl s4
    · have k2':¬ n > Epochs.now e:=by simpa using k2
      have e1:Epochs.ack e c n = (true,(e.1,e.2.set c.toNat (mx (e.2.getD c.toNat 0) n))):=if_pos ⟨k'.1,k'.2,k2'⟩
      rw [e1]
      obtain ⟨b,s,t,rfl,hb,he,hs,ht,st⟩:=ep_op s4
      have hc:=k'.1
      unfold Epochs.is at hc
      have hc':=of_decide_eq_true hc
      obtain ⟨m,rfl⟩:=Int.eq_ofNat_of_zero_le hc'.1
      have hm:m < e.2.length:=by omega
      refine cE (bk t st (i:=0) rfl rfl rfl ?_)
      refine dC st (j:=2) rfl (by omega) (by omega) fun q hq=>?_
      refine eE (j:=2) (i:=m) (k:=0) e.2[m] (dl _) st rfl hq (by simp) (aH hm) (by simp) ?_
      refine bk t st (i:=0) rfl rfl rfl ?_
      refine dC st (j:=2) rfl (by omega) (by omega) fun q2 hq2=>?_
      refine st_v (j:=2) (i:=m) (k:=0) (mx e.2[m] n) (dl _) st rfl hq2 (by simp) (aH hm) (by simp) rfl fun h5 s5=>?_
      have hg:e.2.getD (m:Int).toNat 0 = e.2[m]:=by simp [hm]
      rw [hg]
      exact aX rfl (ep_cl (by simpa using hb) he s5)
  · have k':¬ (Epochs.is e c = true∧¬ n < 1):=by simp at k; simp; omega
    rw [no (fun hh=>k' ⟨hh.1,hh.2.1⟩)]
    exact aX rfl s2
theorem wk (n o:Int):∀ (l:List Int) (i:Int) (a:Int),Epochs.waitsFrom n o (l++[a]) i = Epochs.waitsFrom n o l i++(if a < n∧o ≠ i + l.length then [i + l.length] else [])
  | [],i,a=>by simp only [List.nil_append,Epochs.waitsFrom]; split <;> simp_all
  | y::l,i,a=>by
    simp only [List.cons_append,Epochs.waitsFrom]
    rw [wk n o l (i + 1) a]
    have e:i + 1 + (l.length:Int) = i + ((y::l).length:Int):=by simp; omega
    rw [e]
    split <;> simp
theorem waits_len (n o:Int):∀ (l:List Int) (i:Int),(Epochs.waitsFrom n o l i).length ≤ l.length
  | [],_=>Nat.le_refl _
  | a::l,i=>by unfold Epochs.waitsFrom; have:=waits_len n o l (i + 1); split <;> simp <;> omega
theorem sp_epoch_Waits (x:Ptr) (e:Epochs.S) (n:Int):Sp Tryz.prog iT [pv x,.int .u64 n] cu [ff x e] (fun r=>aG [vI r (Epochs.waits e n),ff x e]):=by
  intro h s0
  refine wK _ _ ?_
  unfold pH
  have no:(n < 1∨n > Epochs.now e)→Epochs.waits e n = []:=fun hh=>if_pos hh
  refine ba (fun k=>?_) (fun k=>?_)
  · have k':¬ n < 1:=by simpa using k
    refine cT [0] (rV x e) s0 rfl fun r h3 s3=>?_
    obtain ⟨hr,s4⟩:=bp.1 s3
    subst hr
    refine ba (fun k2=>?_) (fun k2=>?_)
    · rw [no (.inr (by simpa using k2))]
      exact fN s4
    · have k2':¬ n > Epochs.now e:=by simpa using k2
      have e1:Epochs.waits e n = Epochs.waitsFrom n (e.1.getD (n - 1).toNat 0) e.2 0:=if_neg (by omega)
      rw [e1]
      obtain ⟨b,s,t,rfl,hb,he,hs,ht,st⟩:=ep_op s4
      obtain ⟨m,hm⟩:=Int.eq_ofNat_of_zero_le (show 0 ≤ n - 1 by omega)
      have hm':m < e.1.length:=by unfold Epochs.now at k2'; omega
      have hwu:IntKind.u64.wrap (n - 1) = m:=by rw [wrapU (by omega) (by omega),hm]
      have hg:e.1.getD (n - 1).toNat 0 = e.1[m]:=by rw [hm]; simp [hm']
      rw [hg]
      refine cE (bk t st (i:=0) rfl rfl rfl ?_)
      refine Lp.intro (fun (z:Sl × Int) h=>∃ k:Nat,z.2 = k∧k ≤ e.2.length∧aG [vI z.1 (Epochs.waitsFrom n e.1[m] (e.2.take k) 0),blk b ig [sv s,sv t],vI s e.1,vU t e.2] h) (fun (z:Sl × Int) _=>e.2.length - z.2.toNat) ⟨0,rfl,Nat.zero_le _,fN st⟩ ?_
      rintro ⟨z,i⟩ h ⟨k3,rfl,hk3,s5⟩
      unfold kT
      refine ba (fun c=>?_) (fun c=>?_)
      · have hlt:k3 < e.2.length:=by rw [ht] at c; simpa using c
        have hw:IntKind.i64.wrap ((k3:Int) + 1) = ((k3 + 1:Nat):Int):=by rw [bR (by omega) (by omega)]; rfl
        have htk:e.2.take (k3 + 1) = e.2.take k3++[e.2[k3]]:=by simp
        have hlen:((e.2.take k3).length:Int) = k3:=by simp; omega
        have off:¬ (e.2[k3] < n∧e.1[m] ≠ k3)→du (fun z' h'=>(∃ k:Nat,z'.2 = k∧k ≤ e.2.length∧aG [vI z'.1 (Epochs.waitsFrom n e.1[m] (e.2.take k) 0),blk b ig [sv s,sv t],vI s e.1,vU t e.2] h')∧e.2.length - z'.2.toNat < e.2.length - (k3:Int).toNat) (z,(k3:Int)) false h:=by
          intro hno
          unfold du
          refine di rfl ?_
          rw [hw]
          refine ⟨⟨k3 + 1,rfl,hlt,?_⟩,by simp; omega⟩
          rw [htk,wk,hlen,Int.zero_add,if_neg hno,List.append_nil]
          exact s5
        refine dC s5 (j:=3) rfl (by omega) (by show (k3:Int) < _; omega) fun q hq=>?_
        refine eE (j:=3) (i:=k3) (k:=0) e.2[k3] (dl _) s5 rfl hq (by simp) (aH hlt) (by simp) ?_
        refine ba (fun c2=>?_) (fun c2=>?_)
        · have c2':e.2[k3] < n:=by simpa using c2
          refine bk s s5 (i:=1) rfl rfl rfl ?_
          rw [hwu]
          refine dC s5 (j:=2) rfl (by omega) (by omega) fun q2 hq2=>?_
          refine eE (j:=2) (i:=m) (k:=0) e.1[m] (dl _) s5 rfl hq2 (by simp) (aH hm') (by simp) ?_
          by_cases hne:e.1[m] = (k3:Int)
          · have:(e.1[m] != (k3:Int)) = false:=by simp [hne]
            show du _ _ (e.1[m] != (k3:Int)) h
            rw [this]
            exact off (fun hh=>hh.2 hne)
          · have:(e.1[m] != (k3:Int)) = true:=by simp [hne]
            show du _ _ (e.1[m] != (k3:Int)) h
            rw [this]
            unfold du
            refine dG rfl ?_
            refine wg s5 (i:=0) rfl ?_ fun v h' s6=>?_
            · have:=waits_len n e.1[m] (e.2.take k3) 0; simp at this; omega
            · rw [hw]
              refine ⟨⟨k3 + 1,rfl,hlt,?_⟩,by simp; omega⟩
              rw [htk,wk,hlen,Int.zero_add,if_pos ⟨c2',hne⟩]
              exact s6
        · have c2':¬ e.2[k3] < n:=by simpa using c2
          exact off (fun hh=>c2' hh.1)
      · have:k3 = e.2.length:=by rw [ht] at c; simp at c; omega
        subst this
        rw [List.take_length] at s5
        exact vb s5 fun h6 s6=>ep_cl hb he s6
  · have k':n < 1:=by simpa using k
    rw [no (.inl k')]
    exact fN s0
theorem sp_epoch_Done (x:Ptr) (e:Epochs.S) (n:Int):Sp Tryz.prog js [pv x,.int .u64 n] aC [ff x e] (fun r=>pa_ (r = Epochs.done e n) [ff x e]):=by
  intro h s0
  refine sim_epoch_Epochs_Done _ _ ?_
  unfold qP
  refine ba (fun k=>?_) (fun k=>?_)
  · have k':n ≥ 1:=by simpa using k
    refine cT [0] (rV x e) s0 rfl fun r h3 s3=>?_
    obtain ⟨hr,s4⟩:=bp.1 s3
    subst hr
    refine ba (fun k2=>?_) (fun k2=>?_)
    · refine cT [0] (sp_epoch_Waits x e n) s4 rfl fun r h5 s5=>?_
      have s6:=dD s5
      have hl:=(cj (j:=0) s6 rfl).1
      refine aX ?_ (cc (l:=[vI r (Epochs.waits e n)]) s6)
      have e1:decide (n ≥ 1) = true:=k
      have e2:decide (n ≤ Epochs.now e) = true:=k2
      rw [hl]
      unfold Epochs.done
      rw [e1,e2]
      cases Epochs.waits e n with
      | nil=>rfl
      | cons a l=>simp; omega
    · exact aX (by unfold Epochs.done; rw [k2]; simp) s4
  · exact aX (by unfold Epochs.done; rw [k]; rfl) s0
end Go.Proofs.YtemoifebbhoinaaGreatDoor
