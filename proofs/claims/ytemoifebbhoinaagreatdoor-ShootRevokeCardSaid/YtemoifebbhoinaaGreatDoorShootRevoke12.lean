/- Part of the proof of: The law ShootRevoke returns true for every input, and leaves its arguments as they were. -/
import Derived.Test.YtemoifebbhoinaaGreatDoorShootRevoke11
set_option linter.all false
set_option maxRecDepth 20000
namespace Go.Proofs.YtemoifebbhoinaaGreatDoor
open Go Mb
theorem nB (e:bA):e.C.length = 16:=rfl
theorem ev_one (e:bA):dJ e.C = true:=rfl
abbrev vE (s:Sl) (xs:List bA):As:=vec t_api_Event 16 aE.C s xs
def iD (x:Ptr):Option KC→As
  | none=>fun _=>x = none
  | some c=>fun h=>∃ b:Nat,x = some (b,0)∧blk b cU c.C h
section
variable {l:List As} {h:Hp} {cp:List Ptr} {cs:List (Option KC)} {n:Nat}
theorem all_get {σ α:Type} {A:σ→α→As} {ps:List σ} {xs:List α} {i j:Nat} {p:σ} {x:α} (st:aG l h) (hj:l[j]? = some (all A ps xs)) (hp:ps[i]? = some p) (hx:xs[i]? = some x):∃ h1,A p x h1∧∀ b o,h1 b = some o→h b = some o:=by
  obtain ⟨h1,a,sub⟩:=dX hj st
  obtain ⟨h2,a2,sub2⟩:=dX (objs_get hp hx) a
  exact ⟨h2,a2,fun b o e=>sub _ _ (sub2 _ _ e)⟩
theorem call_none {j:Nat} {p:Ptr} (st:aG l h) (hj:l[j]? = some (all iD cp cs)) (hp:cp[n]? = some p) (hx:cs[n]? = some none):p = none:=by
  obtain ⟨_,a,_⟩:=all_get st hj hp hx; exact a
theorem wd {j:Nat} {p:Ptr} {x:KC} (st:aG l h) (hj:l[j]? = some (all iD cp cs)) (hp:cp[n]? = some p) (hx:cs[n]? = some (some x)):∃ b,p = some (b,0)∧h b = some (.cells x.C.toArray cU (0,0)):=by
  obtain ⟨_,⟨b,e,a⟩,sub⟩:=all_get st hj hp hx
  exact ⟨b,e,sub _ _ a⟩
theorem all_but {σ α:Type} {A:σ→α→As} {ps:List σ} {xs:List α} {i:Nat} {p:σ} {x:α} (hp:ps[i]? = some p) (hx:xs[i]? = some x) (s:aG (all A ps xs::l) h):aG (but A ps xs i::l) h:=by
  obtain ⟨h1,h2,d,e,_,s'⟩:=ju hp hx s
  rw [e,un_comm d]; exact su s' d.symm
theorem call_mk {b:Nat} {y:KC} (s:aG (blk b cU y.C::l) h):aG (iD (some (b,0)) (some y)::l) h:=by
  obtain ⟨h1,h2,d,e,a,s'⟩:=s
  exact ⟨h1,h2,d,e,⟨b,rfl,a⟩,s'⟩
theorem ld_c {τ:Type} {j b off:Nat} {x:KC} {enc:τ→List Value} {K:τ→Hp→Prop} (y:τ) (st:aG l h) (hj:l[j]? = some (all iD cp cs)) (hp:cp[n]? = some (some (b,0))) (hx:cs[n]? = some (some x)) (hy:∀ i v,(enc y)[i]? = some v→x.C[off + i]? = some v) (k:K y h):ld (b,off) enc K h:=by
  obtain ⟨b',e,a⟩:=wd st hj hp hx
  cases e
  exact ⟨y,⟨_,_,_,a,fun i v hv=>by simpa using hy i v hv⟩,k⟩
theorem ld_c1 {τ:Type} {j b off:Nat} {x:KC} {enc:τ→List Value} {K:τ→Hp→Prop} {v:Value} (y:τ) (st:aG l h) (hj:l[j]? = some (all iD cp cs)) (hp:cp[n]? = some (some (b,0))) (hx:cs[n]? = some (some x)) (he:enc y = [v]) (hv:x.C[off]? = some v) (k:K y h):ld (b,off) enc K h :=
  ld_c y st hj hp hx (c1 he hv) k
theorem call_out {p:Ptr} {x:KC} (hp:cp[n]? = some p) (hx:cs[n]? = some (some x)) (s:aG (all iD cp cs::l) h):∃ b,p = some (b,0)∧aG (blk b cU x.C::but iD cp cs n::l) h:=by
  obtain ⟨h1,h2,d,e,⟨b,e1,a⟩,s'⟩:=ju hp hx s
  exact ⟨b,e1,h1,h2,d,e,a,s'⟩
theorem call_in {b:Nat} {y:KC} (hp:cp[n]? = some (some (b,0))) (hn:n < cs.length) (hl:cp.length = cs.length) (s:aG (blk b cU y.C::but iD cp cs n::l) h):aG (all iD cp (cs.set n (some y))::l) h:=by
  obtain ⟨h1,h2,d,e,a,s'⟩:=s
  exact xy (A:=iD) hp hn hl ⟨h1,h2,d,e,⟨b,rfl,a⟩,s'⟩
end
def capOf (h:Hp) (x:Ptr):Cap:=match x with
  | some q=>(match h q.1 with
    | some (.cells c _ _)=>(match c.toList with
      | [.int _ a,.int _ b,.int _ d,.int _ e]=>⟨a,b,d,e⟩
      | _=>mo)
    | _=>mo)
  | none=>mo
theorem capOf_eq {l:List As} {h:Hp} {i b T:Nat} {c:Cap} (st:aG l h) (hi:l[i]? = some (blk b T c.C)):capOf h (some (b,0)) = c:=by
  obtain ⟨h1,a,sub⟩:=dX hi st
  unfold capOf
  rw [show (some (b,0):Ptr) = some (b,0) from rfl]
  simp only [sub _ _ a]
  rfl
theorem at_get {t:Caps.T} {e s:Int} (h1:Caps.has t e s = true) (h2:(Caps.get t e s).fRights ≠ 0):Caps.at_ t e s = (Caps.get t e s,true):=if_pos ⟨h1,h2⟩
def wl (t:Caps.T) (x:KC) (r:Cap × Bool):Bool:=if r.2 = true then Caps.under t r.1 ⟨x.fenv,IntKind.i64.wrap x.fc.e1⟩ else false
theorem up_at {t:Caps.T} (x:KC) (e s:Int):wl t x (Caps.at_ t e s) = (if Caps.has t e s = true then Caps.under t (Caps.get t e s) ⟨x.fenv,IntKind.i64.wrap x.fc.e1⟩ else false):=by
  unfold wl
  by_cases h1:Caps.has t e s = true
  · by_cases h2:(Caps.get t e s).fRights ≠ 0
    · rw [at_get h1 h2,if_pos rfl,if_pos h1]
    · have ea:Caps.at_ t e s = (mo,false):=if_neg (fun hh=>h2 hh.2)
      rw [ea,if_neg Bool.false_ne_true,if_pos h1]
      cases hu:Caps.under t (Caps.get t e s) ⟨x.fenv,IntKind.i64.wrap x.fc.e1⟩ with
      | false=>rfl
      | true=>exact absurd (Caps.under_rights hu) h2
  · have ea:Caps.at_ t e s = (mo,false):=if_neg (fun hh=>h1 hh.1)
    rw [ea,if_neg Bool.false_ne_true,if_neg h1]
theorem sp_kern_goes (kb xb:Nat) (pp:Ptr) (kc:List Value) (p:PK) (x:KC) (e s:Int) (h0:kc[0]? = some (pv pp)) :
    Sp Tryz.prog pZ [pv (some (kb,0)),pv (some (xb,0)),.int .i64 e,.int .i64 s] aC [blk kb ci kc,blk xb cU x.C,bn pp p] (fun r=>pa_ (r = KK.goes p x e s) [blk kb ci kc,blk xb cU x.C,bn pp p]):=by
  intro h s0
  have tok:Caps.Ok p.caps:=by
    obtain ⟨_,_,_,ok,_⟩:=fO (bd [2] s0 rfl); exact ok.tree
  refine sim_kern_Kern_goes _ _ _ _ ?_
  unfold ub
  have j1:¬ (x.fc.e0 = 5∧e = x.fenv∧s = IntKind.i64.wrap x.fc.e1)→iX (some (kb,0)) e s (fun r=>pa_ (r = KK.goes p x e s) [blk kb ci kc,blk xb cU x.C,bn pp p]) (xb,0) x.fc.e1 () h:=by
    intro hno
    have eg:KK.goes p x e s = wl p.caps x (Caps.at_ p.caps e s):=by unfold KK.goes; rw [if_neg hno,up_at]
    rw [eg]
    unfold iX
    refine cE (bk pp s0 (i:=0) rfl rfl h0 ?_)
    refine bM (rU pp p e s) (i:=2) rfl s0 fun r h1 hr s1=>?_
    subst hr
    refine pt s1 fun b h2 s2=>?_
    refine uI (i:=0) s2 rfl (by simp [qv]) fun h3 s3=>?_
    have s3':aG [blk b fP (Caps.at_ p.caps e s).1.C,blk kb ci kc,blk xb cU x.C,bn pp p] h3:=s3
    refine Lp.intro (fun (z:Ptr × Bool) h=>∃ (b:Nat) (a i:Int),z = (some (b,0),(Caps.at_ p.caps a i).2)∧wl p.caps x (Caps.at_ p.caps a i) = wl p.caps x (Caps.at_ p.caps e s)∧aG [blk b fP (Caps.at_ p.caps a i).1.C,blk kb ci kc,blk xb cU x.C,bn pp p] h)
      (fun (z:Ptr × Bool) h=>Caps.deep 40 p.caps (capOf h z.1)) ⟨b,e,s,rfl,rfl,s3'⟩ ?_
    rintro z h ⟨b,a,i,rfl,hu,s4⟩
    unfold oW
    rw [capOf_eq (i:=0) s4 rfl]
    refine ba (fun k=>?_) (fun k=>?_)
    · have hat:Caps.has p.caps a i = true∧(Caps.get p.caps a i).fRights ≠ 0:=by
        unfold Caps.at_ at k; split at k
        · assumption
        · cases k
      have e1:=at_get hat.1 hat.2
      rw [e1] at s4 hu ⊢
      have step:=Caps.under_step tok hat.1 ⟨x.fenv,IntKind.i64.wrap x.fc.e1⟩
      have hu':wl p.caps x (Caps.get p.caps a i,true) = Caps.under p.caps (Caps.get p.caps a i) ⟨x.fenv,IntKind.i64.wrap x.fc.e1⟩:=rfl
      rw [hu'] at hu
      refine cE (bk (Caps.get p.caps a i).fEnv s4 (i:=0) rfl rfl rfl ?_)
      refine ba (fun k2=>?_) (fun k2=>?_)
      · have k2':0 ≤ (Caps.get p.caps a i).fEnv:=by simpa using k2
        rw [if_pos ⟨hat.2,k2'⟩] at step
        have dd:=Caps.deep_step tok hat.1 ⟨hat.2,k2'⟩
        obtain ⟨q1,q2⟩:=Caps.parent_has tok hat.1 hat.2 k2'
        have next:¬ ((Caps.get p.caps a i).fEnv = x.fenv∧(Caps.get p.caps a i).fSlot = IntKind.i64.wrap x.fc.e1) →
            iW (kb,0) b (fun s' h'=>(∃ (b:Nat) (a i:Int),s' = (some (b,0),(Caps.at_ p.caps a i).2)∧wl p.caps x (Caps.at_ p.caps a i) = wl p.caps x (Caps.at_ p.caps e s)∧aG [blk b fP (Caps.at_ p.caps a i).1.C,blk kb ci kc,blk xb cU x.C,bn pp p] h')∧Caps.deep 40 p.caps (capOf h' s'.1) < Caps.deep 40 p.caps (Caps.get p.caps a i)) (b,0) () h:=by
          intro hne
          unfold iW
          refine ld_s (i:=0) (Caps.get p.caps a i) s4 rfl (by simp) ?_
          refine pt s4 fun b2 h5 s5=>?_
          refine uI (i:=0) s5 rfl (by simp [qv]) fun h6 s6=>?_
          have s6':aG [blk b2 fP (Caps.get p.caps a i).C,blk b fP (Caps.get p.caps a i).C,blk kb ci kc,blk xb cU x.C,bn pp p] h6:=s6
          refine bk pp s6' (i:=2) rfl rfl h0 ?_
          refine bk (Caps.get p.caps a i).fEnv s6' (i:=0) rfl rfl rfl ?_
          refine bk (Caps.get p.caps a i).fSlot s6' (i:=0) rfl rfl rfl ?_
          refine bM (rU pp p _ _) (i:=4) rfl s6' fun r h7 hr s7=>?_
          subst hr
          refine uI (i:=0) s7 rfl (by simp [qv]) fun h8 s8=>?_
          have s8':aG [blk b2 fP (Caps.at_ p.caps (Caps.get p.caps a i).fEnv (Caps.get p.caps a i).fSlot).1.C,blk b fP (Caps.get p.caps a i).C,blk kb ci kc,blk xb cU x.C,bn pp p] h8:=s8
          have e2:=at_get q1 q2
          refine ⟨⟨b2,_,_,rfl,?_,cc (l:=[blk b fP (Caps.get p.caps a i).C]) (bd [1] s8' rfl)⟩,?_⟩
          · rw [e2,← hu,step,if_neg hne]; rfl
          · rw [capOf_eq (i:=0) s8' rfl,e2]; exact dd
        refine bk (Caps.get p.caps a i).fEnv s4 (i:=0) rfl rfl rfl ?_
        refine bk x.fenv s4 (i:=2) rfl rfl rfl ?_
        refine ba (fun k3=>?_) (fun k3=>?_)
        · have k3':(Caps.get p.caps a i).fEnv = x.fenv:=by simpa using k3
          refine bk (Caps.get p.caps a i).fSlot s4 (i:=0) rfl rfl rfl ?_
          refine ba (fun k4=>?_) (fun k4=>?_)
          · have k4':(Caps.get p.caps a i).fSlot = IntKind.i64.wrap x.fc.e1:=by simpa using k4
            rw [if_pos ⟨k3',k4'⟩] at step
            exact aX (by rw [← hu,step]) (cc (l:=[blk b fP (Caps.get p.caps a i).C]) s4)
          · exact next (fun hh=>by simp [hh.2] at k4)
        · exact next (fun hh=>by simp [hh.1] at k3)
      · have k2':¬ 0 ≤ (Caps.get p.caps a i).fEnv:=by simpa using k2
        rw [if_neg (fun hh=>k2' hh.2)] at step
        exact aX (by rw [← hu,step]) (cc (l:=[blk b fP (Caps.get p.caps a i).C]) s4)
    · refine aX ?_ (cc (l:=[blk b fP (Caps.at_ p.caps a i).1.C]) s4)
      rw [← hu]; unfold wl
      have k':(Caps.at_ p.caps a i).2 = false:=k
      rw [k']; rfl
  refine cE (bk x.fc.e1 s0 (i:=1) rfl rfl rfl ?_)
  refine bk x.fc.e0 s0 (i:=1) rfl rfl rfl ?_
  refine ba (fun k=>?_) (fun k=>?_)
  · have k':x.fc.e0 = 5:=by simpa using k
    refine bk x.fenv s0 (i:=1) rfl rfl rfl ?_
    refine ba (fun k2=>?_) (fun k2=>?_)
    · have k2':e = x.fenv∧s = IntKind.i64.wrap x.fc.e1:=by simpa using k2
      exact aX (by unfold KK.goes; rw [if_pos ⟨k',k2'⟩]) s0
    · exact j1 (fun hh=>by simp [hh.2.1,hh.2.2] at k2)
  · exact j1 (fun hh=>by simp [hh.1] at k)
theorem sp_kern_left (kb xb:Nat) (pp:Ptr) (kc:List Value) (p:PK) (x:KC) (e pg:Int) (q:Pte) (h0:kc[0]? = some (pv pp)) :
    Sp Tryz.prog mc [pv (some (kb,0)),pv (some (xb,0)),.int .i64 e,.int .i64 pg,.agg q.C.toArray] wj [blk kb ci kc,blk xb cU x.C,bn pp p] (fun r=>pa_ (r = KK.left p x e pg q) [blk kb ci kc,blk xb cU x.C,bn pp p]):=by
  intro h s0
  refine sim_kern_Kern_left _ _ _ _ _ ?_
  unfold ua
  have j1:∀ o:Bool,o = decide (x.fenv = e∧IntKind.i64.wrap x.fc.e1 = pg)→iV (some (kb,0)) (some (xb,0)) e q (fun r=>pa_ (r = KK.left p x e pg q) [blk kb ci kc,blk xb cU x.C,bn pp p]) o h:=by
    intro o ho
    unfold iV
    refine cE (bk x.fc.e0 s0 (i:=1) rfl rfl rfl ?_)
    refine ba (fun k=>?_) (fun k=>?_)
    · have k':x.fc.e0 = 7:=by simpa using k
      refine ba (fun k2=>?_) (fun k2=>?_)
      · have k2':x.fenv = e∧IntKind.i64.wrap x.fc.e1 = pg:=of_decide_eq_true (ho ▸ k2)
        exact aX (by unfold KK.left; rw [if_pos k',if_pos k2']) s0
      · have k2':¬ (x.fenv = e∧IntKind.i64.wrap x.fc.e1 = pg):=of_decide_eq_false (ho ▸ k2)
        exact aX (by unfold KK.left; rw [if_pos k',if_neg k2']) s0
    · have k':¬ x.fc.e0 = 7:=by simpa using k
      refine ba (fun k2=>?_) (fun k2=>?_)
      · have k2':x.fc.e0 = 8:=by simpa using k2
        refine cE (bk pp s0 (i:=0) rfl rfl h0 ?_)
        refine bM (rU pp p e q.fSlot) (i:=2) rfl s0 fun r h1 hr s1=>?_
        subst hr
        refine bk x.fc.e2 s1 (i:=1) rfl rfl rfl ?_
        refine ba (fun k3=>?_) (fun k3=>?_)
        · rw [Bool.and_eq_true] at k3
          have k3':x.fenv = e∧IntKind.i64.wrap x.fc.e1 = pg:=of_decide_eq_true (ho ▸ k3.1)
          exact aX (by unfold KK.left; rw [if_neg k',if_pos k2',if_pos ⟨k3',k3.2⟩]) s1
        · have k3':¬ ((x.fenv = e∧IntKind.i64.wrap x.fc.e1 = pg)∧aQ (IntKind.i64.wrap x.fc.e2) (Caps.at_ p.caps e q.fSlot).1.fRights = true):=by
            rintro ⟨h3,h4⟩
            rw [ho,decide_eq_true h3,h4] at k3; cases k3
          exact aX (by unfold KK.left; rw [if_neg k',if_pos k2',if_neg k3']) s1
      · have k2':¬ x.fc.e0 = 8:=by simpa using k2
        refine cT [0,0,0] (sp_kern_goes kb xb pp kc p x e q.fSlot h0) s0 rfl fun r h1 s1=>?_
        obtain ⟨rfl,s2⟩:=bp.1 s1
        refine ba (fun k3=>?_) (fun k3=>?_)
        · exact aX (by unfold KK.left; rw [if_neg k',if_neg k2',if_pos k3]) s2
        · exact aX (by unfold KK.left; rw [if_neg k',if_neg k2',if_neg (by rw [k3]; exact Bool.false_ne_true)]) s2
  refine cE (bk x.fenv s0 (i:=1) rfl rfl rfl ?_)
  refine ba (fun k=>?_) (fun k=>?_)
  · have k':x.fenv = e:=by simpa using k
    refine bk x.fc.e1 s0 (i:=1) rfl rfl rfl ?_
    refine j1 _ ?_
    by_cases h1:IntKind.i64.wrap x.fc.e1 = pg <;> simp [k',h1]
  · have k':¬ x.fenv = e:=by simpa using k
    exact j1 false (by simp [k'])
theorem sp_kern_seen (kb:Nat) (pp:Ptr) (kc:List Value) (p:PK) (cs:Sl) (cp:List Ptr) (calls:List (Option KC)) (e pg:Int) (h0:kc[0]? = some (pv pp)) (h5:kc[5]? = some (sv cs)) (hl:cp.length = calls.length) (hb:calls.length ≤ 8) :
    Sp Tryz.prog mb [pv (some (kb,0)),.int .i64 e,.int .i64 pg] cJ [blk kb ci kc,bn pp p,vQ fA cs cp,all iD cp calls] (fun r=>pa_ (r = KK.seenFrom p e pg calls (PK.pte p e pg).2 (PK.pte p e pg).1) [blk kb ci kc,bn pp p,vQ fA cs cp,all iD cp calls]):=by
  intro h s0
  refine sim_kern_Kern_seen _ _ _ ?_
  unfold tZ
  refine cE (bk pp s0 (i:=0) rfl rfl h0 ?_)
  refine bM (rS pp p e pg) (i:=1) rfl s0 fun r h1 hr s1=>?_
  subst hr
  refine bk cs s1 (i:=0) rfl rfl h5 ?_
  have hcs:=(cj (j:=2) s1 rfl).1
  refine Lp.intro (fun (z:Bool × Int × Pte) h=>∃ n:Nat,z.2.1 = n∧n ≤ calls.length∧KK.seenFrom p e pg (calls.drop n) z.1 z.2.2 = KK.seenFrom p e pg calls (PK.pte p e pg).2 (PK.pte p e pg).1∧aG [blk kb ci kc,bn pp p,vQ fA cs cp,all iD cp calls] h) (fun (z:Bool × Int × Pte) _=>calls.length - z.2.1.toNat) ⟨0,rfl,Nat.zero_le _,rfl,s1⟩ ?_
  rintro ⟨b,i,q⟩ h ⟨n,rfl,hn,he,s2⟩
  unfold oV
  simp only at he ⊢
  refine ba (fun k=>?_) (fun k=>?_)
  · have hlt:n < calls.length:=by rw [hcs,hl] at k; simpa using k
    have hlp:n < cp.length:=by omega
    have hw:IntKind.i64.wrap ((n:Int) + 1) = ((n + 1:Nat):Int):=by rw [bR (by omega) (by omega)]; rfl
    rw [List.drop_eq_getElem_cons hlt] at he
    refine dC s2 (j:=2) rfl (by omega) (by show (n:Int) < _; omega) fun q0 hq0=>?_
    refine eE (j:=2) (i:=n) (k:=0) cp[n] hG s2 rfl hq0 (by simp) (aH hlp) (by simp) ?_
    have skip:KK.seenFrom p e pg (calls.drop (n + 1)) b q = KK.seenFrom p e pg calls (PK.pte p e pg).2 (PK.pte p e pg).1→gC e pg (kb,0) (fun s' h'=>(∃ n:Nat,s'.2.1 = n∧n ≤ calls.length∧KK.seenFrom p e pg (calls.drop n) s'.1 s'.2.2 = KK.seenFrom p e pg calls (PK.pte p e pg).2 (PK.pte p e pg).1∧aG [blk kb ci kc,bn pp p,vQ fA cs cp,all iD cp calls] h')∧calls.length - s'.2.1.toNat < calls.length - (n:Int).toNat) (b,(n:Int),q) cp[n] false h:=by
      intro hs
      unfold gC
      refine di rfl ?_
      rw [hw]
      exact ⟨⟨n + 1,rfl,hlt,hs,s2⟩,by simp; omega⟩
    cases hc:calls[n] with
    | none =>
      have hcn:calls[n]? = some none:=by rw [aH hlt,hc]
      have hp:=call_none (j:=3) s2 rfl (aH hlp) hcn
      rw [hc] at he
      refine di (by rw [hp]; simp) ?_
      exact skip he
    | some x =>
      have hcn:calls[n]? = some (some x):=by rw [aH hlt,hc]
      obtain ⟨xb,hp,hbx⟩:=wd (j:=3) s2 rfl (aH hlp) hcn
      rw [hc,KK.seenFrom] at he
      have hcp:cp[n]? = some (some (xb,0)):=by rw [aH hlp,hp]
      rw [hp] at skip ⊢
      refine ba (fun k2=>?_) (fun k2=>?_)
      · have k2':b = true:=by simpa using k2
        subst k2'
        refine cE (ld_c1 (j:=3) x.ftold s2 rfl hcp hcn rfl rfl ?_)
        cases ht:x.ftold with
        | false =>
          rw [ht,if_neg (by simp)] at he
          exact skip he
        | true =>
          rw [ht,if_pos ⟨rfl,rfl⟩] at he
          unfold gC
          refine dG rfl ?_
          obtain ⟨xb',hp',s3⟩:=call_out hcp hcn (bd [3] s2 rfl)
          cases hp'
          refine cT [2,0,1] (sp_kern_left kb xb pp kc p x e pg q h0) s3 rfl fun r h4 s4=>?_
          obtain ⟨rfl,s5⟩:=bp.1 s4
          rw [hw]
          have s6:=call_in (y:=x) hcp hlt hl (bd [1,2] s5 rfl)
          rw [iM hcn] at s6
          refine ⟨⟨n + 1,rfl,hlt,he,bd [1,1,1] s6 rfl⟩,by simp; omega⟩
      · have k2':b = false:=by simpa using k2
        subst k2'
        rw [if_neg (by simp)] at he
        exact skip he
  · have:n = calls.length:=by rw [hcs,hl] at k; simp at k; omega
    subst this
    rw [List.drop_length] at he
    exact aX he s2
theorem any_succ (f:Nat→Bool) (n:Nat):(List.range (n + 1)).any f = ((List.range n).any f || f n):=by
  rw [List.range_succ,List.any_append]; simp
theorem any_true {f:Nat→Bool} {n N:Nat} (h:n < N) (hf:f n = true):(List.range N).any f = true:=List.any_eq_true.2 ⟨n,List.mem_range.2 h,hf⟩
theorem sp_kern_takes (kb xb:Nat) (pp:Ptr) (kc:List Value) (p:PK) (x:KC) (h0:kc[0]? = some (pv pp)) (h1:kc[1]? = some (.int .i64 p.s.fEnvs)) :
    Sp Tryz.prog oO [pv (some (kb,0)),pv (some (xb,0))] aC [blk kb ci kc,blk xb cU x.C,bn pp p] (fun r=>pa_ (r = KK.takes p x) [blk kb ci kc,blk xb cU x.C,bn pp p]):=by
  intro h s0
  have hsz:1 ≤ p.s.fEnvs∧p.s.fEnvs ≤ 4:=by
    obtain ⟨_,_,_,ok,_⟩:=fO (bd [2] s0 rfl); have:=fQ.1 ok.sz; omega
  refine sim_kern_Kern_takes _ _ ?_
  unfold sQ
  have no:(Word.check x.fc p.s.fEnvs ≠ 0∨x.fc.e0 < 4∨x.fc.e0 > 8∨x.fc.e0 = 6)→KK.takes p x = false:=fun hh=>if_pos hh
  refine cE (cE ?_)
  refine ld_s (i:=1) x.fc s0 rfl ?_ ?_
  · intro j v hv
    have:j < 5:=(List.getElem?_eq_some_iff.1 hv).1
    match j,this with
    | 0,_=>exact hv
    | 1,_=>exact hv
    | 2,_=>exact hv
    | 3,_=>exact hv
    | 4,_=>exact hv
  refine bk p.s.fEnvs s0 (i:=0) rfl rfl h1 ?_
  refine tJ (ji x.fc _) s0 fun r h2 hr s1=>?_
  subst hr
  refine ba (fun k=>?_) (fun k=>?_)
  · exact aX (no (.inl (by simpa using k))).symm s1
  have k0:¬ Word.check x.fc p.s.fEnvs ≠ 0:=by simpa using k
  refine bk x.fc.e0 s1 (i:=1) rfl rfl rfl ?_
  refine ba (fun k1=>?_) (fun k1=>?_)
  · exact aX (no (.inr (.inl (by simpa using k1)))).symm s1
  refine bk x.fc.e0 s1 (i:=1) rfl rfl rfl ?_
  refine ba (fun k2=>?_) (fun k2=>?_)
  · exact aX (no (.inr (.inr (.inl (by simpa using k2))))).symm s1
  refine bk x.fc.e0 s1 (i:=1) rfl rfl rfl ?_
  refine ba (fun k3=>?_) (fun k3=>?_)
  · exact aX (no (.inr (.inr (.inr (by simpa using k3))))).symm s1
  have yes:KK.takes p x = (List.range p.s.fEnvs.toNat).any fun e=>(List.range 8).any fun pg=>KK.hits p x e pg:=by
    unfold KK.takes
    rw [if_neg]
    rintro (h | h | h | h)
    · exact k0 h
    · simp at k1; omega
    · simp at k2; omega
    · simp at k3; exact k3 h
  rw [yes]
  obtain ⟨N,hN⟩:=Int.eq_ofNat_of_zero_le (show 0 ≤ p.s.fEnvs by omega)
  have hNt:p.s.fEnvs.toNat = N:=by omega
  rw [hNt]
  refine bk p.s.fEnvs s1 (i:=0) rfl rfl h1 ?_
  refine Lp.intro (fun (i:Int) h=>∃ n:Nat,i = n∧n ≤ N∧((List.range n).any fun e=>(List.range 8).any fun pg=>KK.hits p x e pg) = false∧aG [blk kb ci kc,blk xb cU x.C,bn pp p] h) (fun (i:Int) _=>N - i.toNat) ⟨0,rfl,Nat.zero_le _,rfl,s1⟩ ?_
  rintro i h ⟨n,rfl,hn,ha,s2⟩
  unfold ny
  refine ba (fun k4=>?_) (fun k4=>?_)
  · have hlt:n < N:=by rw [hN] at k4; simpa using k4
    have hw:IntKind.i64.wrap ((n:Int) + 1) = ((n + 1:Nat):Int):=by rw [bR (by omega) (by omega)]; rfl
    refine Lp.intro (fun (i:Int) h=>∃ m:Nat,i = m∧m ≤ 8∧((List.range m).any fun pg=>KK.hits p x n pg) = false∧aG [blk kb ci kc,blk xb cU x.C,bn pp p] h) (fun (i:Int) _=>8 - i.toNat) ⟨0,rfl,Nat.zero_le _,rfl,s2⟩ ?_
    rintro i h ⟨m,rfl,hm,ha2,s3⟩
    unfold nv
    refine ba (fun k5=>?_) (fun k5=>?_)
    · have hlt2:m < 8:=by have:=of_decide_eq_true k5; omega
      have hw2:IntKind.i64.wrap ((m:Int) + 1) = ((m + 1:Nat):Int):=by rw [bR (by omega) (by omega)]; rfl
      refine bk pp s3 (i:=0) rfl rfl h0 ?_
      refine bM (rS pp p n m) (i:=2) rfl s3 fun r h4 hr s4=>?_
      subst hr
      refine ba (fun k6=>?_) (fun k6=>?_)
      · refine cT [0,0,0] (sp_kern_left kb xb pp kc p x n m (PK.pte p n m).1 h0) s4 rfl fun r h5 s5=>?_
        obtain ⟨rfl,s6⟩:=bp.1 s5
        refine ba (fun k7=>?_) (fun k7=>?_)
        · have hh:KK.hits p x n m = true:=by unfold KK.hits; rw [k6,k7]; rfl
          exact aX (any_true hlt (any_true hlt2 hh)).symm s6
        · have hh:KK.hits p x n m = false:=by unfold KK.hits; rw [k6,k7]; rfl
          rw [hw2]
          exact ⟨⟨m + 1,rfl,hlt2,by rw [any_succ,ha2,hh]; rfl,s6⟩,by simp; omega⟩
      · have hh:KK.hits p x n m = false:=by unfold KK.hits; rw [k6]; rfl
        rw [hw2]
        exact ⟨⟨m + 1,rfl,hlt2,by rw [any_succ,ha2,hh]; rfl,s4⟩,by simp; omega⟩
    · have:m = 8:=by have:=of_decide_eq_false k5; omega
      subst this
      rw [hw]
      exact ⟨⟨n + 1,rfl,hlt,by rw [any_succ,ha,ha2]; rfl,s3⟩,by simp; omega⟩
  · have:n = N:=by rw [hN] at k4; simp at k4; omega
    subst this
    exact aX ha.symm s2
end Go.Proofs.YtemoifebbhoinaaGreatDoor
namespace Go.Proofs.YtemoifebbhoinaaGreatDoor
open Go Mb
structure KZ where
  b:Nat
  pp:Ptr
  ts:Sl
  tp:List Ptr
  pm:Ptr
  pe:Ptr
  cs:Sl
  cp:List Ptr
  es:Sl
abbrev kcl (z:KZ) (k:KK):List Value:=[pv z.pp,.int .i64 k.p.s.fEnvs,sv z.ts,pv z.pm,pv z.pe,sv z.cs,sv z.es,.int .i64 k.now]
abbrev mt (z:KZ) (k:KK):List As:=[blk z.b ci (kcl z k),bn z.pp k.p,vQ sG z.ts z.tp,all fG z.tp k.tlbs,jk z.pm k.boxes,ff z.pe k.epochs,vQ fA z.cs z.cp,all iD z.cp k.calls,vE z.es k.events]
structure KZ.Ok (z:KZ) (k:KK):Prop where
  t:z.tp.length = k.tlbs.length
  c:z.cp.length = k.calls.length
def cF (x:Ptr) (k:KK):As:=fun h=>∃ z:KZ,(x = some (z.b,0)∧KZ.Ok z k∧KK.Ok k)∧aG (mt z k) h
theorem qt {x:Ptr} {k:KK} {l:List As} {h:Hp} (s0:aG (cF x k::l) h):∃ z:KZ,x = some (z.b,0)∧KZ.Ok z k∧KK.Ok k∧aG (mt z k++l) h:=by
  obtain ⟨z,⟨hx,h1,ok⟩,st⟩:=op_ s0
  exact ⟨z,hx,h1,ok,st⟩
theorem ne {z:KZ} {k:KK} {l:List As} {h:Hp} (h1:KZ.Ok z k) (ok:KK.Ok k) (st:aG (mt z k++l) h):aG (cF (some (z.b,0)) k::l) h :=
  cl_ (m:=fun z:KZ=>mt z k) z ⟨rfl,h1,ok⟩ st
theorem kk_len {k:KK} (ok:KK.Ok k):k.tlbs.length = k.calls.length∧k.boxes.length = k.calls.length∧k.epochs.2.length = k.calls.length∧1 ≤ k.calls.length∧k.calls.length ≤ 8:=by
  have h1:=ok.tl; have h2:=ok.bl; have h3:=ok.el; have h4:=ok.cl; have h5:=fQ.1 ok.p.sz
  omega
theorem is_nat {k:KK} {c:Int} (h:KK.is k c = true):∃ n:Nat,c = n∧n < k.calls.length:=by
  have:=of_decide_eq_true (show decide (0 ≤ c∧c < (k.calls.length:Int)) = true from h)
  exact ⟨c.toNat,by omega,by omega⟩
theorem call_nat {k:KK} {n:Nat} (h:n < k.calls.length):KK.call k n = k.calls[n]:=by simp [KK.call,h]
theorem buf_nat {k:KK} {n:Nat} (h:n < k.tlbs.length):KK.buf k n = k.tlbs[n]:=by simp [KK.buf,h]
theorem wt (x:Ptr) (k:KK) (c:Int):Sp Tryz.prog jC [pv x,.int .i64 c] aC [cF x k] (fun r=>pa_ (r = KK.is k c) [cF x k]):=by
  intro h s0
  obtain ⟨z,rfl,zo,ok,st⟩:=qt s0
  have hcs:=(cj (j:=6) st rfl).1
  refine sim_kern_Kern_is _ _ ?_
  unfold sh_kern_Kern_is
  refine ba (fun d=>?_) (fun d=>?_)
  · have d':0 ≤ c:=by simpa using d
    refine cE (bk z.cs st (i:=0) rfl rfl rfl ?_)
    exact aX (by rw [hcs,zo.c]; simp [KK.is,d']) s0
  · have d':¬ 0 ≤ c:=by simpa using d
    exact aX (by simp [KK.is]; intro h; exact absurd h d') s0
theorem ox (x:Ptr) (k:KK) (c:Int):Sp Tryz.prog fV [pv x,.int .i64 c] aC [cF x k] (fun r=>pa_ (r = KK.busy k c) [cF x k]):=by
  intro h s0
  refine sim_kern_Kern_Busy _ _ ?_
  unfold uh
  refine bM (wt x k c) (i:=0) rfl s0 fun r h1 hr s1=>?_
  subst hr
  refine ba (fun d=>?_) (fun d=>?_)
  · obtain ⟨n,rfl,hn⟩:=is_nat d
    obtain ⟨z,rfl,zo,ok,st⟩:=qt s1
    have hcs:=(cj (j:=6) st rfl).1
    have hn':n < z.cp.length:=by rw [zo.c]; exact hn
    refine cE (bk z.cs st (i:=0) rfl rfl rfl ?_)
    refine dC st (j:=6) rfl (by omega) (by omega) fun q hq=>?_
    refine eE (j:=6) (i:=n) (k:=0) z.cp[n] hG st rfl hq (by simp) (aH hn') (by simp) ?_
    refine aX ?_ s1
    unfold KK.busy
    rw [d,call_nat hn]
    cases hc:k.calls[n] with
    | none =>
      have:=call_none (j:=7) st rfl (aH hn') (by rw [aH hn,hc])
      rw [this]; rfl
    | some y =>
      obtain ⟨b,hp,_⟩:=wd (j:=7) st rfl (aH hn') (by rw [aH hn,hc])
      rw [hp]; rfl
  · exact aX (by unfold KK.busy; rw [d]; rfl) s1
theorem sp_kern_Begin (x:Ptr) (k:KK) (core env:Int) (c:dc) (hn:k.now < 2 ^ 38):Sp Tryz.prog oP [pv x,.int .i64 core,.int .i64 env,.agg c.C.toArray] aC [cF x k] (fun r=>pa_ (r = (KK.begin_ k core env c).1) [cF x (KK.begin_ k core env c).2]):=by
  intro h s0
  refine sim_kern_Kern_Begin _ _ _ _ ?_
  unfold sS
  have no:(KK.is k core = false∨KK.busy k core = true∨env < 0∨env ≥ k.p.s.fEnvs)→KK.begin_ k core env c = (false,k):=fun hh=>if_pos hh
  refine bM (wt x k core) (i:=0) rfl s0 fun r h1 hr s1=>?_
  subst hr
  refine ba (fun d=>?_) (fun d=>?_)
  · have d':KK.is k core = true:=by simpa using d
    refine bM (ox x k core) (i:=0) rfl s1 fun r h2 hr s2=>?_
    subst hr
    refine ba (fun d2=>?_) (fun d2=>?_)
    · have d2':KK.busy k core = false∧¬ env < 0:=by simpa using d2
      obtain ⟨z,rfl,zo,ok,st⟩:=qt s2
      refine cE (bk k.p.s.fEnvs st (i:=0) rfl rfl rfl ?_)
      refine ba (fun d3=>?_) (fun d3=>?_)
      · rw [no (.inr (.inr (.inr (by simpa using d3))))]
        exact aX rfl s2
      · have d3':¬ env ≥ k.p.s.fEnvs:=by simpa using d3
        have ok2:=kok_begin ok (by omega) core env c
        have e1:KK.begin_ k core env c = (true,{ k with now:=IntKind.i64.wrap (k.now + 1),events:=k.events++[KK.ev0 core env c (IntKind.i64.wrap (k.now + 1))],calls:=k.calls.set core.toNat (some ⟨k.events.length,env,c,false,0⟩) }):=by
          unfold KK.begin_; rw [if_neg]; simp [d',d2'.1]; omega
        rw [e1] at ok2 ⊢
        obtain ⟨n,rfl,hcn⟩:=is_nat d'
        have hn':n < z.cp.length:=by rw [zo.c]; exact hcn
        have hcs:=(cj (j:=6) st rfl).1
        have hel:=ok.evn
        refine bk k.now st (i:=0) rfl rfl rfl ?_
        refine uI (i:=0) st rfl (Nat.le_of_ble_eq_true rfl) fun h3 s3=>?_
        refine bk (IntKind.i64.wrap (k.now + 1)) s3 (i:=0) rfl rfl rfl ?_
        refine bk z.es s3 (i:=0) rfl rfl rfl ?_
        refine kH (τ:=bA) (i:=8) (enc:=aE.C) (val:=fun x=>.agg x.C.toArray) (x:=KK.ev0 n env c (IntKind.i64.wrap (k.now + 1))) qu nB ev_one (fun _=>rfl) (by omega) rfl rfl s3 rfl (by omega) (by omega) fun v h4 s4=>?_
        refine uI (i:=0) s4 rfl (Nat.le_of_ble_eq_true rfl) fun h5 s5=>?_
        refine bk v s5 (i:=0) rfl rfl rfl ?_
        have hvl:=(cj (j:=8) s5 rfl).1
        refine bk z.cs s5 (i:=0) rfl rfl rfl ?_
        have hw:IntKind.i64.wrap ((v.len:Int) - 1) = k.events.length:=by rw [hvl]; rw [bR] <;> simp <;> omega
        rw [hw]
        refine pt s5 fun b68 h6 s6=>?_
        refine dC s6 (j:=7) rfl (by omega) (by omega) fun q hq=>?_
        refine st_v (j:=7) (i:=n) (k:=0) (some (b68,0):Ptr) hG s6 rfl hq (by simp) (aH hn') (by simp) rfl fun h7 s7=>?_
        have s8:=bd [8] s7 rfl
        have s10:=all_but (aH hn') (aH hcn) s8
        have s12:=call_mk (y:=⟨k.events.length,env,c,false,0⟩) (bd [1,0] s10 rfl)
        have s14:=all_in2 (A:=iD) hcn zo.c s12
        refine aX rfl (ne (z:={ z with es:=v,cp:=z.cp.set n (some (b68,0)) }) ⟨zo.t,by simpa using zo.c⟩ ok2 (bd [1,1,1,1,1,1,1,0,0] s14 rfl))
    · rw [no]
      · exact aX rfl s2
      · simp at d2
        cases hb:KK.busy k core with
        | true=>exact .inr (.inl rfl)
        | false=>exact .inr (.inr (.inl (d2 hb)))
  · rw [no (.inl (by simpa using d))]
    exact aX rfl s1
theorem cleans_drop (k:KK) (ls:List jO) (n:Nat) (h:n < ls.length) (b:Buf):KK.cleans k (ls.drop n) b = if KK.stale k ls[n] = true then KK.cleans k (ls.drop (n + 1)) (Tlb.flush b ls[n].fEnv ls[n].fPage).2 else KK.cleans k (ls.drop (n + 1)) b:=by
  rw [List.drop_eq_getElem_cons h,KK.cleans]
theorem sp_kern_clean (z:KZ) (k:KK) (c:Nat) (hc:c < k.calls.length) (zo:KZ.Ok z k) (ok:KK.Ok k) :
    Sp Tryz.prog lb [pv (some (z.b,0)),.int .i64 c] R_ (mt z k) (fun _=>aG (mt z (KK.clean k c))):=by
  intro h s0
  obtain ⟨l1,l2,l3,l4,l5⟩:=kk_len ok
  have hct:c < k.tlbs.length:=by omega
  have hcp:c < z.tp.length:=by rw [zo.t]; exact hct
  have hts:=(cj (j:=2) s0 rfl).1
  refine sim_kern_Kern_clean _ _ ?_
  unfold sR
  refine cE (bk z.ts s0 (i:=0) rfl rfl rfl ?_)
  refine dC s0 (j:=2) rfl (by omega) (by omega) fun q hq=>?_
  refine eE (j:=2) (i:=c) (k:=0) z.tp[c] hG s0 rfl hq (by simp) (aH hcp) (by simp) ?_
  have s1:=ju (aH hcp) (aH hct) (bd [3] s0 rfl)
  refine uY (sp_tlb_Lines z.tp[c] k.tlbs[c]) (i:=0) rfl s1 fun r h2 s2=>?_
  have s3:=wh (aH hcp) (aH hct) zo.t (bd [1,1] s2 rfl)
  have s4:aG (vL r (Tlb.lines k.tlbs[c])::mt z k) h2:=bd [1,1,1,1,0] s3 rfl
  have hll:(Tlb.lines k.tlbs[c]).length = 8:=by
    obtain ⟨_,_,h8,_⟩:=oo s1
    unfold Tlb.lines; simpa using h8
  have hrl:=(cj (j:=0) s4 rfl).1
  have hbuf:KK.buf k c = k.tlbs[c]:=buf_nat hct
  have same:k.tlbs.set c k.tlbs[c] = k.tlbs:=iM (aH hct)
  refine Lp.intro (fun (i:Int) h=>∃ (n:Nat) (b:Buf),i = n∧n ≤ 8∧KK.cleans k ((Tlb.lines k.tlbs[c]).drop n) b = KK.cleans k (Tlb.lines k.tlbs[c]) k.tlbs[c]∧aG (vL r (Tlb.lines k.tlbs[c])::mt z { k with tlbs:=k.tlbs.set c b }) h) (fun (i:Int) _=>8 - i.toNat) ⟨0,k.tlbs[c],rfl,Nat.zero_le _,rfl,by rw [same]; exact s4⟩ ?_
  rintro i h ⟨n,b,rfl,hn,he,s5⟩
  unfold nz
  refine ba (fun d=>?_) (fun d=>?_)
  · have hlt:n < (Tlb.lines k.tlbs[c]).length:=by rw [hrl] at d; simpa using d
    have hw:IntKind.i64.wrap ((n:Int) + 1) = ((n + 1:Nat):Int):=by rw [bR (by omega) (by omega)]; rfl
    rw [cleans_drop k _ n hlt] at he
    refine dC s5 (j:=0) rfl (by omega) (by omega) fun q2 hq2=>?_
    refine eE (j:=0) (i:=n) (k:=0) (Tlb.lines k.tlbs[c])[n] line_len s5 rfl hq2 (by simp) (aH hlt) (by simp) ?_
    have hcb:c < (k.tlbs.set c b).length:=by simpa using hct
    have hgb:(k.tlbs.set c b)[c] = b:=by simp
    have j1:∀ (o:Bool × Pte) (h:Hp),((decide ((Tlb.lines k.tlbs[c])[n].fEnv ≥ 0)) && (((!o.1) || (o.2.fFrame != (Tlb.lines k.tlbs[c])[n].fFrame)) || (!(aQ (Tlb.lines k.tlbs[c])[n].fRights o.2.fRights)))) = KK.stale k (Tlb.lines k.tlbs[c])[n]→aG (vL r (Tlb.lines k.tlbs[c])::mt z { k with tlbs:=k.tlbs.set c b }) h →
        iq c (z.b,0) (fun s' h'=>(∃ (n:Nat) (b:Buf),s' = n∧n ≤ 8∧KK.cleans k ((Tlb.lines k.tlbs[c]).drop n) b = KK.cleans k (Tlb.lines k.tlbs[c]) k.tlbs[c]∧aG (vL r (Tlb.lines k.tlbs[c])::mt z { k with tlbs:=k.tlbs.set c b }) h')∧8 - s'.toNat < 8 - (n:Int).toNat) n (Tlb.lines k.tlbs[c])[n] o h:=by
      intro o h hs s6
      unfold iq
      rw [hs,hw]
      refine ba (fun d2=>?_) (fun d2=>?_)
      · rw [if_pos d2] at he
        refine bk z.ts s6 (i:=1) rfl rfl rfl ?_
        refine dC s6 (j:=3) rfl (by omega) (by omega) fun q3 hq3=>?_
        refine eE (j:=3) (i:=c) (k:=0) z.tp[c] hG s6 rfl hq3 (by simp) (aH hcp) (by simp) ?_
        have s7:=ju (aH hcp) (aH hcb) (bd [4] s6 rfl)
        rw [hgb] at s7
        refine bM (sp_tlb_Flush z.tp[c] b _ _) (i:=0) rfl s7 fun r h8 hr s8=>?_
        have s9:=xy (aH hcp) hcb (by simpa using zo.t) s8
        rw [List.set_set] at s9
        exact ⟨⟨n + 1,_,rfl,by omega,he,bd [1,1,1,1] s9 rfl⟩,by simp; omega⟩
      · rw [if_neg (by rw [d2]; exact Bool.false_ne_true)] at he
        exact ⟨⟨n + 1,b,rfl,by omega,he,s6⟩,by simp; omega⟩
    refine ba (fun d2=>?_) (fun d2=>?_)
    · have d2':0 ≤ (Tlb.lines k.tlbs[c])[n].fEnv:=by simpa using d2
      refine cT [1,1,5,5] (sp_kern_seen z.b z.pp (kcl z k) k.p z.cs z.cp k.calls (Tlb.lines k.tlbs[c])[n].fEnv (Tlb.lines k.tlbs[c])[n].fPage rfl rfl zo.c l5) s5 rfl fun r h6 s6=>?_
      obtain ⟨rfl,s7⟩:=bp.1 s6
      refine j1 _ _ ?_ (bd [4,0,0,2,2,2,2,0,0] s7 rfl)
      unfold KK.stale KK.seen
      rfl
    · have d2':¬ 0 ≤ (Tlb.lines k.tlbs[c])[n].fEnv:=by simpa using d2
      refine j1 _ _ ?_ s5
      unfold KK.stale
      rw [d2,Bool.false_and,Bool.false_and]
  · have:n = 8:=by rw [hrl] at d; simp at d; omega
    subst this
    rw [← hll,List.drop_length] at he
    have e1:KK.clean k c = { k with tlbs:=k.tlbs.set c b }:=by
      unfold KK.clean
      rw [hbuf,← he,Int.toNat_natCast]; rfl
    rw [e1]
    exact cc (l:=[vL r (Tlb.lines k.tlbs[c])]) s5
theorem sp_kern_ends (z:KZ) (k:KK) (c:Nat) (x:KC) (a:eM) (l:jO) (hc:c < k.calls.length) (hx:k.calls[c]? = some (some x)) (zo:KZ.Ok z k) (ok:KK.Ok k) :
    Sp Tryz.prog me [pv (some (z.b,0)),.int .i64 c,.agg a.C.toArray,.agg l.C.toArray] R_ (mt z k) (fun _=>aG [cF (some (z.b,0)) (KK.ends k c x a l)]):=by
  intro h s0
  have hcp:c < z.cp.length:=by rw [zo.c]; exact hc
  have hcs:=(cj (j:=6) s0 rfl).1
  have hes:=(cj (j:=8) s0 rfl).1
  obtain ⟨xb,hp,_⟩:=wd (j:=7) s0 rfl (aH hcp) hx
  have hcpx:z.cp[c]? = some (some (xb,0)):=by rw [aH hcp,hp]
  have hcok:=ok.cs x (List.mem_of_getElem? hx)
  obtain ⟨i,hi⟩:=Int.eq_ofNat_of_zero_le hcok.1
  have hil:i < k.events.length:=by omega
  refine sim_kern_Kern_ends _ _ _ _ ?_
  unfold uc
  refine cE (bk z.es s0 (i:=0) rfl rfl rfl ?_)
  refine bk z.cs s0 (i:=0) rfl rfl rfl ?_
  refine dC s0 (j:=6) rfl (by omega) (by omega) fun q hq=>?_
  refine eE (j:=6) (i:=c) (k:=0) z.cp[c] hG s0 rfl hq (by simp) (aH hcp) (by simp) ?_
  rw [hp]
  refine cE (ld_c1 (j:=7) x.fat s0 rfl hcpx hx rfl rfl ?_)
  rw [hi]
  refine dC s0 (j:=8) rfl (by omega) (by omega) fun q2 hq2=>?_
  refine bk k.now s0 (i:=0) rfl rfl rfl ?_
  refine bk k.now s0 (i:=0) rfl rfl rfl ?_
  refine st_v (j:=8) (i:=i) (k:=8) { k.events[i] with fEffect:=k.now } nB s0 rfl hq2 rfl (aH hil) (by simp) rfl fun h1 s1=>?_
  have e1:(k.events.set i { k.events[i] with fEffect:=k.now })[i]? = some { k.events[i] with fEffect:=k.now }:=by simp [hil]
  refine st_v (j:=8) (i:=i) (k:=9) { k.events[i] with fEffect:=k.now,fEnd:=k.now } nB s1 rfl hq2 rfl e1 (by simp) rfl fun h2 s2=>?_
  simp only [List.set_set] at s2
  have e2:(k.events.set i { k.events[i] with fEffect:=k.now,fEnd:=k.now })[i]? = some { k.events[i] with fEffect:=k.now,fEnd:=k.now }:=by simp [hil]
  refine st_v (j:=8) (i:=i) (k:=10) { k.events[i] with fEffect:=k.now,fEnd:=k.now,fAnswer:=a } nB s2 rfl hq2 rfl e2 (by simp [ab.C]) rfl fun h3 s3=>?_
  simp only [List.set_set] at s3
  have e3:(k.events.set i { k.events[i] with fEffect:=k.now,fEnd:=k.now,fAnswer:=a })[i]? = some { k.events[i] with fEffect:=k.now,fEnd:=k.now,fAnswer:=a }:=by simp [hil]
  refine st_v (j:=8) (i:=i) (k:=12) (KK.evend k.events[i] k.now a l) nB s3 rfl hq2 rfl e3 (by simp [an.C]) rfl fun h4 s4=>?_
  simp only [List.set_set] at s4
  refine bk z.cs s4 (i:=0) rfl rfl rfl ?_
  refine dC s4 (j:=6) rfl (by omega) (by omega) fun q5 hq5=>?_
  refine st_v (j:=6) (i:=c) (k:=0) (none:Ptr) hG s4 rfl hq5 (by simp) (aH hcp) (by simp) rfl fun h5 s5=>?_
  have s7:=all_but hcpx hx (bd [7] s5 rfl)
  have s8:=star_cons (A:=iD none none) (fun _=>rfl) s7
  have s9:=all_in2 (A:=iD) hc zo.c s8
  have hge:k.events.getD i (KK.ev0 0 0 ⟨0,0,0,0,0⟩ 0) = k.events[i]:=by simp [hil]
  have e4:KK.ends k c x a l = { k with events:=k.events.set i (KK.evend k.events[i] k.now a l),calls:=k.calls.set c none }:=by
    unfold KK.ends; rw [hi,Int.toNat_natCast,Int.toNat_natCast,hge]
  have ok2:=kok_ends ok c x a l
  rw [e4] at ok2 ⊢
  refine ne (z:={ z with cp:=z.cp.set c none }) ⟨zo.t,by simpa using zo.c⟩ ok2 (bd [1,1,1,1,1,1,1,0,0] s9 rfl)
end Go.Proofs.YtemoifebbhoinaaGreatDoor
namespace Go.Proofs.YtemoifebbhoinaaGreatDoor
open Go Mb
theorem five {x:KC}:∀ (i:Nat) (v:Value),(ah.C x.fc)[i]? = some v→x.C[2 + i]? = some v:=by
  intro j v hv
  have:j < 5:=(List.getElem?_eq_some_iff.1 hv).1
  match j,this with
  | 0,_=>exact hv
  | 1,_=>exact hv
  | 2,_=>exact hv
  | 3,_=>exact hv
  | 4,_=>exact hv
theorem sp_kern_access (z:KZ) (k:KK) (c xb:Nat) (x:KC) (hc:c < k.calls.length) (hx:k.calls[c]? = some (some x)) (hp:z.cp[c]? = some (some (xb,0))) (zo:KZ.Ok z k) (ok:KK.Ok k) :
    Sp Tryz.prog ns [pv (some (z.b,0)),.int .i64 c,pv (some (xb,0))] eJ (mt z k) (fun r=>pa_ (r = (KK.access k c x).1) (mt z (KK.access k c x).2)):=by
  intro h s0
  obtain ⟨l1,l2,l3,l4,l5⟩:=kk_len ok
  have hct:c < k.tlbs.length:=by omega
  have hcp:c < z.tp.length:=by rw [zo.t]; exact hct
  have hbuf:KK.buf k c = k.tlbs[c]:=buf_nat hct
  refine sim_kern_Kern_access _ _ _ ?_
  unfold rG
  refine cE (cE ?_)
  refine ld_c (j:=7) x.fc s0 rfl hp hx five ?_
  refine bk k.p.s.fEnvs s0 (i:=0) rfl rfl rfl ?_
  refine tJ (ji x.fc _) s0 fun r h1 hr s1=>?_
  subst hr
  refine ba (fun d=>?_) (fun d=>?_)
  · have e1:KK.access k c x = ((⟨Word.check x.fc k.p.s.fEnvs,0⟩,km),k):=if_pos (by simpa using d)
    rw [e1]; exact aX rfl s1
  · have d':¬ Word.check x.fc k.p.s.fEnvs ≠ 0:=by simpa using d
    refine ld_c1 (j:=7) x.fc.e1 s1 rfl hp hx rfl rfl ?_
    refine lL ov s1 fun r37 h2 s2=>?_
    refine ld_c1 (j:=8) x.fenv s2 rfl hp hx rfl rfl ?_
    refine cT [1,1,5,5] (sp_kern_seen z.b z.pp (kcl z k) k.p z.cs z.cp k.calls x.fenv (IntKind.i64.wrap x.fc.e1) rfl rfl zo.c l5) s2 rfl fun r h3 s3=>?_
    obtain ⟨hr,s4⟩:=bp.1 s3
    have hr':r = KK.seen k x.fenv (IntKind.i64.wrap x.fc.e1):=hr
    subst hr'
    have s5:aG (cZ r37 (List.replicate 8 dh)::mt z k) h3:=bd [4,0,0,2,2,2,2,0,0] s4 rfl
    have j1:∀ h,aG (cZ r37 (KK.tabFor k x.fenv (IntKind.i64.wrap x.fc.e1))::mt z k) h→gO c (fun r=>pa_ (r = (KK.access k c x).1) (mt z (KK.access k c x).2)) (xb,0) (z.b,0) x.fc.e1 r37 () h:=by
      intro h s6
      have hts:=(cj (j:=3) s6 rfl).1
      unfold gO
      refine ld_c1 (j:=8) x.fc.e0 s6 rfl hp hx rfl rfl ?_
      refine bk z.ts s6 (i:=1) rfl rfl rfl ?_
      refine dC s6 (j:=3) rfl (by omega) (by omega) fun q hq=>?_
      refine eE (j:=3) (i:=c) (k:=0) z.tp[c] hG s6 rfl hq (by simp) (aH hcp) (by simp) ?_
      refine ld_c1 (j:=8) x.fenv s6 rfl hp hx rfl rfl ?_
      have s7:=ju (aH hcp) (aH hct) (bd [4] s6 rfl)
      refine cT [0,1] (sp_user_Walk z.tp[c] r37 k.tlbs[c] (KK.tabFor k x.fenv (IntKind.i64.wrap x.fc.e1)) x.fenv (IntKind.i64.wrap x.fc.e1) (IntKind.i64.wrap x.fc.e0)) s7 rfl fun r h8 s8=>?_
      obtain ⟨hr,s9⟩:=bp.1 s8
      have hr':r = (KK.accWalk k c x).1:=by rw [hr]; unfold KK.accWalk; rw [hbuf]
      have hw:(User.walk k.tlbs[c] (KK.tabFor k x.fenv (IntKind.i64.wrap x.fc.e1)) x.fenv (IntKind.i64.wrap x.fc.e1) (IntKind.i64.wrap x.fc.e0)).2 = (KK.accWalk k c x).2:=by unfold KK.accWalk; rw [hbuf]
      rw [hw] at s9
      subst hr'
      have s10:=xy (aH hcp) hct zo.t (bd [0,1] s9 rfl)
      refine ba (fun d2=>?_) (fun d2=>?_)
      · have e1:KK.access k c x = ((⟨7,0⟩,km),{ k with tlbs:=k.tlbs.set c (KK.accWalk k c x).2 }):=by
          unfold KK.access; rw [if_neg d',if_pos (by simpa using d2),Int.toNat_natCast]
        rw [e1]
        exact aX rfl (cc (l:=[cZ r37 _]) (bd [1,1,1,1,0] s10 rfl))
      · have e1:KK.access k c x = (((PK.touch k.p (KK.accWalk k c x).1.1.fFrame x.fc).1.1,(KK.accWalk k c x).1.1),{ k with tlbs:=k.tlbs.set c (KK.accWalk k c x).2,p:=(PK.touch k.p (KK.accWalk k c x).1.1.fFrame x.fc).2 }):=by
          unfold KK.access; rw [if_neg d',if_neg (by simpa using d2),Int.toNat_natCast]
        rw [e1]
        refine bk z.pp s10 (i:=2) rfl rfl rfl ?_
        refine ld_c (j:=8) x.fc s10 rfl hp hx five ?_
        refine bM (ow z.pp k.p _ x.fc) (i:=3) rfl s10 fun r h11 hr s11=>?_
        subst hr
        have hs:=touch_s k.p (KK.accWalk k c x).1.1.fFrame x.fc
        refine aX rfl ?_
        have s12:=cc (l:=[cZ r37 _]) (bd [1,1,1,1,0] s11 rfl)
        have ek:kcl z { k with tlbs:=k.tlbs.set c (KK.accWalk k c x).2,p:=(PK.touch k.p (KK.accWalk k c x).1.1.fFrame x.fc).2 } = kcl z k:=by
          show [pv z.pp,Value.int .i64 (PK.touch k.p (KK.accWalk k c x).1.1.fFrame x.fc).2.s.fEnvs,_,_,_,_,_,_] = _
          rw [hs]
        show aG (blk z.b ci (kcl z _)::_) _
        rw [ek]
        exact s12
    refine ba (fun d2=>?_) (fun d2=>?_)
    · refine bM (kw r37 _ (IntKind.i64.wrap x.fc.e1) (KK.seen k x.fenv (IntKind.i64.wrap x.fc.e1)).1) (i:=0) rfl s5 fun r h6 hr s6=>j1 _ ?_
      have e1:KK.tabFor k x.fenv (IntKind.i64.wrap x.fc.e1) = (Table.insert (List.replicate 8 dh) (IntKind.i64.wrap x.fc.e1) (KK.seen k x.fenv (IntKind.i64.wrap x.fc.e1)).1).2:=if_pos d2
      rw [e1]; exact s6
    · have e1:KK.tabFor k x.fenv (IntKind.i64.wrap x.fc.e1) = List.replicate 8 dh:=if_neg (by rw [d2]; exact Bool.false_ne_true)
      exact j1 _ (by rw [e1]; exact s5)
theorem access_calls (k:KK) (c:Int) (x:KC):(KK.access k c x).2.calls = k.calls:=by
  unfold KK.access
  repeat' split
  all_goals rfl
theorem access_tlen (k:KK) (c:Int) (x:KC):(KK.access k c x).2.tlbs.length = k.tlbs.length:=by
  unfold KK.access
  repeat' split
  all_goals simp
theorem kz_tlbs {z:KZ} {k k':KK} (zo:KZ.Ok z k) (h1:k'.tlbs.length = k.tlbs.length) (h2:k'.calls.length = k.calls.length):KZ.Ok z k':=⟨by rw [h1]; exact zo.t,by rw [h2]; exact zo.c⟩
theorem sp_kern_Step (x:Ptr) (k:KK) (c:Int) (hn:k.now < 2 ^ 37):Sp Tryz.prog qa [pv x,.int .i64 c] aC [cF x k] (fun r=>pa_ (r = (KK.step k c).1) [cF x (KK.step k c).2]):=by
  intro h s0
  refine sim_kern_Kern_Step _ _ ?_
  unfold ud
  refine bM (ox x k c) (i:=0) rfl s0 fun r h1 hr s1=>?_
  subst hr
  refine ba (fun d=>?_) (fun d=>?_)
  · have e1:KK.step k c = (false,k):=if_pos (by simpa using d)
    rw [e1]; exact aX rfl s1
  · have d':KK.busy k c = true:=by simpa using d
    obtain ⟨hi,y,hy⟩:=busy_is d'
    have e1:KK.step k c = (true,KK.work (KK.tick k) c y):=by unfold KK.step; rw [if_neg (by simp [d']),hy]
    rw [e1]
    obtain ⟨z,rfl,zo,ok,st⟩:=qt s1
    have okt:=kok_tick ok (by omega)
    obtain ⟨n,rfl,hnc⟩:=is_nat hi
    obtain ⟨l1,l2,l3,l4,l5⟩:=kk_len ok
    have hnp:n < z.cp.length:=by rw [zo.c]; exact hnc
    have hcs:=(cj (j:=6) st rfl).1
    have hxn:k.calls[n]? = some (some y):=by rw [aH hnc,← call_nat hnc,hy]
    have hep:=ok.epn
    have hwn:=wrapN ok.n0 (show k.now < 2 ^ 40 by omega)
    refine cE (bk k.now st (i:=0) rfl rfl rfl ?_)
    refine uI (i:=0) st rfl (Nat.le_of_ble_eq_true rfl) fun h2 s2=>?_
    have s3:aG (mt z (KK.tick k)) h2:=s2
    have zot:KZ.Ok z (KK.tick k):=⟨zo.t,zo.c⟩
    have hxt:(KK.tick k).calls[n]? = some (some y):=hxn
    have hyt:KK.call (KK.tick k) n = some y:=hy
    have hit:KK.is (KK.tick k) n = true:=hi
    have hept:((KK.tick k).epochs.1.length:Int) + 1 ≤ (KK.tick k).now:=by show _ ≤ IntKind.i64.wrap (k.now + 1); rw [hwn]; simp only [KK.tick]; omega
    have hnt:(KK.tick k).now ≤ 2 ^ 37:=by show IntKind.i64.wrap (k.now + 1) ≤ _; rw [hwn]; omega
    have okw:=kok_work okt hept hyt hit
    have hnct:n < (KK.tick k).calls.length:=hnc
    generalize KK.tick k = kt at *
    obtain ⟨xb,hp,_⟩:=wd (j:=7) s3 rfl (aH hnp) hxt
    have hpx:z.cp[n]? = some (some (xb,0)):=by rw [aH hnp,hp]
    refine bk z.cs s3 (i:=0) rfl rfl rfl ?_
    refine dC s3 (j:=6) rfl (by omega) (by omega) fun q hq=>?_
    refine eE (j:=6) (i:=n) (k:=0) z.cp[n] hG s3 rfl hq (by simp) (aH hnp) (by simp) ?_
    rw [hp]
    refine cE (ld_c (j:=7) y.fc s3 rfl hpx hxt five ?_)
    refine ba (fun d2=>?_) (fun d2=>?_)
    · have ew:KK.work kt n y = KK.ends (KK.access kt n y).2 n y (KK.access kt n y).1.1 (KK.access kt n y).1.2:=if_pos d2
      rw [ew]
      have oka:=kok_access okt n y
      have hca:(KK.access kt n y).2.calls = kt.calls:=access_calls _ _ _
      have hta:(KK.access kt n y).2.tlbs.length = kt.tlbs.length:=access_tlen _ _ _
      refine cT [0,0,0,0,0,0,0,0,0] (sp_kern_access z kt n xb y hnct hxt hpx zot okt) s3 rfl fun r h4 s4=>?_
      obtain ⟨hr,s5⟩:=bp.1 s4
      subst hr
      refine cT [0,0,0,0,0,0,0,0,0] (sp_kern_ends z (KK.access kt n y).2 n y (KK.access kt n y).1.1 (KK.access kt n y).1.2 (by rw [hca]; exact hnct) (by rw [hca]; exact hxt) (kz_tlbs zot hta (by rw [hca])) oka) s5 rfl fun r h6 s6=>?_
      exact aX rfl (dD s6)
    · have d2':¬ bT (aA y.fc).1 = true:=by rw [d2]; exact Bool.false_ne_true
      have j2:∀ b:Bool,(y.ftold = false∧KK.takes kt.p y = true) = False→b = (y.ftold && !(Epochs.done kt.epochs y.fepoch))→∀ h,aG (mt z kt) h→iY n (fun r=>pa_ (r = true) [cF (some (z.b,0)) (KK.work kt n y)]) (z.b,0) (xb,0) b h:=by
        intro b hno hb h s4
        have ew:KK.work kt n y = (if y.ftold = true∧Epochs.done kt.epochs y.fepoch = false then kt else if (PK.do_ kt.p y.fenv y.fc).1.2 = true then KK.ends { kt with p:=(PK.do_ kt.p y.fenv y.fc).2 } n y (PK.do_ kt.p y.fenv y.fc).1.1 km else { kt with p:=(PK.do_ kt.p y.fenv y.fc).2 }):=by
          unfold KK.work
          rw [if_neg d2',if_neg (by rw [hno]; exact not_false)]
        rw [ew] at okw ⊢
        unfold iY
        refine ba (fun d4=>?_) (fun d4=>?_)
        · have d4':y.ftold = true∧Epochs.done kt.epochs y.fepoch = false:=by rw [hb] at d4; simpa using d4
          rw [if_pos d4']
          exact aX rfl (ne zot okt s4)
        · have d4':¬ (y.ftold = true∧Epochs.done kt.epochs y.fepoch = false):=by rw [hb] at d4; simpa using d4
          rw [if_neg d4'] at okw ⊢
          refine bk z.pp s4 (i:=0) rfl rfl rfl ?_
          refine ld_c1 (j:=7) y.fenv s4 rfl hpx hxt rfl rfl ?_
          refine ld_c (j:=7) y.fc s4 rfl hpx hxt five ?_
          refine bM (jQ z.pp kt.p y.fenv y.fc) (i:=1) rfl s4 fun r h5 hr s5=>?_
          subst hr
          have hs:=do_s kt.p y.fenv y.fc
          have s6:aG (mt z { kt with p:=(PK.do_ kt.p y.fenv y.fc).2 }) h5:=by
            show aG (blk z.b ci [pv z.pp,Value.int .i64 (PK.do_ kt.p y.fenv y.fc).2.s.fEnvs,_,_,_,_,_,_]::_) _
            rw [hs]; exact s5
          have okp:=kok_p okt (ok_do okt.p y.fenv y.fc) hs
          refine ba (fun d5=>?_) (fun d5=>?_)
          · rw [if_pos d5]
            refine cT [0,0,0,0,0,0,0,0,0] (sp_kern_ends z { kt with p:=(PK.do_ kt.p y.fenv y.fc).2 } n y (PK.do_ kt.p y.fenv y.fc).1.1 km hnct hxt ⟨zot.t,zot.c⟩ okp) s6 rfl fun r h7 s7=>?_
            exact aX rfl (dD s7)
          · rw [if_neg (by rw [d5]; exact Bool.false_ne_true)]
            exact aX rfl (ne (k:={ kt with p:=_ }) ⟨zot.t,zot.c⟩ okp s6)
      refine ld_c1 (j:=7) y.ftold s3 rfl hpx hxt rfl rfl ?_
      refine ba (fun d3=>?_) (fun d3=>?_)
      · have d3':y.ftold = false:=by simpa using d3
        obtain ⟨xb',hp',s4⟩:=call_out hpx hxt (bd [7] s3 rfl)
        cases hp'
        refine cT [2,0,1] (sp_kern_takes z.b xb z.pp (kcl z kt) kt.p y rfl rfl) s4 rfl fun r h5 s5=>?_
        obtain ⟨hr,s6⟩:=bp.1 s5
        subst hr
        unfold iZ
        refine ba (fun d4=>?_) (fun d4=>?_)
        · have ew:KK.work kt n y = KK.send (KK.clean (KK.tell kt n y) n) n y:=by unfold KK.work; rw [if_neg d2',if_pos ⟨d3',d4⟩]
          rw [ew] at okw ⊢
          refine uI (i:=1) s6 rfl (Nat.le_of_ble_eq_true rfl) fun h7 s7=>?_
          have s8:=call_in (y:={ y with ftold:=true }) hpx hnct zot.c (bd [1,2] s7 rfl)
          have s9:aG (mt z (KK.tell kt n y)) h7:=bd [1,1,1,1,1,1,1,0,0] s8 rfl
          have okl:KK.Ok (KK.tell kt n y):=kok_call okt n hyt (y:={ y with ftold:=true }) rfl rfl
          have hll:n < (KK.tell kt n y).calls.length:=by simpa [KK.tell] using hnct
          have zol:KZ.Ok z (KK.tell kt n y):=⟨zot.t,by simpa [KK.tell] using zot.c⟩
          refine cT [0,0,0,0,0,0,0,0,0] (sp_kern_clean z (KK.tell kt n y) n hll zol okl) s9 rfl fun r h10 s10=>?_
          have s11:=dD s10
          have hcc:(KK.clean (KK.tell kt n y) n).calls[n]? = some (some { y with ftold:=true }):=by simp [KK.clean,KK.tell,hnct]
          have okc:=kok_clean okl n
          have zoc:KZ.Ok z (KK.clean (KK.tell kt n y) n):=⟨by simpa [KK.clean] using zol.t,zol.c⟩
          have hepc:((KK.clean (KK.tell kt n y) n).epochs.1.length:Int) + 1 ≤ kt.now:=hept
          have hbx:=okc.bx
          have htl:(KK.clean (KK.tell kt n y) n).calls = kt.calls.set n (some { y with ftold:=true }):=rfl
          have hnow:(KK.clean (KK.tell kt n y) n).now = kt.now:=rfl
          generalize KK.clean (KK.tell kt n y) n = kc at *
          have hncc:n < kc.calls.length:=by rw [htl]; simpa using hnct
          refine bk z.pe s11 (i:=0) rfl rfl rfl ?_
          refine bM (sp_epoch_Begin z.pe kc.epochs n (by omega)) (i:=5) rfl s11 fun r h12 hr s12=>?_
          subst hr
          obtain ⟨xb',hp',s13⟩:=call_out hpx hcc (bd [7] s12 rfl)
          cases hp'
          refine uI (i:=0) s13 rfl (Nat.le_of_ble_eq_true rfl) fun h14 s14=>?_
          have s15:=call_in (y:={ y with ftold:=true,fepoch:=(Epochs.begin_ kc.epochs n).1.1 }) hpx hncc zoc.c s14
          refine bk z.pm s15 (i:=1) rfl rfl rfl ?_
          have hxe:(kc.calls.set n (some { y with ftold:=true,fepoch:=(Epochs.begin_ kc.epochs n).1.1 }))[n]? = some (some { y with ftold:=true,fepoch:=(Epochs.begin_ kc.epochs n).1.1 }):=by simp [hncc]
          refine ld_c1 (j:=0) (Epochs.begin_ kc.epochs n).1.1 s15 rfl hpx hxe rfl rfl ?_
          have he:Epochs.is kc.epochs n = true:=by
            unfold Epochs.is
            have:=okc.el
            have:=okc.cl
            exact decide_eq_true (by omega)
          have eb:(Epochs.begin_ kc.epochs n).1.1 = (kc.epochs.1.length:Int) + 1:=by unfold Epochs.begin_; rw [if_pos he]
          refine bM (sp_mail_All z.pm kc.boxes n (Epochs.begin_ kc.epochs n).1.1 ?_) (i:=5) rfl s15 fun r h16 hr s16=>?_
          · intro l hl
            rw [eb]
            exact box_fit (hbx l hl) (by omega)
          · refine aX rfl (ne (k:=KK.send kc n y) ⟨zoc.t,by simpa [KK.send] using zoc.c⟩ okw (bd [1,1,1,1,1,1,1,0,0] s16 rfl))
        · have hno:(y.ftold = false∧KK.takes kt.p y = true) = False:=by simp [d4]
          have s8:=call_in (y:=y) hpx hnct zot.c (bd [1,2] s6 rfl)
          rw [iM hxt] at s8
          have s9:aG (mt z kt) h5:=bd [1,1,1,1,1,1,1,0,0] s8 rfl
          refine ld_c1 (j:=7) y.ftold s9 rfl hpx hxt rfl rfl ?_
          refine di d3' ?_
          exact j2 false hno (by rw [d3']; rfl) _ s9
      · have d3':y.ftold = true:=by simpa using d3
        unfold iZ
        refine di rfl ?_
        refine ld_c1 (j:=7) y.ftold s3 rfl hpx hxt rfl rfl ?_
        refine dG d3' ?_
        refine bk z.pe s3 (i:=0) rfl rfl rfl ?_
        refine ld_c1 (j:=7) y.fepoch s3 rfl hpx hxt rfl rfl ?_
        refine bM (sp_epoch_Done z.pe kt.epochs y.fepoch) (i:=5) rfl s3 fun r h4 hr s4=>?_
        subst hr
        exact j2 _ (by simp [d3']) (by rw [d3']; rfl) _ s4
theorem sp_kern_Post (x:Ptr) (k:KK) (c:Int) (hn:k.now < 2 ^ 37):Sp Tryz.prog qb [pv x,.int .i64 c] aC [cF x k] (fun r=>pa_ (r = (KK.post k c).1) [cF x (KK.post k c).2]):=by
  intro h s0
  refine sim_kern_Kern_Post _ _ ?_
  unfold ue
  refine bM (wt x k c) (i:=0) rfl s0 fun r h1 hr s1=>?_
  subst hr
  refine ba (fun d=>?_) (fun d=>?_)
  · have e1:KK.post k c = (false,k):=if_pos (by simpa using d)
    rw [e1]; exact aX rfl s1
  · have d':KK.is k c = true:=by simpa using d
    obtain ⟨z,rfl,zo,ok,st⟩:=qt s1
    have okp:=kok_post ok (by omega) c
    obtain ⟨n,rfl,hnc⟩:=is_nat d'
    refine cE (bk z.pm st (i:=0) rfl rfl rfl ?_)
    refine bM (sp_mail_Take z.pm k.boxes n) (i:=4) rfl st fun r h2 hr s2=>?_
    subst hr
    refine ba (fun d2=>?_) (fun d2=>?_)
    · have d2':(Mail.take k.boxes n).1.2 = false:=by simpa using d2
      have e1:KK.post k n = (false,k):=by unfold KK.post; rw [if_neg (by simp [d']),if_pos d2']
      have e2:(Mail.take k.boxes n).2 = k.boxes:=by
        unfold Mail.take at d2' ⊢; split
        · rfl
        · rename_i hh; rw [if_neg hh] at d2'; cases d2'
      rw [e1]
      rw [e2] at s2
      exact aX rfl (ne zo ok s2)
    · have e1:KK.post k n = (true,{ KK.clean { KK.tick k with boxes:=(Mail.take k.boxes n).2 } n with epochs:=(Epochs.ack k.epochs n (Mail.take k.boxes n).1.1).2 }):=by
        unfold KK.post; rw [if_neg (by simp [d']),if_neg (by simpa using d2)]
      rw [e1] at okp ⊢
      refine bk k.now s2 (i:=0) rfl rfl rfl ?_
      refine uI (i:=0) s2 rfl (Nat.le_of_ble_eq_true rfl) fun h3 s3=>?_
      have s4:aG (mt z { KK.tick k with boxes:=(Mail.take k.boxes n).2 }) h3:=s3
      have okt:=kok_tick ok (by omega)
      have hbl:(Mail.take k.boxes n).2.length = k.boxes.length:=by unfold Mail.take; split <;> simp
      have hb:∀ l ∈ (Mail.take k.boxes n).2,mu k.epochs.1.length l:=by
        unfold Mail.take; split
        · exact ok.bx
        · exact boxes_set ok.bx _ (box_drop (box_of ok.bx n))
      have ok2:KK.Ok { KK.tick k with boxes:=(Mail.take k.boxes n).2 }:=⟨okt.p,okt.tl,by simp only [hbl]; exact ok.bl,okt.el,okt.cl,okt.cs,okt.n0,okt.evn,okt.epn,hb⟩
      refine cT [0,0,0,0,0,0,0,0,0] (sp_kern_clean z { KK.tick k with boxes:=(Mail.take k.boxes n).2 } n hnc ⟨zo.t,zo.c⟩ ok2) s4 rfl fun r h5 s5=>?_
      have s6:=dD s5
      refine bk z.pe s6 (i:=0) rfl rfl rfl ?_
      refine bM (sp_epoch_Ack z.pe k.epochs n _) (i:=5) rfl s6 fun r h7 hr s7=>?_
      refine aX rfl (ne (z:=z) ⟨?_,zo.c⟩ okp s7)
      simpa [KK.clean,KK.tick] using zo.t
theorem sp_kern_Mail (x:Ptr) (k:KK) (c:Int):Sp Tryz.prog qc [pv x,.int .i64 c] eB [cF x k] (fun r=>pa_ (r = KK.mail k c) [cF x k]):=by
  intro h s0
  refine sim_kern_Kern_Mail _ _ ?_
  unfold uf
  refine bM (wt x k c) (i:=0) rfl s0 fun r h1 hr s1=>?_
  subst hr
  refine ba (fun d=>?_) (fun d=>?_)
  · exact aX (by unfold KK.mail; rw [if_neg (by simpa using d)]) s1
  · obtain ⟨z,rfl,zo,ok,st⟩:=qt s1
    refine cE (bk z.pm st (i:=0) rfl rfl rfl ?_)
    refine bM (sp_mail_Waits z.pm k.boxes c) (i:=4) rfl st fun r h2 hr s2=>?_
    exact aX (by unfold KK.mail; rw [if_pos (by simpa using d),hr]) (ne zo ok s2)
theorem sp_slices_CloneE (s:Sl) (xs:List bA) (hb:xs.length < 2 ^ 38):Sp Tryz.prog eW [sv s] eA [vE s xs] (fun r=>aG [vE r xs,vE s xs]):=by
  intro h s0
  refine mv _ ?_
  unfold hX
  refine ba (fun k=>?_) (fun k=>?_)
  · have hn:xs = []:=by
      obtain ⟨_,⟨e1,e2,e3⟩,_⟩:=dX (i:=0) rfl s0
      rcases e3 with e3 | ⟨b,pre,rest,U,fr,h4,_⟩
      · exact List.eq_nil_of_length_eq_zero (by omega)
      · rw [h4] at k; cases k
    subst hn
    exact fN s0
  · refine eS (τ:=bA) [] (val:=fun x=>.agg x.C.toArray) (enc:=aE.C) qu nB (fun _=>rfl) s0 rfl rfl (by simp) fun y h' s1=>?_
    refine tF (τ:=bA) (i:=0) (j:=1) (enc:=aE.C) (xs:=[]) (ys:=xs) qu qu.sl nB ev_one s1 rfl rfl (by omega) (by simp; omega) (by simp; omega) fun v h2 s2=>?_
    exact s2
theorem sI (x:Ptr) (k:KK) (hb:k.now < 2 ^ 38):Sp Tryz.prog fU [pv x] eA [cF x k] (fun r=>aG [vE r k.events,cF x k]):=by
  intro h s0
  obtain ⟨z,rfl,zo,ok,st⟩:=qt s0
  have:=ok.evn
  refine sim_kern_Kern_Events _ ?_
  unfold rH
  refine di rfl (cE (bk z.es st (i:=0) rfl rfl rfl ?_))
  refine uY (sp_slices_CloneE z.es k.events (by omega)) (i:=8) rfl st fun r h1 s1=>?_
  exact vb s1 fun h2 s2=>ne zo ok s2
theorem sp_kern_Cap (x:Ptr) (k:KK) (e s:Int):Sp Tryz.prog rj [pv x,.int .i64 e,.int .i64 s] cr [cF x k] (fun r=>pa_ (r = Caps.at_ k.p.caps e s) [cF x k]):=by
  intro h s0
  obtain ⟨z,rfl,zo,ok,st⟩:=qt s0
  refine sim_kern_Kern_Cap _ _ _ ?_
  unfold vw
  refine di rfl (cE (bk z.pp st (i:=0) rfl rfl rfl ?_))
  exact bM (rU z.pp k.p e s) (i:=1) rfl st fun r h1 hr s1=>aX hr (ne zo ok s1)
theorem sp_kern_Free (x:Ptr) (k:KK):Sp Tryz.prog qd [pv x] cu [cF x k] (fun r=>aG [vI r (Pool.free k.p.pool),cF x k]):=by
  intro h s0
  obtain ⟨z,rfl,zo,ok,st⟩:=qt s0
  refine sim_kern_Kern_Free _ ?_
  unfold ug
  refine di rfl (cE (bk z.pp st (i:=0) rfl rfl rfl ?_))
  exact uY (sp_plain_Free z.pp k.p) (i:=1) rfl st fun r h1 s1=>vb s1 fun h2 s2=>ne zo ok s2
end Go.Proofs.YtemoifebbhoinaaGreatDoor
namespace Go.Proofs.YtemoifebbhoinaaGreatDoor
open Go Mb
set_option linter.unusedVariables false
def fe (a0:Ptr) (Rec7:(Bool × Int)→Hp→Prop) (s6:Bool × Int) (s11:Unit):Hp→Prop:=cl Tryz.prog fV [(pv a0),(.int .i64 s6.2)] aC fun r37=>cl Tryz.prog fV [(pv a0),(.int .i64 s6.2)] aC fun r43=>br r43 ( cl Tryz.prog qa [(pv a0),(.int .i64 s6.2)] aC fun r46=>Rec7 ((r37 || s6.1),(IntKind.i64.wrap (s6.2 + 1)))) ( Rec7 ((r37 || s6.1),(IntKind.i64.wrap (s6.2 + 1))))
def gA (a0:Ptr) (Rec7:(Bool × Int)→Hp→Prop) (s6:Bool × Int) (Rec20:Int→Hp→Prop) (s19:Int):Hp→Prop:=br (decide (s19 < 5000)) ( cl Tryz.prog qc [(pv a0),(.int .i64 s6.2)] eB fun r27=>br (decide (r27 > 0)) ( cl Tryz.prog qb [(pv a0),(.int .i64 s6.2)] aC fun r34=>Rec20 (IntKind.i64.wrap (s19 + 1))) ( fe a0 Rec7 s6 ())) ( fe a0 Rec7 s6 ())
def gB (a0:Ptr) (a1:Int) (K:Bool→Hp→Prop) (Rec2:Int→Hp→Prop) (s1:Int) (Rec7:(Bool × Int)→Hp→Prop) (s6:Bool × Int):Hp→Prop:=br (decide (s6.2 < a1)) ( Lp (gA a0 Rec7 s6) 0) ( br (!s6.1) ( K true) ( Rec2 (IntKind.i64.wrap (s1 + 1))))
def gy (a0:Ptr) (a1:Int) (K:Bool→Hp→Prop) (Rec34:Int→Hp→Prop) (s33:Int):Hp→Prop:=br (decide (s33 < a1)) ( cl Tryz.prog fV [(pv a0),(.int .i64 s33)] aC fun r56=>br r56 ( K false) ( Rec34 (IntKind.i64.wrap (s33 + 1)))) ( K true)
def jG (a0:Ptr) (a1:Int) (a2:Int) (K:Bool→Hp→Prop) (Rec2:Int→Hp→Prop) (s1:Int):Hp→Prop:=br (decide (s1 < a2)) ( Lp (gB a0 a1 K Rec2 s1) (false,0)) ( Lp (gy a0 a1 K) 0)
def nN (a0:Ptr) (a1:Int) (a2:Int) (K:Bool→Hp→Prop):Hp→Prop:=Lp (jG a0 a1 a2 K) 0
theorem uO (a0:Ptr) (a1:Int) (a2:Int) {K:Bool→Hp→Prop} {h:Hp} (H:nN a0 a1 a2 K h):Ct Tryz.prog gY #[(pv a0),(.int .i64 a1),(.int .i64 a2)] h fun v h'=>∃ r,v = aC r∧K r h':=aw [(pv a0),(.int .i64 a1),(.int .i64 a2)] Tryz.func29 c c c fun _=>M<|O c<|al<|M<|O c<|ay<|bE (step:=jG a0 a1 a2 K) (fun s1=>[(0,(pv a0)),(1,(.int .i64 a1)),(2,(.int .i64 a2)),(7,(.int .i64 s1))]) (fun s1=>[]) H (.cons c<|.cons c<|.cons c<|.cons c<|.nil _) .slnil fun Rec2 s1 _ H3=>al<|M<|J c<|J c<|p (cC c c)<|ad<|av c H3 (fun k4 H5=>ao<|al<|ay<|M<|O c<|al<|M<|O c<|ay<|bE (step:=gB a0 a1 K Rec2 s1) (fun s6=>[(0,(pv a0)),(1,(.int .i64 a1)),(2,(.int .i64 a2)),(7,(.int .i64 s1)),(8,(.bool s6.1)),(9,(.int .i64 s6.2))]) (fun s6=>[]) H5 (.cons c<|.cons c<|.cons c<|.cons c<|.cons c<|.cons c<|.nil _) .slnil fun Rec7 s6 _ H8=>al<|M<|J c<|J c<|p (cC c c)<|ad<|av c H8 (fun k9 H10=>ao<|al<|ay<|eo (fe a0 Rec7 s6) (fun s11=>[(0,(pv a0)),(1,(.int .i64 a1)),(2,(.int .i64 a2)),(7,(.int .i64 s1)),(8,(.bool s6.1)),(9,(.int .i64 s6.2))]) (fun s11=>[]) (M<|O c<|ay<|bE (step:=gA a0 Rec7 s6) (fun s19=>[(0,(pv a0)),(1,(.int .i64 a1)),(2,(.int .i64 a2)),(7,(.int .i64 s1)),(8,(.bool s6.1)),(9,(.int .i64 s6.2)),(10,(.int .i64 s19))]) (fun s19=>[]) H10 (.cons c<|.cons c<|.cons c<|.cons c<|.cons c<|.cons c<|.cons c<|.nil _) .slnil fun Rec20 s19 _ H21=>al<|M<|J c<|p (cC c c)<|J c<|V c c (az _) (fun g22=>wv<|ai c)<|V c c (az _) (fun g23=>wv<|ai c)<|bU H21 (fun k25 H26=>F (D k25)<|gw H26 en_73 (aT (aD c k25)<|aT (aD c k25) bQ) c fun r27 _ H27=>F (D k25)<|R (qA c c)<|p (aU c k25 c)<|ad<|av c H27 (fun k28 H29=>ao<|al<|ay<|ar<|J c<|J c<|aa<|Z H29 en_46 fun r34 _ H30=>ad<|ar<|J c<|p (bw c c)<|O c<|cR (IntKind.i64.wrap (s19 + 1)) H30 (.cons c<|.cons c<|.cons c<|.cons c<|.cons c<|.cons c<|.cons c<|.nil _) .slnil) fun k28 H29=>bj<|cG () H29 (.cons c<|.cons c<|.cons c<|.cons c<|.cons c<|.cons c<|.nil _) .slnil) fun k25 H26=>W (aR k25)<|W (aR k25)<|p (aq c k25 c)<|ad<|ev_no c c<|bj<|cG () H26 (.cons c<|.cons c<|.cons c<|.cons c<|.cons c<|.cons c<|.nil _) .slnil) fun s11 _ H12=>M<|J c<|J c<|aa<|Z H12 en_31 fun r37 _ H13=>J c<|V c c (aJ _) (fun g14=>wv<|ai c)<|p (dm c c)<|O c<|M<|J c<|J c<|aa<|Z H13 en_31 fun r43 _ H15=>ad<|av c H15 (fun k16 H17=>ar<|J c<|J c<|aa<|Z H17 en_28 fun r46 _ H18=>ad<|ar<|J c<|p (bw c c)<|O c<|cR ((r37 || s6.1),(IntKind.i64.wrap (s6.2 + 1))) H18 (.cons c<|.cons c<|.cons c<|.cons c<|.cons c<|.cons c<|.nil _) .slnil) fun k16 H17=>ao<|ar<|J c<|p (bw c c)<|O c<|cR ((r37 || s6.1),(IntKind.i64.wrap (s6.2 + 1))) H17 (.cons c<|.cons c<|.cons c<|.cons c<|.cons c<|.cons c<|.nil _) .slnil) fun k9 H10=>bj<|M<|J c<|p (cq c)<|ad<|av c H10 (fun k31 H32=>M<|O c<|aj<|Y ⟨true,c,H32⟩) fun k31 H32=>ao<|ar<|J c<|p (bw c c)<|O c<|cR (IntKind.i64.wrap (s1 + 1)) H32 (.cons c<|.cons c<|.cons c<|.cons c<|.nil _) .slnil) fun k4 H5=>bj<|al<|M<|O c<|ay<|bE (step:=gy a0 a1 K) (fun s33=>[(0,(pv a0)),(1,(.int .i64 a1)),(11,(.int .i64 s33))]) (fun s33=>[]) H5 (.cons c<|.cons c<|.cons c<|.nil _) .slnil fun Rec34 s33 _ H35=>al<|M<|J c<|J c<|p (cC c c)<|ad<|av c H35 (fun k36 H37=>ao<|al<|ay<|M<|J c<|J c<|aa<|Z H37 en_31 fun r56 _ H38=>ad<|av c H38 (fun k39 H40=>M<|O c<|aj<|Y ⟨false,c,H40⟩) fun k39 H40=>ao<|ar<|J c<|p (bw c c)<|O c<|cR (IntKind.i64.wrap (s33 + 1)) H40 (.cons c<|.cons c<|.cons c<|.nil _) .slnil) fun k36 H37=>bj<|M<|O c<|aj<|Y ⟨true,c,H37⟩
def gj (a1:Int) (K:(ab × Bool)→Hp→Prop) (r24:Sl) (Rec9:(Int × ab)→Hp→Prop) (s8:Int × ab):Hp→Prop:=br (decide (s8.1 ≥ 0)) ( ix r24 s8.1 fun q34=>ld (q34.1,q34.2 + Int.toNat s8.1 * 16 + 0) (cI .i64) fun x36=>br (x36 == a1) ( both ( ld (q34.1,q34.2 + Int.toNat s8.1 * 16 + 10) ab.C fun x43=>ld (q34.1,q34.2 + Int.toNat s8.1 * 16 + 9) (cI .i64) fun x48=>K (x43,(decide (x48 > 0)))) ( ld (q34.1,q34.2 + Int.toNat s8.1 * 16 + 9) (cI .i64) fun x48=>ld (q34.1,q34.2 + Int.toNat s8.1 * 16 + 10) ab.C fun x43=>K (x43,(decide (x48 > 0))))) ( Rec9 ((IntKind.i64.wrap (s8.1 - 1)),s8.2))) ( K ((⟨0,0⟩:ab),false))
def qO (a0:Ptr) (a1:Int) (a2:Int) (a3:ah) (K:(ab × Bool)→Hp→Prop):Hp→Prop:=cl Tryz.prog oP [(pv a0),(.int .i64 a1),(.int .i64 a2),(.agg (ah.C a3).toArray)] aC fun r16=>br (!r16) ( K ((⟨0,0⟩:ab),false)) ( cl Tryz.prog gY [(pv a0),(.int .i64 8),(.int .i64 1000)] aC fun r20=>br (!r20) ( K ((⟨0,0⟩:ab),false)) ( cl Tryz.prog fU [(pv a0)] eA fun r24=>Lp (gj a1 K r24) ((IntKind.i64.wrap ((r24.len:Int) - 1)),(⟨0,0⟩:ab))))
theorem sim_messuagelaw16_Run (a0:Ptr) (a1:Int) (a2:Int) (a3:ah) {K:(ab × Bool)→Hp→Prop} {h:Hp} (H:qO a0 a1 a2 a3 K h):Ct Tryz.prog cm #[(pv a0),(.int .i64 a1),(.int .i64 a2),(.agg (ah.C a3).toArray)] h fun v h'=>∃ r,v = aZ r∧K r h':=aw [(pv a0),(.int .i64 a1),(.int .i64 a2),(.agg (ah.C a3).toArray)] Tryz.func16 c c c fun _=>M<|aa<|cQ (l:=ah.C a3) c c c fun b7=>aa<|aI (l:=ab.C (⟨0,0⟩:ab)) cO c c fun b8=>O c<|al<|M<|J c<|J c<|J c<|bi (bC (k:=1) eT c c c c) c<|aa<|Z H en_27 fun r16 _ H1=>p (cq c)<|ad<|av c H1 (fun k2 H3=>M<|p (aY (vs:=[]) c tD)<|aa<|aO (k:=0) (vs:=ab.C (⟨0,0⟩:ab)) bI c c c c c c c<|O c<|aj<|bv (bN c (bD (k:=0) c cH c c)<|bY c) ⟨((⟨0,0⟩:ab),false),c,H3⟩) fun k2 H3=>ao<|al<|M<|J c<|aa<|Z H3 en_29 fun r20 _ H4=>p (cq c)<|ad<|av c H4 (fun k5 H6=>M<|p (aY (vs:=[]) c tD)<|aa<|aO (k:=0) (vs:=ab.C (⟨0,0⟩:ab)) bI c c c c c c c<|O c<|aj<|bv (bN c (bD (k:=0) c cH c c)<|bY c) ⟨((⟨0,0⟩:ab),false),c,H6⟩) fun k5 H6=>ao<|M<|J c<|aa<|Z H6 en_20 fun r24 _ H7=>O c<|al<|M<|J c<|p (dA c Tryz.underlying42 c)<|p (v_sub c c)<|O c<|ay<|bE (step:=gj a1 K r24) (fun s8=>[(1,(.int .i64 a1)),(8,(.pointer (some ⟨b8,0,none⟩))),(10,(sv r24)),(11,(.int .i64 s8.1))]) (fun s8=>[bx b8 30 (ab.C s8.2)]) H7 (.cons c<|.cons c<|.cons c<|.cons c<|.nil _) (.cons_cons _<|.cons _ .slnil) fun Rec9 s8 _ H10=>al<|M<|J c<|p (jN c c)<|ad<|av c H10 (fun k11 H12=>ao<|al<|ay<|M<|J c<|J c<|ct H12 fun q34 e13 h14 H15=>p (bq sM (aN c<|bc e13) c h14)<|p (ae tt c)<|aa<|aW H15 bb c (fun _=>c) c fun x36 H16=>J c<|p (bO c c)<|ad<|av c H16 (fun k17 H18=>al<|bm (n:=13) [] cx c (.cons _ .slnil)<|U 0 c (ai c)<|U 1 c (ai c)<|U 2 c (bq sM (aN c<|bc e13) c h14)<|U 3 c (ae kA c)<|U 5 c (ai c)<|U 6 c (ai c)<|U 7 c (bq sM (aN c<|bc e13) c h14)<|U 8 c (ae qW c)<|jI H18 fun H19_1 H19_2=>jJ (i:=4) (j:=9) (by kernel_rfl) (cK c c<|gT H19_1 cH c (fun _=>c) c fun x43 H20=>⟨.cons _ .slnil,jJ (i:=9) (j:=11) (by kernel_rfl) (cK c c<|aW H20 bb c (fun _=>c) c fun x48 H22=>⟨.cons _ .slnil,U 10 c (qA c c)<|G 11 c<|aO (k:=0) (vs:=ab.C x43) bI c c c c c c c ⟨.cons _ .slnil,U 12 c (au c)<|aV (by kernel_rfl)<|aj<|bv (bN c (bD (k:=0) c cH c c)<|bY c) ⟨(x43,(decide (x48 > 0))),c,H22⟩⟩⟩)<|cK c c<|aO (k:=0) (vs:=ab.C x43) bI c c c c c c c ⟨.cons _ .slnil,bH (i:=9) (fun _ _ _ _ hh=>hh) H20 c (by kernel_rfl) bb c (fun _=>c) c fun x48 H22=>U 10 c (qA c c)<|U 12 c (au c)<|aV (by kernel_rfl)<|aj<|bv (bN c (bD (k:=0) c cH c c)<|bY c) ⟨(x43,(decide (x48 > 0))),c,H22⟩⟩⟩)<|cK c c<|aW H19_2 bb c (fun _=>c) c fun x48 H20=>⟨.cons _ .slnil,U 10 c (qA c c)<|xn (i:=4) (fun _ _ _ _ hh=>hh) H20 c (by kernel_rfl) cH c (fun _=>c) c fun x43 H21=>G 11 c<|aO (k:=0) (vs:=ab.C x43) bI c c c c c c c ⟨.cons _ .slnil,U 12 c (au c)<|aV (by kernel_rfl)<|aj<|bv (bN c (bD (k:=0) c cH c c)<|bY c) ⟨(x43,(decide (x48 > 0))),c,H21⟩⟩⟩) fun k17 H18=>ao<|ar<|J c<|p (v_sub c c)<|O c<|cR ((IntKind.i64.wrap (s8.1 - 1)),s8.2) H18 (.cons c<|.cons c<|.cons c<|.cons c<|.nil _)<|.cons_cons _ .slnil) fun k11 H12=>bj<|M<|p (aY (vs:=[]) c tD)<|aa<|aO (k:=0) (vs:=ab.C (⟨0,0⟩:ab)) bI c c c c c c c<|O c<|aj<|bv (bN c (bD (k:=0) c cH c c)<|bY c) ⟨((⟨0,0⟩:ab),false),c,H12⟩
def oD (K:Bool→Hp→Prop):Hp→Prop:=cl Tryz.prog xc [(.agg (aB.C (⟨2,2,3⟩:aB)).toArray)] ku fun r21=>br r21.isNone ( K false) ( cl Tryz.prog cm [(pv r21),(.int .i64 0),(.int .i64 0),(.agg (ah.C (⟨1,1,0,0,0⟩:ah)).toArray)] aZ fun r27=>cl Tryz.prog cm [(pv r21),(.int .i64 0),(.int .i64 0),(.agg (ah.C (⟨6,4,1,3,0⟩:ah)).toArray)] aZ fun r33=>cl Tryz.prog cm [(pv r21),(.int .i64 1),(.int .i64 0),(.agg (ah.C (⟨21,4,2,9,0⟩:ah)).toArray)] aZ fun r39=>cl Tryz.prog cm [(pv r21),(.int .i64 0),(.int .i64 0),(.agg (ah.C (⟨20,4,2,0,0⟩:ah)).toArray)] aZ fun r45=>cl Tryz.prog cm [(pv r21),(.int .i64 0),(.int .i64 0),(.agg (ah.C (⟨7,4,0,0,0⟩:ah)).toArray)] aZ fun r51=>cl Tryz.prog fU [(pv r21)] eA fun r55=>cl Tryz.prog oQ [(sv r55),(.agg (aB.C (⟨2,2,3⟩:aB)).toArray)] bL fun r59=>cl Tryz.prog oR [(sv r55),(.agg (aB.C (⟨2,2,3⟩:aB)).toArray)] bL fun r65=>cl Tryz.prog uS [(.int .i64 2),(.int .i64 3)] og fun r68=>cl Tryz.prog kP [] aC fun r69=>br (((((((((((((((r69 && r27.2) && r33.2) && r39.2) && r45.2) && r51.2) && (r27.1.fErr == 0)) && (r33.1.fErr == 0)) && (r39.1.fErr == 0)) && (r45.1.fVal == 9)) && (r51.1.fErr == 0)) && ((r55.len:Int) == 5)) && (r59.1 == (-1))) && r59.2) && (r65.1 == (-1))) && r65.2) ( cl Tryz.prog xd [(sv r55),(.agg (aB.C (⟨2,2,3⟩:aB)).toArray)] aC fun r132=>br r132 ( cl Tryz.prog oS [(sv r55)] cu fun r136=>br (((r136.len:Int) == 5) && ((r68.len:Int) == 12)) ( cl Tryz.prog n_fair_Fair [(sv r68),(.int .i64 2),(.int .i64 5)] aC fun r147=>br r147 ( cl Tryz.prog n_twin_View [(sv r55),(.int .i64 0)] mV fun r151=>br ((r151.len:Int) == 5) ( cl Tryz.prog qp [(sv r55),(.agg (aB.C (⟨2,2,3⟩:aB)).toArray)] aC fun r158=>K r158) ( K false)) ( K false)) ( K false)) ( K false)) ( K false))
theorem vj {K:Bool→Hp→Prop} {h:Hp} (H:oD K h):Ct Tryz.prog kN #[] h fun v h'=>∃ r,v = aC r∧K r h':=aw [] Tryz.func14 c c c fun _=>M<|O c<|M<|p (aY c<|tE 2 2 3)<|aa<|aI (l:=aB.C (⟨0,0,0⟩:aB)) zero_25 c c fun b1=>aa<|aO (k:=0) (vs:=aB.C (⟨2,2,3⟩:aB)) inf_25 c c c c c c c<|ad<|M<|bi (bC (k:=0) pf c c c c) c<|aa<|Z H en_23 fun r21 _ H1=>O c<|al<|M<|J c<|p (cn Tryz.underlying26 c)<|ad<|av c H1 (fun k2 H3=>M<|O c<|aj<|Y ⟨false,c,H3⟩) fun k2 H3=>ao<|M<|J c<|p (aY c<|je 1 1)<|aa<|Z H3 en_16 fun r27 _ H4=>J c<|p (ak c c)<|p (ak c c)<|aa<|aI (l:=ab.C (⟨0,0⟩:ab)) cO c c fun b3=>aa<|aO (k:=0) (vs:=ab.C r27.1) bI c c c c c c c<|O c<|M<|J c<|p (aY c<|fo 6 4 1 3)<|aa<|Z H4 en_16 fun r33 _ H5=>J c<|p (ak c c)<|p (ak c c)<|aa<|aI (l:=ab.C (⟨0,0⟩:ab)) cO c c fun b5=>aa<|aO (k:=0) (vs:=ab.C r33.1) bI c c c c c c c<|O c<|M<|J c<|p (aY c<|fo 21 4 2 9)<|aa<|Z H5 en_16 fun r39 _ H6=>J c<|p (ak c c)<|p (ak c c)<|aa<|aI (l:=ab.C (⟨0,0⟩:ab)) cO c c fun b7=>aa<|aO (k:=0) (vs:=ab.C r39.1) bI c c c c c c c<|O c<|M<|J c<|p (aY c<|lO 20 4 2)<|aa<|Z H6 en_16 fun r45 _ H7=>J c<|p (ak c c)<|p (ak c c)<|aa<|aI (l:=ab.C (⟨0,0⟩:ab)) cO c c fun b9=>aa<|aO (k:=0) (vs:=ab.C r45.1) bI c c c c c c c<|O c<|M<|J c<|p (aY c<|je 7 4)<|aa<|Z H7 en_16 fun r51 _ H8=>J c<|p (ak c c)<|p (ak c c)<|aa<|aI (l:=ab.C (⟨0,0⟩:ab)) cO c c fun b11=>aa<|aO (k:=0) (vs:=ab.C r51.1) bI c c c c c c c<|O c<|M<|J c<|aa<|Z H8 en_20 fun r55 _ H9=>O c<|M<|J c<|bi (bC (k:=5) pf c c c c) c<|aa<|Z H9 en_47 fun r59 _ H10=>J c<|p (ak c c)<|p (ak c c)<|p (au c)<|O c<|M<|J c<|bi (bC (k:=5) pf c c c c) c<|aa<|Z H10 en_48 fun r65 _ H11=>J c<|p (ak c c)<|p (ak c c)<|p (au c)<|O c<|M<|aa<|Z H11 en_49 fun r68 _ H12=>O c<|M<|aa<|Z H12 en_50 fun r69 _ H13=>J c<|V c c (az _) (fun g14=>wv<|ai c)<|p (bS c c)<|J c<|V c c (az _) (fun g15=>wv<|ai c)<|p (bS c c)<|J c<|V c c (az _) (fun g16=>wv<|ai c)<|p (bS c c)<|J c<|V c c (az _) (fun g17=>wv<|ai c)<|p (bS c c)<|J c<|V c c (az _) (fun g18=>wv<|ai c)<|p (bS c c)<|J c<|V c c (az _) (fun g19=>wv<|ae gQ c)<|V c c (az _) (fun g20=>cv<|bf (k:=4) ll (aD c g20) c c)<|V c c (az _) (fun g21=>wv<|bO (aD c g21) c)<|p (bS c c)<|J c<|V c c (az _) (fun g22=>wv<|ae gQ c)<|V c c (az _) (fun g23=>cv<|bf (k:=3) ll (aD c g23) c c)<|V c c (az _) (fun g24=>wv<|bO (aD c g24) c)<|p (bS c c)<|J c<|V c c (az _) (fun g25=>wv<|ae gQ c)<|V c c (az _) (fun g26=>cv<|bf (k:=2) ll (aD c g26) c c)<|V c c (az _) (fun g27=>wv<|bO (aD c g27) c)<|p (bS c c)<|J c<|V c c (az _) (fun g28=>wv<|ae fld_30_1 c)<|V c c (az _) (fun g29=>cv<|bf (k:=1) cz (aD c g29) c c)<|V c c (az _) (fun g30=>wv<|bO (aD c g30) c)<|p (bS c c)<|J c<|V c c (az _) (fun g31=>wv<|ae gQ c)<|V c c (az _) (fun g32=>cv<|bf (k:=0) ll (aD c g32) c c)<|V c c (az _) (fun g33=>wv<|bO (aD c g33) c)<|p (bS c c)<|J c<|V c c (az _) (fun g34=>wv<|ai c)<|V c c (az _) (fun g35=>wv<|dA c Tryz.underlying42<|aD c g35)<|V c c (az _) (fun g36=>wv<|bO (aD c g36) c)<|p (bS c c)<|J c<|V c c (az _) (fun g37=>wv<|ai c)<|V c c (az _) (fun g38=>wv<|bO (aD c g38) c)<|p (bS c c)<|J c<|V c c (az _) (fun g39=>wv<|ai c)<|p (bS c c)<|J c<|V c c (az _) (fun g40=>wv<|ai c)<|V c c (az _) (fun g41=>wv<|bO (aD c g41) c)<|p (bS c c)<|J c<|V c c (az _) (fun g42=>wv<|ai c)<|p (bS c c)<|J c<|V c c (az _) (fun g43=>wv<|ai c)<|V c c (az _) (fun g44=>cv<|bC (k:=5) pf c c c c)<|bU H13 (fun k46 H47=>F (D k46)<|gw H47 en_25 (aT (aD c k46)<|aT (aD c k46) bQ) c fun r132 _ H48=>p (aU c k46 c)<|J c<|V c c (az _) (fun g49=>wv<|ai c)<|bU H48 (fun k51 H52=>F (D k51)<|gw H52 en_44 (aT (aD c k51) bQ) c fun r136 _ H53=>F (D k51)<|R (dA c Tryz.underlying39 c)<|F (D k51)<|R (bO c c)<|p (aU c k51 c)<|J c<|V c c (az _) (fun g54=>wv<|ai c)<|V c c (az _) (fun g55=>wv<|dA c Tryz.underlying45<|aD c g55)<|V c c (az _) (fun g56=>wv<|bO (aD c g56) c)<|p (bS c c)<|J c<|V c c (az _) (fun g57=>wv<|ai c)<|bU H53 (fun k59 H60=>F (D k59)<|gw H60 en_51 (aT (aD c k59)<|aT c<|aT c bQ) c fun r147 _ H61=>p (aU c k59 c)<|J c<|V c c (az _) (fun g62=>wv<|ai c)<|bU H61 (fun k64 H65=>F (D k64)<|gw H65 en_52 (aT (aD c k64)<|aT c bQ) c fun r151 _ H66=>F (D k64)<|R (dA c Tryz.underlying101 c)<|F (D k64)<|R (bO c c)<|p (aU c k64 c)<|J c<|V c c (az _) (fun g67=>wv<|ai c)<|V c c (az _) (fun g68=>cv<|bC (k:=5) pf c c c c)<|bU H66 (fun k70 H71=>F (D k70)<|gw H71 en_19 (aT (aD c k70)<|aT (aD c k70) bQ) c fun r158 _ H72=>p (aU c k70 c)<|O c<|aj<|Y ⟨r158,c,H72⟩) fun k70 H71=>W (aR k70)<|p (aq c k70 c)<|O c<|aj<|Y ⟨false,c,H71⟩) fun k64 H65=>W (aR k64)<|W (aR k64)<|W (aR k64)<|p (aq c k64 c)<|J c<|W c<|W c<|W c<|p (aq c c c)<|O c<|aj<|Y ⟨false,c,H65⟩) fun k59 H60=>W (aR k59)<|p (aq c k59 c)<|J c<|W c<|W c<|W c<|W c<|p (aq c c c)<|J c<|W c<|W c<|W c<|p (aq c c c)<|O c<|aj<|Y ⟨false,c,H60⟩) fun k51 H52=>W (aR k51)<|W (aR k51)<|W (aR k51)<|p (aq c k51 c)<|J c<|W c<|W c<|W c<|p (aq c c c)<|J c<|W c<|W c<|p (aq c c c)<|J c<|W c<|W c<|W c<|W c<|p (aq c c c)<|J c<|W c<|W c<|W c<|p (aq c c c)<|O c<|aj<|Y ⟨false,c,H52⟩) fun k46 H47=>W (aR k46)<|p (aq c k46 c)<|J c<|W c<|W c<|W c<|W c<|p (aq c c c)<|J c<|W c<|W c<|W c<|p (aq c c c)<|J c<|W c<|W c<|p (aq c c c)<|J c<|W c<|W c<|W c<|W c<|p (aq c c c)<|J c<|W c<|W c<|W c<|p (aq c c c)<|O c<|aj<|Y ⟨false,c,H47⟩
def jF (K:Ptr→Hp→Prop) (r11:Ptr) (v18:Sl) (Rec6:Int→Hp→Prop) (s5:Int):Hp→Prop:=br (decide (s5 < (v18.len:Int))) ( ix v18 s5 fun q22=>ld (q22.1,q22.2 + Int.toNat s5 * 5) ah.C fun x23=>cl Tryz.prog cm [(pv r11),(.int .i64 0),(.int .i64 0),(.agg (ah.C x23).toArray)] aZ fun r27=>br ((!r27.2) || (r27.1.fErr != 0)) ( K none) ( Rec6 (IntKind.i64.wrap (s5 + 1)))) ( K r11)
def nM (a0:aB) (a1:Int) (K:Ptr→Hp→Prop):Hp→Prop:=cl Tryz.prog xc [(.agg (aB.C a0).toArray)] ku fun r11=>br r11.isNone ( K none) ( hpv Tryz.prog (Instr.buildSlice t_Sapi_Call 3 #[(0,(.agg (ah.C (⟨1,0,0,0,0⟩:ah)).toArray)),(1,(.agg (ah.C (⟨6,0,0,3,0⟩:ah)).toArray)),(2,(.agg (ah.C (⟨21,0,0,a1,0⟩:ah)).toArray))]) R_Sapi_Call fun (v18:Sl)=>Lp (jF K r11 v18) 0)
theorem uN (a0:aB) (a1:Int) {K:Ptr→Hp→Prop} {h:Hp} (H:nM a0 a1 K h):Ct Tryz.prog ki #[(.agg (aB.C a0).toArray),(.int .u64 a1)] h fun v h'=>∃ r,v = ku r∧K r h':=aw [(.agg (aB.C a0).toArray),(.int .u64 a1)] Tryz.func15 c c c fun _=>M<|aa<|cQ (l:=aB.C a0) c c c fun b2=>O c<|M<|bi (bC (k:=0) pf c c c c) c<|aa<|Z H en_23 fun r11 _ H1=>O c<|al<|M<|J c<|p (cn Tryz.underlying26 c)<|ad<|av c H1 (fun k2 H3=>M<|O c<|aj<|Y ⟨none,c,H3⟩) fun k2 H3=>ao<|al<|M<|p (aY c<|je 1 0)<|p (aY c<|fo 6 0 0 3)<|J c<|p (aY c<|fo 21 0 0 a1)<|aa<|aS H3 (bo (vs:=[(.agg (ah.C (⟨1,0,0,0,0⟩:ah)).toArray),(.agg (ah.C (⟨6,0,0,3,0⟩:ah)).toArray),(.agg (ah.C (⟨21,0,0,a1,0⟩:ah)).toArray)]) c) c fun v18 _ H4=>p (dA c Tryz.underlying69 c)<|J c<|ad<|ay<|bE (step:=jF K r11 v18) (fun s5=>[(5,(pv r11)),(18,(sv v18)),(19,(.int .i64 (v18.len:Int))),(20,(.int .i64 s5))]) (fun s5=>[]) H4 (.cons c<|.cons c<|.cons c<|.cons c<|.nil _) (.cons _ .slnil) fun Rec6 s5 _ H7=>M<|p (cC c c)<|ad<|al<|av c H7 (fun k8 H9=>ao<|al<|ay<|M<|ct H9 fun q22 e10 h11 H12=>p (bq slc_69 (aN c<|bc e10) c h11)<|aa<|gT H12 eT c (fun _=>c) c fun x23 H13=>aa<|aI (l:=ah.C (⟨0,0,0,0,0⟩:ah)) zero_34 c c fun b7=>aa<|aO (k:=0) (vs:=ah.C x23) inf_34 c c c c c c c<|ad<|M<|J c<|bi (bC (k:=0) eT c c c c) c<|aa<|Z H13 en_16 fun r27 _ H14=>J c<|p (ak c c)<|p (ak c c)<|aa<|aI (l:=ab.C (⟨0,0⟩:ab)) cO c c fun b8=>aa<|aO (k:=0) (vs:=ab.C r27.1) bI c c c c c c c<|O c<|M<|J c<|p (cq c)<|J c<|V c c (aJ _) (fun g15=>wv<|ae gQ c)<|V c c (aJ _) (fun g16=>cv<|bf (k:=0) ll (aD c g16) c c)<|V c c (aJ _) (fun g17=>wv<|nh (aD c g17) c)<|p (dm c c)<|ad<|av c H14 (fun k18 H19=>M<|O c<|aj<|Y ⟨none,c,H19⟩) fun k18 H19=>ao<|ar<|p (bw c c)<|J c<|ad<|cR (IntKind.i64.wrap (s5 + 1)) H19 (.cons c<|.cons c<|.cons c<|.cons c<|.nil _)<|.cons _<|.cons _ .slnil) fun k8 H9=>bj<|M<|J c<|O c<|aj<|Y ⟨r11,c,H9⟩
def eQ (a0:Int) (a2:Bool) (K:Bool→Hp→Prop) (r38:Ptr) (Rec43:Int→Hp→Prop) (s42:Int):Hp→Prop:=br (decide (s42 < (IntKind.i64.wrap (2 + ((IntKind.i64.wrap ((a0.tmod 3) + 3)).tmod 3))))) ( cl Tryz.prog cm [(pv r38),(.int .i64 s42),(.int .i64 1),(.agg (ah.C (⟨20,6,0,0,0⟩:ah)).toArray)] aZ fun r114=>br ((!r114.2) || (r114.1.fErr != 7)) ( K false) ( Rec43 (IntKind.i64.wrap (s42 + 1)))) ( cl Tryz.prog rj [(pv r38),(.int .i64 1),(.int .i64 3)] cr fun r126=>br (!r126.2) ( cl Tryz.prog qd [(pv r38)] cu fun r133=>br (((r133.len:Int) == 2) == a2) ( cl Tryz.prog fU [(pv r38)] eA fun r141=>cl Tryz.prog qp [(sv r141),(.agg (aB.C (⟨(IntKind.i64.wrap (2 + ((IntKind.i64.wrap ((a0.tmod 3) + 3)).tmod 3))),2,2⟩:aB)).toArray)] aC fun r143=>K r143) ( K false)) ( K false))
def eR (a0:Int) (a2:Bool) (K:Bool→Hp→Prop) (r38:Ptr) (r93:ab × Bool) (s34:Int):Hp→Prop:=br ((!r93.2) || (!(ab.eqb r93.1 (⟨0,s34⟩:ab)))) ( K false) ( Lp (eQ a0 a2 K r38) 0)
def dK (a0:Int) (a2:Bool) (K:Bool→Hp→Prop) (r38:Ptr) (s31:ah):Hp→Prop:=cl Tryz.prog cm [(pv r38),(.int .i64 0),(.int .i64 0),(.agg (ah.C s31).toArray)] aZ fun r93=>br a2 ( eR a0 a2 K r38 r93 2) ( eR a0 a2 K r38 r93 1)
def gI (a0:Int) (a1:Int) (a2:Bool) (K:Bool→Hp→Prop) (r38:Ptr) (Rec20:Int→Hp→Prop) (s19:Int):Hp→Prop:=br (decide (s19 < (IntKind.i64.wrap (2 + ((IntKind.i64.wrap ((a0.tmod 3) + 3)).tmod 3))))) ( cl Tryz.prog cm [(pv r38),(.int .i64 s19),(.int .i64 1),(.agg (ah.C (⟨20,6,0,0,0⟩:ah)).toArray)] aZ fun r76=>br ((!r76.2) || (r76.1.fVal != a1)) ( K false) ( Rec20 (IntKind.i64.wrap (s19 + 1)))) ( br a2 ( dK a0 a2 K r38 ({ (⟨4,0,0,0,0⟩:ah) with e0:=5 }:ah)) ( dK a0 a2 K r38 (⟨4,0,0,0,0⟩:ah)))
def kx (a0:Int) (a1:Int) (a2:Bool) (K:Bool→Hp→Prop):Hp→Prop:=cl Tryz.prog kN [] aC fun r26=>br (!r26) ( K false) ( cl Tryz.prog ki [(.agg (aB.C (⟨(IntKind.i64.wrap (2 + ((IntKind.i64.wrap ((a0.tmod 3) + 3)).tmod 3))),2,2⟩:aB)).toArray),(.int .u64 a1)] ku fun r38=>br r38.isNone ( K false) ( cl Tryz.prog cm [(pv r38),(.int .i64 0),(.int .i64 0),(.agg (ah.C (⟨3,0,1,3,1⟩:ah)).toArray)] aZ fun r44=>br ((!r44.2) || (r44.1.fErr != 0)) ( K false) ( cl Tryz.prog cm [(pv r38),(.int .i64 1),(.int .i64 1),(.agg (ah.C (⟨6,6,3,1,0⟩:ah)).toArray)] aZ fun r57=>br ((!r57.2) || (r57.1.fErr != 0)) ( K false) ( Lp (gI a0 a1 a2 K r38) 0))))
theorem qI (a0:Int) (a1:Int) (a2:Bool) {K:Bool→Hp→Prop} {h:Hp} (H:kx a0 a1 a2 K h):Ct Tryz.prog kZ #[(.int .i64 a0),(.int .u64 a1),(.bool a2)] h fun v h'=>∃ r,v = aC r∧K r h':=aw [(.int .i64 a0),(.int .u64 a1),(.bool a2)] Tryz.func3 c c c fun _=>M<|O c<|M<|aa<|Z H en_14 fun r26 _ H1=>O c<|al<|M<|J c<|p (cq c)<|ad<|av c H1 (fun k2 H3=>M<|O c<|aj<|Y ⟨false,c,H3⟩) fun k2 H3=>ao<|M<|J c<|p (v_rem c c (by decide))<|p (bw c c)<|p (v_rem c c (by decide))<|p (bw c c)<|O c<|M<|J c<|p (aY c<|tE (IntKind.i64.wrap (2 + ((IntKind.i64.wrap ((a0.tmod 3) + 3)).tmod 3))) 2 2)<|aa<|aI (l:=aB.C (⟨0,0,0⟩:aB)) zero_25 c c fun b8=>aa<|aO (k:=0) (vs:=aB.C (⟨(IntKind.i64.wrap (2 + ((IntKind.i64.wrap ((a0.tmod 3) + 3)).tmod 3))),2,2⟩:aB)) inf_25 c c c c c c c<|ad<|M<|bi (bC (k:=0) pf c c c c) c<|J c<|aa<|Z H3 en_15 fun r38 _ H4=>O c<|al<|M<|J c<|p (cn Tryz.underlying26 c)<|ad<|av c H4 (fun k5 H6=>M<|O c<|aj<|Y ⟨false,c,H6⟩) fun k5 H6=>ao<|al<|M<|J c<|p (aY c<|build_34_0_1_2_3_4 3 0 1 3 1)<|aa<|Z H6 en_16 fun r44 _ H7=>J c<|p (ak c c)<|p (ak c c)<|aa<|aI (l:=ab.C (⟨0,0⟩:ab)) cO c c fun b10=>aa<|aO (k:=0) (vs:=ab.C r44.1) bI c c c c c c c<|O c<|M<|J c<|p (cq c)<|J c<|V c c (aJ _) (fun g8=>wv<|ae gQ c)<|V c c (aJ _) (fun g9=>cv<|bf (k:=0) ll (aD c g9) c c)<|V c c (aJ _) (fun g10=>wv<|nh (aD c g10) c)<|p (dm c c)<|ad<|av c H7 (fun k11 H12=>M<|O c<|aj<|Y ⟨false,c,H12⟩) fun k11 H12=>ao<|al<|M<|J c<|p (aY c<|fo 6 6 3 1)<|aa<|Z H12 en_16 fun r57 _ H13=>J c<|p (ak c c)<|p (ak c c)<|aa<|aI (l:=ab.C (⟨0,0⟩:ab)) cO c c fun b12=>aa<|aO (k:=0) (vs:=ab.C r57.1) bI c c c c c c c<|O c<|M<|J c<|p (cq c)<|J c<|V c c (aJ _) (fun g14=>wv<|ae gQ c)<|V c c (aJ _) (fun g15=>cv<|bf (k:=0) ll (aD c g15) c c)<|V c c (aJ _) (fun g16=>wv<|nh (aD c g16) c)<|p (dm c c)<|ad<|av c H13 (fun k17 H18=>M<|O c<|aj<|Y ⟨false,c,H18⟩) fun k17 H18=>ao<|al<|M<|O c<|ay<|bE (step:=gI a0 a1 a2 K r38) (fun s19=>[(0,(.int .i64 (IntKind.i64.wrap (2 + ((IntKind.i64.wrap ((a0.tmod 3) + 3)).tmod 3))))),(1,(.int .u64 a1)),(2,(.bool a2)),(8,(.pointer (some ⟨b8,0,none⟩))),(9,(pv r38)),(14,(.int .i64 s19))]) (fun s19=>[bx b8 25 (aB.C (⟨(IntKind.i64.wrap (2 + ((IntKind.i64.wrap ((a0.tmod 3) + 3)).tmod 3))),2,2⟩:aB))]) H18 (.cons c<|.cons c<|.cons c<|.cons c<|.cons c<|.cons c<|.nil _) (.cons _<|.cons _<|.cons_cons _ .slnil) fun Rec20 s19 _ H21=>al<|M<|J c<|J c<|p (cC c c)<|ad<|av c H21 (fun k22 H23=>ao<|al<|ay<|M<|J c<|J c<|p (aY c<|lO 20 6 0)<|aa<|Z H23 en_16 fun r76 _ H24=>J c<|p (ak c c)<|p (ak c c)<|aa<|aI (l:=ab.C (⟨0,0⟩:ab)) cO c c fun b15=>aa<|aO (k:=0) (vs:=ab.C r76.1) bI c c c c c c c<|O c<|M<|J c<|p (cq c)<|J c<|V c c (aJ _) (fun g25=>wv<|ae fld_30_1 c)<|V c c (aJ _) (fun g26=>cv<|bf (k:=0) cz (aD c g26) c c)<|V c c (aJ _) (fun g27=>wv<|ai c)<|V c c (aJ _) (fun g28=>wv<|nh (aD c g28)<|aD c g28)<|p (dm c c)<|ad<|av c H24 (fun k29 H30=>M<|O c<|aj<|Y ⟨false,c,H30⟩) fun k29 H30=>ao<|ar<|J c<|p (bw c c)<|O c<|cR (IntKind.i64.wrap (s19 + 1)) H30 (.cons c<|.cons c<|.cons c<|.cons c<|.cons c<|.cons c<|.nil _)<|.cons _<|.cons_cons _ .slnil) fun k22 H23=>bj<|M<|p (aY c<|je 4 0)<|aa<|aI (l:=ah.C (⟨0,0,0,0,0⟩:ah)) zero_34 c c fun b17=>aa<|aO (k:=0) (vs:=ah.C (⟨4,0,0,0,0⟩:ah)) inf_34 c c c c c c c<|ad<|eo (dK a0 a2 K r38) (fun s31=>[(0,(.int .i64 (IntKind.i64.wrap (2 + ((IntKind.i64.wrap ((a0.tmod 3) + 3)).tmod 3))))),(2,(.bool a2)),(8,(.pointer (some ⟨b8,0,none⟩))),(9,(pv r38)),(17,(.pointer (some ⟨b17,0,none⟩)))]) (fun s31=>[bx b17 34 (ah.C s31),bx b8 25 (aB.C (⟨(IntKind.i64.wrap (2 + ((IntKind.i64.wrap ((a0.tmod 3) + 3)).tmod 3))),2,2⟩:aB))]) (M<|J c<|ad<|av c H23 (fun k63 H64=>ar<|p (bz de c c (by decide))<|aa<|to_stB (k:=0) inf_22 c c c c c c c (show _ = (ah.C ({ (⟨4,0,0,0,0⟩:ah) with e0:=5 }:ah)) from rfl)<|ad<|cG ({ (⟨4,0,0,0,0⟩:ah) with e0:=5 }:ah) H64 (.cons c<|.cons c<|.cons c<|.cons c<|.cons c<|.nil _)<|.cons_cons _<|.cons_cons _ .slnil) fun k63 H64=>ao<|cG (⟨4,0,0,0,0⟩:ah) H64 (.cons c<|.cons c<|.cons c<|.cons c<|.cons c<|.nil _)<|.cons_cons _<|.cons_cons _ .slnil) fun s31 _ H32=>M<|J c<|bi (bC (k:=0) eT c c c c) c<|aa<|Z H32 en_16 fun r93 _ H33=>J c<|p (ak c c)<|p (ak c c)<|aa<|aI (l:=ab.C (⟨0,0⟩:ab)) cO c c fun b18=>aa<|aO (k:=0) (vs:=ab.C r93.1) bI c c c c c c c<|O c<|M<|O c<|eo (eR a0 a2 K r38 r93) (fun s34=>[(0,(.int .i64 (IntKind.i64.wrap (2 + ((IntKind.i64.wrap ((a0.tmod 3) + 3)).tmod 3))))),(2,(.bool a2)),(8,(.pointer (some ⟨b8,0,none⟩))),(9,(pv r38)),(18,(.pointer (some ⟨b18,0,none⟩))),(19,(.bool r93.2)),(20,(.int .u64 s34))]) (fun s34=>[bx b18 30 (ab.C r93.1),bx b8 25 (aB.C (⟨(IntKind.i64.wrap (2 + ((IntKind.i64.wrap ((a0.tmod 3) + 3)).tmod 3))),2,2⟩:aB))]) (M<|J c<|ad<|av c H33 (fun k61 H62=>ar<|O c<|cG 2 H62 (.cons c<|.cons c<|.cons c<|.cons c<|.cons c<|.cons c<|.cons c<|.nil _)<|.cons_cons _<|.cons _<|.cons_cons _ .slnil) fun k61 H62=>ao<|cG 1 H62 (.cons c<|.cons c<|.cons c<|.cons c<|.cons c<|.cons c<|.cons c<|.nil _)<|.cons_cons _<|.cons _<|.cons_cons _ .slnil) fun s34 _ H35=>al<|M<|J c<|p (cq c)<|J c<|V c c (aJ _) (fun g36=>cv<|bC (k:=0) cH c c c c)<|V c c (aJ _) (fun g37=>wv<|ai c)<|V c c (aJ _) (fun g38=>wv<|aY (aT (aD c g38) bQ)<|jm s34)<|V c c (aJ _) (fun g39=>wv<|v_neA eqg_30 (eqr_30 9998 _ _) (aD c g39)<|aD c g39)<|p (dm c c)<|ad<|av c H35 (fun k40 H41=>M<|O c<|aj<|Y ⟨false,c,H41⟩) fun k40 H41=>ao<|al<|M<|O c<|ay<|bE (step:=eQ a0 a2 K r38) (fun s42=>[(0,(.int .i64 (IntKind.i64.wrap (2 + ((IntKind.i64.wrap ((a0.tmod 3) + 3)).tmod 3))))),(2,(.bool a2)),(8,(.pointer (some ⟨b8,0,none⟩))),(9,(pv r38)),(21,(.int .i64 s42))]) (fun s42=>[bx b8 25 (aB.C (⟨(IntKind.i64.wrap (2 + ((IntKind.i64.wrap ((a0.tmod 3) + 3)).tmod 3))),2,2⟩:aB))]) H41 (.cons c<|.cons c<|.cons c<|.cons c<|.cons c<|.nil _) (.cons _<|.cons_cons _ .slnil) fun Rec43 s42 _ H44=>al<|M<|J c<|J c<|p (cC c c)<|ad<|av c H44 (fun k45 H46=>ao<|al<|ay<|M<|J c<|J c<|p (aY c<|lO 20 6 0)<|aa<|Z H46 en_16 fun r114 _ H47=>J c<|p (ak c c)<|p (ak c c)<|aa<|aI (l:=ab.C (⟨0,0⟩:ab)) cO c c fun b22=>aa<|aO (k:=0) (vs:=ab.C r114.1) bI c c c c c c c<|O c<|M<|J c<|p (cq c)<|J c<|V c c (aJ _) (fun g48=>wv<|ae gQ c)<|V c c (aJ _) (fun g49=>cv<|bf (k:=0) ll (aD c g49) c c)<|V c c (aJ _) (fun g50=>wv<|nh (aD c g50) c)<|p (dm c c)<|ad<|av c H47 (fun k51 H52=>M<|O c<|aj<|Y ⟨false,c,H52⟩) fun k51 H52=>ao<|ar<|J c<|p (bw c c)<|O c<|cR (IntKind.i64.wrap (s42 + 1)) H52 (.cons c<|.cons c<|.cons c<|.cons c<|.cons c<|.nil _)<|.cons _<|.cons_cons _ .slnil) fun k45 H46=>bj<|M<|J c<|aa<|Z H46 en_17 fun r126 _ H53=>J c<|p (ak c c)<|p (ak c c)<|aa<|aI (l:=ax.C (⟨0,0,0,0⟩:ax)) gt c c fun b24=>aa<|aO (k:=0) (vs:=ax.C r126.1) fM c c c c c c c<|O c<|al<|bm (n:=17) [bx b8 25 (aB.C (⟨(IntKind.i64.wrap (2 + ((IntKind.i64.wrap ((a0.tmod 3) + 3)).tmod 3))),2,2⟩:aB))] cx c (.cons _<|.cons_cons _ .slnil)<|U 0 c (ai c)<|U 1 c (cq c)<|U 2 c (ai c)<|nA H53 (fun k54 H55=>z_n 3 c (D k54) (ve<|ai c)<|z_n 7 c (D k54) (ve<|ai c)<|eva_1 (i:=4) (by kernel_rfl)<|way_on c c c c (D k54)<|Z H55 en_18 fun r133 _ H56=>⟨.cons _<|.cons_cons _ .slnil,z_n 5 c (D k54) (ve<|dA c Tryz.underlying39 c)<|z_n 6 c (D k54) (ve<|bO c c)<|z_n 8 c (D k54) (ve<|v_beq Tryz.underlying4 c c)<|U 9 c (aU c k54 c)<|U 10 c (ai c)<|nA H56 (fun k57 H58=>z_n 11 c (D k57) (ve<|ai c)<|z_n 13 c (D k57) (eq (k:=0) pf c c c c)<|eva_1 (i:=12) (by kernel_rfl)<|way_on c c c c (D k57)<|Z H58 en_20 fun r141 _ H59=>⟨.cons _<|.cons_cons _ .slnil,eva_1 (i:=14) (by kernel_rfl)<|way_on c c c c (D k57)<|Z H59 en_19 fun r143 _ H60=>⟨.cons _<|.cons_cons _ .slnil,U 15 c (aU c k57 c)<|U 16 c (au c)<|aV (by kernel_rfl)<|aj<|Y ⟨r143,c,H60⟩⟩⟩) fun k57 H58=>I 11 c (aR k57)<|I 12 c (aR k57)<|I 13 c (aR k57)<|I 14 c (aR k57)<|U 15 c (aq c k57 c)<|U 16 c (au c)<|aV (by kernel_rfl)<|aj<|Y ⟨false,c,H58⟩⟩) fun k54 H55=>I 3 c (aR k54)<|I 4 c (aR k54)<|I 5 c (aR k54)<|I 6 c (aR k54)<|I 7 c (aR k54)<|I 8 c (aR k54)<|U 9 c (aq c k54 c)<|U 10 c (ai c)<|I 11 c c<|I 12 c c<|I 13 c c<|I 14 c c<|U 15 c (aq c c c)<|U 16 c (au c)<|aV (by kernel_rfl)<|aj<|Y ⟨false,c,H55⟩
end Go.Proofs.YtemoifebbhoinaaGreatDoor
