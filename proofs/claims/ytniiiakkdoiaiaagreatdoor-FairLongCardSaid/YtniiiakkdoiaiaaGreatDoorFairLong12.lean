/- Part of the proof of: For every number of cores, every gap and every core, messuagelaw16.FairLong returns true and leaves its arguments as they were; errors.errorType holds the handle of the type error when the call begins. -/
import Derived.Test.YtniiiakkdoiaiaaGreatDoorFairLong11
set_option linter.all false
namespace Go.Proofs.YtniiiakkdoiaiaaGreatDoor
open Go Mb
theorem mX (e:ck):e.C.length = 16:=rfl
theorem ev_one (e:ck):dS e.C = true:=rfl
abbrev vE (s:Sl) (xs:List ck):As:=vec t_api_Event 16 aJ.C s xs
def iq (x:Ptr):Option KC→As
  | none=>fun _=>x = none
  | some c=>fun h=>∃ b:Nat,x = some (b,0)∧blk b cW c.C h
section
variable {l:List As} {h:Hp} {cp:List Ptr} {cs:List (Option KC)} {n:Nat}
theorem all_get {σ α:Type} {A:σ→α→As} {ps:List σ} {xs:List α} {i j:Nat} {p:σ} {x:α} (st:aN l h) (hj:l[j]? = some (all A ps xs)) (hp:ps[i]? = some p) (hx:xs[i]? = some x):∃ h1,A p x h1∧∀ b o,h1 b = some o→h b = some o:=by
  obtain ⟨h1,a,sub⟩:=ef hj st
  obtain ⟨h2,a2,sub2⟩:=ef (objs_get hp hx) a
  exact ⟨h2,a2,fun b o e=>sub _ _ (sub2 _ _ e)⟩
theorem call_none {j:Nat} {p:Ptr} (st:aN l h) (hj:l[j]? = some (all iq cp cs)) (hp:cp[n]? = some p) (hx:cs[n]? = some none):p = none:=by
  obtain ⟨_,a,_⟩:=all_get st hj hp hx; exact a
theorem uY {j:Nat} {p:Ptr} {x:KC} (st:aN l h) (hj:l[j]? = some (all iq cp cs)) (hp:cp[n]? = some p) (hx:cs[n]? = some (some x)):∃ b,p = some (b,0)∧h b = some (.cells x.C.toArray cW (0,0)):=by
  obtain ⟨_,⟨b,e,a⟩,sub⟩:=all_get st hj hp hx
  exact ⟨b,e,sub _ _ a⟩
theorem all_but {σ α:Type} {A:σ→α→As} {ps:List σ} {xs:List α} {i:Nat} {p:σ} {x:α} (hp:ps[i]? = some p) (hx:xs[i]? = some x) (s:aN (all A ps xs::l) h):aN (but A ps xs i::l) h:=by
  obtain ⟨h1,h2,d,e,_,s'⟩:=jf hp hx s
  rw [e,un_comm d]; exact rI s' d.symm
theorem call_mk {b:Nat} {y:KC} (s:aN (blk b cW y.C::l) h):aN (iq (some (b,0)) (some y)::l) h:=by
  obtain ⟨h1,h2,d,e,a,s'⟩:=s
  exact ⟨h1,h2,d,e,⟨b,rfl,a⟩,s'⟩
theorem ld_c {τ:Type} {j b off:Nat} {x:KC} {enc:τ→List Value} {K:τ→Hp→Prop} (y:τ) (st:aN l h) (hj:l[j]? = some (all iq cp cs)) (hp:cp[n]? = some (some (b,0))) (hx:cs[n]? = some (some x)) (hy:∀ i v,(enc y)[i]? = some v→x.C[off + i]? = some v) (k:K y h):ld (b,off) enc K h:=by
  obtain ⟨b',e,a⟩:=uY st hj hp hx
  cases e
  exact ⟨y,⟨_,_,_,a,fun i v hv=>by simpa using hy i v hv⟩,k⟩
theorem ld_c1 {τ:Type} {j b off:Nat} {x:KC} {enc:τ→List Value} {K:τ→Hp→Prop} {v:Value} (y:τ) (st:aN l h) (hj:l[j]? = some (all iq cp cs)) (hp:cp[n]? = some (some (b,0))) (hx:cs[n]? = some (some x)) (he:enc y = [v]) (hv:x.C[off]? = some v) (k:K y h):ld (b,off) enc K h :=
  ld_c y st hj hp hx (c1 he hv) k
theorem call_out {p:Ptr} {x:KC} (hp:cp[n]? = some p) (hx:cs[n]? = some (some x)) (s:aN (all iq cp cs::l) h):∃ b,p = some (b,0)∧aN (blk b cW x.C::but iq cp cs n::l) h:=by
  obtain ⟨h1,h2,d,e,⟨b,e1,a⟩,s'⟩:=jf hp hx s
  exact ⟨b,e1,h1,h2,d,e,a,s'⟩
theorem call_in {b:Nat} {y:KC} (hp:cp[n]? = some (some (b,0))) (hn:n < cs.length) (hl:cp.length = cs.length) (s:aN (blk b cW y.C::but iq cp cs n::l) h):aN (all iq cp (cs.set n (some y))::l) h:=by
  obtain ⟨h1,h2,d,e,a,s'⟩:=s
  exact wF (A:=iq) hp hn hl ⟨h1,h2,d,e,⟨b,rfl,a⟩,s'⟩
end
def capOf (h:Hp) (x:Ptr):Cap:=match x with
  | some q=>(match h q.1 with
    | some (.cells c _ _)=>(match c.toList with
      | [.int _ a,.int _ b,.int _ d,.int _ e]=>⟨a,b,d,e⟩
      | _=>rD)
    | _=>rD)
  | none=>rD
theorem capOf_eq {l:List As} {h:Hp} {i b T:Nat} {c:Cap} (st:aN l h) (hi:l[i]? = some (blk b T c.C)):capOf h (some (b,0)) = c:=by
  obtain ⟨h1,a,sub⟩:=ef hi st
  unfold capOf
  rw [show (some (b,0):Ptr) = some (b,0) from rfl]
  simp only [sub _ _ a]
  rfl
theorem at_get {t:Caps.T} {e s:Int} (h1:Caps.has t e s = true) (h2:(Caps.get t e s).fRights ≠ 0):Caps.at_ t e s = (Caps.get t e s,true):=if_pos ⟨h1,h2⟩
def vi (t:Caps.T) (x:KC) (r:Cap × Bool):Bool:=if r.2 = true then Caps.under t r.1 ⟨x.fenv,IntKind.i64.wrap x.fc.e1⟩ else false
theorem up_at {t:Caps.T} (x:KC) (e s:Int):vi t x (Caps.at_ t e s) = (if Caps.has t e s = true then Caps.under t (Caps.get t e s) ⟨x.fenv,IntKind.i64.wrap x.fc.e1⟩ else false):=by
  unfold vi
  by_cases h1:Caps.has t e s = true
  · by_cases h2:(Caps.get t e s).fRights ≠ 0
    · rw [at_get h1 h2,if_pos rfl,if_pos h1]
    · have ea:Caps.at_ t e s = (rD,false):=if_neg (fun hh=>h2 hh.2)
      rw [ea,if_neg Bool.false_ne_true,if_pos h1]
      cases hu:Caps.under t (Caps.get t e s) ⟨x.fenv,IntKind.i64.wrap x.fc.e1⟩ with
      | false=>rfl
      | true=>exact absurd (Caps.under_rights hu) h2
  · have ea:Caps.at_ t e s = (rD,false):=if_neg (fun hh=>h1 hh.1)
    rw [ea,if_neg Bool.false_ne_true,if_neg h1]
theorem sp_kern_goes (kb xb:Nat) (pp:Ptr) (kc:List Value) (p:PK) (x:KC) (e s:Int) (h0:kc[0]? = some (pv pp)) :
    Sp Tryz.prog px [pv (some (kb,0)),pv (some (xb,0)),.int .i64 e,.int .i64 s] aH [blk kb co kc,blk xb cW x.C,bC pp p] (fun r=>pa_ (r = KK.goes p x e s) [blk kb co kc,blk xb cW x.C,bC pp p]):=by
  intro h s0
  have tok:Caps.Ok p.caps:=by
    obtain ⟨_,_,_,ok,_⟩:=fH (bn [2] s0 rfl); exact ok.tree
  refine sim_kern_Kern_goes _ _ _ _ ?_
  unfold tt
  have j1:¬ (x.fc.e0 = 5∧e = x.fenv∧s = IntKind.i64.wrap x.fc.e1)→iO (some (kb,0)) e s (fun r=>pa_ (r = KK.goes p x e s) [blk kb co kc,blk xb cW x.C,bC pp p]) (xb,0) x.fc.e1 () h:=by
    intro hno
    have eg:KK.goes p x e s = vi p.caps x (Caps.at_ p.caps e s):=by unfold KK.goes; rw [if_neg hno,up_at]
    rw [eg]
    unfold iO
    refine cJ (bA pp s0 (i:=0) rfl rfl h0 ?_)
    refine cd (vt pp p e s) (i:=2) rfl s0 fun r h1 hr s1=>?_
    subst hr
    refine oF s1 fun b h2 s2=>?_
    refine tX (i:=0) s2 rfl (by simp [pQ]) fun h3 s3=>?_
    have s3':aN [blk b fI (Caps.at_ p.caps e s).1.C,blk kb co kc,blk xb cW x.C,bC pp p] h3:=s3
    refine Lp.intro (fun (z:Ptr × Bool) h=>∃ (b:Nat) (a i:Int),z = (some (b,0),(Caps.at_ p.caps a i).2)∧vi p.caps x (Caps.at_ p.caps a i) = vi p.caps x (Caps.at_ p.caps e s)∧aN [blk b fI (Caps.at_ p.caps a i).1.C,blk kb co kc,blk xb cW x.C,bC pp p] h)
      (fun (z:Ptr × Bool) h=>Caps.deep 40 p.caps (capOf h z.1)) ⟨b,e,s,rfl,rfl,s3'⟩ ?_
    rintro z h ⟨b,a,i,rfl,hu,s4⟩
    unfold ow
    rw [capOf_eq (i:=0) s4 rfl]
    refine bi (fun k=>?_) (fun k=>?_)
    · have hat:Caps.has p.caps a i = true∧(Caps.get p.caps a i).fRights ≠ 0:=by
        unfold Caps.at_ at k; split at k
        · assumption
        · cases k
      have e1:=at_get hat.1 hat.2
      rw [e1] at s4 hu ⊢
      have step:=Caps.under_step tok hat.1 ⟨x.fenv,IntKind.i64.wrap x.fc.e1⟩
      have hu':vi p.caps x (Caps.get p.caps a i,true) = Caps.under p.caps (Caps.get p.caps a i) ⟨x.fenv,IntKind.i64.wrap x.fc.e1⟩:=rfl
      rw [hu'] at hu
      refine cJ (bA (Caps.get p.caps a i).fEnv s4 (i:=0) rfl rfl rfl ?_)
      refine bi (fun k2=>?_) (fun k2=>?_)
      · have k2':0 ≤ (Caps.get p.caps a i).fEnv:=by simpa using k2
        rw [if_pos ⟨hat.2,k2'⟩] at step
        have dd:=Caps.deep_step tok hat.1 ⟨hat.2,k2'⟩
        obtain ⟨q1,q2⟩:=Caps.parent_has tok hat.1 hat.2 k2'
        have next:¬ ((Caps.get p.caps a i).fEnv = x.fenv∧(Caps.get p.caps a i).fSlot = IntKind.i64.wrap x.fc.e1) →
            iN (kb,0) b (fun s' h'=>(∃ (b:Nat) (a i:Int),s' = (some (b,0),(Caps.at_ p.caps a i).2)∧vi p.caps x (Caps.at_ p.caps a i) = vi p.caps x (Caps.at_ p.caps e s)∧aN [blk b fI (Caps.at_ p.caps a i).1.C,blk kb co kc,blk xb cW x.C,bC pp p] h')∧Caps.deep 40 p.caps (capOf h' s'.1) < Caps.deep 40 p.caps (Caps.get p.caps a i)) (b,0) () h:=by
          intro hne
          unfold iN
          refine ld_s (i:=0) (Caps.get p.caps a i) s4 rfl (by simp) ?_
          refine oF s4 fun b2 h5 s5=>?_
          refine tX (i:=0) s5 rfl (by simp [pQ]) fun h6 s6=>?_
          have s6':aN [blk b2 fI (Caps.get p.caps a i).C,blk b fI (Caps.get p.caps a i).C,blk kb co kc,blk xb cW x.C,bC pp p] h6:=s6
          refine bA pp s6' (i:=2) rfl rfl h0 ?_
          refine bA (Caps.get p.caps a i).fEnv s6' (i:=0) rfl rfl rfl ?_
          refine bA (Caps.get p.caps a i).fSlot s6' (i:=0) rfl rfl rfl ?_
          refine cd (vt pp p _ _) (i:=4) rfl s6' fun r h7 hr s7=>?_
          subst hr
          refine tX (i:=0) s7 rfl (by simp [pQ]) fun h8 s8=>?_
          have s8':aN [blk b2 fI (Caps.at_ p.caps (Caps.get p.caps a i).fEnv (Caps.get p.caps a i).fSlot).1.C,blk b fI (Caps.get p.caps a i).C,blk kb co kc,blk xb cW x.C,bC pp p] h8:=s8
          have e2:=at_get q1 q2
          refine ⟨⟨b2,_,_,rfl,?_,cm (l:=[blk b fI (Caps.get p.caps a i).C]) (bn [1] s8' rfl)⟩,?_⟩
          · rw [e2,← hu,step,if_neg hne]; rfl
          · rw [capOf_eq (i:=0) s8' rfl,e2]; exact dd
        refine bA (Caps.get p.caps a i).fEnv s4 (i:=0) rfl rfl rfl ?_
        refine bA x.fenv s4 (i:=2) rfl rfl rfl ?_
        refine bi (fun k3=>?_) (fun k3=>?_)
        · have k3':(Caps.get p.caps a i).fEnv = x.fenv:=by simpa using k3
          refine bA (Caps.get p.caps a i).fSlot s4 (i:=0) rfl rfl rfl ?_
          refine bi (fun k4=>?_) (fun k4=>?_)
          · have k4':(Caps.get p.caps a i).fSlot = IntKind.i64.wrap x.fc.e1:=by simpa using k4
            rw [if_pos ⟨k3',k4'⟩] at step
            exact bh (by rw [← hu,step]) (cm (l:=[blk b fI (Caps.get p.caps a i).C]) s4)
          · exact next (fun hh=>by simp [hh.2] at k4)
        · exact next (fun hh=>by simp [hh.1] at k3)
      · have k2':¬ 0 ≤ (Caps.get p.caps a i).fEnv:=by simpa using k2
        rw [if_neg (fun hh=>k2' hh.2)] at step
        exact bh (by rw [← hu,step]) (cm (l:=[blk b fI (Caps.get p.caps a i).C]) s4)
    · refine bh ?_ (cm (l:=[blk b fI (Caps.at_ p.caps a i).1.C]) s4)
      rw [← hu]; unfold vi
      have k':(Caps.at_ p.caps a i).2 = false:=k
      rw [k']; rfl
  refine cJ (bA x.fc.e1 s0 (i:=1) rfl rfl rfl ?_)
  refine bA x.fc.e0 s0 (i:=1) rfl rfl rfl ?_
  refine bi (fun k=>?_) (fun k=>?_)
  · have k':x.fc.e0 = 5:=by simpa using k
    refine bA x.fenv s0 (i:=1) rfl rfl rfl ?_
    refine bi (fun k2=>?_) (fun k2=>?_)
    · have k2':e = x.fenv∧s = IntKind.i64.wrap x.fc.e1:=by simpa using k2
      exact bh (by unfold KK.goes; rw [if_pos ⟨k',k2'⟩]) s0
    · exact j1 (fun hh=>by simp [hh.2.1,hh.2.2] at k2)
  · exact j1 (fun hh=>by simp [hh.1] at k)
theorem sp_kern_left (kb xb:Nat) (pp:Ptr) (kc:List Value) (p:PK) (x:KC) (e pg:Int) (q:Pte) (h0:kc[0]? = some (pv pp)) :
    Sp Tryz.prog lE [pv (some (kb,0)),pv (some (xb,0)),.int .i64 e,.int .i64 pg,.agg q.C.toArray] vd [blk kb co kc,blk xb cW x.C,bC pp p] (fun r=>pa_ (r = KK.left p x e pg q) [blk kb co kc,blk xb cW x.C,bC pp p]):=by
  intro h s0
  refine sim_kern_Kern_left _ _ _ _ _ ?_
  unfold tq
  have j1:∀ o:Bool,o = decide (x.fenv = e∧IntKind.i64.wrap x.fc.e1 = pg)→iM (some (kb,0)) (some (xb,0)) e q (fun r=>pa_ (r = KK.left p x e pg q) [blk kb co kc,blk xb cW x.C,bC pp p]) o h:=by
    intro o ho
    unfold iM
    refine cJ (bA x.fc.e0 s0 (i:=1) rfl rfl rfl ?_)
    refine bi (fun k=>?_) (fun k=>?_)
    · have k':x.fc.e0 = 7:=by simpa using k
      refine bi (fun k2=>?_) (fun k2=>?_)
      · have k2':x.fenv = e∧IntKind.i64.wrap x.fc.e1 = pg:=of_decide_eq_true (ho ▸ k2)
        exact bh (by unfold KK.left; rw [if_pos k',if_pos k2']) s0
      · have k2':¬ (x.fenv = e∧IntKind.i64.wrap x.fc.e1 = pg):=of_decide_eq_false (ho ▸ k2)
        exact bh (by unfold KK.left; rw [if_pos k',if_neg k2']) s0
    · have k':¬ x.fc.e0 = 7:=by simpa using k
      refine bi (fun k2=>?_) (fun k2=>?_)
      · have k2':x.fc.e0 = 8:=by simpa using k2
        refine cJ (bA pp s0 (i:=0) rfl rfl h0 ?_)
        refine cd (vt pp p e q.fSlot) (i:=2) rfl s0 fun r h1 hr s1=>?_
        subst hr
        refine bA x.fc.e2 s1 (i:=1) rfl rfl rfl ?_
        refine bi (fun k3=>?_) (fun k3=>?_)
        · rw [Bool.and_eq_true] at k3
          have k3':x.fenv = e∧IntKind.i64.wrap x.fc.e1 = pg:=of_decide_eq_true (ho ▸ k3.1)
          exact bh (by unfold KK.left; rw [if_neg k',if_pos k2',if_pos ⟨k3',k3.2⟩]) s1
        · have k3':¬ ((x.fenv = e∧IntKind.i64.wrap x.fc.e1 = pg)∧bq (IntKind.i64.wrap x.fc.e2) (Caps.at_ p.caps e q.fSlot).1.fRights = true):=by
            rintro ⟨h3,h4⟩
            rw [ho,decide_eq_true h3,h4] at k3; cases k3
          exact bh (by unfold KK.left; rw [if_neg k',if_pos k2',if_neg k3']) s1
      · have k2':¬ x.fc.e0 = 8:=by simpa using k2
        refine cU [0,0,0] (sp_kern_goes kb xb pp kc p x e q.fSlot h0) s0 rfl fun r h1 s1=>?_
        obtain ⟨rfl,s2⟩:=bF.1 s1
        refine bi (fun k3=>?_) (fun k3=>?_)
        · exact bh (by unfold KK.left; rw [if_neg k',if_neg k2',if_pos k3]) s2
        · exact bh (by unfold KK.left; rw [if_neg k',if_neg k2',if_neg (by rw [k3]; exact Bool.false_ne_true)]) s2
  refine cJ (bA x.fenv s0 (i:=1) rfl rfl rfl ?_)
  refine bi (fun k=>?_) (fun k=>?_)
  · have k':x.fenv = e:=by simpa using k
    refine bA x.fc.e1 s0 (i:=1) rfl rfl rfl ?_
    refine j1 _ ?_
    by_cases h1:IntKind.i64.wrap x.fc.e1 = pg <;> simp [k',h1]
  · have k':¬ x.fenv = e:=by simpa using k
    exact j1 false (by simp [k'])
theorem sp_kern_seen (kb:Nat) (pp:Ptr) (kc:List Value) (p:PK) (cs:Sl) (cp:List Ptr) (calls:List (Option KC)) (e pg:Int) (h0:kc[0]? = some (pv pp)) (h5:kc[5]? = some (sv cs)) (hl:cp.length = calls.length) (hb:calls.length ≤ 8) :
    Sp Tryz.prog lD [pv (some (kb,0)),.int .i64 e,.int .i64 pg] cC [blk kb co kc,bC pp p,vQ fh cs cp,all iq cp calls] (fun r=>pa_ (r = KK.seenFrom p e pg calls (PK.pte p e pg).2 (PK.pte p e pg).1) [blk kb co kc,bC pp p,vQ fh cs cp,all iq cp calls]):=by
  intro h s0
  refine sim_kern_Kern_seen _ _ _ ?_
  unfold tn
  refine cJ (bA pp s0 (i:=0) rfl rfl h0 ?_)
  refine cd (rl pp p e pg) (i:=1) rfl s0 fun r h1 hr s1=>?_
  subst hr
  refine bA cs s1 (i:=0) rfl rfl h5 ?_
  have hcs:=(cq (j:=2) s1 rfl).1
  refine Lp.intro (fun (z:Bool × Int × Pte) h=>∃ n:Nat,z.2.1 = n∧n ≤ calls.length∧KK.seenFrom p e pg (calls.drop n) z.1 z.2.2 = KK.seenFrom p e pg calls (PK.pte p e pg).2 (PK.pte p e pg).1∧aN [blk kb co kc,bC pp p,vQ fh cs cp,all iq cp calls] h) (fun (z:Bool × Int × Pte) _=>calls.length - z.2.1.toNat) ⟨0,rfl,Nat.zero_le _,rfl,s1⟩ ?_
  rintro ⟨b,i,q⟩ h ⟨n,rfl,hn,he,s2⟩
  unfold ov
  simp only at he ⊢
  refine bi (fun k=>?_) (fun k=>?_)
  · have hlt:n < calls.length:=by rw [hcs,hl] at k; simpa using k
    have hlp:n < cp.length:=by omega
    have hw:IntKind.i64.wrap ((n:Int) + 1) = ((n + 1:Nat):Int):=by rw [bT (by omega) (by omega)]; rfl
    rw [List.drop_eq_getElem_cons hlt] at he
    refine dI s2 (j:=2) rfl (by omega) (by show (n:Int) < _; omega) fun q0 hq0=>?_
    refine eE (j:=2) (i:=n) (k:=0) cp[n] gK s2 rfl hq0 (by simp) (aM hlp) (by simp) ?_
    have skip:KK.seenFrom p e pg (calls.drop (n + 1)) b q = KK.seenFrom p e pg calls (PK.pte p e pg).2 (PK.pte p e pg).1→gi e pg (kb,0) (fun s' h'=>(∃ n:Nat,s'.2.1 = n∧n ≤ calls.length∧KK.seenFrom p e pg (calls.drop n) s'.1 s'.2.2 = KK.seenFrom p e pg calls (PK.pte p e pg).2 (PK.pte p e pg).1∧aN [blk kb co kc,bC pp p,vQ fh cs cp,all iq cp calls] h')∧calls.length - s'.2.1.toNat < calls.length - (n:Int).toNat) (b,(n:Int),q) cp[n] false h:=by
      intro hs
      unfold gi
      refine dJ rfl ?_
      rw [hw]
      exact ⟨⟨n + 1,rfl,hlt,hs,s2⟩,by simp; omega⟩
    cases hc:calls[n] with
    | none =>
      have hcn:calls[n]? = some none:=by rw [aM hlt,hc]
      have hp:=call_none (j:=3) s2 rfl (aM hlp) hcn
      rw [hc] at he
      refine dJ (by rw [hp]; simp) ?_
      exact skip he
    | some x =>
      have hcn:calls[n]? = some (some x):=by rw [aM hlt,hc]
      obtain ⟨xb,hp,hbx⟩:=uY (j:=3) s2 rfl (aM hlp) hcn
      rw [hc,KK.seenFrom] at he
      have hcp:cp[n]? = some (some (xb,0)):=by rw [aM hlp,hp]
      rw [hp] at skip ⊢
      refine bi (fun k2=>?_) (fun k2=>?_)
      · have k2':b = true:=by simpa using k2
        subst k2'
        refine cJ (ld_c1 (j:=3) x.ftold s2 rfl hcp hcn rfl rfl ?_)
        cases ht:x.ftold with
        | false =>
          rw [ht,if_neg (by simp)] at he
          exact skip he
        | true =>
          rw [ht,if_pos ⟨rfl,rfl⟩] at he
          unfold gi
          refine dN rfl ?_
          obtain ⟨xb',hp',s3⟩:=call_out hcp hcn (bn [3] s2 rfl)
          cases hp'
          refine cU [2,0,1] (sp_kern_left kb xb pp kc p x e pg q h0) s3 rfl fun r h4 s4=>?_
          obtain ⟨rfl,s5⟩:=bF.1 s4
          rw [hw]
          have s6:=call_in (y:=x) hcp hlt hl (bn [1,2] s5 rfl)
          rw [iD hcn] at s6
          refine ⟨⟨n + 1,rfl,hlt,he,bn [1,1,1] s6 rfl⟩,by simp; omega⟩
      · have k2':b = false:=by simpa using k2
        subst k2'
        rw [if_neg (by simp)] at he
        exact skip he
  · have:n = calls.length:=by rw [hcs,hl] at k; simp at k; omega
    subst this
    rw [List.drop_length] at he
    exact bh he s2
theorem any_succ (f:Nat→Bool) (n:Nat):(List.range (n + 1)).any f = ((List.range n).any f || f n):=by
  rw [List.range_succ,List.any_append]; simp
theorem any_true {f:Nat→Bool} {n N:Nat} (h:n < N) (hf:f n = true):(List.range N).any f = true:=List.any_eq_true.2 ⟨n,List.mem_range.2 h,hf⟩
theorem sp_kern_takes (kb xb:Nat) (pp:Ptr) (kc:List Value) (p:PK) (x:KC) (h0:kc[0]? = some (pv pp)) (h1:kc[1]? = some (.int .i64 p.s.fEnvs)) :
    Sp Tryz.prog og [pv (some (kb,0)),pv (some (xb,0))] aH [blk kb co kc,blk xb cW x.C,bC pp p] (fun r=>pa_ (r = KK.takes p x) [blk kb co kc,blk xb cW x.C,bC pp p]):=by
  intro h s0
  have hsz:1 ≤ p.s.fEnvs∧p.s.fEnvs ≤ 4:=by
    obtain ⟨_,_,_,ok,_⟩:=fH (bn [2] s0 rfl); have:=jk.1 ok.sz; omega
  refine sim_kern_Kern_takes _ _ ?_
  unfold sd
  have no:(Word.check x.fc p.s.fEnvs ≠ 0∨x.fc.e0 < 4∨x.fc.e0 > 8∨x.fc.e0 = 6)→KK.takes p x = false:=fun hh=>if_pos hh
  refine cJ (cJ ?_)
  refine ld_s (i:=1) x.fc s0 rfl ?_ ?_
  · intro j v hv
    have:j < 5:=(List.getElem?_eq_some_iff.1 hv).1
    match j,this with
    | 0,_=>exact hv
    | 1,_=>exact hv
    | 2,_=>exact hv
    | 3,_=>exact hv
    | 4,_=>exact hv
  refine bA p.s.fEnvs s0 (i:=0) rfl rfl h1 ?_
  refine sX (iV x.fc _) s0 fun r h2 hr s1=>?_
  subst hr
  refine bi (fun k=>?_) (fun k=>?_)
  · exact bh (no (.inl (by simpa using k))).symm s1
  have k0:¬ Word.check x.fc p.s.fEnvs ≠ 0:=by simpa using k
  refine bA x.fc.e0 s1 (i:=1) rfl rfl rfl ?_
  refine bi (fun k1=>?_) (fun k1=>?_)
  · exact bh (no (.inr (.inl (by simpa using k1)))).symm s1
  refine bA x.fc.e0 s1 (i:=1) rfl rfl rfl ?_
  refine bi (fun k2=>?_) (fun k2=>?_)
  · exact bh (no (.inr (.inr (.inl (by simpa using k2))))).symm s1
  refine bA x.fc.e0 s1 (i:=1) rfl rfl rfl ?_
  refine bi (fun k3=>?_) (fun k3=>?_)
  · exact bh (no (.inr (.inr (.inr (by simpa using k3))))).symm s1
  have yes:KK.takes p x = (List.range p.s.fEnvs.toNat).any fun e=>(List.range 8).any fun pg=>KK.hits p x e pg:=by
    unfold KK.takes
    rw [if_neg]
    rintro (h | h | h | h)
    · exact k0 h
    · simp at k1; omega
    · simp at k2; omega
    · simp at k3; exact k3 h
  rw [yes]
  obtain ⟨N,hN⟩:=Int.eq_ofNat_of_zero_le (show 0 ≤ p.s.fEnvs by omega)
  have hNt:p.s.fEnvs.toNat = N:=by omega
  rw [hNt]
  refine bA p.s.fEnvs s1 (i:=0) rfl rfl h1 ?_
  refine Lp.intro (fun (i:Int) h=>∃ n:Nat,i = n∧n ≤ N∧((List.range n).any fun e=>(List.range 8).any fun pg=>KK.hits p x e pg) = false∧aN [blk kb co kc,blk xb cW x.C,bC pp p] h) (fun (i:Int) _=>N - i.toNat) ⟨0,rfl,Nat.zero_le _,rfl,s1⟩ ?_
  rintro i h ⟨n,rfl,hn,ha,s2⟩
  unfold mV
  refine bi (fun k4=>?_) (fun k4=>?_)
  · have hlt:n < N:=by rw [hN] at k4; simpa using k4
    have hw:IntKind.i64.wrap ((n:Int) + 1) = ((n + 1:Nat):Int):=by rw [bT (by omega) (by omega)]; rfl
    refine Lp.intro (fun (i:Int) h=>∃ m:Nat,i = m∧m ≤ 8∧((List.range m).any fun pg=>KK.hits p x n pg) = false∧aN [blk kb co kc,blk xb cW x.C,bC pp p] h) (fun (i:Int) _=>8 - i.toNat) ⟨0,rfl,Nat.zero_le _,rfl,s2⟩ ?_
    rintro i h ⟨m,rfl,hm,ha2,s3⟩
    unfold mU
    refine bi (fun k5=>?_) (fun k5=>?_)
    · have hlt2:m < 8:=by have:=of_decide_eq_true k5; omega
      have hw2:IntKind.i64.wrap ((m:Int) + 1) = ((m + 1:Nat):Int):=by rw [bT (by omega) (by omega)]; rfl
      refine bA pp s3 (i:=0) rfl rfl h0 ?_
      refine cd (rl pp p n m) (i:=2) rfl s3 fun r h4 hr s4=>?_
      subst hr
      refine bi (fun k6=>?_) (fun k6=>?_)
      · refine cU [0,0,0] (sp_kern_left kb xb pp kc p x n m (PK.pte p n m).1 h0) s4 rfl fun r h5 s5=>?_
        obtain ⟨rfl,s6⟩:=bF.1 s5
        refine bi (fun k7=>?_) (fun k7=>?_)
        · have hh:KK.hits p x n m = true:=by unfold KK.hits; rw [k6,k7]; rfl
          exact bh (any_true hlt (any_true hlt2 hh)).symm s6
        · have hh:KK.hits p x n m = false:=by unfold KK.hits; rw [k6,k7]; rfl
          rw [hw2]
          exact ⟨⟨m + 1,rfl,hlt2,by rw [any_succ,ha2,hh]; rfl,s6⟩,by simp; omega⟩
      · have hh:KK.hits p x n m = false:=by unfold KK.hits; rw [k6]; rfl
        rw [hw2]
        exact ⟨⟨m + 1,rfl,hlt2,by rw [any_succ,ha2,hh]; rfl,s4⟩,by simp; omega⟩
    · have:m = 8:=by have:=of_decide_eq_false k5; omega
      subst this
      rw [hw]
      exact ⟨⟨n + 1,rfl,hlt,by rw [any_succ,ha,ha2]; rfl,s3⟩,by simp; omega⟩
  · have:n = N:=by rw [hN] at k4; simp at k4; omega
    subst this
    exact bh ha.symm s2
end Go.Proofs.YtniiiakkdoiaiaaGreatDoor
namespace Go.Proofs.YtniiiakkdoiaiaaGreatDoor
open Go Mb
structure KZ where
  b:Nat
  pp:Ptr
  ts:Sl
  tp:List Ptr
  pm:Ptr
  pe:Ptr
  cs:Sl
  cp:List Ptr
  es:Sl
abbrev kcl (z:KZ) (k:KK):List Value:=[pv z.pp,.int .i64 k.p.s.fEnvs,sv z.ts,pv z.pm,pv z.pe,sv z.cs,sv z.es,.int .i64 k.now]
abbrev lT (z:KZ) (k:KK):List As:=[blk z.b co (kcl z k),bC z.pp k.p,vQ rS z.ts z.tp,all fB z.tp k.tlbs,iX z.pm k.boxes,eU z.pe k.epochs,vQ fh z.cs z.cp,all iq z.cp k.calls,vE z.es k.events]
structure KZ.Ok (z:KZ) (k:KK):Prop where
  t:z.tp.length = k.tlbs.length
  c:z.cp.length = k.calls.length
def dy (x:Ptr) (k:KK):As:=fun h=>∃ z:KZ,(x = some (z.b,0)∧KZ.Ok z k∧KK.Ok k)∧aN (lT z k) h
theorem tQ {x:Ptr} {k:KK} {l:List As} {h:Hp} (s0:aN (dy x k::l) h):∃ z:KZ,x = some (z.b,0)∧KZ.Ok z k∧KK.Ok k∧aN (lT z k++l) h:=by
  obtain ⟨z,⟨hx,h1,ok⟩,st⟩:=op_ s0
  exact ⟨z,hx,h1,ok,st⟩
theorem pO {z:KZ} {k:KK} {l:List As} {h:Hp} (h1:KZ.Ok z k) (ok:KK.Ok k) (st:aN (lT z k++l) h):aN (dy (some (z.b,0)) k::l) h :=
  cl_ (m:=fun z:KZ=>lT z k) z ⟨rfl,h1,ok⟩ st
theorem kk_len {k:KK} (ok:KK.Ok k):k.tlbs.length = k.calls.length∧k.boxes.length = k.calls.length∧k.epochs.2.length = k.calls.length∧1 ≤ k.calls.length∧k.calls.length ≤ 8:=by
  have h1:=ok.tl; have h2:=ok.bl; have h3:=ok.el; have h4:=ok.cl; have h5:=jk.1 ok.p.sz
  omega
theorem is_nat {k:KK} {c:Int} (h:KK.is k c = true):∃ n:Nat,c = n∧n < k.calls.length:=by
  have:=of_decide_eq_true (show decide (0 ≤ c∧c < (k.calls.length:Int)) = true from h)
  exact ⟨c.toNat,by omega,by omega⟩
theorem call_nat {k:KK} {n:Nat} (h:n < k.calls.length):KK.call k n = k.calls[n]:=by simp [KK.call,h]
theorem buf_nat {k:KK} {n:Nat} (h:n < k.tlbs.length):KK.buf k n = k.tlbs[n]:=by simp [KK.buf,h]
theorem vu (x:Ptr) (k:KK) (c:Int):Sp Tryz.prog jo [pv x,.int .i64 c] aH [dy x k] (fun r=>pa_ (r = KK.is k c) [dy x k]):=by
  intro h s0
  obtain ⟨z,rfl,zo,ok,st⟩:=tQ s0
  have hcs:=(cq (j:=6) st rfl).1
  refine sim_kern_Kern_is _ _ ?_
  unfold sh_kern_Kern_is
  refine bi (fun d=>?_) (fun d=>?_)
  · have d':0 ≤ c:=by simpa using d
    refine cJ (bA z.cs st (i:=0) rfl rfl rfl ?_)
    exact bh (by rw [hcs,zo.c]; simp [KK.is,d']) s0
  · have d':¬ 0 ≤ c:=by simpa using d
    exact bh (by simp [KK.is]; intro h; exact absurd h d') s0
theorem nL (x:Ptr) (k:KK) (c:Int):Sp Tryz.prog fL [pv x,.int .i64 c] aH [dy x k] (fun r=>pa_ (r = KK.busy k c) [dy x k]):=by
  intro h s0
  refine sim_kern_Kern_Busy _ _ ?_
  unfold tz
  refine cd (vu x k c) (i:=0) rfl s0 fun r h1 hr s1=>?_
  subst hr
  refine bi (fun d=>?_) (fun d=>?_)
  · obtain ⟨n,rfl,hn⟩:=is_nat d
    obtain ⟨z,rfl,zo,ok,st⟩:=tQ s1
    have hcs:=(cq (j:=6) st rfl).1
    have hn':n < z.cp.length:=by rw [zo.c]; exact hn
    refine cJ (bA z.cs st (i:=0) rfl rfl rfl ?_)
    refine dI st (j:=6) rfl (by omega) (by omega) fun q hq=>?_
    refine eE (j:=6) (i:=n) (k:=0) z.cp[n] gK st rfl hq (by simp) (aM hn') (by simp) ?_
    refine bh ?_ s1
    unfold KK.busy
    rw [d,call_nat hn]
    cases hc:k.calls[n] with
    | none =>
      have:=call_none (j:=7) st rfl (aM hn') (by rw [aM hn,hc])
      rw [this]; rfl
    | some y =>
      obtain ⟨b,hp,_⟩:=uY (j:=7) st rfl (aM hn') (by rw [aM hn,hc])
      rw [hp]; rfl
  · exact bh (by unfold KK.busy; rw [d]; rfl) s1
theorem sp_kern_Begin (x:Ptr) (k:KK) (core env:Int) (c:jy) (hn:k.now < 2 ^ 38):Sp Tryz.prog oh [pv x,.int .i64 core,.int .i64 env,.agg c.C.toArray] aH [dy x k] (fun r=>pa_ (r = (KK.begin_ k core env c).1) [dy x (KK.begin_ k core env c).2]):=by
  intro h s0
  refine sim_kern_Kern_Begin _ _ _ _ ?_
  unfold sf
  have no:(KK.is k core = false∨KK.busy k core = true∨env < 0∨env ≥ k.p.s.fEnvs)→KK.begin_ k core env c = (false,k):=fun hh=>if_pos hh
  refine cd (vu x k core) (i:=0) rfl s0 fun r h1 hr s1=>?_
  subst hr
  refine bi (fun d=>?_) (fun d=>?_)
  · have d':KK.is k core = true:=by simpa using d
    refine cd (nL x k core) (i:=0) rfl s1 fun r h2 hr s2=>?_
    subst hr
    refine bi (fun d2=>?_) (fun d2=>?_)
    · have d2':KK.busy k core = false∧¬ env < 0:=by simpa using d2
      obtain ⟨z,rfl,zo,ok,st⟩:=tQ s2
      refine cJ (bA k.p.s.fEnvs st (i:=0) rfl rfl rfl ?_)
      refine bi (fun d3=>?_) (fun d3=>?_)
      · rw [no (.inr (.inr (.inr (by simpa using d3))))]
        exact bh rfl s2
      · have d3':¬ env ≥ k.p.s.fEnvs:=by simpa using d3
        have ok2:=kok_begin ok (by omega) core env c
        have e1:KK.begin_ k core env c = (true,{ k with now:=IntKind.i64.wrap (k.now + 1),events:=k.events++[KK.ev0 core env c (IntKind.i64.wrap (k.now + 1))],calls:=k.calls.set core.toNat (some ⟨k.events.length,env,c,false,0⟩) }):=by
          unfold KK.begin_; rw [if_neg]; simp [d',d2'.1]; omega
        rw [e1] at ok2 ⊢
        obtain ⟨n,rfl,hcn⟩:=is_nat d'
        have hn':n < z.cp.length:=by rw [zo.c]; exact hcn
        have hcs:=(cq (j:=6) st rfl).1
        have hel:=ok.evn
        refine bA k.now st (i:=0) rfl rfl rfl ?_
        refine tX (i:=0) st rfl (Nat.le_of_ble_eq_true rfl) fun h3 s3=>?_
        refine bA (IntKind.i64.wrap (k.now + 1)) s3 (i:=0) rfl rfl rfl ?_
        refine bA z.es s3 (i:=0) rfl rfl rfl ?_
        refine jv (τ:=ck) (i:=8) (enc:=aJ.C) (val:=fun x=>.agg x.C.toArray) (x:=KK.ev0 n env c (IntKind.i64.wrap (k.now + 1))) pP mX ev_one (fun _=>rfl) (by omega) rfl rfl s3 rfl (by omega) (by omega) fun v h4 s4=>?_
        refine tX (i:=0) s4 rfl (Nat.le_of_ble_eq_true rfl) fun h5 s5=>?_
        refine bA v s5 (i:=0) rfl rfl rfl ?_
        have hvl:=(cq (j:=8) s5 rfl).1
        refine bA z.cs s5 (i:=0) rfl rfl rfl ?_
        have hw:IntKind.i64.wrap ((v.len:Int) - 1) = k.events.length:=by rw [hvl]; rw [bT] <;> simp <;> omega
        rw [hw]
        refine oF s5 fun b68 h6 s6=>?_
        refine dI s6 (j:=7) rfl (by omega) (by omega) fun q hq=>?_
        refine st_v (j:=7) (i:=n) (k:=0) (some (b68,0):Ptr) gK s6 rfl hq (by simp) (aM hn') (by simp) rfl fun h7 s7=>?_
        have s8:=bn [8] s7 rfl
        have s10:=all_but (aM hn') (aM hcn) s8
        have s12:=call_mk (y:=⟨k.events.length,env,c,false,0⟩) (bn [1,0] s10 rfl)
        have s14:=all_in2 (A:=iq) hcn zo.c s12
        refine bh rfl (pO (z:={ z with es:=v,cp:=z.cp.set n (some (b68,0)) }) ⟨zo.t,by simpa using zo.c⟩ ok2 (bn [1,1,1,1,1,1,1,0,0] s14 rfl))
    · rw [no]
      · exact bh rfl s2
      · simp at d2
        cases hb:KK.busy k core with
        | true=>exact .inr (.inl rfl)
        | false=>exact .inr (.inr (.inl (d2 hb)))
  · rw [no (.inl (by simpa using d))]
    exact bh rfl s1
theorem cleans_drop (k:KK) (ls:List Line) (n:Nat) (h:n < ls.length) (b:Buf):KK.cleans k (ls.drop n) b = if KK.stale k ls[n] = true then KK.cleans k (ls.drop (n + 1)) (Tlb.flush b ls[n].fEnv ls[n].fPage).2 else KK.cleans k (ls.drop (n + 1)) b:=by
  rw [List.drop_eq_getElem_cons h,KK.cleans]
theorem sp_kern_clean (z:KZ) (k:KK) (c:Nat) (hc:c < k.calls.length) (zo:KZ.Ok z k) (ok:KK.Ok k) :
    Sp Tryz.prog kF [pv (some (z.b,0)),.int .i64 c] R_ (lT z k) (fun _=>aN (lT z (KK.clean k c))):=by
  intro h s0
  obtain ⟨l1,l2,l3,l4,l5⟩:=kk_len ok
  have hct:c < k.tlbs.length:=by omega
  have hcp:c < z.tp.length:=by rw [zo.t]; exact hct
  have hts:=(cq (j:=2) s0 rfl).1
  refine sim_kern_Kern_clean _ _ ?_
  unfold se
  refine cJ (bA z.ts s0 (i:=0) rfl rfl rfl ?_)
  refine dI s0 (j:=2) rfl (by omega) (by omega) fun q hq=>?_
  refine eE (j:=2) (i:=c) (k:=0) z.tp[c] gK s0 rfl hq (by simp) (aM hcp) (by simp) ?_
  have s1:=jf (aM hcp) (aM hct) (bn [3] s0 rfl)
  refine cl_n (sp_tlb_Lines z.tp[c] k.tlbs[c]) (i:=0) rfl s1 fun r h2 s2=>?_
  have s3:=vb (aM hcp) (aM hct) zo.t (bn [1,1] s2 rfl)
  have s4:aN (vL r (Tlb.lines k.tlbs[c])::lT z k) h2:=bn [1,1,1,1,0] s3 rfl
  have hll:(Tlb.lines k.tlbs[c]).length = 8:=by
    obtain ⟨_,_,h8,_⟩:=nG s1
    unfold Tlb.lines; simpa using h8
  have hrl:=(cq (j:=0) s4 rfl).1
  have hbuf:KK.buf k c = k.tlbs[c]:=buf_nat hct
  have same:k.tlbs.set c k.tlbs[c] = k.tlbs:=iD (aM hct)
  refine Lp.intro (fun (i:Int) h=>∃ (n:Nat) (b:Buf),i = n∧n ≤ 8∧KK.cleans k ((Tlb.lines k.tlbs[c]).drop n) b = KK.cleans k (Tlb.lines k.tlbs[c]) k.tlbs[c]∧aN (vL r (Tlb.lines k.tlbs[c])::lT z { k with tlbs:=k.tlbs.set c b }) h) (fun (i:Int) _=>8 - i.toNat) ⟨0,k.tlbs[c],rfl,Nat.zero_le _,rfl,by rw [same]; exact s4⟩ ?_
  rintro i h ⟨n,b,rfl,hn,he,s5⟩
  unfold mW
  refine bi (fun d=>?_) (fun d=>?_)
  · have hlt:n < (Tlb.lines k.tlbs[c]).length:=by rw [hrl] at d; simpa using d
    have hw:IntKind.i64.wrap ((n:Int) + 1) = ((n + 1:Nat):Int):=by rw [bT (by omega) (by omega)]; rfl
    rw [cleans_drop k _ n hlt] at he
    refine dI s5 (j:=0) rfl (by omega) (by omega) fun q2 hq2=>?_
    refine eE (j:=0) (i:=n) (k:=0) (Tlb.lines k.tlbs[c])[n] line_len s5 rfl hq2 (by simp) (aM hlt) (by simp) ?_
    have hcb:c < (k.tlbs.set c b).length:=by simpa using hct
    have hgb:(k.tlbs.set c b)[c] = b:=by simp
    have j1:∀ (o:Bool × Pte) (h:Hp),((decide ((Tlb.lines k.tlbs[c])[n].fEnv ≥ 0)) && (((!o.1) || (o.2.fFrame != (Tlb.lines k.tlbs[c])[n].fFrame)) || (!(bq (Tlb.lines k.tlbs[c])[n].fRights o.2.fRights)))) = KK.stale k (Tlb.lines k.tlbs[c])[n]→aN (vL r (Tlb.lines k.tlbs[c])::lT z { k with tlbs:=k.tlbs.set c b }) h →
        ia c (z.b,0) (fun s' h'=>(∃ (n:Nat) (b:Buf),s' = n∧n ≤ 8∧KK.cleans k ((Tlb.lines k.tlbs[c]).drop n) b = KK.cleans k (Tlb.lines k.tlbs[c]) k.tlbs[c]∧aN (vL r (Tlb.lines k.tlbs[c])::lT z { k with tlbs:=k.tlbs.set c b }) h')∧8 - s'.toNat < 8 - (n:Int).toNat) n (Tlb.lines k.tlbs[c])[n] o h:=by
      intro o h hs s6
      unfold ia
      rw [hs,hw]
      refine bi (fun d2=>?_) (fun d2=>?_)
      · rw [if_pos d2] at he
        refine bA z.ts s6 (i:=1) rfl rfl rfl ?_
        refine dI s6 (j:=3) rfl (by omega) (by omega) fun q3 hq3=>?_
        refine eE (j:=3) (i:=c) (k:=0) z.tp[c] gK s6 rfl hq3 (by simp) (aM hcp) (by simp) ?_
        have s7:=jf (aM hcp) (aM hcb) (bn [4] s6 rfl)
        rw [hgb] at s7
        refine cd (sp_tlb_Flush z.tp[c] b _ _) (i:=0) rfl s7 fun r h8 hr s8=>?_
        have s9:=wF (aM hcp) hcb (by simpa using zo.t) s8
        rw [List.set_set] at s9
        exact ⟨⟨n + 1,_,rfl,by omega,he,bn [1,1,1,1] s9 rfl⟩,by simp; omega⟩
      · rw [if_neg (by rw [d2]; exact Bool.false_ne_true)] at he
        exact ⟨⟨n + 1,b,rfl,by omega,he,s6⟩,by simp; omega⟩
    refine bi (fun d2=>?_) (fun d2=>?_)
    · have d2':0 ≤ (Tlb.lines k.tlbs[c])[n].fEnv:=by simpa using d2
      refine cU [1,1,5,5] (sp_kern_seen z.b z.pp (kcl z k) k.p z.cs z.cp k.calls (Tlb.lines k.tlbs[c])[n].fEnv (Tlb.lines k.tlbs[c])[n].fPage rfl rfl zo.c l5) s5 rfl fun r h6 s6=>?_
      obtain ⟨rfl,s7⟩:=bF.1 s6
      refine j1 _ _ ?_ (bn [4,0,0,2,2,2,2,0,0] s7 rfl)
      unfold KK.stale KK.seen
      rfl
    · have d2':¬ 0 ≤ (Tlb.lines k.tlbs[c])[n].fEnv:=by simpa using d2
      refine j1 _ _ ?_ s5
      unfold KK.stale
      rw [d2,Bool.false_and,Bool.false_and]
  · have:n = 8:=by rw [hrl] at d; simp at d; omega
    subst this
    rw [← hll,List.drop_length] at he
    have e1:KK.clean k c = { k with tlbs:=k.tlbs.set c b }:=by
      unfold KK.clean
      rw [hbuf,← he,Int.toNat_natCast]; rfl
    rw [e1]
    exact cm (l:=[vL r (Tlb.lines k.tlbs[c])]) s5
theorem sp_kern_ends (z:KZ) (k:KK) (c:Nat) (x:KC) (a:gu) (l:Line) (hc:c < k.calls.length) (hx:k.calls[c]? = some (some x)) (zo:KZ.Ok z k) (ok:KK.Ok k) :
    Sp Tryz.prog lF [pv (some (z.b,0)),.int .i64 c,.agg a.C.toArray,.agg l.C.toArray] R_ (lT z k) (fun _=>aN [dy (some (z.b,0)) (KK.ends k c x a l)]):=by
  intro h s0
  have hcp:c < z.cp.length:=by rw [zo.c]; exact hc
  have hcs:=(cq (j:=6) s0 rfl).1
  have hes:=(cq (j:=8) s0 rfl).1
  obtain ⟨xb,hp,_⟩:=uY (j:=7) s0 rfl (aM hcp) hx
  have hcpx:z.cp[c]? = some (some (xb,0)):=by rw [aM hcp,hp]
  have hcok:=ok.cs x (List.mem_of_getElem? hx)
  obtain ⟨i,hi⟩:=Int.eq_ofNat_of_zero_le hcok.1
  have hil:i < k.events.length:=by omega
  refine sim_kern_Kern_ends _ _ _ _ ?_
  unfold tu
  refine cJ (bA z.es s0 (i:=0) rfl rfl rfl ?_)
  refine bA z.cs s0 (i:=0) rfl rfl rfl ?_
  refine dI s0 (j:=6) rfl (by omega) (by omega) fun q hq=>?_
  refine eE (j:=6) (i:=c) (k:=0) z.cp[c] gK s0 rfl hq (by simp) (aM hcp) (by simp) ?_
  rw [hp]
  refine cJ (ld_c1 (j:=7) x.fat s0 rfl hcpx hx rfl rfl ?_)
  rw [hi]
  refine dI s0 (j:=8) rfl (by omega) (by omega) fun q2 hq2=>?_
  refine bA k.now s0 (i:=0) rfl rfl rfl ?_
  refine bA k.now s0 (i:=0) rfl rfl rfl ?_
  refine st_v (j:=8) (i:=i) (k:=8) { k.events[i] with fEffect:=k.now } mX s0 rfl hq2 rfl (aM hil) (by simp) rfl fun h1 s1=>?_
  have e1:(k.events.set i { k.events[i] with fEffect:=k.now })[i]? = some { k.events[i] with fEffect:=k.now }:=by simp [hil]
  refine st_v (j:=8) (i:=i) (k:=9) { k.events[i] with fEffect:=k.now,fEnd:=k.now } mX s1 rfl hq2 rfl e1 (by simp) rfl fun h2 s2=>?_
  simp only [List.set_set] at s2
  have e2:(k.events.set i { k.events[i] with fEffect:=k.now,fEnd:=k.now })[i]? = some { k.events[i] with fEffect:=k.now,fEnd:=k.now }:=by simp [hil]
  refine st_v (j:=8) (i:=i) (k:=10) { k.events[i] with fEffect:=k.now,fEnd:=k.now,fAnswer:=a } mX s2 rfl hq2 rfl e2 (by simp [ak.C]) rfl fun h3 s3=>?_
  simp only [List.set_set] at s3
  have e3:(k.events.set i { k.events[i] with fEffect:=k.now,fEnd:=k.now,fAnswer:=a })[i]? = some { k.events[i] with fEffect:=k.now,fEnd:=k.now,fAnswer:=a }:=by simp [hil]
  refine st_v (j:=8) (i:=i) (k:=12) (KK.evend k.events[i] k.now a l) mX s3 rfl hq2 rfl e3 (by simp [ar.C]) rfl fun h4 s4=>?_
  simp only [List.set_set] at s4
  refine bA z.cs s4 (i:=0) rfl rfl rfl ?_
  refine dI s4 (j:=6) rfl (by omega) (by omega) fun q5 hq5=>?_
  refine st_v (j:=6) (i:=c) (k:=0) (none:Ptr) gK s4 rfl hq5 (by simp) (aM hcp) (by simp) rfl fun h5 s5=>?_
  have s7:=all_but hcpx hx (bn [7] s5 rfl)
  have s8:=star_cons (A:=iq none none) (fun _=>rfl) s7
  have s9:=all_in2 (A:=iq) hc zo.c s8
  have hge:k.events.getD i (KK.ev0 0 0 ⟨0,0,0,0,0⟩ 0) = k.events[i]:=by simp [hil]
  have e4:KK.ends k c x a l = { k with events:=k.events.set i (KK.evend k.events[i] k.now a l),calls:=k.calls.set c none }:=by
    unfold KK.ends; rw [hi,Int.toNat_natCast,Int.toNat_natCast,hge]
  have ok2:=kok_ends ok c x a l
  rw [e4] at ok2 ⊢
  refine pO (z:={ z with cp:=z.cp.set c none }) ⟨zo.t,by simpa using zo.c⟩ ok2 (bn [1,1,1,1,1,1,1,0,0] s9 rfl)
end Go.Proofs.YtniiiakkdoiaiaaGreatDoor
namespace Go.Proofs.YtniiiakkdoiaiaaGreatDoor
open Go Mb
theorem five {x:KC}:∀ (i:Nat) (v:Value),(ao.C x.fc)[i]? = some v→x.C[2 + i]? = some v:=by
  intro j v hv
  have:j < 5:=(List.getElem?_eq_some_iff.1 hv).1
  match j,this with
  | 0,_=>exact hv
  | 1,_=>exact hv
  | 2,_=>exact hv
  | 3,_=>exact hv
  | 4,_=>exact hv
theorem sp_kern_access (z:KZ) (k:KK) (c xb:Nat) (x:KC) (hc:c < k.calls.length) (hx:k.calls[c]? = some (some x)) (hp:z.cp[c]? = some (some (xb,0))) (zo:KZ.Ok z k) (ok:KK.Ok k) :
    Sp Tryz.prog mR [pv (some (z.b,0)),.int .i64 c,pv (some (xb,0))] eF (lT z k) (fun r=>pa_ (r = (KK.access k c x).1) (lT z (KK.access k c x).2)):=by
  intro h s0
  obtain ⟨l1,l2,l3,l4,l5⟩:=kk_len ok
  have hct:c < k.tlbs.length:=by omega
  have hcp:c < z.tp.length:=by rw [zo.t]; exact hct
  have hbuf:KK.buf k c = k.tlbs[c]:=buf_nat hct
  refine sim_kern_Kern_access _ _ _ ?_
  unfold qX
  refine cJ (cJ ?_)
  refine ld_c (j:=7) x.fc s0 rfl hp hx five ?_
  refine bA k.p.s.fEnvs s0 (i:=0) rfl rfl rfl ?_
  refine sX (iV x.fc _) s0 fun r h1 hr s1=>?_
  subst hr
  refine bi (fun d=>?_) (fun d=>?_)
  · have e1:KK.access k c x = ((⟨Word.check x.fc k.p.s.fEnvs,0⟩,mb),k):=if_pos (by simpa using d)
    rw [e1]; exact bh rfl s1
  · have d':¬ Word.check x.fc k.p.s.fEnvs ≠ 0:=by simpa using d
    refine ld_c1 (j:=7) x.fc.e1 s1 rfl hp hx rfl rfl ?_
    refine li nJ s1 fun r37 h2 s2=>?_
    refine ld_c1 (j:=8) x.fenv s2 rfl hp hx rfl rfl ?_
    refine cU [1,1,5,5] (sp_kern_seen z.b z.pp (kcl z k) k.p z.cs z.cp k.calls x.fenv (IntKind.i64.wrap x.fc.e1) rfl rfl zo.c l5) s2 rfl fun r h3 s3=>?_
    obtain ⟨hr,s4⟩:=bF.1 s3
    have hr':r = KK.seen k x.fenv (IntKind.i64.wrap x.fc.e1):=hr
    subst hr'
    have s5:aN (da r37 (List.replicate 8 eo)::lT z k) h3:=bn [4,0,0,2,2,2,2,0,0] s4 rfl
    have j1:∀ h,aN (da r37 (KK.tabFor k x.fenv (IntKind.i64.wrap x.fc.e1))::lT z k) h→gA c (fun r=>pa_ (r = (KK.access k c x).1) (lT z (KK.access k c x).2)) (xb,0) (z.b,0) x.fc.e1 r37 () h:=by
      intro h s6
      have hts:=(cq (j:=3) s6 rfl).1
      unfold gA
      refine ld_c1 (j:=8) x.fc.e0 s6 rfl hp hx rfl rfl ?_
      refine bA z.ts s6 (i:=1) rfl rfl rfl ?_
      refine dI s6 (j:=3) rfl (by omega) (by omega) fun q hq=>?_
      refine eE (j:=3) (i:=c) (k:=0) z.tp[c] gK s6 rfl hq (by simp) (aM hcp) (by simp) ?_
      refine ld_c1 (j:=8) x.fenv s6 rfl hp hx rfl rfl ?_
      have s7:=jf (aM hcp) (aM hct) (bn [4] s6 rfl)
      refine cU [0,1] (sp_user_Walk z.tp[c] r37 k.tlbs[c] (KK.tabFor k x.fenv (IntKind.i64.wrap x.fc.e1)) x.fenv (IntKind.i64.wrap x.fc.e1) (IntKind.i64.wrap x.fc.e0)) s7 rfl fun r h8 s8=>?_
      obtain ⟨hr,s9⟩:=bF.1 s8
      have hr':r = (KK.accWalk k c x).1:=by rw [hr]; unfold KK.accWalk; rw [hbuf]
      have hw:(User.walk k.tlbs[c] (KK.tabFor k x.fenv (IntKind.i64.wrap x.fc.e1)) x.fenv (IntKind.i64.wrap x.fc.e1) (IntKind.i64.wrap x.fc.e0)).2 = (KK.accWalk k c x).2:=by unfold KK.accWalk; rw [hbuf]
      rw [hw] at s9
      subst hr'
      have s10:=wF (aM hcp) hct zo.t (bn [0,1] s9 rfl)
      refine bi (fun d2=>?_) (fun d2=>?_)
      · have e1:KK.access k c x = ((⟨7,0⟩,mb),{ k with tlbs:=k.tlbs.set c (KK.accWalk k c x).2 }):=by
          unfold KK.access; rw [if_neg d',if_pos (by simpa using d2),Int.toNat_natCast]
        rw [e1]
        exact bh rfl (cm (l:=[da r37 _]) (bn [1,1,1,1,0] s10 rfl))
      · have e1:KK.access k c x = (((PK.touch k.p (KK.accWalk k c x).1.1.fFrame x.fc).1.1,(KK.accWalk k c x).1.1),{ k with tlbs:=k.tlbs.set c (KK.accWalk k c x).2,p:=(PK.touch k.p (KK.accWalk k c x).1.1.fFrame x.fc).2 }):=by
          unfold KK.access; rw [if_neg d',if_neg (by simpa using d2),Int.toNat_natCast]
        rw [e1]
        refine bA z.pp s10 (i:=2) rfl rfl rfl ?_
        refine ld_c (j:=8) x.fc s10 rfl hp hx five ?_
        refine cd (nK z.pp k.p _ x.fc) (i:=3) rfl s10 fun r h11 hr s11=>?_
        subst hr
        have hs:=touch_s k.p (KK.accWalk k c x).1.1.fFrame x.fc
        refine bh rfl ?_
        have s12:=cm (l:=[da r37 _]) (bn [1,1,1,1,0] s11 rfl)
        have ek:kcl z { k with tlbs:=k.tlbs.set c (KK.accWalk k c x).2,p:=(PK.touch k.p (KK.accWalk k c x).1.1.fFrame x.fc).2 } = kcl z k:=by
          show [pv z.pp,Value.int .i64 (PK.touch k.p (KK.accWalk k c x).1.1.fFrame x.fc).2.s.fEnvs,_,_,_,_,_,_] = _
          rw [hs]
        show aN (blk z.b co (kcl z _)::_) _
        rw [ek]
        exact s12
    refine bi (fun d2=>?_) (fun d2=>?_)
    · refine cd (jT r37 _ (IntKind.i64.wrap x.fc.e1) (KK.seen k x.fenv (IntKind.i64.wrap x.fc.e1)).1) (i:=0) rfl s5 fun r h6 hr s6=>j1 _ ?_
      have e1:KK.tabFor k x.fenv (IntKind.i64.wrap x.fc.e1) = (Table.insert (List.replicate 8 eo) (IntKind.i64.wrap x.fc.e1) (KK.seen k x.fenv (IntKind.i64.wrap x.fc.e1)).1).2:=if_pos d2
      rw [e1]; exact s6
    · have e1:KK.tabFor k x.fenv (IntKind.i64.wrap x.fc.e1) = List.replicate 8 eo:=if_neg (by rw [d2]; exact Bool.false_ne_true)
      exact j1 _ (by rw [e1]; exact s5)
theorem access_calls (k:KK) (c:Int) (x:KC):(KK.access k c x).2.calls = k.calls:=by
  unfold KK.access
  repeat' split
  all_goals rfl
theorem access_tlen (k:KK) (c:Int) (x:KC):(KK.access k c x).2.tlbs.length = k.tlbs.length:=by
  unfold KK.access
  repeat' split
  all_goals simp
theorem kz_tlbs {z:KZ} {k k':KK} (zo:KZ.Ok z k) (h1:k'.tlbs.length = k.tlbs.length) (h2:k'.calls.length = k.calls.length):KZ.Ok z k':=⟨by rw [h1]; exact zo.t,by rw [h2]; exact zo.c⟩
theorem sp_kern_Step (x:Ptr) (k:KK) (c:Int) (hn:k.now < 2 ^ 37):Sp Tryz.prog py [pv x,.int .i64 c] aH [dy x k] (fun r=>pa_ (r = (KK.step k c).1) [dy x (KK.step k c).2]):=by
  intro h s0
  refine sim_kern_Kern_Step _ _ ?_
  unfold tv
  refine cd (nL x k c) (i:=0) rfl s0 fun r h1 hr s1=>?_
  subst hr
  refine bi (fun d=>?_) (fun d=>?_)
  · have e1:KK.step k c = (false,k):=if_pos (by simpa using d)
    rw [e1]; exact bh rfl s1
  · have d':KK.busy k c = true:=by simpa using d
    obtain ⟨hi,y,hy⟩:=busy_is d'
    have e1:KK.step k c = (true,KK.work (KK.tick k) c y):=by unfold KK.step; rw [if_neg (by simp [d']),hy]
    rw [e1]
    obtain ⟨z,rfl,zo,ok,st⟩:=tQ s1
    have okt:=kok_tick ok (by omega)
    obtain ⟨n,rfl,hnc⟩:=is_nat hi
    obtain ⟨l1,l2,l3,l4,l5⟩:=kk_len ok
    have hnp:n < z.cp.length:=by rw [zo.c]; exact hnc
    have hcs:=(cq (j:=6) st rfl).1
    have hxn:k.calls[n]? = some (some y):=by rw [aM hnc,← call_nat hnc,hy]
    have hep:=ok.epn
    have hwn:=wrapN ok.n0 (show k.now < 2 ^ 40 by omega)
    refine cJ (bA k.now st (i:=0) rfl rfl rfl ?_)
    refine tX (i:=0) st rfl (Nat.le_of_ble_eq_true rfl) fun h2 s2=>?_
    have s3:aN (lT z (KK.tick k)) h2:=s2
    have zot:KZ.Ok z (KK.tick k):=⟨zo.t,zo.c⟩
    have hxt:(KK.tick k).calls[n]? = some (some y):=hxn
    have hyt:KK.call (KK.tick k) n = some y:=hy
    have hit:KK.is (KK.tick k) n = true:=hi
    have hept:((KK.tick k).epochs.1.length:Int) + 1 ≤ (KK.tick k).now:=by show _ ≤ IntKind.i64.wrap (k.now + 1); rw [hwn]; simp only [KK.tick]; omega
    have hnt:(KK.tick k).now ≤ 2 ^ 37:=by show IntKind.i64.wrap (k.now + 1) ≤ _; rw [hwn]; omega
    have okw:=kok_work okt hept hyt hit
    have hnct:n < (KK.tick k).calls.length:=hnc
    generalize KK.tick k = kt at *
    obtain ⟨xb,hp,_⟩:=uY (j:=7) s3 rfl (aM hnp) hxt
    have hpx:z.cp[n]? = some (some (xb,0)):=by rw [aM hnp,hp]
    refine bA z.cs s3 (i:=0) rfl rfl rfl ?_
    refine dI s3 (j:=6) rfl (by omega) (by omega) fun q hq=>?_
    refine eE (j:=6) (i:=n) (k:=0) z.cp[n] gK s3 rfl hq (by simp) (aM hnp) (by simp) ?_
    rw [hp]
    refine cJ (ld_c (j:=7) y.fc s3 rfl hpx hxt five ?_)
    refine bi (fun d2=>?_) (fun d2=>?_)
    · have ew:KK.work kt n y = KK.ends (KK.access kt n y).2 n y (KK.access kt n y).1.1 (KK.access kt n y).1.2:=if_pos d2
      rw [ew]
      have oka:=kok_access okt n y
      have hca:(KK.access kt n y).2.calls = kt.calls:=access_calls _ _ _
      have hta:(KK.access kt n y).2.tlbs.length = kt.tlbs.length:=access_tlen _ _ _
      refine cU [0,0,0,0,0,0,0,0,0] (sp_kern_access z kt n xb y hnct hxt hpx zot okt) s3 rfl fun r h4 s4=>?_
      obtain ⟨hr,s5⟩:=bF.1 s4
      subst hr
      refine cU [0,0,0,0,0,0,0,0,0] (sp_kern_ends z (KK.access kt n y).2 n y (KK.access kt n y).1.1 (KK.access kt n y).1.2 (by rw [hca]; exact hnct) (by rw [hca]; exact hxt) (kz_tlbs zot hta (by rw [hca])) oka) s5 rfl fun r h6 s6=>?_
      exact bh rfl (dF s6)
    · have d2':¬ du (aL y.fc).1 = true:=by rw [d2]; exact Bool.false_ne_true
      have j2:∀ b:Bool,(y.ftold = false∧KK.takes kt.p y = true) = False→b = (y.ftold && !(Epochs.done kt.epochs y.fepoch))→∀ h,aN (lT z kt) h→iP n (fun r=>pa_ (r = true) [dy (some (z.b,0)) (KK.work kt n y)]) (z.b,0) (xb,0) b h:=by
        intro b hno hb h s4
        have ew:KK.work kt n y = (if y.ftold = true∧Epochs.done kt.epochs y.fepoch = false then kt else if (PK.do_ kt.p y.fenv y.fc).1.2 = true then KK.ends { kt with p:=(PK.do_ kt.p y.fenv y.fc).2 } n y (PK.do_ kt.p y.fenv y.fc).1.1 mb else { kt with p:=(PK.do_ kt.p y.fenv y.fc).2 }):=by
          unfold KK.work
          rw [if_neg d2',if_neg (by rw [hno]; exact not_false)]
        rw [ew] at okw ⊢
        unfold iP
        refine bi (fun d4=>?_) (fun d4=>?_)
        · have d4':y.ftold = true∧Epochs.done kt.epochs y.fepoch = false:=by rw [hb] at d4; simpa using d4
          rw [if_pos d4']
          exact bh rfl (pO zot okt s4)
        · have d4':¬ (y.ftold = true∧Epochs.done kt.epochs y.fepoch = false):=by rw [hb] at d4; simpa using d4
          rw [if_neg d4'] at okw ⊢
          refine bA z.pp s4 (i:=0) rfl rfl rfl ?_
          refine ld_c1 (j:=7) y.fenv s4 rfl hpx hxt rfl rfl ?_
          refine ld_c (j:=7) y.fc s4 rfl hpx hxt five ?_
          refine cd (jB z.pp kt.p y.fenv y.fc) (i:=1) rfl s4 fun r h5 hr s5=>?_
          subst hr
          have hs:=do_s kt.p y.fenv y.fc
          have s6:aN (lT z { kt with p:=(PK.do_ kt.p y.fenv y.fc).2 }) h5:=by
            show aN (blk z.b co [pv z.pp,Value.int .i64 (PK.do_ kt.p y.fenv y.fc).2.s.fEnvs,_,_,_,_,_,_]::_) _
            rw [hs]; exact s5
          have okp:=kok_p okt (ok_do okt.p y.fenv y.fc) hs
          refine bi (fun d5=>?_) (fun d5=>?_)
          · rw [if_pos d5]
            refine cU [0,0,0,0,0,0,0,0,0] (sp_kern_ends z { kt with p:=(PK.do_ kt.p y.fenv y.fc).2 } n y (PK.do_ kt.p y.fenv y.fc).1.1 mb hnct hxt ⟨zot.t,zot.c⟩ okp) s6 rfl fun r h7 s7=>?_
            exact bh rfl (dF s7)
          · rw [if_neg (by rw [d5]; exact Bool.false_ne_true)]
            exact bh rfl (pO (k:={ kt with p:=_ }) ⟨zot.t,zot.c⟩ okp s6)
      refine ld_c1 (j:=7) y.ftold s3 rfl hpx hxt rfl rfl ?_
      refine bi (fun d3=>?_) (fun d3=>?_)
      · have d3':y.ftold = false:=by simpa using d3
        obtain ⟨xb',hp',s4⟩:=call_out hpx hxt (bn [7] s3 rfl)
        cases hp'
        refine cU [2,0,1] (sp_kern_takes z.b xb z.pp (kcl z kt) kt.p y rfl rfl) s4 rfl fun r h5 s5=>?_
        obtain ⟨hr,s6⟩:=bF.1 s5
        subst hr
        unfold iQ
        refine bi (fun d4=>?_) (fun d4=>?_)
        · have ew:KK.work kt n y = KK.send (KK.clean (KK.tell kt n y) n) n y:=by unfold KK.work; rw [if_neg d2',if_pos ⟨d3',d4⟩]
          rw [ew] at okw ⊢
          refine tX (i:=1) s6 rfl (Nat.le_of_ble_eq_true rfl) fun h7 s7=>?_
          have s8:=call_in (y:={ y with ftold:=true }) hpx hnct zot.c (bn [1,2] s7 rfl)
          have s9:aN (lT z (KK.tell kt n y)) h7:=bn [1,1,1,1,1,1,1,0,0] s8 rfl
          have okl:KK.Ok (KK.tell kt n y):=kok_call okt n hyt (y:={ y with ftold:=true }) rfl rfl
          have hll:n < (KK.tell kt n y).calls.length:=by simpa [KK.tell] using hnct
          have zol:KZ.Ok z (KK.tell kt n y):=⟨zot.t,by simpa [KK.tell] using zot.c⟩
          refine cU [0,0,0,0,0,0,0,0,0] (sp_kern_clean z (KK.tell kt n y) n hll zol okl) s9 rfl fun r h10 s10=>?_
          have s11:=dF s10
          have hcc:(KK.clean (KK.tell kt n y) n).calls[n]? = some (some { y with ftold:=true }):=by simp [KK.clean,KK.tell,hnct]
          have okc:=kok_clean okl n
          have zoc:KZ.Ok z (KK.clean (KK.tell kt n y) n):=⟨by simpa [KK.clean] using zol.t,zol.c⟩
          have hepc:((KK.clean (KK.tell kt n y) n).epochs.1.length:Int) + 1 ≤ kt.now:=hept
          have hbx:=okc.bx
          have htl:(KK.clean (KK.tell kt n y) n).calls = kt.calls.set n (some { y with ftold:=true }):=rfl
          have hnow:(KK.clean (KK.tell kt n y) n).now = kt.now:=rfl
          generalize KK.clean (KK.tell kt n y) n = kc at *
          have hncc:n < kc.calls.length:=by rw [htl]; simpa using hnct
          refine bA z.pe s11 (i:=0) rfl rfl rfl ?_
          refine cd (sp_epoch_Begin z.pe kc.epochs n (by omega)) (i:=5) rfl s11 fun r h12 hr s12=>?_
          subst hr
          obtain ⟨xb',hp',s13⟩:=call_out hpx hcc (bn [7] s12 rfl)
          cases hp'
          refine tX (i:=0) s13 rfl (Nat.le_of_ble_eq_true rfl) fun h14 s14=>?_
          have s15:=call_in (y:={ y with ftold:=true,fepoch:=(Epochs.begin_ kc.epochs n).1.1 }) hpx hncc zoc.c s14
          refine bA z.pm s15 (i:=1) rfl rfl rfl ?_
          have hxe:(kc.calls.set n (some { y with ftold:=true,fepoch:=(Epochs.begin_ kc.epochs n).1.1 }))[n]? = some (some { y with ftold:=true,fepoch:=(Epochs.begin_ kc.epochs n).1.1 }):=by simp [hncc]
          refine ld_c1 (j:=0) (Epochs.begin_ kc.epochs n).1.1 s15 rfl hpx hxe rfl rfl ?_
          have he:Epochs.is kc.epochs n = true:=by
            unfold Epochs.is
            have:=okc.el
            have:=okc.cl
            exact decide_eq_true (by omega)
          have eb:(Epochs.begin_ kc.epochs n).1.1 = (kc.epochs.1.length:Int) + 1:=by unfold Epochs.begin_; rw [if_pos he]
          refine cd (sp_mail_All z.pm kc.boxes n (Epochs.begin_ kc.epochs n).1.1 ?_) (i:=5) rfl s15 fun r h16 hr s16=>?_
          · intro l hl
            rw [eb]
            exact box_fit (hbx l hl) (by omega)
          · refine bh rfl (pO (k:=KK.send kc n y) ⟨zoc.t,by simpa [KK.send] using zoc.c⟩ okw (bn [1,1,1,1,1,1,1,0,0] s16 rfl))
        · have hno:(y.ftold = false∧KK.takes kt.p y = true) = False:=by simp [d4]
          have s8:=call_in (y:=y) hpx hnct zot.c (bn [1,2] s6 rfl)
          rw [iD hxt] at s8
          have s9:aN (lT z kt) h5:=bn [1,1,1,1,1,1,1,0,0] s8 rfl
          refine ld_c1 (j:=7) y.ftold s9 rfl hpx hxt rfl rfl ?_
          refine dJ d3' ?_
          exact j2 false hno (by rw [d3']; rfl) _ s9
      · have d3':y.ftold = true:=by simpa using d3
        unfold iQ
        refine dJ rfl ?_
        refine ld_c1 (j:=7) y.ftold s3 rfl hpx hxt rfl rfl ?_
        refine dN d3' ?_
        refine bA z.pe s3 (i:=0) rfl rfl rfl ?_
        refine ld_c1 (j:=7) y.fepoch s3 rfl hpx hxt rfl rfl ?_
        refine cd (sp_epoch_Done z.pe kt.epochs y.fepoch) (i:=5) rfl s3 fun r h4 hr s4=>?_
        subst hr
        exact j2 _ (by simp [d3']) (by rw [d3']; rfl) _ s4
theorem sp_kern_Post (x:Ptr) (k:KK) (c:Int) (hn:k.now < 2 ^ 37):Sp Tryz.prog pz [pv x,.int .i64 c] aH [dy x k] (fun r=>pa_ (r = (KK.post k c).1) [dy x (KK.post k c).2]):=by
  intro h s0
  refine sim_kern_Kern_Post _ _ ?_
  unfold tw
  refine cd (vu x k c) (i:=0) rfl s0 fun r h1 hr s1=>?_
  subst hr
  refine bi (fun d=>?_) (fun d=>?_)
  · have e1:KK.post k c = (false,k):=if_pos (by simpa using d)
    rw [e1]; exact bh rfl s1
  · have d':KK.is k c = true:=by simpa using d
    obtain ⟨z,rfl,zo,ok,st⟩:=tQ s1
    have okp:=kok_post ok (by omega) c
    obtain ⟨n,rfl,hnc⟩:=is_nat d'
    refine cJ (bA z.pm st (i:=0) rfl rfl rfl ?_)
    refine cd (sp_mail_Take z.pm k.boxes n) (i:=4) rfl st fun r h2 hr s2=>?_
    subst hr
    refine bi (fun d2=>?_) (fun d2=>?_)
    · have d2':(Mail.take k.boxes n).1.2 = false:=by simpa using d2
      have e1:KK.post k n = (false,k):=by unfold KK.post; rw [if_neg (by simp [d']),if_pos d2']
      have e2:(Mail.take k.boxes n).2 = k.boxes:=by
        unfold Mail.take at d2' ⊢; split
        · rfl
        · rename_i hh; rw [if_neg hh] at d2'; cases d2'
      rw [e1]
      rw [e2] at s2
      exact bh rfl (pO zo ok s2)
    · have e1:KK.post k n = (true,{ KK.clean { KK.tick k with boxes:=(Mail.take k.boxes n).2 } n with epochs:=(Epochs.ack k.epochs n (Mail.take k.boxes n).1.1).2 }):=by
        unfold KK.post; rw [if_neg (by simp [d']),if_neg (by simpa using d2)]
      rw [e1] at okp ⊢
      refine bA k.now s2 (i:=0) rfl rfl rfl ?_
      refine tX (i:=0) s2 rfl (Nat.le_of_ble_eq_true rfl) fun h3 s3=>?_
      have s4:aN (lT z { KK.tick k with boxes:=(Mail.take k.boxes n).2 }) h3:=s3
      have okt:=kok_tick ok (by omega)
      have hbl:(Mail.take k.boxes n).2.length = k.boxes.length:=by unfold Mail.take; split <;> simp
      have hb:∀ l ∈ (Mail.take k.boxes n).2,lU k.epochs.1.length l:=by
        unfold Mail.take; split
        · exact ok.bx
        · exact boxes_set ok.bx _ (box_drop (box_of ok.bx n))
      have ok2:KK.Ok { KK.tick k with boxes:=(Mail.take k.boxes n).2 }:=⟨okt.p,okt.tl,by simp only [hbl]; exact ok.bl,okt.el,okt.cl,okt.cs,okt.n0,okt.evn,okt.epn,hb⟩
      refine cU [0,0,0,0,0,0,0,0,0] (sp_kern_clean z { KK.tick k with boxes:=(Mail.take k.boxes n).2 } n hnc ⟨zo.t,zo.c⟩ ok2) s4 rfl fun r h5 s5=>?_
      have s6:=dF s5
      refine bA z.pe s6 (i:=0) rfl rfl rfl ?_
      refine cd (sp_epoch_Ack z.pe k.epochs n _) (i:=5) rfl s6 fun r h7 hr s7=>?_
      refine bh rfl (pO (z:=z) ⟨?_,zo.c⟩ okp s7)
      simpa [KK.clean,KK.tick] using zo.t
theorem sp_kern_Mail (x:Ptr) (k:KK) (c:Int):Sp Tryz.prog pA [pv x,.int .i64 c] dV [dy x k] (fun r=>pa_ (r = KK.mail k c) [dy x k]):=by
  intro h s0
  refine sim_kern_Kern_Mail _ _ ?_
  unfold tx
  refine cd (vu x k c) (i:=0) rfl s0 fun r h1 hr s1=>?_
  subst hr
  refine bi (fun d=>?_) (fun d=>?_)
  · exact bh (by unfold KK.mail; rw [if_neg (by simpa using d)]) s1
  · obtain ⟨z,rfl,zo,ok,st⟩:=tQ s1
    refine cJ (bA z.pm st (i:=0) rfl rfl rfl ?_)
    refine cd (sp_mail_Waits z.pm k.boxes c) (i:=4) rfl st fun r h2 hr s2=>?_
    exact bh (by unfold KK.mail; rw [if_pos (by simpa using d),hr]) (pO zo ok s2)
theorem sp_slices_CloneE (s:Sl) (xs:List ck) (hb:xs.length < 2 ^ 38):Sp Tryz.prog eN [sv s] eL [vE s xs] (fun r=>aN [vE r xs,vE s xs]):=by
  intro h s0
  refine lV _ ?_
  unfold gO
  refine bi (fun k=>?_) (fun k=>?_)
  · have hn:xs = []:=by
      obtain ⟨_,⟨e1,e2,e3⟩,_⟩:=ef (i:=0) rfl s0
      rcases e3 with ⟨_,e3⟩ | ⟨b,pre,rest,h4,_⟩
      · exact List.eq_nil_of_length_eq_zero (by omega)
      · rw [h4] at k; cases k
    subst hn
    exact fg s0
  · refine fq (τ:=ck) [] (val:=fun x=>.agg x.C.toArray) (enc:=aJ.C) pP mX (fun _=>rfl) s0 rfl rfl (by simp) fun y h' s1=>?_
    refine qw (τ:=ck) (i:=0) (j:=1) (enc:=aJ.C) (xs:=[]) (ys:=xs) pP pP.sl mX ev_one s1 rfl rfl (by omega) (by simp; omega) (by simp; omega) fun v h2 s2=>?_
    exact s2
theorem sp_kern_Events (x:Ptr) (k:KK) (hb:k.now < 2 ^ 38):Sp Tryz.prog hU [pv x] eL [dy x k] (fun r=>aN [vE r k.events,dy x k]):=by
  intro h s0
  obtain ⟨z,rfl,zo,ok,st⟩:=tQ s0
  have:=ok.evn
  refine sim_kern_Kern_Events _ ?_
  unfold qY
  refine dJ rfl (cJ (bA z.es st (i:=0) rfl rfl rfl ?_))
  refine cl_n (sp_slices_CloneE z.es k.events (by omega)) (i:=8) rfl st fun r h1 s1=>?_
  exact star_tail s1 fun h2 s2=>pO zo ok s2
end Go.Proofs.YtniiiakkdoiaiaaGreatDoor
namespace Go.Proofs.YtniiiakkdoiaiaaGreatDoor
open Go Mb
set_option linter.unusedVariables false
def eT (a0:Ptr) (Rec7:(Bool × Int)→Hp→Prop) (s6:Bool × Int) (s11:Unit):Hp→Prop:=cl Tryz.prog fL [(pv a0),(.int .i64 s6.2)] aH fun r37=>cl Tryz.prog fL [(pv a0),(.int .i64 s6.2)] aH fun r43=>br r43 ( cl Tryz.prog py [(pv a0),(.int .i64 s6.2)] aH fun r46=>Rec7 ((r37 || s6.1),(IntKind.i64.wrap (s6.2 + 1)))) ( Rec7 ((r37 || s6.1),(IntKind.i64.wrap (s6.2 + 1))))
def gg (a0:Ptr) (Rec7:(Bool × Int)→Hp→Prop) (s6:Bool × Int) (Rec20:Int→Hp→Prop) (s19:Int):Hp→Prop:=br (decide (s19 < 5000)) ( cl Tryz.prog pA [(pv a0),(.int .i64 s6.2)] dV fun r27=>br (decide (r27 > 0)) ( cl Tryz.prog pz [(pv a0),(.int .i64 s6.2)] aH fun r34=>Rec20 (IntKind.i64.wrap (s19 + 1))) ( eT a0 Rec7 s6 ())) ( eT a0 Rec7 s6 ())
def gh (a0:Ptr) (a1:Int) (K:Bool→Hp→Prop) (Rec2:Int→Hp→Prop) (s1:Int) (Rec7:(Bool × Int)→Hp→Prop) (s6:Bool × Int):Hp→Prop:=br (decide (s6.2 < a1)) ( Lp (gg a0 Rec7 s6) 0) ( br (!s6.1) ( K true) ( Rec2 (IntKind.i64.wrap (s1 + 1))))
def gf (a0:Ptr) (a1:Int) (K:Bool→Hp→Prop) (Rec34:Int→Hp→Prop) (s33:Int):Hp→Prop:=br (decide (s33 < a1)) ( cl Tryz.prog fL [(pv a0),(.int .i64 s33)] aH fun r56=>br r56 ( K false) ( Rec34 (IntKind.i64.wrap (s33 + 1)))) ( K true)
def jr (a0:Ptr) (a1:Int) (a2:Int) (K:Bool→Hp→Prop) (Rec2:Int→Hp→Prop) (s1:Int):Hp→Prop:=br (decide (s1 < a2)) ( Lp (gh a0 a1 K Rec2 s1) (false,0)) ( Lp (gf a0 a1 K) 0)
def nj (a0:Ptr) (a1:Int) (a2:Int) (K:Bool→Hp→Prop):Hp→Prop:=Lp (jr a0 a1 a2 K) 0
set_option maxRecDepth 20000 in
theorem uc (a0:Ptr) (a1:Int) (a2:Int) {K:Bool→Hp→Prop} {h:Hp} (H:nj a0 a1 a2 K h):Ct Tryz.prog gI #[(pv a0),(.int .i64 a1),(.int .i64 a2)] h fun v h'=>∃ r,v = aH r∧K r h':=aB [(pv a0),(.int .i64 a1),(.int .i64 a2)] Tryz.func39 rfl rfl rfl fun _=>ag<|ab<|aa (ae rfl) rfl<|ad<|ag<|ag<|ab<|aa (ae rfl) rfl<|ad<|aE<|bO (step:=jr a0 a1 a2 K) (fun s1=>[(0,(pv a0)),(1,(.int .i64 a1)),(2,(.int .i64 a2)),(7,(.int .i64 s1))]) (fun s1=>[]) H (.cons rfl (.cons rfl (.cons rfl (.cons rfl (.nil _))))) .slnil (fun Rec2 s1 _ H3=>ag<|ag<|ab<|aa (ac rfl) rfl<|aa (ac rfl) rfl<|aa (cG rfl rfl) rfl<|ad<|aC rfl H3 (fun k4 H5=>au<|ag<|aE<|ag<|ab<|aa (ae rfl) rfl<|ad<|ag<|ag<|ab<|aa (ae rfl) rfl<|ad<|aE<|bO (step:=gh a0 a1 K Rec2 s1) (fun s6=>[(0,(pv a0)),(1,(.int .i64 a1)),(2,(.int .i64 a2)),(7,(.int .i64 s1)),(8,(.bool s6.1)),(9,(.int .i64 s6.2))]) (fun s6=>[]) H5 (.cons rfl (.cons rfl (.cons rfl (.cons rfl (.cons rfl (.cons rfl (.nil _))))))) .slnil (fun Rec7 s6 _ H8=>ag<|ag<|ab<|aa (ac rfl) rfl<|aa (ac rfl) rfl<|aa (cG rfl rfl) rfl<|ad<|aC rfl H8 (fun k9 H10=>au<|ag<|aE<|eB (eT a0 Rec7 s6) (fun s11=>[(0,(pv a0)),(1,(.int .i64 a1)),(2,(.int .i64 a2)),(7,(.int .i64 s1)),(8,(.bool s6.1)),(9,(.int .i64 s6.2))]) (fun s11=>[]) ( ag<|ab<|aa (ae rfl) rfl<|ad<|aE<|bO (step:=gg a0 Rec7 s6) (fun s19=>[(0,(pv a0)),(1,(.int .i64 a1)),(2,(.int .i64 a2)),(7,(.int .i64 s1)),(8,(.bool s6.1)),(9,(.int .i64 s6.2)),(10,(.int .i64 s19))]) (fun s19=>[]) H10 (.cons rfl (.cons rfl (.cons rfl (.cons rfl (.cons rfl (.cons rfl (.cons rfl (.nil _)))))))) .slnil (fun Rec20 s19 _ H21=>ag<|ag<|ab<|aa (ac rfl) rfl<|aa (cG rfl rfl) rfl<|aa (ac rfl) rfl<|aj rfl rfl rfl (aA _) (fun g22=>wv (ac rfl)) rfl<|aj rfl rfl rfl (aA _) (fun g23=>wv (ac rfl)) rfl<|bX H21 (fun k25 H26=>aK rfl rfl rfl (congrArg Value.bool k25) (az H26 en_45 (aZ (aI rfl k25) (aZ (aI rfl k25) bW)) rfl fun r27 _ H27=>aK rfl rfl rfl (congrArg Value.bool k25) (aO (wv (pW rfl rfl)) rfl<|aa (bd rfl k25 rfl) rfl<|ad<|aC rfl H27 (fun k28 H29=>au<|ag<|aE<|ab<|aa (ac rfl) rfl<|aa (ac rfl) rfl<|ai (az H29 en_31 rfl rfl fun r34 _ H30=>ad<|ab<|aa (ac rfl) rfl<|aa (bE rfl rfl) rfl<|aa (ae rfl) rfl<|ad<|cT (IntKind.i64.wrap (s19 + 1)) H30 (.cons rfl (.cons rfl (.cons rfl (.cons rfl (.cons rfl (.cons rfl (.cons rfl (.nil _)))))))) .slnil)) (fun k28 H29=>bz<|cO () H29 (.cons rfl (.cons rfl (.cons rfl (.cons rfl (.cons rfl (.cons rfl (.nil _))))))) .slnil)))) (fun k25 H26=>al rfl rfl rfl (bb k25) rfl<|al rfl rfl rfl (bb k25) rfl<|aa (ax rfl k25 rfl) rfl<|ad<|ev_no rfl rfl<|bz<|cO () H26 (.cons rfl (.cons rfl (.cons rfl (.cons rfl (.cons rfl (.cons rfl (.nil _))))))) .slnil))) (fun s11 _ H12=>ag<|ab<|aa (ac rfl) rfl<|aa (ac rfl) rfl<|ai (az H12 en_34 rfl rfl fun r37 _ H13=>aa (ac rfl) rfl<|aj rfl rfl rfl (aV _) (fun g14=>wv (ac rfl)) rfl<|aa (dA rfl rfl) rfl<|aa (ae rfl) rfl<|ad<|ag<|ab<|aa (ac rfl) rfl<|aa (ac rfl) rfl<|ai (az H13 en_34 rfl rfl fun r43 _ H15=>ad<|aC rfl H15 (fun k16 H17=>ab<|aa (ac rfl) rfl<|aa (ac rfl) rfl<|ai (az H17 en_30 rfl rfl fun r46 _ H18=>ad<|ab<|aa (ac rfl) rfl<|aa (bE rfl rfl) rfl<|aa (ae rfl) rfl<|ad<|cT ((r37 || s6.1),(IntKind.i64.wrap (s6.2 + 1))) H18 (.cons rfl (.cons rfl (.cons rfl (.cons rfl (.cons rfl (.cons rfl (.nil _))))))) .slnil)) (fun k16 H17=>au<|ab<|aa (ac rfl) rfl<|aa (bE rfl rfl) rfl<|aa (ae rfl) rfl<|ad<|cT ((r37 || s6.1),(IntKind.i64.wrap (s6.2 + 1))) H17 (.cons rfl (.cons rfl (.cons rfl (.cons rfl (.cons rfl (.cons rfl (.nil _))))))) .slnil))))) (fun k9 H10=>bz<|ag<|ab<|aa (ac rfl) rfl<|aa (cx rfl) rfl<|ad<|aC rfl H10 (fun k31 H32=>ag<|ab<|aa (ae rfl) rfl<|ad<|an<|av (ay rfl (aD rfl)) ⟨true,rfl,H32⟩) (fun k31 H32=>au<|ab<|aa (ac rfl) rfl<|aa (bE rfl rfl) rfl<|aa (ae rfl) rfl<|ad<|cT (IntKind.i64.wrap (s1 + 1)) H32 (.cons rfl (.cons rfl (.cons rfl (.cons rfl (.nil _))))) .slnil)))) (fun k4 H5=>bz<|ag<|ag<|ab<|aa (ae rfl) rfl<|ad<|aE<|bO (step:=gf a0 a1 K) (fun s33=>[(0,(pv a0)),(1,(.int .i64 a1)),(11,(.int .i64 s33))]) (fun s33=>[]) H5 (.cons rfl (.cons rfl (.cons rfl (.nil _)))) .slnil (fun Rec34 s33 _ H35=>ag<|ag<|ab<|aa (ac rfl) rfl<|aa (ac rfl) rfl<|aa (cG rfl rfl) rfl<|ad<|aC rfl H35 (fun k36 H37=>au<|ag<|aE<|ag<|ab<|aa (ac rfl) rfl<|aa (ac rfl) rfl<|ai (az H37 en_34 rfl rfl fun r56 _ H38=>ad<|aC rfl H38 (fun k39 H40=>ag<|ab<|aa (ae rfl) rfl<|ad<|an<|av (ay rfl (aD rfl)) ⟨false,rfl,H40⟩) (fun k39 H40=>au<|ab<|aa (ac rfl) rfl<|aa (bE rfl rfl) rfl<|aa (ae rfl) rfl<|ad<|cT (IntKind.i64.wrap (s33 + 1)) H40 (.cons rfl (.cons rfl (.cons rfl (.nil _)))) .slnil))) (fun k36 H37=>bz<|ag<|ab<|aa (ae rfl) rfl<|ad<|an<|av (ay rfl (aD rfl)) ⟨true,rfl,H37⟩))))
def fW (a1:Int) (K:(ak × Bool)→Hp→Prop) (r24:Sl) (Rec9:(Int × ak)→Hp→Prop) (s8:Int × ak):Hp→Prop:=br (decide (s8.1 ≥ 0)) ( ix r24 s8.1 fun q34=>ld (q34.1,q34.2 + Int.toNat s8.1 * 16 + 0) (cI .i64) fun x36=>br (x36 == a1) ( both ( ld (q34.1,q34.2 + Int.toNat s8.1 * 16 + 10) ak.C fun x43=>ld (q34.1,q34.2 + Int.toNat s8.1 * 16 + 9) (cI .i64) fun x48=>K (x43,(decide (x48 > 0)))) ( ld (q34.1,q34.2 + Int.toNat s8.1 * 16 + 9) (cI .i64) fun x48=>ld (q34.1,q34.2 + Int.toNat s8.1 * 16 + 10) ak.C fun x43=>K (x43,(decide (x48 > 0))))) ( Rec9 ((IntKind.i64.wrap (s8.1 - 1)),s8.2))) ( K ((⟨0,0⟩:ak),false))
def qi (a0:Ptr) (a1:Int) (a2:Int) (a3:ao) (K:(ak × Bool)→Hp→Prop):Hp→Prop:=cl Tryz.prog oh [(pv a0),(.int .i64 a1),(.int .i64 a2),(.agg (ao.C a3).toArray)] aH fun r16=>br (!r16) ( K ((⟨0,0⟩:ak),false)) ( cl Tryz.prog gI [(pv a0),(.int .i64 8),(.int .i64 1000)] aH fun r20=>br (!r20) ( K ((⟨0,0⟩:ak),false)) ( cl Tryz.prog hU [(pv a0)] eL fun r24=>Lp (fW a1 K r24) ((IntKind.i64.wrap ((r24.len:Int) - 1)),(⟨0,0⟩:ak))))
set_option maxRecDepth 20000 in
theorem sim_messuagelaw16_Run (a0:Ptr) (a1:Int) (a2:Int) (a3:ao) {K:(ak × Bool)→Hp→Prop} {h:Hp} (H:qi a0 a1 a2 a3 K h):Ct Tryz.prog eA #[(pv a0),(.int .i64 a1),(.int .i64 a2),(.agg (ao.C a3).toArray)] h fun v h'=>∃ r,v = bv r∧K r h':=aB [(pv a0),(.int .i64 a1),(.int .i64 a2),(.agg (ao.C a3).toArray)] Tryz.func38 rfl rfl rfl fun _=>ag<|ab<|ai (cQ (l:=(ao.C a3)) rfl rfl rfl fun b7=>ai (aX (l:=(ak.C (⟨0,0⟩:ak))) df rfl rfl fun b8=>aa (ae rfl) rfl<|ad<|ag<|ag<|ab<|aa (ac rfl) rfl<|aa (ac rfl) rfl<|aa (ac rfl) rfl<|bw (bL (k:=1) ft rfl rfl rfl rfl) rfl<|ai (az H en_33 rfl rfl fun r16 _ H1=>aa (cx rfl) rfl<|ad<|aC rfl H1 (fun k2 H3=>ag<|ab<|aa (bk (vs:=[]) rfl sR) rfl<|ai (aY (k:=0) (vs:=(ak.C (⟨0,0⟩:ak))) bV rfl rfl rfl rfl rfl rfl rfl<|aa (ae rfl) rfl<|ad<|an<|av (cc rfl (bK (k:=0) rfl cF rfl rfl) (aD rfl)) ⟨((⟨0,0⟩:ak),false),rfl,H3⟩)) (fun k2 H3=>au<|ag<|ag<|ab<|aa (ac rfl) rfl<|ai (az H3 en_39 rfl rfl fun r20 _ H4=>aa (cx rfl) rfl<|ad<|aC rfl H4 (fun k5 H6=>ag<|ab<|aa (bk (vs:=[]) rfl sR) rfl<|ai (aY (k:=0) (vs:=(ak.C (⟨0,0⟩:ak))) bV rfl rfl rfl rfl rfl rfl rfl<|aa (ae rfl) rfl<|ad<|an<|av (cc rfl (bK (k:=0) rfl cF rfl rfl) (aD rfl)) ⟨((⟨0,0⟩:ak),false),rfl,H6⟩)) (fun k5 H6=>au<|ag<|ab<|aa (ac rfl) rfl<|ai (az H6 en_37 rfl rfl fun r24 _ H7=>aa (ae rfl) rfl<|ad<|ag<|ag<|ab<|aa (ac rfl) rfl<|aa (dB rfl Tryz.underlying39 rfl) rfl<|aa (sZ rfl rfl) rfl<|aa (ae rfl) rfl<|ad<|aE<|bO (step:=fW a1 K r24) (fun s8=>[(1,(.int .i64 a1)),(8,(.pointer (some ⟨b8,0,none⟩))),(10,(sv r24)),(11,(.int .i64 s8.1))]) (fun s8=>[bx b8 47 (ak.C s8.2)]) H7 (.cons rfl (.cons rfl (.cons rfl (.cons rfl (.nil _))))) (.cons_cons _ (.cons _ .slnil)) (fun Rec9 s8 _ H10=>ag<|ag<|ab<|aa (ac rfl) rfl<|aa (jz rfl rfl) rfl<|ad<|aC rfl H10 (fun k11 H12=>au<|ag<|aE<|ag<|ab<|aa (ac rfl) rfl<|aa (ac rfl) rfl<|ct H12 fun q34 e13 h14 H15=>aa (bG rW (aU rfl (bm e13)) rfl h14) rfl<|aa (am sJ rfl) rfl<|ai (bf H15 bj rfl (fun _=>rfl) rfl fun x36 H16=>aa (ac rfl) rfl<|aa (bU rfl rfl) rfl<|ad<|aC rfl H16 (fun k17 H18=>ag<|bB (n:=13) [] cu rfl (.cons _ .slnil)<|ah (i:=0) (fun _ _ _ _=>id) rfl (by kernel_rfl) rfl (ve (ac rfl))<|ah (i:=1) (fun _ _ _ _=>id) rfl (by kernel_rfl) rfl (ve (ac rfl))<|ah (i:=2) (fun _ _ _ _=>id) rfl (by kernel_rfl) rfl (ve (bG rW (aU rfl (bm e13)) rfl h14))<|ah (i:=3) (fun _ _ _ _=>id) rfl (by kernel_rfl) rfl (ve (am jX rfl))<|ah (i:=5) (fun _ _ _ _=>id) rfl (by kernel_rfl) rfl (ve (ac rfl))<|ah (i:=6) (fun _ _ _ _=>id) rfl (by kernel_rfl) rfl (ve (ac rfl))<|ah (i:=7) (fun _ _ _ _=>id) rfl (by kernel_rfl) rfl (ve (bG rW (aU rfl (bm e13)) rfl h14))<|ah (i:=8) (fun _ _ _ _=>id) rfl (by kernel_rfl) rfl (ve (am qr rfl))<|js H18 fun H19_1 H19_2=>jt (i:=4) (j:=9) (by kernel_rfl) (aG rfl rfl (gU H19_1 cF rfl (fun _=>rfl) rfl fun x43 H20=>⟨(.cons _ .slnil),jt (i:=9) (j:=11) (by kernel_rfl) (aG rfl rfl (bf H20 bj rfl (fun _=>rfl) rfl fun x48 H22=>⟨(.cons _ .slnil),ah (i:=10) (fun _ _ _ _=>id) rfl (by kernel_rfl) rfl (ve (pW rfl rfl))<|bg (i:=11) (by kernel_rfl) (aG rfl rfl (aY (k:=0) (vs:=(ak.C x43)) bV rfl rfl rfl rfl rfl rfl rfl<|⟨(.cons _ .slnil),ah (i:=12) (fun _ _ _ _=>id) rfl (by kernel_rfl) rfl (ve (ae rfl))<|be (by kernel_rfl)<|an<|av (cc rfl (bK (k:=0) rfl cF rfl rfl) (aD rfl)) ⟨(x43,(decide (x48 > 0))),rfl,H22⟩⟩))⟩)) (aG rfl rfl (aY (k:=0) (vs:=(ak.C x43)) bV rfl rfl rfl rfl rfl rfl rfl<|⟨(.cons _ .slnil),bN (i:=9) (fun _ _ _ _=>id) H20 rfl (by kernel_rfl) bj rfl (fun _=>rfl) rfl fun x48 H22=>ah (i:=10) (fun _ _ _ _=>id) rfl (by kernel_rfl) rfl (ve (pW rfl rfl))<|ah (i:=12) (fun _ _ _ _=>id) rfl (by kernel_rfl) rfl (ve (ae rfl))<|be (by kernel_rfl)<|an<|av (cc rfl (bK (k:=0) rfl cF rfl rfl) (aD rfl)) ⟨(x43,(decide (x48 > 0))),rfl,H22⟩⟩))⟩)) (aG rfl rfl (bf H19_2 bj rfl (fun _=>rfl) rfl fun x48 H20=>⟨(.cons _ .slnil),ah (i:=10) (fun _ _ _ _=>id) rfl (by kernel_rfl) rfl (ve (pW rfl rfl))<|wu (i:=4) (fun _ _ _ _=>id) H20 rfl (by kernel_rfl) cF rfl (fun _=>rfl) rfl fun x43 H21=>bg (i:=11) (by kernel_rfl) (aG rfl rfl (aY (k:=0) (vs:=(ak.C x43)) bV rfl rfl rfl rfl rfl rfl rfl<|⟨(.cons _ .slnil),ah (i:=12) (fun _ _ _ _=>id) rfl (by kernel_rfl) rfl (ve (ae rfl))<|be (by kernel_rfl)<|an<|av (cc rfl (bK (k:=0) rfl cF rfl rfl) (aD rfl)) ⟨(x43,(decide (x48 > 0))),rfl,H21⟩⟩))⟩))) (fun k17 H18=>au<|ab<|aa (ac rfl) rfl<|aa (sZ rfl rfl) rfl<|aa (ae rfl) rfl<|ad<|cT ((IntKind.i64.wrap (s8.1 - 1)),s8.2) H18 (.cons rfl (.cons rfl (.cons rfl (.cons rfl (.nil _))))) (.cons_cons _ .slnil)))) (fun k11 H12=>bz<|ag<|ab<|aa (bk (vs:=[]) rfl sR) rfl<|ai (aY (k:=0) (vs:=(ak.C (⟨0,0⟩:ak))) bV rfl rfl rfl rfl rfl rfl rfl<|aa (ae rfl) rfl<|ad<|an<|av (cc rfl (bK (k:=0) rfl cF rfl rfl) (aD rfl)) ⟨((⟨0,0⟩:ak),false),rfl,H12⟩))))))))))
def nR (K:Bool→Hp→Prop):Hp→Prop:=cl Tryz.prog n_kern_New [(.agg (aR.C (⟨2,2,3⟩:aR)).toArray)] wG fun r21=>br r21.isNone ( K false) ( cl Tryz.prog eA [(pv r21),(.int .i64 0),(.int .i64 0),(.agg (ao.C (⟨1,1,0,0,0⟩:ao)).toArray)] bv fun r27=>cl Tryz.prog eA [(pv r21),(.int .i64 0),(.int .i64 0),(.agg (ao.C (⟨6,4,1,3,0⟩:ao)).toArray)] bv fun r33=>cl Tryz.prog eA [(pv r21),(.int .i64 1),(.int .i64 0),(.agg (ao.C (⟨21,4,2,9,0⟩:ao)).toArray)] bv fun r39=>cl Tryz.prog eA [(pv r21),(.int .i64 0),(.int .i64 0),(.agg (ao.C (⟨20,4,2,0,0⟩:ao)).toArray)] bv fun r45=>cl Tryz.prog eA [(pv r21),(.int .i64 0),(.int .i64 0),(.agg (ao.C (⟨7,4,0,0,0⟩:ao)).toArray)] bv fun r51=>cl Tryz.prog hU [(pv r21)] eL fun r55=>cl Tryz.prog ol [(sv r55),(.agg (aR.C (⟨2,2,3⟩:aR)).toArray)] bS fun r59=>cl Tryz.prog oo [(sv r55),(.agg (aR.C (⟨2,2,3⟩:aR)).toArray)] bS fun r65=>cl Tryz.prog mw [(.int .i64 2),(.int .i64 3)] gc fun r68=>cl Tryz.prog ku [] aH fun r69=>br (((((((((((((((r69 && r27.2) && r33.2) && r39.2) && r45.2) && r51.2) && (r27.1.fErr == 0)) && (r33.1.fErr == 0)) && (r39.1.fErr == 0)) && (r45.1.fVal == 9)) && (r51.1.fErr == 0)) && ((r55.len:Int) == 5)) && (r59.1 == (-1))) && r59.2) && (r65.1 == (-1))) && r65.2) ( cl Tryz.prog wh [(sv r55),(.agg (aR.C (⟨2,2,3⟩:aR)).toArray)] aH fun r132=>br r132 ( cl Tryz.prog oq [(sv r55)] cD fun r136=>br (((r136.len:Int) == 5) && ((r68.len:Int) == 12)) ( cl Tryz.prog tK [(sv r68),(.int .i64 2),(.int .i64 5)] aH fun r147=>br r147 ( cl Tryz.prog n_twin_View [(sv r55),(.int .i64 0)] mD fun r151=>br ((r151.len:Int) == 5) ( cl Tryz.prog uf [(sv r55),(.agg (aR.C (⟨2,2,3⟩:aR)).toArray)] aH fun r158=>K r158) ( K false)) ( K false)) ( K false)) ( K false)) ( K false))
set_option maxRecDepth 20000 in
theorem us {K:Bool→Hp→Prop} {h:Hp} (H:nR K h):Ct Tryz.prog kq #[] h fun v h'=>∃ r,v = aH r∧K r h':=aB [] Tryz.func10 rfl rfl rfl fun _=>ag<|ab<|aa (ae rfl) rfl<|ad<|ag<|ab<|aa (bk rfl (build_35_0_1_2 2 2 3)) rfl<|ai (aX (l:=(aR.C (⟨0,0,0⟩:aR))) zero_35 rfl rfl fun b1=>ai (aY (k:=0) (vs:=(aR.C (⟨2,2,3⟩:aR))) inf_35 rfl rfl rfl rfl rfl rfl rfl<|ad<|ag<|ab<|bw (bL (k:=0) rg rfl rfl rfl rfl) rfl<|ai (az H en_28 rfl rfl fun r21 _ H1=>aa (ae rfl) rfl<|ad<|ag<|ag<|ab<|aa (ac rfl) rfl<|aa (cw Tryz.underlying54 rfl) rfl<|ad<|aC rfl H1 (fun k2 H3=>ag<|ab<|aa (ae rfl) rfl<|ad<|an<|av (ay rfl (aD rfl)) ⟨false,rfl,H3⟩) (fun k2 H3=>au<|ag<|ab<|aa (ac rfl) rfl<|aa (bk rfl (lO 1 1)) rfl<|ai (az H3 en_38 rfl rfl fun r27 _ H4=>aa (ac rfl) rfl<|aa (ap rfl rfl) rfl<|aa (ap rfl rfl) rfl<|ai (aX (l:=(ak.C (⟨0,0⟩:ak))) df rfl rfl fun b3=>ai (aY (k:=0) (vs:=(ak.C r27.1)) bV rfl rfl rfl rfl rfl rfl rfl<|aa (ae rfl) rfl<|ad<|ag<|ab<|aa (ac rfl) rfl<|aa (bk rfl (ju 6 4 1 3)) rfl<|ai (az H4 en_38 rfl rfl fun r33 _ H5=>aa (ac rfl) rfl<|aa (ap rfl rfl) rfl<|aa (ap rfl rfl) rfl<|ai (aX (l:=(ak.C (⟨0,0⟩:ak))) df rfl rfl fun b5=>ai (aY (k:=0) (vs:=(ak.C r33.1)) bV rfl rfl rfl rfl rfl rfl rfl<|aa (ae rfl) rfl<|ad<|ag<|ab<|aa (ac rfl) rfl<|aa (bk rfl (ju 21 4 2 9)) rfl<|ai (az H5 en_38 rfl rfl fun r39 _ H6=>aa (ac rfl) rfl<|aa (ap rfl rfl) rfl<|aa (ap rfl rfl) rfl<|ai (aX (l:=(ak.C (⟨0,0⟩:ak))) df rfl rfl fun b7=>ai (aY (k:=0) (vs:=(ak.C r39.1)) bV rfl rfl rfl rfl rfl rfl rfl<|aa (ae rfl) rfl<|ad<|ag<|ab<|aa (ac rfl) rfl<|aa (bk rfl (sS 20 4 2)) rfl<|ai (az H6 en_38 rfl rfl fun r45 _ H7=>aa (ac rfl) rfl<|aa (ap rfl rfl) rfl<|aa (ap rfl rfl) rfl<|ai (aX (l:=(ak.C (⟨0,0⟩:ak))) df rfl rfl fun b9=>ai (aY (k:=0) (vs:=(ak.C r45.1)) bV rfl rfl rfl rfl rfl rfl rfl<|aa (ae rfl) rfl<|ad<|ag<|ab<|aa (ac rfl) rfl<|aa (bk rfl (lO 7 4)) rfl<|ai (az H7 en_38 rfl rfl fun r51 _ H8=>aa (ac rfl) rfl<|aa (ap rfl rfl) rfl<|aa (ap rfl rfl) rfl<|ai (aX (l:=(ak.C (⟨0,0⟩:ak))) df rfl rfl fun b11=>ai (aY (k:=0) (vs:=(ak.C r51.1)) bV rfl rfl rfl rfl rfl rfl rfl<|aa (ae rfl) rfl<|ad<|ag<|ab<|aa (ac rfl) rfl<|ai (az H8 en_37 rfl rfl fun r55 _ H9=>aa (ae rfl) rfl<|ad<|ag<|ab<|aa (ac rfl) rfl<|bw (bL (k:=5) rg rfl rfl rfl rfl) rfl<|ai (az H9 en_44 rfl rfl fun r59 _ H10=>aa (ac rfl) rfl<|aa (ap rfl rfl) rfl<|aa (ap rfl rfl) rfl<|aa (ae rfl) rfl<|aa (ae rfl) rfl<|ad<|ag<|ab<|aa (ac rfl) rfl<|bw (bL (k:=5) rg rfl rfl rfl rfl) rfl<|ai (az H10 en_49 rfl rfl fun r65 _ H11=>aa (ac rfl) rfl<|aa (ap rfl rfl) rfl<|aa (ap rfl rfl) rfl<|aa (ae rfl) rfl<|aa (ae rfl) rfl<|ad<|ag<|ab<|ai (az H11 en_11 rfl rfl fun r68 _ H12=>aa (ae rfl) rfl<|ad<|ag<|ab<|ai (az H12 en_50 rfl rfl fun r69 _ H13=>aa (ac rfl) rfl<|aj rfl rfl rfl (aA _) (fun g14=>wv (ac rfl)) rfl<|aa (bY rfl rfl) rfl<|aa (ac rfl) rfl<|aj rfl rfl rfl (aA _) (fun g15=>wv (ac rfl)) rfl<|aa (bY rfl rfl) rfl<|aa (ac rfl) rfl<|aj rfl rfl rfl (aA _) (fun g16=>wv (ac rfl)) rfl<|aa (bY rfl rfl) rfl<|aa (ac rfl) rfl<|aj rfl rfl rfl (aA _) (fun g17=>wv (ac rfl)) rfl<|aa (bY rfl rfl) rfl<|aa (ac rfl) rfl<|aj rfl rfl rfl (aA _) (fun g18=>wv (ac rfl)) rfl<|aa (bY rfl rfl) rfl<|aa (ac rfl) rfl<|aj rfl rfl rfl (aA _) (fun g19=>wv (am jZ rfl)) rfl<|aj rfl rfl rfl (aA _) (fun g20=>cv (bt (k:=4) nV (aI rfl g20) rfl rfl)) rfl<|aj rfl rfl rfl (aA _) (fun g21=>wv (bU (aI rfl g21) rfl)) rfl<|aa (bY rfl rfl) rfl<|aa (ac rfl) rfl<|aj rfl rfl rfl (aA _) (fun g22=>wv (am jZ rfl)) rfl<|aj rfl rfl rfl (aA _) (fun g23=>cv (bt (k:=3) nV (aI rfl g23) rfl rfl)) rfl<|aj rfl rfl rfl (aA _) (fun g24=>wv (bU (aI rfl g24) rfl)) rfl<|aa (bY rfl rfl) rfl<|aa (ac rfl) rfl<|aj rfl rfl rfl (aA _) (fun g25=>wv (am jZ rfl)) rfl<|aj rfl rfl rfl (aA _) (fun g26=>cv (bt (k:=2) nV (aI rfl g26) rfl rfl)) rfl<|aj rfl rfl rfl (aA _) (fun g27=>wv (bU (aI rfl g27) rfl)) rfl<|aa (bY rfl rfl) rfl<|aa (ac rfl) rfl<|aj rfl rfl rfl (aA _) (fun g28=>wv (am fld_47_1 rfl)) rfl<|aj rfl rfl rfl (aA _) (fun g29=>cv (bt (k:=1) cz (aI rfl g29) rfl rfl)) rfl<|aj rfl rfl rfl (aA _) (fun g30=>wv (bU (aI rfl g30) rfl)) rfl<|aa (bY rfl rfl) rfl<|aa (ac rfl) rfl<|aj rfl rfl rfl (aA _) (fun g31=>wv (am jZ rfl)) rfl<|aj rfl rfl rfl (aA _) (fun g32=>cv (bt (k:=0) nV (aI rfl g32) rfl rfl)) rfl<|aj rfl rfl rfl (aA _) (fun g33=>wv (bU (aI rfl g33) rfl)) rfl<|aa (bY rfl rfl) rfl<|aa (ac rfl) rfl<|aj rfl rfl rfl (aA _) (fun g34=>wv (ac rfl)) rfl<|aj rfl rfl rfl (aA _) (fun g35=>wv (dB rfl Tryz.underlying39 (aI rfl g35))) rfl<|aj rfl rfl rfl (aA _) (fun g36=>wv (bU (aI rfl g36) rfl)) rfl<|aa (bY rfl rfl) rfl<|aa (ac rfl) rfl<|aj rfl rfl rfl (aA _) (fun g37=>wv (ac rfl)) rfl<|aj rfl rfl rfl (aA _) (fun g38=>wv (bU (aI rfl g38) rfl)) rfl<|aa (bY rfl rfl) rfl<|aa (ac rfl) rfl<|aj rfl rfl rfl (aA _) (fun g39=>wv (ac rfl)) rfl<|aa (bY rfl rfl) rfl<|aa (ac rfl) rfl<|aj rfl rfl rfl (aA _) (fun g40=>wv (ac rfl)) rfl<|aj rfl rfl rfl (aA _) (fun g41=>wv (bU (aI rfl g41) rfl)) rfl<|aa (bY rfl rfl) rfl<|aa (ac rfl) rfl<|aj rfl rfl rfl (aA _) (fun g42=>wv (ac rfl)) rfl<|aa (bY rfl rfl) rfl<|aa (ac rfl) rfl<|aj rfl rfl rfl (aA _) (fun g43=>wv (ac rfl)) rfl<|aj rfl rfl rfl (aA _) (fun g44=>cv (bL (k:=5) rg rfl rfl rfl rfl)) rfl<|bX H13 (fun k46 H47=>aK rfl rfl rfl (congrArg Value.bool k46) (az H47 en_19 (aZ (aI rfl k46) (aZ (aI rfl k46) bW)) rfl fun r132 _ H48=>aa (bd rfl k46 rfl) rfl<|aa (ac rfl) rfl<|aj rfl rfl rfl (aA _) (fun g49=>wv (ac rfl)) rfl<|bX H48 (fun k51 H52=>aK rfl rfl rfl (congrArg Value.bool k51) (az H52 en_26 (aZ (aI rfl k51) bW) rfl fun r136 _ H53=>aK rfl rfl rfl (congrArg Value.bool k51) (aO (wv (dB rfl Tryz.underlying41 rfl)) rfl<|aK rfl rfl rfl (congrArg Value.bool k51) (aO (wv (bU rfl rfl)) rfl<|aa (bd rfl k51 rfl) rfl<|aa (ac rfl) rfl<|aj rfl rfl rfl (aA _) (fun g54=>wv (ac rfl)) rfl<|aj rfl rfl rfl (aA _) (fun g55=>wv (dB rfl Tryz.underlying23 (aI rfl g55))) rfl<|aj rfl rfl rfl (aA _) (fun g56=>wv (bU (aI rfl g56) rfl)) rfl<|aa (bY rfl rfl) rfl<|aa (ac rfl) rfl<|aj rfl rfl rfl (aA _) (fun g57=>wv (ac rfl)) rfl<|bX H53 (fun k59 H60=>aK rfl rfl rfl (congrArg Value.bool k59) (az H60 en_12 (aZ (aI rfl k59) (aZ rfl (aZ rfl bW))) rfl fun r147 _ H61=>aa (bd rfl k59 rfl) rfl<|aa (ac rfl) rfl<|aj rfl rfl rfl (aA _) (fun g62=>wv (ac rfl)) rfl<|bX H61 (fun k64 H65=>aK rfl rfl rfl (congrArg Value.bool k64) (az H65 en_51 (aZ (aI rfl k64) (aZ rfl bW)) rfl fun r151 _ H66=>aK rfl rfl rfl (congrArg Value.bool k64) (aO (wv (dB rfl Tryz.underlying84 rfl)) rfl<|aK rfl rfl rfl (congrArg Value.bool k64) (aO (wv (bU rfl rfl)) rfl<|aa (bd rfl k64 rfl) rfl<|aa (ac rfl) rfl<|aj rfl rfl rfl (aA _) (fun g67=>wv (ac rfl)) rfl<|aj rfl rfl rfl (aA _) (fun g68=>cv (bL (k:=5) rg rfl rfl rfl rfl)) rfl<|bX H66 (fun k70 H71=>aK rfl rfl rfl (congrArg Value.bool k70) (az H71 en_41 (aZ (aI rfl k70) (aZ (aI rfl k70) bW)) rfl fun r158 _ H72=>aa (bd rfl k70 rfl) rfl<|aa (ae rfl) rfl<|ad<|an<|av (ay rfl (aD rfl)) ⟨r158,rfl,H72⟩)) (fun k70 H71=>al rfl rfl rfl (bb k70) rfl<|aa (ax rfl k70 rfl) rfl<|aa (ae rfl) rfl<|ad<|an<|av (ay rfl (aD rfl)) ⟨false,rfl,H71⟩))))) (fun k64 H65=>al rfl rfl rfl (bb k64) rfl<|al rfl rfl rfl (bb k64) rfl<|al rfl rfl rfl (bb k64) rfl<|aa (ax rfl k64 rfl) rfl<|aa (ac rfl) rfl<|al rfl rfl rfl rfl rfl<|al rfl rfl rfl rfl rfl<|al rfl rfl rfl rfl rfl<|aa (ax rfl rfl rfl) rfl<|aa (ae rfl) rfl<|ad<|an<|av (ay rfl (aD rfl)) ⟨false,rfl,H65⟩))) (fun k59 H60=>al rfl rfl rfl (bb k59) rfl<|aa (ax rfl k59 rfl) rfl<|aa (ac rfl) rfl<|al rfl rfl rfl rfl rfl<|al rfl rfl rfl rfl rfl<|al rfl rfl rfl rfl rfl<|al rfl rfl rfl rfl rfl<|aa (ax rfl rfl rfl) rfl<|aa (ac rfl) rfl<|al rfl rfl rfl rfl rfl<|al rfl rfl rfl rfl rfl<|al rfl rfl rfl rfl rfl<|aa (ax rfl rfl rfl) rfl<|aa (ae rfl) rfl<|ad<|an<|av (ay rfl (aD rfl)) ⟨false,rfl,H60⟩))))) (fun k51 H52=>al rfl rfl rfl (bb k51) rfl<|al rfl rfl rfl (bb k51) rfl<|al rfl rfl rfl (bb k51) rfl<|aa (ax rfl k51 rfl) rfl<|aa (ac rfl) rfl<|al rfl rfl rfl rfl rfl<|al rfl rfl rfl rfl rfl<|al rfl rfl rfl rfl rfl<|aa (ax rfl rfl rfl) rfl<|aa (ac rfl) rfl<|al rfl rfl rfl rfl rfl<|al rfl rfl rfl rfl rfl<|aa (ax rfl rfl rfl) rfl<|aa (ac rfl) rfl<|al rfl rfl rfl rfl rfl<|al rfl rfl rfl rfl rfl<|al rfl rfl rfl rfl rfl<|al rfl rfl rfl rfl rfl<|aa (ax rfl rfl rfl) rfl<|aa (ac rfl) rfl<|al rfl rfl rfl rfl rfl<|al rfl rfl rfl rfl rfl<|al rfl rfl rfl rfl rfl<|aa (ax rfl rfl rfl) rfl<|aa (ae rfl) rfl<|ad<|an<|av (ay rfl (aD rfl)) ⟨false,rfl,H52⟩))) (fun k46 H47=>al rfl rfl rfl (bb k46) rfl<|aa (ax rfl k46 rfl) rfl<|aa (ac rfl) rfl<|al rfl rfl rfl rfl rfl<|al rfl rfl rfl rfl rfl<|al rfl rfl rfl rfl rfl<|al rfl rfl rfl rfl rfl<|aa (ax rfl rfl rfl) rfl<|aa (ac rfl) rfl<|al rfl rfl rfl rfl rfl<|al rfl rfl rfl rfl rfl<|al rfl rfl rfl rfl rfl<|aa (ax rfl rfl rfl) rfl<|aa (ac rfl) rfl<|al rfl rfl rfl rfl rfl<|al rfl rfl rfl rfl rfl<|aa (ax rfl rfl rfl) rfl<|aa (ac rfl) rfl<|al rfl rfl rfl rfl rfl<|al rfl rfl rfl rfl rfl<|al rfl rfl rfl rfl rfl<|al rfl rfl rfl rfl rfl<|aa (ax rfl rfl rfl) rfl<|aa (ac rfl) rfl<|al rfl rfl rfl rfl rfl<|al rfl rfl rfl rfl rfl<|al rfl rfl rfl rfl rfl<|aa (ax rfl rfl rfl) rfl<|aa (ae rfl) rfl<|ad<|an<|av (ay rfl (aD rfl)) ⟨false,rfl,H47⟩)))))))))))))))))))))))))
def ip (a0:Int) (a1:Int) (a2:Int) (K:Bool→Hp→Prop) (r32:Sl) (Rec8:(Sl × Int)→Hp→Prop) (s7:Sl × Int):Hp→Prop:=br (decide (s7.2 < ((IntKind.i64.wrap ((a1.tmod 40) + 40)).tmod 40))) ( hpv Tryz.prog (Instr.buildSlice eP 1 #[(0,(.agg (cK.C (⟨4,((IntKind.i64.wrap ((a2.tmod (IntKind.i64.wrap (1 + ((IntKind.i64.wrap ((a0.tmod 8) + 8)).tmod 8)))) + (IntKind.i64.wrap (1 + ((IntKind.i64.wrap ((a0.tmod 8) + 8)).tmod 8))))).tmod (IntKind.i64.wrap (1 + ((IntKind.i64.wrap ((a0.tmod 8) + 8)).tmod 8)))),0,(⟨0,0,0,0,0⟩:ao),0,0⟩:cK)).toArray))]) gc fun (v43:Sl)=>hpv Tryz.prog (Builtin.append_ #[eP,eP] eP #[(sv s7.1),(sv v43)]) gc fun (v44:Sl)=>Rec8 (v44,(IntKind.i64.wrap (s7.2 + 1)))) ( cl Tryz.prog mw [(.int .i64 (IntKind.i64.wrap (1 + ((IntKind.i64.wrap ((a0.tmod 8) + 8)).tmod 8)))),(.int .i64 1)] gc fun r47=>hpv Tryz.prog (Builtin.append_ #[eP,eP] eP #[(sv s7.1),(sv r47)]) gc fun (v48:Sl)=>cl Tryz.prog hX [(sv v48),(.int .i64 3),(.int .i64 0)] dV fun r50=>br (((v48.len:Int) == (IntKind.i64.wrap ((IntKind.i64.wrap ((r32.len:Int) + ((IntKind.i64.wrap ((a1.tmod 40) + 40)).tmod 40))) + (IntKind.i64.wrap (2 * (IntKind.i64.wrap (1 + ((IntKind.i64.wrap ((a0.tmod 8) + 8)).tmod 8)))))))) && (r50 == (mx (IntKind.i64.wrap ((IntKind.i64.wrap ((IntKind.i64.wrap (1 + ((IntKind.i64.wrap ((a0.tmod 8) + 8)).tmod 8))) + (IntKind.i64.wrap (1 + ((IntKind.i64.wrap ((a0.tmod 8) + 8)).tmod 8))))) - 1)) (IntKind.i64.wrap ((IntKind.i64.wrap ((IntKind.i64.wrap ((IntKind.i64.wrap (1 + ((IntKind.i64.wrap ((a0.tmod 8) + 8)).tmod 8))) + (IntKind.i64.wrap (1 + ((IntKind.i64.wrap ((a0.tmod 8) + 8)).tmod 8))))) - 1)) + ((IntKind.i64.wrap ((a1.tmod 40) + 40)).tmod 40)))))) ( cl Tryz.prog hX [(sv v48),(.int .i64 1),(.int .i64 ((IntKind.i64.wrap ((a2.tmod (IntKind.i64.wrap (1 + ((IntKind.i64.wrap ((a0.tmod 8) + 8)).tmod 8)))) + (IntKind.i64.wrap (1 + ((IntKind.i64.wrap ((a0.tmod 8) + 8)).tmod 8))))).tmod (IntKind.i64.wrap (1 + ((IntKind.i64.wrap ((a0.tmod 8) + 8)).tmod 8)))))] dV fun r78=>br (r78 == (v48.len:Int)) ( cl Tryz.prog tK [(sv v48),(.int .i64 (IntKind.i64.wrap (1 + ((IntKind.i64.wrap ((a0.tmod 8) + 8)).tmod 8)))),(.int .i64 r50)] aH fun r87=>br (!r87) ( cl Tryz.prog hX [(sv (⟨none,0,0⟩:Sl)),(.int .i64 2),(.int .i64 0)] dV fun r91=>K (r91 == 0)) ( K false)) ( K false)) ( K false))
def lR (a0:Int) (a1:Int) (a2:Int) (K:Bool→Hp→Prop):Hp→Prop:=cl Tryz.prog kq [] aH fun r12=>br (!r12) ( K false) ( gd ((IntKind.i64.wrap (1 + ((IntKind.i64.wrap ((a0.tmod 8) + 8)).tmod 8))) ≠ 0)<|cl Tryz.prog mw [(.int .i64 (IntKind.i64.wrap (1 + ((IntKind.i64.wrap ((a0.tmod 8) + 8)).tmod 8)))),(.int .i64 3)] gc fun r32=>Lp (ip a0 a1 a2 K r32) (r32,0))
set_option maxRecDepth 20000 in
theorem rX (a0:Int) (a1:Int) (a2:Int) {K:Bool→Hp→Prop} {h:Hp} (H:lR a0 a1 a2 K h):Ct Tryz.prog mv #[(.int .i64 a0),(.int .i64 a1),(.int .i64 a2)] h fun v h'=>∃ r,v = aH r∧K r h':=aB [(.int .i64 a0),(.int .i64 a1),(.int .i64 a2)] Tryz.func4 rfl rfl rfl fun _=>ag<|ab<|aa (ae rfl) rfl<|ad<|ag<|ab<|ai (az H en_10 rfl rfl fun r12 _ H1=>aa (ae rfl) rfl<|ad<|ag<|ag<|ab<|aa (ac rfl) rfl<|aa (cx rfl) rfl<|ad<|aC rfl H1 (fun k2 H3=>ag<|ab<|aa (ae rfl) rfl<|ad<|an<|av (ay rfl (aD rfl)) ⟨false,rfl,H3⟩) (fun k2 H3=>au<|ag<|ab<|aa (ac rfl) rfl<|aa (v_rem rfl rfl (by decide)) rfl<|aa (bE rfl rfl) rfl<|aa (v_rem rfl rfl (by decide)) rfl<|aa (bE rfl rfl) rfl<|aa (ac rfl) rfl<|aa (v_rem rfl rfl (by decide)) rfl<|aa (bE rfl rfl) rfl<|aa (v_rem rfl rfl (by decide)) rfl<|aa (ae rfl) rfl<|aa (ae rfl) rfl<|ad<|ag<|ab<|aa (ac rfl) rfl<|aa (ac rfl) rfl<|ir H3 fun z4 H5=>aa (v_rem rfl rfl z4) rfl<|aa (ac rfl) rfl<|aa (bE rfl rfl) rfl<|aa (ac rfl) rfl<|aa (v_rem rfl rfl z4) rfl<|aa (ae rfl) rfl<|ad<|ag<|ab<|aa (ac rfl) rfl<|ai (az H5 en_11 rfl rfl fun r32 _ H6=>aa (ae rfl) rfl<|ad<|ag<|ab<|aa (ac rfl) rfl<|aa (dB rfl Tryz.underlying23 rfl) rfl<|aa (ae rfl) rfl<|ad<|ag<|ag<|ab<|aa (ae rfl) rfl<|ad<|aE<|bO (step:=ip a0 a1 a2 K r32) (fun s7=>[(0,(.int .i64 (IntKind.i64.wrap (1 + ((IntKind.i64.wrap ((a0.tmod 8) + 8)).tmod 8))))),(1,(.int .i64 ((IntKind.i64.wrap ((a1.tmod 40) + 40)).tmod 40))),(2,(.int .i64 ((IntKind.i64.wrap ((a2.tmod (IntKind.i64.wrap (1 + ((IntKind.i64.wrap ((a0.tmod 8) + 8)).tmod 8)))) + (IntKind.i64.wrap (1 + ((IntKind.i64.wrap ((a0.tmod 8) + 8)).tmod 8))))).tmod (IntKind.i64.wrap (1 + ((IntKind.i64.wrap ((a0.tmod 8) + 8)).tmod 8)))))),(8,(sv s7.1)),(9,(.int .i64 (r32.len:Int))),(10,(.int .i64 s7.2))]) (fun s7=>[]) H6 (.cons rfl (.cons rfl (.cons rfl (.cons rfl (.cons rfl (.cons rfl (.nil _))))))) .slnil (fun Rec8 s7 _ H9=>ag<|ag<|ab<|aa (ac rfl) rfl<|aa (ac rfl) rfl<|aa (cG rfl rfl) rfl<|ad<|aC rfl H9 (fun k10 H11=>au<|ag<|aE<|ab<|aa (ac rfl) rfl<|aa (ac rfl) rfl<|aa (bk rfl (build_29_0_1 4 ((IntKind.i64.wrap ((a2.tmod (IntKind.i64.wrap (1 + ((IntKind.i64.wrap ((a0.tmod 8) + 8)).tmod 8)))) + (IntKind.i64.wrap (1 + ((IntKind.i64.wrap ((a0.tmod 8) + 8)).tmod 8))))).tmod (IntKind.i64.wrap (1 + ((IntKind.i64.wrap ((a0.tmod 8) + 8)).tmod 8)))))) rfl<|ai (bc H11 (bD (vs:=[(.agg (cK.C (⟨4,((IntKind.i64.wrap ((a2.tmod (IntKind.i64.wrap (1 + ((IntKind.i64.wrap ((a0.tmod 8) + 8)).tmod 8)))) + (IntKind.i64.wrap (1 + ((IntKind.i64.wrap ((a0.tmod 8) + 8)).tmod 8))))).tmod (IntKind.i64.wrap (1 + ((IntKind.i64.wrap ((a0.tmod 8) + 8)).tmod 8)))),0,(⟨0,0,0,0,0⟩:ao),0,0⟩:cK)).toArray)]) rfl) rfl fun v43 _ H12=>ai (bc H12 (dw rfl rfl) rfl fun v44 _ H13=>aa (ae rfl) rfl<|ad<|ab<|aa (ac rfl) rfl<|aa (bE rfl rfl) rfl<|aa (ae rfl) rfl<|ad<|cT (v44,(IntKind.i64.wrap (s7.2 + 1))) H13 (.cons rfl (.cons rfl (.cons rfl (.cons rfl (.cons rfl (.cons rfl (.nil _))))))) .slnil))) (fun k10 H11=>bz<|ag<|ab<|aa (ac rfl) rfl<|aa (ac rfl) rfl<|ai (az H11 en_11 rfl rfl fun r47 _ H14=>ai (bc H14 (dw rfl rfl) rfl fun v48 _ H15=>aa (ae rfl) rfl<|ad<|ag<|ab<|aa (ac rfl) rfl<|ai (az H15 en_13 rfl rfl fun r50 _ H16=>aa (ae rfl) rfl<|ad<|ag<|ab<|aa (ac rfl) rfl<|aa (dB rfl Tryz.underlying23 rfl) rfl<|aa (ac rfl) rfl<|aa (ac rfl) rfl<|aa (bE rfl rfl) rfl<|aa (ac rfl) rfl<|aa (v_mul rfl rfl) rfl<|aa (bE rfl rfl) rfl<|aa (bU rfl rfl) rfl<|aa (ac rfl) rfl<|aj rfl rfl rfl (aA _) (fun g17=>wv (ac rfl)) rfl<|aj rfl rfl rfl (aA _) (fun g18=>wv (ac rfl)) rfl<|aj rfl rfl rfl (aA _) (fun g19=>wv (ac rfl)) rfl<|aj rfl rfl rfl (aA _) (fun g20=>wv (bE (aI rfl g20) (aI rfl g20))) rfl<|aj rfl rfl rfl (aA _) (fun g21=>wv (sZ (aI rfl g21) rfl)) rfl<|aj rfl rfl rfl (aA _) (fun g22=>wv (ac rfl)) rfl<|aj rfl rfl rfl (aA _) (fun g23=>wv (ac rfl)) rfl<|aj rfl rfl rfl (aA _) (fun g24=>wv (bE (aI rfl g24) (aI rfl g24))) rfl<|aj rfl rfl rfl (aA _) (fun g25=>wv (sZ (aI rfl g25) rfl)) rfl<|aj rfl rfl rfl (aA _) (fun g26=>wv (ac rfl)) rfl<|aj rfl rfl rfl (aA _) (fun g27=>wv (bE (aI rfl g27) (aI rfl g27))) rfl<|aj rfl rfl rfl (aA _) (fun g28=>wv (v_maxT (aI rfl g28) (aI rfl g28))) rfl<|aj rfl rfl rfl (aA _) (fun g29=>wv (bU (aI rfl g29) (aI rfl g29))) rfl<|aa (bY rfl rfl) rfl<|aa (ac rfl) rfl<|aj rfl rfl rfl (aA _) (fun g30=>wv (ac rfl)) rfl<|aj rfl rfl rfl (aA _) (fun g31=>wv (ac rfl)) rfl<|bX H16 (fun k33 H34=>aK rfl rfl rfl (congrArg Value.bool k33) (az H34 en_13 (aZ (aI rfl k33) (aZ rfl (aZ (aI rfl k33) bW))) rfl fun r78 _ H35=>aK rfl rfl rfl (congrArg Value.bool k33) (aO (wv (ac rfl)) rfl<|aK rfl rfl rfl (congrArg Value.bool k33) (aO (wv (dB rfl Tryz.underlying23 rfl)) rfl<|aK rfl rfl rfl (congrArg Value.bool k33) (aO (wv (bU rfl rfl)) rfl<|aa (bd rfl k33 rfl) rfl<|aa (ac rfl) rfl<|aj rfl rfl rfl (aA _) (fun g36=>wv (ac rfl)) rfl<|aj rfl rfl rfl (aA _) (fun g37=>wv (ac rfl)) rfl<|aj rfl rfl rfl (aA _) (fun g38=>wv (ac rfl)) rfl<|bX H35 (fun k40 H41=>aK rfl rfl rfl (congrArg Value.bool k40) (az H41 en_12 (aZ (aI rfl k40) (aZ (aI rfl k40) (aZ (aI rfl k40) bW))) rfl fun r87 _ H42=>aK rfl rfl rfl (congrArg Value.bool k40) (aO (wv (cx rfl)) rfl<|aa (bd rfl k40 rfl) rfl<|aa (ac rfl) rfl<|bX H42 (fun k44 H45=>aK rfl rfl rfl (congrArg Value.bool k44) (az H45 en_13 rfl rfl fun r91 _ H46=>aK rfl rfl rfl (congrArg Value.bool k44) (aO (wv (bU rfl rfl)) rfl<|aa (bd rfl k44 rfl) rfl<|aa (ae rfl) rfl<|ad<|an<|av (ay rfl (aD rfl)) ⟨(r91 == 0),rfl,H46⟩))) (fun k44 H45=>al rfl rfl rfl (bb k44) rfl<|al rfl rfl rfl (bb k44) rfl<|aa (ax rfl k44 rfl) rfl<|aa (ae rfl) rfl<|ad<|an<|av (ay rfl (aD rfl)) ⟨false,rfl,H45⟩)))) (fun k40 H41=>al rfl rfl rfl (bb k40) rfl<|al rfl rfl rfl (bb k40) rfl<|aa (ax rfl k40 rfl) rfl<|aa (ac rfl) rfl<|al rfl rfl rfl rfl rfl<|al rfl rfl rfl rfl rfl<|aa (ax rfl rfl rfl) rfl<|aa (ae rfl) rfl<|ad<|an<|av (ay rfl (aD rfl)) ⟨false,rfl,H41⟩)))))) (fun k33 H34=>al rfl rfl rfl (bb k33) rfl<|al rfl rfl rfl (bb k33) rfl<|al rfl rfl rfl (bb k33) rfl<|al rfl rfl rfl (bb k33) rfl<|aa (ax rfl k33 rfl) rfl<|aa (ac rfl) rfl<|al rfl rfl rfl rfl rfl<|al rfl rfl rfl rfl rfl<|al rfl rfl rfl rfl rfl<|al rfl rfl rfl rfl rfl<|al rfl rfl rfl rfl rfl<|aa (ax rfl rfl rfl) rfl<|aa (ac rfl) rfl<|al rfl rfl rfl rfl rfl<|al rfl rfl rfl rfl rfl<|aa (ax rfl rfl rfl) rfl<|aa (ae rfl) rfl<|ad<|an<|av (ay rfl (aD rfl)) ⟨false,rfl,H34⟩)))))))))
end Go.Proofs.YtniiiakkdoiaiaaGreatDoor
