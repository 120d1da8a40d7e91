/- Part of the proof of: The law PicksAll returns true for every input, and leaves its arguments as they were. -/
import Derived.Test.YtniiiakkdoiaiaaGreatDoorPicksAll11
set_option linter.all false
namespace Go.Proofs.YtniiiakkdoiaiaaGreatDoor
open Go Mb
theorem np (e:co):e.C.length = 16:=rfl
theorem ev_one (e:co):dM e.C = true:=rfl
abbrev vE (s:Sl) (xs:List co):As:=vec t_api_Event 16 aM.C s xs
def iw (x:Ptr):Option KC→As
  | none=>fun _=>x = none
  | some c=>fun h=>∃ b:Nat,x = some (b,0)∧blk b cX c.C h
section
variable {l:List As} {h:Hp} {cp:List Ptr} {cs:List (Option KC)} {n:Nat}
theorem all_get {σ α:Type} {A:σ→α→As} {ps:List σ} {xs:List α} {i j:Nat} {p:σ} {x:α} (st:aP l h) (hj:l[j]? = some (all A ps xs)) (hp:ps[i]? = some p) (hx:xs[i]? = some x):∃ h1,A p x h1∧∀ b o,h1 b = some o→h b = some o:=by
  obtain ⟨h1,a,sub⟩:=dX hj st
  obtain ⟨h2,a2,sub2⟩:=dX (objs_get hp hx) a
  exact ⟨h2,a2,fun b o e=>sub _ _ (sub2 _ _ e)⟩
theorem call_none {j:Nat} {p:Ptr} (st:aP l h) (hj:l[j]? = some (all iw cp cs)) (hp:cp[n]? = some p) (hx:cs[n]? = some none):p = none:=by
  obtain ⟨_,a,_⟩:=all_get st hj hp hx; exact a
theorem vH {j:Nat} {p:Ptr} {x:KC} (st:aP l h) (hj:l[j]? = some (all iw cp cs)) (hp:cp[n]? = some p) (hx:cs[n]? = some (some x)):∃ b,p = some (b,0)∧h b = some (.cells x.C.toArray cX (0,0)):=by
  obtain ⟨_,⟨b,e,a⟩,sub⟩:=all_get st hj hp hx
  exact ⟨b,e,sub _ _ a⟩
theorem all_but {σ α:Type} {A:σ→α→As} {ps:List σ} {xs:List α} {i:Nat} {p:σ} {x:α} (hp:ps[i]? = some p) (hx:xs[i]? = some x) (s:aP (all A ps xs::l) h):aP (but A ps xs i::l) h:=by
  obtain ⟨h1,h2,d,e,_,s'⟩:=jl hp hx s
  rw [e,un_comm d]; exact sc s' d.symm
theorem call_mk {b:Nat} {y:KC} (s:aP (blk b cX y.C::l) h):aP (iw (some (b,0)) (some y)::l) h:=by
  obtain ⟨h1,h2,d,e,a,s'⟩:=s
  exact ⟨h1,h2,d,e,⟨b,rfl,a⟩,s'⟩
theorem ld_c {τ:Type} {j b off:Nat} {x:KC} {enc:τ→List Value} {K:τ→Hp→Prop} (y:τ) (st:aP l h) (hj:l[j]? = some (all iw cp cs)) (hp:cp[n]? = some (some (b,0))) (hx:cs[n]? = some (some x)) (hy:∀ i v,(enc y)[i]? = some v→x.C[off + i]? = some v) (k:K y h):ld (b,off) enc K h:=by
  obtain ⟨b',e,a⟩:=vH st hj hp hx
  cases e
  exact ⟨y,⟨_,_,_,a,fun i v hv=>by simpa using hy i v hv⟩,k⟩
theorem ld_c1 {τ:Type} {j b off:Nat} {x:KC} {enc:τ→List Value} {K:τ→Hp→Prop} {v:Value} (y:τ) (st:aP l h) (hj:l[j]? = some (all iw cp cs)) (hp:cp[n]? = some (some (b,0))) (hx:cs[n]? = some (some x)) (he:enc y = [v]) (hv:x.C[off]? = some v) (k:K y h):ld (b,off) enc K h :=
  ld_c y st hj hp hx (c1 he hv) k
theorem call_out {p:Ptr} {x:KC} (hp:cp[n]? = some p) (hx:cs[n]? = some (some x)) (s:aP (all iw cp cs::l) h):∃ b,p = some (b,0)∧aP (blk b cX x.C::but iw cp cs n::l) h:=by
  obtain ⟨h1,h2,d,e,⟨b,e1,a⟩,s'⟩:=jl hp hx s
  exact ⟨b,e1,h1,h2,d,e,a,s'⟩
theorem call_in {b:Nat} {y:KC} (hp:cp[n]? = some (some (b,0))) (hn:n < cs.length) (hl:cp.length = cs.length) (s:aP (blk b cX y.C::but iw cp cs n::l) h):aP (all iw cp (cs.set n (some y))::l) h:=by
  obtain ⟨h1,h2,d,e,a,s'⟩:=s
  exact xh (A:=iw) hp hn hl ⟨h1,h2,d,e,⟨b,rfl,a⟩,s'⟩
end
def capOf (h:Hp) (x:Ptr):Cap:=match x with
  | some q=>(match h q.1 with
    | some (.cells c _ _)=>(match c.toList with
      | [.int _ a,.int _ b,.int _ d,.int _ e]=>⟨a,b,d,e⟩
      | _=>rd)
    | _=>rd)
  | none=>rd
theorem capOf_eq {l:List As} {h:Hp} {i b T:Nat} {c:Cap} (st:aP l h) (hi:l[i]? = some (blk b T c.C)):capOf h (some (b,0)) = c:=by
  obtain ⟨h1,a,sub⟩:=dX hi st
  unfold capOf
  rw [show (some (b,0):Ptr) = some (b,0) from rfl]
  simp only [sub _ _ a]
  rfl
theorem at_get {t:Caps.T} {e s:Int} (h1:Caps.has t e s = true) (h2:(Caps.get t e s).fRights ≠ 0):Caps.at_ t e s = (Caps.get t e s,true):=if_pos ⟨h1,h2⟩
def vV (t:Caps.T) (x:KC) (r:Cap × Bool):Bool:=if r.2 = true then Caps.under t r.1 ⟨x.fenv,IntKind.i64.wrap x.fc.e1⟩ else false
theorem up_at {t:Caps.T} (x:KC) (e s:Int):vV t x (Caps.at_ t e s) = (if Caps.has t e s = true then Caps.under t (Caps.get t e s) ⟨x.fenv,IntKind.i64.wrap x.fc.e1⟩ else false):=by
  unfold vV
  by_cases h1:Caps.has t e s = true
  · by_cases h2:(Caps.get t e s).fRights ≠ 0
    · rw [at_get h1 h2,if_pos rfl,if_pos h1]
    · have ea:Caps.at_ t e s = (rd,false):=if_neg (fun hh=>h2 hh.2)
      rw [ea,if_neg Bool.false_ne_true,if_pos h1]
      cases hu:Caps.under t (Caps.get t e s) ⟨x.fenv,IntKind.i64.wrap x.fc.e1⟩ with
      | false=>rfl
      | true=>exact absurd (Caps.under_rights hu) h2
  · have ea:Caps.at_ t e s = (rd,false):=if_neg (fun hh=>h1 hh.1)
    rw [ea,if_neg Bool.false_ne_true,if_neg h1]
theorem sp_kern_goes (kb xb:Nat) (pp:Ptr) (kc:List Value) (p:PK) (x:KC) (e s:Int) (h0:kc[0]? = some (pv pp)) :
    Sp Tryz.prog pL [pv (some (kb,0)),pv (some (xb,0)),.int .i64 e,.int .i64 s] aK [blk kb cr kc,blk xb cX x.C,bE pp p] (fun r=>pa_ (r = KK.goes p x e s) [blk kb cr kc,blk xb cX x.C,bE pp p]):=by
  intro h s0
  have tok:Caps.Ok p.caps:=by
    obtain ⟨_,_,_,ok,_⟩:=fJ (bp [2] s0 rfl); exact ok.tree
  refine sim_kern_Kern_goes _ _ _ _ ?_
  unfold tM
  have j1:¬ (x.fc.e0 = 5∧e = x.fenv∧s = IntKind.i64.wrap x.fc.e1)→iS (some (kb,0)) e s (fun r=>pa_ (r = KK.goes p x e s) [blk kb cr kc,blk xb cX x.C,bE pp p]) (xb,0) x.fc.e1 () h:=by
    intro hno
    have eg:KK.goes p x e s = vV p.caps x (Caps.at_ p.caps e s):=by unfold KK.goes; rw [if_neg hno,up_at]
    rw [eg]
    unfold iS
    refine cO (bB pp s0 (i:=0) rfl rfl h0 ?_)
    refine bZ (wc pp p e s) (i:=2) rfl s0 fun r h1 hr s1=>?_
    subst hr
    refine oS s1 fun b h2 s2=>?_
    refine uq (i:=0) s2 rfl (by simp [qf]) fun h3 s3=>?_
    have s3':aP [blk b fK (Caps.at_ p.caps e s).1.C,blk kb cr kc,blk xb cX x.C,bE pp p] h3:=s3
    refine Lp.intro (fun (z:Ptr × Bool) h=>∃ (b:Nat) (a i:Int),z = (some (b,0),(Caps.at_ p.caps a i).2)∧vV p.caps x (Caps.at_ p.caps a i) = vV p.caps x (Caps.at_ p.caps e s)∧aP [blk b fK (Caps.at_ p.caps a i).1.C,blk kb cr kc,blk xb cX x.C,bE pp p] h)
      (fun (z:Ptr × Bool) h=>Caps.deep 40 p.caps (capOf h z.1)) ⟨b,e,s,rfl,rfl,s3'⟩ ?_
    rintro z h ⟨b,a,i,rfl,hu,s4⟩
    unfold oK
    rw [capOf_eq (i:=0) s4 rfl]
    refine bk (fun k=>?_) (fun k=>?_)
    · have hat:Caps.has p.caps a i = true∧(Caps.get p.caps a i).fRights ≠ 0:=by
        unfold Caps.at_ at k; split at k
        · assumption
        · cases k
      have e1:=at_get hat.1 hat.2
      rw [e1] at s4 hu ⊢
      have step:=Caps.under_step tok hat.1 ⟨x.fenv,IntKind.i64.wrap x.fc.e1⟩
      have hu':vV p.caps x (Caps.get p.caps a i,true) = Caps.under p.caps (Caps.get p.caps a i) ⟨x.fenv,IntKind.i64.wrap x.fc.e1⟩:=rfl
      rw [hu'] at hu
      refine cO (bB (Caps.get p.caps a i).fEnv s4 (i:=0) rfl rfl rfl ?_)
      refine bk (fun k2=>?_) (fun k2=>?_)
      · have k2':0 ≤ (Caps.get p.caps a i).fEnv:=by simpa using k2
        rw [if_pos ⟨hat.2,k2'⟩] at step
        have dd:=Caps.deep_step tok hat.1 ⟨hat.2,k2'⟩
        obtain ⟨q1,q2⟩:=Caps.parent_has tok hat.1 hat.2 k2'
        have next:¬ ((Caps.get p.caps a i).fEnv = x.fenv∧(Caps.get p.caps a i).fSlot = IntKind.i64.wrap x.fc.e1) →
            iR (kb,0) b (fun s' h'=>(∃ (b:Nat) (a i:Int),s' = (some (b,0),(Caps.at_ p.caps a i).2)∧vV p.caps x (Caps.at_ p.caps a i) = vV p.caps x (Caps.at_ p.caps e s)∧aP [blk b fK (Caps.at_ p.caps a i).1.C,blk kb cr kc,blk xb cX x.C,bE pp p] h')∧Caps.deep 40 p.caps (capOf h' s'.1) < Caps.deep 40 p.caps (Caps.get p.caps a i)) (b,0) () h:=by
          intro hne
          unfold iR
          refine ld_s (i:=0) (Caps.get p.caps a i) s4 rfl (by simp) ?_
          refine oS s4 fun b2 h5 s5=>?_
          refine uq (i:=0) s5 rfl (by simp [qf]) fun h6 s6=>?_
          have s6':aP [blk b2 fK (Caps.get p.caps a i).C,blk b fK (Caps.get p.caps a i).C,blk kb cr kc,blk xb cX x.C,bE pp p] h6:=s6
          refine bB pp s6' (i:=2) rfl rfl h0 ?_
          refine bB (Caps.get p.caps a i).fEnv s6' (i:=0) rfl rfl rfl ?_
          refine bB (Caps.get p.caps a i).fSlot s6' (i:=0) rfl rfl rfl ?_
          refine bZ (wc pp p _ _) (i:=4) rfl s6' fun r h7 hr s7=>?_
          subst hr
          refine uq (i:=0) s7 rfl (by simp [qf]) fun h8 s8=>?_
          have s8':aP [blk b2 fK (Caps.at_ p.caps (Caps.get p.caps a i).fEnv (Caps.get p.caps a i).fSlot).1.C,blk b fK (Caps.get p.caps a i).C,blk kb cr kc,blk xb cX x.C,bE pp p] h8:=s8
          have e2:=at_get q1 q2
          refine ⟨⟨b2,_,_,rfl,?_,ct (l:=[blk b fK (Caps.get p.caps a i).C]) (bp [1] s8' rfl)⟩,?_⟩
          · rw [e2,← hu,step,if_neg hne]; rfl
          · rw [capOf_eq (i:=0) s8' rfl,e2]; exact dd
        refine bB (Caps.get p.caps a i).fEnv s4 (i:=0) rfl rfl rfl ?_
        refine bB x.fenv s4 (i:=2) rfl rfl rfl ?_
        refine bk (fun k3=>?_) (fun k3=>?_)
        · have k3':(Caps.get p.caps a i).fEnv = x.fenv:=by simpa using k3
          refine bB (Caps.get p.caps a i).fSlot s4 (i:=0) rfl rfl rfl ?_
          refine bk (fun k4=>?_) (fun k4=>?_)
          · have k4':(Caps.get p.caps a i).fSlot = IntKind.i64.wrap x.fc.e1:=by simpa using k4
            rw [if_pos ⟨k3',k4'⟩] at step
            exact bi (by rw [← hu,step]) (ct (l:=[blk b fK (Caps.get p.caps a i).C]) s4)
          · exact next (fun hh=>by simp [hh.2] at k4)
        · exact next (fun hh=>by simp [hh.1] at k3)
      · have k2':¬ 0 ≤ (Caps.get p.caps a i).fEnv:=by simpa using k2
        rw [if_neg (fun hh=>k2' hh.2)] at step
        exact bi (by rw [← hu,step]) (ct (l:=[blk b fK (Caps.get p.caps a i).C]) s4)
    · refine bi ?_ (ct (l:=[blk b fK (Caps.at_ p.caps a i).1.C]) s4)
      rw [← hu]; unfold vV
      have k':(Caps.at_ p.caps a i).2 = false:=k
      rw [k']; rfl
  refine cO (bB x.fc.e1 s0 (i:=1) rfl rfl rfl ?_)
  refine bB x.fc.e0 s0 (i:=1) rfl rfl rfl ?_
  refine bk (fun k=>?_) (fun k=>?_)
  · have k':x.fc.e0 = 5:=by simpa using k
    refine bB x.fenv s0 (i:=1) rfl rfl rfl ?_
    refine bk (fun k2=>?_) (fun k2=>?_)
    · have k2':e = x.fenv∧s = IntKind.i64.wrap x.fc.e1:=by simpa using k2
      exact bi (by unfold KK.goes; rw [if_pos ⟨k',k2'⟩]) s0
    · exact j1 (fun hh=>by simp [hh.2.1,hh.2.2] at k2)
  · exact j1 (fun hh=>by simp [hh.1] at k)
theorem sp_kern_left (kb xb:Nat) (pp:Ptr) (kc:List Value) (p:PK) (x:KC) (e pg:Int) (q:Pte) (h0:kc[0]? = some (pv pp)) :
    Sp Tryz.prog lR [pv (some (kb,0)),pv (some (xb,0)),.int .i64 e,.int .i64 pg,.agg q.C.toArray] vO [blk kb cr kc,blk xb cX x.C,bE pp p] (fun r=>pa_ (r = KK.left p x e pg q) [blk kb cr kc,blk xb cX x.C,bE pp p]):=by
  intro h s0
  refine sim_kern_Kern_left _ _ _ _ _ ?_
  unfold tL
  have j1:∀ o:Bool,o = decide (x.fenv = e∧IntKind.i64.wrap x.fc.e1 = pg)→iQ (some (kb,0)) (some (xb,0)) e q (fun r=>pa_ (r = KK.left p x e pg q) [blk kb cr kc,blk xb cX x.C,bE pp p]) o h:=by
    intro o ho
    unfold iQ
    refine cO (bB x.fc.e0 s0 (i:=1) rfl rfl rfl ?_)
    refine bk (fun k=>?_) (fun k=>?_)
    · have k':x.fc.e0 = 7:=by simpa using k
      refine bk (fun k2=>?_) (fun k2=>?_)
      · have k2':x.fenv = e∧IntKind.i64.wrap x.fc.e1 = pg:=of_decide_eq_true (ho ▸ k2)
        exact bi (by unfold KK.left; rw [if_pos k',if_pos k2']) s0
      · have k2':¬ (x.fenv = e∧IntKind.i64.wrap x.fc.e1 = pg):=of_decide_eq_false (ho ▸ k2)
        exact bi (by unfold KK.left; rw [if_pos k',if_neg k2']) s0
    · have k':¬ x.fc.e0 = 7:=by simpa using k
      refine bk (fun k2=>?_) (fun k2=>?_)
      · have k2':x.fc.e0 = 8:=by simpa using k2
        refine cO (bB pp s0 (i:=0) rfl rfl h0 ?_)
        refine bZ (wc pp p e q.fSlot) (i:=2) rfl s0 fun r h1 hr s1=>?_
        subst hr
        refine bB x.fc.e2 s1 (i:=1) rfl rfl rfl ?_
        refine bk (fun k3=>?_) (fun k3=>?_)
        · rw [Bool.and_eq_true] at k3
          have k3':x.fenv = e∧IntKind.i64.wrap x.fc.e1 = pg:=of_decide_eq_true (ho ▸ k3.1)
          exact bi (by unfold KK.left; rw [if_neg k',if_pos k2',if_pos ⟨k3',k3.2⟩]) s1
        · have k3':¬ ((x.fenv = e∧IntKind.i64.wrap x.fc.e1 = pg)∧bu (IntKind.i64.wrap x.fc.e2) (Caps.at_ p.caps e q.fSlot).1.fRights = true):=by
            rintro ⟨h3,h4⟩
            rw [ho,decide_eq_true h3,h4] at k3; cases k3
          exact bi (by unfold KK.left; rw [if_neg k',if_pos k2',if_neg k3']) s1
      · have k2':¬ x.fc.e0 = 8:=by simpa using k2
        refine cW [0,0,0] (sp_kern_goes kb xb pp kc p x e q.fSlot h0) s0 rfl fun r h1 s1=>?_
        obtain ⟨rfl,s2⟩:=bF.1 s1
        refine bk (fun k3=>?_) (fun k3=>?_)
        · exact bi (by unfold KK.left; rw [if_neg k',if_neg k2',if_pos k3]) s2
        · exact bi (by unfold KK.left; rw [if_neg k',if_neg k2',if_neg (by rw [k3]; exact Bool.false_ne_true)]) s2
  refine cO (bB x.fenv s0 (i:=1) rfl rfl rfl ?_)
  refine bk (fun k=>?_) (fun k=>?_)
  · have k':x.fenv = e:=by simpa using k
    refine bB x.fc.e1 s0 (i:=1) rfl rfl rfl ?_
    refine j1 _ ?_
    by_cases h1:IntKind.i64.wrap x.fc.e1 = pg <;> simp [k',h1]
  · have k':¬ x.fenv = e:=by simpa using k
    exact j1 false (by simp [k'])
theorem sp_kern_seen (kb:Nat) (pp:Ptr) (kc:List Value) (p:PK) (cs:Sl) (cp:List Ptr) (calls:List (Option KC)) (e pg:Int) (h0:kc[0]? = some (pv pp)) (h5:kc[5]? = some (sv cs)) (hl:cp.length = calls.length) (hb:calls.length ≤ 8) :
    Sp Tryz.prog lQ [pv (some (kb,0)),.int .i64 e,.int .i64 pg] cH [blk kb cr kc,bE pp p,vQ fh cs cp,all iw cp calls] (fun r=>pa_ (r = KK.seenFrom p e pg calls (PK.pte p e pg).2 (PK.pte p e pg).1) [blk kb cr kc,bE pp p,vQ fh cs cp,all iw cp calls]):=by
  intro h s0
  refine sim_kern_Kern_seen _ _ _ ?_
  unfold tK
  refine cO (bB pp s0 (i:=0) rfl rfl h0 ?_)
  refine bZ (rH pp p e pg) (i:=1) rfl s0 fun r h1 hr s1=>?_
  subst hr
  refine bB cs s1 (i:=0) rfl rfl h5 ?_
  have hcs:=(cq (j:=2) s1 rfl).1
  refine Lp.intro (fun (z:Bool × Int × Pte) h=>∃ n:Nat,z.2.1 = n∧n ≤ calls.length∧KK.seenFrom p e pg (calls.drop n) z.1 z.2.2 = KK.seenFrom p e pg calls (PK.pte p e pg).2 (PK.pte p e pg).1∧aP [blk kb cr kc,bE pp p,vQ fh cs cp,all iw cp calls] h) (fun (z:Bool × Int × Pte) _=>calls.length - z.2.1.toNat) ⟨0,rfl,Nat.zero_le _,rfl,s1⟩ ?_
  rintro ⟨b,i,q⟩ h ⟨n,rfl,hn,he,s2⟩
  unfold oJ
  simp only at he ⊢
  refine bk (fun k=>?_) (fun k=>?_)
  · have hlt:n < calls.length:=by rw [hcs,hl] at k; simpa using k
    have hlp:n < cp.length:=by omega
    have hw:IntKind.i64.wrap ((n:Int) + 1) = ((n + 1:Nat):Int):=by rw [cf (by omega) (by omega)]; rfl
    rw [List.drop_eq_getElem_cons hlt] at he
    refine dE s2 (j:=2) rfl (by omega) (by show (n:Int) < _; omega) fun q0 hq0=>?_
    refine eC (j:=2) (i:=n) (k:=0) cp[n] gP s2 rfl hq0 (by simp) (aO hlp) (by simp) ?_
    have skip:KK.seenFrom p e pg (calls.drop (n + 1)) b q = KK.seenFrom p e pg calls (PK.pte p e pg).2 (PK.pte p e pg).1→gn e pg (kb,0) (fun s' h'=>(∃ n:Nat,s'.2.1 = n∧n ≤ calls.length∧KK.seenFrom p e pg (calls.drop n) s'.1 s'.2.2 = KK.seenFrom p e pg calls (PK.pte p e pg).2 (PK.pte p e pg).1∧aP [blk kb cr kc,bE pp p,vQ fh cs cp,all iw cp calls] h')∧calls.length - s'.2.1.toNat < calls.length - (n:Int).toNat) (b,(n:Int),q) cp[n] false h:=by
      intro hs
      unfold gn
      refine dJ rfl ?_
      rw [hw]
      exact ⟨⟨n + 1,rfl,hlt,hs,s2⟩,by simp; omega⟩
    cases hc:calls[n] with
    | none =>
      have hcn:calls[n]? = some none:=by rw [aO hlt,hc]
      have hp:=call_none (j:=3) s2 rfl (aO hlp) hcn
      rw [hc] at he
      refine dJ (by rw [hp]; simp) ?_
      exact skip he
    | some x =>
      have hcn:calls[n]? = some (some x):=by rw [aO hlt,hc]
      obtain ⟨xb,hp,hbx⟩:=vH (j:=3) s2 rfl (aO hlp) hcn
      rw [hc,KK.seenFrom] at he
      have hcp:cp[n]? = some (some (xb,0)):=by rw [aO hlp,hp]
      rw [hp] at skip ⊢
      refine bk (fun k2=>?_) (fun k2=>?_)
      · have k2':b = true:=by simpa using k2
        subst k2'
        refine cO (ld_c1 (j:=3) x.ftold s2 rfl hcp hcn rfl rfl ?_)
        cases ht:x.ftold with
        | false =>
          rw [ht,if_neg (by simp)] at he
          exact skip he
        | true =>
          rw [ht,if_pos ⟨rfl,rfl⟩] at he
          unfold gn
          refine dW rfl ?_
          obtain ⟨xb',hp',s3⟩:=call_out hcp hcn (bp [3] s2 rfl)
          cases hp'
          refine cW [2,0,1] (sp_kern_left kb xb pp kc p x e pg q h0) s3 rfl fun r h4 s4=>?_
          obtain ⟨rfl,s5⟩:=bF.1 s4
          rw [hw]
          have s6:=call_in (y:=x) hcp hlt hl (bp [1,2] s5 rfl)
          rw [iH hcn] at s6
          refine ⟨⟨n + 1,rfl,hlt,he,bp [1,1,1] s6 rfl⟩,by simp; omega⟩
      · have k2':b = false:=by simpa using k2
        subst k2'
        rw [if_neg (by simp)] at he
        exact skip he
  · have:n = calls.length:=by rw [hcs,hl] at k; simp at k; omega
    subst this
    rw [List.drop_length] at he
    exact bi he s2
theorem any_succ (f:Nat→Bool) (n:Nat):(List.range (n + 1)).any f = ((List.range n).any f || f n):=by
  rw [List.range_succ,List.any_append]; simp
theorem any_true {f:Nat→Bool} {n N:Nat} (h:n < N) (hf:f n = true):(List.range N).any f = true:=List.any_eq_true.2 ⟨n,List.mem_range.2 h,hf⟩
theorem sp_kern_takes (kb xb:Nat) (pp:Ptr) (kc:List Value) (p:PK) (x:KC) (h0:kc[0]? = some (pv pp)) (h1:kc[1]? = some (.int .i64 p.s.fEnvs)) :
    Sp Tryz.prog oD [pv (some (kb,0)),pv (some (xb,0))] aK [blk kb cr kc,blk xb cX x.C,bE pp p] (fun r=>pa_ (r = KK.takes p x) [blk kb cr kc,blk xb cX x.C,bE pp p]):=by
  intro h s0
  have hsz:1 ≤ p.s.fEnvs∧p.s.fEnvs ≤ 4:=by
    obtain ⟨_,_,_,ok,_⟩:=fJ (bp [2] s0 rfl); have:=jq.1 ok.sz; omega
  refine sim_kern_Kern_takes _ _ ?_
  unfold sC
  have no:(Word.check x.fc p.s.fEnvs ≠ 0∨x.fc.e0 < 4∨x.fc.e0 > 8∨x.fc.e0 = 6)→KK.takes p x = false:=fun hh=>if_pos hh
  refine cO (cO ?_)
  refine ld_s (i:=1) x.fc s0 rfl ?_ ?_
  · intro j v hv
    have:j < 5:=(List.getElem?_eq_some_iff.1 hv).1
    match j,this with
    | 0,_=>exact hv
    | 1,_=>exact hv
    | 2,_=>exact hv
    | 3,_=>exact hv
    | 4,_=>exact hv
  refine bB p.s.fEnvs s0 (i:=0) rfl rfl h1 ?_
  refine ti (iZ x.fc _) s0 fun r h2 hr s1=>?_
  subst hr
  refine bk (fun k=>?_) (fun k=>?_)
  · exact bi (no (.inl (by simpa using k))).symm s1
  have k0:¬ Word.check x.fc p.s.fEnvs ≠ 0:=by simpa using k
  refine bB x.fc.e0 s1 (i:=1) rfl rfl rfl ?_
  refine bk (fun k1=>?_) (fun k1=>?_)
  · exact bi (no (.inr (.inl (by simpa using k1)))).symm s1
  refine bB x.fc.e0 s1 (i:=1) rfl rfl rfl ?_
  refine bk (fun k2=>?_) (fun k2=>?_)
  · exact bi (no (.inr (.inr (.inl (by simpa using k2))))).symm s1
  refine bB x.fc.e0 s1 (i:=1) rfl rfl rfl ?_
  refine bk (fun k3=>?_) (fun k3=>?_)
  · exact bi (no (.inr (.inr (.inr (by simpa using k3))))).symm s1
  have yes:KK.takes p x = (List.range p.s.fEnvs.toNat).any fun e=>(List.range 8).any fun pg=>KK.hits p x e pg:=by
    unfold KK.takes
    rw [if_neg]
    rintro (h | h | h | h)
    · exact k0 h
    · simp at k1; omega
    · simp at k2; omega
    · simp at k3; exact k3 h
  rw [yes]
  obtain ⟨N,hN⟩:=Int.eq_ofNat_of_zero_le (show 0 ≤ p.s.fEnvs by omega)
  have hNt:p.s.fEnvs.toNat = N:=by omega
  rw [hNt]
  refine bB p.s.fEnvs s1 (i:=0) rfl rfl h1 ?_
  refine Lp.intro (fun (i:Int) h=>∃ n:Nat,i = n∧n ≤ N∧((List.range n).any fun e=>(List.range 8).any fun pg=>KK.hits p x e pg) = false∧aP [blk kb cr kc,blk xb cX x.C,bE pp p] h) (fun (i:Int) _=>N - i.toNat) ⟨0,rfl,Nat.zero_le _,rfl,s1⟩ ?_
  rintro i h ⟨n,rfl,hn,ha,s2⟩
  unfold nk
  refine bk (fun k4=>?_) (fun k4=>?_)
  · have hlt:n < N:=by rw [hN] at k4; simpa using k4
    have hw:IntKind.i64.wrap ((n:Int) + 1) = ((n + 1:Nat):Int):=by rw [cf (by omega) (by omega)]; rfl
    refine Lp.intro (fun (i:Int) h=>∃ m:Nat,i = m∧m ≤ 8∧((List.range m).any fun pg=>KK.hits p x n pg) = false∧aP [blk kb cr kc,blk xb cX x.C,bE pp p] h) (fun (i:Int) _=>8 - i.toNat) ⟨0,rfl,Nat.zero_le _,rfl,s2⟩ ?_
    rintro i h ⟨m,rfl,hm,ha2,s3⟩
    unfold nj
    refine bk (fun k5=>?_) (fun k5=>?_)
    · have hlt2:m < 8:=by have:=of_decide_eq_true k5; omega
      have hw2:IntKind.i64.wrap ((m:Int) + 1) = ((m + 1:Nat):Int):=by rw [cf (by omega) (by omega)]; rfl
      refine bB pp s3 (i:=0) rfl rfl h0 ?_
      refine bZ (rH pp p n m) (i:=2) rfl s3 fun r h4 hr s4=>?_
      subst hr
      refine bk (fun k6=>?_) (fun k6=>?_)
      · refine cW [0,0,0] (sp_kern_left kb xb pp kc p x n m (PK.pte p n m).1 h0) s4 rfl fun r h5 s5=>?_
        obtain ⟨rfl,s6⟩:=bF.1 s5
        refine bk (fun k7=>?_) (fun k7=>?_)
        · have hh:KK.hits p x n m = true:=by unfold KK.hits; rw [k6,k7]; rfl
          exact bi (any_true hlt (any_true hlt2 hh)).symm s6
        · have hh:KK.hits p x n m = false:=by unfold KK.hits; rw [k6,k7]; rfl
          rw [hw2]
          exact ⟨⟨m + 1,rfl,hlt2,by rw [any_succ,ha2,hh]; rfl,s6⟩,by simp; omega⟩
      · have hh:KK.hits p x n m = false:=by unfold KK.hits; rw [k6]; rfl
        rw [hw2]
        exact ⟨⟨m + 1,rfl,hlt2,by rw [any_succ,ha2,hh]; rfl,s4⟩,by simp; omega⟩
    · have:m = 8:=by have:=of_decide_eq_false k5; omega
      subst this
      rw [hw]
      exact ⟨⟨n + 1,rfl,hlt,by rw [any_succ,ha,ha2]; rfl,s3⟩,by simp; omega⟩
  · have:n = N:=by rw [hN] at k4; simp at k4; omega
    subst this
    exact bi ha.symm s2
end Go.Proofs.YtniiiakkdoiaiaaGreatDoor
namespace Go.Proofs.YtniiiakkdoiaiaaGreatDoor
open Go Mb
structure KZ where
  b:Nat
  pp:Ptr
  ts:Sl
  tp:List Ptr
  pm:Ptr
  pe:Ptr
  cs:Sl
  cp:List Ptr
  es:Sl
abbrev kcl (z:KZ) (k:KK):List Value:=[pv z.pp,.int .i64 k.p.s.fEnvs,sv z.ts,pv z.pm,pv z.pe,sv z.cs,sv z.es,.int .i64 k.now]
abbrev mf (z:KZ) (k:KK):List As:=[blk z.b cr (kcl z k),bE z.pp k.p,vQ so z.ts z.tp,all fC z.tp k.tlbs,jd z.pm k.boxes,eX z.pe k.epochs,vQ fh z.cs z.cp,all iw z.cp k.calls,vE z.es k.events]
structure KZ.Ok (z:KZ) (k:KK):Prop where
  t:z.tp.length = k.tlbs.length
  c:z.cp.length = k.calls.length
def dz (x:Ptr) (k:KK):As:=fun h=>∃ z:KZ,(x = some (z.b,0)∧KZ.Ok z k∧KK.Ok k)∧aP (mf z k) h
theorem uh {x:Ptr} {k:KK} {l:List As} {h:Hp} (s0:aP (dz x k::l) h):∃ z:KZ,x = some (z.b,0)∧KZ.Ok z k∧KK.Ok k∧aP (mf z k++l) h:=by
  obtain ⟨z,⟨hx,h1,ok⟩,st⟩:=op_ s0
  exact ⟨z,hx,h1,ok,st⟩
theorem qd {z:KZ} {k:KK} {l:List As} {h:Hp} (h1:KZ.Ok z k) (ok:KK.Ok k) (st:aP (mf z k++l) h):aP (dz (some (z.b,0)) k::l) h :=
  cl_ (m:=fun z:KZ=>mf z k) z ⟨rfl,h1,ok⟩ st
theorem kk_len {k:KK} (ok:KK.Ok k):k.tlbs.length = k.calls.length∧k.boxes.length = k.calls.length∧k.epochs.2.length = k.calls.length∧1 ≤ k.calls.length∧k.calls.length ≤ 8:=by
  have h1:=ok.tl; have h2:=ok.bl; have h3:=ok.el; have h4:=ok.cl; have h5:=jq.1 ok.p.sz
  omega
theorem is_nat {k:KK} {c:Int} (h:KK.is k c = true):∃ n:Nat,c = n∧n < k.calls.length:=by
  have:=of_decide_eq_true (show decide (0 ≤ c∧c < (k.calls.length:Int)) = true from h)
  exact ⟨c.toNat,by omega,by omega⟩
theorem call_nat {k:KK} {n:Nat} (h:n < k.calls.length):KK.call k n = k.calls[n]:=by simp [KK.call,h]
theorem buf_nat {k:KK} {n:Nat} (h:n < k.tlbs.length):KK.buf k n = k.tlbs[n]:=by simp [KK.buf,h]
theorem wd (x:Ptr) (k:KK) (c:Int):Sp Tryz.prog ju [pv x,.int .i64 c] aK [dz x k] (fun r=>pa_ (r = KK.is k c) [dz x k]):=by
  intro h s0
  obtain ⟨z,rfl,zo,ok,st⟩:=uh s0
  have hcs:=(cq (j:=6) st rfl).1
  refine sim_kern_Kern_is _ _ ?_
  unfold sh_kern_Kern_is
  refine bk (fun d=>?_) (fun d=>?_)
  · have d':0 ≤ c:=by simpa using d
    refine cO (bB z.cs st (i:=0) rfl rfl rfl ?_)
    exact bi (by rw [hcs,zo.c]; simp [KK.is,d']) s0
  · have d':¬ 0 ≤ c:=by simpa using d
    exact bi (by simp [KK.is]; intro h; exact absurd h d') s0
theorem nZ (x:Ptr) (k:KK) (c:Int):Sp Tryz.prog fN [pv x,.int .i64 c] aK [dz x k] (fun r=>pa_ (r = KK.busy k c) [dz x k]):=by
  intro h s0
  refine sim_kern_Kern_Busy _ _ ?_
  unfold tR
  refine bZ (wd x k c) (i:=0) rfl s0 fun r h1 hr s1=>?_
  subst hr
  refine bk (fun d=>?_) (fun d=>?_)
  · obtain ⟨n,rfl,hn⟩:=is_nat d
    obtain ⟨z,rfl,zo,ok,st⟩:=uh s1
    have hcs:=(cq (j:=6) st rfl).1
    have hn':n < z.cp.length:=by rw [zo.c]; exact hn
    refine cO (bB z.cs st (i:=0) rfl rfl rfl ?_)
    refine dE st (j:=6) rfl (by omega) (by omega) fun q hq=>?_
    refine eC (j:=6) (i:=n) (k:=0) z.cp[n] gP st rfl hq (by simp) (aO hn') (by simp) ?_
    refine bi ?_ s1
    unfold KK.busy
    rw [d,call_nat hn]
    cases hc:k.calls[n] with
    | none =>
      have:=call_none (j:=7) st rfl (aO hn') (by rw [aO hn,hc])
      rw [this]; rfl
    | some y =>
      obtain ⟨b,hp,_⟩:=vH (j:=7) st rfl (aO hn') (by rw [aO hn,hc])
      rw [hp]; rfl
  · exact bi (by unfold KK.busy; rw [d]; rfl) s1
theorem sp_kern_Begin (x:Ptr) (k:KK) (core env:Int) (c:jE) (hn:k.now < 2 ^ 38):Sp Tryz.prog oE [pv x,.int .i64 core,.int .i64 env,.agg c.C.toArray] aK [dz x k] (fun r=>pa_ (r = (KK.begin_ k core env c).1) [dz x (KK.begin_ k core env c).2]):=by
  intro h s0
  refine sim_kern_Kern_Begin _ _ _ _ ?_
  unfold sE
  have no:(KK.is k core = false∨KK.busy k core = true∨env < 0∨env ≥ k.p.s.fEnvs)→KK.begin_ k core env c = (false,k):=fun hh=>if_pos hh
  refine bZ (wd x k core) (i:=0) rfl s0 fun r h1 hr s1=>?_
  subst hr
  refine bk (fun d=>?_) (fun d=>?_)
  · have d':KK.is k core = true:=by simpa using d
    refine bZ (nZ x k core) (i:=0) rfl s1 fun r h2 hr s2=>?_
    subst hr
    refine bk (fun d2=>?_) (fun d2=>?_)
    · have d2':KK.busy k core = false∧¬ env < 0:=by simpa using d2
      obtain ⟨z,rfl,zo,ok,st⟩:=uh s2
      refine cO (bB k.p.s.fEnvs st (i:=0) rfl rfl rfl ?_)
      refine bk (fun d3=>?_) (fun d3=>?_)
      · rw [no (.inr (.inr (.inr (by simpa using d3))))]
        exact bi rfl s2
      · have d3':¬ env ≥ k.p.s.fEnvs:=by simpa using d3
        have ok2:=kok_begin ok (by omega) core env c
        have e1:KK.begin_ k core env c = (true,{ k with now:=IntKind.i64.wrap (k.now + 1),events:=k.events++[KK.ev0 core env c (IntKind.i64.wrap (k.now + 1))],calls:=k.calls.set core.toNat (some ⟨k.events.length,env,c,false,0⟩) }):=by
          unfold KK.begin_; rw [if_neg]; simp [d',d2'.1]; omega
        rw [e1] at ok2 ⊢
        obtain ⟨n,rfl,hcn⟩:=is_nat d'
        have hn':n < z.cp.length:=by rw [zo.c]; exact hcn
        have hcs:=(cq (j:=6) st rfl).1
        have hel:=ok.evn
        refine bB k.now st (i:=0) rfl rfl rfl ?_
        refine uq (i:=0) st rfl (Nat.le_of_ble_eq_true rfl) fun h3 s3=>?_
        refine bB (IntKind.i64.wrap (k.now + 1)) s3 (i:=0) rfl rfl rfl ?_
        refine bB z.es s3 (i:=0) rfl rfl rfl ?_
        refine kr (τ:=co) (i:=8) (enc:=aM.C) (val:=fun x=>.agg x.C.toArray) (x:=KK.ev0 n env c (IntKind.i64.wrap (k.now + 1))) qe np ev_one (fun _=>rfl) (by omega) rfl rfl s3 rfl (by omega) (by omega) fun v h4 s4=>?_
        refine uq (i:=0) s4 rfl (Nat.le_of_ble_eq_true rfl) fun h5 s5=>?_
        refine bB v s5 (i:=0) rfl rfl rfl ?_
        have hvl:=(cq (j:=8) s5 rfl).1
        refine bB z.cs s5 (i:=0) rfl rfl rfl ?_
        have hw:IntKind.i64.wrap ((v.len:Int) - 1) = k.events.length:=by rw [hvl]; rw [cf] <;> simp <;> omega
        rw [hw]
        refine oS s5 fun b68 h6 s6=>?_
        refine dE s6 (j:=7) rfl (by omega) (by omega) fun q hq=>?_
        refine st_v (j:=7) (i:=n) (k:=0) (some (b68,0):Ptr) gP s6 rfl hq (by simp) (aO hn') (by simp) rfl fun h7 s7=>?_
        have s8:=bp [8] s7 rfl
        have s10:=all_but (aO hn') (aO hcn) s8
        have s12:=call_mk (y:=⟨k.events.length,env,c,false,0⟩) (bp [1,0] s10 rfl)
        have s14:=all_in2 (A:=iw) hcn zo.c s12
        refine bi rfl (qd (z:={ z with es:=v,cp:=z.cp.set n (some (b68,0)) }) ⟨zo.t,by simpa using zo.c⟩ ok2 (bp [1,1,1,1,1,1,1,0,0] s14 rfl))
    · rw [no]
      · exact bi rfl s2
      · simp at d2
        cases hb:KK.busy k core with
        | true=>exact .inr (.inl rfl)
        | false=>exact .inr (.inr (.inl (d2 hb)))
  · rw [no (.inl (by simpa using d))]
    exact bi rfl s1
theorem cleans_drop (k:KK) (ls:List Line) (n:Nat) (h:n < ls.length) (b:Buf):KK.cleans k (ls.drop n) b = if KK.stale k ls[n] = true then KK.cleans k (ls.drop (n + 1)) (Tlb.flush b ls[n].fEnv ls[n].fPage).2 else KK.cleans k (ls.drop (n + 1)) b:=by
  rw [List.drop_eq_getElem_cons h,KK.cleans]
theorem sp_kern_clean (z:KZ) (k:KK) (c:Nat) (hc:c < k.calls.length) (zo:KZ.Ok z k) (ok:KK.Ok k) :
    Sp Tryz.prog kL [pv (some (z.b,0)),.int .i64 c] R_ (mf z k) (fun _=>aP (mf z (KK.clean k c))):=by
  intro h s0
  obtain ⟨l1,l2,l3,l4,l5⟩:=kk_len ok
  have hct:c < k.tlbs.length:=by omega
  have hcp:c < z.tp.length:=by rw [zo.t]; exact hct
  have hts:=(cq (j:=2) s0 rfl).1
  refine sim_kern_Kern_clean _ _ ?_
  unfold sD
  refine cO (bB z.ts s0 (i:=0) rfl rfl rfl ?_)
  refine dE s0 (j:=2) rfl (by omega) (by omega) fun q hq=>?_
  refine eC (j:=2) (i:=c) (k:=0) z.tp[c] gP s0 rfl hq (by simp) (aO hcp) (by simp) ?_
  have s1:=jl (aO hcp) (aO hct) (bp [3] s0 rfl)
  refine cl_n (sp_tlb_Lines z.tp[c] k.tlbs[c]) (i:=0) rfl s1 fun r h2 s2=>?_
  have s3:=vN (aO hcp) (aO hct) zo.t (bp [1,1] s2 rfl)
  have s4:aP (vL r (Tlb.lines k.tlbs[c])::mf z k) h2:=bp [1,1,1,1,0] s3 rfl
  have hll:(Tlb.lines k.tlbs[c]).length = 8:=by
    obtain ⟨_,_,h8,_⟩:=nU s1
    unfold Tlb.lines; simpa using h8
  have hrl:=(cq (j:=0) s4 rfl).1
  have hbuf:KK.buf k c = k.tlbs[c]:=buf_nat hct
  have same:k.tlbs.set c k.tlbs[c] = k.tlbs:=iH (aO hct)
  refine Lp.intro (fun (i:Int) h=>∃ (n:Nat) (b:Buf),i = n∧n ≤ 8∧KK.cleans k ((Tlb.lines k.tlbs[c]).drop n) b = KK.cleans k (Tlb.lines k.tlbs[c]) k.tlbs[c]∧aP (vL r (Tlb.lines k.tlbs[c])::mf z { k with tlbs:=k.tlbs.set c b }) h) (fun (i:Int) _=>8 - i.toNat) ⟨0,k.tlbs[c],rfl,Nat.zero_le _,rfl,by rw [same]; exact s4⟩ ?_
  rintro i h ⟨n,b,rfl,hn,he,s5⟩
  unfold nl
  refine bk (fun d=>?_) (fun d=>?_)
  · have hlt:n < (Tlb.lines k.tlbs[c]).length:=by rw [hrl] at d; simpa using d
    have hw:IntKind.i64.wrap ((n:Int) + 1) = ((n + 1:Nat):Int):=by rw [cf (by omega) (by omega)]; rfl
    rw [cleans_drop k _ n hlt] at he
    refine dE s5 (j:=0) rfl (by omega) (by omega) fun q2 hq2=>?_
    refine eC (j:=0) (i:=n) (k:=0) (Tlb.lines k.tlbs[c])[n] line_len s5 rfl hq2 (by simp) (aO hlt) (by simp) ?_
    have hcb:c < (k.tlbs.set c b).length:=by simpa using hct
    have hgb:(k.tlbs.set c b)[c] = b:=by simp
    have j1:∀ (o:Bool × Pte) (h:Hp),((decide ((Tlb.lines k.tlbs[c])[n].fEnv ≥ 0)) && (((!o.1) || (o.2.fFrame != (Tlb.lines k.tlbs[c])[n].fFrame)) || (!(bu (Tlb.lines k.tlbs[c])[n].fRights o.2.fRights)))) = KK.stale k (Tlb.lines k.tlbs[c])[n]→aP (vL r (Tlb.lines k.tlbs[c])::mf z { k with tlbs:=k.tlbs.set c b }) h →
        ii c (z.b,0) (fun s' h'=>(∃ (n:Nat) (b:Buf),s' = n∧n ≤ 8∧KK.cleans k ((Tlb.lines k.tlbs[c]).drop n) b = KK.cleans k (Tlb.lines k.tlbs[c]) k.tlbs[c]∧aP (vL r (Tlb.lines k.tlbs[c])::mf z { k with tlbs:=k.tlbs.set c b }) h')∧8 - s'.toNat < 8 - (n:Int).toNat) n (Tlb.lines k.tlbs[c])[n] o h:=by
      intro o h hs s6
      unfold ii
      rw [hs,hw]
      refine bk (fun d2=>?_) (fun d2=>?_)
      · rw [if_pos d2] at he
        refine bB z.ts s6 (i:=1) rfl rfl rfl ?_
        refine dE s6 (j:=3) rfl (by omega) (by omega) fun q3 hq3=>?_
        refine eC (j:=3) (i:=c) (k:=0) z.tp[c] gP s6 rfl hq3 (by simp) (aO hcp) (by simp) ?_
        have s7:=jl (aO hcp) (aO hcb) (bp [4] s6 rfl)
        rw [hgb] at s7
        refine bZ (sp_tlb_Flush z.tp[c] b _ _) (i:=0) rfl s7 fun r h8 hr s8=>?_
        have s9:=xh (aO hcp) hcb (by simpa using zo.t) s8
        rw [List.set_set] at s9
        exact ⟨⟨n + 1,_,rfl,by omega,he,bp [1,1,1,1] s9 rfl⟩,by simp; omega⟩
      · rw [if_neg (by rw [d2]; exact Bool.false_ne_true)] at he
        exact ⟨⟨n + 1,b,rfl,by omega,he,s6⟩,by simp; omega⟩
    refine bk (fun d2=>?_) (fun d2=>?_)
    · have d2':0 ≤ (Tlb.lines k.tlbs[c])[n].fEnv:=by simpa using d2
      refine cW [1,1,5,5] (sp_kern_seen z.b z.pp (kcl z k) k.p z.cs z.cp k.calls (Tlb.lines k.tlbs[c])[n].fEnv (Tlb.lines k.tlbs[c])[n].fPage rfl rfl zo.c l5) s5 rfl fun r h6 s6=>?_
      obtain ⟨rfl,s7⟩:=bF.1 s6
      refine j1 _ _ ?_ (bp [4,0,0,2,2,2,2,0,0] s7 rfl)
      unfold KK.stale KK.seen
      rfl
    · have d2':¬ 0 ≤ (Tlb.lines k.tlbs[c])[n].fEnv:=by simpa using d2
      refine j1 _ _ ?_ s5
      unfold KK.stale
      rw [d2,Bool.false_and,Bool.false_and]
  · have:n = 8:=by rw [hrl] at d; simp at d; omega
    subst this
    rw [← hll,List.drop_length] at he
    have e1:KK.clean k c = { k with tlbs:=k.tlbs.set c b }:=by
      unfold KK.clean
      rw [hbuf,← he,Int.toNat_natCast]; rfl
    rw [e1]
    exact ct (l:=[vL r (Tlb.lines k.tlbs[c])]) s5
theorem sp_kern_ends (z:KZ) (k:KK) (c:Nat) (x:KC) (a:gy) (l:Line) (hc:c < k.calls.length) (hx:k.calls[c]? = some (some x)) (zo:KZ.Ok z k) (ok:KK.Ok k) :
    Sp Tryz.prog lS [pv (some (z.b,0)),.int .i64 c,.agg a.C.toArray,.agg l.C.toArray] R_ (mf z k) (fun _=>aP [dz (some (z.b,0)) (KK.ends k c x a l)]):=by
  intro h s0
  have hcp:c < z.cp.length:=by rw [zo.c]; exact hc
  have hcs:=(cq (j:=6) s0 rfl).1
  have hes:=(cq (j:=8) s0 rfl).1
  obtain ⟨xb,hp,_⟩:=vH (j:=7) s0 rfl (aO hcp) hx
  have hcpx:z.cp[c]? = some (some (xb,0)):=by rw [aO hcp,hp]
  have hcok:=ok.cs x (List.mem_of_getElem? hx)
  obtain ⟨i,hi⟩:=Int.eq_ofNat_of_zero_le hcok.1
  have hil:i < k.events.length:=by omega
  refine sim_kern_Kern_ends _ _ _ _ ?_
  unfold tN
  refine cO (bB z.es s0 (i:=0) rfl rfl rfl ?_)
  refine bB z.cs s0 (i:=0) rfl rfl rfl ?_
  refine dE s0 (j:=6) rfl (by omega) (by omega) fun q hq=>?_
  refine eC (j:=6) (i:=c) (k:=0) z.cp[c] gP s0 rfl hq (by simp) (aO hcp) (by simp) ?_
  rw [hp]
  refine cO (ld_c1 (j:=7) x.fat s0 rfl hcpx hx rfl rfl ?_)
  rw [hi]
  refine dE s0 (j:=8) rfl (by omega) (by omega) fun q2 hq2=>?_
  refine bB k.now s0 (i:=0) rfl rfl rfl ?_
  refine bB k.now s0 (i:=0) rfl rfl rfl ?_
  refine st_v (j:=8) (i:=i) (k:=8) { k.events[i] with fEffect:=k.now } np s0 rfl hq2 rfl (aO hil) (by simp) rfl fun h1 s1=>?_
  have e1:(k.events.set i { k.events[i] with fEffect:=k.now })[i]? = some { k.events[i] with fEffect:=k.now }:=by simp [hil]
  refine st_v (j:=8) (i:=i) (k:=9) { k.events[i] with fEffect:=k.now,fEnd:=k.now } np s1 rfl hq2 rfl e1 (by simp) rfl fun h2 s2=>?_
  simp only [List.set_set] at s2
  have e2:(k.events.set i { k.events[i] with fEffect:=k.now,fEnd:=k.now })[i]? = some { k.events[i] with fEffect:=k.now,fEnd:=k.now }:=by simp [hil]
  refine st_v (j:=8) (i:=i) (k:=10) { k.events[i] with fEffect:=k.now,fEnd:=k.now,fAnswer:=a } np s2 rfl hq2 rfl e2 (by simp [al.C]) rfl fun h3 s3=>?_
  simp only [List.set_set] at s3
  have e3:(k.events.set i { k.events[i] with fEffect:=k.now,fEnd:=k.now,fAnswer:=a })[i]? = some { k.events[i] with fEffect:=k.now,fEnd:=k.now,fAnswer:=a }:=by simp [hil]
  refine st_v (j:=8) (i:=i) (k:=12) (KK.evend k.events[i] k.now a l) np s3 rfl hq2 rfl e3 (by simp [au.C]) rfl fun h4 s4=>?_
  simp only [List.set_set] at s4
  refine bB z.cs s4 (i:=0) rfl rfl rfl ?_
  refine dE s4 (j:=6) rfl (by omega) (by omega) fun q5 hq5=>?_
  refine st_v (j:=6) (i:=c) (k:=0) (none:Ptr) gP s4 rfl hq5 (by simp) (aO hcp) (by simp) rfl fun h5 s5=>?_
  have s7:=all_but hcpx hx (bp [7] s5 rfl)
  have s8:=star_cons (A:=iw none none) (fun _=>rfl) s7
  have s9:=all_in2 (A:=iw) hc zo.c s8
  have hge:k.events.getD i (KK.ev0 0 0 ⟨0,0,0,0,0⟩ 0) = k.events[i]:=by simp [hil]
  have e4:KK.ends k c x a l = { k with events:=k.events.set i (KK.evend k.events[i] k.now a l),calls:=k.calls.set c none }:=by
    unfold KK.ends; rw [hi,Int.toNat_natCast,Int.toNat_natCast,hge]
  have ok2:=kok_ends ok c x a l
  rw [e4] at ok2 ⊢
  refine qd (z:={ z with cp:=z.cp.set c none }) ⟨zo.t,by simpa using zo.c⟩ ok2 (bp [1,1,1,1,1,1,1,0,0] s9 rfl)
end Go.Proofs.YtniiiakkdoiaiaaGreatDoor
namespace Go.Proofs.YtniiiakkdoiaiaaGreatDoor
open Go Mb
theorem five {x:KC}:∀ (i:Nat) (v:Value),(ap.C x.fc)[i]? = some v→x.C[2 + i]? = some v:=by
  intro j v hv
  have:j < 5:=(List.getElem?_eq_some_iff.1 hv).1
  match j,this with
  | 0,_=>exact hv
  | 1,_=>exact hv
  | 2,_=>exact hv
  | 3,_=>exact hv
  | 4,_=>exact hv
theorem sp_kern_access (z:KZ) (k:KK) (c xb:Nat) (x:KC) (hc:c < k.calls.length) (hx:k.calls[c]? = some (some x)) (hp:z.cp[c]? = some (some (xb,0))) (zo:KZ.Ok z k) (ok:KK.Ok k) :
    Sp Tryz.prog ng [pv (some (z.b,0)),.int .i64 c,pv (some (xb,0))] eI (mf z k) (fun r=>pa_ (r = (KK.access k c x).1) (mf z (KK.access k c x).2)):=by
  intro h s0
  obtain ⟨l1,l2,l3,l4,l5⟩:=kk_len ok
  have hct:c < k.tlbs.length:=by omega
  have hcp:c < z.tp.length:=by rw [zo.t]; exact hct
  have hbuf:KK.buf k c = k.tlbs[c]:=buf_nat hct
  refine sim_kern_Kern_access _ _ _ ?_
  unfold ru
  refine cO (cO ?_)
  refine ld_c (j:=7) x.fc s0 rfl hp hx five ?_
  refine bB k.p.s.fEnvs s0 (i:=0) rfl rfl rfl ?_
  refine ti (iZ x.fc _) s0 fun r h1 hr s1=>?_
  subst hr
  refine bk (fun d=>?_) (fun d=>?_)
  · have e1:KK.access k c x = ((⟨Word.check x.fc k.p.s.fEnvs,0⟩,mv),k):=if_pos (by simpa using d)
    rw [e1]; exact bi rfl s1
  · have d':¬ Word.check x.fc k.p.s.fEnvs ≠ 0:=by simpa using d
    refine ld_c1 (j:=7) x.fc.e1 s1 rfl hp hx rfl rfl ?_
    refine my nX s1 fun r37 h2 s2=>?_
    refine ld_c1 (j:=8) x.fenv s2 rfl hp hx rfl rfl ?_
    refine cW [1,1,5,5] (sp_kern_seen z.b z.pp (kcl z k) k.p z.cs z.cp k.calls x.fenv (IntKind.i64.wrap x.fc.e1) rfl rfl zo.c l5) s2 rfl fun r h3 s3=>?_
    obtain ⟨hr,s4⟩:=bF.1 s3
    have hr':r = KK.seen k x.fenv (IntKind.i64.wrap x.fc.e1):=hr
    subst hr'
    have s5:aP (db r37 (List.replicate 8 eE)::mf z k) h3:=bp [4,0,0,2,2,2,2,0,0] s4 rfl
    have j1:∀ h,aP (db r37 (KK.tabFor k x.fenv (IntKind.i64.wrap x.fc.e1))::mf z k) h→gE c (fun r=>pa_ (r = (KK.access k c x).1) (mf z (KK.access k c x).2)) (xb,0) (z.b,0) x.fc.e1 r37 () h:=by
      intro h s6
      have hts:=(cq (j:=3) s6 rfl).1
      unfold gE
      refine ld_c1 (j:=8) x.fc.e0 s6 rfl hp hx rfl rfl ?_
      refine bB z.ts s6 (i:=1) rfl rfl rfl ?_
      refine dE s6 (j:=3) rfl (by omega) (by omega) fun q hq=>?_
      refine eC (j:=3) (i:=c) (k:=0) z.tp[c] gP s6 rfl hq (by simp) (aO hcp) (by simp) ?_
      refine ld_c1 (j:=8) x.fenv s6 rfl hp hx rfl rfl ?_
      have s7:=jl (aO hcp) (aO hct) (bp [4] s6 rfl)
      refine cW [0,1] (sp_user_Walk z.tp[c] r37 k.tlbs[c] (KK.tabFor k x.fenv (IntKind.i64.wrap x.fc.e1)) x.fenv (IntKind.i64.wrap x.fc.e1) (IntKind.i64.wrap x.fc.e0)) s7 rfl fun r h8 s8=>?_
      obtain ⟨hr,s9⟩:=bF.1 s8
      have hr':r = (KK.accWalk k c x).1:=by rw [hr]; unfold KK.accWalk; rw [hbuf]
      have hw:(User.walk k.tlbs[c] (KK.tabFor k x.fenv (IntKind.i64.wrap x.fc.e1)) x.fenv (IntKind.i64.wrap x.fc.e1) (IntKind.i64.wrap x.fc.e0)).2 = (KK.accWalk k c x).2:=by unfold KK.accWalk; rw [hbuf]
      rw [hw] at s9
      subst hr'
      have s10:=xh (aO hcp) hct zo.t (bp [0,1] s9 rfl)
      refine bk (fun d2=>?_) (fun d2=>?_)
      · have e1:KK.access k c x = ((⟨7,0⟩,mv),{ k with tlbs:=k.tlbs.set c (KK.accWalk k c x).2 }):=by
          unfold KK.access; rw [if_neg d',if_pos (by simpa using d2),Int.toNat_natCast]
        rw [e1]
        exact bi rfl (ct (l:=[db r37 _]) (bp [1,1,1,1,0] s10 rfl))
      · have e1:KK.access k c x = (((PK.touch k.p (KK.accWalk k c x).1.1.fFrame x.fc).1.1,(KK.accWalk k c x).1.1),{ k with tlbs:=k.tlbs.set c (KK.accWalk k c x).2,p:=(PK.touch k.p (KK.accWalk k c x).1.1.fFrame x.fc).2 }):=by
          unfold KK.access; rw [if_neg d',if_neg (by simpa using d2),Int.toNat_natCast]
        rw [e1]
        refine bB z.pp s10 (i:=2) rfl rfl rfl ?_
        refine ld_c (j:=8) x.fc s10 rfl hp hx five ?_
        refine bZ (nY z.pp k.p _ x.fc) (i:=3) rfl s10 fun r h11 hr s11=>?_
        subst hr
        have hs:=touch_s k.p (KK.accWalk k c x).1.1.fFrame x.fc
        refine bi rfl ?_
        have s12:=ct (l:=[db r37 _]) (bp [1,1,1,1,0] s11 rfl)
        have ek:kcl z { k with tlbs:=k.tlbs.set c (KK.accWalk k c x).2,p:=(PK.touch k.p (KK.accWalk k c x).1.1.fFrame x.fc).2 } = kcl z k:=by
          show [pv z.pp,Value.int .i64 (PK.touch k.p (KK.accWalk k c x).1.1.fFrame x.fc).2.s.fEnvs,_,_,_,_,_,_] = _
          rw [hs]
        show aP (blk z.b cr (kcl z _)::_) _
        rw [ek]
        exact s12
    refine bk (fun d2=>?_) (fun d2=>?_)
    · refine bZ (jY r37 _ (IntKind.i64.wrap x.fc.e1) (KK.seen k x.fenv (IntKind.i64.wrap x.fc.e1)).1) (i:=0) rfl s5 fun r h6 hr s6=>j1 _ ?_
      have e1:KK.tabFor k x.fenv (IntKind.i64.wrap x.fc.e1) = (Table.insert (List.replicate 8 eE) (IntKind.i64.wrap x.fc.e1) (KK.seen k x.fenv (IntKind.i64.wrap x.fc.e1)).1).2:=if_pos d2
      rw [e1]; exact s6
    · have e1:KK.tabFor k x.fenv (IntKind.i64.wrap x.fc.e1) = List.replicate 8 eE:=if_neg (by rw [d2]; exact Bool.false_ne_true)
      exact j1 _ (by rw [e1]; exact s5)
theorem access_calls (k:KK) (c:Int) (x:KC):(KK.access k c x).2.calls = k.calls:=by
  unfold KK.access
  repeat' split
  all_goals rfl
theorem access_tlen (k:KK) (c:Int) (x:KC):(KK.access k c x).2.tlbs.length = k.tlbs.length:=by
  unfold KK.access
  repeat' split
  all_goals simp
theorem kz_tlbs {z:KZ} {k k':KK} (zo:KZ.Ok z k) (h1:k'.tlbs.length = k.tlbs.length) (h2:k'.calls.length = k.calls.length):KZ.Ok z k':=⟨by rw [h1]; exact zo.t,by rw [h2]; exact zo.c⟩
theorem sp_kern_Step (x:Ptr) (k:KK) (c:Int) (hn:k.now < 2 ^ 37):Sp Tryz.prog pM [pv x,.int .i64 c] aK [dz x k] (fun r=>pa_ (r = (KK.step k c).1) [dz x (KK.step k c).2]):=by
  intro h s0
  refine sim_kern_Kern_Step _ _ ?_
  unfold tO
  refine bZ (nZ x k c) (i:=0) rfl s0 fun r h1 hr s1=>?_
  subst hr
  refine bk (fun d=>?_) (fun d=>?_)
  · have e1:KK.step k c = (false,k):=if_pos (by simpa using d)
    rw [e1]; exact bi rfl s1
  · have d':KK.busy k c = true:=by simpa using d
    obtain ⟨hi,y,hy⟩:=busy_is d'
    have e1:KK.step k c = (true,KK.work (KK.tick k) c y):=by unfold KK.step; rw [if_neg (by simp [d']),hy]
    rw [e1]
    obtain ⟨z,rfl,zo,ok,st⟩:=uh s1
    have okt:=kok_tick ok (by omega)
    obtain ⟨n,rfl,hnc⟩:=is_nat hi
    obtain ⟨l1,l2,l3,l4,l5⟩:=kk_len ok
    have hnp:n < z.cp.length:=by rw [zo.c]; exact hnc
    have hcs:=(cq (j:=6) st rfl).1
    have hxn:k.calls[n]? = some (some y):=by rw [aO hnc,← call_nat hnc,hy]
    have hep:=ok.epn
    have hwn:=wrapN ok.n0 (show k.now < 2 ^ 40 by omega)
    refine cO (bB k.now st (i:=0) rfl rfl rfl ?_)
    refine uq (i:=0) st rfl (Nat.le_of_ble_eq_true rfl) fun h2 s2=>?_
    have s3:aP (mf z (KK.tick k)) h2:=s2
    have zot:KZ.Ok z (KK.tick k):=⟨zo.t,zo.c⟩
    have hxt:(KK.tick k).calls[n]? = some (some y):=hxn
    have hyt:KK.call (KK.tick k) n = some y:=hy
    have hit:KK.is (KK.tick k) n = true:=hi
    have hept:((KK.tick k).epochs.1.length:Int) + 1 ≤ (KK.tick k).now:=by show _ ≤ IntKind.i64.wrap (k.now + 1); rw [hwn]; simp only [KK.tick]; omega
    have hnt:(KK.tick k).now ≤ 2 ^ 37:=by show IntKind.i64.wrap (k.now + 1) ≤ _; rw [hwn]; omega
    have okw:=kok_work okt hept hyt hit
    have hnct:n < (KK.tick k).calls.length:=hnc
    generalize KK.tick k = kt at *
    obtain ⟨xb,hp,_⟩:=vH (j:=7) s3 rfl (aO hnp) hxt
    have hpx:z.cp[n]? = some (some (xb,0)):=by rw [aO hnp,hp]
    refine bB z.cs s3 (i:=0) rfl rfl rfl ?_
    refine dE s3 (j:=6) rfl (by omega) (by omega) fun q hq=>?_
    refine eC (j:=6) (i:=n) (k:=0) z.cp[n] gP s3 rfl hq (by simp) (aO hnp) (by simp) ?_
    rw [hp]
    refine cO (ld_c (j:=7) y.fc s3 rfl hpx hxt five ?_)
    refine bk (fun d2=>?_) (fun d2=>?_)
    · have ew:KK.work kt n y = KK.ends (KK.access kt n y).2 n y (KK.access kt n y).1.1 (KK.access kt n y).1.2:=if_pos d2
      rw [ew]
      have oka:=kok_access okt n y
      have hca:(KK.access kt n y).2.calls = kt.calls:=access_calls _ _ _
      have hta:(KK.access kt n y).2.tlbs.length = kt.tlbs.length:=access_tlen _ _ _
      refine cW [0,0,0,0,0,0,0,0,0] (sp_kern_access z kt n xb y hnct hxt hpx zot okt) s3 rfl fun r h4 s4=>?_
      obtain ⟨hr,s5⟩:=bF.1 s4
      subst hr
      refine cW [0,0,0,0,0,0,0,0,0] (sp_kern_ends z (KK.access kt n y).2 n y (KK.access kt n y).1.1 (KK.access kt n y).1.2 (by rw [hca]; exact hnct) (by rw [hca]; exact hxt) (kz_tlbs zot hta (by rw [hca])) oka) s5 rfl fun r h6 s6=>?_
      exact bi rfl (dG s6)
    · have d2':¬ dw (aN y.fc).1 = true:=by rw [d2]; exact Bool.false_ne_true
      have j2:∀ b:Bool,(y.ftold = false∧KK.takes kt.p y = true) = False→b = (y.ftold && !(Epochs.done kt.epochs y.fepoch))→∀ h,aP (mf z kt) h→iT n (fun r=>pa_ (r = true) [dz (some (z.b,0)) (KK.work kt n y)]) (z.b,0) (xb,0) b h:=by
        intro b hno hb h s4
        have ew:KK.work kt n y = (if y.ftold = true∧Epochs.done kt.epochs y.fepoch = false then kt else if (PK.do_ kt.p y.fenv y.fc).1.2 = true then KK.ends { kt with p:=(PK.do_ kt.p y.fenv y.fc).2 } n y (PK.do_ kt.p y.fenv y.fc).1.1 mv else { kt with p:=(PK.do_ kt.p y.fenv y.fc).2 }):=by
          unfold KK.work
          rw [if_neg d2',if_neg (by rw [hno]; exact not_false)]
        rw [ew] at okw ⊢
        unfold iT
        refine bk (fun d4=>?_) (fun d4=>?_)
        · have d4':y.ftold = true∧Epochs.done kt.epochs y.fepoch = false:=by rw [hb] at d4; simpa using d4
          rw [if_pos d4']
          exact bi rfl (qd zot okt s4)
        · have d4':¬ (y.ftold = true∧Epochs.done kt.epochs y.fepoch = false):=by rw [hb] at d4; simpa using d4
          rw [if_neg d4'] at okw ⊢
          refine bB z.pp s4 (i:=0) rfl rfl rfl ?_
          refine ld_c1 (j:=7) y.fenv s4 rfl hpx hxt rfl rfl ?_
          refine ld_c (j:=7) y.fc s4 rfl hpx hxt five ?_
          refine bZ (jG z.pp kt.p y.fenv y.fc) (i:=1) rfl s4 fun r h5 hr s5=>?_
          subst hr
          have hs:=do_s kt.p y.fenv y.fc
          have s6:aP (mf z { kt with p:=(PK.do_ kt.p y.fenv y.fc).2 }) h5:=by
            show aP (blk z.b cr [pv z.pp,Value.int .i64 (PK.do_ kt.p y.fenv y.fc).2.s.fEnvs,_,_,_,_,_,_]::_) _
            rw [hs]; exact s5
          have okp:=kok_p okt (ok_do okt.p y.fenv y.fc) hs
          refine bk (fun d5=>?_) (fun d5=>?_)
          · rw [if_pos d5]
            refine cW [0,0,0,0,0,0,0,0,0] (sp_kern_ends z { kt with p:=(PK.do_ kt.p y.fenv y.fc).2 } n y (PK.do_ kt.p y.fenv y.fc).1.1 mv hnct hxt ⟨zot.t,zot.c⟩ okp) s6 rfl fun r h7 s7=>?_
            exact bi rfl (dG s7)
          · rw [if_neg (by rw [d5]; exact Bool.false_ne_true)]
            exact bi rfl (qd (k:={ kt with p:=_ }) ⟨zot.t,zot.c⟩ okp s6)
      refine ld_c1 (j:=7) y.ftold s3 rfl hpx hxt rfl rfl ?_
      refine bk (fun d3=>?_) (fun d3=>?_)
      · have d3':y.ftold = false:=by simpa using d3
        obtain ⟨xb',hp',s4⟩:=call_out hpx hxt (bp [7] s3 rfl)
        cases hp'
        refine cW [2,0,1] (sp_kern_takes z.b xb z.pp (kcl z kt) kt.p y rfl rfl) s4 rfl fun r h5 s5=>?_
        obtain ⟨hr,s6⟩:=bF.1 s5
        subst hr
        unfold iU
        refine bk (fun d4=>?_) (fun d4=>?_)
        · have ew:KK.work kt n y = KK.send (KK.clean (KK.tell kt n y) n) n y:=by unfold KK.work; rw [if_neg d2',if_pos ⟨d3',d4⟩]
          rw [ew] at okw ⊢
          refine uq (i:=1) s6 rfl (Nat.le_of_ble_eq_true rfl) fun h7 s7=>?_
          have s8:=call_in (y:={ y with ftold:=true }) hpx hnct zot.c (bp [1,2] s7 rfl)
          have s9:aP (mf z (KK.tell kt n y)) h7:=bp [1,1,1,1,1,1,1,0,0] s8 rfl
          have okl:KK.Ok (KK.tell kt n y):=kok_call okt n hyt (y:={ y with ftold:=true }) rfl rfl
          have hll:n < (KK.tell kt n y).calls.length:=by simpa [KK.tell] using hnct
          have zol:KZ.Ok z (KK.tell kt n y):=⟨zot.t,by simpa [KK.tell] using zot.c⟩
          refine cW [0,0,0,0,0,0,0,0,0] (sp_kern_clean z (KK.tell kt n y) n hll zol okl) s9 rfl fun r h10 s10=>?_
          have s11:=dG s10
          have hcc:(KK.clean (KK.tell kt n y) n).calls[n]? = some (some { y with ftold:=true }):=by simp [KK.clean,KK.tell,hnct]
          have okc:=kok_clean okl n
          have zoc:KZ.Ok z (KK.clean (KK.tell kt n y) n):=⟨by simpa [KK.clean] using zol.t,zol.c⟩
          have hepc:((KK.clean (KK.tell kt n y) n).epochs.1.length:Int) + 1 ≤ kt.now:=hept
          have hbx:=okc.bx
          have htl:(KK.clean (KK.tell kt n y) n).calls = kt.calls.set n (some { y with ftold:=true }):=rfl
          have hnow:(KK.clean (KK.tell kt n y) n).now = kt.now:=rfl
          generalize KK.clean (KK.tell kt n y) n = kc at *
          have hncc:n < kc.calls.length:=by rw [htl]; simpa using hnct
          refine bB z.pe s11 (i:=0) rfl rfl rfl ?_
          refine bZ (sp_epoch_Begin z.pe kc.epochs n (by omega)) (i:=5) rfl s11 fun r h12 hr s12=>?_
          subst hr
          obtain ⟨xb',hp',s13⟩:=call_out hpx hcc (bp [7] s12 rfl)
          cases hp'
          refine uq (i:=0) s13 rfl (Nat.le_of_ble_eq_true rfl) fun h14 s14=>?_
          have s15:=call_in (y:={ y with ftold:=true,fepoch:=(Epochs.begin_ kc.epochs n).1.1 }) hpx hncc zoc.c s14
          refine bB z.pm s15 (i:=1) rfl rfl rfl ?_
          have hxe:(kc.calls.set n (some { y with ftold:=true,fepoch:=(Epochs.begin_ kc.epochs n).1.1 }))[n]? = some (some { y with ftold:=true,fepoch:=(Epochs.begin_ kc.epochs n).1.1 }):=by simp [hncc]
          refine ld_c1 (j:=0) (Epochs.begin_ kc.epochs n).1.1 s15 rfl hpx hxe rfl rfl ?_
          have he:Epochs.is kc.epochs n = true:=by
            unfold Epochs.is
            have:=okc.el
            have:=okc.cl
            exact decide_eq_true (by omega)
          have eb:(Epochs.begin_ kc.epochs n).1.1 = (kc.epochs.1.length:Int) + 1:=by unfold Epochs.begin_; rw [if_pos he]
          refine bZ (sp_mail_All z.pm kc.boxes n (Epochs.begin_ kc.epochs n).1.1 ?_) (i:=5) rfl s15 fun r h16 hr s16=>?_
          · intro l hl
            rw [eb]
            exact box_fit (hbx l hl) (by omega)
          · refine bi rfl (qd (k:=KK.send kc n y) ⟨zoc.t,by simpa [KK.send] using zoc.c⟩ okw (bp [1,1,1,1,1,1,1,0,0] s16 rfl))
        · have hno:(y.ftold = false∧KK.takes kt.p y = true) = False:=by simp [d4]
          have s8:=call_in (y:=y) hpx hnct zot.c (bp [1,2] s6 rfl)
          rw [iH hxt] at s8
          have s9:aP (mf z kt) h5:=bp [1,1,1,1,1,1,1,0,0] s8 rfl
          refine ld_c1 (j:=7) y.ftold s9 rfl hpx hxt rfl rfl ?_
          refine dJ d3' ?_
          exact j2 false hno (by rw [d3']; rfl) _ s9
      · have d3':y.ftold = true:=by simpa using d3
        unfold iU
        refine dJ rfl ?_
        refine ld_c1 (j:=7) y.ftold s3 rfl hpx hxt rfl rfl ?_
        refine dW d3' ?_
        refine bB z.pe s3 (i:=0) rfl rfl rfl ?_
        refine ld_c1 (j:=7) y.fepoch s3 rfl hpx hxt rfl rfl ?_
        refine bZ (sp_epoch_Done z.pe kt.epochs y.fepoch) (i:=5) rfl s3 fun r h4 hr s4=>?_
        subst hr
        exact j2 _ (by simp [d3']) (by rw [d3']; rfl) _ s4
theorem sp_kern_Post (x:Ptr) (k:KK) (c:Int) (hn:k.now < 2 ^ 37):Sp Tryz.prog pN [pv x,.int .i64 c] aK [dz x k] (fun r=>pa_ (r = (KK.post k c).1) [dz x (KK.post k c).2]):=by
  intro h s0
  refine sim_kern_Kern_Post _ _ ?_
  unfold tP
  refine bZ (wd x k c) (i:=0) rfl s0 fun r h1 hr s1=>?_
  subst hr
  refine bk (fun d=>?_) (fun d=>?_)
  · have e1:KK.post k c = (false,k):=if_pos (by simpa using d)
    rw [e1]; exact bi rfl s1
  · have d':KK.is k c = true:=by simpa using d
    obtain ⟨z,rfl,zo,ok,st⟩:=uh s1
    have okp:=kok_post ok (by omega) c
    obtain ⟨n,rfl,hnc⟩:=is_nat d'
    refine cO (bB z.pm st (i:=0) rfl rfl rfl ?_)
    refine bZ (sp_mail_Take z.pm k.boxes n) (i:=4) rfl st fun r h2 hr s2=>?_
    subst hr
    refine bk (fun d2=>?_) (fun d2=>?_)
    · have d2':(Mail.take k.boxes n).1.2 = false:=by simpa using d2
      have e1:KK.post k n = (false,k):=by unfold KK.post; rw [if_neg (by simp [d']),if_pos d2']
      have e2:(Mail.take k.boxes n).2 = k.boxes:=by
        unfold Mail.take at d2' ⊢; split
        · rfl
        · rename_i hh; rw [if_neg hh] at d2'; cases d2'
      rw [e1]
      rw [e2] at s2
      exact bi rfl (qd zo ok s2)
    · have e1:KK.post k n = (true,{ KK.clean { KK.tick k with boxes:=(Mail.take k.boxes n).2 } n with epochs:=(Epochs.ack k.epochs n (Mail.take k.boxes n).1.1).2 }):=by
        unfold KK.post; rw [if_neg (by simp [d']),if_neg (by simpa using d2)]
      rw [e1] at okp ⊢
      refine bB k.now s2 (i:=0) rfl rfl rfl ?_
      refine uq (i:=0) s2 rfl (Nat.le_of_ble_eq_true rfl) fun h3 s3=>?_
      have s4:aP (mf z { KK.tick k with boxes:=(Mail.take k.boxes n).2 }) h3:=s3
      have okt:=kok_tick ok (by omega)
      have hbl:(Mail.take k.boxes n).2.length = k.boxes.length:=by unfold Mail.take; split <;> simp
      have hb:∀ l ∈ (Mail.take k.boxes n).2,mg k.epochs.1.length l:=by
        unfold Mail.take; split
        · exact ok.bx
        · exact boxes_set ok.bx _ (box_drop (box_of ok.bx n))
      have ok2:KK.Ok { KK.tick k with boxes:=(Mail.take k.boxes n).2 }:=⟨okt.p,okt.tl,by simp only [hbl]; exact ok.bl,okt.el,okt.cl,okt.cs,okt.n0,okt.evn,okt.epn,hb⟩
      refine cW [0,0,0,0,0,0,0,0,0] (sp_kern_clean z { KK.tick k with boxes:=(Mail.take k.boxes n).2 } n hnc ⟨zo.t,zo.c⟩ ok2) s4 rfl fun r h5 s5=>?_
      have s6:=dG s5
      refine bB z.pe s6 (i:=0) rfl rfl rfl ?_
      refine bZ (sp_epoch_Ack z.pe k.epochs n _) (i:=5) rfl s6 fun r h7 hr s7=>?_
      refine bi rfl (qd (z:=z) ⟨?_,zo.c⟩ okp s7)
      simpa [KK.clean,KK.tick] using zo.t
theorem sp_kern_Mail (x:Ptr) (k:KK) (c:Int):Sp Tryz.prog pO [pv x,.int .i64 c] dO [dz x k] (fun r=>pa_ (r = KK.mail k c) [dz x k]):=by
  intro h s0
  refine sim_kern_Kern_Mail _ _ ?_
  unfold tQ
  refine bZ (wd x k c) (i:=0) rfl s0 fun r h1 hr s1=>?_
  subst hr
  refine bk (fun d=>?_) (fun d=>?_)
  · exact bi (by unfold KK.mail; rw [if_neg (by simpa using d)]) s1
  · obtain ⟨z,rfl,zo,ok,st⟩:=uh s1
    refine cO (bB z.pm st (i:=0) rfl rfl rfl ?_)
    refine bZ (sp_mail_Waits z.pm k.boxes c) (i:=4) rfl st fun r h2 hr s2=>?_
    exact bi (by unfold KK.mail; rw [if_pos (by simpa using d),hr]) (qd zo ok s2)
theorem sp_slices_CloneE (s:Sl) (xs:List co) (hb:xs.length < 2 ^ 38):Sp Tryz.prog eR [sv s] eP [vE s xs] (fun r=>aP [vE r xs,vE s xs]):=by
  intro h s0
  refine mh _ ?_
  unfold gT
  refine bk (fun k=>?_) (fun k=>?_)
  · have hn:xs = []:=by
      obtain ⟨_,⟨e1,e2,e3⟩,_⟩:=dX (i:=0) rfl s0
      rcases e3 with e3 | ⟨b,pre,rest,U,fr,h4,_⟩
      · exact List.eq_nil_of_length_eq_zero (by omega)
      · rw [h4] at k; cases k
    subst hn
    exact fI s0
  · refine fu (τ:=co) [] (val:=fun x=>.agg x.C.toArray) (enc:=aM.C) qe np (fun _=>rfl) s0 rfl rfl (by simp) fun y h' s1=>?_
    refine tn (τ:=co) (i:=0) (j:=1) (enc:=aM.C) (xs:=[]) (ys:=xs) qe qe.sl np ev_one s1 rfl rfl (by omega) (by simp; omega) (by simp; omega) fun v h2 s2=>?_
    exact s2
theorem sp_kern_Events (x:Ptr) (k:KK) (hb:k.now < 2 ^ 38):Sp Tryz.prog ic [pv x] eP [dz x k] (fun r=>aP [vE r k.events,dz x k]):=by
  intro h s0
  obtain ⟨z,rfl,zo,ok,st⟩:=uh s0
  have:=ok.evn
  refine sim_kern_Kern_Events _ ?_
  unfold rv
  refine dJ rfl (cO (bB z.es st (i:=0) rfl rfl rfl ?_))
  refine cl_n (sp_slices_CloneE z.es k.events (by omega)) (i:=8) rfl st fun r h1 s1=>?_
  exact star_tail s1 fun h2 s2=>qd zo ok s2
end Go.Proofs.YtniiiakkdoiaiaaGreatDoor
namespace Go.Proofs.YtniiiakkdoiaiaaGreatDoor
open Go Mb
set_option linter.unusedVariables false
def eW (a0:Ptr) (Rec7:(Bool × Int)→Hp→Prop) (s6:Bool × Int) (s11:Unit):Hp→Prop:=cl Tryz.prog fN [(pv a0),(.int .i64 s6.2)] aK fun r37=>cl Tryz.prog fN [(pv a0),(.int .i64 s6.2)] aK fun r43=>br r43 ( cl Tryz.prog pM [(pv a0),(.int .i64 s6.2)] aK fun r46=>Rec7 ((r37 || s6.1),(IntKind.i64.wrap (s6.2 + 1)))) ( Rec7 ((r37 || s6.1),(IntKind.i64.wrap (s6.2 + 1))))
def gl (a0:Ptr) (Rec7:(Bool × Int)→Hp→Prop) (s6:Bool × Int) (Rec20:Int→Hp→Prop) (s19:Int):Hp→Prop:=br (decide (s19 < 5000)) ( cl Tryz.prog pO [(pv a0),(.int .i64 s6.2)] dO fun r27=>br (decide (r27 > 0)) ( cl Tryz.prog pN [(pv a0),(.int .i64 s6.2)] aK fun r34=>Rec20 (IntKind.i64.wrap (s19 + 1))) ( eW a0 Rec7 s6 ())) ( eW a0 Rec7 s6 ())
def gm (a0:Ptr) (a1:Int) (K:Bool→Hp→Prop) (Rec2:Int→Hp→Prop) (s1:Int) (Rec7:(Bool × Int)→Hp→Prop) (s6:Bool × Int):Hp→Prop:=br (decide (s6.2 < a1)) ( Lp (gl a0 Rec7 s6) 0) ( br (!s6.1) ( K true) ( Rec2 (IntKind.i64.wrap (s1 + 1))))
def gj (a0:Ptr) (a1:Int) (K:Bool→Hp→Prop) (Rec34:Int→Hp→Prop) (s33:Int):Hp→Prop:=br (decide (s33 < a1)) ( cl Tryz.prog fN [(pv a0),(.int .i64 s33)] aK fun r56=>br r56 ( K false) ( Rec34 (IntKind.i64.wrap (s33 + 1)))) ( K true)
def jy (a0:Ptr) (a1:Int) (a2:Int) (K:Bool→Hp→Prop) (Rec2:Int→Hp→Prop) (s1:Int):Hp→Prop:=br (decide (s1 < a2)) ( Lp (gm a0 a1 K Rec2 s1) (false,0)) ( Lp (gj a0 a1 K) 0)
def nD (a0:Ptr) (a1:Int) (a2:Int) (K:Bool→Hp→Prop):Hp→Prop:=Lp (jy a0 a1 a2 K) 0
set_option maxRecDepth 20000 in
theorem ux (a0:Ptr) (a1:Int) (a2:Int) {K:Bool→Hp→Prop} {h:Hp} (H:nD a0 a1 a2 K h):Ct Tryz.prog gN #[(pv a0),(.int .i64 a1),(.int .i64 a2)] h fun v h'=>∃ r,v = aK r∧K r h':=aD [(pv a0),(.int .i64 a1),(.int .i64 a2)] Tryz.func39 rfl rfl rfl fun _=>ah<|ac<|aa (ag rfl) rfl<|ae<|ah<|ah<|ac<|aa (ag rfl) rfl<|ae<|aF<|bO (step:=jy a0 a1 a2 K) (fun s1=>[(0,(pv a0)),(1,(.int .i64 a1)),(2,(.int .i64 a2)),(7,(.int .i64 s1))]) (fun s1=>[]) H (.cons rfl (.cons rfl (.cons rfl (.cons rfl (.nil _))))) .slnil (fun Rec2 s1 _ H3=>ah<|ah<|ac<|aa (ad rfl) rfl<|aa (ad rfl) rfl<|aa (cx rfl rfl) rfl<|ae<|aC rfl H3 (fun k4 H5=>av<|ah<|aF<|ah<|ac<|aa (ag rfl) rfl<|ae<|ah<|ah<|ac<|aa (ag rfl) rfl<|ae<|aF<|bO (step:=gm a0 a1 K Rec2 s1) (fun s6=>[(0,(pv a0)),(1,(.int .i64 a1)),(2,(.int .i64 a2)),(7,(.int .i64 s1)),(8,(.bool s6.1)),(9,(.int .i64 s6.2))]) (fun s6=>[]) H5 (.cons rfl (.cons rfl (.cons rfl (.cons rfl (.cons rfl (.cons rfl (.nil _))))))) .slnil (fun Rec7 s6 _ H8=>ah<|ah<|ac<|aa (ad rfl) rfl<|aa (ad rfl) rfl<|aa (cx rfl rfl) rfl<|ae<|aC rfl H8 (fun k9 H10=>av<|ah<|aF<|eB (eW a0 Rec7 s6) (fun s11=>[(0,(pv a0)),(1,(.int .i64 a1)),(2,(.int .i64 a2)),(7,(.int .i64 s1)),(8,(.bool s6.1)),(9,(.int .i64 s6.2))]) (fun s11=>[]) ( ah<|ac<|aa (ag rfl) rfl<|ae<|aF<|bO (step:=gl a0 Rec7 s6) (fun s19=>[(0,(pv a0)),(1,(.int .i64 a1)),(2,(.int .i64 a2)),(7,(.int .i64 s1)),(8,(.bool s6.1)),(9,(.int .i64 s6.2)),(10,(.int .i64 s19))]) (fun s19=>[]) H10 (.cons rfl (.cons rfl (.cons rfl (.cons rfl (.cons rfl (.cons rfl (.cons rfl (.nil _)))))))) .slnil (fun Rec20 s19 _ H21=>ah<|ah<|ac<|aa (ad rfl) rfl<|aa (cx rfl rfl) rfl<|aa (ad rfl) rfl<|aj rfl rfl rfl (aA _) (fun g22=>wv (ad rfl)) rfl<|aj rfl rfl rfl (aA _) (fun g23=>wv (ad rfl)) rfl<|cc H21 (fun k25 H26=>aL rfl rfl rfl (congrArg Value.bool k25) (aB H26 en_45 (ba (aJ rfl k25) (ba (aJ rfl k25) bY)) rfl fun r27 _ H27=>aL rfl rfl rfl (congrArg Value.bool k25) (aQ (wv (oQ rfl rfl)) rfl<|aa (bd rfl k25 rfl) rfl<|ae<|aC rfl H27 (fun k28 H29=>av<|ah<|aF<|ac<|aa (ad rfl) rfl<|aa (ad rfl) rfl<|ak (aB H29 en_31 rfl rfl fun r34 _ H30=>ae<|ac<|aa (ad rfl) rfl<|aa (bI rfl rfl) rfl<|aa (ag rfl) rfl<|ae<|cT (IntKind.i64.wrap (s19 + 1)) H30 (.cons rfl (.cons rfl (.cons rfl (.cons rfl (.cons rfl (.cons rfl (.cons rfl (.nil _)))))))) .slnil)) (fun k28 H29=>bA<|cF () H29 (.cons rfl (.cons rfl (.cons rfl (.cons rfl (.cons rfl (.cons rfl (.nil _))))))) .slnil)))) (fun k25 H26=>am rfl rfl rfl (bc k25) rfl<|am rfl rfl rfl (bc k25) rfl<|aa (ay rfl k25 rfl) rfl<|ae<|ev_no rfl rfl<|bA<|cF () H26 (.cons rfl (.cons rfl (.cons rfl (.cons rfl (.cons rfl (.cons rfl (.nil _))))))) .slnil))) (fun s11 _ H12=>ah<|ac<|aa (ad rfl) rfl<|aa (ad rfl) rfl<|ak (aB H12 en_34 rfl rfl fun r37 _ H13=>aa (ad rfl) rfl<|aj rfl rfl rfl (aS _) (fun g14=>wv (ad rfl)) rfl<|aa (dr rfl rfl) rfl<|aa (ag rfl) rfl<|ae<|ah<|ac<|aa (ad rfl) rfl<|aa (ad rfl) rfl<|ak (aB H13 en_34 rfl rfl fun r43 _ H15=>ae<|aC rfl H15 (fun k16 H17=>ac<|aa (ad rfl) rfl<|aa (ad rfl) rfl<|ak (aB H17 en_30 rfl rfl fun r46 _ H18=>ae<|ac<|aa (ad rfl) rfl<|aa (bI rfl rfl) rfl<|aa (ag rfl) rfl<|ae<|cT ((r37 || s6.1),(IntKind.i64.wrap (s6.2 + 1))) H18 (.cons rfl (.cons rfl (.cons rfl (.cons rfl (.cons rfl (.cons rfl (.nil _))))))) .slnil)) (fun k16 H17=>av<|ac<|aa (ad rfl) rfl<|aa (bI rfl rfl) rfl<|aa (ag rfl) rfl<|ae<|cT ((r37 || s6.1),(IntKind.i64.wrap (s6.2 + 1))) H17 (.cons rfl (.cons rfl (.cons rfl (.cons rfl (.cons rfl (.cons rfl (.nil _))))))) .slnil))))) (fun k9 H10=>bA<|ah<|ac<|aa (ad rfl) rfl<|aa (cD rfl) rfl<|ae<|aC rfl H10 (fun k31 H32=>ah<|ac<|aa (ag rfl) rfl<|ae<|ao<|aw (az rfl (aE rfl)) ⟨true,rfl,H32⟩) (fun k31 H32=>av<|ac<|aa (ad rfl) rfl<|aa (bI rfl rfl) rfl<|aa (ag rfl) rfl<|ae<|cT (IntKind.i64.wrap (s1 + 1)) H32 (.cons rfl (.cons rfl (.cons rfl (.cons rfl (.nil _))))) .slnil)))) (fun k4 H5=>bA<|ah<|ah<|ac<|aa (ag rfl) rfl<|ae<|aF<|bO (step:=gj a0 a1 K) (fun s33=>[(0,(pv a0)),(1,(.int .i64 a1)),(11,(.int .i64 s33))]) (fun s33=>[]) H5 (.cons rfl (.cons rfl (.cons rfl (.nil _)))) .slnil (fun Rec34 s33 _ H35=>ah<|ah<|ac<|aa (ad rfl) rfl<|aa (ad rfl) rfl<|aa (cx rfl rfl) rfl<|ae<|aC rfl H35 (fun k36 H37=>av<|ah<|aF<|ah<|ac<|aa (ad rfl) rfl<|aa (ad rfl) rfl<|ak (aB H37 en_34 rfl rfl fun r56 _ H38=>ae<|aC rfl H38 (fun k39 H40=>ah<|ac<|aa (ag rfl) rfl<|ae<|ao<|aw (az rfl (aE rfl)) ⟨false,rfl,H40⟩) (fun k39 H40=>av<|ac<|aa (ad rfl) rfl<|aa (bI rfl rfl) rfl<|aa (ag rfl) rfl<|ae<|cT (IntKind.i64.wrap (s33 + 1)) H40 (.cons rfl (.cons rfl (.cons rfl (.nil _)))) .slnil))) (fun k36 H37=>bA<|ah<|ac<|aa (ag rfl) rfl<|ae<|ao<|aw (az rfl (aE rfl)) ⟨true,rfl,H37⟩))))
def fZ (a1:Int) (K:(al × Bool)→Hp→Prop) (r24:Sl) (Rec9:(Int × al)→Hp→Prop) (s8:Int × al):Hp→Prop:=br (decide (s8.1 ≥ 0)) ( ix r24 s8.1 fun q34=>ld (q34.1,q34.2 + Int.toNat s8.1 * 16 + 0) (cI .i64) fun x36=>br (x36 == a1) ( both ( ld (q34.1,q34.2 + Int.toNat s8.1 * 16 + 10) al.C fun x43=>ld (q34.1,q34.2 + Int.toNat s8.1 * 16 + 9) (cI .i64) fun x48=>K (x43,(decide (x48 > 0)))) ( ld (q34.1,q34.2 + Int.toNat s8.1 * 16 + 9) (cI .i64) fun x48=>ld (q34.1,q34.2 + Int.toNat s8.1 * 16 + 10) al.C fun x43=>K (x43,(decide (x48 > 0))))) ( Rec9 ((IntKind.i64.wrap (s8.1 - 1)),s8.2))) ( K ((⟨0,0⟩:al),false))
def qy (a0:Ptr) (a1:Int) (a2:Int) (a3:ap) (K:(al × Bool)→Hp→Prop):Hp→Prop:=cl Tryz.prog oE [(pv a0),(.int .i64 a1),(.int .i64 a2),(.agg (ap.C a3).toArray)] aK fun r16=>br (!r16) ( K ((⟨0,0⟩:al),false)) ( cl Tryz.prog gN [(pv a0),(.int .i64 8),(.int .i64 1000)] aK fun r20=>br (!r20) ( K ((⟨0,0⟩:al),false)) ( cl Tryz.prog ic [(pv a0)] eP fun r24=>Lp (fZ a1 K r24) ((IntKind.i64.wrap ((r24.len:Int) - 1)),(⟨0,0⟩:al))))
set_option maxRecDepth 20000 in
theorem sim_messuagelaw16_Run (a0:Ptr) (a1:Int) (a2:Int) (a3:ap) {K:(al × Bool)→Hp→Prop} {h:Hp} (H:qy a0 a1 a2 a3 K h):Ct Tryz.prog eG #[(pv a0),(.int .i64 a1),(.int .i64 a2),(.agg (ap.C a3).toArray)] h fun v h'=>∃ r,v = bz r∧K r h':=aD [(pv a0),(.int .i64 a1),(.int .i64 a2),(.agg (ap.C a3).toArray)] Tryz.func38 rfl rfl rfl fun _=>ah<|ac<|ak (cC (l:=(ap.C a3)) rfl rfl rfl fun b7=>ak (aY (l:=(al.C (⟨0,0⟩:al))) dh rfl rfl fun b8=>aa (ag rfl) rfl<|ae<|ah<|ah<|ac<|aa (ad rfl) rfl<|aa (ad rfl) rfl<|aa (ad rfl) rfl<|bw (bP (k:=1) fw rfl rfl rfl rfl) rfl<|ak (aB H en_33 rfl rfl fun r16 _ H1=>aa (cD rfl) rfl<|ae<|aC rfl H1 (fun k2 H3=>ah<|ac<|aa (bo (vs:=[]) rfl tj) rfl<|ak (aZ (k:=0) (vs:=(al.C (⟨0,0⟩:al))) bX rfl rfl rfl rfl rfl rfl rfl<|aa (ag rfl) rfl<|ae<|ao<|aw (ce rfl (bM (k:=0) rfl cL rfl rfl) (aE rfl)) ⟨((⟨0,0⟩:al),false),rfl,H3⟩)) (fun k2 H3=>av<|ah<|ah<|ac<|aa (ad rfl) rfl<|ak (aB H3 en_39 rfl rfl fun r20 _ H4=>aa (cD rfl) rfl<|ae<|aC rfl H4 (fun k5 H6=>ah<|ac<|aa (bo (vs:=[]) rfl tj) rfl<|ak (aZ (k:=0) (vs:=(al.C (⟨0,0⟩:al))) bX rfl rfl rfl rfl rfl rfl rfl<|aa (ag rfl) rfl<|ae<|ao<|aw (ce rfl (bM (k:=0) rfl cL rfl rfl) (aE rfl)) ⟨((⟨0,0⟩:al),false),rfl,H6⟩)) (fun k5 H6=>av<|ah<|ac<|aa (ad rfl) rfl<|ak (aB H6 en_37 rfl rfl fun r24 _ H7=>aa (ag rfl) rfl<|ae<|ah<|ah<|ac<|aa (ad rfl) rfl<|aa (dB rfl Tryz.underlying39 rfl) rfl<|aa (v_sub rfl rfl) rfl<|aa (ag rfl) rfl<|ae<|aF<|bO (step:=fZ a1 K r24) (fun s8=>[(1,(.int .i64 a1)),(8,(.pointer (some ⟨b8,0,none⟩))),(10,(sv r24)),(11,(.int .i64 s8.1))]) (fun s8=>[bx b8 47 (al.C s8.2)]) H7 (.cons rfl (.cons rfl (.cons rfl (.cons rfl (.nil _))))) (.cons_cons _ (.cons _ .slnil)) (fun Rec9 s8 _ H10=>ah<|ah<|ac<|aa (ad rfl) rfl<|aa (gz rfl rfl) rfl<|ae<|aC rfl H10 (fun k11 H12=>av<|ah<|aF<|ah<|ac<|aa (ad rfl) rfl<|aa (ad rfl) rfl<|cw H12 fun q34 e13 h14 H15=>aa (bD sw (aW rfl (bn e13)) rfl h14) rfl<|aa (an ta rfl) rfl<|ak (bg H15 bj rfl (fun _=>rfl) rfl fun x36 H16=>aa (ad rfl) rfl<|aa (bV rfl rfl) rfl<|ae<|aC rfl H16 (fun k17 H18=>ah<|bC (n:=13) [] cy rfl (.cons _ .slnil)<|ai (i:=0) (fun _ _ _ _=>id) rfl (by kernel_rfl) rfl (ve (ad rfl))<|ai (i:=1) (fun _ _ _ _=>id) rfl (by kernel_rfl) rfl (ve (ad rfl))<|ai (i:=2) (fun _ _ _ _=>id) rfl (by kernel_rfl) rfl (ve (bD sw (aW rfl (bn e13)) rfl h14))<|ai (i:=3) (fun _ _ _ _=>id) rfl (by kernel_rfl) rfl (ve (an ke rfl))<|ai (i:=5) (fun _ _ _ _=>id) rfl (by kernel_rfl) rfl (ve (ad rfl))<|ai (i:=6) (fun _ _ _ _=>id) rfl (by kernel_rfl) rfl (ve (ad rfl))<|ai (i:=7) (fun _ _ _ _=>id) rfl (by kernel_rfl) rfl (ve (bD sw (aW rfl (bn e13)) rfl h14))<|ai (i:=8) (fun _ _ _ _=>id) rfl (by kernel_rfl) rfl (ve (an qJ rfl))<|jA H18 fun H19_1 H19_2=>jg (i:=4) (j:=9) (by kernel_rfl) (aI rfl rfl (gI H19_1 cL rfl (fun _=>rfl) rfl fun x43 H20=>⟨(.cons _ .slnil),jg (i:=9) (j:=11) (by kernel_rfl) (aI rfl rfl (bg H20 bj rfl (fun _=>rfl) rfl fun x48 H22=>⟨(.cons _ .slnil),ai (i:=10) (fun _ _ _ _=>id) rfl (by kernel_rfl) rfl (ve (oQ rfl rfl))<|bh (i:=11) (by kernel_rfl) (aI rfl rfl (aZ (k:=0) (vs:=(al.C x43)) bX rfl rfl rfl rfl rfl rfl rfl<|⟨(.cons _ .slnil),ai (i:=12) (fun _ _ _ _=>id) rfl (by kernel_rfl) rfl (ve (ag rfl))<|bf (by kernel_rfl)<|ao<|aw (ce rfl (bM (k:=0) rfl cL rfl rfl) (aE rfl)) ⟨(x43,(decide (x48 > 0))),rfl,H22⟩⟩))⟩)) (aI rfl rfl (aZ (k:=0) (vs:=(al.C x43)) bX rfl rfl rfl rfl rfl rfl rfl<|⟨(.cons _ .slnil),bR (i:=9) (fun _ _ _ _=>id) H20 rfl (by kernel_rfl) bj rfl (fun _=>rfl) rfl fun x48 H22=>ai (i:=10) (fun _ _ _ _=>id) rfl (by kernel_rfl) rfl (ve (oQ rfl rfl))<|ai (i:=12) (fun _ _ _ _=>id) rfl (by kernel_rfl) rfl (ve (ag rfl))<|bf (by kernel_rfl)<|ao<|aw (ce rfl (bM (k:=0) rfl cL rfl rfl) (aE rfl)) ⟨(x43,(decide (x48 > 0))),rfl,H22⟩⟩))⟩)) (aI rfl rfl (bg H19_2 bj rfl (fun _=>rfl) rfl fun x48 H20=>⟨(.cons _ .slnil),ai (i:=10) (fun _ _ _ _=>id) rfl (by kernel_rfl) rfl (ve (oQ rfl rfl))<|rS (i:=4) (fun _ _ _ _=>id) H20 rfl (by kernel_rfl) cL rfl (fun _=>rfl) rfl fun x43 H21=>bh (i:=11) (by kernel_rfl) (aI rfl rfl (aZ (k:=0) (vs:=(al.C x43)) bX rfl rfl rfl rfl rfl rfl rfl<|⟨(.cons _ .slnil),ai (i:=12) (fun _ _ _ _=>id) rfl (by kernel_rfl) rfl (ve (ag rfl))<|bf (by kernel_rfl)<|ao<|aw (ce rfl (bM (k:=0) rfl cL rfl rfl) (aE rfl)) ⟨(x43,(decide (x48 > 0))),rfl,H21⟩⟩))⟩))) (fun k17 H18=>av<|ac<|aa (ad rfl) rfl<|aa (v_sub rfl rfl) rfl<|aa (ag rfl) rfl<|ae<|cT ((IntKind.i64.wrap (s8.1 - 1)),s8.2) H18 (.cons rfl (.cons rfl (.cons rfl (.cons rfl (.nil _))))) (.cons_cons _ .slnil)))) (fun k11 H12=>bA<|ah<|ac<|aa (bo (vs:=[]) rfl tj) rfl<|ak (aZ (k:=0) (vs:=(al.C (⟨0,0⟩:al))) bX rfl rfl rfl rfl rfl rfl rfl<|aa (ag rfl) rfl<|ae<|ao<|aw (ce rfl (bM (k:=0) rfl cL rfl rfl) (aE rfl)) ⟨((⟨0,0⟩:al),false),rfl,H12⟩))))))))))
def ol (K:Bool→Hp→Prop):Hp→Prop:=cl Tryz.prog n_kern_New [(.agg (aH.C (⟨2,2,3⟩:aH)).toArray)] xi fun r21=>br r21.isNone ( K false) ( cl Tryz.prog eG [(pv r21),(.int .i64 0),(.int .i64 0),(.agg (ap.C (⟨1,1,0,0,0⟩:ap)).toArray)] bz fun r27=>cl Tryz.prog eG [(pv r21),(.int .i64 0),(.int .i64 0),(.agg (ap.C (⟨6,4,1,3,0⟩:ap)).toArray)] bz fun r33=>cl Tryz.prog eG [(pv r21),(.int .i64 1),(.int .i64 0),(.agg (ap.C (⟨21,4,2,9,0⟩:ap)).toArray)] bz fun r39=>cl Tryz.prog eG [(pv r21),(.int .i64 0),(.int .i64 0),(.agg (ap.C (⟨20,4,2,0,0⟩:ap)).toArray)] bz fun r45=>cl Tryz.prog eG [(pv r21),(.int .i64 0),(.int .i64 0),(.agg (ap.C (⟨7,4,0,0,0⟩:ap)).toArray)] bz fun r51=>cl Tryz.prog ic [(pv r21)] eP fun r55=>cl Tryz.prog oF [(sv r55),(.agg (aH.C (⟨2,2,3⟩:aH)).toArray)] bW fun r59=>cl Tryz.prog oG [(sv r55),(.agg (aH.C (⟨2,2,3⟩:aH)).toArray)] bW fun r65=>cl Tryz.prog uB [(.int .i64 2),(.int .i64 3)] gY fun r68=>cl Tryz.prog kA [] aK fun r69=>br (((((((((((((((r69 && r27.2) && r33.2) && r39.2) && r45.2) && r51.2) && (r27.1.fErr == 0)) && (r33.1.fErr == 0)) && (r39.1.fErr == 0)) && (r45.1.fVal == 9)) && (r51.1.fErr == 0)) && ((r55.len:Int) == 5)) && (r59.1 == (-1))) && r59.2) && (r65.1 == (-1))) && r65.2) ( cl Tryz.prog wM [(sv r55),(.agg (aH.C (⟨2,2,3⟩:aH)).toArray)] aK fun r132=>br r132 ( cl Tryz.prog oH [(sv r55)] cJ fun r136=>br (((r136.len:Int) == 5) && ((r68.len:Int) == 12)) ( cl Tryz.prog uc [(sv r68),(.int .i64 2),(.int .i64 5)] aK fun r147=>br r147 ( cl Tryz.prog n_twin_View [(sv r55),(.int .i64 0)] mP fun r151=>br ((r151.len:Int) == 5) ( cl Tryz.prog uA [(sv r55),(.agg (aH.C (⟨2,2,3⟩:aH)).toArray)] aK fun r158=>K r158) ( K false)) ( K false)) ( K false)) ( K false)) ( K false))
set_option maxRecDepth 20000 in
theorem uN {K:Bool→Hp→Prop} {h:Hp} (H:ol K h):Ct Tryz.prog ky #[] h fun v h'=>∃ r,v = aK r∧K r h':=aD [] Tryz.func10 rfl rfl rfl fun _=>ah<|ac<|aa (ag rfl) rfl<|ae<|ah<|ac<|aa (bo rfl (build_35_0_1_2 2 2 3)) rfl<|ak (aY (l:=(aH.C (⟨0,0,0⟩:aH))) zero_35 rfl rfl fun b1=>ak (aZ (k:=0) (vs:=(aH.C (⟨2,2,3⟩:aH))) inf_35 rfl rfl rfl rfl rfl rfl rfl<|ae<|ah<|ac<|bw (bP (k:=0) pw rfl rfl rfl rfl) rfl<|ak (aB H en_28 rfl rfl fun r21 _ H1=>aa (ag rfl) rfl<|ae<|ah<|ah<|ac<|aa (ad rfl) rfl<|aa (cA Tryz.underlying54 rfl) rfl<|ae<|aC rfl H1 (fun k2 H3=>ah<|ac<|aa (ag rfl) rfl<|ae<|ao<|aw (az rfl (aE rfl)) ⟨false,rfl,H3⟩) (fun k2 H3=>av<|ah<|ac<|aa (ad rfl) rfl<|aa (bo rfl (ma 1 1)) rfl<|ak (aB H3 en_38 rfl rfl fun r27 _ H4=>aa (ad rfl) rfl<|aa (aq rfl rfl) rfl<|aa (aq rfl rfl) rfl<|ak (aY (l:=(al.C (⟨0,0⟩:al))) dh rfl rfl fun b3=>ak (aZ (k:=0) (vs:=(al.C r27.1)) bX rfl rfl rfl rfl rfl rfl rfl<|aa (ag rfl) rfl<|ae<|ah<|ac<|aa (ad rfl) rfl<|aa (bo rfl (jB 6 4 1 3)) rfl<|ak (aB H4 en_38 rfl rfl fun r33 _ H5=>aa (ad rfl) rfl<|aa (aq rfl rfl) rfl<|aa (aq rfl rfl) rfl<|ak (aY (l:=(al.C (⟨0,0⟩:al))) dh rfl rfl fun b5=>ak (aZ (k:=0) (vs:=(al.C r33.1)) bX rfl rfl rfl rfl rfl rfl rfl<|aa (ag rfl) rfl<|ae<|ah<|ac<|aa (ad rfl) rfl<|aa (bo rfl (jB 21 4 2 9)) rfl<|ak (aB H5 en_38 rfl rfl fun r39 _ H6=>aa (ad rfl) rfl<|aa (aq rfl rfl) rfl<|aa (aq rfl rfl) rfl<|ak (aY (l:=(al.C (⟨0,0⟩:al))) dh rfl rfl fun b7=>ak (aZ (k:=0) (vs:=(al.C r39.1)) bX rfl rfl rfl rfl rfl rfl rfl<|aa (ag rfl) rfl<|ae<|ah<|ac<|aa (ad rfl) rfl<|aa (bo rfl (tk 20 4 2)) rfl<|ak (aB H6 en_38 rfl rfl fun r45 _ H7=>aa (ad rfl) rfl<|aa (aq rfl rfl) rfl<|aa (aq rfl rfl) rfl<|ak (aY (l:=(al.C (⟨0,0⟩:al))) dh rfl rfl fun b9=>ak (aZ (k:=0) (vs:=(al.C r45.1)) bX rfl rfl rfl rfl rfl rfl rfl<|aa (ag rfl) rfl<|ae<|ah<|ac<|aa (ad rfl) rfl<|aa (bo rfl (ma 7 4)) rfl<|ak (aB H7 en_38 rfl rfl fun r51 _ H8=>aa (ad rfl) rfl<|aa (aq rfl rfl) rfl<|aa (aq rfl rfl) rfl<|ak (aY (l:=(al.C (⟨0,0⟩:al))) dh rfl rfl fun b11=>ak (aZ (k:=0) (vs:=(al.C r51.1)) bX rfl rfl rfl rfl rfl rfl rfl<|aa (ag rfl) rfl<|ae<|ah<|ac<|aa (ad rfl) rfl<|ak (aB H8 en_37 rfl rfl fun r55 _ H9=>aa (ag rfl) rfl<|ae<|ah<|ac<|aa (ad rfl) rfl<|bw (bP (k:=5) pw rfl rfl rfl rfl) rfl<|ak (aB H9 en_44 rfl rfl fun r59 _ H10=>aa (ad rfl) rfl<|aa (aq rfl rfl) rfl<|aa (aq rfl rfl) rfl<|aa (ag rfl) rfl<|aa (ag rfl) rfl<|ae<|ah<|ac<|aa (ad rfl) rfl<|bw (bP (k:=5) pw rfl rfl rfl rfl) rfl<|ak (aB H10 en_49 rfl rfl fun r65 _ H11=>aa (ad rfl) rfl<|aa (aq rfl rfl) rfl<|aa (aq rfl rfl) rfl<|aa (ag rfl) rfl<|aa (ag rfl) rfl<|ae<|ah<|ac<|ak (aB H11 en_11 rfl rfl fun r68 _ H12=>aa (ag rfl) rfl<|ae<|ah<|ac<|ak (aB H12 en_50 rfl rfl fun r69 _ H13=>aa (ad rfl) rfl<|aj rfl rfl rfl (aA _) (fun g14=>wv (ad rfl)) rfl<|aa (bU rfl rfl) rfl<|aa (ad rfl) rfl<|aj rfl rfl rfl (aA _) (fun g15=>wv (ad rfl)) rfl<|aa (bU rfl rfl) rfl<|aa (ad rfl) rfl<|aj rfl rfl rfl (aA _) (fun g16=>wv (ad rfl)) rfl<|aa (bU rfl rfl) rfl<|aa (ad rfl) rfl<|aj rfl rfl rfl (aA _) (fun g17=>wv (ad rfl)) rfl<|aa (bU rfl rfl) rfl<|aa (ad rfl) rfl<|aj rfl rfl rfl (aA _) (fun g18=>wv (ad rfl)) rfl<|aa (bU rfl rfl) rfl<|aa (ad rfl) rfl<|aj rfl rfl rfl (aA _) (fun g19=>wv (an kh rfl)) rfl<|aj rfl rfl rfl (aA _) (fun g20=>cv (bm (k:=4) ov (aJ rfl g20) rfl rfl)) rfl<|aj rfl rfl rfl (aA _) (fun g21=>wv (bV (aJ rfl g21) rfl)) rfl<|aa (bU rfl rfl) rfl<|aa (ad rfl) rfl<|aj rfl rfl rfl (aA _) (fun g22=>wv (an kh rfl)) rfl<|aj rfl rfl rfl (aA _) (fun g23=>cv (bm (k:=3) ov (aJ rfl g23) rfl rfl)) rfl<|aj rfl rfl rfl (aA _) (fun g24=>wv (bV (aJ rfl g24) rfl)) rfl<|aa (bU rfl rfl) rfl<|aa (ad rfl) rfl<|aj rfl rfl rfl (aA _) (fun g25=>wv (an kh rfl)) rfl<|aj rfl rfl rfl (aA _) (fun g26=>cv (bm (k:=2) ov (aJ rfl g26) rfl rfl)) rfl<|aj rfl rfl rfl (aA _) (fun g27=>wv (bV (aJ rfl g27) rfl)) rfl<|aa (bU rfl rfl) rfl<|aa (ad rfl) rfl<|aj rfl rfl rfl (aA _) (fun g28=>wv (an fld_47_1 rfl)) rfl<|aj rfl rfl rfl (aA _) (fun g29=>cv (bm (k:=1) cE (aJ rfl g29) rfl rfl)) rfl<|aj rfl rfl rfl (aA _) (fun g30=>wv (bV (aJ rfl g30) rfl)) rfl<|aa (bU rfl rfl) rfl<|aa (ad rfl) rfl<|aj rfl rfl rfl (aA _) (fun g31=>wv (an kh rfl)) rfl<|aj rfl rfl rfl (aA _) (fun g32=>cv (bm (k:=0) ov (aJ rfl g32) rfl rfl)) rfl<|aj rfl rfl rfl (aA _) (fun g33=>wv (bV (aJ rfl g33) rfl)) rfl<|aa (bU rfl rfl) rfl<|aa (ad rfl) rfl<|aj rfl rfl rfl (aA _) (fun g34=>wv (ad rfl)) rfl<|aj rfl rfl rfl (aA _) (fun g35=>wv (dB rfl Tryz.underlying39 (aJ rfl g35))) rfl<|aj rfl rfl rfl (aA _) (fun g36=>wv (bV (aJ rfl g36) rfl)) rfl<|aa (bU rfl rfl) rfl<|aa (ad rfl) rfl<|aj rfl rfl rfl (aA _) (fun g37=>wv (ad rfl)) rfl<|aj rfl rfl rfl (aA _) (fun g38=>wv (bV (aJ rfl g38) rfl)) rfl<|aa (bU rfl rfl) rfl<|aa (ad rfl) rfl<|aj rfl rfl rfl (aA _) (fun g39=>wv (ad rfl)) rfl<|aa (bU rfl rfl) rfl<|aa (ad rfl) rfl<|aj rfl rfl rfl (aA _) (fun g40=>wv (ad rfl)) rfl<|aj rfl rfl rfl (aA _) (fun g41=>wv (bV (aJ rfl g41) rfl)) rfl<|aa (bU rfl rfl) rfl<|aa (ad rfl) rfl<|aj rfl rfl rfl (aA _) (fun g42=>wv (ad rfl)) rfl<|aa (bU rfl rfl) rfl<|aa (ad rfl) rfl<|aj rfl rfl rfl (aA _) (fun g43=>wv (ad rfl)) rfl<|aj rfl rfl rfl (aA _) (fun g44=>cv (bP (k:=5) pw rfl rfl rfl rfl)) rfl<|cc H13 (fun k46 H47=>aL rfl rfl rfl (congrArg Value.bool k46) (aB H47 en_19 (ba (aJ rfl k46) (ba (aJ rfl k46) bY)) rfl fun r132 _ H48=>aa (bd rfl k46 rfl) rfl<|aa (ad rfl) rfl<|aj rfl rfl rfl (aA _) (fun g49=>wv (ad rfl)) rfl<|cc H48 (fun k51 H52=>aL rfl rfl rfl (congrArg Value.bool k51) (aB H52 en_26 (ba (aJ rfl k51) bY) rfl fun r136 _ H53=>aL rfl rfl rfl (congrArg Value.bool k51) (aQ (wv (dB rfl Tryz.underlying41 rfl)) rfl<|aL rfl rfl rfl (congrArg Value.bool k51) (aQ (wv (bV rfl rfl)) rfl<|aa (bd rfl k51 rfl) rfl<|aa (ad rfl) rfl<|aj rfl rfl rfl (aA _) (fun g54=>wv (ad rfl)) rfl<|aj rfl rfl rfl (aA _) (fun g55=>wv (dB rfl Tryz.underlying23 (aJ rfl g55))) rfl<|aj rfl rfl rfl (aA _) (fun g56=>wv (bV (aJ rfl g56) rfl)) rfl<|aa (bU rfl rfl) rfl<|aa (ad rfl) rfl<|aj rfl rfl rfl (aA _) (fun g57=>wv (ad rfl)) rfl<|cc H53 (fun k59 H60=>aL rfl rfl rfl (congrArg Value.bool k59) (aB H60 en_12 (ba (aJ rfl k59) (ba rfl (ba rfl bY))) rfl fun r147 _ H61=>aa (bd rfl k59 rfl) rfl<|aa (ad rfl) rfl<|aj rfl rfl rfl (aA _) (fun g62=>wv (ad rfl)) rfl<|cc H61 (fun k64 H65=>aL rfl rfl rfl (congrArg Value.bool k64) (aB H65 en_51 (ba (aJ rfl k64) (ba rfl bY)) rfl fun r151 _ H66=>aL rfl rfl rfl (congrArg Value.bool k64) (aQ (wv (dB rfl Tryz.underlying84 rfl)) rfl<|aL rfl rfl rfl (congrArg Value.bool k64) (aQ (wv (bV rfl rfl)) rfl<|aa (bd rfl k64 rfl) rfl<|aa (ad rfl) rfl<|aj rfl rfl rfl (aA _) (fun g67=>wv (ad rfl)) rfl<|aj rfl rfl rfl (aA _) (fun g68=>cv (bP (k:=5) pw rfl rfl rfl rfl)) rfl<|cc H66 (fun k70 H71=>aL rfl rfl rfl (congrArg Value.bool k70) (aB H71 en_41 (ba (aJ rfl k70) (ba (aJ rfl k70) bY)) rfl fun r158 _ H72=>aa (bd rfl k70 rfl) rfl<|aa (ag rfl) rfl<|ae<|ao<|aw (az rfl (aE rfl)) ⟨r158,rfl,H72⟩)) (fun k70 H71=>am rfl rfl rfl (bc k70) rfl<|aa (ay rfl k70 rfl) rfl<|aa (ag rfl) rfl<|ae<|ao<|aw (az rfl (aE rfl)) ⟨false,rfl,H71⟩))))) (fun k64 H65=>am rfl rfl rfl (bc k64) rfl<|am rfl rfl rfl (bc k64) rfl<|am rfl rfl rfl (bc k64) rfl<|aa (ay rfl k64 rfl) rfl<|aa (ad rfl) rfl<|am rfl rfl rfl rfl rfl<|am rfl rfl rfl rfl rfl<|am rfl rfl rfl rfl rfl<|aa (ay rfl rfl rfl) rfl<|aa (ag rfl) rfl<|ae<|ao<|aw (az rfl (aE rfl)) ⟨false,rfl,H65⟩))) (fun k59 H60=>am rfl rfl rfl (bc k59) rfl<|aa (ay rfl k59 rfl) rfl<|aa (ad rfl) rfl<|am rfl rfl rfl rfl rfl<|am rfl rfl rfl rfl rfl<|am rfl rfl rfl rfl rfl<|am rfl rfl rfl rfl rfl<|aa (ay rfl rfl rfl) rfl<|aa (ad rfl) rfl<|am rfl rfl rfl rfl rfl<|am rfl rfl rfl rfl rfl<|am rfl rfl rfl rfl rfl<|aa (ay rfl rfl rfl) rfl<|aa (ag rfl) rfl<|ae<|ao<|aw (az rfl (aE rfl)) ⟨false,rfl,H60⟩))))) (fun k51 H52=>am rfl rfl rfl (bc k51) rfl<|am rfl rfl rfl (bc k51) rfl<|am rfl rfl rfl (bc k51) rfl<|aa (ay rfl k51 rfl) rfl<|aa (ad rfl) rfl<|am rfl rfl rfl rfl rfl<|am rfl rfl rfl rfl rfl<|am rfl rfl rfl rfl rfl<|aa (ay rfl rfl rfl) rfl<|aa (ad rfl) rfl<|am rfl rfl rfl rfl rfl<|am rfl rfl rfl rfl rfl<|aa (ay rfl rfl rfl) rfl<|aa (ad rfl) rfl<|am rfl rfl rfl rfl rfl<|am rfl rfl rfl rfl rfl<|am rfl rfl rfl rfl rfl<|am rfl rfl rfl rfl rfl<|aa (ay rfl rfl rfl) rfl<|aa (ad rfl) rfl<|am rfl rfl rfl rfl rfl<|am rfl rfl rfl rfl rfl<|am rfl rfl rfl rfl rfl<|aa (ay rfl rfl rfl) rfl<|aa (ag rfl) rfl<|ae<|ao<|aw (az rfl (aE rfl)) ⟨false,rfl,H52⟩))) (fun k46 H47=>am rfl rfl rfl (bc k46) rfl<|aa (ay rfl k46 rfl) rfl<|aa (ad rfl) rfl<|am rfl rfl rfl rfl rfl<|am rfl rfl rfl rfl rfl<|am rfl rfl rfl rfl rfl<|am rfl rfl rfl rfl rfl<|aa (ay rfl rfl rfl) rfl<|aa (ad rfl) rfl<|am rfl rfl rfl rfl rfl<|am rfl rfl rfl rfl rfl<|am rfl rfl rfl rfl rfl<|aa (ay rfl rfl rfl) rfl<|aa (ad rfl) rfl<|am rfl rfl rfl rfl rfl<|am rfl rfl rfl rfl rfl<|aa (ay rfl rfl rfl) rfl<|aa (ad rfl) rfl<|am rfl rfl rfl rfl rfl<|am rfl rfl rfl rfl rfl<|am rfl rfl rfl rfl rfl<|am rfl rfl rfl rfl rfl<|aa (ay rfl rfl rfl) rfl<|aa (ad rfl) rfl<|am rfl rfl rfl rfl rfl<|am rfl rfl rfl rfl rfl<|am rfl rfl rfl rfl rfl<|aa (ay rfl rfl rfl) rfl<|aa (ag rfl) rfl<|ae<|ao<|aw (az rfl (aE rfl)) ⟨false,rfl,H47⟩)))))))))))))))))))))))))
def qz (a0:Sl) (a1:Int) (K:Sl→Hp→Prop):Hp→Prop:=hpv Tryz.prog (Instr.sliceAt kS (sv a0) none (some (.int .i64 (mn (a0.len:Int) a1))) none) gY fun (v10:Sl)=>K v10
set_option maxRecDepth 20000 in
theorem sim_messuagelaw16_Cut (a0:Sl) (a1:Int) {K:Sl→Hp→Prop} {h:Hp} (H:qz a0 a1 K h):Ct Tryz.prog mu #[(sv a0),(.int .i64 a1)] h fun v h'=>∃ r,v = gY r∧K r h':=aD [(sv a0),(.int .i64 a1)] Tryz.func14 rfl rfl rfl fun _=>ah<|ac<|aa (ag rfl) rfl<|ae<|ah<|ac<|aa (ad rfl) rfl<|aa (ad rfl) rfl<|aa (dB rfl Tryz.underlying23 rfl) rfl<|aa (ad rfl) rfl<|aa (v_minT rfl rfl) rfl<|ak (be H (eL rfl rfl rfl rfl rfl) rfl fun v10 _ H1=>aa (ag rfl) rfl<|ae<|ao<|aw (az rfl (aE rfl)) ⟨v10,rfl,H1⟩)
def iv (a1:aH) (a2:Int) (a3:Int) (a4:Int) (K:Bool→Hp→Prop) (r18:Sl) (Rec6:Int→Hp→Prop) (s5:Int):Hp→Prop:=br (decide (s5 < (r18.len:Int))) ( ix r18 s5 fun q31=>ld (q31.1,q31.2 + Int.toNat s5 * 10) bH.C fun x32=>ld (q31.1,q31.2 + Int.toNat s5 * 10) bH.C fun x38=>cl Tryz.prog jT [(.agg (bH.C x38).toArray),(.agg (aH.C a1).toArray)] aK fun r40=>br (!((lb x32 a1) == r40)) ( K false) ( Rec6 (IntKind.i64.wrap (s5 + 1)))) ( cl Tryz.prog lu [(sv r18),(.int .i64 a2),(.int .i64 a3)] dO fun r46=>cl Tryz.prog fo [(sv r18),(.int .i64 a2),(.int .i64 a3)] dO fun r50=>br (r46 == r50) ( cl Tryz.prog uc [(sv r18),(.int .i64 ((IntKind.i64.wrap ((a1.fCores.tmod 9) + 9)).tmod 9)),(.int .i64 a4)] aK fun r56=>cl Tryz.prog mt [(sv r18),(.int .i64 ((IntKind.i64.wrap ((a1.fCores.tmod 9) + 9)).tmod 9)),(.int .i64 a4)] aK fun r60=>K (r56 == r60)) ( K false))
def mc (a0:Sl) (a1:aH) (a2:Int) (a3:Int) (a4:Int) (K:Bool→Hp→Prop):Hp→Prop:=cl Tryz.prog ky [] aK fun r14=>br (!r14) ( K false) ( cl Tryz.prog mu [(sv a0),(.int .i64 100)] gY fun r18=>Lp (iv a1 a2 a3 a4 K r18) 0)
set_option maxRecDepth 20000 in
theorem sx (a0:Sl) (a1:aH) (a2:Int) (a3:Int) (a4:Int) {K:Bool→Hp→Prop} {h:Hp} (H:mc a0 a1 a2 a3 a4 K h):Ct Tryz.prog mL #[(sv a0),(.agg (aH.C a1).toArray),(.int .i64 a2),(.int .i64 a3),(.int .i64 a4)] h fun v h'=>∃ r,v = aK r∧K r h':=aD [(sv a0),(.agg (aH.C a1).toArray),(.int .i64 a2),(.int .i64 a3),(.int .i64 a4)] Tryz.func5 rfl rfl rfl fun _=>ah<|ac<|ak (cC (l:=(aH.C a1)) rfl rfl rfl fun b6=>aa (ag rfl) rfl<|ae<|ah<|ac<|ak (aB H en_10 rfl rfl fun r14 _ H1=>aa (ag rfl) rfl<|ae<|ah<|ah<|ac<|aa (ad rfl) rfl<|aa (cD rfl) rfl<|ae<|aC rfl H1 (fun k2 H3=>ah<|ac<|aa (ag rfl) rfl<|ae<|ao<|aw (az rfl (aE rfl)) ⟨false,rfl,H3⟩) (fun k2 H3=>av<|ah<|ac<|aa (ad rfl) rfl<|ak (aB H3 en_14 rfl rfl fun r18 _ H4=>aa (ag rfl) rfl<|ae<|ah<|ac<|aa (an kj rfl) rfl<|bw (bm (k:=0) bj rfl rfl rfl) rfl<|aa (v_rem rfl rfl (by decide)) rfl<|aa (bI rfl rfl) rfl<|aa (v_rem rfl rfl (by decide)) rfl<|aa (ag rfl) rfl<|ae<|ah<|ah<|ac<|aa (ad rfl) rfl<|aa (dB rfl Tryz.underlying23 rfl) rfl<|aa (ad rfl) rfl<|ae<|aF<|bO (step:=iv a1 a2 a3 a4 K r18) (fun s5=>[(0,(sv r18)),(2,(.int .i64 a2)),(3,(.int .i64 a3)),(4,(.int .i64 a4)),(6,(.pointer (some ⟨b6,0,none⟩))),(12,(.int .i64 ((IntKind.i64.wrap ((a1.fCores.tmod 9) + 9)).tmod 9))),(25,(.int .i64 (r18.len:Int))),(26,(.int .i64 s5))]) (fun s5=>[bx b6 35 (aH.C a1)]) H4 (.cons rfl (.cons rfl (.cons rfl (.cons rfl (.cons rfl (.cons rfl (.cons rfl (.cons rfl (.nil _))))))))) (.cons_cons _ .slnil) (fun Rec6 s5 _ H7=>ah<|ac<|aa (cx rfl rfl) rfl<|ae<|ah<|aC rfl H7 (fun k8 H9=>av<|ah<|aF<|ah<|ac<|aa (ad rfl) rfl<|aa (ag rfl) rfl<|ae<|ah<|bC (n:=13) [bx b6 35 (aH.C a1)] cy rfl (.cons_cons _ .slnil)<|ai (i:=0) (fun _ _ _ _=>id) rfl (by kernel_rfl) rfl (ve (ad rfl))<|ai (i:=1) (fun _ _ _ _=>id) rfl (by kernel_rfl) rfl (ve (ad rfl))<|ai (i:=4) (fun _ _ _ _=>id) rfl (by kernel_rfl) rfl (ef (k:=0) pw rfl rfl rfl rfl)<|ai (i:=6) (fun _ _ _ _=>id) rfl (by kernel_rfl) rfl (ve (ad rfl))<|ai (i:=7) (fun _ _ _ _=>id) rfl (by kernel_rfl) rfl (ve (ad rfl))<|ai (i:=10) (fun _ _ _ _=>id) rfl (by kernel_rfl) rfl (ef (k:=0) pw rfl rfl rfl rfl)<|fQ H9 fun q31 e10 h11 H12=>ai (i:=2) (fun _ _ _ _=>id) rfl (by kernel_rfl) rfl (ve (bD slc_23 (aW rfl (bn e10)) rfl h11))<|ai (i:=8) (fun _ _ _ _=>id) rfl (by kernel_rfl) rfl (ve (bD slc_23 (aW rfl (bn e10)) rfl h11))<|rS (i:=3) (fun _ _ _ _=>id) H12 rfl (by kernel_rfl) ag_29 rfl (fun _=>rfl) rfl fun x32 H13=>jg (i:=5) (j:=9) (by kernel_rfl) (aI rfl rfl (cM (vs:=[(.agg (bH.C x32).toArray),(.agg (aH.C a1).toArray)]) (bG (ct_fair_May x32 a1 _)) en_15 rfl rfl<|⟨(.cons_cons _ .slnil),rS (i:=9) (fun _ _ _ _=>id) H13 rfl (by kernel_rfl) ag_29 rfl (fun _=>rfl) rfl fun x38 H15=>bh (i:=11) (by kernel_rfl) (aI rfl rfl (aB H15 en_16 rfl rfl fun r40 _ H16=>⟨(.cons_cons _ .slnil),ai (i:=12) (fun _ _ _ _=>id) rfl (by kernel_rfl) rfl (ve (v_bne Tryz.underlying4 rfl rfl))<|bf (by kernel_rfl)<|aC rfl H16 (fun k17 H18=>ah<|ac<|aa (ag rfl) rfl<|ae<|ao<|aw (az rfl (aE rfl)) ⟨false,rfl,H18⟩) (fun k17 H18=>av<|ac<|aa (bI rfl rfl) rfl<|aa (ad rfl) rfl<|ae<|cT (IntKind.i64.wrap (s5 + 1)) H18 (.cons rfl (.cons rfl (.cons rfl (.cons rfl (.cons rfl (.cons rfl (.cons rfl (.cons rfl (.nil _))))))))) (.cons_cons _ .slnil))⟩))⟩)) (aI rfl rfl (gI H13 ag_29 rfl (fun _=>rfl) rfl fun x38 H15=>⟨(.cons_cons _ .slnil),bh (i:=5) (by kernel_rfl) (aI rfl rfl (cM (vs:=[(.agg (bH.C x32).toArray),(.agg (aH.C a1).toArray)]) (bG (ct_fair_May x32 a1 _)) en_15 rfl rfl<|⟨(.cons_cons _ .slnil),bh (i:=11) (by kernel_rfl) (aI rfl rfl (aB H15 en_16 rfl rfl fun r40 _ H16=>⟨(.cons_cons _ .slnil),ai (i:=12) (fun _ _ _ _=>id) rfl (by kernel_rfl) rfl (ve (v_bne Tryz.underlying4 rfl rfl))<|bf (by kernel_rfl)<|aC rfl H16 (fun k17 H18=>ah<|ac<|aa (ag rfl) rfl<|ae<|ao<|aw (az rfl (aE rfl)) ⟨false,rfl,H18⟩) (fun k17 H18=>av<|ac<|aa (bI rfl rfl) rfl<|aa (ad rfl) rfl<|ae<|cT (IntKind.i64.wrap (s5 + 1)) H18 (.cons rfl (.cons rfl (.cons rfl (.cons rfl (.cons rfl (.cons rfl (.cons rfl (.cons rfl (.nil _))))))))) (.cons_cons _ .slnil))⟩))⟩))⟩))) (fun k8 H9=>bA<|ah<|ac<|aa (ad rfl) rfl<|aa (ad rfl) rfl<|aa (ad rfl) rfl<|ak (aB H9 en_13 rfl rfl fun r46 _ H19=>aa (ad rfl) rfl<|aa (ad rfl) rfl<|aa (ad rfl) rfl<|ak (aB H19 en_17 rfl rfl fun r50 _ H20=>aa (bV rfl rfl) rfl<|aa (ad rfl) rfl<|aj rfl rfl rfl (aA _) (fun g21=>wv (ad rfl)) rfl<|aj rfl rfl rfl (aA _) (fun g22=>wv (ad rfl)) rfl<|aj rfl rfl rfl (aA _) (fun g23=>wv (ad rfl)) rfl<|cc H20 (fun k25 H26=>aL rfl rfl rfl (congrArg Value.bool k25) (aB H26 en_12 (ba (aJ rfl k25) (ba (aJ rfl k25) (ba (aJ rfl k25) bY))) rfl fun r56 _ H27=>aL rfl rfl rfl (congrArg Value.bool k25) (aQ (wv (ad rfl)) rfl<|aL rfl rfl rfl (congrArg Value.bool k25) (aQ (wv (ad rfl)) rfl<|aL rfl rfl rfl (congrArg Value.bool k25) (aQ (wv (ad rfl)) rfl<|aL rfl rfl rfl (congrArg Value.bool k25) (aB H27 en_18 rfl rfl fun r60 _ H28=>aL rfl rfl rfl (congrArg Value.bool k25) (aQ (wv (v_beq Tryz.underlying4 rfl rfl)) rfl<|aa (bd rfl k25 rfl) rfl<|aa (ag rfl) rfl<|ae<|ao<|aw (az rfl (aE rfl)) ⟨(r56 == r60),rfl,H28⟩))))))) (fun k25 H26=>am rfl rfl rfl (bc k25) rfl<|am rfl rfl rfl (bc k25) rfl<|am rfl rfl rfl (bc k25) rfl<|am rfl rfl rfl (bc k25) rfl<|am rfl rfl rfl (bc k25) rfl<|am rfl rfl rfl (bc k25) rfl<|aa (ay rfl k25 rfl) rfl<|aa (ag rfl) rfl<|ae<|ao<|aw (az rfl (aE rfl)) ⟨false,rfl,H26⟩)))))))))
end Go.Proofs.YtniiiakkdoiaiaaGreatDoor
