/- Part of the proof of: The law RaceGrant returns true for every input, and leaves its arguments as they were. -/
import Derived.Test.YtmggcfijlpldpaaGreatDoorRaceGrant11
set_option linter.all false
set_option maxRecDepth 20000
namespace Go.Proofs.YtmggcfijlpldpaaGreatDoor
open Go Mb
theorem mi (e:bQ):e.C.length = 16:=rfl
theorem ev_one (e:bQ):dC e.C = true:=rfl
abbrev vE (s:Sl) (xs:List bQ):As:=vec nk 16 ar.C s xs
def il (x:Ptr):Option KC→As
  | none=>fun _=>x = none
  | some c=>fun h=>∃ b:Nat,x = some (b,0)∧blk b cH c.C h
section
variable {l:List As} {h:Hp} {cp:List Ptr} {cs:List (Option KC)} {n:Nat}
theorem all_get {σ α:Type} {A:σ→α→As} {ps:List σ} {xs:List α} {i j:Nat} {p:σ} {x:α} (st:aE l h) (hj:l[j]? = some (all A ps xs)) (hp:ps[i]? = some p) (hx:xs[i]? = some x):∃ h1,A p x h1∧∀ b o,h1 b = some o→h b = some o:=by
  obtain ⟨h1,a,sub⟩:=dR hj st
  obtain ⟨h2,a2,sub2⟩:=dR (objs_get hp hx) a
  exact ⟨h2,a2,fun b o e=>sub _ _ (sub2 _ _ e)⟩
theorem call_none {j:Nat} {p:Ptr} (st:aE l h) (hj:l[j]? = some (all il cp cs)) (hp:cp[n]? = some p) (hx:cs[n]? = some none):p = none:=by
  obtain ⟨_,a,_⟩:=all_get st hj hp hx; exact a
theorem vB {j:Nat} {p:Ptr} {x:KC} (st:aE l h) (hj:l[j]? = some (all il cp cs)) (hp:cp[n]? = some p) (hx:cs[n]? = some (some x)):∃ b,p = some (b,0)∧h b = some (.cells x.C.toArray cH (0,0)):=by
  obtain ⟨_,⟨b,e,a⟩,sub⟩:=all_get st hj hp hx
  exact ⟨b,e,sub _ _ a⟩
theorem all_but {σ α:Type} {A:σ→α→As} {ps:List σ} {xs:List α} {i:Nat} {p:σ} {x:α} (hp:ps[i]? = some p) (hx:xs[i]? = some x) (s:aE (all A ps xs::l) h):aE (but A ps xs i::l) h:=by
  obtain ⟨h1,h2,d,e,_,s'⟩:=jd hp hx s
  rw [e,un_comm d]; exact sd s' d.symm
theorem call_mk {b:Nat} {y:KC} (s:aE (blk b cH y.C::l) h):aE (il (some (b,0)) (some y)::l) h:=by
  obtain ⟨h1,h2,d,e,a,s'⟩:=s
  exact ⟨h1,h2,d,e,⟨b,rfl,a⟩,s'⟩
theorem ld_c {τ:Type} {j b off:Nat} {x:KC} {enc:τ→List Value} {K:τ→Hp→Prop} (y:τ) (st:aE l h) (hj:l[j]? = some (all il cp cs)) (hp:cp[n]? = some (some (b,0))) (hx:cs[n]? = some (some x)) (hy:∀ i v,(enc y)[i]? = some v→x.C[off + i]? = some v) (k:K y h):ld (b,off) enc K h:=by
  obtain ⟨b',e,a⟩:=vB st hj hp hx
  cases e
  exact ⟨y,⟨_,_,_,a,fun i v hv=>by simpa using hy i v hv⟩,k⟩
theorem ld_c1 {τ:Type} {j b off:Nat} {x:KC} {enc:τ→List Value} {K:τ→Hp→Prop} {v:Value} (y:τ) (st:aE l h) (hj:l[j]? = some (all il cp cs)) (hp:cp[n]? = some (some (b,0))) (hx:cs[n]? = some (some x)) (he:enc y = [v]) (hv:x.C[off]? = some v) (k:K y h):ld (b,off) enc K h :=
  ld_c y st hj hp hx (c1 he hv) k
theorem call_out {p:Ptr} {x:KC} (hp:cp[n]? = some p) (hx:cs[n]? = some (some x)) (s:aE (all il cp cs::l) h):∃ b,p = some (b,0)∧aE (blk b cH x.C::but il cp cs n::l) h:=by
  obtain ⟨h1,h2,d,e,⟨b,e1,a⟩,s'⟩:=jd hp hx s
  exact ⟨b,e1,h1,h2,d,e,a,s'⟩
theorem call_in {b:Nat} {y:KC} (hp:cp[n]? = some (some (b,0))) (hn:n < cs.length) (hl:cp.length = cs.length) (s:aE (blk b cH y.C::but il cp cs n::l) h):aE (all il cp (cs.set n (some y))::l) h:=by
  obtain ⟨h1,h2,d,e,a,s'⟩:=s
  exact xd (A:=il) hp hn hl ⟨h1,h2,d,e,⟨b,rfl,a⟩,s'⟩
end
def capOf (h:Hp) (x:Ptr):Cap:=match x with
  | some q=>(match h q.1 with
    | some (.cells c _ _)=>(match c.toList with
      | [.int _ a,.int _ b,.int _ d,.int _ e]=>⟨a,b,d,e⟩
      | _=>qY)
    | _=>qY)
  | none=>qY
theorem capOf_eq {l:List As} {h:Hp} {i b T:Nat} {c:Cap} (st:aE l h) (hi:l[i]? = some (blk b T c.C)):capOf h (some (b,0)) = c:=by
  obtain ⟨h1,a,sub⟩:=dR hi st
  unfold capOf
  rw [show (some (b,0):Ptr) = some (b,0) from rfl]
  simp only [sub _ _ a]
  rfl
theorem at_get {t:Caps.T} {e s:Int} (h1:Caps.has t e s = true) (h2:(Caps.get t e s).fRights ≠ 0):Caps.at_ t e s = (Caps.get t e s,true):=if_pos ⟨h1,h2⟩
def vO (t:Caps.T) (x:KC) (r:Cap × Bool):Bool:=if r.2 = true then Caps.under t r.1 ⟨x.fenv,IntKind.i64.wrap x.fc.e1⟩ else false
theorem up_at {t:Caps.T} (x:KC) (e s:Int):vO t x (Caps.at_ t e s) = (if Caps.has t e s = true then Caps.under t (Caps.get t e s) ⟨x.fenv,IntKind.i64.wrap x.fc.e1⟩ else false):=by
  unfold vO
  by_cases h1:Caps.has t e s = true
  · by_cases h2:(Caps.get t e s).fRights ≠ 0
    · rw [at_get h1 h2,if_pos rfl,if_pos h1]
    · have ea:Caps.at_ t e s = (qY,false):=if_neg (fun hh=>h2 hh.2)
      rw [ea,if_neg Bool.false_ne_true,if_pos h1]
      cases hu:Caps.under t (Caps.get t e s) ⟨x.fenv,IntKind.i64.wrap x.fc.e1⟩ with
      | false=>rfl
      | true=>exact absurd (Caps.under_rights hu) h2
  · have ea:Caps.at_ t e s = (qY,false):=if_neg (fun hh=>h1 hh.1)
    rw [ea,if_neg Bool.false_ne_true,if_neg h1]
theorem sp_kern_goes (kb xb:Nat) (pp:Ptr) (kc:List Value) (p:PK) (x:KC) (e s:Int) (h0:kc[0]? = some (pv pp)) :
    Sp Tryz.prog pL [pv (some (kb,0)),pv (some (xb,0)),.int .i64 e,.int .i64 s] az [blk kb cc kc,blk xb cH x.C,bk pp p] (fun r=>pa_ (r = KK.goes p x e s) [blk kb cc kc,blk xb cH x.C,bk pp p]):=by
  intro h s0
  have tok:Caps.Ok p.caps:=by
    obtain ⟨_,_,_,ok,_⟩:=fD (ba [2] s0 rfl); exact ok.tree
  refine sim_kern_Kern_goes _ _ _ _ ?_
  unfold tN
  have j1:¬ (x.fc.e0 = 5∧e = x.fenv∧s = IntKind.i64.wrap x.fc.e1)→iL (some (kb,0)) e s (fun r=>pa_ (r = KK.goes p x e s) [blk kb cc kc,blk xb cH x.C,bk pp p]) (xb,0) x.fc.e1 () h:=by
    intro hno
    have eg:KK.goes p x e s = vO p.caps x (Caps.at_ p.caps e s):=by unfold KK.goes; rw [if_neg hno,up_at]
    rw [eg]
    unfold iL
    refine cu (bi pp s0 (i:=0) rfl rfl h0 ?_)
    refine bH (rF pp p e s) (i:=2) rfl s0 fun r h1 hr s1=>?_
    subst hr
    refine oR s1 fun b h2 s2=>?_
    refine us (i:=0) s2 rfl (by simp [qd]) fun h3 s3=>?_
    have s3':aE [blk b fF (Caps.at_ p.caps e s).1.C,blk kb cc kc,blk xb cH x.C,bk pp p] h3:=s3
    refine Lp.intro (fun (z:Ptr × Bool) h=>∃ (b:Nat) (a i:Int),z = (some (b,0),(Caps.at_ p.caps a i).2)∧vO p.caps x (Caps.at_ p.caps a i) = vO p.caps x (Caps.at_ p.caps e s)∧aE [blk b fF (Caps.at_ p.caps a i).1.C,blk kb cc kc,blk xb cH x.C,bk pp p] h)
      (fun (z:Ptr × Bool) h=>Caps.deep 40 p.caps (capOf h z.1)) ⟨b,e,s,rfl,rfl,s3'⟩ ?_
    rintro z h ⟨b,a,i,rfl,hu,s4⟩
    unfold oH
    rw [capOf_eq (i:=0) s4 rfl]
    refine aV (fun k=>?_) (fun k=>?_)
    · have hat:Caps.has p.caps a i = true∧(Caps.get p.caps a i).fRights ≠ 0:=by
        unfold Caps.at_ at k; split at k
        · assumption
        · cases k
      have e1:=at_get hat.1 hat.2
      rw [e1] at s4 hu ⊢
      have step:=Caps.under_step tok hat.1 ⟨x.fenv,IntKind.i64.wrap x.fc.e1⟩
      have hu':vO p.caps x (Caps.get p.caps a i,true) = Caps.under p.caps (Caps.get p.caps a i) ⟨x.fenv,IntKind.i64.wrap x.fc.e1⟩:=rfl
      rw [hu'] at hu
      refine cu (bi (Caps.get p.caps a i).fEnv s4 (i:=0) rfl rfl rfl ?_)
      refine aV (fun k2=>?_) (fun k2=>?_)
      · have k2':0 ≤ (Caps.get p.caps a i).fEnv:=by simpa using k2
        rw [if_pos ⟨hat.2,k2'⟩] at step
        have dd:=Caps.deep_step tok hat.1 ⟨hat.2,k2'⟩
        obtain ⟨q1,q2⟩:=Caps.parent_has tok hat.1 hat.2 k2'
        have next:¬ ((Caps.get p.caps a i).fEnv = x.fenv∧(Caps.get p.caps a i).fSlot = IntKind.i64.wrap x.fc.e1) →
            iK (kb,0) b (fun s' h'=>(∃ (b:Nat) (a i:Int),s' = (some (b,0),(Caps.at_ p.caps a i).2)∧vO p.caps x (Caps.at_ p.caps a i) = vO p.caps x (Caps.at_ p.caps e s)∧aE [blk b fF (Caps.at_ p.caps a i).1.C,blk kb cc kc,blk xb cH x.C,bk pp p] h')∧Caps.deep 40 p.caps (capOf h' s'.1) < Caps.deep 40 p.caps (Caps.get p.caps a i)) (b,0) () h:=by
          intro hne
          unfold iK
          refine ld_s (i:=0) (Caps.get p.caps a i) s4 rfl (by simp) ?_
          refine oR s4 fun b2 h5 s5=>?_
          refine us (i:=0) s5 rfl (by simp [qd]) fun h6 s6=>?_
          have s6':aE [blk b2 fF (Caps.get p.caps a i).C,blk b fF (Caps.get p.caps a i).C,blk kb cc kc,blk xb cH x.C,bk pp p] h6:=s6
          refine bi pp s6' (i:=2) rfl rfl h0 ?_
          refine bi (Caps.get p.caps a i).fEnv s6' (i:=0) rfl rfl rfl ?_
          refine bi (Caps.get p.caps a i).fSlot s6' (i:=0) rfl rfl rfl ?_
          refine bH (rF pp p _ _) (i:=4) rfl s6' fun r h7 hr s7=>?_
          subst hr
          refine us (i:=0) s7 rfl (by simp [qd]) fun h8 s8=>?_
          have s8':aE [blk b2 fF (Caps.at_ p.caps (Caps.get p.caps a i).fEnv (Caps.get p.caps a i).fSlot).1.C,blk b fF (Caps.get p.caps a i).C,blk kb cc kc,blk xb cH x.C,bk pp p] h8:=s8
          have e2:=at_get q1 q2
          refine ⟨⟨b2,_,_,rfl,?_,bX (l:=[blk b fF (Caps.get p.caps a i).C]) (ba [1] s8' rfl)⟩,?_⟩
          · rw [e2,← hu,step,if_neg hne]; rfl
          · rw [capOf_eq (i:=0) s8' rfl,e2]; exact dd
        refine bi (Caps.get p.caps a i).fEnv s4 (i:=0) rfl rfl rfl ?_
        refine bi x.fenv s4 (i:=2) rfl rfl rfl ?_
        refine aV (fun k3=>?_) (fun k3=>?_)
        · have k3':(Caps.get p.caps a i).fEnv = x.fenv:=by simpa using k3
          refine bi (Caps.get p.caps a i).fSlot s4 (i:=0) rfl rfl rfl ?_
          refine aV (fun k4=>?_) (fun k4=>?_)
          · have k4':(Caps.get p.caps a i).fSlot = IntKind.i64.wrap x.fc.e1:=by simpa using k4
            rw [if_pos ⟨k3',k4'⟩] at step
            exact aU (by rw [← hu,step]) (bX (l:=[blk b fF (Caps.get p.caps a i).C]) s4)
          · exact next (fun hh=>by simp [hh.2] at k4)
        · exact next (fun hh=>by simp [hh.1] at k3)
      · have k2':¬ 0 ≤ (Caps.get p.caps a i).fEnv:=by simpa using k2
        rw [if_neg (fun hh=>k2' hh.2)] at step
        exact aU (by rw [← hu,step]) (bX (l:=[blk b fF (Caps.get p.caps a i).C]) s4)
    · refine aU ?_ (bX (l:=[blk b fF (Caps.at_ p.caps a i).1.C]) s4)
      rw [← hu]; unfold vO
      have k':(Caps.at_ p.caps a i).2 = false:=k
      rw [k']; rfl
  refine cu (bi x.fc.e1 s0 (i:=1) rfl rfl rfl ?_)
  refine bi x.fc.e0 s0 (i:=1) rfl rfl rfl ?_
  refine aV (fun k=>?_) (fun k=>?_)
  · have k':x.fc.e0 = 5:=by simpa using k
    refine bi x.fenv s0 (i:=1) rfl rfl rfl ?_
    refine aV (fun k2=>?_) (fun k2=>?_)
    · have k2':e = x.fenv∧s = IntKind.i64.wrap x.fc.e1:=by simpa using k2
      exact aU (by unfold KK.goes; rw [if_pos ⟨k',k2'⟩]) s0
    · exact j1 (fun hh=>by simp [hh.2.1,hh.2.2] at k2)
  · exact j1 (fun hh=>by simp [hh.1] at k)
theorem sp_kern_left (kb xb:Nat) (pp:Ptr) (kc:List Value) (p:PK) (x:KC) (e pg:Int) (q:Pte) (h0:kc[0]? = some (pv pp)) :
    Sp Tryz.prog lK [pv (some (kb,0)),pv (some (xb,0)),.int .i64 e,.int .i64 pg,.agg q.C.toArray] vJ [blk kb cc kc,blk xb cH x.C,bk pp p] (fun r=>pa_ (r = KK.left p x e pg q) [blk kb cc kc,blk xb cH x.C,bk pp p]):=by
  intro h s0
  refine sim_kern_Kern_left _ _ _ _ _ ?_
  unfold tM
  have j1:∀ o:Bool,o = decide (x.fenv = e∧IntKind.i64.wrap x.fc.e1 = pg)→iJ (some (kb,0)) (some (xb,0)) e q (fun r=>pa_ (r = KK.left p x e pg q) [blk kb cc kc,blk xb cH x.C,bk pp p]) o h:=by
    intro o ho
    unfold iJ
    refine cu (bi x.fc.e0 s0 (i:=1) rfl rfl rfl ?_)
    refine aV (fun k=>?_) (fun k=>?_)
    · have k':x.fc.e0 = 7:=by simpa using k
      refine aV (fun k2=>?_) (fun k2=>?_)
      · have k2':x.fenv = e∧IntKind.i64.wrap x.fc.e1 = pg:=of_decide_eq_true (ho ▸ k2)
        exact aU (by unfold KK.left; rw [if_pos k',if_pos k2']) s0
      · have k2':¬ (x.fenv = e∧IntKind.i64.wrap x.fc.e1 = pg):=of_decide_eq_false (ho ▸ k2)
        exact aU (by unfold KK.left; rw [if_pos k',if_neg k2']) s0
    · have k':¬ x.fc.e0 = 7:=by simpa using k
      refine aV (fun k2=>?_) (fun k2=>?_)
      · have k2':x.fc.e0 = 8:=by simpa using k2
        refine cu (bi pp s0 (i:=0) rfl rfl h0 ?_)
        refine bH (rF pp p e q.fSlot) (i:=2) rfl s0 fun r h1 hr s1=>?_
        subst hr
        refine bi x.fc.e2 s1 (i:=1) rfl rfl rfl ?_
        refine aV (fun k3=>?_) (fun k3=>?_)
        · rw [Bool.and_eq_true] at k3
          have k3':x.fenv = e∧IntKind.i64.wrap x.fc.e1 = pg:=of_decide_eq_true (ho ▸ k3.1)
          exact aU (by unfold KK.left; rw [if_neg k',if_pos k2',if_pos ⟨k3',k3.2⟩]) s1
        · have k3':¬ ((x.fenv = e∧IntKind.i64.wrap x.fc.e1 = pg)∧be (IntKind.i64.wrap x.fc.e2) (Caps.at_ p.caps e q.fSlot).1.fRights = true):=by
            rintro ⟨h3,h4⟩
            rw [ho,decide_eq_true h3,h4] at k3; cases k3
          exact aU (by unfold KK.left; rw [if_neg k',if_pos k2',if_neg k3']) s1
      · have k2':¬ x.fc.e0 = 8:=by simpa using k2
        refine cG [0,0,0] (sp_kern_goes kb xb pp kc p x e q.fSlot h0) s0 rfl fun r h1 s1=>?_
        obtain ⟨rfl,s2⟩:=bn.1 s1
        refine aV (fun k3=>?_) (fun k3=>?_)
        · exact aU (by unfold KK.left; rw [if_neg k',if_neg k2',if_pos k3]) s2
        · exact aU (by unfold KK.left; rw [if_neg k',if_neg k2',if_neg (by rw [k3]; exact Bool.false_ne_true)]) s2
  refine cu (bi x.fenv s0 (i:=1) rfl rfl rfl ?_)
  refine aV (fun k=>?_) (fun k=>?_)
  · have k':x.fenv = e:=by simpa using k
    refine bi x.fc.e1 s0 (i:=1) rfl rfl rfl ?_
    refine j1 _ ?_
    by_cases h1:IntKind.i64.wrap x.fc.e1 = pg <;> simp [k',h1]
  · have k':¬ x.fenv = e:=by simpa using k
    exact j1 false (by simp [k'])
theorem sp_kern_seen (kb:Nat) (pp:Ptr) (kc:List Value) (p:PK) (cs:Sl) (cp:List Ptr) (calls:List (Option KC)) (e pg:Int) (h0:kc[0]? = some (pv pp)) (h5:kc[5]? = some (sv cs)) (hl:cp.length = calls.length) (hb:calls.length ≤ 8) :
    Sp Tryz.prog lJ [pv (some (kb,0)),.int .i64 e,.int .i64 pg] cr [blk kb cc kc,bk pp p,vQ eZ cs cp,all il cp calls] (fun r=>pa_ (r = KK.seenFrom p e pg calls (PK.pte p e pg).2 (PK.pte p e pg).1) [blk kb cc kc,bk pp p,vQ eZ cs cp,all il cp calls]):=by
  intro h s0
  refine sim_kern_Kern_seen _ _ _ ?_
  unfold tL
  refine cu (bi pp s0 (i:=0) rfl rfl h0 ?_)
  refine bH (rD pp p e pg) (i:=1) rfl s0 fun r h1 hr s1=>?_
  subst hr
  refine bi cs s1 (i:=0) rfl rfl h5 ?_
  have hcs:=(cd (j:=2) s1 rfl).1
  refine Lp.intro (fun (z:Bool × Int × Pte) h=>∃ n:Nat,z.2.1 = n∧n ≤ calls.length∧KK.seenFrom p e pg (calls.drop n) z.1 z.2.2 = KK.seenFrom p e pg calls (PK.pte p e pg).2 (PK.pte p e pg).1∧aE [blk kb cc kc,bk pp p,vQ eZ cs cp,all il cp calls] h) (fun (z:Bool × Int × Pte) _=>calls.length - z.2.1.toNat) ⟨0,rfl,Nat.zero_le _,rfl,s1⟩ ?_
  rintro ⟨b,i,q⟩ h ⟨n,rfl,hn,he,s2⟩
  unfold oG
  simp only at he ⊢
  refine aV (fun k=>?_) (fun k=>?_)
  · have hlt:n < calls.length:=by rw [hcs,hl] at k; simpa using k
    have hlp:n < cp.length:=by omega
    have hw:IntKind.i64.wrap ((n:Int) + 1) = ((n + 1:Nat):Int):=by rw [bR (by omega) (by omega)]; rfl
    rw [List.drop_eq_getElem_cons hlt] at he
    refine du s2 (j:=2) rfl (by omega) (by show (n:Int) < _; omega) fun q0 hq0=>?_
    refine ef (j:=2) (i:=n) (k:=0) cp[n] gJ s2 rfl hq0 (by simp) (aD hlp) (by simp) ?_
    have skip:KK.seenFrom p e pg (calls.drop (n + 1)) b q = KK.seenFrom p e pg calls (PK.pte p e pg).2 (PK.pte p e pg).1→gm e pg (kb,0) (fun s' h'=>(∃ n:Nat,s'.2.1 = n∧n ≤ calls.length∧KK.seenFrom p e pg (calls.drop n) s'.1 s'.2.2 = KK.seenFrom p e pg calls (PK.pte p e pg).2 (PK.pte p e pg).1∧aE [blk kb cc kc,bk pp p,vQ eZ cs cp,all il cp calls] h')∧calls.length - s'.2.1.toNat < calls.length - (n:Int).toNat) (b,(n:Int),q) cp[n] false h:=by
      intro hs
      unfold gm
      refine cZ rfl ?_
      rw [hw]
      exact ⟨⟨n + 1,rfl,hlt,hs,s2⟩,by simp; omega⟩
    cases hc:calls[n] with
    | none =>
      have hcn:calls[n]? = some none:=by rw [aD hlt,hc]
      have hp:=call_none (j:=3) s2 rfl (aD hlp) hcn
      rw [hc] at he
      refine cZ (by rw [hp]; simp) ?_
      exact skip he
    | some x =>
      have hcn:calls[n]? = some (some x):=by rw [aD hlt,hc]
      obtain ⟨xb,hp,hbx⟩:=vB (j:=3) s2 rfl (aD hlp) hcn
      rw [hc,KK.seenFrom] at he
      have hcp:cp[n]? = some (some (xb,0)):=by rw [aD hlp,hp]
      rw [hp] at skip ⊢
      refine aV (fun k2=>?_) (fun k2=>?_)
      · have k2':b = true:=by simpa using k2
        subst k2'
        refine cu (ld_c1 (j:=3) x.ftold s2 rfl hcp hcn rfl rfl ?_)
        cases ht:x.ftold with
        | false =>
          rw [ht,if_neg (by simp)] at he
          exact skip he
        | true =>
          rw [ht,if_pos ⟨rfl,rfl⟩] at he
          unfold gm
          refine dc rfl ?_
          obtain ⟨xb',hp',s3⟩:=call_out hcp hcn (ba [3] s2 rfl)
          cases hp'
          refine cG [2,0,1] (sp_kern_left kb xb pp kc p x e pg q h0) s3 rfl fun r h4 s4=>?_
          obtain ⟨rfl,s5⟩:=bn.1 s4
          rw [hw]
          have s6:=call_in (y:=x) hcp hlt hl (ba [1,2] s5 rfl)
          rw [iy hcn] at s6
          refine ⟨⟨n + 1,rfl,hlt,he,ba [1,1,1] s6 rfl⟩,by simp; omega⟩
      · have k2':b = false:=by simpa using k2
        subst k2'
        rw [if_neg (by simp)] at he
        exact skip he
  · have:n = calls.length:=by rw [hcs,hl] at k; simp at k; omega
    subst this
    rw [List.drop_length] at he
    exact aU he s2
theorem any_succ (f:Nat→Bool) (n:Nat):(List.range (n + 1)).any f = ((List.range n).any f || f n):=by
  rw [List.range_succ,List.any_append]; simp
theorem any_true {f:Nat→Bool} {n N:Nat} (h:n < N) (hf:f n = true):(List.range N).any f = true:=List.any_eq_true.2 ⟨n,List.mem_range.2 h,hf⟩
theorem sp_kern_takes (kb xb:Nat) (pp:Ptr) (kc:List Value) (p:PK) (x:KC) (h0:kc[0]? = some (pv pp)) (h1:kc[1]? = some (.int .i64 p.s.fEnvs)) :
    Sp Tryz.prog oz [pv (some (kb,0)),pv (some (xb,0))] az [blk kb cc kc,blk xb cH x.C,bk pp p] (fun r=>pa_ (r = KK.takes p x) [blk kb cc kc,blk xb cH x.C,bk pp p]):=by
  intro h s0
  have hsz:1 ≤ p.s.fEnvs∧p.s.fEnvs ≤ 4:=by
    obtain ⟨_,_,_,ok,_⟩:=fD (ba [2] s0 rfl); have:=ji.1 ok.sz; omega
  refine sim_kern_Kern_takes _ _ ?_
  unfold sA
  have no:(Word.check x.fc p.s.fEnvs ≠ 0∨x.fc.e0 < 4∨x.fc.e0 > 8∨x.fc.e0 = 6)→KK.takes p x = false:=fun hh=>if_pos hh
  refine cu (cu ?_)
  refine ld_s (i:=1) x.fc s0 rfl ?_ ?_
  · intro j v hv
    have:j < 5:=(List.getElem?_eq_some_iff.1 hv).1
    match j,this with
    | 0,_=>exact hv
    | 1,_=>exact hv
    | 2,_=>exact hv
    | 3,_=>exact hv
    | 4,_=>exact hv
  refine bi p.s.fEnvs s0 (i:=0) rfl rfl h1 ?_
  refine tt (iS x.fc _) s0 fun r h2 hr s1=>?_
  subst hr
  refine aV (fun k=>?_) (fun k=>?_)
  · exact aU (no (.inl (by simpa using k))).symm s1
  have k0:¬ Word.check x.fc p.s.fEnvs ≠ 0:=by simpa using k
  refine bi x.fc.e0 s1 (i:=1) rfl rfl rfl ?_
  refine aV (fun k1=>?_) (fun k1=>?_)
  · exact aU (no (.inr (.inl (by simpa using k1)))).symm s1
  refine bi x.fc.e0 s1 (i:=1) rfl rfl rfl ?_
  refine aV (fun k2=>?_) (fun k2=>?_)
  · exact aU (no (.inr (.inr (.inl (by simpa using k2))))).symm s1
  refine bi x.fc.e0 s1 (i:=1) rfl rfl rfl ?_
  refine aV (fun k3=>?_) (fun k3=>?_)
  · exact aU (no (.inr (.inr (.inr (by simpa using k3))))).symm s1
  have yes:KK.takes p x = (List.range p.s.fEnvs.toNat).any fun e=>(List.range 8).any fun pg=>KK.hits p x e pg:=by
    unfold KK.takes
    rw [if_neg]
    rintro (h | h | h | h)
    · exact k0 h
    · simp at k1; omega
    · simp at k2; omega
    · simp at k3; exact k3 h
  rw [yes]
  obtain ⟨N,hN⟩:=Int.eq_ofNat_of_zero_le (show 0 ≤ p.s.fEnvs by omega)
  have hNt:p.s.fEnvs.toNat = N:=by omega
  rw [hNt]
  refine bi p.s.fEnvs s1 (i:=0) rfl rfl h1 ?_
  refine Lp.intro (fun (i:Int) h=>∃ n:Nat,i = n∧n ≤ N∧((List.range n).any fun e=>(List.range 8).any fun pg=>KK.hits p x e pg) = false∧aE [blk kb cc kc,blk xb cH x.C,bk pp p] h) (fun (i:Int) _=>N - i.toNat) ⟨0,rfl,Nat.zero_le _,rfl,s1⟩ ?_
  rintro i h ⟨n,rfl,hn,ha,s2⟩
  unfold mZ
  refine aV (fun k4=>?_) (fun k4=>?_)
  · have hlt:n < N:=by rw [hN] at k4; simpa using k4
    have hw:IntKind.i64.wrap ((n:Int) + 1) = ((n + 1:Nat):Int):=by rw [bR (by omega) (by omega)]; rfl
    refine Lp.intro (fun (i:Int) h=>∃ m:Nat,i = m∧m ≤ 8∧((List.range m).any fun pg=>KK.hits p x n pg) = false∧aE [blk kb cc kc,blk xb cH x.C,bk pp p] h) (fun (i:Int) _=>8 - i.toNat) ⟨0,rfl,Nat.zero_le _,rfl,s2⟩ ?_
    rintro i h ⟨m,rfl,hm,ha2,s3⟩
    unfold mY
    refine aV (fun k5=>?_) (fun k5=>?_)
    · have hlt2:m < 8:=by have:=of_decide_eq_true k5; omega
      have hw2:IntKind.i64.wrap ((m:Int) + 1) = ((m + 1:Nat):Int):=by rw [bR (by omega) (by omega)]; rfl
      refine bi pp s3 (i:=0) rfl rfl h0 ?_
      refine bH (rD pp p n m) (i:=2) rfl s3 fun r h4 hr s4=>?_
      subst hr
      refine aV (fun k6=>?_) (fun k6=>?_)
      · refine cG [0,0,0] (sp_kern_left kb xb pp kc p x n m (PK.pte p n m).1 h0) s4 rfl fun r h5 s5=>?_
        obtain ⟨rfl,s6⟩:=bn.1 s5
        refine aV (fun k7=>?_) (fun k7=>?_)
        · have hh:KK.hits p x n m = true:=by unfold KK.hits; rw [k6,k7]; rfl
          exact aU (any_true hlt (any_true hlt2 hh)).symm s6
        · have hh:KK.hits p x n m = false:=by unfold KK.hits; rw [k6,k7]; rfl
          rw [hw2]
          exact ⟨⟨m + 1,rfl,hlt2,by rw [any_succ,ha2,hh]; rfl,s6⟩,by simp; omega⟩
      · have hh:KK.hits p x n m = false:=by unfold KK.hits; rw [k6]; rfl
        rw [hw2]
        exact ⟨⟨m + 1,rfl,hlt2,by rw [any_succ,ha2,hh]; rfl,s4⟩,by simp; omega⟩
    · have:m = 8:=by have:=of_decide_eq_false k5; omega
      subst this
      rw [hw]
      exact ⟨⟨n + 1,rfl,hlt,by rw [any_succ,ha,ha2]; rfl,s3⟩,by simp; omega⟩
  · have:n = N:=by rw [hN] at k4; simp at k4; omega
    subst this
    exact aU ha.symm s2
end Go.Proofs.YtmggcfijlpldpaaGreatDoor
namespace Go.Proofs.YtmggcfijlpldpaaGreatDoor
open Go Mb
structure KZ where
  b:Nat
  pp:Ptr
  ts:Sl
  tp:List Ptr
  pm:Ptr
  pe:Ptr
  cs:Sl
  cp:List Ptr
  es:Sl
abbrev kcl (z:KZ) (k:KK):List Value:=[pv z.pp,.int .i64 k.p.s.fEnvs,sv z.ts,pv z.pm,pv z.pe,sv z.cs,sv z.es,.int .i64 k.now]
abbrev lY (z:KZ) (k:KK):List As:=[blk z.b cc (kcl z k),bk z.pp k.p,vQ so z.ts z.tp,all fx z.tp k.tlbs,iU z.pm k.boxes,eR z.pe k.epochs,vQ eZ z.cs z.cp,all il z.cp k.calls,vE z.es k.events]
structure KZ.Ok (z:KZ) (k:KK):Prop where
  t:z.tp.length = k.tlbs.length
  c:z.cp.length = k.calls.length
def co (x:Ptr) (k:KK):As:=fun h=>∃ z:KZ,(x = some (z.b,0)∧KZ.Ok z k∧KK.Ok k)∧aE (lY z k) h
theorem rO {x:Ptr} {k:KK} {l:List As} {h:Hp} (s0:aE (co x k::l) h):∃ z:KZ,x = some (z.b,0)∧KZ.Ok z k∧KK.Ok k∧aE (lY z k++l) h:=by
  obtain ⟨z,⟨hx,h1,ok⟩,st⟩:=op_ s0
  exact ⟨z,hx,h1,ok,st⟩
theorem oF {z:KZ} {k:KK} {l:List As} {h:Hp} (h1:KZ.Ok z k) (ok:KK.Ok k) (st:aE (lY z k++l) h):aE (co (some (z.b,0)) k::l) h :=
  cl_ (m:=fun z:KZ=>lY z k) z ⟨rfl,h1,ok⟩ st
theorem kk_len {k:KK} (ok:KK.Ok k):k.tlbs.length = k.calls.length∧k.boxes.length = k.calls.length∧k.epochs.2.length = k.calls.length∧1 ≤ k.calls.length∧k.calls.length ≤ 8:=by
  have h1:=ok.tl; have h2:=ok.bl; have h3:=ok.el; have h4:=ok.cl; have h5:=ji.1 ok.p.sz
  omega
theorem is_nat {k:KK} {c:Int} (h:KK.is k c = true):∃ n:Nat,c = n∧n < k.calls.length:=by
  have:=of_decide_eq_true (show decide (0 ≤ c∧c < (k.calls.length:Int)) = true from h)
  exact ⟨c.toNat,by omega,by omega⟩
theorem call_nat {k:KK} {n:Nat} (h:n < k.calls.length):KK.call k n = k.calls[n]:=by simp [KK.call,h]
theorem buf_nat {k:KK} {n:Nat} (h:n < k.tlbs.length):KK.buf k n = k.tlbs[n]:=by simp [KK.buf,h]
theorem vZ (x:Ptr) (k:KK) (c:Int):Sp Tryz.prog jm [pv x,.int .i64 c] az [co x k] (fun r=>pa_ (r = KK.is k c) [co x k]):=by
  intro h s0
  obtain ⟨z,rfl,zo,ok,st⟩:=rO s0
  have hcs:=(cd (j:=6) st rfl).1
  refine sim_kern_Kern_is _ _ ?_
  unfold sh_kern_Kern_is
  refine aV (fun d=>?_) (fun d=>?_)
  · have d':0 ≤ c:=by simpa using d
    refine cu (bi z.cs st (i:=0) rfl rfl rfl ?_)
    exact aU (by rw [hcs,zo.c]; simp [KK.is,d']) s0
  · have d':¬ 0 ≤ c:=by simpa using d
    exact aU (by simp [KK.is]; intro h; exact absurd h d') s0
theorem nW (x:Ptr) (k:KK) (c:Int):Sp Tryz.prog fJ [pv x,.int .i64 c] az [co x k] (fun r=>pa_ (r = KK.busy k c) [co x k]):=by
  intro h s0
  refine sim_kern_Kern_Busy _ _ ?_
  unfold tS
  refine bH (vZ x k c) (i:=0) rfl s0 fun r h1 hr s1=>?_
  subst hr
  refine aV (fun d=>?_) (fun d=>?_)
  · obtain ⟨n,rfl,hn⟩:=is_nat d
    obtain ⟨z,rfl,zo,ok,st⟩:=rO s1
    have hcs:=(cd (j:=6) st rfl).1
    have hn':n < z.cp.length:=by rw [zo.c]; exact hn
    refine cu (bi z.cs st (i:=0) rfl rfl rfl ?_)
    refine du st (j:=6) rfl (by omega) (by omega) fun q hq=>?_
    refine ef (j:=6) (i:=n) (k:=0) z.cp[n] gJ st rfl hq (by simp) (aD hn') (by simp) ?_
    refine aU ?_ s1
    unfold KK.busy
    rw [d,call_nat hn]
    cases hc:k.calls[n] with
    | none =>
      have:=call_none (j:=7) st rfl (aD hn') (by rw [aD hn,hc])
      rw [this]; rfl
    | some y =>
      obtain ⟨b,hp,_⟩:=vB (j:=7) st rfl (aD hn') (by rw [aD hn,hc])
      rw [hp]; rfl
  · exact aU (by unfold KK.busy; rw [d]; rfl) s1
theorem uu (x:Ptr) (k:KK) (core env:Int) (c:jx) (hn:k.now < 2 ^ 38):Sp Tryz.prog iG [pv x,.int .i64 core,.int .i64 env,.agg c.C.toArray] az [co x k] (fun r=>pa_ (r = (KK.begin_ k core env c).1) [co x (KK.begin_ k core env c).2]):=by
  intro h s0
  refine sim_kern_Kern_Begin _ _ _ _ ?_
  unfold sC
  have no:(KK.is k core = false∨KK.busy k core = true∨env < 0∨env ≥ k.p.s.fEnvs)→KK.begin_ k core env c = (false,k):=fun hh=>if_pos hh
  refine bH (vZ x k core) (i:=0) rfl s0 fun r h1 hr s1=>?_
  subst hr
  refine aV (fun d=>?_) (fun d=>?_)
  · have d':KK.is k core = true:=by simpa using d
    refine bH (nW x k core) (i:=0) rfl s1 fun r h2 hr s2=>?_
    subst hr
    refine aV (fun d2=>?_) (fun d2=>?_)
    · have d2':KK.busy k core = false∧¬ env < 0:=by simpa using d2
      obtain ⟨z,rfl,zo,ok,st⟩:=rO s2
      refine cu (bi k.p.s.fEnvs st (i:=0) rfl rfl rfl ?_)
      refine aV (fun d3=>?_) (fun d3=>?_)
      · rw [no (.inr (.inr (.inr (by simpa using d3))))]
        exact aU rfl s2
      · have d3':¬ env ≥ k.p.s.fEnvs:=by simpa using d3
        have ok2:=kok_begin ok (by omega) core env c
        have e1:KK.begin_ k core env c = (true,{ k with now:=IntKind.i64.wrap (k.now + 1),events:=k.events++[KK.ev0 core env c (IntKind.i64.wrap (k.now + 1))],calls:=k.calls.set core.toNat (some ⟨k.events.length,env,c,false,0⟩) }):=by
          unfold KK.begin_; rw [if_neg]; simp [d',d2'.1]; omega
        rw [e1] at ok2 ⊢
        obtain ⟨n,rfl,hcn⟩:=is_nat d'
        have hn':n < z.cp.length:=by rw [zo.c]; exact hcn
        have hcs:=(cd (j:=6) st rfl).1
        have hel:=ok.evn
        refine bi k.now st (i:=0) rfl rfl rfl ?_
        refine us (i:=0) st rfl (Nat.le_of_ble_eq_true rfl) fun h3 s3=>?_
        refine bi (IntKind.i64.wrap (k.now + 1)) s3 (i:=0) rfl rfl rfl ?_
        refine bi z.es s3 (i:=0) rfl rfl rfl ?_
        refine kj (τ:=bQ) (i:=8) (enc:=ar.C) (val:=fun x=>.agg x.C.toArray) (x:=KK.ev0 n env c (IntKind.i64.wrap (k.now + 1))) qc mi ev_one (fun _=>rfl) (by omega) rfl rfl s3 rfl (by omega) (by omega) fun v h4 s4=>?_
        refine us (i:=0) s4 rfl (Nat.le_of_ble_eq_true rfl) fun h5 s5=>?_
        refine bi v s5 (i:=0) rfl rfl rfl ?_
        have hvl:=(cd (j:=8) s5 rfl).1
        refine bi z.cs s5 (i:=0) rfl rfl rfl ?_
        have hw:IntKind.i64.wrap ((v.len:Int) - 1) = k.events.length:=by rw [hvl]; rw [bR] <;> simp <;> omega
        rw [hw]
        refine oR s5 fun b68 h6 s6=>?_
        refine du s6 (j:=7) rfl (by omega) (by omega) fun q hq=>?_
        refine st_v (j:=7) (i:=n) (k:=0) (some (b68,0):Ptr) gJ s6 rfl hq (by simp) (aD hn') (by simp) rfl fun h7 s7=>?_
        have s8:=ba [8] s7 rfl
        have s10:=all_but (aD hn') (aD hcn) s8
        have s12:=call_mk (y:=⟨k.events.length,env,c,false,0⟩) (ba [1,0] s10 rfl)
        have s14:=all_in2 (A:=il) hcn zo.c s12
        refine aU rfl (oF (z:={ z with es:=v,cp:=z.cp.set n (some (b68,0)) }) ⟨zo.t,by simpa using zo.c⟩ ok2 (ba [1,1,1,1,1,1,1,0,0] s14 rfl))
    · rw [no]
      · exact aU rfl s2
      · simp at d2
        cases hb:KK.busy k core with
        | true=>exact .inr (.inl rfl)
        | false=>exact .inr (.inr (.inl (d2 hb)))
  · rw [no (.inl (by simpa using d))]
    exact aU rfl s1
theorem cleans_drop (k:KK) (ls:List Line) (n:Nat) (h:n < ls.length) (b:Buf):KK.cleans k (ls.drop n) b = if KK.stale k ls[n] = true then KK.cleans k (ls.drop (n + 1)) (Tlb.flush b ls[n].fEnv ls[n].fPage).2 else KK.cleans k (ls.drop (n + 1)) b:=by
  rw [List.drop_eq_getElem_cons h,KK.cleans]
theorem sp_kern_clean (z:KZ) (k:KK) (c:Nat) (hc:c < k.calls.length) (zo:KZ.Ok z k) (ok:KK.Ok k) :
    Sp Tryz.prog kI [pv (some (z.b,0)),.int .i64 c] R_ (lY z k) (fun _=>aE (lY z (KK.clean k c))):=by
  intro h s0
  obtain ⟨l1,l2,l3,l4,l5⟩:=kk_len ok
  have hct:c < k.tlbs.length:=by omega
  have hcp:c < z.tp.length:=by rw [zo.t]; exact hct
  have hts:=(cd (j:=2) s0 rfl).1
  refine sim_kern_Kern_clean _ _ ?_
  unfold sB
  refine cu (bi z.ts s0 (i:=0) rfl rfl rfl ?_)
  refine du s0 (j:=2) rfl (by omega) (by omega) fun q hq=>?_
  refine ef (j:=2) (i:=c) (k:=0) z.tp[c] gJ s0 rfl hq (by simp) (aD hcp) (by simp) ?_
  have s1:=jd (aD hcp) (aD hct) (ba [3] s0 rfl)
  refine vz (sp_tlb_Lines z.tp[c] k.tlbs[c]) (i:=0) rfl s1 fun r h2 s2=>?_
  have s3:=vF (aD hcp) (aD hct) zo.t (ba [1,1] s2 rfl)
  have s4:aE (vL r (Tlb.lines k.tlbs[c])::lY z k) h2:=ba [1,1,1,1,0] s3 rfl
  have hll:(Tlb.lines k.tlbs[c]).length = 8:=by
    obtain ⟨_,_,h8,_⟩:=nP s1
    unfold Tlb.lines; simpa using h8
  have hrl:=(cd (j:=0) s4 rfl).1
  have hbuf:KK.buf k c = k.tlbs[c]:=buf_nat hct
  have same:k.tlbs.set c k.tlbs[c] = k.tlbs:=iy (aD hct)
  refine Lp.intro (fun (i:Int) h=>∃ (n:Nat) (b:Buf),i = n∧n ≤ 8∧KK.cleans k ((Tlb.lines k.tlbs[c]).drop n) b = KK.cleans k (Tlb.lines k.tlbs[c]) k.tlbs[c]∧aE (vL r (Tlb.lines k.tlbs[c])::lY z { k with tlbs:=k.tlbs.set c b }) h) (fun (i:Int) _=>8 - i.toNat) ⟨0,k.tlbs[c],rfl,Nat.zero_le _,rfl,by rw [same]; exact s4⟩ ?_
  rintro i h ⟨n,b,rfl,hn,he,s5⟩
  unfold na
  refine aV (fun d=>?_) (fun d=>?_)
  · have hlt:n < (Tlb.lines k.tlbs[c]).length:=by rw [hrl] at d; simpa using d
    have hw:IntKind.i64.wrap ((n:Int) + 1) = ((n + 1:Nat):Int):=by rw [bR (by omega) (by omega)]; rfl
    rw [cleans_drop k _ n hlt] at he
    refine du s5 (j:=0) rfl (by omega) (by omega) fun q2 hq2=>?_
    refine ef (j:=0) (i:=n) (k:=0) (Tlb.lines k.tlbs[c])[n] line_len s5 rfl hq2 (by simp) (aD hlt) (by simp) ?_
    have hcb:c < (k.tlbs.set c b).length:=by simpa using hct
    have hgb:(k.tlbs.set c b)[c] = b:=by simp
    have j1:∀ (o:Bool × Pte) (h:Hp),((decide ((Tlb.lines k.tlbs[c])[n].fEnv ≥ 0)) && (((!o.1) || (o.2.fFrame != (Tlb.lines k.tlbs[c])[n].fFrame)) || (!(be (Tlb.lines k.tlbs[c])[n].fRights o.2.fRights)))) = KK.stale k (Tlb.lines k.tlbs[c])[n]→aE (vL r (Tlb.lines k.tlbs[c])::lY z { k with tlbs:=k.tlbs.set c b }) h →
        hZ c (z.b,0) (fun s' h'=>(∃ (n:Nat) (b:Buf),s' = n∧n ≤ 8∧KK.cleans k ((Tlb.lines k.tlbs[c]).drop n) b = KK.cleans k (Tlb.lines k.tlbs[c]) k.tlbs[c]∧aE (vL r (Tlb.lines k.tlbs[c])::lY z { k with tlbs:=k.tlbs.set c b }) h')∧8 - s'.toNat < 8 - (n:Int).toNat) n (Tlb.lines k.tlbs[c])[n] o h:=by
      intro o h hs s6
      unfold hZ
      rw [hs,hw]
      refine aV (fun d2=>?_) (fun d2=>?_)
      · rw [if_pos d2] at he
        refine bi z.ts s6 (i:=1) rfl rfl rfl ?_
        refine du s6 (j:=3) rfl (by omega) (by omega) fun q3 hq3=>?_
        refine ef (j:=3) (i:=c) (k:=0) z.tp[c] gJ s6 rfl hq3 (by simp) (aD hcp) (by simp) ?_
        have s7:=jd (aD hcp) (aD hcb) (ba [4] s6 rfl)
        rw [hgb] at s7
        refine bH (sp_tlb_Flush z.tp[c] b _ _) (i:=0) rfl s7 fun r h8 hr s8=>?_
        have s9:=xd (aD hcp) hcb (by simpa using zo.t) s8
        rw [List.set_set] at s9
        exact ⟨⟨n + 1,_,rfl,by omega,he,ba [1,1,1,1] s9 rfl⟩,by simp; omega⟩
      · rw [if_neg (by rw [d2]; exact Bool.false_ne_true)] at he
        exact ⟨⟨n + 1,b,rfl,by omega,he,s6⟩,by simp; omega⟩
    refine aV (fun d2=>?_) (fun d2=>?_)
    · have d2':0 ≤ (Tlb.lines k.tlbs[c])[n].fEnv:=by simpa using d2
      refine cG [1,1,5,5] (sp_kern_seen z.b z.pp (kcl z k) k.p z.cs z.cp k.calls (Tlb.lines k.tlbs[c])[n].fEnv (Tlb.lines k.tlbs[c])[n].fPage rfl rfl zo.c l5) s5 rfl fun r h6 s6=>?_
      obtain ⟨rfl,s7⟩:=bn.1 s6
      refine j1 _ _ ?_ (ba [4,0,0,2,2,2,2,0,0] s7 rfl)
      unfold KK.stale KK.seen
      rfl
    · have d2':¬ 0 ≤ (Tlb.lines k.tlbs[c])[n].fEnv:=by simpa using d2
      refine j1 _ _ ?_ s5
      unfold KK.stale
      rw [d2,Bool.false_and,Bool.false_and]
  · have:n = 8:=by rw [hrl] at d; simp at d; omega
    subst this
    rw [← hll,List.drop_length] at he
    have e1:KK.clean k c = { k with tlbs:=k.tlbs.set c b }:=by
      unfold KK.clean
      rw [hbuf,← he,Int.toNat_natCast]; rfl
    rw [e1]
    exact bX (l:=[vL r (Tlb.lines k.tlbs[c])]) s5
theorem sp_kern_ends (z:KZ) (k:KK) (c:Nat) (x:KC) (a:eW) (l:Line) (hc:c < k.calls.length) (hx:k.calls[c]? = some (some x)) (zo:KZ.Ok z k) (ok:KK.Ok k) :
    Sp Tryz.prog lL [pv (some (z.b,0)),.int .i64 c,.agg a.C.toArray,.agg l.C.toArray] R_ (lY z k) (fun _=>aE [co (some (z.b,0)) (KK.ends k c x a l)]):=by
  intro h s0
  have hcp:c < z.cp.length:=by rw [zo.c]; exact hc
  have hcs:=(cd (j:=6) s0 rfl).1
  have hes:=(cd (j:=8) s0 rfl).1
  obtain ⟨xb,hp,_⟩:=vB (j:=7) s0 rfl (aD hcp) hx
  have hcpx:z.cp[c]? = some (some (xb,0)):=by rw [aD hcp,hp]
  have hcok:=ok.cs x (List.mem_of_getElem? hx)
  obtain ⟨i,hi⟩:=Int.eq_ofNat_of_zero_le hcok.1
  have hil:i < k.events.length:=by omega
  refine sim_kern_Kern_ends _ _ _ _ ?_
  unfold tO
  refine cu (bi z.es s0 (i:=0) rfl rfl rfl ?_)
  refine bi z.cs s0 (i:=0) rfl rfl rfl ?_
  refine du s0 (j:=6) rfl (by omega) (by omega) fun q hq=>?_
  refine ef (j:=6) (i:=c) (k:=0) z.cp[c] gJ s0 rfl hq (by simp) (aD hcp) (by simp) ?_
  rw [hp]
  refine cu (ld_c1 (j:=7) x.fat s0 rfl hcpx hx rfl rfl ?_)
  rw [hi]
  refine du s0 (j:=8) rfl (by omega) (by omega) fun q2 hq2=>?_
  refine bi k.now s0 (i:=0) rfl rfl rfl ?_
  refine bi k.now s0 (i:=0) rfl rfl rfl ?_
  refine st_v (j:=8) (i:=i) (k:=8) { k.events[i] with fEffect:=k.now } mi s0 rfl hq2 rfl (aD hil) (by simp) rfl fun h1 s1=>?_
  have e1:(k.events.set i { k.events[i] with fEffect:=k.now })[i]? = some { k.events[i] with fEffect:=k.now }:=by simp [hil]
  refine st_v (j:=8) (i:=i) (k:=9) { k.events[i] with fEffect:=k.now,fEnd:=k.now } mi s1 rfl hq2 rfl e1 (by simp) rfl fun h2 s2=>?_
  simp only [List.set_set] at s2
  have e2:(k.events.set i { k.events[i] with fEffect:=k.now,fEnd:=k.now })[i]? = some { k.events[i] with fEffect:=k.now,fEnd:=k.now }:=by simp [hil]
  refine st_v (j:=8) (i:=i) (k:=10) { k.events[i] with fEffect:=k.now,fEnd:=k.now,fAnswer:=a } mi s2 rfl hq2 rfl e2 (by simp [ab.C]) rfl fun h3 s3=>?_
  simp only [List.set_set] at s3
  have e3:(k.events.set i { k.events[i] with fEffect:=k.now,fEnd:=k.now,fAnswer:=a })[i]? = some { k.events[i] with fEffect:=k.now,fEnd:=k.now,fAnswer:=a }:=by simp [hil]
  refine st_v (j:=8) (i:=i) (k:=12) (KK.evend k.events[i] k.now a l) mi s3 rfl hq2 rfl e3 (by simp [ak.C]) rfl fun h4 s4=>?_
  simp only [List.set_set] at s4
  refine bi z.cs s4 (i:=0) rfl rfl rfl ?_
  refine du s4 (j:=6) rfl (by omega) (by omega) fun q5 hq5=>?_
  refine st_v (j:=6) (i:=c) (k:=0) (none:Ptr) gJ s4 rfl hq5 (by simp) (aD hcp) (by simp) rfl fun h5 s5=>?_
  have s7:=all_but hcpx hx (ba [7] s5 rfl)
  have s8:=star_cons (A:=il none none) (fun _=>rfl) s7
  have s9:=all_in2 (A:=il) hc zo.c s8
  have hge:k.events.getD i (KK.ev0 0 0 ⟨0,0,0,0,0⟩ 0) = k.events[i]:=by simp [hil]
  have e4:KK.ends k c x a l = { k with events:=k.events.set i (KK.evend k.events[i] k.now a l),calls:=k.calls.set c none }:=by
    unfold KK.ends; rw [hi,Int.toNat_natCast,Int.toNat_natCast,hge]
  have ok2:=kok_ends ok c x a l
  rw [e4] at ok2 ⊢
  refine oF (z:={ z with cp:=z.cp.set c none }) ⟨zo.t,by simpa using zo.c⟩ ok2 (ba [1,1,1,1,1,1,1,0,0] s9 rfl)
end Go.Proofs.YtmggcfijlpldpaaGreatDoor
namespace Go.Proofs.YtmggcfijlpldpaaGreatDoor
open Go Mb
theorem five {x:KC}:∀ (i:Nat) (v:Value),(ah.C x.fc)[i]? = some v→x.C[2 + i]? = some v:=by
  intro j v hv
  have:j < 5:=(List.getElem?_eq_some_iff.1 hv).1
  match j,this with
  | 0,_=>exact hv
  | 1,_=>exact hv
  | 2,_=>exact hv
  | 3,_=>exact hv
  | 4,_=>exact hv
theorem sp_kern_access (z:KZ) (k:KK) (c xb:Nat) (x:KC) (hc:c < k.calls.length) (hx:k.calls[c]? = some (some x)) (hp:z.cp[c]? = some (some (xb,0))) (zo:KZ.Ok z k) (ok:KK.Ok k) :
    Sp Tryz.prog mV [pv (some (z.b,0)),.int .i64 c,pv (some (xb,0))] eC (lY z k) (fun r=>pa_ (r = (KK.access k c x).1) (lY z (KK.access k c x).2)):=by
  intro h s0
  obtain ⟨l1,l2,l3,l4,l5⟩:=kk_len ok
  have hct:c < k.tlbs.length:=by omega
  have hcp:c < z.tp.length:=by rw [zo.t]; exact hct
  have hbuf:KK.buf k c = k.tlbs[c]:=buf_nat hct
  refine sim_kern_Kern_access _ _ _ ?_
  unfold ro
  refine cu (cu ?_)
  refine ld_c (j:=7) x.fc s0 rfl hp hx five ?_
  refine bi k.p.s.fEnvs s0 (i:=0) rfl rfl rfl ?_
  refine tt (iS x.fc _) s0 fun r h1 hr s1=>?_
  subst hr
  refine aV (fun d=>?_) (fun d=>?_)
  · have e1:KK.access k c x = ((⟨Word.check x.fc k.p.s.fEnvs,0⟩,mh),k):=if_pos (by simpa using d)
    rw [e1]; exact aU rfl s1
  · have d':¬ Word.check x.fc k.p.s.fEnvs ≠ 0:=by simpa using d
    refine ld_c1 (j:=7) x.fc.e1 s1 rfl hp hx rfl rfl ?_
    refine lT nT s1 fun r37 h2 s2=>?_
    refine ld_c1 (j:=8) x.fenv s2 rfl hp hx rfl rfl ?_
    refine cG [1,1,5,5] (sp_kern_seen z.b z.pp (kcl z k) k.p z.cs z.cp k.calls x.fenv (IntKind.i64.wrap x.fc.e1) rfl rfl zo.c l5) s2 rfl fun r h3 s3=>?_
    obtain ⟨hr,s4⟩:=bn.1 s3
    have hr':r = KK.seen k x.fenv (IntKind.i64.wrap x.fc.e1):=hr
    subst hr'
    have s5:aE (cM r37 (List.replicate 8 ee)::lY z k) h3:=ba [4,0,0,2,2,2,2,0,0] s4 rfl
    have j1:∀ h,aE (cM r37 (KK.tabFor k x.fenv (IntKind.i64.wrap x.fc.e1))::lY z k) h→gB c (fun r=>pa_ (r = (KK.access k c x).1) (lY z (KK.access k c x).2)) (xb,0) (z.b,0) x.fc.e1 r37 () h:=by
      intro h s6
      have hts:=(cd (j:=3) s6 rfl).1
      unfold gB
      refine ld_c1 (j:=8) x.fc.e0 s6 rfl hp hx rfl rfl ?_
      refine bi z.ts s6 (i:=1) rfl rfl rfl ?_
      refine du s6 (j:=3) rfl (by omega) (by omega) fun q hq=>?_
      refine ef (j:=3) (i:=c) (k:=0) z.tp[c] gJ s6 rfl hq (by simp) (aD hcp) (by simp) ?_
      refine ld_c1 (j:=8) x.fenv s6 rfl hp hx rfl rfl ?_
      have s7:=jd (aD hcp) (aD hct) (ba [4] s6 rfl)
      refine cG [0,1] (sp_user_Walk z.tp[c] r37 k.tlbs[c] (KK.tabFor k x.fenv (IntKind.i64.wrap x.fc.e1)) x.fenv (IntKind.i64.wrap x.fc.e1) (IntKind.i64.wrap x.fc.e0)) s7 rfl fun r h8 s8=>?_
      obtain ⟨hr,s9⟩:=bn.1 s8
      have hr':r = (KK.accWalk k c x).1:=by rw [hr]; unfold KK.accWalk; rw [hbuf]
      have hw:(User.walk k.tlbs[c] (KK.tabFor k x.fenv (IntKind.i64.wrap x.fc.e1)) x.fenv (IntKind.i64.wrap x.fc.e1) (IntKind.i64.wrap x.fc.e0)).2 = (KK.accWalk k c x).2:=by unfold KK.accWalk; rw [hbuf]
      rw [hw] at s9
      subst hr'
      have s10:=xd (aD hcp) hct zo.t (ba [0,1] s9 rfl)
      refine aV (fun d2=>?_) (fun d2=>?_)
      · have e1:KK.access k c x = ((⟨7,0⟩,mh),{ k with tlbs:=k.tlbs.set c (KK.accWalk k c x).2 }):=by
          unfold KK.access; rw [if_neg d',if_pos (by simpa using d2),Int.toNat_natCast]
        rw [e1]
        exact aU rfl (bX (l:=[cM r37 _]) (ba [1,1,1,1,0] s10 rfl))
      · have e1:KK.access k c x = (((PK.touch k.p (KK.accWalk k c x).1.1.fFrame x.fc).1.1,(KK.accWalk k c x).1.1),{ k with tlbs:=k.tlbs.set c (KK.accWalk k c x).2,p:=(PK.touch k.p (KK.accWalk k c x).1.1.fFrame x.fc).2 }):=by
          unfold KK.access; rw [if_neg d',if_neg (by simpa using d2),Int.toNat_natCast]
        rw [e1]
        refine bi z.pp s10 (i:=2) rfl rfl rfl ?_
        refine ld_c (j:=8) x.fc s10 rfl hp hx five ?_
        refine bH (nU z.pp k.p _ x.fc) (i:=3) rfl s10 fun r h11 hr s11=>?_
        subst hr
        have hs:=touch_s k.p (KK.accWalk k c x).1.1.fFrame x.fc
        refine aU rfl ?_
        have s12:=bX (l:=[cM r37 _]) (ba [1,1,1,1,0] s11 rfl)
        have ek:kcl z { k with tlbs:=k.tlbs.set c (KK.accWalk k c x).2,p:=(PK.touch k.p (KK.accWalk k c x).1.1.fFrame x.fc).2 } = kcl z k:=by
          show [pv z.pp,Value.int .i64 (PK.touch k.p (KK.accWalk k c x).1.1.fFrame x.fc).2.s.fEnvs,_,_,_,_,_,_] = _
          rw [hs]
        show aE (blk z.b cc (kcl z _)::_) _
        rw [ek]
        exact s12
    refine aV (fun d2=>?_) (fun d2=>?_)
    · refine bH (jT r37 _ (IntKind.i64.wrap x.fc.e1) (KK.seen k x.fenv (IntKind.i64.wrap x.fc.e1)).1) (i:=0) rfl s5 fun r h6 hr s6=>j1 _ ?_
      have e1:KK.tabFor k x.fenv (IntKind.i64.wrap x.fc.e1) = (Table.insert (List.replicate 8 ee) (IntKind.i64.wrap x.fc.e1) (KK.seen k x.fenv (IntKind.i64.wrap x.fc.e1)).1).2:=if_pos d2
      rw [e1]; exact s6
    · have e1:KK.tabFor k x.fenv (IntKind.i64.wrap x.fc.e1) = List.replicate 8 ee:=if_neg (by rw [d2]; exact Bool.false_ne_true)
      exact j1 _ (by rw [e1]; exact s5)
theorem access_calls (k:KK) (c:Int) (x:KC):(KK.access k c x).2.calls = k.calls:=by
  unfold KK.access
  repeat' split
  all_goals rfl
theorem access_tlen (k:KK) (c:Int) (x:KC):(KK.access k c x).2.tlbs.length = k.tlbs.length:=by
  unfold KK.access
  repeat' split
  all_goals simp
theorem kz_tlbs {z:KZ} {k k':KK} (zo:KZ.Ok z k) (h1:k'.tlbs.length = k.tlbs.length) (h2:k'.calls.length = k.calls.length):KZ.Ok z k':=⟨by rw [h1]; exact zo.t,by rw [h2]; exact zo.c⟩
theorem sp_kern_Step (x:Ptr) (k:KK) (c:Int) (hn:k.now < 2 ^ 37):Sp Tryz.prog lM [pv x,.int .i64 c] az [co x k] (fun r=>pa_ (r = (KK.step k c).1) [co x (KK.step k c).2]):=by
  intro h s0
  refine sim_kern_Kern_Step _ _ ?_
  unfold tP
  refine bH (nW x k c) (i:=0) rfl s0 fun r h1 hr s1=>?_
  subst hr
  refine aV (fun d=>?_) (fun d=>?_)
  · have e1:KK.step k c = (false,k):=if_pos (by simpa using d)
    rw [e1]; exact aU rfl s1
  · have d':KK.busy k c = true:=by simpa using d
    obtain ⟨hi,y,hy⟩:=busy_is d'
    have e1:KK.step k c = (true,KK.work (KK.tick k) c y):=by unfold KK.step; rw [if_neg (by simp [d']),hy]
    rw [e1]
    obtain ⟨z,rfl,zo,ok,st⟩:=rO s1
    have okt:=kok_tick ok (by omega)
    obtain ⟨n,rfl,hnc⟩:=is_nat hi
    obtain ⟨l1,l2,l3,l4,l5⟩:=kk_len ok
    have hnp:n < z.cp.length:=by rw [zo.c]; exact hnc
    have hcs:=(cd (j:=6) st rfl).1
    have hxn:k.calls[n]? = some (some y):=by rw [aD hnc,← call_nat hnc,hy]
    have hep:=ok.epn
    have hwn:=wrapN ok.n0 (show k.now < 2 ^ 40 by omega)
    refine cu (bi k.now st (i:=0) rfl rfl rfl ?_)
    refine us (i:=0) st rfl (Nat.le_of_ble_eq_true rfl) fun h2 s2=>?_
    have s3:aE (lY z (KK.tick k)) h2:=s2
    have zot:KZ.Ok z (KK.tick k):=⟨zo.t,zo.c⟩
    have hxt:(KK.tick k).calls[n]? = some (some y):=hxn
    have hyt:KK.call (KK.tick k) n = some y:=hy
    have hit:KK.is (KK.tick k) n = true:=hi
    have hept:((KK.tick k).epochs.1.length:Int) + 1 ≤ (KK.tick k).now:=by show _ ≤ IntKind.i64.wrap (k.now + 1); rw [hwn]; simp only [KK.tick]; omega
    have hnt:(KK.tick k).now ≤ 2 ^ 37:=by show IntKind.i64.wrap (k.now + 1) ≤ _; rw [hwn]; omega
    have okw:=kok_work okt hept hyt hit
    have hnct:n < (KK.tick k).calls.length:=hnc
    generalize KK.tick k = kt at *
    obtain ⟨xb,hp,_⟩:=vB (j:=7) s3 rfl (aD hnp) hxt
    have hpx:z.cp[n]? = some (some (xb,0)):=by rw [aD hnp,hp]
    refine bi z.cs s3 (i:=0) rfl rfl rfl ?_
    refine du s3 (j:=6) rfl (by omega) (by omega) fun q hq=>?_
    refine ef (j:=6) (i:=n) (k:=0) z.cp[n] gJ s3 rfl hq (by simp) (aD hnp) (by simp) ?_
    rw [hp]
    refine cu (ld_c (j:=7) y.fc s3 rfl hpx hxt five ?_)
    refine aV (fun d2=>?_) (fun d2=>?_)
    · have ew:KK.work kt n y = KK.ends (KK.access kt n y).2 n y (KK.access kt n y).1.1 (KK.access kt n y).1.2:=if_pos d2
      rw [ew]
      have oka:=kok_access okt n y
      have hca:(KK.access kt n y).2.calls = kt.calls:=access_calls _ _ _
      have hta:(KK.access kt n y).2.tlbs.length = kt.tlbs.length:=access_tlen _ _ _
      refine cG [0,0,0,0,0,0,0,0,0] (sp_kern_access z kt n xb y hnct hxt hpx zot okt) s3 rfl fun r h4 s4=>?_
      obtain ⟨hr,s5⟩:=bn.1 s4
      subst hr
      refine cG [0,0,0,0,0,0,0,0,0] (sp_kern_ends z (KK.access kt n y).2 n y (KK.access kt n y).1.1 (KK.access kt n y).1.2 (by rw [hca]; exact hnct) (by rw [hca]; exact hxt) (kz_tlbs zot hta (by rw [hca])) oka) s5 rfl fun r h6 s6=>?_
      exact aU rfl (dx s6)
    · have d2':¬ dk (aC y.fc).1 = true:=by rw [d2]; exact Bool.false_ne_true
      have j2:∀ b:Bool,(y.ftold = false∧KK.takes kt.p y = true) = False→b = (y.ftold && !(Epochs.done kt.epochs y.fepoch))→∀ h,aE (lY z kt) h→iM n (fun r=>pa_ (r = true) [co (some (z.b,0)) (KK.work kt n y)]) (z.b,0) (xb,0) b h:=by
        intro b hno hb h s4
        have ew:KK.work kt n y = (if y.ftold = true∧Epochs.done kt.epochs y.fepoch = false then kt else if (PK.do_ kt.p y.fenv y.fc).1.2 = true then KK.ends { kt with p:=(PK.do_ kt.p y.fenv y.fc).2 } n y (PK.do_ kt.p y.fenv y.fc).1.1 mh else { kt with p:=(PK.do_ kt.p y.fenv y.fc).2 }):=by
          unfold KK.work
          rw [if_neg d2',if_neg (by rw [hno]; exact not_false)]
        rw [ew] at okw ⊢
        unfold iM
        refine aV (fun d4=>?_) (fun d4=>?_)
        · have d4':y.ftold = true∧Epochs.done kt.epochs y.fepoch = false:=by rw [hb] at d4; simpa using d4
          rw [if_pos d4']
          exact aU rfl (oF zot okt s4)
        · have d4':¬ (y.ftold = true∧Epochs.done kt.epochs y.fepoch = false):=by rw [hb] at d4; simpa using d4
          rw [if_neg d4'] at okw ⊢
          refine bi z.pp s4 (i:=0) rfl rfl rfl ?_
          refine ld_c1 (j:=7) y.fenv s4 rfl hpx hxt rfl rfl ?_
          refine ld_c (j:=7) y.fc s4 rfl hpx hxt five ?_
          refine bH (jA z.pp kt.p y.fenv y.fc) (i:=1) rfl s4 fun r h5 hr s5=>?_
          subst hr
          have hs:=do_s kt.p y.fenv y.fc
          have s6:aE (lY z { kt with p:=(PK.do_ kt.p y.fenv y.fc).2 }) h5:=by
            show aE (blk z.b cc [pv z.pp,Value.int .i64 (PK.do_ kt.p y.fenv y.fc).2.s.fEnvs,_,_,_,_,_,_]::_) _
            rw [hs]; exact s5
          have okp:=kok_p okt (ok_do okt.p y.fenv y.fc) hs
          refine aV (fun d5=>?_) (fun d5=>?_)
          · rw [if_pos d5]
            refine cG [0,0,0,0,0,0,0,0,0] (sp_kern_ends z { kt with p:=(PK.do_ kt.p y.fenv y.fc).2 } n y (PK.do_ kt.p y.fenv y.fc).1.1 mh hnct hxt ⟨zot.t,zot.c⟩ okp) s6 rfl fun r h7 s7=>?_
            exact aU rfl (dx s7)
          · rw [if_neg (by rw [d5]; exact Bool.false_ne_true)]
            exact aU rfl (oF (k:={ kt with p:=_ }) ⟨zot.t,zot.c⟩ okp s6)
      refine ld_c1 (j:=7) y.ftold s3 rfl hpx hxt rfl rfl ?_
      refine aV (fun d3=>?_) (fun d3=>?_)
      · have d3':y.ftold = false:=by simpa using d3
        obtain ⟨xb',hp',s4⟩:=call_out hpx hxt (ba [7] s3 rfl)
        cases hp'
        refine cG [2,0,1] (sp_kern_takes z.b xb z.pp (kcl z kt) kt.p y rfl rfl) s4 rfl fun r h5 s5=>?_
        obtain ⟨hr,s6⟩:=bn.1 s5
        subst hr
        unfold iN
        refine aV (fun d4=>?_) (fun d4=>?_)
        · have ew:KK.work kt n y = KK.send (KK.clean (KK.tell kt n y) n) n y:=by unfold KK.work; rw [if_neg d2',if_pos ⟨d3',d4⟩]
          rw [ew] at okw ⊢
          refine us (i:=1) s6 rfl (Nat.le_of_ble_eq_true rfl) fun h7 s7=>?_
          have s8:=call_in (y:={ y with ftold:=true }) hpx hnct zot.c (ba [1,2] s7 rfl)
          have s9:aE (lY z (KK.tell kt n y)) h7:=ba [1,1,1,1,1,1,1,0,0] s8 rfl
          have okl:KK.Ok (KK.tell kt n y):=kok_call okt n hyt (y:={ y with ftold:=true }) rfl rfl
          have hll:n < (KK.tell kt n y).calls.length:=by simpa [KK.tell] using hnct
          have zol:KZ.Ok z (KK.tell kt n y):=⟨zot.t,by simpa [KK.tell] using zot.c⟩
          refine cG [0,0,0,0,0,0,0,0,0] (sp_kern_clean z (KK.tell kt n y) n hll zol okl) s9 rfl fun r h10 s10=>?_
          have s11:=dx s10
          have hcc:(KK.clean (KK.tell kt n y) n).calls[n]? = some (some { y with ftold:=true }):=by simp [KK.clean,KK.tell,hnct]
          have okc:=kok_clean okl n
          have zoc:KZ.Ok z (KK.clean (KK.tell kt n y) n):=⟨by simpa [KK.clean] using zol.t,zol.c⟩
          have hepc:((KK.clean (KK.tell kt n y) n).epochs.1.length:Int) + 1 ≤ kt.now:=hept
          have hbx:=okc.bx
          have htl:(KK.clean (KK.tell kt n y) n).calls = kt.calls.set n (some { y with ftold:=true }):=rfl
          have hnow:(KK.clean (KK.tell kt n y) n).now = kt.now:=rfl
          generalize KK.clean (KK.tell kt n y) n = kc at *
          have hncc:n < kc.calls.length:=by rw [htl]; simpa using hnct
          refine bi z.pe s11 (i:=0) rfl rfl rfl ?_
          refine bH (sp_epoch_Begin z.pe kc.epochs n (by omega)) (i:=5) rfl s11 fun r h12 hr s12=>?_
          subst hr
          obtain ⟨xb',hp',s13⟩:=call_out hpx hcc (ba [7] s12 rfl)
          cases hp'
          refine us (i:=0) s13 rfl (Nat.le_of_ble_eq_true rfl) fun h14 s14=>?_
          have s15:=call_in (y:={ y with ftold:=true,fepoch:=(Epochs.begin_ kc.epochs n).1.1 }) hpx hncc zoc.c s14
          refine bi z.pm s15 (i:=1) rfl rfl rfl ?_
          have hxe:(kc.calls.set n (some { y with ftold:=true,fepoch:=(Epochs.begin_ kc.epochs n).1.1 }))[n]? = some (some { y with ftold:=true,fepoch:=(Epochs.begin_ kc.epochs n).1.1 }):=by simp [hncc]
          refine ld_c1 (j:=0) (Epochs.begin_ kc.epochs n).1.1 s15 rfl hpx hxe rfl rfl ?_
          have he:Epochs.is kc.epochs n = true:=by
            unfold Epochs.is
            have:=okc.el
            have:=okc.cl
            exact decide_eq_true (by omega)
          have eb:(Epochs.begin_ kc.epochs n).1.1 = (kc.epochs.1.length:Int) + 1:=by unfold Epochs.begin_; rw [if_pos he]
          refine bH (sp_mail_All z.pm kc.boxes n (Epochs.begin_ kc.epochs n).1.1 ?_) (i:=5) rfl s15 fun r h16 hr s16=>?_
          · intro l hl
            rw [eb]
            exact box_fit (hbx l hl) (by omega)
          · refine aU rfl (oF (k:=KK.send kc n y) ⟨zoc.t,by simpa [KK.send] using zoc.c⟩ okw (ba [1,1,1,1,1,1,1,0,0] s16 rfl))
        · have hno:(y.ftold = false∧KK.takes kt.p y = true) = False:=by simp [d4]
          have s8:=call_in (y:=y) hpx hnct zot.c (ba [1,2] s6 rfl)
          rw [iy hxt] at s8
          have s9:aE (lY z kt) h5:=ba [1,1,1,1,1,1,1,0,0] s8 rfl
          refine ld_c1 (j:=7) y.ftold s9 rfl hpx hxt rfl rfl ?_
          refine cZ d3' ?_
          exact j2 false hno (by rw [d3']; rfl) _ s9
      · have d3':y.ftold = true:=by simpa using d3
        unfold iN
        refine cZ rfl ?_
        refine ld_c1 (j:=7) y.ftold s3 rfl hpx hxt rfl rfl ?_
        refine dc d3' ?_
        refine bi z.pe s3 (i:=0) rfl rfl rfl ?_
        refine ld_c1 (j:=7) y.fepoch s3 rfl hpx hxt rfl rfl ?_
        refine bH (sp_epoch_Done z.pe kt.epochs y.fepoch) (i:=5) rfl s3 fun r h4 hr s4=>?_
        subst hr
        exact j2 _ (by simp [d3']) (by rw [d3']; rfl) _ s4
theorem sp_kern_Post (x:Ptr) (k:KK) (c:Int) (hn:k.now < 2 ^ 37):Sp Tryz.prog pM [pv x,.int .i64 c] az [co x k] (fun r=>pa_ (r = (KK.post k c).1) [co x (KK.post k c).2]):=by
  intro h s0
  refine sim_kern_Kern_Post _ _ ?_
  unfold tQ
  refine bH (vZ x k c) (i:=0) rfl s0 fun r h1 hr s1=>?_
  subst hr
  refine aV (fun d=>?_) (fun d=>?_)
  · have e1:KK.post k c = (false,k):=if_pos (by simpa using d)
    rw [e1]; exact aU rfl s1
  · have d':KK.is k c = true:=by simpa using d
    obtain ⟨z,rfl,zo,ok,st⟩:=rO s1
    have okp:=kok_post ok (by omega) c
    obtain ⟨n,rfl,hnc⟩:=is_nat d'
    refine cu (bi z.pm st (i:=0) rfl rfl rfl ?_)
    refine bH (sp_mail_Take z.pm k.boxes n) (i:=4) rfl st fun r h2 hr s2=>?_
    subst hr
    refine aV (fun d2=>?_) (fun d2=>?_)
    · have d2':(Mail.take k.boxes n).1.2 = false:=by simpa using d2
      have e1:KK.post k n = (false,k):=by unfold KK.post; rw [if_neg (by simp [d']),if_pos d2']
      have e2:(Mail.take k.boxes n).2 = k.boxes:=by
        unfold Mail.take at d2' ⊢; split
        · rfl
        · rename_i hh; rw [if_neg hh] at d2'; cases d2'
      rw [e1]
      rw [e2] at s2
      exact aU rfl (oF zo ok s2)
    · have e1:KK.post k n = (true,{ KK.clean { KK.tick k with boxes:=(Mail.take k.boxes n).2 } n with epochs:=(Epochs.ack k.epochs n (Mail.take k.boxes n).1.1).2 }):=by
        unfold KK.post; rw [if_neg (by simp [d']),if_neg (by simpa using d2)]
      rw [e1] at okp ⊢
      refine bi k.now s2 (i:=0) rfl rfl rfl ?_
      refine us (i:=0) s2 rfl (Nat.le_of_ble_eq_true rfl) fun h3 s3=>?_
      have s4:aE (lY z { KK.tick k with boxes:=(Mail.take k.boxes n).2 }) h3:=s3
      have okt:=kok_tick ok (by omega)
      have hbl:(Mail.take k.boxes n).2.length = k.boxes.length:=by unfold Mail.take; split <;> simp
      have hb:∀ l ∈ (Mail.take k.boxes n).2,lZ k.epochs.1.length l:=by
        unfold Mail.take; split
        · exact ok.bx
        · exact boxes_set ok.bx _ (box_drop (box_of ok.bx n))
      have ok2:KK.Ok { KK.tick k with boxes:=(Mail.take k.boxes n).2 }:=⟨okt.p,okt.tl,by simp only [hbl]; exact ok.bl,okt.el,okt.cl,okt.cs,okt.n0,okt.evn,okt.epn,hb⟩
      refine cG [0,0,0,0,0,0,0,0,0] (sp_kern_clean z { KK.tick k with boxes:=(Mail.take k.boxes n).2 } n hnc ⟨zo.t,zo.c⟩ ok2) s4 rfl fun r h5 s5=>?_
      have s6:=dx s5
      refine bi z.pe s6 (i:=0) rfl rfl rfl ?_
      refine bH (sp_epoch_Ack z.pe k.epochs n _) (i:=5) rfl s6 fun r h7 hr s7=>?_
      refine aU rfl (oF (z:=z) ⟨?_,zo.c⟩ okp s7)
      simpa [KK.clean,KK.tick] using zo.t
theorem sp_kern_Mail (x:Ptr) (k:KK) (c:Int):Sp Tryz.prog pN [pv x,.int .i64 c] eo [co x k] (fun r=>pa_ (r = KK.mail k c) [co x k]):=by
  intro h s0
  refine sim_kern_Kern_Mail _ _ ?_
  unfold tR
  refine bH (vZ x k c) (i:=0) rfl s0 fun r h1 hr s1=>?_
  subst hr
  refine aV (fun d=>?_) (fun d=>?_)
  · exact aU (by unfold KK.mail; rw [if_neg (by simpa using d)]) s1
  · obtain ⟨z,rfl,zo,ok,st⟩:=rO s1
    refine cu (bi z.pm st (i:=0) rfl rfl rfl ?_)
    refine bH (sp_mail_Waits z.pm k.boxes c) (i:=4) rfl st fun r h2 hr s2=>?_
    exact aU (by unfold KK.mail; rw [if_pos (by simpa using d),hr]) (oF zo ok s2)
theorem sp_slices_CloneE (s:Sl) (xs:List bQ) (hb:xs.length < 2 ^ 38):Sp Tryz.prog eK [sv s] dN [vE s xs] (fun r=>aE [vE r xs,vE s xs]):=by
  intro h s0
  refine ma _ ?_
  unfold gN
  refine aV (fun k=>?_) (fun k=>?_)
  · have hn:xs = []:=by
      obtain ⟨_,⟨e1,e2,e3⟩,_⟩:=dR (i:=0) rfl s0
      rcases e3 with e3 | ⟨b,pre,rest,U,fr,h4,_⟩
      · exact List.eq_nil_of_length_eq_zero (by omega)
      · rw [h4] at k; cases k
    subst hn
    exact fC s0
  · refine fh (τ:=bQ) [] (val:=fun x=>.agg x.C.toArray) (enc:=ar.C) qc mi (fun _=>rfl) s0 rfl rfl (by simp) fun y h' s1=>?_
    refine tk (τ:=bQ) (i:=0) (j:=1) (enc:=ar.C) (xs:=[]) (ys:=xs) qc qc.sl mi ev_one s1 rfl rfl (by omega) (by simp; omega) (by simp; omega) fun v h2 s2=>?_
    exact s2
theorem nV (x:Ptr) (k:KK) (hb:k.now < 2 ^ 38):Sp Tryz.prog eL [pv x] dN [co x k] (fun r=>aE [vE r k.events,co x k]):=by
  intro h s0
  obtain ⟨z,rfl,zo,ok,st⟩:=rO s0
  have:=ok.evn
  refine sim_kern_Kern_Events _ ?_
  unfold rp
  refine cZ rfl (cu (bi z.es st (i:=0) rfl rfl rfl ?_))
  refine vz (sp_slices_CloneE z.es k.events (by omega)) (i:=8) rfl st fun r h1 s1=>?_
  exact star_tail s1 fun h2 s2=>oF zo ok s2
theorem sp_kern_Cap (x:Ptr) (k:KK) (e s:Int):Sp Tryz.prog mL [pv x,.int .i64 e,.int .i64 s] bZ [co x k] (fun r=>pa_ (r = Caps.at_ k.p.caps e s) [co x k]):=by
  intro h s0
  obtain ⟨z,rfl,zo,ok,st⟩:=rO s0
  refine sim_kern_Kern_Cap _ _ _ ?_
  unfold uX
  refine cZ rfl (cu (bi z.pp st (i:=0) rfl rfl rfl ?_))
  exact bH (rF z.pp k.p e s) (i:=1) rfl st fun r h1 hr s1=>aU hr (oF zo ok s1)
end Go.Proofs.YtmggcfijlpldpaaGreatDoor
namespace Go.Proofs.YtmggcfijlpldpaaGreatDoor
open Go Mb
set_option linter.unusedVariables false
def eQ (a0:Ptr) (Rec7:(Bool × Int)→Hp→Prop) (s6:Bool × Int) (s11:Unit):Hp→Prop:=cl Tryz.prog fJ [(pv a0),(.int .i64 s6.2)] az fun r37=>cl Tryz.prog fJ [(pv a0),(.int .i64 s6.2)] az fun r43=>br r43 ( cl Tryz.prog lM [(pv a0),(.int .i64 s6.2)] az fun r46=>Rec7 ((r37 || s6.1),(IntKind.i64.wrap (s6.2 + 1)))) ( Rec7 ((r37 || s6.1),(IntKind.i64.wrap (s6.2 + 1))))
def gj (a0:Ptr) (Rec7:(Bool × Int)→Hp→Prop) (s6:Bool × Int) (Rec20:Int→Hp→Prop) (s19:Int):Hp→Prop:=br (decide (s19 < 5000)) ( cl Tryz.prog pN [(pv a0),(.int .i64 s6.2)] eo fun r27=>br (decide (r27 > 0)) ( cl Tryz.prog pM [(pv a0),(.int .i64 s6.2)] az fun r34=>Rec20 (IntKind.i64.wrap (s19 + 1))) ( eQ a0 Rec7 s6 ())) ( eQ a0 Rec7 s6 ())
def gl (a0:Ptr) (a1:Int) (K:Bool→Hp→Prop) (Rec2:Int→Hp→Prop) (s1:Int) (Rec7:(Bool × Int)→Hp→Prop) (s6:Bool × Int):Hp→Prop:=br (decide (s6.2 < a1)) ( Lp (gj a0 Rec7 s6) 0) ( br (!s6.1) ( K true) ( Rec2 (IntKind.i64.wrap (s1 + 1))))
def gi (a0:Ptr) (a1:Int) (K:Bool→Hp→Prop) (Rec34:Int→Hp→Prop) (s33:Int):Hp→Prop:=br (decide (s33 < a1)) ( cl Tryz.prog fJ [(pv a0),(.int .i64 s33)] az fun r56=>br r56 ( K false) ( Rec34 (IntKind.i64.wrap (s33 + 1)))) ( K true)
def jp (a0:Ptr) (a1:Int) (a2:Int) (K:Bool→Hp→Prop) (Rec2:Int→Hp→Prop) (s1:Int):Hp→Prop:=br (decide (s1 < a2)) ( Lp (gl a0 a1 K Rec2 s1) (false,0)) ( Lp (gi a0 a1 K) 0)
def nt (a0:Ptr) (a1:Int) (a2:Int) (K:Bool→Hp→Prop):Hp→Prop:=Lp (jp a0 a1 a2 K) 0
theorem uy (a0:Ptr) (a1:Int) (a2:Int) {K:Bool→Hp→Prop} {h:Hp} (H:nt a0 a1 a2 K h):Ct Tryz.prog fd #[(pv a0),(.int .i64 a1),(.int .i64 a2)] h fun v h'=>∃ r,v = az r∧K r h':=aw [(pv a0),(.int .i64 a1),(.int .i64 a2)] Tryz.func24 c c c fun _=>M<|O c<|aj<|M<|O c<|ax<|bB (step:=jp a0 a1 a2 K) (fun s1=>[(0,(pv a0)),(1,(.int .i64 a1)),(2,(.int .i64 a2)),(7,(.int .i64 s1))]) (fun s1=>[]) H (.cons c<|.cons c<|.cons c<|.cons c<|.nil _) .slnil fun Rec2 s1 _ H3=>aj<|M<|J c<|J c<|p (cm c c)<|ac<|av c H3 (fun k4 H5=>am<|aj<|ax<|M<|O c<|aj<|M<|O c<|ax<|bB (step:=gl a0 a1 K Rec2 s1) (fun s6=>[(0,(pv a0)),(1,(.int .i64 a1)),(2,(.int .i64 a2)),(7,(.int .i64 s1)),(8,(.bool s6.1)),(9,(.int .i64 s6.2))]) (fun s6=>[]) H5 (.cons c<|.cons c<|.cons c<|.cons c<|.cons c<|.cons c<|.nil _) .slnil fun Rec7 s6 _ H8=>aj<|M<|J c<|J c<|p (cm c c)<|ac<|av c H8 (fun k9 H10=>am<|aj<|ax<|dX (eQ a0 Rec7 s6) (fun s11=>[(0,(pv a0)),(1,(.int .i64 a1)),(2,(.int .i64 a2)),(7,(.int .i64 s1)),(8,(.bool s6.1)),(9,(.int .i64 s6.2))]) (fun s11=>[]) (M<|O c<|ax<|bB (step:=gj a0 Rec7 s6) (fun s19=>[(0,(pv a0)),(1,(.int .i64 a1)),(2,(.int .i64 a2)),(7,(.int .i64 s1)),(8,(.bool s6.1)),(9,(.int .i64 s6.2)),(10,(.int .i64 s19))]) (fun s19=>[]) H10 (.cons c<|.cons c<|.cons c<|.cons c<|.cons c<|.cons c<|.cons c<|.nil _) .slnil fun Rec20 s19 _ H21=>aj<|M<|J c<|p (cm c c)<|J c<|V c c (ay _) (fun g22=>wv<|ae c)<|V c c (ay _) (fun g23=>wv<|ae c)<|bP H21 (fun k25 H26=>G (Z k25)<|fT H26 en_63 (aS (aB c k25)<|aS (aB c k25) bO) c fun r27 _ H27=>G (Z k25)<|z_p (qi c c)<|p (aM c k25 c)<|ac<|av c H27 (fun k28 H29=>am<|aj<|ax<|ap<|J c<|J c<|aa<|D H29 en_64 fun r34 _ H30=>ac<|ap<|J c<|p (bt c c)<|O c<|cF (IntKind.i64.wrap (s19 + 1)) H30 (.cons c<|.cons c<|.cons c<|.cons c<|.cons c<|.cons c<|.cons c<|.nil _) .slnil) fun k28 H29=>bh<|cq () H29 (.cons c<|.cons c<|.cons c<|.cons c<|.cons c<|.cons c<|.nil _) .slnil) fun k25 H26=>W (aP k25)<|W (aP k25)<|p (an c k25 c)<|ac<|ev_no c c<|bh<|cq () H26 (.cons c<|.cons c<|.cons c<|.cons c<|.cons c<|.cons c<|.nil _) .slnil) fun s11 _ H12=>M<|J c<|J c<|aa<|D H12 en_26 fun r37 _ H13=>J c<|V c c (aK _) (fun g14=>wv<|ae c)<|p (dm c c)<|O c<|M<|J c<|J c<|aa<|D H13 en_26 fun r43 _ H15=>ac<|av c H15 (fun k16 H17=>ap<|J c<|J c<|aa<|D H17 en_23 fun r46 _ H18=>ac<|ap<|J c<|p (bt c c)<|O c<|cF ((r37 || s6.1),(IntKind.i64.wrap (s6.2 + 1))) H18 (.cons c<|.cons c<|.cons c<|.cons c<|.cons c<|.cons c<|.nil _) .slnil) fun k16 H17=>am<|ap<|J c<|p (bt c c)<|O c<|cF ((r37 || s6.1),(IntKind.i64.wrap (s6.2 + 1))) H17 (.cons c<|.cons c<|.cons c<|.cons c<|.cons c<|.cons c<|.nil _) .slnil) fun k9 H10=>bh<|M<|J c<|p (cf c)<|ac<|av c H10 (fun k31 H32=>M<|O c<|ag<|Y ⟨true,c,H32⟩) fun k31 H32=>am<|ap<|J c<|p (bt c c)<|O c<|cF (IntKind.i64.wrap (s1 + 1)) H32 (.cons c<|.cons c<|.cons c<|.cons c<|.nil _) .slnil) fun k4 H5=>bh<|aj<|M<|O c<|ax<|bB (step:=gi a0 a1 K) (fun s33=>[(0,(pv a0)),(1,(.int .i64 a1)),(11,(.int .i64 s33))]) (fun s33=>[]) H5 (.cons c<|.cons c<|.cons c<|.nil _) .slnil fun Rec34 s33 _ H35=>aj<|M<|J c<|J c<|p (cm c c)<|ac<|av c H35 (fun k36 H37=>am<|aj<|ax<|M<|J c<|J c<|aa<|D H37 en_26 fun r56 _ H38=>ac<|av c H38 (fun k39 H40=>M<|O c<|ag<|Y ⟨false,c,H40⟩) fun k39 H40=>am<|ap<|J c<|p (bt c c)<|O c<|cF (IntKind.i64.wrap (s33 + 1)) H40 (.cons c<|.cons c<|.cons c<|.nil _) .slnil) fun k36 H37=>bh<|M<|O c<|ag<|Y ⟨true,c,H37⟩
def fV (a1:Int) (K:(ab × Bool)→Hp→Prop) (r24:Sl) (Rec9:(Int × ab)→Hp→Prop) (s8:Int × ab):Hp→Prop:=br (decide (s8.1 ≥ 0)) ( ix r24 s8.1 fun q34=>ld (q34.1,q34.2 + Int.toNat s8.1 * 16 + 0) (cI .i64) fun x36=>br (x36 == a1) ( both ( ld (q34.1,q34.2 + Int.toNat s8.1 * 16 + 10) ab.C fun x43=>ld (q34.1,q34.2 + Int.toNat s8.1 * 16 + 9) (cI .i64) fun x48=>K (x43,(decide (x48 > 0)))) ( ld (q34.1,q34.2 + Int.toNat s8.1 * 16 + 9) (cI .i64) fun x48=>ld (q34.1,q34.2 + Int.toNat s8.1 * 16 + 10) ab.C fun x43=>K (x43,(decide (x48 > 0))))) ( Rec9 ((IntKind.i64.wrap (s8.1 - 1)),s8.2))) ( K ((⟨0,0⟩:ab),false))
def qv (a0:Ptr) (a1:Int) (a2:Int) (a3:ah) (K:(ab × Bool)→Hp→Prop):Hp→Prop:=cl Tryz.prog iG [(pv a0),(.int .i64 a1),(.int .i64 a2),(.agg (ah.C a3).toArray)] az fun r16=>br (!r16) ( K ((⟨0,0⟩:ab),false)) ( cl Tryz.prog fd [(pv a0),(.int .i64 8),(.int .i64 1000)] az fun r20=>br (!r20) ( K ((⟨0,0⟩:ab),false)) ( cl Tryz.prog eL [(pv a0)] dN fun r24=>Lp (fV a1 K r24) ((IntKind.i64.wrap ((r24.len:Int) - 1)),(⟨0,0⟩:ab))))
theorem sim_messuagelaw16_Run (a0:Ptr) (a1:Int) (a2:Int) (a3:ah) {K:(ab × Bool)→Hp→Prop} {h:Hp} (H:qv a0 a1 a2 a3 K h):Ct Tryz.prog dH #[(pv a0),(.int .i64 a1),(.int .i64 a2),(.agg (ah.C a3).toArray)] h fun v h'=>∃ r,v = bf r∧K r h':=aw [(pv a0),(.int .i64 a1),(.int .i64 a2),(.agg (ah.C a3).toArray)] Tryz.func16 c c c fun _=>M<|aa<|cE (l:=ah.C a3) c c c fun b7=>aa<|aI (l:=ab.C (⟨0,0⟩:ab)) cQ c c fun b8=>O c<|aj<|M<|J c<|J c<|J c<|bg (bA (k:=1) fj c c c c) c<|aa<|D H en_22 fun r16 _ H1=>p (cf c)<|ac<|av c H1 (fun k2 H3=>M<|p (aX (vs:=[]) c th)<|aa<|aN (k:=0) (vs:=ab.C (⟨0,0⟩:ab)) bJ c c c c c c c<|O c<|ag<|bo (bL c (bv (k:=0) c cx c c)<|bV c) ⟨((⟨0,0⟩:ab),false),c,H3⟩) fun k2 H3=>am<|aj<|M<|J c<|aa<|D H3 en_24 fun r20 _ H4=>p (cf c)<|ac<|av c H4 (fun k5 H6=>M<|p (aX (vs:=[]) c th)<|aa<|aN (k:=0) (vs:=ab.C (⟨0,0⟩:ab)) bJ c c c c c c c<|O c<|ag<|bo (bL c (bv (k:=0) c cx c c)<|bV c) ⟨((⟨0,0⟩:ab),false),c,H6⟩) fun k5 H6=>am<|M<|J c<|aa<|D H6 en_20 fun r24 _ H7=>O c<|aj<|M<|J c<|p (dv c Tryz.underlying43 c)<|p (v_sub c c)<|O c<|ax<|bB (step:=fV a1 K r24) (fun s8=>[(1,(.int .i64 a1)),(8,(.pointer (some ⟨b8,0,none⟩))),(10,(sv r24)),(11,(.int .i64 s8.1))]) (fun s8=>[bx b8 30 (ab.C s8.2)]) H7 (.cons c<|.cons c<|.cons c<|.cons c<|.nil _) (.cons_cons _<|.cons _ .slnil) fun Rec9 s8 _ H10=>aj<|M<|J c<|p (jy c c)<|ac<|av c H10 (fun k11 H12=>am<|aj<|ax<|M<|J c<|J c<|cg H12 fun q34 e13 h14 H15=>p (bm qL (aL c<|aY e13) c h14)<|p (ad qD c)<|aa<|aT H15 aW c (fun _=>c) c fun x36 H16=>J c<|p (bK c c)<|ac<|av c H16 (fun k17 H18=>aj<|bj (n:=13) [] ci c (.cons _ .slnil)<|U 0 c (ae c)<|U 1 c (ae c)<|U 2 c (bm qL (aL c<|aY e13) c h14)<|U 3 c (ad jX c)<|U 5 c (ae c)<|U 6 c (ae c)<|U 7 c (bm qL (aL c<|aY e13) c h14)<|U 8 c (ad qC c)<|js H18 fun H19_1 H19_2=>jt (i:=4) (j:=9) (by kernel_rfl) (cy c c<|gD H19_1 cx c (fun _=>c) c fun x43 H20=>⟨.cons _ .slnil,jt (i:=9) (j:=11) (by kernel_rfl) (cy c c<|aT H20 aW c (fun _=>c) c fun x48 H22=>⟨.cons _ .slnil,U 10 c (qi c c)<|I 11 c<|aN (k:=0) (vs:=ab.C x43) bJ c c c c c c c ⟨.cons _ .slnil,U 12 c (aq c)<|aQ (by kernel_rfl)<|ag<|bo (bL c (bv (k:=0) c cx c c)<|bV c) ⟨(x43,(decide (x48 > 0))),c,H22⟩⟩⟩)<|cy c c<|aN (k:=0) (vs:=ab.C x43) bJ c c c c c c c ⟨.cons _ .slnil,bD (i:=9) (fun _ _ _ _ hh=>hh) H20 c (by kernel_rfl) aW c (fun _=>c) c fun x48 H22=>U 10 c (qi c c)<|U 12 c (aq c)<|aQ (by kernel_rfl)<|ag<|bo (bL c (bv (k:=0) c cx c c)<|bV c) ⟨(x43,(decide (x48 > 0))),c,H22⟩⟩⟩)<|cy c c<|aT H19_2 aW c (fun _=>c) c fun x48 H20=>⟨.cons _ .slnil,U 10 c (qi c c)<|wT (i:=4) (fun _ _ _ _ hh=>hh) H20 c (by kernel_rfl) cx c (fun _=>c) c fun x43 H21=>I 11 c<|aN (k:=0) (vs:=ab.C x43) bJ c c c c c c c ⟨.cons _ .slnil,U 12 c (aq c)<|aQ (by kernel_rfl)<|ag<|bo (bL c (bv (k:=0) c cx c c)<|bV c) ⟨(x43,(decide (x48 > 0))),c,H21⟩⟩⟩) fun k17 H18=>am<|ap<|J c<|p (v_sub c c)<|O c<|cF ((IntKind.i64.wrap (s8.1 - 1)),s8.2) H18 (.cons c<|.cons c<|.cons c<|.cons c<|.nil _)<|.cons_cons _ .slnil) fun k11 H12=>bh<|M<|p (aX (vs:=[]) c th)<|aa<|aN (k:=0) (vs:=ab.C (⟨0,0⟩:ab)) bJ c c c c c c c<|O c<|ag<|bo (bL c (bv (k:=0) c cx c c)<|bV c) ⟨((⟨0,0⟩:ab),false),c,H12⟩
def oe (K:Bool→Hp→Prop):Hp→Prop:=cl Tryz.prog wH [(.agg (aA.C (⟨2,2,3⟩:aA)).toArray)] rY fun r21=>br r21.isNone ( K false) ( cl Tryz.prog dH [(pv r21),(.int .i64 0),(.int .i64 0),(.agg (ah.C (⟨1,1,0,0,0⟩:ah)).toArray)] bf fun r27=>cl Tryz.prog dH [(pv r21),(.int .i64 0),(.int .i64 0),(.agg (ah.C (⟨6,4,1,3,0⟩:ah)).toArray)] bf fun r33=>cl Tryz.prog dH [(pv r21),(.int .i64 1),(.int .i64 0),(.agg (ah.C (⟨21,4,2,9,0⟩:ah)).toArray)] bf fun r39=>cl Tryz.prog dH [(pv r21),(.int .i64 0),(.int .i64 0),(.agg (ah.C (⟨20,4,2,0,0⟩:ah)).toArray)] bf fun r45=>cl Tryz.prog dH [(pv r21),(.int .i64 0),(.int .i64 0),(.agg (ah.C (⟨7,4,0,0,0⟩:ah)).toArray)] bf fun r51=>cl Tryz.prog eL [(pv r21)] dN fun r55=>cl Tryz.prog oA [(sv r55),(.agg (aA.C (⟨2,2,3⟩:aA)).toArray)] bI fun r59=>cl Tryz.prog oB [(sv r55),(.agg (aA.C (⟨2,2,3⟩:aA)).toArray)] bI fun r65=>cl Tryz.prog uB [(.int .i64 2),(.int .i64 3)] nM fun r68=>cl Tryz.prog kv [] az fun r69=>br (((((((((((((((r69 && r27.2) && r33.2) && r39.2) && r45.2) && r51.2) && (r27.1.fErr == 0)) && (r33.1.fErr == 0)) && (r39.1.fErr == 0)) && (r45.1.fVal == 9)) && (r51.1.fErr == 0)) && ((r55.len:Int) == 5)) && (r59.1 == (-1))) && r59.2) && (r65.1 == (-1))) && r65.2) ( cl Tryz.prog wI [(sv r55),(.agg (aA.C (⟨2,2,3⟩:aA)).toArray)] az fun r132=>br r132 ( cl Tryz.prog oC [(sv r55)] ct fun r136=>br (((r136.len:Int) == 5) && ((r68.len:Int) == 12)) ( cl Tryz.prog n_fair_Fair [(sv r68),(.int .i64 2),(.int .i64 5)] az fun r147=>br r147 ( cl Tryz.prog n_twin_View [(sv r55),(.int .i64 0)] mF fun r151=>br ((r151.len:Int) == 5) ( cl Tryz.prog qa [(sv r55),(.agg (aA.C (⟨2,2,3⟩:aA)).toArray)] az fun r158=>K r158) ( K false)) ( K false)) ( K false)) ( K false)) ( K false))
theorem uN {K:Bool→Hp→Prop} {h:Hp} (H:oe K h):Ct Tryz.prog kr #[] h fun v h'=>∃ r,v = az r∧K r h':=aw [] Tryz.func14 c c c fun _=>M<|O c<|M<|p (aX c<|ti 2 2 3)<|aa<|aI (l:=aA.C (⟨0,0,0⟩:aA)) zero_27 c c fun b1=>aa<|aN (k:=0) (vs:=aA.C (⟨2,2,3⟩:aA)) inf_27 c c c c c c c<|ac<|M<|bg (bA (k:=0) pw c c c c) c<|aa<|D H en_21 fun r21 _ H1=>O c<|aj<|M<|J c<|p (ch Tryz.underlying24 c)<|ac<|av c H1 (fun k2 H3=>M<|O c<|ag<|Y ⟨false,c,H3⟩) fun k2 H3=>am<|M<|J c<|p (aX c<|jP 1 1)<|aa<|D H3 en_16 fun r27 _ H4=>J c<|p (ai c c)<|p (ai c c)<|aa<|aI (l:=ab.C (⟨0,0⟩:ab)) cQ c c fun b3=>aa<|aN (k:=0) (vs:=ab.C r27.1) bJ c c c c c c c<|O c<|M<|J c<|p (aX c<|ju 6 4 1 3)<|aa<|D H4 en_16 fun r33 _ H5=>J c<|p (ai c c)<|p (ai c c)<|aa<|aI (l:=ab.C (⟨0,0⟩:ab)) cQ c c fun b5=>aa<|aN (k:=0) (vs:=ab.C r33.1) bJ c c c c c c c<|O c<|M<|J c<|p (aX c<|ju 21 4 2 9)<|aa<|D H5 en_16 fun r39 _ H6=>J c<|p (ai c c)<|p (ai c c)<|aa<|aI (l:=ab.C (⟨0,0⟩:ab)) cQ c c fun b7=>aa<|aN (k:=0) (vs:=ab.C r39.1) bJ c c c c c c c<|O c<|M<|J c<|p (aX c<|tg 20 4 2)<|aa<|D H6 en_16 fun r45 _ H7=>J c<|p (ai c c)<|p (ai c c)<|aa<|aI (l:=ab.C (⟨0,0⟩:ab)) cQ c c fun b9=>aa<|aN (k:=0) (vs:=ab.C r45.1) bJ c c c c c c c<|O c<|M<|J c<|p (aX c<|jP 7 4)<|aa<|D H7 en_16 fun r51 _ H8=>J c<|p (ai c c)<|p (ai c c)<|aa<|aI (l:=ab.C (⟨0,0⟩:ab)) cQ c c fun b11=>aa<|aN (k:=0) (vs:=ab.C r51.1) bJ c c c c c c c<|O c<|M<|J c<|aa<|D H8 en_20 fun r55 _ H9=>O c<|M<|J c<|bg (bA (k:=5) pw c c c c) c<|aa<|D H9 en_39 fun r59 _ H10=>J c<|p (ai c c)<|p (ai c c)<|p (aq c)<|O c<|M<|J c<|bg (bA (k:=5) pw c c c c) c<|aa<|D H10 en_40 fun r65 _ H11=>J c<|p (ai c c)<|p (ai c c)<|p (aq c)<|O c<|M<|aa<|D H11 en_41 fun r68 _ H12=>O c<|M<|aa<|D H12 en_42 fun r69 _ H13=>J c<|V c c (ay _) (fun g14=>wv<|ae c)<|p (bM c c)<|J c<|V c c (ay _) (fun g15=>wv<|ae c)<|p (bM c c)<|J c<|V c c (ay _) (fun g16=>wv<|ae c)<|p (bM c c)<|J c<|V c c (ay _) (fun g17=>wv<|ae c)<|p (bM c c)<|J c<|V c c (ay _) (fun g18=>wv<|ae c)<|p (bM c c)<|J c<|V c c (ay _) (fun g19=>wv<|ad jr c)<|V c c (ay _) (fun g20=>cv<|bd (k:=4) nu (aB c g20) c c)<|V c c (ay _) (fun g21=>wv<|bK (aB c g21) c)<|p (bM c c)<|J c<|V c c (ay _) (fun g22=>wv<|ad jr c)<|V c c (ay _) (fun g23=>cv<|bd (k:=3) nu (aB c g23) c c)<|V c c (ay _) (fun g24=>wv<|bK (aB c g24) c)<|p (bM c c)<|J c<|V c c (ay _) (fun g25=>wv<|ad jr c)<|V c c (ay _) (fun g26=>cv<|bd (k:=2) nu (aB c g26) c c)<|V c c (ay _) (fun g27=>wv<|bK (aB c g27) c)<|p (bM c c)<|J c<|V c c (ay _) (fun g28=>wv<|ad fld_30_1 c)<|V c c (ay _) (fun g29=>cv<|bd (k:=1) ck (aB c g29) c c)<|V c c (ay _) (fun g30=>wv<|bK (aB c g30) c)<|p (bM c c)<|J c<|V c c (ay _) (fun g31=>wv<|ad jr c)<|V c c (ay _) (fun g32=>cv<|bd (k:=0) nu (aB c g32) c c)<|V c c (ay _) (fun g33=>wv<|bK (aB c g33) c)<|p (bM c c)<|J c<|V c c (ay _) (fun g34=>wv<|ae c)<|V c c (ay _) (fun g35=>wv<|dv c Tryz.underlying43<|aB c g35)<|V c c (ay _) (fun g36=>wv<|bK (aB c g36) c)<|p (bM c c)<|J c<|V c c (ay _) (fun g37=>wv<|ae c)<|V c c (ay _) (fun g38=>wv<|bK (aB c g38) c)<|p (bM c c)<|J c<|V c c (ay _) (fun g39=>wv<|ae c)<|p (bM c c)<|J c<|V c c (ay _) (fun g40=>wv<|ae c)<|V c c (ay _) (fun g41=>wv<|bK (aB c g41) c)<|p (bM c c)<|J c<|V c c (ay _) (fun g42=>wv<|ae c)<|p (bM c c)<|J c<|V c c (ay _) (fun g43=>wv<|ae c)<|V c c (ay _) (fun g44=>cv<|bA (k:=5) pw c c c c)<|bP H13 (fun k46 H47=>G (Z k46)<|fT H47 en_33 (aS (aB c k46)<|aS (aB c k46) bO) c fun r132 _ H48=>p (aM c k46 c)<|J c<|V c c (ay _) (fun g49=>wv<|ae c)<|bP H48 (fun k51 H52=>G (Z k51)<|fT H52 en_43 (aS (aB c k51) bO) c fun r136 _ H53=>G (Z k51)<|z_p (dv c Tryz.underlying40 c)<|G (Z k51)<|z_p (bK c c)<|p (aM c k51 c)<|J c<|V c c (ay _) (fun g54=>wv<|ae c)<|V c c (ay _) (fun g55=>wv<|dv c Tryz.underlying59<|aB c g55)<|V c c (ay _) (fun g56=>wv<|bK (aB c g56) c)<|p (bM c c)<|J c<|V c c (ay _) (fun g57=>wv<|ae c)<|bP H53 (fun k59 H60=>G (Z k59)<|fT H60 en_44 (aS (aB c k59)<|aS c<|aS c bO) c fun r147 _ H61=>p (aM c k59 c)<|J c<|V c c (ay _) (fun g62=>wv<|ae c)<|bP H61 (fun k64 H65=>G (Z k64)<|fT H65 en_30 (aS (aB c k64)<|aS c bO) c fun r151 _ H66=>G (Z k64)<|z_p (dv c Tryz.underlying68 c)<|G (Z k64)<|z_p (bK c c)<|p (aM c k64 c)<|J c<|V c c (ay _) (fun g67=>wv<|ae c)<|V c c (ay _) (fun g68=>cv<|bA (k:=5) pw c c c c)<|bP H66 (fun k70 H71=>G (Z k70)<|fT H71 en_19 (aS (aB c k70)<|aS (aB c k70) bO) c fun r158 _ H72=>p (aM c k70 c)<|O c<|ag<|Y ⟨r158,c,H72⟩) fun k70 H71=>W (aP k70)<|p (an c k70 c)<|O c<|ag<|Y ⟨false,c,H71⟩) fun k64 H65=>W (aP k64)<|W (aP k64)<|W (aP k64)<|p (an c k64 c)<|J c<|W c<|W c<|W c<|p (an c c c)<|O c<|ag<|Y ⟨false,c,H65⟩) fun k59 H60=>W (aP k59)<|p (an c k59 c)<|J c<|W c<|W c<|W c<|W c<|p (an c c c)<|J c<|W c<|W c<|W c<|p (an c c c)<|O c<|ag<|Y ⟨false,c,H60⟩) fun k51 H52=>W (aP k51)<|W (aP k51)<|W (aP k51)<|p (an c k51 c)<|J c<|W c<|W c<|W c<|p (an c c c)<|J c<|W c<|W c<|p (an c c c)<|J c<|W c<|W c<|W c<|W c<|p (an c c c)<|J c<|W c<|W c<|W c<|p (an c c c)<|O c<|ag<|Y ⟨false,c,H52⟩) fun k46 H47=>W (aP k46)<|p (an c k46 c)<|J c<|W c<|W c<|W c<|W c<|p (an c c c)<|J c<|W c<|W c<|W c<|p (an c c c)<|J c<|W c<|W c<|p (an c c c)<|J c<|W c<|W c<|W c<|W c<|p (an c c c)<|J c<|W c<|W c<|W c<|p (an c c c)<|O c<|ag<|Y ⟨false,c,H47⟩
def kw (a1:Int) (K:ar→Hp→Prop) (r9:Sl) (Rec3:(Int × ar)→Hp→Prop) (s2:Int × ar):Hp→Prop:=br (decide (s2.1 < (r9.len:Int))) ( ix r9 s2.1 fun q13=>ld (q13.1,q13.2 + Int.toNat s2.1 * 16) ar.C fun x14=>br (x14.fCore == a1) ( Rec3 ((IntKind.i64.wrap (s2.1 + 1)),x14)) ( Rec3 ((IntKind.i64.wrap (s2.1 + 1)),s2.2))) ( K s2.2)
def pf (a0:Ptr) (a1:Int) (K:ar→Hp→Prop):Hp→Prop:=cl Tryz.prog eL [(pv a0)] dN fun r9=>Lp (kw a1 K r9) (0,(⟨0,0,(⟨0,0,0,0,0⟩:ah),0,0,0,(⟨0,0⟩:ab),(⟨0,0,0,0⟩:ak)⟩:ar))
theorem wl (a0:Ptr) (a1:Int) {K:ar→Hp→Prop} {h:Hp} (H:pf a0 a1 K h):Ct Tryz.prog iF #[(pv a0),(.int .i64 a1)] h fun v h'=>∃ r,v = um r∧K r h':=aw [(pv a0),(.int .i64 a1)] Tryz.func25 c c c fun _=>M<|aa<|aI (l:=ar.C (⟨0,0,(⟨0,0,0,0,0⟩:ah),0,0,0,(⟨0,0⟩:ab),(⟨0,0,0,0⟩:ak)⟩:ar)) tv c c fun b4=>ac<|M<|aa<|aI (l:=ar.C (⟨0,0,(⟨0,0,0,0,0⟩:ah),0,0,0,(⟨0,0⟩:ab),(⟨0,0,0,0⟩:ak)⟩:ar)) tv c c fun b5=>ac<|aj<|M<|J c<|aa<|D H en_20 fun r9 _ H1=>p (dv c Tryz.underlying43 c)<|J c<|ac<|ax<|bB (step:=kw a1 K r9) (fun s2=>[(1,(.int .i64 a1)),(4,(.pointer (some ⟨b4,0,none⟩))),(5,(.pointer (some ⟨b5,0,none⟩))),(9,(sv r9)),(10,(.int .i64 (r9.len:Int))),(11,(.int .i64 s2.1))]) (fun s2=>[bx b5 54 (ar.C s2.2),bx b4 54 (ar.C (⟨0,0,(⟨0,0,0,0,0⟩:ah),0,0,0,(⟨0,0⟩:ab),(⟨0,0,0,0⟩:ak)⟩:ar))]) H1 (.cons c<|.cons c<|.cons c<|.cons c<|.cons c<|.cons c<|.nil _) (.cons_cons _<|.cons_cons _ .slnil) fun Rec3 s2 _ H4=>M<|p (cm c c)<|ac<|aj<|av c H4 (fun k5 H6=>am<|aj<|ax<|M<|cg H6 fun q13 e7 h8 H9=>p (bm qL (aL c<|aY e7) c h8)<|aa<|gD H9 ul c (fun _=>c) c fun x14 H10=>aa<|aI (l:=ar.C (⟨0,0,(⟨0,0,0,0,0⟩:ah),0,0,0,(⟨0,0⟩:ab),(⟨0,0,0,0⟩:ak)⟩:ar)) tv c c fun b7=>aa<|aN (k:=0) (vs:=ar.C x14) inf_54 c c c c c c c<|ac<|M<|p (ad qD c)<|bg (bd (k:=0) aW c c c) c<|J c<|p (bK c c)<|ac<|av c H10 (fun k11 H12=>ap<|bg (bA (k:=0) ul c c c c) c<|aa<|aN (k:=1) (vs:=ar.C x14) inf_54 c c c c c c c<|ac<|ap<|p (bt c c)<|J c<|ac<|cF ((IntKind.i64.wrap (s2.1 + 1)),x14) H12 (.cons c<|.cons c<|.cons c<|.cons c<|.cons c<|.cons c<|.nil _)<|.cons _<|.cons_cons _<|.cons_cons _ .slnil) fun k11 H12=>am<|ap<|p (bt c c)<|J c<|ac<|cF ((IntKind.i64.wrap (s2.1 + 1)),s2.2) H12 (.cons c<|.cons c<|.cons c<|.cons c<|.cons c<|.cons c<|.nil _)<|.cons _<|.cons_cons _<|.cons_cons _ .slnil) fun k5 H6=>bh<|M<|bg (bA (k:=0) ul c c c c) c<|aa<|aN (k:=1) (vs:=ar.C s2.2) inf_54 c c c c c c c<|ac<|ag<|bo (lW c<|bv (k:=1) c ul c c) ⟨s2.2,c,H6⟩
def dU (a1:Bool) (K:Bool→Hp→Prop) (r23:Ptr) (s37:Int):Hp→Prop:=cl Tryz.prog iF [(pv r23),(.int .i64 0)] um fun r76=>hpv Tryz.prog (Instr.field nk (.agg (ar.C r76).toArray) 6) eI fun (v77:ab)=>hpv Tryz.prog (Instr.field nR (.agg (ab.C v77).toArray) 0) aZ fun (v78:Int)=>br (!(v78 != s37)) ( cl Tryz.prog iF [(pv r23),(.int .i64 1)] um fun r83=>hpv Tryz.prog (Instr.field nk (.agg (ar.C r83).toArray) 6) eI fun (v84:ab)=>hpv Tryz.prog (Instr.field nR (.agg (ab.C v84).toArray) 0) aZ fun (v85:Int)=>br (v85 != s37) ( K false) ( cl Tryz.prog mL [(pv r23),(.int .i64 1),(.int .i64 3)] bZ fun r91=>cl Tryz.prog mL [(pv r23),(.int .i64 0),(.int .i64 3)] bZ fun r96=>cl Tryz.prog eL [(pv r23)] dN fun r100=>cl Tryz.prog qa [(sv r100),(.agg (aA.C (⟨2,2,2⟩:aA)).toArray)] az fun r102=>br r102 ( br a1 ( br (!r91.2) ( br (!r96.2) ( K true) ( K false)) ( K false)) ( br r91.2 ( br r96.2 ( br (r91.1.fRights == 1) ( br (r96.1.fRights == 2) ( br (r91.1.fEnv == 0) ( K (r96.1.fEnv == 1)) ( K false)) ( K false)) ( K false)) ( K false)) ( K false))) ( K false))) ( K false)
def hU (a0:Sl) (a1:Bool) (K:Bool→Hp→Prop) (r23:Ptr) (Rec23:Int→Hp→Prop) (s22:Int):Hp→Prop:=br ((decide (s22 < (a0.len:Int))) && (decide (s22 < 40))) ( ix a0 s22 fun q67=>ld (q67.1,q67.2 + Int.toNat s22 * 1) (cI .i64) fun x68=>cl Tryz.prog lM [(pv r23),(.int .i64 (iand .i64 x68 1))] az fun r70=>Rec23 (IntKind.i64.wrap (s22 + 1))) ( cl Tryz.prog fd [(pv r23),(.int .i64 2),(.int .i64 1000)] az fun r72=>br (!r72) ( K false) ( br a1 ( dU a1 K r23 4) ( dU a1 K r23 0)))
def dV (a0:Sl) (a1:Bool) (K:Bool→Hp→Prop) (r23:Ptr) (s18:Int):Hp→Prop:=cl Tryz.prog iG [(pv r23),(.int .i64 0),(.int .i64 0),(.agg (ah.C (⟨3,0,1,s18,1⟩:ah)).toArray)] az fun r49=>cl Tryz.prog iG [(pv r23),(.int .i64 1),(.int .i64 1),(.agg (ah.C (⟨3,0,0,s18,2⟩:ah)).toArray)] az fun r53=>Lp (hU a0 a1 K r23) 0
def hY (a0:Sl) (a1:Bool) (K:Bool→Hp→Prop) (r23:Ptr) (Rec8:Int→Hp→Prop) (s7:Int):Hp→Prop:=br (decide (s7 < 2)) ( cl Tryz.prog dH [(pv r23),(.int .i64 s7),(.int .i64 s7),(.agg (ah.C (⟨1,0,0,0,0⟩:ah)).toArray)] bf fun r35=>br ((!r35.2) || (r35.1.fErr != 0)) ( K false) ( Rec8 (IntKind.i64.wrap (s7 + 1)))) ( br a1 ( dV a0 a1 K r23 0) ( dV a0 a1 K r23 3))
def kP (a0:Sl) (a1:Bool) (K:Bool→Hp→Prop):Hp→Prop:=cl Tryz.prog kr [] az fun r18=>br (!r18) ( K false) ( cl Tryz.prog wH [(.agg (aA.C (⟨2,2,2⟩:aA)).toArray)] rY fun r23=>br r23.isNone ( K false) ( Lp (hY a0 a1 K r23) 0))
theorem rJ (a0:Sl) (a1:Bool) {K:Bool→Hp→Prop} {h:Hp} (H:kP a0 a1 K h):Ct Tryz.prog lX #[(sv a0),(.bool a1)] h fun v h'=>∃ r,v = az r∧K r h':=aw [(sv a0),(.bool a1)] Tryz.func6 c c c fun _=>M<|O c<|M<|aa<|D H en_14 fun r18 _ H1=>O c<|aj<|M<|J c<|p (cf c)<|ac<|av c H1 (fun k2 H3=>M<|O c<|ag<|Y ⟨false,c,H3⟩) fun k2 H3=>am<|M<|p (aX c<|ti 2 2 2)<|aa<|aI (l:=aA.C (⟨0,0,0⟩:aA)) zero_27 c c fun b6=>aa<|aN (k:=0) (vs:=aA.C (⟨2,2,2⟩:aA)) inf_27 c c c c c c c<|ac<|M<|bg (bA (k:=0) pw c c c c) c<|aa<|D H3 en_21 fun r23 _ H4=>O c<|aj<|M<|J c<|p (ch Tryz.underlying24 c)<|ac<|av c H4 (fun k5 H6=>M<|O c<|ag<|Y ⟨false,c,H6⟩) fun k5 H6=>am<|aj<|M<|O c<|ax<|bB (step:=hY a0 a1 K r23) (fun s7=>[(0,(sv a0)),(1,(.bool a1)),(6,(.pointer (some ⟨b6,0,none⟩))),(7,(pv r23)),(8,(.int .i64 s7))]) (fun s7=>[bx b6 27 (aA.C (⟨2,2,2⟩:aA))]) H6 (.cons c<|.cons c<|.cons c<|.cons c<|.cons c<|.nil _) (.cons_cons _ .slnil) fun Rec8 s7 _ H9=>aj<|M<|J c<|p (cm c c)<|ac<|av c H9 (fun k10 H11=>am<|aj<|ax<|M<|J c<|J c<|J c<|p (aX c<|jP 1 0)<|aa<|D H11 en_16 fun r35 _ H12=>J c<|p (ai c c)<|p (ai c c)<|aa<|aI (l:=ab.C (⟨0,0⟩:ab)) cQ c c fun b9=>aa<|aN (k:=0) (vs:=ab.C r35.1) bJ c c c c c c c<|O c<|M<|J c<|p (cf c)<|J c<|V c c (aK _) (fun g13=>wv<|ad jr c)<|V c c (aK _) (fun g14=>cv<|bd (k:=0) nu (aB c g14) c c)<|V c c (aK _) (fun g15=>wv<|nO (aB c g15) c)<|p (dm c c)<|ac<|av c H12 (fun k16 H17=>M<|O c<|ag<|Y ⟨false,c,H17⟩) fun k16 H17=>am<|ap<|J c<|p (bt c c)<|O c<|cF (IntKind.i64.wrap (s7 + 1)) H17 (.cons c<|.cons c<|.cons c<|.cons c<|.cons c<|.nil _)<|.cons _<|.cons_cons _ .slnil) fun k10 H11=>bh<|M<|O c<|dX (dV a0 a1 K r23) (fun s18=>[(0,(sv a0)),(1,(.bool a1)),(6,(.pointer (some ⟨b6,0,none⟩))),(7,(pv r23)),(11,(.int .u64 s18))]) (fun s18=>[bx b6 27 (aA.C (⟨2,2,2⟩:aA))]) (M<|J c<|ac<|av c H11 (fun k75 H76=>ap<|O c<|cq 0 H76 (.cons c<|.cons c<|.cons c<|.cons c<|.cons c<|.nil _)<|.cons_cons _ .slnil) fun k75 H76=>am<|cq 3 H76 (.cons c<|.cons c<|.cons c<|.cons c<|.cons c<|.nil _)<|.cons_cons _ .slnil) fun s18 _ H19=>M<|J c<|J c<|p (aX c<|tf 3 0 1 s18 1)<|aa<|D H19 en_22 fun r49 _ H20=>ac<|M<|J c<|J c<|p (aX c<|tf 3 0 0 s18 2)<|aa<|D H20 en_22 fun r53 _ H21=>ac<|aj<|M<|O c<|ax<|bB (step:=hU a0 a1 K r23) (fun s22=>[(0,(sv a0)),(1,(.bool a1)),(6,(.pointer (some ⟨b6,0,none⟩))),(7,(pv r23)),(12,(.int .i64 s22))]) (fun s22=>[bx b6 27 (aA.C (⟨2,2,2⟩:aA))]) H21 (.cons c<|.cons c<|.cons c<|.cons c<|.cons c<|.nil _) (.cons_cons _ .slnil) fun Rec23 s22 _ H24=>aj<|M<|J c<|J c<|p (dv c Tryz.underlying40 c)<|p (cm c c)<|J c<|V c c (ay _) (fun g25=>wv<|ae c)<|V c c (ay _) (fun g26=>wv<|cm (aB c g26) c)<|p (bM c c)<|ac<|av c H24 (fun k27 H28=>am<|aj<|ax<|ap<|J c<|J c<|J c<|cg H28 fun q67 e29 h30 H31=>p (bm gV (aL c<|aY e29) c h30)<|aa<|aT H31 aW c (fun _=>c) c fun x68 H32=>p (v_iand c c)<|aa<|D H32 en_23 fun r70 _ H33=>ac<|ap<|J c<|p (bt c c)<|O c<|cF (IntKind.i64.wrap (s22 + 1)) H33 (.cons c<|.cons c<|.cons c<|.cons c<|.cons c<|.nil _)<|.cons_cons _ .slnil) fun k27 H28=>bh<|aj<|M<|J c<|aa<|D H28 en_24 fun r72 _ H34=>p (cf c)<|ac<|av c H34 (fun k35 H36=>M<|O c<|ag<|Y ⟨false,c,H36⟩) fun k35 H36=>am<|M<|O c<|dX (dU a1 K r23) (fun s37=>[(1,(.bool a1)),(6,(.pointer (some ⟨b6,0,none⟩))),(7,(pv r23)),(13,(.int .i64 s37))]) (fun s37=>[bx b6 27 (aA.C (⟨2,2,2⟩:aA))]) (M<|J c<|ac<|av c H36 (fun k73 H74=>ap<|O c<|cq 4 H74 (.cons c<|.cons c<|.cons c<|.cons c<|.nil _)<|.cons_cons _ .slnil) fun k73 H74=>am<|cq 0 H74 (.cons c<|.cons c<|.cons c<|.cons c<|.nil _)<|.cons_cons _ .slnil) fun s37 _ H38=>aj<|M<|J c<|aa<|D H38 en_25 fun r76 _ H39=>aa<|aR H39 (x_fieldV c) c fun v77 _ H40=>aa<|aR H40 (x_fieldV c) c fun v78 _ H41=>J c<|p (nO c c)<|J c<|V c c (aK _) (fun g42=>wv<|ae c)<|bP H41 (fun k44 H45=>G (Z<|bS k44)<|fT H45 en_25 (aS (aB c k44)<|aS c bO) c fun r83 _ H46=>G (Z<|bS k44)<|aR H46 (x_fieldV c) c fun v84 _ H47=>G (Z<|bS k44)<|aR H47 (x_fieldV c) c fun v85 _ H48=>G (Z<|bS k44)<|z_p (ae c)<|G (Z<|bS k44)<|z_p (nO c c)<|p (an c (bS k44) c)<|ac<|av c H48 (fun k49 H50=>M<|O c<|ag<|Y ⟨false,c,H50⟩) fun k49 H50=>am<|M<|J c<|aa<|D H50 en_17 fun r91 _ H51=>J c<|p (ai c c)<|p (ai c c)<|aa<|aI (l:=au.C (⟨0,0,0,0⟩:au)) fO c c fun b14=>aa<|aN (k:=0) (vs:=au.C r91.1) ff c c c c c c c<|O c<|M<|J c<|aa<|D H51 en_17 fun r96 _ H52=>J c<|p (ai c c)<|p (ai c c)<|aa<|aI (l:=au.C (⟨0,0,0,0⟩:au)) fO c c fun b16=>aa<|aN (k:=0) (vs:=au.C r96.1) ff c c c c c c c<|O c<|aj<|bj (n:=46) [bx b16 37 (au.C r96.1),bx b14 37 (au.C r91.1),bx b6 27 (aA.C (⟨2,2,2⟩:aA))] ci c (.cons_cons _<|.cons_cons _<|.cons_cons _ .slnil)<|U 0 c (ae c)<|z_E 2 c (dY (k:=2) pw c c c c)<|I 1 c<|D H52 en_20 fun r100 _ H53=>⟨.cons_cons _<|.cons_cons _<|.cons_cons _ .slnil,I 3 c<|D H53 en_19 fun r102 _ H54=>⟨.cons_cons _<|.cons_cons _<|.cons_cons _ .slnil,U 4 c (ae c)<|im H54 (fun k55 H56=>R 5 c (Z k55) (ve<|ae c)<|R 6 c (Z k55) (ve<|ae c)<|im H56 (fun k57 H58=>R 7 c (Z k57) (ve<|ae c)<|R 8 c (Z k57) (ve<|cf c)<|R 9 c (Z k55) (ve<|aM c k57 c)<|R 10 c (Z k55) (ve<|ae c)<|im H58 (fun k59 H60=>R 11 c (Z k59) (ve<|ae c)<|R 12 c (Z k59) (ve<|cf c)<|R 13 c (Z k55) (ve<|aM c k59 c)<|R 14 c (Z k55) (ve<|ae c)<|im H60 (fun k61 H62=>F 15 c (bF k61)<|F 16 c (bF k61)<|F 17 c (bF k61)<|F 18 c (df _)<|F 19 c (bF k61)<|F 20 c (bF k61)<|F 21 c (df _)<|F 22 c (bF k61)<|F 23 c (bF k61)<|F 24 c (df _)<|F 25 c (df _)<|F 26 c (df _)<|F 27 c (bF k61)<|F 28 c (bF k61)<|F 29 c (df _)<|F 30 c (df _)<|F 31 c (df _)<|F 32 c (bF k61)<|F 33 c (bF k61)<|F 34 c (df _)<|F 35 c (df _)<|F 36 c (df _)<|F 37 c (bF k61)<|F 38 c (bF k61)<|F 39 c (df _)<|F 40 c (df _)<|F 41 c (df _)<|F 42 c (bF k61)<|R 43 c (Z k55) (ve<|aM c k61 c)<|U 44 c (aM c k55 c)<|U 45 c (aq c)<|aQ (by kernel_rfl)<|ag<|Y ⟨true,c,H62⟩) fun k61 H62=>R 15 c (Z k61) (ve<|ae c)<|R 16 c (Z k61) (ve<|cf c)<|R 17 c (Z k61) (ve<|ae c)<|eva_off (i:=18) (fun _ _ _ _ hh=>hh) c (by kernel_rfl) c c c c (aP (by rw [k57]; rfl))<|R 19 c (Z k61) (ve<|an c (by rw [k57]; rfl) c)<|R 20 c (Z k61) (ve<|ae c)<|F 21 c c<|R 22 c (Z k61) (ve<|an c c c)<|R 23 c (Z k61) (ve<|ae c)<|F 24 c c<|F 25 c c<|F 26 c c<|R 27 c (Z k61) (ve<|an c c c)<|R 28 c (Z k61) (ve<|ae c)<|F 29 c c<|F 30 c c<|F 31 c c<|R 32 c (Z k61) (ve<|an c c c)<|R 33 c (Z k61) (ve<|ae c)<|F 34 c c<|F 35 c c<|F 36 c c<|R 37 c (Z k61) (ve<|an c c c)<|R 38 c (Z k61) (ve<|ae c)<|F 39 c c<|F 40 c c<|F 41 c c<|R 42 c (Z k61) (ve<|an c c c)<|R 43 c (Z k55) (ve<|an c k61 c)<|U 44 c (aM c k55 c)<|U 45 c (aq c)<|aQ (by kernel_rfl)<|ag<|Y ⟨false,c,H62⟩) fun k59 H60=>F 11 c (aP k59)<|F 12 c (aP k59)<|R 13 c (Z k55) (ve<|an c k59 c)<|R 14 c (Z k55) (ve<|ae c)<|R 15 c c (ve<|ae c)<|R 16 c c (ve<|cf c)<|R 17 c c (ve<|ae c)<|eva_off (i:=18) (fun _ _ _ _ hh=>hh) c (by kernel_rfl) c c c c (aP (by rw [k57]; rfl))<|R 19 c c (ve<|an c (by rw [k57]; rfl) c)<|R 20 c c (ve<|ae c)<|F 21 c c<|R 22 c c (ve<|an c c c)<|R 23 c c (ve<|ae c)<|F 24 c c<|F 25 c c<|F 26 c c<|R 27 c c (ve<|an c c c)<|R 28 c c (ve<|ae c)<|F 29 c c<|F 30 c c<|F 31 c c<|R 32 c c (ve<|an c c c)<|R 33 c c (ve<|ae c)<|F 34 c c<|F 35 c c<|F 36 c c<|R 37 c c (ve<|an c c c)<|R 38 c c (ve<|ae c)<|F 39 c c<|F 40 c c<|F 41 c c<|R 42 c c (ve<|an c c c)<|R 43 c (Z k55) (ve<|an c c c)<|U 44 c (aM c k55 c)<|U 45 c (aq c)<|aQ (by kernel_rfl)<|ag<|Y ⟨false,c,H60⟩) fun k57 H58=>F 7 c (aP k57)<|F 8 c (aP k57)<|R 9 c (Z k55) (ve<|an c k57 c)<|R 10 c (Z k55) (ve<|ae c)<|F 11 c c<|F 12 c c<|R 13 c (Z k55) (ve<|an c c c)<|R 14 c (Z k55) (ve<|ae c)<|R 15 c c (ve<|ae c)<|R 16 c c (ve<|cf c)<|R 17 c c (ve<|ae c)<|eva_on (i:=18) (fun _ _ _ _ hh=>hh) c (by kernel_rfl) c c c c (Z (by rw [k57]; rfl)) (ve<|ae c)<|R 19 c c (ve<|aM c (by rw [k57]; rfl) c)<|R 20 c c (ve<|ae c)<|im H58 (fun k63 H64=>R 21 c (Z k63) (ve<|ae c)<|R 22 c c (ve<|aM c k63 c)<|R 23 c c (ve<|ae c)<|im H64 (fun k65 H66=>R 24 c (Z k65) (ve<|ad fE c)<|R 25 c (Z k65) (cT (k:=1) aW c c c)<|R 26 c (Z k65) (ve<|bK c c)<|R 27 c c (ve<|aM c k65 c)<|R 28 c c (ve<|ae c)<|im H66 (fun k67 H68=>R 29 c (Z k67) (ve<|ad fE c)<|R 30 c (Z k67) (cT (k:=0) aW c c c)<|R 31 c (Z k67) (ve<|bK c c)<|R 32 c c (ve<|aM c k67 c)<|R 33 c c (ve<|ae c)<|im H68 (fun k69 H70=>R 34 c (Z k69) (ve<|ad mD c)<|R 35 c (Z k69) (cT (k:=1) aW c c c)<|R 36 c (Z k69) (ve<|bK c c)<|R 37 c c (ve<|aM c k69 c)<|R 38 c c (ve<|ae c)<|im H70 (fun k71 H72=>R 39 c (Z k71) (ve<|ad mD c)<|R 40 c (Z k71) (cT (k:=0) aW c c c)<|R 41 c (Z k71) (ve<|bK c c)<|R 42 c c (ve<|aM c k71 c)<|R 43 c (Z k55) (ve<|an c c c)<|U 44 c (aM c k55 c)<|U 45 c (aq c)<|aQ (by kernel_rfl)<|ag<|Y ⟨(r96.1.fEnv == 1),c,H72⟩) fun k71 H72=>F 39 c (aP k71)<|F 40 c (aP k71)<|F 41 c (aP k71)<|R 42 c c (ve<|an c k71 c)<|R 43 c (Z k55) (ve<|an c c c)<|U 44 c (aM c k55 c)<|U 45 c (aq c)<|aQ (by kernel_rfl)<|ag<|Y ⟨false,c,H72⟩) fun k69 H70=>F 34 c (aP k69)<|F 35 c (aP k69)<|F 36 c (aP k69)<|R 37 c c (ve<|an c k69 c)<|R 38 c c (ve<|ae c)<|F 39 c c<|F 40 c c<|F 41 c c<|R 42 c c (ve<|an c c c)<|R 43 c (Z k55) (ve<|an c c c)<|U 44 c (aM c k55 c)<|U 45 c (aq c)<|aQ (by kernel_rfl)<|ag<|Y ⟨false,c,H70⟩) fun k67 H68=>F 29 c (aP k67)<|F 30 c (aP k67)<|F 31 c (aP k67)<|R 32 c c (ve<|an c k67 c)<|R 33 c c (ve<|ae c)<|F 34 c c<|F 35 c c<|F 36 c c<|R 37 c c (ve<|an c c c)<|R 38 c c (ve<|ae c)<|F 39 c c<|F 40 c c<|F 41 c c<|R 42 c c (ve<|an c c c)<|R 43 c (Z k55) (ve<|an c c c)<|U 44 c (aM c k55 c)<|U 45 c (aq c)<|aQ (by kernel_rfl)<|ag<|Y ⟨false,c,H68⟩) fun k65 H66=>F 24 c (aP k65)<|F 25 c (aP k65)<|F 26 c (aP k65)<|R 27 c c (ve<|an c k65 c)<|R 28 c c (ve<|ae c)<|F 29 c c<|F 30 c c<|F 31 c c<|R 32 c c (ve<|an c c c)<|R 33 c c (ve<|ae c)<|F 34 c c<|F 35 c c<|F 36 c c<|R 37 c c (ve<|an c c c)<|R 38 c c (ve<|ae c)<|F 39 c c<|F 40 c c<|F 41 c c<|R 42 c c (ve<|an c c c)<|R 43 c (Z k55) (ve<|an c c c)<|U 44 c (aM c k55 c)<|U 45 c (aq c)<|aQ (by kernel_rfl)<|ag<|Y ⟨false,c,H66⟩) fun k63 H64=>F 21 c (aP k63)<|R 22 c c (ve<|an c k63 c)<|R 23 c c (ve<|ae c)<|F 24 c c<|F 25 c c<|F 26 c c<|R 27 c c (ve<|an c c c)<|R 28 c c (ve<|ae c)<|F 29 c c<|F 30 c c<|F 31 c c<|R 32 c c (ve<|an c c c)<|R 33 c c (ve<|ae c)<|F 34 c c<|F 35 c c<|F 36 c c<|R 37 c c (ve<|an c c c)<|R 38 c c (ve<|ae c)<|F 39 c c<|F 40 c c<|F 41 c c<|R 42 c c (ve<|an c c c)<|R 43 c (Z k55) (ve<|an c c c)<|U 44 c (aM c k55 c)<|U 45 c (aq c)<|aQ (by kernel_rfl)<|ag<|Y ⟨false,c,H64⟩) fun k55 H56=>F 5 c (aP k55)<|F 6 c (aP k55)<|F 7 c (df _)<|F 8 c (df _)<|F 9 c (aP k55)<|F 10 c (aP k55)<|F 11 c (df _)<|F 12 c (df _)<|F 13 c (aP k55)<|F 14 c (aP k55)<|F 15 c (df _)<|F 16 c (df _)<|F 17 c (df _)<|F 18 c (df _)<|F 19 c (df _)<|F 20 c (df _)<|F 21 c (df _)<|F 22 c (df _)<|F 23 c (df _)<|F 24 c (df _)<|F 25 c (df _)<|F 26 c (df _)<|F 27 c (df _)<|F 28 c (df _)<|F 29 c (df _)<|F 30 c (df _)<|F 31 c (df _)<|F 32 c (df _)<|F 33 c (df _)<|F 34 c (df _)<|F 35 c (df _)<|F 36 c (df _)<|F 37 c (df _)<|F 38 c (df _)<|F 39 c (df _)<|F 40 c (df _)<|F 41 c (df _)<|F 42 c (df _)<|F 43 c (aP k55)<|U 44 c (an c k55 c)<|U 45 c (aq c)<|aQ (by kernel_rfl)<|ag<|Y ⟨false,c,H56⟩⟩⟩) fun k44 H45=>W (bF<|bz k44)<|W (bF<|bz k44)<|W (bF<|bz k44)<|W (bF<|bz k44)<|W (bF<|bz k44)<|p (aM c (bz k44) c)<|ac<|lq c c<|M<|O c<|ag<|Y ⟨false,c,H45⟩
end Go.Proofs.YtmggcfijlpldpaaGreatDoor
