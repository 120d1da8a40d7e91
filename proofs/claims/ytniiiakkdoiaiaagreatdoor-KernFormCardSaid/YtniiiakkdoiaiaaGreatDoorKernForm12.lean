/- Part of the proof of: The law KernForm returns true for every input, and leaves its arguments as they were. -/
import Derived.Test.YtniiiakkdoiaiaaGreatDoorKernForm11
set_option linter.all false
namespace Go.Proofs.YtniiiakkdoiaiaaGreatDoor
open Go Mb
theorem mt (e:co):e.C.length = 16:=rfl
theorem ev_one (e:co):dO e.C = true:=rfl
abbrev vE (s:Sl) (xs:List co):As:=vec t_api_Event 16 aO.C s xs
def iD (x:Ptr):Option KC→As
  | none=>fun _=>x = none
  | some c=>fun h=>∃ b:Nat,x = some (b,0)∧blk b cU c.C h
section
variable {l:List As} {h:Hp} {cp:List Ptr} {cs:List (Option KC)} {n:Nat}
theorem all_get {σ α:Type} {A:σ→α→As} {ps:List σ} {xs:List α} {i j:Nat} {p:σ} {x:α} (st:aQ l h) (hj:l[j]? = some (all A ps xs)) (hp:ps[i]? = some p) (hx:xs[i]? = some x):∃ h1,A p x h1∧∀ b o,h1 b = some o→h b = some o:=by
  obtain ⟨h1,a,sub⟩:=ee hj st
  obtain ⟨h2,a2,sub2⟩:=ee (objs_get hp hx) a
  exact ⟨h2,a2,fun b o e=>sub _ _ (sub2 _ _ e)⟩
theorem call_none {j:Nat} {p:Ptr} (st:aQ l h) (hj:l[j]? = some (all iD cp cs)) (hp:cp[n]? = some p) (hx:cs[n]? = some none):p = none:=by
  obtain ⟨_,a,_⟩:=all_get st hj hp hx; exact a
theorem vz {j:Nat} {p:Ptr} {x:KC} (st:aQ l h) (hj:l[j]? = some (all iD cp cs)) (hp:cp[n]? = some p) (hx:cs[n]? = some (some x)):∃ b,p = some (b,0)∧h b = some (.cells x.C.toArray cU (0,0)):=by
  obtain ⟨_,⟨b,e,a⟩,sub⟩:=all_get st hj hp hx
  exact ⟨b,e,sub _ _ a⟩
theorem all_but {σ α:Type} {A:σ→α→As} {ps:List σ} {xs:List α} {i:Nat} {p:σ} {x:α} (hp:ps[i]? = some p) (hx:xs[i]? = some x) (s:aQ (all A ps xs::l) h):aQ (but A ps xs i::l) h:=by
  obtain ⟨h1,h2,d,e,_,s'⟩:=iw hp hx s
  rw [e,un_comm d]; exact rY s' d.symm
theorem call_mk {b:Nat} {y:KC} (s:aQ (blk b cU y.C::l) h):aQ (iD (some (b,0)) (some y)::l) h:=by
  obtain ⟨h1,h2,d,e,a,s'⟩:=s
  exact ⟨h1,h2,d,e,⟨b,rfl,a⟩,s'⟩
theorem ld_c {τ:Type} {j b off:Nat} {x:KC} {enc:τ→List Value} {K:τ→Hp→Prop} (y:τ) (st:aQ l h) (hj:l[j]? = some (all iD cp cs)) (hp:cp[n]? = some (some (b,0))) (hx:cs[n]? = some (some x)) (hy:∀ i v,(enc y)[i]? = some v→x.C[off + i]? = some v) (k:K y h):ld (b,off) enc K h:=by
  obtain ⟨b',e,a⟩:=vz st hj hp hx
  cases e
  exact ⟨y,⟨_,_,_,a,fun i v hv=>by simpa using hy i v hv⟩,k⟩
theorem ld_c1 {τ:Type} {j b off:Nat} {x:KC} {enc:τ→List Value} {K:τ→Hp→Prop} {v:Value} (y:τ) (st:aQ l h) (hj:l[j]? = some (all iD cp cs)) (hp:cp[n]? = some (some (b,0))) (hx:cs[n]? = some (some x)) (he:enc y = [v]) (hv:x.C[off]? = some v) (k:K y h):ld (b,off) enc K h :=
  ld_c y st hj hp hx (c1 he hv) k
theorem call_out {p:Ptr} {x:KC} (hp:cp[n]? = some p) (hx:cs[n]? = some (some x)) (s:aQ (all iD cp cs::l) h):∃ b,p = some (b,0)∧aQ (blk b cU x.C::but iD cp cs n::l) h:=by
  obtain ⟨h1,h2,d,e,⟨b,e1,a⟩,s'⟩:=iw hp hx s
  exact ⟨b,e1,h1,h2,d,e,a,s'⟩
theorem call_in {b:Nat} {y:KC} (hp:cp[n]? = some (some (b,0))) (hn:n < cs.length) (hl:cp.length = cs.length) (s:aQ (blk b cU y.C::but iD cp cs n::l) h):aQ (all iD cp (cs.set n (some y))::l) h:=by
  obtain ⟨h1,h2,d,e,a,s'⟩:=s
  exact uE (A:=iD) hp hn hl ⟨h1,h2,d,e,⟨b,rfl,a⟩,s'⟩
end
def capOf (h:Hp) (x:Ptr):Cap:=match x with
  | some q=>(match h q.1 with
    | some (.cells c _ _)=>(match c.toList with
      | [.int _ a,.int _ b,.int _ d,.int _ e]=>⟨a,b,d,e⟩
      | _=>rU)
    | _=>rU)
  | none=>rU
theorem capOf_eq {l:List As} {h:Hp} {i b T:Nat} {c:Cap} (st:aQ l h) (hi:l[i]? = some (blk b T c.C)):capOf h (some (b,0)) = c:=by
  obtain ⟨h1,a,sub⟩:=ee hi st
  unfold capOf
  rw [show (some (b,0):Ptr) = some (b,0) from rfl]
  simp only [sub _ _ a]
  rfl
theorem at_get {t:Caps.T} {e s:Int} (h1:Caps.has t e s = true) (h2:(Caps.get t e s).fRights ≠ 0):Caps.at_ t e s = (Caps.get t e s,true):=if_pos ⟨h1,h2⟩
def vJ (t:Caps.T) (x:KC) (r:Cap × Bool):Bool:=if r.2 = true then Caps.under t r.1 ⟨x.fenv,IntKind.i64.wrap x.fc.e1⟩ else false
theorem up_at {t:Caps.T} (x:KC) (e s:Int):vJ t x (Caps.at_ t e s) = (if Caps.has t e s = true then Caps.under t (Caps.get t e s) ⟨x.fenv,IntKind.i64.wrap x.fc.e1⟩ else false):=by
  unfold vJ
  by_cases h1:Caps.has t e s = true
  · by_cases h2:(Caps.get t e s).fRights ≠ 0
    · rw [at_get h1 h2,if_pos rfl,if_pos h1]
    · have ea:Caps.at_ t e s = (rU,false):=if_neg (fun hh=>h2 hh.2)
      rw [ea,if_neg Bool.false_ne_true,if_pos h1]
      cases hu:Caps.under t (Caps.get t e s) ⟨x.fenv,IntKind.i64.wrap x.fc.e1⟩ with
      | false=>rfl
      | true=>exact absurd (Caps.under_rights hu) h2
  · have ea:Caps.at_ t e s = (rU,false):=if_neg (fun hh=>h1 hh.1)
    rw [ea,if_neg Bool.false_ne_true,if_neg h1]
theorem sp_kern_goes (kb xb:Nat) (pp:Ptr) (kc:List Value) (p:PK) (x:KC) (e s:Int) (h0:kc[0]? = some (pv pp)) :
    Sp Tryz.prog pQ [pv (some (kb,0)),pv (some (xb,0)),.int .i64 e,.int .i64 s] aG [blk kb cq kc,blk xb cU x.C,bG pp p] (fun r=>pa_ (r = KK.goes p x e s) [blk kb cq kc,blk xb cU x.C,bG pp p]):=by
  intro h s0
  have tok:Caps.Ok p.caps:=by
    obtain ⟨_,_,_,ok,_⟩:=fJ (bn [2] s0 rfl); exact ok.tree
  refine sim_kern_Kern_goes _ _ _ _ ?_
  unfold tP
  have j1:¬ (x.fc.e0 = 5∧e = x.fenv∧s = IntKind.i64.wrap x.fc.e1)→iY (some (kb,0)) e s (fun r=>pa_ (r = KK.goes p x e s) [blk kb cq kc,blk xb cU x.C,bG pp p]) (xb,0) x.fc.e1 () h:=by
    intro hno
    have eg:KK.goes p x e s = vJ p.caps x (Caps.at_ p.caps e s):=by unfold KK.goes; rw [if_neg hno,up_at]
    rw [eg]
    unfold iY
    refine cC (bB pp s0 (i:=0) rfl rfl h0 ?_)
    refine bY (vV pp p e s) (i:=2) rfl s0 fun r h1 hr s1=>?_
    subst hr
    refine oT s1 fun b h2 s2=>?_
    refine tw (i:=0) s2 rfl (by simp [qg]) fun h3 s3=>?_
    have s3':aQ [blk b fK (Caps.at_ p.caps e s).1.C,blk kb cq kc,blk xb cU x.C,bG pp p] h3:=s3
    refine Lp.intro (fun (z:Ptr × Bool) h=>∃ (b:Nat) (a i:Int),z = (some (b,0),(Caps.at_ p.caps a i).2)∧vJ p.caps x (Caps.at_ p.caps a i) = vJ p.caps x (Caps.at_ p.caps e s)∧aQ [blk b fK (Caps.at_ p.caps a i).1.C,blk kb cq kc,blk xb cU x.C,bG pp p] h)
      (fun (z:Ptr × Bool) h=>Caps.deep 40 p.caps (capOf h z.1)) ⟨b,e,s,rfl,rfl,s3'⟩ ?_
    rintro z h ⟨b,a,i,rfl,hu,s4⟩
    unfold oL
    rw [capOf_eq (i:=0) s4 rfl]
    refine bk (fun k=>?_) (fun k=>?_)
    · have hat:Caps.has p.caps a i = true∧(Caps.get p.caps a i).fRights ≠ 0:=by
        unfold Caps.at_ at k; split at k
        · assumption
        · cases k
      have e1:=at_get hat.1 hat.2
      rw [e1] at s4 hu ⊢
      have step:=Caps.under_step tok hat.1 ⟨x.fenv,IntKind.i64.wrap x.fc.e1⟩
      have hu':vJ p.caps x (Caps.get p.caps a i,true) = Caps.under p.caps (Caps.get p.caps a i) ⟨x.fenv,IntKind.i64.wrap x.fc.e1⟩:=rfl
      rw [hu'] at hu
      refine cC (bB (Caps.get p.caps a i).fEnv s4 (i:=0) rfl rfl rfl ?_)
      refine bk (fun k2=>?_) (fun k2=>?_)
      · have k2':0 ≤ (Caps.get p.caps a i).fEnv:=by simpa using k2
        rw [if_pos ⟨hat.2,k2'⟩] at step
        have dd:=Caps.deep_step tok hat.1 ⟨hat.2,k2'⟩
        obtain ⟨q1,q2⟩:=Caps.parent_has tok hat.1 hat.2 k2'
        have next:¬ ((Caps.get p.caps a i).fEnv = x.fenv∧(Caps.get p.caps a i).fSlot = IntKind.i64.wrap x.fc.e1) →
            iX (kb,0) b (fun s' h'=>(∃ (b:Nat) (a i:Int),s' = (some (b,0),(Caps.at_ p.caps a i).2)∧vJ p.caps x (Caps.at_ p.caps a i) = vJ p.caps x (Caps.at_ p.caps e s)∧aQ [blk b fK (Caps.at_ p.caps a i).1.C,blk kb cq kc,blk xb cU x.C,bG pp p] h')∧Caps.deep 40 p.caps (capOf h' s'.1) < Caps.deep 40 p.caps (Caps.get p.caps a i)) (b,0) () h:=by
          intro hne
          unfold iX
          refine ld_s (i:=0) (Caps.get p.caps a i) s4 rfl (by simp) ?_
          refine oT s4 fun b2 h5 s5=>?_
          refine tw (i:=0) s5 rfl (by simp [qg]) fun h6 s6=>?_
          have s6':aQ [blk b2 fK (Caps.get p.caps a i).C,blk b fK (Caps.get p.caps a i).C,blk kb cq kc,blk xb cU x.C,bG pp p] h6:=s6
          refine bB pp s6' (i:=2) rfl rfl h0 ?_
          refine bB (Caps.get p.caps a i).fEnv s6' (i:=0) rfl rfl rfl ?_
          refine bB (Caps.get p.caps a i).fSlot s6' (i:=0) rfl rfl rfl ?_
          refine bY (vV pp p _ _) (i:=4) rfl s6' fun r h7 hr s7=>?_
          subst hr
          refine tw (i:=0) s7 rfl (by simp [qg]) fun h8 s8=>?_
          have s8':aQ [blk b2 fK (Caps.at_ p.caps (Caps.get p.caps a i).fEnv (Caps.get p.caps a i).fSlot).1.C,blk b fK (Caps.get p.caps a i).C,blk kb cq kc,blk xb cU x.C,bG pp p] h8:=s8
          have e2:=at_get q1 q2
          refine ⟨⟨b2,_,_,rfl,?_,cj (l:=[blk b fK (Caps.get p.caps a i).C]) (bn [1] s8' rfl)⟩,?_⟩
          · rw [e2,← hu,step,if_neg hne]; rfl
          · rw [capOf_eq (i:=0) s8' rfl,e2]; exact dd
        refine bB (Caps.get p.caps a i).fEnv s4 (i:=0) rfl rfl rfl ?_
        refine bB x.fenv s4 (i:=2) rfl rfl rfl ?_
        refine bk (fun k3=>?_) (fun k3=>?_)
        · have k3':(Caps.get p.caps a i).fEnv = x.fenv:=by simpa using k3
          refine bB (Caps.get p.caps a i).fSlot s4 (i:=0) rfl rfl rfl ?_
          refine bk (fun k4=>?_) (fun k4=>?_)
          · have k4':(Caps.get p.caps a i).fSlot = IntKind.i64.wrap x.fc.e1:=by simpa using k4
            rw [if_pos ⟨k3',k4'⟩] at step
            exact bh (by rw [← hu,step]) (cj (l:=[blk b fK (Caps.get p.caps a i).C]) s4)
          · exact next (fun hh=>by simp [hh.2] at k4)
        · exact next (fun hh=>by simp [hh.1] at k3)
      · have k2':¬ 0 ≤ (Caps.get p.caps a i).fEnv:=by simpa using k2
        rw [if_neg (fun hh=>k2' hh.2)] at step
        exact bh (by rw [← hu,step]) (cj (l:=[blk b fK (Caps.get p.caps a i).C]) s4)
    · refine bh ?_ (cj (l:=[blk b fK (Caps.at_ p.caps a i).1.C]) s4)
      rw [← hu]; unfold vJ
      have k':(Caps.at_ p.caps a i).2 = false:=k
      rw [k']; rfl
  refine cC (bB x.fc.e1 s0 (i:=1) rfl rfl rfl ?_)
  refine bB x.fc.e0 s0 (i:=1) rfl rfl rfl ?_
  refine bk (fun k=>?_) (fun k=>?_)
  · have k':x.fc.e0 = 5:=by simpa using k
    refine bB x.fenv s0 (i:=1) rfl rfl rfl ?_
    refine bk (fun k2=>?_) (fun k2=>?_)
    · have k2':e = x.fenv∧s = IntKind.i64.wrap x.fc.e1:=by simpa using k2
      exact bh (by unfold KK.goes; rw [if_pos ⟨k',k2'⟩]) s0
    · exact j1 (fun hh=>by simp [hh.2.1,hh.2.2] at k2)
  · exact j1 (fun hh=>by simp [hh.1] at k)
theorem sp_kern_left (kb xb:Nat) (pp:Ptr) (kc:List Value) (p:PK) (x:KC) (e pg:Int) (q:Pte) (h0:kc[0]? = some (pv pp)) :
    Sp Tryz.prog lP [pv (some (kb,0)),pv (some (xb,0)),.int .i64 e,.int .i64 pg,.agg q.C.toArray] vD [blk kb cq kc,blk xb cU x.C,bG pp p] (fun r=>pa_ (r = KK.left p x e pg q) [blk kb cq kc,blk xb cU x.C,bG pp p]):=by
  intro h s0
  refine sim_kern_Kern_left _ _ _ _ _ ?_
  unfold tO
  have j1:∀ o:Bool,o = decide (x.fenv = e∧IntKind.i64.wrap x.fc.e1 = pg)→iW (some (kb,0)) (some (xb,0)) e q (fun r=>pa_ (r = KK.left p x e pg q) [blk kb cq kc,blk xb cU x.C,bG pp p]) o h:=by
    intro o ho
    unfold iW
    refine cC (bB x.fc.e0 s0 (i:=1) rfl rfl rfl ?_)
    refine bk (fun k=>?_) (fun k=>?_)
    · have k':x.fc.e0 = 7:=by simpa using k
      refine bk (fun k2=>?_) (fun k2=>?_)
      · have k2':x.fenv = e∧IntKind.i64.wrap x.fc.e1 = pg:=of_decide_eq_true (ho ▸ k2)
        exact bh (by unfold KK.left; rw [if_pos k',if_pos k2']) s0
      · have k2':¬ (x.fenv = e∧IntKind.i64.wrap x.fc.e1 = pg):=of_decide_eq_false (ho ▸ k2)
        exact bh (by unfold KK.left; rw [if_pos k',if_neg k2']) s0
    · have k':¬ x.fc.e0 = 7:=by simpa using k
      refine bk (fun k2=>?_) (fun k2=>?_)
      · have k2':x.fc.e0 = 8:=by simpa using k2
        refine cC (bB pp s0 (i:=0) rfl rfl h0 ?_)
        refine bY (vV pp p e q.fSlot) (i:=2) rfl s0 fun r h1 hr s1=>?_
        subst hr
        refine bB x.fc.e2 s1 (i:=1) rfl rfl rfl ?_
        refine bk (fun k3=>?_) (fun k3=>?_)
        · rw [Bool.and_eq_true] at k3
          have k3':x.fenv = e∧IntKind.i64.wrap x.fc.e1 = pg:=of_decide_eq_true (ho ▸ k3.1)
          exact bh (by unfold KK.left; rw [if_neg k',if_pos k2',if_pos ⟨k3',k3.2⟩]) s1
        · have k3':¬ ((x.fenv = e∧IntKind.i64.wrap x.fc.e1 = pg)∧bv (IntKind.i64.wrap x.fc.e2) (Caps.at_ p.caps e q.fSlot).1.fRights = true):=by
            rintro ⟨h3,h4⟩
            rw [ho,decide_eq_true h3,h4] at k3; cases k3
          exact bh (by unfold KK.left; rw [if_neg k',if_pos k2',if_neg k3']) s1
      · have k2':¬ x.fc.e0 = 8:=by simpa using k2
        refine cT [0,0,0] (sp_kern_goes kb xb pp kc p x e q.fSlot h0) s0 rfl fun r h1 s1=>?_
        obtain ⟨rfl,s2⟩:=bH.1 s1
        refine bk (fun k3=>?_) (fun k3=>?_)
        · exact bh (by unfold KK.left; rw [if_neg k',if_neg k2',if_pos k3]) s2
        · exact bh (by unfold KK.left; rw [if_neg k',if_neg k2',if_neg (by rw [k3]; exact Bool.false_ne_true)]) s2
  refine cC (bB x.fenv s0 (i:=1) rfl rfl rfl ?_)
  refine bk (fun k=>?_) (fun k=>?_)
  · have k':x.fenv = e:=by simpa using k
    refine bB x.fc.e1 s0 (i:=1) rfl rfl rfl ?_
    refine j1 _ ?_
    by_cases h1:IntKind.i64.wrap x.fc.e1 = pg <;> simp [k',h1]
  · have k':¬ x.fenv = e:=by simpa using k
    exact j1 false (by simp [k'])
theorem sp_kern_seen (kb:Nat) (pp:Ptr) (kc:List Value) (p:PK) (cs:Sl) (cp:List Ptr) (calls:List (Option KC)) (e pg:Int) (h0:kc[0]? = some (pv pp)) (h5:kc[5]? = some (sv cs)) (hl:cp.length = calls.length) (hb:calls.length ≤ 8) :
    Sp Tryz.prog lO [pv (some (kb,0)),.int .i64 e,.int .i64 pg] cF [blk kb cq kc,bG pp p,vQ fu cs cp,all iD cp calls] (fun r=>pa_ (r = KK.seenFrom p e pg calls (PK.pte p e pg).2 (PK.pte p e pg).1) [blk kb cq kc,bG pp p,vQ fu cs cp,all iD cp calls]):=by
  intro h s0
  refine sim_kern_Kern_seen _ _ _ ?_
  unfold tN
  refine cC (bB pp s0 (i:=0) rfl rfl h0 ?_)
  refine bY (rE pp p e pg) (i:=1) rfl s0 fun r h1 hr s1=>?_
  subst hr
  refine bB cs s1 (i:=0) rfl rfl h5 ?_
  have hcs:=(cn (j:=2) s1 rfl).1
  refine Lp.intro (fun (z:Bool × Int × Pte) h=>∃ n:Nat,z.2.1 = n∧n ≤ calls.length∧KK.seenFrom p e pg (calls.drop n) z.1 z.2.2 = KK.seenFrom p e pg calls (PK.pte p e pg).2 (PK.pte p e pg).1∧aQ [blk kb cq kc,bG pp p,vQ fu cs cp,all iD cp calls] h) (fun (z:Bool × Int × Pte) _=>calls.length - z.2.1.toNat) ⟨0,rfl,Nat.zero_le _,rfl,s1⟩ ?_
  rintro ⟨b,i,q⟩ h ⟨n,rfl,hn,he,s2⟩
  unfold oK
  simp only at he ⊢
  refine bk (fun k=>?_) (fun k=>?_)
  · have hlt:n < calls.length:=by rw [hcs,hl] at k; simpa using k
    have hlp:n < cp.length:=by omega
    have hw:IntKind.i64.wrap ((n:Int) + 1) = ((n + 1:Nat):Int):=by rw [cm (by omega) (by omega)]; rfl
    rw [List.drop_eq_getElem_cons hlt] at he
    refine dF s2 (j:=2) rfl (by omega) (by show (n:Int) < _; omega) fun q0 hq0=>?_
    refine eB (j:=2) (i:=n) (k:=0) cp[n] gf s2 rfl hq0 (by simp) (aL hlp) (by simp) ?_
    have skip:KK.seenFrom p e pg (calls.drop (n + 1)) b q = KK.seenFrom p e pg calls (PK.pte p e pg).2 (PK.pte p e pg).1→gt e pg (kb,0) (fun s' h'=>(∃ n:Nat,s'.2.1 = n∧n ≤ calls.length∧KK.seenFrom p e pg (calls.drop n) s'.1 s'.2.2 = KK.seenFrom p e pg calls (PK.pte p e pg).2 (PK.pte p e pg).1∧aQ [blk kb cq kc,bG pp p,vQ fu cs cp,all iD cp calls] h')∧calls.length - s'.2.1.toNat < calls.length - (n:Int).toNat) (b,(n:Int),q) cp[n] false h:=by
      intro hs
      unfold gt
      refine dv rfl ?_
      rw [hw]
      exact ⟨⟨n + 1,rfl,hlt,hs,s2⟩,by simp; omega⟩
    cases hc:calls[n] with
    | none =>
      have hcn:calls[n]? = some none:=by rw [aL hlt,hc]
      have hp:=call_none (j:=3) s2 rfl (aL hlp) hcn
      rw [hc] at he
      refine dv (by rw [hp]; simp) ?_
      exact skip he
    | some x =>
      have hcn:calls[n]? = some (some x):=by rw [aL hlt,hc]
      obtain ⟨xb,hp,hbx⟩:=vz (j:=3) s2 rfl (aL hlp) hcn
      rw [hc,KK.seenFrom] at he
      have hcp:cp[n]? = some (some (xb,0)):=by rw [aL hlp,hp]
      rw [hp] at skip ⊢
      refine bk (fun k2=>?_) (fun k2=>?_)
      · have k2':b = true:=by simpa using k2
        subst k2'
        refine cC (ld_c1 (j:=3) x.ftold s2 rfl hcp hcn rfl rfl ?_)
        cases ht:x.ftold with
        | false =>
          rw [ht,if_neg (by simp)] at he
          exact skip he
        | true =>
          rw [ht,if_pos ⟨rfl,rfl⟩] at he
          unfold gt
          refine df rfl ?_
          obtain ⟨xb',hp',s3⟩:=call_out hcp hcn (bn [3] s2 rfl)
          cases hp'
          refine cT [2,0,1] (sp_kern_left kb xb pp kc p x e pg q h0) s3 rfl fun r h4 s4=>?_
          obtain ⟨rfl,s5⟩:=bH.1 s4
          rw [hw]
          have s6:=call_in (y:=x) hcp hlt hl (bn [1,2] s5 rfl)
          rw [iM hcn] at s6
          refine ⟨⟨n + 1,rfl,hlt,he,bn [1,1,1] s6 rfl⟩,by simp; omega⟩
      · have k2':b = false:=by simpa using k2
        subst k2'
        rw [if_neg (by simp)] at he
        exact skip he
  · have:n = calls.length:=by rw [hcs,hl] at k; simp at k; omega
    subst this
    rw [List.drop_length] at he
    exact bh he s2
theorem any_succ (f:Nat→Bool) (n:Nat):(List.range (n + 1)).any f = ((List.range n).any f || f n):=by
  rw [List.range_succ,List.any_append]; simp
theorem any_true {f:Nat→Bool} {n N:Nat} (h:n < N) (hf:f n = true):(List.range N).any f = true:=List.any_eq_true.2 ⟨n,List.mem_range.2 h,hf⟩
theorem sp_kern_takes (kb xb:Nat) (pp:Ptr) (kc:List Value) (p:PK) (x:KC) (h0:kc[0]? = some (pv pp)) (h1:kc[1]? = some (.int .i64 p.s.fEnvs)) :
    Sp Tryz.prog oB [pv (some (kb,0)),pv (some (xb,0))] aG [blk kb cq kc,blk xb cU x.C,bG pp p] (fun r=>pa_ (r = KK.takes p x) [blk kb cq kc,blk xb cU x.C,bG pp p]):=by
  intro h s0
  have hsz:1 ≤ p.s.fEnvs∧p.s.fEnvs ≤ 4:=by
    obtain ⟨_,_,_,ok,_⟩:=fJ (bn [2] s0 rfl); have:=fL.1 ok.sz; omega
  refine sim_kern_Kern_takes _ _ ?_
  unfold sB
  have no:(Word.check x.fc p.s.fEnvs ≠ 0∨x.fc.e0 < 4∨x.fc.e0 > 8∨x.fc.e0 = 6)→KK.takes p x = false:=fun hh=>if_pos hh
  refine cC (cC ?_)
  refine ld_s (i:=1) x.fc s0 rfl ?_ ?_
  · intro j v hv
    have:j < 5:=(List.getElem?_eq_some_iff.1 hv).1
    match j,this with
    | 0,_=>exact hv
    | 1,_=>exact hv
    | 2,_=>exact hv
    | 3,_=>exact hv
    | 4,_=>exact hv
  refine bB p.s.fEnvs s0 (i:=0) rfl rfl h1 ?_
  refine rT (jh x.fc _) s0 fun r h2 hr s1=>?_
  subst hr
  refine bk (fun k=>?_) (fun k=>?_)
  · exact bh (no (.inl (by simpa using k))).symm s1
  have k0:¬ Word.check x.fc p.s.fEnvs ≠ 0:=by simpa using k
  refine bB x.fc.e0 s1 (i:=1) rfl rfl rfl ?_
  refine bk (fun k1=>?_) (fun k1=>?_)
  · exact bh (no (.inr (.inl (by simpa using k1)))).symm s1
  refine bB x.fc.e0 s1 (i:=1) rfl rfl rfl ?_
  refine bk (fun k2=>?_) (fun k2=>?_)
  · exact bh (no (.inr (.inr (.inl (by simpa using k2))))).symm s1
  refine bB x.fc.e0 s1 (i:=1) rfl rfl rfl ?_
  refine bk (fun k3=>?_) (fun k3=>?_)
  · exact bh (no (.inr (.inr (.inr (by simpa using k3))))).symm s1
  have yes:KK.takes p x = (List.range p.s.fEnvs.toNat).any fun e=>(List.range 8).any fun pg=>KK.hits p x e pg:=by
    unfold KK.takes
    rw [if_neg]
    rintro (h | h | h | h)
    · exact k0 h
    · simp at k1; omega
    · simp at k2; omega
    · simp at k3; exact k3 h
  rw [yes]
  obtain ⟨N,hN⟩:=Int.eq_ofNat_of_zero_le (show 0 ≤ p.s.fEnvs by omega)
  have hNt:p.s.fEnvs.toNat = N:=by omega
  rw [hNt]
  refine bB p.s.fEnvs s1 (i:=0) rfl rfl h1 ?_
  refine Lp.intro (fun (i:Int) h=>∃ n:Nat,i = n∧n ≤ N∧((List.range n).any fun e=>(List.range 8).any fun pg=>KK.hits p x e pg) = false∧aQ [blk kb cq kc,blk xb cU x.C,bG pp p] h) (fun (i:Int) _=>N - i.toNat) ⟨0,rfl,Nat.zero_le _,rfl,s1⟩ ?_
  rintro i h ⟨n,rfl,hn,ha,s2⟩
  unfold nk
  refine bk (fun k4=>?_) (fun k4=>?_)
  · have hlt:n < N:=by rw [hN] at k4; simpa using k4
    have hw:IntKind.i64.wrap ((n:Int) + 1) = ((n + 1:Nat):Int):=by rw [cm (by omega) (by omega)]; rfl
    refine Lp.intro (fun (i:Int) h=>∃ m:Nat,i = m∧m ≤ 8∧((List.range m).any fun pg=>KK.hits p x n pg) = false∧aQ [blk kb cq kc,blk xb cU x.C,bG pp p] h) (fun (i:Int) _=>8 - i.toNat) ⟨0,rfl,Nat.zero_le _,rfl,s2⟩ ?_
    rintro i h ⟨m,rfl,hm,ha2,s3⟩
    unfold nj
    refine bk (fun k5=>?_) (fun k5=>?_)
    · have hlt2:m < 8:=by have:=of_decide_eq_true k5; omega
      have hw2:IntKind.i64.wrap ((m:Int) + 1) = ((m + 1:Nat):Int):=by rw [cm (by omega) (by omega)]; rfl
      refine bB pp s3 (i:=0) rfl rfl h0 ?_
      refine bY (rE pp p n m) (i:=2) rfl s3 fun r h4 hr s4=>?_
      subst hr
      refine bk (fun k6=>?_) (fun k6=>?_)
      · refine cT [0,0,0] (sp_kern_left kb xb pp kc p x n m (PK.pte p n m).1 h0) s4 rfl fun r h5 s5=>?_
        obtain ⟨rfl,s6⟩:=bH.1 s5
        refine bk (fun k7=>?_) (fun k7=>?_)
        · have hh:KK.hits p x n m = true:=by unfold KK.hits; rw [k6,k7]; rfl
          exact bh (any_true hlt (any_true hlt2 hh)).symm s6
        · have hh:KK.hits p x n m = false:=by unfold KK.hits; rw [k6,k7]; rfl
          rw [hw2]
          exact ⟨⟨m + 1,rfl,hlt2,by rw [any_succ,ha2,hh]; rfl,s6⟩,by simp; omega⟩
      · have hh:KK.hits p x n m = false:=by unfold KK.hits; rw [k6]; rfl
        rw [hw2]
        exact ⟨⟨m + 1,rfl,hlt2,by rw [any_succ,ha2,hh]; rfl,s4⟩,by simp; omega⟩
    · have:m = 8:=by have:=of_decide_eq_false k5; omega
      subst this
      rw [hw]
      exact ⟨⟨n + 1,rfl,hlt,by rw [any_succ,ha,ha2]; rfl,s3⟩,by simp; omega⟩
  · have:n = N:=by rw [hN] at k4; simp at k4; omega
    subst this
    exact bh ha.symm s2
end Go.Proofs.YtniiiakkdoiaiaaGreatDoor
namespace Go.Proofs.YtniiiakkdoiaiaaGreatDoor
open Go Mb
structure KZ where
  b:Nat
  pp:Ptr
  ts:Sl
  tp:List Ptr
  pm:Ptr
  pe:Ptr
  cs:Sl
  cp:List Ptr
  es:Sl
abbrev kcl (z:KZ) (k:KK):List Value:=[pv z.pp,.int .i64 k.p.s.fEnvs,sv z.ts,pv z.pm,pv z.pe,sv z.cs,sv z.es,.int .i64 k.now]
abbrev mg (z:KZ) (k:KK):List As:=[blk z.b cq (kcl z k),bG z.pp k.p,vQ sn z.ts z.tp,all fo z.tp k.tlbs,jj z.pm k.boxes,eZ z.pe k.epochs,vQ fu z.cs z.cp,all iD z.cp k.calls,vE z.es k.events]
structure KZ.Ok (z:KZ) (k:KK):Prop where
  t:z.tp.length = k.tlbs.length
  c:z.cp.length = k.calls.length
def dc (x:Ptr) (k:KK):As:=fun h=>∃ z:KZ,(x = some (z.b,0)∧KZ.Ok z k∧KK.Ok k)∧aQ (mg z k) h
theorem oJ {x:Ptr} {k:KK} {l:List As} {h:Hp} (s0:aQ (dc x k::l) h):∃ z:KZ,x = some (z.b,0)∧KZ.Ok z k∧KK.Ok k∧aQ (mg z k++l) h:=by
  obtain ⟨z,⟨hx,h1,ok⟩,st⟩:=op_ s0
  exact ⟨z,hx,h1,ok,st⟩
theorem lW {z:KZ} {k:KK} {l:List As} {h:Hp} (h1:KZ.Ok z k) (ok:KK.Ok k) (st:aQ (mg z k++l) h):aQ (dc (some (z.b,0)) k::l) h :=
  cl_ (m:=fun z:KZ=>mg z k) z ⟨rfl,h1,ok⟩ st
theorem kk_len {k:KK} (ok:KK.Ok k):k.tlbs.length = k.calls.length∧k.boxes.length = k.calls.length∧k.epochs.2.length = k.calls.length∧1 ≤ k.calls.length∧k.calls.length ≤ 8:=by
  have h1:=ok.tl; have h2:=ok.bl; have h3:=ok.el; have h4:=ok.cl; have h5:=fL.1 ok.p.sz
  omega
theorem is_nat {k:KK} {c:Int} (h:KK.is k c = true):∃ n:Nat,c = n∧n < k.calls.length:=by
  have:=of_decide_eq_true (show decide (0 ≤ c∧c < (k.calls.length:Int)) = true from h)
  exact ⟨c.toNat,by omega,by omega⟩
theorem call_nat {k:KK} {n:Nat} (h:n < k.calls.length):KK.call k n = k.calls[n]:=by simp [KK.call,h]
theorem buf_nat {k:KK} {n:Nat} (h:n < k.tlbs.length):KK.buf k n = k.tlbs[n]:=by simp [KK.buf,h]
theorem pK (x:Ptr) (k:KK) (c:Int):Sp Tryz.prog fZ [pv x,.int .i64 c] aG [dc x k] (fun r=>pa_ (r = KK.is k c) [dc x k]):=by
  intro h s0
  obtain ⟨z,rfl,zo,ok,st⟩:=oJ s0
  have hcs:=(cn (j:=6) st rfl).1
  refine sim_kern_Kern_is _ _ ?_
  unfold sh_kern_Kern_is
  refine bk (fun d=>?_) (fun d=>?_)
  · have d':0 ≤ c:=by simpa using d
    refine cC (bB z.cs st (i:=0) rfl rfl rfl ?_)
    exact bh (by rw [hcs,zo.c]; simp [KK.is,d']) s0
  · have d':¬ 0 ≤ c:=by simpa using d
    exact bh (by simp [KK.is]; intro h; exact absurd h d') s0
theorem jN (x:Ptr) (k:KK) (c:Int):Sp Tryz.prog eX [pv x,.int .i64 c] aG [dc x k] (fun r=>pa_ (r = KK.busy k c) [dc x k]):=by
  intro h s0
  refine sim_kern_Kern_Busy _ _ ?_
  unfold tU
  refine bY (pK x k c) (i:=0) rfl s0 fun r h1 hr s1=>?_
  subst hr
  refine bk (fun d=>?_) (fun d=>?_)
  · obtain ⟨n,rfl,hn⟩:=is_nat d
    obtain ⟨z,rfl,zo,ok,st⟩:=oJ s1
    have hcs:=(cn (j:=6) st rfl).1
    have hn':n < z.cp.length:=by rw [zo.c]; exact hn
    refine cC (bB z.cs st (i:=0) rfl rfl rfl ?_)
    refine dF st (j:=6) rfl (by omega) (by omega) fun q hq=>?_
    refine eB (j:=6) (i:=n) (k:=0) z.cp[n] gf st rfl hq (by simp) (aL hn') (by simp) ?_
    refine bh ?_ s1
    unfold KK.busy
    rw [d,call_nat hn]
    cases hc:k.calls[n] with
    | none =>
      have:=call_none (j:=7) st rfl (aL hn') (by rw [aL hn,hc])
      rw [this]; rfl
    | some y =>
      obtain ⟨b,hp,_⟩:=vz (j:=7) st rfl (aL hn') (by rw [aL hn,hc])
      rw [hp]; rfl
  · exact bh (by unfold KK.busy; rw [d]; rfl) s1
theorem qa (x:Ptr) (k:KK) (core env:Int) (c:iq) (hn:k.now < 2 ^ 38):Sp Tryz.prog iT [pv x,.int .i64 core,.int .i64 env,.agg c.C.toArray] aG [dc x k] (fun r=>pa_ (r = (KK.begin_ k core env c).1) [dc x (KK.begin_ k core env c).2]):=by
  intro h s0
  refine sim_kern_Kern_Begin _ _ _ _ ?_
  unfold sF
  have no:(KK.is k core = false∨KK.busy k core = true∨env < 0∨env ≥ k.p.s.fEnvs)→KK.begin_ k core env c = (false,k):=fun hh=>if_pos hh
  refine bY (pK x k core) (i:=0) rfl s0 fun r h1 hr s1=>?_
  subst hr
  refine bk (fun d=>?_) (fun d=>?_)
  · have d':KK.is k core = true:=by simpa using d
    refine bY (jN x k core) (i:=0) rfl s1 fun r h2 hr s2=>?_
    subst hr
    refine bk (fun d2=>?_) (fun d2=>?_)
    · have d2':KK.busy k core = false∧¬ env < 0:=by simpa using d2
      obtain ⟨z,rfl,zo,ok,st⟩:=oJ s2
      refine cC (bB k.p.s.fEnvs st (i:=0) rfl rfl rfl ?_)
      refine bk (fun d3=>?_) (fun d3=>?_)
      · rw [no (.inr (.inr (.inr (by simpa using d3))))]
        exact bh rfl s2
      · have d3':¬ env ≥ k.p.s.fEnvs:=by simpa using d3
        have ok2:=kok_begin ok (by omega) core env c
        have e1:KK.begin_ k core env c = (true,{ k with now:=IntKind.i64.wrap (k.now + 1),events:=k.events++[KK.ev0 core env c (IntKind.i64.wrap (k.now + 1))],calls:=k.calls.set core.toNat (some ⟨k.events.length,env,c,false,0⟩) }):=by
          unfold KK.begin_; rw [if_neg]; simp [d',d2'.1]; omega
        rw [e1] at ok2 ⊢
        obtain ⟨n,rfl,hcn⟩:=is_nat d'
        have hn':n < z.cp.length:=by rw [zo.c]; exact hcn
        have hcs:=(cn (j:=6) st rfl).1
        have hel:=ok.evn
        refine bB k.now st (i:=0) rfl rfl rfl ?_
        refine tw (i:=0) st rfl (Nat.le_of_ble_eq_true rfl) fun h3 s3=>?_
        refine bB (IntKind.i64.wrap (k.now + 1)) s3 (i:=0) rfl rfl rfl ?_
        refine bB z.es s3 (i:=0) rfl rfl rfl ?_
        refine ku (τ:=co) (i:=8) (enc:=aO.C) (val:=fun x=>.agg x.C.toArray) (x:=KK.ev0 n env c (IntKind.i64.wrap (k.now + 1))) qf mt ev_one (fun _=>rfl) (by omega) rfl rfl s3 rfl (by omega) (by omega) fun v h4 s4=>?_
        refine tw (i:=0) s4 rfl (Nat.le_of_ble_eq_true rfl) fun h5 s5=>?_
        refine bB v s5 (i:=0) rfl rfl rfl ?_
        have hvl:=(cn (j:=8) s5 rfl).1
        refine bB z.cs s5 (i:=0) rfl rfl rfl ?_
        have hw:IntKind.i64.wrap ((v.len:Int) - 1) = k.events.length:=by rw [hvl]; rw [cm] <;> simp <;> omega
        rw [hw]
        refine oT s5 fun b68 h6 s6=>?_
        refine dF s6 (j:=7) rfl (by omega) (by omega) fun q hq=>?_
        refine st_v (j:=7) (i:=n) (k:=0) (some (b68,0):Ptr) gf s6 rfl hq (by simp) (aL hn') (by simp) rfl fun h7 s7=>?_
        have s8:=bn [8] s7 rfl
        have s10:=all_but (aL hn') (aL hcn) s8
        have s12:=call_mk (y:=⟨k.events.length,env,c,false,0⟩) (bn [1,0] s10 rfl)
        have s14:=all_in2 (A:=iD) hcn zo.c s12
        refine bh rfl (lW (z:={ z with es:=v,cp:=z.cp.set n (some (b68,0)) }) ⟨zo.t,by simpa using zo.c⟩ ok2 (bn [1,1,1,1,1,1,1,0,0] s14 rfl))
    · rw [no]
      · exact bh rfl s2
      · simp at d2
        cases hb:KK.busy k core with
        | true=>exact .inr (.inl rfl)
        | false=>exact .inr (.inr (.inl (d2 hb)))
  · rw [no (.inl (by simpa using d))]
    exact bh rfl s1
theorem cleans_drop (k:KK) (ls:List Line) (n:Nat) (h:n < ls.length) (b:Buf):KK.cleans k (ls.drop n) b = if KK.stale k ls[n] = true then KK.cleans k (ls.drop (n + 1)) (Tlb.flush b ls[n].fEnv ls[n].fPage).2 else KK.cleans k (ls.drop (n + 1)) b:=by
  rw [List.drop_eq_getElem_cons h,KK.cleans]
theorem sp_kern_clean (z:KZ) (k:KK) (c:Nat) (hc:c < k.calls.length) (zo:KZ.Ok z k) (ok:KK.Ok k) :
    Sp Tryz.prog kN [pv (some (z.b,0)),.int .i64 c] R_ (mg z k) (fun _=>aQ (mg z (KK.clean k c))):=by
  intro h s0
  obtain ⟨l1,l2,l3,l4,l5⟩:=kk_len ok
  have hct:c < k.tlbs.length:=by omega
  have hcp:c < z.tp.length:=by rw [zo.t]; exact hct
  have hts:=(cn (j:=2) s0 rfl).1
  refine sim_kern_Kern_clean _ _ ?_
  unfold sC
  refine cC (bB z.ts s0 (i:=0) rfl rfl rfl ?_)
  refine dF s0 (j:=2) rfl (by omega) (by omega) fun q hq=>?_
  refine eB (j:=2) (i:=c) (k:=0) z.tp[c] gf s0 rfl hq (by simp) (aL hcp) (by simp) ?_
  have s1:=iw (aL hcp) (aL hct) (bn [3] s0 rfl)
  refine tj (sp_tlb_Lines z.tp[c] k.tlbs[c]) (i:=0) rfl s1 fun r h2 s2=>?_
  have s3:=qN (aL hcp) (aL hct) zo.t (bn [1,1] s2 rfl)
  have s4:aQ (vL r (Tlb.lines k.tlbs[c])::mg z k) h2:=bn [1,1,1,1,0] s3 rfl
  have hll:(Tlb.lines k.tlbs[c]).length = 8:=by
    obtain ⟨_,_,h8,_⟩:=mW s1
    unfold Tlb.lines; simpa using h8
  have hrl:=(cn (j:=0) s4 rfl).1
  have hbuf:KK.buf k c = k.tlbs[c]:=buf_nat hct
  have same:k.tlbs.set c k.tlbs[c] = k.tlbs:=iM (aL hct)
  refine Lp.intro (fun (i:Int) h=>∃ (n:Nat) (b:Buf),i = n∧n ≤ 8∧KK.cleans k ((Tlb.lines k.tlbs[c]).drop n) b = KK.cleans k (Tlb.lines k.tlbs[c]) k.tlbs[c]∧aQ (vL r (Tlb.lines k.tlbs[c])::mg z { k with tlbs:=k.tlbs.set c b }) h) (fun (i:Int) _=>8 - i.toNat) ⟨0,k.tlbs[c],rfl,Nat.zero_le _,rfl,by rw [same]; exact s4⟩ ?_
  rintro i h ⟨n,b,rfl,hn,he,s5⟩
  unfold nl
  refine bk (fun d=>?_) (fun d=>?_)
  · have hlt:n < (Tlb.lines k.tlbs[c]).length:=by rw [hrl] at d; simpa using d
    have hw:IntKind.i64.wrap ((n:Int) + 1) = ((n + 1:Nat):Int):=by rw [cm (by omega) (by omega)]; rfl
    rw [cleans_drop k _ n hlt] at he
    refine dF s5 (j:=0) rfl (by omega) (by omega) fun q2 hq2=>?_
    refine eB (j:=0) (i:=n) (k:=0) (Tlb.lines k.tlbs[c])[n] line_len s5 rfl hq2 (by simp) (aL hlt) (by simp) ?_
    have hcb:c < (k.tlbs.set c b).length:=by simpa using hct
    have hgb:(k.tlbs.set c b)[c] = b:=by simp
    have j1:∀ (o:Bool × Pte) (h:Hp),((decide ((Tlb.lines k.tlbs[c])[n].fEnv ≥ 0)) && (((!o.1) || (o.2.fFrame != (Tlb.lines k.tlbs[c])[n].fFrame)) || (!(bv (Tlb.lines k.tlbs[c])[n].fRights o.2.fRights)))) = KK.stale k (Tlb.lines k.tlbs[c])[n]→aQ (vL r (Tlb.lines k.tlbs[c])::mg z { k with tlbs:=k.tlbs.set c b }) h →
        ii c (z.b,0) (fun s' h'=>(∃ (n:Nat) (b:Buf),s' = n∧n ≤ 8∧KK.cleans k ((Tlb.lines k.tlbs[c]).drop n) b = KK.cleans k (Tlb.lines k.tlbs[c]) k.tlbs[c]∧aQ (vL r (Tlb.lines k.tlbs[c])::mg z { k with tlbs:=k.tlbs.set c b }) h')∧8 - s'.toNat < 8 - (n:Int).toNat) n (Tlb.lines k.tlbs[c])[n] o h:=by
      intro o h hs s6
      unfold ii
      rw [hs,hw]
      refine bk (fun d2=>?_) (fun d2=>?_)
      · rw [if_pos d2] at he
        refine bB z.ts s6 (i:=1) rfl rfl rfl ?_
        refine dF s6 (j:=3) rfl (by omega) (by omega) fun q3 hq3=>?_
        refine eB (j:=3) (i:=c) (k:=0) z.tp[c] gf s6 rfl hq3 (by simp) (aL hcp) (by simp) ?_
        have s7:=iw (aL hcp) (aL hcb) (bn [4] s6 rfl)
        rw [hgb] at s7
        refine bY (sp_tlb_Flush z.tp[c] b _ _) (i:=0) rfl s7 fun r h8 hr s8=>?_
        have s9:=uE (aL hcp) hcb (by simpa using zo.t) s8
        rw [List.set_set] at s9
        exact ⟨⟨n + 1,_,rfl,by omega,he,bn [1,1,1,1] s9 rfl⟩,by simp; omega⟩
      · rw [if_neg (by rw [d2]; exact Bool.false_ne_true)] at he
        exact ⟨⟨n + 1,b,rfl,by omega,he,s6⟩,by simp; omega⟩
    refine bk (fun d2=>?_) (fun d2=>?_)
    · have d2':0 ≤ (Tlb.lines k.tlbs[c])[n].fEnv:=by simpa using d2
      refine cT [1,1,5,5] (sp_kern_seen z.b z.pp (kcl z k) k.p z.cs z.cp k.calls (Tlb.lines k.tlbs[c])[n].fEnv (Tlb.lines k.tlbs[c])[n].fPage rfl rfl zo.c l5) s5 rfl fun r h6 s6=>?_
      obtain ⟨rfl,s7⟩:=bH.1 s6
      refine j1 _ _ ?_ (bn [4,0,0,2,2,2,2,0,0] s7 rfl)
      unfold KK.stale KK.seen
      rfl
    · have d2':¬ 0 ≤ (Tlb.lines k.tlbs[c])[n].fEnv:=by simpa using d2
      refine j1 _ _ ?_ s5
      unfold KK.stale
      rw [d2,Bool.false_and,Bool.false_and]
  · have:n = 8:=by rw [hrl] at d; simp at d; omega
    subst this
    rw [← hll,List.drop_length] at he
    have e1:KK.clean k c = { k with tlbs:=k.tlbs.set c b }:=by
      unfold KK.clean
      rw [hbuf,← he,Int.toNat_natCast]; rfl
    rw [e1]
    exact cj (l:=[vL r (Tlb.lines k.tlbs[c])]) s5
theorem sp_kern_ends (z:KZ) (k:KK) (c:Nat) (x:KC) (a:gD) (l:Line) (hc:c < k.calls.length) (hx:k.calls[c]? = some (some x)) (zo:KZ.Ok z k) (ok:KK.Ok k) :
    Sp Tryz.prog lQ [pv (some (z.b,0)),.int .i64 c,.agg a.C.toArray,.agg l.C.toArray] R_ (mg z k) (fun _=>aQ [dc (some (z.b,0)) (KK.ends k c x a l)]):=by
  intro h s0
  have hcp:c < z.cp.length:=by rw [zo.c]; exact hc
  have hcs:=(cn (j:=6) s0 rfl).1
  have hes:=(cn (j:=8) s0 rfl).1
  obtain ⟨xb,hp,_⟩:=vz (j:=7) s0 rfl (aL hcp) hx
  have hcpx:z.cp[c]? = some (some (xb,0)):=by rw [aL hcp,hp]
  have hcok:=ok.cs x (List.mem_of_getElem? hx)
  obtain ⟨i,hi⟩:=Int.eq_ofNat_of_zero_le hcok.1
  have hil:i < k.events.length:=by omega
  refine sim_kern_Kern_ends _ _ _ _ ?_
  unfold tQ
  refine cC (bB z.es s0 (i:=0) rfl rfl rfl ?_)
  refine bB z.cs s0 (i:=0) rfl rfl rfl ?_
  refine dF s0 (j:=6) rfl (by omega) (by omega) fun q hq=>?_
  refine eB (j:=6) (i:=c) (k:=0) z.cp[c] gf s0 rfl hq (by simp) (aL hcp) (by simp) ?_
  rw [hp]
  refine cC (ld_c1 (j:=7) x.fat s0 rfl hcpx hx rfl rfl ?_)
  rw [hi]
  refine dF s0 (j:=8) rfl (by omega) (by omega) fun q2 hq2=>?_
  refine bB k.now s0 (i:=0) rfl rfl rfl ?_
  refine bB k.now s0 (i:=0) rfl rfl rfl ?_
  refine st_v (j:=8) (i:=i) (k:=8) { k.events[i] with fEffect:=k.now } mt s0 rfl hq2 rfl (aL hil) (by simp) rfl fun h1 s1=>?_
  have e1:(k.events.set i { k.events[i] with fEffect:=k.now })[i]? = some { k.events[i] with fEffect:=k.now }:=by simp [hil]
  refine st_v (j:=8) (i:=i) (k:=9) { k.events[i] with fEffect:=k.now,fEnd:=k.now } mt s1 rfl hq2 rfl e1 (by simp) rfl fun h2 s2=>?_
  simp only [List.set_set] at s2
  have e2:(k.events.set i { k.events[i] with fEffect:=k.now,fEnd:=k.now })[i]? = some { k.events[i] with fEffect:=k.now,fEnd:=k.now }:=by simp [hil]
  refine st_v (j:=8) (i:=i) (k:=10) { k.events[i] with fEffect:=k.now,fEnd:=k.now,fAnswer:=a } mt s2 rfl hq2 rfl e2 (by simp [ak.C]) rfl fun h3 s3=>?_
  simp only [List.set_set] at s3
  have e3:(k.events.set i { k.events[i] with fEffect:=k.now,fEnd:=k.now,fAnswer:=a })[i]? = some { k.events[i] with fEffect:=k.now,fEnd:=k.now,fAnswer:=a }:=by simp [hil]
  refine st_v (j:=8) (i:=i) (k:=12) (KK.evend k.events[i] k.now a l) mt s3 rfl hq2 rfl e3 (by simp [ar.C]) rfl fun h4 s4=>?_
  simp only [List.set_set] at s4
  refine bB z.cs s4 (i:=0) rfl rfl rfl ?_
  refine dF s4 (j:=6) rfl (by omega) (by omega) fun q5 hq5=>?_
  refine st_v (j:=6) (i:=c) (k:=0) (none:Ptr) gf s4 rfl hq5 (by simp) (aL hcp) (by simp) rfl fun h5 s5=>?_
  have s7:=all_but hcpx hx (bn [7] s5 rfl)
  have s8:=star_cons (A:=iD none none) (fun _=>rfl) s7
  have s9:=all_in2 (A:=iD) hc zo.c s8
  have hge:k.events.getD i (KK.ev0 0 0 ⟨0,0,0,0,0⟩ 0) = k.events[i]:=by simp [hil]
  have e4:KK.ends k c x a l = { k with events:=k.events.set i (KK.evend k.events[i] k.now a l),calls:=k.calls.set c none }:=by
    unfold KK.ends; rw [hi,Int.toNat_natCast,Int.toNat_natCast,hge]
  have ok2:=kok_ends ok c x a l
  rw [e4] at ok2 ⊢
  refine lW (z:={ z with cp:=z.cp.set c none }) ⟨zo.t,by simpa using zo.c⟩ ok2 (bn [1,1,1,1,1,1,1,0,0] s9 rfl)
end Go.Proofs.YtniiiakkdoiaiaaGreatDoor
namespace Go.Proofs.YtniiiakkdoiaiaaGreatDoor
open Go Mb
theorem five {x:KC}:∀ (i:Nat) (v:Value),(ao.C x.fc)[i]? = some v→x.C[2 + i]? = some v:=by
  intro j v hv
  have:j < 5:=(List.getElem?_eq_some_iff.1 hv).1
  match j,this with
  | 0,_=>exact hv
  | 1,_=>exact hv
  | 2,_=>exact hv
  | 3,_=>exact hv
  | 4,_=>exact hv
theorem sp_kern_access (z:KZ) (k:KK) (c xb:Nat) (x:KC) (hc:c < k.calls.length) (hx:k.calls[c]? = some (some x)) (hp:z.cp[c]? = some (some (xb,0))) (zo:KZ.Ok z k) (ok:KK.Ok k) :
    Sp Tryz.prog ng [pv (some (z.b,0)),.int .i64 c,pv (some (xb,0))] eK (mg z k) (fun r=>pa_ (r = (KK.access k c x).1) (mg z (KK.access k c x).2)):=by
  intro h s0
  obtain ⟨l1,l2,l3,l4,l5⟩:=kk_len ok
  have hct:c < k.tlbs.length:=by omega
  have hcp:c < z.tp.length:=by rw [zo.t]; exact hct
  have hbuf:KK.buf k c = k.tlbs[c]:=buf_nat hct
  refine sim_kern_Kern_access _ _ _ ?_
  unfold ro
  refine cC (cC ?_)
  refine ld_c (j:=7) x.fc s0 rfl hp hx five ?_
  refine bB k.p.s.fEnvs s0 (i:=0) rfl rfl rfl ?_
  refine rT (jh x.fc _) s0 fun r h1 hr s1=>?_
  subst hr
  refine bk (fun d=>?_) (fun d=>?_)
  · have e1:KK.access k c x = ((⟨Word.check x.fc k.p.s.fEnvs,0⟩,ms),k):=if_pos (by simpa using d)
    rw [e1]; exact bh rfl s1
  · have d':¬ Word.check x.fc k.p.s.fEnvs ≠ 0:=by simpa using d
    refine ld_c1 (j:=7) x.fc.e1 s1 rfl hp hx rfl rfl ?_
    refine ma nV s1 fun r37 h2 s2=>?_
    refine ld_c1 (j:=8) x.fenv s2 rfl hp hx rfl rfl ?_
    refine cT [1,1,5,5] (sp_kern_seen z.b z.pp (kcl z k) k.p z.cs z.cp k.calls x.fenv (IntKind.i64.wrap x.fc.e1) rfl rfl zo.c l5) s2 rfl fun r h3 s3=>?_
    obtain ⟨hr,s4⟩:=bH.1 s3
    have hr':r = KK.seen k x.fenv (IntKind.i64.wrap x.fc.e1):=hr
    subst hr'
    have s5:aQ (da r37 (List.replicate 8 eD)::mg z k) h3:=bn [4,0,0,2,2,2,2,0,0] s4 rfl
    have j1:∀ h,aQ (da r37 (KK.tabFor k x.fenv (IntKind.i64.wrap x.fc.e1))::mg z k) h→gI c (fun r=>pa_ (r = (KK.access k c x).1) (mg z (KK.access k c x).2)) (xb,0) (z.b,0) x.fc.e1 r37 () h:=by
      intro h s6
      have hts:=(cn (j:=3) s6 rfl).1
      unfold gI
      refine ld_c1 (j:=8) x.fc.e0 s6 rfl hp hx rfl rfl ?_
      refine bB z.ts s6 (i:=1) rfl rfl rfl ?_
      refine dF s6 (j:=3) rfl (by omega) (by omega) fun q hq=>?_
      refine eB (j:=3) (i:=c) (k:=0) z.tp[c] gf s6 rfl hq (by simp) (aL hcp) (by simp) ?_
      refine ld_c1 (j:=8) x.fenv s6 rfl hp hx rfl rfl ?_
      have s7:=iw (aL hcp) (aL hct) (bn [4] s6 rfl)
      refine cT [0,1] (sp_user_Walk z.tp[c] r37 k.tlbs[c] (KK.tabFor k x.fenv (IntKind.i64.wrap x.fc.e1)) x.fenv (IntKind.i64.wrap x.fc.e1) (IntKind.i64.wrap x.fc.e0)) s7 rfl fun r h8 s8=>?_
      obtain ⟨hr,s9⟩:=bH.1 s8
      have hr':r = (KK.accWalk k c x).1:=by rw [hr]; unfold KK.accWalk; rw [hbuf]
      have hw:(User.walk k.tlbs[c] (KK.tabFor k x.fenv (IntKind.i64.wrap x.fc.e1)) x.fenv (IntKind.i64.wrap x.fc.e1) (IntKind.i64.wrap x.fc.e0)).2 = (KK.accWalk k c x).2:=by unfold KK.accWalk; rw [hbuf]
      rw [hw] at s9
      subst hr'
      have s10:=uE (aL hcp) hct zo.t (bn [0,1] s9 rfl)
      refine bk (fun d2=>?_) (fun d2=>?_)
      · have e1:KK.access k c x = ((⟨7,0⟩,ms),{ k with tlbs:=k.tlbs.set c (KK.accWalk k c x).2 }):=by
          unfold KK.access; rw [if_neg d',if_pos (by simpa using d2),Int.toNat_natCast]
        rw [e1]
        exact bh rfl (cj (l:=[da r37 _]) (bn [1,1,1,1,0] s10 rfl))
      · have e1:KK.access k c x = (((PK.touch k.p (KK.accWalk k c x).1.1.fFrame x.fc).1.1,(KK.accWalk k c x).1.1),{ k with tlbs:=k.tlbs.set c (KK.accWalk k c x).2,p:=(PK.touch k.p (KK.accWalk k c x).1.1.fFrame x.fc).2 }):=by
          unfold KK.access; rw [if_neg d',if_neg (by simpa using d2),Int.toNat_natCast]
        rw [e1]
        refine bB z.pp s10 (i:=2) rfl rfl rfl ?_
        refine ld_c (j:=8) x.fc s10 rfl hp hx five ?_
        refine bY (nW z.pp k.p _ x.fc) (i:=3) rfl s10 fun r h11 hr s11=>?_
        subst hr
        have hs:=touch_s k.p (KK.accWalk k c x).1.1.fFrame x.fc
        refine bh rfl ?_
        have s12:=cj (l:=[da r37 _]) (bn [1,1,1,1,0] s11 rfl)
        have ek:kcl z { k with tlbs:=k.tlbs.set c (KK.accWalk k c x).2,p:=(PK.touch k.p (KK.accWalk k c x).1.1.fFrame x.fc).2 } = kcl z k:=by
          show [pv z.pp,Value.int .i64 (PK.touch k.p (KK.accWalk k c x).1.1.fFrame x.fc).2.s.fEnvs,_,_,_,_,_,_] = _
          rw [hs]
        show aQ (blk z.b cq (kcl z _)::_) _
        rw [ek]
        exact s12
    refine bk (fun d2=>?_) (fun d2=>?_)
    · refine bY (ke r37 _ (IntKind.i64.wrap x.fc.e1) (KK.seen k x.fenv (IntKind.i64.wrap x.fc.e1)).1) (i:=0) rfl s5 fun r h6 hr s6=>j1 _ ?_
      have e1:KK.tabFor k x.fenv (IntKind.i64.wrap x.fc.e1) = (Table.insert (List.replicate 8 eD) (IntKind.i64.wrap x.fc.e1) (KK.seen k x.fenv (IntKind.i64.wrap x.fc.e1)).1).2:=if_pos d2
      rw [e1]; exact s6
    · have e1:KK.tabFor k x.fenv (IntKind.i64.wrap x.fc.e1) = List.replicate 8 eD:=if_neg (by rw [d2]; exact Bool.false_ne_true)
      exact j1 _ (by rw [e1]; exact s5)
theorem access_calls (k:KK) (c:Int) (x:KC):(KK.access k c x).2.calls = k.calls:=by
  unfold KK.access
  repeat' split
  all_goals rfl
theorem access_tlen (k:KK) (c:Int) (x:KC):(KK.access k c x).2.tlbs.length = k.tlbs.length:=by
  unfold KK.access
  repeat' split
  all_goals simp
theorem kz_tlbs {z:KZ} {k k':KK} (zo:KZ.Ok z k) (h1:k'.tlbs.length = k.tlbs.length) (h2:k'.calls.length = k.calls.length):KZ.Ok z k':=⟨by rw [h1]; exact zo.t,by rw [h2]; exact zo.c⟩
theorem sp_kern_Step (x:Ptr) (k:KK) (c:Int) (hn:k.now < 2 ^ 37):Sp Tryz.prog lR [pv x,.int .i64 c] aG [dc x k] (fun r=>pa_ (r = (KK.step k c).1) [dc x (KK.step k c).2]):=by
  intro h s0
  refine sim_kern_Kern_Step _ _ ?_
  unfold tR
  refine bY (jN x k c) (i:=0) rfl s0 fun r h1 hr s1=>?_
  subst hr
  refine bk (fun d=>?_) (fun d=>?_)
  · have e1:KK.step k c = (false,k):=if_pos (by simpa using d)
    rw [e1]; exact bh rfl s1
  · have d':KK.busy k c = true:=by simpa using d
    obtain ⟨hi,y,hy⟩:=busy_is d'
    have e1:KK.step k c = (true,KK.work (KK.tick k) c y):=by unfold KK.step; rw [if_neg (by simp [d']),hy]
    rw [e1]
    obtain ⟨z,rfl,zo,ok,st⟩:=oJ s1
    have okt:=kok_tick ok (by omega)
    obtain ⟨n,rfl,hnc⟩:=is_nat hi
    obtain ⟨l1,l2,l3,l4,l5⟩:=kk_len ok
    have hnp:n < z.cp.length:=by rw [zo.c]; exact hnc
    have hcs:=(cn (j:=6) st rfl).1
    have hxn:k.calls[n]? = some (some y):=by rw [aL hnc,← call_nat hnc,hy]
    have hep:=ok.epn
    have hwn:=wrapN ok.n0 (show k.now < 2 ^ 40 by omega)
    refine cC (bB k.now st (i:=0) rfl rfl rfl ?_)
    refine tw (i:=0) st rfl (Nat.le_of_ble_eq_true rfl) fun h2 s2=>?_
    have s3:aQ (mg z (KK.tick k)) h2:=s2
    have zot:KZ.Ok z (KK.tick k):=⟨zo.t,zo.c⟩
    have hxt:(KK.tick k).calls[n]? = some (some y):=hxn
    have hyt:KK.call (KK.tick k) n = some y:=hy
    have hit:KK.is (KK.tick k) n = true:=hi
    have hept:((KK.tick k).epochs.1.length:Int) + 1 ≤ (KK.tick k).now:=by show _ ≤ IntKind.i64.wrap (k.now + 1); rw [hwn]; simp only [KK.tick]; omega
    have hnt:(KK.tick k).now ≤ 2 ^ 37:=by show IntKind.i64.wrap (k.now + 1) ≤ _; rw [hwn]; omega
    have okw:=kok_work okt hept hyt hit
    have hnct:n < (KK.tick k).calls.length:=hnc
    generalize KK.tick k = kt at *
    obtain ⟨xb,hp,_⟩:=vz (j:=7) s3 rfl (aL hnp) hxt
    have hpx:z.cp[n]? = some (some (xb,0)):=by rw [aL hnp,hp]
    refine bB z.cs s3 (i:=0) rfl rfl rfl ?_
    refine dF s3 (j:=6) rfl (by omega) (by omega) fun q hq=>?_
    refine eB (j:=6) (i:=n) (k:=0) z.cp[n] gf s3 rfl hq (by simp) (aL hnp) (by simp) ?_
    rw [hp]
    refine cC (ld_c (j:=7) y.fc s3 rfl hpx hxt five ?_)
    refine bk (fun d2=>?_) (fun d2=>?_)
    · have ew:KK.work kt n y = KK.ends (KK.access kt n y).2 n y (KK.access kt n y).1.1 (KK.access kt n y).1.2:=if_pos d2
      rw [ew]
      have oka:=kok_access okt n y
      have hca:(KK.access kt n y).2.calls = kt.calls:=access_calls _ _ _
      have hta:(KK.access kt n y).2.tlbs.length = kt.tlbs.length:=access_tlen _ _ _
      refine cT [0,0,0,0,0,0,0,0,0] (sp_kern_access z kt n xb y hnct hxt hpx zot okt) s3 rfl fun r h4 s4=>?_
      obtain ⟨hr,s5⟩:=bH.1 s4
      subst hr
      refine cT [0,0,0,0,0,0,0,0,0] (sp_kern_ends z (KK.access kt n y).2 n y (KK.access kt n y).1.1 (KK.access kt n y).1.2 (by rw [hca]; exact hnct) (by rw [hca]; exact hxt) (kz_tlbs zot hta (by rw [hca])) oka) s5 rfl fun r h6 s6=>?_
      exact bh rfl (dJ s6)
    · have d2':¬ dz (aP y.fc).1 = true:=by rw [d2]; exact Bool.false_ne_true
      have j2:∀ b:Bool,(y.ftold = false∧KK.takes kt.p y = true) = False→b = (y.ftold && !(Epochs.done kt.epochs y.fepoch))→∀ h,aQ (mg z kt) h→iZ n (fun r=>pa_ (r = true) [dc (some (z.b,0)) (KK.work kt n y)]) (z.b,0) (xb,0) b h:=by
        intro b hno hb h s4
        have ew:KK.work kt n y = (if y.ftold = true∧Epochs.done kt.epochs y.fepoch = false then kt else if (PK.do_ kt.p y.fenv y.fc).1.2 = true then KK.ends { kt with p:=(PK.do_ kt.p y.fenv y.fc).2 } n y (PK.do_ kt.p y.fenv y.fc).1.1 ms else { kt with p:=(PK.do_ kt.p y.fenv y.fc).2 }):=by
          unfold KK.work
          rw [if_neg d2',if_neg (by rw [hno]; exact not_false)]
        rw [ew] at okw ⊢
        unfold iZ
        refine bk (fun d4=>?_) (fun d4=>?_)
        · have d4':y.ftold = true∧Epochs.done kt.epochs y.fepoch = false:=by rw [hb] at d4; simpa using d4
          rw [if_pos d4']
          exact bh rfl (lW zot okt s4)
        · have d4':¬ (y.ftold = true∧Epochs.done kt.epochs y.fepoch = false):=by rw [hb] at d4; simpa using d4
          rw [if_neg d4'] at okw ⊢
          refine bB z.pp s4 (i:=0) rfl rfl rfl ?_
          refine ld_c1 (j:=7) y.fenv s4 rfl hpx hxt rfl rfl ?_
          refine ld_c (j:=7) y.fc s4 rfl hpx hxt five ?_
          refine bY (jI z.pp kt.p y.fenv y.fc) (i:=1) rfl s4 fun r h5 hr s5=>?_
          subst hr
          have hs:=do_s kt.p y.fenv y.fc
          have s6:aQ (mg z { kt with p:=(PK.do_ kt.p y.fenv y.fc).2 }) h5:=by
            show aQ (blk z.b cq [pv z.pp,Value.int .i64 (PK.do_ kt.p y.fenv y.fc).2.s.fEnvs,_,_,_,_,_,_]::_) _
            rw [hs]; exact s5
          have okp:=kok_p okt (ok_do okt.p y.fenv y.fc) hs
          refine bk (fun d5=>?_) (fun d5=>?_)
          · rw [if_pos d5]
            refine cT [0,0,0,0,0,0,0,0,0] (sp_kern_ends z { kt with p:=(PK.do_ kt.p y.fenv y.fc).2 } n y (PK.do_ kt.p y.fenv y.fc).1.1 ms hnct hxt ⟨zot.t,zot.c⟩ okp) s6 rfl fun r h7 s7=>?_
            exact bh rfl (dJ s7)
          · rw [if_neg (by rw [d5]; exact Bool.false_ne_true)]
            exact bh rfl (lW (k:={ kt with p:=_ }) ⟨zot.t,zot.c⟩ okp s6)
      refine ld_c1 (j:=7) y.ftold s3 rfl hpx hxt rfl rfl ?_
      refine bk (fun d3=>?_) (fun d3=>?_)
      · have d3':y.ftold = false:=by simpa using d3
        obtain ⟨xb',hp',s4⟩:=call_out hpx hxt (bn [7] s3 rfl)
        cases hp'
        refine cT [2,0,1] (sp_kern_takes z.b xb z.pp (kcl z kt) kt.p y rfl rfl) s4 rfl fun r h5 s5=>?_
        obtain ⟨hr,s6⟩:=bH.1 s5
        subst hr
        unfold ja
        refine bk (fun d4=>?_) (fun d4=>?_)
        · have ew:KK.work kt n y = KK.send (KK.clean (KK.tell kt n y) n) n y:=by unfold KK.work; rw [if_neg d2',if_pos ⟨d3',d4⟩]
          rw [ew] at okw ⊢
          refine tw (i:=1) s6 rfl (Nat.le_of_ble_eq_true rfl) fun h7 s7=>?_
          have s8:=call_in (y:={ y with ftold:=true }) hpx hnct zot.c (bn [1,2] s7 rfl)
          have s9:aQ (mg z (KK.tell kt n y)) h7:=bn [1,1,1,1,1,1,1,0,0] s8 rfl
          have okl:KK.Ok (KK.tell kt n y):=kok_call okt n hyt (y:={ y with ftold:=true }) rfl rfl
          have hll:n < (KK.tell kt n y).calls.length:=by simpa [KK.tell] using hnct
          have zol:KZ.Ok z (KK.tell kt n y):=⟨zot.t,by simpa [KK.tell] using zot.c⟩
          refine cT [0,0,0,0,0,0,0,0,0] (sp_kern_clean z (KK.tell kt n y) n hll zol okl) s9 rfl fun r h10 s10=>?_
          have s11:=dJ s10
          have hcc:(KK.clean (KK.tell kt n y) n).calls[n]? = some (some { y with ftold:=true }):=by simp [KK.clean,KK.tell,hnct]
          have okc:=kok_clean okl n
          have zoc:KZ.Ok z (KK.clean (KK.tell kt n y) n):=⟨by simpa [KK.clean] using zol.t,zol.c⟩
          have hepc:((KK.clean (KK.tell kt n y) n).epochs.1.length:Int) + 1 ≤ kt.now:=hept
          have hbx:=okc.bx
          have htl:(KK.clean (KK.tell kt n y) n).calls = kt.calls.set n (some { y with ftold:=true }):=rfl
          have hnow:(KK.clean (KK.tell kt n y) n).now = kt.now:=rfl
          generalize KK.clean (KK.tell kt n y) n = kc at *
          have hncc:n < kc.calls.length:=by rw [htl]; simpa using hnct
          refine bB z.pe s11 (i:=0) rfl rfl rfl ?_
          refine bY (sp_epoch_Begin z.pe kc.epochs n (by omega)) (i:=5) rfl s11 fun r h12 hr s12=>?_
          subst hr
          obtain ⟨xb',hp',s13⟩:=call_out hpx hcc (bn [7] s12 rfl)
          cases hp'
          refine tw (i:=0) s13 rfl (Nat.le_of_ble_eq_true rfl) fun h14 s14=>?_
          have s15:=call_in (y:={ y with ftold:=true,fepoch:=(Epochs.begin_ kc.epochs n).1.1 }) hpx hncc zoc.c s14
          refine bB z.pm s15 (i:=1) rfl rfl rfl ?_
          have hxe:(kc.calls.set n (some { y with ftold:=true,fepoch:=(Epochs.begin_ kc.epochs n).1.1 }))[n]? = some (some { y with ftold:=true,fepoch:=(Epochs.begin_ kc.epochs n).1.1 }):=by simp [hncc]
          refine ld_c1 (j:=0) (Epochs.begin_ kc.epochs n).1.1 s15 rfl hpx hxe rfl rfl ?_
          have he:Epochs.is kc.epochs n = true:=by
            unfold Epochs.is
            have:=okc.el
            have:=okc.cl
            exact decide_eq_true (by omega)
          have eb:(Epochs.begin_ kc.epochs n).1.1 = (kc.epochs.1.length:Int) + 1:=by unfold Epochs.begin_; rw [if_pos he]
          refine bY (sp_mail_All z.pm kc.boxes n (Epochs.begin_ kc.epochs n).1.1 ?_) (i:=5) rfl s15 fun r h16 hr s16=>?_
          · intro l hl
            rw [eb]
            exact box_fit (hbx l hl) (by omega)
          · refine bh rfl (lW (k:=KK.send kc n y) ⟨zoc.t,by simpa [KK.send] using zoc.c⟩ okw (bn [1,1,1,1,1,1,1,0,0] s16 rfl))
        · have hno:(y.ftold = false∧KK.takes kt.p y = true) = False:=by simp [d4]
          have s8:=call_in (y:=y) hpx hnct zot.c (bn [1,2] s6 rfl)
          rw [iM hxt] at s8
          have s9:aQ (mg z kt) h5:=bn [1,1,1,1,1,1,1,0,0] s8 rfl
          refine ld_c1 (j:=7) y.ftold s9 rfl hpx hxt rfl rfl ?_
          refine dv d3' ?_
          exact j2 false hno (by rw [d3']; rfl) _ s9
      · have d3':y.ftold = true:=by simpa using d3
        unfold ja
        refine dv rfl ?_
        refine ld_c1 (j:=7) y.ftold s3 rfl hpx hxt rfl rfl ?_
        refine df d3' ?_
        refine bB z.pe s3 (i:=0) rfl rfl rfl ?_
        refine ld_c1 (j:=7) y.fepoch s3 rfl hpx hxt rfl rfl ?_
        refine bY (sp_epoch_Done z.pe kt.epochs y.fepoch) (i:=5) rfl s3 fun r h4 hr s4=>?_
        subst hr
        exact j2 _ (by simp [d3']) (by rw [d3']; rfl) _ s4
theorem sp_kern_Post (x:Ptr) (k:KK) (c:Int) (hn:k.now < 2 ^ 37):Sp Tryz.prog lS [pv x,.int .i64 c] aG [dc x k] (fun r=>pa_ (r = (KK.post k c).1) [dc x (KK.post k c).2]):=by
  intro h s0
  refine sim_kern_Kern_Post _ _ ?_
  unfold tS
  refine bY (pK x k c) (i:=0) rfl s0 fun r h1 hr s1=>?_
  subst hr
  refine bk (fun d=>?_) (fun d=>?_)
  · have e1:KK.post k c = (false,k):=if_pos (by simpa using d)
    rw [e1]; exact bh rfl s1
  · have d':KK.is k c = true:=by simpa using d
    obtain ⟨z,rfl,zo,ok,st⟩:=oJ s1
    have okp:=kok_post ok (by omega) c
    obtain ⟨n,rfl,hnc⟩:=is_nat d'
    refine cC (bB z.pm st (i:=0) rfl rfl rfl ?_)
    refine bY (sp_mail_Take z.pm k.boxes n) (i:=4) rfl st fun r h2 hr s2=>?_
    subst hr
    refine bk (fun d2=>?_) (fun d2=>?_)
    · have d2':(Mail.take k.boxes n).1.2 = false:=by simpa using d2
      have e1:KK.post k n = (false,k):=by unfold KK.post; rw [if_neg (by simp [d']),if_pos d2']
      have e2:(Mail.take k.boxes n).2 = k.boxes:=by
        unfold Mail.take at d2' ⊢; split
        · rfl
        · rename_i hh; rw [if_neg hh] at d2'; cases d2'
      rw [e1]
      rw [e2] at s2
      exact bh rfl (lW zo ok s2)
    · have e1:KK.post k n = (true,{ KK.clean { KK.tick k with boxes:=(Mail.take k.boxes n).2 } n with epochs:=(Epochs.ack k.epochs n (Mail.take k.boxes n).1.1).2 }):=by
        unfold KK.post; rw [if_neg (by simp [d']),if_neg (by simpa using d2)]
      rw [e1] at okp ⊢
      refine bB k.now s2 (i:=0) rfl rfl rfl ?_
      refine tw (i:=0) s2 rfl (Nat.le_of_ble_eq_true rfl) fun h3 s3=>?_
      have s4:aQ (mg z { KK.tick k with boxes:=(Mail.take k.boxes n).2 }) h3:=s3
      have okt:=kok_tick ok (by omega)
      have hbl:(Mail.take k.boxes n).2.length = k.boxes.length:=by unfold Mail.take; split <;> simp
      have hb:∀ l ∈ (Mail.take k.boxes n).2,mh k.epochs.1.length l:=by
        unfold Mail.take; split
        · exact ok.bx
        · exact boxes_set ok.bx _ (box_drop (box_of ok.bx n))
      have ok2:KK.Ok { KK.tick k with boxes:=(Mail.take k.boxes n).2 }:=⟨okt.p,okt.tl,by simp only [hbl]; exact ok.bl,okt.el,okt.cl,okt.cs,okt.n0,okt.evn,okt.epn,hb⟩
      refine cT [0,0,0,0,0,0,0,0,0] (sp_kern_clean z { KK.tick k with boxes:=(Mail.take k.boxes n).2 } n hnc ⟨zo.t,zo.c⟩ ok2) s4 rfl fun r h5 s5=>?_
      have s6:=dJ s5
      refine bB z.pe s6 (i:=0) rfl rfl rfl ?_
      refine bY (sp_epoch_Ack z.pe k.epochs n _) (i:=5) rfl s6 fun r h7 hr s7=>?_
      refine bh rfl (lW (z:=z) ⟨?_,zo.c⟩ okp s7)
      simpa [KK.clean,KK.tick] using zo.t
theorem sp_kern_Evict (x:Ptr) (k:KK) (c s w:Int) (hn:k.now < 2 ^ 37):Sp Tryz.prog oD [pv x,.int .i64 c,.int .i64 s,.int .i64 w] aG [dc x k] (fun r=>pa_ (r = (KK.evict k c s w).1) [dc x (KK.evict k c s w).2]):=by
  intro h s0
  refine sim_kern_Kern_Evict _ _ _ _ ?_
  unfold sE
  refine bY (pK x k c) (i:=0) rfl s0 fun r h1 hr s1=>?_
  subst hr
  refine bk (fun d=>?_) (fun d=>?_)
  · have d':KK.is k c = true:=by simpa using d
    obtain ⟨z,rfl,zo,ok,st⟩:=oJ s1
    have okp:=kok_evict ok (by omega) c s w
    obtain ⟨n,rfl,hnc⟩:=is_nat d'
    obtain ⟨l1,l2,l3,l4,l5⟩:=kk_len ok
    have hct:n < k.tlbs.length:=by omega
    have hcp:n < z.tp.length:=by rw [zo.t]; exact hct
    have hts:=(cn (j:=2) st rfl).1
    have hbuf:KK.buf k n = k.tlbs[n]:=buf_nat hct
    refine cC (bB z.ts st (i:=0) rfl rfl rfl ?_)
    refine dF st (j:=2) rfl (by omega) (by omega) fun q hq=>?_
    refine eB (j:=2) (i:=n) (k:=0) z.tp[n] gf st rfl hq (by simp) (aL hcp) (by simp) ?_
    have s2:=iw (aL hcp) (aL hct) (bn [3] st rfl)
    refine bY (sp_tlb_Evict z.tp[n] k.tlbs[n] s w) (i:=0) rfl s2 fun r h3 hr s3=>?_
    subst hr
    refine bk (fun d2=>?_) (fun d2=>?_)
    · have d2':(Tlb.evict k.tlbs[n] s w).1 = false:=by simpa using d2
      have e1:KK.evict k n s w = (false,k):=by unfold KK.evict; rw [if_neg (by simp [d']),hbuf,if_pos d2']
      have e2:(Tlb.evict k.tlbs[n] s w).2 = k.tlbs[n]:=by
        unfold Tlb.evict at d2' ⊢
        split
        · rfl
        · split
          · rfl
          · rename_i h4 h5; rw [if_neg h4,if_neg h5] at d2'; cases d2'
      rw [e1]
      rw [e2] at s3
      exact bh rfl (lW zo ok (bn [1,1,1] (qN (aL hcp) (aL hct) zo.t s3) rfl))
    · have e1:KK.evict k n s w = (true,{ KK.tick k with tlbs:=k.tlbs.set n (Tlb.evict k.tlbs[n] s w).2 }):=by unfold KK.evict; rw [if_neg (by simp [d']),hbuf,if_neg (by simpa using d2)]; rfl
      rw [e1] at okp ⊢
      have s4:=uE (aL hcp) hct zo.t s3
      refine bB k.now s4 (i:=1) rfl rfl rfl ?_
      refine tw (i:=1) s4 rfl (Nat.le_of_ble_eq_true rfl) fun h5 s5=>?_
      exact bh rfl (lW (z:=z) (k:={ KK.tick k with tlbs:=_ }) ⟨by simpa using zo.t,zo.c⟩ okp (bn [1,1,1] s5 rfl))
  · have e1:KK.evict k c s w = (false,k):=if_pos (by simpa using d)
    rw [e1]; exact bh rfl s1
theorem sp_kern_Mail (x:Ptr) (k:KK) (c:Int):Sp Tryz.prog pR [pv x,.int .i64 c] dW [dc x k] (fun r=>pa_ (r = KK.mail k c) [dc x k]):=by
  intro h s0
  refine sim_kern_Kern_Mail _ _ ?_
  unfold tT
  refine bY (pK x k c) (i:=0) rfl s0 fun r h1 hr s1=>?_
  subst hr
  refine bk (fun d=>?_) (fun d=>?_)
  · exact bh (by unfold KK.mail; rw [if_neg (by simpa using d)]) s1
  · obtain ⟨z,rfl,zo,ok,st⟩:=oJ s1
    refine cC (bB z.pm st (i:=0) rfl rfl rfl ?_)
    refine bY (sp_mail_Waits z.pm k.boxes c) (i:=4) rfl st fun r h2 hr s2=>?_
    exact bh (by unfold KK.mail; rw [if_pos (by simpa using d),hr]) (lW zo ok s2)
theorem sp_kern_Now (x:Ptr) (k:KK):Sp Tryz.prog mT [pv x] dW [dc x k] (fun r=>pa_ (r = k.now) [dc x k]):=by
  intro h s0
  obtain ⟨z,rfl,zo,ok,st⟩:=oJ s0
  refine sim_kern_Kern_Now _ ?_
  unfold uX
  refine dv rfl (cC (bB k.now st (i:=0) rfl rfl rfl ?_))
  exact bh rfl s0
theorem sp_kern_Lines (x:Ptr) (k:KK) (c:Int):Sp Tryz.prog oC [pv x,.int .i64 c] je [dc x k] (fun r=>aQ [vL r (KK.lines k c),dc x k]):=by
  intro h s0
  refine sim_kern_Kern_Lines _ _ ?_
  unfold sD
  refine bY (pK x k c) (i:=0) rfl s0 fun r h1 hr s1=>?_
  subst hr
  refine bk (fun d=>?_) (fun d=>?_)
  · have e1:KK.lines k c = []:=by unfold KK.lines; rw [if_neg (by simpa using d)]
    rw [e1]; exact ft s1
  · have d':KK.is k c = true:=by simpa using d
    have e1:KK.lines k c = Tlb.lines (KK.buf k c):=by unfold KK.lines; rw [if_pos d']
    rw [e1]
    obtain ⟨z,rfl,zo,ok,st⟩:=oJ s1
    obtain ⟨n,rfl,hnc⟩:=is_nat d'
    obtain ⟨l1,l2,l3,l4,l5⟩:=kk_len ok
    have hct:n < k.tlbs.length:=by omega
    have hcp:n < z.tp.length:=by rw [zo.t]; exact hct
    have hts:=(cn (j:=2) st rfl).1
    rw [buf_nat hct]
    refine cC (bB z.ts st (i:=0) rfl rfl rfl ?_)
    refine dF st (j:=2) rfl (by omega) (by omega) fun q hq=>?_
    refine eB (j:=2) (i:=n) (k:=0) z.tp[n] gf st rfl hq (by simp) (aL hcp) (by simp) ?_
    have s2:=iw (aL hcp) (aL hct) (bn [3] st rfl)
    refine tj (sp_tlb_Lines z.tp[n] k.tlbs[n]) (i:=0) rfl s2 fun r h3 s3=>?_
    refine uH s3 fun h4 s4=>?_
    exact lW zo ok (bn [1,1,1] (qN (aL hcp) (aL hct) zo.t s4) rfl)
theorem sp_slices_CloneE (s:Sl) (xs:List co) (hb:xs.length < 2 ^ 38):Sp Tryz.prog eS [sv s] eC [vE s xs] (fun r=>aQ [vE r xs,vE s xs]):=by
  intro h s0
  refine mi _ ?_
  unfold gV
  refine bk (fun k=>?_) (fun k=>?_)
  · have hn:xs = []:=by
      obtain ⟨_,⟨e1,e2,e3⟩,_⟩:=ee (i:=0) rfl s0
      rcases e3 with e3 | ⟨b,pre,rest,U,fr,h4,_⟩
      · exact List.eq_nil_of_length_eq_zero (by omega)
      · rw [h4] at k; cases k
    subst hn
    exact ft s0
  · refine fz (τ:=co) [] (val:=fun x=>.agg x.C.toArray) (enc:=aO.C) qf mt (fun _=>rfl) s0 rfl rfl (by simp) fun y h' s1=>?_
    refine tq (τ:=co) (i:=0) (j:=1) (enc:=aO.C) (xs:=[]) (ys:=xs) qf qf.sl mt ev_one s1 rfl rfl (by omega) (by simp; omega) (by simp; omega) fun v h2 s2=>?_
    exact s2
theorem nX (x:Ptr) (k:KK) (hb:k.now < 2 ^ 38):Sp Tryz.prog fO [pv x] eC [dc x k] (fun r=>aQ [vE r k.events,dc x k]):=by
  intro h s0
  obtain ⟨z,rfl,zo,ok,st⟩:=oJ s0
  have:=ok.evn
  refine sim_kern_Kern_Events _ ?_
  unfold rp
  refine dv rfl (cC (bB z.es st (i:=0) rfl rfl rfl ?_))
  refine tj (sp_slices_CloneE z.es k.events (by omega)) (i:=8) rfl st fun r h1 s1=>?_
  exact uH s1 fun h2 s2=>lW zo ok s2
end Go.Proofs.YtniiiakkdoiaiaaGreatDoor
