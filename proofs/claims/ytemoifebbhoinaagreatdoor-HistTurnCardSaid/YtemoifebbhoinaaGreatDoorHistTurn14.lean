/- Part of the proof of: The law HistTurn returns true for every input, and leaves its arguments as they were. -/
import Derived.Test.YtemoifebbhoinaaGreatDoorHistTurn13
set_option linter.all false
set_option maxRecDepth 20000
namespace Go.Proofs.YtemoifebbhoinaaGreatDoor
open Go Mb
theorem iF (e:bq):e.C.length = 16:=rfl
theorem ev_one (e:bq):dL e.C = true:=rfl
abbrev vE (s:Sl) (xs:List bq):As:=vec t_api_Event 16 aB.C s xs
def iR (x:Ptr):Option KC→As
  | none=>fun _=>x = none
  | some c=>fun h=>∃ b:Nat,x = some (b,0)∧blk b cT c.C h
section
variable {l:List As} {h:Hp} {cp:List Ptr} {cs:List (Option KC)} {n:Nat}
theorem all_get {σ α:Type} {A:σ→α→As} {ps:List σ} {xs:List α} {i j:Nat} {p:σ} {x:α} (st:aF l h) (hj:l[j]? = some (all A ps xs)) (hp:ps[i]? = some p) (hx:xs[i]? = some x):∃ h1,A p x h1∧∀ b o,h1 b = some o→h b = some o:=by
  obtain ⟨h1,a,sub⟩:=dX hj st
  obtain ⟨h2,a2,sub2⟩:=dX (objs_get hp hx) a
  exact ⟨h2,a2,fun b o e=>sub _ _ (sub2 _ _ e)⟩
theorem call_none {j:Nat} {p:Ptr} (st:aF l h) (hj:l[j]? = some (all iR cp cs)) (hp:cp[n]? = some p) (hx:cs[n]? = some none):p = none:=by
  obtain ⟨_,a,_⟩:=all_get st hj hp hx; exact a
theorem wo {j:Nat} {p:Ptr} {x:KC} (st:aF l h) (hj:l[j]? = some (all iR cp cs)) (hp:cp[n]? = some p) (hx:cs[n]? = some (some x)):∃ b,p = some (b,0)∧h b = some (.cells x.C.toArray cT (0,0)):=by
  obtain ⟨_,⟨b,e,a⟩,sub⟩:=all_get st hj hp hx
  exact ⟨b,e,sub _ _ a⟩
theorem all_but {σ α:Type} {A:σ→α→As} {ps:List σ} {xs:List α} {i:Nat} {p:σ} {x:α} (hp:ps[i]? = some p) (hx:xs[i]? = some x) (s:aF (all A ps xs::l) h):aF (but A ps xs i::l) h:=by
  obtain ⟨h1,h2,d,e,_,s'⟩:=jq hp hx s
  rw [e,un_comm d]; exact sF s' d.symm
theorem call_mk {b:Nat} {y:KC} (s:aF (blk b cT y.C::l) h):aF (iR (some (b,0)) (some y)::l) h:=by
  obtain ⟨h1,h2,d,e,a,s'⟩:=s
  exact ⟨h1,h2,d,e,⟨b,rfl,a⟩,s'⟩
theorem ld_c {τ:Type} {j b off:Nat} {x:KC} {enc:τ→List Value} {K:τ→Hp→Prop} (y:τ) (st:aF l h) (hj:l[j]? = some (all iR cp cs)) (hp:cp[n]? = some (some (b,0))) (hx:cs[n]? = some (some x)) (hy:∀ i v,(enc y)[i]? = some v→x.C[off + i]? = some v) (k:K y h):ld (b,off) enc K h:=by
  obtain ⟨b',e,a⟩:=wo st hj hp hx
  cases e
  exact ⟨y,⟨_,_,_,a,fun i v hv=>by simpa using hy i v hv⟩,k⟩
theorem ld_c1 {τ:Type} {j b off:Nat} {x:KC} {enc:τ→List Value} {K:τ→Hp→Prop} {v:Value} (y:τ) (st:aF l h) (hj:l[j]? = some (all iR cp cs)) (hp:cp[n]? = some (some (b,0))) (hx:cs[n]? = some (some x)) (he:enc y = [v]) (hv:x.C[off]? = some v) (k:K y h):ld (b,off) enc K h :=
  ld_c y st hj hp hx (c1 he hv) k
theorem call_out {p:Ptr} {x:KC} (hp:cp[n]? = some p) (hx:cs[n]? = some (some x)) (s:aF (all iR cp cs::l) h):∃ b,p = some (b,0)∧aF (blk b cT x.C::but iR cp cs n::l) h:=by
  obtain ⟨h1,h2,d,e,⟨b,e1,a⟩,s'⟩:=jq hp hx s
  exact ⟨b,e1,h1,h2,d,e,a,s'⟩
theorem call_in {b:Nat} {y:KC} (hp:cp[n]? = some (some (b,0))) (hn:n < cs.length) (hl:cp.length = cs.length) (s:aF (blk b cT y.C::but iR cp cs n::l) h):aF (all iR cp (cs.set n (some y))::l) h:=by
  obtain ⟨h1,h2,d,e,a,s'⟩:=s
  exact vo (A:=iR) hp hn hl ⟨h1,h2,d,e,⟨b,rfl,a⟩,s'⟩
end
def capOf (h:Hp) (x:Ptr):Cap:=match x with
  | some q=>(match h q.1 with
    | some (.cells c _ _)=>(match c.toList with
      | [.int _ a,.int _ b,.int _ d,.int _ e]=>⟨a,b,d,e⟩
      | _=>lV)
    | _=>lV)
  | none=>lV
theorem capOf_eq {l:List As} {h:Hp} {i b T:Nat} {c:Cap} (st:aF l h) (hi:l[i]? = some (blk b T c.C)):capOf h (some (b,0)) = c:=by
  obtain ⟨h1,a,sub⟩:=dX hi st
  unfold capOf
  rw [show (some (b,0):Ptr) = some (b,0) from rfl]
  simp only [sub _ _ a]
  rfl
theorem at_get {t:Caps.T} {e s:Int} (h1:Caps.has t e s = true) (h2:(Caps.get t e s).fRights ≠ 0):Caps.at_ t e s = (Caps.get t e s,true):=if_pos ⟨h1,h2⟩
def wx (t:Caps.T) (x:KC) (r:Cap × Bool):Bool:=if r.2 = true then Caps.under t r.1 ⟨x.fenv,IntKind.i64.wrap x.fc.e1⟩ else false
theorem up_at {t:Caps.T} (x:KC) (e s:Int):wx t x (Caps.at_ t e s) = (if Caps.has t e s = true then Caps.under t (Caps.get t e s) ⟨x.fenv,IntKind.i64.wrap x.fc.e1⟩ else false):=by
  unfold wx
  by_cases h1:Caps.has t e s = true
  · by_cases h2:(Caps.get t e s).fRights ≠ 0
    · rw [at_get h1 h2,if_pos rfl,if_pos h1]
    · have ea:Caps.at_ t e s = (lV,false):=if_neg (fun hh=>h2 hh.2)
      rw [ea,if_neg Bool.false_ne_true,if_pos h1]
      cases hu:Caps.under t (Caps.get t e s) ⟨x.fenv,IntKind.i64.wrap x.fc.e1⟩ with
      | false=>rfl
      | true=>exact absurd (Caps.under_rights hu) h2
  · have ea:Caps.at_ t e s = (lV,false):=if_neg (fun hh=>h1 hh.1)
    rw [ea,if_neg Bool.false_ne_true,if_neg h1]
theorem sp_kern_goes (kb xb:Nat) (pp:Ptr) (kc:List Value) (p:PK) (x:KC) (e s:Int) (h0:kc[0]? = some (pv pp)) :
    Sp Tryz.prog ql [pv (some (kb,0)),pv (some (xb,0)),.int .i64 e,.int .i64 s] aA [blk kb cj kc,blk xb cT x.C,bt pp p] (fun r=>pa_ (r = KK.goes p x e s) [blk kb cj kc,blk xb cT x.C,bt pp p]):=by
  intro h s0
  have tok:Caps.Ok p.caps:=by
    obtain ⟨_,_,_,ok,_⟩:=fS (bc [2] s0 rfl); exact ok.tree
  refine sim_kern_Kern_goes _ _ _ _ ?_
  unfold uo
  have j1:¬ (x.fc.e0 = 5∧e = x.fenv∧s = IntKind.i64.wrap x.fc.e1)→jm (some (kb,0)) e s (fun r=>pa_ (r = KK.goes p x e s) [blk kb cj kc,blk xb cT x.C,bt pp p]) (xb,0) x.fc.e1 () h:=by
    intro hno
    have eg:KK.goes p x e s = wx p.caps x (Caps.at_ p.caps e s):=by unfold KK.goes; rw [if_neg hno,up_at]
    rw [eg]
    unfold jm
    refine cE (bp pp s0 (i:=0) rfl rfl h0 ?_)
    refine bR (wF pp p e s) (i:=2) rfl s0 fun r h1 hr s1=>?_
    subst hr
    refine pD s1 fun b h2 s2=>?_
    refine tT (i:=0) s2 rfl (by simp [qC]) fun h3 s3=>?_
    have s3':aF [blk b fU (Caps.at_ p.caps e s).1.C,blk kb cj kc,blk xb cT x.C,bt pp p] h3:=s3
    refine Lp.intro (fun (z:Ptr × Bool) h=>∃ (b:Nat) (a i:Int),z = (some (b,0),(Caps.at_ p.caps a i).2)∧wx p.caps x (Caps.at_ p.caps a i) = wx p.caps x (Caps.at_ p.caps e s)∧aF [blk b fU (Caps.at_ p.caps a i).1.C,blk kb cj kc,blk xb cT x.C,bt pp p] h)
      (fun (z:Ptr × Bool) h=>Caps.deep 40 p.caps (capOf h z.1)) ⟨b,e,s,rfl,rfl,s3'⟩ ?_
    rintro z h ⟨b,a,i,rfl,hu,s4⟩
    unfold pu
    rw [capOf_eq (i:=0) s4 rfl]
    refine aY (fun k=>?_) (fun k=>?_)
    · have hat:Caps.has p.caps a i = true∧(Caps.get p.caps a i).fRights ≠ 0:=by
        unfold Caps.at_ at k; split at k
        · assumption
        · cases k
      have e1:=at_get hat.1 hat.2
      rw [e1] at s4 hu ⊢
      have step:=Caps.under_step tok hat.1 ⟨x.fenv,IntKind.i64.wrap x.fc.e1⟩
      have hu':wx p.caps x (Caps.get p.caps a i,true) = Caps.under p.caps (Caps.get p.caps a i) ⟨x.fenv,IntKind.i64.wrap x.fc.e1⟩:=rfl
      rw [hu'] at hu
      refine cE (bp (Caps.get p.caps a i).fEnv s4 (i:=0) rfl rfl rfl ?_)
      refine aY (fun k2=>?_) (fun k2=>?_)
      · have k2':0 ≤ (Caps.get p.caps a i).fEnv:=by simpa using k2
        rw [if_pos ⟨hat.2,k2'⟩] at step
        have dd:=Caps.deep_step tok hat.1 ⟨hat.2,k2'⟩
        obtain ⟨q1,q2⟩:=Caps.parent_has tok hat.1 hat.2 k2'
        have next:¬ ((Caps.get p.caps a i).fEnv = x.fenv∧(Caps.get p.caps a i).fSlot = IntKind.i64.wrap x.fc.e1) →
            jl (kb,0) b (fun s' h'=>(∃ (b:Nat) (a i:Int),s' = (some (b,0),(Caps.at_ p.caps a i).2)∧wx p.caps x (Caps.at_ p.caps a i) = wx p.caps x (Caps.at_ p.caps e s)∧aF [blk b fU (Caps.at_ p.caps a i).1.C,blk kb cj kc,blk xb cT x.C,bt pp p] h')∧Caps.deep 40 p.caps (capOf h' s'.1) < Caps.deep 40 p.caps (Caps.get p.caps a i)) (b,0) () h:=by
          intro hne
          unfold jl
          refine ld_s (i:=0) (Caps.get p.caps a i) s4 rfl (by simp) ?_
          refine pD s4 fun b2 h5 s5=>?_
          refine tT (i:=0) s5 rfl (by simp [qC]) fun h6 s6=>?_
          have s6':aF [blk b2 fU (Caps.get p.caps a i).C,blk b fU (Caps.get p.caps a i).C,blk kb cj kc,blk xb cT x.C,bt pp p] h6:=s6
          refine bp pp s6' (i:=2) rfl rfl h0 ?_
          refine bp (Caps.get p.caps a i).fEnv s6' (i:=0) rfl rfl rfl ?_
          refine bp (Caps.get p.caps a i).fSlot s6' (i:=0) rfl rfl rfl ?_
          refine bR (wF pp p _ _) (i:=4) rfl s6' fun r h7 hr s7=>?_
          subst hr
          refine tT (i:=0) s7 rfl (by simp [qC]) fun h8 s8=>?_
          have s8':aF [blk b2 fU (Caps.at_ p.caps (Caps.get p.caps a i).fEnv (Caps.get p.caps a i).fSlot).1.C,blk b fU (Caps.get p.caps a i).C,blk kb cj kc,blk xb cT x.C,bt pp p] h8:=s8
          have e2:=at_get q1 q2
          refine ⟨⟨b2,_,_,rfl,?_,bZ (l:=[blk b fU (Caps.get p.caps a i).C]) (bc [1] s8' rfl)⟩,?_⟩
          · rw [e2,← hu,step,if_neg hne]; rfl
          · rw [capOf_eq (i:=0) s8' rfl,e2]; exact dd
        refine bp (Caps.get p.caps a i).fEnv s4 (i:=0) rfl rfl rfl ?_
        refine bp x.fenv s4 (i:=2) rfl rfl rfl ?_
        refine aY (fun k3=>?_) (fun k3=>?_)
        · have k3':(Caps.get p.caps a i).fEnv = x.fenv:=by simpa using k3
          refine bp (Caps.get p.caps a i).fSlot s4 (i:=0) rfl rfl rfl ?_
          refine aY (fun k4=>?_) (fun k4=>?_)
          · have k4':(Caps.get p.caps a i).fSlot = IntKind.i64.wrap x.fc.e1:=by simpa using k4
            rw [if_pos ⟨k3',k4'⟩] at step
            exact aZ (by rw [← hu,step]) (bZ (l:=[blk b fU (Caps.get p.caps a i).C]) s4)
          · exact next (fun hh=>by simp [hh.2] at k4)
        · exact next (fun hh=>by simp [hh.1] at k3)
      · have k2':¬ 0 ≤ (Caps.get p.caps a i).fEnv:=by simpa using k2
        rw [if_neg (fun hh=>k2' hh.2)] at step
        exact aZ (by rw [← hu,step]) (bZ (l:=[blk b fU (Caps.get p.caps a i).C]) s4)
    · refine aZ ?_ (bZ (l:=[blk b fU (Caps.at_ p.caps a i).1.C]) s4)
      rw [← hu]; unfold wx
      have k':(Caps.at_ p.caps a i).2 = false:=k
      rw [k']; rfl
  refine cE (bp x.fc.e1 s0 (i:=1) rfl rfl rfl ?_)
  refine bp x.fc.e0 s0 (i:=1) rfl rfl rfl ?_
  refine aY (fun k=>?_) (fun k=>?_)
  · have k':x.fc.e0 = 5:=by simpa using k
    refine bp x.fenv s0 (i:=1) rfl rfl rfl ?_
    refine aY (fun k2=>?_) (fun k2=>?_)
    · have k2':e = x.fenv∧s = IntKind.i64.wrap x.fc.e1:=by simpa using k2
      exact aZ (by unfold KK.goes; rw [if_pos ⟨k',k2'⟩]) s0
    · exact j1 (fun hh=>by simp [hh.2.1,hh.2.2] at k2)
  · exact j1 (fun hh=>by simp [hh.1] at k)
theorem sp_kern_left (kb xb:Nat) (pp:Ptr) (kc:List Value) (p:PK) (x:KC) (e pg:Int) (q:Pte) (h0:kc[0]? = some (pv pp)) :
    Sp Tryz.prog mq [pv (some (kb,0)),pv (some (xb,0)),.int .i64 e,.int .i64 pg,.agg q.C.toArray] wu [blk kb cj kc,blk xb cT x.C,bt pp p] (fun r=>pa_ (r = KK.left p x e pg q) [blk kb cj kc,blk xb cT x.C,bt pp p]):=by
  intro h s0
  refine sim_kern_Kern_left _ _ _ _ _ ?_
  unfold um
  have j1:∀ o:Bool,o = decide (x.fenv = e∧IntKind.i64.wrap x.fc.e1 = pg)→jk (some (kb,0)) (some (xb,0)) e q (fun r=>pa_ (r = KK.left p x e pg q) [blk kb cj kc,blk xb cT x.C,bt pp p]) o h:=by
    intro o ho
    unfold jk
    refine cE (bp x.fc.e0 s0 (i:=1) rfl rfl rfl ?_)
    refine aY (fun k=>?_) (fun k=>?_)
    · have k':x.fc.e0 = 7:=by simpa using k
      refine aY (fun k2=>?_) (fun k2=>?_)
      · have k2':x.fenv = e∧IntKind.i64.wrap x.fc.e1 = pg:=of_decide_eq_true (ho ▸ k2)
        exact aZ (by unfold KK.left; rw [if_pos k',if_pos k2']) s0
      · have k2':¬ (x.fenv = e∧IntKind.i64.wrap x.fc.e1 = pg):=of_decide_eq_false (ho ▸ k2)
        exact aZ (by unfold KK.left; rw [if_pos k',if_neg k2']) s0
    · have k':¬ x.fc.e0 = 7:=by simpa using k
      refine aY (fun k2=>?_) (fun k2=>?_)
      · have k2':x.fc.e0 = 8:=by simpa using k2
        refine cE (bp pp s0 (i:=0) rfl rfl h0 ?_)
        refine bR (wF pp p e q.fSlot) (i:=2) rfl s0 fun r h1 hr s1=>?_
        subst hr
        refine bp x.fc.e2 s1 (i:=1) rfl rfl rfl ?_
        refine aY (fun k3=>?_) (fun k3=>?_)
        · rw [Bool.and_eq_true] at k3
          have k3':x.fenv = e∧IntKind.i64.wrap x.fc.e1 = pg:=of_decide_eq_true (ho ▸ k3.1)
          exact aZ (by unfold KK.left; rw [if_neg k',if_pos k2',if_pos ⟨k3',k3.2⟩]) s1
        · have k3':¬ ((x.fenv = e∧IntKind.i64.wrap x.fc.e1 = pg)∧aV (IntKind.i64.wrap x.fc.e2) (Caps.at_ p.caps e q.fSlot).1.fRights = true):=by
            rintro ⟨h3,h4⟩
            rw [ho,decide_eq_true h3,h4] at k3; cases k3
          exact aZ (by unfold KK.left; rw [if_neg k',if_pos k2',if_neg k3']) s1
      · have k2':¬ x.fc.e0 = 8:=by simpa using k2
        refine cR [0,0,0] (sp_kern_goes kb xb pp kc p x e q.fSlot h0) s0 rfl fun r h1 s1=>?_
        obtain ⟨rfl,s2⟩:=bu.1 s1
        refine aY (fun k3=>?_) (fun k3=>?_)
        · exact aZ (by unfold KK.left; rw [if_neg k',if_neg k2',if_pos k3]) s2
        · exact aZ (by unfold KK.left; rw [if_neg k',if_neg k2',if_neg (by rw [k3]; exact Bool.false_ne_true)]) s2
  refine cE (bp x.fenv s0 (i:=1) rfl rfl rfl ?_)
  refine aY (fun k=>?_) (fun k=>?_)
  · have k':x.fenv = e:=by simpa using k
    refine bp x.fc.e1 s0 (i:=1) rfl rfl rfl ?_
    refine j1 _ ?_
    by_cases h1:IntKind.i64.wrap x.fc.e1 = pg <;> simp [k',h1]
  · have k':¬ x.fenv = e:=by simpa using k
    exact j1 false (by simp [k'])
theorem sp_kern_seen (kb:Nat) (pp:Ptr) (kc:List Value) (p:PK) (cs:Sl) (cp:List Ptr) (calls:List (Option KC)) (e pg:Int) (h0:kc[0]? = some (pv pp)) (h5:kc[5]? = some (sv cs)) (hl:cp.length = calls.length) (hb:calls.length ≤ 8) :
    Sp Tryz.prog mo [pv (some (kb,0)),.int .i64 e,.int .i64 pg] cF [blk kb cj kc,bt pp p,vQ fA cs cp,all iR cp calls] (fun r=>pa_ (r = KK.seenFrom p e pg calls (PK.pte p e pg).2 (PK.pte p e pg).1) [blk kb cj kc,bt pp p,vQ fA cs cp,all iR cp calls]):=by
  intro h s0
  refine sim_kern_Kern_seen _ _ _ ?_
  unfold ul
  refine cE (bp pp s0 (i:=0) rfl rfl h0 ?_)
  refine bR (sd pp p e pg) (i:=1) rfl s0 fun r h1 hr s1=>?_
  subst hr
  refine bp cs s1 (i:=0) rfl rfl h5 ?_
  have hcs:=(ce (j:=2) s1 rfl).1
  refine Lp.intro (fun (z:Bool × Int × Pte) h=>∃ n:Nat,z.2.1 = n∧n ≤ calls.length∧KK.seenFrom p e pg (calls.drop n) z.1 z.2.2 = KK.seenFrom p e pg calls (PK.pte p e pg).2 (PK.pte p e pg).1∧aF [blk kb cj kc,bt pp p,vQ fA cs cp,all iR cp calls] h) (fun (z:Bool × Int × Pte) _=>calls.length - z.2.1.toNat) ⟨0,rfl,Nat.zero_le _,rfl,s1⟩ ?_
  rintro ⟨b,i,q⟩ h ⟨n,rfl,hn,he,s2⟩
  unfold pt
  simp only at he ⊢
  refine aY (fun k=>?_) (fun k=>?_)
  · have hlt:n < calls.length:=by rw [hcs,hl] at k; simpa using k
    have hlp:n < cp.length:=by omega
    have hw:IntKind.i64.wrap ((n:Int) + 1) = ((n + 1:Nat):Int):=by rw [bP (by omega) (by omega)]; rfl
    rw [List.drop_eq_getElem_cons hlt] at he
    refine du s2 (j:=2) rfl (by omega) (by show (n:Int) < _; omega) fun q0 hq0=>?_
    refine dU (j:=2) (i:=n) (k:=0) cp[n] gM s2 rfl hq0 (by simp) (aD hlp) (by simp) ?_
    have skip:KK.seenFrom p e pg (calls.drop (n + 1)) b q = KK.seenFrom p e pg calls (PK.pte p e pg).2 (PK.pte p e pg).1→gF e pg (kb,0) (fun s' h'=>(∃ n:Nat,s'.2.1 = n∧n ≤ calls.length∧KK.seenFrom p e pg (calls.drop n) s'.1 s'.2.2 = KK.seenFrom p e pg calls (PK.pte p e pg).2 (PK.pte p e pg).1∧aF [blk kb cj kc,bt pp p,vQ fA cs cp,all iR cp calls] h')∧calls.length - s'.2.1.toNat < calls.length - (n:Int).toNat) (b,(n:Int),q) cp[n] false h:=by
      intro hs
      unfold gF
      refine dI rfl ?_
      rw [hw]
      exact ⟨⟨n + 1,rfl,hlt,hs,s2⟩,by simp; omega⟩
    cases hc:calls[n] with
    | none =>
      have hcn:calls[n]? = some none:=by rw [aD hlt,hc]
      have hp:=call_none (j:=3) s2 rfl (aD hlp) hcn
      rw [hc] at he
      refine dI (by rw [hp]; simp) ?_
      exact skip he
    | some x =>
      have hcn:calls[n]? = some (some x):=by rw [aD hlt,hc]
      obtain ⟨xb,hp,hbx⟩:=wo (j:=3) s2 rfl (aD hlp) hcn
      rw [hc,KK.seenFrom] at he
      have hcp:cp[n]? = some (some (xb,0)):=by rw [aD hlp,hp]
      rw [hp] at skip ⊢
      refine aY (fun k2=>?_) (fun k2=>?_)
      · have k2':b = true:=by simpa using k2
        subst k2'
        refine cE (ld_c1 (j:=3) x.ftold s2 rfl hcp hcn rfl rfl ?_)
        cases ht:x.ftold with
        | false =>
          rw [ht,if_neg (by simp)] at he
          exact skip he
        | true =>
          rw [ht,if_pos ⟨rfl,rfl⟩] at he
          unfold gF
          refine dZ rfl ?_
          obtain ⟨xb',hp',s3⟩:=call_out hcp hcn (bc [3] s2 rfl)
          cases hp'
          refine cR [2,0,1] (sp_kern_left kb xb pp kc p x e pg q h0) s3 rfl fun r h4 s4=>?_
          obtain ⟨rfl,s5⟩:=bu.1 s4
          rw [hw]
          have s6:=call_in (y:=x) hcp hlt hl (bc [1,2] s5 rfl)
          rw [iZ hcn] at s6
          refine ⟨⟨n + 1,rfl,hlt,he,bc [1,1,1] s6 rfl⟩,by simp; omega⟩
      · have k2':b = false:=by simpa using k2
        subst k2'
        rw [if_neg (by simp)] at he
        exact skip he
  · have:n = calls.length:=by rw [hcs,hl] at k; simp at k; omega
    subst this
    rw [List.drop_length] at he
    exact aZ he s2
theorem any_succ (f:Nat→Bool) (n:Nat):(List.range (n + 1)).any f = ((List.range n).any f || f n):=by
  rw [List.range_succ,List.any_append]; simp
theorem any_true {f:Nat→Bool} {n N:Nat} (h:n < N) (hf:f n = true):(List.range N).any f = true:=List.any_eq_true.2 ⟨n,List.mem_range.2 h,hf⟩
theorem sp_kern_takes (kb xb:Nat) (pp:Ptr) (kc:List Value) (p:PK) (x:KC) (h0:kc[0]? = some (pv pp)) (h1:kc[1]? = some (.int .i64 p.s.fEnvs)) :
    Sp Tryz.prog pb [pv (some (kb,0)),pv (some (xb,0))] aA [blk kb cj kc,blk xb cT x.C,bt pp p] (fun r=>pa_ (r = KK.takes p x) [blk kb cj kc,blk xb cT x.C,bt pp p]):=by
  intro h s0
  have hsz:1 ≤ p.s.fEnvs∧p.s.fEnvs ≤ 4:=by
    obtain ⟨_,_,_,ok,_⟩:=fS (bc [2] s0 rfl); have:=fV.1 ok.sz; omega
  refine sim_kern_Kern_takes _ _ ?_
  unfold sZ
  have no:(Word.check x.fc p.s.fEnvs ≠ 0∨x.fc.e0 < 4∨x.fc.e0 > 8∨x.fc.e0 = 6)→KK.takes p x = false:=fun hh=>if_pos hh
  refine cE (cE ?_)
  refine ld_s (i:=1) x.fc s0 rfl ?_ ?_
  · intro j v hv
    have:j < 5:=(List.getElem?_eq_some_iff.1 hv).1
    match j,this with
    | 0,_=>exact hv
    | 1,_=>exact hv
    | 2,_=>exact hv
    | 3,_=>exact hv
    | 4,_=>exact hv
  refine bp p.s.fEnvs s0 (i:=0) rfl rfl h1 ?_
  refine tV (ju x.fc _) s0 fun r h2 hr s1=>?_
  subst hr
  refine aY (fun k=>?_) (fun k=>?_)
  · exact aZ (no (.inl (by simpa using k))).symm s1
  have k0:¬ Word.check x.fc p.s.fEnvs ≠ 0:=by simpa using k
  refine bp x.fc.e0 s1 (i:=1) rfl rfl rfl ?_
  refine aY (fun k1=>?_) (fun k1=>?_)
  · exact aZ (no (.inr (.inl (by simpa using k1)))).symm s1
  refine bp x.fc.e0 s1 (i:=1) rfl rfl rfl ?_
  refine aY (fun k2=>?_) (fun k2=>?_)
  · exact aZ (no (.inr (.inr (.inl (by simpa using k2))))).symm s1
  refine bp x.fc.e0 s1 (i:=1) rfl rfl rfl ?_
  refine aY (fun k3=>?_) (fun k3=>?_)
  · exact aZ (no (.inr (.inr (.inr (by simpa using k3))))).symm s1
  have yes:KK.takes p x = (List.range p.s.fEnvs.toNat).any fun e=>(List.range 8).any fun pg=>KK.hits p x e pg:=by
    unfold KK.takes
    rw [if_neg]
    rintro (h | h | h | h)
    · exact k0 h
    · simp at k1; omega
    · simp at k2; omega
    · simp at k3; exact k3 h
  rw [yes]
  obtain ⟨N,hN⟩:=Int.eq_ofNat_of_zero_le (show 0 ≤ p.s.fEnvs by omega)
  have hNt:p.s.fEnvs.toNat = N:=by omega
  rw [hNt]
  refine bp p.s.fEnvs s1 (i:=0) rfl rfl h1 ?_
  refine Lp.intro (fun (i:Int) h=>∃ n:Nat,i = n∧n ≤ N∧((List.range n).any fun e=>(List.range 8).any fun pg=>KK.hits p x e pg) = false∧aF [blk kb cj kc,blk xb cT x.C,bt pp p] h) (fun (i:Int) _=>N - i.toNat) ⟨0,rfl,Nat.zero_le _,rfl,s1⟩ ?_
  rintro i h ⟨n,rfl,hn,ha,s2⟩
  unfold nN
  refine aY (fun k4=>?_) (fun k4=>?_)
  · have hlt:n < N:=by rw [hN] at k4; simpa using k4
    have hw:IntKind.i64.wrap ((n:Int) + 1) = ((n + 1:Nat):Int):=by rw [bP (by omega) (by omega)]; rfl
    refine Lp.intro (fun (i:Int) h=>∃ m:Nat,i = m∧m ≤ 8∧((List.range m).any fun pg=>KK.hits p x n pg) = false∧aF [blk kb cj kc,blk xb cT x.C,bt pp p] h) (fun (i:Int) _=>8 - i.toNat) ⟨0,rfl,Nat.zero_le _,rfl,s2⟩ ?_
    rintro i h ⟨m,rfl,hm,ha2,s3⟩
    unfold nM
    refine aY (fun k5=>?_) (fun k5=>?_)
    · have hlt2:m < 8:=by have:=of_decide_eq_true k5; omega
      have hw2:IntKind.i64.wrap ((m:Int) + 1) = ((m + 1:Nat):Int):=by rw [bP (by omega) (by omega)]; rfl
      refine bp pp s3 (i:=0) rfl rfl h0 ?_
      refine bR (sd pp p n m) (i:=2) rfl s3 fun r h4 hr s4=>?_
      subst hr
      refine aY (fun k6=>?_) (fun k6=>?_)
      · refine cR [0,0,0] (sp_kern_left kb xb pp kc p x n m (PK.pte p n m).1 h0) s4 rfl fun r h5 s5=>?_
        obtain ⟨rfl,s6⟩:=bu.1 s5
        refine aY (fun k7=>?_) (fun k7=>?_)
        · have hh:KK.hits p x n m = true:=by unfold KK.hits; rw [k6,k7]; rfl
          exact aZ (any_true hlt (any_true hlt2 hh)).symm s6
        · have hh:KK.hits p x n m = false:=by unfold KK.hits; rw [k6,k7]; rfl
          rw [hw2]
          exact ⟨⟨m + 1,rfl,hlt2,by rw [any_succ,ha2,hh]; rfl,s6⟩,by simp; omega⟩
      · have hh:KK.hits p x n m = false:=by unfold KK.hits; rw [k6]; rfl
        rw [hw2]
        exact ⟨⟨m + 1,rfl,hlt2,by rw [any_succ,ha2,hh]; rfl,s4⟩,by simp; omega⟩
    · have:m = 8:=by have:=of_decide_eq_false k5; omega
      subst this
      rw [hw]
      exact ⟨⟨n + 1,rfl,hlt,by rw [any_succ,ha,ha2]; rfl,s3⟩,by simp; omega⟩
  · have:n = N:=by rw [hN] at k4; simp at k4; omega
    subst this
    exact aZ ha.symm s2
end Go.Proofs.YtemoifebbhoinaaGreatDoor
namespace Go.Proofs.YtemoifebbhoinaaGreatDoor
open Go Mb
set_option linter.unusedVariables false
def hist_May_l1 (a0:Sl) (a1:au) (K:Bool→Hp→Prop) (v12:(Option Nat)) (v13:(Option Nat)) (Rec4:(Int × Int)→Hp→Prop) (s3:Int × Int):Hp→Prop:=br (decide (s3.2 < (a0.len:Int))) ( ix a0 s3.2 fun q18=>ld (q18.1,q18.2 + Int.toNat s3.2 * 16) aB.C fun x19=>br ((!(!(dC x19 a1 s3.1))) && (decide (x19.fEffect > 0))) ( hpv Tryz.prog (Instr.lookup jE (.map v12) (.int .i64 x19.fEffect) false) aA fun (v33:Bool)=>br v33 ( K false) ( hpv Tryz.prog (Instr.lookup hY (.map v13) (.int .i64 x19.fCore) true) bQ fun (v40:Int × Bool)=>br (v40.2 && ((decide (v40.1 ≤ 0)) || (decide (x19.fBegin ≤ v40.1)))) ( K false) ( hpu Tryz.prog (Instr.mapUpdate jE (.map v12) (.int .i64 x19.fEffect) (.bool true))<|hpu Tryz.prog (Instr.mapUpdate hY (.map v13) (.int .i64 x19.fCore) (.int .i64 x19.fEnd))<|Rec4 (x19.fBegin,(IntKind.i64.wrap (s3.2 + 1)))))) ( br ((!(dC x19 a1 s3.1)) || false) ( K false) ( hpv Tryz.prog (Instr.lookup hY (.map v13) (.int .i64 x19.fCore) true) bQ fun (v40:Int × Bool)=>br (v40.2 && ((decide (v40.1 ≤ 0)) || (decide (x19.fBegin ≤ v40.1)))) ( K false) ( hpu Tryz.prog (Instr.mapUpdate jE (.map v12) (.int .i64 x19.fEffect) (.bool true))<|hpu Tryz.prog (Instr.mapUpdate hY (.map v13) (.int .i64 x19.fCore) (.int .i64 x19.fEnd))<|Rec4 (x19.fBegin,(IntKind.i64.wrap (s3.2 + 1))))))) ( K true)
def sh_hist_May (a0:Sl) (a1:au) (K:Bool→Hp→Prop):Hp→Prop:=hpv Tryz.prog (Instr.makeMap jE none) R_map_int_bool fun (v12:(Option Nat))=>hpv Tryz.prog (Instr.makeMap hY none) R_map_int_int fun (v13:(Option Nat))=>Lp (hist_May_l1 a0 a1 K v12 v13) (0,0)
theorem sim_hist_May (a0:Sl) (a1:au) {K:Bool→Hp→Prop} {h:Hp} (H:sh_hist_May a0 a1 K h):Ct Tryz.prog qn #[(sv a0),(.agg (au.C a1).toArray)] h fun v h'=>∃ r,v = aA r∧K r h':=aw [(sv a0),(.agg (au.C a1).toArray)] Tryz.func25 c c c fun _=>M<|aa<|cA (l:=au.C a1) c c c fun b3=>O c<|M<|aa<|aU H x_makeMap0 c fun v12 _ H1=>aa<|aU H1 x_makeMap0 c fun v13 _ H2=>p (ar c)<|p (ar c)<|O c<|ak<|M<|J c<|p (dl c Tryz.underlying42 c)<|J c<|ad<|ax<|bG (step:=hist_May_l1 a0 a1 K v12 v13) (fun s3=>[(3,(.pointer (some ⟨b3,0,none⟩))),(5,(.int .i64 s3.1)),(6,(.map v12)),(7,(.map v13)),(14,(sv a0)),(15,(.int .i64 (a0.len:Int))),(16,(.int .i64 s3.2))]) (fun s3=>[bx b3 25 (au.C a1)]) H2 (.cons c<|.cons c<|.cons c<|.cons c<|.cons c<|.cons c<|.cons c<|.nil _) (.cons_cons _ .slnil) fun Rec4 s3 _ H5=>M<|p (cq c c)<|ad<|ak<|av c H5 (fun k6 H7=>an<|ak<|ax<|M<|ck H7 fun q18 e8 h9 H10=>p (bh fu (aK c<|aX e8) c h9)<|aa<|gI H10 ag_56 c (fun _=>c) c fun x19 H11=>aa<|aP (l:=aB.C (⟨0,0,(⟨0,0,0,0,0⟩:ai),0,0,0,(⟨0,0⟩:ac),(⟨0,0,0,0⟩:am)⟩:aB)) zero_56 c c fun b9=>aa<|aR (k:=0) (vs:=aB.C x19) inf_56 c c c c c c c<|ad<|ak<|M<|bf (bE (k:=0) ag_56 c c c c) c<|bf (bE (k:=1) mK c c c c) c<|J c<|aa<|cK (vs:=[(.agg (aB.C x19).toArray),(.agg (au.C a1).toArray),(.int .i64 s3.1)]) (bv<|ct_hist_one x19 a1 s3.1 _) en_61 c c<|p (ct c)<|J c<|V c c (aG _) (fun g12=>wv<|ae db c)<|V c c (aG _) (fun g13=>cv<|ba (k:=0) aS (az c g13) c c)<|V c c (aG _) (fun g14=>wv<|kP (az c g14) c)<|V c c (aG _) (fun g15=>wv<|ag<|az c g15)<|V c c (dO _ _) (fun g16=>wv<|ag c)<|V c c (dO _ _) (fun g17=>wv<|ae db c)<|V c c (dO _ _) (fun g18=>cv<|ba (k:=0) aS (az c g18) c c)<|bT H11 (fun k20 H21=>G ((gv_t (b_l k20) _).trans<|Y<|b_r k20)<|aU H21 (x_lookup (az c k20)<|az c k20) c fun v33 _ H22=>G (Y<|bN<|b_l k20)<|z_p (aI (az c<|b_l k20) (b_r k20) c)<|p (ao c (bN<|b_l k20) c)<|ad<|av c H22 (fun k23 H24=>M<|O c<|ah<|D ⟨false,c,H24⟩) fun k23 H24=>an<|ak<|M<|J c<|p (ae fT c)<|bf (ba (k:=0) aS c c c) c<|aa<|aU H24 (x_lookup c c) c fun v40 _ H25=>J c<|p (aj c c)<|p (aj c c)<|p (ar c)<|O c<|M<|J c<|J c<|V c c (ay _) (fun g26=>wv<|ag c)<|V c c (ay _) (fun g27=>wv<|v_le (az c g27) c)<|V c c (ay _) (fun g28=>wv<|ag<|az c g28)<|V c c (ee _ _) (fun g29=>wv<|ae gu c)<|V c c (ee _ _) (fun g30=>cv<|ba (k:=0) aS (az c g30) c c)<|V c c (ee _ _) (fun g31=>wv<|ag c)<|V c c (ee _ _) (fun g32=>wv<|v_le (az c g32)<|az c g32)<|V c c (ay _) (fun g33=>wv<|cZ (az c g33)<|aK c<|nP g33)<|p (bO c c)<|ad<|av c H25 (fun k34 H35=>M<|O c<|ah<|D ⟨false,c,H35⟩) fun k34 H35=>an<|bm (n:=13) [bx b9 56 (aB.C x19)] cn c (.cons_cons _<|.cons _ .slnil)<|U 0 c (ag c)<|U 1 c (ae db c)<|z_E 2 c (cx (k:=0) aS c c c)<|U 3 c (ag c)<|U 4 c (ae fT c)<|z_E 5 c (cx (k:=0) aS c c c)<|U 6 c (ae gu c)<|z_E 7 c (cx (k:=0) aS c c c)<|U 8 c (ae dM c)<|z_E 9 c (cx (k:=0) aS c c c)<|U 10 c (ar c)<|R 11 c<|to_hpu H35 (tY c c c) fun _ H36=>⟨.cons_cons _<|.cons _ .slnil,R 12 c<|to_hpu H36 (tY c c c) fun _ H37=>⟨.cons_cons _<|.cons _ .slnil,aO (by kernel_rfl)<|ap<|p (bn c c)<|J c<|ad<|cM (x19.fBegin,(IntKind.i64.wrap (s3.2 + 1))) H37 (.cons c<|.cons c<|.cons c<|.cons c<|.cons c<|.cons c<|.cons c<|.nil _)<|.cons _<|.cons_cons _ .slnil⟩⟩) fun k20 H21=>W ((dO _ _).trans k20)<|V c c (aG _) (fun g38=>wv<|ao (az c g38) (b_andr k20 g38) c)<|p (cZ c c)<|ad<|av c H21 (fun k39 H40=>M<|O c<|ah<|D ⟨false,c,H40⟩) fun k39 H40=>an<|ak<|M<|J c<|p (ae fT c)<|bf (ba (k:=0) aS c c c) c<|aa<|aU H40 (x_lookup c c) c fun v40 _ H41=>J c<|p (aj c c)<|p (aj c c)<|p (ar c)<|O c<|M<|J c<|J c<|V c c (ay _) (fun g42=>wv<|ag c)<|V c c (ay _) (fun g43=>wv<|v_le (az c g43) c)<|V c c (ay _) (fun g44=>wv<|ag<|az c g44)<|V c c (ee _ _) (fun g45=>wv<|ae gu c)<|V c c (ee _ _) (fun g46=>cv<|ba (k:=0) aS (az c g46) c c)<|V c c (ee _ _) (fun g47=>wv<|ag c)<|V c c (ee _ _) (fun g48=>wv<|v_le (az c g48)<|az c g48)<|V c c (ay _) (fun g49=>wv<|cZ (az c g49)<|aK c<|nP g49)<|p (bO c c)<|ad<|av c H41 (fun k50 H51=>M<|O c<|ah<|D ⟨false,c,H51⟩) fun k50 H51=>an<|bm (n:=13) [bx b9 56 (aB.C x19)] cn c (.cons_cons _<|.cons _ .slnil)<|U 0 c (ag c)<|U 1 c (ae db c)<|z_E 2 c (cx (k:=0) aS c c c)<|U 3 c (ag c)<|U 4 c (ae fT c)<|z_E 5 c (cx (k:=0) aS c c c)<|U 6 c (ae gu c)<|z_E 7 c (cx (k:=0) aS c c c)<|U 8 c (ae dM c)<|z_E 9 c (cx (k:=0) aS c c c)<|U 10 c (ar c)<|R 11 c<|to_hpu H51 (tY c c c) fun _ H52=>⟨.cons_cons _<|.cons _ .slnil,R 12 c<|to_hpu H52 (tY c c c) fun _ H53=>⟨.cons_cons _<|.cons _ .slnil,aO (by kernel_rfl)<|ap<|p (bn c c)<|J c<|ad<|cM (x19.fBegin,(IntKind.i64.wrap (s3.2 + 1))) H53 (.cons c<|.cons c<|.cons c<|.cons c<|.cons c<|.cons c<|.cons c<|.nil _)<|.cons _<|.cons_cons _ .slnil⟩⟩) fun k6 H7=>bj<|M<|O c<|ah<|D ⟨true,c,H7⟩
def tB (a0:Sl) (a1:Value) (K:Sl→Hp→Prop) (Rec2:(Sl × Int)→Hp→Prop) (s1:Sl × Int):Hp→Prop:=br (decide (s1.2 < (a0.len:Int))) ( ix a0 s1.2 fun q13=>ld (q13.1,q13.2 + Int.toNat s1.2 * 16) aB.C fun x14=>clv Tryz.prog a1 [(.agg (aB.C x14).toArray)] aA fun r17=>br r17 ( hpv Tryz.prog (Instr.buildSlice dK 1 #[(0,(.int .i64 s1.2))]) cG fun (v20:Sl)=>hpv Tryz.prog (Builtin.append_ #[dK,dK] dK #[(sv s1.1),(sv v20)]) cG fun (v21:Sl)=>Rec2 (v21,(IntKind.i64.wrap (s1.2 + 1)))) ( Rec2 (s1.1,(IntKind.i64.wrap (s1.2 + 1))))) ( K s1.1)
def sh_hist_places (a0:Sl) (a1:Value) (K:Sl→Hp→Prop):Hp→Prop:=Lp (tB a0 a1 K) ((⟨none,0,0,none⟩:Sl),0)
theorem sim_hist_places (a0:Sl) (a1:Value) {K:Sl→Hp→Prop} {h:Hp} (H:sh_hist_places a0 a1 K h):Ct Tryz.prog qA #[(sv a0),a1] h fun v h'=>∃ r,v = cG r∧K r h':=aw [(sv a0),a1] Tryz.func92 c c c fun _=>M<|O c<|M<|O c<|ak<|M<|J c<|p (dl c Tryz.underlying42 c)<|J c<|ad<|ax<|bG (step:=tB a0 a1 K) (fun s1=>[(1,a1),(5,(sv s1.1)),(8,(sv a0)),(9,(.int .i64 (a0.len:Int))),(10,(.int .i64 s1.2))]) (fun s1=>[]) H (.cons c<|.cons c<|.cons c<|.cons c<|.cons c<|.nil _) .slnil fun Rec2 s1 _ H3=>M<|p (cq c c)<|ad<|ak<|av c H3 (fun k4 H5=>an<|ak<|ax<|M<|J c<|ck H5 fun q13 e6 h7 H8=>p (bh fu (aK c<|aX e6) c h7)<|aa<|gI H8 ag_56 c (fun _=>c) c fun x14 H9=>aa<|aP (l:=aB.C (⟨0,0,(⟨0,0,0,0,0⟩:ai),0,0,0,(⟨0,0⟩:ac),(⟨0,0,0,0⟩:am)⟩:aB)) zero_56 c c fun b7=>p (ar c)<|aa<|aR (k:=0) (vs:=aB.C x14) inf_56 c c c c c c c<|ad<|M<|J c<|bf (bE (k:=0) ag_56 c c c c) c<|aa<|to_clv H9 c c c fun r17 _ H10=>ad<|av c H10 (fun k11 H12=>ap<|J c<|J c<|aa<|aU H12 (bz (vs:=[(.int .i64 s1.2)]) c) c fun v20 _ H13=>aa<|aU H13 (dJ c c) c fun v21 _ H14=>O c<|ap<|p (bn c c)<|J c<|ad<|cM (v21,(IntKind.i64.wrap (s1.2 + 1))) H14 (.cons c<|.cons c<|.cons c<|.cons c<|.cons c<|.nil _)<|.cons _ .slnil) fun k11 H12=>an<|ap<|p (bn c c)<|J c<|ad<|cM (s1.1,(IntKind.i64.wrap (s1.2 + 1))) H12 (.cons c<|.cons c<|.cons c<|.cons c<|.cons c<|.nil _)<|.cons _ .slnil) fun k4 H5=>bj<|M<|J c<|O c<|ah<|D ⟨s1.1,c,H5⟩
def vN (a0:Int) (a1:Int) (c0:Nat) (K:Int→Hp→Prop):Hp→Prop:=ld (c0,0) cS fun x6=>ix x6 a0 fun q8=>ld (q8.1,q8.2 + Int.toNat a0 * 16 + 8) (cI .i64) fun x10=>ld (c0,0) cS fun x11=>ix x11 a1 fun q13=>ld (q13.1,q13.2 + Int.toNat a1 * 16 + 8) (cI .i64) fun x15=>K (fX x10 x15)
theorem sim_hist_Order_c2 (a0:Int) (a1:Int) (c0:Nat) {K:Int→Hp→Prop} {h:Hp} (H:vN a0 a1 c0 K h):Ct Tryz.prog rx #[(.int .i64 a0),(.int .i64 a1),(.pointer (some ⟨c0,0,none⟩))] h fun v h'=>∃ r,v = eJ r∧K r h':=aw [(.int .i64 a0),(.int .i64 a1),(.pointer (some ⟨c0,0,none⟩))] Tryz.func95 c c c fun _=>M<|O c<|ak<|bm (n:=12) [] cn c .slnil<|U 1 c (ag c)<|U 6 c (ag c)<|bJ (i:=0) (fun _ _ _ _ hh=>hh) H c (by kernel_rfl) sc_42 c (fun _=>c) c fun x6 H1=>fF H1 fun q8 e2 h3 H4=>U 2 c (bh fu (aK c<|aX e2) c h3)<|U 3 c (ae db c)<|bJ (i:=4) (fun _ _ _ _ hh=>hh) H4 c (by kernel_rfl) aS c (fun _=>c) c fun x10 H5=>bJ (i:=5) (fun _ _ _ _ hh=>hh) H5 c (by kernel_rfl) sc_42 c (fun _=>c) c fun x11 H6=>fF H6 fun q13 e7 h8 H9=>U 7 c (bh fu (aK c<|aX e7) c h8)<|U 8 c (ae db c)<|bJ (i:=9) (fun _ _ _ _ hh=>hh) H9 c (by kernel_rfl) aS c (fun _=>c) c fun x15 H10=>R 10 c<|cK (vs:=[(.int .i64 x10),(.int .i64 x15)]) (bv<|ct_cmp_Compare_int x10 x15 _) en_96 c c ⟨.slnil,U 11 c (ar c)<|aO (by kernel_rfl)<|ah<|D ⟨fX x10 x15,c,H10⟩⟩
def sh_hist_Order (a0:Sl) (K:Sl→Hp→Prop):Hp→Prop:=nw eT [sv a0] fun b1=>ld (b1,0) cS fun x4=>cl Tryz.prog qA [(sv x4),(.func (.func ny) #[] #[])] cG fun r5=>cl Tryz.prog fP [(sv r5),(.func (.func rx) #[] #[(.pointer (some ⟨b1,0,none⟩))])] R_ fun (_:Unit)=>K r5
theorem sim_hist_Order (a0:Sl) {K:Sl→Hp→Prop} {h:Hp} (H:sh_hist_Order a0 K h):Ct Tryz.prog pj #[(sv a0)] h fun v h'=>∃ r,v = cG r∧K r h':=aw [(sv a0)] Tryz.func44 c c c fun _=>M<|aa<|io c c c H fun b1 _ H1=>O c<|M<|aa<|aW H1 sc_42 c (fun _=>c) c fun x4 H2=>aa<|F H2 en_92 fun r5 _ H3=>O c<|M<|J c<|p (v_func c c)<|aa<|F H3 en_94 fun r8 _ H4=>ad<|M<|J c<|O c<|ah<|D ⟨r5,c,H4⟩
def sh_hist_Over_c1 (a0:aB) (c0:Nat) (K:Bool→Hp→Prop):Hp→Prop:=ld (c0,0) (cI .i64) fun x6=>br ((decide (a0.fBegin ≤ x6)) && (!(a0.fEffect == 0))) ( ld (c0,0) (cI .i64) fun x15=>K (decide (a0.fEffect > x15))) ( K ((decide (a0.fBegin ≤ x6)) && true))
theorem sim_hist_Over_c1 (a0:aB) (c0:Nat) {K:Bool→Hp→Prop} {h:Hp} (H:sh_hist_Over_c1 a0 c0 K h):Ct Tryz.prog tw #[(.agg (aB.C a0).toArray),(.pointer (some ⟨c0,0,none⟩))] h fun v h'=>∃ r,v = aA r∧K r h':=aw [(.agg (aB.C a0).toArray),(.pointer (some ⟨c0,0,none⟩))] Tryz.func221 c c c fun _=>M<|aa<|cA (l:=aB.C a0) c c c fun b2=>O c<|M<|p (ae gu c)<|bf (ba (k:=0) aS c c c) c<|aa<|aW H aS c (fun _=>c) c fun x6 H1=>p (v_le c c)<|J c<|V c c (ay _) (fun g2=>wv<|ae db c)<|V c c (ay _) (fun g3=>cv<|ba (k:=0) aS (az c g3) c c)<|V c c (ay _) (fun g4=>wv<|bH (az c g4) c)<|V c c (ay _) (fun g5=>wv<|ag<|az c g5)<|V c c (ee _ _) (fun g6=>wv<|ae db c)<|V c c (ee _ _) (fun g7=>cv<|ba (k:=0) aS (az c g7) c c)<|bT H1 (fun k9 H10=>G ((gv_t (b_l k9) _).trans<|Y<|bN<|b_r k9)<|aW H10 aS c (fun _=>c) c fun x15 H11=>G ((gv_t (b_l k9) _).trans<|Y<|bN<|b_r k9)<|z_p (kP (az c k9) c)<|G (Y<|b_l k9)<|z_p (ao (az c<|b_l k9) (bN<|b_r k9) c)<|p (aI c (b_l k9) c)<|O c<|ah<|D ⟨decide (a0.fEffect > x15),c,H11⟩) fun k9 H10=>W ((ee _ _).trans k9)<|W ((ee _ _).trans k9)<|V c c (ay _) (fun g12=>wv<|aI (az c g12) (bo<|b_andr k9 g12) c)<|p (bO c c)<|O c<|ah<|D ⟨((decide (a0.fBegin ≤ x6)) && true),c,H10⟩
def sh_hist_Over (a0:Sl) (a1:Int) (K:Sl→Hp→Prop):Hp→Prop:=nw lf [.int .i64 a1] fun b3=>cl Tryz.prog qA [(sv a0),(.func (.func tw) #[] #[(.pointer (some ⟨b3,0,none⟩))])] cG fun r7=>K r7
theorem sim_hist_Over (a0:Sl) (a1:Int) {K:Sl→Hp→Prop} {h:Hp} (H:sh_hist_Over a0 a1 K h):Ct Tryz.prog n_hist_Over #[(sv a0),(.int .i64 a1)] h fun v h'=>∃ r,v = cG r∧K r h':=aw [(sv a0),(.int .i64 a1)] Tryz.func206 c c c fun _=>M<|aa<|io c c c H fun b3 _ H1=>O c<|M<|J c<|p (v_func c c)<|aa<|F H1 en_92 fun r7 _ H2=>O c<|ah<|D ⟨r7,c,H2⟩
end Go.Proofs.YtemoifebbhoinaaGreatDoor
namespace Go.Proofs.YtemoifebbhoinaaGreatDoor
open Go Mb
namespace Hist
def placesFrom (P:bq→Bool):List bq→Int→List Int
  | [],_=>[]
  | e::es,i=>if P e = true then i::placesFrom P es (i + 1) else placesFrom P es (i + 1)
def places (P:bq→Bool) (es:List bq):List Int:=placesFrom P es 0
def ev00:bq:=KK.ev0 0 0 ⟨0,0,0,0,0⟩ 0
def eff (es:List bq) (i:Int):Int:=(es.getD i.toNat ev00).fEffect
def ins (key:Int→Int) (x:Int):List Int→List Int
  | []=>[x]
  | y::l=>if key x < key y then x::y::l else y::ins key x l
def isort (key:Int→Int):List Int→List Int
  | []=>[]
  | x::l=>ins key x (isort key l)
def effs (es:List bq):List Int:=places (fun e=>decide (e.fEffect > 0)) es
def order (es:List bq):List Int:=isort (eff es) (effs es)
def over (es:List bq) (at_:Int):List Int:=places (fun e=>decide (e.fBegin ≤ at_) && (e.fEffect == 0 || decide (e.fEffect > at_))) es
def done (es:List bq):List Int:=places (fun e=>e.fEnd != 0) es
def endOf (ends:List (Int × Int)) (c:Int):Option Int:=(ends.find? (fun p=>p.1 == c)).map (·.2)
def stops (ends:List (Int × Int)) (e:bq):Bool:=match endOf ends e.fCore with
  | some n=>decide (n ≤ 0) || decide (e.fBegin ≤ n)
  | none=>false
def mayFrom (s:eH):List bq→Int→List Int→List (Int × Int)→Bool
  | [],_,_,_=>true
  | e::es,last,seen,ends=>if dC e s last = false∨(e.fEffect > 0∧e.fEffect ∈ seen) then false else if stops ends e = true then false else mayFrom s es e.fBegin (e.fEffect::seen) ((e.fCore,e.fEnd)::ends)
def may (es:List bq) (s:eH):Bool:=mayFrom s es 0 [] []
theorem placesFrom_app (P:bq→Bool) (e:bq):∀ (es:List bq) (i:Int),placesFrom P (es++[e]) i = placesFrom P es i++(if P e = true then [i + es.length] else [])
  | [],i=>by simp only [List.nil_append,placesFrom]; split <;> simp
  | d::es,i=>by
    simp only [List.cons_append,placesFrom]
    rw [placesFrom_app P e es (i + 1)]
    have e1:i + 1 + (es.length:Int) = i + ((d::es).length:Int):=by simp; omega
    rw [e1]
    split <;> simp
theorem placesFrom_len (P:bq→Bool):∀ (es:List bq) (i:Int),(placesFrom P es i).length ≤ es.length
  | [],_=>Nat.le_refl _
  | e::es,i=>by unfold placesFrom; have:=placesFrom_len P es (i + 1); split <;> simp <;> omega
theorem placesFrom_c (P:bq→Bool) (d:bq) (es:List bq) (i:Int):placesFrom P (d::es) i = if P d = true then i::placesFrom P es (i + 1) else placesFrom P es (i + 1):=rfl
theorem mem_placesFrom {P:bq→Bool} {x:Int}:∀ {es:List bq} {i:Int},x ∈ placesFrom P es i↔∃ (n:Nat) (e:bq),es[n]? = some e∧x = i + n∧P e = true
  | [],i=>by simp [placesFrom]
  | d::es,i=>by
    have ih:=mem_placesFrom (P:=P) (x:=x) (es:=es) (i:=i + 1)
    have sp:(∃ (n:Nat) (e:bq),(d::es)[n]? = some e∧x = i + n∧P e = true)↔(x = i∧P d = true)∨∃ (n:Nat) (e:bq),es[n]? = some e∧x = i + 1 + n∧P e = true:=by
      constructor
      · rintro ⟨n,e,h1,h2,h3⟩
        cases n with
        | zero=>simp at h1; subst h1; exact .inl ⟨by simpa using h2,h3⟩
        | succ n=>exact .inr ⟨n,e,by simpa using h1,by omega,h3⟩
      · rintro (⟨h2,h3⟩ | ⟨n,e,h1,h2,h3⟩)
        · exact ⟨0,d,rfl,by simpa using h2,h3⟩
        · exact ⟨n + 1,e,by simpa using h1,by omega,h3⟩
    rw [sp,← ih,placesFrom_c]
    split
    · rename_i hd
      rw [List.mem_cons]
      constructor
      · rintro (h | h)
        · exact .inl ⟨h,hd⟩
        · exact .inr h
      · rintro (h | h)
        · exact .inl h.1
        · exact .inr h
    · rename_i hd
      constructor
      · exact .inr
      · rintro (h | h)
        · exact absurd h.2 hd
        · exact h
theorem mem_places {P:bq→Bool} {x:Int} {es:List bq}:x ∈ places P es↔∃ (n:Nat) (e:bq),es[n]? = some e∧x = n∧P e = true:=by
  unfold places
  rw [mem_placesFrom]
  simp
theorem places_in {P:bq→Bool} {x:Int} {es:List bq} (h:x ∈ places P es):0 ≤ x∧x < es.length:=by
  obtain ⟨n,e,h1,rfl,_⟩:=mem_places.1 h
  have:=(List.getElem?_eq_some_iff.1 h1).1
  omega
theorem ins_perm (key:Int→Int) (x:Int):∀ l,(ins key x l).Perm (x::l)
  | []=>.refl _
  | y::l=>by
    unfold ins; split
    · exact .refl _
    · exact ((ins_perm key x l).cons y).trans (.swap _ _ _)
theorem isort_perm (key:Int→Int):∀ l,(isort key l).Perm l
  | []=>.refl _
  | x::l=>(ins_perm key x _).trans ((isort_perm key l).cons x)
theorem ins_up (key:Int→Int) (x:Int):∀ l,Up key l→Up key (ins key x l)
  | [],_=>List.pairwise_singleton _ _
  | y::l,h=>by
    obtain ⟨h1,h2⟩:=List.pairwise_cons.1 h
    unfold ins; split
    · rename_i hx
      refine List.pairwise_cons.2 ⟨fun z hz=>?_,h⟩
      rcases List.mem_cons.1 hz with rfl | hz
      · omega
      · have:=h1 z hz; omega
    · rename_i hx
      refine List.pairwise_cons.2 ⟨fun z hz=>?_,ins_up key x l h2⟩
      rcases List.mem_cons.1 ((ins_perm key x l).subset hz) with rfl | hz
      · omega
      · exact h1 z hz
theorem isort_up (key:Int→Int):∀ l,Up key (isort key l)
  | []=>.nil
  | x::l=>ins_up key x _ (isort_up key l)
def Apart (es:List bq):Prop:=∀ a b,a ∈ effs es→b ∈ effs es→eff es a = eff es b→a = b
theorem order_of {es:List bq} (ha:Apart es) {l:List Int} (hp:l.Perm (effs es)) (hu:Up (eff es) l):l = order es:=by
  refine List.Perm.eq_of_pairwise (le:=fun x y=>eff es x ≤ eff es y) (fun a b h1 h2 h3 h4=>?_) hu (isort_up _ _) (hp.trans (isort_perm _ _).symm)
  exact ha a b (hp.subset h1) ((isort_perm _ _).subset h2) (by omega)
theorem mayFrom_apart {s:eH}:∀ {es:List bq} {last:Int} {seen:List Int} {ends:List (Int × Int)},mayFrom s es last seen ends = true →
    (∀ (n:Nat) e,es[n]? = some e→e.fEffect > 0→e.fEffect ∉ seen)∧∀ (n m:Nat) e d,es[n]? = some e→es[m]? = some d→e.fEffect > 0→e.fEffect = d.fEffect→n = m
  | [],_,_,_,_=>⟨fun n e h=>by simp at h,fun n m e d h=>by simp at h⟩
  | e0::es,last,seen,ends,h=>by
    unfold mayFrom at h
    split at h
    · cases h
    · split at h
      · cases h
      · rename_i h1 _
        obtain ⟨i1,i2⟩:=mayFrom_apart h
        have h0:e0.fEffect > 0→e0.fEffect ∉ seen:=fun hp hm=>h1 (.inr ⟨hp,hm⟩)
        refine ⟨fun n e hn hp=>?_,fun n m e d hn hm hp he=>?_⟩
        · cases n with
          | zero=>simp at hn; subst hn; exact h0 hp
          | succ n=>exact fun hm=>i1 n e (by simpa using hn) hp (by simp [hm])
        · cases n with
          | zero =>
            cases m with
            | zero=>rfl
            | succ m =>
              simp at hn; subst hn
              exact absurd (by simp [he]) (i1 m d (by simpa using hm) (by omega))
          | succ n =>
            cases m with
            | zero =>
              simp at hm; subst hm
              exact absurd (by simp [he]) (i1 n e (by simpa using hn) hp)
            | succ m=>rw [i2 n m e d (by simpa using hn) (by simpa using hm) hp he]
theorem eff_nat {es:List bq} {n:Nat} {e:bq} (h:es[n]? = some e):eff es n = e.fEffect:=by simp [eff,h]
theorem may_apart {es:List bq} {s:eH} (h:may es s = true):Apart es:=by
  intro a b ha hb he
  obtain ⟨n,e,h1,rfl,h2⟩:=mem_places.1 ha
  obtain ⟨m,d,h3,rfl,h4⟩:=mem_places.1 hb
  rw [eff_nat h1,eff_nat h3] at he
  rw [(mayFrom_apart h).2 n m e d h1 h3 (by simpa using h2) he]
end Hist
theorem sp_hist_places (s:Sl) (es:List bq) (v:Value) (P:bq→Bool) (A:List As) (hb:es.length < 2 ^ 38)
    (hv:∀ e ∈ es,SpV Tryz.prog v [.agg e.C.toArray] aA (vE s es::A) (fun r=>pa_ (r = P e) (vE s es::A))) :
    Sp Tryz.prog qA [sv s,v] cG (vE s es::A) (fun r=>aF (vI r (Hist.places P es)::vE s es::A)):=by
  intro h s0
  have hl:=(ce (j:=0) s0 rfl).1
  refine sim_hist_places _ _ ?_
  unfold sh_hist_places
  refine Lp.intro (fun (z:Sl × Int) h=>∃ n:Nat,z.2 = n∧n ≤ es.length∧aF (vI z.1 (Hist.placesFrom P (es.take n) 0)::vE s es::A) h) (fun (z:Sl × Int) _=>es.length - z.2.toNat) ⟨0,rfl,Nat.zero_le _,fR s0⟩ ?_
  rintro ⟨z,i⟩ h ⟨n,rfl,hn,s1⟩
  unfold tB
  refine aY (fun k=>?_) (fun k=>?_)
  · have hlt:n < es.length:=by rw [hl] at k; simpa using k
    have hw:IntKind.i64.wrap ((n:Int) + 1) = ((n + 1:Nat):Int):=by rw [bP (by omega) (by omega)]; rfl
    have ht:es.take (n + 1) = es.take n++[es[n]]:=by simp
    have hlen:((es.take n).length:Int) = n:=by simp; omega
    have hpl:=Hist.placesFrom_len P (es.take n) 0
    simp at hpl
    refine du s1 (j:=1) rfl (by omega) (by show (n:Int) < _; omega) fun q hq=>?_
    refine dU (j:=1) (i:=n) (k:=0) es[n] iF s1 rfl hq rfl (aD hlt) (by simp) ?_
    refine clv_t (hv es[n] (List.getElem_mem hlt)) s1 fun r h2 s2=>?_
    obtain ⟨hr,s3⟩:=bu.1 s2
    have s4:=star_rot s3
    rw [hw]
    refine aY (fun k2=>?_) (fun k2=>?_)
    · refine wt s4 (i:=0) rfl (by omega) fun v h' s5=>?_
      refine ⟨⟨n + 1,rfl,hlt,?_⟩,by simp; omega⟩
      rw [ht,Hist.placesFrom_app,if_pos (by rw [← hr,k2]),hlen,Int.zero_add]
      exact s5
    · refine ⟨⟨n + 1,rfl,hlt,?_⟩,by simp; omega⟩
      rw [ht,Hist.placesFrom_app,if_neg (by rw [← hr,k2]; exact Bool.false_ne_true),List.append_nil]
      exact s4
  · have:n = es.length:=by rw [hl] at k; simp at k; omega
    subst this
    rw [List.take_length] at s1
    exact s1
theorem cmp_neg (x y:Int):fX x y < 0↔x < y:=by
  unfold fX eF
  simp only [bne_self_eq_false,cond_false]
  by_cases h1:x < y
  · simp [h1]
  · by_cases h2:x > y
    · simp [h1,h2]
    · simp [h1,h2]
theorem sp_hist_Over (s:Sl) (es:List bq) (a:Int) (hb:es.length < 2 ^ 38):Sp Tryz.prog n_hist_Over [sv s,.int .i64 a] cG [vE s es] (fun r=>aF [vI r (Hist.over es a),vE s es]):=by
  intro h s0
  refine sim_hist_Over _ _ ?_
  unfold sh_hist_Over
  refine pD s0 fun b3 h1 s1=>?_
  refine cR [1,0] (sp_hist_places s es _ (fun e=>decide (e.fBegin ≤ a) && (e.fEffect == 0 || decide (e.fEffect > a))) [blk b3 lf [.int .i64 a]] hb ?_) s1 rfl fun r h2 s2=>?_
  · intro e he
    refine ⟨_,_,_,rfl,enter_hist_Over_c1,fun h s3=>?_⟩
    refine sim_hist_Over_c1 e b3 ?_
    unfold sh_hist_Over_c1
    refine bp a s3 (i:=1) rfl rfl rfl ?_
    refine aY (fun k=>?_) (fun k=>?_)
    · refine bp a s3 (i:=1) rfl rfl rfl ?_
      rw [Bool.and_eq_true] at k
      refine aZ ?_ s3
      have k2:(e.fEffect == 0) = false:=by simpa using k.2
      rw [k.1,k2]; rfl
    · refine aZ ?_ s3
      cases k1:decide (e.fBegin ≤ a) with
      | false=>rfl
      | true =>
        rw [k1] at k
        have k2:(e.fEffect == 0) = true:=by simpa using k
        rw [k2]; rfl
  · have s3:=dE s2
    exact nV (l:=[vI r (Hist.over es a),vE s es]) s3
theorem sp_hist_Order20 (s:Sl) (es:List bq) (hb:es.length ≤ 20) (ha:Hist.Apart es):Sp Tryz.prog pj [sv s] cG [vE s es] (fun r=>aF [vI r (Hist.order es),vE s es]):=by
  intro h s0
  refine sim_hist_Order _ ?_
  unfold sh_hist_Order
  refine pD s0 fun b1 h1 s1=>?_
  refine bp s s1 (i:=0) rfl rfl rfl ?_
  refine cR [1,0] (sp_hist_places s es _ (fun e=>decide (e.fEffect > 0)) [blk b1 eT [sv s]] (by omega) ?_) s1 rfl fun r h2 s2=>?_
  · intro e he
    refine ⟨_,_,_,rfl,enter_hist_Order_c1,fun h s3=>?_⟩
    exact (ct_hist_Order_c1 e h).mono fun v h' ⟨r,hv,hr,hh⟩=>⟨r,hv,hr,by rw [hh]; exact s3⟩
  · have s3:=dE s2
    have hpl:=Hist.placesFrom_len (fun e=>decide (e.fEffect > 0)) es 0
    refine cR [0,0,0] (sp_SortStable20 r _ [vE s es,blk b1 eT [sv s]] (Hist.eff es) (fun x=>0 ≤ x∧x < es.length) ?_ (Hist.effs es) (fun x hx=>Hist.places_in hx) (by unfold Hist.effs Hist.places; omega)) s3 rfl fun u h4 s4=>?_
    · rintro x y ⟨hx0,hx⟩ ⟨hy0,hy⟩
      refine ⟨_,_,_,rfl,enter_hist_Order_c2,fun h s5=>?_⟩
      obtain ⟨n,rfl⟩:=Int.eq_ofNat_of_zero_le hx0
      obtain ⟨m,rfl⟩:=Int.eq_ofNat_of_zero_le hy0
      have hn:n < es.length:=by omega
      have hm:m < es.length:=by omega
      refine sim_hist_Order_c2 n m b1 ?_
      unfold vN
      refine bp s s5 (i:=1) rfl rfl rfl ?_
      refine du s5 (j:=0) rfl (by omega) (by omega) fun q hq=>?_
      refine dU (j:=0) (i:=n) (k:=8) es[n].fEffect iF s5 rfl hq rfl (aD hn) (c1 rfl rfl) ?_
      refine bp s s5 (i:=1) rfl rfl rfl ?_
      refine du s5 (j:=0) rfl (by omega) (by omega) fun q2 hq2=>?_
      refine dU (j:=0) (i:=m) (k:=8) es[m].fEffect iF s5 rfl hq2 rfl (aD hm) (c1 rfl rfl) ?_
      refine aZ ?_ s5
      rw [cmp_neg,Hist.eff_nat (aD hn),Hist.eff_nat (aD hm)]
    · obtain ⟨g1,g2,d,rfl,⟨m',⟨p1,p2⟩,s5⟩,s6⟩:=s4
      rw [Hist.order_of ha p1 p2] at s5
      exact sF (nV (l:=[vI r (Hist.order es),vE s es]) s5) d
theorem ua (s:Sl) (es:List bq) (z:eH) (hb:es.length < 2 ^ 38):Sp Tryz.prog qn [sv s,.agg z.C.toArray] aA [vE s es] (fun r=>pa_ (r = Hist.may es z) [vE s es]):=by
  intro h s0
  have hl:=(ce (j:=0) s0 rfl).1
  refine sim_hist_May _ _ ?_
  unfold sh_hist_May
  refine makeMap_m (τ:=Bool) (val:=fun x=>.bool x) rfl s0 fun b1 h1 s1=>?_
  refine makeMap_m (τ:=Int) (val:=fun x=>.int .i64 x) rfl s1 fun b2 h2 s2=>?_
  refine Lp.intro (fun (y:Int × Int) h=>∃ (n:Nat) (seen:List Int) (ends:List (Int × Int)),y.2 = n∧n ≤ es.length∧Hist.mayFrom z (es.drop n) y.1 seen ends = Hist.may es z∧aF [mapA b2 (fun x=>Value.int .i64 x) (Hist.endOf ends),mapA b1 (fun x=>Value.bool x) (fun x=>if x ∈ seen then some true else none),vE s es] h) (fun (y:Int × Int) _=>es.length - y.2.toNat) ⟨0,[],[],rfl,Nat.zero_le _,rfl,?_⟩ ?_
  · have e1:(fun x:Int=>if x ∈ ([]:List Int) then some true else none) = fun _=>none:=by funext x; simp
    have e2:Hist.endOf [] = fun _=>none:=by funext x; rfl
    rw [e1,e2]; exact s2
  rintro ⟨last,i⟩ h ⟨n,seen,ends,rfl,hn,he,s3⟩
  unfold hist_May_l1
  simp only at he ⊢
  refine aY (fun k=>?_) (fun k=>?_)
  · have hlt:n < es.length:=by rw [hl] at k; simpa using k
    have hw:IntKind.i64.wrap ((n:Int) + 1) = ((n + 1:Nat):Int):=by rw [bP (by omega) (by omega)]; rfl
    rw [List.drop_eq_getElem_cons hlt,Hist.mayFrom] at he
    refine du s3 (j:=2) rfl (by omega) (by omega) fun q hq=>?_
    refine dU (j:=2) (i:=n) (k:=0) es[n] iF s3 rfl hq rfl (aD hlt) (by simp) ?_
    have rest:¬ (dC es[n] z last = false∨(es[n].fEffect > 0∧es[n].fEffect ∈ seen))→∀ K:(Int × Int)→Hp→Prop,
        (∀ (s':Int × Int) h',s'.1 = es[n].fBegin∧s'.2 = ((n + 1:Nat):Int)→Hist.stops ends es[n] = false→aF [mapA b2 (fun x=>Value.int .i64 x) (Hist.endOf ((es[n].fCore,es[n].fEnd)::ends)),mapA b1 (fun x=>Value.bool x) (fun x=>if x ∈ es[n].fEffect::seen then some true else none),vE s es] h'→K s' h') →
        hpv Tryz.prog (Instr.lookup hY (.map (some b2)) (.int .i64 es[n].fCore) true) bQ (fun (v40:Int × Bool) =>
          br (v40.2 && ((decide (v40.1 ≤ 0)) || (decide (es[n].fBegin ≤ v40.1)))) (pa_ (false = Hist.may es z) [vE s es]) (
          hpu Tryz.prog (Instr.mapUpdate jE (.map (some b1)) (.int .i64 es[n].fEffect) (.bool true)) <|
          hpu Tryz.prog (Instr.mapUpdate hY (.map (some b2)) (.int .i64 es[n].fCore) (.int .i64 es[n].fEnd)) <|
          K (es[n].fBegin,((n + 1:Nat):Int)))) h:=by
      intro hno K hK
      rw [if_neg hno] at he
      refine lookup_m (j:=0) mp_map_int_int s3 rfl ((Hist.endOf ends es[n].fCore).getD 0,(Hist.endOf ends es[n].fCore).isSome) ?_ ?_
      · rw [if_pos rfl]; unfold bQ
        cases Hist.endOf ends es[n].fCore <;> rfl
      · have hst:((Hist.endOf ends es[n].fCore).isSome && ((decide ((Hist.endOf ends es[n].fCore).getD 0 ≤ 0)) || (decide (es[n].fBegin ≤ (Hist.endOf ends es[n].fCore).getD 0)))) = Hist.stops ends es[n]:=by
          unfold Hist.stops
          cases Hist.endOf ends es[n].fCore <;> simp
        show br ((Hist.endOf ends es[n].fCore).isSome && ((decide ((Hist.endOf ends es[n].fCore).getD 0 ≤ 0)) || (decide (es[n].fBegin ≤ (Hist.endOf ends es[n].fCore).getD 0)))) _ _ h
        rw [hst]
        refine aY (fun k2=>?_) (fun k2=>?_)
        · rw [if_pos k2] at he
          exact aZ he (bZ (l:=[_,_]) s3)
        · refine update_m (j:=1) (w:=true) mp_map_int_bool s3 rfl rfl fun h4 s4=>?_
          refine update_m (j:=0) (w:=es[n].fEnd) mp_map_int_int s4 rfl rfl fun h5 s5=>?_
          refine hK _ _ ⟨rfl,rfl⟩ k2 ?_
          have e1:(fun y=>if y = es[n].fCore then some es[n].fEnd else Hist.endOf ends y) = Hist.endOf ((es[n].fCore,es[n].fEnd)::ends):=by
            funext y
            unfold Hist.endOf
            by_cases hy:y = es[n].fCore
            · subst hy; simp
            · have:(es[n].fCore == y) = false:=by simpa using fun e=>hy e.symm
              simp [hy,this]
          have e2:(fun y=>if y = es[n].fEffect then some true else if y ∈ seen then some true else none) = fun x=>if x ∈ es[n].fEffect::seen then some true else none:=by
            funext y
            by_cases hy:y = es[n].fEffect <;> simp [hy]
          rw [← e1,← e2]
          exact s5
    have go:¬ (dC es[n] z last = false∨(es[n].fEffect > 0∧es[n].fEffect ∈ seen))→∀ (s':Int × Int) h',s'.1 = es[n].fBegin∧s'.2 = ((n + 1:Nat):Int)→Hist.stops ends es[n] = false→aF [mapA b2 (fun x=>Value.int .i64 x) (Hist.endOf ((es[n].fCore,es[n].fEnd)::ends)),mapA b1 (fun x=>Value.bool x) (fun x=>if x ∈ es[n].fEffect::seen then some true else none),vE s es] h' →
        (∃ (n:Nat) (seen:List Int) (ends:List (Int × Int)),s'.2 = n∧n ≤ es.length∧Hist.mayFrom z (es.drop n) s'.1 seen ends = Hist.may es z∧aF [mapA b2 (fun x=>Value.int .i64 x) (Hist.endOf ends),mapA b1 (fun x=>Value.bool x) (fun x=>if x ∈ seen then some true else none),vE s es] h')∧es.length - s'.2.toNat < es.length - (n:Int).toNat:=by
      rintro hno ⟨u,w⟩ h' ⟨h4,h5⟩ hst s4
      simp only at h4 h5
      subst h4; subst h5
      rw [if_neg hno,if_neg (by rw [hst]; exact Bool.false_ne_true)] at he
      exact ⟨⟨n + 1,_,_,rfl,hlt,he,s4⟩,by simp; omega⟩
    rw [hw]
    refine aY (fun k2=>?_) (fun k2=>?_)
    · rw [Bool.and_eq_true] at k2
      have k1:dC es[n] z last = true:=by simpa using k2.1
      have kp:es[n].fEffect > 0:=by simpa using k2.2
      refine lookup_m (j:=1) mp_map_int_bool s3 rfl (decide (es[n].fEffect ∈ seen)) ?_ ?_
      · rw [if_neg Bool.false_ne_true]; unfold aA
        by_cases hm:es[n].fEffect ∈ seen <;> simp [hm]
      · refine aY (fun k3=>?_) (fun k3=>?_)
        · have hm:es[n].fEffect ∈ seen:=of_decide_eq_true k3
          rw [if_pos (.inr ⟨kp,hm⟩)] at he
          exact aZ he (bZ (l:=[_,_]) s3)
        · have hm:es[n].fEffect ∉ seen:=of_decide_eq_false k3
          have hno:¬ (dC es[n] z last = false∨(es[n].fEffect > 0∧es[n].fEffect ∈ seen)):=by simp [k1,hm]
          exact rest hno _ (go hno)
    · refine aY (fun k3=>?_) (fun k3=>?_)
      · have k1:dC es[n] z last = false:=by simpa using k3
        rw [if_pos (.inl k1)] at he
        exact aZ he (bZ (l:=[_,_]) s3)
      · have k1:dC es[n] z last = true:=by simpa using k3
        have kp:¬ es[n].fEffect > 0:=by simp [k1] at k2; omega
        have hno:¬ (dC es[n] z last = false∨(es[n].fEffect > 0∧es[n].fEffect ∈ seen)):=by simp [k1]; intro hh; exact absurd hh kp
        exact rest hno _ (go hno)
  · have:n = es.length:=by rw [hl] at k; simp at k; omega
    subst this
    rw [List.drop_length] at he
    exact aZ he (bZ (l:=[_,_]) s3)
end Go.Proofs.YtemoifebbhoinaaGreatDoor
namespace Go.Proofs.YtemoifebbhoinaaGreatDoor
open Go Mb
set_option linter.unusedVariables false
def dV (a2:Int) (a3:Int) (q22:Nat × Nat) (Rec9:(Sl × Int)→Hp→Prop) (s8:Sl × Int) (x49:aB) (s22:Bool):Hp→Prop:=br s22 ( ld (q22.1,q22.2 + 4) cP fun x65=>cl Tryz.prog gP [(pv x65)] dP fun r66=>cl Tryz.prog dB [(pv r66),(.int .i64 x49.fEnv),(.agg (ai.C x49.fCall).toArray)] bk fun r72=>cl Tryz.prog fY [(pv r66),(.int .i64 a2),(.int .i64 a3)] cF fun r77=>hpv Tryz.prog (Instr.buildSlice qd 1 #[(0,(.agg (al.C r77.1).toArray))]) qx fun (v82:Sl)=>hpv Tryz.prog (Builtin.append_ #[qd,qd] qd #[(sv s8.1),(sv v82)]) qx fun (v83:Sl)=>Rec9 (v83,(IntKind.i64.wrap (s8.2 + 1)))) ( Rec9 (s8.1,(IntKind.i64.wrap (s8.2 + 1))))
def kW (a2:Int) (a3:Int) (K:Sl→Hp→Prop) (q22:Nat × Nat) (r37:Sl) (Rec9:(Sl × Int)→Hp→Prop) (s8:Sl × Int):Hp→Prop:=br (decide (s8.2 < (r37.len:Int))) ( ix r37 s8.2 fun q41=>ld (q41.1,q41.2 + Int.toNat s8.2 * 1) (cI .i64) fun x42=>ld (q22.1,q22.2 + 0) cS fun x46=>ix x46 x42 fun q48=>ld (q48.1,q48.2 + Int.toNat x42 * 16) aB.C fun x49=>br (((aE x49.fCall).1) == 7) ( dV a2 a3 q22 Rec9 s8 x49 (((aE x49.fCall).1) == 7)) ( br (((aE x49.fCall).1) == 8) ( dV a2 a3 q22 Rec9 s8 x49 (((aE x49.fCall).1) == 8)) ( br (((aE x49.fCall).1) == 4) ( dV a2 a3 q22 Rec9 s8 x49 (((aE x49.fCall).1) == 4)) ( dV a2 a3 q22 Rec9 s8 x49 (((aE x49.fCall).1) == 5))))) ( K s8.1)
def pP (a0:Ptr) (a1:Int) (a2:Int) (a3:Int) (K:Sl→Hp→Prop):Hp→Prop:=nn a0 fun q22=>ld (q22.1,q22.2 + 4) cP fun x24=>cl Tryz.prog fY [(pv x24),(.int .i64 a2),(.int .i64 a3)] cF fun r27=>hpv Tryz.prog (Instr.buildSlice qd 1 #[(0,(.agg (al.C r27.1).toArray))]) qx fun (v31:Sl)=>ld (q22.1,q22.2 + 0) cS fun x35=>cl Tryz.prog n_hist_Over [(sv x35),(.int .i64 a1)] cG fun r37=>Lp (kW a2 a3 K q22 r37) (v31,0)
theorem wS (a0:Ptr) (a1:Int) (a2:Int) (a3:Int) {K:Sl→Hp→Prop} {h:Hp} (H:pP a0 a1 a2 a3 K h):Ct Tryz.prog lM #[(pv a0),(.int .i64 a1),(.int .i64 a2),(.int .i64 a3)] h fun v h'=>∃ r,v = qx r∧K r h':=aw [(pv a0),(.int .i64 a1),(.int .i64 a2),(.int .i64 a3)] Tryz.func183 c c c fun _=>M<|O c<|M<|J c<|bI H fun q22 e1 H2=>p (aL<|aK c<|aq e1)<|p (ae we c)<|aa<|aW H2 qi c (fun _=>c) c fun x24 H3=>J c<|J c<|aa<|F H3 en_89 fun r27 _ H4=>J c<|p (aj c c)<|p (aj c c)<|aa<|aP (l:=al.C (⟨0,0,0⟩:al)) gg c c fun b9=>aa<|aR (k:=0) (vs:=al.C r27.1) dW c c c c c c c<|O c<|M<|bf (bE (k:=0) fM c c c c) c<|aa<|aU H4 (bz (vs:=[(.agg (al.C r27.1).toArray)]) c) c fun v31 _ H5=>O c<|ak<|M<|J (aK c<|aq e1)<|p (aL c)<|p (ae fld_196_0 c)<|aa<|aW H5 sc_42 c (fun _=>c) c fun x35 H6=>J c<|aa<|F H6 en_206 fun r37 _ H7=>p (dl c Tryz.underlying39 c)<|J c<|ad<|ax<|bG (step:=kW a2 a3 K q22 r37) (fun s8=>[(0,(pv a0)),(2,(.int .i64 a2)),(3,(.int .i64 a3)),(11,(sv s8.1)),(37,(sv r37)),(38,(.int .i64 (r37.len:Int))),(39,(.int .i64 s8.2))]) (fun s8=>[]) H7 (.cons c<|.cons c<|.cons c<|.cons c<|.cons c<|.cons c<|.cons c<|.nil _) (.cons _ .slnil) fun Rec9 s8 _ H10=>M<|p (cq c c)<|ad<|ak<|av c H10 (fun k11 H12=>an<|ak<|ax<|M<|ck H12 fun q41 e13 h14 H15=>p (bh iP (aK c<|aX e13) c h14)<|aa<|aW H15 aS c (fun _=>c) c fun x42 H16=>O c<|M<|J (aK c<|aq e1)<|p (aL c)<|p (ae fld_196_0 c)<|aa<|aW H16 sc_42 c (fun _=>c) c fun x46 H17=>J c<|ck H17 fun q48 e18 h19 H20=>p (bh fu (aK c<|aX e18) c h19)<|aa<|gI H20 ag_56 c (fun _=>c) c fun x49 H21=>aa<|aP (l:=aB.C (⟨0,0,(⟨0,0,0,0,0⟩:ai),0,0,0,(⟨0,0⟩:ac),(⟨0,0,0,0⟩:am)⟩:aB)) zero_56 c c fun b14=>aa<|aR (k:=0) (vs:=aB.C x49) inf_56 c c c c c c c<|ad<|M<|p (ae nk c)<|bf (bE (k:=0) fy c c c c) c<|aa<|cK (vs:=[(.agg (ai.C x49.fCall).toArray)]) (bv<|kx x49.fCall _) en_63 c c<|J c<|p (aj c c)<|p (aj c c)<|p (ar c)<|O c<|M<|J c<|ad<|ax<|eG (dV a2 a3 q22 Rec9 s8 x49) (fun s22=>[(0,(pv a0)),(2,(.int .i64 a2)),(3,(.int .i64 a3)),(11,(sv s8.1)),(14,(.pointer (some ⟨b14,0,none⟩))),(37,(sv r37)),(38,(.int .i64 (r37.len:Int))),(39,(.int .i64 s8.2)),(57,(.bool s22))]) (fun s22=>[bx b14 56 (aB.C x49)]) (M<|p (bH c c)<|O c<|av c H21 (fun k32 H33=>an<|cz (((aE x49.fCall).1) == 7) H33 (.cons c<|.cons c<|.cons c<|.cons c<|.cons c<|.cons c<|.cons c<|.cons c<|.cons c<|.nil _)<|.cons_cons _ .slnil) fun k32 H33=>M<|p (bH c c)<|O c<|av c H33 (fun k34 H35=>an<|cz (((aE x49.fCall).1) == 8) H35 (.cons c<|.cons c<|.cons c<|.cons c<|.cons c<|.cons c<|.cons c<|.cons c<|.cons c<|.nil _)<|.cons_cons _ .slnil) fun k34 H35=>M<|p (bH c c)<|O c<|av c H35 (fun k36 H37=>an<|cz (((aE x49.fCall).1) == 4) H37 (.cons c<|.cons c<|.cons c<|.cons c<|.cons c<|.cons c<|.cons c<|.cons c<|.cons c<|.nil _)<|.cons_cons _ .slnil) fun k36 H37=>ap<|p (bH c c)<|O c<|cz (((aE x49.fCall).1) == 5) H37 (.cons c<|.cons c<|.cons c<|.cons c<|.cons c<|.cons c<|.cons c<|.cons c<|.cons c<|.nil _)<|.cons_cons _ .slnil) fun s22 _ H23=>av c H23 (fun k24 H25=>M<|J (aK c<|aq e1)<|p (aL c)<|p (ae we c)<|aa<|aW H25 qi c (fun _=>c) c fun x65 H26=>aa<|F H26 en_184 fun r66 _ H27=>O c<|M<|J c<|p (ae kF c)<|bf (ba (k:=0) aS c c c) c<|p (ae nk c)<|bf (bE (k:=0) fy c c c c) c<|aa<|F H27 en_72 fun r72 _ H28=>ad<|M<|J c<|J c<|J c<|aa<|F H28 en_89 fun r77 _ H29=>J c<|p (aj c c)<|p (aj c c)<|aa<|aP (l:=al.C (⟨0,0,0⟩:al)) gg c c fun b18=>aa<|aR (k:=0) (vs:=al.C r77.1) dW c c c c c c c<|O c<|ap<|J c<|bf (bE (k:=0) fM c c c c) c<|aa<|aU H29 (bz (vs:=[(.agg (al.C r77.1).toArray)]) c) c fun v82 _ H30=>aa<|aU H30 (dJ c c) c fun v83 _ H31=>O c<|ap<|p (bn c c)<|J c<|ad<|cM (v83,(IntKind.i64.wrap (s8.2 + 1))) H31 (.cons c<|.cons c<|.cons c<|.cons c<|.cons c<|.cons c<|.cons c<|.nil _)<|.cons _<|.cons _ .slnil) fun k24 H25=>an<|ap<|p (bn c c)<|J c<|ad<|cM (s8.1,(IntKind.i64.wrap (s8.2 + 1))) H25 (.cons c<|.cons c<|.cons c<|.cons c<|.cons c<|.cons c<|.cons c<|.nil _)<|.cons _ .slnil) fun k11 H12=>bj<|M<|J c<|O c<|ah<|D ⟨s8.1,c,H12⟩
def kX (a1:aB) (K:Bool→Hp→Prop) (q18:Nat × Nat) (r50:Sl) (Rec13:(Bool × Bool × Int)→Hp→Prop) (s12:Bool × Bool × Int):Hp→Prop:=br (decide (s12.2.2 < (r50.len:Int))) ( ix r50 s12.2.2 fun q54=>ld (q54.1,q54.2 + Int.toNat s12.2.2 * 3) al.C fun x55=>Rec13 ((s12.1 || (!(dw x55.fRights (IntKind.i64.wrap a1.fCall.e0)))),(s12.2.1 || ((x55.fFrame == a1.fLine.fFrame) && (aV a1.fLine.fRights x55.fRights))),(IntKind.i64.wrap (s12.2.2 + 1)))) ( br (a1.fAnswer.fErr == 7) ( K ((s12.1 && (a1.fAnswer.fVal == 0)) && (am.eqb a1.fLine (⟨0,0,0,0⟩:am)))) ( ld (q18.1,q18.2 + 4) cP fun x103=>cl Tryz.prog gP [(pv x103)] dP fun r104=>cl Tryz.prog fe [(pv r104),(.int .i64 a1.fLine.fFrame),(.agg (ai.C a1.fCall).toArray)] bk fun r110=>K (((s12.2.1 && (((a1.fLine.fEnv == a1.fEnv) && (a1.fLine.fPage == (IntKind.i64.wrap a1.fCall.e1))) && (dw a1.fLine.fRights (IntKind.i64.wrap a1.fCall.e0)))) && r110.2) && (ac.eqb r110.1 a1.fAnswer))))
def pQ (a0:Ptr) (a1:aB) (K:Bool→Hp→Prop):Hp→Prop:=nn a0 fun q18=>ld (q18.1,q18.2 + 1 + 1) (cI .i64) fun x21=>cl Tryz.prog gY [(.agg (ai.C a1.fCall).toArray),(.int .i64 x21)] bi fun r22=>br (r22 != 0) ( K ((ac.eqb a1.fAnswer (⟨r22,0⟩:ac)) && (am.eqb a1.fLine (⟨0,0,0,0⟩:am)))) ( cl Tryz.prog lM [(.pointer (some ⟨q18.1,q18.2,none⟩)),(.int .i64 a1.fEffect),(.int .i64 a1.fEnv),(.int .i64 (IntKind.i64.wrap a1.fCall.e1))] qx fun r50=>Lp (kX a1 K q18 r50) (false,false,0))
theorem wT (a0:Ptr) (a1:aB) {K:Bool→Hp→Prop} {h:Hp} (H:pQ a0 a1 K h):Ct Tryz.prog lN #[(pv a0),(.agg (aB.C a1).toArray)] h fun v h'=>∃ r,v = aA r∧K r h':=aw [(pv a0),(.agg (aB.C a1).toArray)] Tryz.func140 c c c fun _=>M<|aa<|cA (l:=aB.C a1) c c c fun b3=>O c<|ak<|ak<|bm (n:=9) [bx b3 56 (aB.C a1)] cn c (.cons_cons _ .slnil)<|U 0 c (ae nk c)<|z_E 1 c (eA (k:=0) fy c c c c)<|U 2 c (ag c)<|hO H fun q18 e1 H2=>U 3 c (aL<|aK c<|aq e1)<|U 4 c (ae fld_196_1 c)<|U 5 c (ae kH c)<|bJ (i:=6) (fun _ _ _ _ hh=>hh) H2 c (by kernel_rfl) aS c (fun _=>c) c fun x21 H3=>R 7 c<|F H3 en_110 fun r22 _ H4=>⟨.cons_cons _ .slnil,U 8 c (ar c)<|aO (by kernel_rfl)<|M<|J c<|p (qH c c)<|ad<|av c H4 (fun k5 H6=>M<|p (ae kE c)<|bf (bE (k:=0) cH c c c c) c<|J c<|p (bd c<|jy r22)<|p (v_eqA eqg_30 (eqr_30 9998 _ _) c c)<|J c<|V c c (ay _) (fun g7=>wv<|ae gt c)<|V c c (ay _) (fun g8=>cv<|bE (k:=0) ig (az c g8) c c c)<|V c c (ay _) (fun g9=>wv<|bd (vs:=[]) c lW)<|V c c (ay _) (fun g10=>wv<|v_eqA eqg_54 (eqr_54 9998 _ _) (az c g10)<|az c g10)<|p (bO c c)<|O c<|ah<|D ⟨((ac.eqb a1.fAnswer (⟨r22,0⟩:ac)) && (am.eqb a1.fLine (⟨0,0,0,0⟩:am))),c,H6⟩) fun k5 H6=>an<|ak<|bm (n:=10) [bx b3 56 (aB.C a1)] cn c (.cons_cons _ .slnil)<|U 0 c (ae nk c)<|U 1 c (bw dk c c (by decide))<|z_E 2 c (cx (k:=0) cy c c c)<|U 3 c (eB ⟨_,Tryz.underlying22⟩ Tryz.underlying3 c)<|U 4 c (ae nk c)<|U 5 c (bw dk c c (by decide))<|z_E 6 c (cx (k:=0) cy c c c)<|U 7 c (eB ⟨_,Tryz.underlying22⟩ Tryz.underlying3 c)<|U 8 c (ar c)<|U 9 c (ar c)<|aO (by kernel_rfl)<|M<|p (ar c)<|O c<|ak<|M<|J (aK c<|aq e1)<|p (ae db c)<|bf (ba (k:=0) aS c c c) c<|p (ae kF c)<|bf (ba (k:=0) aS c c c) c<|J c<|aa<|F H6 en_183 fun r50 _ H11=>p (dl c Tryz.underlying240 c)<|J c<|ad<|ax<|bG (step:=kX a1 K q18 r50) (fun s12=>[(0,(pv a0)),(3,(.pointer (some ⟨b3,0,none⟩))),(6,(.int .i64 (IntKind.i64.wrap a1.fCall.e1))),(7,(.int .i64 (IntKind.i64.wrap a1.fCall.e0))),(8,(.bool s12.1)),(9,(.bool s12.2.1)),(50,(sv r50)),(51,(.int .i64 (r50.len:Int))),(52,(.int .i64 s12.2.2))]) (fun s12=>[bx b3 56 (aB.C a1)]) H11 (.cons c<|.cons c<|.cons c<|.cons c<|.cons c<|.cons c<|.cons c<|.cons c<|.cons c<|.nil _) (.cons_cons _ .slnil) fun Rec13 s12 _ H14=>M<|p (cq c c)<|ad<|ak<|av c H14 (fun k15 H16=>an<|ak<|ax<|M<|ck H16 fun q54 e17 h18 H19=>p (bh slc_240 (aK c<|aX e17) c h18)<|aa<|gI H19 fM c (fun _=>c) c fun x55 H20=>aa<|aP (l:=al.C (⟨0,0,0⟩:al)) gg c c fun b11=>aa<|aR (k:=0) (vs:=al.C x55) dW c c c c c c c<|ad<|M<|J c<|J c<|V c c (aG _) (fun g21=>wv<|ae eR c)<|V c c (aG _) (fun g22=>cv<|ba (k:=0) aS (az c g22) c c)<|V c c (aG _) (fun g23=>wv<|ag c)<|dc (vs:=[(.int .i64 x55.fRights),(.int .i64 (IntKind.i64.wrap a1.fCall.e0))]) c c c (aG _) (fun g24=>bv<|ke x55.fRights (IntKind.i64.wrap a1.fCall.e0) _) en_158 (fun g24=>aT (az c g24)<|aT (az c g24) bW) c<|V c c (aG _) (fun g25=>wv<|ct<|az c g25)<|p (cZ c c)<|O c<|ap<|J c<|J c<|V c c (aG _) (fun g26=>wv<|ae rc c)<|V c c (aG _) (fun g27=>cv<|ba (k:=0) aS (az c g27) c c)<|V c c (aG _) (fun g28=>wv<|ae gt c)<|V c c (aG _) (fun g29=>wv<|ae lR<|az c g29)<|V c c (aG _) (fun g30=>cv<|ba (k:=1) aS (az c g30) c c)<|V c c (aG _) (fun g31=>wv<|bH (az c g31)<|az c g31)<|V c c (aG _) (fun g32=>wv<|ag<|az c g32)<|V c c (dO _ _) (fun g33=>wv<|ae gt c)<|V c c (dO _ _) (fun g34=>wv<|ae rd<|az c g34)<|V c c (dO _ _) (fun g35=>cv<|ba (k:=1) aS (az c g35) c c)<|V c c (dO _ _) (fun g36=>wv<|ae eR c)<|V c c (dO _ _) (fun g37=>cv<|ba (k:=0) aS (az c g37) c c)<|dc (vs:=[(.int .i64 a1.fLine.fRights),(.int .i64 x55.fRights)]) c c c (dO _ _) (fun g38=>bv<|df a1.fLine.fRights x55.fRights _) mT (fun g38=>aT (az c g38)<|aT (az c g38) bW) c<|V c c (aG _) (fun g39=>wv<|bO (az c g39)<|aK c<|nP g39)<|p (cZ c c)<|O c<|ap<|p (bn c c)<|J c<|ad<|cM ((s12.1 || (!(dw x55.fRights (IntKind.i64.wrap a1.fCall.e0)))),(s12.2.1 || ((x55.fFrame == a1.fLine.fFrame) && (aV a1.fLine.fRights x55.fRights))),(IntKind.i64.wrap (s12.2.2 + 1))) H20 (.cons c<|.cons c<|.cons c<|.cons c<|.cons c<|.cons c<|.cons c<|.cons c<|.cons c<|.nil _)<|.cons _<|.cons_cons _ .slnil) fun k15 H16=>bj<|ak<|M<|p (ae kE c)<|p (ae kG c)<|bf (ba (k:=0) oS c c c) c<|p (bH c c)<|ad<|av c H16 (fun k40 H41=>M<|J c<|J c<|V c c (ay _) (fun g42=>wv<|ae kE c)<|V c c (ay _) (fun g43=>wv<|ae fld_30_1<|az c g43)<|V c c (ay _) (fun g44=>cv<|ba (k:=0) cy (az c g44) c c)<|V c c (ay _) (fun g45=>wv<|bH (az c g45) c)<|p (bO c c)<|J c<|V c c (ay _) (fun g46=>wv<|ae gt c)<|V c c (ay _) (fun g47=>cv<|bE (k:=0) ig (az c g47) c c c)<|V c c (ay _) (fun g48=>wv<|bd (vs:=[]) c lW)<|V c c (ay _) (fun g49=>wv<|v_eqA eqg_54 (eqr_54 9998 _ _) (az c g49)<|az c g49)<|p (bO c c)<|O c<|ah<|D ⟨((s12.1 && (a1.fAnswer.fVal == 0)) && (am.eqb a1.fLine (⟨0,0,0,0⟩:am))),c,H41⟩) fun k40 H41=>an<|ak<|bm (n:=17) [bx b3 56 (aB.C a1)] cn c (.cons_cons _ .slnil)<|U 0 c (ag<|aK c<|aq e1)<|U 1 c (aL c)<|U 2 c (ae we c)<|U 5 c (ae gt c)<|U 6 c (ae lR c)<|z_E 7 c (cx (k:=0) aS c c c)<|U 8 c (ae nk c)<|z_E 9 c (eA (k:=0) fy c c c c)<|bJ (i:=3) (fun _ _ _ _ hh=>hh) H41 c (by kernel_rfl) qi c (fun _=>c) c fun x103 H50=>jS (i:=4) (j:=14) (by kernel_rfl) (cJ c c<|F H50 en_184 fun r104 _ H52=>⟨.cons_cons _ .slnil,jS (i:=10) (j:=14) (by kernel_rfl) (cJ c c<|F H52 vj fun r110 _ H54=>⟨.cons_cons _ .slnil,U 11 c (ag c)<|U 12 c (aj c c)<|U 13 c (aj c c)<|R 14 c<|aP (l:=ac.C (⟨0,0⟩:ac)) di c c fun b12=>⟨.cons _<|.cons_cons _ .slnil,R 15 c<|aR (k:=0) (vs:=ac.C r110.1) bS c c c c c c c ⟨.cons _<|.cons_cons _ .slnil,U 16 c (ar c)<|aO (by kernel_rfl)<|M<|p (ae gt c)<|p (ae jP c)<|bf (ba (k:=1) aS c c c) c<|p (ae kF c)<|bf (ba (k:=1) aS c c c) c<|p (bH c c)<|J c<|V c c (ay _) (fun g55=>wv<|ae gt c)<|V c c (ay _) (fun g56=>wv<|ae nl<|az c g56)<|V c c (ay _) (fun g57=>cv<|ba (k:=1) aS (az c g57) c c)<|V c c (ay _) (fun g58=>wv<|ag c)<|V c c (ay _) (fun g59=>wv<|bH (az c g59)<|az c g59)<|p (bO c c)<|J c<|V c c (ay _) (fun g60=>wv<|ae gt c)<|V c c (ay _) (fun g61=>wv<|ae rd<|az c g61)<|V c c (ay _) (fun g62=>cv<|ba (k:=1) aS (az c g62) c c)<|V c c (ay _) (fun g63=>wv<|ag c)<|dc (vs:=[(.int .i64 a1.fLine.fRights),(.int .i64 (IntKind.i64.wrap a1.fCall.e0))]) c c c (ay _) (fun g64=>bv<|ke a1.fLine.fRights (IntKind.i64.wrap a1.fCall.e0) _) en_158 (fun g64=>aT (az c g64)<|aT (az c g64) bW) c<|p (bO c c)<|O c<|M<|J c<|J c<|V c c (ay _) (fun g65=>wv<|ag c)<|p (bO c c)<|J c<|V c c (ay _) (fun g66=>wv<|ag c)<|p (bO c c)<|J c<|V c c (ay _) (fun g67=>cv<|bE (k:=0) cH c c c c)<|V c c (ay _) (fun g68=>wv<|ae kE c)<|V c c (ay _) (fun g69=>cv<|bE (k:=1) cH (az c g69) c c c)<|V c c (ay _) (fun g70=>wv<|v_eqA eqg_30 (eqr_30 9998 _ _) (az c g70)<|az c g70)<|p (bO c c)<|O c<|ah<|D ⟨(((s12.2.1 && (((a1.fLine.fEnv == a1.fEnv) && (a1.fLine.fPage == (IntKind.i64.wrap a1.fCall.e1))) && (dw a1.fLine.fRights (IntKind.i64.wrap a1.fCall.e0)))) && r110.2) && (ac.eqb r110.1 a1.fAnswer)),c,H54⟩⟩⟩⟩)<|cJ c c<|aP (l:=ac.C (⟨0,0⟩:ac)) di c c fun b12=>⟨.cons _<|.cons_cons _ .slnil,R 10 c<|F H52 vj fun r110 _ H54=>⟨.cons _<|.cons_cons _ .slnil,U 11 c (ag c)<|U 12 c (aj c c)<|U 13 c (aj c c)<|R 15 c<|aR (k:=0) (vs:=ac.C r110.1) bS c c c c c c c ⟨.cons _<|.cons_cons _ .slnil,U 16 c (ar c)<|aO (by kernel_rfl)<|M<|p (ae gt c)<|p (ae jP c)<|bf (ba (k:=1) aS c c c) c<|p (ae kF c)<|bf (ba (k:=1) aS c c c) c<|p (bH c c)<|J c<|V c c (ay _) (fun g55=>wv<|ae gt c)<|V c c (ay _) (fun g56=>wv<|ae nl<|az c g56)<|V c c (ay _) (fun g57=>cv<|ba (k:=1) aS (az c g57) c c)<|V c c (ay _) (fun g58=>wv<|ag c)<|V c c (ay _) (fun g59=>wv<|bH (az c g59)<|az c g59)<|p (bO c c)<|J c<|V c c (ay _) (fun g60=>wv<|ae gt c)<|V c c (ay _) (fun g61=>wv<|ae rd<|az c g61)<|V c c (ay _) (fun g62=>cv<|ba (k:=1) aS (az c g62) c c)<|V c c (ay _) (fun g63=>wv<|ag c)<|dc (vs:=[(.int .i64 a1.fLine.fRights),(.int .i64 (IntKind.i64.wrap a1.fCall.e0))]) c c c (ay _) (fun g64=>bv<|ke a1.fLine.fRights (IntKind.i64.wrap a1.fCall.e0) _) en_158 (fun g64=>aT (az c g64)<|aT (az c g64) bW) c<|p (bO c c)<|O c<|M<|J c<|J c<|V c c (ay _) (fun g65=>wv<|ag c)<|p (bO c c)<|J c<|V c c (ay _) (fun g66=>wv<|ag c)<|p (bO c c)<|J c<|V c c (ay _) (fun g67=>cv<|bE (k:=0) cH c c c c)<|V c c (ay _) (fun g68=>wv<|ae kE c)<|V c c (ay _) (fun g69=>cv<|bE (k:=1) cH (az c g69) c c c)<|V c c (ay _) (fun g70=>wv<|v_eqA eqg_30 (eqr_30 9998 _ _) (az c g70)<|az c g70)<|p (bO c c)<|O c<|ah<|D ⟨(((s12.2.1 && (((a1.fLine.fEnv == a1.fEnv) && (a1.fLine.fPage == (IntKind.i64.wrap a1.fCall.e1))) && (dw a1.fLine.fRights (IntKind.i64.wrap a1.fCall.e0)))) && r110.2) && (ac.eqb r110.1 a1.fAnswer)),c,H54⟩⟩⟩⟩⟩)<|cJ c c<|aP (l:=ac.C (⟨0,0⟩:ac)) di c c fun b12=>⟨.cons _<|.cons_cons _ .slnil,R 4 c<|F H50 en_184 fun r104 _ H52=>⟨.cons _<|.cons_cons _ .slnil,R 10 c<|F H52 vj fun r110 _ H53=>⟨.cons _<|.cons_cons _ .slnil,U 11 c (ag c)<|U 12 c (aj c c)<|U 13 c (aj c c)<|R 15 c<|aR (k:=0) (vs:=ac.C r110.1) bS c c c c c c c ⟨.cons _<|.cons_cons _ .slnil,U 16 c (ar c)<|aO (by kernel_rfl)<|M<|p (ae gt c)<|p (ae jP c)<|bf (ba (k:=1) aS c c c) c<|p (ae kF c)<|bf (ba (k:=1) aS c c c) c<|p (bH c c)<|J c<|V c c (ay _) (fun g54=>wv<|ae gt c)<|V c c (ay _) (fun g55=>wv<|ae nl<|az c g55)<|V c c (ay _) (fun g56=>cv<|ba (k:=1) aS (az c g56) c c)<|V c c (ay _) (fun g57=>wv<|ag c)<|V c c (ay _) (fun g58=>wv<|bH (az c g58)<|az c g58)<|p (bO c c)<|J c<|V c c (ay _) (fun g59=>wv<|ae gt c)<|V c c (ay _) (fun g60=>wv<|ae rd<|az c g60)<|V c c (ay _) (fun g61=>cv<|ba (k:=1) aS (az c g61) c c)<|V c c (ay _) (fun g62=>wv<|ag c)<|dc (vs:=[(.int .i64 a1.fLine.fRights),(.int .i64 (IntKind.i64.wrap a1.fCall.e0))]) c c c (ay _) (fun g63=>bv<|ke a1.fLine.fRights (IntKind.i64.wrap a1.fCall.e0) _) en_158 (fun g63=>aT (az c g63)<|aT (az c g63) bW) c<|p (bO c c)<|O c<|M<|J c<|J c<|V c c (ay _) (fun g64=>wv<|ag c)<|p (bO c c)<|J c<|V c c (ay _) (fun g65=>wv<|ag c)<|p (bO c c)<|J c<|V c c (ay _) (fun g66=>cv<|bE (k:=0) cH c c c c)<|V c c (ay _) (fun g67=>wv<|ae kE c)<|V c c (ay _) (fun g68=>cv<|bE (k:=1) cH (az c g68) c c c)<|V c c (ay _) (fun g69=>wv<|v_eqA eqg_30 (eqr_30 9998 _ _) (az c g69)<|az c g69)<|p (bO c c)<|O c<|ah<|D ⟨(((s12.2.1 && (((a1.fLine.fEnv == a1.fEnv) && (a1.fLine.fPage == (IntKind.i64.wrap a1.fCall.e1))) && (dw a1.fLine.fRights (IntKind.i64.wrap a1.fCall.e0)))) && r110.2) && (ac.eqb r110.1 a1.fAnswer)),c,H53⟩⟩⟩⟩⟩⟩
def rQ (a0:Ptr) (a1:aB) (K:Bool→Hp→Prop):Hp→Prop:=br (a1.fAnswer.fErr == 0) ( nn a0 fun q13=>ld (q13.1,q13.2 + 1 + 1) (cI .i64) fun x16=>cl Tryz.prog gY [(.agg (ai.C a1.fCall).toArray),(.int .i64 x16)] bi fun r17=>br (r17 == 0) ( K (a1.fLine.fRights != 0)) ( K false)) ( K false)
theorem sim_judge_judge_well (a0:Ptr) (a1:aB) {K:Bool→Hp→Prop} {h:Hp} (H:rQ a0 a1 K h):Ct Tryz.prog nK #[(pv a0),(.agg (aB.C a1).toArray)] h fun v h'=>∃ r,v = aA r∧K r h':=aw [(pv a0),(.agg (aB.C a1).toArray)] Tryz.func141 c c c fun _=>M<|aa<|cA (l:=aB.C a1) c c c fun b3=>O c<|ak<|bm (n:=22) [bx b3 56 (aB.C a1)] cn c (.cons_cons _ .slnil)<|U 0 c (ae kE c)<|U 1 c (ae kG c)<|z_E 2 c (cx (k:=0) oS c c c)<|U 3 c (bH c c)<|U 4 c (ag c)<|eY H (fun k1 H2=>I 5 c (Y k1) (ve<|ae nk c)<|I 6 c (Y k1) (eA (k:=0) fy c c c c)<|I 7 c (Y k1) (ve<|ag c)<|hO H2 fun q13 e3 H4=>I 8 c (Y k1) (ve<|aL<|aK c<|aq e3)<|I 9 c (Y k1) (ve<|ae fld_196_1 c)<|I 10 c (Y k1) (ve<|ae kH c)<|eu (i:=11) (fun _ _ _ _ hh=>hh) H4 c (by kernel_rfl) c c c (Y k1) aS c (fun _=>c) c fun x16 H5=>eva_1 (i:=12) (by kernel_rfl)<|way_on c c c c (Y k1)<|F H5 en_110 fun r17 _ H6=>⟨.cons_cons _ .slnil,I 13 c (Y k1) (ve<|bH c c)<|U 14 c (aI c k1 c)<|U 15 c (ag c)<|eY H6 (fun k7 H8=>I 16 c (Y k7) (ve<|ae gt c)<|I 17 c (Y k7) (ve<|ae rd c)<|I 18 c (Y k7) (cx (k:=0) aS c c c)<|I 19 c (Y k7) (ve<|qH c c)<|U 20 c (aI c k7 c)<|U 21 c (ar c)<|aO (by kernel_rfl)<|ah<|D ⟨(a1.fLine.fRights != 0),c,H8⟩) fun k7 H8=>Z 16 c (aJ k7)<|Z 17 c (aJ k7)<|Z 18 c (aJ k7)<|Z 19 c (aJ k7)<|U 20 c (ao c k7 c)<|U 21 c (ar c)<|aO (by kernel_rfl)<|ah<|D ⟨false,c,H8⟩⟩) fun k1 H2=>Z 5 c (aJ k1)<|Z 6 c (aJ k1)<|Z 7 c (aJ k1)<|Z 8 c (aJ k1)<|Z 9 c (aJ k1)<|Z 10 c (aJ k1)<|Z 11 c (aJ k1)<|Z 12 c (aJ k1)<|Z 13 c (aJ k1)<|U 14 c (ao c k1 c)<|U 15 c (ag c)<|Z 16 c c<|Z 17 c c<|Z 18 c c<|Z 19 c c<|U 20 c (ao c c c)<|U 21 c (ar c)<|aO (by kernel_rfl)<|ah<|D ⟨false,c,H2⟩
def su (b25:Nat) (Rec8:Int→Hp→Prop) (s7:Int) (x36:aB) (s22:Unit):Hp→Prop:=cl Tryz.prog nK [(.pointer (some ⟨b25,0,none⟩)),(.agg (aB.C x36).toArray)] aA fun r49=>br r49 ( ld (b25,4) cP fun x53=>cl Tryz.prog fe [(pv x53),(.int .i64 x36.fLine.fFrame),(.agg (ai.C x36.fCall).toArray)] bk fun r59=>Rec8 (IntKind.i64.wrap (s7 + 1))) ( Rec8 (IntKind.i64.wrap (s7 + 1)))
def sq (K:(Int × Bool)→Hp→Prop) (b25:Nat) (Rec8:Int→Hp→Prop) (s7:Int) (x32:Int) (x36:aB) (s29:Bool):Hp→Prop:=br s29 ( K (x32,false)) ( su b25 Rec8 s7 x36 ())
def xq (a0:Sl) (a2:Bool) (a3:Bool) (K:(Int × Bool)→Hp→Prop) (b25:Nat) (r27:Sl) (Rec8:Int→Hp→Prop) (s7:Int):Hp→Prop:=br (decide (s7 < (r27.len:Int))) ( ix r27 s7 fun q31=>ld (q31.1,q31.2 + Int.toNat s7 * 1) (cI .i64) fun x32=>ix a0 x32 fun q35=>ld (q35.1,q35.2 + Int.toNat x32 * 16) aB.C fun x36=>br (jv x36) ( br a3 ( cl Tryz.prog lN [(.pointer (some ⟨b25,0,none⟩)),(.agg (aB.C x36).toArray)] aA fun r43=>sq K b25 Rec8 s7 x32 x36 (!r43)) ( sq K b25 Rec8 s7 x32 x36 false)) ( ld (b25,4) cP fun x64=>cl Tryz.prog dB [(pv x64),(.int .i64 x36.fEnv),(.agg (ai.C x36.fCall).toArray)] bk fun r69=>br (a2 && ((!r69.2) || (!(ac.eqb r69.1 x36.fAnswer)))) ( K (x32,false)) ( Rec8 (IntKind.i64.wrap (s7 + 1))))) ( K ((-1),true))
def sh_judge_run (a0:Sl) (a1:au) (a2:Bool) (a3:Bool) (K:(Int × Bool)→Hp→Prop):Hp→Prop:=cl Tryz.prog qn [(sv a0),(.agg (au.C a1).toArray)] aA fun r18=>br (!r18) ( K ((-1),false)) ( cl Tryz.prog od [(.agg (au.C a1).toArray)] dP fun r23=>nw dn (kO.C (⟨a0,a1,r23⟩:kO)) fun b25=>cl Tryz.prog pj [(sv a0)] cG fun r27=>Lp (xq a0 a2 a3 K b25 r27) 0)
theorem sim_judge_run (a0:Sl) (a1:au) (a2:Bool) (a3:Bool) {K:(Int × Bool)→Hp→Prop} {h:Hp} (H:sh_judge_run a0 a1 a2 a3 K h):Ct Tryz.prog uE #[(sv a0),(.agg (au.C a1).toArray),(.bool a2),(.bool a3)] h fun v h'=>∃ r,v = bQ r∧K r h':=aw [(sv a0),(.agg (au.C a1).toArray),(.bool a2),(.bool a3)] Tryz.func99 c c c fun _=>M<|aa<|cA (l:=au.C a1) c c c fun b5=>p (ar c)<|O c<|ak<|M<|J c<|bf (bE (k:=0) mK c c c c) c<|aa<|F H en_25 fun r18 _ H1=>p (ct c)<|ad<|av c H1 (fun k2 H3=>M<|p (ar c)<|O c<|ah<|bA (bV c (cf c)<|cf c) ⟨((-1),false),c,H3⟩) fun k2 H3=>an<|ak<|bm (n:=7) [bx b5 25 (au.C a1)] cn c (.cons_cons _ .slnil)<|U 0 c (ag c)<|z_E 1 c (eA (k:=0) mK c c c c)<|z_E 2 c (eA (k:=0) mK c c c c)<|R 3 c<|F H3 en_56 fun r23 _ H4=>⟨.cons_cons _ .slnil,U 4 c (bd c<|build_196_0_1_2 a0 a1 r23)<|R 5 c<|io c c c H4 fun b25 _ H5=>⟨.cons_cons _ .slnil,U 6 c (ar c)<|aO (by kernel_rfl)<|ak<|M<|J c<|aa<|F H5 en_44 fun r27 _ H6=>p (dl c Tryz.underlying39 c)<|J c<|ad<|ax<|bG (step:=xq a0 a2 a3 K b25 r27) (fun s7=>[(0,(sv a0)),(2,(.bool a2)),(3,(.bool a3)),(10,(.pointer (some ⟨b25,0,none⟩))),(27,(sv r27)),(28,(.int .i64 (r27.len:Int))),(29,(.int .i64 s7))]) (fun s7=>[]) H6 (.cons c<|.cons c<|.cons c<|.cons c<|.cons c<|.cons c<|.cons c<|.nil _) (.cons _ .slnil) fun Rec8 s7 _ H9=>M<|p (cq c c)<|ad<|ak<|av c H9 (fun k10 H11=>an<|ak<|ax<|M<|ck H11 fun q31 e12 h13 H14=>p (bh iP (aK c<|aX e12) c h13)<|aa<|aW H14 aS c (fun _=>c) c fun x32 H15=>O c<|M<|J c<|J c<|ck H15 fun q35 e16 h17 H18=>p (bh fu (aK c<|aX e16) c h17)<|aa<|gI H18 ag_56 c (fun _=>c) c fun x36 H19=>aa<|aP (l:=aB.C (⟨0,0,(⟨0,0,0,0,0⟩:ai),0,0,0,(⟨0,0⟩:ac),(⟨0,0,0,0⟩:am)⟩:aB)) zero_56 c c fun b13=>aa<|aR (k:=0) (vs:=aB.C x36) inf_56 c c c c c c c<|ad<|ak<|M<|bf (bE (k:=0) ag_56 c c c c) c<|aa<|cK (vs:=[(.agg (aB.C x36).toArray)]) (bv<|ct_judge_user x36 _) en_139 c c<|ad<|av c H19 (fun k20 H21=>eG (su b25 Rec8 s7 x36) (fun s22=>[(0,(sv a0)),(2,(.bool a2)),(3,(.bool a3)),(10,(.pointer (some ⟨b25,0,none⟩))),(13,(.pointer (some ⟨b13,0,none⟩))),(27,(sv r27)),(28,(.int .i64 (r27.len:Int))),(29,(.int .i64 s7))]) (fun s22=>[bx b13 56 (aB.C x36)]) (eG (sq K b25 Rec8 s7 x32 x36) (fun s29=>[(0,(sv a0)),(2,(.bool a2)),(3,(.bool a3)),(10,(.pointer (some ⟨b25,0,none⟩))),(12,(.int .i64 x32)),(13,(.pointer (some ⟨b13,0,none⟩))),(27,(sv r27)),(28,(.int .i64 (r27.len:Int))),(29,(.int .i64 s7)),(45,(.bool s29))]) (fun s29=>[bx b13 56 (aB.C x36)]) (ap<|J c<|J c<|V c c (ay _) (fun g33=>wv<|ag c)<|V c c (ay _) (fun g34=>cv<|bE (k:=0) ag_56 c c c c)<|bT H21 (fun k36 H37=>G (Y k36)<|gm H37 en_140 (aT (az c k36)<|aT (az c k36) bW) c fun r43 _ H38=>G (Y k36)<|z_p (ct c)<|p (aI c k36 c)<|ad<|cz (!r43) H38 (.cons c<|.cons c<|.cons c<|.cons c<|.cons c<|.cons c<|.cons c<|.cons c<|.cons c<|.cons c<|.nil _)<|.cons_cons _ .slnil) fun k36 H37=>W (aJ k36)<|W (aJ k36)<|p (ao c k36 c)<|ad<|cz false H37 (.cons c<|.cons c<|.cons c<|.cons c<|.cons c<|.cons c<|.cons c<|.cons c<|.cons c<|.cons c<|.nil _)<|.cons_cons _ .slnil) fun s29 _ H30=>av c H30 (fun k31 H32=>M<|J c<|p (ar c)<|O c<|ah<|bA (bV c (cf c)<|cf c) ⟨(x32,false),c,H32⟩) fun k31 H32=>an<|cz () H32 (.cons c<|.cons c<|.cons c<|.cons c<|.cons c<|.cons c<|.cons c<|.cons c<|.nil _)<|.cons_cons _ .slnil) fun s22 _ H23=>ak<|M<|J c<|bf (bE (k:=0) ag_56 c c c c) c<|aa<|F H23 en_141 fun r49 _ H24=>ad<|av c H24 (fun k25 H26=>bm (n:=10) [bx b13 56 (aB.C x36)] cn c (.cons_cons _ .slnil)<|U 0 c (ag c)<|U 1 c (aL c)<|U 2 c (ae we c)<|U 4 c (ae gt c)<|U 5 c (ae lR c)<|z_E 6 c (cx (k:=0) aS c c c)<|U 7 c (ae nk c)<|z_E 8 c (eA (k:=0) fy c c c c)<|bJ (i:=3) (fun _ _ _ _ hh=>hh) H26 c (by kernel_rfl) qi c (fun _=>c) c fun x53 H27=>R 9 c<|F H27 vj fun r59 _ H28=>⟨.cons_cons _ .slnil,aO (by kernel_rfl)<|bj<|ap<|p (bn c c)<|J c<|ad<|cM (IntKind.i64.wrap (s7 + 1)) H28 (.cons c<|.cons c<|.cons c<|.cons c<|.cons c<|.cons c<|.cons c<|.nil _)<|.cons _ .slnil⟩) fun k25 H26=>an<|bj<|ap<|p (bn c c)<|J c<|ad<|cM (IntKind.i64.wrap (s7 + 1)) H26 (.cons c<|.cons c<|.cons c<|.cons c<|.cons c<|.cons c<|.cons c<|.nil _)<|.cons _ .slnil) fun k20 H21=>an<|ak<|bm (n:=15) [bx b13 56 (aB.C x36)] cn c (.cons_cons _ .slnil)<|U 0 c (ag c)<|U 1 c (aL c)<|U 2 c (ae we c)<|U 4 c (ae kF c)<|z_E 5 c (cx (k:=0) aS c c c)<|U 6 c (ae nk c)<|z_E 7 c (eA (k:=0) fy c c c c)<|bJ (i:=3) (fun _ _ _ _ hh=>hh) H21 c (by kernel_rfl) qi c (fun _=>c) c fun x64 H39=>jS (i:=8) (j:=12) (by kernel_rfl) (cJ c c<|F H39 en_72 fun r69 _ H41=>⟨.cons_cons _ .slnil,U 9 c (ag c)<|U 10 c (aj c c)<|U 11 c (aj c c)<|R 12 c<|aP (l:=ac.C (⟨0,0⟩:ac)) di c c fun b14=>⟨.cons _<|.cons_cons _ .slnil,R 13 c<|aR (k:=0) (vs:=ac.C r69.1) bS c c c c c c c ⟨.cons _<|.cons_cons _ .slnil,U 14 c (ar c)<|aO (by kernel_rfl)<|M<|J c<|J c<|V c c (ay _) (fun g42=>wv<|ag c)<|V c c (ay _) (fun g43=>wv<|ct<|az c g43)<|V c c (ay _) (fun g44=>wv<|ag<|az c g44)<|V c c (ee _ _) (fun g45=>cv<|bE (k:=0) cH c c c c)<|V c c (ee _ _) (fun g46=>wv<|ae kE c)<|V c c (ee _ _) (fun g47=>cv<|bE (k:=1) cH (az c g47) c c c)<|V c c (ee _ _) (fun g48=>wv<|v_neA eqg_30 (eqr_30 9998 _ _) (az c g48)<|az c g48)<|V c c (ay _) (fun g49=>wv<|cZ (az c g49)<|aK c<|nP g49)<|p (bO c c)<|ad<|av c H41 (fun k50 H51=>M<|J c<|p (ar c)<|O c<|ah<|bA (bV c (cf c)<|cf c) ⟨(x32,false),c,H51⟩) fun k50 H51=>an<|ap<|p (bn c c)<|J c<|ad<|cM (IntKind.i64.wrap (s7 + 1)) H51 (.cons c<|.cons c<|.cons c<|.cons c<|.cons c<|.cons c<|.cons c<|.nil _)<|.cons _<|.cons _ .slnil⟩⟩⟩)<|cJ c c<|aP (l:=ac.C (⟨0,0⟩:ac)) di c c fun b14=>⟨.cons _<|.cons_cons _ .slnil,R 8 c<|F H39 en_72 fun r69 _ H41=>⟨.cons _<|.cons_cons _ .slnil,U 9 c (ag c)<|U 10 c (aj c c)<|U 11 c (aj c c)<|R 13 c<|aR (k:=0) (vs:=ac.C r69.1) bS c c c c c c c ⟨.cons _<|.cons_cons _ .slnil,U 14 c (ar c)<|aO (by kernel_rfl)<|M<|J c<|J c<|V c c (ay _) (fun g42=>wv<|ag c)<|V c c (ay _) (fun g43=>wv<|ct<|az c g43)<|V c c (ay _) (fun g44=>wv<|ag<|az c g44)<|V c c (ee _ _) (fun g45=>cv<|bE (k:=0) cH c c c c)<|V c c (ee _ _) (fun g46=>wv<|ae kE c)<|V c c (ee _ _) (fun g47=>cv<|bE (k:=1) cH (az c g47) c c c)<|V c c (ee _ _) (fun g48=>wv<|v_neA eqg_30 (eqr_30 9998 _ _) (az c g48)<|az c g48)<|V c c (ay _) (fun g49=>wv<|cZ (az c g49)<|aK c<|nP g49)<|p (bO c c)<|ad<|av c H41 (fun k50 H51=>M<|J c<|p (ar c)<|O c<|ah<|bA (bV c (cf c)<|cf c) ⟨(x32,false),c,H51⟩) fun k50 H51=>an<|ap<|p (bn c c)<|J c<|ad<|cM (IntKind.i64.wrap (s7 + 1)) H51 (.cons c<|.cons c<|.cons c<|.cons c<|.cons c<|.cons c<|.cons c<|.nil _)<|.cons _<|.cons _ .slnil⟩⟩⟩) fun k10 H11=>bj<|M<|p (ar c)<|O c<|ah<|bA (bV c (cf c)<|cf c) ⟨((-1),true),c,H11⟩⟩⟩
def sh_judge_Linear (a0:Sl) (a1:au) (K:(Int × Bool)→Hp→Prop):Hp→Prop:=cl Tryz.prog uE [(sv a0),(.agg (au.C a1).toArray),(.bool true),(.bool false)] bQ fun r8=>K (r8.1,r8.2)
theorem sim_judge_Linear (a0:Sl) (a1:au) {K:(Int × Bool)→Hp→Prop} {h:Hp} (H:sh_judge_Linear a0 a1 K h):Ct Tryz.prog pf #[(sv a0),(.agg (au.C a1).toArray)] h fun v h'=>∃ r,v = bQ r∧K r h':=aw [(sv a0),(.agg (au.C a1).toArray)] Tryz.func47 c c c fun _=>M<|aa<|cA (l:=au.C a1) c c c fun b3=>p (ar c)<|O c<|M<|J c<|bf (bE (k:=0) mK c c c c) c<|aa<|F H en_99 fun r8 _ H1=>p (aj c c)<|p (aj c c)<|p (ar c)<|O c<|ah<|bA (bV c (cf c)<|cf c) ⟨(r8.1,r8.2),c,H1⟩
def sh_judge_Access (a0:Sl) (a1:au) (K:(Int × Bool)→Hp→Prop):Hp→Prop:=cl Tryz.prog uE [(sv a0),(.agg (au.C a1).toArray),(.bool false),(.bool true)] bQ fun r8=>K (r8.1,r8.2)
theorem sim_judge_Access (a0:Sl) (a1:au) {K:(Int × Bool)→Hp→Prop} {h:Hp} (H:sh_judge_Access a0 a1 K h):Ct Tryz.prog ph #[(sv a0),(.agg (au.C a1).toArray)] h fun v h'=>∃ r,v = bQ r∧K r h':=aw [(sv a0),(.agg (au.C a1).toArray)] Tryz.func48 c c c fun _=>M<|aa<|cA (l:=au.C a1) c c c fun b3=>p (ar c)<|O c<|M<|J c<|bf (bE (k:=0) mK c c c c) c<|aa<|F H en_99 fun r8 _ H1=>p (aj c c)<|p (aj c c)<|p (ar c)<|O c<|ah<|bA (bV c (cf c)<|cf c) ⟨(r8.1,r8.2),c,H1⟩
def sh_judge_Right (a0:Sl) (a1:au) (K:Bool→Hp→Prop):Hp→Prop:=cl Tryz.prog pf [(sv a0),(.agg (au.C a1).toArray)] bQ fun r12=>cl Tryz.prog ph [(sv a0),(.agg (au.C a1).toArray)] bQ fun r18=>K (r12.2 && r18.2)
theorem sim_judge_Right (a0:Sl) (a1:au) {K:Bool→Hp→Prop} {h:Hp} (H:sh_judge_Right a0 a1 K h):Ct Tryz.prog uZ #[(sv a0),(.agg (au.C a1).toArray)] h fun v h'=>∃ r,v = aA r∧K r h':=aw [(sv a0),(.agg (au.C a1).toArray)] Tryz.func19 c c c fun _=>M<|aa<|cA (l:=au.C a1) c c c fun b3=>O c<|M<|J c<|bf (bE (k:=0) mK c c c c) c<|aa<|F H en_47 fun r12 _ H1=>J c<|p (aj c c)<|p (aj c c)<|p (ar c)<|O c<|M<|J c<|bf (bE (k:=0) mK c c c c) c<|aa<|F H1 en_48 fun r18 _ H2=>J c<|p (aj c c)<|p (aj c c)<|p (ar c)<|O c<|M<|J c<|J c<|V c c (ay _) (fun g3=>wv<|ag c)<|p (bO c c)<|O c<|ah<|D ⟨(r12.2 && r18.2),c,H2⟩
end Go.Proofs.YtemoifebbhoinaaGreatDoor
