/- Part of the proof of: The law KernEnds returns true for every input, and leaves its arguments as they were. -/
import Derived.Test.YtmggcfijlpldpaaGreatDoorKernEnds13
set_option linter.all false
set_option maxRecDepth 20000
namespace Go.Proofs.YtmggcfijlpldpaaGreatDoor
open Go Mb
theorem mC (e:ce):e.C.length = 16:=rfl
theorem ev_one (e:ce):dI e.C = true:=rfl
abbrev vE (s:Sl) (xs:List ce):As:=vec t_api_Event 16 aC.C s xs
def iD (x:Ptr):Option KC→As
  | none=>fun _=>x = none
  | some c=>fun h=>∃ b:Nat,x = some (b,0)∧blk b cQ c.C h
section
variable {l:List As} {h:Hp} {cp:List Ptr} {cs:List (Option KC)} {n:Nat}
theorem all_get {σ α:Type} {A:σ→α→As} {ps:List σ} {xs:List α} {i j:Nat} {p:σ} {x:α} (st:aG l h) (hj:l[j]? = some (all A ps xs)) (hp:ps[i]? = some p) (hx:xs[i]? = some x):∃ h1,A p x h1∧∀ b o,h1 b = some o→h b = some o:=by
  obtain ⟨h1,a,sub⟩:=dS hj st
  obtain ⟨h2,a2,sub2⟩:=dS (objs_get hp hx) a
  exact ⟨h2,a2,fun b o e=>sub _ _ (sub2 _ _ e)⟩
theorem call_none {j:Nat} {p:Ptr} (st:aG l h) (hj:l[j]? = some (all iD cp cs)) (hp:cp[n]? = some p) (hx:cs[n]? = some none):p = none:=by
  obtain ⟨_,a,_⟩:=all_get st hj hp hx; exact a
theorem wc {j:Nat} {p:Ptr} {x:KC} (st:aG l h) (hj:l[j]? = some (all iD cp cs)) (hp:cp[n]? = some p) (hx:cs[n]? = some (some x)):∃ b,p = some (b,0)∧h b = some (.cells x.C.toArray cQ (0,0)):=by
  obtain ⟨_,⟨b,e,a⟩,sub⟩:=all_get st hj hp hx
  exact ⟨b,e,sub _ _ a⟩
theorem all_but {σ α:Type} {A:σ→α→As} {ps:List σ} {xs:List α} {i:Nat} {p:σ} {x:α} (hp:ps[i]? = some p) (hx:xs[i]? = some x) (s:aG (all A ps xs::l) h):aG (but A ps xs i::l) h:=by
  obtain ⟨h1,h2,d,e,_,s'⟩:=ja hp hx s
  rw [e,un_comm d]; exact sx s' d.symm
theorem call_mk {b:Nat} {y:KC} (s:aG (blk b cQ y.C::l) h):aG (iD (some (b,0)) (some y)::l) h:=by
  obtain ⟨h1,h2,d,e,a,s'⟩:=s
  exact ⟨h1,h2,d,e,⟨b,rfl,a⟩,s'⟩
theorem ld_c {τ:Type} {j b off:Nat} {x:KC} {enc:τ→List Value} {K:τ→Hp→Prop} (y:τ) (st:aG l h) (hj:l[j]? = some (all iD cp cs)) (hp:cp[n]? = some (some (b,0))) (hx:cs[n]? = some (some x)) (hy:∀ i v,(enc y)[i]? = some v→x.C[off + i]? = some v) (k:K y h):ld (b,off) enc K h:=by
  obtain ⟨b',e,a⟩:=wc st hj hp hx
  cases e
  exact ⟨y,⟨_,_,_,a,fun i v hv=>by simpa using hy i v hv⟩,k⟩
theorem ld_c1 {τ:Type} {j b off:Nat} {x:KC} {enc:τ→List Value} {K:τ→Hp→Prop} {v:Value} (y:τ) (st:aG l h) (hj:l[j]? = some (all iD cp cs)) (hp:cp[n]? = some (some (b,0))) (hx:cs[n]? = some (some x)) (he:enc y = [v]) (hv:x.C[off]? = some v) (k:K y h):ld (b,off) enc K h :=
  ld_c y st hj hp hx (c1 he hv) k
theorem call_out {p:Ptr} {x:KC} (hp:cp[n]? = some p) (hx:cs[n]? = some (some x)) (s:aG (all iD cp cs::l) h):∃ b,p = some (b,0)∧aG (blk b cQ x.C::but iD cp cs n::l) h:=by
  obtain ⟨h1,h2,d,e,⟨b,e1,a⟩,s'⟩:=ja hp hx s
  exact ⟨b,e1,h1,h2,d,e,a,s'⟩
theorem call_in {b:Nat} {y:KC} (hp:cp[n]? = some (some (b,0))) (hn:n < cs.length) (hl:cp.length = cs.length) (s:aG (blk b cQ y.C::but iD cp cs n::l) h):aG (all iD cp (cs.set n (some y))::l) h:=by
  obtain ⟨h1,h2,d,e,a,s'⟩:=s
  exact uX (A:=iD) hp hn hl ⟨h1,h2,d,e,⟨b,rfl,a⟩,s'⟩
end
def capOf (h:Hp) (x:Ptr):Cap:=match x with
  | some q=>(match h q.1 with
    | some (.cells c _ _)=>(match c.toList with
      | [.int _ a,.int _ b,.int _ d,.int _ e]=>⟨a,b,d,e⟩
      | _=>lE)
    | _=>lE)
  | none=>lE
theorem capOf_eq {l:List As} {h:Hp} {i b T:Nat} {c:Cap} (st:aG l h) (hi:l[i]? = some (blk b T c.C)):capOf h (some (b,0)) = c:=by
  obtain ⟨h1,a,sub⟩:=dS hi st
  unfold capOf
  rw [show (some (b,0):Ptr) = some (b,0) from rfl]
  simp only [sub _ _ a]
  rfl
theorem at_get {t:Caps.T} {e s:Int} (h1:Caps.has t e s = true) (h2:(Caps.get t e s).fRights ≠ 0):Caps.at_ t e s = (Caps.get t e s,true):=if_pos ⟨h1,h2⟩
def wi (t:Caps.T) (x:KC) (r:Cap × Bool):Bool:=if r.2 = true then Caps.under t r.1 ⟨x.fenv,IntKind.i64.wrap x.fc.e1⟩ else false
theorem up_at {t:Caps.T} (x:KC) (e s:Int):wi t x (Caps.at_ t e s) = (if Caps.has t e s = true then Caps.under t (Caps.get t e s) ⟨x.fenv,IntKind.i64.wrap x.fc.e1⟩ else false):=by
  unfold wi
  by_cases h1:Caps.has t e s = true
  · by_cases h2:(Caps.get t e s).fRights ≠ 0
    · rw [at_get h1 h2,if_pos rfl,if_pos h1]
    · have ea:Caps.at_ t e s = (lE,false):=if_neg (fun hh=>h2 hh.2)
      rw [ea,if_neg Bool.false_ne_true,if_pos h1]
      cases hu:Caps.under t (Caps.get t e s) ⟨x.fenv,IntKind.i64.wrap x.fc.e1⟩ with
      | false=>rfl
      | true=>exact absurd (Caps.under_rights hu) h2
  · have ea:Caps.at_ t e s = (lE,false):=if_neg (fun hh=>h1 hh.1)
    rw [ea,if_neg Bool.false_ne_true,if_neg h1]
theorem sp_kern_goes (kb xb:Nat) (pp:Ptr) (kc:List Value) (p:PK) (x:KC) (e s:Int) (h0:kc[0]? = some (pv pp)) :
    Sp Tryz.prog pY [pv (some (kb,0)),pv (some (xb,0)),.int .i64 e,.int .i64 s] aA [blk kb ci kc,blk xb cQ x.C,bo pp p] (fun r=>pa_ (r = KK.goes p x e s) [blk kb ci kc,blk xb cQ x.C,bo pp p]):=by
  intro h s0
  have tok:Caps.Ok p.caps:=by
    obtain ⟨_,_,_,ok,_⟩:=fI (bb [2] s0 rfl); exact ok.tree
  refine sim_kern_Kern_goes _ _ _ _ ?_
  unfold ug
  have j1:¬ (x.fc.e0 = 5∧e = x.fenv∧s = IntKind.i64.wrap x.fc.e1)→iW (some (kb,0)) e s (fun r=>pa_ (r = KK.goes p x e s) [blk kb ci kc,blk xb cQ x.C,bo pp p]) (xb,0) x.fc.e1 () h:=by
    intro hno
    have eg:KK.goes p x e s = wi p.caps x (Caps.at_ p.caps e s):=by unfold KK.goes; rw [if_neg hno,up_at]
    rw [eg]
    unfold iW
    refine cy (bk pp s0 (i:=0) rfl rfl h0 ?_)
    refine bM (wq pp p e s) (i:=2) rfl s0 fun r h1 hr s1=>?_
    subst hr
    refine pf s1 fun b h2 s2=>?_
    refine tN (i:=0) s2 rfl (by simp [qo]) fun h3 s3=>?_
    have s3':aG [blk b fJ (Caps.at_ p.caps e s).1.C,blk kb ci kc,blk xb cQ x.C,bo pp p] h3:=s3
    refine Lp.intro (fun (z:Ptr × Bool) h=>∃ (b:Nat) (a i:Int),z = (some (b,0),(Caps.at_ p.caps a i).2)∧wi p.caps x (Caps.at_ p.caps a i) = wi p.caps x (Caps.at_ p.caps e s)∧aG [blk b fJ (Caps.at_ p.caps a i).1.C,blk kb ci kc,blk xb cQ x.C,bo pp p] h)
      (fun (z:Ptr × Bool) h=>Caps.deep 40 p.caps (capOf h z.1)) ⟨b,e,s,rfl,rfl,s3'⟩ ?_
    rintro z h ⟨b,a,i,rfl,hu,s4⟩
    unfold oR
    rw [capOf_eq (i:=0) s4 rfl]
    refine aX (fun k=>?_) (fun k=>?_)
    · have hat:Caps.has p.caps a i = true∧(Caps.get p.caps a i).fRights ≠ 0:=by
        unfold Caps.at_ at k; split at k
        · assumption
        · cases k
      have e1:=at_get hat.1 hat.2
      rw [e1] at s4 hu ⊢
      have step:=Caps.under_step tok hat.1 ⟨x.fenv,IntKind.i64.wrap x.fc.e1⟩
      have hu':wi p.caps x (Caps.get p.caps a i,true) = Caps.under p.caps (Caps.get p.caps a i) ⟨x.fenv,IntKind.i64.wrap x.fc.e1⟩:=rfl
      rw [hu'] at hu
      refine cy (bk (Caps.get p.caps a i).fEnv s4 (i:=0) rfl rfl rfl ?_)
      refine aX (fun k2=>?_) (fun k2=>?_)
      · have k2':0 ≤ (Caps.get p.caps a i).fEnv:=by simpa using k2
        rw [if_pos ⟨hat.2,k2'⟩] at step
        have dd:=Caps.deep_step tok hat.1 ⟨hat.2,k2'⟩
        obtain ⟨q1,q2⟩:=Caps.parent_has tok hat.1 hat.2 k2'
        have next:¬ ((Caps.get p.caps a i).fEnv = x.fenv∧(Caps.get p.caps a i).fSlot = IntKind.i64.wrap x.fc.e1) →
            iV (kb,0) b (fun s' h'=>(∃ (b:Nat) (a i:Int),s' = (some (b,0),(Caps.at_ p.caps a i).2)∧wi p.caps x (Caps.at_ p.caps a i) = wi p.caps x (Caps.at_ p.caps e s)∧aG [blk b fJ (Caps.at_ p.caps a i).1.C,blk kb ci kc,blk xb cQ x.C,bo pp p] h')∧Caps.deep 40 p.caps (capOf h' s'.1) < Caps.deep 40 p.caps (Caps.get p.caps a i)) (b,0) () h:=by
          intro hne
          unfold iV
          refine ld_s (i:=0) (Caps.get p.caps a i) s4 rfl (by simp) ?_
          refine pf s4 fun b2 h5 s5=>?_
          refine tN (i:=0) s5 rfl (by simp [qo]) fun h6 s6=>?_
          have s6':aG [blk b2 fJ (Caps.get p.caps a i).C,blk b fJ (Caps.get p.caps a i).C,blk kb ci kc,blk xb cQ x.C,bo pp p] h6:=s6
          refine bk pp s6' (i:=2) rfl rfl h0 ?_
          refine bk (Caps.get p.caps a i).fEnv s6' (i:=0) rfl rfl rfl ?_
          refine bk (Caps.get p.caps a i).fSlot s6' (i:=0) rfl rfl rfl ?_
          refine bM (wq pp p _ _) (i:=4) rfl s6' fun r h7 hr s7=>?_
          subst hr
          refine tN (i:=0) s7 rfl (by simp [qo]) fun h8 s8=>?_
          have s8':aG [blk b2 fJ (Caps.at_ p.caps (Caps.get p.caps a i).fEnv (Caps.get p.caps a i).fSlot).1.C,blk b fJ (Caps.get p.caps a i).C,blk kb ci kc,blk xb cQ x.C,bo pp p] h8:=s8
          have e2:=at_get q1 q2
          refine ⟨⟨b2,_,_,rfl,?_,cc (l:=[blk b fJ (Caps.get p.caps a i).C]) (bb [1] s8' rfl)⟩,?_⟩
          · rw [e2,← hu,step,if_neg hne]; rfl
          · rw [capOf_eq (i:=0) s8' rfl,e2]; exact dd
        refine bk (Caps.get p.caps a i).fEnv s4 (i:=0) rfl rfl rfl ?_
        refine bk x.fenv s4 (i:=2) rfl rfl rfl ?_
        refine aX (fun k3=>?_) (fun k3=>?_)
        · have k3':(Caps.get p.caps a i).fEnv = x.fenv:=by simpa using k3
          refine bk (Caps.get p.caps a i).fSlot s4 (i:=0) rfl rfl rfl ?_
          refine aX (fun k4=>?_) (fun k4=>?_)
          · have k4':(Caps.get p.caps a i).fSlot = IntKind.i64.wrap x.fc.e1:=by simpa using k4
            rw [if_pos ⟨k3',k4'⟩] at step
            exact aW (by rw [← hu,step]) (cc (l:=[blk b fJ (Caps.get p.caps a i).C]) s4)
          · exact next (fun hh=>by simp [hh.2] at k4)
        · exact next (fun hh=>by simp [hh.1] at k3)
      · have k2':¬ 0 ≤ (Caps.get p.caps a i).fEnv:=by simpa using k2
        rw [if_neg (fun hh=>k2' hh.2)] at step
        exact aW (by rw [← hu,step]) (cc (l:=[blk b fJ (Caps.get p.caps a i).C]) s4)
    · refine aW ?_ (cc (l:=[blk b fJ (Caps.at_ p.caps a i).1.C]) s4)
      rw [← hu]; unfold wi
      have k':(Caps.at_ p.caps a i).2 = false:=k
      rw [k']; rfl
  refine cy (bk x.fc.e1 s0 (i:=1) rfl rfl rfl ?_)
  refine bk x.fc.e0 s0 (i:=1) rfl rfl rfl ?_
  refine aX (fun k=>?_) (fun k=>?_)
  · have k':x.fc.e0 = 5:=by simpa using k
    refine bk x.fenv s0 (i:=1) rfl rfl rfl ?_
    refine aX (fun k2=>?_) (fun k2=>?_)
    · have k2':e = x.fenv∧s = IntKind.i64.wrap x.fc.e1:=by simpa using k2
      exact aW (by unfold KK.goes; rw [if_pos ⟨k',k2'⟩]) s0
    · exact j1 (fun hh=>by simp [hh.2.1,hh.2.2] at k2)
  · exact j1 (fun hh=>by simp [hh.1] at k)
theorem sp_kern_left (kb xb:Nat) (pp:Ptr) (kc:List Value) (p:PK) (x:KC) (e pg:Int) (q:Pte) (h0:kc[0]? = some (pv pp)) :
    Sp Tryz.prog lT [pv (some (kb,0)),pv (some (xb,0)),.int .i64 e,.int .i64 pg,.agg q.C.toArray] wg [blk kb ci kc,blk xb cQ x.C,bo pp p] (fun r=>pa_ (r = KK.left p x e pg q) [blk kb ci kc,blk xb cQ x.C,bo pp p]):=by
  intro h s0
  refine sim_kern_Kern_left _ _ _ _ _ ?_
  unfold uf
  have j1:∀ o:Bool,o = decide (x.fenv = e∧IntKind.i64.wrap x.fc.e1 = pg)→iU (some (kb,0)) (some (xb,0)) e q (fun r=>pa_ (r = KK.left p x e pg q) [blk kb ci kc,blk xb cQ x.C,bo pp p]) o h:=by
    intro o ho
    unfold iU
    refine cy (bk x.fc.e0 s0 (i:=1) rfl rfl rfl ?_)
    refine aX (fun k=>?_) (fun k=>?_)
    · have k':x.fc.e0 = 7:=by simpa using k
      refine aX (fun k2=>?_) (fun k2=>?_)
      · have k2':x.fenv = e∧IntKind.i64.wrap x.fc.e1 = pg:=of_decide_eq_true (ho ▸ k2)
        exact aW (by unfold KK.left; rw [if_pos k',if_pos k2']) s0
      · have k2':¬ (x.fenv = e∧IntKind.i64.wrap x.fc.e1 = pg):=of_decide_eq_false (ho ▸ k2)
        exact aW (by unfold KK.left; rw [if_pos k',if_neg k2']) s0
    · have k':¬ x.fc.e0 = 7:=by simpa using k
      refine aX (fun k2=>?_) (fun k2=>?_)
      · have k2':x.fc.e0 = 8:=by simpa using k2
        refine cy (bk pp s0 (i:=0) rfl rfl h0 ?_)
        refine bM (wq pp p e q.fSlot) (i:=2) rfl s0 fun r h1 hr s1=>?_
        subst hr
        refine bk x.fc.e2 s1 (i:=1) rfl rfl rfl ?_
        refine aX (fun k3=>?_) (fun k3=>?_)
        · rw [Bool.and_eq_true] at k3
          have k3':x.fenv = e∧IntKind.i64.wrap x.fc.e1 = pg:=of_decide_eq_true (ho ▸ k3.1)
          exact aW (by unfold KK.left; rw [if_neg k',if_pos k2',if_pos ⟨k3',k3.2⟩]) s1
        · have k3':¬ ((x.fenv = e∧IntKind.i64.wrap x.fc.e1 = pg)∧aT (IntKind.i64.wrap x.fc.e2) (Caps.at_ p.caps e q.fSlot).1.fRights = true):=by
            rintro ⟨h3,h4⟩
            rw [ho,decide_eq_true h3,h4] at k3; cases k3
          exact aW (by unfold KK.left; rw [if_neg k',if_pos k2',if_neg k3']) s1
      · have k2':¬ x.fc.e0 = 8:=by simpa using k2
        refine cO [0,0,0] (sp_kern_goes kb xb pp kc p x e q.fSlot h0) s0 rfl fun r h1 s1=>?_
        obtain ⟨rfl,s2⟩:=bt.1 s1
        refine aX (fun k3=>?_) (fun k3=>?_)
        · exact aW (by unfold KK.left; rw [if_neg k',if_neg k2',if_pos k3]) s2
        · exact aW (by unfold KK.left; rw [if_neg k',if_neg k2',if_neg (by rw [k3]; exact Bool.false_ne_true)]) s2
  refine cy (bk x.fenv s0 (i:=1) rfl rfl rfl ?_)
  refine aX (fun k=>?_) (fun k=>?_)
  · have k':x.fenv = e:=by simpa using k
    refine bk x.fc.e1 s0 (i:=1) rfl rfl rfl ?_
    refine j1 _ ?_
    by_cases h1:IntKind.i64.wrap x.fc.e1 = pg <;> simp [k',h1]
  · have k':¬ x.fenv = e:=by simpa using k
    exact j1 false (by simp [k'])
theorem sp_kern_seen (kb:Nat) (pp:Ptr) (kc:List Value) (p:PK) (cs:Sl) (cp:List Ptr) (calls:List (Option KC)) (e pg:Int) (h0:kc[0]? = some (pv pp)) (h5:kc[5]? = some (sv cs)) (hl:cp.length = calls.length) (hb:calls.length ≤ 8) :
    Sp Tryz.prog lS [pv (some (kb,0)),.int .i64 e,.int .i64 pg] cz [blk kb ci kc,bo pp p,vQ fo cs cp,all iD cp calls] (fun r=>pa_ (r = KK.seenFrom p e pg calls (PK.pte p e pg).2 (PK.pte p e pg).1) [blk kb ci kc,bo pp p,vQ fo cs cp,all iD cp calls]):=by
  intro h s0
  refine sim_kern_Kern_seen _ _ _ ?_
  unfold ue
  refine cy (bk pp s0 (i:=0) rfl rfl h0 ?_)
  refine bM (rR pp p e pg) (i:=1) rfl s0 fun r h1 hr s1=>?_
  subst hr
  refine bk cs s1 (i:=0) rfl rfl h5 ?_
  have hcs:=(cf (j:=2) s1 rfl).1
  refine Lp.intro (fun (z:Bool × Int × Pte) h=>∃ n:Nat,z.2.1 = n∧n ≤ calls.length∧KK.seenFrom p e pg (calls.drop n) z.1 z.2.2 = KK.seenFrom p e pg calls (PK.pte p e pg).2 (PK.pte p e pg).1∧aG [blk kb ci kc,bo pp p,vQ fo cs cp,all iD cp calls] h) (fun (z:Bool × Int × Pte) _=>calls.length - z.2.1.toNat) ⟨0,rfl,Nat.zero_le _,rfl,s1⟩ ?_
  rintro ⟨b,i,q⟩ h ⟨n,rfl,hn,he,s2⟩
  unfold oQ
  simp only at he ⊢
  refine aX (fun k=>?_) (fun k=>?_)
  · have hlt:n < calls.length:=by rw [hcs,hl] at k; simpa using k
    have hlp:n < cp.length:=by omega
    have hw:IntKind.i64.wrap ((n:Int) + 1) = ((n + 1:Nat):Int):=by rw [bP (by omega) (by omega)]; rfl
    rw [List.drop_eq_getElem_cons hlt] at he
    refine dw s2 (j:=2) rfl (by omega) (by show (n:Int) < _; omega) fun q0 hq0=>?_
    refine eo (j:=2) (i:=n) (k:=0) cp[n] gA s2 rfl hq0 (by simp) (aE hlp) (by simp) ?_
    have skip:KK.seenFrom p e pg (calls.drop (n + 1)) b q = KK.seenFrom p e pg calls (PK.pte p e pg).2 (PK.pte p e pg).1→gq e pg (kb,0) (fun s' h'=>(∃ n:Nat,s'.2.1 = n∧n ≤ calls.length∧KK.seenFrom p e pg (calls.drop n) s'.1 s'.2.2 = KK.seenFrom p e pg calls (PK.pte p e pg).2 (PK.pte p e pg).1∧aG [blk kb ci kc,bo pp p,vQ fo cs cp,all iD cp calls] h')∧calls.length - s'.2.1.toNat < calls.length - (n:Int).toNat) (b,(n:Int),q) cp[n] false h:=by
      intro hs
      unfold gq
      refine dB rfl ?_
      rw [hw]
      exact ⟨⟨n + 1,rfl,hlt,hs,s2⟩,by simp; omega⟩
    cases hc:calls[n] with
    | none =>
      have hcn:calls[n]? = some none:=by rw [aE hlt,hc]
      have hp:=call_none (j:=3) s2 rfl (aE hlp) hcn
      rw [hc] at he
      refine dB (by rw [hp]; simp) ?_
      exact skip he
    | some x =>
      have hcn:calls[n]? = some (some x):=by rw [aE hlt,hc]
      obtain ⟨xb,hp,hbx⟩:=wc (j:=3) s2 rfl (aE hlp) hcn
      rw [hc,KK.seenFrom] at he
      have hcp:cp[n]? = some (some (xb,0)):=by rw [aE hlp,hp]
      rw [hp] at skip ⊢
      refine aX (fun k2=>?_) (fun k2=>?_)
      · have k2':b = true:=by simpa using k2
        subst k2'
        refine cy (ld_c1 (j:=3) x.ftold s2 rfl hcp hcn rfl rfl ?_)
        cases ht:x.ftold with
        | false =>
          rw [ht,if_neg (by simp)] at he
          exact skip he
        | true =>
          rw [ht,if_pos ⟨rfl,rfl⟩] at he
          unfold gq
          refine dU rfl ?_
          obtain ⟨xb',hp',s3⟩:=call_out hcp hcn (bb [3] s2 rfl)
          cases hp'
          refine cO [2,0,1] (sp_kern_left kb xb pp kc p x e pg q h0) s3 rfl fun r h4 s4=>?_
          obtain ⟨rfl,s5⟩:=bt.1 s4
          rw [hw]
          have s6:=call_in (y:=x) hcp hlt hl (bb [1,2] s5 rfl)
          rw [iL hcn] at s6
          refine ⟨⟨n + 1,rfl,hlt,he,bb [1,1,1] s6 rfl⟩,by simp; omega⟩
      · have k2':b = false:=by simpa using k2
        subst k2'
        rw [if_neg (by simp)] at he
        exact skip he
  · have:n = calls.length:=by rw [hcs,hl] at k; simp at k; omega
    subst this
    rw [List.drop_length] at he
    exact aW he s2
theorem any_succ (f:Nat→Bool) (n:Nat):(List.range (n + 1)).any f = ((List.range n).any f || f n):=by
  rw [List.range_succ,List.any_append]; simp
theorem any_true {f:Nat→Bool} {n N:Nat} (h:n < N) (hf:f n = true):(List.range N).any f = true:=List.any_eq_true.2 ⟨n,List.mem_range.2 h,hf⟩
theorem sp_kern_takes (kb xb:Nat) (pp:Ptr) (kc:List Value) (p:PK) (x:KC) (h0:kc[0]? = some (pv pp)) (h1:kc[1]? = some (.int .i64 p.s.fEnvs)) :
    Sp Tryz.prog oJ [pv (some (kb,0)),pv (some (xb,0))] aA [blk kb ci kc,blk xb cQ x.C,bo pp p] (fun r=>pa_ (r = KK.takes p x) [blk kb ci kc,blk xb cQ x.C,bo pp p]):=by
  intro h s0
  have hsz:1 ≤ p.s.fEnvs∧p.s.fEnvs ≤ 4:=by
    obtain ⟨_,_,_,ok,_⟩:=fI (bb [2] s0 rfl); have:=fK.1 ok.sz; omega
  refine sim_kern_Kern_takes _ _ ?_
  unfold sR
  have no:(Word.check x.fc p.s.fEnvs ≠ 0∨x.fc.e0 < 4∨x.fc.e0 > 8∨x.fc.e0 = 6)→KK.takes p x = false:=fun hh=>if_pos hh
  refine cy (cy ?_)
  refine ld_s (i:=1) x.fc s0 rfl ?_ ?_
  · intro j v hv
    have:j < 5:=(List.getElem?_eq_some_iff.1 hv).1
    match j,this with
    | 0,_=>exact hv
    | 1,_=>exact hv
    | 2,_=>exact hv
    | 3,_=>exact hv
    | 4,_=>exact hv
  refine bk p.s.fEnvs s0 (i:=0) rfl rfl h1 ?_
  refine tP (jg x.fc _) s0 fun r h2 hr s1=>?_
  subst hr
  refine aX (fun k=>?_) (fun k=>?_)
  · exact aW (no (.inl (by simpa using k))).symm s1
  have k0:¬ Word.check x.fc p.s.fEnvs ≠ 0:=by simpa using k
  refine bk x.fc.e0 s1 (i:=1) rfl rfl rfl ?_
  refine aX (fun k1=>?_) (fun k1=>?_)
  · exact aW (no (.inr (.inl (by simpa using k1)))).symm s1
  refine bk x.fc.e0 s1 (i:=1) rfl rfl rfl ?_
  refine aX (fun k2=>?_) (fun k2=>?_)
  · exact aW (no (.inr (.inr (.inl (by simpa using k2))))).symm s1
  refine bk x.fc.e0 s1 (i:=1) rfl rfl rfl ?_
  refine aX (fun k3=>?_) (fun k3=>?_)
  · exact aW (no (.inr (.inr (.inr (by simpa using k3))))).symm s1
  have yes:KK.takes p x = (List.range p.s.fEnvs.toNat).any fun e=>(List.range 8).any fun pg=>KK.hits p x e pg:=by
    unfold KK.takes
    rw [if_neg]
    rintro (h | h | h | h)
    · exact k0 h
    · simp at k1; omega
    · simp at k2; omega
    · simp at k3; exact k3 h
  rw [yes]
  obtain ⟨N,hN⟩:=Int.eq_ofNat_of_zero_le (show 0 ≤ p.s.fEnvs by omega)
  have hNt:p.s.fEnvs.toNat = N:=by omega
  rw [hNt]
  refine bk p.s.fEnvs s1 (i:=0) rfl rfl h1 ?_
  refine Lp.intro (fun (i:Int) h=>∃ n:Nat,i = n∧n ≤ N∧((List.range n).any fun e=>(List.range 8).any fun pg=>KK.hits p x e pg) = false∧aG [blk kb ci kc,blk xb cQ x.C,bo pp p] h) (fun (i:Int) _=>N - i.toNat) ⟨0,rfl,Nat.zero_le _,rfl,s1⟩ ?_
  rintro i h ⟨n,rfl,hn,ha,s2⟩
  unfold nu
  refine aX (fun k4=>?_) (fun k4=>?_)
  · have hlt:n < N:=by rw [hN] at k4; simpa using k4
    have hw:IntKind.i64.wrap ((n:Int) + 1) = ((n + 1:Nat):Int):=by rw [bP (by omega) (by omega)]; rfl
    refine Lp.intro (fun (i:Int) h=>∃ m:Nat,i = m∧m ≤ 8∧((List.range m).any fun pg=>KK.hits p x n pg) = false∧aG [blk kb ci kc,blk xb cQ x.C,bo pp p] h) (fun (i:Int) _=>8 - i.toNat) ⟨0,rfl,Nat.zero_le _,rfl,s2⟩ ?_
    rintro i h ⟨m,rfl,hm,ha2,s3⟩
    unfold nt
    refine aX (fun k5=>?_) (fun k5=>?_)
    · have hlt2:m < 8:=by have:=of_decide_eq_true k5; omega
      have hw2:IntKind.i64.wrap ((m:Int) + 1) = ((m + 1:Nat):Int):=by rw [bP (by omega) (by omega)]; rfl
      refine bk pp s3 (i:=0) rfl rfl h0 ?_
      refine bM (rR pp p n m) (i:=2) rfl s3 fun r h4 hr s4=>?_
      subst hr
      refine aX (fun k6=>?_) (fun k6=>?_)
      · refine cO [0,0,0] (sp_kern_left kb xb pp kc p x n m (PK.pte p n m).1 h0) s4 rfl fun r h5 s5=>?_
        obtain ⟨rfl,s6⟩:=bt.1 s5
        refine aX (fun k7=>?_) (fun k7=>?_)
        · have hh:KK.hits p x n m = true:=by unfold KK.hits; rw [k6,k7]; rfl
          exact aW (any_true hlt (any_true hlt2 hh)).symm s6
        · have hh:KK.hits p x n m = false:=by unfold KK.hits; rw [k6,k7]; rfl
          rw [hw2]
          exact ⟨⟨m + 1,rfl,hlt2,by rw [any_succ,ha2,hh]; rfl,s6⟩,by simp; omega⟩
      · have hh:KK.hits p x n m = false:=by unfold KK.hits; rw [k6]; rfl
        rw [hw2]
        exact ⟨⟨m + 1,rfl,hlt2,by rw [any_succ,ha2,hh]; rfl,s4⟩,by simp; omega⟩
    · have:m = 8:=by have:=of_decide_eq_false k5; omega
      subst this
      rw [hw]
      exact ⟨⟨n + 1,rfl,hlt,by rw [any_succ,ha,ha2]; rfl,s3⟩,by simp; omega⟩
  · have:n = N:=by rw [hN] at k4; simp at k4; omega
    subst this
    exact aW ha.symm s2
end Go.Proofs.YtmggcfijlpldpaaGreatDoor
namespace Go.Proofs.YtmggcfijlpldpaaGreatDoor
open Go Mb
set_option linter.unusedVariables false
def hist_May_l1 (a0:Sl) (a1:aw) (K:Bool→Hp→Prop) (v12:(Option Nat)) (v13:(Option Nat)) (Rec4:(Int × Int)→Hp→Prop) (s3:Int × Int):Hp→Prop:=br (decide (s3.2 < (a0.len:Int))) ( ix a0 s3.2 fun q18=>ld (q18.1,q18.2 + Int.toNat s3.2 * 16) aC.C fun x19=>br ((!(!(fB x19 a1 s3.1))) && (decide (x19.fEffect > 0))) ( hpv Tryz.prog (Instr.lookup jq (.map v12) (.int .i64 x19.fEffect) false) aA fun (v33:Bool)=>br v33 ( K false) ( hpv Tryz.prog (Instr.lookup gP (.map v13) (.int .i64 x19.fCore) true) bK fun (v40:Int × Bool)=>br (v40.2 && ((decide (v40.1 ≤ 0)) || (decide (x19.fBegin ≤ v40.1)))) ( K false) ( hpu Tryz.prog (Instr.mapUpdate jq (.map v12) (.int .i64 x19.fEffect) (.bool true))<|hpu Tryz.prog (Instr.mapUpdate gP (.map v13) (.int .i64 x19.fCore) (.int .i64 x19.fEnd))<|Rec4 (x19.fBegin,(IntKind.i64.wrap (s3.2 + 1)))))) ( br ((!(fB x19 a1 s3.1)) || false) ( K false) ( hpv Tryz.prog (Instr.lookup gP (.map v13) (.int .i64 x19.fCore) true) bK fun (v40:Int × Bool)=>br (v40.2 && ((decide (v40.1 ≤ 0)) || (decide (x19.fBegin ≤ v40.1)))) ( K false) ( hpu Tryz.prog (Instr.mapUpdate jq (.map v12) (.int .i64 x19.fEffect) (.bool true))<|hpu Tryz.prog (Instr.mapUpdate gP (.map v13) (.int .i64 x19.fCore) (.int .i64 x19.fEnd))<|Rec4 (x19.fBegin,(IntKind.i64.wrap (s3.2 + 1))))))) ( K true)
def sh_hist_May (a0:Sl) (a1:aw) (K:Bool→Hp→Prop):Hp→Prop:=hpv Tryz.prog (Instr.makeMap jq none) R_map_int_bool fun (v12:(Option Nat))=>hpv Tryz.prog (Instr.makeMap gP none) R_map_int_int fun (v13:(Option Nat))=>Lp (hist_May_l1 a0 a1 K v12 v13) (0,0)
theorem sim_hist_May (a0:Sl) (a1:aw) {K:Bool→Hp→Prop} {h:Hp} (H:sh_hist_May a0 a1 K h):Ct Tryz.prog wX #[(sv a0),(.agg (aw.C a1).toArray)] h fun v h'=>∃ r,v = aA r∧K r h':=au [(sv a0),(.agg (aw.C a1).toArray)] Tryz.func33 c c c fun _=>M<|aa<|cC (l:=aw.C a1) c c c fun b3=>O c<|M<|aa<|aR H x_makeMap0 c fun v12 _ H1=>aa<|aR H1 x_makeMap0 c fun v13 _ H2=>p (ar c)<|p (ar c)<|O c<|ak<|M<|J c<|p (dy c Tryz.underlying43 c)<|J c<|ad<|ay<|bE (step:=hist_May_l1 a0 a1 K v12 v13) (fun s3=>[(3,(.pointer (some ⟨b3,0,none⟩))),(5,(.int .i64 s3.1)),(6,(.map v12)),(7,(.map v13)),(14,(sv a0)),(15,(.int .i64 (a0.len:Int))),(16,(.int .i64 s3.2))]) (fun s3=>[bx b3 27 (aw.C a1)]) H2 (.cons c<|.cons c<|.cons c<|.cons c<|.cons c<|.cons c<|.cons c<|.nil _) (.cons_cons _ .slnil) fun Rec4 s3 _ H5=>M<|p (cu c c)<|ad<|ak<|av c H5 (fun k6 H7=>an<|ak<|ay<|M<|cj H7 fun q18 e8 h9 H10=>p (bn ra (aL c<|aZ e8) c h9)<|aa<|gu H10 ag_54 c (fun _=>c) c fun x19 H11=>aa<|aM (l:=aC.C (⟨0,0,(⟨0,0,0,0,0⟩:ah),0,0,0,(⟨0,0⟩:ac),(⟨0,0,0,0⟩:am)⟩:aC)) zero_54 c c fun b9=>aa<|aO (k:=0) (vs:=aC.C x19) inf_54 c c c c c c c<|ad<|ak<|M<|be (bC (k:=0) ag_54 c c c c) c<|be (bC (k:=1) oW c c c c) c<|J c<|aa<|cF (vs:=[(.agg (aC.C x19).toArray),(.agg (aw.C a1).toArray),(.int .i64 s3.1)]) (bu<|ct_hist_one x19 a1 s3.1 _) en_69 c c<|p (cq c)<|J c<|V c c (aH _) (fun g12=>wv<|ae ik c)<|V c c (aH _) (fun g13=>cv<|ba (k:=0) aY (aD c g13) c c)<|V c c (aH _) (fun g14=>wv<|qv (aD c g14) c)<|V c c (aH _) (fun g15=>wv<|ag<|aD c g15)<|V c c (rq _ _) (fun g16=>wv<|ag c)<|V c c (rq _ _) (fun g17=>wv<|ae ik c)<|V c c (rq _ _) (fun g18=>cv<|ba (k:=0) aY (aD c g18) c c)<|bO H11 (fun k20 H21=>F ((gv_t (b_l k20) _).trans<|D<|b_r k20)<|aR H21 (x_lookup (aD c k20)<|aD c k20) c fun v33 _ H22=>F (D<|bH<|b_l k20)<|I (aQ (aD c<|b_l k20) (b_r k20) c)<|p (ap c (bH<|b_l k20) c)<|ad<|av c H22 (fun k23 H24=>M<|O c<|ai<|Y ⟨false,c,H24⟩) fun k23 H24=>an<|ak<|M<|J c<|p (ae tw c)<|be (ba (k:=0) aY c c c) c<|aa<|aR H24 (x_lookup c c) c fun v40 _ H25=>J c<|p (aj c c)<|p (aj c c)<|p (ar c)<|O c<|M<|J c<|J c<|V c c (ax _) (fun g26=>wv<|ag c)<|V c c (ax _) (fun g27=>wv<|v_le (aD c g27) c)<|V c c (ax _) (fun g28=>wv<|ag<|aD c g28)<|V c c (dV _ _) (fun g29=>wv<|ae tv c)<|V c c (dV _ _) (fun g30=>cv<|ba (k:=0) aY (aD c g30) c c)<|V c c (dV _ _) (fun g31=>wv<|ag c)<|V c c (dV _ _) (fun g32=>wv<|v_le (aD c g32)<|aD c g32)<|V c c (ax _) (fun g33=>wv<|dh (aD c g33)<|aL c<|xi g33)<|p (bT c c)<|ad<|av c H25 (fun k34 H35=>M<|O c<|ai<|Y ⟨false,c,H35⟩) fun k34 H35=>an<|bm (n:=13) [bx b9 54 (aC.C x19)] cm c (.cons_cons _<|.cons _ .slnil)<|U 0 c (ag c)<|U 1 c (ae ik c)<|z_E 2 c (df (k:=0) aY c c c)<|U 3 c (ag c)<|U 4 c (ae tw c)<|z_E 5 c (df (k:=0) aY c c c)<|U 6 c (ae tv c)<|z_E 7 c (df (k:=0) aY c c c)<|U 8 c (ae oS c)<|z_E 9 c (df (k:=0) aY c c c)<|U 10 c (ar c)<|G 11 c<|to_hpu H35 (tS c c c) fun _ H36=>⟨.cons_cons _<|.cons _ .slnil,G 12 c<|to_hpu H36 (tS c c c) fun _ H37=>⟨.cons_cons _<|.cons _ .slnil,aV (by kernel_rfl)<|aq<|p (bq c c)<|J c<|ad<|cL (x19.fBegin,(IntKind.i64.wrap (s3.2 + 1))) H37 (.cons c<|.cons c<|.cons c<|.cons c<|.cons c<|.cons c<|.cons c<|.nil _)<|.cons _<|.cons_cons _ .slnil⟩⟩) fun k20 H21=>W ((rq _ _).trans k20)<|V c c (aH _) (fun g38=>wv<|ap (aD c g38) (b_andr k20 g38) c)<|p (dh c c)<|ad<|av c H21 (fun k39 H40=>M<|O c<|ai<|Y ⟨false,c,H40⟩) fun k39 H40=>an<|ak<|M<|J c<|p (ae tw c)<|be (ba (k:=0) aY c c c) c<|aa<|aR H40 (x_lookup c c) c fun v40 _ H41=>J c<|p (aj c c)<|p (aj c c)<|p (ar c)<|O c<|M<|J c<|J c<|V c c (ax _) (fun g42=>wv<|ag c)<|V c c (ax _) (fun g43=>wv<|v_le (aD c g43) c)<|V c c (ax _) (fun g44=>wv<|ag<|aD c g44)<|V c c (dV _ _) (fun g45=>wv<|ae tv c)<|V c c (dV _ _) (fun g46=>cv<|ba (k:=0) aY (aD c g46) c c)<|V c c (dV _ _) (fun g47=>wv<|ag c)<|V c c (dV _ _) (fun g48=>wv<|v_le (aD c g48)<|aD c g48)<|V c c (ax _) (fun g49=>wv<|dh (aD c g49)<|aL c<|xi g49)<|p (bT c c)<|ad<|av c H41 (fun k50 H51=>M<|O c<|ai<|Y ⟨false,c,H51⟩) fun k50 H51=>an<|bm (n:=13) [bx b9 54 (aC.C x19)] cm c (.cons_cons _<|.cons _ .slnil)<|U 0 c (ag c)<|U 1 c (ae ik c)<|z_E 2 c (df (k:=0) aY c c c)<|U 3 c (ag c)<|U 4 c (ae tw c)<|z_E 5 c (df (k:=0) aY c c c)<|U 6 c (ae tv c)<|z_E 7 c (df (k:=0) aY c c c)<|U 8 c (ae oS c)<|z_E 9 c (df (k:=0) aY c c c)<|U 10 c (ar c)<|G 11 c<|to_hpu H51 (tS c c c) fun _ H52=>⟨.cons_cons _<|.cons _ .slnil,G 12 c<|to_hpu H52 (tS c c c) fun _ H53=>⟨.cons_cons _<|.cons _ .slnil,aV (by kernel_rfl)<|aq<|p (bq c c)<|J c<|ad<|cL (x19.fBegin,(IntKind.i64.wrap (s3.2 + 1))) H53 (.cons c<|.cons c<|.cons c<|.cons c<|.cons c<|.cons c<|.cons c<|.nil _)<|.cons _<|.cons_cons _ .slnil⟩⟩) fun k6 H7=>bj<|M<|O c<|ai<|Y ⟨true,c,H7⟩
def tt (a0:Sl) (a1:Value) (K:Sl→Hp→Prop) (Rec2:(Sl × Int)→Hp→Prop) (s1:Sl × Int):Hp→Prop:=br (decide (s1.2 < (a0.len:Int))) ( ix a0 s1.2 fun q13=>ld (q13.1,q13.2 + Int.toNat s1.2 * 16) aC.C fun x14=>clv Tryz.prog a1 [(.agg (aC.C x14).toArray)] aA fun r17=>br r17 ( hpv Tryz.prog (Instr.buildSlice dH 1 #[(0,(.int .i64 s1.2))]) cA fun (v20:Sl)=>hpv Tryz.prog (Builtin.append_ #[dH,dH] dH #[(sv s1.1),(sv v20)]) cA fun (v21:Sl)=>Rec2 (v21,(IntKind.i64.wrap (s1.2 + 1)))) ( Rec2 (s1.1,(IntKind.i64.wrap (s1.2 + 1))))) ( K s1.1)
def sh_hist_places (a0:Sl) (a1:Value) (K:Sl→Hp→Prop):Hp→Prop:=Lp (tt a0 a1 K) ((⟨none,0,0,none⟩:Sl),0)
theorem sim_hist_places (a0:Sl) (a1:Value) {K:Sl→Hp→Prop} {h:Hp} (H:sh_hist_places a0 a1 K h):Ct Tryz.prog qm #[(sv a0),a1] h fun v h'=>∃ r,v = cA r∧K r h':=au [(sv a0),a1] Tryz.func67 c c c fun _=>M<|O c<|M<|O c<|ak<|M<|J c<|p (dy c Tryz.underlying43 c)<|J c<|ad<|ay<|bE (step:=tt a0 a1 K) (fun s1=>[(1,a1),(5,(sv s1.1)),(8,(sv a0)),(9,(.int .i64 (a0.len:Int))),(10,(.int .i64 s1.2))]) (fun s1=>[]) H (.cons c<|.cons c<|.cons c<|.cons c<|.cons c<|.nil _) .slnil fun Rec2 s1 _ H3=>M<|p (cu c c)<|ad<|ak<|av c H3 (fun k4 H5=>an<|ak<|ay<|M<|J c<|cj H5 fun q13 e6 h7 H8=>p (bn ra (aL c<|aZ e6) c h7)<|aa<|gu H8 ag_54 c (fun _=>c) c fun x14 H9=>aa<|aM (l:=aC.C (⟨0,0,(⟨0,0,0,0,0⟩:ah),0,0,0,(⟨0,0⟩:ac),(⟨0,0,0,0⟩:am)⟩:aC)) zero_54 c c fun b7=>p (ar c)<|aa<|aO (k:=0) (vs:=aC.C x14) inf_54 c c c c c c c<|ad<|M<|J c<|be (bC (k:=0) ag_54 c c c c) c<|aa<|to_clv H9 c c c fun r17 _ H10=>ad<|av c H10 (fun k11 H12=>aq<|J c<|J c<|aa<|aR H12 (bv (vs:=[(.int .i64 s1.2)]) c) c fun v20 _ H13=>aa<|aR H13 (dG c c) c fun v21 _ H14=>O c<|aq<|p (bq c c)<|J c<|ad<|cL (v21,(IntKind.i64.wrap (s1.2 + 1))) H14 (.cons c<|.cons c<|.cons c<|.cons c<|.cons c<|.nil _)<|.cons _ .slnil) fun k11 H12=>an<|aq<|p (bq c c)<|J c<|ad<|cL (s1.1,(IntKind.i64.wrap (s1.2 + 1))) H12 (.cons c<|.cons c<|.cons c<|.cons c<|.cons c<|.nil _)<|.cons _ .slnil) fun k4 H5=>bj<|M<|J c<|O c<|ai<|Y ⟨s1.1,c,H5⟩
def vw (a0:Int) (a1:Int) (c0:Nat) (K:Int→Hp→Prop):Hp→Prop:=ld (c0,0) cS fun x6=>ix x6 a0 fun q8=>ld (q8.1,q8.2 + Int.toNat a0 * 16 + 8) (cI .i64) fun x10=>ld (c0,0) cS fun x11=>ix x11 a1 fun q13=>ld (q13.1,q13.2 + Int.toNat a1 * 16 + 8) (cI .i64) fun x15=>K (fM x10 x15)
theorem sim_hist_Order_c2 (a0:Int) (a1:Int) (c0:Nat) {K:Int→Hp→Prop} {h:Hp} (H:vw a0 a1 c0 K h):Ct Tryz.prog rj #[(.int .i64 a0),(.int .i64 a1),(.pointer (some ⟨c0,0,none⟩))] h fun v h'=>∃ r,v = eC r∧K r h':=au [(.int .i64 a0),(.int .i64 a1),(.pointer (some ⟨c0,0,none⟩))] Tryz.func88 c c c fun _=>M<|O c<|ak<|bm (n:=12) [] cm c .slnil<|U 1 c (ag c)<|U 6 c (ag c)<|bF (i:=0) (fun _ _ _ _ hh=>hh) H c (by kernel_rfl) sc_43 c (fun _=>c) c fun x6 H1=>ge H1 fun q8 e2 h3 H4=>U 2 c (bn ra (aL c<|aZ e2) c h3)<|U 3 c (ae ik c)<|bF (i:=4) (fun _ _ _ _ hh=>hh) H4 c (by kernel_rfl) aY c (fun _=>c) c fun x10 H5=>bF (i:=5) (fun _ _ _ _ hh=>hh) H5 c (by kernel_rfl) sc_43 c (fun _=>c) c fun x11 H6=>ge H6 fun q13 e7 h8 H9=>U 7 c (bn ra (aL c<|aZ e7) c h8)<|U 8 c (ae ik c)<|bF (i:=9) (fun _ _ _ _ hh=>hh) H9 c (by kernel_rfl) aY c (fun _=>c) c fun x15 H10=>G 10 c<|cF (vs:=[(.int .i64 x10),(.int .i64 x15)]) (bu<|ct_cmp_Compare_int x10 x15 _) en_89 c c ⟨.slnil,U 11 c (ar c)<|aV (by kernel_rfl)<|ai<|Y ⟨fM x10 x15,c,H10⟩⟩
def sh_hist_Order (a0:Sl) (K:Sl→Hp→Prop):Hp→Prop:=nw eN [sv a0] fun b1=>ld (b1,0) cS fun x4=>cl Tryz.prog qm [(sv x4),(.func (.func mY) #[] #[])] cA fun r5=>cl Tryz.prog fF [(sv r5),(.func (.func rj) #[] #[(.pointer (some ⟨b1,0,none⟩))])] R_ fun (_:Unit)=>K r5
theorem sim_hist_Order (a0:Sl) {K:Sl→Hp→Prop} {h:Hp} (H:sh_hist_Order a0 K h):Ct Tryz.prog oN #[(sv a0)] h fun v h'=>∃ r,v = cA r∧K r h':=au [(sv a0)] Tryz.func43 c c c fun _=>M<|aa<|gZ c c c H fun b1 _ H1=>O c<|M<|aa<|aU H1 sc_43 c (fun _=>c) c fun x4 H2=>aa<|Z H2 en_67 fun r5 _ H3=>O c<|M<|J c<|p (v_func c c)<|aa<|Z H3 en_87 fun r8 _ H4=>ad<|M<|J c<|O c<|ai<|Y ⟨r5,c,H4⟩
def sh_hist_Over_c1 (a0:aC) (c0:Nat) (K:Bool→Hp→Prop):Hp→Prop:=ld (c0,0) (cI .i64) fun x6=>br ((decide (a0.fBegin ≤ x6)) && (!(a0.fEffect == 0))) ( ld (c0,0) (cI .i64) fun x15=>K (decide (a0.fEffect > x15))) ( K ((decide (a0.fBegin ≤ x6)) && true))
theorem sim_hist_Over_c1 (a0:aC) (c0:Nat) {K:Bool→Hp→Prop} {h:Hp} (H:sh_hist_Over_c1 a0 c0 K h):Ct Tryz.prog tk #[(.agg (aC.C a0).toArray),(.pointer (some ⟨c0,0,none⟩))] h fun v h'=>∃ r,v = aA r∧K r h':=au [(.agg (aC.C a0).toArray),(.pointer (some ⟨c0,0,none⟩))] Tryz.func215 c c c fun _=>M<|aa<|cC (l:=aC.C a0) c c c fun b2=>O c<|M<|p (ae tv c)<|be (ba (k:=0) aY c c c) c<|aa<|aU H aY c (fun _=>c) c fun x6 H1=>p (v_le c c)<|J c<|V c c (ax _) (fun g2=>wv<|ae ik c)<|V c c (ax _) (fun g3=>cv<|ba (k:=0) aY (aD c g3) c c)<|V c c (ax _) (fun g4=>wv<|bL (aD c g4) c)<|V c c (ax _) (fun g5=>wv<|ag<|aD c g5)<|V c c (dV _ _) (fun g6=>wv<|ae ik c)<|V c c (dV _ _) (fun g7=>cv<|ba (k:=0) aY (aD c g7) c c)<|bO H1 (fun k9 H10=>F ((gv_t (b_l k9) _).trans<|D<|bH<|b_r k9)<|aU H10 aY c (fun _=>c) c fun x15 H11=>F ((gv_t (b_l k9) _).trans<|D<|bH<|b_r k9)<|I (qv (aD c k9) c)<|F (D<|b_l k9)<|I (ap (aD c<|b_l k9) (bH<|b_r k9) c)<|p (aQ c (b_l k9) c)<|O c<|ai<|Y ⟨decide (a0.fEffect > x15),c,H11⟩) fun k9 H10=>W ((dV _ _).trans k9)<|W ((dV _ _).trans k9)<|V c c (ax _) (fun g12=>wv<|aQ (aD c g12) (bi<|b_andr k9 g12) c)<|p (bT c c)<|O c<|ai<|Y ⟨((decide (a0.fBegin ≤ x6)) && true),c,H10⟩
def sh_hist_Over (a0:Sl) (a1:Int) (K:Sl→Hp→Prop):Hp→Prop:=nw kL [.int .i64 a1] fun b3=>cl Tryz.prog qm [(sv a0),(.func (.func tk) #[] #[(.pointer (some ⟨b3,0,none⟩))])] cA fun r7=>K r7
theorem sim_hist_Over (a0:Sl) (a1:Int) {K:Sl→Hp→Prop} {h:Hp} (H:sh_hist_Over a0 a1 K h):Ct Tryz.prog n_hist_Over #[(sv a0),(.int .i64 a1)] h fun v h'=>∃ r,v = cA r∧K r h':=au [(sv a0),(.int .i64 a1)] Tryz.func198 c c c fun _=>M<|aa<|gZ c c c H fun b3 _ H1=>O c<|M<|J c<|p (v_func c c)<|aa<|Z H1 en_67 fun r7 _ H2=>O c<|ai<|Y ⟨r7,c,H2⟩
end Go.Proofs.YtmggcfijlpldpaaGreatDoor
namespace Go.Proofs.YtmggcfijlpldpaaGreatDoor
open Go Mb
namespace Hist
def placesFrom (P:ce→Bool):List ce→Int→List Int
  | [],_=>[]
  | e::es,i=>if P e = true then i::placesFrom P es (i + 1) else placesFrom P es (i + 1)
def places (P:ce→Bool) (es:List ce):List Int:=placesFrom P es 0
def ev00:ce:=KK.ev0 0 0 ⟨0,0,0,0,0⟩ 0
def eff (es:List ce) (i:Int):Int:=(es.getD i.toNat ev00).fEffect
def ins (key:Int→Int) (x:Int):List Int→List Int
  | []=>[x]
  | y::l=>if key x < key y then x::y::l else y::ins key x l
def isort (key:Int→Int):List Int→List Int
  | []=>[]
  | x::l=>ins key x (isort key l)
def effs (es:List ce):List Int:=places (fun e=>decide (e.fEffect > 0)) es
def order (es:List ce):List Int:=isort (eff es) (effs es)
def over (es:List ce) (at_:Int):List Int:=places (fun e=>decide (e.fBegin ≤ at_) && (e.fEffect == 0 || decide (e.fEffect > at_))) es
def done (es:List ce):List Int:=places (fun e=>e.fEnd != 0) es
def endOf (ends:List (Int × Int)) (c:Int):Option Int:=(ends.find? (fun p=>p.1 == c)).map (·.2)
def stops (ends:List (Int × Int)) (e:ce):Bool:=match endOf ends e.fCore with
  | some n=>decide (n ≤ 0) || decide (e.fBegin ≤ n)
  | none=>false
def mayFrom (s:io):List ce→Int→List Int→List (Int × Int)→Bool
  | [],_,_,_=>true
  | e::es,last,seen,ends=>if fB e s last = false∨(e.fEffect > 0∧e.fEffect ∈ seen) then false else if stops ends e = true then false else mayFrom s es e.fBegin (e.fEffect::seen) ((e.fCore,e.fEnd)::ends)
def may (es:List ce) (s:io):Bool:=mayFrom s es 0 [] []
theorem placesFrom_app (P:ce→Bool) (e:ce):∀ (es:List ce) (i:Int),placesFrom P (es++[e]) i = placesFrom P es i++(if P e = true then [i + es.length] else [])
  | [],i=>by simp only [List.nil_append,placesFrom]; split <;> simp
  | d::es,i=>by
    simp only [List.cons_append,placesFrom]
    rw [placesFrom_app P e es (i + 1)]
    have e1:i + 1 + (es.length:Int) = i + ((d::es).length:Int):=by simp; omega
    rw [e1]
    split <;> simp
theorem placesFrom_len (P:ce→Bool):∀ (es:List ce) (i:Int),(placesFrom P es i).length ≤ es.length
  | [],_=>Nat.le_refl _
  | e::es,i=>by unfold placesFrom; have:=placesFrom_len P es (i + 1); split <;> simp <;> omega
theorem placesFrom_c (P:ce→Bool) (d:ce) (es:List ce) (i:Int):placesFrom P (d::es) i = if P d = true then i::placesFrom P es (i + 1) else placesFrom P es (i + 1):=rfl
theorem mem_placesFrom {P:ce→Bool} {x:Int}:∀ {es:List ce} {i:Int},x ∈ placesFrom P es i↔∃ (n:Nat) (e:ce),es[n]? = some e∧x = i + n∧P e = true
  | [],i=>by simp [placesFrom]
  | d::es,i=>by
    have ih:=mem_placesFrom (P:=P) (x:=x) (es:=es) (i:=i + 1)
    have sp:(∃ (n:Nat) (e:ce),(d::es)[n]? = some e∧x = i + n∧P e = true)↔(x = i∧P d = true)∨∃ (n:Nat) (e:ce),es[n]? = some e∧x = i + 1 + n∧P e = true:=by
      constructor
      · rintro ⟨n,e,h1,h2,h3⟩
        cases n with
        | zero=>simp at h1; subst h1; exact .inl ⟨by simpa using h2,h3⟩
        | succ n=>exact .inr ⟨n,e,by simpa using h1,by omega,h3⟩
      · rintro (⟨h2,h3⟩ | ⟨n,e,h1,h2,h3⟩)
        · exact ⟨0,d,rfl,by simpa using h2,h3⟩
        · exact ⟨n + 1,e,by simpa using h1,by omega,h3⟩
    rw [sp,← ih,placesFrom_c]
    split
    · rename_i hd
      rw [List.mem_cons]
      constructor
      · rintro (h | h)
        · exact .inl ⟨h,hd⟩
        · exact .inr h
      · rintro (h | h)
        · exact .inl h.1
        · exact .inr h
    · rename_i hd
      constructor
      · exact .inr
      · rintro (h | h)
        · exact absurd h.2 hd
        · exact h
theorem mem_places {P:ce→Bool} {x:Int} {es:List ce}:x ∈ places P es↔∃ (n:Nat) (e:ce),es[n]? = some e∧x = n∧P e = true:=by
  unfold places
  rw [mem_placesFrom]
  simp
theorem places_in {P:ce→Bool} {x:Int} {es:List ce} (h:x ∈ places P es):0 ≤ x∧x < es.length:=by
  obtain ⟨n,e,h1,rfl,_⟩:=mem_places.1 h
  have:=(List.getElem?_eq_some_iff.1 h1).1
  omega
theorem ins_perm (key:Int→Int) (x:Int):∀ l,(ins key x l).Perm (x::l)
  | []=>.refl _
  | y::l=>by
    unfold ins; split
    · exact .refl _
    · exact ((ins_perm key x l).cons y).trans (.swap _ _ _)
theorem isort_perm (key:Int→Int):∀ l,(isort key l).Perm l
  | []=>.refl _
  | x::l=>(ins_perm key x _).trans ((isort_perm key l).cons x)
theorem ins_up (key:Int→Int) (x:Int):∀ l,Up key l→Up key (ins key x l)
  | [],_=>List.pairwise_singleton _ _
  | y::l,h=>by
    obtain ⟨h1,h2⟩:=List.pairwise_cons.1 h
    unfold ins; split
    · rename_i hx
      refine List.pairwise_cons.2 ⟨fun z hz=>?_,h⟩
      rcases List.mem_cons.1 hz with rfl | hz
      · omega
      · have:=h1 z hz; omega
    · rename_i hx
      refine List.pairwise_cons.2 ⟨fun z hz=>?_,ins_up key x l h2⟩
      rcases List.mem_cons.1 ((ins_perm key x l).subset hz) with rfl | hz
      · omega
      · exact h1 z hz
theorem isort_up (key:Int→Int):∀ l,Up key (isort key l)
  | []=>.nil
  | x::l=>ins_up key x _ (isort_up key l)
def Apart (es:List ce):Prop:=∀ a b,a ∈ effs es→b ∈ effs es→eff es a = eff es b→a = b
theorem order_of {es:List ce} (ha:Apart es) {l:List Int} (hp:l.Perm (effs es)) (hu:Up (eff es) l):l = order es:=by
  refine List.Perm.eq_of_pairwise (le:=fun x y=>eff es x ≤ eff es y) (fun a b h1 h2 h3 h4=>?_) hu (isort_up _ _) (hp.trans (isort_perm _ _).symm)
  exact ha a b (hp.subset h1) ((isort_perm _ _).subset h2) (by omega)
theorem mayFrom_apart {s:io}:∀ {es:List ce} {last:Int} {seen:List Int} {ends:List (Int × Int)},mayFrom s es last seen ends = true →
    (∀ (n:Nat) e,es[n]? = some e→e.fEffect > 0→e.fEffect ∉ seen)∧∀ (n m:Nat) e d,es[n]? = some e→es[m]? = some d→e.fEffect > 0→e.fEffect = d.fEffect→n = m
  | [],_,_,_,_=>⟨fun n e h=>by simp at h,fun n m e d h=>by simp at h⟩
  | e0::es,last,seen,ends,h=>by
    unfold mayFrom at h
    split at h
    · cases h
    · split at h
      · cases h
      · rename_i h1 _
        obtain ⟨i1,i2⟩:=mayFrom_apart h
        have h0:e0.fEffect > 0→e0.fEffect ∉ seen:=fun hp hm=>h1 (.inr ⟨hp,hm⟩)
        refine ⟨fun n e hn hp=>?_,fun n m e d hn hm hp he=>?_⟩
        · cases n with
          | zero=>simp at hn; subst hn; exact h0 hp
          | succ n=>exact fun hm=>i1 n e (by simpa using hn) hp (by simp [hm])
        · cases n with
          | zero =>
            cases m with
            | zero=>rfl
            | succ m =>
              simp at hn; subst hn
              exact absurd (by simp [he]) (i1 m d (by simpa using hm) (by omega))
          | succ n =>
            cases m with
            | zero =>
              simp at hm; subst hm
              exact absurd (by simp [he]) (i1 n e (by simpa using hn) hp)
            | succ m=>rw [i2 n m e d (by simpa using hn) (by simpa using hm) hp he]
theorem eff_nat {es:List ce} {n:Nat} {e:ce} (h:es[n]? = some e):eff es n = e.fEffect:=by simp [eff,h]
theorem may_apart {es:List ce} {s:io} (h:may es s = true):Apart es:=by
  intro a b ha hb he
  obtain ⟨n,e,h1,rfl,h2⟩:=mem_places.1 ha
  obtain ⟨m,d,h3,rfl,h4⟩:=mem_places.1 hb
  rw [eff_nat h1,eff_nat h3] at he
  rw [(mayFrom_apart h).2 n m e d h1 h3 (by simpa using h2) he]
end Hist
theorem sp_hist_places (s:Sl) (es:List ce) (v:Value) (P:ce→Bool) (A:List As) (hb:es.length < 2 ^ 38)
    (hv:∀ e ∈ es,SpV Tryz.prog v [.agg e.C.toArray] aA (vE s es::A) (fun r=>pa_ (r = P e) (vE s es::A))) :
    Sp Tryz.prog qm [sv s,v] cA (vE s es::A) (fun r=>aG (vI r (Hist.places P es)::vE s es::A)):=by
  intro h s0
  have hl:=(cf (j:=0) s0 rfl).1
  refine sim_hist_places _ _ ?_
  unfold sh_hist_places
  refine Lp.intro (fun (z:Sl × Int) h=>∃ n:Nat,z.2 = n∧n ≤ es.length∧aG (vI z.1 (Hist.placesFrom P (es.take n) 0)::vE s es::A) h) (fun (z:Sl × Int) _=>es.length - z.2.toNat) ⟨0,rfl,Nat.zero_le _,fH s0⟩ ?_
  rintro ⟨z,i⟩ h ⟨n,rfl,hn,s1⟩
  unfold tt
  refine aX (fun k=>?_) (fun k=>?_)
  · have hlt:n < es.length:=by rw [hl] at k; simpa using k
    have hw:IntKind.i64.wrap ((n:Int) + 1) = ((n + 1:Nat):Int):=by rw [bP (by omega) (by omega)]; rfl
    have ht:es.take (n + 1) = es.take n++[es[n]]:=by simp
    have hlen:((es.take n).length:Int) = n:=by simp; omega
    have hpl:=Hist.placesFrom_len P (es.take n) 0
    simp at hpl
    refine dw s1 (j:=1) rfl (by omega) (by show (n:Int) < _; omega) fun q hq=>?_
    refine eo (j:=1) (i:=n) (k:=0) es[n] mC s1 rfl hq rfl (aE hlt) (by simp) ?_
    refine clv_t (hv es[n] (List.getElem_mem hlt)) s1 fun r h2 s2=>?_
    obtain ⟨hr,s3⟩:=bt.1 s2
    have s4:=star_rot s3
    rw [hw]
    refine aX (fun k2=>?_) (fun k2=>?_)
    · refine we s4 (i:=0) rfl (by omega) fun v h' s5=>?_
      refine ⟨⟨n + 1,rfl,hlt,?_⟩,by simp; omega⟩
      rw [ht,Hist.placesFrom_app,if_pos (by rw [← hr,k2]),hlen,Int.zero_add]
      exact s5
    · refine ⟨⟨n + 1,rfl,hlt,?_⟩,by simp; omega⟩
      rw [ht,Hist.placesFrom_app,if_neg (by rw [← hr,k2]; exact Bool.false_ne_true),List.append_nil]
      exact s4
  · have:n = es.length:=by rw [hl] at k; simp at k; omega
    subst this
    rw [List.take_length] at s1
    exact s1
theorem cmp_neg (x y:Int):fM x y < 0↔x < y:=by
  unfold fM eq
  simp only [bne_self_eq_false,cond_false]
  by_cases h1:x < y
  · simp [h1]
  · by_cases h2:x > y
    · simp [h1,h2]
    · simp [h1,h2]
theorem sp_hist_Over (s:Sl) (es:List ce) (a:Int) (hb:es.length < 2 ^ 38):Sp Tryz.prog n_hist_Over [sv s,.int .i64 a] cA [vE s es] (fun r=>aG [vI r (Hist.over es a),vE s es]):=by
  intro h s0
  refine sim_hist_Over _ _ ?_
  unfold sh_hist_Over
  refine pf s0 fun b3 h1 s1=>?_
  refine cO [1,0] (sp_hist_places s es _ (fun e=>decide (e.fBegin ≤ a) && (e.fEffect == 0 || decide (e.fEffect > a))) [blk b3 kL [.int .i64 a]] hb ?_) s1 rfl fun r h2 s2=>?_
  · intro e he
    refine ⟨_,_,_,rfl,enter_hist_Over_c1,fun h s3=>?_⟩
    refine sim_hist_Over_c1 e b3 ?_
    unfold sh_hist_Over_c1
    refine bk a s3 (i:=1) rfl rfl rfl ?_
    refine aX (fun k=>?_) (fun k=>?_)
    · refine bk a s3 (i:=1) rfl rfl rfl ?_
      rw [Bool.and_eq_true] at k
      refine aW ?_ s3
      have k2:(e.fEffect == 0) = false:=by simpa using k.2
      rw [k.1,k2]; rfl
    · refine aW ?_ s3
      cases k1:decide (e.fBegin ≤ a) with
      | false=>rfl
      | true =>
        rw [k1] at k
        have k2:(e.fEffect == 0) = true:=by simpa using k
        rw [k2]; rfl
  · have s3:=dC s2
    exact nE (l:=[vI r (Hist.over es a),vE s es]) s3
theorem sp_hist_Order20 (s:Sl) (es:List ce) (hb:es.length ≤ 20) (ha:Hist.Apart es):Sp Tryz.prog oN [sv s] cA [vE s es] (fun r=>aG [vI r (Hist.order es),vE s es]):=by
  intro h s0
  refine sim_hist_Order _ ?_
  unfold sh_hist_Order
  refine pf s0 fun b1 h1 s1=>?_
  refine bk s s1 (i:=0) rfl rfl rfl ?_
  refine cO [1,0] (sp_hist_places s es _ (fun e=>decide (e.fEffect > 0)) [blk b1 eN [sv s]] (by omega) ?_) s1 rfl fun r h2 s2=>?_
  · intro e he
    refine ⟨_,_,_,rfl,enter_hist_Order_c1,fun h s3=>?_⟩
    exact (ct_hist_Order_c1 e h).mono fun v h' ⟨r,hv,hr,hh⟩=>⟨r,hv,hr,by rw [hh]; exact s3⟩
  · have s3:=dC s2
    have hpl:=Hist.placesFrom_len (fun e=>decide (e.fEffect > 0)) es 0
    refine cO [0,0,0] (sp_SortStable20 r _ [vE s es,blk b1 eN [sv s]] (Hist.eff es) (fun x=>0 ≤ x∧x < es.length) ?_ (Hist.effs es) (fun x hx=>Hist.places_in hx) (by unfold Hist.effs Hist.places; omega)) s3 rfl fun u h4 s4=>?_
    · rintro x y ⟨hx0,hx⟩ ⟨hy0,hy⟩
      refine ⟨_,_,_,rfl,enter_hist_Order_c2,fun h s5=>?_⟩
      obtain ⟨n,rfl⟩:=Int.eq_ofNat_of_zero_le hx0
      obtain ⟨m,rfl⟩:=Int.eq_ofNat_of_zero_le hy0
      have hn:n < es.length:=by omega
      have hm:m < es.length:=by omega
      refine sim_hist_Order_c2 n m b1 ?_
      unfold vw
      refine bk s s5 (i:=1) rfl rfl rfl ?_
      refine dw s5 (j:=0) rfl (by omega) (by omega) fun q hq=>?_
      refine eo (j:=0) (i:=n) (k:=8) es[n].fEffect mC s5 rfl hq rfl (aE hn) (c1 rfl rfl) ?_
      refine bk s s5 (i:=1) rfl rfl rfl ?_
      refine dw s5 (j:=0) rfl (by omega) (by omega) fun q2 hq2=>?_
      refine eo (j:=0) (i:=m) (k:=8) es[m].fEffect mC s5 rfl hq2 rfl (aE hm) (c1 rfl rfl) ?_
      refine aW ?_ s5
      rw [cmp_neg,Hist.eff_nat (aE hn),Hist.eff_nat (aE hm)]
    · obtain ⟨g1,g2,d,rfl,⟨m',⟨p1,p2⟩,s5⟩,s6⟩:=s4
      rw [Hist.order_of ha p1 p2] at s5
      exact sx (nE (l:=[vI r (Hist.order es),vE s es]) s5) d
theorem sp_hist_May (s:Sl) (es:List ce) (z:io) (hb:es.length < 2 ^ 38):Sp Tryz.prog wX [sv s,.agg z.C.toArray] aA [vE s es] (fun r=>pa_ (r = Hist.may es z) [vE s es]):=by
  intro h s0
  have hl:=(cf (j:=0) s0 rfl).1
  refine sim_hist_May _ _ ?_
  unfold sh_hist_May
  refine makeMap_m (τ:=Bool) (val:=fun x=>.bool x) rfl s0 fun b1 h1 s1=>?_
  refine makeMap_m (τ:=Int) (val:=fun x=>.int .i64 x) rfl s1 fun b2 h2 s2=>?_
  refine Lp.intro (fun (y:Int × Int) h=>∃ (n:Nat) (seen:List Int) (ends:List (Int × Int)),y.2 = n∧n ≤ es.length∧Hist.mayFrom z (es.drop n) y.1 seen ends = Hist.may es z∧aG [mapA b2 (fun x=>Value.int .i64 x) (Hist.endOf ends),mapA b1 (fun x=>Value.bool x) (fun x=>if x ∈ seen then some true else none),vE s es] h) (fun (y:Int × Int) _=>es.length - y.2.toNat) ⟨0,[],[],rfl,Nat.zero_le _,rfl,?_⟩ ?_
  · have e1:(fun x:Int=>if x ∈ ([]:List Int) then some true else none) = fun _=>none:=by funext x; simp
    have e2:Hist.endOf [] = fun _=>none:=by funext x; rfl
    rw [e1,e2]; exact s2
  rintro ⟨last,i⟩ h ⟨n,seen,ends,rfl,hn,he,s3⟩
  unfold hist_May_l1
  simp only at he ⊢
  refine aX (fun k=>?_) (fun k=>?_)
  · have hlt:n < es.length:=by rw [hl] at k; simpa using k
    have hw:IntKind.i64.wrap ((n:Int) + 1) = ((n + 1:Nat):Int):=by rw [bP (by omega) (by omega)]; rfl
    rw [List.drop_eq_getElem_cons hlt,Hist.mayFrom] at he
    refine dw s3 (j:=2) rfl (by omega) (by omega) fun q hq=>?_
    refine eo (j:=2) (i:=n) (k:=0) es[n] mC s3 rfl hq rfl (aE hlt) (by simp) ?_
    have rest:¬ (fB es[n] z last = false∨(es[n].fEffect > 0∧es[n].fEffect ∈ seen))→∀ K:(Int × Int)→Hp→Prop,
        (∀ (s':Int × Int) h',s'.1 = es[n].fBegin∧s'.2 = ((n + 1:Nat):Int)→Hist.stops ends es[n] = false→aG [mapA b2 (fun x=>Value.int .i64 x) (Hist.endOf ((es[n].fCore,es[n].fEnd)::ends)),mapA b1 (fun x=>Value.bool x) (fun x=>if x ∈ es[n].fEffect::seen then some true else none),vE s es] h'→K s' h') →
        hpv Tryz.prog (Instr.lookup gP (.map (some b2)) (.int .i64 es[n].fCore) true) bK (fun (v40:Int × Bool) =>
          br (v40.2 && ((decide (v40.1 ≤ 0)) || (decide (es[n].fBegin ≤ v40.1)))) (pa_ (false = Hist.may es z) [vE s es]) (
          hpu Tryz.prog (Instr.mapUpdate jq (.map (some b1)) (.int .i64 es[n].fEffect) (.bool true)) <|
          hpu Tryz.prog (Instr.mapUpdate gP (.map (some b2)) (.int .i64 es[n].fCore) (.int .i64 es[n].fEnd)) <|
          K (es[n].fBegin,((n + 1:Nat):Int)))) h:=by
      intro hno K hK
      rw [if_neg hno] at he
      refine lookup_m (j:=0) mp_map_int_int s3 rfl ((Hist.endOf ends es[n].fCore).getD 0,(Hist.endOf ends es[n].fCore).isSome) ?_ ?_
      · rw [if_pos rfl]; unfold bK
        cases Hist.endOf ends es[n].fCore <;> rfl
      · have hst:((Hist.endOf ends es[n].fCore).isSome && ((decide ((Hist.endOf ends es[n].fCore).getD 0 ≤ 0)) || (decide (es[n].fBegin ≤ (Hist.endOf ends es[n].fCore).getD 0)))) = Hist.stops ends es[n]:=by
          unfold Hist.stops
          cases Hist.endOf ends es[n].fCore <;> simp
        show br ((Hist.endOf ends es[n].fCore).isSome && ((decide ((Hist.endOf ends es[n].fCore).getD 0 ≤ 0)) || (decide (es[n].fBegin ≤ (Hist.endOf ends es[n].fCore).getD 0)))) _ _ h
        rw [hst]
        refine aX (fun k2=>?_) (fun k2=>?_)
        · rw [if_pos k2] at he
          exact aW he (cc (l:=[_,_]) s3)
        · refine update_m (j:=1) (w:=true) mp_map_int_bool s3 rfl rfl fun h4 s4=>?_
          refine update_m (j:=0) (w:=es[n].fEnd) mp_map_int_int s4 rfl rfl fun h5 s5=>?_
          refine hK _ _ ⟨rfl,rfl⟩ k2 ?_
          have e1:(fun y=>if y = es[n].fCore then some es[n].fEnd else Hist.endOf ends y) = Hist.endOf ((es[n].fCore,es[n].fEnd)::ends):=by
            funext y
            unfold Hist.endOf
            by_cases hy:y = es[n].fCore
            · subst hy; simp
            · have:(es[n].fCore == y) = false:=by simpa using fun e=>hy e.symm
              simp [hy,this]
          have e2:(fun y=>if y = es[n].fEffect then some true else if y ∈ seen then some true else none) = fun x=>if x ∈ es[n].fEffect::seen then some true else none:=by
            funext y
            by_cases hy:y = es[n].fEffect <;> simp [hy]
          rw [← e1,← e2]
          exact s5
    have go:¬ (fB es[n] z last = false∨(es[n].fEffect > 0∧es[n].fEffect ∈ seen))→∀ (s':Int × Int) h',s'.1 = es[n].fBegin∧s'.2 = ((n + 1:Nat):Int)→Hist.stops ends es[n] = false→aG [mapA b2 (fun x=>Value.int .i64 x) (Hist.endOf ((es[n].fCore,es[n].fEnd)::ends)),mapA b1 (fun x=>Value.bool x) (fun x=>if x ∈ es[n].fEffect::seen then some true else none),vE s es] h' →
        (∃ (n:Nat) (seen:List Int) (ends:List (Int × Int)),s'.2 = n∧n ≤ es.length∧Hist.mayFrom z (es.drop n) s'.1 seen ends = Hist.may es z∧aG [mapA b2 (fun x=>Value.int .i64 x) (Hist.endOf ends),mapA b1 (fun x=>Value.bool x) (fun x=>if x ∈ seen then some true else none),vE s es] h')∧es.length - s'.2.toNat < es.length - (n:Int).toNat:=by
      rintro hno ⟨u,w⟩ h' ⟨h4,h5⟩ hst s4
      simp only at h4 h5
      subst h4; subst h5
      rw [if_neg hno,if_neg (by rw [hst]; exact Bool.false_ne_true)] at he
      exact ⟨⟨n + 1,_,_,rfl,hlt,he,s4⟩,by simp; omega⟩
    rw [hw]
    refine aX (fun k2=>?_) (fun k2=>?_)
    · rw [Bool.and_eq_true] at k2
      have k1:fB es[n] z last = true:=by simpa using k2.1
      have kp:es[n].fEffect > 0:=by simpa using k2.2
      refine lookup_m (j:=1) mp_map_int_bool s3 rfl (decide (es[n].fEffect ∈ seen)) ?_ ?_
      · rw [if_neg Bool.false_ne_true]; unfold aA
        by_cases hm:es[n].fEffect ∈ seen <;> simp [hm]
      · refine aX (fun k3=>?_) (fun k3=>?_)
        · have hm:es[n].fEffect ∈ seen:=of_decide_eq_true k3
          rw [if_pos (.inr ⟨kp,hm⟩)] at he
          exact aW he (cc (l:=[_,_]) s3)
        · have hm:es[n].fEffect ∉ seen:=of_decide_eq_false k3
          have hno:¬ (fB es[n] z last = false∨(es[n].fEffect > 0∧es[n].fEffect ∈ seen)):=by simp [k1,hm]
          exact rest hno _ (go hno)
    · refine aX (fun k3=>?_) (fun k3=>?_)
      · have k1:fB es[n] z last = false:=by simpa using k3
        rw [if_pos (.inl k1)] at he
        exact aW he (cc (l:=[_,_]) s3)
      · have k1:fB es[n] z last = true:=by simpa using k3
        have kp:¬ es[n].fEffect > 0:=by simp [k1] at k2; omega
        have hno:¬ (fB es[n] z last = false∨(es[n].fEffect > 0∧es[n].fEffect ∈ seen)):=by simp [k1]; intro hh; exact absurd hh kp
        exact rest hno _ (go hno)
  · have:n = es.length:=by rw [hl] at k; simp at k; omega
    subst this
    rw [List.drop_length] at he
    exact aW he (cc (l:=[_,_]) s3)
end Go.Proofs.YtmggcfijlpldpaaGreatDoor
namespace Go.Proofs.YtmggcfijlpldpaaGreatDoor
open Go Mb
set_option linter.unusedVariables false
def dR (a2:Int) (a3:Int) (q22:Nat × Nat) (Rec9:(Sl × Int)→Hp→Prop) (s8:Sl × Int) (x49:aC) (s22:Bool):Hp→Prop:=br s22 ( ld (q22.1,q22.2 + 4) cP fun x65=>cl Tryz.prog gE [(pv x65)] dL fun r66=>cl Tryz.prog dz [(pv r66),(.int .i64 x49.fEnv),(.agg (ah.C x49.fCall).toArray)] bh fun r72=>cl Tryz.prog fN [(pv r66),(.int .i64 a2),(.int .i64 a3)] cz fun r77=>hpv Tryz.prog (Instr.buildSlice pR 1 #[(0,(.agg (al.C r77.1).toArray))]) qi fun (v82:Sl)=>hpv Tryz.prog (Builtin.append_ #[pR,pR] pR #[(sv s8.1),(sv v82)]) qi fun (v83:Sl)=>Rec9 (v83,(IntKind.i64.wrap (s8.2 + 1)))) ( Rec9 (s8.1,(IntKind.i64.wrap (s8.2 + 1))))
def kD (a2:Int) (a3:Int) (K:Sl→Hp→Prop) (q22:Nat × Nat) (r37:Sl) (Rec9:(Sl × Int)→Hp→Prop) (s8:Sl × Int):Hp→Prop:=br (decide (s8.2 < (r37.len:Int))) ( ix r37 s8.2 fun q41=>ld (q41.1,q41.2 + Int.toNat s8.2 * 1) (cI .i64) fun x42=>ld (q22.1,q22.2 + 0) cS fun x46=>ix x46 x42 fun q48=>ld (q48.1,q48.2 + Int.toNat x42 * 16) aC.C fun x49=>br (((aB x49.fCall).1) == 7) ( dR a2 a3 q22 Rec9 s8 x49 (((aB x49.fCall).1) == 7)) ( br (((aB x49.fCall).1) == 8) ( dR a2 a3 q22 Rec9 s8 x49 (((aB x49.fCall).1) == 8)) ( br (((aB x49.fCall).1) == 4) ( dR a2 a3 q22 Rec9 s8 x49 (((aB x49.fCall).1) == 4)) ( dR a2 a3 q22 Rec9 s8 x49 (((aB x49.fCall).1) == 5))))) ( K s8.1)
def pB (a0:Ptr) (a1:Int) (a2:Int) (a3:Int) (K:Sl→Hp→Prop):Hp→Prop:=nn a0 fun q22=>ld (q22.1,q22.2 + 4) cP fun x24=>cl Tryz.prog fN [(pv x24),(.int .i64 a2),(.int .i64 a3)] cz fun r27=>hpv Tryz.prog (Instr.buildSlice pR 1 #[(0,(.agg (al.C r27.1).toArray))]) qi fun (v31:Sl)=>ld (q22.1,q22.2 + 0) cS fun x35=>cl Tryz.prog n_hist_Over [(sv x35),(.int .i64 a1)] cA fun r37=>Lp (kD a2 a3 K q22 r37) (v31,0)
theorem wG (a0:Ptr) (a1:Int) (a2:Int) (a3:Int) {K:Sl→Hp→Prop} {h:Hp} (H:pB a0 a1 a2 a3 K h):Ct Tryz.prog lu #[(pv a0),(.int .i64 a1),(.int .i64 a2),(.int .i64 a3)] h fun v h'=>∃ r,v = qi r∧K r h':=au [(pv a0),(.int .i64 a1),(.int .i64 a2),(.int .i64 a3)] Tryz.func174 c c c fun _=>M<|O c<|M<|J c<|bD H fun q22 e1 H2=>p (aI<|aL c<|ao e1)<|p (ae vS c)<|aa<|aU H2 vC c (fun _=>c) c fun x24 H3=>J c<|J c<|aa<|Z H3 en_103 fun r27 _ H4=>J c<|p (aj c c)<|p (aj c c)<|aa<|aM (l:=al.C (⟨0,0,0⟩:al)) eK c c fun b9=>aa<|aO (k:=0) (vs:=al.C r27.1) cZ c c c c c c c<|O c<|M<|be (bC (k:=0) dK c c c c) c<|aa<|aR H4 (bv (vs:=[(.agg (al.C r27.1).toArray)]) c) c fun v31 _ H5=>O c<|ak<|M<|J (aL c<|ao e1)<|p (aI c)<|p (ae fld_192_0 c)<|aa<|aU H5 sc_43 c (fun _=>c) c fun x35 H6=>J c<|aa<|Z H6 en_198 fun r37 _ H7=>p (dy c Tryz.underlying40 c)<|J c<|ad<|ay<|bE (step:=kD a2 a3 K q22 r37) (fun s8=>[(0,(pv a0)),(2,(.int .i64 a2)),(3,(.int .i64 a3)),(11,(sv s8.1)),(37,(sv r37)),(38,(.int .i64 (r37.len:Int))),(39,(.int .i64 s8.2))]) (fun s8=>[]) H7 (.cons c<|.cons c<|.cons c<|.cons c<|.cons c<|.cons c<|.cons c<|.nil _) (.cons _ .slnil) fun Rec9 s8 _ H10=>M<|p (cu c c)<|ad<|ak<|av c H10 (fun k11 H12=>an<|ak<|ay<|M<|cj H12 fun q41 e13 h14 H15=>p (bn iA (aL c<|aZ e13) c h14)<|aa<|aU H15 aY c (fun _=>c) c fun x42 H16=>O c<|M<|J (aL c<|ao e1)<|p (aI c)<|p (ae fld_192_0 c)<|aa<|aU H16 sc_43 c (fun _=>c) c fun x46 H17=>J c<|cj H17 fun q48 e18 h19 H20=>p (bn ra (aL c<|aZ e18) c h19)<|aa<|gu H20 ag_54 c (fun _=>c) c fun x49 H21=>aa<|aM (l:=aC.C (⟨0,0,(⟨0,0,0,0,0⟩:ah),0,0,0,(⟨0,0⟩:ac),(⟨0,0,0,0⟩:am)⟩:aC)) zero_54 c c fun b14=>aa<|aO (k:=0) (vs:=aC.C x49) inf_54 c c c c c c c<|ad<|M<|p (ae mQ c)<|be (bC (k:=0) ff c c c c) c<|aa<|cF (vs:=[(.agg (ah.C x49.fCall).toArray)]) (bu<|jX x49.fCall _) en_53 c c<|J c<|p (aj c c)<|p (aj c c)<|p (ar c)<|O c<|M<|J c<|ad<|ay<|eu (dR a2 a3 q22 Rec9 s8 x49) (fun s22=>[(0,(pv a0)),(2,(.int .i64 a2)),(3,(.int .i64 a3)),(11,(sv s8.1)),(14,(.pointer (some ⟨b14,0,none⟩))),(37,(sv r37)),(38,(.int .i64 (r37.len:Int))),(39,(.int .i64 s8.2)),(57,(.bool s22))]) (fun s22=>[bx b14 54 (aC.C x49)]) (M<|p (bL c c)<|O c<|av c H21 (fun k32 H33=>an<|cG (((aB x49.fCall).1) == 7) H33 (.cons c<|.cons c<|.cons c<|.cons c<|.cons c<|.cons c<|.cons c<|.cons c<|.cons c<|.nil _)<|.cons_cons _ .slnil) fun k32 H33=>M<|p (bL c c)<|O c<|av c H33 (fun k34 H35=>an<|cG (((aB x49.fCall).1) == 8) H35 (.cons c<|.cons c<|.cons c<|.cons c<|.cons c<|.cons c<|.cons c<|.cons c<|.cons c<|.nil _)<|.cons_cons _ .slnil) fun k34 H35=>M<|p (bL c c)<|O c<|av c H35 (fun k36 H37=>an<|cG (((aB x49.fCall).1) == 4) H37 (.cons c<|.cons c<|.cons c<|.cons c<|.cons c<|.cons c<|.cons c<|.cons c<|.cons c<|.nil _)<|.cons_cons _ .slnil) fun k36 H37=>aq<|p (bL c c)<|O c<|cG (((aB x49.fCall).1) == 5) H37 (.cons c<|.cons c<|.cons c<|.cons c<|.cons c<|.cons c<|.cons c<|.cons c<|.cons c<|.nil _)<|.cons_cons _ .slnil) fun s22 _ H23=>av c H23 (fun k24 H25=>M<|J (aL c<|ao e1)<|p (aI c)<|p (ae vS c)<|aa<|aU H25 vC c (fun _=>c) c fun x65 H26=>aa<|Z H26 en_175 fun r66 _ H27=>O c<|M<|J c<|p (ae oT c)<|be (ba (k:=0) aY c c c) c<|p (ae mQ c)<|be (bC (k:=0) ff c c c c) c<|aa<|Z H27 en_62 fun r72 _ H28=>ad<|M<|J c<|J c<|J c<|aa<|Z H28 en_103 fun r77 _ H29=>J c<|p (aj c c)<|p (aj c c)<|aa<|aM (l:=al.C (⟨0,0,0⟩:al)) eK c c fun b18=>aa<|aO (k:=0) (vs:=al.C r77.1) cZ c c c c c c c<|O c<|aq<|J c<|be (bC (k:=0) dK c c c c) c<|aa<|aR H29 (bv (vs:=[(.agg (al.C r77.1).toArray)]) c) c fun v82 _ H30=>aa<|aR H30 (dG c c) c fun v83 _ H31=>O c<|aq<|p (bq c c)<|J c<|ad<|cL (v83,(IntKind.i64.wrap (s8.2 + 1))) H31 (.cons c<|.cons c<|.cons c<|.cons c<|.cons c<|.cons c<|.cons c<|.nil _)<|.cons _<|.cons _ .slnil) fun k24 H25=>an<|aq<|p (bq c c)<|J c<|ad<|cL (s8.1,(IntKind.i64.wrap (s8.2 + 1))) H25 (.cons c<|.cons c<|.cons c<|.cons c<|.cons c<|.cons c<|.cons c<|.nil _)<|.cons _ .slnil) fun k11 H12=>bj<|M<|J c<|O c<|ai<|Y ⟨s8.1,c,H12⟩
def kE (a1:aC) (K:Bool→Hp→Prop) (q18:Nat × Nat) (r50:Sl) (Rec13:(Bool × Bool × Int)→Hp→Prop) (s12:Bool × Bool × Int):Hp→Prop:=br (decide (s12.2.2 < (r50.len:Int))) ( ix r50 s12.2.2 fun q54=>ld (q54.1,q54.2 + Int.toNat s12.2.2 * 3) al.C fun x55=>Rec13 ((s12.1 || (!(dq x55.fRights (IntKind.i64.wrap a1.fCall.e0)))),(s12.2.1 || ((x55.fFrame == a1.fLine.fFrame) && (aT a1.fLine.fRights x55.fRights))),(IntKind.i64.wrap (s12.2.2 + 1)))) ( br (a1.fAnswer.fErr == 7) ( K ((s12.1 && (a1.fAnswer.fVal == 0)) && (am.eqb a1.fLine (⟨0,0,0,0⟩:am)))) ( ld (q18.1,q18.2 + 4) cP fun x103=>cl Tryz.prog gE [(pv x103)] dL fun r104=>cl Tryz.prog eU [(pv r104),(.int .i64 a1.fLine.fFrame),(.agg (ah.C a1.fCall).toArray)] bh fun r110=>K (((s12.2.1 && (((a1.fLine.fEnv == a1.fEnv) && (a1.fLine.fPage == (IntKind.i64.wrap a1.fCall.e1))) && (dq a1.fLine.fRights (IntKind.i64.wrap a1.fCall.e0)))) && r110.2) && (ac.eqb r110.1 a1.fAnswer))))
def pC (a0:Ptr) (a1:aC) (K:Bool→Hp→Prop):Hp→Prop:=nn a0 fun q18=>ld (q18.1,q18.2 + 1 + 1) (cI .i64) fun x21=>cl Tryz.prog gM [(.agg (ah.C a1.fCall).toArray),(.int .i64 x21)] bg fun r22=>br (r22 != 0) ( K ((ac.eqb a1.fAnswer (⟨r22,0⟩:ac)) && (am.eqb a1.fLine (⟨0,0,0,0⟩:am)))) ( cl Tryz.prog lu [(.pointer (some ⟨q18.1,q18.2,none⟩)),(.int .i64 a1.fEffect),(.int .i64 a1.fEnv),(.int .i64 (IntKind.i64.wrap a1.fCall.e1))] qi fun r50=>Lp (kE a1 K q18 r50) (false,false,0))
theorem wH (a0:Ptr) (a1:aC) {K:Bool→Hp→Prop} {h:Hp} (H:pC a0 a1 K h):Ct Tryz.prog lv #[(pv a0),(.agg (aC.C a1).toArray)] h fun v h'=>∃ r,v = aA r∧K r h':=au [(pv a0),(.agg (aC.C a1).toArray)] Tryz.func132 c c c fun _=>M<|aa<|cC (l:=aC.C a1) c c c fun b3=>O c<|ak<|ak<|bm (n:=9) [bx b3 54 (aC.C a1)] cm c (.cons_cons _ .slnil)<|U 0 c (ae mQ c)<|z_E 1 c (eF (k:=0) ff c c c c)<|U 2 c (ag c)<|gN H fun q18 e1 H2=>U 3 c (aI<|aL c<|ao e1)<|U 4 c (ae fld_192_1 c)<|U 5 c (ae lA c)<|bF (i:=6) (fun _ _ _ _ hh=>hh) H2 c (by kernel_rfl) aY c (fun _=>c) c fun x21 H3=>G 7 c<|Z H3 en_98 fun r22 _ H4=>⟨.cons_cons _ .slnil,U 8 c (ar c)<|aV (by kernel_rfl)<|M<|J c<|p (pb c c)<|ad<|av c H4 (fun k5 H6=>M<|p (ae ki c)<|be (bC (k:=0) cD c c c c) c<|J c<|p (bc c<|jj r22)<|p (v_eqA eqg_30 (eqr_30 9998 _ _) c c)<|J c<|V c c (ax _) (fun g7=>wv<|ae gc c)<|V c c (ax _) (fun g8=>cv<|bC (k:=0) gU (aD c g8) c c c)<|V c c (ax _) (fun g9=>wv<|bc (vs:=[]) c lF)<|V c c (ax _) (fun g10=>wv<|v_eqA eqg_52 (eqr_52 9998 _ _) (aD c g10)<|aD c g10)<|p (bT c c)<|O c<|ai<|Y ⟨((ac.eqb a1.fAnswer (⟨r22,0⟩:ac)) && (am.eqb a1.fLine (⟨0,0,0,0⟩:am))),c,H6⟩) fun k5 H6=>an<|ak<|bm (n:=10) [bx b3 54 (aC.C a1)] cm c (.cons_cons _ .slnil)<|U 0 c (ae mQ c)<|U 1 c (bp da c c (by decide))<|z_E 2 c (df (k:=0) ct c c c)<|U 3 c (dX ⟨_,Tryz.underlying22⟩ Tryz.underlying3 c)<|U 4 c (ae mQ c)<|U 5 c (bp da c c (by decide))<|z_E 6 c (df (k:=0) ct c c c)<|U 7 c (dX ⟨_,Tryz.underlying22⟩ Tryz.underlying3 c)<|U 8 c (ar c)<|U 9 c (ar c)<|aV (by kernel_rfl)<|M<|p (ar c)<|O c<|ak<|M<|J (aL c<|ao e1)<|p (ae ik c)<|be (ba (k:=0) aY c c c) c<|p (ae oT c)<|be (ba (k:=0) aY c c c) c<|J c<|aa<|Z H6 en_174 fun r50 _ H11=>p (dy c Tryz.underlying234 c)<|J c<|ad<|ay<|bE (step:=kE a1 K q18 r50) (fun s12=>[(0,(pv a0)),(3,(.pointer (some ⟨b3,0,none⟩))),(6,(.int .i64 (IntKind.i64.wrap a1.fCall.e1))),(7,(.int .i64 (IntKind.i64.wrap a1.fCall.e0))),(8,(.bool s12.1)),(9,(.bool s12.2.1)),(50,(sv r50)),(51,(.int .i64 (r50.len:Int))),(52,(.int .i64 s12.2.2))]) (fun s12=>[bx b3 54 (aC.C a1)]) H11 (.cons c<|.cons c<|.cons c<|.cons c<|.cons c<|.cons c<|.cons c<|.cons c<|.cons c<|.nil _) (.cons_cons _ .slnil) fun Rec13 s12 _ H14=>M<|p (cu c c)<|ad<|ak<|av c H14 (fun k15 H16=>an<|ak<|ay<|M<|cj H16 fun q54 e17 h18 H19=>p (bn slc_234 (aL c<|aZ e17) c h18)<|aa<|gu H19 dK c (fun _=>c) c fun x55 H20=>aa<|aM (l:=al.C (⟨0,0,0⟩:al)) eK c c fun b11=>aa<|aO (k:=0) (vs:=al.C x55) cZ c c c c c c c<|ad<|M<|J c<|J c<|V c c (aH _) (fun g21=>wv<|ae dN c)<|V c c (aH _) (fun g22=>cv<|ba (k:=0) aY (aD c g22) c c)<|V c c (aH _) (fun g23=>wv<|ag c)<|cY (vs:=[(.int .i64 x55.fRights),(.int .i64 (IntKind.i64.wrap a1.fCall.e0))]) c c c (aH _) (fun g24=>bu<|jL x55.fRights (IntKind.i64.wrap a1.fCall.e0) _) en_152 (fun g24=>aP (aD c g24)<|aP (aD c g24) bS) c<|V c c (aH _) (fun g25=>wv<|cq<|aD c g25)<|p (dh c c)<|O c<|aq<|J c<|J c<|V c c (aH _) (fun g26=>wv<|ae nT c)<|V c c (aH _) (fun g27=>cv<|ba (k:=0) aY (aD c g27) c c)<|V c c (aH _) (fun g28=>wv<|ae gc c)<|V c c (aH _) (fun g29=>wv<|ae lz<|aD c g29)<|V c c (aH _) (fun g30=>cv<|ba (k:=1) aY (aD c g30) c c)<|V c c (aH _) (fun g31=>wv<|bL (aD c g31)<|aD c g31)<|V c c (aH _) (fun g32=>wv<|ag<|aD c g32)<|V c c (rq _ _) (fun g33=>wv<|ae gc c)<|V c c (rq _ _) (fun g34=>wv<|ae qR<|aD c g34)<|V c c (rq _ _) (fun g35=>cv<|ba (k:=1) aY (aD c g35) c c)<|V c c (rq _ _) (fun g36=>wv<|ae dN c)<|V c c (rq _ _) (fun g37=>cv<|ba (k:=0) aY (aD c g37) c c)<|cY (vs:=[(.int .i64 a1.fLine.fRights),(.int .i64 x55.fRights)]) c c c (rq _ _) (fun g38=>bu<|db a1.fLine.fRights x55.fRights _) mD (fun g38=>aP (aD c g38)<|aP (aD c g38) bS) c<|V c c (aH _) (fun g39=>wv<|bT (aD c g39)<|aL c<|xi g39)<|p (dh c c)<|O c<|aq<|p (bq c c)<|J c<|ad<|cL ((s12.1 || (!(dq x55.fRights (IntKind.i64.wrap a1.fCall.e0)))),(s12.2.1 || ((x55.fFrame == a1.fLine.fFrame) && (aT a1.fLine.fRights x55.fRights))),(IntKind.i64.wrap (s12.2.2 + 1))) H20 (.cons c<|.cons c<|.cons c<|.cons c<|.cons c<|.cons c<|.cons c<|.cons c<|.cons c<|.nil _)<|.cons _<|.cons_cons _ .slnil) fun k15 H16=>bj<|ak<|M<|p (ae ki c)<|p (ae kj c)<|be (ba (k:=0) oB c c c) c<|p (bL c c)<|ad<|av c H16 (fun k40 H41=>M<|J c<|J c<|V c c (ax _) (fun g42=>wv<|ae ki c)<|V c c (ax _) (fun g43=>wv<|ae fld_30_1<|aD c g43)<|V c c (ax _) (fun g44=>cv<|ba (k:=0) ct (aD c g44) c c)<|V c c (ax _) (fun g45=>wv<|bL (aD c g45) c)<|p (bT c c)<|J c<|V c c (ax _) (fun g46=>wv<|ae gc c)<|V c c (ax _) (fun g47=>cv<|bC (k:=0) gU (aD c g47) c c c)<|V c c (ax _) (fun g48=>wv<|bc (vs:=[]) c lF)<|V c c (ax _) (fun g49=>wv<|v_eqA eqg_52 (eqr_52 9998 _ _) (aD c g49)<|aD c g49)<|p (bT c c)<|O c<|ai<|Y ⟨((s12.1 && (a1.fAnswer.fVal == 0)) && (am.eqb a1.fLine (⟨0,0,0,0⟩:am))),c,H41⟩) fun k40 H41=>an<|ak<|bm (n:=17) [bx b3 54 (aC.C a1)] cm c (.cons_cons _ .slnil)<|U 0 c (ag<|aL c<|ao e1)<|U 1 c (aI c)<|U 2 c (ae vS c)<|U 5 c (ae gc c)<|U 6 c (ae lz c)<|z_E 7 c (df (k:=0) aY c c c)<|U 8 c (ae mQ c)<|z_E 9 c (eF (k:=0) ff c c c c)<|bF (i:=3) (fun _ _ _ _ hh=>hh) H41 c (by kernel_rfl) vC c (fun _=>c) c fun x103 H50=>jC (i:=4) (j:=14) (by kernel_rfl) (cE c c<|Z H50 en_175 fun r104 _ H52=>⟨.cons_cons _ .slnil,jC (i:=10) (j:=14) (by kernel_rfl) (cE c c<|Z H52 uU fun r110 _ H54=>⟨.cons_cons _ .slnil,U 11 c (ag c)<|U 12 c (aj c c)<|U 13 c (aj c c)<|G 14 c<|aM (l:=ac.C (⟨0,0⟩:ac)) dc c c fun b12=>⟨.cons _<|.cons_cons _ .slnil,G 15 c<|aO (k:=0) (vs:=ac.C r110.1) bN c c c c c c c ⟨.cons _<|.cons_cons _ .slnil,U 16 c (ar c)<|aV (by kernel_rfl)<|M<|p (ae gc c)<|p (ae jA c)<|be (ba (k:=1) aY c c c) c<|p (ae oT c)<|be (ba (k:=1) aY c c c) c<|p (bL c c)<|J c<|V c c (ax _) (fun g55=>wv<|ae gc c)<|V c c (ax _) (fun g56=>wv<|ae mR<|aD c g56)<|V c c (ax _) (fun g57=>cv<|ba (k:=1) aY (aD c g57) c c)<|V c c (ax _) (fun g58=>wv<|ag c)<|V c c (ax _) (fun g59=>wv<|bL (aD c g59)<|aD c g59)<|p (bT c c)<|J c<|V c c (ax _) (fun g60=>wv<|ae gc c)<|V c c (ax _) (fun g61=>wv<|ae qR<|aD c g61)<|V c c (ax _) (fun g62=>cv<|ba (k:=1) aY (aD c g62) c c)<|V c c (ax _) (fun g63=>wv<|ag c)<|cY (vs:=[(.int .i64 a1.fLine.fRights),(.int .i64 (IntKind.i64.wrap a1.fCall.e0))]) c c c (ax _) (fun g64=>bu<|jL a1.fLine.fRights (IntKind.i64.wrap a1.fCall.e0) _) en_152 (fun g64=>aP (aD c g64)<|aP (aD c g64) bS) c<|p (bT c c)<|O c<|M<|J c<|J c<|V c c (ax _) (fun g65=>wv<|ag c)<|p (bT c c)<|J c<|V c c (ax _) (fun g66=>wv<|ag c)<|p (bT c c)<|J c<|V c c (ax _) (fun g67=>cv<|bC (k:=0) cD c c c c)<|V c c (ax _) (fun g68=>wv<|ae ki c)<|V c c (ax _) (fun g69=>cv<|bC (k:=1) cD (aD c g69) c c c)<|V c c (ax _) (fun g70=>wv<|v_eqA eqg_30 (eqr_30 9998 _ _) (aD c g70)<|aD c g70)<|p (bT c c)<|O c<|ai<|Y ⟨(((s12.2.1 && (((a1.fLine.fEnv == a1.fEnv) && (a1.fLine.fPage == (IntKind.i64.wrap a1.fCall.e1))) && (dq a1.fLine.fRights (IntKind.i64.wrap a1.fCall.e0)))) && r110.2) && (ac.eqb r110.1 a1.fAnswer)),c,H54⟩⟩⟩⟩)<|cE c c<|aM (l:=ac.C (⟨0,0⟩:ac)) dc c c fun b12=>⟨.cons _<|.cons_cons _ .slnil,G 10 c<|Z H52 uU fun r110 _ H54=>⟨.cons _<|.cons_cons _ .slnil,U 11 c (ag c)<|U 12 c (aj c c)<|U 13 c (aj c c)<|G 15 c<|aO (k:=0) (vs:=ac.C r110.1) bN c c c c c c c ⟨.cons _<|.cons_cons _ .slnil,U 16 c (ar c)<|aV (by kernel_rfl)<|M<|p (ae gc c)<|p (ae jA c)<|be (ba (k:=1) aY c c c) c<|p (ae oT c)<|be (ba (k:=1) aY c c c) c<|p (bL c c)<|J c<|V c c (ax _) (fun g55=>wv<|ae gc c)<|V c c (ax _) (fun g56=>wv<|ae mR<|aD c g56)<|V c c (ax _) (fun g57=>cv<|ba (k:=1) aY (aD c g57) c c)<|V c c (ax _) (fun g58=>wv<|ag c)<|V c c (ax _) (fun g59=>wv<|bL (aD c g59)<|aD c g59)<|p (bT c c)<|J c<|V c c (ax _) (fun g60=>wv<|ae gc c)<|V c c (ax _) (fun g61=>wv<|ae qR<|aD c g61)<|V c c (ax _) (fun g62=>cv<|ba (k:=1) aY (aD c g62) c c)<|V c c (ax _) (fun g63=>wv<|ag c)<|cY (vs:=[(.int .i64 a1.fLine.fRights),(.int .i64 (IntKind.i64.wrap a1.fCall.e0))]) c c c (ax _) (fun g64=>bu<|jL a1.fLine.fRights (IntKind.i64.wrap a1.fCall.e0) _) en_152 (fun g64=>aP (aD c g64)<|aP (aD c g64) bS) c<|p (bT c c)<|O c<|M<|J c<|J c<|V c c (ax _) (fun g65=>wv<|ag c)<|p (bT c c)<|J c<|V c c (ax _) (fun g66=>wv<|ag c)<|p (bT c c)<|J c<|V c c (ax _) (fun g67=>cv<|bC (k:=0) cD c c c c)<|V c c (ax _) (fun g68=>wv<|ae ki c)<|V c c (ax _) (fun g69=>cv<|bC (k:=1) cD (aD c g69) c c c)<|V c c (ax _) (fun g70=>wv<|v_eqA eqg_30 (eqr_30 9998 _ _) (aD c g70)<|aD c g70)<|p (bT c c)<|O c<|ai<|Y ⟨(((s12.2.1 && (((a1.fLine.fEnv == a1.fEnv) && (a1.fLine.fPage == (IntKind.i64.wrap a1.fCall.e1))) && (dq a1.fLine.fRights (IntKind.i64.wrap a1.fCall.e0)))) && r110.2) && (ac.eqb r110.1 a1.fAnswer)),c,H54⟩⟩⟩⟩⟩)<|cE c c<|aM (l:=ac.C (⟨0,0⟩:ac)) dc c c fun b12=>⟨.cons _<|.cons_cons _ .slnil,G 4 c<|Z H50 en_175 fun r104 _ H52=>⟨.cons _<|.cons_cons _ .slnil,G 10 c<|Z H52 uU fun r110 _ H53=>⟨.cons _<|.cons_cons _ .slnil,U 11 c (ag c)<|U 12 c (aj c c)<|U 13 c (aj c c)<|G 15 c<|aO (k:=0) (vs:=ac.C r110.1) bN c c c c c c c ⟨.cons _<|.cons_cons _ .slnil,U 16 c (ar c)<|aV (by kernel_rfl)<|M<|p (ae gc c)<|p (ae jA c)<|be (ba (k:=1) aY c c c) c<|p (ae oT c)<|be (ba (k:=1) aY c c c) c<|p (bL c c)<|J c<|V c c (ax _) (fun g54=>wv<|ae gc c)<|V c c (ax _) (fun g55=>wv<|ae mR<|aD c g55)<|V c c (ax _) (fun g56=>cv<|ba (k:=1) aY (aD c g56) c c)<|V c c (ax _) (fun g57=>wv<|ag c)<|V c c (ax _) (fun g58=>wv<|bL (aD c g58)<|aD c g58)<|p (bT c c)<|J c<|V c c (ax _) (fun g59=>wv<|ae gc c)<|V c c (ax _) (fun g60=>wv<|ae qR<|aD c g60)<|V c c (ax _) (fun g61=>cv<|ba (k:=1) aY (aD c g61) c c)<|V c c (ax _) (fun g62=>wv<|ag c)<|cY (vs:=[(.int .i64 a1.fLine.fRights),(.int .i64 (IntKind.i64.wrap a1.fCall.e0))]) c c c (ax _) (fun g63=>bu<|jL a1.fLine.fRights (IntKind.i64.wrap a1.fCall.e0) _) en_152 (fun g63=>aP (aD c g63)<|aP (aD c g63) bS) c<|p (bT c c)<|O c<|M<|J c<|J c<|V c c (ax _) (fun g64=>wv<|ag c)<|p (bT c c)<|J c<|V c c (ax _) (fun g65=>wv<|ag c)<|p (bT c c)<|J c<|V c c (ax _) (fun g66=>cv<|bC (k:=0) cD c c c c)<|V c c (ax _) (fun g67=>wv<|ae ki c)<|V c c (ax _) (fun g68=>cv<|bC (k:=1) cD (aD c g68) c c c)<|V c c (ax _) (fun g69=>wv<|v_eqA eqg_30 (eqr_30 9998 _ _) (aD c g69)<|aD c g69)<|p (bT c c)<|O c<|ai<|Y ⟨(((s12.2.1 && (((a1.fLine.fEnv == a1.fEnv) && (a1.fLine.fPage == (IntKind.i64.wrap a1.fCall.e1))) && (dq a1.fLine.fRights (IntKind.i64.wrap a1.fCall.e0)))) && r110.2) && (ac.eqb r110.1 a1.fAnswer)),c,H53⟩⟩⟩⟩⟩⟩
def rH (a0:Ptr) (a1:aC) (K:Bool→Hp→Prop):Hp→Prop:=br (a1.fAnswer.fErr == 0) ( nn a0 fun q13=>ld (q13.1,q13.2 + 1 + 1) (cI .i64) fun x16=>cl Tryz.prog gM [(.agg (ah.C a1.fCall).toArray),(.int .i64 x16)] bg fun r17=>br (r17 == 0) ( K (a1.fLine.fRights != 0)) ( K false)) ( K false)
theorem sim_judge_judge_well (a0:Ptr) (a1:aC) {K:Bool→Hp→Prop} {h:Hp} (H:rH a0 a1 K h):Ct Tryz.prog nr #[(pv a0),(.agg (aC.C a1).toArray)] h fun v h'=>∃ r,v = aA r∧K r h':=au [(pv a0),(.agg (aC.C a1).toArray)] Tryz.func133 c c c fun _=>M<|aa<|cC (l:=aC.C a1) c c c fun b3=>O c<|ak<|bm (n:=22) [bx b3 54 (aC.C a1)] cm c (.cons_cons _ .slnil)<|U 0 c (ae ki c)<|U 1 c (ae kj c)<|z_E 2 c (df (k:=0) oB c c c)<|U 3 c (bL c c)<|U 4 c (ag c)<|qe H (fun k1 H2=>z_n 5 c (D k1) (ve<|ae mQ c)<|z_n 6 c (D k1) (eF (k:=0) ff c c c c)<|z_n 7 c (D k1) (ve<|ag c)<|gN H2 fun q13 e3 H4=>z_n 8 c (D k1) (ve<|aI<|aL c<|ao e3)<|z_n 9 c (D k1) (ve<|ae fld_192_1 c)<|z_n 10 c (D k1) (ve<|ae lA c)<|me (i:=11) (fun _ _ _ _ hh=>hh) H4 c (by kernel_rfl) c c c (D k1) aY c (fun _=>c) c fun x16 H5=>eva_1 (i:=12) (by kernel_rfl)<|way_on c c c c (D k1)<|Z H5 en_98 fun r17 _ H6=>⟨.cons_cons _ .slnil,z_n 13 c (D k1) (ve<|bL c c)<|U 14 c (aQ c k1 c)<|U 15 c (ag c)<|qe H6 (fun k7 H8=>z_n 16 c (D k7) (ve<|ae gc c)<|z_n 17 c (D k7) (ve<|ae qR c)<|z_n 18 c (D k7) (df (k:=0) aY c c c)<|z_n 19 c (D k7) (ve<|pb c c)<|U 20 c (aQ c k7 c)<|U 21 c (ar c)<|aV (by kernel_rfl)<|ai<|Y ⟨(a1.fLine.fRights != 0),c,H8⟩) fun k7 H8=>R 16 c (aS k7)<|R 17 c (aS k7)<|R 18 c (aS k7)<|R 19 c (aS k7)<|U 20 c (ap c k7 c)<|U 21 c (ar c)<|aV (by kernel_rfl)<|ai<|Y ⟨false,c,H8⟩⟩) fun k1 H2=>R 5 c (aS k1)<|R 6 c (aS k1)<|R 7 c (aS k1)<|R 8 c (aS k1)<|R 9 c (aS k1)<|R 10 c (aS k1)<|R 11 c (aS k1)<|R 12 c (aS k1)<|R 13 c (aS k1)<|U 14 c (ap c k1 c)<|U 15 c (ag c)<|R 16 c c<|R 17 c c<|R 18 c c<|R 19 c c<|U 20 c (ap c c c)<|U 21 c (ar c)<|aV (by kernel_rfl)<|ai<|Y ⟨false,c,H2⟩
def sg (b25:Nat) (Rec8:Int→Hp→Prop) (s7:Int) (x36:aC) (s22:Unit):Hp→Prop:=cl Tryz.prog nr [(.pointer (some ⟨b25,0,none⟩)),(.agg (aC.C x36).toArray)] aA fun r49=>br r49 ( ld (b25,4) cP fun x53=>cl Tryz.prog eU [(pv x53),(.int .i64 x36.fLine.fFrame),(.agg (ah.C x36.fCall).toArray)] bh fun r59=>Rec8 (IntKind.i64.wrap (s7 + 1))) ( Rec8 (IntKind.i64.wrap (s7 + 1)))
def sf (K:(Int × Bool)→Hp→Prop) (b25:Nat) (Rec8:Int→Hp→Prop) (s7:Int) (x32:Int) (x36:aC) (s29:Bool):Hp→Prop:=br s29 ( K (x32,false)) ( sg b25 Rec8 s7 x36 ())
def xe (a0:Sl) (a2:Bool) (a3:Bool) (K:(Int × Bool)→Hp→Prop) (b25:Nat) (r27:Sl) (Rec8:Int→Hp→Prop) (s7:Int):Hp→Prop:=br (decide (s7 < (r27.len:Int))) ( ix r27 s7 fun q31=>ld (q31.1,q31.2 + Int.toNat s7 * 1) (cI .i64) fun x32=>ix a0 x32 fun q35=>ld (q35.1,q35.2 + Int.toNat x32 * 16) aC.C fun x36=>br (qj x36) ( br a3 ( cl Tryz.prog lv [(.pointer (some ⟨b25,0,none⟩)),(.agg (aC.C x36).toArray)] aA fun r43=>sf K b25 Rec8 s7 x32 x36 (!r43)) ( sf K b25 Rec8 s7 x32 x36 false)) ( ld (b25,4) cP fun x64=>cl Tryz.prog dz [(pv x64),(.int .i64 x36.fEnv),(.agg (ah.C x36.fCall).toArray)] bh fun r69=>br (a2 && ((!r69.2) || (!(ac.eqb r69.1 x36.fAnswer)))) ( K (x32,false)) ( Rec8 (IntKind.i64.wrap (s7 + 1))))) ( K ((-1),true))
def sh_judge_run (a0:Sl) (a1:aw) (a2:Bool) (a3:Bool) (K:(Int × Bool)→Hp→Prop):Hp→Prop:=cl Tryz.prog wX [(sv a0),(.agg (aw.C a1).toArray)] aA fun r18=>br (!r18) ( K ((-1),false)) ( cl Tryz.prog nJ [(.agg (aw.C a1).toArray)] dL fun r23=>nw di (kw.C (⟨a0,a1,r23⟩:kw)) fun b25=>cl Tryz.prog oN [(sv a0)] cA fun r27=>Lp (xe a0 a2 a3 K b25 r27) 0)
theorem sim_judge_run (a0:Sl) (a1:aw) (a2:Bool) (a3:Bool) {K:(Int × Bool)→Hp→Prop} {h:Hp} (H:sh_judge_run a0 a1 a2 a3 K h):Ct Tryz.prog ux #[(sv a0),(.agg (aw.C a1).toArray),(.bool a2),(.bool a3)] h fun v h'=>∃ r,v = bK r∧K r h':=au [(sv a0),(.agg (aw.C a1).toArray),(.bool a2),(.bool a3)] Tryz.func84 c c c fun _=>M<|aa<|cC (l:=aw.C a1) c c c fun b5=>p (ar c)<|O c<|ak<|M<|J c<|be (bC (k:=0) oW c c c c) c<|aa<|Z H en_33 fun r18 _ H1=>p (cq c)<|ad<|av c H1 (fun k2 H3=>M<|p (ar c)<|O c<|ai<|bw (bR c (bZ c)<|bZ c) ⟨((-1),false),c,H3⟩) fun k2 H3=>an<|ak<|bm (n:=7) [bx b5 27 (aw.C a1)] cm c (.cons_cons _ .slnil)<|U 0 c (ag c)<|z_E 1 c (eF (k:=0) oW c c c c)<|z_E 2 c (eF (k:=0) oW c c c c)<|G 3 c<|Z H3 en_48 fun r23 _ H4=>⟨.cons_cons _ .slnil,U 4 c (bc c<|build_192_0_1_2 a0 a1 r23)<|G 5 c<|gZ c c c H4 fun b25 _ H5=>⟨.cons_cons _ .slnil,U 6 c (ar c)<|aV (by kernel_rfl)<|ak<|M<|J c<|aa<|Z H5 en_43 fun r27 _ H6=>p (dy c Tryz.underlying40 c)<|J c<|ad<|ay<|bE (step:=xe a0 a2 a3 K b25 r27) (fun s7=>[(0,(sv a0)),(2,(.bool a2)),(3,(.bool a3)),(10,(.pointer (some ⟨b25,0,none⟩))),(27,(sv r27)),(28,(.int .i64 (r27.len:Int))),(29,(.int .i64 s7))]) (fun s7=>[]) H6 (.cons c<|.cons c<|.cons c<|.cons c<|.cons c<|.cons c<|.cons c<|.nil _) (.cons _ .slnil) fun Rec8 s7 _ H9=>M<|p (cu c c)<|ad<|ak<|av c H9 (fun k10 H11=>an<|ak<|ay<|M<|cj H11 fun q31 e12 h13 H14=>p (bn iA (aL c<|aZ e12) c h13)<|aa<|aU H14 aY c (fun _=>c) c fun x32 H15=>O c<|M<|J c<|J c<|cj H15 fun q35 e16 h17 H18=>p (bn ra (aL c<|aZ e16) c h17)<|aa<|gu H18 ag_54 c (fun _=>c) c fun x36 H19=>aa<|aM (l:=aC.C (⟨0,0,(⟨0,0,0,0,0⟩:ah),0,0,0,(⟨0,0⟩:ac),(⟨0,0,0,0⟩:am)⟩:aC)) zero_54 c c fun b13=>aa<|aO (k:=0) (vs:=aC.C x36) inf_54 c c c c c c c<|ad<|ak<|M<|be (bC (k:=0) ag_54 c c c c) c<|aa<|cF (vs:=[(.agg (aC.C x36).toArray)]) (bu<|ct_judge_user x36 _) en_131 c c<|ad<|av c H19 (fun k20 H21=>eu (sg b25 Rec8 s7 x36) (fun s22=>[(0,(sv a0)),(2,(.bool a2)),(3,(.bool a3)),(10,(.pointer (some ⟨b25,0,none⟩))),(13,(.pointer (some ⟨b13,0,none⟩))),(27,(sv r27)),(28,(.int .i64 (r27.len:Int))),(29,(.int .i64 s7))]) (fun s22=>[bx b13 54 (aC.C x36)]) (eu (sf K b25 Rec8 s7 x32 x36) (fun s29=>[(0,(sv a0)),(2,(.bool a2)),(3,(.bool a3)),(10,(.pointer (some ⟨b25,0,none⟩))),(12,(.int .i64 x32)),(13,(.pointer (some ⟨b13,0,none⟩))),(27,(sv r27)),(28,(.int .i64 (r27.len:Int))),(29,(.int .i64 s7)),(45,(.bool s29))]) (fun s29=>[bx b13 54 (aC.C x36)]) (aq<|J c<|J c<|V c c (ax _) (fun g33=>wv<|ag c)<|V c c (ax _) (fun g34=>cv<|bC (k:=0) ag_54 c c c c)<|bO H21 (fun k36 H37=>F (D k36)<|fX H37 en_132 (aP (aD c k36)<|aP (aD c k36) bS) c fun r43 _ H38=>F (D k36)<|I (cq c)<|p (aQ c k36 c)<|ad<|cG (!r43) H38 (.cons c<|.cons c<|.cons c<|.cons c<|.cons c<|.cons c<|.cons c<|.cons c<|.cons c<|.cons c<|.nil _)<|.cons_cons _ .slnil) fun k36 H37=>W (aS k36)<|W (aS k36)<|p (ap c k36 c)<|ad<|cG false H37 (.cons c<|.cons c<|.cons c<|.cons c<|.cons c<|.cons c<|.cons c<|.cons c<|.cons c<|.cons c<|.nil _)<|.cons_cons _ .slnil) fun s29 _ H30=>av c H30 (fun k31 H32=>M<|J c<|p (ar c)<|O c<|ai<|bw (bR c (bZ c)<|bZ c) ⟨(x32,false),c,H32⟩) fun k31 H32=>an<|cG () H32 (.cons c<|.cons c<|.cons c<|.cons c<|.cons c<|.cons c<|.cons c<|.cons c<|.nil _)<|.cons_cons _ .slnil) fun s22 _ H23=>ak<|M<|J c<|be (bC (k:=0) ag_54 c c c c) c<|aa<|Z H23 en_133 fun r49 _ H24=>ad<|av c H24 (fun k25 H26=>bm (n:=10) [bx b13 54 (aC.C x36)] cm c (.cons_cons _ .slnil)<|U 0 c (ag c)<|U 1 c (aI c)<|U 2 c (ae vS c)<|U 4 c (ae gc c)<|U 5 c (ae lz c)<|z_E 6 c (df (k:=0) aY c c c)<|U 7 c (ae mQ c)<|z_E 8 c (eF (k:=0) ff c c c c)<|bF (i:=3) (fun _ _ _ _ hh=>hh) H26 c (by kernel_rfl) vC c (fun _=>c) c fun x53 H27=>G 9 c<|Z H27 uU fun r59 _ H28=>⟨.cons_cons _ .slnil,aV (by kernel_rfl)<|bj<|aq<|p (bq c c)<|J c<|ad<|cL (IntKind.i64.wrap (s7 + 1)) H28 (.cons c<|.cons c<|.cons c<|.cons c<|.cons c<|.cons c<|.cons c<|.nil _)<|.cons _ .slnil⟩) fun k25 H26=>an<|bj<|aq<|p (bq c c)<|J c<|ad<|cL (IntKind.i64.wrap (s7 + 1)) H26 (.cons c<|.cons c<|.cons c<|.cons c<|.cons c<|.cons c<|.cons c<|.nil _)<|.cons _ .slnil) fun k20 H21=>an<|ak<|bm (n:=15) [bx b13 54 (aC.C x36)] cm c (.cons_cons _ .slnil)<|U 0 c (ag c)<|U 1 c (aI c)<|U 2 c (ae vS c)<|U 4 c (ae oT c)<|z_E 5 c (df (k:=0) aY c c c)<|U 6 c (ae mQ c)<|z_E 7 c (eF (k:=0) ff c c c c)<|bF (i:=3) (fun _ _ _ _ hh=>hh) H21 c (by kernel_rfl) vC c (fun _=>c) c fun x64 H39=>jC (i:=8) (j:=12) (by kernel_rfl) (cE c c<|Z H39 en_62 fun r69 _ H41=>⟨.cons_cons _ .slnil,U 9 c (ag c)<|U 10 c (aj c c)<|U 11 c (aj c c)<|G 12 c<|aM (l:=ac.C (⟨0,0⟩:ac)) dc c c fun b14=>⟨.cons _<|.cons_cons _ .slnil,G 13 c<|aO (k:=0) (vs:=ac.C r69.1) bN c c c c c c c ⟨.cons _<|.cons_cons _ .slnil,U 14 c (ar c)<|aV (by kernel_rfl)<|M<|J c<|J c<|V c c (ax _) (fun g42=>wv<|ag c)<|V c c (ax _) (fun g43=>wv<|cq<|aD c g43)<|V c c (ax _) (fun g44=>wv<|ag<|aD c g44)<|V c c (dV _ _) (fun g45=>cv<|bC (k:=0) cD c c c c)<|V c c (dV _ _) (fun g46=>wv<|ae ki c)<|V c c (dV _ _) (fun g47=>cv<|bC (k:=1) cD (aD c g47) c c c)<|V c c (dV _ _) (fun g48=>wv<|v_neA eqg_30 (eqr_30 9998 _ _) (aD c g48)<|aD c g48)<|V c c (ax _) (fun g49=>wv<|dh (aD c g49)<|aL c<|xi g49)<|p (bT c c)<|ad<|av c H41 (fun k50 H51=>M<|J c<|p (ar c)<|O c<|ai<|bw (bR c (bZ c)<|bZ c) ⟨(x32,false),c,H51⟩) fun k50 H51=>an<|aq<|p (bq c c)<|J c<|ad<|cL (IntKind.i64.wrap (s7 + 1)) H51 (.cons c<|.cons c<|.cons c<|.cons c<|.cons c<|.cons c<|.cons c<|.nil _)<|.cons _<|.cons _ .slnil⟩⟩⟩)<|cE c c<|aM (l:=ac.C (⟨0,0⟩:ac)) dc c c fun b14=>⟨.cons _<|.cons_cons _ .slnil,G 8 c<|Z H39 en_62 fun r69 _ H41=>⟨.cons _<|.cons_cons _ .slnil,U 9 c (ag c)<|U 10 c (aj c c)<|U 11 c (aj c c)<|G 13 c<|aO (k:=0) (vs:=ac.C r69.1) bN c c c c c c c ⟨.cons _<|.cons_cons _ .slnil,U 14 c (ar c)<|aV (by kernel_rfl)<|M<|J c<|J c<|V c c (ax _) (fun g42=>wv<|ag c)<|V c c (ax _) (fun g43=>wv<|cq<|aD c g43)<|V c c (ax _) (fun g44=>wv<|ag<|aD c g44)<|V c c (dV _ _) (fun g45=>cv<|bC (k:=0) cD c c c c)<|V c c (dV _ _) (fun g46=>wv<|ae ki c)<|V c c (dV _ _) (fun g47=>cv<|bC (k:=1) cD (aD c g47) c c c)<|V c c (dV _ _) (fun g48=>wv<|v_neA eqg_30 (eqr_30 9998 _ _) (aD c g48)<|aD c g48)<|V c c (ax _) (fun g49=>wv<|dh (aD c g49)<|aL c<|xi g49)<|p (bT c c)<|ad<|av c H41 (fun k50 H51=>M<|J c<|p (ar c)<|O c<|ai<|bw (bR c (bZ c)<|bZ c) ⟨(x32,false),c,H51⟩) fun k50 H51=>an<|aq<|p (bq c c)<|J c<|ad<|cL (IntKind.i64.wrap (s7 + 1)) H51 (.cons c<|.cons c<|.cons c<|.cons c<|.cons c<|.cons c<|.cons c<|.nil _)<|.cons _<|.cons _ .slnil⟩⟩⟩) fun k10 H11=>bj<|M<|p (ar c)<|O c<|ai<|bw (bR c (bZ c)<|bZ c) ⟨((-1),true),c,H11⟩⟩⟩
def sh_judge_Linear (a0:Sl) (a1:aw) (K:(Int × Bool)→Hp→Prop):Hp→Prop:=cl Tryz.prog ux [(sv a0),(.agg (aw.C a1).toArray),(.bool true),(.bool false)] bK fun r8=>K (r8.1,r8.2)
theorem sim_judge_Linear (a0:Sl) (a1:aw) {K:(Int × Bool)→Hp→Prop} {h:Hp} (H:sh_judge_Linear a0 a1 K h):Ct Tryz.prog oL #[(sv a0),(.agg (aw.C a1).toArray)] h fun v h'=>∃ r,v = bK r∧K r h':=au [(sv a0),(.agg (aw.C a1).toArray)] Tryz.func39 c c c fun _=>M<|aa<|cC (l:=aw.C a1) c c c fun b3=>p (ar c)<|O c<|M<|J c<|be (bC (k:=0) oW c c c c) c<|aa<|Z H en_84 fun r8 _ H1=>p (aj c c)<|p (aj c c)<|p (ar c)<|O c<|ai<|bw (bR c (bZ c)<|bZ c) ⟨(r8.1,r8.2),c,H1⟩
def sh_judge_Access (a0:Sl) (a1:aw) (K:(Int × Bool)→Hp→Prop):Hp→Prop:=cl Tryz.prog ux [(sv a0),(.agg (aw.C a1).toArray),(.bool false),(.bool true)] bK fun r8=>K (r8.1,r8.2)
theorem sim_judge_Access (a0:Sl) (a1:aw) {K:(Int × Bool)→Hp→Prop} {h:Hp} (H:sh_judge_Access a0 a1 K h):Ct Tryz.prog oM #[(sv a0),(.agg (aw.C a1).toArray)] h fun v h'=>∃ r,v = bK r∧K r h':=au [(sv a0),(.agg (aw.C a1).toArray)] Tryz.func40 c c c fun _=>M<|aa<|cC (l:=aw.C a1) c c c fun b3=>p (ar c)<|O c<|M<|J c<|be (bC (k:=0) oW c c c c) c<|aa<|Z H en_84 fun r8 _ H1=>p (aj c c)<|p (aj c c)<|p (ar c)<|O c<|ai<|bw (bR c (bZ c)<|bZ c) ⟨(r8.1,r8.2),c,H1⟩
def sh_judge_Right (a0:Sl) (a1:aw) (K:Bool→Hp→Prop):Hp→Prop:=cl Tryz.prog oL [(sv a0),(.agg (aw.C a1).toArray)] bK fun r12=>cl Tryz.prog oM [(sv a0),(.agg (aw.C a1).toArray)] bK fun r18=>K (r12.2 && r18.2)
theorem sim_judge_Right (a0:Sl) (a1:aw) {K:Bool→Hp→Prop} {h:Hp} (H:sh_judge_Right a0 a1 K h):Ct Tryz.prog uP #[(sv a0),(.agg (aw.C a1).toArray)] h fun v h'=>∃ r,v = aA r∧K r h':=au [(sv a0),(.agg (aw.C a1).toArray)] Tryz.func19 c c c fun _=>M<|aa<|cC (l:=aw.C a1) c c c fun b3=>O c<|M<|J c<|be (bC (k:=0) oW c c c c) c<|aa<|Z H en_39 fun r12 _ H1=>J c<|p (aj c c)<|p (aj c c)<|p (ar c)<|O c<|M<|J c<|be (bC (k:=0) oW c c c c) c<|aa<|Z H1 en_40 fun r18 _ H2=>J c<|p (aj c c)<|p (aj c c)<|p (ar c)<|O c<|M<|J c<|J c<|V c c (ax _) (fun g3=>wv<|ag c)<|p (bT c c)<|O c<|ai<|Y ⟨(r12.2 && r18.2),c,H2⟩
end Go.Proofs.YtmggcfijlpldpaaGreatDoor
