/- Part of the proof of: The law HistTurn returns true for every input, and leaves its arguments as they were. -/
import Derived.Test.YtemoifebbhoinaaGreatDoorHistTurn16
set_option linter.all false
set_option maxRecDepth 20000
namespace Go.Proofs.YtemoifebbhoinaaGreatDoor
open Go Mb
variable {ET:Nat} {EF:Nat × Nat}
abbrev s3_:ByteArray:=⟨#[51]⟩
theorem sp_small3:Sp Tryz.prog jw [.int .i64 3] dY [] (fun r=>pa_ (r = s3_) []):=by
  intro h st
  refine sW _ ?_
  unfold mH
  exact dZ rfl (fE s3_ (fun K h=>by kernel_rfl) (aZ rfl st))
theorem sp_FormatInt3:Sp Tryz.prog gK [.int .i64 3,.int .i64 10] dY [] (fun r=>pa_ (r = s3_) []):=by
  intro h st
  refine qg _ _ ?_
  unfold ka
  refine dZ rfl (dZ rfl (tV sp_small3 st fun r h' hr s2=>?_))
  exact aZ hr s2
theorem sp_Itoa3':Sp Tryz.prog jJ [.int .i64 3] dY [] (fun r=>pa_ (r = s3_) []):=by
  intro h st
  refine tU _ ?_
  unfold nh
  exact tV sp_FormatInt3 st fun r h' hr s2=>aZ hr s2
theorem sp_Itoa3:Sp Tryz.prog tt [.int .i64 3] dY [] (fun r=>pa_ (r = s3_) []):=by
  intro h st
  refine sim_strconv_Itoa _ ?_
  unfold sh_strconv_Itoa
  exact tV sp_Itoa3' st fun r h' hr s2=>aZ hr s2
abbrev t3_:ByteArray:=⟨#[116,114,97,112,32,51]⟩
theorem sp_Error1 (b:Nat) (t:cd) (hc:t.fCode = 3) (ht:t.fErr = Value.nilIface):Sp Tryz.prog jg [pv (some (b,0))] dY [trB b t] (fun r=>pa_ (r = t3_) [trB b t]):=by
  intro h st
  refine rE _ ?_
  unfold nC
  refine dI rfl (cE ?_)
  refine bp t.fCode st (i:=0) rfl rfl rfl ?_
  rw [hc]
  refine tV sp_Itoa3 st fun r h' hr s2=>?_
  subst hr
  refine fE t3_ (fun K h=>by kernel_rfl) ?_
  refine bp t.fErr s2 (i:=0) rfl rfl rfl ?_
  rw [ht]
  refine fE false (fun K h=>by kernel_rfl) (dI rfl ?_)
  exact aZ rfl s2
theorem sp_Error2 (b e:Nat) (t u:cd) (hc:t.fCode = 3) (ht:t.fErr = dz e) (hd:u.fCode = 3) (hu:u.fErr = Value.nilIface):Sp Tryz.prog jg [pv (some (b,0))] dY [trB b t,trB e u] (fun r=>pa_ (r = oF) [trB b t,trB e u]):=by
  intro h st
  refine rE _ ?_
  unfold nC
  refine dI rfl (cE ?_)
  refine bp t.fCode st (i:=0) rfl rfl rfl ?_
  rw [hc]
  refine tV sp_Itoa3 st fun r h' hr s2=>?_
  subst hr
  refine fE t3_ (fun K h=>by kernel_rfl) ?_
  refine bp t.fErr s2 (i:=0) rfl rfl rfl ?_
  rw [ht]
  refine fE true (fun K h=>by kernel_rfl) (dZ rfl ?_)
  refine bp t.fErr s2 (i:=0) rfl rfl rfl ?_
  rw [ht]
  refine cln_en (f:=jg) (vs:=[pv (some (e,0))]) (fun K h=>by kernel_rfl) ?_
  refine bR (i:=1) (sp_Error1 e u hd hu) rfl s2 fun r h' hr s3=>?_
  subst hr
  refine fE ⟨#[58,32,116,114,97,112,32,51]⟩ (fun K h=>by kernel_rfl) ?_
  refine fE oF (fun K h=>by kernel_rfl) ?_
  exact aZ rfl s3
theorem star_ne {b d:Nat} {T T':TypeId} {c c':List Value} {l:List As} {h:Hp} (s:aF (blk b T c::blk d T' c'::l) h):b ≠ d:=by
  obtain ⟨h1,h2,dj,e,a,h3,h4,dj2,e2,a2,_⟩:=s
  rintro rfl
  have h1b:h1 b = some _:=a
  have h3b:h3 b = some _:=a2
  rcases dj b with x | x
  · rw [h1b] at x; cases x
  · rw [e2,un_left h3b] at x; cases x
theorem sp_Trap_Is (b d:Nat) (t w:cd):Sp Tryz.prog tn [pv (some (b,0)),dz d] aA [trB b t,trB d w] (fun r=>pa_ (r = (t.fCode == w.fCode)) [trB b t,trB d w]):=by
  intro h st
  refine sim_trap_Trap_Is _ _ ?_
  unfold sh_trap_Trap_Is
  refine fE (some (d,0),true) (fun K h=>by kernel_rfl) (dZ rfl (dZ rfl (dZ rfl (cE (cE ?_)))))
  refine bp t.fCode st (i:=0) rfl rfl rfl ?_
  refine bp w.fCode st (i:=1) rfl rfl rfl ?_
  exact aZ rfl st
theorem sp_Unwrap (b:Nat) (t:cd):Sp Tryz.prog nE [pv (some (b,0))] encV [trB b t] (fun r=>pa_ (r = t.fErr) [trB b t]):=by
  intro h st
  refine sim_trap_Trap_Unwrap _ ?_
  unfold rF
  refine dI rfl (cE ?_)
  refine bp t.fErr st (i:=0) rfl rfl rfl ?_
  exact aZ rfl st
theorem eq_traps {K:Bool→Hp→Prop} {a b n m:Nat} {t u:cd} {l:List As} {h:Hp} (s:aF (trB a t::trB b u::l) h) (k:K false h):hpv Tryz.prog (do eqGuard .eql 199 (.tmp n) (.tmp m) (dz a) (dz b); binOp .eql 199 (dz a) (dz b):Sem Value) aA K h:=by
  obtain ⟨g1,a1,sub1⟩:=dX (l:=trB a t::trB b u::l) (A:=trB a t) (i:=0) (by rfl) s
  obtain ⟨g2,a2,sub2⟩:=dX (l:=trB a t::trB b u::l) (A:=trB b u) (i:=1) (by rfl) s
  have q1:h a = some (.cells (cd.C t).toArray nT (0,0)):=sub1 _ _ a1
  have q2:h b = some (.cells (cd.C u).toArray nT (0,0)):=sub2 _ _ a2
  have hne:=star_ne s
  have e:(a == b) = false:=by simpa using hne
  constructor
  rw [y6,cU]
  refine x25 _ _ q1 q2 ?_
  rw [e]
  exact ⟨false,rfl,k⟩
theorem is_step {b d:Nat} {t w:cd} {l:List As} {h:Hp} {K:Bool→Hp→Prop} {Rec:Value→Hp→Prop} (st:aF (trB b t::trB d w::l) h)
    (h1:t.fCode = w.fCode→∀ h',aF (trB b t::trB d w::l) h'→K true h') (h0:t.fCode ≠ w.fCode→t.fErr = .nilIface→∀ h',aF (trB b t::trB d w::l) h'→K false h')
    (h2:t.fCode ≠ w.fCode→∀ e,t.fErr = dz e→∀ h',aF (trB b t::trB d w::l) h'→Rec (dz e) h') (hok:t.fErr = .nilIface∨∃ e,t.fErr = dz e):sx (dz d) true K Rec (dz b) h:=by
  unfold sx
  refine dZ rfl (eq_traps st (dI rfl ?_))
  refine fE (dz b,true) (fun K h=>by kernel_rfl) (dZ rfl ?_)
  refine cln_en (f:=tn) (vs:=[pv (some (b,0)),dz d]) (fun K h=>by kernel_rfl) ?_
  refine cR [] (rest:=l) (sp_Trap_Is b d t w) st rfl fun r h' s2=>?_
  obtain ⟨rfl,s3⟩:=bu.1 s2
  by_cases e:t.fCode = w.fCode
  · exact dZ (by simpa using e) (h1 e _ s3)
  · refine dI (by simpa using e) ?_
    unfold sy
    refine fE (dz b,true) (fun K h=>by kernel_rfl) (dZ rfl ?_)
    refine cln_en (f:=nE) (vs:=[pv (some (b,0))]) (fun K h=>by kernel_rfl) ?_
    refine bR (i:=0) (sp_Unwrap b t) rfl s3 fun r h' hr s4=>?_
    subst hr
    rcases hok with hn | ⟨x,hx⟩
    · rw [hn]
      refine fE true (en_00 _) (dZ rfl (h0 e hn _ ?_))
      simpa using s4
    · rw [hx]
      refine fE false (en_0 x _) (dI rfl (h2 e x hx _ ?_))
      simpa using s4
theorem sp_is1 (b d:Nat) (t w:cd) (hc:t.fCode = w.fCode) (hok:t.fErr = .nilIface∨∃ e,t.fErr = dz e):Sp Tryz.prog oe [dz b,dz d,.bool true] aA [trB b t,trB d w] (fun r=>pa_ (r = true) [trB b t,trB d w]):=by
  intro h st
  refine sim_errors_is _ _ _ ?_
  unfold wX
  refine ⟨fun s h=>s = dz b∧aF [trB b t,trB d w] h,fun _ _=>0,⟨rfl,st⟩,?_⟩
  rintro _ h1 ⟨rfl,s1⟩
  exact is_step s1 (fun _ h' s2=>aZ rfl s2) (fun e=>absurd hc e) (fun e=>absurd hc e) hok
theorem sp_is2 (b e d:Nat) (t u w:cd) (ht:t.fErr = dz e) (hu:u.fErr = .nilIface) (hc:t.fCode ≠ w.fCode) (hd:u.fCode ≠ w.fCode) :
    Sp Tryz.prog oe [dz b,dz d,.bool true] aA [trB b t,trB e u,trB d w] (fun r=>pa_ (r = false) [trB b t,trB e u,trB d w]):=by
  intro h st
  refine sim_errors_is _ _ _ ?_
  unfold wX
  refine ⟨fun s h=>(s = dz b∨s = dz e)∧aF [trB b t,trB e u,trB d w] h,fun s _=>match s with | .iface _ (.pointer (some p))=>if p.block = b then 1 else 0 | _=>0,⟨.inl rfl,st⟩,?_⟩
  have hne:e ≠ b:=fun h=>(star_ne st) h.symm
  rintro _ h1 ⟨rfl | rfl,s1⟩
  · refine is_step (l:=[trB e u]) (bc [0,1] s1 rfl) (fun x=>absurd x hc) (fun _ x=>by rw [ht] at x; cases x) (fun _ x hx h' s2=>?_) (.inr ⟨e,ht⟩)
    rw [ht] at hx
    rw [← hx]
    exact ⟨⟨.inr rfl,bc [0,1] s2 rfl⟩,by show (if e = b then 1 else 0) < (if b = b then 1 else 0); rw [if_pos rfl,if_neg hne]; exact Nat.one_pos⟩
  · refine is_step (l:=[trB b t]) (bc [1,1] s1 rfl) (fun x=>absurd x hd) (fun _ _ h' s2=>aZ rfl (bc [2,0] s2 rfl)) (fun _ x hx=>by rw [hu] at hx; cases hx) (.inl hu)
theorem sp_Is1 (b d:Nat) (t w:cd) (hc:t.fCode = w.fCode) (hok:t.fErr = .nilIface∨∃ e,t.fErr = dz e):Sp Tryz.prog og [dz b,dz d] aA [trB b t,trB d w] (fun r=>pa_ (r = true) [trB b t,trB d w]):=by
  intro h st
  refine sim_errors_Is _ _ ?_
  unfold wY
  refine fE false (en_0 b _) (dZ rfl (fE false (en_0 d _) (dI rfl ?_)))
  refine tL (rtV bg) (fun K h=>x7 d K h) ?_
  refine tL true (fun K h=>x13 K h) ?_
  refine cR [] (rest:=[]) (sp_is1 b d t w hc hok) st rfl fun r h' s2=>?_
  obtain ⟨rfl,s3⟩:=bu.1 s2
  exact aZ rfl s3
theorem sp_Is2 (b e d:Nat) (t u w:cd) (ht:t.fErr = dz e) (hu:u.fErr = .nilIface) (hc:t.fCode ≠ w.fCode) (hd:u.fCode ≠ w.fCode) :
    Sp Tryz.prog og [dz b,dz d] aA [trB b t,trB e u,trB d w] (fun r=>pa_ (r = false) [trB b t,trB e u,trB d w]):=by
  intro h st
  refine sim_errors_Is _ _ ?_
  unfold wY
  refine fE false (en_0 b _) (dZ rfl (fE false (en_0 d _) (dI rfl ?_)))
  refine tL (rtV bg) (fun K h=>x7 d K h) ?_
  refine tL true (fun K h=>x13 K h) ?_
  refine cR [] (rest:=[]) (sp_is2 b e d t u w ht hu hc hd) st rfl fun r h' s2=>?_
  obtain ⟨rfl,s3⟩:=bu.1 s2
  exact aZ rfl s3
theorem uJ {α:Type} {A:α→As} {l:List As} {h:Hp} (s:aF (ex A::l) h):∃ x,aF (A x::l) h:=by
  obtain ⟨h1,h2,d,e,⟨x,a⟩,s2⟩:=s
  exact ⟨x,h1,h2,d,e,a,s2⟩
abbrev tr3:cd:=⟨3,-1,⟨0,0,0,0,0⟩,.nilIface⟩
abbrev tr4:cd:=⟨4,-1,⟨0,0,0,0,0⟩,.nilIface⟩
abbrev tr32 (e:Nat):cd:=⟨3,2,⟨1,2,0,0,0⟩,dz e⟩
theorem sp_begun1:Sp Tryz.prog lJ [] aA [(etB ET EF)] (fun r=>pa_ (r = true) [(etB ET EF)]):=by
  intro h st
  refine wP ?_
  unfold pM
  refine cR [] (rest:=[(etB ET EF)]) (sp_Of 3 (by decide)) st rfl fun r h1 s1=>?_
  obtain ⟨e,x1⟩:=uJ s1
  obtain ⟨rfl,y1⟩:=bu.1 x1
  refine cR [1,0] (rest:=[]) (sp_In 2 ⟨1,2,0,0,0⟩ e tr3) y1 rfl fun r h2 s2=>?_
  obtain ⟨b,x2⟩:=uJ s2
  obtain ⟨rfl,y2⟩:=bu.1 x2
  refine bR (i:=1) (sp_First b) rfl y2 fun r h3 hr s3=>?_
  subst hr
  refine fE false (en_0 b _) (dI rfl (dZ rfl (cE ?_)))
  refine bp 2 s3 (i:=0) rfl rfl rfl (dZ rfl ?_)
  refine ld_s ⟨1,2,0,0,0⟩ s3 (i:=0) rfl (fun j v hj=>?_) (dZ rfl ?_)
  · rcases j with _ | _ | _ | _ | _ | j <;> first | exact hj | (simp [ai.C] at hj)
  refine bp 3 s3 (i:=0) rfl rfl rfl (dZ rfl ?_)
  refine cR [1,0] (rest:=[_]) (sp_Code b (tr32 e)) s3 rfl fun r h4 s4=>?_
  obtain ⟨rfl,y4⟩:=bu.1 s4
  refine dZ rfl ?_
  refine cR [] (rest:=[]) (sp_Depth2 b e (tr32 e) tr3 rfl rfl) y4 rfl fun r h5 s5=>?_
  obtain ⟨rfl,y5⟩:=bu.1 s5
  refine dZ rfl ?_
  refine cR [] (rest:=[_,_,_]) (sp_Of 3 (by decide)) y5 rfl fun r h6 s6=>?_
  obtain ⟨d,x6⟩:=uJ s6
  obtain ⟨rfl,y6⟩:=bu.1 x6
  refine cR [2,0] (rest:=[_,_]) (sp_Is1 b d (tr32 e) tr3 rfl (.inr ⟨e,rfl⟩)) y6 rfl fun r h7 s7=>?_
  obtain ⟨rfl,y7⟩:=bu.1 s7
  refine dZ rfl ?_
  refine cR [] (rest:=[_,_,_,_]) (sp_Of 4 (by decide)) y7 rfl fun r h8 s8=>?_
  obtain ⟨f,x8⟩:=uJ s8
  obtain ⟨rfl,y8⟩:=bu.1 x8
  refine cR [1,3,0] (rest:=[_,_]) (sp_Is2 b e f (tr32 e) tr3 tr4 rfl rfl (show (3:Int) ≠ 4 by decide) (show (3:Int) ≠ 4 by decide)) y8 rfl fun r h9 s9=>?_
  obtain ⟨rfl,y9⟩:=bu.1 s9
  refine dZ rfl ?_
  refine cln_en (f:=jg) (vs:=[pv (some (b,0))]) (fun K h=>by kernel_rfl) ?_
  refine cR [] (rest:=[_,_,_]) (sp_Error2 b e (tr32 e) tr3 rfl rfl rfl rfl) y9 rfl fun r h10 s10=>?_
  obtain ⟨rfl,y10⟩:=bu.1 s10
  refine fE true (fun K h=>by kernel_rfl) (dZ rfl ?_)
  refine tV sp_Of0 y10 fun r h11 hr s11=>?_
  subst hr
  refine fE true (en_00 _) ?_
  exact aZ rfl (bZ (l:=[_,_,_,_]) s11)
end Go.Proofs.YtemoifebbhoinaaGreatDoor
namespace Go.Proofs.YtemoifebbhoinaaGreatDoor
open Go Mb
set_option linter.unusedVariables false
def sh_cell_New (a0:Int) (K:Ptr→Hp→Prop):Hp→Prop:=nw qL (oA.C (⟨a0,0⟩:oA)) fun b5=>K (some (b5,0))
theorem sim_cell_New (a0:Int) {K:Ptr→Hp→Prop} {h:Hp} (H:sh_cell_New a0 K h):Ct Tryz.prog tz #[(.int .u64 a0)] h fun v h'=>∃ r,v = pA r∧K r h':=aw [(.int .u64 a0)] Tryz.func209 c c c fun _=>M<|O c<|M<|J c<|p (bd c<|build_285_0 a0)<|aa<|io c c c H fun b5 _ H1=>O c<|ah<|D ⟨some (b5,0),c,H1⟩
def sh_cell_Cell_Up (a0:Ptr) (a1:Int) (K:(Int × Bool)→Hp→Prop):Hp→Prop:=br a0.isNone ( K (0,false)) ( nn a0 fun q9=>ld (q9.1,q9.2 + 1) (cI .i64) fun x11=>st (q9.1,q9.2 + 1) [.int .i64 (IntKind.i64.wrap (x11 + 1))]<|ld (q9.1,q9.2 + 0) (cI .u64) fun x18=>br (decide (x18 ≥ a1)) ( ld (q9.1,q9.2 + 0) (cI .u64) fun x24=>K (x24,false)) ( ld (q9.1,q9.2 + 0) (cI .u64) fun x28=>st (q9.1,q9.2 + 0) [.int .u64 (IntKind.u64.wrap (x28 + 1))]<|ld (q9.1,q9.2 + 0) (cI .u64) fun x35=>K (x35,true)))
theorem sim_cell_Cell_Up (a0:Ptr) (a1:Int) {K:(Int × Bool)→Hp→Prop} {h:Hp} (H:sh_cell_Cell_Up a0 a1 K h):Ct Tryz.prog pq #[(pv a0),(.int .u64 a1)] h fun v h'=>∃ r,v = bM r∧K r h':=aw [(pv a0),(.int .u64 a1)] Tryz.func211 c c c fun _=>M<|p (ar c)<|O c<|ak<|M<|J c<|p (cr Tryz.underlying266 c)<|ad<|av c H (fun k1 H2=>M<|p (ar c)<|O c<|ah<|bA (bV c (cf c)<|cf c) ⟨(0,false),c,H2⟩) fun k1 H2=>an<|M<|J c<|bI H2 fun q9 e3 H4=>p (aL<|aK c<|aq e3)<|p (ae sJ c)<|aa<|aW H4 aS c (fun _=>c) c fun x11 H5=>p (bn c c)<|p (aL<|aK c<|aq e3)<|p (ae sJ c)<|aa<|dh lP c c c c c H5 fun _ H6=>ad<|ak<|M<|J (aK c<|aq e3)<|p (aL c)<|p (ae ou c)<|aa<|aW H6 cy c (fun _=>c) c fun x18 H7=>J c<|p (ij c c)<|ad<|av c H7 (fun k8 H9=>M<|J (aK c<|aq e3)<|p (aL c)<|p (ae ou c)<|aa<|aW H9 cy c (fun _=>c) c fun x24 H10=>p (ar c)<|O c<|ah<|bA (bV c (cf c)<|cf c) ⟨(x24,false),c,H10⟩) fun k8 H9=>an<|M<|J (aK c<|aq e3)<|p (aL c)<|p (ae ou c)<|aa<|aW H9 cy c (fun _=>c) c fun x28 H11=>p (bn c c)<|p (aL c)<|p (ae ou c)<|aa<|dh inf_22 c c c c c H11 fun _ H12=>ad<|M<|J (aK c<|aq e3)<|p (aL c)<|p (ae ou c)<|aa<|aW H12 cy c (fun _=>c) c fun x35 H13=>p (ar c)<|O c<|ah<|bA (bV c (cf c)<|cf c) ⟨(x35,true),c,H13⟩
def uv (a0:Ptr) (K:Int→Hp→Prop):Hp→Prop:=br a0.isNone ( K 0) ( nn a0 fun q6=>ld (q6.1,q6.2 + 1) (cI .i64) fun x8=>st (q6.1,q6.2 + 1) [.int .i64 (IntKind.i64.wrap (x8 + 1))]<|ld (q6.1,q6.2 + 0) (cI .u64) fun x15=>K x15)
theorem sim_cell_Cell_Load (a0:Ptr) {K:Int→Hp→Prop} {h:Hp} (H:uv a0 K h):Ct Tryz.prog mv #[(pv a0)] h fun v h'=>∃ r,v = gU r∧K r h':=aw [(pv a0)] Tryz.func224 c c c fun _=>M<|O c<|ak<|M<|J c<|p (cr Tryz.underlying266 c)<|ad<|av c H (fun k1 H2=>M<|O c<|ah<|D ⟨0,c,H2⟩) fun k1 H2=>an<|M<|J c<|bI H2 fun q6 e3 H4=>p (aL<|aK c<|aq e3)<|p (ae sJ c)<|aa<|aW H4 aS c (fun _=>c) c fun x8 H5=>p (bn c c)<|p (aL<|aK c<|aq e3)<|p (ae sJ c)<|aa<|dh lP c c c c c H5 fun _ H6=>ad<|M<|J (aK c<|aq e3)<|p (aL c)<|p (ae ou c)<|aa<|aW H6 cy c (fun _=>c) c fun x15 H7=>O c<|ah<|D ⟨x15,c,H7⟩
def vS (a0:Ptr) (a1:Int) (a2:Int) (K:Bool→Hp→Prop):Hp→Prop:=br a0.isNone ( K false) ( nn a0 fun q10=>ld (q10.1,q10.2 + 1) (cI .i64) fun x12=>st (q10.1,q10.2 + 1) [.int .i64 (IntKind.i64.wrap (x12 + 1))]<|ld (q10.1,q10.2 + 0) (cI .u64) fun x19=>br (x19 != a1) ( K false) ( st (q10.1,q10.2 + 0) [.int .u64 a2]<|K true))
theorem sim_cell_Cell_Cas (a0:Ptr) (a1:Int) (a2:Int) {K:Bool→Hp→Prop} {h:Hp} (H:vS a0 a1 a2 K h):Ct Tryz.prog ry #[(pv a0),(.int .u64 a1),(.int .u64 a2)] h fun v h'=>∃ r,v = aA r∧K r h':=aw [(pv a0),(.int .u64 a1),(.int .u64 a2)] Tryz.func225 c c c fun _=>M<|O c<|ak<|M<|J c<|p (cr Tryz.underlying266 c)<|ad<|av c H (fun k1 H2=>M<|O c<|ah<|D ⟨false,c,H2⟩) fun k1 H2=>an<|M<|J c<|bI H2 fun q10 e3 H4=>p (aL<|aK c<|aq e3)<|p (ae sJ c)<|aa<|aW H4 aS c (fun _=>c) c fun x12 H5=>p (bn c c)<|p (aL<|aK c<|aq e3)<|p (ae sJ c)<|aa<|dh lP c c c c c H5 fun _ H6=>ad<|ak<|M<|J (aK c<|aq e3)<|p (aL c)<|p (ae ou c)<|aa<|aW H6 cy c (fun _=>c) c fun x19 H7=>J c<|p (qH c c)<|ad<|av c H7 (fun k8 H9=>M<|O c<|ah<|D ⟨false,c,H9⟩) fun k8 H9=>an<|M<|J (aK c<|aq e3)<|J c<|p (aL c)<|p (ae ou c)<|aa<|dh inf_22 c c c c c H9 fun _ H10=>ad<|M<|O c<|ah<|D ⟨true,c,H10⟩
end Go.Proofs.YtemoifebbhoinaaGreatDoor
namespace Go.Proofs.YtemoifebbhoinaaGreatDoor
open Go Mb
set_option linter.unusedVariables false
def sh_ticket_New (K:Ptr→Hp→Prop):Hp→Prop:=cl Tryz.prog tz [(.int .u64 0)] pA fun r1=>cl Tryz.prog tz [(.int .u64 0)] pA fun r2=>nw na (kN.C (⟨r1,r2⟩:kN)) fun b4=>K (some (b4,0))
theorem sim_ticket_New {K:Ptr→Hp→Prop} {h:Hp} (H:sh_ticket_New K h):Ct Tryz.prog xi #[] h fun v h'=>∃ r,v = tR r∧K r h':=aw [] Tryz.func210 c c c fun _=>M<|O c<|M<|aa<|F H en_209 fun r1 _ H1=>aa<|F H1 en_209 fun r2 _ H2=>p (bd c<|build_287_0_1 r1 r2)<|aa<|io c c c H2 fun b4 _ H3=>O c<|ah<|D ⟨some (b4,0),c,H3⟩
def rI (a0:Ptr) (K:Int→Hp→Prop):Hp→Prop:=br a0.isNone ( K 0) ( nn a0 fun q9=>ld (q9.1,q9.2 + 0) cP fun x11=>cl Tryz.prog pq [(pv x11),(.int .u64 18446744073709551615)] bM fun r12=>K (IntKind.u64.wrap (r12.1 - 1)))
theorem sim_ticket_Lock_Draw (a0:Ptr) {K:Int→Hp→Prop} {h:Hp} (H:rI a0 K h):Ct Tryz.prog nG #[(pv a0)] h fun v h'=>∃ r,v = gU r∧K r h':=aw [(pv a0)] Tryz.func212 c c c fun _=>M<|O c<|ak<|M<|J c<|p (cr Tryz.underlying268 c)<|ad<|av c H (fun k1 H2=>M<|O c<|ah<|D ⟨0,c,H2⟩) fun k1 H2=>an<|M<|J c<|bI H2 fun q9 e3 H4=>p (aL<|aK c<|aq e3)<|p (ae fld_287_0 c)<|aa<|aW H4 sc_266 c (fun _=>c) c fun x11 H5=>aa<|F H5 en_211 fun r12 _ H6=>J c<|p (aj c c)<|p (aj c c)<|p (ar c)<|O c<|M<|J c<|p (vp c c)<|O c<|ah<|D ⟨IntKind.u64.wrap (r12.1 - 1),c,H6⟩
def rG (a0:Ptr) (a1:Int) (K:Bool→Hp→Prop):Hp→Prop:=br (!a0.isNone) ( nn a0 fun q9=>ld (q9.1,q9.2 + 1) cP fun x11=>cl Tryz.prog mv [(pv x11)] gU fun r12=>br (r12 == a1) ( ld (q9.1,q9.2 + 0) cP fun x21=>cl Tryz.prog mv [(pv x21)] gU fun r22=>K (decide (a1 < r22))) ( K false)) ( K false)
theorem sim_ticket_Lock_Turn (a0:Ptr) (a1:Int) {K:Bool→Hp→Prop} {h:Hp} (H:rG a0 a1 K h):Ct Tryz.prog ko #[(pv a0),(.int .u64 a1)] h fun v h'=>∃ r,v = aA r∧K r h':=aw [(pv a0),(.int .u64 a1)] Tryz.func214 c c c fun _=>M<|O c<|M<|J c<|p (v_pneT Tryz.underlying268 c)<|J c<|V c c (ay _) (fun g1=>wv<|ag c)<|bT H (fun k3 H4=>bI H4 fun q9 e5 H6=>G (Y k3)<|z_p (aL<|aK (az c k3)<|aq e5)<|G (Y k3)<|z_p (ae fld_287_1 c)<|G (Y k3)<|aW H6 sc_266 c (fun _=>c) c fun x11 H7=>G (Y k3)<|F H7 en_224 fun r12 _ H8=>G (Y k3)<|z_p (ag c)<|G (Y k3)<|z_p (bH c c)<|p (aI c k3 c)<|J c<|V c c (ay _) (fun g9=>wv<|ag c)<|V c c (ay _) (fun g10=>wv<|ag<|aK c<|aq e5)<|V c c (ay _) (fun g11=>wv<|aL<|az c g11)<|V c c (ay _) (fun g12=>wv<|ae fld_287_0<|az c g12)<|bT H8 (fun k14 H15=>G (Y k14)<|aW H15 sc_266 (az c k14) (fun _=>c) c fun x21 H16=>G (Y k14)<|F H16 en_224 fun r22 _ H17=>G (Y k14)<|z_p (cq (az c k14) c)<|p (aI c k14 c)<|O c<|ah<|D ⟨decide (a1 < r22),c,H17⟩) fun k14 H15=>W (aJ k14)<|W (aJ k14)<|W (aJ k14)<|p (ao c k14 c)<|O c<|ah<|D ⟨false,c,H15⟩) fun k3 H4=>W (aJ k3)<|W (aJ k3)<|W (aJ k3)<|W (aJ k3)<|W (aJ k3)<|W (aJ k3)<|p (ao c k3 c)<|J c<|W c<|W c<|W c<|W c<|W c<|W c<|W c<|p (ao c c c)<|O c<|ah<|D ⟨false,c,H4⟩
def rH (a0:Ptr) (a1:Int) (K:Bool→Hp→Prop):Hp→Prop:=cl Tryz.prog ko [(pv a0),(.int .u64 a1)] aA fun r7=>br r7 ( nn a0 fun q10=>ld (q10.1,q10.2 + 1) cP fun x12=>cl Tryz.prog ry [(pv x12),(.int .u64 a1),(.int .u64 (IntKind.u64.wrap (a1 + 1)))] aA fun r16=>K r16) ( K false)
theorem sim_ticket_Lock_Pass (a0:Ptr) (a1:Int) {K:Bool→Hp→Prop} {h:Hp} (H:rH a0 a1 K h):Ct Tryz.prog nF #[(pv a0),(.int .u64 a1)] h fun v h'=>∃ r,v = aA r∧K r h':=aw [(pv a0),(.int .u64 a1)] Tryz.func215 c c c fun _=>M<|O c<|M<|J c<|J c<|aa<|F H en_214 fun r7 _ H1=>J c<|V c c (ay _) (fun g2=>wv<|ag c)<|bT H1 (fun k4 H5=>bI H5 fun q10 e6 H7=>G (Y k4)<|z_p (aL<|aK (az c k4)<|aq e6)<|G (Y k4)<|z_p (ae fld_287_1 c)<|G (Y k4)<|aW H7 sc_266 c (fun _=>c) c fun x12 H8=>G (Y k4)<|z_p (ag c)<|G (Y k4)<|z_p (ag c)<|G (Y k4)<|z_p (bn c c)<|G (Y k4)<|F H8 en_225 fun r16 _ H9=>p (aI c k4 c)<|O c<|ah<|D ⟨r16,c,H9⟩) fun k4 H5=>W (aJ k4)<|W (aJ k4)<|W (aJ k4)<|W (aJ k4)<|W (aJ k4)<|W (aJ k4)<|W (aJ k4)<|p (ao c k4 c)<|O c<|ah<|D ⟨false,c,H5⟩
end Go.Proofs.YtemoifebbhoinaaGreatDoor
namespace Go.Proofs.YtemoifebbhoinaaGreatDoor
open Go Mb
def kY (x:Ptr) (c:Int × Int):As:=fun h=>∃ b:Nat,(x = some (b,0))∧aF [blk b qL [.int .u64 c.1,.int .i64 c.2]] h
theorem cell_op {x:Ptr} {c:Int × Int} {l:List As} {h:Hp} (s0:aF (kY x c::l) h):∃ b,x = some (b,0)∧aF (blk b qL [.int .u64 c.1,.int .i64 c.2]::l) h:=by
  obtain ⟨b,hx,st⟩:=op_ s0
  exact ⟨b,hx,st⟩
theorem cell_cl {b:Nat} {v n:Int} {l:List As} {h:Hp} (st:aF (blk b qL [.int .u64 v,.int .i64 n]::l) h):aF (kY (some (b,0)) (v,n)::l) h:=cl_ (m:=fun b=>[blk b qL [.int .u64 (v,n).1,.int .i64 (v,n).2]]) b rfl st
namespace Cell
def tick (c:Int × Int):Int × Int:=(c.1,IntKind.i64.wrap (c.2 + 1))
def cas (c:Int × Int) (o v:Int):Bool × Int × Int:=if c.1 = o then (true,v,(tick c).2) else (false,tick c)
def up (c:Int × Int) (m:Int):(Int × Bool) × Int × Int:=if c.1 ≥ m then ((c.1,false),tick c) else ((IntKind.u64.wrap (c.1 + 1),true),(IntKind.u64.wrap (c.1 + 1),(tick c).2))
end Cell
theorem sp_cell_New (v:Int):Sp Tryz.prog tz [.int .u64 v] pA [] (fun r=>aF [kY r (v,0)]):=by
  intro h st
  refine sim_cell_New _ ?_
  unfold sh_cell_New
  exact pD st fun b h' s1=>cell_cl s1
theorem sp_cell_Load (x:Ptr) (c:Int × Int):Sp Tryz.prog mv [pv x] gU [kY x c] (fun r=>pa_ (r = c.1) [kY x (Cell.tick c)]):=by
  intro h s0
  obtain ⟨b,rfl,st⟩:=cell_op s0
  refine sim_cell_Cell_Load _ ?_
  unfold uv
  refine dI rfl (cE ?_)
  refine bp c.2 st (i:=0) rfl rfl rfl ?_
  refine tT (i:=0) st rfl (Nat.le_refl _) fun h2 s2=>?_
  refine bp c.1 s2 (i:=0) rfl rfl rfl ?_
  exact aZ rfl (cell_cl s2)
theorem sp_cell_Cas (x:Ptr) (c:Int × Int) (o v:Int):Sp Tryz.prog ry [pv x,.int .u64 o,.int .u64 v] aA [kY x c] (fun r=>pa_ (r = (Cell.cas c o v).1) [kY x (Cell.cas c o v).2]):=by
  intro h s0
  obtain ⟨b,rfl,st⟩:=cell_op s0
  refine sim_cell_Cell_Cas _ _ _ ?_
  unfold vS
  refine dI rfl (cE ?_)
  refine bp c.2 st (i:=0) rfl rfl rfl ?_
  refine tT (i:=0) st rfl (Nat.le_refl _) fun h2 s2=>?_
  refine bp c.1 s2 (i:=0) rfl rfl rfl ?_
  refine aY (fun k=>?_) (fun k=>?_)
  · have k':¬ c.1 = o:=by simpa using k
    have e:Cell.cas c o v = (false,Cell.tick c):=if_neg k'
    rw [e]
    exact aZ rfl (cell_cl s2)
  · have k':c.1 = o:=by simpa using k
    have e:Cell.cas c o v = (true,v,(Cell.tick c).2):=if_pos k'
    rw [e]
    refine tT (i:=0) s2 rfl (show 0 + 0 + 1 ≤ 2 by decide) fun h3 s3=>?_
    exact aZ rfl (cell_cl s3)
theorem sp_cell_Up (x:Ptr) (c:Int × Int) (m:Int):Sp Tryz.prog pq [pv x,.int .u64 m] bM [kY x c] (fun r=>pa_ (r = (Cell.up c m).1) [kY x (Cell.up c m).2]):=by
  intro h s0
  obtain ⟨b,rfl,st⟩:=cell_op s0
  refine sim_cell_Cell_Up _ _ ?_
  unfold sh_cell_Cell_Up
  refine dI rfl (cE ?_)
  refine bp c.2 st (i:=0) rfl rfl rfl ?_
  refine tT (i:=0) st rfl (Nat.le_refl _) fun h2 s2=>?_
  refine bp c.1 s2 (i:=0) rfl rfl rfl ?_
  refine aY (fun k=>?_) (fun k=>?_)
  · have k':c.1 ≥ m:=by simpa using k
    have e:Cell.up c m = ((c.1,false),Cell.tick c):=if_pos k'
    rw [e]
    refine bp c.1 s2 (i:=0) rfl rfl rfl ?_
    exact aZ rfl (cell_cl s2)
  · have k':¬ c.1 ≥ m:=by simpa using k
    have e:Cell.up c m = ((IntKind.u64.wrap (c.1 + 1),true),(IntKind.u64.wrap (c.1 + 1),(Cell.tick c).2)):=if_neg k'
    rw [e]
    refine bp c.1 s2 (i:=0) rfl rfl rfl ?_
    refine tT (i:=0) s2 rfl (show 0 + 0 + 1 ≤ 2 by decide) fun h3 s3=>?_
    refine bp (IntKind.u64.wrap (c.1 + 1)) s3 (i:=0) rfl rfl rfl ?_
    exact aZ rfl (cell_cl s3)
def vg (x:Ptr) (k:(Int × Int) × (Int × Int)):As:=fun h=>∃ bs:Nat × Ptr × Ptr,(x = some (bs.1,0))∧aF [blk bs.1 na [pv bs.2.1,pv bs.2.2],kY bs.2.1 k.1,kY bs.2.2 k.2] h
theorem lock_op {x:Ptr} {k:(Int × Int) × (Int × Int)} {l:List As} {h:Hp} (s0:aF (vg x k::l) h):∃ b p q,x = some (b,0)∧aF (blk b na [pv p,pv q]::kY p k.1::kY q k.2::l) h:=by
  obtain ⟨⟨b,p,q⟩,hx,st⟩:=op_ s0
  exact ⟨b,p,q,hx,st⟩
theorem lock_cl {b:Nat} {p q:Ptr} {k1 k2:Int × Int} {l:List As} {h:Hp} (st:aF (blk b na [pv p,pv q]::kY p k1::kY q k2::l) h):aF (vg (some (b,0)) (k1,k2)::l) h :=
  cl_ (m:=fun bs:Nat × Ptr × Ptr=>[blk bs.1 na [pv bs.2.1,pv bs.2.2],kY bs.2.1 (k1,k2).1,kY bs.2.2 (k1,k2).2]) (b,p,q) rfl st
namespace Lock
abbrev S:=(Int × Int) × (Int × Int)
def draw (k:S):Int × S:=(IntKind.u64.wrap ((Cell.up k.1 18446744073709551615).1.1 - 1),((Cell.up k.1 18446744073709551615).2,k.2))
def turn (k:S) (t:Int):Bool × S:=if k.2.1 = t then (decide (t < k.1.1),(Cell.tick k.1,Cell.tick k.2)) else (false,(k.1,Cell.tick k.2))
def pass (k:S) (t:Int):Bool × S:=if (turn k t).1 then ((Cell.cas (turn k t).2.2 t (IntKind.u64.wrap (t + 1))).1,((turn k t).2.1,(Cell.cas (turn k t).2.2 t (IntKind.u64.wrap (t + 1))).2)) else (false,(turn k t).2)
end Lock
theorem sp_ticket_New:Sp Tryz.prog xi [] tR [] (fun r=>aF [vg r ((0,0),(0,0))]):=by
  intro h st
  refine sim_ticket_New ?_
  unfold sh_ticket_New
  refine cR [] (sp_cell_New 0) st rfl fun p h1 s1=>?_
  refine cR [] (sp_cell_New 0) (dE s1) rfl fun q h2 s2=>?_
  refine pD (dE s2) fun b h3 s3=>?_
  exact lock_cl (bc [0,1] s3 rfl)
theorem sp_ticket_Draw (x:Ptr) (k:Lock.S):Sp Tryz.prog nG [pv x] gU [vg x k] (fun r=>pa_ (r = (Lock.draw k).1) [vg x (Lock.draw k).2]):=by
  intro h s0
  obtain ⟨b,p,q,rfl,st⟩:=lock_op s0
  refine sim_ticket_Lock_Draw _ ?_
  unfold rI
  refine dI rfl (cE ?_)
  refine bp p st (i:=0) rfl rfl rfl ?_
  refine cR [1] (sp_cell_Up p k.1 _) st rfl fun r h1 s1=>?_
  obtain ⟨hr,s2⟩:=bu.1 s1
  subst hr
  exact aZ rfl (lock_cl (bc [1] s2 rfl))
theorem sp_ticket_Turn (x:Ptr) (k:Lock.S) (t:Int):Sp Tryz.prog ko [pv x,.int .u64 t] aA [vg x k] (fun r=>pa_ (r = (Lock.turn k t).1) [vg x (Lock.turn k t).2]):=by
  intro h s0
  obtain ⟨b,p,q,rfl,st⟩:=lock_op s0
  refine sim_ticket_Lock_Turn _ _ ?_
  unfold rG
  refine dZ rfl (cE ?_)
  refine bp q st (i:=0) rfl rfl rfl ?_
  refine cR [2] (sp_cell_Load q k.2) st rfl fun r h1 s1=>?_
  obtain ⟨hr,s2⟩:=bu.1 s1
  subst hr
  refine aY (fun c=>?_) (fun c=>?_)
  · have c':k.2.1 = t:=by simpa using c
    have e:Lock.turn k t = (decide (t < k.1.1),(Cell.tick k.1,Cell.tick k.2)):=if_pos c'
    rw [e]
    refine bp p s2 (i:=1) rfl rfl rfl ?_
    refine cR [2] (sp_cell_Load p k.1) s2 rfl fun r h2 s3=>?_
    obtain ⟨hr,s4⟩:=bu.1 s3
    subst hr
    exact aZ rfl (lock_cl (bc [2] s4 rfl))
  · have c':¬ k.2.1 = t:=by simpa using c
    have e:Lock.turn k t = (false,(k.1,Cell.tick k.2)):=if_neg c'
    rw [e]
    exact aZ rfl (lock_cl (bc [1,1] s2 rfl))
theorem sp_ticket_Pass (x:Ptr) (k:Lock.S) (t:Int):Sp Tryz.prog nF [pv x,.int .u64 t] aA [vg x k] (fun r=>pa_ (r = (Lock.pass k t).1) [vg x (Lock.pass k t).2]):=by
  intro h s0
  refine sim_ticket_Lock_Pass _ _ ?_
  unfold rH
  refine cR [0] (sp_ticket_Turn x k t) s0 rfl fun r h1 s1=>?_
  obtain ⟨hr,s2⟩:=bu.1 s1
  subst hr
  refine aY (fun c=>?_) (fun c=>?_)
  · have e:Lock.pass k t = ((Cell.cas (Lock.turn k t).2.2 t (IntKind.u64.wrap (t + 1))).1,((Lock.turn k t).2.1,(Cell.cas (Lock.turn k t).2.2 t (IntKind.u64.wrap (t + 1))).2)):=if_pos c
    rw [e]
    obtain ⟨b,p,q,rfl,st⟩:=lock_op s2
    refine cE (bp q st (i:=0) rfl rfl rfl ?_)
    refine cR [2] (sp_cell_Cas q _ t _) st rfl fun r h2 s3=>?_
    obtain ⟨hr,s4⟩:=bu.1 s3
    subst hr
    exact aZ rfl (lock_cl (bc [1,1] s4 rfl))
  · have e:Lock.pass k t = (false,(Lock.turn k t).2):=by unfold Lock.pass; rw [c]; rfl
    rw [e]
    exact aZ rfl s2
end Go.Proofs.YtemoifebbhoinaaGreatDoor
namespace Go.Proofs.YtemoifebbhoinaaGreatDoor
open Go Mb
set_option linter.unusedVariables false
def pK (K:Bool→Hp→Prop):Hp→Prop:=cl Tryz.prog wa [(.int .i64 2)] tS fun r24=>cl Tryz.prog lD [] iH fun r25=>cl Tryz.prog iS [] gN fun r26=>cl Tryz.prog tv [(.int .i64 3)] pz fun r27=>cl Tryz.prog tz [(.int .u64 5)] pA fun r28=>cl Tryz.prog xi [] tR fun r29=>cl Tryz.prog xj [(.int .i64 2)] sC fun r30=>br ((((((r24.isNone || r25.isNone) || r26.isNone) || r27.isNone) || r28.isNone) || r29.isNone) || r30.isNone) ( K false) ( cl Tryz.prog eD [(pv r25),(.int .i64 1),(.agg (al.C (⟨1,2,3⟩:al)).toArray)] bi fun r59=>cl Tryz.prog oZ [(pv r26),(.agg (am.C (⟨1,5,1,1⟩:am)).toArray)] aA fun r67=>cl Tryz.prog oY [(pv r26),(.int .i64 1),(.int .i64 5)] fO fun r70=>cl Tryz.prog nv [(pv r27),(.int .i64 0),(.int .u64 4)] eJ fun r74=>cl Tryz.prog mj [(pv r27),(.int .i64 2)] bM fun r77=>cl Tryz.prog pq [(pv r28),(.int .u64 9)] bM fun r82=>cl Tryz.prog nG [(pv r29)] gU fun r86=>cl Tryz.prog jH [(pv r30)] bQ fun r89=>cl Tryz.prog lK [] aA fun r97=>br (((((((((((r97 && (r59 == 0)) && (fW (⟨1,2,3⟩:al)).2) && (((fW (⟨1,2,3⟩:al)).1) == 33059)) && r67) && r70.2) && (r70.1.fFrame == 1)) && (r74 == 2)) && (r77.1 == 4)) && r77.2) && (r82.1 == 6)) && (r86 == 0)) ( cl Tryz.prog ko [(pv r29),(.int .u64 0)] aA fun r141=>br r141 ( cl Tryz.prog nF [(pv r29),(.int .u64 0)] aA fun r145=>br ((r145 && (r89.1 == 0)) && r89.2) ( cl Tryz.prog fL [(pv r24),(.int .i64 1),(.int .i64 3),(.int .u64 9)] aA fun r156=>br ((r156 && (aE (⟨6,0,0,0,0⟩:ai)).2) && (((aE (⟨6,0,0,0,0⟩:ai)).1) == 6)) ( cl Tryz.prog gY [(.agg (ai.C (⟨6,8,0,1,0⟩:ai)).toArray),(.int .i64 2)] bi fun r167=>br (r167 == 2) ( cl Tryz.prog n_word_Args [(.int .i64 3)] eJ fun r171=>br ((r171 == 4) && (aV 1 3)) ( cl Tryz.prog mf [(pv r25),(.int .i64 2)] cG fun r179=>br ((r179.len:Int) == 1) ( cl Tryz.prog qj [(pv r30)] gU fun r185=>K (r185 == 2)) ( K false)) ( K false)) ( K false)) ( K false)) ( K false)) ( K false)) ( K false))
theorem wN {K:Bool→Hp→Prop} {h:Hp} (H:pK K h):Ct Tryz.prog lH #[] h fun v h'=>∃ r,v = aA r∧K r h':=aw [] Tryz.func187 c c c fun _=>M<|O c<|M<|aa<|F H en_104 fun r24 _ H1=>aa<|F H1 en_107 fun r25 _ H2=>aa<|F H2 en_59 fun r26 _ H3=>aa<|F H3 en_57 fun r27 _ H4=>p (ar c)<|p (ar c)<|p (ar c)<|O c<|M<|aa<|F H4 en_209 fun r28 _ H5=>aa<|F H5 en_210 fun r29 _ H6=>aa<|F H6 en_105 fun r30 _ H7=>p (ar c)<|p (ar c)<|O c<|ak<|M<|J c<|p (cr Tryz.underlying152 c)<|J c<|V c c (aG _) (fun g8=>wv<|ag c)<|V c c (aG _) (fun g9=>wv<|cr Tryz.underlying161<|az c g9)<|p (cZ c c)<|J c<|V c c (aG _) (fun g10=>wv<|ag c)<|V c c (aG _) (fun g11=>wv<|cr Tryz.underlying114<|az c g11)<|p (cZ c c)<|J c<|V c c (aG _) (fun g12=>wv<|ag c)<|V c c (aG _) (fun g13=>wv<|cr Tryz.underlying105<|az c g13)<|p (cZ c c)<|J c<|V c c (aG _) (fun g14=>wv<|ag c)<|V c c (aG _) (fun g15=>wv<|cr Tryz.underlying266<|az c g15)<|p (cZ c c)<|J c<|V c c (aG _) (fun g16=>wv<|ag c)<|V c c (aG _) (fun g17=>wv<|cr Tryz.underlying268<|az c g17)<|p (cZ c c)<|J c<|V c c (aG _) (fun g18=>wv<|ag c)<|V c c (aG _) (fun g19=>wv<|cr Tryz.underlying154<|az c g19)<|p (cZ c c)<|ad<|av c H7 (fun k20 H21=>M<|O c<|ah<|D ⟨false,c,H21⟩) fun k20 H21=>an<|M<|J c<|p (bd c<|px 1 2 3)<|aa<|F H21 en_112 fun r59 _ H22=>O c<|M<|p (bd c<|px 1 2 3)<|aa<|cK (vs:=[(.agg (al.C (⟨1,2,3⟩:al)).toArray)]) (bv<|ct_pte_Put (⟨1,2,3⟩:al) _) en_155 c c<|J c<|p (aj c c)<|p (aj c c)<|p (ar c)<|O c<|M<|J c<|p (bd c<|wq 1 5 1 1)<|aa<|F H22 en_159 fun r67 _ H23=>O c<|M<|J c<|aa<|F H23 en_157 fun r70 _ H24=>J c<|p (aj c c)<|p (aj c c)<|aa<|aP (l:=am.C (⟨0,0,0,0⟩:am)) lc c c fun b12=>aa<|aR (k:=0) (vs:=am.C r70.1) fD c c c c c c c<|O c<|M<|J c<|aa<|F H24 en_70 fun r74 _ H25=>O c<|M<|J c<|aa<|F H25 en_97 fun r77 _ H26=>J c<|p (aj c c)<|p (aj c c)<|p (ar c)<|O c<|M<|J c<|aa<|F H26 en_211 fun r82 _ H27=>J c<|p (aj c c)<|p (aj c c)<|p (ar c)<|O c<|M<|J c<|aa<|F H27 en_212 fun r86 _ H28=>O c<|M<|J c<|aa<|F H28 en_171 fun r89 _ H29=>J c<|p (aj c c)<|p (aj c c)<|p (ar c)<|O c<|M<|p (bd c<|build_34_0 6)<|aa<|cK (vs:=[(.agg (ai.C (⟨6,0,0,0,0⟩:ai)).toArray)]) (bv<|kx (⟨6,0,0,0,0⟩:ai) _) en_63 c c<|J c<|p (aj c c)<|p (aj c c)<|p (ar c)<|O c<|M<|aa<|F H29 en_213 fun r97 _ H30=>J c<|V c c (ay _) (fun g31=>wv<|ag c)<|V c c (ay _) (fun g32=>wv<|bH (az c g32) c)<|p (bO c c)<|J c<|V c c (ay _) (fun g33=>wv<|ag c)<|p (bO c c)<|J c<|V c c (ay _) (fun g34=>wv<|ag c)<|V c c (ay _) (fun g35=>wv<|bH (az c g35) c)<|p (bO c c)<|J c<|V c c (ay _) (fun g36=>wv<|ag c)<|p (bO c c)<|J c<|V c c (ay _) (fun g37=>wv<|ag c)<|p (bO c c)<|J c<|V c c (ay _) (fun g38=>wv<|ae lR c)<|V c c (ay _) (fun g39=>cv<|ba (k:=0) aS (az c g39) c c)<|V c c (ay _) (fun g40=>wv<|bH (az c g40) c)<|p (bO c c)<|J c<|V c c (ay _) (fun g41=>wv<|ag c)<|V c c (ay _) (fun g42=>wv<|bH (az c g42) c)<|p (bO c c)<|J c<|V c c (ay _) (fun g43=>wv<|ag c)<|V c c (ay _) (fun g44=>wv<|bH (az c g44) c)<|p (bO c c)<|J c<|V c c (ay _) (fun g45=>wv<|ag c)<|p (bO c c)<|J c<|V c c (ay _) (fun g46=>wv<|ag c)<|V c c (ay _) (fun g47=>wv<|bH (az c g47) c)<|p (bO c c)<|J c<|V c c (ay _) (fun g48=>wv<|ag c)<|V c c (ay _) (fun g49=>wv<|bH (az c g49) c)<|p (bO c c)<|J c<|V c c (ay _) (fun g50=>wv<|ag c)<|bT H30 (fun k52 H53=>G (Y k52)<|gm H53 en_214 (aT (az c k52)<|aT c bW) c fun r141 _ H54=>p (aI c k52 c)<|J c<|V c c (ay _) (fun g55=>wv<|ag c)<|bT H54 (fun k57 H58=>G (Y k57)<|gm H58 en_215 (aT (az c k57)<|aT c bW) c fun r145 _ H59=>p (aI c k57 c)<|J c<|V c c (ay _) (fun g60=>wv<|ag c)<|V c c (ay _) (fun g61=>wv<|bH (az c g61) c)<|p (bO c c)<|J c<|V c c (ay _) (fun g62=>wv<|ag c)<|p (bO c c)<|J c<|V c c (ay _) (fun g63=>wv<|ag c)<|bT H59 (fun k65 H66=>G (Y k65)<|gm H66 en_162 (aT (az c k65)<|aT c<|aT c<|aT c bW) c fun r156 _ H67=>p (aI c k65 c)<|J c<|V c c (ay _) (fun g68=>wv<|ag c)<|p (bO c c)<|J c<|V c c (ay _) (fun g69=>wv<|ag c)<|V c c (ay _) (fun g70=>wv<|bH (az c g70) c)<|p (bO c c)<|J c<|V c c (ay _) (fun g71=>wv<|bd c<|jU 6 8 0 1)<|bT H67 (fun k73 H74=>G (Y k73)<|gm H74 en_110 (aT (az c k73)<|aT c bW) c fun r167 _ H75=>G (Y k73)<|z_p (bH c c)<|p (aI c k73 c)<|J c<|bT H75 (fun k77 H78=>G (Y k77)<|F H78 en_216 fun r171 _ H79=>G (Y k77)<|z_p (bH c c)<|p (aI c k77 c)<|J c<|dc (vs:=[(.int .i64 1),(.int .i64 3)]) c c c (ay _) (fun g80=>bv<|df 1 3 _) mT (fun g80=>c) c<|p (bO c c)<|J c<|V c c (ay _) (fun g81=>wv<|ag c)<|bT H79 (fun k83 H84=>G (Y k83)<|gm H84 en_176 (aT (az c k83)<|aT c bW) c fun r179 _ H85=>G (Y k83)<|z_p (dl c Tryz.underlying39 c)<|G (Y k83)<|z_p (bH c c)<|p (aI c k83 c)<|J c<|V c c (ay _) (fun g86=>wv<|ag c)<|bT H85 (fun k88 H89=>G (Y k88)<|gm H89 en_217 (aT (az c k88) bW) c fun r185 _ H90=>G (Y k88)<|z_p (bH c c)<|p (aI c k88 c)<|O c<|ah<|D ⟨(r185 == 2),c,H90⟩) fun k88 H89=>W (aJ k88)<|W (aJ k88)<|p (ao c k88 c)<|O c<|ah<|D ⟨false,c,H89⟩) fun k83 H84=>W (aJ k83)<|W (aJ k83)<|W (aJ k83)<|p (ao c k83 c)<|J c<|W c<|W c<|W c<|p (ao c c c)<|O c<|ah<|D ⟨false,c,H84⟩) fun k77 H78=>W (aJ k77)<|W (aJ k77)<|p (ao c k77 c)<|J c<|W c<|p (ao c c c)<|J c<|W c<|W c<|W c<|W c<|p (ao c c c)<|J c<|W c<|W c<|W c<|p (ao c c c)<|O c<|ah<|D ⟨false,c,H78⟩) fun k73 H74=>W (aJ k73)<|W (aJ k73)<|p (ao c k73 c)<|J c<|W c<|W c<|p (ao c c c)<|J c<|W c<|p (ao c c c)<|J c<|W c<|W c<|W c<|W c<|p (ao c c c)<|J c<|W c<|W c<|W c<|p (ao c c c)<|O c<|ah<|D ⟨false,c,H74⟩) fun k65 H66=>W (aJ k65)<|p (ao c k65 c)<|J c<|W c<|p (ao c c c)<|J c<|W c<|W c<|p (ao c c c)<|J c<|W c<|W c<|W c<|p (ao c c c)<|J c<|W c<|W c<|p (ao c c c)<|J c<|W c<|p (ao c c c)<|J c<|W c<|W c<|W c<|W c<|p (ao c c c)<|J c<|W c<|W c<|W c<|p (ao c c c)<|O c<|ah<|D ⟨false,c,H66⟩) fun k57 H58=>W (aJ k57)<|p (ao c k57 c)<|J c<|W c<|W c<|p (ao c c c)<|J c<|W c<|p (ao c c c)<|J c<|W c<|W c<|p (ao c c c)<|J c<|W c<|p (ao c c c)<|J c<|W c<|W c<|p (ao c c c)<|J c<|W c<|W c<|W c<|p (ao c c c)<|J c<|W c<|W c<|p (ao c c c)<|J c<|W c<|p (ao c c c)<|J c<|W c<|W c<|W c<|W c<|p (ao c c c)<|J c<|W c<|W c<|W c<|p (ao c c c)<|O c<|ah<|D ⟨false,c,H58⟩) fun k52 H53=>W (aJ k52)<|p (ao c k52 c)<|J c<|W c<|W c<|p (ao c c c)<|J c<|W c<|W c<|p (ao c c c)<|J c<|W c<|p (ao c c c)<|J c<|W c<|W c<|p (ao c c c)<|J c<|W c<|p (ao c c c)<|J c<|W c<|W c<|p (ao c c c)<|J c<|W c<|W c<|W c<|p (ao c c c)<|J c<|W c<|W c<|p (ao c c c)<|J c<|W c<|p (ao c c c)<|J c<|W c<|W c<|W c<|W c<|p (ao c c c)<|J c<|W c<|W c<|W c<|p (ao c c c)<|O c<|ah<|D ⟨false,c,H53⟩
def pL (K:Bool→Hp→Prop):Hp→Prop:=cl Tryz.prog lH [] aA fun r1=>K r1
theorem wO {K:Bool→Hp→Prop} {h:Hp} (H:pL K h):Ct Tryz.prog lI #[] h fun v h'=>∃ r,v = aA r∧K r h':=aw [] Tryz.func146 c c c fun _=>M<|O c<|M<|aa<|F H en_187 fun r1 _ H1=>O c<|ah<|D ⟨r1,c,H1⟩
end Go.Proofs.YtemoifebbhoinaaGreatDoor
namespace Go.Proofs.YtemoifebbhoinaaGreatDoor
open Go Mb
variable {ET:Nat} {EF:Nat × Nat}
section
variable {l:List As} {h:Hp} {x:Ptr}
theorem mem_nn {fs:List (List Int)} (s:aF (iD x fs::l) h):x.isNone = false:=by obtain ⟨b,_,_,rfl,_⟩:=mem_op s; rfl
theorem nn_of {α:Type} {φ:α→Prop} {m:α→List As} (hx:∀ z,φ z→x.isNone = false) (s:aF ((fun h=>∃ z,φ z∧aF (m z) h)::l) h):x.isNone = false:=by
  obtain ⟨z,f,_⟩:=op_ s
  exact hx z f
theorem table_nn {ps:List Pte} (s:aF (cY x ps::l) h):x.isNone = false:=nn_of (fun _ e=>by rw [e.1]; rfl) s
theorem tlb_nn {t:List TL × Int} (s:aF (fx x t::l) h):x.isNone = false:=nn_of (fun _ e=>by rw [e.1]; rfl) s
theorem mail_nn {bs:List (List Int)} (s:aF (jx x bs::l) h):x.isNone = false:=nn_of (fun _ e=>by rw [e.1]; rfl) s
theorem cell_nn {c:Int × Int} (s:aF (kY x c::l) h):x.isNone = false:=nn_of (fun _ e=>by rw [e]; rfl) s
theorem lock_nn {k:(Int × Int) × (Int × Int)} (s:aF (vg x k::l) h):x.isNone = false:=nn_of (fun _ e=>by rw [e]; rfl) s
theorem pool_nn {p:List Int} (s:aF (gc x p::l) h):x.isNone = false:=nn_of (fun _ e=>by rw [e.1]; rfl) s
end
theorem sp_Begun1:Sp Tryz.prog lK [] aA [(etB ET EF)] (fun r=>pa_ (r = true) [(etB ET EF)]):=by
  intro h st
  refine wQ ?_
  unfold pN
  exact bR (i:=0) sp_begun1 rfl st fun r h' hr s=>aZ hr s
theorem sp_begun2:Sp Tryz.prog lH [] aA [(etB ET EF)] (fun r=>pa_ (r = true) [(etB ET EF)]):=by
  intro h st
  refine wN ?_
  unfold pK
  refine mC (sp_mem_New 2 (by decide) (by decide)) st fun a1 h1 s1=>?_
  refine mC oG s1 fun a2 h2 s2=>?_
  refine mC wB s2 fun a3 h3 s3=>?_
  refine mC (sp_mail_New 3 (by decide) (by decide)) s3 fun a4 h4 s4=>?_
  refine mC (sp_cell_New 5) s4 fun a5 h5 s5=>?_
  refine mC sp_ticket_New s5 fun a6 h6 s6=>?_
  refine mC (sp_pool_New 2 (by decide) (by decide)) s6 fun a7 h7 s7=>?_
  have n1:=mem_nn s1
  have n2:=table_nn s2
  have n3:=tlb_nn s3
  have n4:=mail_nn s4
  have n5:=cell_nn s5
  have n6:=lock_nn s6
  have n7:=pool_nn s7
  rw [n1,n2,n3,n4,n5,n6,n7]
  refine dI rfl ?_
  refine bR (i:=5) (kB a2 _ 1 ⟨1,2,3⟩) rfl s7 fun r1 h8 e1 s8=>?_
  refine bR (i:=4) (sp_tlb_Fill a3 _ ⟨1,5,1,1⟩) rfl s8 fun r2 h9 e2 s9=>?_
  refine bR (i:=4) (sp_tlb_Find a3 _ 1 5) rfl s9 fun r3 h10 e3 s10=>?_
  refine bR (i:=3) (sp_mail_All a4 _ 0 4 (fun l hl=>?_)) rfl s10 fun r4 h11 e4 s11=>?_
  · have:l = []:=by simpa using hl
    subst this
    exact ⟨fun _ h=>(by cases h),.nil,by decide⟩
  refine bR (i:=3) (sp_mail_Take a4 _ 2) rfl s11 fun r5 h12 e5 s12=>?_
  refine bR (i:=2) (sp_cell_Up a5 _ 9) rfl s12 fun r6 h13 e6 s13=>?_
  refine bR (i:=1) (sp_ticket_Draw a6 _) rfl s13 fun r7 h14 e7 s14=>?_
  refine bR (i:=0) (wD a7 _) rfl s14 fun r8 h15 e8 s15=>?_
  refine bR (i:=7) sp_Begun1 rfl s15 fun r9 h16 e9 s16=>?_
  subst e1 e2 e3 e4 e5 e6 e7 e8 e9
  refine dZ (by kernel_rfl) ?_
  refine bR (i:=1) (sp_ticket_Turn a6 _ 0) rfl s16 fun r10 h17 e10 s17=>?_
  subst e10
  refine dZ (by kernel_rfl) ?_
  refine bR (i:=1) (sp_ticket_Pass a6 _ 0) rfl s17 fun r11 h18 e11 s18=>?_
  subst e11
  refine dZ (by kernel_rfl) ?_
  refine bR (i:=6) (lZ a1 _ 1 3 9) rfl s18 fun r12 h19 e12 s19=>?_
  subst e12
  refine dZ (by kernel_rfl) ?_
  refine tV (ju ⟨6,8,0,1,0⟩ 2) s19 fun r13 h20 e13 s20=>?_
  subst e13
  refine dZ (by kernel_rfl) ?_
  refine tV (sp_word_Args 3) s20 fun r14 h21 e14 s21=>?_
  subst e14
  refine dZ (by kernel_rfl) ?_
  refine xH (i:=5) (sp_table_By a2 _ 2) rfl s21 fun r15 h22 s22=>?_
  have e15:((r15.len:Int) == 1) = true:=by
    rw [(ce (j:=0) s22 rfl).1]
    kernel_rfl
  refine dZ e15 ?_
  refine bR (i:=1) (sp_pool_Bits a7 _) rfl s22 fun r16 h23 e16 s23=>?_
  subst e16
  refine aZ (by kernel_rfl) (bZ (l:=[_,_,_,_,_,_,_,_]) s23)
theorem sp_Begun2:Sp Tryz.prog lI [] aA [(etB ET EF)] (fun r=>pa_ (r = true) [(etB ET EF)]):=by
  intro h st
  refine wO ?_
  unfold pL
  exact bR (i:=0) sp_begun2 rfl st fun r h' hr s=>aZ hr s
end Go.Proofs.YtemoifebbhoinaaGreatDoor
namespace Go.Proofs.YtemoifebbhoinaaGreatDoor
open Go Mb
set_option linter.unusedVariables false
def oP (K:Bool→Hp→Prop):Hp→Prop:=cl Tryz.prog od [(.agg (au.C (⟨1,2,2⟩:au)).toArray)] dP fun r23=>cl Tryz.prog xl [(.int .i64 2)] sE fun r24=>cl Tryz.prog oh [(.int .i64 3)] iV fun r25=>cl Tryz.prog iS [] gN fun r26=>cl Tryz.prog lD [] iH fun r27=>cl Tryz.prog wa [(.int .i64 2)] tS fun r28=>br (((((r23.isNone || r24.isNone) || r25.isNone) || r26.isNone) || r27.isNone) || r28.isNone) ( K false) ( cl Tryz.prog dB [(pv r23),(.int .i64 0),(.agg (ai.C (⟨1,1,0,0,0⟩:ai)).toArray)] bk fun r54=>cl Tryz.prog dB [(pv r23),(.int .i64 0),(.agg (ai.C (⟨6,2,1,3,0⟩:ai)).toArray)] bk fun r60=>cl Tryz.prog dB [(pv r23),(.int .i64 0),(.agg (ai.C (⟨21,2,5,77,0⟩:ai)).toArray)] bk fun r65=>cl Tryz.prog dB [(pv r23),(.int .i64 0),(.agg (ai.C (⟨20,2,5,0,0⟩:ai)).toArray)] bk fun r69=>cl Tryz.prog jK [(pv r24),(.int .i64 0),(.int .i64 1),(.int .i64 1)] bi fun r73=>cl Tryz.prog iB [(pv r24),(.int .i64 0),(.int .i64 1),(.int .i64 1),(.int .i64 3),(.int .i64 1)] bi fun r75=>cl Tryz.prog jj [(pv r25),(.int .i64 0)] bM fun r78=>cl Tryz.prog kv [(pv r25),(.int .i64 1),(.int .u64 r78.1)] aA fun r83=>cl Tryz.prog eD [(pv r27),(.int .i64 2),(.agg (al.C (⟨1,1,1⟩:al)).toArray)] bi fun r86=>cl Tryz.prog n_user_Do [(pv r26),(pv r27),(pv r28),(.int .i64 0),(.agg (ai.C (⟨20,2,3,0,0⟩:ai)).toArray)] eP fun r92=>cl Tryz.prog nH [(pv r23),(.int .i64 0),(.agg (ai.C (⟨7,5,0,0,0⟩:ai)).toArray)] iL fun r97=>cl Tryz.prog lI [] aA fun r98=>br ((((((r98 && r54.2) && (r54.1.fErr == 0)) && (r60.1.fErr == 0)) && (r69.1.fVal == 77)) && (r73 == 0)) && (r75 == 0)) ( cl Tryz.prog lq [(pv r24),(.int .i64 0),(.int .i64 1)] cW fun r127=>br (((((r127.len:Int) == 1) && (r78.1 == 1)) && r78.2) && r83) ( cl Tryz.prog jB [(pv r25),(.int .u64 1)] aA fun r143=>br (!r143) ( cl Tryz.prog ji [(pv r25),(.int .u64 1)] cG fun r148=>br ((((((r148.len:Int) == 1) && (r86 == 0)) && (r92.1.fErr == 0)) && (r92.2.fFrame == 1)) && (ni 3 3 4)) ( cl Tryz.prog kK [(.int .i64 3)] iL fun r171=>cl Tryz.prog og [r97,r171] aA fun r172=>br r172 ( cl Tryz.prog mR [(pv r23)] cG fun r176=>K ((r176.len:Int) == 1)) ( K false)) ( K false)) ( K false)) ( K false)) ( K false))
theorem vx {K:Bool→Hp→Prop} {h:Hp} (H:oP K h):Ct Tryz.prog kT #[] h fun v h'=>∃ r,v = aA r∧K r h':=aw [] Tryz.func100 c c c fun _=>M<|O c<|M<|p (bd c<|tO 1 2 2)<|aa<|F H en_56 fun r23 _ H1=>aa<|F H1 en_106 fun r24 _ H2=>aa<|F H2 en_58 fun r25 _ H3=>p (ar c)<|p (ar c)<|O c<|M<|aa<|F H3 en_59 fun r26 _ H4=>aa<|F H4 en_107 fun r27 _ H5=>aa<|F H5 en_104 fun r28 _ H6=>p (ar c)<|p (ar c)<|O c<|ak<|M<|J c<|p (cr Tryz.underlying103 c)<|J c<|V c c (aG _) (fun g7=>wv<|ag c)<|V c c (aG _) (fun g8=>wv<|cr Tryz.underlying155<|az c g8)<|p (cZ c c)<|J c<|V c c (aG _) (fun g9=>wv<|ag c)<|V c c (aG _) (fun g10=>wv<|cr Tryz.underlying106<|az c g10)<|p (cZ c c)<|J c<|V c c (aG _) (fun g11=>wv<|ag c)<|V c c (aG _) (fun g12=>wv<|cr Tryz.underlying114<|az c g12)<|p (cZ c c)<|J c<|V c c (aG _) (fun g13=>wv<|ag c)<|V c c (aG _) (fun g14=>wv<|cr Tryz.underlying161<|az c g14)<|p (cZ c c)<|J c<|V c c (aG _) (fun g15=>wv<|ag c)<|V c c (aG _) (fun g16=>wv<|cr Tryz.underlying152<|az c g16)<|p (cZ c c)<|ad<|av c H6 (fun k17 H18=>M<|O c<|ah<|D ⟨false,c,H18⟩) fun k17 H18=>an<|M<|J c<|p (bd c<|mD 1 1)<|aa<|F H18 en_72 fun r54 _ H19=>J c<|p (aj c c)<|p (aj c c)<|aa<|aP (l:=ac.C (⟨0,0⟩:ac)) di c c fun b7=>aa<|aR (k:=0) (vs:=ac.C r54.1) bS c c c c c c c<|O c<|M<|J c<|p (bd c<|jU 6 2 1 3)<|aa<|F H19 en_72 fun r60 _ H20=>J c<|p (aj c c)<|p (aj c c)<|aa<|aP (l:=ac.C (⟨0,0⟩:ac)) di c c fun b9=>aa<|aR (k:=0) (vs:=ac.C r60.1) bS c c c c c c c<|O c<|M<|J c<|p (bd c<|jU 21 2 5 77)<|aa<|F H20 en_72 fun r65 _ H21=>ad<|M<|J c<|p (bd c<|tM 20 2 5)<|aa<|F H21 en_72 fun r69 _ H22=>J c<|p (aj c c)<|p (aj c c)<|aa<|aP (l:=ac.C (⟨0,0⟩:ac)) di c c fun b11=>aa<|aR (k:=0) (vs:=ac.C r69.1) bS c c c c c c c<|O c<|M<|J c<|aa<|F H22 en_142 fun r73 _ H23=>J c<|aa<|F H23 en_143 fun r75 _ H24=>p (ar c)<|O c<|M<|J c<|aa<|F H24 en_69 fun r78 _ H25=>J c<|p (aj c c)<|p (aj c c)<|p (ar c)<|O c<|M<|J c<|J c<|aa<|F H25 en_98 fun r83 _ H26=>O c<|M<|J c<|p (bd c<|px 1 1 1)<|aa<|F H26 en_112 fun r86 _ H27=>O c<|M<|J c<|J c<|J c<|p (bd c<|tM 20 2 3)<|aa<|F H27 en_144 fun r92 _ H28=>J c<|p (aj c c)<|p (aj c c)<|aa<|aP (l:=ac.C (⟨0,0⟩:ac)) di c c fun b19=>aa<|aP (l:=am.C (⟨0,0,0,0⟩:am)) lc c c fun b20=>aa<|aR (k:=1) (vs:=ac.C r92.1) bS c c c c c c c<|aa<|aR (k:=0) (vs:=am.C r92.2) fD c c c c c c c<|ad<|M<|J c<|p (bd c<|mD 7 5)<|aa<|F H28 en_145 fun r97 _ H29=>O c<|M<|aa<|F H29 en_146 fun r98 _ H30=>J c<|V c c (ay _) (fun g31=>wv<|ag c)<|p (bO c c)<|J c<|V c c (ay _) (fun g32=>wv<|ae kG c)<|V c c (ay _) (fun g33=>cv<|ba (k:=4) oS (az c g33) c c)<|V c c (ay _) (fun g34=>wv<|bH (az c g34) c)<|p (bO c c)<|J c<|V c c (ay _) (fun g35=>wv<|ae kG c)<|V c c (ay _) (fun g36=>cv<|ba (k:=3) oS (az c g36) c c)<|V c c (ay _) (fun g37=>wv<|bH (az c g37) c)<|p (bO c c)<|J c<|V c c (ay _) (fun g38=>wv<|ae fld_30_1 c)<|V c c (ay _) (fun g39=>cv<|ba (k:=2) cy (az c g39) c c)<|V c c (ay _) (fun g40=>wv<|bH (az c g40) c)<|p (bO c c)<|J c<|V c c (ay _) (fun g41=>wv<|ag c)<|V c c (ay _) (fun g42=>wv<|bH (az c g42) c)<|p (bO c c)<|J c<|V c c (ay _) (fun g43=>wv<|ag c)<|V c c (ay _) (fun g44=>wv<|bH (az c g44) c)<|p (bO c c)<|J c<|V c c (ay _) (fun g45=>wv<|ag c)<|bT H30 (fun k47 H48=>G (Y k47)<|gm H48 en_147 (aT (az c k47)<|aT c<|aT c bW) c fun r127 _ H49=>G (Y k47)<|z_p (dl c Tryz.underlying201 c)<|G (Y k47)<|z_p (bH c c)<|p (aI c k47 c)<|J c<|V c c (ay _) (fun g50=>wv<|ag c)<|V c c (ay _) (fun g51=>wv<|bH (az c g51) c)<|p (bO c c)<|J c<|V c c (ay _) (fun g52=>wv<|ag c)<|p (bO c c)<|J c<|V c c (ay _) (fun g53=>wv<|ag c)<|p (bO c c)<|J c<|V c c (ay _) (fun g54=>wv<|ag c)<|bT H49 (fun k56 H57=>G (Y k56)<|gm H57 en_71 (aT (az c k56)<|aT c bW) c fun r143 _ H58=>G (Y k56)<|z_p (ct c)<|p (aI c k56 c)<|J c<|V c c (ay _) (fun g59=>wv<|ag c)<|bT H58 (fun k61 H62=>G (Y k61)<|gm H62 en_121 (aT (az c k61)<|aT c bW) c fun r148 _ H63=>G (Y k61)<|z_p (dl c Tryz.underlying39 c)<|G (Y k61)<|z_p (bH c c)<|p (aI c k61 c)<|J c<|V c c (ay _) (fun g64=>wv<|ag c)<|V c c (ay _) (fun g65=>wv<|bH (az c g65) c)<|p (bO c c)<|J c<|V c c (ay _) (fun g66=>wv<|ae kG c)<|V c c (ay _) (fun g67=>cv<|ba (k:=1) oS (az c g67) c c)<|V c c (ay _) (fun g68=>wv<|bH (az c g68) c)<|p (bO c c)<|J c<|V c c (ay _) (fun g69=>wv<|ae lR c)<|V c c (ay _) (fun g70=>cv<|ba (k:=0) aS (az c g70) c c)<|V c c (ay _) (fun g71=>wv<|bH (az c g71) c)<|p (bO c c)<|J c<|dc (vs:=[(.int .i64 3),(.int .u64 3),(.int .u64 4)]) c c c (ay _) (fun g72=>bv<|vm 3 3 4 _) en_148 (fun g72=>c) c<|p (bO c c)<|J c<|V c c (ay _) (fun g73=>wv<|ag c)<|bT H63 (fun k75 H76=>G (Y k75)<|F H76 xE fun r171 _ H77=>G (Y k75)<|gm H77 en_149 (aT (az c k75)<|aT c bW) c fun r172 _ H78=>p (aI c k75 c)<|J c<|V c c (ay _) (fun g79=>wv<|ag c)<|bT H78 (fun k81 H82=>G (Y k81)<|gm H82 en_54 (aT (az c k81) bW) c fun r176 _ H83=>G (Y k81)<|z_p (dl c Tryz.underlying39 c)<|G (Y k81)<|z_p (bH c c)<|p (aI c k81 c)<|O c<|ah<|D ⟨((r176.len:Int) == 1),c,H83⟩) fun k81 H82=>W (aJ k81)<|W (aJ k81)<|W (aJ k81)<|p (ao c k81 c)<|O c<|ah<|D ⟨false,c,H82⟩) fun k75 H76=>W (aJ k75)<|W (aJ k75)<|p (ao c k75 c)<|J c<|W c<|W c<|W c<|W c<|p (ao c c c)<|O c<|ah<|D ⟨false,c,H76⟩) fun k61 H62=>W (aJ k61)<|W (aJ k61)<|W (aJ k61)<|p (ao c k61 c)<|J c<|W c<|W c<|p (ao c c c)<|J c<|W c<|W c<|W c<|p (ao c c c)<|J c<|W c<|W c<|W c<|p (ao c c c)<|J c<|W c<|p (ao c c c)<|J c<|W c<|W c<|W c<|p (ao c c c)<|J c<|W c<|W c<|W c<|W c<|p (ao c c c)<|O c<|ah<|D ⟨false,c,H62⟩) fun k56 H57=>W (aJ k56)<|W (aJ k56)<|p (ao c k56 c)<|J c<|W c<|W c<|W c<|W c<|p (ao c c c)<|J c<|W c<|W c<|p (ao c c c)<|J c<|W c<|W c<|W c<|p (ao c c c)<|J c<|W c<|W c<|W c<|p (ao c c c)<|J c<|W c<|p (ao c c c)<|J c<|W c<|W c<|W c<|p (ao c c c)<|J c<|W c<|W c<|W c<|W c<|p (ao c c c)<|O c<|ah<|D ⟨false,c,H57⟩) fun k47 H48=>W (aJ k47)<|W (aJ k47)<|W (aJ k47)<|p (ao c k47 c)<|J c<|W c<|W c<|p (ao c c c)<|J c<|W c<|p (ao c c c)<|J c<|W c<|p (ao c c c)<|J c<|W c<|W c<|W c<|p (ao c c c)<|J c<|W c<|W c<|W c<|W c<|p (ao c c c)<|J c<|W c<|W c<|p (ao c c c)<|J c<|W c<|W c<|W c<|p (ao c c c)<|J c<|W c<|W c<|W c<|p (ao c c c)<|J c<|W c<|p (ao c c c)<|J c<|W c<|W c<|W c<|p (ao c c c)<|J c<|W c<|W c<|W c<|W c<|p (ao c c c)<|O c<|ah<|D ⟨false,c,H48⟩
def oQ (K:Bool→Hp→Prop):Hp→Prop:=cl Tryz.prog kT [] aA fun r1=>K r1
theorem vy {K:Bool→Hp→Prop} {h:Hp} (H:oQ K h):Ct Tryz.prog kU #[] h fun v h'=>∃ r,v = aA r∧K r h':=aw [] Tryz.func50 c c c fun _=>M<|O c<|M<|aa<|F H en_100 fun r1 _ H1=>O c<|ah<|D ⟨r1,c,H1⟩
end Go.Proofs.YtemoifebbhoinaaGreatDoor
namespace Go.Proofs.YtemoifebbhoinaaGreatDoor
open Go Mb
variable {ET:Nat} {EF:Nat × Nat}
section
variable {l:List As} {h:Hp} {x:Ptr}
theorem plain_nn {k:PK} (s:aF (bt x k::l) h):x.isNone = false:=nn_of (fun _ e=>by rw [e.1]; rfl) s
theorem tree_nn {k:Caps.T} (s:aF (cN x k::l) h):x.isNone = false:=nn_of (fun _ e=>by rw [e.1]; rfl) s
theorem epochs_nn {k:List Int × List Int} (s:aF (fh x k::l) h):x.isNone = false:=nn_of (fun _ e=>by rw [e.1]; rfl) s
end
theorem sp_plain_Err (x:Ptr) (k:PK) (e:Int) (c:ai) (h1:(PK.do_ k e c).1.2 = true) (h2:(PK.do_ k e c).1.1.fErr ≠ 0):Sp Tryz.prog nH [pv x,.int .i64 e,.agg c.C.toArray] iL [(etB ET EF),bt x k]
    (fun r=>ex fun b:Nat × Nat=>pa_ (r = dz b.1) [trB b.1 ⟨(PK.do_ k e c).1.1.fErr,e,c,dz b.2⟩,(etB ET EF),bt x k]):=by
  intro h st
  have hn:=plain_nn (bc [1] st rfl)
  refine sim_plain_Kernel_Err _ _ _ ?_
  unfold rL
  refine dI hn ?_
  refine xH (i:=1) (uP x k) rfl st fun y g1 s1=>?_
  refine bR (i:=0) (jY y k e c) rfl s1 fun r g2 hr s2=>?_
  subst hr
  refine dI (by rw [h1]; rfl) ?_
  refine cR [] (rest:=[_,_,_]) (sp_Of _ h2) s2 rfl fun r g3 s3=>?_
  obtain ⟨b,x3⟩:=uJ s3
  obtain ⟨rfl,y3⟩:=bu.1 x3
  refine cR [2,0] (rest:=[_,_]) (sp_In e c b _) y3 rfl fun r g4 s4=>?_
  obtain ⟨d,x4⟩:=uJ s4
  obtain ⟨rfl,y4⟩:=bu.1 x4
  refine ⟨(d,b),aZ rfl (bZ (l:=[_,_]) (bc [2,2] y4 rfl))⟩
theorem sp_begun11:Sp Tryz.prog kT [] aA [(etB ET EF)] (fun r=>pa_ (r = true) [(etB ET EF)]):=by
  intro h st
  refine vx ?_
  unfold oP
  refine mC (se ⟨1,2,2⟩ (by decide)) st fun a1 h1 s1=>?_
  refine mC (sp_caps_New 2 (by decide) (by decide)) s1 fun a2 h2 s2=>?_
  refine mC (sg 3 (by decide) (by decide)) s2 fun a3 h3 s3=>?_
  refine mC wB s3 fun a4 h4 s4=>?_
  refine mC oG s4 fun a5 h5 s5=>?_
  refine mC (sp_mem_New 2 (by decide) (by decide)) s5 fun a6 h6 s6=>?_
  have n1:=plain_nn s1
  have n2:=tree_nn s2
  have n3:=epochs_nn s3
  have n4:=tlb_nn s4
  have n5:=table_nn s5
  have n6:=mem_nn s6
  rw [n1,n2,n3,n4,n5,n6]
  refine dI rfl ?_
  refine bR (i:=5) (jY a1 _ 0 ⟨1,1,0,0,0⟩) rfl s6 fun r1 h7 e1 s7=>?_
  refine bR (i:=5) (jY a1 _ 0 ⟨6,2,1,3,0⟩) rfl s7 fun r2 h8 e2 s8=>?_
  refine bR (i:=5) (jY a1 _ 0 ⟨21,2,5,77,0⟩) rfl s8 fun r3 h9 e3 s9=>?_
  refine bR (i:=5) (jY a1 _ 0 ⟨20,2,5,0,0⟩) rfl s9 fun r4 h10 e4 s10=>?_
  refine bR (i:=4) (wG a2 _ 0 1 1) rfl s10 fun r5 h11 e5 s11=>?_
  refine bR (i:=4) (sU a2 _ 0 1 1 3 1) rfl s11 fun r6 h12 e6 s12=>?_
  refine bR (i:=3) (sp_epoch_Begin a3 _ 0 (by decide)) rfl s12 fun r7 h13 e7 s13=>?_
  subst e7
  refine bR (i:=3) (sp_epoch_Ack a3 _ 1 _) rfl s13 fun r8 h14 e8 s14=>?_
  refine bR (i:=1) (kB a5 _ 2 ⟨1,1,1⟩) rfl s14 fun r9 h15 e9 s15=>?_
  refine cR [2,1,0] (rest:=[_,_,_,_]) (sp_user_Do a4 a5 a6 _ _ _ 0 ⟨20,2,3,0,0⟩) s15 rfl fun r10 h16 x16=>?_
  obtain ⟨e10,s16⟩:=bu.1 x16
  subst e1 e2 e3 e4 e5 e6 e8 e9 e10
  refine cR [6,5] (rest:=[_,_,_,_,_]) (sp_plain_Err a1 _ 0 ⟨7,5,0,0,0⟩ (by kernel_rfl) (by decide)) s16 rfl fun r11 h17 x17=>?_
  obtain ⟨⟨b,b'⟩,z17⟩:=uJ x17
  obtain ⟨rfl,s17⟩:=bu.1 z17
  refine bR (i:=1) sp_Begun2 rfl s17 fun r12 h18 e12 s18=>?_
  subst e12
  refine dZ (by kernel_rfl) ?_
  refine xH (i:=7) (sp_caps_Below a2 _ 0 1) rfl s18 fun r13 h19 s19=>?_
  have e13:((r13.len:Int) == 1) = true:=by
    rw [(ce (j:=0) s19 rfl).1]
    kernel_rfl
  rw [e13]
  refine dZ (by kernel_rfl) ?_
  refine bR (i:=7) (sp_epoch_Done a3 _ 1) rfl s19 fun r14 h20 e14 s20=>?_
  subst e14
  refine dZ (by kernel_rfl) ?_
  refine xH (i:=7) (sp_epoch_Waits a3 _ 1) rfl s20 fun r15 h21 s21=>?_
  have e15:((r15.len:Int) == 1) = true:=by
    rw [(ce (j:=0) s21 rfl).1]
    kernel_rfl
  rw [e15]
  refine dZ (by kernel_rfl) ?_
  refine cR [] (rest:=[_,_,_,_,_,_,_,_,_,_]) (sp_Of 3 (by decide)) s21 rfl fun r16 h22 x22=>?_
  obtain ⟨d,z22⟩:=uJ x22
  obtain ⟨rfl,s22⟩:=bu.1 z22
  refine cR [3,0] (rest:=[_,_,_,_,_,_,_,_,_]) (sp_Is1 b d _ tr3 (by kernel_rfl) (.inr ⟨b',by kernel_rfl⟩)) s22 rfl fun r17 h23 x23=>?_
  obtain ⟨rfl,s23⟩:=bu.1 x23
  refine dZ rfl ?_
  refine xH (i:=5) (sp_plain_Free a1 _) rfl s23 fun r18 h24 s24=>?_
  have e18:((r18.len:Int) == 1) = true:=by
    rw [(ce (j:=0) s24 rfl).1]
    kernel_rfl
  exact aZ e18 (bZ (l:=[_,_,_,_,_,_,_,_,_,_,_]) (bc [0,0,0,0,0,1,1,1,1,1,1] s24 rfl))
theorem sp_Begun11:Sp Tryz.prog kU [] aA [(etB ET EF)] (fun r=>pa_ (r = true) [(etB ET EF)]):=by
  intro h st
  refine vy ?_
  unfold oQ
  exact bR (i:=0) sp_begun11 rfl st fun r h' hr s=>aZ hr s
end Go.Proofs.YtemoifebbhoinaaGreatDoor
namespace Go.Proofs.YtemoifebbhoinaaGreatDoor
open Go Mb
theorem calls_nil:∀ (n:Nat) {l:List As} {h:Hp},aF l h→aF (all iR (List.replicate n (none:Ptr)) (List.replicate n (none:Option KC))::l) h
  | 0,_,_,s=>all_nil s
  | n + 1,l,h,s=>by
    have s1:=star_cons (A:=iR none none) (fun _=>rfl) (calls_nil n s)
    rw [List.replicate_succ,List.replicate_succ]
    obtain ⟨h1,h2,d,e,a,h3,h4,d2,e2,b,s'⟩:=s1
    subst e2
    obtain ⟨d3,d4⟩:=Dj.of_un_right d
    exact ⟨un h1 h3,h4,Dj.un_left d4 d2,by rw [e,mW],⟨h1,h3,d3,rfl,a,b⟩,s'⟩
def newI (s:eH) (b n:Nat) (pp pm pe:Ptr) (cs:Sl) (i:Int) (h:Hp):Prop:=∃ (j:Nat) (ts:Sl) (tp:List Ptr),i = j∧j ≤ n∧tp.length = j∧aF [blk b cj [pv pp,.int .i64 s.fEnvs,sv ts,pv pm,pv pe,sv cs,sv (⟨none,0,0,none⟩:Sl),.int .i64 0],bt pp (PK.new s),vQ sQ ts tp,all fx tp (List.replicate j tlb0),jx pm (List.replicate n []),fh pe ([],List.replicate n 0),vQ fA cs (List.replicate n none),all iR (List.replicate n none) (List.replicate n none),vE (⟨none,0,0,none⟩:Sl) []] h
theorem new_round {s:eH} {b n:Nat} {pp pm pe:Ptr} {cs:Sl} (hn8:n ≤ 8) {i:Int} {h:Hp} (H:newI s b n pp pm pe cs i h) (hi:i < n) :
    (both (ld (b,2) cS fun x31=>cl Tryz.prog iS [] gN fun r32=>hpv Tryz.prog (Instr.buildSlice bU 1 #[(0,(pv r32))]) dS fun (v33:Sl)=>hpv Tryz.prog (Builtin.append_ #[bU,bU] bU #[(sv x31),(sv v33)]) dS fun (v34:Sl)=>Mb.st (b,2) [sv v34] fun h'=>newI s b n pp pm pe cs (IntKind.i64.wrap (i + 1)) h'∧n - (IntKind.i64.wrap (i + 1)).toNat < n - i.toNat)
     (cl Tryz.prog iS [] gN fun r32=>ld (b,2) cS fun x31=>hpv Tryz.prog (Instr.buildSlice bU 1 #[(0,(pv r32))]) dS fun (v33:Sl)=>hpv Tryz.prog (Builtin.append_ #[bU,bU] bU #[(sv x31),(sv v33)]) dS fun (v34:Sl)=>Mb.st (b,2) [sv v34] fun h'=>newI s b n pp pm pe cs (IntKind.i64.wrap (i + 1)) h'∧n - (IntKind.i64.wrap (i + 1)).toNat < n - i.toNat)) h:=by
  obtain ⟨j,ts,tp,rfl,hj,htp,s6⟩:=H
  have hlt:j < n:=by omega
  have hw:IntKind.i64.wrap ((j:Int) + 1) = ((j + 1:Nat):Int):=by rw [bP (by omega) (by omega)]; rfl
  rw [hw]
  have fin:∀ (r:Ptr) (v:Sl) (h:Hp),aF [fx r tlb0,blk b cj [pv pp,.int .i64 s.fEnvs,sv ts,pv pm,pv pe,sv cs,sv (⟨none,0,0,none⟩:Sl),.int .i64 0],bt pp (PK.new s),vQ sQ v (tp++[r]),all fx tp (List.replicate j tlb0),jx pm (List.replicate n []),fh pe ([],List.replicate n 0),vQ fA cs (List.replicate n none),all iR (List.replicate n none) (List.replicate n none),vE (⟨none,0,0,none⟩:Sl) []] h →
      Mb.st (b,2) [sv v] (fun h'=>newI s b n pp pm pe cs ((j + 1:Nat):Int) h'∧n - ((j + 1:Nat):Int).toNat < n - (j:Int).toNat) h:=by
    intro r v h s7
    refine tT (i:=1) s7 rfl (Nat.le_of_ble_eq_true rfl) fun h8 s8=>?_
    refine ⟨⟨j + 1,v,tp++[r],rfl,hlt,by simp [htp],?_⟩,by simp; omega⟩
    have s9:=all_push (by simp [htp]) (bc [0,3] s8 rfl)
    have e:List.replicate j tlb0++[tlb0] = List.replicate (j + 1) tlb0:=List.replicate_succ'.symm
    rw [e] at s9
    exact bc [1,1,1,0] s9 rfl
  refine ⟨?_,?_⟩
  · refine bp ts s6 (i:=0) rfl rfl rfl ?_
    refine mC wB s6 fun r h7 s7=>?_
    refine kM (τ:=Ptr) (i:=3) (enc:=cP) (val:=fun x=>pv x) el_SPtlb_Tlb gM cP_one (fun _=>rfl) (by omega) rfl rfl s7 rfl (by omega) (by omega) fun v h8 s8=>?_
    exact fin r v h8 s8
  · refine mC wB s6 fun r h7 s7=>?_
    refine bp ts s7 (i:=1) rfl rfl rfl ?_
    refine kM (τ:=Ptr) (i:=3) (enc:=cP) (val:=fun x=>pv x) el_SPtlb_Tlb gM cP_one (fun _=>rfl) (by omega) rfl rfl s7 rfl (by omega) (by omega) fun v h8 s8=>?_
    exact fin r v h8 s8
theorem new_start {s:eH} {b n:Nat} {pp pm pe:Ptr} {cs:Sl} {h:Hp}
    (st:aF [blk b cj (fN.C (⟨pp,s.fEnvs,(⟨none,0,0,none⟩:Sl),pm,pe,cs,(⟨none,0,0,none⟩:Sl),0⟩:fN)),bt pp (PK.new s),jx pm (List.replicate n []),fh pe ([],List.replicate n 0),vQ fA cs (List.replicate n none)] h):newI s b n pp pm pe cs 0 h:=by
  have s1:=fR (τ:=bq) (T:=t_api_Event) (m:=16) (enc:=aB.C) (calls_nil n (fR (τ:=Ptr) (T:=sQ) (m:=1) (enc:=cP) (all_nil (A:=fx) st)))
  exact ⟨0,⟨none,0,0,none⟩,[],rfl,Nat.zero_le _,rfl,bc [4,4,2,2,2,2,2,1] s1 rfl⟩
theorem new_end {s:eH} (hs:PK.sized s = true) {b n:Nat} (hn:s.fCores = n) {pp pm pe:Ptr} {cs:Sl} {h:Hp} (H:newI s b n pp pm pe cs n h):aF [de (some (b,0)) (KK.new s)] h:=by
  obtain ⟨j,ts,tp,hj,hj2,htp,s6⟩:=H
  have:j = n:=by omega
  subst this
  have ok:=kok_new hs
  have e:KK.new s = ⟨PK.new s,List.replicate j tlb0,List.replicate j [],([],List.replicate j 0),List.replicate j none,[],0⟩:=by unfold KK.new; rw [hn]; rfl
  rw [e] at ok ⊢
  exact nz (z:=⟨b,pp,ts,tp,pm,pe,cs,List.replicate j none,⟨none,0,0,none⟩⟩) ⟨by simpa using htp,by simp⟩ ok s6
theorem sp_kern_New (s:eH) (hs:PK.sized s = true):Sp Tryz.prog xk [.agg s.C.toArray] sD [] (fun r=>aF [de r (KK.new s)]):=by
  intro h st
  have hz:=fV.1 hs
  obtain ⟨n,hn⟩:=Int.eq_ofNat_of_zero_le (show 0 ≤ s.fCores by omega)
  have hn8:n ≤ 8:=by omega
  refine sim_kern_New _ ?_
  unfold sh_kern_New
  refine mC (se s hs) st fun pp h1 s1=>?_
  have hpp:pp.isNone = false:=by
    obtain ⟨_,h2,_⟩:=fS s1; rw [h2]; rfl
  refine dI hpp ?_
  have mk:∀ {l:List As} {h:Hp} {K:Sl→Hp→Prop},aF l h→(∀ v h',aF (vQ fA v (List.replicate n none)::l) h'→K v h')→hpv Tryz.prog (Instr.makeSlice ne (.int .i64 s.fCores) (.int .i64 s.fCores)) qE K h:=by
    intro l h K s2 k
    rw [hn]
    exact ol (τ:=Ptr) (x0:=none) (enc:=cP) (n:=n) (T:=fA) (m:=1) el_SPkern_call rfl s2 (by omega) (by omega) k
  have em:s.fCores.toNat = n:=by omega
  refine ⟨?_,?_⟩
  · refine mC (sp_mail_New s.fCores (by omega) (by omega)) s1 fun pm h2 s2=>?_
    refine ⟨?_,?_⟩
    · refine mC (sg s.fCores (by omega) (by omega)) s2 fun pe h3 s3=>?_
      rw [em] at s3
      refine mk s3 fun cs h4 s4=>?_
      refine pD s4 fun b h5 s5=>?_
      refine Lp.intro (fun (i:Int) h=>newI s b n pp pm pe cs i h) (fun (i:Int) _=>n - i.toNat) (new_start (bc [0,4,3,2,1] s5 rfl)) ?_
      intro i h H
      unfold kern_New_l1
      refine aY (fun d=>new_round hn8 H (by have:=of_decide_eq_true d; omega)) (fun d=>?_)
      have:i = n:=by obtain ⟨j,_,_,e,hj,_⟩:=H; have:=of_decide_eq_false d; omega
      subst this
      exact new_end hs hn H
    · refine mk s2 fun cs h3 s3=>?_
      refine mC (sg s.fCores (by omega) (by omega)) s3 fun pe h4 s4=>?_
      rw [em] at s4
      refine pD s4 fun b h5 s5=>?_
      refine Lp.intro (fun (i:Int) h=>newI s b n pp pm pe cs i h) (fun (i:Int) _=>n - i.toNat) (new_start (bc [0,3,2,0,0] s5 rfl)) ?_
      intro i h H
      unfold kern_New_l2
      refine aY (fun d=>new_round hn8 H (by have:=of_decide_eq_true d; omega)) (fun d=>?_)
      have:i = n:=by obtain ⟨j,_,_,e,hj,_⟩:=H; have:=of_decide_eq_false d; omega
      subst this
      exact new_end hs hn H
  · refine mk s1 fun cs h2 s2=>?_
    refine mC (sp_mail_New s.fCores (by omega) (by omega)) s2 fun pm h3 s3=>?_
    refine mC (sg s.fCores (by omega) (by omega)) s3 fun pe h4 s4=>?_
    rw [em] at s4
    refine pD s4 fun b h5 s5=>?_
    refine Lp.intro (fun (i:Int) h=>newI s b n pp pm pe cs i h) (fun (i:Int) _=>n - i.toNat) (new_start (bc [0,3,1,0,0] s5 rfl)) ?_
    intro i h H
    unfold kern_New_l3
    refine aY (fun d=>new_round hn8 H (by have:=of_decide_eq_true d; omega)) (fun d=>?_)
    have:i = n:=by obtain ⟨j,_,_,e,hj,_⟩:=H; have:=of_decide_eq_false d; omega
    subst this
    exact new_end hs hn H
end Go.Proofs.YtemoifebbhoinaaGreatDoor
namespace Go.Proofs.YtemoifebbhoinaaGreatDoor
open Go Mb
set_option linter.unusedVariables false
def tG (a0:Int) (Rec17:(Sl × Int)→Hp→Prop) (s16:Sl × Int) (x32:Int) (Rec26:(Sl × Int)→Hp→Prop) (s25:Sl × Int):Hp→Prop:=br (decide (s25.2 < a0)) ( hpv Tryz.prog (Instr.buildSlice lv 1 #[(0,(.agg (ci.C (⟨x32,s25.2,0,(⟨0,0,0,0,0⟩:ai),0,0⟩:ci)).toArray))]) ii fun (v41:Sl)=>hpv Tryz.prog (Builtin.append_ #[lv,lv] lv #[(sv s25.1),(sv v41)]) ii fun (v42:Sl)=>Rec26 (v42,(IntKind.i64.wrap (s25.2 + 1)))) ( Rec17 (s25.1,(IntKind.i64.wrap (s16.2 + 1))))
def tH (a0:Int) (Rec11:(Sl × Int)→Hp→Prop) (s10:Sl × Int) (v27:Sl) (Rec17:(Sl × Int)→Hp→Prop) (s16:Sl × Int):Hp→Prop:=br (decide (s16.2 < (v27.len:Int))) ( ix v27 s16.2 fun q31=>ld (q31.1,q31.2 + Int.toNat s16.2 * 1) (cI .i64) fun x32=>Lp (tG a0 Rec17 s16 x32) (s16.1,0)) ( Rec11 (s16.1,(IntKind.i64.wrap (s10.2 + 1))))
def tI (a0:Int) (a1:Int) (K:Sl→Hp→Prop) (Rec11:(Sl × Int)→Hp→Prop) (s10:Sl × Int):Hp→Prop:=br (decide (s10.2 < a1)) ( hpv Tryz.prog (Instr.buildSlice dK 2 #[(0,(.int .i64 3)),(1,(.int .i64 2))]) cG fun (v27:Sl)=>Lp (tH a0 Rec11 s10 v27) (s10.1,0)) ( K s10.1)
def sh_fair_Rounds (a0:Int) (a1:Int) (K:Sl→Hp→Prop):Hp→Prop:=br ((((decide (a0 < 1)) || (decide (a0 > 8))) || (decide (a1 < 0))) || (decide (a1 > 500))) ( K (⟨none,0,0,none⟩:Sl)) ( hpv Tryz.prog (Instr.buildSlice lv 0 #[]) ii fun (v23:Sl)=>Lp (tI a0 a1 K) (v23,0))
theorem sim_fair_Rounds (a0:Int) (a1:Int) {K:Sl→Hp→Prop} {h:Hp} (H:sh_fair_Rounds a0 a1 K h):Ct Tryz.prog vd #[(.int .i64 a0),(.int .i64 a1)] h fun v h'=>∃ r,v = ii r∧K r h':=aw [(.int .i64 a0),(.int .i64 a1)] Tryz.func49 c c c fun _=>M<|O c<|ak<|M<|J c<|p (cq c c)<|J c<|V c c (aG _) (fun g1=>wv<|ag c)<|V c c (aG _) (fun g2=>wv<|kP (az c g2) c)<|p (cZ c c)<|J c<|V c c (aG _) (fun g3=>wv<|ag c)<|V c c (aG _) (fun g4=>wv<|cq (az c g4) c)<|p (cZ c c)<|J c<|V c c (aG _) (fun g5=>wv<|ag c)<|V c c (aG _) (fun g6=>wv<|kP (az c g6) c)<|p (cZ c c)<|ad<|av c H (fun k7 H8=>M<|O c<|ah<|D ⟨(⟨none,0,0,none⟩:Sl),c,H8⟩) fun k7 H8=>an<|M<|aa<|aU H8 (bz (vs:=[]) c) c fun v23 _ H9=>O c<|ak<|M<|J c<|J c<|ad<|ax<|bG (step:=tI a0 a1 K) (fun s10=>[(0,(.int .i64 a0)),(5,(sv s10.1)),(24,(.int .i64 a1)),(25,(.int .i64 s10.2))]) (fun s10=>[]) H9 (.cons c<|.cons c<|.cons c<|.cons c<|.nil _) .slnil fun Rec11 s10 _ H12=>M<|p (cq c c)<|ad<|ak<|av c H12 (fun k13 H14=>an<|ak<|ax<|M<|aa<|aU H14 (bz (vs:=[(.int .i64 3),(.int .i64 2)]) c) c fun v27 _ H15=>p (dl c Tryz.underlying39 c)<|J c<|ad<|ax<|bG (step:=tH a0 Rec11 s10 v27) (fun s16=>[(0,(.int .i64 a0)),(5,(sv s16.1)),(24,(.int .i64 a1)),(25,(.int .i64 s10.2)),(27,(sv v27)),(28,(.int .i64 (v27.len:Int))),(29,(.int .i64 s16.2))]) (fun s16=>[]) H15 (.cons c<|.cons c<|.cons c<|.cons c<|.cons c<|.cons c<|.cons c<|.nil _) .slnil fun Rec17 s16 _ H18=>M<|p (cq c c)<|ad<|ak<|av c H18 (fun k19 H20=>an<|ak<|ax<|M<|ck H20 fun q31 e21 h22 H23=>p (bh iP (aK c<|aX e21) c h22)<|aa<|aW H23 aS c (fun _=>c) c fun x32 H24=>O c<|M<|J c<|J c<|ad<|ax<|bG (step:=tG a0 Rec17 s16 x32) (fun s25=>[(0,(.int .i64 a0)),(5,(sv s25.1)),(7,(.int .i64 x32)),(24,(.int .i64 a1)),(25,(.int .i64 s10.2)),(27,(sv v27)),(28,(.int .i64 (v27.len:Int))),(29,(.int .i64 s16.2)),(33,(.int .i64 a0)),(34,(.int .i64 s25.2))]) (fun s25=>[]) H24 (.cons c<|.cons c<|.cons c<|.cons c<|.cons c<|.cons c<|.cons c<|.cons c<|.cons c<|.cons c<|.nil _) .slnil fun Rec26 s25 _ H27=>M<|p (cq c c)<|ad<|ak<|av c H27 (fun k28 H29=>an<|ak<|ax<|M<|J c<|O c<|ap<|J c<|J c<|J c<|p (bd c<|build_51_0_1 x32 s25.2)<|aa<|aU H29 (bz (vs:=[(.agg (ci.C (⟨x32,s25.2,0,(⟨0,0,0,0,0⟩:ai),0,0⟩:ci)).toArray)]) c) c fun v41 _ H30=>aa<|aU H30 (dJ c c) c fun v42 _ H31=>O c<|ap<|p (bn c c)<|J c<|ad<|cM (v42,(IntKind.i64.wrap (s25.2 + 1))) H31 (.cons c<|.cons c<|.cons c<|.cons c<|.cons c<|.cons c<|.cons c<|.cons c<|.cons c<|.cons c<|.nil _) .slnil) fun k28 H29=>bj<|ap<|p (bn c c)<|J c<|ad<|cM (s25.1,(IntKind.i64.wrap (s16.2 + 1))) H29 (.cons c<|.cons c<|.cons c<|.cons c<|.cons c<|.cons c<|.cons c<|.nil _) .slnil) fun k19 H20=>bj<|ap<|p (bn c c)<|J c<|ad<|cM (s16.1,(IntKind.i64.wrap (s10.2 + 1))) H20 (.cons c<|.cons c<|.cons c<|.cons c<|.nil _) .slnil) fun k13 H14=>bj<|M<|J c<|O c<|ah<|D ⟨s10.1,c,H14⟩
def rA (a0:Sl) (a1:Int) (a2:Int) (K:Int→Hp→Prop) (Rec2:(Int × Int × Int)→Hp→Prop) (s1:Int × Int × Int):Hp→Prop:=br (decide (s1.2.2 < (a0.len:Int))) ( ix a0 s1.2.2 fun q15=>ld (q15.1,q15.2 + Int.toNat s1.2.2 * 10) ci.C fun x16=>br ((x16.fKind == a1) && (x16.fCore == a2)) ( Rec2 ((mx s1.1 0),0,(IntKind.i64.wrap (s1.2.2 + 1)))) ( Rec2 ((mx s1.1 (IntKind.i64.wrap (s1.2.1 + 1))),(IntKind.i64.wrap (s1.2.1 + 1)),(IntKind.i64.wrap (s1.2.2 + 1))))) ( K s1.1)
def sh_fair_Longest (a0:Sl) (a1:Int) (a2:Int) (K:Int→Hp→Prop):Hp→Prop:=Lp (rA a0 a1 a2 K) (0,0,0)
theorem sim_fair_Longest (a0:Sl) (a1:Int) (a2:Int) {K:Int→Hp→Prop} {h:Hp} (H:sh_fair_Longest a0 a1 a2 K h):Ct Tryz.prog pn #[(sv a0),(.int .i64 a1),(.int .i64 a2)] h fun v h'=>∃ r,v = eJ r∧K r h':=aw [(sv a0),(.int .i64 a1),(.int .i64 a2)] Tryz.func101 c c c fun _=>M<|O c<|M<|p (ar c)<|O c<|ak<|M<|J c<|p (dl c Tryz.underlying45 c)<|J c<|ad<|ax<|bG (step:=rA a0 a1 a2 K) (fun s1=>[(1,(.int .i64 a1)),(2,(.int .i64 a2)),(7,(.int .i64 s1.1)),(8,(.int .i64 s1.2.1)),(11,(sv a0)),(12,(.int .i64 (a0.len:Int))),(13,(.int .i64 s1.2.2))]) (fun s1=>[]) H (.cons c<|.cons c<|.cons c<|.cons c<|.cons c<|.cons c<|.cons c<|.nil _) .slnil fun Rec2 s1 _ H3=>M<|p (cq c c)<|ad<|ak<|av c H3 (fun k4 H5=>an<|ak<|ax<|M<|ck H5 fun q15 e6 h7 H8=>p (bh slc_45 (aK c<|aX e6) c h7)<|aa<|gI H8 ag_51 c (fun _=>c) c fun x16 H9=>aa<|aP (l:=ci.C (⟨0,0,0,(⟨0,0,0,0,0⟩:ai),0,0⟩:ci)) zero_51 c c fun b10=>aa<|aR (k:=0) (vs:=ci.C x16) inf_51 c c c c c c c<|ad<|M<|J c<|p (bn c c)<|O c<|ak<|M<|p (ae fld_51_0 c)<|bf (ba (k:=0) aS c c c) c<|J c<|p (bH c c)<|J c<|V c c (ay _) (fun g10=>wv<|ae fld_51_1 c)<|V c c (ay _) (fun g11=>cv<|ba (k:=0) aS (az c g11) c c)<|V c c (ay _) (fun g12=>wv<|ag c)<|V c c (ay _) (fun g13=>wv<|bH (az c g13)<|az c g13)<|p (bO c c)<|ad<|av c H9 (fun k14 H15=>ap<|O c<|ap<|J c<|J c<|p (v_maxT c c)<|O c<|ap<|p (bn c c)<|J c<|ad<|cM ((mx s1.1 0),0,(IntKind.i64.wrap (s1.2.2 + 1))) H15 (.cons c<|.cons c<|.cons c<|.cons c<|.cons c<|.cons c<|.cons c<|.nil _)<|.cons _ .slnil) fun k14 H15=>an<|ap<|J c<|J c<|p (v_maxT c c)<|O c<|ap<|p (bn c c)<|J c<|ad<|cM ((mx s1.1 (IntKind.i64.wrap (s1.2.1 + 1))),(IntKind.i64.wrap (s1.2.1 + 1)),(IntKind.i64.wrap (s1.2.2 + 1))) H15 (.cons c<|.cons c<|.cons c<|.cons c<|.cons c<|.cons c<|.cons c<|.nil _)<|.cons _ .slnil) fun k4 H5=>bj<|M<|J c<|O c<|ah<|D ⟨s1.1,c,H5⟩
def xv (a0:Sl) (a1:Int) (a2:Int) (K:Bool→Hp→Prop) (Rec2:Int→Hp→Prop) (s1:Int):Hp→Prop:=br (decide (s1 < a1)) ( cl Tryz.prog pn [(sv a0),(.int .i64 2),(.int .i64 s1)] eJ fun r14=>br (!(decide (r14 ≥ a2))) ( cl Tryz.prog pn [(sv a0),(.int .i64 3),(.int .i64 s1)] eJ fun r20=>br (decide (r20 ≥ a2)) ( K false) ( Rec2 (IntKind.i64.wrap (s1 + 1)))) ( K false)) ( K true)
def sh_fair_Fair (a0:Sl) (a1:Int) (a2:Int) (K:Bool→Hp→Prop):Hp→Prop:=Lp (xv a0 a1 a2 K) 0
theorem sim_fair_Fair (a0:Sl) (a1:Int) (a2:Int) {K:Bool→Hp→Prop} {h:Hp} (H:sh_fair_Fair a0 a1 a2 K h):Ct Tryz.prog n_fair_Fair #[(sv a0),(.int .i64 a1),(.int .i64 a2)] h fun v h'=>∃ r,v = aA r∧K r h':=aw [(sv a0),(.int .i64 a1),(.int .i64 a2)] Tryz.func51 c c c fun _=>M<|O c<|ak<|M<|J c<|J c<|ad<|ax<|bG (step:=xv a0 a1 a2 K) (fun s1=>[(0,(sv a0)),(2,(.int .i64 a2)),(8,(.int .i64 a1)),(9,(.int .i64 s1))]) (fun s1=>[]) H (.cons c<|.cons c<|.cons c<|.cons c<|.nil _) .slnil fun Rec2 s1 _ H3=>M<|p (cq c c)<|ad<|ak<|av c H3 (fun k4 H5=>an<|ak<|ax<|M<|J c<|O c<|M<|J c<|J c<|aa<|F H5 en_101 fun r14 _ H6=>J c<|p (ij c c)<|J c<|V c c (aG _) (fun g7=>wv<|ag c)<|V c c (aG _) (fun g8=>wv<|ag c)<|bT H6 (fun k10 H11=>G (Y<|bN k10)<|gm H11 en_101 (aT (az c k10)<|aT c<|aT (az c k10) bW) c fun r20 _ H12=>G (Y<|bN k10)<|z_p (ag c)<|G (Y<|bN k10)<|z_p (ij c c)<|p (ao c (bN k10) c)<|ad<|av c H12 (fun k13 H14=>M<|O c<|ah<|D ⟨false,c,H14⟩) fun k13 H14=>an<|ap<|p (bn c c)<|J c<|ad<|cM (IntKind.i64.wrap (s1 + 1)) H14 (.cons c<|.cons c<|.cons c<|.cons c<|.nil _) .slnil) fun k10 H11=>W (bb<|bo k10)<|W (bb<|bo k10)<|W (bb<|bo k10)<|p (aI c (bo k10) c)<|ad<|fG c c<|M<|O c<|ah<|D ⟨false,c,H11⟩) fun k4 H5=>bj<|M<|O c<|ah<|D ⟨true,c,H5⟩
end Go.Proofs.YtemoifebbhoinaaGreatDoor
namespace Go.Proofs.YtemoifebbhoinaaGreatDoor
open Go Mb
abbrev ri:=ci
abbrev vK (s:Sl) (xs:List ri):As:=vec t_api_Pick 10 ci.C s xs
theorem pick_len (p:ri):p.C.length = 10:=rfl
theorem pick_one (p:ri):dL p.C = true:=rfl
namespace Fair
def longFrom (kind core:Int):List ri→Int→Int→Int
  | [],best,_=>best
  | p::ps,best,now=>if p.fKind = kind∧p.fCore = core then longFrom kind core ps (mx best 0) 0 else longFrom kind core ps (mx best (IntKind.i64.wrap (now + 1))) (IntKind.i64.wrap (now + 1))
def longest (ps:List ri) (kind core:Int):Int:=longFrom kind core ps 0 0
def okCore (ps:List ri) (b:Int) (c:Nat):Bool:=decide (longest ps 2 c < b) && decide (longest ps 3 c < b)
def fair (ps:List ri) (cores b:Int):Bool:=(List.range cores.toNat).all (okCore ps b)
def pk (kind:Int) (c:Nat):ri:=⟨kind,c,0,⟨0,0,0,0,0⟩,0,0⟩
def line (kind:Int) (c:Nat):List ri:=(List.range c).map (pk kind)
def lines (c:Nat) (kinds:List Int):List ri:=kinds.flatMap fun k=>line k c
def turns (c n:Nat):List ri:=(List.range n).flatMap fun _=>lines c [3,2]
def rounds (cores n:Int):List ri:=if cores < 1∨cores > 8∨n < 0∨n > 500 then [] else turns cores.toNat n.toNat
theorem line_len (kind:Int) (c:Nat):(line kind c).length = c:=by simp [line]
theorem line_succ (kind:Int) (c:Nat):line kind (c + 1) = line kind c++[pk kind c]:=by simp [line,List.range_succ]
theorem turns_succ (c n:Nat):turns c (n + 1) = turns c n++lines c [3,2]:=by simp [turns,List.range_succ]
theorem lines_len (c:Nat):∀ (ks:List Int),(lines c ks).length = ks.length * c
  | []=>by simp [lines]
  | k::ks=>by
    have:=lines_len c ks
    simp only [lines,List.flatMap_cons,List.length_append,line_len,List.length_cons,Nat.succ_mul] at this ⊢
    omega
theorem turns_len (c n:Nat):(turns c n).length = n * (2 * c):=by
  induction n with
  | zero=>simp [turns]
  | succ n ih=>rw [turns_succ,List.length_append,ih,lines_len,Nat.add_mul n 1,Nat.one_mul]; rfl
end Fair
theorem sp_fair_Longest (s:Sl) (ps:List ri) (kind core:Int) (hb:ps.length < 2 ^ 40):Sp Tryz.prog pn [sv s,.int .i64 kind,.int .i64 core] eJ [vK s ps] (fun r=>pa_ (r = Fair.longest ps kind core) [vK s ps]):=by
  intro h s0
  have hl:=(ce (j:=0) s0 rfl).1
  refine sim_fair_Longest _ _ _ ?_
  unfold sh_fair_Longest
  refine Lp.intro (fun (z:Int × Int × Int) h=>∃ n:Nat,z.2.2 = n∧n ≤ ps.length∧Fair.longFrom kind core (ps.drop n) z.1 z.2.1 = Fair.longest ps kind core∧aF [vK s ps] h) (fun (z:Int × Int × Int) _=>ps.length - z.2.2.toNat) ⟨0,rfl,Nat.zero_le _,rfl,s0⟩ ?_
  rintro ⟨best,now,i⟩ h ⟨n,rfl,hn,he,s1⟩
  unfold rA
  simp only at he ⊢
  refine aY (fun k=>?_) (fun k=>?_)
  · have hlt:n < ps.length:=by rw [hl] at k; simpa using k
    have hw:IntKind.i64.wrap ((n:Int) + 1) = ((n + 1:Nat):Int):=by rw [bP (by omega) (by omega)]; rfl
    rw [List.drop_eq_getElem_cons hlt,Fair.longFrom] at he
    refine du s1 (j:=0) rfl (by omega) (by omega) fun q hq=>?_
    refine dU (j:=0) (i:=n) (k:=0) ps[n] pick_len s1 rfl hq rfl (aD hlt) (by simp) ?_
    rw [hw]
    refine aY (fun k2=>?_) (fun k2=>?_)
    · have k2':ps[n].fKind = kind∧ps[n].fCore = core:=by simpa using k2
      rw [if_pos k2'] at he
      exact ⟨⟨n + 1,rfl,hlt,he,s1⟩,by simp; omega⟩
    · have k2':¬ (ps[n].fKind = kind∧ps[n].fCore = core):=by simpa using k2
      rw [if_neg k2'] at he
      exact ⟨⟨n + 1,rfl,hlt,he,s1⟩,by simp; omega⟩
  · have:n = ps.length:=by rw [hl] at k; simp at k; omega
    subst this
    rw [List.drop_length] at he
    exact aZ he s1
theorem sp_fair_Fair (s:Sl) (ps:List ri) (cores b:Int) (hb:ps.length < 2 ^ 40) (hc:cores < 2 ^ 62):Sp Tryz.prog n_fair_Fair [sv s,.int .i64 cores,.int .i64 b] aA [vK s ps] (fun r=>pa_ (r = Fair.fair ps cores b) [vK s ps]):=by
  intro h s0
  refine sim_fair_Fair _ _ _ ?_
  unfold sh_fair_Fair
  refine Lp.intro (fun (i:Int) h=>∃ n:Nat,i = n∧n ≤ cores.toNat∧(∀ c,c < n→Fair.okCore ps b c = true)∧aF [vK s ps] h) (fun (i:Int) _=>cores.toNat - i.toNat) ⟨0,rfl,Nat.zero_le _,fun c hc=>by omega,s0⟩ ?_
  rintro i h ⟨n,rfl,hn,ho,s1⟩
  unfold xv
  refine aY (fun k=>?_) (fun k=>?_)
  · have hlt:n < cores.toNat:=by have:=of_decide_eq_true k; omega
    have hw:IntKind.i64.wrap ((n:Int) + 1) = ((n + 1:Nat):Int):=by rw [bP (by omega) (by omega)]; rfl
    have no:Fair.okCore ps b n = false→Fair.fair ps cores b = false:=fun hf=>by
      unfold Fair.fair
      cases ha:(List.range cores.toNat).all (Fair.okCore ps b) with
      | false=>rfl
      | true=>rw [List.all_eq_true.1 ha n (List.mem_range.2 hlt)] at hf; cases hf
    refine bR (sp_fair_Longest s ps 2 n hb) (i:=0) rfl s1 fun r h2 hr s2=>?_
    subst hr
    refine aY (fun k2=>?_) (fun k2=>?_)
    · have k2':Fair.longest ps 2 n < b:=by simpa using k2
      refine bR (sp_fair_Longest s ps 3 n hb) (i:=0) rfl s2 fun r h3 hr s3=>?_
      subst hr
      refine aY (fun k3=>?_) (fun k3=>?_)
      · have k3':¬ Fair.longest ps 3 n < b:=by simp at k3; omega
        exact aZ (no (by simp [Fair.okCore,k3'])).symm s3
      · have k3':Fair.longest ps 3 n < b:=by simp at k3; omega
        rw [hw]
        refine ⟨⟨n + 1,rfl,hlt,fun c hc=>?_,s3⟩,by simp; omega⟩
        by_cases e:c = n
        · subst e; simp [Fair.okCore,k2',k3']
        · exact ho c (by omega)
    · have k2':¬ Fair.longest ps 2 n < b:=by simp at k2; omega
      exact aZ (no (by simp [Fair.okCore,k2'])).symm s2
  · have:n = cores.toNat:=by have:=of_decide_eq_false k; omega
    subst this
    refine aZ ?_ s1
    unfold Fair.fair
    exact (List.all_eq_true.2 fun c hc=>ho c (List.mem_range.1 hc)).symm
theorem sp_fair_Rounds (cores n:Int):Sp Tryz.prog vd [.int .i64 cores,.int .i64 n] ii [] (fun r=>aF [vK r (Fair.rounds cores n)]):=by
  intro h s0
  refine sim_fair_Rounds _ _ ?_
  unfold sh_fair_Rounds
  refine aY (fun k=>?_) (fun k=>?_)
  · have e1:Fair.rounds cores n = []:=if_pos (by simpa [or_assoc] using k)
    rw [e1]; exact fR s0
  · have k':¬ (cores < 1∨cores > 8∨n < 0∨n > 500):=by simp at k; omega
    have e1:Fair.rounds cores n = Fair.turns cores.toNat n.toNat:=if_neg k'
    rw [e1]
    obtain ⟨C,rfl⟩:=Int.eq_ofNat_of_zero_le (show 0 ≤ cores by omega)
    obtain ⟨N,rfl⟩:=Int.eq_ofNat_of_zero_le (show 0 ≤ n by omega)
    simp only [Int.toNat_natCast]
    refine fH (τ:=ri) [] (val:=fun x=>.agg x.C.toArray) (enc:=ci.C) xF pick_len (fun _=>rfl) s0 rfl rfl (by simp) fun v h1 s1=>?_
    refine Lp.intro (fun (z:Sl × Int) h=>∃ j:Nat,z.2 = j∧j ≤ N∧aF [vK z.1 (Fair.turns C j)] h) (fun (z:Sl × Int) _=>N - z.2.toNat) ⟨0,rfl,Nat.zero_le _,s1⟩ ?_
    rintro ⟨z,i⟩ h ⟨j,rfl,hj,s2⟩
    unfold tI
    refine aY (fun k2=>?_) (fun k2=>?_)
    · have hlt:j < N:=by have:=of_decide_eq_true k2; simp at this; exact this
      have hw:IntKind.i64.wrap ((j:Int) + 1) = ((j + 1:Nat):Int):=by rw [bP (by omega) (by omega)]; rfl
      have htl:=Fair.turns_len C j
      have hC:C ≤ 8:=by omega
      have hjb:j * (2 * C) ≤ 500 * 16:=Nat.mul_le_mul (by omega) (by omega)
      refine fH (τ:=Int) [3,2] (val:=fun x=>.int .i64 x) (enc:=cI .i64) el_Sint (dm _) (fun _=>rfl) s2 rfl rfl (by decide) fun vk h3 s3=>?_
      have hvl:=(ce (j:=0) s3 rfl).1
      refine Lp.intro (fun (y:Sl × Int) h=>∃ m:Nat,y.2 = m∧m ≤ 2∧aF [vK y.1 (Fair.turns C j++Fair.lines C (([3,2]:List Int).take m)),vec lf 1 (cI .i64) vk [3,2]] h) (fun (y:Sl × Int) _=>2 - y.2.toNat) ⟨0,rfl,Nat.zero_le _,by
        have s4:=bc (m:=[vK z (Fair.turns C j),vec lf 1 (cI .i64) vk [3,2]]) [1] s3 rfl
        simpa [Fair.lines] using s4⟩ ?_
      rintro ⟨y,i2⟩ h ⟨m,rfl,hm,s4⟩
      unfold tH
      refine aY (fun k3=>?_) (fun k3=>?_)
      · have hlt2:m < 2:=by rw [hvl] at k3; have:=of_decide_eq_true k3; simp at this; omega
        have hw2:IntKind.i64.wrap ((m:Int) + 1) = ((m + 1:Nat):Int):=by rw [bP (by omega) (by omega)]; rfl
        have hkl:m < ([3,2]:List Int).length:=hlt2
        refine du s4 (j:=1) rfl (by omega) (by simp; omega) fun q hq=>?_
        refine dU (j:=1) (i:=m) (k:=0) ([3,2]:List Int)[m] (dm _) s4 rfl hq (by simp) (aD hkl) (by simp) ?_
        have hll:=Fair.lines_len C (([3,2]:List Int).take m)
        have hlb:(([3,2]:List Int).take m).length * C ≤ 2 * 8:=Nat.mul_le_mul (by simp; omega) (by omega)
        refine Lp.intro (fun (x:Sl × Int) h=>∃ p:Nat,x.2 = p∧p ≤ C∧aF [vK x.1 (Fair.turns C j++Fair.lines C (([3,2]:List Int).take m)++Fair.line ([3,2]:List Int)[m] p),vec lf 1 (cI .i64) vk [3,2]] h) (fun (x:Sl × Int) _=>C - x.2.toNat) ⟨0,rfl,Nat.zero_le _,by simpa [Fair.line] using s4⟩ ?_
        rintro ⟨x,i3⟩ h ⟨p,rfl,hp,s5⟩
        have hpl:=Fair.line_len ([3,2]:List Int)[m] p
        unfold tG
        refine aY (fun k4=>?_) (fun k4=>?_)
        · have hlt3:p < C:=by have:=of_decide_eq_true k4; simp at this; exact this
          have hw3:IntKind.i64.wrap ((p:Int) + 1) = ((p + 1:Nat):Int):=by rw [bP (by omega) (by omega)]; rfl
          refine kM (τ:=ri) (i:=0) (enc:=ci.C) (val:=fun x=>.agg x.C.toArray) (x:=Fair.pk ([3,2]:List Int)[m] p) xF pick_len pick_one (fun _=>rfl) (by omega) rfl rfl s5 rfl (by simp only [List.length_append]; omega) (by simp only [List.length_append]; omega) fun v h6 s6=>?_
          rw [hw3]
          refine ⟨⟨p + 1,rfl,hlt3,?_⟩,by simp; omega⟩
          rw [Fair.line_succ,← List.append_assoc]
          exact s6
        · have:p = C:=by have:=of_decide_eq_false k4; simp at this; omega
          subst this
          rw [hw2]
          refine ⟨⟨m + 1,rfl,hlt2,?_⟩,by simp; omega⟩
          have et:([3,2]:List Int).take (m + 1) = ([3,2]:List Int).take m++[([3,2]:List Int)[m]]:=by rw [List.take_add_one,aD hkl]; rfl
          have el:Fair.lines p (([3,2]:List Int).take (m + 1)) = Fair.lines p (([3,2]:List Int).take m)++Fair.line ([3,2]:List Int)[m] p:=by
            rw [et]; unfold Fair.lines; rw [List.flatMap_append]; simp
          rw [el,← List.append_assoc]
          exact s5
      · have:m = 2:=by rw [hvl] at k3; have:=of_decide_eq_false k3; simp at this; omega
        subst this
        rw [hw]
        refine ⟨⟨j + 1,rfl,hlt,?_⟩,by simp; omega⟩
        rw [Fair.turns_succ]
        exact nV (l:=[vK y (Fair.turns C j++Fair.lines C [3,2])]) s4
    · have:j = N:=by have:=of_decide_eq_false k2; simp at this; omega
      subst this
      exact s2
end Go.Proofs.YtemoifebbhoinaaGreatDoor
namespace Go.Proofs.YtemoifebbhoinaaGreatDoor
open Go Mb
set_option linter.unusedVariables false
def wy (a0:Sl) (a1:Int) (K:Sl→Hp→Prop) (Rec2:(Sl × Int)→Hp→Prop) (s1:Sl × Int):Hp→Prop:=br (decide (s1.2 < (a0.len:Int))) ( ix a0 s1.2 fun q12=>ld (q12.1,q12.2 + Int.toNat s1.2 * 16) aB.C fun x13=>br ((x13.fEnv == a1) && (decide (x13.fEnd > 0))) ( hpv Tryz.prog (Instr.buildSlice nc 1 #[(0,(.agg (ac.C x13.fAnswer).toArray))]) nq fun (v26:Sl)=>hpv Tryz.prog (Builtin.append_ #[nc,nc] nc #[(sv s1.1),(sv v26)]) nq fun (v27:Sl)=>Rec2 (v27,(IntKind.i64.wrap (s1.2 + 1)))) ( Rec2 (s1.1,(IntKind.i64.wrap (s1.2 + 1))))) ( K s1.1)
def sh_twin_View (a0:Sl) (a1:Int) (K:Sl→Hp→Prop):Hp→Prop:=Lp (wy a0 a1 K) ((⟨none,0,0,none⟩:Sl),0)
theorem sim_twin_View (a0:Sl) (a1:Int) {K:Sl→Hp→Prop} {h:Hp} (H:sh_twin_View a0 a1 K h):Ct Tryz.prog n_twin_View #[(sv a0),(.int .i64 a1)] h fun v h'=>∃ r,v = nq r∧K r h':=aw [(sv a0),(.int .i64 a1)] Tryz.func52 c c c fun _=>M<|O c<|M<|O c<|ak<|M<|J c<|p (dl c Tryz.underlying42 c)<|J c<|ad<|ax<|bG (step:=wy a0 a1 K) (fun s1=>[(1,(.int .i64 a1)),(5,(sv s1.1)),(8,(sv a0)),(9,(.int .i64 (a0.len:Int))),(10,(.int .i64 s1.2))]) (fun s1=>[]) H (.cons c<|.cons c<|.cons c<|.cons c<|.cons c<|.nil _) .slnil fun Rec2 s1 _ H3=>M<|p (cq c c)<|ad<|ak<|av c H3 (fun k4 H5=>an<|ak<|ax<|M<|ck H5 fun q12 e6 h7 H8=>p (bh fu (aK c<|aX e6) c h7)<|aa<|gI H8 ag_56 c (fun _=>c) c fun x13 H9=>aa<|aP (l:=aB.C (⟨0,0,(⟨0,0,0,0,0⟩:ai),0,0,0,(⟨0,0⟩:ac),(⟨0,0,0,0⟩:am)⟩:aB)) zero_56 c c fun b7=>aa<|aR (k:=0) (vs:=aB.C x13) inf_56 c c c c c c c<|ad<|M<|p (ae kF c)<|bf (ba (k:=0) aS c c c) c<|J c<|p (bH c c)<|J c<|V c c (ay _) (fun g10=>wv<|ae dM c)<|V c c (ay _) (fun g11=>cv<|ba (k:=0) aS (az c g11) c c)<|V c c (ay _) (fun g12=>wv<|kP (az c g12) c)<|p (bO c c)<|ad<|av c H9 (fun k13 H14=>ap<|J c<|p (ae kE c)<|bf (bE (k:=0) cH c c c c) c<|aa<|aU H14 (bz (vs:=[(.agg (ac.C x13.fAnswer).toArray)]) c) c fun v26 _ H15=>aa<|aU H15 (dJ c c) c fun v27 _ H16=>O c<|ap<|p (bn c c)<|J c<|ad<|cM (v27,(IntKind.i64.wrap (s1.2 + 1))) H16 (.cons c<|.cons c<|.cons c<|.cons c<|.cons c<|.nil _)<|.cons _ .slnil) fun k13 H14=>an<|ap<|p (bn c c)<|J c<|ad<|cM (s1.1,(IntKind.i64.wrap (s1.2 + 1))) H14 (.cons c<|.cons c<|.cons c<|.cons c<|.cons c<|.nil _)<|.cons _ .slnil) fun k4 H5=>bj<|M<|J c<|O c<|ah<|D ⟨s1.1,c,H5⟩
end Go.Proofs.YtemoifebbhoinaaGreatDoor
namespace Go.Proofs.YtemoifebbhoinaaGreatDoor
open Go Mb
abbrev vA (s:Sl) (xs:List fQ):As:=vec t_api_Answer 2 ac.C s xs
theorem ans_len (p:fQ):p.C.length = 2:=rfl
theorem ans_one (p:fQ):dL p.C = true:=rfl
namespace Twin
def view (env:Int):List bq→List fQ
  | []=>[]
  | e::es=>if e.fEnv = env∧e.fEnd > 0 then e.fAnswer::view env es else view env es
def same:List fQ→List fQ→Bool
  | [],[]=>true
  | a::l,b::r=>ac.eqb a b && same l r
  | _,_=>false
theorem view_app (env:Int) (e:bq):∀ es,view env (es++[e]) = view env es++(if e.fEnv = env∧e.fEnd > 0 then [e.fAnswer] else [])
  | []=>by simp only [List.nil_append,view]
  | d::es=>by
    simp only [List.cons_append,view,view_app env e es]
    split <;> simp
theorem view_len (env:Int):∀ es,(view env es).length ≤ es.length
  | []=>Nat.le_refl _
  | e::es=>by unfold view; have:=view_len env es; split <;> simp <;> omega
end Twin
theorem sp_twin_View (s:Sl) (es:List bq) (env:Int) (hb:es.length < 2 ^ 38):Sp Tryz.prog n_twin_View [sv s,.int .i64 env] nq [vE s es] (fun r=>aF [vA r (Twin.view env es),vE s es]):=by
  intro h s0
  have hl:=(ce (j:=0) s0 rfl).1
  refine sim_twin_View _ _ ?_
  unfold sh_twin_View
  refine Lp.intro (fun (z:Sl × Int) h=>∃ n:Nat,z.2 = n∧n ≤ es.length∧aF [vA z.1 (Twin.view env (es.take n)),vE s es] h) (fun (z:Sl × Int) _=>es.length - z.2.toNat) ⟨0,rfl,Nat.zero_le _,fR s0⟩ ?_
  rintro ⟨z,i⟩ h ⟨n,rfl,hn,s1⟩
  unfold wy
  refine aY (fun k=>?_) (fun k=>?_)
  · have hlt:n < es.length:=by rw [hl] at k; simpa using k
    have hw:IntKind.i64.wrap ((n:Int) + 1) = ((n + 1:Nat):Int):=by rw [bP (by omega) (by omega)]; rfl
    have ht:es.take (n + 1) = es.take n++[es[n]]:=by simp
    refine du s1 (j:=1) rfl (by omega) (by show (n:Int) < _; omega) fun q hq=>?_
    refine dU (j:=1) (i:=n) (k:=0) es[n] iF s1 rfl hq rfl (aD hlt) (by simp) ?_
    rw [hw]
    refine aY (fun k2=>?_) (fun k2=>?_)
    · have k2':es[n].fEnv = env∧es[n].fEnd > 0:=by simpa using k2
      have hvl:=Twin.view_len env (es.take n)
      simp at hvl
      refine kM (τ:=fQ) (i:=0) (enc:=ac.C) (val:=fun x=>.agg x.C.toArray) el_Sapi_Answer ans_len ans_one (fun _=>rfl) (by omega) rfl rfl s1 rfl (by omega) (by omega) fun v h2 s2=>?_
      refine ⟨⟨n + 1,rfl,hlt,?_⟩,by simp; omega⟩
      rw [ht,Twin.view_app,if_pos k2']
      exact s2
    · have k2':¬ (es[n].fEnv = env∧es[n].fEnd > 0):=by simpa using k2
      refine ⟨⟨n + 1,rfl,hlt,?_⟩,by simp; omega⟩
      rw [ht,Twin.view_app,if_neg k2',List.append_nil]
      exact s1
  · have:n = es.length:=by rw [hl] at k; simp at k; omega
    subst this
    rw [List.take_length] at s1
    exact s1
end Go.Proofs.YtemoifebbhoinaaGreatDoor
namespace Go.Proofs.YtemoifebbhoinaaGreatDoor
open Go Mb
variable {ET:Nat} {EF:Nat × Nat}
theorem kern_nn {l:List As} {h:Hp} {x:Ptr} {k:KK} (s:aF (de x k::l) h):x.isNone = false:=nn_of (fun _ e=>by rw [e.1]; rfl) s
namespace B16
abbrev sz:eH:=⟨2,2,3⟩
def r1:=KK.run (KK.new ⟨2,2,3⟩) 0 0 ⟨1,1,0,0,0⟩
def r2:=KK.run r1.2 0 0 ⟨6,4,1,3,0⟩
def r3:=KK.run r2.2 1 0 ⟨21,4,2,9,0⟩
def r4:=KK.run r3.2 0 0 ⟨20,4,2,0,0⟩
def r5:=KK.run r4.2 0 0 ⟨7,4,0,0,0⟩
def es:=r5.2.events
theorem es_len:es.length = 5:=by kernel_rfl
theorem apart:Hist.may es sz = true:=by kernel_rfl
theorem now1:r1.2.now < 1000:=of_decide_eq_true (by kernel_rfl)
theorem now2:r2.2.now < 1000:=of_decide_eq_true (by kernel_rfl)
theorem now3:r3.2.now < 1000:=of_decide_eq_true (by kernel_rfl)
theorem now4:r4.2.now < 1000:=of_decide_eq_true (by kernel_rfl)
theorem now5:r5.2.now < 1000:=of_decide_eq_true (by kernel_rfl)
theorem lin:Judge.linear es sz = (-1,true):=by kernel_rfl
theorem acc:Judge.accesses es sz = (-1,true):=by kernel_rfl
theorem rgt:Judge.right es sz = true:=by kernel_rfl
end B16
theorem ord20 {es:List bq} (s:Sl) (h:es.length ≤ 20):Hist.Apart es→OrdOk s es:=fun ha=>sp_hist_Order20 s es h ha
theorem sp_begun16:Sp Tryz.prog kS [] aA [(etB ET EF)] (fun r=>pa_ (r = true) [(etB ET EF)]):=by
  intro h st
  refine vw ?_
  unfold oO
  refine mC (sp_kern_New ⟨2,2,3⟩ (by decide)) st fun x h1 s1=>?_
  refine dI (kern_nn s1) ?_
  refine bR (i:=0) (sp_Run x _ 0 0 ⟨1,1,0,0,0⟩ (by decide)) rfl s1 fun a1 h2 e1 s2=>?_
  refine bR (i:=0) (sp_Run x B16.r1.2 0 0 ⟨6,4,1,3,0⟩ (by have:=B16.now1; omega)) rfl s2 fun a2 h3 e2 s3=>?_
  refine bR (i:=0) (sp_Run x B16.r2.2 1 0 ⟨21,4,2,9,0⟩ (by have:=B16.now2; omega)) rfl s3 fun a3 h4 e3 s4=>?_
  refine bR (i:=0) (sp_Run x B16.r3.2 0 0 ⟨20,4,2,0,0⟩ (by have:=B16.now3; omega)) rfl s4 fun a4 h5 e4 s5=>?_
  refine bR (i:=0) (sp_Run x B16.r4.2 0 0 ⟨7,4,0,0,0⟩ (by have:=B16.now4; omega)) rfl s5 fun a5 h6 e5 s6=>?_
  refine xH (i:=0) (sS x B16.r5.2 (by have:=B16.now5; omega)) rfl s6 fun s h7 s7=>?_
  have hes:B16.es.length < 2 ^ 38:=by rw [B16.es_len]; decide
  have hes20:B16.es.length ≤ 20:=by rw [B16.es_len]; decide
  refine bR (i:=0) (sp_judge_Linear s B16.es B16.sz (by decide) hes (ord20 s hes20)) rfl s7 fun r1 h8 f1 s8=>?_
  refine bR (i:=0) (sp_judge_Access s B16.es B16.sz (by decide) hes (ord20 s hes20)) rfl s8 fun r2 h9 f2 s9=>?_
  refine mC (sp_fair_Rounds 2 3) s9 fun t h10 s10=>?_
  refine bR (i:=3) sp_Begun11 rfl s10 fun r3 h11 f3 s11=>?_
  have hl:((s.len:Int) == 5) = true:=by rw [(ce (j:=1) s11 rfl).1]; kernel_rfl
  have htl:((t.len:Int) == 12) = true:=by rw [(ce (j:=0) s11 rfl).1]; kernel_rfl
  have g1:a1 = B16.r1.1:=e1.1
  have g2:a2 = B16.r2.1:=e2.1
  have g3:a3 = B16.r3.1:=e3.1
  have g4:a4 = B16.r4.1:=e4.1
  have g5:a5 = B16.r5.1:=e5.1
  rw [B16.lin] at f1
  rw [B16.acc] at f2
  rw [f1,f2,f3,g1,g2,g3,g4,g5,hl]
  refine dZ (by kernel_rfl) ?_
  refine bR (i:=1) (ua s B16.es B16.sz hes) rfl s11 fun r4 h12 f4 s12=>?_
  refine dZ (f4.trans B16.apart) ?_
  refine xH (i:=1) (sp_hist_Order20 s B16.es hes20 (Hist.may_apart B16.apart)) rfl s12 fun o h13 s13=>?_
  have hol:((o.len:Int) == 5) = true:=by rw [(ce (j:=0) s13 rfl).1]; kernel_rfl
  refine dZ (by rw [hol,htl]; rfl) ?_
  refine bR (i:=1) (sp_fair_Fair t _ 2 5 (by decide) (by decide)) rfl s13 fun r5 h14 f5 s14=>?_
  refine dZ (f5.trans (by kernel_rfl)) ?_
  refine xH (i:=2) (sp_twin_View s B16.es 0 hes) rfl s14 fun v h15 s15=>?_
  have hvl:((v.len:Int) == 5) = true:=by rw [(ce (j:=0) s15 rfl).1]; kernel_rfl
  refine dZ hvl ?_
  refine bR (i:=3) (sp_judge_Right s B16.es B16.sz (by decide) hes (ord20 s hes20)) rfl s15 fun r6 h16 f6 s16=>?_
  exact aZ (f6.trans B16.rgt) (bZ (l:=[_,_,_,_,_]) s16)
end Go.Proofs.YtemoifebbhoinaaGreatDoor
