/- Part of the proof of: The law HistReal returns true for every input, and leaves its arguments as they were. -/
import Derived.Test.YtemoifebbhoinaaGreatDoorHistReal16
set_option linter.all false
set_option maxRecDepth 20000
namespace Go.Proofs.YtemoifebbhoinaaGreatDoor
open Go.Proofs.Tryz
open Go.IntKind (i64 u64)
open _root_.List (length_append range replicate)
open _root_.Nat (le_refl zero_le)
section
open Go Mb
variable {ET:Nat} {EF:Nat × Nat}
abbrev s3_:ByteArray:=⟨#[51]⟩
theorem sp_small3:Sp prog jI [.int .i64 3] eB [] (fun r=>pa_ (r = s3_) []):=by
 intro h st
 refine tK _ ?_
 unfold ne
 exact eD rfl (fO s3_ (fun K h=>by kernel_rfl) (aZ rfl st))
theorem sp_FormatInt3:Sp prog gP [.int .i64 3,.int .i64 10] eB [] (fun r=>pa_ (r = s3_) []):=by
 intro h st
 refine qN _ _ ?_
 unfold kx
 refine eD rfl (eD rfl (uJ sp_small3 st fun r h' hr s2=>?_))
 exact aZ hr s2
theorem sp_Itoa3':Sp prog jY [.int .i64 3] eB [] (fun r=>pa_ (r = s3_) []):=by
 intro h st
 refine uH _ ?_
 unfold nI
 exact uJ sp_FormatInt3 st fun r h' hr s2=>aZ hr s2
theorem sp_Itoa3:Sp prog uc [.int .i64 3] eB [] (fun r=>pa_ (r = s3_) []):=by
 intro h st
 refine sim_strconv_Itoa _ ?_
 unfold sh_strconv_Itoa
 exact uJ sp_Itoa3' st fun r h' hr s2=>aZ hr s2
abbrev t3_:ByteArray:=⟨#[116,114,97,112,32,51]⟩
theorem sp_Error1 (b:Nat) (t:ce) (hc:t.fBb = 3) (ht:t.fWa = Value.nilIface):Sp prog jr [pv (some (b,0))] eB [trB b t] (fun r=>pa_ (r = t3_) [trB b t]):=by
 intro h st
 refine sq _ ?_
 unfold oa
 refine dO rfl (cL ?_)
 refine bp t.fBb st (i:=0) rfl rfl rfl ?_
 rw [hc]
 refine uJ sp_Itoa3 st fun r h' hr s2=>?_
 subst hr
 refine fO t3_ (fun K h=>by kernel_rfl) ?_
 refine bp t.fWa s2 (i:=0) rfl rfl rfl ?_
 rw [ht]
 refine fO false (fun K h=>by kernel_rfl) (dO rfl ?_)
 exact aZ rfl s2
theorem sp_Error2 (b e:Nat) (t u:ce) (hc:t.fBb = 3) (ht:t.fWa = dD e) (hd:u.fBb = 3) (hu:u.fWa = Value.nilIface):Sp prog jr [pv (some (b,0))] eB [trB b t,trB e u] (fun r=>pa_ (r = pd) [trB b t,trB e u]):=by
 intro h st
 refine sq _ ?_
 unfold oa
 refine dO rfl (cL ?_)
 refine bp t.fBb st (i:=0) rfl rfl rfl ?_
 rw [hc]
 refine uJ sp_Itoa3 st fun r h' hr s2=>?_
 subst hr
 refine fO t3_ (fun K h=>by kernel_rfl) ?_
 refine bp t.fWa s2 (i:=0) rfl rfl rfl ?_
 rw [ht]
 refine fO true (fun K h=>by kernel_rfl) (eD rfl ?_)
 refine bp t.fWa s2 (i:=0) rfl rfl rfl ?_
 rw [ht]
 refine cln_en (f:=jr) (vs:=[pv (some (e,0))]) (fun K h=>by kernel_rfl) ?_
 refine bS (i:=1) (sp_Error1 e u hd hu) rfl s2 fun r h' hr s3=>?_
 subst hr
 refine fO ⟨#[58,32,116,114,97,112,32,51]⟩ (fun K h=>by kernel_rfl) ?_
 refine fO pd (fun K h=>by kernel_rfl) ?_
 exact aZ rfl s3
theorem star_ne {b d:Nat} {T T':TypeId} {c c':List Value} {l:List As} {h:Hp} (s:aB (blk b T c::blk d T' c'::l) h):b ≠ d:=by
 obtain ⟨h1,h2,dj,e,a,h3,h4,dj2,e2,a2,_⟩:=s
 rintro rfl
 have h1b:h1 b = some _:=a
 have h3b:h3 b = some _:=a2
 rcases dj b with x | x
 ·rw [h1b] at x; cases x
 ·rw [e2,un_left h3b] at x; cases x
theorem sp_Trap_Is (b d:Nat) (t w:ce):Sp prog ua [pv (some (b,0)),dD d] aC [trB b t,trB d w] (fun r=>pa_ (r = (t.fBb == w.fBb)) [trB b t,trB d w]):=by
 intro h st
 refine sim_trap_Trap_Is _ _ ?_
 unfold sh_trap_Trap_Is
 refine fO (some (d,0),true) (fun K h=>by kernel_rfl) (eD rfl (eD rfl (eD rfl (cL (cL ?_)))))
 refine bp t.fBb st (i:=0) rfl rfl rfl ?_
 refine bp w.fBb st (i:=1) rfl rfl rfl ?_
 exact aZ rfl st
theorem sp_Unwrap (b:Nat) (t:ce):Sp prog og [pv (some (b,0))] encV [trB b t] (fun r=>pa_ (r = t.fWa) [trB b t]):=by
 intro h st
 refine sim_trap_Trap_Unwrap _ ?_
 unfold su
 refine dO rfl (cL ?_)
 refine bp t.fWa st (i:=0) rfl rfl rfl ?_
 exact aZ rfl st
theorem eq_traps {K:Bool->Hp->Prop} {a b n m:Nat} {t u:ce} {l:List As} {h:Hp} (s:aB (trB a t::trB b u::l) h) (k:K false h):hpv prog (do eqGuard .eql 199 (.tmp n) (.tmp m) (dD a) (dD b); binOp .eql 199 (dD a) (dD b):Sem Value) aC K h:=by
 obtain ⟨g1,a1,sub1⟩:=dV (l:=trB a t::trB b u::l) (A:=trB a t) (i:=0) (by rfl) s
 obtain ⟨g2,a2,sub2⟩:=dV (l:=trB a t::trB b u::l) (A:=trB b u) (i:=1) (by rfl) s
 have q1:h a = some (.cells (ce.C t).toArray oD (0,0)):=sub1 _ _ a1
 have q2:h b = some (.cells (ce.C u).toArray oD (0,0)):=sub2 _ _ a2
 have hne:=star_ne s
 have e:(a == b) = false:=by simpa using hne
 constructor
 rw [y6,da]
 refine x25 _ _ q1 q2 ?_
 rw [e]
 exact ⟨false,rfl,k⟩
theorem is_step {b d:Nat} {t w:ce} {l:List As} {h:Hp} {K:Bool->Hp->Prop} {Rec:Value->Hp->Prop} (st:aB (trB b t::trB d w::l) h)
  (h1:t.fBb = w.fBb->∀ h',aB (trB b t::trB d w::l) h'->K true h') (h0:t.fBb ≠ w.fBb->t.fWa = .nilIface->∀ h',aB (trB b t::trB d w::l) h'->K false h')
  (h2:t.fBb ≠ w.fBb->∀ e,t.fWa = dD e->∀ h',aB (trB b t::trB d w::l) h'->Rec (dD e) h') (hok:t.fWa = .nilIface\/∃ e,t.fWa = dD e):tg (dD d) true K Rec (dD b) h:=by
 unfold tg
 refine eD rfl (eq_traps st (dO rfl ?_))
 refine fO (dD b,true) (fun K h=>by kernel_rfl) (eD rfl ?_)
 refine cln_en (f:=ua) (vs:=[pv (some (b,0)),dD d]) (fun K h=>by kernel_rfl) ?_
 refine cW [] (rest:=l) (sp_Trap_Is b d t w) st rfl fun r h' s2=>?_
 obtain ⟨rfl,s3⟩:=bt.1 s2
 by_cases e:t.fBb = w.fBb
 ·exact eD (by simpa using e) (h1 e _ s3)
 ·refine dO (by simpa using e) ?_
  unfold th
  refine fO (dD b,true) (fun K h=>by kernel_rfl) (eD rfl ?_)
  refine cln_en (f:=og) (vs:=[pv (some (b,0))]) (fun K h=>by kernel_rfl) ?_
  refine bS (i:=0) (sp_Unwrap b t) rfl s3 fun r h' hr s4=>?_
  subst hr
  rcases hok with hn | ⟨x,hx⟩
  ·rw [hn]
   refine fO true (en_00 _) (eD rfl (h0 e hn _ ?_))
   simpa using s4
  ·rw [hx]
   refine fO false (en_0 x _) (dO rfl (h2 e x hx _ ?_))
   simpa using s4
theorem sp_is1 (b d:Nat) (t w:ce) (hc:t.fBb = w.fBb) (hok:t.fWa = .nilIface\/∃ e,t.fWa = dD e):Sp prog oL [dD b,dD d,.bool true] aC [trB b t,trB d w] (fun r=>pa_ (r = true) [trB b t,trB d w]):=by
 intro h st
 refine sim_errors_is _ _ _ ?_
 unfold xY
 refine ⟨fun s h=>s = dD b/\aB [trB b t,trB d w] h,fun _ _=>0,⟨rfl,st⟩,?_⟩
 rintro _ h1 ⟨rfl,s1⟩
 exact is_step s1 (fun _ h' s2=>aZ rfl s2) (fun e=>absurd hc e) (fun e=>absurd hc e) hok
theorem sp_is2 (b e d:Nat) (t u w:ce) (ht:t.fWa = dD e) (hu:u.fWa = .nilIface) (hc:t.fBb ≠ w.fBb) (hd:u.fBb ≠ w.fBb) :
  Sp prog oL [dD b,dD d,.bool true] aC [trB b t,trB e u,trB d w] (fun r=>pa_ (r = false) [trB b t,trB e u,trB d w]):=by
 intro h st
 refine sim_errors_is _ _ _ ?_
 unfold xY
 refine ⟨fun s h=>(s = dD b\/s = dD e)/\aB [trB b t,trB e u,trB d w] h,fun s _=>match s with | .iface _ (.pointer (some p))=>if p.block = b then 1 else 0 | _=>0,⟨.inl rfl,st⟩,?_⟩
 have hne:e ≠ b:=fun h=>(star_ne st) h.symm
 rintro _ h1 ⟨rfl | rfl,s1⟩
 ·refine is_step (l:=[trB e u]) (bb [0,1] s1 rfl) (fun x=>absurd x hc) (fun _ x=>by rw [ht] at x; cases x) (fun _ x hx h' s2=>?_) (.inr ⟨e,ht⟩)
  rw [ht] at hx
  rw [← hx]
  exact ⟨⟨.inr rfl,bb [0,1] s2 rfl⟩,by show (if e = b then 1 else 0) < (if b = b then 1 else 0); rw [if_pos rfl,if_neg hne]; exact Nat.one_pos⟩
 ·refine is_step (l:=[trB b t]) (bb [1,1] s1 rfl) (fun x=>absurd x hd) (fun _ _ h' s2=>aZ rfl (bb [2,0] s2 rfl)) (fun _ x hx=>by rw [hu] at hx; cases hx) (.inl hu)
theorem sp_Is1 (b d:Nat) (t w:ce) (hc:t.fBb = w.fBb) (hok:t.fWa = .nilIface\/∃ e,t.fWa = dD e):Sp prog oM [dD b,dD d] aC [trB b t,trB d w] (fun r=>pa_ (r = true) [trB b t,trB d w]):=by
 intro h st
 refine sim_errors_Is _ _ ?_
 unfold xZ
 refine fO false (en_0 b _) (eD rfl (fO false (en_0 d _) (dO rfl ?_)))
 refine ux (rtV bg) (fun K h=>x7 d K h) ?_
 refine ux true (fun K h=>x13 K h) ?_
 refine cW [] (rest:=[]) (sp_is1 b d t w hc hok) st rfl fun r h' s2=>?_
 obtain ⟨rfl,s3⟩:=bt.1 s2
 exact aZ rfl s3
theorem sp_Is2 (b e d:Nat) (t u w:ce) (ht:t.fWa = dD e) (hu:u.fWa = .nilIface) (hc:t.fBb ≠ w.fBb) (hd:u.fBb ≠ w.fBb) :
  Sp prog oM [dD b,dD d] aC [trB b t,trB e u,trB d w] (fun r=>pa_ (r = false) [trB b t,trB e u,trB d w]):=by
 intro h st
 refine sim_errors_Is _ _ ?_
 unfold xZ
 refine fO false (en_0 b _) (eD rfl (fO false (en_0 d _) (dO rfl ?_)))
 refine ux (rtV bg) (fun K h=>x7 d K h) ?_
 refine ux true (fun K h=>x13 K h) ?_
 refine cW [] (rest:=[]) (sp_is2 b e d t u w ht hu hc hd) st rfl fun r h' s2=>?_
 obtain ⟨rfl,s3⟩:=bt.1 s2
 exact aZ rfl s3
theorem vM {α:Type} {A:α->As} {l:List As} {h:Hp} (s:aB (ex A::l) h):∃ x,aB (A x::l) h:=by
 obtain ⟨h1,h2,d,e,⟨x,a⟩,s2⟩:=s
 exact ⟨x,h1,h2,d,e,a,s2⟩
abbrev tr3:ce:=⟨3,-1,⟨0,0,0,0,0⟩,.nilIface⟩
abbrev tr4:ce:=⟨4,-1,⟨0,0,0,0,0⟩,.nilIface⟩
abbrev tr32 (e:Nat):ce:=⟨3,2,⟨1,2,0,0,0⟩,dD e⟩
theorem sp_begun1:Sp prog me [] aC [(etB ET EF)] (fun r=>pa_ (r = true) [(etB ET EF)]):=by
 intro h st
 refine xQ ?_
 unfold qn
 refine cW [] (rest:=[(etB ET EF)]) (sp_Of 3 (by decide)) st rfl fun r h1 s1=>?_
 obtain ⟨e,x1⟩:=vM s1
 obtain ⟨rfl,y1⟩:=bt.1 x1
 refine cW [1,0] (rest:=[]) (sp_In 2 ⟨1,2,0,0,0⟩ e tr3) y1 rfl fun r h2 s2=>?_
 obtain ⟨b,x2⟩:=vM s2
 obtain ⟨rfl,y2⟩:=bt.1 x2
 refine bS (i:=1) (sp_First b) rfl y2 fun r h3 hr s3=>?_
 subst hr
 refine fO false (en_0 b _) (dO rfl (eD rfl (cL ?_)))
 refine bp 2 s3 (i:=0) rfl rfl rfl (eD rfl ?_)
 refine ld_s ⟨1,2,0,0,0⟩ s3 (i:=0) rfl (fun j v hj=>?_) (eD rfl ?_)
 ·rcases j with _ | _ | _ | _ | _ | j <;> first | exact hj | (simp [ak.C] at hj)
 refine bp 3 s3 (i:=0) rfl rfl rfl (eD rfl ?_)
 refine cW [1,0] (rest:=[_]) (sp_Code b (tr32 e)) s3 rfl fun r h4 s4=>?_
 obtain ⟨rfl,y4⟩:=bt.1 s4
 refine eD rfl ?_
 refine cW [] (rest:=[]) (sp_Depth2 b e (tr32 e) tr3 rfl rfl) y4 rfl fun r h5 s5=>?_
 obtain ⟨rfl,y5⟩:=bt.1 s5
 refine eD rfl ?_
 refine cW [] (rest:=[_,_,_]) (sp_Of 3 (by decide)) y5 rfl fun r h6 s6=>?_
 obtain ⟨d,x6⟩:=vM s6
 obtain ⟨rfl,y6⟩:=bt.1 x6
 refine cW [2,0] (rest:=[_,_]) (sp_Is1 b d (tr32 e) tr3 rfl (.inr ⟨e,rfl⟩)) y6 rfl fun r h7 s7=>?_
 obtain ⟨rfl,y7⟩:=bt.1 s7
 refine eD rfl ?_
 refine cW [] (rest:=[_,_,_,_]) (sp_Of 4 (by decide)) y7 rfl fun r h8 s8=>?_
 obtain ⟨f,x8⟩:=vM s8
 obtain ⟨rfl,y8⟩:=bt.1 x8
 refine cW [1,3,0] (rest:=[_,_]) (sp_Is2 b e f (tr32 e) tr3 tr4 rfl rfl (show (3:Int) ≠ 4 by decide) (show (3:Int) ≠ 4 by decide)) y8 rfl fun r h9 s9=>?_
 obtain ⟨rfl,y9⟩:=bt.1 s9
 refine eD rfl ?_
 refine cln_en (f:=jr) (vs:=[pv (some (b,0))]) (fun K h=>by kernel_rfl) ?_
 refine cW [] (rest:=[_,_,_]) (sp_Error2 b e (tr32 e) tr3 rfl rfl rfl rfl) y9 rfl fun r h10 s10=>?_
 obtain ⟨rfl,y10⟩:=bt.1 s10
 refine fO true (fun K h=>by kernel_rfl) (eD rfl ?_)
 refine uJ sp_Of0 y10 fun r h11 hr s11=>?_
 subst hr
 refine fO true (en_00 _) ?_
 exact aZ rfl (cd (l:=[_,_,_,_]) s11)
end
section
open Go Mb
def sh_cell_New (a0:Int) (K:Ptr->Hp->Prop):Hp->Prop:=nw rr (oX.C (⟨a0,0⟩:oX)) fun b5=>K (some (b5,0))
theorem sim_cell_New (a0:Int) {K:Ptr->Hp->Prop} {h:Hp} (H:sh_cell_New a0 K h):cl prog uh [(.int .u64 a0)] qb K h:=z_i func209 p p fun _=>O<|U p<|O<|M p<|J (bd p<|build_285_0 a0)<|aa<|iw p p p H fun b5 _ H1=>U p<|aj<|Z ⟨some (b5,0),p,H1⟩
def sh_cell_Cell_Up (a0:Ptr) (a1:Int) (K:(Int × Bool)->Hp->Prop):Hp->Prop:=br a0.isNone ( K (0,false)) ( nn a0 fun q9=>ld (q9.1,q9.2 + 1) (cI .i64) fun x11=>st (q9.1,q9.2 + 1) [.int .i64 (i64.wrap (x11 + 1))]<|ld (q9.1,q9.2 + 0) (cI .u64) fun x18=>br (decide (x18 >= a1)) ( ld (q9.1,q9.2 + 0) (cI .u64) fun x24=>K (x24,false)) ( ld (q9.1,q9.2 + 0) (cI .u64) fun x28=>st (q9.1,q9.2 + 0) [.int .u64 (u64.wrap (x28 + 1))]<|ld (q9.1,q9.2 + 0) (cI .u64) fun x35=>K (x35,true)))
theorem sim_cell_Cell_Up (a0:Ptr) (a1:Int) {K:(Int × Bool)->Hp->Prop} {h:Hp} (H:sh_cell_Cell_Up a0 a1 K h):cl prog pQ [(pv a0),(.int .u64 a1)] bN K h:=z_i func211 p p fun _=>O<|J (av p)<|U p<|am<|O<|M p<|J (cA underlying266 p)<|ae<|ax p H (fun k1 H2=>O<|J (av p)<|U p<|aj<|bD (bW p (cg p)<|cg p) ⟨(0,false),p,H2⟩) fun k1 H2=>ap<|O<|M p<|bK H2 fun q9 e3 H4=>J (aK<|aJ p<|ar e3)<|J (ah tv p)<|aa<|aW H4 ba p (fun _=>p) p fun x11 H5=>J (bk p p)<|J (aK<|aJ p<|ar e3)<|J (ah tv p)<|aa<|di lL p p p p p H5 fun _ H6=>ae<|am<|O<|M (aJ p<|ar e3)<|J (aK p)<|J (ah oR p)<|aa<|aW H6 cG p (fun _=>p) p fun x18 H7=>M p<|J (jF p p)<|ae<|ax p H7 (fun k8 H9=>O<|M (aJ p<|ar e3)<|J (aK p)<|J (ah oR p)<|aa<|aW H9 cG p (fun _=>p) p fun x24 H10=>J (av p)<|U p<|aj<|bD (bW p (cg p)<|cg p) ⟨(x24,false),p,H10⟩) fun k8 H9=>ap<|O<|M (aJ p<|ar e3)<|J (aK p)<|J (ah oR p)<|aa<|aW H9 cG p (fun _=>p) p fun x28 H11=>J (bk p p)<|J (aK p)<|J (ah oR p)<|aa<|di inf_22 p p p p p H11 fun _ H12=>ae<|O<|M (aJ p<|ar e3)<|J (aK p)<|J (ah oR p)<|aa<|aW H12 cG p (fun _=>p) p fun x35 H13=>J (av p)<|U p<|aj<|bD (bW p (cg p)<|cg p) ⟨(x35,true),p,H13⟩
def vo (a0:Ptr) (K:Int->Hp->Prop):Hp->Prop:=br a0.isNone ( K 0) ( nn a0 fun q6=>ld (q6.1,q6.2 + 1) (cI .i64) fun x8=>st (q6.1,q6.2 + 1) [.int .i64 (i64.wrap (x8 + 1))]<|ld (q6.1,q6.2 + 0) (cI .u64) fun x15=>K x15)
theorem sim_cell_Cell_Load (a0:Ptr) {K:Int->Hp->Prop} {h:Hp} (H:vo a0 K h):cl prog mR [(pv a0)] hH K h:=z_i func224 p p fun _=>O<|U p<|am<|O<|M p<|J (cA underlying266 p)<|ae<|ax p H (fun k1 H2=>O<|U p<|aj<|Z ⟨0,p,H2⟩) fun k1 H2=>ap<|O<|M p<|bK H2 fun q6 e3 H4=>J (aK<|aJ p<|ar e3)<|J (ah tv p)<|aa<|aW H4 ba p (fun _=>p) p fun x8 H5=>J (bk p p)<|J (aK<|aJ p<|ar e3)<|J (ah tv p)<|aa<|di lL p p p p p H5 fun _ H6=>ae<|O<|M (aJ p<|ar e3)<|J (aK p)<|J (ah oR p)<|aa<|aW H6 cG p (fun _=>p) p fun x15 H7=>U p<|aj<|Z ⟨x15,p,H7⟩
def wT (a0:Ptr) (a1:Int) (a2:Int) (K:Bool->Hp->Prop):Hp->Prop:=br a0.isNone ( K false) ( nn a0 fun q10=>ld (q10.1,q10.2 + 1) (cI .i64) fun x12=>st (q10.1,q10.2 + 1) [.int .i64 (i64.wrap (x12 + 1))]<|ld (q10.1,q10.2 + 0) (cI .u64) fun x19=>br (x19 != a1) ( K false) ( st (q10.1,q10.2 + 0) [.int .u64 a2]<|K true))
theorem sim_cell_Cell_Cas (a0:Ptr) (a1:Int) (a2:Int) {K:Bool->Hp->Prop} {h:Hp} (H:wT a0 a1 a2 K h):cl prog sg [(pv a0),(.int .u64 a1),(.int .u64 a2)] aC K h:=z_i func225 p p fun _=>O<|U p<|am<|O<|M p<|J (cA underlying266 p)<|ae<|ax p H (fun k1 H2=>O<|U p<|aj<|Z ⟨false,p,H2⟩) fun k1 H2=>ap<|O<|M p<|bK H2 fun q10 e3 H4=>J (aK<|aJ p<|ar e3)<|J (ah tv p)<|aa<|aW H4 ba p (fun _=>p) p fun x12 H5=>J (bk p p)<|J (aK<|aJ p<|ar e3)<|J (ah tv p)<|aa<|di lL p p p p p H5 fun _ H6=>ae<|am<|O<|M (aJ p<|ar e3)<|J (aK p)<|J (ah oR p)<|aa<|aW H6 cG p (fun _=>p) p fun x19 H7=>M p<|J (qz p p)<|ae<|ax p H7 (fun k8 H9=>O<|U p<|aj<|Z ⟨false,p,H9⟩) fun k8 H9=>ap<|O<|M (aJ p<|ar e3)<|M p<|J (aK p)<|J (ah oR p)<|aa<|di inf_22 p p p p p H9 fun _ H10=>ae<|O<|U p<|aj<|Z ⟨true,p,H10⟩
end
section
open Go Mb
def sh_ticket_New (K:Ptr->Hp->Prop):Hp->Prop:=cl prog uh [(.int .u64 0)] qb fun r1=>cl prog uh [(.int .u64 0)] qb fun r2=>nw nE (lc.C (⟨r1,r2⟩:lc)) fun b4=>K (some (b4,0))
theorem sim_ticket_New {K:Ptr->Hp->Prop} {h:Hp} (H:sh_ticket_New K h):cl prog yk [] uD K h:=z_i func210 p p fun _=>O<|U p<|O<|aa<|D H en_209 fun r1 _ H1=>aa<|D H1 en_209 fun r2 _ H2=>J (bd p<|build_287_0_1 r1 r2)<|aa<|iw p p p H2 fun b4 _ H3=>U p<|aj<|Z ⟨some (b4,0),p,H3⟩
def sy (a0:Ptr) (K:Int->Hp->Prop):Hp->Prop:=br a0.isNone ( K 0) ( nn a0 fun q9=>ld (q9.1,q9.2 + 0) cP fun x11=>cl prog pQ [(pv x11),(.int .u64 18446744073709551615)] bN fun r12=>K (u64.wrap (r12.1 - 1)))
theorem sim_ticket_Lock_Draw (a0:Ptr) {K:Int->Hp->Prop} {h:Hp} (H:sy a0 K h):cl prog ol [(pv a0)] hH K h:=z_i func212 p p fun _=>O<|U p<|am<|O<|M p<|J (cA underlying268 p)<|ae<|ax p H (fun k1 H2=>O<|U p<|aj<|Z ⟨0,p,H2⟩) fun k1 H2=>ap<|O<|M p<|bK H2 fun q9 e3 H4=>J (aK<|aJ p<|ar e3)<|J (ah fld_287_0 p)<|aa<|aW H4 sc_266 p (fun _=>p) p fun x11 H5=>aa<|D H5 en_211 fun r12 _ H6=>M p<|J (al p p)<|J (al p p)<|J (av p)<|U p<|O<|M p<|J (iT p p)<|U p<|aj<|Z ⟨u64.wrap (r12.1 - 1),p,H6⟩
def sw (a0:Ptr) (a1:Int) (K:Bool->Hp->Prop):Hp->Prop:=br (!a0.isNone) ( nn a0 fun q9=>ld (q9.1,q9.2 + 1) cP fun x11=>cl prog mR [(pv x11)] hH fun r12=>br (r12 == a1) ( ld (q9.1,q9.2 + 0) cP fun x21=>cl prog mR [(pv x21)] hH fun r22=>K (decide (a1 < r22))) ( K false)) ( K false)
theorem sim_ticket_Lock_Turn (a0:Ptr) (a1:Int) {K:Bool->Hp->Prop} {h:Hp} (H:sw a0 a1 K h):cl prog kE [(pv a0),(.int .u64 a1)] aC K h:=z_i func214 p p fun _=>O<|U p<|O<|M p<|J (v_pneT underlying268 p)<|M p<|W p p (ay _) (fun g1=>wv<|ai p)<|bU H (fun k3 H4=>bK H4 fun q9 e5 H6=>G (F k3)<|z_p (aK<|aJ (aG p k3)<|ar e5)<|G (F k3)<|z_p (ah fld_287_1 p)<|G (F k3)<|aW H6 sc_266 p (fun _=>p) p fun x11 H7=>G (F k3)<|D H7 en_224 fun r12 _ H8=>G (F k3)<|z_p (ai p)<|G (F k3)<|z_p (bP p p)<|J (aS p k3 p)<|M p<|W p p (ay _) (fun g9=>wv<|ai p)<|W p p (ay _) (fun g10=>wv<|ai<|aJ p<|ar e5)<|W p p (ay _) (fun g11=>wv<|aK<|aG p g11)<|W p p (ay _) (fun g12=>wv<|ah fld_287_0<|aG p g12)<|bU H8 (fun k14 H15=>G (F k14)<|aW H15 sc_266 (aG p k14) (fun _=>p) p fun x21 H16=>G (F k14)<|D H16 en_224 fun r22 _ H17=>G (F k14)<|z_p (cj (aG p k14) p)<|J (aS p k14 p)<|U p<|aj<|Z ⟨decide (a1 < r22),p,H17⟩) fun k14 H15=>Y (aT k14)<|Y (aT k14)<|Y (aT k14)<|J (au p k14 p)<|U p<|aj<|Z ⟨false,p,H15⟩) fun k3 H4=>Y (aT k3)<|Y (aT k3)<|Y (aT k3)<|Y (aT k3)<|Y (aT k3)<|Y (aT k3)<|J (au p k3 p)<|M p<|Y p<|Y p<|Y p<|Y p<|Y p<|Y p<|Y p<|J (au p p p)<|U p<|aj<|Z ⟨false,p,H4⟩
def sx (a0:Ptr) (a1:Int) (K:Bool->Hp->Prop):Hp->Prop:=cl prog kE [(pv a0),(.int .u64 a1)] aC fun r7=>br r7 ( nn a0 fun q10=>ld (q10.1,q10.2 + 1) cP fun x12=>cl prog sg [(pv x12),(.int .u64 a1),(.int .u64 (u64.wrap (a1 + 1)))] aC fun r16=>K r16) ( K false)
theorem sim_ticket_Lock_Pass (a0:Ptr) (a1:Int) {K:Bool->Hp->Prop} {h:Hp} (H:sx a0 a1 K h):cl prog oh [(pv a0),(.int .u64 a1)] aC K h:=z_i func215 p p fun _=>O<|U p<|O<|M p<|M p<|aa<|D H en_214 fun r7 _ H1=>M p<|W p p (ay _) (fun g2=>wv<|ai p)<|bU H1 (fun k4 H5=>bK H5 fun q10 e6 H7=>G (F k4)<|z_p (aK<|aJ (aG p k4)<|ar e6)<|G (F k4)<|z_p (ah fld_287_1 p)<|G (F k4)<|aW H7 sc_266 p (fun _=>p) p fun x12 H8=>G (F k4)<|z_p (ai p)<|G (F k4)<|z_p (ai p)<|G (F k4)<|z_p (bk p p)<|G (F k4)<|D H8 en_225 fun r16 _ H9=>J (aS p k4 p)<|U p<|aj<|Z ⟨r16,p,H9⟩) fun k4 H5=>Y (aT k4)<|Y (aT k4)<|Y (aT k4)<|Y (aT k4)<|Y (aT k4)<|Y (aT k4)<|Y (aT k4)<|J (au p k4 p)<|U p<|aj<|Z ⟨false,p,H5⟩
end
section
open Go Mb
def ly (x:Ptr) (c:Int × Int):As:=fun h=>∃ b:Nat,(x = some (b,0))/\aB [blk b rr [.int .u64 c.1,.int .i64 c.2]] h
theorem cell_op {x:Ptr} {c:Int × Int} {l:List As} {h:Hp} (s0:aB (ly x c::l) h):∃ b,x = some (b,0)/\aB (blk b rr [.int .u64 c.1,.int .i64 c.2]::l) h:=by
 obtain ⟨b,hx,st⟩:=op_ s0
 exact ⟨b,hx,st⟩
theorem cell_cl {b:Nat} {v n:Int} {l:List As} {h:Hp} (st:aB (blk b rr [.int .u64 v,.int .i64 n]::l) h):aB (ly (some (b,0)) (v,n)::l) h:=cl_ (m:=fun b=>[blk b rr [.int .u64 (v,n).1,.int .i64 (v,n).2]]) b rfl st
namespace Cell
def tick (c:Int × Int):Int × Int:=(c.1,i64.wrap (c.2 + 1))
def cas (c:Int × Int) (o v:Int):Bool × Int × Int:=if c.1 = o then (true,v,(tick c).2) else (false,tick c)
def up (c:Int × Int) (m:Int):(Int × Bool) × Int × Int:=if c.1 >= m then ((c.1,false),tick c) else ((u64.wrap (c.1 + 1),true),(u64.wrap (c.1 + 1),(tick c).2))
end Cell
theorem sp_cell_New (v:Int):Sp prog uh [.int .u64 v] qb [] (fun r=>aB [ly r (v,0)]):=by
 intro h st
 refine sim_cell_New _ ?_
 unfold sh_cell_New
 exact pG st fun b h' s1=>cell_cl s1
theorem sp_cell_Load (x:Ptr) (c:Int × Int):Sp prog mR [pv x] hH [ly x c] (fun r=>pa_ (r = c.1) [ly x (Cell.tick c)]):=by
 intro h s0
 obtain ⟨b,rfl,st⟩:=cell_op s0
 refine sim_cell_Cell_Load _ ?_
 unfold vo
 refine dO rfl (cL ?_)
 refine bp c.2 st (i:=0) rfl rfl rfl ?_
 refine uG (i:=0) st rfl (le_refl _) fun h2 s2=>?_
 refine bp c.1 s2 (i:=0) rfl rfl rfl ?_
 exact aZ rfl (cell_cl s2)
theorem sp_cell_Cas (x:Ptr) (c:Int × Int) (o v:Int):Sp prog sg [pv x,.int .u64 o,.int .u64 v] aC [ly x c] (fun r=>pa_ (r = (Cell.cas c o v).1) [ly x (Cell.cas c o v).2]):=by
 intro h s0
 obtain ⟨b,rfl,st⟩:=cell_op s0
 refine sim_cell_Cell_Cas _ _ _ ?_
 unfold wT
 refine dO rfl (cL ?_)
 refine bp c.2 st (i:=0) rfl rfl rfl ?_
 refine uG (i:=0) st rfl (le_refl _) fun h2 s2=>?_
 refine bp c.1 s2 (i:=0) rfl rfl rfl ?_
 refine aY (fun k=>?_) (fun k=>?_)
 ·have k':¬ c.1 = o:=by simpa using k
  have e:Cell.cas c o v = (false,Cell.tick c):=if_neg k'
  rw [e]
  exact aZ rfl (cell_cl s2)
 ·have k':c.1 = o:=by simpa using k
  have e:Cell.cas c o v = (true,v,(Cell.tick c).2):=if_pos k'
  rw [e]
  refine uG (i:=0) s2 rfl (show 0 + 0 + 1 <= 2 by decide) fun h3 s3=>?_
  exact aZ rfl (cell_cl s3)
theorem sp_cell_Up (x:Ptr) (c:Int × Int) (m:Int):Sp prog pQ [pv x,.int .u64 m] bN [ly x c] (fun r=>pa_ (r = (Cell.up c m).1) [ly x (Cell.up c m).2]):=by
 intro h s0
 obtain ⟨b,rfl,st⟩:=cell_op s0
 refine sim_cell_Cell_Up _ _ ?_
 unfold sh_cell_Cell_Up
 refine dO rfl (cL ?_)
 refine bp c.2 st (i:=0) rfl rfl rfl ?_
 refine uG (i:=0) st rfl (le_refl _) fun h2 s2=>?_
 refine bp c.1 s2 (i:=0) rfl rfl rfl ?_
 refine aY (fun k=>?_) (fun k=>?_)
 ·have k':c.1 >= m:=by simpa using k
  have e:Cell.up c m = ((c.1,false),Cell.tick c):=if_pos k'
  rw [e]
  refine bp c.1 s2 (i:=0) rfl rfl rfl ?_
  exact aZ rfl (cell_cl s2)
 ·have k':¬ c.1 >= m:=by simpa using k
  have e:Cell.up c m = ((u64.wrap (c.1 + 1),true),(u64.wrap (c.1 + 1),(Cell.tick c).2)):=if_neg k'
  rw [e]
  refine bp c.1 s2 (i:=0) rfl rfl rfl ?_
  refine uG (i:=0) s2 rfl (show 0 + 0 + 1 <= 2 by decide) fun h3 s3=>?_
  refine bp (u64.wrap (c.1 + 1)) s3 (i:=0) rfl rfl rfl ?_
  exact aZ rfl (cell_cl s3)
def wm (x:Ptr) (k:(Int × Int) × (Int × Int)):As:=fun h=>∃ bs:Nat × Ptr × Ptr,(x = some (bs.1,0))/\aB [blk bs.1 nE [pv bs.2.1,pv bs.2.2],ly bs.2.1 k.1,ly bs.2.2 k.2] h
theorem lock_op {x:Ptr} {k:(Int × Int) × (Int × Int)} {l:List As} {h:Hp} (s0:aB (wm x k::l) h):∃ b p q,x = some (b,0)/\aB (blk b nE [pv p,pv q]::ly p k.1::ly q k.2::l) h:=by
 obtain ⟨⟨b,p,q⟩,hx,st⟩:=op_ s0
 exact ⟨b,p,q,hx,st⟩
theorem lock_cl {b:Nat} {p q:Ptr} {k1 k2:Int × Int} {l:List As} {h:Hp} (st:aB (blk b nE [pv p,pv q]::ly p k1::ly q k2::l) h):aB (wm (some (b,0)) (k1,k2)::l) h :=
 cl_ (m:=fun bs:Nat × Ptr × Ptr=>[blk bs.1 nE [pv bs.2.1,pv bs.2.2],ly bs.2.1 (k1,k2).1,ly bs.2.2 (k1,k2).2]) (b,p,q) rfl st
namespace Lock
abbrev S:=(Int × Int) × (Int × Int)
def draw (k:S):Int × S:=(u64.wrap ((Cell.up k.1 18446744073709551615).1.1 - 1),((Cell.up k.1 18446744073709551615).2,k.2))
def turn (k:S) (t:Int):Bool × S:=if k.2.1 = t then (decide (t < k.1.1),(Cell.tick k.1,Cell.tick k.2)) else (false,(k.1,Cell.tick k.2))
def pass (k:S) (t:Int):Bool × S:=if (turn k t).1 then ((Cell.cas (turn k t).2.2 t (u64.wrap (t + 1))).1,((turn k t).2.1,(Cell.cas (turn k t).2.2 t (u64.wrap (t + 1))).2)) else (false,(turn k t).2)
end Lock
theorem sp_ticket_New:Sp prog yk [] uD [] (fun r=>aB [wm r ((0,0),(0,0))]):=by
 intro h st
 refine sim_ticket_New ?_
 unfold sh_ticket_New
 refine cW [] (sp_cell_New 0) st rfl fun p h1 s1=>?_
 refine cW [] (sp_cell_New 0) (dE s1) rfl fun q h2 s2=>?_
 refine pG (dE s2) fun b h3 s3=>?_
 exact lock_cl (bb [0,1] s3 rfl)
theorem sp_ticket_Draw (x:Ptr) (k:Lock.S):Sp prog ol [pv x] hH [wm x k] (fun r=>pa_ (r = (Lock.draw k).1) [wm x (Lock.draw k).2]):=by
 intro h s0
 obtain ⟨b,p,q,rfl,st⟩:=lock_op s0
 refine sim_ticket_Lock_Draw _ ?_
 unfold sy
 refine dO rfl (cL ?_)
 refine bp p st (i:=0) rfl rfl rfl ?_
 refine cW [1] (sp_cell_Up p k.1 _) st rfl fun r h1 s1=>?_
 obtain ⟨hr,s2⟩:=bt.1 s1
 subst hr
 exact aZ rfl (lock_cl (bb [1] s2 rfl))
theorem sp_ticket_Turn (x:Ptr) (k:Lock.S) (t:Int):Sp prog kE [pv x,.int .u64 t] aC [wm x k] (fun r=>pa_ (r = (Lock.turn k t).1) [wm x (Lock.turn k t).2]):=by
 intro h s0
 obtain ⟨b,p,q,rfl,st⟩:=lock_op s0
 refine sim_ticket_Lock_Turn _ _ ?_
 unfold sw
 refine eD rfl (cL ?_)
 refine bp q st (i:=0) rfl rfl rfl ?_
 refine cW [2] (sp_cell_Load q k.2) st rfl fun r h1 s1=>?_
 obtain ⟨hr,s2⟩:=bt.1 s1
 subst hr
 refine aY (fun c=>?_) (fun c=>?_)
 ·have c':k.2.1 = t:=by simpa using c
  have e:Lock.turn k t = (decide (t < k.1.1),(Cell.tick k.1,Cell.tick k.2)):=if_pos c'
  rw [e]
  refine bp p s2 (i:=1) rfl rfl rfl ?_
  refine cW [2] (sp_cell_Load p k.1) s2 rfl fun r h2 s3=>?_
  obtain ⟨hr,s4⟩:=bt.1 s3
  subst hr
  exact aZ rfl (lock_cl (bb [2] s4 rfl))
 ·have c':¬ k.2.1 = t:=by simpa using c
  have e:Lock.turn k t = (false,(k.1,Cell.tick k.2)):=if_neg c'
  rw [e]
  exact aZ rfl (lock_cl (bb [1,1] s2 rfl))
theorem sp_ticket_Pass (x:Ptr) (k:Lock.S) (t:Int):Sp prog oh [pv x,.int .u64 t] aC [wm x k] (fun r=>pa_ (r = (Lock.pass k t).1) [wm x (Lock.pass k t).2]):=by
 intro h s0
 refine sim_ticket_Lock_Pass _ _ ?_
 unfold sx
 refine cW [0] (sp_ticket_Turn x k t) s0 rfl fun r h1 s1=>?_
 obtain ⟨hr,s2⟩:=bt.1 s1
 subst hr
 refine aY (fun c=>?_) (fun c=>?_)
 ·have e:Lock.pass k t = ((Cell.cas (Lock.turn k t).2.2 t (u64.wrap (t + 1))).1,((Lock.turn k t).2.1,(Cell.cas (Lock.turn k t).2.2 t (u64.wrap (t + 1))).2)):=if_pos c
  rw [e]
  obtain ⟨b,p,q,rfl,st⟩:=lock_op s2
  refine cL (bp q st (i:=0) rfl rfl rfl ?_)
  refine cW [2] (sp_cell_Cas q _ t _) st rfl fun r h2 s3=>?_
  obtain ⟨hr,s4⟩:=bt.1 s3
  subst hr
  exact aZ rfl (lock_cl (bb [1,1] s4 rfl))
 ·have e:Lock.pass k t = (false,(Lock.turn k t).2):=by unfold Lock.pass; rw [c]; rfl
  rw [e]
  exact aZ rfl s2
end
section
open Go Mb
def ql (K:Bool->Hp->Prop):Hp->Prop:=cl prog xa [(.int .i64 2)] uE fun r24=>cl prog lX [] iO fun r25=>cl prog jf [] gT fun r26=>cl prog ue [(.int .i64 3)] qa fun r27=>cl prog uh [(.int .u64 5)] qb fun r28=>cl prog yk [] uD fun r29=>cl prog yl [(.int .i64 2)] tk fun r30=>br ((((((r24.isNone || r25.isNone) || r26.isNone) || r27.isNone) || r28.isNone) || r29.isNone) || r30.isNone) ( K false) ( cl prog eJ [(pv r25),(.int .i64 1),(.agg (an.C (⟨1,2,3⟩:an)).toArray)] bj fun r59=>cl prog pK [(pv r26),(.agg (ao.C (⟨1,5,1,1⟩:ao)).toArray)] aC fun r67=>cl prog pJ [(pv r26),(.int .i64 1),(.int .i64 5)] fW fun r70=>cl prog nV [(pv r27),(.int .i64 0),(.int .u64 4)] eF fun r74=>cl prog mL [(pv r27),(.int .i64 2)] bN fun r77=>cl prog pQ [(pv r28),(.int .u64 9)] bN fun r82=>cl prog ol [(pv r29)] hH fun r86=>cl prog jW [(pv r30)] bI fun r89=>cl prog mf [] aC fun r97=>br (((((((((((r97 && (r59 == 0)) && (fq (⟨1,2,3⟩:an)).2) && (((fq (⟨1,2,3⟩:an)).1) == 33059)) && r67) && r70.2) && (r70.1.fEa == 1)) && (r74 == 2)) && (r77.1 == 4)) && r77.2) && (r82.1 == 6)) && (r86 == 0)) ( cl prog kE [(pv r29),(.int .u64 0)] aC fun r141=>br r141 ( cl prog oh [(pv r29),(.int .u64 0)] aC fun r145=>br ((r145 && (r89.1 == 0)) && r89.2) ( cl prog fT [(pv r24),(.int .i64 1),(.int .i64 3),(.int .u64 9)] aC fun r156=>br ((r156 && (az (⟨6,0,0,0,0⟩:ak)).2) && (((az (⟨6,0,0,0,0⟩:ak)).1) == 6)) ( cl prog ie [(.agg (ak.C (⟨6,8,0,1,0⟩:ak)).toArray),(.int .i64 2)] bj fun r167=>br (r167 == 2) ( cl prog n_word_Args [(.int .i64 3)] eF fun r171=>br ((r171 == 4) && (aP 1 3)) ( cl prog mH [(pv r25),(.int .i64 2)] cC fun r179=>br ((r179.len:Int) == 1) ( cl prog qR [(pv r30)] hH fun r185=>K (r185 == 2)) ( K false)) ( K false)) ( K false)) ( K false)) ( K false)) ( K false)) ( K false))
theorem xO {K:Bool->Hp->Prop} {h:Hp} (H:ql K h):cl prog mb [] aC K h:=z_i func187 p p fun _=>O<|U p<|O<|aa<|D H en_104 fun r24 _ H1=>aa<|D H1 en_107 fun r25 _ H2=>aa<|D H2 en_59 fun r26 _ H3=>aa<|D H3 en_57 fun r27 _ H4=>J (av p)<|J (av p)<|J (av p)<|U p<|O<|aa<|D H4 en_209 fun r28 _ H5=>aa<|D H5 en_210 fun r29 _ H6=>aa<|D H6 en_105 fun r30 _ H7=>J (av p)<|J (av p)<|U p<|am<|O<|M p<|J (cA underlying152 p)<|M p<|W p p (aL _) (fun g8=>wv<|ai p)<|W p p (aL _) (fun g9=>wv<|cA underlying161<|aG p g9)<|J (dy p p)<|M p<|W p p (aL _) (fun g10=>wv<|ai p)<|W p p (aL _) (fun g11=>wv<|cA underlying114<|aG p g11)<|J (dy p p)<|M p<|W p p (aL _) (fun g12=>wv<|ai p)<|W p p (aL _) (fun g13=>wv<|cA underlying105<|aG p g13)<|J (dy p p)<|M p<|W p p (aL _) (fun g14=>wv<|ai p)<|W p p (aL _) (fun g15=>wv<|cA underlying266<|aG p g15)<|J (dy p p)<|M p<|W p p (aL _) (fun g16=>wv<|ai p)<|W p p (aL _) (fun g17=>wv<|cA underlying268<|aG p g17)<|J (dy p p)<|M p<|W p p (aL _) (fun g18=>wv<|ai p)<|W p p (aL _) (fun g19=>wv<|cA underlying154<|aG p g19)<|J (dy p p)<|ae<|ax p H7 (fun k20 H21=>O<|U p<|aj<|Z ⟨false,p,H21⟩) fun k20 H21=>ap<|O<|M p<|J (bd p<|pX 1 2 3)<|aa<|D H21 en_112 fun r59 _ H22=>U p<|O<|J (bd p<|pX 1 2 3)<|aa<|cH (vs:=[(.agg (an.C (⟨1,2,3⟩:an)).toArray)]) (bv<|ct_pte_Put (⟨1,2,3⟩:an) _) en_155 p p<|M p<|J (al p p)<|J (al p p)<|J (av p)<|U p<|O<|M p<|J (bd p<|xv 1 5 1 1)<|aa<|D H22 en_159 fun r67 _ H23=>U p<|O<|M p<|aa<|D H23 en_157 fun r70 _ H24=>M p<|J (al p p)<|J (al p p)<|aa<|aO (l:=ao.C (⟨0,0,0,0⟩:ao)) lC p p fun b12=>aa<|aQ (k:=0) (vs:=ao.C r70.1) fN p p p p p p p<|U p<|O<|M p<|aa<|D H24 en_70 fun r74 _ H25=>U p<|O<|M p<|aa<|D H25 en_97 fun r77 _ H26=>M p<|J (al p p)<|J (al p p)<|J (av p)<|U p<|O<|M p<|aa<|D H26 en_211 fun r82 _ H27=>M p<|J (al p p)<|J (al p p)<|J (av p)<|U p<|O<|M p<|aa<|D H27 en_212 fun r86 _ H28=>U p<|O<|M p<|aa<|D H28 en_171 fun r89 _ H29=>M p<|J (al p p)<|J (al p p)<|J (av p)<|U p<|O<|J (bd p<|build_34_0 6)<|aa<|cH (vs:=[(.agg (ak.C (⟨6,0,0,0,0⟩:ak)).toArray)]) (bv<|kN (⟨6,0,0,0,0⟩:ak) _) en_63 p p<|M p<|J (al p p)<|J (al p p)<|J (av p)<|U p<|O<|aa<|D H29 en_213 fun r97 _ H30=>M p<|W p p (ay _) (fun g31=>wv<|ai p)<|W p p (ay _) (fun g32=>wv<|bP (aG p g32) p)<|J (bQ p p)<|M p<|W p p (ay _) (fun g33=>wv<|ai p)<|J (bQ p p)<|M p<|W p p (ay _) (fun g34=>wv<|ai p)<|W p p (ay _) (fun g35=>wv<|bP (aG p g35) p)<|J (bQ p p)<|M p<|W p p (ay _) (fun g36=>wv<|ai p)<|J (bQ p p)<|M p<|W p p (ay _) (fun g37=>wv<|ai p)<|J (bQ p p)<|M p<|W p p (ay _) (fun g38=>wv<|ah ms p)<|W p p (ay _) (fun g39=>cv<|bc (k:=0) ba (aG p g39) p p)<|W p p (ay _) (fun g40=>wv<|bP (aG p g40) p)<|J (bQ p p)<|M p<|W p p (ay _) (fun g41=>wv<|ai p)<|W p p (ay _) (fun g42=>wv<|bP (aG p g42) p)<|J (bQ p p)<|M p<|W p p (ay _) (fun g43=>wv<|ai p)<|W p p (ay _) (fun g44=>wv<|bP (aG p g44) p)<|J (bQ p p)<|M p<|W p p (ay _) (fun g45=>wv<|ai p)<|J (bQ p p)<|M p<|W p p (ay _) (fun g46=>wv<|ai p)<|W p p (ay _) (fun g47=>wv<|bP (aG p g47) p)<|J (bQ p p)<|M p<|W p p (ay _) (fun g48=>wv<|ai p)<|W p p (ay _) (fun g49=>wv<|bP (aG p g49) p)<|J (bQ p p)<|M p<|W p p (ay _) (fun g50=>wv<|ai p)<|bU H30 (fun k52 H53=>G (F k52)<|gw H53 en_214 (aU (aG p k52)<|aU p bX) p fun r141 _ H54=>J (aS p k52 p)<|M p<|W p p (ay _) (fun g55=>wv<|ai p)<|bU H54 (fun k57 H58=>G (F k57)<|gw H58 en_215 (aU (aG p k57)<|aU p bX) p fun r145 _ H59=>J (aS p k57 p)<|M p<|W p p (ay _) (fun g60=>wv<|ai p)<|W p p (ay _) (fun g61=>wv<|bP (aG p g61) p)<|J (bQ p p)<|M p<|W p p (ay _) (fun g62=>wv<|ai p)<|J (bQ p p)<|M p<|W p p (ay _) (fun g63=>wv<|ai p)<|bU H59 (fun k65 H66=>G (F k65)<|gw H66 en_162 (aU (aG p k65)<|aU p<|aU p<|aU p bX) p fun r156 _ H67=>J (aS p k65 p)<|M p<|W p p (ay _) (fun g68=>wv<|ai p)<|J (bQ p p)<|M p<|W p p (ay _) (fun g69=>wv<|ai p)<|W p p (ay _) (fun g70=>wv<|bP (aG p g70) p)<|J (bQ p p)<|M p<|W p p (ay _) (fun g71=>wv<|bd p<|km 6 8 0 1)<|bU H67 (fun k73 H74=>G (F k73)<|gw H74 en_110 (aU (aG p k73)<|aU p bX) p fun r167 _ H75=>G (F k73)<|z_p (bP p p)<|J (aS p k73 p)<|M p<|bU H75 (fun k77 H78=>G (F k77)<|D H78 en_216 fun r171 _ H79=>G (F k77)<|z_p (bP p p)<|J (aS p k77 p)<|M p<|dh (vs:=[(.int .i64 1),(.int .i64 3)]) p p p (ay _) (fun g80=>bv<|dm 1 3 _) nu (fun g80=>p) p<|J (bQ p p)<|M p<|W p p (ay _) (fun g81=>wv<|ai p)<|bU H79 (fun k83 H84=>G (F k83)<|gw H84 en_176 (aU (aG p k83)<|aU p bX) p fun r179 _ H85=>G (F k83)<|z_p (dA p underlying39 p)<|G (F k83)<|z_p (bP p p)<|J (aS p k83 p)<|M p<|W p p (ay _) (fun g86=>wv<|ai p)<|bU H85 (fun k88 H89=>G (F k88)<|gw H89 en_217 (aU (aG p k88) bX) p fun r185 _ H90=>G (F k88)<|z_p (bP p p)<|J (aS p k88 p)<|U p<|aj<|Z ⟨(r185 == 2),p,H90⟩) fun k88 H89=>Y (aT k88)<|Y (aT k88)<|J (au p k88 p)<|U p<|aj<|Z ⟨false,p,H89⟩) fun k83 H84=>Y (aT k83)<|Y (aT k83)<|Y (aT k83)<|J (au p k83 p)<|M p<|Y p<|Y p<|Y p<|J (au p p p)<|U p<|aj<|Z ⟨false,p,H84⟩) fun k77 H78=>Y (aT k77)<|Y (aT k77)<|J (au p k77 p)<|M p<|Y p<|J (au p p p)<|M p<|Y p<|Y p<|Y p<|Y p<|J (au p p p)<|M p<|Y p<|Y p<|Y p<|J (au p p p)<|U p<|aj<|Z ⟨false,p,H78⟩) fun k73 H74=>Y (aT k73)<|Y (aT k73)<|J (au p k73 p)<|M p<|Y p<|Y p<|J (au p p p)<|M p<|Y p<|J (au p p p)<|M p<|Y p<|Y p<|Y p<|Y p<|J (au p p p)<|M p<|Y p<|Y p<|Y p<|J (au p p p)<|U p<|aj<|Z ⟨false,p,H74⟩) fun k65 H66=>Y (aT k65)<|J (au p k65 p)<|M p<|Y p<|J (au p p p)<|M p<|Y p<|Y p<|J (au p p p)<|M p<|Y p<|Y p<|Y p<|J (au p p p)<|M p<|Y p<|Y p<|J (au p p p)<|M p<|Y p<|J (au p p p)<|M p<|Y p<|Y p<|Y p<|Y p<|J (au p p p)<|M p<|Y p<|Y p<|Y p<|J (au p p p)<|U p<|aj<|Z ⟨false,p,H66⟩) fun k57 H58=>Y (aT k57)<|J (au p k57 p)<|M p<|Y p<|Y p<|J (au p p p)<|M p<|Y p<|J (au p p p)<|M p<|Y p<|Y p<|J (au p p p)<|M p<|Y p<|J (au p p p)<|M p<|Y p<|Y p<|J (au p p p)<|M p<|Y p<|Y p<|Y p<|J (au p p p)<|M p<|Y p<|Y p<|J (au p p p)<|M p<|Y p<|J (au p p p)<|M p<|Y p<|Y p<|Y p<|Y p<|J (au p p p)<|M p<|Y p<|Y p<|Y p<|J (au p p p)<|U p<|aj<|Z ⟨false,p,H58⟩) fun k52 H53=>Y (aT k52)<|J (au p k52 p)<|M p<|Y p<|Y p<|J (au p p p)<|M p<|Y p<|Y p<|J (au p p p)<|M p<|Y p<|J (au p p p)<|M p<|Y p<|Y p<|J (au p p p)<|M p<|Y p<|J (au p p p)<|M p<|Y p<|Y p<|J (au p p p)<|M p<|Y p<|Y p<|Y p<|J (au p p p)<|M p<|Y p<|Y p<|J (au p p p)<|M p<|Y p<|J (au p p p)<|M p<|Y p<|Y p<|Y p<|Y p<|J (au p p p)<|M p<|Y p<|Y p<|Y p<|J (au p p p)<|U p<|aj<|Z ⟨false,p,H53⟩
def qm (K:Bool->Hp->Prop):Hp->Prop:=cl prog mb [] aC fun r1=>K r1
theorem xP {K:Bool->Hp->Prop} {h:Hp} (H:qm K h):cl prog mc [] aC K h:=z_i func146 p p fun _=>O<|U p<|O<|aa<|D H en_187 fun r1 _ H1=>U p<|aj<|Z ⟨r1,p,H1⟩
end
section
open Go Mb
variable {ET:Nat} {EF:Nat × Nat}
section
variable {l:List As} {h:Hp} {x:Ptr}
theorem mem_nn {fs:List (List Int)} (s:aB (iK x fs::l) h):x.isNone = false:=by obtain ⟨b,_,_,rfl,_⟩:=mem_op s; rfl
theorem nn_of {α:Type} {φ:α->Prop} {m:α->List As} (hx:∀ z,φ z->x.isNone = false) (s:aB ((fun h=>∃ z,φ z/\aB (m z) h)::l) h):x.isNone = false:=by
 obtain ⟨z,f,_⟩:=op_ s
 exact hx z f
theorem table_nn {ps:List Pte} (s:aB (de x ps::l) h):x.isNone = false:=nn_of (fun _ e=>by rw [e.1]; rfl) s
theorem tlb_nn {t:List TL × Int} (s:aB (fG x t::l) h):x.isNone = false:=nn_of (fun _ e=>by rw [e.1]; rfl) s
theorem mail_nn {bs:List (List Int)} (s:aB (jJ x bs::l) h):x.isNone = false:=nn_of (fun _ e=>by rw [e.1]; rfl) s
theorem cell_nn {c:Int × Int} (s:aB (ly x c::l) h):x.isNone = false:=nn_of (fun _ e=>by rw [e]; rfl) s
theorem lock_nn {k:(Int × Int) × (Int × Int)} (s:aB (wm x k::l) h):x.isNone = false:=nn_of (fun _ e=>by rw [e]; rfl) s
theorem pool_nn {p:List Int} (s:aB (gj x p::l) h):x.isNone = false:=nn_of (fun _ e=>by rw [e.1]; rfl) s
end
theorem sp_Begun1:Sp prog mf [] aC [(etB ET EF)] (fun r=>pa_ (r = true) [(etB ET EF)]):=by
 intro h st
 refine xR ?_
 unfold qo
 exact bS (i:=0) sp_begun1 rfl st fun r h' hr s=>aZ hr s
theorem sp_begun2:Sp prog mb [] aC [(etB ET EF)] (fun r=>pa_ (r = true) [(etB ET EF)]):=by
 intro h st
 refine xO ?_
 unfold ql
 refine mY (sp_mem_New 2 (by decide) (by decide)) st fun a1 h1 s1=>?_
 refine mY pf s1 fun a2 h2 s2=>?_
 refine mY xD s2 fun a3 h3 s3=>?_
 refine mY (sp_mail_New 3 (by decide) (by decide)) s3 fun a4 h4 s4=>?_
 refine mY (sp_cell_New 5) s4 fun a5 h5 s5=>?_
 refine mY sp_ticket_New s5 fun a6 h6 s6=>?_
 refine mY (sp_pool_New 2 (by decide) (by decide)) s6 fun a7 h7 s7=>?_
 have n1:=mem_nn s1
 have n2:=table_nn s2
 have n3:=tlb_nn s3
 have n4:=mail_nn s4
 have n5:=cell_nn s5
 have n6:=lock_nn s6
 have n7:=pool_nn s7
 rw [n1,n2,n3,n4,n5,n6,n7]
 refine dO rfl ?_
 refine bS (i:=5) (kR a2 _ 1 ⟨1,2,3⟩) rfl s7 fun r1 h8 e1 s8=>?_
 refine bS (i:=4) (sp_tlb_Fill a3 _ ⟨1,5,1,1⟩) rfl s8 fun r2 h9 e2 s9=>?_
 refine bS (i:=4) (sp_tlb_Find a3 _ 1 5) rfl s9 fun r3 h10 e3 s10=>?_
 refine bS (i:=3) (sp_mail_All a4 _ 0 4 (fun l hl=>?_)) rfl s10 fun r4 h11 e4 s11=>?_
 ·have:l = []:=by simpa using hl
  subst this
  exact ⟨fun _ h=>(by cases h),.nil,by decide⟩
 refine bS (i:=3) (sp_mail_Take a4 _ 2) rfl s11 fun r5 h12 e5 s12=>?_
 refine bS (i:=2) (sp_cell_Up a5 _ 9) rfl s12 fun r6 h13 e6 s13=>?_
 refine bS (i:=1) (sp_ticket_Draw a6 _) rfl s13 fun r7 h14 e7 s14=>?_
 refine bS (i:=0) (xE a7 _) rfl s14 fun r8 h15 e8 s15=>?_
 refine bS (i:=7) sp_Begun1 rfl s15 fun r9 h16 e9 s16=>?_
 subst e1 e2 e3 e4 e5 e6 e7 e8 e9
 refine eD (by kernel_rfl) ?_
 refine bS (i:=1) (sp_ticket_Turn a6 _ 0) rfl s16 fun r10 h17 e10 s17=>?_
 subst e10
 refine eD (by kernel_rfl) ?_
 refine bS (i:=1) (sp_ticket_Pass a6 _ 0) rfl s17 fun r11 h18 e11 s18=>?_
 subst e11
 refine eD (by kernel_rfl) ?_
 refine bS (i:=6) (mC a1 _ 1 3 9) rfl s18 fun r12 h19 e12 s19=>?_
 subst e12
 refine eD (by kernel_rfl) ?_
 refine uJ (jH ⟨6,8,0,1,0⟩ 2) s19 fun r13 h20 e13 s20=>?_
 subst e13
 refine eD (by kernel_rfl) ?_
 refine uJ (sp_word_Args 3) s20 fun r14 h21 e14 s21=>?_
 subst e14
 refine eD (by kernel_rfl) ?_
 refine xt (i:=5) (sp_table_By a2 _ 2) rfl s21 fun r15 h22 s22=>?_
 have e15:((r15.len:Int) == 1) = true:=by
  rw [(cc (j:=0) s22 rfl).1]
  kernel_rfl
 refine eD e15 ?_
 refine bS (i:=1) (sp_pool_Bits a7 _) rfl s22 fun r16 h23 e16 s23=>?_
 subst e16
 refine aZ (by kernel_rfl) (cd (l:=[_,_,_,_,_,_,_,_]) s23)
theorem sp_Begun2:Sp prog mc [] aC [(etB ET EF)] (fun r=>pa_ (r = true) [(etB ET EF)]):=by
 intro h st
 refine xP ?_
 unfold qm
 exact bS (i:=0) sp_begun2 rfl st fun r h' hr s=>aZ hr s
end
section
open Go Mb
def py (K:Bool->Hp->Prop):Hp->Prop:=cl prog oK [(.agg (aF.C (⟨1,2,2⟩:aF)).toArray)] dX fun r23=>cl prog yo [(.int .i64 2)] tn fun r24=>cl prog oN [(.int .i64 3)] jj fun r25=>cl prog jf [] gT fun r26=>cl prog lX [] iO fun r27=>cl prog xa [(.int .i64 2)] uE fun r28=>br (((((r23.isNone || r24.isNone) || r25.isNone) || r26.isNone) || r27.isNone) || r28.isNone) ( K false) ( cl prog dI [(pv r23),(.int .i64 0),(.agg (ak.C (⟨1,1,0,0,0⟩:ak)).toArray)] bo fun r54=>cl prog dI [(pv r23),(.int .i64 0),(.agg (ak.C (⟨6,2,1,3,0⟩:ak)).toArray)] bo fun r60=>cl prog dI [(pv r23),(.int .i64 0),(.agg (ak.C (⟨21,2,5,77,0⟩:ak)).toArray)] bo fun r65=>cl prog dI [(pv r23),(.int .i64 0),(.agg (ak.C (⟨20,2,5,0,0⟩:ak)).toArray)] bo fun r69=>cl prog jZ [(pv r24),(.int .i64 0),(.int .i64 1),(.int .i64 1)] bj fun r73=>cl prog iI [(pv r24),(.int .i64 0),(.int .i64 1),(.int .i64 1),(.int .i64 3),(.int .i64 1)] bj fun r75=>cl prog ju [(pv r25),(.int .i64 0)] bN fun r78=>cl prog kJ [(pv r25),(.int .i64 1),(.int .u64 r78.1)] aC fun r83=>cl prog eJ [(pv r27),(.int .i64 2),(.agg (an.C (⟨1,1,1⟩:an)).toArray)] bj fun r86=>cl prog n_user_Do [(pv r26),(pv r27),(pv r28),(.int .i64 0),(.agg (ak.C (⟨20,2,3,0,0⟩:ak)).toArray)] eY fun r92=>cl prog oo [(pv r23),(.int .i64 0),(.agg (ak.C (⟨7,5,0,0,0⟩:ak)).toArray)] iS fun r97=>cl prog mc [] aC fun r98=>br ((((((r98 && r54.2) && (r54.1.fWa == 0)) && (r60.1.fWa == 0)) && (r69.1.fVal == 77)) && (r73 == 0)) && (r75 == 0)) ( cl prog lK [(pv r24),(.int .i64 0),(.int .i64 1)] db fun r127=>br (((((r127.len:Int) == 1) && (r78.1 == 1)) && r78.2) && r83) ( cl prog jP [(pv r25),(.int .u64 1)] aC fun r143=>br (!r143) ( cl prog jt [(pv r25),(.int .u64 1)] cC fun r148=>br ((((((r148.len:Int) == 1) && (r86 == 0)) && (r92.1.fWa == 0)) && (r92.2.fEa == 1)) && (nJ 3 3 4)) ( cl prog kY [(.int .i64 3)] iS fun r171=>cl prog oM [r97,r171] aC fun r172=>br r172 ( cl prog nr [(pv r23)] cC fun r176=>K ((r176.len:Int) == 1)) ( K false)) ( K false)) ( K false)) ( K false)) ( K false))
theorem wH {K:Bool->Hp->Prop} {h:Hp} (H:py K h):cl prog ll [] aC K h:=z_i func100 p p fun _=>O<|U p<|O<|J (bd p<|uA 1 2 2)<|aa<|D H en_56 fun r23 _ H1=>aa<|D H1 en_106 fun r24 _ H2=>aa<|D H2 en_58 fun r25 _ H3=>J (av p)<|J (av p)<|U p<|O<|aa<|D H3 en_59 fun r26 _ H4=>aa<|D H4 en_107 fun r27 _ H5=>aa<|D H5 en_104 fun r28 _ H6=>J (av p)<|J (av p)<|U p<|am<|O<|M p<|J (cA underlying103 p)<|M p<|W p p (aL _) (fun g7=>wv<|ai p)<|W p p (aL _) (fun g8=>wv<|cA underlying155<|aG p g8)<|J (dy p p)<|M p<|W p p (aL _) (fun g9=>wv<|ai p)<|W p p (aL _) (fun g10=>wv<|cA underlying106<|aG p g10)<|J (dy p p)<|M p<|W p p (aL _) (fun g11=>wv<|ai p)<|W p p (aL _) (fun g12=>wv<|cA underlying114<|aG p g12)<|J (dy p p)<|M p<|W p p (aL _) (fun g13=>wv<|ai p)<|W p p (aL _) (fun g14=>wv<|cA underlying161<|aG p g14)<|J (dy p p)<|M p<|W p p (aL _) (fun g15=>wv<|ai p)<|W p p (aL _) (fun g16=>wv<|cA underlying152<|aG p g16)<|J (dy p p)<|ae<|ax p H6 (fun k17 H18=>O<|U p<|aj<|Z ⟨false,p,H18⟩) fun k17 H18=>ap<|O<|M p<|J (bd p<|mZ 1 1)<|aa<|D H18 en_72 fun r54 _ H19=>M p<|J (al p p)<|J (al p p)<|aa<|aO (l:=ad.C (⟨0,0⟩:ad)) dq p p fun b7=>aa<|aQ (k:=0) (vs:=ad.C r54.1) bR p p p p p p p<|U p<|O<|M p<|J (bd p<|km 6 2 1 3)<|aa<|D H19 en_72 fun r60 _ H20=>M p<|J (al p p)<|J (al p p)<|aa<|aO (l:=ad.C (⟨0,0⟩:ad)) dq p p fun b9=>aa<|aQ (k:=0) (vs:=ad.C r60.1) bR p p p p p p p<|U p<|O<|M p<|J (bd p<|km 21 2 5 77)<|aa<|D H20 en_72 fun r65 _ H21=>ae<|O<|M p<|J (bd p<|uy 20 2 5)<|aa<|D H21 en_72 fun r69 _ H22=>M p<|J (al p p)<|J (al p p)<|aa<|aO (l:=ad.C (⟨0,0⟩:ad)) dq p p fun b11=>aa<|aQ (k:=0) (vs:=ad.C r69.1) bR p p p p p p p<|U p<|O<|M p<|aa<|D H22 en_142 fun r73 _ H23=>M p<|aa<|D H23 en_143 fun r75 _ H24=>J (av p)<|U p<|O<|M p<|aa<|D H24 en_69 fun r78 _ H25=>M p<|J (al p p)<|J (al p p)<|J (av p)<|U p<|O<|M p<|M p<|aa<|D H25 en_98 fun r83 _ H26=>U p<|O<|M p<|J (bd p<|pX 1 1 1)<|aa<|D H26 en_112 fun r86 _ H27=>U p<|O<|M p<|M p<|M p<|J (bd p<|uy 20 2 3)<|aa<|D H27 en_144 fun r92 _ H28=>M p<|J (al p p)<|J (al p p)<|aa<|aO (l:=ad.C (⟨0,0⟩:ad)) dq p p fun b19=>aa<|aO (l:=ao.C (⟨0,0,0,0⟩:ao)) lC p p fun b20=>aa<|aQ (k:=1) (vs:=ad.C r92.1) bR p p p p p p p<|aa<|aQ (k:=0) (vs:=ao.C r92.2) fN p p p p p p p<|ae<|O<|M p<|J (bd p<|mZ 7 5)<|aa<|D H28 en_145 fun r97 _ H29=>U p<|O<|aa<|D H29 en_146 fun r98 _ H30=>M p<|W p p (ay _) (fun g31=>wv<|ai p)<|J (bQ p p)<|M p<|W p p (ay _) (fun g32=>wv<|ah kV p)<|W p p (ay _) (fun g33=>cv<|bc (k:=4) pB (aG p g33) p p)<|W p p (ay _) (fun g34=>wv<|bP (aG p g34) p)<|J (bQ p p)<|M p<|W p p (ay _) (fun g35=>wv<|ah kV p)<|W p p (ay _) (fun g36=>cv<|bc (k:=3) pB (aG p g36) p p)<|W p p (ay _) (fun g37=>wv<|bP (aG p g37) p)<|J (bQ p p)<|M p<|W p p (ay _) (fun g38=>wv<|ah fld_30_1 p)<|W p p (ay _) (fun g39=>cv<|bc (k:=2) cG (aG p g39) p p)<|W p p (ay _) (fun g40=>wv<|bP (aG p g40) p)<|J (bQ p p)<|M p<|W p p (ay _) (fun g41=>wv<|ai p)<|W p p (ay _) (fun g42=>wv<|bP (aG p g42) p)<|J (bQ p p)<|M p<|W p p (ay _) (fun g43=>wv<|ai p)<|W p p (ay _) (fun g44=>wv<|bP (aG p g44) p)<|J (bQ p p)<|M p<|W p p (ay _) (fun g45=>wv<|ai p)<|bU H30 (fun k47 H48=>G (F k47)<|gw H48 en_147 (aU (aG p k47)<|aU p<|aU p bX) p fun r127 _ H49=>G (F k47)<|z_p (dA p underlying201 p)<|G (F k47)<|z_p (bP p p)<|J (aS p k47 p)<|M p<|W p p (ay _) (fun g50=>wv<|ai p)<|W p p (ay _) (fun g51=>wv<|bP (aG p g51) p)<|J (bQ p p)<|M p<|W p p (ay _) (fun g52=>wv<|ai p)<|J (bQ p p)<|M p<|W p p (ay _) (fun g53=>wv<|ai p)<|J (bQ p p)<|M p<|W p p (ay _) (fun g54=>wv<|ai p)<|bU H49 (fun k56 H57=>G (F k56)<|gw H57 en_71 (aU (aG p k56)<|aU p bX) p fun r143 _ H58=>G (F k56)<|z_p (cy p)<|J (aS p k56 p)<|M p<|W p p (ay _) (fun g59=>wv<|ai p)<|bU H58 (fun k61 H62=>G (F k61)<|gw H62 en_121 (aU (aG p k61)<|aU p bX) p fun r148 _ H63=>G (F k61)<|z_p (dA p underlying39 p)<|G (F k61)<|z_p (bP p p)<|J (aS p k61 p)<|M p<|W p p (ay _) (fun g64=>wv<|ai p)<|W p p (ay _) (fun g65=>wv<|bP (aG p g65) p)<|J (bQ p p)<|M p<|W p p (ay _) (fun g66=>wv<|ah kV p)<|W p p (ay _) (fun g67=>cv<|bc (k:=1) pB (aG p g67) p p)<|W p p (ay _) (fun g68=>wv<|bP (aG p g68) p)<|J (bQ p p)<|M p<|W p p (ay _) (fun g69=>wv<|ah ms p)<|W p p (ay _) (fun g70=>cv<|bc (k:=0) ba (aG p g70) p p)<|W p p (ay _) (fun g71=>wv<|bP (aG p g71) p)<|J (bQ p p)<|M p<|dh (vs:=[(.int .i64 3),(.int .u64 3),(.int .u64 4)]) p p p (ay _) (fun g72=>bv<|wu 3 3 4 _) en_148 (fun g72=>p) p<|J (bQ p p)<|M p<|W p p (ay _) (fun g73=>wv<|ai p)<|bU H63 (fun k75 H76=>G (F k75)<|D H76 yG fun r171 _ H77=>G (F k75)<|gw H77 en_149 (aU (aG p k75)<|aU p bX) p fun r172 _ H78=>J (aS p k75 p)<|M p<|W p p (ay _) (fun g79=>wv<|ai p)<|bU H78 (fun k81 H82=>G (F k81)<|gw H82 en_54 (aU (aG p k81) bX) p fun r176 _ H83=>G (F k81)<|z_p (dA p underlying39 p)<|G (F k81)<|z_p (bP p p)<|J (aS p k81 p)<|U p<|aj<|Z ⟨((r176.len:Int) == 1),p,H83⟩) fun k81 H82=>Y (aT k81)<|Y (aT k81)<|Y (aT k81)<|J (au p k81 p)<|U p<|aj<|Z ⟨false,p,H82⟩) fun k75 H76=>Y (aT k75)<|Y (aT k75)<|J (au p k75 p)<|M p<|Y p<|Y p<|Y p<|Y p<|J (au p p p)<|U p<|aj<|Z ⟨false,p,H76⟩) fun k61 H62=>Y (aT k61)<|Y (aT k61)<|Y (aT k61)<|J (au p k61 p)<|M p<|Y p<|Y p<|J (au p p p)<|M p<|Y p<|Y p<|Y p<|J (au p p p)<|M p<|Y p<|Y p<|Y p<|J (au p p p)<|M p<|Y p<|J (au p p p)<|M p<|Y p<|Y p<|Y p<|J (au p p p)<|M p<|Y p<|Y p<|Y p<|Y p<|J (au p p p)<|U p<|aj<|Z ⟨false,p,H62⟩) fun k56 H57=>Y (aT k56)<|Y (aT k56)<|J (au p k56 p)<|M p<|Y p<|Y p<|Y p<|Y p<|J (au p p p)<|M p<|Y p<|Y p<|J (au p p p)<|M p<|Y p<|Y p<|Y p<|J (au p p p)<|M p<|Y p<|Y p<|Y p<|J (au p p p)<|M p<|Y p<|J (au p p p)<|M p<|Y p<|Y p<|Y p<|J (au p p p)<|M p<|Y p<|Y p<|Y p<|Y p<|J (au p p p)<|U p<|aj<|Z ⟨false,p,H57⟩) fun k47 H48=>Y (aT k47)<|Y (aT k47)<|Y (aT k47)<|J (au p k47 p)<|M p<|Y p<|Y p<|J (au p p p)<|M p<|Y p<|J (au p p p)<|M p<|Y p<|J (au p p p)<|M p<|Y p<|Y p<|Y p<|J (au p p p)<|M p<|Y p<|Y p<|Y p<|Y p<|J (au p p p)<|M p<|Y p<|Y p<|J (au p p p)<|M p<|Y p<|Y p<|Y p<|J (au p p p)<|M p<|Y p<|Y p<|Y p<|J (au p p p)<|M p<|Y p<|J (au p p p)<|M p<|Y p<|Y p<|Y p<|J (au p p p)<|M p<|Y p<|Y p<|Y p<|Y p<|J (au p p p)<|U p<|aj<|Z ⟨false,p,H48⟩
def pz (K:Bool->Hp->Prop):Hp->Prop:=cl prog ll [] aC fun r1=>K r1
theorem wI {K:Bool->Hp->Prop} {h:Hp} (H:pz K h):cl prog lq [] aC K h:=z_i func50 p p fun _=>O<|U p<|O<|aa<|D H en_100 fun r1 _ H1=>U p<|aj<|Z ⟨r1,p,H1⟩
end
section
open Go Mb
variable {ET:Nat} {EF:Nat × Nat}
section
variable {l:List As} {h:Hp} {x:Ptr}
theorem plain_nn {k:PK} (s:aB (bw x k::l) h):x.isNone = false:=nn_of (fun _ e=>by rw [e.1]; rfl) s
theorem tree_nn {k:fAa.T} (s:aB (cT x k::l) h):x.isNone = false:=nn_of (fun _ e=>by rw [e.1]; rfl) s
theorem epochs_nn {k:List Int × List Int} (s:aB (fB x k::l) h):x.isNone = false:=nn_of (fun _ e=>by rw [e.1]; rfl) s
end
theorem sp_plain_Err (x:Ptr) (k:PK) (e:Int) (c:ak) (h1:(PK.do_ k e c).1.2 = true) (h2:(PK.do_ k e c).1.1.fWa ≠ 0):Sp prog oo [pv x,.int .i64 e,.agg c.C.toArray] iS [(etB ET EF),bw x k]
  (fun r=>ex fun b:Nat × Nat=>pa_ (r = dD b.1) [trB b.1 ⟨(PK.do_ k e c).1.1.fWa,e,c,dD b.2⟩,(etB ET EF),bw x k]):=by
 intro h st
 have hn:=plain_nn (bb [1] st rfl)
 refine sim_plain_Kernel_Err _ _ _ ?_
 unfold sC
 refine dO hn ?_
 refine xt (i:=1) (vX x k) rfl st fun y g1 s1=>?_
 refine bS (i:=0) (ku y k e c) rfl s1 fun r g2 hr s2=>?_
 subst hr
 refine dO (by rw [h1]; rfl) ?_
 refine cW [] (rest:=[_,_,_]) (sp_Of _ h2) s2 rfl fun r g3 s3=>?_
 obtain ⟨b,x3⟩:=vM s3
 obtain ⟨rfl,y3⟩:=bt.1 x3
 refine cW [2,0] (rest:=[_,_]) (sp_In e c b _) y3 rfl fun r g4 s4=>?_
 obtain ⟨d,x4⟩:=vM s4
 obtain ⟨rfl,y4⟩:=bt.1 x4
 refine ⟨(d,b),aZ rfl (cd (l:=[_,_]) (bb [2,2] y4 rfl))⟩
theorem sp_begun11:Sp prog ll [] aC [(etB ET EF)] (fun r=>pa_ (r = true) [(etB ET EF)]):=by
 intro h st
 refine wH ?_
 unfold py
 refine mY (sU ⟨1,2,2⟩ (by decide)) st fun a1 h1 s1=>?_
 refine mY (sp_caps_New 2 (by decide) (by decide)) s1 fun a2 h2 s2=>?_
 refine mY (sW 3 (by decide) (by decide)) s2 fun a3 h3 s3=>?_
 refine mY xD s3 fun a4 h4 s4=>?_
 refine mY pf s4 fun a5 h5 s5=>?_
 refine mY (sp_mem_New 2 (by decide) (by decide)) s5 fun a6 h6 s6=>?_
 have n1:=plain_nn s1
 have n2:=tree_nn s2
 have n3:=epochs_nn s3
 have n4:=tlb_nn s4
 have n5:=table_nn s5
 have n6:=mem_nn s6
 rw [n1,n2,n3,n4,n5,n6]
 refine dO rfl ?_
 refine bS (i:=5) (ku a1 _ 0 ⟨1,1,0,0,0⟩) rfl s6 fun r1 h7 e1 s7=>?_
 refine bS (i:=5) (ku a1 _ 0 ⟨6,2,1,3,0⟩) rfl s7 fun r2 h8 e2 s8=>?_
 refine bS (i:=5) (ku a1 _ 0 ⟨21,2,5,77,0⟩) rfl s8 fun r3 h9 e3 s9=>?_
 refine bS (i:=5) (ku a1 _ 0 ⟨20,2,5,0,0⟩) rfl s9 fun r4 h10 e4 s10=>?_
 refine bS (i:=4) (xH a2 _ 0 1 1) rfl s10 fun r5 h11 e5 s11=>?_
 refine bS (i:=4) (tI a2 _ 0 1 1 3 1) rfl s11 fun r6 h12 e6 s12=>?_
 refine bS (i:=3) (sp_epoch_Begin a3 _ 0 (by decide)) rfl s12 fun r7 h13 e7 s13=>?_
 subst e7
 refine bS (i:=3) (sp_epoch_Ack a3 _ 1 _) rfl s13 fun r8 h14 e8 s14=>?_
 refine bS (i:=1) (kR a5 _ 2 ⟨1,1,1⟩) rfl s14 fun r9 h15 e9 s15=>?_
 refine cW [2,1,0] (rest:=[_,_,_,_]) (sp_user_Do a4 a5 a6 _ _ _ 0 ⟨20,2,3,0,0⟩) s15 rfl fun r10 h16 x16=>?_
 obtain ⟨e10,s16⟩:=bt.1 x16
 subst e1 e2 e3 e4 e5 e6 e8 e9 e10
 refine cW [6,5] (rest:=[_,_,_,_,_]) (sp_plain_Err a1 _ 0 ⟨7,5,0,0,0⟩ (by kernel_rfl) (by decide)) s16 rfl fun r11 h17 x17=>?_
 obtain ⟨⟨b,b'⟩,z17⟩:=vM x17
 obtain ⟨rfl,s17⟩:=bt.1 z17
 refine bS (i:=1) sp_Begun2 rfl s17 fun r12 h18 e12 s18=>?_
 subst e12
 refine eD (by kernel_rfl) ?_
 refine xt (i:=7) (sp_caps_Below a2 _ 0 1) rfl s18 fun r13 h19 s19=>?_
 have e13:((r13.len:Int) == 1) = true:=by
  rw [(cc (j:=0) s19 rfl).1]
  kernel_rfl
 rw [e13]
 refine eD (by kernel_rfl) ?_
 refine bS (i:=7) (sp_epoch_Done a3 _ 1) rfl s19 fun r14 h20 e14 s20=>?_
 subst e14
 refine eD (by kernel_rfl) ?_
 refine xt (i:=7) (sp_epoch_Waits a3 _ 1) rfl s20 fun r15 h21 s21=>?_
 have e15:((r15.len:Int) == 1) = true:=by
  rw [(cc (j:=0) s21 rfl).1]
  kernel_rfl
 rw [e15]
 refine eD (by kernel_rfl) ?_
 refine cW [] (rest:=[_,_,_,_,_,_,_,_,_,_]) (sp_Of 3 (by decide)) s21 rfl fun r16 h22 x22=>?_
 obtain ⟨d,z22⟩:=vM x22
 obtain ⟨rfl,s22⟩:=bt.1 z22
 refine cW [3,0] (rest:=[_,_,_,_,_,_,_,_,_]) (sp_Is1 b d _ tr3 (by kernel_rfl) (.inr ⟨b',by kernel_rfl⟩)) s22 rfl fun r17 h23 x23=>?_
 obtain ⟨rfl,s23⟩:=bt.1 x23
 refine eD rfl ?_
 refine xt (i:=5) (sp_plain_Free a1 _) rfl s23 fun r18 h24 s24=>?_
 have e18:((r18.len:Int) == 1) = true:=by
  rw [(cc (j:=0) s24 rfl).1]
  kernel_rfl
 exact aZ e18 (cd (l:=[_,_,_,_,_,_,_,_,_,_,_]) (bb [0,0,0,0,0,1,1,1,1,1,1] s24 rfl))
theorem sp_Begun11:Sp prog lq [] aC [(etB ET EF)] (fun r=>pa_ (r = true) [(etB ET EF)]):=by
 intro h st
 refine wI ?_
 unfold pz
 exact bS (i:=0) sp_begun11 rfl st fun r h' hr s=>aZ hr s
end
section
open Go Mb
theorem calls_nil:∀ (n:Nat) {l:List As} {h:Hp},aB l h->aB (all je (replicate n (none:Ptr)) (replicate n (none:Option KC))::l) h
 | 0,_,_,s=>all_nil s
 | n + 1,l,h,s=>by
  have s1:=star_cons (A:=je none none) (fun _=>rfl) (calls_nil n s)
  rw [List.replicate_succ,List.replicate_succ]
  obtain ⟨h1,h2,d,e,a,h3,h4,d2,e2,b,s'⟩:=s1
  subst e2
  obtain ⟨d3,d4⟩:=Dj.of_un_right d
  exact ⟨un h1 h3,h4,Dj.un_left d4 d2,by rw [e,nz],⟨h1,h3,d3,rfl,a,b⟩,s'⟩
def newI (s:fQ) (b n:Nat) (pp pm pe:Ptr) (cs:Sl) (i:Int) (h:Hp):Prop:=∃ (j:Nat) (ts:Sl) (tp:List Ptr),i = j/\j <= n/\tp.length = j/\aB [blk b cm [pv pp,.int .i64 s.fJa,sv ts,pv pm,pv pe,sv cs,sv (⟨none,0,0,none⟩:Sl),.int .i64 0],bw pp (PK.new s),vQ tD ts tp,all fG tp (replicate j tlb0),jJ pm (replicate n []),fB pe ([],replicate n 0),vQ fK cs (replicate n none),all je (replicate n none) (replicate n none),vE (⟨none,0,0,none⟩:Sl) []] h
theorem new_round {s:fQ} {b n:Nat} {pp pm pe:Ptr} {cs:Sl} (hn8:n <= 8) {i:Int} {h:Hp} (H:newI s b n pp pm pe cs i h) (hi:i < n) :
  (both (ld (b,2) cS fun x31=>cl prog jf [] gT fun r32=>hpv prog (Instr.buildSlice bV 1 #[(0,(pv r32))]) dZ fun (v33:Sl)=>hpv prog (Builtin.append_ #[bV,bV] bV #[(sv x31),(sv v33)]) dZ fun (v34:Sl)=>Mb.st (b,2) [sv v34] fun h'=>newI s b n pp pm pe cs (i64.wrap (i + 1)) h'/\n - (i64.wrap (i + 1)).toNat < n - i.toNat)
  (cl prog jf [] gT fun r32=>ld (b,2) cS fun x31=>hpv prog (Instr.buildSlice bV 1 #[(0,(pv r32))]) dZ fun (v33:Sl)=>hpv prog (Builtin.append_ #[bV,bV] bV #[(sv x31),(sv v33)]) dZ fun (v34:Sl)=>Mb.st (b,2) [sv v34] fun h'=>newI s b n pp pm pe cs (i64.wrap (i + 1)) h'/\n - (i64.wrap (i + 1)).toNat < n - i.toNat)) h:=by
 obtain ⟨j,ts,tp,rfl,hj,htp,s6⟩:=H
 have hlt:j < n:=by omega
 have hw:i64.wrap ((j:Int) + 1) = ((j + 1:Nat):Int):=by rw [bm (by omega) (by omega)]; rfl
 rw [hw]
 have fin:∀ (r:Ptr) (v:Sl) (h:Hp),aB [fG r tlb0,blk b cm [pv pp,.int .i64 s.fJa,sv ts,pv pm,pv pe,sv cs,sv (⟨none,0,0,none⟩:Sl),.int .i64 0],bw pp (PK.new s),vQ tD v (tp++[r]),all fG tp (replicate j tlb0),jJ pm (replicate n []),fB pe ([],replicate n 0),vQ fK cs (replicate n none),all je (replicate n none) (replicate n none),vE (⟨none,0,0,none⟩:Sl) []] h ->
   Mb.st (b,2) [sv v] (fun h'=>newI s b n pp pm pe cs ((j + 1:Nat):Int) h'/\n - ((j + 1:Nat):Int).toNat < n - (j:Int).toNat) h:=by
  intro r v h s7
  refine uG (i:=1) s7 rfl (Nat.le_of_ble_eq_true rfl) fun h8 s8=>?_
  refine ⟨⟨j + 1,v,tp++[r],rfl,hlt,by simp [htp],?_⟩,by simp; omega⟩
  have s9:=all_push (by simp [htp]) (bb [0,3] s8 rfl)
  have e:replicate j tlb0++[tlb0] = replicate (j + 1) tlb0:=List.replicate_succ'.symm
  rw [e] at s9
  exact bb [1,1,1,0] s9 rfl
 refine ⟨?_,?_⟩
 ·refine bp ts s6 (i:=0) rfl rfl rfl ?_
  refine mY xD s6 fun r h7 s7=>?_
  refine la (τ:=Ptr) (i:=3) (enc:=cP) (val:=fun x=>pv x) el_SPtlb_Tlb gR cP_one (fun _=>rfl) (by omega) rfl rfl s7 rfl (by omega) (by omega) fun v h8 s8=>?_
  exact fin r v h8 s8
 ·refine mY xD s6 fun r h7 s7=>?_
  refine bp ts s7 (i:=1) rfl rfl rfl ?_
  refine la (τ:=Ptr) (i:=3) (enc:=cP) (val:=fun x=>pv x) el_SPtlb_Tlb gR cP_one (fun _=>rfl) (by omega) rfl rfl s7 rfl (by omega) (by omega) fun v h8 s8=>?_
  exact fin r v h8 s8
theorem new_start {s:fQ} {b n:Nat} {pp pm pe:Ptr} {cs:Sl} {h:Hp}
  (st:aB [blk b cm (fV.C (⟨pp,s.fJa,(⟨none,0,0,none⟩:Sl),pm,pe,cs,(⟨none,0,0,none⟩:Sl),0⟩:fV)),bw pp (PK.new s),jJ pm (replicate n []),fB pe ([],replicate n 0),vQ fK cs (replicate n none)] h):newI s b n pp pm pe cs 0 h:=by
 have s1:=fX (τ:=bu) (T:=t_api_Event) (m:=16) (enc:=aA.C) (calls_nil n (fX (τ:=Ptr) (T:=tD) (m:=1) (enc:=cP) (all_nil (A:=fG) st)))
 exact ⟨0,⟨none,0,0,none⟩,[],rfl,zero_le _,rfl,bb [4,4,2,2,2,2,2,1] s1 rfl⟩
theorem new_end {s:fQ} (hs:PK.sized s = true) {b n:Nat} (hn:s.fSa = n) {pp pm pe:Ptr} {cs:Sl} {h:Hp} (H:newI s b n pp pm pe cs n h):aB [dl (some (b,0)) (KK.new s)] h:=by
 obtain ⟨j,ts,tp,hj,hj2,htp,s6⟩:=H
 have:j = n:=by omega
 subst this
 have ok:=kok_new hs
 have e:KK.new s = ⟨PK.new s,replicate j tlb0,replicate j [],([],replicate j 0),replicate j none,[],0⟩:=by unfold KK.new; rw [hn]; rfl
 rw [e] at ok ⊢
 exact nX (z:=⟨b,pp,ts,tp,pm,pe,cs,replicate j none,⟨none,0,0,none⟩⟩) ⟨by simpa using htp,by simp⟩ ok s6
theorem sp_kern_New (s:fQ) (hs:PK.sized s = true):Sp prog ym [.agg s.C.toArray] tm [] (fun r=>aB [dl r (KK.new s)]):=by
 intro h st
 have hz:=gb.1 hs
 obtain ⟨n,hn⟩:=Int.eq_ofNat_of_zero_le (show 0 <= s.fSa by omega)
 have hn8:n <= 8:=by omega
 refine sim_kern_New _ ?_
 unfold sh_kern_New
 refine mY (sU s hs) st fun pp h1 s1=>?_
 have hpp:pp.isNone = false:=by
  obtain ⟨_,h2,_⟩:=fY s1; rw [h2]; rfl
 refine dO hpp ?_
 have mk:∀ {l:List As} {h:Hp} {K:Sl->Hp->Prop},aB l h->(∀ v h',aB (vQ fK v (replicate n none)::l) h'->K v h')->hpv prog (Instr.makeSlice nG (.int .i64 s.fSa) (.int .i64 s.fSa)) rl K h:=by
  intro l h K s2 k
  rw [hn]
  exact oO (τ:=Ptr) (x0:=none) (enc:=cP) (n:=n) (T:=fK) (m:=1) el_SPkern_call rfl s2 (by omega) (by omega) k
 have em:s.fSa.toNat = n:=by omega
 refine ⟨?_,?_⟩
 ·refine mY (sp_mail_New s.fSa (by omega) (by omega)) s1 fun pm h2 s2=>?_
  refine ⟨?_,?_⟩
  ·refine mY (sW s.fSa (by omega) (by omega)) s2 fun pe h3 s3=>?_
   rw [em] at s3
   refine mk s3 fun cs h4 s4=>?_
   refine pG s4 fun b h5 s5=>?_
   refine Lp.intro (fun (i:Int) h=>newI s b n pp pm pe cs i h) (fun (i:Int) _=>n - i.toNat) (new_start (bb [0,4,3,2,1] s5 rfl)) ?_
   intro i h H
   unfold kern_New_l1
   refine aY (fun d=>new_round hn8 H (by have:=of_decide_eq_true d; omega)) (fun d=>?_)
   have:i = n:=by obtain ⟨j,_,_,e,hj,_⟩:=H; have:=of_decide_eq_false d; omega
   subst this
   exact new_end hs hn H
  ·refine mk s2 fun cs h3 s3=>?_
   refine mY (sW s.fSa (by omega) (by omega)) s3 fun pe h4 s4=>?_
   rw [em] at s4
   refine pG s4 fun b h5 s5=>?_
   refine Lp.intro (fun (i:Int) h=>newI s b n pp pm pe cs i h) (fun (i:Int) _=>n - i.toNat) (new_start (bb [0,3,2,0,0] s5 rfl)) ?_
   intro i h H
   unfold kern_New_l2
   refine aY (fun d=>new_round hn8 H (by have:=of_decide_eq_true d; omega)) (fun d=>?_)
   have:i = n:=by obtain ⟨j,_,_,e,hj,_⟩:=H; have:=of_decide_eq_false d; omega
   subst this
   exact new_end hs hn H
 ·refine mk s1 fun cs h2 s2=>?_
  refine mY (sp_mail_New s.fSa (by omega) (by omega)) s2 fun pm h3 s3=>?_
  refine mY (sW s.fSa (by omega) (by omega)) s3 fun pe h4 s4=>?_
  rw [em] at s4
  refine pG s4 fun b h5 s5=>?_
  refine Lp.intro (fun (i:Int) h=>newI s b n pp pm pe cs i h) (fun (i:Int) _=>n - i.toNat) (new_start (bb [0,3,1,0,0] s5 rfl)) ?_
  intro i h H
  unfold kern_New_l3
  refine aY (fun d=>new_round hn8 H (by have:=of_decide_eq_true d; omega)) (fun d=>?_)
  have:i = n:=by obtain ⟨j,_,_,e,hj,_⟩:=H; have:=of_decide_eq_false d; omega
  subst this
  exact new_end hs hn H
end
section
open Go Mb
def us (a0:Int) (Rec17:(Sl × Int)->Hp->Prop) (s16:Sl × Int) (x32:Int) (Rec26:(Sl × Int)->Hp->Prop) (s25:Sl × Int):Hp->Prop:=br (decide (s25.2 < a0)) ( hpv prog (Instr.buildSlice lP 1 #[(0,(.agg (cx.C (⟨x32,s25.2,0,(⟨0,0,0,0,0⟩:ak),0,0⟩:cx)).toArray))]) iq fun (v41:Sl)=>hpv prog (Builtin.append_ #[lP,lP] lP #[(sv s25.1),(sv v41)]) iq fun (v42:Sl)=>Rec26 (v42,(i64.wrap (s25.2 + 1)))) ( Rec17 (s25.1,(i64.wrap (s16.2 + 1))))
def ut (a0:Int) (Rec11:(Sl × Int)->Hp->Prop) (s10:Sl × Int) (v27:Sl) (Rec17:(Sl × Int)->Hp->Prop) (s16:Sl × Int):Hp->Prop:=br (decide (s16.2 < (v27.len:Int))) ( ix v27 s16.2 fun q31=>ld (q31.1,q31.2 + Int.toNat s16.2 * 1) (cI .i64) fun x32=>Lp (us a0 Rec17 s16 x32) (s16.1,0)) ( Rec11 (s16.1,(i64.wrap (s10.2 + 1))))
def uu (a0:Int) (a1:Int) (K:Sl->Hp->Prop) (Rec11:(Sl × Int)->Hp->Prop) (s10:Sl × Int):Hp->Prop:=br (decide (s10.2 < a1)) ( hpv prog (Instr.buildSlice dU 2 #[(0,(.int .i64 3)),(1,(.int .i64 2))]) cC fun (v27:Sl)=>Lp (ut a0 Rec11 s10 v27) (s10.1,0)) ( K s10.1)
def sh_fair_Rounds (a0:Int) (a1:Int) (K:Sl->Hp->Prop):Hp->Prop:=br ((((decide (a0 < 1)) || (decide (a0 > 8))) || (decide (a1 < 0))) || (decide (a1 > 500))) ( K (⟨none,0,0,none⟩:Sl)) ( hpv prog (Instr.buildSlice lP 0 #[]) iq fun (v23:Sl)=>Lp (uu a0 a1 K) (v23,0))
theorem sim_fair_Rounds (a0:Int) (a1:Int) {K:Sl->Hp->Prop} {h:Hp} (H:sh_fair_Rounds a0 a1 K h):cl prog wk [(.int .i64 a0),(.int .i64 a1)] iq K h:=z_i func49 p p fun _=>O<|U p<|am<|O<|M p<|J (cj p p)<|M p<|W p p (aL _) (fun g1=>wv<|ai p)<|W p p (aL _) (fun g2=>wv<|oZ (aG p g2) p)<|J (dy p p)<|M p<|W p p (aL _) (fun g3=>wv<|ai p)<|W p p (aL _) (fun g4=>wv<|cj (aG p g4) p)<|J (dy p p)<|M p<|W p p (aL _) (fun g5=>wv<|ai p)<|W p p (aL _) (fun g6=>wv<|oZ (aG p g6) p)<|J (dy p p)<|ae<|ax p H (fun k7 H8=>O<|U p<|aj<|Z ⟨(⟨none,0,0,none⟩:Sl),p,H8⟩) fun k7 H8=>ap<|O<|aa<|aV H8 (bE (vs:=[]) p) p fun v23 _ H9=>U p<|am<|O<|M p<|M p<|ae<|aw<|bz (step:=uu a0 a1 K) (fun s10=>[(0,(.int .i64 a0)),(5,(sv s10.1)),(24,(.int .i64 a1)),(25,(.int .i64 s10.2))]) (fun s10=>[]) H9 (.cons p<|.cons p<|.cons p<|.cons p<|.nil _) .slnil fun Rec11 s10 _ H12=>O<|J (cj p p)<|ae<|am<|ax p H12 (fun k13 H14=>ap<|am<|aw<|O<|aa<|aV H14 (bE (vs:=[(.int .i64 3),(.int .i64 2)]) p) p fun v27 _ H15=>J (dA p underlying39 p)<|M p<|ae<|aw<|bz (step:=ut a0 Rec11 s10 v27) (fun s16=>[(0,(.int .i64 a0)),(5,(sv s16.1)),(24,(.int .i64 a1)),(25,(.int .i64 s10.2)),(27,(sv v27)),(28,(.int .i64 (v27.len:Int))),(29,(.int .i64 s16.2))]) (fun s16=>[]) H15 (.cons p<|.cons p<|.cons p<|.cons p<|.cons p<|.cons p<|.cons p<|.nil _) .slnil fun Rec17 s16 _ H18=>O<|J (cj p p)<|ae<|am<|ax p H18 (fun k19 H20=>ap<|am<|aw<|O<|cq H20 fun q31 e21 h22 H23=>J (be dF (aJ p<|aX e21) p h22)<|aa<|aW H23 ba p (fun _=>p) p fun x32 H24=>U p<|O<|M p<|M p<|ae<|aw<|bz (step:=us a0 Rec17 s16 x32) (fun s25=>[(0,(.int .i64 a0)),(5,(sv s25.1)),(7,(.int .i64 x32)),(24,(.int .i64 a1)),(25,(.int .i64 s10.2)),(27,(sv v27)),(28,(.int .i64 (v27.len:Int))),(29,(.int .i64 s16.2)),(33,(.int .i64 a0)),(34,(.int .i64 s25.2))]) (fun s25=>[]) H24 (.cons p<|.cons p<|.cons p<|.cons p<|.cons p<|.cons p<|.cons p<|.cons p<|.cons p<|.cons p<|.nil _) .slnil fun Rec26 s25 _ H27=>O<|J (cj p p)<|ae<|am<|ax p H27 (fun k28 H29=>ap<|am<|aw<|O<|M p<|U p<|aq<|M p<|M p<|M p<|J (bd p<|build_51_0_1 x32 s25.2)<|aa<|aV H29 (bE (vs:=[(.agg (cx.C (⟨x32,s25.2,0,(⟨0,0,0,0,0⟩:ak),0,0⟩:cx)).toArray)]) p) p fun v41 _ H30=>aa<|aV H30 (dT p p) p fun v42 _ H31=>U p<|aq<|J (bk p p)<|M p<|ae<|cF (v42,(i64.wrap (s25.2 + 1))) H31 (.cons p<|.cons p<|.cons p<|.cons p<|.cons p<|.cons p<|.cons p<|.cons p<|.cons p<|.cons p<|.nil _) .slnil) fun k28 H29=>bh<|aq<|J (bk p p)<|M p<|ae<|cF (s25.1,(i64.wrap (s16.2 + 1))) H29 (.cons p<|.cons p<|.cons p<|.cons p<|.cons p<|.cons p<|.cons p<|.nil _) .slnil) fun k19 H20=>bh<|aq<|J (bk p p)<|M p<|ae<|cF (s16.1,(i64.wrap (s10.2 + 1))) H20 (.cons p<|.cons p<|.cons p<|.cons p<|.nil _) .slnil) fun k13 H14=>bh<|O<|M p<|U p<|aj<|Z ⟨s10.1,p,H14⟩
def sj (a0:Sl) (a1:Int) (a2:Int) (K:Int->Hp->Prop) (Rec2:(Int × Int × Int)->Hp->Prop) (s1:Int × Int × Int):Hp->Prop:=br (decide (s1.2.2 < (a0.len:Int))) ( ix a0 s1.2.2 fun q15=>ld (q15.1,q15.2 + Int.toNat s1.2.2 * 10) cx.C fun x16=>br ((x16.fEb == a1) && (x16.fOa == a2)) ( Rec2 ((mx s1.1 0),0,(i64.wrap (s1.2.2 + 1)))) ( Rec2 ((mx s1.1 (i64.wrap (s1.2.1 + 1))),(i64.wrap (s1.2.1 + 1)),(i64.wrap (s1.2.2 + 1))))) ( K s1.1)
def sh_fair_Longest (a0:Sl) (a1:Int) (a2:Int) (K:Int->Hp->Prop):Hp->Prop:=Lp (sj a0 a1 a2 K) (0,0,0)
theorem sim_fair_Longest (a0:Sl) (a1:Int) (a2:Int) {K:Int->Hp->Prop} {h:Hp} (H:sh_fair_Longest a0 a1 a2 K h):cl prog pP [(sv a0),(.int .i64 a1),(.int .i64 a2)] eF K h:=z_i func101 p p fun _=>O<|U p<|O<|J (av p)<|U p<|am<|O<|M p<|J (dA p underlying45 p)<|M p<|ae<|aw<|bz (step:=sj a0 a1 a2 K) (fun s1=>[(1,(.int .i64 a1)),(2,(.int .i64 a2)),(7,(.int .i64 s1.1)),(8,(.int .i64 s1.2.1)),(11,(sv a0)),(12,(.int .i64 (a0.len:Int))),(13,(.int .i64 s1.2.2))]) (fun s1=>[]) H (.cons p<|.cons p<|.cons p<|.cons p<|.cons p<|.cons p<|.cons p<|.nil _) .slnil fun Rec2 s1 _ H3=>O<|J (cj p p)<|ae<|am<|ax p H3 (fun k4 H5=>ap<|am<|aw<|O<|cq H5 fun q15 e6 h7 H8=>J (be slc_45 (aJ p<|aX e6) p h7)<|aa<|hO H8 ag_51 p (fun _=>p) p fun x16 H9=>aa<|aO (l:=cx.C (⟨0,0,0,(⟨0,0,0,0,0⟩:ak),0,0⟩:cx)) zero_51 p p fun b10=>aa<|aQ (k:=0) (vs:=cx.C x16) inf_51 p p p p p p p<|ae<|O<|M p<|J (bk p p)<|U p<|am<|O<|J (ah fld_51_0 p)<|bi (bc (k:=0) ba p p p) p<|M p<|J (bP p p)<|M p<|W p p (ay _) (fun g10=>wv<|ah fld_51_1 p)<|W p p (ay _) (fun g11=>cv<|bc (k:=0) ba (aG p g11) p p)<|W p p (ay _) (fun g12=>wv<|ai p)<|W p p (ay _) (fun g13=>wv<|bP (aG p g13)<|aG p g13)<|J (bQ p p)<|ae<|ax p H9 (fun k14 H15=>aq<|U p<|aq<|M p<|M p<|J (v_maxT p p)<|U p<|aq<|J (bk p p)<|M p<|ae<|cF ((mx s1.1 0),0,(i64.wrap (s1.2.2 + 1))) H15 (.cons p<|.cons p<|.cons p<|.cons p<|.cons p<|.cons p<|.cons p<|.nil _)<|.cons _ .slnil) fun k14 H15=>ap<|aq<|M p<|M p<|J (v_maxT p p)<|U p<|aq<|J (bk p p)<|M p<|ae<|cF ((mx s1.1 (i64.wrap (s1.2.1 + 1))),(i64.wrap (s1.2.1 + 1)),(i64.wrap (s1.2.2 + 1))) H15 (.cons p<|.cons p<|.cons p<|.cons p<|.cons p<|.cons p<|.cons p<|.nil _)<|.cons _ .slnil) fun k4 H5=>bh<|O<|M p<|U p<|aj<|Z ⟨s1.1,p,H5⟩
def yy (a0:Sl) (a1:Int) (a2:Int) (K:Bool->Hp->Prop) (Rec2:Int->Hp->Prop) (s1:Int):Hp->Prop:=br (decide (s1 < a1)) ( cl prog pP [(sv a0),(.int .i64 2),(.int .i64 s1)] eF fun r14=>br (!(decide (r14 >= a2))) ( cl prog pP [(sv a0),(.int .i64 3),(.int .i64 s1)] eF fun r20=>br (decide (r20 >= a2)) ( K false) ( Rec2 (i64.wrap (s1 + 1)))) ( K false)) ( K true)
def sh_fair_Fair (a0:Sl) (a1:Int) (a2:Int) (K:Bool->Hp->Prop):Hp->Prop:=Lp (yy a0 a1 a2 K) 0
theorem sim_fair_Fair (a0:Sl) (a1:Int) (a2:Int) {K:Bool->Hp->Prop} {h:Hp} (H:sh_fair_Fair a0 a1 a2 K h):cl prog n_fair_Fair [(sv a0),(.int .i64 a1),(.int .i64 a2)] aC K h:=z_i func51 p p fun _=>O<|U p<|am<|O<|M p<|M p<|ae<|aw<|bz (step:=yy a0 a1 a2 K) (fun s1=>[(0,(sv a0)),(2,(.int .i64 a2)),(8,(.int .i64 a1)),(9,(.int .i64 s1))]) (fun s1=>[]) H (.cons p<|.cons p<|.cons p<|.cons p<|.nil _) .slnil fun Rec2 s1 _ H3=>O<|J (cj p p)<|ae<|am<|ax p H3 (fun k4 H5=>ap<|am<|aw<|O<|M p<|U p<|O<|M p<|M p<|aa<|D H5 en_101 fun r14 _ H6=>M p<|J (jF p p)<|M p<|W p p (aL _) (fun g7=>wv<|ai p)<|W p p (aL _) (fun g8=>wv<|ai p)<|bU H6 (fun k10 H11=>G (F<|bO k10)<|gw H11 en_101 (aU (aG p k10)<|aU p<|aU (aG p k10) bX) p fun r20 _ H12=>G (F<|bO k10)<|z_p (ai p)<|G (F<|bO k10)<|z_p (jF p p)<|J (au p (bO k10) p)<|ae<|ax p H12 (fun k13 H14=>O<|U p<|aj<|Z ⟨false,p,H14⟩) fun k13 H14=>ap<|aq<|J (bk p p)<|M p<|ae<|cF (i64.wrap (s1 + 1)) H14 (.cons p<|.cons p<|.cons p<|.cons p<|.nil _) .slnil) fun k10 H11=>Y (bL<|bq k10)<|Y (bL<|bq k10)<|Y (bL<|bq k10)<|J (aS p (bq k10) p)<|ae<|kL p p<|O<|U p<|aj<|Z ⟨false,p,H11⟩) fun k4 H5=>bh<|O<|U p<|aj<|Z ⟨true,p,H5⟩
end
section
open Go Mb
abbrev rS:=cx
abbrev vK (s:Sl) (xs:List rS):As:=vec t_api_Pick 10 cx.C s xs
theorem pick_len (p:rS):p.C.length = 10:=rfl
theorem pick_one (p:rS):dM p.C = true:=rfl
namespace Fair
def longFrom (kind core:Int):List rS->Int->Int->Int
 | [],best,_=>best
 | p::ps,best,now=>if p.fEb = kind/\p.fOa = core then longFrom kind core ps (mx best 0) 0 else longFrom kind core ps (mx best (i64.wrap (now + 1))) (i64.wrap (now + 1))
def longest (ps:List rS) (kind core:Int):Int:=longFrom kind core ps 0 0
def okCore (ps:List rS) (b:Int) (c:Nat):Bool:=decide (longest ps 2 c < b) && decide (longest ps 3 c < b)
def fair (ps:List rS) (cores b:Int):Bool:=(range cores.toNat).all (okCore ps b)
def pk (kind:Int) (c:Nat):rS:=⟨kind,c,0,⟨0,0,0,0,0⟩,0,0⟩
def line (kind:Int) (c:Nat):List rS:=(range c).map (pk kind)
def lines (c:Nat) (kinds:List Int):List rS:=kinds.flatMap fun k=>line k c
def turns (c n:Nat):List rS:=(range n).flatMap fun _=>lines c [3,2]
def rounds (cores n:Int):List rS:=if cores < 1\/cores > 8\/n < 0\/n > 500 then [] else turns cores.toNat n.toNat
theorem line_len (kind:Int) (c:Nat):(line kind c).length = c:=by simp [line]
theorem line_succ (kind:Int) (c:Nat):line kind (c + 1) = line kind c++[pk kind c]:=by simp [line,List.range_succ]
theorem turns_succ (c n:Nat):turns c (n + 1) = turns c n++lines c [3,2]:=by simp [turns,List.range_succ]
theorem lines_len (c:Nat):∀ (ks:List Int),(lines c ks).length = ks.length * c
 | []=>by simp [lines]
 | k::ks=>by
  have:=lines_len c ks
  simp only [lines,List.flatMap_cons,length_append,line_len,List.length_cons,Nat.succ_mul] at this ⊢
  omega
theorem turns_len (c n:Nat):(turns c n).length = n * (2 * c):=by
 induction n with
 | zero=>simp [turns]
 | succ n ih=>rw [turns_succ,length_append,ih,lines_len,Nat.add_mul n 1,Nat.one_mul]; rfl
end Fair
theorem sp_fair_Longest (s:Sl) (ps:List rS) (kind core:Int) (hb:ps.length < 2 ^ 40):Sp prog pP [sv s,.int .i64 kind,.int .i64 core] eF [vK s ps] (fun r=>pa_ (r = Fair.longest ps kind core) [vK s ps]):=by
 intro h s0
 have hl:=(cc (j:=0) s0 rfl).1
 refine sim_fair_Longest _ _ _ ?_
 unfold sh_fair_Longest
 refine Lp.intro (fun (z:Int × Int × Int) h=>∃ n:Nat,z.2.2 = n/\n <= ps.length/\Fair.longFrom kind core (ps.drop n) z.1 z.2.1 = Fair.longest ps kind core/\aB [vK s ps] h) (fun (z:Int × Int × Int) _=>ps.length - z.2.2.toNat) ⟨0,rfl,zero_le _,rfl,s0⟩ ?_
 rintro ⟨best,now,i⟩ h ⟨n,rfl,hn,he,s1⟩
 unfold sj
 simp only at he ⊢
 refine aY (fun k=>?_) (fun k=>?_)
 ·have hlt:n < ps.length:=by rw [hl] at k; simpa using k
  have hw:i64.wrap ((n:Int) + 1) = ((n + 1:Nat):Int):=by rw [bm (by omega) (by omega)]; rfl
  rw [List.drop_eq_getElem_cons hlt,Fair.longFrom] at he
  refine cZ s1 (j:=0) rfl (by omega) (by omega) fun q hq=>?_
  refine dz (j:=0) (i:=n) (k:=0) ps[n] pick_len s1 rfl hq rfl (aE hlt) (by simp) ?_
  rw [hw]
  refine aY (fun k2=>?_) (fun k2=>?_)
  ·have k2':ps[n].fEb = kind/\ps[n].fOa = core:=by simpa using k2
   rw [if_pos k2'] at he
   exact ⟨⟨n + 1,rfl,hlt,he,s1⟩,by simp; omega⟩
  ·have k2':¬ (ps[n].fEb = kind/\ps[n].fOa = core):=by simpa using k2
   rw [if_neg k2'] at he
   exact ⟨⟨n + 1,rfl,hlt,he,s1⟩,by simp; omega⟩
 ·have:n = ps.length:=by rw [hl] at k; simp at k; omega
  subst this
  rw [List.drop_length] at he
  exact aZ he s1
theorem sp_fair_Fair (s:Sl) (ps:List rS) (cores b:Int) (hb:ps.length < 2 ^ 40) (hc:cores < 2 ^ 62):Sp prog n_fair_Fair [sv s,.int .i64 cores,.int .i64 b] aC [vK s ps] (fun r=>pa_ (r = Fair.fair ps cores b) [vK s ps]):=by
 intro h s0
 refine sim_fair_Fair _ _ _ ?_
 unfold sh_fair_Fair
 refine Lp.intro (fun (i:Int) h=>∃ n:Nat,i = n/\n <= cores.toNat/\(∀ c,c < n->Fair.okCore ps b c = true)/\aB [vK s ps] h) (fun (i:Int) _=>cores.toNat - i.toNat) ⟨0,rfl,zero_le _,fun c hc=>by omega,s0⟩ ?_
 rintro i h ⟨n,rfl,hn,ho,s1⟩
 unfold yy
 refine aY (fun k=>?_) (fun k=>?_)
 ·have hlt:n < cores.toNat:=by have:=of_decide_eq_true k; omega
  have hw:i64.wrap ((n:Int) + 1) = ((n + 1:Nat):Int):=by rw [bm (by omega) (by omega)]; rfl
  have no:Fair.okCore ps b n = false->Fair.fair ps cores b = false:=fun hf=>by
   unfold Fair.fair
   cases ha:(range cores.toNat).all (Fair.okCore ps b) with
   | false=>rfl
   | true=>rw [List.all_eq_true.1 ha n (List.mem_range.2 hlt)] at hf; cases hf
  refine bS (sp_fair_Longest s ps 2 n hb) (i:=0) rfl s1 fun r h2 hr s2=>?_
  subst hr
  refine aY (fun k2=>?_) (fun k2=>?_)
  ·have k2':Fair.longest ps 2 n < b:=by simpa using k2
   refine bS (sp_fair_Longest s ps 3 n hb) (i:=0) rfl s2 fun r h3 hr s3=>?_
   subst hr
   refine aY (fun k3=>?_) (fun k3=>?_)
   ·have k3':¬ Fair.longest ps 3 n < b:=by simp at k3; omega
    exact aZ (no (by simp [Fair.okCore,k3'])).symm s3
   ·have k3':Fair.longest ps 3 n < b:=by simp at k3; omega
    rw [hw]
    refine ⟨⟨n + 1,rfl,hlt,fun c hc=>?_,s3⟩,by simp; omega⟩
    by_cases e:c = n
    ·subst e; simp [Fair.okCore,k2',k3']
    ·exact ho c (by omega)
  ·have k2':¬ Fair.longest ps 2 n < b:=by simp at k2; omega
   exact aZ (no (by simp [Fair.okCore,k2'])).symm s2
 ·have:n = cores.toNat:=by have:=of_decide_eq_false k; omega
  subst this
  refine aZ ?_ s1
  unfold Fair.fair
  exact (List.all_eq_true.2 fun c hc=>ho c (List.mem_range.1 hc)).symm
theorem sp_fair_Rounds (cores n:Int):Sp prog wk [.int .i64 cores,.int .i64 n] iq [] (fun r=>aB [vK r (Fair.rounds cores n)]):=by
 intro h s0
 refine sim_fair_Rounds _ _ ?_
 unfold sh_fair_Rounds
 refine aY (fun k=>?_) (fun k=>?_)
 ·have e1:Fair.rounds cores n = []:=if_pos (by simpa [or_assoc] using k)
  rw [e1]; exact fX s0
 ·have k':¬ (cores < 1\/cores > 8\/n < 0\/n > 500):=by simp at k; omega
  have e1:Fair.rounds cores n = Fair.turns cores.toNat n.toNat:=if_neg k'
  rw [e1]
  obtain ⟨C,rfl⟩:=Int.eq_ofNat_of_zero_le (show 0 <= cores by omega)
  obtain ⟨N,rfl⟩:=Int.eq_ofNat_of_zero_le (show 0 <= n by omega)
  simp only [Int.toNat_natCast]
  refine fP (τ:=rS) [] (val:=fun x=>.agg x.C.toArray) (enc:=cx.C) yH pick_len (fun _=>rfl) s0 rfl rfl (by simp) fun v h1 s1=>?_
  refine Lp.intro (fun (z:Sl × Int) h=>∃ j:Nat,z.2 = j/\j <= N/\aB [vK z.1 (Fair.turns C j)] h) (fun (z:Sl × Int) _=>N - z.2.toNat) ⟨0,rfl,zero_le _,s1⟩ ?_
  rintro ⟨z,i⟩ h ⟨j,rfl,hj,s2⟩
  unfold uu
  refine aY (fun k2=>?_) (fun k2=>?_)
  ·have hlt:j < N:=by have:=of_decide_eq_true k2; simp at this; exact this
   have hw:i64.wrap ((j:Int) + 1) = ((j + 1:Nat):Int):=by rw [bm (by omega) (by omega)]; rfl
   have htl:=Fair.turns_len C j
   have hC:C <= 8:=by omega
   have hjb:j * (2 * C) <= 500 * 16:=Nat.mul_le_mul (by omega) (by omega)
   refine fP (τ:=Int) [3,2] (val:=fun x=>.int .i64 x) (enc:=cI .i64) el_Sint (ct _) (fun _=>rfl) s2 rfl rfl (by decide) fun vk h3 s3=>?_
   have hvl:=(cc (j:=0) s3 rfl).1
   refine Lp.intro (fun (y:Sl × Int) h=>∃ m:Nat,y.2 = m/\m <= 2/\aB [vK y.1 (Fair.turns C j++Fair.lines C (([3,2]:List Int).take m)),vec lD 1 (cI .i64) vk [3,2]] h) (fun (y:Sl × Int) _=>2 - y.2.toNat) ⟨0,rfl,zero_le _,by
    have s4:=bb (m:=[vK z (Fair.turns C j),vec lD 1 (cI .i64) vk [3,2]]) [1] s3 rfl
    simpa [Fair.lines] using s4⟩ ?_
   rintro ⟨y,i2⟩ h ⟨m,rfl,hm,s4⟩
   unfold ut
   refine aY (fun k3=>?_) (fun k3=>?_)
   ·have hlt2:m < 2:=by rw [hvl] at k3; have:=of_decide_eq_true k3; simp at this; omega
    have hw2:i64.wrap ((m:Int) + 1) = ((m + 1:Nat):Int):=by rw [bm (by omega) (by omega)]; rfl
    have hkl:m < ([3,2]:List Int).length:=hlt2
    refine cZ s4 (j:=1) rfl (by omega) (by simp; omega) fun q hq=>?_
    refine dz (j:=1) (i:=m) (k:=0) ([3,2]:List Int)[m] (ct _) s4 rfl hq (by simp) (aE hkl) (by simp) ?_
    have hll:=Fair.lines_len C (([3,2]:List Int).take m)
    have hlb:(([3,2]:List Int).take m).length * C <= 2 * 8:=Nat.mul_le_mul (by simp; omega) (by omega)
    refine Lp.intro (fun (x:Sl × Int) h=>∃ p:Nat,x.2 = p/\p <= C/\aB [vK x.1 (Fair.turns C j++Fair.lines C (([3,2]:List Int).take m)++Fair.line ([3,2]:List Int)[m] p),vec lD 1 (cI .i64) vk [3,2]] h) (fun (x:Sl × Int) _=>C - x.2.toNat) ⟨0,rfl,zero_le _,by simpa [Fair.line] using s4⟩ ?_
    rintro ⟨x,i3⟩ h ⟨p,rfl,hp,s5⟩
    have hpl:=Fair.line_len ([3,2]:List Int)[m] p
    unfold us
    refine aY (fun k4=>?_) (fun k4=>?_)
    ·have hlt3:p < C:=by have:=of_decide_eq_true k4; simp at this; exact this
     have hw3:i64.wrap ((p:Int) + 1) = ((p + 1:Nat):Int):=by rw [bm (by omega) (by omega)]; rfl
     refine la (τ:=rS) (i:=0) (enc:=cx.C) (val:=fun x=>.agg x.C.toArray) (x:=Fair.pk ([3,2]:List Int)[m] p) yH pick_len pick_one (fun _=>rfl) (by omega) rfl rfl s5 rfl (by simp only [length_append]; omega) (by simp only [length_append]; omega) fun v h6 s6=>?_
     rw [hw3]
     refine ⟨⟨p + 1,rfl,hlt3,?_⟩,by simp; omega⟩
     rw [Fair.line_succ,← List.append_assoc]
     exact s6
    ·have:p = C:=by have:=of_decide_eq_false k4; simp at this; omega
     subst this
     rw [hw2]
     refine ⟨⟨m + 1,rfl,hlt2,?_⟩,by simp; omega⟩
     have et:([3,2]:List Int).take (m + 1) = ([3,2]:List Int).take m++[([3,2]:List Int)[m]]:=by rw [List.take_add_one,aE hkl]; rfl
     have el:Fair.lines p (([3,2]:List Int).take (m + 1)) = Fair.lines p (([3,2]:List Int).take m)++Fair.line ([3,2]:List Int)[m] p:=by
      rw [et]; unfold Fair.lines; rw [List.flatMap_append]; simp
     rw [el,← List.append_assoc]
     exact s5
   ·have:m = 2:=by rw [hvl] at k3; have:=of_decide_eq_false k3; simp at this; omega
    subst this
    rw [hw]
    refine ⟨⟨j + 1,rfl,hlt,?_⟩,by simp; omega⟩
    rw [Fair.turns_succ]
    exact mB (l:=[vK y (Fair.turns C j++Fair.lines C [3,2])]) s4
  ·have:j = N:=by have:=of_decide_eq_false k2; simp at this; omega
   subst this
   exact s2
end
section
open Go Mb
def xA (a0:Sl) (a1:Int) (K:Sl->Hp->Prop) (Rec2:(Sl × Int)->Hp->Prop) (s1:Sl × Int):Hp->Prop:=br (decide (s1.2 < (a0.len:Int))) ( ix a0 s1.2 fun q12=>ld (q12.1,q12.2 + Int.toNat s1.2 * 16) aA.C fun x13=>br ((x13.fCa == a1) && (decide (x13.fTa > 0))) ( hpv prog (Instr.buildSlice nF 1 #[(0,(.agg (ad.C x13.fAb).toArray))]) nQ fun (v26:Sl)=>hpv prog (Builtin.append_ #[nF,nF] nF #[(sv s1.1),(sv v26)]) nQ fun (v27:Sl)=>Rec2 (v27,(i64.wrap (s1.2 + 1)))) ( Rec2 (s1.1,(i64.wrap (s1.2 + 1))))) ( K s1.1)
def sh_twin_View (a0:Sl) (a1:Int) (K:Sl->Hp->Prop):Hp->Prop:=Lp (xA a0 a1 K) ((⟨none,0,0,none⟩:Sl),0)
theorem sim_twin_View (a0:Sl) (a1:Int) {K:Sl->Hp->Prop} {h:Hp} (H:sh_twin_View a0 a1 K h):cl prog n_twin_View [(sv a0),(.int .i64 a1)] nQ K h:=z_i func52 p p fun _=>O<|U p<|O<|U p<|am<|O<|M p<|J (dA p underlying42 p)<|M p<|ae<|aw<|bz (step:=xA a0 a1 K) (fun s1=>[(1,(.int .i64 a1)),(5,(sv s1.1)),(8,(sv a0)),(9,(.int .i64 (a0.len:Int))),(10,(.int .i64 s1.2))]) (fun s1=>[]) H (.cons p<|.cons p<|.cons p<|.cons p<|.cons p<|.nil _) .slnil fun Rec2 s1 _ H3=>O<|J (cj p p)<|ae<|am<|ax p H3 (fun k4 H5=>ap<|am<|aw<|O<|cq H5 fun q12 e6 h7 H8=>J (be qK (aJ p<|aX e6) p h7)<|aa<|hO H8 ag_56 p (fun _=>p) p fun x13 H9=>aa<|aO (l:=aA.C (⟨0,0,(⟨0,0,0,0,0⟩:ak),0,0,0,(⟨0,0⟩:ad),(⟨0,0,0,0⟩:ao)⟩:aA)) zero_56 p p fun b7=>aa<|aQ (k:=0) (vs:=aA.C x13) inf_56 p p p p p p p<|ae<|O<|J (ah pV p)<|bi (bc (k:=0) ba p p p) p<|M p<|J (bP p p)<|M p<|W p p (ay _) (fun g10=>wv<|ah nL p)<|W p p (ay _) (fun g11=>cv<|bc (k:=0) ba (aG p g11) p p)<|W p p (ay _) (fun g12=>wv<|oZ (aG p g12) p)<|J (bQ p p)<|ae<|ax p H9 (fun k13 H14=>aq<|M p<|J (ah kU p)<|bi (bH (k:=0) cO p p p p) p<|aa<|aV H14 (bE (vs:=[(.agg (ad.C x13.fAb).toArray)]) p) p fun v26 _ H15=>aa<|aV H15 (dT p p) p fun v27 _ H16=>U p<|aq<|J (bk p p)<|M p<|ae<|cF (v27,(i64.wrap (s1.2 + 1))) H16 (.cons p<|.cons p<|.cons p<|.cons p<|.cons p<|.nil _)<|.cons _ .slnil) fun k13 H14=>ap<|aq<|J (bk p p)<|M p<|ae<|cF (s1.1,(i64.wrap (s1.2 + 1))) H14 (.cons p<|.cons p<|.cons p<|.cons p<|.cons p<|.nil _)<|.cons _ .slnil) fun k4 H5=>bh<|O<|M p<|U p<|aj<|Z ⟨s1.1,p,H5⟩
end
section
open Go Mb
abbrev vA (s:Sl) (xs:List fe):As:=vec t_api_Answer 2 ad.C s xs
theorem ans_len (p:fe):p.C.length = 2:=rfl
theorem ans_one (p:fe):dM p.C = true:=rfl
namespace Twin
def view (env:Int):List bu->List fe
 | []=>[]
 | e::es=>if e.fCa = env/\e.fTa > 0 then e.fAb::view env es else view env es
def same:List fe->List fe->Bool
 | [],[]=>true
 | a::l,b::r=>ad.eqb a b && same l r
 | _,_=>false
theorem view_app (env:Int) (e:bu):∀ es,view env (es++[e]) = view env es++(if e.fCa = env/\e.fTa > 0 then [e.fAb] else [])
 | []=>by simp only [List.nil_append,view]
 | d::es=>by
  simp only [List.cons_append,view,view_app env e es]
  split <;> simp
theorem view_len (env:Int):∀ es,(view env es).length <= es.length
 | []=>le_refl _
 | e::es=>by unfold view; have:=view_len env es; split <;> simp <;> omega
end Twin
theorem sp_twin_View (s:Sl) (es:List bu) (env:Int) (hb:es.length < 2 ^ 38):Sp prog n_twin_View [sv s,.int .i64 env] nQ [vE s es] (fun r=>aB [vA r (Twin.view env es),vE s es]):=by
 intro h s0
 have hl:=(cc (j:=0) s0 rfl).1
 refine sim_twin_View _ _ ?_
 unfold sh_twin_View
 refine Lp.intro (fun (z:Sl × Int) h=>∃ n:Nat,z.2 = n/\n <= es.length/\aB [vA z.1 (Twin.view env (es.take n)),vE s es] h) (fun (z:Sl × Int) _=>es.length - z.2.toNat) ⟨0,rfl,zero_le _,fX s0⟩ ?_
 rintro ⟨z,i⟩ h ⟨n,rfl,hn,s1⟩
 unfold xA
 refine aY (fun k=>?_) (fun k=>?_)
 ·have hlt:n < es.length:=by rw [hl] at k; simpa using k
  have hw:i64.wrap ((n:Int) + 1) = ((n + 1:Nat):Int):=by rw [bm (by omega) (by omega)]; rfl
  have ht:es.take (n + 1) = es.take n++[es[n]]:=by simp
  refine cZ s1 (j:=1) rfl (by omega) (by show (n:Int) < _; omega) fun q hq=>?_
  refine dz (j:=1) (i:=n) (k:=0) es[n] kM s1 rfl hq rfl (aE hlt) (by simp) ?_
  rw [hw]
  refine aY (fun k2=>?_) (fun k2=>?_)
  ·have k2':es[n].fCa = env/\es[n].fTa > 0:=by simpa using k2
   have hvl:=Twin.view_len env (es.take n)
   simp at hvl
   refine la (τ:=fe) (i:=0) (enc:=ad.C) (val:=fun x=>.agg x.C.toArray) el_Sapi_Answer ans_len ans_one (fun _=>rfl) (by omega) rfl rfl s1 rfl (by omega) (by omega) fun v h2 s2=>?_
   refine ⟨⟨n + 1,rfl,hlt,?_⟩,by simp; omega⟩
   rw [ht,Twin.view_app,if_pos k2']
   exact s2
  ·have k2':¬ (es[n].fCa = env/\es[n].fTa > 0):=by simpa using k2
   refine ⟨⟨n + 1,rfl,hlt,?_⟩,by simp; omega⟩
   rw [ht,Twin.view_app,if_neg k2',List.append_nil]
   exact s1
 ·have:n = es.length:=by rw [hl] at k; simp at k; omega
  subst this
  rw [List.take_length] at s1
  exact s1
end
section
open Go Mb
variable {ET:Nat} {EF:Nat × Nat}
theorem kern_nn {l:List As} {h:Hp} {x:Ptr} {k:KK} (s:aB (dl x k::l) h):x.isNone = false:=nn_of (fun _ e=>by rw [e.1]; rfl) s
namespace B16
abbrev sz:fQ:=⟨2,2,3⟩
def r1:=KK.run (KK.new ⟨2,2,3⟩) 0 0 ⟨1,1,0,0,0⟩
def r2:=KK.run r1.2 0 0 ⟨6,4,1,3,0⟩
def r3:=KK.run r2.2 1 0 ⟨21,4,2,9,0⟩
def r4:=KK.run r3.2 0 0 ⟨20,4,2,0,0⟩
def r5:=KK.run r4.2 0 0 ⟨7,4,0,0,0⟩
def es:=r5.2.events
theorem es_len:es.length = 5:=by kernel_rfl
theorem apart:Hist.may es sz = true:=by kernel_rfl
theorem now1:r1.2.now < 1000:=of_decide_eq_true (by kernel_rfl)
theorem now2:r2.2.now < 1000:=of_decide_eq_true (by kernel_rfl)
theorem now3:r3.2.now < 1000:=of_decide_eq_true (by kernel_rfl)
theorem now4:r4.2.now < 1000:=of_decide_eq_true (by kernel_rfl)
theorem now5:r5.2.now < 1000:=of_decide_eq_true (by kernel_rfl)
theorem lin:fKa.linear es sz = (-1,true):=by kernel_rfl
theorem acc:fKa.accesses es sz = (-1,true):=by kernel_rfl
theorem rgt:fKa.right es sz = true:=by kernel_rfl
end B16
theorem ord20 {es:List bu} (s:Sl) (h:es.length <= 20):Hist.Apart es->OrdOk s es:=fun ha=>sp_hist_OrderN s es (by omega) ha
theorem sp_begun16:Sp prog lj [] aC [(etB ET EF)] (fun r=>pa_ (r = true) [(etB ET EF)]):=by
 intro h st
 refine wG ?_
 unfold px
 refine mY (sp_kern_New ⟨2,2,3⟩ (by decide)) st fun x h1 s1=>?_
 refine dO (kern_nn s1) ?_
 refine bS (i:=0) (sp_Run x _ 0 0 ⟨1,1,0,0,0⟩ (by decide)) rfl s1 fun a1 h2 e1 s2=>?_
 refine bS (i:=0) (sp_Run x B16.r1.2 0 0 ⟨6,4,1,3,0⟩ (by have:=B16.now1; omega)) rfl s2 fun a2 h3 e2 s3=>?_
 refine bS (i:=0) (sp_Run x B16.r2.2 1 0 ⟨21,4,2,9,0⟩ (by have:=B16.now2; omega)) rfl s3 fun a3 h4 e3 s4=>?_
 refine bS (i:=0) (sp_Run x B16.r3.2 0 0 ⟨20,4,2,0,0⟩ (by have:=B16.now3; omega)) rfl s4 fun a4 h5 e4 s5=>?_
 refine bS (i:=0) (sp_Run x B16.r4.2 0 0 ⟨7,4,0,0,0⟩ (by have:=B16.now4; omega)) rfl s5 fun a5 h6 e5 s6=>?_
 refine xt (i:=0) (tF x B16.r5.2 (by have:=B16.now5; omega)) rfl s6 fun s h7 s7=>?_
 have hes:B16.es.length < 2 ^ 38:=by rw [B16.es_len]; decide
 have hes20:B16.es.length <= 20:=by rw [B16.es_len]; decide
 refine bS (i:=0) (sp_judge_Linear s B16.es B16.sz (by decide) hes (ord20 s hes20)) rfl s7 fun r1 h8 f1 s8=>?_
 refine bS (i:=0) (sp_judge_Access s B16.es B16.sz (by decide) hes (ord20 s hes20)) rfl s8 fun r2 h9 f2 s9=>?_
 refine mY (sp_fair_Rounds 2 3) s9 fun t h10 s10=>?_
 refine bS (i:=3) sp_Begun11 rfl s10 fun r3 h11 f3 s11=>?_
 have hl:((s.len:Int) == 5) = true:=by rw [(cc (j:=1) s11 rfl).1]; kernel_rfl
 have htl:((t.len:Int) == 12) = true:=by rw [(cc (j:=0) s11 rfl).1]; kernel_rfl
 have g1:a1 = B16.r1.1:=e1.1
 have g2:a2 = B16.r2.1:=e2.1
 have g3:a3 = B16.r3.1:=e3.1
 have g4:a4 = B16.r4.1:=e4.1
 have g5:a5 = B16.r5.1:=e5.1
 rw [B16.lin] at f1
 rw [B16.acc] at f2
 rw [f1,f2,f3,g1,g2,g3,g4,g5,hl]
 refine eD (by kernel_rfl) ?_
 refine bS (i:=1) (sp_hist_May s B16.es B16.sz hes) rfl s11 fun r4 h12 f4 s12=>?_
 refine eD (f4.trans B16.apart) ?_
 refine xt (i:=1) (sp_hist_Order20 s B16.es hes20 (Hist.may_apart B16.apart)) rfl s12 fun o h13 s13=>?_
 have hol:((o.len:Int) == 5) = true:=by rw [(cc (j:=0) s13 rfl).1]; kernel_rfl
 refine eD (by rw [hol,htl]; rfl) ?_
 refine bS (i:=1) (sp_fair_Fair t _ 2 5 (by decide) (by decide)) rfl s13 fun r5 h14 f5 s14=>?_
 refine eD (f5.trans (by kernel_rfl)) ?_
 refine xt (i:=2) (sp_twin_View s B16.es 0 hes) rfl s14 fun v h15 s15=>?_
 have hvl:((v.len:Int) == 5) = true:=by rw [(cc (j:=0) s15 rfl).1]; kernel_rfl
 refine eD hvl ?_
 refine bS (i:=3) (sp_judge_Right s B16.es B16.sz (by decide) hes (ord20 s hes20)) rfl s15 fun r6 h16 f6 s16=>?_
 exact aZ (f6.trans B16.rgt) (cd (l:=[_,_,_,_,_]) s16)
end
section
open Go Mb
theorem star_imp {l:List As} {i:Nat} {A B:As} {h:Hp} (hi:l[i]? = some A) (ab:∀ h,A h->B h) (s:aB l h):aB (l.set i B) h:=by
 obtain ⟨h1,h2,d,e,a,s'⟩:=fj hi s
 exact dP (List.getElem?_eq_some_iff.1 hi).1 ⟨h1,h2,d,e,ab _ a,s'⟩
theorem sliceTo_v {τ:Type} {P:Program} {l:List As} {h:Hp} {S T m bys i:Nat} {z:List Value} {enc:τ->List Value} {R:Sl->Value} {s:Sl} {xs:List τ} {n:Nat} {K:Sl->Hp->Prop} (E:El P S T m bys z) (he:∀ x,(enc x).length = m) (hR:R = sv) (st:aB l h) (hi:l[i]? = some (vec T m enc s xs)) (hn:n <= xs.length)
  (k:∀ v,v.len = n->(∀ h',vec T m enc v (xs.take n) h'->vec T m enc s xs h')->aB (l.set i (vec T m enc v (xs.take n))) h->K v h):hpv P (Instr.sliceAt S (sv s) none (some (.int .i64 n)) none) R K h:=by
 subst hR
 have hilt:=(List.getElem?_eq_some_iff.1 hi).1
 obtain ⟨e1,_⟩:=cc st hi
 have hcap:s.len <= s.cap:=by
  obtain ⟨_,⟨_,e2,_⟩,_⟩:=dV hi st
  exact e2
 have fin:∀ (v:Sl),v.a = s.a->v.len = n->v.cap = s.cap->(∀ h',vec T m enc v (xs.take n) h'->vec T m enc s xs h')->aB (l.set i (vec T m enc v (xs.take n))) h->hpv P (Instr.sliceAt S (sv s) none (some (.int .i64 n)) none) sv K h:=by
  intro v va vl vc vb vs
  have ev:sv (sub m s 0 n) = sv v:=by
   unfold sub sv
   rw [va,vl,vc]
   cases s.a with
   | none=>split <;> rfl
   | some q=>simp [pa]
  have H:=slice_raw (P:=P) (h:=h) (m:=m) (s:=s) (lo:=0) (hi:=n) (vlo:=none) (vhi:=some (.int .i64 n)) (R:=sv) (K:=fun r h'=>sv r = sv v/\h' = h) E rfl (.inr ⟨rfl,rfl⟩) (.inl rfl) (zero_le _) (by omega) ⟨ev,rfl⟩
  exact ⟨hp_mono _ (fun x h' ⟨r,e,e2,e3⟩=>⟨v,e.trans e2,by subst e3; exact k v vl vb vs⟩) _ H.go⟩
 obtain ⟨g1,g2,d,rfl,⟨f1,f2,f3⟩,s'⟩:=fj hi st
 rcases f3 with f3 | ⟨b,pre,rest,U,fr,f4,f5,f6,f7⟩
 ·refine fin ⟨s.a,n,s.cap,none⟩ rfl rfl rfl (fun h' _=>⟨f1,f2,.inl f3⟩) (dP hilt ⟨g1,g2,d,rfl,⟨?_,?_,.inl f3⟩,s'⟩)
  ·show n = _; simp; omega
  ·show n <= s.cap; omega
 ·have hfl:(xs.take n).flatMap enc++((xs.drop n).flatMap enc++rest) = xs.flatMap enc++rest:=by
   rw [← List.append_assoc,← List.flatMap_append,List.take_append_drop]
  have hdl:((xs.drop n).flatMap enc).length = (xs.length - n) * m:=by rw [dY he]; simp
  refine fin ⟨s.a,n,s.cap,some (pre,(xs.drop n).flatMap enc++rest,U,fr)⟩ rfl rfl rfl ?_ (dP hilt ⟨g1,g2,d,rfl,⟨?_,?_,.inr ⟨b,pre,(xs.drop n).flatMap enc++rest,U,fr,f4,?_,⟨rfl,(show nf fr pre.length (s.cap * m) from gh_nf f6)⟩,?_⟩⟩,s'⟩)
  ·rintro h' ⟨a1,a2,a3⟩
   refine ⟨f1,f2,?_⟩
   rcases a3 with a3 | ⟨b',pre',rest',U',fr',c1,c2,c3,c4⟩
   ·exact .inl a3
   ·refine .inr ⟨b,pre,rest,U,fr,f4,f5,f6,?_⟩
    obtain ⟨c5,_⟩:=c3
    simp only [Prod.mk.injEq] at c5
    obtain ⟨rfl,rfl,rfl,rfl⟩:=c5
    have c1':s.a = some (b',pre.length):=c1
    rw [f4] at c1'
    simp only [Option.some.injEq,Prod.mk.injEq] at c1'
    obtain ⟨rfl,_⟩:=c1'
    rw [hfl] at c4
    exact c4
  ·show n = _; simp; omega
  ·show n <= s.cap; omega
  ·show s.cap * m <= n * m + _
   rw [length_append,hdl,Nat.sub_mul]
   have:n * m <= xs.length * m:=Nat.mul_le_mul_right m hn
   rw [f1] at f5
   omega
  ·rw [hfl]; exact f7
end
section
open Go Mb
theorem sp_Cut (s:Sl) (ps:List rS) (n:Int) (hn:0 <= n) (hn2:n < 2 ^ 40):Sp prog ns [sv s,.int .i64 n] iq [vK s ps] (fun r=>pa_ (∀ h',vK r (ps.take n.toNat) h'->vK s ps h') [vK r (ps.take n.toNat)]):=by
 intro h st
 refine sim_messuagelaw16_Cut _ _ ?_
 unfold rE
 have hl:=(cc (j:=0) st rfl).1
 have hm:mn (s.len:Int) n = ((min ps.length n.toNat:Nat):Int):=by unfold mn; rw [hl]; split <;> omega
 rw [hm]
 refine sliceTo_v (i:=0) yH pick_len rfl st rfl (Nat.min_le_left _ _) fun v _ hb s1=>?_
 have ht:ps.take (min ps.length n.toNat) = ps.take n.toNat:=by
  rcases Nat.le_total ps.length n.toNat with h1 | h1
  ·rw [Nat.min_eq_left h1,List.take_of_length_le (le_refl _),List.take_of_length_le h1]
  ·rw [Nat.min_eq_right h1]
 rw [ht] at hb s1
 exact aZ hb s1
end
end Go.Proofs.YtemoifebbhoinaaGreatDoor
