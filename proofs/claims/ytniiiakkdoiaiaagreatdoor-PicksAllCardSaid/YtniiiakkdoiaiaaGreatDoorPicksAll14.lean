/- Part of the proof of: The law PicksAll returns true for every input, and leaves its arguments as they were. -/
import Derived.Test.YtniiiakkdoiaiaaGreatDoorPicksAll13
set_option linter.all false
namespace Go.Proofs.YtniiiakkdoiaiaaGreatDoor
open Go Mb
set_option linter.unusedVariables false
def pd (K:Bool→Hp→Prop):Hp→Prop:=cl Tryz.prog ko [(.int .i64 3)] ip fun r5=>cl Tryz.prog n_trap_In [(.int .i64 2),(.agg (ap.C (⟨1,2,0,0,0⟩:ap)).toArray),r5] ip fun r6=>cl Tryz.prog jO [r6] eH fun r9=>hpv Tryz.prog (do eqGuard .eql 171 (.tmp 12) (.const Value.nilIface) r6 Value.nilIface; binOp .eql 171 r6 Value.nilIface:Sem Value) aK fun (v13:Bool)=>br (v13 || r9.1.isNone) ( K false) ( br r9.2 ( nn r9.1 fun q21=>ld (q21.1,q21.2 + 1) (cI .i64) fun x23=>br (x23 == 2) ( ld (q21.1,q21.2 + 2) ap.C fun x30=>br (ap.eqb x30 (⟨1,2,0,0,0⟩:ap)) ( ld (q21.1,q21.2 + 0) (cI .i64) fun x38=>br (x38 == 3) ( cl Tryz.prog ua [r6] bv fun r43=>br (r43 == 3) ( cl Tryz.prog wJ [r6] dO fun r48=>br (r48 == 2) ( cl Tryz.prog ko [(.int .i64 3)] ip fun r53=>cl Tryz.prog nG [r6,r53] aK fun r54=>br r54 ( cl Tryz.prog ko [(.int .i64 4)] ip fun r58=>cl Tryz.prog nG [r6,r58] aK fun r59=>br (!r59) ( cln Tryz.prog (callMethod r6 "Error" #[]) dY fun (v64:ByteArray)=>hpv Tryz.prog (do eqGuard .eql 9 (.tmp 64) (.const (.string nW)) (.string v64) (.string nW); binOp .eql 9 (.string v64) (.string nW):Sem Value) aK fun (v65:Bool)=>br v65 ( cl Tryz.prog ko [(.int .i64 0)] ip fun r68=>hpv Tryz.prog (do eqGuard .eql 171 (.tmp 68) (.const Value.nilIface) r68 Value.nilIface; binOp .eql 171 r68 Value.nilIface:Sem Value) aK fun (v69:Bool)=>K v69) ( K false)) ( K false)) ( K false)) ( K false)) ( K false)) ( K false)) ( K false)) ( K false)) ( K false))
set_option maxRecDepth 20000 in
theorem wo {K:Bool→Hp→Prop} {h:Hp} (H:pd K h):Ct Tryz.prog ll #[] h fun v h'=>∃ r,v = aK r∧K r h':=aD [] Tryz.func203 rfl rfl rfl fun _=>ah<|ac<|aa (ag rfl) rfl<|ae<|ah<|ac<|aa (bo rfl (ma 1 2)) rfl<|ak (aB H xf rfl rfl fun r5 _ H1=>ak (aB H1 en_168 rfl rfl fun r6 _ H2=>aa (ag rfl) rfl<|ae<|ah<|ac<|aa (ad rfl) rfl<|ak (aB H2 en_202 rfl rfl fun r9 _ H3=>aa (ad rfl) rfl<|aa (aq rfl rfl) rfl<|aa (aq rfl rfl) rfl<|aa (ag rfl) rfl<|aa (ag rfl) rfl<|ae<|ah<|ah<|ac<|aa (ad rfl) rfl<|ak (be H3 (gf rfl rfl) rfl fun v13 _ H4=>aa (ad rfl) rfl<|aj rfl rfl rfl (aS _) (fun g5=>wv (ad rfl)) rfl<|aj rfl rfl rfl (aS _) (fun g6=>wv (cA Tryz.underlying226 (aJ rfl g6))) rfl<|aa (dr rfl rfl) rfl<|ae<|aC rfl H4 (fun k7 H8=>ah<|ac<|aa (ag rfl) rfl<|ae<|ao<|aw (az rfl (aE rfl)) ⟨false,rfl,H8⟩) (fun k7 H8=>av<|ah<|ac<|aa (ad rfl) rfl<|aa (ad rfl) rfl<|aj rfl rfl rfl (aA _) (fun g9=>wv (ad rfl)) rfl<|cc H8 (fun k11 H12=>bQ H12 fun q21 e13 H14=>aL rfl rfl rfl (congrArg Value.bool k11) (aQ (wv (aV (aW (aJ rfl k11) (ax e13)))) rfl<|aL rfl rfl rfl (congrArg Value.bool k11) (aQ (wv (an fld_228_1 rfl)) rfl<|aL rfl rfl rfl (congrArg Value.bool k11) (bg H14 bj rfl (fun _=>rfl) rfl fun x23 H15=>aL rfl rfl rfl (congrArg Value.bool k11) (aQ (wv (bV rfl rfl)) rfl<|aa (bd rfl k11 rfl) rfl<|aa (ad rfl) rfl<|aj rfl rfl rfl (aA _) (fun g16=>wv (ad (aW rfl (ax e13)))) rfl<|aj rfl rfl rfl (aA _) (fun g17=>wv (aV (aJ rfl g17))) rfl<|aj rfl rfl rfl (aA _) (fun g18=>wv (an fld_228_2 (aJ rfl g18))) rfl<|cc H15 (fun k20 H21=>aL rfl rfl rfl (congrArg Value.bool k20) (gI H21 fw (aJ rfl k20) (fun _=>rfl) rfl fun x30 H22=>aL rfl rfl rfl (congrArg Value.bool k20) (aQ (wv (bo rfl (ma 1 2))) rfl<|aL rfl rfl rfl (congrArg Value.bool k20) (aQ (wv (v_eqA eqg_27 (eqr_27 9998 _ _) rfl rfl)) rfl<|aa (bd rfl k20 rfl) rfl<|aa (ad rfl) rfl<|aj rfl rfl rfl (aA _) (fun g23=>wv (ad (aW rfl (ax e13)))) rfl<|aj rfl rfl rfl (aA _) (fun g24=>wv (aV (aJ rfl g24))) rfl<|aj rfl rfl rfl (aA _) (fun g25=>wv (an vu (aJ rfl g25))) rfl<|cc H22 (fun k27 H28=>aL rfl rfl rfl (congrArg Value.bool k27) (bg H28 ov (aJ rfl k27) (fun _=>rfl) rfl fun x38 H29=>aL rfl rfl rfl (congrArg Value.bool k27) (aQ (wv (bV rfl rfl)) rfl<|aa (bd rfl k27 rfl) rfl<|aa (ad rfl) rfl<|aj rfl rfl rfl (aA _) (fun g30=>wv (ad rfl)) rfl<|cc H29 (fun k32 H33=>aL rfl rfl rfl (congrArg Value.bool k32) (aB H33 en_189 (ba (aJ rfl k32) bY) rfl fun r43 _ H34=>aL rfl rfl rfl (congrArg Value.bool k32) (aQ (wv (bV rfl rfl)) rfl<|aa (bd rfl k32 rfl) rfl<|aa (ad rfl) rfl<|aj rfl rfl rfl (aA _) (fun g35=>wv (ad rfl)) rfl<|cc H34 (fun k37 H38=>aL rfl rfl rfl (congrArg Value.bool k37) (aB H38 en_208 (ba (aJ rfl k37) bY) rfl fun r48 _ H39=>aL rfl rfl rfl (congrArg Value.bool k37) (aQ (wv (bV rfl rfl)) rfl<|aa (bd rfl k37 rfl) rfl<|aa (ad rfl) rfl<|aj rfl rfl rfl (aA _) (fun g40=>wv (ad rfl)) rfl<|cc H39 (fun k42 H43=>aL rfl rfl rfl (congrArg Value.bool k42) (aB H43 xf rfl rfl fun r53 _ H44=>aL rfl rfl rfl (congrArg Value.bool k42) (aB H44 en_133 (ba (aJ rfl k42) (ba rfl bY)) rfl fun r54 _ H45=>aa (bd rfl k42 rfl) rfl<|aa (ad rfl) rfl<|aj rfl rfl rfl (aA _) (fun g46=>wv (ad rfl)) rfl<|cc H45 (fun k48 H49=>aL rfl rfl rfl (congrArg Value.bool k48) (aB H49 xf rfl rfl fun r58 _ H50=>aL rfl rfl rfl (congrArg Value.bool k48) (aB H50 en_133 (ba (aJ rfl k48) (ba rfl bY)) rfl fun r59 _ H51=>aL rfl rfl rfl (congrArg Value.bool k48) (aQ (wv (cD rfl)) rfl<|aa (bd rfl k48 rfl) rfl<|aa (ad rfl) rfl<|aj rfl rfl rfl (aA _) (fun g52=>wv (ad rfl)) rfl<|cc H51 (fun k54 H55=>aL rfl rfl rfl (congrArg Value.bool k54) (fX H55 (fW (vs:=[]) (aJ rfl k54) rfl) rfl fun v64 _ H56=>aL rfl rfl rfl (congrArg Value.bool k54) (be H56 (gf rfl rfl) rfl fun v65 _ H57=>aa (bd rfl k54 rfl) rfl<|aa (ad rfl) rfl<|cc H57 (fun k59 H60=>aL rfl rfl rfl (congrArg Value.bool k59) (aB H60 xf rfl rfl fun r68 _ H61=>aL rfl rfl rfl (congrArg Value.bool k59) (be H61 (gf rfl rfl) rfl fun v69 _ H62=>aa (bd rfl k59 rfl) rfl<|aa (ag rfl) rfl<|ae<|ao<|aw (az rfl (aE rfl)) ⟨v69,rfl,H62⟩))) (fun k59 H60=>am rfl rfl rfl (bc k59) rfl<|am rfl rfl rfl (bc k59) rfl<|aa (ay rfl k59 rfl) rfl<|aa (ag rfl) rfl<|ae<|ao<|aw (az rfl (aE rfl)) ⟨false,rfl,H60⟩)))) (fun k54 H55=>am rfl rfl rfl (bc k54) rfl<|am rfl rfl rfl (bc k54) rfl<|aa (ay rfl k54 rfl) rfl<|aa (ad rfl) rfl<|am rfl rfl rfl rfl rfl<|am rfl rfl rfl rfl rfl<|aa (ay rfl rfl rfl) rfl<|aa (ag rfl) rfl<|ae<|ao<|aw (az rfl (aE rfl)) ⟨false,rfl,H55⟩))))) (fun k48 H49=>am rfl rfl rfl (bc k48) rfl<|am rfl rfl rfl (bc k48) rfl<|am rfl rfl rfl (bc k48) rfl<|aa (ay rfl k48 rfl) rfl<|aa (ad rfl) rfl<|am rfl rfl rfl rfl rfl<|am rfl rfl rfl rfl rfl<|am rfl rfl rfl rfl rfl<|aa (ay rfl rfl rfl) rfl<|aa (ad rfl) rfl<|am rfl rfl rfl rfl rfl<|am rfl rfl rfl rfl rfl<|aa (ay rfl rfl rfl) rfl<|aa (ag rfl) rfl<|ae<|ao<|aw (az rfl (aE rfl)) ⟨false,rfl,H49⟩)))) (fun k42 H43=>am rfl rfl rfl (bc k42) rfl<|am rfl rfl rfl (bc k42) rfl<|aa (ay rfl k42 rfl) rfl<|aa (ad rfl) rfl<|am rfl rfl rfl rfl rfl<|am rfl rfl rfl rfl rfl<|am rfl rfl rfl rfl rfl<|am rfl rfl rfl rfl rfl<|aa (ay rfl rfl rfl) rfl<|aa (ad rfl) rfl<|am rfl rfl rfl rfl rfl<|am rfl rfl rfl rfl rfl<|am rfl rfl rfl rfl rfl<|aa (ay rfl rfl rfl) rfl<|aa (ad rfl) rfl<|am rfl rfl rfl rfl rfl<|am rfl rfl rfl rfl rfl<|aa (ay rfl rfl rfl) rfl<|aa (ag rfl) rfl<|ae<|ao<|aw (az rfl (aE rfl)) ⟨false,rfl,H43⟩)))) (fun k37 H38=>am rfl rfl rfl (bc k37) rfl<|am rfl rfl rfl (bc k37) rfl<|aa (ay rfl k37 rfl) rfl<|aa (ad rfl) rfl<|am rfl rfl rfl rfl rfl<|am rfl rfl rfl rfl rfl<|am rfl rfl rfl rfl rfl<|aa (ay rfl rfl rfl) rfl<|aa (ad rfl) rfl<|am rfl rfl rfl rfl rfl<|am rfl rfl rfl rfl rfl<|am rfl rfl rfl rfl rfl<|am rfl rfl rfl rfl rfl<|aa (ay rfl rfl rfl) rfl<|aa (ad rfl) rfl<|am rfl rfl rfl rfl rfl<|am rfl rfl rfl rfl rfl<|am rfl rfl rfl rfl rfl<|aa (ay rfl rfl rfl) rfl<|aa (ad rfl) rfl<|am rfl rfl rfl rfl rfl<|am rfl rfl rfl rfl rfl<|aa (ay rfl rfl rfl) rfl<|aa (ag rfl) rfl<|ae<|ao<|aw (az rfl (aE rfl)) ⟨false,rfl,H38⟩)))) (fun k32 H33=>am rfl rfl rfl (bc k32) rfl<|am rfl rfl rfl (bc k32) rfl<|aa (ay rfl k32 rfl) rfl<|aa (ad rfl) rfl<|am rfl rfl rfl rfl rfl<|am rfl rfl rfl rfl rfl<|am rfl rfl rfl rfl rfl<|aa (ay rfl rfl rfl) rfl<|aa (ad rfl) rfl<|am rfl rfl rfl rfl rfl<|am rfl rfl rfl rfl rfl<|am rfl rfl rfl rfl rfl<|aa (ay rfl rfl rfl) rfl<|aa (ad rfl) rfl<|am rfl rfl rfl rfl rfl<|am rfl rfl rfl rfl rfl<|am rfl rfl rfl rfl rfl<|am rfl rfl rfl rfl rfl<|aa (ay rfl rfl rfl) rfl<|aa (ad rfl) rfl<|am rfl rfl rfl rfl rfl<|am rfl rfl rfl rfl rfl<|am rfl rfl rfl rfl rfl<|aa (ay rfl rfl rfl) rfl<|aa (ad rfl) rfl<|am rfl rfl rfl rfl rfl<|am rfl rfl rfl rfl rfl<|aa (ay rfl rfl rfl) rfl<|aa (ag rfl) rfl<|ae<|ao<|aw (az rfl (aE rfl)) ⟨false,rfl,H33⟩)))) (fun k27 H28=>am rfl rfl rfl (bc k27) rfl<|am rfl rfl rfl (bc k27) rfl<|aa (ay rfl k27 rfl) rfl<|aa (ad rfl) rfl<|am rfl rfl rfl rfl rfl<|am rfl rfl rfl rfl rfl<|am rfl rfl rfl rfl rfl<|aa (ay rfl rfl rfl) rfl<|aa (ad rfl) rfl<|am rfl rfl rfl rfl rfl<|am rfl rfl rfl rfl rfl<|am rfl rfl rfl rfl rfl<|aa (ay rfl rfl rfl) rfl<|aa (ad rfl) rfl<|am rfl rfl rfl rfl rfl<|am rfl rfl rfl rfl rfl<|am rfl rfl rfl rfl rfl<|aa (ay rfl rfl rfl) rfl<|aa (ad rfl) rfl<|am rfl rfl rfl rfl rfl<|am rfl rfl rfl rfl rfl<|am rfl rfl rfl rfl rfl<|am rfl rfl rfl rfl rfl<|aa (ay rfl rfl rfl) rfl<|aa (ad rfl) rfl<|am rfl rfl rfl rfl rfl<|am rfl rfl rfl rfl rfl<|am rfl rfl rfl rfl rfl<|aa (ay rfl rfl rfl) rfl<|aa (ad rfl) rfl<|am rfl rfl rfl rfl rfl<|am rfl rfl rfl rfl rfl<|aa (ay rfl rfl rfl) rfl<|aa (ag rfl) rfl<|ae<|ao<|aw (az rfl (aE rfl)) ⟨false,rfl,H28⟩))))) (fun k20 H21=>am rfl rfl rfl (bc k20) rfl<|am rfl rfl rfl (bc k20) rfl<|am rfl rfl rfl (bc k20) rfl<|aa (ay rfl k20 rfl) rfl<|aa (ad rfl) rfl<|am rfl rfl rfl rfl rfl<|am rfl rfl rfl rfl rfl<|am rfl rfl rfl rfl rfl<|am rfl rfl rfl rfl rfl<|am rfl rfl rfl rfl rfl<|aa (ay rfl rfl rfl) rfl<|aa (ad rfl) rfl<|am rfl rfl rfl rfl rfl<|am rfl rfl rfl rfl rfl<|am rfl rfl rfl rfl rfl<|aa (ay rfl rfl rfl) rfl<|aa (ad rfl) rfl<|am rfl rfl rfl rfl rfl<|am rfl rfl rfl rfl rfl<|am rfl rfl rfl rfl rfl<|aa (ay rfl rfl rfl) rfl<|aa (ad rfl) rfl<|am rfl rfl rfl rfl rfl<|am rfl rfl rfl rfl rfl<|am rfl rfl rfl rfl rfl<|aa (ay rfl rfl rfl) rfl<|aa (ad rfl) rfl<|am rfl rfl rfl rfl rfl<|am rfl rfl rfl rfl rfl<|am rfl rfl rfl rfl rfl<|am rfl rfl rfl rfl rfl<|aa (ay rfl rfl rfl) rfl<|aa (ad rfl) rfl<|am rfl rfl rfl rfl rfl<|am rfl rfl rfl rfl rfl<|am rfl rfl rfl rfl rfl<|aa (ay rfl rfl rfl) rfl<|aa (ad rfl) rfl<|am rfl rfl rfl rfl rfl<|am rfl rfl rfl rfl rfl<|aa (ay rfl rfl rfl) rfl<|aa (ag rfl) rfl<|ae<|ao<|aw (az rfl (aE rfl)) ⟨false,rfl,H21⟩)))))) (fun k11 H12=>am rfl rfl rfl (bc k11) rfl<|am rfl rfl rfl (bc k11) rfl<|am rfl rfl rfl (bc k11) rfl<|am rfl rfl rfl (bc k11) rfl<|aa (ay rfl k11 rfl) rfl<|aa (ad rfl) rfl<|am rfl rfl rfl rfl rfl<|am rfl rfl rfl rfl rfl<|am rfl rfl rfl rfl rfl<|am rfl rfl rfl rfl rfl<|am rfl rfl rfl rfl rfl<|am rfl rfl rfl rfl rfl<|aa (ay rfl rfl rfl) rfl<|aa (ad rfl) rfl<|am rfl rfl rfl rfl rfl<|am rfl rfl rfl rfl rfl<|am rfl rfl rfl rfl rfl<|am rfl rfl rfl rfl rfl<|am rfl rfl rfl rfl rfl<|aa (ay rfl rfl rfl) rfl<|aa (ad rfl) rfl<|am rfl rfl rfl rfl rfl<|am rfl rfl rfl rfl rfl<|am rfl rfl rfl rfl rfl<|aa (ay rfl rfl rfl) rfl<|aa (ad rfl) rfl<|am rfl rfl rfl rfl rfl<|am rfl rfl rfl rfl rfl<|am rfl rfl rfl rfl rfl<|aa (ay rfl rfl rfl) rfl<|aa (ad rfl) rfl<|am rfl rfl rfl rfl rfl<|am rfl rfl rfl rfl rfl<|am rfl rfl rfl rfl rfl<|aa (ay rfl rfl rfl) rfl<|aa (ad rfl) rfl<|am rfl rfl rfl rfl rfl<|am rfl rfl rfl rfl rfl<|am rfl rfl rfl rfl rfl<|am rfl rfl rfl rfl rfl<|aa (ay rfl rfl rfl) rfl<|aa (ad rfl) rfl<|am rfl rfl rfl rfl rfl<|am rfl rfl rfl rfl rfl<|am rfl rfl rfl rfl rfl<|aa (ay rfl rfl rfl) rfl<|aa (ad rfl) rfl<|am rfl rfl rfl rfl rfl<|am rfl rfl rfl rfl rfl<|aa (ay rfl rfl rfl) rfl<|aa (ag rfl) rfl<|ae<|ao<|aw (az rfl (aE rfl)) ⟨false,rfl,H12⟩))))))
def pf (K:Bool→Hp→Prop):Hp→Prop:=cl Tryz.prog ll [] aK fun r1=>K r1
set_option maxRecDepth 20000 in
theorem wq {K:Bool→Hp→Prop} {h:Hp} (H:pf K h):Ct Tryz.prog lm #[] h fun v h'=>∃ r,v = aK r∧K r h':=aD [] Tryz.func194 rfl rfl rfl fun _=>ah<|ac<|aa (ag rfl) rfl<|ae<|ah<|ac<|ak (aB H en_203 rfl rfl fun r1 _ H1=>aa (ag rfl) rfl<|ae<|ao<|aw (az rfl (aE rfl)) ⟨r1,rfl,H1⟩)
end Go.Proofs.YtniiiakkdoiaiaaGreatDoor
namespace Go.Proofs.YtniiiakkdoiaiaaGreatDoor
open Go Mb
variable {ET:Nat} {EF:Nat × Nat}
abbrev s3_:ByteArray:=⟨#[51]⟩
theorem sp_small3:Sp Tryz.prog ja [.int .i64 3] dY [] (fun r=>pa_ (r = s3_) []):=by
  intro h st
  refine sy _ ?_
  unfold me
  exact dW rfl (ft s3_ (fun K h=>by kernel_rfl) (bi rfl st))
theorem sp_FormatInt3:Sp Tryz.prog gu [.int .i64 3,.int .i64 10] dY [] (fun r=>pa_ (r = s3_) []):=by
  intro h st
  refine pH _ _ ?_
  unfold jI
  refine dW rfl (dW rfl (ti sp_small3 st fun r h' hr s2=>?_))
  exact bi hr s2
theorem sp_Itoa3':Sp Tryz.prog jv [.int .i64 3] dY [] (fun r=>pa_ (r = s3_) []):=by
  intro h st
  refine tu _ ?_
  unfold mJ
  exact ti sp_FormatInt3 st fun r h' hr s2=>bi hr s2
theorem sp_Itoa3:Sp Tryz.prog sP [.int .i64 3] dY [] (fun r=>pa_ (r = s3_) []):=by
  intro h st
  refine sim_strconv_Itoa _ ?_
  unfold sh_strconv_Itoa
  exact ti sp_Itoa3' st fun r h' hr s2=>bi hr s2
abbrev t3_:ByteArray:=⟨#[116,114,97,112,32,51]⟩
theorem sp_Error1 (b:Nat) (t:ck) (hc:t.fCode = 3) (ht:t.fErr = Value.nilIface):Sp Tryz.prog iM [pv (some (b,0))] dY [trB b t] (fun r=>pa_ (r = t3_) [trB b t]):=by
  intro h st
  refine ri _ ?_
  unfold mX
  refine dJ rfl (cO ?_)
  refine bB t.fCode st (i:=0) rfl rfl rfl ?_
  rw [hc]
  refine ti sp_Itoa3 st fun r h' hr s2=>?_
  subst hr
  refine ft t3_ (fun K h=>by kernel_rfl) ?_
  refine bB t.fErr s2 (i:=0) rfl rfl rfl ?_
  rw [ht]
  refine ft false (fun K h=>by kernel_rfl) (dJ rfl ?_)
  exact bi rfl s2
theorem sp_Error2 (b e:Nat) (t u:ck) (hc:t.fCode = 3) (ht:t.fErr = dy e) (hd:u.fCode = 3) (hu:u.fErr = Value.nilIface):Sp Tryz.prog iM [pv (some (b,0))] dY [trB b t,trB e u] (fun r=>pa_ (r = nW) [trB b t,trB e u]):=by
  intro h st
  refine ri _ ?_
  unfold mX
  refine dJ rfl (cO ?_)
  refine bB t.fCode st (i:=0) rfl rfl rfl ?_
  rw [hc]
  refine ti sp_Itoa3 st fun r h' hr s2=>?_
  subst hr
  refine ft t3_ (fun K h=>by kernel_rfl) ?_
  refine bB t.fErr s2 (i:=0) rfl rfl rfl ?_
  rw [ht]
  refine ft true (fun K h=>by kernel_rfl) (dW rfl ?_)
  refine bB t.fErr s2 (i:=0) rfl rfl rfl ?_
  rw [ht]
  refine cln_en (f:=iM) (vs:=[pv (some (e,0))]) (fun K h=>by kernel_rfl) ?_
  refine bZ (i:=1) (sp_Error1 e u hd hu) rfl s2 fun r h' hr s3=>?_
  subst hr
  refine ft ⟨#[58,32,116,114,97,112,32,51]⟩ (fun K h=>by kernel_rfl) ?_
  refine ft nW (fun K h=>by kernel_rfl) ?_
  exact bi rfl s3
theorem star_ne {b d:Nat} {T T':TypeId} {c c':List Value} {l:List As} {h:Hp} (s:aP (blk b T c::blk d T' c'::l) h):b ≠ d:=by
  obtain ⟨h1,h2,dj,e,a,h3,h4,dj2,e2,a2,_⟩:=s
  rintro rfl
  have h1b:h1 b = some _:=a
  have h3b:h3 b = some _:=a2
  rcases dj b with x | x
  · rw [h1b] at x; cases x
  · rw [e2,un_left h3b] at x; cases x
theorem sp_Trap_Is (b d:Nat) (t w:ck):Sp Tryz.prog sN [pv (some (b,0)),dy d] aK [trB b t,trB d w] (fun r=>pa_ (r = (t.fCode == w.fCode)) [trB b t,trB d w]):=by
  intro h st
  refine sim_trap_Trap_Is _ _ ?_
  unfold sh_trap_Trap_Is
  refine ft (some (d,0),true) (fun K h=>by kernel_rfl) (dW rfl (dW rfl (dW rfl (cO (cO ?_)))))
  refine bB t.fCode st (i:=0) rfl rfl rfl ?_
  refine bB w.fCode st (i:=1) rfl rfl rfl ?_
  exact bi rfl st
theorem sp_Unwrap (b:Nat) (t:ck):Sp Tryz.prog mZ [pv (some (b,0))] encV [trB b t] (fun r=>pa_ (r = t.fErr) [trB b t]):=by
  intro h st
  refine sim_trap_Trap_Unwrap _ ?_
  unfold rj
  refine dJ rfl (cO ?_)
  refine bB t.fErr st (i:=0) rfl rfl rfl ?_
  exact bi rfl st
theorem eq_traps {K:Bool→Hp→Prop} {a b n m:Nat} {t u:ck} {l:List As} {h:Hp} (s:aP (trB a t::trB b u::l) h) (k:K false h):hpv Tryz.prog (do eqGuard .eql 171 (.tmp n) (.tmp m) (dy a) (dy b); binOp .eql 171 (dy a) (dy b):Sem Value) aK K h:=by
  obtain ⟨g1,a1,sub1⟩:=dX (l:=trB a t::trB b u::l) (A:=trB a t) (i:=0) (by rfl) s
  obtain ⟨g2,a2,sub2⟩:=dX (l:=trB a t::trB b u::l) (A:=trB b u) (i:=1) (by rfl) s
  have q1:h a = some (.cells (ck.C t).toArray nt (0,0)):=sub1 _ _ a1
  have q2:h b = some (.cells (ck.C u).toArray nt (0,0)):=sub2 _ _ a2
  have hne:=star_ne s
  have e:(a == b) = false:=by simpa using hne
  constructor
  rw [y6,cY]
  refine x25 _ _ q1 q2 ?_
  rw [e]
  exact ⟨false,rfl,k⟩
theorem is_step {b d:Nat} {t w:ck} {l:List As} {h:Hp} {K:Bool→Hp→Prop} {Rec:Value→Hp→Prop} (st:aP (trB b t::trB d w::l) h)
    (h1:t.fCode = w.fCode→∀ h',aP (trB b t::trB d w::l) h'→K true h') (h0:t.fCode ≠ w.fCode→t.fErr = .nilIface→∀ h',aP (trB b t::trB d w::l) h'→K false h')
    (h2:t.fCode ≠ w.fCode→∀ e,t.fErr = dy e→∀ h',aP (trB b t::trB d w::l) h'→Rec (dy e) h') (hok:t.fErr = .nilIface∨∃ e,t.fErr = dy e):rT (dy d) true K Rec (dy b) h:=by
  unfold rT
  refine dW rfl (eq_traps st (dJ rfl ?_))
  refine ft (dy b,true) (fun K h=>by kernel_rfl) (dW rfl ?_)
  refine cln_en (f:=sN) (vs:=[pv (some (b,0)),dy d]) (fun K h=>by kernel_rfl) ?_
  refine cW [] (rest:=l) (sp_Trap_Is b d t w) st rfl fun r h' s2=>?_
  obtain ⟨rfl,s3⟩:=bF.1 s2
  by_cases e:t.fCode = w.fCode
  · exact dW (by simpa using e) (h1 e _ s3)
  · refine dJ (by simpa using e) ?_
    unfold rU
    refine ft (dy b,true) (fun K h=>by kernel_rfl) (dW rfl ?_)
    refine cln_en (f:=mZ) (vs:=[pv (some (b,0))]) (fun K h=>by kernel_rfl) ?_
    refine bZ (i:=0) (sp_Unwrap b t) rfl s3 fun r h' hr s4=>?_
    subst hr
    rcases hok with hn | ⟨x,hx⟩
    · rw [hn]
      refine ft true (en_00 _) (dW rfl (h0 e hn _ ?_))
      simpa using s4
    · rw [hx]
      refine ft false (en_0 x _) (dJ rfl (h2 e x hx _ ?_))
      simpa using s4
theorem sp_is1 (b d:Nat) (t w:ck) (hc:t.fCode = w.fCode) (hok:t.fErr = .nilIface∨∃ e,t.fErr = dy e):Sp Tryz.prog nF [dy b,dy d,.bool true] aK [trB b t,trB d w] (fun r=>pa_ (r = true) [trB b t,trB d w]):=by
  intro h st
  refine sim_errors_is _ _ _ ?_
  unfold wz
  refine ⟨fun s h=>s = dy b∧aP [trB b t,trB d w] h,fun _ _=>0,⟨rfl,st⟩,?_⟩
  rintro _ h1 ⟨rfl,s1⟩
  exact is_step s1 (fun _ h' s2=>bi rfl s2) (fun e=>absurd hc e) (fun e=>absurd hc e) hok
theorem sp_is2 (b e d:Nat) (t u w:ck) (ht:t.fErr = dy e) (hu:u.fErr = .nilIface) (hc:t.fCode ≠ w.fCode) (hd:u.fCode ≠ w.fCode) :
    Sp Tryz.prog nF [dy b,dy d,.bool true] aK [trB b t,trB e u,trB d w] (fun r=>pa_ (r = false) [trB b t,trB e u,trB d w]):=by
  intro h st
  refine sim_errors_is _ _ _ ?_
  unfold wz
  refine ⟨fun s h=>(s = dy b∨s = dy e)∧aP [trB b t,trB e u,trB d w] h,fun s _=>match s with | .iface _ (.pointer (some p))=>if p.block = b then 1 else 0 | _=>0,⟨.inl rfl,st⟩,?_⟩
  have hne:e ≠ b:=fun h=>(star_ne st) h.symm
  rintro _ h1 ⟨rfl | rfl,s1⟩
  · refine is_step (l:=[trB e u]) (bp [0,1] s1 rfl) (fun x=>absurd x hc) (fun _ x=>by rw [ht] at x; cases x) (fun _ x hx h' s2=>?_) (.inr ⟨e,ht⟩)
    rw [ht] at hx
    rw [← hx]
    exact ⟨⟨.inr rfl,bp [0,1] s2 rfl⟩,by show (if e = b then 1 else 0) < (if b = b then 1 else 0); rw [if_pos rfl,if_neg hne]; exact Nat.one_pos⟩
  · refine is_step (l:=[trB b t]) (bp [1,1] s1 rfl) (fun x=>absurd x hd) (fun _ _ h' s2=>bi rfl (bp [2,0] s2 rfl)) (fun _ x hx=>by rw [hu] at hx; cases hx) (.inl hu)
theorem sp_Is1 (b d:Nat) (t w:ck) (hc:t.fCode = w.fCode) (hok:t.fErr = .nilIface∨∃ e,t.fErr = dy e):Sp Tryz.prog nG [dy b,dy d] aK [trB b t,trB d w] (fun r=>pa_ (r = true) [trB b t,trB d w]):=by
  intro h st
  refine sim_errors_Is _ _ ?_
  unfold wA
  refine ft false (en_0 b _) (dW rfl (ft false (en_0 d _) (dJ rfl ?_)))
  refine th (rtV bt) (fun K h=>x7 d K h) ?_
  refine th true (fun K h=>x13 K h) ?_
  refine cW [] (rest:=[]) (sp_is1 b d t w hc hok) st rfl fun r h' s2=>?_
  obtain ⟨rfl,s3⟩:=bF.1 s2
  exact bi rfl s3
theorem sp_Is2 (b e d:Nat) (t u w:ck) (ht:t.fErr = dy e) (hu:u.fErr = .nilIface) (hc:t.fCode ≠ w.fCode) (hd:u.fCode ≠ w.fCode) :
    Sp Tryz.prog nG [dy b,dy d] aK [trB b t,trB e u,trB d w] (fun r=>pa_ (r = false) [trB b t,trB e u,trB d w]):=by
  intro h st
  refine sim_errors_Is _ _ ?_
  unfold wA
  refine ft false (en_0 b _) (dW rfl (ft false (en_0 d _) (dJ rfl ?_)))
  refine th (rtV bt) (fun K h=>x7 d K h) ?_
  refine th true (fun K h=>x13 K h) ?_
  refine cW [] (rest:=[]) (sp_is2 b e d t u w ht hu hc hd) st rfl fun r h' s2=>?_
  obtain ⟨rfl,s3⟩:=bF.1 s2
  exact bi rfl s3
theorem ui {α:Type} {A:α→As} {l:List As} {h:Hp} (s:aP (ex A::l) h):∃ x,aP (A x::l) h:=by
  obtain ⟨h1,h2,d,e,⟨x,a⟩,s2⟩:=s
  exact ⟨x,h1,h2,d,e,a,s2⟩
abbrev tr3:ck:=⟨3,-1,⟨0,0,0,0,0⟩,.nilIface⟩
abbrev tr4:ck:=⟨4,-1,⟨0,0,0,0,0⟩,.nilIface⟩
abbrev tr32 (e:Nat):ck:=⟨3,2,⟨1,2,0,0,0⟩,dy e⟩
theorem sp_begun1:Sp Tryz.prog ll [] aK [(etB ET EF)] (fun r=>pa_ (r = true) [(etB ET EF)]):=by
  intro h st
  refine wo ?_
  unfold pd
  refine cW [] (rest:=[(etB ET EF)]) (sp_Of 3 (by decide)) st rfl fun r h1 s1=>?_
  obtain ⟨e,x1⟩:=ui s1
  obtain ⟨rfl,y1⟩:=bF.1 x1
  refine cW [1,0] (rest:=[]) (sp_In 2 ⟨1,2,0,0,0⟩ e tr3) y1 rfl fun r h2 s2=>?_
  obtain ⟨b,x2⟩:=ui s2
  obtain ⟨rfl,y2⟩:=bF.1 x2
  refine bZ (i:=1) (sp_First b) rfl y2 fun r h3 hr s3=>?_
  subst hr
  refine ft false (en_0 b _) (dJ rfl (dW rfl (cO ?_)))
  refine bB 2 s3 (i:=0) rfl rfl rfl (dW rfl ?_)
  refine ld_s ⟨1,2,0,0,0⟩ s3 (i:=0) rfl (fun j v hj=>?_) (dW rfl ?_)
  · rcases j with _ | _ | _ | _ | _ | j <;> first | exact hj | (simp [ap.C] at hj)
  refine bB 3 s3 (i:=0) rfl rfl rfl (dW rfl ?_)
  refine cW [1,0] (rest:=[_]) (sp_Code b (tr32 e)) s3 rfl fun r h4 s4=>?_
  obtain ⟨rfl,y4⟩:=bF.1 s4
  refine dW rfl ?_
  refine cW [] (rest:=[]) (sp_Depth2 b e (tr32 e) tr3 rfl rfl) y4 rfl fun r h5 s5=>?_
  obtain ⟨rfl,y5⟩:=bF.1 s5
  refine dW rfl ?_
  refine cW [] (rest:=[_,_,_]) (sp_Of 3 (by decide)) y5 rfl fun r h6 s6=>?_
  obtain ⟨d,x6⟩:=ui s6
  obtain ⟨rfl,y6⟩:=bF.1 x6
  refine cW [2,0] (rest:=[_,_]) (sp_Is1 b d (tr32 e) tr3 rfl (.inr ⟨e,rfl⟩)) y6 rfl fun r h7 s7=>?_
  obtain ⟨rfl,y7⟩:=bF.1 s7
  refine dW rfl ?_
  refine cW [] (rest:=[_,_,_,_]) (sp_Of 4 (by decide)) y7 rfl fun r h8 s8=>?_
  obtain ⟨f,x8⟩:=ui s8
  obtain ⟨rfl,y8⟩:=bF.1 x8
  refine cW [1,3,0] (rest:=[_,_]) (sp_Is2 b e f (tr32 e) tr3 tr4 rfl rfl (show (3:Int) ≠ 4 by decide) (show (3:Int) ≠ 4 by decide)) y8 rfl fun r h9 s9=>?_
  obtain ⟨rfl,y9⟩:=bF.1 s9
  refine dW rfl ?_
  refine cln_en (f:=iM) (vs:=[pv (some (b,0))]) (fun K h=>by kernel_rfl) ?_
  refine cW [] (rest:=[_,_,_]) (sp_Error2 b e (tr32 e) tr3 rfl rfl rfl rfl) y9 rfl fun r h10 s10=>?_
  obtain ⟨rfl,y10⟩:=bF.1 s10
  refine ft true (fun K h=>by kernel_rfl) (dW rfl ?_)
  refine ti sp_Of0 y10 fun r h11 hr s11=>?_
  subst hr
  refine ft true (en_00 _) ?_
  exact bi rfl (ct (l:=[_,_,_,_]) s11)
end Go.Proofs.YtniiiakkdoiaiaaGreatDoor
namespace Go.Proofs.YtniiiakkdoiaiaaGreatDoor
open Go Mb
set_option linter.unusedVariables false
def sh_cell_New (a0:Int) (K:Ptr→Hp→Prop):Hp→Prop:=nw qn (nR.C (⟨a0,0⟩:nR)) fun b5=>K (some (b5,0))
set_option maxRecDepth 20000 in
theorem sim_cell_New (a0:Int) {K:Ptr→Hp→Prop} {h:Hp} (H:sh_cell_New a0 K h):Ct Tryz.prog sU #[(.int .u64 a0)] h fun v h'=>∃ r,v = oP r∧K r h':=aD [(.int .u64 a0)] Tryz.func190 rfl rfl rfl fun _=>ah<|ac<|aa (ag rfl) rfl<|ae<|ah<|ac<|aa (ad rfl) rfl<|aa (bo rfl (build_258_0 a0)) rfl<|ak (hH rfl rfl rfl H fun b5 _ H1=>aa (ag rfl) rfl<|ae<|ao<|aw (az rfl (aE rfl)) ⟨(some (b5,0)),rfl,H1⟩)
def sh_cell_Cell_Up (a0:Ptr) (a1:Int) (K:(Int × Bool)→Hp→Prop):Hp→Prop:=br a0.isNone ( K (0,false)) ( nn a0 fun q9=>ld (q9.1,q9.2 + 1) (cI .i64) fun x11=>st (q9.1,q9.2 + 1) [.int .i64 (IntKind.i64.wrap (x11 + 1))]<|ld (q9.1,q9.2 + 0) (cI .u64) fun x18=>br (decide (x18 ≥ a1)) ( ld (q9.1,q9.2 + 0) (cI .u64) fun x24=>K (x24,false)) ( ld (q9.1,q9.2 + 0) (cI .u64) fun x28=>st (q9.1,q9.2 + 0) [.int .u64 (IntKind.u64.wrap (x28 + 1))]<|ld (q9.1,q9.2 + 0) (cI .u64) fun x35=>K (x35,true)))
set_option maxRecDepth 20000 in
theorem sim_cell_Cell_Up (a0:Ptr) (a1:Int) {K:(Int × Bool)→Hp→Prop} {h:Hp} (H:sh_cell_Cell_Up a0 a1 K h):Ct Tryz.prog oI #[(pv a0),(.int .u64 a1)] h fun v h'=>∃ r,v = bT r∧K r h':=aD [(pv a0),(.int .u64 a1)] Tryz.func192 rfl rfl rfl fun _=>ah<|ac<|aa (ag rfl) rfl<|aa (ag rfl) rfl<|ae<|ah<|ah<|ac<|aa (ad rfl) rfl<|aa (cA Tryz.underlying239 rfl) rfl<|ae<|aC rfl H (fun k1 H2=>ah<|ac<|aa (ag rfl) rfl<|aa (ag rfl) rfl<|ae<|ao<|aw (ce rfl (aE rfl) (aE rfl)) ⟨(0,false),rfl,H2⟩) (fun k1 H2=>av<|ah<|ac<|aa (ad rfl) rfl<|bQ H2 fun q9 e3 H4=>aa (aV (aW rfl (ax e3))) rfl<|aa (an sg rfl) rfl<|ak (bg H4 bj rfl (fun _=>rfl) rfl fun x11 H5=>aa (bI rfl rfl) rfl<|aa (aV (aW rfl (ax e3))) rfl<|aa (an sg rfl) rfl<|ak (dC qG rfl rfl rfl rfl rfl H5 fun _ H6=>ae<|ah<|ah<|ac<|aa (ad (aW rfl (ax e3))) rfl<|aa (aV rfl) rfl<|aa (an nL rfl) rfl<|ak (bg H6 cE rfl (fun _=>rfl) rfl fun x18 H7=>aa (ad rfl) rfl<|aa (gz rfl rfl) rfl<|ae<|aC rfl H7 (fun k8 H9=>ah<|ac<|aa (ad (aW rfl (ax e3))) rfl<|aa (aV rfl) rfl<|aa (an nL rfl) rfl<|ak (bg H9 cE rfl (fun _=>rfl) rfl fun x24 H10=>aa (ag rfl) rfl<|aa (ag rfl) rfl<|ae<|ao<|aw (ce rfl (aE rfl) (aE rfl)) ⟨(x24,false),rfl,H10⟩)) (fun k8 H9=>av<|ah<|ac<|aa (ad (aW rfl (ax e3))) rfl<|aa (aV rfl) rfl<|aa (an nL rfl) rfl<|ak (bg H9 cE rfl (fun _=>rfl) rfl fun x28 H11=>aa (bI rfl rfl) rfl<|aa (aV rfl) rfl<|aa (an nL rfl) rfl<|ak (dC inf_25 rfl rfl rfl rfl rfl H11 fun _ H12=>ae<|ah<|ac<|aa (ad (aW rfl (ax e3))) rfl<|aa (aV rfl) rfl<|aa (an nL rfl) rfl<|ak (bg H12 cE rfl (fun _=>rfl) rfl fun x35 H13=>aa (ag rfl) rfl<|aa (ag rfl) rfl<|ae<|ao<|aw (ce rfl (aE rfl) (aE rfl)) ⟨(x35,true),rfl,H13⟩))))))))
def tS (a0:Ptr) (K:Int→Hp→Prop):Hp→Prop:=br a0.isNone ( K 0) ( nn a0 fun q6=>ld (q6.1,q6.2 + 1) (cI .i64) fun x8=>st (q6.1,q6.2 + 1) [.int .i64 (IntKind.i64.wrap (x8 + 1))]<|ld (q6.1,q6.2 + 0) (cI .u64) fun x15=>K x15)
set_option maxRecDepth 20000 in
theorem sim_cell_Cell_Load (a0:Ptr) {K:Int→Hp→Prop} {h:Hp} (H:tS a0 K h):Ct Tryz.prog lT #[(pv a0)] h fun v h'=>∃ r,v = gH r∧K r h':=aD [(pv a0)] Tryz.func204 rfl rfl rfl fun _=>ah<|ac<|aa (ag rfl) rfl<|ae<|ah<|ah<|ac<|aa (ad rfl) rfl<|aa (cA Tryz.underlying239 rfl) rfl<|ae<|aC rfl H (fun k1 H2=>ah<|ac<|aa (ag rfl) rfl<|ae<|ao<|aw (az rfl (aE rfl)) ⟨0,rfl,H2⟩) (fun k1 H2=>av<|ah<|ac<|aa (ad rfl) rfl<|bQ H2 fun q6 e3 H4=>aa (aV (aW rfl (ax e3))) rfl<|aa (an sg rfl) rfl<|ak (bg H4 bj rfl (fun _=>rfl) rfl fun x8 H5=>aa (bI rfl rfl) rfl<|aa (aV (aW rfl (ax e3))) rfl<|aa (an sg rfl) rfl<|ak (dC qG rfl rfl rfl rfl rfl H5 fun _ H6=>ae<|ah<|ac<|aa (ad (aW rfl (ax e3))) rfl<|aa (aV rfl) rfl<|aa (an nL rfl) rfl<|ak (bg H6 cE rfl (fun _=>rfl) rfl fun x15 H7=>aa (ag rfl) rfl<|ae<|ao<|aw (az rfl (aE rfl)) ⟨x15,rfl,H7⟩))))
def vd (a0:Ptr) (a1:Int) (a2:Int) (K:Bool→Hp→Prop):Hp→Prop:=br a0.isNone ( K false) ( nn a0 fun q10=>ld (q10.1,q10.2 + 1) (cI .i64) fun x12=>st (q10.1,q10.2 + 1) [.int .i64 (IntKind.i64.wrap (x12 + 1))]<|ld (q10.1,q10.2 + 0) (cI .u64) fun x19=>br (x19 != a1) ( K false) ( st (q10.1,q10.2 + 0) [.int .u64 a2]<|K true))
set_option maxRecDepth 20000 in
theorem sim_cell_Cell_Cas (a0:Ptr) (a1:Int) (a2:Int) {K:Bool→Hp→Prop} {h:Hp} (H:vd a0 a1 a2 K h):Ct Tryz.prog qZ #[(pv a0),(.int .u64 a1),(.int .u64 a2)] h fun v h'=>∃ r,v = aK r∧K r h':=aD [(pv a0),(.int .u64 a1),(.int .u64 a2)] Tryz.func205 rfl rfl rfl fun _=>ah<|ac<|aa (ag rfl) rfl<|ae<|ah<|ah<|ac<|aa (ad rfl) rfl<|aa (cA Tryz.underlying239 rfl) rfl<|ae<|aC rfl H (fun k1 H2=>ah<|ac<|aa (ag rfl) rfl<|ae<|ao<|aw (az rfl (aE rfl)) ⟨false,rfl,H2⟩) (fun k1 H2=>av<|ah<|ac<|aa (ad rfl) rfl<|bQ H2 fun q10 e3 H4=>aa (aV (aW rfl (ax e3))) rfl<|aa (an sg rfl) rfl<|ak (bg H4 bj rfl (fun _=>rfl) rfl fun x12 H5=>aa (bI rfl rfl) rfl<|aa (aV (aW rfl (ax e3))) rfl<|aa (an sg rfl) rfl<|ak (dC qG rfl rfl rfl rfl rfl H5 fun _ H6=>ae<|ah<|ah<|ac<|aa (ad (aW rfl (ax e3))) rfl<|aa (aV rfl) rfl<|aa (an nL rfl) rfl<|ak (bg H6 cE rfl (fun _=>rfl) rfl fun x19 H7=>aa (ad rfl) rfl<|aa (qk rfl rfl) rfl<|ae<|aC rfl H7 (fun k8 H9=>ah<|ac<|aa (ag rfl) rfl<|ae<|ao<|aw (az rfl (aE rfl)) ⟨false,rfl,H9⟩) (fun k8 H9=>av<|ah<|ac<|aa (ad (aW rfl (ax e3))) rfl<|aa (ad rfl) rfl<|aa (aV rfl) rfl<|aa (an nL rfl) rfl<|ak (dC inf_25 rfl rfl rfl rfl rfl H9 fun _ H10=>ae<|ah<|ac<|aa (ag rfl) rfl<|ae<|ao<|aw (az rfl (aE rfl)) ⟨true,rfl,H10⟩))))))
end Go.Proofs.YtniiiakkdoiaiaaGreatDoor
namespace Go.Proofs.YtniiiakkdoiaiaaGreatDoor
open Go Mb
set_option linter.unusedVariables false
def sh_ticket_New (K:Ptr→Hp→Prop):Hp→Prop:=cl Tryz.prog sU [(.int .u64 0)] oP fun r1=>cl Tryz.prog sU [(.int .u64 0)] oP fun r2=>nw mF (ku.C (⟨r1,r2⟩:ku)) fun b4=>K (some (b4,0))
set_option maxRecDepth 20000 in
theorem sim_ticket_New {K:Ptr→Hp→Prop} {h:Hp} (H:sh_ticket_New K h):Ct Tryz.prog wK #[] h fun v h'=>∃ r,v = tq r∧K r h':=aD [] Tryz.func191 rfl rfl rfl fun _=>ah<|ac<|aa (ag rfl) rfl<|ae<|ah<|ac<|ak (aB H en_190 rfl rfl fun r1 _ H1=>ak (aB H1 en_190 rfl rfl fun r2 _ H2=>aa (bo rfl (build_260_0_1 r1 r2)) rfl<|ak (hH rfl rfl rfl H2 fun b4 _ H3=>aa (ag rfl) rfl<|ae<|ao<|aw (az rfl (aE rfl)) ⟨(some (b4,0)),rfl,H3⟩)))
def rn (a0:Ptr) (K:Int→Hp→Prop):Hp→Prop:=br a0.isNone ( K 0) ( nn a0 fun q9=>ld (q9.1,q9.2 + 0) cP fun x11=>cl Tryz.prog oI [(pv x11),(.int .u64 18446744073709551615)] bT fun r12=>K (IntKind.u64.wrap (r12.1 - 1)))
set_option maxRecDepth 20000 in
theorem sim_ticket_Lock_Draw (a0:Ptr) {K:Int→Hp→Prop} {h:Hp} (H:rn a0 K h):Ct Tryz.prog nc #[(pv a0)] h fun v h'=>∃ r,v = gH r∧K r h':=aD [(pv a0)] Tryz.func193 rfl rfl rfl fun _=>ah<|ac<|aa (ag rfl) rfl<|ae<|ah<|ah<|ac<|aa (ad rfl) rfl<|aa (cA Tryz.underlying241 rfl) rfl<|ae<|aC rfl H (fun k1 H2=>ah<|ac<|aa (ag rfl) rfl<|ae<|ao<|aw (az rfl (aE rfl)) ⟨0,rfl,H2⟩) (fun k1 H2=>av<|ah<|ac<|aa (ad rfl) rfl<|bQ H2 fun q9 e3 H4=>aa (aV (aW rfl (ax e3))) rfl<|aa (an fld_260_0 rfl) rfl<|ak (bg H4 sc_239 rfl (fun _=>rfl) rfl fun x11 H5=>ak (aB H5 en_192 rfl rfl fun r12 _ H6=>aa (ad rfl) rfl<|aa (aq rfl rfl) rfl<|aa (aq rfl rfl) rfl<|aa (ag rfl) rfl<|aa (ag rfl) rfl<|ae<|ah<|ac<|aa (ad rfl) rfl<|aa (v_sub rfl rfl) rfl<|aa (ag rfl) rfl<|ae<|ao<|aw (az rfl (aE rfl)) ⟨(IntKind.u64.wrap (r12.1 - 1)),rfl,H6⟩)))
def rl (a0:Ptr) (a1:Int) (K:Bool→Hp→Prop):Hp→Prop:=br (!a0.isNone) ( nn a0 fun q9=>ld (q9.1,q9.2 + 1) cP fun x11=>cl Tryz.prog lT [(pv x11)] gH fun r12=>br (r12 == a1) ( ld (q9.1,q9.2 + 0) cP fun x21=>cl Tryz.prog lT [(pv x21)] gH fun r22=>K (decide (a1 < r22))) ( K false)) ( K false)
set_option maxRecDepth 20000 in
theorem sim_ticket_Lock_Turn (a0:Ptr) (a1:Int) {K:Bool→Hp→Prop} {h:Hp} (H:rl a0 a1 K h):Ct Tryz.prog jP #[(pv a0),(.int .u64 a1)] h fun v h'=>∃ r,v = aK r∧K r h':=aD [(pv a0),(.int .u64 a1)] Tryz.func195 rfl rfl rfl fun _=>ah<|ac<|aa (ag rfl) rfl<|ae<|ah<|ac<|aa (ad rfl) rfl<|aa (v_pneT Tryz.underlying241 rfl) rfl<|aa (ad rfl) rfl<|aj rfl rfl rfl (aA _) (fun g1=>wv (ad rfl)) rfl<|cc H (fun k3 H4=>bQ H4 fun q9 e5 H6=>aL rfl rfl rfl (congrArg Value.bool k3) (aQ (wv (aV (aW (aJ rfl k3) (ax e5)))) rfl<|aL rfl rfl rfl (congrArg Value.bool k3) (aQ (wv (an fld_260_1 rfl)) rfl<|aL rfl rfl rfl (congrArg Value.bool k3) (bg H6 sc_239 rfl (fun _=>rfl) rfl fun x11 H7=>aL rfl rfl rfl (congrArg Value.bool k3) (aB H7 en_204 rfl rfl fun r12 _ H8=>aL rfl rfl rfl (congrArg Value.bool k3) (aQ (wv (ad rfl)) rfl<|aL rfl rfl rfl (congrArg Value.bool k3) (aQ (wv (bV rfl rfl)) rfl<|aa (bd rfl k3 rfl) rfl<|aa (ad rfl) rfl<|aj rfl rfl rfl (aA _) (fun g9=>wv (ad rfl)) rfl<|aj rfl rfl rfl (aA _) (fun g10=>wv (ad (aW rfl (ax e5)))) rfl<|aj rfl rfl rfl (aA _) (fun g11=>wv (aV (aJ rfl g11))) rfl<|aj rfl rfl rfl (aA _) (fun g12=>wv (an fld_260_0 (aJ rfl g12))) rfl<|cc H8 (fun k14 H15=>aL rfl rfl rfl (congrArg Value.bool k14) (bg H15 sc_239 (aJ rfl k14) (fun _=>rfl) rfl fun x21 H16=>aL rfl rfl rfl (congrArg Value.bool k14) (aB H16 en_204 rfl rfl fun r22 _ H17=>aL rfl rfl rfl (congrArg Value.bool k14) (aQ (wv (cx (aJ rfl k14) rfl)) rfl<|aa (bd rfl k14 rfl) rfl<|aa (ag rfl) rfl<|ae<|ao<|aw (az rfl (aE rfl)) ⟨(decide (a1 < r22)),rfl,H17⟩)))) (fun k14 H15=>am rfl rfl rfl (bc k14) rfl<|am rfl rfl rfl (bc k14) rfl<|am rfl rfl rfl (bc k14) rfl<|aa (ay rfl k14 rfl) rfl<|aa (ag rfl) rfl<|ae<|ao<|aw (az rfl (aE rfl)) ⟨false,rfl,H15⟩)))))))) (fun k3 H4=>am rfl rfl rfl (bc k3) rfl<|am rfl rfl rfl (bc k3) rfl<|am rfl rfl rfl (bc k3) rfl<|am rfl rfl rfl (bc k3) rfl<|am rfl rfl rfl (bc k3) rfl<|am rfl rfl rfl (bc k3) rfl<|aa (ay rfl k3 rfl) rfl<|aa (ad rfl) rfl<|am rfl rfl rfl rfl rfl<|am rfl rfl rfl rfl rfl<|am rfl rfl rfl rfl rfl<|am rfl rfl rfl rfl rfl<|am rfl rfl rfl rfl rfl<|am rfl rfl rfl rfl rfl<|am rfl rfl rfl rfl rfl<|aa (ay rfl rfl rfl) rfl<|aa (ag rfl) rfl<|ae<|ao<|aw (az rfl (aE rfl)) ⟨false,rfl,H4⟩)
def rm (a0:Ptr) (a1:Int) (K:Bool→Hp→Prop):Hp→Prop:=cl Tryz.prog jP [(pv a0),(.int .u64 a1)] aK fun r7=>br r7 ( nn a0 fun q10=>ld (q10.1,q10.2 + 1) cP fun x12=>cl Tryz.prog qZ [(pv x12),(.int .u64 a1),(.int .u64 (IntKind.u64.wrap (a1 + 1)))] aK fun r16=>K r16) ( K false)
set_option maxRecDepth 20000 in
theorem sim_ticket_Lock_Pass (a0:Ptr) (a1:Int) {K:Bool→Hp→Prop} {h:Hp} (H:rm a0 a1 K h):Ct Tryz.prog na #[(pv a0),(.int .u64 a1)] h fun v h'=>∃ r,v = aK r∧K r h':=aD [(pv a0),(.int .u64 a1)] Tryz.func196 rfl rfl rfl fun _=>ah<|ac<|aa (ag rfl) rfl<|ae<|ah<|ac<|aa (ad rfl) rfl<|aa (ad rfl) rfl<|ak (aB H en_195 rfl rfl fun r7 _ H1=>aa (ad rfl) rfl<|aj rfl rfl rfl (aA _) (fun g2=>wv (ad rfl)) rfl<|cc H1 (fun k4 H5=>bQ H5 fun q10 e6 H7=>aL rfl rfl rfl (congrArg Value.bool k4) (aQ (wv (aV (aW (aJ rfl k4) (ax e6)))) rfl<|aL rfl rfl rfl (congrArg Value.bool k4) (aQ (wv (an fld_260_1 rfl)) rfl<|aL rfl rfl rfl (congrArg Value.bool k4) (bg H7 sc_239 rfl (fun _=>rfl) rfl fun x12 H8=>aL rfl rfl rfl (congrArg Value.bool k4) (aQ (wv (ad rfl)) rfl<|aL rfl rfl rfl (congrArg Value.bool k4) (aQ (wv (ad rfl)) rfl<|aL rfl rfl rfl (congrArg Value.bool k4) (aQ (wv (bI rfl rfl)) rfl<|aL rfl rfl rfl (congrArg Value.bool k4) (aB H8 en_205 rfl rfl fun r16 _ H9=>aa (bd rfl k4 rfl) rfl<|aa (ag rfl) rfl<|ae<|ao<|aw (az rfl (aE rfl)) ⟨r16,rfl,H9⟩)))))))) (fun k4 H5=>am rfl rfl rfl (bc k4) rfl<|am rfl rfl rfl (bc k4) rfl<|am rfl rfl rfl (bc k4) rfl<|am rfl rfl rfl (bc k4) rfl<|am rfl rfl rfl (bc k4) rfl<|am rfl rfl rfl (bc k4) rfl<|am rfl rfl rfl (bc k4) rfl<|aa (ay rfl k4 rfl) rfl<|aa (ag rfl) rfl<|ae<|ao<|aw (az rfl (aE rfl)) ⟨false,rfl,H5⟩))
end Go.Proofs.YtniiiakkdoiaiaaGreatDoor
namespace Go.Proofs.YtniiiakkdoiaiaaGreatDoor
open Go Mb
def kD (x:Ptr) (c:Int × Int):As:=fun h=>∃ b:Nat,(x = some (b,0))∧aP [blk b qn [.int .u64 c.1,.int .i64 c.2]] h
theorem cell_op {x:Ptr} {c:Int × Int} {l:List As} {h:Hp} (s0:aP (kD x c::l) h):∃ b,x = some (b,0)∧aP (blk b qn [.int .u64 c.1,.int .i64 c.2]::l) h:=by
  obtain ⟨b,hx,st⟩:=op_ s0
  exact ⟨b,hx,st⟩
theorem cell_cl {b:Nat} {v n:Int} {l:List As} {h:Hp} (st:aP (blk b qn [.int .u64 v,.int .i64 n]::l) h):aP (kD (some (b,0)) (v,n)::l) h:=cl_ (m:=fun b=>[blk b qn [.int .u64 (v,n).1,.int .i64 (v,n).2]]) b rfl st
namespace Cell
def tick (c:Int × Int):Int × Int:=(c.1,IntKind.i64.wrap (c.2 + 1))
def cas (c:Int × Int) (o v:Int):Bool × Int × Int:=if c.1 = o then (true,v,(tick c).2) else (false,tick c)
def up (c:Int × Int) (m:Int):(Int × Bool) × Int × Int:=if c.1 ≥ m then ((c.1,false),tick c) else ((IntKind.u64.wrap (c.1 + 1),true),(IntKind.u64.wrap (c.1 + 1),(tick c).2))
end Cell
theorem sp_cell_New (v:Int):Sp Tryz.prog sU [.int .u64 v] oP [] (fun r=>aP [kD r (v,0)]):=by
  intro h st
  refine sim_cell_New _ ?_
  unfold sh_cell_New
  exact oS st fun b h' s1=>cell_cl s1
theorem sp_cell_Load (x:Ptr) (c:Int × Int):Sp Tryz.prog lT [pv x] gH [kD x c] (fun r=>pa_ (r = c.1) [kD x (Cell.tick c)]):=by
  intro h s0
  obtain ⟨b,rfl,st⟩:=cell_op s0
  refine sim_cell_Cell_Load _ ?_
  unfold tS
  refine dJ rfl (cO ?_)
  refine bB c.2 st (i:=0) rfl rfl rfl ?_
  refine uq (i:=0) st rfl (Nat.le_refl _) fun h2 s2=>?_
  refine bB c.1 s2 (i:=0) rfl rfl rfl ?_
  exact bi rfl (cell_cl s2)
theorem sp_cell_Cas (x:Ptr) (c:Int × Int) (o v:Int):Sp Tryz.prog qZ [pv x,.int .u64 o,.int .u64 v] aK [kD x c] (fun r=>pa_ (r = (Cell.cas c o v).1) [kD x (Cell.cas c o v).2]):=by
  intro h s0
  obtain ⟨b,rfl,st⟩:=cell_op s0
  refine sim_cell_Cell_Cas _ _ _ ?_
  unfold vd
  refine dJ rfl (cO ?_)
  refine bB c.2 st (i:=0) rfl rfl rfl ?_
  refine uq (i:=0) st rfl (Nat.le_refl _) fun h2 s2=>?_
  refine bB c.1 s2 (i:=0) rfl rfl rfl ?_
  refine bk (fun k=>?_) (fun k=>?_)
  · have k':¬ c.1 = o:=by simpa using k
    have e:Cell.cas c o v = (false,Cell.tick c):=if_neg k'
    rw [e]
    exact bi rfl (cell_cl s2)
  · have k':c.1 = o:=by simpa using k
    have e:Cell.cas c o v = (true,v,(Cell.tick c).2):=if_pos k'
    rw [e]
    refine uq (i:=0) s2 rfl (show 0 + 0 + 1 ≤ 2 by decide) fun h3 s3=>?_
    exact bi rfl (cell_cl s3)
theorem sp_cell_Up (x:Ptr) (c:Int × Int) (m:Int):Sp Tryz.prog oI [pv x,.int .u64 m] bT [kD x c] (fun r=>pa_ (r = (Cell.up c m).1) [kD x (Cell.up c m).2]):=by
  intro h s0
  obtain ⟨b,rfl,st⟩:=cell_op s0
  refine sim_cell_Cell_Up _ _ ?_
  unfold sh_cell_Cell_Up
  refine dJ rfl (cO ?_)
  refine bB c.2 st (i:=0) rfl rfl rfl ?_
  refine uq (i:=0) st rfl (Nat.le_refl _) fun h2 s2=>?_
  refine bB c.1 s2 (i:=0) rfl rfl rfl ?_
  refine bk (fun k=>?_) (fun k=>?_)
  · have k':c.1 ≥ m:=by simpa using k
    have e:Cell.up c m = ((c.1,false),Cell.tick c):=if_pos k'
    rw [e]
    refine bB c.1 s2 (i:=0) rfl rfl rfl ?_
    exact bi rfl (cell_cl s2)
  · have k':¬ c.1 ≥ m:=by simpa using k
    have e:Cell.up c m = ((IntKind.u64.wrap (c.1 + 1),true),(IntKind.u64.wrap (c.1 + 1),(Cell.tick c).2)):=if_neg k'
    rw [e]
    refine bB c.1 s2 (i:=0) rfl rfl rfl ?_
    refine uq (i:=0) s2 rfl (show 0 + 0 + 1 ≤ 2 by decide) fun h3 s3=>?_
    refine bB (IntKind.u64.wrap (c.1 + 1)) s3 (i:=0) rfl rfl rfl ?_
    exact bi rfl (cell_cl s3)
def uC (x:Ptr) (k:(Int × Int) × (Int × Int)):As:=fun h=>∃ bs:Nat × Ptr × Ptr,(x = some (bs.1,0))∧aP [blk bs.1 mF [pv bs.2.1,pv bs.2.2],kD bs.2.1 k.1,kD bs.2.2 k.2] h
theorem lock_op {x:Ptr} {k:(Int × Int) × (Int × Int)} {l:List As} {h:Hp} (s0:aP (uC x k::l) h):∃ b p q,x = some (b,0)∧aP (blk b mF [pv p,pv q]::kD p k.1::kD q k.2::l) h:=by
  obtain ⟨⟨b,p,q⟩,hx,st⟩:=op_ s0
  exact ⟨b,p,q,hx,st⟩
theorem lock_cl {b:Nat} {p q:Ptr} {k1 k2:Int × Int} {l:List As} {h:Hp} (st:aP (blk b mF [pv p,pv q]::kD p k1::kD q k2::l) h):aP (uC (some (b,0)) (k1,k2)::l) h :=
  cl_ (m:=fun bs:Nat × Ptr × Ptr=>[blk bs.1 mF [pv bs.2.1,pv bs.2.2],kD bs.2.1 (k1,k2).1,kD bs.2.2 (k1,k2).2]) (b,p,q) rfl st
namespace Lock
abbrev S:=(Int × Int) × (Int × Int)
def draw (k:S):Int × S:=(IntKind.u64.wrap ((Cell.up k.1 18446744073709551615).1.1 - 1),((Cell.up k.1 18446744073709551615).2,k.2))
def turn (k:S) (t:Int):Bool × S:=if k.2.1 = t then (decide (t < k.1.1),(Cell.tick k.1,Cell.tick k.2)) else (false,(k.1,Cell.tick k.2))
def pass (k:S) (t:Int):Bool × S:=if (turn k t).1 then ((Cell.cas (turn k t).2.2 t (IntKind.u64.wrap (t + 1))).1,((turn k t).2.1,(Cell.cas (turn k t).2.2 t (IntKind.u64.wrap (t + 1))).2)) else (false,(turn k t).2)
end Lock
theorem sp_ticket_New:Sp Tryz.prog wK [] tq [] (fun r=>aP [uC r ((0,0),(0,0))]):=by
  intro h st
  refine sim_ticket_New ?_
  unfold sh_ticket_New
  refine cW [] (sp_cell_New 0) st rfl fun p h1 s1=>?_
  refine cW [] (sp_cell_New 0) (dG s1) rfl fun q h2 s2=>?_
  refine oS (dG s2) fun b h3 s3=>?_
  exact lock_cl (bp [0,1] s3 rfl)
theorem sp_ticket_Draw (x:Ptr) (k:Lock.S):Sp Tryz.prog nc [pv x] gH [uC x k] (fun r=>pa_ (r = (Lock.draw k).1) [uC x (Lock.draw k).2]):=by
  intro h s0
  obtain ⟨b,p,q,rfl,st⟩:=lock_op s0
  refine sim_ticket_Lock_Draw _ ?_
  unfold rn
  refine dJ rfl (cO ?_)
  refine bB p st (i:=0) rfl rfl rfl ?_
  refine cW [1] (sp_cell_Up p k.1 _) st rfl fun r h1 s1=>?_
  obtain ⟨hr,s2⟩:=bF.1 s1
  subst hr
  exact bi rfl (lock_cl (bp [1] s2 rfl))
theorem sp_ticket_Turn (x:Ptr) (k:Lock.S) (t:Int):Sp Tryz.prog jP [pv x,.int .u64 t] aK [uC x k] (fun r=>pa_ (r = (Lock.turn k t).1) [uC x (Lock.turn k t).2]):=by
  intro h s0
  obtain ⟨b,p,q,rfl,st⟩:=lock_op s0
  refine sim_ticket_Lock_Turn _ _ ?_
  unfold rl
  refine dW rfl (cO ?_)
  refine bB q st (i:=0) rfl rfl rfl ?_
  refine cW [2] (sp_cell_Load q k.2) st rfl fun r h1 s1=>?_
  obtain ⟨hr,s2⟩:=bF.1 s1
  subst hr
  refine bk (fun c=>?_) (fun c=>?_)
  · have c':k.2.1 = t:=by simpa using c
    have e:Lock.turn k t = (decide (t < k.1.1),(Cell.tick k.1,Cell.tick k.2)):=if_pos c'
    rw [e]
    refine bB p s2 (i:=1) rfl rfl rfl ?_
    refine cW [2] (sp_cell_Load p k.1) s2 rfl fun r h2 s3=>?_
    obtain ⟨hr,s4⟩:=bF.1 s3
    subst hr
    exact bi rfl (lock_cl (bp [2] s4 rfl))
  · have c':¬ k.2.1 = t:=by simpa using c
    have e:Lock.turn k t = (false,(k.1,Cell.tick k.2)):=if_neg c'
    rw [e]
    exact bi rfl (lock_cl (bp [1,1] s2 rfl))
theorem sp_ticket_Pass (x:Ptr) (k:Lock.S) (t:Int):Sp Tryz.prog na [pv x,.int .u64 t] aK [uC x k] (fun r=>pa_ (r = (Lock.pass k t).1) [uC x (Lock.pass k t).2]):=by
  intro h s0
  refine sim_ticket_Lock_Pass _ _ ?_
  unfold rm
  refine cW [0] (sp_ticket_Turn x k t) s0 rfl fun r h1 s1=>?_
  obtain ⟨hr,s2⟩:=bF.1 s1
  subst hr
  refine bk (fun c=>?_) (fun c=>?_)
  · have e:Lock.pass k t = ((Cell.cas (Lock.turn k t).2.2 t (IntKind.u64.wrap (t + 1))).1,((Lock.turn k t).2.1,(Cell.cas (Lock.turn k t).2.2 t (IntKind.u64.wrap (t + 1))).2)):=if_pos c
    rw [e]
    obtain ⟨b,p,q,rfl,st⟩:=lock_op s2
    refine cO (bB q st (i:=0) rfl rfl rfl ?_)
    refine cW [2] (sp_cell_Cas q _ t _) st rfl fun r h2 s3=>?_
    obtain ⟨hr,s4⟩:=bF.1 s3
    subst hr
    exact bi rfl (lock_cl (bp [1,1] s4 rfl))
  · have e:Lock.pass k t = (false,(Lock.turn k t).2):=by unfold Lock.pass; rw [c]; rfl
    rw [e]
    exact bi rfl s2
end Go.Proofs.YtniiiakkdoiaiaaGreatDoor
namespace Go.Proofs.YtniiiakkdoiaiaaGreatDoor
open Go Mb
set_option linter.unusedVariables false
def oZ (K:Bool→Hp→Prop):Hp→Prop:=cl Tryz.prog vn [(.int .i64 2)] tt fun r24=>cl Tryz.prog lc [] il fun r25=>cl Tryz.prog iz [] gx fun r26=>cl Tryz.prog sR [(.int .i64 3)] oO fun r27=>cl Tryz.prog sU [(.int .u64 5)] oP fun r28=>cl Tryz.prog wK [] tq fun r29=>cl Tryz.prog wL [(.int .i64 2)] rY fun r30=>br ((((((r24.isNone || r25.isNone) || r26.isNone) || r27.isNone) || r28.isNone) || r29.isNone) || r30.isNone) ( K false) ( cl Tryz.prog eu [(pv r25),(.int .i64 1),(.agg (ar.C (⟨1,2,3⟩:ar)).toArray)] bv fun r59=>cl Tryz.prog oC [(pv r26),(.agg (au.C (⟨1,5,1,1⟩:au)).toArray)] aK fun r67=>cl Tryz.prog oB [(pv r26),(.int .i64 1),(.int .i64 5)] fF fun r70=>cl Tryz.prog mU [(pv r27),(.int .i64 0),(.int .u64 4)] dO fun r74=>cl Tryz.prog lP [(pv r27),(.int .i64 2)] bT fun r77=>cl Tryz.prog oI [(pv r28),(.int .u64 9)] bT fun r82=>cl Tryz.prog nc [(pv r29)] gH fun r86=>cl Tryz.prog js [(pv r30)] bW fun r89=>cl Tryz.prog lm [] aK fun r97=>br (((((((((((r97 && (r59 == 0)) && (gr (⟨1,2,3⟩:ar)).2) && (((gr (⟨1,2,3⟩:ar)).1) == 33059)) && r67) && r70.2) && (r70.1.fFrame == 1)) && (r74 == 2)) && (r77.1 == 4)) && r77.2) && (r82.1 == 6)) && (r86 == 0)) ( cl Tryz.prog jP [(pv r29),(.int .u64 0)] aK fun r141=>br r141 ( cl Tryz.prog na [(pv r29),(.int .u64 0)] aK fun r145=>br ((r145 && (r89.1 == 0)) && r89.2) ( cl Tryz.prog fB [(pv r24),(.int .i64 1),(.int .i64 3),(.int .u64 9)] aK fun r156=>br ((r156 && (aN (⟨6,0,0,0,0⟩:ap)).2) && (((aN (⟨6,0,0,0,0⟩:ap)).1) == 6)) ( cl Tryz.prog gM [(.agg (ap.C (⟨6,8,0,1,0⟩:ap)).toArray),(.int .i64 2)] bv fun r167=>br (r167 == 2) ( cl Tryz.prog n_word_Args [(.int .i64 3)] dO fun r171=>br ((r171 == 4) && (bu 1 3)) ( cl Tryz.prog lL [(pv r25),(.int .i64 2)] cJ fun r179=>br ((r179.len:Int) == 1) ( cl Tryz.prog pJ [(pv r30)] gH fun r185=>K (r185 == 2)) ( K false)) ( K false)) ( K false)) ( K false)) ( K false)) ( K false)) ( K false))
set_option maxRecDepth 20000 in
theorem wm {K:Bool→Hp→Prop} {h:Hp} (H:oZ K h):Ct Tryz.prog li #[] h fun v h'=>∃ r,v = aK r∧K r h':=aD [] Tryz.func169 rfl rfl rfl fun _=>ah<|ac<|aa (ag rfl) rfl<|ae<|ah<|ac<|ak (aB H en_90 rfl rfl fun r24 _ H1=>ak (aB H1 en_93 rfl rfl fun r25 _ H2=>ak (aB H2 en_63 rfl rfl fun r26 _ H3=>ak (aB H3 en_61 rfl rfl fun r27 _ H4=>aa (ag rfl) rfl<|aa (ag rfl) rfl<|aa (ag rfl) rfl<|aa (ag rfl) rfl<|ae<|ah<|ac<|ak (aB H4 en_190 rfl rfl fun r28 _ H5=>ak (aB H5 en_191 rfl rfl fun r29 _ H6=>ak (aB H6 en_91 rfl rfl fun r30 _ H7=>aa (ag rfl) rfl<|aa (ag rfl) rfl<|aa (ag rfl) rfl<|ae<|ah<|ah<|ac<|aa (ad rfl) rfl<|aa (cA Tryz.underlying124 rfl) rfl<|aa (ad rfl) rfl<|aj rfl rfl rfl (aS _) (fun g8=>wv (ad rfl)) rfl<|aj rfl rfl rfl (aS _) (fun g9=>wv (cA Tryz.underlying133 (aJ rfl g9))) rfl<|aa (dr rfl rfl) rfl<|aa (ad rfl) rfl<|aj rfl rfl rfl (aS _) (fun g10=>wv (ad rfl)) rfl<|aj rfl rfl rfl (aS _) (fun g11=>wv (cA Tryz.underlying103 (aJ rfl g11))) rfl<|aa (dr rfl rfl) rfl<|aa (ad rfl) rfl<|aj rfl rfl rfl (aS _) (fun g12=>wv (ad rfl)) rfl<|aj rfl rfl rfl (aS _) (fun g13=>wv (cA Tryz.underlying95 (aJ rfl g13))) rfl<|aa (dr rfl rfl) rfl<|aa (ad rfl) rfl<|aj rfl rfl rfl (aS _) (fun g14=>wv (ad rfl)) rfl<|aj rfl rfl rfl (aS _) (fun g15=>wv (cA Tryz.underlying239 (aJ rfl g15))) rfl<|aa (dr rfl rfl) rfl<|aa (ad rfl) rfl<|aj rfl rfl rfl (aS _) (fun g16=>wv (ad rfl)) rfl<|aj rfl rfl rfl (aS _) (fun g17=>wv (cA Tryz.underlying241 (aJ rfl g17))) rfl<|aa (dr rfl rfl) rfl<|aa (ad rfl) rfl<|aj rfl rfl rfl (aS _) (fun g18=>wv (ad rfl)) rfl<|aj rfl rfl rfl (aS _) (fun g19=>wv (cA Tryz.underlying126 (aJ rfl g19))) rfl<|aa (dr rfl rfl) rfl<|ae<|aC rfl H7 (fun k20 H21=>ah<|ac<|aa (ag rfl) rfl<|ae<|ao<|aw (az rfl (aE rfl)) ⟨false,rfl,H21⟩) (fun k20 H21=>av<|ah<|ac<|aa (ad rfl) rfl<|aa (bo rfl (oN 1 2 3)) rfl<|ak (aB H21 en_97 rfl rfl fun r59 _ H22=>aa (ag rfl) rfl<|ae<|ah<|ac<|aa (bo rfl (oN 1 2 3)) rfl<|ak (cM (vs:=[(.agg (ar.C (⟨1,2,3⟩:ar)).toArray)]) (bG (ct_pte_Put (⟨1,2,3⟩:ar) _)) en_139 rfl rfl<|aa (ad rfl) rfl<|aa (aq rfl rfl) rfl<|aa (aq rfl rfl) rfl<|aa (ag rfl) rfl<|aa (ag rfl) rfl<|ae<|ah<|ac<|aa (ad rfl) rfl<|aa (bo rfl (vJ 1 5 1 1)) rfl<|ak (aB H22 en_143 rfl rfl fun r67 _ H23=>aa (ag rfl) rfl<|ae<|ah<|ac<|aa (ad rfl) rfl<|ak (aB H23 en_141 rfl rfl fun r70 _ H24=>aa (ad rfl) rfl<|aa (aq rfl rfl) rfl<|aa (aq rfl rfl) rfl<|ak (aY (l:=(au.C (⟨0,0,0,0⟩:au))) kG rfl rfl fun b12=>ak (aZ (k:=0) (vs:=(au.C r70.1)) fH rfl rfl rfl rfl rfl rfl rfl<|aa (ag rfl) rfl<|ae<|ah<|ac<|aa (ad rfl) rfl<|ak (aB H24 en_71 rfl rfl fun r74 _ H25=>aa (ag rfl) rfl<|ae<|ah<|ac<|aa (ad rfl) rfl<|ak (aB H25 en_75 rfl rfl fun r77 _ H26=>aa (ad rfl) rfl<|aa (aq rfl rfl) rfl<|aa (aq rfl rfl) rfl<|aa (ag rfl) rfl<|aa (ag rfl) rfl<|ae<|ah<|ac<|aa (ad rfl) rfl<|ak (aB H26 en_192 rfl rfl fun r82 _ H27=>aa (ad rfl) rfl<|aa (aq rfl rfl) rfl<|aa (aq rfl rfl) rfl<|aa (ag rfl) rfl<|aa (ag rfl) rfl<|ae<|ah<|ac<|aa (ad rfl) rfl<|ak (aB H27 en_193 rfl rfl fun r86 _ H28=>aa (ag rfl) rfl<|ae<|ah<|ac<|aa (ad rfl) rfl<|ak (aB H28 en_154 rfl rfl fun r89 _ H29=>aa (ad rfl) rfl<|aa (aq rfl rfl) rfl<|aa (aq rfl rfl) rfl<|aa (ag rfl) rfl<|aa (ag rfl) rfl<|ae<|ah<|ac<|aa (bo rfl (build_27_0 6)) rfl<|ak (cM (vs:=[(.agg (ap.C (⟨6,0,0,0,0⟩:ap)).toArray)]) (bG (jV (⟨6,0,0,0,0⟩:ap) _)) en_64 rfl rfl<|aa (ad rfl) rfl<|aa (aq rfl rfl) rfl<|aa (aq rfl rfl) rfl<|aa (ag rfl) rfl<|aa (ag rfl) rfl<|ae<|ah<|ac<|ak (aB H29 en_194 rfl rfl fun r97 _ H30=>aa (ad rfl) rfl<|aj rfl rfl rfl (aA _) (fun g31=>wv (ad rfl)) rfl<|aj rfl rfl rfl (aA _) (fun g32=>wv (bV (aJ rfl g32) rfl)) rfl<|aa (bU rfl rfl) rfl<|aa (ad rfl) rfl<|aj rfl rfl rfl (aA _) (fun g33=>wv (ad rfl)) rfl<|aa (bU rfl rfl) rfl<|aa (ad rfl) rfl<|aj rfl rfl rfl (aA _) (fun g34=>wv (ad rfl)) rfl<|aj rfl rfl rfl (aA _) (fun g35=>wv (bV (aJ rfl g35) rfl)) rfl<|aa (bU rfl rfl) rfl<|aa (ad rfl) rfl<|aj rfl rfl rfl (aA _) (fun g36=>wv (ad rfl)) rfl<|aa (bU rfl rfl) rfl<|aa (ad rfl) rfl<|aj rfl rfl rfl (aA _) (fun g37=>wv (ad rfl)) rfl<|aa (bU rfl rfl) rfl<|aa (ad rfl) rfl<|aj rfl rfl rfl (aA _) (fun g38=>wv (an ly rfl)) rfl<|aj rfl rfl rfl (aA _) (fun g39=>cv (bm (k:=0) bj (aJ rfl g39) rfl rfl)) rfl<|aj rfl rfl rfl (aA _) (fun g40=>wv (bV (aJ rfl g40) rfl)) rfl<|aa (bU rfl rfl) rfl<|aa (ad rfl) rfl<|aj rfl rfl rfl (aA _) (fun g41=>wv (ad rfl)) rfl<|aj rfl rfl rfl (aA _) (fun g42=>wv (bV (aJ rfl g42) rfl)) rfl<|aa (bU rfl rfl) rfl<|aa (ad rfl) rfl<|aj rfl rfl rfl (aA _) (fun g43=>wv (ad rfl)) rfl<|aj rfl rfl rfl (aA _) (fun g44=>wv (bV (aJ rfl g44) rfl)) rfl<|aa (bU rfl rfl) rfl<|aa (ad rfl) rfl<|aj rfl rfl rfl (aA _) (fun g45=>wv (ad rfl)) rfl<|aa (bU rfl rfl) rfl<|aa (ad rfl) rfl<|aj rfl rfl rfl (aA _) (fun g46=>wv (ad rfl)) rfl<|aj rfl rfl rfl (aA _) (fun g47=>wv (bV (aJ rfl g47) rfl)) rfl<|aa (bU rfl rfl) rfl<|aa (ad rfl) rfl<|aj rfl rfl rfl (aA _) (fun g48=>wv (ad rfl)) rfl<|aj rfl rfl rfl (aA _) (fun g49=>wv (bV (aJ rfl g49) rfl)) rfl<|aa (bU rfl rfl) rfl<|aa (ad rfl) rfl<|aj rfl rfl rfl (aA _) (fun g50=>wv (ad rfl)) rfl<|cc H30 (fun k52 H53=>aL rfl rfl rfl (congrArg Value.bool k52) (aB H53 en_195 (ba (aJ rfl k52) (ba rfl bY)) rfl fun r141 _ H54=>aa (bd rfl k52 rfl) rfl<|aa (ad rfl) rfl<|aj rfl rfl rfl (aA _) (fun g55=>wv (ad rfl)) rfl<|cc H54 (fun k57 H58=>aL rfl rfl rfl (congrArg Value.bool k57) (aB H58 en_196 (ba (aJ rfl k57) (ba rfl bY)) rfl fun r145 _ H59=>aa (bd rfl k57 rfl) rfl<|aa (ad rfl) rfl<|aj rfl rfl rfl (aA _) (fun g60=>wv (ad rfl)) rfl<|aj rfl rfl rfl (aA _) (fun g61=>wv (bV (aJ rfl g61) rfl)) rfl<|aa (bU rfl rfl) rfl<|aa (ad rfl) rfl<|aj rfl rfl rfl (aA _) (fun g62=>wv (ad rfl)) rfl<|aa (bU rfl rfl) rfl<|aa (ad rfl) rfl<|aj rfl rfl rfl (aA _) (fun g63=>wv (ad rfl)) rfl<|cc H59 (fun k65 H66=>aL rfl rfl rfl (congrArg Value.bool k65) (aB H66 en_146 (ba (aJ rfl k65) (ba rfl (ba rfl (ba rfl bY)))) rfl fun r156 _ H67=>aa (bd rfl k65 rfl) rfl<|aa (ad rfl) rfl<|aj rfl rfl rfl (aA _) (fun g68=>wv (ad rfl)) rfl<|aa (bU rfl rfl) rfl<|aa (ad rfl) rfl<|aj rfl rfl rfl (aA _) (fun g69=>wv (ad rfl)) rfl<|aj rfl rfl rfl (aA _) (fun g70=>wv (bV (aJ rfl g70) rfl)) rfl<|aa (bU rfl rfl) rfl<|aa (ad rfl) rfl<|aj rfl rfl rfl (aA _) (fun g71=>wv (bo rfl (jB 6 8 0 1))) rfl<|cc H67 (fun k73 H74=>aL rfl rfl rfl (congrArg Value.bool k73) (aB H74 en_95 (ba (aJ rfl k73) (ba rfl bY)) rfl fun r167 _ H75=>aL rfl rfl rfl (congrArg Value.bool k73) (aQ (wv (bV rfl rfl)) rfl<|aa (bd rfl k73 rfl) rfl<|aa (ad rfl) rfl<|cc H75 (fun k77 H78=>aL rfl rfl rfl (congrArg Value.bool k77) (aB H78 en_197 rfl rfl fun r171 _ H79=>aL rfl rfl rfl (congrArg Value.bool k77) (aQ (wv (bV rfl rfl)) rfl<|aa (bd rfl k77 rfl) rfl<|aa (ad rfl) rfl<|de (vs:=[(.int .i64 1),(.int .i64 3)]) rfl rfl rfl (aA _) (fun g80=>(bG (df 1 3 _))) mw (fun g80=>rfl) rfl<|aa (bU rfl rfl) rfl<|aa (ad rfl) rfl<|aj rfl rfl rfl (aA _) (fun g81=>wv (ad rfl)) rfl<|cc H79 (fun k83 H84=>aL rfl rfl rfl (congrArg Value.bool k83) (aB H84 en_159 (ba (aJ rfl k83) (ba rfl bY)) rfl fun r179 _ H85=>aL rfl rfl rfl (congrArg Value.bool k83) (aQ (wv (dB rfl Tryz.underlying41 rfl)) rfl<|aL rfl rfl rfl (congrArg Value.bool k83) (aQ (wv (bV rfl rfl)) rfl<|aa (bd rfl k83 rfl) rfl<|aa (ad rfl) rfl<|aj rfl rfl rfl (aA _) (fun g86=>wv (ad rfl)) rfl<|cc H85 (fun k88 H89=>aL rfl rfl rfl (congrArg Value.bool k88) (aB H89 en_198 (ba (aJ rfl k88) bY) rfl fun r185 _ H90=>aL rfl rfl rfl (congrArg Value.bool k88) (aQ (wv (bV rfl rfl)) rfl<|aa (bd rfl k88 rfl) rfl<|aa (ag rfl) rfl<|ae<|ao<|aw (az rfl (aE rfl)) ⟨(r185 == 2),rfl,H90⟩))) (fun k88 H89=>am rfl rfl rfl (bc k88) rfl<|am rfl rfl rfl (bc k88) rfl<|aa (ay rfl k88 rfl) rfl<|aa (ag rfl) rfl<|ae<|ao<|aw (az rfl (aE rfl)) ⟨false,rfl,H89⟩))))) (fun k83 H84=>am rfl rfl rfl (bc k83) rfl<|am rfl rfl rfl (bc k83) rfl<|am rfl rfl rfl (bc k83) rfl<|aa (ay rfl k83 rfl) rfl<|aa (ad rfl) rfl<|am rfl rfl rfl rfl rfl<|am rfl rfl rfl rfl rfl<|am rfl rfl rfl rfl rfl<|aa (ay rfl rfl rfl) rfl<|aa (ag rfl) rfl<|ae<|ao<|aw (az rfl (aE rfl)) ⟨false,rfl,H84⟩)))) (fun k77 H78=>am rfl rfl rfl (bc k77) rfl<|am rfl rfl rfl (bc k77) rfl<|aa (ay rfl k77 rfl) rfl<|aa (ad rfl) rfl<|am rfl rfl rfl rfl rfl<|aa (ay rfl rfl rfl) rfl<|aa (ad rfl) rfl<|am rfl rfl rfl rfl rfl<|am rfl rfl rfl rfl rfl<|am rfl rfl rfl rfl rfl<|am rfl rfl rfl rfl rfl<|aa (ay rfl rfl rfl) rfl<|aa (ad rfl) rfl<|am rfl rfl rfl rfl rfl<|am rfl rfl rfl rfl rfl<|am rfl rfl rfl rfl rfl<|aa (ay rfl rfl rfl) rfl<|aa (ag rfl) rfl<|ae<|ao<|aw (az rfl (aE rfl)) ⟨false,rfl,H78⟩)))) (fun k73 H74=>am rfl rfl rfl (bc k73) rfl<|am rfl rfl rfl (bc k73) rfl<|aa (ay rfl k73 rfl) rfl<|aa (ad rfl) rfl<|am rfl rfl rfl rfl rfl<|am rfl rfl rfl rfl rfl<|aa (ay rfl rfl rfl) rfl<|aa (ad rfl) rfl<|am rfl rfl rfl rfl rfl<|aa (ay rfl rfl rfl) rfl<|aa (ad rfl) rfl<|am rfl rfl rfl rfl rfl<|am rfl rfl rfl rfl rfl<|am rfl rfl rfl rfl rfl<|am rfl rfl rfl rfl rfl<|aa (ay rfl rfl rfl) rfl<|aa (ad rfl) rfl<|am rfl rfl rfl rfl rfl<|am rfl rfl rfl rfl rfl<|am rfl rfl rfl rfl rfl<|aa (ay rfl rfl rfl) rfl<|aa (ag rfl) rfl<|ae<|ao<|aw (az rfl (aE rfl)) ⟨false,rfl,H74⟩))) (fun k65 H66=>am rfl rfl rfl (bc k65) rfl<|aa (ay rfl k65 rfl) rfl<|aa (ad rfl) rfl<|am rfl rfl rfl rfl rfl<|aa (ay rfl rfl rfl) rfl<|aa (ad rfl) rfl<|am rfl rfl rfl rfl rfl<|am rfl rfl rfl rfl rfl<|aa (ay rfl rfl rfl) rfl<|aa (ad rfl) rfl<|am rfl rfl rfl rfl rfl<|am rfl rfl rfl rfl rfl<|am rfl rfl rfl rfl rfl<|aa (ay rfl rfl rfl) rfl<|aa (ad rfl) rfl<|am rfl rfl rfl rfl rfl<|am rfl rfl rfl rfl rfl<|aa (ay rfl rfl rfl) rfl<|aa (ad rfl) rfl<|am rfl rfl rfl rfl rfl<|aa (ay rfl rfl rfl) rfl<|aa (ad rfl) rfl<|am rfl rfl rfl rfl rfl<|am rfl rfl rfl rfl rfl<|am rfl rfl rfl rfl rfl<|am rfl rfl rfl rfl rfl<|aa (ay rfl rfl rfl) rfl<|aa (ad rfl) rfl<|am rfl rfl rfl rfl rfl<|am rfl rfl rfl rfl rfl<|am rfl rfl rfl rfl rfl<|aa (ay rfl rfl rfl) rfl<|aa (ag rfl) rfl<|ae<|ao<|aw (az rfl (aE rfl)) ⟨false,rfl,H66⟩))) (fun k57 H58=>am rfl rfl rfl (bc k57) rfl<|aa (ay rfl k57 rfl) rfl<|aa (ad rfl) rfl<|am rfl rfl rfl rfl rfl<|am rfl rfl rfl rfl rfl<|aa (ay rfl rfl rfl) rfl<|aa (ad rfl) rfl<|am rfl rfl rfl rfl rfl<|aa (ay rfl rfl rfl) rfl<|aa (ad rfl) rfl<|am rfl rfl rfl rfl rfl<|am rfl rfl rfl rfl rfl<|aa (ay rfl rfl rfl) rfl<|aa (ad rfl) rfl<|am rfl rfl rfl rfl rfl<|aa (ay rfl rfl rfl) rfl<|aa (ad rfl) rfl<|am rfl rfl rfl rfl rfl<|am rfl rfl rfl rfl rfl<|aa (ay rfl rfl rfl) rfl<|aa (ad rfl) rfl<|am rfl rfl rfl rfl rfl<|am rfl rfl rfl rfl rfl<|am rfl rfl rfl rfl rfl<|aa (ay rfl rfl rfl) rfl<|aa (ad rfl) rfl<|am rfl rfl rfl rfl rfl<|am rfl rfl rfl rfl rfl<|aa (ay rfl rfl rfl) rfl<|aa (ad rfl) rfl<|am rfl rfl rfl rfl rfl<|aa (ay rfl rfl rfl) rfl<|aa (ad rfl) rfl<|am rfl rfl rfl rfl rfl<|am rfl rfl rfl rfl rfl<|am rfl rfl rfl rfl rfl<|am rfl rfl rfl rfl rfl<|aa (ay rfl rfl rfl) rfl<|aa (ad rfl) rfl<|am rfl rfl rfl rfl rfl<|am rfl rfl rfl rfl rfl<|am rfl rfl rfl rfl rfl<|aa (ay rfl rfl rfl) rfl<|aa (ag rfl) rfl<|ae<|ao<|aw (az rfl (aE rfl)) ⟨false,rfl,H58⟩))) (fun k52 H53=>am rfl rfl rfl (bc k52) rfl<|aa (ay rfl k52 rfl) rfl<|aa (ad rfl) rfl<|am rfl rfl rfl rfl rfl<|am rfl rfl rfl rfl rfl<|aa (ay rfl rfl rfl) rfl<|aa (ad rfl) rfl<|am rfl rfl rfl rfl rfl<|am rfl rfl rfl rfl rfl<|aa (ay rfl rfl rfl) rfl<|aa (ad rfl) rfl<|am rfl rfl rfl rfl rfl<|aa (ay rfl rfl rfl) rfl<|aa (ad rfl) rfl<|am rfl rfl rfl rfl rfl<|am rfl rfl rfl rfl rfl<|aa (ay rfl rfl rfl) rfl<|aa (ad rfl) rfl<|am rfl rfl rfl rfl rfl<|aa (ay rfl rfl rfl) rfl<|aa (ad rfl) rfl<|am rfl rfl rfl rfl rfl<|am rfl rfl rfl rfl rfl<|aa (ay rfl rfl rfl) rfl<|aa (ad rfl) rfl<|am rfl rfl rfl rfl rfl<|am rfl rfl rfl rfl rfl<|am rfl rfl rfl rfl rfl<|aa (ay rfl rfl rfl) rfl<|aa (ad rfl) rfl<|am rfl rfl rfl rfl rfl<|am rfl rfl rfl rfl rfl<|aa (ay rfl rfl rfl) rfl<|aa (ad rfl) rfl<|am rfl rfl rfl rfl rfl<|aa (ay rfl rfl rfl) rfl<|aa (ad rfl) rfl<|am rfl rfl rfl rfl rfl<|am rfl rfl rfl rfl rfl<|am rfl rfl rfl rfl rfl<|am rfl rfl rfl rfl rfl<|aa (ay rfl rfl rfl) rfl<|aa (ad rfl) rfl<|am rfl rfl rfl rfl rfl<|am rfl rfl rfl rfl rfl<|am rfl rfl rfl rfl rfl<|aa (ay rfl rfl rfl) rfl<|aa (ag rfl) rfl<|ae<|ao<|aw (az rfl (aE rfl)) ⟨false,rfl,H53⟩))))))))))))))))))))))
def pb (K:Bool→Hp→Prop):Hp→Prop:=cl Tryz.prog li [] aK fun r1=>K r1
set_option maxRecDepth 20000 in
theorem wn {K:Bool→Hp→Prop} {h:Hp} (H:pb K h):Ct Tryz.prog lj #[] h fun v h'=>∃ r,v = aK r∧K r h':=aD [] Tryz.func130 rfl rfl rfl fun _=>ah<|ac<|aa (ag rfl) rfl<|ae<|ah<|ac<|ak (aB H en_169 rfl rfl fun r1 _ H1=>aa (ag rfl) rfl<|ae<|ao<|aw (az rfl (aE rfl)) ⟨r1,rfl,H1⟩)
end Go.Proofs.YtniiiakkdoiaiaaGreatDoor
namespace Go.Proofs.YtniiiakkdoiaiaaGreatDoor
open Go Mb
variable {ET:Nat} {EF:Nat × Nat}
section
variable {l:List As} {h:Hp} {x:Ptr}
theorem mem_nn {fs:List (List Int)} (s:aP (ij x fs::l) h):x.isNone = false:=by obtain ⟨b,_,_,rfl,_⟩:=mem_op s; rfl
theorem nn_of {α:Type} {φ:α→Prop} {m:α→List As} (hx:∀ z,φ z→x.isNone = false) (s:aP ((fun h=>∃ z,φ z∧aP (m z) h)::l) h):x.isNone = false:=by
  obtain ⟨z,f,_⟩:=op_ s
  exact hx z f
theorem table_nn {ps:List Pte} (s:aP (db x ps::l) h):x.isNone = false:=nn_of (fun _ e=>by rw [e.1]; rfl) s
theorem tlb_nn {t:List TL × Int} (s:aP (fC x t::l) h):x.isNone = false:=nn_of (fun _ e=>by rw [e.1]; rfl) s
theorem mail_nn {bs:List (List Int)} (s:aP (jd x bs::l) h):x.isNone = false:=nn_of (fun _ e=>by rw [e.1]; rfl) s
theorem cell_nn {c:Int × Int} (s:aP (kD x c::l) h):x.isNone = false:=nn_of (fun _ e=>by rw [e]; rfl) s
theorem lock_nn {k:(Int × Int) × (Int × Int)} (s:aP (uC x k::l) h):x.isNone = false:=nn_of (fun _ e=>by rw [e]; rfl) s
theorem pool_nn {p:List Int} (s:aP (fP x p::l) h):x.isNone = false:=nn_of (fun _ e=>by rw [e.1]; rfl) s
end
theorem sp_Begun1:Sp Tryz.prog lm [] aK [(etB ET EF)] (fun r=>pa_ (r = true) [(etB ET EF)]):=by
  intro h st
  refine wq ?_
  unfold pf
  exact bZ (i:=0) sp_begun1 rfl st fun r h' hr s=>bi hr s
theorem sp_begun2:Sp Tryz.prog li [] aK [(etB ET EF)] (fun r=>pa_ (r = true) [(etB ET EF)]):=by
  intro h st
  refine wm ?_
  unfold oZ
  refine my (sp_mem_New 2 (by decide) (by decide)) st fun a1 h1 s1=>?_
  refine my nX s1 fun a2 h2 s2=>?_
  refine my vZ s2 fun a3 h3 s3=>?_
  refine my (sp_mail_New 3 (by decide) (by decide)) s3 fun a4 h4 s4=>?_
  refine my (sp_cell_New 5) s4 fun a5 h5 s5=>?_
  refine my sp_ticket_New s5 fun a6 h6 s6=>?_
  refine my (sp_pool_New 2 (by decide) (by decide)) s6 fun a7 h7 s7=>?_
  have n1:=mem_nn s1
  have n2:=table_nn s2
  have n3:=tlb_nn s3
  have n4:=mail_nn s4
  have n5:=cell_nn s5
  have n6:=lock_nn s6
  have n7:=pool_nn s7
  rw [n1,n2,n3,n4,n5,n6,n7]
  refine dJ rfl ?_
  refine bZ (i:=5) (jY a2 _ 1 ⟨1,2,3⟩) rfl s7 fun r1 h8 e1 s8=>?_
  refine bZ (i:=4) (sp_tlb_Fill a3 _ ⟨1,5,1,1⟩) rfl s8 fun r2 h9 e2 s9=>?_
  refine bZ (i:=4) (sp_tlb_Find a3 _ 1 5) rfl s9 fun r3 h10 e3 s10=>?_
  refine bZ (i:=3) (sp_mail_All a4 _ 0 4 (fun l hl=>?_)) rfl s10 fun r4 h11 e4 s11=>?_
  · have:l = []:=by simpa using hl
    subst this
    exact ⟨fun _ h=>(by cases h),.nil,by decide⟩
  refine bZ (i:=3) (sp_mail_Take a4 _ 2) rfl s11 fun r5 h12 e5 s12=>?_
  refine bZ (i:=2) (sp_cell_Up a5 _ 9) rfl s12 fun r6 h13 e6 s13=>?_
  refine bZ (i:=1) (sp_ticket_Draw a6 _) rfl s13 fun r7 h14 e7 s14=>?_
  refine bZ (i:=0) (wa a7 _) rfl s14 fun r8 h15 e8 s15=>?_
  refine bZ (i:=7) sp_Begun1 rfl s15 fun r9 h16 e9 s16=>?_
  subst e1 e2 e3 e4 e5 e6 e7 e8 e9
  refine dW (by kernel_rfl) ?_
  refine bZ (i:=1) (sp_ticket_Turn a6 _ 0) rfl s16 fun r10 h17 e10 s17=>?_
  subst e10
  refine dW (by kernel_rfl) ?_
  refine bZ (i:=1) (sp_ticket_Pass a6 _ 0) rfl s17 fun r11 h18 e11 s18=>?_
  subst e11
  refine dW (by kernel_rfl) ?_
  refine bZ (i:=6) (lG a1 _ 1 3 9) rfl s18 fun r12 h19 e12 s19=>?_
  subst e12
  refine dW (by kernel_rfl) ?_
  refine ti (iZ ⟨6,8,0,1,0⟩ 2) s19 fun r13 h20 e13 s20=>?_
  subst e13
  refine dW (by kernel_rfl) ?_
  refine ti (sp_word_Args 3) s20 fun r14 h21 e14 s21=>?_
  subst e14
  refine dW (by kernel_rfl) ?_
  refine cl_n (i:=5) (sp_table_By a2 _ 2) rfl s21 fun r15 h22 s22=>?_
  have e15:((r15.len:Int) == 1) = true:=by
    rw [(cq (j:=0) s22 rfl).1]
    kernel_rfl
  refine dW e15 ?_
  refine bZ (i:=1) (sp_pool_Bits a7 _) rfl s22 fun r16 h23 e16 s23=>?_
  subst e16
  refine bi (by kernel_rfl) (ct (l:=[_,_,_,_,_,_,_,_]) s23)
theorem sp_Begun2:Sp Tryz.prog lj [] aK [(etB ET EF)] (fun r=>pa_ (r = true) [(etB ET EF)]):=by
  intro h st
  refine wn ?_
  unfold pb
  exact bZ (i:=0) sp_begun2 rfl st fun r h' hr s=>bi hr s
end Go.Proofs.YtniiiakkdoiaiaaGreatDoor
namespace Go.Proofs.YtniiiakkdoiaiaaGreatDoor
open Go Mb
namespace Mb
theorem least {p:Nat→Prop}:∀ (n:Nat),p n→∃ m,p m∧∀ k,p k→m ≤ k:=by
  intro n
  induction n using Nat.strongRecOn with
  | _ n ih =>
    intro hn
    by_cases h:∃ k,k < n∧p k
    · obtain ⟨k,hk,hpk⟩:=h
      exact ih k hk hpk
    · exact ⟨n,hn,fun k hk=>Nat.le_of_not_lt fun hlt=>h ⟨k,hlt,hk⟩⟩
theorem Lp.ghost {σ γ:Type} {step:(σ→Hp→Prop)→σ→Hp→Prop} (I:γ→σ→Hp→Prop) (μ:γ→Nat) {s:σ} {h:Hp} {g:γ} (h0:I g s h)
    (hs:∀ g s h,I g s h→∀ R:σ→Hp→Prop,(∀ g' s' h',I g' s' h'→μ g' < μ g→R s' h')→step R s h):Lp step s h:=by
  have mins:∀ s h,(∃ g,I g s h)→∃ m,(∃ g,I g s h∧μ g = m)∧∀ k,(∃ g,I g s h∧μ g = k)→m ≤ k:=by
    rintro s h ⟨g,hg⟩
    exact least (p:=fun m=>∃ g,I g s h∧μ g = m) (μ g) ⟨g,hg,rfl⟩
  let M:σ→Hp→Nat:=fun s h=>@dite Nat (∃ g,I g s h) (Classical.propDecidable _) (fun H=>Classical.choose (mins s h H)) (fun _=>0)
  have hM:∀ s h,(∃ g,I g s h)→(∃ g,I g s h∧μ g = M s h)∧∀ g,I g s h→M s h ≤ μ g:=by
    intro s h H
    have e:M s h = Classical.choose (mins s h H):=by
      show @dite Nat (∃ g,I g s h) (Classical.propDecidable _) _ _ = _
      rw [dif_pos H]
    have sp:=Classical.choose_spec (mins s h H)
    rw [e]
    exact ⟨sp.1,fun g hg=>sp.2 _ ⟨g,hg,rfl⟩⟩
  refine Lp.intro (fun s h=>∃ g,I g s h) M ⟨g,h0⟩ fun s h H=>?_
  obtain ⟨⟨g,hg,e⟩,_⟩:=hM s h H
  refine hs g s h hg _ fun g' s' h' hg' hlt=>⟨⟨g',hg'⟩,?_⟩
  have:=(hM s' h' ⟨g',hg'⟩).2 g' hg'
  omega
end Mb
namespace Caps
structure Sub (t o:T):Prop where
  len:t.length = o.length
  get:∀ e s,has o e s = true→get t e s = rd∨get t e s = get o e s
def more1 (o t:T) (e s:Int):Bool × T :=
  if (at_ o e s).2 = false∨(at_ t e s).2 = true then (false,t)
  else if (at_ o e s).1.fEnv < 0 then ((root t e s (at_ o e s).1.fFrame).1 == 0,(root t e s (at_ o e s).1.fFrame).2)
  else ((derive t (at_ o e s).1.fEnv (at_ o e s).1.fSlot e s (at_ o e s).1.fRights).1 == 0,(derive t (at_ o e s).1.fEnv (at_ o e s).1.fSlot e s (at_ o e s).1.fRights).2)
def moreS (o:T) (e:Nat):Nat→Bool × T→Bool × T
  | 0,st=>st
  | n + 1,st=>((moreS o e n st).1 || (more1 o (moreS o e n st).2 e n).1,(more1 o (moreS o e n st).2 e n).2)
def moreE (o:T):Nat→Bool × T→Bool × T
  | 0,st=>st
  | m + 1,st=>moreS o m 8 (moreE o m st)
def missing (o t:T) (p:Nat × Nat):Bool:=(at_ o p.1 p.2).2 && !(at_ t p.1 p.2).2
def pairs (n:Nat):List (Nat × Nat):=(List.range n).flatMap fun e=>(List.range 8).map fun s=>(e,s)
def miss (o t:T):Nat:=(pairs o.length).countP (missing o t)
theorem mem_pairs {n e s:Nat}:(e,s) ∈ pairs n↔e < n∧s < 8:=by
  unfold pairs; simp [List.mem_flatMap]
theorem countP_lt {α:Type} {P Q:α→Bool} {a:α}:∀ {l:List α},(∀ x ∈ l,Q x = true→P x = true)→a ∈ l→P a = true→Q a = false→l.countP Q < l.countP P
  | [],_,h,_,_=>by cases h
  | x::l,h1,h2,h3,h4=>by
    have le:∀ {l:List α},(∀ x ∈ l,Q x = true→P x = true)→l.countP Q ≤ l.countP P:=fun h=>List.countP_mono_left h
    rcases List.mem_cons.1 h2 with rfl | h2
    · rw [List.countP_cons_of_pos h3,List.countP_cons_of_neg (by rw [h4]; exact Bool.false_ne_true)]
      have:=le (l:=l) (fun x hx=>h1 x (by simp [hx]))
      omega
    · have ih:=countP_lt (l:=l) (fun x hx=>h1 x (by simp [hx])) h2 h3 h4
      by_cases hq:Q x = true
      · rw [List.countP_cons_of_pos hq,List.countP_cons_of_pos (h1 x (by simp) hq)]; omega
      · rw [List.countP_cons_of_neg hq]
        by_cases hpx:P x = true
        · rw [List.countP_cons_of_pos hpx]; omega
        · rw [List.countP_cons_of_neg hpx]; omega
theorem tm {t:T} {e s:Int}:(at_ t e s).2 = true↔has t e s = true∧(get t e s).fRights ≠ 0:=by
  unfold at_; split
  · rename_i h; exact ⟨fun _=>h,fun _=>rfl⟩
  · rename_i h; exact ⟨fun hh=>(by cases hh),fun hh=>absurd hh h⟩
theorem at_fst {t:T} {e s:Int} (h:(at_ t e s).2 = true):(at_ t e s).1 = get t e s:=by
  have:=tm.1 h
  unfold at_; rw [if_pos this]
theorem sub_has {t o:T} (h:Sub t o) (e s:Int):has t e s = has o e s:=by unfold has; rw [h.len]
theorem cap_empty {n:Int} {o:T} {c:Cap} (h:CapFine n o c) (h0:c.fRights = 0):c = rd:=by
  rcases h with h | h | h
  · exact h
  · omega
  · have:=(vR h.2.2.2.1).1; omega
theorem more1_is {n:Int} {o t:T} (hn:n ≤ 16) (ok:Ok o) (F:fx n o) (okt:Ok t) (sb:Sub t o) {e s:Int} (hh:has o e s = true) :
    (more1 o t e s = (false,t)∧((at_ o e s).2 = true→(at_ t e s).2 = true∨(0 ≤ (get o e s).fEnv∧(get t (get o e s).fEnv (get o e s).fSlot).fRights = 0))) ∨
    (more1 o t e s = (true,put t e s (get o e s))∧(get t e s).fRights = 0∧(get o e s).fRights ≠ 0∧(0 ≤ (get o e s).fEnv→has t (get o e s).fEnv (get o e s).fSlot = true∧(get t (get o e s).fEnv (get o e s).fSlot).fRights ≠ 0)):=by
  by_cases h1:(at_ o e s).2 = true
  · by_cases h2:(at_ t e s).2 = true
    · left
      exact ⟨by unfold more1; rw [if_pos (.inr h2)],fun _=>.inl h2⟩
    · have hno:¬ ((at_ o e s).2 = false∨(at_ t e s).2 = true):=by simp [h1,h2]
      have hc:=(tm.1 h1).2
      have hf:=at_fst h1
      have hht:has t e s = true:=by rw [sub_has sb]; exact hh
      have h0:(get t e s).fRights = 0:=by
        by_cases hz:(get t e s).fRights = 0
        · exact hz
        · exact absurd (tm.2 ⟨hht,hz⟩) h2
      rcases F e s hh with ec | ec | ec
      · rw [ec] at hc; exact absurd rfl hc
      · right
        have hneg:(get o e s).fEnv < 0:=by omega
        have er:root t e s (get o e s).fFrame = (0,put t e s (get o e s)):=by
          unfold root
          rw [if_neg (by simp [hht]; omega),if_neg (by simp [h0])]
          have:(⟨(get o e s).fFrame,3,-1,0⟩:Cap) = get o e s:=by
            obtain ⟨a1,a2,a3,_⟩:=ec
            cases hg:get o e s
            rw [hg] at a1 a2 a3
            simp_all
          rw [this]
        refine ⟨?_,h0,hc,fun hp=>absurd hp (by omega)⟩
        unfold more1
        rw [if_neg hno,hf,if_pos hneg,er]; rfl
      · have hpos:¬ (get o e s).fEnv < 0:=by omega
        obtain ⟨p1,p2⟩:=parent_has ok hh hc ec.1
        have p1t:has t (get o e s).fEnv (get o e s).fSlot = true:=by rw [sub_has sb]; exact p1
        have hw:=vR ec.2.2.2.1
        have hmay:cN (get o e s).fRights = true:=may_iff.2 hw.1
        by_cases hp:(get t (get o e s).fEnv (get o e s).fSlot).fRights = 0
        · left
          have ed:derive t (get o e s).fEnv (get o e s).fSlot e s (get o e s).fRights = (3,t):=by
            unfold derive
            rw [if_neg (by simp [p1t,hht,hmay]),if_pos hp]
          refine ⟨?_,fun _=>.inr ⟨ec.1,hp⟩⟩
          unfold more1
          rw [if_neg hno,hf,if_neg hpos,ed]; rfl
        · right
          have eg:get t (get o e s).fEnv (get o e s).fSlot = get o (get o e s).fEnv (get o e s).fSlot:=by
            rcases sb.get _ _ p1 with h | h
            · rw [h] at hp; exact absurd rfl hp
            · exact h
          have ed:derive t (get o e s).fEnv (get o e s).fSlot e s (get o e s).fRights = (0,put t e s (get o e s)):=by
            unfold derive
            rw [if_neg (by simp [p1t,hht,hmay]),if_neg hp,if_neg (by simp [h0]),eg,if_neg (by simp [ec.2.2.2.1]),ec.2.2.2.2]
          refine ⟨?_,h0,hc,fun _=>⟨p1t,hp⟩⟩
          unfold more1
          rw [if_neg hno,hf,if_neg hpos,ed]; rfl
  · left
    exact ⟨by unfold more1; rw [if_pos (.inl (by simpa using h1))],fun h=>absurd h h1⟩
structure Way (o t0 t:T) (b:Bool) (D:Nat→Nat→Prop):Prop where
  ok:Ok t
  sub:Sub t o
  same:b = false→t = t0
  no:b = false→∀ e s:Nat,D e s→(more1 o t0 e s).1 = false
  le:miss o t ≤ miss o t0
  lt:b = true→miss o t < miss o t0
theorem way_step {n:Int} {o t0 t:T} {b:Bool} {D:Nat→Nat→Prop} (hn:n ≤ 16) (ok:Ok o) (F:fx n o) (w:Way o t0 t b D) {e s:Nat} (he:e < o.length) (hs:s < 8) :
    Way o t0 (more1 o t e s).2 (b || (more1 o t e s).1) (fun a i=>D a i∨(a = e∧i = s)):=by
  have hh:has o e s = true:=has_of he hs
  have hht:has t e s = true:=by rw [sub_has w.sub]; exact hh
  rcases more1_is hn ok F w.ok w.sub hh with ⟨e1,h1⟩ | ⟨e1,h0,hc,hp⟩
  · rw [e1,Bool.or_false]
    refine ⟨w.ok,w.sub,w.same,fun hb a i hd=>?_,w.le,w.lt⟩
    rcases hd with hd | ⟨rfl,rfl⟩
    · exact w.no hb a i hd
    · have:=w.same hb
      rw [← this,e1]
  · rw [e1,Bool.or_true]
    have gp:∀ a i,has o a i = true→get (put t e s (get o e s)) a i = if a = e∧i = s then get o e s else get t a i:=fun a i hai=>wV w.ok.row hht (by rw [sub_has w.sub]; exact hai) _
    have hlt:miss o (put t e s (get o e s)) < miss o t:=by
      unfold miss
      refine countP_lt (a:=(e,s)) (fun q hq hm=>?_) (mem_pairs.2 ⟨he,hs⟩) ?_ ?_
      · unfold missing at hm ⊢
        rw [Bool.and_eq_true] at hm ⊢
        refine ⟨hm.1,?_⟩
        have hq':=(tm.1 hm.1).1
        have hm2:¬ (at_ (put t e s (get o e s)) q.1 q.2).2 = true:=by simpa using hm.2
        have:¬ (at_ t q.1 q.2).2 = true:=by
          intro hat
          apply hm2
          have h3:=tm.1 hat
          refine tm.2 ⟨by rw [tW]; exact h3.1,?_⟩
          rw [gp _ _ hq']
          split
          · exact hc
          · exact h3.2
        simpa using this
      · unfold missing
        have a1:(at_ o e s).2 = true:=tm.2 ⟨hh,hc⟩
        have a2:(at_ t e s).2 = false:=by
          cases hat:(at_ t e s).2 with
          | false=>rfl
          | true=>exact absurd h0 (tm.1 hat).2
        simp only [a1,a2]; rfl
      · unfold missing
        have a2:(at_ (put t e s (get o e s)) e s).2 = true:=tm.2 ⟨by rw [tW]; exact hht,by rw [gp _ _ hh,if_pos ⟨rfl,rfl⟩]; exact hc⟩
        simp only [a2]; simp
    refine ⟨ok_put w.ok hht h0 _ hp,⟨by rw [put_len]; exact w.sub.len,fun a i hai=>?_⟩,fun h=>(by cases h),fun h=>(by cases h),Nat.le_of_lt (Nat.lt_of_lt_of_le hlt w.le),fun _=>Nat.lt_of_lt_of_le hlt w.le⟩
    rw [gp a i hai]
    split
    · rename_i hai2; obtain ⟨rfl,rfl⟩:=hai2; exact .inr rfl
    · exact w.sub.get a i hai
theorem way_mono {o t0 t:T} {b:Bool} {D D':Nat→Nat→Prop} (w:Way o t0 t b D) (h:∀ e s,D' e s→D e s):Way o t0 t b D':=⟨w.ok,w.sub,w.same,fun hb e s hd=>w.no hb e s (h e s hd),w.le,w.lt⟩
theorem way_row {n:Int} {o t0 t:T} {b:Bool} {e:Nat} (hn:n ≤ 16) (ok:Ok o) (F:fx n o) (he:e < o.length) (w:Way o t0 t b (fun a i=>a < e∧i < 8)):∀ j,j ≤ 8→Way o t0 (moreS o e j (b,t)).2 (moreS o e j (b,t)).1 (fun a i=>a < e∧i < 8∨a = e∧i < j)
  | 0,_=>way_mono w fun a i h=>by rcases h with h | h; exact h; omega
  | j + 1,hj=>by
    have:=way_step hn ok F (way_row hn ok F he w j (by omega)) he (s:=j) (by omega)
    exact way_mono this fun a i h=>by
      rcases h with h | h
      · exact .inl (.inl h)
      · by_cases e1:i = j
        · exact .inr ⟨h.1,e1⟩
        · exact .inl (.inr ⟨h.1,by omega⟩)
theorem way_all {n:Int} {o t:T} (hn:n ≤ 16) (ok:Ok o) (F:fx n o) (okt:Ok t) (sb:Sub t o):∀ m,m ≤ o.length→Way o t (moreE o m (false,t)).2 (moreE o m (false,t)).1 (fun a i=>a < m∧i < 8)
  | 0,_=>⟨okt,sb,fun _=>rfl,fun _ e s h=>(by omega),Nat.le_refl _,fun h=>(by cases h)⟩
  | m + 1,hm=>by
    have:=way_row hn ok F (e:=m) (by omega) (way_all hn ok F okt sb m (by omega)) 8 (Nat.le_refl _)
    exact way_mono this fun a i h=>by
      by_cases e1:a = m
      · exact .inr ⟨e1,h.2⟩
      · exact .inl ⟨by omega,h.2⟩
theorem all_there {n:Int} {o t:T} (hn:n ≤ 16) (ok:Ok o) (F:fx n o) (okt:Ok t) (sb:Sub t o) (hno:∀ e s:Nat,e < o.length→s < 8→(more1 o t e s).1 = false):t = o:=by
  obtain ⟨rank,hr⟩:=ok.rk
  have key:∀ (r:Nat) (e s:Nat),e < o.length→s < 8→rank e s ≤ r→get t e s = get o e s:=by
    intro r
    induction r using Nat.strongRecOn with
    | _ r ih =>
      intro e s he hs hrk
      have hh:has o e s = true:=has_of he hs
      by_cases hz:(get o e s).fRights = 0
      · have e0:=cap_empty (F e s hh) hz
        rcases sb.get e s hh with h | h
        · rw [h,e0]
        · exact h
      · rcases more1_is hn ok F okt sb hh with ⟨e1,h1⟩ | ⟨e1,_⟩
        · rcases h1 (tm.2 ⟨hh,hz⟩) with h2 | ⟨h2,h3⟩
          · rcases sb.get e s hh with h | h
            · have:=(tm.1 h2).2; rw [h] at this; exact absurd rfl this
            · exact h
          · exfalso
            obtain ⟨q1,q2,q3⟩:=hr e s hh hz h2
            obtain ⟨a,i,ea,ei,ha,hi⟩:=has_nat q1
            rw [ea,ei] at q2 q3 h3
            have:=ih (rank a i) (by omega) a i ha hi (Nat.le_refl _)
            rw [this] at h3; exact q2 h3
        · have:=hno e s he hs
          rw [e1] at this; cases this
  apply List.ext_getElem?
  intro m
  by_cases hm:m < o.length
  · have hmt:m < t.length:=by rw [sb.len]; exact hm
    rw [List.getElem?_eq_getElem hm,List.getElem?_eq_getElem hmt]
    congr 1
    have l1:=ok.row _ (List.getElem_mem hm)
    have l2:=okt.row _ (List.getElem_mem hmt)
    apply List.ext_getElem (by rw [l1,l2])
    intro s h1 h2
    have hs:s < 8:=by omega
    obtain ⟨_,g1⟩:=get_nat' ok.row hm hs
    obtain ⟨_,g2⟩:=get_nat' okt.row hmt hs
    rw [← g1,← g2]
    exact key _ m s hm hs (Nat.le_refl _)
  · have hmt:¬ m < t.length:=by rw [sb.len]; exact hm
    rw [List.getElem?_eq_none (Nat.le_of_not_lt hm),List.getElem?_eq_none (Nat.le_of_not_lt hmt)]
end Caps
end Go.Proofs.YtniiiakkdoiaiaaGreatDoor
