/- Part of the proof of: The law KernForm returns true for every input, and leaves its arguments as they were. -/
import Derived.Test.YtniiiakkdoiaiaaGreatDoorKernForm14
set_option linter.all false
namespace Go.Proofs.YtniiiakkdoiaiaaGreatDoor
open Go Mb
set_option linter.unusedVariables false
def sh_cell_New (a0:Int) (K:Ptr→Hp→Prop):Hp→Prop:=nw qo (nP.C (⟨a0,0⟩:nP)) fun b5=>K (some (b5,0))
set_option maxRecDepth 20000 in
theorem sim_cell_New (a0:Int) {K:Ptr→Hp→Prop} {h:Hp} (H:sh_cell_New a0 K h):Ct Tryz.prog sX #[(.int .u64 a0)] h fun v h'=>∃ r,v = oR r∧K r h':=aC [(.int .u64 a0)] Tryz.func190 rfl rfl rfl fun _=>ag<|ab<|aa (ae rfl) rfl<|ad<|ag<|ab<|aa (ac rfl) rfl<|aa (bo rfl (build_258_0 a0)) rfl<|aj (hU rfl rfl rfl H fun b5 _ H1=>aa (ae rfl) rfl<|ad<|an<|av (az rfl (aE rfl)) ⟨(some (b5,0)),rfl,H1⟩)
def sh_cell_Cell_Up (a0:Ptr) (a1:Int) (K:(Int × Bool)→Hp→Prop):Hp→Prop:=br a0.isNone ( K (0,false)) ( nn a0 fun q9=>ld (q9.1,q9.2 + 1) (cI .i64) fun x11=>st (q9.1,q9.2 + 1) [.int .i64 (IntKind.i64.wrap (x11 + 1))]<|ld (q9.1,q9.2 + 0) (cI .u64) fun x18=>br (decide (x18 ≥ a1)) ( ld (q9.1,q9.2 + 0) (cI .u64) fun x24=>K (x24,false)) ( ld (q9.1,q9.2 + 0) (cI .u64) fun x28=>st (q9.1,q9.2 + 0) [.int .u64 (IntKind.u64.wrap (x28 + 1))]<|ld (q9.1,q9.2 + 0) (cI .u64) fun x35=>K (x35,true)))
set_option maxRecDepth 20000 in
theorem sim_cell_Cell_Up (a0:Ptr) (a1:Int) {K:(Int × Bool)→Hp→Prop} {h:Hp} (H:sh_cell_Cell_Up a0 a1 K h):Ct Tryz.prog oI #[(pv a0),(.int .u64 a1)] h fun v h'=>∃ r,v = bV r∧K r h':=aC [(pv a0),(.int .u64 a1)] Tryz.func192 rfl rfl rfl fun _=>ag<|ab<|aa (ae rfl) rfl<|aa (ae rfl) rfl<|ad<|ag<|ag<|ab<|aa (ac rfl) rfl<|aa (ct Tryz.underlying239 rfl) rfl<|ad<|aD rfl H (fun k1 H2=>ag<|ab<|aa (ae rfl) rfl<|aa (ae rfl) rfl<|ad<|an<|av (cf rfl (aE rfl) (aE rfl)) ⟨(0,false),rfl,H2⟩) (fun k1 H2=>au<|ag<|ab<|aa (ac rfl) rfl<|bP H2 fun q9 e3 H4=>aa (aU (aX rfl (ay e3))) rfl<|aa (am se rfl) rfl<|aj (bf H4 bj rfl (fun _=>rfl) rfl fun x11 H5=>aa (bM rfl rfl) rfl<|aa (aU (aX rfl (ay e3))) rfl<|aa (am se rfl) rfl<|aj (dw px rfl rfl rfl rfl rfl H5 fun _ H6=>ad<|ag<|ag<|ab<|aa (ac (aX rfl (ay e3))) rfl<|aa (aU rfl) rfl<|aa (am nJ rfl) rfl<|aj (bf H6 cD rfl (fun _=>rfl) rfl fun x18 H7=>aa (ac rfl) rfl<|aa (hO rfl rfl) rfl<|ad<|aD rfl H7 (fun k8 H9=>ag<|ab<|aa (ac (aX rfl (ay e3))) rfl<|aa (aU rfl) rfl<|aa (am nJ rfl) rfl<|aj (bf H9 cD rfl (fun _=>rfl) rfl fun x24 H10=>aa (ae rfl) rfl<|aa (ae rfl) rfl<|ad<|an<|av (cf rfl (aE rfl) (aE rfl)) ⟨(x24,false),rfl,H10⟩)) (fun k8 H9=>au<|ag<|ab<|aa (ac (aX rfl (ay e3))) rfl<|aa (aU rfl) rfl<|aa (am nJ rfl) rfl<|aj (bf H9 cD rfl (fun _=>rfl) rfl fun x28 H11=>aa (bM rfl rfl) rfl<|aa (aU rfl) rfl<|aa (am nJ rfl) rfl<|aj (dw inf_25 rfl rfl rfl rfl rfl H11 fun _ H12=>ad<|ag<|ab<|aa (ac (aX rfl (ay e3))) rfl<|aa (aU rfl) rfl<|aa (am nJ rfl) rfl<|aj (bf H12 cD rfl (fun _=>rfl) rfl fun x35 H13=>aa (ae rfl) rfl<|aa (ae rfl) rfl<|ad<|an<|av (cf rfl (aE rfl) (aE rfl)) ⟨(x35,true),rfl,H13⟩))))))))
def tV (a0:Ptr) (K:Int→Hp→Prop):Hp→Prop:=br a0.isNone ( K 0) ( nn a0 fun q6=>ld (q6.1,q6.2 + 1) (cI .i64) fun x8=>st (q6.1,q6.2 + 1) [.int .i64 (IntKind.i64.wrap (x8 + 1))]<|ld (q6.1,q6.2 + 0) (cI .u64) fun x15=>K x15)
set_option maxRecDepth 20000 in
theorem sim_cell_Cell_Load (a0:Ptr) {K:Int→Hp→Prop} {h:Hp} (H:tV a0 K h):Ct Tryz.prog lT #[(pv a0)] h fun v h'=>∃ r,v = gK r∧K r h':=aC [(pv a0)] Tryz.func204 rfl rfl rfl fun _=>ag<|ab<|aa (ae rfl) rfl<|ad<|ag<|ag<|ab<|aa (ac rfl) rfl<|aa (ct Tryz.underlying239 rfl) rfl<|ad<|aD rfl H (fun k1 H2=>ag<|ab<|aa (ae rfl) rfl<|ad<|an<|av (az rfl (aE rfl)) ⟨0,rfl,H2⟩) (fun k1 H2=>au<|ag<|ab<|aa (ac rfl) rfl<|bP H2 fun q6 e3 H4=>aa (aU (aX rfl (ay e3))) rfl<|aa (am se rfl) rfl<|aj (bf H4 bj rfl (fun _=>rfl) rfl fun x8 H5=>aa (bM rfl rfl) rfl<|aa (aU (aX rfl (ay e3))) rfl<|aa (am se rfl) rfl<|aj (dw px rfl rfl rfl rfl rfl H5 fun _ H6=>ad<|ag<|ab<|aa (ac (aX rfl (ay e3))) rfl<|aa (aU rfl) rfl<|aa (am nJ rfl) rfl<|aj (bf H6 cD rfl (fun _=>rfl) rfl fun x15 H7=>aa (ae rfl) rfl<|ad<|an<|av (az rfl (aE rfl)) ⟨x15,rfl,H7⟩))))
def vb (a0:Ptr) (a1:Int) (a2:Int) (K:Bool→Hp→Prop):Hp→Prop:=br a0.isNone ( K false) ( nn a0 fun q10=>ld (q10.1,q10.2 + 1) (cI .i64) fun x12=>st (q10.1,q10.2 + 1) [.int .i64 (IntKind.i64.wrap (x12 + 1))]<|ld (q10.1,q10.2 + 0) (cI .u64) fun x19=>br (x19 != a1) ( K false) ( st (q10.1,q10.2 + 0) [.int .u64 a2]<|K true))
set_option maxRecDepth 20000 in
theorem sim_cell_Cell_Cas (a0:Ptr) (a1:Int) (a2:Int) {K:Bool→Hp→Prop} {h:Hp} (H:vb a0 a1 a2 K h):Ct Tryz.prog qX #[(pv a0),(.int .u64 a1),(.int .u64 a2)] h fun v h'=>∃ r,v = aG r∧K r h':=aC [(pv a0),(.int .u64 a1),(.int .u64 a2)] Tryz.func205 rfl rfl rfl fun _=>ag<|ab<|aa (ae rfl) rfl<|ad<|ag<|ag<|ab<|aa (ac rfl) rfl<|aa (ct Tryz.underlying239 rfl) rfl<|ad<|aD rfl H (fun k1 H2=>ag<|ab<|aa (ae rfl) rfl<|ad<|an<|av (az rfl (aE rfl)) ⟨false,rfl,H2⟩) (fun k1 H2=>au<|ag<|ab<|aa (ac rfl) rfl<|bP H2 fun q10 e3 H4=>aa (aU (aX rfl (ay e3))) rfl<|aa (am se rfl) rfl<|aj (bf H4 bj rfl (fun _=>rfl) rfl fun x12 H5=>aa (bM rfl rfl) rfl<|aa (aU (aX rfl (ay e3))) rfl<|aa (am se rfl) rfl<|aj (dw px rfl rfl rfl rfl rfl H5 fun _ H6=>ad<|ag<|ag<|ab<|aa (ac (aX rfl (ay e3))) rfl<|aa (aU rfl) rfl<|aa (am nJ rfl) rfl<|aj (bf H6 cD rfl (fun _=>rfl) rfl fun x19 H7=>aa (ac rfl) rfl<|aa (pA rfl rfl) rfl<|ad<|aD rfl H7 (fun k8 H9=>ag<|ab<|aa (ae rfl) rfl<|ad<|an<|av (az rfl (aE rfl)) ⟨false,rfl,H9⟩) (fun k8 H9=>au<|ag<|ab<|aa (ac (aX rfl (ay e3))) rfl<|aa (ac rfl) rfl<|aa (aU rfl) rfl<|aa (am nJ rfl) rfl<|aj (dw inf_25 rfl rfl rfl rfl rfl H9 fun _ H10=>ad<|ag<|ab<|aa (ae rfl) rfl<|ad<|an<|av (az rfl (aE rfl)) ⟨true,rfl,H10⟩))))))
end Go.Proofs.YtniiiakkdoiaiaaGreatDoor
namespace Go.Proofs.YtniiiakkdoiaiaaGreatDoor
open Go Mb
set_option linter.unusedVariables false
def sh_ticket_New (K:Ptr→Hp→Prop):Hp→Prop:=cl Tryz.prog sX [(.int .u64 0)] oR fun r1=>cl Tryz.prog sX [(.int .u64 0)] oR fun r2=>nw mC (kw.C (⟨r1,r2⟩:kw)) fun b4=>K (some (b4,0))
set_option maxRecDepth 20000 in
theorem sim_ticket_New {K:Ptr→Hp→Prop} {h:Hp} (H:sh_ticket_New K h):Ct Tryz.prog wB #[] h fun v h'=>∃ r,v = tt r∧K r h':=aC [] Tryz.func191 rfl rfl rfl fun _=>ag<|ab<|aa (ae rfl) rfl<|ad<|ag<|ab<|aj (aA H en_190 rfl rfl fun r1 _ H1=>aj (aA H1 en_190 rfl rfl fun r2 _ H2=>aa (bo rfl (build_260_0_1 r1 r2)) rfl<|aj (hU rfl rfl rfl H2 fun b4 _ H3=>aa (ae rfl) rfl<|ad<|an<|av (az rfl (aE rfl)) ⟨(some (b4,0)),rfl,H3⟩)))
def ri (a0:Ptr) (K:Int→Hp→Prop):Hp→Prop:=br a0.isNone ( K 0) ( nn a0 fun q9=>ld (q9.1,q9.2 + 0) cP fun x11=>cl Tryz.prog oI [(pv x11),(.int .u64 18446744073709551615)] bV fun r12=>K (IntKind.u64.wrap (r12.1 - 1)))
set_option maxRecDepth 20000 in
theorem sim_ticket_Lock_Draw (a0:Ptr) {K:Int→Hp→Prop} {h:Hp} (H:ri a0 K h):Ct Tryz.prog nc #[(pv a0)] h fun v h'=>∃ r,v = gK r∧K r h':=aC [(pv a0)] Tryz.func193 rfl rfl rfl fun _=>ag<|ab<|aa (ae rfl) rfl<|ad<|ag<|ag<|ab<|aa (ac rfl) rfl<|aa (ct Tryz.underlying241 rfl) rfl<|ad<|aD rfl H (fun k1 H2=>ag<|ab<|aa (ae rfl) rfl<|ad<|an<|av (az rfl (aE rfl)) ⟨0,rfl,H2⟩) (fun k1 H2=>au<|ag<|ab<|aa (ac rfl) rfl<|bP H2 fun q9 e3 H4=>aa (aU (aX rfl (ay e3))) rfl<|aa (am fld_260_0 rfl) rfl<|aj (bf H4 sc_239 rfl (fun _=>rfl) rfl fun x11 H5=>aj (aA H5 en_192 rfl rfl fun r12 _ H6=>aa (ac rfl) rfl<|aa (ap rfl rfl) rfl<|aa (ap rfl rfl) rfl<|aa (ae rfl) rfl<|aa (ae rfl) rfl<|ad<|ag<|ab<|aa (ac rfl) rfl<|aa (v_sub rfl rfl) rfl<|aa (ae rfl) rfl<|ad<|an<|av (az rfl (aE rfl)) ⟨(IntKind.u64.wrap (r12.1 - 1)),rfl,H6⟩)))
def rg (a0:Ptr) (a1:Int) (K:Bool→Hp→Prop):Hp→Prop:=br (!a0.isNone) ( nn a0 fun q9=>ld (q9.1,q9.2 + 1) cP fun x11=>cl Tryz.prog lT [(pv x11)] gK fun r12=>br (r12 == a1) ( ld (q9.1,q9.2 + 0) cP fun x21=>cl Tryz.prog lT [(pv x21)] gK fun r22=>K (decide (a1 < r22))) ( K false)) ( K false)
set_option maxRecDepth 20000 in
theorem sim_ticket_Lock_Turn (a0:Ptr) (a1:Int) {K:Bool→Hp→Prop} {h:Hp} (H:rg a0 a1 K h):Ct Tryz.prog jS #[(pv a0),(.int .u64 a1)] h fun v h'=>∃ r,v = aG r∧K r h':=aC [(pv a0),(.int .u64 a1)] Tryz.func195 rfl rfl rfl fun _=>ag<|ab<|aa (ae rfl) rfl<|ad<|ag<|ab<|aa (ac rfl) rfl<|aa (v_pneT Tryz.underlying241 rfl) rfl<|aa (ac rfl) rfl<|ai rfl rfl rfl (aB _) (fun g1=>wv (ac rfl)) rfl<|bW H (fun k3 H4=>bP H4 fun q9 e5 H6=>aI rfl rfl rfl (congrArg Value.bool k3) (aN (wv (aU (aX (aK rfl k3) (ay e5)))) rfl<|aI rfl rfl rfl (congrArg Value.bool k3) (aN (wv (am fld_260_1 rfl)) rfl<|aI rfl rfl rfl (congrArg Value.bool k3) (bf H6 sc_239 rfl (fun _=>rfl) rfl fun x11 H7=>aI rfl rfl rfl (congrArg Value.bool k3) (aA H7 en_204 rfl rfl fun r12 _ H8=>aI rfl rfl rfl (congrArg Value.bool k3) (aN (wv (ac rfl)) rfl<|aI rfl rfl rfl (congrArg Value.bool k3) (aN (wv (cc rfl rfl)) rfl<|aa (aT rfl k3 rfl) rfl<|aa (ac rfl) rfl<|ai rfl rfl rfl (aB _) (fun g9=>wv (ac rfl)) rfl<|ai rfl rfl rfl (aB _) (fun g10=>wv (ac (aX rfl (ay e5)))) rfl<|ai rfl rfl rfl (aB _) (fun g11=>wv (aU (aK rfl g11))) rfl<|ai rfl rfl rfl (aB _) (fun g12=>wv (am fld_260_0 (aK rfl g12))) rfl<|bW H8 (fun k14 H15=>aI rfl rfl rfl (congrArg Value.bool k14) (bf H15 sc_239 (aK rfl k14) (fun _=>rfl) rfl fun x21 H16=>aI rfl rfl rfl (congrArg Value.bool k14) (aA H16 en_204 rfl rfl fun r22 _ H17=>aI rfl rfl rfl (congrArg Value.bool k14) (aN (wv (cA (aK rfl k14) rfl)) rfl<|aa (aT rfl k14 rfl) rfl<|aa (ae rfl) rfl<|ad<|an<|av (az rfl (aE rfl)) ⟨(decide (a1 < r22)),rfl,H17⟩)))) (fun k14 H15=>al rfl rfl rfl (aZ k14) rfl<|al rfl rfl rfl (aZ k14) rfl<|al rfl rfl rfl (aZ k14) rfl<|aa (ax rfl k14 rfl) rfl<|aa (ae rfl) rfl<|ad<|an<|av (az rfl (aE rfl)) ⟨false,rfl,H15⟩)))))))) (fun k3 H4=>al rfl rfl rfl (aZ k3) rfl<|al rfl rfl rfl (aZ k3) rfl<|al rfl rfl rfl (aZ k3) rfl<|al rfl rfl rfl (aZ k3) rfl<|al rfl rfl rfl (aZ k3) rfl<|al rfl rfl rfl (aZ k3) rfl<|aa (ax rfl k3 rfl) rfl<|aa (ac rfl) rfl<|al rfl rfl rfl rfl rfl<|al rfl rfl rfl rfl rfl<|al rfl rfl rfl rfl rfl<|al rfl rfl rfl rfl rfl<|al rfl rfl rfl rfl rfl<|al rfl rfl rfl rfl rfl<|al rfl rfl rfl rfl rfl<|aa (ax rfl rfl rfl) rfl<|aa (ae rfl) rfl<|ad<|an<|av (az rfl (aE rfl)) ⟨false,rfl,H4⟩)
def rh (a0:Ptr) (a1:Int) (K:Bool→Hp→Prop):Hp→Prop:=cl Tryz.prog jS [(pv a0),(.int .u64 a1)] aG fun r7=>br r7 ( nn a0 fun q10=>ld (q10.1,q10.2 + 1) cP fun x12=>cl Tryz.prog qX [(pv x12),(.int .u64 a1),(.int .u64 (IntKind.u64.wrap (a1 + 1)))] aG fun r16=>K r16) ( K false)
set_option maxRecDepth 20000 in
theorem sim_ticket_Lock_Pass (a0:Ptr) (a1:Int) {K:Bool→Hp→Prop} {h:Hp} (H:rh a0 a1 K h):Ct Tryz.prog na #[(pv a0),(.int .u64 a1)] h fun v h'=>∃ r,v = aG r∧K r h':=aC [(pv a0),(.int .u64 a1)] Tryz.func196 rfl rfl rfl fun _=>ag<|ab<|aa (ae rfl) rfl<|ad<|ag<|ab<|aa (ac rfl) rfl<|aa (ac rfl) rfl<|aj (aA H en_195 rfl rfl fun r7 _ H1=>aa (ac rfl) rfl<|ai rfl rfl rfl (aB _) (fun g2=>wv (ac rfl)) rfl<|bW H1 (fun k4 H5=>bP H5 fun q10 e6 H7=>aI rfl rfl rfl (congrArg Value.bool k4) (aN (wv (aU (aX (aK rfl k4) (ay e6)))) rfl<|aI rfl rfl rfl (congrArg Value.bool k4) (aN (wv (am fld_260_1 rfl)) rfl<|aI rfl rfl rfl (congrArg Value.bool k4) (bf H7 sc_239 rfl (fun _=>rfl) rfl fun x12 H8=>aI rfl rfl rfl (congrArg Value.bool k4) (aN (wv (ac rfl)) rfl<|aI rfl rfl rfl (congrArg Value.bool k4) (aN (wv (ac rfl)) rfl<|aI rfl rfl rfl (congrArg Value.bool k4) (aN (wv (bM rfl rfl)) rfl<|aI rfl rfl rfl (congrArg Value.bool k4) (aA H8 en_205 rfl rfl fun r16 _ H9=>aa (aT rfl k4 rfl) rfl<|aa (ae rfl) rfl<|ad<|an<|av (az rfl (aE rfl)) ⟨r16,rfl,H9⟩)))))))) (fun k4 H5=>al rfl rfl rfl (aZ k4) rfl<|al rfl rfl rfl (aZ k4) rfl<|al rfl rfl rfl (aZ k4) rfl<|al rfl rfl rfl (aZ k4) rfl<|al rfl rfl rfl (aZ k4) rfl<|al rfl rfl rfl (aZ k4) rfl<|al rfl rfl rfl (aZ k4) rfl<|aa (ax rfl k4 rfl) rfl<|aa (ae rfl) rfl<|ad<|an<|av (az rfl (aE rfl)) ⟨false,rfl,H5⟩))
end Go.Proofs.YtniiiakkdoiaiaaGreatDoor
namespace Go.Proofs.YtniiiakkdoiaiaaGreatDoor
open Go Mb
def kF (x:Ptr) (c:Int × Int):As:=fun h=>∃ b:Nat,(x = some (b,0))∧aQ [blk b qo [.int .u64 c.1,.int .i64 c.2]] h
theorem cell_op {x:Ptr} {c:Int × Int} {l:List As} {h:Hp} (s0:aQ (kF x c::l) h):∃ b,x = some (b,0)∧aQ (blk b qo [.int .u64 c.1,.int .i64 c.2]::l) h:=by
  obtain ⟨b,hx,st⟩:=op_ s0
  exact ⟨b,hx,st⟩
theorem cell_cl {b:Nat} {v n:Int} {l:List As} {h:Hp} (st:aQ (blk b qo [.int .u64 v,.int .i64 n]::l) h):aQ (kF (some (b,0)) (v,n)::l) h:=cl_ (m:=fun b=>[blk b qo [.int .u64 (v,n).1,.int .i64 (v,n).2]]) b rfl st
namespace Cell
def tick (c:Int × Int):Int × Int:=(c.1,IntKind.i64.wrap (c.2 + 1))
def cas (c:Int × Int) (o v:Int):Bool × Int × Int:=if c.1 = o then (true,v,(tick c).2) else (false,tick c)
def up (c:Int × Int) (m:Int):(Int × Bool) × Int × Int:=if c.1 ≥ m then ((c.1,false),tick c) else ((IntKind.u64.wrap (c.1 + 1),true),(IntKind.u64.wrap (c.1 + 1),(tick c).2))
end Cell
theorem sp_cell_New (v:Int):Sp Tryz.prog sX [.int .u64 v] oR [] (fun r=>aQ [kF r (v,0)]):=by
  intro h st
  refine sim_cell_New _ ?_
  unfold sh_cell_New
  exact oT st fun b h' s1=>cell_cl s1
theorem sp_cell_Load (x:Ptr) (c:Int × Int):Sp Tryz.prog lT [pv x] gK [kF x c] (fun r=>pa_ (r = c.1) [kF x (Cell.tick c)]):=by
  intro h s0
  obtain ⟨b,rfl,st⟩:=cell_op s0
  refine sim_cell_Cell_Load _ ?_
  unfold tV
  refine dv rfl (cC ?_)
  refine bB c.2 st (i:=0) rfl rfl rfl ?_
  refine tw (i:=0) st rfl (Nat.le_refl _) fun h2 s2=>?_
  refine bB c.1 s2 (i:=0) rfl rfl rfl ?_
  exact bh rfl (cell_cl s2)
theorem sp_cell_Cas (x:Ptr) (c:Int × Int) (o v:Int):Sp Tryz.prog qX [pv x,.int .u64 o,.int .u64 v] aG [kF x c] (fun r=>pa_ (r = (Cell.cas c o v).1) [kF x (Cell.cas c o v).2]):=by
  intro h s0
  obtain ⟨b,rfl,st⟩:=cell_op s0
  refine sim_cell_Cell_Cas _ _ _ ?_
  unfold vb
  refine dv rfl (cC ?_)
  refine bB c.2 st (i:=0) rfl rfl rfl ?_
  refine tw (i:=0) st rfl (Nat.le_refl _) fun h2 s2=>?_
  refine bB c.1 s2 (i:=0) rfl rfl rfl ?_
  refine bk (fun k=>?_) (fun k=>?_)
  · have k':¬ c.1 = o:=by simpa using k
    have e:Cell.cas c o v = (false,Cell.tick c):=if_neg k'
    rw [e]
    exact bh rfl (cell_cl s2)
  · have k':c.1 = o:=by simpa using k
    have e:Cell.cas c o v = (true,v,(Cell.tick c).2):=if_pos k'
    rw [e]
    refine tw (i:=0) s2 rfl (show 0 + 0 + 1 ≤ 2 by decide) fun h3 s3=>?_
    exact bh rfl (cell_cl s3)
theorem sp_cell_Up (x:Ptr) (c:Int × Int) (m:Int):Sp Tryz.prog oI [pv x,.int .u64 m] bV [kF x c] (fun r=>pa_ (r = (Cell.up c m).1) [kF x (Cell.up c m).2]):=by
  intro h s0
  obtain ⟨b,rfl,st⟩:=cell_op s0
  refine sim_cell_Cell_Up _ _ ?_
  unfold sh_cell_Cell_Up
  refine dv rfl (cC ?_)
  refine bB c.2 st (i:=0) rfl rfl rfl ?_
  refine tw (i:=0) st rfl (Nat.le_refl _) fun h2 s2=>?_
  refine bB c.1 s2 (i:=0) rfl rfl rfl ?_
  refine bk (fun k=>?_) (fun k=>?_)
  · have k':c.1 ≥ m:=by simpa using k
    have e:Cell.up c m = ((c.1,false),Cell.tick c):=if_pos k'
    rw [e]
    refine bB c.1 s2 (i:=0) rfl rfl rfl ?_
    exact bh rfl (cell_cl s2)
  · have k':¬ c.1 ≥ m:=by simpa using k
    have e:Cell.up c m = ((IntKind.u64.wrap (c.1 + 1),true),(IntKind.u64.wrap (c.1 + 1),(Cell.tick c).2)):=if_neg k'
    rw [e]
    refine bB c.1 s2 (i:=0) rfl rfl rfl ?_
    refine tw (i:=0) s2 rfl (show 0 + 0 + 1 ≤ 2 by decide) fun h3 s3=>?_
    refine bB (IntKind.u64.wrap (c.1 + 1)) s3 (i:=0) rfl rfl rfl ?_
    exact bh rfl (cell_cl s3)
def uz (x:Ptr) (k:(Int × Int) × (Int × Int)):As:=fun h=>∃ bs:Nat × Ptr × Ptr,(x = some (bs.1,0))∧aQ [blk bs.1 mC [pv bs.2.1,pv bs.2.2],kF bs.2.1 k.1,kF bs.2.2 k.2] h
theorem lock_op {x:Ptr} {k:(Int × Int) × (Int × Int)} {l:List As} {h:Hp} (s0:aQ (uz x k::l) h):∃ b p q,x = some (b,0)∧aQ (blk b mC [pv p,pv q]::kF p k.1::kF q k.2::l) h:=by
  obtain ⟨⟨b,p,q⟩,hx,st⟩:=op_ s0
  exact ⟨b,p,q,hx,st⟩
theorem lock_cl {b:Nat} {p q:Ptr} {k1 k2:Int × Int} {l:List As} {h:Hp} (st:aQ (blk b mC [pv p,pv q]::kF p k1::kF q k2::l) h):aQ (uz (some (b,0)) (k1,k2)::l) h :=
  cl_ (m:=fun bs:Nat × Ptr × Ptr=>[blk bs.1 mC [pv bs.2.1,pv bs.2.2],kF bs.2.1 (k1,k2).1,kF bs.2.2 (k1,k2).2]) (b,p,q) rfl st
namespace Lock
abbrev S:=(Int × Int) × (Int × Int)
def draw (k:S):Int × S:=(IntKind.u64.wrap ((Cell.up k.1 18446744073709551615).1.1 - 1),((Cell.up k.1 18446744073709551615).2,k.2))
def turn (k:S) (t:Int):Bool × S:=if k.2.1 = t then (decide (t < k.1.1),(Cell.tick k.1,Cell.tick k.2)) else (false,(k.1,Cell.tick k.2))
def pass (k:S) (t:Int):Bool × S:=if (turn k t).1 then ((Cell.cas (turn k t).2.2 t (IntKind.u64.wrap (t + 1))).1,((turn k t).2.1,(Cell.cas (turn k t).2.2 t (IntKind.u64.wrap (t + 1))).2)) else (false,(turn k t).2)
end Lock
theorem sp_ticket_New:Sp Tryz.prog wB [] tt [] (fun r=>aQ [uz r ((0,0),(0,0))]):=by
  intro h st
  refine sim_ticket_New ?_
  unfold sh_ticket_New
  refine cT [] (sp_cell_New 0) st rfl fun p h1 s1=>?_
  refine cT [] (sp_cell_New 0) (dJ s1) rfl fun q h2 s2=>?_
  refine oT (dJ s2) fun b h3 s3=>?_
  exact lock_cl (bn [0,1] s3 rfl)
theorem sp_ticket_Draw (x:Ptr) (k:Lock.S):Sp Tryz.prog nc [pv x] gK [uz x k] (fun r=>pa_ (r = (Lock.draw k).1) [uz x (Lock.draw k).2]):=by
  intro h s0
  obtain ⟨b,p,q,rfl,st⟩:=lock_op s0
  refine sim_ticket_Lock_Draw _ ?_
  unfold ri
  refine dv rfl (cC ?_)
  refine bB p st (i:=0) rfl rfl rfl ?_
  refine cT [1] (sp_cell_Up p k.1 _) st rfl fun r h1 s1=>?_
  obtain ⟨hr,s2⟩:=bH.1 s1
  subst hr
  exact bh rfl (lock_cl (bn [1] s2 rfl))
theorem sp_ticket_Turn (x:Ptr) (k:Lock.S) (t:Int):Sp Tryz.prog jS [pv x,.int .u64 t] aG [uz x k] (fun r=>pa_ (r = (Lock.turn k t).1) [uz x (Lock.turn k t).2]):=by
  intro h s0
  obtain ⟨b,p,q,rfl,st⟩:=lock_op s0
  refine sim_ticket_Lock_Turn _ _ ?_
  unfold rg
  refine df rfl (cC ?_)
  refine bB q st (i:=0) rfl rfl rfl ?_
  refine cT [2] (sp_cell_Load q k.2) st rfl fun r h1 s1=>?_
  obtain ⟨hr,s2⟩:=bH.1 s1
  subst hr
  refine bk (fun c=>?_) (fun c=>?_)
  · have c':k.2.1 = t:=by simpa using c
    have e:Lock.turn k t = (decide (t < k.1.1),(Cell.tick k.1,Cell.tick k.2)):=if_pos c'
    rw [e]
    refine bB p s2 (i:=1) rfl rfl rfl ?_
    refine cT [2] (sp_cell_Load p k.1) s2 rfl fun r h2 s3=>?_
    obtain ⟨hr,s4⟩:=bH.1 s3
    subst hr
    exact bh rfl (lock_cl (bn [2] s4 rfl))
  · have c':¬ k.2.1 = t:=by simpa using c
    have e:Lock.turn k t = (false,(k.1,Cell.tick k.2)):=if_neg c'
    rw [e]
    exact bh rfl (lock_cl (bn [1,1] s2 rfl))
theorem sp_ticket_Pass (x:Ptr) (k:Lock.S) (t:Int):Sp Tryz.prog na [pv x,.int .u64 t] aG [uz x k] (fun r=>pa_ (r = (Lock.pass k t).1) [uz x (Lock.pass k t).2]):=by
  intro h s0
  refine sim_ticket_Lock_Pass _ _ ?_
  unfold rh
  refine cT [0] (sp_ticket_Turn x k t) s0 rfl fun r h1 s1=>?_
  obtain ⟨hr,s2⟩:=bH.1 s1
  subst hr
  refine bk (fun c=>?_) (fun c=>?_)
  · have e:Lock.pass k t = ((Cell.cas (Lock.turn k t).2.2 t (IntKind.u64.wrap (t + 1))).1,((Lock.turn k t).2.1,(Cell.cas (Lock.turn k t).2.2 t (IntKind.u64.wrap (t + 1))).2)):=if_pos c
    rw [e]
    obtain ⟨b,p,q,rfl,st⟩:=lock_op s2
    refine cC (bB q st (i:=0) rfl rfl rfl ?_)
    refine cT [2] (sp_cell_Cas q _ t _) st rfl fun r h2 s3=>?_
    obtain ⟨hr,s4⟩:=bH.1 s3
    subst hr
    exact bh rfl (lock_cl (bn [1,1] s4 rfl))
  · have e:Lock.pass k t = (false,(Lock.turn k t).2):=by unfold Lock.pass; rw [c]; rfl
    rw [e]
    exact bh rfl s2
end Go.Proofs.YtniiiakkdoiaiaaGreatDoor
namespace Go.Proofs.YtniiiakkdoiaiaaGreatDoor
open Go Mb
set_option linter.unusedVariables false
def pb (K:Bool→Hp→Prop):Hp→Prop:=cl Tryz.prog vm [(.int .i64 2)] tu fun r24=>cl Tryz.prog lb [] ip fun r25=>cl Tryz.prog iE [] gC fun r26=>cl Tryz.prog sT [(.int .i64 3)] oP fun r27=>cl Tryz.prog sX [(.int .u64 5)] oR fun r28=>cl Tryz.prog wB [] tt fun r29=>cl Tryz.prog wD [(.int .i64 2)] rW fun r30=>br ((((((r24.isNone || r25.isNone) || r26.isNone) || r27.isNone) || r28.isNone) || r29.isNone) || r30.isNone) ( K false) ( cl Tryz.prog ef [(pv r25),(.int .i64 1),(.agg (aq.C (⟨1,2,3⟩:aq)).toArray)] bw fun r59=>cl Tryz.prog oA [(pv r26),(.agg (ar.C (⟨1,5,1,1⟩:ar)).toArray)] aG fun r67=>cl Tryz.prog oz [(pv r26),(.int .i64 1),(.int .i64 5)] fH fun r70=>cl Tryz.prog mS [(pv r27),(.int .i64 0),(.int .u64 4)] dW fun r74=>cl Tryz.prog lN [(pv r27),(.int .i64 2)] bV fun r77=>cl Tryz.prog oI [(pv r28),(.int .u64 9)] bV fun r82=>cl Tryz.prog nc [(pv r29)] gK fun r86=>cl Tryz.prog jt [(pv r30)] bZ fun r89=>cl Tryz.prog lm [] aG fun r97=>br (((((((((((r97 && (r59 == 0)) && (gy (⟨1,2,3⟩:aq)).2) && (((gy (⟨1,2,3⟩:aq)).1) == 33059)) && r67) && r70.2) && (r70.1.fFrame == 1)) && (r74 == 2)) && (r77.1 == 4)) && r77.2) && (r82.1 == 6)) && (r86 == 0)) ( cl Tryz.prog jS [(pv r29),(.int .u64 0)] aG fun r141=>br r141 ( cl Tryz.prog na [(pv r29),(.int .u64 0)] aG fun r145=>br ((r145 && (r89.1 == 0)) && r89.2) ( cl Tryz.prog fE [(pv r24),(.int .i64 1),(.int .i64 3),(.int .u64 9)] aG fun r156=>br ((r156 && (aP (⟨6,0,0,0,0⟩:ao)).2) && (((aP (⟨6,0,0,0,0⟩:ao)).1) == 6)) ( cl Tryz.prog gO [(.agg (ao.C (⟨6,8,0,1,0⟩:ao)).toArray),(.int .i64 2)] bw fun r167=>br (r167 == 2) ( cl Tryz.prog n_word_Args [(.int .i64 3)] dW fun r171=>br ((r171 == 4) && (bv 1 3)) ( cl Tryz.prog lJ [(pv r25),(.int .i64 2)] cG fun r179=>br ((r179.len:Int) == 1) ( cl Tryz.prog pO [(pv r30)] gK fun r185=>K (r185 == 2)) ( K false)) ( K false)) ( K false)) ( K false)) ( K false)) ( K false)) ( K false))
set_option maxRecDepth 20000 in
theorem wd {K:Bool→Hp→Prop} {h:Hp} (H:pb K h):Ct Tryz.prog li #[] h fun v h'=>∃ r,v = aG r∧K r h':=aC [] Tryz.func169 rfl rfl rfl fun _=>ag<|ab<|aa (ae rfl) rfl<|ad<|ag<|ab<|aj (aA H en_90 rfl rfl fun r24 _ H1=>aj (aA H1 en_93 rfl rfl fun r25 _ H2=>aj (aA H2 en_63 rfl rfl fun r26 _ H3=>aj (aA H3 en_61 rfl rfl fun r27 _ H4=>aa (ae rfl) rfl<|aa (ae rfl) rfl<|aa (ae rfl) rfl<|aa (ae rfl) rfl<|ad<|ag<|ab<|aj (aA H4 en_190 rfl rfl fun r28 _ H5=>aj (aA H5 en_191 rfl rfl fun r29 _ H6=>aj (aA H6 en_91 rfl rfl fun r30 _ H7=>aa (ae rfl) rfl<|aa (ae rfl) rfl<|aa (ae rfl) rfl<|ad<|ag<|ag<|ab<|aa (ac rfl) rfl<|aa (ct Tryz.underlying124 rfl) rfl<|aa (ac rfl) rfl<|ai rfl rfl rfl (aS _) (fun g8=>wv (ac rfl)) rfl<|ai rfl rfl rfl (aS _) (fun g9=>wv (ct Tryz.underlying133 (aK rfl g9))) rfl<|aa (du rfl rfl) rfl<|aa (ac rfl) rfl<|ai rfl rfl rfl (aS _) (fun g10=>wv (ac rfl)) rfl<|ai rfl rfl rfl (aS _) (fun g11=>wv (ct Tryz.underlying103 (aK rfl g11))) rfl<|aa (du rfl rfl) rfl<|aa (ac rfl) rfl<|ai rfl rfl rfl (aS _) (fun g12=>wv (ac rfl)) rfl<|ai rfl rfl rfl (aS _) (fun g13=>wv (ct Tryz.underlying95 (aK rfl g13))) rfl<|aa (du rfl rfl) rfl<|aa (ac rfl) rfl<|ai rfl rfl rfl (aS _) (fun g14=>wv (ac rfl)) rfl<|ai rfl rfl rfl (aS _) (fun g15=>wv (ct Tryz.underlying239 (aK rfl g15))) rfl<|aa (du rfl rfl) rfl<|aa (ac rfl) rfl<|ai rfl rfl rfl (aS _) (fun g16=>wv (ac rfl)) rfl<|ai rfl rfl rfl (aS _) (fun g17=>wv (ct Tryz.underlying241 (aK rfl g17))) rfl<|aa (du rfl rfl) rfl<|aa (ac rfl) rfl<|ai rfl rfl rfl (aS _) (fun g18=>wv (ac rfl)) rfl<|ai rfl rfl rfl (aS _) (fun g19=>wv (ct Tryz.underlying126 (aK rfl g19))) rfl<|aa (du rfl rfl) rfl<|ad<|aD rfl H7 (fun k20 H21=>ag<|ab<|aa (ae rfl) rfl<|ad<|an<|av (az rfl (aE rfl)) ⟨false,rfl,H21⟩) (fun k20 H21=>au<|ag<|ab<|aa (ac rfl) rfl<|aa (bo rfl (oO 1 2 3)) rfl<|aj (aA H21 en_97 rfl rfl fun r59 _ H22=>aa (ae rfl) rfl<|ad<|ag<|ab<|aa (bo rfl (oO 1 2 3)) rfl<|aj (cL (vs:=[(.agg (aq.C (⟨1,2,3⟩:aq)).toArray)]) (bI (ct_pte_Put (⟨1,2,3⟩:aq) _)) en_139 rfl rfl<|aa (ac rfl) rfl<|aa (ap rfl rfl) rfl<|aa (ap rfl rfl) rfl<|aa (ae rfl) rfl<|aa (ae rfl) rfl<|ad<|ag<|ab<|aa (ac rfl) rfl<|aa (bo rfl (vB 1 5 1 1)) rfl<|aj (aA H22 en_143 rfl rfl fun r67 _ H23=>aa (ae rfl) rfl<|ad<|ag<|ab<|aa (ac rfl) rfl<|aj (aA H23 en_141 rfl rfl fun r70 _ H24=>aa (ac rfl) rfl<|aa (ap rfl rfl) rfl<|aa (ap rfl rfl) rfl<|aj (bb (l:=(ar.C (⟨0,0,0,0⟩:ar))) kI rfl rfl fun b12=>aj (bc (k:=0) (vs:=(ar.C r70.1)) fx rfl rfl rfl rfl rfl rfl rfl<|aa (ae rfl) rfl<|ad<|ag<|ab<|aa (ac rfl) rfl<|aj (aA H24 en_71 rfl rfl fun r74 _ H25=>aa (ae rfl) rfl<|ad<|ag<|ab<|aa (ac rfl) rfl<|aj (aA H25 en_75 rfl rfl fun r77 _ H26=>aa (ac rfl) rfl<|aa (ap rfl rfl) rfl<|aa (ap rfl rfl) rfl<|aa (ae rfl) rfl<|aa (ae rfl) rfl<|ad<|ag<|ab<|aa (ac rfl) rfl<|aj (aA H26 en_192 rfl rfl fun r82 _ H27=>aa (ac rfl) rfl<|aa (ap rfl rfl) rfl<|aa (ap rfl rfl) rfl<|aa (ae rfl) rfl<|aa (ae rfl) rfl<|ad<|ag<|ab<|aa (ac rfl) rfl<|aj (aA H27 en_193 rfl rfl fun r86 _ H28=>aa (ae rfl) rfl<|ad<|ag<|ab<|aa (ac rfl) rfl<|aj (aA H28 en_154 rfl rfl fun r89 _ H29=>aa (ac rfl) rfl<|aa (ap rfl rfl) rfl<|aa (ap rfl rfl) rfl<|aa (ae rfl) rfl<|aa (ae rfl) rfl<|ad<|ag<|ab<|aa (bo rfl (build_27_0 6)) rfl<|aj (cL (vs:=[(.agg (ao.C (⟨6,0,0,0,0⟩:ao)).toArray)]) (bI (jX (⟨6,0,0,0,0⟩:ao) _)) en_64 rfl rfl<|aa (ac rfl) rfl<|aa (ap rfl rfl) rfl<|aa (ap rfl rfl) rfl<|aa (ae rfl) rfl<|aa (ae rfl) rfl<|ad<|ag<|ab<|aj (aA H29 en_194 rfl rfl fun r97 _ H30=>aa (ac rfl) rfl<|ai rfl rfl rfl (aB _) (fun g31=>wv (ac rfl)) rfl<|ai rfl rfl rfl (aB _) (fun g32=>wv (cc (aK rfl g32) rfl)) rfl<|aa (bX rfl rfl) rfl<|aa (ac rfl) rfl<|ai rfl rfl rfl (aB _) (fun g33=>wv (ac rfl)) rfl<|aa (bX rfl rfl) rfl<|aa (ac rfl) rfl<|ai rfl rfl rfl (aB _) (fun g34=>wv (ac rfl)) rfl<|ai rfl rfl rfl (aB _) (fun g35=>wv (cc (aK rfl g35) rfl)) rfl<|aa (bX rfl rfl) rfl<|aa (ac rfl) rfl<|ai rfl rfl rfl (aB _) (fun g36=>wv (ac rfl)) rfl<|aa (bX rfl rfl) rfl<|aa (ac rfl) rfl<|ai rfl rfl rfl (aB _) (fun g37=>wv (ac rfl)) rfl<|aa (bX rfl rfl) rfl<|aa (ac rfl) rfl<|ai rfl rfl rfl (aB _) (fun g38=>wv (am lx rfl)) rfl<|ai rfl rfl rfl (aB _) (fun g39=>cv (bq (k:=0) bj (aK rfl g39) rfl rfl)) rfl<|ai rfl rfl rfl (aB _) (fun g40=>wv (cc (aK rfl g40) rfl)) rfl<|aa (bX rfl rfl) rfl<|aa (ac rfl) rfl<|ai rfl rfl rfl (aB _) (fun g41=>wv (ac rfl)) rfl<|ai rfl rfl rfl (aB _) (fun g42=>wv (cc (aK rfl g42) rfl)) rfl<|aa (bX rfl rfl) rfl<|aa (ac rfl) rfl<|ai rfl rfl rfl (aB _) (fun g43=>wv (ac rfl)) rfl<|ai rfl rfl rfl (aB _) (fun g44=>wv (cc (aK rfl g44) rfl)) rfl<|aa (bX rfl rfl) rfl<|aa (ac rfl) rfl<|ai rfl rfl rfl (aB _) (fun g45=>wv (ac rfl)) rfl<|aa (bX rfl rfl) rfl<|aa (ac rfl) rfl<|ai rfl rfl rfl (aB _) (fun g46=>wv (ac rfl)) rfl<|ai rfl rfl rfl (aB _) (fun g47=>wv (cc (aK rfl g47) rfl)) rfl<|aa (bX rfl rfl) rfl<|aa (ac rfl) rfl<|ai rfl rfl rfl (aB _) (fun g48=>wv (ac rfl)) rfl<|ai rfl rfl rfl (aB _) (fun g49=>wv (cc (aK rfl g49) rfl)) rfl<|aa (bX rfl rfl) rfl<|aa (ac rfl) rfl<|ai rfl rfl rfl (aB _) (fun g50=>wv (ac rfl)) rfl<|bW H30 (fun k52 H53=>aI rfl rfl rfl (congrArg Value.bool k52) (aA H53 en_195 (aY (aK rfl k52) (aY rfl bU)) rfl fun r141 _ H54=>aa (aT rfl k52 rfl) rfl<|aa (ac rfl) rfl<|ai rfl rfl rfl (aB _) (fun g55=>wv (ac rfl)) rfl<|bW H54 (fun k57 H58=>aI rfl rfl rfl (congrArg Value.bool k57) (aA H58 en_196 (aY (aK rfl k57) (aY rfl bU)) rfl fun r145 _ H59=>aa (aT rfl k57 rfl) rfl<|aa (ac rfl) rfl<|ai rfl rfl rfl (aB _) (fun g60=>wv (ac rfl)) rfl<|ai rfl rfl rfl (aB _) (fun g61=>wv (cc (aK rfl g61) rfl)) rfl<|aa (bX rfl rfl) rfl<|aa (ac rfl) rfl<|ai rfl rfl rfl (aB _) (fun g62=>wv (ac rfl)) rfl<|aa (bX rfl rfl) rfl<|aa (ac rfl) rfl<|ai rfl rfl rfl (aB _) (fun g63=>wv (ac rfl)) rfl<|bW H59 (fun k65 H66=>aI rfl rfl rfl (congrArg Value.bool k65) (aA H66 en_146 (aY (aK rfl k65) (aY rfl (aY rfl (aY rfl bU)))) rfl fun r156 _ H67=>aa (aT rfl k65 rfl) rfl<|aa (ac rfl) rfl<|ai rfl rfl rfl (aB _) (fun g68=>wv (ac rfl)) rfl<|aa (bX rfl rfl) rfl<|aa (ac rfl) rfl<|ai rfl rfl rfl (aB _) (fun g69=>wv (ac rfl)) rfl<|ai rfl rfl rfl (aB _) (fun g70=>wv (cc (aK rfl g70) rfl)) rfl<|aa (bX rfl rfl) rfl<|aa (ac rfl) rfl<|ai rfl rfl rfl (aB _) (fun g71=>wv (bo rfl (jE 6 8 0 1))) rfl<|bW H67 (fun k73 H74=>aI rfl rfl rfl (congrArg Value.bool k73) (aA H74 en_95 (aY (aK rfl k73) (aY rfl bU)) rfl fun r167 _ H75=>aI rfl rfl rfl (congrArg Value.bool k73) (aN (wv (cc rfl rfl)) rfl<|aa (aT rfl k73 rfl) rfl<|aa (ac rfl) rfl<|bW H75 (fun k77 H78=>aI rfl rfl rfl (congrArg Value.bool k77) (aA H78 en_197 rfl rfl fun r171 _ H79=>aI rfl rfl rfl (congrArg Value.bool k77) (aN (wv (cc rfl rfl)) rfl<|aa (aT rfl k77 rfl) rfl<|aa (ac rfl) rfl<|de (vs:=[(.int .i64 1),(.int .i64 3)]) rfl rfl rfl (aB _) (fun g80=>(bI (dh 1 3 _))) mu (fun g80=>rfl) rfl<|aa (bX rfl rfl) rfl<|aa (ac rfl) rfl<|ai rfl rfl rfl (aB _) (fun g81=>wv (ac rfl)) rfl<|bW H79 (fun k83 H84=>aI rfl rfl rfl (congrArg Value.bool k83) (aA H84 en_159 (aY (aK rfl k83) (aY rfl bU)) rfl fun r179 _ H85=>aI rfl rfl rfl (congrArg Value.bool k83) (aN (wv (dH rfl Tryz.underlying41 rfl)) rfl<|aI rfl rfl rfl (congrArg Value.bool k83) (aN (wv (cc rfl rfl)) rfl<|aa (aT rfl k83 rfl) rfl<|aa (ac rfl) rfl<|ai rfl rfl rfl (aB _) (fun g86=>wv (ac rfl)) rfl<|bW H85 (fun k88 H89=>aI rfl rfl rfl (congrArg Value.bool k88) (aA H89 en_198 (aY (aK rfl k88) bU) rfl fun r185 _ H90=>aI rfl rfl rfl (congrArg Value.bool k88) (aN (wv (cc rfl rfl)) rfl<|aa (aT rfl k88 rfl) rfl<|aa (ae rfl) rfl<|ad<|an<|av (az rfl (aE rfl)) ⟨(r185 == 2),rfl,H90⟩))) (fun k88 H89=>al rfl rfl rfl (aZ k88) rfl<|al rfl rfl rfl (aZ k88) rfl<|aa (ax rfl k88 rfl) rfl<|aa (ae rfl) rfl<|ad<|an<|av (az rfl (aE rfl)) ⟨false,rfl,H89⟩))))) (fun k83 H84=>al rfl rfl rfl (aZ k83) rfl<|al rfl rfl rfl (aZ k83) rfl<|al rfl rfl rfl (aZ k83) rfl<|aa (ax rfl k83 rfl) rfl<|aa (ac rfl) rfl<|al rfl rfl rfl rfl rfl<|al rfl rfl rfl rfl rfl<|al rfl rfl rfl rfl rfl<|aa (ax rfl rfl rfl) rfl<|aa (ae rfl) rfl<|ad<|an<|av (az rfl (aE rfl)) ⟨false,rfl,H84⟩)))) (fun k77 H78=>al rfl rfl rfl (aZ k77) rfl<|al rfl rfl rfl (aZ k77) rfl<|aa (ax rfl k77 rfl) rfl<|aa (ac rfl) rfl<|al rfl rfl rfl rfl rfl<|aa (ax rfl rfl rfl) rfl<|aa (ac rfl) rfl<|al rfl rfl rfl rfl rfl<|al rfl rfl rfl rfl rfl<|al rfl rfl rfl rfl rfl<|al rfl rfl rfl rfl rfl<|aa (ax rfl rfl rfl) rfl<|aa (ac rfl) rfl<|al rfl rfl rfl rfl rfl<|al rfl rfl rfl rfl rfl<|al rfl rfl rfl rfl rfl<|aa (ax rfl rfl rfl) rfl<|aa (ae rfl) rfl<|ad<|an<|av (az rfl (aE rfl)) ⟨false,rfl,H78⟩)))) (fun k73 H74=>al rfl rfl rfl (aZ k73) rfl<|al rfl rfl rfl (aZ k73) rfl<|aa (ax rfl k73 rfl) rfl<|aa (ac rfl) rfl<|al rfl rfl rfl rfl rfl<|al rfl rfl rfl rfl rfl<|aa (ax rfl rfl rfl) rfl<|aa (ac rfl) rfl<|al rfl rfl rfl rfl rfl<|aa (ax rfl rfl rfl) rfl<|aa (ac rfl) rfl<|al rfl rfl rfl rfl rfl<|al rfl rfl rfl rfl rfl<|al rfl rfl rfl rfl rfl<|al rfl rfl rfl rfl rfl<|aa (ax rfl rfl rfl) rfl<|aa (ac rfl) rfl<|al rfl rfl rfl rfl rfl<|al rfl rfl rfl rfl rfl<|al rfl rfl rfl rfl rfl<|aa (ax rfl rfl rfl) rfl<|aa (ae rfl) rfl<|ad<|an<|av (az rfl (aE rfl)) ⟨false,rfl,H74⟩))) (fun k65 H66=>al rfl rfl rfl (aZ k65) rfl<|aa (ax rfl k65 rfl) rfl<|aa (ac rfl) rfl<|al rfl rfl rfl rfl rfl<|aa (ax rfl rfl rfl) rfl<|aa (ac rfl) rfl<|al rfl rfl rfl rfl rfl<|al rfl rfl rfl rfl rfl<|aa (ax rfl rfl rfl) rfl<|aa (ac rfl) rfl<|al rfl rfl rfl rfl rfl<|al rfl rfl rfl rfl rfl<|al rfl rfl rfl rfl rfl<|aa (ax rfl rfl rfl) rfl<|aa (ac rfl) rfl<|al rfl rfl rfl rfl rfl<|al rfl rfl rfl rfl rfl<|aa (ax rfl rfl rfl) rfl<|aa (ac rfl) rfl<|al rfl rfl rfl rfl rfl<|aa (ax rfl rfl rfl) rfl<|aa (ac rfl) rfl<|al rfl rfl rfl rfl rfl<|al rfl rfl rfl rfl rfl<|al rfl rfl rfl rfl rfl<|al rfl rfl rfl rfl rfl<|aa (ax rfl rfl rfl) rfl<|aa (ac rfl) rfl<|al rfl rfl rfl rfl rfl<|al rfl rfl rfl rfl rfl<|al rfl rfl rfl rfl rfl<|aa (ax rfl rfl rfl) rfl<|aa (ae rfl) rfl<|ad<|an<|av (az rfl (aE rfl)) ⟨false,rfl,H66⟩))) (fun k57 H58=>al rfl rfl rfl (aZ k57) rfl<|aa (ax rfl k57 rfl) rfl<|aa (ac rfl) rfl<|al rfl rfl rfl rfl rfl<|al rfl rfl rfl rfl rfl<|aa (ax rfl rfl rfl) rfl<|aa (ac rfl) rfl<|al rfl rfl rfl rfl rfl<|aa (ax rfl rfl rfl) rfl<|aa (ac rfl) rfl<|al rfl rfl rfl rfl rfl<|al rfl rfl rfl rfl rfl<|aa (ax rfl rfl rfl) rfl<|aa (ac rfl) rfl<|al rfl rfl rfl rfl rfl<|aa (ax rfl rfl rfl) rfl<|aa (ac rfl) rfl<|al rfl rfl rfl rfl rfl<|al rfl rfl rfl rfl rfl<|aa (ax rfl rfl rfl) rfl<|aa (ac rfl) rfl<|al rfl rfl rfl rfl rfl<|al rfl rfl rfl rfl rfl<|al rfl rfl rfl rfl rfl<|aa (ax rfl rfl rfl) rfl<|aa (ac rfl) rfl<|al rfl rfl rfl rfl rfl<|al rfl rfl rfl rfl rfl<|aa (ax rfl rfl rfl) rfl<|aa (ac rfl) rfl<|al rfl rfl rfl rfl rfl<|aa (ax rfl rfl rfl) rfl<|aa (ac rfl) rfl<|al rfl rfl rfl rfl rfl<|al rfl rfl rfl rfl rfl<|al rfl rfl rfl rfl rfl<|al rfl rfl rfl rfl rfl<|aa (ax rfl rfl rfl) rfl<|aa (ac rfl) rfl<|al rfl rfl rfl rfl rfl<|al rfl rfl rfl rfl rfl<|al rfl rfl rfl rfl rfl<|aa (ax rfl rfl rfl) rfl<|aa (ae rfl) rfl<|ad<|an<|av (az rfl (aE rfl)) ⟨false,rfl,H58⟩))) (fun k52 H53=>al rfl rfl rfl (aZ k52) rfl<|aa (ax rfl k52 rfl) rfl<|aa (ac rfl) rfl<|al rfl rfl rfl rfl rfl<|al rfl rfl rfl rfl rfl<|aa (ax rfl rfl rfl) rfl<|aa (ac rfl) rfl<|al rfl rfl rfl rfl rfl<|al rfl rfl rfl rfl rfl<|aa (ax rfl rfl rfl) rfl<|aa (ac rfl) rfl<|al rfl rfl rfl rfl rfl<|aa (ax rfl rfl rfl) rfl<|aa (ac rfl) rfl<|al rfl rfl rfl rfl rfl<|al rfl rfl rfl rfl rfl<|aa (ax rfl rfl rfl) rfl<|aa (ac rfl) rfl<|al rfl rfl rfl rfl rfl<|aa (ax rfl rfl rfl) rfl<|aa (ac rfl) rfl<|al rfl rfl rfl rfl rfl<|al rfl rfl rfl rfl rfl<|aa (ax rfl rfl rfl) rfl<|aa (ac rfl) rfl<|al rfl rfl rfl rfl rfl<|al rfl rfl rfl rfl rfl<|al rfl rfl rfl rfl rfl<|aa (ax rfl rfl rfl) rfl<|aa (ac rfl) rfl<|al rfl rfl rfl rfl rfl<|al rfl rfl rfl rfl rfl<|aa (ax rfl rfl rfl) rfl<|aa (ac rfl) rfl<|al rfl rfl rfl rfl rfl<|aa (ax rfl rfl rfl) rfl<|aa (ac rfl) rfl<|al rfl rfl rfl rfl rfl<|al rfl rfl rfl rfl rfl<|al rfl rfl rfl rfl rfl<|al rfl rfl rfl rfl rfl<|aa (ax rfl rfl rfl) rfl<|aa (ac rfl) rfl<|al rfl rfl rfl rfl rfl<|al rfl rfl rfl rfl rfl<|al rfl rfl rfl rfl rfl<|aa (ax rfl rfl rfl) rfl<|aa (ae rfl) rfl<|ad<|an<|av (az rfl (aE rfl)) ⟨false,rfl,H53⟩))))))))))))))))))))))
def pd (K:Bool→Hp→Prop):Hp→Prop:=cl Tryz.prog li [] aG fun r1=>K r1
set_option maxRecDepth 20000 in
theorem we {K:Bool→Hp→Prop} {h:Hp} (H:pd K h):Ct Tryz.prog lj #[] h fun v h'=>∃ r,v = aG r∧K r h':=aC [] Tryz.func130 rfl rfl rfl fun _=>ag<|ab<|aa (ae rfl) rfl<|ad<|ag<|ab<|aj (aA H en_169 rfl rfl fun r1 _ H1=>aa (ae rfl) rfl<|ad<|an<|av (az rfl (aE rfl)) ⟨r1,rfl,H1⟩)
end Go.Proofs.YtniiiakkdoiaiaaGreatDoor
namespace Go.Proofs.YtniiiakkdoiaiaaGreatDoor
open Go Mb
variable {ET:Nat} {EF:Nat × Nat}
section
variable {l:List As} {h:Hp} {x:Ptr}
theorem mem_nn {fs:List (List Int)} (s:aQ (ij x fs::l) h):x.isNone = false:=by obtain ⟨b,_,_,rfl,_⟩:=mem_op s; rfl
theorem nn_of {α:Type} {φ:α→Prop} {m:α→List As} (hx:∀ z,φ z→x.isNone = false) (s:aQ ((fun h=>∃ z,φ z∧aQ (m z) h)::l) h):x.isNone = false:=by
  obtain ⟨z,f,_⟩:=op_ s
  exact hx z f
theorem table_nn {ps:List Pte} (s:aQ (da x ps::l) h):x.isNone = false:=nn_of (fun _ e=>by rw [e.1]; rfl) s
theorem tlb_nn {t:List TL × Int} (s:aQ (fo x t::l) h):x.isNone = false:=nn_of (fun _ e=>by rw [e.1]; rfl) s
theorem mail_nn {bs:List (List Int)} (s:aQ (jj x bs::l) h):x.isNone = false:=nn_of (fun _ e=>by rw [e.1]; rfl) s
theorem cell_nn {c:Int × Int} (s:aQ (kF x c::l) h):x.isNone = false:=nn_of (fun _ e=>by rw [e]; rfl) s
theorem lock_nn {k:(Int × Int) × (Int × Int)} (s:aQ (uz x k::l) h):x.isNone = false:=nn_of (fun _ e=>by rw [e]; rfl) s
theorem pool_nn {p:List Int} (s:aQ (fQ x p::l) h):x.isNone = false:=nn_of (fun _ e=>by rw [e.1]; rfl) s
end
theorem sp_Begun1:Sp Tryz.prog lm [] aG [(etB ET EF)] (fun r=>pa_ (r = true) [(etB ET EF)]):=by
  intro h st
  refine wh ?_
  unfold ph
  exact bY (i:=0) sp_begun1 rfl st fun r h' hr s=>bh hr s
theorem sp_begun2:Sp Tryz.prog li [] aG [(etB ET EF)] (fun r=>pa_ (r = true) [(etB ET EF)]):=by
  intro h st
  refine wd ?_
  unfold pb
  refine ma (sp_mem_New 2 (by decide) (by decide)) st fun a1 h1 s1=>?_
  refine ma nV s1 fun a2 h2 s2=>?_
  refine ma vO s2 fun a3 h3 s3=>?_
  refine ma (sp_mail_New 3 (by decide) (by decide)) s3 fun a4 h4 s4=>?_
  refine ma (sp_cell_New 5) s4 fun a5 h5 s5=>?_
  refine ma sp_ticket_New s5 fun a6 h6 s6=>?_
  refine ma (sp_pool_New 2 (by decide) (by decide)) s6 fun a7 h7 s7=>?_
  have n1:=mem_nn s1
  have n2:=table_nn s2
  have n3:=tlb_nn s3
  have n4:=mail_nn s4
  have n5:=cell_nn s5
  have n6:=lock_nn s6
  have n7:=pool_nn s7
  rw [n1,n2,n3,n4,n5,n6,n7]
  refine dv rfl ?_
  refine bY (i:=5) (ke a2 _ 1 ⟨1,2,3⟩) rfl s7 fun r1 h8 e1 s8=>?_
  refine bY (i:=4) (sp_tlb_Fill a3 _ ⟨1,5,1,1⟩) rfl s8 fun r2 h9 e2 s9=>?_
  refine bY (i:=4) (sp_tlb_Find a3 _ 1 5) rfl s9 fun r3 h10 e3 s10=>?_
  refine bY (i:=3) (sp_mail_All a4 _ 0 4 (fun l hl=>?_)) rfl s10 fun r4 h11 e4 s11=>?_
  · have:l = []:=by simpa using hl
    subst this
    exact ⟨fun _ h=>(by cases h),.nil,by decide⟩
  refine bY (i:=3) (sp_mail_Take a4 _ 2) rfl s11 fun r5 h12 e5 s12=>?_
  refine bY (i:=2) (sp_cell_Up a5 _ 9) rfl s12 fun r6 h13 e6 s13=>?_
  refine bY (i:=1) (sp_ticket_Draw a6 _) rfl s13 fun r7 h14 e7 s14=>?_
  refine bY (i:=0) (vR a7 _) rfl s14 fun r8 h15 e8 s15=>?_
  refine bY (i:=7) sp_Begun1 rfl s15 fun r9 h16 e9 s16=>?_
  subst e1 e2 e3 e4 e5 e6 e7 e8 e9
  refine df (by kernel_rfl) ?_
  refine bY (i:=1) (sp_ticket_Turn a6 _ 0) rfl s16 fun r10 h17 e10 s17=>?_
  subst e10
  refine df (by kernel_rfl) ?_
  refine bY (i:=1) (sp_ticket_Pass a6 _ 0) rfl s17 fun r11 h18 e11 s18=>?_
  subst e11
  refine df (by kernel_rfl) ?_
  refine bY (i:=6) (lE a1 _ 1 3 9) rfl s18 fun r12 h19 e12 s19=>?_
  subst e12
  refine df (by kernel_rfl) ?_
  refine rT (jh ⟨6,8,0,1,0⟩ 2) s19 fun r13 h20 e13 s20=>?_
  subst e13
  refine df (by kernel_rfl) ?_
  refine rT (sp_word_Args 3) s20 fun r14 h21 e14 s21=>?_
  subst e14
  refine df (by kernel_rfl) ?_
  refine tj (i:=5) (sp_table_By a2 _ 2) rfl s21 fun r15 h22 s22=>?_
  have e15:((r15.len:Int) == 1) = true:=by
    rw [(cn (j:=0) s22 rfl).1]
    kernel_rfl
  refine df e15 ?_
  refine bY (i:=1) (sp_pool_Bits a7 _) rfl s22 fun r16 h23 e16 s23=>?_
  subst e16
  refine bh (by kernel_rfl) (cj (l:=[_,_,_,_,_,_,_,_]) s23)
theorem sp_Begun2:Sp Tryz.prog lj [] aG [(etB ET EF)] (fun r=>pa_ (r = true) [(etB ET EF)]):=by
  intro h st
  refine we ?_
  unfold pd
  exact bY (i:=0) sp_begun2 rfl st fun r h' hr s=>bh hr s
end Go.Proofs.YtniiiakkdoiaiaaGreatDoor
namespace Go.Proofs.YtniiiakkdoiaiaaGreatDoor
open Go Mb
namespace Mb
theorem least {p:Nat→Prop}:∀ (n:Nat),p n→∃ m,p m∧∀ k,p k→m ≤ k:=by
  intro n
  induction n using Nat.strongRecOn with
  | _ n ih =>
    intro hn
    by_cases h:∃ k,k < n∧p k
    · obtain ⟨k,hk,hpk⟩:=h
      exact ih k hk hpk
    · exact ⟨n,hn,fun k hk=>Nat.le_of_not_lt fun hlt=>h ⟨k,hlt,hk⟩⟩
theorem Lp.ghost {σ γ:Type} {step:(σ→Hp→Prop)→σ→Hp→Prop} (I:γ→σ→Hp→Prop) (μ:γ→Nat) {s:σ} {h:Hp} {g:γ} (h0:I g s h)
    (hs:∀ g s h,I g s h→∀ R:σ→Hp→Prop,(∀ g' s' h',I g' s' h'→μ g' < μ g→R s' h')→step R s h):Lp step s h:=by
  have mins:∀ s h,(∃ g,I g s h)→∃ m,(∃ g,I g s h∧μ g = m)∧∀ k,(∃ g,I g s h∧μ g = k)→m ≤ k:=by
    rintro s h ⟨g,hg⟩
    exact least (p:=fun m=>∃ g,I g s h∧μ g = m) (μ g) ⟨g,hg,rfl⟩
  let M:σ→Hp→Nat:=fun s h=>@dite Nat (∃ g,I g s h) (Classical.propDecidable _) (fun H=>Classical.choose (mins s h H)) (fun _=>0)
  have hM:∀ s h,(∃ g,I g s h)→(∃ g,I g s h∧μ g = M s h)∧∀ g,I g s h→M s h ≤ μ g:=by
    intro s h H
    have e:M s h = Classical.choose (mins s h H):=by
      show @dite Nat (∃ g,I g s h) (Classical.propDecidable _) _ _ = _
      rw [dif_pos H]
    have sp:=Classical.choose_spec (mins s h H)
    rw [e]
    exact ⟨sp.1,fun g hg=>sp.2 _ ⟨g,hg,rfl⟩⟩
  refine Lp.intro (fun s h=>∃ g,I g s h) M ⟨g,h0⟩ fun s h H=>?_
  obtain ⟨⟨g,hg,e⟩,_⟩:=hM s h H
  refine hs g s h hg _ fun g' s' h' hg' hlt=>⟨⟨g',hg'⟩,?_⟩
  have:=(hM s' h' ⟨g',hg'⟩).2 g' hg'
  omega
end Mb
namespace Caps
structure Sub (t o:T):Prop where
  len:t.length = o.length
  get:∀ e s,has o e s = true→get t e s = rU∨get t e s = get o e s
def more1 (o t:T) (e s:Int):Bool × T :=
  if (at_ o e s).2 = false∨(at_ t e s).2 = true then (false,t)
  else if (at_ o e s).1.fEnv < 0 then ((root t e s (at_ o e s).1.fFrame).1 == 0,(root t e s (at_ o e s).1.fFrame).2)
  else ((derive t (at_ o e s).1.fEnv (at_ o e s).1.fSlot e s (at_ o e s).1.fRights).1 == 0,(derive t (at_ o e s).1.fEnv (at_ o e s).1.fSlot e s (at_ o e s).1.fRights).2)
def moreS (o:T) (e:Nat):Nat→Bool × T→Bool × T
  | 0,st=>st
  | n + 1,st=>((moreS o e n st).1 || (more1 o (moreS o e n st).2 e n).1,(more1 o (moreS o e n st).2 e n).2)
def moreE (o:T):Nat→Bool × T→Bool × T
  | 0,st=>st
  | m + 1,st=>moreS o m 8 (moreE o m st)
def missing (o t:T) (p:Nat × Nat):Bool:=(at_ o p.1 p.2).2 && !(at_ t p.1 p.2).2
def pairs (n:Nat):List (Nat × Nat):=(List.range n).flatMap fun e=>(List.range 8).map fun s=>(e,s)
def miss (o t:T):Nat:=(pairs o.length).countP (missing o t)
theorem mem_pairs {n e s:Nat}:(e,s) ∈ pairs n↔e < n∧s < 8:=by
  unfold pairs; simp [List.mem_flatMap]
theorem countP_lt {α:Type} {P Q:α→Bool} {a:α}:∀ {l:List α},(∀ x ∈ l,Q x = true→P x = true)→a ∈ l→P a = true→Q a = false→l.countP Q < l.countP P
  | [],_,h,_,_=>by cases h
  | x::l,h1,h2,h3,h4=>by
    have le:∀ {l:List α},(∀ x ∈ l,Q x = true→P x = true)→l.countP Q ≤ l.countP P:=fun h=>List.countP_mono_left h
    rcases List.mem_cons.1 h2 with rfl | h2
    · rw [List.countP_cons_of_pos h3,List.countP_cons_of_neg (by rw [h4]; exact Bool.false_ne_true)]
      have:=le (l:=l) (fun x hx=>h1 x (by simp [hx]))
      omega
    · have ih:=countP_lt (l:=l) (fun x hx=>h1 x (by simp [hx])) h2 h3 h4
      by_cases hq:Q x = true
      · rw [List.countP_cons_of_pos hq,List.countP_cons_of_pos (h1 x (by simp) hq)]; omega
      · rw [List.countP_cons_of_neg hq]
        by_cases hpx:P x = true
        · rw [List.countP_cons_of_pos hpx]; omega
        · rw [List.countP_cons_of_neg hpx]; omega
theorem tn {t:T} {e s:Int}:(at_ t e s).2 = true↔has t e s = true∧(get t e s).fRights ≠ 0:=by
  unfold at_; split
  · rename_i h; exact ⟨fun _=>h,fun _=>rfl⟩
  · rename_i h; exact ⟨fun hh=>(by cases hh),fun hh=>absurd hh h⟩
theorem at_fst {t:T} {e s:Int} (h:(at_ t e s).2 = true):(at_ t e s).1 = get t e s:=by
  have:=tn.1 h
  unfold at_; rw [if_pos this]
theorem sub_has {t o:T} (h:Sub t o) (e s:Int):has t e s = has o e s:=by unfold has; rw [h.len]
theorem cap_empty {n:Int} {o:T} {c:Cap} (h:CapFine n o c) (h0:c.fRights = 0):c = rU:=by
  rcases h with h | h | h
  · exact h
  · omega
  · have:=(vF h.2.2.2.1).1; omega
theorem more1_is {n:Int} {o t:T} (hn:n ≤ 16) (ok:Ok o) (F:fA n o) (okt:Ok t) (sb:Sub t o) {e s:Int} (hh:has o e s = true) :
    (more1 o t e s = (false,t)∧((at_ o e s).2 = true→(at_ t e s).2 = true∨(0 ≤ (get o e s).fEnv∧(get t (get o e s).fEnv (get o e s).fSlot).fRights = 0))) ∨
    (more1 o t e s = (true,put t e s (get o e s))∧(get t e s).fRights = 0∧(get o e s).fRights ≠ 0∧(0 ≤ (get o e s).fEnv→has t (get o e s).fEnv (get o e s).fSlot = true∧(get t (get o e s).fEnv (get o e s).fSlot).fRights ≠ 0)):=by
  by_cases h1:(at_ o e s).2 = true
  · by_cases h2:(at_ t e s).2 = true
    · left
      exact ⟨by unfold more1; rw [if_pos (.inr h2)],fun _=>.inl h2⟩
    · have hno:¬ ((at_ o e s).2 = false∨(at_ t e s).2 = true):=by simp [h1,h2]
      have hc:=(tn.1 h1).2
      have hf:=at_fst h1
      have hht:has t e s = true:=by rw [sub_has sb]; exact hh
      have h0:(get t e s).fRights = 0:=by
        by_cases hz:(get t e s).fRights = 0
        · exact hz
        · exact absurd (tn.2 ⟨hht,hz⟩) h2
      rcases F e s hh with ec | ec | ec
      · rw [ec] at hc; exact absurd rfl hc
      · right
        have hneg:(get o e s).fEnv < 0:=by omega
        have er:root t e s (get o e s).fFrame = (0,put t e s (get o e s)):=by
          unfold root
          rw [if_neg (by simp [hht]; omega),if_neg (by simp [h0])]
          have:(⟨(get o e s).fFrame,3,-1,0⟩:Cap) = get o e s:=by
            obtain ⟨a1,a2,a3,_⟩:=ec
            cases hg:get o e s
            rw [hg] at a1 a2 a3
            simp_all
          rw [this]
        refine ⟨?_,h0,hc,fun hp=>absurd hp (by omega)⟩
        unfold more1
        rw [if_neg hno,hf,if_pos hneg,er]; rfl
      · have hpos:¬ (get o e s).fEnv < 0:=by omega
        obtain ⟨p1,p2⟩:=parent_has ok hh hc ec.1
        have p1t:has t (get o e s).fEnv (get o e s).fSlot = true:=by rw [sub_has sb]; exact p1
        have hw:=vF ec.2.2.2.1
        have hmay:cM (get o e s).fRights = true:=may_iff.2 hw.1
        by_cases hp:(get t (get o e s).fEnv (get o e s).fSlot).fRights = 0
        · left
          have ed:derive t (get o e s).fEnv (get o e s).fSlot e s (get o e s).fRights = (3,t):=by
            unfold derive
            rw [if_neg (by simp [p1t,hht,hmay]),if_pos hp]
          refine ⟨?_,fun _=>.inr ⟨ec.1,hp⟩⟩
          unfold more1
          rw [if_neg hno,hf,if_neg hpos,ed]; rfl
        · right
          have eg:get t (get o e s).fEnv (get o e s).fSlot = get o (get o e s).fEnv (get o e s).fSlot:=by
            rcases sb.get _ _ p1 with h | h
            · rw [h] at hp; exact absurd rfl hp
            · exact h
          have ed:derive t (get o e s).fEnv (get o e s).fSlot e s (get o e s).fRights = (0,put t e s (get o e s)):=by
            unfold derive
            rw [if_neg (by simp [p1t,hht,hmay]),if_neg hp,if_neg (by simp [h0]),eg,if_neg (by simp [ec.2.2.2.1]),ec.2.2.2.2]
          refine ⟨?_,h0,hc,fun _=>⟨p1t,hp⟩⟩
          unfold more1
          rw [if_neg hno,hf,if_neg hpos,ed]; rfl
  · left
    exact ⟨by unfold more1; rw [if_pos (.inl (by simpa using h1))],fun h=>absurd h h1⟩
structure Way (o t0 t:T) (b:Bool) (D:Nat→Nat→Prop):Prop where
  ok:Ok t
  sub:Sub t o
  same:b = false→t = t0
  no:b = false→∀ e s:Nat,D e s→(more1 o t0 e s).1 = false
  le:miss o t ≤ miss o t0
  lt:b = true→miss o t < miss o t0
theorem way_step {n:Int} {o t0 t:T} {b:Bool} {D:Nat→Nat→Prop} (hn:n ≤ 16) (ok:Ok o) (F:fA n o) (w:Way o t0 t b D) {e s:Nat} (he:e < o.length) (hs:s < 8) :
    Way o t0 (more1 o t e s).2 (b || (more1 o t e s).1) (fun a i=>D a i∨(a = e∧i = s)):=by
  have hh:has o e s = true:=has_of he hs
  have hht:has t e s = true:=by rw [sub_has w.sub]; exact hh
  rcases more1_is hn ok F w.ok w.sub hh with ⟨e1,h1⟩ | ⟨e1,h0,hc,hp⟩
  · rw [e1,Bool.or_false]
    refine ⟨w.ok,w.sub,w.same,fun hb a i hd=>?_,w.le,w.lt⟩
    rcases hd with hd | ⟨rfl,rfl⟩
    · exact w.no hb a i hd
    · have:=w.same hb
      rw [← this,e1]
  · rw [e1,Bool.or_true]
    have gp:∀ a i,has o a i = true→get (put t e s (get o e s)) a i = if a = e∧i = s then get o e s else get t a i:=fun a i hai=>wN w.ok.row hht (by rw [sub_has w.sub]; exact hai) _
    have hlt:miss o (put t e s (get o e s)) < miss o t:=by
      unfold miss
      refine countP_lt (a:=(e,s)) (fun q hq hm=>?_) (mem_pairs.2 ⟨he,hs⟩) ?_ ?_
      · unfold missing at hm ⊢
        rw [Bool.and_eq_true] at hm ⊢
        refine ⟨hm.1,?_⟩
        have hq':=(tn.1 hm.1).1
        have hm2:¬ (at_ (put t e s (get o e s)) q.1 q.2).2 = true:=by simpa using hm.2
        have:¬ (at_ t q.1 q.2).2 = true:=by
          intro hat
          apply hm2
          have h3:=tn.1 hat
          refine tn.2 ⟨by rw [tZ]; exact h3.1,?_⟩
          rw [gp _ _ hq']
          split
          · exact hc
          · exact h3.2
        simpa using this
      · unfold missing
        have a1:(at_ o e s).2 = true:=tn.2 ⟨hh,hc⟩
        have a2:(at_ t e s).2 = false:=by
          cases hat:(at_ t e s).2 with
          | false=>rfl
          | true=>exact absurd h0 (tn.1 hat).2
        simp only [a1,a2]; rfl
      · unfold missing
        have a2:(at_ (put t e s (get o e s)) e s).2 = true:=tn.2 ⟨by rw [tZ]; exact hht,by rw [gp _ _ hh,if_pos ⟨rfl,rfl⟩]; exact hc⟩
        simp only [a2]; simp
    refine ⟨ok_put w.ok hht h0 _ hp,⟨by rw [put_len]; exact w.sub.len,fun a i hai=>?_⟩,fun h=>(by cases h),fun h=>(by cases h),Nat.le_of_lt (Nat.lt_of_lt_of_le hlt w.le),fun _=>Nat.lt_of_lt_of_le hlt w.le⟩
    rw [gp a i hai]
    split
    · rename_i hai2; obtain ⟨rfl,rfl⟩:=hai2; exact .inr rfl
    · exact w.sub.get a i hai
theorem way_mono {o t0 t:T} {b:Bool} {D D':Nat→Nat→Prop} (w:Way o t0 t b D) (h:∀ e s,D' e s→D e s):Way o t0 t b D':=⟨w.ok,w.sub,w.same,fun hb e s hd=>w.no hb e s (h e s hd),w.le,w.lt⟩
theorem way_row {n:Int} {o t0 t:T} {b:Bool} {e:Nat} (hn:n ≤ 16) (ok:Ok o) (F:fA n o) (he:e < o.length) (w:Way o t0 t b (fun a i=>a < e∧i < 8)):∀ j,j ≤ 8→Way o t0 (moreS o e j (b,t)).2 (moreS o e j (b,t)).1 (fun a i=>a < e∧i < 8∨a = e∧i < j)
  | 0,_=>way_mono w fun a i h=>by rcases h with h | h; exact h; omega
  | j + 1,hj=>by
    have:=way_step hn ok F (way_row hn ok F he w j (by omega)) he (s:=j) (by omega)
    exact way_mono this fun a i h=>by
      rcases h with h | h
      · exact .inl (.inl h)
      · by_cases e1:i = j
        · exact .inr ⟨h.1,e1⟩
        · exact .inl (.inr ⟨h.1,by omega⟩)
theorem way_all {n:Int} {o t:T} (hn:n ≤ 16) (ok:Ok o) (F:fA n o) (okt:Ok t) (sb:Sub t o):∀ m,m ≤ o.length→Way o t (moreE o m (false,t)).2 (moreE o m (false,t)).1 (fun a i=>a < m∧i < 8)
  | 0,_=>⟨okt,sb,fun _=>rfl,fun _ e s h=>(by omega),Nat.le_refl _,fun h=>(by cases h)⟩
  | m + 1,hm=>by
    have:=way_row hn ok F (e:=m) (by omega) (way_all hn ok F okt sb m (by omega)) 8 (Nat.le_refl _)
    exact way_mono this fun a i h=>by
      by_cases e1:a = m
      · exact .inr ⟨e1,h.2⟩
      · exact .inl ⟨by omega,h.2⟩
theorem all_there {n:Int} {o t:T} (hn:n ≤ 16) (ok:Ok o) (F:fA n o) (okt:Ok t) (sb:Sub t o) (hno:∀ e s:Nat,e < o.length→s < 8→(more1 o t e s).1 = false):t = o:=by
  obtain ⟨rank,hr⟩:=ok.rk
  have key:∀ (r:Nat) (e s:Nat),e < o.length→s < 8→rank e s ≤ r→get t e s = get o e s:=by
    intro r
    induction r using Nat.strongRecOn with
    | _ r ih =>
      intro e s he hs hrk
      have hh:has o e s = true:=has_of he hs
      by_cases hz:(get o e s).fRights = 0
      · have e0:=cap_empty (F e s hh) hz
        rcases sb.get e s hh with h | h
        · rw [h,e0]
        · exact h
      · rcases more1_is hn ok F okt sb hh with ⟨e1,h1⟩ | ⟨e1,_⟩
        · rcases h1 (tn.2 ⟨hh,hz⟩) with h2 | ⟨h2,h3⟩
          · rcases sb.get e s hh with h | h
            · have:=(tn.1 h2).2; rw [h] at this; exact absurd rfl this
            · exact h
          · exfalso
            obtain ⟨q1,q2,q3⟩:=hr e s hh hz h2
            obtain ⟨a,i,ea,ei,ha,hi⟩:=has_nat q1
            rw [ea,ei] at q2 q3 h3
            have:=ih (rank a i) (by omega) a i ha hi (Nat.le_refl _)
            rw [this] at h3; exact q2 h3
        · have:=hno e s he hs
          rw [e1] at this; cases this
  apply List.ext_getElem?
  intro m
  by_cases hm:m < o.length
  · have hmt:m < t.length:=by rw [sb.len]; exact hm
    rw [List.getElem?_eq_getElem hm,List.getElem?_eq_getElem hmt]
    congr 1
    have l1:=ok.row _ (List.getElem_mem hm)
    have l2:=okt.row _ (List.getElem_mem hmt)
    apply List.ext_getElem (by rw [l1,l2])
    intro s h1 h2
    have hs:s < 8:=by omega
    obtain ⟨_,g1⟩:=get_nat' ok.row hm hs
    obtain ⟨_,g2⟩:=get_nat' okt.row hmt hs
    rw [← g1,← g2]
    exact key _ m s hm hs (Nat.le_refl _)
  · have hmt:¬ m < t.length:=by rw [sb.len]; exact hm
    rw [List.getElem?_eq_none (Nat.le_of_not_lt hm),List.getElem?_eq_none (Nat.le_of_not_lt hmt)]
end Caps
end Go.Proofs.YtniiiakkdoiaiaaGreatDoor
namespace Go.Proofs.YtniiiakkdoiaiaaGreatDoor
open Go Mb
theorem sp_plain_more (zb ob:Nat) (kc oc:List Value) (ts:Sl) (pc po:Ptr) (t o:Caps.T) (h4:kc[4]? = some (sv ts)) (h6:kc[6]? = some (pv pc)) (o6:oc[6]? = some (pv po)) (hl:ts.len = o.length) (hb:o.length ≤ 4) :
    Sp Tryz.prog mn [pv (some (zb,0)),pv (some (ob,0))] aG [blk zb cE kc,cO pc t,blk ob cE oc,cO po o]
      (fun r=>pa_ (r = (Caps.moreE o o.length (false,t)).1) [blk zb cE kc,cO pc (Caps.moreE o o.length (false,t)).2,blk ob cE oc,cO po o]):=by
  intro h s0
  refine sim_plain_Kernel_more _ _ ?_
  unfold qu
  refine cC (bB ts s0 (i:=0) rfl rfl h4 ?_)
  refine Lp.intro (fun (z:Bool × Int) h=>∃ m:Nat,z.2 = m∧m ≤ o.length∧z.1 = (Caps.moreE o m (false,t)).1∧aQ [blk zb cE kc,cO pc (Caps.moreE o m (false,t)).2,blk ob cE oc,cO po o] h) (fun (z:Bool × Int) _=>o.length - z.2.toNat) ⟨0,rfl,Nat.zero_le _,rfl,s0⟩ ?_
  rintro ⟨b,i⟩ h ⟨m,rfl,hm,rfl,s1⟩
  unfold kW
  refine bk (fun k=>?_) (fun k=>?_)
  · have hlt:m < o.length:=by rw [hl] at k; simpa using k
    have hw:IntKind.i64.wrap ((m:Int) + 1) = ((m + 1:Nat):Int):=by rw [cm (by omega) (by omega)]; rfl
    refine Lp.intro (fun (z:Bool × Int) h=>∃ j:Nat,z.2 = j∧j ≤ 8∧z.1 = (Caps.moreS o m j (Caps.moreE o m (false,t))).1∧aQ [blk zb cE kc,cO pc (Caps.moreS o m j (Caps.moreE o m (false,t))).2,blk ob cE oc,cO po o] h) (fun (z:Bool × Int) _=>8 - z.2.toNat) ⟨0,rfl,Nat.zero_le _,rfl,s1⟩ ?_
    rintro ⟨b,i⟩ h ⟨j,rfl,hj,rfl,s2⟩
    unfold kV
    refine bk (fun k2=>?_) (fun k2=>?_)
    · have hlt2:j < 8:=by have:=of_decide_eq_true k2; simp at this; omega
      have hw2:IntKind.i64.wrap ((j:Int) + 1) = ((j + 1:Nat):Int):=by rw [cm (by omega) (by omega)]; rfl
      have es:Caps.moreS o m (j + 1) (Caps.moreE o m (false,t)) = ((Caps.moreS o m j (Caps.moreE o m (false,t))).1 || (Caps.more1 o (Caps.moreS o m j (Caps.moreE o m (false,t))).2 m j).1,(Caps.more1 o (Caps.moreS o m j (Caps.moreE o m (false,t))).2 m j).2):=rfl
      generalize hst:Caps.moreS o m j (Caps.moreE o m (false,t)) = st at *
      refine cC (bB po s2 (i:=2) rfl rfl o6 ?_)
      refine bY (jO po o m j) (i:=3) rfl s2 fun r h3 hr s3=>?_
      subst hr
      refine bB pc s3 (i:=0) rfl rfl h6 ?_
      refine bY (jO pc st.2 m j) (i:=1) rfl s3 fun r h4 hr s4=>?_
      subst hr
      rw [hw2]
      refine bk (fun k3=>?_) (fun k3=>?_)
      · have k3':(Caps.at_ o m j).2 = false∨(Caps.at_ st.2 m j).2 = true:=by simpa using k3
        have e1:Caps.more1 o st.2 m j = (false,st.2):=if_pos k3'
        refine ⟨⟨j + 1,rfl,hlt2,?_,?_⟩,by simp; omega⟩
        · rw [es,e1]; simp
        · rw [es,e1]; exact s4
      · have k3':¬ ((Caps.at_ o m j).2 = false∨(Caps.at_ st.2 m j).2 = true):=by simp at k3; simp [k3]
        refine bk (fun k4=>?_) (fun k4=>?_)
        · have e1:Caps.more1 o st.2 m j = ((Caps.root st.2 m j (Caps.at_ o m j).1.fFrame).1 == 0,(Caps.root st.2 m j (Caps.at_ o m j).1.fFrame).2):=by unfold Caps.more1; rw [if_neg k3',if_pos (by simpa using k4)]
          refine bB pc s4 (i:=0) rfl rfl h6 ?_
          refine bY (vW pc st.2 m j _) (i:=1) rfl s4 fun r h5 hr s5=>?_
          subst hr
          refine ⟨⟨j + 1,rfl,hlt2,?_,?_⟩,by simp; omega⟩
          · rw [es,e1]
          · rw [es,e1]; exact s5
        · have e1:Caps.more1 o st.2 m j = ((Caps.derive st.2 (Caps.at_ o m j).1.fEnv (Caps.at_ o m j).1.fSlot m j (Caps.at_ o m j).1.fRights).1 == 0,(Caps.derive st.2 (Caps.at_ o m j).1.fEnv (Caps.at_ o m j).1.fSlot m j (Caps.at_ o m j).1.fRights).2):=by unfold Caps.more1; rw [if_neg k3',if_neg (by simpa using k4)]
          refine bB pc s4 (i:=0) rfl rfl h6 ?_
          refine bY (su pc st.2 _ _ m j _) (i:=1) rfl s4 fun r h5 hr s5=>?_
          subst hr
          refine ⟨⟨j + 1,rfl,hlt2,?_,?_⟩,by simp; omega⟩
          · rw [es,e1]
          · rw [es,e1]; exact s5
    · have:j = 8:=by have:=of_decide_eq_false k2; simp at this; omega
      subst this
      rw [hw]
      exact ⟨⟨m + 1,rfl,hlt,rfl,s2⟩,by simp; omega⟩
  · have:m = o.length:=by rw [hl] at k; simp at k; omega
    subst this
    exact bh rfl s1
section
variable {α:Type}
def fq (xs:List α) (d:α) (n:Nat):List α:=xs.take n++List.replicate (xs.length - n) d
theorem mixd_len (xs:List α) (d:α) {n:Nat} (h:n ≤ xs.length):(fq xs d n).length = xs.length:=by simp [fq]; omega
theorem sd (xs:List α) (d:α):fq xs d 0 = List.replicate xs.length d:=by simp [fq]
theorem vo (xs:List α) (d:α):fq xs d xs.length = xs:=by simp [fq]
theorem mixd_get (xs:List α) (d:α) {n:Nat} (h:n < xs.length):(fq xs d n)[n]? = some d:=by
  unfold fq
  rw [List.getElem?_append_right (by simp; omega),List.getElem?_replicate,if_pos (by simp; omega)]
theorem qE (xs:List α) (d:α) {n:Nat} (h:n < xs.length):(fq xs d n).set n xs[n] = fq xs d (n + 1):=by
  unfold fq
  rw [List.set_append_right _ _ (by simp; omega)]
  have e1:n - (xs.take n).length = 0:=by simp; omega
  have e2:xs.length - n = (xs.length - (n + 1)) + 1:=by omega
  rw [e1,e2,List.replicate_succ,List.set_cons_zero]
  have e3:xs.take (n + 1) = xs.take n++[xs[n]]:=by simp
  rw [e3,List.append_assoc]; rfl
end
theorem put_ok {p:Pte} (h:PteFine p) (h0:p.fRights ≠ 0):(gy p).2 = true:=by
  rcases h with h | ⟨h1,h2,h3,h4,h5⟩
  · rw [h] at h0; exact absurd rfl h0
  · unfold gy
    have e1:aq.eqb p ⟨0,0,0⟩ = false:=by
      unfold aq.eqb
      have:(p.fRights == 0) = false:=by simpa using h0
      simp [this]
    have e2:(((((decide (p.fFrame < 0)) || (decide (p.fFrame ≥ 16))) || (decide (p.fSlot < 0))) || (decide (p.fSlot ≥ 8))) || (!(cM p.fRights))) = false:=by
      simp [h5]; omega
    rw [e1,e2]; rfl
theorem insert_mixd {row:List Pte} (h:pz row) {j:Nat} (hj:j < 8) (hr:row[j]?.map (·.fRights) ≠ some 0):Table.insert (fq row eD j) j (row.getD j eD) = (0,fq row eD (j + 1)):=by
  have hjl:j < row.length:=by rw [h.1]; exact hj
  have hg:row.getD j eD = row[j]:=by simp [hjl]
  rw [hg]
  have h0:row[j].fRights ≠ 0:=by
    intro e; apply hr; rw [List.getElem?_eq_getElem hjl]; simp [e]
  have hp:=put_ok (h.2 _ (List.getElem_mem hjl)) h0
  have hat:Table.at_ (fq row eD j) j = eD:=by
    unfold Table.at_
    rw [Int.toNat_natCast,List.getD_eq_getElem?_getD,mixd_get row eD hjl]; rfl
  have his:cJ j = true:=by unfold cJ; simp; omega
  unfold Table.insert
  rw [if_neg (by simp [hp,h0,his]),hat,if_neg (by simp),Int.toNat_natCast,qE row eD hjl]
theorem idx_rep (m:Nat):∀ (f:Nat) (i:Int),fW 0 (List.replicate f 1++List.replicate (m + 1) 0) i = i + f
  | 0,i=>by simp [fW,List.replicate_succ]
  | f + 1,i=>by
    rw [List.replicate_succ,List.cons_append,fW,if_neg (by decide),idx_rep m f (i + 1)]
    omega
theorem take_mixd {F f:Nat} (h:f < F):(Pool.take (fq (List.replicate F (1:Int)) 0 f)).2.2 = fq (List.replicate F (1:Int)) 0 (f + 1):=by
  have hl:f < (List.replicate F (1:Int)).length:=by simpa using h
  have e:fq (List.replicate F (1:Int)) 0 f = List.replicate f 1++List.replicate ((F - f - 1) + 1) 0:=by
    unfold fq
    rw [List.take_replicate,List.length_replicate,Nat.min_eq_left (by omega)]
    congr 2; omega
  have hi:fW 0 (fq (List.replicate F (1:Int)) 0 f) 0 = f:=by rw [e,idx_rep]; omega
  unfold Pool.take
  rw [hi,if_neg (by omega)]
  have:=qE (List.replicate F (1:Int)) 0 hl
  rw [List.getElem_replicate] at this
  simpa using this
abbrev cpL (zo z:PZ) (o k:PK):List As:=plainL zo o++plainL z k
abbrev Done (z:PZ) (k:PK) (r:Ptr):As:=aQ [bG r k,bG (some (z.b,0)) k]
theorem copy7 {zo z:PZ} {o k:PK} {h:Hp} (ok:PK.Ok k) (ho:zo.tp.length = k.tabs.length) (hz:z.tp.length = k.tabs.length) (es:o.s = k.s) (em:o.m = k.m) (et:o.tabs = k.tabs) (ep:o.pool = k.pool) (oko:Caps.Ok o.caps) (sb:Caps.Sub o.caps k.caps)
    (s0:aQ (cpL zo z o k) h):Lp (iN (Done z k) (z.b,0) (some (zo.b,0))) () h:=by
  obtain ⟨os,om,ot,op,oc⟩:=o
  simp only at es em et ep oko sb
  subst es; subst em; subst et; subst ep
  have hs:=fL.1 ok.sz
  have hts:=(cn (j:=2) s0 rfl).1
  have hcl:=ok.cl
  have htl:=ok.tl
  refine Lp.ghost (γ:=Caps.T) (fun c _ h=>Caps.Ok c∧Caps.Sub c k.caps∧aQ (cpL zo z ⟨k.s,k.m,k.tabs,k.pool,c⟩ k) h) (fun c=>Caps.miss k.caps c) ⟨oko,sb,s0⟩ ?_
  rintro c s h ⟨okc,sbc,s1⟩ R hR
  have w:=Caps.way_all (n:=k.s.fFrames) (by omega) ok.tree ok.fine okc sbc k.caps.length (Nat.le_refl _)
  unfold iN
  refine cT [0,4,4,8] (sp_plain_more zo.b z.b (pT k.s zo) (pT k.s z) zo.ts zo.pc z.pc c k.caps rfl rfl rfl (by omega) (by omega)) s1 rfl fun r h2 s2=>?_
  obtain ⟨hr,s3⟩:=bH.1 s2
  have s4:aQ (cpL zo z ⟨k.s,k.m,k.tabs,k.pool,(Caps.moreE k.caps k.caps.length (false,c)).2⟩ k) h2:=bn [0,3,3,3,3,0,0,1,1,1,1,0] s3 rfl
  refine bk (fun d=>?_) (fun d=>?_)
  · exact hR _ () h2 ⟨w.ok,w.sub,s4⟩ (w.lt (by rw [← hr,d]))
  · have hf:(Caps.moreE k.caps k.caps.length (false,c)).1 = false:=by rw [← hr,d]
    have hsame:=w.same hf
    rw [hsame] at s4
    have hc:c = k.caps:=Caps.all_there (n:=k.s.fFrames) (by omega) ok.tree ok.fine okc sbc fun e s he hs=>w.no hf e s ⟨he,hs⟩
    subst hc
    have s5:=db (z:=zo) (k:=k) (l:=plainL z k) ho ok s4
    exact bn [1] (db (z:=z) (k:=k) hz ok (bn [1,1,1,1,1,1] s5 rfl)) rfl
theorem copy5 {zo z:PZ} {o k:PK} {h:Hp} {x92:Sl} (ok:PK.Ok k) (ho:zo.tp.length = k.tabs.length) (hz:z.tp.length = k.tabs.length) (hx:x92.len = k.tabs.length) (es:o.s = k.s) (em:o.m = k.m) (et:o.tabs = List.replicate k.tabs.length (List.replicate 8 eD)) (ep:o.pool = k.pool) (oko:Caps.Ok o.caps) (sb:Caps.Sub o.caps k.caps)
    (s0:aQ (cpL zo z o k) h):Lp (iO (Done z k) (z.b,0) (some (zo.b,0)) x92) 0 h:=by
  obtain ⟨os,om,ot,op,oc⟩:=o
  simp only at es em et ep oko sb
  subst es; subst em; subst et; subst ep
  have hs:=fL.1 ok.sz
  have htl:=ok.tl
  have hzs:=(cn (j:=8) s0 rfl).1
  have hos:=(cn (j:=2) s0 rfl).1
  have e0:List.replicate k.tabs.length (List.replicate 8 eD) = fq k.tabs (List.replicate 8 eD) 0:=(sd _ _).symm
  rw [e0] at s0
  refine Lp.intro (fun (i:Int) h=>∃ e:Nat,i = e∧e ≤ k.tabs.length∧aQ (cpL zo z ⟨k.s,k.m,fq k.tabs (List.replicate 8 eD) e,k.pool,oc⟩ k) h) (fun (i:Int) _=>k.tabs.length - i.toNat) ⟨0,rfl,Nat.zero_le _,s0⟩ ?_
  rintro i h ⟨e,rfl,he,s1⟩
  unfold iO
  refine bk (fun d=>?_) (fun d=>?_)
  · have hlt:e < k.tabs.length:=by rw [hx] at d; simpa using d
    have hw:IntKind.i64.wrap ((e:Int) + 1) = ((e + 1:Nat):Int):=by rw [cm (by omega) (by omega)]; rfl
    have htab:pz k.tabs[e]:=ok.tr _ (List.getElem_mem hlt)
    have hml:=mixd_len k.tabs (List.replicate 8 eD) he
    have heo:e < zo.tp.length:=by omega
    have hez:e < z.tp.length:=by omega
    have hmg:=mixd_get k.tabs (List.replicate 8 eD) hlt
    have r0:List.replicate 8 eD = fq k.tabs[e] eD 0:=by rw [sd,htab.1]
    refine Lp.intro (fun (i:Int) h=>∃ j:Nat,i = j∧j ≤ 8∧aQ (cpL zo z ⟨k.s,k.m,(fq k.tabs (List.replicate 8 eD) e).set e (fq k.tabs[e] eD j),k.pool,oc⟩ k) h) (fun (i:Int) _=>8 - i.toNat) ⟨0,rfl,Nat.zero_le _,?_⟩ ?_
    · rw [← r0,iM hmg]; exact s1
    rintro i h ⟨j,rfl,hj,s2⟩
    unfold kX
    refine bk (fun d2=>?_) (fun d2=>?_)
    · have hlt2:j < 8:=by have:=of_decide_eq_true d2; omega
      have hjl:j < k.tabs[e].length:=by rw [htab.1]; exact hlt2
      have hw2:IntKind.i64.wrap ((j:Int) + 1) = ((j + 1:Nat):Int):=by rw [cm (by omega) (by omega)]; rfl
      have his:cJ j = true:=by unfold cJ; simp; omega
      have hat:Table.at_ k.tabs[e] j = k.tabs[e][j]:=by simp [Table.at_,hjl]
      refine bB z.ts s2 (i:=6) rfl rfl rfl ?_
      refine dF s2 (j:=8) rfl (by omega) (by omega) fun q hq=>?_
      refine eB (j:=8) (i:=e) (k:=0) z.tp[e] gf s2 rfl hq (by simp) (aL hez) (by simp) ?_
      have s3:=iw (aL hez) (aL hlt) (bn [9] s2 rfl)
      refine bY (ny z.tp[e] k.tabs[e] j) (i:=0) rfl s3 fun r h4 hr s4=>?_
      subst hr
      have s5:aQ (cpL zo z ⟨k.s,k.m,(fq k.tabs (List.replicate 8 eD) e).set e (fq k.tabs[e] eD j),k.pool,oc⟩ k) h4:=bn [1,1,1,1,1,1,1,1,1,0] (qN (aL hez) (aL hlt) hz s4) rfl
      refine bk (fun d3=>?_) (fun d3=>?_)
      · have hne:k.tabs[e][j].fRights ≠ 0:=by
          unfold Table.get at d3
          split at d3
          · rename_i hh; rw [hat] at hh; exact hh.2
          · cases d3
        have eg:(Table.get k.tabs[e] j).1 = k.tabs[e].getD j eD:=by
          unfold Table.get; rw [hat,if_pos ⟨his,hne⟩]; simp [hjl]
        have ei:=insert_mixd htab hlt2 (by rw [List.getElem?_eq_getElem hjl]; simpa using hne)
        rw [eg]
        refine cC (bB zo.ts s5 (i:=0) rfl rfl rfl ?_)
        refine dF s5 (j:=2) rfl (by omega) (by omega) fun q2 hq2=>?_
        refine eB (j:=2) (i:=e) (k:=0) zo.tp[e] gf s5 rfl hq2 (by simp) (aL heo) (by simp) ?_
        have eQ:((fq k.tabs (List.replicate 8 eD) e).set e (fq k.tabs[e] eD j))[e]? = some (fq k.tabs[e] eD j):=by rw [List.getElem?_set,if_pos rfl,if_pos (by rw [hml]; exact hlt)]
        have s6:=iw (aL heo) eQ (bn [3] s5 rfl)
        refine bY (ke zo.tp[e] _ j _) (i:=0) rfl s6 fun r h7 hr s7=>?_
        rw [ei] at s7
        have s8:=uE (aL heo) (by rw [List.length_set,hml]; exact hlt) (by rw [List.length_set,hml]; exact ho) s7
        rw [List.set_set] at s8
        rw [hw2]
        exact ⟨⟨j + 1,rfl,hlt2,bn [1,1,1] s8 rfl⟩,by simp; omega⟩
      · have hze:k.tabs[e][j] = eD:=by
          rcases htab.2 _ (List.getElem_mem hjl) with h | h
          · exact h
          · have:=may_iff.1 h.2.2.2.2
            unfold Table.get at d3
            rw [hat,if_pos ⟨his,by omega⟩] at d3; cases d3
        have hsame:fq k.tabs[e] eD j = fq k.tabs[e] eD (j + 1):=by
          rw [← qE _ _ hjl,hze,iM (mixd_get _ _ hjl)]
        rw [hsame] at s5
        rw [hw2]
        exact ⟨⟨j + 1,rfl,hlt2,s5⟩,by simp; omega⟩
    · have:j = 8:=by have:=of_decide_eq_false d2; omega
      subst this
      have er:fq k.tabs[e] eD 8 = k.tabs[e]:=by have:=vo k.tabs[e] eD; rw [htab.1] at this; exact this
      rw [er,qE _ _ hlt] at s2
      rw [hw]
      exact ⟨⟨e + 1,rfl,hlt,s2⟩,by simp; omega⟩
  · have:e = k.tabs.length:=by rw [hx] at d; simp at d; omega
    subst this
    rw [vo] at s1
    exact copy7 (o:=⟨k.s,k.m,k.tabs,k.pool,oc⟩) ok ho hz rfl rfl rfl rfl oko sb s1
theorem refs_nat {p:List Int} {f:Nat} (h:f < p.length):Pool.refs p f = p[f]:=by
  unfold Pool.refs; rw [if_neg (by omega)]; simp [h]
theorem copy3 {zo z:PZ} {o k:PK} {h:Hp} (ok:PK.Ok k) (ho:zo.tp.length = k.tabs.length) (hz:z.tp.length = k.tabs.length) (es:o.s = k.s) (em:o.m = k.m) (et:o.tabs = List.replicate k.tabs.length (List.replicate 8 eD)) (ep:o.pool = List.replicate k.pool.length 1) (oko:Caps.Ok o.caps) (sb:Caps.Sub o.caps k.caps)
    (s0:aQ (cpL zo z o k) h):Lp (iP (Done z k) (z.b,0) (some (zo.b,0)) k.s.fFrames) 0 h:=by
  obtain ⟨os,om,ot,op,oc⟩:=o
  simp only at es em et ep oko sb
  subst es; subst em; subst et; subst ep
  have hs:=fL.1 ok.sz
  have hpl:=ok.pl
  rw [← sd k.pool 1] at s0
  refine Lp.intro (fun (i:Int) h=>∃ f:Nat,i = f∧f ≤ k.pool.length∧aQ (cpL zo z ⟨k.s,k.m,List.replicate k.tabs.length (List.replicate 8 eD),fq k.pool 1 f,oc⟩ k) h) (fun (i:Int) _=>k.pool.length - i.toNat) ⟨0,rfl,Nat.zero_le _,s0⟩ ?_
  rintro i h ⟨f,rfl,hf,s1⟩
  unfold iP
  refine bk (fun d=>?_) (fun d=>?_)
  · have hlt:f < k.pool.length:=by have:=of_decide_eq_true d; omega
    have hw:IntKind.i64.wrap ((f:Int) + 1) = ((f + 1:Nat):Int):=by rw [cm (by omega) (by omega)]; rfl
    have hml:=mixd_len k.pool 1 hf
    have hmg:=mixd_get k.pool 1 hlt
    have hr7:=ok.pr _ (List.getElem_mem hlt)
    refine bB z.pp s1 (i:=6) rfl rfl rfl ?_
    refine bY (vS z.pp k.pool f) (i:=10) rfl s1 fun r h2 hr s2=>?_
    rw [refs_nat hlt] at hr
    subst hr
    have hw0:IntKind.i64.wrap (k.pool[f] - 1) = k.pool[f] - 1:=cm (by omega) (by omega)
    refine Lp.intro (fun (i:Int) h=>∃ j:Nat,i = j∧(j:Int) ≤ max 0 (k.pool[f] - 1)∧aQ (cpL zo z ⟨k.s,k.m,List.replicate k.tabs.length (List.replicate 8 eD),(fq k.pool 1 f).set f (1 + (j:Int)),oc⟩ k) h) (fun (i:Int) _=>(8 - i).toNat) ⟨0,rfl,by omega,?_⟩ ?_
    · have:(fq k.pool 1 f).set f (1 + ((0:Nat):Int)) = fq k.pool 1 f:=by
        rw [show (1:Int) + ((0:Nat):Int) = 1 from rfl,iM hmg]
      rw [this]; exact s2
    rintro i h ⟨j,rfl,hj,s3⟩
    have eQ:f < ((fq k.pool 1 f).set f (1 + (j:Int))).length:=by rw [List.length_set,hml]; exact hlt
    have hgs:((fq k.pool 1 f).set f (1 + (j:Int)))[f] = 1 + (j:Int):=by simp
    unfold kY
    rw [hw0]
    refine bk (fun d2=>?_) (fun d2=>?_)
    · have hlt2:(j:Int) < k.pool[f] - 1:=of_decide_eq_true d2
      have hw2:IntKind.i64.wrap ((j:Int) + 1) = ((j + 1:Nat):Int):=by rw [cm (by omega) (by omega)]; rfl
      refine cC (bB zo.pp s3 (i:=0) rfl rfl rfl ?_)
      refine bY (sp_pool_Hold zo.pp _ f) (i:=4) rfl s3 fun r h4 hr s4=>?_
      have eh:(Pool.hold ((fq k.pool 1 f).set f (1 + (j:Int))) f).2 = (fq k.pool 1 f).set f (1 + ((j + 1:Nat):Int)):=by
        unfold Pool.hold
        rw [refs_nat eQ,hgs,if_neg (by omega),Int.toNat_natCast,List.set_set,cm (by omega) (by omega)]
        congr 1 <;> omega
      rw [eh] at s4
      rw [hw2]
      exact ⟨⟨j + 1,rfl,by omega,s4⟩,by omega⟩
    · have hge:¬ (j:Int) < k.pool[f] - 1:=of_decide_eq_false d2
      rw [hw]
      refine bk (fun d3=>?_) (fun d3=>?_)
      · have h0:k.pool[f] = 0:=by simpa using d3
        have hj0:j = 0:=by omega
        subst hj0
        refine cC (bB zo.pp s3 (i:=0) rfl rfl rfl ?_)
        refine bY (sp_pool_Let zo.pp _ f) (i:=4) rfl s3 fun r h4 hr s4=>?_
        have eh:(Pool.lets ((fq k.pool 1 f).set f (1 + ((0:Nat):Int))) f).2.2 = fq k.pool 1 (f + 1):=by
          unfold Pool.lets
          rw [refs_nat eQ,hgs,if_neg (by omega),Int.toNat_natCast,List.set_set,cm (by omega) (by omega),← qE _ _ hlt,h0]
          rfl
        rw [eh] at s4
        exact ⟨⟨f + 1,rfl,hlt,s4⟩,by simp; omega⟩
      · have h0:k.pool[f] ≠ 0:=by simpa using d3
        have ej:1 + (j:Int) = k.pool[f]:=by omega
        rw [ej,qE _ _ hlt] at s3
        exact ⟨⟨f + 1,rfl,hlt,s3⟩,by simp; omega⟩
  · have:f = k.pool.length:=by have:=of_decide_eq_false d; omega
    subst this
    rw [vo] at s1
    have hzs:=(cn (j:=8) s1 rfl).1
    refine bB z.ts s1 (i:=6) rfl rfl rfl ?_
    exact copy5 (o:=⟨k.s,k.m,List.replicate k.tabs.length (List.replicate 8 eD),k.pool,oc⟩) ok ho hz (by omega) rfl rfl rfl rfl oko sb s1
theorem frame_nat {m:List (List Int)} {f:Nat} (h:f < m.length):Mem.frame m f = m[f]:=by
  have hh:Mem.has m f 0:=⟨by omega,by omega,by omega,by omega⟩
  unfold Mem.frame
  rw [if_pos hh]
  simp [h]
theorem copy1 {zo z:PZ} {o k:PK} {h:Hp} (ok:PK.Ok k) (ho:zo.tp.length = k.tabs.length) (hz:z.tp.length = k.tabs.length) (es:o.s = k.s) (em:o.m = List.replicate k.m.length (List.replicate 16 0)) (et:o.tabs = List.replicate k.tabs.length (List.replicate 8 eD)) (ep:o.pool = List.replicate k.pool.length 0) (oko:Caps.Ok o.caps) (sb:Caps.Sub o.caps k.caps)
    (s0:aQ (cpL zo z o k) h):Lp (iQ (Done z k) (z.b,0) (some (zo.b,0)) k.s.fFrames) 0 h:=by
  obtain ⟨os,om,ot,op,oc⟩:=o
  simp only at es em et ep oko sb
  subst es; subst em; subst et; subst ep
  have hs:=fL.1 ok.sz
  have hpl:=ok.pl
  have hml:=ok.ml
  have hpm:k.pool.length = k.m.length:=by omega
  rw [← sd k.m] at s0
  have ep0:List.replicate k.pool.length (0:Int) = fq (List.replicate k.pool.length (1:Int)) 0 0:=by rw [sd]; simp
  rw [ep0] at s0
  refine Lp.intro (fun (i:Int) h=>∃ f:Nat,i = f∧f ≤ k.m.length∧aQ (cpL zo z ⟨k.s,fq k.m (List.replicate 16 0) f,List.replicate k.tabs.length (List.replicate 8 eD),fq (List.replicate k.pool.length (1:Int)) 0 f,oc⟩ k) h) (fun (i:Int) _=>k.m.length - i.toNat) ⟨0,rfl,Nat.zero_le _,s0⟩ ?_
  rintro i h ⟨f,rfl,hf,s1⟩
  unfold iQ
  refine bk (fun d=>?_) (fun d=>?_)
  · have hlt:f < k.m.length:=by have:=of_decide_eq_true d; omega
    have hw:IntKind.i64.wrap ((f:Int) + 1) = ((f + 1:Nat):Int):=by rw [cm (by omega) (by omega)]; rfl
    have hrow:=ok.mr _ (List.getElem_mem hlt)
    have hmx:=mixd_len k.m (List.replicate 16 (0:Int)) hf
    have hmg:=mixd_get k.m (List.replicate 16 (0:Int)) hlt
    refine bB z.pm s1 (i:=6) rfl rfl rfl ?_
    refine tj (sp_mem_Frame z.pm k.m f) (i:=7) rfl s1 fun r33 h2 s2=>?_
    rw [frame_nat hlt] at s2
    have hrl:=(cn (j:=0) s2 rfl).1
    have r0:List.replicate 16 (0:Int) = fq k.m[f] 0 0:=by rw [sd,hrow]
    refine Lp.intro (fun (i:Int) h=>∃ j:Nat,i = j∧j ≤ 16∧aQ (vU r33 k.m[f]::cpL zo z ⟨k.s,(fq k.m (List.replicate 16 0) f).set f (fq k.m[f] 0 j),List.replicate k.tabs.length (List.replicate 8 eD),fq (List.replicate k.pool.length (1:Int)) 0 f,oc⟩ k) h) (fun (i:Int) _=>16 - i.toNat) ⟨0,rfl,Nat.zero_le _,?_⟩ ?_
    · rw [← r0,iM hmg]; exact s2
    rintro i h ⟨j,rfl,hj,s3⟩
    unfold kZ
    refine bk (fun d2=>?_) (fun d2=>?_)
    · have hlt2:j < 16:=by rw [hrl,hrow] at d2; have:=of_decide_eq_true d2; omega
      have hjl:j < k.m[f].length:=by omega
      have hw2:IntKind.i64.wrap ((j:Int) + 1) = ((j + 1:Nat):Int):=by rw [cm (by omega) (by omega)]; rfl
      refine dF s3 (j:=0) rfl (by omega) (by omega) fun q hq=>?_
      refine eB (j:=0) (i:=j) (k:=0) k.m[f][j] (dl _) s3 rfl hq (by simp) (aL hjl) (by simp) ?_
      refine cC (bB zo.pm s3 (i:=1) rfl rfl rfl ?_)
      refine bY (lE zo.pm _ f j k.m[f][j]) (i:=2) rfl s3 fun r h4 hr s4=>?_
      have es:(Mem.store ((fq k.m (List.replicate 16 0) f).set f (fq k.m[f] 0 j)) f j k.m[f][j]).2 = (fq k.m (List.replicate 16 0) f).set f (fq k.m[f] 0 (j + 1)):=by
        have hh:Mem.has ((fq k.m (List.replicate 16 0) f).set f (fq k.m[f] 0 j)) f j:=⟨by omega,by simp only [List.length_set,hmx]; omega,by omega,by omega⟩
        unfold Mem.store
        rw [if_pos hh]
        unfold Mem.put
        simp only [Int.toNat_natCast]
        have hg:((fq k.m (List.replicate 16 0) f).set f (fq k.m[f] 0 j)).getD f [] = fq k.m[f] 0 j:=by rw [List.getD_eq_getElem?_getD,List.getElem?_set,if_pos rfl,if_pos (by rw [hmx]; exact hlt)]; rfl
        rw [hg,List.set_set,qE _ _ hjl]
      rw [es] at s4
      rw [hw2]
      exact ⟨⟨j + 1,rfl,hlt2,s4⟩,by simp; omega⟩
    · have:j = 16:=by rw [hrl,hrow] at d2; have:=of_decide_eq_false d2; omega
      subst this
      have er:fq k.m[f] 0 16 = k.m[f]:=by have:=vo k.m[f] (0:Int); rw [hrow] at this; exact this
      rw [er,qE _ _ hlt] at s3
      refine cC (bB zo.pp s3 (i:=1) rfl rfl rfl ?_)
      refine bY (vR zo.pp _) (i:=5) rfl s3 fun r h4 hr s4=>?_
      rw [take_mixd (by omega)] at s4
      rw [hw]
      exact ⟨⟨f + 1,rfl,hlt,cj (l:=[vU r33 k.m[f]]) s4⟩,by simp; omega⟩
  · have:f = k.m.length:=by have:=of_decide_eq_false d; omega
    subst this
    have ea:fq (List.replicate k.pool.length (1:Int)) 0 k.m.length = List.replicate k.pool.length 1:=by
      have:=vo (List.replicate k.pool.length (1:Int)) 0
      rw [List.length_replicate,hpm] at this
      rw [hpm]; exact this
    rw [vo,ea] at s1
    refine bB k.s.fFrames s1 (i:=6) rfl rfl rfl ?_
    exact copy3 (o:=⟨k.s,k.m,List.replicate k.tabs.length (List.replicate 8 eD),List.replicate k.pool.length 1,oc⟩) ok ho hz rfl rfl rfl rfl oko sb s1
theorem three {s:gj} {z:PZ}:∀ (i:Nat) (v:Value),(aM.C s)[i]? = some v→(pT s z)[0 + 0 + i]? = some v:=by
  intro j v hv
  have:j < 3:=(List.getElem?_eq_some_iff.1 hv).1
  match j,this with
  | 0,_=>exact hv
  | 1,_=>exact hv
  | 2,_=>exact hv
theorem uq (x:Ptr) (k:PK):Sp Tryz.prog gF [pv x] dB [bG x k] (fun r=>aQ [bG r k,bG x k]):=by
  intro h s0
  obtain ⟨z,rfl,h1,ok,hl,st⟩:=fJ s0
  have hs:=fL.1 ok.sz
  refine sim_plain_Kernel_Copy _ ?_
  unfold qx
  refine dv rfl (cC ?_)
  refine ld_s (i:=0) k.s st rfl (fun i v hv=>by simpa using three i v hv) ?_
  refine ma (rF k.s ok.sz) st fun r h2 s2=>?_
  obtain ⟨zo,rfl,ho,okn,hlo,s3⟩:=fJ s2
  refine bB k.s.fFrames s3 (i:=6) rfl rfl rfl ?_
  have e1:k.s.fFrames.toNat = k.m.length:=by have:=ok.ml; omega
  have e2:k.s.fEnvs.toNat = k.tabs.length:=by have:=ok.tl; omega
  have e3:k.s.fFrames.toNat = k.pool.length:=by have:=ok.pl; omega
  have e4:k.s.fEnvs.toNat = k.caps.length:=by have:=ok.cl; omega
  refine copy1 (o:=PK.new k.s) ok ?_ h1 rfl (by simp only [PK.new,e1]) (by simp only [PK.new,e2]) (by simp only [PK.new,e3]) okn.tree ⟨by simp only [PK.new,List.length_replicate,e4],fun e s hh=>.inl ?_⟩ s3
  · rw [ho]; simp only [PK.new,List.length_replicate,e2]
  · obtain ⟨a,b,rfl,rfl,ha,hb⟩:=Caps.has_nat hh
    simp only [Caps.get,PK.new,e4,Int.toNat_natCast,List.getD_eq_getElem?_getD,List.getElem?_replicate,if_pos ha,Option.getD_some,if_pos hb]
end Go.Proofs.YtniiiakkdoiaiaaGreatDoor
namespace Go.Proofs.YtniiiakkdoiaiaaGreatDoor
open Go Mb
set_option linter.unusedVariables false
def oh (K:Bool→Hp→Prop):Hp→Prop:=cl Tryz.prog lf [(.agg (aM.C (⟨1,2,2⟩:aM)).toArray)] dB fun r23=>cl Tryz.prog wF [(.int .i64 2)] rX fun r24=>cl Tryz.prog nE [(.int .i64 3)] iI fun r25=>cl Tryz.prog iE [] gC fun r26=>cl Tryz.prog lb [] ip fun r27=>cl Tryz.prog vm [(.int .i64 2)] tu fun r28=>br (((((r23.isNone || r24.isNone) || r25.isNone) || r26.isNone) || r27.isNone) || r28.isNone) ( K false) ( cl Tryz.prog dG [(pv r23),(.int .i64 0),(.agg (ao.C (⟨1,1,0,0,0⟩:ao)).toArray)] bA fun r54=>cl Tryz.prog dG [(pv r23),(.int .i64 0),(.agg (ao.C (⟨6,2,1,3,0⟩:ao)).toArray)] bA fun r60=>cl Tryz.prog dG [(pv r23),(.int .i64 0),(.agg (ao.C (⟨21,2,5,77,0⟩:ao)).toArray)] bA fun r65=>cl Tryz.prog dG [(pv r23),(.int .i64 0),(.agg (ao.C (⟨20,2,5,0,0⟩:ao)).toArray)] bA fun r69=>cl Tryz.prog jw [(pv r24),(.int .i64 0),(.int .i64 1),(.int .i64 1)] bw fun r73=>cl Tryz.prog ig [(pv r24),(.int .i64 0),(.int .i64 1),(.int .i64 1),(.int .i64 3),(.int .i64 1)] bw fun r75=>cl Tryz.prog iV [(pv r25),(.int .i64 0)] bV fun r78=>cl Tryz.prog jW [(pv r25),(.int .i64 1),(.int .u64 r78.1)] aG fun r83=>cl Tryz.prog ef [(pv r27),(.int .i64 2),(.agg (aq.C (⟨1,1,1⟩:aq)).toArray)] bw fun r86=>cl Tryz.prog n_user_Do [(pv r26),(pv r27),(pv r28),(.int .i64 0),(.agg (ao.C (⟨20,2,3,0,0⟩:ao)).toArray)] eK fun r92=>cl Tryz.prog ne [(pv r23),(.int .i64 0),(.agg (ao.C (⟨7,5,0,0,0⟩:ao)).toArray)] iy fun r97=>cl Tryz.prog lj [] aG fun r98=>br ((((((r98 && r54.2) && (r54.1.fErr == 0)) && (r60.1.fErr == 0)) && (r69.1.fVal == 77)) && (r73 == 0)) && (r75 == 0)) ( cl Tryz.prog kQ [(pv r24),(.int .i64 0),(.int .i64 1)] cY fun r127=>br (((((r127.len:Int) == 1) && (r78.1 == 1)) && r78.2) && r83) ( cl Tryz.prog jn [(pv r25),(.int .u64 1)] aG fun r143=>br (!r143) ( cl Tryz.prog iU [(pv r25),(.int .u64 1)] cG fun r148=>br ((((((r148.len:Int) == 1) && (r86 == 0)) && (r92.1.fErr == 0)) && (r92.2.fFrame == 1)) && (mH 3 3 4)) ( cl Tryz.prog kq [(.int .i64 3)] iy fun r171=>cl Tryz.prog nD [r97,r171] aG fun r172=>br r172 ( cl Tryz.prog mq [(pv r23)] cG fun r176=>K ((r176.len:Int) == 1)) ( K false)) ( K false)) ( K false)) ( K false)) ( K false))
set_option maxRecDepth 20000 in
theorem uN {K:Bool→Hp→Prop} {h:Hp} (H:oh K h):Ct Tryz.prog kB #[] h fun v h'=>∃ r,v = aG r∧K r h':=aC [] Tryz.func87 rfl rfl rfl fun _=>ag<|ab<|aa (ae rfl) rfl<|ad<|ag<|ab<|aa (bo rfl (build_35_0_1_2 1 2 2)) rfl<|aj (aA H en_60 rfl rfl fun r23 _ H1=>aj (aA H1 en_92 rfl rfl fun r24 _ H2=>aj (aA H2 en_62 rfl rfl fun r25 _ H3=>aa (ae rfl) rfl<|aa (ae rfl) rfl<|aa (ae rfl) rfl<|ad<|ag<|ab<|aj (aA H3 en_63 rfl rfl fun r26 _ H4=>aj (aA H4 en_93 rfl rfl fun r27 _ H5=>aj (aA H5 en_90 rfl rfl fun r28 _ H6=>aa (ae rfl) rfl<|aa (ae rfl) rfl<|aa (ae rfl) rfl<|ad<|ag<|ag<|ab<|aa (ac rfl) rfl<|aa (ct Tryz.underlying93 rfl) rfl<|aa (ac rfl) rfl<|ai rfl rfl rfl (aS _) (fun g7=>wv (ac rfl)) rfl<|ai rfl rfl rfl (aS _) (fun g8=>wv (ct Tryz.underlying128 (aK rfl g8))) rfl<|aa (du rfl rfl) rfl<|aa (ac rfl) rfl<|ai rfl rfl rfl (aS _) (fun g9=>wv (ac rfl)) rfl<|ai rfl rfl rfl (aS _) (fun g10=>wv (ct Tryz.underlying97 (aK rfl g10))) rfl<|aa (du rfl rfl) rfl<|aa (ac rfl) rfl<|ai rfl rfl rfl (aS _) (fun g11=>wv (ac rfl)) rfl<|ai rfl rfl rfl (aS _) (fun g12=>wv (ct Tryz.underlying103 (aK rfl g12))) rfl<|aa (du rfl rfl) rfl<|aa (ac rfl) rfl<|ai rfl rfl rfl (aS _) (fun g13=>wv (ac rfl)) rfl<|ai rfl rfl rfl (aS _) (fun g14=>wv (ct Tryz.underlying133 (aK rfl g14))) rfl<|aa (du rfl rfl) rfl<|aa (ac rfl) rfl<|ai rfl rfl rfl (aS _) (fun g15=>wv (ac rfl)) rfl<|ai rfl rfl rfl (aS _) (fun g16=>wv (ct Tryz.underlying124 (aK rfl g16))) rfl<|aa (du rfl rfl) rfl<|ad<|aD rfl H6 (fun k17 H18=>ag<|ab<|aa (ae rfl) rfl<|ad<|an<|av (az rfl (aE rfl)) ⟨false,rfl,H18⟩) (fun k17 H18=>au<|ag<|ab<|aa (ac rfl) rfl<|aa (bo rfl (mb 1 1)) rfl<|aj (aA H18 en_73 rfl rfl fun r54 _ H19=>aa (ac rfl) rfl<|aa (ap rfl rfl) rfl<|aa (ap rfl rfl) rfl<|aj (bb (l:=(ak.C (⟨0,0⟩:ak))) di rfl rfl fun b7=>aj (bc (k:=0) (vs:=(ak.C r54.1)) cd rfl rfl rfl rfl rfl rfl rfl<|aa (ae rfl) rfl<|ad<|ag<|ab<|aa (ac rfl) rfl<|aa (bo rfl (jE 6 2 1 3)) rfl<|aj (aA H19 en_73 rfl rfl fun r60 _ H20=>aa (ac rfl) rfl<|aa (ap rfl rfl) rfl<|aa (ap rfl rfl) rfl<|aj (bb (l:=(ak.C (⟨0,0⟩:ak))) di rfl rfl fun b9=>aj (bc (k:=0) (vs:=(ak.C r60.1)) cd rfl rfl rfl rfl rfl rfl rfl<|aa (ae rfl) rfl<|ad<|ag<|ab<|aa (ac rfl) rfl<|aa (bo rfl (jE 21 2 5 77)) rfl<|aj (aA H20 en_73 rfl rfl fun r65 _ H21=>ad<|ag<|ab<|aa (ac rfl) rfl<|aa (bo rfl (tm 20 2 5)) rfl<|aj (aA H21 en_73 rfl rfl fun r69 _ H22=>aa (ac rfl) rfl<|aa (ap rfl rfl) rfl<|aa (ap rfl rfl) rfl<|aj (bb (l:=(ak.C (⟨0,0⟩:ak))) di rfl rfl fun b11=>aj (bc (k:=0) (vs:=(ak.C r69.1)) cd rfl rfl rfl rfl rfl rfl rfl<|aa (ae rfl) rfl<|ad<|ag<|ab<|aa (ac rfl) rfl<|aj (aA H22 en_126 rfl rfl fun r73 _ H23=>aa (ac rfl) rfl<|aj (aA H23 en_127 rfl rfl fun r75 _ H24=>aa (ae rfl) rfl<|aa (ae rfl) rfl<|ad<|ag<|ab<|aa (ac rfl) rfl<|aj (aA H24 en_70 rfl rfl fun r78 _ H25=>aa (ac rfl) rfl<|aa (ap rfl rfl) rfl<|aa (ap rfl rfl) rfl<|aa (ae rfl) rfl<|aa (ae rfl) rfl<|ad<|ag<|ab<|aa (ac rfl) rfl<|aa (ac rfl) rfl<|aj (aA H25 en_76 rfl rfl fun r83 _ H26=>aa (ae rfl) rfl<|ad<|ag<|ab<|aa (ac rfl) rfl<|aa (bo rfl (oO 1 1 1)) rfl<|aj (aA H26 en_97 rfl rfl fun r86 _ H27=>aa (ae rfl) rfl<|ad<|ag<|ab<|aa (ac rfl) rfl<|aa (ac rfl) rfl<|aa (ac rfl) rfl<|aa (bo rfl (tm 20 2 3)) rfl<|aj (aA H27 en_128 rfl rfl fun r92 _ H28=>aa (ac rfl) rfl<|aa (ap rfl rfl) rfl<|aa (ap rfl rfl) rfl<|aj (bb (l:=(ak.C (⟨0,0⟩:ak))) di rfl rfl fun b19=>aj (bb (l:=(ar.C (⟨0,0,0,0⟩:ar))) kI rfl rfl fun b20=>aj (bc (k:=1) (vs:=(ak.C r92.1)) cd rfl rfl rfl rfl rfl rfl rfl<|aj (bc (k:=0) (vs:=(ar.C r92.2)) fx rfl rfl rfl rfl rfl rfl rfl<|ad<|ag<|ab<|aa (ac rfl) rfl<|aa (bo rfl (mb 7 5)) rfl<|aj (aA H28 en_129 rfl rfl fun r97 _ H29=>aa (ae rfl) rfl<|ad<|ag<|ab<|aj (aA H29 en_130 rfl rfl fun r98 _ H30=>aa (ac rfl) rfl<|ai rfl rfl rfl (aB _) (fun g31=>wv (ac rfl)) rfl<|aa (bX rfl rfl) rfl<|aa (ac rfl) rfl<|ai rfl rfl rfl (aB _) (fun g32=>wv (am kj rfl)) rfl<|ai rfl rfl rfl (aB _) (fun g33=>cv (bq (k:=4) oq (aK rfl g33) rfl rfl)) rfl<|ai rfl rfl rfl (aB _) (fun g34=>wv (cc (aK rfl g34) rfl)) rfl<|aa (bX rfl rfl) rfl<|aa (ac rfl) rfl<|ai rfl rfl rfl (aB _) (fun g35=>wv (am kj rfl)) rfl<|ai rfl rfl rfl (aB _) (fun g36=>cv (bq (k:=3) oq (aK rfl g36) rfl rfl)) rfl<|ai rfl rfl rfl (aB _) (fun g37=>wv (cc (aK rfl g37) rfl)) rfl<|aa (bX rfl rfl) rfl<|aa (ac rfl) rfl<|ai rfl rfl rfl (aB _) (fun g38=>wv (am fld_47_1 rfl)) rfl<|ai rfl rfl rfl (aB _) (fun g39=>cv (bq (k:=2) cD (aK rfl g39) rfl rfl)) rfl<|ai rfl rfl rfl (aB _) (fun g40=>wv (cc (aK rfl g40) rfl)) rfl<|aa (bX rfl rfl) rfl<|aa (ac rfl) rfl<|ai rfl rfl rfl (aB _) (fun g41=>wv (ac rfl)) rfl<|ai rfl rfl rfl (aB _) (fun g42=>wv (cc (aK rfl g42) rfl)) rfl<|aa (bX rfl rfl) rfl<|aa (ac rfl) rfl<|ai rfl rfl rfl (aB _) (fun g43=>wv (ac rfl)) rfl<|ai rfl rfl rfl (aB _) (fun g44=>wv (cc (aK rfl g44) rfl)) rfl<|aa (bX rfl rfl) rfl<|aa (ac rfl) rfl<|ai rfl rfl rfl (aB _) (fun g45=>wv (ac rfl)) rfl<|bW H30 (fun k47 H48=>aI rfl rfl rfl (congrArg Value.bool k47) (aA H48 en_131 (aY (aK rfl k47) (aY rfl (aY rfl bU))) rfl fun r127 _ H49=>aI rfl rfl rfl (congrArg Value.bool k47) (aN (wv (dH rfl Tryz.underlying173 rfl)) rfl<|aI rfl rfl rfl (congrArg Value.bool k47) (aN (wv (cc rfl rfl)) rfl<|aa (aT rfl k47 rfl) rfl<|aa (ac rfl) rfl<|ai rfl rfl rfl (aB _) (fun g50=>wv (ac rfl)) rfl<|ai rfl rfl rfl (aB _) (fun g51=>wv (cc (aK rfl g51) rfl)) rfl<|aa (bX rfl rfl) rfl<|aa (ac rfl) rfl<|ai rfl rfl rfl (aB _) (fun g52=>wv (ac rfl)) rfl<|aa (bX rfl rfl) rfl<|aa (ac rfl) rfl<|ai rfl rfl rfl (aB _) (fun g53=>wv (ac rfl)) rfl<|aa (bX rfl rfl) rfl<|aa (ac rfl) rfl<|ai rfl rfl rfl (aB _) (fun g54=>wv (ac rfl)) rfl<|bW H49 (fun k56 H57=>aI rfl rfl rfl (congrArg Value.bool k56) (aA H57 en_72 (aY (aK rfl k56) (aY rfl bU)) rfl fun r143 _ H58=>aI rfl rfl rfl (congrArg Value.bool k56) (aN (wv (cw rfl)) rfl<|aa (aT rfl k56 rfl) rfl<|aa (ac rfl) rfl<|ai rfl rfl rfl (aB _) (fun g59=>wv (ac rfl)) rfl<|bW H58 (fun k61 H62=>aI rfl rfl rfl (congrArg Value.bool k61) (aA H62 en_106 (aY (aK rfl k61) (aY rfl bU)) rfl fun r148 _ H63=>aI rfl rfl rfl (congrArg Value.bool k61) (aN (wv (dH rfl Tryz.underlying41 rfl)) rfl<|aI rfl rfl rfl (congrArg Value.bool k61) (aN (wv (cc rfl rfl)) rfl<|aa (aT rfl k61 rfl) rfl<|aa (ac rfl) rfl<|ai rfl rfl rfl (aB _) (fun g64=>wv (ac rfl)) rfl<|ai rfl rfl rfl (aB _) (fun g65=>wv (cc (aK rfl g65) rfl)) rfl<|aa (bX rfl rfl) rfl<|aa (ac rfl) rfl<|ai rfl rfl rfl (aB _) (fun g66=>wv (am kj rfl)) rfl<|ai rfl rfl rfl (aB _) (fun g67=>cv (bq (k:=1) oq (aK rfl g67) rfl rfl)) rfl<|ai rfl rfl rfl (aB _) (fun g68=>wv (cc (aK rfl g68) rfl)) rfl<|aa (bX rfl rfl) rfl<|aa (ac rfl) rfl<|ai rfl rfl rfl (aB _) (fun g69=>wv (am lx rfl)) rfl<|ai rfl rfl rfl (aB _) (fun g70=>cv (bq (k:=0) bj (aK rfl g70) rfl rfl)) rfl<|ai rfl rfl rfl (aB _) (fun g71=>wv (cc (aK rfl g71) rfl)) rfl<|aa (bX rfl rfl) rfl<|aa (ac rfl) rfl<|de (vs:=[(.int .i64 3),(.int .u64 3),(.int .u64 4)]) rfl rfl rfl (aB _) (fun g72=>(bI (uC 3 3 4 _))) en_132 (fun g72=>rfl) rfl<|aa (bX rfl rfl) rfl<|aa (ac rfl) rfl<|ai rfl rfl rfl (aB _) (fun g73=>wv (ac rfl)) rfl<|bW H63 (fun k75 H76=>aI rfl rfl rfl (congrArg Value.bool k75) (aA H76 wX rfl rfl fun r171 _ H77=>aI rfl rfl rfl (congrArg Value.bool k75) (aA H77 en_133 (aY (aK rfl k75) (aY rfl bU)) rfl fun r172 _ H78=>aa (aT rfl k75 rfl) rfl<|aa (ac rfl) rfl<|ai rfl rfl rfl (aB _) (fun g79=>wv (ac rfl)) rfl<|bW H78 (fun k81 H82=>aI rfl rfl rfl (congrArg Value.bool k81) (aA H82 en_85 (aY (aK rfl k81) bU) rfl fun r176 _ H83=>aI rfl rfl rfl (congrArg Value.bool k81) (aN (wv (dH rfl Tryz.underlying41 rfl)) rfl<|aI rfl rfl rfl (congrArg Value.bool k81) (aN (wv (cc rfl rfl)) rfl<|aa (aT rfl k81 rfl) rfl<|aa (ae rfl) rfl<|ad<|an<|av (az rfl (aE rfl)) ⟨((r176.len:Int) == 1),rfl,H83⟩)))) (fun k81 H82=>al rfl rfl rfl (aZ k81) rfl<|al rfl rfl rfl (aZ k81) rfl<|al rfl rfl rfl (aZ k81) rfl<|aa (ax rfl k81 rfl) rfl<|aa (ae rfl) rfl<|ad<|an<|av (az rfl (aE rfl)) ⟨false,rfl,H82⟩)))) (fun k75 H76=>al rfl rfl rfl (aZ k75) rfl<|al rfl rfl rfl (aZ k75) rfl<|aa (ax rfl k75 rfl) rfl<|aa (ac rfl) rfl<|al rfl rfl rfl rfl rfl<|al rfl rfl rfl rfl rfl<|al rfl rfl rfl rfl rfl<|al rfl rfl rfl rfl rfl<|aa (ax rfl rfl rfl) rfl<|aa (ae rfl) rfl<|ad<|an<|av (az rfl (aE rfl)) ⟨false,rfl,H76⟩))))) (fun k61 H62=>al rfl rfl rfl (aZ k61) rfl<|al rfl rfl rfl (aZ k61) rfl<|al rfl rfl rfl (aZ k61) rfl<|aa (ax rfl k61 rfl) rfl<|aa (ac rfl) rfl<|al rfl rfl rfl rfl rfl<|al rfl rfl rfl rfl rfl<|aa (ax rfl rfl rfl) rfl<|aa (ac rfl) rfl<|al rfl rfl rfl rfl rfl<|al rfl rfl rfl rfl rfl<|al rfl rfl rfl rfl rfl<|aa (ax rfl rfl rfl) rfl<|aa (ac rfl) rfl<|al rfl rfl rfl rfl rfl<|al rfl rfl rfl rfl rfl<|al rfl rfl rfl rfl rfl<|aa (ax rfl rfl rfl) rfl<|aa (ac rfl) rfl<|al rfl rfl rfl rfl rfl<|aa (ax rfl rfl rfl) rfl<|aa (ac rfl) rfl<|al rfl rfl rfl rfl rfl<|al rfl rfl rfl rfl rfl<|al rfl rfl rfl rfl rfl<|aa (ax rfl rfl rfl) rfl<|aa (ac rfl) rfl<|al rfl rfl rfl rfl rfl<|al rfl rfl rfl rfl rfl<|al rfl rfl rfl rfl rfl<|al rfl rfl rfl rfl rfl<|aa (ax rfl rfl rfl) rfl<|aa (ae rfl) rfl<|ad<|an<|av (az rfl (aE rfl)) ⟨false,rfl,H62⟩)))) (fun k56 H57=>al rfl rfl rfl (aZ k56) rfl<|al rfl rfl rfl (aZ k56) rfl<|aa (ax rfl k56 rfl) rfl<|aa (ac rfl) rfl<|al rfl rfl rfl rfl rfl<|al rfl rfl rfl rfl rfl<|al rfl rfl rfl rfl rfl<|al rfl rfl rfl rfl rfl<|aa (ax rfl rfl rfl) rfl<|aa (ac rfl) rfl<|al rfl rfl rfl rfl rfl<|al rfl rfl rfl rfl rfl<|aa (ax rfl rfl rfl) rfl<|aa (ac rfl) rfl<|al rfl rfl rfl rfl rfl<|al rfl rfl rfl rfl rfl<|al rfl rfl rfl rfl rfl<|aa (ax rfl rfl rfl) rfl<|aa (ac rfl) rfl<|al rfl rfl rfl rfl rfl<|al rfl rfl rfl rfl rfl<|al rfl rfl rfl rfl rfl<|aa (ax rfl rfl rfl) rfl<|aa (ac rfl) rfl<|al rfl rfl rfl rfl rfl<|aa (ax rfl rfl rfl) rfl<|aa (ac rfl) rfl<|al rfl rfl rfl rfl rfl<|al rfl rfl rfl rfl rfl<|al rfl rfl rfl rfl rfl<|aa (ax rfl rfl rfl) rfl<|aa (ac rfl) rfl<|al rfl rfl rfl rfl rfl<|al rfl rfl rfl rfl rfl<|al rfl rfl rfl rfl rfl<|al rfl rfl rfl rfl rfl<|aa (ax rfl rfl rfl) rfl<|aa (ae rfl) rfl<|ad<|an<|av (az rfl (aE rfl)) ⟨false,rfl,H57⟩))))) (fun k47 H48=>al rfl rfl rfl (aZ k47) rfl<|al rfl rfl rfl (aZ k47) rfl<|al rfl rfl rfl (aZ k47) rfl<|aa (ax rfl k47 rfl) rfl<|aa (ac rfl) rfl<|al rfl rfl rfl rfl rfl<|al rfl rfl rfl rfl rfl<|aa (ax rfl rfl rfl) rfl<|aa (ac rfl) rfl<|al rfl rfl rfl rfl rfl<|aa (ax rfl rfl rfl) rfl<|aa (ac rfl) rfl<|al rfl rfl rfl rfl rfl<|aa (ax rfl rfl rfl) rfl<|aa (ac rfl) rfl<|al rfl rfl rfl rfl rfl<|al rfl rfl rfl rfl rfl<|al rfl rfl rfl rfl rfl<|aa (ax rfl rfl rfl) rfl<|aa (ac rfl) rfl<|al rfl rfl rfl rfl rfl<|al rfl rfl rfl rfl rfl<|al rfl rfl rfl rfl rfl<|al rfl rfl rfl rfl rfl<|aa (ax rfl rfl rfl) rfl<|aa (ac rfl) rfl<|al rfl rfl rfl rfl rfl<|al rfl rfl rfl rfl rfl<|aa (ax rfl rfl rfl) rfl<|aa (ac rfl) rfl<|al rfl rfl rfl rfl rfl<|al rfl rfl rfl rfl rfl<|al rfl rfl rfl rfl rfl<|aa (ax rfl rfl rfl) rfl<|aa (ac rfl) rfl<|al rfl rfl rfl rfl rfl<|al rfl rfl rfl rfl rfl<|al rfl rfl rfl rfl rfl<|aa (ax rfl rfl rfl) rfl<|aa (ac rfl) rfl<|al rfl rfl rfl rfl rfl<|aa (ax rfl rfl rfl) rfl<|aa (ac rfl) rfl<|al rfl rfl rfl rfl rfl<|al rfl rfl rfl rfl rfl<|al rfl rfl rfl rfl rfl<|aa (ax rfl rfl rfl) rfl<|aa (ac rfl) rfl<|al rfl rfl rfl rfl rfl<|al rfl rfl rfl rfl rfl<|al rfl rfl rfl rfl rfl<|al rfl rfl rfl rfl rfl<|aa (ax rfl rfl rfl) rfl<|aa (ae rfl) rfl<|ad<|an<|av (az rfl (aE rfl)) ⟨false,rfl,H48⟩))))))))))))))))))))))))))))))
def ol (K:Bool→Hp→Prop):Hp→Prop:=cl Tryz.prog kB [] aG fun r1=>K r1
set_option maxRecDepth 20000 in
theorem uO {K:Bool→Hp→Prop} {h:Hp} (H:ol K h):Ct Tryz.prog kC #[] h fun v h'=>∃ r,v = aG r∧K r h':=aC [] Tryz.func50 rfl rfl rfl fun _=>ag<|ab<|aa (ae rfl) rfl<|ad<|ag<|ab<|aj (aA H en_87 rfl rfl fun r1 _ H1=>aa (ae rfl) rfl<|ad<|an<|av (az rfl (aE rfl)) ⟨r1,rfl,H1⟩)
end Go.Proofs.YtniiiakkdoiaiaaGreatDoor
