/- Part of the proof of: The law KernForm returns true for every input, and leaves its arguments as they were. -/
import Derived.Test.YtniiiakkdoiaiaaGreatDoorKernForm06
set_option linter.all false
namespace Go.Proofs.YtniiiakkdoiaiaaGreatDoor
open Go Mb
set_option linter.unusedVariables false
def pF (a0:Ptr) (Rec4:Int→Hp→Prop) (s3:Int) (Rec9:Int→Hp→Prop) (s8:Int):Hp→Prop:=br (decide (s8 < 2)) ( nn a0 fun q16=>gd (0 ≤ s3∧s3 < 4)<|gd (0 ≤ s8∧s8 < 2)<|st (q16.1,q16.2 + 0 + Int.toNat s3 * 10 + Int.toNat s8 * 5 + 0) (ar.C dU)<|Rec9 (IntKind.i64.wrap (s8 + 1))) ( Rec4 (IntKind.i64.wrap (s3 + 1)))
def pG (a0:Ptr) (K:Unit→Hp→Prop) (Rec4:Int→Hp→Prop) (s3:Int):Hp→Prop:=br (decide (s3 < 4)) ( Lp (pF a0 Rec4 s3) 0) ( K ())
def uS (a0:Ptr) (K:Unit→Hp→Prop):Hp→Prop:=br a0.isNone ( K ()) ( Lp (pG a0 K) 0)
set_option maxRecDepth 20000 in
theorem sim_tlb_Tlb_Clear (a0:Ptr) {K:Unit→Hp→Prop} {h:Hp} (H:uS a0 K h):Ct Tryz.prog qT #[(pv a0)] h fun v h'=>∃ r,v = R_ r∧K r h':=aC [(pv a0)] Tryz.func94 rfl rfl rfl fun _=>ag<|ag<|ab<|aa (ac rfl) rfl<|aa (ct Tryz.underlying103 rfl) rfl<|ad<|aD rfl H (fun k1 H2=>an<|av (res_0 rfl) ⟨(),rfl,H2⟩) (fun k1 H2=>au<|ag<|ab<|aa (ac rfl) rfl<|ad<|aF<|bS (step:=pG a0 K) (fun s3=>[(0,(pv a0)),(6,(.int .i64 s3))]) (fun s3=>[]) H2 (.cons rfl (.cons rfl (.nil _))) .slnil (fun Rec4 s3 _ H5=>ag<|ab<|aa (cA rfl rfl) rfl<|ad<|ag<|aD rfl H5 (fun k6 H7=>au<|ag<|aF<|ag<|ab<|aa (ac rfl) rfl<|aa (ae rfl) rfl<|ad<|ag<|ab<|aa (ac rfl) rfl<|ad<|aF<|bS (step:=pF a0 Rec4 s3) (fun s8=>[(0,(pv a0)),(2,(.int .i64 s3)),(6,(.int .i64 s3)),(9,(.int .i64 s8))]) (fun s8=>[]) H7 (.cons rfl (.cons rfl (.cons rfl (.cons rfl (.nil _))))) .slnil (fun Rec9 s8 _ H10=>ag<|ab<|aa (cA rfl rfl) rfl<|ad<|ag<|aD rfl H10 (fun k11 H12=>au<|ag<|aF<|ag<|ab<|aa (ac rfl) rfl<|aa (ae rfl) rfl<|ad<|bE (n:=10) [] cy rfl .slnil<|ah (i:=0) (fun _ _ _ _=>id) rfl (by kernel_rfl) rfl (ve (ac rfl))<|ah (i:=1) (fun _ _ _ _=>id) rfl (by kernel_rfl) rfl (ve (ac rfl))<|ah (i:=2) (fun _ _ _ _=>id) rfl (by kernel_rfl) rfl (ve (ac rfl))<|gQ H12 fun q16 e13 H14=>ah (i:=4) (fun _ _ _ _=>id) rfl (by kernel_rfl) rfl (ve (aU (aX rfl (ay e13))))<|ah (i:=5) (fun _ _ _ _=>id) rfl (by kernel_rfl) rfl (ve (am sg rfl))<|eva_gd H14 fun h15 H16=>ah (i:=6) (fun _ _ _ _=>id) rfl (by kernel_rfl) rfl (ve (bJ arr_143 rfl rfl h15))<|bg (i:=3) (by kernel_rfl) (aJ rfl rfl (cL (vs:=[]) (bI (wY _)) en_117 rfl rfl<|⟨.slnil,eva_gd H16 fun h17 H18=>ah (i:=7) (fun _ _ _ _=>id) rfl (by kernel_rfl) rfl (ve (bJ arr_142 rfl rfl h17))<|ah (i:=8) (fun _ _ _ _=>id) rfl (by kernel_rfl) rfl (ve (am lX rfl))<|bg (i:=9) (by kernel_rfl) (aJ rfl rfl (dw fx rfl rfl rfl rfl rfl H18 fun _ H19=>⟨.slnil,bd (by kernel_rfl)<|ab<|aa (bM rfl rfl) rfl<|aa (ac rfl) rfl<|ad<|cW (IntKind.i64.wrap (s8 + 1)) H19 (.cons rfl (.cons rfl (.cons rfl (.cons rfl (.nil _))))) .slnil⟩))⟩))) (fun k11 H12=>bD<|ab<|aa (bM rfl rfl) rfl<|aa (ac rfl) rfl<|ad<|cW (IntKind.i64.wrap (s3 + 1)) H12 (.cons rfl (.cons rfl (.nil _))) .slnil))) (fun k6 H7=>bD<|end_i (res_0 rfl) ⟨(),rfl,H7⟩)))
def sh_tlb_New (K:Ptr→Hp→Prop):Hp→Prop:=hpv Tryz.prog (Instr.build pH #[]) encL fun (v2:(List Value))=>nw pH v2 fun b3=>cl Tryz.prog qT [(.pointer (some ⟨b3,0,none⟩))] R_ fun (_:Unit)=>K (some (b3,0))
set_option maxRecDepth 20000 in
theorem sim_tlb_New {K:Ptr→Hp→Prop} {h:Hp} (H:sh_tlb_New K h):Ct Tryz.prog iE #[] h fun v h'=>∃ r,v = gC r∧K r h':=aC [] Tryz.func63 rfl rfl rfl fun _=>ag<|ab<|aa (ae rfl) rfl<|ad<|ag<|ab<|aj (be H (x_build (vs:=[]) rfl) rfl fun v2 _ H1=>aj (hU rfl rfl rfl H1 fun b3 _ H2=>aa (ae rfl) rfl<|ad<|ag<|ab<|aa (ac rfl) rfl<|aj (aA H2 en_94 rfl rfl fun r5 _ H3=>ad<|ag<|ab<|aa (ac rfl) rfl<|aa (ae rfl) rfl<|ad<|an<|av (az rfl (aE rfl)) ⟨(some (b3,0)),rfl,H3⟩)))
def mB (a2:Int) (K:Ptr→Hp→Prop) (Rec10:Int→Hp→Prop) (s9:Int) (q30:Nat × Nat) (s20:Bool):Hp→Prop:=br s20 ( K (some (q30.1,q30.2 + 0 + Int.toNat (a2.tmod 4) * 10 + Int.toNat s9 * 5))) ( Rec10 (IntKind.i64.wrap (s9 + 1)))
def uo (a0:Ptr) (a1:Int) (a2:Int) (K:Ptr→Hp→Prop) (Rec10:Int→Hp→Prop) (s9:Int):Hp→Prop:=br (decide (s9 < 2)) ( nn a0 fun q30=>gd (0 ≤ (a2.tmod 4)∧(a2.tmod 4) < 4)<|gd (0 ≤ s9∧s9 < 2)<|ld (q30.1,q30.2 + 0 + Int.toNat (a2.tmod 4) * 10 + Int.toNat s9 * 5 + 0 + 0) (cI .i64) fun x38=>br (x38 == a1) ( ld (q30.1,q30.2 + 0 + Int.toNat (a2.tmod 4) * 10 + Int.toNat s9 * 5 + 0 + 1) (cI .i64) fun x46=>mB a2 K Rec10 s9 q30 (x46 == a2)) ( mB a2 K Rec10 s9 q30 false)) ( K none)
def sh_tlb_Tlb_at (a0:Ptr) (a1:Int) (a2:Int) (K:Ptr→Hp→Prop):Hp→Prop:=br (((a0.isNone || (decide (a1 < 0))) || (decide (a2 < 0))) || (decide (a2 ≥ 8))) ( K none) ( Lp (uo a0 a1 a2 K) 0)
set_option maxRecDepth 20000 in
theorem sim_tlb_Tlb_at (a0:Ptr) (a1:Int) (a2:Int) {K:Ptr→Hp→Prop} {h:Hp} (H:sh_tlb_Tlb_at a0 a1 a2 K h):Ct Tryz.prog oy #[(pv a0),(.int .i64 a1),(.int .i64 a2)] h fun v h'=>∃ r,v = jM r∧K r h':=aC [(pv a0),(.int .i64 a1),(.int .i64 a2)] Tryz.func151 rfl rfl rfl fun _=>ag<|ab<|aa (ae rfl) rfl<|ad<|ag<|ag<|ab<|aa (ac rfl) rfl<|aa (ct Tryz.underlying103 rfl) rfl<|aa (ac rfl) rfl<|ai rfl rfl rfl (aS _) (fun g1=>wv (ac rfl)) rfl<|ai rfl rfl rfl (aS _) (fun g2=>wv (cA (aK rfl g2) rfl)) rfl<|aa (du rfl rfl) rfl<|aa (ac rfl) rfl<|ai rfl rfl rfl (aS _) (fun g3=>wv (ac rfl)) rfl<|ai rfl rfl rfl (aS _) (fun g4=>wv (cA (aK rfl g4) rfl)) rfl<|aa (du rfl rfl) rfl<|aa (ac rfl) rfl<|ai rfl rfl rfl (aS _) (fun g5=>wv (ac rfl)) rfl<|ai rfl rfl rfl (aS _) (fun g6=>wv (hO (aK rfl g6) rfl)) rfl<|aa (du rfl rfl) rfl<|ad<|aD rfl H (fun k7 H8=>ag<|ab<|aa (ae rfl) rfl<|ad<|an<|av (az rfl (aE rfl)) ⟨none,rfl,H8⟩) (fun k7 H8=>au<|ag<|ag<|ab<|aa (ac rfl) rfl<|ad<|aF<|bS (step:=uo a0 a1 a2 K) (fun s9=>[(0,(pv a0)),(1,(.int .i64 a1)),(2,(.int .i64 a2)),(23,(.int .i64 s9))]) (fun s9=>[]) H8 (.cons rfl (.cons rfl (.cons rfl (.cons rfl (.nil _))))) .slnil (fun Rec10 s9 _ H11=>ag<|ab<|aa (cA rfl rfl) rfl<|ad<|ag<|aD rfl H11 (fun k12 H13=>au<|ag<|aF<|ag<|ab<|aa (ac rfl) rfl<|aa (ae rfl) rfl<|ad<|ag<|ab<|aa (ac rfl) rfl<|aa (ac rfl) rfl<|aa (v_rem rfl rfl (by decide)) rfl<|aa (ac rfl) rfl<|bP H13 fun q30 e14 H15=>aa (aU (aX rfl (ay e14))) rfl<|aa (am sg rfl) rfl<|il H15 fun h16 H17=>aa (bJ arr_143 rfl rfl h16) rfl<|il H17 fun h18 H19=>aa (bJ arr_142 rfl rfl h18) rfl<|aa (ae rfl) rfl<|ad<|eG (mB a2 K Rec10 s9 q30) (fun s20=>[(0,(pv a0)),(1,(.int .i64 a1)),(2,(.int .i64 a2)),(8,(.pointer (some ⟨q30.1,q30.2 + 0 + Int.toNat (a2.tmod 4) * 10 + Int.toNat s9 * 5,none⟩))),(23,(.int .i64 s9)),(49,(.bool s20))]) (fun s20=>[]) ( ab<|aa (ac rfl) rfl<|aa (aU rfl) rfl<|aa (am lX rfl) rfl<|aa (am jz rfl) rfl<|aj (bf H19 bj rfl (fun _=>rfl) rfl fun x38 H24=>aa (ac rfl) rfl<|aa (cc rfl rfl) rfl<|aa (ac rfl) rfl<|ai rfl rfl rfl (aB _) (fun g25=>wv (ac rfl)) rfl<|ai rfl rfl rfl (aB _) (fun g26=>wv (aU (aK rfl g26))) rfl<|ai rfl rfl rfl (aB _) (fun g27=>wv (am lX (aK rfl g27))) rfl<|ai rfl rfl rfl (aB _) (fun g28=>wv (am mK (aK rfl g28))) rfl<|bW H24 (fun k30 H31=>aI rfl rfl rfl (congrArg Value.bool k30) (bf H31 bj (aK rfl k30) (fun _=>rfl) rfl fun x46 H32=>aI rfl rfl rfl (congrArg Value.bool k30) (aN (wv (ac rfl)) rfl<|aI rfl rfl rfl (congrArg Value.bool k30) (aN (wv (cc rfl rfl)) rfl<|aa (aT rfl k30 rfl) rfl<|ad<|cQ (x46 == a2) H32 (.cons rfl (.cons rfl (.cons rfl (.cons rfl (.cons rfl (.cons rfl (.nil _))))))) .slnil)))) (fun k30 H31=>al rfl rfl rfl (aZ k30) rfl<|al rfl rfl rfl (aZ k30) rfl<|al rfl rfl rfl (aZ k30) rfl<|aa (ax rfl k30 rfl) rfl<|ad<|cQ false H31 (.cons rfl (.cons rfl (.cons rfl (.cons rfl (.cons rfl (.cons rfl (.nil _))))))) .slnil))) (fun s20 _ H21=>aD rfl H21 (fun k22 H23=>ag<|ab<|aa (ac rfl) rfl<|aa (ae rfl) rfl<|ad<|an<|av (az rfl (aE rfl)) ⟨(some (q30.1,q30.2 + 0 + Int.toNat (a2.tmod 4) * 10 + Int.toNat s9 * 5)),rfl,H23⟩) (fun k22 H23=>au<|ab<|aa (bM rfl rfl) rfl<|aa (ac rfl) rfl<|ad<|cW (IntKind.i64.wrap (s9 + 1)) H23 (.cons rfl (.cons rfl (.cons rfl (.cons rfl (.nil _))))) .slnil))) (fun k12 H13=>bD<|ag<|ab<|aa (ae rfl) rfl<|ad<|an<|av (az rfl (aE rfl)) ⟨none,rfl,H13⟩)))
def uQ (a0:Ptr) (a1:Int) (a2:Int) (K:Bool→Hp→Prop):Hp→Prop:=cl Tryz.prog oy [(pv a0),(.int .i64 a1),(.int .i64 a2)] jM fun r11=>br r11.isNone ( K false) ( nn r11 fun q16=>st (q16.1,q16.2 + 0) (ar.C dU)<|K true)
set_option maxRecDepth 20000 in
theorem sim_tlb_Tlb_Flush (a0:Ptr) (a1:Int) (a2:Int) {K:Bool→Hp→Prop} {h:Hp} (H:uQ a0 a1 a2 K h):Ct Tryz.prog mQ #[(pv a0),(.int .i64 a1),(.int .i64 a2)] h fun v h'=>∃ r,v = aG r∧K r h':=aC [(pv a0),(.int .i64 a1),(.int .i64 a2)] Tryz.func102 rfl rfl rfl fun _=>ag<|ab<|aa (ae rfl) rfl<|ad<|ag<|ab<|aa (ac rfl) rfl<|aa (ac rfl) rfl<|aa (ac rfl) rfl<|aj (aA H en_151 rfl rfl fun r11 _ H1=>aa (ae rfl) rfl<|ad<|ag<|ag<|ab<|aa (ac rfl) rfl<|aa (ct Tryz.underlying200 rfl) rfl<|ad<|aD rfl H1 (fun k2 H3=>ag<|ab<|aa (ae rfl) rfl<|ad<|an<|av (az rfl (aE rfl)) ⟨false,rfl,H3⟩) (fun k2 H3=>au<|ag<|ab<|aa (ac rfl) rfl<|aj (cL (vs:=[]) (bI (wY _)) en_117 rfl rfl<|bP H3 fun q16 e4 H5=>aa (aU (aX rfl (ay e4))) rfl<|aa (am lX rfl) rfl<|aj (dw fx rfl rfl rfl rfl rfl H5 fun _ H6=>ad<|ag<|ab<|aa (ae rfl) rfl<|ad<|an<|av (az rfl (aE rfl)) ⟨true,rfl,H6⟩))))
def sh_tlb_Tlb_Find (a0:Ptr) (a1:Int) (a2:Int) (K:(ar × Bool)→Hp→Prop):Hp→Prop:=cl Tryz.prog oy [(pv a0),(.int .i64 a1),(.int .i64 a2)] jM fun r12=>br r12.isNone ( K ((⟨0,0,0,0⟩:ar),false)) ( nn r12 fun q17=>ld (q17.1,q17.2 + 0) ar.C fun x19=>K (x19,true))
set_option maxRecDepth 20000 in
theorem sim_tlb_Tlb_Find (a0:Ptr) (a1:Int) (a2:Int) {K:(ar × Bool)→Hp→Prop} {h:Hp} (H:sh_tlb_Tlb_Find a0 a1 a2 K h):Ct Tryz.prog oz #[(pv a0),(.int .i64 a1),(.int .i64 a2)] h fun v h'=>∃ r,v = fH r∧K r h':=aC [(pv a0),(.int .i64 a1),(.int .i64 a2)] Tryz.func141 rfl rfl rfl fun _=>ag<|ab<|aj (bb (l:=(ar.C (⟨0,0,0,0⟩:ar))) kI rfl rfl fun b6=>aa (ae rfl) rfl<|ad<|ag<|ab<|aa (ac rfl) rfl<|aa (ac rfl) rfl<|aa (ac rfl) rfl<|aj (aA H en_151 rfl rfl fun r12 _ H1=>aa (ae rfl) rfl<|ad<|ag<|ag<|ab<|aa (ac rfl) rfl<|aa (ct Tryz.underlying200 rfl) rfl<|ad<|aD rfl H1 (fun k2 H3=>ag<|ab<|aa (bo (vs:=[]) rfl lA) rfl<|aj (bc (k:=0) (vs:=(ar.C (⟨0,0,0,0⟩:ar))) fx rfl rfl rfl rfl rfl rfl rfl<|aa (ae rfl) rfl<|ad<|an<|av (cf rfl (bQ (k:=0) rfl gZ rfl rfl) (aE rfl)) ⟨((⟨0,0,0,0⟩:ar),false),rfl,H3⟩)) (fun k2 H3=>au<|ag<|ab<|aa (ac rfl) rfl<|bP H3 fun q17 e4 H5=>aa (aU (aX rfl (ay e4))) rfl<|aa (am lX rfl) rfl<|aj (gL H5 gZ rfl (fun _=>rfl) rfl fun x19 H6=>aj (bc (k:=0) (vs:=(ar.C x19)) fx rfl rfl rfl rfl rfl rfl rfl<|aa (ae rfl) rfl<|ad<|an<|av (cf rfl (bQ (k:=0) rfl gZ rfl rfl) (aE rfl)) ⟨(x19,true),rfl,H6⟩)))))
def qO (a0:Ptr) (a1:Int) (K:Ptr→Hp→Prop) (Rec2:(Ptr × Int)→Hp→Prop) (s1:Ptr × Int):Hp→Prop:=br (decide (s1.2 < 2)) ( nn a0 fun q14=>gd (0 ≤ a1∧a1 < 4)<|gd (0 ≤ s1.2∧s1.2 < 2)<|ld (q14.1,q14.2 + 0 + Int.toNat a1 * 10 + Int.toNat s1.2 * 5 + 0 + 0) (cI .i64) fun x22=>br (decide (x22 < 0)) ( K (some (q14.1,q14.2 + 0 + Int.toNat a1 * 10 + Int.toNat s1.2 * 5))) ( br s1.1.isNone ( Rec2 ((some (q14.1,q14.2 + 0 + Int.toNat a1 * 10 + Int.toNat s1.2 * 5)),(IntKind.i64.wrap (s1.2 + 1)))) ( nn s1.1 fun q33=>ld (q14.1,q14.2 + 0 + Int.toNat a1 * 10 + Int.toNat s1.2 * 5 + 4) (cI .i64) fun x31=>ld (q33.1,q33.2 + 4) (cI .i64) fun x35=>br (decide (x31 < x35)) ( Rec2 ((some (q14.1,q14.2 + 0 + Int.toNat a1 * 10 + Int.toNat s1.2 * 5)),(IntKind.i64.wrap (s1.2 + 1)))) ( Rec2 (s1.1,(IntKind.i64.wrap (s1.2 + 1))))))) ( K s1.1)
def sh_tlb_Tlb_room (a0:Ptr) (a1:Int) (K:Ptr→Hp→Prop):Hp→Prop:=Lp (qO a0 a1 K) (none,0)
set_option maxRecDepth 20000 in
theorem sim_tlb_Tlb_room (a0:Ptr) (a1:Int) {K:Ptr→Hp→Prop} {h:Hp} (H:sh_tlb_Tlb_room a0 a1 K h):Ct Tryz.prog sQ #[(pv a0),(.int .i64 a1)] h fun v h'=>∃ r,v = jM r∧K r h':=aC [(pv a0),(.int .i64 a1)] Tryz.func177 rfl rfl rfl fun _=>ag<|ab<|aa (ae rfl) rfl<|ad<|ag<|ab<|aa (ae rfl) rfl<|ad<|ag<|ag<|ab<|aa (ac rfl) rfl<|ad<|aF<|bS (step:=qO a0 a1 K) (fun s1=>[(0,(pv a0)),(1,(.int .i64 a1)),(5,(pv s1.1)),(8,(.int .i64 s1.2))]) (fun s1=>[]) H (.cons rfl (.cons rfl (.cons rfl (.cons rfl (.nil _))))) .slnil (fun Rec2 s1 _ H3=>ag<|ab<|aa (cA rfl rfl) rfl<|ad<|ag<|aD rfl H3 (fun k4 H5=>au<|ag<|aF<|ag<|ab<|aa (ac rfl) rfl<|aa (ae rfl) rfl<|ad<|ag<|ab<|aa (ac rfl) rfl<|aa (ac rfl) rfl<|aa (ac rfl) rfl<|bP H5 fun q14 e6 H7=>aa (aU (aX rfl (ay e6))) rfl<|aa (am sg rfl) rfl<|il H7 fun h8 H9=>aa (bJ arr_143 rfl rfl h8) rfl<|il H9 fun h10 H11=>aa (bJ arr_142 rfl rfl h10) rfl<|aa (ae rfl) rfl<|ad<|ag<|ag<|ab<|aa (ac rfl) rfl<|aa (aU rfl) rfl<|aa (am lX rfl) rfl<|aa (am jz rfl) rfl<|aj (bf H11 bj rfl (fun _=>rfl) rfl fun x22 H12=>aa (cA rfl rfl) rfl<|ad<|aD rfl H12 (fun k13 H14=>ag<|ab<|aa (ac rfl) rfl<|aa (ae rfl) rfl<|ad<|an<|av (az rfl (aE rfl)) ⟨(some (q14.1,q14.2 + 0 + Int.toNat a1 * 10 + Int.toNat s1.2 * 5)),rfl,H14⟩) (fun k13 H14=>au<|ag<|bE (n:=13) [] cy rfl .slnil<|ah (i:=0) (fun _ _ _ _=>id) rfl (by kernel_rfl) rfl (ve (ac rfl))<|ah (i:=1) (fun _ _ _ _=>id) rfl (by kernel_rfl) rfl (ve (ct Tryz.underlying200 rfl))<|ah (i:=2) (fun _ _ _ _=>id) rfl (by kernel_rfl) rfl (ve (ac rfl))<|jB H14 (fun k15 H16=>aw (i:=3) (fun _ _ _ _=>id) rfl (by kernel_rfl) rfl rfl rfl rfl (bF k15)<|aw (i:=4) (fun _ _ _ _=>id) rfl (by kernel_rfl) rfl rfl rfl rfl (bF k15)<|aw (i:=5) (fun _ _ _ _=>id) rfl (by kernel_rfl) rfl rfl rfl rfl (bF k15)<|aw (i:=6) (fun _ _ _ _=>id) rfl (by kernel_rfl) rfl rfl rfl rfl (bF k15)<|aw (i:=7) (fun _ _ _ _=>id) rfl (by kernel_rfl) rfl rfl rfl rfl (bF k15)<|aw (i:=8) (fun _ _ _ _=>id) rfl (by kernel_rfl) rfl rfl rfl rfl (bF k15)<|aw (i:=9) (fun _ _ _ _=>id) rfl (by kernel_rfl) rfl rfl rfl rfl (bF k15)<|aw (i:=10) (fun _ _ _ _=>id) rfl (by kernel_rfl) rfl rfl rfl rfl (bF k15)<|aw (i:=11) (fun _ _ _ _=>id) rfl (by kernel_rfl) rfl rfl rfl rfl (bF k15)<|ah (i:=12) (fun _ _ _ _=>id) rfl (by kernel_rfl) rfl (ve (aT rfl k15 rfl))<|bd (by kernel_rfl)<|gR rfl rfl<|ab<|aa (ac rfl) rfl<|aa (ae rfl) rfl<|ad<|ab<|aa (bM rfl rfl) rfl<|aa (ac rfl) rfl<|ad<|cW ((some (q14.1,q14.2 + 0 + Int.toNat a1 * 10 + Int.toNat s1.2 * 5)),(IntKind.i64.wrap (s1.2 + 1))) H16 (.cons rfl (.cons rfl (.cons rfl (.cons rfl (.nil _))))) .slnil) (fun k15 H16=>bi (i:=3) (fun _ _ _ _=>id) rfl (by kernel_rfl) rfl rfl rfl rfl (congrArg Value.bool k15) (ve (ac rfl))<|bi (i:=4) (fun _ _ _ _=>id) rfl (by kernel_rfl) rfl rfl rfl rfl (congrArg Value.bool k15) (ve (aU rfl))<|bi (i:=5) (fun _ _ _ _=>id) rfl (by kernel_rfl) rfl rfl rfl rfl (congrArg Value.bool k15) (ve (am fld_141_1 rfl))<|bi (i:=7) (fun _ _ _ _=>id) rfl (by kernel_rfl) rfl rfl rfl rfl (congrArg Value.bool k15) (ve (ac rfl))<|gQ H16 fun q33 e17 H18=>bi (i:=8) (fun _ _ _ _=>id) rfl (by kernel_rfl) rfl rfl rfl rfl (congrArg Value.bool k15) (ve (aU (aX rfl (ay e17))))<|bi (i:=9) (fun _ _ _ _=>id) rfl (by kernel_rfl) rfl rfl rfl rfl (congrArg Value.bool k15) (ve (am fld_141_1 rfl))<|iv (i:=6) (fun _ _ _ _=>id) H18 rfl (by kernel_rfl) rfl rfl rfl (congrArg Value.bool k15) bj rfl (fun _=>rfl) rfl fun x31 H19=>iv (i:=10) (fun _ _ _ _=>id) H19 rfl (by kernel_rfl) rfl rfl rfl (congrArg Value.bool k15) bj rfl (fun _=>rfl) rfl fun x35 H20=>bi (i:=11) (fun _ _ _ _=>id) rfl (by kernel_rfl) rfl rfl rfl rfl (congrArg Value.bool k15) (ve (cA rfl rfl))<|ah (i:=12) (fun _ _ _ _=>id) rfl (by kernel_rfl) rfl (ve (ax rfl k15 rfl))<|bd (by kernel_rfl)<|aD rfl H20 (fun k21 H22=>ab<|aa (ac rfl) rfl<|aa (ae rfl) rfl<|ad<|ab<|aa (bM rfl rfl) rfl<|aa (ac rfl) rfl<|ad<|cW ((some (q14.1,q14.2 + 0 + Int.toNat a1 * 10 + Int.toNat s1.2 * 5)),(IntKind.i64.wrap (s1.2 + 1))) H22 (.cons rfl (.cons rfl (.cons rfl (.cons rfl (.nil _))))) .slnil) (fun k21 H22=>au<|ab<|aa (bM rfl rfl) rfl<|aa (ac rfl) rfl<|ad<|cW (s1.1,(IntKind.i64.wrap (s1.2 + 1))) H22 (.cons rfl (.cons rfl (.cons rfl (.cons rfl (.nil _))))) .slnil))))) (fun k4 H5=>bD<|ag<|ab<|aa (ac rfl) rfl<|aa (ae rfl) rfl<|ad<|an<|av (az rfl (aE rfl)) ⟨s1.1,rfl,H5⟩))
def ka (a0:Ptr) (a1:ar) (K:Bool→Hp→Prop) (s24:Ptr):Hp→Prop:=nn a0 fun q60=>ld (q60.1,q60.2 + 40) (cI .i64) fun x62=>st (q60.1,q60.2 + 40) [.int .i64 (IntKind.i64.wrap (x62 + 1))]<|ld (q60.1,q60.2 + 40) (cI .i64) fun x71=>nn s24 fun q73=>st (q73.1,q73.2) (cr.C (⟨a1,x71⟩:cr))<|K true
def sh_tlb_Tlb_Fill (a0:Ptr) (a1:ar) (K:Bool→Hp→Prop):Hp→Prop:=br ((a0.isNone || ((((((decide (a1.fEnv < 0)) || (decide (a1.fEnv ≥ 4))) || (decide (a1.fPage < 0))) || (decide (a1.fPage ≥ 8))) || (decide (a1.fFrame < 0))) || (decide (a1.fFrame ≥ 16)))) || (!(cM a1.fRights))) ( K false) ( cl Tryz.prog oy [(pv a0),(.int .i64 a1.fEnv),(.int .i64 a1.fPage)] jM fun r51=>br r51.isNone ( cl Tryz.prog sQ [(pv a0),(.int .i64 (a1.fPage.tmod 4))] jM fun r58=>ka a0 a1 K r58) ( ka a0 a1 K r51))
set_option maxRecDepth 20000 in
theorem sim_tlb_Tlb_Fill (a0:Ptr) (a1:ar) {K:Bool→Hp→Prop} {h:Hp} (H:sh_tlb_Tlb_Fill a0 a1 K h):Ct Tryz.prog oA #[(pv a0),(.agg (ar.C a1).toArray)] h fun v h'=>∃ r,v = aG r∧K r h':=aC [(pv a0),(.agg (ar.C a1).toArray)] Tryz.func143 rfl rfl rfl fun _=>ag<|ab<|aj (cH (l:=(ar.C a1)) rfl rfl rfl fun b3=>aa (ae rfl) rfl<|ad<|ag<|ab<|aa (am jz rfl) rfl<|bz (bq (k:=0) bj rfl rfl rfl) rfl<|aa (cA rfl rfl) rfl<|aa (ac rfl) rfl<|ai rfl rfl rfl (aS _) (fun g1=>wv (am jz rfl)) rfl<|ai rfl rfl rfl (aS _) (fun g2=>cv (bq (k:=0) bj (aK rfl g2) rfl rfl)) rfl<|ai rfl rfl rfl (aS _) (fun g3=>wv (hO (aK rfl g3) rfl)) rfl<|aa (du rfl rfl) rfl<|aa (ac rfl) rfl<|ai rfl rfl rfl (aS _) (fun g4=>wv (am mK rfl)) rfl<|ai rfl rfl rfl (aS _) (fun g5=>cv (bq (k:=0) bj (aK rfl g5) rfl rfl)) rfl<|ai rfl rfl rfl (aS _) (fun g6=>wv (cA (aK rfl g6) rfl)) rfl<|aa (du rfl rfl) rfl<|aa (ac rfl) rfl<|ai rfl rfl rfl (aS _) (fun g7=>wv (am mK rfl)) rfl<|ai rfl rfl rfl (aS _) (fun g8=>cv (bq (k:=0) bj (aK rfl g8) rfl rfl)) rfl<|ai rfl rfl rfl (aS _) (fun g9=>wv (hO (aK rfl g9) rfl)) rfl<|aa (du rfl rfl) rfl<|aa (ac rfl) rfl<|ai rfl rfl rfl (aS _) (fun g10=>wv (am lx rfl)) rfl<|ai rfl rfl rfl (aS _) (fun g11=>cv (bq (k:=0) bj (aK rfl g11) rfl rfl)) rfl<|ai rfl rfl rfl (aS _) (fun g12=>wv (cA (aK rfl g12) rfl)) rfl<|aa (du rfl rfl) rfl<|aa (ac rfl) rfl<|ai rfl rfl rfl (aS _) (fun g13=>wv (am lx rfl)) rfl<|ai rfl rfl rfl (aS _) (fun g14=>cv (bq (k:=0) bj (aK rfl g14) rfl rfl)) rfl<|ai rfl rfl rfl (aS _) (fun g15=>wv (hO (aK rfl g15) rfl)) rfl<|aa (du rfl rfl) rfl<|aa (ae rfl) rfl<|ad<|ag<|ag<|ab<|aa (ac rfl) rfl<|aa (ct Tryz.underlying103 rfl) rfl<|aa (ac rfl) rfl<|ai rfl rfl rfl (aS _) (fun g16=>wv (ac rfl)) rfl<|aa (du rfl rfl) rfl<|aa (ac rfl) rfl<|ai rfl rfl rfl (aS _) (fun g17=>wv (am qJ rfl)) rfl<|ai rfl rfl rfl (aS _) (fun g18=>cv (bq (k:=0) bj (aK rfl g18) rfl rfl)) rfl<|de (vs:=[(.int .i64 a1.fRights)]) rfl rfl rfl (aS _) (fun g19=>(bI (pW a1.fRights _))) en_150 (fun g19=>(aY (aK rfl g19) bU)) rfl<|ai rfl rfl rfl (aS _) (fun g20=>wv (cw (aK rfl g20))) rfl<|aa (du rfl rfl) rfl<|ad<|aD rfl H (fun k21 H22=>ag<|ab<|aa (ae rfl) rfl<|ad<|an<|av (az rfl (aE rfl)) ⟨false,rfl,H22⟩) (fun k21 H22=>au<|ag<|ab<|aa (ac rfl) rfl<|aa (am jz rfl) rfl<|bz (bq (k:=0) bj rfl rfl rfl) rfl<|aa (am mK rfl) rfl<|bz (bq (k:=0) bj rfl rfl rfl) rfl<|aj (aA H22 en_151 rfl rfl fun r51 _ H23=>aa (ae rfl) rfl<|ad<|eG (ka a0 a1 K) (fun s24=>[(0,(pv a0)),(3,(.pointer (some ⟨b3,0,none⟩))),(6,(pv s24))]) (fun s24=>[bx b3 49 (ar.C a1)]) ( ag<|ab<|aa (ac rfl) rfl<|aa (ct Tryz.underlying200 rfl) rfl<|ad<|aD rfl H23 (fun k34 H35=>ab<|aa (ac rfl) rfl<|aa (am mK rfl) rfl<|bz (bq (k:=0) bj rfl rfl rfl) rfl<|aa (v_rem rfl rfl (by decide)) rfl<|aj (aA H35 en_177 rfl rfl fun r58 _ H36=>aa (ae rfl) rfl<|ad<|cQ r58 H36 (.cons rfl (.cons rfl (.cons rfl (.nil _)))) (.cons_cons _ .slnil))) (fun k34 H35=>au<|cQ r51 H35 (.cons rfl (.cons rfl (.cons rfl (.nil _)))) (.cons_cons _ .slnil))) (fun s24 _ H25=>ag<|ab<|aa (ac rfl) rfl<|bP H25 fun q60 e26 H27=>aa (aU (aX rfl (ay e26))) rfl<|aa (am fld_145_1 rfl) rfl<|aj (bf H27 bj rfl (fun _=>rfl) rfl fun x62 H28=>aa (bM rfl rfl) rfl<|aa (aU (aX rfl (ay e26))) rfl<|aa (am fld_145_1 rfl) rfl<|aj (dw px rfl rfl rfl rfl rfl H28 fun _ H29=>ad<|ag<|bE (n:=9) [bx b3 49 (ar.C a1)] cy rfl (.cons_cons _ .slnil)<|ah (i:=0) (fun _ _ _ _=>id) rfl (by kernel_rfl) rfl (ve (ac rfl))<|ah (i:=1) (fun _ _ _ _=>id) rfl (by kernel_rfl) rfl (eu (k:=0) gZ rfl rfl rfl rfl)<|ah (i:=2) (fun _ _ _ _=>id) rfl (by kernel_rfl) rfl (ve (ac (aX rfl (ay e26))))<|ah (i:=3) (fun _ _ _ _=>id) rfl (by kernel_rfl) rfl (ve (aU rfl))<|ah (i:=4) (fun _ _ _ _=>id) rfl (by kernel_rfl) rfl (ve (am fld_145_1 rfl))<|bR (i:=5) (fun _ _ _ _=>id) H29 rfl (by kernel_rfl) bj rfl (fun _=>rfl) rfl fun x71 H30=>ah (i:=6) (fun _ _ _ _=>id) rfl (by kernel_rfl) rfl (ve (bo rfl (build_141_0_1 a1 x71)))<|gQ H30 fun q73 e31 H32=>ah (i:=7) (fun _ _ _ _=>id) rfl (by kernel_rfl) rfl (ve (aU (aX rfl (ay e31))))<|bg (i:=8) (by kernel_rfl) (aJ rfl rfl (dw inf_141 rfl rfl rfl rfl rfl H32 fun _ H33=>⟨(.cons_cons _ .slnil),bd (by kernel_rfl)<|ag<|ab<|aa (ae rfl) rfl<|ad<|an<|av (az rfl (aE rfl)) ⟨true,rfl,H33⟩⟩))))))))
def pD (Rec4:(Sl × Int)→Hp→Prop) (s3:Sl × Int) (x17:jd) (Rec14:(Sl × Int)→Hp→Prop) (s13:Sl × Int):Hp→Prop:=br (decide (s13.2 < 2)) ( hpv Tryz.prog (Instr.index t_2_tlb_line (.agg (jd.C x17).toArray) (.int .i64 s13.2)) R_tlb_line fun (v20:cr)=>hpv Tryz.prog (Instr.buildSlice qp 1 #[(0,(.agg (ar.C v20.fl).toArray))]) je fun (v24:Sl)=>hpv Tryz.prog (Builtin.append_ #[qp,qp] qp #[(sv s13.1),(sv v24)]) je fun (v25:Sl)=>Rec14 (v25,(IntKind.i64.wrap (s13.2 + 1)))) ( Rec4 (s13.1,(IntKind.i64.wrap (s3.2 + 1))))
def pE (a0:Ptr) (K:Sl→Hp→Prop) (Rec4:(Sl × Int)→Hp→Prop) (s3:Sl × Int):Hp→Prop:=br (decide (s3.2 < 4)) ( nn a0 fun q14=>gd (0 ≤ s3.2∧s3.2 < 4)<|ld (q14.1,q14.2 + 0 + Int.toNat s3.2 * 10) jd.C fun x17=>Lp (pD Rec4 s3 x17) (s3.1,0)) ( K s3.1)
def uP (a0:Ptr) (K:Sl→Hp→Prop):Hp→Prop:=br a0.isNone ( K (⟨none,0,0,none⟩:Sl)) ( Lp (pE a0 K) ((⟨none,0,0,none⟩:Sl),0))
set_option maxRecDepth 20000 in
theorem sim_tlb_Tlb_Lines (a0:Ptr) {K:Sl→Hp→Prop} {h:Hp} (H:uP a0 K h):Ct Tryz.prog mP #[(pv a0)] h fun v h'=>∃ r,v = je r∧K r h':=aC [(pv a0)] Tryz.func77 rfl rfl rfl fun _=>ag<|ab<|aa (ae rfl) rfl<|ad<|ag<|ag<|ab<|aa (ac rfl) rfl<|aa (ct Tryz.underlying103 rfl) rfl<|ad<|aD rfl H (fun k1 H2=>ag<|ab<|aa (ae rfl) rfl<|ad<|an<|av (az rfl (aE rfl)) ⟨(⟨none,0,0,none⟩:Sl),rfl,H2⟩) (fun k1 H2=>au<|ag<|ab<|aa (ae rfl) rfl<|ad<|ag<|ag<|ab<|aa (ac rfl) rfl<|ad<|aF<|bS (step:=pE a0 K) (fun s3=>[(0,(pv a0)),(3,(sv s3.1)),(9,(.int .i64 s3.2))]) (fun s3=>[]) H2 (.cons rfl (.cons rfl (.cons rfl (.nil _)))) .slnil (fun Rec4 s3 _ H5=>ag<|ab<|aa (cA rfl rfl) rfl<|ad<|ag<|aD rfl H5 (fun k6 H7=>au<|ag<|aF<|ag<|ab<|aa (ac rfl) rfl<|aa (ae rfl) rfl<|ad<|ag<|ab<|aa (ac rfl) rfl<|aa (ac rfl) rfl<|bP H7 fun q14 e8 H9=>aa (aU (aX rfl (ay e8))) rfl<|aa (am sg rfl) rfl<|il H9 fun h10 H11=>aa (bJ arr_143 rfl rfl h10) rfl<|aj (gL H11 ag_142 rfl (fun _=>rfl) rfl fun x17 H12=>aa (ac rfl) rfl<|ad<|aF<|bS (step:=pD Rec4 s3 x17) (fun s13=>[(0,(pv a0)),(3,(sv s13.1)),(9,(.int .i64 s3.2)),(17,(.agg (jd.C x17).toArray)),(18,(.int .i64 s13.2))]) (fun s13=>[]) H12 (.cons rfl (.cons rfl (.cons rfl (.cons rfl (.cons rfl (.nil _)))))) .slnil (fun Rec14 s13 _ H15=>ag<|ab<|aa (cA rfl rfl) rfl<|ad<|ag<|aD rfl H15 (fun k16 H17=>au<|ag<|aF<|ag<|ab<|aj (be H17 (x_index rfl rfl) rfl fun v20 _ H18=>aj (bb (l:=(cr.C (⟨(⟨0,0,0,0⟩:ar),0⟩:cr))) zero_141 rfl rfl fun b6=>aj (bc (k:=0) (vs:=(cr.C v20)) inf_141 rfl rfl rfl rfl rfl rfl rfl<|ad<|ab<|aa (ac rfl) rfl<|aa (am lX rfl) rfl<|bz (bO (k:=0) gZ rfl rfl rfl rfl) rfl<|aj (be H18 (bK (vs:=[(.agg (ar.C v20.fl).toArray)]) rfl) rfl fun v24 _ H19=>aj (be H19 (dM rfl rfl) rfl fun v25 _ H20=>aa (ae rfl) rfl<|ad<|ab<|aa (bM rfl rfl) rfl<|aa (ac rfl) rfl<|ad<|cW (v25,(IntKind.i64.wrap (s13.2 + 1))) H20 (.cons rfl (.cons rfl (.cons rfl (.cons rfl (.cons rfl (.nil _)))))) (.cons _ .slnil))))))) (fun k16 H17=>bD<|ab<|aa (bM rfl rfl) rfl<|aa (ac rfl) rfl<|ad<|cW (s13.1,(IntKind.i64.wrap (s3.2 + 1))) H17 (.cons rfl (.cons rfl (.cons rfl (.nil _)))) .slnil)))) (fun k6 H7=>bD<|ag<|ab<|aa (ac rfl) rfl<|aa (ae rfl) rfl<|ad<|an<|av (az rfl (aE rfl)) ⟨s3.1,rfl,H7⟩)))
def uR (a0:Ptr) (a1:Int) (a2:Int) (K:Bool→Hp→Prop):Hp→Prop:=br (!((((a0.isNone || (decide (a1 < 0))) || (decide (a1 ≥ 4))) || (decide (a2 < 0))) || (decide (a2 ≥ 2)))) ( nn a0 fun q29=>gd (0 ≤ a1∧a1 < 4)<|gd (0 ≤ a2∧a2 < 2)<|ld (q29.1,q29.2 + 0 + Int.toNat a1 * 10 + Int.toNat a2 * 5 + 0 + 0) (cI .i64) fun x35=>br (decide (x35 < 0)) ( K false) ( st (q29.1,q29.2 + 0 + Int.toNat a1 * 10 + Int.toNat a2 * 5 + 0) (ar.C dU)<|K true)) ( K false)
set_option maxRecDepth 20000 in
theorem sim_tlb_Tlb_Evict (a0:Ptr) (a1:Int) (a2:Int) {K:Bool→Hp→Prop} {h:Hp} (H:uR a0 a1 a2 K h):Ct Tryz.prog qS #[(pv a0),(.int .i64 a1),(.int .i64 a2)] h fun v h'=>∃ r,v = aG r∧K r h':=aC [(pv a0),(.int .i64 a1),(.int .i64 a2)] Tryz.func78 rfl rfl rfl fun _=>ag<|ab<|aa (ae rfl) rfl<|ad<|ag<|ag<|ab<|aa (ac rfl) rfl<|aa (ct Tryz.underlying103 rfl) rfl<|aa (ac rfl) rfl<|ai rfl rfl rfl (aS _) (fun g1=>wv (ac rfl)) rfl<|ai rfl rfl rfl (aS _) (fun g2=>wv (cA (aK rfl g2) rfl)) rfl<|aa (du rfl rfl) rfl<|aa (ac rfl) rfl<|ai rfl rfl rfl (aS _) (fun g3=>wv (ac rfl)) rfl<|ai rfl rfl rfl (aS _) (fun g4=>wv (hO (aK rfl g4) rfl)) rfl<|aa (du rfl rfl) rfl<|aa (ac rfl) rfl<|ai rfl rfl rfl (aS _) (fun g5=>wv (ac rfl)) rfl<|ai rfl rfl rfl (aS _) (fun g6=>wv (cA (aK rfl g6) rfl)) rfl<|aa (du rfl rfl) rfl<|aa (ac rfl) rfl<|ai rfl rfl rfl (aS _) (fun g7=>wv (ac rfl)) rfl<|ai rfl rfl rfl (aS _) (fun g8=>wv (hO (aK rfl g8) rfl)) rfl<|aa (du rfl rfl) rfl<|aa (ac rfl) rfl<|ai rfl rfl rfl (aS _) (fun g9=>wv (ac rfl)) rfl<|ai rfl rfl rfl (aS _) (fun g10=>wv (ac rfl)) rfl<|ai rfl rfl rfl (aS _) (fun g11=>wv (ac rfl)) rfl<|bW H (fun k13 H14=>bP H14 fun q29 e15 H16=>aI rfl rfl rfl (congrArg Value.bool (bL k13)) (aN (wv (aU (aX (aK rfl k13) (ay e15)))) rfl<|aI rfl rfl rfl (congrArg Value.bool (bL k13)) (aN (wv (am sg rfl)) rfl<|il H16 fun h17 H18=>aI rfl rfl rfl (congrArg Value.bool (bL k13)) (aN (wv (bJ arr_143 rfl (aK rfl k13) h17)) rfl<|il H18 fun h19 H20=>aI rfl rfl rfl (congrArg Value.bool (bL k13)) (aN (wv (bJ arr_142 rfl (aK rfl k13) h19)) rfl<|aI rfl rfl rfl (congrArg Value.bool (bL k13)) (aN (wv (am lX rfl)) rfl<|aI rfl rfl rfl (congrArg Value.bool (bL k13)) (aN (wv (am jz rfl)) rfl<|aI rfl rfl rfl (congrArg Value.bool (bL k13)) (bf H20 bj rfl (fun _=>rfl) rfl fun x35 H21=>aI rfl rfl rfl (congrArg Value.bool (bL k13)) (aN (wv (cA rfl rfl)) rfl<|aa (ax rfl (bL k13) rfl) rfl<|ad<|aD rfl H21 (fun k22 H23=>ag<|ab<|aa (ae rfl) rfl<|ad<|an<|av (az rfl (aE rfl)) ⟨false,rfl,H23⟩) (fun k22 H23=>au<|ag<|bE (n:=10) [] cy rfl .slnil<|ah (i:=0) (fun _ _ _ _=>id) rfl (by kernel_rfl) rfl (ve (ac (aX rfl (ay e15))))<|ah (i:=1) (fun _ _ _ _=>id) rfl (by kernel_rfl) rfl (ve (ac rfl))<|ah (i:=2) (fun _ _ _ _=>id) rfl (by kernel_rfl) rfl (ve (ac rfl))<|ah (i:=4) (fun _ _ _ _=>id) rfl (by kernel_rfl) rfl (ve (aU rfl))<|ah (i:=5) (fun _ _ _ _=>id) rfl (by kernel_rfl) rfl (ve (am sg rfl))<|ah (i:=6) (fun _ _ _ _=>id) rfl (by kernel_rfl) rfl (ve (bJ arr_143 rfl rfl h17))<|bg (i:=3) (by kernel_rfl) (aJ rfl rfl (cL (vs:=[]) (bI (wY _)) en_117 rfl rfl<|⟨.slnil,ah (i:=7) (fun _ _ _ _=>id) rfl (by kernel_rfl) rfl (ve (bJ arr_142 rfl rfl h19))<|ah (i:=8) (fun _ _ _ _=>id) rfl (by kernel_rfl) rfl (ve (am lX rfl))<|bg (i:=9) (by kernel_rfl) (aJ rfl rfl (dw fx rfl rfl rfl rfl rfl H23 fun _ H24=>⟨.slnil,bd (by kernel_rfl)<|ag<|ab<|aa (ae rfl) rfl<|ad<|an<|av (az rfl (aE rfl)) ⟨true,rfl,H24⟩⟩))⟩)))))))))))) (fun k13 H14=>al rfl rfl rfl (bF (bp k13)) rfl<|al rfl rfl rfl (bF (bp k13)) rfl<|al rfl rfl rfl (bF (bp k13)) rfl<|al rfl rfl rfl (bF (bp k13)) rfl<|al rfl rfl rfl (bF (bp k13)) rfl<|al rfl rfl rfl (bF (bp k13)) rfl<|al rfl rfl rfl (bF (bp k13)) rfl<|al rfl rfl rfl (bF (bp k13)) rfl<|aa (aT rfl (bp k13) rfl) rfl<|ad<|gR rfl rfl<|ag<|ab<|aa (ae rfl) rfl<|ad<|an<|av (az rfl (aE rfl)) ⟨false,rfl,H14⟩)
end Go.Proofs.YtniiiakkdoiaiaaGreatDoor
namespace Go.Proofs.YtniiiakkdoiaiaaGreatDoor
open Go Mb
abbrev TL:=cr
theorem iA (p:TL):p.C.length = 5:=rfl
def fo (x:Ptr) (t:List TL × Int):As:=fun h=>∃ b:Nat,(x = some (b,0)∧t.1.length = 8)∧aQ [blk b pH ([]++(t.1.flatMap cr.C++[.int .i64 t.2]))] h
theorem mW {x:Ptr} {t:List TL × Int} {l:List As} {h:Hp} (s0:aQ (fo x t::l) h):∃ b,x = some (b,0)∧t.1.length = 8∧aQ (blk b pH ([]++(t.1.flatMap cr.C++[.int .i64 t.2]))::l) h:=by
  obtain ⟨b,⟨hx,hb⟩,st⟩:=op_ s0
  exact ⟨b,hx,hb,st⟩
theorem pC {b:Nat} {t:List TL × Int} {l:List As} {h:Hp} (hb:t.1.length = 8) (st:aQ (blk b pH ([]++(t.1.flatMap cr.C++[.int .i64 t.2]))::l) h):aQ (fo (some (b,0)) t::l) h:=cl_ b ⟨rfl,hb⟩ st
namespace Tlb
abbrev line0:TL:=⟨⟨0,0,0,0⟩,0⟩
def ln (ls:List TL) (n:Nat):TL:=ls.getD n line0
def hit (ls:List TL) (e p:Int) (n:Nat):Prop:=(ln ls n).fl.fEnv = e∧(ln ls n).fl.fPage = p
instance (ls:List TL) (e p:Int) (n:Nat):Decidable (hit ls e p n):=by unfold hit; infer_instance
def at_ (ls:List TL) (e p:Int):Option Nat :=
  if e < 0∨p < 0∨p ≥ 8 then none
  else if hit ls e p ((p.tmod 4).toNat * 2) then some ((p.tmod 4).toNat * 2) else if hit ls e p ((p.tmod 4).toNat * 2 + 1) then some ((p.tmod 4).toNat * 2 + 1) else none
def find (ls:List TL) (e p:Int):ar × Bool:=match at_ ls e p with | some n=>((ln ls n).fl,true) | none=>(⟨0,0,0,0⟩,false)
def flush (t:List TL × Int) (e p:Int):Bool × List TL × Int:=match at_ t.1 e p with | some n=>(true,t.1.set n { ln t.1 n with fl:=dU },t.2) | none=>(false,t)
def evict (t:List TL × Int) (s w:Int):Bool × List TL × Int :=
  if s < 0∨s ≥ 4∨w < 0∨w ≥ 2 then (false,t) else if (ln t.1 (s.toNat * 2 + w.toNat)).fl.fEnv < 0 then (false,t) else (true,t.1.set (s.toNat * 2 + w.toNat) { ln t.1 (s.toNat * 2 + w.toNat) with fl:=dU },t.2)
theorem at_lt {ls:List TL} {e p:Int} {n:Nat} (h:at_ ls e p = some n):n < 8:=by
  unfold at_ at h
  split at h
  · cases h
  · rename_i h0
    have:(p.tmod 4).toNat < 4:=by
      obtain ⟨q,rfl⟩:=Int.eq_ofNat_of_zero_le (show 0 ≤ p by omega)
      rw [show ((4:Int)) = ((4:Nat):Int) from rfl,← Int.ofNat_tmod]
      simp; omega
    split at h
    · cases h; omega
    · split at h
      · cases h; omega
      · cases h
end Tlb
def wH (b:Nat) (o:Option Nat):Ptr:=o.map fun n=>(b,n * 5)
theorem ln_get {ls:List TL} {n:Nat} (h:n < ls.length):Tlb.ln ls n = ls[n]:=by simp [Tlb.ln,h]
theorem sp_tlb_at (b:Nat) (t:List TL × Int) (e p:Int) (hb:t.1.length = 8):Sp Tryz.prog oy [pv (some (b,0)),.int .i64 e,.int .i64 p] jM [fo (some (b,0)) t] (fun r=>pa_ (r = wH b (Tlb.at_ t.1 e p)) [fo (some (b,0)) t]):=by
  intro h s0
  obtain ⟨b',hb',_,st⟩:=mW s0
  cases hb'
  refine sim_tlb_Tlb_at _ _ _ ?_
  unfold sh_tlb_Tlb_at
  refine bk (fun k=>?_) (fun k=>?_)
  · have k':e < 0∨p < 0∨p ≥ 8:=by simpa [or_assoc] using k
    have e1:Tlb.at_ t.1 e p = none:=if_pos k'
    rw [e1]
    exact bh rfl (pC hb st)
  · have k':¬ (e < 0∨p < 0∨p ≥ 8):=by simp at k; omega
    obtain ⟨q,rfl⟩:=Int.eq_ofNat_of_zero_le (show 0 ≤ p by omega)
    have hm:((q:Int).tmod 4) = ((q % 4:Nat):Int):=by rw [show ((4:Int)) = ((4:Nat):Int) from rfl,← Int.ofNat_tmod]
    have hq4:q % 4 < 4:=Nat.mod_lt _ (by omega)
    have e1:Tlb.at_ t.1 e q = if Tlb.hit t.1 e q (q % 4 * 2) then some (q % 4 * 2) else if Tlb.hit t.1 e q (q % 4 * 2 + 1) then some (q % 4 * 2 + 1) else none:=by
      unfold Tlb.at_; rw [if_neg k',hm,Int.toNat_natCast]
    refine Lp.intro (fun (w:Int) h=>∃ n:Nat,w = n∧n ≤ 2∧(∀ m,m < n→¬ Tlb.hit t.1 e q (q % 4 * 2 + m))∧aQ [fo (some (b,0)) t] h) (fun (w:Int) _=>2 - w.toNat) ⟨0,rfl,by omega,by intro m hm; omega,pC hb st⟩ ?_
    rintro w h ⟨n,rfl,hn,hno,s1⟩
    unfold uo
    refine bk (fun k2=>?_) (fun k2=>?_)
    · have hlt:n < 2:=by have:=of_decide_eq_true k2; omega
      obtain ⟨b',hb',_,s2⟩:=mW s1
      cases hb'
      have hi:q % 4 * 2 + n < t.1.length:=by rw [hb]; omega
      have hw:IntKind.i64.wrap ((n:Int) + 1) = ((n + 1:Nat):Int):=by rw [cm (by omega) (by omega)]; rfl
      rw [hm]
      refine cC ⟨⟨by omega,by omega⟩,⟨by omega,by omega⟩,?_⟩
      have next:¬ Tlb.hit t.1 e q (q % 4 * 2 + n)→∀ h,aQ [fo (some (b,0)) t] h →
          (∃ m:Nat,IntKind.i64.wrap ((n:Int) + 1) = m∧m ≤ 2∧(∀ k,k < m→¬ Tlb.hit t.1 e q (q % 4 * 2 + k))∧aQ [fo (some (b,0)) t] h)∧2 - (IntKind.i64.wrap ((n:Int) + 1)).toNat < 2 - (n:Int).toNat:=by
        intro hnot h s
        rw [hw]
        refine ⟨⟨n + 1,rfl,hlt,fun k hk=>?_,s⟩,by simp; omega⟩
        by_cases hkn:k = n
        · subst hkn; exact hnot
        · exact hno k (by omega)
      refine ld_a (j:=0) (i:=q % 4 * 2 + n) (k:=0) t.1[q % 4 * 2 + n].fl.fEnv iA s2 rfl (by simp; omega) (aL hi) (c1 rfl rfl) ?_
      refine bk (fun k3=>?_) (fun k3=>?_)
      · refine ld_a (j:=0) (i:=q % 4 * 2 + n) (k:=1) t.1[q % 4 * 2 + n].fl.fPage iA s2 rfl (by simp; omega) (aL hi) (c1 rfl rfl) ?_
        unfold mB
        refine bk (fun k4=>?_) (fun k4=>?_)
        · have hh:Tlb.hit t.1 e q (q % 4 * 2 + n):=by
            unfold Tlb.hit; rw [ln_get hi]; exact ⟨by simpa using k3,by simpa using k4⟩
          refine bh ?_ s1
          rw [e1]
          have hn01:n = 0∨n = 1:=by omega
          rcases hn01 with rfl | rfl
          · rw [Nat.add_zero] at hh; rw [if_pos hh]; simp [wH,hm]; omega
          · have:=hno 0 (by omega); rw [Nat.add_zero] at this; rw [if_neg this,if_pos hh]; simp [wH,hm]; omega
        · exact next (by unfold Tlb.hit; rw [ln_get hi]; intro hh; simp [hh.2] at k4) h s1
      · unfold mB
        refine dv rfl ?_
        exact next (by unfold Tlb.hit; rw [ln_get hi]; intro hh; simp [hh.1] at k3) h s1
    · have hn2:n = 2:=by have:=of_decide_eq_false k2; omega
      subst hn2
      refine bh ?_ s1
      have h0:=hno 0 (by omega)
      have h1:=hno 1 (by omega)
      rw [Nat.add_zero] at h0
      rw [e1,if_neg h0,if_neg h1]
      rfl
theorem sp_tlb_Find (x:Ptr) (t:List TL × Int) (e p:Int):Sp Tryz.prog oz [pv x,.int .i64 e,.int .i64 p] fH [fo x t] (fun r=>pa_ (r = Tlb.find t.1 e p) [fo x t]):=by
  intro h s0
  obtain ⟨b,rfl,hb,st⟩:=mW s0
  refine sim_tlb_Tlb_Find _ _ _ ?_
  unfold sh_tlb_Tlb_Find
  refine cT [0] (sp_tlb_at b t e p hb) s0 rfl fun r h' s1=>?_
  obtain ⟨hr,s2⟩:=bH.1 s1
  unfold Tlb.find
  cases ho:Tlb.at_ t.1 e p with
  | none =>
    rw [ho] at hr; subst hr
    exact df rfl (bh rfl s2)
  | some n =>
    rw [ho] at hr; subst hr
    have hn:n < t.1.length:=by rw [hb]; exact Tlb.at_lt ho
    obtain ⟨b',hb',_,s3⟩:=mW s2
    cases hb'
    refine dv rfl (cC ?_)
    refine ld_a (j:=0) (i:=n) (k:=0) t.1[n].fl iA s3 rfl (by simp) (aL hn) ?_ ?_
    · intro m v hv
      rw [Nat.zero_add]
      have:m < 4:=(List.getElem?_eq_some_iff.1 hv).1
      match m,this with
      | 0,_=>exact hv
      | 1,_=>exact hv
      | 2,_=>exact hv
      | 3,_=>exact hv
    · refine bh ?_ (pC hb s3)
      show _ = ((Tlb.ln t.1 n).fl,true)
      rw [ln_get hn]
theorem sp_tlb_Flush (x:Ptr) (t:List TL × Int) (e p:Int):Sp Tryz.prog mQ [pv x,.int .i64 e,.int .i64 p] aG [fo x t] (fun r=>pa_ (r = (Tlb.flush t e p).1) [fo x (Tlb.flush t e p).2]):=by
  intro h s0
  obtain ⟨b,rfl,hb,st⟩:=mW s0
  refine sim_tlb_Tlb_Flush _ _ _ ?_
  unfold uQ
  refine cT [0] (sp_tlb_at b t e p hb) s0 rfl fun r h' s1=>?_
  obtain ⟨hr,s2⟩:=bH.1 s1
  cases ho:Tlb.at_ t.1 e p with
  | none =>
    rw [ho] at hr; subst hr
    have e1:Tlb.flush t e p = (false,t):=by unfold Tlb.flush; rw [ho]
    rw [e1]
    exact df rfl (bh rfl s2)
  | some n =>
    rw [ho] at hr; subst hr
    have hn:n < t.1.length:=by rw [hb]; exact Tlb.at_lt ho
    have e1:Tlb.flush t e p = (true,t.1.set n { t.1[n] with fl:=dU },t.2):=by unfold Tlb.flush; rw [ho,← ln_get hn]
    rw [e1]
    obtain ⟨b',hb',_,s3⟩:=mW s2
    cases hb'
    refine dv rfl (cC ?_)
    refine st_a (j:=0) (i:=n) (k:=0) { t.1[n] with fl:=dU } iA s3 rfl (by simp) (aL hn) (by simp [ar.C]) rfl fun h2 s4=>?_
    exact bh rfl (pC (t:=(t.1.set n { t.1[n] with fl:=dU },t.2)) (by simpa using hb) s4)
theorem sp_tlb_Evict (x:Ptr) (t:List TL × Int) (s w:Int):Sp Tryz.prog qS [pv x,.int .i64 s,.int .i64 w] aG [fo x t] (fun r=>pa_ (r = (Tlb.evict t s w).1) [fo x (Tlb.evict t s w).2]):=by
  intro h s0
  obtain ⟨b,rfl,hb,st⟩:=mW s0
  refine sim_tlb_Tlb_Evict _ _ _ ?_
  unfold uR
  refine bk (fun k=>?_) (fun k=>?_)
  · have k':¬ (s < 0∨s ≥ 4∨w < 0∨w ≥ 2):=by simp at k; omega
    obtain ⟨i,rfl⟩:=Int.eq_ofNat_of_zero_le (show 0 ≤ s by omega)
    obtain ⟨j,rfl⟩:=Int.eq_ofNat_of_zero_le (show 0 ≤ w by omega)
    have hi:i * 2 + j < t.1.length:=by rw [hb]; omega
    refine cC ⟨⟨by omega,by omega⟩,⟨by omega,by omega⟩,?_⟩
    refine ld_a (j:=0) (i:=i * 2 + j) (k:=0) t.1[i * 2 + j].fl.fEnv iA st rfl (by simp; omega) (aL hi) (c1 rfl rfl) ?_
    have hat:Tlb.ln t.1 ((i:Int).toNat * 2 + (j:Int).toNat) = t.1[i * 2 + j]:=ln_get hi
    refine bk (fun k2=>?_) (fun k2=>?_)
    · have e1:Tlb.evict t i j = (false,t):=by unfold Tlb.evict; rw [if_neg k',hat,if_pos (by simpa using k2)]
      rw [e1]
      exact bh rfl (pC hb st)
    · have e1:Tlb.evict t i j = (true,t.1.set (i * 2 + j) { t.1[i * 2 + j] with fl:=dU },t.2):=by unfold Tlb.evict; rw [if_neg k',hat,if_neg (by simpa using k2)]; rfl
      rw [e1]
      refine st_a (j:=0) (i:=i * 2 + j) (k:=0) { t.1[i * 2 + j] with fl:=dU } iA st rfl (by simp; omega) (aL hi) (by simp [ar.C]) rfl fun h2 s4=>?_
      exact bh rfl (pC (t:=(t.1.set (i * 2 + j) { t.1[i * 2 + j] with fl:=dU },t.2)) (by simpa using hb) s4)
  · have k':s < 0∨s ≥ 4∨w < 0∨w ≥ 2:=by simp at k; omega
    have e1:Tlb.evict t s w = (false,t):=if_pos k'
    rw [e1]
    exact bh rfl (pC hb st)
namespace Tlb
def room (ls:List TL) (a:Nat):Nat :=
  if (ln ls a).fl.fEnv < 0 then a else if (ln ls (a + 1)).fl.fEnv < 0 then a + 1 else if (ln ls (a + 1)).fwhen < (ln ls a).fwhen then a + 1 else a
end Tlb
theorem sp_tlb_room (b:Nat) (t:List TL × Int) (s:Nat) (hs:s < 4) (hb:t.1.length = 8):Sp Tryz.prog sQ [pv (some (b,0)),.int .i64 s] jM [fo (some (b,0)) t] (fun r=>pa_ (r = wH b (some (Tlb.room t.1 (s * 2)))) [fo (some (b,0)) t]):=by
  intro h s0
  refine sim_tlb_Tlb_room _ _ ?_
  unfold sh_tlb_Tlb_room
  have w1:IntKind.i64.wrap (((0:Nat):Int) + 1) = 1:=by rw [cm (by omega) (by omega)]; rfl
  have w2:IntKind.i64.wrap ((1:Int) + 1) = 2:=by rw [cm (by omega) (by omega)]; rfl
  have h0:s * 2 < t.1.length:=by omega
  have h1:s * 2 + 1 < t.1.length:=by omega
  have l0:=ln_get h0
  have l1:=ln_get h1
  refine Lp.intro (fun (z:Ptr × Int) h=>((z = (none,0))∨(z = (some (b,s * 2 * 5),1)∧¬ (t.1[s * 2]).fl.fEnv < 0)∨(z.2 = 2∧z.1 = wH b (some (Tlb.room t.1 (s * 2)))))∧aQ [fo (some (b,0)) t] h) (fun (z:Ptr × Int) _=>2 - z.2.toNat) ⟨.inl rfl,s0⟩ ?_
  rintro ⟨z,i⟩ h ⟨hz,s1⟩
  obtain ⟨b',hb',_,s2⟩:=mW s1
  cases hb'
  unfold qO
  rcases hz with hz | ⟨hz,hne⟩ | ⟨hz1,hz2⟩
  · cases hz
    refine df rfl (cC ⟨⟨by omega,by omega⟩,⟨by omega,by omega⟩,?_⟩)
    refine ld_a (j:=0) (i:=s * 2) (k:=0) t.1[s * 2].fl.fEnv iA s2 rfl (by simp; omega) (aL h0) (c1 rfl rfl) ?_
    refine bk (fun k=>?_) (fun k=>?_)
    · have k':t.1[s * 2].fl.fEnv < 0:=by simpa using k
      refine bh ?_ s1
      unfold Tlb.room
      rw [l0,if_pos k']
      simp [wH]; omega
    · have k':¬ t.1[s * 2].fl.fEnv < 0:=by simpa using k
      refine df rfl ?_
      refine ⟨⟨.inr (.inl ⟨?_,k'⟩),s1⟩,?_⟩
      · show (some (b,0 + 0 + (s:Int).toNat * 10 + (0:Int).toNat * 5),IntKind.i64.wrap ((0:Int) + 1)) = _
        have:IntKind.i64.wrap ((0:Int) + 1) = 1:=w1
        rw [this]
        simp; omega
      · have:IntKind.i64.wrap ((0:Int) + 1) = 1:=w1
        show 2 - (IntKind.i64.wrap ((0:Int) + 1)).toNat < _
        rw [this]; decide
  · cases hz
    refine df rfl (cC ⟨⟨by omega,by omega⟩,⟨by omega,by omega⟩,?_⟩)
    refine ld_a (j:=0) (i:=s * 2 + 1) (k:=0) t.1[s * 2 + 1].fl.fEnv iA s2 rfl (by simp; omega) (aL h1) (c1 rfl rfl) ?_
    refine bk (fun k=>?_) (fun k=>?_)
    · have k':t.1[s * 2 + 1].fl.fEnv < 0:=by simpa using k
      refine bh ?_ s1
      unfold Tlb.room
      rw [l0,l1,if_neg hne,if_pos k']
      simp [wH]; omega
    · have k':¬ t.1[s * 2 + 1].fl.fEnv < 0:=by simpa using k
      refine dv rfl (cC ?_)
      refine ld_a (j:=0) (i:=s * 2 + 1) (k:=4) t.1[s * 2 + 1].fwhen iA s2 rfl (by simp; omega) (aL h1) (c1 rfl rfl) ?_
      refine ld_a (j:=0) (i:=s * 2) (k:=4) t.1[s * 2].fwhen iA s2 rfl (by simp) (aL h0) (c1 rfl rfl) ?_
      refine bk (fun k2=>?_) (fun k2=>?_)
      · have k2':t.1[s * 2 + 1].fwhen < t.1[s * 2].fwhen:=by simpa using k2
        refine ⟨⟨.inr (.inr ⟨w2,?_⟩),s1⟩,by show 2 - (IntKind.i64.wrap ((1:Int) + 1)).toNat < _; rw [w2]; simp⟩
        unfold Tlb.room
        rw [l0,l1,if_neg hne,if_neg k',if_pos k2']
        simp [wH]; omega
      · have k2':¬ t.1[s * 2 + 1].fwhen < t.1[s * 2].fwhen:=by simpa using k2
        refine ⟨⟨.inr (.inr ⟨w2,?_⟩),s1⟩,by show 2 - (IntKind.i64.wrap ((1:Int) + 1)).toNat < _; rw [w2]; simp⟩
        unfold Tlb.room
        rw [l0,l1,if_neg hne,if_neg k',if_neg k2']
        simp [wH]
  · simp only at hz1 hz2
    subst hz1
    exact dv rfl (bh hz2 s1)
namespace Tlb
def bad (a:ar):Prop:=a.fEnv < 0∨a.fEnv ≥ 4∨a.fPage < 0∨a.fPage ≥ 8∨a.fFrame < 0∨a.fFrame ≥ 16∨cM a.fRights = false
instance (a:ar):Decidable (bad a):=by unfold bad; infer_instance
def place (ls:List TL) (a:ar):Nat:=match at_ ls a.fEnv a.fPage with | some n=>n | none=>room ls ((a.fPage.tmod 4).toNat * 2)
def fill (t:List TL × Int) (a:ar):Bool × List TL × Int :=
  if bad a then (false,t) else (true,t.1.set (place t.1 a) ⟨a,IntKind.i64.wrap (t.2 + 1)⟩,IntKind.i64.wrap (t.2 + 1))
def clr (c:TL):TL:={ c with fl:=dU }
def clear (t:List TL × Int):List TL × Int:=(t.1.map clr,t.2)
end Tlb
theorem tmod4 {p:Int} (h0:0 ≤ p):∃ q:Nat,p.tmod 4 = q∧q < 4:=by
  obtain ⟨q,rfl⟩:=Int.eq_ofNat_of_zero_le h0
  exact ⟨q % 4,by rw [show ((4:Int)) = ((4:Nat):Int) from rfl,← Int.ofNat_tmod],Nat.mod_lt _ (by omega)⟩
theorem room_lt (ls:List TL) (a:Nat):Tlb.room ls a ≤ a + 1:=by
  unfold Tlb.room; split <;> (try split) <;> (try split) <;> omega
theorem sp_tlb_Fill (x:Ptr) (t:List TL × Int) (a:ar):Sp Tryz.prog oA [pv x,.agg a.C.toArray] aG [fo x t] (fun r=>pa_ (r = (Tlb.fill t a).1) [fo x (Tlb.fill t a).2]):=by
  intro h s0
  obtain ⟨b,rfl,hb,st⟩:=mW s0
  refine sim_tlb_Tlb_Fill _ _ ?_
  unfold sh_tlb_Tlb_Fill
  refine bk (fun k=>?_) (fun k=>?_)
  · have k':Tlb.bad a:=by simpa [Tlb.bad,or_assoc] using k
    have e1:Tlb.fill t a = (false,t):=if_pos k'
    rw [e1]
    exact bh rfl (pC hb st)
  · have k':¬ Tlb.bad a:=by
      unfold Tlb.bad
      simp at k
      obtain ⟨⟨⟨⟨⟨⟨c1,c2⟩,c3⟩,c4⟩,c5⟩,c6⟩,c7⟩:=k
      simp [c7]; omega
    have e1:Tlb.fill t a = (true,t.1.set (Tlb.place t.1 a) ⟨a,IntKind.i64.wrap (t.2 + 1)⟩,IntKind.i64.wrap (t.2 + 1)):=if_neg k'
    rw [e1]
    have fin:∀ (n:Nat) (h:Hp),n = Tlb.place t.1 a→n < 8→aQ [fo (some (b,0)) t] h→ka (some (b,0)) a (fun r=>pa_ (r = true) [fo (some (b,0)) (t.1.set (Tlb.place t.1 a) ⟨a,IntKind.i64.wrap (t.2 + 1)⟩,IntKind.i64.wrap (t.2 + 1))]) (some (b,n * 5)) h:=by
      intro n h hn hlt s1
      obtain ⟨b',hb',_,s2⟩:=mW s1
      cases hb'
      have hn':n < t.1.length:=by omega
      have hfl:(t.1.flatMap cr.C).length = 40:=by rw [eq iA,hb]
      have nI:([]++(t.1.flatMap cr.C++[Value.int .i64 t.2]))[0 + 40]? = some (.int .i64 t.2):=by
        rw [List.nil_append,List.getElem?_append_right (by omega),hfl]; rfl
      unfold ka
      refine cC (bB t.2 s2 (i:=0) rfl rfl nI ?_)
      refine tw (i:=0) s2 rfl (by simp [hfl]) fun h3 s3=>?_
      have ew:wr ([]++(t.1.flatMap cr.C++[Value.int .i64 t.2])) (0 + 40) [.int .i64 (IntKind.i64.wrap (t.2 + 1))] = []++(t.1.flatMap cr.C++[Value.int .i64 (IntKind.i64.wrap (t.2 + 1))]):=by
        rw [List.nil_append,List.nil_append,show 0 + 40 = (t.1.flatMap cr.C).length + 0 from by rw [hfl],qj]; rfl
      have s4:aQ [blk b pH ([]++(t.1.flatMap cr.C++[Value.int .i64 (IntKind.i64.wrap (t.2 + 1))]))] h3:=by rw [← ew]; exact s3
      have hcell2:([]++(t.1.flatMap cr.C++[Value.int .i64 (IntKind.i64.wrap (t.2 + 1))]))[0 + 40]? = some (.int .i64 (IntKind.i64.wrap (t.2 + 1))):=by
        rw [List.nil_append,List.getElem?_append_right (by omega),hfl]; rfl
      refine bB (IntKind.i64.wrap (t.2 + 1)) s4 (i:=0) rfl rfl hcell2 ?_
      refine cC ?_
      refine st_a (j:=0) (i:=n) (k:=0) (⟨a,IntKind.i64.wrap (t.2 + 1)⟩:TL) iA s4 rfl (by simp) (aL hn') (by simp [iA]) rfl fun h5 s5=>?_
      subst hn
      exact bh rfl (pC (t:=(t.1.set (Tlb.place t.1 a) ⟨a,IntKind.i64.wrap (t.2 + 1)⟩,IntKind.i64.wrap (t.2 + 1))) (by simpa using hb) s5)
    refine cT [0] (sp_tlb_at b t a.fEnv a.fPage hb) s0 rfl fun r h' s1=>?_
    obtain ⟨hr,s2⟩:=bH.1 s1
    cases ho:Tlb.at_ t.1 a.fEnv a.fPage with
    | none =>
      rw [ho] at hr; subst hr
      refine df rfl ?_
      obtain ⟨q,hq,hq4⟩:=tmod4 (p:=a.fPage) (by unfold Tlb.bad at k'; omega)
      rw [hq]
      refine cT [0] (sp_tlb_room b t q hq4 hb) s2 rfl fun r h' s3=>?_
      obtain ⟨hr,s4⟩:=bH.1 s3
      subst hr
      have hp:Tlb.room t.1 (q * 2) = Tlb.place t.1 a:=by unfold Tlb.place; rw [ho,hq,Int.toNat_natCast]
      exact fin _ _ hp (by have:=room_lt t.1 (q * 2); omega) s4
    | some n =>
      rw [ho] at hr; subst hr
      refine dv rfl ?_
      exact fin _ _ (by unfold Tlb.place; rw [ho]) (Tlb.at_lt ho) s2
theorem tlb_clear_take (ls:List TL) (n:Nat) (hn:n < ls.length):(((ls.take n).map Tlb.clr)++ls.drop n).set n (Tlb.clr ls[n]) = ((ls.take (n + 1)).map Tlb.clr)++ls.drop (n + 1):=by
  have h1:ls.drop n = ls[n]::ls.drop (n + 1):=List.drop_eq_getElem_cons hn
  have h2:ls.take (n + 1) = ls.take n++[ls[n]]:=by simp
  rw [h2,List.map_append,List.set_append_right _ _ (by simp; omega)]
  have:n - ((ls.take n).map Tlb.clr).length = 0:=by simp; omega
  rw [this,h1,List.append_assoc]
  rfl
theorem sp_tlb_Clear (x:Ptr) (t:List TL × Int):Sp Tryz.prog qT [pv x] R_ [fo x t] (fun _=>aQ [fo x (Tlb.clear t)]):=by
  intro h s0
  obtain ⟨b,rfl,hb,st⟩:=mW s0
  refine sim_tlb_Tlb_Clear _ ?_
  unfold uS
  refine dv rfl ?_
  have mid:∀ n:Nat,n ≤ 8→((((t.1.take n).map Tlb.clr)++t.1.drop n)).length = 8:=by intro n hn; simp; omega
  refine Lp.intro (fun (i:Int) h=>∃ n:Nat,i = n∧n ≤ 4∧aQ [fo (some (b,0)) (((t.1.take (n * 2)).map Tlb.clr)++t.1.drop (n * 2),t.2)] h) (fun (i:Int) _=>4 - i.toNat) ⟨0,rfl,by omega,by simpa using pC hb st⟩ ?_
  rintro i h ⟨n,rfl,hn,s1⟩
  unfold pG
  refine bk (fun k=>?_) (fun k=>?_)
  · have hlt:n < 4:=by have:=of_decide_eq_true k; omega
    refine Lp.intro (fun (j:Int) h=>∃ m:Nat,j = m∧m ≤ 2∧aQ [fo (some (b,0)) (((t.1.take (n * 2 + m)).map Tlb.clr)++t.1.drop (n * 2 + m),t.2)] h) (fun (j:Int) _=>2 - j.toNat) ⟨0,rfl,by omega,s1⟩ ?_
    rintro j h ⟨m,rfl,hm,s2⟩
    unfold pF
    refine bk (fun k2=>?_) (fun k2=>?_)
    · have hlt2:m < 2:=by have:=of_decide_eq_true k2; omega
      have hw:IntKind.i64.wrap ((m:Int) + 1) = ((m + 1:Nat):Int):=by rw [cm (by omega) (by omega)]; rfl
      have hi:n * 2 + m < t.1.length:=by omega
      obtain ⟨b',hb',_,s3⟩:=mW s2
      cases hb'
      refine cC ⟨⟨by omega,by omega⟩,⟨by omega,by omega⟩,?_⟩
      have hget:(((t.1.take (n * 2 + m)).map Tlb.clr)++t.1.drop (n * 2 + m))[n * 2 + m]? = some t.1[n * 2 + m]:=by
        rw [List.getElem?_append_right (by simp; omega)]
        have:n * 2 + m - ((t.1.take (n * 2 + m)).map Tlb.clr).length = 0:=by simp; omega
        rw [this,List.getElem?_drop]
        exact aL hi
      refine st_a (j:=0) (i:=n * 2 + m) (k:=0) (Tlb.clr t.1[n * 2 + m]) iA s3 rfl (by simp; omega) hget (by simp [ar.C]) rfl fun h2 s4=>?_
      rw [hw]
      refine ⟨⟨m + 1,rfl,hlt2,?_⟩,by simp; omega⟩
      have:=tlb_clear_take t.1 (n * 2 + m) hi
      have s5:=pC (t:=((((t.1.take (n * 2 + m)).map Tlb.clr)++t.1.drop (n * 2 + m)).set (n * 2 + m) (Tlb.clr t.1[n * 2 + m]),t.2)) (by simp; omega) s4
      rw [this] at s5
      exact s5
    · have hm2:m = 2:=by have:=of_decide_eq_false k2; omega
      subst hm2
      have hw:IntKind.i64.wrap ((n:Int) + 1) = ((n + 1:Nat):Int):=by rw [cm (by omega) (by omega)]; rfl
      rw [hw]
      exact ⟨⟨n + 1,rfl,hlt,by rw [show (n + 1) * 2 = n * 2 + 2 from by omega]; exact s2⟩,by simp; omega⟩
  · have hn4:n = 4:=by have:=of_decide_eq_false k; omega
    subst hn4
    have e:(((t.1.take (4 * 2)).map Tlb.clr)++t.1.drop (4 * 2),t.2) = Tlb.clear t:=by
      unfold Tlb.clear
      rw [show 4 * 2 = t.1.length from by rw [hb],List.take_length,List.drop_length,List.append_nil]
    rw [e] at s1
    exact s1
theorem tlb_new_run (K:Value→Hp→Prop) (h:Hp):hp Tryz.prog (Instr.build pH #[]) K h = K (.agg (((List.replicate 8 Tlb.line0).flatMap cr.C++[Value.int .i64 0])).toArray) h:=by kernel_rfl
abbrev tlb0:List TL × Int:=(List.replicate 8 ⟨⟨-1,0,0,0⟩,0⟩,0)
theorem vO:Sp Tryz.prog iE [] gC [] (fun r=>aQ [fo r tlb0]):=by
  intro h st
  refine sim_tlb_New ?_
  unfold sh_tlb_New
  refine ⟨?_⟩
  rw [tlb_new_run]
  refine ⟨_,rfl,?_⟩
  refine oT st fun b h' s1=>?_
  have s2:=pC (t:=(List.replicate 8 Tlb.line0,0)) rfl s1
  refine cT [0] (sp_tlb_Clear (some (b,0)) _) s2 rfl fun r h' s3=>?_
  exact dJ s3
abbrev vL (s:Sl) (xs:List ar):As:=vec t_api_Line 4 ar.C s xs
theorem line_len (p:ar):p.C.length = 4:=rfl
theorem line_one (p:ar):dO p.C = true:=rfl
def Tlb.lines (t:List TL × Int):List ar:=t.1.map (·.fl)
theorem sp_tlb_Lines (x:Ptr) (t:List TL × Int):Sp Tryz.prog mP [pv x] je [fo x t] (fun r=>aQ [vL r (Tlb.lines t),fo x t]):=by
  intro h s0
  obtain ⟨b,rfl,hb,st⟩:=mW s0
  refine sim_tlb_Tlb_Lines _ ?_
  unfold uP
  refine dv rfl ?_
  refine Lp.intro (fun (z:Sl × Int) h=>∃ n:Nat,z.2 = n∧n ≤ 4∧aQ [vL z.1 ((t.1.take (n * 2)).map (·.fl)),fo (some (b,0)) t] h) (fun (z:Sl × Int) _=>4 - z.2.toNat) ⟨0,rfl,by omega,ft (pC hb st)⟩ ?_
  rintro ⟨z,i⟩ h ⟨n,rfl,hn,s1⟩
  unfold pE
  refine bk (fun k=>?_) (fun k=>?_)
  · have hlt:n < 4:=by have:=of_decide_eq_true k; omega
    have h0:n * 2 < t.1.length:=by omega
    have h1:n * 2 + 1 < t.1.length:=by omega
    obtain ⟨b',hb',_,s2⟩:=mW (bn [1] s1 rfl)
    cases hb'
    refine cC ⟨⟨by omega,by omega⟩,?_⟩
    refine ld_s (⟨t.1[n * 2],t.1[n * 2 + 1]⟩:jd) s2 (i:=0) rfl ?_ ?_
    · intro j v hv
      have hfl:(t.1.flatMap cr.C).length = 40:=by rw [eq iA,hb]
      have hsp:jd.C ⟨t.1[n * 2],t.1[n * 2 + 1]⟩ = (t.1[n * 2]).C++(t.1[n * 2 + 1]).C:=rfl
      rw [hsp] at hv
      have hj:j < 10:=by have:=(List.getElem?_eq_some_iff.1 hv).1; simpa [iA] using this
      have key:(t.1.flatMap cr.C)[n * 10 + j]? = some v:=by
        by_cases h5:j < 5
        · rw [List.getElem?_append_left (by simpa [iA] using h5)] at hv
          have:=tc iA t.1 (n * 2) j _ v (aL h0) hv
          rw [show n * 10 + j = n * 2 * 5 + j from by omega]; exact this
        · rw [List.getElem?_append_right (by simp [iA]; omega),iA] at hv
          have:=tc iA t.1 (n * 2 + 1) (j - 5) _ v (aL h1) hv
          rw [show n * 10 + j = (n * 2 + 1) * 5 + (j - 5) from by omega]; exact this
      have hlt':=(List.getElem?_eq_some_iff.1 key).1
      rw [List.nil_append,show (b,0).2 + 0 + (n:Int).toNat * 10 + j = n * 10 + j from by simp,List.getElem?_append_left hlt']
      exact key
    · refine Lp.intro (fun (z:Sl × Int) h=>∃ m:Nat,z.2 = m∧m ≤ 2∧aQ [vL z.1 ((t.1.take (n * 2 + m)).map (·.fl)),fo (some (b,0)) t] h) (fun (z:Sl × Int) _=>2 - z.2.toNat) ⟨0,rfl,by omega,s1⟩ ?_
      rintro ⟨y,j⟩ h ⟨m,rfl,hm,s3⟩
      unfold pD
      refine bk (fun k2=>?_) (fun k2=>?_)
      · have hlt2:m < 2:=by have:=of_decide_eq_true k2; omega
        have hw:IntKind.i64.wrap ((m:Int) + 1) = ((m + 1:Nat):Int):=by rw [cm (by omega) (by omega)]; rfl
        have hi:n * 2 + m < t.1.length:=by omega
        have hget:[t.1[n * 2],t.1[n * 2 + 1]][m]? = some t.1[n * 2 + m]:=by
          have:m = 0∨m = 1:=by omega
          rcases this with rfl | rfl <;> rfl
        refine index_v (enc:=cr.C) (m:=5) (xs:=[t.1[n * 2],t.1[n * 2 + 1]]) arn_2_tlb_line age_2_tlb_line iA (fun _=>rfl) rfl hget ?_
        have hlen:(((t.1.take (n * 2 + m)).map (·.fl)):List ar).length ≤ 8:=by simp; omega
        refine ku (τ:=ar) (i:=0) (enc:=ar.C) (val:=fun x=>.agg x.C.toArray) el_Sapi_Line line_len line_one (fun _=>rfl) (by omega) rfl rfl s3 rfl (by omega) (by omega) fun v h' s4=>?_
        rw [hw]
        refine ⟨⟨m + 1,rfl,hlt2,?_⟩,by simp; omega⟩
        have ht:t.1.take (n * 2 + (m + 1)) = t.1.take (n * 2 + m)++[t.1[n * 2 + m]]:=by rw [← Nat.add_assoc]; simp
        rw [ht,List.map_append]
        exact s4
      · have hm2:m = 2:=by have:=of_decide_eq_false k2; omega
        subst hm2
        have hw:IntKind.i64.wrap ((n:Int) + 1) = ((n + 1:Nat):Int):=by rw [cm (by omega) (by omega)]; rfl
        rw [hw]
        exact ⟨⟨n + 1,rfl,hlt,by rw [show (n + 1) * 2 = n * 2 + 2 from by omega]; exact s3⟩,by simp; omega⟩
  · have hn4:n = 4:=by have:=of_decide_eq_false k; omega
    subst hn4
    rw [show t.1.take (4 * 2) = t.1 from by rw [show 4 * 2 = t.1.length from by rw [hb]]; exact List.take_length] at s1
    exact s1
end Go.Proofs.YtniiiakkdoiaiaaGreatDoor
namespace Go.Proofs.YtniiiakkdoiaiaaGreatDoor
open Go Mb
set_option linter.unusedVariables false
def sh_user_Walk (a0:Ptr) (a1:Ptr) (a2:Int) (a3:Int) (a4:Int) (K:(ar × Bool)→Hp→Prop):Hp→Prop:=cl Tryz.prog oz [(pv a0),(.int .i64 a2),(.int .i64 a3)] fH fun r21=>br (r21.2 && (dx r21.1.fRights a4)) ( K (r21.1,true)) ( cl Tryz.prog eV [(pv a1),(.int .i64 a3)] cF fun r35=>br (!(dx r35.1.fRights a4)) ( cl Tryz.prog mQ [(pv a0),(.int .i64 a2),(.int .i64 a3)] aG fun r46=>K ((⟨0,0,0,0⟩:ar),false)) ( cl Tryz.prog oA [(pv a0),(.agg (ar.C (⟨a2,a3,r35.1.fFrame,r35.1.fRights⟩:ar)).toArray)] aG fun r57=>K ((⟨a2,a3,r35.1.fFrame,r35.1.fRights⟩:ar),true)))
set_option maxRecDepth 20000 in
theorem sim_user_Walk (a0:Ptr) (a1:Ptr) (a2:Int) (a3:Int) (a4:Int) {K:(ar × Bool)→Hp→Prop} {h:Hp} (H:sh_user_Walk a0 a1 a2 a3 a4 K h):Ct Tryz.prog uc #[(pv a0),(pv a1),(.int .i64 a2),(.int .i64 a3),(.int .i64 a4)] h fun v h'=>∃ r,v = fH r∧K r h':=aC [(pv a0),(pv a1),(.int .i64 a2),(.int .i64 a3),(.int .i64 a4)] Tryz.func98 rfl rfl rfl fun _=>ag<|ab<|aj (bb (l:=(ar.C (⟨0,0,0,0⟩:ar))) kI rfl rfl fun b10=>aa (ae rfl) rfl<|ad<|ag<|ag<|ab<|aa (ac rfl) rfl<|aa (ac rfl) rfl<|aa (ac rfl) rfl<|aj (aA H en_141 rfl rfl fun r21 _ H1=>aa (ac rfl) rfl<|aa (ap rfl rfl) rfl<|aa (ap rfl rfl) rfl<|aj (bb (l:=(ar.C (⟨0,0,0,0⟩:ar))) kI rfl rfl fun b12=>aj (bc (k:=0) (vs:=(ar.C r21.1)) fx rfl rfl rfl rfl rfl rfl rfl<|aa (ae rfl) rfl<|ad<|ag<|ab<|aa (ac rfl) rfl<|aa (ac rfl) rfl<|ai rfl rfl rfl (aB _) (fun g2=>wv (am qJ rfl)) rfl<|ai rfl rfl rfl (aB _) (fun g3=>cv (bq (k:=0) bj (aK rfl g3) rfl rfl)) rfl<|ai rfl rfl rfl (aB _) (fun g4=>wv (ac rfl)) rfl<|de (vs:=[(.int .i64 r21.1.fRights),(.int .i64 a4)]) rfl rfl rfl (aB _) (fun g5=>(bI (jL r21.1.fRights a4 _))) en_142 (fun g5=>(aY (aK rfl g5) (aY (aK rfl g5) bU))) rfl<|aa (bX rfl rfl) rfl<|ad<|aD rfl H1 (fun k6 H7=>ag<|ab<|bz (bO (k:=0) gZ rfl rfl rfl rfl) rfl<|aj (bc (k:=1) (vs:=(ar.C r21.1)) fx rfl rfl rfl rfl rfl rfl rfl<|aa (ae rfl) rfl<|ad<|an<|av (cf rfl (bQ (k:=1) rfl gZ rfl rfl) (aE rfl)) ⟨(r21.1,true),rfl,H7⟩)) (fun k6 H7=>au<|ag<|ab<|aa (ac rfl) rfl<|aa (ac rfl) rfl<|aj (aA H7 en_119 rfl rfl fun r35 _ H8=>aa (ac rfl) rfl<|aa (ap rfl rfl) rfl<|aa (ap rfl rfl) rfl<|aj (bb (l:=(aq.C (⟨0,0,0⟩:aq))) fU rfl rfl fun b14=>aj (bc (k:=0) (vs:=(aq.C r35.1)) dT rfl rfl rfl rfl rfl rfl rfl<|aa (ae rfl) rfl<|ad<|ag<|ag<|ab<|aa (am eM rfl) rfl<|bz (bq (k:=0) bj rfl rfl rfl) rfl<|aa (ac rfl) rfl<|aj (cL (vs:=[(.int .i64 r35.1.fRights),(.int .i64 a4)]) (bI (jL r35.1.fRights a4 _)) en_142 rfl rfl<|aa (cw rfl) rfl<|ad<|aD rfl H8 (fun k9 H10=>ag<|ab<|aa (ac rfl) rfl<|aa (ac rfl) rfl<|aa (ac rfl) rfl<|aj (aA H10 en_102 rfl rfl fun r46 _ H11=>ad<|ag<|ab<|aa (bo (vs:=[]) rfl lA) rfl<|aj (bc (k:=2) (vs:=(ar.C (⟨0,0,0,0⟩:ar))) fx rfl rfl rfl rfl rfl rfl rfl<|aa (ae rfl) rfl<|ad<|an<|av (cf rfl (bQ (k:=2) rfl gZ rfl rfl) (aE rfl)) ⟨((⟨0,0,0,0⟩:ar),false),rfl,H11⟩))) (fun k9 H10=>au<|ag<|ab<|aa (ac rfl) rfl<|aa (ac rfl) rfl<|aa (am qF rfl) rfl<|bz (bq (k:=0) bj rfl rfl rfl) rfl<|aa (am eM rfl) rfl<|bz (bq (k:=0) bj rfl rfl rfl) rfl<|aa (bo rfl (vB a2 a3 r35.1.fFrame r35.1.fRights)) rfl<|aj (bb (l:=(ar.C (⟨0,0,0,0⟩:ar))) kI rfl rfl fun b16=>aj (bc (k:=0) (vs:=(ar.C (⟨a2,a3,r35.1.fFrame,r35.1.fRights⟩:ar))) fx rfl rfl rfl rfl rfl rfl rfl<|ad<|ag<|ab<|aa (ac rfl) rfl<|bz (bO (k:=0) gZ rfl rfl rfl rfl) rfl<|aj (aA H10 en_143 rfl rfl fun r57 _ H12=>ad<|ag<|ab<|bz (bO (k:=0) gZ rfl rfl rfl rfl) rfl<|aj (bc (k:=3) (vs:=(ar.C (⟨a2,a3,r35.1.fFrame,r35.1.fRights⟩:ar))) fx rfl rfl rfl rfl rfl rfl rfl<|aa (ae rfl) rfl<|ad<|an<|av (cf rfl (bQ (k:=3) rfl gZ rfl rfl) (aE rfl)) ⟨((⟨a2,a3,r35.1.fFrame,r35.1.fRights⟩:ar),true),rfl,H12⟩))))))))))))))
def sh_user_touch (a0:Ptr) (a1:Int) (a2:ao) (K:ak→Hp→Prop):Hp→Prop:=br ((IntKind.i64.wrap a2.e0) == 20) ( cl Tryz.prog ic [(pv a0),(.int .i64 a1),(.int .i64 (IntKind.i64.wrap a2.e2))] bV fun r21=>K (⟨0,r21.1⟩:ak)) ( br ((IntKind.i64.wrap a2.e0) == 21) ( cl Tryz.prog fE [(pv a0),(.int .i64 a1),(.int .i64 (IntKind.i64.wrap a2.e2)),(.int .u64 a2.e3)] aG fun r31=>K (⟨0,0⟩:ak)) ( br ((IntKind.i64.wrap a2.e0) == 22) ( cl Tryz.prog qc [(pv a0),(.int .i64 a1),(.int .i64 (IntKind.i64.wrap a2.e2)),(.int .u64 a2.e3),(.int .u64 a2.e4)] bV fun r42=>K (⟨0,r42.1⟩:ak)) ( br ((IntKind.i64.wrap a2.e0) == 23) ( cl Tryz.prog qd [(pv a0),(.int .i64 a1),(.int .i64 (IntKind.i64.wrap a2.e2)),(.int .u64 a2.e3)] bV fun r53=>K (⟨0,r53.1⟩:ak)) ( K (⟨0,0⟩:ak)))))
set_option maxRecDepth 20000 in
theorem sim_user_touch (a0:Ptr) (a1:Int) (a2:ao) {K:ak→Hp→Prop} {h:Hp} (H:sh_user_touch a0 a1 a2 K h):Ct Tryz.prog wz #[(pv a0),(.int .i64 a1),(.agg (ao.C a2).toArray)] h fun v h'=>∃ r,v = gS r∧K r h':=aC [(pv a0),(.int .i64 a1),(.agg (ao.C a2).toArray)] Tryz.func167 rfl rfl rfl fun _=>ag<|ab<|aj (cH (l:=(ao.C a2)) rfl rfl rfl fun b5=>aj (bb (l:=(ak.C (⟨0,0⟩:ak))) di rfl rfl fun b6=>ad<|ag<|ab<|aa (bJ dk rfl rfl (by decide)) rfl<|bz (bq (k:=1) cD rfl rfl rfl) rfl<|aa (dY ⟨_,Tryz.underlying25⟩ Tryz.underlying3 rfl) rfl<|aa (ae rfl) rfl<|ad<|ag<|ab<|aa (ae rfl) rfl<|ad<|ag<|ag<|ab<|aa (bJ dk rfl rfl (by decide)) rfl<|bz (bq (k:=1) cD rfl rfl rfl) rfl<|aa (dY ⟨_,Tryz.underlying25⟩ Tryz.underlying3 rfl) rfl<|ad<|aF<|ag<|ab<|aa (cc rfl rfl) rfl<|aa (ae rfl) rfl<|ad<|aD rfl H (fun k1 H2=>ab<|aa (ac rfl) rfl<|aa (ac rfl) rfl<|aa (ac rfl) rfl<|aj (aA H2 en_145 rfl rfl fun r21 _ H3=>aa (ac rfl) rfl<|aa (ap rfl rfl) rfl<|aa (ap rfl rfl) rfl<|aa (ae rfl) rfl<|ad<|ag<|ab<|aa (ac rfl) rfl<|aa (bo rfl (jY r21.1)) rfl<|aj (bc (k:=0) (vs:=(ak.C (⟨0,r21.1⟩:ak))) cd rfl rfl rfl rfl rfl rfl rfl<|ad<|an<|av (az rfl (bQ (k:=0) rfl cK rfl rfl)) ⟨(⟨0,r21.1⟩:ak),rfl,H3⟩))) (fun k1 H2=>ag<|ab<|aa (cc rfl rfl) rfl<|aa (ae rfl) rfl<|ad<|aD rfl H2 (fun k4 H5=>ab<|aa (ac rfl) rfl<|aa (ac rfl) rfl<|aa (ac rfl) rfl<|aa (bJ dk rfl rfl (by decide)) rfl<|bz (bq (k:=1) cD rfl rfl rfl) rfl<|aj (aA H5 en_146 rfl rfl fun r31 _ H6=>ad<|ag<|ab<|aa (ac rfl) rfl<|aa (bo rfl (jY 0)) rfl<|aj (bc (k:=0) (vs:=(ak.C (⟨0,0⟩:ak))) cd rfl rfl rfl rfl rfl rfl rfl<|ad<|an<|av (az rfl (bQ (k:=0) rfl cK rfl rfl)) ⟨(⟨0,0⟩:ak),rfl,H6⟩))) (fun k4 H5=>ag<|ab<|aa (cc rfl rfl) rfl<|aa (ae rfl) rfl<|ad<|aD rfl H5 (fun k7 H8=>ab<|aa (ac rfl) rfl<|aa (ac rfl) rfl<|aa (ac rfl) rfl<|aa (bJ dk rfl rfl (by decide)) rfl<|bz (bq (k:=1) cD rfl rfl rfl) rfl<|aa (bJ dk rfl rfl (by decide)) rfl<|bz (bq (k:=1) cD rfl rfl rfl) rfl<|aj (aA H8 en_147 rfl rfl fun r42 _ H9=>aa (ac rfl) rfl<|aa (ap rfl rfl) rfl<|aa (ap rfl rfl) rfl<|aa (ae rfl) rfl<|ad<|ag<|ab<|aa (ac rfl) rfl<|aa (bo rfl (jY r42.1)) rfl<|aj (bc (k:=0) (vs:=(ak.C (⟨0,r42.1⟩:ak))) cd rfl rfl rfl rfl rfl rfl rfl<|ad<|an<|av (az rfl (bQ (k:=0) rfl cK rfl rfl)) ⟨(⟨0,r42.1⟩:ak),rfl,H9⟩))) (fun k7 H8=>ag<|ab<|aa (cc rfl rfl) rfl<|aa (ae rfl) rfl<|ad<|aD rfl H8 (fun k10 H11=>ab<|aa (ac rfl) rfl<|aa (ac rfl) rfl<|aa (ac rfl) rfl<|aa (bJ dk rfl rfl (by decide)) rfl<|bz (bq (k:=1) cD rfl rfl rfl) rfl<|aj (aA H11 en_148 rfl rfl fun r53 _ H12=>aa (ac rfl) rfl<|aa (ap rfl rfl) rfl<|aa (ap rfl rfl) rfl<|aa (ae rfl) rfl<|ad<|ag<|ab<|aa (ac rfl) rfl<|aa (bo rfl (jY r53.1)) rfl<|aj (bc (k:=0) (vs:=(ak.C (⟨0,r53.1⟩:ak))) cd rfl rfl rfl rfl rfl rfl rfl<|ad<|an<|av (az rfl (bQ (k:=0) rfl cK rfl rfl)) ⟨(⟨0,r53.1⟩:ak),rfl,H12⟩))) (fun k10 H11=>au<|ag<|ab<|aa (ac rfl) rfl<|aa (bo rfl (jY 0)) rfl<|aj (bc (k:=0) (vs:=(ak.C (⟨0,0⟩:ak))) cd rfl rfl rfl rfl rfl rfl rfl<|ad<|an<|av (az rfl (bQ (k:=0) rfl cK rfl rfl)) ⟨(⟨0,0⟩:ak),rfl,H11⟩)))))))
def pB (a0:Ptr) (a1:Ptr) (a2:Ptr) (a3:Int) (a4:ao) (K:(ak × ar)→Hp→Prop) (s2:Int):Hp→Prop:=br (s2 != 0) ( K ((⟨s2,0⟩:ak),(⟨0,0,0,0⟩:ar))) ( cl Tryz.prog uc [(pv a0),(pv a1),(.int .i64 a3),(.int .i64 (IntKind.i64.wrap a4.e1)),(.int .i64 ((aP a4).1))] fH fun r48=>br (!r48.2) ( K ((⟨7,0⟩:ak),(⟨0,0,0,0⟩:ar))) ( cl Tryz.prog wz [(pv a2),(.int .i64 r48.1.fFrame),(.agg (ao.C a4).toArray)] gS fun r59=>K (r59,r48.1)))
def sh_user_Do (a0:Ptr) (a1:Ptr) (a2:Ptr) (a3:Int) (a4:ao) (K:(ak × ar)→Hp→Prop):Hp→Prop:=cl Tryz.prog gO [(.agg (ao.C a4).toArray),(.int .i64 4)] bw fun r18=>br ((decide (a3 < 0)) || (decide (a3 ≥ 4))) ( pB a0 a1 a2 a3 a4 K 10) ( br (!(dz ((aP a4).1))) ( pB a0 a1 a2 a3 a4 K 1) ( pB a0 a1 a2 a3 a4 K r18))
set_option maxRecDepth 20000 in
theorem sim_user_Do (a0:Ptr) (a1:Ptr) (a2:Ptr) (a3:Int) (a4:ao) {K:(ak × ar)→Hp→Prop} {h:Hp} (H:sh_user_Do a0 a1 a2 a3 a4 K h):Ct Tryz.prog n_user_Do #[(pv a0),(pv a1),(pv a2),(.int .i64 a3),(.agg (ao.C a4).toArray)] h fun v h'=>∃ r,v = eK r∧K r h':=aC [(pv a0),(pv a1),(pv a2),(.int .i64 a3),(.agg (ao.C a4).toArray)] Tryz.func128 rfl rfl rfl fun _=>ag<|ab<|aj (cH (l:=(ao.C a4)) rfl rfl rfl fun b9=>aj (bb (l:=(ak.C (⟨0,0⟩:ak))) di rfl rfl fun b10=>aj (bb (l:=(ar.C (⟨0,0,0,0⟩:ar))) kI rfl rfl fun b11=>ad<|ag<|ab<|bz (bO (k:=2) eN rfl rfl rfl rfl) rfl<|aj (aA H en_95 rfl rfl fun r18 _ H1=>aa (ae rfl) rfl<|ad<|ag<|ab<|bz (bO (k:=2) eN rfl rfl rfl rfl) rfl<|aj (cL (vs:=[(.agg (ao.C a4).toArray)]) (bI (jX a4 _)) en_64 rfl rfl<|aa (ac rfl) rfl<|aa (ap rfl rfl) rfl<|aa (ap rfl rfl) rfl<|aa (ae rfl) rfl<|aa (ae rfl) rfl<|ad<|eG (pB a0 a1 a2 a3 a4 K) (fun s2=>[(0,(pv a0)),(1,(pv a1)),(2,(pv a2)),(3,(.int .i64 a3)),(9,(.pointer (some ⟨b9,0,none⟩))),(10,(.pointer (some ⟨b10,0,none⟩))),(11,(.pointer (some ⟨b11,0,none⟩))),(12,(.int .i64 s2)),(13,(.int .i64 ((aP a4).1)))]) (fun s2=>[bx b11 49 (ar.C (⟨0,0,0,0⟩:ar)),bx b10 47 (ak.C (⟨0,0⟩:ak)),bx b9 27 (ao.C a4)]) ( aF<|ag<|ab<|aa (ac rfl) rfl<|aa (cA rfl rfl) rfl<|aa (ac rfl) rfl<|ai rfl rfl rfl (aS _) (fun g10=>wv (ac rfl)) rfl<|ai rfl rfl rfl (aS _) (fun g11=>wv (hO (aK rfl g11) rfl)) rfl<|aa (du rfl rfl) rfl<|aa (ae rfl) rfl<|ad<|aD rfl H1 (fun k12 H13=>ab<|aa (ae rfl) rfl<|ad<|cQ 10 H13 (.cons rfl (.cons rfl (.cons rfl (.cons rfl (.cons rfl (.cons rfl (.cons rfl (.cons rfl (.cons rfl (.nil _)))))))))) (.cons_cons _ (.cons_cons _ (.cons_cons _ .slnil)))) (fun k12 H13=>ag<|ab<|aa (ac rfl) rfl<|aj (cL (vs:=[(.int .i64 ((aP a4).1))]) (bI (rS ((aP a4).1) _)) en_65 rfl rfl<|aa (cw rfl) rfl<|aa (ae rfl) rfl<|ad<|aD rfl H13 (fun k14 H15=>ab<|aa (ae rfl) rfl<|ad<|cQ 1 H15 (.cons rfl (.cons rfl (.cons rfl (.cons rfl (.cons rfl (.cons rfl (.cons rfl (.cons rfl (.cons rfl (.nil _)))))))))) (.cons_cons _ (.cons_cons _ (.cons_cons _ .slnil)))) (fun k14 H15=>au<|cQ r18 H15 (.cons rfl (.cons rfl (.cons rfl (.cons rfl (.cons rfl (.cons rfl (.cons rfl (.cons rfl (.cons rfl (.nil _)))))))))) (.cons_cons _ (.cons_cons _ (.cons_cons _ .slnil))))))) (fun s2 _ H3=>ag<|ag<|ab<|aa (ac rfl) rfl<|aa (pA rfl rfl) rfl<|ad<|aD rfl H3 (fun k4 H5=>ag<|ab<|aa (ac rfl) rfl<|aa (bo rfl (jk s2)) rfl<|aa (bo (vs:=[]) rfl lA) rfl<|aj (bc (k:=1) (vs:=(ak.C (⟨s2,0⟩:ak))) cd rfl rfl rfl rfl rfl rfl rfl<|aj (bc (k:=0) (vs:=(ar.C (⟨0,0,0,0⟩:ar))) fx rfl rfl rfl rfl rfl rfl rfl<|ad<|an<|av (cf rfl (bQ (k:=1) rfl cK rfl rfl) (bQ (k:=0) rfl gZ rfl rfl)) ⟨((⟨s2,0⟩:ak),(⟨0,0,0,0⟩:ar)),rfl,H5⟩))) (fun k4 H5=>au<|ag<|ab<|aa (ac rfl) rfl<|aa (ac rfl) rfl<|aa (ac rfl) rfl<|aa (bJ dk rfl rfl (by decide)) rfl<|bz (bq (k:=2) cD rfl rfl rfl) rfl<|aa (dY ⟨_,Tryz.underlying25⟩ Tryz.underlying3 rfl) rfl<|aa (ac rfl) rfl<|aj (aA H5 en_98 rfl rfl fun r48 _ H6=>aa (ac rfl) rfl<|aa (ap rfl rfl) rfl<|aa (ap rfl rfl) rfl<|aj (bb (l:=(ar.C (⟨0,0,0,0⟩:ar))) kI rfl rfl fun b15=>aj (bc (k:=0) (vs:=(ar.C r48.1)) fx rfl rfl rfl rfl rfl rfl rfl<|aa (ae rfl) rfl<|ad<|ag<|ag<|ab<|aa (ac rfl) rfl<|aa (cw rfl) rfl<|ad<|aD rfl H6 (fun k7 H8=>ag<|ab<|aa (bo rfl (jk 7)) rfl<|aa (bo (vs:=[]) rfl lA) rfl<|aj (bc (k:=2) (vs:=(ak.C (⟨7,0⟩:ak))) cd rfl rfl rfl rfl rfl rfl rfl<|aj (bc (k:=1) (vs:=(ar.C (⟨0,0,0,0⟩:ar))) fx rfl rfl rfl rfl rfl rfl rfl<|ad<|an<|av (cf rfl (bQ (k:=2) rfl cK rfl rfl) (bQ (k:=1) rfl gZ rfl rfl)) ⟨((⟨7,0⟩:ak),(⟨0,0,0,0⟩:ar)),rfl,H8⟩))) (fun k7 H8=>au<|ag<|bE (n:=8) [bx b15 49 (ar.C r48.1),bx b9 27 (ao.C a4)] cy rfl (.cons_cons _ (.cons _ (.cons _ (.cons_cons _ .slnil))))<|ah (i:=0) (fun _ _ _ _=>id) rfl (by kernel_rfl) rfl (ve (ac rfl))<|ah (i:=1) (fun _ _ _ _=>id) rfl (by kernel_rfl) rfl (ve (am lx rfl))<|ah (i:=2) (fun _ _ _ _=>id) rfl (by kernel_rfl) rfl (dn (k:=0) bj rfl rfl rfl)<|ah (i:=3) (fun _ _ _ _=>id) rfl (by kernel_rfl) rfl (eu (k:=1) eN rfl rfl rfl rfl)<|ah (i:=5) (fun _ _ _ _=>id) rfl (by kernel_rfl) rfl (eu (k:=0) gZ rfl rfl rfl rfl)<|bg (i:=4) (by kernel_rfl) (aJ rfl rfl (aA H8 en_167 rfl rfl fun r59 _ H9=>⟨(.cons_cons _ (.cons _ (.cons _ (.cons_cons _ .slnil)))),bg (i:=6) (by kernel_rfl) (aJ rfl rfl (bc (k:=2) (vs:=(ak.C r59)) cd rfl rfl rfl rfl rfl rfl rfl<|⟨(.cons_cons _ (.cons _ (.cons _ (.cons_cons _ .slnil)))),bg (i:=7) (by kernel_rfl) (aJ rfl rfl (bc (k:=1) (vs:=(ar.C r48.1)) fx rfl rfl rfl rfl rfl rfl rfl<|⟨(.cons_cons _ (.cons _ (.cons _ (.cons_cons _ .slnil)))),bd (by kernel_rfl)<|an<|av (cf rfl (bQ (k:=2) rfl cK rfl rfl) (bQ (k:=1) rfl gZ rfl rfl)) ⟨(r59,r48.1),rfl,H9⟩⟩))⟩))⟩)))))))))))))
end Go.Proofs.YtniiiakkdoiaiaaGreatDoor
namespace Go.Proofs.YtniiiakkdoiaiaaGreatDoor
open Go Mb
abbrev Line:=ar
abbrev Buf:=List TL × Int
abbrev ms:Line:=⟨0,0,0,0⟩
namespace User
def walk (b:Buf) (t:List Pte) (e pg kind:Int):(Line × Bool) × Buf :=
  if (Tlb.find b.1 e pg).2 = true∧dx (Tlb.find b.1 e pg).1.fRights kind = true then (((Tlb.find b.1 e pg).1,true),b)
  else if dx (Table.get t pg).1.fRights kind = false then ((ms,false),(Tlb.flush b e pg).2)
  else ((⟨e,pg,(Table.get t pg).1.fFrame,(Table.get t pg).1.fRights⟩,true),(Tlb.fill b ⟨e,pg,(Table.get t pg).1.fFrame,(Table.get t pg).1.fRights⟩).2)
def touch (m:List (List Int)) (f:Int) (c:iq):ak × List (List Int) :=
  if IntKind.i64.wrap c.e0 = 20 then (⟨0,(Mem.load m f (IntKind.i64.wrap c.e2)).1⟩,m)
  else if IntKind.i64.wrap c.e0 = 21 then (⟨0,0⟩,(Mem.store m f (IntKind.i64.wrap c.e2) c.e3).2)
  else if IntKind.i64.wrap c.e0 = 22 then (⟨0,(Mem.cas m f (IntKind.i64.wrap c.e2) c.e3 c.e4).1.1⟩,(Mem.cas m f (IntKind.i64.wrap c.e2) c.e3 c.e4).2)
  else if IntKind.i64.wrap c.e0 = 23 then (⟨0,(Mem.add m f (IntKind.i64.wrap c.e2) c.e3).1.1⟩,(Mem.add m f (IntKind.i64.wrap c.e2) c.e3).2)
  else (⟨0,0⟩,m)
def bad (e:Int) (c:iq):Int:=if e < 0∨e ≥ 4 then 10 else if dz (aP c).1 = false then 1 else Word.check c 4
def do_ (b:Buf) (t:List Pte) (m:List (List Int)) (e:Int) (c:iq):(ak × Line) × Buf × List (List Int) :=
  if bad e c ≠ 0 then ((⟨bad e c,0⟩,ms),b,m)
  else if (walk b t e (IntKind.i64.wrap c.e1) (aP c).1).1.2 = false then ((⟨7,0⟩,ms),(walk b t e (IntKind.i64.wrap c.e1) (aP c).1).2,m)
  else (((touch m (walk b t e (IntKind.i64.wrap c.e1) (aP c).1).1.1.fFrame c).1,(walk b t e (IntKind.i64.wrap c.e1) (aP c).1).1.1),(walk b t e (IntKind.i64.wrap c.e1) (aP c).1).2,(touch m (walk b t e (IntKind.i64.wrap c.e1) (aP c).1).1.1.fFrame c).2)
end User
theorem sp_user_Walk (x y:Ptr) (b:Buf) (t:List Pte) (e pg kind:Int):Sp Tryz.prog uc [pv x,pv y,.int .i64 e,.int .i64 pg,.int .i64 kind] fH [fo x b,da y t] (fun r=>pa_ (r = (User.walk b t e pg kind).1) [fo x (User.walk b t e pg kind).2,da y t]):=by
  intro h s0
  refine sim_user_Walk _ _ _ _ _ ?_
  unfold sh_user_Walk
  refine bY (sp_tlb_Find x b e pg) (i:=0) rfl s0 fun r h1 hr s1=>?_
  subst hr
  refine bk (fun k=>?_) (fun k=>?_)
  · have k':(Tlb.find b.1 e pg).2 = true∧dx (Tlb.find b.1 e pg).1.fRights kind = true:=by simpa using k
    have e1:User.walk b t e pg kind = (((Tlb.find b.1 e pg).1,true),b):=if_pos k'
    rw [e1]; exact bh rfl s1
  · have k':¬ ((Tlb.find b.1 e pg).2 = true∧dx (Tlb.find b.1 e pg).1.fRights kind = true):=by simpa using k
    refine bY (ny y t pg) (i:=1) rfl s1 fun r h2 hr s2=>?_
    subst hr
    refine bk (fun k2=>?_) (fun k2=>?_)
    · have e1:User.walk b t e pg kind = ((ms,false),(Tlb.flush b e pg).2):=by unfold User.walk; rw [if_neg k',if_pos (by simpa using k2)]
      rw [e1]
      exact bY (sp_tlb_Flush x b e pg) (i:=0) rfl s2 fun r h3 hr s3=>bh rfl s3
    · have e1:User.walk b t e pg kind = ((⟨e,pg,(Table.get t pg).1.fFrame,(Table.get t pg).1.fRights⟩,true),(Tlb.fill b ⟨e,pg,(Table.get t pg).1.fFrame,(Table.get t pg).1.fRights⟩).2):=by unfold User.walk; rw [if_neg k',if_neg (by simpa using k2)]
      rw [e1]
      exact bY (sp_tlb_Fill x b ⟨e,pg,(Table.get t pg).1.fFrame,(Table.get t pg).1.fRights⟩) (i:=0) rfl s2 fun r h3 hr s3=>bh rfl s3
theorem sp_user_touch (x:Ptr) (m:List (List Int)) (f:Int) (c:iq):Sp Tryz.prog wz [pv x,.int .i64 f,.agg c.C.toArray] gS [ij x m] (fun r=>pa_ (r = (User.touch m f c).1) [ij x (User.touch m f c).2]):=by
  intro h s0
  refine sim_user_touch _ _ _ ?_
  unfold sh_user_touch
  refine bk (fun k=>?_) (fun k=>?_)
  · have e1:User.touch m f c = (⟨0,(Mem.load m f (IntKind.i64.wrap c.e2)).1⟩,m):=if_pos (by simpa using k)
    rw [e1]
    exact bY (qr x m f _) (i:=0) rfl s0 fun r h1 hr s1=>bh (by rw [hr]) s1
  refine bk (fun k2=>?_) (fun k2=>?_)
  · have e1:User.touch m f c = (⟨0,0⟩,(Mem.store m f (IntKind.i64.wrap c.e2) c.e3).2):=by unfold User.touch; rw [if_neg (by simpa using k),if_pos (by simpa using k2)]
    rw [e1]
    exact bY (lE x m f _ _) (i:=0) rfl s0 fun r h1 hr s1=>bh rfl s1
  refine bk (fun k3=>?_) (fun k3=>?_)
  · have e1:User.touch m f c = (⟨0,(Mem.cas m f (IntKind.i64.wrap c.e2) c.e3 c.e4).1.1⟩,(Mem.cas m f (IntKind.i64.wrap c.e2) c.e3 c.e4).2):=by unfold User.touch; rw [if_neg (by simpa using k),if_neg (by simpa using k2),if_pos (by simpa using k3)]
    rw [e1]
    exact bY (sp_mem_Cas x m f _ _ _) (i:=0) rfl s0 fun r h1 hr s1=>bh (by rw [hr]) s1
  refine bk (fun k4=>?_) (fun k4=>?_)
  · have e1:User.touch m f c = (⟨0,(Mem.add m f (IntKind.i64.wrap c.e2) c.e3).1.1⟩,(Mem.add m f (IntKind.i64.wrap c.e2) c.e3).2):=by unfold User.touch; rw [if_neg (by simpa using k),if_neg (by simpa using k2),if_neg (by simpa using k3),if_pos (by simpa using k4)]
    rw [e1]
    exact bY (sp_mem_Add x m f _ _) (i:=0) rfl s0 fun r h1 hr s1=>bh (by rw [hr]) s1
  have e1:User.touch m f c = (⟨0,0⟩,m):=by unfold User.touch; rw [if_neg (by simpa using k),if_neg (by simpa using k2),if_neg (by simpa using k3),if_neg (by simpa using k4)]
  rw [e1]
  exact bh rfl s0
theorem sp_user_Do (x y z:Ptr) (b:Buf) (t:List Pte) (m:List (List Int)) (e:Int) (c:iq):Sp Tryz.prog n_user_Do [pv x,pv y,pv z,.int .i64 e,.agg c.C.toArray] eK [fo x b,da y t,ij z m] (fun r=>pa_ (r = (User.do_ b t m e c).1) [fo x (User.do_ b t m e c).2.1,da y t,ij z (User.do_ b t m e c).2.2]):=by
  intro h s0
  refine sim_user_Do _ _ _ _ _ ?_
  unfold sh_user_Do
  refine rT (jh c 4) s0 fun r h1 hr s1=>?_
  subst hr
  have go:∀ n,n = User.bad e c→pB x y z e c (fun r=>pa_ (r = (User.do_ b t m e c).1) [fo x (User.do_ b t m e c).2.1,da y t,ij z (User.do_ b t m e c).2.2]) n h1:=by
    intro n hn
    unfold pB
    refine bk (fun k=>?_) (fun k=>?_)
    · have k':User.bad e c ≠ 0:=by rw [← hn]; simpa using k
      have e1:User.do_ b t m e c = ((⟨User.bad e c,0⟩,ms),b,m):=if_pos k'
      rw [e1]; exact bh (by rw [hn]) s1
    · have k':¬ User.bad e c ≠ 0:=by rw [← hn]; simpa using k
      refine cT [0,0] (sp_user_Walk x y b t e (IntKind.i64.wrap c.e1) (aP c).1) s1 rfl fun r h2 s2=>?_
      obtain ⟨hr,s3⟩:=bH.1 s2
      subst hr
      refine bk (fun k2=>?_) (fun k2=>?_)
      · have e1:User.do_ b t m e c = ((⟨7,0⟩,ms),(User.walk b t e (IntKind.i64.wrap c.e1) (aP c).1).2,m):=by unfold User.do_; rw [if_neg k',if_pos (by simpa using k2)]
        rw [e1]; exact bh rfl s3
      · have e1:User.do_ b t m e c = (((User.touch m (User.walk b t e (IntKind.i64.wrap c.e1) (aP c).1).1.1.fFrame c).1,(User.walk b t e (IntKind.i64.wrap c.e1) (aP c).1).1.1),(User.walk b t e (IntKind.i64.wrap c.e1) (aP c).1).2,(User.touch m (User.walk b t e (IntKind.i64.wrap c.e1) (aP c).1).1.1.fFrame c).2):=by unfold User.do_; rw [if_neg k',if_neg (by simpa using k2)]
        rw [e1]
        exact bY (sp_user_touch z m _ c) (i:=2) rfl s3 fun r h3 hr s4=>bh (by rw [hr]) s4
  refine bk (fun k=>go 10 ?_) (fun k=>?_)
  · unfold User.bad; rw [if_pos (by simpa using k)]
  · have k':¬ (e < 0∨e ≥ 4):=by simpa using k
    refine bk (fun k2=>go 1 ?_) (fun k2=>go _ ?_)
    · unfold User.bad; rw [if_neg k',if_pos (by simpa using k2)]
    · unfold User.bad; rw [if_neg k',if_neg (by simpa using k2)]
end Go.Proofs.YtniiiakkdoiaiaaGreatDoor
