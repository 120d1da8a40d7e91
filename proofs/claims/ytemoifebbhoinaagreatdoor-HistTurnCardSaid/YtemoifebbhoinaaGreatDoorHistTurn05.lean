/- Part of the proof of: The law HistTurn returns true for every input, and leaves its arguments as they were. -/
import Derived.Test.YtemoifebbhoinaaGreatDoorHistTurn04
set_option linter.all false
set_option maxRecDepth 20000
namespace Go.Proofs.YtemoifebbhoinaaGreatDoor
open Go Mb
set_option linter.unusedVariables false
def sh_caps_Tree_is (a0:Ptr) (a1:Int) (a2:Int) (K:Bool→Hp→Prop):Hp→Prop:=br (decide (a1 ≥ 0)) ( nn a0 fun q12=>ld (q12.1,q12.2 + 0) cS fun x14=>K (((decide (a1 < (x14.len:Int))) && (decide (a2 ≥ 0))) && (decide (a2 < 8)))) ( K false)
theorem sim_caps_Tree_is (a0:Ptr) (a1:Int) (a2:Int) {K:Bool→Hp→Prop} {h:Hp} (H:sh_caps_Tree_is a0 a1 a2 K h):Ct Tryz.prog iA #[(pv a0),(.int .i64 a1),(.int .i64 a2)] h fun v h'=>∃ r,v = aA r∧K r h':=aw [(pv a0),(.int .i64 a1),(.int .i64 a2)] Tryz.func151 c c c fun _=>M<|O c<|M<|J c<|p (ij c c)<|J c<|V c c (ay _) (fun g1=>wv<|ag c)<|V c c (ay _) (fun g2=>wv<|ag c)<|bT H (fun k4 H5=>bI H5 fun q12 e6 H7=>G (Y k4)<|z_p (aL<|aK (az c k4)<|aq e6)<|G (Y k4)<|z_p (ae ik c)<|G (Y k4)<|aW H7 qh c (fun _=>c) c fun x14 H8=>G (Y k4)<|z_p (dl c Tryz.underlying206 c)<|G (Y k4)<|z_p (cq (az c k4) c)<|p (aI c k4 c)<|J c<|V c c (ay _) (fun g9=>wv<|ag c)<|V c c (ay _) (fun g10=>wv<|ij (az c g10) c)<|p (bO c c)<|J c<|V c c (ay _) (fun g11=>wv<|ag c)<|V c c (ay _) (fun g12=>wv<|cq (az c g12) c)<|p (bO c c)<|O c<|ah<|D ⟨(((decide (a1 < (x14.len:Int))) && (decide (a2 ≥ 0))) && (decide (a2 < 8))),c,H8⟩) fun k4 H5=>W (aJ k4)<|W (aJ k4)<|W (aJ k4)<|W (aJ k4)<|W (aJ k4)<|p (ao c k4 c)<|J c<|W c<|W c<|p (ao c c c)<|J c<|W c<|W c<|p (ao c c c)<|O c<|ah<|D ⟨false,c,H5⟩
def iU (a0:Ptr) (a1:Int) (a2:Int) (K:(aC × Bool)→Hp→Prop) (s1:Bool):Hp→Prop:=br s1 ( K ((⟨0,0,0,0⟩:aC),false)) ( nn a0 fun q32=>ld (q32.1,q32.2 + 0) cS fun x34=>ix x34 a1 fun q37=>gd (0 ≤ a2∧a2 < 8)<|ld (q37.1,q37.2 + Int.toNat a1 * 32 + Int.toNat a2 * 4) aC.C fun x39=>K (x39,true))
def sh_caps_Tree_At (a0:Ptr) (a1:Int) (a2:Int) (K:(aC × Bool)→Hp→Prop):Hp→Prop:=br (!a0.isNone) ( cl Tryz.prog iA [(pv a0),(.int .i64 a1),(.int .i64 a2)] aA fun r14=>br (!(!r14)) ( nn a0 fun q19=>ld (q19.1,q19.2 + 0) cS fun x21=>ix x21 a1 fun q24=>gd (0 ≤ a2∧a2 < 8)<|ld (q24.1,q24.2 + Int.toNat a1 * 32 + Int.toNat a2 * 4 + 1) (cI .i64) fun x27=>iU a0 a1 a2 K (x27 == 0)) ( iU a0 a1 a2 K true)) ( iU a0 a1 a2 K true)
theorem sim_caps_Tree_At (a0:Ptr) (a1:Int) (a2:Int) {K:(aC × Bool)→Hp→Prop} {h:Hp} (H:sh_caps_Tree_At a0 a1 a2 K h):Ct Tryz.prog eE #[(pv a0),(.int .i64 a1),(.int .i64 a2)] h fun v h'=>∃ r,v = cQ r∧K r h':=aw [(pv a0),(.int .i64 a1),(.int .i64 a2)] Tryz.func102 c c c fun _=>M<|aa<|aP (l:=aC.C (⟨0,0,0,0⟩:aC)) iI c c fun b6=>O c<|ak<|eG (iU a0 a1 a2 K) (fun s1=>[(0,(pv a0)),(1,(.int .i64 a1)),(2,(.int .i64 a2)),(6,(.pointer (some ⟨b6,0,none⟩))),(29,(.bool s1))]) (fun s1=>[bx b6 36 (aC.C (⟨0,0,0,0⟩:aC))]) (ap<|J c<|p (cr Tryz.underlying155 c)<|J c<|V c c (aG _) (fun g14=>wv<|ag c)<|V c c (aG _) (fun g15=>wv<|ag c)<|V c c (aG _) (fun g16=>wv<|ag c)<|bT H (fun k18 H19=>G (Y<|bN k18)<|gm H19 en_151 (aT (az c k18)<|aT (az c k18)<|aT (az c k18) bW) c fun r14 _ H20=>G (Y<|bN k18)<|z_p (ct c)<|p (ao c (bN k18) c)<|J c<|V c c (aG _) (fun g21=>wv<|ag c)<|bT H20 (fun k23 H24=>bI H24 fun q19 e25 H26=>G (Y<|bN k23)<|z_p (aL<|aK (az c k23)<|aq e25)<|G (Y<|bN k23)<|z_p (ae ik c)<|G (Y<|bN k23)<|aW H26 qh c (fun _=>c) c fun x21 H27=>G (Y<|bN k23)<|z_p (ag c)<|G (Y<|bN k23)<|z_p (ag c)<|ck H27 fun q24 e28 h29 H30=>G (Y<|bN k23)<|z_p (bh oJ (aK c<|aX e28) c h29)<|hH H30 fun h31 H32=>G (Y<|bN k23)<|z_p (bw qD c c h31)<|G (Y<|bN k23)<|z_p (ae gT c)<|G (Y<|bN k23)<|aW H32 aS c (fun _=>c) c fun x27 H33=>G (Y<|bN k23)<|z_p (bH c c)<|p (ao c (bN k23) c)<|ad<|cz (x27 == 0) H33 (.cons c<|.cons c<|.cons c<|.cons c<|.cons c<|.nil _)<|.cons_cons _ .slnil) fun k23 H24=>W (bb<|bo k23)<|W (bb<|bo k23)<|W (bb<|bo k23)<|W (bb<|bo k23)<|W (bb<|bo k23)<|W (bb<|bo k23)<|W (bb<|bo k23)<|W (bb<|bo k23)<|W (bb<|bo k23)<|W (bb<|bo k23)<|p (aI c (bo k23) c)<|ad<|cz true H24 (.cons c<|.cons c<|.cons c<|.cons c<|.cons c<|.nil _)<|.cons_cons _ .slnil) fun k18 H19=>W (bb<|bo k18)<|W (bb<|bo k18)<|p (aI c (bo k18) c)<|J c<|W c<|W c<|W c<|W c<|W c<|W c<|W c<|W c<|W c<|W c<|W c<|p (aI c c c)<|ad<|cz true H19 (.cons c<|.cons c<|.cons c<|.cons c<|.cons c<|.nil _)<|.cons_cons _ .slnil) fun s1 _ H2=>av c H2 (fun k3 H4=>M<|p (bd (vs:=[]) c build_36)<|aa<|aR (k:=0) (vs:=aC.C (⟨0,0,0,0⟩:aC)) gL c c c c c c c<|O c<|ah<|bA (bV c (bF (k:=0) c ag_36 c c)<|cf c) ⟨((⟨0,0,0,0⟩:aC),false),c,H4⟩) fun k3 H4=>an<|M<|J c<|bI H4 fun q32 e5 H6=>p (aL<|aK c<|aq e5)<|p (ae ik c)<|aa<|aW H6 qh c (fun _=>c) c fun x34 H7=>J c<|J c<|ck H7 fun q37 e8 h9 H10=>p (bh oJ (aK c<|aX e8) c h9)<|hH H10 fun h11 H12=>p (bw qD c c h11)<|aa<|gI H12 ag_36 c (fun _=>c) c fun x39 H13=>aa<|aR (k:=0) (vs:=aC.C x39) gL c c c c c c c<|O c<|ah<|bA (bV c (bF (k:=0) c ag_36 c c)<|cf c) ⟨(x39,true),c,H13⟩
def ux (a0:Ptr) (a1:Int) (a2:Int) (a3:Int) (K:Int→Hp→Prop):Hp→Prop:=br a0.isNone ( K 10) ( cl Tryz.prog iA [(pv a0),(.int .i64 a1),(.int .i64 a2)] aA fun r16=>br (((!r16) || (decide (a3 < 0))) || (decide (a3 ≥ 16))) ( K 2) ( nn a0 fun q28=>ld (q28.1,q28.2 + 0) cS fun x30=>ix x30 a1 fun q33=>gd (0 ≤ a2∧a2 < 8)<|ld (q33.1,q33.2 + Int.toNat a1 * 32 + Int.toNat a2 * 4 + 1) (cI .i64) fun x36=>br (x36 != 0) ( K 4) ( ld (q28.1,q28.2 + 0) cS fun x41=>ix x41 a1 fun q46=>st (q46.1,q46.2 + Int.toNat a1 * 32 + Int.toNat a2 * 4) (aC.C (⟨a3,3,(-1),0⟩:aC))<|K 0)))
theorem sim_caps_Tree_Root (a0:Ptr) (a1:Int) (a2:Int) (a3:Int) {K:Int→Hp→Prop} {h:Hp} (H:ux a0 a1 a2 a3 K h):Ct Tryz.prog jK #[(pv a0),(.int .i64 a1),(.int .i64 a2),(.int .i64 a3)] h fun v h'=>∃ r,v = bi r∧K r h':=aw [(pv a0),(.int .i64 a1),(.int .i64 a2),(.int .i64 a3)] Tryz.func142 c c c fun _=>M<|O c<|ak<|ax<|M<|J c<|p (cr Tryz.underlying155 c)<|O c<|av c H (fun k1 H2=>M<|O c<|ah<|D ⟨10,c,H2⟩) fun k1 H2=>M<|J c<|J c<|J c<|aa<|F H2 en_151 fun r16 _ H3=>p (ct c)<|J c<|V c c (aG _) (fun g4=>wv<|ag c)<|V c c (aG _) (fun g5=>wv<|cq (az c g5) c)<|p (cZ c c)<|J c<|V c c (aG _) (fun g6=>wv<|ag c)<|V c c (aG _) (fun g7=>wv<|ij (az c g7) c)<|p (cZ c c)<|O c<|av c H3 (fun k8 H9=>M<|O c<|ah<|D ⟨2,c,H9⟩) fun k8 H9=>M<|J c<|bI H9 fun q28 e10 H11=>p (aL<|aK c<|aq e10)<|p (ae ik c)<|aa<|aW H11 qh c (fun _=>c) c fun x30 H12=>J c<|J c<|ck H12 fun q33 e13 h14 H15=>p (bh oJ (aK c<|aX e13) c h14)<|hH H15 fun h16 H17=>p (bw qD c c h16)<|p (ae gT c)<|aa<|aW H17 aS c (fun _=>c) c fun x36 H18=>p (qH c c)<|O c<|av c H18 (fun k19 H20=>M<|O c<|ah<|D ⟨4,c,H20⟩) fun k19 H20=>an<|M<|J (aK c<|aq e10)<|p (aL c)<|p (ae ik c)<|aa<|aW H20 qh c (fun _=>c) c fun x41 H21=>J c<|J c<|J c<|p (bd c<|build_36_0_1_2 a3 3 (-1))<|ck H21 fun q46 e22 h23 H24=>p (bh oJ (aK c<|aX e22) c h23)<|p (bw qD c c h16)<|aa<|dh gL c c c c c H24 fun _ H25=>ad<|M<|O c<|ah<|D ⟨0,c,H25⟩
def rV (a0:Ptr) (a1:Int) (a2:Int) (a3:Int) (a4:Int) (a5:Int) (K:Int→Hp→Prop):Hp→Prop:=br a0.isNone ( K 10) ( cl Tryz.prog iA [(pv a0),(.int .i64 a1),(.int .i64 a2)] aA fun r19=>br (!(!r19)) ( cl Tryz.prog iA [(pv a0),(.int .i64 a3),(.int .i64 a4)] aA fun r25=>br ((!r25) || (!(ch a5))) ( K 2) ( nn a0 fun q34=>ld (q34.1,q34.2 + 0) cS fun x36=>ix x36 a1 fun q39=>gd (0 ≤ a2∧a2 < 8)<|ld (q39.1,q39.2 + Int.toNat a1 * 32 + Int.toNat a2 * 4) aC.C fun x41=>br (x41.fRights == 0) ( K 3) ( ld (q34.1,q34.2 + 0) cS fun x50=>ix x50 a3 fun q53=>gd (0 ≤ a4∧a4 < 8)<|ld (q53.1,q53.2 + Int.toNat a3 * 32 + Int.toNat a4 * 4 + 1) (cI .i64) fun x56=>br (x56 != 0) ( K 4) ( br (!(aV a5 x41.fRights)) ( K 5) ( ld (q34.1,q34.2 + 0) cS fun x67=>ix x67 a3 fun q76=>st (q76.1,q76.2 + Int.toNat a3 * 32 + Int.toNat a4 * 4) (aC.C (⟨x41.fFrame,a5,a1,a2⟩:aC))<|K 0))))) ( K 2))
theorem sim_caps_Tree_Derive (a0:Ptr) (a1:Int) (a2:Int) (a3:Int) (a4:Int) (a5:Int) {K:Int→Hp→Prop} {h:Hp} (H:rV a0 a1 a2 a3 a4 a5 K h):Ct Tryz.prog iB #[(pv a0),(.int .i64 a1),(.int .i64 a2),(.int .i64 a3),(.int .i64 a4),(.int .i64 a5)] h fun v h'=>∃ r,v = bi r∧K r h':=aw [(pv a0),(.int .i64 a1),(.int .i64 a2),(.int .i64 a3),(.int .i64 a4),(.int .i64 a5)] Tryz.func143 c c c fun _=>M<|O c<|ak<|M<|J c<|p (cr Tryz.underlying155 c)<|ad<|av c H (fun k1 H2=>M<|O c<|ah<|D ⟨10,c,H2⟩) fun k1 H2=>an<|ak<|M<|J c<|J c<|J c<|aa<|F H2 en_151 fun r19 _ H3=>p (ct c)<|J c<|V c c (aG _) (fun g4=>wv<|ag c)<|V c c (aG _) (fun g5=>wv<|ag c)<|V c c (aG _) (fun g6=>wv<|ag c)<|bT H3 (fun k8 H9=>G (Y<|bN k8)<|gm H9 en_151 (aT (az c k8)<|aT (az c k8)<|aT (az c k8) bW) c fun r25 _ H10=>G (Y<|bN k8)<|z_p (ct c)<|p (ao c (bN k8) c)<|J c<|V c c (aG _) (fun g11=>wv<|ag c)<|dc (vs:=[(.int .i64 a5)]) c c c (aG _) (fun g12=>bv<|qu a5 _) en_166 (fun g12=>aT (az c g12) bW) c<|V c c (aG _) (fun g13=>wv<|ct<|az c g13)<|p (cZ c c)<|ad<|av c H10 (fun k14 H15=>M<|O c<|ah<|D ⟨2,c,H15⟩) fun k14 H15=>an<|M<|J c<|bI H15 fun q34 e16 H17=>p (aL<|aK c<|aq e16)<|p (ae ik c)<|aa<|aW H17 qh c (fun _=>c) c fun x36 H18=>J c<|J c<|ck H18 fun q39 e19 h20 H21=>p (bh oJ (aK c<|aX e19) c h20)<|hH H21 fun h22 H23=>p (bw qD c c h22)<|aa<|gI H23 ag_36 c (fun _=>c) c fun x41 H24=>aa<|aP (l:=aC.C (⟨0,0,0,0⟩:aC)) iI c c fun b13=>aa<|aR (k:=0) (vs:=aC.C x41) gL c c c c c c c<|ad<|ak<|ax<|M<|p (ae gT c)<|bf (ba (k:=0) aS c c c) c<|p (bH c c)<|O c<|av c H24 (fun k25 H26=>M<|O c<|ah<|D ⟨3,c,H26⟩) fun k25 H26=>M<|J (aK c<|aq e16)<|p (aL c)<|p (ae ik c)<|aa<|aW H26 qh c (fun _=>c) c fun x50 H27=>J c<|J c<|ck H27 fun q53 e28 h29 H30=>p (bh oJ (aK c<|aX e28) c h29)<|hH H30 fun h31 H32=>p (bw qD c c h31)<|p (ae gT c)<|aa<|aW H32 aS c (fun _=>c) c fun x56 H33=>p (qH c c)<|O c<|av c H33 (fun k34 H35=>M<|O c<|ah<|D ⟨4,c,H35⟩) fun k34 H35=>M<|J c<|p (ae gT c)<|bf (ba (k:=0) aS c c c) c<|aa<|cK (vs:=[(.int .i64 a5),(.int .i64 x41.fRights)]) (bv<|df a5 x41.fRights _) mT c c<|p (ct c)<|O c<|av c H35 (fun k36 H37=>M<|O c<|ah<|D ⟨5,c,H37⟩) fun k36 H37=>an<|ak<|bm (n:=15) [bx b13 36 (aC.C x41)] cn c (.cons_cons _ .slnil)<|U 0 c (ag<|aK c<|aq e16)<|U 1 c (aL c)<|U 2 c (ae ik c)<|U 4 c (ag c)<|U 5 c (ag c)<|U 6 c (ae tD c)<|z_E 7 c (cx (k:=0) aS c c c)<|U 8 c (ag c)<|U 9 c (ag c)<|U 10 c (ag c)<|U 11 c (bd c<|build_36_0_1_2_3 x41.fFrame a5 a1 a2)<|bJ (i:=3) (fun _ _ _ _ hh=>hh) H37 c (by kernel_rfl) qh c (fun _=>c) c fun x67 H38=>fF H38 fun q76 e39 h40 H41=>U 12 c (bh oJ (aK c<|aX e39) c h40)<|U 13 c (bw qD c c h31)<|R 14 c<|dh gL c c c c c H41 fun _ H42=>⟨.cons_cons _ .slnil,aO (by kernel_rfl)<|M<|O c<|ah<|D ⟨0,c,H42⟩⟩) fun k8 H9=>W (bb<|bo k8)<|W (bb<|bo k8)<|p (aI c (bo k8) c)<|J c<|W c<|W c<|W c<|p (aI c c c)<|ad<|fG c c<|M<|O c<|ah<|D ⟨2,c,H9⟩
def im (s6:Sl × Int) (Rec18:(Sl × Int)→Hp→Prop) (s17:Sl × Int) (s23:Bool):Hp→Prop:=br s23 ( hpv Tryz.prog (Instr.buildSlice hZ 1 #[(0,(.agg (aH.C (⟨s6.2,s17.2⟩:aH)).toArray))]) cW fun (v45:Sl)=>hpv Tryz.prog (Builtin.append_ #[hZ,hZ] hZ #[(sv s17.1),(sv v45)]) cW fun (v46:Sl)=>Rec18 (v46,(IntKind.i64.wrap (s17.2 + 1)))) ( Rec18 (s17.1,(IntKind.i64.wrap (s17.2 + 1))))
def qv (a1:Value) (Rec7:(Sl × Int)→Hp→Prop) (s6:Sl × Int) (v26:(List Value)) (Rec18:(Sl × Int)→Hp→Prop) (s17:Sl × Int):Hp→Prop:=br (decide (s17.2 < 8)) ( hpv Tryz.prog (Instr.index lw (.agg v26.toArray) (.int .i64 s17.2)) R_api_Cap fun (v30:aC)=>br (v30.fRights != 0) ( clv Tryz.prog a1 [(.agg (aH.C (⟨s6.2,s17.2⟩:aH)).toArray),(.agg (aC.C v30).toArray)] aA fun r41=>im s6 Rec18 s17 r41) ( im s6 Rec18 s17 false)) ( Rec7 (s17.1,(IntKind.i64.wrap (s6.2 + 1))))
def qw (a1:Value) (K:Sl→Hp→Prop) (q13:Nat × Nat) (x15:Sl) (Rec7:(Sl × Int)→Hp→Prop) (s6:Sl × Int):Hp→Prop:=br (decide (s6.2 < (x15.len:Int))) ( ld (q13.1,q13.2 + 0) cS fun x23=>ix x23 s6.2 fun q25=>hpv Tryz.prog (Instr.loadAt lw (.pointer (some ⟨q25.1,q25.2 + Int.toNat s6.2 * 32,none⟩))) encL fun (v26:(List Value))=>Lp (qv a1 Rec7 s6 v26) (s6.1,0)) ( K s6.1)
def vV (a0:Ptr) (a1:Value) (K:Sl→Hp→Prop):Hp→Prop:=br a0.isNone ( K (⟨none,0,0,none⟩:Sl)) ( nn a0 fun q13=>ld (q13.1,q13.2 + 0) cS fun x15=>Lp (qw a1 K q13 x15) ((⟨none,0,0,none⟩:Sl),0))
theorem sim_caps_Tree_all (a0:Ptr) (a1:Value) {K:Sl→Hp→Prop} {h:Hp} (H:vV a0 a1 K h):Ct Tryz.prog kD #[(pv a0),a1] h fun v h'=>∃ r,v = cW r∧K r h':=aw [(pv a0),a1] Tryz.func188 c c c fun _=>M<|O c<|ak<|M<|J c<|p (cr Tryz.underlying155 c)<|ad<|av c H (fun k1 H2=>M<|O c<|ah<|D ⟨(⟨none,0,0,none⟩:Sl),c,H2⟩) fun k1 H2=>an<|M<|O c<|ak<|M<|J c<|bI H2 fun q13 e3 H4=>p (aL<|aK c<|aq e3)<|p (ae ik c)<|aa<|aW H4 qh c (fun _=>c) c fun x15 H5=>p (dl c Tryz.underlying206 c)<|J c<|ad<|ax<|bG (step:=qw a1 K q13 x15) (fun s6=>[(0,(pv a0)),(1,a1),(5,(sv s6.1)),(16,(.int .i64 (x15.len:Int))),(17,(.int .i64 s6.2))]) (fun s6=>[]) H5 (.cons c<|.cons c<|.cons c<|.cons c<|.cons c<|.nil _) .slnil fun Rec7 s6 _ H8=>M<|p (cq c c)<|ad<|ak<|av c H8 (fun k9 H10=>an<|ak<|ax<|M<|J c<|O c<|M<|J (aK c<|aq e3)<|p (aL c)<|p (ae ik c)<|aa<|aW H10 qh c (fun _=>c) c fun x23 H11=>J c<|ck H11 fun q25 e12 h13 H14=>p (bh oJ (aK c<|aX e12) c h13)<|aa<|aU H14 (x_load c) c fun v26 _ H16=>J c<|ad<|ax<|bG (step:=qv a1 Rec7 s6 v26) (fun s17=>[(0,(pv a0)),(1,a1),(5,(sv s17.1)),(6,(.int .i64 s6.2)),(16,(.int .i64 (x15.len:Int))),(17,(.int .i64 s6.2)),(26,(.agg v26.toArray)),(27,(.int .i64 s17.2))]) (fun s17=>[]) H16 (.cons c<|.cons c<|.cons c<|.cons c<|.cons c<|.cons c<|.cons c<|.cons c<|.nil _) .slnil fun Rec18 s17 _ H19=>M<|p (cq c c)<|ad<|ak<|av c H19 (fun k20 H21=>an<|ak<|ax<|M<|J c<|aa<|aU H21 (x_index c c) c fun v30 _ H22=>aa<|aP (l:=aC.C (⟨0,0,0,0⟩:aC)) iI c c fun b8=>p (ar c)<|aa<|aR (k:=0) (vs:=aC.C v30) gL c c c c c c c<|ad<|M<|J c<|J c<|p (bd c<|vn s6.2 s17.2)<|aa<|aP (l:=aH.C (⟨0,0⟩:aH)) zero_233 c c fun b9=>aa<|aR (k:=0) (vs:=aH.C (⟨s6.2,s17.2⟩:aH)) inf_233 c c c c c c c<|ad<|eG (im s6 Rec18 s17) (fun s23=>[(0,(pv a0)),(1,a1),(5,(sv s17.1)),(6,(.int .i64 s6.2)),(9,(.pointer (some ⟨b9,0,none⟩))),(16,(.int .i64 (x15.len:Int))),(17,(.int .i64 s6.2)),(26,(.agg v26.toArray)),(27,(.int .i64 s17.2)),(42,(.bool s23))]) (fun s23=>[bx b9 233 (aH.C (⟨s6.2,s17.2⟩:aH))]) (ap<|p (ae gT c)<|bf (ba (k:=1) aS c c c) c<|p (qH c c)<|J c<|V c c (ay _) (fun g29=>wv<|ag c)<|V c c (ay _) (fun g30=>cv<|bE (k:=0) ag_233 c c c c)<|V c c (ay _) (fun g31=>cv<|bE (k:=1) ag_36 c c c c)<|bT H22 (fun k33 H34=>G (Y k33)<|to_clv H34 (az c k33) (aT (az c k33)<|aT (az c k33) bW) c fun r41 _ H35=>p (aI c k33 c)<|ad<|cz r41 H35 (.cons c<|.cons c<|.cons c<|.cons c<|.cons c<|.cons c<|.cons c<|.cons c<|.cons c<|.cons c<|.nil _)<|.cons_cons _<|.cons _ .slnil) fun k33 H34=>W (aJ k33)<|p (ao c k33 c)<|ad<|cz false H34 (.cons c<|.cons c<|.cons c<|.cons c<|.cons c<|.cons c<|.cons c<|.cons c<|.cons c<|.cons c<|.nil _)<|.cons_cons _<|.cons _ .slnil) fun s23 _ H24=>av c H24 (fun k25 H26=>ap<|J c<|bf (bE (k:=0) ag_233 c c c c) c<|aa<|aU H26 (bz (vs:=[(.agg (aH.C (⟨s6.2,s17.2⟩:aH)).toArray)]) c) c fun v45 _ H27=>aa<|aU H27 (dJ c c) c fun v46 _ H28=>O c<|ap<|p (bn c c)<|J c<|ad<|cM (v46,(IntKind.i64.wrap (s17.2 + 1))) H28 (.cons c<|.cons c<|.cons c<|.cons c<|.cons c<|.cons c<|.cons c<|.cons c<|.nil _)<|.cons _ .slnil) fun k25 H26=>an<|ap<|p (bn c c)<|J c<|ad<|cM (s17.1,(IntKind.i64.wrap (s17.2 + 1))) H26 (.cons c<|.cons c<|.cons c<|.cons c<|.cons c<|.cons c<|.cons c<|.cons c<|.nil _)<|.cons _ .slnil) fun k20 H21=>bj<|ap<|p (bn c c)<|J c<|ad<|cM (s17.1,(IntKind.i64.wrap (s6.2 + 1))) H21 (.cons c<|.cons c<|.cons c<|.cons c<|.cons c<|.nil _) .slnil) fun k9 H10=>bj<|M<|J c<|O c<|ah<|D ⟨s6.1,c,H10⟩
def uw (a0:Ptr) (a1:Int) (a2:Int) (K:Int→Hp→Prop):Hp→Prop:=br a0.isNone ( K 10) ( cl Tryz.prog iA [(pv a0),(.int .i64 a1),(.int .i64 a2)] aA fun r14=>br (!r14) ( K 2) ( nn a0 fun q18=>ld (q18.1,q18.2 + 0) cS fun x20=>ix x20 a1 fun q23=>gd (0 ≤ a2∧a2 < 8)<|ld (q23.1,q23.2 + Int.toNat a1 * 32 + Int.toNat a2 * 4 + 1) (cI .i64) fun x26=>br (x26 == 0) ( K 3) ( K 0)))
theorem sim_caps_Tree_look (a0:Ptr) (a1:Int) (a2:Int) {K:Int→Hp→Prop} {h:Hp} (H:uw a0 a1 a2 K h):Ct Tryz.prog mw #[(pv a0),(.int .i64 a1),(.int .i64 a2)] h fun v h'=>∃ r,v = bi r∧K r h':=aw [(pv a0),(.int .i64 a1),(.int .i64 a2)] Tryz.func201 c c c fun _=>M<|O c<|ak<|ax<|M<|J c<|p (cr Tryz.underlying155 c)<|O c<|av c H (fun k1 H2=>M<|O c<|ah<|D ⟨10,c,H2⟩) fun k1 H2=>M<|J c<|J c<|J c<|aa<|F H2 en_151 fun r14 _ H3=>p (ct c)<|O c<|av c H3 (fun k4 H5=>M<|O c<|ah<|D ⟨2,c,H5⟩) fun k4 H5=>M<|J c<|bI H5 fun q18 e6 H7=>p (aL<|aK c<|aq e6)<|p (ae ik c)<|aa<|aW H7 qh c (fun _=>c) c fun x20 H8=>J c<|J c<|ck H8 fun q23 e9 h10 H11=>p (bh oJ (aK c<|aX e9) c h10)<|hH H11 fun h12 H13=>p (bw qD c c h12)<|p (ae gT c)<|aa<|aW H13 aS c (fun _=>c) c fun x26 H14=>p (bH c c)<|O c<|av c H14 (fun k15 H16=>M<|O c<|ah<|D ⟨3,c,H16⟩) fun k15 H16=>an<|M<|O c<|ah<|D ⟨0,c,H16⟩
def lU (a0:Ptr) (a1:Sl) (K:Sl→Hp→Prop) (Rec2:Int→Hp→Prop) (s1:Int):Hp→Prop:=br (decide (s1 < (a1.len:Int))) ( ix a1 s1 fun q11=>ld (q11.1,q11.2 + Int.toNat s1 * 2) aH.C fun x12=>nn a0 fun q14=>ld (q14.1,q14.2 + 0) cS fun x16=>ix x16 x12.fEnv fun q22=>gd (0 ≤ x12.fSlot∧x12.fSlot < 8)<|st (q22.1,q22.2 + Int.toNat x12.fEnv * 32 + Int.toNat x12.fSlot * 4) (aC.C (⟨0,0,0,0⟩:aC))<|Rec2 (IntKind.i64.wrap (s1 + 1))) ( K a1)
def qX (a0:Ptr) (a1:Sl) (K:Sl→Hp→Prop):Hp→Prop:=Lp (lU a0 a1 K) 0
theorem sim_caps_Tree_empties (a0:Ptr) (a1:Sl) {K:Sl→Hp→Prop} {h:Hp} (H:qX a0 a1 K h):Ct Tryz.prog gQ #[(pv a0),(sv a1)] h fun v h'=>∃ r,v = cW r∧K r h':=aw [(pv a0),(sv a1)] Tryz.func202 c c c fun _=>M<|O c<|ak<|M<|J c<|p (dl c Tryz.underlying201 c)<|J c<|ad<|ax<|bG (step:=lU a0 a1 K) (fun s1=>[(0,(pv a0)),(1,(sv a1)),(7,(sv a1)),(8,(.int .i64 (a1.len:Int))),(9,(.int .i64 s1))]) (fun s1=>[]) H (.cons c<|.cons c<|.cons c<|.cons c<|.cons c<|.nil _) .slnil fun Rec2 s1 _ H3=>M<|p (cq c c)<|ad<|ak<|av c H3 (fun k4 H5=>an<|ak<|ax<|M<|ck H5 fun q11 e6 h7 H8=>p (bh slc_201 (aK c<|aX e6) c h7)<|aa<|gI H8 ag_233 c (fun _=>c) c fun x12 H9=>aa<|aP (l:=aH.C (⟨0,0⟩:aH)) zero_233 c c fun b6=>aa<|aR (k:=0) (vs:=aH.C x12) inf_233 c c c c c c c<|ad<|bm (n:=12) [bx b6 233 (aH.C x12)] cn c (.cons_cons _ .slnil)<|U 0 c (ag c)<|U 4 c (ae fld_233_0 c)<|z_E 5 c (cx (k:=0) aS c c c)<|U 6 c (ae fld_233_1 c)<|z_E 7 c (cx (k:=0) aS c c c)<|U 8 c (bd (vs:=[]) c build_36)<|hO H9 fun q14 e10 H11=>U 1 c (aL<|aK c<|aq e10)<|U 2 c (ae ik c)<|bJ (i:=3) (fun _ _ _ _ hh=>hh) H11 c (by kernel_rfl) qh c (fun _=>c) c fun x16 H12=>fF H12 fun q22 e13 h14 H15=>U 9 c (bh oJ (aK c<|aX e13) c h14)<|eva_gd H15 fun h16 H17=>U 10 c (bw qD c c h16)<|R 11 c<|dh gL c c c c c H17 fun _ H18=>⟨.cons_cons _ .slnil,aO (by kernel_rfl)<|ap<|p (bn c c)<|J c<|ad<|cM (IntKind.i64.wrap (s1 + 1)) H18 (.cons c<|.cons c<|.cons c<|.cons c<|.cons c<|.nil _)<|.cons _ .slnil⟩) fun k4 H5=>bj<|M<|J c<|O c<|ah<|D ⟨a1,c,H5⟩
def nQ (a0:Ptr) (a2:aH) (K:Bool→Hp→Prop) (Rec2:aC→Hp→Prop) (s1:aC):Hp→Prop:=br ((s1.fRights != 0) && (decide (s1.fEnv ≥ 0))) ( br ((s1.fEnv == a2.fEnv) && (s1.fSlot == a2.fSlot)) ( K true) ( nn a0 fun q28=>ld (q28.1,q28.2 + 0) cS fun x30=>ix x30 s1.fEnv fun q35=>gd (0 ≤ s1.fSlot∧s1.fSlot < 8)<|ld (q35.1,q35.2 + Int.toNat s1.fEnv * 32 + Int.toNat s1.fSlot * 4) aC.C fun x37=>Rec2 x37)) ( K false)
def tg (a0:Ptr) (a1:aC) (a2:aH) (K:Bool→Hp→Prop):Hp→Prop:=Lp (nQ a0 a2 K) a1
theorem sim_caps_Tree_under (a0:Ptr) (a1:aC) (a2:aH) {K:Bool→Hp→Prop} {h:Hp} (H:tg a0 a1 a2 K h):Ct Tryz.prog lp #[(pv a0),(.agg (aC.C a1).toArray),(.agg (aH.C a2).toArray)] h fun v h'=>∃ r,v = aA r∧K r h':=aw [(pv a0),(.agg (aC.C a1).toArray),(.agg (aH.C a2).toArray)] Tryz.func190 c c c fun _=>M<|aa<|cA (l:=aC.C a1) c c c fun b4=>aa<|cA (l:=aH.C a2) c c c fun b5=>O c<|ak<|ax<|bG (step:=nQ a0 a2 K) (fun s1=>[(0,(pv a0)),(4,(.pointer (some ⟨b4,0,none⟩))),(5,(.pointer (some ⟨b5,0,none⟩)))]) (fun s1=>[bx b5 233 (aH.C a2),bx b4 36 (aC.C s1)]) H (.cons c<|.cons c<|.cons c<|.nil _) (.cons_cons _<|.cons_cons _ .slnil) fun Rec2 s1 _ H3=>ak<|M<|p (ae gT c)<|bf (ba (k:=1) aS c c c) c<|p (qH c c)<|J c<|V c c (ay _) (fun g4=>wv<|ae re c)<|V c c (ay _) (fun g5=>cv<|ba (k:=1) aS (az c g5) c c)<|V c c (ay _) (fun g6=>wv<|ij (az c g6) c)<|p (bO c c)<|ad<|av c H3 (fun k7 H8=>an<|ax<|ak<|M<|p (ae re c)<|bf (ba (k:=1) aS c c c) c<|p (ae fld_233_0 c)<|bf (ba (k:=0) aS c c c) c<|p (bH c c)<|J c<|V c c (ay _) (fun g9=>wv<|ae fld_36_3 c)<|V c c (ay _) (fun g10=>cv<|ba (k:=1) aS (az c g10) c c)<|V c c (ay _) (fun g11=>wv<|ae fld_233_1 c)<|V c c (ay _) (fun g12=>cv<|ba (k:=0) aS (az c g12) c c)<|V c c (ay _) (fun g13=>wv<|bH (az c g13)<|az c g13)<|p (bO c c)<|ad<|av c H8 (fun k14 H15=>M<|O c<|ah<|D ⟨true,c,H15⟩) fun k14 H15=>an<|bm (n:=12) [] cn c (.cons _<|.cons _ .slnil)<|U 0 c (ag c)<|U 4 c (ae re c)<|U 6 c (ae fld_36_3 c)<|hO H15 fun q28 e16 H17=>U 1 c (aL<|aK c<|aq e16)<|U 2 c (ae ik c)<|bJ (i:=3) (fun _ _ _ _ hh=>hh) H17 c (by kernel_rfl) qh c (fun _=>c) c fun x30 H18=>eva_load (i:=5) (fun _ _ _ _ hh=>hh) c (by kernel_rfl) c (ba (k:=1) aS c c c)<|fF H18 fun q35 e19 h20 H21=>U 8 c (bh oJ (aK c<|aX e19) c h20)<|eva_load (i:=7) (fun _ _ _ _ hh=>hh) c (by kernel_rfl) c (ba (k:=1) aS c c c)<|eva_gd H21 fun h22 H23=>U 9 c (bw qD c c h22)<|xw (i:=10) (fun _ _ _ _ hh=>hh) H23 c (by kernel_rfl) ag_36 c (fun _=>c) c fun x37 H24=>R 11 c<|aR (k:=1) (vs:=aC.C x37) gL c c c c c c c ⟨.cons _<|.cons _ .slnil,aO (by kernel_rfl)<|cM x37 H24 (.cons c<|.cons c<|.cons c<|.nil _)<|.cons_cons _<|.cons_cons _ .slnil⟩) fun k7 H8=>bj<|M<|O c<|ah<|D ⟨false,c,H8⟩
def qY (a0:aH) (a1:aC) (c0:Nat) (c1:Nat) (K:Bool→Hp→Prop):Hp→Prop:=ld (c0,0) aH.C fun x8=>br (!(aH.eqb a0 x8)) ( ld (c1,0) cP fun x11=>ld (c0,0) aH.C fun x13=>cl Tryz.prog lp [(pv x11),(.agg (aC.C a1).toArray),(.agg (aH.C x13).toArray)] aA fun r14=>K r14) ( K true)
theorem sim_caps_Tree_Drop_c1 (a0:aH) (a1:aC) (c0:Nat) (c1:Nat) {K:Bool→Hp→Prop} {h:Hp} (H:qY a0 a1 c0 c1 K h):Ct Tryz.prog gR #[(.agg (aH.C a0).toArray),(.agg (aC.C a1).toArray),(.pointer (some ⟨c0,0,none⟩)),(.pointer (some ⟨c1,0,none⟩))] h fun v h'=>∃ r,v = aA r∧K r h':=aw [(.agg (aH.C a0).toArray),(.agg (aC.C a1).toArray),(.pointer (some ⟨c0,0,none⟩)),(.pointer (some ⟨c1,0,none⟩))] Tryz.func203 c c c fun _=>M<|aa<|cA (l:=aH.C a0) c c c fun b4=>aa<|cA (l:=aC.C a1) c c c fun b5=>O c<|M<|bf (bE (k:=1) ag_233 c c c c) c<|aa<|gI H ag_233 c (fun _=>c) c fun x8 H1=>p (v_eqA eqg_233 (eqr_233 9998 _ _) c c)<|J c<|bT H1 (fun k3 H4=>G (Y<|bN k3)<|aW H4 ir c (fun _=>c) c fun x11 H5=>G (Y<|bN k3)<|tk (cv<|bE (k:=0) ag_36 c c c c) c<|G (Y<|bN k3)<|gI H5 ag_233 c (fun _=>c) c fun x13 H6=>G (Y<|bN k3)<|F H6 en_190 fun r14 _ H7=>p (ao c (bN k3) c)<|O c<|ah<|D ⟨r14,c,H7⟩) fun k3 H4=>W (bb<|bo k3)<|W (bb<|bo k3)<|W (bb<|bo k3)<|W (bb<|bo k3)<|p (aI c (bo k3) c)<|O c<|ah<|D ⟨true,c,H4⟩
def uy (a0:Ptr) (a1:Int) (a2:Int) (K:(Sl × Int)→Hp→Prop):Hp→Prop:=nw sc [pv a0] fun b3=>ld (b3,0) cP fun x10=>cl Tryz.prog mw [(pv x10),(.int .i64 a1),(.int .i64 a2)] bi fun r13=>br (r13 != 0) ( K ((⟨none,0,0,none⟩:Sl),r13)) ( nw rZ (aH.C (⟨0,0⟩:aH)) fun b9=>st (b9,0) (aH.C (⟨a1,a2⟩:aH))<|ld (b3,0) cP fun x21=>both ( ld (b3,0) cP fun x20=>cl Tryz.prog kD [(pv x21),(.func (.func gR) #[] #[(.pointer (some ⟨b9,0,none⟩)),(.pointer (some ⟨b3,0,none⟩))])] cW fun r23=>cl Tryz.prog gQ [(pv x20),(sv r23)] cW fun r24=>K (r24,0)) ( cl Tryz.prog kD [(pv x21),(.func (.func gR) #[] #[(.pointer (some ⟨b9,0,none⟩)),(.pointer (some ⟨b3,0,none⟩))])] cW fun r23=>ld (b3,0) cP fun x20=>cl Tryz.prog gQ [(pv x20),(sv r23)] cW fun r24=>K (r24,0)))
theorem sim_caps_Tree_Drop (a0:Ptr) (a1:Int) (a2:Int) {K:(Sl × Int)→Hp→Prop} {h:Hp} (H:uy a0 a1 a2 K h):Ct Tryz.prog my #[(pv a0),(.int .i64 a1),(.int .i64 a2)] h fun v h'=>∃ r,v = dA r∧K r h':=aw [(pv a0),(.int .i64 a1),(.int .i64 a2)] Tryz.func174 c c c fun _=>M<|aa<|io c c c H fun b3 _ H1=>p (ar c)<|O c<|ak<|M<|aa<|aW H1 ir c (fun _=>c) c fun x10 H2=>J c<|J c<|aa<|F H2 en_201 fun r13 _ H3=>O c<|M<|J c<|p (qH c c)<|ad<|av c H3 (fun k4 H5=>M<|J c<|p (ar c)<|O c<|ah<|bA (bV c (cf c)<|cf c) ⟨((⟨none,0,0,none⟩:Sl),r13),c,H5⟩) fun k4 H5=>an<|M<|J c<|J c<|p (bd c<|vn a1 a2)<|aa<|to_alloc zero_233 c c H5 fun b9 _ H6=>aa<|dh inf_233 c c c c c H6 fun _ H7=>ad<|ak<|bm (n:=7) [] cn c .slnil<|U 2 c (v_func c c)<|bJ (i:=1) (fun _ _ _ _ hh=>hh) H7 c (by kernel_rfl) ir c (fun _=>c) c fun x21 H8=>jR H8 fun H9_1 H9_2=>jS (i:=0) (j:=3) (by kernel_rfl) (cJ c c<|aW H9_1 ir c (fun _=>c) c fun x20 H10=>⟨.slnil,R 3 c<|F H10 en_188 fun r23 _ H11=>⟨.slnil,R 4 c<|F H11 en_202 fun r24 _ H12=>⟨.slnil,U 5 c (ar c)<|U 6 c (ar c)<|aO (by kernel_rfl)<|ah<|bA (bV c (cf c)<|cf c) ⟨(r24,0),c,H12⟩⟩⟩⟩)<|cJ c c<|F H9_2 en_188 fun r23 _ H10=>⟨.slnil,bJ (i:=0) (fun _ _ _ _ hh=>hh) H10 c (by kernel_rfl) ir c (fun _=>c) c fun x20 H11=>R 4 c<|F H11 en_202 fun r24 _ H12=>⟨.slnil,U 5 c (ar c)<|U 6 c (ar c)<|aO (by kernel_rfl)<|ah<|bA (bV c (cf c)<|cf c) ⟨(r24,0),c,H12⟩⟩⟩
def pT (a0:aH) (a1:aC) (c0:Nat) (c1:Nat) (c2:Nat) (K:Bool→Hp→Prop):Hp→Prop:=ld (c0,0) cP fun x8=>ld (c1,0) (cI .i64) fun x10=>ld (c2,0) (cI .i64) fun x11=>cl Tryz.prog lp [(pv x8),(.agg (aC.C a1).toArray),(.agg (aH.C (⟨x10,x11⟩:aH)).toArray)] aA fun r13=>K r13
theorem wW (a0:aH) (a1:aC) (c0:Nat) (c1:Nat) (c2:Nat) {K:Bool→Hp→Prop} {h:Hp} (H:pT a0 a1 c0 c1 c2 K h):Ct Tryz.prog lO #[(.agg (aH.C a0).toArray),(.agg (aC.C a1).toArray),(.pointer (some ⟨c0,0,none⟩)),(.pointer (some ⟨c1,0,none⟩)),(.pointer (some ⟨c2,0,none⟩))] h fun v h'=>∃ r,v = aA r∧K r h':=aw [(.agg (aH.C a0).toArray),(.agg (aC.C a1).toArray),(.pointer (some ⟨c0,0,none⟩)),(.pointer (some ⟨c1,0,none⟩)),(.pointer (some ⟨c2,0,none⟩))] Tryz.func189 c c c fun _=>M<|aa<|cA (l:=aH.C a0) c c c fun b5=>aa<|cA (l:=aC.C a1) c c c fun b6=>O c<|M<|aa<|aW H ir c (fun _=>c) c fun x8 H1=>bf (bE (k:=0) ag_36 c c c c) c<|aa<|aW H1 aS c (fun _=>c) c fun x10 H2=>aa<|aW H2 aS c (fun _=>c) c fun x11 H3=>p (bd c<|vn x10 x11)<|aa<|F H3 en_190 fun r13 _ H4=>O c<|ah<|D ⟨r13,c,H4⟩
def th (a0:Ptr) (a1:Int) (a2:Int) (K:Sl→Hp→Prop):Hp→Prop:=nw sc [pv a0] fun b3=>nw lf [.int .i64 a1] fun b4=>nw lf [.int .i64 a2] fun b5=>ld (b3,0) cP fun x7=>cl Tryz.prog kD [(pv x7),(.func (.func lO) #[] #[(.pointer (some ⟨b3,0,none⟩)),(.pointer (some ⟨b4,0,none⟩)),(.pointer (some ⟨b5,0,none⟩))])] cW fun r9=>K r9
theorem sim_caps_Tree_Below (a0:Ptr) (a1:Int) (a2:Int) {K:Sl→Hp→Prop} {h:Hp} (H:th a0 a1 a2 K h):Ct Tryz.prog lq #[(pv a0),(.int .i64 a1),(.int .i64 a2)] h fun v h'=>∃ r,v = cW r∧K r h':=aw [(pv a0),(.int .i64 a1),(.int .i64 a2)] Tryz.func147 c c c fun _=>M<|aa<|io c c c H fun b3 _ H1=>aa<|io c c c H1 fun b4 _ H2=>aa<|io c c c H2 fun b5 _ H3=>O c<|M<|aa<|aW H3 ir c (fun _=>c) c fun x7 H4=>p (v_func c c)<|aa<|F H4 en_188 fun r9 _ H5=>O c<|ah<|D ⟨r9,c,H5⟩
def rU (a0:Ptr) (a1:Int) (a2:Int) (K:(Sl × Int)→Hp→Prop):Hp→Prop:=cl Tryz.prog mw [(pv a0),(.int .i64 a1),(.int .i64 a2)] bi fun r12=>br (r12 != 0) ( K ((⟨none,0,0,none⟩:Sl),r12)) ( cl Tryz.prog lq [(pv a0),(.int .i64 a1),(.int .i64 a2)] cW fun r20=>cl Tryz.prog gQ [(pv a0),(sv r20)] cW fun r21=>K (r21,0))
theorem sim_caps_Tree_Revoke (a0:Ptr) (a1:Int) (a2:Int) {K:(Sl × Int)→Hp→Prop} {h:Hp} (H:rU a0 a1 a2 K h):Ct Tryz.prog nL #[(pv a0),(.int .i64 a1),(.int .i64 a2)] h fun v h'=>∃ r,v = dA r∧K r h':=aw [(pv a0),(.int .i64 a1),(.int .i64 a2)] Tryz.func175 c c c fun _=>M<|p (ar c)<|O c<|ak<|M<|J c<|J c<|J c<|aa<|F H en_201 fun r12 _ H1=>O c<|M<|J c<|p (qH c c)<|ad<|av c H1 (fun k2 H3=>M<|J c<|p (ar c)<|O c<|ah<|bA (bV c (cf c)<|cf c) ⟨((⟨none,0,0,none⟩:Sl),r12),c,H3⟩) fun k2 H3=>an<|M<|J c<|J c<|J c<|J c<|aa<|F H3 en_147 fun r20 _ H4=>aa<|F H4 en_202 fun r21 _ H5=>p (ar c)<|O c<|ah<|bA (bV c (cf c)<|cf c) ⟨(r21,0),c,H5⟩
def sh_caps_New (a0:Int) (K:Ptr→Hp→Prop):Hp→Prop:=br ((decide (a0 < 1)) || (decide (a0 > 4))) ( K none) ( hpv Tryz.prog (Instr.makeSlice t_S_8_api_Cap (.int .i64 a0) (.int .i64 a0)) R_S_8_api_Cap fun (v10:Sl)=>nw nU (oB.C (⟨v10⟩:oB)) fun b12=>K (some (b12,0)))
theorem sim_caps_New (a0:Int) {K:Ptr→Hp→Prop} {h:Hp} (H:sh_caps_New a0 K h):Ct Tryz.prog xl #[(.int .i64 a0)] h fun v h'=>∃ r,v = sE r∧K r h':=aw [(.int .i64 a0)] Tryz.func106 c c c fun _=>M<|O c<|ak<|M<|J c<|p (cq c c)<|J c<|V c c (aG _) (fun g1=>wv<|ag c)<|V c c (aG _) (fun g2=>wv<|kP (az c g2) c)<|p (cZ c c)<|ad<|av c H (fun k3 H4=>M<|O c<|ah<|D ⟨none,c,H4⟩) fun k3 H4=>an<|M<|J c<|aa<|aU H4 (jX c c) c fun v10 _ H5=>p (bd c<|build_208_0 v10)<|aa<|io c c c H5 fun b12 _ H6=>O c<|ah<|D ⟨some (b12,0),c,H6⟩
end Go.Proofs.YtemoifebbhoinaaGreatDoor
namespace Go.Proofs.YtemoifebbhoinaaGreatDoor
open Go Mb
namespace Mb
def SpV {τ:Type} (P:Program) (c:Value) (args:List Value) (enc:τ→Value) (pre:List As) (post:τ→As):Prop :=
  ∃ f fi ca,c = .func (.func f) fi ca∧aM P f∧∀ h,aF pre h→Ct P f ((fi++args.toArray)++ca) h fun v h'=>∃ r,v = enc r∧post r h'
theorem star_rot {m:List As} {B:As} {h:Hp} (s:aF (m++[B]) h):aF (B::m) h:=kJ (List.perm_append_singleton _ _) s
theorem star_rot' {m:List As} {B:As} {h:Hp} (s:aF (B::m) h):aF (m++[B]) h:=kJ (List.perm_append_singleton _ _).symm s
theorem clv_t {τ:Type} {P:Program} {c:Value} {args:List Value} {enc:τ→Value} {pre:List As} {B:As} {post:τ→As} {K:τ→Hp→Prop} {h:Hp} (H:SpV P c args enc pre post) (s:aF (B::pre) h)
    (k:∀ r h',aF [post r,B] h'→K r h'):clv P c args enc K h:=by
  obtain ⟨f,fi,ca,rfl,he,H⟩:=H
  obtain ⟨h1,h2,d,rfl,s1,s2⟩:=eZ.1 (star_rot' s)
  exact ⟨f,fi,ca,rfl,he,(H h1 s1).frame_mono d rfl fun v h' ⟨r,hv,q⟩ dj=>⟨r,hv,k r _ ⟨h',h2,dj,rfl,q,s2⟩⟩⟩
end Mb
abbrev Cap:=aC
abbrev bY:=aH
abbrev lV:Cap:=⟨0,0,0,0⟩
theorem qC (c:Cap):c.C.length = 4:=rfl
theorem vW (c:bY):c.C.length = 2:=rfl
theorem place_one (c:bY):dL c.C = true:=rfl
instance:DecidableEq bY:=fun a b=>decidable_of_iff (a.fEnv = b.fEnv∧a.fSlot = b.fSlot) ⟨fun h=>by cases a; cases b; simp_all,fun h=>by subst h; exact ⟨rfl,rfl⟩⟩
def enc8 (r:List Cap):List Value:=((r++List.replicate 8 lV).take 8).flatMap aC.C
theorem enc8_len (r:List Cap):(enc8 r).length = 32:=by unfold enc8; rw [dR qC]; simp
theorem enc8_eq {r:List Cap} (h:r.length = 8):enc8 r = r.flatMap aC.C:=by
  unfold enc8; rw [List.take_append_of_le_length (by omega),← h,List.take_length]
namespace Caps
abbrev T:=List (List Cap)
def has (t:T) (e s:Int):Bool:=decide (0 ≤ e∧e < t.length∧0 ≤ s∧s < 8)
def get (t:T) (e s:Int):Cap:=(t.getD e.toNat []).getD s.toNat lV
def put (t:T) (e s:Int) (c:Cap):T:=t.set e.toNat ((t.getD e.toNat []).set s.toNat c)
def at_ (t:T) (e s:Int):Cap × Bool:=if has t e s = true∧(get t e s).fRights ≠ 0 then (get t e s,true) else (lV,false)
def root (t:T) (e s f:Int):Int × T :=
  if has t e s = false∨f < 0∨f ≥ 16 then (2,t) else if (get t e s).fRights ≠ 0 then (4,t) else (0,put t e s ⟨f,3,-1,0⟩)
def derive (t:T) (e src to dst r:Int):Int × T :=
  if has t e src = false∨has t to dst = false∨ch r = false then (2,t)
  else if (get t e src).fRights = 0 then (3,t) else if (get t to dst).fRights ≠ 0 then (4,t)
  else if aV r (get t e src).fRights = false then (5,t) else (0,put t to dst ⟨(get t e src).fFrame,r,e,src⟩)
def up:Nat→T→Cap→bY→Bool
  | 0,_,_,_=>false
  | n + 1,t,c,p=>if c.fRights ≠ 0∧0 ≤ c.fEnv then (if c.fEnv = p.fEnv∧c.fSlot = p.fSlot then true else up n t (get t c.fEnv c.fSlot) p) else false
def deep:Nat→T→Cap→Nat
  | 0,_,_=>0
  | n + 1,t,c=>if c.fRights ≠ 0∧0 ≤ c.fEnv then deep n t (get t c.fEnv c.fSlot) + 1 else 0
def under (t:T) (c:Cap) (p:bY):Bool:=up 40 t c p
def rowOf (P:Int→Int→Cap→Bool) (e:Int):List Cap→Int→List bY
  | [],_=>[]
  | c::cs,s=>if c.fRights ≠ 0∧P e s c = true then ⟨e,s⟩::rowOf P e cs (s + 1) else rowOf P e cs (s + 1)
def allOf (P:Int→Int→Cap→Bool):T→Int→List bY
  | [],_=>[]
  | r::rs,e=>rowOf P e r 0++allOf P rs (e + 1)
def below (t:T) (e s:Int):List bY:=allOf (fun _ _ c=>under t c ⟨e,s⟩) t 0
def own (t:T) (e s:Int):List bY:=allOf (fun a b c=>aH.eqb ⟨a,b⟩ ⟨e,s⟩ || under t c ⟨e,s⟩) t 0
def empties (t:T):List bY→T
  | []=>t
  | p::l=>empties (put t p.fEnv p.fSlot lV) l
def look (t:T) (e s:Int):Int:=if has t e s = false then 2 else if (get t e s).fRights = 0 then 3 else 0
def revoke (t:T) (e s:Int):(List bY × Int) × T:=if look t e s ≠ 0 then (([],look t e s),t) else ((below t e s,0),empties t (below t e s))
def drop (t:T) (e s:Int):(List bY × Int) × T:=if look t e s ≠ 0 then (([],look t e s),t) else ((own t e s,0),empties t (own t e s))
structure Ok (t:T):Prop where
  len:t.length ≤ 4
  row:∀ r ∈ t,r.length = 8
  rk:∃ rank:Int→Int→Nat,∀ e s,has t e s = true→(get t e s).fRights ≠ 0→0 ≤ (get t e s).fEnv →
    has t (get t e s).fEnv (get t e s).fSlot = true∧(get t (get t e s).fEnv (get t e s).fSlot).fRights ≠ 0∧rank (get t e s).fEnv (get t e s).fSlot < rank e s
theorem has_nat {t:T} {e s:Int} (h:has t e s = true):∃ m n:Nat,e = m∧s = n∧m < t.length∧n < 8:=by
  unfold has at h
  have:=of_decide_eq_true h
  exact ⟨e.toNat,s.toNat,by omega,by omega,by omega,by omega⟩
theorem has_of {t:T} {m n:Nat} (h1:m < t.length) (h2:n < 8):has t m n = true:=by
  unfold has; exact decide_eq_true ⟨by omega,by omega,by omega,by omega⟩
theorem get_nat' {t:T} (ok:∀ r ∈ t,r.length = 8) {m n:Nat} (h1:m < t.length) (h2:n < 8):∃ h3:n < t[m].length,get t m n = t[m][n]:=by
  have:=ok _ (List.getElem_mem h1)
  refine ⟨by omega,?_⟩
  have h3:n < t[m].length:=by omega
  simp [get,h1,h3]
theorem put_nat {t:T} {m n:Nat} (h1:m < t.length) (c:Cap):put t m n c = t.set m (t[m].set n c):=by simp [put,h1]
theorem put_len (t:T) (e s:Int) (c:Cap):(put t e s c).length = t.length:=by simp [put]
theorem put_has (t:T) (e s:Int) (c:Cap) (a b:Int):has (put t e s c) a b = has t a b:=by unfold has; rw [put_len]
theorem put_row {t:T} (ok:∀ r ∈ t,r.length = 8) (e s:Int) (c:Cap):∀ r ∈ put t e s c,r.length = 8:=by
  intro r hr
  unfold put at hr
  rcases List.mem_or_eq_of_mem_set hr with h | h
  · exact ok r h
  · subst h
    by_cases hm:e.toNat < t.length
    · simp [hm]; exact ok _ (List.getElem_mem hm)
    · rw [List.set_eq_of_length_le (by omega)] at hr; exact ok _ hr
theorem get_put {t:T} (ok:∀ r ∈ t,r.length = 8) {e s a b:Int} (h:has t e s = true) (h2:has t a b = true) (c:Cap):get (put t e s c) a b = if a = e∧b = s then c else get t a b:=by
  obtain ⟨m,n,rfl,rfl,hm,hn⟩:=has_nat h
  obtain ⟨i,j,rfl,rfl,hi,hj⟩:=has_nat h2
  have hl:=ok _ (List.getElem_mem hm)
  rw [put_nat hm]
  simp only [get,Int.toNat_natCast,List.getD_eq_getElem?_getD,List.getElem?_set]
  by_cases e1:m = i
  · subst e1
    by_cases e2:n = j
    · subst e2; simp [hm,hl,hn]
    · have:¬ ((m:Int) = m∧(j:Int) = n):=by omega
      rw [if_neg this]; simp [hm,e2]
  · have:¬ ((i:Int) = m∧(j:Int) = n):=by omega
    rw [if_neg this]; simp [e1]
theorem pigeon:∀ (n:Nat) (l:List Nat),l.Nodup→(∀ x ∈ l,x < n)→l.length ≤ n
  | 0,l,_,h=>by
    cases l with
    | nil=>simp
    | cons a l=>exact absurd (h a (by simp)) (by omega)
  | n + 1,l,d,h=>by
    have h1:=pigeon n (l.erase n) (d.erase n) (fun x hx=>by
      have h2:=d.mem_erase_iff.1 hx
      have:=h x h2.2
      have:=h2.1
      omega)
    rw [List.length_erase] at h1
    split at h1 <;> omega
theorem path {t:T} (ok:Ok t) {rank:Int→Int→Nat} (hr:∀ e s,has t e s = true→(get t e s).fRights ≠ 0→0 ≤ (get t e s).fEnv →
    has t (get t e s).fEnv (get t e s).fSlot = true∧(get t (get t e s).fEnv (get t e s).fSlot).fRights ≠ 0∧rank (get t e s).fEnv (get t e s).fSlot < rank e s) :
    ∀ (n:Nat) (e s:Int),has t e s = true→∃ l:List Nat,l.length = deep n t (get t e s)∧l.Pairwise (fun a b=>rank (b / 8:Nat) (b % 8:Nat) < rank (a / 8:Nat) (a % 8:Nat))∧∀ a ∈ l,a < 32∧rank (a / 8:Nat) (a % 8:Nat) < rank e s
  | 0,_,_,_=>⟨[],rfl,.nil,fun a h=>by cases h⟩
  | n + 1,e,s,h=>by
    by_cases hc:(get t e s).fRights ≠ 0∧0 ≤ (get t e s).fEnv
    · obtain ⟨h1,h2,h3⟩:=hr e s h hc.1 hc.2
      obtain ⟨l,hl,hp,hb⟩:=path ok hr n _ _ h1
      obtain ⟨i,j,ei,ej,hi,hj⟩:=has_nat h1
      have hlen:=ok.len
      have e1:(i * 8 + j) / 8 = i:=by omega
      have e2:(i * 8 + j) % 8 = j:=by omega
      refine ⟨(i * 8 + j)::l,?_,?_,?_⟩
      · simp only [List.length_cons,deep]; rw [if_pos hc,hl]
      · refine List.pairwise_cons.2 ⟨fun b hb'=>?_,hp⟩
        have:=(hb b hb').2
        rw [e1,e2,← ei,← ej]; exact this
      · intro a ha
        rcases List.mem_cons.1 ha with rfl | ha
        · rw [e1,e2,← ei,← ej]; exact ⟨by omega,h3⟩
        · exact ⟨(hb a ha).1,Nat.lt_trans (hb a ha).2 h3⟩
    · exact ⟨[],by simp only [deep]; rw [if_neg hc]; rfl,.nil,fun a h=>by cases h⟩
theorem deep_le {t:T} (ok:Ok t) {e s:Int} (h:has t e s = true) (n:Nat):deep n t (get t e s) ≤ 32:=by
  obtain ⟨rank,hr⟩:=ok.rk
  obtain ⟨l,hl,hp,hb⟩:=path ok hr n e s h
  rw [← hl]
  refine pigeon 32 l (hp.imp ?_) (fun x hx=>(hb x hx).1)
  rintro a b hab rfl
  exact absurd hab (Nat.lt_irrefl _)
theorem deep_s (n:Nat) (t:T) (c:Cap):deep (n + 1) t c = if c.fRights ≠ 0∧0 ≤ c.fEnv then deep n t (get t c.fEnv c.fSlot) + 1 else 0:=rfl
theorem up_s (n:Nat) (t:T) (c:Cap) (p:bY):up (n + 1) t c p = if c.fRights ≠ 0∧0 ≤ c.fEnv then (if c.fEnv = p.fEnv∧c.fSlot = p.fSlot then true else up n t (get t c.fEnv c.fSlot) p) else false:=rfl
theorem deep_succ {t:T}:∀ {n:Nat} {c:Cap},deep n t c < n→deep (n + 1) t c = deep n t c
  | 0,_,h=>by omega
  | n + 1,c,h=>by
    rw [deep_s (n + 1) t c,deep_s n t c]
    rw [deep_s n] at h
    by_cases hc:c.fRights ≠ 0∧0 ≤ c.fEnv
    · rw [if_pos hc] at h
      rw [if_pos hc,if_pos hc,deep_succ (n:=n) (by omega)]
    · rw [if_neg hc,if_neg hc]
theorem up_succ {t:T} {p:bY}:∀ {n:Nat} {c:Cap},deep n t c < n→up (n + 1) t c p = up n t c p
  | 0,_,h=>by omega
  | n + 1,c,h=>by
    rw [up_s (n + 1) t c p,up_s n t c p]
    rw [deep_s n] at h
    by_cases hc:c.fRights ≠ 0∧0 ≤ c.fEnv
    · rw [if_pos hc] at h
      rw [if_pos hc,if_pos hc,up_succ (n:=n) (by omega)]
    · rw [if_neg hc,if_neg hc]
theorem under_step {t:T} (ok:Ok t) {e s:Int} (h:has t e s = true) (p:bY):under t (get t e s) p = if (get t e s).fRights ≠ 0∧0 ≤ (get t e s).fEnv then (if (get t e s).fEnv = p.fEnv∧(get t e s).fSlot = p.fSlot then true else under t (get t (get t e s).fEnv (get t e s).fSlot) p) else false:=by
  have h1:=deep_le ok h 40
  unfold under
  by_cases hc:(get t e s).fRights ≠ 0∧0 ≤ (get t e s).fEnv
  · rw [deep_s 39,if_pos hc] at h1
    rw [up_s 39,up_succ (n:=39) (by omega)]
  · rw [up_s 39,if_neg hc,if_neg hc]
theorem deep_step {t:T} (ok:Ok t) {e s:Int} (h:has t e s = true) (hc:(get t e s).fRights ≠ 0∧0 ≤ (get t e s).fEnv):deep 40 t (get t (get t e s).fEnv (get t e s).fSlot) < deep 40 t (get t e s):=by
  have h1:=deep_le ok h 40
  rw [deep_s 39,if_pos hc] at h1
  rw [deep_succ (n:=39) (by omega),deep_s 39,if_pos hc]
  omega
theorem ok_new (n:Nat) (h:n ≤ 4):Ok (List.replicate n (List.replicate 8 lV)):=by
  refine ⟨by simpa using h,fun r hr=>?_,fun _ _=>0,fun e s hh hne=>?_⟩
  · rw [(List.mem_replicate.1 hr).2]; rfl
  · exfalso
    apply hne
    obtain ⟨i,j,rfl,rfl,hi,hj⟩:=has_nat hh
    simp only [List.length_replicate] at hi
    simp only [get,Int.toNat_natCast,List.getD_eq_getElem?_getD,List.getElem?_replicate,if_pos hi,Option.getD_some,if_pos hj]
theorem ok_put {t:T} (ok:Ok t) {e s:Int} (h:has t e s = true) (h0:(get t e s).fRights = 0) (c:Cap) (hc:0 ≤ c.fEnv→has t c.fEnv c.fSlot = true∧(get t c.fEnv c.fSlot).fRights ≠ 0):Ok (put t e s c):=by
  obtain ⟨rank,hr⟩:=ok.rk
  refine ⟨by rw [put_len]; exact ok.len,put_row ok.row e s c,fun a b=>if a = e∧b = s then rank c.fEnv c.fSlot + 1 else rank a b,fun a b hab hne hen=>?_⟩
  rw [put_has] at hab
  have keep:∀ {i j:Int},has t i j = true→(get t i j).fRights ≠ 0→¬ (i = e∧j = s):=by
    rintro i j _ hn ⟨rfl,rfl⟩; exact hn h0
  have hg:=get_put ok.row h hab c
  rw [hg] at hne hen ⊢
  by_cases hes:a = e∧b = s
  · rw [if_pos hes] at hne hen ⊢
    obtain ⟨h1,h2⟩:=hc hen
    have hk:=keep h1 h2
    refine ⟨by rw [put_has]; exact h1,by rw [get_put ok.row h h1,if_neg hk]; exact h2,?_⟩
    show (if c.fEnv = e∧c.fSlot = s then _ else _) < (if a = e∧b = s then _ else _)
    rw [if_neg hk,if_pos hes]; omega
  · rw [if_neg hes] at hne hen ⊢
    obtain ⟨h1,h2,h3⟩:=hr a b hab hne hen
    have hk:=keep h1 h2
    refine ⟨by rw [put_has]; exact h1,by rw [get_put ok.row h h1,if_neg hk]; exact h2,?_⟩
    show (if (get t a b).fEnv = e∧(get t a b).fSlot = s then _ else _) < (if a = e∧b = s then _ else _)
    rw [if_neg hk,if_neg hes]; exact h3
theorem empties_len:∀ (l:List bY) (t:T),(empties t l).length = t.length
  | [],_=>rfl
  | p::l,t=>by rw [empties,empties_len l,put_len]
theorem empties_has (t:T) (l:List bY) (a b:Int):has (empties t l) a b = has t a b:=by unfold has; rw [empties_len]
theorem empties_row:∀ (l:List bY) (t:T),(∀ r ∈ t,r.length = 8)→∀ r ∈ empties t l,r.length = 8
  | [],_,h=>h
  | p::l,t,h=>empties_row l _ (put_row h _ _ _)
theorem jp:∀ (l:List bY) (t:T),(∀ r ∈ t,r.length = 8)→(∀ p ∈ l,has t p.fEnv p.fSlot = true)→∀ a b,has t a b = true→get (empties t l) a b = if (⟨a,b⟩:bY) ∈ l then lV else get t a b
  | [],_,_,_,_,_,_=>by simp [empties]
  | p::l,t,h,hl,a,b,hab=>by
    rw [empties,jp l _ (put_row h _ _ _) (fun q hq=>by rw [put_has]; exact hl q (by simp [hq])) a b (by rw [put_has]; exact hab),get_put h (hl p (by simp)) hab]
    by_cases h1:(⟨a,b⟩:bY) ∈ l
    · rw [if_pos h1,if_pos (by simp [h1])]
    · rw [if_neg h1]
      by_cases h2:a = p.fEnv∧b = p.fSlot
      · obtain ⟨rfl,rfl⟩:=h2
        rw [if_pos ⟨rfl,rfl⟩,if_pos (by simp)]
      · rw [if_neg h2,if_neg]
        intro hm
        rcases List.mem_cons.1 hm with hm | hm
        · subst hm; exact h2 ⟨rfl,rfl⟩
        · exact h1 hm
theorem rowOf_c (P:Int→Int→Cap→Bool) (e:Int) (c:Cap) (cs:List Cap) (s:Int):rowOf P e (c::cs) s = if c.fRights ≠ 0∧P e s c = true then ⟨e,s⟩::rowOf P e cs (s + 1) else rowOf P e cs (s + 1):=rfl
theorem mem_rowOf {P:Int→Int→Cap→Bool} {e:Int} {p:bY}:∀ {cs:List Cap} {s:Int},p ∈ rowOf P e cs s↔p.fEnv = e∧∃ (n:Nat) (c:Cap),cs[n]? = some c∧p.fSlot = s + n∧c.fRights ≠ 0∧P e (s + n) c = true
  | [],s=>by simp [rowOf]
  | c::cs,s=>by
    have ih:=mem_rowOf (P:=P) (e:=e) (p:=p) (cs:=cs) (s:=s + 1)
    have tail:(p.fEnv = e∧∃ (n:Nat) (c':Cap),cs[n]? = some c'∧p.fSlot = s + 1 + n∧c'.fRights ≠ 0∧P e (s + 1 + n) c' = true)↔(p.fEnv = e∧∃ (n:Nat) (c':Cap),(c::cs)[n + 1]? = some c'∧p.fSlot = s + ((n + 1:Nat):Int)∧c'.fRights ≠ 0∧P e (s + ((n + 1:Nat):Int)) c' = true):=by
      have:∀ n:Nat,s + ((n + 1:Nat):Int) = s + 1 + n:=fun n=>by omega
      simp only [this,List.getElem?_cons_succ]
    have split0:(p.fEnv = e∧∃ (n:Nat) (c':Cap),(c::cs)[n]? = some c'∧p.fSlot = s + n∧c'.fRights ≠ 0∧P e (s + n) c' = true)↔(p = ⟨e,s⟩∧c.fRights ≠ 0∧P e s c = true)∨(p.fEnv = e∧∃ (n:Nat) (c':Cap),(c::cs)[n + 1]? = some c'∧p.fSlot = s + ((n + 1:Nat):Int)∧c'.fRights ≠ 0∧P e (s + ((n + 1:Nat):Int)) c' = true):=by
      constructor
      · rintro ⟨he,n,c',h1,h2,h3,h4⟩
        cases n with
        | zero =>
          simp at h1; subst h1
          simp at h2 h4
          exact .inl ⟨by cases p; simp_all,h3,h4⟩
        | succ n=>exact .inr ⟨he,n,c',h1,h2,h3,h4⟩
      · rintro (⟨rfl,h3,h4⟩ | ⟨he,n,c',h1,h2,h3,h4⟩)
        · exact ⟨rfl,0,c,rfl,by simp,h3,by simpa using h4⟩
        · exact ⟨he,n + 1,c',h1,h2,h3,h4⟩
    rw [split0,← tail,← ih,rowOf_c]
    split
    · rename_i hc
      rw [List.mem_cons]
      constructor
      · rintro (h | h)
        · exact .inl ⟨h,hc⟩
        · exact .inr h
      · rintro (h | h)
        · exact .inl h.1
        · exact .inr h
    · rename_i hc
      constructor
      · exact .inr
      · rintro (h | h)
        · exact absurd h.2 hc
        · exact h
theorem mem_allOf {P:Int→Int→Cap→Bool} {p:bY}:∀ {t:T} {e:Int},p ∈ allOf P t e↔∃ (m n:Nat) (r:List Cap) (c:Cap),t[m]? = some r∧r[n]? = some c∧p = ⟨e + m,n⟩∧c.fRights ≠ 0∧P (e + m) n c = true
  | [],e=>by simp [allOf]
  | r::t,e=>by
    rw [allOf,List.mem_append,mem_rowOf,mem_allOf]
    constructor
    · rintro (⟨h1,n,c,h2,h3,h4,h5⟩ | ⟨m,n,r',c,h1,h2,rfl,h4,h5⟩)
      · refine ⟨0,n,r,c,rfl,h2,?_,h4,?_⟩
        · cases p; simp_all
        · simpa using h5
      · refine ⟨m + 1,n,r',c,by simpa using h1,h2,?_,h4,?_⟩
        · congr 1; omega
        · rw [show e + ((m + 1:Nat):Int) = e + 1 + m from by omega]; exact h5
    · rintro ⟨m,n,r',c,h1,h2,rfl,h4,h5⟩
      cases m with
      | zero =>
        simp at h1; subst h1
        exact .inl ⟨by simp,n,c,h2,by simp,h4,by simpa using h5⟩
      | succ m =>
        refine .inr ⟨m,n,r',c,by simpa using h1,h2,?_,h4,?_⟩
        · congr 1; omega
        · rw [show e + 1 + (m:Int) = e + ((m + 1:Nat):Int) from by omega]; exact h5
theorem mem_all {t:T} (row:∀ r ∈ t,r.length = 8) {P:Int→Int→Cap→Bool} {p:bY}:p ∈ allOf P t 0↔has t p.fEnv p.fSlot = true∧(get t p.fEnv p.fSlot).fRights ≠ 0∧P p.fEnv p.fSlot (get t p.fEnv p.fSlot) = true:=by
  rw [mem_allOf]
  constructor
  · rintro ⟨m,n,r,c,h1,h2,rfl,h4,h5⟩
    obtain ⟨hm,e1⟩:=List.getElem?_eq_some_iff.1 h1
    obtain ⟨hn,e2⟩:=List.getElem?_eq_some_iff.1 h2
    have h8:=row r (List.mem_of_getElem? h1)
    simp only [Int.zero_add] at h5 ⊢
    have hg:get t m n = c:=by simp [get,h1,h2]
    rw [hg]
    exact ⟨has_of hm (by omega),h4,h5⟩
  · rintro ⟨h1,h2,h3⟩
    obtain ⟨m,n,em,en,hm,hn⟩:=has_nat h1
    rw [em,en] at h2 h3
    obtain ⟨hn',hg⟩:=get_nat' row hm hn
    rw [hg] at h2 h3
    refine ⟨m,n,t[m],t[m][n],by simp [hm],by simp [hn'],?_,h2,by simpa using h3⟩
    cases p; simp_all
theorem mem_below {t:T} (ok:Ok t) {e s:Int} {p:bY}:p ∈ below t e s↔has t p.fEnv p.fSlot = true∧(get t p.fEnv p.fSlot).fRights ≠ 0∧under t (get t p.fEnv p.fSlot) ⟨e,s⟩ = true:=mem_all ok.row
theorem eqb_place (p q:bY):aH.eqb p q = true↔p = q:=by
  cases p; cases q; simp [aH.eqb]
theorem mem_own {t:T} (ok:Ok t) {e s:Int} {p:bY}:p ∈ own t e s↔has t p.fEnv p.fSlot = true∧(get t p.fEnv p.fSlot).fRights ≠ 0∧(p = ⟨e,s⟩∨under t (get t p.fEnv p.fSlot) ⟨e,s⟩ = true):=by
  unfold own
  rw [mem_all ok.row,Bool.or_eq_true,eqb_place]
theorem under_rights {t:T} {c:Cap} {p:bY} (h:under t c p = true):c.fRights ≠ 0:=by
  unfold under at h; rw [up_s 39] at h
  split at h
  · rename_i hc; exact hc.1
  · cases h
theorem ok_empties {t:T} (ok:Ok t) {l:List bY} (hl:∀ p ∈ l,has t p.fEnv p.fSlot = true)
    (cl:∀ e s,has t e s = true→(get t e s).fRights ≠ 0→0 ≤ (get t e s).fEnv→(⟨(get t e s).fEnv,(get t e s).fSlot⟩:bY) ∈ l→(⟨e,s⟩:bY) ∈ l):Ok (empties t l):=by
  obtain ⟨rank,hr⟩:=ok.rk
  refine ⟨by rw [empties_len]; exact ok.len,empties_row l t ok.row,rank,fun a b hab hne hen=>?_⟩
  rw [empties_has] at hab
  have hg:=jp l t ok.row hl a b hab
  by_cases hm:(⟨a,b⟩:bY) ∈ l
  · rw [if_pos hm] at hg; rw [hg] at hne; exact absurd rfl hne
  · rw [if_neg hm] at hg
    rw [hg] at hne hen ⊢
    obtain ⟨h1,h2,h3⟩:=hr a b hab hne hen
    have hp:(⟨(get t a b).fEnv,(get t a b).fSlot⟩:bY) ∉ l:=fun h=>hm (cl a b hab hne hen h)
    refine ⟨by rw [empties_has]; exact h1,?_,h3⟩
    rw [jp l t ok.row hl _ _ h1,if_neg hp]; exact h2
theorem ok_below {t:T} (ok:Ok t) (e s:Int):Ok (empties t (below t e s)):=by
  refine ok_empties ok (fun p hp=>((mem_below ok).1 hp).1) fun a b hab hne hen hp=>?_
  have h1:=(mem_below ok).1 hp
  refine (mem_below ok).2 ⟨hab,hne,?_⟩
  rw [under_step ok hab,if_pos ⟨hne,hen⟩]
  split
  · rfl
  · exact h1.2.2
theorem ok_own {t:T} (ok:Ok t) (e s:Int):Ok (empties t (own t e s)):=by
  refine ok_empties ok (fun p hp=>((mem_own ok).1 hp).1) fun a b hab hne hen hp=>?_
  have h1:=(mem_own ok).1 hp
  refine (mem_own ok).2 ⟨hab,hne,.inr ?_⟩
  rw [under_step ok hab,if_pos ⟨hne,hen⟩]
  split
  · rfl
  · rename_i hno
    rcases h1.2.2 with h | h
    · exact absurd ⟨congrArg aH.fEnv h,congrArg aH.fSlot h⟩ hno
    · exact h
theorem ok_root {t:T} (ok:Ok t) (e s f:Int):Ok (root t e s f).2:=by
  unfold root
  split
  · exact ok
  · split
    · exact ok
    · rename_i h1 h2
      refine ok_put ok (by simp at h1; exact h1.1) (by simpa using h2) _ (fun h=>?_)
      exact absurd h (by show ¬ (0:Int) ≤ -1; omega)
theorem ok_derive {t:T} (ok:Ok t) (e src to dst r:Int):Ok (derive t e src to dst r).2:=by
  unfold derive
  split
  · exact ok
  · split
    · exact ok
    · split
      · exact ok
      · split
        · exact ok
        · rename_i h1 h2 h3 h4
          simp at h1
          exact ok_put ok h1.2.1 (by simpa using h3) _ (fun _=>⟨h1.1,h2⟩)
theorem ok_revoke {t:T} (ok:Ok t) (e s:Int):Ok (revoke t e s).2:=by
  unfold revoke; split
  · exact ok
  · exact ok_below ok e s
theorem ok_drop {t:T} (ok:Ok t) (e s:Int):Ok (drop t e s).2:=by
  unfold drop; split
  · exact ok
  · exact ok_own ok e s
end Caps
end Go.Proofs.YtemoifebbhoinaaGreatDoor
namespace Go.Proofs.YtemoifebbhoinaaGreatDoor
open Go Mb
set_option linter.unusedVariables false
def ui (a0:Ptr) (K:Int→Hp→Prop):Hp→Prop:=br a0.isNone ( K 0) ( nn a0 fun q6=>ld (q6.1,q6.2 + 0) cS fun x8=>K (x8.len:Int))
theorem sim_mem_Mem_Frames (a0:Ptr) {K:Int→Hp→Prop} {h:Hp} (H:ui a0 K h):Ct Tryz.prog wb #[(pv a0)] h fun v h'=>∃ r,v = eJ r∧K r h':=aw [(pv a0)] Tryz.func204 c c c fun _=>M<|O c<|ak<|M<|J c<|p (cr Tryz.underlying152 c)<|ad<|av c H (fun k1 H2=>M<|O c<|ah<|D ⟨0,c,H2⟩) fun k1 H2=>an<|M<|J c<|bI H2 fun q6 e3 H4=>p (aL<|aK c<|aq e3)<|p (ae sK c)<|aa<|aW H4 lx c (fun _=>c) c fun x8 H5=>p (dl c Tryz.underlying163 c)<|O c<|ah<|D ⟨(x8.len:Int),c,H5⟩
def sh_mem_Mem_at (a0:Ptr) (a1:Int) (a2:Int) (K:Ptr→Hp→Prop):Hp→Prop:=br (!(decide (a1 < 0))) ( cl Tryz.prog wb [(pv a0)] eJ fun r12=>br (((decide (a1 ≥ r12)) || (decide (a2 < 0))) || (decide (a2 ≥ 16))) ( K none) ( nn a0 fun q24=>ld (q24.1,q24.2 + 0) cS fun x26=>ix x26 a1 fun q28=>ld (q28.1,q28.2 + Int.toNat a1 * 1) cS fun x29=>ix x29 a2 fun q31=>K (some (q31.1,q31.2 + Int.toNat a2 * 1)))) ( K none)
theorem sim_mem_Mem_at (a0:Ptr) (a1:Int) (a2:Int) {K:Ptr→Hp→Prop} {h:Hp} (H:sh_mem_Mem_at a0 a1 a2 K h):Ct Tryz.prog mi #[(pv a0),(.int .i64 a1),(.int .i64 a2)] h fun v h'=>∃ r,v = sO r∧K r h':=aw [(pv a0),(.int .i64 a1),(.int .i64 a2)] Tryz.func179 c c c fun _=>M<|O c<|ak<|M<|J c<|p (cq c c)<|J c<|V c c (aG _) (fun g1=>wv<|ag c)<|V c c (aG _) (fun g2=>wv<|ag c)<|bT H (fun k4 H5=>G (Y<|bN k4)<|gm H5 en_204 (aT (az c k4) bW) c fun r12 _ H6=>G (Y<|bN k4)<|z_p (ij (az c k4) c)<|p (ao c (bN k4) c)<|J c<|V c c (aG _) (fun g7=>wv<|ag c)<|V c c (aG _) (fun g8=>wv<|cq (az c g8) c)<|p (cZ c c)<|J c<|V c c (aG _) (fun g9=>wv<|ag c)<|V c c (aG _) (fun g10=>wv<|ij (az c g10) c)<|p (cZ c c)<|ad<|av c H6 (fun k11 H12=>M<|O c<|ah<|D ⟨none,c,H12⟩) fun k11 H12=>an<|M<|J c<|bI H12 fun q24 e13 H14=>p (aL<|aK c<|aq e13)<|p (ae sK c)<|aa<|aW H14 lx c (fun _=>c) c fun x26 H15=>J c<|ck H15 fun q28 e16 h17 H18=>p (bh ma (aK c<|aX e16) c h17)<|aa<|aW H18 sc_93 c (fun _=>c) c fun x29 H19=>J c<|ck H19 fun q31 e20 h21 H22=>p (bh wH (aK c<|aX e20) c h21)<|O c<|ah<|D ⟨some (q31.1,q31.2 + Int.toNat a2 * 1),c,H22⟩) fun k4 H5=>W (bb<|bo k4)<|W (bb<|bo k4)<|p (aI c (bo k4) c)<|J c<|W c<|W c<|p (aI c c c)<|J c<|W c<|W c<|p (aI c c c)<|ad<|fG c c<|M<|O c<|ah<|D ⟨none,c,H5⟩
def sh_mem_Mem_Load (a0:Ptr) (a1:Int) (a2:Int) (K:(Int × Bool)→Hp→Prop):Hp→Prop:=cl Tryz.prog mi [(pv a0),(.int .i64 a1),(.int .i64 a2)] sO fun r12=>br r12.isNone ( K (0,false)) ( nn r12 fun q16=>ld (q16.1,q16.2) (cI .u64) fun x17=>K (x17,true))
theorem sim_mem_Mem_Load (a0:Ptr) (a1:Int) (a2:Int) {K:(Int × Bool)→Hp→Prop} {h:Hp} (H:sh_mem_Mem_Load a0 a1 a2 K h):Ct Tryz.prog iy #[(pv a0),(.int .i64 a1),(.int .i64 a2)] h fun v h'=>∃ r,v = bM r∧K r h':=aw [(pv a0),(.int .i64 a1),(.int .i64 a2)] Tryz.func161 c c c fun _=>M<|p (ar c)<|O c<|M<|J c<|J c<|J c<|aa<|F H en_179 fun r12 _ H1=>O c<|ak<|M<|J c<|p (cr Tryz.underlying191 c)<|ad<|av c H1 (fun k2 H3=>M<|p (ar c)<|O c<|ah<|bA (bV c (cf c)<|cf c) ⟨(0,false),c,H3⟩) fun k2 H3=>an<|M<|J c<|bI H3 fun q16 e4 H5=>p (aL<|aK c<|aq e4)<|aa<|aW H5 cy c (fun _=>c) c fun x17 H6=>p (ar c)<|O c<|ah<|bA (bV c (cf c)<|cf c) ⟨(x17,true),c,H6⟩
def vH (a0:Ptr) (a1:Int) (a2:Int) (a3:Int) (K:Bool→Hp→Prop):Hp→Prop:=cl Tryz.prog mi [(pv a0),(.int .i64 a1),(.int .i64 a2)] sO fun r13=>br r13.isNone ( K false) ( nn r13 fun q18=>st (q18.1,q18.2) [.int .u64 a3]<|K true)
theorem sim_mem_Mem_Store (a0:Ptr) (a1:Int) (a2:Int) (a3:Int) {K:Bool→Hp→Prop} {h:Hp} (H:vH a0 a1 a2 a3 K h):Ct Tryz.prog fL #[(pv a0),(.int .i64 a1),(.int .i64 a2),(.int .u64 a3)] h fun v h'=>∃ r,v = aA r∧K r h':=aw [(pv a0),(.int .i64 a1),(.int .i64 a2),(.int .u64 a3)] Tryz.func162 c c c fun _=>M<|O c<|M<|J c<|J c<|J c<|aa<|F H en_179 fun r13 _ H1=>O c<|ak<|M<|J c<|p (cr Tryz.underlying191 c)<|ad<|av c H1 (fun k2 H3=>M<|O c<|ah<|D ⟨false,c,H3⟩) fun k2 H3=>an<|M<|J c<|J c<|bI H3 fun q18 e4 H5=>p (aL<|aK c<|aq e4)<|aa<|dh inf_22 c c c c c H5 fun _ H6=>ad<|M<|O c<|ah<|D ⟨true,c,H6⟩
def sh_mem_Mem_Cas (a0:Ptr) (a1:Int) (a2:Int) (a3:Int) (a4:Int) (K:(Int × Bool)→Hp→Prop):Hp→Prop:=cl Tryz.prog iy [(pv a0),(.int .i64 a1),(.int .i64 a2)] bM fun r18=>br (r18.2 && (r18.1 == a3)) ( cl Tryz.prog fL [(pv a0),(.int .i64 a1),(.int .i64 a2),(.int .u64 a4)] aA fun r31=>K (r18.1,r18.2)) ( K (r18.1,r18.2))
theorem sim_mem_Mem_Cas (a0:Ptr) (a1:Int) (a2:Int) (a3:Int) (a4:Int) {K:(Int × Bool)→Hp→Prop} {h:Hp} (H:sh_mem_Mem_Cas a0 a1 a2 a3 a4 K h):Ct Tryz.prog qy #[(pv a0),(.int .i64 a1),(.int .i64 a2),(.int .u64 a3),(.int .u64 a4)] h fun v h'=>∃ r,v = bM r∧K r h':=aw [(pv a0),(.int .i64 a1),(.int .i64 a2),(.int .u64 a3),(.int .u64 a4)] Tryz.func163 c c c fun _=>M<|p (ar c)<|O c<|M<|J c<|J c<|J c<|aa<|F H en_161 fun r18 _ H1=>J c<|p (aj c c)<|p (aj c c)<|p (ar c)<|O c<|ak<|M<|J c<|J c<|V c c (ay _) (fun g2=>wv<|ag c)<|V c c (ay _) (fun g3=>wv<|ag c)<|V c c (ay _) (fun g4=>wv<|bH (az c g4)<|az c g4)<|p (bO c c)<|ad<|av c H1 (fun k5 H6=>ap<|J c<|J c<|J c<|J c<|aa<|F H6 en_162 fun r31 _ H7=>ad<|M<|J c<|J c<|p (ar c)<|O c<|ah<|bA (bV c (cf c)<|cf c) ⟨(r18.1,r18.2),c,H7⟩) fun k5 H6=>an<|M<|J c<|J c<|p (ar c)<|O c<|ah<|bA (bV c (cf c)<|cf c) ⟨(r18.1,r18.2),c,H6⟩
def sh_mem_Mem_Add (a0:Ptr) (a1:Int) (a2:Int) (a3:Int) (K:(Int × Bool)→Hp→Prop):Hp→Prop:=cl Tryz.prog iy [(pv a0),(.int .i64 a1),(.int .i64 a2)] bM fun r16=>cl Tryz.prog fL [(pv a0),(.int .i64 a1),(.int .i64 a2),(.int .u64 (IntKind.u64.wrap (r16.1 + a3)))] aA fun r25=>K (r16.1,r16.2)
theorem sim_mem_Mem_Add (a0:Ptr) (a1:Int) (a2:Int) (a3:Int) {K:(Int × Bool)→Hp→Prop} {h:Hp} (H:sh_mem_Mem_Add a0 a1 a2 a3 K h):Ct Tryz.prog qz #[(pv a0),(.int .i64 a1),(.int .i64 a2),(.int .u64 a3)] h fun v h'=>∃ r,v = bM r∧K r h':=aw [(pv a0),(.int .i64 a1),(.int .i64 a2),(.int .u64 a3)] Tryz.func164 c c c fun _=>M<|p (ar c)<|O c<|M<|J c<|J c<|J c<|aa<|F H en_161 fun r16 _ H1=>J c<|p (aj c c)<|p (aj c c)<|p (ar c)<|O c<|M<|J c<|J c<|J c<|J c<|J c<|p (bn c c)<|aa<|F H1 en_162 fun r25 _ H2=>ad<|M<|J c<|J c<|p (ar c)<|O c<|ah<|bA (bV c (cf c)<|cf c) ⟨(r16.1,r16.2),c,H2⟩
def sh_mem_Mem_Zero (a0:Ptr) (a1:Int) (K:Bool→Hp→Prop):Hp→Prop:=cl Tryz.prog mi [(pv a0),(.int .i64 a1),(.int .i64 0)] sO fun r7=>br r7.isNone ( K false) ( nn a0 fun q10=>ld (q10.1,q10.2 + 0) cS fun x12=>ix x12 a1 fun q14=>ld (q14.1,q14.2 + Int.toNat a1 * 1) cS fun x15=>hpv Tryz.prog (Builtin.clear_ #[be] t_none #[(sv x15)]) R_ fun (_:Unit)=>K true)
theorem sim_mem_Mem_Zero (a0:Ptr) (a1:Int) {K:Bool→Hp→Prop} {h:Hp} (H:sh_mem_Mem_Zero a0 a1 K h):Ct Tryz.prog tu #[(pv a0),(.int .i64 a1)] h fun v h'=>∃ r,v = aA r∧K r h':=aw [(pv a0),(.int .i64 a1)] Tryz.func172 c c c fun _=>M<|O c<|ak<|M<|J c<|J c<|aa<|F H en_179 fun r7 _ H1=>p (cr Tryz.underlying191 c)<|ad<|av c H1 (fun k2 H3=>M<|O c<|ah<|D ⟨false,c,H3⟩) fun k2 H3=>an<|M<|J c<|bI H3 fun q10 e4 H5=>p (aL<|aK c<|aq e4)<|p (ae sK c)<|aa<|aW H5 lx c (fun _=>c) c fun x12 H6=>J c<|ck H6 fun q14 e7 h8 H9=>p (bh ma (aK c<|aX e7) c h8)<|aa<|aW H9 sc_93 c (fun _=>c) c fun x15 H10=>aa<|to_hpv0 H10 (x_clear c) fun _ _ H11=>ad<|M<|O c<|ah<|D ⟨true,c,H11⟩
def mem_New_l1 (a0:Int) (K:Ptr→Hp→Prop) (b11:Nat) (Rec7:Int→Hp→Prop) (s6:Int):Hp→Prop:=br (decide (s6 < a0)) ( ld (b11,0) cS fun x19=>hpv Tryz.prog (Instr.makeSlice be (.int .i64 16) (.int .i64 16)) cg fun (v20:Sl)=>hpv Tryz.prog (Instr.buildSlice qe 1 #[(0,(sv v20))]) R_SSuint64 fun (v21:Sl)=>hpv Tryz.prog (Builtin.append_ #[qe,qe] qe #[(sv x19),(sv v21)]) R_SSuint64 fun (v22:Sl)=>st (b11,0) [sv v22]<|Rec7 (IntKind.i64.wrap (s6 + 1))) ( K (some (b11,0)))
def sh_mem_New (a0:Int) (K:Ptr→Hp→Prop):Hp→Prop:=br ((decide (a0 < 1)) || (decide (a0 > 16))) ( K none) ( nw lY (sN.C (⟨(⟨none,0,0,none⟩:Sl)⟩:sN)) fun b11=>Lp (mem_New_l1 a0 K b11) 0)
theorem sim_mem_New (a0:Int) {K:Ptr→Hp→Prop} {h:Hp} (H:sh_mem_New a0 K h):Ct Tryz.prog wa #[(.int .i64 a0)] h fun v h'=>∃ r,v = tS r∧K r h':=aw [(.int .i64 a0)] Tryz.func104 c c c fun _=>M<|O c<|ak<|M<|J c<|p (cq c c)<|J c<|V c c (aG _) (fun g1=>wv<|ag c)<|V c c (aG _) (fun g2=>wv<|kP (az c g2) c)<|p (cZ c c)<|ad<|av c H (fun k3 H4=>M<|O c<|ah<|D ⟨none,c,H4⟩) fun k3 H4=>an<|M<|p (bd (vs:=[]) c build_212)<|aa<|io c c c H4 fun b11 _ H5=>O c<|ak<|M<|J c<|J c<|ad<|ax<|bG (step:=mem_New_l1 a0 K b11) (fun s6=>[(3,(.pointer (some ⟨b11,0,none⟩))),(12,(.int .i64 a0)),(13,(.int .i64 s6))]) (fun s6=>[]) H5 (.cons c<|.cons c<|.cons c<|.nil _) .slnil fun Rec7 s6 _ H8=>M<|p (cq c c)<|ad<|ak<|av c H8 (fun k9 H10=>an<|ak<|ax<|bm (n:=11) [] cn c .slnil<|U 0 c (ag c)<|U 1 c (ag c)<|U 2 c (aL c)<|U 3 c (ae sK c)<|bJ (i:=4) (fun _ _ _ _ hh=>hh) H10 c (by kernel_rfl) lx c (fun _=>c) c fun x19 H11=>R 5 c<|aU H11 (jX c c) c fun v20 _ H12=>⟨.slnil,R 6 c<|aU H12 (bz (vs:=[(sv v20)]) c) c fun v21 _ H13=>⟨.slnil,R 7 c<|aU H13 (dJ c c) c fun v22 _ H14=>⟨.slnil,U 8 c (aL c)<|U 9 c (ae sK c)<|R 10 c<|dh inf_163 c c c c c H14 fun _ H15=>⟨.slnil,aO (by kernel_rfl)<|ap<|p (bn c c)<|J c<|ad<|cM (IntKind.i64.wrap (s6 + 1)) H15 (.cons c<|.cons c<|.cons c<|.nil _) .slnil⟩⟩⟩⟩) fun k9 H10=>bj<|M<|J c<|O c<|ah<|D ⟨some (b11,0),c,H10⟩
def vJ (a0:Ptr) (a1:Int) (K:Sl→Hp→Prop):Hp→Prop:=cl Tryz.prog mi [(pv a0),(.int .i64 a1),(.int .i64 0)] sO fun r7=>br r7.isNone ( K (⟨none,0,0,none⟩:Sl)) ( nn a0 fun q10=>ld (q10.1,q10.2 + 0) cS fun x12=>ix x12 a1 fun q14=>ld (q14.1,q14.2 + Int.toNat a1 * 1) cS fun x15=>cl Tryz.prog gJ [(sv x15)] cg fun r16=>K r16)
theorem sim_mem_Mem_Frame (a0:Ptr) (a1:Int) {K:Sl→Hp→Prop} {h:Hp} (H:vJ a0 a1 K h):Ct Tryz.prog ru #[(pv a0),(.int .i64 a1)] h fun v h'=>∃ r,v = cg r∧K r h':=aw [(pv a0),(.int .i64 a1)] Tryz.func136 c c c fun _=>M<|O c<|ak<|M<|J c<|J c<|aa<|F H en_179 fun r7 _ H1=>p (cr Tryz.underlying191 c)<|ad<|av c H1 (fun k2 H3=>M<|O c<|ah<|D ⟨(⟨none,0,0,none⟩:Sl),c,H3⟩) fun k2 H3=>an<|M<|J c<|bI H3 fun q10 e4 H5=>p (aL<|aK c<|aq e4)<|p (ae sK c)<|aa<|aW H5 lx c (fun _=>c) c fun x12 H6=>J c<|ck H6 fun q14 e7 h8 H9=>p (bh ma (aK c<|aX e7) c h8)<|aa<|aW H9 sc_93 c (fun _=>c) c fun x15 H10=>aa<|F H10 en_180 fun r16 _ H11=>O c<|ah<|D ⟨r16,c,H11⟩
end Go.Proofs.YtemoifebbhoinaaGreatDoor
namespace Go.Proofs.YtemoifebbhoinaaGreatDoor
open Go Mb
abbrev vU (s:Sl) (xs:List Int):As:=vec t_uint64 1 (cI .u64) s xs
def rows:List Sl→List (List Int)→List As
  | s::ss,f::fs=>vU s f::rows ss fs
  | _,_=>[]
theorem rows_get:∀ (ss:List Sl) (fs:List (List Int)) (i:Nat) (s:Sl) (f:List Int),ss[i]? = some s→fs[i]? = some f→(rows ss fs)[i]? = some (vU s f)
  | [],_,_,_,_,h,_=>by simp at h
  | _::_,[],_,_,_,_,h=>by simp at h
  | s::ss,f::fs,0,_,_,h1,h2=>by simp at h1 h2; subst h1; subst h2; rfl
  | s::ss,f::fs,i + 1,_,_,h1,h2=>by simpa [rows] using rows_get ss fs i _ _ (by simpa using h1) (by simpa using h2)
theorem rows_set:∀ (ss:List Sl) (fs:List (List Int)) (i:Nat) (s:Sl) (f:List Int),ss[i]? = some s→(rows ss fs).set i (vU s f) = rows ss (fs.set i f)
  | [],_,_,_,_,h=>by simp at h
  | s::ss,[],i,_,_,_=>by simp [rows]
  | s::ss,g::fs,0,_,_,h1=>by simp at h1; subst h1; rfl
  | s::ss,g::fs,i + 1,_,_,h1=>by simp only [rows,List.set_cons_succ]; rw [rows_set ss fs i _ _ (by simpa using h1)]
theorem rows_app (s:Sl) (f:List Int):∀ (ss:List Sl) (fs:List (List Int)),ss.length = fs.length→rows (ss++[s]) (fs++[f]) = rows ss fs++[vU s f]
  | [],[],_=>rfl
  | [],_::_,h=>by simp at h
  | _::_,[],h=>by simp at h
  | a::ss,b::fs,h=>by simp only [List.cons_append,rows]; rw [rows_app s f ss fs (by simpa using h)]
def xm (b:Nat) (s:Sl) (ss:List Sl) (fs:List (List Int)):List As:=blk b lY [sv s]::vec be 1 cS s ss::rows ss fs
structure MemOk (ss:List Sl) (fs:List (List Int)):Prop where
  len:ss.length = fs.length
  le:fs.length ≤ 16
  row:∀ f ∈ fs,f.length = 16
def iD (x:Ptr) (fs:List (List Int)):As:=fun h=>∃ bs:Nat × Sl × List Sl,(x = some (bs.1,0)∧MemOk bs.2.2 fs)∧aF (xm bs.1 bs.2.1 bs.2.2 fs) h
theorem mem_op {x:Ptr} {fs:List (List Int)} {l:List As} {h:Hp} (s0:aF (iD x fs::l) h):∃ b s ss,x = some (b,0)∧MemOk ss fs∧s.len = fs.length∧aF (xm b s ss fs++l) h:=by
  obtain ⟨⟨b,s,ss⟩,⟨hx,hb⟩,st⟩:=op_ s0
  exact ⟨b,s,ss,hx,hb,(ce (j:=1) st rfl).1.trans hb.len,st⟩
theorem mem_cl {b:Nat} {s:Sl} {ss:List Sl} {fs:List (List Int)} {l:List As} {h:Hp} (hb:MemOk ss fs) (st:aF (xm b s ss fs++l) h):aF (iD (some (b,0)) fs::l) h:=cl_ (b,s,ss) ⟨rfl,hb⟩ st
theorem sn {b:Nat} {s:Sl} {ss:List Sl} {fs:List (List Int)} {h:Hp} (hb:MemOk ss fs) (st:aF (xm b s ss fs) h):aF [iD (some (b,0)) fs] h:=mem_cl hb (by rw [List.append_nil]; exact st)
namespace Mem
def has (fs:List (List Int)) (f a:Int):Prop:=0 ≤ f∧f < fs.length∧0 ≤ a∧a < 16
instance (fs:List (List Int)) (f a:Int):Decidable (has fs f a):=by unfold has; infer_instance
def word (fs:List (List Int)) (f a:Int):Int:=(fs.getD f.toNat []).getD a.toNat 0
def load (fs:List (List Int)) (f a:Int):Int × Bool:=if has fs f a then (word fs f a,true) else (0,false)
def put (fs:List (List Int)) (f a v:Int):List (List Int):=fs.set f.toNat ((fs.getD f.toNat []).set a.toNat v)
def store (fs:List (List Int)) (f a v:Int):Bool × List (List Int):=if has fs f a then (true,put fs f a v) else (false,fs)
end Mem
theorem rC (x:Sl):(cS x).length = 1:=rfl
def memAt (ss:List Sl) (fs:List (List Int)) (f a:Int) (r:Ptr):Prop :=
  if Mem.has fs f a then ∃ s q,ss[f.toNat]? = some s∧s.a = some q∧r = some (q.1,q.2 + a.toNat * 1) else r = none
theorem sp_mem_at (b:Nat) (s:Sl) (ss:List Sl) (fs:List (List Int)) (hb:MemOk ss fs) (f a:Int):Sp Tryz.prog mi [pv (some (b,0)),.int .i64 f,.int .i64 a] sO (xm b s ss fs) (fun r=>pa_ (memAt ss fs f a r) (xm b s ss fs)):=by
  intro h st
  refine sim_mem_Mem_at _ _ _ ?_
  unfold sh_mem_Mem_at
  have hno:∀ {p:Prop},¬ p→(Mem.has fs f a→p)→memAt ss fs f a none:=fun hp himp=>by unfold memAt; rw [if_neg (fun hh=>hp (himp hh))]
  have hl:s.len = fs.length:=(ce (j:=1) st rfl).1.trans hb.len
  refine aY (fun k=>?_) (fun k=>?_)
  · have h0:0 ≤ f:=by simpa using k
    unfold cl
    refine sim_mem_Mem_Frames _ ?_
    unfold ui
    refine dI rfl (cE (bp s st (i:=0) rfl rfl rfl ?_))
    refine aY (fun k2=>?_) (fun k2=>?_)
    · have k2':¬ (f < fs.length∧0 ≤ a∧a < 16):=by simp [hl] at k2; omega
      exact aZ (hno k2' (fun hh=>hh.2)) st
    · have k2':f < fs.length∧0 ≤ a∧a < 16:=by simp [hl] at k2; omega
      obtain ⟨n,rfl⟩:=Int.eq_ofNat_of_zero_le h0
      have hn:n < ss.length:=by rw [hb.len]; omega
      have hf:n < fs.length:=by omega
      refine cE (bp s st (i:=0) rfl rfl rfl ?_)
      refine du st (j:=1) rfl (by omega) (by omega) fun q hq=>?_
      refine dU (j:=1) (i:=n) (k:=0) ss[n] rC st rfl hq (by simp) (aD hn) (by simp) ?_
      have hr:(xm b s ss fs)[2 + n]? = some (vU ss[n] fs[n]):=by
        show (blk b lY [sv s]::vec be 1 cS s ss::rows ss fs)[2 + n]? = _
        rw [Nat.add_comm,List.getElem?_cons_succ,List.getElem?_cons_succ]
        exact rows_get ss fs n _ _ (aD hn) (aD hf)
      have hlen:fs[n].length = 16:=hb.row _ (List.getElem_mem hf)
      refine du st (j:=2 + n) hr (by omega) (by omega) fun q2 hq2=>?_
      refine aZ ?_ st
      unfold memAt
      rw [if_pos ⟨h0,k2'⟩]
      exact ⟨ss[n],q2,by simp [hn],hq2,rfl⟩
  · have k':¬ 0 ≤ f:=by simpa using k
    exact aZ (hno k' (fun hh=>hh.1)) st
theorem qO (x:Ptr) (fs:List (List Int)) (f a:Int):Sp Tryz.prog iy [pv x,.int .i64 f,.int .i64 a] bM [iD x fs] (fun r=>pa_ (r = Mem.load fs f a) [iD x fs]):=by
  intro h s0
  obtain ⟨b,s,ss,rfl,hb,hl,st⟩:=mem_op s0
  refine sim_mem_Mem_Load _ _ _ ?_
  unfold sh_mem_Mem_Load
  rw [List.append_nil] at st
  refine cR (rest:=[]) [] (sp_mem_at b s ss fs hb f a) st (List.append_nil _).symm fun r h' s1=>?_
  obtain ⟨hr,s2⟩:=bu.1 s1
  rw [List.append_nil] at s2
  by_cases hh:Mem.has fs f a
  · unfold memAt at hr
    rw [if_pos hh] at hr
    obtain ⟨sr,q,h1,h2,rfl⟩:=hr
    obtain ⟨g1,g2,g3,g4⟩:=hh
    have hf:f.toNat < fs.length:=by omega
    have hrow:(xm b s ss fs)[2 + f.toNat]? = some (vU sr fs[f.toNat]):=by
      show (blk b lY [sv s]::vec be 1 cS s ss::rows ss fs)[2 + f.toNat]? = _
      rw [Nat.add_comm,List.getElem?_cons_succ,List.getElem?_cons_succ]
      exact rows_get ss fs _ _ _ h1 (aD hf)
    have hlen:fs[f.toNat].length = 16:=hb.row _ (List.getElem_mem hf)
    have ha:a.toNat < fs[f.toNat].length:=by omega
    refine dI rfl (cE ?_)
    refine dU (j:=2 + f.toNat) (i:=a.toNat) (k:=0) (q:=q) fs[f.toNat][a.toNat] (dm _) s2 hrow h2 (by simp) (aD ha) (by simp) ?_
    refine aZ ?_ (sn hb s2)
    unfold Mem.load
    rw [if_pos ⟨g1,g2,g3,g4⟩]
    simp [Mem.word,hf,ha]
  · unfold memAt at hr
    rw [if_neg hh] at hr
    subst hr
    refine dZ rfl ?_
    refine aZ ?_ (sn hb s2)
    unfold Mem.load
    rw [if_neg hh]
theorem lZ (x:Ptr) (fs:List (List Int)) (f a v:Int):Sp Tryz.prog fL [pv x,.int .i64 f,.int .i64 a,.int .u64 v] aA [iD x fs] (fun r=>pa_ (r = (Mem.store fs f a v).1) [iD x (Mem.store fs f a v).2]):=by
  intro h s0
  obtain ⟨b,s,ss,rfl,hb,hl,st⟩:=mem_op s0
  refine sim_mem_Mem_Store _ _ _ _ ?_
  unfold vH
  rw [List.append_nil] at st
  refine cR (rest:=[]) [] (sp_mem_at b s ss fs hb f a) st (List.append_nil _).symm fun r h' s1=>?_
  obtain ⟨hr,s2⟩:=bu.1 s1
  rw [List.append_nil] at s2
  by_cases hh:Mem.has fs f a
  · unfold memAt at hr
    rw [if_pos hh] at hr
    obtain ⟨sr,q,h1,h2,rfl⟩:=hr
    have e:Mem.store fs f a v = (true,Mem.put fs f a v):=if_pos hh
    rw [e]
    obtain ⟨g1,g2,g3,g4⟩:=hh
    have hf:f.toNat < fs.length:=by omega
    have hrow:(xm b s ss fs)[2 + f.toNat]? = some (vU sr fs[f.toNat]):=by
      show (blk b lY [sv s]::vec be 1 cS s ss::rows ss fs)[2 + f.toNat]? = _
      rw [Nat.add_comm,List.getElem?_cons_succ,List.getElem?_cons_succ]
      exact rows_get ss fs _ _ _ h1 (aD hf)
    have hlen:fs[f.toNat].length = 16:=hb.row _ (List.getElem_mem hf)
    have ha:a.toNat < fs[f.toNat].length:=by omega
    refine dI rfl (cE ?_)
    refine st_v (j:=2 + f.toNat) (i:=a.toNat) (k:=0) (q:=q) v (dm _) s2 hrow h2 (by simp) (aD ha) (by simp) rfl fun h3 s3=>?_
    have eq:(xm b s ss fs).set (2 + f.toNat) (vU sr (fs[f.toNat].set a.toNat v)) = xm b s ss (Mem.put fs f a v):=by
      show (blk b lY [sv s]::vec be 1 cS s ss::rows ss fs).set (2 + f.toNat) _ = _
      rw [Nat.add_comm,List.set_cons_succ,List.set_cons_succ,rows_set ss fs _ _ _ h1]
      simp [xm,Mem.put,hf]
    rw [eq] at s3
    refine aZ rfl (sn ⟨by simp [Mem.put,hb.len],by simpa [Mem.put] using hb.le,?_⟩ s3)
    intro g hg
    unfold Mem.put at hg
    rcases List.mem_or_eq_of_mem_set hg with h4 | h4
    · exact hb.row _ h4
    · rw [h4]; simp [hf,hlen]
  · unfold memAt at hr
    rw [if_neg hh] at hr
    subst hr
    have e:Mem.store fs f a v = (false,fs):=if_neg hh
    rw [e]
    exact dZ rfl (aZ rfl (sn hb s2))
namespace Mem
def cas (fs:List (List Int)) (f a o v:Int):(Int × Bool) × List (List Int) :=
  (load fs f a,if (load fs f a).2 && ((load fs f a).1 == o) then (store fs f a v).2 else fs)
def add (fs:List (List Int)) (f a v:Int):(Int × Bool) × List (List Int) :=
  (load fs f a,(store fs f a (IntKind.u64.wrap ((load fs f a).1 + v))).2)
def zero (fs:List (List Int)) (f:Int):Bool × List (List Int) :=
  if has fs f 0 then (true,fs.set f.toNat (List.replicate 16 0)) else (false,fs)
def frame (fs:List (List Int)) (f:Int):List Int:=if has fs f 0 then fs.getD f.toNat [] else []
end Mem
theorem sp_mem_Cas (x:Ptr) (fs:List (List Int)) (f a o v:Int):Sp Tryz.prog qy [pv x,.int .i64 f,.int .i64 a,.int .u64 o,.int .u64 v] bM [iD x fs] (fun r=>pa_ (r = (Mem.cas fs f a o v).1) [iD x (Mem.cas fs f a o v).2]):=by
  intro h s0
  refine sim_mem_Mem_Cas _ _ _ _ _ ?_
  unfold sh_mem_Mem_Cas
  refine cR [0] (qO x fs f a) s0 rfl fun r h' s1=>?_
  obtain ⟨hr,s2⟩:=bu.1 s1
  subst hr
  refine aY (fun k=>?_) (fun k=>?_)
  · refine cR [0] (lZ x fs f a v) s2 rfl fun r h' s3=>?_
    obtain ⟨_,s4⟩:=bu.1 s3
    refine aZ rfl ?_
    simp only [Mem.cas,k,if_true]
    exact s4
  · refine aZ rfl ?_
    simp only [Mem.cas,k,Bool.false_eq_true,if_false]
    exact s2
theorem sp_mem_Add (x:Ptr) (fs:List (List Int)) (f a v:Int):Sp Tryz.prog qz [pv x,.int .i64 f,.int .i64 a,.int .u64 v] bM [iD x fs] (fun r=>pa_ (r = (Mem.add fs f a v).1) [iD x (Mem.add fs f a v).2]):=by
  intro h s0
  refine sim_mem_Mem_Add _ _ _ _ ?_
  unfold sh_mem_Mem_Add
  refine cR [0] (qO x fs f a) s0 rfl fun r h' s1=>?_
  obtain ⟨hr,s2⟩:=bu.1 s1
  subst hr
  refine cR [0] (lZ x fs f a _) s2 rfl fun r h' s3=>?_
  obtain ⟨_,s4⟩:=bu.1 s3
  exact aZ rfl s4
theorem sp_slices_Clone (s:Sl) (xs:List Int) (hb:xs.length < 2 ^ 40):Sp Tryz.prog gJ [sv s] cg [vU s xs] (fun r=>aF [vU r xs,vU s xs]):=by
  intro h s0
  refine qf _ ?_
  unfold jZ
  refine aY (fun k=>?_) (fun k=>?_)
  · have hn:xs = []:=by
      obtain ⟨_,⟨e1,e2,e3⟩,_⟩:=dX (i:=0) rfl s0
      rcases e3 with e3 | ⟨b,pre,rest,U,fr,h4,_⟩
      · exact List.eq_nil_of_length_eq_zero (by omega)
      · rw [h4] at k; cases k
    subst hn
    exact fR s0
  · refine fH (τ:=Int) [] (val:=fun x=>.int .u64 x) (enc:=cI .u64) ge (dm _) (fun _=>rfl) s0 rfl rfl (by simp) fun y h' s1=>?_
    refine tP (τ:=Int) (i:=0) (j:=1) (enc:=cI .u64) (xs:=[]) (ys:=xs) ge ge.sl (dm _) (oneI _) s1 rfl rfl (by omega) (by simp; omega) (by simp; omega) fun v h2 s2=>?_
    exact s2
theorem mem_has {ss:List Sl} {fs:List (List Int)} {f a:Int} {r:Ptr} (hr:memAt ss fs f a r):(Mem.has fs f a↔r ≠ none):=by
  unfold memAt at hr
  split at hr
  · obtain ⟨s,q,_,_,rfl⟩:=hr; simp [*]
  · simp [*]
theorem mem_row {b:Nat} {s:Sl} {ss:List Sl} {fs:List (List Int)} {i:Nat} (hb:MemOk ss fs) (hi:i < fs.length):∃ sr,ss[i]? = some sr∧(xm b s ss fs)[2 + i]? = some (vU sr fs[i]):=by
  have hn:i < ss.length:=by rw [hb.len]; exact hi
  refine ⟨ss[i],aD hn,?_⟩
  show (blk b lY [sv s]::vec be 1 cS s ss::rows ss fs)[2 + i]? = _
  rw [Nat.add_comm,List.getElem?_cons_succ,List.getElem?_cons_succ]
  exact rows_get ss fs i _ _ (aD hn) (aD hi)
theorem mem_set {b:Nat} {s:Sl} {ss:List Sl} {fs:List (List Int)} {i:Nat} {sr:Sl} {g:List Int} (h1:ss[i]? = some sr):(xm b s ss fs).set (2 + i) (vU sr g) = xm b s ss (fs.set i g):=by
  show (blk b lY [sv s]::vec be 1 cS s ss::rows ss fs).set (2 + i) _ = _
  rw [Nat.add_comm,List.set_cons_succ,List.set_cons_succ,rows_set ss fs _ _ _ h1]; rfl
theorem mem_ok_set {ss:List Sl} {fs:List (List Int)} {i:Nat} {g:List Int} (hb:MemOk ss fs) (hg:g.length = 16):MemOk ss (fs.set i g) :=
  ⟨by simp [hb.len],by simpa using hb.le,fun f hf=>by
    rcases List.mem_or_eq_of_mem_set hf with h4 | h4
    · exact hb.row _ h4
    · rw [h4]; exact hg⟩
theorem sp_mem_Zero (x:Ptr) (fs:List (List Int)) (f:Int):Sp Tryz.prog tu [pv x,.int .i64 f] aA [iD x fs] (fun r=>pa_ (r = (Mem.zero fs f).1) [iD x (Mem.zero fs f).2]):=by
  intro h s0
  obtain ⟨b,s,ss,rfl,hb,hl,st⟩:=mem_op s0
  refine sim_mem_Mem_Zero _ _ ?_
  unfold sh_mem_Mem_Zero
  rw [List.append_nil] at st
  refine cR (rest:=[]) [] (sp_mem_at b s ss fs hb f 0) st (List.append_nil _).symm fun r h' s1=>?_
  obtain ⟨hr,s2⟩:=bu.1 s1
  rw [List.append_nil] at s2
  have hh:=mem_has hr
  refine aY (fun k=>?_) (fun k=>?_)
  · have:¬ Mem.has fs f 0:=by rw [hh]; cases r <;> simp_all
    have e:Mem.zero fs f = (false,fs):=if_neg this
    rw [e]
    exact aZ rfl (sn hb s2)
  · have hy:Mem.has fs f 0:=by rw [hh]; cases r <;> simp_all
    have e:Mem.zero fs f = (true,fs.set f.toNat (List.replicate 16 0)):=if_pos hy
    rw [e]
    obtain ⟨g1,g2,_⟩:=hy
    obtain ⟨n,rfl⟩:=Int.eq_ofNat_of_zero_le g1
    have hf:n < fs.length:=by omega
    obtain ⟨sr,h1,hrow⟩:=mem_row (b:=b) (s:=s) hb hf
    have hn:n < ss.length:=by rw [hb.len]; exact hf
    refine cE (bp s s2 (i:=0) rfl rfl rfl ?_)
    refine du s2 (j:=1) rfl (by omega) (by omega) fun q hq=>?_
    refine dU (j:=1) (i:=n) (k:=0) sr rC s2 rfl hq (by simp) h1 (by simp) ?_
    refine clear_v (τ:=Int) (x0:=0) (enc:=cI .u64) ge rfl (dm _) (oneI _) s2 hrow fun h3 s3=>?_
    rw [mem_set h1,hb.row _ (List.getElem_mem hf)] at s3
    exact aZ rfl (sn (mem_ok_set hb (by simp)) s3)
theorem sp_mem_Frame (x:Ptr) (fs:List (List Int)) (f:Int):Sp Tryz.prog ru [pv x,.int .i64 f] cg [iD x fs] (fun r=>aF [vU r (Mem.frame fs f),iD x fs]):=by
  intro h s0
  obtain ⟨b,s,ss,rfl,hb,hl,st⟩:=mem_op s0
  refine sim_mem_Mem_Frame _ _ ?_
  unfold vJ
  rw [List.append_nil] at st
  refine cR (rest:=[]) [] (sp_mem_at b s ss fs hb f 0) st (List.append_nil _).symm fun r h' s1=>?_
  obtain ⟨hr,s2⟩:=bu.1 s1
  rw [List.append_nil] at s2
  have hh:=mem_has hr
  refine aY (fun k=>?_) (fun k=>?_)
  · have:¬ Mem.has fs f 0:=by rw [hh]; cases r <;> simp_all
    have e:Mem.frame fs f = []:=if_neg this
    rw [e]
    exact fR (sn hb s2)
  · have hy:Mem.has fs f 0:=by rw [hh]; cases r <;> simp_all
    have e:Mem.frame fs f = fs.getD f.toNat []:=if_pos hy
    rw [e]
    obtain ⟨g1,g2,_⟩:=hy
    obtain ⟨n,rfl⟩:=Int.eq_ofNat_of_zero_le g1
    have hf:n < fs.length:=by omega
    obtain ⟨sr,h1,hrow⟩:=mem_row (b:=b) (s:=s) hb hf
    have hn:n < ss.length:=by rw [hb.len]; exact hf
    have hlen:=hb.row _ (List.getElem_mem hf)
    refine cE (bp s s2 (i:=0) rfl rfl rfl ?_)
    refine du s2 (j:=1) rfl (by omega) (by omega) fun q hq=>?_
    refine dU (j:=1) (i:=n) (k:=0) sr rC s2 rfl hq (by simp) h1 (by simp) ?_
    have hp:pick [2 + n] (xm b s ss fs) = [vU sr fs[n]]++(xm b s ss fs).eraseIdx (2 + n):=by
      unfold pick; rw [hrow]; rfl
    refine cR [2 + n] (sp_slices_Clone sr fs[n] (by omega)) s2 hp fun r2 h3 s3=>?_
    have e2:fs.getD (n:Int).toNat [] = fs[n]:=by simp [hf]
    rw [e2]
    have hlt:=(List.getElem?_eq_some_iff.1 hrow).1
    refine star_tail (dE s3) fun h4 s4=>?_
    have s5:=dQ hlt s4
    rw [mem_set h1] at s5
    exact sn hb (by simpa using s5)
theorem sp_mem_New (n:Int) (h1:¬ n < 1) (h2:¬ n > 16):Sp Tryz.prog wa [.int .i64 n] tS [] (fun r=>aF [iD r (List.replicate n.toNat (List.replicate 16 0))]):=by
  intro h st
  refine sim_mem_New _ ?_
  unfold sh_mem_New
  obtain ⟨m,rfl⟩:=Int.eq_ofNat_of_zero_le (show 0 ≤ n by omega)
  refine dI (by simp; omega) ?_
  refine pD st fun b h' s1=>?_
  refine Lp.intro (fun (i:Int) h=>∃ (k:Nat) (s:Sl) (ss:List Sl),i = k∧k ≤ m∧ss.length = k∧aF (xm b s ss (List.replicate k (List.replicate 16 0))) h) (fun (i:Int) _=>m - i.toNat)
    ⟨0,⟨none,0,0,none⟩,[],rfl,Nat.zero_le _,rfl,bc [1] (fR s1) rfl⟩ ?_
  rintro i h ⟨k,s,ss,rfl,hk,hss,s2⟩
  unfold mem_New_l1
  refine aY (fun c=>?_) (fun c=>?_)
  · have hlt:k < m:=by simpa using c
    have hw:IntKind.i64.wrap ((k:Int) + 1) = ((k + 1:Nat):Int):=by rw [bP (by omega) (by omega)]; rfl
    refine bp s s2 (i:=0) rfl rfl rfl ?_
    refine ol (τ:=Int) (x0:=0) (enc:=cI .u64) (n:=16) ge rfl s2 (by omega) (by omega) fun v h3 s3=>?_
    refine fH (τ:=Sl) [v] (val:=sv) (enc:=cS) uK rC (fun _=>rfl) s3 rfl rfl (by simp) fun y h4 s4=>?_
    refine tP (τ:=Sl) (i:=3) (j:=0) (enc:=cS) (xs:=ss) (ys:=[v]) uK uK.sl rC oneS s4 rfl rfl (by omega) (by simp; omega) (by simp; omega) fun w h5 s5=>?_
    refine tT (i:=2) s5 rfl (Nat.le_refl _) fun h6 s6=>?_
    rw [hw]
    refine ⟨⟨k + 1,w,ss++[v],rfl,hlt,by simp [hss],?_⟩,by simp; omega⟩
    have s7:aF (vU v (List.replicate 16 0)::blk b lY [sv w]::vec be 1 cS w (ss++[v])::rows ss (List.replicate k (List.replicate 16 0))) h6:=bZ (l:=[vec be 1 cS y [v]]) s6
    have s8:=bc [1,1] s7 rfl
    unfold xm
    rw [show List.replicate (k + 1) (List.replicate 16 (0:Int)) = List.replicate k (List.replicate 16 0)++[List.replicate 16 0] from by simp [List.replicate_succ'],rows_app _ _ _ _ (by simp [hss])]
    exact kJ (.cons _ (.cons _ (List.perm_append_comm (l₁:=[_])))) s8
  · have:k = m:=by simp at c; omega
    subst this
    exact sn ⟨by simp [hss],by simp; omega,fun f hf=>by rw [(List.mem_replicate.1 hf).2]; simp⟩ s2
end Go.Proofs.YtemoifebbhoinaaGreatDoor
namespace Go.Proofs.YtemoifebbhoinaaGreatDoor
open Go Mb
set_option linter.unusedVariables false
def mV (a0:Int) (K:Sl→Hp→Prop) (s27:Bool):Hp→Prop:=br s27 ( hpv Tryz.prog (Instr.buildSlice dK 3 #[(0,(.int .i64 1)),(1,(.int .i64 2)),(2,(.int .i64 6))]) cG fun (v33:Sl)=>K v33) ( br (a0 == 22) ( hpv Tryz.prog (Instr.buildSlice dK 4 #[(0,(.int .i64 1)),(1,(.int .i64 2)),(2,(.int .i64 6)),(3,(.int .i64 6))]) cG fun (v36:Sl)=>K v36) ( K (⟨none,0,0,none⟩:Sl)))
def js (a0:Int) (K:Sl→Hp→Prop) (s1:Bool):Hp→Prop:=br s1 ( hpv Tryz.prog (Instr.buildSlice dK 1 #[(0,(.int .i64 0))]) cG fun (v8:Sl)=>K v8) ( br (a0 == 2) ( hpv Tryz.prog (Instr.buildSlice dK 3 #[(0,(.int .i64 0)),(1,(.int .i64 0)),(2,(.int .i64 4))]) cG fun (v11:Sl)=>K v11) ( br (a0 == 3) ( hpv Tryz.prog (Instr.buildSlice dK 4 #[(0,(.int .i64 0)),(1,(.int .i64 3)),(2,(.int .i64 0)),(3,(.int .i64 4))]) cG fun (v14:Sl)=>K v14) ( br (a0 == 6) ( hpv Tryz.prog (Instr.buildSlice dK 3 #[(0,(.int .i64 1)),(1,(.int .i64 0)),(2,(.int .i64 4))]) cG fun (v17:Sl)=>K v17) ( br (a0 == 7) ( hpv Tryz.prog (Instr.buildSlice dK 1 #[(0,(.int .i64 1))]) cG fun (v20:Sl)=>K v20) ( br (a0 == 8) ( hpv Tryz.prog (Instr.buildSlice dK 2 #[(0,(.int .i64 1)),(1,(.int .i64 4))]) cG fun (v23:Sl)=>K v23) ( br (a0 == 9) ( hpv Tryz.prog (Instr.buildSlice dK 4 #[(0,(.int .i64 0)),(1,(.int .i64 2)),(2,(.int .i64 5)),(3,(.int .i64 6))]) cG fun (v26:Sl)=>K v26) ( br (a0 == 20) ( hpv Tryz.prog (Instr.buildSlice dK 2 #[(0,(.int .i64 1)),(1,(.int .i64 2))]) cG fun (v29:Sl)=>K v29) ( br (a0 == 21) ( mV a0 K (a0 == 21)) ( mV a0 K (a0 == 23))))))))))
def sh_word_kinds (a0:Int) (K:Sl→Hp→Prop):Hp→Prop:=br (a0 == 1) ( js a0 K (a0 == 1)) ( br (a0 == 4) ( js a0 K (a0 == 4)) ( js a0 K (a0 == 5)))
theorem sim_word_kinds (a0:Int) {K:Sl→Hp→Prop} {h:Hp} (H:sh_word_kinds a0 K h):Ct Tryz.prog sk #[(.int .i64 a0)] h fun v h'=>∃ r,v = cG r∧K r h':=aw [(.int .i64 a0)] Tryz.func153 c c c fun _=>M<|O c<|ak<|M<|J c<|ad<|ax<|eG (js a0 K) (fun s1=>[(3,(.int .i64 a0)),(4,(.bool s1))]) (fun s1=>[]) (M<|p (bH c c)<|O c<|av c H (fun k37 H38=>an<|cz (a0 == 1) H38 (.cons c<|.cons c<|.nil _) .slnil) fun k37 H38=>M<|p (bH c c)<|O c<|av c H38 (fun k39 H40=>an<|cz (a0 == 4) H40 (.cons c<|.cons c<|.nil _) .slnil) fun k39 H40=>ap<|p (bH c c)<|O c<|cz (a0 == 5) H40 (.cons c<|.cons c<|.nil _) .slnil) fun s1 _ H2=>av c H2 (fun k3 H4=>M<|aa<|aU H4 (bz (vs:=[(.int .i64 0)]) c) c fun v8 _ H5=>O c<|ah<|D ⟨v8,c,H5⟩) fun k3 H4=>M<|p (bH c c)<|O c<|av c H4 (fun k6 H7=>M<|aa<|aU H7 (bz (vs:=[(.int .i64 0),(.int .i64 0),(.int .i64 4)]) c) c fun v11 _ H8=>O c<|ah<|D ⟨v11,c,H8⟩) fun k6 H7=>M<|p (bH c c)<|O c<|av c H7 (fun k9 H10=>M<|aa<|aU H10 (bz (vs:=[(.int .i64 0),(.int .i64 3),(.int .i64 0),(.int .i64 4)]) c) c fun v14 _ H11=>O c<|ah<|D ⟨v14,c,H11⟩) fun k9 H10=>M<|p (bH c c)<|O c<|av c H10 (fun k12 H13=>M<|aa<|aU H13 (bz (vs:=[(.int .i64 1),(.int .i64 0),(.int .i64 4)]) c) c fun v17 _ H14=>O c<|ah<|D ⟨v17,c,H14⟩) fun k12 H13=>M<|p (bH c c)<|O c<|av c H13 (fun k15 H16=>M<|aa<|aU H16 (bz (vs:=[(.int .i64 1)]) c) c fun v20 _ H17=>O c<|ah<|D ⟨v20,c,H17⟩) fun k15 H16=>M<|p (bH c c)<|O c<|av c H16 (fun k18 H19=>M<|aa<|aU H19 (bz (vs:=[(.int .i64 1),(.int .i64 4)]) c) c fun v23 _ H20=>O c<|ah<|D ⟨v23,c,H20⟩) fun k18 H19=>M<|p (bH c c)<|O c<|av c H19 (fun k21 H22=>M<|aa<|aU H22 (bz (vs:=[(.int .i64 0),(.int .i64 2),(.int .i64 5),(.int .i64 6)]) c) c fun v26 _ H23=>O c<|ah<|D ⟨v26,c,H23⟩) fun k21 H22=>M<|p (bH c c)<|O c<|av c H22 (fun k24 H25=>M<|aa<|aU H25 (bz (vs:=[(.int .i64 1),(.int .i64 2)]) c) c fun v29 _ H26=>O c<|ah<|D ⟨v29,c,H26⟩) fun k24 H25=>eG (mV a0 K) (fun s27=>[(3,(.int .i64 a0)),(30,(.bool s27))]) (fun s27=>[]) (M<|p (bH c c)<|O c<|av c H25 (fun k35 H36=>an<|cz (a0 == 21) H36 (.cons c<|.cons c<|.nil _) .slnil) fun k35 H36=>ap<|p (bH c c)<|O c<|cz (a0 == 23) H36 (.cons c<|.cons c<|.nil _) .slnil) fun s27 _ H28=>av c H28 (fun k29 H30=>M<|aa<|aU H30 (bz (vs:=[(.int .i64 1),(.int .i64 2),(.int .i64 6)]) c) c fun v33 _ H31=>O c<|ah<|D ⟨v33,c,H31⟩) fun k29 H30=>M<|p (bH c c)<|O c<|av c H30 (fun k32 H33=>M<|aa<|aU H33 (bz (vs:=[(.int .i64 1),(.int .i64 2),(.int .i64 6),(.int .i64 6)]) c) c fun v36 _ H34=>O c<|ah<|D ⟨v36,c,H34⟩) fun k32 H33=>an<|M<|O c<|ah<|D ⟨(⟨none,0,0,none⟩:Sl),c,H33⟩
def tW (a0:ai) (a1:Int) (K:(Int × Bool)→Hp→Prop) (s1:Bool):Hp→Prop:=br s1 ( K (0,false)) ( gd (0 ≤ a1∧a1 < 5)<|K ((IntKind.i64.wrap (ai.get a0 a1)),true))
def sh_word_Arg (a0:ai) (a1:Int) (a2:Int) (K:(Int × Bool)→Hp→Prop):Hp→Prop:=br (!(((decide (a1 < 1)) || (decide (a1 ≥ 5))) || (decide (a2 ≤ 0)))) ( gd (0 ≤ a1∧a1 < 5)<|tW a0 a1 K (decide ((ai.get a0 a1) ≥ (IntKind.u64.wrap a2)))) ( tW a0 a1 K true)
theorem sim_word_Arg (a0:ai) (a1:Int) (a2:Int) {K:(Int × Bool)→Hp→Prop} {h:Hp} (H:sh_word_Arg a0 a1 a2 K h):Ct Tryz.prog nD #[(.agg (ai.C a0).toArray),(.int .i64 a1),(.int .i64 a2)] h fun v h'=>∃ r,v = bQ r∧K r h':=aw [(.agg (ai.C a0).toArray),(.int .i64 a1),(.int .i64 a2)] Tryz.func160 c c c fun _=>M<|aa<|cA (l:=ai.C a0) c c c fun b3=>p (ar c)<|O c<|ak<|eG (tW a0 a1 K) (fun s1=>[(1,(.int .i64 a1)),(3,(.pointer (some ⟨b3,0,none⟩))),(25,(.bool s1))]) (fun s1=>[bx b3 34 (ai.C a0)]) (ap<|J c<|p (cq c c)<|J c<|V c c (aG _) (fun g7=>wv<|ag c)<|V c c (aG _) (fun g8=>wv<|ij (az c g8) c)<|p (cZ c c)<|J c<|V c c (aG _) (fun g9=>wv<|ag c)<|V c c (aG _) (fun g10=>wv<|v_le (az c g10) c)<|p (cZ c c)<|J c<|V c c (aG _) (fun g11=>wv<|ag c)<|bT H (fun k13 H14=>hH H14 fun h15 H16=>G (Y<|bN k13)<|z_p (bw dk c (az c k13) h15)<|G (Y<|bN k13)<|tk (cv<|ba (k:=0) cy c c<|at_34 _ _ h15) c<|G (Y<|bN k13)<|z_p (ag c)<|G (Y<|bN k13)<|z_p (eB ⟨_,Tryz.underlying3⟩ Tryz.underlying22 c)<|G (Y<|bN k13)<|z_p (ij c c)<|p (ao c (bN k13) c)<|ad<|cz (decide ((ai.get a0 a1) ≥ (IntKind.u64.wrap a2))) H16 (.cons c<|.cons c<|.cons c<|.nil _)<|.cons_cons _ .slnil) fun k13 H14=>W (bb<|bo k13)<|W (bb<|bo k13)<|W (bb<|bo k13)<|W (bb<|bo k13)<|W (bb<|bo k13)<|p (aI c (bo k13) c)<|ad<|cz true H14 (.cons c<|.cons c<|.cons c<|.nil _)<|.cons_cons _ .slnil) fun s1 _ H2=>av c H2 (fun k3 H4=>M<|p (ar c)<|O c<|ah<|bA (bV c (cf c)<|cf c) ⟨(0,false),c,H4⟩) fun k3 H4=>an<|M<|J c<|hH H4 fun h5 H6=>p (bw dk c c h5)<|bf (ba (k:=0) cy c c<|at_34 _ _ h5) c<|p (eB ⟨_,Tryz.underlying22⟩ Tryz.underlying3 c)<|p (ar c)<|O c<|ah<|bA (bV c (cf c)<|cf c) ⟨((IntKind.i64.wrap (ai.get a0 a1)),true),c,H6⟩
def sh_word_fits (a0:ai) (a1:Int) (a2:Int) (a3:Int) (K:Bool→Hp→Prop):Hp→Prop:=br (a2 == 0) ( cl Tryz.prog nD [(.agg (ai.C a0).toArray),(.int .i64 a1),(.int .i64 8)] bQ fun r16=>K r16.2) ( br (a2 == 1) ( cl Tryz.prog nD [(.agg (ai.C a0).toArray),(.int .i64 a1),(.int .i64 8)] bQ fun r24=>K r24.2) ( br (a2 == 2) ( cl Tryz.prog nD [(.agg (ai.C a0).toArray),(.int .i64 a1),(.int .i64 16)] bQ fun r32=>K r32.2) ( br (a2 == 3) ( cl Tryz.prog nD [(.agg (ai.C a0).toArray),(.int .i64 a1),(.int .i64 a3)] bQ fun r41=>K r41.2) ( br (a2 == 4) ( gd (0 ≤ a1∧a1 < 5)<|K ((iu (ai.get a0 a1)).2)) ( br (a2 == 5) ( gd (0 ≤ a1∧a1 < 5)<|K ((decide ((ai.get a0 a1) ≥ 1)) && (decide ((ai.get a0 a1) ≤ 4)))) ( K true))))))
theorem sim_word_fits (a0:ai) (a1:Int) (a2:Int) (a3:Int) {K:Bool→Hp→Prop} {h:Hp} (H:sh_word_fits a0 a1 a2 a3 K h):Ct Tryz.prog n_word_fits #[(.agg (ai.C a0).toArray),(.int .i64 a1),(.int .i64 a2),(.int .i64 a3)] h fun v h'=>∃ r,v = aA r∧K r h':=aw [(.agg (ai.C a0).toArray),(.int .i64 a1),(.int .i64 a2),(.int .i64 a3)] Tryz.func154 c c c fun _=>M<|aa<|cA (l:=ai.C a0) c c c fun b4=>O c<|M<|O c<|ak<|M<|J c<|ad<|ax<|M<|p (bH c c)<|O c<|av c H (fun k1 H2=>ap<|bf (bE (k:=0) fy c c c c) c<|J c<|aa<|F H2 en_160 fun r16 _ H3=>J c<|p (aj c c)<|p (aj c c)<|O c<|M<|J c<|O c<|ah<|D ⟨r16.2,c,H3⟩) fun k1 H2=>M<|p (bH c c)<|O c<|av c H2 (fun k4 H5=>ap<|bf (bE (k:=0) fy c c c c) c<|J c<|aa<|F H5 en_160 fun r24 _ H6=>J c<|p (aj c c)<|p (aj c c)<|O c<|M<|J c<|O c<|ah<|D ⟨r24.2,c,H6⟩) fun k4 H5=>M<|p (bH c c)<|O c<|av c H5 (fun k7 H8=>ap<|bf (bE (k:=0) fy c c c c) c<|J c<|aa<|F H8 en_160 fun r32 _ H9=>J c<|p (aj c c)<|p (aj c c)<|O c<|M<|J c<|O c<|ah<|D ⟨r32.2,c,H9⟩) fun k7 H8=>M<|p (bH c c)<|O c<|av c H8 (fun k10 H11=>ap<|bf (bE (k:=0) fy c c c c) c<|J c<|J c<|aa<|F H11 en_160 fun r41 _ H12=>J c<|p (aj c c)<|p (aj c c)<|O c<|M<|J c<|O c<|ah<|D ⟨r41.2,c,H12⟩) fun k10 H11=>M<|p (bH c c)<|O c<|av c H11 (fun k13 H14=>ap<|J c<|hH H14 fun h15 H16=>p (bw dk c c h15)<|bf (ba (k:=0) cy c c<|at_34 _ _ h15) c<|aa<|cK (vs:=[(.int .u64 (ai.get a0 a1))]) (bv<|ct_word_Rights (ai.get a0 a1) _) en_193 c c<|J c<|p (aj c c)<|p (aj c c)<|O c<|M<|J c<|O c<|ah<|D ⟨(iu (ai.get a0 a1)).2,c,H16⟩) fun k13 H14=>M<|p (bH c c)<|O c<|av c H14 (fun k17 H18=>ap<|J c<|hH H18 fun h19 H20=>p (bw dk c c h19)<|bf (ba (k:=0) cy c c<|at_34 _ _ h19) c<|p (ij c c)<|J c<|V c c (ay _) (fun g21=>wv<|ag c)<|V c c (ay _) (fun g22=>wv<|bw dk c (az c g22) h19)<|V c c (ay _) (fun g23=>cv<|ba (k:=0) cy (az c g23) c<|at_34 _ _ h19)<|V c c (ay _) (fun g24=>wv<|v_le (az c g24) c)<|p (bO c c)<|O c<|M<|J c<|O c<|ah<|D ⟨((decide ((ai.get a0 a1) ≥ 1)) && (decide ((ai.get a0 a1) ≤ 4))),c,H20⟩) fun k17 H18=>an<|M<|J c<|O c<|ah<|D ⟨true,c,H18⟩
def uN (a0:ai) (a1:Int) (K:Int→Hp→Prop) (r17:Sl) (Rec5:Int→Hp→Prop) (s4:Int):Hp→Prop:=br (decide (s4 < (r17.len:Int))) ( ix r17 s4 fun q22=>ld (q22.1,q22.2 + Int.toNat s4 * 1) (cI .i64) fun x23=>cl Tryz.prog n_word_fits [(.agg (ai.C a0).toArray),(.int .i64 (IntKind.i64.wrap (s4 + 1))),(.int .i64 x23),(.int .i64 a1)] aA fun r29=>br (!r29) ( K 2) ( Rec5 (IntKind.i64.wrap (s4 + 1)))) ( K 0)
def sh_word_Check (a0:ai) (a1:Int) (K:Int→Hp→Prop):Hp→Prop:=br (!(aE a0).2) ( K 1) ( cl Tryz.prog sk [(.int .i64 ((aE a0).1))] cG fun r17=>Lp (uN a0 a1 K r17) 0)
theorem sim_word_Check (a0:ai) (a1:Int) {K:Int→Hp→Prop} {h:Hp} (H:sh_word_Check a0 a1 K h):Ct Tryz.prog gY #[(.agg (ai.C a0).toArray),(.int .i64 a1)] h fun v h'=>∃ r,v = bi r∧K r h':=aw [(.agg (ai.C a0).toArray),(.int .i64 a1)] Tryz.func110 c c c fun _=>M<|aa<|cA (l:=ai.C a0) c c c fun b2=>O c<|M<|bf (bE (k:=0) fy c c c c) c<|aa<|cK (vs:=[(.agg (ai.C a0).toArray)]) (bv<|kx a0 _) en_63 c c<|J c<|p (aj c c)<|p (aj c c)<|p (ar c)<|O c<|ak<|M<|J c<|p (ct c)<|ad<|av c H (fun k1 H2=>M<|O c<|ah<|D ⟨1,c,H2⟩) fun k1 H2=>an<|ak<|M<|J c<|aa<|F H2 en_153 fun r17 _ H3=>p (dl c Tryz.underlying39 c)<|J c<|ad<|ax<|bG (step:=uN a0 a1 K r17) (fun s4=>[(1,(.int .i64 a1)),(2,(.pointer (some ⟨b2,0,none⟩))),(17,(sv r17)),(18,(.int .i64 (r17.len:Int))),(19,(.int .i64 s4))]) (fun s4=>[bx b2 34 (ai.C a0)]) H3 (.cons c<|.cons c<|.cons c<|.cons c<|.cons c<|.nil _) (.cons_cons _ .slnil) fun Rec5 s4 _ H6=>M<|p (cq c c)<|ad<|ak<|av c H6 (fun k7 H8=>an<|ak<|ax<|M<|J c<|ck H8 fun q22 e9 h10 H11=>p (bh iP (aK c<|aX e9) c h10)<|aa<|aW H11 aS c (fun _=>c) c fun x23 H12=>p (ar c)<|O c<|M<|bf (bE (k:=0) fy c c c c) c<|J c<|p (bn c c)<|J c<|J c<|aa<|F H12 en_154 fun r29 _ H13=>p (ct c)<|ad<|av c H13 (fun k14 H15=>M<|O c<|ah<|D ⟨2,c,H15⟩) fun k14 H15=>an<|ap<|p (bn c c)<|J c<|ad<|cM (IntKind.i64.wrap (s4 + 1)) H15 (.cons c<|.cons c<|.cons c<|.cons c<|.cons c<|.nil _)<|.cons_cons _ .slnil) fun k7 H8=>bj<|M<|O c<|ah<|D ⟨0,c,H8⟩
def sh_word_Args (a0:Int) (K:Int→Hp→Prop):Hp→Prop:=cl Tryz.prog sk [(.int .i64 a0)] cG fun r4=>K (r4.len:Int)
theorem sim_word_Args (a0:Int) {K:Int→Hp→Prop} {h:Hp} (H:sh_word_Args a0 K h):Ct Tryz.prog n_word_Args #[(.int .i64 a0)] h fun v h'=>∃ r,v = eJ r∧K r h':=aw [(.int .i64 a0)] Tryz.func216 c c c fun _=>M<|O c<|M<|J c<|aa<|F H en_153 fun r4 _ H1=>p (dl c Tryz.underlying39 c)<|O c<|ah<|D ⟨(r4.len:Int),c,H1⟩
end Go.Proofs.YtemoifebbhoinaaGreatDoor
