/- Part of the proof of: The law HistTurn returns true for every input, and leaves its arguments as they were. -/
import Derived.Test.YtemoifebbhoinaaGreatDoorHistTurn07
set_option linter.all false
set_option maxRecDepth 20000
namespace Go.Proofs.YtemoifebbhoinaaGreatDoor
open Go Mb
set_option linter.unusedVariables false
def mZ (a2:Int) (K:Ptr→Hp→Prop) (Rec10:Int→Hp→Prop) (s9:Int) (q30:Nat × Nat) (s20:Bool):Hp→Prop:=br s20 ( K (some (q30.1,q30.2 + 0 + Int.toNat (a2.tmod 4) * 10 + Int.toNat s9 * 5))) ( Rec10 (IntKind.i64.wrap (s9 + 1)))
def uO (a0:Ptr) (a1:Int) (a2:Int) (K:Ptr→Hp→Prop) (Rec10:Int→Hp→Prop) (s9:Int):Hp→Prop:=br (decide (s9 < 2)) ( nn a0 fun q30=>gd (0 ≤ (a2.tmod 4)∧(a2.tmod 4) < 4)<|gd (0 ≤ s9∧s9 < 2)<|ld (q30.1,q30.2 + 0 + Int.toNat (a2.tmod 4) * 10 + Int.toNat s9 * 5 + 0 + 0) (cI .i64) fun x38=>br (x38 == a1) ( ld (q30.1,q30.2 + 0 + Int.toNat (a2.tmod 4) * 10 + Int.toNat s9 * 5 + 0 + 1) (cI .i64) fun x46=>mZ a2 K Rec10 s9 q30 (x46 == a2)) ( mZ a2 K Rec10 s9 q30 false)) ( K none)
def sh_tlb_Tlb_at (a0:Ptr) (a1:Int) (a2:Int) (K:Ptr→Hp→Prop):Hp→Prop:=br (((a0.isNone || (decide (a1 < 0))) || (decide (a2 < 0))) || (decide (a2 ≥ 8))) ( K none) ( Lp (uO a0 a1 a2 K) 0)
theorem sim_tlb_Tlb_at (a0:Ptr) (a1:Int) (a2:Int) {K:Ptr→Hp→Prop} {h:Hp} (H:sh_tlb_Tlb_at a0 a1 a2 K h):Ct Tryz.prog oX #[(pv a0),(.int .i64 a1),(.int .i64 a2)] h fun v h'=>∃ r,v = kg r∧K r h':=aw [(pv a0),(.int .i64 a1),(.int .i64 a2)] Tryz.func167 c c c fun _=>M<|O c<|ak<|M<|J c<|p (cr Tryz.underlying114 c)<|J c<|V c c (aG _) (fun g1=>wv<|ag c)<|V c c (aG _) (fun g2=>wv<|cq (az c g2) c)<|p (cZ c c)<|J c<|V c c (aG _) (fun g3=>wv<|ag c)<|V c c (aG _) (fun g4=>wv<|cq (az c g4) c)<|p (cZ c c)<|J c<|V c c (aG _) (fun g5=>wv<|ag c)<|V c c (aG _) (fun g6=>wv<|ij (az c g6) c)<|p (cZ c c)<|ad<|av c H (fun k7 H8=>M<|O c<|ah<|D ⟨none,c,H8⟩) fun k7 H8=>an<|ak<|M<|J c<|ad<|ax<|bG (step:=uO a0 a1 a2 K) (fun s9=>[(0,(pv a0)),(1,(.int .i64 a1)),(2,(.int .i64 a2)),(23,(.int .i64 s9))]) (fun s9=>[]) H8 (.cons c<|.cons c<|.cons c<|.cons c<|.nil _) .slnil fun Rec10 s9 _ H11=>M<|p (cq c c)<|ad<|ak<|av c H11 (fun k12 H13=>an<|ak<|ax<|M<|J c<|O c<|M<|J c<|J c<|p (v_rem c c (by decide))<|J c<|bI H13 fun q30 e14 H15=>p (aL<|aK c<|aq e14)<|p (ae sL c)<|hH H15 fun h16 H17=>p (bw arr_171 c c h16)<|hH H17 fun h18 H19=>p (bw arr_170 c c h18)<|O c<|eG (mZ a2 K Rec10 s9 q30) (fun s20=>[(0,(pv a0)),(1,(.int .i64 a1)),(2,(.int .i64 a2)),(8,(.pointer (some ⟨q30.1,q30.2 + 0 + Int.toNat (a2.tmod 4) * 10 + Int.toNat s9 * 5,none⟩))),(23,(.int .i64 s9)),(49,(.bool s20))]) (fun s20=>[]) (ap<|J c<|p (aL c)<|p (ae mz c)<|p (ae jP c)<|aa<|aW H19 aS c (fun _=>c) c fun x38 H24=>J c<|p (bH c c)<|J c<|V c c (ay _) (fun g25=>wv<|ag c)<|V c c (ay _) (fun g26=>wv<|aL<|az c g26)<|V c c (ay _) (fun g27=>wv<|ae mz<|az c g27)<|V c c (ay _) (fun g28=>wv<|ae nl<|az c g28)<|bT H24 (fun k30 H31=>G (Y k30)<|aW H31 aS (az c k30) (fun _=>c) c fun x46 H32=>G (Y k30)<|z_p (ag c)<|G (Y k30)<|z_p (bH c c)<|p (aI c k30 c)<|ad<|cz (x46 == a2) H32 (.cons c<|.cons c<|.cons c<|.cons c<|.cons c<|.cons c<|.nil _) .slnil) fun k30 H31=>W (aJ k30)<|W (aJ k30)<|W (aJ k30)<|p (ao c k30 c)<|ad<|cz false H31 (.cons c<|.cons c<|.cons c<|.cons c<|.cons c<|.cons c<|.nil _) .slnil) fun s20 _ H21=>av c H21 (fun k22 H23=>M<|J c<|O c<|ah<|D ⟨some (q30.1,q30.2 + 0 + Int.toNat (a2.tmod 4) * 10 + Int.toNat s9 * 5),c,H23⟩) fun k22 H23=>an<|ap<|p (bn c c)<|J c<|ad<|cM (IntKind.i64.wrap (s9 + 1)) H23 (.cons c<|.cons c<|.cons c<|.cons c<|.nil _) .slnil) fun k12 H13=>bj<|M<|O c<|ah<|D ⟨none,c,H13⟩
def vB (a0:Ptr) (a1:Int) (a2:Int) (K:Bool→Hp→Prop):Hp→Prop:=cl Tryz.prog oX [(pv a0),(.int .i64 a1),(.int .i64 a2)] kg fun r11=>br r11.isNone ( K false) ( nn r11 fun q16=>st (q16.1,q16.2 + 0) (am.C dG)<|K true)
theorem sim_tlb_Tlb_Flush (a0:Ptr) (a1:Int) (a2:Int) {K:Bool→Hp→Prop} {h:Hp} (H:vB a0 a1 a2 K h):Ct Tryz.prog nt #[(pv a0),(.int .i64 a1),(.int .i64 a2)] h fun v h'=>∃ r,v = aA r∧K r h':=aw [(pv a0),(.int .i64 a1),(.int .i64 a2)] Tryz.func117 c c c fun _=>M<|O c<|M<|J c<|J c<|J c<|aa<|F H en_167 fun r11 _ H1=>O c<|ak<|M<|J c<|p (cr Tryz.underlying226 c)<|ad<|av c H1 (fun k2 H3=>M<|O c<|ah<|D ⟨false,c,H3⟩) fun k2 H3=>an<|M<|J c<|aa<|cK (vs:=[]) (bv<|xG _) en_152 c c<|bI H3 fun q16 e4 H5=>p (aL<|aK c<|aq e4)<|p (ae mz c)<|aa<|dh fD c c c c c H5 fun _ H6=>ad<|M<|O c<|ah<|D ⟨true,c,H6⟩
def sh_tlb_Tlb_Find (a0:Ptr) (a1:Int) (a2:Int) (K:(am × Bool)→Hp→Prop):Hp→Prop:=cl Tryz.prog oX [(pv a0),(.int .i64 a1),(.int .i64 a2)] kg fun r12=>br r12.isNone ( K ((⟨0,0,0,0⟩:am),false)) ( nn r12 fun q17=>ld (q17.1,q17.2 + 0) am.C fun x19=>K (x19,true))
theorem sim_tlb_Tlb_Find (a0:Ptr) (a1:Int) (a2:Int) {K:(am × Bool)→Hp→Prop} {h:Hp} (H:sh_tlb_Tlb_Find a0 a1 a2 K h):Ct Tryz.prog oY #[(pv a0),(.int .i64 a1),(.int .i64 a2)] h fun v h'=>∃ r,v = fO r∧K r h':=aw [(pv a0),(.int .i64 a1),(.int .i64 a2)] Tryz.func157 c c c fun _=>M<|aa<|aP (l:=am.C (⟨0,0,0,0⟩:am)) lc c c fun b6=>O c<|M<|J c<|J c<|J c<|aa<|F H en_167 fun r12 _ H1=>O c<|ak<|M<|J c<|p (cr Tryz.underlying226 c)<|ad<|av c H1 (fun k2 H3=>M<|p (bd (vs:=[]) c lW)<|aa<|aR (k:=0) (vs:=am.C (⟨0,0,0,0⟩:am)) fD c c c c c c c<|O c<|ah<|bA (bV c (bF (k:=0) c ig c c)<|cf c) ⟨((⟨0,0,0,0⟩:am),false),c,H3⟩) fun k2 H3=>an<|M<|J c<|bI H3 fun q17 e4 H5=>p (aL<|aK c<|aq e4)<|p (ae mz c)<|aa<|gI H5 ig c (fun _=>c) c fun x19 H6=>aa<|aR (k:=0) (vs:=am.C x19) fD c c c c c c c<|O c<|ah<|bA (bV c (bF (k:=0) c ig c c)<|cf c) ⟨(x19,true),c,H6⟩
def rl (a0:Ptr) (a1:Int) (K:Ptr→Hp→Prop) (Rec2:(Ptr × Int)→Hp→Prop) (s1:Ptr × Int):Hp→Prop:=br (decide (s1.2 < 2)) ( nn a0 fun q14=>gd (0 ≤ a1∧a1 < 4)<|gd (0 ≤ s1.2∧s1.2 < 2)<|ld (q14.1,q14.2 + 0 + Int.toNat a1 * 10 + Int.toNat s1.2 * 5 + 0 + 0) (cI .i64) fun x22=>br (decide (x22 < 0)) ( K (some (q14.1,q14.2 + 0 + Int.toNat a1 * 10 + Int.toNat s1.2 * 5))) ( br s1.1.isNone ( Rec2 ((some (q14.1,q14.2 + 0 + Int.toNat a1 * 10 + Int.toNat s1.2 * 5)),(IntKind.i64.wrap (s1.2 + 1)))) ( nn s1.1 fun q33=>ld (q14.1,q14.2 + 0 + Int.toNat a1 * 10 + Int.toNat s1.2 * 5 + 4) (cI .i64) fun x31=>ld (q33.1,q33.2 + 4) (cI .i64) fun x35=>br (decide (x31 < x35)) ( Rec2 ((some (q14.1,q14.2 + 0 + Int.toNat a1 * 10 + Int.toNat s1.2 * 5)),(IntKind.i64.wrap (s1.2 + 1)))) ( Rec2 (s1.1,(IntKind.i64.wrap (s1.2 + 1))))))) ( K s1.1)
def sh_tlb_Tlb_room (a0:Ptr) (a1:Int) (K:Ptr→Hp→Prop):Hp→Prop:=Lp (rl a0 a1 K) (none,0)
theorem sim_tlb_Tlb_room (a0:Ptr) (a1:Int) {K:Ptr→Hp→Prop} {h:Hp} (H:sh_tlb_Tlb_room a0 a1 K h):Ct Tryz.prog tq #[(pv a0),(.int .i64 a1)] h fun v h'=>∃ r,v = kg r∧K r h':=aw [(pv a0),(.int .i64 a1)] Tryz.func194 c c c fun _=>M<|O c<|M<|O c<|ak<|M<|J c<|ad<|ax<|bG (step:=rl a0 a1 K) (fun s1=>[(0,(pv a0)),(1,(.int .i64 a1)),(5,(pv s1.1)),(8,(.int .i64 s1.2))]) (fun s1=>[]) H (.cons c<|.cons c<|.cons c<|.cons c<|.nil _) .slnil fun Rec2 s1 _ H3=>M<|p (cq c c)<|ad<|ak<|av c H3 (fun k4 H5=>an<|ak<|ax<|M<|J c<|O c<|M<|J c<|J c<|J c<|bI H5 fun q14 e6 H7=>p (aL<|aK c<|aq e6)<|p (ae sL c)<|hH H7 fun h8 H9=>p (bw arr_171 c c h8)<|hH H9 fun h10 H11=>p (bw arr_170 c c h10)<|O c<|ak<|M<|J c<|p (aL c)<|p (ae mz c)<|p (ae jP c)<|aa<|aW H11 aS c (fun _=>c) c fun x22 H12=>p (cq c c)<|ad<|av c H12 (fun k13 H14=>M<|J c<|O c<|ah<|D ⟨some (q14.1,q14.2 + 0 + Int.toNat a1 * 10 + Int.toNat s1.2 * 5),c,H14⟩) fun k13 H14=>an<|ak<|bm (n:=13) [] cn c .slnil<|U 0 c (ag c)<|U 1 c (cr Tryz.underlying226 c)<|U 2 c (ag c)<|eY H14 (fun k15 H16=>Z 3 c (bb k15)<|Z 4 c (bb k15)<|Z 5 c (bb k15)<|Z 6 c (bb k15)<|Z 7 c (bb k15)<|Z 8 c (bb k15)<|Z 9 c (bb k15)<|Z 10 c (bb k15)<|Z 11 c (bb k15)<|U 12 c (aI c k15 c)<|aO (by kernel_rfl)<|fG c c<|ap<|J c<|O c<|ap<|p (bn c c)<|J c<|ad<|cM ((some (q14.1,q14.2 + 0 + Int.toNat a1 * 10 + Int.toNat s1.2 * 5)),(IntKind.i64.wrap (s1.2 + 1))) H16 (.cons c<|.cons c<|.cons c<|.cons c<|.nil _) .slnil) fun k15 H16=>I 3 c (Y k15) (ve<|ag c)<|I 4 c (Y k15) (ve<|aL c)<|I 5 c (Y k15) (ve<|ae fld_169_1 c)<|I 7 c (Y k15) (ve<|ag c)<|hO H16 fun q33 e17 H18=>I 8 c (Y k15) (ve<|aL<|aK c<|aq e17)<|I 9 c (Y k15) (ve<|ae fld_169_1 c)<|eu (i:=6) (fun _ _ _ _ hh=>hh) H18 c (by kernel_rfl) c c c (Y k15) aS c (fun _=>c) c fun x31 H19=>eu (i:=10) (fun _ _ _ _ hh=>hh) H19 c (by kernel_rfl) c c c (Y k15) aS c (fun _=>c) c fun x35 H20=>I 11 c (Y k15) (ve<|cq c c)<|U 12 c (ao c k15 c)<|aO (by kernel_rfl)<|av c H20 (fun k21 H22=>ap<|J c<|O c<|ap<|p (bn c c)<|J c<|ad<|cM ((some (q14.1,q14.2 + 0 + Int.toNat a1 * 10 + Int.toNat s1.2 * 5)),(IntKind.i64.wrap (s1.2 + 1))) H22 (.cons c<|.cons c<|.cons c<|.cons c<|.nil _) .slnil) fun k21 H22=>an<|ap<|p (bn c c)<|J c<|ad<|cM (s1.1,(IntKind.i64.wrap (s1.2 + 1))) H22 (.cons c<|.cons c<|.cons c<|.cons c<|.nil _) .slnil) fun k4 H5=>bj<|M<|J c<|O c<|ah<|D ⟨s1.1,c,H5⟩
def kA (a0:Ptr) (a1:am) (K:Bool→Hp→Prop) (s24:Ptr):Hp→Prop:=nn a0 fun q60=>ld (q60.1,q60.2 + 40) (cI .i64) fun x62=>st (q60.1,q60.2 + 40) [.int .i64 (IntKind.i64.wrap (x62 + 1))]<|ld (q60.1,q60.2 + 40) (cI .i64) fun x71=>nn s24 fun q73=>st (q73.1,q73.2) (cm.C (⟨a1,x71⟩:cm))<|K true
def sh_tlb_Tlb_Fill (a0:Ptr) (a1:am) (K:Bool→Hp→Prop):Hp→Prop:=br ((a0.isNone || ((((((decide (a1.fEnv < 0)) || (decide (a1.fEnv ≥ 4))) || (decide (a1.fPage < 0))) || (decide (a1.fPage ≥ 8))) || (decide (a1.fFrame < 0))) || (decide (a1.fFrame ≥ 16)))) || (!(ch a1.fRights))) ( K false) ( cl Tryz.prog oX [(pv a0),(.int .i64 a1.fEnv),(.int .i64 a1.fPage)] kg fun r51=>br r51.isNone ( cl Tryz.prog tq [(pv a0),(.int .i64 (a1.fPage.tmod 4))] kg fun r58=>kA a0 a1 K r58) ( kA a0 a1 K r51))
theorem sim_tlb_Tlb_Fill (a0:Ptr) (a1:am) {K:Bool→Hp→Prop} {h:Hp} (H:sh_tlb_Tlb_Fill a0 a1 K h):Ct Tryz.prog oZ #[(pv a0),(.agg (am.C a1).toArray)] h fun v h'=>∃ r,v = aA r∧K r h':=aw [(pv a0),(.agg (am.C a1).toArray)] Tryz.func159 c c c fun _=>M<|aa<|cA (l:=am.C a1) c c c fun b3=>O c<|M<|p (ae jP c)<|bf (ba (k:=0) aS c c c) c<|p (cq c c)<|J c<|V c c (aG _) (fun g1=>wv<|ae jP c)<|V c c (aG _) (fun g2=>cv<|ba (k:=0) aS (az c g2) c c)<|V c c (aG _) (fun g3=>wv<|ij (az c g3) c)<|p (cZ c c)<|J c<|V c c (aG _) (fun g4=>wv<|ae nl c)<|V c c (aG _) (fun g5=>cv<|ba (k:=0) aS (az c g5) c c)<|V c c (aG _) (fun g6=>wv<|cq (az c g6) c)<|p (cZ c c)<|J c<|V c c (aG _) (fun g7=>wv<|ae nl c)<|V c c (aG _) (fun g8=>cv<|ba (k:=0) aS (az c g8) c c)<|V c c (aG _) (fun g9=>wv<|ij (az c g9) c)<|p (cZ c c)<|J c<|V c c (aG _) (fun g10=>wv<|ae lR c)<|V c c (aG _) (fun g11=>cv<|ba (k:=0) aS (az c g11) c c)<|V c c (aG _) (fun g12=>wv<|cq (az c g12) c)<|p (cZ c c)<|J c<|V c c (aG _) (fun g13=>wv<|ae lR c)<|V c c (aG _) (fun g14=>cv<|ba (k:=0) aS (az c g14) c c)<|V c c (aG _) (fun g15=>wv<|ij (az c g15) c)<|p (cZ c c)<|O c<|ak<|M<|J c<|p (cr Tryz.underlying114 c)<|J c<|V c c (aG _) (fun g16=>wv<|ag c)<|p (cZ c c)<|J c<|V c c (aG _) (fun g17=>wv<|ae rd c)<|V c c (aG _) (fun g18=>cv<|ba (k:=0) aS (az c g18) c c)<|dc (vs:=[(.int .i64 a1.fRights)]) c c c (aG _) (fun g19=>bv<|qu a1.fRights _) en_166 (fun g19=>aT (az c g19) bW) c<|V c c (aG _) (fun g20=>wv<|ct<|az c g20)<|p (cZ c c)<|ad<|av c H (fun k21 H22=>M<|O c<|ah<|D ⟨false,c,H22⟩) fun k21 H22=>an<|M<|J c<|p (ae jP c)<|bf (ba (k:=0) aS c c c) c<|p (ae nl c)<|bf (ba (k:=0) aS c c c) c<|aa<|F H22 en_167 fun r51 _ H23=>O c<|eG (kA a0 a1 K) (fun s24=>[(0,(pv a0)),(3,(.pointer (some ⟨b3,0,none⟩))),(6,(pv s24))]) (fun s24=>[bx b3 54 (am.C a1)]) (M<|J c<|p (cr Tryz.underlying226 c)<|ad<|av c H23 (fun k34 H35=>ap<|J c<|p (ae nl c)<|bf (ba (k:=0) aS c c c) c<|p (v_rem c c (by decide))<|aa<|F H35 en_194 fun r58 _ H36=>O c<|cz r58 H36 (.cons c<|.cons c<|.cons c<|.nil _)<|.cons_cons _ .slnil) fun k34 H35=>an<|cz r51 H35 (.cons c<|.cons c<|.cons c<|.nil _)<|.cons_cons _ .slnil) fun s24 _ H25=>M<|J c<|bI H25 fun q60 e26 H27=>p (aL<|aK c<|aq e26)<|p (ae fld_173_1 c)<|aa<|aW H27 aS c (fun _=>c) c fun x62 H28=>p (bn c c)<|p (aL<|aK c<|aq e26)<|p (ae fld_173_1 c)<|aa<|dh lP c c c c c H28 fun _ H29=>ad<|ak<|bm (n:=9) [bx b3 54 (am.C a1)] cn c (.cons_cons _ .slnil)<|U 0 c (ag c)<|z_E 1 c (eA (k:=0) ig c c c c)<|U 2 c (ag<|aK c<|aq e26)<|U 3 c (aL c)<|U 4 c (ae fld_173_1 c)<|bJ (i:=5) (fun _ _ _ _ hh=>hh) H29 c (by kernel_rfl) aS c (fun _=>c) c fun x71 H30=>U 6 c (bd c<|build_169_0_1 a1 x71)<|hO H30 fun q73 e31 H32=>U 7 c (aL<|aK c<|aq e31)<|R 8 c<|dh inf_169 c c c c c H32 fun _ H33=>⟨.cons_cons _ .slnil,aO (by kernel_rfl)<|M<|O c<|ah<|D ⟨true,c,H33⟩⟩
def pY (Rec4:(Sl × Int)→Hp→Prop) (s3:Sl × Int) (x17:jr) (Rec14:(Sl × Int)→Hp→Prop) (s13:Sl × Int):Hp→Prop:=br (decide (s13.2 < 2)) ( hpv Tryz.prog (Instr.index t_2_tlb_line (.agg (jr.C x17).toArray) (.int .i64 s13.2)) R_tlb_line fun (v20:cm)=>hpv Tryz.prog (Instr.buildSlice qM 1 #[(0,(.agg (am.C v20.fl).toArray))]) rh fun (v24:Sl)=>hpv Tryz.prog (Builtin.append_ #[qM,qM] qM #[(sv s13.1),(sv v24)]) rh fun (v25:Sl)=>Rec14 (v25,(IntKind.i64.wrap (s13.2 + 1)))) ( Rec4 (s13.1,(IntKind.i64.wrap (s3.2 + 1))))
def pZ (a0:Ptr) (K:Sl→Hp→Prop) (Rec4:(Sl × Int)→Hp→Prop) (s3:Sl × Int):Hp→Prop:=br (decide (s3.2 < 4)) ( nn a0 fun q14=>gd (0 ≤ s3.2∧s3.2 < 4)<|ld (q14.1,q14.2 + 0 + Int.toNat s3.2 * 10) jr.C fun x17=>Lp (pY Rec4 s3 x17) (s3.1,0)) ( K s3.1)
def vz (a0:Ptr) (K:Sl→Hp→Prop):Hp→Prop:=br a0.isNone ( K (⟨none,0,0,none⟩:Sl)) ( Lp (pZ a0 K) ((⟨none,0,0,none⟩:Sl),0))
theorem sim_tlb_Tlb_Lines (a0:Ptr) {K:Sl→Hp→Prop} {h:Hp} (H:vz a0 K h):Ct Tryz.prog rp #[(pv a0)] h fun v h'=>∃ r,v = rh r∧K r h':=aw [(pv a0)] Tryz.func87 c c c fun _=>M<|O c<|ak<|M<|J c<|p (cr Tryz.underlying114 c)<|ad<|av c H (fun k1 H2=>M<|O c<|ah<|D ⟨(⟨none,0,0,none⟩:Sl),c,H2⟩) fun k1 H2=>an<|M<|O c<|ak<|M<|J c<|ad<|ax<|bG (step:=pZ a0 K) (fun s3=>[(0,(pv a0)),(3,(sv s3.1)),(9,(.int .i64 s3.2))]) (fun s3=>[]) H2 (.cons c<|.cons c<|.cons c<|.nil _) .slnil fun Rec4 s3 _ H5=>M<|p (cq c c)<|ad<|ak<|av c H5 (fun k6 H7=>an<|ak<|ax<|M<|J c<|O c<|M<|J c<|J c<|bI H7 fun q14 e8 H9=>p (aL<|aK c<|aq e8)<|p (ae sL c)<|hH H9 fun h10 H11=>p (bw arr_171 c c h10)<|aa<|gI H11 ag_170 c (fun _=>c) c fun x17 H12=>J c<|ad<|ax<|bG (step:=pY Rec4 s3 x17) (fun s13=>[(0,(pv a0)),(3,(sv s13.1)),(9,(.int .i64 s3.2)),(17,(.agg (jr.C x17).toArray)),(18,(.int .i64 s13.2))]) (fun s13=>[]) H12 (.cons c<|.cons c<|.cons c<|.cons c<|.cons c<|.nil _) .slnil fun Rec14 s13 _ H15=>M<|p (cq c c)<|ad<|ak<|av c H15 (fun k16 H17=>an<|ak<|ax<|M<|aa<|aU H17 (x_index c c) c fun v20 _ H18=>aa<|aP (l:=cm.C (⟨(⟨0,0,0,0⟩:am),0⟩:cm)) zero_169 c c fun b6=>aa<|aR (k:=0) (vs:=cm.C v20) inf_169 c c c c c c c<|ad<|ap<|J c<|p (ae mz c)<|bf (bE (k:=0) ig c c c c) c<|aa<|aU H18 (bz (vs:=[(.agg (am.C v20.fl).toArray)]) c) c fun v24 _ H19=>aa<|aU H19 (dJ c c) c fun v25 _ H20=>O c<|ap<|p (bn c c)<|J c<|ad<|cM (v25,(IntKind.i64.wrap (s13.2 + 1))) H20 (.cons c<|.cons c<|.cons c<|.cons c<|.cons c<|.nil _)<|.cons _ .slnil) fun k16 H17=>bj<|ap<|p (bn c c)<|J c<|ad<|cM (s13.1,(IntKind.i64.wrap (s3.2 + 1))) H17 (.cons c<|.cons c<|.cons c<|.nil _) .slnil) fun k6 H7=>bj<|M<|J c<|O c<|ah<|D ⟨s3.1,c,H7⟩
def qa (a0:Ptr) (Rec4:Int→Hp→Prop) (s3:Int) (Rec9:Int→Hp→Prop) (s8:Int):Hp→Prop:=br (decide (s8 < 2)) ( nn a0 fun q16=>gd (0 ≤ s3∧s3 < 4)<|gd (0 ≤ s8∧s8 < 2)<|st (q16.1,q16.2 + 0 + Int.toNat s3 * 10 + Int.toNat s8 * 5 + 0) (am.C dG)<|Rec9 (IntKind.i64.wrap (s8 + 1))) ( Rec4 (IntKind.i64.wrap (s3 + 1)))
def qb (a0:Ptr) (K:Unit→Hp→Prop) (Rec4:Int→Hp→Prop) (s3:Int):Hp→Prop:=br (decide (s3 < 4)) ( Lp (qa a0 Rec4 s3) 0) ( K ())
def vD (a0:Ptr) (K:Unit→Hp→Prop):Hp→Prop:=br a0.isNone ( K ()) ( Lp (qb a0 K) 0)
theorem sim_tlb_Tlb_Clear (a0:Ptr) {K:Unit→Hp→Prop} {h:Hp} (H:vD a0 K h):Ct Tryz.prog rr #[(pv a0)] h fun v h'=>∃ r,v = R_ r∧K r h':=aw [(pv a0)] Tryz.func108 c c c fun _=>ak<|M<|J c<|p (cr Tryz.underlying114 c)<|ad<|av c H (fun k1 H2=>ah<|bA (res_0 c) ⟨(),c,H2⟩) fun k1 H2=>an<|M<|J c<|ad<|ax<|bG (step:=qb a0 K) (fun s3=>[(0,(pv a0)),(6,(.int .i64 s3))]) (fun s3=>[]) H2 (.cons c<|.cons c<|.nil _) .slnil fun Rec4 s3 _ H5=>M<|p (cq c c)<|ad<|ak<|av c H5 (fun k6 H7=>an<|ak<|ax<|M<|J c<|O c<|M<|J c<|ad<|ax<|bG (step:=qa a0 Rec4 s3) (fun s8=>[(0,(pv a0)),(2,(.int .i64 s3)),(6,(.int .i64 s3)),(9,(.int .i64 s8))]) (fun s8=>[]) H7 (.cons c<|.cons c<|.cons c<|.cons c<|.nil _) .slnil fun Rec9 s8 _ H10=>M<|p (cq c c)<|ad<|ak<|av c H10 (fun k11 H12=>an<|ak<|ax<|M<|J c<|O c<|bm (n:=10) [] cn c .slnil<|U 0 c (ag c)<|U 1 c (ag c)<|U 2 c (ag c)<|hO H12 fun q16 e13 H14=>U 4 c (aL<|aK c<|aq e13)<|U 5 c (ae sL c)<|eva_gd H14 fun h15 H16=>U 6 c (bw arr_171 c c h15)<|R 3 c<|cK (vs:=[]) (bv<|xG _) en_152 c c ⟨.slnil,eva_gd H16 fun h17 H18=>U 7 c (bw arr_170 c c h17)<|U 8 c (ae mz c)<|R 9 c<|dh fD c c c c c H18 fun _ H19=>⟨.slnil,aO (by kernel_rfl)<|ap<|p (bn c c)<|J c<|ad<|cM (IntKind.i64.wrap (s8 + 1)) H19 (.cons c<|.cons c<|.cons c<|.cons c<|.nil _) .slnil⟩⟩) fun k11 H12=>bj<|ap<|p (bn c c)<|J c<|ad<|cM (IntKind.i64.wrap (s3 + 1)) H12 (.cons c<|.cons c<|.nil _) .slnil) fun k6 H7=>bj<|end_i (res_0 c) ⟨(),c,H7⟩
def sh_tlb_New (K:Ptr→Hp→Prop):Hp→Prop:=hpv Tryz.prog (Instr.build qc #[]) encL fun (v2:(List Value))=>nw qc v2 fun b3=>cl Tryz.prog rr [(.pointer (some ⟨b3,0,none⟩))] R_ fun (_:Unit)=>K (some (b3,0))
theorem sim_tlb_New {K:Ptr→Hp→Prop} {h:Hp} (H:sh_tlb_New K h):Ct Tryz.prog iS #[] h fun v h'=>∃ r,v = gN r∧K r h':=aw [] Tryz.func59 c c c fun _=>M<|O c<|M<|aa<|aU H (x_build (vs:=[]) c) c fun v2 _ H1=>aa<|io c c c H1 fun b3 _ H2=>O c<|M<|J c<|aa<|F H2 en_108 fun r5 _ H3=>ad<|M<|J c<|O c<|ah<|D ⟨some (b3,0),c,H3⟩
def vC (a0:Ptr) (a1:Int) (a2:Int) (K:Bool→Hp→Prop):Hp→Prop:=br (!((((a0.isNone || (decide (a1 < 0))) || (decide (a1 ≥ 4))) || (decide (a2 < 0))) || (decide (a2 ≥ 2)))) ( nn a0 fun q29=>gd (0 ≤ a1∧a1 < 4)<|gd (0 ≤ a2∧a2 < 2)<|ld (q29.1,q29.2 + 0 + Int.toNat a1 * 10 + Int.toNat a2 * 5 + 0 + 0) (cI .i64) fun x35=>br (decide (x35 < 0)) ( K false) ( st (q29.1,q29.2 + 0 + Int.toNat a1 * 10 + Int.toNat a2 * 5 + 0) (am.C dG)<|K true)) ( K false)
theorem sim_tlb_Tlb_Evict (a0:Ptr) (a1:Int) (a2:Int) {K:Bool→Hp→Prop} {h:Hp} (H:vC a0 a1 a2 K h):Ct Tryz.prog rq #[(pv a0),(.int .i64 a1),(.int .i64 a2)] h fun v h'=>∃ r,v = aA r∧K r h':=aw [(pv a0),(.int .i64 a1),(.int .i64 a2)] Tryz.func109 c c c fun _=>M<|O c<|ak<|M<|J c<|p (cr Tryz.underlying114 c)<|J c<|V c c (aG _) (fun g1=>wv<|ag c)<|V c c (aG _) (fun g2=>wv<|cq (az c g2) c)<|p (cZ c c)<|J c<|V c c (aG _) (fun g3=>wv<|ag c)<|V c c (aG _) (fun g4=>wv<|ij (az c g4) c)<|p (cZ c c)<|J c<|V c c (aG _) (fun g5=>wv<|ag c)<|V c c (aG _) (fun g6=>wv<|cq (az c g6) c)<|p (cZ c c)<|J c<|V c c (aG _) (fun g7=>wv<|ag c)<|V c c (aG _) (fun g8=>wv<|ij (az c g8) c)<|p (cZ c c)<|J c<|V c c (aG _) (fun g9=>wv<|ag c)<|V c c (aG _) (fun g10=>wv<|ag c)<|V c c (aG _) (fun g11=>wv<|ag c)<|bT H (fun k13 H14=>bI H14 fun q29 e15 H16=>G (Y<|bN k13)<|z_p (aL<|aK (az c k13)<|aq e15)<|G (Y<|bN k13)<|z_p (ae sL c)<|hH H16 fun h17 H18=>G (Y<|bN k13)<|z_p (bw arr_171 c (az c k13) h17)<|hH H18 fun h19 H20=>G (Y<|bN k13)<|z_p (bw arr_170 c (az c k13) h19)<|G (Y<|bN k13)<|z_p (ae mz c)<|G (Y<|bN k13)<|z_p (ae jP c)<|G (Y<|bN k13)<|aW H20 aS c (fun _=>c) c fun x35 H21=>G (Y<|bN k13)<|z_p (cq c c)<|p (ao c (bN k13) c)<|ad<|av c H21 (fun k22 H23=>M<|O c<|ah<|D ⟨false,c,H23⟩) fun k22 H23=>an<|ak<|bm (n:=10) [] cn c .slnil<|U 0 c (ag<|aK c<|aq e15)<|U 1 c (ag c)<|U 2 c (ag c)<|U 4 c (aL c)<|U 5 c (ae sL c)<|U 6 c (bw arr_171 c c h17)<|R 3 c<|cK (vs:=[]) (bv<|xG _) en_152 c c ⟨.slnil,U 7 c (bw arr_170 c c h19)<|U 8 c (ae mz c)<|R 9 c<|dh fD c c c c c H23 fun _ H24=>⟨.slnil,aO (by kernel_rfl)<|M<|O c<|ah<|D ⟨true,c,H24⟩⟩⟩) fun k13 H14=>W (bb<|bo k13)<|W (bb<|bo k13)<|W (bb<|bo k13)<|W (bb<|bo k13)<|W (bb<|bo k13)<|W (bb<|bo k13)<|W (bb<|bo k13)<|W (bb<|bo k13)<|p (aI c (bo k13) c)<|ad<|fG c c<|M<|O c<|ah<|D ⟨false,c,H14⟩
end Go.Proofs.YtemoifebbhoinaaGreatDoor
namespace Go.Proofs.YtemoifebbhoinaaGreatDoor
open Go Mb
abbrev TL:=cm
theorem iN (p:TL):p.C.length = 5:=rfl
def fx (x:Ptr) (t:List TL × Int):As:=fun h=>∃ b:Nat,(x = some (b,0)∧t.1.length = 8)∧aF [blk b qc ([]++(t.1.flatMap cm.C++[.int .i64 t.2]))] h
theorem nB {x:Ptr} {t:List TL × Int} {l:List As} {h:Hp} (s0:aF (fx x t::l) h):∃ b,x = some (b,0)∧t.1.length = 8∧aF (blk b qc ([]++(t.1.flatMap cm.C++[.int .i64 t.2]))::l) h:=by
  obtain ⟨b,⟨hx,hb⟩,st⟩:=op_ s0
  exact ⟨b,hx,hb,st⟩
theorem pX {b:Nat} {t:List TL × Int} {l:List As} {h:Hp} (hb:t.1.length = 8) (st:aF (blk b qc ([]++(t.1.flatMap cm.C++[.int .i64 t.2]))::l) h):aF (fx (some (b,0)) t::l) h:=cl_ b ⟨rfl,hb⟩ st
namespace Tlb
abbrev line0:TL:=⟨⟨0,0,0,0⟩,0⟩
def ln (ls:List TL) (n:Nat):TL:=ls.getD n line0
def hit (ls:List TL) (e p:Int) (n:Nat):Prop:=(ln ls n).fl.fEnv = e∧(ln ls n).fl.fPage = p
instance (ls:List TL) (e p:Int) (n:Nat):Decidable (hit ls e p n):=by unfold hit; infer_instance
def at_ (ls:List TL) (e p:Int):Option Nat :=
  if e < 0∨p < 0∨p ≥ 8 then none
  else if hit ls e p ((p.tmod 4).toNat * 2) then some ((p.tmod 4).toNat * 2) else if hit ls e p ((p.tmod 4).toNat * 2 + 1) then some ((p.tmod 4).toNat * 2 + 1) else none
def find (ls:List TL) (e p:Int):am × Bool:=match at_ ls e p with | some n=>((ln ls n).fl,true) | none=>(⟨0,0,0,0⟩,false)
def flush (t:List TL × Int) (e p:Int):Bool × List TL × Int:=match at_ t.1 e p with | some n=>(true,t.1.set n { ln t.1 n with fl:=dG },t.2) | none=>(false,t)
def evict (t:List TL × Int) (s w:Int):Bool × List TL × Int :=
  if s < 0∨s ≥ 4∨w < 0∨w ≥ 2 then (false,t) else if (ln t.1 (s.toNat * 2 + w.toNat)).fl.fEnv < 0 then (false,t) else (true,t.1.set (s.toNat * 2 + w.toNat) { ln t.1 (s.toNat * 2 + w.toNat) with fl:=dG },t.2)
theorem at_lt {ls:List TL} {e p:Int} {n:Nat} (h:at_ ls e p = some n):n < 8:=by
  unfold at_ at h
  split at h
  · cases h
  · rename_i h0
    have:(p.tmod 4).toNat < 4:=by
      obtain ⟨q,rfl⟩:=Int.eq_ofNat_of_zero_le (show 0 ≤ p by omega)
      rw [show ((4:Int)) = ((4:Nat):Int) from rfl,← Int.ofNat_tmod]
      simp; omega
    split at h
    · cases h; omega
    · split at h
      · cases h; omega
      · cases h
end Tlb
def xo (b:Nat) (o:Option Nat):Ptr:=o.map fun n=>(b,n * 5)
theorem ln_get {ls:List TL} {n:Nat} (h:n < ls.length):Tlb.ln ls n = ls[n]:=by simp [Tlb.ln,h]
theorem sp_tlb_at (b:Nat) (t:List TL × Int) (e p:Int) (hb:t.1.length = 8):Sp Tryz.prog oX [pv (some (b,0)),.int .i64 e,.int .i64 p] kg [fx (some (b,0)) t] (fun r=>pa_ (r = xo b (Tlb.at_ t.1 e p)) [fx (some (b,0)) t]):=by
  intro h s0
  obtain ⟨b',hb',_,st⟩:=nB s0
  cases hb'
  refine sim_tlb_Tlb_at _ _ _ ?_
  unfold sh_tlb_Tlb_at
  refine aY (fun k=>?_) (fun k=>?_)
  · have k':e < 0∨p < 0∨p ≥ 8:=by simpa [or_assoc] using k
    have e1:Tlb.at_ t.1 e p = none:=if_pos k'
    rw [e1]
    exact aZ rfl (pX hb st)
  · have k':¬ (e < 0∨p < 0∨p ≥ 8):=by simp at k; omega
    obtain ⟨q,rfl⟩:=Int.eq_ofNat_of_zero_le (show 0 ≤ p by omega)
    have hm:((q:Int).tmod 4) = ((q % 4:Nat):Int):=by rw [show ((4:Int)) = ((4:Nat):Int) from rfl,← Int.ofNat_tmod]
    have hq4:q % 4 < 4:=Nat.mod_lt _ (by omega)
    have e1:Tlb.at_ t.1 e q = if Tlb.hit t.1 e q (q % 4 * 2) then some (q % 4 * 2) else if Tlb.hit t.1 e q (q % 4 * 2 + 1) then some (q % 4 * 2 + 1) else none:=by
      unfold Tlb.at_; rw [if_neg k',hm,Int.toNat_natCast]
    refine Lp.intro (fun (w:Int) h=>∃ n:Nat,w = n∧n ≤ 2∧(∀ m,m < n→¬ Tlb.hit t.1 e q (q % 4 * 2 + m))∧aF [fx (some (b,0)) t] h) (fun (w:Int) _=>2 - w.toNat) ⟨0,rfl,by omega,by intro m hm; omega,pX hb st⟩ ?_
    rintro w h ⟨n,rfl,hn,hno,s1⟩
    unfold uO
    refine aY (fun k2=>?_) (fun k2=>?_)
    · have hlt:n < 2:=by have:=of_decide_eq_true k2; omega
      obtain ⟨b',hb',_,s2⟩:=nB s1
      cases hb'
      have hi:q % 4 * 2 + n < t.1.length:=by rw [hb]; omega
      have hw:IntKind.i64.wrap ((n:Int) + 1) = ((n + 1:Nat):Int):=by rw [bP (by omega) (by omega)]; rfl
      rw [hm]
      refine cE ⟨⟨by omega,by omega⟩,⟨by omega,by omega⟩,?_⟩
      have next:¬ Tlb.hit t.1 e q (q % 4 * 2 + n)→∀ h,aF [fx (some (b,0)) t] h →
          (∃ m:Nat,IntKind.i64.wrap ((n:Int) + 1) = m∧m ≤ 2∧(∀ k,k < m→¬ Tlb.hit t.1 e q (q % 4 * 2 + k))∧aF [fx (some (b,0)) t] h)∧2 - (IntKind.i64.wrap ((n:Int) + 1)).toNat < 2 - (n:Int).toNat:=by
        intro hnot h s
        rw [hw]
        refine ⟨⟨n + 1,rfl,hlt,fun k hk=>?_,s⟩,by simp; omega⟩
        by_cases hkn:k = n
        · subst hkn; exact hnot
        · exact hno k (by omega)
      refine ld_a (j:=0) (i:=q % 4 * 2 + n) (k:=0) t.1[q % 4 * 2 + n].fl.fEnv iN s2 rfl (by simp; omega) (aD hi) (c1 rfl rfl) ?_
      refine aY (fun k3=>?_) (fun k3=>?_)
      · refine ld_a (j:=0) (i:=q % 4 * 2 + n) (k:=1) t.1[q % 4 * 2 + n].fl.fPage iN s2 rfl (by simp; omega) (aD hi) (c1 rfl rfl) ?_
        unfold mZ
        refine aY (fun k4=>?_) (fun k4=>?_)
        · have hh:Tlb.hit t.1 e q (q % 4 * 2 + n):=by
            unfold Tlb.hit; rw [ln_get hi]; exact ⟨by simpa using k3,by simpa using k4⟩
          refine aZ ?_ s1
          rw [e1]
          have hn01:n = 0∨n = 1:=by omega
          rcases hn01 with rfl | rfl
          · rw [Nat.add_zero] at hh; rw [if_pos hh]; simp [xo,hm]; omega
          · have:=hno 0 (by omega); rw [Nat.add_zero] at this; rw [if_neg this,if_pos hh]; simp [xo,hm]; omega
        · exact next (by unfold Tlb.hit; rw [ln_get hi]; intro hh; simp [hh.2] at k4) h s1
      · unfold mZ
        refine dI rfl ?_
        exact next (by unfold Tlb.hit; rw [ln_get hi]; intro hh; simp [hh.1] at k3) h s1
    · have hn2:n = 2:=by have:=of_decide_eq_false k2; omega
      subst hn2
      refine aZ ?_ s1
      have h0:=hno 0 (by omega)
      have h1:=hno 1 (by omega)
      rw [Nat.add_zero] at h0
      rw [e1,if_neg h0,if_neg h1]
      rfl
theorem sp_tlb_Find (x:Ptr) (t:List TL × Int) (e p:Int):Sp Tryz.prog oY [pv x,.int .i64 e,.int .i64 p] fO [fx x t] (fun r=>pa_ (r = Tlb.find t.1 e p) [fx x t]):=by
  intro h s0
  obtain ⟨b,rfl,hb,st⟩:=nB s0
  refine sim_tlb_Tlb_Find _ _ _ ?_
  unfold sh_tlb_Tlb_Find
  refine cR [0] (sp_tlb_at b t e p hb) s0 rfl fun r h' s1=>?_
  obtain ⟨hr,s2⟩:=bu.1 s1
  unfold Tlb.find
  cases ho:Tlb.at_ t.1 e p with
  | none =>
    rw [ho] at hr; subst hr
    exact dZ rfl (aZ rfl s2)
  | some n =>
    rw [ho] at hr; subst hr
    have hn:n < t.1.length:=by rw [hb]; exact Tlb.at_lt ho
    obtain ⟨b',hb',_,s3⟩:=nB s2
    cases hb'
    refine dI rfl (cE ?_)
    refine ld_a (j:=0) (i:=n) (k:=0) t.1[n].fl iN s3 rfl (by simp) (aD hn) ?_ ?_
    · intro m v hv
      rw [Nat.zero_add]
      have:m < 4:=(List.getElem?_eq_some_iff.1 hv).1
      match m,this with
      | 0,_=>exact hv
      | 1,_=>exact hv
      | 2,_=>exact hv
      | 3,_=>exact hv
    · refine aZ ?_ (pX hb s3)
      show _ = ((Tlb.ln t.1 n).fl,true)
      rw [ln_get hn]
theorem sp_tlb_Flush (x:Ptr) (t:List TL × Int) (e p:Int):Sp Tryz.prog nt [pv x,.int .i64 e,.int .i64 p] aA [fx x t] (fun r=>pa_ (r = (Tlb.flush t e p).1) [fx x (Tlb.flush t e p).2]):=by
  intro h s0
  obtain ⟨b,rfl,hb,st⟩:=nB s0
  refine sim_tlb_Tlb_Flush _ _ _ ?_
  unfold vB
  refine cR [0] (sp_tlb_at b t e p hb) s0 rfl fun r h' s1=>?_
  obtain ⟨hr,s2⟩:=bu.1 s1
  cases ho:Tlb.at_ t.1 e p with
  | none =>
    rw [ho] at hr; subst hr
    have e1:Tlb.flush t e p = (false,t):=by unfold Tlb.flush; rw [ho]
    rw [e1]
    exact dZ rfl (aZ rfl s2)
  | some n =>
    rw [ho] at hr; subst hr
    have hn:n < t.1.length:=by rw [hb]; exact Tlb.at_lt ho
    have e1:Tlb.flush t e p = (true,t.1.set n { t.1[n] with fl:=dG },t.2):=by unfold Tlb.flush; rw [ho,← ln_get hn]
    rw [e1]
    obtain ⟨b',hb',_,s3⟩:=nB s2
    cases hb'
    refine dI rfl (cE ?_)
    refine st_a (j:=0) (i:=n) (k:=0) { t.1[n] with fl:=dG } iN s3 rfl (by simp) (aD hn) (by simp [am.C]) rfl fun h2 s4=>?_
    exact aZ rfl (pX (t:=(t.1.set n { t.1[n] with fl:=dG },t.2)) (by simpa using hb) s4)
theorem sp_tlb_Evict (x:Ptr) (t:List TL × Int) (s w:Int):Sp Tryz.prog rq [pv x,.int .i64 s,.int .i64 w] aA [fx x t] (fun r=>pa_ (r = (Tlb.evict t s w).1) [fx x (Tlb.evict t s w).2]):=by
  intro h s0
  obtain ⟨b,rfl,hb,st⟩:=nB s0
  refine sim_tlb_Tlb_Evict _ _ _ ?_
  unfold vC
  refine aY (fun k=>?_) (fun k=>?_)
  · have k':¬ (s < 0∨s ≥ 4∨w < 0∨w ≥ 2):=by simp at k; omega
    obtain ⟨i,rfl⟩:=Int.eq_ofNat_of_zero_le (show 0 ≤ s by omega)
    obtain ⟨j,rfl⟩:=Int.eq_ofNat_of_zero_le (show 0 ≤ w by omega)
    have hi:i * 2 + j < t.1.length:=by rw [hb]; omega
    refine cE ⟨⟨by omega,by omega⟩,⟨by omega,by omega⟩,?_⟩
    refine ld_a (j:=0) (i:=i * 2 + j) (k:=0) t.1[i * 2 + j].fl.fEnv iN st rfl (by simp; omega) (aD hi) (c1 rfl rfl) ?_
    have hat:Tlb.ln t.1 ((i:Int).toNat * 2 + (j:Int).toNat) = t.1[i * 2 + j]:=ln_get hi
    refine aY (fun k2=>?_) (fun k2=>?_)
    · have e1:Tlb.evict t i j = (false,t):=by unfold Tlb.evict; rw [if_neg k',hat,if_pos (by simpa using k2)]
      rw [e1]
      exact aZ rfl (pX hb st)
    · have e1:Tlb.evict t i j = (true,t.1.set (i * 2 + j) { t.1[i * 2 + j] with fl:=dG },t.2):=by unfold Tlb.evict; rw [if_neg k',hat,if_neg (by simpa using k2)]; rfl
      rw [e1]
      refine st_a (j:=0) (i:=i * 2 + j) (k:=0) { t.1[i * 2 + j] with fl:=dG } iN st rfl (by simp; omega) (aD hi) (by simp [am.C]) rfl fun h2 s4=>?_
      exact aZ rfl (pX (t:=(t.1.set (i * 2 + j) { t.1[i * 2 + j] with fl:=dG },t.2)) (by simpa using hb) s4)
  · have k':s < 0∨s ≥ 4∨w < 0∨w ≥ 2:=by simp at k; omega
    have e1:Tlb.evict t s w = (false,t):=if_pos k'
    rw [e1]
    exact aZ rfl (pX hb st)
namespace Tlb
def room (ls:List TL) (a:Nat):Nat :=
  if (ln ls a).fl.fEnv < 0 then a else if (ln ls (a + 1)).fl.fEnv < 0 then a + 1 else if (ln ls (a + 1)).fwhen < (ln ls a).fwhen then a + 1 else a
end Tlb
theorem sp_tlb_room (b:Nat) (t:List TL × Int) (s:Nat) (hs:s < 4) (hb:t.1.length = 8):Sp Tryz.prog tq [pv (some (b,0)),.int .i64 s] kg [fx (some (b,0)) t] (fun r=>pa_ (r = xo b (some (Tlb.room t.1 (s * 2)))) [fx (some (b,0)) t]):=by
  intro h s0
  refine sim_tlb_Tlb_room _ _ ?_
  unfold sh_tlb_Tlb_room
  have w1:IntKind.i64.wrap (((0:Nat):Int) + 1) = 1:=by rw [bP (by omega) (by omega)]; rfl
  have w2:IntKind.i64.wrap ((1:Int) + 1) = 2:=by rw [bP (by omega) (by omega)]; rfl
  have h0:s * 2 < t.1.length:=by omega
  have h1:s * 2 + 1 < t.1.length:=by omega
  have l0:=ln_get h0
  have l1:=ln_get h1
  refine Lp.intro (fun (z:Ptr × Int) h=>((z = (none,0))∨(z = (some (b,s * 2 * 5),1)∧¬ (t.1[s * 2]).fl.fEnv < 0)∨(z.2 = 2∧z.1 = xo b (some (Tlb.room t.1 (s * 2)))))∧aF [fx (some (b,0)) t] h) (fun (z:Ptr × Int) _=>2 - z.2.toNat) ⟨.inl rfl,s0⟩ ?_
  rintro ⟨z,i⟩ h ⟨hz,s1⟩
  obtain ⟨b',hb',_,s2⟩:=nB s1
  cases hb'
  unfold rl
  rcases hz with hz | ⟨hz,hne⟩ | ⟨hz1,hz2⟩
  · cases hz
    refine dZ rfl (cE ⟨⟨by omega,by omega⟩,⟨by omega,by omega⟩,?_⟩)
    refine ld_a (j:=0) (i:=s * 2) (k:=0) t.1[s * 2].fl.fEnv iN s2 rfl (by simp; omega) (aD h0) (c1 rfl rfl) ?_
    refine aY (fun k=>?_) (fun k=>?_)
    · have k':t.1[s * 2].fl.fEnv < 0:=by simpa using k
      refine aZ ?_ s1
      unfold Tlb.room
      rw [l0,if_pos k']
      simp [xo]; omega
    · have k':¬ t.1[s * 2].fl.fEnv < 0:=by simpa using k
      refine dZ rfl ?_
      refine ⟨⟨.inr (.inl ⟨?_,k'⟩),s1⟩,?_⟩
      · show (some (b,0 + 0 + (s:Int).toNat * 10 + (0:Int).toNat * 5),IntKind.i64.wrap ((0:Int) + 1)) = _
        have:IntKind.i64.wrap ((0:Int) + 1) = 1:=w1
        rw [this]
        simp; omega
      · have:IntKind.i64.wrap ((0:Int) + 1) = 1:=w1
        show 2 - (IntKind.i64.wrap ((0:Int) + 1)).toNat < _
        rw [this]; decide
  · cases hz
    refine dZ rfl (cE ⟨⟨by omega,by omega⟩,⟨by omega,by omega⟩,?_⟩)
    refine ld_a (j:=0) (i:=s * 2 + 1) (k:=0) t.1[s * 2 + 1].fl.fEnv iN s2 rfl (by simp; omega) (aD h1) (c1 rfl rfl) ?_
    refine aY (fun k=>?_) (fun k=>?_)
    · have k':t.1[s * 2 + 1].fl.fEnv < 0:=by simpa using k
      refine aZ ?_ s1
      unfold Tlb.room
      rw [l0,l1,if_neg hne,if_pos k']
      simp [xo]; omega
    · have k':¬ t.1[s * 2 + 1].fl.fEnv < 0:=by simpa using k
      refine dI rfl (cE ?_)
      refine ld_a (j:=0) (i:=s * 2 + 1) (k:=4) t.1[s * 2 + 1].fwhen iN s2 rfl (by simp; omega) (aD h1) (c1 rfl rfl) ?_
      refine ld_a (j:=0) (i:=s * 2) (k:=4) t.1[s * 2].fwhen iN s2 rfl (by simp) (aD h0) (c1 rfl rfl) ?_
      refine aY (fun k2=>?_) (fun k2=>?_)
      · have k2':t.1[s * 2 + 1].fwhen < t.1[s * 2].fwhen:=by simpa using k2
        refine ⟨⟨.inr (.inr ⟨w2,?_⟩),s1⟩,by show 2 - (IntKind.i64.wrap ((1:Int) + 1)).toNat < _; rw [w2]; simp⟩
        unfold Tlb.room
        rw [l0,l1,if_neg hne,if_neg k',if_pos k2']
        simp [xo]; omega
      · have k2':¬ t.1[s * 2 + 1].fwhen < t.1[s * 2].fwhen:=by simpa using k2
        refine ⟨⟨.inr (.inr ⟨w2,?_⟩),s1⟩,by show 2 - (IntKind.i64.wrap ((1:Int) + 1)).toNat < _; rw [w2]; simp⟩
        unfold Tlb.room
        rw [l0,l1,if_neg hne,if_neg k',if_neg k2']
        simp [xo]
  · simp only at hz1 hz2
    subst hz1
    exact dI rfl (aZ hz2 s1)
namespace Tlb
def bad (a:am):Prop:=a.fEnv < 0∨a.fEnv ≥ 4∨a.fPage < 0∨a.fPage ≥ 8∨a.fFrame < 0∨a.fFrame ≥ 16∨ch a.fRights = false
instance (a:am):Decidable (bad a):=by unfold bad; infer_instance
def place (ls:List TL) (a:am):Nat:=match at_ ls a.fEnv a.fPage with | some n=>n | none=>room ls ((a.fPage.tmod 4).toNat * 2)
def fill (t:List TL × Int) (a:am):Bool × List TL × Int :=
  if bad a then (false,t) else (true,t.1.set (place t.1 a) ⟨a,IntKind.i64.wrap (t.2 + 1)⟩,IntKind.i64.wrap (t.2 + 1))
def clr (c:TL):TL:={ c with fl:=dG }
def clear (t:List TL × Int):List TL × Int:=(t.1.map clr,t.2)
end Tlb
theorem tmod4 {p:Int} (h0:0 ≤ p):∃ q:Nat,p.tmod 4 = q∧q < 4:=by
  obtain ⟨q,rfl⟩:=Int.eq_ofNat_of_zero_le h0
  exact ⟨q % 4,by rw [show ((4:Int)) = ((4:Nat):Int) from rfl,← Int.ofNat_tmod],Nat.mod_lt _ (by omega)⟩
theorem room_lt (ls:List TL) (a:Nat):Tlb.room ls a ≤ a + 1:=by
  unfold Tlb.room; split <;> (try split) <;> (try split) <;> omega
theorem sp_tlb_Fill (x:Ptr) (t:List TL × Int) (a:am):Sp Tryz.prog oZ [pv x,.agg a.C.toArray] aA [fx x t] (fun r=>pa_ (r = (Tlb.fill t a).1) [fx x (Tlb.fill t a).2]):=by
  intro h s0
  obtain ⟨b,rfl,hb,st⟩:=nB s0
  refine sim_tlb_Tlb_Fill _ _ ?_
  unfold sh_tlb_Tlb_Fill
  refine aY (fun k=>?_) (fun k=>?_)
  · have k':Tlb.bad a:=by simpa [Tlb.bad,or_assoc] using k
    have e1:Tlb.fill t a = (false,t):=if_pos k'
    rw [e1]
    exact aZ rfl (pX hb st)
  · have k':¬ Tlb.bad a:=by
      unfold Tlb.bad
      simp at k
      obtain ⟨⟨⟨⟨⟨⟨c1,c2⟩,c3⟩,c4⟩,c5⟩,c6⟩,c7⟩:=k
      simp [c7]; omega
    have e1:Tlb.fill t a = (true,t.1.set (Tlb.place t.1 a) ⟨a,IntKind.i64.wrap (t.2 + 1)⟩,IntKind.i64.wrap (t.2 + 1)):=if_neg k'
    rw [e1]
    have fin:∀ (n:Nat) (h:Hp),n = Tlb.place t.1 a→n < 8→aF [fx (some (b,0)) t] h→kA (some (b,0)) a (fun r=>pa_ (r = true) [fx (some (b,0)) (t.1.set (Tlb.place t.1 a) ⟨a,IntKind.i64.wrap (t.2 + 1)⟩,IntKind.i64.wrap (t.2 + 1))]) (some (b,n * 5)) h:=by
      intro n h hn hlt s1
      obtain ⟨b',hb',_,s2⟩:=nB s1
      cases hb'
      have hn':n < t.1.length:=by omega
      have hfl:(t.1.flatMap cm.C).length = 40:=by rw [dR iN,hb]
      have lr:([]++(t.1.flatMap cm.C++[Value.int .i64 t.2]))[0 + 40]? = some (.int .i64 t.2):=by
        rw [List.nil_append,List.getElem?_append_right (by omega),hfl]; rfl
      unfold kA
      refine cE (bp t.2 s2 (i:=0) rfl rfl lr ?_)
      refine tT (i:=0) s2 rfl (by simp [hfl]) fun h3 s3=>?_
      have ew:wr ([]++(t.1.flatMap cm.C++[Value.int .i64 t.2])) (0 + 40) [.int .i64 (IntKind.i64.wrap (t.2 + 1))] = []++(t.1.flatMap cm.C++[Value.int .i64 (IntKind.i64.wrap (t.2 + 1))]):=by
        rw [List.nil_append,List.nil_append,show 0 + 40 = (t.1.flatMap cm.C).length + 0 from by rw [hfl],qF]; rfl
      have s4:aF [blk b qc ([]++(t.1.flatMap cm.C++[Value.int .i64 (IntKind.i64.wrap (t.2 + 1))]))] h3:=by rw [← ew]; exact s3
      have hcell2:([]++(t.1.flatMap cm.C++[Value.int .i64 (IntKind.i64.wrap (t.2 + 1))]))[0 + 40]? = some (.int .i64 (IntKind.i64.wrap (t.2 + 1))):=by
        rw [List.nil_append,List.getElem?_append_right (by omega),hfl]; rfl
      refine bp (IntKind.i64.wrap (t.2 + 1)) s4 (i:=0) rfl rfl hcell2 ?_
      refine cE ?_
      refine st_a (j:=0) (i:=n) (k:=0) (⟨a,IntKind.i64.wrap (t.2 + 1)⟩:TL) iN s4 rfl (by simp) (aD hn') (by simp [iN]) rfl fun h5 s5=>?_
      subst hn
      exact aZ rfl (pX (t:=(t.1.set (Tlb.place t.1 a) ⟨a,IntKind.i64.wrap (t.2 + 1)⟩,IntKind.i64.wrap (t.2 + 1))) (by simpa using hb) s5)
    refine cR [0] (sp_tlb_at b t a.fEnv a.fPage hb) s0 rfl fun r h' s1=>?_
    obtain ⟨hr,s2⟩:=bu.1 s1
    cases ho:Tlb.at_ t.1 a.fEnv a.fPage with
    | none =>
      rw [ho] at hr; subst hr
      refine dZ rfl ?_
      obtain ⟨q,hq,hq4⟩:=tmod4 (p:=a.fPage) (by unfold Tlb.bad at k'; omega)
      rw [hq]
      refine cR [0] (sp_tlb_room b t q hq4 hb) s2 rfl fun r h' s3=>?_
      obtain ⟨hr,s4⟩:=bu.1 s3
      subst hr
      have hp:Tlb.room t.1 (q * 2) = Tlb.place t.1 a:=by unfold Tlb.place; rw [ho,hq,Int.toNat_natCast]
      exact fin _ _ hp (by have:=room_lt t.1 (q * 2); omega) s4
    | some n =>
      rw [ho] at hr; subst hr
      refine dI rfl ?_
      exact fin _ _ (by unfold Tlb.place; rw [ho]) (Tlb.at_lt ho) s2
theorem tlb_clear_take (ls:List TL) (n:Nat) (hn:n < ls.length):(((ls.take n).map Tlb.clr)++ls.drop n).set n (Tlb.clr ls[n]) = ((ls.take (n + 1)).map Tlb.clr)++ls.drop (n + 1):=by
  have h1:ls.drop n = ls[n]::ls.drop (n + 1):=List.drop_eq_getElem_cons hn
  have h2:ls.take (n + 1) = ls.take n++[ls[n]]:=by simp
  rw [h2,List.map_append,List.set_append_right _ _ (by simp; omega)]
  have:n - ((ls.take n).map Tlb.clr).length = 0:=by simp; omega
  rw [this,h1,List.append_assoc]
  rfl
theorem sp_tlb_Clear (x:Ptr) (t:List TL × Int):Sp Tryz.prog rr [pv x] R_ [fx x t] (fun _=>aF [fx x (Tlb.clear t)]):=by
  intro h s0
  obtain ⟨b,rfl,hb,st⟩:=nB s0
  refine sim_tlb_Tlb_Clear _ ?_
  unfold vD
  refine dI rfl ?_
  have mid:∀ n:Nat,n ≤ 8→((((t.1.take n).map Tlb.clr)++t.1.drop n)).length = 8:=by intro n hn; simp; omega
  refine Lp.intro (fun (i:Int) h=>∃ n:Nat,i = n∧n ≤ 4∧aF [fx (some (b,0)) (((t.1.take (n * 2)).map Tlb.clr)++t.1.drop (n * 2),t.2)] h) (fun (i:Int) _=>4 - i.toNat) ⟨0,rfl,by omega,by simpa using pX hb st⟩ ?_
  rintro i h ⟨n,rfl,hn,s1⟩
  unfold qb
  refine aY (fun k=>?_) (fun k=>?_)
  · have hlt:n < 4:=by have:=of_decide_eq_true k; omega
    refine Lp.intro (fun (j:Int) h=>∃ m:Nat,j = m∧m ≤ 2∧aF [fx (some (b,0)) (((t.1.take (n * 2 + m)).map Tlb.clr)++t.1.drop (n * 2 + m),t.2)] h) (fun (j:Int) _=>2 - j.toNat) ⟨0,rfl,by omega,s1⟩ ?_
    rintro j h ⟨m,rfl,hm,s2⟩
    unfold qa
    refine aY (fun k2=>?_) (fun k2=>?_)
    · have hlt2:m < 2:=by have:=of_decide_eq_true k2; omega
      have hw:IntKind.i64.wrap ((m:Int) + 1) = ((m + 1:Nat):Int):=by rw [bP (by omega) (by omega)]; rfl
      have hi:n * 2 + m < t.1.length:=by omega
      obtain ⟨b',hb',_,s3⟩:=nB s2
      cases hb'
      refine cE ⟨⟨by omega,by omega⟩,⟨by omega,by omega⟩,?_⟩
      have hget:(((t.1.take (n * 2 + m)).map Tlb.clr)++t.1.drop (n * 2 + m))[n * 2 + m]? = some t.1[n * 2 + m]:=by
        rw [List.getElem?_append_right (by simp; omega)]
        have:n * 2 + m - ((t.1.take (n * 2 + m)).map Tlb.clr).length = 0:=by simp; omega
        rw [this,List.getElem?_drop]
        exact aD hi
      refine st_a (j:=0) (i:=n * 2 + m) (k:=0) (Tlb.clr t.1[n * 2 + m]) iN s3 rfl (by simp; omega) hget (by simp [am.C]) rfl fun h2 s4=>?_
      rw [hw]
      refine ⟨⟨m + 1,rfl,hlt2,?_⟩,by simp; omega⟩
      have:=tlb_clear_take t.1 (n * 2 + m) hi
      have s5:=pX (t:=((((t.1.take (n * 2 + m)).map Tlb.clr)++t.1.drop (n * 2 + m)).set (n * 2 + m) (Tlb.clr t.1[n * 2 + m]),t.2)) (by simp; omega) s4
      rw [this] at s5
      exact s5
    · have hm2:m = 2:=by have:=of_decide_eq_false k2; omega
      subst hm2
      have hw:IntKind.i64.wrap ((n:Int) + 1) = ((n + 1:Nat):Int):=by rw [bP (by omega) (by omega)]; rfl
      rw [hw]
      exact ⟨⟨n + 1,rfl,hlt,by rw [show (n + 1) * 2 = n * 2 + 2 from by omega]; exact s2⟩,by simp; omega⟩
  · have hn4:n = 4:=by have:=of_decide_eq_false k; omega
    subst hn4
    have e:(((t.1.take (4 * 2)).map Tlb.clr)++t.1.drop (4 * 2),t.2) = Tlb.clear t:=by
      unfold Tlb.clear
      rw [show 4 * 2 = t.1.length from by rw [hb],List.take_length,List.drop_length,List.append_nil]
    rw [e] at s1
    exact s1
theorem tlb_new_run (K:Value→Hp→Prop) (h:Hp):hp Tryz.prog (Instr.build qc #[]) K h = K (.agg (((List.replicate 8 Tlb.line0).flatMap cm.C++[Value.int .i64 0])).toArray) h:=by kernel_rfl
abbrev tlb0:List TL × Int:=(List.replicate 8 ⟨⟨-1,0,0,0⟩,0⟩,0)
theorem wB:Sp Tryz.prog iS [] gN [] (fun r=>aF [fx r tlb0]):=by
  intro h st
  refine sim_tlb_New ?_
  unfold sh_tlb_New
  refine ⟨?_⟩
  rw [tlb_new_run]
  refine ⟨_,rfl,?_⟩
  refine pD st fun b h' s1=>?_
  have s2:=pX (t:=(List.replicate 8 Tlb.line0,0)) rfl s1
  refine cR [0] (sp_tlb_Clear (some (b,0)) _) s2 rfl fun r h' s3=>?_
  exact dE s3
abbrev vL (s:Sl) (xs:List am):As:=vec t_api_Line 4 am.C s xs
theorem line_len (p:am):p.C.length = 4:=rfl
theorem line_one (p:am):dL p.C = true:=rfl
def Tlb.lines (t:List TL × Int):List am:=t.1.map (·.fl)
theorem sp_tlb_Lines (x:Ptr) (t:List TL × Int):Sp Tryz.prog rp [pv x] rh [fx x t] (fun r=>aF [vL r (Tlb.lines t),fx x t]):=by
  intro h s0
  obtain ⟨b,rfl,hb,st⟩:=nB s0
  refine sim_tlb_Tlb_Lines _ ?_
  unfold vz
  refine dI rfl ?_
  refine Lp.intro (fun (z:Sl × Int) h=>∃ n:Nat,z.2 = n∧n ≤ 4∧aF [vL z.1 ((t.1.take (n * 2)).map (·.fl)),fx (some (b,0)) t] h) (fun (z:Sl × Int) _=>4 - z.2.toNat) ⟨0,rfl,by omega,fR (pX hb st)⟩ ?_
  rintro ⟨z,i⟩ h ⟨n,rfl,hn,s1⟩
  unfold pZ
  refine aY (fun k=>?_) (fun k=>?_)
  · have hlt:n < 4:=by have:=of_decide_eq_true k; omega
    have h0:n * 2 < t.1.length:=by omega
    have h1:n * 2 + 1 < t.1.length:=by omega
    obtain ⟨b',hb',_,s2⟩:=nB (bc [1] s1 rfl)
    cases hb'
    refine cE ⟨⟨by omega,by omega⟩,?_⟩
    refine ld_s (⟨t.1[n * 2],t.1[n * 2 + 1]⟩:jr) s2 (i:=0) rfl ?_ ?_
    · intro j v hv
      have hfl:(t.1.flatMap cm.C).length = 40:=by rw [dR iN,hb]
      have hsp:jr.C ⟨t.1[n * 2],t.1[n * 2 + 1]⟩ = (t.1[n * 2]).C++(t.1[n * 2 + 1]).C:=rfl
      rw [hsp] at hv
      have hj:j < 10:=by have:=(List.getElem?_eq_some_iff.1 hv).1; simpa [iN] using this
      have key:(t.1.flatMap cm.C)[n * 10 + j]? = some v:=by
        by_cases h5:j < 5
        · rw [List.getElem?_append_left (by simpa [iN] using h5)] at hv
          have:=tF iN t.1 (n * 2) j _ v (aD h0) hv
          rw [show n * 10 + j = n * 2 * 5 + j from by omega]; exact this
        · rw [List.getElem?_append_right (by simp [iN]; omega),iN] at hv
          have:=tF iN t.1 (n * 2 + 1) (j - 5) _ v (aD h1) hv
          rw [show n * 10 + j = (n * 2 + 1) * 5 + (j - 5) from by omega]; exact this
      have hlt':=(List.getElem?_eq_some_iff.1 key).1
      rw [List.nil_append,show (b,0).2 + 0 + (n:Int).toNat * 10 + j = n * 10 + j from by simp,List.getElem?_append_left hlt']
      exact key
    · refine Lp.intro (fun (z:Sl × Int) h=>∃ m:Nat,z.2 = m∧m ≤ 2∧aF [vL z.1 ((t.1.take (n * 2 + m)).map (·.fl)),fx (some (b,0)) t] h) (fun (z:Sl × Int) _=>2 - z.2.toNat) ⟨0,rfl,by omega,s1⟩ ?_
      rintro ⟨y,j⟩ h ⟨m,rfl,hm,s3⟩
      unfold pY
      refine aY (fun k2=>?_) (fun k2=>?_)
      · have hlt2:m < 2:=by have:=of_decide_eq_true k2; omega
        have hw:IntKind.i64.wrap ((m:Int) + 1) = ((m + 1:Nat):Int):=by rw [bP (by omega) (by omega)]; rfl
        have hi:n * 2 + m < t.1.length:=by omega
        have hget:[t.1[n * 2],t.1[n * 2 + 1]][m]? = some t.1[n * 2 + m]:=by
          have:m = 0∨m = 1:=by omega
          rcases this with rfl | rfl <;> rfl
        refine index_v (enc:=cm.C) (m:=5) (xs:=[t.1[n * 2],t.1[n * 2 + 1]]) arn_2_tlb_line age_2_tlb_line iN (fun _=>rfl) rfl hget ?_
        have hlen:(((t.1.take (n * 2 + m)).map (·.fl)):List am).length ≤ 8:=by simp; omega
        refine kM (τ:=am) (i:=0) (enc:=am.C) (val:=fun x=>.agg x.C.toArray) el_Sapi_Line line_len line_one (fun _=>rfl) (by omega) rfl rfl s3 rfl (by omega) (by omega) fun v h' s4=>?_
        rw [hw]
        refine ⟨⟨m + 1,rfl,hlt2,?_⟩,by simp; omega⟩
        have ht:t.1.take (n * 2 + (m + 1)) = t.1.take (n * 2 + m)++[t.1[n * 2 + m]]:=by rw [← Nat.add_assoc]; simp
        rw [ht,List.map_append]
        exact s4
      · have hm2:m = 2:=by have:=of_decide_eq_false k2; omega
        subst hm2
        have hw:IntKind.i64.wrap ((n:Int) + 1) = ((n + 1:Nat):Int):=by rw [bP (by omega) (by omega)]; rfl
        rw [hw]
        exact ⟨⟨n + 1,rfl,hlt,by rw [show (n + 1) * 2 = n * 2 + 2 from by omega]; exact s3⟩,by simp; omega⟩
  · have hn4:n = 4:=by have:=of_decide_eq_false k; omega
    subst hn4
    rw [show t.1.take (4 * 2) = t.1 from by rw [show 4 * 2 = t.1.length from by rw [hb]]; exact List.take_length] at s1
    exact s1
end Go.Proofs.YtemoifebbhoinaaGreatDoor
namespace Go.Proofs.YtemoifebbhoinaaGreatDoor
open Go Mb
set_option linter.unusedVariables false
def sh_user_Walk (a0:Ptr) (a1:Ptr) (a2:Int) (a3:Int) (a4:Int) (K:(am × Bool)→Hp→Prop):Hp→Prop:=cl Tryz.prog oY [(pv a0),(.int .i64 a2),(.int .i64 a3)] fO fun r21=>br (r21.2 && (dw r21.1.fRights a4)) ( K (r21.1,true)) ( cl Tryz.prog fd [(pv a1),(.int .i64 a3)] cF fun r35=>br (!(dw r35.1.fRights a4)) ( cl Tryz.prog nt [(pv a0),(.int .i64 a2),(.int .i64 a3)] aA fun r46=>K ((⟨0,0,0,0⟩:am),false)) ( cl Tryz.prog oZ [(pv a0),(.agg (am.C (⟨a2,a3,r35.1.fFrame,r35.1.fRights⟩:am)).toArray)] aA fun r57=>K ((⟨a2,a3,r35.1.fFrame,r35.1.fRights⟩:am),true)))
theorem sim_user_Walk (a0:Ptr) (a1:Ptr) (a2:Int) (a3:Int) (a4:Int) {K:(am × Bool)→Hp→Prop} {h:Hp} (H:sh_user_Walk a0 a1 a2 a3 a4 K h):Ct Tryz.prog uC #[(pv a0),(pv a1),(.int .i64 a2),(.int .i64 a3),(.int .i64 a4)] h fun v h'=>∃ r,v = fO r∧K r h':=aw [(pv a0),(pv a1),(.int .i64 a2),(.int .i64 a3),(.int .i64 a4)] Tryz.func113 c c c fun _=>M<|aa<|aP (l:=am.C (⟨0,0,0,0⟩:am)) lc c c fun b10=>O c<|ak<|M<|J c<|J c<|J c<|aa<|F H en_157 fun r21 _ H1=>J c<|p (aj c c)<|p (aj c c)<|aa<|aP (l:=am.C (⟨0,0,0,0⟩:am)) lc c c fun b12=>aa<|aR (k:=0) (vs:=am.C r21.1) fD c c c c c c c<|O c<|M<|J c<|J c<|V c c (ay _) (fun g2=>wv<|ae rd c)<|V c c (ay _) (fun g3=>cv<|ba (k:=0) aS (az c g3) c c)<|V c c (ay _) (fun g4=>wv<|ag c)<|dc (vs:=[(.int .i64 r21.1.fRights),(.int .i64 a4)]) c c c (ay _) (fun g5=>bv<|ke r21.1.fRights a4 _) en_158 (fun g5=>aT (az c g5)<|aT (az c g5) bW) c<|p (bO c c)<|ad<|av c H1 (fun k6 H7=>M<|bf (bE (k:=0) ig c c c c) c<|aa<|aR (k:=1) (vs:=am.C r21.1) fD c c c c c c c<|O c<|ah<|bA (bV c (bF (k:=1) c ig c c)<|cf c) ⟨(r21.1,true),c,H7⟩) fun k6 H7=>an<|M<|J c<|J c<|aa<|F H7 en_135 fun r35 _ H8=>J c<|p (aj c c)<|p (aj c c)<|aa<|aP (l:=al.C (⟨0,0,0⟩:al)) gg c c fun b14=>aa<|aR (k:=0) (vs:=al.C r35.1) dW c c c c c c c<|O c<|ak<|M<|p (ae eR c)<|bf (ba (k:=0) aS c c c) c<|J c<|aa<|cK (vs:=[(.int .i64 r35.1.fRights),(.int .i64 a4)]) (bv<|ke r35.1.fRights a4 _) en_158 c c<|p (ct c)<|ad<|av c H8 (fun k9 H10=>M<|J c<|J c<|J c<|aa<|F H10 en_117 fun r46 _ H11=>ad<|M<|p (bd (vs:=[]) c lW)<|aa<|aR (k:=2) (vs:=am.C (⟨0,0,0,0⟩:am)) fD c c c c c c c<|O c<|ah<|bA (bV c (bF (k:=2) c ig c c)<|cf c) ⟨((⟨0,0,0,0⟩:am),false),c,H11⟩) fun k9 H10=>an<|M<|J c<|J c<|p (ae rc c)<|bf (ba (k:=0) aS c c c) c<|p (ae eR c)<|bf (ba (k:=0) aS c c c) c<|p (bd c<|wq a2 a3 r35.1.fFrame r35.1.fRights)<|aa<|aP (l:=am.C (⟨0,0,0,0⟩:am)) lc c c fun b16=>aa<|aR (k:=0) (vs:=am.C (⟨a2,a3,r35.1.fFrame,r35.1.fRights⟩:am)) fD c c c c c c c<|ad<|M<|J c<|bf (bE (k:=0) ig c c c c) c<|aa<|F H10 en_159 fun r57 _ H12=>ad<|M<|bf (bE (k:=0) ig c c c c) c<|aa<|aR (k:=3) (vs:=am.C (⟨a2,a3,r35.1.fFrame,r35.1.fRights⟩:am)) fD c c c c c c c<|O c<|ah<|bA (bV c (bF (k:=3) c ig c c)<|cf c) ⟨((⟨a2,a3,r35.1.fFrame,r35.1.fRights⟩:am),true),c,H12⟩
def sh_user_touch (a0:Ptr) (a1:Int) (a2:ai) (K:ac→Hp→Prop):Hp→Prop:=br ((IntKind.i64.wrap a2.e0) == 20) ( cl Tryz.prog iy [(pv a0),(.int .i64 a1),(.int .i64 (IntKind.i64.wrap a2.e2))] bM fun r21=>K (⟨0,r21.1⟩:ac)) ( br ((IntKind.i64.wrap a2.e0) == 21) ( cl Tryz.prog fL [(pv a0),(.int .i64 a1),(.int .i64 (IntKind.i64.wrap a2.e2)),(.int .u64 a2.e3)] aA fun r31=>K (⟨0,0⟩:ac)) ( br ((IntKind.i64.wrap a2.e0) == 22) ( cl Tryz.prog qy [(pv a0),(.int .i64 a1),(.int .i64 (IntKind.i64.wrap a2.e2)),(.int .u64 a2.e3),(.int .u64 a2.e4)] bM fun r42=>K (⟨0,r42.1⟩:ac)) ( br ((IntKind.i64.wrap a2.e0) == 23) ( cl Tryz.prog qz [(pv a0),(.int .i64 a1),(.int .i64 (IntKind.i64.wrap a2.e2)),(.int .u64 a2.e3)] bM fun r53=>K (⟨0,r53.1⟩:ac)) ( K (⟨0,0⟩:ac)))))
theorem sim_user_touch (a0:Ptr) (a1:Int) (a2:ai) {K:ac→Hp→Prop} {h:Hp} (H:sh_user_touch a0 a1 a2 K h):Ct Tryz.prog xg #[(pv a0),(.int .i64 a1),(.agg (ai.C a2).toArray)] h fun v h'=>∃ r,v = hU r∧K r h':=aw [(pv a0),(.int .i64 a1),(.agg (ai.C a2).toArray)] Tryz.func185 c c c fun _=>M<|aa<|cA (l:=ai.C a2) c c c fun b5=>aa<|aP (l:=ac.C (⟨0,0⟩:ac)) di c c fun b6=>ad<|M<|p (bw dk c c (by decide))<|bf (ba (k:=1) cy c c c) c<|p (eB ⟨_,Tryz.underlying22⟩ Tryz.underlying3 c)<|O c<|M<|O c<|ak<|M<|p (bw dk c c (by decide))<|bf (ba (k:=1) cy c c c) c<|p (eB ⟨_,Tryz.underlying22⟩ Tryz.underlying3 c)<|ad<|ax<|M<|p (bH c c)<|O c<|av c H (fun k1 H2=>ap<|J c<|J c<|J c<|aa<|F H2 en_161 fun r21 _ H3=>J c<|p (aj c c)<|p (aj c c)<|O c<|M<|J c<|p (bd c<|ky r21.1)<|aa<|aR (k:=0) (vs:=ac.C (⟨0,r21.1⟩:ac)) bS c c c c c c c<|ad<|ah<|bA (mI c<|bF (k:=0) c cH c c) ⟨(⟨0,r21.1⟩:ac),c,H3⟩) fun k1 H2=>M<|p (bH c c)<|O c<|av c H2 (fun k4 H5=>ap<|J c<|J c<|J c<|p (bw dk c c (by decide))<|bf (ba (k:=1) cy c c c) c<|aa<|F H5 en_162 fun r31 _ H6=>ad<|M<|J c<|p (bd c<|ky 0)<|aa<|aR (k:=0) (vs:=ac.C (⟨0,0⟩:ac)) bS c c c c c c c<|ad<|ah<|bA (mI c<|bF (k:=0) c cH c c) ⟨(⟨0,0⟩:ac),c,H6⟩) fun k4 H5=>M<|p (bH c c)<|O c<|av c H5 (fun k7 H8=>ap<|J c<|J c<|J c<|p (bw dk c c (by decide))<|bf (ba (k:=1) cy c c c) c<|p (bw dk c c (by decide))<|bf (ba (k:=1) cy c c c) c<|aa<|F H8 en_163 fun r42 _ H9=>J c<|p (aj c c)<|p (aj c c)<|O c<|M<|J c<|p (bd c<|ky r42.1)<|aa<|aR (k:=0) (vs:=ac.C (⟨0,r42.1⟩:ac)) bS c c c c c c c<|ad<|ah<|bA (mI c<|bF (k:=0) c cH c c) ⟨(⟨0,r42.1⟩:ac),c,H9⟩) fun k7 H8=>M<|p (bH c c)<|O c<|av c H8 (fun k10 H11=>ap<|J c<|J c<|J c<|p (bw dk c c (by decide))<|bf (ba (k:=1) cy c c c) c<|aa<|F H11 en_164 fun r53 _ H12=>J c<|p (aj c c)<|p (aj c c)<|O c<|M<|J c<|p (bd c<|ky r53.1)<|aa<|aR (k:=0) (vs:=ac.C (⟨0,r53.1⟩:ac)) bS c c c c c c c<|ad<|ah<|bA (mI c<|bF (k:=0) c cH c c) ⟨(⟨0,r53.1⟩:ac),c,H12⟩) fun k10 H11=>an<|M<|J c<|p (bd c<|ky 0)<|aa<|aR (k:=0) (vs:=ac.C (⟨0,0⟩:ac)) bS c c c c c c c<|ad<|ah<|bA (mI c<|bF (k:=0) c cH c c) ⟨(⟨0,0⟩:ac),c,H11⟩
def pW (a0:Ptr) (a1:Ptr) (a2:Ptr) (a3:Int) (a4:ai) (K:(ac × am)→Hp→Prop) (s2:Int):Hp→Prop:=br (s2 != 0) ( K ((⟨s2,0⟩:ac),(⟨0,0,0,0⟩:am))) ( cl Tryz.prog uC [(pv a0),(pv a1),(.int .i64 a3),(.int .i64 (IntKind.i64.wrap a4.e1)),(.int .i64 ((aE a4).1))] fO fun r48=>br (!r48.2) ( K ((⟨7,0⟩:ac),(⟨0,0,0,0⟩:am))) ( cl Tryz.prog xg [(pv a2),(.int .i64 r48.1.fFrame),(.agg (ai.C a4).toArray)] hU fun r59=>K (r59,r48.1)))
def sh_user_Do (a0:Ptr) (a1:Ptr) (a2:Ptr) (a3:Int) (a4:ai) (K:(ac × am)→Hp→Prop):Hp→Prop:=cl Tryz.prog gY [(.agg (ai.C a4).toArray),(.int .i64 4)] bi fun r18=>br ((decide (a3 < 0)) || (decide (a3 ≥ 4))) ( pW a0 a1 a2 a3 a4 K 10) ( br (!(cO ((aE a4).1))) ( pW a0 a1 a2 a3 a4 K 1) ( pW a0 a1 a2 a3 a4 K r18))
theorem sim_user_Do (a0:Ptr) (a1:Ptr) (a2:Ptr) (a3:Int) (a4:ai) {K:(ac × am)→Hp→Prop} {h:Hp} (H:sh_user_Do a0 a1 a2 a3 a4 K h):Ct Tryz.prog n_user_Do #[(pv a0),(pv a1),(pv a2),(.int .i64 a3),(.agg (ai.C a4).toArray)] h fun v h'=>∃ r,v = eP r∧K r h':=aw [(pv a0),(pv a1),(pv a2),(.int .i64 a3),(.agg (ai.C a4).toArray)] Tryz.func144 c c c fun _=>M<|aa<|cA (l:=ai.C a4) c c c fun b9=>aa<|aP (l:=ac.C (⟨0,0⟩:ac)) di c c fun b10=>aa<|aP (l:=am.C (⟨0,0,0,0⟩:am)) lc c c fun b11=>ad<|M<|bf (bE (k:=2) fy c c c c) c<|aa<|F H en_110 fun r18 _ H1=>O c<|M<|bf (bE (k:=2) fy c c c c) c<|aa<|cK (vs:=[(.agg (ai.C a4).toArray)]) (bv<|kx a4 _) en_63 c c<|J c<|p (aj c c)<|p (aj c c)<|p (ar c)<|O c<|eG (pW a0 a1 a2 a3 a4 K) (fun s2=>[(0,(pv a0)),(1,(pv a1)),(2,(pv a2)),(3,(.int .i64 a3)),(9,(.pointer (some ⟨b9,0,none⟩))),(10,(.pointer (some ⟨b10,0,none⟩))),(11,(.pointer (some ⟨b11,0,none⟩))),(12,(.int .i64 s2)),(13,(.int .i64 ((aE a4).1)))]) (fun s2=>[bx b11 54 (am.C (⟨0,0,0,0⟩:am)),bx b10 30 (ac.C (⟨0,0⟩:ac)),bx b9 34 (ai.C a4)]) (ax<|M<|J c<|p (cq c c)<|J c<|V c c (aG _) (fun g10=>wv<|ag c)<|V c c (aG _) (fun g11=>wv<|ij (az c g11) c)<|p (cZ c c)<|O c<|av c H1 (fun k12 H13=>ap<|O c<|cz 10 H13 (.cons c<|.cons c<|.cons c<|.cons c<|.cons c<|.cons c<|.cons c<|.cons c<|.cons c<|.nil _)<|.cons_cons _<|.cons_cons _<|.cons_cons _ .slnil) fun k12 H13=>M<|J c<|aa<|cK (vs:=[(.int .i64 ((aE a4).1))]) (bv<|sB (aE a4).1 _) en_64 c c<|p (ct c)<|O c<|av c H13 (fun k14 H15=>ap<|O c<|cz 1 H15 (.cons c<|.cons c<|.cons c<|.cons c<|.cons c<|.cons c<|.cons c<|.cons c<|.cons c<|.nil _)<|.cons_cons _<|.cons_cons _<|.cons_cons _ .slnil) fun k14 H15=>an<|cz r18 H15 (.cons c<|.cons c<|.cons c<|.cons c<|.cons c<|.cons c<|.cons c<|.cons c<|.cons c<|.nil _)<|.cons_cons _<|.cons_cons _<|.cons_cons _ .slnil) fun s2 _ H3=>ak<|M<|J c<|p (qH c c)<|ad<|av c H3 (fun k4 H5=>M<|J c<|p (bd c<|jy s2)<|p (bd (vs:=[]) c lW)<|aa<|aR (k:=1) (vs:=ac.C (⟨s2,0⟩:ac)) bS c c c c c c c<|aa<|aR (k:=0) (vs:=am.C (⟨0,0,0,0⟩:am)) fD c c c c c c c<|ad<|ah<|bA (bV c (bF (k:=1) c cH c c)<|bF (k:=0) c ig c c) ⟨((⟨s2,0⟩:ac),(⟨0,0,0,0⟩:am)),c,H5⟩) fun k4 H5=>an<|M<|J c<|J c<|J c<|p (bw dk c c (by decide))<|bf (ba (k:=2) cy c c c) c<|p (eB ⟨_,Tryz.underlying22⟩ Tryz.underlying3 c)<|J c<|aa<|F H5 en_113 fun r48 _ H6=>J c<|p (aj c c)<|p (aj c c)<|aa<|aP (l:=am.C (⟨0,0,0,0⟩:am)) lc c c fun b15=>aa<|aR (k:=0) (vs:=am.C r48.1) fD c c c c c c c<|O c<|ak<|M<|J c<|p (ct c)<|ad<|av c H6 (fun k7 H8=>M<|p (bd c<|jy 7)<|p (bd (vs:=[]) c lW)<|aa<|aR (k:=2) (vs:=ac.C (⟨7,0⟩:ac)) bS c c c c c c c<|aa<|aR (k:=1) (vs:=am.C (⟨0,0,0,0⟩:am)) fD c c c c c c c<|ad<|ah<|bA (bV c (bF (k:=2) c cH c c)<|bF (k:=1) c ig c c) ⟨((⟨7,0⟩:ac),(⟨0,0,0,0⟩:am)),c,H8⟩) fun k7 H8=>an<|ak<|bm (n:=8) [bx b15 54 (am.C r48.1),bx b9 34 (ai.C a4)] cn c (.cons_cons _<|.cons _<|.cons _<|.cons_cons _ .slnil)<|U 0 c (ag c)<|U 1 c (ae lR c)<|z_E 2 c (cx (k:=0) aS c c c)<|z_E 3 c (eA (k:=1) fy c c c c)<|z_E 5 c (eA (k:=0) ig c c c c)<|R 4 c<|F H8 en_185 fun r59 _ H9=>⟨.cons_cons _<|.cons _<|.cons _<|.cons_cons _ .slnil,R 6 c<|aR (k:=2) (vs:=ac.C r59) bS c c c c c c c ⟨.cons_cons _<|.cons _<|.cons _<|.cons_cons _ .slnil,R 7 c<|aR (k:=1) (vs:=am.C r48.1) fD c c c c c c c ⟨.cons_cons _<|.cons _<|.cons _<|.cons_cons _ .slnil,aO (by kernel_rfl)<|ah<|bA (bV c (bF (k:=2) c cH c c)<|bF (k:=1) c ig c c) ⟨(r59,r48.1),c,H9⟩⟩⟩⟩
end Go.Proofs.YtemoifebbhoinaaGreatDoor
namespace Go.Proofs.YtemoifebbhoinaaGreatDoor
open Go Mb
abbrev mE:=am
abbrev Buf:=List TL × Int
abbrev kV:mE:=⟨0,0,0,0⟩
namespace User
def walk (b:Buf) (t:List Pte) (e pg kind:Int):(mE × Bool) × Buf :=
  if (Tlb.find b.1 e pg).2 = true∧dw (Tlb.find b.1 e pg).1.fRights kind = true then (((Tlb.find b.1 e pg).1,true),b)
  else if dw (Table.get t pg).1.fRights kind = false then ((kV,false),(Tlb.flush b e pg).2)
  else ((⟨e,pg,(Table.get t pg).1.fFrame,(Table.get t pg).1.fRights⟩,true),(Tlb.fill b ⟨e,pg,(Table.get t pg).1.fFrame,(Table.get t pg).1.fRights⟩).2)
def touch (m:List (List Int)) (f:Int) (c:dv):ac × List (List Int) :=
  if IntKind.i64.wrap c.e0 = 20 then (⟨0,(Mem.load m f (IntKind.i64.wrap c.e2)).1⟩,m)
  else if IntKind.i64.wrap c.e0 = 21 then (⟨0,0⟩,(Mem.store m f (IntKind.i64.wrap c.e2) c.e3).2)
  else if IntKind.i64.wrap c.e0 = 22 then (⟨0,(Mem.cas m f (IntKind.i64.wrap c.e2) c.e3 c.e4).1.1⟩,(Mem.cas m f (IntKind.i64.wrap c.e2) c.e3 c.e4).2)
  else if IntKind.i64.wrap c.e0 = 23 then (⟨0,(Mem.add m f (IntKind.i64.wrap c.e2) c.e3).1.1⟩,(Mem.add m f (IntKind.i64.wrap c.e2) c.e3).2)
  else (⟨0,0⟩,m)
def bad (e:Int) (c:dv):Int:=if e < 0∨e ≥ 4 then 10 else if cO (aE c).1 = false then 1 else Word.check c 4
def do_ (b:Buf) (t:List Pte) (m:List (List Int)) (e:Int) (c:dv):(ac × mE) × Buf × List (List Int) :=
  if bad e c ≠ 0 then ((⟨bad e c,0⟩,kV),b,m)
  else if (walk b t e (IntKind.i64.wrap c.e1) (aE c).1).1.2 = false then ((⟨7,0⟩,kV),(walk b t e (IntKind.i64.wrap c.e1) (aE c).1).2,m)
  else (((touch m (walk b t e (IntKind.i64.wrap c.e1) (aE c).1).1.1.fFrame c).1,(walk b t e (IntKind.i64.wrap c.e1) (aE c).1).1.1),(walk b t e (IntKind.i64.wrap c.e1) (aE c).1).2,(touch m (walk b t e (IntKind.i64.wrap c.e1) (aE c).1).1.1.fFrame c).2)
end User
theorem sp_user_Walk (x y:Ptr) (b:Buf) (t:List Pte) (e pg kind:Int):Sp Tryz.prog uC [pv x,pv y,.int .i64 e,.int .i64 pg,.int .i64 kind] fO [fx x b,cY y t] (fun r=>pa_ (r = (User.walk b t e pg kind).1) [fx x (User.walk b t e pg kind).2,cY y t]):=by
  intro h s0
  refine sim_user_Walk _ _ _ _ _ ?_
  unfold sh_user_Walk
  refine bR (sp_tlb_Find x b e pg) (i:=0) rfl s0 fun r h1 hr s1=>?_
  subst hr
  refine aY (fun k=>?_) (fun k=>?_)
  · have k':(Tlb.find b.1 e pg).2 = true∧dw (Tlb.find b.1 e pg).1.fRights kind = true:=by simpa using k
    have e1:User.walk b t e pg kind = (((Tlb.find b.1 e pg).1,true),b):=if_pos k'
    rw [e1]; exact aZ rfl s1
  · have k':¬ ((Tlb.find b.1 e pg).2 = true∧dw (Tlb.find b.1 e pg).1.fRights kind = true):=by simpa using k
    refine bR (nW y t pg) (i:=1) rfl s1 fun r h2 hr s2=>?_
    subst hr
    refine aY (fun k2=>?_) (fun k2=>?_)
    · have e1:User.walk b t e pg kind = ((kV,false),(Tlb.flush b e pg).2):=by unfold User.walk; rw [if_neg k',if_pos (by simpa using k2)]
      rw [e1]
      exact bR (sp_tlb_Flush x b e pg) (i:=0) rfl s2 fun r h3 hr s3=>aZ rfl s3
    · have e1:User.walk b t e pg kind = ((⟨e,pg,(Table.get t pg).1.fFrame,(Table.get t pg).1.fRights⟩,true),(Tlb.fill b ⟨e,pg,(Table.get t pg).1.fFrame,(Table.get t pg).1.fRights⟩).2):=by unfold User.walk; rw [if_neg k',if_neg (by simpa using k2)]
      rw [e1]
      exact bR (sp_tlb_Fill x b ⟨e,pg,(Table.get t pg).1.fFrame,(Table.get t pg).1.fRights⟩) (i:=0) rfl s2 fun r h3 hr s3=>aZ rfl s3
theorem sp_user_touch (x:Ptr) (m:List (List Int)) (f:Int) (c:dv):Sp Tryz.prog xg [pv x,.int .i64 f,.agg c.C.toArray] hU [iD x m] (fun r=>pa_ (r = (User.touch m f c).1) [iD x (User.touch m f c).2]):=by
  intro h s0
  refine sim_user_touch _ _ _ ?_
  unfold sh_user_touch
  refine aY (fun k=>?_) (fun k=>?_)
  · have e1:User.touch m f c = (⟨0,(Mem.load m f (IntKind.i64.wrap c.e2)).1⟩,m):=if_pos (by simpa using k)
    rw [e1]
    exact bR (qO x m f _) (i:=0) rfl s0 fun r h1 hr s1=>aZ (by rw [hr]) s1
  refine aY (fun k2=>?_) (fun k2=>?_)
  · have e1:User.touch m f c = (⟨0,0⟩,(Mem.store m f (IntKind.i64.wrap c.e2) c.e3).2):=by unfold User.touch; rw [if_neg (by simpa using k),if_pos (by simpa using k2)]
    rw [e1]
    exact bR (lZ x m f _ _) (i:=0) rfl s0 fun r h1 hr s1=>aZ rfl s1
  refine aY (fun k3=>?_) (fun k3=>?_)
  · have e1:User.touch m f c = (⟨0,(Mem.cas m f (IntKind.i64.wrap c.e2) c.e3 c.e4).1.1⟩,(Mem.cas m f (IntKind.i64.wrap c.e2) c.e3 c.e4).2):=by unfold User.touch; rw [if_neg (by simpa using k),if_neg (by simpa using k2),if_pos (by simpa using k3)]
    rw [e1]
    exact bR (sp_mem_Cas x m f _ _ _) (i:=0) rfl s0 fun r h1 hr s1=>aZ (by rw [hr]) s1
  refine aY (fun k4=>?_) (fun k4=>?_)
  · have e1:User.touch m f c = (⟨0,(Mem.add m f (IntKind.i64.wrap c.e2) c.e3).1.1⟩,(Mem.add m f (IntKind.i64.wrap c.e2) c.e3).2):=by unfold User.touch; rw [if_neg (by simpa using k),if_neg (by simpa using k2),if_neg (by simpa using k3),if_pos (by simpa using k4)]
    rw [e1]
    exact bR (sp_mem_Add x m f _ _) (i:=0) rfl s0 fun r h1 hr s1=>aZ (by rw [hr]) s1
  have e1:User.touch m f c = (⟨0,0⟩,m):=by unfold User.touch; rw [if_neg (by simpa using k),if_neg (by simpa using k2),if_neg (by simpa using k3),if_neg (by simpa using k4)]
  rw [e1]
  exact aZ rfl s0
theorem sp_user_Do (x y z:Ptr) (b:Buf) (t:List Pte) (m:List (List Int)) (e:Int) (c:dv):Sp Tryz.prog n_user_Do [pv x,pv y,pv z,.int .i64 e,.agg c.C.toArray] eP [fx x b,cY y t,iD z m] (fun r=>pa_ (r = (User.do_ b t m e c).1) [fx x (User.do_ b t m e c).2.1,cY y t,iD z (User.do_ b t m e c).2.2]):=by
  intro h s0
  refine sim_user_Do _ _ _ _ _ ?_
  unfold sh_user_Do
  refine tV (ju c 4) s0 fun r h1 hr s1=>?_
  subst hr
  have go:∀ n,n = User.bad e c→pW x y z e c (fun r=>pa_ (r = (User.do_ b t m e c).1) [fx x (User.do_ b t m e c).2.1,cY y t,iD z (User.do_ b t m e c).2.2]) n h1:=by
    intro n hn
    unfold pW
    refine aY (fun k=>?_) (fun k=>?_)
    · have k':User.bad e c ≠ 0:=by rw [← hn]; simpa using k
      have e1:User.do_ b t m e c = ((⟨User.bad e c,0⟩,kV),b,m):=if_pos k'
      rw [e1]; exact aZ (by rw [hn]) s1
    · have k':¬ User.bad e c ≠ 0:=by rw [← hn]; simpa using k
      refine cR [0,0] (sp_user_Walk x y b t e (IntKind.i64.wrap c.e1) (aE c).1) s1 rfl fun r h2 s2=>?_
      obtain ⟨hr,s3⟩:=bu.1 s2
      subst hr
      refine aY (fun k2=>?_) (fun k2=>?_)
      · have e1:User.do_ b t m e c = ((⟨7,0⟩,kV),(User.walk b t e (IntKind.i64.wrap c.e1) (aE c).1).2,m):=by unfold User.do_; rw [if_neg k',if_pos (by simpa using k2)]
        rw [e1]; exact aZ rfl s3
      · have e1:User.do_ b t m e c = (((User.touch m (User.walk b t e (IntKind.i64.wrap c.e1) (aE c).1).1.1.fFrame c).1,(User.walk b t e (IntKind.i64.wrap c.e1) (aE c).1).1.1),(User.walk b t e (IntKind.i64.wrap c.e1) (aE c).1).2,(User.touch m (User.walk b t e (IntKind.i64.wrap c.e1) (aE c).1).1.1.fFrame c).2):=by unfold User.do_; rw [if_neg k',if_neg (by simpa using k2)]
        rw [e1]
        exact bR (sp_user_touch z m _ c) (i:=2) rfl s3 fun r h3 hr s4=>aZ (by rw [hr]) s4
  refine aY (fun k=>go 10 ?_) (fun k=>?_)
  · unfold User.bad; rw [if_pos (by simpa using k)]
  · have k':¬ (e < 0∨e ≥ 4):=by simpa using k
    refine aY (fun k2=>go 1 ?_) (fun k2=>go _ ?_)
    · unfold User.bad; rw [if_neg k',if_pos (by simpa using k2)]
    · unfold User.bad; rw [if_neg k',if_neg (by simpa using k2)]
end Go.Proofs.YtemoifebbhoinaaGreatDoor
namespace Go.Proofs.YtemoifebbhoinaaGreatDoor
open Go Mb
abbrev KC:=lX
abbrev bq:=aB
structure KK where
  p:PK
  tlbs:List Buf
  boxes:Mail.S
  epochs:Epochs.S
  calls:List (Option KC)
  events:List bq
  now:Int
namespace KK
def is (k:KK) (c:Int):Bool:=decide (0 ≤ c∧c < k.calls.length)
def call (k:KK) (c:Int):Option KC:=(k.calls.getD c.toNat none)
def busy (k:KK) (c:Int):Bool:=is k c && (call k c).isSome
def buf (k:KK) (c:Int):Buf:=k.tlbs.getD c.toNat ([],0)
def ev0 (core env:Int) (c:dv) (n:Int):bq:=⟨core,env,c,n,0,0,⟨0,0⟩,kV⟩
def begin_ (k:KK) (core env:Int) (c:dv):Bool × KK :=
  if is k core = false∨busy k core = true∨env < 0∨env ≥ k.p.s.fEnvs then (false,k)
  else (true,{ k with now:=IntKind.i64.wrap (k.now + 1),events:=k.events++[ev0 core env c (IntKind.i64.wrap (k.now + 1))],calls:=k.calls.set core.toNat (some ⟨k.events.length,env,c,false,0⟩) })
def goes (p:PK) (x:KC) (e s:Int):Bool :=
  if x.fc.e0 = 5∧e = x.fenv∧s = IntKind.i64.wrap x.fc.e1 then true
  else if Caps.has p.caps e s = true then Caps.under p.caps (Caps.get p.caps e s) ⟨x.fenv,IntKind.i64.wrap x.fc.e1⟩ else false
def left (p:PK) (x:KC) (e pg:Int) (q:Pte):Pte :=
  if x.fc.e0 = 7 then (if x.fenv = e∧IntKind.i64.wrap x.fc.e1 = pg then dp else q)
  else if x.fc.e0 = 8 then (if (x.fenv = e∧IntKind.i64.wrap x.fc.e1 = pg)∧aV (IntKind.i64.wrap x.fc.e2) (Caps.at_ p.caps e q.fSlot).1.fRights = true then { q with fRights:=iand .i64 q.fRights (IntKind.i64.wrap x.fc.e2) } else q)
  else if goes p x e q.fSlot = true then dp else q
def seenFrom (p:PK) (e pg:Int):List (Option KC)→Bool→Pte→Pte × Bool
  | [],b,q=>(q,b)
  | none::cs,b,q=>seenFrom p e pg cs b q
  | some x::cs,b,q=>if b = true∧x.ftold = true then seenFrom p e pg cs ((left p x e pg q).fRights != 0) (left p x e pg q) else seenFrom p e pg cs b q
def seen (k:KK) (e pg:Int):Pte × Bool:=seenFrom k.p e pg k.calls (PK.pte k.p e pg).2 (PK.pte k.p e pg).1
def hits (p:PK) (x:KC) (e pg:Nat):Bool:=(PK.pte p e pg).2 && !(al.eqb (left p x e pg (PK.pte p e pg).1) (PK.pte p e pg).1)
def takes (p:PK) (x:KC):Bool :=
  if Word.check x.fc p.s.fEnvs ≠ 0∨x.fc.e0 < 4∨x.fc.e0 > 8∨x.fc.e0 = 6 then false
  else (List.range p.s.fEnvs.toNat).any fun e=>(List.range 8).any fun pg=>hits p x e pg
def stale (k:KK) (l:mE):Bool:=decide (0 ≤ l.fEnv) && (!(seen k l.fEnv l.fPage).2 || (seen k l.fEnv l.fPage).1.fFrame != l.fFrame || !(aV l.fRights (seen k l.fEnv l.fPage).1.fRights))
def cleans (k:KK):List mE→Buf→Buf
  | [],b=>b
  | l::ls,b=>if stale k l = true then cleans k ls (Tlb.flush b l.fEnv l.fPage).2 else cleans k ls b
def clean (k:KK) (c:Int):KK:={ k with tlbs:=k.tlbs.set c.toNat (cleans k (Tlb.lines (buf k c)) (buf k c)) }
def evend (e:bq) (n:Int) (a:fQ) (l:mE):bq:={ e with fEffect:=n,fEnd:=n,fAnswer:=a,fLine:=l }
def ends (k:KK) (c:Int) (x:KC) (a:fQ) (l:mE):KK :=
  { k with events:=k.events.set x.fat.toNat (evend (k.events.getD x.fat.toNat (ev0 0 0 ⟨0,0,0,0,0⟩ 0)) k.now a l),calls:=k.calls.set c.toNat none }
def tabFor (k:KK) (e pg:Int):List Pte:=if (seen k e pg).2 = true then (Table.insert (List.replicate 8 dp) pg (seen k e pg).1).2 else List.replicate 8 dp
def accWalk (k:KK) (c:Int) (x:KC):(mE × Bool) × Buf:=User.walk (buf k c) (tabFor k x.fenv (IntKind.i64.wrap x.fc.e1)) x.fenv (IntKind.i64.wrap x.fc.e1) (IntKind.i64.wrap x.fc.e0)
def access (k:KK) (c:Int) (x:KC):(fQ × mE) × KK :=
  if Word.check x.fc k.p.s.fEnvs ≠ 0 then ((⟨Word.check x.fc k.p.s.fEnvs,0⟩,kV),k)
  else if (accWalk k c x).1.2 = false then ((⟨7,0⟩,kV),{ k with tlbs:=k.tlbs.set c.toNat (accWalk k c x).2 })
  else (((PK.touch k.p (accWalk k c x).1.1.fFrame x.fc).1.1,(accWalk k c x).1.1),{ k with tlbs:=k.tlbs.set c.toNat (accWalk k c x).2,p:=(PK.touch k.p (accWalk k c x).1.1.fFrame x.fc).2 })
def tell (k:KK) (c:Int) (x:KC):KK:={ k with calls:=k.calls.set c.toNat (some { x with ftold:=true }) }
def send (k:KK) (c:Int) (x:KC):KK :=
  { k with epochs:=(Epochs.begin_ k.epochs c).2,calls:=k.calls.set c.toNat (some { x with ftold:=true,fepoch:=(Epochs.begin_ k.epochs c).1.1 }),boxes:=(Mail.sends k.boxes c (Epochs.begin_ k.epochs c).1.1 k.boxes.length).2 }
def tick (k:KK):KK:={ k with now:=IntKind.i64.wrap (k.now + 1) }
def work (k:KK) (c:Int) (x:KC):KK :=
  if cO (aE x.fc).1 = true then ends (access k c x).2 c x (access k c x).1.1 (access k c x).1.2
  else if x.ftold = false∧takes k.p x = true then send (clean (tell k c x) c) c x
  else if x.ftold = true∧Epochs.done k.epochs x.fepoch = false then k
  else if (PK.do_ k.p x.fenv x.fc).1.2 = true then ends { k with p:=(PK.do_ k.p x.fenv x.fc).2 } c x (PK.do_ k.p x.fenv x.fc).1.1 kV
  else { k with p:=(PK.do_ k.p x.fenv x.fc).2 }
def step (k:KK) (c:Int):Bool × KK :=
  if busy k c = false then (false,k) else match call k c with
  | none=>(false,k)
  | some x=>(true,work (tick k) c x)
def post (k:KK) (c:Int):Bool × KK :=
  if is k c = false then (false,k) else if (Mail.take k.boxes c).1.2 = false then (false,k)
  else (true,{ clean { tick k with boxes:=(Mail.take k.boxes c).2 } c with epochs:=(Epochs.ack k.epochs c (Mail.take k.boxes c).1.1).2 })
def evict (k:KK) (c s w:Int):Bool × KK :=
  if is k c = false then (false,k) else if (Tlb.evict (buf k c) s w).1 = false then (false,k)
  else (true,{ tick k with tlbs:=k.tlbs.set c.toNat (Tlb.evict (buf k c) s w).2 })
def mail (k:KK) (c:Int):Int:=if is k c = true then Mail.waits k.boxes c else 0
def lines (k:KK) (c:Int):List mE:=if is k c = true then Tlb.lines (buf k c) else []
def new (s:eH):KK:=⟨PK.new s,List.replicate s.fCores.toNat tlb0,List.replicate s.fCores.toNat [],([],List.replicate s.fCores.toNat 0),List.replicate s.fCores.toNat none,[],0⟩
end KK
structure mL (n:Nat) (l:List Int):Prop where
  up:l.Pairwise (· < ·)
  lo:∀ x ∈ l,1 ≤ x
  hi:∀ x ∈ l,x ≤ n
structure KK.Ok (k:KK):Prop where
  p:PK.Ok k.p
  tl:(k.tlbs.length:Int) = k.p.s.fCores
  bl:(k.boxes.length:Int) = k.p.s.fCores
  el:(k.epochs.2.length:Int) = k.p.s.fCores
  cl:(k.calls.length:Int) = k.p.s.fCores
  cs:∀ x,some x ∈ k.calls→0 ≤ x.fat∧x.fat < k.events.length∧0 ≤ x.fenv∧x.fenv < k.p.s.fEnvs
  n0:0 ≤ k.now
  evn:(k.events.length:Int) ≤ k.now
  epn:(k.epochs.1.length:Int) ≤ k.now
  bx:∀ l ∈ k.boxes,mL k.epochs.1.length l
theorem box_len {n:Nat} {l:List Int} (h:mL n l):l.length ≤ n:=by
  have key:∀ (l:List Int) (a:Int),l.Pairwise (· < ·)→(∀ x ∈ l,a < x)→(∀ x ∈ l,x ≤ n)→(l.length:Int) ≤ max 0 (n - a):=by
    intro l
    induction l with
    | nil=>intro a _ _ _; simp; omega
    | cons b l ih =>
      intro a hp hl hh
      obtain ⟨h1,h2⟩:=List.pairwise_cons.1 hp
      have:=ih b h2 (fun x hx=>h1 x hx) (fun x hx=>hh x (by simp [hx]))
      have:=hl b (by simp)
      have:=hh b (by simp)
      simp only [List.length_cons]; omega
  have:=key l 0 h.up (fun x hx=>by have:=h.lo x hx; omega) h.hi
  omega
theorem box_fit {n:Nat} {l:List Int} (h:mL n l) (hn:n < 2 ^ 40):Mail.Fit l ((n:Int) + 1) :=
  ⟨fun x hx=>by have:=h.hi x hx; omega,h.up,by have:=box_len h; omega⟩
theorem box_more {n m:Nat} {l:List Int} (h:mL n l) (hn:n ≤ m):mL m l:=⟨h.up,h.lo,fun x hx=>by have:=h.hi x hx; omega⟩
theorem box_push {n:Nat} {l:List Int} (h:mL n l):mL (n + 1) (l++[(n:Int) + 1]):=by
  refine ⟨List.pairwise_append.2 ⟨h.up,List.pairwise_singleton _ _,fun a ha b hb=>?_⟩,fun x hx=>?_,fun x hx=>?_⟩
  · rw [List.mem_singleton.1 hb]; have:=h.hi a ha; omega
  · rcases List.mem_append.1 hx with h1 | h1
    · exact h.lo x h1
    · rw [List.mem_singleton.1 h1]; omega
  · rcases List.mem_append.1 hx with h1 | h1
    · have:=h.hi x h1; omega
    · rw [List.mem_singleton.1 h1]; omega
theorem box_drop {n:Nat} {l:List Int} (h:mL n l):mL n (l.drop 1) :=
  ⟨h.up.sublist (List.drop_sublist 1 l),fun x hx=>h.lo x (List.mem_of_mem_drop hx),fun x hx=>h.hi x (List.mem_of_mem_drop hx)⟩
theorem boxes_set {bs:Mail.S} {n:Nat} (h:∀ l ∈ bs,mL n l) (i:Nat) {b:List Int} (hb:mL n b):∀ l ∈ bs.set i b,mL n l:=by
  intro l hl
  rcases List.mem_or_eq_of_mem_set hl with h1 | h1
  · exact h l h1
  · subst h1; exact hb
theorem box_of {bs:Mail.S} {n:Nat} (h:∀ l ∈ bs,mL n l) (c:Int):mL n (Mail.box bs c):=by
  unfold Mail.box
  by_cases hi:c.toNat < bs.length
  · simp [hi]; exact h _ (List.getElem_mem hi)
  · simp [List.getD_eq_getElem?_getD,List.getElem?_eq_none (Nat.le_of_not_lt hi)]
    exact ⟨.nil,fun x hx=>(by cases hx),fun x hx=>(by cases hx)⟩
theorem boxes_send {bs:Mail.S} {n:Nat} (f t:Int) (h:∀ l ∈ bs,mL (n + 1) l) (ht:mL n (Mail.box bs t)):∀ l ∈ (Mail.send bs f t ((n:Int) + 1)).2,mL (n + 1) l:=by
  unfold Mail.send
  split
  · exact boxes_set h _ (box_push ht)
  · exact h
theorem boxes_sends {bs:Mail.S} {n:Nat} (f:Int) (h:∀ l ∈ bs,mL n l):∀ j,j ≤ bs.length→∀ l ∈ (Mail.sends bs f ((n:Int) + 1) j).2,mL (n + 1) l
  | 0,_=>fun l hl=>box_more (h l hl) (by omega)
  | j + 1,hj=>by
    have ih:=boxes_sends f h j (by omega)
    have hb:Mail.box (Mail.sends bs f ((n:Int) + 1) j).2 j = Mail.box bs j:=by
      unfold Mail.box
      rw [Int.toNat_natCast,List.getD_eq_getElem?_getD,List.getD_eq_getElem?_getD,Mail.sends_ge bs f _ j j (Nat.le_refl _)]
    have:=boxes_send f (j:Int) ih (by rw [hb]; exact box_of h _)
    unfold Mail.sends
    split <;> exact this
theorem wrapN {n:Int} (h0:0 ≤ n) (h1:n < 2 ^ 40):IntKind.i64.wrap (n + 1) = n + 1:=bP (by omega) (by omega)
theorem calls_set {k:KK} (ok:KK.Ok k) (i:Nat) {o:Option KC} {n:Int} (hn:(k.events.length:Int) ≤ n) (ho:∀ x,o = some x→0 ≤ x.fat∧x.fat < n∧0 ≤ x.fenv∧x.fenv < k.p.s.fEnvs):∀ x,some x ∈ k.calls.set i o→0 ≤ x.fat∧x.fat < n∧0 ≤ x.fenv∧x.fenv < k.p.s.fEnvs:=by
  intro x hx
  rcases List.mem_or_eq_of_mem_set hx with h1 | h1
  · have:=ok.cs x h1; omega
  · exact ho x h1.symm
theorem kok_new {s:eH} (h:PK.sized s = true):KK.Ok (KK.new s):=by
  have hs:=fV.1 h
  refine ⟨ok_new h,?_,?_,?_,?_,?_,Int.le_refl _,Int.le_refl _,Int.le_refl _,?_⟩
  · simp [KK.new,PK.new]; omega
  · simp [KK.new,PK.new]; omega
  · simp [KK.new,PK.new]; omega
  · simp [KK.new,PK.new]; omega
  · intro x hx
    have:=(List.mem_replicate.1 hx).2
    cases this
  · intro l hl
    rw [(List.mem_replicate.1 hl).2]
    exact ⟨.nil,fun x hx=>(by cases hx),fun x hx=>(by cases hx)⟩
theorem kok_begin {k:KK} (ok:KK.Ok k) (hn:k.now < 2 ^ 40) (core env:Int) (c:dv):KK.Ok (KK.begin_ k core env c).2:=by
  unfold KK.begin_
  split
  · exact ok
  · rename_i h
    have h1:=ok.n0
    have h2:=ok.evn
    have h3:=ok.epn
    simp at h
    have hw:=wrapN h1 hn
    refine ⟨ok.p,ok.tl,ok.bl,ok.el,by simpa using ok.cl,?_,by simp only [hw]; omega,by simp only [hw,List.length_append,List.length_singleton]; omega,by simp only [hw]; omega,ok.bx⟩
    simp only [List.length_append,List.length_singleton]
    refine calls_set ok _ (by omega) fun x hx=>?_
    cases hx
    simp only; omega
theorem kok_tick {k:KK} (ok:KK.Ok k) (hn:k.now < 2 ^ 40):KK.Ok (KK.tick k):=by
  have h1:=ok.n0
  have h2:=ok.evn
  have h3:=ok.epn
  have hw:=wrapN h1 hn
  unfold KK.tick
  exact ⟨ok.p,ok.tl,ok.bl,ok.el,ok.cl,ok.cs,by simp only [hw]; omega,by simp only [hw]; omega,by simp only [hw]; omega,ok.bx⟩
theorem kok_tlbs {k:KK} (ok:KK.Ok k) (i:Nat) (b:Buf):KK.Ok { k with tlbs:=k.tlbs.set i b }:=⟨ok.p,by simpa using ok.tl,ok.bl,ok.el,ok.cl,ok.cs,ok.n0,ok.evn,ok.epn,ok.bx⟩
theorem kok_p {k:KK} (ok:KK.Ok k) {p:PK} (h:PK.Ok p) (hs:p.s = k.p.s):KK.Ok { k with p:=p } :=
  ⟨h,by rw [hs]; exact ok.tl,by rw [hs]; exact ok.bl,by rw [hs]; exact ok.el,by rw [hs]; exact ok.cl,by rw [hs]; exact ok.cs,ok.n0,ok.evn,ok.epn,ok.bx⟩
theorem kok_ends {k:KK} (ok:KK.Ok k) (c:Int) (x:KC) (a:fQ) (l:mE):KK.Ok (KK.ends k c x a l):=by
  unfold KK.ends
  refine ⟨ok.p,ok.tl,ok.bl,ok.el,by simpa using ok.cl,?_,ok.n0,by simpa using ok.evn,ok.epn,ok.bx⟩
  simp only [List.length_set]
  exact calls_set ok _ (Int.le_refl _) fun x hx=>by cases hx
theorem touch_s (k:PK) (f:Int) (c:dv):(PK.touch k f c).2.s = k.s:=by
  unfold PK.touch
  repeat' split
  all_goals rfl
theorem alloc_s (k:PK) (e s:Int):(PK.alloc k e s).2.s = k.s:=by
  unfold PK.alloc
  repeat' split
  all_goals rfl
theorem derive_s (k:PK) (e a b c d:Int):(PK.derive k e a b c d).2.s = k.s:=by
  unfold PK.derive
  repeat' split
  all_goals rfl
theorem gone_size (f:Int):∀ (l:List bY) (k:PK),(PK.gone k f l).s = k.s
  | [],_=>rfl
  | _::l,_=>by rw [PK.gone,gone_size f l]
theorem revoke_s (k:PK) (e s:Int) (w:Bool):(PK.revoke k e s w).2.s = k.s:=by
  unfold PK.revoke
  split
  · rfl
  · split <;> simp only [gone_size]
theorem maps_s (k:PK) (e a b c:Int):(PK.maps k e a b c).2.s = k.s:=by
  unfold PK.maps
  repeat' split
  all_goals rfl
theorem protect_s (k:PK) (e a b:Int):(PK.protect k e a b).2.s = k.s:=by
  unfold PK.protect
  repeat' split
  all_goals rfl
theorem user_s (k:PK) (e:Int) (c:dv):(PK.user k e c).2.s = k.s:=by
  unfold PK.user; split
  · rfl
  · exact touch_s _ _ _
theorem does_s (k:PK) (e:Int) (c:dv):(PK.does k e c).2.s = k.s:=by
  unfold PK.does PK.errs
  repeat' split
  all_goals first | rfl | exact alloc_s _ _ _ | exact derive_s _ _ _ _ _ _ | exact revoke_s _ _ _ _ | exact maps_s _ _ _ _ _ | exact protect_s _ _ _ _ | exact user_s _ _ _
theorem do_s (k:PK) (e:Int) (c:dv):(PK.do_ k e c).2.s = k.s:=by
  unfold PK.do_; split
  · rfl
  · split
    · rfl
    · exact does_s _ _ _
theorem kok_access {k:KK} (ok:KK.Ok k) (c:Int) (x:KC):KK.Ok (KK.access k c x).2:=by
  unfold KK.access
  split
  · exact ok
  · split
    · exact kok_tlbs ok _ _
    · have h1:=kok_tlbs ok c.toNat (KK.accWalk k c x).2
      exact kok_p h1 (ok_touch ok.p _ _) (touch_s _ _ _)
theorem kok_clean {k:KK} (ok:KK.Ok k) (c:Int):KK.Ok (KK.clean k c):=kok_tlbs ok _ _
theorem call_ok {k:KK} (ok:KK.Ok k) {c:Int} {x:KC} (h:KK.call k c = some x):0 ≤ x.fat∧x.fat < k.events.length∧0 ≤ x.fenv∧x.fenv < k.p.s.fEnvs:=by
  refine ok.cs x ?_
  unfold KK.call at h
  by_cases hi:c.toNat < k.calls.length
  · simp [hi] at h; rw [← h]; exact List.getElem_mem hi
  · simp [List.getD_eq_getElem?_getD,List.getElem?_eq_none (Nat.le_of_not_lt hi)] at h
theorem kok_call {k:KK} (ok:KK.Ok k) (c:Int) {x y:KC} (h:KK.call k c = some x) (h1:y.fat = x.fat) (h2:y.fenv = x.fenv):KK.Ok { k with calls:=k.calls.set c.toNat (some y) }:=by
  have hc:=call_ok ok h
  refine ⟨ok.p,ok.tl,ok.bl,ok.el,by simpa using ok.cl,calls_set ok _ (Int.le_refl _) fun z hz=>?_,ok.n0,ok.evn,ok.epn,ok.bx⟩
  cases hz
  show 0 ≤ y.fat∧y.fat < (k.events.length:Int)∧0 ≤ y.fenv∧y.fenv < k.p.s.fEnvs
  omega
theorem call_set_same {k:KK} {c:Int} {x y:KC} (h:KK.call k c = some x):({ k with calls:=k.calls.set c.toNat (some y) }:KK).call c = some y:=by
  unfold KK.call at h ⊢
  by_cases hi:c.toNat < k.calls.length
  · simp [hi]
  · simp [List.getD_eq_getElem?_getD,List.getElem?_eq_none (Nat.le_of_not_lt hi)] at h
theorem kok_send {k:KK} (ok:KK.Ok k) (hn:(k.epochs.1.length:Int) + 1 ≤ k.now) {c:Int} {x:KC} (hc:KK.call k c = some { x with ftold:=true }) (hi:KK.is k c = true):KK.Ok (KK.send k c x):=by
  have hc':=call_ok ok hc
  simp only at hc'
  have he:Epochs.is k.epochs c = true:=by
    unfold KK.is at hi
    have h1:=of_decide_eq_true hi
    have:=ok.el
    have:=ok.cl
    unfold Epochs.is
    exact decide_eq_true (by omega)
  have eb:Epochs.begin_ k.epochs c = (((k.epochs.1.length:Int) + 1,true),(k.epochs.1++[c],k.epochs.2)):=if_pos he
  unfold KK.send
  rw [eb]
  refine ⟨ok.p,ok.tl,by rw [← ok.bl]; simp only [Mail.sends_len],ok.el,by simpa using ok.cl,calls_set ok _ (Int.le_refl _) fun z hz=>?_,ok.n0,ok.evn,by simp; omega,?_⟩
  · cases hz; exact hc'
  · simp only [List.length_append,List.length_singleton]
    exact boxes_sends c ok.bx _ (Nat.le_refl _)
theorem kok_work {k:KK} (ok:KK.Ok k) (hn:(k.epochs.1.length:Int) + 1 ≤ k.now) {c:Int} {x:KC} (hc:KK.call k c = some x) (hi:KK.is k c = true):KK.Ok (KK.work k c x):=by
  unfold KK.work
  split
  · exact kok_ends (kok_access ok c x) _ _ _ _
  · split
    · refine kok_send (kok_clean (kok_call ok c hc (y:={ x with ftold:=true }) rfl rfl) c) hn ?_ ?_
      · exact call_set_same hc
      · unfold KK.is at hi ⊢
        show decide (0 ≤ c∧c < ((k.calls.set c.toNat _).length:Int)) = true
        rw [List.length_set]; exact hi
    · split
      · exact ok
      · split
        · exact kok_ends (kok_p ok (ok_do ok.p _ _) (do_s _ _ _)) _ _ _ _
        · exact kok_p ok (ok_do ok.p _ _) (do_s _ _ _)
theorem busy_is {k:KK} {c:Int} (h:KK.busy k c = true):KK.is k c = true∧∃ x,KK.call k c = some x:=by
  unfold KK.busy at h
  rw [Bool.and_eq_true,Option.isSome_iff_exists] at h
  exact h
theorem kok_post {k:KK} (ok:KK.Ok k) (hn:k.now < 2 ^ 40) (c:Int):KK.Ok (KK.post k c).2:=by
  unfold KK.post
  split
  · exact ok
  · split
    · exact ok
    · have o1:=kok_tick ok hn
      have hb:∀ l ∈ (Mail.take k.boxes c).2,mL k.epochs.1.length l:=by
        unfold Mail.take; split
        · exact ok.bx
        · exact boxes_set ok.bx _ (box_drop (box_of ok.bx c))
      have hbl:(Mail.take k.boxes c).2.length = k.boxes.length:=by unfold Mail.take; split <;> simp
      have ha:(Epochs.ack k.epochs c (Mail.take k.boxes c).1.1).2.1 = k.epochs.1∧(Epochs.ack k.epochs c (Mail.take k.boxes c).1.1).2.2.length = k.epochs.2.length:=by
        unfold Epochs.ack; split <;> simp
      refine ⟨ok.p,?_,?_,?_,ok.cl,ok.cs,o1.n0,o1.evn,?_,?_⟩
      · simp only [KK.clean,KK.tick,List.length_set]; exact ok.tl
      · simp only [KK.clean,KK.tick,hbl]; exact ok.bl
      · simp only [KK.clean,KK.tick,ha.2]; exact ok.el
      · show ((Epochs.ack k.epochs c (Mail.take k.boxes c).1.1).2.1.length:Int) ≤ _
        rw [ha.1]; exact o1.epn
      · show ∀ l ∈ (Mail.take k.boxes c).2,mL (Epochs.ack k.epochs c (Mail.take k.boxes c).1.1).2.1.length l
        rw [ha.1]; exact hb
theorem kok_evict {k:KK} (ok:KK.Ok k) (hn:k.now < 2 ^ 40) (c s w:Int):KK.Ok (KK.evict k c s w).2:=by
  unfold KK.evict
  split
  · exact ok
  · split
    · exact ok
    · exact kok_tlbs (kok_tick ok hn) _ _
end Go.Proofs.YtemoifebbhoinaaGreatDoor
