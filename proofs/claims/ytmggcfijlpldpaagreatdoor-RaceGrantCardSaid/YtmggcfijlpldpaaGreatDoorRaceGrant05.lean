/- Part of the proof of: The law RaceGrant returns true for every input, and leaves its arguments as they were. -/
import Derived.Test.YtmggcfijlpldpaaGreatDoorRaceGrant04
set_option linter.all false
set_option maxRecDepth 20000
namespace Go.Proofs.YtmggcfijlpldpaaGreatDoor
open Go Mb
set_option linter.unusedVariables false
def sh_caps_Tree_is (a0:Ptr) (a1:Int) (a2:Int) (K:Bool→Hp→Prop):Hp→Prop:=br (decide (a1 ≥ 0)) ( nn a0 fun q12=>ld (q12.1,q12.2 + 0) cS fun x14=>K (((decide (a1 < (x14.len:Int))) && (decide (a2 ≥ 0))) && (decide (a2 < 8)))) ( K false)
theorem sim_caps_Tree_is (a0:Ptr) (a1:Int) (a2:Int) {K:Bool→Hp→Prop} {h:Hp} (H:sh_caps_Tree_is a0 a1 a2 K h):Ct Tryz.prog hH #[(pv a0),(.int .i64 a1),(.int .i64 a2)] h fun v h'=>∃ r,v = az r∧K r h':=aw [(pv a0),(.int .i64 a1),(.int .i64 a2)] Tryz.func145 c c c fun _=>M<|O c<|M<|J c<|p (jy c c)<|J c<|V c c (ay _) (fun g1=>wv<|ae c)<|V c c (ay _) (fun g2=>wv<|ae c)<|bP H (fun k4 H5=>bC H5 fun q12 e6 H7=>G (Z k4)<|z_p (aH<|aL (aB c k4)<|ao e6)<|G (Z k4)<|z_p (ad gR c)<|G (Z k4)<|aT H7 pI c (fun _=>c) c fun x14 H8=>G (Z k4)<|z_p (dv c Tryz.underlying203 c)<|G (Z k4)<|z_p (cm (aB c k4) c)<|p (aM c k4 c)<|J c<|V c c (ay _) (fun g9=>wv<|ae c)<|V c c (ay _) (fun g10=>wv<|jy (aB c g10) c)<|p (bM c c)<|J c<|V c c (ay _) (fun g11=>wv<|ae c)<|V c c (ay _) (fun g12=>wv<|cm (aB c g12) c)<|p (bM c c)<|O c<|ag<|Y ⟨(((decide (a1 < (x14.len:Int))) && (decide (a2 ≥ 0))) && (decide (a2 < 8))),c,H8⟩) fun k4 H5=>W (aP k4)<|W (aP k4)<|W (aP k4)<|W (aP k4)<|W (aP k4)<|p (an c k4 c)<|J c<|W c<|W c<|p (an c c c)<|J c<|W c<|W c<|p (an c c c)<|O c<|ag<|Y ⟨false,c,H5⟩
def iq (a0:Ptr) (a1:Int) (a2:Int) (K:(au × Bool)→Hp→Prop) (s1:Bool):Hp→Prop:=br s1 ( K ((⟨0,0,0,0⟩:au),false)) ( nn a0 fun q32=>ld (q32.1,q32.2 + 0) cS fun x34=>ix x34 a1 fun q37=>gd (0 ≤ a2∧a2 < 8)<|ld (q37.1,q37.2 + Int.toNat a1 * 32 + Int.toNat a2 * 4) au.C fun x39=>K (x39,true))
def sh_caps_Tree_At (a0:Ptr) (a1:Int) (a2:Int) (K:(au × Bool)→Hp→Prop):Hp→Prop:=br (!a0.isNone) ( cl Tryz.prog hH [(pv a0),(.int .i64 a1),(.int .i64 a2)] az fun r14=>br (!(!r14)) ( nn a0 fun q19=>ld (q19.1,q19.2 + 0) cS fun x21=>ix x21 a1 fun q24=>gd (0 ≤ a2∧a2 < 8)<|ld (q24.1,q24.2 + Int.toNat a1 * 32 + Int.toNat a2 * 4 + 1) (cI .i64) fun x27=>iq a0 a1 a2 K (x27 == 0)) ( iq a0 a1 a2 K true)) ( iq a0 a1 a2 K true)
theorem sim_caps_Tree_At (a0:Ptr) (a1:Int) (a2:Int) {K:(au × Bool)→Hp→Prop} {h:Hp} (H:sh_caps_Tree_At a0 a1 a2 K h):Ct Tryz.prog dT #[(pv a0),(.int .i64 a1),(.int .i64 a2)] h fun v h'=>∃ r,v = bZ r∧K r h':=aw [(pv a0),(.int .i64 a1),(.int .i64 a2)] Tryz.func91 c c c fun _=>M<|aa<|aI (l:=au.C (⟨0,0,0,0⟩:au)) fO c c fun b6=>O c<|aj<|dX (iq a0 a1 a2 K) (fun s1=>[(0,(pv a0)),(1,(.int .i64 a1)),(2,(.int .i64 a2)),(6,(.pointer (some ⟨b6,0,none⟩))),(29,(.bool s1))]) (fun s1=>[bx b6 37 (au.C (⟨0,0,0,0⟩:au))]) (ap<|J c<|p (ch Tryz.underlying147 c)<|J c<|V c c (aK _) (fun g14=>wv<|ae c)<|V c c (aK _) (fun g15=>wv<|ae c)<|V c c (aK _) (fun g16=>wv<|ae c)<|bP H (fun k18 H19=>G (Z<|bS k18)<|fT H19 en_145 (aS (aB c k18)<|aS (aB c k18)<|aS (aB c k18) bO) c fun r14 _ H20=>G (Z<|bS k18)<|z_p (cf c)<|p (an c (bS k18) c)<|J c<|V c c (aK _) (fun g21=>wv<|ae c)<|bP H20 (fun k23 H24=>bC H24 fun q19 e25 H26=>G (Z<|bS k23)<|z_p (aH<|aL (aB c k23)<|ao e25)<|G (Z<|bS k23)<|z_p (ad gR c)<|G (Z<|bS k23)<|aT H26 pI c (fun _=>c) c fun x21 H27=>G (Z<|bS k23)<|z_p (ae c)<|G (Z<|bS k23)<|z_p (ae c)<|cg H27 fun q24 e28 h29 H30=>G (Z<|bS k23)<|z_p (bm nX (aL c<|aY e28) c h29)<|iV H30 fun h31 H32=>G (Z<|bS k23)<|z_p (bu qe c c h31)<|G (Z<|bS k23)<|z_p (ad fE c)<|G (Z<|bS k23)<|aT H32 aW c (fun _=>c) c fun x27 H33=>G (Z<|bS k23)<|z_p (bK c c)<|p (an c (bS k23) c)<|ac<|cq (x27 == 0) H33 (.cons c<|.cons c<|.cons c<|.cons c<|.cons c<|.nil _)<|.cons_cons _ .slnil) fun k23 H24=>W (bF<|bz k23)<|W (bF<|bz k23)<|W (bF<|bz k23)<|W (bF<|bz k23)<|W (bF<|bz k23)<|W (bF<|bz k23)<|W (bF<|bz k23)<|W (bF<|bz k23)<|W (bF<|bz k23)<|W (bF<|bz k23)<|p (aM c (bz k23) c)<|ac<|cq true H24 (.cons c<|.cons c<|.cons c<|.cons c<|.cons c<|.nil _)<|.cons_cons _ .slnil) fun k18 H19=>W (bF<|bz k18)<|W (bF<|bz k18)<|p (aM c (bz k18) c)<|J c<|W c<|W c<|W c<|W c<|W c<|W c<|W c<|W c<|W c<|W c<|W c<|p (aM c c c)<|ac<|cq true H19 (.cons c<|.cons c<|.cons c<|.cons c<|.cons c<|.nil _)<|.cons_cons _ .slnil) fun s1 _ H2=>av c H2 (fun k3 H4=>M<|p (aX (vs:=[]) c build_37)<|aa<|aN (k:=0) (vs:=au.C (⟨0,0,0,0⟩:au)) ff c c c c c c c<|O c<|ag<|bo (bL c (bv (k:=0) c vH c c)<|bV c) ⟨((⟨0,0,0,0⟩:au),false),c,H4⟩) fun k3 H4=>am<|M<|J c<|bC H4 fun q32 e5 H6=>p (aH<|aL c<|ao e5)<|p (ad gR c)<|aa<|aT H6 pI c (fun _=>c) c fun x34 H7=>J c<|J c<|cg H7 fun q37 e8 h9 H10=>p (bm nX (aL c<|aY e8) c h9)<|iV H10 fun h11 H12=>p (bu qe c c h11)<|aa<|gD H12 vH c (fun _=>c) c fun x39 H13=>aa<|aN (k:=0) (vs:=au.C x39) ff c c c c c c c<|O c<|ag<|bo (bL c (bv (k:=0) c vH c c)<|bV c) ⟨(x39,true),c,H13⟩
def tV (a0:Ptr) (a1:Int) (a2:Int) (a3:Int) (K:Int→Hp→Prop):Hp→Prop:=br a0.isNone ( K 10) ( cl Tryz.prog hH [(pv a0),(.int .i64 a1),(.int .i64 a2)] az fun r16=>br (((!r16) || (decide (a3 < 0))) || (decide (a3 ≥ 16))) ( K 2) ( nn a0 fun q28=>ld (q28.1,q28.2 + 0) cS fun x30=>ix x30 a1 fun q33=>gd (0 ≤ a2∧a2 < 8)<|ld (q33.1,q33.2 + Int.toNat a1 * 32 + Int.toNat a2 * 4 + 1) (cI .i64) fun x36=>br (x36 != 0) ( K 4) ( ld (q28.1,q28.2 + 0) cS fun x41=>ix x41 a1 fun q46=>st (q46.1,q46.2 + Int.toNat a1 * 32 + Int.toNat a2 * 4) (au.C (⟨a3,3,(-1),0⟩:au))<|K 0)))
theorem sim_caps_Tree_Root (a0:Ptr) (a1:Int) (a2:Int) (a3:Int) {K:Int→Hp→Prop} {h:Hp} (H:tV a0 a1 a2 a3 K h):Ct Tryz.prog jo #[(pv a0),(.int .i64 a1),(.int .i64 a2),(.int .i64 a3)] h fun v h'=>∃ r,v = aZ r∧K r h':=aw [(pv a0),(.int .i64 a1),(.int .i64 a2),(.int .i64 a3)] Tryz.func134 c c c fun _=>M<|O c<|aj<|ax<|M<|J c<|p (ch Tryz.underlying147 c)<|O c<|av c H (fun k1 H2=>M<|O c<|ag<|Y ⟨10,c,H2⟩) fun k1 H2=>M<|J c<|J c<|J c<|aa<|D H2 en_145 fun r16 _ H3=>p (cf c)<|J c<|V c c (aK _) (fun g4=>wv<|ae c)<|V c c (aK _) (fun g5=>wv<|cm (aB c g5) c)<|p (dm c c)<|J c<|V c c (aK _) (fun g6=>wv<|ae c)<|V c c (aK _) (fun g7=>wv<|jy (aB c g7) c)<|p (dm c c)<|O c<|av c H3 (fun k8 H9=>M<|O c<|ag<|Y ⟨2,c,H9⟩) fun k8 H9=>M<|J c<|bC H9 fun q28 e10 H11=>p (aH<|aL c<|ao e10)<|p (ad gR c)<|aa<|aT H11 pI c (fun _=>c) c fun x30 H12=>J c<|J c<|cg H12 fun q33 e13 h14 H15=>p (bm nX (aL c<|aY e13) c h14)<|iV H15 fun h16 H17=>p (bu qe c c h16)<|p (ad fE c)<|aa<|aT H17 aW c (fun _=>c) c fun x36 H18=>p (nO c c)<|O c<|av c H18 (fun k19 H20=>M<|O c<|ag<|Y ⟨4,c,H20⟩) fun k19 H20=>am<|M<|J (aL c<|ao e10)<|p (aH c)<|p (ad gR c)<|aa<|aT H20 pI c (fun _=>c) c fun x41 H21=>J c<|J c<|J c<|p (aX c<|build_37_0_1_2 a3 3 (-1))<|cg H21 fun q46 e22 h23 H24=>p (bm nX (aL c<|aY e22) c h23)<|p (bu qe c c h16)<|aa<|dq ff c c c c c H24 fun _ H25=>ac<|M<|O c<|ag<|Y ⟨0,c,H25⟩
def ry (a0:Ptr) (a1:Int) (a2:Int) (a3:Int) (a4:Int) (a5:Int) (K:Int→Hp→Prop):Hp→Prop:=br a0.isNone ( K 10) ( cl Tryz.prog hH [(pv a0),(.int .i64 a1),(.int .i64 a2)] az fun r19=>br (!(!r19)) ( cl Tryz.prog hH [(pv a0),(.int .i64 a3),(.int .i64 a4)] az fun r25=>br ((!r25) || (!(cz a5))) ( K 2) ( nn a0 fun q34=>ld (q34.1,q34.2 + 0) cS fun x36=>ix x36 a1 fun q39=>gd (0 ≤ a2∧a2 < 8)<|ld (q39.1,q39.2 + Int.toNat a1 * 32 + Int.toNat a2 * 4) au.C fun x41=>br (x41.fRights == 0) ( K 3) ( ld (q34.1,q34.2 + 0) cS fun x50=>ix x50 a3 fun q53=>gd (0 ≤ a4∧a4 < 8)<|ld (q53.1,q53.2 + Int.toNat a3 * 32 + Int.toNat a4 * 4 + 1) (cI .i64) fun x56=>br (x56 != 0) ( K 4) ( br (!(be a5 x41.fRights)) ( K 5) ( ld (q34.1,q34.2 + 0) cS fun x67=>ix x67 a3 fun q76=>st (q76.1,q76.2 + Int.toNat a3 * 32 + Int.toNat a4 * 4) (au.C (⟨x41.fFrame,a5,a1,a2⟩:au))<|K 0))))) ( K 2))
theorem sim_caps_Tree_Derive (a0:Ptr) (a1:Int) (a2:Int) (a3:Int) (a4:Int) (a5:Int) {K:Int→Hp→Prop} {h:Hp} (H:ry a0 a1 a2 a3 a4 a5 K h):Ct Tryz.prog hO #[(pv a0),(.int .i64 a1),(.int .i64 a2),(.int .i64 a3),(.int .i64 a4),(.int .i64 a5)] h fun v h'=>∃ r,v = aZ r∧K r h':=aw [(pv a0),(.int .i64 a1),(.int .i64 a2),(.int .i64 a3),(.int .i64 a4),(.int .i64 a5)] Tryz.func135 c c c fun _=>M<|O c<|aj<|M<|J c<|p (ch Tryz.underlying147 c)<|ac<|av c H (fun k1 H2=>M<|O c<|ag<|Y ⟨10,c,H2⟩) fun k1 H2=>am<|aj<|M<|J c<|J c<|J c<|aa<|D H2 en_145 fun r19 _ H3=>p (cf c)<|J c<|V c c (aK _) (fun g4=>wv<|ae c)<|V c c (aK _) (fun g5=>wv<|ae c)<|V c c (aK _) (fun g6=>wv<|ae c)<|bP H3 (fun k8 H9=>G (Z<|bS k8)<|fT H9 en_145 (aS (aB c k8)<|aS (aB c k8)<|aS (aB c k8) bO) c fun r25 _ H10=>G (Z<|bS k8)<|z_p (cf c)<|p (an c (bS k8) c)<|J c<|V c c (aK _) (fun g11=>wv<|ae c)<|cO (vs:=[(.int .i64 a5)]) c c c (aK _) (fun g12=>bq<|pT a5 _) en_161 (fun g12=>aS (aB c g12) bO) c<|V c c (aK _) (fun g13=>wv<|cf<|aB c g13)<|p (dm c c)<|ac<|av c H10 (fun k14 H15=>M<|O c<|ag<|Y ⟨2,c,H15⟩) fun k14 H15=>am<|M<|J c<|bC H15 fun q34 e16 H17=>p (aH<|aL c<|ao e16)<|p (ad gR c)<|aa<|aT H17 pI c (fun _=>c) c fun x36 H18=>J c<|J c<|cg H18 fun q39 e19 h20 H21=>p (bm nX (aL c<|aY e19) c h20)<|iV H21 fun h22 H23=>p (bu qe c c h22)<|aa<|gD H23 vH c (fun _=>c) c fun x41 H24=>aa<|aI (l:=au.C (⟨0,0,0,0⟩:au)) fO c c fun b13=>aa<|aN (k:=0) (vs:=au.C x41) ff c c c c c c c<|ac<|aj<|ax<|M<|p (ad fE c)<|bg (bd (k:=0) aW c c c) c<|p (bK c c)<|O c<|av c H24 (fun k25 H26=>M<|O c<|ag<|Y ⟨3,c,H26⟩) fun k25 H26=>M<|J (aL c<|ao e16)<|p (aH c)<|p (ad gR c)<|aa<|aT H26 pI c (fun _=>c) c fun x50 H27=>J c<|J c<|cg H27 fun q53 e28 h29 H30=>p (bm nX (aL c<|aY e28) c h29)<|iV H30 fun h31 H32=>p (bu qe c c h31)<|p (ad fE c)<|aa<|aT H32 aW c (fun _=>c) c fun x56 H33=>p (nO c c)<|O c<|av c H33 (fun k34 H35=>M<|O c<|ag<|Y ⟨4,c,H35⟩) fun k34 H35=>M<|J c<|p (ad fE c)<|bg (bd (k:=0) aW c c c) c<|aa<|cD (vs:=[(.int .i64 a5),(.int .i64 x41.fRights)]) (bq<|cU a5 x41.fRights _) mj c c<|p (cf c)<|O c<|av c H35 (fun k36 H37=>M<|O c<|ag<|Y ⟨5,c,H37⟩) fun k36 H37=>am<|aj<|bj (n:=15) [bx b13 37 (au.C x41)] ci c (.cons_cons _ .slnil)<|U 0 c (ae<|aL c<|ao e16)<|U 1 c (aH c)<|U 2 c (ad gR c)<|U 4 c (ae c)<|U 5 c (ae c)<|U 6 c (ad sY c)<|z_E 7 c (cT (k:=0) aW c c c)<|U 8 c (ae c)<|U 9 c (ae c)<|U 10 c (ae c)<|U 11 c (aX c<|build_37_0_1_2_3 x41.fFrame a5 a1 a2)<|bD (i:=3) (fun _ _ _ _ hh=>hh) H37 c (by kernel_rfl) pI c (fun _=>c) c fun x67 H38=>fZ H38 fun q76 e39 h40 H41=>U 12 c (bm nX (aL c<|aY e39) c h40)<|U 13 c (bu qe c c h31)<|I 14 c<|dq ff c c c c c H41 fun _ H42=>⟨.cons_cons _ .slnil,aQ (by kernel_rfl)<|M<|O c<|ag<|Y ⟨0,c,H42⟩⟩) fun k8 H9=>W (bF<|bz k8)<|W (bF<|bz k8)<|p (aM c (bz k8) c)<|J c<|W c<|W c<|W c<|p (aM c c c)<|ac<|lq c c<|M<|O c<|ag<|Y ⟨2,c,H9⟩
def gS (s6:Sl × Int) (Rec18:(Sl × Int)→Hp→Prop) (s17:Sl × Int) (s23:Bool):Hp→Prop:=br s23 ( hpv Tryz.prog (Instr.buildSlice gM 1 #[(0,(.agg (aF.C (⟨s6.2,s17.2⟩:aF)).toArray))]) cK fun (v45:Sl)=>hpv Tryz.prog (Builtin.append_ #[gM,gM] gM #[(sv s17.1),(sv v45)]) cK fun (v46:Sl)=>Rec18 (v46,(IntKind.i64.wrap (s17.2 + 1)))) ( Rec18 (s17.1,(IntKind.i64.wrap (s17.2 + 1))))
def pU (a1:Value) (Rec7:(Sl × Int)→Hp→Prop) (s6:Sl × Int) (v26:(List Value)) (Rec18:(Sl × Int)→Hp→Prop) (s17:Sl × Int):Hp→Prop:=br (decide (s17.2 < 8)) ( hpv Tryz.prog (Instr.index kO (.agg v26.toArray) (.int .i64 s17.2)) R_api_Cap fun (v30:au)=>br (v30.fRights != 0) ( clv Tryz.prog a1 [(.agg (aF.C (⟨s6.2,s17.2⟩:aF)).toArray),(.agg (au.C v30).toArray)] az fun r41=>gS s6 Rec18 s17 r41) ( gS s6 Rec18 s17 false)) ( Rec7 (s17.1,(IntKind.i64.wrap (s6.2 + 1))))
def pV (a1:Value) (K:Sl→Hp→Prop) (q13:Nat × Nat) (x15:Sl) (Rec7:(Sl × Int)→Hp→Prop) (s6:Sl × Int):Hp→Prop:=br (decide (s6.2 < (x15.len:Int))) ( ld (q13.1,q13.2 + 0) cS fun x23=>ix x23 s6.2 fun q25=>hpv Tryz.prog (Instr.loadAt kO (.pointer (some ⟨q25.1,q25.2 + Int.toNat s6.2 * 32,none⟩))) encL fun (v26:(List Value))=>Lp (pU a1 Rec7 s6 v26) (s6.1,0)) ( K s6.1)
def vd (a0:Ptr) (a1:Value) (K:Sl→Hp→Prop):Hp→Prop:=br a0.isNone ( K (⟨none,0,0,none⟩:Sl)) ( nn a0 fun q13=>ld (q13.1,q13.2 + 0) cS fun x15=>Lp (pV a1 K q13 x15) ((⟨none,0,0,none⟩:Sl),0))
theorem sim_caps_Tree_all (a0:Ptr) (a1:Value) {K:Sl→Hp→Prop} {h:Hp} (H:vd a0 a1 K h):Ct Tryz.prog jV #[(pv a0),a1] h fun v h'=>∃ r,v = cK r∧K r h':=aw [(pv a0),a1] Tryz.func179 c c c fun _=>M<|O c<|aj<|M<|J c<|p (ch Tryz.underlying147 c)<|ac<|av c H (fun k1 H2=>M<|O c<|ag<|Y ⟨(⟨none,0,0,none⟩:Sl),c,H2⟩) fun k1 H2=>am<|M<|O c<|aj<|M<|J c<|bC H2 fun q13 e3 H4=>p (aH<|aL c<|ao e3)<|p (ad gR c)<|aa<|aT H4 pI c (fun _=>c) c fun x15 H5=>p (dv c Tryz.underlying203 c)<|J c<|ac<|ax<|bB (step:=pV a1 K q13 x15) (fun s6=>[(0,(pv a0)),(1,a1),(5,(sv s6.1)),(16,(.int .i64 (x15.len:Int))),(17,(.int .i64 s6.2))]) (fun s6=>[]) H5 (.cons c<|.cons c<|.cons c<|.cons c<|.cons c<|.nil _) .slnil fun Rec7 s6 _ H8=>M<|p (cm c c)<|ac<|aj<|av c H8 (fun k9 H10=>am<|aj<|ax<|M<|J c<|O c<|M<|J (aL c<|ao e3)<|p (aH c)<|p (ad gR c)<|aa<|aT H10 pI c (fun _=>c) c fun x23 H11=>J c<|cg H11 fun q25 e12 h13 H14=>p (bm nX (aL c<|aY e12) c h13)<|aa<|aR H14 (x_load c) c fun v26 _ H16=>J c<|ac<|ax<|bB (step:=pU a1 Rec7 s6 v26) (fun s17=>[(0,(pv a0)),(1,a1),(5,(sv s17.1)),(6,(.int .i64 s6.2)),(16,(.int .i64 (x15.len:Int))),(17,(.int .i64 s6.2)),(26,(.agg v26.toArray)),(27,(.int .i64 s17.2))]) (fun s17=>[]) H16 (.cons c<|.cons c<|.cons c<|.cons c<|.cons c<|.cons c<|.cons c<|.cons c<|.nil _) .slnil fun Rec18 s17 _ H19=>M<|p (cm c c)<|ac<|aj<|av c H19 (fun k20 H21=>am<|aj<|ax<|M<|J c<|aa<|aR H21 (x_index c c) c fun v30 _ H22=>aa<|aI (l:=au.C (⟨0,0,0,0⟩:au)) fO c c fun b8=>p (aq c)<|aa<|aN (k:=0) (vs:=au.C v30) ff c c c c c c c<|ac<|M<|J c<|J c<|p (aX c<|uH s6.2 s17.2)<|aa<|aI (l:=aF.C (⟨0,0⟩:aF)) zero_231 c c fun b9=>aa<|aN (k:=0) (vs:=aF.C (⟨s6.2,s17.2⟩:aF)) inf_231 c c c c c c c<|ac<|dX (gS s6 Rec18 s17) (fun s23=>[(0,(pv a0)),(1,a1),(5,(sv s17.1)),(6,(.int .i64 s6.2)),(9,(.pointer (some ⟨b9,0,none⟩))),(16,(.int .i64 (x15.len:Int))),(17,(.int .i64 s6.2)),(26,(.agg v26.toArray)),(27,(.int .i64 s17.2)),(42,(.bool s23))]) (fun s23=>[bx b9 231 (aF.C (⟨s6.2,s17.2⟩:aF))]) (ap<|p (ad fE c)<|bg (bd (k:=1) aW c c c) c<|p (nO c c)<|J c<|V c c (ay _) (fun g29=>wv<|ae c)<|V c c (ay _) (fun g30=>cv<|bA (k:=0) ag_231 c c c c)<|V c c (ay _) (fun g31=>cv<|bA (k:=1) vH c c c c)<|bP H22 (fun k33 H34=>G (Z k33)<|to_clv H34 (aB c k33) (aS (aB c k33)<|aS (aB c k33) bO) c fun r41 _ H35=>p (aM c k33 c)<|ac<|cq r41 H35 (.cons c<|.cons c<|.cons c<|.cons c<|.cons c<|.cons c<|.cons c<|.cons c<|.cons c<|.cons c<|.nil _)<|.cons_cons _<|.cons _ .slnil) fun k33 H34=>W (aP k33)<|p (an c k33 c)<|ac<|cq false H34 (.cons c<|.cons c<|.cons c<|.cons c<|.cons c<|.cons c<|.cons c<|.cons c<|.cons c<|.cons c<|.nil _)<|.cons_cons _<|.cons _ .slnil) fun s23 _ H24=>av c H24 (fun k25 H26=>ap<|J c<|bg (bA (k:=0) ag_231 c c c c) c<|aa<|aR H26 (bp (vs:=[(.agg (aF.C (⟨s6.2,s17.2⟩:aF)).toArray)]) c) c fun v45 _ H27=>aa<|aR H27 (dA c c) c fun v46 _ H28=>O c<|ap<|p (bt c c)<|J c<|ac<|cF (v46,(IntKind.i64.wrap (s17.2 + 1))) H28 (.cons c<|.cons c<|.cons c<|.cons c<|.cons c<|.cons c<|.cons c<|.cons c<|.nil _)<|.cons _ .slnil) fun k25 H26=>am<|ap<|p (bt c c)<|J c<|ac<|cF (s17.1,(IntKind.i64.wrap (s17.2 + 1))) H26 (.cons c<|.cons c<|.cons c<|.cons c<|.cons c<|.cons c<|.cons c<|.cons c<|.nil _)<|.cons _ .slnil) fun k20 H21=>bh<|ap<|p (bt c c)<|J c<|ac<|cF (s17.1,(IntKind.i64.wrap (s6.2 + 1))) H21 (.cons c<|.cons c<|.cons c<|.cons c<|.cons c<|.nil _) .slnil) fun k9 H10=>bh<|M<|J c<|O c<|ag<|Y ⟨s6.1,c,H10⟩
def tU (a0:Ptr) (a1:Int) (a2:Int) (K:Int→Hp→Prop):Hp→Prop:=br a0.isNone ( K 10) ( cl Tryz.prog hH [(pv a0),(.int .i64 a1),(.int .i64 a2)] az fun r14=>br (!r14) ( K 2) ( nn a0 fun q18=>ld (q18.1,q18.2 + 0) cS fun x20=>ix x20 a1 fun q23=>gd (0 ≤ a2∧a2 < 8)<|ld (q23.1,q23.2 + Int.toNat a1 * 32 + Int.toNat a2 * 4 + 1) (cI .i64) fun x26=>br (x26 == 0) ( K 3) ( K 0)))
theorem sim_caps_Tree_look (a0:Ptr) (a1:Int) (a2:Int) {K:Int→Hp→Prop} {h:Hp} (H:tU a0 a1 a2 K h):Ct Tryz.prog lO #[(pv a0),(.int .i64 a1),(.int .i64 a2)] h fun v h'=>∃ r,v = aZ r∧K r h':=aw [(pv a0),(.int .i64 a1),(.int .i64 a2)] Tryz.func195 c c c fun _=>M<|O c<|aj<|ax<|M<|J c<|p (ch Tryz.underlying147 c)<|O c<|av c H (fun k1 H2=>M<|O c<|ag<|Y ⟨10,c,H2⟩) fun k1 H2=>M<|J c<|J c<|J c<|aa<|D H2 en_145 fun r14 _ H3=>p (cf c)<|O c<|av c H3 (fun k4 H5=>M<|O c<|ag<|Y ⟨2,c,H5⟩) fun k4 H5=>M<|J c<|bC H5 fun q18 e6 H7=>p (aH<|aL c<|ao e6)<|p (ad gR c)<|aa<|aT H7 pI c (fun _=>c) c fun x20 H8=>J c<|J c<|cg H8 fun q23 e9 h10 H11=>p (bm nX (aL c<|aY e9) c h10)<|iV H11 fun h12 H13=>p (bu qe c c h12)<|p (ad fE c)<|aa<|aT H13 aW c (fun _=>c) c fun x26 H14=>p (bK c c)<|O c<|av c H14 (fun k15 H16=>M<|O c<|ag<|Y ⟨3,c,H16⟩) fun k15 H16=>am<|M<|O c<|ag<|Y ⟨0,c,H16⟩
def lu (a0:Ptr) (a1:Sl) (K:Sl→Hp→Prop) (Rec2:Int→Hp→Prop) (s1:Int):Hp→Prop:=br (decide (s1 < (a1.len:Int))) ( ix a1 s1 fun q11=>ld (q11.1,q11.2 + Int.toNat s1 * 2) aF.C fun x12=>nn a0 fun q14=>ld (q14.1,q14.2 + 0) cS fun x16=>ix x16 x12.fEnv fun q22=>gd (0 ≤ x12.fSlot∧x12.fSlot < 8)<|st (q22.1,q22.2 + Int.toNat x12.fEnv * 32 + Int.toNat x12.fSlot * 4) (au.C (⟨0,0,0,0⟩:au))<|Rec2 (IntKind.i64.wrap (s1 + 1))) ( K a1)
def qx (a0:Ptr) (a1:Sl) (K:Sl→Hp→Prop):Hp→Prop:=Lp (lu a0 a1 K) 0
theorem sim_caps_Tree_empties (a0:Ptr) (a1:Sl) {K:Sl→Hp→Prop} {h:Hp} (H:qx a0 a1 K h):Ct Tryz.prog gz #[(pv a0),(sv a1)] h fun v h'=>∃ r,v = cK r∧K r h':=aw [(pv a0),(sv a1)] Tryz.func196 c c c fun _=>M<|O c<|aj<|M<|J c<|p (dv c Tryz.underlying197 c)<|J c<|ac<|ax<|bB (step:=lu a0 a1 K) (fun s1=>[(0,(pv a0)),(1,(sv a1)),(7,(sv a1)),(8,(.int .i64 (a1.len:Int))),(9,(.int .i64 s1))]) (fun s1=>[]) H (.cons c<|.cons c<|.cons c<|.cons c<|.cons c<|.nil _) .slnil fun Rec2 s1 _ H3=>M<|p (cm c c)<|ac<|aj<|av c H3 (fun k4 H5=>am<|aj<|ax<|M<|cg H5 fun q11 e6 h7 H8=>p (bm slc_197 (aL c<|aY e6) c h7)<|aa<|gD H8 ag_231 c (fun _=>c) c fun x12 H9=>aa<|aI (l:=aF.C (⟨0,0⟩:aF)) zero_231 c c fun b6=>aa<|aN (k:=0) (vs:=aF.C x12) inf_231 c c c c c c c<|ac<|bj (n:=12) [bx b6 231 (aF.C x12)] ci c (.cons_cons _ .slnil)<|U 0 c (ae c)<|U 4 c (ad fld_231_0 c)<|z_E 5 c (cT (k:=0) aW c c c)<|U 6 c (ad fld_231_1 c)<|z_E 7 c (cT (k:=0) aW c c c)<|U 8 c (aX (vs:=[]) c build_37)<|gI H9 fun q14 e10 H11=>U 1 c (aH<|aL c<|ao e10)<|U 2 c (ad gR c)<|bD (i:=3) (fun _ _ _ _ hh=>hh) H11 c (by kernel_rfl) pI c (fun _=>c) c fun x16 H12=>fZ H12 fun q22 e13 h14 H15=>U 9 c (bm nX (aL c<|aY e13) c h14)<|eva_gd H15 fun h16 H17=>U 10 c (bu qe c c h16)<|I 11 c<|dq ff c c c c c H17 fun _ H18=>⟨.cons_cons _ .slnil,aQ (by kernel_rfl)<|ap<|p (bt c c)<|J c<|ac<|cF (IntKind.i64.wrap (s1 + 1)) H18 (.cons c<|.cons c<|.cons c<|.cons c<|.cons c<|.nil _)<|.cons _ .slnil⟩) fun k4 H5=>bh<|M<|J c<|O c<|ag<|Y ⟨a1,c,H5⟩
def nc (a0:Ptr) (a2:aF) (K:Bool→Hp→Prop) (Rec2:au→Hp→Prop) (s1:au):Hp→Prop:=br ((s1.fRights != 0) && (decide (s1.fEnv ≥ 0))) ( br ((s1.fEnv == a2.fEnv) && (s1.fSlot == a2.fSlot)) ( K true) ( nn a0 fun q28=>ld (q28.1,q28.2 + 0) cS fun x30=>ix x30 s1.fEnv fun q35=>gd (0 ≤ s1.fSlot∧s1.fSlot < 8)<|ld (q35.1,q35.2 + Int.toNat s1.fEnv * 32 + Int.toNat s1.fSlot * 4) au.C fun x37=>Rec2 x37)) ( K false)
def sG (a0:Ptr) (a1:au) (a2:aF) (K:Bool→Hp→Prop):Hp→Prop:=Lp (nc a0 a2 K) a1
theorem sim_caps_Tree_under (a0:Ptr) (a1:au) (a2:aF) {K:Bool→Hp→Prop} {h:Hp} (H:sG a0 a1 a2 K h):Ct Tryz.prog kK #[(pv a0),(.agg (au.C a1).toArray),(.agg (aF.C a2).toArray)] h fun v h'=>∃ r,v = az r∧K r h':=aw [(pv a0),(.agg (au.C a1).toArray),(.agg (aF.C a2).toArray)] Tryz.func181 c c c fun _=>M<|aa<|cE (l:=au.C a1) c c c fun b4=>aa<|cE (l:=aF.C a2) c c c fun b5=>O c<|aj<|ax<|bB (step:=nc a0 a2 K) (fun s1=>[(0,(pv a0)),(4,(.pointer (some ⟨b4,0,none⟩))),(5,(.pointer (some ⟨b5,0,none⟩)))]) (fun s1=>[bx b5 231 (aF.C a2),bx b4 37 (au.C s1)]) H (.cons c<|.cons c<|.cons c<|.nil _) (.cons_cons _<|.cons_cons _ .slnil) fun Rec2 s1 _ H3=>aj<|M<|p (ad fE c)<|bg (bd (k:=1) aW c c c) c<|p (nO c c)<|J c<|V c c (ay _) (fun g4=>wv<|ad mD c)<|V c c (ay _) (fun g5=>cv<|bd (k:=1) aW (aB c g5) c c)<|V c c (ay _) (fun g6=>wv<|jy (aB c g6) c)<|p (bM c c)<|ac<|av c H3 (fun k7 H8=>am<|ax<|aj<|M<|p (ad mD c)<|bg (bd (k:=1) aW c c c) c<|p (ad fld_231_0 c)<|bg (bd (k:=0) aW c c c) c<|p (bK c c)<|J c<|V c c (ay _) (fun g9=>wv<|ad fld_37_3 c)<|V c c (ay _) (fun g10=>cv<|bd (k:=1) aW (aB c g10) c c)<|V c c (ay _) (fun g11=>wv<|ad fld_231_1 c)<|V c c (ay _) (fun g12=>cv<|bd (k:=0) aW (aB c g12) c c)<|V c c (ay _) (fun g13=>wv<|bK (aB c g13)<|aB c g13)<|p (bM c c)<|ac<|av c H8 (fun k14 H15=>M<|O c<|ag<|Y ⟨true,c,H15⟩) fun k14 H15=>am<|bj (n:=12) [] ci c (.cons _<|.cons _ .slnil)<|U 0 c (ae c)<|U 4 c (ad mD c)<|U 6 c (ad fld_37_3 c)<|gI H15 fun q28 e16 H17=>U 1 c (aH<|aL c<|ao e16)<|U 2 c (ad gR c)<|bD (i:=3) (fun _ _ _ _ hh=>hh) H17 c (by kernel_rfl) pI c (fun _=>c) c fun x30 H18=>eva_load (i:=5) (fun _ _ _ _ hh=>hh) c (by kernel_rfl) c (bd (k:=1) aW c c c)<|fZ H18 fun q35 e19 h20 H21=>U 8 c (bm nX (aL c<|aY e19) c h20)<|eva_load (i:=7) (fun _ _ _ _ hh=>hh) c (by kernel_rfl) c (bd (k:=1) aW c c c)<|eva_gd H21 fun h22 H23=>U 9 c (bu qe c c h22)<|wT (i:=10) (fun _ _ _ _ hh=>hh) H23 c (by kernel_rfl) vH c (fun _=>c) c fun x37 H24=>I 11 c<|aN (k:=1) (vs:=au.C x37) ff c c c c c c c ⟨.cons _<|.cons _ .slnil,aQ (by kernel_rfl)<|cF x37 H24 (.cons c<|.cons c<|.cons c<|.nil _)<|.cons_cons _<|.cons_cons _ .slnil⟩) fun k7 H8=>bh<|M<|O c<|ag<|Y ⟨false,c,H8⟩
def qy (a0:aF) (a1:au) (c0:Nat) (c1:Nat) (K:Bool→Hp→Prop):Hp→Prop:=ld (c0,0) aF.C fun x8=>br (!(aF.eqb a0 x8)) ( ld (c1,0) cP fun x11=>ld (c0,0) aF.C fun x13=>cl Tryz.prog kK [(pv x11),(.agg (au.C a1).toArray),(.agg (aF.C x13).toArray)] az fun r14=>K r14) ( K true)
theorem sim_caps_Tree_Drop_c1 (a0:aF) (a1:au) (c0:Nat) (c1:Nat) {K:Bool→Hp→Prop} {h:Hp} (H:qy a0 a1 c0 c1 K h):Ct Tryz.prog gA #[(.agg (aF.C a0).toArray),(.agg (au.C a1).toArray),(.pointer (some ⟨c0,0,none⟩)),(.pointer (some ⟨c1,0,none⟩))] h fun v h'=>∃ r,v = az r∧K r h':=aw [(.agg (aF.C a0).toArray),(.agg (au.C a1).toArray),(.pointer (some ⟨c0,0,none⟩)),(.pointer (some ⟨c1,0,none⟩))] Tryz.func197 c c c fun _=>M<|aa<|cE (l:=aF.C a0) c c c fun b4=>aa<|cE (l:=au.C a1) c c c fun b5=>O c<|M<|bg (bA (k:=1) ag_231 c c c c) c<|aa<|gD H ag_231 c (fun _=>c) c fun x8 H1=>p (v_eqA eqg_231 (eqr_231 9998 _ _) c c)<|J c<|bP H1 (fun k3 H4=>G (Z<|bS k3)<|aT H4 gY c (fun _=>c) c fun x11 H5=>G (Z<|bS k3)<|sK (cv<|bA (k:=0) vH c c c c) c<|G (Z<|bS k3)<|gD H5 ag_231 c (fun _=>c) c fun x13 H6=>G (Z<|bS k3)<|D H6 en_181 fun r14 _ H7=>p (an c (bS k3) c)<|O c<|ag<|Y ⟨r14,c,H7⟩) fun k3 H4=>W (bF<|bz k3)<|W (bF<|bz k3)<|W (bF<|bz k3)<|W (bF<|bz k3)<|p (aM c (bz k3) c)<|O c<|ag<|Y ⟨true,c,H4⟩
def tW (a0:Ptr) (a1:Int) (a2:Int) (K:(Sl × Int)→Hp→Prop):Hp→Prop:=nw rC [pv a0] fun b3=>ld (b3,0) cP fun x10=>cl Tryz.prog lO [(pv x10),(.int .i64 a1),(.int .i64 a2)] aZ fun r13=>br (r13 != 0) ( K ((⟨none,0,0,none⟩:Sl),r13)) ( nw rB (aF.C (⟨0,0⟩:aF)) fun b9=>st (b9,0) (aF.C (⟨a1,a2⟩:aF))<|ld (b3,0) cP fun x21=>both ( ld (b3,0) cP fun x20=>cl Tryz.prog jV [(pv x21),(.func (.func gA) #[] #[(.pointer (some ⟨b9,0,none⟩)),(.pointer (some ⟨b3,0,none⟩))])] cK fun r23=>cl Tryz.prog gz [(pv x20),(sv r23)] cK fun r24=>K (r24,0)) ( cl Tryz.prog jV [(pv x21),(.func (.func gA) #[] #[(.pointer (some ⟨b9,0,none⟩)),(.pointer (some ⟨b3,0,none⟩))])] cK fun r23=>ld (b3,0) cP fun x20=>cl Tryz.prog gz [(pv x20),(sv r23)] cK fun r24=>K (r24,0)))
theorem sim_caps_Tree_Drop (a0:Ptr) (a1:Int) (a2:Int) {K:(Sl × Int)→Hp→Prop} {h:Hp} (H:tW a0 a1 a2 K h):Ct Tryz.prog lP #[(pv a0),(.int .i64 a1),(.int .i64 a2)] h fun v h'=>∃ r,v = dp r∧K r h':=aw [(pv a0),(.int .i64 a1),(.int .i64 a2)] Tryz.func169 c c c fun _=>M<|aa<|gT c c c H fun b3 _ H1=>p (aq c)<|O c<|aj<|M<|aa<|aT H1 gY c (fun _=>c) c fun x10 H2=>J c<|J c<|aa<|D H2 en_195 fun r13 _ H3=>O c<|M<|J c<|p (nO c c)<|ac<|av c H3 (fun k4 H5=>M<|J c<|p (aq c)<|O c<|ag<|bo (bL c (bV c)<|bV c) ⟨((⟨none,0,0,none⟩:Sl),r13),c,H5⟩) fun k4 H5=>am<|M<|J c<|J c<|p (aX c<|uH a1 a2)<|aa<|to_alloc zero_231 c c H5 fun b9 _ H6=>aa<|dq inf_231 c c c c c H6 fun _ H7=>ac<|aj<|bj (n:=7) [] ci c .slnil<|U 2 c (v_func c c)<|bD (i:=1) (fun _ _ _ _ hh=>hh) H7 c (by kernel_rfl) gY c (fun _=>c) c fun x21 H8=>js H8 fun H9_1 H9_2=>jt (i:=0) (j:=3) (by kernel_rfl) (cy c c<|aT H9_1 gY c (fun _=>c) c fun x20 H10=>⟨.slnil,I 3 c<|D H10 en_179 fun r23 _ H11=>⟨.slnil,I 4 c<|D H11 en_196 fun r24 _ H12=>⟨.slnil,U 5 c (aq c)<|U 6 c (aq c)<|aQ (by kernel_rfl)<|ag<|bo (bL c (bV c)<|bV c) ⟨(r24,0),c,H12⟩⟩⟩⟩)<|cy c c<|D H9_2 en_179 fun r23 _ H10=>⟨.slnil,bD (i:=0) (fun _ _ _ _ hh=>hh) H10 c (by kernel_rfl) gY c (fun _=>c) c fun x20 H11=>I 4 c<|D H11 en_196 fun r24 _ H12=>⟨.slnil,U 5 c (aq c)<|U 6 c (aq c)<|aQ (by kernel_rfl)<|ag<|bo (bL c (bV c)<|bV c) ⟨(r24,0),c,H12⟩⟩⟩
def pt (a0:aF) (a1:au) (c0:Nat) (c1:Nat) (c2:Nat) (K:Bool→Hp→Prop):Hp→Prop:=ld (c0,0) cP fun x8=>ld (c1,0) (cI .i64) fun x10=>ld (c2,0) (cI .i64) fun x11=>cl Tryz.prog kK [(pv x8),(.agg (au.C a1).toArray),(.agg (aF.C (⟨x10,x11⟩:aF)).toArray)] az fun r13=>K r13
theorem wt (a0:aF) (a1:au) (c0:Nat) (c1:Nat) (c2:Nat) {K:Bool→Hp→Prop} {h:Hp} (H:pt a0 a1 c0 c1 c2 K h):Ct Tryz.prog ll #[(.agg (aF.C a0).toArray),(.agg (au.C a1).toArray),(.pointer (some ⟨c0,0,none⟩)),(.pointer (some ⟨c1,0,none⟩)),(.pointer (some ⟨c2,0,none⟩))] h fun v h'=>∃ r,v = az r∧K r h':=aw [(.agg (aF.C a0).toArray),(.agg (au.C a1).toArray),(.pointer (some ⟨c0,0,none⟩)),(.pointer (some ⟨c1,0,none⟩)),(.pointer (some ⟨c2,0,none⟩))] Tryz.func180 c c c fun _=>M<|aa<|cE (l:=aF.C a0) c c c fun b5=>aa<|cE (l:=au.C a1) c c c fun b6=>O c<|M<|aa<|aT H gY c (fun _=>c) c fun x8 H1=>bg (bA (k:=0) vH c c c c) c<|aa<|aT H1 aW c (fun _=>c) c fun x10 H2=>aa<|aT H2 aW c (fun _=>c) c fun x11 H3=>p (aX c<|uH x10 x11)<|aa<|D H3 en_181 fun r13 _ H4=>O c<|ag<|Y ⟨r13,c,H4⟩
def sH (a0:Ptr) (a1:Int) (a2:Int) (K:Sl→Hp→Prop):Hp→Prop:=nw rC [pv a0] fun b3=>nw kE [.int .i64 a1] fun b4=>nw kE [.int .i64 a2] fun b5=>ld (b3,0) cP fun x7=>cl Tryz.prog jV [(pv x7),(.func (.func ll) #[] #[(.pointer (some ⟨b3,0,none⟩)),(.pointer (some ⟨b4,0,none⟩)),(.pointer (some ⟨b5,0,none⟩))])] cK fun r9=>K r9
theorem sim_caps_Tree_Below (a0:Ptr) (a1:Int) (a2:Int) {K:Sl→Hp→Prop} {h:Hp} (H:sH a0 a1 a2 K h):Ct Tryz.prog kL #[(pv a0),(.int .i64 a1),(.int .i64 a2)] h fun v h'=>∃ r,v = cK r∧K r h':=aw [(pv a0),(.int .i64 a1),(.int .i64 a2)] Tryz.func139 c c c fun _=>M<|aa<|gT c c c H fun b3 _ H1=>aa<|gT c c c H1 fun b4 _ H2=>aa<|gT c c c H2 fun b5 _ H3=>O c<|M<|aa<|aT H3 gY c (fun _=>c) c fun x7 H4=>p (v_func c c)<|aa<|D H4 en_179 fun r9 _ H5=>O c<|ag<|Y ⟨r9,c,H5⟩
def rx (a0:Ptr) (a1:Int) (a2:Int) (K:(Sl × Int)→Hp→Prop):Hp→Prop:=cl Tryz.prog lO [(pv a0),(.int .i64 a1),(.int .i64 a2)] aZ fun r12=>br (r12 != 0) ( K ((⟨none,0,0,none⟩:Sl),r12)) ( cl Tryz.prog kL [(pv a0),(.int .i64 a1),(.int .i64 a2)] cK fun r20=>cl Tryz.prog gz [(pv a0),(sv r20)] cK fun r21=>K (r21,0))
theorem sim_caps_Tree_Revoke (a0:Ptr) (a1:Int) (a2:Int) {K:(Sl × Int)→Hp→Prop} {h:Hp} (H:rx a0 a1 a2 K h):Ct Tryz.prog mX #[(pv a0),(.int .i64 a1),(.int .i64 a2)] h fun v h'=>∃ r,v = dp r∧K r h':=aw [(pv a0),(.int .i64 a1),(.int .i64 a2)] Tryz.func170 c c c fun _=>M<|p (aq c)<|O c<|aj<|M<|J c<|J c<|J c<|aa<|D H en_195 fun r12 _ H1=>O c<|M<|J c<|p (nO c c)<|ac<|av c H1 (fun k2 H3=>M<|J c<|p (aq c)<|O c<|ag<|bo (bL c (bV c)<|bV c) ⟨((⟨none,0,0,none⟩:Sl),r12),c,H3⟩) fun k2 H3=>am<|M<|J c<|J c<|J c<|J c<|aa<|D H3 en_139 fun r20 _ H4=>aa<|D H4 en_196 fun r21 _ H5=>p (aq c)<|O c<|ag<|bo (bL c (bV c)<|bV c) ⟨(r21,0),c,H5⟩
def sh_caps_New (a0:Int) (K:Ptr→Hp→Prop):Hp→Prop:=br ((decide (a0 < 1)) || (decide (a0 > 4))) ( K none) ( hpv Tryz.prog (Instr.makeSlice t_S_8_api_Cap (.int .i64 a0) (.int .i64 a0)) R_S_8_api_Cap fun (v10:Sl)=>nw nj (nL.C (⟨v10⟩:nL)) fun b12=>K (some (b12,0)))
theorem sim_caps_New (a0:Int) {K:Ptr→Hp→Prop} {h:Hp} (H:sh_caps_New a0 K h):Ct Tryz.prog wJ #[(.int .i64 a0)] h fun v h'=>∃ r,v = rZ r∧K r h':=aw [(.int .i64 a0)] Tryz.func95 c c c fun _=>M<|O c<|aj<|M<|J c<|p (cm c c)<|J c<|V c c (aK _) (fun g1=>wv<|ae c)<|V c c (aK _) (fun g2=>wv<|qi (aB c g2) c)<|p (dm c c)<|ac<|av c H (fun k3 H4=>M<|O c<|ag<|Y ⟨none,c,H4⟩) fun k3 H4=>am<|M<|J c<|aa<|aR H4 (jz c c) c fun v10 _ H5=>p (aX c<|build_205_0 v10)<|aa<|gT c c c H5 fun b12 _ H6=>O c<|ag<|Y ⟨some (b12,0),c,H6⟩
end Go.Proofs.YtmggcfijlpldpaaGreatDoor
namespace Go.Proofs.YtmggcfijlpldpaaGreatDoor
open Go Mb
namespace Mb
def SpV {τ:Type} (P:Program) (c:Value) (args:List Value) (enc:τ→Value) (pre:List As) (post:τ→As):Prop :=
  ∃ f fi ca,c = .func (.func f) fi ca∧aJ P f∧∀ h,aE pre h→Ct P f ((fi++args.toArray)++ca) h fun v h'=>∃ r,v = enc r∧post r h'
theorem star_rot {m:List As} {B:As} {h:Hp} (s:aE (m++[B]) h):aE (B::m) h:=ke (List.perm_append_singleton _ _) s
theorem star_rot' {m:List As} {B:As} {h:Hp} (s:aE (B::m) h):aE (m++[B]) h:=ke (List.perm_append_singleton _ _).symm s
theorem clv_t {τ:Type} {P:Program} {c:Value} {args:List Value} {enc:τ→Value} {pre:List As} {B:As} {post:τ→As} {K:τ→Hp→Prop} {h:Hp} (H:SpV P c args enc pre post) (s:aE (B::pre) h)
    (k:∀ r h',aE [post r,B] h'→K r h'):clv P c args enc K h:=by
  obtain ⟨f,fi,ca,rfl,he,H⟩:=H
  obtain ⟨h1,h2,d,rfl,s1,s2⟩:=eN.1 (star_rot' s)
  exact ⟨f,fi,ca,rfl,he,(H h1 s1).frame_mono d rfl fun v h' ⟨r,hv,q⟩ dj=>⟨r,hv,k r _ ⟨h',h2,dj,rfl,q,s2⟩⟩⟩
end Mb
abbrev Cap:=au
abbrev cY:=aF
abbrev qY:Cap:=⟨0,0,0,0⟩
theorem qd (c:Cap):c.C.length = 4:=rfl
theorem vg (c:cY):c.C.length = 2:=rfl
theorem place_one (c:cY):dC c.C = true:=rfl
instance:DecidableEq cY:=fun a b=>decidable_of_iff (a.fEnv = b.fEnv∧a.fSlot = b.fSlot) ⟨fun h=>by cases a; cases b; simp_all,fun h=>by subst h; exact ⟨rfl,rfl⟩⟩
def enc8 (r:List Cap):List Value:=((r++List.replicate 8 qY).take 8).flatMap au.C
theorem enc8_len (r:List Cap):(enc8 r).length = 32:=by unfold enc8; rw [dW qd]; simp
theorem enc8_eq {r:List Cap} (h:r.length = 8):enc8 r = r.flatMap au.C:=by
  unfold enc8; rw [List.take_append_of_le_length (by omega),← h,List.take_length]
namespace Caps
abbrev T:=List (List Cap)
def has (t:T) (e s:Int):Bool:=decide (0 ≤ e∧e < t.length∧0 ≤ s∧s < 8)
def get (t:T) (e s:Int):Cap:=(t.getD e.toNat []).getD s.toNat qY
def put (t:T) (e s:Int) (c:Cap):T:=t.set e.toNat ((t.getD e.toNat []).set s.toNat c)
def at_ (t:T) (e s:Int):Cap × Bool:=if has t e s = true∧(get t e s).fRights ≠ 0 then (get t e s,true) else (qY,false)
def root (t:T) (e s f:Int):Int × T :=
  if has t e s = false∨f < 0∨f ≥ 16 then (2,t) else if (get t e s).fRights ≠ 0 then (4,t) else (0,put t e s ⟨f,3,-1,0⟩)
def derive (t:T) (e src to dst r:Int):Int × T :=
  if has t e src = false∨has t to dst = false∨cz r = false then (2,t)
  else if (get t e src).fRights = 0 then (3,t) else if (get t to dst).fRights ≠ 0 then (4,t)
  else if be r (get t e src).fRights = false then (5,t) else (0,put t to dst ⟨(get t e src).fFrame,r,e,src⟩)
def up:Nat→T→Cap→cY→Bool
  | 0,_,_,_=>false
  | n + 1,t,c,p=>if c.fRights ≠ 0∧0 ≤ c.fEnv then (if c.fEnv = p.fEnv∧c.fSlot = p.fSlot then true else up n t (get t c.fEnv c.fSlot) p) else false
def deep:Nat→T→Cap→Nat
  | 0,_,_=>0
  | n + 1,t,c=>if c.fRights ≠ 0∧0 ≤ c.fEnv then deep n t (get t c.fEnv c.fSlot) + 1 else 0
def under (t:T) (c:Cap) (p:cY):Bool:=up 40 t c p
def rowOf (P:Int→Int→Cap→Bool) (e:Int):List Cap→Int→List cY
  | [],_=>[]
  | c::cs,s=>if c.fRights ≠ 0∧P e s c = true then ⟨e,s⟩::rowOf P e cs (s + 1) else rowOf P e cs (s + 1)
def allOf (P:Int→Int→Cap→Bool):T→Int→List cY
  | [],_=>[]
  | r::rs,e=>rowOf P e r 0++allOf P rs (e + 1)
def below (t:T) (e s:Int):List cY:=allOf (fun _ _ c=>under t c ⟨e,s⟩) t 0
def own (t:T) (e s:Int):List cY:=allOf (fun a b c=>aF.eqb ⟨a,b⟩ ⟨e,s⟩ || under t c ⟨e,s⟩) t 0
def empties (t:T):List cY→T
  | []=>t
  | p::l=>empties (put t p.fEnv p.fSlot qY) l
def look (t:T) (e s:Int):Int:=if has t e s = false then 2 else if (get t e s).fRights = 0 then 3 else 0
def revoke (t:T) (e s:Int):(List cY × Int) × T:=if look t e s ≠ 0 then (([],look t e s),t) else ((below t e s,0),empties t (below t e s))
def drop (t:T) (e s:Int):(List cY × Int) × T:=if look t e s ≠ 0 then (([],look t e s),t) else ((own t e s,0),empties t (own t e s))
structure Ok (t:T):Prop where
  len:t.length ≤ 4
  row:∀ r ∈ t,r.length = 8
  rk:∃ rank:Int→Int→Nat,∀ e s,has t e s = true→(get t e s).fRights ≠ 0→0 ≤ (get t e s).fEnv →
    has t (get t e s).fEnv (get t e s).fSlot = true∧(get t (get t e s).fEnv (get t e s).fSlot).fRights ≠ 0∧rank (get t e s).fEnv (get t e s).fSlot < rank e s
theorem has_nat {t:T} {e s:Int} (h:has t e s = true):∃ m n:Nat,e = m∧s = n∧m < t.length∧n < 8:=by
  unfold has at h
  have:=of_decide_eq_true h
  exact ⟨e.toNat,s.toNat,by omega,by omega,by omega,by omega⟩
theorem has_of {t:T} {m n:Nat} (h1:m < t.length) (h2:n < 8):has t m n = true:=by
  unfold has; exact decide_eq_true ⟨by omega,by omega,by omega,by omega⟩
theorem get_nat' {t:T} (ok:∀ r ∈ t,r.length = 8) {m n:Nat} (h1:m < t.length) (h2:n < 8):∃ h3:n < t[m].length,get t m n = t[m][n]:=by
  have:=ok _ (List.getElem_mem h1)
  refine ⟨by omega,?_⟩
  have h3:n < t[m].length:=by omega
  simp [get,h1,h3]
theorem put_nat {t:T} {m n:Nat} (h1:m < t.length) (c:Cap):put t m n c = t.set m (t[m].set n c):=by simp [put,h1]
theorem put_len (t:T) (e s:Int) (c:Cap):(put t e s c).length = t.length:=by simp [put]
theorem tY (t:T) (e s:Int) (c:Cap) (a b:Int):has (put t e s c) a b = has t a b:=by unfold has; rw [put_len]
theorem put_row {t:T} (ok:∀ r ∈ t,r.length = 8) (e s:Int) (c:Cap):∀ r ∈ put t e s c,r.length = 8:=by
  intro r hr
  unfold put at hr
  rcases List.mem_or_eq_of_mem_set hr with h | h
  · exact ok r h
  · subst h
    by_cases hm:e.toNat < t.length
    · simp [hm]; exact ok _ (List.getElem_mem hm)
    · rw [List.set_eq_of_length_le (by omega)] at hr; exact ok _ hr
theorem wR {t:T} (ok:∀ r ∈ t,r.length = 8) {e s a b:Int} (h:has t e s = true) (h2:has t a b = true) (c:Cap):get (put t e s c) a b = if a = e∧b = s then c else get t a b:=by
  obtain ⟨m,n,rfl,rfl,hm,hn⟩:=has_nat h
  obtain ⟨i,j,rfl,rfl,hi,hj⟩:=has_nat h2
  have hl:=ok _ (List.getElem_mem hm)
  rw [put_nat hm]
  simp only [get,Int.toNat_natCast,List.getD_eq_getElem?_getD,List.getElem?_set]
  by_cases e1:m = i
  · subst e1
    by_cases e2:n = j
    · subst e2; simp [hm,hl,hn]
    · have:¬ ((m:Int) = m∧(j:Int) = n):=by omega
      rw [if_neg this]; simp [hm,e2]
  · have:¬ ((i:Int) = m∧(j:Int) = n):=by omega
    rw [if_neg this]; simp [e1]
theorem pigeon:∀ (n:Nat) (l:List Nat),l.Nodup→(∀ x ∈ l,x < n)→l.length ≤ n
  | 0,l,_,h=>by
    cases l with
    | nil=>simp
    | cons a l=>exact absurd (h a (by simp)) (by omega)
  | n + 1,l,d,h=>by
    have h1:=pigeon n (l.erase n) (d.erase n) (fun x hx=>by
      have h2:=d.mem_erase_iff.1 hx
      have:=h x h2.2
      have:=h2.1
      omega)
    rw [List.length_erase] at h1
    split at h1 <;> omega
theorem path {t:T} (ok:Ok t) {rank:Int→Int→Nat} (hr:∀ e s,has t e s = true→(get t e s).fRights ≠ 0→0 ≤ (get t e s).fEnv →
    has t (get t e s).fEnv (get t e s).fSlot = true∧(get t (get t e s).fEnv (get t e s).fSlot).fRights ≠ 0∧rank (get t e s).fEnv (get t e s).fSlot < rank e s) :
    ∀ (n:Nat) (e s:Int),has t e s = true→∃ l:List Nat,l.length = deep n t (get t e s)∧l.Pairwise (fun a b=>rank (b / 8:Nat) (b % 8:Nat) < rank (a / 8:Nat) (a % 8:Nat))∧∀ a ∈ l,a < 32∧rank (a / 8:Nat) (a % 8:Nat) < rank e s
  | 0,_,_,_=>⟨[],rfl,.nil,fun a h=>by cases h⟩
  | n + 1,e,s,h=>by
    by_cases hc:(get t e s).fRights ≠ 0∧0 ≤ (get t e s).fEnv
    · obtain ⟨h1,h2,h3⟩:=hr e s h hc.1 hc.2
      obtain ⟨l,hl,hp,hb⟩:=path ok hr n _ _ h1
      obtain ⟨i,j,ei,ej,hi,hj⟩:=has_nat h1
      have hlen:=ok.len
      have e1:(i * 8 + j) / 8 = i:=by omega
      have e2:(i * 8 + j) % 8 = j:=by omega
      refine ⟨(i * 8 + j)::l,?_,?_,?_⟩
      · simp only [List.length_cons,deep]; rw [if_pos hc,hl]
      · refine List.pairwise_cons.2 ⟨fun b hb'=>?_,hp⟩
        have:=(hb b hb').2
        rw [e1,e2,← ei,← ej]; exact this
      · intro a ha
        rcases List.mem_cons.1 ha with rfl | ha
        · rw [e1,e2,← ei,← ej]; exact ⟨by omega,h3⟩
        · exact ⟨(hb a ha).1,Nat.lt_trans (hb a ha).2 h3⟩
    · exact ⟨[],by simp only [deep]; rw [if_neg hc]; rfl,.nil,fun a h=>by cases h⟩
theorem deep_le {t:T} (ok:Ok t) {e s:Int} (h:has t e s = true) (n:Nat):deep n t (get t e s) ≤ 32:=by
  obtain ⟨rank,hr⟩:=ok.rk
  obtain ⟨l,hl,hp,hb⟩:=path ok hr n e s h
  rw [← hl]
  refine pigeon 32 l (hp.imp ?_) (fun x hx=>(hb x hx).1)
  rintro a b hab rfl
  exact absurd hab (Nat.lt_irrefl _)
theorem deep_s (n:Nat) (t:T) (c:Cap):deep (n + 1) t c = if c.fRights ≠ 0∧0 ≤ c.fEnv then deep n t (get t c.fEnv c.fSlot) + 1 else 0:=rfl
theorem up_s (n:Nat) (t:T) (c:Cap) (p:cY):up (n + 1) t c p = if c.fRights ≠ 0∧0 ≤ c.fEnv then (if c.fEnv = p.fEnv∧c.fSlot = p.fSlot then true else up n t (get t c.fEnv c.fSlot) p) else false:=rfl
theorem deep_succ {t:T}:∀ {n:Nat} {c:Cap},deep n t c < n→deep (n + 1) t c = deep n t c
  | 0,_,h=>by omega
  | n + 1,c,h=>by
    rw [deep_s (n + 1) t c,deep_s n t c]
    rw [deep_s n] at h
    by_cases hc:c.fRights ≠ 0∧0 ≤ c.fEnv
    · rw [if_pos hc] at h
      rw [if_pos hc,if_pos hc,deep_succ (n:=n) (by omega)]
    · rw [if_neg hc,if_neg hc]
theorem up_succ {t:T} {p:cY}:∀ {n:Nat} {c:Cap},deep n t c < n→up (n + 1) t c p = up n t c p
  | 0,_,h=>by omega
  | n + 1,c,h=>by
    rw [up_s (n + 1) t c p,up_s n t c p]
    rw [deep_s n] at h
    by_cases hc:c.fRights ≠ 0∧0 ≤ c.fEnv
    · rw [if_pos hc] at h
      rw [if_pos hc,if_pos hc,up_succ (n:=n) (by omega)]
    · rw [if_neg hc,if_neg hc]
theorem under_step {t:T} (ok:Ok t) {e s:Int} (h:has t e s = true) (p:cY):under t (get t e s) p = if (get t e s).fRights ≠ 0∧0 ≤ (get t e s).fEnv then (if (get t e s).fEnv = p.fEnv∧(get t e s).fSlot = p.fSlot then true else under t (get t (get t e s).fEnv (get t e s).fSlot) p) else false:=by
  have h1:=deep_le ok h 40
  unfold under
  by_cases hc:(get t e s).fRights ≠ 0∧0 ≤ (get t e s).fEnv
  · rw [deep_s 39,if_pos hc] at h1
    rw [up_s 39,up_succ (n:=39) (by omega)]
  · rw [up_s 39,if_neg hc,if_neg hc]
theorem deep_step {t:T} (ok:Ok t) {e s:Int} (h:has t e s = true) (hc:(get t e s).fRights ≠ 0∧0 ≤ (get t e s).fEnv):deep 40 t (get t (get t e s).fEnv (get t e s).fSlot) < deep 40 t (get t e s):=by
  have h1:=deep_le ok h 40
  rw [deep_s 39,if_pos hc] at h1
  rw [deep_succ (n:=39) (by omega),deep_s 39,if_pos hc]
  omega
theorem ok_new (n:Nat) (h:n ≤ 4):Ok (List.replicate n (List.replicate 8 qY)):=by
  refine ⟨by simpa using h,fun r hr=>?_,fun _ _=>0,fun e s hh hne=>?_⟩
  · rw [(List.mem_replicate.1 hr).2]; rfl
  · exfalso
    apply hne
    obtain ⟨i,j,rfl,rfl,hi,hj⟩:=has_nat hh
    simp only [List.length_replicate] at hi
    simp only [get,Int.toNat_natCast,List.getD_eq_getElem?_getD,List.getElem?_replicate,if_pos hi,Option.getD_some,if_pos hj]
theorem ok_put {t:T} (ok:Ok t) {e s:Int} (h:has t e s = true) (h0:(get t e s).fRights = 0) (c:Cap) (hc:0 ≤ c.fEnv→has t c.fEnv c.fSlot = true∧(get t c.fEnv c.fSlot).fRights ≠ 0):Ok (put t e s c):=by
  obtain ⟨rank,hr⟩:=ok.rk
  refine ⟨by rw [put_len]; exact ok.len,put_row ok.row e s c,fun a b=>if a = e∧b = s then rank c.fEnv c.fSlot + 1 else rank a b,fun a b hab hne hen=>?_⟩
  rw [tY] at hab
  have keep:∀ {i j:Int},has t i j = true→(get t i j).fRights ≠ 0→¬ (i = e∧j = s):=by
    rintro i j _ hn ⟨rfl,rfl⟩; exact hn h0
  have hg:=wR ok.row h hab c
  rw [hg] at hne hen ⊢
  by_cases hes:a = e∧b = s
  · rw [if_pos hes] at hne hen ⊢
    obtain ⟨h1,h2⟩:=hc hen
    have hk:=keep h1 h2
    refine ⟨by rw [tY]; exact h1,by rw [wR ok.row h h1,if_neg hk]; exact h2,?_⟩
    show (if c.fEnv = e∧c.fSlot = s then _ else _) < (if a = e∧b = s then _ else _)
    rw [if_neg hk,if_pos hes]; omega
  · rw [if_neg hes] at hne hen ⊢
    obtain ⟨h1,h2,h3⟩:=hr a b hab hne hen
    have hk:=keep h1 h2
    refine ⟨by rw [tY]; exact h1,by rw [wR ok.row h h1,if_neg hk]; exact h2,?_⟩
    show (if (get t a b).fEnv = e∧(get t a b).fSlot = s then _ else _) < (if a = e∧b = s then _ else _)
    rw [if_neg hk,if_neg hes]; exact h3
theorem qF:∀ (l:List cY) (t:T),(empties t l).length = t.length
  | [],_=>rfl
  | p::l,t=>by rw [empties,qF l,put_len]
theorem empties_has (t:T) (l:List cY) (a b:Int):has (empties t l) a b = has t a b:=by unfold has; rw [qF]
theorem empties_row:∀ (l:List cY) (t:T),(∀ r ∈ t,r.length = 8)→∀ r ∈ empties t l,r.length = 8
  | [],_,h=>h
  | p::l,t,h=>empties_row l _ (put_row h _ _ _)
theorem qG:∀ (l:List cY) (t:T),(∀ r ∈ t,r.length = 8)→(∀ p ∈ l,has t p.fEnv p.fSlot = true)→∀ a b,has t a b = true→get (empties t l) a b = if (⟨a,b⟩:cY) ∈ l then qY else get t a b
  | [],_,_,_,_,_,_=>by simp [empties]
  | p::l,t,h,hl,a,b,hab=>by
    rw [empties,qG l _ (put_row h _ _ _) (fun q hq=>by rw [tY]; exact hl q (by simp [hq])) a b (by rw [tY]; exact hab),wR h (hl p (by simp)) hab]
    by_cases h1:(⟨a,b⟩:cY) ∈ l
    · rw [if_pos h1,if_pos (by simp [h1])]
    · rw [if_neg h1]
      by_cases h2:a = p.fEnv∧b = p.fSlot
      · obtain ⟨rfl,rfl⟩:=h2
        rw [if_pos ⟨rfl,rfl⟩,if_pos (by simp)]
      · rw [if_neg h2,if_neg]
        intro hm
        rcases List.mem_cons.1 hm with hm | hm
        · subst hm; exact h2 ⟨rfl,rfl⟩
        · exact h1 hm
theorem rowOf_c (P:Int→Int→Cap→Bool) (e:Int) (c:Cap) (cs:List Cap) (s:Int):rowOf P e (c::cs) s = if c.fRights ≠ 0∧P e s c = true then ⟨e,s⟩::rowOf P e cs (s + 1) else rowOf P e cs (s + 1):=rfl
theorem mem_rowOf {P:Int→Int→Cap→Bool} {e:Int} {p:cY}:∀ {cs:List Cap} {s:Int},p ∈ rowOf P e cs s↔p.fEnv = e∧∃ (n:Nat) (c:Cap),cs[n]? = some c∧p.fSlot = s + n∧c.fRights ≠ 0∧P e (s + n) c = true
  | [],s=>by simp [rowOf]
  | c::cs,s=>by
    have ih:=mem_rowOf (P:=P) (e:=e) (p:=p) (cs:=cs) (s:=s + 1)
    have tail:(p.fEnv = e∧∃ (n:Nat) (c':Cap),cs[n]? = some c'∧p.fSlot = s + 1 + n∧c'.fRights ≠ 0∧P e (s + 1 + n) c' = true)↔(p.fEnv = e∧∃ (n:Nat) (c':Cap),(c::cs)[n + 1]? = some c'∧p.fSlot = s + ((n + 1:Nat):Int)∧c'.fRights ≠ 0∧P e (s + ((n + 1:Nat):Int)) c' = true):=by
      have:∀ n:Nat,s + ((n + 1:Nat):Int) = s + 1 + n:=fun n=>by omega
      simp only [this,List.getElem?_cons_succ]
    have split0:(p.fEnv = e∧∃ (n:Nat) (c':Cap),(c::cs)[n]? = some c'∧p.fSlot = s + n∧c'.fRights ≠ 0∧P e (s + n) c' = true)↔(p = ⟨e,s⟩∧c.fRights ≠ 0∧P e s c = true)∨(p.fEnv = e∧∃ (n:Nat) (c':Cap),(c::cs)[n + 1]? = some c'∧p.fSlot = s + ((n + 1:Nat):Int)∧c'.fRights ≠ 0∧P e (s + ((n + 1:Nat):Int)) c' = true):=by
      constructor
      · rintro ⟨he,n,c',h1,h2,h3,h4⟩
        cases n with
        | zero =>
          simp at h1; subst h1
          simp at h2 h4
          exact .inl ⟨by cases p; simp_all,h3,h4⟩
        | succ n=>exact .inr ⟨he,n,c',h1,h2,h3,h4⟩
      · rintro (⟨rfl,h3,h4⟩ | ⟨he,n,c',h1,h2,h3,h4⟩)
        · exact ⟨rfl,0,c,rfl,by simp,h3,by simpa using h4⟩
        · exact ⟨he,n + 1,c',h1,h2,h3,h4⟩
    rw [split0,← tail,← ih,rowOf_c]
    split
    · rename_i hc
      rw [List.mem_cons]
      constructor
      · rintro (h | h)
        · exact .inl ⟨h,hc⟩
        · exact .inr h
      · rintro (h | h)
        · exact .inl h.1
        · exact .inr h
    · rename_i hc
      constructor
      · exact .inr
      · rintro (h | h)
        · exact absurd h.2 hc
        · exact h
theorem mem_allOf {P:Int→Int→Cap→Bool} {p:cY}:∀ {t:T} {e:Int},p ∈ allOf P t e↔∃ (m n:Nat) (r:List Cap) (c:Cap),t[m]? = some r∧r[n]? = some c∧p = ⟨e + m,n⟩∧c.fRights ≠ 0∧P (e + m) n c = true
  | [],e=>by simp [allOf]
  | r::t,e=>by
    rw [allOf,List.mem_append,mem_rowOf,mem_allOf]
    constructor
    · rintro (⟨h1,n,c,h2,h3,h4,h5⟩ | ⟨m,n,r',c,h1,h2,rfl,h4,h5⟩)
      · refine ⟨0,n,r,c,rfl,h2,?_,h4,?_⟩
        · cases p; simp_all
        · simpa using h5
      · refine ⟨m + 1,n,r',c,by simpa using h1,h2,?_,h4,?_⟩
        · congr 1; omega
        · rw [show e + ((m + 1:Nat):Int) = e + 1 + m from by omega]; exact h5
    · rintro ⟨m,n,r',c,h1,h2,rfl,h4,h5⟩
      cases m with
      | zero =>
        simp at h1; subst h1
        exact .inl ⟨by simp,n,c,h2,by simp,h4,by simpa using h5⟩
      | succ m =>
        refine .inr ⟨m,n,r',c,by simpa using h1,h2,?_,h4,?_⟩
        · congr 1; omega
        · rw [show e + 1 + (m:Int) = e + ((m + 1:Nat):Int) from by omega]; exact h5
theorem mem_all {t:T} (row:∀ r ∈ t,r.length = 8) {P:Int→Int→Cap→Bool} {p:cY}:p ∈ allOf P t 0↔has t p.fEnv p.fSlot = true∧(get t p.fEnv p.fSlot).fRights ≠ 0∧P p.fEnv p.fSlot (get t p.fEnv p.fSlot) = true:=by
  rw [mem_allOf]
  constructor
  · rintro ⟨m,n,r,c,h1,h2,rfl,h4,h5⟩
    obtain ⟨hm,e1⟩:=List.getElem?_eq_some_iff.1 h1
    obtain ⟨hn,e2⟩:=List.getElem?_eq_some_iff.1 h2
    have h8:=row r (List.mem_of_getElem? h1)
    simp only [Int.zero_add] at h5 ⊢
    have hg:get t m n = c:=by simp [get,h1,h2]
    rw [hg]
    exact ⟨has_of hm (by omega),h4,h5⟩
  · rintro ⟨h1,h2,h3⟩
    obtain ⟨m,n,em,en,hm,hn⟩:=has_nat h1
    rw [em,en] at h2 h3
    obtain ⟨hn',hg⟩:=get_nat' row hm hn
    rw [hg] at h2 h3
    refine ⟨m,n,t[m],t[m][n],by simp [hm],by simp [hn'],?_,h2,by simpa using h3⟩
    cases p; simp_all
theorem mem_below {t:T} (ok:Ok t) {e s:Int} {p:cY}:p ∈ below t e s↔has t p.fEnv p.fSlot = true∧(get t p.fEnv p.fSlot).fRights ≠ 0∧under t (get t p.fEnv p.fSlot) ⟨e,s⟩ = true:=mem_all ok.row
theorem eqb_place (p q:cY):aF.eqb p q = true↔p = q:=by
  cases p; cases q; simp [aF.eqb]
theorem mem_own {t:T} (ok:Ok t) {e s:Int} {p:cY}:p ∈ own t e s↔has t p.fEnv p.fSlot = true∧(get t p.fEnv p.fSlot).fRights ≠ 0∧(p = ⟨e,s⟩∨under t (get t p.fEnv p.fSlot) ⟨e,s⟩ = true):=by
  unfold own
  rw [mem_all ok.row,Bool.or_eq_true,eqb_place]
theorem under_rights {t:T} {c:Cap} {p:cY} (h:under t c p = true):c.fRights ≠ 0:=by
  unfold under at h; rw [up_s 39] at h
  split at h
  · rename_i hc; exact hc.1
  · cases h
theorem ok_empties {t:T} (ok:Ok t) {l:List cY} (hl:∀ p ∈ l,has t p.fEnv p.fSlot = true)
    (cl:∀ e s,has t e s = true→(get t e s).fRights ≠ 0→0 ≤ (get t e s).fEnv→(⟨(get t e s).fEnv,(get t e s).fSlot⟩:cY) ∈ l→(⟨e,s⟩:cY) ∈ l):Ok (empties t l):=by
  obtain ⟨rank,hr⟩:=ok.rk
  refine ⟨by rw [qF]; exact ok.len,empties_row l t ok.row,rank,fun a b hab hne hen=>?_⟩
  rw [empties_has] at hab
  have hg:=qG l t ok.row hl a b hab
  by_cases hm:(⟨a,b⟩:cY) ∈ l
  · rw [if_pos hm] at hg; rw [hg] at hne; exact absurd rfl hne
  · rw [if_neg hm] at hg
    rw [hg] at hne hen ⊢
    obtain ⟨h1,h2,h3⟩:=hr a b hab hne hen
    have hp:(⟨(get t a b).fEnv,(get t a b).fSlot⟩:cY) ∉ l:=fun h=>hm (cl a b hab hne hen h)
    refine ⟨by rw [empties_has]; exact h1,?_,h3⟩
    rw [qG l t ok.row hl _ _ h1,if_neg hp]; exact h2
theorem ok_below {t:T} (ok:Ok t) (e s:Int):Ok (empties t (below t e s)):=by
  refine ok_empties ok (fun p hp=>((mem_below ok).1 hp).1) fun a b hab hne hen hp=>?_
  have h1:=(mem_below ok).1 hp
  refine (mem_below ok).2 ⟨hab,hne,?_⟩
  rw [under_step ok hab,if_pos ⟨hne,hen⟩]
  split
  · rfl
  · exact h1.2.2
theorem ok_own {t:T} (ok:Ok t) (e s:Int):Ok (empties t (own t e s)):=by
  refine ok_empties ok (fun p hp=>((mem_own ok).1 hp).1) fun a b hab hne hen hp=>?_
  have h1:=(mem_own ok).1 hp
  refine (mem_own ok).2 ⟨hab,hne,.inr ?_⟩
  rw [under_step ok hab,if_pos ⟨hne,hen⟩]
  split
  · rfl
  · rename_i hno
    rcases h1.2.2 with h | h
    · exact absurd ⟨congrArg aF.fEnv h,congrArg aF.fSlot h⟩ hno
    · exact h
theorem ok_root {t:T} (ok:Ok t) (e s f:Int):Ok (root t e s f).2:=by
  unfold root
  split
  · exact ok
  · split
    · exact ok
    · rename_i h1 h2
      refine ok_put ok (by simp at h1; exact h1.1) (by simpa using h2) _ (fun h=>?_)
      exact absurd h (by show ¬ (0:Int) ≤ -1; omega)
theorem ok_derive {t:T} (ok:Ok t) (e src to dst r:Int):Ok (derive t e src to dst r).2:=by
  unfold derive
  split
  · exact ok
  · split
    · exact ok
    · split
      · exact ok
      · split
        · exact ok
        · rename_i h1 h2 h3 h4
          simp at h1
          exact ok_put ok h1.2.1 (by simpa using h3) _ (fun _=>⟨h1.1,h2⟩)
theorem ok_revoke {t:T} (ok:Ok t) (e s:Int):Ok (revoke t e s).2:=by
  unfold revoke; split
  · exact ok
  · exact ok_below ok e s
theorem ok_drop {t:T} (ok:Ok t) (e s:Int):Ok (drop t e s).2:=by
  unfold drop; split
  · exact ok
  · exact ok_own ok e s
end Caps
end Go.Proofs.YtmggcfijlpldpaaGreatDoor
namespace Go.Proofs.YtmggcfijlpldpaaGreatDoor
open Go Mb
set_option linter.unusedVariables false
def tI (a0:Ptr) (K:Int→Hp→Prop):Hp→Prop:=br a0.isNone ( K 0) ( nn a0 fun q6=>ld (q6.1,q6.2 + 0) cS fun x8=>K (x8.len:Int))
theorem sim_mem_Mem_Frames (a0:Ptr) {K:Int→Hp→Prop} {h:Hp} (H:tI a0 K h):Ct Tryz.prog vm #[(pv a0)] h fun v h'=>∃ r,v = eo r∧K r h':=aw [(pv a0)] Tryz.func212 c c c fun _=>M<|O c<|aj<|M<|J c<|p (ch Tryz.underlying144 c)<|ac<|av c H (fun k1 H2=>M<|O c<|ag<|Y ⟨0,c,H2⟩) fun k1 H2=>am<|M<|J c<|bC H2 fun q6 e3 H4=>p (aH<|aL c<|ao e3)<|p (ad sj c)<|aa<|aT H4 kQ c (fun _=>c) c fun x8 H5=>p (dv c Tryz.underlying155 c)<|O c<|ag<|Y ⟨(x8.len:Int),c,H5⟩
def sh_mem_Mem_at (a0:Ptr) (a1:Int) (a2:Int) (K:Ptr→Hp→Prop):Hp→Prop:=br (!(decide (a1 < 0))) ( cl Tryz.prog vm [(pv a0)] eo fun r12=>br (((decide (a1 ≥ r12)) || (decide (a2 < 0))) || (decide (a2 ≥ 16))) ( K none) ( nn a0 fun q24=>ld (q24.1,q24.2 + 0) cS fun x26=>ix x26 a1 fun q28=>ld (q28.1,q28.2 + Int.toNat a1 * 1) cS fun x29=>ix x29 a2 fun q31=>K (some (q31.1,q31.2 + Int.toNat a2 * 1)))) ( K none)
theorem sim_mem_Mem_at (a0:Ptr) (a1:Int) (a2:Int) {K:Ptr→Hp→Prop} {h:Hp} (H:sh_mem_Mem_at a0 a1 a2 K h):Ct Tryz.prog lH #[(pv a0),(.int .i64 a1),(.int .i64 a2)] h fun v h'=>∃ r,v = sm r∧K r h':=aw [(pv a0),(.int .i64 a1),(.int .i64 a2)] Tryz.func188 c c c fun _=>M<|O c<|aj<|M<|J c<|p (cm c c)<|J c<|V c c (aK _) (fun g1=>wv<|ae c)<|V c c (aK _) (fun g2=>wv<|ae c)<|bP H (fun k4 H5=>G (Z<|bS k4)<|fT H5 en_212 (aS (aB c k4) bO) c fun r12 _ H6=>G (Z<|bS k4)<|z_p (jy (aB c k4) c)<|p (an c (bS k4) c)<|J c<|V c c (aK _) (fun g7=>wv<|ae c)<|V c c (aK _) (fun g8=>wv<|cm (aB c g8) c)<|p (dm c c)<|J c<|V c c (aK _) (fun g9=>wv<|ae c)<|V c c (aK _) (fun g10=>wv<|jy (aB c g10) c)<|p (dm c c)<|ac<|av c H6 (fun k11 H12=>M<|O c<|ag<|Y ⟨none,c,H12⟩) fun k11 H12=>am<|M<|J c<|bC H12 fun q24 e13 H14=>p (aH<|aL c<|ao e13)<|p (ad sj c)<|aa<|aT H14 kQ c (fun _=>c) c fun x26 H15=>J c<|cg H15 fun q28 e16 h17 H18=>p (bm lA (aL c<|aY e16) c h17)<|aa<|aT H18 qN c (fun _=>c) c fun x29 H19=>J c<|cg H19 fun q31 e20 h21 H22=>p (bm rI (aL c<|aY e20) c h21)<|O c<|ag<|Y ⟨some (q31.1,q31.2 + Int.toNat a2 * 1),c,H22⟩) fun k4 H5=>W (bF<|bz k4)<|W (bF<|bz k4)<|p (aM c (bz k4) c)<|J c<|W c<|W c<|p (aM c c c)<|J c<|W c<|W c<|p (aM c c c)<|ac<|lq c c<|M<|O c<|ag<|Y ⟨none,c,H5⟩
def sh_mem_Mem_Load (a0:Ptr) (a1:Int) (a2:Int) (K:(Int × Bool)→Hp→Prop):Hp→Prop:=cl Tryz.prog lH [(pv a0),(.int .i64 a1),(.int .i64 a2)] sm fun r12=>br r12.isNone ( K (0,false)) ( nn r12 fun q16=>ld (q16.1,q16.2) (cI .u64) fun x17=>K (x17,true))
theorem sim_mem_Mem_Load (a0:Ptr) (a1:Int) (a2:Int) {K:(Int × Bool)→Hp→Prop} {h:Hp} (H:sh_mem_Mem_Load a0 a1 a2 K h):Ct Tryz.prog hG #[(pv a0),(.int .i64 a1),(.int .i64 a2)] h fun v h'=>∃ r,v = bG r∧K r h':=aw [(pv a0),(.int .i64 a1),(.int .i64 a2)] Tryz.func156 c c c fun _=>M<|p (aq c)<|O c<|M<|J c<|J c<|J c<|aa<|D H en_188 fun r12 _ H1=>O c<|aj<|M<|J c<|p (ch Tryz.underlying189 c)<|ac<|av c H1 (fun k2 H3=>M<|p (aq c)<|O c<|ag<|bo (bL c (bV c)<|bV c) ⟨(0,false),c,H3⟩) fun k2 H3=>am<|M<|J c<|bC H3 fun q16 e4 H5=>p (aH<|aL c<|ao e4)<|aa<|aT H5 ck c (fun _=>c) c fun x17 H6=>p (aq c)<|O c<|ag<|bo (bL c (bV c)<|bV c) ⟨(x17,true),c,H6⟩
def uU (a0:Ptr) (a1:Int) (a2:Int) (a3:Int) (K:Bool→Hp→Prop):Hp→Prop:=cl Tryz.prog lH [(pv a0),(.int .i64 a1),(.int .i64 a2)] sm fun r13=>br r13.isNone ( K false) ( nn r13 fun q18=>st (q18.1,q18.2) [.int .u64 a3]<|K true)
theorem sim_mem_Mem_Store (a0:Ptr) (a1:Int) (a2:Int) (a3:Int) {K:Bool→Hp→Prop} {h:Hp} (H:uU a0 a1 a2 a3 K h):Ct Tryz.prog fw #[(pv a0),(.int .i64 a1),(.int .i64 a2),(.int .u64 a3)] h fun v h'=>∃ r,v = az r∧K r h':=aw [(pv a0),(.int .i64 a1),(.int .i64 a2),(.int .u64 a3)] Tryz.func157 c c c fun _=>M<|O c<|M<|J c<|J c<|J c<|aa<|D H en_188 fun r13 _ H1=>O c<|aj<|M<|J c<|p (ch Tryz.underlying189 c)<|ac<|av c H1 (fun k2 H3=>M<|O c<|ag<|Y ⟨false,c,H3⟩) fun k2 H3=>am<|M<|J c<|J c<|bC H3 fun q18 e4 H5=>p (aH<|aL c<|ao e4)<|aa<|dq inf_22 c c c c c H5 fun _ H6=>ac<|M<|O c<|ag<|Y ⟨true,c,H6⟩
def sh_mem_Mem_Cas (a0:Ptr) (a1:Int) (a2:Int) (a3:Int) (a4:Int) (K:(Int × Bool)→Hp→Prop):Hp→Prop:=cl Tryz.prog hG [(pv a0),(.int .i64 a1),(.int .i64 a2)] bG fun r18=>br (r18.2 && (r18.1 == a3)) ( cl Tryz.prog fw [(pv a0),(.int .i64 a1),(.int .i64 a2),(.int .u64 a4)] az fun r31=>K (r18.1,r18.2)) ( K (r18.1,r18.2))
theorem sim_mem_Mem_Cas (a0:Ptr) (a1:Int) (a2:Int) (a3:Int) (a4:Int) {K:(Int × Bool)→Hp→Prop} {h:Hp} (H:sh_mem_Mem_Cas a0 a1 a2 a3 a4 K h):Ct Tryz.prog pY #[(pv a0),(.int .i64 a1),(.int .i64 a2),(.int .u64 a3),(.int .u64 a4)] h fun v h'=>∃ r,v = bG r∧K r h':=aw [(pv a0),(.int .i64 a1),(.int .i64 a2),(.int .u64 a3),(.int .u64 a4)] Tryz.func158 c c c fun _=>M<|p (aq c)<|O c<|M<|J c<|J c<|J c<|aa<|D H en_156 fun r18 _ H1=>J c<|p (ai c c)<|p (ai c c)<|p (aq c)<|O c<|aj<|M<|J c<|J c<|V c c (ay _) (fun g2=>wv<|ae c)<|V c c (ay _) (fun g3=>wv<|ae c)<|V c c (ay _) (fun g4=>wv<|bK (aB c g4)<|aB c g4)<|p (bM c c)<|ac<|av c H1 (fun k5 H6=>ap<|J c<|J c<|J c<|J c<|aa<|D H6 en_157 fun r31 _ H7=>ac<|M<|J c<|J c<|p (aq c)<|O c<|ag<|bo (bL c (bV c)<|bV c) ⟨(r18.1,r18.2),c,H7⟩) fun k5 H6=>am<|M<|J c<|J c<|p (aq c)<|O c<|ag<|bo (bL c (bV c)<|bV c) ⟨(r18.1,r18.2),c,H6⟩
def sh_mem_Mem_Add (a0:Ptr) (a1:Int) (a2:Int) (a3:Int) (K:(Int × Bool)→Hp→Prop):Hp→Prop:=cl Tryz.prog hG [(pv a0),(.int .i64 a1),(.int .i64 a2)] bG fun r16=>cl Tryz.prog fw [(pv a0),(.int .i64 a1),(.int .i64 a2),(.int .u64 (IntKind.u64.wrap (r16.1 + a3)))] az fun r25=>K (r16.1,r16.2)
theorem sim_mem_Mem_Add (a0:Ptr) (a1:Int) (a2:Int) (a3:Int) {K:(Int × Bool)→Hp→Prop} {h:Hp} (H:sh_mem_Mem_Add a0 a1 a2 a3 K h):Ct Tryz.prog pZ #[(pv a0),(.int .i64 a1),(.int .i64 a2),(.int .u64 a3)] h fun v h'=>∃ r,v = bG r∧K r h':=aw [(pv a0),(.int .i64 a1),(.int .i64 a2),(.int .u64 a3)] Tryz.func159 c c c fun _=>M<|p (aq c)<|O c<|M<|J c<|J c<|J c<|aa<|D H en_156 fun r16 _ H1=>J c<|p (ai c c)<|p (ai c c)<|p (aq c)<|O c<|M<|J c<|J c<|J c<|J c<|J c<|p (bt c c)<|aa<|D H1 en_157 fun r25 _ H2=>ac<|M<|J c<|J c<|p (aq c)<|O c<|ag<|bo (bL c (bV c)<|bV c) ⟨(r16.1,r16.2),c,H2⟩
def sh_mem_Mem_Zero (a0:Ptr) (a1:Int) (K:Bool→Hp→Prop):Hp→Prop:=cl Tryz.prog lH [(pv a0),(.int .i64 a1),(.int .i64 0)] sm fun r7=>br r7.isNone ( K false) ( nn a0 fun q10=>ld (q10.1,q10.2 + 0) cS fun x12=>ix x12 a1 fun q14=>ld (q14.1,q14.2 + Int.toNat a1 * 1) cS fun x15=>hpv Tryz.prog (Builtin.clear_ #[bb] t_none #[(sv x15)]) R_ fun (_:Unit)=>K true)
theorem sim_mem_Mem_Zero (a0:Ptr) (a1:Int) {K:Bool→Hp→Prop} {h:Hp} (H:sh_mem_Mem_Zero a0 a1 K h):Ct Tryz.prog sP #[(pv a0),(.int .i64 a1)] h fun v h'=>∃ r,v = az r∧K r h':=aw [(pv a0),(.int .i64 a1)] Tryz.func167 c c c fun _=>M<|O c<|aj<|M<|J c<|J c<|aa<|D H en_188 fun r7 _ H1=>p (ch Tryz.underlying189 c)<|ac<|av c H1 (fun k2 H3=>M<|O c<|ag<|Y ⟨false,c,H3⟩) fun k2 H3=>am<|M<|J c<|bC H3 fun q10 e4 H5=>p (aH<|aL c<|ao e4)<|p (ad sj c)<|aa<|aT H5 kQ c (fun _=>c) c fun x12 H6=>J c<|cg H6 fun q14 e7 h8 H9=>p (bm lA (aL c<|aY e7) c h8)<|aa<|aT H9 qN c (fun _=>c) c fun x15 H10=>aa<|to_hpv0 H10 (x_clear c) fun _ _ H11=>ac<|M<|O c<|ag<|Y ⟨true,c,H11⟩
def mem_New_l1 (a0:Int) (K:Ptr→Hp→Prop) (b11:Nat) (Rec7:Int→Hp→Prop) (s6:Int):Hp→Prop:=br (decide (s6 < a0)) ( ld (b11,0) cS fun x19=>hpv Tryz.prog (Instr.makeSlice bb (.int .i64 16) (.int .i64 16)) bY fun (v20:Sl)=>hpv Tryz.prog (Instr.buildSlice pF 1 #[(0,(sv v20))]) R_SSuint64 fun (v21:Sl)=>hpv Tryz.prog (Builtin.append_ #[pF,pF] pF #[(sv x19),(sv v21)]) R_SSuint64 fun (v22:Sl)=>st (b11,0) [sv v22]<|Rec7 (IntKind.i64.wrap (s6 + 1))) ( K (some (b11,0)))
def sh_mem_New (a0:Int) (K:Ptr→Hp→Prop):Hp→Prop:=br ((decide (a0 < 1)) || (decide (a0 > 16))) ( K none) ( nw ly (sk.C (⟨(⟨none,0,0,none⟩:Sl)⟩:sk)) fun b11=>Lp (mem_New_l1 a0 K b11) 0)
theorem sim_mem_New (a0:Int) {K:Ptr→Hp→Prop} {h:Hp} (H:sh_mem_New a0 K h):Ct Tryz.prog vj #[(.int .i64 a0)] h fun v h'=>∃ r,v = tn r∧K r h':=aw [(.int .i64 a0)] Tryz.func93 c c c fun _=>M<|O c<|aj<|M<|J c<|p (cm c c)<|J c<|V c c (aK _) (fun g1=>wv<|ae c)<|V c c (aK _) (fun g2=>wv<|qi (aB c g2) c)<|p (dm c c)<|ac<|av c H (fun k3 H4=>M<|O c<|ag<|Y ⟨none,c,H4⟩) fun k3 H4=>am<|M<|p (aX (vs:=[]) c build_209)<|aa<|gT c c c H4 fun b11 _ H5=>O c<|aj<|M<|J c<|J c<|ac<|ax<|bB (step:=mem_New_l1 a0 K b11) (fun s6=>[(3,(.pointer (some ⟨b11,0,none⟩))),(12,(.int .i64 a0)),(13,(.int .i64 s6))]) (fun s6=>[]) H5 (.cons c<|.cons c<|.cons c<|.nil _) .slnil fun Rec7 s6 _ H8=>M<|p (cm c c)<|ac<|aj<|av c H8 (fun k9 H10=>am<|aj<|ax<|bj (n:=11) [] ci c .slnil<|U 0 c (ae c)<|U 1 c (ae c)<|U 2 c (aH c)<|U 3 c (ad sj c)<|bD (i:=4) (fun _ _ _ _ hh=>hh) H10 c (by kernel_rfl) kQ c (fun _=>c) c fun x19 H11=>I 5 c<|aR H11 (jz c c) c fun v20 _ H12=>⟨.slnil,I 6 c<|aR H12 (bp (vs:=[(sv v20)]) c) c fun v21 _ H13=>⟨.slnil,I 7 c<|aR H13 (dA c c) c fun v22 _ H14=>⟨.slnil,U 8 c (aH c)<|U 9 c (ad sj c)<|I 10 c<|dq inf_155 c c c c c H14 fun _ H15=>⟨.slnil,aQ (by kernel_rfl)<|ap<|p (bt c c)<|J c<|ac<|cF (IntKind.i64.wrap (s6 + 1)) H15 (.cons c<|.cons c<|.cons c<|.nil _) .slnil⟩⟩⟩⟩) fun k9 H10=>bh<|M<|J c<|O c<|ag<|Y ⟨some (b11,0),c,H10⟩
def uV (a0:Ptr) (a1:Int) (K:Sl→Hp→Prop):Hp→Prop:=cl Tryz.prog lH [(pv a0),(.int .i64 a1),(.int .i64 0)] sm fun r7=>br r7.isNone ( K (⟨none,0,0,none⟩:Sl)) ( nn a0 fun q10=>ld (q10.1,q10.2 + 0) cS fun x12=>ix x12 a1 fun q14=>ld (q14.1,q14.2 + Int.toNat a1 * 1) cS fun x15=>cl Tryz.prog gt [(sv x15)] bY fun r16=>K r16)
theorem sim_mem_Mem_Frame (a0:Ptr) (a1:Int) {K:Sl→Hp→Prop} {h:Hp} (H:uV a0 a1 K h):Ct Tryz.prog qR #[(pv a0),(.int .i64 a1)] h fun v h'=>∃ r,v = bY r∧K r h':=aw [(pv a0),(.int .i64 a1)] Tryz.func199 c c c fun _=>M<|O c<|aj<|M<|J c<|J c<|aa<|D H en_188 fun r7 _ H1=>p (ch Tryz.underlying189 c)<|ac<|av c H1 (fun k2 H3=>M<|O c<|ag<|Y ⟨(⟨none,0,0,none⟩:Sl),c,H3⟩) fun k2 H3=>am<|M<|J c<|bC H3 fun q10 e4 H5=>p (aH<|aL c<|ao e4)<|p (ad sj c)<|aa<|aT H5 kQ c (fun _=>c) c fun x12 H6=>J c<|cg H6 fun q14 e7 h8 H9=>p (bm lA (aL c<|aY e7) c h8)<|aa<|aT H9 qN c (fun _=>c) c fun x15 H10=>aa<|D H10 en_216 fun r16 _ H11=>O c<|ag<|Y ⟨r16,c,H11⟩
end Go.Proofs.YtmggcfijlpldpaaGreatDoor
namespace Go.Proofs.YtmggcfijlpldpaaGreatDoor
open Go Mb
abbrev vU (s:Sl) (xs:List Int):As:=vec t_uint64 1 (cI .u64) s xs
def rows:List Sl→List (List Int)→List As
  | s::ss,f::fs=>vU s f::rows ss fs
  | _,_=>[]
theorem rows_get:∀ (ss:List Sl) (fs:List (List Int)) (i:Nat) (s:Sl) (f:List Int),ss[i]? = some s→fs[i]? = some f→(rows ss fs)[i]? = some (vU s f)
  | [],_,_,_,_,h,_=>by simp at h
  | _::_,[],_,_,_,_,h=>by simp at h
  | s::ss,f::fs,0,_,_,h1,h2=>by simp at h1 h2; subst h1; subst h2; rfl
  | s::ss,f::fs,i + 1,_,_,h1,h2=>by simpa [rows] using rows_get ss fs i _ _ (by simpa using h1) (by simpa using h2)
theorem rows_set:∀ (ss:List Sl) (fs:List (List Int)) (i:Nat) (s:Sl) (f:List Int),ss[i]? = some s→(rows ss fs).set i (vU s f) = rows ss (fs.set i f)
  | [],_,_,_,_,h=>by simp at h
  | s::ss,[],i,_,_,_=>by simp [rows]
  | s::ss,g::fs,0,_,_,h1=>by simp at h1; subst h1; rfl
  | s::ss,g::fs,i + 1,_,_,h1=>by simp only [rows,List.set_cons_succ]; rw [rows_set ss fs i _ _ (by simpa using h1)]
theorem rows_app (s:Sl) (f:List Int):∀ (ss:List Sl) (fs:List (List Int)),ss.length = fs.length→rows (ss++[s]) (fs++[f]) = rows ss fs++[vU s f]
  | [],[],_=>rfl
  | [],_::_,h=>by simp at h
  | _::_,[],h=>by simp at h
  | a::ss,b::fs,h=>by simp only [List.cons_append,rows]; rw [rows_app s f ss fs (by simpa using h)]
def wK (b:Nat) (s:Sl) (ss:List Sl) (fs:List (List Int)):List As:=blk b ly [sv s]::vec bb 1 cS s ss::rows ss fs
structure MemOk (ss:List Sl) (fs:List (List Int)):Prop where
  len:ss.length = fs.length
  le:fs.length ≤ 16
  row:∀ f ∈ fs,f.length = 16
def ia (x:Ptr) (fs:List (List Int)):As:=fun h=>∃ bs:Nat × Sl × List Sl,(x = some (bs.1,0)∧MemOk bs.2.2 fs)∧aE (wK bs.1 bs.2.1 bs.2.2 fs) h
theorem mem_op {x:Ptr} {fs:List (List Int)} {l:List As} {h:Hp} (s0:aE (ia x fs::l) h):∃ b s ss,x = some (b,0)∧MemOk ss fs∧s.len = fs.length∧aE (wK b s ss fs++l) h:=by
  obtain ⟨⟨b,s,ss⟩,⟨hx,hb⟩,st⟩:=op_ s0
  exact ⟨b,s,ss,hx,hb,(cd (j:=1) st rfl).1.trans hb.len,st⟩
theorem mem_cl {b:Nat} {s:Sl} {ss:List Sl} {fs:List (List Int)} {l:List As} {h:Hp} (hb:MemOk ss fs) (st:aE (wK b s ss fs++l) h):aE (ia (some (b,0)) fs::l) h:=cl_ (b,s,ss) ⟨rfl,hb⟩ st
theorem rN {b:Nat} {s:Sl} {ss:List Sl} {fs:List (List Int)} {h:Hp} (hb:MemOk ss fs) (st:aE (wK b s ss fs) h):aE [ia (some (b,0)) fs] h:=mem_cl hb (by rw [List.append_nil]; exact st)
namespace Mem
def has (fs:List (List Int)) (f a:Int):Prop:=0 ≤ f∧f < fs.length∧0 ≤ a∧a < 16
instance (fs:List (List Int)) (f a:Int):Decidable (has fs f a):=by unfold has; infer_instance
def word (fs:List (List Int)) (f a:Int):Int:=(fs.getD f.toNat []).getD a.toNat 0
def load (fs:List (List Int)) (f a:Int):Int × Bool:=if has fs f a then (word fs f a,true) else (0,false)
def put (fs:List (List Int)) (f a v:Int):List (List Int):=fs.set f.toNat ((fs.getD f.toNat []).set a.toNat v)
def store (fs:List (List Int)) (f a v:Int):Bool × List (List Int):=if has fs f a then (true,put fs f a v) else (false,fs)
end Mem
theorem qZ (x:Sl):(cS x).length = 1:=rfl
def memAt (ss:List Sl) (fs:List (List Int)) (f a:Int) (r:Ptr):Prop :=
  if Mem.has fs f a then ∃ s q,ss[f.toNat]? = some s∧s.a = some q∧r = some (q.1,q.2 + a.toNat * 1) else r = none
theorem sp_mem_at (b:Nat) (s:Sl) (ss:List Sl) (fs:List (List Int)) (hb:MemOk ss fs) (f a:Int):Sp Tryz.prog lH [pv (some (b,0)),.int .i64 f,.int .i64 a] sm (wK b s ss fs) (fun r=>pa_ (memAt ss fs f a r) (wK b s ss fs)):=by
  intro h st
  refine sim_mem_Mem_at _ _ _ ?_
  unfold sh_mem_Mem_at
  have hno:∀ {p:Prop},¬ p→(Mem.has fs f a→p)→memAt ss fs f a none:=fun hp himp=>by unfold memAt; rw [if_neg (fun hh=>hp (himp hh))]
  have hl:s.len = fs.length:=(cd (j:=1) st rfl).1.trans hb.len
  refine aV (fun k=>?_) (fun k=>?_)
  · have h0:0 ≤ f:=by simpa using k
    unfold cl
    refine sim_mem_Mem_Frames _ ?_
    unfold tI
    refine cZ rfl (cu (bi s st (i:=0) rfl rfl rfl ?_))
    refine aV (fun k2=>?_) (fun k2=>?_)
    · have k2':¬ (f < fs.length∧0 ≤ a∧a < 16):=by simp [hl] at k2; omega
      exact aU (hno k2' (fun hh=>hh.2)) st
    · have k2':f < fs.length∧0 ≤ a∧a < 16:=by simp [hl] at k2; omega
      obtain ⟨n,rfl⟩:=Int.eq_ofNat_of_zero_le h0
      have hn:n < ss.length:=by rw [hb.len]; omega
      have hf:n < fs.length:=by omega
      refine cu (bi s st (i:=0) rfl rfl rfl ?_)
      refine du st (j:=1) rfl (by omega) (by omega) fun q hq=>?_
      refine ef (j:=1) (i:=n) (k:=0) ss[n] qZ st rfl hq (by simp) (aD hn) (by simp) ?_
      have hr:(wK b s ss fs)[2 + n]? = some (vU ss[n] fs[n]):=by
        show (blk b ly [sv s]::vec bb 1 cS s ss::rows ss fs)[2 + n]? = _
        rw [Nat.add_comm,List.getElem?_cons_succ,List.getElem?_cons_succ]
        exact rows_get ss fs n _ _ (aD hn) (aD hf)
      have hlen:fs[n].length = 16:=hb.row _ (List.getElem_mem hf)
      refine du st (j:=2 + n) hr (by omega) (by omega) fun q2 hq2=>?_
      refine aU ?_ st
      unfold memAt
      rw [if_pos ⟨h0,k2'⟩]
      exact ⟨ss[n],q2,by simp [hn],hq2,rfl⟩
  · have k':¬ 0 ≤ f:=by simpa using k
    exact aU (hno k' (fun hh=>hh.1)) st
theorem qo (x:Ptr) (fs:List (List Int)) (f a:Int):Sp Tryz.prog hG [pv x,.int .i64 f,.int .i64 a] bG [ia x fs] (fun r=>pa_ (r = Mem.load fs f a) [ia x fs]):=by
  intro h s0
  obtain ⟨b,s,ss,rfl,hb,hl,st⟩:=mem_op s0
  refine sim_mem_Mem_Load _ _ _ ?_
  unfold sh_mem_Mem_Load
  rw [List.append_nil] at st
  refine cG (rest:=[]) [] (sp_mem_at b s ss fs hb f a) st (List.append_nil _).symm fun r h' s1=>?_
  obtain ⟨hr,s2⟩:=bn.1 s1
  rw [List.append_nil] at s2
  by_cases hh:Mem.has fs f a
  · unfold memAt at hr
    rw [if_pos hh] at hr
    obtain ⟨sr,q,h1,h2,rfl⟩:=hr
    obtain ⟨g1,g2,g3,g4⟩:=hh
    have hf:f.toNat < fs.length:=by omega
    have hrow:(wK b s ss fs)[2 + f.toNat]? = some (vU sr fs[f.toNat]):=by
      show (blk b ly [sv s]::vec bb 1 cS s ss::rows ss fs)[2 + f.toNat]? = _
      rw [Nat.add_comm,List.getElem?_cons_succ,List.getElem?_cons_succ]
      exact rows_get ss fs _ _ _ h1 (aD hf)
    have hlen:fs[f.toNat].length = 16:=hb.row _ (List.getElem_mem hf)
    have ha:a.toNat < fs[f.toNat].length:=by omega
    refine cZ rfl (cu ?_)
    refine ef (j:=2 + f.toNat) (i:=a.toNat) (k:=0) (q:=q) fs[f.toNat][a.toNat] (cW _) s2 hrow h2 (by simp) (aD ha) (by simp) ?_
    refine aU ?_ (rN hb s2)
    unfold Mem.load
    rw [if_pos ⟨g1,g2,g3,g4⟩]
    simp [Mem.word,hf,ha]
  · unfold memAt at hr
    rw [if_neg hh] at hr
    subst hr
    refine dc rfl ?_
    refine aU ?_ (rN hb s2)
    unfold Mem.load
    rw [if_neg hh]
theorem lz (x:Ptr) (fs:List (List Int)) (f a v:Int):Sp Tryz.prog fw [pv x,.int .i64 f,.int .i64 a,.int .u64 v] az [ia x fs] (fun r=>pa_ (r = (Mem.store fs f a v).1) [ia x (Mem.store fs f a v).2]):=by
  intro h s0
  obtain ⟨b,s,ss,rfl,hb,hl,st⟩:=mem_op s0
  refine sim_mem_Mem_Store _ _ _ _ ?_
  unfold uU
  rw [List.append_nil] at st
  refine cG (rest:=[]) [] (sp_mem_at b s ss fs hb f a) st (List.append_nil _).symm fun r h' s1=>?_
  obtain ⟨hr,s2⟩:=bn.1 s1
  rw [List.append_nil] at s2
  by_cases hh:Mem.has fs f a
  · unfold memAt at hr
    rw [if_pos hh] at hr
    obtain ⟨sr,q,h1,h2,rfl⟩:=hr
    have e:Mem.store fs f a v = (true,Mem.put fs f a v):=if_pos hh
    rw [e]
    obtain ⟨g1,g2,g3,g4⟩:=hh
    have hf:f.toNat < fs.length:=by omega
    have hrow:(wK b s ss fs)[2 + f.toNat]? = some (vU sr fs[f.toNat]):=by
      show (blk b ly [sv s]::vec bb 1 cS s ss::rows ss fs)[2 + f.toNat]? = _
      rw [Nat.add_comm,List.getElem?_cons_succ,List.getElem?_cons_succ]
      exact rows_get ss fs _ _ _ h1 (aD hf)
    have hlen:fs[f.toNat].length = 16:=hb.row _ (List.getElem_mem hf)
    have ha:a.toNat < fs[f.toNat].length:=by omega
    refine cZ rfl (cu ?_)
    refine st_v (j:=2 + f.toNat) (i:=a.toNat) (k:=0) (q:=q) v (cW _) s2 hrow h2 (by simp) (aD ha) (by simp) rfl fun h3 s3=>?_
    have eH:(wK b s ss fs).set (2 + f.toNat) (vU sr (fs[f.toNat].set a.toNat v)) = wK b s ss (Mem.put fs f a v):=by
      show (blk b ly [sv s]::vec bb 1 cS s ss::rows ss fs).set (2 + f.toNat) _ = _
      rw [Nat.add_comm,List.set_cons_succ,List.set_cons_succ,rows_set ss fs _ _ _ h1]
      simp [wK,Mem.put,hf]
    rw [eH] at s3
    refine aU rfl (rN ⟨by simp [Mem.put,hb.len],by simpa [Mem.put] using hb.le,?_⟩ s3)
    intro g hg
    unfold Mem.put at hg
    rcases List.mem_or_eq_of_mem_set hg with h4 | h4
    · exact hb.row _ h4
    · rw [h4]; simp [hf,hlen]
  · unfold memAt at hr
    rw [if_neg hh] at hr
    subst hr
    have e:Mem.store fs f a v = (false,fs):=if_neg hh
    rw [e]
    exact dc rfl (aU rfl (rN hb s2))
namespace Mem
def cas (fs:List (List Int)) (f a o v:Int):(Int × Bool) × List (List Int) :=
  (load fs f a,if (load fs f a).2 && ((load fs f a).1 == o) then (store fs f a v).2 else fs)
def add (fs:List (List Int)) (f a v:Int):(Int × Bool) × List (List Int) :=
  (load fs f a,(store fs f a (IntKind.u64.wrap ((load fs f a).1 + v))).2)
def zero (fs:List (List Int)) (f:Int):Bool × List (List Int) :=
  if has fs f 0 then (true,fs.set f.toNat (List.replicate 16 0)) else (false,fs)
def frame (fs:List (List Int)) (f:Int):List Int:=if has fs f 0 then fs.getD f.toNat [] else []
end Mem
theorem sp_mem_Cas (x:Ptr) (fs:List (List Int)) (f a o v:Int):Sp Tryz.prog pY [pv x,.int .i64 f,.int .i64 a,.int .u64 o,.int .u64 v] bG [ia x fs] (fun r=>pa_ (r = (Mem.cas fs f a o v).1) [ia x (Mem.cas fs f a o v).2]):=by
  intro h s0
  refine sim_mem_Mem_Cas _ _ _ _ _ ?_
  unfold sh_mem_Mem_Cas
  refine cG [0] (qo x fs f a) s0 rfl fun r h' s1=>?_
  obtain ⟨hr,s2⟩:=bn.1 s1
  subst hr
  refine aV (fun k=>?_) (fun k=>?_)
  · refine cG [0] (lz x fs f a v) s2 rfl fun r h' s3=>?_
    obtain ⟨_,s4⟩:=bn.1 s3
    refine aU rfl ?_
    simp only [Mem.cas,k,if_true]
    exact s4
  · refine aU rfl ?_
    simp only [Mem.cas,k,Bool.false_eq_true,if_false]
    exact s2
theorem sp_mem_Add (x:Ptr) (fs:List (List Int)) (f a v:Int):Sp Tryz.prog pZ [pv x,.int .i64 f,.int .i64 a,.int .u64 v] bG [ia x fs] (fun r=>pa_ (r = (Mem.add fs f a v).1) [ia x (Mem.add fs f a v).2]):=by
  intro h s0
  refine sim_mem_Mem_Add _ _ _ _ ?_
  unfold sh_mem_Mem_Add
  refine cG [0] (qo x fs f a) s0 rfl fun r h' s1=>?_
  obtain ⟨hr,s2⟩:=bn.1 s1
  subst hr
  refine cG [0] (lz x fs f a _) s2 rfl fun r h' s3=>?_
  obtain ⟨_,s4⟩:=bn.1 s3
  exact aU rfl s4
theorem sp_slices_Clone (s:Sl) (xs:List Int) (hb:xs.length < 2 ^ 40):Sp Tryz.prog gt [sv s] bY [vU s xs] (fun r=>aE [vU r xs,vU s xs]):=by
  intro h s0
  refine pG _ ?_
  unfold jB
  refine aV (fun k=>?_) (fun k=>?_)
  · have hn:xs = []:=by
      obtain ⟨_,⟨e1,e2,e3⟩,_⟩:=dR (i:=0) rfl s0
      rcases e3 with e3 | ⟨b,pre,rest,U,fr,h4,_⟩
      · exact List.eq_nil_of_length_eq_zero (by omega)
      · rw [h4] at k; cases k
    subst hn
    exact fC s0
  · refine fh (τ:=Int) [] (val:=fun x=>.int .u64 x) (enc:=cI .u64) fM (cW _) (fun _=>rfl) s0 rfl rfl (by simp) fun y h' s1=>?_
    refine tk (τ:=Int) (i:=0) (j:=1) (enc:=cI .u64) (xs:=[]) (ys:=xs) fM fM.sl (cW _) (oneI _) s1 rfl rfl (by omega) (by simp; omega) (by simp; omega) fun v h2 s2=>?_
    exact s2
theorem mem_has {ss:List Sl} {fs:List (List Int)} {f a:Int} {r:Ptr} (hr:memAt ss fs f a r):(Mem.has fs f a↔r ≠ none):=by
  unfold memAt at hr
  split at hr
  · obtain ⟨s,q,_,_,rfl⟩:=hr; simp [*]
  · simp [*]
theorem mem_row {b:Nat} {s:Sl} {ss:List Sl} {fs:List (List Int)} {i:Nat} (hb:MemOk ss fs) (hi:i < fs.length):∃ sr,ss[i]? = some sr∧(wK b s ss fs)[2 + i]? = some (vU sr fs[i]):=by
  have hn:i < ss.length:=by rw [hb.len]; exact hi
  refine ⟨ss[i],aD hn,?_⟩
  show (blk b ly [sv s]::vec bb 1 cS s ss::rows ss fs)[2 + i]? = _
  rw [Nat.add_comm,List.getElem?_cons_succ,List.getElem?_cons_succ]
  exact rows_get ss fs i _ _ (aD hn) (aD hi)
theorem mem_set {b:Nat} {s:Sl} {ss:List Sl} {fs:List (List Int)} {i:Nat} {sr:Sl} {g:List Int} (h1:ss[i]? = some sr):(wK b s ss fs).set (2 + i) (vU sr g) = wK b s ss (fs.set i g):=by
  show (blk b ly [sv s]::vec bb 1 cS s ss::rows ss fs).set (2 + i) _ = _
  rw [Nat.add_comm,List.set_cons_succ,List.set_cons_succ,rows_set ss fs _ _ _ h1]; rfl
theorem mem_ok_set {ss:List Sl} {fs:List (List Int)} {i:Nat} {g:List Int} (hb:MemOk ss fs) (hg:g.length = 16):MemOk ss (fs.set i g) :=
  ⟨by simp [hb.len],by simpa using hb.le,fun f hf=>by
    rcases List.mem_or_eq_of_mem_set hf with h4 | h4
    · exact hb.row _ h4
    · rw [h4]; exact hg⟩
theorem sp_mem_Zero (x:Ptr) (fs:List (List Int)) (f:Int):Sp Tryz.prog sP [pv x,.int .i64 f] az [ia x fs] (fun r=>pa_ (r = (Mem.zero fs f).1) [ia x (Mem.zero fs f).2]):=by
  intro h s0
  obtain ⟨b,s,ss,rfl,hb,hl,st⟩:=mem_op s0
  refine sim_mem_Mem_Zero _ _ ?_
  unfold sh_mem_Mem_Zero
  rw [List.append_nil] at st
  refine cG (rest:=[]) [] (sp_mem_at b s ss fs hb f 0) st (List.append_nil _).symm fun r h' s1=>?_
  obtain ⟨hr,s2⟩:=bn.1 s1
  rw [List.append_nil] at s2
  have hh:=mem_has hr
  refine aV (fun k=>?_) (fun k=>?_)
  · have:¬ Mem.has fs f 0:=by rw [hh]; cases r <;> simp_all
    have e:Mem.zero fs f = (false,fs):=if_neg this
    rw [e]
    exact aU rfl (rN hb s2)
  · have hy:Mem.has fs f 0:=by rw [hh]; cases r <;> simp_all
    have e:Mem.zero fs f = (true,fs.set f.toNat (List.replicate 16 0)):=if_pos hy
    rw [e]
    obtain ⟨g1,g2,_⟩:=hy
    obtain ⟨n,rfl⟩:=Int.eq_ofNat_of_zero_le g1
    have hf:n < fs.length:=by omega
    obtain ⟨sr,h1,hrow⟩:=mem_row (b:=b) (s:=s) hb hf
    have hn:n < ss.length:=by rw [hb.len]; exact hf
    refine cu (bi s s2 (i:=0) rfl rfl rfl ?_)
    refine du s2 (j:=1) rfl (by omega) (by omega) fun q hq=>?_
    refine ef (j:=1) (i:=n) (k:=0) sr qZ s2 rfl hq (by simp) h1 (by simp) ?_
    refine clear_v (τ:=Int) (x0:=0) (enc:=cI .u64) fM rfl (cW _) (oneI _) s2 hrow fun h3 s3=>?_
    rw [mem_set h1,hb.row _ (List.getElem_mem hf)] at s3
    exact aU rfl (rN (mem_ok_set hb (by simp)) s3)
theorem sp_mem_Frame (x:Ptr) (fs:List (List Int)) (f:Int):Sp Tryz.prog qR [pv x,.int .i64 f] bY [ia x fs] (fun r=>aE [vU r (Mem.frame fs f),ia x fs]):=by
  intro h s0
  obtain ⟨b,s,ss,rfl,hb,hl,st⟩:=mem_op s0
  refine sim_mem_Mem_Frame _ _ ?_
  unfold uV
  rw [List.append_nil] at st
  refine cG (rest:=[]) [] (sp_mem_at b s ss fs hb f 0) st (List.append_nil _).symm fun r h' s1=>?_
  obtain ⟨hr,s2⟩:=bn.1 s1
  rw [List.append_nil] at s2
  have hh:=mem_has hr
  refine aV (fun k=>?_) (fun k=>?_)
  · have:¬ Mem.has fs f 0:=by rw [hh]; cases r <;> simp_all
    have e:Mem.frame fs f = []:=if_neg this
    rw [e]
    exact fC (rN hb s2)
  · have hy:Mem.has fs f 0:=by rw [hh]; cases r <;> simp_all
    have e:Mem.frame fs f = fs.getD f.toNat []:=if_pos hy
    rw [e]
    obtain ⟨g1,g2,_⟩:=hy
    obtain ⟨n,rfl⟩:=Int.eq_ofNat_of_zero_le g1
    have hf:n < fs.length:=by omega
    obtain ⟨sr,h1,hrow⟩:=mem_row (b:=b) (s:=s) hb hf
    have hn:n < ss.length:=by rw [hb.len]; exact hf
    have hlen:=hb.row _ (List.getElem_mem hf)
    refine cu (bi s s2 (i:=0) rfl rfl rfl ?_)
    refine du s2 (j:=1) rfl (by omega) (by omega) fun q hq=>?_
    refine ef (j:=1) (i:=n) (k:=0) sr qZ s2 rfl hq (by simp) h1 (by simp) ?_
    have hp:pick [2 + n] (wK b s ss fs) = [vU sr fs[n]]++(wK b s ss fs).eraseIdx (2 + n):=by
      unfold pick; rw [hrow]; rfl
    refine cG [2 + n] (sp_slices_Clone sr fs[n] (by omega)) s2 hp fun r2 h3 s3=>?_
    have e2:fs.getD (n:Int).toNat [] = fs[n]:=by simp [hf]
    rw [e2]
    have hlt:=(List.getElem?_eq_some_iff.1 hrow).1
    refine star_tail (dx s3) fun h4 s4=>?_
    have s5:=eB hlt s4
    rw [mem_set h1] at s5
    exact rN hb (by simpa using s5)
theorem sp_mem_New (n:Int) (h1:¬ n < 1) (h2:¬ n > 16):Sp Tryz.prog vj [.int .i64 n] tn [] (fun r=>aE [ia r (List.replicate n.toNat (List.replicate 16 0))]):=by
  intro h st
  refine sim_mem_New _ ?_
  unfold sh_mem_New
  obtain ⟨m,rfl⟩:=Int.eq_ofNat_of_zero_le (show 0 ≤ n by omega)
  refine cZ (by simp; omega) ?_
  refine oR st fun b h' s1=>?_
  refine Lp.intro (fun (i:Int) h=>∃ (k:Nat) (s:Sl) (ss:List Sl),i = k∧k ≤ m∧ss.length = k∧aE (wK b s ss (List.replicate k (List.replicate 16 0))) h) (fun (i:Int) _=>m - i.toNat)
    ⟨0,⟨none,0,0,none⟩,[],rfl,Nat.zero_le _,rfl,ba [1] (fC s1) rfl⟩ ?_
  rintro i h ⟨k,s,ss,rfl,hk,hss,s2⟩
  unfold mem_New_l1
  refine aV (fun c=>?_) (fun c=>?_)
  · have hlt:k < m:=by simpa using c
    have hw:IntKind.i64.wrap ((k:Int) + 1) = ((k + 1:Nat):Int):=by rw [bR (by omega) (by omega)]; rfl
    refine bi s s2 (i:=0) rfl rfl rfl ?_
    refine nB (τ:=Int) (x0:=0) (enc:=cI .u64) (n:=16) fM rfl s2 (by omega) (by omega) fun v h3 s3=>?_
    refine fh (τ:=Sl) [v] (val:=sv) (enc:=cS) uj qZ (fun _=>rfl) s3 rfl rfl (by simp) fun y h4 s4=>?_
    refine tk (τ:=Sl) (i:=3) (j:=0) (enc:=cS) (xs:=ss) (ys:=[v]) uj uj.sl qZ oneS s4 rfl rfl (by omega) (by simp; omega) (by simp; omega) fun w h5 s5=>?_
    refine us (i:=2) s5 rfl (Nat.le_refl _) fun h6 s6=>?_
    rw [hw]
    refine ⟨⟨k + 1,w,ss++[v],rfl,hlt,by simp [hss],?_⟩,by simp; omega⟩
    have s7:aE (vU v (List.replicate 16 0)::blk b ly [sv w]::vec bb 1 cS w (ss++[v])::rows ss (List.replicate k (List.replicate 16 0))) h6:=bX (l:=[vec bb 1 cS y [v]]) s6
    have s8:=ba [1,1] s7 rfl
    unfold wK
    rw [show List.replicate (k + 1) (List.replicate 16 (0:Int)) = List.replicate k (List.replicate 16 0)++[List.replicate 16 0] from by simp [List.replicate_succ'],rows_app _ _ _ _ (by simp [hss])]
    exact ke (.cons _ (.cons _ (List.perm_append_comm (l₁:=[_])))) s8
  · have:k = m:=by simp at c; omega
    subst this
    exact rN ⟨by simp [hss],by simp; omega,fun f hf=>by rw [(List.mem_replicate.1 hf).2]; simp⟩ s2
end Go.Proofs.YtmggcfijlpldpaaGreatDoor
namespace Go.Proofs.YtmggcfijlpldpaaGreatDoor
open Go Mb
set_option linter.unusedVariables false
def mn (a0:Int) (K:Sl→Hp→Prop) (s27:Bool):Hp→Prop:=br s27 ( hpv Tryz.prog (Instr.buildSlice dB 3 #[(0,(.int .i64 1)),(1,(.int .i64 2)),(2,(.int .i64 6))]) ct fun (v33:Sl)=>K v33) ( br (a0 == 22) ( hpv Tryz.prog (Instr.buildSlice dB 4 #[(0,(.int .i64 1)),(1,(.int .i64 2)),(2,(.int .i64 6)),(3,(.int .i64 6))]) ct fun (v36:Sl)=>K v36) ( K (⟨none,0,0,none⟩:Sl)))
def iQ (a0:Int) (K:Sl→Hp→Prop) (s1:Bool):Hp→Prop:=br s1 ( hpv Tryz.prog (Instr.buildSlice dB 1 #[(0,(.int .i64 0))]) ct fun (v8:Sl)=>K v8) ( br (a0 == 2) ( hpv Tryz.prog (Instr.buildSlice dB 3 #[(0,(.int .i64 0)),(1,(.int .i64 0)),(2,(.int .i64 4))]) ct fun (v11:Sl)=>K v11) ( br (a0 == 3) ( hpv Tryz.prog (Instr.buildSlice dB 4 #[(0,(.int .i64 0)),(1,(.int .i64 3)),(2,(.int .i64 0)),(3,(.int .i64 4))]) ct fun (v14:Sl)=>K v14) ( br (a0 == 6) ( hpv Tryz.prog (Instr.buildSlice dB 3 #[(0,(.int .i64 1)),(1,(.int .i64 0)),(2,(.int .i64 4))]) ct fun (v17:Sl)=>K v17) ( br (a0 == 7) ( hpv Tryz.prog (Instr.buildSlice dB 1 #[(0,(.int .i64 1))]) ct fun (v20:Sl)=>K v20) ( br (a0 == 8) ( hpv Tryz.prog (Instr.buildSlice dB 2 #[(0,(.int .i64 1)),(1,(.int .i64 4))]) ct fun (v23:Sl)=>K v23) ( br (a0 == 9) ( hpv Tryz.prog (Instr.buildSlice dB 4 #[(0,(.int .i64 0)),(1,(.int .i64 2)),(2,(.int .i64 5)),(3,(.int .i64 6))]) ct fun (v26:Sl)=>K v26) ( br (a0 == 20) ( hpv Tryz.prog (Instr.buildSlice dB 2 #[(0,(.int .i64 1)),(1,(.int .i64 2))]) ct fun (v29:Sl)=>K v29) ( br (a0 == 21) ( mn a0 K (a0 == 21)) ( mn a0 K (a0 == 23))))))))))
def sh_word_kinds (a0:Int) (K:Sl→Hp→Prop):Hp→Prop:=br (a0 == 1) ( iQ a0 K (a0 == 1)) ( br (a0 == 4) ( iQ a0 K (a0 == 4)) ( iQ a0 K (a0 == 5)))
theorem sim_word_kinds (a0:Int) {K:Sl→Hp→Prop} {h:Hp} (H:sh_word_kinds a0 K h):Ct Tryz.prog rL #[(.int .i64 a0)] h fun v h'=>∃ r,v = ct r∧K r h':=aw [(.int .i64 a0)] Tryz.func147 c c c fun _=>M<|O c<|aj<|M<|J c<|ac<|ax<|dX (iQ a0 K) (fun s1=>[(3,(.int .i64 a0)),(4,(.bool s1))]) (fun s1=>[]) (M<|p (bK c c)<|O c<|av c H (fun k37 H38=>am<|cq (a0 == 1) H38 (.cons c<|.cons c<|.nil _) .slnil) fun k37 H38=>M<|p (bK c c)<|O c<|av c H38 (fun k39 H40=>am<|cq (a0 == 4) H40 (.cons c<|.cons c<|.nil _) .slnil) fun k39 H40=>ap<|p (bK c c)<|O c<|cq (a0 == 5) H40 (.cons c<|.cons c<|.nil _) .slnil) fun s1 _ H2=>av c H2 (fun k3 H4=>M<|aa<|aR H4 (bp (vs:=[(.int .i64 0)]) c) c fun v8 _ H5=>O c<|ag<|Y ⟨v8,c,H5⟩) fun k3 H4=>M<|p (bK c c)<|O c<|av c H4 (fun k6 H7=>M<|aa<|aR H7 (bp (vs:=[(.int .i64 0),(.int .i64 0),(.int .i64 4)]) c) c fun v11 _ H8=>O c<|ag<|Y ⟨v11,c,H8⟩) fun k6 H7=>M<|p (bK c c)<|O c<|av c H7 (fun k9 H10=>M<|aa<|aR H10 (bp (vs:=[(.int .i64 0),(.int .i64 3),(.int .i64 0),(.int .i64 4)]) c) c fun v14 _ H11=>O c<|ag<|Y ⟨v14,c,H11⟩) fun k9 H10=>M<|p (bK c c)<|O c<|av c H10 (fun k12 H13=>M<|aa<|aR H13 (bp (vs:=[(.int .i64 1),(.int .i64 0),(.int .i64 4)]) c) c fun v17 _ H14=>O c<|ag<|Y ⟨v17,c,H14⟩) fun k12 H13=>M<|p (bK c c)<|O c<|av c H13 (fun k15 H16=>M<|aa<|aR H16 (bp (vs:=[(.int .i64 1)]) c) c fun v20 _ H17=>O c<|ag<|Y ⟨v20,c,H17⟩) fun k15 H16=>M<|p (bK c c)<|O c<|av c H16 (fun k18 H19=>M<|aa<|aR H19 (bp (vs:=[(.int .i64 1),(.int .i64 4)]) c) c fun v23 _ H20=>O c<|ag<|Y ⟨v23,c,H20⟩) fun k18 H19=>M<|p (bK c c)<|O c<|av c H19 (fun k21 H22=>M<|aa<|aR H22 (bp (vs:=[(.int .i64 0),(.int .i64 2),(.int .i64 5),(.int .i64 6)]) c) c fun v26 _ H23=>O c<|ag<|Y ⟨v26,c,H23⟩) fun k21 H22=>M<|p (bK c c)<|O c<|av c H22 (fun k24 H25=>M<|aa<|aR H25 (bp (vs:=[(.int .i64 1),(.int .i64 2)]) c) c fun v29 _ H26=>O c<|ag<|Y ⟨v29,c,H26⟩) fun k24 H25=>dX (mn a0 K) (fun s27=>[(3,(.int .i64 a0)),(30,(.bool s27))]) (fun s27=>[]) (M<|p (bK c c)<|O c<|av c H25 (fun k35 H36=>am<|cq (a0 == 21) H36 (.cons c<|.cons c<|.nil _) .slnil) fun k35 H36=>ap<|p (bK c c)<|O c<|cq (a0 == 23) H36 (.cons c<|.cons c<|.nil _) .slnil) fun s27 _ H28=>av c H28 (fun k29 H30=>M<|aa<|aR H30 (bp (vs:=[(.int .i64 1),(.int .i64 2),(.int .i64 6)]) c) c fun v33 _ H31=>O c<|ag<|Y ⟨v33,c,H31⟩) fun k29 H30=>M<|p (bK c c)<|O c<|av c H30 (fun k32 H33=>M<|aa<|aR H33 (bp (vs:=[(.int .i64 1),(.int .i64 2),(.int .i64 6),(.int .i64 6)]) c) c fun v36 _ H34=>O c<|ag<|Y ⟨v36,c,H34⟩) fun k32 H33=>am<|M<|O c<|ag<|Y ⟨(⟨none,0,0,none⟩:Sl),c,H33⟩
def tw (a0:ah) (a1:Int) (K:(Int × Bool)→Hp→Prop) (s1:Bool):Hp→Prop:=br s1 ( K (0,false)) ( gd (0 ≤ a1∧a1 < 5)<|K ((IntKind.i64.wrap (ah.get a0 a1)),true))
def sh_word_Arg (a0:ah) (a1:Int) (a2:Int) (K:(Int × Bool)→Hp→Prop):Hp→Prop:=br (!(((decide (a1 < 1)) || (decide (a1 ≥ 5))) || (decide (a2 ≤ 0)))) ( gd (0 ≤ a1∧a1 < 5)<|tw a0 a1 K (decide ((ah.get a0 a1) ≥ (IntKind.u64.wrap a2)))) ( tw a0 a1 K true)
theorem sim_word_Arg (a0:ah) (a1:Int) (a2:Int) {K:(Int × Bool)→Hp→Prop} {h:Hp} (H:sh_word_Arg a0 a1 a2 K h):Ct Tryz.prog mQ #[(.agg (ah.C a0).toArray),(.int .i64 a1),(.int .i64 a2)] h fun v h'=>∃ r,v = bI r∧K r h':=aw [(.agg (ah.C a0).toArray),(.int .i64 a1),(.int .i64 a2)] Tryz.func155 c c c fun _=>M<|aa<|cE (l:=ah.C a0) c c c fun b3=>p (aq c)<|O c<|aj<|dX (tw a0 a1 K) (fun s1=>[(1,(.int .i64 a1)),(3,(.pointer (some ⟨b3,0,none⟩))),(25,(.bool s1))]) (fun s1=>[bx b3 34 (ah.C a0)]) (ap<|J c<|p (cm c c)<|J c<|V c c (aK _) (fun g7=>wv<|ae c)<|V c c (aK _) (fun g8=>wv<|jy (aB c g8) c)<|p (dm c c)<|J c<|V c c (aK _) (fun g9=>wv<|ae c)<|V c c (aK _) (fun g10=>wv<|v_le (aB c g10) c)<|p (dm c c)<|J c<|V c c (aK _) (fun g11=>wv<|ae c)<|bP H (fun k13 H14=>iV H14 fun h15 H16=>G (Z<|bS k13)<|z_p (bu cX c (aB c k13) h15)<|G (Z<|bS k13)<|sK (cv<|bd (k:=0) ck c c<|at_34 _ _ h15) c<|G (Z<|bS k13)<|z_p (ae c)<|G (Z<|bS k13)<|z_p (dP ⟨_,Tryz.underlying3⟩ Tryz.underlying22 c)<|G (Z<|bS k13)<|z_p (jy c c)<|p (an c (bS k13) c)<|ac<|cq (decide ((ah.get a0 a1) ≥ (IntKind.u64.wrap a2))) H16 (.cons c<|.cons c<|.cons c<|.nil _)<|.cons_cons _ .slnil) fun k13 H14=>W (bF<|bz k13)<|W (bF<|bz k13)<|W (bF<|bz k13)<|W (bF<|bz k13)<|W (bF<|bz k13)<|p (aM c (bz k13) c)<|ac<|cq true H14 (.cons c<|.cons c<|.cons c<|.nil _)<|.cons_cons _ .slnil) fun s1 _ H2=>av c H2 (fun k3 H4=>M<|p (aq c)<|O c<|ag<|bo (bL c (bV c)<|bV c) ⟨(0,false),c,H4⟩) fun k3 H4=>am<|M<|J c<|iV H4 fun h5 H6=>p (bu cX c c h5)<|bg (bd (k:=0) ck c c<|at_34 _ _ h5) c<|p (dP ⟨_,Tryz.underlying22⟩ Tryz.underlying3 c)<|p (aq c)<|O c<|ag<|bo (bL c (bV c)<|bV c) ⟨((IntKind.i64.wrap (ah.get a0 a1)),true),c,H6⟩
def sh_word_fits (a0:ah) (a1:Int) (a2:Int) (a3:Int) (K:Bool→Hp→Prop):Hp→Prop:=br (a2 == 0) ( cl Tryz.prog mQ [(.agg (ah.C a0).toArray),(.int .i64 a1),(.int .i64 8)] bI fun r16=>K r16.2) ( br (a2 == 1) ( cl Tryz.prog mQ [(.agg (ah.C a0).toArray),(.int .i64 a1),(.int .i64 8)] bI fun r24=>K r24.2) ( br (a2 == 2) ( cl Tryz.prog mQ [(.agg (ah.C a0).toArray),(.int .i64 a1),(.int .i64 16)] bI fun r32=>K r32.2) ( br (a2 == 3) ( cl Tryz.prog mQ [(.agg (ah.C a0).toArray),(.int .i64 a1),(.int .i64 a3)] bI fun r41=>K r41.2) ( br (a2 == 4) ( gd (0 ≤ a1∧a1 < 5)<|K ((kW (ah.get a0 a1)).2)) ( br (a2 == 5) ( gd (0 ≤ a1∧a1 < 5)<|K ((decide ((ah.get a0 a1) ≥ 1)) && (decide ((ah.get a0 a1) ≤ 4)))) ( K true))))))
theorem sim_word_fits (a0:ah) (a1:Int) (a2:Int) (a3:Int) {K:Bool→Hp→Prop} {h:Hp} (H:sh_word_fits a0 a1 a2 a3 K h):Ct Tryz.prog n_word_fits #[(.agg (ah.C a0).toArray),(.int .i64 a1),(.int .i64 a2),(.int .i64 a3)] h fun v h'=>∃ r,v = az r∧K r h':=aw [(.agg (ah.C a0).toArray),(.int .i64 a1),(.int .i64 a2),(.int .i64 a3)] Tryz.func148 c c c fun _=>M<|aa<|cE (l:=ah.C a0) c c c fun b4=>O c<|M<|O c<|aj<|M<|J c<|ac<|ax<|M<|p (bK c c)<|O c<|av c H (fun k1 H2=>ap<|bg (bA (k:=0) fj c c c c) c<|J c<|aa<|D H2 en_155 fun r16 _ H3=>J c<|p (ai c c)<|p (ai c c)<|O c<|M<|J c<|O c<|ag<|Y ⟨r16.2,c,H3⟩) fun k1 H2=>M<|p (bK c c)<|O c<|av c H2 (fun k4 H5=>ap<|bg (bA (k:=0) fj c c c c) c<|J c<|aa<|D H5 en_155 fun r24 _ H6=>J c<|p (ai c c)<|p (ai c c)<|O c<|M<|J c<|O c<|ag<|Y ⟨r24.2,c,H6⟩) fun k4 H5=>M<|p (bK c c)<|O c<|av c H5 (fun k7 H8=>ap<|bg (bA (k:=0) fj c c c c) c<|J c<|aa<|D H8 en_155 fun r32 _ H9=>J c<|p (ai c c)<|p (ai c c)<|O c<|M<|J c<|O c<|ag<|Y ⟨r32.2,c,H9⟩) fun k7 H8=>M<|p (bK c c)<|O c<|av c H8 (fun k10 H11=>ap<|bg (bA (k:=0) fj c c c c) c<|J c<|J c<|aa<|D H11 en_155 fun r41 _ H12=>J c<|p (ai c c)<|p (ai c c)<|O c<|M<|J c<|O c<|ag<|Y ⟨r41.2,c,H12⟩) fun k10 H11=>M<|p (bK c c)<|O c<|av c H11 (fun k13 H14=>ap<|J c<|iV H14 fun h15 H16=>p (bu cX c c h15)<|bg (bd (k:=0) ck c c<|at_34 _ _ h15) c<|aa<|cD (vs:=[(.int .u64 (ah.get a0 a1))]) (bq<|ct_word_Rights (ah.get a0 a1) _) en_186 c c<|J c<|p (ai c c)<|p (ai c c)<|O c<|M<|J c<|O c<|ag<|Y ⟨(kW (ah.get a0 a1)).2,c,H16⟩) fun k13 H14=>M<|p (bK c c)<|O c<|av c H14 (fun k17 H18=>ap<|J c<|iV H18 fun h19 H20=>p (bu cX c c h19)<|bg (bd (k:=0) ck c c<|at_34 _ _ h19) c<|p (jy c c)<|J c<|V c c (ay _) (fun g21=>wv<|ae c)<|V c c (ay _) (fun g22=>wv<|bu cX c (aB c g22) h19)<|V c c (ay _) (fun g23=>cv<|bd (k:=0) ck (aB c g23) c<|at_34 _ _ h19)<|V c c (ay _) (fun g24=>wv<|v_le (aB c g24) c)<|p (bM c c)<|O c<|M<|J c<|O c<|ag<|Y ⟨((decide ((ah.get a0 a1) ≥ 1)) && (decide ((ah.get a0 a1) ≤ 4))),c,H20⟩) fun k17 H18=>am<|M<|J c<|O c<|ag<|Y ⟨true,c,H18⟩
def uo (a0:ah) (a1:Int) (K:Int→Hp→Prop) (r17:Sl) (Rec5:Int→Hp→Prop) (s4:Int):Hp→Prop:=br (decide (s4 < (r17.len:Int))) ( ix r17 s4 fun q22=>ld (q22.1,q22.2 + Int.toNat s4 * 1) (cI .i64) fun x23=>cl Tryz.prog n_word_fits [(.agg (ah.C a0).toArray),(.int .i64 (IntKind.i64.wrap (s4 + 1))),(.int .i64 x23),(.int .i64 a1)] az fun r29=>br (!r29) ( K 2) ( Rec5 (IntKind.i64.wrap (s4 + 1)))) ( K 0)
def sh_word_Check (a0:ah) (a1:Int) (K:Int→Hp→Prop):Hp→Prop:=br (!(aC a0).2) ( K 1) ( cl Tryz.prog rL [(.int .i64 ((aC a0).1))] ct fun r17=>Lp (uo a0 a1 K r17) 0)
theorem sim_word_Check (a0:ah) (a1:Int) {K:Int→Hp→Prop} {h:Hp} (H:sh_word_Check a0 a1 K h):Ct Tryz.prog gH #[(.agg (ah.C a0).toArray),(.int .i64 a1)] h fun v h'=>∃ r,v = aZ r∧K r h':=aw [(.agg (ah.C a0).toArray),(.int .i64 a1)] Tryz.func98 c c c fun _=>M<|aa<|cE (l:=ah.C a0) c c c fun b2=>O c<|M<|bg (bA (k:=0) fj c c c c) c<|aa<|cD (vs:=[(.agg (ah.C a0).toArray)]) (bq<|jO a0 _) en_53 c c<|J c<|p (ai c c)<|p (ai c c)<|p (aq c)<|O c<|aj<|M<|J c<|p (cf c)<|ac<|av c H (fun k1 H2=>M<|O c<|ag<|Y ⟨1,c,H2⟩) fun k1 H2=>am<|aj<|M<|J c<|aa<|D H2 en_147 fun r17 _ H3=>p (dv c Tryz.underlying40 c)<|J c<|ac<|ax<|bB (step:=uo a0 a1 K r17) (fun s4=>[(1,(.int .i64 a1)),(2,(.pointer (some ⟨b2,0,none⟩))),(17,(sv r17)),(18,(.int .i64 (r17.len:Int))),(19,(.int .i64 s4))]) (fun s4=>[bx b2 34 (ah.C a0)]) H3 (.cons c<|.cons c<|.cons c<|.cons c<|.cons c<|.nil _) (.cons_cons _ .slnil) fun Rec5 s4 _ H6=>M<|p (cm c c)<|ac<|aj<|av c H6 (fun k7 H8=>am<|aj<|ax<|M<|J c<|cg H8 fun q22 e9 h10 H11=>p (bm gV (aL c<|aY e9) c h10)<|aa<|aT H11 aW c (fun _=>c) c fun x23 H12=>p (aq c)<|O c<|M<|bg (bA (k:=0) fj c c c c) c<|J c<|p (bt c c)<|J c<|J c<|aa<|D H12 en_148 fun r29 _ H13=>p (cf c)<|ac<|av c H13 (fun k14 H15=>M<|O c<|ag<|Y ⟨2,c,H15⟩) fun k14 H15=>am<|ap<|p (bt c c)<|J c<|ac<|cF (IntKind.i64.wrap (s4 + 1)) H15 (.cons c<|.cons c<|.cons c<|.cons c<|.cons c<|.nil _)<|.cons_cons _ .slnil) fun k7 H8=>bh<|M<|O c<|ag<|Y ⟨0,c,H8⟩
def sh_word_Args (a0:Int) (K:Int→Hp→Prop):Hp→Prop:=cl Tryz.prog rL [(.int .i64 a0)] ct fun r4=>K (r4.len:Int)
theorem sim_word_Args (a0:Int) {K:Int→Hp→Prop} {h:Hp} (H:sh_word_Args a0 K h):Ct Tryz.prog n_word_Args #[(.int .i64 a0)] h fun v h'=>∃ r,v = eo r∧K r h':=aw [(.int .i64 a0)] Tryz.func209 c c c fun _=>M<|O c<|M<|J c<|aa<|D H en_147 fun r4 _ H1=>p (dv c Tryz.underlying40 c)<|O c<|ag<|Y ⟨(r4.len:Int),c,H1⟩
end Go.Proofs.YtmggcfijlpldpaaGreatDoor
