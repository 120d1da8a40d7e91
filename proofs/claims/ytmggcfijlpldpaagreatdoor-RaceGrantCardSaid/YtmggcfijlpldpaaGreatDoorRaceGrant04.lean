/- Part of the proof of: The law RaceGrant returns true for every input, and leaves its arguments as they were. -/
import Derived.Test.YtmggcfijlpldpaaGreatDoorRaceGrant03
set_option linter.all false
set_option maxRecDepth 20000
namespace Go.Proofs.YtmggcfijlpldpaaGreatDoor
open Go Mb
set_option linter.unusedVariables false
def gN (a0:Sl) (K:Sl→Hp→Prop):Hp→Prop:=br a0.a.isNone ( K (⟨none,0,0,none⟩:Sl)) ( hpv Tryz.prog (Instr.buildSlice eF 0 #[]) dN fun (v5:Sl)=>hpv Tryz.prog (Builtin.append_ #[eF,eF] eF #[(sv v5),(sv a0)]) dN fun (v7:Sl)=>K v7)
theorem ma (a0:Sl) {K:Sl→Hp→Prop} {h:Hp} (H:gN a0 K h):Ct Tryz.prog eK #[(sv a0)] h fun v h'=>∃ r,v = dN r∧K r h':=aw [(sv a0)] Tryz.func47 c c c fun _=>M<|O c<|aj<|M<|J c<|p (v_seqT Tryz.underlying43 c)<|ac<|av c H (fun k1 H2=>M<|O c<|ag<|Y ⟨(⟨none,0,0,none⟩:Sl),c,H2⟩) fun k1 H2=>am<|M<|aa<|aR H2 (bp (vs:=[]) c) c fun v5 _ H3=>J c<|aa<|aR H3 (dA c c) c fun v7 _ H4=>O c<|ag<|Y ⟨v7,c,H4⟩
def eq (a0:Sl) (a1:Int) (K:(Int × Bool)→Hp→Prop) (Rec2:(Int × Int)→Hp→Prop) (s1:Int × Int):Hp→Prop:=br (decide (s1.1 < s1.2)) ( ix a0 (IntKind.i64.wrap (Int.fdiv (IntKind.u64.wrap (IntKind.i64.wrap (s1.1 + s1.2))) (2 ^ (min (Int.toNat 1) (IntKind.bits .u64))))) fun q24=>ld (q24.1,q24.2 + Int.toNat (IntKind.i64.wrap (Int.fdiv (IntKind.u64.wrap (IntKind.i64.wrap (s1.1 + s1.2))) (2 ^ (min (Int.toNat 1) (IntKind.bits .u64))))) * 1) (cI .u64) fun x25=>br (gZ x25 a1) ( Rec2 ((IntKind.i64.wrap ((IntKind.i64.wrap (Int.fdiv (IntKind.u64.wrap (IntKind.i64.wrap (s1.1 + s1.2))) (2 ^ (min (Int.toNat 1) (IntKind.bits .u64))))) + 1)),s1.2)) ( Rec2 (s1.1,(IntKind.i64.wrap (Int.fdiv (IntKind.u64.wrap (IntKind.i64.wrap (s1.1 + s1.2))) (2 ^ (min (Int.toNat 1) (IntKind.bits .u64)))))))) ( br (decide (s1.1 < (a0.len:Int))) ( ix a0 s1.1 fun q38=>ld (q38.1,q38.2 + Int.toNat s1.1 * 1) (cI .u64) fun x39=>br (!(x39 == a1)) ( ld (q38.1,q38.2 + Int.toNat s1.1 * 1) (cI .u64) fun x46=>K (s1.1,((dz x46) && (dz a1)))) ( K (s1.1,true))) ( K (s1.1,false)))
def gx (a0:Sl) (a1:Int) (K:(Int × Bool)→Hp→Prop):Hp→Prop:=Lp (eq a0 a1 K) (0,(a0.len:Int))
theorem lB (a0:Sl) (a1:Int) {K:(Int × Bool)→Hp→Prop} {h:Hp} (H:gx a0 a1 K h):Ct Tryz.prog eE #[(sv a0),(.int .u64 a1)] h fun v h'=>∃ r,v = bI r∧K r h':=aw [(sv a0),(.int .u64 a1)] Tryz.func164 c c c fun _=>M<|p (aq c)<|O c<|M<|J c<|p (dv c Tryz.underlying158 c)<|O c<|M<|J c<|p (aq c)<|O c<|aj<|ax<|bB (step:=eq a0 a1 K) (fun s1=>[(0,(sv a0)),(1,(.int .u64 a1)),(6,(.int .i64 (a0.len:Int))),(7,(.int .i64 s1.1)),(8,(.int .i64 s1.2))]) (fun s1=>[]) H (.cons c<|.cons c<|.cons c<|.cons c<|.cons c<|.nil _) .slnil fun Rec2 s1 _ H3=>aj<|M<|J c<|J c<|p (cm c c)<|ac<|av c H3 (fun k4 H5=>am<|ax<|M<|J c<|J c<|p (bt c c)<|p (dP ⟨_,Tryz.underlying3⟩ Tryz.underlying254 c)<|p (v_shr c c (by decide))<|p (dP ⟨_,Tryz.underlying254⟩ Tryz.underlying3 c)<|O c<|M<|J c<|J c<|cg H5 fun q24 e6 h7 H8=>p (bm rI (aL c<|aY e6) c h7)<|aa<|aT H8 ck c (fun _=>c) c fun x25 H9=>J c<|aa<|cD (vs:=[(.int .u64 x25),(.int .u64 a1)]) (bq<|ct_cmp_Less_uint64 x25 a1 _) en_189 c c<|ac<|av c H9 (fun k10 H11=>ap<|J c<|p (bt c c)<|O c<|cF ((IntKind.i64.wrap ((IntKind.i64.wrap (Int.fdiv (IntKind.u64.wrap (IntKind.i64.wrap (s1.1 + s1.2))) (2 ^ (min (Int.toNat 1) (IntKind.bits .u64))))) + 1)),s1.2) H11 (.cons c<|.cons c<|.cons c<|.cons c<|.cons c<|.nil _) .slnil) fun k10 H11=>ap<|J c<|O c<|cF (s1.1,(IntKind.i64.wrap (Int.fdiv (IntKind.u64.wrap (IntKind.i64.wrap (s1.1 + s1.2))) (2 ^ (min (Int.toNat 1) (IntKind.bits .u64)))))) H11 (.cons c<|.cons c<|.cons c<|.cons c<|.cons c<|.nil _) .slnil) fun k4 H5=>bh<|M<|J c<|J c<|J c<|p (cm c c)<|J c<|V c c (ay _) (fun g12=>wv<|ae c)<|V c c (ay _) (fun g13=>wv<|ae c)<|bP H5 (fun k15 H16=>cg H16 fun q38 e17 h18 H19=>G (Z k15)<|z_p (bm rI (aL (aB c k15)<|aY e17) (aB c k15) h18)<|G (Z k15)<|aT H19 ck c (fun _=>c) c fun x39 H20=>G (Z k15)<|z_p (ae c)<|G (Z k15)<|z_p (bK c c)<|G (Z k15)<|z_p (ae c)<|V c c (aK _) (fun g21=>wv<|ae c)<|V c c (aK _) (fun g22=>wv<|ae c)<|V c c (aK _) (fun g23=>wv<|bm rI (aL (aB c g23)<|aY e17) (aB c g23) h18)<|bP H20 (fun k25 H26=>G (Z<|bS k25)<|aT H26 ck (aB c k25) (fun _=>c) c fun x46 H27=>G (Z<|bS k25)<|cD (vs:=[(.int .u64 x46)]) (bq<|oM x46 _) en_190 c c<|G (Z<|bS k25)<|z_p (ae c)<|V c c (ay _) (fun g28=>wv<|ae c)<|cO (vs:=[(.int .u64 a1)]) c c c (ay _) (fun g29=>bq<|oM a1 _) en_190 (fun g29=>aS (aB c g29) bO) c<|G (Z<|bS k25)<|z_p (bM c c)<|G (Z k15)<|z_p (an c (bS k25) c)<|p (aM c k15 c)<|p (aq c)<|O c<|ag<|bo (bL c (bV c)<|bV c) ⟨(s1.1,((dz x46) && (dz a1))),c,H27⟩) fun k25 H26=>W (bF<|bz k25)<|W (bF<|bz k25)<|W (bF<|bz k25)<|W (df _)<|W (df _)<|W (bF<|bz k25)<|G (Z k15)<|z_p (aM c (bz k25) c)<|p (aM c k15 c)<|p (aq c)<|O c<|ag<|bo (bL c (bV c)<|bV c) ⟨(s1.1,true),c,H26⟩) fun k15 H16=>W (aP k15)<|W (aP k15)<|W (aP k15)<|W (aP k15)<|W (aP k15)<|W (df _)<|W (df _)<|W (df _)<|W (df _)<|W (df _)<|W (df _)<|W (df _)<|W (df _)<|W (df _)<|W (aP k15)<|p (an c k15 c)<|p (aq c)<|O c<|ag<|bo (bL c (bV c)<|bV c) ⟨(s1.1,false),c,H16⟩
def jj (a0:Sl) (a1:Int) (a2:Sl) (K:Sl→Hp→Prop):Hp→Prop:=hpv Tryz.prog (Instr.sliceAt bb (sv a0) (some (.int .i64 a1)) none none) bY fun (v12:Sl)=>br ((a2.len:Int) == 0) ( K a0) ( br (a1 == (a0.len:Int)) ( hpv Tryz.prog (Builtin.append_ #[bb,bb] bb #[(sv a0),(sv a2)]) bY fun (v25:Sl)=>K v25) ( br (decide ((IntKind.i64.wrap ((a0.len:Int) + (a2.len:Int))) > (a0.cap:Int))) ( hpv Tryz.prog (Instr.sliceAt bb (sv a0) none (some (.int .i64 a1)) none) bY fun (v34:Sl)=>hpv Tryz.prog (Builtin.append_ #[bb,kE] bb #[(sv v34),(.int .i64 (IntKind.i64.wrap ((IntKind.i64.wrap ((a0.len:Int) + (a2.len:Int))) - a1)))]) bY fun (v40:Sl)=>hpv Tryz.prog (Instr.sliceAt bb (sv v40) (some (.int .i64 a1)) none none) bY fun (v43:Sl)=>hpv Tryz.prog (Builtin.copy_ #[bb,bb] kE #[(sv v43),(sv a2)]) eo fun (v45:Int)=>both ( hpv Tryz.prog (Instr.sliceAt bb (sv v40) (some (.int .i64 (IntKind.i64.wrap (a1 + (a2.len:Int))))) none none) bY fun (v50:Sl)=>hpv Tryz.prog (Instr.sliceAt bb (sv a0) (some (.int .i64 a1)) none none) bY fun (v53:Sl)=>hpv Tryz.prog (Builtin.copy_ #[bb,bb] kE #[(sv v50),(sv v53)]) eo fun (v54:Int)=>K v40) ( hpv Tryz.prog (Instr.sliceAt bb (sv a0) (some (.int .i64 a1)) none none) bY fun (v53:Sl)=>hpv Tryz.prog (Instr.sliceAt bb (sv v40) (some (.int .i64 (IntKind.i64.wrap (a1 + (a2.len:Int))))) none none) bY fun (v50:Sl)=>hpv Tryz.prog (Builtin.copy_ #[bb,bb] kE #[(sv v50),(sv v53)]) eo fun (v54:Int)=>K v40)) ( hpv Tryz.prog (Instr.sliceAt bb (sv a0) none (some (.int .i64 (IntKind.i64.wrap ((a0.len:Int) + (a2.len:Int))))) none) bY fun (v60:Sl)=>hpv Tryz.prog (Instr.sliceAt bb (sv v60) (some (.int .i64 (IntKind.i64.wrap (a1 + (a2.len:Int))))) none none) bY fun (v66:Sl)=>cln Tryz.prog (callFunc uA #[(sv a2),(sv v66)]) az fun (v67:Bool)=>br (!v67) ( both ( hpv Tryz.prog (Instr.sliceAt bb (sv v60) (some (.int .i64 (IntKind.i64.wrap (a1 + (a2.len:Int))))) none none) bY fun (v73:Sl)=>hpv Tryz.prog (Instr.sliceAt bb (sv v60) (some (.int .i64 a1)) none none) bY fun (v76:Sl)=>hpv Tryz.prog (Builtin.copy_ #[bb,bb] kE #[(sv v73),(sv v76)]) eo fun (v77:Int)=>hpv Tryz.prog (Instr.sliceAt bb (sv v60) (some (.int .i64 a1)) none none) bY fun (v80:Sl)=>hpv Tryz.prog (Builtin.copy_ #[bb,bb] kE #[(sv v80),(sv a2)]) eo fun (v82:Int)=>K v60) ( hpv Tryz.prog (Instr.sliceAt bb (sv v60) (some (.int .i64 a1)) none none) bY fun (v76:Sl)=>hpv Tryz.prog (Instr.sliceAt bb (sv v60) (some (.int .i64 (IntKind.i64.wrap (a1 + (a2.len:Int))))) none none) bY fun (v73:Sl)=>hpv Tryz.prog (Builtin.copy_ #[bb,bb] kE #[(sv v73),(sv v76)]) eo fun (v77:Int)=>hpv Tryz.prog (Instr.sliceAt bb (sv v60) (some (.int .i64 a1)) none none) bY fun (v80:Sl)=>hpv Tryz.prog (Builtin.copy_ #[bb,bb] kE #[(sv v80),(sv a2)]) eo fun (v82:Int)=>K v60)) ( hpv Tryz.prog (Instr.sliceAt bb (sv v60) (some (.int .i64 (a0.len:Int))) none none) bY fun (v86:Sl)=>hpv Tryz.prog (Builtin.copy_ #[bb,bb] kE #[(sv v86),(sv a2)]) eo fun (v88:Int)=>hpv Tryz.prog (Instr.sliceAt bb (sv v60) (some (.int .i64 a1)) none none) bY fun (v91:Sl)=>cl Tryz.prog rM [(sv v91),(.int .i64 (a2.len:Int))] R_ fun (_:Unit)=>K v60))))
theorem oQ (a0:Sl) (a1:Int) (a2:Sl) {K:Sl→Hp→Prop} {h:Hp} (H:jj a0 a1 a2 K h):Ct Tryz.prog dw #[(sv a0),(.int .i64 a1),(sv a2)] h fun v h'=>∃ r,v = bY r∧K r h':=aw [(sv a0),(.int .i64 a1),(sv a2)] Tryz.func165 c c c fun _=>M<|O c<|M<|J c<|J c<|aa<|aR H (eT c c c c c) c fun v12 _ H1=>ac<|M<|J c<|p (dv c Tryz.underlying158 c)<|O c<|aj<|M<|J c<|p (bK c c)<|ac<|av c H1 (fun k2 H3=>M<|J c<|O c<|ag<|Y ⟨a0,c,H3⟩) fun k2 H3=>am<|M<|J c<|p (dv c Tryz.underlying158 c)<|O c<|aj<|M<|J c<|J c<|p (bK c c)<|ac<|av c H3 (fun k4 H5=>M<|J c<|J c<|aa<|aR H5 (dA c c) c fun v25 _ H6=>O c<|ag<|Y ⟨v25,c,H6⟩) fun k4 H5=>am<|aj<|M<|J c<|J c<|p (bt c c)<|J c<|p (v_cap c Tryz.underlying158 c)<|p (qi c c)<|ac<|av c H5 (fun k7 H8=>M<|J c<|J c<|aa<|aR H8 (eT c c c c c) c fun v34 _ H9=>J c<|J c<|p (bt c c)<|J c<|p (v_sub c c)<|aa<|aR H9 (dA c c) c fun v40 _ H10=>O c<|M<|J c<|J c<|aa<|aR H10 (eT c c c c c) c fun v43 _ H11=>J c<|aa<|aR H11 (x_copy c c) c fun v45 _ H12=>ac<|aj<|bj (n:=9) [] ci c .slnil<|U 0 c (ae c)<|U 1 c (ae c)<|U 2 c (ae c)<|U 3 c (bt c c)<|U 5 c (ae c)<|U 6 c (ae c)<|js H12 fun H13_1 H13_2=>jt (i:=4) (j:=7) (by kernel_rfl) (cy c c<|aR H13_1 (eT c c c c c) c fun v50 _ H14=>⟨.slnil,I 7 c<|aR H14 (eT c c c c c) c fun v53 _ H15=>⟨.slnil,I 8 c<|aR H15 (x_copy c c) c fun v54 _ H16=>⟨.slnil,aQ (by kernel_rfl)<|M<|J c<|O c<|ag<|Y ⟨v40,c,H16⟩⟩⟩⟩)<|cy c c<|aR H13_2 (eT c c c c c) c fun v53 _ H14=>⟨.slnil,I 4 c<|aR H14 (eT c c c c c) c fun v50 _ H15=>⟨.slnil,I 8 c<|aR H15 (x_copy c c) c fun v54 _ H16=>⟨.slnil,aQ (by kernel_rfl)<|M<|J c<|O c<|ag<|Y ⟨v40,c,H16⟩⟩⟩⟩) fun k7 H8=>am<|M<|J c<|J c<|J c<|p (bt c c)<|aa<|aR H8 (eT c c c c c) c fun v60 _ H17=>O c<|aj<|M<|J c<|J c<|J c<|J c<|p (bt c c)<|aa<|aR H17 (eT c c c c c) c fun v66 _ H18=>aa<|fS H18 (rA (vs:=[(sv a2),(sv v66)]) c) c fun v67 _ H19=>p (cf c)<|ac<|av c H19 (fun k20 H21=>aj<|bj (n:=9) [] ci c .slnil<|U 0 c (ae c)<|U 1 c (ae c)<|U 2 c (ae c)<|U 3 c (bt c c)<|U 5 c (ae c)<|U 6 c (ae c)<|js H21 fun H22_1 H22_2=>jt (i:=4) (j:=7) (by kernel_rfl) (cy c c<|aR H22_1 (eT c c c c c) c fun v73 _ H23=>⟨.slnil,I 7 c<|aR H23 (eT c c c c c) c fun v76 _ H24=>⟨.slnil,I 8 c<|aR H24 (x_copy c c) c fun v77 _ H25=>⟨.slnil,aQ (by kernel_rfl)<|M<|J c<|J c<|aa<|aR H25 (eT c c c c c) c fun v80 _ H26=>J c<|aa<|aR H26 (x_copy c c) c fun v82 _ H27=>ac<|M<|J c<|O c<|ag<|Y ⟨v60,c,H27⟩⟩⟩⟩)<|cy c c<|aR H22_2 (eT c c c c c) c fun v76 _ H23=>⟨.slnil,I 4 c<|aR H23 (eT c c c c c) c fun v73 _ H24=>⟨.slnil,I 8 c<|aR H24 (x_copy c c) c fun v77 _ H25=>⟨.slnil,aQ (by kernel_rfl)<|M<|J c<|J c<|aa<|aR H25 (eT c c c c c) c fun v80 _ H26=>J c<|aa<|aR H26 (x_copy c c) c fun v82 _ H27=>ac<|M<|J c<|O c<|ag<|Y ⟨v60,c,H27⟩⟩⟩⟩) fun k20 H21=>am<|M<|J c<|J c<|aa<|aR H21 (eT c c c c c) c fun v86 _ H28=>J c<|aa<|aR H28 (x_copy c c) c fun v88 _ H29=>ac<|M<|J c<|J c<|aa<|aR H29 (eT c c c c c) c fun v91 _ H30=>J c<|aa<|D H30 en_192 fun r93 _ H31=>ac<|M<|J c<|O c<|ag<|Y ⟨v60,c,H31⟩
def jh (a0:Sl) (a1:Int) (K:Int→Hp→Prop) (Rec2:Int→Hp→Prop) (s1:Int):Hp→Prop:=br (decide (s1 < (a0.len:Int))) ( ix a0 s1 fun q14=>ld (q14.1,q14.2 + Int.toNat s1 * 1) (cI .i64) fun x15=>br (a1 == x15) ( K s1) ( Rec2 (IntKind.i64.wrap (s1 + 1)))) ( K (-1))
def nr (a0:Sl) (a1:Int) (K:Int→Hp→Prop):Hp→Prop:=Lp (jh a0 a1 K) 0
theorem uw (a0:Sl) (a1:Int) {K:Int→Hp→Prop} {h:Hp} (H:nr a0 a1 K h):Ct Tryz.prog jK #[(sv a0),(.int .i64 a1)] h fun v h'=>∃ r,v = eo r∧K r h':=aw [(sv a0),(.int .i64 a1)] Tryz.func193 c c c fun _=>M<|O c<|aj<|M<|J c<|p (dv c Tryz.underlying40 c)<|J c<|ac<|ax<|bB (step:=jh a0 a1 K) (fun s1=>[(0,(sv a0)),(1,(.int .i64 a1)),(7,(.int .i64 (a0.len:Int))),(8,(.int .i64 s1))]) (fun s1=>[]) H (.cons c<|.cons c<|.cons c<|.cons c<|.nil _) .slnil fun Rec2 s1 _ H3=>M<|p (cm c c)<|ac<|aj<|av c H3 (fun k4 H5=>am<|aj<|ax<|M<|J c<|O c<|M<|J c<|J c<|J c<|cg H5 fun q14 e6 h7 H8=>p (bm gV (aL c<|aY e6) c h7)<|aa<|aT H8 aW c (fun _=>c) c fun x15 H9=>p (bK c c)<|ac<|av c H9 (fun k10 H11=>M<|J c<|O c<|ag<|Y ⟨s1,c,H11⟩) fun k10 H11=>am<|ap<|p (bt c c)<|J c<|ac<|cF (IntKind.i64.wrap (s1 + 1)) H11 (.cons c<|.cons c<|.cons c<|.cons c<|.nil _) .slnil) fun k4 H5=>bh<|M<|O c<|ag<|Y ⟨(-1),c,H5⟩
def eJ (a0:Sl) (a1:Int) (a3:Value) (Rec2:Int→Hp→Prop) (s1:Int) (Rec7:Int→Hp→Prop) (s6:Int):Hp→Prop:=br (decide (s6 > a1)) ( ix a0 s6 fun q25=>ix a0 (IntKind.i64.wrap (s6 - 1)) fun q30=>ld (q25.1,q25.2 + Int.toNat s6 * 1) (cI .i64) fun x26=>ld (q30.1,q30.2 + Int.toNat (IntKind.i64.wrap (s6 - 1)) * 1) (cI .i64) fun x31=>clv Tryz.prog a3 [(.int .i64 x26),(.int .i64 x31)] eo fun r32=>br (decide (r32 < 0)) ( ld (q30.1,q30.2 + Int.toNat (IntKind.i64.wrap (s6 - 1)) * 1) (cI .i64) fun x46=>ld (q25.1,q25.2 + Int.toNat s6 * 1) (cI .i64) fun x50=>st (q25.1,q25.2 + Int.toNat s6 * 1) [.int .i64 x46]<|st (q30.1,q30.2 + Int.toNat (IntKind.i64.wrap (s6 - 1)) * 1) [.int .i64 x50]<|Rec7 (IntKind.i64.wrap (s6 - 1))) ( Rec2 (IntKind.i64.wrap (s1 + 1)))) ( Rec2 (IntKind.i64.wrap (s1 + 1)))
def dy (a0:Sl) (a1:Int) (a2:Int) (a3:Value) (K:Unit→Hp→Prop) (Rec2:Int→Hp→Prop) (s1:Int):Hp→Prop:=br (decide (s1 < a2)) ( Lp (eJ a0 a1 a3 Rec2 s1) s1) ( K ())
def gX (a0:Sl) (a1:Int) (a2:Int) (a3:Value) (K:Unit→Hp→Prop):Hp→Prop:=Lp (dy a0 a1 a2 a3 K) (IntKind.i64.wrap (a1 + 1))
theorem my (a0:Sl) (a1:Int) (a2:Int) (a3:Value) {K:Unit→Hp→Prop} {h:Hp} (H:gX a0 a1 a2 a3 K h):Ct Tryz.prog bT #[(sv a0),(.int .i64 a1),(.int .i64 a2),a3] h fun v h'=>∃ r,v = R_ r∧K r h':=aw [(sv a0),(.int .i64 a1),(.int .i64 a2),a3] Tryz.func184 c c c fun _=>M<|J c<|p (bt c c)<|O c<|ax<|bB (step:=dy a0 a1 a2 a3 K) (fun s1=>[(0,(sv a0)),(1,(.int .i64 a1)),(2,(.int .i64 a2)),(3,a3),(8,(.int .i64 s1))]) (fun s1=>[]) H (.cons c<|.cons c<|.cons c<|.cons c<|.cons c<|.nil _) .slnil fun Rec2 s1 _ H3=>aj<|M<|J c<|J c<|p (cm c c)<|ac<|av c H3 (fun k4 H5=>am<|aj<|ax<|M<|J c<|O c<|ax<|bB (step:=eJ a0 a1 a3 Rec2 s1) (fun s6=>[(0,(sv a0)),(1,(.int .i64 a1)),(2,(.int .i64 a2)),(3,a3),(8,(.int .i64 s1)),(9,(.int .i64 s6))]) (fun s6=>[]) H5 (.cons c<|.cons c<|.cons c<|.cons c<|.cons c<|.cons c<|.nil _) .slnil fun Rec7 s6 _ H8=>aj<|aj<|bj (n:=17) [] ci c .slnil<|U 0 c (ae c)<|U 1 c (ae c)<|U 2 c (qi c c)<|U 3 c (ae c)<|im H8 (fun k9 H10=>R 4 c (Z k9) (ve<|ae c)<|R 5 c (Z k9) (ve<|ae c)<|R 6 c (Z k9) (ve<|ae c)<|R 9 c (Z k9) (ve<|ae c)<|R 10 c (Z k9) (ve<|ae c)<|R 11 c (Z k9) (ve<|v_sub c c)<|fZ H10 fun q25 e11 h12 H13=>R 7 c (Z k9) (ve<|bm gV (aL c<|aY e11) c h12)<|fZ H13 fun q30 e14 h15 H16=>R 12 c (Z k9) (ve<|bm gV (aL c<|aY e14) c h15)<|lS (i:=8) (fun _ _ _ _ hh=>hh) H16 c (by kernel_rfl) c c c (Z k9) aW c (fun _=>c) c fun x26 H17=>lS (i:=13) (fun _ _ _ _ hh=>hh) H17 c (by kernel_rfl) c c c (Z k9) aW c (fun _=>c) c fun x31 H18=>eva_1 (i:=14) (by kernel_rfl)<|way_on c c c c (Z k9)<|to_clv H18 c c c fun r32 _ H19=>⟨.slnil,R 15 c (Z k9) (ve<|cm c c)<|U 16 c (aM c k9 c)<|aQ (by kernel_rfl)<|av c H19 (fun k20 H21=>am<|aj<|ax<|bj (n:=18) [] ci c .slnil<|U 0 c (ae c)<|U 1 c (ae c)<|U 2 c (ae c)<|U 3 c (ae c)<|U 4 c (v_sub c c)<|U 5 c (ae c)<|U 6 c (ae c)<|U 7 c (v_sub c c)<|U 8 c (bm gV (aL c<|aY e14) c h15)<|U 10 c (ae c)<|U 11 c (ae c)<|U 12 c (bm gV (aL c<|aY e11) c h12)<|bD (i:=9) (fun _ _ _ _ hh=>hh) H21 c (by kernel_rfl) aW c (fun _=>c) c fun x46 H22=>bD (i:=13) (fun _ _ _ _ hh=>hh) H22 c (by kernel_rfl) aW c (fun _=>c) c fun x50 H23=>U 14 c (bm gV (aL c<|aY e11) c h12)<|I 15 c<|dq qB c c c c c H23 fun _ H24=>⟨.slnil,U 16 c (bm gV (aL c<|aY e14) c h15)<|I 17 c<|dq qB c c c c c H24 fun _ H25=>⟨.slnil,aQ (by kernel_rfl)<|ap<|J c<|p (v_sub c c)<|O c<|cF (IntKind.i64.wrap (s6 - 1)) H25 (.cons c<|.cons c<|.cons c<|.cons c<|.cons c<|.cons c<|.nil _) .slnil⟩⟩) fun k20 H21=>bh<|ap<|J c<|p (bt c c)<|O c<|cF (IntKind.i64.wrap (s1 + 1)) H21 (.cons c<|.cons c<|.cons c<|.cons c<|.cons c<|.nil _) .slnil⟩) fun k9 H10=>F 4 c (aP k9)<|F 5 c (aP k9)<|F 6 c (aP k9)<|F 7 c (aP k9)<|F 8 c (aP k9)<|F 9 c (aP k9)<|F 10 c (aP k9)<|F 11 c (aP k9)<|F 12 c (aP k9)<|F 13 c (aP k9)<|F 14 c (aP k9)<|F 15 c (aP k9)<|U 16 c (an c k9 c)<|aQ (by kernel_rfl)<|ev_no c c<|bh<|ap<|J c<|p (bt c c)<|O c<|cF (IntKind.i64.wrap (s1 + 1)) H10 (.cons c<|.cons c<|.cons c<|.cons c<|.cons c<|.nil _) .slnil) fun k4 H5=>bh<|end_i (res_0 c) ⟨(),c,H5⟩
def kF (a0:Sl) (a1:Int) (a2:Value) (Rec9:Int→Hp→Prop) (s8:Int) (Rec14:(Int × Int)→Hp→Prop) (s13:Int × Int):Hp→Prop:=br (decide (s13.2 ≤ a1)) ( cl Tryz.prog jU [(sv a0),(.int .i64 s13.1),(.int .i64 (IntKind.i64.wrap (s13.1 + s8))),(.int .i64 s13.2),a2] R_ fun (_:Unit)=>Rec14 (s13.2,(IntKind.i64.wrap (s13.2 + (IntKind.i64.wrap (2 * s8)))))) ( br (decide ((IntKind.i64.wrap (s13.1 + s8)) < a1)) ( cl Tryz.prog jU [(sv a0),(.int .i64 s13.1),(.int .i64 (IntKind.i64.wrap (s13.1 + s8))),(.int .i64 a1),a2] R_ fun (_:Unit)=>Rec9 (IntKind.i64.wrap (s8 * 2))) ( Rec9 (IntKind.i64.wrap (s8 * 2))))
def de (a0:Sl) (a1:Int) (a2:Value) (K:Unit→Hp→Prop) (Rec9:Int→Hp→Prop) (s8:Int):Hp→Prop:=br (decide (s8 < a1)) ( Lp (kF a0 a1 a2 Rec9 s8) (0,(IntKind.i64.wrap (2 * s8)))) ( K ())
def eU (a0:Sl) (a1:Int) (a2:Value) (K:Unit→Hp→Prop) (Rec2:(Int × Int)→Hp→Prop) (s1:Int × Int):Hp→Prop:=br (decide (s1.2 ≤ a1)) ( cl Tryz.prog bT [(sv a0),(.int .i64 s1.1),(.int .i64 s1.2),a2] R_ fun (_:Unit)=>Rec2 (s1.2,(IntKind.i64.wrap (s1.2 + 20)))) ( cl Tryz.prog bT [(sv a0),(.int .i64 s1.1),(.int .i64 a1),a2] R_ fun (_:Unit)=>Lp (de a0 a1 a2 K) 20)
def kG (a0:Sl) (a1:Int) (a2:Value) (K:Unit→Hp→Prop):Hp→Prop:=Lp (eU a0 a1 a2 K) (0,20)
theorem qM (a0:Sl) (a1:Int) (a2:Value) {K:Unit→Hp→Prop} {h:Hp} (H:kG a0 a1 a2 K h):Ct Tryz.prog kY #[(sv a0),(.int .i64 a1),a2] h fun v h'=>∃ r,v = R_ r∧K r h':=aw [(sv a0),(.int .i64 a1),a2] Tryz.func143 c c c fun _=>M<|O c<|M<|J c<|p (aq c)<|O c<|aj<|ax<|bB (step:=eU a0 a1 a2 K) (fun s1=>[(0,(sv a0)),(1,(.int .i64 a1)),(2,a2),(6,(.int .i64 20)),(7,(.int .i64 s1.1)),(8,(.int .i64 s1.2))]) (fun s1=>[]) H (.cons c<|.cons c<|.cons c<|.cons c<|.cons c<|.cons c<|.nil _) .slnil fun Rec2 s1 _ H3=>aj<|M<|J c<|J c<|p (v_le c c)<|ac<|av c H3 (fun k4 H5=>am<|ax<|M<|J c<|J c<|J c<|J c<|aa<|D H5 en_184 fun r18 _ H6=>ac<|M<|J c<|O c<|ap<|J c<|J c<|p (bt c c)<|O c<|cF (s1.2,(IntKind.i64.wrap (s1.2 + 20))) H6 (.cons c<|.cons c<|.cons c<|.cons c<|.cons c<|.cons c<|.nil _) .slnil) fun k4 H5=>bh<|M<|J c<|J c<|J c<|J c<|aa<|D H5 en_184 fun r27 _ H7=>ac<|ax<|bB (step:=de a0 a1 a2 K) (fun s8=>[(0,(sv a0)),(1,(.int .i64 a1)),(2,a2),(6,(.int .i64 s8))]) (fun s8=>[]) H7 (.cons c<|.cons c<|.cons c<|.cons c<|.nil _) .slnil fun Rec9 s8 _ H10=>aj<|M<|J c<|J c<|p (cm c c)<|ac<|av c H10 (fun k11 H12=>am<|ax<|M<|J c<|p (v_mul c c)<|p (aq c)<|O c<|aj<|ax<|bB (step:=kF a0 a1 a2 Rec9 s8) (fun s13=>[(0,(sv a0)),(1,(.int .i64 a1)),(2,a2),(6,(.int .i64 s8)),(7,(.int .i64 s13.1)),(8,(.int .i64 s13.2))]) (fun s13=>[]) H12 (.cons c<|.cons c<|.cons c<|.cons c<|.cons c<|.cons c<|.nil _) .slnil fun Rec14 s13 _ H15=>aj<|M<|J c<|J c<|p (v_le c c)<|ac<|av c H15 (fun k16 H17=>am<|ax<|M<|J c<|J c<|J c<|J c<|p (bt c c)<|J c<|J c<|aa<|D H17 en_185 fun r43 _ H18=>ac<|M<|J c<|O c<|ap<|J c<|J c<|p (v_mul c c)<|p (bt c c)<|O c<|cF (s13.2,(IntKind.i64.wrap (s13.2 + (IntKind.i64.wrap (2 * s8))))) H18 (.cons c<|.cons c<|.cons c<|.cons c<|.cons c<|.cons c<|.nil _) .slnil) fun k16 H17=>bh<|aj<|M<|J c<|J c<|p (bt c c)<|O c<|M<|J c<|J c<|p (cm c c)<|ac<|av c H17 (fun k19 H20=>ap<|J c<|J c<|J c<|J c<|J c<|aa<|D H20 en_185 fun r60 _ H21=>ac<|ap<|J c<|p (v_mul c c)<|O c<|cF (IntKind.i64.wrap (s8 * 2)) H21 (.cons c<|.cons c<|.cons c<|.cons c<|.nil _) .slnil) fun k19 H20=>am<|ap<|J c<|p (v_mul c c)<|O c<|cF (IntKind.i64.wrap (s8 * 2)) H20 (.cons c<|.cons c<|.cons c<|.cons c<|.nil _) .slnil) fun k11 H12=>bh<|end_i (res_0 c) ⟨(),c,H12⟩
def iw (a0:Sl) (a1:Value) (K:Unit→Hp→Prop):Hp→Prop:=cl Tryz.prog kY [(sv a0),(.int .i64 (a0.len:Int)),a1] R_ fun (_:Unit)=>K ()
theorem nN (a0:Sl) (a1:Value) {K:Unit→Hp→Prop} {h:Hp} (H:iw a0 a1 K h):Ct Tryz.prog fA #[(sv a0),a1] h fun v h'=>∃ r,v = R_ r∧K r h':=aw [(sv a0),a1] Tryz.func87 c c c fun _=>ap<|J c<|J c<|p (dv c Tryz.underlying40 c)<|J c<|aa<|D H en_143 fun r8 _ H1=>ac<|end_i (res_0 c) ⟨(),c,H1⟩
def jB (a0:Sl) (K:Sl→Hp→Prop):Hp→Prop:=br a0.a.isNone ( K (⟨none,0,0,none⟩:Sl)) ( hpv Tryz.prog (Instr.buildSlice bb 0 #[]) bY fun (v5:Sl)=>hpv Tryz.prog (Builtin.append_ #[bb,bb] bb #[(sv v5),(sv a0)]) bY fun (v7:Sl)=>K v7)
theorem pG (a0:Sl) {K:Sl→Hp→Prop} {h:Hp} (H:jB a0 K h):Ct Tryz.prog gt #[(sv a0)] h fun v h'=>∃ r,v = bY r∧K r h':=aw [(sv a0)] Tryz.func216 c c c fun _=>M<|O c<|aj<|M<|J c<|p (v_seqT Tryz.underlying158 c)<|ac<|av c H (fun k1 H2=>M<|O c<|ag<|Y ⟨(⟨none,0,0,none⟩:Sl),c,H2⟩) fun k1 H2=>am<|M<|aa<|aR H2 (bp (vs:=[]) c) c fun v5 _ H3=>J c<|aa<|aR H3 (dA c c) c fun v7 _ H4=>O c<|ag<|Y ⟨v7,c,H4⟩
end Go.Proofs.YtmggcfijlpldpaaGreatDoor
namespace Go.Proofs.YtmggcfijlpldpaaGreatDoor
open Go Mb
abbrev vI (s:Sl) (xs:List Int):As:=vec kE 1 (cI .i64) s xs
def fQ (a:Int):List Int→Int→Int
  | [],_=>-1
  | x::xs,i=>if a = x then i else fQ a xs (i + 1)
theorem sp_slices_Index (s:Sl) (a:Int) (xs:List Int) (hb:xs.length < 2^62) :
    Sp Tryz.prog jK [sv s,.int .i64 a] eo [vI s xs] (fun r=>pa_ (r = fQ a xs 0) [vI s xs]):=by
  intro h st
  refine uw _ _ ?_
  unfold nr
  refine Lp.intro (fun (i:Int) h=>∃ n:Nat,i = n∧n ≤ xs.length∧fQ a (xs.drop n) n = fQ a xs 0∧aE [vI s xs] h) (fun (i:Int) _=>xs.length - i.toNat) ⟨0,rfl,Nat.zero_le _,by simp,st⟩ ?_
  rintro i h ⟨n,rfl,hn,he,st⟩
  have hl:=(cd st (j:=0) rfl).1
  unfold jh
  refine aV (fun k=>?_) (fun k=>?_)
  · have hlt:n < xs.length:=by simp [hl] at k; exact k
    refine du st (j:=0) rfl (by omega) (by omega) fun q hq=>?_
    refine ef (j:=0) (i:=n) (k:=0) xs[n] (cW _) st rfl hq (by simp) (aD hlt) (by simp) ?_
    have hd:xs.drop n = xs[n]::xs.drop (n + 1):=List.drop_eq_getElem_cons hlt
    rw [hd] at he
    refine aV (fun k2=>?_) (fun k2=>?_)
    · have k2':a = xs[n]:=by simpa using k2
      rw [fQ,if_pos k2'] at he
      exact ⟨he,st⟩
    · have k2':¬ a = xs[n]:=by simpa using k2
      rw [fQ,if_neg k2'] at he
      have hw:IntKind.i64.wrap ((n:Int) + 1) = ((n + 1:Nat):Int):=by rw [bR (by omega) (by omega)]; rfl
      rw [hw]
      exact ⟨⟨n + 1,rfl,hlt,by simpa using he,st⟩,by simp; omega⟩
  · have:n = xs.length:=by simp [hl] at k; omega
    subst this
    simp only [List.drop_length,fQ] at he
    exact ⟨he,st⟩
def fL (x:Ptr) (p:List Int):As:=fun h=>∃ bs:Nat × Sl,(x = some (bs.1,0)∧p.length ≤ 16)∧aE [blk bs.1 qj [sv bs.2],vI bs.2 p] h
namespace Pool
def refs (p:List Int) (i:Int):Int:=if i < 0 then 0 else p.getD i.toNat 0
def take (p:List Int):Int × Bool × List Int :=
  if fQ 0 p 0 < 0 then (0,false,p) else (fQ 0 p 0,true,p.set (fQ 0 p 0).toNat 1)
def hold (p:List Int) (i:Int):Bool × List Int :=
  if refs p i = 0∨refs p i ≥ 7 then (false,p) else (true,p.set i.toNat (IntKind.i64.wrap (refs p i + 1)))
def lets (p:List Int) (i:Int):Int × Bool × List Int :=
  if refs p i = 0 then (0,false,p) else (IntKind.i64.wrap (refs p i - 1),true,p.set i.toNat (IntKind.i64.wrap (refs p i - 1)))
def freeFrom:List Int→Int→List Int
  | [],_=>[]
  | x::xs,i=>if x = 0 then i::freeFrom xs (i + 1) else freeFrom xs (i + 1)
def free (p:List Int):List Int:=freeFrom p 0
end Pool
theorem idx_lt (a:Int):∀ (xs:List Int) (i:Int),fQ a xs i = -1∨∃ n:Nat,n < xs.length∧fQ a xs i = i + n
  | [],_=>.inl rfl
  | x::xs,i=>by
    unfold fQ
    split
    · exact .inr ⟨0,by simp,by simp⟩
    · rcases idx_lt a xs (i + 1) with h | ⟨n,h1,h2⟩
      · exact .inl h
      · exact .inr ⟨n + 1,by simp; omega,by rw [h2]; omega⟩
theorem pool_op {x:Ptr} {p:List Int} {l:List As} {h:Hp} (s0:aE (fL x p::l) h):∃ b s,x = some (b,0)∧p.length ≤ 16∧s.len = p.length∧aE (blk b qj [sv s]::vI s p::l) h:=by
  obtain ⟨⟨b,s⟩,⟨hx,hb⟩,st⟩:=op_ s0
  exact ⟨b,s,hx,hb,(cd (j:=1) st rfl).1,st⟩
theorem rK {b:Nat} {s:Sl} {p:List Int} {l:List As} {h:Hp} (hb:p.length ≤ 16) (st:aE (blk b qj [sv s]::vI s p::l) h):aE (fL (some (b,0)) p::l) h:=cl_ (b,s) ⟨rfl,hb⟩ st
theorem sp_pool_New (n:Int) (h1:¬ n < 1) (h2:¬ n > 16):Sp Tryz.prog wG [.int .i64 n] rX [] (fun r=>aE [fL r (List.replicate n.toNat 0)]):=by
  intro h st
  refine sim_pool_New _ ?_
  unfold sh_pool_New
  obtain ⟨m,rfl⟩:=Int.eq_ofNat_of_zero_le (show 0 ≤ n by omega)
  refine cZ (by simp; omega) ?_
  refine nB (τ:=Int) (x0:=0) (enc:=cI .i64) (n:=m) (T:=kE) (m:=1) el_Sint rfl st ?_ ?_ ?_
  · omega
  · omega
  · intro v h' s1
    refine oR s1 fun b h'' s2=>?_
    exact rK (by simp; omega) s2
theorem vY (x:Ptr) (p:List Int) (i:Int):Sp Tryz.prog jl [pv x,.int .i64 i] eo [fL x p] (fun r=>pa_ (r = Pool.refs p i) [fL x p]):=by
  intro h s0
  obtain ⟨b,s,rfl,hb,hl,st⟩:=pool_op s0
  refine sim_pool_Pool_Refs _ _ ?_
  unfold tE
  refine aV (fun k=>?_) (fun k=>?_)
  · have h0:0 ≤ i:=by simpa using k
    obtain ⟨n,rfl⟩:=Int.eq_ofNat_of_zero_le h0
    refine cu ?_
    refine bi s st (i:=0) rfl rfl rfl ?_
    refine aV (fun k2=>?_) (fun k2=>?_)
    · have:p.length ≤ n:=by rw [hl] at k2; simpa using k2
      exact aU (by simp [Pool.refs,this]) (rK hb st)
    · have hlt:n < p.length:=by rw [hl] at k2; simpa using k2
      refine bi s st (i:=0) rfl rfl rfl ?_
      refine du st (j:=1) rfl (by omega) (by omega) fun q hq=>?_
      refine ef (j:=1) (i:=n) (k:=0) p[n] (cW _) st rfl hq (by simp) (aD hlt) (by simp) ?_
      refine aU ?_ (rK hb st)
      have:¬ ((n:Int) < 0):=by omega
      simp [Pool.refs,hlt,this]
  · have h0:i < 0:=by simpa using k
    exact aU (by simp [Pool.refs,h0]) (rK hb st)
theorem vX (x:Ptr) (p:List Int):Sp Tryz.prog jk [pv x] bI [fL x p] (fun r=>pa_ (r = ((Pool.take p).1,(Pool.take p).2.1)) [fL x (Pool.take p).2.2]):=by
  intro h s0
  obtain ⟨b,s,rfl,hb,hl,st⟩:=pool_op s0
  refine sim_pool_Pool_Take _ ?_
  unfold tD
  refine cZ rfl (cu ?_)
  refine bi s st (i:=0) rfl rfl rfl ?_
  refine cG [1] (sp_slices_Index s 0 p (by omega)) st rfl fun r h' s1=>?_
  obtain ⟨hr,s2⟩:=bn.1 s1
  subst hr
  refine aV (fun k=>?_) (fun k=>?_)
  · have k':fQ 0 p 0 < 0:=by simpa using k
    have e:Pool.take p = (0,false,p):=if_pos k'
    rw [e]
    exact aU rfl (rK hb (ba [1] s2 rfl))
  · have k':¬ fQ 0 p 0 < 0:=by simpa using k
    have e0:Pool.take p = (fQ 0 p 0,true,p.set (fQ 0 p 0).toNat 1):=if_neg k'
    rw [e0]
    rcases idx_lt 0 p 0 with e | ⟨n,h1,e⟩
    · omega
    · rw [Int.zero_add] at e
      refine bi s s2 (i:=1) rfl rfl rfl ?_
      rw [e]
      refine du s2 (j:=0) rfl (by omega) (by omega) fun q hq=>?_
      refine st_v (j:=0) (i:=n) (k:=0) (1:Int) (cW _) s2 rfl hq (by simp) (aD h1) (by simp) rfl fun h2 s3=>?_
      exact aU rfl (rK (by simpa using hb) (ba [1] s3 rfl))
theorem refs_get {p:List Int} {i:Int} (h:Pool.refs p i ≠ 0):∃ n:Nat,i = n∧∃ hn:n < p.length,Pool.refs p i = p[n]:=by
  unfold Pool.refs at h ⊢
  by_cases h0:i < 0
  · rw [if_pos h0] at h; exact absurd rfl h
  · rw [if_neg h0] at h ⊢
    obtain ⟨n,rfl⟩:=Int.eq_ofNat_of_zero_le (show 0 ≤ i by omega)
    refine ⟨n,rfl,?_⟩
    by_cases hn:n < p.length
    · exact ⟨hn,by simp [hn]⟩
    · simp [List.getD_eq_getElem?_getD,List.getElem?_eq_none (Nat.le_of_not_lt hn)] at h
theorem sp_pool_Hold (x:Ptr) (p:List Int) (i:Int):Sp Tryz.prog lF [pv x,.int .i64 i] az [fL x p] (fun r=>pa_ (r = (Pool.hold p i).1) [fL x (Pool.hold p i).2]):=by
  intro h s0
  refine sim_pool_Pool_Hold _ _ ?_
  unfold tF
  refine cG [0] (vY x p i) s0 rfl fun r h' s1=>?_
  obtain ⟨hr,s2⟩:=bn.1 s1
  subst hr
  refine aV (fun k=>?_) (fun k=>?_)
  · have k':Pool.refs p i = 0∨Pool.refs p i ≥ 7:=by simpa using k
    have e:Pool.hold p i = (false,p):=if_pos k'
    rw [e]
    exact aU rfl s2
  · have k':¬ (Pool.refs p i = 0∨Pool.refs p i ≥ 7):=by simpa using k
    have e:Pool.hold p i = (true,p.set i.toNat (IntKind.i64.wrap (Pool.refs p i + 1))):=if_neg k'
    rw [e]
    obtain ⟨n,rfl,hn,hg⟩:=refs_get (p:=p) (i:=i) (by omega)
    obtain ⟨b,s,rfl,hb,hl,st⟩:=pool_op s2
    refine cu ?_
    refine bi s st (i:=0) rfl rfl rfl ?_
    refine du st (j:=1) rfl (by omega) (by omega) fun q hq=>?_
    refine ef (j:=1) (i:=n) (k:=0) p[n] (cW _) st rfl hq (by simp) (aD hn) (by simp) ?_
    refine st_v (j:=1) (i:=n) (k:=0) (IntKind.i64.wrap (p[n] + 1)) (cW _) st rfl hq (by simp) (aD hn) (by simp) rfl fun h2 s3=>?_
    rw [hg]
    exact aU rfl (rK (by simpa using hb) s3)
theorem sp_pool_Let (x:Ptr) (p:List Int) (i:Int):Sp Tryz.prog mJ [pv x,.int .i64 i] bI [fL x p] (fun r=>pa_ (r = ((Pool.lets p i).1,(Pool.lets p i).2.1)) [fL x (Pool.lets p i).2.2]):=by
  intro h s0
  refine sim_pool_Pool_Let _ _ ?_
  unfold uT
  refine cG [0] (vY x p i) s0 rfl fun r h' s1=>?_
  obtain ⟨hr,s2⟩:=bn.1 s1
  subst hr
  refine aV (fun k=>?_) (fun k=>?_)
  · have k':Pool.refs p i = 0:=by simpa using k
    have e:Pool.lets p i = (0,false,p):=if_pos k'
    rw [e]
    exact aU rfl s2
  · have k':¬ (Pool.refs p i = 0):=by simpa using k
    have e:Pool.lets p i = (IntKind.i64.wrap (Pool.refs p i - 1),true,p.set i.toNat (IntKind.i64.wrap (Pool.refs p i - 1))):=if_neg k'
    rw [e]
    obtain ⟨n,rfl,hn,hg⟩:=refs_get (p:=p) (i:=i) k'
    obtain ⟨b,s,rfl,hb,hl,st⟩:=pool_op s2
    refine cu ?_
    refine bi s st (i:=0) rfl rfl rfl ?_
    refine du st (j:=1) rfl (by omega) (by omega) fun q hq=>?_
    refine ef (j:=1) (i:=n) (k:=0) p[n] (cW _) st rfl hq (by simp) (aD hn) (by simp) ?_
    refine st_v (j:=1) (i:=n) (k:=0) (IntKind.i64.wrap (p[n] - 1)) (cW _) st rfl hq (by simp) (aD hn) (by simp) rfl fun h2 s3=>?_
    refine bi s s3 (i:=0) rfl rfl rfl ?_
    refine du s3 (j:=1) rfl (by omega) (by simp; omega) fun q2 hq2=>?_
    refine ef (j:=1) (i:=n) (k:=0) (IntKind.i64.wrap (p[n] - 1)) (cW _) s3 rfl hq2 (by simp) (x:=IntKind.i64.wrap (p[n] - 1)) (by simp [hn]) (by simp) ?_
    rw [hg]
    exact aU rfl (rK (by simpa using hb) s3)
theorem free_append:∀ (xs:List Int) (i:Int) (x:Int),Pool.freeFrom (xs++[x]) i = Pool.freeFrom xs i++(if x = 0 then [i + xs.length] else [])
  | [],i,x=>by simp only [List.nil_append,Pool.freeFrom]; split <;> simp
  | y::xs,i,x=>by
    simp only [List.cons_append,Pool.freeFrom]
    rw [free_append xs (i + 1) x]
    have e:i + 1 + (xs.length:Int) = i + ((y::xs).length:Int):=by simp; omega
    rw [e]
    split <;> simp
theorem free_len:∀ (xs:List Int) (i:Int),(Pool.freeFrom xs i).length ≤ xs.length
  | [],_=>Nat.le_refl _
  | x::xs,i=>by unfold Pool.freeFrom; have:=free_len xs (i + 1); split <;> simp <;> omega
theorem vD {l:List As} {h:Hp} {i:Nat} {s:Sl} {xs:List Int} {x:Int} {K:Sl→Hp→Prop} (st:aE l h) (hi:l[i]? = some (vI s xs)) (hb:xs.length < 2 ^ 40)
    (k:∀ v h',aE (l.set i (vI v (xs++[x]))) h'→K v h'):hpv Tryz.prog (Instr.buildSlice dB 1 #[(0,.int .i64 x)]) ct (fun y=>hpv Tryz.prog (Builtin.append_ #[dB,dB] dB #[sv s,sv y]) ct K) h:=by
  refine fh (τ:=Int) [x] (val:=fun x=>.int .i64 x) (enc:=cI .i64) el_Sint (cW _) (fun _=>rfl) st rfl rfl (by simp) fun y h' s1=>?_
  have hlt:=(List.getElem?_eq_some_iff.1 hi).1
  refine tk (τ:=Int) (i:=i + 1) (j:=0) (enc:=cI .i64) (ys:=[x]) el_Sint el_Sint.sl (cW _) (oneI _) s1 (by simpa using hi) rfl (by omega) (by simp; omega) (by simp; omega) fun v h2 s2=>?_
  exact k v h2 (bX (l:=[vI y [x]]) (by simpa using s2))
theorem sp_pool_Free (x:Ptr) (p:List Int):Sp Tryz.prog lG [pv x] ct [fL x p] (fun r=>aE [vI r (Pool.free p),fL x p]):=by
  intro h s0
  obtain ⟨b,s,rfl,hb,hl,st⟩:=pool_op s0
  refine sim_pool_Pool_Free _ ?_
  unfold tG
  refine cZ rfl (cu ?_)
  refine bi s st (i:=0) rfl rfl rfl ?_
  refine Lp.intro (fun (z:Sl × Int) h=>∃ n:Nat,z.2 = n∧n ≤ p.length∧aE [vI z.1 (Pool.freeFrom (p.take n) 0),blk b qj [sv s],vI s p] h) (fun (z:Sl × Int) _=>p.length - z.2.toNat) ⟨0,rfl,Nat.zero_le _,fC st⟩ ?_
  rintro ⟨z,i⟩ h ⟨n,rfl,hn,s1⟩
  unfold oq
  refine aV (fun k=>?_) (fun k=>?_)
  · have hlt:n < p.length:=by rw [hl] at k; simpa using k
    have hw:IntKind.i64.wrap ((n:Int) + 1) = ((n + 1:Nat):Int):=by rw [bR (by omega) (by omega)]; rfl
    have ht:p.take (n + 1) = p.take n++[p[n]]:=by simp
    have hlen:((p.take n).length:Int) = n:=by simp; omega
    refine du s1 (j:=2) rfl (by omega) (by show (n:Int) < _; omega) fun q hq=>?_
    refine ef (j:=2) (i:=n) (k:=0) p[n] (cW _) s1 rfl hq (by simp) (aD hlt) (by simp) ?_
    refine aV (fun k2=>?_) (fun k2=>?_)
    · have k2':p[n] = 0:=by simpa using k2
      refine vD s1 (i:=0) rfl ?_ fun v h' s2=>?_
      · have:=free_len (p.take n) 0; simp at this ⊢; omega
      · rw [hw]
        refine ⟨⟨n + 1,rfl,hlt,?_⟩,by simp; omega⟩
        rw [ht,free_append,if_pos k2',hlen,Int.zero_add]
        exact s2
    · have k2':¬ p[n] = 0:=by simpa using k2
      rw [hw]
      refine ⟨⟨n + 1,rfl,hlt,?_⟩,by simp; omega⟩
      rw [ht,free_append,if_neg k2',List.append_nil]
      exact s1
  · have:n = p.length:=by rw [hl] at k; simp at k; omega
    subst this
    rw [List.take_length] at s1
    exact ke (.cons _ (.refl _)) (ba (l:=[vI z (Pool.freeFrom p 0),fL (some (b,0)) p]) [0] (by
      have:=ba [1,1] s1 rfl
      exact ba [1] (rK hb this) rfl) rfl)
def Pool.bitsOf (w:Int):List Int→Int
  | []=>w
  | i::l=>Pool.bitsOf (ior .u64 w (IntKind.u64.wrap (1 * 2 ^ (min (Int.toNat i) (IntKind.bits .u64))))) l
def Pool.bits (p:List Int):Int:=Pool.bitsOf 0 (Pool.free p)
theorem free_ge:∀ (xs:List Int) (i:Int),0 ≤ i→∀ j ∈ Pool.freeFrom xs i,0 ≤ j
  | [],_,_,_,h=>by cases h
  | x::xs,i,hi,j,h=>by
    unfold Pool.freeFrom at h
    split at h
    · rcases List.mem_cons.1 h with rfl | h
      · exact hi
      · exact free_ge xs (i + 1) (by omega) j h
    · exact free_ge xs (i + 1) (by omega) j h
theorem bits_append (a:Int):∀ (l:List Int) (w:Int),Pool.bitsOf w (l++[a]) = ior .u64 (Pool.bitsOf w l) (IntKind.u64.wrap (1 * 2 ^ (min (Int.toNat a) (IntKind.bits .u64))))
  | [],_=>rfl
  | _::l,w=>by simp only [List.cons_append,Pool.bitsOf]; exact bits_append a l _
theorem sp_pool_Bits (x:Ptr) (p:List Int):Sp Tryz.prog pJ [pv x] gC [fL x p] (fun r=>pa_ (r = Pool.bits p) [fL x p]):=by
  intro h s0
  have hp16:p.length ≤ 16:=by obtain ⟨_,_,_,hb,_⟩:=pool_op s0; exact hb
  refine sim_pool_Pool_Bits _ ?_
  unfold tH
  refine cG [0] (sp_pool_Free x p) s0 rfl fun r h1 s1=>?_
  have s2:=dx s1
  have hl:=(cd (j:=0) s2 rfl).1
  have hfl:=free_len p 0
  refine Lp.intro (fun (z:Int × Int) h=>∃ n:Nat,z.2 = n∧n ≤ (Pool.free p).length∧z.1 = Pool.bitsOf 0 ((Pool.free p).take n)∧aE [vI r (Pool.free p),fL x p] h) (fun (z:Int × Int) _=>(Pool.free p).length - z.2.toNat) ⟨0,rfl,Nat.zero_le _,rfl,s2⟩ ?_
  rintro ⟨w,i⟩ h ⟨n,rfl,hn,rfl,s3⟩
  unfold ou
  refine aV (fun k=>?_) (fun k=>?_)
  · have hlt:n < (Pool.free p).length:=by rw [hl] at k; simpa using k
    have hw:IntKind.i64.wrap ((n:Int) + 1) = ((n + 1:Nat):Int):=by
      have:(Pool.free p).length ≤ 16:=by unfold Pool.free; omega
      rw [bR (by omega) (by omega)]; rfl
    refine du s3 (j:=0) rfl (by omega) (by show (n:Int) < _; omega) fun q hq=>?_
    refine ef (j:=0) (i:=n) (k:=0) (Pool.free p)[n] (cW _) s3 rfl hq (by simp) (aD hlt) (by simp) ?_
    refine ⟨free_ge p 0 (Int.le_refl _) _ (List.getElem_mem hlt),?_⟩
    rw [hw]
    refine ⟨⟨n + 1,rfl,hlt,?_,s3⟩,by simp; omega⟩
    have ht:(Pool.free p).take (n + 1) = (Pool.free p).take n++[(Pool.free p)[n]]:=by simp
    rw [ht,bits_append]
  · have:n = (Pool.free p).length:=by rw [hl] at k; simp at k; omega
    subst this
    refine aU ?_ (bX (l:=[vI r (Pool.free p)]) s3)
    rw [List.take_length]; rfl
end Go.Proofs.YtmggcfijlpldpaaGreatDoor
namespace Go.Proofs.YtmggcfijlpldpaaGreatDoor
open Go Mb
set_option linter.unusedVariables false
def sh_table_New (K:Ptr→Hp→Prop):Hp→Prop:=hpv Tryz.prog (Instr.build jZ #[]) encL fun (v1:(List Value))=>nw jZ v1 fun b2=>K (some (b2,0))
theorem sim_table_New {K:Ptr→Hp→Prop} {h:Hp} (H:sh_table_New K h):Ct Tryz.prog kX #[] h fun v h'=>∃ r,v = ic r∧K r h':=aw [] Tryz.func96 c c c fun _=>M<|O c<|M<|aa<|aR H (x_build (vs:=[]) c) c fun v1 _ H1=>aa<|gT c c c H1 fun b2 _ H2=>O c<|ag<|Y ⟨some (b2,0),c,H2⟩
def iv (a0:Ptr) (a1:Int) (K:(al × Bool)→Hp→Prop) (s1:Bool):Hp→Prop:=br s1 ( K ((⟨0,0,0⟩:al),false)) ( nn a0 fun q26=>gd (0 ≤ a1∧a1 < 8)<|ld (q26.1,q26.2 + 0 + Int.toNat a1 * 3) al.C fun x29=>K (x29,true))
def tC (a0:Ptr) (a1:Int) (K:(al × Bool)→Hp→Prop):Hp→Prop:=br (!(a0.isNone || (!(cw a1)))) ( nn a0 fun q16=>gd (0 ≤ a1∧a1 < 8)<|ld (q16.1,q16.2 + 0 + Int.toNat a1 * 3 + 2) (cI .i64) fun x20=>iv a0 a1 K (x20 == 0)) ( iv a0 a1 K true)
theorem sim_table_Table_At (a0:Ptr) (a1:Int) {K:(al × Bool)→Hp→Prop} {h:Hp} (H:tC a0 a1 K h):Ct Tryz.prog eO #[(pv a0),(.int .i64 a1)] h fun v h'=>∃ r,v = cr r∧K r h':=aw [(pv a0),(.int .i64 a1)] Tryz.func153 c c c fun _=>M<|aa<|aI (l:=al.C (⟨0,0,0⟩:al)) eD c c fun b4=>O c<|aj<|dX (iv a0 a1 K) (fun s1=>[(0,(pv a0)),(1,(.int .i64 a1)),(4,(.pointer (some ⟨b4,0,none⟩))),(22,(.bool s1))]) (fun s1=>[bx b4 121 (al.C (⟨0,0,0⟩:al))]) (ap<|J c<|p (ch Tryz.underlying153 c)<|J c<|V c c (aK _) (fun g10=>wv<|ae c)<|cO (vs:=[(.int .i64 a1)]) c c c (aK _) (fun g11=>bq<|uk a1 _) en_150 (fun g11=>aS (aB c g11) bO) c<|V c c (aK _) (fun g12=>wv<|cf<|aB c g12)<|p (dm c c)<|J c<|V c c (aK _) (fun g13=>wv<|ae c)<|V c c (aK _) (fun g14=>wv<|ae c)<|bP H (fun k16 H17=>bC H17 fun q16 e18 H19=>G (Z<|bS k16)<|z_p (aH<|aL (aB c k16)<|ao e18)<|G (Z<|bS k16)<|z_p (ad kh c)<|iV H19 fun h20 H21=>G (Z<|bS k16)<|z_p (bu rW c (aB c k16) h20)<|G (Z<|bS k16)<|z_p (ad dG c)<|G (Z<|bS k16)<|aT H21 aW c (fun _=>c) c fun x20 H22=>G (Z<|bS k16)<|z_p (bK c c)<|p (an c (bS k16) c)<|ac<|cq (x20 == 0) H22 (.cons c<|.cons c<|.cons c<|.cons c<|.nil _)<|.cons_cons _ .slnil) fun k16 H17=>W (bF<|bz k16)<|W (bF<|bz k16)<|W (bF<|bz k16)<|W (bF<|bz k16)<|W (bF<|bz k16)<|W (bF<|bz k16)<|p (aM c (bz k16) c)<|ac<|cq true H17 (.cons c<|.cons c<|.cons c<|.cons c<|.nil _)<|.cons_cons _ .slnil) fun s1 _ H2=>av c H2 (fun k3 H4=>M<|p (aX (vs:=[]) c ki)<|aa<|aN (k:=0) (vs:=al.C (⟨0,0,0⟩:al)) cR c c c c c c c<|O c<|ag<|bo (bL c (bv (k:=0) c dE c c)<|bV c) ⟨((⟨0,0,0⟩:al),false),c,H4⟩) fun k3 H4=>am<|M<|J c<|J c<|bC H4 fun q26 e5 H6=>p (aH<|aL c<|ao e5)<|p (ad kh c)<|iV H6 fun h7 H8=>p (bu rW c c h7)<|aa<|gD H8 dE c (fun _=>c) c fun x29 H9=>aa<|aN (k:=0) (vs:=al.C x29) cR c c c c c c c<|O c<|ag<|bo (bL c (bv (k:=0) c dE c c)<|bV c) ⟨(x29,true),c,H9⟩
def oU (a0:Ptr) (a1:Int) (a2:al) (K:Int→Hp→Prop):Hp→Prop:=br a0.isNone ( K 10) ( br (((!(gr a2).2) || (a2.fRights == 0)) || (!(cw a1))) ( K 2) ( nn a0 fun q30=>gd (0 ≤ a1∧a1 < 8)<|ld (q30.1,q30.2 + 0 + Int.toNat a1 * 3 + 2) (cI .i64) fun x34=>br (x34 != 0) ( K 4) ( st (q30.1,q30.2 + 0 + Int.toNat a1 * 3) (al.C a2)<|K 0)))
theorem wc (a0:Ptr) (a1:Int) (a2:al) {K:Int→Hp→Prop} {h:Hp} (H:oU a0 a1 a2 K h):Ct Tryz.prog dS #[(pv a0),(.int .i64 a1),(.agg (al.C a2).toArray)] h fun v h'=>∃ r,v = aZ r∧K r h':=aw [(pv a0),(.int .i64 a1),(.agg (al.C a2).toArray)] Tryz.func100 c c c fun _=>M<|aa<|cE (l:=al.C a2) c c c fun b5=>O c<|aj<|M<|J c<|p (ch Tryz.underlying153 c)<|ac<|av c H (fun k1 H2=>M<|O c<|ag<|Y ⟨10,c,H2⟩) fun k1 H2=>am<|aj<|M<|bg (bA (k:=0) dE c c c c) c<|aa<|cD (vs:=[(.agg (al.C a2).toArray)]) (bq<|ct_pte_Put a2 _) en_149 c c<|J c<|p (ai c c)<|p (ai c c)<|p (aq c)<|O c<|M<|J c<|p (cf c)<|J c<|V c c (aK _) (fun g3=>wv<|ad dG c)<|V c c (aK _) (fun g4=>cv<|bd (k:=0) aW (aB c g4) c c)<|V c c (aK _) (fun g5=>wv<|bK (aB c g5) c)<|p (dm c c)<|J c<|V c c (aK _) (fun g6=>wv<|ae c)<|cO (vs:=[(.int .i64 a1)]) c c c (aK _) (fun g7=>bq<|uk a1 _) en_150 (fun g7=>aS (aB c g7) bO) c<|V c c (aK _) (fun g8=>wv<|cf<|aB c g8)<|p (dm c c)<|ac<|av c H2 (fun k9 H10=>M<|O c<|ag<|Y ⟨2,c,H10⟩) fun k9 H10=>am<|aj<|M<|J c<|J c<|bC H10 fun q30 e11 H12=>p (aH<|aL c<|ao e11)<|p (ad kh c)<|iV H12 fun h13 H14=>p (bu rW c c h13)<|p (ad dG c)<|aa<|aT H14 aW c (fun _=>c) c fun x34 H15=>p (nO c c)<|ac<|av c H15 (fun k16 H17=>M<|O c<|ag<|Y ⟨4,c,H17⟩) fun k16 H17=>am<|aj<|bj (n:=7) [bx b5 121 (al.C a2)] ci c (.cons_cons _ .slnil)<|U 0 c (ae<|aL c<|ao e11)<|U 1 c (ae c)<|z_E 2 c (dY (k:=0) dE c c c c)<|U 3 c (aH c)<|U 4 c (ad kh c)<|U 5 c (bu rW c c h13)<|I 6 c<|dq cR c c c c c H17 fun _ H18=>⟨.cons_cons _ .slnil,aQ (by kernel_rfl)<|M<|O c<|ag<|Y ⟨0,c,H18⟩⟩
def oT (a0:Ptr) (a1:Int) (K:(al × Int)→Hp→Prop):Hp→Prop:=br a0.isNone ( K ((⟨0,0,0⟩:al),10)) ( br (!(cw a1)) ( K ((⟨0,0,0⟩:al),2)) ( nn a0 fun q19=>gd (0 ≤ a1∧a1 < 8)<|ld (q19.1,q19.2 + 0 + Int.toNat a1 * 3 + 2) (cI .i64) fun x23=>br (x23 == 0) ( K ((⟨0,0,0⟩:al),3)) ( ld (q19.1,q19.2 + 0 + Int.toNat a1 * 3) al.C fun x31=>st (q19.1,q19.2 + 0 + Int.toNat a1 * 3) (al.C (⟨0,0,0⟩:al))<|K (x31,0))))
theorem wb (a0:Ptr) (a1:Int) {K:(al × Int)→Hp→Prop} {h:Hp} (H:oT a0 a1 K h):Ct Tryz.prog iE #[(pv a0),(.int .i64 a1)] h fun v h'=>∃ r,v = je r∧K r h':=aw [(pv a0),(.int .i64 a1)] Tryz.func118 c c c fun _=>M<|aa<|aI (l:=al.C (⟨0,0,0⟩:al)) eD c c fun b4=>O c<|aj<|ax<|M<|J c<|p (ch Tryz.underlying153 c)<|O c<|av c H (fun k1 H2=>M<|p (aX (vs:=[]) c ki)<|aa<|aN (k:=0) (vs:=al.C (⟨0,0,0⟩:al)) cR c c c c c c c<|O c<|ag<|bo (bL c (bv (k:=0) c dE c c)<|bV c) ⟨((⟨0,0,0⟩:al),10),c,H2⟩) fun k1 H2=>M<|J c<|aa<|cD (vs:=[(.int .i64 a1)]) (bq<|uk a1 _) en_150 c c<|p (cf c)<|O c<|av c H2 (fun k3 H4=>M<|p (aX (vs:=[]) c ki)<|aa<|aN (k:=0) (vs:=al.C (⟨0,0,0⟩:al)) cR c c c c c c c<|O c<|ag<|bo (bL c (bv (k:=0) c dE c c)<|bV c) ⟨((⟨0,0,0⟩:al),2),c,H4⟩) fun k3 H4=>M<|J c<|J c<|bC H4 fun q19 e5 H6=>p (aH<|aL c<|ao e5)<|p (ad kh c)<|iV H6 fun h7 H8=>p (bu rW c c h7)<|p (ad dG c)<|aa<|aT H8 aW c (fun _=>c) c fun x23 H9=>p (bK c c)<|O c<|av c H9 (fun k10 H11=>M<|p (aX (vs:=[]) c ki)<|aa<|aN (k:=0) (vs:=al.C (⟨0,0,0⟩:al)) cR c c c c c c c<|O c<|ag<|bo (bL c (bv (k:=0) c dE c c)<|bV c) ⟨((⟨0,0,0⟩:al),3),c,H11⟩) fun k10 H11=>am<|M<|J (aL c<|ao e5)<|J c<|p (aH c)<|p (ad kh c)<|p (bu rW c c h7)<|aa<|gD H11 dE c (fun _=>c) c fun x31 H12=>aa<|aI (l:=al.C (⟨0,0,0⟩:al)) eD c c fun b6=>aa<|aN (k:=0) (vs:=al.C x31) cR c c c c c c c<|ac<|M<|J (aL c<|ao e5)<|J c<|p (aX (vs:=[]) c ki)<|p (aH c)<|p (ad kh c)<|p (bu rW c c h7)<|aa<|dq cR c c c c c H12 fun _ H13=>ac<|M<|bg (bA (k:=0) dE c c c c) c<|aa<|aN (k:=1) (vs:=al.C x31) cR c c c c c c c<|O c<|ag<|bo (bL c (bv (k:=1) c dE c c)<|bV c) ⟨(x31,0),c,H13⟩
def nQ (a1:Int) (K:Sl→Hp→Prop) (v13:(List Value)) (Rec8:(Sl × Int)→Hp→Prop) (s7:Sl × Int):Hp→Prop:=br (decide (s7.2 < 8)) ( hpv Tryz.prog (Instr.index tA (.agg v13.toArray) (.int .i64 s7.2)) vJ fun (v17:al)=>br ((v17.fRights != 0) && (v17.fSlot == a1)) ( hpv Tryz.prog (Instr.buildSlice dB 1 #[(0,(.int .i64 s7.2))]) ct fun (v29:Sl)=>hpv Tryz.prog (Builtin.append_ #[dB,dB] dB #[(sv s7.1),(sv v29)]) ct fun (v30:Sl)=>Rec8 (v30,(IntKind.i64.wrap (s7.2 + 1)))) ( Rec8 (s7.1,(IntKind.i64.wrap (s7.2 + 1))))) ( K s7.1)
def tB (a0:Ptr) (a1:Int) (K:Sl→Hp→Prop):Hp→Prop:=br a0.isNone ( K (⟨none,0,0,none⟩:Sl)) ( nn a0 fun q11=>hpv Tryz.prog (Instr.loadAt tA (.pointer (some ⟨q11.1,q11.2 + 0,none⟩))) encL fun (v13:(List Value))=>Lp (nQ a1 K v13) ((⟨none,0,0,none⟩:Sl),0))
theorem sim_table_Table_By (a0:Ptr) (a1:Int) {K:Sl→Hp→Prop} {h:Hp} (H:tB a0 a1 K h):Ct Tryz.prog lE #[(pv a0),(.int .i64 a1)] h fun v h'=>∃ r,v = ct r∧K r h':=aw [(pv a0),(.int .i64 a1)] Tryz.func171 c c c fun _=>M<|O c<|aj<|M<|J c<|p (ch Tryz.underlying153 c)<|ac<|av c H (fun k1 H2=>M<|O c<|ag<|Y ⟨(⟨none,0,0,none⟩:Sl),c,H2⟩) fun k1 H2=>am<|M<|O c<|aj<|M<|J c<|bC H2 fun q11 e3 H4=>p (aH<|aL c<|ao e3)<|p (ad kh c)<|aa<|aR H4 (x_load c) c fun v13 _ H6=>J c<|ac<|ax<|bB (step:=nQ a1 K v13) (fun s7=>[(1,(.int .i64 a1)),(5,(sv s7.1)),(13,(.agg v13.toArray)),(14,(.int .i64 s7.2))]) (fun s7=>[]) H6 (.cons c<|.cons c<|.cons c<|.cons c<|.nil _) .slnil fun Rec8 s7 _ H9=>M<|p (cm c c)<|ac<|aj<|av c H9 (fun k10 H11=>am<|aj<|ax<|M<|J c<|aa<|aR H11 (x_index c c) c fun v17 _ H12=>aa<|aI (l:=al.C (⟨0,0,0⟩:al)) eD c c fun b7=>p (aq c)<|aa<|aN (k:=0) (vs:=al.C v17) cR c c c c c c c<|ac<|M<|p (ad dG c)<|bg (bd (k:=0) aW c c c) c<|p (nO c c)<|J c<|V c c (ay _) (fun g13=>wv<|ad pS c)<|V c c (ay _) (fun g14=>cv<|bd (k:=0) aW (aB c g14) c c)<|V c c (ay _) (fun g15=>wv<|ae c)<|V c c (ay _) (fun g16=>wv<|bK (aB c g16)<|aB c g16)<|p (bM c c)<|ac<|av c H12 (fun k17 H18=>ap<|J c<|J c<|aa<|aR H18 (bp (vs:=[(.int .i64 s7.2)]) c) c fun v29 _ H19=>aa<|aR H19 (dA c c) c fun v30 _ H20=>O c<|ap<|p (bt c c)<|J c<|ac<|cF (v30,(IntKind.i64.wrap (s7.2 + 1))) H20 (.cons c<|.cons c<|.cons c<|.cons c<|.nil _)<|.cons _ .slnil) fun k17 H18=>am<|ap<|p (bt c c)<|J c<|ac<|cF (s7.1,(IntKind.i64.wrap (s7.2 + 1))) H18 (.cons c<|.cons c<|.cons c<|.cons c<|.nil _)<|.cons _ .slnil) fun k10 H11=>bh<|M<|J c<|O c<|ag<|Y ⟨s7.1,c,H11⟩
def nY (a0:Ptr) (a1:Int) (a2:Int) (K:Int→Hp→Prop):Hp→Prop:=br a0.isNone ( K 10) ( br ((!(cw a1)) || (!(cz a2))) ( K 2) ( nn a0 fun q22=>gd (0 ≤ a1∧a1 < 8)<|ld (q22.1,q22.2 + 0 + Int.toNat a1 * 3 + 2) (cI .i64) fun x26=>br (x26 == 0) ( K 3) ( st (q22.1,q22.2 + 0 + Int.toNat a1 * 3 + 2) [.int .i64 a2]<|K 0)))
theorem uJ (a0:Ptr) (a1:Int) (a2:Int) {K:Int→Hp→Prop} {h:Hp} (H:nY a0 a1 a2 K h):Ct Tryz.prog ko #[(pv a0),(.int .i64 a1),(.int .i64 a2)] h fun v h'=>∃ r,v = aZ r∧K r h':=aw [(pv a0),(.int .i64 a1),(.int .i64 a2)] Tryz.func173 c c c fun _=>M<|O c<|aj<|ax<|M<|J c<|p (ch Tryz.underlying153 c)<|O c<|av c H (fun k1 H2=>M<|O c<|ag<|Y ⟨10,c,H2⟩) fun k1 H2=>M<|J c<|aa<|cD (vs:=[(.int .i64 a1)]) (bq<|uk a1 _) en_150 c c<|p (cf c)<|J c<|V c c (aK _) (fun g3=>wv<|ae c)<|cO (vs:=[(.int .i64 a2)]) c c c (aK _) (fun g4=>bq<|pT a2 _) en_161 (fun g4=>aS (aB c g4) bO) c<|V c c (aK _) (fun g5=>wv<|cf<|aB c g5)<|p (dm c c)<|O c<|av c H2 (fun k6 H7=>M<|O c<|ag<|Y ⟨2,c,H7⟩) fun k6 H7=>M<|J c<|J c<|bC H7 fun q22 e8 H9=>p (aH<|aL c<|ao e8)<|p (ad kh c)<|iV H9 fun h10 H11=>p (bu rW c c h10)<|p (ad dG c)<|aa<|aT H11 aW c (fun _=>c) c fun x26 H12=>p (bK c c)<|O c<|av c H12 (fun k13 H14=>M<|O c<|ag<|Y ⟨3,c,H14⟩) fun k13 H14=>am<|M<|J (aL c<|ao e8)<|J c<|J c<|p (aH c)<|p (ad kh c)<|p (bu rW c c h10)<|p (ad dG c)<|aa<|dq qB c c c c c H14 fun _ H15=>ac<|M<|O c<|ag<|Y ⟨0,c,H15⟩
end Go.Proofs.YtmggcfijlpldpaaGreatDoor
namespace Go.Proofs.YtmggcfijlpldpaaGreatDoor
open Go Mb
abbrev Pte:=al
theorem iY (p:Pte):p.C.length = 3:=rfl
abbrev ee:Pte:=⟨0,0,0⟩
def cM (x:Ptr) (ps:List Pte):As:=fun h=>∃ b:Nat,(x = some (b,0)∧ps.length = 8)∧aE [blk b jZ ([]++(ps.flatMap al.C++[]))] h
theorem table_op {x:Ptr} {ps:List Pte} {l:List As} {h:Hp} (s0:aE (cM x ps::l) h):∃ b,x = some (b,0)∧ps.length = 8∧aE (blk b jZ ([]++(ps.flatMap al.C++[]))::l) h:=by
  obtain ⟨b,⟨hx,hb⟩,st⟩:=op_ s0
  exact ⟨b,hx,hb,st⟩
theorem iu {b:Nat} {ps:List Pte} {l:List As} {h:Hp} (hb:ps.length = 8) (st:aE (blk b jZ ([]++(ps.flatMap al.C++[]))::l) h):aE (cM (some (b,0)) ps::l) h:=cl_ b ⟨rfl,hb⟩ st
namespace Table
def at_ (ps:List Pte) (i:Int):Pte:=ps.getD i.toNat ee
def get (ps:List Pte) (i:Int):Pte × Bool:=if cw i = true∧(at_ ps i).fRights ≠ 0 then (at_ ps i,true) else (ee,false)
def insert (ps:List Pte) (i:Int) (p:Pte):Int × List Pte :=
  if (gr p).2 = false∨p.fRights = 0∨cw i = false then (2,ps) else if (at_ ps i).fRights ≠ 0 then (4,ps) else (0,ps.set i.toNat p)
def protect (ps:List Pte) (i r:Int):Int × List Pte :=
  if cw i = false∨cz r = false then (2,ps) else if (at_ ps i).fRights = 0 then (3,ps) else (0,ps.set i.toNat { at_ ps i with fRights:=r })
def remove (ps:List Pte) (i:Int):(Pte × Int) × List Pte :=
  if cw i = false then ((ee,2),ps) else if (at_ ps i).fRights = 0 then ((ee,3),ps) else ((at_ ps i,0),ps.set i.toNat ee)
def byFrom (s:Int):List Pte→Int→List Int
  | [],_=>[]
  | p::ps,i=>if p.fRights ≠ 0∧p.fSlot = s then i::byFrom s ps (i + 1) else byFrom s ps (i + 1)
def by_ (ps:List Pte) (s:Int):List Int:=byFrom s ps 0
end Table
theorem table_is {i:Int} (h:cw i = true):∃ n:Nat,i = n∧n < 8:=by
  unfold cw at h
  simp at h
  exact ⟨i.toNat,by omega,by omega⟩
theorem table_new_run (K:Value→Hp→Prop) (h:Hp):hp Tryz.prog (Instr.build jZ #[]) K h = K (.agg ((List.replicate 8 ee).flatMap al.C).toArray) h:=by kernel_rfl
theorem nT:Sp Tryz.prog kX [] ic [] (fun r=>aE [cM r (List.replicate 8 ee)]):=by
  intro h st
  refine sim_table_New ?_
  unfold sh_table_New
  refine ⟨?_⟩
  rw [table_new_run]
  refine ⟨_,rfl,?_⟩
  refine oR st fun b h' s1=>?_
  exact iu rfl s1
theorem jT (x:Ptr) (ps:List Pte) (i:Int) (p:Pte):Sp Tryz.prog dS [pv x,.int .i64 i,.agg p.C.toArray] aZ [cM x ps] (fun r=>pa_ (r = (Table.insert ps i p).1) [cM x (Table.insert ps i p).2]):=by
  intro h s0
  obtain ⟨b,rfl,hb,st⟩:=table_op s0
  refine wc _ _ _ ?_
  unfold oU
  refine cZ rfl ?_
  refine aV (fun k=>?_) (fun k=>?_)
  · have k':(gr p).2 = false∨p.fRights = 0∨cw i = false:=by simpa [or_assoc] using k
    have e:Table.insert ps i p = (2,ps):=if_pos k'
    rw [e]
    exact aU rfl (iu hb st)
  · have k':¬ ((gr p).2 = false∨p.fRights = 0∨cw i = false):=by simp at k; simp [k]
    obtain ⟨n,rfl,hn⟩:=table_is (i:=i) (by simp at k'; exact k'.2.2)
    have hn':n < ps.length:=by omega
    have hat:Table.at_ ps n = ps[n]:=by simp [Table.at_,hn']
    refine cu ⟨⟨by omega,by omega⟩,?_⟩
    refine ld_a (j:=0) (i:=n) (k:=2) ps[n].fRights iY st rfl (by simp) (aD hn') (c1 rfl rfl) ?_
    refine aV (fun k2=>?_) (fun k2=>?_)
    · have k2':(Table.at_ ps n).fRights ≠ 0:=by rw [hat]; simpa using k2
      have e:Table.insert ps n p = (4,ps):=by unfold Table.insert; rw [if_neg k',if_pos k2']
      rw [e]
      exact aU rfl (iu hb st)
    · have k2':¬ (Table.at_ ps n).fRights ≠ 0:=by rw [hat]; simpa using k2
      have e:Table.insert ps n p = (0,ps.set n p):=by unfold Table.insert; rw [if_neg k',if_neg k2']; rfl
      rw [e]
      refine st_a (j:=0) (i:=n) (k:=0) p iY st rfl (by simp) (aD hn') (by simp [iY]) rfl fun h2 s2=>?_
      exact aU rfl (iu (by simpa using hb) s2)
theorem sp_table_Protect (x:Ptr) (ps:List Pte) (i r:Int):Sp Tryz.prog ko [pv x,.int .i64 i,.int .i64 r] aZ [cM x ps] (fun v=>pa_ (v = (Table.protect ps i r).1) [cM x (Table.protect ps i r).2]):=by
  intro h s0
  obtain ⟨b,rfl,hb,st⟩:=table_op s0
  refine uJ _ _ _ ?_
  unfold nY
  refine cZ rfl ?_
  refine aV (fun k=>?_) (fun k=>?_)
  · have k':cw i = false∨cz r = false:=by simpa using k
    have e:Table.protect ps i r = (2,ps):=if_pos k'
    rw [e]
    exact aU rfl (iu hb st)
  · have k':¬ (cw i = false∨cz r = false):=by simp at k; simp [k]
    obtain ⟨n,rfl,hn⟩:=table_is (i:=i) (by simp at k'; exact k'.1)
    have hn':n < ps.length:=by omega
    have hat:Table.at_ ps n = ps[n]:=by simp [Table.at_,hn']
    refine cu ⟨⟨by omega,by omega⟩,?_⟩
    refine ld_a (j:=0) (i:=n) (k:=2) ps[n].fRights iY st rfl (by simp) (aD hn') (c1 rfl rfl) ?_
    refine aV (fun k2=>?_) (fun k2=>?_)
    · have k2':(Table.at_ ps n).fRights = 0:=by rw [hat]; simpa using k2
      have e:Table.protect ps n r = (3,ps):=by unfold Table.protect; rw [if_neg k',if_pos k2']
      rw [e]
      exact aU rfl (iu hb st)
    · have k2':¬ (Table.at_ ps n).fRights = 0:=by rw [hat]; simpa using k2
      have e:Table.protect ps n r = (0,ps.set n { ps[n] with fRights:=r }):=by unfold Table.protect; rw [if_neg k',if_neg k2',hat]; rfl
      rw [e]
      refine st_a (j:=0) (i:=n) (k:=2) { ps[n] with fRights:=r } iY st rfl (by simp) (aD hn') (by simp) rfl fun h2 s2=>?_
      exact aU rfl (iu (by simpa using hb) s2)
theorem sp_table_Remove (x:Ptr) (ps:List Pte) (i:Int):Sp Tryz.prog iE [pv x,.int .i64 i] je [cM x ps] (fun v=>pa_ (v = (Table.remove ps i).1) [cM x (Table.remove ps i).2]):=by
  intro h s0
  obtain ⟨b,rfl,hb,st⟩:=table_op s0
  refine wb _ _ ?_
  unfold oT
  refine cZ rfl ?_
  refine aV (fun k=>?_) (fun k=>?_)
  · have k':cw i = false:=by simpa using k
    have e:Table.remove ps i = ((ee,2),ps):=if_pos k'
    rw [e]
    exact aU rfl (iu hb st)
  · have k':¬ (cw i = false):=by simp at k; simp [k]
    obtain ⟨n,rfl,hn⟩:=table_is (i:=i) (by simp at k'; exact k')
    have hn':n < ps.length:=by omega
    have hat:Table.at_ ps n = ps[n]:=by simp [Table.at_,hn']
    refine cu ⟨⟨by omega,by omega⟩,?_⟩
    refine ld_a (j:=0) (i:=n) (k:=2) ps[n].fRights iY st rfl (by simp) (aD hn') (c1 rfl rfl) ?_
    refine aV (fun k2=>?_) (fun k2=>?_)
    · have k2':(Table.at_ ps n).fRights = 0:=by rw [hat]; simpa using k2
      have e:Table.remove ps n = ((ee,3),ps):=by unfold Table.remove; rw [if_neg k',if_pos k2']
      rw [e]
      exact aU rfl (iu hb st)
    · have k2':¬ (Table.at_ ps n).fRights = 0:=by rw [hat]; simpa using k2
      have e:Table.remove ps n = ((ps[n],0),ps.set n ee):=by unfold Table.remove; rw [if_neg k',if_neg k2',hat]; rfl
      rw [e]
      refine ld_a (j:=0) (i:=n) (k:=0) ps[n] iY st rfl (by simp) (aD hn') (by simp) ?_
      refine st_a (j:=0) (i:=n) (k:=0) ee iY st rfl (by simp) (aD hn') (by simp [iY]) rfl fun h2 s2=>?_
      exact aU rfl (iu (by simpa using hb) s2)
theorem nq (x:Ptr) (ps:List Pte) (i:Int):Sp Tryz.prog eO [pv x,.int .i64 i] cr [cM x ps] (fun v=>pa_ (v = Table.get ps i) [cM x ps]):=by
  intro h s0
  obtain ⟨b,rfl,hb,st⟩:=table_op s0
  refine sim_table_Table_At _ _ ?_
  unfold tC
  refine aV (fun k=>?_) (fun k=>?_)
  · have k':cw i = true:=by simpa using k
    obtain ⟨n,rfl,hn⟩:=table_is k'
    have hn':n < ps.length:=by omega
    have hat:Table.at_ ps n = ps[n]:=by simp [Table.at_,hn']
    refine cu ⟨⟨by omega,by omega⟩,?_⟩
    refine ld_a (j:=0) (i:=n) (k:=2) ps[n].fRights iY st rfl (by simp) (aD hn') (c1 rfl rfl) ?_
    unfold iv
    refine aV (fun k2=>?_) (fun k2=>?_)
    · have k2':(Table.at_ ps n).fRights = 0:=by rw [hat]; simpa using k2
      have e:Table.get ps n = (ee,false):=if_neg (fun hh=>hh.2 k2')
      rw [e]
      exact aU rfl (iu hb st)
    · have k2':¬ (Table.at_ ps n).fRights = 0:=by rw [hat]; simpa using k2
      have e:Table.get ps n = (ps[n],true):=by unfold Table.get; rw [if_pos ⟨k',k2'⟩,hat]
      rw [e]
      refine cu ⟨⟨by omega,by omega⟩,?_⟩
      refine ld_a (j:=0) (i:=n) (k:=0) ps[n] iY st rfl (by simp) (aD hn') (by simp) ?_
      exact aU rfl (iu hb st)
  · have k':¬ cw i = true:=by simpa using k
    have e:Table.get ps i = (ee,false):=if_neg (fun hh=>k' hh.1)
    rw [e]
    unfold iv
    exact dc rfl (aU rfl (iu hb st))
theorem by_append (s:Int):∀ (ps:List Pte) (i:Int) (p:Pte),Table.byFrom s (ps++[p]) i = Table.byFrom s ps i++(if p.fRights ≠ 0∧p.fSlot = s then [i + ps.length] else [])
  | [],i,p=>by simp only [List.nil_append,Table.byFrom]; split <;> simp
  | y::ps,i,p=>by
    simp only [List.cons_append,Table.byFrom]
    rw [by_append s ps (i + 1) p]
    have e:i + 1 + (ps.length:Int) = i + ((y::ps).length:Int):=by simp; omega
    rw [e]
    split <;> simp
theorem by_len (s:Int):∀ (ps:List Pte) (i:Int),(Table.byFrom s ps i).length ≤ ps.length
  | [],_=>Nat.le_refl _
  | p::ps,i=>by unfold Table.byFrom; have:=by_len s ps (i + 1); split <;> simp <;> omega
theorem sp_table_By (x:Ptr) (ps:List Pte) (s:Int):Sp Tryz.prog lE [pv x,.int .i64 s] ct [cM x ps] (fun r=>aE [vI r (Table.by_ ps s),cM x ps]):=by
  intro h s0
  obtain ⟨b,rfl,hb,st⟩:=table_op s0
  refine sim_table_Table_By _ _ ?_
  unfold tB
  refine cZ rfl (cu ?_)
  obtain ⟨h1,a,sub⟩:=dR (i:=0) rfl st
  have hfl:(ps.flatMap al.C).length = 24:=by rw [dW iY,hb]
  refine loadAt_v (r:=ps.flatMap al.C) (cs:=ps.flatMap al.C) agn_8_api_Pte ⟨_,_,_,sub _ _ a,fun i v hv=>by simpa using hv⟩ hfl rfl ?_
  refine Lp.intro (fun (z:Sl × Int) h=>∃ n:Nat,z.2 = n∧n ≤ 8∧aE [vI z.1 (Table.byFrom s (ps.take n) 0),cM (some (b,0)) ps] h) (fun (z:Sl × Int) _=>8 - z.2.toNat) ⟨0,rfl,Nat.zero_le _,fC (iu hb st)⟩ ?_
  rintro ⟨z,i⟩ h ⟨n,rfl,hn,s1⟩
  unfold nQ
  refine aV (fun k=>?_) (fun k=>?_)
  · have hlt:n < 8:=by have:=of_decide_eq_true k; omega
    have hn':n < ps.length:=by omega
    have hw:IntKind.i64.wrap ((n:Int) + 1) = ((n + 1:Nat):Int):=by rw [bR (by omega) (by omega)]; rfl
    have ht:ps.take (n + 1) = ps.take n++[ps[n]]:=by simp
    have hlen:((ps.take n).length:Int) = n:=by simp; omega
    refine index_v (enc:=al.C) (m:=3) arn_8_api_Pte age_8_api_Pte iY (fun _=>rfl) hb (aD hn') ?_
    refine aV (fun k2=>?_) (fun k2=>?_)
    · have k2':ps[n].fRights ≠ 0∧ps[n].fSlot = s:=by simpa using k2
      refine vD s1 (i:=0) rfl ?_ fun v h' s2=>?_
      · have:=by_len s (ps.take n) 0; simp at this ⊢; omega
      · rw [hw]
        refine ⟨⟨n + 1,rfl,hlt,?_⟩,by simp; omega⟩
        rw [ht,by_append,if_pos k2',hlen,Int.zero_add]
        exact s2
    · have k2':¬ (ps[n].fRights ≠ 0∧ps[n].fSlot = s):=by simpa using k2
      rw [hw]
      refine ⟨⟨n + 1,rfl,hlt,?_⟩,by simp; omega⟩
      rw [ht,by_append,if_neg k2',List.append_nil]
      exact s1
  · have:n = 8:=by have:=of_decide_eq_false k; omega
    subst this
    rw [show ps.take 8 = ps from by rw [← hb]; exact List.take_length] at s1
    exact s1
end Go.Proofs.YtmggcfijlpldpaaGreatDoor
namespace Go.Proofs.YtmggcfijlpldpaaGreatDoor
open Go
namespace Mb
def vi {σ α:Type} (A:σ→α→As):List σ→List α→List As
  | p::ps,x::xs=>A p x::vi A ps xs
  | _,_=>[]
section
variable {σ α:Type} {A:σ→α→As}
theorem objs_get:∀ {ps:List σ} {xs:List α} {i:Nat} {p:σ} {x:α},ps[i]? = some p→xs[i]? = some x→(vi A ps xs)[i]? = some (A p x)
  | [],_,_,_,_,h,_=>by simp at h
  | _::_,[],_,_,_,_,h=>by simp at h
  | p::ps,x::xs,0,_,_,h1,h2=>by simp at h1 h2; subst h1; subst h2; rfl
  | p::ps,x::xs,i + 1,_,_,h1,h2=>by simpa [vi] using objs_get (ps:=ps) (xs:=xs) (i:=i) (by simpa using h1) (by simpa using h2)
theorem objs_set:∀ {ps:List σ} {xs:List α} {i:Nat} {p:σ} {x:α},ps[i]? = some p→(vi A ps xs).set i (A p x) = vi A ps (xs.set i x)
  | [],_,_,_,_,h=>by simp at h
  | p::ps,[],i,_,_,_=>by simp [vi]
  | p::ps,y::xs,0,_,_,h=>by simp at h; subst h; rfl
  | p::ps,y::xs,i + 1,_,_,h=>by simp only [vi,List.set_cons_succ]; rw [objs_set (ps:=ps) (xs:=xs) (i:=i) (by simpa using h)]
theorem objs_set2:∀ {ps:List σ} {xs:List α} {i:Nat} {p:σ} {x:α},i < xs.length→(vi A ps xs).set i (A p x) = vi A (ps.set i p) (xs.set i x)
  | [],_,_,_,_,_=>by simp [vi]
  | p::ps,[],i,_,_,h=>by simp at h
  | p::ps,y::xs,0,_,_,_=>rfl
  | p::ps,y::xs,i + 1,_,_,h=>by simp only [vi,List.set_cons_succ]; rw [objs_set2 (ps:=ps) (xs:=xs) (i:=i) (by simpa using h)]
theorem objs_append (p:σ) (x:α):∀ {ps:List σ} {xs:List α},ps.length = xs.length→vi A (ps++[p]) (xs++[x]) = vi A ps xs++[A p x]
  | [],[],_=>rfl
  | [],_::_,h=>by simp at h
  | _::_,[],h=>by simp at h
  | a::ps,b::xs,h=>by simp only [List.cons_append,vi]; rw [objs_append p x (by simpa using h)]
theorem objs_len:∀ {ps:List σ} {xs:List α},ps.length = xs.length→(vi A ps xs).length = xs.length
  | [],[],_=>rfl
  | [],_::_,h=>by simp at h
  | _::_,[],h=>by simp at h
  | a::ps,b::xs,h=>by simp only [vi,List.length_cons]; rw [objs_len (by simpa using h)]
def all (A:σ→α→As) (ps:List σ) (xs:List α):As:=aE (vi A ps xs)
def but (A:σ→α→As) (ps:List σ) (xs:List α) (i:Nat):As:=aE ((vi A ps xs).eraseIdx i)
variable {l:List As} {h:Hp} {ps:List σ} {xs:List α}
theorem star_shut {m:List As} (s:aE (m++l) h):aE (aE m::l) h:=by
  obtain ⟨h1,h2,d,e,s1,s2⟩:=eN.1 s
  exact ⟨h1,h2,d,e,s1,s2⟩
theorem jd {i:Nat} {p:σ} {x:α} (hp:ps[i]? = some p) (hx:xs[i]? = some x) (s:aE (all A ps xs::l) h):aE (A p x::but A ps xs i::l) h:=by
  obtain ⟨h1,h2,d,e,a,s'⟩:=s
  have:=gq (objs_get (A:=A) hp hx) a
  obtain ⟨h3,h4,d',e',a',s4⟩:=this
  subst e'
  obtain ⟨d1,d2⟩:=Dj.of_un_left d
  exact ⟨h3,un h4 h2,Dj.un_right d' d1,by rw [e,mo],a',h4,h2,d2,rfl,s4,s'⟩
theorem xd {i:Nat} {p:σ} {y:α} (hp:ps[i]? = some p) (hi:i < xs.length) (hl:ps.length = xs.length) (s:aE (A p y::but A ps xs i::l) h):aE (all A ps (xs.set i y)::l) h:=by
  obtain ⟨h1,h2,d,e,a,h3,h4,d',e',b,s'⟩:=s
  subst e'
  obtain ⟨d1,d2⟩:=Dj.of_un_right d
  refine ⟨un h1 h3,h4,Dj.un_left d2 d',by rw [e,mo],?_,s'⟩
  have:=eB (A:=A p y) (l:=vi A ps xs) (i:=i) (by rw [objs_len hl]; exact hi) ⟨h1,h3,d1,rfl,a,b⟩
  rw [objs_set hp] at this
  exact this
theorem all_in2 {i:Nat} {p:σ} {y:α} (hi:i < xs.length) (hl:ps.length = xs.length) (s:aE (A p y::but A ps xs i::l) h):aE (all A (ps.set i p) (xs.set i y)::l) h:=by
  obtain ⟨h1,h2,d,e,a,h3,h4,d',e',b,s'⟩:=s
  subst e'
  obtain ⟨d1,d2⟩:=Dj.of_un_right d
  refine ⟨un h1 h3,h4,Dj.un_left d2 d',by rw [e,mo],?_,s'⟩
  have:=eB (A:=A p y) (l:=vi A ps xs) (i:=i) (by rw [objs_len hl]; exact hi) ⟨h1,h3,d1,rfl,a,b⟩
  rw [objs_set2 hi] at this
  exact this
theorem iy {α:Type} {xs:List α} {i:Nat} {x:α} (hx:xs[i]? = some x):xs.set i x = xs:=by
  apply List.ext_getElem?
  intro n
  rw [List.getElem?_set]
  by_cases e:i = n
  · subst e
    obtain ⟨h1,h2⟩:=List.getElem?_eq_some_iff.1 hx
    simp [h1,h2]
  · simp [e]
theorem vF {i:Nat} {p:σ} {x:α} (hp:ps[i]? = some p) (hx:xs[i]? = some x) (hl:ps.length = xs.length) (s:aE (A p x::but A ps xs i::l) h):aE (all A ps xs::l) h:=by
  have:=xd hp (List.getElem?_eq_some_iff.1 hx).1 hl s
  rwa [iy hx] at this
theorem all_nil:aE l h→aE (all A [] []::l) h:=fun s=>star_cons (fun _=>trivial) s
theorem all_push {p:σ} {x:α} (hl:ps.length = xs.length) (s:aE (A p x::all A ps xs::l) h):aE (all A (ps++[p]) (xs++[x])::l) h:=by
  refine star_shut ?_
  rw [objs_append p x hl]
  have s1:=ke (.swap _ _ _) s
  have s2:=dx s1
  exact ke (by simp) s2
end
theorem vV {A:As} {h:Hp} (a:A h):aE [A] h:=⟨h,emp,Dj.emp_right _,(un_emp _).symm,a,trivial⟩
section
variable {P:Program} {l:List As} {h:Hp} {τ:Type} {f:FuncId} {args:List Value} {enc:τ→Value} {K:τ→Hp→Prop} {i:Nat} {A:As}
theorem bH {φ:τ→Prop} {A':τ→As} (c:Sp P f args enc [A] (fun r=>pa_ (φ r) [A' r])) (hi:l[i]? = some A) (s:aE l h) (k:∀ r h',φ r→aE (l.set i (A' r)) h'→K r h'):cl P f args enc K h:=by
  obtain ⟨h1,h2,d,rfl,a,s'⟩:=gq hi s
  refine (c h1 (vV a)).frame_mono d rfl fun v h' ⟨r,hv,q⟩ dj=>⟨r,hv,?_⟩
  obtain ⟨g1,q⟩:=q
  refine k r _ g1 (eB (List.getElem?_eq_some_iff.1 hi).1 ?_)
  exact np (l:=[A' r]++l.eraseIdx i) (by rw [List.append_nil]; exact eN.2 ⟨h',h2,dj,rfl,q,s'⟩)
theorem vz {B A':τ→As} (c:Sp P f args enc [A] (fun r=>aE [B r,A' r])) (hi:l[i]? = some A) (s:aE l h) (k:∀ r h',aE (B r::l.set i (A' r)) h'→K r h'):cl P f args enc K h:=by
  obtain ⟨h1,h2,d,rfl,a,s'⟩:=gq hi s
  refine (c h1 (vV a)).frame_mono d rfl fun v h' ⟨r,hv,q⟩ dj=>⟨r,hv,k r _ ?_⟩
  have s1:aE (B r::A' r::l.eraseIdx i) (un h' h2):=(eN (l:=[B r,A' r])).2 ⟨h',h2,dj,rfl,q,s'⟩
  obtain ⟨g1,g2,d2,e2,b,s2⟩:=s1
  exact ⟨g1,g2,d2,e2,b,eB (List.getElem?_eq_some_iff.1 hi).1 s2⟩
theorem cl_p {φ:τ→Prop} {B A':τ→As} (c:Sp P f args enc [A] (fun r=>pa_ (φ r) [B r,A' r])) (hi:l[i]? = some A) (s:aE l h) (k:∀ r h',φ r→aE (B r::l.set i (A' r)) h'→K r h'):cl P f args enc K h:=by
  obtain ⟨h1,h2,d,rfl,a,s'⟩:=gq hi s
  refine (c h1 (vV a)).frame_mono d rfl fun v h' ⟨r,hv,q⟩ dj=>⟨r,hv,?_⟩
  obtain ⟨g0,q⟩:=q
  refine k r _ g0 ?_
  have s1:aE (B r::A' r::l.eraseIdx i) (un h' h2):=(eN (l:=[B r,A' r])).2 ⟨h',h2,dj,rfl,q,s'⟩
  obtain ⟨g1,g2,d2,e2,b,s2⟩:=s1
  exact ⟨g1,g2,d2,e2,b,eB (List.getElem?_eq_some_iff.1 hi).1 s2⟩
theorem tt {φ:τ→Prop} (c:Sp P f args enc [] (fun r=>pa_ (φ r) [])) (s:aE l h) (k:∀ r h',φ r→aE l h'→K r h'):cl P f args enc K h :=
  cG [] c s rfl fun r h' s1=>by
    obtain ⟨f1,s2⟩:=bn.1 s1
    exact k r h' f1 s2
theorem lT {B:τ→As} (c:Sp P f args enc [] (fun r=>aE [B r])) (s:aE l h) (k:∀ r h',aE (B r::l) h'→K r h'):cl P f args enc K h :=
  cG [] c s rfl fun r h' s1=>k r h' (dx s1)
end
end Mb
end Go.Proofs.YtmggcfijlpldpaaGreatDoor
