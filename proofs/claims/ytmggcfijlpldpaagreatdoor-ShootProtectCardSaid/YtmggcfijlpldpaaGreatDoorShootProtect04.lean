/- Part of the proof of: The law ShootProtect returns true for every input, and leaves its arguments as they were. -/
import Derived.Test.YtmggcfijlpldpaaGreatDoorShootProtect03
set_option linter.all false
set_option maxRecDepth 20000
namespace Go.Proofs.YtmggcfijlpldpaaGreatDoor
open Go Mb
set_option linter.unusedVariables false
def gJ (a0:Sl) (K:Sl→Hp→Prop):Hp→Prop:=br a0.a.isNone ( K (⟨none,0,0,none⟩:Sl)) ( hpv Tryz.prog (Instr.buildSlice eC 0 #[]) eG fun (v5:Sl)=>hpv Tryz.prog (Builtin.append_ #[eC,eC] eC #[(sv v5),(sv a0)]) eG fun (v7:Sl)=>K v7)
theorem lR (a0:Sl) {K:Sl→Hp→Prop} {h:Hp} (H:gJ a0 K h):Ct Tryz.prog eI #[(sv a0)] h fun v h'=>∃ r,v = eG r∧K r h':=au [(sv a0)] Tryz.func47 c c c fun _=>M<|O c<|aj<|M<|J c<|p (v_seqT Tryz.underlying43 c)<|ac<|ar c H (fun k1 H2=>M<|O c<|ah<|Y ⟨(⟨none,0,0,none⟩:Sl),c,H2⟩) fun k1 H2=>am<|M<|aa<|aO H2 (bm (vs:=[]) c) c fun v5 _ H3=>J c<|aa<|aO H3 (dA c c) c fun v7 _ H4=>O c<|ah<|Y ⟨v7,c,H4⟩
def dY (a0:Sl) (a1:Int) (K:(Int × Bool)→Hp→Prop) (Rec2:(Int × Int)→Hp→Prop) (s1:Int × Int):Hp→Prop:=br (decide (s1.1 < s1.2)) ( ix a0 (IntKind.i64.wrap (Int.fdiv (IntKind.u64.wrap (IntKind.i64.wrap (s1.1 + s1.2))) (2 ^ (min (Int.toNat 1) (IntKind.bits .u64))))) fun q24=>ld (q24.1,q24.2 + Int.toNat (IntKind.i64.wrap (Int.fdiv (IntKind.u64.wrap (IntKind.i64.wrap (s1.1 + s1.2))) (2 ^ (min (Int.toNat 1) (IntKind.bits .u64))))) * 1) (cI .u64) fun x25=>br (gT x25 a1) ( Rec2 ((IntKind.i64.wrap ((IntKind.i64.wrap (Int.fdiv (IntKind.u64.wrap (IntKind.i64.wrap (s1.1 + s1.2))) (2 ^ (min (Int.toNat 1) (IntKind.bits .u64))))) + 1)),s1.2)) ( Rec2 (s1.1,(IntKind.i64.wrap (Int.fdiv (IntKind.u64.wrap (IntKind.i64.wrap (s1.1 + s1.2))) (2 ^ (min (Int.toNat 1) (IntKind.bits .u64)))))))) ( br (decide (s1.1 < (a0.len:Int))) ( ix a0 s1.1 fun q38=>ld (q38.1,q38.2 + Int.toNat s1.1 * 1) (cI .u64) fun x39=>br (!(x39 == a1)) ( ld (q38.1,q38.2 + Int.toNat s1.1 * 1) (cI .u64) fun x46=>K (s1.1,((dy x46) && (dy a1)))) ( K (s1.1,true))) ( K (s1.1,false)))
def gl (a0:Sl) (a1:Int) (K:(Int × Bool)→Hp→Prop):Hp→Prop:=Lp (dY a0 a1 K) (0,(a0.len:Int))
theorem lw (a0:Sl) (a1:Int) {K:(Int × Bool)→Hp→Prop} {h:Hp} (H:gl a0 a1 K h):Ct Tryz.prog eB #[(sv a0),(.int .u64 a1)] h fun v h'=>∃ r,v = bH r∧K r h':=au [(sv a0),(.int .u64 a1)] Tryz.func164 c c c fun _=>M<|p (aq c)<|O c<|M<|J c<|p (dz c Tryz.underlying158 c)<|O c<|M<|J c<|p (aq c)<|O c<|aj<|av<|bA (step:=dY a0 a1 K) (fun s1=>[(0,(sv a0)),(1,(.int .u64 a1)),(6,(.int .i64 (a0.len:Int))),(7,(.int .i64 s1.1)),(8,(.int .i64 s1.2))]) (fun s1=>[]) H (.cons c<|.cons c<|.cons c<|.cons c<|.cons c<|.nil _) .slnil fun Rec2 s1 _ H3=>aj<|M<|J c<|J c<|p (cm c c)<|ac<|ar c H3 (fun k4 H5=>am<|av<|M<|J c<|J c<|p (bp c c)<|p (dr ⟨_,Tryz.underlying3⟩ Tryz.underlying254 c)<|p (v_shr c c (by decide))<|p (dr ⟨_,Tryz.underlying254⟩ Tryz.underlying3 c)<|O c<|M<|J c<|J c<|ce H5 fun q24 e6 h7 H8=>p (bo ru (aL c<|aZ e6) c h7)<|aa<|aT H8 ck c (fun _=>c) c fun x25 H9=>J c<|aa<|cA (vs:=[(.int .u64 x25),(.int .u64 a1)]) (bq<|ct_cmp_Less_uint64 x25 a1 _) en_189 c c<|ac<|ar c H9 (fun k10 H11=>ap<|J c<|p (bp c c)<|O c<|cF ((IntKind.i64.wrap ((IntKind.i64.wrap (Int.fdiv (IntKind.u64.wrap (IntKind.i64.wrap (s1.1 + s1.2))) (2 ^ (min (Int.toNat 1) (IntKind.bits .u64))))) + 1)),s1.2) H11 (.cons c<|.cons c<|.cons c<|.cons c<|.cons c<|.nil _) .slnil) fun k10 H11=>ap<|J c<|O c<|cF (s1.1,(IntKind.i64.wrap (Int.fdiv (IntKind.u64.wrap (IntKind.i64.wrap (s1.1 + s1.2))) (2 ^ (min (Int.toNat 1) (IntKind.bits .u64)))))) H11 (.cons c<|.cons c<|.cons c<|.cons c<|.cons c<|.nil _) .slnil) fun k4 H5=>bh<|M<|J c<|J c<|J c<|p (cm c c)<|J c<|V c c (aw _) (fun g12=>wv<|ag c)<|V c c (aw _) (fun g13=>wv<|ag c)<|bP H5 (fun k15 H16=>ce H16 fun q38 e17 h18 H19=>F (D k15)<|R (bo ru (aL (az c k15)<|aZ e17) (az c k15) h18)<|F (D k15)<|aT H19 ck c (fun _=>c) c fun x39 H20=>F (D k15)<|R (ag c)<|F (D k15)<|R (bM c c)<|F (D k15)<|R (ag c)<|V c c (aG _) (fun g21=>wv<|ag c)<|V c c (aG _) (fun g22=>wv<|ag c)<|V c c (aG _) (fun g23=>wv<|bo ru (aL (az c g23)<|aZ e17) (az c g23) h18)<|bP H20 (fun k25 H26=>F (D<|bY k25)<|aT H26 ck (az c k25) (fun _=>c) c fun x46 H27=>F (D<|bY k25)<|cA (vs:=[(.int .u64 x46)]) (bq<|oB x46 _) en_190 c c<|F (D<|bY k25)<|R (ag c)<|V c c (aw _) (fun g28=>wv<|ag c)<|cR (vs:=[(.int .u64 a1)]) c c c (aw _) (fun g29=>bq<|oB a1 _) en_190 (fun g29=>aP (az c g29) bL) c<|F (D<|bY k25)<|R (bN c c)<|F (D k15)<|R (ao c (bY k25) c)<|p (aR c k15 c)<|p (aq c)<|O c<|ah<|bt (bJ c (bT c)<|bT c) ⟨(s1.1,((dy x46) && (dy a1))),c,H27⟩) fun k25 H26=>W (bV<|bE k25)<|W (bV<|bE k25)<|W (bV<|bE k25)<|W (off_u _)<|W (off_u _)<|W (bV<|bE k25)<|F (D k15)<|R (aR c (bE k25) c)<|p (aR c k15 c)<|p (aq c)<|O c<|ah<|bt (bJ c (bT c)<|bT c) ⟨(s1.1,true),c,H26⟩) fun k15 H16=>W (aQ k15)<|W (aQ k15)<|W (aQ k15)<|W (aQ k15)<|W (aQ k15)<|W (off_u _)<|W (off_u _)<|W (off_u _)<|W (off_u _)<|W (off_u _)<|W (off_u _)<|W (off_u _)<|W (off_u _)<|W (off_u _)<|W (aQ k15)<|p (ao c k15 c)<|p (aq c)<|O c<|ah<|bt (bJ c (bT c)<|bT c) ⟨(s1.1,false),c,H16⟩
def je (a0:Sl) (a1:Int) (a2:Sl) (K:Sl→Hp→Prop):Hp→Prop:=hpv Tryz.prog (Instr.sliceAt bb (sv a0) (some (.int .i64 a1)) none none) bW fun (v12:Sl)=>br ((a2.len:Int) == 0) ( K a0) ( br (a1 == (a0.len:Int)) ( hpv Tryz.prog (Builtin.append_ #[bb,bb] bb #[(sv a0),(sv a2)]) bW fun (v25:Sl)=>K v25) ( br (decide ((IntKind.i64.wrap ((a0.len:Int) + (a2.len:Int))) > (a0.cap:Int))) ( hpv Tryz.prog (Instr.sliceAt bb (sv a0) none (some (.int .i64 a1)) none) bW fun (v34:Sl)=>hpv Tryz.prog (Builtin.append_ #[bb,kA] bb #[(sv v34),(.int .i64 (IntKind.i64.wrap ((IntKind.i64.wrap ((a0.len:Int) + (a2.len:Int))) - a1)))]) bW fun (v40:Sl)=>hpv Tryz.prog (Instr.sliceAt bb (sv v40) (some (.int .i64 a1)) none none) bW fun (v43:Sl)=>hpv Tryz.prog (Builtin.copy_ #[bb,bb] kA #[(sv v43),(sv a2)]) dW fun (v45:Int)=>both ( hpv Tryz.prog (Instr.sliceAt bb (sv v40) (some (.int .i64 (IntKind.i64.wrap (a1 + (a2.len:Int))))) none none) bW fun (v50:Sl)=>hpv Tryz.prog (Instr.sliceAt bb (sv a0) (some (.int .i64 a1)) none none) bW fun (v53:Sl)=>hpv Tryz.prog (Builtin.copy_ #[bb,bb] kA #[(sv v50),(sv v53)]) dW fun (v54:Int)=>K v40) ( hpv Tryz.prog (Instr.sliceAt bb (sv a0) (some (.int .i64 a1)) none none) bW fun (v53:Sl)=>hpv Tryz.prog (Instr.sliceAt bb (sv v40) (some (.int .i64 (IntKind.i64.wrap (a1 + (a2.len:Int))))) none none) bW fun (v50:Sl)=>hpv Tryz.prog (Builtin.copy_ #[bb,bb] kA #[(sv v50),(sv v53)]) dW fun (v54:Int)=>K v40)) ( hpv Tryz.prog (Instr.sliceAt bb (sv a0) none (some (.int .i64 (IntKind.i64.wrap ((a0.len:Int) + (a2.len:Int))))) none) bW fun (v60:Sl)=>hpv Tryz.prog (Instr.sliceAt bb (sv v60) (some (.int .i64 (IntKind.i64.wrap (a1 + (a2.len:Int))))) none none) bW fun (v66:Sl)=>cln Tryz.prog (callFunc uh #[(sv a2),(sv v66)]) ay fun (v67:Bool)=>br (!v67) ( both ( hpv Tryz.prog (Instr.sliceAt bb (sv v60) (some (.int .i64 (IntKind.i64.wrap (a1 + (a2.len:Int))))) none none) bW fun (v73:Sl)=>hpv Tryz.prog (Instr.sliceAt bb (sv v60) (some (.int .i64 a1)) none none) bW fun (v76:Sl)=>hpv Tryz.prog (Builtin.copy_ #[bb,bb] kA #[(sv v73),(sv v76)]) dW fun (v77:Int)=>hpv Tryz.prog (Instr.sliceAt bb (sv v60) (some (.int .i64 a1)) none none) bW fun (v80:Sl)=>hpv Tryz.prog (Builtin.copy_ #[bb,bb] kA #[(sv v80),(sv a2)]) dW fun (v82:Int)=>K v60) ( hpv Tryz.prog (Instr.sliceAt bb (sv v60) (some (.int .i64 a1)) none none) bW fun (v76:Sl)=>hpv Tryz.prog (Instr.sliceAt bb (sv v60) (some (.int .i64 (IntKind.i64.wrap (a1 + (a2.len:Int))))) none none) bW fun (v73:Sl)=>hpv Tryz.prog (Builtin.copy_ #[bb,bb] kA #[(sv v73),(sv v76)]) dW fun (v77:Int)=>hpv Tryz.prog (Instr.sliceAt bb (sv v60) (some (.int .i64 a1)) none none) bW fun (v80:Sl)=>hpv Tryz.prog (Builtin.copy_ #[bb,bb] kA #[(sv v80),(sv a2)]) dW fun (v82:Int)=>K v60)) ( hpv Tryz.prog (Instr.sliceAt bb (sv v60) (some (.int .i64 (a0.len:Int))) none none) bW fun (v86:Sl)=>hpv Tryz.prog (Builtin.copy_ #[bb,bb] kA #[(sv v86),(sv a2)]) dW fun (v88:Int)=>hpv Tryz.prog (Instr.sliceAt bb (sv v60) (some (.int .i64 a1)) none none) bW fun (v91:Sl)=>cl Tryz.prog ry [(sv v91),(.int .i64 (a2.len:Int))] R_ fun (_:Unit)=>K v60))))
theorem oF (a0:Sl) (a1:Int) (a2:Sl) {K:Sl→Hp→Prop} {h:Hp} (H:je a0 a1 a2 K h):Ct Tryz.prog du #[(sv a0),(.int .i64 a1),(sv a2)] h fun v h'=>∃ r,v = bW r∧K r h':=au [(sv a0),(.int .i64 a1),(sv a2)] Tryz.func165 c c c fun _=>M<|O c<|M<|J c<|J c<|aa<|aO H (eR c c c c c) c fun v12 _ H1=>ac<|M<|J c<|p (dz c Tryz.underlying158 c)<|O c<|aj<|M<|J c<|p (bM c c)<|ac<|ar c H1 (fun k2 H3=>M<|J c<|O c<|ah<|Y ⟨a0,c,H3⟩) fun k2 H3=>am<|M<|J c<|p (dz c Tryz.underlying158 c)<|O c<|aj<|M<|J c<|J c<|p (bM c c)<|ac<|ar c H3 (fun k4 H5=>M<|J c<|J c<|aa<|aO H5 (dA c c) c fun v25 _ H6=>O c<|ah<|Y ⟨v25,c,H6⟩) fun k4 H5=>am<|aj<|M<|J c<|J c<|p (bp c c)<|J c<|p (v_cap c Tryz.underlying158 c)<|p (pY c c)<|ac<|ar c H5 (fun k7 H8=>M<|J c<|J c<|aa<|aO H8 (eR c c c c c) c fun v34 _ H9=>J c<|J c<|p (bp c c)<|J c<|p (us c c)<|aa<|aO H9 (dA c c) c fun v40 _ H10=>O c<|M<|J c<|J c<|aa<|aO H10 (eR c c c c c) c fun v43 _ H11=>J c<|aa<|aO H11 (x_copy c c) c fun v45 _ H12=>ac<|aj<|bj (n:=9) [] ch c .slnil<|U 0 c (ag c)<|U 1 c (ag c)<|U 2 c (ag c)<|U 3 c (bp c c)<|U 5 c (ag c)<|U 6 c (ag c)<|jn H12 fun H13_1 H13_2=>jo (i:=4) (j:=7) (by kernel_rfl) (cu c c<|aO H13_1 (eR c c c c c) c fun v50 _ H14=>⟨.slnil,G 7 c<|aO H14 (eR c c c c c) c fun v53 _ H15=>⟨.slnil,G 8 c<|aO H15 (x_copy c c) c fun v54 _ H16=>⟨.slnil,aS (by kernel_rfl)<|M<|J c<|O c<|ah<|Y ⟨v40,c,H16⟩⟩⟩⟩)<|cu c c<|aO H13_2 (eR c c c c c) c fun v53 _ H14=>⟨.slnil,G 4 c<|aO H14 (eR c c c c c) c fun v50 _ H15=>⟨.slnil,G 8 c<|aO H15 (x_copy c c) c fun v54 _ H16=>⟨.slnil,aS (by kernel_rfl)<|M<|J c<|O c<|ah<|Y ⟨v40,c,H16⟩⟩⟩⟩) fun k7 H8=>am<|M<|J c<|J c<|J c<|p (bp c c)<|aa<|aO H8 (eR c c c c c) c fun v60 _ H17=>O c<|aj<|M<|J c<|J c<|J c<|J c<|p (bp c c)<|aa<|aO H17 (eR c c c c c) c fun v66 _ H18=>aa<|fI H18 (rl (vs:=[(sv a2),(sv v66)]) c) c fun v67 _ H19=>p (cf c)<|ac<|ar c H19 (fun k20 H21=>aj<|bj (n:=9) [] ch c .slnil<|U 0 c (ag c)<|U 1 c (ag c)<|U 2 c (ag c)<|U 3 c (bp c c)<|U 5 c (ag c)<|U 6 c (ag c)<|jn H21 fun H22_1 H22_2=>jo (i:=4) (j:=7) (by kernel_rfl) (cu c c<|aO H22_1 (eR c c c c c) c fun v73 _ H23=>⟨.slnil,G 7 c<|aO H23 (eR c c c c c) c fun v76 _ H24=>⟨.slnil,G 8 c<|aO H24 (x_copy c c) c fun v77 _ H25=>⟨.slnil,aS (by kernel_rfl)<|M<|J c<|J c<|aa<|aO H25 (eR c c c c c) c fun v80 _ H26=>J c<|aa<|aO H26 (x_copy c c) c fun v82 _ H27=>ac<|M<|J c<|O c<|ah<|Y ⟨v60,c,H27⟩⟩⟩⟩)<|cu c c<|aO H22_2 (eR c c c c c) c fun v76 _ H23=>⟨.slnil,G 4 c<|aO H23 (eR c c c c c) c fun v73 _ H24=>⟨.slnil,G 8 c<|aO H24 (x_copy c c) c fun v77 _ H25=>⟨.slnil,aS (by kernel_rfl)<|M<|J c<|J c<|aa<|aO H25 (eR c c c c c) c fun v80 _ H26=>J c<|aa<|aO H26 (x_copy c c) c fun v82 _ H27=>ac<|M<|J c<|O c<|ah<|Y ⟨v60,c,H27⟩⟩⟩⟩) fun k20 H21=>am<|M<|J c<|J c<|aa<|aO H21 (eR c c c c c) c fun v86 _ H28=>J c<|aa<|aO H28 (x_copy c c) c fun v88 _ H29=>ac<|M<|J c<|J c<|aa<|aO H29 (eR c c c c c) c fun v91 _ H30=>J c<|aa<|Z H30 en_192 fun r93 _ H31=>ac<|M<|J c<|O c<|ah<|Y ⟨v60,c,H31⟩
def ja (a0:Sl) (a1:Int) (K:Int→Hp→Prop) (Rec2:Int→Hp→Prop) (s1:Int):Hp→Prop:=br (decide (s1 < (a0.len:Int))) ( ix a0 s1 fun q14=>ld (q14.1,q14.2 + Int.toNat s1 * 1) (cI .i64) fun x15=>br (a1 == x15) ( K s1) ( Rec2 (IntKind.i64.wrap (s1 + 1)))) ( K (-1))
def na (a0:Sl) (a1:Int) (K:Int→Hp→Prop):Hp→Prop:=Lp (ja a0 a1 K) 0
theorem uc (a0:Sl) (a1:Int) {K:Int→Hp→Prop} {h:Hp} (H:na a0 a1 K h):Ct Tryz.prog jG #[(sv a0),(.int .i64 a1)] h fun v h'=>∃ r,v = dW r∧K r h':=au [(sv a0),(.int .i64 a1)] Tryz.func193 c c c fun _=>M<|O c<|aj<|M<|J c<|p (dz c Tryz.underlying40 c)<|J c<|ac<|av<|bA (step:=ja a0 a1 K) (fun s1=>[(0,(sv a0)),(1,(.int .i64 a1)),(7,(.int .i64 (a0.len:Int))),(8,(.int .i64 s1))]) (fun s1=>[]) H (.cons c<|.cons c<|.cons c<|.cons c<|.nil _) .slnil fun Rec2 s1 _ H3=>M<|p (cm c c)<|ac<|aj<|ar c H3 (fun k4 H5=>am<|aj<|av<|M<|J c<|O c<|M<|J c<|J c<|J c<|ce H5 fun q14 e6 h7 H8=>p (bo ig (aL c<|aZ e6) c h7)<|aa<|aT H8 aY c (fun _=>c) c fun x15 H9=>p (bM c c)<|ac<|ar c H9 (fun k10 H11=>M<|J c<|O c<|ah<|Y ⟨s1,c,H11⟩) fun k10 H11=>am<|ap<|p (bp c c)<|J c<|ac<|cF (IntKind.i64.wrap (s1 + 1)) H11 (.cons c<|.cons c<|.cons c<|.cons c<|.nil _) .slnil) fun k4 H5=>bh<|M<|O c<|ah<|Y ⟨(-1),c,H5⟩
def eH (a0:Sl) (a1:Int) (a3:Value) (Rec2:Int→Hp→Prop) (s1:Int) (Rec7:Int→Hp→Prop) (s6:Int):Hp→Prop:=br (decide (s6 > a1)) ( ix a0 s6 fun q25=>ix a0 (IntKind.i64.wrap (s6 - 1)) fun q30=>ld (q25.1,q25.2 + Int.toNat s6 * 1) (cI .i64) fun x26=>ld (q30.1,q30.2 + Int.toNat (IntKind.i64.wrap (s6 - 1)) * 1) (cI .i64) fun x31=>clv Tryz.prog a3 [(.int .i64 x26),(.int .i64 x31)] dW fun r32=>br (decide (r32 < 0)) ( ld (q30.1,q30.2 + Int.toNat (IntKind.i64.wrap (s6 - 1)) * 1) (cI .i64) fun x46=>ld (q25.1,q25.2 + Int.toNat s6 * 1) (cI .i64) fun x50=>st (q25.1,q25.2 + Int.toNat s6 * 1) [.int .i64 x46]<|st (q30.1,q30.2 + Int.toNat (IntKind.i64.wrap (s6 - 1)) * 1) [.int .i64 x50]<|Rec7 (IntKind.i64.wrap (s6 - 1))) ( Rec2 (IntKind.i64.wrap (s1 + 1)))) ( Rec2 (IntKind.i64.wrap (s1 + 1)))
def dx (a0:Sl) (a1:Int) (a2:Int) (a3:Value) (K:Unit→Hp→Prop) (Rec2:Int→Hp→Prop) (s1:Int):Hp→Prop:=br (decide (s1 < a2)) ( Lp (eH a0 a1 a3 Rec2 s1) s1) ( K ())
def gR (a0:Sl) (a1:Int) (a2:Int) (a3:Value) (K:Unit→Hp→Prop):Hp→Prop:=Lp (dx a0 a1 a2 a3 K) (IntKind.i64.wrap (a1 + 1))
theorem mj (a0:Sl) (a1:Int) (a2:Int) (a3:Value) {K:Unit→Hp→Prop} {h:Hp} (H:gR a0 a1 a2 a3 K h):Ct Tryz.prog bQ #[(sv a0),(.int .i64 a1),(.int .i64 a2),a3] h fun v h'=>∃ r,v = R_ r∧K r h':=au [(sv a0),(.int .i64 a1),(.int .i64 a2),a3] Tryz.func184 c c c fun _=>M<|J c<|p (bp c c)<|O c<|av<|bA (step:=dx a0 a1 a2 a3 K) (fun s1=>[(0,(sv a0)),(1,(.int .i64 a1)),(2,(.int .i64 a2)),(3,a3),(8,(.int .i64 s1))]) (fun s1=>[]) H (.cons c<|.cons c<|.cons c<|.cons c<|.cons c<|.nil _) .slnil fun Rec2 s1 _ H3=>aj<|M<|J c<|J c<|p (cm c c)<|ac<|ar c H3 (fun k4 H5=>am<|aj<|av<|M<|J c<|O c<|av<|bA (step:=eH a0 a1 a3 Rec2 s1) (fun s6=>[(0,(sv a0)),(1,(.int .i64 a1)),(2,(.int .i64 a2)),(3,a3),(8,(.int .i64 s1)),(9,(.int .i64 s6))]) (fun s6=>[]) H5 (.cons c<|.cons c<|.cons c<|.cons c<|.cons c<|.cons c<|.nil _) .slnil fun Rec7 s6 _ H8=>aj<|aj<|bj (n:=17) [] ch c .slnil<|U 0 c (ag c)<|U 1 c (ag c)<|U 2 c (pY c c)<|U 3 c (ag c)<|pI H8 (fun k9 H10=>z_n 4 c (D k9) (ve<|ag c)<|z_n 5 c (D k9) (ve<|ag c)<|z_n 6 c (D k9) (ve<|ag c)<|z_n 9 c (D k9) (ve<|ag c)<|z_n 10 c (D k9) (ve<|ag c)<|z_n 11 c (D k9) (ve<|us c c)<|fQ H10 fun q25 e11 h12 H13=>z_n 7 c (D k9) (ve<|bo ig (aL c<|aZ e11) c h12)<|fQ H13 fun q30 e14 h15 H16=>z_n 12 c (D k9) (ve<|bo ig (aL c<|aZ e14) c h15)<|lM (i:=8) (fun _ _ _ _ hh=>hh) H16 c (by kernel_rfl) c c c (D k9) aY c (fun _=>c) c fun x26 H17=>lM (i:=13) (fun _ _ _ _ hh=>hh) H17 c (by kernel_rfl) c c c (D k9) aY c (fun _=>c) c fun x31 H18=>eva_1 (i:=14) (by kernel_rfl)<|way_on c c c c (D k9)<|to_clv H18 c c c fun r32 _ H19=>⟨.slnil,z_n 15 c (D k9) (ve<|cm c c)<|U 16 c (aR c k9 c)<|aS (by kernel_rfl)<|ar c H19 (fun k20 H21=>am<|aj<|av<|bj (n:=18) [] ch c .slnil<|U 0 c (ag c)<|U 1 c (ag c)<|U 2 c (ag c)<|U 3 c (ag c)<|U 4 c (us c c)<|U 5 c (ag c)<|U 6 c (ag c)<|U 7 c (us c c)<|U 8 c (bo ig (aL c<|aZ e14) c h15)<|U 10 c (ag c)<|U 11 c (ag c)<|U 12 c (bo ig (aL c<|aZ e11) c h12)<|bD (i:=9) (fun _ _ _ _ hh=>hh) H21 c (by kernel_rfl) aY c (fun _=>c) c fun x46 H22=>bD (i:=13) (fun _ _ _ _ hh=>hh) H22 c (by kernel_rfl) aY c (fun _=>c) c fun x50 H23=>U 14 c (bo ig (aL c<|aZ e11) c h12)<|G 15 c<|dp qq c c c c c H23 fun _ H24=>⟨.slnil,U 16 c (bo ig (aL c<|aZ e14) c h15)<|G 17 c<|dp qq c c c c c H24 fun _ H25=>⟨.slnil,aS (by kernel_rfl)<|ap<|J c<|p (us c c)<|O c<|cF (IntKind.i64.wrap (s6 - 1)) H25 (.cons c<|.cons c<|.cons c<|.cons c<|.cons c<|.cons c<|.nil _) .slnil⟩⟩) fun k20 H21=>bh<|ap<|J c<|p (bp c c)<|O c<|cF (IntKind.i64.wrap (s1 + 1)) H21 (.cons c<|.cons c<|.cons c<|.cons c<|.cons c<|.nil _) .slnil⟩) fun k9 H10=>I 4 c (aQ k9)<|I 5 c (aQ k9)<|I 6 c (aQ k9)<|I 7 c (aQ k9)<|I 8 c (aQ k9)<|I 9 c (aQ k9)<|I 10 c (aQ k9)<|I 11 c (aQ k9)<|I 12 c (aQ k9)<|I 13 c (aQ k9)<|I 14 c (aQ k9)<|I 15 c (aQ k9)<|U 16 c (ao c k9 c)<|aS (by kernel_rfl)<|ev_no c c<|bh<|ap<|J c<|p (bp c c)<|O c<|cF (IntKind.i64.wrap (s1 + 1)) H10 (.cons c<|.cons c<|.cons c<|.cons c<|.cons c<|.nil _) .slnil) fun k4 H5=>bh<|end_i (res_0 c) ⟨(),c,H5⟩
def kB (a0:Sl) (a1:Int) (a2:Value) (Rec9:Int→Hp→Prop) (s8:Int) (Rec14:(Int × Int)→Hp→Prop) (s13:Int × Int):Hp→Prop:=br (decide (s13.2 ≤ a1)) ( cl Tryz.prog jR [(sv a0),(.int .i64 s13.1),(.int .i64 (IntKind.i64.wrap (s13.1 + s8))),(.int .i64 s13.2),a2] R_ fun (_:Unit)=>Rec14 (s13.2,(IntKind.i64.wrap (s13.2 + (IntKind.i64.wrap (2 * s8)))))) ( br (decide ((IntKind.i64.wrap (s13.1 + s8)) < a1)) ( cl Tryz.prog jR [(sv a0),(.int .i64 s13.1),(.int .i64 (IntKind.i64.wrap (s13.1 + s8))),(.int .i64 a1),a2] R_ fun (_:Unit)=>Rec9 (IntKind.i64.wrap (s8 * 2))) ( Rec9 (IntKind.i64.wrap (s8 * 2))))
def de (a0:Sl) (a1:Int) (a2:Value) (K:Unit→Hp→Prop) (Rec9:Int→Hp→Prop) (s8:Int):Hp→Prop:=br (decide (s8 < a1)) ( Lp (kB a0 a1 a2 Rec9 s8) (0,(IntKind.i64.wrap (2 * s8)))) ( K ())
def eS (a0:Sl) (a1:Int) (a2:Value) (K:Unit→Hp→Prop) (Rec2:(Int × Int)→Hp→Prop) (s1:Int × Int):Hp→Prop:=br (decide (s1.2 ≤ a1)) ( cl Tryz.prog bQ [(sv a0),(.int .i64 s1.1),(.int .i64 s1.2),a2] R_ fun (_:Unit)=>Rec2 (s1.2,(IntKind.i64.wrap (s1.2 + 20)))) ( cl Tryz.prog bQ [(sv a0),(.int .i64 s1.1),(.int .i64 a1),a2] R_ fun (_:Unit)=>Lp (de a0 a1 a2 K) 20)
def kC (a0:Sl) (a1:Int) (a2:Value) (K:Unit→Hp→Prop):Hp→Prop:=Lp (eS a0 a1 a2 K) (0,20)
theorem qD (a0:Sl) (a1:Int) (a2:Value) {K:Unit→Hp→Prop} {h:Hp} (H:kC a0 a1 a2 K h):Ct Tryz.prog kT #[(sv a0),(.int .i64 a1),a2] h fun v h'=>∃ r,v = R_ r∧K r h':=au [(sv a0),(.int .i64 a1),a2] Tryz.func143 c c c fun _=>M<|O c<|M<|J c<|p (aq c)<|O c<|aj<|av<|bA (step:=eS a0 a1 a2 K) (fun s1=>[(0,(sv a0)),(1,(.int .i64 a1)),(2,a2),(6,(.int .i64 20)),(7,(.int .i64 s1.1)),(8,(.int .i64 s1.2))]) (fun s1=>[]) H (.cons c<|.cons c<|.cons c<|.cons c<|.cons c<|.cons c<|.nil _) .slnil fun Rec2 s1 _ H3=>aj<|M<|J c<|J c<|p (v_le c c)<|ac<|ar c H3 (fun k4 H5=>am<|av<|M<|J c<|J c<|J c<|J c<|aa<|Z H5 en_184 fun r18 _ H6=>ac<|M<|J c<|O c<|ap<|J c<|J c<|p (bp c c)<|O c<|cF (s1.2,(IntKind.i64.wrap (s1.2 + 20))) H6 (.cons c<|.cons c<|.cons c<|.cons c<|.cons c<|.cons c<|.nil _) .slnil) fun k4 H5=>bh<|M<|J c<|J c<|J c<|J c<|aa<|Z H5 en_184 fun r27 _ H7=>ac<|av<|bA (step:=de a0 a1 a2 K) (fun s8=>[(0,(sv a0)),(1,(.int .i64 a1)),(2,a2),(6,(.int .i64 s8))]) (fun s8=>[]) H7 (.cons c<|.cons c<|.cons c<|.cons c<|.nil _) .slnil fun Rec9 s8 _ H10=>aj<|M<|J c<|J c<|p (cm c c)<|ac<|ar c H10 (fun k11 H12=>am<|av<|M<|J c<|p (v_mul c c)<|p (aq c)<|O c<|aj<|av<|bA (step:=kB a0 a1 a2 Rec9 s8) (fun s13=>[(0,(sv a0)),(1,(.int .i64 a1)),(2,a2),(6,(.int .i64 s8)),(7,(.int .i64 s13.1)),(8,(.int .i64 s13.2))]) (fun s13=>[]) H12 (.cons c<|.cons c<|.cons c<|.cons c<|.cons c<|.cons c<|.nil _) .slnil fun Rec14 s13 _ H15=>aj<|M<|J c<|J c<|p (v_le c c)<|ac<|ar c H15 (fun k16 H17=>am<|av<|M<|J c<|J c<|J c<|J c<|p (bp c c)<|J c<|J c<|aa<|Z H17 en_185 fun r43 _ H18=>ac<|M<|J c<|O c<|ap<|J c<|J c<|p (v_mul c c)<|p (bp c c)<|O c<|cF (s13.2,(IntKind.i64.wrap (s13.2 + (IntKind.i64.wrap (2 * s8))))) H18 (.cons c<|.cons c<|.cons c<|.cons c<|.cons c<|.cons c<|.nil _) .slnil) fun k16 H17=>bh<|aj<|M<|J c<|J c<|p (bp c c)<|O c<|M<|J c<|J c<|p (cm c c)<|ac<|ar c H17 (fun k19 H20=>ap<|J c<|J c<|J c<|J c<|J c<|aa<|Z H20 en_185 fun r60 _ H21=>ac<|ap<|J c<|p (v_mul c c)<|O c<|cF (IntKind.i64.wrap (s8 * 2)) H21 (.cons c<|.cons c<|.cons c<|.cons c<|.nil _) .slnil) fun k19 H20=>am<|ap<|J c<|p (v_mul c c)<|O c<|cF (IntKind.i64.wrap (s8 * 2)) H20 (.cons c<|.cons c<|.cons c<|.cons c<|.nil _) .slnil) fun k11 H12=>bh<|end_i (res_0 c) ⟨(),c,H12⟩
def iq (a0:Sl) (a1:Value) (K:Unit→Hp→Prop):Hp→Prop:=cl Tryz.prog kT [(sv a0),(.int .i64 (a0.len:Int)),a1] R_ fun (_:Unit)=>K ()
theorem nG (a0:Sl) (a1:Value) {K:Unit→Hp→Prop} {h:Hp} (H:iq a0 a1 K h):Ct Tryz.prog fq #[(sv a0),a1] h fun v h'=>∃ r,v = R_ r∧K r h':=au [(sv a0),a1] Tryz.func87 c c c fun _=>ap<|J c<|J c<|p (dz c Tryz.underlying40 c)<|J c<|aa<|Z H en_143 fun r8 _ H1=>ac<|end_i (res_0 c) ⟨(),c,H1⟩
def jv (a0:Sl) (K:Sl→Hp→Prop):Hp→Prop:=br a0.a.isNone ( K (⟨none,0,0,none⟩:Sl)) ( hpv Tryz.prog (Instr.buildSlice bb 0 #[]) bW fun (v5:Sl)=>hpv Tryz.prog (Builtin.append_ #[bb,bb] bb #[(sv v5),(sv a0)]) bW fun (v7:Sl)=>K v7)
theorem pq (a0:Sl) {K:Sl→Hp→Prop} {h:Hp} (H:jv a0 K h):Ct Tryz.prog gf #[(sv a0)] h fun v h'=>∃ r,v = bW r∧K r h':=au [(sv a0)] Tryz.func216 c c c fun _=>M<|O c<|aj<|M<|J c<|p (v_seqT Tryz.underlying158 c)<|ac<|ar c H (fun k1 H2=>M<|O c<|ah<|Y ⟨(⟨none,0,0,none⟩:Sl),c,H2⟩) fun k1 H2=>am<|M<|aa<|aO H2 (bm (vs:=[]) c) c fun v5 _ H3=>J c<|aa<|aO H3 (dA c c) c fun v7 _ H4=>O c<|ah<|Y ⟨v7,c,H4⟩
end Go.Proofs.YtmggcfijlpldpaaGreatDoor
namespace Go.Proofs.YtmggcfijlpldpaaGreatDoor
open Go Mb
abbrev vI (s:Sl) (xs:List Int):As:=vec kA 1 (cI .i64) s xs
def fG (a:Int):List Int→Int→Int
  | [],_=>-1
  | x::xs,i=>if a = x then i else fG a xs (i + 1)
theorem sp_slices_Index (s:Sl) (a:Int) (xs:List Int) (hb:xs.length < 2^62) :
    Sp Tryz.prog jG [sv s,.int .i64 a] dW [vI s xs] (fun r=>pa_ (r = fG a xs 0) [vI s xs]):=by
  intro h st
  refine uc _ _ ?_
  unfold na
  refine Lp.intro (fun (i:Int) h=>∃ n:Nat,i = n∧n ≤ xs.length∧fG a (xs.drop n) n = fG a xs 0∧aC [vI s xs] h) (fun (i:Int) _=>xs.length - i.toNat) ⟨0,rfl,Nat.zero_le _,by simp,st⟩ ?_
  rintro i h ⟨n,rfl,hn,he,st⟩
  have hl:=(cd st (j:=0) rfl).1
  unfold ja
  refine aV (fun k=>?_) (fun k=>?_)
  · have hlt:n < xs.length:=by simp [hl] at k; exact k
    refine dv st (j:=0) rfl (by omega) (by omega) fun q hq=>?_
    refine dZ (j:=0) (i:=n) (k:=0) xs[n] (cX _) st rfl hq (by simp) (aD hlt) (by simp) ?_
    have hd:xs.drop n = xs[n]::xs.drop (n + 1):=List.drop_eq_getElem_cons hlt
    rw [hd] at he
    refine aV (fun k2=>?_) (fun k2=>?_)
    · have k2':a = xs[n]:=by simpa using k2
      rw [fG,if_pos k2'] at he
      exact ⟨he,st⟩
    · have k2':¬ a = xs[n]:=by simpa using k2
      rw [fG,if_neg k2'] at he
      have hw:IntKind.i64.wrap ((n:Int) + 1) = ((n + 1:Nat):Int):=by rw [bO (by omega) (by omega)]; rfl
      rw [hw]
      exact ⟨⟨n + 1,rfl,hlt,by simpa using he,st⟩,by simp; omega⟩
  · have:n = xs.length:=by simp [hl] at k; omega
    subst this
    simp only [List.drop_length,fG] at he
    exact ⟨he,st⟩
def fC (x:Ptr) (p:List Int):As:=fun h=>∃ bs:Nat × Sl,(x = some (bs.1,0)∧p.length ≤ 16)∧aC [blk bs.1 pZ [sv bs.2],vI bs.2 p] h
namespace Pool
def refs (p:List Int) (i:Int):Int:=if i < 0 then 0 else p.getD i.toNat 0
def take (p:List Int):Int × Bool × List Int :=
  if fG 0 p 0 < 0 then (0,false,p) else (fG 0 p 0,true,p.set (fG 0 p 0).toNat 1)
def hold (p:List Int) (i:Int):Bool × List Int :=
  if refs p i = 0∨refs p i ≥ 7 then (false,p) else (true,p.set i.toNat (IntKind.i64.wrap (refs p i + 1)))
def lets (p:List Int) (i:Int):Int × Bool × List Int :=
  if refs p i = 0 then (0,false,p) else (IntKind.i64.wrap (refs p i - 1),true,p.set i.toNat (IntKind.i64.wrap (refs p i - 1)))
def freeFrom:List Int→Int→List Int
  | [],_=>[]
  | x::xs,i=>if x = 0 then i::freeFrom xs (i + 1) else freeFrom xs (i + 1)
def free (p:List Int):List Int:=freeFrom p 0
end Pool
theorem idx_lt (a:Int):∀ (xs:List Int) (i:Int),fG a xs i = -1∨∃ n:Nat,n < xs.length∧fG a xs i = i + n
  | [],_=>.inl rfl
  | x::xs,i=>by
    unfold fG
    split
    · exact .inr ⟨0,by simp,by simp⟩
    · rcases idx_lt a xs (i + 1) with h | ⟨n,h1,h2⟩
      · exact .inl h
      · exact .inr ⟨n + 1,by simp; omega,by rw [h2]; omega⟩
theorem pool_op {x:Ptr} {p:List Int} {l:List As} {h:Hp} (s0:aC (fC x p::l) h):∃ b s,x = some (b,0)∧p.length ≤ 16∧s.len = p.length∧aC (blk b pZ [sv s]::vI s p::l) h:=by
  obtain ⟨⟨b,s⟩,⟨hx,hb⟩,st⟩:=op_ s0
  exact ⟨b,s,hx,hb,(cd (j:=1) st rfl).1,st⟩
theorem rv {b:Nat} {s:Sl} {p:List Int} {l:List As} {h:Hp} (hb:p.length ≤ 16) (st:aC (blk b pZ [sv s]::vI s p::l) h):aC (fC (some (b,0)) p::l) h:=cl_ (b,s) ⟨rfl,hb⟩ st
theorem sp_pool_New (n:Int) (h1:¬ n < 1) (h2:¬ n > 16):Sp Tryz.prog wi [.int .i64 n] rJ [] (fun r=>aC [fC r (List.replicate n.toNat 0)]):=by
  intro h st
  refine sim_pool_New _ ?_
  unfold sh_pool_New
  obtain ⟨m,rfl⟩:=Int.eq_ofNat_of_zero_le (show 0 ≤ n by omega)
  refine df (by simp; omega) ?_
  refine nl (τ:=Int) (x0:=0) (enc:=cI .i64) (n:=m) (T:=kA) (m:=1) el_Sint rfl st ?_ ?_ ?_
  · omega
  · omega
  · intro v h' s1
    refine oG s1 fun b h'' s2=>?_
    exact rv (by simp; omega) s2
theorem vv (x:Ptr) (p:List Int) (i:Int):Sp Tryz.prog jg [pv x,.int .i64 i] dW [fC x p] (fun r=>pa_ (r = Pool.refs p i) [fC x p]):=by
  intro h s0
  obtain ⟨b,s,rfl,hb,hl,st⟩:=pool_op s0
  refine sim_pool_Pool_Refs _ _ ?_
  unfold th
  refine aV (fun k=>?_) (fun k=>?_)
  · have h0:0 ≤ i:=by simpa using k
    obtain ⟨n,rfl⟩:=Int.eq_ofNat_of_zero_le h0
    refine cx ?_
    refine bi s st (i:=0) rfl rfl rfl ?_
    refine aV (fun k2=>?_) (fun k2=>?_)
    · have:p.length ≤ n:=by rw [hl] at k2; simpa using k2
      exact aU (by simp [Pool.refs,this]) (rv hb st)
    · have hlt:n < p.length:=by rw [hl] at k2; simpa using k2
      refine bi s st (i:=0) rfl rfl rfl ?_
      refine dv st (j:=1) rfl (by omega) (by omega) fun q hq=>?_
      refine dZ (j:=1) (i:=n) (k:=0) p[n] (cX _) st rfl hq (by simp) (aD hlt) (by simp) ?_
      refine aU ?_ (rv hb st)
      have:¬ ((n:Int) < 0):=by omega
      simp [Pool.refs,hlt,this]
  · have h0:i < 0:=by simpa using k
    exact aU (by simp [Pool.refs,h0]) (rv hb st)
theorem vu (x:Ptr) (p:List Int):Sp Tryz.prog jf [pv x] bH [fC x p] (fun r=>pa_ (r = ((Pool.take p).1,(Pool.take p).2.1)) [fC x (Pool.take p).2.2]):=by
  intro h s0
  obtain ⟨b,s,rfl,hb,hl,st⟩:=pool_op s0
  refine sim_pool_Pool_Take _ ?_
  unfold tg
  refine df rfl (cx ?_)
  refine bi s st (i:=0) rfl rfl rfl ?_
  refine cJ [1] (sp_slices_Index s 0 p (by omega)) st rfl fun r h' s1=>?_
  obtain ⟨hr,s2⟩:=bn.1 s1
  subst hr
  refine aV (fun k=>?_) (fun k=>?_)
  · have k':fG 0 p 0 < 0:=by simpa using k
    have e:Pool.take p = (0,false,p):=if_pos k'
    rw [e]
    exact aU rfl (rv hb (ba [1] s2 rfl))
  · have k':¬ fG 0 p 0 < 0:=by simpa using k
    have e0:Pool.take p = (fG 0 p 0,true,p.set (fG 0 p 0).toNat 1):=if_neg k'
    rw [e0]
    rcases idx_lt 0 p 0 with e | ⟨n,h1,e⟩
    · omega
    · rw [Int.zero_add] at e
      refine bi s s2 (i:=1) rfl rfl rfl ?_
      rw [e]
      refine dv s2 (j:=0) rfl (by omega) (by omega) fun q hq=>?_
      refine st_v (j:=0) (i:=n) (k:=0) (1:Int) (cX _) s2 rfl hq (by simp) (aD h1) (by simp) rfl fun h2 s3=>?_
      exact aU rfl (rv (by simpa using hb) (ba [1] s3 rfl))
theorem refs_get {p:List Int} {i:Int} (h:Pool.refs p i ≠ 0):∃ n:Nat,i = n∧∃ hn:n < p.length,Pool.refs p i = p[n]:=by
  unfold Pool.refs at h ⊢
  by_cases h0:i < 0
  · rw [if_pos h0] at h; exact absurd rfl h
  · rw [if_neg h0] at h ⊢
    obtain ⟨n,rfl⟩:=Int.eq_ofNat_of_zero_le (show 0 ≤ i by omega)
    refine ⟨n,rfl,?_⟩
    by_cases hn:n < p.length
    · exact ⟨hn,by simp [hn]⟩
    · simp [List.getD_eq_getElem?_getD,List.getElem?_eq_none (Nat.le_of_not_lt hn)] at h
theorem sp_pool_Hold (x:Ptr) (p:List Int) (i:Int):Sp Tryz.prog lA [pv x,.int .i64 i] ay [fC x p] (fun r=>pa_ (r = (Pool.hold p i).1) [fC x (Pool.hold p i).2]):=by
  intro h s0
  refine sim_pool_Pool_Hold _ _ ?_
  unfold ti
  refine cJ [0] (vv x p i) s0 rfl fun r h' s1=>?_
  obtain ⟨hr,s2⟩:=bn.1 s1
  subst hr
  refine aV (fun k=>?_) (fun k=>?_)
  · have k':Pool.refs p i = 0∨Pool.refs p i ≥ 7:=by simpa using k
    have e:Pool.hold p i = (false,p):=if_pos k'
    rw [e]
    exact aU rfl s2
  · have k':¬ (Pool.refs p i = 0∨Pool.refs p i ≥ 7):=by simpa using k
    have e:Pool.hold p i = (true,p.set i.toNat (IntKind.i64.wrap (Pool.refs p i + 1))):=if_neg k'
    rw [e]
    obtain ⟨n,rfl,hn,hg⟩:=refs_get (p:=p) (i:=i) (by omega)
    obtain ⟨b,s,rfl,hb,hl,st⟩:=pool_op s2
    refine cx ?_
    refine bi s st (i:=0) rfl rfl rfl ?_
    refine dv st (j:=1) rfl (by omega) (by omega) fun q hq=>?_
    refine dZ (j:=1) (i:=n) (k:=0) p[n] (cX _) st rfl hq (by simp) (aD hn) (by simp) ?_
    refine st_v (j:=1) (i:=n) (k:=0) (IntKind.i64.wrap (p[n] + 1)) (cX _) st rfl hq (by simp) (aD hn) (by simp) rfl fun h2 s3=>?_
    rw [hg]
    exact aU rfl (rv (by simpa using hb) s3)
theorem sp_pool_Let (x:Ptr) (p:List Int) (i:Int):Sp Tryz.prog mz [pv x,.int .i64 i] bH [fC x p] (fun r=>pa_ (r = ((Pool.lets p i).1,(Pool.lets p i).2.1)) [fC x (Pool.lets p i).2.2]):=by
  intro h s0
  refine sim_pool_Pool_Let _ _ ?_
  unfold uE
  refine cJ [0] (vv x p i) s0 rfl fun r h' s1=>?_
  obtain ⟨hr,s2⟩:=bn.1 s1
  subst hr
  refine aV (fun k=>?_) (fun k=>?_)
  · have k':Pool.refs p i = 0:=by simpa using k
    have e:Pool.lets p i = (0,false,p):=if_pos k'
    rw [e]
    exact aU rfl s2
  · have k':¬ (Pool.refs p i = 0):=by simpa using k
    have e:Pool.lets p i = (IntKind.i64.wrap (Pool.refs p i - 1),true,p.set i.toNat (IntKind.i64.wrap (Pool.refs p i - 1))):=if_neg k'
    rw [e]
    obtain ⟨n,rfl,hn,hg⟩:=refs_get (p:=p) (i:=i) k'
    obtain ⟨b,s,rfl,hb,hl,st⟩:=pool_op s2
    refine cx ?_
    refine bi s st (i:=0) rfl rfl rfl ?_
    refine dv st (j:=1) rfl (by omega) (by omega) fun q hq=>?_
    refine dZ (j:=1) (i:=n) (k:=0) p[n] (cX _) st rfl hq (by simp) (aD hn) (by simp) ?_
    refine st_v (j:=1) (i:=n) (k:=0) (IntKind.i64.wrap (p[n] - 1)) (cX _) st rfl hq (by simp) (aD hn) (by simp) rfl fun h2 s3=>?_
    refine bi s s3 (i:=0) rfl rfl rfl ?_
    refine dv s3 (j:=1) rfl (by omega) (by simp; omega) fun q2 hq2=>?_
    refine dZ (j:=1) (i:=n) (k:=0) (IntKind.i64.wrap (p[n] - 1)) (cX _) s3 rfl hq2 (by simp) (x:=IntKind.i64.wrap (p[n] - 1)) (by simp [hn]) (by simp) ?_
    rw [hg]
    exact aU rfl (rv (by simpa using hb) s3)
theorem free_append:∀ (xs:List Int) (i:Int) (x:Int),Pool.freeFrom (xs++[x]) i = Pool.freeFrom xs i++(if x = 0 then [i + xs.length] else [])
  | [],i,x=>by simp only [List.nil_append,Pool.freeFrom]; split <;> simp
  | y::xs,i,x=>by
    simp only [List.cons_append,Pool.freeFrom]
    rw [free_append xs (i + 1) x]
    have e:i + 1 + (xs.length:Int) = i + ((y::xs).length:Int):=by simp; omega
    rw [e]
    split <;> simp
theorem free_len:∀ (xs:List Int) (i:Int),(Pool.freeFrom xs i).length ≤ xs.length
  | [],_=>Nat.le_refl _
  | x::xs,i=>by unfold Pool.freeFrom; have:=free_len xs (i + 1); split <;> simp <;> omega
theorem vi {l:List As} {h:Hp} {i:Nat} {s:Sl} {xs:List Int} {x:Int} {K:Sl→Hp→Prop} (st:aC l h) (hi:l[i]? = some (vI s xs)) (hb:xs.length < 2 ^ 40)
    (k:∀ v h',aC (l.set i (vI v (xs++[x]))) h'→K v h'):hpv Tryz.prog (Instr.buildSlice dB 1 #[(0,.int .i64 x)]) cr (fun y=>hpv Tryz.prog (Builtin.append_ #[dB,dB] dB #[sv s,sv y]) cr K) h:=by
  refine eF (τ:=Int) [x] (val:=fun x=>.int .i64 x) (enc:=cI .i64) el_Sint (cX _) (fun _=>rfl) st rfl rfl (by simp) fun y h' s1=>?_
  have hlt:=(List.getElem?_eq_some_iff.1 hi).1
  refine sV (τ:=Int) (i:=i + 1) (j:=0) (enc:=cI .i64) (ys:=[x]) el_Sint el_Sint.sl (cX _) (oneI _) s1 (by simpa using hi) rfl (by omega) (by simp; omega) (by simp; omega) fun v h2 s2=>?_
  exact k v h2 (bU (l:=[vI y [x]]) (by simpa using s2))
theorem sp_pool_Free (x:Ptr) (p:List Int):Sp Tryz.prog lB [pv x] cr [fC x p] (fun r=>aC [vI r (Pool.free p),fC x p]):=by
  intro h s0
  obtain ⟨b,s,rfl,hb,hl,st⟩:=pool_op s0
  refine sim_pool_Pool_Free _ ?_
  unfold tj
  refine df rfl (cx ?_)
  refine bi s st (i:=0) rfl rfl rfl ?_
  refine Lp.intro (fun (z:Sl × Int) h=>∃ n:Nat,z.2 = n∧n ≤ p.length∧aC [vI z.1 (Pool.freeFrom (p.take n) 0),blk b pZ [sv s],vI s p] h) (fun (z:Sl × Int) _=>p.length - z.2.toNat) ⟨0,rfl,Nat.zero_le _,fu st⟩ ?_
  rintro ⟨z,i⟩ h ⟨n,rfl,hn,s1⟩
  unfold nX
  refine aV (fun k=>?_) (fun k=>?_)
  · have hlt:n < p.length:=by rw [hl] at k; simpa using k
    have hw:IntKind.i64.wrap ((n:Int) + 1) = ((n + 1:Nat):Int):=by rw [bO (by omega) (by omega)]; rfl
    have ht:p.take (n + 1) = p.take n++[p[n]]:=by simp
    have hlen:((p.take n).length:Int) = n:=by simp; omega
    refine dv s1 (j:=2) rfl (by omega) (by show (n:Int) < _; omega) fun q hq=>?_
    refine dZ (j:=2) (i:=n) (k:=0) p[n] (cX _) s1 rfl hq (by simp) (aD hlt) (by simp) ?_
    refine aV (fun k2=>?_) (fun k2=>?_)
    · have k2':p[n] = 0:=by simpa using k2
      refine vi s1 (i:=0) rfl ?_ fun v h' s2=>?_
      · have:=free_len (p.take n) 0; simp at this ⊢; omega
      · rw [hw]
        refine ⟨⟨n + 1,rfl,hlt,?_⟩,by simp; omega⟩
        rw [ht,free_append,if_pos k2',hlen,Int.zero_add]
        exact s2
    · have k2':¬ p[n] = 0:=by simpa using k2
      rw [hw]
      refine ⟨⟨n + 1,rfl,hlt,?_⟩,by simp; omega⟩
      rw [ht,free_append,if_neg k2',List.append_nil]
      exact s1
  · have:n = p.length:=by rw [hl] at k; simp at k; omega
    subst this
    rw [List.take_length] at s1
    exact jY (.cons _ (.refl _)) (ba (l:=[vI z (Pool.freeFrom p 0),fC (some (b,0)) p]) [0] (by
      have:=ba [1,1] s1 rfl
      exact ba [1] (rv hb this) rfl) rfl)
def Pool.bitsOf (w:Int):List Int→Int
  | []=>w
  | i::l=>Pool.bitsOf (ior .u64 w (IntKind.u64.wrap (1 * 2 ^ (min (Int.toNat i) (IntKind.bits .u64))))) l
def Pool.bits (p:List Int):Int:=Pool.bitsOf 0 (Pool.free p)
theorem free_ge:∀ (xs:List Int) (i:Int),0 ≤ i→∀ j ∈ Pool.freeFrom xs i,0 ≤ j
  | [],_,_,_,h=>by cases h
  | x::xs,i,hi,j,h=>by
    unfold Pool.freeFrom at h
    split at h
    · rcases List.mem_cons.1 h with rfl | h
      · exact hi
      · exact free_ge xs (i + 1) (by omega) j h
    · exact free_ge xs (i + 1) (by omega) j h
theorem bits_append (a:Int):∀ (l:List Int) (w:Int),Pool.bitsOf w (l++[a]) = ior .u64 (Pool.bitsOf w l) (IntKind.u64.wrap (1 * 2 ^ (min (Int.toNat a) (IntKind.bits .u64))))
  | [],_=>rfl
  | _::l,w=>by simp only [List.cons_append,Pool.bitsOf]; exact bits_append a l _
theorem sp_pool_Bits (x:Ptr) (p:List Int):Sp Tryz.prog px [pv x] gw [fC x p] (fun r=>pa_ (r = Pool.bits p) [fC x p]):=by
  intro h s0
  have hp16:p.length ≤ 16:=by obtain ⟨_,_,_,hb,_⟩:=pool_op s0; exact hb
  refine sim_pool_Pool_Bits _ ?_
  unfold tk
  refine cJ [0] (sp_pool_Free x p) s0 rfl fun r h1 s1=>?_
  have s2:=dw s1
  have hl:=(cd (j:=0) s2 rfl).1
  have hfl:=free_len p 0
  refine Lp.intro (fun (z:Int × Int) h=>∃ n:Nat,z.2 = n∧n ≤ (Pool.free p).length∧z.1 = Pool.bitsOf 0 ((Pool.free p).take n)∧aC [vI r (Pool.free p),fC x p] h) (fun (z:Int × Int) _=>(Pool.free p).length - z.2.toNat) ⟨0,rfl,Nat.zero_le _,rfl,s2⟩ ?_
  rintro ⟨w,i⟩ h ⟨n,rfl,hn,rfl,s3⟩
  unfold nY
  refine aV (fun k=>?_) (fun k=>?_)
  · have hlt:n < (Pool.free p).length:=by rw [hl] at k; simpa using k
    have hw:IntKind.i64.wrap ((n:Int) + 1) = ((n + 1:Nat):Int):=by
      have:(Pool.free p).length ≤ 16:=by unfold Pool.free; omega
      rw [bO (by omega) (by omega)]; rfl
    refine dv s3 (j:=0) rfl (by omega) (by show (n:Int) < _; omega) fun q hq=>?_
    refine dZ (j:=0) (i:=n) (k:=0) (Pool.free p)[n] (cX _) s3 rfl hq (by simp) (aD hlt) (by simp) ?_
    refine ⟨free_ge p 0 (Int.le_refl _) _ (List.getElem_mem hlt),?_⟩
    rw [hw]
    refine ⟨⟨n + 1,rfl,hlt,?_,s3⟩,by simp; omega⟩
    have ht:(Pool.free p).take (n + 1) = (Pool.free p).take n++[(Pool.free p)[n]]:=by simp
    rw [ht,bits_append]
  · have:n = (Pool.free p).length:=by rw [hl] at k; simp at k; omega
    subst this
    refine aU ?_ (bU (l:=[vI r (Pool.free p)]) s3)
    rw [List.take_length]; rfl
end Go.Proofs.YtmggcfijlpldpaaGreatDoor
namespace Go.Proofs.YtmggcfijlpldpaaGreatDoor
open Go Mb
set_option linter.unusedVariables false
def sh_table_New (K:Ptr→Hp→Prop):Hp→Prop:=hpv Tryz.prog (Instr.build jX #[]) encL fun (v1:(List Value))=>nw jX v1 fun b2=>K (some (b2,0))
theorem sim_table_New {K:Ptr→Hp→Prop} {h:Hp} (H:sh_table_New K h):Ct Tryz.prog kS #[] h fun v h'=>∃ r,v = hU r∧K r h':=au [] Tryz.func96 c c c fun _=>M<|O c<|M<|aa<|aO H (x_build (vs:=[]) c) c fun v1 _ H1=>aa<|gP c c c H1 fun b2 _ H2=>O c<|ah<|Y ⟨some (b2,0),c,H2⟩
def ip (a0:Ptr) (a1:Int) (K:(ak × Bool)→Hp→Prop) (s1:Bool):Hp→Prop:=br s1 ( K ((⟨0,0,0⟩:ak),false)) ( nn a0 fun q26=>gd (0 ≤ a1∧a1 < 8)<|ld (q26.1,q26.2 + 0 + Int.toNat a1 * 3) ak.C fun x29=>K (x29,true))
def tf (a0:Ptr) (a1:Int) (K:(ak × Bool)→Hp→Prop):Hp→Prop:=br (!(a0.isNone || (!(ct a1)))) ( nn a0 fun q16=>gd (0 ≤ a1∧a1 < 8)<|ld (q16.1,q16.2 + 0 + Int.toNat a1 * 3 + 2) (cI .i64) fun x20=>ip a0 a1 K (x20 == 0)) ( ip a0 a1 K true)
theorem sim_table_Table_At (a0:Ptr) (a1:Int) {K:(ak × Bool)→Hp→Prop} {h:Hp} (H:tf a0 a1 K h):Ct Tryz.prog eL #[(pv a0),(.int .i64 a1)] h fun v h'=>∃ r,v = cq r∧K r h':=au [(pv a0),(.int .i64 a1)] Tryz.func153 c c c fun _=>M<|aa<|aK (l:=ak.C (⟨0,0,0⟩:ak)) eA c c fun b4=>O c<|aj<|ee (ip a0 a1 K) (fun s1=>[(0,(pv a0)),(1,(.int .i64 a1)),(4,(.pointer (some ⟨b4,0,none⟩))),(22,(.bool s1))]) (fun s1=>[bx b4 121 (ak.C (⟨0,0,0⟩:ak))]) (ap<|J c<|p (cg Tryz.underlying153 c)<|J c<|V c c (aG _) (fun g10=>wv<|ag c)<|cR (vs:=[(.int .i64 a1)]) c c c (aG _) (fun g11=>bq<|tU a1 _) en_150 (fun g11=>aP (az c g11) bL) c<|V c c (aG _) (fun g12=>wv<|cf<|az c g12)<|p (cZ c c)<|J c<|V c c (aG _) (fun g13=>wv<|ag c)<|V c c (aG _) (fun g14=>wv<|ag c)<|bP H (fun k16 H17=>bC H17 fun q16 e18 H19=>F (D<|bY k16)<|R (aI<|aL (az c k16)<|an e18)<|F (D<|bY k16)<|R (ad ka c)<|iP H19 fun h20 H21=>F (D<|bY k16)<|R (bu rI c (az c k16) h20)<|F (D<|bY k16)<|R (ad dG c)<|F (D<|bY k16)<|aT H21 aY c (fun _=>c) c fun x20 H22=>F (D<|bY k16)<|R (bM c c)<|p (ao c (bY k16) c)<|ac<|cC (x20 == 0) H22 (.cons c<|.cons c<|.cons c<|.cons c<|.nil _)<|.cons_cons _ .slnil) fun k16 H17=>W (bV<|bE k16)<|W (bV<|bE k16)<|W (bV<|bE k16)<|W (bV<|bE k16)<|W (bV<|bE k16)<|W (bV<|bE k16)<|p (aR c (bE k16) c)<|ac<|cC true H17 (.cons c<|.cons c<|.cons c<|.cons c<|.nil _)<|.cons_cons _ .slnil) fun s1 _ H2=>ar c H2 (fun k3 H4=>M<|p (aW (vs:=[]) c ke)<|aa<|aN (k:=0) (vs:=ak.C (⟨0,0,0⟩:ak)) cT c c c c c c c<|O c<|ah<|bt (bJ c (bz (k:=0) c dE c c)<|bT c) ⟨((⟨0,0,0⟩:ak),false),c,H4⟩) fun k3 H4=>am<|M<|J c<|J c<|bC H4 fun q26 e5 H6=>p (aI<|aL c<|an e5)<|p (ad ka c)<|iP H6 fun h7 H8=>p (bu rI c c h7)<|aa<|gx H8 dE c (fun _=>c) c fun x29 H9=>aa<|aN (k:=0) (vs:=ak.C x29) cT c c c c c c c<|O c<|ah<|bt (bJ c (bz (k:=0) c dE c c)<|bT c) ⟨(x29,true),c,H9⟩
def oJ (a0:Ptr) (a1:Int) (a2:ak) (K:Int→Hp→Prop):Hp→Prop:=br a0.isNone ( K 10) ( br (((!(ge a2).2) || (a2.fRights == 0)) || (!(ct a1))) ( K 2) ( nn a0 fun q30=>gd (0 ≤ a1∧a1 < 8)<|ld (q30.1,q30.2 + 0 + Int.toNat a1 * 3 + 2) (cI .i64) fun x34=>br (x34 != 0) ( K 4) ( st (q30.1,q30.2 + 0 + Int.toNat a1 * 3) (ak.C a2)<|K 0)))
theorem vB (a0:Ptr) (a1:Int) (a2:ak) {K:Int→Hp→Prop} {h:Hp} (H:oJ a0 a1 a2 K h):Ct Tryz.prog dQ #[(pv a0),(.int .i64 a1),(.agg (ak.C a2).toArray)] h fun v h'=>∃ r,v = bf r∧K r h':=au [(pv a0),(.int .i64 a1),(.agg (ak.C a2).toArray)] Tryz.func100 c c c fun _=>M<|aa<|cD (l:=ak.C a2) c c c fun b5=>O c<|aj<|M<|J c<|p (cg Tryz.underlying153 c)<|ac<|ar c H (fun k1 H2=>M<|O c<|ah<|Y ⟨10,c,H2⟩) fun k1 H2=>am<|aj<|M<|bg (bw (k:=0) dE c c c c) c<|aa<|cA (vs:=[(.agg (ak.C a2).toArray)]) (bq<|ct_pte_Put a2 _) en_149 c c<|J c<|p (ai c c)<|p (ai c c)<|p (aq c)<|O c<|M<|J c<|p (cf c)<|J c<|V c c (aG _) (fun g3=>wv<|ad dG c)<|V c c (aG _) (fun g4=>cv<|bc (k:=0) aY (az c g4) c c)<|V c c (aG _) (fun g5=>wv<|bM (az c g5) c)<|p (cZ c c)<|J c<|V c c (aG _) (fun g6=>wv<|ag c)<|cR (vs:=[(.int .i64 a1)]) c c c (aG _) (fun g7=>bq<|tU a1 _) en_150 (fun g7=>aP (az c g7) bL) c<|V c c (aG _) (fun g8=>wv<|cf<|az c g8)<|p (cZ c c)<|ac<|ar c H2 (fun k9 H10=>M<|O c<|ah<|Y ⟨2,c,H10⟩) fun k9 H10=>am<|aj<|M<|J c<|J c<|bC H10 fun q30 e11 H12=>p (aI<|aL c<|an e11)<|p (ad ka c)<|iP H12 fun h13 H14=>p (bu rI c c h13)<|p (ad dG c)<|aa<|aT H14 aY c (fun _=>c) c fun x34 H15=>p (nF c c)<|ac<|ar c H15 (fun k16 H17=>M<|O c<|ah<|Y ⟨4,c,H17⟩) fun k16 H17=>am<|aj<|bj (n:=7) [bx b5 121 (ak.C a2)] ch c (.cons_cons _ .slnil)<|U 0 c (ag<|aL c<|an e11)<|U 1 c (ag c)<|z_E 2 c (dX (k:=0) dE c c c c)<|U 3 c (aI c)<|U 4 c (ad ka c)<|U 5 c (bu rI c c h13)<|G 6 c<|dp cT c c c c c H17 fun _ H18=>⟨.cons_cons _ .slnil,aS (by kernel_rfl)<|M<|O c<|ah<|Y ⟨0,c,H18⟩⟩
def oI (a0:Ptr) (a1:Int) (K:(ak × Int)→Hp→Prop):Hp→Prop:=br a0.isNone ( K ((⟨0,0,0⟩:ak),10)) ( br (!(ct a1)) ( K ((⟨0,0,0⟩:ak),2)) ( nn a0 fun q19=>gd (0 ≤ a1∧a1 < 8)<|ld (q19.1,q19.2 + 0 + Int.toNat a1 * 3 + 2) (cI .i64) fun x23=>br (x23 == 0) ( K ((⟨0,0,0⟩:ak),3)) ( ld (q19.1,q19.2 + 0 + Int.toNat a1 * 3) ak.C fun x31=>st (q19.1,q19.2 + 0 + Int.toNat a1 * 3) (ak.C (⟨0,0,0⟩:ak))<|K (x31,0))))
theorem vz (a0:Ptr) (a1:Int) {K:(ak × Int)→Hp→Prop} {h:Hp} (H:oI a0 a1 K h):Ct Tryz.prog iA #[(pv a0),(.int .i64 a1)] h fun v h'=>∃ r,v = iX r∧K r h':=au [(pv a0),(.int .i64 a1)] Tryz.func118 c c c fun _=>M<|aa<|aK (l:=ak.C (⟨0,0,0⟩:ak)) eA c c fun b4=>O c<|aj<|av<|M<|J c<|p (cg Tryz.underlying153 c)<|O c<|ar c H (fun k1 H2=>M<|p (aW (vs:=[]) c ke)<|aa<|aN (k:=0) (vs:=ak.C (⟨0,0,0⟩:ak)) cT c c c c c c c<|O c<|ah<|bt (bJ c (bz (k:=0) c dE c c)<|bT c) ⟨((⟨0,0,0⟩:ak),10),c,H2⟩) fun k1 H2=>M<|J c<|aa<|cA (vs:=[(.int .i64 a1)]) (bq<|tU a1 _) en_150 c c<|p (cf c)<|O c<|ar c H2 (fun k3 H4=>M<|p (aW (vs:=[]) c ke)<|aa<|aN (k:=0) (vs:=ak.C (⟨0,0,0⟩:ak)) cT c c c c c c c<|O c<|ah<|bt (bJ c (bz (k:=0) c dE c c)<|bT c) ⟨((⟨0,0,0⟩:ak),2),c,H4⟩) fun k3 H4=>M<|J c<|J c<|bC H4 fun q19 e5 H6=>p (aI<|aL c<|an e5)<|p (ad ka c)<|iP H6 fun h7 H8=>p (bu rI c c h7)<|p (ad dG c)<|aa<|aT H8 aY c (fun _=>c) c fun x23 H9=>p (bM c c)<|O c<|ar c H9 (fun k10 H11=>M<|p (aW (vs:=[]) c ke)<|aa<|aN (k:=0) (vs:=ak.C (⟨0,0,0⟩:ak)) cT c c c c c c c<|O c<|ah<|bt (bJ c (bz (k:=0) c dE c c)<|bT c) ⟨((⟨0,0,0⟩:ak),3),c,H11⟩) fun k10 H11=>am<|M<|J (aL c<|an e5)<|J c<|p (aI c)<|p (ad ka c)<|p (bu rI c c h7)<|aa<|gx H11 dE c (fun _=>c) c fun x31 H12=>aa<|aK (l:=ak.C (⟨0,0,0⟩:ak)) eA c c fun b6=>aa<|aN (k:=0) (vs:=ak.C x31) cT c c c c c c c<|ac<|M<|J (aL c<|an e5)<|J c<|p (aW (vs:=[]) c ke)<|p (aI c)<|p (ad ka c)<|p (bu rI c c h7)<|aa<|dp cT c c c c c H12 fun _ H13=>ac<|M<|bg (bw (k:=0) dE c c c c) c<|aa<|aN (k:=1) (vs:=ak.C x31) cT c c c c c c c<|O c<|ah<|bt (bJ c (bz (k:=1) c dE c c)<|bT c) ⟨(x31,0),c,H13⟩
def nI (a1:Int) (K:Sl→Hp→Prop) (v13:(List Value)) (Rec8:(Sl × Int)→Hp→Prop) (s7:Sl × Int):Hp→Prop:=br (decide (s7.2 < 8)) ( hpv Tryz.prog (Instr.index td (.agg v13.toArray) (.int .i64 s7.2)) vm fun (v17:ak)=>br ((v17.fRights != 0) && (v17.fSlot == a1)) ( hpv Tryz.prog (Instr.buildSlice dB 1 #[(0,(.int .i64 s7.2))]) cr fun (v29:Sl)=>hpv Tryz.prog (Builtin.append_ #[dB,dB] dB #[(sv s7.1),(sv v29)]) cr fun (v30:Sl)=>Rec8 (v30,(IntKind.i64.wrap (s7.2 + 1)))) ( Rec8 (s7.1,(IntKind.i64.wrap (s7.2 + 1))))) ( K s7.1)
def te (a0:Ptr) (a1:Int) (K:Sl→Hp→Prop):Hp→Prop:=br a0.isNone ( K (⟨none,0,0,none⟩:Sl)) ( nn a0 fun q11=>hpv Tryz.prog (Instr.loadAt td (.pointer (some ⟨q11.1,q11.2 + 0,none⟩))) encL fun (v13:(List Value))=>Lp (nI a1 K v13) ((⟨none,0,0,none⟩:Sl),0))
theorem sim_table_Table_By (a0:Ptr) (a1:Int) {K:Sl→Hp→Prop} {h:Hp} (H:te a0 a1 K h):Ct Tryz.prog lz #[(pv a0),(.int .i64 a1)] h fun v h'=>∃ r,v = cr r∧K r h':=au [(pv a0),(.int .i64 a1)] Tryz.func171 c c c fun _=>M<|O c<|aj<|M<|J c<|p (cg Tryz.underlying153 c)<|ac<|ar c H (fun k1 H2=>M<|O c<|ah<|Y ⟨(⟨none,0,0,none⟩:Sl),c,H2⟩) fun k1 H2=>am<|M<|O c<|aj<|M<|J c<|bC H2 fun q11 e3 H4=>p (aI<|aL c<|an e3)<|p (ad ka c)<|aa<|aO H4 (x_load c) c fun v13 _ H6=>J c<|ac<|av<|bA (step:=nI a1 K v13) (fun s7=>[(1,(.int .i64 a1)),(5,(sv s7.1)),(13,(.agg v13.toArray)),(14,(.int .i64 s7.2))]) (fun s7=>[]) H6 (.cons c<|.cons c<|.cons c<|.cons c<|.nil _) .slnil fun Rec8 s7 _ H9=>M<|p (cm c c)<|ac<|aj<|ar c H9 (fun k10 H11=>am<|aj<|av<|M<|J c<|aa<|aO H11 (x_index c c) c fun v17 _ H12=>aa<|aK (l:=ak.C (⟨0,0,0⟩:ak)) eA c c fun b7=>p (aq c)<|aa<|aN (k:=0) (vs:=ak.C v17) cT c c c c c c c<|ac<|M<|p (ad dG c)<|bg (bc (k:=0) aY c c c) c<|p (nF c c)<|J c<|V c c (aw _) (fun g13=>wv<|ad pH c)<|V c c (aw _) (fun g14=>cv<|bc (k:=0) aY (az c g14) c c)<|V c c (aw _) (fun g15=>wv<|ag c)<|V c c (aw _) (fun g16=>wv<|bM (az c g16)<|az c g16)<|p (bN c c)<|ac<|ar c H12 (fun k17 H18=>ap<|J c<|J c<|aa<|aO H18 (bm (vs:=[(.int .i64 s7.2)]) c) c fun v29 _ H19=>aa<|aO H19 (dA c c) c fun v30 _ H20=>O c<|ap<|p (bp c c)<|J c<|ac<|cF (v30,(IntKind.i64.wrap (s7.2 + 1))) H20 (.cons c<|.cons c<|.cons c<|.cons c<|.nil _)<|.cons _ .slnil) fun k17 H18=>am<|ap<|p (bp c c)<|J c<|ac<|cF (s7.1,(IntKind.i64.wrap (s7.2 + 1))) H18 (.cons c<|.cons c<|.cons c<|.cons c<|.nil _)<|.cons _ .slnil) fun k10 H11=>bh<|M<|J c<|O c<|ah<|Y ⟨s7.1,c,H11⟩
def nO (a0:Ptr) (a1:Int) (a2:Int) (K:Int→Hp→Prop):Hp→Prop:=br a0.isNone ( K 10) ( br ((!(ct a1)) || (!(cw a2))) ( K 2) ( nn a0 fun q22=>gd (0 ≤ a1∧a1 < 8)<|ld (q22.1,q22.2 + 0 + Int.toNat a1 * 3 + 2) (cI .i64) fun x26=>br (x26 == 0) ( K 3) ( st (q22.1,q22.2 + 0 + Int.toNat a1 * 3 + 2) [.int .i64 a2]<|K 0)))
theorem uu (a0:Ptr) (a1:Int) (a2:Int) {K:Int→Hp→Prop} {h:Hp} (H:nO a0 a1 a2 K h):Ct Tryz.prog kl #[(pv a0),(.int .i64 a1),(.int .i64 a2)] h fun v h'=>∃ r,v = bf r∧K r h':=au [(pv a0),(.int .i64 a1),(.int .i64 a2)] Tryz.func173 c c c fun _=>M<|O c<|aj<|av<|M<|J c<|p (cg Tryz.underlying153 c)<|O c<|ar c H (fun k1 H2=>M<|O c<|ah<|Y ⟨10,c,H2⟩) fun k1 H2=>M<|J c<|aa<|cA (vs:=[(.int .i64 a1)]) (bq<|tU a1 _) en_150 c c<|p (cf c)<|J c<|V c c (aG _) (fun g3=>wv<|ag c)<|cR (vs:=[(.int .i64 a2)]) c c c (aG _) (fun g4=>bq<|pJ a2 _) en_161 (fun g4=>aP (az c g4) bL) c<|V c c (aG _) (fun g5=>wv<|cf<|az c g5)<|p (cZ c c)<|O c<|ar c H2 (fun k6 H7=>M<|O c<|ah<|Y ⟨2,c,H7⟩) fun k6 H7=>M<|J c<|J c<|bC H7 fun q22 e8 H9=>p (aI<|aL c<|an e8)<|p (ad ka c)<|iP H9 fun h10 H11=>p (bu rI c c h10)<|p (ad dG c)<|aa<|aT H11 aY c (fun _=>c) c fun x26 H12=>p (bM c c)<|O c<|ar c H12 (fun k13 H14=>M<|O c<|ah<|Y ⟨3,c,H14⟩) fun k13 H14=>am<|M<|J (aL c<|an e8)<|J c<|J c<|p (aI c)<|p (ad ka c)<|p (bu rI c c h10)<|p (ad dG c)<|aa<|dp qq c c c c c H14 fun _ H15=>ac<|M<|O c<|ah<|Y ⟨0,c,H15⟩
end Go.Proofs.YtmggcfijlpldpaaGreatDoor
namespace Go.Proofs.YtmggcfijlpldpaaGreatDoor
open Go Mb
abbrev Pte:=ak
theorem iT (p:Pte):p.C.length = 3:=rfl
abbrev dV:Pte:=⟨0,0,0⟩
def cO (x:Ptr) (ps:List Pte):As:=fun h=>∃ b:Nat,(x = some (b,0)∧ps.length = 8)∧aC [blk b jX ([]++(ps.flatMap ak.C++[]))] h
theorem table_op {x:Ptr} {ps:List Pte} {l:List As} {h:Hp} (s0:aC (cO x ps::l) h):∃ b,x = some (b,0)∧ps.length = 8∧aC (blk b jX ([]++(ps.flatMap ak.C++[]))::l) h:=by
  obtain ⟨b,⟨hx,hb⟩,st⟩:=op_ s0
  exact ⟨b,hx,hb,st⟩
theorem io {b:Nat} {ps:List Pte} {l:List As} {h:Hp} (hb:ps.length = 8) (st:aC (blk b jX ([]++(ps.flatMap ak.C++[]))::l) h):aC (cO (some (b,0)) ps::l) h:=cl_ b ⟨rfl,hb⟩ st
namespace Table
def at_ (ps:List Pte) (i:Int):Pte:=ps.getD i.toNat dV
def get (ps:List Pte) (i:Int):Pte × Bool:=if ct i = true∧(at_ ps i).fRights ≠ 0 then (at_ ps i,true) else (dV,false)
def insert (ps:List Pte) (i:Int) (p:Pte):Int × List Pte :=
  if (ge p).2 = false∨p.fRights = 0∨ct i = false then (2,ps) else if (at_ ps i).fRights ≠ 0 then (4,ps) else (0,ps.set i.toNat p)
def protect (ps:List Pte) (i r:Int):Int × List Pte :=
  if ct i = false∨cw r = false then (2,ps) else if (at_ ps i).fRights = 0 then (3,ps) else (0,ps.set i.toNat { at_ ps i with fRights:=r })
def remove (ps:List Pte) (i:Int):(Pte × Int) × List Pte :=
  if ct i = false then ((dV,2),ps) else if (at_ ps i).fRights = 0 then ((dV,3),ps) else ((at_ ps i,0),ps.set i.toNat dV)
def byFrom (s:Int):List Pte→Int→List Int
  | [],_=>[]
  | p::ps,i=>if p.fRights ≠ 0∧p.fSlot = s then i::byFrom s ps (i + 1) else byFrom s ps (i + 1)
def by_ (ps:List Pte) (s:Int):List Int:=byFrom s ps 0
end Table
theorem table_is {i:Int} (h:ct i = true):∃ n:Nat,i = n∧n < 8:=by
  unfold ct at h
  simp at h
  exact ⟨i.toNat,by omega,by omega⟩
theorem table_new_run (K:Value→Hp→Prop) (h:Hp):hp Tryz.prog (Instr.build jX #[]) K h = K (.agg ((List.replicate 8 dV).flatMap ak.C).toArray) h:=by kernel_rfl
theorem nK:Sp Tryz.prog kS [] hU [] (fun r=>aC [cO r (List.replicate 8 dV)]):=by
  intro h st
  refine sim_table_New ?_
  unfold sh_table_New
  refine ⟨?_⟩
  rw [table_new_run]
  refine ⟨_,rfl,?_⟩
  refine oG st fun b h' s1=>?_
  exact io rfl s1
theorem jQ (x:Ptr) (ps:List Pte) (i:Int) (p:Pte):Sp Tryz.prog dQ [pv x,.int .i64 i,.agg p.C.toArray] bf [cO x ps] (fun r=>pa_ (r = (Table.insert ps i p).1) [cO x (Table.insert ps i p).2]):=by
  intro h s0
  obtain ⟨b,rfl,hb,st⟩:=table_op s0
  refine vB _ _ _ ?_
  unfold oJ
  refine df rfl ?_
  refine aV (fun k=>?_) (fun k=>?_)
  · have k':(ge p).2 = false∨p.fRights = 0∨ct i = false:=by simpa [or_assoc] using k
    have e:Table.insert ps i p = (2,ps):=if_pos k'
    rw [e]
    exact aU rfl (io hb st)
  · have k':¬ ((ge p).2 = false∨p.fRights = 0∨ct i = false):=by simp at k; simp [k]
    obtain ⟨n,rfl,hn⟩:=table_is (i:=i) (by simp at k'; exact k'.2.2)
    have hn':n < ps.length:=by omega
    have hat:Table.at_ ps n = ps[n]:=by simp [Table.at_,hn']
    refine cx ⟨⟨by omega,by omega⟩,?_⟩
    refine ld_a (j:=0) (i:=n) (k:=2) ps[n].fRights iT st rfl (by simp) (aD hn') (c1 rfl rfl) ?_
    refine aV (fun k2=>?_) (fun k2=>?_)
    · have k2':(Table.at_ ps n).fRights ≠ 0:=by rw [hat]; simpa using k2
      have e:Table.insert ps n p = (4,ps):=by unfold Table.insert; rw [if_neg k',if_pos k2']
      rw [e]
      exact aU rfl (io hb st)
    · have k2':¬ (Table.at_ ps n).fRights ≠ 0:=by rw [hat]; simpa using k2
      have e:Table.insert ps n p = (0,ps.set n p):=by unfold Table.insert; rw [if_neg k',if_neg k2']; rfl
      rw [e]
      refine st_a (j:=0) (i:=n) (k:=0) p iT st rfl (by simp) (aD hn') (by simp [iT]) rfl fun h2 s2=>?_
      exact aU rfl (io (by simpa using hb) s2)
theorem sp_table_Protect (x:Ptr) (ps:List Pte) (i r:Int):Sp Tryz.prog kl [pv x,.int .i64 i,.int .i64 r] bf [cO x ps] (fun v=>pa_ (v = (Table.protect ps i r).1) [cO x (Table.protect ps i r).2]):=by
  intro h s0
  obtain ⟨b,rfl,hb,st⟩:=table_op s0
  refine uu _ _ _ ?_
  unfold nO
  refine df rfl ?_
  refine aV (fun k=>?_) (fun k=>?_)
  · have k':ct i = false∨cw r = false:=by simpa using k
    have e:Table.protect ps i r = (2,ps):=if_pos k'
    rw [e]
    exact aU rfl (io hb st)
  · have k':¬ (ct i = false∨cw r = false):=by simp at k; simp [k]
    obtain ⟨n,rfl,hn⟩:=table_is (i:=i) (by simp at k'; exact k'.1)
    have hn':n < ps.length:=by omega
    have hat:Table.at_ ps n = ps[n]:=by simp [Table.at_,hn']
    refine cx ⟨⟨by omega,by omega⟩,?_⟩
    refine ld_a (j:=0) (i:=n) (k:=2) ps[n].fRights iT st rfl (by simp) (aD hn') (c1 rfl rfl) ?_
    refine aV (fun k2=>?_) (fun k2=>?_)
    · have k2':(Table.at_ ps n).fRights = 0:=by rw [hat]; simpa using k2
      have e:Table.protect ps n r = (3,ps):=by unfold Table.protect; rw [if_neg k',if_pos k2']
      rw [e]
      exact aU rfl (io hb st)
    · have k2':¬ (Table.at_ ps n).fRights = 0:=by rw [hat]; simpa using k2
      have e:Table.protect ps n r = (0,ps.set n { ps[n] with fRights:=r }):=by unfold Table.protect; rw [if_neg k',if_neg k2',hat]; rfl
      rw [e]
      refine st_a (j:=0) (i:=n) (k:=2) { ps[n] with fRights:=r } iT st rfl (by simp) (aD hn') (by simp) rfl fun h2 s2=>?_
      exact aU rfl (io (by simpa using hb) s2)
theorem sp_table_Remove (x:Ptr) (ps:List Pte) (i:Int):Sp Tryz.prog iA [pv x,.int .i64 i] iX [cO x ps] (fun v=>pa_ (v = (Table.remove ps i).1) [cO x (Table.remove ps i).2]):=by
  intro h s0
  obtain ⟨b,rfl,hb,st⟩:=table_op s0
  refine vz _ _ ?_
  unfold oI
  refine df rfl ?_
  refine aV (fun k=>?_) (fun k=>?_)
  · have k':ct i = false:=by simpa using k
    have e:Table.remove ps i = ((dV,2),ps):=if_pos k'
    rw [e]
    exact aU rfl (io hb st)
  · have k':¬ (ct i = false):=by simp at k; simp [k]
    obtain ⟨n,rfl,hn⟩:=table_is (i:=i) (by simp at k'; exact k')
    have hn':n < ps.length:=by omega
    have hat:Table.at_ ps n = ps[n]:=by simp [Table.at_,hn']
    refine cx ⟨⟨by omega,by omega⟩,?_⟩
    refine ld_a (j:=0) (i:=n) (k:=2) ps[n].fRights iT st rfl (by simp) (aD hn') (c1 rfl rfl) ?_
    refine aV (fun k2=>?_) (fun k2=>?_)
    · have k2':(Table.at_ ps n).fRights = 0:=by rw [hat]; simpa using k2
      have e:Table.remove ps n = ((dV,3),ps):=by unfold Table.remove; rw [if_neg k',if_pos k2']
      rw [e]
      exact aU rfl (io hb st)
    · have k2':¬ (Table.at_ ps n).fRights = 0:=by rw [hat]; simpa using k2
      have e:Table.remove ps n = ((ps[n],0),ps.set n dV):=by unfold Table.remove; rw [if_neg k',if_neg k2',hat]; rfl
      rw [e]
      refine ld_a (j:=0) (i:=n) (k:=0) ps[n] iT st rfl (by simp) (aD hn') (by simp) ?_
      refine st_a (j:=0) (i:=n) (k:=0) dV iT st rfl (by simp) (aD hn') (by simp [iT]) rfl fun h2 s2=>?_
      exact aU rfl (io (by simpa using hb) s2)
theorem mZ (x:Ptr) (ps:List Pte) (i:Int):Sp Tryz.prog eL [pv x,.int .i64 i] cq [cO x ps] (fun v=>pa_ (v = Table.get ps i) [cO x ps]):=by
  intro h s0
  obtain ⟨b,rfl,hb,st⟩:=table_op s0
  refine sim_table_Table_At _ _ ?_
  unfold tf
  refine aV (fun k=>?_) (fun k=>?_)
  · have k':ct i = true:=by simpa using k
    obtain ⟨n,rfl,hn⟩:=table_is k'
    have hn':n < ps.length:=by omega
    have hat:Table.at_ ps n = ps[n]:=by simp [Table.at_,hn']
    refine cx ⟨⟨by omega,by omega⟩,?_⟩
    refine ld_a (j:=0) (i:=n) (k:=2) ps[n].fRights iT st rfl (by simp) (aD hn') (c1 rfl rfl) ?_
    unfold ip
    refine aV (fun k2=>?_) (fun k2=>?_)
    · have k2':(Table.at_ ps n).fRights = 0:=by rw [hat]; simpa using k2
      have e:Table.get ps n = (dV,false):=if_neg (fun hh=>hh.2 k2')
      rw [e]
      exact aU rfl (io hb st)
    · have k2':¬ (Table.at_ ps n).fRights = 0:=by rw [hat]; simpa using k2
      have e:Table.get ps n = (ps[n],true):=by unfold Table.get; rw [if_pos ⟨k',k2'⟩,hat]
      rw [e]
      refine cx ⟨⟨by omega,by omega⟩,?_⟩
      refine ld_a (j:=0) (i:=n) (k:=0) ps[n] iT st rfl (by simp) (aD hn') (by simp) ?_
      exact aU rfl (io hb st)
  · have k':¬ ct i = true:=by simpa using k
    have e:Table.get ps i = (dV,false):=if_neg (fun hh=>k' hh.1)
    rw [e]
    unfold ip
    exact dL rfl (aU rfl (io hb st))
theorem by_append (s:Int):∀ (ps:List Pte) (i:Int) (p:Pte),Table.byFrom s (ps++[p]) i = Table.byFrom s ps i++(if p.fRights ≠ 0∧p.fSlot = s then [i + ps.length] else [])
  | [],i,p=>by simp only [List.nil_append,Table.byFrom]; split <;> simp
  | y::ps,i,p=>by
    simp only [List.cons_append,Table.byFrom]
    rw [by_append s ps (i + 1) p]
    have e:i + 1 + (ps.length:Int) = i + ((y::ps).length:Int):=by simp; omega
    rw [e]
    split <;> simp
theorem by_len (s:Int):∀ (ps:List Pte) (i:Int),(Table.byFrom s ps i).length ≤ ps.length
  | [],_=>Nat.le_refl _
  | p::ps,i=>by unfold Table.byFrom; have:=by_len s ps (i + 1); split <;> simp <;> omega
theorem sp_table_By (x:Ptr) (ps:List Pte) (s:Int):Sp Tryz.prog lz [pv x,.int .i64 s] cr [cO x ps] (fun r=>aC [vI r (Table.by_ ps s),cO x ps]):=by
  intro h s0
  obtain ⟨b,rfl,hb,st⟩:=table_op s0
  refine sim_table_Table_By _ _ ?_
  unfold te
  refine df rfl (cx ?_)
  obtain ⟨h1,a,sub⟩:=dP (i:=0) rfl st
  have hfl:(ps.flatMap ak.C).length = 24:=by rw [dS iT,hb]
  refine loadAt_v (r:=ps.flatMap ak.C) (cs:=ps.flatMap ak.C) agn_8_api_Pte ⟨_,_,_,sub _ _ a,fun i v hv=>by simpa using hv⟩ hfl rfl ?_
  refine Lp.intro (fun (z:Sl × Int) h=>∃ n:Nat,z.2 = n∧n ≤ 8∧aC [vI z.1 (Table.byFrom s (ps.take n) 0),cO (some (b,0)) ps] h) (fun (z:Sl × Int) _=>8 - z.2.toNat) ⟨0,rfl,Nat.zero_le _,fu (io hb st)⟩ ?_
  rintro ⟨z,i⟩ h ⟨n,rfl,hn,s1⟩
  unfold nI
  refine aV (fun k=>?_) (fun k=>?_)
  · have hlt:n < 8:=by have:=of_decide_eq_true k; omega
    have hn':n < ps.length:=by omega
    have hw:IntKind.i64.wrap ((n:Int) + 1) = ((n + 1:Nat):Int):=by rw [bO (by omega) (by omega)]; rfl
    have ht:ps.take (n + 1) = ps.take n++[ps[n]]:=by simp
    have hlen:((ps.take n).length:Int) = n:=by simp; omega
    refine index_v (enc:=ak.C) (m:=3) arn_8_api_Pte age_8_api_Pte iT (fun _=>rfl) hb (aD hn') ?_
    refine aV (fun k2=>?_) (fun k2=>?_)
    · have k2':ps[n].fRights ≠ 0∧ps[n].fSlot = s:=by simpa using k2
      refine vi s1 (i:=0) rfl ?_ fun v h' s2=>?_
      · have:=by_len s (ps.take n) 0; simp at this ⊢; omega
      · rw [hw]
        refine ⟨⟨n + 1,rfl,hlt,?_⟩,by simp; omega⟩
        rw [ht,by_append,if_pos k2',hlen,Int.zero_add]
        exact s2
    · have k2':¬ (ps[n].fRights ≠ 0∧ps[n].fSlot = s):=by simpa using k2
      rw [hw]
      refine ⟨⟨n + 1,rfl,hlt,?_⟩,by simp; omega⟩
      rw [ht,by_append,if_neg k2',List.append_nil]
      exact s1
  · have:n = 8:=by have:=of_decide_eq_false k; omega
    subst this
    rw [show ps.take 8 = ps from by rw [← hb]; exact List.take_length] at s1
    exact s1
end Go.Proofs.YtmggcfijlpldpaaGreatDoor
namespace Go.Proofs.YtmggcfijlpldpaaGreatDoor
open Go
namespace Mb
def uQ {σ α:Type} (A:σ→α→As):List σ→List α→List As
  | p::ps,x::xs=>A p x::uQ A ps xs
  | _,_=>[]
section
variable {σ α:Type} {A:σ→α→As}
theorem objs_get:∀ {ps:List σ} {xs:List α} {i:Nat} {p:σ} {x:α},ps[i]? = some p→xs[i]? = some x→(uQ A ps xs)[i]? = some (A p x)
  | [],_,_,_,_,h,_=>by simp at h
  | _::_,[],_,_,_,_,h=>by simp at h
  | p::ps,x::xs,0,_,_,h1,h2=>by simp at h1 h2; subst h1; subst h2; rfl
  | p::ps,x::xs,i + 1,_,_,h1,h2=>by simpa [uQ] using objs_get (ps:=ps) (xs:=xs) (i:=i) (by simpa using h1) (by simpa using h2)
theorem objs_set:∀ {ps:List σ} {xs:List α} {i:Nat} {p:σ} {x:α},ps[i]? = some p→(uQ A ps xs).set i (A p x) = uQ A ps (xs.set i x)
  | [],_,_,_,_,h=>by simp at h
  | p::ps,[],i,_,_,_=>by simp [uQ]
  | p::ps,y::xs,0,_,_,h=>by simp at h; subst h; rfl
  | p::ps,y::xs,i + 1,_,_,h=>by simp only [uQ,List.set_cons_succ]; rw [objs_set (ps:=ps) (xs:=xs) (i:=i) (by simpa using h)]
theorem objs_set2:∀ {ps:List σ} {xs:List α} {i:Nat} {p:σ} {x:α},i < xs.length→(uQ A ps xs).set i (A p x) = uQ A (ps.set i p) (xs.set i x)
  | [],_,_,_,_,_=>by simp [uQ]
  | p::ps,[],i,_,_,h=>by simp at h
  | p::ps,y::xs,0,_,_,_=>rfl
  | p::ps,y::xs,i + 1,_,_,h=>by simp only [uQ,List.set_cons_succ]; rw [objs_set2 (ps:=ps) (xs:=xs) (i:=i) (by simpa using h)]
theorem objs_append (p:σ) (x:α):∀ {ps:List σ} {xs:List α},ps.length = xs.length→uQ A (ps++[p]) (xs++[x]) = uQ A ps xs++[A p x]
  | [],[],_=>rfl
  | [],_::_,h=>by simp at h
  | _::_,[],h=>by simp at h
  | a::ps,b::xs,h=>by simp only [List.cons_append,uQ]; rw [objs_append p x (by simpa using h)]
theorem objs_len:∀ {ps:List σ} {xs:List α},ps.length = xs.length→(uQ A ps xs).length = xs.length
  | [],[],_=>rfl
  | [],_::_,h=>by simp at h
  | _::_,[],h=>by simp at h
  | a::ps,b::xs,h=>by simp only [uQ,List.length_cons]; rw [objs_len (by simpa using h)]
def all (A:σ→α→As) (ps:List σ) (xs:List α):As:=aC (uQ A ps xs)
def but (A:σ→α→As) (ps:List σ) (xs:List α) (i:Nat):As:=aC ((uQ A ps xs).eraseIdx i)
variable {l:List As} {h:Hp} {ps:List σ} {xs:List α}
theorem star_shut {m:List As} (s:aC (m++l) h):aC (aC m::l) h:=by
  obtain ⟨h1,h2,d,e,s1,s2⟩:=ef.1 s
  exact ⟨h1,h2,d,e,s1,s2⟩
theorem iW {i:Nat} {p:σ} {x:α} (hp:ps[i]? = some p) (hx:xs[i]? = some x) (s:aC (all A ps xs::l) h):aC (A p x::but A ps xs i::l) h:=by
  obtain ⟨h1,h2,d,e,a,s'⟩:=s
  have:=gc (objs_get (A:=A) hp hx) a
  obtain ⟨h3,h4,d',e',a',s4⟩:=this
  subst e'
  obtain ⟨d1,d2⟩:=Dj.of_un_left d
  exact ⟨h3,un h4 h2,Dj.un_right d' d1,by rw [e,mb],a',h4,h2,d2,rfl,s4,s'⟩
theorem wI {i:Nat} {p:σ} {y:α} (hp:ps[i]? = some p) (hi:i < xs.length) (hl:ps.length = xs.length) (s:aC (A p y::but A ps xs i::l) h):aC (all A ps (xs.set i y)::l) h:=by
  obtain ⟨h1,h2,d,e,a,h3,h4,d',e',b,s'⟩:=s
  subst e'
  obtain ⟨d1,d2⟩:=Dj.of_un_right d
  refine ⟨un h1 h3,h4,Dj.un_left d2 d',by rw [e,mb],?_,s'⟩
  have:=eq (A:=A p y) (l:=uQ A ps xs) (i:=i) (by rw [objs_len hl]; exact hi) ⟨h1,h3,d1,rfl,a,b⟩
  rw [objs_set hp] at this
  exact this
theorem all_in2 {i:Nat} {p:σ} {y:α} (hi:i < xs.length) (hl:ps.length = xs.length) (s:aC (A p y::but A ps xs i::l) h):aC (all A (ps.set i p) (xs.set i y)::l) h:=by
  obtain ⟨h1,h2,d,e,a,h3,h4,d',e',b,s'⟩:=s
  subst e'
  obtain ⟨d1,d2⟩:=Dj.of_un_right d
  refine ⟨un h1 h3,h4,Dj.un_left d2 d',by rw [e,mb],?_,s'⟩
  have:=eq (A:=A p y) (l:=uQ A ps xs) (i:=i) (by rw [objs_len hl]; exact hi) ⟨h1,h3,d1,rfl,a,b⟩
  rw [objs_set2 hi] at this
  exact this
theorem ir {α:Type} {xs:List α} {i:Nat} {x:α} (hx:xs[i]? = some x):xs.set i x = xs:=by
  apply List.ext_getElem?
  intro n
  rw [List.getElem?_set]
  by_cases e:i = n
  · subst e
    obtain ⟨h1,h2⟩:=List.getElem?_eq_some_iff.1 hx
    simp [h1,h2]
  · simp [e]
theorem vj {i:Nat} {p:σ} {x:α} (hp:ps[i]? = some p) (hx:xs[i]? = some x) (hl:ps.length = xs.length) (s:aC (A p x::but A ps xs i::l) h):aC (all A ps xs::l) h:=by
  have:=wI hp (List.getElem?_eq_some_iff.1 hx).1 hl s
  rwa [ir hx] at this
theorem all_nil:aC l h→aC (all A [] []::l) h:=fun s=>star_cons (fun _=>trivial) s
theorem all_push {p:σ} {x:α} (hl:ps.length = xs.length) (s:aC (A p x::all A ps xs::l) h):aC (all A (ps++[p]) (xs++[x])::l) h:=by
  refine star_shut ?_
  rw [objs_append p x hl]
  have s1:=jY (.swap _ _ _) s
  have s2:=dw s1
  exact jY (by simp) s2
end
theorem rV {A:As} {h:Hp} (a:A h):aC [A] h:=⟨h,emp,Dj.emp_right _,(un_emp _).symm,a,trivial⟩
section
variable {P:Program} {l:List As} {h:Hp} {τ:Type} {f:FuncId} {args:List Value} {enc:τ→Value} {K:τ→Hp→Prop} {i:Nat} {A:As}
theorem bK {φ:τ→Prop} {A':τ→As} (c:Sp P f args enc [A] (fun r=>pa_ (φ r) [A' r])) (hi:l[i]? = some A) (s:aC l h) (k:∀ r h',φ r→aC (l.set i (A' r)) h'→K r h'):cl P f args enc K h:=by
  obtain ⟨h1,h2,d,rfl,a,s'⟩:=gc hi s
  refine (c h1 (rV a)).frame_mono d rfl fun v h' ⟨r,hv,q⟩ dj=>⟨r,hv,?_⟩
  obtain ⟨g1,q⟩:=q
  refine k r _ g1 (eq (List.getElem?_eq_some_iff.1 hi).1 ?_)
  exact mY (l:=[A' r]++l.eraseIdx i) (by rw [List.append_nil]; exact ef.2 ⟨h',h2,dj,rfl,q,s'⟩)
theorem cl_n {B A':τ→As} (c:Sp P f args enc [A] (fun r=>aC [B r,A' r])) (hi:l[i]? = some A) (s:aC l h) (k:∀ r h',aC (B r::l.set i (A' r)) h'→K r h'):cl P f args enc K h:=by
  obtain ⟨h1,h2,d,rfl,a,s'⟩:=gc hi s
  refine (c h1 (rV a)).frame_mono d rfl fun v h' ⟨r,hv,q⟩ dj=>⟨r,hv,k r _ ?_⟩
  have s1:aC (B r::A' r::l.eraseIdx i) (un h' h2):=(ef (l:=[B r,A' r])).2 ⟨h',h2,dj,rfl,q,s'⟩
  obtain ⟨g1,g2,d2,e2,b,s2⟩:=s1
  exact ⟨g1,g2,d2,e2,b,eq (List.getElem?_eq_some_iff.1 hi).1 s2⟩
theorem cl_p {φ:τ→Prop} {B A':τ→As} (c:Sp P f args enc [A] (fun r=>pa_ (φ r) [B r,A' r])) (hi:l[i]? = some A) (s:aC l h) (k:∀ r h',φ r→aC (B r::l.set i (A' r)) h'→K r h'):cl P f args enc K h:=by
  obtain ⟨h1,h2,d,rfl,a,s'⟩:=gc hi s
  refine (c h1 (rV a)).frame_mono d rfl fun v h' ⟨r,hv,q⟩ dj=>⟨r,hv,?_⟩
  obtain ⟨g0,q⟩:=q
  refine k r _ g0 ?_
  have s1:aC (B r::A' r::l.eraseIdx i) (un h' h2):=(ef (l:=[B r,A' r])).2 ⟨h',h2,dj,rfl,q,s'⟩
  obtain ⟨g1,g2,d2,e2,b,s2⟩:=s1
  exact ⟨g1,g2,d2,e2,b,eq (List.getElem?_eq_some_iff.1 hi).1 s2⟩
theorem sZ {φ:τ→Prop} (c:Sp P f args enc [] (fun r=>pa_ (φ r) [])) (s:aC l h) (k:∀ r h',φ r→aC l h'→K r h'):cl P f args enc K h :=
  cJ [] c s rfl fun r h' s1=>by
    obtain ⟨f1,s2⟩:=bn.1 s1
    exact k r h' f1 s2
theorem lj {B:τ→As} (c:Sp P f args enc [] (fun r=>aC [B r])) (s:aC l h) (k:∀ r h',aC (B r::l) h'→K r h'):cl P f args enc K h :=
  cJ [] c s rfl fun r h' s1=>k r h' (dw s1)
end
end Mb
end Go.Proofs.YtmggcfijlpldpaaGreatDoor
