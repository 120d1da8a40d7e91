/- Part of the proof of: The law ShootRevoke returns true for every input, and leaves its arguments as they were. -/
import Derived.Test.YtemoifebbhoinaaGreatDoorShootRevoke03
set_option linter.all false
set_option maxRecDepth 20000
namespace Go.Proofs.YtemoifebbhoinaaGreatDoor
open Go Mb
set_option linter.unusedVariables false
def hX (a0:Sl) (K:Sl→Hp→Prop):Hp→Prop:=br a0.a.isNone ( K (⟨none,0,0,none⟩:Sl)) ( hpv Tryz.prog (Instr.buildSlice eO 0 #[]) eA fun (v5:Sl)=>hpv Tryz.prog (Builtin.append_ #[eO,eO] eO #[(sv v5),(sv a0)]) eA fun (v7:Sl)=>K v7)
theorem mv (a0:Sl) {K:Sl→Hp→Prop} {h:Hp} (H:hX a0 K h):Ct Tryz.prog eW #[(sv a0)] h fun v h'=>∃ r,v = eA r∧K r h':=aw [(sv a0)] Tryz.func55 c c c fun _=>M<|O c<|al<|M<|J c<|p (v_seqT Tryz.underlying42 c)<|ad<|av c H (fun k1 H2=>M<|O c<|aj<|Y ⟨(⟨none,0,0,none⟩:Sl),c,H2⟩) fun k1 H2=>ao<|M<|aa<|aS H2 (bo (vs:=[]) c) c fun v5 _ H3=>J c<|aa<|aS H3 (dH c c) c fun v7 _ H4=>O c<|aj<|Y ⟨v7,c,H4⟩
def eD (a0:Sl) (a1:Int) (K:(Int × Bool)→Hp→Prop) (Rec2:(Int × Int)→Hp→Prop) (s1:Int × Int):Hp→Prop:=br (decide (s1.1 < s1.2)) ( ix a0 (IntKind.i64.wrap (Int.fdiv (IntKind.u64.wrap (IntKind.i64.wrap (s1.1 + s1.2))) (2 ^ (min (Int.toNat 1) (IntKind.bits .u64))))) fun q24=>ld (q24.1,q24.2 + Int.toNat (IntKind.i64.wrap (Int.fdiv (IntKind.u64.wrap (IntKind.i64.wrap (s1.1 + s1.2))) (2 ^ (min (Int.toNat 1) (IntKind.bits .u64))))) * 1) (cI .u64) fun x25=>br (il x25 a1) ( Rec2 ((IntKind.i64.wrap ((IntKind.i64.wrap (Int.fdiv (IntKind.u64.wrap (IntKind.i64.wrap (s1.1 + s1.2))) (2 ^ (min (Int.toNat 1) (IntKind.bits .u64))))) + 1)),s1.2)) ( Rec2 (s1.1,(IntKind.i64.wrap (Int.fdiv (IntKind.u64.wrap (IntKind.i64.wrap (s1.1 + s1.2))) (2 ^ (min (Int.toNat 1) (IntKind.bits .u64)))))))) ( br (decide (s1.1 < (a0.len:Int))) ( ix a0 s1.1 fun q38=>ld (q38.1,q38.2 + Int.toNat s1.1 * 1) (cI .u64) fun x39=>br (!(x39 == a1)) ( ld (q38.1,q38.2 + Int.toNat s1.1 * 1) (cI .u64) fun x46=>K (s1.1,((dF x46) && (dF a1)))) ( K (s1.1,true))) ( K (s1.1,false)))
def gK (a0:Sl) (a1:Int) (K:(Int × Bool)→Hp→Prop):Hp→Prop:=Lp (eD a0 a1 K) (0,(a0.len:Int))
theorem lT (a0:Sl) (a1:Int) {K:(Int × Bool)→Hp→Prop} {h:Hp} (H:gK a0 a1 K h):Ct Tryz.prog eK #[(sv a0),(.int .u64 a1)] h fun v h'=>∃ r,v = bL r∧K r h':=aw [(sv a0),(.int .u64 a1)] Tryz.func169 c c c fun _=>M<|p (au c)<|O c<|M<|J c<|p (dA c Tryz.underlying93 c)<|O c<|M<|J c<|p (au c)<|O c<|al<|ay<|bE (step:=eD a0 a1 K) (fun s1=>[(0,(sv a0)),(1,(.int .u64 a1)),(6,(.int .i64 (a0.len:Int))),(7,(.int .i64 s1.1)),(8,(.int .i64 s1.2))]) (fun s1=>[]) H (.cons c<|.cons c<|.cons c<|.cons c<|.cons c<|.nil _) .slnil fun Rec2 s1 _ H3=>al<|M<|J c<|J c<|p (cC c c)<|ad<|av c H3 (fun k4 H5=>ao<|ay<|M<|J c<|J c<|p (bw c c)<|p (dV ⟨_,Tryz.underlying3⟩ Tryz.underlying257 c)<|p (v_shr c c (by decide))<|p (dV ⟨_,Tryz.underlying257⟩ Tryz.underlying3 c)<|O c<|M<|J c<|J c<|ct H5 fun q24 e6 h7 H8=>p (bq ww (aN c<|bc e6) c h7)<|aa<|aW H8 cz c (fun _=>c) c fun x25 H9=>J c<|aa<|cN (vs:=[(.int .u64 x25),(.int .u64 a1)]) (bu<|ct_cmp_Less_uint64 x25 a1 _) en_195 c c<|ad<|av c H9 (fun k10 H11=>ar<|J c<|p (bw c c)<|O c<|cR ((IntKind.i64.wrap ((IntKind.i64.wrap (Int.fdiv (IntKind.u64.wrap (IntKind.i64.wrap (s1.1 + s1.2))) (2 ^ (min (Int.toNat 1) (IntKind.bits .u64))))) + 1)),s1.2) H11 (.cons c<|.cons c<|.cons c<|.cons c<|.cons c<|.nil _) .slnil) fun k10 H11=>ar<|J c<|O c<|cR (s1.1,(IntKind.i64.wrap (Int.fdiv (IntKind.u64.wrap (IntKind.i64.wrap (s1.1 + s1.2))) (2 ^ (min (Int.toNat 1) (IntKind.bits .u64)))))) H11 (.cons c<|.cons c<|.cons c<|.cons c<|.cons c<|.nil _) .slnil) fun k4 H5=>bj<|M<|J c<|J c<|J c<|p (cC c c)<|J c<|V c c (az _) (fun g12=>wv<|ai c)<|V c c (az _) (fun g13=>wv<|ai c)<|bU H5 (fun k15 H16=>ct H16 fun q38 e17 h18 H19=>F (D k15)<|R (bq ww (aN (aD c k15)<|bc e17) (aD c k15) h18)<|F (D k15)<|aW H19 cz c (fun _=>c) c fun x39 H20=>F (D k15)<|R (ai c)<|F (D k15)<|R (bO c c)<|F (D k15)<|R (ai c)<|V c c (aJ _) (fun g21=>wv<|ai c)<|V c c (aJ _) (fun g22=>wv<|ai c)<|V c c (aJ _) (fun g23=>wv<|bq ww (aN (aD c g23)<|bc e17) (aD c g23) h18)<|bU H20 (fun k25 H26=>F (D<|ch k25)<|aW H26 cz (aD c k25) (fun _=>c) c fun x46 H27=>F (D<|ch k25)<|cN (vs:=[(.int .u64 x46)]) (bu<|oZ x46 _) en_196 c c<|F (D<|ch k25)<|R (ai c)<|V c c (az _) (fun g28=>wv<|ai c)<|db (vs:=[(.int .u64 a1)]) c c c (az _) (fun g29=>bu<|oZ a1 _) en_196 (fun g29=>aT (aD c g29) bQ) c<|F (D<|ch k25)<|R (bS c c)<|F (D k15)<|R (aq c (ch k25) c)<|p (aU c k15 c)<|p (au c)<|O c<|aj<|bv (bN c (bY c)<|bY c) ⟨(s1.1,((dF x46) && (dF a1))),c,H27⟩) fun k25 H26=>W (cd<|bJ k25)<|W (cd<|bJ k25)<|W (cd<|bJ k25)<|W (off_u _)<|W (off_u _)<|W (cd<|bJ k25)<|F (D k15)<|R (aU c (bJ k25) c)<|p (aU c k15 c)<|p (au c)<|O c<|aj<|bv (bN c (bY c)<|bY c) ⟨(s1.1,true),c,H26⟩) fun k15 H16=>W (aR k15)<|W (aR k15)<|W (aR k15)<|W (aR k15)<|W (aR k15)<|W (off_u _)<|W (off_u _)<|W (off_u _)<|W (off_u _)<|W (off_u _)<|W (off_u _)<|W (off_u _)<|W (off_u _)<|W (off_u _)<|W (aR k15)<|p (aq c k15 c)<|p (au c)<|O c<|aj<|bv (bN c (bY c)<|bY c) ⟨(s1.1,false),c,H16⟩
def jz (a0:Sl) (a1:Int) (a2:Sl) (K:Sl→Hp→Prop):Hp→Prop:=hpv Tryz.prog (Instr.sliceAt be (sv a0) (some (.int .i64 a1)) none none) ce fun (v12:Sl)=>br ((a2.len:Int) == 0) ( K a0) ( br (a1 == (a0.len:Int)) ( hpv Tryz.prog (Builtin.append_ #[be,be] be #[(sv a0),(sv a2)]) ce fun (v25:Sl)=>K v25) ( br (decide ((IntKind.i64.wrap ((a0.len:Int) + (a2.len:Int))) > (a0.cap:Int))) ( hpv Tryz.prog (Instr.sliceAt be (sv a0) none (some (.int .i64 a1)) none) ce fun (v34:Sl)=>hpv Tryz.prog (Builtin.append_ #[be,kW] be #[(sv v34),(.int .i64 (IntKind.i64.wrap ((IntKind.i64.wrap ((a0.len:Int) + (a2.len:Int))) - a1)))]) ce fun (v40:Sl)=>hpv Tryz.prog (Instr.sliceAt be (sv v40) (some (.int .i64 a1)) none none) ce fun (v43:Sl)=>hpv Tryz.prog (Builtin.copy_ #[be,be] kW #[(sv v43),(sv a2)]) eB fun (v45:Int)=>both ( hpv Tryz.prog (Instr.sliceAt be (sv v40) (some (.int .i64 (IntKind.i64.wrap (a1 + (a2.len:Int))))) none none) ce fun (v50:Sl)=>hpv Tryz.prog (Instr.sliceAt be (sv a0) (some (.int .i64 a1)) none none) ce fun (v53:Sl)=>hpv Tryz.prog (Builtin.copy_ #[be,be] kW #[(sv v50),(sv v53)]) eB fun (v54:Int)=>K v40) ( hpv Tryz.prog (Instr.sliceAt be (sv a0) (some (.int .i64 a1)) none none) ce fun (v53:Sl)=>hpv Tryz.prog (Instr.sliceAt be (sv v40) (some (.int .i64 (IntKind.i64.wrap (a1 + (a2.len:Int))))) none none) ce fun (v50:Sl)=>hpv Tryz.prog (Builtin.copy_ #[be,be] kW #[(sv v50),(sv v53)]) eB fun (v54:Int)=>K v40)) ( hpv Tryz.prog (Instr.sliceAt be (sv a0) none (some (.int .i64 (IntKind.i64.wrap ((a0.len:Int) + (a2.len:Int))))) none) ce fun (v60:Sl)=>hpv Tryz.prog (Instr.sliceAt be (sv v60) (some (.int .i64 (IntKind.i64.wrap (a1 + (a2.len:Int))))) none none) ce fun (v66:Sl)=>cln Tryz.prog (callFunc uR #[(sv a2),(sv v66)]) aC fun (v67:Bool)=>br (!v67) ( both ( hpv Tryz.prog (Instr.sliceAt be (sv v60) (some (.int .i64 (IntKind.i64.wrap (a1 + (a2.len:Int))))) none none) ce fun (v73:Sl)=>hpv Tryz.prog (Instr.sliceAt be (sv v60) (some (.int .i64 a1)) none none) ce fun (v76:Sl)=>hpv Tryz.prog (Builtin.copy_ #[be,be] kW #[(sv v73),(sv v76)]) eB fun (v77:Int)=>hpv Tryz.prog (Instr.sliceAt be (sv v60) (some (.int .i64 a1)) none none) ce fun (v80:Sl)=>hpv Tryz.prog (Builtin.copy_ #[be,be] kW #[(sv v80),(sv a2)]) eB fun (v82:Int)=>K v60) ( hpv Tryz.prog (Instr.sliceAt be (sv v60) (some (.int .i64 a1)) none none) ce fun (v76:Sl)=>hpv Tryz.prog (Instr.sliceAt be (sv v60) (some (.int .i64 (IntKind.i64.wrap (a1 + (a2.len:Int))))) none none) ce fun (v73:Sl)=>hpv Tryz.prog (Builtin.copy_ #[be,be] kW #[(sv v73),(sv v76)]) eB fun (v77:Int)=>hpv Tryz.prog (Instr.sliceAt be (sv v60) (some (.int .i64 a1)) none none) ce fun (v80:Sl)=>hpv Tryz.prog (Builtin.copy_ #[be,be] kW #[(sv v80),(sv a2)]) eB fun (v82:Int)=>K v60)) ( hpv Tryz.prog (Instr.sliceAt be (sv v60) (some (.int .i64 (a0.len:Int))) none none) ce fun (v86:Sl)=>hpv Tryz.prog (Builtin.copy_ #[be,be] kW #[(sv v86),(sv a2)]) eB fun (v88:Int)=>hpv Tryz.prog (Instr.sliceAt be (sv v60) (some (.int .i64 a1)) none none) ce fun (v91:Sl)=>cl Tryz.prog sd [(sv v91),(.int .i64 (a2.len:Int))] R_ fun (_:Unit)=>K v60))))
theorem pq (a0:Sl) (a1:Int) (a2:Sl) {K:Sl→Hp→Prop} {h:Hp} (H:jz a0 a1 a2 K h):Ct Tryz.prog dB #[(sv a0),(.int .i64 a1),(sv a2)] h fun v h'=>∃ r,v = ce r∧K r h':=aw [(sv a0),(.int .i64 a1),(sv a2)] Tryz.func170 c c c fun _=>M<|O c<|M<|J c<|J c<|aa<|aS H (fq c c c c c) c fun v12 _ H1=>ad<|M<|J c<|p (dA c Tryz.underlying93 c)<|O c<|al<|M<|J c<|p (bO c c)<|ad<|av c H1 (fun k2 H3=>M<|J c<|O c<|aj<|Y ⟨a0,c,H3⟩) fun k2 H3=>ao<|M<|J c<|p (dA c Tryz.underlying93 c)<|O c<|al<|M<|J c<|J c<|p (bO c c)<|ad<|av c H3 (fun k4 H5=>M<|J c<|J c<|aa<|aS H5 (dH c c) c fun v25 _ H6=>O c<|aj<|Y ⟨v25,c,H6⟩) fun k4 H5=>ao<|al<|M<|J c<|J c<|p (bw c c)<|J c<|p (v_cap c Tryz.underlying93 c)<|p (qA c c)<|ad<|av c H5 (fun k7 H8=>M<|J c<|J c<|aa<|aS H8 (fq c c c c c) c fun v34 _ H9=>J c<|J c<|p (bw c c)<|J c<|p (v_sub c c)<|aa<|aS H9 (dH c c) c fun v40 _ H10=>O c<|M<|J c<|J c<|aa<|aS H10 (fq c c c c c) c fun v43 _ H11=>J c<|aa<|aS H11 (x_copy c c) c fun v45 _ H12=>ad<|al<|bm (n:=9) [] cx c .slnil<|U 0 c (ai c)<|U 1 c (ai c)<|U 2 c (ai c)<|U 3 c (bw c c)<|U 5 c (ai c)<|U 6 c (ai c)<|jI H12 fun H13_1 H13_2=>jJ (i:=4) (j:=7) (by kernel_rfl) (cK c c<|aS H13_1 (fq c c c c c) c fun v50 _ H14=>⟨.slnil,G 7 c<|aS H14 (fq c c c c c) c fun v53 _ H15=>⟨.slnil,G 8 c<|aS H15 (x_copy c c) c fun v54 _ H16=>⟨.slnil,aV (by kernel_rfl)<|M<|J c<|O c<|aj<|Y ⟨v40,c,H16⟩⟩⟩⟩)<|cK c c<|aS H13_2 (fq c c c c c) c fun v53 _ H14=>⟨.slnil,G 4 c<|aS H14 (fq c c c c c) c fun v50 _ H15=>⟨.slnil,G 8 c<|aS H15 (x_copy c c) c fun v54 _ H16=>⟨.slnil,aV (by kernel_rfl)<|M<|J c<|O c<|aj<|Y ⟨v40,c,H16⟩⟩⟩⟩) fun k7 H8=>ao<|M<|J c<|J c<|J c<|p (bw c c)<|aa<|aS H8 (fq c c c c c) c fun v60 _ H17=>O c<|al<|M<|J c<|J c<|J c<|J c<|p (bw c c)<|aa<|aS H17 (fq c c c c c) c fun v66 _ H18=>aa<|gg H18 (rP (vs:=[(sv a2),(sv v66)]) c) c fun v67 _ H19=>p (cq c)<|ad<|av c H19 (fun k20 H21=>al<|bm (n:=9) [] cx c .slnil<|U 0 c (ai c)<|U 1 c (ai c)<|U 2 c (ai c)<|U 3 c (bw c c)<|U 5 c (ai c)<|U 6 c (ai c)<|jI H21 fun H22_1 H22_2=>jJ (i:=4) (j:=7) (by kernel_rfl) (cK c c<|aS H22_1 (fq c c c c c) c fun v73 _ H23=>⟨.slnil,G 7 c<|aS H23 (fq c c c c c) c fun v76 _ H24=>⟨.slnil,G 8 c<|aS H24 (x_copy c c) c fun v77 _ H25=>⟨.slnil,aV (by kernel_rfl)<|M<|J c<|J c<|aa<|aS H25 (fq c c c c c) c fun v80 _ H26=>J c<|aa<|aS H26 (x_copy c c) c fun v82 _ H27=>ad<|M<|J c<|O c<|aj<|Y ⟨v60,c,H27⟩⟩⟩⟩)<|cK c c<|aS H22_2 (fq c c c c c) c fun v76 _ H23=>⟨.slnil,G 4 c<|aS H23 (fq c c c c c) c fun v73 _ H24=>⟨.slnil,G 8 c<|aS H24 (x_copy c c) c fun v77 _ H25=>⟨.slnil,aV (by kernel_rfl)<|M<|J c<|J c<|aa<|aS H25 (fq c c c c c) c fun v80 _ H26=>J c<|aa<|aS H26 (x_copy c c) c fun v82 _ H27=>ad<|M<|J c<|O c<|aj<|Y ⟨v60,c,H27⟩⟩⟩⟩) fun k20 H21=>ao<|M<|J c<|J c<|aa<|aS H21 (fq c c c c c) c fun v86 _ H28=>J c<|aa<|aS H28 (x_copy c c) c fun v88 _ H29=>ad<|M<|J c<|J c<|aa<|aS H29 (fq c c c c c) c fun v91 _ H30=>J c<|aa<|Z H30 en_198 fun r93 _ H31=>ad<|M<|J c<|O c<|aj<|Y ⟨v60,c,H31⟩
def jy (a0:Sl) (a1:Int) (K:Int→Hp→Prop) (Rec2:Int→Hp→Prop) (s1:Int):Hp→Prop:=br (decide (s1 < (a0.len:Int))) ( ix a0 s1 fun q14=>ld (q14.1,q14.2 + Int.toNat s1 * 1) (cI .i64) fun x15=>br (a1 == x15) ( K s1) ( Rec2 (IntKind.i64.wrap (s1 + 1)))) ( K (-1))
def nK (a0:Sl) (a1:Int) (K:Int→Hp→Prop):Hp→Prop:=Lp (jy a0 a1 K) 0
theorem uL (a0:Sl) (a1:Int) {K:Int→Hp→Prop} {h:Hp} (H:nK a0 a1 K h):Ct Tryz.prog ke #[(sv a0),(.int .i64 a1)] h fun v h'=>∃ r,v = eB r∧K r h':=aw [(sv a0),(.int .i64 a1)] Tryz.func199 c c c fun _=>M<|O c<|al<|M<|J c<|p (dA c Tryz.underlying39 c)<|J c<|ad<|ay<|bE (step:=jy a0 a1 K) (fun s1=>[(0,(sv a0)),(1,(.int .i64 a1)),(7,(.int .i64 (a0.len:Int))),(8,(.int .i64 s1))]) (fun s1=>[]) H (.cons c<|.cons c<|.cons c<|.cons c<|.nil _) .slnil fun Rec2 s1 _ H3=>M<|p (cC c c)<|ad<|al<|av c H3 (fun k4 H5=>ao<|al<|ay<|M<|J c<|O c<|M<|J c<|J c<|J c<|ct H5 fun q14 e6 h7 H8=>p (bq iC (aN c<|bc e6) c h7)<|aa<|aW H8 bb c (fun _=>c) c fun x15 H9=>p (bO c c)<|ad<|av c H9 (fun k10 H11=>M<|J c<|O c<|aj<|Y ⟨s1,c,H11⟩) fun k10 H11=>ao<|ar<|p (bw c c)<|J c<|ad<|cR (IntKind.i64.wrap (s1 + 1)) H11 (.cons c<|.cons c<|.cons c<|.cons c<|.nil _) .slnil) fun k4 H5=>bj<|M<|O c<|aj<|Y ⟨(-1),c,H5⟩
def eU (a0:Sl) (a1:Int) (a3:Value) (Rec2:Int→Hp→Prop) (s1:Int) (Rec7:Int→Hp→Prop) (s6:Int):Hp→Prop:=br (decide (s6 > a1)) ( ix a0 s6 fun q25=>ix a0 (IntKind.i64.wrap (s6 - 1)) fun q30=>ld (q25.1,q25.2 + Int.toNat s6 * 1) (cI .i64) fun x26=>ld (q30.1,q30.2 + Int.toNat (IntKind.i64.wrap (s6 - 1)) * 1) (cI .i64) fun x31=>clv Tryz.prog a3 [(.int .i64 x26),(.int .i64 x31)] eB fun r32=>br (decide (r32 < 0)) ( ld (q30.1,q30.2 + Int.toNat (IntKind.i64.wrap (s6 - 1)) * 1) (cI .i64) fun x46=>ld (q25.1,q25.2 + Int.toNat s6 * 1) (cI .i64) fun x50=>st (q25.1,q25.2 + Int.toNat s6 * 1) [.int .i64 x46]<|st (q30.1,q30.2 + Int.toNat (IntKind.i64.wrap (s6 - 1)) * 1) [.int .i64 x50]<|Rec7 (IntKind.i64.wrap (s6 - 1))) ( Rec2 (IntKind.i64.wrap (s1 + 1)))) ( Rec2 (IntKind.i64.wrap (s1 + 1)))
def dE (a0:Sl) (a1:Int) (a2:Int) (a3:Value) (K:Unit→Hp→Prop) (Rec2:Int→Hp→Prop) (s1:Int):Hp→Prop:=br (decide (s1 < a2)) ( Lp (eU a0 a1 a3 Rec2 s1) s1) ( K ())
def ii (a0:Sl) (a1:Int) (a2:Int) (a3:Value) (K:Unit→Hp→Prop):Hp→Prop:=Lp (dE a0 a1 a2 a3 K) (IntKind.i64.wrap (a1 + 1))
theorem mN (a0:Sl) (a1:Int) (a2:Int) (a3:Value) {K:Unit→Hp→Prop} {h:Hp} (H:ii a0 a1 a2 a3 K h):Ct Tryz.prog bW #[(sv a0),(.int .i64 a1),(.int .i64 a2),a3] h fun v h'=>∃ r,v = R_ r∧K r h':=aw [(sv a0),(.int .i64 a1),(.int .i64 a2),a3] Tryz.func181 c c c fun _=>M<|J c<|p (bw c c)<|O c<|ay<|bE (step:=dE a0 a1 a2 a3 K) (fun s1=>[(0,(sv a0)),(1,(.int .i64 a1)),(2,(.int .i64 a2)),(3,a3),(8,(.int .i64 s1))]) (fun s1=>[]) H (.cons c<|.cons c<|.cons c<|.cons c<|.cons c<|.nil _) .slnil fun Rec2 s1 _ H3=>al<|M<|J c<|J c<|p (cC c c)<|ad<|av c H3 (fun k4 H5=>ao<|al<|ay<|M<|J c<|O c<|ay<|bE (step:=eU a0 a1 a3 Rec2 s1) (fun s6=>[(0,(sv a0)),(1,(.int .i64 a1)),(2,(.int .i64 a2)),(3,a3),(8,(.int .i64 s1)),(9,(.int .i64 s6))]) (fun s6=>[]) H5 (.cons c<|.cons c<|.cons c<|.cons c<|.cons c<|.cons c<|.nil _) .slnil fun Rec7 s6 _ H8=>al<|al<|bm (n:=17) [] cx c .slnil<|U 0 c (ai c)<|U 1 c (ai c)<|U 2 c (qA c c)<|U 3 c (ai c)<|nA H8 (fun k9 H10=>z_n 4 c (D k9) (ve<|ai c)<|z_n 5 c (D k9) (ve<|ai c)<|z_n 6 c (D k9) (ve<|ai c)<|z_n 9 c (D k9) (ve<|ai c)<|z_n 10 c (D k9) (ve<|ai c)<|z_n 11 c (D k9) (ve<|v_sub c c)<|gn H10 fun q25 e11 h12 H13=>z_n 7 c (D k9) (ve<|bq iC (aN c<|bc e11) c h12)<|gn H13 fun q30 e14 h15 H16=>z_n 12 c (D k9) (ve<|bq iC (aN c<|bc e14) c h15)<|mn (i:=8) (fun _ _ _ _ hh=>hh) H16 c (by kernel_rfl) c c c (D k9) bb c (fun _=>c) c fun x26 H17=>mn (i:=13) (fun _ _ _ _ hh=>hh) H17 c (by kernel_rfl) c c c (D k9) bb c (fun _=>c) c fun x31 H18=>eva_1 (i:=14) (by kernel_rfl)<|way_on c c c c (D k9)<|to_clv H18 c c c fun r32 _ H19=>⟨.slnil,z_n 15 c (D k9) (ve<|cC c c)<|U 16 c (aU c k9 c)<|aV (by kernel_rfl)<|av c H19 (fun k20 H21=>ao<|al<|ay<|bm (n:=18) [] cx c .slnil<|U 0 c (ai c)<|U 1 c (ai c)<|U 2 c (ai c)<|U 3 c (ai c)<|U 4 c (v_sub c c)<|U 5 c (ai c)<|U 6 c (ai c)<|U 7 c (v_sub c c)<|U 8 c (bq iC (aN c<|bc e14) c h15)<|U 10 c (ai c)<|U 11 c (ai c)<|U 12 c (bq iC (aN c<|bc e11) c h12)<|bH (i:=9) (fun _ _ _ _ hh=>hh) H21 c (by kernel_rfl) bb c (fun _=>c) c fun x46 H22=>bH (i:=13) (fun _ _ _ _ hh=>hh) H22 c (by kernel_rfl) bb c (fun _=>c) c fun x50 H23=>U 14 c (bq iC (aN c<|bc e11) c h12)<|G 15 c<|dy qU c c c c c H23 fun _ H24=>⟨.slnil,U 16 c (bq iC (aN c<|bc e14) c h15)<|G 17 c<|dy qU c c c c c H24 fun _ H25=>⟨.slnil,aV (by kernel_rfl)<|ar<|J c<|p (v_sub c c)<|O c<|cR (IntKind.i64.wrap (s6 - 1)) H25 (.cons c<|.cons c<|.cons c<|.cons c<|.cons c<|.cons c<|.nil _) .slnil⟩⟩) fun k20 H21=>bj<|ar<|J c<|p (bw c c)<|O c<|cR (IntKind.i64.wrap (s1 + 1)) H21 (.cons c<|.cons c<|.cons c<|.cons c<|.cons c<|.nil _) .slnil⟩) fun k9 H10=>I 4 c (aR k9)<|I 5 c (aR k9)<|I 6 c (aR k9)<|I 7 c (aR k9)<|I 8 c (aR k9)<|I 9 c (aR k9)<|I 10 c (aR k9)<|I 11 c (aR k9)<|I 12 c (aR k9)<|I 13 c (aR k9)<|I 14 c (aR k9)<|I 15 c (aR k9)<|U 16 c (aq c k9 c)<|aV (by kernel_rfl)<|ev_no c c<|bj<|ar<|J c<|p (bw c c)<|O c<|cR (IntKind.i64.wrap (s1 + 1)) H10 (.cons c<|.cons c<|.cons c<|.cons c<|.cons c<|.nil _) .slnil) fun k4 H5=>bj<|end_i (res_0 c) ⟨(),c,H5⟩
def kX (a0:Sl) (a1:Int) (a2:Value) (Rec9:Int→Hp→Prop) (s8:Int) (Rec14:(Int × Int)→Hp→Prop) (s13:Int × Int):Hp→Prop:=br (decide (s13.2 ≤ a1)) ( cl Tryz.prog ky [(sv a0),(.int .i64 s13.1),(.int .i64 (IntKind.i64.wrap (s13.1 + s8))),(.int .i64 s13.2),a2] R_ fun (_:Unit)=>Rec14 (s13.2,(IntKind.i64.wrap (s13.2 + (IntKind.i64.wrap (2 * s8)))))) ( br (decide ((IntKind.i64.wrap (s13.1 + s8)) < a1)) ( cl Tryz.prog ky [(sv a0),(.int .i64 s13.1),(.int .i64 (IntKind.i64.wrap (s13.1 + s8))),(.int .i64 a1),a2] R_ fun (_:Unit)=>Rec9 (IntKind.i64.wrap (s8 * 2))) ( Rec9 (IntKind.i64.wrap (s8 * 2))))
def dr (a0:Sl) (a1:Int) (a2:Value) (K:Unit→Hp→Prop) (Rec9:Int→Hp→Prop) (s8:Int):Hp→Prop:=br (decide (s8 < a1)) ( Lp (kX a0 a1 a2 Rec9 s8) (0,(IntKind.i64.wrap (2 * s8)))) ( K ())
def ft (a0:Sl) (a1:Int) (a2:Value) (K:Unit→Hp→Prop) (Rec2:(Int × Int)→Hp→Prop) (s1:Int × Int):Hp→Prop:=br (decide (s1.2 ≤ a1)) ( cl Tryz.prog bW [(sv a0),(.int .i64 s1.1),(.int .i64 s1.2),a2] R_ fun (_:Unit)=>Rec2 (s1.2,(IntKind.i64.wrap (s1.2 + 20)))) ( cl Tryz.prog bW [(sv a0),(.int .i64 s1.1),(.int .i64 a1),a2] R_ fun (_:Unit)=>Lp (dr a0 a1 a2 K) 20)
def kY (a0:Sl) (a1:Int) (a2:Value) (K:Unit→Hp→Prop):Hp→Prop:=Lp (ft a0 a1 a2 K) (0,20)
theorem re (a0:Sl) (a1:Int) (a2:Value) {K:Unit→Hp→Prop} {h:Hp} (H:kY a0 a1 a2 K h):Ct Tryz.prog lx #[(sv a0),(.int .i64 a1),a2] h fun v h'=>∃ r,v = R_ r∧K r h':=aw [(sv a0),(.int .i64 a1),a2] Tryz.func137 c c c fun _=>M<|O c<|M<|J c<|p (au c)<|O c<|al<|ay<|bE (step:=ft a0 a1 a2 K) (fun s1=>[(0,(sv a0)),(1,(.int .i64 a1)),(2,a2),(6,(.int .i64 20)),(7,(.int .i64 s1.1)),(8,(.int .i64 s1.2))]) (fun s1=>[]) H (.cons c<|.cons c<|.cons c<|.cons c<|.cons c<|.cons c<|.nil _) .slnil fun Rec2 s1 _ H3=>al<|M<|J c<|J c<|p (v_le c c)<|ad<|av c H3 (fun k4 H5=>ao<|ay<|M<|J c<|J c<|J c<|J c<|aa<|Z H5 en_181 fun r18 _ H6=>ad<|M<|J c<|O c<|ar<|J c<|J c<|p (bw c c)<|O c<|cR (s1.2,(IntKind.i64.wrap (s1.2 + 20))) H6 (.cons c<|.cons c<|.cons c<|.cons c<|.cons c<|.cons c<|.nil _) .slnil) fun k4 H5=>bj<|M<|J c<|J c<|J c<|J c<|aa<|Z H5 en_181 fun r27 _ H7=>ad<|ay<|bE (step:=dr a0 a1 a2 K) (fun s8=>[(0,(sv a0)),(1,(.int .i64 a1)),(2,a2),(6,(.int .i64 s8))]) (fun s8=>[]) H7 (.cons c<|.cons c<|.cons c<|.cons c<|.nil _) .slnil fun Rec9 s8 _ H10=>al<|M<|J c<|J c<|p (cC c c)<|ad<|av c H10 (fun k11 H12=>ao<|ay<|M<|J c<|p (v_mul c c)<|p (au c)<|O c<|al<|ay<|bE (step:=kX a0 a1 a2 Rec9 s8) (fun s13=>[(0,(sv a0)),(1,(.int .i64 a1)),(2,a2),(6,(.int .i64 s8)),(7,(.int .i64 s13.1)),(8,(.int .i64 s13.2))]) (fun s13=>[]) H12 (.cons c<|.cons c<|.cons c<|.cons c<|.cons c<|.cons c<|.nil _) .slnil fun Rec14 s13 _ H15=>al<|M<|J c<|J c<|p (v_le c c)<|ad<|av c H15 (fun k16 H17=>ao<|ay<|M<|J c<|J c<|J c<|J c<|p (bw c c)<|J c<|J c<|aa<|Z H17 en_182 fun r43 _ H18=>ad<|M<|J c<|O c<|ar<|J c<|J c<|p (v_mul c c)<|p (bw c c)<|O c<|cR (s13.2,(IntKind.i64.wrap (s13.2 + (IntKind.i64.wrap (2 * s8))))) H18 (.cons c<|.cons c<|.cons c<|.cons c<|.cons c<|.cons c<|.nil _) .slnil) fun k16 H17=>bj<|al<|M<|J c<|J c<|p (bw c c)<|O c<|M<|J c<|J c<|p (cC c c)<|ad<|av c H17 (fun k19 H20=>ar<|J c<|J c<|J c<|J c<|J c<|aa<|Z H20 en_182 fun r60 _ H21=>ad<|ar<|J c<|p (v_mul c c)<|O c<|cR (IntKind.i64.wrap (s8 * 2)) H21 (.cons c<|.cons c<|.cons c<|.cons c<|.nil _) .slnil) fun k19 H20=>ao<|ar<|J c<|p (v_mul c c)<|O c<|cR (IntKind.i64.wrap (s8 * 2)) H20 (.cons c<|.cons c<|.cons c<|.cons c<|.nil _) .slnil) fun k11 H12=>bj<|end_i (res_0 c) ⟨(),c,H12⟩
def iL (a0:Sl) (a1:Value) (K:Unit→Hp→Prop):Hp→Prop:=cl Tryz.prog lx [(sv a0),(.int .i64 (a0.len:Int)),a1] R_ fun (_:Unit)=>K ()
theorem oh (a0:Sl) (a1:Value) {K:Unit→Hp→Prop} {h:Hp} (H:iL a0 a1 K h):Ct Tryz.prog fK #[(sv a0),a1] h fun v h'=>∃ r,v = R_ r∧K r h':=aw [(sv a0),a1] Tryz.func94 c c c fun _=>ar<|J c<|J c<|p (dA c Tryz.underlying39 c)<|J c<|aa<|Z H en_137 fun r8 _ H1=>ad<|end_i (res_0 c) ⟨(),c,H1⟩
def jR (a0:Sl) (K:Sl→Hp→Prop):Hp→Prop:=br a0.a.isNone ( K (⟨none,0,0,none⟩:Sl)) ( hpv Tryz.prog (Instr.buildSlice be 0 #[]) ce fun (v5:Sl)=>hpv Tryz.prog (Builtin.append_ #[be,be] be #[(sv v5),(sv a0)]) ce fun (v7:Sl)=>K v7)
theorem pU (a0:Sl) {K:Sl→Hp→Prop} {h:Hp} (H:jR a0 K h):Ct Tryz.prog gG #[(sv a0)] h fun v h'=>∃ r,v = ce r∧K r h':=aw [(sv a0)] Tryz.func180 c c c fun _=>M<|O c<|al<|M<|J c<|p (v_seqT Tryz.underlying93 c)<|ad<|av c H (fun k1 H2=>M<|O c<|aj<|Y ⟨(⟨none,0,0,none⟩:Sl),c,H2⟩) fun k1 H2=>ao<|M<|aa<|aS H2 (bo (vs:=[]) c) c fun v5 _ H3=>J c<|aa<|aS H3 (dH c c) c fun v7 _ H4=>O c<|aj<|Y ⟨v7,c,H4⟩
end Go.Proofs.YtemoifebbhoinaaGreatDoor
namespace Go.Proofs.YtemoifebbhoinaaGreatDoor
open Go Mb
abbrev vI (s:Sl) (xs:List Int):As:=vec kW 1 (cI .i64) s xs
def fu (a:Int):List Int→Int→Int
  | [],_=>-1
  | x::xs,i=>if a = x then i else fu a xs (i + 1)
theorem sp_slices_Index (s:Sl) (a:Int) (xs:List Int) (hb:xs.length < 2^62) :
    Sp Tryz.prog ke [sv s,.int .i64 a] eB [vI s xs] (fun r=>pa_ (r = fu a xs 0) [vI s xs]):=by
  intro h st
  refine uL _ _ ?_
  unfold nK
  refine Lp.intro (fun (i:Int) h=>∃ n:Nat,i = n∧n ≤ xs.length∧fu a (xs.drop n) n = fu a xs 0∧aG [vI s xs] h) (fun (i:Int) _=>xs.length - i.toNat) ⟨0,rfl,Nat.zero_le _,by simp,st⟩ ?_
  rintro i h ⟨n,rfl,hn,he,st⟩
  have hl:=(cj st (j:=0) rfl).1
  unfold jy
  refine ba (fun k=>?_) (fun k=>?_)
  · have hlt:n < xs.length:=by simp [hl] at k; exact k
    refine dC st (j:=0) rfl (by omega) (by omega) fun q hq=>?_
    refine eE (j:=0) (i:=n) (k:=0) xs[n] (dl _) st rfl hq (by simp) (aH hlt) (by simp) ?_
    have hd:xs.drop n = xs[n]::xs.drop (n + 1):=List.drop_eq_getElem_cons hlt
    rw [hd] at he
    refine ba (fun k2=>?_) (fun k2=>?_)
    · have k2':a = xs[n]:=by simpa using k2
      rw [fu,if_pos k2'] at he
      exact ⟨he,st⟩
    · have k2':¬ a = xs[n]:=by simpa using k2
      rw [fu,if_neg k2'] at he
      have hw:IntKind.i64.wrap ((n:Int) + 1) = ((n + 1:Nat):Int):=by rw [bR (by omega) (by omega)]; rfl
      rw [hw]
      exact ⟨⟨n + 1,rfl,hlt,by simpa using he,st⟩,by simp; omega⟩
  · have:n = xs.length:=by simp [hl] at k; omega
    subst this
    simp only [List.drop_length,fu] at he
    exact ⟨he,st⟩
def fX (x:Ptr) (p:List Int):As:=fun h=>∃ bs:Nat × Sl,(x = some (bs.1,0)∧p.length ≤ 16)∧aG [blk bs.1 qB [sv bs.2],vI bs.2 p] h
namespace Pool
def refs (p:List Int) (i:Int):Int:=if i < 0 then 0 else p.getD i.toNat 0
def take (p:List Int):Int × Bool × List Int :=
  if fu 0 p 0 < 0 then (0,false,p) else (fu 0 p 0,true,p.set (fu 0 p 0).toNat 1)
def hold (p:List Int) (i:Int):Bool × List Int :=
  if refs p i = 0∨refs p i ≥ 7 then (false,p) else (true,p.set i.toNat (IntKind.i64.wrap (refs p i + 1)))
def lets (p:List Int) (i:Int):Int × Bool × List Int :=
  if refs p i = 0 then (0,false,p) else (IntKind.i64.wrap (refs p i - 1),true,p.set i.toNat (IntKind.i64.wrap (refs p i - 1)))
def freeFrom:List Int→Int→List Int
  | [],_=>[]
  | x::xs,i=>if x = 0 then i::freeFrom xs (i + 1) else freeFrom xs (i + 1)
def free (p:List Int):List Int:=freeFrom p 0
end Pool
theorem idx_lt (a:Int):∀ (xs:List Int) (i:Int),fu a xs i = -1∨∃ n:Nat,n < xs.length∧fu a xs i = i + n
  | [],_=>.inl rfl
  | x::xs,i=>by
    unfold fu
    split
    · exact .inr ⟨0,by simp,by simp⟩
    · rcases idx_lt a xs (i + 1) with h | ⟨n,h1,h2⟩
      · exact .inl h
      · exact .inr ⟨n + 1,by simp; omega,by rw [h2]; omega⟩
theorem pool_op {x:Ptr} {p:List Int} {l:List As} {h:Hp} (s0:aG (fX x p::l) h):∃ b s,x = some (b,0)∧p.length ≤ 16∧s.len = p.length∧aG (blk b qB [sv s]::vI s p::l) h:=by
  obtain ⟨⟨b,s⟩,⟨hx,hb⟩,st⟩:=op_ s0
  exact ⟨b,s,hx,hb,(cj (j:=1) st rfl).1,st⟩
theorem rY {b:Nat} {s:Sl} {p:List Int} {l:List As} {h:Hp} (hb:p.length ≤ 16) (st:aG (blk b qB [sv s]::vI s p::l) h):aG (fX (some (b,0)) p::l) h:=cl_ (b,s) ⟨rfl,hb⟩ st
theorem sp_pool_New (n:Int) (h1:¬ n < 1) (h2:¬ n > 16):Sp Tryz.prog xa [.int .i64 n] so [] (fun r=>aG [fX r (List.replicate n.toNat 0)]):=by
  intro h st
  refine sim_pool_New _ ?_
  unfold sh_pool_New
  obtain ⟨m,rfl⟩:=Int.eq_ofNat_of_zero_le (show 0 ≤ n by omega)
  refine di (by simp; omega) ?_
  refine nS (τ:=Int) (x0:=0) (enc:=cI .i64) (n:=m) (T:=kW) (m:=1) el_Sint rfl st ?_ ?_ ?_
  · omega
  · omega
  · intro v h' s1
    refine pt s1 fun b h'' s2=>?_
    exact rY (by simp; omega) s2
theorem ws (x:Ptr) (p:List Int) (i:Int):Sp Tryz.prog jB [pv x,.int .i64 i] eB [fX x p] (fun r=>pa_ (r = Pool.refs p i) [fX x p]):=by
  intro h s0
  obtain ⟨b,s,rfl,hb,hl,st⟩:=pool_op s0
  refine sim_pool_Pool_Refs _ _ ?_
  unfold tS
  refine ba (fun k=>?_) (fun k=>?_)
  · have h0:0 ≤ i:=by simpa using k
    obtain ⟨n,rfl⟩:=Int.eq_ofNat_of_zero_le h0
    refine cE ?_
    refine bk s st (i:=0) rfl rfl rfl ?_
    refine ba (fun k2=>?_) (fun k2=>?_)
    · have:p.length ≤ n:=by rw [hl] at k2; simpa using k2
      exact aX (by simp [Pool.refs,this]) (rY hb st)
    · have hlt:n < p.length:=by rw [hl] at k2; simpa using k2
      refine bk s st (i:=0) rfl rfl rfl ?_
      refine dC st (j:=1) rfl (by omega) (by omega) fun q hq=>?_
      refine eE (j:=1) (i:=n) (k:=0) p[n] (dl _) st rfl hq (by simp) (aH hlt) (by simp) ?_
      refine aX ?_ (rY hb st)
      have:¬ ((n:Int) < 0):=by omega
      simp [Pool.refs,hlt,this]
  · have h0:i < 0:=by simpa using k
    exact aX (by simp [Pool.refs,h0]) (rY hb st)
theorem wq (x:Ptr) (p:List Int):Sp Tryz.prog jA [pv x] bL [fX x p] (fun r=>pa_ (r = ((Pool.take p).1,(Pool.take p).2.1)) [fX x (Pool.take p).2.2]):=by
  intro h s0
  obtain ⟨b,s,rfl,hb,hl,st⟩:=pool_op s0
  refine sim_pool_Pool_Take _ ?_
  unfold tR
  refine di rfl (cE ?_)
  refine bk s st (i:=0) rfl rfl rfl ?_
  refine cT [1] (sp_slices_Index s 0 p (by omega)) st rfl fun r h' s1=>?_
  obtain ⟨hr,s2⟩:=bp.1 s1
  subst hr
  refine ba (fun k=>?_) (fun k=>?_)
  · have k':fu 0 p 0 < 0:=by simpa using k
    have e:Pool.take p = (0,false,p):=if_pos k'
    rw [e]
    exact aX rfl (rY hb (bd [1] s2 rfl))
  · have k':¬ fu 0 p 0 < 0:=by simpa using k
    have e0:Pool.take p = (fu 0 p 0,true,p.set (fu 0 p 0).toNat 1):=if_neg k'
    rw [e0]
    rcases idx_lt 0 p 0 with e | ⟨n,h1,e⟩
    · omega
    · rw [Int.zero_add] at e
      refine bk s s2 (i:=1) rfl rfl rfl ?_
      rw [e]
      refine dC s2 (j:=0) rfl (by omega) (by omega) fun q hq=>?_
      refine st_v (j:=0) (i:=n) (k:=0) (1:Int) (dl _) s2 rfl hq (by simp) (aH h1) (by simp) rfl fun h2 s3=>?_
      exact aX rfl (rY (by simpa using hb) (bd [1] s3 rfl))
theorem refs_get {p:List Int} {i:Int} (h:Pool.refs p i ≠ 0):∃ n:Nat,i = n∧∃ hn:n < p.length,Pool.refs p i = p[n]:=by
  unfold Pool.refs at h ⊢
  by_cases h0:i < 0
  · rw [if_pos h0] at h; exact absurd rfl h
  · rw [if_neg h0] at h ⊢
    obtain ⟨n,rfl⟩:=Int.eq_ofNat_of_zero_le (show 0 ≤ i by omega)
    refine ⟨n,rfl,?_⟩
    by_cases hn:n < p.length
    · exact ⟨hn,by simp [hn]⟩
    · simp [List.getD_eq_getElem?_getD,List.getElem?_eq_none (Nat.le_of_not_lt hn)] at h
theorem sp_pool_Hold (x:Ptr) (p:List Int) (i:Int):Sp Tryz.prog lX [pv x,.int .i64 i] aC [fX x p] (fun r=>pa_ (r = (Pool.hold p i).1) [fX x (Pool.hold p i).2]):=by
  intro h s0
  refine sim_pool_Pool_Hold _ _ ?_
  unfold tT
  refine cT [0] (ws x p i) s0 rfl fun r h' s1=>?_
  obtain ⟨hr,s2⟩:=bp.1 s1
  subst hr
  refine ba (fun k=>?_) (fun k=>?_)
  · have k':Pool.refs p i = 0∨Pool.refs p i ≥ 7:=by simpa using k
    have e:Pool.hold p i = (false,p):=if_pos k'
    rw [e]
    exact aX rfl s2
  · have k':¬ (Pool.refs p i = 0∨Pool.refs p i ≥ 7):=by simpa using k
    have e:Pool.hold p i = (true,p.set i.toNat (IntKind.i64.wrap (Pool.refs p i + 1))):=if_neg k'
    rw [e]
    obtain ⟨n,rfl,hn,hg⟩:=refs_get (p:=p) (i:=i) (by omega)
    obtain ⟨b,s,rfl,hb,hl,st⟩:=pool_op s2
    refine cE ?_
    refine bk s st (i:=0) rfl rfl rfl ?_
    refine dC st (j:=1) rfl (by omega) (by omega) fun q hq=>?_
    refine eE (j:=1) (i:=n) (k:=0) p[n] (dl _) st rfl hq (by simp) (aH hn) (by simp) ?_
    refine st_v (j:=1) (i:=n) (k:=0) (IntKind.i64.wrap (p[n] + 1)) (dl _) st rfl hq (by simp) (aH hn) (by simp) rfl fun h2 s3=>?_
    rw [hg]
    exact aX rfl (rY (by simpa using hb) s3)
theorem sp_pool_Let (x:Ptr) (p:List Int) (i:Int):Sp Tryz.prog mZ [pv x,.int .i64 i] bL [fX x p] (fun r=>pa_ (r = ((Pool.lets p i).1,(Pool.lets p i).2.1)) [fX x (Pool.lets p i).2.2]):=by
  intro h s0
  refine sim_pool_Pool_Let _ _ ?_
  unfold vr
  refine cT [0] (ws x p i) s0 rfl fun r h' s1=>?_
  obtain ⟨hr,s2⟩:=bp.1 s1
  subst hr
  refine ba (fun k=>?_) (fun k=>?_)
  · have k':Pool.refs p i = 0:=by simpa using k
    have e:Pool.lets p i = (0,false,p):=if_pos k'
    rw [e]
    exact aX rfl s2
  · have k':¬ (Pool.refs p i = 0):=by simpa using k
    have e:Pool.lets p i = (IntKind.i64.wrap (Pool.refs p i - 1),true,p.set i.toNat (IntKind.i64.wrap (Pool.refs p i - 1))):=if_neg k'
    rw [e]
    obtain ⟨n,rfl,hn,hg⟩:=refs_get (p:=p) (i:=i) k'
    obtain ⟨b,s,rfl,hb,hl,st⟩:=pool_op s2
    refine cE ?_
    refine bk s st (i:=0) rfl rfl rfl ?_
    refine dC st (j:=1) rfl (by omega) (by omega) fun q hq=>?_
    refine eE (j:=1) (i:=n) (k:=0) p[n] (dl _) st rfl hq (by simp) (aH hn) (by simp) ?_
    refine st_v (j:=1) (i:=n) (k:=0) (IntKind.i64.wrap (p[n] - 1)) (dl _) st rfl hq (by simp) (aH hn) (by simp) rfl fun h2 s3=>?_
    refine bk s s3 (i:=0) rfl rfl rfl ?_
    refine dC s3 (j:=1) rfl (by omega) (by simp; omega) fun q2 hq2=>?_
    refine eE (j:=1) (i:=n) (k:=0) (IntKind.i64.wrap (p[n] - 1)) (dl _) s3 rfl hq2 (by simp) (x:=IntKind.i64.wrap (p[n] - 1)) (by simp [hn]) (by simp) ?_
    rw [hg]
    exact aX rfl (rY (by simpa using hb) s3)
theorem free_append:∀ (xs:List Int) (i:Int) (x:Int),Pool.freeFrom (xs++[x]) i = Pool.freeFrom xs i++(if x = 0 then [i + xs.length] else [])
  | [],i,x=>by simp only [List.nil_append,Pool.freeFrom]; split <;> simp
  | y::xs,i,x=>by
    simp only [List.cons_append,Pool.freeFrom]
    rw [free_append xs (i + 1) x]
    have e:i + 1 + (xs.length:Int) = i + ((y::xs).length:Int):=by simp; omega
    rw [e]
    split <;> simp
theorem free_len:∀ (xs:List Int) (i:Int),(Pool.freeFrom xs i).length ≤ xs.length
  | [],_=>Nat.le_refl _
  | x::xs,i=>by unfold Pool.freeFrom; have:=free_len xs (i + 1); split <;> simp <;> omega
theorem wg {l:List As} {h:Hp} {i:Nat} {s:Sl} {xs:List Int} {x:Int} {K:Sl→Hp→Prop} (st:aG l h) (hi:l[i]? = some (vI s xs)) (hb:xs.length < 2 ^ 40)
    (k:∀ v h',aG (l.set i (vI v (xs++[x]))) h'→K v h'):hpv Tryz.prog (Instr.buildSlice dI 1 #[(0,.int .i64 x)]) cu (fun y=>hpv Tryz.prog (Builtin.append_ #[dI,dI] dI #[sv s,sv y]) cu K) h:=by
  refine eS (τ:=Int) [x] (val:=fun x=>.int .i64 x) (enc:=cI .i64) el_Sint (dl _) (fun _=>rfl) st rfl rfl (by simp) fun y h' s1=>?_
  have hlt:=(List.getElem?_eq_some_iff.1 hi).1
  refine tF (τ:=Int) (i:=i + 1) (j:=0) (enc:=cI .i64) (ys:=[x]) el_Sint el_Sint.sl (dl _) (oneI _) s1 (by simpa using hi) rfl (by omega) (by simp; omega) (by simp; omega) fun v h2 s2=>?_
  exact k v h2 (cc (l:=[vI y [x]]) (by simpa using s2))
theorem sp_pool_Free (x:Ptr) (p:List Int):Sp Tryz.prog lY [pv x] cu [fX x p] (fun r=>aG [vI r (Pool.free p),fX x p]):=by
  intro h s0
  obtain ⟨b,s,rfl,hb,hl,st⟩:=pool_op s0
  refine sim_pool_Pool_Free _ ?_
  unfold tU
  refine di rfl (cE ?_)
  refine bk s st (i:=0) rfl rfl rfl ?_
  refine Lp.intro (fun (z:Sl × Int) h=>∃ n:Nat,z.2 = n∧n ≤ p.length∧aG [vI z.1 (Pool.freeFrom (p.take n) 0),blk b qB [sv s],vI s p] h) (fun (z:Sl × Int) _=>p.length - z.2.toNat) ⟨0,rfl,Nat.zero_le _,fN st⟩ ?_
  rintro ⟨z,i⟩ h ⟨n,rfl,hn,s1⟩
  unfold oI
  refine ba (fun k=>?_) (fun k=>?_)
  · have hlt:n < p.length:=by rw [hl] at k; simpa using k
    have hw:IntKind.i64.wrap ((n:Int) + 1) = ((n + 1:Nat):Int):=by rw [bR (by omega) (by omega)]; rfl
    have ht:p.take (n + 1) = p.take n++[p[n]]:=by simp
    have hlen:((p.take n).length:Int) = n:=by simp; omega
    refine dC s1 (j:=2) rfl (by omega) (by show (n:Int) < _; omega) fun q hq=>?_
    refine eE (j:=2) (i:=n) (k:=0) p[n] (dl _) s1 rfl hq (by simp) (aH hlt) (by simp) ?_
    refine ba (fun k2=>?_) (fun k2=>?_)
    · have k2':p[n] = 0:=by simpa using k2
      refine wg s1 (i:=0) rfl ?_ fun v h' s2=>?_
      · have:=free_len (p.take n) 0; simp at this ⊢; omega
      · rw [hw]
        refine ⟨⟨n + 1,rfl,hlt,?_⟩,by simp; omega⟩
        rw [ht,free_append,if_pos k2',hlen,Int.zero_add]
        exact s2
    · have k2':¬ p[n] = 0:=by simpa using k2
      rw [hw]
      refine ⟨⟨n + 1,rfl,hlt,?_⟩,by simp; omega⟩
      rw [ht,free_append,if_neg k2',List.append_nil]
      exact s1
  · have:n = p.length:=by rw [hl] at k; simp at k; omega
    subst this
    rw [List.take_length] at s1
    exact kD (.cons _ (.refl _)) (bd (l:=[vI z (Pool.freeFrom p 0),fX (some (b,0)) p]) [0] (by
      have:=bd [1,1] s1 rfl
      exact bd [1] (rY hb this) rfl) rfl)
def Pool.bitsOf (w:Int):List Int→Int
  | []=>w
  | i::l=>Pool.bitsOf (ior .u64 w (IntKind.u64.wrap (1 * 2 ^ (min (Int.toNat i) (IntKind.bits .u64))))) l
def Pool.bits (p:List Int):Int:=Pool.bitsOf 0 (Pool.free p)
theorem free_ge:∀ (xs:List Int) (i:Int),0 ≤ i→∀ j ∈ Pool.freeFrom xs i,0 ≤ j
  | [],_,_,_,h=>by cases h
  | x::xs,i,hi,j,h=>by
    unfold Pool.freeFrom at h
    split at h
    · rcases List.mem_cons.1 h with rfl | h
      · exact hi
      · exact free_ge xs (i + 1) (by omega) j h
    · exact free_ge xs (i + 1) (by omega) j h
theorem bits_append (a:Int):∀ (l:List Int) (w:Int),Pool.bitsOf w (l++[a]) = ior .u64 (Pool.bitsOf w l) (IntKind.u64.wrap (1 * 2 ^ (min (Int.toNat a) (IntKind.bits .u64))))
  | [],_=>rfl
  | _::l,w=>by simp only [List.cons_append,Pool.bitsOf]; exact bits_append a l _
theorem sp_pool_Bits (x:Ptr) (p:List Int):Sp Tryz.prog pX [pv x] gS [fX x p] (fun r=>pa_ (r = Pool.bits p) [fX x p]):=by
  intro h s0
  have hp16:p.length ≤ 16:=by obtain ⟨_,_,_,hb,_⟩:=pool_op s0; exact hb
  refine sim_pool_Pool_Bits _ ?_
  unfold tV
  refine cT [0] (sp_pool_Free x p) s0 rfl fun r h1 s1=>?_
  have s2:=dD s1
  have hl:=(cj (j:=0) s2 rfl).1
  have hfl:=free_len p 0
  refine Lp.intro (fun (z:Int × Int) h=>∃ n:Nat,z.2 = n∧n ≤ (Pool.free p).length∧z.1 = Pool.bitsOf 0 ((Pool.free p).take n)∧aG [vI r (Pool.free p),fX x p] h) (fun (z:Int × Int) _=>(Pool.free p).length - z.2.toNat) ⟨0,rfl,Nat.zero_le _,rfl,s2⟩ ?_
  rintro ⟨w,i⟩ h ⟨n,rfl,hn,rfl,s3⟩
  unfold oJ
  refine ba (fun k=>?_) (fun k=>?_)
  · have hlt:n < (Pool.free p).length:=by rw [hl] at k; simpa using k
    have hw:IntKind.i64.wrap ((n:Int) + 1) = ((n + 1:Nat):Int):=by
      have:(Pool.free p).length ≤ 16:=by unfold Pool.free; omega
      rw [bR (by omega) (by omega)]; rfl
    refine dC s3 (j:=0) rfl (by omega) (by show (n:Int) < _; omega) fun q hq=>?_
    refine eE (j:=0) (i:=n) (k:=0) (Pool.free p)[n] (dl _) s3 rfl hq (by simp) (aH hlt) (by simp) ?_
    refine ⟨free_ge p 0 (Int.le_refl _) _ (List.getElem_mem hlt),?_⟩
    rw [hw]
    refine ⟨⟨n + 1,rfl,hlt,?_,s3⟩,by simp; omega⟩
    have ht:(Pool.free p).take (n + 1) = (Pool.free p).take n++[(Pool.free p)[n]]:=by simp
    rw [ht,bits_append]
  · have:n = (Pool.free p).length:=by rw [hl] at k; simp at k; omega
    subst this
    refine aX ?_ (cc (l:=[vI r (Pool.free p)]) s3)
    rw [List.take_length]; rfl
end Go.Proofs.YtemoifebbhoinaaGreatDoor
namespace Go.Proofs.YtemoifebbhoinaaGreatDoor
open Go Mb
set_option linter.unusedVariables false
def sh_table_New (K:Ptr→Hp→Prop):Hp→Prop:=hpv Tryz.prog (Instr.build kC #[]) encL fun (v1:(List Value))=>nw kC v1 fun b2=>K (some (b2,0))
theorem sim_table_New {K:Ptr→Hp→Prop} {h:Hp} (H:sh_table_New K h):Ct Tryz.prog lw #[] h fun v h'=>∃ r,v = iv r∧K r h':=aw [] Tryz.func107 c c c fun _=>M<|O c<|M<|aa<|aS H (x_build (vs:=[]) c) c fun v1 _ H1=>aa<|ie c c c H1 fun b2 _ H2=>O c<|aj<|Y ⟨some (b2,0),c,H2⟩
def iK (a0:Ptr) (a1:Int) (K:(am × Bool)→Hp→Prop) (s1:Bool):Hp→Prop:=br s1 ( K ((⟨0,0,0⟩:am),false)) ( nn a0 fun q26=>gd (0 ≤ a1∧a1 < 8)<|ld (q26.1,q26.2 + 0 + Int.toNat a1 * 3) am.C fun x29=>K (x29,true))
def tQ (a0:Ptr) (a1:Int) (K:(am × Bool)→Hp→Prop):Hp→Prop:=br (!(a0.isNone || (!(bt a1)))) ( nn a0 fun q16=>gd (0 ≤ a1∧a1 < 8)<|ld (q16.1,q16.2 + 0 + Int.toNat a1 * 3 + 2) (cI .i64) fun x20=>iK a0 a1 K (x20 == 0)) ( iK a0 a1 K true)
theorem sim_table_Table_At (a0:Ptr) (a1:Int) {K:(am × Bool)→Hp→Prop} {h:Hp} (H:tQ a0 a1 K h):Ct Tryz.prog eZ #[(pv a0),(.int .i64 a1)] h fun v h'=>∃ r,v = cJ r∧K r h':=aw [(pv a0),(.int .i64 a1)] Tryz.func135 c c c fun _=>M<|aa<|aI (l:=am.C (⟨0,0,0⟩:am)) ga c c fun b4=>O c<|al<|eo (iK a0 a1 K) (fun s1=>[(0,(pv a0)),(1,(.int .i64 a1)),(4,(.pointer (some ⟨b4,0,none⟩))),(22,(.bool s1))]) (fun s1=>[bx b4 79 (am.C (⟨0,0,0⟩:am))]) (ar<|J c<|p (cn Tryz.underlying161 c)<|J c<|V c c (aJ _) (fun g10=>wv<|ai c)<|db (vs:=[(.int .i64 a1)]) c c c (aJ _) (fun g11=>bu<|uD a1 _) en_156 (fun g11=>aT (aD c g11) bQ) c<|V c c (aJ _) (fun g12=>wv<|cq<|aD c g12)<|p (dm c c)<|J c<|V c c (aJ _) (fun g13=>wv<|ai c)<|V c c (aJ _) (fun g14=>wv<|ai c)<|bU H (fun k16 H17=>bF H17 fun q16 e18 H19=>F (D<|ch k16)<|R (aL<|aN (aD c k16)<|ap e18)<|F (D<|ch k16)<|R (ae kF c)<|jl H19 fun h20 H21=>F (D<|ch k16)<|R (bz xx c (aD c k16) h20)<|F (D<|ch k16)<|R (ae eL c)<|F (D<|ch k16)<|aW H21 bb c (fun _=>c) c fun x20 H22=>F (D<|ch k16)<|R (bO c c)<|p (aq c (ch k16) c)<|ad<|cG (x20 == 0) H22 (.cons c<|.cons c<|.cons c<|.cons c<|.nil _)<|.cons_cons _ .slnil) fun k16 H17=>W (cd<|bJ k16)<|W (cd<|bJ k16)<|W (cd<|bJ k16)<|W (cd<|bJ k16)<|W (cd<|bJ k16)<|W (cd<|bJ k16)<|p (aU c (bJ k16) c)<|ad<|cG true H17 (.cons c<|.cons c<|.cons c<|.cons c<|.nil _)<|.cons_cons _ .slnil) fun s1 _ H2=>av c H2 (fun k3 H4=>M<|p (aY (vs:=[]) c mU)<|aa<|aO (k:=0) (vs:=am.C (⟨0,0,0⟩:am)) dQ c c c c c c c<|O c<|aj<|bv (bN c (bD (k:=0) c fH c c)<|bY c) ⟨((⟨0,0,0⟩:am),false),c,H4⟩) fun k3 H4=>ao<|M<|J c<|J c<|bF H4 fun q26 e5 H6=>p (aL<|aN c<|ap e5)<|p (ae kF c)<|jl H6 fun h7 H8=>p (bz xx c c h7)<|aa<|gT H8 fH c (fun _=>c) c fun x29 H9=>aa<|aO (k:=0) (vs:=am.C x29) dQ c c c c c c c<|O c<|aj<|bv (bN c (bD (k:=0) c fH c c)<|bY c) ⟨(x29,true),c,H9⟩
def px (a0:Ptr) (a1:Int) (a2:am) (K:Int→Hp→Prop):Hp→Prop:=br a0.isNone ( K 10) ( br (((!(eV a2).2) || (a2.fRights == 0)) || (!(bt a1))) ( K 2) ( nn a0 fun q30=>gd (0 ≤ a1∧a1 < 8)<|ld (q30.1,q30.2 + 0 + Int.toNat a1 * 3 + 2) (cI .i64) fun x34=>br (x34 != 0) ( K 4) ( st (q30.1,q30.2 + 0 + Int.toNat a1 * 3) (am.C a2)<|K 0)))
theorem wz (a0:Ptr) (a1:Int) (a2:am) {K:Int→Hp→Prop} {h:Hp} (H:px a0 a1 a2 K h):Ct Tryz.prog dY #[(pv a0),(.int .i64 a1),(.agg (am.C a2).toArray)] h fun v h'=>∃ r,v = bh r∧K r h':=aw [(pv a0),(.int .i64 a1),(.agg (am.C a2).toArray)] Tryz.func112 c c c fun _=>M<|aa<|cQ (l:=am.C a2) c c c fun b5=>O c<|al<|M<|J c<|p (cn Tryz.underlying161 c)<|ad<|av c H (fun k1 H2=>M<|O c<|aj<|Y ⟨10,c,H2⟩) fun k1 H2=>ao<|al<|M<|bi (bC (k:=0) fH c c c c) c<|aa<|cN (vs:=[(.agg (am.C a2).toArray)]) (bu<|ct_pte_Put a2 _) en_155 c c<|J c<|p (ak c c)<|p (ak c c)<|p (au c)<|O c<|M<|J c<|p (cq c)<|J c<|V c c (aJ _) (fun g3=>wv<|ae eL c)<|V c c (aJ _) (fun g4=>cv<|bf (k:=0) bb (aD c g4) c c)<|V c c (aJ _) (fun g5=>wv<|bO (aD c g5) c)<|p (dm c c)<|J c<|V c c (aJ _) (fun g6=>wv<|ai c)<|db (vs:=[(.int .i64 a1)]) c c c (aJ _) (fun g7=>bu<|uD a1 _) en_156 (fun g7=>aT (aD c g7) bQ) c<|V c c (aJ _) (fun g8=>wv<|cq<|aD c g8)<|p (dm c c)<|ad<|av c H2 (fun k9 H10=>M<|O c<|aj<|Y ⟨2,c,H10⟩) fun k9 H10=>ao<|al<|M<|J c<|J c<|bF H10 fun q30 e11 H12=>p (aL<|aN c<|ap e11)<|p (ae kF c)<|jl H12 fun h13 H14=>p (bz xx c c h13)<|p (ae eL c)<|aa<|aW H14 bb c (fun _=>c) c fun x34 H15=>p (nh c c)<|ad<|av c H15 (fun k16 H17=>M<|O c<|aj<|Y ⟨4,c,H17⟩) fun k16 H17=>ao<|al<|bm (n:=7) [bx b5 79 (am.C a2)] cx c (.cons_cons _ .slnil)<|U 0 c (ai<|aN c<|ap e11)<|U 1 c (ai c)<|z_E 2 c (eq (k:=0) fH c c c c)<|U 3 c (aL c)<|U 4 c (ae kF c)<|U 5 c (bz xx c c h13)<|G 6 c<|dy dQ c c c c c H17 fun _ H18=>⟨.cons_cons _ .slnil,aV (by kernel_rfl)<|M<|O c<|aj<|Y ⟨0,c,H18⟩⟩
def pw (a0:Ptr) (a1:Int) (K:(am × Int)→Hp→Prop):Hp→Prop:=br a0.isNone ( K ((⟨0,0,0⟩:am),10)) ( br (!(bt a1)) ( K ((⟨0,0,0⟩:am),2)) ( nn a0 fun q19=>gd (0 ≤ a1∧a1 < 8)<|ld (q19.1,q19.2 + 0 + Int.toNat a1 * 3 + 2) (cI .i64) fun x23=>br (x23 == 0) ( K ((⟨0,0,0⟩:am),3)) ( ld (q19.1,q19.2 + 0 + Int.toNat a1 * 3) am.C fun x31=>st (q19.1,q19.2 + 0 + Int.toNat a1 * 3) (am.C (⟨0,0,0⟩:am))<|K (x31,0))))
theorem wx (a0:Ptr) (a1:Int) {K:(am × Int)→Hp→Prop} {h:Hp} (H:pw a0 a1 K h):Ct Tryz.prog iS #[(pv a0),(.int .i64 a1)] h fun v h'=>∃ r,v = jv r∧K r h':=aw [(pv a0),(.int .i64 a1)] Tryz.func128 c c c fun _=>M<|aa<|aI (l:=am.C (⟨0,0,0⟩:am)) ga c c fun b4=>O c<|al<|ay<|M<|J c<|p (cn Tryz.underlying161 c)<|O c<|av c H (fun k1 H2=>M<|p (aY (vs:=[]) c mU)<|aa<|aO (k:=0) (vs:=am.C (⟨0,0,0⟩:am)) dQ c c c c c c c<|O c<|aj<|bv (bN c (bD (k:=0) c fH c c)<|bY c) ⟨((⟨0,0,0⟩:am),10),c,H2⟩) fun k1 H2=>M<|J c<|aa<|cN (vs:=[(.int .i64 a1)]) (bu<|uD a1 _) en_156 c c<|p (cq c)<|O c<|av c H2 (fun k3 H4=>M<|p (aY (vs:=[]) c mU)<|aa<|aO (k:=0) (vs:=am.C (⟨0,0,0⟩:am)) dQ c c c c c c c<|O c<|aj<|bv (bN c (bD (k:=0) c fH c c)<|bY c) ⟨((⟨0,0,0⟩:am),2),c,H4⟩) fun k3 H4=>M<|J c<|J c<|bF H4 fun q19 e5 H6=>p (aL<|aN c<|ap e5)<|p (ae kF c)<|jl H6 fun h7 H8=>p (bz xx c c h7)<|p (ae eL c)<|aa<|aW H8 bb c (fun _=>c) c fun x23 H9=>p (bO c c)<|O c<|av c H9 (fun k10 H11=>M<|p (aY (vs:=[]) c mU)<|aa<|aO (k:=0) (vs:=am.C (⟨0,0,0⟩:am)) dQ c c c c c c c<|O c<|aj<|bv (bN c (bD (k:=0) c fH c c)<|bY c) ⟨((⟨0,0,0⟩:am),3),c,H11⟩) fun k10 H11=>ao<|M<|J (aN c<|ap e5)<|J c<|p (aL c)<|p (ae kF c)<|p (bz xx c c h7)<|aa<|gT H11 fH c (fun _=>c) c fun x31 H12=>aa<|aI (l:=am.C (⟨0,0,0⟩:am)) ga c c fun b6=>aa<|aO (k:=0) (vs:=am.C x31) dQ c c c c c c c<|ad<|M<|J (aN c<|ap e5)<|J c<|p (aY (vs:=[]) c mU)<|p (aL c)<|p (ae kF c)<|p (bz xx c c h7)<|aa<|dy dQ c c c c c H12 fun _ H13=>ad<|M<|bi (bC (k:=0) fH c c c c) c<|aa<|aO (k:=1) (vs:=am.C x31) dQ c c c c c c c<|O c<|aj<|bv (bN c (bD (k:=1) c fH c c)<|bY c) ⟨(x31,0),c,H13⟩
def oq (a1:Int) (K:Sl→Hp→Prop) (v13:(List Value)) (Rec8:(Sl × Int)→Hp→Prop) (s7:Sl × Int):Hp→Prop:=br (decide (s7.2 < 8)) ( hpv Tryz.prog (Instr.index tO (.agg v13.toArray) (.int .i64 s7.2)) wj fun (v17:am)=>br ((v17.fRights != 0) && (v17.fSlot == a1)) ( hpv Tryz.prog (Instr.buildSlice dI 1 #[(0,(.int .i64 s7.2))]) cu fun (v29:Sl)=>hpv Tryz.prog (Builtin.append_ #[dI,dI] dI #[(sv s7.1),(sv v29)]) cu fun (v30:Sl)=>Rec8 (v30,(IntKind.i64.wrap (s7.2 + 1)))) ( Rec8 (s7.1,(IntKind.i64.wrap (s7.2 + 1))))) ( K s7.1)
def tP (a0:Ptr) (a1:Int) (K:Sl→Hp→Prop):Hp→Prop:=br a0.isNone ( K (⟨none,0,0,none⟩:Sl)) ( nn a0 fun q11=>hpv Tryz.prog (Instr.loadAt tO (.pointer (some ⟨q11.1,q11.2 + 0,none⟩))) encL fun (v13:(List Value))=>Lp (oq a1 K v13) ((⟨none,0,0,none⟩:Sl),0))
theorem sim_table_Table_By (a0:Ptr) (a1:Int) {K:Sl→Hp→Prop} {h:Hp} (H:tP a0 a1 K h):Ct Tryz.prog lW #[(pv a0),(.int .i64 a1)] h fun v h'=>∃ r,v = cu r∧K r h':=aw [(pv a0),(.int .i64 a1)] Tryz.func176 c c c fun _=>M<|O c<|al<|M<|J c<|p (cn Tryz.underlying161 c)<|ad<|av c H (fun k1 H2=>M<|O c<|aj<|Y ⟨(⟨none,0,0,none⟩:Sl),c,H2⟩) fun k1 H2=>ao<|M<|O c<|al<|M<|J c<|bF H2 fun q11 e3 H4=>p (aL<|aN c<|ap e3)<|p (ae kF c)<|aa<|aS H4 (x_load c) c fun v13 _ H6=>J c<|ad<|ay<|bE (step:=oq a1 K v13) (fun s7=>[(1,(.int .i64 a1)),(5,(sv s7.1)),(13,(.agg v13.toArray)),(14,(.int .i64 s7.2))]) (fun s7=>[]) H6 (.cons c<|.cons c<|.cons c<|.cons c<|.nil _) .slnil fun Rec8 s7 _ H9=>M<|p (cC c c)<|ad<|al<|av c H9 (fun k10 H11=>ao<|al<|ay<|M<|J c<|aa<|aS H11 (x_index c c) c fun v17 _ H12=>aa<|aI (l:=am.C (⟨0,0,0⟩:am)) ga c c fun b7=>p (au c)<|aa<|aO (k:=0) (vs:=am.C v17) dQ c c c c c c c<|ad<|M<|p (ae eL c)<|bi (bf (k:=0) bb c c c) c<|p (nh c c)<|J c<|V c c (az _) (fun g13=>wv<|ae tn c)<|V c c (az _) (fun g14=>cv<|bf (k:=0) bb (aD c g14) c c)<|V c c (az _) (fun g15=>wv<|ai c)<|V c c (az _) (fun g16=>wv<|bO (aD c g16)<|aD c g16)<|p (bS c c)<|ad<|av c H12 (fun k17 H18=>ar<|J c<|J c<|aa<|aS H18 (bo (vs:=[(.int .i64 s7.2)]) c) c fun v29 _ H19=>aa<|aS H19 (dH c c) c fun v30 _ H20=>O c<|ar<|p (bw c c)<|J c<|ad<|cR (v30,(IntKind.i64.wrap (s7.2 + 1))) H20 (.cons c<|.cons c<|.cons c<|.cons c<|.nil _)<|.cons _ .slnil) fun k17 H18=>ao<|ar<|p (bw c c)<|J c<|ad<|cR (s7.1,(IntKind.i64.wrap (s7.2 + 1))) H18 (.cons c<|.cons c<|.cons c<|.cons c<|.nil _)<|.cons _ .slnil) fun k10 H11=>bj<|M<|J c<|O c<|aj<|Y ⟨s7.1,c,H11⟩
def oz (a0:Ptr) (a1:Int) (a2:Int) (K:Int→Hp→Prop):Hp→Prop:=br a0.isNone ( K 10) ( br ((!(bt a1)) || (!(cg a2))) ( K 2) ( nn a0 fun q22=>gd (0 ≤ a1∧a1 < 8)<|ld (q22.1,q22.2 + 0 + Int.toNat a1 * 3 + 2) (cI .i64) fun x26=>br (x26 == 0) ( K 3) ( st (q22.1,q22.2 + 0 + Int.toNat a1 * 3 + 2) [.int .i64 a2]<|K 0)))
theorem vd (a0:Ptr) (a1:Int) (a2:Int) {K:Int→Hp→Prop} {h:Hp} (H:oz a0 a1 a2 K h):Ct Tryz.prog kL #[(pv a0),(.int .i64 a1),(.int .i64 a2)] h fun v h'=>∃ r,v = bh r∧K r h':=aw [(pv a0),(.int .i64 a1),(.int .i64 a2)] Tryz.func178 c c c fun _=>M<|O c<|al<|ay<|M<|J c<|p (cn Tryz.underlying161 c)<|O c<|av c H (fun k1 H2=>M<|O c<|aj<|Y ⟨10,c,H2⟩) fun k1 H2=>M<|J c<|aa<|cN (vs:=[(.int .i64 a1)]) (bu<|uD a1 _) en_156 c c<|p (cq c)<|J c<|V c c (aJ _) (fun g3=>wv<|ai c)<|db (vs:=[(.int .i64 a2)]) c c c (aJ _) (fun g4=>bu<|qj a2 _) en_166 (fun g4=>aT (aD c g4) bQ) c<|V c c (aJ _) (fun g5=>wv<|cq<|aD c g5)<|p (dm c c)<|O c<|av c H2 (fun k6 H7=>M<|O c<|aj<|Y ⟨2,c,H7⟩) fun k6 H7=>M<|J c<|J c<|bF H7 fun q22 e8 H9=>p (aL<|aN c<|ap e8)<|p (ae kF c)<|jl H9 fun h10 H11=>p (bz xx c c h10)<|p (ae eL c)<|aa<|aW H11 bb c (fun _=>c) c fun x26 H12=>p (bO c c)<|O c<|av c H12 (fun k13 H14=>M<|O c<|aj<|Y ⟨3,c,H14⟩) fun k13 H14=>ao<|M<|J (aN c<|ap e8)<|J c<|J c<|p (aL c)<|p (ae kF c)<|p (bz xx c c h10)<|p (ae eL c)<|aa<|dy qU c c c c c H14 fun _ H15=>ad<|M<|O c<|aj<|Y ⟨0,c,H15⟩
end Go.Proofs.YtemoifebbhoinaaGreatDoor
namespace Go.Proofs.YtemoifebbhoinaaGreatDoor
open Go Mb
abbrev Pte:=am
theorem jq (p:Pte):p.C.length = 3:=rfl
abbrev dh:Pte:=⟨0,0,0⟩
def cZ (x:Ptr) (ps:List Pte):As:=fun h=>∃ b:Nat,(x = some (b,0)∧ps.length = 8)∧aG [blk b kC ([]++(ps.flatMap am.C++[]))] h
theorem table_op {x:Ptr} {ps:List Pte} {l:List As} {h:Hp} (s0:aG (cZ x ps::l) h):∃ b,x = some (b,0)∧ps.length = 8∧aG (blk b kC ([]++(ps.flatMap am.C++[]))::l) h:=by
  obtain ⟨b,⟨hx,hb⟩,st⟩:=op_ s0
  exact ⟨b,hx,hb,st⟩
theorem iJ {b:Nat} {ps:List Pte} {l:List As} {h:Hp} (hb:ps.length = 8) (st:aG (blk b kC ([]++(ps.flatMap am.C++[]))::l) h):aG (cZ (some (b,0)) ps::l) h:=cl_ b ⟨rfl,hb⟩ st
namespace Table
def at_ (ps:List Pte) (i:Int):Pte:=ps.getD i.toNat dh
def get (ps:List Pte) (i:Int):Pte × Bool:=if bt i = true∧(at_ ps i).fRights ≠ 0 then (at_ ps i,true) else (dh,false)
def insert (ps:List Pte) (i:Int) (p:Pte):Int × List Pte :=
  if (eV p).2 = false∨p.fRights = 0∨bt i = false then (2,ps) else if (at_ ps i).fRights ≠ 0 then (4,ps) else (0,ps.set i.toNat p)
def protect (ps:List Pte) (i r:Int):Int × List Pte :=
  if bt i = false∨cg r = false then (2,ps) else if (at_ ps i).fRights = 0 then (3,ps) else (0,ps.set i.toNat { at_ ps i with fRights:=r })
def remove (ps:List Pte) (i:Int):(Pte × Int) × List Pte :=
  if bt i = false then ((dh,2),ps) else if (at_ ps i).fRights = 0 then ((dh,3),ps) else ((at_ ps i,0),ps.set i.toNat dh)
def byFrom (s:Int):List Pte→Int→List Int
  | [],_=>[]
  | p::ps,i=>if p.fRights ≠ 0∧p.fSlot = s then i::byFrom s ps (i + 1) else byFrom s ps (i + 1)
def by_ (ps:List Pte) (s:Int):List Int:=byFrom s ps 0
end Table
theorem mJ {i:Int} (h:bt i = true):∃ n:Nat,i = n∧n < 8:=by
  unfold bt at h
  simp at h
  exact ⟨i.toNat,by omega,by omega⟩
theorem table_new_run (K:Value→Hp→Prop) (h:Hp):hp Tryz.prog (Instr.build kC #[]) K h = K (.agg ((List.replicate 8 dh).flatMap am.C).toArray) h:=by kernel_rfl
theorem ov:Sp Tryz.prog lw [] iv [] (fun r=>aG [cZ r (List.replicate 8 dh)]):=by
  intro h st
  refine sim_table_New ?_
  unfold sh_table_New
  refine ⟨?_⟩
  rw [table_new_run]
  refine ⟨_,rfl,?_⟩
  refine pt st fun b h' s1=>?_
  exact iJ rfl s1
theorem kw (x:Ptr) (ps:List Pte) (i:Int) (p:Pte):Sp Tryz.prog dY [pv x,.int .i64 i,.agg p.C.toArray] bh [cZ x ps] (fun r=>pa_ (r = (Table.insert ps i p).1) [cZ x (Table.insert ps i p).2]):=by
  intro h s0
  obtain ⟨b,rfl,hb,st⟩:=table_op s0
  refine wz _ _ _ ?_
  unfold px
  refine di rfl ?_
  refine ba (fun k=>?_) (fun k=>?_)
  · have k':(eV p).2 = false∨p.fRights = 0∨bt i = false:=by simpa [or_assoc] using k
    have e:Table.insert ps i p = (2,ps):=if_pos k'
    rw [e]
    exact aX rfl (iJ hb st)
  · have k':¬ ((eV p).2 = false∨p.fRights = 0∨bt i = false):=by simp at k; simp [k]
    obtain ⟨n,rfl,hn⟩:=mJ (i:=i) (by simp at k'; exact k'.2.2)
    have hn':n < ps.length:=by omega
    have hat:Table.at_ ps n = ps[n]:=by simp [Table.at_,hn']
    refine cE ⟨⟨by omega,by omega⟩,?_⟩
    refine ld_a (j:=0) (i:=n) (k:=2) ps[n].fRights jq st rfl (by simp) (aH hn') (c1 rfl rfl) ?_
    refine ba (fun k2=>?_) (fun k2=>?_)
    · have k2':(Table.at_ ps n).fRights ≠ 0:=by rw [hat]; simpa using k2
      have e:Table.insert ps n p = (4,ps):=by unfold Table.insert; rw [if_neg k',if_pos k2']
      rw [e]
      exact aX rfl (iJ hb st)
    · have k2':¬ (Table.at_ ps n).fRights ≠ 0:=by rw [hat]; simpa using k2
      have e:Table.insert ps n p = (0,ps.set n p):=by unfold Table.insert; rw [if_neg k',if_neg k2']; rfl
      rw [e]
      refine st_a (j:=0) (i:=n) (k:=0) p jq st rfl (by simp) (aH hn') (by simp [jq]) rfl fun h2 s2=>?_
      exact aX rfl (iJ (by simpa using hb) s2)
theorem sp_table_Protect (x:Ptr) (ps:List Pte) (i r:Int):Sp Tryz.prog kL [pv x,.int .i64 i,.int .i64 r] bh [cZ x ps] (fun v=>pa_ (v = (Table.protect ps i r).1) [cZ x (Table.protect ps i r).2]):=by
  intro h s0
  obtain ⟨b,rfl,hb,st⟩:=table_op s0
  refine vd _ _ _ ?_
  unfold oz
  refine di rfl ?_
  refine ba (fun k=>?_) (fun k=>?_)
  · have k':bt i = false∨cg r = false:=by simpa using k
    have e:Table.protect ps i r = (2,ps):=if_pos k'
    rw [e]
    exact aX rfl (iJ hb st)
  · have k':¬ (bt i = false∨cg r = false):=by simp at k; simp [k]
    obtain ⟨n,rfl,hn⟩:=mJ (i:=i) (by simp at k'; exact k'.1)
    have hn':n < ps.length:=by omega
    have hat:Table.at_ ps n = ps[n]:=by simp [Table.at_,hn']
    refine cE ⟨⟨by omega,by omega⟩,?_⟩
    refine ld_a (j:=0) (i:=n) (k:=2) ps[n].fRights jq st rfl (by simp) (aH hn') (c1 rfl rfl) ?_
    refine ba (fun k2=>?_) (fun k2=>?_)
    · have k2':(Table.at_ ps n).fRights = 0:=by rw [hat]; simpa using k2
      have e:Table.protect ps n r = (3,ps):=by unfold Table.protect; rw [if_neg k',if_pos k2']
      rw [e]
      exact aX rfl (iJ hb st)
    · have k2':¬ (Table.at_ ps n).fRights = 0:=by rw [hat]; simpa using k2
      have e:Table.protect ps n r = (0,ps.set n { ps[n] with fRights:=r }):=by unfold Table.protect; rw [if_neg k',if_neg k2',hat]; rfl
      rw [e]
      refine st_a (j:=0) (i:=n) (k:=2) { ps[n] with fRights:=r } jq st rfl (by simp) (aH hn') (by simp) rfl fun h2 s2=>?_
      exact aX rfl (iJ (by simpa using hb) s2)
theorem sp_table_Remove (x:Ptr) (ps:List Pte) (i:Int):Sp Tryz.prog iS [pv x,.int .i64 i] jv [cZ x ps] (fun v=>pa_ (v = (Table.remove ps i).1) [cZ x (Table.remove ps i).2]):=by
  intro h s0
  obtain ⟨b,rfl,hb,st⟩:=table_op s0
  refine wx _ _ ?_
  unfold pw
  refine di rfl ?_
  refine ba (fun k=>?_) (fun k=>?_)
  · have k':bt i = false:=by simpa using k
    have e:Table.remove ps i = ((dh,2),ps):=if_pos k'
    rw [e]
    exact aX rfl (iJ hb st)
  · have k':¬ (bt i = false):=by simp at k; simp [k]
    obtain ⟨n,rfl,hn⟩:=mJ (i:=i) (by simp at k'; exact k')
    have hn':n < ps.length:=by omega
    have hat:Table.at_ ps n = ps[n]:=by simp [Table.at_,hn']
    refine cE ⟨⟨by omega,by omega⟩,?_⟩
    refine ld_a (j:=0) (i:=n) (k:=2) ps[n].fRights jq st rfl (by simp) (aH hn') (c1 rfl rfl) ?_
    refine ba (fun k2=>?_) (fun k2=>?_)
    · have k2':(Table.at_ ps n).fRights = 0:=by rw [hat]; simpa using k2
      have e:Table.remove ps n = ((dh,3),ps):=by unfold Table.remove; rw [if_neg k',if_pos k2']
      rw [e]
      exact aX rfl (iJ hb st)
    · have k2':¬ (Table.at_ ps n).fRights = 0:=by rw [hat]; simpa using k2
      have e:Table.remove ps n = ((ps[n],0),ps.set n dh):=by unfold Table.remove; rw [if_neg k',if_neg k2',hat]; rfl
      rw [e]
      refine ld_a (j:=0) (i:=n) (k:=0) ps[n] jq st rfl (by simp) (aH hn') (by simp) ?_
      refine st_a (j:=0) (i:=n) (k:=0) dh jq st rfl (by simp) (aH hn') (by simp [jq]) rfl fun h2 s2=>?_
      exact aX rfl (iJ (by simpa using hb) s2)
theorem nJ (x:Ptr) (ps:List Pte) (i:Int):Sp Tryz.prog eZ [pv x,.int .i64 i] cJ [cZ x ps] (fun v=>pa_ (v = Table.get ps i) [cZ x ps]):=by
  intro h s0
  obtain ⟨b,rfl,hb,st⟩:=table_op s0
  refine sim_table_Table_At _ _ ?_
  unfold tQ
  refine ba (fun k=>?_) (fun k=>?_)
  · have k':bt i = true:=by simpa using k
    obtain ⟨n,rfl,hn⟩:=mJ k'
    have hn':n < ps.length:=by omega
    have hat:Table.at_ ps n = ps[n]:=by simp [Table.at_,hn']
    refine cE ⟨⟨by omega,by omega⟩,?_⟩
    refine ld_a (j:=0) (i:=n) (k:=2) ps[n].fRights jq st rfl (by simp) (aH hn') (c1 rfl rfl) ?_
    unfold iK
    refine ba (fun k2=>?_) (fun k2=>?_)
    · have k2':(Table.at_ ps n).fRights = 0:=by rw [hat]; simpa using k2
      have e:Table.get ps n = (dh,false):=if_neg (fun hh=>hh.2 k2')
      rw [e]
      exact aX rfl (iJ hb st)
    · have k2':¬ (Table.at_ ps n).fRights = 0:=by rw [hat]; simpa using k2
      have e:Table.get ps n = (ps[n],true):=by unfold Table.get; rw [if_pos ⟨k',k2'⟩,hat]
      rw [e]
      refine cE ⟨⟨by omega,by omega⟩,?_⟩
      refine ld_a (j:=0) (i:=n) (k:=0) ps[n] jq st rfl (by simp) (aH hn') (by simp) ?_
      exact aX rfl (iJ hb st)
  · have k':¬ bt i = true:=by simpa using k
    have e:Table.get ps i = (dh,false):=if_neg (fun hh=>k' hh.1)
    rw [e]
    unfold iK
    exact dG rfl (aX rfl (iJ hb st))
theorem by_append (s:Int):∀ (ps:List Pte) (i:Int) (p:Pte),Table.byFrom s (ps++[p]) i = Table.byFrom s ps i++(if p.fRights ≠ 0∧p.fSlot = s then [i + ps.length] else [])
  | [],i,p=>by simp only [List.nil_append,Table.byFrom]; split <;> simp
  | y::ps,i,p=>by
    simp only [List.cons_append,Table.byFrom]
    rw [by_append s ps (i + 1) p]
    have e:i + 1 + (ps.length:Int) = i + ((y::ps).length:Int):=by simp; omega
    rw [e]
    split <;> simp
theorem by_len (s:Int):∀ (ps:List Pte) (i:Int),(Table.byFrom s ps i).length ≤ ps.length
  | [],_=>Nat.le_refl _
  | p::ps,i=>by unfold Table.byFrom; have:=by_len s ps (i + 1); split <;> simp <;> omega
theorem sp_table_By (x:Ptr) (ps:List Pte) (s:Int):Sp Tryz.prog lW [pv x,.int .i64 s] cu [cZ x ps] (fun r=>aG [vI r (Table.by_ ps s),cZ x ps]):=by
  intro h s0
  obtain ⟨b,rfl,hb,st⟩:=table_op s0
  refine sim_table_Table_By _ _ ?_
  unfold tP
  refine di rfl (cE ?_)
  obtain ⟨h1,a,sub⟩:=dX (i:=0) rfl st
  have hfl:(ps.flatMap am.C).length = 24:=by rw [ee jq,hb]
  refine loadAt_v (r:=ps.flatMap am.C) (cs:=ps.flatMap am.C) agn_8_api_Pte ⟨_,_,_,sub _ _ a,fun i v hv=>by simpa using hv⟩ hfl rfl ?_
  refine Lp.intro (fun (z:Sl × Int) h=>∃ n:Nat,z.2 = n∧n ≤ 8∧aG [vI z.1 (Table.byFrom s (ps.take n) 0),cZ (some (b,0)) ps] h) (fun (z:Sl × Int) _=>8 - z.2.toNat) ⟨0,rfl,Nat.zero_le _,fN (iJ hb st)⟩ ?_
  rintro ⟨z,i⟩ h ⟨n,rfl,hn,s1⟩
  unfold oq
  refine ba (fun k=>?_) (fun k=>?_)
  · have hlt:n < 8:=by have:=of_decide_eq_true k; omega
    have hn':n < ps.length:=by omega
    have hw:IntKind.i64.wrap ((n:Int) + 1) = ((n + 1:Nat):Int):=by rw [bR (by omega) (by omega)]; rfl
    have ht:ps.take (n + 1) = ps.take n++[ps[n]]:=by simp
    have hlen:((ps.take n).length:Int) = n:=by simp; omega
    refine index_v (enc:=am.C) (m:=3) arn_8_api_Pte age_8_api_Pte jq (fun _=>rfl) hb (aH hn') ?_
    refine ba (fun k2=>?_) (fun k2=>?_)
    · have k2':ps[n].fRights ≠ 0∧ps[n].fSlot = s:=by simpa using k2
      refine wg s1 (i:=0) rfl ?_ fun v h' s2=>?_
      · have:=by_len s (ps.take n) 0; simp at this ⊢; omega
      · rw [hw]
        refine ⟨⟨n + 1,rfl,hlt,?_⟩,by simp; omega⟩
        rw [ht,by_append,if_pos k2',hlen,Int.zero_add]
        exact s2
    · have k2':¬ (ps[n].fRights ≠ 0∧ps[n].fSlot = s):=by simpa using k2
      rw [hw]
      refine ⟨⟨n + 1,rfl,hlt,?_⟩,by simp; omega⟩
      rw [ht,by_append,if_neg k2',List.append_nil]
      exact s1
  · have:n = 8:=by have:=of_decide_eq_false k; omega
    subst this
    rw [show ps.take 8 = ps from by rw [← hb]; exact List.take_length] at s1
    exact s1
end Go.Proofs.YtemoifebbhoinaaGreatDoor
namespace Go.Proofs.YtemoifebbhoinaaGreatDoor
open Go
namespace Mb
def vJ {σ α:Type} (A:σ→α→As):List σ→List α→List As
  | p::ps,x::xs=>A p x::vJ A ps xs
  | _,_=>[]
section
variable {σ α:Type} {A:σ→α→As}
theorem objs_get:∀ {ps:List σ} {xs:List α} {i:Nat} {p:σ} {x:α},ps[i]? = some p→xs[i]? = some x→(vJ A ps xs)[i]? = some (A p x)
  | [],_,_,_,_,h,_=>by simp at h
  | _::_,[],_,_,_,_,h=>by simp at h
  | p::ps,x::xs,0,_,_,h1,h2=>by simp at h1 h2; subst h1; subst h2; rfl
  | p::ps,x::xs,i + 1,_,_,h1,h2=>by simpa [vJ] using objs_get (ps:=ps) (xs:=xs) (i:=i) (by simpa using h1) (by simpa using h2)
theorem objs_set:∀ {ps:List σ} {xs:List α} {i:Nat} {p:σ} {x:α},ps[i]? = some p→(vJ A ps xs).set i (A p x) = vJ A ps (xs.set i x)
  | [],_,_,_,_,h=>by simp at h
  | p::ps,[],i,_,_,_=>by simp [vJ]
  | p::ps,y::xs,0,_,_,h=>by simp at h; subst h; rfl
  | p::ps,y::xs,i + 1,_,_,h=>by simp only [vJ,List.set_cons_succ]; rw [objs_set (ps:=ps) (xs:=xs) (i:=i) (by simpa using h)]
theorem objs_set2:∀ {ps:List σ} {xs:List α} {i:Nat} {p:σ} {x:α},i < xs.length→(vJ A ps xs).set i (A p x) = vJ A (ps.set i p) (xs.set i x)
  | [],_,_,_,_,_=>by simp [vJ]
  | p::ps,[],i,_,_,h=>by simp at h
  | p::ps,y::xs,0,_,_,_=>rfl
  | p::ps,y::xs,i + 1,_,_,h=>by simp only [vJ,List.set_cons_succ]; rw [objs_set2 (ps:=ps) (xs:=xs) (i:=i) (by simpa using h)]
theorem objs_append (p:σ) (x:α):∀ {ps:List σ} {xs:List α},ps.length = xs.length→vJ A (ps++[p]) (xs++[x]) = vJ A ps xs++[A p x]
  | [],[],_=>rfl
  | [],_::_,h=>by simp at h
  | _::_,[],h=>by simp at h
  | a::ps,b::xs,h=>by simp only [List.cons_append,vJ]; rw [objs_append p x (by simpa using h)]
theorem objs_len:∀ {ps:List σ} {xs:List α},ps.length = xs.length→(vJ A ps xs).length = xs.length
  | [],[],_=>rfl
  | [],_::_,h=>by simp at h
  | _::_,[],h=>by simp at h
  | a::ps,b::xs,h=>by simp only [vJ,List.length_cons]; rw [objs_len (by simpa using h)]
def all (A:σ→α→As) (ps:List σ) (xs:List α):As:=aG (vJ A ps xs)
def but (A:σ→α→As) (ps:List σ) (xs:List α) (i:Nat):As:=aG ((vJ A ps xs).eraseIdx i)
variable {l:List As} {h:Hp} {ps:List σ} {xs:List α}
theorem star_shut {m:List As} (s:aG (m++l) h):aG (aG m::l) h:=by
  obtain ⟨h1,h2,d,e,s1,s2⟩:=eF.1 s
  exact ⟨h1,h2,d,e,s1,s2⟩
theorem ju {i:Nat} {p:σ} {x:α} (hp:ps[i]? = some p) (hx:xs[i]? = some x) (s:aG (all A ps xs::l) h):aG (A p x::but A ps xs i::l) h:=by
  obtain ⟨h1,h2,d,e,a,s'⟩:=s
  have:=gF (objs_get (A:=A) hp hx) a
  obtain ⟨h3,h4,d',e',a',s4⟩:=this
  subst e'
  obtain ⟨d1,d2⟩:=Dj.of_un_left d
  exact ⟨h3,un h4 h2,Dj.un_right d' d1,by rw [e,mF],a',h4,h2,d2,rfl,s4,s'⟩
theorem xy {i:Nat} {p:σ} {y:α} (hp:ps[i]? = some p) (hi:i < xs.length) (hl:ps.length = xs.length) (s:aG (A p y::but A ps xs i::l) h):aG (all A ps (xs.set i y)::l) h:=by
  obtain ⟨h1,h2,d,e,a,h3,h4,d',e',b,s'⟩:=s
  subst e'
  obtain ⟨d1,d2⟩:=Dj.of_un_right d
  refine ⟨un h1 h3,h4,Dj.un_left d2 d',by rw [e,mF],?_,s'⟩
  have:=eI (A:=A p y) (l:=vJ A ps xs) (i:=i) (by rw [objs_len hl]; exact hi) ⟨h1,h3,d1,rfl,a,b⟩
  rw [objs_set hp] at this
  exact this
theorem all_in2 {i:Nat} {p:σ} {y:α} (hi:i < xs.length) (hl:ps.length = xs.length) (s:aG (A p y::but A ps xs i::l) h):aG (all A (ps.set i p) (xs.set i y)::l) h:=by
  obtain ⟨h1,h2,d,e,a,h3,h4,d',e',b,s'⟩:=s
  subst e'
  obtain ⟨d1,d2⟩:=Dj.of_un_right d
  refine ⟨un h1 h3,h4,Dj.un_left d2 d',by rw [e,mF],?_,s'⟩
  have:=eI (A:=A p y) (l:=vJ A ps xs) (i:=i) (by rw [objs_len hl]; exact hi) ⟨h1,h3,d1,rfl,a,b⟩
  rw [objs_set2 hi] at this
  exact this
theorem iM {α:Type} {xs:List α} {i:Nat} {x:α} (hx:xs[i]? = some x):xs.set i x = xs:=by
  apply List.ext_getElem?
  intro n
  rw [List.getElem?_set]
  by_cases e:i = n
  · subst e
    obtain ⟨h1,h2⟩:=List.getElem?_eq_some_iff.1 hx
    simp [h1,h2]
  · simp [e]
theorem wh {i:Nat} {p:σ} {x:α} (hp:ps[i]? = some p) (hx:xs[i]? = some x) (hl:ps.length = xs.length) (s:aG (A p x::but A ps xs i::l) h):aG (all A ps xs::l) h:=by
  have:=xy hp (List.getElem?_eq_some_iff.1 hx).1 hl s
  rwa [iM hx] at this
theorem all_nil:aG l h→aG (all A [] []::l) h:=fun s=>star_cons (fun _=>trivial) s
theorem all_push {p:σ} {x:α} (hl:ps.length = xs.length) (s:aG (A p x::all A ps xs::l) h):aG (all A (ps++[p]) (xs++[x])::l) h:=by
  refine star_shut ?_
  rw [objs_append p x hl]
  have s1:=kD (.swap _ _ _) s
  have s2:=dD s1
  exact kD (by simp) s2
end
theorem sH {A:As} {h:Hp} (a:A h):aG [A] h:=⟨h,emp,Dj.emp_right _,(un_emp _).symm,a,trivial⟩
section
variable {P:Program} {l:List As} {h:Hp} {τ:Type} {f:FuncId} {args:List Value} {enc:τ→Value} {K:τ→Hp→Prop} {i:Nat} {A:As}
theorem bM {φ:τ→Prop} {A':τ→As} (c:Sp P f args enc [A] (fun r=>pa_ (φ r) [A' r])) (hi:l[i]? = some A) (s:aG l h) (k:∀ r h',φ r→aG (l.set i (A' r)) h'→K r h'):cl P f args enc K h:=by
  obtain ⟨h1,h2,d,rfl,a,s'⟩:=gF hi s
  refine (c h1 (sH a)).frame_mono d rfl fun v h' ⟨r,hv,q⟩ dj=>⟨r,hv,?_⟩
  obtain ⟨g1,q⟩:=q
  refine k r _ g1 (eI (List.getElem?_eq_some_iff.1 hi).1 ?_)
  exact nI (l:=[A' r]++l.eraseIdx i) (by rw [List.append_nil]; exact eF.2 ⟨h',h2,dj,rfl,q,s'⟩)
theorem uY {B A':τ→As} (c:Sp P f args enc [A] (fun r=>aG [B r,A' r])) (hi:l[i]? = some A) (s:aG l h) (k:∀ r h',aG (B r::l.set i (A' r)) h'→K r h'):cl P f args enc K h:=by
  obtain ⟨h1,h2,d,rfl,a,s'⟩:=gF hi s
  refine (c h1 (sH a)).frame_mono d rfl fun v h' ⟨r,hv,q⟩ dj=>⟨r,hv,k r _ ?_⟩
  have s1:aG (B r::A' r::l.eraseIdx i) (un h' h2):=(eF (l:=[B r,A' r])).2 ⟨h',h2,dj,rfl,q,s'⟩
  obtain ⟨g1,g2,d2,e2,b,s2⟩:=s1
  exact ⟨g1,g2,d2,e2,b,eI (List.getElem?_eq_some_iff.1 hi).1 s2⟩
theorem cl_p {φ:τ→Prop} {B A':τ→As} (c:Sp P f args enc [A] (fun r=>pa_ (φ r) [B r,A' r])) (hi:l[i]? = some A) (s:aG l h) (k:∀ r h',φ r→aG (B r::l.set i (A' r)) h'→K r h'):cl P f args enc K h:=by
  obtain ⟨h1,h2,d,rfl,a,s'⟩:=gF hi s
  refine (c h1 (sH a)).frame_mono d rfl fun v h' ⟨r,hv,q⟩ dj=>⟨r,hv,?_⟩
  obtain ⟨g0,q⟩:=q
  refine k r _ g0 ?_
  have s1:aG (B r::A' r::l.eraseIdx i) (un h' h2):=(eF (l:=[B r,A' r])).2 ⟨h',h2,dj,rfl,q,s'⟩
  obtain ⟨g1,g2,d2,e2,b,s2⟩:=s1
  exact ⟨g1,g2,d2,e2,b,eI (List.getElem?_eq_some_iff.1 hi).1 s2⟩
theorem tJ {φ:τ→Prop} (c:Sp P f args enc [] (fun r=>pa_ (φ r) [])) (s:aG l h) (k:∀ r h',φ r→aG l h'→K r h'):cl P f args enc K h :=
  cT [] c s rfl fun r h' s1=>by
    obtain ⟨f1,s2⟩:=bp.1 s1
    exact k r h' f1 s2
theorem lL {B:τ→As} (c:Sp P f args enc [] (fun r=>aG [B r])) (s:aG l h) (k:∀ r h',aG (B r::l) h'→K r h'):cl P f args enc K h :=
  cT [] c s rfl fun r h' s1=>k r h' (dD s1)
end
end Mb
end Go.Proofs.YtemoifebbhoinaaGreatDoor
