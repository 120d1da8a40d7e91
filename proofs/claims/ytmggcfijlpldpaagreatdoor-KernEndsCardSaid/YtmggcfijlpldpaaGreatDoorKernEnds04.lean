/- Part of the proof of: The law KernEnds returns true for every input, and leaves its arguments as they were. -/
import Derived.Test.YtmggcfijlpldpaaGreatDoorKernEnds03
set_option linter.all false
set_option maxRecDepth 20000
namespace Go.Proofs.YtmggcfijlpldpaaGreatDoor
open Go Mb
set_option linter.unusedVariables false
def tW (a0:Ptr) (K:(Int × Bool)→Hp→Prop):Hp→Prop:=br a0.isNone ( K (0,false)) ( nn a0 fun q8=>ld (q8.1,q8.2 + 0) cS fun x10=>cl Tryz.prog jS [(sv x10),(.int .i64 0)] eC fun r11=>br (decide (r11 < 0)) ( K (0,false)) ( ld (q8.1,q8.2 + 0) cS fun x17=>ix x17 r11 fun q19=>st (q19.1,q19.2 + Int.toNat r11 * 1) [.int .i64 1]<|K (r11,true)))
theorem sim_pool_Pool_Take (a0:Ptr) {K:(Int × Bool)→Hp→Prop} {h:Hp} (H:tW a0 K h):Ct Tryz.prog jt #[(pv a0)] h fun v h'=>∃ r,v = bK r∧K r h':=au [(pv a0)] Tryz.func166 c c c fun _=>M<|p (ar c)<|O c<|ak<|M<|J c<|p (cn Tryz.underlying146 c)<|ad<|av c H (fun k1 H2=>M<|p (ar c)<|O c<|ai<|bw (bR c (bZ c)<|bZ c) ⟨(0,false),c,H2⟩) fun k1 H2=>an<|M<|J c<|bD H2 fun q8 e3 H4=>p (aI<|aL c<|ao e3)<|p (ae nR c)<|aa<|aU H4 sc_40 c (fun _=>c) c fun x10 H5=>aa<|Z H5 en_193 fun r11 _ H6=>O c<|ak<|M<|J c<|p (cu c c)<|ad<|av c H6 (fun k7 H8=>M<|p (ar c)<|O c<|ai<|bw (bR c (bZ c)<|bZ c) ⟨(0,false),c,H8⟩) fun k7 H8=>an<|M<|J (aL c<|ao e3)<|p (aI c)<|p (ae nR c)<|aa<|aU H8 sc_40 c (fun _=>c) c fun x17 H9=>J c<|cj H9 fun q19 e10 h11 H12=>p (bn iA (aL c<|aZ e10) c h11)<|aa<|dp pH c c c c c H12 fun _ H13=>ad<|M<|J c<|p (ar c)<|O c<|ai<|bw (bR c (bZ c)<|bZ c) ⟨(r11,true),c,H13⟩
def tX (a0:Ptr) (a1:Int) (K:Int→Hp→Prop):Hp→Prop:=br (!(a0.isNone || (decide (a1 < 0)))) ( nn a0 fun q14=>ld (q14.1,q14.2 + 0) cS fun x16=>br (decide (a1 ≥ (x16.len:Int))) ( K 0) ( ld (q14.1,q14.2 + 0) cS fun x23=>ix x23 a1 fun q25=>ld (q25.1,q25.2 + Int.toNat a1 * 1) (cI .i64) fun x26=>K x26)) ( K 0)
theorem sim_pool_Pool_Refs (a0:Ptr) (a1:Int) {K:Int→Hp→Prop} {h:Hp} (H:tX a0 a1 K h):Ct Tryz.prog ju #[(pv a0),(.int .i64 a1)] h fun v h'=>∃ r,v = eC r∧K r h':=au [(pv a0),(.int .i64 a1)] Tryz.func194 c c c fun _=>M<|O c<|ak<|M<|J c<|p (cn Tryz.underlying146 c)<|J c<|V c c (aH _) (fun g1=>wv<|ag c)<|V c c (aH _) (fun g2=>wv<|cu (aD c g2) c)<|p (dh c c)<|J c<|V c c (aH _) (fun g3=>wv<|ag c)<|V c c (aH _) (fun g4=>wv<|ag c)<|bO H (fun k6 H7=>bD H7 fun q14 e8 H9=>F (D<|bH k6)<|I (aI<|aL (aD c k6)<|ao e8)<|F (D<|bH k6)<|I (ae nR c)<|F (D<|bH k6)<|aU H9 sc_40 c (fun _=>c) c fun x16 H10=>F (D<|bH k6)<|I (dy c Tryz.underlying40 c)<|F (D<|bH k6)<|I (jk (aD c k6) c)<|p (ap c (bH k6) c)<|ad<|av c H10 (fun k11 H12=>M<|O c<|ai<|Y ⟨0,c,H12⟩) fun k11 H12=>an<|M<|J (aL c<|ao e8)<|p (aI c)<|p (ae nR c)<|aa<|aU H12 sc_40 c (fun _=>c) c fun x23 H13=>J c<|cj H13 fun q25 e14 h15 H16=>p (bn iA (aL c<|aZ e14) c h15)<|aa<|aU H16 aY c (fun _=>c) c fun x26 H17=>O c<|ai<|Y ⟨x26,c,H17⟩) fun k6 H7=>W (bG<|bi k6)<|W (bG<|bi k6)<|W (bG<|bi k6)<|W (bG<|bi k6)<|W (bG<|bi k6)<|p (aQ c (bi k6) c)<|ad<|kG c c<|M<|O c<|ai<|Y ⟨0,c,H7⟩
def tY (a0:Ptr) (a1:Int) (K:Bool→Hp→Prop):Hp→Prop:=cl Tryz.prog ju [(pv a0),(.int .i64 a1)] eC fun r8=>br ((r8 == 0) || (decide (r8 ≥ 7))) ( K false) ( nn a0 fun q16=>ld (q16.1,q16.2 + 0) cS fun x18=>ix x18 a1 fun q20=>ld (q20.1,q20.2 + Int.toNat a1 * 1) (cI .i64) fun x21=>st (q20.1,q20.2 + Int.toNat a1 * 1) [.int .i64 (IntKind.i64.wrap (x21 + 1))]<|K true)
theorem sim_pool_Pool_Hold (a0:Ptr) (a1:Int) {K:Bool→Hp→Prop} {h:Hp} (H:tY a0 a1 K h):Ct Tryz.prog lO #[(pv a0),(.int .i64 a1)] h fun v h'=>∃ r,v = aA r∧K r h':=au [(pv a0),(.int .i64 a1)] Tryz.func168 c c c fun _=>M<|O c<|ak<|M<|J c<|J c<|aa<|Z H en_194 fun r8 _ H1=>O c<|M<|J c<|p (bL c c)<|J c<|V c c (aH _) (fun g2=>wv<|ag c)<|V c c (aH _) (fun g3=>wv<|jk (aD c g3) c)<|p (dh c c)<|ad<|av c H1 (fun k4 H5=>M<|O c<|ai<|Y ⟨false,c,H5⟩) fun k4 H5=>an<|M<|J c<|bD H5 fun q16 e6 H7=>p (aI<|aL c<|ao e6)<|p (ae nR c)<|aa<|aU H7 sc_40 c (fun _=>c) c fun x18 H8=>J c<|cj H8 fun q20 e9 h10 H11=>p (bn iA (aL c<|aZ e9) c h10)<|aa<|aU H11 aY c (fun _=>c) c fun x21 H12=>p (bq c c)<|p (bn iA (aL c<|aZ e9) c h10)<|aa<|dp pH c c c c c H12 fun _ H13=>ad<|M<|O c<|ai<|Y ⟨true,c,H13⟩
def vr (a0:Ptr) (a1:Int) (K:(Int × Bool)→Hp→Prop):Hp→Prop:=cl Tryz.prog ju [(pv a0),(.int .i64 a1)] eC fun r8=>br (r8 == 0) ( K (0,false)) ( nn a0 fun q11=>ld (q11.1,q11.2 + 0) cS fun x13=>ix x13 a1 fun q15=>ld (q15.1,q15.2 + Int.toNat a1 * 1) (cI .i64) fun x16=>st (q15.1,q15.2 + Int.toNat a1 * 1) [.int .i64 (IntKind.i64.wrap (x16 - 1))]<|ld (q11.1,q11.2 + 0) cS fun x22=>ix x22 a1 fun q24=>ld (q24.1,q24.2 + Int.toNat a1 * 1) (cI .i64) fun x25=>K (x25,true))
theorem sim_pool_Pool_Let (a0:Ptr) (a1:Int) {K:(Int × Bool)→Hp→Prop} {h:Hp} (H:vr a0 a1 K h):Ct Tryz.prog mW #[(pv a0),(.int .i64 a1)] h fun v h'=>∃ r,v = bK r∧K r h':=au [(pv a0),(.int .i64 a1)] Tryz.func172 c c c fun _=>M<|p (ar c)<|O c<|ak<|M<|J c<|J c<|aa<|Z H en_194 fun r8 _ H1=>p (bL c c)<|ad<|av c H1 (fun k2 H3=>M<|p (ar c)<|O c<|ai<|bw (bR c (bZ c)<|bZ c) ⟨(0,false),c,H3⟩) fun k2 H3=>an<|M<|J c<|bD H3 fun q11 e4 H5=>p (aI<|aL c<|ao e4)<|p (ae nR c)<|aa<|aU H5 sc_40 c (fun _=>c) c fun x13 H6=>J c<|cj H6 fun q15 e7 h8 H9=>p (bn iA (aL c<|aZ e7) c h8)<|aa<|aU H9 aY c (fun _=>c) c fun x16 H10=>p (v_sub c c)<|p (bn iA (aL c<|aZ e7) c h8)<|aa<|dp pH c c c c c H10 fun _ H11=>ad<|M<|J (aL c<|ao e4)<|p (aI c)<|p (ae nR c)<|aa<|aU H11 sc_40 c (fun _=>c) c fun x22 H12=>J c<|cj H12 fun q24 e13 h14 H15=>p (bn iA (aL c<|aZ e13) c h14)<|aa<|aU H15 aY c (fun _=>c) c fun x25 H16=>p (ar c)<|O c<|ai<|bw (bR c (bZ c)<|bZ c) ⟨(x25,true),c,H16⟩
def sh_pool_New (a0:Int) (K:Ptr→Hp→Prop):Hp→Prop:=br ((decide (a0 < 1)) || (decide (a0 > 16))) ( K none) ( hpv Tryz.prog (Instr.makeSlice dH (.int .i64 a0) (.int .i64 a0)) cA fun (v10:Sl)=>nw qw (nU.C (⟨v10⟩:nU)) fun b12=>K (some (b12,0)))
theorem sim_pool_New (a0:Int) {K:Ptr→Hp→Prop} {h:Hp} (H:sh_pool_New a0 K h):Ct Tryz.prog wV #[(.int .i64 a0)] h fun v h'=>∃ r,v = sq r∧K r h':=au [(.int .i64 a0)] Tryz.func94 c c c fun _=>M<|O c<|ak<|M<|J c<|p (cu c c)<|J c<|V c c (aH _) (fun g1=>wv<|ag c)<|V c c (aH _) (fun g2=>wv<|qv (aD c g2) c)<|p (dh c c)<|ad<|av c H (fun k3 H4=>M<|O c<|ai<|Y ⟨none,c,H4⟩) fun k3 H4=>an<|M<|J c<|aa<|aR H4 (jH c c) c fun v10 _ H5=>p (bc c<|build_207_0 v10)<|aa<|gZ c c c H5 fun b12 _ H6=>O c<|ai<|Y ⟨some (b12,0),c,H6⟩
def oD (K:Sl→Hp→Prop) (x11:Sl) (Rec7:(Sl × Int)→Hp→Prop) (s6:Sl × Int):Hp→Prop:=br (decide (s6.2 < (x11.len:Int))) ( ix x11 s6.2 fun q16=>ld (q16.1,q16.2 + Int.toNat s6.2 * 1) (cI .i64) fun x17=>br (x17 == 0) ( hpv Tryz.prog (Instr.buildSlice dH 1 #[(0,(.int .i64 s6.2))]) cA fun (v22:Sl)=>hpv Tryz.prog (Builtin.append_ #[dH,dH] dH #[(sv s6.1),(sv v22)]) cA fun (v23:Sl)=>Rec7 (v23,(IntKind.i64.wrap (s6.2 + 1)))) ( Rec7 (s6.1,(IntKind.i64.wrap (s6.2 + 1))))) ( K s6.1)
def tZ (a0:Ptr) (K:Sl→Hp→Prop):Hp→Prop:=br a0.isNone ( K (⟨none,0,0,none⟩:Sl)) ( nn a0 fun q9=>ld (q9.1,q9.2 + 0) cS fun x11=>Lp (oD K x11) ((⟨none,0,0,none⟩:Sl),0))
theorem sim_pool_Pool_Free (a0:Ptr) {K:Sl→Hp→Prop} {h:Hp} (H:tZ a0 K h):Ct Tryz.prog lP #[(pv a0)] h fun v h'=>∃ r,v = cA r∧K r h':=au [(pv a0)] Tryz.func92 c c c fun _=>M<|O c<|ak<|M<|J c<|p (cn Tryz.underlying146 c)<|ad<|av c H (fun k1 H2=>M<|O c<|ai<|Y ⟨(⟨none,0,0,none⟩:Sl),c,H2⟩) fun k1 H2=>an<|M<|O c<|ak<|M<|J c<|bD H2 fun q9 e3 H4=>p (aI<|aL c<|ao e3)<|p (ae nR c)<|aa<|aU H4 sc_40 c (fun _=>c) c fun x11 H5=>p (dy c Tryz.underlying40 c)<|J c<|ad<|ay<|bE (step:=oD K x11) (fun s6=>[(3,(sv s6.1)),(11,(sv x11)),(12,(.int .i64 (x11.len:Int))),(13,(.int .i64 s6.2))]) (fun s6=>[]) H5 (.cons c<|.cons c<|.cons c<|.cons c<|.nil _) .slnil fun Rec7 s6 _ H8=>M<|p (cu c c)<|ad<|ak<|av c H8 (fun k9 H10=>an<|ak<|ay<|M<|J c<|cj H10 fun q16 e11 h12 H13=>p (bn iA (aL c<|aZ e11) c h12)<|aa<|aU H13 aY c (fun _=>c) c fun x17 H14=>p (ar c)<|O c<|M<|J c<|p (bL c c)<|ad<|av c H14 (fun k15 H16=>aq<|J c<|J c<|aa<|aR H16 (bv (vs:=[(.int .i64 s6.2)]) c) c fun v22 _ H17=>aa<|aR H17 (dG c c) c fun v23 _ H18=>O c<|aq<|p (bq c c)<|J c<|ad<|cL (v23,(IntKind.i64.wrap (s6.2 + 1))) H18 (.cons c<|.cons c<|.cons c<|.cons c<|.nil _) .slnil) fun k15 H16=>an<|aq<|p (bq c c)<|J c<|ad<|cL (s6.1,(IntKind.i64.wrap (s6.2 + 1))) H16 (.cons c<|.cons c<|.cons c<|.cons c<|.nil _) .slnil) fun k9 H10=>bj<|M<|J c<|O c<|ai<|Y ⟨s6.1,c,H10⟩
def oE (K:Int→Hp→Prop) (r7:Sl) (Rec3:(Int × Int)→Hp→Prop) (s2:Int × Int):Hp→Prop:=br (decide (s2.2 < (r7.len:Int))) ( ix r7 s2.2 fun q11=>ld (q11.1,q11.2 + Int.toNat s2.2 * 1) (cI .i64) fun x12=>gd (0 ≤ x12)<|Rec3 ((ior .u64 s2.1 (IntKind.u64.wrap (1 * 2 ^ (min (Int.toNat x12) (IntKind.bits .u64))))),(IntKind.i64.wrap (s2.2 + 1)))) ( K s2.1)
def ua (a0:Ptr) (K:Int→Hp→Prop):Hp→Prop:=cl Tryz.prog lP [(pv a0)] cA fun r7=>Lp (oE K r7) (0,0)
theorem sim_pool_Pool_Bits (a0:Ptr) {K:Int→Hp→Prop} {h:Hp} (H:ua a0 K h):Ct Tryz.prog pW #[(pv a0)] h fun v h'=>∃ r,v = gJ r∧K r h':=au [(pv a0)] Tryz.func210 c c c fun _=>M<|O c<|M<|O c<|ak<|M<|J c<|aa<|Z H en_92 fun r7 _ H1=>p (dy c Tryz.underlying40 c)<|J c<|ad<|ay<|bE (step:=oE K r7) (fun s2=>[(3,(.int .u64 s2.1)),(7,(sv r7)),(8,(.int .i64 (r7.len:Int))),(9,(.int .i64 s2.2))]) (fun s2=>[]) H1 (.cons c<|.cons c<|.cons c<|.cons c<|.nil _) .slnil fun Rec3 s2 _ H4=>M<|p (cu c c)<|ad<|ak<|av c H4 (fun k5 H6=>an<|ak<|ay<|M<|cj H6 fun q11 e7 h8 H9=>p (bn iA (aL c<|aZ e7) c h8)<|aa<|aU H9 aY c (fun _=>c) c fun x12 H10=>O c<|aq<|J c<|J c<|il H10 fun z11 H12=>p (v_shl c c z11)<|p (v_ior c c)<|O c<|aq<|p (bq c c)<|J c<|ad<|cL ((ior .u64 s2.1 (IntKind.u64.wrap (1 * 2 ^ (min (Int.toNat x12) (IntKind.bits .u64))))),(IntKind.i64.wrap (s2.2 + 1))) H12 (.cons c<|.cons c<|.cons c<|.cons c<|.nil _) .slnil) fun k5 H6=>bj<|M<|J c<|O c<|ai<|Y ⟨s2.1,c,H6⟩
end Go.Proofs.YtmggcfijlpldpaaGreatDoor
namespace Go.Proofs.YtmggcfijlpldpaaGreatDoor
open Go Mb
set_option linter.unusedVariables false
def gR (a0:Sl) (K:Sl→Hp→Prop):Hp→Prop:=br a0.a.isNone ( K (⟨none,0,0,none⟩:Sl)) ( hpv Tryz.prog (Instr.buildSlice eN 0 #[]) eA fun (v5:Sl)=>hpv Tryz.prog (Builtin.append_ #[eN,eN] eN #[(sv v5),(sv a0)]) eA fun (v7:Sl)=>K v7)
theorem mu (a0:Sl) {K:Sl→Hp→Prop} {h:Hp} (H:gR a0 K h):Ct Tryz.prog eQ #[(sv a0)] h fun v h'=>∃ r,v = eA r∧K r h':=au [(sv a0)] Tryz.func47 c c c fun _=>M<|O c<|ak<|M<|J c<|p (v_seqT Tryz.underlying43 c)<|ad<|av c H (fun k1 H2=>M<|O c<|ai<|Y ⟨(⟨none,0,0,none⟩:Sl),c,H2⟩) fun k1 H2=>an<|M<|aa<|aR H2 (bv (vs:=[]) c) c fun v5 _ H3=>J c<|aa<|aR H3 (dG c c) c fun v7 _ H4=>O c<|ai<|Y ⟨v7,c,H4⟩
def eG (a0:Sl) (a1:Int) (K:(Int × Bool)→Hp→Prop) (Rec2:(Int × Int)→Hp→Prop) (s1:Int × Int):Hp→Prop:=br (decide (s1.1 < s1.2)) ( ix a0 (IntKind.i64.wrap (Int.fdiv (IntKind.u64.wrap (IntKind.i64.wrap (s1.1 + s1.2))) (2 ^ (min (Int.toNat 1) (IntKind.bits .u64))))) fun q24=>ld (q24.1,q24.2 + Int.toNat (IntKind.i64.wrap (Int.fdiv (IntKind.u64.wrap (IntKind.i64.wrap (s1.1 + s1.2))) (2 ^ (min (Int.toNat 1) (IntKind.bits .u64))))) * 1) (cI .u64) fun x25=>br (hY x25 a1) ( Rec2 ((IntKind.i64.wrap ((IntKind.i64.wrap (Int.fdiv (IntKind.u64.wrap (IntKind.i64.wrap (s1.1 + s1.2))) (2 ^ (min (Int.toNat 1) (IntKind.bits .u64))))) + 1)),s1.2)) ( Rec2 (s1.1,(IntKind.i64.wrap (Int.fdiv (IntKind.u64.wrap (IntKind.i64.wrap (s1.1 + s1.2))) (2 ^ (min (Int.toNat 1) (IntKind.bits .u64)))))))) ( br (decide (s1.1 < (a0.len:Int))) ( ix a0 s1.1 fun q38=>ld (q38.1,q38.2 + Int.toNat s1.1 * 1) (cI .u64) fun x39=>br (!(x39 == a1)) ( ld (q38.1,q38.2 + Int.toNat s1.1 * 1) (cI .u64) fun x46=>K (s1.1,((dF x46) && (dF a1)))) ( K (s1.1,true))) ( K (s1.1,false)))
def gD (a0:Sl) (a1:Int) (K:(Int × Bool)→Hp→Prop):Hp→Prop:=Lp (eG a0 a1 K) (0,(a0.len:Int))
theorem lK (a0:Sl) (a1:Int) {K:(Int × Bool)→Hp→Prop} {h:Hp} (H:gD a0 a1 K h):Ct Tryz.prog eL #[(sv a0),(.int .u64 a1)] h fun v h'=>∃ r,v = bK r∧K r h':=au [(sv a0),(.int .u64 a1)] Tryz.func164 c c c fun _=>M<|p (ar c)<|O c<|M<|J c<|p (dy c Tryz.underlying158 c)<|O c<|M<|J c<|p (ar c)<|O c<|ak<|ay<|bE (step:=eG a0 a1 K) (fun s1=>[(0,(sv a0)),(1,(.int .u64 a1)),(6,(.int .i64 (a0.len:Int))),(7,(.int .i64 s1.1)),(8,(.int .i64 s1.2))]) (fun s1=>[]) H (.cons c<|.cons c<|.cons c<|.cons c<|.cons c<|.nil _) .slnil fun Rec2 s1 _ H3=>ak<|M<|J c<|J c<|p (cu c c)<|ad<|av c H3 (fun k4 H5=>an<|ay<|M<|J c<|J c<|p (bq c c)<|p (dX ⟨_,Tryz.underlying3⟩ Tryz.underlying254 c)<|p (v_shr c c (by decide))<|p (dX ⟨_,Tryz.underlying254⟩ Tryz.underlying3 c)<|O c<|M<|J c<|J c<|cj H5 fun q24 e6 h7 H8=>p (bn rV (aL c<|aZ e6) c h7)<|aa<|aU H8 ct c (fun _=>c) c fun x25 H9=>J c<|aa<|cF (vs:=[(.int .u64 x25),(.int .u64 a1)]) (bu<|ct_cmp_Less_uint64 x25 a1 _) en_189 c c<|ad<|av c H9 (fun k10 H11=>aq<|J c<|p (bq c c)<|O c<|cL ((IntKind.i64.wrap ((IntKind.i64.wrap (Int.fdiv (IntKind.u64.wrap (IntKind.i64.wrap (s1.1 + s1.2))) (2 ^ (min (Int.toNat 1) (IntKind.bits .u64))))) + 1)),s1.2) H11 (.cons c<|.cons c<|.cons c<|.cons c<|.cons c<|.nil _) .slnil) fun k10 H11=>aq<|J c<|O c<|cL (s1.1,(IntKind.i64.wrap (Int.fdiv (IntKind.u64.wrap (IntKind.i64.wrap (s1.1 + s1.2))) (2 ^ (min (Int.toNat 1) (IntKind.bits .u64)))))) H11 (.cons c<|.cons c<|.cons c<|.cons c<|.cons c<|.nil _) .slnil) fun k4 H5=>bj<|M<|J c<|J c<|J c<|p (cu c c)<|J c<|V c c (ax _) (fun g12=>wv<|ag c)<|V c c (ax _) (fun g13=>wv<|ag c)<|bO H5 (fun k15 H16=>cj H16 fun q38 e17 h18 H19=>F (D k15)<|I (bn rV (aL (aD c k15)<|aZ e17) (aD c k15) h18)<|F (D k15)<|aU H19 ct c (fun _=>c) c fun x39 H20=>F (D k15)<|I (ag c)<|F (D k15)<|I (bL c c)<|F (D k15)<|I (ag c)<|V c c (aH _) (fun g21=>wv<|ag c)<|V c c (aH _) (fun g22=>wv<|ag c)<|V c c (aH _) (fun g23=>wv<|bn rV (aL (aD c g23)<|aZ e17) (aD c g23) h18)<|bO H20 (fun k25 H26=>F (D<|bH k25)<|aU H26 ct (aD c k25) (fun _=>c) c fun x46 H27=>F (D<|bH k25)<|cF (vs:=[(.int .u64 x46)]) (bu<|oU x46 _) en_190 c c<|F (D<|bH k25)<|I (ag c)<|V c c (ax _) (fun g28=>wv<|ag c)<|cY (vs:=[(.int .u64 a1)]) c c c (ax _) (fun g29=>bu<|oU a1 _) en_190 (fun g29=>aP (aD c g29) bS) c<|F (D<|bH k25)<|I (bT c c)<|F (D k15)<|I (ap c (bH k25) c)<|p (aQ c k15 c)<|p (ar c)<|O c<|ai<|bw (bR c (bZ c)<|bZ c) ⟨(s1.1,((dF x46) && (dF a1))),c,H27⟩) fun k25 H26=>W (bG<|bi k25)<|W (bG<|bi k25)<|W (bG<|bi k25)<|W (off_u _)<|W (off_u _)<|W (bG<|bi k25)<|F (D k15)<|I (aQ c (bi k25) c)<|p (aQ c k15 c)<|p (ar c)<|O c<|ai<|bw (bR c (bZ c)<|bZ c) ⟨(s1.1,true),c,H26⟩) fun k15 H16=>W (aS k15)<|W (aS k15)<|W (aS k15)<|W (aS k15)<|W (aS k15)<|W (off_u _)<|W (off_u _)<|W (off_u _)<|W (off_u _)<|W (off_u _)<|W (off_u _)<|W (off_u _)<|W (off_u _)<|W (off_u _)<|W (aS k15)<|p (ap c k15 c)<|p (ar c)<|O c<|ai<|bw (bR c (bZ c)<|bZ c) ⟨(s1.1,false),c,H16⟩
def js (a0:Sl) (a1:Int) (a2:Sl) (K:Sl→Hp→Prop):Hp→Prop:=hpv Tryz.prog (Instr.sliceAt bd (sv a0) (some (.int .i64 a1)) none none) cd fun (v12:Sl)=>br ((a2.len:Int) == 0) ( K a0) ( br (a1 == (a0.len:Int)) ( hpv Tryz.prog (Builtin.append_ #[bd,bd] bd #[(sv a0),(sv a2)]) cd fun (v25:Sl)=>K v25) ( br (decide ((IntKind.i64.wrap ((a0.len:Int) + (a2.len:Int))) > (a0.cap:Int))) ( hpv Tryz.prog (Instr.sliceAt bd (sv a0) none (some (.int .i64 a1)) none) cd fun (v34:Sl)=>hpv Tryz.prog (Builtin.append_ #[bd,kL] bd #[(sv v34),(.int .i64 (IntKind.i64.wrap ((IntKind.i64.wrap ((a0.len:Int) + (a2.len:Int))) - a1)))]) cd fun (v40:Sl)=>hpv Tryz.prog (Instr.sliceAt bd (sv v40) (some (.int .i64 a1)) none none) cd fun (v43:Sl)=>hpv Tryz.prog (Builtin.copy_ #[bd,bd] kL #[(sv v43),(sv a2)]) eC fun (v45:Int)=>both ( hpv Tryz.prog (Instr.sliceAt bd (sv v40) (some (.int .i64 (IntKind.i64.wrap (a1 + (a2.len:Int))))) none none) cd fun (v50:Sl)=>hpv Tryz.prog (Instr.sliceAt bd (sv a0) (some (.int .i64 a1)) none none) cd fun (v53:Sl)=>hpv Tryz.prog (Builtin.copy_ #[bd,bd] kL #[(sv v50),(sv v53)]) eC fun (v54:Int)=>K v40) ( hpv Tryz.prog (Instr.sliceAt bd (sv a0) (some (.int .i64 a1)) none none) cd fun (v53:Sl)=>hpv Tryz.prog (Instr.sliceAt bd (sv v40) (some (.int .i64 (IntKind.i64.wrap (a1 + (a2.len:Int))))) none none) cd fun (v50:Sl)=>hpv Tryz.prog (Builtin.copy_ #[bd,bd] kL #[(sv v50),(sv v53)]) eC fun (v54:Int)=>K v40)) ( hpv Tryz.prog (Instr.sliceAt bd (sv a0) none (some (.int .i64 (IntKind.i64.wrap ((a0.len:Int) + (a2.len:Int))))) none) cd fun (v60:Sl)=>hpv Tryz.prog (Instr.sliceAt bd (sv v60) (some (.int .i64 (IntKind.i64.wrap (a1 + (a2.len:Int))))) none none) cd fun (v66:Sl)=>cln Tryz.prog (callFunc uO #[(sv a2),(sv v66)]) aA fun (v67:Bool)=>br (!v67) ( both ( hpv Tryz.prog (Instr.sliceAt bd (sv v60) (some (.int .i64 (IntKind.i64.wrap (a1 + (a2.len:Int))))) none none) cd fun (v73:Sl)=>hpv Tryz.prog (Instr.sliceAt bd (sv v60) (some (.int .i64 a1)) none none) cd fun (v76:Sl)=>hpv Tryz.prog (Builtin.copy_ #[bd,bd] kL #[(sv v73),(sv v76)]) eC fun (v77:Int)=>hpv Tryz.prog (Instr.sliceAt bd (sv v60) (some (.int .i64 a1)) none none) cd fun (v80:Sl)=>hpv Tryz.prog (Builtin.copy_ #[bd,bd] kL #[(sv v80),(sv a2)]) eC fun (v82:Int)=>K v60) ( hpv Tryz.prog (Instr.sliceAt bd (sv v60) (some (.int .i64 a1)) none none) cd fun (v76:Sl)=>hpv Tryz.prog (Instr.sliceAt bd (sv v60) (some (.int .i64 (IntKind.i64.wrap (a1 + (a2.len:Int))))) none none) cd fun (v73:Sl)=>hpv Tryz.prog (Builtin.copy_ #[bd,bd] kL #[(sv v73),(sv v76)]) eC fun (v77:Int)=>hpv Tryz.prog (Instr.sliceAt bd (sv v60) (some (.int .i64 a1)) none none) cd fun (v80:Sl)=>hpv Tryz.prog (Builtin.copy_ #[bd,bd] kL #[(sv v80),(sv a2)]) eC fun (v82:Int)=>K v60)) ( hpv Tryz.prog (Instr.sliceAt bd (sv v60) (some (.int .i64 (a0.len:Int))) none none) cd fun (v86:Sl)=>hpv Tryz.prog (Builtin.copy_ #[bd,bd] kL #[(sv v86),(sv a2)]) eC fun (v88:Int)=>hpv Tryz.prog (Instr.sliceAt bd (sv v60) (some (.int .i64 a1)) none none) cd fun (v91:Sl)=>cl Tryz.prog sc [(sv v91),(.int .i64 (a2.len:Int))] R_ fun (_:Unit)=>K v60))))
theorem pd (a0:Sl) (a1:Int) (a2:Sl) {K:Sl→Hp→Prop} {h:Hp} (H:js a0 a1 a2 K h):Ct Tryz.prog dA #[(sv a0),(.int .i64 a1),(sv a2)] h fun v h'=>∃ r,v = cd r∧K r h':=au [(sv a0),(.int .i64 a1),(sv a2)] Tryz.func165 c c c fun _=>M<|O c<|M<|J c<|J c<|aa<|aR H (eM c c c c c) c fun v12 _ H1=>ad<|M<|J c<|p (dy c Tryz.underlying158 c)<|O c<|ak<|M<|J c<|p (bL c c)<|ad<|av c H1 (fun k2 H3=>M<|J c<|O c<|ai<|Y ⟨a0,c,H3⟩) fun k2 H3=>an<|M<|J c<|p (dy c Tryz.underlying158 c)<|O c<|ak<|M<|J c<|J c<|p (bL c c)<|ad<|av c H3 (fun k4 H5=>M<|J c<|J c<|aa<|aR H5 (dG c c) c fun v25 _ H6=>O c<|ai<|Y ⟨v25,c,H6⟩) fun k4 H5=>an<|ak<|M<|J c<|J c<|p (bq c c)<|J c<|p (v_cap c Tryz.underlying158 c)<|p (qv c c)<|ad<|av c H5 (fun k7 H8=>M<|J c<|J c<|aa<|aR H8 (eM c c c c c) c fun v34 _ H9=>J c<|J c<|p (bq c c)<|J c<|p (v_sub c c)<|aa<|aR H9 (dG c c) c fun v40 _ H10=>O c<|M<|J c<|J c<|aa<|aR H10 (eM c c c c c) c fun v43 _ H11=>J c<|aa<|aR H11 (x_copy c c) c fun v45 _ H12=>ad<|ak<|bm (n:=9) [] cm c .slnil<|U 0 c (ag c)<|U 1 c (ag c)<|U 2 c (ag c)<|U 3 c (bq c c)<|U 5 c (ag c)<|U 6 c (ag c)<|jB H12 fun H13_1 H13_2=>jC (i:=4) (j:=7) (by kernel_rfl) (cE c c<|aR H13_1 (eM c c c c c) c fun v50 _ H14=>⟨.slnil,G 7 c<|aR H14 (eM c c c c c) c fun v53 _ H15=>⟨.slnil,G 8 c<|aR H15 (x_copy c c) c fun v54 _ H16=>⟨.slnil,aV (by kernel_rfl)<|M<|J c<|O c<|ai<|Y ⟨v40,c,H16⟩⟩⟩⟩)<|cE c c<|aR H13_2 (eM c c c c c) c fun v53 _ H14=>⟨.slnil,G 4 c<|aR H14 (eM c c c c c) c fun v50 _ H15=>⟨.slnil,G 8 c<|aR H15 (x_copy c c) c fun v54 _ H16=>⟨.slnil,aV (by kernel_rfl)<|M<|J c<|O c<|ai<|Y ⟨v40,c,H16⟩⟩⟩⟩) fun k7 H8=>an<|M<|J c<|J c<|J c<|p (bq c c)<|aa<|aR H8 (eM c c c c c) c fun v60 _ H17=>O c<|ak<|M<|J c<|J c<|J c<|J c<|p (bq c c)<|aa<|aR H17 (eM c c c c c) c fun v66 _ H18=>aa<|fW H18 (rO (vs:=[(sv a2),(sv v66)]) c) c fun v67 _ H19=>p (cq c)<|ad<|av c H19 (fun k20 H21=>ak<|bm (n:=9) [] cm c .slnil<|U 0 c (ag c)<|U 1 c (ag c)<|U 2 c (ag c)<|U 3 c (bq c c)<|U 5 c (ag c)<|U 6 c (ag c)<|jB H21 fun H22_1 H22_2=>jC (i:=4) (j:=7) (by kernel_rfl) (cE c c<|aR H22_1 (eM c c c c c) c fun v73 _ H23=>⟨.slnil,G 7 c<|aR H23 (eM c c c c c) c fun v76 _ H24=>⟨.slnil,G 8 c<|aR H24 (x_copy c c) c fun v77 _ H25=>⟨.slnil,aV (by kernel_rfl)<|M<|J c<|J c<|aa<|aR H25 (eM c c c c c) c fun v80 _ H26=>J c<|aa<|aR H26 (x_copy c c) c fun v82 _ H27=>ad<|M<|J c<|O c<|ai<|Y ⟨v60,c,H27⟩⟩⟩⟩)<|cE c c<|aR H22_2 (eM c c c c c) c fun v76 _ H23=>⟨.slnil,G 4 c<|aR H23 (eM c c c c c) c fun v73 _ H24=>⟨.slnil,G 8 c<|aR H24 (x_copy c c) c fun v77 _ H25=>⟨.slnil,aV (by kernel_rfl)<|M<|J c<|J c<|aa<|aR H25 (eM c c c c c) c fun v80 _ H26=>J c<|aa<|aR H26 (x_copy c c) c fun v82 _ H27=>ad<|M<|J c<|O c<|ai<|Y ⟨v60,c,H27⟩⟩⟩⟩) fun k20 H21=>an<|M<|J c<|J c<|aa<|aR H21 (eM c c c c c) c fun v86 _ H28=>J c<|aa<|aR H28 (x_copy c c) c fun v88 _ H29=>ad<|M<|J c<|J c<|aa<|aR H29 (eM c c c c c) c fun v91 _ H30=>J c<|aa<|Z H30 en_192 fun r93 _ H31=>ad<|M<|J c<|O c<|ai<|Y ⟨v60,c,H31⟩
def jr (a0:Sl) (a1:Int) (K:Int→Hp→Prop) (Rec2:Int→Hp→Prop) (s1:Int):Hp→Prop:=br (decide (s1 < (a0.len:Int))) ( ix a0 s1 fun q14=>ld (q14.1,q14.2 + Int.toNat s1 * 1) (cI .i64) fun x15=>br (a1 == x15) ( K s1) ( Rec2 (IntKind.i64.wrap (s1 + 1)))) ( K (-1))
def nG (a0:Sl) (a1:Int) (K:Int→Hp→Prop):Hp→Prop:=Lp (jr a0 a1 K) 0
theorem uK (a0:Sl) (a1:Int) {K:Int→Hp→Prop} {h:Hp} (H:nG a0 a1 K h):Ct Tryz.prog jS #[(sv a0),(.int .i64 a1)] h fun v h'=>∃ r,v = eC r∧K r h':=au [(sv a0),(.int .i64 a1)] Tryz.func193 c c c fun _=>M<|O c<|ak<|M<|J c<|p (dy c Tryz.underlying40 c)<|J c<|ad<|ay<|bE (step:=jr a0 a1 K) (fun s1=>[(0,(sv a0)),(1,(.int .i64 a1)),(7,(.int .i64 (a0.len:Int))),(8,(.int .i64 s1))]) (fun s1=>[]) H (.cons c<|.cons c<|.cons c<|.cons c<|.nil _) .slnil fun Rec2 s1 _ H3=>M<|p (cu c c)<|ad<|ak<|av c H3 (fun k4 H5=>an<|ak<|ay<|M<|J c<|O c<|M<|J c<|J c<|J c<|cj H5 fun q14 e6 h7 H8=>p (bn iA (aL c<|aZ e6) c h7)<|aa<|aU H8 aY c (fun _=>c) c fun x15 H9=>p (bL c c)<|ad<|av c H9 (fun k10 H11=>M<|J c<|O c<|ai<|Y ⟨s1,c,H11⟩) fun k10 H11=>an<|aq<|p (bq c c)<|J c<|ad<|cL (IntKind.i64.wrap (s1 + 1)) H11 (.cons c<|.cons c<|.cons c<|.cons c<|.nil _) .slnil) fun k4 H5=>bj<|M<|O c<|ai<|Y ⟨(-1),c,H5⟩
def eP (a0:Sl) (a1:Int) (a3:Value) (Rec2:Int→Hp→Prop) (s1:Int) (Rec7:Int→Hp→Prop) (s6:Int):Hp→Prop:=br (decide (s6 > a1)) ( ix a0 s6 fun q25=>ix a0 (IntKind.i64.wrap (s6 - 1)) fun q30=>ld (q25.1,q25.2 + Int.toNat s6 * 1) (cI .i64) fun x26=>ld (q30.1,q30.2 + Int.toNat (IntKind.i64.wrap (s6 - 1)) * 1) (cI .i64) fun x31=>clv Tryz.prog a3 [(.int .i64 x26),(.int .i64 x31)] eC fun r32=>br (decide (r32 < 0)) ( ld (q30.1,q30.2 + Int.toNat (IntKind.i64.wrap (s6 - 1)) * 1) (cI .i64) fun x46=>ld (q25.1,q25.2 + Int.toNat s6 * 1) (cI .i64) fun x50=>st (q25.1,q25.2 + Int.toNat s6 * 1) [.int .i64 x46]<|st (q30.1,q30.2 + Int.toNat (IntKind.i64.wrap (s6 - 1)) * 1) [.int .i64 x50]<|Rec7 (IntKind.i64.wrap (s6 - 1))) ( Rec2 (IntKind.i64.wrap (s1 + 1)))) ( Rec2 (IntKind.i64.wrap (s1 + 1)))
def dD (a0:Sl) (a1:Int) (a2:Int) (a3:Value) (K:Unit→Hp→Prop) (Rec2:Int→Hp→Prop) (s1:Int):Hp→Prop:=br (decide (s1 < a2)) ( Lp (eP a0 a1 a3 Rec2 s1) s1) ( K ())
def hH (a0:Sl) (a1:Int) (a2:Int) (a3:Value) (K:Unit→Hp→Prop):Hp→Prop:=Lp (dD a0 a1 a2 a3 K) (IntKind.i64.wrap (a1 + 1))
theorem mM (a0:Sl) (a1:Int) (a2:Int) (a3:Value) {K:Unit→Hp→Prop} {h:Hp} (H:hH a0 a1 a2 a3 K h):Ct Tryz.prog bX #[(sv a0),(.int .i64 a1),(.int .i64 a2),a3] h fun v h'=>∃ r,v = R_ r∧K r h':=au [(sv a0),(.int .i64 a1),(.int .i64 a2),a3] Tryz.func184 c c c fun _=>M<|J c<|p (bq c c)<|O c<|ay<|bE (step:=dD a0 a1 a2 a3 K) (fun s1=>[(0,(sv a0)),(1,(.int .i64 a1)),(2,(.int .i64 a2)),(3,a3),(8,(.int .i64 s1))]) (fun s1=>[]) H (.cons c<|.cons c<|.cons c<|.cons c<|.cons c<|.nil _) .slnil fun Rec2 s1 _ H3=>ak<|M<|J c<|J c<|p (cu c c)<|ad<|av c H3 (fun k4 H5=>an<|ak<|ay<|M<|J c<|O c<|ay<|bE (step:=eP a0 a1 a3 Rec2 s1) (fun s6=>[(0,(sv a0)),(1,(.int .i64 a1)),(2,(.int .i64 a2)),(3,a3),(8,(.int .i64 s1)),(9,(.int .i64 s6))]) (fun s6=>[]) H5 (.cons c<|.cons c<|.cons c<|.cons c<|.cons c<|.cons c<|.nil _) .slnil fun Rec7 s6 _ H8=>ak<|ak<|bm (n:=17) [] cm c .slnil<|U 0 c (ag c)<|U 1 c (ag c)<|U 2 c (qv c c)<|U 3 c (ag c)<|qe H8 (fun k9 H10=>z_n 4 c (D k9) (ve<|ag c)<|z_n 5 c (D k9) (ve<|ag c)<|z_n 6 c (D k9) (ve<|ag c)<|z_n 9 c (D k9) (ve<|ag c)<|z_n 10 c (D k9) (ve<|ag c)<|z_n 11 c (D k9) (ve<|v_sub c c)<|ge H10 fun q25 e11 h12 H13=>z_n 7 c (D k9) (ve<|bn iA (aL c<|aZ e11) c h12)<|ge H13 fun q30 e14 h15 H16=>z_n 12 c (D k9) (ve<|bn iA (aL c<|aZ e14) c h15)<|me (i:=8) (fun _ _ _ _ hh=>hh) H16 c (by kernel_rfl) c c c (D k9) aY c (fun _=>c) c fun x26 H17=>me (i:=13) (fun _ _ _ _ hh=>hh) H17 c (by kernel_rfl) c c c (D k9) aY c (fun _=>c) c fun x31 H18=>eva_1 (i:=14) (by kernel_rfl)<|way_on c c c c (D k9)<|to_clv H18 c c c fun r32 _ H19=>⟨.slnil,z_n 15 c (D k9) (ve<|cu c c)<|U 16 c (aQ c k9 c)<|aV (by kernel_rfl)<|av c H19 (fun k20 H21=>an<|ak<|ay<|bm (n:=18) [] cm c .slnil<|U 0 c (ag c)<|U 1 c (ag c)<|U 2 c (ag c)<|U 3 c (ag c)<|U 4 c (v_sub c c)<|U 5 c (ag c)<|U 6 c (ag c)<|U 7 c (v_sub c c)<|U 8 c (bn iA (aL c<|aZ e14) c h15)<|U 10 c (ag c)<|U 11 c (ag c)<|U 12 c (bn iA (aL c<|aZ e11) c h12)<|bF (i:=9) (fun _ _ _ _ hh=>hh) H21 c (by kernel_rfl) aY c (fun _=>c) c fun x46 H22=>bF (i:=13) (fun _ _ _ _ hh=>hh) H22 c (by kernel_rfl) aY c (fun _=>c) c fun x50 H23=>U 14 c (bn iA (aL c<|aZ e11) c h12)<|G 15 c<|dp pH c c c c c H23 fun _ H24=>⟨.slnil,U 16 c (bn iA (aL c<|aZ e14) c h15)<|G 17 c<|dp pH c c c c c H24 fun _ H25=>⟨.slnil,aV (by kernel_rfl)<|aq<|J c<|p (v_sub c c)<|O c<|cL (IntKind.i64.wrap (s6 - 1)) H25 (.cons c<|.cons c<|.cons c<|.cons c<|.cons c<|.cons c<|.nil _) .slnil⟩⟩) fun k20 H21=>bj<|aq<|J c<|p (bq c c)<|O c<|cL (IntKind.i64.wrap (s1 + 1)) H21 (.cons c<|.cons c<|.cons c<|.cons c<|.cons c<|.nil _) .slnil⟩) fun k9 H10=>R 4 c (aS k9)<|R 5 c (aS k9)<|R 6 c (aS k9)<|R 7 c (aS k9)<|R 8 c (aS k9)<|R 9 c (aS k9)<|R 10 c (aS k9)<|R 11 c (aS k9)<|R 12 c (aS k9)<|R 13 c (aS k9)<|R 14 c (aS k9)<|R 15 c (aS k9)<|U 16 c (ap c k9 c)<|aV (by kernel_rfl)<|ev_no c c<|bj<|aq<|J c<|p (bq c c)<|O c<|cL (IntKind.i64.wrap (s1 + 1)) H10 (.cons c<|.cons c<|.cons c<|.cons c<|.cons c<|.nil _) .slnil) fun k4 H5=>bj<|end_i (res_0 c) ⟨(),c,H5⟩
def kM (a0:Sl) (a1:Int) (a2:Value) (Rec9:Int→Hp→Prop) (s8:Int) (Rec14:(Int × Int)→Hp→Prop) (s13:Int × Int):Hp→Prop:=br (decide (s13.2 ≤ a1)) ( cl Tryz.prog kg [(sv a0),(.int .i64 s13.1),(.int .i64 (IntKind.i64.wrap (s13.1 + s8))),(.int .i64 s13.2),a2] R_ fun (_:Unit)=>Rec14 (s13.2,(IntKind.i64.wrap (s13.2 + (IntKind.i64.wrap (2 * s8)))))) ( br (decide ((IntKind.i64.wrap (s13.1 + s8)) < a1)) ( cl Tryz.prog kg [(sv a0),(.int .i64 s13.1),(.int .i64 (IntKind.i64.wrap (s13.1 + s8))),(.int .i64 a1),a2] R_ fun (_:Unit)=>Rec9 (IntKind.i64.wrap (s8 * 2))) ( Rec9 (IntKind.i64.wrap (s8 * 2))))
def dm (a0:Sl) (a1:Int) (a2:Value) (K:Unit→Hp→Prop) (Rec9:Int→Hp→Prop) (s8:Int):Hp→Prop:=br (decide (s8 < a1)) ( Lp (kM a0 a1 a2 Rec9 s8) (0,(IntKind.i64.wrap (2 * s8)))) ( K ())
def eY (a0:Sl) (a1:Int) (a2:Value) (K:Unit→Hp→Prop) (Rec2:(Int × Int)→Hp→Prop) (s1:Int × Int):Hp→Prop:=br (decide (s1.2 ≤ a1)) ( cl Tryz.prog bX [(sv a0),(.int .i64 s1.1),(.int .i64 s1.2),a2] R_ fun (_:Unit)=>Rec2 (s1.2,(IntKind.i64.wrap (s1.2 + 20)))) ( cl Tryz.prog bX [(sv a0),(.int .i64 s1.1),(.int .i64 a1),a2] R_ fun (_:Unit)=>Lp (dm a0 a1 a2 K) 20)
def kN (a0:Sl) (a1:Int) (a2:Value) (K:Unit→Hp→Prop):Hp→Prop:=Lp (eY a0 a1 a2 K) (0,20)
theorem rb (a0:Sl) (a1:Int) (a2:Value) {K:Unit→Hp→Prop} {h:Hp} (H:kN a0 a1 a2 K h):Ct Tryz.prog lh #[(sv a0),(.int .i64 a1),a2] h fun v h'=>∃ r,v = R_ r∧K r h':=au [(sv a0),(.int .i64 a1),a2] Tryz.func143 c c c fun _=>M<|O c<|M<|J c<|p (ar c)<|O c<|ak<|ay<|bE (step:=eY a0 a1 a2 K) (fun s1=>[(0,(sv a0)),(1,(.int .i64 a1)),(2,a2),(6,(.int .i64 20)),(7,(.int .i64 s1.1)),(8,(.int .i64 s1.2))]) (fun s1=>[]) H (.cons c<|.cons c<|.cons c<|.cons c<|.cons c<|.cons c<|.nil _) .slnil fun Rec2 s1 _ H3=>ak<|M<|J c<|J c<|p (v_le c c)<|ad<|av c H3 (fun k4 H5=>an<|ay<|M<|J c<|J c<|J c<|J c<|aa<|Z H5 en_184 fun r18 _ H6=>ad<|M<|J c<|O c<|aq<|J c<|J c<|p (bq c c)<|O c<|cL (s1.2,(IntKind.i64.wrap (s1.2 + 20))) H6 (.cons c<|.cons c<|.cons c<|.cons c<|.cons c<|.cons c<|.nil _) .slnil) fun k4 H5=>bj<|M<|J c<|J c<|J c<|J c<|aa<|Z H5 en_184 fun r27 _ H7=>ad<|ay<|bE (step:=dm a0 a1 a2 K) (fun s8=>[(0,(sv a0)),(1,(.int .i64 a1)),(2,a2),(6,(.int .i64 s8))]) (fun s8=>[]) H7 (.cons c<|.cons c<|.cons c<|.cons c<|.nil _) .slnil fun Rec9 s8 _ H10=>ak<|M<|J c<|J c<|p (cu c c)<|ad<|av c H10 (fun k11 H12=>an<|ay<|M<|J c<|p (v_mul c c)<|p (ar c)<|O c<|ak<|ay<|bE (step:=kM a0 a1 a2 Rec9 s8) (fun s13=>[(0,(sv a0)),(1,(.int .i64 a1)),(2,a2),(6,(.int .i64 s8)),(7,(.int .i64 s13.1)),(8,(.int .i64 s13.2))]) (fun s13=>[]) H12 (.cons c<|.cons c<|.cons c<|.cons c<|.cons c<|.cons c<|.nil _) .slnil fun Rec14 s13 _ H15=>ak<|M<|J c<|J c<|p (v_le c c)<|ad<|av c H15 (fun k16 H17=>an<|ay<|M<|J c<|J c<|J c<|J c<|p (bq c c)<|J c<|J c<|aa<|Z H17 en_185 fun r43 _ H18=>ad<|M<|J c<|O c<|aq<|J c<|J c<|p (v_mul c c)<|p (bq c c)<|O c<|cL (s13.2,(IntKind.i64.wrap (s13.2 + (IntKind.i64.wrap (2 * s8))))) H18 (.cons c<|.cons c<|.cons c<|.cons c<|.cons c<|.cons c<|.nil _) .slnil) fun k16 H17=>bj<|ak<|M<|J c<|J c<|p (bq c c)<|O c<|M<|J c<|J c<|p (cu c c)<|ad<|av c H17 (fun k19 H20=>aq<|J c<|J c<|J c<|J c<|J c<|aa<|Z H20 en_185 fun r60 _ H21=>ad<|aq<|J c<|p (v_mul c c)<|O c<|cL (IntKind.i64.wrap (s8 * 2)) H21 (.cons c<|.cons c<|.cons c<|.cons c<|.nil _) .slnil) fun k19 H20=>an<|aq<|J c<|p (v_mul c c)<|O c<|cL (IntKind.i64.wrap (s8 * 2)) H20 (.cons c<|.cons c<|.cons c<|.cons c<|.nil _) .slnil) fun k11 H12=>bj<|end_i (res_0 c) ⟨(),c,H12⟩
def iK (a0:Sl) (a1:Value) (K:Unit→Hp→Prop):Hp→Prop:=cl Tryz.prog lh [(sv a0),(.int .i64 (a0.len:Int)),a1] R_ fun (_:Unit)=>K ()
theorem nY (a0:Sl) (a1:Value) {K:Unit→Hp→Prop} {h:Hp} (H:iK a0 a1 K h):Ct Tryz.prog fF #[(sv a0),a1] h fun v h'=>∃ r,v = R_ r∧K r h':=au [(sv a0),a1] Tryz.func87 c c c fun _=>aq<|J c<|J c<|p (dy c Tryz.underlying40 c)<|J c<|aa<|Z H en_143 fun r8 _ H1=>ad<|end_i (res_0 c) ⟨(),c,H1⟩
def jJ (a0:Sl) (K:Sl→Hp→Prop):Hp→Prop:=br a0.a.isNone ( K (⟨none,0,0,none⟩:Sl)) ( hpv Tryz.prog (Instr.buildSlice bd 0 #[]) cd fun (v5:Sl)=>hpv Tryz.prog (Builtin.append_ #[bd,bd] bd #[(sv v5),(sv a0)]) cd fun (v7:Sl)=>K v7)
theorem pT (a0:Sl) {K:Sl→Hp→Prop} {h:Hp} (H:jJ a0 K h):Ct Tryz.prog gw #[(sv a0)] h fun v h'=>∃ r,v = cd r∧K r h':=au [(sv a0)] Tryz.func216 c c c fun _=>M<|O c<|ak<|M<|J c<|p (v_seqT Tryz.underlying158 c)<|ad<|av c H (fun k1 H2=>M<|O c<|ai<|Y ⟨(⟨none,0,0,none⟩:Sl),c,H2⟩) fun k1 H2=>an<|M<|aa<|aR H2 (bv (vs:=[]) c) c fun v5 _ H3=>J c<|aa<|aR H3 (dG c c) c fun v7 _ H4=>O c<|ai<|Y ⟨v7,c,H4⟩
end Go.Proofs.YtmggcfijlpldpaaGreatDoor
namespace Go.Proofs.YtmggcfijlpldpaaGreatDoor
open Go Mb
abbrev vI (s:Sl) (xs:List Int):As:=vec kL 1 (cI .i64) s xs
def eZ (a:Int):List Int→Int→Int
  | [],_=>-1
  | x::xs,i=>if a = x then i else eZ a xs (i + 1)
theorem sp_slices_Index (s:Sl) (a:Int) (xs:List Int) (hb:xs.length < 2^62) :
    Sp Tryz.prog jS [sv s,.int .i64 a] eC [vI s xs] (fun r=>pa_ (r = eZ a xs 0) [vI s xs]):=by
  intro h st
  refine uK _ _ ?_
  unfold nG
  refine Lp.intro (fun (i:Int) h=>∃ n:Nat,i = n∧n ≤ xs.length∧eZ a (xs.drop n) n = eZ a xs 0∧aG [vI s xs] h) (fun (i:Int) _=>xs.length - i.toNat) ⟨0,rfl,Nat.zero_le _,by simp,st⟩ ?_
  rintro i h ⟨n,rfl,hn,he,st⟩
  have hl:=(cf st (j:=0) rfl).1
  unfold jr
  refine aX (fun k=>?_) (fun k=>?_)
  · have hlt:n < xs.length:=by simp [hl] at k; exact k
    refine dw st (j:=0) rfl (by omega) (by omega) fun q hq=>?_
    refine eo (j:=0) (i:=n) (k:=0) xs[n] (de _) st rfl hq (by simp) (aE hlt) (by simp) ?_
    have hd:xs.drop n = xs[n]::xs.drop (n + 1):=List.drop_eq_getElem_cons hlt
    rw [hd] at he
    refine aX (fun k2=>?_) (fun k2=>?_)
    · have k2':a = xs[n]:=by simpa using k2
      rw [eZ,if_pos k2'] at he
      exact ⟨he,st⟩
    · have k2':¬ a = xs[n]:=by simpa using k2
      rw [eZ,if_neg k2'] at he
      have hw:IntKind.i64.wrap ((n:Int) + 1) = ((n + 1:Nat):Int):=by rw [bP (by omega) (by omega)]; rfl
      rw [hw]
      exact ⟨⟨n + 1,rfl,hlt,by simpa using he,st⟩,by simp; omega⟩
  · have:n = xs.length:=by simp [hl] at k; omega
    subst this
    simp only [List.drop_length,eZ] at he
    exact ⟨he,st⟩
def fR (x:Ptr) (p:List Int):As:=fun h=>∃ bs:Nat × Sl,(x = some (bs.1,0)∧p.length ≤ 16)∧aG [blk bs.1 qw [sv bs.2],vI bs.2 p] h
namespace Pool
def refs (p:List Int) (i:Int):Int:=if i < 0 then 0 else p.getD i.toNat 0
def take (p:List Int):Int × Bool × List Int :=
  if eZ 0 p 0 < 0 then (0,false,p) else (eZ 0 p 0,true,p.set (eZ 0 p 0).toNat 1)
def hold (p:List Int) (i:Int):Bool × List Int :=
  if refs p i = 0∨refs p i ≥ 7 then (false,p) else (true,p.set i.toNat (IntKind.i64.wrap (refs p i + 1)))
def lets (p:List Int) (i:Int):Int × Bool × List Int :=
  if refs p i = 0 then (0,false,p) else (IntKind.i64.wrap (refs p i - 1),true,p.set i.toNat (IntKind.i64.wrap (refs p i - 1)))
def freeFrom:List Int→Int→List Int
  | [],_=>[]
  | x::xs,i=>if x = 0 then i::freeFrom xs (i + 1) else freeFrom xs (i + 1)
def free (p:List Int):List Int:=freeFrom p 0
end Pool
theorem idx_lt (a:Int):∀ (xs:List Int) (i:Int),eZ a xs i = -1∨∃ n:Nat,n < xs.length∧eZ a xs i = i + n
  | [],_=>.inl rfl
  | x::xs,i=>by
    unfold eZ
    split
    · exact .inr ⟨0,by simp,by simp⟩
    · rcases idx_lt a xs (i + 1) with h | ⟨n,h1,h2⟩
      · exact .inl h
      · exact .inr ⟨n + 1,by simp; omega,by rw [h2]; omega⟩
theorem pool_op {x:Ptr} {p:List Int} {l:List As} {h:Hp} (s0:aG (fR x p::l) h):∃ b s,x = some (b,0)∧p.length ≤ 16∧s.len = p.length∧aG (blk b qw [sv s]::vI s p::l) h:=by
  obtain ⟨⟨b,s⟩,⟨hx,hb⟩,st⟩:=op_ s0
  exact ⟨b,s,hx,hb,(cf (j:=1) st rfl).1,st⟩
theorem rX {b:Nat} {s:Sl} {p:List Int} {l:List As} {h:Hp} (hb:p.length ≤ 16) (st:aG (blk b qw [sv s]::vI s p::l) h):aG (fR (some (b,0)) p::l) h:=cl_ (b,s) ⟨rfl,hb⟩ st
theorem sp_pool_New (n:Int) (h1:¬ n < 1) (h2:¬ n > 16):Sp Tryz.prog wV [.int .i64 n] sq [] (fun r=>aG [fR r (List.replicate n.toNat 0)]):=by
  intro h st
  refine sim_pool_New _ ?_
  unfold sh_pool_New
  obtain ⟨m,rfl⟩:=Int.eq_ofNat_of_zero_le (show 0 ≤ n by omega)
  refine dB (by simp; omega) ?_
  refine nN (τ:=Int) (x0:=0) (enc:=cI .i64) (n:=m) (T:=kL) (m:=1) el_Sint rfl st ?_ ?_ ?_
  · omega
  · omega
  · intro v h' s1
    refine pf s1 fun b h'' s2=>?_
    exact rX (by simp; omega) s2
theorem wo (x:Ptr) (p:List Int) (i:Int):Sp Tryz.prog ju [pv x,.int .i64 i] eC [fR x p] (fun r=>pa_ (r = Pool.refs p i) [fR x p]):=by
  intro h s0
  obtain ⟨b,s,rfl,hb,hl,st⟩:=pool_op s0
  refine sim_pool_Pool_Refs _ _ ?_
  unfold tX
  refine aX (fun k=>?_) (fun k=>?_)
  · have h0:0 ≤ i:=by simpa using k
    obtain ⟨n,rfl⟩:=Int.eq_ofNat_of_zero_le h0
    refine cy ?_
    refine bk s st (i:=0) rfl rfl rfl ?_
    refine aX (fun k2=>?_) (fun k2=>?_)
    · have:p.length ≤ n:=by rw [hl] at k2; simpa using k2
      exact aW (by simp [Pool.refs,this]) (rX hb st)
    · have hlt:n < p.length:=by rw [hl] at k2; simpa using k2
      refine bk s st (i:=0) rfl rfl rfl ?_
      refine dw st (j:=1) rfl (by omega) (by omega) fun q hq=>?_
      refine eo (j:=1) (i:=n) (k:=0) p[n] (de _) st rfl hq (by simp) (aE hlt) (by simp) ?_
      refine aW ?_ (rX hb st)
      have:¬ ((n:Int) < 0):=by omega
      simp [Pool.refs,hlt,this]
  · have h0:i < 0:=by simpa using k
    exact aW (by simp [Pool.refs,h0]) (rX hb st)
theorem wn (x:Ptr) (p:List Int):Sp Tryz.prog jt [pv x] bK [fR x p] (fun r=>pa_ (r = ((Pool.take p).1,(Pool.take p).2.1)) [fR x (Pool.take p).2.2]):=by
  intro h s0
  obtain ⟨b,s,rfl,hb,hl,st⟩:=pool_op s0
  refine sim_pool_Pool_Take _ ?_
  unfold tW
  refine dB rfl (cy ?_)
  refine bk s st (i:=0) rfl rfl rfl ?_
  refine cO [1] (sp_slices_Index s 0 p (by omega)) st rfl fun r h' s1=>?_
  obtain ⟨hr,s2⟩:=bt.1 s1
  subst hr
  refine aX (fun k=>?_) (fun k=>?_)
  · have k':eZ 0 p 0 < 0:=by simpa using k
    have e:Pool.take p = (0,false,p):=if_pos k'
    rw [e]
    exact aW rfl (rX hb (bb [1] s2 rfl))
  · have k':¬ eZ 0 p 0 < 0:=by simpa using k
    have e0:Pool.take p = (eZ 0 p 0,true,p.set (eZ 0 p 0).toNat 1):=if_neg k'
    rw [e0]
    rcases idx_lt 0 p 0 with e | ⟨n,h1,e⟩
    · omega
    · rw [Int.zero_add] at e
      refine bk s s2 (i:=1) rfl rfl rfl ?_
      rw [e]
      refine dw s2 (j:=0) rfl (by omega) (by omega) fun q hq=>?_
      refine st_v (j:=0) (i:=n) (k:=0) (1:Int) (de _) s2 rfl hq (by simp) (aE h1) (by simp) rfl fun h2 s3=>?_
      exact aW rfl (rX (by simpa using hb) (bb [1] s3 rfl))
theorem refs_get {p:List Int} {i:Int} (h:Pool.refs p i ≠ 0):∃ n:Nat,i = n∧∃ hn:n < p.length,Pool.refs p i = p[n]:=by
  unfold Pool.refs at h ⊢
  by_cases h0:i < 0
  · rw [if_pos h0] at h; exact absurd rfl h
  · rw [if_neg h0] at h ⊢
    obtain ⟨n,rfl⟩:=Int.eq_ofNat_of_zero_le (show 0 ≤ i by omega)
    refine ⟨n,rfl,?_⟩
    by_cases hn:n < p.length
    · exact ⟨hn,by simp [hn]⟩
    · simp [List.getD_eq_getElem?_getD,List.getElem?_eq_none (Nat.le_of_not_lt hn)] at h
theorem sp_pool_Hold (x:Ptr) (p:List Int) (i:Int):Sp Tryz.prog lO [pv x,.int .i64 i] aA [fR x p] (fun r=>pa_ (r = (Pool.hold p i).1) [fR x (Pool.hold p i).2]):=by
  intro h s0
  refine sim_pool_Pool_Hold _ _ ?_
  unfold tY
  refine cO [0] (wo x p i) s0 rfl fun r h' s1=>?_
  obtain ⟨hr,s2⟩:=bt.1 s1
  subst hr
  refine aX (fun k=>?_) (fun k=>?_)
  · have k':Pool.refs p i = 0∨Pool.refs p i ≥ 7:=by simpa using k
    have e:Pool.hold p i = (false,p):=if_pos k'
    rw [e]
    exact aW rfl s2
  · have k':¬ (Pool.refs p i = 0∨Pool.refs p i ≥ 7):=by simpa using k
    have e:Pool.hold p i = (true,p.set i.toNat (IntKind.i64.wrap (Pool.refs p i + 1))):=if_neg k'
    rw [e]
    obtain ⟨n,rfl,hn,hg⟩:=refs_get (p:=p) (i:=i) (by omega)
    obtain ⟨b,s,rfl,hb,hl,st⟩:=pool_op s2
    refine cy ?_
    refine bk s st (i:=0) rfl rfl rfl ?_
    refine dw st (j:=1) rfl (by omega) (by omega) fun q hq=>?_
    refine eo (j:=1) (i:=n) (k:=0) p[n] (de _) st rfl hq (by simp) (aE hn) (by simp) ?_
    refine st_v (j:=1) (i:=n) (k:=0) (IntKind.i64.wrap (p[n] + 1)) (de _) st rfl hq (by simp) (aE hn) (by simp) rfl fun h2 s3=>?_
    rw [hg]
    exact aW rfl (rX (by simpa using hb) s3)
theorem sp_pool_Let (x:Ptr) (p:List Int) (i:Int):Sp Tryz.prog mW [pv x,.int .i64 i] bK [fR x p] (fun r=>pa_ (r = ((Pool.lets p i).1,(Pool.lets p i).2.1)) [fR x (Pool.lets p i).2.2]):=by
  intro h s0
  refine sim_pool_Pool_Let _ _ ?_
  unfold vr
  refine cO [0] (wo x p i) s0 rfl fun r h' s1=>?_
  obtain ⟨hr,s2⟩:=bt.1 s1
  subst hr
  refine aX (fun k=>?_) (fun k=>?_)
  · have k':Pool.refs p i = 0:=by simpa using k
    have e:Pool.lets p i = (0,false,p):=if_pos k'
    rw [e]
    exact aW rfl s2
  · have k':¬ (Pool.refs p i = 0):=by simpa using k
    have e:Pool.lets p i = (IntKind.i64.wrap (Pool.refs p i - 1),true,p.set i.toNat (IntKind.i64.wrap (Pool.refs p i - 1))):=if_neg k'
    rw [e]
    obtain ⟨n,rfl,hn,hg⟩:=refs_get (p:=p) (i:=i) k'
    obtain ⟨b,s,rfl,hb,hl,st⟩:=pool_op s2
    refine cy ?_
    refine bk s st (i:=0) rfl rfl rfl ?_
    refine dw st (j:=1) rfl (by omega) (by omega) fun q hq=>?_
    refine eo (j:=1) (i:=n) (k:=0) p[n] (de _) st rfl hq (by simp) (aE hn) (by simp) ?_
    refine st_v (j:=1) (i:=n) (k:=0) (IntKind.i64.wrap (p[n] - 1)) (de _) st rfl hq (by simp) (aE hn) (by simp) rfl fun h2 s3=>?_
    refine bk s s3 (i:=0) rfl rfl rfl ?_
    refine dw s3 (j:=1) rfl (by omega) (by simp; omega) fun q2 hq2=>?_
    refine eo (j:=1) (i:=n) (k:=0) (IntKind.i64.wrap (p[n] - 1)) (de _) s3 rfl hq2 (by simp) (x:=IntKind.i64.wrap (p[n] - 1)) (by simp [hn]) (by simp) ?_
    rw [hg]
    exact aW rfl (rX (by simpa using hb) s3)
theorem free_append:∀ (xs:List Int) (i:Int) (x:Int),Pool.freeFrom (xs++[x]) i = Pool.freeFrom xs i++(if x = 0 then [i + xs.length] else [])
  | [],i,x=>by simp only [List.nil_append,Pool.freeFrom]; split <;> simp
  | y::xs,i,x=>by
    simp only [List.cons_append,Pool.freeFrom]
    rw [free_append xs (i + 1) x]
    have e:i + 1 + (xs.length:Int) = i + ((y::xs).length:Int):=by simp; omega
    rw [e]
    split <;> simp
theorem free_len:∀ (xs:List Int) (i:Int),(Pool.freeFrom xs i).length ≤ xs.length
  | [],_=>Nat.le_refl _
  | x::xs,i=>by unfold Pool.freeFrom; have:=free_len xs (i + 1); split <;> simp <;> omega
theorem we {l:List As} {h:Hp} {i:Nat} {s:Sl} {xs:List Int} {x:Int} {K:Sl→Hp→Prop} (st:aG l h) (hi:l[i]? = some (vI s xs)) (hb:xs.length < 2 ^ 40)
    (k:∀ v h',aG (l.set i (vI v (xs++[x]))) h'→K v h'):hpv Tryz.prog (Instr.buildSlice dH 1 #[(0,.int .i64 x)]) cA (fun y=>hpv Tryz.prog (Builtin.append_ #[dH,dH] dH #[sv s,sv y]) cA K) h:=by
  refine fy (τ:=Int) [x] (val:=fun x=>.int .i64 x) (enc:=cI .i64) el_Sint (de _) (fun _=>rfl) st rfl rfl (by simp) fun y h' s1=>?_
  have hlt:=(List.getElem?_eq_some_iff.1 hi).1
  refine tJ (τ:=Int) (i:=i + 1) (j:=0) (enc:=cI .i64) (ys:=[x]) el_Sint el_Sint.sl (de _) (oneI _) s1 (by simpa using hi) rfl (by omega) (by simp; omega) (by simp; omega) fun v h2 s2=>?_
  exact k v h2 (cc (l:=[vI y [x]]) (by simpa using s2))
theorem sp_pool_Free (x:Ptr) (p:List Int):Sp Tryz.prog lP [pv x] cA [fR x p] (fun r=>aG [vI r (Pool.free p),fR x p]):=by
  intro h s0
  obtain ⟨b,s,rfl,hb,hl,st⟩:=pool_op s0
  refine sim_pool_Pool_Free _ ?_
  unfold tZ
  refine dB rfl (cy ?_)
  refine bk s st (i:=0) rfl rfl rfl ?_
  refine Lp.intro (fun (z:Sl × Int) h=>∃ n:Nat,z.2 = n∧n ≤ p.length∧aG [vI z.1 (Pool.freeFrom (p.take n) 0),blk b qw [sv s],vI s p] h) (fun (z:Sl × Int) _=>p.length - z.2.toNat) ⟨0,rfl,Nat.zero_le _,fH st⟩ ?_
  rintro ⟨z,i⟩ h ⟨n,rfl,hn,s1⟩
  unfold oD
  refine aX (fun k=>?_) (fun k=>?_)
  · have hlt:n < p.length:=by rw [hl] at k; simpa using k
    have hw:IntKind.i64.wrap ((n:Int) + 1) = ((n + 1:Nat):Int):=by rw [bP (by omega) (by omega)]; rfl
    have ht:p.take (n + 1) = p.take n++[p[n]]:=by simp
    have hlen:((p.take n).length:Int) = n:=by simp; omega
    refine dw s1 (j:=2) rfl (by omega) (by show (n:Int) < _; omega) fun q hq=>?_
    refine eo (j:=2) (i:=n) (k:=0) p[n] (de _) s1 rfl hq (by simp) (aE hlt) (by simp) ?_
    refine aX (fun k2=>?_) (fun k2=>?_)
    · have k2':p[n] = 0:=by simpa using k2
      refine we s1 (i:=0) rfl ?_ fun v h' s2=>?_
      · have:=free_len (p.take n) 0; simp at this ⊢; omega
      · rw [hw]
        refine ⟨⟨n + 1,rfl,hlt,?_⟩,by simp; omega⟩
        rw [ht,free_append,if_pos k2',hlen,Int.zero_add]
        exact s2
    · have k2':¬ p[n] = 0:=by simpa using k2
      rw [hw]
      refine ⟨⟨n + 1,rfl,hlt,?_⟩,by simp; omega⟩
      rw [ht,free_append,if_neg k2',List.append_nil]
      exact s1
  · have:n = p.length:=by rw [hl] at k; simp at k; omega
    subst this
    rw [List.take_length] at s1
    exact km (.cons _ (.refl _)) (bb (l:=[vI z (Pool.freeFrom p 0),fR (some (b,0)) p]) [0] (by
      have:=bb [1,1] s1 rfl
      exact bb [1] (rX hb this) rfl) rfl)
def Pool.bitsOf (w:Int):List Int→Int
  | []=>w
  | i::l=>Pool.bitsOf (ior .u64 w (IntKind.u64.wrap (1 * 2 ^ (min (Int.toNat i) (IntKind.bits .u64))))) l
def Pool.bits (p:List Int):Int:=Pool.bitsOf 0 (Pool.free p)
theorem free_ge:∀ (xs:List Int) (i:Int),0 ≤ i→∀ j ∈ Pool.freeFrom xs i,0 ≤ j
  | [],_,_,_,h=>by cases h
  | x::xs,i,hi,j,h=>by
    unfold Pool.freeFrom at h
    split at h
    · rcases List.mem_cons.1 h with rfl | h
      · exact hi
      · exact free_ge xs (i + 1) (by omega) j h
    · exact free_ge xs (i + 1) (by omega) j h
theorem bits_append (a:Int):∀ (l:List Int) (w:Int),Pool.bitsOf w (l++[a]) = ior .u64 (Pool.bitsOf w l) (IntKind.u64.wrap (1 * 2 ^ (min (Int.toNat a) (IntKind.bits .u64))))
  | [],_=>rfl
  | _::l,w=>by simp only [List.cons_append,Pool.bitsOf]; exact bits_append a l _
theorem sp_pool_Bits (x:Ptr) (p:List Int):Sp Tryz.prog pW [pv x] gJ [fR x p] (fun r=>pa_ (r = Pool.bits p) [fR x p]):=by
  intro h s0
  have hp16:p.length ≤ 16:=by obtain ⟨_,_,_,hb,_⟩:=pool_op s0; exact hb
  refine sim_pool_Pool_Bits _ ?_
  unfold ua
  refine cO [0] (sp_pool_Free x p) s0 rfl fun r h1 s1=>?_
  have s2:=dC s1
  have hl:=(cf (j:=0) s2 rfl).1
  have hfl:=free_len p 0
  refine Lp.intro (fun (z:Int × Int) h=>∃ n:Nat,z.2 = n∧n ≤ (Pool.free p).length∧z.1 = Pool.bitsOf 0 ((Pool.free p).take n)∧aG [vI r (Pool.free p),fR x p] h) (fun (z:Int × Int) _=>(Pool.free p).length - z.2.toNat) ⟨0,rfl,Nat.zero_le _,rfl,s2⟩ ?_
  rintro ⟨w,i⟩ h ⟨n,rfl,hn,rfl,s3⟩
  unfold oE
  refine aX (fun k=>?_) (fun k=>?_)
  · have hlt:n < (Pool.free p).length:=by rw [hl] at k; simpa using k
    have hw:IntKind.i64.wrap ((n:Int) + 1) = ((n + 1:Nat):Int):=by
      have:(Pool.free p).length ≤ 16:=by unfold Pool.free; omega
      rw [bP (by omega) (by omega)]; rfl
    refine dw s3 (j:=0) rfl (by omega) (by show (n:Int) < _; omega) fun q hq=>?_
    refine eo (j:=0) (i:=n) (k:=0) (Pool.free p)[n] (de _) s3 rfl hq (by simp) (aE hlt) (by simp) ?_
    refine ⟨free_ge p 0 (Int.le_refl _) _ (List.getElem_mem hlt),?_⟩
    rw [hw]
    refine ⟨⟨n + 1,rfl,hlt,?_,s3⟩,by simp; omega⟩
    have ht:(Pool.free p).take (n + 1) = (Pool.free p).take n++[(Pool.free p)[n]]:=by simp
    rw [ht,bits_append]
  · have:n = (Pool.free p).length:=by rw [hl] at k; simp at k; omega
    subst this
    refine aW ?_ (cc (l:=[vI r (Pool.free p)]) s3)
    rw [List.take_length]; rfl
end Go.Proofs.YtmggcfijlpldpaaGreatDoor
namespace Go.Proofs.YtmggcfijlpldpaaGreatDoor
open Go Mb
set_option linter.unusedVariables false
def sh_table_New (K:Ptr→Hp→Prop):Hp→Prop:=hpv Tryz.prog (Instr.build kl #[]) encL fun (v1:(List Value))=>nw kl v1 fun b2=>K (some (b2,0))
theorem sim_table_New {K:Ptr→Hp→Prop} {h:Hp} (H:sh_table_New K h):Ct Tryz.prog lg #[] h fun v h'=>∃ r,v = ip r∧K r h':=au [] Tryz.func96 c c c fun _=>M<|O c<|M<|aa<|aR H (x_build (vs:=[]) c) c fun v1 _ H1=>aa<|gZ c c c H1 fun b2 _ H2=>O c<|ai<|Y ⟨some (b2,0),c,H2⟩
def iJ (a0:Ptr) (a1:Int) (K:(al × Bool)→Hp→Prop) (s1:Bool):Hp→Prop:=br s1 ( K ((⟨0,0,0⟩:al),false)) ( nn a0 fun q26=>gd (0 ≤ a1∧a1 < 8)<|ld (q26.1,q26.2 + 0 + Int.toNat a1 * 3) al.C fun x29=>K (x29,true))
def tV (a0:Ptr) (a1:Int) (K:(al × Bool)→Hp→Prop):Hp→Prop:=br (!(a0.isNone || (!(bz a1)))) ( nn a0 fun q16=>gd (0 ≤ a1∧a1 < 8)<|ld (q16.1,q16.2 + 0 + Int.toNat a1 * 3 + 2) (cI .i64) fun x20=>iJ a0 a1 K (x20 == 0)) ( iJ a0 a1 K true)
theorem sim_table_Table_At (a0:Ptr) (a1:Int) {K:(al × Bool)→Hp→Prop} {h:Hp} (H:tV a0 a1 K h):Ct Tryz.prog eT #[(pv a0),(.int .i64 a1)] h fun v h'=>∃ r,v = cz r∧K r h':=au [(pv a0),(.int .i64 a1)] Tryz.func153 c c c fun _=>M<|aa<|aM (l:=al.C (⟨0,0,0⟩:al)) eK c c fun b4=>O c<|ak<|eu (iJ a0 a1 K) (fun s1=>[(0,(pv a0)),(1,(.int .i64 a1)),(4,(.pointer (some ⟨b4,0,none⟩))),(22,(.bool s1))]) (fun s1=>[bx b4 121 (al.C (⟨0,0,0⟩:al))]) (aq<|J c<|p (cn Tryz.underlying153 c)<|J c<|V c c (aH _) (fun g10=>wv<|ag c)<|cY (vs:=[(.int .i64 a1)]) c c c (aH _) (fun g11=>bu<|uE a1 _) en_150 (fun g11=>aP (aD c g11) bS) c<|V c c (aH _) (fun g12=>wv<|cq<|aD c g12)<|p (dh c c)<|J c<|V c c (aH _) (fun g13=>wv<|ag c)<|V c c (aH _) (fun g14=>wv<|ag c)<|bO H (fun k16 H17=>bD H17 fun q16 e18 H19=>F (D<|bH k16)<|I (aI<|aL (aD c k16)<|ao e18)<|F (D<|bH k16)<|I (ae kq c)<|il H19 fun h20 H21=>F (D<|bH k16)<|I (bp so c (aD c k16) h20)<|F (D<|bH k16)<|I (ae dN c)<|F (D<|bH k16)<|aU H21 aY c (fun _=>c) c fun x20 H22=>F (D<|bH k16)<|I (bL c c)<|p (ap c (bH k16) c)<|ad<|cG (x20 == 0) H22 (.cons c<|.cons c<|.cons c<|.cons c<|.nil _)<|.cons_cons _ .slnil) fun k16 H17=>W (bG<|bi k16)<|W (bG<|bi k16)<|W (bG<|bi k16)<|W (bG<|bi k16)<|W (bG<|bi k16)<|W (bG<|bi k16)<|p (aQ c (bi k16) c)<|ad<|cG true H17 (.cons c<|.cons c<|.cons c<|.cons c<|.nil _)<|.cons_cons _ .slnil) fun s1 _ H2=>av c H2 (fun k3 H4=>M<|p (bc (vs:=[]) c kr)<|aa<|aO (k:=0) (vs:=al.C (⟨0,0,0⟩:al)) cZ c c c c c c c<|O c<|ai<|bw (bR c (bB (k:=0) c dK c c)<|bZ c) ⟨((⟨0,0,0⟩:al),false),c,H4⟩) fun k3 H4=>an<|M<|J c<|J c<|bD H4 fun q26 e5 H6=>p (aI<|aL c<|ao e5)<|p (ae kq c)<|il H6 fun h7 H8=>p (bp so c c h7)<|aa<|gu H8 dK c (fun _=>c) c fun x29 H9=>aa<|aO (k:=0) (vs:=al.C x29) cZ c c c c c c c<|O c<|ai<|bw (bR c (bB (k:=0) c dK c c)<|bZ c) ⟨(x29,true),c,H9⟩
def pn (a0:Ptr) (a1:Int) (a2:al) (K:Int→Hp→Prop):Hp→Prop:=br a0.isNone ( K 10) ( br (((!(fL a2).2) || (a2.fRights == 0)) || (!(bz a1))) ( K 2) ( nn a0 fun q30=>gd (0 ≤ a1∧a1 < 8)<|ld (q30.1,q30.2 + 0 + Int.toNat a1 * 3 + 2) (cI .i64) fun x34=>br (x34 != 0) ( K 4) ( st (q30.1,q30.2 + 0 + Int.toNat a1 * 3) (al.C a2)<|K 0)))
theorem ww (a0:Ptr) (a1:Int) (a2:al) {K:Int→Hp→Prop} {h:Hp} (H:pn a0 a1 a2 K h):Ct Tryz.prog dZ #[(pv a0),(.int .i64 a1),(.agg (al.C a2).toArray)] h fun v h'=>∃ r,v = bg r∧K r h':=au [(pv a0),(.int .i64 a1),(.agg (al.C a2).toArray)] Tryz.func100 c c c fun _=>M<|aa<|cC (l:=al.C a2) c c c fun b5=>O c<|ak<|M<|J c<|p (cn Tryz.underlying153 c)<|ad<|av c H (fun k1 H2=>M<|O c<|ai<|Y ⟨10,c,H2⟩) fun k1 H2=>an<|ak<|M<|be (bC (k:=0) dK c c c c) c<|aa<|cF (vs:=[(.agg (al.C a2).toArray)]) (bu<|ct_pte_Put a2 _) en_149 c c<|J c<|p (aj c c)<|p (aj c c)<|p (ar c)<|O c<|M<|J c<|p (cq c)<|J c<|V c c (aH _) (fun g3=>wv<|ae dN c)<|V c c (aH _) (fun g4=>cv<|ba (k:=0) aY (aD c g4) c c)<|V c c (aH _) (fun g5=>wv<|bL (aD c g5) c)<|p (dh c c)<|J c<|V c c (aH _) (fun g6=>wv<|ag c)<|cY (vs:=[(.int .i64 a1)]) c c c (aH _) (fun g7=>bu<|uE a1 _) en_150 (fun g7=>aP (aD c g7) bS) c<|V c c (aH _) (fun g8=>wv<|cq<|aD c g8)<|p (dh c c)<|ad<|av c H2 (fun k9 H10=>M<|O c<|ai<|Y ⟨2,c,H10⟩) fun k9 H10=>an<|ak<|M<|J c<|J c<|bD H10 fun q30 e11 H12=>p (aI<|aL c<|ao e11)<|p (ae kq c)<|il H12 fun h13 H14=>p (bp so c c h13)<|p (ae dN c)<|aa<|aU H14 aY c (fun _=>c) c fun x34 H15=>p (pb c c)<|ad<|av c H15 (fun k16 H17=>M<|O c<|ai<|Y ⟨4,c,H17⟩) fun k16 H17=>an<|ak<|bm (n:=7) [bx b5 121 (al.C a2)] cm c (.cons_cons _ .slnil)<|U 0 c (ag<|aL c<|ao e11)<|U 1 c (ag c)<|z_E 2 c (eF (k:=0) dK c c c c)<|U 3 c (aI c)<|U 4 c (ae kq c)<|U 5 c (bp so c c h13)<|G 6 c<|dp cZ c c c c c H17 fun _ H18=>⟨.cons_cons _ .slnil,aV (by kernel_rfl)<|M<|O c<|ai<|Y ⟨0,c,H18⟩⟩
def pj (a0:Ptr) (a1:Int) (K:(al × Int)→Hp→Prop):Hp→Prop:=br a0.isNone ( K ((⟨0,0,0⟩:al),10)) ( br (!(bz a1)) ( K ((⟨0,0,0⟩:al),2)) ( nn a0 fun q19=>gd (0 ≤ a1∧a1 < 8)<|ld (q19.1,q19.2 + 0 + Int.toNat a1 * 3 + 2) (cI .i64) fun x23=>br (x23 == 0) ( K ((⟨0,0,0⟩:al),3)) ( ld (q19.1,q19.2 + 0 + Int.toNat a1 * 3) al.C fun x31=>st (q19.1,q19.2 + 0 + Int.toNat a1 * 3) (al.C (⟨0,0,0⟩:al))<|K (x31,0))))
theorem wu (a0:Ptr) (a1:Int) {K:(al × Int)→Hp→Prop} {h:Hp} (H:pj a0 a1 K h):Ct Tryz.prog iR #[(pv a0),(.int .i64 a1)] h fun v h'=>∃ r,v = jp r∧K r h':=au [(pv a0),(.int .i64 a1)] Tryz.func118 c c c fun _=>M<|aa<|aM (l:=al.C (⟨0,0,0⟩:al)) eK c c fun b4=>O c<|ak<|ay<|M<|J c<|p (cn Tryz.underlying153 c)<|O c<|av c H (fun k1 H2=>M<|p (bc (vs:=[]) c kr)<|aa<|aO (k:=0) (vs:=al.C (⟨0,0,0⟩:al)) cZ c c c c c c c<|O c<|ai<|bw (bR c (bB (k:=0) c dK c c)<|bZ c) ⟨((⟨0,0,0⟩:al),10),c,H2⟩) fun k1 H2=>M<|J c<|aa<|cF (vs:=[(.int .i64 a1)]) (bu<|uE a1 _) en_150 c c<|p (cq c)<|O c<|av c H2 (fun k3 H4=>M<|p (bc (vs:=[]) c kr)<|aa<|aO (k:=0) (vs:=al.C (⟨0,0,0⟩:al)) cZ c c c c c c c<|O c<|ai<|bw (bR c (bB (k:=0) c dK c c)<|bZ c) ⟨((⟨0,0,0⟩:al),2),c,H4⟩) fun k3 H4=>M<|J c<|J c<|bD H4 fun q19 e5 H6=>p (aI<|aL c<|ao e5)<|p (ae kq c)<|il H6 fun h7 H8=>p (bp so c c h7)<|p (ae dN c)<|aa<|aU H8 aY c (fun _=>c) c fun x23 H9=>p (bL c c)<|O c<|av c H9 (fun k10 H11=>M<|p (bc (vs:=[]) c kr)<|aa<|aO (k:=0) (vs:=al.C (⟨0,0,0⟩:al)) cZ c c c c c c c<|O c<|ai<|bw (bR c (bB (k:=0) c dK c c)<|bZ c) ⟨((⟨0,0,0⟩:al),3),c,H11⟩) fun k10 H11=>an<|M<|J (aL c<|ao e5)<|J c<|p (aI c)<|p (ae kq c)<|p (bp so c c h7)<|aa<|gu H11 dK c (fun _=>c) c fun x31 H12=>aa<|aM (l:=al.C (⟨0,0,0⟩:al)) eK c c fun b6=>aa<|aO (k:=0) (vs:=al.C x31) cZ c c c c c c c<|ad<|M<|J (aL c<|ao e5)<|J c<|p (bc (vs:=[]) c kr)<|p (aI c)<|p (ae kq c)<|p (bp so c c h7)<|aa<|dp cZ c c c c c H12 fun _ H13=>ad<|M<|be (bC (k:=0) dK c c c c) c<|aa<|aO (k:=1) (vs:=al.C x31) cZ c c c c c c c<|O c<|ai<|bw (bR c (bB (k:=1) c dK c c)<|bZ c) ⟨(x31,0),c,H13⟩
def od (a1:Int) (K:Sl→Hp→Prop) (v13:(List Value)) (Rec8:(Sl × Int)→Hp→Prop) (s7:Sl × Int):Hp→Prop:=br (decide (s7.2 < 8)) ( hpv Tryz.prog (Instr.index tT (.agg v13.toArray) (.int .i64 s7.2)) wg fun (v17:al)=>br ((v17.fRights != 0) && (v17.fSlot == a1)) ( hpv Tryz.prog (Instr.buildSlice dH 1 #[(0,(.int .i64 s7.2))]) cA fun (v29:Sl)=>hpv Tryz.prog (Builtin.append_ #[dH,dH] dH #[(sv s7.1),(sv v29)]) cA fun (v30:Sl)=>Rec8 (v30,(IntKind.i64.wrap (s7.2 + 1)))) ( Rec8 (s7.1,(IntKind.i64.wrap (s7.2 + 1))))) ( K s7.1)
def tU (a0:Ptr) (a1:Int) (K:Sl→Hp→Prop):Hp→Prop:=br a0.isNone ( K (⟨none,0,0,none⟩:Sl)) ( nn a0 fun q11=>hpv Tryz.prog (Instr.loadAt tT (.pointer (some ⟨q11.1,q11.2 + 0,none⟩))) encL fun (v13:(List Value))=>Lp (od a1 K v13) ((⟨none,0,0,none⟩:Sl),0))
theorem sim_table_Table_By (a0:Ptr) (a1:Int) {K:Sl→Hp→Prop} {h:Hp} (H:tU a0 a1 K h):Ct Tryz.prog lN #[(pv a0),(.int .i64 a1)] h fun v h'=>∃ r,v = cA r∧K r h':=au [(pv a0),(.int .i64 a1)] Tryz.func171 c c c fun _=>M<|O c<|ak<|M<|J c<|p (cn Tryz.underlying153 c)<|ad<|av c H (fun k1 H2=>M<|O c<|ai<|Y ⟨(⟨none,0,0,none⟩:Sl),c,H2⟩) fun k1 H2=>an<|M<|O c<|ak<|M<|J c<|bD H2 fun q11 e3 H4=>p (aI<|aL c<|ao e3)<|p (ae kq c)<|aa<|aR H4 (x_load c) c fun v13 _ H6=>J c<|ad<|ay<|bE (step:=od a1 K v13) (fun s7=>[(1,(.int .i64 a1)),(5,(sv s7.1)),(13,(.agg v13.toArray)),(14,(.int .i64 s7.2))]) (fun s7=>[]) H6 (.cons c<|.cons c<|.cons c<|.cons c<|.nil _) .slnil fun Rec8 s7 _ H9=>M<|p (cu c c)<|ad<|ak<|av c H9 (fun k10 H11=>an<|ak<|ay<|M<|J c<|aa<|aR H11 (x_index c c) c fun v17 _ H12=>aa<|aM (l:=al.C (⟨0,0,0⟩:al)) eK c c fun b7=>p (ar c)<|aa<|aO (k:=0) (vs:=al.C v17) cZ c c c c c c c<|ad<|M<|p (ae dN c)<|be (ba (k:=0) aY c c c) c<|p (pb c c)<|J c<|V c c (ax _) (fun g13=>wv<|ae qd c)<|V c c (ax _) (fun g14=>cv<|ba (k:=0) aY (aD c g14) c c)<|V c c (ax _) (fun g15=>wv<|ag c)<|V c c (ax _) (fun g16=>wv<|bL (aD c g16)<|aD c g16)<|p (bT c c)<|ad<|av c H12 (fun k17 H18=>aq<|J c<|J c<|aa<|aR H18 (bv (vs:=[(.int .i64 s7.2)]) c) c fun v29 _ H19=>aa<|aR H19 (dG c c) c fun v30 _ H20=>O c<|aq<|p (bq c c)<|J c<|ad<|cL (v30,(IntKind.i64.wrap (s7.2 + 1))) H20 (.cons c<|.cons c<|.cons c<|.cons c<|.nil _)<|.cons _ .slnil) fun k17 H18=>an<|aq<|p (bq c c)<|J c<|ad<|cL (s7.1,(IntKind.i64.wrap (s7.2 + 1))) H18 (.cons c<|.cons c<|.cons c<|.cons c<|.nil _)<|.cons _ .slnil) fun k10 H11=>bj<|M<|J c<|O c<|ai<|Y ⟨s7.1,c,H11⟩
def oq (a0:Ptr) (a1:Int) (a2:Int) (K:Int→Hp→Prop):Hp→Prop:=br a0.isNone ( K 10) ( br ((!(bz a1)) || (!(cg a2))) ( K 2) ( nn a0 fun q22=>gd (0 ≤ a1∧a1 < 8)<|ld (q22.1,q22.2 + 0 + Int.toNat a1 * 3 + 2) (cI .i64) fun x26=>br (x26 == 0) ( K 3) ( st (q22.1,q22.2 + 0 + Int.toNat a1 * 3 + 2) [.int .i64 a2]<|K 0)))
theorem uZ (a0:Ptr) (a1:Int) (a2:Int) {K:Int→Hp→Prop} {h:Hp} (H:oq a0 a1 a2 K h):Ct Tryz.prog kx #[(pv a0),(.int .i64 a1),(.int .i64 a2)] h fun v h'=>∃ r,v = bg r∧K r h':=au [(pv a0),(.int .i64 a1),(.int .i64 a2)] Tryz.func173 c c c fun _=>M<|O c<|ak<|ay<|M<|J c<|p (cn Tryz.underlying153 c)<|O c<|av c H (fun k1 H2=>M<|O c<|ai<|Y ⟨10,c,H2⟩) fun k1 H2=>M<|J c<|aa<|cF (vs:=[(.int .i64 a1)]) (bu<|uE a1 _) en_150 c c<|p (cq c)<|J c<|V c c (aH _) (fun g3=>wv<|ag c)<|cY (vs:=[(.int .i64 a2)]) c c c (aH _) (fun g4=>bu<|qf a2 _) en_161 (fun g4=>aP (aD c g4) bS) c<|V c c (aH _) (fun g5=>wv<|cq<|aD c g5)<|p (dh c c)<|O c<|av c H2 (fun k6 H7=>M<|O c<|ai<|Y ⟨2,c,H7⟩) fun k6 H7=>M<|J c<|J c<|bD H7 fun q22 e8 H9=>p (aI<|aL c<|ao e8)<|p (ae kq c)<|il H9 fun h10 H11=>p (bp so c c h10)<|p (ae dN c)<|aa<|aU H11 aY c (fun _=>c) c fun x26 H12=>p (bL c c)<|O c<|av c H12 (fun k13 H14=>M<|O c<|ai<|Y ⟨3,c,H14⟩) fun k13 H14=>an<|M<|J (aL c<|ao e8)<|J c<|J c<|p (aI c)<|p (ae kq c)<|p (bp so c c h10)<|p (ae dN c)<|aa<|dp pH c c c c c H14 fun _ H15=>ad<|M<|O c<|ai<|Y ⟨0,c,H15⟩
end Go.Proofs.YtmggcfijlpldpaaGreatDoor
namespace Go.Proofs.YtmggcfijlpldpaaGreatDoor
open Go Mb
abbrev Pte:=al
theorem jm (p:Pte):p.C.length = 3:=rfl
abbrev dk:Pte:=⟨0,0,0⟩
def cW (x:Ptr) (ps:List Pte):As:=fun h=>∃ b:Nat,(x = some (b,0)∧ps.length = 8)∧aG [blk b kl ([]++(ps.flatMap al.C++[]))] h
theorem table_op {x:Ptr} {ps:List Pte} {l:List As} {h:Hp} (s0:aG (cW x ps::l) h):∃ b,x = some (b,0)∧ps.length = 8∧aG (blk b kl ([]++(ps.flatMap al.C++[]))::l) h:=by
  obtain ⟨b,⟨hx,hb⟩,st⟩:=op_ s0
  exact ⟨b,hx,hb,st⟩
theorem iI {b:Nat} {ps:List Pte} {l:List As} {h:Hp} (hb:ps.length = 8) (st:aG (blk b kl ([]++(ps.flatMap al.C++[]))::l) h):aG (cW (some (b,0)) ps::l) h:=cl_ b ⟨rfl,hb⟩ st
namespace Table
def at_ (ps:List Pte) (i:Int):Pte:=ps.getD i.toNat dk
def get (ps:List Pte) (i:Int):Pte × Bool:=if bz i = true∧(at_ ps i).fRights ≠ 0 then (at_ ps i,true) else (dk,false)
def insert (ps:List Pte) (i:Int) (p:Pte):Int × List Pte :=
  if (fL p).2 = false∨p.fRights = 0∨bz i = false then (2,ps) else if (at_ ps i).fRights ≠ 0 then (4,ps) else (0,ps.set i.toNat p)
def protect (ps:List Pte) (i r:Int):Int × List Pte :=
  if bz i = false∨cg r = false then (2,ps) else if (at_ ps i).fRights = 0 then (3,ps) else (0,ps.set i.toNat { at_ ps i with fRights:=r })
def remove (ps:List Pte) (i:Int):(Pte × Int) × List Pte :=
  if bz i = false then ((dk,2),ps) else if (at_ ps i).fRights = 0 then ((dk,3),ps) else ((at_ ps i,0),ps.set i.toNat dk)
def byFrom (s:Int):List Pte→Int→List Int
  | [],_=>[]
  | p::ps,i=>if p.fRights ≠ 0∧p.fSlot = s then i::byFrom s ps (i + 1) else byFrom s ps (i + 1)
def by_ (ps:List Pte) (s:Int):List Int:=byFrom s ps 0
end Table
theorem oa {i:Int} (h:bz i = true):∃ n:Nat,i = n∧n < 8:=by
  unfold bz at h
  simp at h
  exact ⟨i.toNat,by omega,by omega⟩
theorem table_new_run (K:Value→Hp→Prop) (h:Hp):hp Tryz.prog (Instr.build kl #[]) K h = K (.agg ((List.replicate 8 dk).flatMap al.C).toArray) h:=by kernel_rfl
theorem og:Sp Tryz.prog lg [] ip [] (fun r=>aG [cW r (List.replicate 8 dk)]):=by
  intro h st
  refine sim_table_New ?_
  unfold sh_table_New
  refine ⟨?_⟩
  rw [table_new_run]
  refine ⟨_,rfl,?_⟩
  refine pf st fun b h' s1=>?_
  exact iI rfl s1
theorem ke (x:Ptr) (ps:List Pte) (i:Int) (p:Pte):Sp Tryz.prog dZ [pv x,.int .i64 i,.agg p.C.toArray] bg [cW x ps] (fun r=>pa_ (r = (Table.insert ps i p).1) [cW x (Table.insert ps i p).2]):=by
  intro h s0
  obtain ⟨b,rfl,hb,st⟩:=table_op s0
  refine ww _ _ _ ?_
  unfold pn
  refine dB rfl ?_
  refine aX (fun k=>?_) (fun k=>?_)
  · have k':(fL p).2 = false∨p.fRights = 0∨bz i = false:=by simpa [or_assoc] using k
    have e:Table.insert ps i p = (2,ps):=if_pos k'
    rw [e]
    exact aW rfl (iI hb st)
  · have k':¬ ((fL p).2 = false∨p.fRights = 0∨bz i = false):=by simp at k; simp [k]
    obtain ⟨n,rfl,hn⟩:=oa (i:=i) (by simp at k'; exact k'.2.2)
    have hn':n < ps.length:=by omega
    have hat:Table.at_ ps n = ps[n]:=by simp [Table.at_,hn']
    refine cy ⟨⟨by omega,by omega⟩,?_⟩
    refine ld_a (j:=0) (i:=n) (k:=2) ps[n].fRights jm st rfl (by simp) (aE hn') (c1 rfl rfl) ?_
    refine aX (fun k2=>?_) (fun k2=>?_)
    · have k2':(Table.at_ ps n).fRights ≠ 0:=by rw [hat]; simpa using k2
      have e:Table.insert ps n p = (4,ps):=by unfold Table.insert; rw [if_neg k',if_pos k2']
      rw [e]
      exact aW rfl (iI hb st)
    · have k2':¬ (Table.at_ ps n).fRights ≠ 0:=by rw [hat]; simpa using k2
      have e:Table.insert ps n p = (0,ps.set n p):=by unfold Table.insert; rw [if_neg k',if_neg k2']; rfl
      rw [e]
      refine st_a (j:=0) (i:=n) (k:=0) p jm st rfl (by simp) (aE hn') (by simp [jm]) rfl fun h2 s2=>?_
      exact aW rfl (iI (by simpa using hb) s2)
theorem sp_table_Protect (x:Ptr) (ps:List Pte) (i r:Int):Sp Tryz.prog kx [pv x,.int .i64 i,.int .i64 r] bg [cW x ps] (fun v=>pa_ (v = (Table.protect ps i r).1) [cW x (Table.protect ps i r).2]):=by
  intro h s0
  obtain ⟨b,rfl,hb,st⟩:=table_op s0
  refine uZ _ _ _ ?_
  unfold oq
  refine dB rfl ?_
  refine aX (fun k=>?_) (fun k=>?_)
  · have k':bz i = false∨cg r = false:=by simpa using k
    have e:Table.protect ps i r = (2,ps):=if_pos k'
    rw [e]
    exact aW rfl (iI hb st)
  · have k':¬ (bz i = false∨cg r = false):=by simp at k; simp [k]
    obtain ⟨n,rfl,hn⟩:=oa (i:=i) (by simp at k'; exact k'.1)
    have hn':n < ps.length:=by omega
    have hat:Table.at_ ps n = ps[n]:=by simp [Table.at_,hn']
    refine cy ⟨⟨by omega,by omega⟩,?_⟩
    refine ld_a (j:=0) (i:=n) (k:=2) ps[n].fRights jm st rfl (by simp) (aE hn') (c1 rfl rfl) ?_
    refine aX (fun k2=>?_) (fun k2=>?_)
    · have k2':(Table.at_ ps n).fRights = 0:=by rw [hat]; simpa using k2
      have e:Table.protect ps n r = (3,ps):=by unfold Table.protect; rw [if_neg k',if_pos k2']
      rw [e]
      exact aW rfl (iI hb st)
    · have k2':¬ (Table.at_ ps n).fRights = 0:=by rw [hat]; simpa using k2
      have e:Table.protect ps n r = (0,ps.set n { ps[n] with fRights:=r }):=by unfold Table.protect; rw [if_neg k',if_neg k2',hat]; rfl
      rw [e]
      refine st_a (j:=0) (i:=n) (k:=2) { ps[n] with fRights:=r } jm st rfl (by simp) (aE hn') (by simp) rfl fun h2 s2=>?_
      exact aW rfl (iI (by simpa using hb) s2)
theorem sp_table_Remove (x:Ptr) (ps:List Pte) (i:Int):Sp Tryz.prog iR [pv x,.int .i64 i] jp [cW x ps] (fun v=>pa_ (v = (Table.remove ps i).1) [cW x (Table.remove ps i).2]):=by
  intro h s0
  obtain ⟨b,rfl,hb,st⟩:=table_op s0
  refine wu _ _ ?_
  unfold pj
  refine dB rfl ?_
  refine aX (fun k=>?_) (fun k=>?_)
  · have k':bz i = false:=by simpa using k
    have e:Table.remove ps i = ((dk,2),ps):=if_pos k'
    rw [e]
    exact aW rfl (iI hb st)
  · have k':¬ (bz i = false):=by simp at k; simp [k]
    obtain ⟨n,rfl,hn⟩:=oa (i:=i) (by simp at k'; exact k')
    have hn':n < ps.length:=by omega
    have hat:Table.at_ ps n = ps[n]:=by simp [Table.at_,hn']
    refine cy ⟨⟨by omega,by omega⟩,?_⟩
    refine ld_a (j:=0) (i:=n) (k:=2) ps[n].fRights jm st rfl (by simp) (aE hn') (c1 rfl rfl) ?_
    refine aX (fun k2=>?_) (fun k2=>?_)
    · have k2':(Table.at_ ps n).fRights = 0:=by rw [hat]; simpa using k2
      have e:Table.remove ps n = ((dk,3),ps):=by unfold Table.remove; rw [if_neg k',if_pos k2']
      rw [e]
      exact aW rfl (iI hb st)
    · have k2':¬ (Table.at_ ps n).fRights = 0:=by rw [hat]; simpa using k2
      have e:Table.remove ps n = ((ps[n],0),ps.set n dk):=by unfold Table.remove; rw [if_neg k',if_neg k2',hat]; rfl
      rw [e]
      refine ld_a (j:=0) (i:=n) (k:=0) ps[n] jm st rfl (by simp) (aE hn') (by simp) ?_
      refine st_a (j:=0) (i:=n) (k:=0) dk jm st rfl (by simp) (aE hn') (by simp [jm]) rfl fun h2 s2=>?_
      exact aW rfl (iI (by simpa using hb) s2)
theorem nF (x:Ptr) (ps:List Pte) (i:Int):Sp Tryz.prog eT [pv x,.int .i64 i] cz [cW x ps] (fun v=>pa_ (v = Table.get ps i) [cW x ps]):=by
  intro h s0
  obtain ⟨b,rfl,hb,st⟩:=table_op s0
  refine sim_table_Table_At _ _ ?_
  unfold tV
  refine aX (fun k=>?_) (fun k=>?_)
  · have k':bz i = true:=by simpa using k
    obtain ⟨n,rfl,hn⟩:=oa k'
    have hn':n < ps.length:=by omega
    have hat:Table.at_ ps n = ps[n]:=by simp [Table.at_,hn']
    refine cy ⟨⟨by omega,by omega⟩,?_⟩
    refine ld_a (j:=0) (i:=n) (k:=2) ps[n].fRights jm st rfl (by simp) (aE hn') (c1 rfl rfl) ?_
    unfold iJ
    refine aX (fun k2=>?_) (fun k2=>?_)
    · have k2':(Table.at_ ps n).fRights = 0:=by rw [hat]; simpa using k2
      have e:Table.get ps n = (dk,false):=if_neg (fun hh=>hh.2 k2')
      rw [e]
      exact aW rfl (iI hb st)
    · have k2':¬ (Table.at_ ps n).fRights = 0:=by rw [hat]; simpa using k2
      have e:Table.get ps n = (ps[n],true):=by unfold Table.get; rw [if_pos ⟨k',k2'⟩,hat]
      rw [e]
      refine cy ⟨⟨by omega,by omega⟩,?_⟩
      refine ld_a (j:=0) (i:=n) (k:=0) ps[n] jm st rfl (by simp) (aE hn') (by simp) ?_
      exact aW rfl (iI hb st)
  · have k':¬ bz i = true:=by simpa using k
    have e:Table.get ps i = (dk,false):=if_neg (fun hh=>k' hh.1)
    rw [e]
    unfold iJ
    exact dU rfl (aW rfl (iI hb st))
theorem by_append (s:Int):∀ (ps:List Pte) (i:Int) (p:Pte),Table.byFrom s (ps++[p]) i = Table.byFrom s ps i++(if p.fRights ≠ 0∧p.fSlot = s then [i + ps.length] else [])
  | [],i,p=>by simp only [List.nil_append,Table.byFrom]; split <;> simp
  | y::ps,i,p=>by
    simp only [List.cons_append,Table.byFrom]
    rw [by_append s ps (i + 1) p]
    have e:i + 1 + (ps.length:Int) = i + ((y::ps).length:Int):=by simp; omega
    rw [e]
    split <;> simp
theorem by_len (s:Int):∀ (ps:List Pte) (i:Int),(Table.byFrom s ps i).length ≤ ps.length
  | [],_=>Nat.le_refl _
  | p::ps,i=>by unfold Table.byFrom; have:=by_len s ps (i + 1); split <;> simp <;> omega
theorem sp_table_By (x:Ptr) (ps:List Pte) (s:Int):Sp Tryz.prog lN [pv x,.int .i64 s] cA [cW x ps] (fun r=>aG [vI r (Table.by_ ps s),cW x ps]):=by
  intro h s0
  obtain ⟨b,rfl,hb,st⟩:=table_op s0
  refine sim_table_Table_By _ _ ?_
  unfold tU
  refine dB rfl (cy ?_)
  obtain ⟨h1,a,sub⟩:=dS (i:=0) rfl st
  have hfl:(ps.flatMap al.C).length = 24:=by rw [dO jm,hb]
  refine loadAt_v (r:=ps.flatMap al.C) (cs:=ps.flatMap al.C) agn_8_api_Pte ⟨_,_,_,sub _ _ a,fun i v hv=>by simpa using hv⟩ hfl rfl ?_
  refine Lp.intro (fun (z:Sl × Int) h=>∃ n:Nat,z.2 = n∧n ≤ 8∧aG [vI z.1 (Table.byFrom s (ps.take n) 0),cW (some (b,0)) ps] h) (fun (z:Sl × Int) _=>8 - z.2.toNat) ⟨0,rfl,Nat.zero_le _,fH (iI hb st)⟩ ?_
  rintro ⟨z,i⟩ h ⟨n,rfl,hn,s1⟩
  unfold od
  refine aX (fun k=>?_) (fun k=>?_)
  · have hlt:n < 8:=by have:=of_decide_eq_true k; omega
    have hn':n < ps.length:=by omega
    have hw:IntKind.i64.wrap ((n:Int) + 1) = ((n + 1:Nat):Int):=by rw [bP (by omega) (by omega)]; rfl
    have ht:ps.take (n + 1) = ps.take n++[ps[n]]:=by simp
    have hlen:((ps.take n).length:Int) = n:=by simp; omega
    refine index_v (enc:=al.C) (m:=3) arn_8_api_Pte age_8_api_Pte jm (fun _=>rfl) hb (aE hn') ?_
    refine aX (fun k2=>?_) (fun k2=>?_)
    · have k2':ps[n].fRights ≠ 0∧ps[n].fSlot = s:=by simpa using k2
      refine we s1 (i:=0) rfl ?_ fun v h' s2=>?_
      · have:=by_len s (ps.take n) 0; simp at this ⊢; omega
      · rw [hw]
        refine ⟨⟨n + 1,rfl,hlt,?_⟩,by simp; omega⟩
        rw [ht,by_append,if_pos k2',hlen,Int.zero_add]
        exact s2
    · have k2':¬ (ps[n].fRights ≠ 0∧ps[n].fSlot = s):=by simpa using k2
      rw [hw]
      refine ⟨⟨n + 1,rfl,hlt,?_⟩,by simp; omega⟩
      rw [ht,by_append,if_neg k2',List.append_nil]
      exact s1
  · have:n = 8:=by have:=of_decide_eq_false k; omega
    subst this
    rw [show ps.take 8 = ps from by rw [← hb]; exact List.take_length] at s1
    exact s1
end Go.Proofs.YtmggcfijlpldpaaGreatDoor
namespace Go.Proofs.YtmggcfijlpldpaaGreatDoor
open Go
namespace Mb
def vH {σ α:Type} (A:σ→α→As):List σ→List α→List As
  | p::ps,x::xs=>A p x::vH A ps xs
  | _,_=>[]
section
variable {σ α:Type} {A:σ→α→As}
theorem objs_get:∀ {ps:List σ} {xs:List α} {i:Nat} {p:σ} {x:α},ps[i]? = some p→xs[i]? = some x→(vH A ps xs)[i]? = some (A p x)
  | [],_,_,_,_,h,_=>by simp at h
  | _::_,[],_,_,_,_,h=>by simp at h
  | p::ps,x::xs,0,_,_,h1,h2=>by simp at h1 h2; subst h1; subst h2; rfl
  | p::ps,x::xs,i + 1,_,_,h1,h2=>by simpa [vH] using objs_get (ps:=ps) (xs:=xs) (i:=i) (by simpa using h1) (by simpa using h2)
theorem objs_set:∀ {ps:List σ} {xs:List α} {i:Nat} {p:σ} {x:α},ps[i]? = some p→(vH A ps xs).set i (A p x) = vH A ps (xs.set i x)
  | [],_,_,_,_,h=>by simp at h
  | p::ps,[],i,_,_,_=>by simp [vH]
  | p::ps,y::xs,0,_,_,h=>by simp at h; subst h; rfl
  | p::ps,y::xs,i + 1,_,_,h=>by simp only [vH,List.set_cons_succ]; rw [objs_set (ps:=ps) (xs:=xs) (i:=i) (by simpa using h)]
theorem objs_set2:∀ {ps:List σ} {xs:List α} {i:Nat} {p:σ} {x:α},i < xs.length→(vH A ps xs).set i (A p x) = vH A (ps.set i p) (xs.set i x)
  | [],_,_,_,_,_=>by simp [vH]
  | p::ps,[],i,_,_,h=>by simp at h
  | p::ps,y::xs,0,_,_,_=>rfl
  | p::ps,y::xs,i + 1,_,_,h=>by simp only [vH,List.set_cons_succ]; rw [objs_set2 (ps:=ps) (xs:=xs) (i:=i) (by simpa using h)]
theorem objs_append (p:σ) (x:α):∀ {ps:List σ} {xs:List α},ps.length = xs.length→vH A (ps++[p]) (xs++[x]) = vH A ps xs++[A p x]
  | [],[],_=>rfl
  | [],_::_,h=>by simp at h
  | _::_,[],h=>by simp at h
  | a::ps,b::xs,h=>by simp only [List.cons_append,vH]; rw [objs_append p x (by simpa using h)]
theorem objs_len:∀ {ps:List σ} {xs:List α},ps.length = xs.length→(vH A ps xs).length = xs.length
  | [],[],_=>rfl
  | [],_::_,h=>by simp at h
  | _::_,[],h=>by simp at h
  | a::ps,b::xs,h=>by simp only [vH,List.length_cons]; rw [objs_len (by simpa using h)]
def all (A:σ→α→As) (ps:List σ) (xs:List α):As:=aG (vH A ps xs)
def but (A:σ→α→As) (ps:List σ) (xs:List α) (i:Nat):As:=aG ((vH A ps xs).eraseIdx i)
variable {l:List As} {h:Hp} {ps:List σ} {xs:List α}
theorem star_shut {m:List As} (s:aG (m++l) h):aG (aG m::l) h:=by
  obtain ⟨h1,h2,d,e,s1,s2⟩:=eS.1 s
  exact ⟨h1,h2,d,e,s1,s2⟩
theorem ja {i:Nat} {p:σ} {x:α} (hp:ps[i]? = some p) (hx:xs[i]? = some x) (s:aG (all A ps xs::l) h):aG (A p x::but A ps xs i::l) h:=by
  obtain ⟨h1,h2,d,e,a,s'⟩:=s
  have:=fq (objs_get (A:=A) hp hx) a
  obtain ⟨h3,h4,d',e',a',s4⟩:=this
  subst e'
  obtain ⟨d1,d2⟩:=Dj.of_un_left d
  exact ⟨h3,un h4 h2,Dj.un_right d' d1,by rw [e,mF],a',h4,h2,d2,rfl,s4,s'⟩
theorem uX {i:Nat} {p:σ} {y:α} (hp:ps[i]? = some p) (hi:i < xs.length) (hl:ps.length = xs.length) (s:aG (A p y::but A ps xs i::l) h):aG (all A ps (xs.set i y)::l) h:=by
  obtain ⟨h1,h2,d,e,a,h3,h4,d',e',b,s'⟩:=s
  subst e'
  obtain ⟨d1,d2⟩:=Dj.of_un_right d
  refine ⟨un h1 h3,h4,Dj.un_left d2 d',by rw [e,mF],?_,s'⟩
  have:=dM (A:=A p y) (l:=vH A ps xs) (i:=i) (by rw [objs_len hl]; exact hi) ⟨h1,h3,d1,rfl,a,b⟩
  rw [objs_set hp] at this
  exact this
theorem all_in2 {i:Nat} {p:σ} {y:α} (hi:i < xs.length) (hl:ps.length = xs.length) (s:aG (A p y::but A ps xs i::l) h):aG (all A (ps.set i p) (xs.set i y)::l) h:=by
  obtain ⟨h1,h2,d,e,a,h3,h4,d',e',b,s'⟩:=s
  subst e'
  obtain ⟨d1,d2⟩:=Dj.of_un_right d
  refine ⟨un h1 h3,h4,Dj.un_left d2 d',by rw [e,mF],?_,s'⟩
  have:=dM (A:=A p y) (l:=vH A ps xs) (i:=i) (by rw [objs_len hl]; exact hi) ⟨h1,h3,d1,rfl,a,b⟩
  rw [objs_set2 hi] at this
  exact this
theorem iL {α:Type} {xs:List α} {i:Nat} {x:α} (hx:xs[i]? = some x):xs.set i x = xs:=by
  apply List.ext_getElem?
  intro n
  rw [List.getElem?_set]
  by_cases e:i = n
  · subst e
    obtain ⟨h1,h2⟩:=List.getElem?_eq_some_iff.1 hx
    simp [h1,h2]
  · simp [e]
theorem tK {i:Nat} {p:σ} {x:α} (hp:ps[i]? = some p) (hx:xs[i]? = some x) (hl:ps.length = xs.length) (s:aG (A p x::but A ps xs i::l) h):aG (all A ps xs::l) h:=by
  have:=uX hp (List.getElem?_eq_some_iff.1 hx).1 hl s
  rwa [iL hx] at this
theorem all_nil:aG l h→aG (all A [] []::l) h:=fun s=>star_cons (fun _=>trivial) s
theorem all_push {p:σ} {x:α} (hl:ps.length = xs.length) (s:aG (A p x::all A ps xs::l) h):aG (all A (ps++[p]) (xs++[x])::l) h:=by
  refine star_shut ?_
  rw [objs_append p x hl]
  have s1:=km (.swap _ _ _) s
  have s2:=dC s1
  exact km (by simp) s2
end
theorem wl {A:As} {h:Hp} (a:A h):aG [A] h:=⟨h,emp,Dj.emp_right _,(un_emp _).symm,a,trivial⟩
section
variable {P:Program} {l:List As} {h:Hp} {τ:Type} {f:FuncId} {args:List Value} {enc:τ→Value} {K:τ→Hp→Prop} {i:Nat} {A:As}
theorem bM {φ:τ→Prop} {A':τ→As} (c:Sp P f args enc [A] (fun r=>pa_ (φ r) [A' r])) (hi:l[i]? = some A) (s:aG l h) (k:∀ r h',φ r→aG (l.set i (A' r)) h'→K r h'):cl P f args enc K h:=by
  obtain ⟨h1,h2,d,rfl,a,s'⟩:=fq hi s
  refine (c h1 (wl a)).frame_mono d rfl fun v h' ⟨r,hv,q⟩ dj=>⟨r,hv,?_⟩
  obtain ⟨g1,q⟩:=q
  refine k r _ g1 (dM (List.getElem?_eq_some_iff.1 hi).1 ?_)
  exact nE (l:=[A' r]++l.eraseIdx i) (by rw [List.append_nil]; exact eS.2 ⟨h',h2,dj,rfl,q,s'⟩)
theorem xw {B A':τ→As} (c:Sp P f args enc [A] (fun r=>aG [B r,A' r])) (hi:l[i]? = some A) (s:aG l h) (k:∀ r h',aG (B r::l.set i (A' r)) h'→K r h'):cl P f args enc K h:=by
  obtain ⟨h1,h2,d,rfl,a,s'⟩:=fq hi s
  refine (c h1 (wl a)).frame_mono d rfl fun v h' ⟨r,hv,q⟩ dj=>⟨r,hv,k r _ ?_⟩
  have s1:aG (B r::A' r::l.eraseIdx i) (un h' h2):=(eS (l:=[B r,A' r])).2 ⟨h',h2,dj,rfl,q,s'⟩
  obtain ⟨g1,g2,d2,e2,b,s2⟩:=s1
  exact ⟨g1,g2,d2,e2,b,dM (List.getElem?_eq_some_iff.1 hi).1 s2⟩
theorem cl_p {φ:τ→Prop} {B A':τ→As} (c:Sp P f args enc [A] (fun r=>pa_ (φ r) [B r,A' r])) (hi:l[i]? = some A) (s:aG l h) (k:∀ r h',φ r→aG (B r::l.set i (A' r)) h'→K r h'):cl P f args enc K h:=by
  obtain ⟨h1,h2,d,rfl,a,s'⟩:=fq hi s
  refine (c h1 (wl a)).frame_mono d rfl fun v h' ⟨r,hv,q⟩ dj=>⟨r,hv,?_⟩
  obtain ⟨g0,q⟩:=q
  refine k r _ g0 ?_
  have s1:aG (B r::A' r::l.eraseIdx i) (un h' h2):=(eS (l:=[B r,A' r])).2 ⟨h',h2,dj,rfl,q,s'⟩
  obtain ⟨g1,g2,d2,e2,b,s2⟩:=s1
  exact ⟨g1,g2,d2,e2,b,dM (List.getElem?_eq_some_iff.1 hi).1 s2⟩
theorem tP {φ:τ→Prop} (c:Sp P f args enc [] (fun r=>pa_ (φ r) [])) (s:aG l h) (k:∀ r h',φ r→aG l h'→K r h'):cl P f args enc K h :=
  cO [] c s rfl fun r h' s1=>by
    obtain ⟨f1,s2⟩:=bt.1 s1
    exact k r h' f1 s2
theorem mf {B:τ→As} (c:Sp P f args enc [] (fun r=>aG [B r])) (s:aG l h) (k:∀ r h',aG (B r::l) h'→K r h'):cl P f args enc K h :=
  cO [] c s rfl fun r h' s1=>k r h' (dC s1)
end
end Mb
end Go.Proofs.YtmggcfijlpldpaaGreatDoor
