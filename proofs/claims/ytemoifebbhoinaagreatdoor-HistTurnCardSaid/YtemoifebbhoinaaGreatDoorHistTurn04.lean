/- Part of the proof of: The law HistTurn returns true for every input, and leaves its arguments as they were. -/
import Derived.Test.YtemoifebbhoinaaGreatDoorHistTurn03
set_option linter.all false
set_option maxRecDepth 20000
namespace Go.Proofs.YtemoifebbhoinaaGreatDoor
open Go Mb
set_option linter.unusedVariables false
def ud (a0:Ptr) (K:(Int × Bool)→Hp→Prop):Hp→Prop:=br a0.isNone ( K (0,false)) ( nn a0 fun q8=>ld (q8.1,q8.2 + 0) cS fun x10=>cl Tryz.prog kq [(sv x10),(.int .i64 0)] eJ fun r11=>br (decide (r11 < 0)) ( K (0,false)) ( ld (q8.1,q8.2 + 0) cS fun x17=>ix x17 r11 fun q19=>st (q19.1,q19.2 + Int.toNat r11 * 1) [.int .i64 1]<|K (r11,true)))
theorem sim_pool_Pool_Take (a0:Ptr) {K:(Int × Bool)→Hp→Prop} {h:Hp} (H:ud a0 K h):Ct Tryz.prog jH #[(pv a0)] h fun v h'=>∃ r,v = bQ r∧K r h':=aw [(pv a0)] Tryz.func171 c c c fun _=>M<|p (ar c)<|O c<|ak<|M<|J c<|p (cr Tryz.underlying154 c)<|ad<|av c H (fun k1 H2=>M<|p (ar c)<|O c<|ah<|bA (bV c (cf c)<|cf c) ⟨(0,false),c,H2⟩) fun k1 H2=>an<|M<|J c<|bI H2 fun q8 e3 H4=>p (aL<|aK c<|aq e3)<|p (ae ov c)<|aa<|aW H4 sc_39 c (fun _=>c) c fun x10 H5=>aa<|F H5 en_199 fun r11 _ H6=>O c<|ak<|M<|J c<|p (cq c c)<|ad<|av c H6 (fun k7 H8=>M<|p (ar c)<|O c<|ah<|bA (bV c (cf c)<|cf c) ⟨(0,false),c,H8⟩) fun k7 H8=>an<|M<|J (aK c<|aq e3)<|p (aL c)<|p (ae ov c)<|aa<|aW H8 sc_39 c (fun _=>c) c fun x17 H9=>J c<|ck H9 fun q19 e10 h11 H12=>p (bh iP (aK c<|aX e10) c h11)<|aa<|dh lP c c c c c H12 fun _ H13=>ad<|M<|J c<|p (ar c)<|O c<|ah<|bA (bV c (cf c)<|cf c) ⟨(r11,true),c,H13⟩
def ue (a0:Ptr) (a1:Int) (K:Int→Hp→Prop):Hp→Prop:=br (!(a0.isNone || (decide (a1 < 0)))) ( nn a0 fun q14=>ld (q14.1,q14.2 + 0) cS fun x16=>br (decide (a1 ≥ (x16.len:Int))) ( K 0) ( ld (q14.1,q14.2 + 0) cS fun x23=>ix x23 a1 fun q25=>ld (q25.1,q25.2 + Int.toNat a1 * 1) (cI .i64) fun x26=>K x26)) ( K 0)
theorem sim_pool_Pool_Refs (a0:Ptr) (a1:Int) {K:Int→Hp→Prop} {h:Hp} (H:ue a0 a1 K h):Ct Tryz.prog jI #[(pv a0),(.int .i64 a1)] h fun v h'=>∃ r,v = eJ r∧K r h':=aw [(pv a0),(.int .i64 a1)] Tryz.func200 c c c fun _=>M<|O c<|ak<|M<|J c<|p (cr Tryz.underlying154 c)<|J c<|V c c (aG _) (fun g1=>wv<|ag c)<|V c c (aG _) (fun g2=>wv<|cq (az c g2) c)<|p (cZ c c)<|J c<|V c c (aG _) (fun g3=>wv<|ag c)<|V c c (aG _) (fun g4=>wv<|ag c)<|bT H (fun k6 H7=>bI H7 fun q14 e8 H9=>G (Y<|bN k6)<|z_p (aL<|aK (az c k6)<|aq e8)<|G (Y<|bN k6)<|z_p (ae ov c)<|G (Y<|bN k6)<|aW H9 sc_39 c (fun _=>c) c fun x16 H10=>G (Y<|bN k6)<|z_p (dl c Tryz.underlying39 c)<|G (Y<|bN k6)<|z_p (ij (az c k6) c)<|p (ao c (bN k6) c)<|ad<|av c H10 (fun k11 H12=>M<|O c<|ah<|D ⟨0,c,H12⟩) fun k11 H12=>an<|M<|J (aK c<|aq e8)<|p (aL c)<|p (ae ov c)<|aa<|aW H12 sc_39 c (fun _=>c) c fun x23 H13=>J c<|ck H13 fun q25 e14 h15 H16=>p (bh iP (aK c<|aX e14) c h15)<|aa<|aW H16 aS c (fun _=>c) c fun x26 H17=>O c<|ah<|D ⟨x26,c,H17⟩) fun k6 H7=>W (bb<|bo k6)<|W (bb<|bo k6)<|W (bb<|bo k6)<|W (bb<|bo k6)<|W (bb<|bo k6)<|p (aI c (bo k6) c)<|ad<|fG c c<|M<|O c<|ah<|D ⟨0,c,H7⟩
def uf (a0:Ptr) (a1:Int) (K:Bool→Hp→Prop):Hp→Prop:=cl Tryz.prog jI [(pv a0),(.int .i64 a1)] eJ fun r8=>br ((r8 == 0) || (decide (r8 ≥ 7))) ( K false) ( nn a0 fun q16=>ld (q16.1,q16.2 + 0) cS fun x18=>ix x18 a1 fun q20=>ld (q20.1,q20.2 + Int.toNat a1 * 1) (cI .i64) fun x21=>st (q20.1,q20.2 + Int.toNat a1 * 1) [.int .i64 (IntKind.i64.wrap (x21 + 1))]<|K true)
theorem sim_pool_Pool_Hold (a0:Ptr) (a1:Int) {K:Bool→Hp→Prop} {h:Hp} (H:uf a0 a1 K h):Ct Tryz.prog mg #[(pv a0),(.int .i64 a1)] h fun v h'=>∃ r,v = aA r∧K r h':=aw [(pv a0),(.int .i64 a1)] Tryz.func173 c c c fun _=>M<|O c<|ak<|M<|J c<|J c<|aa<|F H en_200 fun r8 _ H1=>O c<|M<|J c<|p (bH c c)<|J c<|V c c (aG _) (fun g2=>wv<|ag c)<|V c c (aG _) (fun g3=>wv<|ij (az c g3) c)<|p (cZ c c)<|ad<|av c H1 (fun k4 H5=>M<|O c<|ah<|D ⟨false,c,H5⟩) fun k4 H5=>an<|M<|J c<|bI H5 fun q16 e6 H7=>p (aL<|aK c<|aq e6)<|p (ae ov c)<|aa<|aW H7 sc_39 c (fun _=>c) c fun x18 H8=>J c<|ck H8 fun q20 e9 h10 H11=>p (bh iP (aK c<|aX e9) c h10)<|aa<|aW H11 aS c (fun _=>c) c fun x21 H12=>p (bn c c)<|p (bh iP (aK c<|aX e9) c h10)<|aa<|dh lP c c c c c H12 fun _ H13=>ad<|M<|O c<|ah<|D ⟨true,c,H13⟩
def vF (a0:Ptr) (a1:Int) (K:(Int × Bool)→Hp→Prop):Hp→Prop:=cl Tryz.prog jI [(pv a0),(.int .i64 a1)] eJ fun r8=>br (r8 == 0) ( K (0,false)) ( nn a0 fun q11=>ld (q11.1,q11.2 + 0) cS fun x13=>ix x13 a1 fun q15=>ld (q15.1,q15.2 + Int.toNat a1 * 1) (cI .i64) fun x16=>st (q15.1,q15.2 + Int.toNat a1 * 1) [.int .i64 (IntKind.i64.wrap (x16 - 1))]<|ld (q11.1,q11.2 + 0) cS fun x22=>ix x22 a1 fun q24=>ld (q24.1,q24.2 + Int.toNat a1 * 1) (cI .i64) fun x25=>K (x25,true))
theorem sim_pool_Pool_Let (a0:Ptr) (a1:Int) {K:(Int × Bool)→Hp→Prop} {h:Hp} (H:vF a0 a1 K h):Ct Tryz.prog nu #[(pv a0),(.int .i64 a1)] h fun v h'=>∃ r,v = bQ r∧K r h':=aw [(pv a0),(.int .i64 a1)] Tryz.func177 c c c fun _=>M<|p (ar c)<|O c<|ak<|M<|J c<|J c<|aa<|F H en_200 fun r8 _ H1=>p (bH c c)<|ad<|av c H1 (fun k2 H3=>M<|p (ar c)<|O c<|ah<|bA (bV c (cf c)<|cf c) ⟨(0,false),c,H3⟩) fun k2 H3=>an<|M<|J c<|bI H3 fun q11 e4 H5=>p (aL<|aK c<|aq e4)<|p (ae ov c)<|aa<|aW H5 sc_39 c (fun _=>c) c fun x13 H6=>J c<|ck H6 fun q15 e7 h8 H9=>p (bh iP (aK c<|aX e7) c h8)<|aa<|aW H9 aS c (fun _=>c) c fun x16 H10=>p (vp c c)<|p (bh iP (aK c<|aX e7) c h8)<|aa<|dh lP c c c c c H10 fun _ H11=>ad<|M<|J (aK c<|aq e4)<|p (aL c)<|p (ae ov c)<|aa<|aW H11 sc_39 c (fun _=>c) c fun x22 H12=>J c<|ck H12 fun q24 e13 h14 H15=>p (bh iP (aK c<|aX e13) c h14)<|aa<|aW H15 aS c (fun _=>c) c fun x25 H16=>p (ar c)<|O c<|ah<|bA (bV c (cf c)<|cf c) ⟨(x25,true),c,H16⟩
def sh_pool_New (a0:Int) (K:Ptr→Hp→Prop):Hp→Prop:=br ((decide (a0 < 1)) || (decide (a0 > 16))) ( K none) ( hpv Tryz.prog (Instr.makeSlice dK (.int .i64 a0) (.int .i64 a0)) cG fun (v10:Sl)=>nw qJ (oy.C (⟨v10⟩:oy)) fun b12=>K (some (b12,0)))
theorem sim_pool_New (a0:Int) {K:Ptr→Hp→Prop} {h:Hp} (H:sh_pool_New a0 K h):Ct Tryz.prog xj #[(.int .i64 a0)] h fun v h'=>∃ r,v = sC r∧K r h':=aw [(.int .i64 a0)] Tryz.func105 c c c fun _=>M<|O c<|ak<|M<|J c<|p (cq c c)<|J c<|V c c (aG _) (fun g1=>wv<|ag c)<|V c c (aG _) (fun g2=>wv<|kP (az c g2) c)<|p (cZ c c)<|ad<|av c H (fun k3 H4=>M<|O c<|ah<|D ⟨none,c,H4⟩) fun k3 H4=>an<|M<|J c<|aa<|aU H4 (jX c c) c fun v10 _ H5=>p (bd c<|build_210_0 v10)<|aa<|io c c c H5 fun b12 _ H6=>O c<|ah<|D ⟨some (b12,0),c,H6⟩
def oU (K:Sl→Hp→Prop) (x11:Sl) (Rec7:(Sl × Int)→Hp→Prop) (s6:Sl × Int):Hp→Prop:=br (decide (s6.2 < (x11.len:Int))) ( ix x11 s6.2 fun q16=>ld (q16.1,q16.2 + Int.toNat s6.2 * 1) (cI .i64) fun x17=>br (x17 == 0) ( hpv Tryz.prog (Instr.buildSlice dK 1 #[(0,(.int .i64 s6.2))]) cG fun (v22:Sl)=>hpv Tryz.prog (Builtin.append_ #[dK,dK] dK #[(sv s6.1),(sv v22)]) cG fun (v23:Sl)=>Rec7 (v23,(IntKind.i64.wrap (s6.2 + 1)))) ( Rec7 (s6.1,(IntKind.i64.wrap (s6.2 + 1))))) ( K s6.1)
def ug (a0:Ptr) (K:Sl→Hp→Prop):Hp→Prop:=br a0.isNone ( K (⟨none,0,0,none⟩:Sl)) ( nn a0 fun q9=>ld (q9.1,q9.2 + 0) cS fun x11=>Lp (oU K x11) ((⟨none,0,0,none⟩:Sl),0))
theorem sim_pool_Pool_Free (a0:Ptr) {K:Sl→Hp→Prop} {h:Hp} (H:ug a0 K h):Ct Tryz.prog mh #[(pv a0)] h fun v h'=>∃ r,v = cG r∧K r h':=aw [(pv a0)] Tryz.func103 c c c fun _=>M<|O c<|ak<|M<|J c<|p (cr Tryz.underlying154 c)<|ad<|av c H (fun k1 H2=>M<|O c<|ah<|D ⟨(⟨none,0,0,none⟩:Sl),c,H2⟩) fun k1 H2=>an<|M<|O c<|ak<|M<|J c<|bI H2 fun q9 e3 H4=>p (aL<|aK c<|aq e3)<|p (ae ov c)<|aa<|aW H4 sc_39 c (fun _=>c) c fun x11 H5=>p (dl c Tryz.underlying39 c)<|J c<|ad<|ax<|bG (step:=oU K x11) (fun s6=>[(3,(sv s6.1)),(11,(sv x11)),(12,(.int .i64 (x11.len:Int))),(13,(.int .i64 s6.2))]) (fun s6=>[]) H5 (.cons c<|.cons c<|.cons c<|.cons c<|.nil _) .slnil fun Rec7 s6 _ H8=>M<|p (cq c c)<|ad<|ak<|av c H8 (fun k9 H10=>an<|ak<|ax<|M<|J c<|ck H10 fun q16 e11 h12 H13=>p (bh iP (aK c<|aX e11) c h12)<|aa<|aW H13 aS c (fun _=>c) c fun x17 H14=>p (ar c)<|O c<|M<|J c<|p (bH c c)<|ad<|av c H14 (fun k15 H16=>ap<|J c<|J c<|aa<|aU H16 (bz (vs:=[(.int .i64 s6.2)]) c) c fun v22 _ H17=>aa<|aU H17 (dJ c c) c fun v23 _ H18=>O c<|ap<|p (bn c c)<|J c<|ad<|cM (v23,(IntKind.i64.wrap (s6.2 + 1))) H18 (.cons c<|.cons c<|.cons c<|.cons c<|.nil _) .slnil) fun k15 H16=>an<|ap<|p (bn c c)<|J c<|ad<|cM (s6.1,(IntKind.i64.wrap (s6.2 + 1))) H16 (.cons c<|.cons c<|.cons c<|.cons c<|.nil _) .slnil) fun k9 H10=>bj<|M<|J c<|O c<|ah<|D ⟨s6.1,c,H10⟩
def oV (K:Int→Hp→Prop) (r7:Sl) (Rec3:(Int × Int)→Hp→Prop) (s2:Int × Int):Hp→Prop:=br (decide (s2.2 < (r7.len:Int))) ( ix r7 s2.2 fun q11=>ld (q11.1,q11.2 + Int.toNat s2.2 * 1) (cI .i64) fun x12=>gd (0 ≤ x12)<|Rec3 ((ior .u64 s2.1 (IntKind.u64.wrap (1 * 2 ^ (min (Int.toNat x12) (IntKind.bits .u64))))),(IntKind.i64.wrap (s2.2 + 1)))) ( K s2.1)
def uh (a0:Ptr) (K:Int→Hp→Prop):Hp→Prop:=cl Tryz.prog mh [(pv a0)] cG fun r7=>Lp (oV K r7) (0,0)
theorem sim_pool_Pool_Bits (a0:Ptr) {K:Int→Hp→Prop} {h:Hp} (H:uh a0 K h):Ct Tryz.prog qj #[(pv a0)] h fun v h'=>∃ r,v = gU r∧K r h':=aw [(pv a0)] Tryz.func217 c c c fun _=>M<|O c<|M<|O c<|ak<|M<|J c<|aa<|F H en_103 fun r7 _ H1=>p (dl c Tryz.underlying39 c)<|J c<|ad<|ax<|bG (step:=oV K r7) (fun s2=>[(3,(.int .u64 s2.1)),(7,(sv r7)),(8,(.int .i64 (r7.len:Int))),(9,(.int .i64 s2.2))]) (fun s2=>[]) H1 (.cons c<|.cons c<|.cons c<|.cons c<|.nil _) .slnil fun Rec3 s2 _ H4=>M<|p (cq c c)<|ad<|ak<|av c H4 (fun k5 H6=>an<|ak<|ax<|M<|ck H6 fun q11 e7 h8 H9=>p (bh iP (aK c<|aX e7) c h8)<|aa<|aW H9 aS c (fun _=>c) c fun x12 H10=>O c<|ap<|J c<|J c<|hH H10 fun z11 H12=>p (v_shl c c z11)<|p (v_ior c c)<|O c<|ap<|p (bn c c)<|J c<|ad<|cM ((ior .u64 s2.1 (IntKind.u64.wrap (1 * 2 ^ (min (Int.toNat x12) (IntKind.bits .u64))))),(IntKind.i64.wrap (s2.2 + 1))) H12 (.cons c<|.cons c<|.cons c<|.cons c<|.nil _) .slnil) fun k5 H6=>bj<|M<|J c<|O c<|ah<|D ⟨s2.1,c,H6⟩
end Go.Proofs.YtemoifebbhoinaaGreatDoor
namespace Go.Proofs.YtemoifebbhoinaaGreatDoor
open Go Mb
set_option linter.unusedVariables false
def ia (a0:Sl) (K:Sl→Hp→Prop):Hp→Prop:=br a0.a.isNone ( K (⟨none,0,0,none⟩:Sl)) ( hpv Tryz.prog (Instr.buildSlice eT 0 #[]) eI fun (v5:Sl)=>hpv Tryz.prog (Builtin.append_ #[eT,eT] eT #[(sv v5),(sv a0)]) eI fun (v7:Sl)=>K v7)
theorem mM (a0:Sl) {K:Sl→Hp→Prop} {h:Hp} (H:ia a0 K h):Ct Tryz.prog eW #[(sv a0)] h fun v h'=>∃ r,v = eI r∧K r h':=aw [(sv a0)] Tryz.func55 c c c fun _=>M<|O c<|ak<|M<|J c<|p (v_seqT Tryz.underlying42 c)<|ad<|av c H (fun k1 H2=>M<|O c<|ah<|D ⟨(⟨none,0,0,none⟩:Sl),c,H2⟩) fun k1 H2=>an<|M<|aa<|aU H2 (bz (vs:=[]) c) c fun v5 _ H3=>J c<|aa<|aU H3 (dJ c c) c fun v7 _ H4=>O c<|ah<|D ⟨v7,c,H4⟩
def eM (a0:Sl) (a1:Int) (K:(Int × Bool)→Hp→Prop) (Rec2:(Int × Int)→Hp→Prop) (s1:Int × Int):Hp→Prop:=br (decide (s1.1 < s1.2)) ( ix a0 (IntKind.i64.wrap (Int.fdiv (IntKind.u64.wrap (IntKind.i64.wrap (s1.1 + s1.2))) (2 ^ (min (Int.toNat 1) (IntKind.bits .u64))))) fun q24=>ld (q24.1,q24.2 + Int.toNat (IntKind.i64.wrap (Int.fdiv (IntKind.u64.wrap (IntKind.i64.wrap (s1.1 + s1.2))) (2 ^ (min (Int.toNat 1) (IntKind.bits .u64))))) * 1) (cI .u64) fun x25=>br (iv x25 a1) ( Rec2 ((IntKind.i64.wrap ((IntKind.i64.wrap (Int.fdiv (IntKind.u64.wrap (IntKind.i64.wrap (s1.1 + s1.2))) (2 ^ (min (Int.toNat 1) (IntKind.bits .u64))))) + 1)),s1.2)) ( Rec2 (s1.1,(IntKind.i64.wrap (Int.fdiv (IntKind.u64.wrap (IntKind.i64.wrap (s1.1 + s1.2))) (2 ^ (min (Int.toNat 1) (IntKind.bits .u64)))))))) ( br (decide (s1.1 < (a0.len:Int))) ( ix a0 s1.1 fun q38=>ld (q38.1,q38.2 + Int.toNat s1.1 * 1) (cI .u64) fun x39=>br (!(x39 == a1)) ( ld (q38.1,q38.2 + Int.toNat s1.1 * 1) (cI .u64) fun x46=>K (s1.1,((dH x46) && (dH a1)))) ( K (s1.1,true))) ( K (s1.1,false)))
def gO (a0:Sl) (a1:Int) (K:(Int × Bool)→Hp→Prop):Hp→Prop:=Lp (eM a0 a1 K) (0,(a0.len:Int))
theorem mb (a0:Sl) (a1:Int) {K:(Int × Bool)→Hp→Prop} {h:Hp} (H:gO a0 a1 K h):Ct Tryz.prog eQ #[(sv a0),(.int .u64 a1)] h fun v h'=>∃ r,v = bQ r∧K r h':=aw [(sv a0),(.int .u64 a1)] Tryz.func169 c c c fun _=>M<|p (ar c)<|O c<|M<|J c<|p (dl c Tryz.underlying93 c)<|O c<|M<|J c<|p (ar c)<|O c<|ak<|ax<|bG (step:=eM a0 a1 K) (fun s1=>[(0,(sv a0)),(1,(.int .u64 a1)),(6,(.int .i64 (a0.len:Int))),(7,(.int .i64 s1.1)),(8,(.int .i64 s1.2))]) (fun s1=>[]) H (.cons c<|.cons c<|.cons c<|.cons c<|.cons c<|.nil _) .slnil fun Rec2 s1 _ H3=>ak<|M<|J c<|J c<|p (cq c c)<|ad<|av c H3 (fun k4 H5=>an<|ax<|M<|J c<|J c<|p (bn c c)<|p (eB ⟨_,Tryz.underlying3⟩ Tryz.underlying257 c)<|p (v_shr c c (by decide))<|p (eB ⟨_,Tryz.underlying257⟩ Tryz.underlying3 c)<|O c<|M<|J c<|J c<|ck H5 fun q24 e6 h7 H8=>p (bh wH (aK c<|aX e6) c h7)<|aa<|aW H8 cy c (fun _=>c) c fun x25 H9=>J c<|aa<|cK (vs:=[(.int .u64 x25),(.int .u64 a1)]) (bv<|ct_cmp_Less_uint64 x25 a1 _) en_195 c c<|ad<|av c H9 (fun k10 H11=>ap<|J c<|p (bn c c)<|O c<|cM ((IntKind.i64.wrap ((IntKind.i64.wrap (Int.fdiv (IntKind.u64.wrap (IntKind.i64.wrap (s1.1 + s1.2))) (2 ^ (min (Int.toNat 1) (IntKind.bits .u64))))) + 1)),s1.2) H11 (.cons c<|.cons c<|.cons c<|.cons c<|.cons c<|.nil _) .slnil) fun k10 H11=>ap<|J c<|O c<|cM (s1.1,(IntKind.i64.wrap (Int.fdiv (IntKind.u64.wrap (IntKind.i64.wrap (s1.1 + s1.2))) (2 ^ (min (Int.toNat 1) (IntKind.bits .u64)))))) H11 (.cons c<|.cons c<|.cons c<|.cons c<|.cons c<|.nil _) .slnil) fun k4 H5=>bj<|M<|J c<|J c<|J c<|p (cq c c)<|J c<|V c c (ay _) (fun g12=>wv<|ag c)<|V c c (ay _) (fun g13=>wv<|ag c)<|bT H5 (fun k15 H16=>ck H16 fun q38 e17 h18 H19=>G (Y k15)<|z_p (bh wH (aK (az c k15)<|aX e17) (az c k15) h18)<|G (Y k15)<|aW H19 cy c (fun _=>c) c fun x39 H20=>G (Y k15)<|z_p (ag c)<|G (Y k15)<|z_p (bH c c)<|G (Y k15)<|z_p (ag c)<|V c c (aG _) (fun g21=>wv<|ag c)<|V c c (aG _) (fun g22=>wv<|ag c)<|V c c (aG _) (fun g23=>wv<|bh wH (aK (az c g23)<|aX e17) (az c g23) h18)<|bT H20 (fun k25 H26=>G (Y<|bN k25)<|aW H26 cy (az c k25) (fun _=>c) c fun x46 H27=>G (Y<|bN k25)<|cK (vs:=[(.int .u64 x46)]) (bv<|pw x46 _) en_196 c c<|G (Y<|bN k25)<|z_p (ag c)<|V c c (ay _) (fun g28=>wv<|ag c)<|dc (vs:=[(.int .u64 a1)]) c c c (ay _) (fun g29=>bv<|pw a1 _) en_196 (fun g29=>aT (az c g29) bW) c<|G (Y<|bN k25)<|z_p (bO c c)<|G (Y k15)<|z_p (ao c (bN k25) c)<|p (aI c k15 c)<|p (ar c)<|O c<|ah<|bA (bV c (cf c)<|cf c) ⟨(s1.1,((dH x46) && (dH a1))),c,H27⟩) fun k25 H26=>W (bb<|bo k25)<|W (bb<|bo k25)<|W (bb<|bo k25)<|W (bD _)<|W (bD _)<|W (bb<|bo k25)<|G (Y k15)<|z_p (aI c (bo k25) c)<|p (aI c k15 c)<|p (ar c)<|O c<|ah<|bA (bV c (cf c)<|cf c) ⟨(s1.1,true),c,H26⟩) fun k15 H16=>W (aJ k15)<|W (aJ k15)<|W (aJ k15)<|W (aJ k15)<|W (aJ k15)<|W (bD _)<|W (bD _)<|W (bD _)<|W (bD _)<|W (bD _)<|W (bD _)<|W (bD _)<|W (bD _)<|W (bD _)<|W (aJ k15)<|p (ao c k15 c)<|p (ar c)<|O c<|ah<|bA (bV c (cf c)<|cf c) ⟨(s1.1,false),c,H16⟩
def jG (a0:Sl) (a1:Int) (a2:Sl) (K:Sl→Hp→Prop):Hp→Prop:=hpv Tryz.prog (Instr.sliceAt be (sv a0) (some (.int .i64 a1)) none none) cg fun (v12:Sl)=>br ((a2.len:Int) == 0) ( K a0) ( br (a1 == (a0.len:Int)) ( hpv Tryz.prog (Builtin.append_ #[be,be] be #[(sv a0),(sv a2)]) cg fun (v25:Sl)=>K v25) ( br (decide ((IntKind.i64.wrap ((a0.len:Int) + (a2.len:Int))) > (a0.cap:Int))) ( hpv Tryz.prog (Instr.sliceAt be (sv a0) none (some (.int .i64 a1)) none) cg fun (v34:Sl)=>hpv Tryz.prog (Builtin.append_ #[be,lf] be #[(sv v34),(.int .i64 (IntKind.i64.wrap ((IntKind.i64.wrap ((a0.len:Int) + (a2.len:Int))) - a1)))]) cg fun (v40:Sl)=>hpv Tryz.prog (Instr.sliceAt be (sv v40) (some (.int .i64 a1)) none none) cg fun (v43:Sl)=>hpv Tryz.prog (Builtin.copy_ #[be,be] lf #[(sv v43),(sv a2)]) eJ fun (v45:Int)=>both ( hpv Tryz.prog (Instr.sliceAt be (sv v40) (some (.int .i64 (IntKind.i64.wrap (a1 + (a2.len:Int))))) none none) cg fun (v50:Sl)=>hpv Tryz.prog (Instr.sliceAt be (sv a0) (some (.int .i64 a1)) none none) cg fun (v53:Sl)=>hpv Tryz.prog (Builtin.copy_ #[be,be] lf #[(sv v50),(sv v53)]) eJ fun (v54:Int)=>K v40) ( hpv Tryz.prog (Instr.sliceAt be (sv a0) (some (.int .i64 a1)) none none) cg fun (v53:Sl)=>hpv Tryz.prog (Instr.sliceAt be (sv v40) (some (.int .i64 (IntKind.i64.wrap (a1 + (a2.len:Int))))) none none) cg fun (v50:Sl)=>hpv Tryz.prog (Builtin.copy_ #[be,be] lf #[(sv v50),(sv v53)]) eJ fun (v54:Int)=>K v40)) ( hpv Tryz.prog (Instr.sliceAt be (sv a0) none (some (.int .i64 (IntKind.i64.wrap ((a0.len:Int) + (a2.len:Int))))) none) cg fun (v60:Sl)=>hpv Tryz.prog (Instr.sliceAt be (sv v60) (some (.int .i64 (IntKind.i64.wrap (a1 + (a2.len:Int))))) none none) cg fun (v66:Sl)=>cln Tryz.prog (callFunc uY #[(sv a2),(sv v66)]) aA fun (v67:Bool)=>br (!v67) ( both ( hpv Tryz.prog (Instr.sliceAt be (sv v60) (some (.int .i64 (IntKind.i64.wrap (a1 + (a2.len:Int))))) none none) cg fun (v73:Sl)=>hpv Tryz.prog (Instr.sliceAt be (sv v60) (some (.int .i64 a1)) none none) cg fun (v76:Sl)=>hpv Tryz.prog (Builtin.copy_ #[be,be] lf #[(sv v73),(sv v76)]) eJ fun (v77:Int)=>hpv Tryz.prog (Instr.sliceAt be (sv v60) (some (.int .i64 a1)) none none) cg fun (v80:Sl)=>hpv Tryz.prog (Builtin.copy_ #[be,be] lf #[(sv v80),(sv a2)]) eJ fun (v82:Int)=>K v60) ( hpv Tryz.prog (Instr.sliceAt be (sv v60) (some (.int .i64 a1)) none none) cg fun (v76:Sl)=>hpv Tryz.prog (Instr.sliceAt be (sv v60) (some (.int .i64 (IntKind.i64.wrap (a1 + (a2.len:Int))))) none none) cg fun (v73:Sl)=>hpv Tryz.prog (Builtin.copy_ #[be,be] lf #[(sv v73),(sv v76)]) eJ fun (v77:Int)=>hpv Tryz.prog (Instr.sliceAt be (sv v60) (some (.int .i64 a1)) none none) cg fun (v80:Sl)=>hpv Tryz.prog (Builtin.copy_ #[be,be] lf #[(sv v80),(sv a2)]) eJ fun (v82:Int)=>K v60)) ( hpv Tryz.prog (Instr.sliceAt be (sv v60) (some (.int .i64 (a0.len:Int))) none none) cg fun (v86:Sl)=>hpv Tryz.prog (Builtin.copy_ #[be,be] lf #[(sv v86),(sv a2)]) eJ fun (v88:Int)=>hpv Tryz.prog (Instr.sliceAt be (sv v60) (some (.int .i64 a1)) none none) cg fun (v91:Sl)=>cl Tryz.prog sm [(sv v91),(.int .i64 (a2.len:Int))] R_ fun (_:Unit)=>K v60))))
theorem pC (a0:Sl) (a1:Int) (a2:Sl) {K:Sl→Hp→Prop} {h:Hp} (H:jG a0 a1 a2 K h):Ct Tryz.prog dD #[(sv a0),(.int .i64 a1),(sv a2)] h fun v h'=>∃ r,v = cg r∧K r h':=aw [(sv a0),(.int .i64 a1),(sv a2)] Tryz.func170 c c c fun _=>M<|O c<|M<|J c<|J c<|aa<|aU H (eS c c c c c) c fun v12 _ H1=>ad<|M<|J c<|p (dl c Tryz.underlying93 c)<|O c<|ak<|M<|J c<|p (bH c c)<|ad<|av c H1 (fun k2 H3=>M<|J c<|O c<|ah<|D ⟨a0,c,H3⟩) fun k2 H3=>an<|M<|J c<|p (dl c Tryz.underlying93 c)<|O c<|ak<|M<|J c<|J c<|p (bH c c)<|ad<|av c H3 (fun k4 H5=>M<|J c<|J c<|aa<|aU H5 (dJ c c) c fun v25 _ H6=>O c<|ah<|D ⟨v25,c,H6⟩) fun k4 H5=>an<|ak<|M<|J c<|J c<|p (bn c c)<|J c<|p (v_cap c Tryz.underlying93 c)<|p (kP c c)<|ad<|av c H5 (fun k7 H8=>M<|J c<|J c<|aa<|aU H8 (eS c c c c c) c fun v34 _ H9=>J c<|J c<|p (bn c c)<|J c<|p (vp c c)<|aa<|aU H9 (dJ c c) c fun v40 _ H10=>O c<|M<|J c<|J c<|aa<|aU H10 (eS c c c c c) c fun v43 _ H11=>J c<|aa<|aU H11 (x_copy c c) c fun v45 _ H12=>ad<|ak<|bm (n:=9) [] cn c .slnil<|U 0 c (ag c)<|U 1 c (ag c)<|U 2 c (ag c)<|U 3 c (bn c c)<|U 5 c (ag c)<|U 6 c (ag c)<|jR H12 fun H13_1 H13_2=>jS (i:=4) (j:=7) (by kernel_rfl) (cJ c c<|aU H13_1 (eS c c c c c) c fun v50 _ H14=>⟨.slnil,R 7 c<|aU H14 (eS c c c c c) c fun v53 _ H15=>⟨.slnil,R 8 c<|aU H15 (x_copy c c) c fun v54 _ H16=>⟨.slnil,aO (by kernel_rfl)<|M<|J c<|O c<|ah<|D ⟨v40,c,H16⟩⟩⟩⟩)<|cJ c c<|aU H13_2 (eS c c c c c) c fun v53 _ H14=>⟨.slnil,R 4 c<|aU H14 (eS c c c c c) c fun v50 _ H15=>⟨.slnil,R 8 c<|aU H15 (x_copy c c) c fun v54 _ H16=>⟨.slnil,aO (by kernel_rfl)<|M<|J c<|O c<|ah<|D ⟨v40,c,H16⟩⟩⟩⟩) fun k7 H8=>an<|M<|J c<|J c<|J c<|p (bn c c)<|aa<|aU H8 (eS c c c c c) c fun v60 _ H17=>O c<|ak<|M<|J c<|J c<|J c<|J c<|p (bn c c)<|aa<|aU H17 (eS c c c c c) c fun v66 _ H18=>aa<|gl H18 (rY (vs:=[(sv a2),(sv v66)]) c) c fun v67 _ H19=>p (ct c)<|ad<|av c H19 (fun k20 H21=>ak<|bm (n:=9) [] cn c .slnil<|U 0 c (ag c)<|U 1 c (ag c)<|U 2 c (ag c)<|U 3 c (bn c c)<|U 5 c (ag c)<|U 6 c (ag c)<|jR H21 fun H22_1 H22_2=>jS (i:=4) (j:=7) (by kernel_rfl) (cJ c c<|aU H22_1 (eS c c c c c) c fun v73 _ H23=>⟨.slnil,R 7 c<|aU H23 (eS c c c c c) c fun v76 _ H24=>⟨.slnil,R 8 c<|aU H24 (x_copy c c) c fun v77 _ H25=>⟨.slnil,aO (by kernel_rfl)<|M<|J c<|J c<|aa<|aU H25 (eS c c c c c) c fun v80 _ H26=>J c<|aa<|aU H26 (x_copy c c) c fun v82 _ H27=>ad<|M<|J c<|O c<|ah<|D ⟨v60,c,H27⟩⟩⟩⟩)<|cJ c c<|aU H22_2 (eS c c c c c) c fun v76 _ H23=>⟨.slnil,R 4 c<|aU H23 (eS c c c c c) c fun v73 _ H24=>⟨.slnil,R 8 c<|aU H24 (x_copy c c) c fun v77 _ H25=>⟨.slnil,aO (by kernel_rfl)<|M<|J c<|J c<|aa<|aU H25 (eS c c c c c) c fun v80 _ H26=>J c<|aa<|aU H26 (x_copy c c) c fun v82 _ H27=>ad<|M<|J c<|O c<|ah<|D ⟨v60,c,H27⟩⟩⟩⟩) fun k20 H21=>an<|M<|J c<|J c<|aa<|aU H21 (eS c c c c c) c fun v86 _ H28=>J c<|aa<|aU H28 (x_copy c c) c fun v88 _ H29=>ad<|M<|J c<|J c<|aa<|aU H29 (eS c c c c c) c fun v91 _ H30=>J c<|aa<|F H30 en_198 fun r93 _ H31=>ad<|M<|J c<|O c<|ah<|D ⟨v60,c,H31⟩
def jF (a0:Sl) (a1:Int) (K:Int→Hp→Prop) (Rec2:Int→Hp→Prop) (s1:Int):Hp→Prop:=br (decide (s1 < (a0.len:Int))) ( ix a0 s1 fun q14=>ld (q14.1,q14.2 + Int.toNat s1 * 1) (cI .i64) fun x15=>br (a1 == x15) ( K s1) ( Rec2 (IntKind.i64.wrap (s1 + 1)))) ( K (-1))
def nX (a0:Sl) (a1:Int) (K:Int→Hp→Prop):Hp→Prop:=Lp (jF a0 a1 K) 0
theorem uR (a0:Sl) (a1:Int) {K:Int→Hp→Prop} {h:Hp} (H:nX a0 a1 K h):Ct Tryz.prog kq #[(sv a0),(.int .i64 a1)] h fun v h'=>∃ r,v = eJ r∧K r h':=aw [(sv a0),(.int .i64 a1)] Tryz.func199 c c c fun _=>M<|O c<|ak<|M<|J c<|p (dl c Tryz.underlying39 c)<|J c<|ad<|ax<|bG (step:=jF a0 a1 K) (fun s1=>[(0,(sv a0)),(1,(.int .i64 a1)),(7,(.int .i64 (a0.len:Int))),(8,(.int .i64 s1))]) (fun s1=>[]) H (.cons c<|.cons c<|.cons c<|.cons c<|.nil _) .slnil fun Rec2 s1 _ H3=>M<|p (cq c c)<|ad<|ak<|av c H3 (fun k4 H5=>an<|ak<|ax<|M<|J c<|O c<|M<|J c<|J c<|J c<|ck H5 fun q14 e6 h7 H8=>p (bh iP (aK c<|aX e6) c h7)<|aa<|aW H8 aS c (fun _=>c) c fun x15 H9=>p (bH c c)<|ad<|av c H9 (fun k10 H11=>M<|J c<|O c<|ah<|D ⟨s1,c,H11⟩) fun k10 H11=>an<|ap<|p (bn c c)<|J c<|ad<|cM (IntKind.i64.wrap (s1 + 1)) H11 (.cons c<|.cons c<|.cons c<|.cons c<|.nil _) .slnil) fun k4 H5=>bj<|M<|O c<|ah<|D ⟨(-1),c,H5⟩
def eV (a0:Sl) (a1:Int) (a3:Value) (Rec2:Int→Hp→Prop) (s1:Int) (Rec7:Int→Hp→Prop) (s6:Int):Hp→Prop:=br (decide (s6 > a1)) ( ix a0 s6 fun q25=>ix a0 (IntKind.i64.wrap (s6 - 1)) fun q30=>ld (q25.1,q25.2 + Int.toNat s6 * 1) (cI .i64) fun x26=>ld (q30.1,q30.2 + Int.toNat (IntKind.i64.wrap (s6 - 1)) * 1) (cI .i64) fun x31=>clv Tryz.prog a3 [(.int .i64 x26),(.int .i64 x31)] eJ fun r32=>br (decide (r32 < 0)) ( ld (q30.1,q30.2 + Int.toNat (IntKind.i64.wrap (s6 - 1)) * 1) (cI .i64) fun x46=>ld (q25.1,q25.2 + Int.toNat s6 * 1) (cI .i64) fun x50=>st (q25.1,q25.2 + Int.toNat s6 * 1) [.int .i64 x46]<|st (q30.1,q30.2 + Int.toNat (IntKind.i64.wrap (s6 - 1)) * 1) [.int .i64 x50]<|Rec7 (IntKind.i64.wrap (s6 - 1))) ( Rec2 (IntKind.i64.wrap (s1 + 1)))) ( Rec2 (IntKind.i64.wrap (s1 + 1)))
def dF (a0:Sl) (a1:Int) (a2:Int) (a3:Value) (K:Unit→Hp→Prop) (Rec2:Int→Hp→Prop) (s1:Int):Hp→Prop:=br (decide (s1 < a2)) ( Lp (eV a0 a1 a3 Rec2 s1) s1) ( K ())
def iq (a0:Sl) (a1:Int) (a2:Int) (a3:Value) (K:Unit→Hp→Prop):Hp→Prop:=Lp (dF a0 a1 a2 a3 K) (IntKind.i64.wrap (a1 + 1))
theorem ng (a0:Sl) (a1:Int) (a2:Int) (a3:Value) {K:Unit→Hp→Prop} {h:Hp} (H:iq a0 a1 a2 a3 K h):Ct Tryz.prog cc #[(sv a0),(.int .i64 a1),(.int .i64 a2),a3] h fun v h'=>∃ r,v = R_ r∧K r h':=aw [(sv a0),(.int .i64 a1),(.int .i64 a2),a3] Tryz.func181 c c c fun _=>M<|J c<|p (bn c c)<|O c<|ax<|bG (step:=dF a0 a1 a2 a3 K) (fun s1=>[(0,(sv a0)),(1,(.int .i64 a1)),(2,(.int .i64 a2)),(3,a3),(8,(.int .i64 s1))]) (fun s1=>[]) H (.cons c<|.cons c<|.cons c<|.cons c<|.cons c<|.nil _) .slnil fun Rec2 s1 _ H3=>ak<|M<|J c<|J c<|p (cq c c)<|ad<|av c H3 (fun k4 H5=>an<|ak<|ax<|M<|J c<|O c<|ax<|bG (step:=eV a0 a1 a3 Rec2 s1) (fun s6=>[(0,(sv a0)),(1,(.int .i64 a1)),(2,(.int .i64 a2)),(3,a3),(8,(.int .i64 s1)),(9,(.int .i64 s6))]) (fun s6=>[]) H5 (.cons c<|.cons c<|.cons c<|.cons c<|.cons c<|.cons c<|.nil _) .slnil fun Rec7 s6 _ H8=>ak<|ak<|bm (n:=17) [] cn c .slnil<|U 0 c (ag c)<|U 1 c (ag c)<|U 2 c (kP c c)<|U 3 c (ag c)<|eY H8 (fun k9 H10=>I 4 c (Y k9) (ve<|ag c)<|I 5 c (Y k9) (ve<|ag c)<|I 6 c (Y k9) (ve<|ag c)<|I 9 c (Y k9) (ve<|ag c)<|I 10 c (Y k9) (ve<|ag c)<|I 11 c (Y k9) (ve<|vp c c)<|fF H10 fun q25 e11 h12 H13=>I 7 c (Y k9) (ve<|bh iP (aK c<|aX e11) c h12)<|fF H13 fun q30 e14 h15 H16=>I 12 c (Y k9) (ve<|bh iP (aK c<|aX e14) c h15)<|eu (i:=8) (fun _ _ _ _ hh=>hh) H16 c (by kernel_rfl) c c c (Y k9) aS c (fun _=>c) c fun x26 H17=>eu (i:=13) (fun _ _ _ _ hh=>hh) H17 c (by kernel_rfl) c c c (Y k9) aS c (fun _=>c) c fun x31 H18=>eva_1 (i:=14) (by kernel_rfl)<|way_on c c c c (Y k9)<|to_clv H18 c c c fun r32 _ H19=>⟨.slnil,I 15 c (Y k9) (ve<|cq c c)<|U 16 c (aI c k9 c)<|aO (by kernel_rfl)<|av c H19 (fun k20 H21=>an<|ak<|ax<|bm (n:=18) [] cn c .slnil<|U 0 c (ag c)<|U 1 c (ag c)<|U 2 c (ag c)<|U 3 c (ag c)<|U 4 c (vp c c)<|U 5 c (ag c)<|U 6 c (ag c)<|U 7 c (vp c c)<|U 8 c (bh iP (aK c<|aX e14) c h15)<|U 10 c (ag c)<|U 11 c (ag c)<|U 12 c (bh iP (aK c<|aX e11) c h12)<|bJ (i:=9) (fun _ _ _ _ hh=>hh) H21 c (by kernel_rfl) aS c (fun _=>c) c fun x46 H22=>bJ (i:=13) (fun _ _ _ _ hh=>hh) H22 c (by kernel_rfl) aS c (fun _=>c) c fun x50 H23=>U 14 c (bh iP (aK c<|aX e11) c h12)<|R 15 c<|dh lP c c c c c H23 fun _ H24=>⟨.slnil,U 16 c (bh iP (aK c<|aX e14) c h15)<|R 17 c<|dh lP c c c c c H24 fun _ H25=>⟨.slnil,aO (by kernel_rfl)<|ap<|J c<|p (vp c c)<|O c<|cM (IntKind.i64.wrap (s6 - 1)) H25 (.cons c<|.cons c<|.cons c<|.cons c<|.cons c<|.cons c<|.nil _) .slnil⟩⟩) fun k20 H21=>bj<|ap<|J c<|p (bn c c)<|O c<|cM (IntKind.i64.wrap (s1 + 1)) H21 (.cons c<|.cons c<|.cons c<|.cons c<|.cons c<|.nil _) .slnil⟩) fun k9 H10=>Z 4 c (aJ k9)<|Z 5 c (aJ k9)<|Z 6 c (aJ k9)<|Z 7 c (aJ k9)<|Z 8 c (aJ k9)<|Z 9 c (aJ k9)<|Z 10 c (aJ k9)<|Z 11 c (aJ k9)<|Z 12 c (aJ k9)<|Z 13 c (aJ k9)<|Z 14 c (aJ k9)<|Z 15 c (aJ k9)<|U 16 c (ao c k9 c)<|aO (by kernel_rfl)<|rW c c<|bj<|ap<|J c<|p (bn c c)<|O c<|cM (IntKind.i64.wrap (s1 + 1)) H10 (.cons c<|.cons c<|.cons c<|.cons c<|.cons c<|.nil _) .slnil) fun k4 H5=>bj<|end_i (res_0 c) ⟨(),c,H5⟩
def lg (a0:Sl) (a1:Int) (a2:Value) (Rec9:Int→Hp→Prop) (s8:Int) (Rec14:(Int × Int)→Hp→Prop) (s13:Int × Int):Hp→Prop:=br (decide (s13.2 ≤ a1)) ( cl Tryz.prog kC [(sv a0),(.int .i64 s13.1),(.int .i64 (IntKind.i64.wrap (s13.1 + s8))),(.int .i64 s13.2),a2] R_ fun (_:Unit)=>Rec14 (s13.2,(IntKind.i64.wrap (s13.2 + (IntKind.i64.wrap (2 * s8)))))) ( br (decide ((IntKind.i64.wrap (s13.1 + s8)) < a1)) ( cl Tryz.prog kC [(sv a0),(.int .i64 s13.1),(.int .i64 (IntKind.i64.wrap (s13.1 + s8))),(.int .i64 a1),a2] R_ fun (_:Unit)=>Rec9 (IntKind.i64.wrap (s8 * 2))) ( Rec9 (IntKind.i64.wrap (s8 * 2))))
def dr (a0:Sl) (a1:Int) (a2:Value) (K:Unit→Hp→Prop) (Rec9:Int→Hp→Prop) (s8:Int):Hp→Prop:=br (decide (s8 < a1)) ( Lp (lg a0 a1 a2 Rec9 s8) (0,(IntKind.i64.wrap (2 * s8)))) ( K ())
def fq (a0:Sl) (a1:Int) (a2:Value) (K:Unit→Hp→Prop) (Rec2:(Int × Int)→Hp→Prop) (s1:Int × Int):Hp→Prop:=br (decide (s1.2 ≤ a1)) ( cl Tryz.prog cc [(sv a0),(.int .i64 s1.1),(.int .i64 s1.2),a2] R_ fun (_:Unit)=>Rec2 (s1.2,(IntKind.i64.wrap (s1.2 + 20)))) ( cl Tryz.prog cc [(sv a0),(.int .i64 s1.1),(.int .i64 a1),a2] R_ fun (_:Unit)=>Lp (dr a0 a1 a2 K) 20)
def lh (a0:Sl) (a1:Int) (a2:Value) (K:Unit→Hp→Prop):Hp→Prop:=Lp (fq a0 a1 a2 K) (0,20)
theorem rn (a0:Sl) (a1:Int) (a2:Value) {K:Unit→Hp→Prop} {h:Hp} (H:lh a0 a1 a2 K h):Ct Tryz.prog lE #[(sv a0),(.int .i64 a1),a2] h fun v h'=>∃ r,v = R_ r∧K r h':=aw [(sv a0),(.int .i64 a1),a2] Tryz.func137 c c c fun _=>M<|O c<|M<|J c<|p (ar c)<|O c<|ak<|ax<|bG (step:=fq a0 a1 a2 K) (fun s1=>[(0,(sv a0)),(1,(.int .i64 a1)),(2,a2),(6,(.int .i64 20)),(7,(.int .i64 s1.1)),(8,(.int .i64 s1.2))]) (fun s1=>[]) H (.cons c<|.cons c<|.cons c<|.cons c<|.cons c<|.cons c<|.nil _) .slnil fun Rec2 s1 _ H3=>ak<|M<|J c<|J c<|p (v_le c c)<|ad<|av c H3 (fun k4 H5=>an<|ax<|M<|J c<|J c<|J c<|J c<|aa<|F H5 en_181 fun r18 _ H6=>ad<|M<|J c<|O c<|ap<|J c<|J c<|p (bn c c)<|O c<|cM (s1.2,(IntKind.i64.wrap (s1.2 + 20))) H6 (.cons c<|.cons c<|.cons c<|.cons c<|.cons c<|.cons c<|.nil _) .slnil) fun k4 H5=>bj<|M<|J c<|J c<|J c<|J c<|aa<|F H5 en_181 fun r27 _ H7=>ad<|ax<|bG (step:=dr a0 a1 a2 K) (fun s8=>[(0,(sv a0)),(1,(.int .i64 a1)),(2,a2),(6,(.int .i64 s8))]) (fun s8=>[]) H7 (.cons c<|.cons c<|.cons c<|.cons c<|.nil _) .slnil fun Rec9 s8 _ H10=>ak<|M<|J c<|J c<|p (cq c c)<|ad<|av c H10 (fun k11 H12=>an<|ax<|M<|J c<|p (v_mul c c)<|p (ar c)<|O c<|ak<|ax<|bG (step:=lg a0 a1 a2 Rec9 s8) (fun s13=>[(0,(sv a0)),(1,(.int .i64 a1)),(2,a2),(6,(.int .i64 s8)),(7,(.int .i64 s13.1)),(8,(.int .i64 s13.2))]) (fun s13=>[]) H12 (.cons c<|.cons c<|.cons c<|.cons c<|.cons c<|.cons c<|.nil _) .slnil fun Rec14 s13 _ H15=>ak<|M<|J c<|J c<|p (v_le c c)<|ad<|av c H15 (fun k16 H17=>an<|ax<|M<|J c<|J c<|J c<|J c<|p (bn c c)<|J c<|J c<|aa<|F H17 en_182 fun r43 _ H18=>ad<|M<|J c<|O c<|ap<|J c<|J c<|p (v_mul c c)<|p (bn c c)<|O c<|cM (s13.2,(IntKind.i64.wrap (s13.2 + (IntKind.i64.wrap (2 * s8))))) H18 (.cons c<|.cons c<|.cons c<|.cons c<|.cons c<|.cons c<|.nil _) .slnil) fun k16 H17=>bj<|ak<|M<|J c<|J c<|p (bn c c)<|O c<|M<|J c<|J c<|p (cq c c)<|ad<|av c H17 (fun k19 H20=>ap<|J c<|J c<|J c<|J c<|J c<|aa<|F H20 en_182 fun r60 _ H21=>ad<|ap<|J c<|p (v_mul c c)<|O c<|cM (IntKind.i64.wrap (s8 * 2)) H21 (.cons c<|.cons c<|.cons c<|.cons c<|.nil _) .slnil) fun k19 H20=>an<|ap<|J c<|p (v_mul c c)<|O c<|cM (IntKind.i64.wrap (s8 * 2)) H20 (.cons c<|.cons c<|.cons c<|.cons c<|.nil _) .slnil) fun k11 H12=>bj<|end_i (res_0 c) ⟨(),c,H12⟩
def iY (a0:Sl) (a1:Value) (K:Unit→Hp→Prop):Hp→Prop:=cl Tryz.prog lE [(sv a0),(.int .i64 (a0.len:Int)),a1] R_ fun (_:Unit)=>K ()
theorem oC (a0:Sl) (a1:Value) {K:Unit→Hp→Prop} {h:Hp} (H:iY a0 a1 K h):Ct Tryz.prog fP #[(sv a0),a1] h fun v h'=>∃ r,v = R_ r∧K r h':=aw [(sv a0),a1] Tryz.func94 c c c fun _=>ap<|J c<|J c<|p (dl c Tryz.underlying39 c)<|J c<|aa<|F H en_137 fun r8 _ H1=>ad<|end_i (res_0 c) ⟨(),c,H1⟩
def jZ (a0:Sl) (K:Sl→Hp→Prop):Hp→Prop:=br a0.a.isNone ( K (⟨none,0,0,none⟩:Sl)) ( hpv Tryz.prog (Instr.buildSlice be 0 #[]) cg fun (v5:Sl)=>hpv Tryz.prog (Builtin.append_ #[be,be] be #[(sv v5),(sv a0)]) cg fun (v7:Sl)=>K v7)
theorem qf (a0:Sl) {K:Sl→Hp→Prop} {h:Hp} (H:jZ a0 K h):Ct Tryz.prog gJ #[(sv a0)] h fun v h'=>∃ r,v = cg r∧K r h':=aw [(sv a0)] Tryz.func180 c c c fun _=>M<|O c<|ak<|M<|J c<|p (v_seqT Tryz.underlying93 c)<|ad<|av c H (fun k1 H2=>M<|O c<|ah<|D ⟨(⟨none,0,0,none⟩:Sl),c,H2⟩) fun k1 H2=>an<|M<|aa<|aU H2 (bz (vs:=[]) c) c fun v5 _ H3=>J c<|aa<|aU H3 (dJ c c) c fun v7 _ H4=>O c<|ah<|D ⟨v7,c,H4⟩
end Go.Proofs.YtemoifebbhoinaaGreatDoor
namespace Go.Proofs.YtemoifebbhoinaaGreatDoor
open Go Mb
abbrev vI (s:Sl) (xs:List Int):As:=vec lf 1 (cI .i64) s xs
def ft (a:Int):List Int→Int→Int
  | [],_=>-1
  | x::xs,i=>if a = x then i else ft a xs (i + 1)
theorem sp_slices_Index (s:Sl) (a:Int) (xs:List Int) (hb:xs.length < 2^62) :
    Sp Tryz.prog kq [sv s,.int .i64 a] eJ [vI s xs] (fun r=>pa_ (r = ft a xs 0) [vI s xs]):=by
  intro h st
  refine uR _ _ ?_
  unfold nX
  refine Lp.intro (fun (i:Int) h=>∃ n:Nat,i = n∧n ≤ xs.length∧ft a (xs.drop n) n = ft a xs 0∧aF [vI s xs] h) (fun (i:Int) _=>xs.length - i.toNat) ⟨0,rfl,Nat.zero_le _,by simp,st⟩ ?_
  rintro i h ⟨n,rfl,hn,he,st⟩
  have hl:=(ce st (j:=0) rfl).1
  unfold jF
  refine aY (fun k=>?_) (fun k=>?_)
  · have hlt:n < xs.length:=by simp [hl] at k; exact k
    refine du st (j:=0) rfl (by omega) (by omega) fun q hq=>?_
    refine dU (j:=0) (i:=n) (k:=0) xs[n] (dm _) st rfl hq (by simp) (aD hlt) (by simp) ?_
    have hd:xs.drop n = xs[n]::xs.drop (n + 1):=List.drop_eq_getElem_cons hlt
    rw [hd] at he
    refine aY (fun k2=>?_) (fun k2=>?_)
    · have k2':a = xs[n]:=by simpa using k2
      rw [ft,if_pos k2'] at he
      exact ⟨he,st⟩
    · have k2':¬ a = xs[n]:=by simpa using k2
      rw [ft,if_neg k2'] at he
      have hw:IntKind.i64.wrap ((n:Int) + 1) = ((n + 1:Nat):Int):=by rw [bP (by omega) (by omega)]; rfl
      rw [hw]
      exact ⟨⟨n + 1,rfl,hlt,by simpa using he,st⟩,by simp; omega⟩
  · have:n = xs.length:=by simp [hl] at k; omega
    subst this
    simp only [List.drop_length,ft] at he
    exact ⟨he,st⟩
def gc (x:Ptr) (p:List Int):As:=fun h=>∃ bs:Nat × Sl,(x = some (bs.1,0)∧p.length ≤ 16)∧aF [blk bs.1 qJ [sv bs.2],vI bs.2 p] h
namespace Pool
def refs (p:List Int) (i:Int):Int:=if i < 0 then 0 else p.getD i.toNat 0
def take (p:List Int):Int × Bool × List Int :=
  if ft 0 p 0 < 0 then (0,false,p) else (ft 0 p 0,true,p.set (ft 0 p 0).toNat 1)
def hold (p:List Int) (i:Int):Bool × List Int :=
  if refs p i = 0∨refs p i ≥ 7 then (false,p) else (true,p.set i.toNat (IntKind.i64.wrap (refs p i + 1)))
def lets (p:List Int) (i:Int):Int × Bool × List Int :=
  if refs p i = 0 then (0,false,p) else (IntKind.i64.wrap (refs p i - 1),true,p.set i.toNat (IntKind.i64.wrap (refs p i - 1)))
def freeFrom:List Int→Int→List Int
  | [],_=>[]
  | x::xs,i=>if x = 0 then i::freeFrom xs (i + 1) else freeFrom xs (i + 1)
def free (p:List Int):List Int:=freeFrom p 0
end Pool
theorem idx_lt (a:Int):∀ (xs:List Int) (i:Int),ft a xs i = -1∨∃ n:Nat,n < xs.length∧ft a xs i = i + n
  | [],_=>.inl rfl
  | x::xs,i=>by
    unfold ft
    split
    · exact .inr ⟨0,by simp,by simp⟩
    · rcases idx_lt a xs (i + 1) with h | ⟨n,h1,h2⟩
      · exact .inl h
      · exact .inr ⟨n + 1,by simp; omega,by rw [h2]; omega⟩
theorem pool_op {x:Ptr} {p:List Int} {l:List As} {h:Hp} (s0:aF (gc x p::l) h):∃ b s,x = some (b,0)∧p.length ≤ 16∧s.len = p.length∧aF (blk b qJ [sv s]::vI s p::l) h:=by
  obtain ⟨⟨b,s⟩,⟨hx,hb⟩,st⟩:=op_ s0
  exact ⟨b,s,hx,hb,(ce (j:=1) st rfl).1,st⟩
theorem sj {b:Nat} {s:Sl} {p:List Int} {l:List As} {h:Hp} (hb:p.length ≤ 16) (st:aF (blk b qJ [sv s]::vI s p::l) h):aF (gc (some (b,0)) p::l) h:=cl_ (b,s) ⟨rfl,hb⟩ st
theorem sp_pool_New (n:Int) (h1:¬ n < 1) (h2:¬ n > 16):Sp Tryz.prog xj [.int .i64 n] sC [] (fun r=>aF [gc r (List.replicate n.toNat 0)]):=by
  intro h st
  refine sim_pool_New _ ?_
  unfold sh_pool_New
  obtain ⟨m,rfl⟩:=Int.eq_ofNat_of_zero_le (show 0 ≤ n by omega)
  refine dI (by simp; omega) ?_
  refine ol (τ:=Int) (x0:=0) (enc:=cI .i64) (n:=m) (T:=lf) (m:=1) el_Sint rfl st ?_ ?_ ?_
  · omega
  · omega
  · intro v h' s1
    refine pD s1 fun b h'' s2=>?_
    exact sj (by simp; omega) s2
theorem wE (x:Ptr) (p:List Int) (i:Int):Sp Tryz.prog jI [pv x,.int .i64 i] eJ [gc x p] (fun r=>pa_ (r = Pool.refs p i) [gc x p]):=by
  intro h s0
  obtain ⟨b,s,rfl,hb,hl,st⟩:=pool_op s0
  refine sim_pool_Pool_Refs _ _ ?_
  unfold ue
  refine aY (fun k=>?_) (fun k=>?_)
  · have h0:0 ≤ i:=by simpa using k
    obtain ⟨n,rfl⟩:=Int.eq_ofNat_of_zero_le h0
    refine cE ?_
    refine bp s st (i:=0) rfl rfl rfl ?_
    refine aY (fun k2=>?_) (fun k2=>?_)
    · have:p.length ≤ n:=by rw [hl] at k2; simpa using k2
      exact aZ (by simp [Pool.refs,this]) (sj hb st)
    · have hlt:n < p.length:=by rw [hl] at k2; simpa using k2
      refine bp s st (i:=0) rfl rfl rfl ?_
      refine du st (j:=1) rfl (by omega) (by omega) fun q hq=>?_
      refine dU (j:=1) (i:=n) (k:=0) p[n] (dm _) st rfl hq (by simp) (aD hlt) (by simp) ?_
      refine aZ ?_ (sj hb st)
      have:¬ ((n:Int) < 0):=by omega
      simp [Pool.refs,hlt,this]
  · have h0:i < 0:=by simpa using k
    exact aZ (by simp [Pool.refs,h0]) (sj hb st)
theorem wD (x:Ptr) (p:List Int):Sp Tryz.prog jH [pv x] bQ [gc x p] (fun r=>pa_ (r = ((Pool.take p).1,(Pool.take p).2.1)) [gc x (Pool.take p).2.2]):=by
  intro h s0
  obtain ⟨b,s,rfl,hb,hl,st⟩:=pool_op s0
  refine sim_pool_Pool_Take _ ?_
  unfold ud
  refine dI rfl (cE ?_)
  refine bp s st (i:=0) rfl rfl rfl ?_
  refine cR [1] (sp_slices_Index s 0 p (by omega)) st rfl fun r h' s1=>?_
  obtain ⟨hr,s2⟩:=bu.1 s1
  subst hr
  refine aY (fun k=>?_) (fun k=>?_)
  · have k':ft 0 p 0 < 0:=by simpa using k
    have e:Pool.take p = (0,false,p):=if_pos k'
    rw [e]
    exact aZ rfl (sj hb (bc [1] s2 rfl))
  · have k':¬ ft 0 p 0 < 0:=by simpa using k
    have e0:Pool.take p = (ft 0 p 0,true,p.set (ft 0 p 0).toNat 1):=if_neg k'
    rw [e0]
    rcases idx_lt 0 p 0 with e | ⟨n,h1,e⟩
    · omega
    · rw [Int.zero_add] at e
      refine bp s s2 (i:=1) rfl rfl rfl ?_
      rw [e]
      refine du s2 (j:=0) rfl (by omega) (by omega) fun q hq=>?_
      refine st_v (j:=0) (i:=n) (k:=0) (1:Int) (dm _) s2 rfl hq (by simp) (aD h1) (by simp) rfl fun h2 s3=>?_
      exact aZ rfl (sj (by simpa using hb) (bc [1] s3 rfl))
theorem refs_get {p:List Int} {i:Int} (h:Pool.refs p i ≠ 0):∃ n:Nat,i = n∧∃ hn:n < p.length,Pool.refs p i = p[n]:=by
  unfold Pool.refs at h ⊢
  by_cases h0:i < 0
  · rw [if_pos h0] at h; exact absurd rfl h
  · rw [if_neg h0] at h ⊢
    obtain ⟨n,rfl⟩:=Int.eq_ofNat_of_zero_le (show 0 ≤ i by omega)
    refine ⟨n,rfl,?_⟩
    by_cases hn:n < p.length
    · exact ⟨hn,by simp [hn]⟩
    · simp [List.getD_eq_getElem?_getD,List.getElem?_eq_none (Nat.le_of_not_lt hn)] at h
theorem sp_pool_Hold (x:Ptr) (p:List Int) (i:Int):Sp Tryz.prog mg [pv x,.int .i64 i] aA [gc x p] (fun r=>pa_ (r = (Pool.hold p i).1) [gc x (Pool.hold p i).2]):=by
  intro h s0
  refine sim_pool_Pool_Hold _ _ ?_
  unfold uf
  refine cR [0] (wE x p i) s0 rfl fun r h' s1=>?_
  obtain ⟨hr,s2⟩:=bu.1 s1
  subst hr
  refine aY (fun k=>?_) (fun k=>?_)
  · have k':Pool.refs p i = 0∨Pool.refs p i ≥ 7:=by simpa using k
    have e:Pool.hold p i = (false,p):=if_pos k'
    rw [e]
    exact aZ rfl s2
  · have k':¬ (Pool.refs p i = 0∨Pool.refs p i ≥ 7):=by simpa using k
    have e:Pool.hold p i = (true,p.set i.toNat (IntKind.i64.wrap (Pool.refs p i + 1))):=if_neg k'
    rw [e]
    obtain ⟨n,rfl,hn,hg⟩:=refs_get (p:=p) (i:=i) (by omega)
    obtain ⟨b,s,rfl,hb,hl,st⟩:=pool_op s2
    refine cE ?_
    refine bp s st (i:=0) rfl rfl rfl ?_
    refine du st (j:=1) rfl (by omega) (by omega) fun q hq=>?_
    refine dU (j:=1) (i:=n) (k:=0) p[n] (dm _) st rfl hq (by simp) (aD hn) (by simp) ?_
    refine st_v (j:=1) (i:=n) (k:=0) (IntKind.i64.wrap (p[n] + 1)) (dm _) st rfl hq (by simp) (aD hn) (by simp) rfl fun h2 s3=>?_
    rw [hg]
    exact aZ rfl (sj (by simpa using hb) s3)
theorem sp_pool_Let (x:Ptr) (p:List Int) (i:Int):Sp Tryz.prog nu [pv x,.int .i64 i] bQ [gc x p] (fun r=>pa_ (r = ((Pool.lets p i).1,(Pool.lets p i).2.1)) [gc x (Pool.lets p i).2.2]):=by
  intro h s0
  refine sim_pool_Pool_Let _ _ ?_
  unfold vF
  refine cR [0] (wE x p i) s0 rfl fun r h' s1=>?_
  obtain ⟨hr,s2⟩:=bu.1 s1
  subst hr
  refine aY (fun k=>?_) (fun k=>?_)
  · have k':Pool.refs p i = 0:=by simpa using k
    have e:Pool.lets p i = (0,false,p):=if_pos k'
    rw [e]
    exact aZ rfl s2
  · have k':¬ (Pool.refs p i = 0):=by simpa using k
    have e:Pool.lets p i = (IntKind.i64.wrap (Pool.refs p i - 1),true,p.set i.toNat (IntKind.i64.wrap (Pool.refs p i - 1))):=if_neg k'
    rw [e]
    obtain ⟨n,rfl,hn,hg⟩:=refs_get (p:=p) (i:=i) k'
    obtain ⟨b,s,rfl,hb,hl,st⟩:=pool_op s2
    refine cE ?_
    refine bp s st (i:=0) rfl rfl rfl ?_
    refine du st (j:=1) rfl (by omega) (by omega) fun q hq=>?_
    refine dU (j:=1) (i:=n) (k:=0) p[n] (dm _) st rfl hq (by simp) (aD hn) (by simp) ?_
    refine st_v (j:=1) (i:=n) (k:=0) (IntKind.i64.wrap (p[n] - 1)) (dm _) st rfl hq (by simp) (aD hn) (by simp) rfl fun h2 s3=>?_
    refine bp s s3 (i:=0) rfl rfl rfl ?_
    refine du s3 (j:=1) rfl (by omega) (by simp; omega) fun q2 hq2=>?_
    refine dU (j:=1) (i:=n) (k:=0) (IntKind.i64.wrap (p[n] - 1)) (dm _) s3 rfl hq2 (by simp) (x:=IntKind.i64.wrap (p[n] - 1)) (by simp [hn]) (by simp) ?_
    rw [hg]
    exact aZ rfl (sj (by simpa using hb) s3)
theorem free_append:∀ (xs:List Int) (i:Int) (x:Int),Pool.freeFrom (xs++[x]) i = Pool.freeFrom xs i++(if x = 0 then [i + xs.length] else [])
  | [],i,x=>by simp only [List.nil_append,Pool.freeFrom]; split <;> simp
  | y::xs,i,x=>by
    simp only [List.cons_append,Pool.freeFrom]
    rw [free_append xs (i + 1) x]
    have e:i + 1 + (xs.length:Int) = i + ((y::xs).length:Int):=by simp; omega
    rw [e]
    split <;> simp
theorem free_len:∀ (xs:List Int) (i:Int),(Pool.freeFrom xs i).length ≤ xs.length
  | [],_=>Nat.le_refl _
  | x::xs,i=>by unfold Pool.freeFrom; have:=free_len xs (i + 1); split <;> simp <;> omega
theorem wt {l:List As} {h:Hp} {i:Nat} {s:Sl} {xs:List Int} {x:Int} {K:Sl→Hp→Prop} (st:aF l h) (hi:l[i]? = some (vI s xs)) (hb:xs.length < 2 ^ 40)
    (k:∀ v h',aF (l.set i (vI v (xs++[x]))) h'→K v h'):hpv Tryz.prog (Instr.buildSlice dK 1 #[(0,.int .i64 x)]) cG (fun y=>hpv Tryz.prog (Builtin.append_ #[dK,dK] dK #[sv s,sv y]) cG K) h:=by
  refine fH (τ:=Int) [x] (val:=fun x=>.int .i64 x) (enc:=cI .i64) el_Sint (dm _) (fun _=>rfl) st rfl rfl (by simp) fun y h' s1=>?_
  have hlt:=(List.getElem?_eq_some_iff.1 hi).1
  refine tP (τ:=Int) (i:=i + 1) (j:=0) (enc:=cI .i64) (ys:=[x]) el_Sint el_Sint.sl (dm _) (oneI _) s1 (by simpa using hi) rfl (by omega) (by simp; omega) (by simp; omega) fun v h2 s2=>?_
  exact k v h2 (bZ (l:=[vI y [x]]) (by simpa using s2))
theorem sp_pool_Free (x:Ptr) (p:List Int):Sp Tryz.prog mh [pv x] cG [gc x p] (fun r=>aF [vI r (Pool.free p),gc x p]):=by
  intro h s0
  obtain ⟨b,s,rfl,hb,hl,st⟩:=pool_op s0
  refine sim_pool_Pool_Free _ ?_
  unfold ug
  refine dI rfl (cE ?_)
  refine bp s st (i:=0) rfl rfl rfl ?_
  refine Lp.intro (fun (z:Sl × Int) h=>∃ n:Nat,z.2 = n∧n ≤ p.length∧aF [vI z.1 (Pool.freeFrom (p.take n) 0),blk b qJ [sv s],vI s p] h) (fun (z:Sl × Int) _=>p.length - z.2.toNat) ⟨0,rfl,Nat.zero_le _,fR st⟩ ?_
  rintro ⟨z,i⟩ h ⟨n,rfl,hn,s1⟩
  unfold oU
  refine aY (fun k=>?_) (fun k=>?_)
  · have hlt:n < p.length:=by rw [hl] at k; simpa using k
    have hw:IntKind.i64.wrap ((n:Int) + 1) = ((n + 1:Nat):Int):=by rw [bP (by omega) (by omega)]; rfl
    have ht:p.take (n + 1) = p.take n++[p[n]]:=by simp
    have hlen:((p.take n).length:Int) = n:=by simp; omega
    refine du s1 (j:=2) rfl (by omega) (by show (n:Int) < _; omega) fun q hq=>?_
    refine dU (j:=2) (i:=n) (k:=0) p[n] (dm _) s1 rfl hq (by simp) (aD hlt) (by simp) ?_
    refine aY (fun k2=>?_) (fun k2=>?_)
    · have k2':p[n] = 0:=by simpa using k2
      refine wt s1 (i:=0) rfl ?_ fun v h' s2=>?_
      · have:=free_len (p.take n) 0; simp at this ⊢; omega
      · rw [hw]
        refine ⟨⟨n + 1,rfl,hlt,?_⟩,by simp; omega⟩
        rw [ht,free_append,if_pos k2',hlen,Int.zero_add]
        exact s2
    · have k2':¬ p[n] = 0:=by simpa using k2
      rw [hw]
      refine ⟨⟨n + 1,rfl,hlt,?_⟩,by simp; omega⟩
      rw [ht,free_append,if_neg k2',List.append_nil]
      exact s1
  · have:n = p.length:=by rw [hl] at k; simp at k; omega
    subst this
    rw [List.take_length] at s1
    exact kJ (.cons _ (.refl _)) (bc (l:=[vI z (Pool.freeFrom p 0),gc (some (b,0)) p]) [0] (by
      have:=bc [1,1] s1 rfl
      exact bc [1] (sj hb this) rfl) rfl)
def Pool.bitsOf (w:Int):List Int→Int
  | []=>w
  | i::l=>Pool.bitsOf (ior .u64 w (IntKind.u64.wrap (1 * 2 ^ (min (Int.toNat i) (IntKind.bits .u64))))) l
def Pool.bits (p:List Int):Int:=Pool.bitsOf 0 (Pool.free p)
theorem free_ge:∀ (xs:List Int) (i:Int),0 ≤ i→∀ j ∈ Pool.freeFrom xs i,0 ≤ j
  | [],_,_,_,h=>by cases h
  | x::xs,i,hi,j,h=>by
    unfold Pool.freeFrom at h
    split at h
    · rcases List.mem_cons.1 h with rfl | h
      · exact hi
      · exact free_ge xs (i + 1) (by omega) j h
    · exact free_ge xs (i + 1) (by omega) j h
theorem bits_append (a:Int):∀ (l:List Int) (w:Int),Pool.bitsOf w (l++[a]) = ior .u64 (Pool.bitsOf w l) (IntKind.u64.wrap (1 * 2 ^ (min (Int.toNat a) (IntKind.bits .u64))))
  | [],_=>rfl
  | _::l,w=>by simp only [List.cons_append,Pool.bitsOf]; exact bits_append a l _
theorem sp_pool_Bits (x:Ptr) (p:List Int):Sp Tryz.prog qj [pv x] gU [gc x p] (fun r=>pa_ (r = Pool.bits p) [gc x p]):=by
  intro h s0
  have hp16:p.length ≤ 16:=by obtain ⟨_,_,_,hb,_⟩:=pool_op s0; exact hb
  refine sim_pool_Pool_Bits _ ?_
  unfold uh
  refine cR [0] (sp_pool_Free x p) s0 rfl fun r h1 s1=>?_
  have s2:=dE s1
  have hl:=(ce (j:=0) s2 rfl).1
  have hfl:=free_len p 0
  refine Lp.intro (fun (z:Int × Int) h=>∃ n:Nat,z.2 = n∧n ≤ (Pool.free p).length∧z.1 = Pool.bitsOf 0 ((Pool.free p).take n)∧aF [vI r (Pool.free p),gc x p] h) (fun (z:Int × Int) _=>(Pool.free p).length - z.2.toNat) ⟨0,rfl,Nat.zero_le _,rfl,s2⟩ ?_
  rintro ⟨w,i⟩ h ⟨n,rfl,hn,rfl,s3⟩
  unfold oV
  refine aY (fun k=>?_) (fun k=>?_)
  · have hlt:n < (Pool.free p).length:=by rw [hl] at k; simpa using k
    have hw:IntKind.i64.wrap ((n:Int) + 1) = ((n + 1:Nat):Int):=by
      have:(Pool.free p).length ≤ 16:=by unfold Pool.free; omega
      rw [bP (by omega) (by omega)]; rfl
    refine du s3 (j:=0) rfl (by omega) (by show (n:Int) < _; omega) fun q hq=>?_
    refine dU (j:=0) (i:=n) (k:=0) (Pool.free p)[n] (dm _) s3 rfl hq (by simp) (aD hlt) (by simp) ?_
    refine ⟨free_ge p 0 (Int.le_refl _) _ (List.getElem_mem hlt),?_⟩
    rw [hw]
    refine ⟨⟨n + 1,rfl,hlt,?_,s3⟩,by simp; omega⟩
    have ht:(Pool.free p).take (n + 1) = (Pool.free p).take n++[(Pool.free p)[n]]:=by simp
    rw [ht,bits_append]
  · have:n = (Pool.free p).length:=by rw [hl] at k; simp at k; omega
    subst this
    refine aZ ?_ (bZ (l:=[vI r (Pool.free p)]) s3)
    rw [List.take_length]; rfl
end Go.Proofs.YtemoifebbhoinaaGreatDoor
namespace Go.Proofs.YtemoifebbhoinaaGreatDoor
open Go Mb
set_option linter.unusedVariables false
def sh_table_New (K:Ptr→Hp→Prop):Hp→Prop:=hpv Tryz.prog (Instr.build kI #[]) encL fun (v1:(List Value))=>nw kI v1 fun b2=>K (some (b2,0))
theorem sim_table_New {K:Ptr→Hp→Prop} {h:Hp} (H:sh_table_New K h):Ct Tryz.prog lD #[] h fun v h'=>∃ r,v = iH r∧K r h':=aw [] Tryz.func107 c c c fun _=>M<|O c<|M<|aa<|aU H (x_build (vs:=[]) c) c fun v1 _ H1=>aa<|io c c c H1 fun b2 _ H2=>O c<|ah<|D ⟨some (b2,0),c,H2⟩
def iX (a0:Ptr) (a1:Int) (K:(al × Bool)→Hp→Prop) (s1:Bool):Hp→Prop:=br s1 ( K ((⟨0,0,0⟩:al),false)) ( nn a0 fun q26=>gd (0 ≤ a1∧a1 < 8)<|ld (q26.1,q26.2 + 0 + Int.toNat a1 * 3) al.C fun x29=>K (x29,true))
def uc (a0:Ptr) (a1:Int) (K:(al × Bool)→Hp→Prop):Hp→Prop:=br (!(a0.isNone || (!(bB a1)))) ( nn a0 fun q16=>gd (0 ≤ a1∧a1 < 8)<|ld (q16.1,q16.2 + 0 + Int.toNat a1 * 3 + 2) (cI .i64) fun x20=>iX a0 a1 K (x20 == 0)) ( iX a0 a1 K true)
theorem sim_table_Table_At (a0:Ptr) (a1:Int) {K:(al × Bool)→Hp→Prop} {h:Hp} (H:uc a0 a1 K h):Ct Tryz.prog fd #[(pv a0),(.int .i64 a1)] h fun v h'=>∃ r,v = cF r∧K r h':=aw [(pv a0),(.int .i64 a1)] Tryz.func135 c c c fun _=>M<|aa<|aP (l:=al.C (⟨0,0,0⟩:al)) gg c c fun b4=>O c<|ak<|eG (iX a0 a1 K) (fun s1=>[(0,(pv a0)),(1,(.int .i64 a1)),(4,(.pointer (some ⟨b4,0,none⟩))),(22,(.bool s1))]) (fun s1=>[bx b4 79 (al.C (⟨0,0,0⟩:al))]) (ap<|J c<|p (cr Tryz.underlying161 c)<|J c<|V c c (aG _) (fun g10=>wv<|ag c)<|dc (vs:=[(.int .i64 a1)]) c c c (aG _) (fun g11=>bv<|uL a1 _) en_156 (fun g11=>aT (az c g11) bW) c<|V c c (aG _) (fun g12=>wv<|ct<|az c g12)<|p (cZ c c)<|J c<|V c c (aG _) (fun g13=>wv<|ag c)<|V c c (aG _) (fun g14=>wv<|ag c)<|bT H (fun k16 H17=>bI H17 fun q16 e18 H19=>G (Y<|bN k16)<|z_p (aL<|aK (az c k16)<|aq e18)<|G (Y<|bN k16)<|z_p (ae kL c)<|hH H19 fun h20 H21=>G (Y<|bN k16)<|z_p (bw xI c (az c k16) h20)<|G (Y<|bN k16)<|z_p (ae eR c)<|G (Y<|bN k16)<|aW H21 aS c (fun _=>c) c fun x20 H22=>G (Y<|bN k16)<|z_p (bH c c)<|p (ao c (bN k16) c)<|ad<|cz (x20 == 0) H22 (.cons c<|.cons c<|.cons c<|.cons c<|.nil _)<|.cons_cons _ .slnil) fun k16 H17=>W (bb<|bo k16)<|W (bb<|bo k16)<|W (bb<|bo k16)<|W (bb<|bo k16)<|W (bb<|bo k16)<|W (bb<|bo k16)<|p (aI c (bo k16) c)<|ad<|cz true H17 (.cons c<|.cons c<|.cons c<|.cons c<|.nil _)<|.cons_cons _ .slnil) fun s1 _ H2=>av c H2 (fun k3 H4=>M<|p (bd (vs:=[]) c np)<|aa<|aR (k:=0) (vs:=al.C (⟨0,0,0⟩:al)) dW c c c c c c c<|O c<|ah<|bA (bV c (bF (k:=0) c fM c c)<|cf c) ⟨((⟨0,0,0⟩:al),false),c,H4⟩) fun k3 H4=>an<|M<|J c<|J c<|bI H4 fun q26 e5 H6=>p (aL<|aK c<|aq e5)<|p (ae kL c)<|hH H6 fun h7 H8=>p (bw xI c c h7)<|aa<|gI H8 fM c (fun _=>c) c fun x29 H9=>aa<|aR (k:=0) (vs:=al.C x29) dW c c c c c c c<|O c<|ah<|bA (bV c (bF (k:=0) c fM c c)<|cf c) ⟨(x29,true),c,H9⟩
def pG (a0:Ptr) (a1:Int) (a2:al) (K:Int→Hp→Prop):Hp→Prop:=br a0.isNone ( K 10) ( br (((!(fW a2).2) || (a2.fRights == 0)) || (!(bB a1))) ( K 2) ( nn a0 fun q30=>gd (0 ≤ a1∧a1 < 8)<|ld (q30.1,q30.2 + 0 + Int.toNat a1 * 3 + 2) (cI .i64) fun x34=>br (x34 != 0) ( K 4) ( st (q30.1,q30.2 + 0 + Int.toNat a1 * 3) (al.C a2)<|K 0)))
theorem wJ (a0:Ptr) (a1:Int) (a2:al) {K:Int→Hp→Prop} {h:Hp} (H:pG a0 a1 a2 K h):Ct Tryz.prog eD #[(pv a0),(.int .i64 a1),(.agg (al.C a2).toArray)] h fun v h'=>∃ r,v = bi r∧K r h':=aw [(pv a0),(.int .i64 a1),(.agg (al.C a2).toArray)] Tryz.func112 c c c fun _=>M<|aa<|cA (l:=al.C a2) c c c fun b5=>O c<|ak<|M<|J c<|p (cr Tryz.underlying161 c)<|ad<|av c H (fun k1 H2=>M<|O c<|ah<|D ⟨10,c,H2⟩) fun k1 H2=>an<|ak<|M<|bf (bE (k:=0) fM c c c c) c<|aa<|cK (vs:=[(.agg (al.C a2).toArray)]) (bv<|ct_pte_Put a2 _) en_155 c c<|J c<|p (aj c c)<|p (aj c c)<|p (ar c)<|O c<|M<|J c<|p (ct c)<|J c<|V c c (aG _) (fun g3=>wv<|ae eR c)<|V c c (aG _) (fun g4=>cv<|ba (k:=0) aS (az c g4) c c)<|V c c (aG _) (fun g5=>wv<|bH (az c g5) c)<|p (cZ c c)<|J c<|V c c (aG _) (fun g6=>wv<|ag c)<|dc (vs:=[(.int .i64 a1)]) c c c (aG _) (fun g7=>bv<|uL a1 _) en_156 (fun g7=>aT (az c g7) bW) c<|V c c (aG _) (fun g8=>wv<|ct<|az c g8)<|p (cZ c c)<|ad<|av c H2 (fun k9 H10=>M<|O c<|ah<|D ⟨2,c,H10⟩) fun k9 H10=>an<|ak<|M<|J c<|J c<|bI H10 fun q30 e11 H12=>p (aL<|aK c<|aq e11)<|p (ae kL c)<|hH H12 fun h13 H14=>p (bw xI c c h13)<|p (ae eR c)<|aa<|aW H14 aS c (fun _=>c) c fun x34 H15=>p (qH c c)<|ad<|av c H15 (fun k16 H17=>M<|O c<|ah<|D ⟨4,c,H17⟩) fun k16 H17=>an<|ak<|bm (n:=7) [bx b5 79 (al.C a2)] cn c (.cons_cons _ .slnil)<|U 0 c (ag<|aK c<|aq e11)<|U 1 c (ag c)<|z_E 2 c (eA (k:=0) fM c c c c)<|U 3 c (aL c)<|U 4 c (ae kL c)<|U 5 c (bw xI c c h13)<|R 6 c<|dh dW c c c c c H17 fun _ H18=>⟨.cons_cons _ .slnil,aO (by kernel_rfl)<|M<|O c<|ah<|D ⟨0,c,H18⟩⟩
def pF (a0:Ptr) (a1:Int) (K:(al × Int)→Hp→Prop):Hp→Prop:=br a0.isNone ( K ((⟨0,0,0⟩:al),10)) ( br (!(bB a1)) ( K ((⟨0,0,0⟩:al),2)) ( nn a0 fun q19=>gd (0 ≤ a1∧a1 < 8)<|ld (q19.1,q19.2 + 0 + Int.toNat a1 * 3 + 2) (cI .i64) fun x23=>br (x23 == 0) ( K ((⟨0,0,0⟩:al),3)) ( ld (q19.1,q19.2 + 0 + Int.toNat a1 * 3) al.C fun x31=>st (q19.1,q19.2 + 0 + Int.toNat a1 * 3) (al.C (⟨0,0,0⟩:al))<|K (x31,0))))
theorem wI (a0:Ptr) (a1:Int) {K:(al × Int)→Hp→Prop} {h:Hp} (H:pF a0 a1 K h):Ct Tryz.prog jh #[(pv a0),(.int .i64 a1)] h fun v h'=>∃ r,v = jD r∧K r h':=aw [(pv a0),(.int .i64 a1)] Tryz.func128 c c c fun _=>M<|aa<|aP (l:=al.C (⟨0,0,0⟩:al)) gg c c fun b4=>O c<|ak<|ax<|M<|J c<|p (cr Tryz.underlying161 c)<|O c<|av c H (fun k1 H2=>M<|p (bd (vs:=[]) c np)<|aa<|aR (k:=0) (vs:=al.C (⟨0,0,0⟩:al)) dW c c c c c c c<|O c<|ah<|bA (bV c (bF (k:=0) c fM c c)<|cf c) ⟨((⟨0,0,0⟩:al),10),c,H2⟩) fun k1 H2=>M<|J c<|aa<|cK (vs:=[(.int .i64 a1)]) (bv<|uL a1 _) en_156 c c<|p (ct c)<|O c<|av c H2 (fun k3 H4=>M<|p (bd (vs:=[]) c np)<|aa<|aR (k:=0) (vs:=al.C (⟨0,0,0⟩:al)) dW c c c c c c c<|O c<|ah<|bA (bV c (bF (k:=0) c fM c c)<|cf c) ⟨((⟨0,0,0⟩:al),2),c,H4⟩) fun k3 H4=>M<|J c<|J c<|bI H4 fun q19 e5 H6=>p (aL<|aK c<|aq e5)<|p (ae kL c)<|hH H6 fun h7 H8=>p (bw xI c c h7)<|p (ae eR c)<|aa<|aW H8 aS c (fun _=>c) c fun x23 H9=>p (bH c c)<|O c<|av c H9 (fun k10 H11=>M<|p (bd (vs:=[]) c np)<|aa<|aR (k:=0) (vs:=al.C (⟨0,0,0⟩:al)) dW c c c c c c c<|O c<|ah<|bA (bV c (bF (k:=0) c fM c c)<|cf c) ⟨((⟨0,0,0⟩:al),3),c,H11⟩) fun k10 H11=>an<|M<|J (aK c<|aq e5)<|J c<|p (aL c)<|p (ae kL c)<|p (bw xI c c h7)<|aa<|gI H11 fM c (fun _=>c) c fun x31 H12=>aa<|aP (l:=al.C (⟨0,0,0⟩:al)) gg c c fun b6=>aa<|aR (k:=0) (vs:=al.C x31) dW c c c c c c c<|ad<|M<|J (aK c<|aq e5)<|J c<|p (bd (vs:=[]) c np)<|p (aL c)<|p (ae kL c)<|p (bw xI c c h7)<|aa<|dh dW c c c c c H12 fun _ H13=>ad<|M<|bf (bE (k:=0) fM c c c c) c<|aa<|aR (k:=1) (vs:=al.C x31) dW c c c c c c c<|O c<|ah<|bA (bV c (bF (k:=1) c fM c c)<|cf c) ⟨(x31,0),c,H13⟩
def oE (a1:Int) (K:Sl→Hp→Prop) (v13:(List Value)) (Rec8:(Sl × Int)→Hp→Prop) (s7:Sl × Int):Hp→Prop:=br (decide (s7.2 < 8)) ( hpv Tryz.prog (Instr.index tZ (.agg v13.toArray) (.int .i64 s7.2)) wu fun (v17:al)=>br ((v17.fRights != 0) && (v17.fSlot == a1)) ( hpv Tryz.prog (Instr.buildSlice dK 1 #[(0,(.int .i64 s7.2))]) cG fun (v29:Sl)=>hpv Tryz.prog (Builtin.append_ #[dK,dK] dK #[(sv s7.1),(sv v29)]) cG fun (v30:Sl)=>Rec8 (v30,(IntKind.i64.wrap (s7.2 + 1)))) ( Rec8 (s7.1,(IntKind.i64.wrap (s7.2 + 1))))) ( K s7.1)
def ub (a0:Ptr) (a1:Int) (K:Sl→Hp→Prop):Hp→Prop:=br a0.isNone ( K (⟨none,0,0,none⟩:Sl)) ( nn a0 fun q11=>hpv Tryz.prog (Instr.loadAt tZ (.pointer (some ⟨q11.1,q11.2 + 0,none⟩))) encL fun (v13:(List Value))=>Lp (oE a1 K v13) ((⟨none,0,0,none⟩:Sl),0))
theorem sim_table_Table_By (a0:Ptr) (a1:Int) {K:Sl→Hp→Prop} {h:Hp} (H:ub a0 a1 K h):Ct Tryz.prog mf #[(pv a0),(.int .i64 a1)] h fun v h'=>∃ r,v = cG r∧K r h':=aw [(pv a0),(.int .i64 a1)] Tryz.func176 c c c fun _=>M<|O c<|ak<|M<|J c<|p (cr Tryz.underlying161 c)<|ad<|av c H (fun k1 H2=>M<|O c<|ah<|D ⟨(⟨none,0,0,none⟩:Sl),c,H2⟩) fun k1 H2=>an<|M<|O c<|ak<|M<|J c<|bI H2 fun q11 e3 H4=>p (aL<|aK c<|aq e3)<|p (ae kL c)<|aa<|aU H4 (x_load c) c fun v13 _ H6=>J c<|ad<|ax<|bG (step:=oE a1 K v13) (fun s7=>[(1,(.int .i64 a1)),(5,(sv s7.1)),(13,(.agg v13.toArray)),(14,(.int .i64 s7.2))]) (fun s7=>[]) H6 (.cons c<|.cons c<|.cons c<|.cons c<|.nil _) .slnil fun Rec8 s7 _ H9=>M<|p (cq c c)<|ad<|ak<|av c H9 (fun k10 H11=>an<|ak<|ax<|M<|J c<|aa<|aU H11 (x_index c c) c fun v17 _ H12=>aa<|aP (l:=al.C (⟨0,0,0⟩:al)) gg c c fun b7=>p (ar c)<|aa<|aR (k:=0) (vs:=al.C v17) dW c c c c c c c<|ad<|M<|p (ae eR c)<|bf (ba (k:=0) aS c c c) c<|p (qH c c)<|J c<|V c c (ay _) (fun g13=>wv<|ae tC c)<|V c c (ay _) (fun g14=>cv<|ba (k:=0) aS (az c g14) c c)<|V c c (ay _) (fun g15=>wv<|ag c)<|V c c (ay _) (fun g16=>wv<|bH (az c g16)<|az c g16)<|p (bO c c)<|ad<|av c H12 (fun k17 H18=>ap<|J c<|J c<|aa<|aU H18 (bz (vs:=[(.int .i64 s7.2)]) c) c fun v29 _ H19=>aa<|aU H19 (dJ c c) c fun v30 _ H20=>O c<|ap<|p (bn c c)<|J c<|ad<|cM (v30,(IntKind.i64.wrap (s7.2 + 1))) H20 (.cons c<|.cons c<|.cons c<|.cons c<|.nil _)<|.cons _ .slnil) fun k17 H18=>an<|ap<|p (bn c c)<|J c<|ad<|cM (s7.1,(IntKind.i64.wrap (s7.2 + 1))) H18 (.cons c<|.cons c<|.cons c<|.cons c<|.nil _)<|.cons _ .slnil) fun k10 H11=>bj<|M<|J c<|O c<|ah<|D ⟨s7.1,c,H11⟩
def oK (a0:Ptr) (a1:Int) (a2:Int) (K:Int→Hp→Prop):Hp→Prop:=br a0.isNone ( K 10) ( br ((!(bB a1)) || (!(ch a2))) ( K 2) ( nn a0 fun q22=>gd (0 ≤ a1∧a1 < 8)<|ld (q22.1,q22.2 + 0 + Int.toNat a1 * 3 + 2) (cI .i64) fun x26=>br (x26 == 0) ( K 3) ( st (q22.1,q22.2 + 0 + Int.toNat a1 * 3 + 2) [.int .i64 a2]<|K 0)))
theorem vr (a0:Ptr) (a1:Int) (a2:Int) {K:Int→Hp→Prop} {h:Hp} (H:oK a0 a1 a2 K h):Ct Tryz.prog kQ #[(pv a0),(.int .i64 a1),(.int .i64 a2)] h fun v h'=>∃ r,v = bi r∧K r h':=aw [(pv a0),(.int .i64 a1),(.int .i64 a2)] Tryz.func178 c c c fun _=>M<|O c<|ak<|ax<|M<|J c<|p (cr Tryz.underlying161 c)<|O c<|av c H (fun k1 H2=>M<|O c<|ah<|D ⟨10,c,H2⟩) fun k1 H2=>M<|J c<|aa<|cK (vs:=[(.int .i64 a1)]) (bv<|uL a1 _) en_156 c c<|p (ct c)<|J c<|V c c (aG _) (fun g3=>wv<|ag c)<|dc (vs:=[(.int .i64 a2)]) c c c (aG _) (fun g4=>bv<|qu a2 _) en_166 (fun g4=>aT (az c g4) bW) c<|V c c (aG _) (fun g5=>wv<|ct<|az c g5)<|p (cZ c c)<|O c<|av c H2 (fun k6 H7=>M<|O c<|ah<|D ⟨2,c,H7⟩) fun k6 H7=>M<|J c<|J c<|bI H7 fun q22 e8 H9=>p (aL<|aK c<|aq e8)<|p (ae kL c)<|hH H9 fun h10 H11=>p (bw xI c c h10)<|p (ae eR c)<|aa<|aW H11 aS c (fun _=>c) c fun x26 H12=>p (bH c c)<|O c<|av c H12 (fun k13 H14=>M<|O c<|ah<|D ⟨3,c,H14⟩) fun k13 H14=>an<|M<|J (aK c<|aq e8)<|J c<|J c<|p (aL c)<|p (ae kL c)<|p (bw xI c c h10)<|p (ae eR c)<|aa<|dh lP c c c c c H14 fun _ H15=>ad<|M<|O c<|ah<|D ⟨0,c,H15⟩
end Go.Proofs.YtemoifebbhoinaaGreatDoor
namespace Go.Proofs.YtemoifebbhoinaaGreatDoor
open Go Mb
abbrev Pte:=al
theorem jA (p:Pte):p.C.length = 3:=rfl
abbrev dp:Pte:=⟨0,0,0⟩
def cY (x:Ptr) (ps:List Pte):As:=fun h=>∃ b:Nat,(x = some (b,0)∧ps.length = 8)∧aF [blk b kI ([]++(ps.flatMap al.C++[]))] h
theorem table_op {x:Ptr} {ps:List Pte} {l:List As} {h:Hp} (s0:aF (cY x ps::l) h):∃ b,x = some (b,0)∧ps.length = 8∧aF (blk b kI ([]++(ps.flatMap al.C++[]))::l) h:=by
  obtain ⟨b,⟨hx,hb⟩,st⟩:=op_ s0
  exact ⟨b,hx,hb,st⟩
theorem iW {b:Nat} {ps:List Pte} {l:List As} {h:Hp} (hb:ps.length = 8) (st:aF (blk b kI ([]++(ps.flatMap al.C++[]))::l) h):aF (cY (some (b,0)) ps::l) h:=cl_ b ⟨rfl,hb⟩ st
namespace Table
def at_ (ps:List Pte) (i:Int):Pte:=ps.getD i.toNat dp
def get (ps:List Pte) (i:Int):Pte × Bool:=if bB i = true∧(at_ ps i).fRights ≠ 0 then (at_ ps i,true) else (dp,false)
def insert (ps:List Pte) (i:Int) (p:Pte):Int × List Pte :=
  if (fW p).2 = false∨p.fRights = 0∨bB i = false then (2,ps) else if (at_ ps i).fRights ≠ 0 then (4,ps) else (0,ps.set i.toNat p)
def protect (ps:List Pte) (i r:Int):Int × List Pte :=
  if bB i = false∨ch r = false then (2,ps) else if (at_ ps i).fRights = 0 then (3,ps) else (0,ps.set i.toNat { at_ ps i with fRights:=r })
def remove (ps:List Pte) (i:Int):(Pte × Int) × List Pte :=
  if bB i = false then ((dp,2),ps) else if (at_ ps i).fRights = 0 then ((dp,3),ps) else ((at_ ps i,0),ps.set i.toNat dp)
def byFrom (s:Int):List Pte→Int→List Int
  | [],_=>[]
  | p::ps,i=>if p.fRights ≠ 0∧p.fSlot = s then i::byFrom s ps (i + 1) else byFrom s ps (i + 1)
def by_ (ps:List Pte) (s:Int):List Int:=byFrom s ps 0
end Table
theorem oD {i:Int} (h:bB i = true):∃ n:Nat,i = n∧n < 8:=by
  unfold bB at h
  simp at h
  exact ⟨i.toNat,by omega,by omega⟩
theorem table_new_run (K:Value→Hp→Prop) (h:Hp):hp Tryz.prog (Instr.build kI #[]) K h = K (.agg ((List.replicate 8 dp).flatMap al.C).toArray) h:=by kernel_rfl
theorem oG:Sp Tryz.prog lD [] iH [] (fun r=>aF [cY r (List.replicate 8 dp)]):=by
  intro h st
  refine sim_table_New ?_
  unfold sh_table_New
  refine ⟨?_⟩
  rw [table_new_run]
  refine ⟨_,rfl,?_⟩
  refine pD st fun b h' s1=>?_
  exact iW rfl s1
theorem kB (x:Ptr) (ps:List Pte) (i:Int) (p:Pte):Sp Tryz.prog eD [pv x,.int .i64 i,.agg p.C.toArray] bi [cY x ps] (fun r=>pa_ (r = (Table.insert ps i p).1) [cY x (Table.insert ps i p).2]):=by
  intro h s0
  obtain ⟨b,rfl,hb,st⟩:=table_op s0
  refine wJ _ _ _ ?_
  unfold pG
  refine dI rfl ?_
  refine aY (fun k=>?_) (fun k=>?_)
  · have k':(fW p).2 = false∨p.fRights = 0∨bB i = false:=by simpa [or_assoc] using k
    have e:Table.insert ps i p = (2,ps):=if_pos k'
    rw [e]
    exact aZ rfl (iW hb st)
  · have k':¬ ((fW p).2 = false∨p.fRights = 0∨bB i = false):=by simp at k; simp [k]
    obtain ⟨n,rfl,hn⟩:=oD (i:=i) (by simp at k'; exact k'.2.2)
    have hn':n < ps.length:=by omega
    have hat:Table.at_ ps n = ps[n]:=by simp [Table.at_,hn']
    refine cE ⟨⟨by omega,by omega⟩,?_⟩
    refine ld_a (j:=0) (i:=n) (k:=2) ps[n].fRights jA st rfl (by simp) (aD hn') (c1 rfl rfl) ?_
    refine aY (fun k2=>?_) (fun k2=>?_)
    · have k2':(Table.at_ ps n).fRights ≠ 0:=by rw [hat]; simpa using k2
      have e:Table.insert ps n p = (4,ps):=by unfold Table.insert; rw [if_neg k',if_pos k2']
      rw [e]
      exact aZ rfl (iW hb st)
    · have k2':¬ (Table.at_ ps n).fRights ≠ 0:=by rw [hat]; simpa using k2
      have e:Table.insert ps n p = (0,ps.set n p):=by unfold Table.insert; rw [if_neg k',if_neg k2']; rfl
      rw [e]
      refine st_a (j:=0) (i:=n) (k:=0) p jA st rfl (by simp) (aD hn') (by simp [jA]) rfl fun h2 s2=>?_
      exact aZ rfl (iW (by simpa using hb) s2)
theorem sp_table_Protect (x:Ptr) (ps:List Pte) (i r:Int):Sp Tryz.prog kQ [pv x,.int .i64 i,.int .i64 r] bi [cY x ps] (fun v=>pa_ (v = (Table.protect ps i r).1) [cY x (Table.protect ps i r).2]):=by
  intro h s0
  obtain ⟨b,rfl,hb,st⟩:=table_op s0
  refine vr _ _ _ ?_
  unfold oK
  refine dI rfl ?_
  refine aY (fun k=>?_) (fun k=>?_)
  · have k':bB i = false∨ch r = false:=by simpa using k
    have e:Table.protect ps i r = (2,ps):=if_pos k'
    rw [e]
    exact aZ rfl (iW hb st)
  · have k':¬ (bB i = false∨ch r = false):=by simp at k; simp [k]
    obtain ⟨n,rfl,hn⟩:=oD (i:=i) (by simp at k'; exact k'.1)
    have hn':n < ps.length:=by omega
    have hat:Table.at_ ps n = ps[n]:=by simp [Table.at_,hn']
    refine cE ⟨⟨by omega,by omega⟩,?_⟩
    refine ld_a (j:=0) (i:=n) (k:=2) ps[n].fRights jA st rfl (by simp) (aD hn') (c1 rfl rfl) ?_
    refine aY (fun k2=>?_) (fun k2=>?_)
    · have k2':(Table.at_ ps n).fRights = 0:=by rw [hat]; simpa using k2
      have e:Table.protect ps n r = (3,ps):=by unfold Table.protect; rw [if_neg k',if_pos k2']
      rw [e]
      exact aZ rfl (iW hb st)
    · have k2':¬ (Table.at_ ps n).fRights = 0:=by rw [hat]; simpa using k2
      have e:Table.protect ps n r = (0,ps.set n { ps[n] with fRights:=r }):=by unfold Table.protect; rw [if_neg k',if_neg k2',hat]; rfl
      rw [e]
      refine st_a (j:=0) (i:=n) (k:=2) { ps[n] with fRights:=r } jA st rfl (by simp) (aD hn') (by simp) rfl fun h2 s2=>?_
      exact aZ rfl (iW (by simpa using hb) s2)
theorem sp_table_Remove (x:Ptr) (ps:List Pte) (i:Int):Sp Tryz.prog jh [pv x,.int .i64 i] jD [cY x ps] (fun v=>pa_ (v = (Table.remove ps i).1) [cY x (Table.remove ps i).2]):=by
  intro h s0
  obtain ⟨b,rfl,hb,st⟩:=table_op s0
  refine wI _ _ ?_
  unfold pF
  refine dI rfl ?_
  refine aY (fun k=>?_) (fun k=>?_)
  · have k':bB i = false:=by simpa using k
    have e:Table.remove ps i = ((dp,2),ps):=if_pos k'
    rw [e]
    exact aZ rfl (iW hb st)
  · have k':¬ (bB i = false):=by simp at k; simp [k]
    obtain ⟨n,rfl,hn⟩:=oD (i:=i) (by simp at k'; exact k')
    have hn':n < ps.length:=by omega
    have hat:Table.at_ ps n = ps[n]:=by simp [Table.at_,hn']
    refine cE ⟨⟨by omega,by omega⟩,?_⟩
    refine ld_a (j:=0) (i:=n) (k:=2) ps[n].fRights jA st rfl (by simp) (aD hn') (c1 rfl rfl) ?_
    refine aY (fun k2=>?_) (fun k2=>?_)
    · have k2':(Table.at_ ps n).fRights = 0:=by rw [hat]; simpa using k2
      have e:Table.remove ps n = ((dp,3),ps):=by unfold Table.remove; rw [if_neg k',if_pos k2']
      rw [e]
      exact aZ rfl (iW hb st)
    · have k2':¬ (Table.at_ ps n).fRights = 0:=by rw [hat]; simpa using k2
      have e:Table.remove ps n = ((ps[n],0),ps.set n dp):=by unfold Table.remove; rw [if_neg k',if_neg k2',hat]; rfl
      rw [e]
      refine ld_a (j:=0) (i:=n) (k:=0) ps[n] jA st rfl (by simp) (aD hn') (by simp) ?_
      refine st_a (j:=0) (i:=n) (k:=0) dp jA st rfl (by simp) (aD hn') (by simp [jA]) rfl fun h2 s2=>?_
      exact aZ rfl (iW (by simpa using hb) s2)
theorem nW (x:Ptr) (ps:List Pte) (i:Int):Sp Tryz.prog fd [pv x,.int .i64 i] cF [cY x ps] (fun v=>pa_ (v = Table.get ps i) [cY x ps]):=by
  intro h s0
  obtain ⟨b,rfl,hb,st⟩:=table_op s0
  refine sim_table_Table_At _ _ ?_
  unfold uc
  refine aY (fun k=>?_) (fun k=>?_)
  · have k':bB i = true:=by simpa using k
    obtain ⟨n,rfl,hn⟩:=oD k'
    have hn':n < ps.length:=by omega
    have hat:Table.at_ ps n = ps[n]:=by simp [Table.at_,hn']
    refine cE ⟨⟨by omega,by omega⟩,?_⟩
    refine ld_a (j:=0) (i:=n) (k:=2) ps[n].fRights jA st rfl (by simp) (aD hn') (c1 rfl rfl) ?_
    unfold iX
    refine aY (fun k2=>?_) (fun k2=>?_)
    · have k2':(Table.at_ ps n).fRights = 0:=by rw [hat]; simpa using k2
      have e:Table.get ps n = (dp,false):=if_neg (fun hh=>hh.2 k2')
      rw [e]
      exact aZ rfl (iW hb st)
    · have k2':¬ (Table.at_ ps n).fRights = 0:=by rw [hat]; simpa using k2
      have e:Table.get ps n = (ps[n],true):=by unfold Table.get; rw [if_pos ⟨k',k2'⟩,hat]
      rw [e]
      refine cE ⟨⟨by omega,by omega⟩,?_⟩
      refine ld_a (j:=0) (i:=n) (k:=0) ps[n] jA st rfl (by simp) (aD hn') (by simp) ?_
      exact aZ rfl (iW hb st)
  · have k':¬ bB i = true:=by simpa using k
    have e:Table.get ps i = (dp,false):=if_neg (fun hh=>k' hh.1)
    rw [e]
    unfold iX
    exact dZ rfl (aZ rfl (iW hb st))
theorem by_append (s:Int):∀ (ps:List Pte) (i:Int) (p:Pte),Table.byFrom s (ps++[p]) i = Table.byFrom s ps i++(if p.fRights ≠ 0∧p.fSlot = s then [i + ps.length] else [])
  | [],i,p=>by simp only [List.nil_append,Table.byFrom]; split <;> simp
  | y::ps,i,p=>by
    simp only [List.cons_append,Table.byFrom]
    rw [by_append s ps (i + 1) p]
    have e:i + 1 + (ps.length:Int) = i + ((y::ps).length:Int):=by simp; omega
    rw [e]
    split <;> simp
theorem by_len (s:Int):∀ (ps:List Pte) (i:Int),(Table.byFrom s ps i).length ≤ ps.length
  | [],_=>Nat.le_refl _
  | p::ps,i=>by unfold Table.byFrom; have:=by_len s ps (i + 1); split <;> simp <;> omega
theorem sp_table_By (x:Ptr) (ps:List Pte) (s:Int):Sp Tryz.prog mf [pv x,.int .i64 s] cG [cY x ps] (fun r=>aF [vI r (Table.by_ ps s),cY x ps]):=by
  intro h s0
  obtain ⟨b,rfl,hb,st⟩:=table_op s0
  refine sim_table_Table_By _ _ ?_
  unfold ub
  refine dI rfl (cE ?_)
  obtain ⟨h1,a,sub⟩:=dX (i:=0) rfl st
  have hfl:(ps.flatMap al.C).length = 24:=by rw [dR jA,hb]
  refine loadAt_v (r:=ps.flatMap al.C) (cs:=ps.flatMap al.C) agn_8_api_Pte ⟨_,_,_,sub _ _ a,fun i v hv=>by simpa using hv⟩ hfl rfl ?_
  refine Lp.intro (fun (z:Sl × Int) h=>∃ n:Nat,z.2 = n∧n ≤ 8∧aF [vI z.1 (Table.byFrom s (ps.take n) 0),cY (some (b,0)) ps] h) (fun (z:Sl × Int) _=>8 - z.2.toNat) ⟨0,rfl,Nat.zero_le _,fR (iW hb st)⟩ ?_
  rintro ⟨z,i⟩ h ⟨n,rfl,hn,s1⟩
  unfold oE
  refine aY (fun k=>?_) (fun k=>?_)
  · have hlt:n < 8:=by have:=of_decide_eq_true k; omega
    have hn':n < ps.length:=by omega
    have hw:IntKind.i64.wrap ((n:Int) + 1) = ((n + 1:Nat):Int):=by rw [bP (by omega) (by omega)]; rfl
    have ht:ps.take (n + 1) = ps.take n++[ps[n]]:=by simp
    have hlen:((ps.take n).length:Int) = n:=by simp; omega
    refine index_v (enc:=al.C) (m:=3) arn_8_api_Pte age_8_api_Pte jA (fun _=>rfl) hb (aD hn') ?_
    refine aY (fun k2=>?_) (fun k2=>?_)
    · have k2':ps[n].fRights ≠ 0∧ps[n].fSlot = s:=by simpa using k2
      refine wt s1 (i:=0) rfl ?_ fun v h' s2=>?_
      · have:=by_len s (ps.take n) 0; simp at this ⊢; omega
      · rw [hw]
        refine ⟨⟨n + 1,rfl,hlt,?_⟩,by simp; omega⟩
        rw [ht,by_append,if_pos k2',hlen,Int.zero_add]
        exact s2
    · have k2':¬ (ps[n].fRights ≠ 0∧ps[n].fSlot = s):=by simpa using k2
      rw [hw]
      refine ⟨⟨n + 1,rfl,hlt,?_⟩,by simp; omega⟩
      rw [ht,by_append,if_neg k2',List.append_nil]
      exact s1
  · have:n = 8:=by have:=of_decide_eq_false k; omega
    subst this
    rw [show ps.take 8 = ps from by rw [← hb]; exact List.take_length] at s1
    exact s1
end Go.Proofs.YtemoifebbhoinaaGreatDoor
namespace Go.Proofs.YtemoifebbhoinaaGreatDoor
open Go
namespace Mb
def vZ {σ α:Type} (A:σ→α→As):List σ→List α→List As
  | p::ps,x::xs=>A p x::vZ A ps xs
  | _,_=>[]
section
variable {σ α:Type} {A:σ→α→As}
theorem objs_get:∀ {ps:List σ} {xs:List α} {i:Nat} {p:σ} {x:α},ps[i]? = some p→xs[i]? = some x→(vZ A ps xs)[i]? = some (A p x)
  | [],_,_,_,_,h,_=>by simp at h
  | _::_,[],_,_,_,_,h=>by simp at h
  | p::ps,x::xs,0,_,_,h1,h2=>by simp at h1 h2; subst h1; subst h2; rfl
  | p::ps,x::xs,i + 1,_,_,h1,h2=>by simpa [vZ] using objs_get (ps:=ps) (xs:=xs) (i:=i) (by simpa using h1) (by simpa using h2)
theorem objs_set:∀ {ps:List σ} {xs:List α} {i:Nat} {p:σ} {x:α},ps[i]? = some p→(vZ A ps xs).set i (A p x) = vZ A ps (xs.set i x)
  | [],_,_,_,_,h=>by simp at h
  | p::ps,[],i,_,_,_=>by simp [vZ]
  | p::ps,y::xs,0,_,_,h=>by simp at h; subst h; rfl
  | p::ps,y::xs,i + 1,_,_,h=>by simp only [vZ,List.set_cons_succ]; rw [objs_set (ps:=ps) (xs:=xs) (i:=i) (by simpa using h)]
theorem objs_set2:∀ {ps:List σ} {xs:List α} {i:Nat} {p:σ} {x:α},i < xs.length→(vZ A ps xs).set i (A p x) = vZ A (ps.set i p) (xs.set i x)
  | [],_,_,_,_,_=>by simp [vZ]
  | p::ps,[],i,_,_,h=>by simp at h
  | p::ps,y::xs,0,_,_,_=>rfl
  | p::ps,y::xs,i + 1,_,_,h=>by simp only [vZ,List.set_cons_succ]; rw [objs_set2 (ps:=ps) (xs:=xs) (i:=i) (by simpa using h)]
theorem objs_append (p:σ) (x:α):∀ {ps:List σ} {xs:List α},ps.length = xs.length→vZ A (ps++[p]) (xs++[x]) = vZ A ps xs++[A p x]
  | [],[],_=>rfl
  | [],_::_,h=>by simp at h
  | _::_,[],h=>by simp at h
  | a::ps,b::xs,h=>by simp only [List.cons_append,vZ]; rw [objs_append p x (by simpa using h)]
theorem objs_len:∀ {ps:List σ} {xs:List α},ps.length = xs.length→(vZ A ps xs).length = xs.length
  | [],[],_=>rfl
  | [],_::_,h=>by simp at h
  | _::_,[],h=>by simp at h
  | a::ps,b::xs,h=>by simp only [vZ,List.length_cons]; rw [objs_len (by simpa using h)]
def all (A:σ→α→As) (ps:List σ) (xs:List α):As:=aF (vZ A ps xs)
def but (A:σ→α→As) (ps:List σ) (xs:List α) (i:Nat):As:=aF ((vZ A ps xs).eraseIdx i)
variable {l:List As} {h:Hp} {ps:List σ} {xs:List α}
theorem star_shut {m:List As} (s:aF (m++l) h):aF (aF m::l) h:=by
  obtain ⟨h1,h2,d,e,s1,s2⟩:=eZ.1 s
  exact ⟨h1,h2,d,e,s1,s2⟩
theorem jq {i:Nat} {p:σ} {x:α} (hp:ps[i]? = some p) (hx:xs[i]? = some x) (s:aF (all A ps xs::l) h):aF (A p x::but A ps xs i::l) h:=by
  obtain ⟨h1,h2,d,e,a,s'⟩:=s
  have:=fB (objs_get (A:=A) hp hx) a
  obtain ⟨h3,h4,d',e',a',s4⟩:=this
  subst e'
  obtain ⟨d1,d2⟩:=Dj.of_un_left d
  exact ⟨h3,un h4 h2,Dj.un_right d' d1,by rw [e,mW],a',h4,h2,d2,rfl,s4,s'⟩
theorem vo {i:Nat} {p:σ} {y:α} (hp:ps[i]? = some p) (hi:i < xs.length) (hl:ps.length = xs.length) (s:aF (A p y::but A ps xs i::l) h):aF (all A ps (xs.set i y)::l) h:=by
  obtain ⟨h1,h2,d,e,a,h3,h4,d',e',b,s'⟩:=s
  subst e'
  obtain ⟨d1,d2⟩:=Dj.of_un_right d
  refine ⟨un h1 h3,h4,Dj.un_left d2 d',by rw [e,mW],?_,s'⟩
  have:=dQ (A:=A p y) (l:=vZ A ps xs) (i:=i) (by rw [objs_len hl]; exact hi) ⟨h1,h3,d1,rfl,a,b⟩
  rw [objs_set hp] at this
  exact this
theorem all_in2 {i:Nat} {p:σ} {y:α} (hi:i < xs.length) (hl:ps.length = xs.length) (s:aF (A p y::but A ps xs i::l) h):aF (all A (ps.set i p) (xs.set i y)::l) h:=by
  obtain ⟨h1,h2,d,e,a,h3,h4,d',e',b,s'⟩:=s
  subst e'
  obtain ⟨d1,d2⟩:=Dj.of_un_right d
  refine ⟨un h1 h3,h4,Dj.un_left d2 d',by rw [e,mW],?_,s'⟩
  have:=dQ (A:=A p y) (l:=vZ A ps xs) (i:=i) (by rw [objs_len hl]; exact hi) ⟨h1,h3,d1,rfl,a,b⟩
  rw [objs_set2 hi] at this
  exact this
theorem iZ {α:Type} {xs:List α} {i:Nat} {x:α} (hx:xs[i]? = some x):xs.set i x = xs:=by
  apply List.ext_getElem?
  intro n
  rw [List.getElem?_set]
  by_cases e:i = n
  · subst e
    obtain ⟨h1,h2⟩:=List.getElem?_eq_some_iff.1 hx
    simp [h1,h2]
  · simp [e]
theorem tQ {i:Nat} {p:σ} {x:α} (hp:ps[i]? = some p) (hx:xs[i]? = some x) (hl:ps.length = xs.length) (s:aF (A p x::but A ps xs i::l) h):aF (all A ps xs::l) h:=by
  have:=vo hp (List.getElem?_eq_some_iff.1 hx).1 hl s
  rwa [iZ hx] at this
theorem all_nil:aF l h→aF (all A [] []::l) h:=fun s=>star_cons (fun _=>trivial) s
theorem all_push {p:σ} {x:α} (hl:ps.length = xs.length) (s:aF (A p x::all A ps xs::l) h):aF (all A (ps++[p]) (xs++[x])::l) h:=by
  refine star_shut ?_
  rw [objs_append p x hl]
  have s1:=kJ (.swap _ _ _) s
  have s2:=dE s1
  exact kJ (by simp) s2
end
theorem wA {A:As} {h:Hp} (a:A h):aF [A] h:=⟨h,emp,Dj.emp_right _,(un_emp _).symm,a,trivial⟩
section
variable {P:Program} {l:List As} {h:Hp} {τ:Type} {f:FuncId} {args:List Value} {enc:τ→Value} {K:τ→Hp→Prop} {i:Nat} {A:As}
theorem bR {φ:τ→Prop} {A':τ→As} (c:Sp P f args enc [A] (fun r=>pa_ (φ r) [A' r])) (hi:l[i]? = some A) (s:aF l h) (k:∀ r h',φ r→aF (l.set i (A' r)) h'→K r h'):cl P f args enc K h:=by
  obtain ⟨h1,h2,d,rfl,a,s'⟩:=fB hi s
  refine (c h1 (wA a)).frame_mono d rfl fun v h' ⟨r,hv,q⟩ dj=>⟨r,hv,?_⟩
  obtain ⟨g1,q⟩:=q
  refine k r _ g1 (dQ (List.getElem?_eq_some_iff.1 hi).1 ?_)
  exact nV (l:=[A' r]++l.eraseIdx i) (by rw [List.append_nil]; exact eZ.2 ⟨h',h2,dj,rfl,q,s'⟩)
theorem xH {B A':τ→As} (c:Sp P f args enc [A] (fun r=>aF [B r,A' r])) (hi:l[i]? = some A) (s:aF l h) (k:∀ r h',aF (B r::l.set i (A' r)) h'→K r h'):cl P f args enc K h:=by
  obtain ⟨h1,h2,d,rfl,a,s'⟩:=fB hi s
  refine (c h1 (wA a)).frame_mono d rfl fun v h' ⟨r,hv,q⟩ dj=>⟨r,hv,k r _ ?_⟩
  have s1:aF (B r::A' r::l.eraseIdx i) (un h' h2):=(eZ (l:=[B r,A' r])).2 ⟨h',h2,dj,rfl,q,s'⟩
  obtain ⟨g1,g2,d2,e2,b,s2⟩:=s1
  exact ⟨g1,g2,d2,e2,b,dQ (List.getElem?_eq_some_iff.1 hi).1 s2⟩
theorem cl_p {φ:τ→Prop} {B A':τ→As} (c:Sp P f args enc [A] (fun r=>pa_ (φ r) [B r,A' r])) (hi:l[i]? = some A) (s:aF l h) (k:∀ r h',φ r→aF (B r::l.set i (A' r)) h'→K r h'):cl P f args enc K h:=by
  obtain ⟨h1,h2,d,rfl,a,s'⟩:=fB hi s
  refine (c h1 (wA a)).frame_mono d rfl fun v h' ⟨r,hv,q⟩ dj=>⟨r,hv,?_⟩
  obtain ⟨g0,q⟩:=q
  refine k r _ g0 ?_
  have s1:aF (B r::A' r::l.eraseIdx i) (un h' h2):=(eZ (l:=[B r,A' r])).2 ⟨h',h2,dj,rfl,q,s'⟩
  obtain ⟨g1,g2,d2,e2,b,s2⟩:=s1
  exact ⟨g1,g2,d2,e2,b,dQ (List.getElem?_eq_some_iff.1 hi).1 s2⟩
theorem tV {φ:τ→Prop} (c:Sp P f args enc [] (fun r=>pa_ (φ r) [])) (s:aF l h) (k:∀ r h',φ r→aF l h'→K r h'):cl P f args enc K h :=
  cR [] c s rfl fun r h' s1=>by
    obtain ⟨f1,s2⟩:=bu.1 s1
    exact k r h' f1 s2
theorem mC {B:τ→As} (c:Sp P f args enc [] (fun r=>aF [B r])) (s:aF l h) (k:∀ r h',aF (B r::l) h'→K r h'):cl P f args enc K h :=
  cR [] c s rfl fun r h' s1=>k r h' (dE s1)
end
end Mb
end Go.Proofs.YtemoifebbhoinaaGreatDoor
