/- Part of the proof of: The law ShootOther returns true for every input, and leaves its arguments as they were. -/
import Derived.Test.YtemoifebbhoinabGreatDoorShootOther02
set_option linter.all false
set_option maxRecDepth 20000
namespace Go.Proofs.YtemoifebbhoinabGreatDoor
open Go.Proofs.Tryz
open Go.IntKind (i64 u64)
open _root_.Int (fdiv zero_add)
open _root_.List (cons_append replicate take_length)
open _root_.Nat (zero_le)
section
open Go Mb
def uz (a0:Ptr) (K:(Int × Bool)->Hp->Prop):Hp->Prop:=br a0.isNone ( K (0,false)) ( nn a0 fun q8=>ld (q8.1,q8.2 + 0) cS fun x10=>cl prog kI [(sv x10),(.int .i64 0)] eE fun r11=>br (decide (r11 < 0)) ( K (0,false)) ( ld (q8.1,q8.2 + 0) cS fun x17=>ix x17 r11 fun q19=>st (q19.1,q19.2 + Int.toNat r11 * 1) [.int .i64 1]<|K (r11,true)))
theorem sim_pool_Pool_Take (a0:Ptr) {K:(Int × Bool)->Hp->Prop} {h:Hp} (H:uz a0 K h):cl prog jU [(pv a0)] bM K h:=z_i func118 p p fun _=>O<|J (au p)<|U p<|al<|O<|M p<|J (cx underlying124 p)<|ad<|aw p H (fun k1 H2=>O<|J (au p)<|U p<|aj<|bB (bS p (bZ p)<|bZ p) ⟨(0,false),p,H2⟩) fun k1 H2=>an<|O<|M p<|bI H2 fun q8 e3 H4=>J (aJ<|aH p<|aq e3)<|J (ae oI p)<|aa<|aV H4 sc_23 p (fun _=>p) p fun x10 H5=>aa<|D H5 en_147 fun r11 _ H6=>U p<|al<|O<|M p<|J (ci p p)<|ad<|aw p H6 (fun k7 H8=>O<|J (au p)<|U p<|aj<|bB (bS p (bZ p)<|bZ p) ⟨(0,false),p,H8⟩) fun k7 H8=>an<|O<|M (aH p<|aq e3)<|J (aJ p)<|J (ae oI p)<|aa<|aV H8 sc_23 p (fun _=>p) p fun x17 H9=>M p<|cn H9 fun q19 e10 h11 H12=>J (bd dz (aH p<|aW e10) p h11)<|aa<|dr mn p p p p p H12 fun _ H13=>ad<|O<|M p<|J (au p)<|U p<|aj<|bB (bS p (bZ p)<|bZ p) ⟨(r11,true),p,H13⟩
def uA (a0:Ptr) (a1:Int) (K:Int->Hp->Prop):Hp->Prop:=br (!(a0.isNone || (decide (a1 < 0)))) ( nn a0 fun q14=>ld (q14.1,q14.2 + 0) cS fun x16=>br (decide (a1 >= (x16.len:Int))) ( K 0) ( ld (q14.1,q14.2 + 0) cS fun x23=>ix x23 a1 fun q25=>ld (q25.1,q25.2 + Int.toNat a1 * 1) (cI .i64) fun x26=>K x26)) ( K 0)
theorem sim_pool_Pool_Refs (a0:Ptr) (a1:Int) {K:Int->Hp->Prop} {h:Hp} (H:uA a0 a1 K h):cl prog jV [(pv a0),(.int .i64 a1)] eE K h:=z_i func148 p p fun _=>O<|U p<|al<|O<|M p<|J (cx underlying124 p)<|M p<|W p p (aM _) (fun g1=>wv<|ai p)<|W p p (aM _) (fun g2=>wv<|ci (aC p g2) p)<|J (dC p p)<|M p<|W p p (aM _) (fun g3=>wv<|ai p)<|W p p (aM _) (fun g4=>wv<|ai p)<|bV H (fun k6 H7=>bI H7 fun q14 e8 H9=>G (F<|ch k6)<|z_p (aJ<|aH (aC p k6)<|aq e8)<|G (F<|ch k6)<|z_p (ae oI p)<|G (F<|ch k6)<|aV H9 sc_23 p (fun _=>p) p fun x16 H10=>G (F<|ch k6)<|z_p (dE p underlying23 p)<|G (F<|ch k6)<|z_p (kr (aC p k6) p)<|J (ar p (ch k6) p)<|ad<|aw p H10 (fun k11 H12=>O<|U p<|aj<|Z ⟨0,p,H12⟩) fun k11 H12=>an<|O<|M (aH p<|aq e8)<|J (aJ p)<|J (ae oI p)<|aa<|aV H12 sc_23 p (fun _=>p) p fun x23 H13=>M p<|cn H13 fun q25 e14 h15 H16=>J (bd dz (aH p<|aW e14) p h15)<|aa<|aV H16 ba p (fun _=>p) p fun x26 H17=>U p<|aj<|Z ⟨x26,p,H17⟩) fun k6 H7=>Y (cd<|bJ k6)<|Y (cd<|bJ k6)<|Y (cd<|bJ k6)<|Y (cd<|bJ k6)<|Y (cd<|bJ k6)<|J (aU p (bJ k6) p)<|ad<|nl p p<|O<|U p<|aj<|Z ⟨0,p,H7⟩
def uB (a0:Ptr) (a1:Int) (K:Bool->Hp->Prop):Hp->Prop:=cl prog jV [(pv a0),(.int .i64 a1)] eE fun r8=>br ((r8 == 0) || (decide (r8 >= 7))) ( K false) ( nn a0 fun q16=>ld (q16.1,q16.2 + 0) cS fun x18=>ix x18 a1 fun q20=>ld (q20.1,q20.2 + Int.toNat a1 * 1) (cI .i64) fun x21=>st (q20.1,q20.2 + Int.toNat a1 * 1) [.int .i64 (i64.wrap (x21 + 1))]<|K true)
theorem sim_pool_Pool_Hold (a0:Ptr) (a1:Int) {K:Bool->Hp->Prop} {h:Hp} (H:uB a0 a1 K h):cl prog mI [(pv a0),(.int .i64 a1)] aB K h:=z_i func120 p p fun _=>O<|U p<|al<|O<|M p<|M p<|aa<|D H en_148 fun r8 _ H1=>U p<|O<|M p<|J (bP p p)<|M p<|W p p (aM _) (fun g2=>wv<|ai p)<|W p p (aM _) (fun g3=>wv<|kr (aC p g3) p)<|J (dC p p)<|ad<|aw p H1 (fun k4 H5=>O<|U p<|aj<|Z ⟨false,p,H5⟩) fun k4 H5=>an<|O<|M p<|bI H5 fun q16 e6 H7=>J (aJ<|aH p<|aq e6)<|J (ae oI p)<|aa<|aV H7 sc_23 p (fun _=>p) p fun x18 H8=>M p<|cn H8 fun q20 e9 h10 H11=>J (bd dz (aH p<|aW e9) p h10)<|aa<|aV H11 ba p (fun _=>p) p fun x21 H12=>J (bj p p)<|J (bd dz (aH p<|aW e9) p h10)<|aa<|dr mn p p p p p H12 fun _ H13=>ad<|O<|U p<|aj<|Z ⟨true,p,H13⟩
def wk (a0:Ptr) (a1:Int) (K:(Int × Bool)->Hp->Prop):Hp->Prop:=cl prog jV [(pv a0),(.int .i64 a1)] eE fun r8=>br (r8 == 0) ( K (0,false)) ( nn a0 fun q11=>ld (q11.1,q11.2 + 0) cS fun x13=>ix x13 a1 fun q15=>ld (q15.1,q15.2 + Int.toNat a1 * 1) (cI .i64) fun x16=>st (q15.1,q15.2 + Int.toNat a1 * 1) [.int .i64 (i64.wrap (x16 - 1))]<|ld (q11.1,q11.2 + 0) cS fun x22=>ix x22 a1 fun q24=>ld (q24.1,q24.2 + Int.toNat a1 * 1) (cI .i64) fun x25=>K (x25,true))
theorem sim_pool_Pool_Let (a0:Ptr) (a1:Int) {K:(Int × Bool)->Hp->Prop} {h:Hp} (H:wk a0 a1 K h):cl prog nL [(pv a0),(.int .i64 a1)] bM K h:=z_i func124 p p fun _=>O<|J (au p)<|U p<|al<|O<|M p<|M p<|aa<|D H en_148 fun r8 _ H1=>J (bP p p)<|ad<|aw p H1 (fun k2 H3=>O<|J (au p)<|U p<|aj<|bB (bS p (bZ p)<|bZ p) ⟨(0,false),p,H3⟩) fun k2 H3=>an<|O<|M p<|bI H3 fun q11 e4 H5=>J (aJ<|aH p<|aq e4)<|J (ae oI p)<|aa<|aV H5 sc_23 p (fun _=>p) p fun x13 H6=>M p<|cn H6 fun q15 e7 h8 H9=>J (bd dz (aH p<|aW e7) p h8)<|aa<|aV H9 ba p (fun _=>p) p fun x16 H10=>J (iT p p)<|J (bd dz (aH p<|aW e7) p h8)<|aa<|dr mn p p p p p H10 fun _ H11=>ad<|O<|M (aH p<|aq e4)<|J (aJ p)<|J (ae oI p)<|aa<|aV H11 sc_23 p (fun _=>p) p fun x22 H12=>M p<|cn H12 fun q24 e13 h14 H15=>J (bd dz (aH p<|aW e13) p h14)<|aa<|aV H15 ba p (fun _=>p) p fun x25 H16=>J (au p)<|U p<|aj<|bB (bS p (bZ p)<|bZ p) ⟨(x25,true),p,H16⟩
def sh_pool_New (a0:Int) (K:Ptr->Hp->Prop):Hp->Prop:=br ((decide (a0 < 1)) || (decide (a0 > 16))) ( K none) ( hpv prog (Instr.makeSlice dR (.int .i64 a0) (.int .i64 a0)) cF fun (v10:Sl)=>nw rf (oM.C (⟨v10⟩:oM)) fun b12=>K (some (b12,0)))
theorem sim_pool_New (a0:Int) {K:Ptr->Hp->Prop} {h:Hp} (H:sh_pool_New a0 K h):cl prog xQ [(.int .i64 a0)] sY K h:=z_i func78 p p fun _=>O<|U p<|al<|O<|M p<|J (ci p p)<|M p<|W p p (aM _) (fun g1=>wv<|ai p)<|W p p (aM _) (fun g2=>wv<|oR (aC p g2) p)<|J (dC p p)<|ad<|aw p H (fun k3 H4=>O<|U p<|aj<|Z ⟨none,p,H4⟩) fun k3 H4=>an<|O<|M p<|aa<|aR H4 (ku p p) p fun v10 _ H5=>J (aZ p<|build_191_0 v10)<|aa<|iC p p p H5 fun b12 _ H6=>U p<|aj<|Z ⟨some (b12,0),p,H6⟩
def pw (K:Sl->Hp->Prop) (x11:Sl) (Rec7:(Sl × Int)->Hp->Prop) (s6:Sl × Int):Hp->Prop:=br (decide (s6.2 < (x11.len:Int))) ( ix x11 s6.2 fun q16=>ld (q16.1,q16.2 + Int.toNat s6.2 * 1) (cI .i64) fun x17=>br (x17 == 0) ( hpv prog (Instr.buildSlice dR 1 #[(0,(.int .i64 s6.2))]) cF fun (v22:Sl)=>hpv prog (Builtin.append_ #[dR,dR] dR #[(sv s6.1),(sv v22)]) cF fun (v23:Sl)=>Rec7 (v23,(i64.wrap (s6.2 + 1)))) ( Rec7 (s6.1,(i64.wrap (s6.2 + 1))))) ( K s6.1)
def uC (a0:Ptr) (K:Sl->Hp->Prop):Hp->Prop:=br a0.isNone ( K (⟨none,0,0,none⟩:Sl)) ( nn a0 fun q9=>ld (q9.1,q9.2 + 0) cS fun x11=>Lp (pw K x11) ((⟨none,0,0,none⟩:Sl),0))
theorem sim_pool_Pool_Free (a0:Ptr) {K:Sl->Hp->Prop} {h:Hp} (H:uC a0 K h):cl prog mJ [(pv a0)] cF K h:=z_i func137 p p fun _=>O<|U p<|al<|O<|M p<|J (cx underlying124 p)<|ad<|aw p H (fun k1 H2=>O<|U p<|aj<|Z ⟨(⟨none,0,0,none⟩:Sl),p,H2⟩) fun k1 H2=>an<|O<|U p<|al<|O<|M p<|bI H2 fun q9 e3 H4=>J (aJ<|aH p<|aq e3)<|J (ae oI p)<|aa<|aV H4 sc_23 p (fun _=>p) p fun x11 H5=>J (dE p underlying23 p)<|M p<|ad<|av<|bv (step:=pw K x11) (fun s6=>[(3,(sv s6.1)),(11,(sv x11)),(12,(.int .i64 (x11.len:Int))),(13,(.int .i64 s6.2))]) (fun s6=>[]) H5 (.cons p<|.cons p<|.cons p<|.cons p<|.nil _) .slnil fun Rec7 s6 _ H8=>O<|J (ci p p)<|ad<|al<|aw p H8 (fun k9 H10=>an<|al<|av<|O<|M p<|cn H10 fun q16 e11 h12 H13=>J (bd dz (aH p<|aW e11) p h12)<|aa<|aV H13 ba p (fun _=>p) p fun x17 H14=>J (au p)<|U p<|O<|M p<|J (bP p p)<|ad<|aw p H14 (fun k15 H16=>ap<|M p<|M p<|aa<|aR H16 (bt (vs:=[(.int .i64 s6.2)]) p) p fun v22 _ H17=>aa<|aR H17 (dQ p p) p fun v23 _ H18=>U p<|ap<|J (bj p p)<|M p<|ad<|cD (v23,(i64.wrap (s6.2 + 1))) H18 (.cons p<|.cons p<|.cons p<|.cons p<|.nil _) .slnil) fun k15 H16=>an<|ap<|J (bj p p)<|M p<|ad<|cD (s6.1,(i64.wrap (s6.2 + 1))) H16 (.cons p<|.cons p<|.cons p<|.cons p<|.nil _) .slnil) fun k9 H10=>bf<|O<|M p<|U p<|aj<|Z ⟨s6.1,p,H10⟩
def px (K:Int->Hp->Prop) (r7:Sl) (Rec3:(Int × Int)->Hp->Prop) (s2:Int × Int):Hp->Prop:=br (decide (s2.2 < (r7.len:Int))) ( ix r7 s2.2 fun q11=>ld (q11.1,q11.2 + Int.toNat s2.2 * 1) (cI .i64) fun x12=>gd (0 <= x12)<|Rec3 ((ior .u64 s2.1 (u64.wrap (1 * 2 ^ (min (Int.toNat x12) (IntKind.bits .u64))))),(i64.wrap (s2.2 + 1)))) ( K s2.1)
def uD (a0:Ptr) (K:Int->Hp->Prop):Hp->Prop:=cl prog mJ [(pv a0)] cF fun r7=>Lp (px K r7) (0,0)
theorem sim_pool_Pool_Bits (a0:Ptr) {K:Int->Hp->Prop} {h:Hp} (H:uD a0 K h):cl prog qE [(pv a0)] hO K h:=z_i func164 p p fun _=>O<|U p<|O<|U p<|al<|O<|M p<|aa<|D H en_137 fun r7 _ H1=>J (dE p underlying23 p)<|M p<|ad<|av<|bv (step:=px K r7) (fun s2=>[(3,(.int .u64 s2.1)),(7,(sv r7)),(8,(.int .i64 (r7.len:Int))),(9,(.int .i64 s2.2))]) (fun s2=>[]) H1 (.cons p<|.cons p<|.cons p<|.cons p<|.nil _) .slnil fun Rec3 s2 _ H4=>O<|J (ci p p)<|ad<|al<|aw p H4 (fun k5 H6=>an<|al<|av<|O<|cn H6 fun q11 e7 h8 H9=>J (bd dz (aH p<|aW e7) p h8)<|aa<|aV H9 ba p (fun _=>p) p fun x12 H10=>U p<|ap<|M p<|M p<|iY H10 fun z11 H12=>J (v_shl p p z11)<|J (v_ior p p)<|U p<|ap<|J (bj p p)<|M p<|ad<|cD ((ior .u64 s2.1 (u64.wrap (1 * 2 ^ (min (Int.toNat x12) (IntKind.bits .u64))))),(i64.wrap (s2.2 + 1))) H12 (.cons p<|.cons p<|.cons p<|.cons p<|.nil _) .slnil) fun k5 H6=>bf<|O<|M p<|U p<|aj<|Z ⟨s2.1,p,H6⟩
end
section
open Go Mb
def eS (a0:Sl) (a1:Int) (K:(Int × Bool)->Hp->Prop) (Rec2:(Int × Int)->Hp->Prop) (s1:Int × Int):Hp->Prop:=br (decide (s1.1 < s1.2)) ( ix a0 (i64.wrap (fdiv (u64.wrap (i64.wrap (s1.1 + s1.2))) (2 ^ (min (Int.toNat 1) (IntKind.bits .u64))))) fun q24=>ld (q24.1,q24.2 + Int.toNat (i64.wrap (fdiv (u64.wrap (i64.wrap (s1.1 + s1.2))) (2 ^ (min (Int.toNat 1) (IntKind.bits .u64))))) * 1) (cI .u64) fun x25=>br (iH x25 a1) ( Rec2 ((i64.wrap ((i64.wrap (fdiv (u64.wrap (i64.wrap (s1.1 + s1.2))) (2 ^ (min (Int.toNat 1) (IntKind.bits .u64))))) + 1)),s1.2)) ( Rec2 (s1.1,(i64.wrap (fdiv (u64.wrap (i64.wrap (s1.1 + s1.2))) (2 ^ (min (Int.toNat 1) (IntKind.bits .u64)))))))) ( br (decide (s1.1 < (a0.len:Int))) ( ix a0 s1.1 fun q38=>ld (q38.1,q38.2 + Int.toNat s1.1 * 1) (cI .u64) fun x39=>br (!(x39 == a1)) ( ld (q38.1,q38.2 + Int.toNat s1.1 * 1) (cI .u64) fun x46=>K (s1.1,((dP x46) && (dP a1)))) ( K (s1.1,true))) ( K (s1.1,false)))
def gX (a0:Sl) (a1:Int) (K:(Int × Bool)->Hp->Prop):Hp->Prop:=Lp (eS a0 a1 K) (0,(a0.len:Int))
theorem mE (a0:Sl) (a1:Int) {K:(Int × Bool)->Hp->Prop} {h:Hp} (H:gX a0 a1 K h):cl prog fh [(sv a0),(.int .u64 a1)] bM K h:=z_i func115 p p fun _=>O<|J (au p)<|U p<|O<|M p<|J (dE p underlying97 p)<|U p<|O<|M p<|J (au p)<|U p<|al<|av<|bv (step:=eS a0 a1 K) (fun s1=>[(0,(sv a0)),(1,(.int .u64 a1)),(6,(.int .i64 (a0.len:Int))),(7,(.int .i64 s1.1)),(8,(.int .i64 s1.2))]) (fun s1=>[]) H (.cons p<|.cons p<|.cons p<|.cons p<|.cons p<|.nil _) .slnil fun Rec2 s1 _ H3=>al<|O<|M p<|M p<|J (ci p p)<|ad<|aw p H3 (fun k4 H5=>an<|av<|O<|M p<|M p<|J (bj p p)<|J (dv ⟨_,underlying3⟩ underlying217 p)<|J (v_shr p p (by decide))<|J (dv ⟨_,underlying217⟩ underlying3 p)<|U p<|O<|M p<|M p<|cn H5 fun q24 e6 h7 H8=>J (bd xo (aH p<|aW e6) p h7)<|aa<|aV H8 cG p (fun _=>p) p fun x25 H9=>M p<|aa<|cT (vs:=[(.int .u64 x25),(.int .u64 a1)]) (bA<|ct_cmp_Less_uint64 x25 a1 _) en_143 p p<|ad<|aw p H9 (fun k10 H11=>ap<|M p<|J (bj p p)<|U p<|cD ((i64.wrap ((i64.wrap (fdiv (u64.wrap (i64.wrap (s1.1 + s1.2))) (2 ^ (min (Int.toNat 1) (IntKind.bits .u64))))) + 1)),s1.2) H11 (.cons p<|.cons p<|.cons p<|.cons p<|.cons p<|.nil _) .slnil) fun k10 H11=>ap<|M p<|U p<|cD (s1.1,(i64.wrap (fdiv (u64.wrap (i64.wrap (s1.1 + s1.2))) (2 ^ (min (Int.toNat 1) (IntKind.bits .u64)))))) H11 (.cons p<|.cons p<|.cons p<|.cons p<|.cons p<|.nil _) .slnil) fun k4 H5=>bf<|O<|M p<|M p<|M p<|J (ci p p)<|M p<|W p p (ax _) (fun g12=>wv<|ai p)<|W p p (ax _) (fun g13=>wv<|ai p)<|bV H5 (fun k15 H16=>cn H16 fun q38 e17 h18 H19=>G (F k15)<|z_p (bd xo (aH (aC p k15)<|aW e17) (aC p k15) h18)<|G (F k15)<|aV H19 cG p (fun _=>p) p fun x39 H20=>G (F k15)<|z_p (ai p)<|G (F k15)<|z_p (bP p p)<|G (F k15)<|z_p (ai p)<|W p p (aM _) (fun g21=>wv<|ai p)<|W p p (aM _) (fun g22=>wv<|ai p)<|W p p (aM _) (fun g23=>wv<|bd xo (aH (aC p g23)<|aW e17) (aC p g23) h18)<|bV H20 (fun k25 H26=>G (F<|ch k25)<|aV H26 cG (aC p k25) (fun _=>p) p fun x46 H27=>G (F<|ch k25)<|cT (vs:=[(.int .u64 x46)]) (bA<|pO x46 _) en_144 p p<|G (F<|ch k25)<|z_p (ai p)<|W p p (ax _) (fun g28=>wv<|ai p)<|di (vs:=[(.int .u64 a1)]) p p p (ax _) (fun g29=>bA<|pO a1 _) en_144 (fun g29=>aS (aC p g29) bT) p<|G (F<|ch k25)<|z_p (bN p p)<|G (F k15)<|z_p (ar p (ch k25) p)<|J (aU p k15 p)<|J (au p)<|U p<|aj<|bB (bS p (bZ p)<|bZ p) ⟨(s1.1,((dP x46) && (dP a1))),p,H27⟩) fun k25 H26=>Y (cd<|bJ k25)<|Y (cd<|bJ k25)<|Y (cd<|bJ k25)<|Y (off_u _)<|Y (off_u _)<|Y (cd<|bJ k25)<|G (F k15)<|z_p (aU p (bJ k25) p)<|J (aU p k15 p)<|J (au p)<|U p<|aj<|bB (bS p (bZ p)<|bZ p) ⟨(s1.1,true),p,H26⟩) fun k15 H16=>Y (aT k15)<|Y (aT k15)<|Y (aT k15)<|Y (aT k15)<|Y (aT k15)<|Y (off_u _)<|Y (off_u _)<|Y (off_u _)<|Y (off_u _)<|Y (off_u _)<|Y (off_u _)<|Y (off_u _)<|Y (off_u _)<|Y (off_u _)<|Y (aT k15)<|J (ar p k15 p)<|J (au p)<|U p<|aj<|bB (bS p (bZ p)<|bZ p) ⟨(s1.1,false),p,H16⟩
def jT (a0:Sl) (a1:Int) (a2:Sl) (K:Sl->Hp->Prop):Hp->Prop:=hpv prog (Instr.sliceAt be (sv a0) (some (.int .i64 a1)) none none) ce fun (v12:Sl)=>br ((a2.len:Int) == 0) ( K a0) ( br (a1 == (a0.len:Int)) ( hpv prog (Builtin.append_ #[be,be] be #[(sv a0),(sv a2)]) ce fun (v25:Sl)=>K v25) ( br (decide ((i64.wrap ((a0.len:Int) + (a2.len:Int))) > (a0.cap:Int))) ( hpv prog (Instr.sliceAt be (sv a0) none (some (.int .i64 a1)) none) ce fun (v34:Sl)=>hpv prog (Builtin.append_ #[be,lG] be #[(sv v34),(.int .i64 (i64.wrap ((i64.wrap ((a0.len:Int) + (a2.len:Int))) - a1)))]) ce fun (v40:Sl)=>hpv prog (Instr.sliceAt be (sv v40) (some (.int .i64 a1)) none none) ce fun (v43:Sl)=>hpv prog (Builtin.copy_ #[be,be] lG #[(sv v43),(sv a2)]) eE fun (v45:Int)=>both ( hpv prog (Instr.sliceAt be (sv v40) (some (.int .i64 (i64.wrap (a1 + (a2.len:Int))))) none none) ce fun (v50:Sl)=>hpv prog (Instr.sliceAt be (sv a0) (some (.int .i64 a1)) none none) ce fun (v53:Sl)=>hpv prog (Builtin.copy_ #[be,be] lG #[(sv v50),(sv v53)]) eE fun (v54:Int)=>K v40) ( hpv prog (Instr.sliceAt be (sv a0) (some (.int .i64 a1)) none none) ce fun (v53:Sl)=>hpv prog (Instr.sliceAt be (sv v40) (some (.int .i64 (i64.wrap (a1 + (a2.len:Int))))) none none) ce fun (v50:Sl)=>hpv prog (Builtin.copy_ #[be,be] lG #[(sv v50),(sv v53)]) eE fun (v54:Int)=>K v40)) ( hpv prog (Instr.sliceAt be (sv a0) none (some (.int .i64 (i64.wrap ((a0.len:Int) + (a2.len:Int))))) none) ce fun (v60:Sl)=>hpv prog (Instr.sliceAt be (sv v60) (some (.int .i64 (i64.wrap (a1 + (a2.len:Int))))) none none) ce fun (v66:Sl)=>cln prog (callFunc vJ #[(sv a2),(sv v66)]) aB fun (v67:Bool)=>br (!v67) ( both ( hpv prog (Instr.sliceAt be (sv v60) (some (.int .i64 (i64.wrap (a1 + (a2.len:Int))))) none none) ce fun (v73:Sl)=>hpv prog (Instr.sliceAt be (sv v60) (some (.int .i64 a1)) none none) ce fun (v76:Sl)=>hpv prog (Builtin.copy_ #[be,be] lG #[(sv v73),(sv v76)]) eE fun (v77:Int)=>hpv prog (Instr.sliceAt be (sv v60) (some (.int .i64 a1)) none none) ce fun (v80:Sl)=>hpv prog (Builtin.copy_ #[be,be] lG #[(sv v80),(sv a2)]) eE fun (v82:Int)=>K v60) ( hpv prog (Instr.sliceAt be (sv v60) (some (.int .i64 a1)) none none) ce fun (v76:Sl)=>hpv prog (Instr.sliceAt be (sv v60) (some (.int .i64 (i64.wrap (a1 + (a2.len:Int))))) none none) ce fun (v73:Sl)=>hpv prog (Builtin.copy_ #[be,be] lG #[(sv v73),(sv v76)]) eE fun (v77:Int)=>hpv prog (Instr.sliceAt be (sv v60) (some (.int .i64 a1)) none none) ce fun (v80:Sl)=>hpv prog (Builtin.copy_ #[be,be] lG #[(sv v80),(sv a2)]) eE fun (v82:Int)=>K v60)) ( hpv prog (Instr.sliceAt be (sv v60) (some (.int .i64 (a0.len:Int))) none none) ce fun (v86:Sl)=>hpv prog (Builtin.copy_ #[be,be] lG #[(sv v86),(sv a2)]) eE fun (v88:Int)=>hpv prog (Instr.sliceAt be (sv v60) (some (.int .i64 a1)) none none) ce fun (v91:Sl)=>cl prog sO [(sv v91),(.int .i64 (a2.len:Int))] R_ fun (_:Unit)=>K v60))))
theorem pV (a0:Sl) (a1:Int) (a2:Sl) {K:Sl->Hp->Prop} {h:Hp} (H:jT a0 a1 a2 K h):cl prog dN [(sv a0),(.int .i64 a1),(sv a2)] ce K h:=z_i func116 p p fun _=>O<|U p<|O<|M p<|M p<|aa<|aR H (fI p p p p p) p fun v12 _ H1=>ad<|O<|M p<|J (dE p underlying97 p)<|U p<|al<|O<|M p<|J (bP p p)<|ad<|aw p H1 (fun k2 H3=>O<|M p<|U p<|aj<|Z ⟨a0,p,H3⟩) fun k2 H3=>an<|O<|M p<|J (dE p underlying97 p)<|U p<|al<|O<|M p<|M p<|J (bP p p)<|ad<|aw p H3 (fun k4 H5=>O<|M p<|M p<|aa<|aR H5 (dQ p p) p fun v25 _ H6=>U p<|aj<|Z ⟨v25,p,H6⟩) fun k4 H5=>an<|al<|O<|M p<|M p<|J (bj p p)<|M p<|J (v_cap p underlying97 p)<|J (oR p p)<|ad<|aw p H5 (fun k7 H8=>O<|M p<|M p<|aa<|aR H8 (fI p p p p p) p fun v34 _ H9=>M p<|M p<|J (bj p p)<|M p<|J (iT p p)<|aa<|aR H9 (dQ p p) p fun v40 _ H10=>U p<|O<|M p<|M p<|aa<|aR H10 (fI p p p p p) p fun v43 _ H11=>M p<|aa<|aR H11 (x_copy p p) p fun v45 _ H12=>ad<|al<|bn (n:=9) [] ck p .slnil<|V 0 p (ai p)<|V 1 p (ai p)<|V 2 p (ai p)<|V 3 p (bj p p)<|V 5 p (ai p)<|V 6 p (ai p)<|ki H12 fun H13_1 H13_2=>kj (i:=4) (j:=7) (by kernel_rfl) (cM p p<|aR H13_1 (fI p p p p p) p fun v50 _ H14=>⟨.slnil,I 7 p<|aR H14 (fI p p p p p) p fun v53 _ H15=>⟨.slnil,I 8 p<|aR H15 (x_copy p p) p fun v54 _ H16=>⟨.slnil,aQ (by kernel_rfl)<|O<|M p<|U p<|aj<|Z ⟨v40,p,H16⟩⟩⟩⟩)<|cM p p<|aR H13_2 (fI p p p p p) p fun v53 _ H14=>⟨.slnil,I 4 p<|aR H14 (fI p p p p p) p fun v50 _ H15=>⟨.slnil,I 8 p<|aR H15 (x_copy p p) p fun v54 _ H16=>⟨.slnil,aQ (by kernel_rfl)<|O<|M p<|U p<|aj<|Z ⟨v40,p,H16⟩⟩⟩⟩) fun k7 H8=>an<|O<|M p<|M p<|M p<|J (bj p p)<|aa<|aR H8 (fI p p p p p) p fun v60 _ H17=>U p<|al<|O<|M p<|M p<|M p<|M p<|J (bj p p)<|aa<|aR H17 (fI p p p p p) p fun v66 _ H18=>aa<|gy H18 (sD (vs:=[(sv a2),(sv v66)]) p) p fun v67 _ H19=>J (cu p)<|ad<|aw p H19 (fun k20 H21=>al<|bn (n:=9) [] ck p .slnil<|V 0 p (ai p)<|V 1 p (ai p)<|V 2 p (ai p)<|V 3 p (bj p p)<|V 5 p (ai p)<|V 6 p (ai p)<|ki H21 fun H22_1 H22_2=>kj (i:=4) (j:=7) (by kernel_rfl) (cM p p<|aR H22_1 (fI p p p p p) p fun v73 _ H23=>⟨.slnil,I 7 p<|aR H23 (fI p p p p p) p fun v76 _ H24=>⟨.slnil,I 8 p<|aR H24 (x_copy p p) p fun v77 _ H25=>⟨.slnil,aQ (by kernel_rfl)<|O<|M p<|M p<|aa<|aR H25 (fI p p p p p) p fun v80 _ H26=>M p<|aa<|aR H26 (x_copy p p) p fun v82 _ H27=>ad<|O<|M p<|U p<|aj<|Z ⟨v60,p,H27⟩⟩⟩⟩)<|cM p p<|aR H22_2 (fI p p p p p) p fun v76 _ H23=>⟨.slnil,I 4 p<|aR H23 (fI p p p p p) p fun v73 _ H24=>⟨.slnil,I 8 p<|aR H24 (x_copy p p) p fun v77 _ H25=>⟨.slnil,aQ (by kernel_rfl)<|O<|M p<|M p<|aa<|aR H25 (fI p p p p p) p fun v80 _ H26=>M p<|aa<|aR H26 (x_copy p p) p fun v82 _ H27=>ad<|O<|M p<|U p<|aj<|Z ⟨v60,p,H27⟩⟩⟩⟩) fun k20 H21=>an<|O<|M p<|M p<|aa<|aR H21 (fI p p p p p) p fun v86 _ H28=>M p<|aa<|aR H28 (x_copy p p) p fun v88 _ H29=>ad<|O<|M p<|M p<|aa<|aR H29 (fI p p p p p) p fun v91 _ H30=>M p<|aa<|D H30 en_146 fun r93 _ H31=>ad<|O<|M p<|U p<|aj<|Z ⟨v60,p,H31⟩
def jR (a0:Sl) (a1:Int) (K:Int->Hp->Prop) (Rec2:Int->Hp->Prop) (s1:Int):Hp->Prop:=br (decide (s1 < (a0.len:Int))) ( ix a0 s1 fun q14=>ld (q14.1,q14.2 + Int.toNat s1 * 1) (cI .i64) fun x15=>br (a1 == x15) ( K s1) ( Rec2 (i64.wrap (s1 + 1)))) ( K (-1))
def ow (a0:Sl) (a1:Int) (K:Int->Hp->Prop):Hp->Prop:=Lp (jR a0 a1 K) 0
theorem vy (a0:Sl) (a1:Int) {K:Int->Hp->Prop} {h:Hp} (H:ow a0 a1 K h):cl prog kI [(sv a0),(.int .i64 a1)] eE K h:=z_i func147 p p fun _=>O<|U p<|al<|O<|M p<|J (dE p underlying23 p)<|M p<|ad<|av<|bv (step:=jR a0 a1 K) (fun s1=>[(0,(sv a0)),(1,(.int .i64 a1)),(7,(.int .i64 (a0.len:Int))),(8,(.int .i64 s1))]) (fun s1=>[]) H (.cons p<|.cons p<|.cons p<|.cons p<|.nil _) .slnil fun Rec2 s1 _ H3=>O<|J (ci p p)<|ad<|al<|aw p H3 (fun k4 H5=>an<|al<|av<|O<|M p<|U p<|O<|M p<|M p<|M p<|cn H5 fun q14 e6 h7 H8=>J (bd dz (aH p<|aW e6) p h7)<|aa<|aV H8 ba p (fun _=>p) p fun x15 H9=>J (bP p p)<|ad<|aw p H9 (fun k10 H11=>O<|M p<|U p<|aj<|Z ⟨s1,p,H11⟩) fun k10 H11=>an<|ap<|J (bj p p)<|M p<|ad<|cD (i64.wrap (s1 + 1)) H11 (.cons p<|.cons p<|.cons p<|.cons p<|.nil _) .slnil) fun k4 H5=>bf<|O<|U p<|aj<|Z ⟨(-1),p,H5⟩
def iv (a0:Sl) (K:Sl->Hp->Prop):Hp->Prop:=br a0.a.isNone ( K (⟨none,0,0,none⟩:Sl)) ( hpv prog (Instr.buildSlice eq 0 #[]) eB fun (v5:Sl)=>hpv prog (Builtin.append_ #[eq,eq] eq #[(sv v5),(sv a0)]) eB fun (v7:Sl)=>K v7)
theorem ne (a0:Sl) {K:Sl->Hp->Prop} {h:Hp} (H:iv a0 K h):cl prog fu [(sv a0)] eB K h:=z_i func37 p p fun _=>O<|U p<|al<|O<|M p<|J (v_seqT underlying40 p)<|ad<|aw p H (fun k1 H2=>O<|U p<|aj<|Z ⟨(⟨none,0,0,none⟩:Sl),p,H2⟩) fun k1 H2=>an<|O<|aa<|aR H2 (bt (vs:=[]) p) p fun v5 _ H3=>M p<|aa<|aR H3 (dQ p p) p fun v7 _ H4=>U p<|aj<|Z ⟨v7,p,H4⟩
def fq (a0:Sl) (a1:Int) (a3:Value) (Rec2:Int->Hp->Prop) (s1:Int) (Rec7:Int->Hp->Prop) (s6:Int):Hp->Prop:=br (decide (s6 > a1)) ( ix a0 s6 fun q25=>ix a0 (i64.wrap (s6 - 1)) fun q30=>ld (q25.1,q25.2 + Int.toNat s6 * 1) (cI .i64) fun x26=>ld (q30.1,q30.2 + Int.toNat (i64.wrap (s6 - 1)) * 1) (cI .i64) fun x31=>clv prog a3 [(.int .i64 x26),(.int .i64 x31)] eE fun r32=>br (decide (r32 < 0)) ( ld (q30.1,q30.2 + Int.toNat (i64.wrap (s6 - 1)) * 1) (cI .i64) fun x46=>ld (q25.1,q25.2 + Int.toNat s6 * 1) (cI .i64) fun x50=>st (q25.1,q25.2 + Int.toNat s6 * 1) [.int .i64 x46]<|st (q30.1,q30.2 + Int.toNat (i64.wrap (s6 - 1)) * 1) [.int .i64 x50]<|Rec7 (i64.wrap (s6 - 1))) ( Rec2 (i64.wrap (s1 + 1)))) ( Rec2 (i64.wrap (s1 + 1)))
def dO (a0:Sl) (a1:Int) (a2:Int) (a3:Value) (K:Unit->Hp->Prop) (Rec2:Int->Hp->Prop) (s1:Int):Hp->Prop:=br (decide (s1 < a2)) ( Lp (fq a0 a1 a3 Rec2 s1) s1) ( K ())
def iE (a0:Sl) (a1:Int) (a2:Int) (a3:Value) (K:Unit->Hp->Prop):Hp->Prop:=Lp (dO a0 a1 a2 a3 K) (i64.wrap (a1 + 1))
theorem nA (a0:Sl) (a1:Int) (a2:Int) (a3:Value) {K:Unit->Hp->Prop} {h:Hp} (H:iE a0 a1 a2 a3 K h):cl prog bQ [(sv a0),(.int .i64 a1),(.int .i64 a2),a3] R_ K h:=z_i func138 p p fun _=>O<|M p<|J (bj p p)<|U p<|av<|bv (step:=dO a0 a1 a2 a3 K) (fun s1=>[(0,(sv a0)),(1,(.int .i64 a1)),(2,(.int .i64 a2)),(3,a3),(8,(.int .i64 s1))]) (fun s1=>[]) H (.cons p<|.cons p<|.cons p<|.cons p<|.cons p<|.nil _) .slnil fun Rec2 s1 _ H3=>al<|O<|M p<|M p<|J (ci p p)<|ad<|aw p H3 (fun k4 H5=>an<|al<|av<|O<|M p<|U p<|av<|bv (step:=fq a0 a1 a3 Rec2 s1) (fun s6=>[(0,(sv a0)),(1,(.int .i64 a1)),(2,(.int .i64 a2)),(3,a3),(8,(.int .i64 s1)),(9,(.int .i64 s6))]) (fun s6=>[]) H5 (.cons p<|.cons p<|.cons p<|.cons p<|.cons p<|.cons p<|.nil _) .slnil fun Rec7 s6 _ H8=>al<|al<|bn (n:=17) [] ck p .slnil<|V 0 p (ai p)<|V 1 p (ai p)<|V 2 p (oR p p)<|V 3 p (ai p)<|qP H8 (fun k9 H10=>z_n 4 p (F k9) (ve<|ai p)<|z_n 5 p (F k9) (ve<|ai p)<|z_n 6 p (F k9) (ve<|ai p)<|z_n 9 p (F k9) (ve<|ai p)<|z_n 10 p (F k9) (ve<|ai p)<|z_n 11 p (F k9) (ve<|iT p p)<|dS H10 fun q25 e11 h12 H13=>z_n 7 p (F k9) (ve<|bd dz (aH p<|aW e11) p h12)<|dS H13 fun q30 e14 h15 H16=>z_n 12 p (F k9) (ve<|bd dz (aH p<|aW e14) p h15)<|mX (i:=8) (fun _ _ _ _ hh=>hh) H16 p (by kernel_rfl) p p p (F k9) ba p (fun _=>p) p fun x26 H17=>mX (i:=13) (fun _ _ _ _ hh=>hh) H17 p (by kernel_rfl) p p p (F k9) ba p (fun _=>p) p fun x31 H18=>eva_1 (i:=14) (by kernel_rfl)<|way_on p p p p (F k9)<|to_clv H18 p p p fun r32 _ H19=>⟨.slnil,z_n 15 p (F k9) (ve<|ci p p)<|V 16 p (aU p k9 p)<|aQ (by kernel_rfl)<|aw p H19 (fun k20 H21=>an<|al<|av<|bn (n:=18) [] ck p .slnil<|V 0 p (ai p)<|V 1 p (ai p)<|V 2 p (ai p)<|V 3 p (ai p)<|V 4 p (iT p p)<|V 5 p (ai p)<|V 6 p (ai p)<|V 7 p (iT p p)<|V 8 p (bd dz (aH p<|aW e14) p h15)<|V 10 p (ai p)<|V 11 p (ai p)<|V 12 p (bd dz (aH p<|aW e11) p h12)<|bw (i:=9) (fun _ _ _ _ hh=>hh) H21 p (by kernel_rfl) ba p (fun _=>p) p fun x46 H22=>bw (i:=13) (fun _ _ _ _ hh=>hh) H22 p (by kernel_rfl) ba p (fun _=>p) p fun x50 H23=>V 14 p (bd dz (aH p<|aW e11) p h12)<|I 15 p<|dr mn p p p p p H23 fun _ H24=>⟨.slnil,V 16 p (bd dz (aH p<|aW e14) p h15)<|I 17 p<|dr mn p p p p p H24 fun _ H25=>⟨.slnil,aQ (by kernel_rfl)<|ap<|M p<|J (iT p p)<|U p<|cD (i64.wrap (s6 - 1)) H25 (.cons p<|.cons p<|.cons p<|.cons p<|.cons p<|.cons p<|.nil _) .slnil⟩⟩) fun k20 H21=>bf<|ap<|M p<|J (bj p p)<|U p<|cD (i64.wrap (s1 + 1)) H21 (.cons p<|.cons p<|.cons p<|.cons p<|.cons p<|.nil _) .slnil⟩) fun k9 H10=>z_f 4 p (aT k9)<|z_f 5 p (aT k9)<|z_f 6 p (aT k9)<|z_f 7 p (aT k9)<|z_f 8 p (aT k9)<|z_f 9 p (aT k9)<|z_f 10 p (aT k9)<|z_f 11 p (aT k9)<|z_f 12 p (aT k9)<|z_f 13 p (aT k9)<|z_f 14 p (aT k9)<|z_f 15 p (aT k9)<|V 16 p (ar p k9 p)<|aQ (by kernel_rfl)<|ev_no p p<|bf<|ap<|M p<|J (bj p p)<|U p<|cD (i64.wrap (s1 + 1)) H10 (.cons p<|.cons p<|.cons p<|.cons p<|.cons p<|.nil _) .slnil) fun k4 H5=>bf<|end_i (wA p) ⟨(),p,H5⟩
def gf (a0:Sl) (a1:Int) (a2:Int) (a3:Int) (K:Unit->Hp->Prop) (Rec2:Int->Hp->Prop) (s1:Int):Hp->Prop:=br (decide (s1 < a3)) ( ix a0 (i64.wrap (a2 + s1)) fun q28=>ix a0 (i64.wrap (a1 + s1)) fun q34=>ld (q28.1,q28.2 + Int.toNat (i64.wrap (a2 + s1)) * 1) (cI .i64) fun x29=>ld (q34.1,q34.2 + Int.toNat (i64.wrap (a1 + s1)) * 1) (cI .i64) fun x35=>st (q34.1,q34.2 + Int.toNat (i64.wrap (a1 + s1)) * 1) [.int .i64 x29]<|st (q28.1,q28.2 + Int.toNat (i64.wrap (a2 + s1)) * 1) [.int .i64 x35]<|Rec2 (i64.wrap (s1 + 1))) ( K ())
def jS (a0:Sl) (a1:Int) (a2:Int) (a3:Int) (a4:Value) (K:Unit->Hp->Prop):Hp->Prop:=Lp (gf a0 a1 a2 a3 K) 0
theorem pU (a0:Sl) (a1:Int) (a2:Int) (a3:Int) (a4:Value) {K:Unit->Hp->Prop} {h:Hp} (H:jS a0 a1 a2 a3 a4 K h):cl prog dl [(sv a0),(.int .i64 a1),(.int .i64 a2),(.int .i64 a3),a4] R_ K h:=z_i func175 p p fun _=>O<|U p<|av<|bv (step:=gf a0 a1 a2 a3 K) (fun s1=>[(0,(sv a0)),(1,(.int .i64 a1)),(2,(.int .i64 a2)),(3,(.int .i64 a3)),(10,(.int .i64 s1))]) (fun s1=>[]) H (.cons p<|.cons p<|.cons p<|.cons p<|.cons p<|.nil _) .slnil fun Rec2 s1 _ H3=>al<|O<|M p<|M p<|J (ci p p)<|ad<|aw p H3 (fun k4 H5=>an<|al<|av<|bn (n:=24) [] ck p .slnil<|V 0 p (ai p)<|V 1 p (ai p)<|V 2 p (ai p)<|V 3 p (bj p p)<|V 4 p (ai p)<|V 5 p (ai p)<|V 6 p (ai p)<|V 7 p (bj p p)<|V 8 p (ai p)<|V 9 p (ai p)<|V 10 p (ai p)<|V 11 p (bj p p)<|V 14 p (ai p)<|V 15 p (ai p)<|V 16 p (ai p)<|V 17 p (bj p p)<|dS H5 fun q28 e6 h7 H8=>V 12 p (bd dz (aH p<|aW e6) p h7)<|dS H8 fun q34 e9 h10 H11=>V 18 p (bd dz (aH p<|aW e9) p h10)<|bw (i:=13) (fun _ _ _ _ hh=>hh) H11 p (by kernel_rfl) ba p (fun _=>p) p fun x29 H12=>bw (i:=19) (fun _ _ _ _ hh=>hh) H12 p (by kernel_rfl) ba p (fun _=>p) p fun x35 H13=>V 20 p (bd dz (aH p<|aW e9) p h10)<|I 21 p<|dr mn p p p p p H13 fun _ H14=>⟨.slnil,V 22 p (bd dz (aH p<|aW e6) p h7)<|I 23 p<|dr mn p p p p p H14 fun _ H15=>⟨.slnil,aQ (by kernel_rfl)<|ap<|M p<|J (bj p p)<|U p<|cD (i64.wrap (s1 + 1)) H15 (.cons p<|.cons p<|.cons p<|.cons p<|.cons p<|.nil _) .slnil⟩⟩) fun k4 H5=>bf<|end_i (wA p) ⟨(),p,H5⟩
def hZ (a0:Sl) (a2:Int) (a4:Value) (K:Unit->Hp->Prop) (Rec2:(Int × Int)->Hp->Prop) (s1:Int × Int):Hp->Prop:=br (s1.1 != s1.2) ( br (decide (s1.1 > s1.2)) ( cl prog dl [(sv a0),(.int .i64 (i64.wrap (a2 - s1.1))),(.int .i64 a2),(.int .i64 s1.2),a4] R_ fun (_:Unit)=>Rec2 ((i64.wrap (s1.1 - s1.2)),s1.2)) ( cl prog dl [(sv a0),(.int .i64 (i64.wrap (a2 - s1.1))),(.int .i64 (i64.wrap ((i64.wrap (a2 + s1.2)) - s1.1))),(.int .i64 s1.1),a4] R_ fun (_:Unit)=>Rec2 (s1.1,(i64.wrap (s1.2 - s1.1))))) ( cl prog dl [(sv a0),(.int .i64 (i64.wrap (a2 - s1.1))),(.int .i64 a2),(.int .i64 s1.1),a4] R_ fun (_:Unit)=>K ())
def lH (a0:Sl) (a1:Int) (a2:Int) (a3:Int) (a4:Value) (K:Unit->Hp->Prop):Hp->Prop:=Lp (hZ a0 a2 a4 K) ((i64.wrap (a2 - a1)),(i64.wrap (a3 - a2)))
theorem rK (a0:Sl) (a1:Int) (a2:Int) (a3:Int) (a4:Value) {K:Unit->Hp->Prop} {h:Hp} (H:lH a0 a1 a2 a3 a4 K h):cl prog dH [(sv a0),(.int .i64 a1),(.int .i64 a2),(.int .i64 a3),a4] R_ K h:=z_i func165 p p fun _=>O<|M p<|M p<|J (iT p p)<|U p<|O<|M p<|M p<|J (iT p p)<|U p<|al<|av<|bv (step:=hZ a0 a2 a4 K) (fun s1=>[(0,(sv a0)),(2,(.int .i64 a2)),(4,a4),(10,(.int .i64 s1.1)),(11,(.int .i64 s1.2))]) (fun s1=>[]) H (.cons p<|.cons p<|.cons p<|.cons p<|.cons p<|.nil _) .slnil fun Rec2 s1 _ H3=>al<|O<|M p<|M p<|J (oS p p)<|ad<|aw p H3 (fun k4 H5=>an<|av<|O<|M p<|M p<|J (oR p p)<|ad<|aw p H5 (fun k6 H7=>O<|M p<|M p<|M p<|J (iT p p)<|M p<|M p<|M p<|aa<|D H7 en_175 fun r31 _ H8=>ad<|ap<|M p<|M p<|J (iT p p)<|U p<|cD ((i64.wrap (s1.1 - s1.2)),s1.2) H8 (.cons p<|.cons p<|.cons p<|.cons p<|.cons p<|.nil _) .slnil) fun k6 H7=>O<|M p<|M p<|M p<|J (iT p p)<|M p<|M p<|J (bj p p)<|M p<|J (iT p p)<|M p<|M p<|aa<|D H7 en_175 fun r46 _ H9=>ad<|ap<|M p<|M p<|J (iT p p)<|U p<|cD (s1.1,(i64.wrap (s1.2 - s1.1))) H9 (.cons p<|.cons p<|.cons p<|.cons p<|.cons p<|.nil _) .slnil) fun k4 H5=>bf<|ap<|M p<|M p<|M p<|J (iT p p)<|M p<|M p<|M p<|aa<|D H5 en_175 fun r57 _ H10=>ad<|end_i (wA p) ⟨(),p,H10⟩
def gB (a0:Sl) (K:Unit->Hp->Prop) (s3:Int × Int) (Rec20:Int->Hp->Prop) (s19:Int):Hp->Prop:=br (decide (s19 < (i64.wrap (s3.1 - 1)))) ( ix a0 (i64.wrap (s19 + 1)) fun q69=>ix a0 s19 fun q73=>ld (q69.1,q69.2 + Int.toNat (i64.wrap (s19 + 1)) * 1) (cI .i64) fun x70=>ld (q73.1,q73.2 + Int.toNat s19 * 1) (cI .i64) fun x74=>st (q73.1,q73.2 + Int.toNat s19 * 1) [.int .i64 x70]<|st (q69.1,q69.2 + Int.toNat (i64.wrap (s19 + 1)) * 1) [.int .i64 x74]<|Rec20 (i64.wrap (s19 + 1))) ( K ())
def eW (a0:Sl) (a1:Int) (a4:Value) (K:Unit->Hp->Prop) (Rec4:(Int × Int)->Hp->Prop) (s3:Int × Int):Hp->Prop:=br (decide (s3.1 < s3.2)) ( ix a0 (i64.wrap (fdiv (u64.wrap (i64.wrap (s3.1 + s3.2))) (2 ^ (min (Int.toNat 1) (IntKind.bits .u64))))) fun q43=>ix a0 a1 fun q47=>ld (q43.1,q43.2 + Int.toNat (i64.wrap (fdiv (u64.wrap (i64.wrap (s3.1 + s3.2))) (2 ^ (min (Int.toNat 1) (IntKind.bits .u64))))) * 1) (cI .i64) fun x44=>ld (q47.1,q47.2 + Int.toNat a1 * 1) (cI .i64) fun x48=>clv prog a4 [(.int .i64 x44),(.int .i64 x48)] eE fun r49=>br (decide (r49 < 0)) ( Rec4 ((i64.wrap ((i64.wrap (fdiv (u64.wrap (i64.wrap (s3.1 + s3.2))) (2 ^ (min (Int.toNat 1) (IntKind.bits .u64))))) + 1)),s3.2)) ( Rec4 (s3.1,(i64.wrap (fdiv (u64.wrap (i64.wrap (s3.1 + s3.2))) (2 ^ (min (Int.toNat 1) (IntKind.bits .u64)))))))) ( Lp (gB a0 K s3) a1)
def gA (a0:Sl) (K:Unit->Hp->Prop) (s36:Int × Int) (Rec53:Int->Hp->Prop) (s52:Int):Hp->Prop:=br (decide (s52 > s36.1)) ( ix a0 (i64.wrap (s52 - 1)) fun q121=>ix a0 s52 fun q125=>ld (q121.1,q121.2 + Int.toNat (i64.wrap (s52 - 1)) * 1) (cI .i64) fun x122=>ld (q125.1,q125.2 + Int.toNat s52 * 1) (cI .i64) fun x126=>st (q125.1,q125.2 + Int.toNat s52 * 1) [.int .i64 x122]<|st (q121.1,q121.2 + Int.toNat (i64.wrap (s52 - 1)) * 1) [.int .i64 x126]<|Rec53 (i64.wrap (s52 - 1))) ( K ())
def eV (a0:Sl) (a2:Int) (a4:Value) (K:Unit->Hp->Prop) (Rec37:(Int × Int)->Hp->Prop) (s36:Int × Int):Hp->Prop:=br (decide (s36.1 < s36.2)) ( ix a0 a2 fun q95=>ix a0 (i64.wrap (fdiv (u64.wrap (i64.wrap (s36.1 + s36.2))) (2 ^ (min (Int.toNat 1) (IntKind.bits .u64))))) fun q99=>ld (q95.1,q95.2 + Int.toNat a2 * 1) (cI .i64) fun x96=>ld (q99.1,q99.2 + Int.toNat (i64.wrap (fdiv (u64.wrap (i64.wrap (s36.1 + s36.2))) (2 ^ (min (Int.toNat 1) (IntKind.bits .u64))))) * 1) (cI .i64) fun x100=>clv prog a4 [(.int .i64 x96),(.int .i64 x100)] eE fun r101=>br (!(decide (r101 < 0))) ( Rec37 ((i64.wrap ((i64.wrap (fdiv (u64.wrap (i64.wrap (s36.1 + s36.2))) (2 ^ (min (Int.toNat 1) (IntKind.bits .u64))))) + 1)),s36.2)) ( Rec37 (s36.1,(i64.wrap (fdiv (u64.wrap (i64.wrap (s36.1 + s36.2))) (2 ^ (min (Int.toNat 1) (IntKind.bits .u64)))))))) ( Lp (gA a0 K s36) a2)
def dK (a0:Sl) (a1:Int) (a2:Int) (a3:Int) (a4:Value) (K:Unit->Hp->Prop) (s69:Int × Int) (s87:Unit):Hp->Prop:=br ((decide ((i64.wrap (fdiv (u64.wrap (i64.wrap (a1 + a3))) (2 ^ (min (Int.toNat 1) (IntKind.bits .u64))))) < (i64.wrap ((i64.wrap ((i64.wrap (fdiv (u64.wrap (i64.wrap (a1 + a3))) (2 ^ (min (Int.toNat 1) (IntKind.bits .u64))))) + a2)) - s69.1)))) && (decide ((i64.wrap ((i64.wrap ((i64.wrap (fdiv (u64.wrap (i64.wrap (a1 + a3))) (2 ^ (min (Int.toNat 1) (IntKind.bits .u64))))) + a2)) - s69.1)) < a3))) ( cl prog cm [(sv a0),(.int .i64 (i64.wrap (fdiv (u64.wrap (i64.wrap (a1 + a3))) (2 ^ (min (Int.toNat 1) (IntKind.bits .u64)))))),(.int .i64 (i64.wrap ((i64.wrap ((i64.wrap (fdiv (u64.wrap (i64.wrap (a1 + a3))) (2 ^ (min (Int.toNat 1) (IntKind.bits .u64))))) + a2)) - s69.1))),(.int .i64 a3),a4] R_ fun (_:Unit)=>K ()) ( K ())
def bU (a0:Sl) (a1:Int) (a2:Int) (a3:Int) (a4:Value) (K:Unit->Hp->Prop) (s69:Int × Int) (s85:Unit):Hp->Prop:=br ((decide (a1 < s69.1)) && (decide (s69.1 < (i64.wrap (fdiv (u64.wrap (i64.wrap (a1 + a3))) (2 ^ (min (Int.toNat 1) (IntKind.bits .u64)))))))) ( cl prog cm [(sv a0),(.int .i64 a1),(.int .i64 s69.1),(.int .i64 (i64.wrap (fdiv (u64.wrap (i64.wrap (a1 + a3))) (2 ^ (min (Int.toNat 1) (IntKind.bits .u64)))))),a4] R_ fun (_:Unit)=>dK a0 a1 a2 a3 a4 K s69 ()) ( dK a0 a1 a2 a3 a4 K s69 ())
def eU (a0:Sl) (a1:Int) (a2:Int) (a3:Int) (a4:Value) (K:Unit->Hp->Prop) (Rec70:(Int × Int)->Hp->Prop) (s69:Int × Int):Hp->Prop:=br (decide (s69.1 < s69.2)) ( ix a0 (i64.wrap ((i64.wrap ((i64.wrap ((i64.wrap (fdiv (u64.wrap (i64.wrap (a1 + a3))) (2 ^ (min (Int.toNat 1) (IntKind.bits .u64))))) + a2)) - 1)) - (i64.wrap (fdiv (u64.wrap (i64.wrap (s69.1 + s69.2))) (2 ^ (min (Int.toNat 1) (IntKind.bits .u64))))))) fun q163=>ix a0 (i64.wrap (fdiv (u64.wrap (i64.wrap (s69.1 + s69.2))) (2 ^ (min (Int.toNat 1) (IntKind.bits .u64))))) fun q167=>ld (q163.1,q163.2 + Int.toNat (i64.wrap ((i64.wrap ((i64.wrap ((i64.wrap (fdiv (u64.wrap (i64.wrap (a1 + a3))) (2 ^ (min (Int.toNat 1) (IntKind.bits .u64))))) + a2)) - 1)) - (i64.wrap (fdiv (u64.wrap (i64.wrap (s69.1 + s69.2))) (2 ^ (min (Int.toNat 1) (IntKind.bits .u64))))))) * 1) (cI .i64) fun x164=>ld (q167.1,q167.2 + Int.toNat (i64.wrap (fdiv (u64.wrap (i64.wrap (s69.1 + s69.2))) (2 ^ (min (Int.toNat 1) (IntKind.bits .u64))))) * 1) (cI .i64) fun x168=>clv prog a4 [(.int .i64 x164),(.int .i64 x168)] eE fun r169=>br (!(decide (r169 < 0))) ( Rec70 ((i64.wrap ((i64.wrap (fdiv (u64.wrap (i64.wrap (s69.1 + s69.2))) (2 ^ (min (Int.toNat 1) (IntKind.bits .u64))))) + 1)),s69.2)) ( Rec70 (s69.1,(i64.wrap (fdiv (u64.wrap (i64.wrap (s69.1 + s69.2))) (2 ^ (min (Int.toNat 1) (IntKind.bits .u64)))))))) ( br ((decide (s69.1 < a2)) && (decide (a2 < (i64.wrap ((i64.wrap ((i64.wrap (fdiv (u64.wrap (i64.wrap (a1 + a3))) (2 ^ (min (Int.toNat 1) (IntKind.bits .u64))))) + a2)) - s69.1))))) ( cl prog dH [(sv a0),(.int .i64 s69.1),(.int .i64 a2),(.int .i64 (i64.wrap ((i64.wrap ((i64.wrap (fdiv (u64.wrap (i64.wrap (a1 + a3))) (2 ^ (min (Int.toNat 1) (IntKind.bits .u64))))) + a2)) - s69.1))),a4] R_ fun (_:Unit)=>bU a0 a1 a2 a3 a4 K s69 ()) ( bU a0 a1 a2 a3 a4 K s69 ()))
def dL (a0:Sl) (a1:Int) (a2:Int) (a3:Int) (a4:Value) (K:Unit->Hp->Prop) (s67:Int × Int):Hp->Prop:=Lp (eU a0 a1 a2 a3 a4 K) (s67.1,s67.2)
def kw (a0:Sl) (a1:Int) (a2:Int) (a3:Int) (a4:Value) (K:Unit->Hp->Prop):Hp->Prop:=br ((i64.wrap (a2 - a1)) == 1) ( Lp (eW a0 a1 a4 K) (a2,a3)) ( br ((i64.wrap (a3 - a2)) == 1) ( Lp (eV a0 a2 a4 K) (a1,a2)) ( br (decide (a2 > (i64.wrap (fdiv (u64.wrap (i64.wrap (a1 + a3))) (2 ^ (min (Int.toNat 1) (IntKind.bits .u64))))))) ( dL a0 a1 a2 a3 a4 K ((i64.wrap ((i64.wrap ((i64.wrap (fdiv (u64.wrap (i64.wrap (a1 + a3))) (2 ^ (min (Int.toNat 1) (IntKind.bits .u64))))) + a2)) - a3)),(i64.wrap (fdiv (u64.wrap (i64.wrap (a1 + a3))) (2 ^ (min (Int.toNat 1) (IntKind.bits .u64))))))) ( dL a0 a1 a2 a3 a4 K (a1,a2))))
theorem qz (a0:Sl) (a1:Int) (a2:Int) (a3:Int) (a4:Value) {K:Unit->Hp->Prop} {h:Hp} (H:kw a0 a1 a2 a3 a4 K h):cl prog cm [(sv a0),(.int .i64 a1),(.int .i64 a2),(.int .i64 a3),a4] R_ K h:=z_i func139 p p fun _=>al<|O<|M p<|M p<|J (iT p p)<|J (bP p p)<|ad<|aw p H (fun k1 H2=>O<|M p<|U p<|O<|M p<|U p<|al<|av<|bv (step:=eW a0 a1 a4 K) (fun s3=>[(0,(sv a0)),(1,(.int .i64 a1)),(4,a4),(10,(.int .i64 s3.1)),(11,(.int .i64 s3.2))]) (fun s3=>[]) H2 (.cons p<|.cons p<|.cons p<|.cons p<|.cons p<|.nil _) .slnil fun Rec4 s3 _ H5=>al<|O<|M p<|M p<|J (ci p p)<|ad<|aw p H5 (fun k6 H7=>an<|av<|O<|M p<|M p<|J (bj p p)<|J (dv ⟨_,underlying3⟩ underlying217 p)<|J (v_shr p p (by decide))<|J (dv ⟨_,underlying217⟩ underlying3 p)<|U p<|al<|bn (n:=11) [] ck p .slnil<|V 0 p (ai p)<|V 1 p (ai p)<|V 2 p (ai p)<|V 5 p (ai p)<|V 6 p (ai p)<|dS H7 fun q43 e8 h9 H10=>V 3 p (bd dz (aH p<|aW e8) p h9)<|dS H10 fun q47 e11 h12 H13=>V 7 p (bd dz (aH p<|aW e11) p h12)<|bw (i:=4) (fun _ _ _ _ hh=>hh) H13 p (by kernel_rfl) ba p (fun _=>p) p fun x44 H14=>bw (i:=8) (fun _ _ _ _ hh=>hh) H14 p (by kernel_rfl) ba p (fun _=>p) p fun x48 H15=>I 9 p<|to_clv H15 p p p fun r49 _ H16=>⟨.slnil,V 10 p (ci p p)<|aQ (by kernel_rfl)<|aw p H16 (fun k17 H18=>ap<|M p<|J (bj p p)<|U p<|cD ((i64.wrap ((i64.wrap (fdiv (u64.wrap (i64.wrap (s3.1 + s3.2))) (2 ^ (min (Int.toNat 1) (IntKind.bits .u64))))) + 1)),s3.2) H18 (.cons p<|.cons p<|.cons p<|.cons p<|.cons p<|.nil _) .slnil) fun k17 H18=>ap<|M p<|U p<|cD (s3.1,(i64.wrap (fdiv (u64.wrap (i64.wrap (s3.1 + s3.2))) (2 ^ (min (Int.toNat 1) (IntKind.bits .u64)))))) H18 (.cons p<|.cons p<|.cons p<|.cons p<|.cons p<|.nil _) .slnil⟩) fun k6 H7=>bf<|al<|O<|M p<|U p<|av<|bv (step:=gB a0 K s3) (fun s19=>[(0,(sv a0)),(10,(.int .i64 s3.1)),(13,(.int .i64 s19))]) (fun s19=>[]) H7 (.cons p<|.cons p<|.cons p<|.nil _) .slnil fun Rec20 s19 _ H21=>al<|O<|M p<|M p<|J (iT p p)<|J (ci p p)<|ad<|aw p H21 (fun k22 H23=>an<|al<|av<|bn (n:=18) [] ck p .slnil<|V 0 p (ai p)<|V 1 p (ai p)<|V 2 p (ai p)<|V 3 p (ai p)<|V 4 p (bj p p)<|V 5 p (ai p)<|V 6 p (ai p)<|V 7 p (bj p p)<|V 10 p (ai p)<|V 11 p (ai p)<|dS H23 fun q69 e24 h25 H26=>V 8 p (bd dz (aH p<|aW e24) p h25)<|dS H26 fun q73 e27 h28 H29=>V 12 p (bd dz (aH p<|aW e27) p h28)<|bw (i:=9) (fun _ _ _ _ hh=>hh) H29 p (by kernel_rfl) ba p (fun _=>p) p fun x70 H30=>bw (i:=13) (fun _ _ _ _ hh=>hh) H30 p (by kernel_rfl) ba p (fun _=>p) p fun x74 H31=>V 14 p (bd dz (aH p<|aW e27) p h28)<|I 15 p<|dr mn p p p p p H31 fun _ H32=>⟨.slnil,V 16 p (bd dz (aH p<|aW e24) p h25)<|I 17 p<|dr mn p p p p p H32 fun _ H33=>⟨.slnil,aQ (by kernel_rfl)<|ap<|M p<|J (bj p p)<|U p<|cD (i64.wrap (s19 + 1)) H33 (.cons p<|.cons p<|.cons p<|.nil _) .slnil⟩⟩) fun k22 H23=>bf<|aj<|bB (wA p) ⟨(),p,H23⟩) fun k1 H2=>an<|al<|O<|M p<|M p<|J (iT p p)<|J (bP p p)<|ad<|aw p H2 (fun k34 H35=>O<|M p<|U p<|O<|M p<|U p<|al<|av<|bv (step:=eV a0 a2 a4 K) (fun s36=>[(0,(sv a0)),(2,(.int .i64 a2)),(4,a4),(14,(.int .i64 s36.1)),(15,(.int .i64 s36.2))]) (fun s36=>[]) H35 (.cons p<|.cons p<|.cons p<|.cons p<|.cons p<|.nil _) .slnil fun Rec37 s36 _ H38=>al<|O<|M p<|M p<|J (ci p p)<|ad<|aw p H38 (fun k39 H40=>an<|av<|O<|M p<|M p<|J (bj p p)<|J (dv ⟨_,underlying3⟩ underlying217 p)<|J (v_shr p p (by decide))<|J (dv ⟨_,underlying217⟩ underlying3 p)<|U p<|al<|bn (n:=12) [] ck p .slnil<|V 0 p (ai p)<|V 1 p (ai p)<|V 2 p (ai p)<|V 5 p (ai p)<|V 6 p (ai p)<|dS H40 fun q95 e41 h42 H43=>V 3 p (bd dz (aH p<|aW e41) p h42)<|dS H43 fun q99 e44 h45 H46=>V 7 p (bd dz (aH p<|aW e44) p h45)<|bw (i:=4) (fun _ _ _ _ hh=>hh) H46 p (by kernel_rfl) ba p (fun _=>p) p fun x96 H47=>bw (i:=8) (fun _ _ _ _ hh=>hh) H47 p (by kernel_rfl) ba p (fun _=>p) p fun x100 H48=>I 9 p<|to_clv H48 p p p fun r101 _ H49=>⟨.slnil,V 10 p (ci p p)<|V 11 p (cu p)<|aQ (by kernel_rfl)<|aw p H49 (fun k50 H51=>ap<|M p<|J (bj p p)<|U p<|cD ((i64.wrap ((i64.wrap (fdiv (u64.wrap (i64.wrap (s36.1 + s36.2))) (2 ^ (min (Int.toNat 1) (IntKind.bits .u64))))) + 1)),s36.2) H51 (.cons p<|.cons p<|.cons p<|.cons p<|.cons p<|.nil _) .slnil) fun k50 H51=>ap<|M p<|U p<|cD (s36.1,(i64.wrap (fdiv (u64.wrap (i64.wrap (s36.1 + s36.2))) (2 ^ (min (Int.toNat 1) (IntKind.bits .u64)))))) H51 (.cons p<|.cons p<|.cons p<|.cons p<|.cons p<|.nil _) .slnil⟩) fun k39 H40=>bf<|al<|O<|M p<|U p<|av<|bv (step:=gA a0 K s36) (fun s52=>[(0,(sv a0)),(14,(.int .i64 s36.1)),(17,(.int .i64 s52))]) (fun s52=>[]) H40 (.cons p<|.cons p<|.cons p<|.nil _) .slnil fun Rec53 s52 _ H54=>al<|O<|M p<|M p<|J (oR p p)<|ad<|aw p H54 (fun k55 H56=>an<|al<|av<|bn (n:=18) [] ck p .slnil<|V 0 p (ai p)<|V 1 p (ai p)<|V 2 p (ai p)<|V 3 p (ai p)<|V 4 p (iT p p)<|V 5 p (ai p)<|V 6 p (ai p)<|V 7 p (iT p p)<|V 10 p (ai p)<|V 11 p (ai p)<|dS H56 fun q121 e57 h58 H59=>V 8 p (bd dz (aH p<|aW e57) p h58)<|dS H59 fun q125 e60 h61 H62=>V 12 p (bd dz (aH p<|aW e60) p h61)<|bw (i:=9) (fun _ _ _ _ hh=>hh) H62 p (by kernel_rfl) ba p (fun _=>p) p fun x122 H63=>bw (i:=13) (fun _ _ _ _ hh=>hh) H63 p (by kernel_rfl) ba p (fun _=>p) p fun x126 H64=>V 14 p (bd dz (aH p<|aW e60) p h61)<|I 15 p<|dr mn p p p p p H64 fun _ H65=>⟨.slnil,V 16 p (bd dz (aH p<|aW e57) p h58)<|I 17 p<|dr mn p p p p p H65 fun _ H66=>⟨.slnil,aQ (by kernel_rfl)<|ap<|M p<|J (iT p p)<|U p<|cD (i64.wrap (s52 - 1)) H66 (.cons p<|.cons p<|.cons p<|.nil _) .slnil⟩⟩) fun k55 H56=>bf<|aj<|bB (wA p) ⟨(),p,H56⟩) fun k34 H35=>an<|O<|M p<|M p<|J (bj p p)<|J (dv ⟨_,underlying3⟩ underlying217 p)<|J (v_shr p p (by decide))<|J (dv ⟨_,underlying217⟩ underlying3 p)<|U p<|O<|M p<|M p<|J (bj p p)<|U p<|O<|J (au p)<|U p<|eC (dL a0 a1 a2 a3 a4 K) (fun s67=>[(0,(sv a0)),(1,(.int .i64 a1)),(2,(.int .i64 a2)),(3,(.int .i64 a3)),(4,a4),(18,(.int .i64 (i64.wrap (fdiv (u64.wrap (i64.wrap (a1 + a3))) (2 ^ (min (Int.toNat 1) (IntKind.bits .u64))))))),(19,(.int .i64 (i64.wrap ((i64.wrap (fdiv (u64.wrap (i64.wrap (a1 + a3))) (2 ^ (min (Int.toNat 1) (IntKind.bits .u64))))) + a2)))),(20,(.int .i64 s67.1)),(21,(.int .i64 s67.2))]) (fun s67=>[]) (O<|M p<|M p<|J (oR p p)<|ad<|aw p H35 (fun k107 H108=>O<|M p<|M p<|J (iT p p)<|U p<|ap<|M p<|U p<|cE ((i64.wrap ((i64.wrap ((i64.wrap (fdiv (u64.wrap (i64.wrap (a1 + a3))) (2 ^ (min (Int.toNat 1) (IntKind.bits .u64))))) + a2)) - a3)),(i64.wrap (fdiv (u64.wrap (i64.wrap (a1 + a3))) (2 ^ (min (Int.toNat 1) (IntKind.bits .u64)))))) H108 (.cons p<|.cons p<|.cons p<|.cons p<|.cons p<|.cons p<|.cons p<|.cons p<|.cons p<|.nil _) .slnil) fun k107 H108=>O<|M p<|U p<|ap<|M p<|U p<|cE (a1,a2) H108 (.cons p<|.cons p<|.cons p<|.cons p<|.cons p<|.cons p<|.cons p<|.cons p<|.cons p<|.nil _) .slnil) fun s67 _ H68=>O<|M p<|J (iT p p)<|U p<|al<|av<|bv (step:=eU a0 a1 a2 a3 a4 K) (fun s69=>[(0,(sv a0)),(1,(.int .i64 a1)),(2,(.int .i64 a2)),(3,(.int .i64 a3)),(4,a4),(18,(.int .i64 (i64.wrap (fdiv (u64.wrap (i64.wrap (a1 + a3))) (2 ^ (min (Int.toNat 1) (IntKind.bits .u64))))))),(19,(.int .i64 (i64.wrap ((i64.wrap (fdiv (u64.wrap (i64.wrap (a1 + a3))) (2 ^ (min (Int.toNat 1) (IntKind.bits .u64))))) + a2)))),(20,(.int .i64 s69.1)),(21,(.int .i64 s69.2)),(22,(.int .i64 (i64.wrap ((i64.wrap ((i64.wrap (fdiv (u64.wrap (i64.wrap (a1 + a3))) (2 ^ (min (Int.toNat 1) (IntKind.bits .u64))))) + a2)) - 1))))]) (fun s69=>[]) H68 (.cons p<|.cons p<|.cons p<|.cons p<|.cons p<|.cons p<|.cons p<|.cons p<|.cons p<|.cons p<|.nil _) .slnil fun Rec70 s69 _ H71=>al<|O<|M p<|M p<|J (ci p p)<|ad<|aw p H71 (fun k72 H73=>an<|av<|O<|M p<|M p<|J (bj p p)<|J (dv ⟨_,underlying3⟩ underlying217 p)<|J (v_shr p p (by decide))<|J (dv ⟨_,underlying217⟩ underlying3 p)<|U p<|al<|bn (n:=14) [] ck p .slnil<|V 0 p (ai p)<|V 1 p (ai p)<|V 2 p (ai p)<|V 3 p (ai p)<|V 4 p (iT p p)<|V 7 p (ai p)<|V 8 p (ai p)<|dS H73 fun q163 e74 h75 H76=>V 5 p (bd dz (aH p<|aW e74) p h75)<|dS H76 fun q167 e77 h78 H79=>V 9 p (bd dz (aH p<|aW e77) p h78)<|bw (i:=6) (fun _ _ _ _ hh=>hh) H79 p (by kernel_rfl) ba p (fun _=>p) p fun x164 H80=>bw (i:=10) (fun _ _ _ _ hh=>hh) H80 p (by kernel_rfl) ba p (fun _=>p) p fun x168 H81=>I 11 p<|to_clv H81 p p p fun r169 _ H82=>⟨.slnil,V 12 p (ci p p)<|V 13 p (cu p)<|aQ (by kernel_rfl)<|aw p H82 (fun k83 H84=>ap<|M p<|J (bj p p)<|U p<|cD ((i64.wrap ((i64.wrap (fdiv (u64.wrap (i64.wrap (s69.1 + s69.2))) (2 ^ (min (Int.toNat 1) (IntKind.bits .u64))))) + 1)),s69.2) H84 (.cons p<|.cons p<|.cons p<|.cons p<|.cons p<|.cons p<|.cons p<|.cons p<|.cons p<|.cons p<|.nil _) .slnil) fun k83 H84=>ap<|M p<|U p<|cD (s69.1,(i64.wrap (fdiv (u64.wrap (i64.wrap (s69.1 + s69.2))) (2 ^ (min (Int.toNat 1) (IntKind.bits .u64)))))) H84 (.cons p<|.cons p<|.cons p<|.cons p<|.cons p<|.cons p<|.cons p<|.cons p<|.cons p<|.cons p<|.nil _) .slnil⟩) fun k72 H73=>bf<|O<|M p<|M p<|J (iT p p)<|U p<|eC (bU a0 a1 a2 a3 a4 K s69) (fun s85=>[(0,(sv a0)),(1,(.int .i64 a1)),(3,(.int .i64 a3)),(4,a4),(18,(.int .i64 (i64.wrap (fdiv (u64.wrap (i64.wrap (a1 + a3))) (2 ^ (min (Int.toNat 1) (IntKind.bits .u64))))))),(20,(.int .i64 s69.1)),(24,(.int .i64 (i64.wrap ((i64.wrap ((i64.wrap (fdiv (u64.wrap (i64.wrap (a1 + a3))) (2 ^ (min (Int.toNat 1) (IntKind.bits .u64))))) + a2)) - s69.1))))]) (fun s85=>[]) (O<|M p<|M p<|J (ci p p)<|M p<|W p p (ax _) (fun g101=>wv<|ai p)<|W p p (ax _) (fun g102=>wv<|ai p)<|W p p (ax _) (fun g103=>wv<|ci (aC p g103)<|aC p g103)<|J (bN p p)<|ad<|aw p H73 (fun k104 H105=>ap<|M p<|M p<|M p<|M p<|M p<|aa<|D H105 en_165 fun r191 _ H106=>ad<|cE () H106 (.cons p<|.cons p<|.cons p<|.cons p<|.cons p<|.cons p<|.cons p<|.nil _) .slnil) fun k104 H105=>an<|cE () H105 (.cons p<|.cons p<|.cons p<|.cons p<|.cons p<|.cons p<|.cons p<|.nil _) .slnil) fun s85 _ H86=>eC (dK a0 a1 a2 a3 a4 K s69) (fun s87=>[(0,(sv a0)),(3,(.int .i64 a3)),(4,a4),(18,(.int .i64 (i64.wrap (fdiv (u64.wrap (i64.wrap (a1 + a3))) (2 ^ (min (Int.toNat 1) (IntKind.bits .u64))))))),(24,(.int .i64 (i64.wrap ((i64.wrap ((i64.wrap (fdiv (u64.wrap (i64.wrap (a1 + a3))) (2 ^ (min (Int.toNat 1) (IntKind.bits .u64))))) + a2)) - s69.1))))]) (fun s87=>[]) (O<|M p<|M p<|J (ci p p)<|M p<|W p p (ax _) (fun g95=>wv<|ai p)<|W p p (ax _) (fun g96=>wv<|ai p)<|W p p (ax _) (fun g97=>wv<|ci (aC p g97)<|aC p g97)<|J (bN p p)<|ad<|aw p H86 (fun k98 H99=>ap<|M p<|M p<|M p<|M p<|M p<|aa<|D H99 en_139 fun r205 _ H100=>ad<|cE () H100 (.cons p<|.cons p<|.cons p<|.cons p<|.cons p<|.nil _) .slnil) fun k98 H99=>an<|cE () H99 (.cons p<|.cons p<|.cons p<|.cons p<|.cons p<|.nil _) .slnil) fun s87 _ H88=>O<|M p<|M p<|J (ci p p)<|M p<|W p p (ax _) (fun g89=>wv<|ai p)<|W p p (ax _) (fun g90=>wv<|ai p)<|W p p (ax _) (fun g91=>wv<|ci (aC p g91)<|aC p g91)<|J (bN p p)<|ad<|aw p H88 (fun k92 H93=>ap<|M p<|M p<|M p<|M p<|M p<|aa<|D H93 en_139 fun r219 _ H94=>ad<|end_i (wA p) ⟨(),p,H94⟩) fun k92 H93=>an<|end_i (wA p) ⟨(),p,H93⟩
def hY (a0:Sl) (a1:Int) (a2:Value) (Rec9:Int->Hp->Prop) (s8:Int) (Rec14:(Int × Int)->Hp->Prop) (s13:Int × Int):Hp->Prop:=br (decide (s13.2 <= a1)) ( cl prog cm [(sv a0),(.int .i64 s13.1),(.int .i64 (i64.wrap (s13.1 + s8))),(.int .i64 s13.2),a2] R_ fun (_:Unit)=>Rec14 (s13.2,(i64.wrap (s13.2 + (i64.wrap (2 * s8)))))) ( br (decide ((i64.wrap (s13.1 + s8)) < a1)) ( cl prog cm [(sv a0),(.int .i64 s13.1),(.int .i64 (i64.wrap (s13.1 + s8))),(.int .i64 a1),a2] R_ fun (_:Unit)=>Rec9 (i64.wrap (s8 * 2))) ( Rec9 (i64.wrap (s8 * 2))))
def cL (a0:Sl) (a1:Int) (a2:Value) (K:Unit->Hp->Prop) (Rec9:Int->Hp->Prop) (s8:Int):Hp->Prop:=br (decide (s8 < a1)) ( Lp (hY a0 a1 a2 Rec9 s8) (0,(i64.wrap (2 * s8)))) ( K ())
def eu (a0:Sl) (a1:Int) (a2:Value) (K:Unit->Hp->Prop) (Rec2:(Int × Int)->Hp->Prop) (s1:Int × Int):Hp->Prop:=br (decide (s1.2 <= a1)) ( cl prog bQ [(sv a0),(.int .i64 s1.1),(.int .i64 s1.2),a2] R_ fun (_:Unit)=>Rec2 (s1.2,(i64.wrap (s1.2 + 20)))) ( cl prog bQ [(sv a0),(.int .i64 s1.1),(.int .i64 a1),a2] R_ fun (_:Unit)=>Lp (cL a0 a1 a2 K) 20)
def ia (a0:Sl) (a1:Int) (a2:Value) (K:Unit->Hp->Prop):Hp->Prop:=Lp (eu a0 a1 a2 K) (0,20)
theorem kU (a0:Sl) (a1:Int) (a2:Value) {K:Unit->Hp->Prop} {h:Hp} (H:ia a0 a1 a2 K h):cl prog lX [(sv a0),(.int .i64 a1),a2] R_ K h:=z_i func94 p p fun _=>O<|U p<|O<|M p<|J (au p)<|U p<|al<|av<|bv (step:=eu a0 a1 a2 K) (fun s1=>[(0,(sv a0)),(1,(.int .i64 a1)),(2,a2),(6,(.int .i64 20)),(7,(.int .i64 s1.1)),(8,(.int .i64 s1.2))]) (fun s1=>[]) H (.cons p<|.cons p<|.cons p<|.cons p<|.cons p<|.cons p<|.nil _) .slnil fun Rec2 s1 _ H3=>al<|O<|M p<|M p<|J (v_le p p)<|ad<|aw p H3 (fun k4 H5=>an<|av<|O<|M p<|M p<|M p<|M p<|aa<|D H5 en_138 fun r18 _ H6=>ad<|O<|M p<|U p<|ap<|M p<|M p<|J (bj p p)<|U p<|cD (s1.2,(i64.wrap (s1.2 + 20))) H6 (.cons p<|.cons p<|.cons p<|.cons p<|.cons p<|.cons p<|.nil _) .slnil) fun k4 H5=>bf<|O<|M p<|M p<|M p<|M p<|aa<|D H5 en_138 fun r27 _ H7=>ad<|av<|bv (step:=cL a0 a1 a2 K) (fun s8=>[(0,(sv a0)),(1,(.int .i64 a1)),(2,a2),(6,(.int .i64 s8))]) (fun s8=>[]) H7 (.cons p<|.cons p<|.cons p<|.cons p<|.nil _) .slnil fun Rec9 s8 _ H10=>al<|O<|M p<|M p<|J (ci p p)<|ad<|aw p H10 (fun k11 H12=>an<|av<|O<|M p<|J (v_mul p p)<|J (au p)<|U p<|al<|av<|bv (step:=hY a0 a1 a2 Rec9 s8) (fun s13=>[(0,(sv a0)),(1,(.int .i64 a1)),(2,a2),(6,(.int .i64 s8)),(7,(.int .i64 s13.1)),(8,(.int .i64 s13.2))]) (fun s13=>[]) H12 (.cons p<|.cons p<|.cons p<|.cons p<|.cons p<|.cons p<|.nil _) .slnil fun Rec14 s13 _ H15=>al<|O<|M p<|M p<|J (v_le p p)<|ad<|aw p H15 (fun k16 H17=>an<|av<|O<|M p<|M p<|M p<|M p<|J (bj p p)<|M p<|M p<|aa<|D H17 en_139 fun r43 _ H18=>ad<|O<|M p<|U p<|ap<|M p<|M p<|J (v_mul p p)<|J (bj p p)<|U p<|cD (s13.2,(i64.wrap (s13.2 + (i64.wrap (2 * s8))))) H18 (.cons p<|.cons p<|.cons p<|.cons p<|.cons p<|.cons p<|.nil _) .slnil) fun k16 H17=>bf<|al<|O<|M p<|M p<|J (bj p p)<|U p<|O<|M p<|M p<|J (ci p p)<|ad<|aw p H17 (fun k19 H20=>ap<|M p<|M p<|M p<|M p<|M p<|aa<|D H20 en_139 fun r60 _ H21=>ad<|ap<|M p<|J (v_mul p p)<|U p<|cD (i64.wrap (s8 * 2)) H21 (.cons p<|.cons p<|.cons p<|.cons p<|.nil _) .slnil) fun k19 H20=>an<|ap<|M p<|J (v_mul p p)<|U p<|cD (i64.wrap (s8 * 2)) H20 (.cons p<|.cons p<|.cons p<|.cons p<|.nil _) .slnil) fun k11 H12=>bf<|end_i (wA p) ⟨(),p,H12⟩
def fO (a0:Sl) (a1:Value) (K:Unit->Hp->Prop):Hp->Prop:=cl prog lX [(sv a0),(.int .i64 (a0.len:Int)),a1] R_ fun (_:Unit)=>K ()
theorem iU (a0:Sl) (a1:Value) {K:Unit->Hp->Prop} {h:Hp} (H:fO a0 a1 K h):cl prog eG [(sv a0),a1] R_ K h:=z_i func47 p p fun _=>ap<|M p<|M p<|J (dE p underlying23 p)<|M p<|aa<|D H en_94 fun r8 _ H1=>ad<|end_i (wA p) ⟨(),p,H1⟩
def kx (a0:Sl) (K:Sl->Hp->Prop):Hp->Prop:=br a0.a.isNone ( K (⟨none,0,0,none⟩:Sl)) ( hpv prog (Instr.buildSlice be 0 #[]) ce fun (v5:Sl)=>hpv prog (Builtin.append_ #[be,be] be #[(sv v5),(sv a0)]) ce fun (v7:Sl)=>K v7)
theorem qA (a0:Sl) {K:Sl->Hp->Prop} {h:Hp} (H:kx a0 K h):cl prog gT [(sv a0)] ce K h:=z_i func170 p p fun _=>O<|U p<|al<|O<|M p<|J (v_seqT underlying97 p)<|ad<|aw p H (fun k1 H2=>O<|U p<|aj<|Z ⟨(⟨none,0,0,none⟩:Sl),p,H2⟩) fun k1 H2=>an<|O<|aa<|aR H2 (bt (vs:=[]) p) p fun v5 _ H3=>M p<|aa<|aR H3 (dQ p p) p fun v7 _ H4=>U p<|aj<|Z ⟨v7,p,H4⟩
end
section
open Go Mb
abbrev vI (s:Sl) (xs:List Int):As:=vec lG 1 (cI .i64) s xs
def fJ (a:Int):List Int->Int->Int
 | [],_=>-1
 | x::xs,i=>if a = x then i else fJ a xs (i + 1)
theorem sp_slices_Index (s:Sl) (a:Int) (xs:List Int) (hb:xs.length < 2^62) :
  Sp prog kI [sv s,.int .i64 a] eE [vI s xs] (fun r=>pa_ (r = fJ a xs 0) [vI s xs]):=by
 intro h st
 refine vy _ _ ?_
 unfold ow
 refine Lp.intro (fun (i:Int) h=>∃ n:Nat,i = n/\n <= xs.length/\fJ a (xs.drop n) n = fJ a xs 0/\az [vI s xs] h) (fun (i:Int) _=>xs.length - i.toNat) ⟨0,rfl,zero_le _,by simp,st⟩ ?_
 rintro i h ⟨n,rfl,hn,he,st⟩
 have hl:=(cf st (j:=0) rfl).1
 unfold jR
 refine aX (fun k=>?_) (fun k=>?_)
 ·have hlt:n < xs.length:=by simp [hl] at k; exact k
  refine dc st (j:=0) rfl (by omega) (by omega) fun q hq=>?_
  refine dA (j:=0) (i:=n) (k:=0) xs[n] (cq _) st rfl hq (by simp) (aD hlt) (by simp) ?_
  have hd:xs.drop n = xs[n]::xs.drop (n + 1):=List.drop_eq_getElem_cons hlt
  rw [hd] at he
  refine aX (fun k2=>?_) (fun k2=>?_)
  ·have k2':a = xs[n]:=by simpa using k2
   rw [fJ,if_pos k2'] at he
   exact ⟨he,st⟩
  ·have k2':¬ a = xs[n]:=by simpa using k2
   rw [fJ,if_neg k2'] at he
   have hw:i64.wrap ((n:Int) + 1) = ((n + 1:Nat):Int):=by rw [bm (by omega) (by omega)]; rfl
   rw [hw]
   exact ⟨⟨n + 1,rfl,hlt,by simpa using he,st⟩,by simp; omega⟩
 ·have:n = xs.length:=by simp [hl] at k; omega
  subst this
  simp only [List.drop_length,fJ] at he
  exact ⟨he,st⟩
def gn (x:Ptr) (p:List Int):As:=fun h=>∃ bs:Nat × Sl,(x = some (bs.1,0)/\p.length <= 16)/\az [blk bs.1 rf [sv bs.2],vI bs.2 p] h
namespace Pool
def refs (p:List Int) (i:Int):Int:=if i < 0 then 0 else p.getD i.toNat 0
def take (p:List Int):Int × Bool × List Int :=
 if fJ 0 p 0 < 0 then (0,false,p) else (fJ 0 p 0,true,p.set (fJ 0 p 0).toNat 1)
def hold (p:List Int) (i:Int):Bool × List Int :=
 if refs p i = 0\/refs p i >= 7 then (false,p) else (true,p.set i.toNat (i64.wrap (refs p i + 1)))
def lets (p:List Int) (i:Int):Int × Bool × List Int :=
 if refs p i = 0 then (0,false,p) else (i64.wrap (refs p i - 1),true,p.set i.toNat (i64.wrap (refs p i - 1)))
def freeFrom:List Int->Int->List Int
 | [],_=>[]
 | x::xs,i=>if x = 0 then i::freeFrom xs (i + 1) else freeFrom xs (i + 1)
def free (p:List Int):List Int:=freeFrom p 0
end Pool
theorem idx_lt (a:Int):∀ (xs:List Int) (i:Int),fJ a xs i = -1\/∃ n:Nat,n < xs.length/\fJ a xs i = i + n
 | [],_=>.inl rfl
 | x::xs,i=>by
  unfold fJ
  split
  ·exact .inr ⟨0,by simp,by simp⟩
  ·rcases idx_lt a xs (i + 1) with h | ⟨n,h1,h2⟩
   ·exact .inl h
   ·exact .inr ⟨n + 1,by simp; omega,by rw [h2]; omega⟩
theorem pool_op {x:Ptr} {p:List Int} {l:List As} {h:Hp} (s0:az (gn x p::l) h):∃ b s,x = some (b,0)/\p.length <= 16/\s.len = p.length/\az (blk b rf [sv s]::vI s p::l) h:=by
 obtain ⟨⟨b,s⟩,⟨hx,hb⟩,st⟩:=op_ s0
 exact ⟨b,s,hx,hb,(cf (j:=1) st rfl).1,st⟩
theorem sL {b:Nat} {s:Sl} {p:List Int} {l:List As} {h:Hp} (hb:p.length <= 16) (st:az (blk b rf [sv s]::vI s p::l) h):az (gn (some (b,0)) p::l) h:=cl_ (b,s) ⟨rfl,hb⟩ st
theorem sp_pool_New (n:Int) (h1:¬ n < 1) (h2:¬ n > 16):Sp prog xQ [.int .i64 n] sY [] (fun r=>az [gn r (replicate n.toNat 0)]):=by
 intro h st
 refine sim_pool_New _ ?_
 unfold sh_pool_New
 obtain ⟨m,rfl⟩:=Int.eq_ofNat_of_zero_le (show 0 <= n by omega)
 refine dy (by simp; omega) ?_
 refine oE (τ:=Int) (x0:=0) (enc:=cI .i64) (n:=m) (T:=lG) (m:=1) el_Sint rfl st ?_ ?_ ?_
 ·omega
 ·omega
 ·intro v h' s1
  refine py s1 fun b h'' s2=>?_
  exact sL (by simp; omega) s2
theorem xj (x:Ptr) (p:List Int) (i:Int):Sp prog jV [pv x,.int .i64 i] eE [gn x p] (fun r=>pa_ (r = Pool.refs p i) [gn x p]):=by
 intro h s0
 obtain ⟨b,s,rfl,hb,hl,st⟩:=pool_op s0
 refine sim_pool_Pool_Refs _ _ ?_
 unfold uA
 refine aX (fun k=>?_) (fun k=>?_)
 ·have h0:0 <= i:=by simpa using k
  obtain ⟨n,rfl⟩:=Int.eq_ofNat_of_zero_le h0
  refine cN ?_
  refine bo s st (i:=0) rfl rfl rfl ?_
  refine aX (fun k2=>?_) (fun k2=>?_)
  ·have:p.length <= n:=by rw [hl] at k2; simpa using k2
   exact aY (by simp [Pool.refs,this]) (sL hb st)
  ·have hlt:n < p.length:=by rw [hl] at k2; simpa using k2
   refine bo s st (i:=0) rfl rfl rfl ?_
   refine dc st (j:=1) rfl (by omega) (by omega) fun q hq=>?_
   refine dA (j:=1) (i:=n) (k:=0) p[n] (cq _) st rfl hq (by simp) (aD hlt) (by simp) ?_
   refine aY ?_ (sL hb st)
   have:¬ ((n:Int) < 0):=by omega
   simp [Pool.refs,hlt,this]
 ·have h0:i < 0:=by simpa using k
  exact aY (by simp [Pool.refs,h0]) (sL hb st)
theorem xi (x:Ptr) (p:List Int):Sp prog jU [pv x] bM [gn x p] (fun r=>pa_ (r = ((Pool.take p).1,(Pool.take p).2.1)) [gn x (Pool.take p).2.2]):=by
 intro h s0
 obtain ⟨b,s,rfl,hb,hl,st⟩:=pool_op s0
 refine sim_pool_Pool_Take _ ?_
 unfold uz
 refine dy rfl (cN ?_)
 refine bo s st (i:=0) rfl rfl rfl ?_
 refine cW [1] (sp_slices_Index s 0 p (by omega)) st rfl fun r h' s1=>?_
 obtain ⟨hr,s2⟩:=bp.1 s1
 subst hr
 refine aX (fun k=>?_) (fun k=>?_)
 ·have k':fJ 0 p 0 < 0:=by simpa using k
  have e:Pool.take p = (0,false,p):=if_pos k'
  rw [e]
  exact aY rfl (sL hb (bc [1] s2 rfl))
 ·have k':¬ fJ 0 p 0 < 0:=by simpa using k
  have e0:Pool.take p = (fJ 0 p 0,true,p.set (fJ 0 p 0).toNat 1):=if_neg k'
  rw [e0]
  rcases idx_lt 0 p 0 with e | ⟨n,h1,e⟩
  ·omega
  ·rw [zero_add] at e
   refine bo s s2 (i:=1) rfl rfl rfl ?_
   rw [e]
   refine dc s2 (j:=0) rfl (by omega) (by omega) fun q hq=>?_
   refine uj (j:=0) (i:=n) (k:=0) (1:Int) (cq _) s2 rfl hq (by simp) (aD h1) (by simp) rfl fun h2 s3=>?_
   exact aY rfl (sL (by simpa using hb) (bc [1] s3 rfl))
theorem refs_get {p:List Int} {i:Int} (h:Pool.refs p i ≠ 0):∃ n:Nat,i = n/\∃ hn:n < p.length,Pool.refs p i = p[n]:=by
 unfold Pool.refs at h ⊢
 by_cases h0:i < 0
 ·rw [if_pos h0] at h; exact absurd rfl h
 ·rw [if_neg h0] at h ⊢
  obtain ⟨n,rfl⟩:=Int.eq_ofNat_of_zero_le (show 0 <= i by omega)
  refine ⟨n,rfl,?_⟩
  by_cases hn:n < p.length
  ·exact ⟨hn,by simp [hn]⟩
  ·simp [List.getD_eq_getElem?_getD,List.getElem?_eq_none (Nat.le_of_not_lt hn)] at h
theorem sp_pool_Hold (x:Ptr) (p:List Int) (i:Int):Sp prog mI [pv x,.int .i64 i] aB [gn x p] (fun r=>pa_ (r = (Pool.hold p i).1) [gn x (Pool.hold p i).2]):=by
 intro h s0
 refine sim_pool_Pool_Hold _ _ ?_
 unfold uB
 refine cW [0] (xj x p i) s0 rfl fun r h' s1=>?_
 obtain ⟨hr,s2⟩:=bp.1 s1
 subst hr
 refine aX (fun k=>?_) (fun k=>?_)
 ·have k':Pool.refs p i = 0\/Pool.refs p i >= 7:=by simpa using k
  have e:Pool.hold p i = (false,p):=if_pos k'
  rw [e]
  exact aY rfl s2
 ·have k':¬ (Pool.refs p i = 0\/Pool.refs p i >= 7):=by simpa using k
  have e:Pool.hold p i = (true,p.set i.toNat (i64.wrap (Pool.refs p i + 1))):=if_neg k'
  rw [e]
  obtain ⟨n,rfl,hn,hg⟩:=refs_get (p:=p) (i:=i) (by omega)
  obtain ⟨b,s,rfl,hb,hl,st⟩:=pool_op s2
  refine cN ?_
  refine bo s st (i:=0) rfl rfl rfl ?_
  refine dc st (j:=1) rfl (by omega) (by omega) fun q hq=>?_
  refine dA (j:=1) (i:=n) (k:=0) p[n] (cq _) st rfl hq (by simp) (aD hn) (by simp) ?_
  refine uj (j:=1) (i:=n) (k:=0) (i64.wrap (p[n] + 1)) (cq _) st rfl hq (by simp) (aD hn) (by simp) rfl fun h2 s3=>?_
  rw [hg]
  exact aY rfl (sL (by simpa using hb) s3)
theorem sp_pool_Let (x:Ptr) (p:List Int) (i:Int):Sp prog nL [pv x,.int .i64 i] bM [gn x p] (fun r=>pa_ (r = ((Pool.lets p i).1,(Pool.lets p i).2.1)) [gn x (Pool.lets p i).2.2]):=by
 intro h s0
 refine sim_pool_Pool_Let _ _ ?_
 unfold wk
 refine cW [0] (xj x p i) s0 rfl fun r h' s1=>?_
 obtain ⟨hr,s2⟩:=bp.1 s1
 subst hr
 refine aX (fun k=>?_) (fun k=>?_)
 ·have k':Pool.refs p i = 0:=by simpa using k
  have e:Pool.lets p i = (0,false,p):=if_pos k'
  rw [e]
  exact aY rfl s2
 ·have k':¬ (Pool.refs p i = 0):=by simpa using k
  have e:Pool.lets p i = (i64.wrap (Pool.refs p i - 1),true,p.set i.toNat (i64.wrap (Pool.refs p i - 1))):=if_neg k'
  rw [e]
  obtain ⟨n,rfl,hn,hg⟩:=refs_get (p:=p) (i:=i) k'
  obtain ⟨b,s,rfl,hb,hl,st⟩:=pool_op s2
  refine cN ?_
  refine bo s st (i:=0) rfl rfl rfl ?_
  refine dc st (j:=1) rfl (by omega) (by omega) fun q hq=>?_
  refine dA (j:=1) (i:=n) (k:=0) p[n] (cq _) st rfl hq (by simp) (aD hn) (by simp) ?_
  refine uj (j:=1) (i:=n) (k:=0) (i64.wrap (p[n] - 1)) (cq _) st rfl hq (by simp) (aD hn) (by simp) rfl fun h2 s3=>?_
  refine bo s s3 (i:=0) rfl rfl rfl ?_
  refine dc s3 (j:=1) rfl (by omega) (by simp; omega) fun q2 hq2=>?_
  refine dA (j:=1) (i:=n) (k:=0) (i64.wrap (p[n] - 1)) (cq _) s3 rfl hq2 (by simp) (x:=i64.wrap (p[n] - 1)) (by simp [hn]) (by simp) ?_
  rw [hg]
  exact aY rfl (sL (by simpa using hb) s3)
theorem free_append:∀ (xs:List Int) (i:Int) (x:Int),Pool.freeFrom (xs++[x]) i = Pool.freeFrom xs i++(if x = 0 then [i + xs.length] else [])
 | [],i,x=>by simp only [List.nil_append,Pool.freeFrom]; split <;> simp
 | y::xs,i,x=>by
  simp only [cons_append,Pool.freeFrom]
  rw [free_append xs (i + 1) x]
  have e:i + 1 + (xs.length:Int) = i + ((y::xs).length:Int):=by simp; omega
  rw [e]
  split <;> simp
theorem free_len:∀ (xs:List Int) (i:Int),(Pool.freeFrom xs i).length <= xs.length
 | [],_=>Nat.le_refl _
 | x::xs,i=>by unfold Pool.freeFrom; have:=free_len xs (i + 1); split <;> simp <;> omega
theorem wY {l:List As} {h:Hp} {i:Nat} {s:Sl} {xs:List Int} {x:Int} {K:Sl->Hp->Prop} (st:az l h) (hi:l[i]? = some (vI s xs)) (hb:xs.length < 2 ^ 40)
  (k:∀ v h',az (l.set i (vI v (xs++[x]))) h'->K v h'):hpv prog (Instr.buildSlice dR 1 #[(0,.int .i64 x)]) cF (fun y=>hpv prog (Builtin.append_ #[dR,dR] dR #[sv s,sv y]) cF K) h:=by
 refine eQ (τ:=Int) [x] (val:=fun x=>.int .i64 x) (enc:=cI .i64) el_Sint (cq _) (fun _=>rfl) st rfl rfl (by simp) fun y h' s1=>?_
 have hlt:=(List.getElem?_eq_some_iff.1 hi).1
 refine uf (τ:=Int) (i:=i + 1) (j:=0) (enc:=cI .i64) (ys:=[x]) el_Sint el_Sint.sl (cq _) (oneI _) s1 (by simpa using hi) rfl (by omega) (by simp; omega) (by simp; omega) fun v h2 s2=>?_
 exact k v h2 (bX (l:=[vI y [x]]) (by simpa using s2))
theorem sp_pool_Free (x:Ptr) (p:List Int):Sp prog mJ [pv x] cF [gn x p] (fun r=>az [vI r (Pool.free p),gn x p]):=by
 intro h s0
 obtain ⟨b,s,rfl,hb,hl,st⟩:=pool_op s0
 refine sim_pool_Pool_Free _ ?_
 unfold uC
 refine dy rfl (cN ?_)
 refine bo s st (i:=0) rfl rfl rfl ?_
 refine Lp.intro (fun (z:Sl × Int) h=>∃ n:Nat,z.2 = n/\n <= p.length/\az [vI z.1 (Pool.freeFrom (p.take n) 0),blk b rf [sv s],vI s p] h) (fun (z:Sl × Int) _=>p.length - z.2.toNat) ⟨0,rfl,zero_le _,ga st⟩ ?_
 rintro ⟨z,i⟩ h ⟨n,rfl,hn,s1⟩
 unfold pw
 refine aX (fun k=>?_) (fun k=>?_)
 ·have hlt:n < p.length:=by rw [hl] at k; simpa using k
  have hw:i64.wrap ((n:Int) + 1) = ((n + 1:Nat):Int):=by rw [bm (by omega) (by omega)]; rfl
  have ht:p.take (n + 1) = p.take n++[p[n]]:=by simp
  have hlen:((p.take n).length:Int) = n:=by simp; omega
  refine dc s1 (j:=2) rfl (by omega) (by show (n:Int) < _; omega) fun q hq=>?_
  refine dA (j:=2) (i:=n) (k:=0) p[n] (cq _) s1 rfl hq (by simp) (aD hlt) (by simp) ?_
  refine aX (fun k2=>?_) (fun k2=>?_)
  ·have k2':p[n] = 0:=by simpa using k2
   refine wY s1 (i:=0) rfl ?_ fun v h' s2=>?_
   ·have:=free_len (p.take n) 0; simp at this ⊢; omega
   ·rw [hw]
    refine ⟨⟨n + 1,rfl,hlt,?_⟩,by simp; omega⟩
    rw [ht,free_append,if_pos k2',hlen,zero_add]
    exact s2
  ·have k2':¬ p[n] = 0:=by simpa using k2
   rw [hw]
   refine ⟨⟨n + 1,rfl,hlt,?_⟩,by simp; omega⟩
   rw [ht,free_append,if_neg k2',List.append_nil]
   exact s1
 ·have:n = p.length:=by rw [hl] at k; simp at k; omega
  subst this
  rw [take_length] at s1
  exact kZ (.cons _ (.refl _)) (bc (l:=[vI z (Pool.freeFrom p 0),gn (some (b,0)) p]) [0] (by
   have:=bc [1,1] s1 rfl
   exact bc [1] (sL hb this) rfl) rfl)
def Pool.bitsOf (w:Int):List Int->Int
 | []=>w
 | i::l=>Pool.bitsOf (ior .u64 w (u64.wrap (1 * 2 ^ (min (Int.toNat i) (IntKind.bits .u64))))) l
def Pool.bits (p:List Int):Int:=Pool.bitsOf 0 (Pool.free p)
theorem free_ge:∀ (xs:List Int) (i:Int),0 <= i->∀ j ∈ Pool.freeFrom xs i,0 <= j
 | [],_,_,_,h=>by cases h
 | x::xs,i,hi,j,h=>by
  unfold Pool.freeFrom at h
  split at h
  ·rcases List.mem_cons.1 h with rfl | h
   ·exact hi
   ·exact free_ge xs (i + 1) (by omega) j h
  ·exact free_ge xs (i + 1) (by omega) j h
theorem bits_append (a:Int):∀ (l:List Int) (w:Int),Pool.bitsOf w (l++[a]) = ior .u64 (Pool.bitsOf w l) (u64.wrap (1 * 2 ^ (min (Int.toNat a) (IntKind.bits .u64))))
 | [],_=>rfl
 | _::l,w=>by simp only [cons_append,Pool.bitsOf]; exact bits_append a l _
theorem sp_pool_Bits (x:Ptr) (p:List Int):Sp prog qE [pv x] hO [gn x p] (fun r=>pa_ (r = Pool.bits p) [gn x p]):=by
 intro h s0
 have hp16:p.length <= 16:=by obtain ⟨_,_,_,hb,_⟩:=pool_op s0; exact hb
 refine sim_pool_Pool_Bits _ ?_
 unfold uD
 refine cW [0] (sp_pool_Free x p) s0 rfl fun r h1 s1=>?_
 have s2:=dG s1
 have hl:=(cf (j:=0) s2 rfl).1
 have hfl:=free_len p 0
 refine Lp.intro (fun (z:Int × Int) h=>∃ n:Nat,z.2 = n/\n <= (Pool.free p).length/\z.1 = Pool.bitsOf 0 ((Pool.free p).take n)/\az [vI r (Pool.free p),gn x p] h) (fun (z:Int × Int) _=>(Pool.free p).length - z.2.toNat) ⟨0,rfl,zero_le _,rfl,s2⟩ ?_
 rintro ⟨w,i⟩ h ⟨n,rfl,hn,rfl,s3⟩
 unfold px
 refine aX (fun k=>?_) (fun k=>?_)
 ·have hlt:n < (Pool.free p).length:=by rw [hl] at k; simpa using k
  have hw:i64.wrap ((n:Int) + 1) = ((n + 1:Nat):Int):=by
   have:(Pool.free p).length <= 16:=by unfold Pool.free; omega
   rw [bm (by omega) (by omega)]; rfl
  refine dc s3 (j:=0) rfl (by omega) (by show (n:Int) < _; omega) fun q hq=>?_
  refine dA (j:=0) (i:=n) (k:=0) (Pool.free p)[n] (cq _) s3 rfl hq (by simp) (aD hlt) (by simp) ?_
  refine ⟨free_ge p 0 (Int.le_refl _) _ (List.getElem_mem hlt),?_⟩
  rw [hw]
  refine ⟨⟨n + 1,rfl,hlt,?_,s3⟩,by simp; omega⟩
  have ht:(Pool.free p).take (n + 1) = (Pool.free p).take n++[(Pool.free p)[n]]:=by simp
  rw [ht,bits_append]
 ·have:n = (Pool.free p).length:=by rw [hl] at k; simp at k; omega
  subst this
  refine aY ?_ (bX (l:=[vI r (Pool.free p)]) s3)
  rw [take_length]; rfl
end
section
open Go Mb
def jg (a0:Ptr) (a1:Int) (K:(am × Bool)->Hp->Prop) (s1:Bool):Hp->Prop:=br s1 ( K ((⟨0,0,0⟩:am),false)) ( nn a0 fun q26=>gd (0 <= a1/\a1 < 8)<|ld (q26.1,q26.2 + 0 + Int.toNat a1 * 3) am.C fun x29=>K (x29,true))
def uy (a0:Ptr) (a1:Int) (K:(am × Bool)->Hp->Prop):Hp->Prop:=br (!(a0.isNone || (!(bz a1)))) ( nn a0 fun q16=>gd (0 <= a1/\a1 < 8)<|ld (q16.1,q16.2 + 0 + Int.toNat a1 * 3 + 2) (cI .i64) fun x20=>jg a0 a1 K (x20 == 0)) ( jg a0 a1 K true)
theorem sim_table_Table_At (a0:Ptr) (a1:Int) {K:(am × Bool)->Hp->Prop} {h:Hp} (H:uy a0 a1 K h):cl prog fB [(pv a0),(.int .i64 a1)] cK K h:=z_i func106 p p fun _=>O<|aa<|aL (l:=am.C (⟨0,0,0⟩:am)) ff p p fun b4=>U p<|al<|eC (jg a0 a1 K) (fun s1=>[(0,(pv a0)),(1,(.int .i64 a1)),(4,(.pointer (some ⟨b4,0,none⟩))),(22,(.bool s1))]) (fun s1=>[bx b4 104 (am.C (⟨0,0,0⟩:am))]) (ap<|M p<|J (cx underlying112 p)<|M p<|W p p (aM _) (fun g10=>wv<|ai p)<|di (vs:=[(.int .i64 a1)]) p p p (aM _) (fun g11=>bA<|vo a1 _) en_103 (fun g11=>aS (aC p g11) bT) p<|W p p (aM _) (fun g12=>wv<|cu<|aC p g12)<|J (dC p p)<|M p<|W p p (aM _) (fun g13=>wv<|ai p)<|W p p (aM _) (fun g14=>wv<|ai p)<|bV H (fun k16 H17=>bI H17 fun q16 e18 H19=>G (F<|ch k16)<|z_p (aJ<|aH (aC p k16)<|aq e18)<|G (F<|ch k16)<|z_p (ae lc p)<|iY H19 fun h20 H21=>G (F<|ch k16)<|z_p (bC sX p (aC p k16) h20)<|G (F<|ch k16)<|z_p (ae dX p)<|G (F<|ch k16)<|aV H21 ba p (fun _=>p) p fun x20 H22=>G (F<|ch k16)<|z_p (bP p p)<|J (ar p (ch k16) p)<|ad<|cE (x20 == 0) H22 (.cons p<|.cons p<|.cons p<|.cons p<|.nil _)<|.cons_cons _ .slnil) fun k16 H17=>Y (cd<|bJ k16)<|Y (cd<|bJ k16)<|Y (cd<|bJ k16)<|Y (cd<|bJ k16)<|Y (cd<|bJ k16)<|Y (cd<|bJ k16)<|J (aU p (bJ k16) p)<|ad<|cE true H17 (.cons p<|.cons p<|.cons p<|.cons p<|.nil _)<|.cons_cons _ .slnil) fun s1 _ H2=>aw p H2 (fun k3 H4=>O<|J (aZ (vs:=[]) p lf)<|aa<|aO (k:=0) (vs:=am.C (⟨0,0,0⟩:am)) dk p p p p p p p<|U p<|aj<|bB (bS p (bF (k:=0) p dV p p)<|bZ p) ⟨((⟨0,0,0⟩:am),false),p,H4⟩) fun k3 H4=>an<|O<|M p<|M p<|bI H4 fun q26 e5 H6=>J (aJ<|aH p<|aq e5)<|J (ae lc p)<|iY H6 fun h7 H8=>J (bC sX p p h7)<|aa<|gx H8 dV p (fun _=>p) p fun x29 H9=>aa<|aO (k:=0) (vs:=am.C x29) dk p p p p p p p<|U p<|aj<|bB (bS p (bF (k:=0) p dV p p)<|bZ p) ⟨(x29,true),p,H9⟩
def sh_table_New (K:Ptr->Hp->Prop):Hp->Prop:=hpv prog (Instr.build kY #[]) encL fun (v1:(List Value))=>nw kY v1 fun b2=>K (some (b2,0))
theorem sim_table_New {K:Ptr->Hp->Prop} {h:Hp} (H:sh_table_New K h):cl prog lW [] iQ K h:=z_i func59 p p fun _=>O<|U p<|O<|aa<|aR H (x_build (vs:=[]) p) p fun v1 _ H1=>aa<|iC p p p H1 fun b2 _ H2=>U p<|aj<|Z ⟨some (b2,0),p,H2⟩
def pY (a0:Ptr) (a1:Int) (a2:am) (K:Int->Hp->Prop):Hp->Prop:=br a0.isNone ( K 10) ( br (((!(ft a2).2) || (a2.fBa == 0)) || (!(bz a1))) ( K 2) ( nn a0 fun q30=>gd (0 <= a1/\a1 < 8)<|ld (q30.1,q30.2 + 0 + Int.toNat a1 * 3 + 2) (cI .i64) fun x34=>br (x34 != 0) ( K 4) ( st (q30.1,q30.2 + 0 + Int.toNat a1 * 3) (am.C a2)<|K 0)))
theorem xq (a0:Ptr) (a1:Int) (a2:am) {K:Int->Hp->Prop} {h:Hp} (H:pY a0 a1 a2 K h):cl prog eJ [(pv a0),(.int .i64 a1),(.agg (am.C a2).toArray)] bi K h:=z_i func60 p p fun _=>O<|aa<|cU (l:=am.C a2) p p p fun b5=>U p<|al<|O<|M p<|J (cx underlying112 p)<|ad<|aw p H (fun k1 H2=>O<|U p<|aj<|Z ⟨10,p,H2⟩) fun k1 H2=>an<|al<|O<|bk (bD (k:=0) dV p p p p) p<|aa<|cT (vs:=[(.agg (am.C a2).toArray)]) (bA<|ct_pte_Put a2 _) en_102 p p<|M p<|J (ak p p)<|J (ak p p)<|J (au p)<|U p<|O<|M p<|J (cu p)<|M p<|W p p (aM _) (fun g3=>wv<|ae dX p)<|W p p (aM _) (fun g4=>cv<|bh (k:=0) ba (aC p g4) p p)<|W p p (aM _) (fun g5=>wv<|bP (aC p g5) p)<|J (dC p p)<|M p<|W p p (aM _) (fun g6=>wv<|ai p)<|di (vs:=[(.int .i64 a1)]) p p p (aM _) (fun g7=>bA<|vo a1 _) en_103 (fun g7=>aS (aC p g7) bT) p<|W p p (aM _) (fun g8=>wv<|cu<|aC p g8)<|J (dC p p)<|ad<|aw p H2 (fun k9 H10=>O<|U p<|aj<|Z ⟨2,p,H10⟩) fun k9 H10=>an<|al<|O<|M p<|M p<|bI H10 fun q30 e11 H12=>J (aJ<|aH p<|aq e11)<|J (ae lc p)<|iY H12 fun h13 H14=>J (bC sX p p h13)<|J (ae dX p)<|aa<|aV H14 ba p (fun _=>p) p fun x34 H15=>J (oS p p)<|ad<|aw p H15 (fun k16 H17=>O<|U p<|aj<|Z ⟨4,p,H17⟩) fun k16 H17=>an<|al<|bn (n:=7) [bx b5 104 (am.C a2)] ck p (.cons_cons _ .slnil)<|V 0 p (ai<|aH p<|aq e11)<|V 1 p (ai p)<|z_E 2 p (eN (k:=0) dV p p p p)<|V 3 p (aJ p)<|V 4 p (ae lc p)<|V 5 p (bC sX p p h13)<|I 6 p<|dr dk p p p p p H17 fun _ H18=>⟨.cons_cons _ .slnil,aQ (by kernel_rfl)<|O<|U p<|aj<|Z ⟨0,p,H18⟩⟩
def pX (a0:Ptr) (a1:Int) (K:(am × Int)->Hp->Prop):Hp->Prop:=br a0.isNone ( K ((⟨0,0,0⟩:am),10)) ( br (!(bz a1)) ( K ((⟨0,0,0⟩:am),2)) ( nn a0 fun q19=>gd (0 <= a1/\a1 < 8)<|ld (q19.1,q19.2 + 0 + Int.toNat a1 * 3 + 2) (cI .i64) fun x23=>br (x23 == 0) ( K ((⟨0,0,0⟩:am),3)) ( ld (q19.1,q19.2 + 0 + Int.toNat a1 * 3) am.C fun x31=>st (q19.1,q19.2 + 0 + Int.toNat a1 * 3) (am.C (⟨0,0,0⟩:am))<|K (x31,0))))
theorem xp (a0:Ptr) (a1:Int) {K:(am × Int)->Hp->Prop} {h:Hp} (H:pX a0 a1 K h):cl prog jn [(pv a0),(.int .i64 a1)] jO K h:=z_i func73 p p fun _=>O<|aa<|aL (l:=am.C (⟨0,0,0⟩:am)) ff p p fun b4=>U p<|al<|av<|O<|M p<|J (cx underlying112 p)<|U p<|aw p H (fun k1 H2=>O<|J (aZ (vs:=[]) p lf)<|aa<|aO (k:=0) (vs:=am.C (⟨0,0,0⟩:am)) dk p p p p p p p<|U p<|aj<|bB (bS p (bF (k:=0) p dV p p)<|bZ p) ⟨((⟨0,0,0⟩:am),10),p,H2⟩) fun k1 H2=>O<|M p<|aa<|cT (vs:=[(.int .i64 a1)]) (bA<|vo a1 _) en_103 p p<|J (cu p)<|U p<|aw p H2 (fun k3 H4=>O<|J (aZ (vs:=[]) p lf)<|aa<|aO (k:=0) (vs:=am.C (⟨0,0,0⟩:am)) dk p p p p p p p<|U p<|aj<|bB (bS p (bF (k:=0) p dV p p)<|bZ p) ⟨((⟨0,0,0⟩:am),2),p,H4⟩) fun k3 H4=>O<|M p<|M p<|bI H4 fun q19 e5 H6=>J (aJ<|aH p<|aq e5)<|J (ae lc p)<|iY H6 fun h7 H8=>J (bC sX p p h7)<|J (ae dX p)<|aa<|aV H8 ba p (fun _=>p) p fun x23 H9=>J (bP p p)<|U p<|aw p H9 (fun k10 H11=>O<|J (aZ (vs:=[]) p lf)<|aa<|aO (k:=0) (vs:=am.C (⟨0,0,0⟩:am)) dk p p p p p p p<|U p<|aj<|bB (bS p (bF (k:=0) p dV p p)<|bZ p) ⟨((⟨0,0,0⟩:am),3),p,H11⟩) fun k10 H11=>an<|O<|M (aH p<|aq e5)<|M p<|J (aJ p)<|J (ae lc p)<|J (bC sX p p h7)<|aa<|gx H11 dV p (fun _=>p) p fun x31 H12=>aa<|aL (l:=am.C (⟨0,0,0⟩:am)) ff p p fun b6=>aa<|aO (k:=0) (vs:=am.C x31) dk p p p p p p p<|ad<|O<|M (aH p<|aq e5)<|M p<|J (aZ (vs:=[]) p lf)<|J (aJ p)<|J (ae lc p)<|J (bC sX p p h7)<|aa<|dr dk p p p p p H12 fun _ H13=>ad<|O<|bk (bD (k:=0) dV p p p p) p<|aa<|aO (k:=1) (vs:=am.C x31) dk p p p p p p p<|U p<|aj<|bB (bS p (bF (k:=1) p dV p p)<|bZ p) ⟨(x31,0),p,H13⟩
def oU (a1:Int) (K:Sl->Hp->Prop) (v13:(List Value)) (Rec8:(Sl × Int)->Hp->Prop) (s7:Sl × Int):Hp->Prop:=br (decide (s7.2 < 8)) ( hpv prog (Instr.index uv (.agg v13.toArray) (.int .i64 s7.2)) xa fun (v17:am)=>br ((v17.fBa != 0) && (v17.fDa == a1)) ( hpv prog (Instr.buildSlice dR 1 #[(0,(.int .i64 s7.2))]) cF fun (v29:Sl)=>hpv prog (Builtin.append_ #[dR,dR] dR #[(sv s7.1),(sv v29)]) cF fun (v30:Sl)=>Rec8 (v30,(i64.wrap (s7.2 + 1)))) ( Rec8 (s7.1,(i64.wrap (s7.2 + 1))))) ( K s7.1)
def ux (a0:Ptr) (a1:Int) (K:Sl->Hp->Prop):Hp->Prop:=br a0.isNone ( K (⟨none,0,0,none⟩:Sl)) ( nn a0 fun q11=>hpv prog (Instr.loadAt uv (.pointer (some ⟨q11.1,q11.2 + 0,none⟩))) encL fun (v13:(List Value))=>Lp (oU a1 K v13) ((⟨none,0,0,none⟩:Sl),0))
theorem sim_table_Table_By (a0:Ptr) (a1:Int) {K:Sl->Hp->Prop} {h:Hp} (H:ux a0 a1 K h):cl prog mH [(pv a0),(.int .i64 a1)] cF K h:=z_i func123 p p fun _=>O<|U p<|al<|O<|M p<|J (cx underlying112 p)<|ad<|aw p H (fun k1 H2=>O<|U p<|aj<|Z ⟨(⟨none,0,0,none⟩:Sl),p,H2⟩) fun k1 H2=>an<|O<|U p<|al<|O<|M p<|bI H2 fun q11 e3 H4=>J (aJ<|aH p<|aq e3)<|J (ae lc p)<|aa<|aR H4 (x_load p) p fun v13 _ H6=>M p<|ad<|av<|bv (step:=oU a1 K v13) (fun s7=>[(1,(.int .i64 a1)),(5,(sv s7.1)),(13,(.agg v13.toArray)),(14,(.int .i64 s7.2))]) (fun s7=>[]) H6 (.cons p<|.cons p<|.cons p<|.cons p<|.nil _) .slnil fun Rec8 s7 _ H9=>O<|J (ci p p)<|ad<|al<|aw p H9 (fun k10 H11=>an<|al<|av<|O<|M p<|aa<|aR H11 (x_index p p) p fun v17 _ H12=>aa<|aL (l:=am.C (⟨0,0,0⟩:am)) ff p p fun b7=>J (au p)<|aa<|aO (k:=0) (vs:=am.C v17) dk p p p p p p p<|ad<|O<|J (ae dX p)<|bk (bh (k:=0) ba p p p) p<|J (oS p p)<|M p<|W p p (ax _) (fun g13=>wv<|ae qO p)<|W p p (ax _) (fun g14=>cv<|bh (k:=0) ba (aC p g14) p p)<|W p p (ax _) (fun g15=>wv<|ai p)<|W p p (ax _) (fun g16=>wv<|bP (aC p g16)<|aC p g16)<|J (bN p p)<|ad<|aw p H12 (fun k17 H18=>ap<|M p<|M p<|aa<|aR H18 (bt (vs:=[(.int .i64 s7.2)]) p) p fun v29 _ H19=>aa<|aR H19 (dQ p p) p fun v30 _ H20=>U p<|ap<|J (bj p p)<|M p<|ad<|cD (v30,(i64.wrap (s7.2 + 1))) H20 (.cons p<|.cons p<|.cons p<|.cons p<|.nil _)<|.cons _ .slnil) fun k17 H18=>an<|ap<|J (bj p p)<|M p<|ad<|cD (s7.1,(i64.wrap (s7.2 + 1))) H18 (.cons p<|.cons p<|.cons p<|.cons p<|.nil _)<|.cons _ .slnil) fun k10 H11=>bf<|O<|M p<|U p<|aj<|Z ⟨s7.1,p,H11⟩
def pb (a0:Ptr) (a1:Int) (a2:Int) (K:Int->Hp->Prop):Hp->Prop:=br a0.isNone ( K 10) ( br ((!(bz a1)) || (!(cg a2))) ( K 2) ( nn a0 fun q22=>gd (0 <= a1/\a1 < 8)<|ld (q22.1,q22.2 + 0 + Int.toNat a1 * 3 + 2) (cI .i64) fun x26=>br (x26 == 0) ( K 3) ( st (q22.1,q22.2 + 0 + Int.toNat a1 * 3 + 2) [.int .i64 a2]<|K 0)))
theorem vY (a0:Ptr) (a1:Int) (a2:Int) {K:Int->Hp->Prop} {h:Hp} (H:pb a0 a1 a2 K h):cl prog ll [(pv a0),(.int .i64 a1),(.int .i64 a2)] bi K h:=z_i func125 p p fun _=>O<|U p<|al<|av<|O<|M p<|J (cx underlying112 p)<|U p<|aw p H (fun k1 H2=>O<|U p<|aj<|Z ⟨10,p,H2⟩) fun k1 H2=>O<|M p<|aa<|cT (vs:=[(.int .i64 a1)]) (bA<|vo a1 _) en_103 p p<|J (cu p)<|M p<|W p p (aM _) (fun g3=>wv<|ai p)<|di (vs:=[(.int .i64 a2)]) p p p (aM _) (fun g4=>bA<|qQ a2 _) en_97 (fun g4=>aS (aC p g4) bT) p<|W p p (aM _) (fun g5=>wv<|cu<|aC p g5)<|J (dC p p)<|U p<|aw p H2 (fun k6 H7=>O<|U p<|aj<|Z ⟨2,p,H7⟩) fun k6 H7=>O<|M p<|M p<|bI H7 fun q22 e8 H9=>J (aJ<|aH p<|aq e8)<|J (ae lc p)<|iY H9 fun h10 H11=>J (bC sX p p h10)<|J (ae dX p)<|aa<|aV H11 ba p (fun _=>p) p fun x26 H12=>J (bP p p)<|U p<|aw p H12 (fun k13 H14=>O<|U p<|aj<|Z ⟨3,p,H14⟩) fun k13 H14=>an<|O<|M (aH p<|aq e8)<|M p<|M p<|J (aJ p)<|J (ae lc p)<|J (bC sX p p h10)<|J (ae dX p)<|aa<|dr mn p p p p p H14 fun _ H15=>ad<|O<|U p<|aj<|Z ⟨0,p,H15⟩
end
section
open Go Mb
abbrev Pte:=am
theorem jK (p:Pte):p.C.length = 3:=rfl
abbrev dn:Pte:=⟨0,0,0⟩
def df (x:Ptr) (ps:List Pte):As:=fun h=>∃ b:Nat,(x = some (b,0)/\ps.length = 8)/\az [blk b kY ([]++(ps.flatMap am.C++[]))] h
theorem table_op {x:Ptr} {ps:List Pte} {l:List As} {h:Hp} (s0:az (df x ps::l) h):∃ b,x = some (b,0)/\ps.length = 8/\az (blk b kY ([]++(ps.flatMap am.C++[]))::l) h:=by
 obtain ⟨b,⟨hx,hb⟩,st⟩:=op_ s0
 exact ⟨b,hx,hb,st⟩
theorem jf {b:Nat} {ps:List Pte} {l:List As} {h:Hp} (hb:ps.length = 8) (st:az (blk b kY ([]++(ps.flatMap am.C++[]))::l) h):az (df (some (b,0)) ps::l) h:=cl_ b ⟨rfl,hb⟩ st
namespace Table
def at_ (ps:List Pte) (i:Int):Pte:=ps.getD i.toNat dn
def get (ps:List Pte) (i:Int):Pte × Bool:=if bz i = true/\(at_ ps i).fBa ≠ 0 then (at_ ps i,true) else (dn,false)
def insert (ps:List Pte) (i:Int) (p:Pte):Int × List Pte :=
 if (ft p).2 = false\/p.fBa = 0\/bz i = false then (2,ps) else if (at_ ps i).fBa ≠ 0 then (4,ps) else (0,ps.set i.toNat p)
def protect (ps:List Pte) (i r:Int):Int × List Pte :=
 if bz i = false\/cg r = false then (2,ps) else if (at_ ps i).fBa = 0 then (3,ps) else (0,ps.set i.toNat { at_ ps i with fBa:=r })
def remove (ps:List Pte) (i:Int):(Pte × Int) × List Pte :=
 if bz i = false then ((dn,2),ps) else if (at_ ps i).fBa = 0 then ((dn,3),ps) else ((at_ ps i,0),ps.set i.toNat dn)
def byFrom (s:Int):List Pte->Int->List Int
 | [],_=>[]
 | p::ps,i=>if p.fBa ≠ 0/\p.fDa = s then i::byFrom s ps (i + 1) else byFrom s ps (i + 1)
def by_ (ps:List Pte) (s:Int):List Int:=byFrom s ps 0
end Table
theorem nu {i:Int} (h:bz i = true):∃ n:Nat,i = n/\n < 8:=by
 unfold bz at h
 simp at h
 exact ⟨i.toNat,by omega,by omega⟩
theorem table_new_run (K:Value->Hp->Prop) (h:Hp):hp prog (Instr.build kY #[]) K h = K (.agg ((replicate 8 dn).flatMap am.C).toArray) h:=by kernel_rfl
theorem oW:Sp prog lW [] iQ [] (fun r=>az [df r (replicate 8 dn)]):=by
 intro h st
 refine sim_table_New ?_
 unfold sh_table_New
 refine ⟨?_⟩
 rw [table_new_run]
 refine ⟨_,rfl,?_⟩
 refine py st fun b h' s1=>?_
 exact jf rfl s1
theorem kT (x:Ptr) (ps:List Pte) (i:Int) (p:Pte):Sp prog eJ [pv x,.int .i64 i,.agg p.C.toArray] bi [df x ps] (fun r=>pa_ (r = (Table.insert ps i p).1) [df x (Table.insert ps i p).2]):=by
 intro h s0
 obtain ⟨b,rfl,hb,st⟩:=table_op s0
 refine xq _ _ _ ?_
 unfold pY
 refine dy rfl ?_
 refine aX (fun k=>?_) (fun k=>?_)
 ·have k':(ft p).2 = false\/p.fBa = 0\/bz i = false:=by simpa [or_assoc] using k
  have e:Table.insert ps i p = (2,ps):=if_pos k'
  rw [e]
  exact aY rfl (jf hb st)
 ·have k':¬ ((ft p).2 = false\/p.fBa = 0\/bz i = false):=by simp at k; simp [k]
  obtain ⟨n,rfl,hn⟩:=nu (i:=i) (by simp at k'; exact k'.2.2)
  have hn':n < ps.length:=by omega
  have hat:Table.at_ ps n = ps[n]:=by simp [Table.at_,hn']
  refine cN ⟨⟨by omega,by omega⟩,?_⟩
  refine ld_a (j:=0) (i:=n) (k:=2) ps[n].fBa jK st rfl (by simp) (aD hn') (c1 rfl rfl) ?_
  refine aX (fun k2=>?_) (fun k2=>?_)
  ·have k2':(Table.at_ ps n).fBa ≠ 0:=by rw [hat]; simpa using k2
   have e:Table.insert ps n p = (4,ps):=by unfold Table.insert; rw [if_neg k',if_pos k2']
   rw [e]
   exact aY rfl (jf hb st)
  ·have k2':¬ (Table.at_ ps n).fBa ≠ 0:=by rw [hat]; simpa using k2
   have e:Table.insert ps n p = (0,ps.set n p):=by unfold Table.insert; rw [if_neg k',if_neg k2']; rfl
   rw [e]
   refine st_a (j:=0) (i:=n) (k:=0) p jK st rfl (by simp) (aD hn') (by simp [jK]) rfl fun h2 s2=>?_
   exact aY rfl (jf (by simpa using hb) s2)
theorem sp_table_Protect (x:Ptr) (ps:List Pte) (i r:Int):Sp prog ll [pv x,.int .i64 i,.int .i64 r] bi [df x ps] (fun v=>pa_ (v = (Table.protect ps i r).1) [df x (Table.protect ps i r).2]):=by
 intro h s0
 obtain ⟨b,rfl,hb,st⟩:=table_op s0
 refine vY _ _ _ ?_
 unfold pb
 refine dy rfl ?_
 refine aX (fun k=>?_) (fun k=>?_)
 ·have k':bz i = false\/cg r = false:=by simpa using k
  have e:Table.protect ps i r = (2,ps):=if_pos k'
  rw [e]
  exact aY rfl (jf hb st)
 ·have k':¬ (bz i = false\/cg r = false):=by simp at k; simp [k]
  obtain ⟨n,rfl,hn⟩:=nu (i:=i) (by simp at k'; exact k'.1)
  have hn':n < ps.length:=by omega
  have hat:Table.at_ ps n = ps[n]:=by simp [Table.at_,hn']
  refine cN ⟨⟨by omega,by omega⟩,?_⟩
  refine ld_a (j:=0) (i:=n) (k:=2) ps[n].fBa jK st rfl (by simp) (aD hn') (c1 rfl rfl) ?_
  refine aX (fun k2=>?_) (fun k2=>?_)
  ·have k2':(Table.at_ ps n).fBa = 0:=by rw [hat]; simpa using k2
   have e:Table.protect ps n r = (3,ps):=by unfold Table.protect; rw [if_neg k',if_pos k2']
   rw [e]
   exact aY rfl (jf hb st)
  ·have k2':¬ (Table.at_ ps n).fBa = 0:=by rw [hat]; simpa using k2
   have e:Table.protect ps n r = (0,ps.set n { ps[n] with fBa:=r }):=by unfold Table.protect; rw [if_neg k',if_neg k2',hat]; rfl
   rw [e]
   refine st_a (j:=0) (i:=n) (k:=2) { ps[n] with fBa:=r } jK st rfl (by simp) (aD hn') (by simp) rfl fun h2 s2=>?_
   exact aY rfl (jf (by simpa using hb) s2)
theorem sp_table_Remove (x:Ptr) (ps:List Pte) (i:Int):Sp prog jn [pv x,.int .i64 i] jO [df x ps] (fun v=>pa_ (v = (Table.remove ps i).1) [df x (Table.remove ps i).2]):=by
 intro h s0
 obtain ⟨b,rfl,hb,st⟩:=table_op s0
 refine xp _ _ ?_
 unfold pX
 refine dy rfl ?_
 refine aX (fun k=>?_) (fun k=>?_)
 ·have k':bz i = false:=by simpa using k
  have e:Table.remove ps i = ((dn,2),ps):=if_pos k'
  rw [e]
  exact aY rfl (jf hb st)
 ·have k':¬ (bz i = false):=by simp at k; simp [k]
  obtain ⟨n,rfl,hn⟩:=nu (i:=i) (by simp at k'; exact k')
  have hn':n < ps.length:=by omega
  have hat:Table.at_ ps n = ps[n]:=by simp [Table.at_,hn']
  refine cN ⟨⟨by omega,by omega⟩,?_⟩
  refine ld_a (j:=0) (i:=n) (k:=2) ps[n].fBa jK st rfl (by simp) (aD hn') (c1 rfl rfl) ?_
  refine aX (fun k2=>?_) (fun k2=>?_)
  ·have k2':(Table.at_ ps n).fBa = 0:=by rw [hat]; simpa using k2
   have e:Table.remove ps n = ((dn,3),ps):=by unfold Table.remove; rw [if_neg k',if_pos k2']
   rw [e]
   exact aY rfl (jf hb st)
  ·have k2':¬ (Table.at_ ps n).fBa = 0:=by rw [hat]; simpa using k2
   have e:Table.remove ps n = ((ps[n],0),ps.set n dn):=by unfold Table.remove; rw [if_neg k',if_neg k2',hat]; rfl
   rw [e]
   refine ld_a (j:=0) (i:=n) (k:=0) ps[n] jK st rfl (by simp) (aD hn') (by simp) ?_
   refine st_a (j:=0) (i:=n) (k:=0) dn jK st rfl (by simp) (aD hn') (by simp [jK]) rfl fun h2 s2=>?_
   exact aY rfl (jf (by simpa using hb) s2)
theorem ov (x:Ptr) (ps:List Pte) (i:Int):Sp prog fB [pv x,.int .i64 i] cK [df x ps] (fun v=>pa_ (v = Table.get ps i) [df x ps]):=by
 intro h s0
 obtain ⟨b,rfl,hb,st⟩:=table_op s0
 refine sim_table_Table_At _ _ ?_
 unfold uy
 refine aX (fun k=>?_) (fun k=>?_)
 ·have k':bz i = true:=by simpa using k
  obtain ⟨n,rfl,hn⟩:=nu k'
  have hn':n < ps.length:=by omega
  have hat:Table.at_ ps n = ps[n]:=by simp [Table.at_,hn']
  refine cN ⟨⟨by omega,by omega⟩,?_⟩
  refine ld_a (j:=0) (i:=n) (k:=2) ps[n].fBa jK st rfl (by simp) (aD hn') (c1 rfl rfl) ?_
  unfold jg
  refine aX (fun k2=>?_) (fun k2=>?_)
  ·have k2':(Table.at_ ps n).fBa = 0:=by rw [hat]; simpa using k2
   have e:Table.get ps n = (dn,false):=if_neg (fun hh=>hh.2 k2')
   rw [e]
   exact aY rfl (jf hb st)
  ·have k2':¬ (Table.at_ ps n).fBa = 0:=by rw [hat]; simpa using k2
   have e:Table.get ps n = (ps[n],true):=by unfold Table.get; rw [if_pos ⟨k',k2'⟩,hat]
   rw [e]
   refine cN ⟨⟨by omega,by omega⟩,?_⟩
   refine ld_a (j:=0) (i:=n) (k:=0) ps[n] jK st rfl (by simp) (aD hn') (by simp) ?_
   exact aY rfl (jf hb st)
 ·have k':¬ bz i = true:=by simpa using k
  have e:Table.get ps i = (dn,false):=if_neg (fun hh=>k' hh.1)
  rw [e]
  unfold jg
  exact dU rfl (aY rfl (jf hb st))
theorem by_append (s:Int):∀ (ps:List Pte) (i:Int) (p:Pte),Table.byFrom s (ps++[p]) i = Table.byFrom s ps i++(if p.fBa ≠ 0/\p.fDa = s then [i + ps.length] else [])
 | [],i,p=>by simp only [List.nil_append,Table.byFrom]; split <;> simp
 | y::ps,i,p=>by
  simp only [cons_append,Table.byFrom]
  rw [by_append s ps (i + 1) p]
  have e:i + 1 + (ps.length:Int) = i + ((y::ps).length:Int):=by simp; omega
  rw [e]
  split <;> simp
theorem by_len (s:Int):∀ (ps:List Pte) (i:Int),(Table.byFrom s ps i).length <= ps.length
 | [],_=>Nat.le_refl _
 | p::ps,i=>by unfold Table.byFrom; have:=by_len s ps (i + 1); split <;> simp <;> omega
theorem sp_table_By (x:Ptr) (ps:List Pte) (s:Int):Sp prog mH [pv x,.int .i64 s] cF [df x ps] (fun r=>az [vI r (Table.by_ ps s),df x ps]):=by
 intro h s0
 obtain ⟨b,rfl,hb,st⟩:=table_op s0
 refine sim_table_Table_By _ _ ?_
 unfold ux
 refine dy rfl (cN ?_)
 obtain ⟨h1,a,sub⟩:=eI (i:=0) rfl st
 have hfl:(ps.flatMap am.C).length = 24:=by rw [eL jK,hb]
 refine loadAt_v (r:=ps.flatMap am.C) (cs:=ps.flatMap am.C) agn_8_api_Pte ⟨_,_,_,sub _ _ a,fun i v hv=>by simpa using hv⟩ hfl rfl ?_
 refine Lp.intro (fun (z:Sl × Int) h=>∃ n:Nat,z.2 = n/\n <= 8/\az [vI z.1 (Table.byFrom s (ps.take n) 0),df (some (b,0)) ps] h) (fun (z:Sl × Int) _=>8 - z.2.toNat) ⟨0,rfl,zero_le _,ga (jf hb st)⟩ ?_
 rintro ⟨z,i⟩ h ⟨n,rfl,hn,s1⟩
 unfold oU
 refine aX (fun k=>?_) (fun k=>?_)
 ·have hlt:n < 8:=by have:=of_decide_eq_true k; omega
  have hn':n < ps.length:=by omega
  have hw:i64.wrap ((n:Int) + 1) = ((n + 1:Nat):Int):=by rw [bm (by omega) (by omega)]; rfl
  have ht:ps.take (n + 1) = ps.take n++[ps[n]]:=by simp
  have hlen:((ps.take n).length:Int) = n:=by simp; omega
  refine index_v (enc:=am.C) (m:=3) arn_8_api_Pte age_8_api_Pte jK (fun _=>rfl) hb (aD hn') ?_
  refine aX (fun k2=>?_) (fun k2=>?_)
  ·have k2':ps[n].fBa ≠ 0/\ps[n].fDa = s:=by simpa using k2
   refine wY s1 (i:=0) rfl ?_ fun v h' s2=>?_
   ·have:=by_len s (ps.take n) 0; simp at this ⊢; omega
   ·rw [hw]
    refine ⟨⟨n + 1,rfl,hlt,?_⟩,by simp; omega⟩
    rw [ht,by_append,if_pos k2',hlen,zero_add]
    exact s2
  ·have k2':¬ (ps[n].fBa ≠ 0/\ps[n].fDa = s):=by simpa using k2
   rw [hw]
   refine ⟨⟨n + 1,rfl,hlt,?_⟩,by simp; omega⟩
   rw [ht,by_append,if_neg k2',List.append_nil]
   exact s1
 ·have:n = 8:=by have:=of_decide_eq_false k; omega
  subst this
  rw [show ps.take 8 = ps from by rw [← hb]; exact take_length] at s1
  exact s1
end
end Go.Proofs.YtemoifebbhoinabGreatDoor
