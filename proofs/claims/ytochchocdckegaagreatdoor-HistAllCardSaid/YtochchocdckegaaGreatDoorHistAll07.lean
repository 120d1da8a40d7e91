/- Part of the proof of: The law HistAll returns true for every input, and leaves its arguments as they were. -/
import Derived.Test.YtochchocdckegaaGreatDoorHistAll06
set_option linter.all false
set_option maxRecDepth 20000
namespace Go.Proofs.YtochchocdckegaaGreatDoor
open Go.Proofs.Tryz
open Go.IntKind (i64 u64)
open _root_.Int (le_refl)
open _root_.List (getD_eq_getElem?_getD length_set nil_append range replicate)
open _root_.Nat (add_zero)
section
open Go Mb
def qx (Rec4:kT (Sl × Int)) (s3:Sl × Int) (x17:jy) (Rec14:kT (Sl × Int)) (s13:Sl × Int):hT:=br (decide (s13.2 < 2)) ( hpv prog (Instr.index t_2_tlb_line (.agg (jy.C x17).toArray) (.int .i64 s13.2)) R_tlb_line fun (v20:cq)=>hpv prog (Instr.buildSlice rm 1 #[(0,(.agg (ao.C v20.fl).toArray))]) rL fun (v24:Sl)=>hpv prog (Builtin.append_ #[rm,rm] rm #[(sv s13.1),(sv v24)]) rL fun (v25:Sl)=>Rec14 (v25,(i64.wrap (s13.2 + 1)))) ( Rec4 (s13.1,(i64.wrap (s3.2 + 1))))
def qy (a0:Ptr) (K:kT Sl) (Rec4:kT (Sl × Int)) (s3:Sl × Int):hT:=br (decide (s3.2 < 4)) ( nn a0 fun q14=>gd (0 <= s3.2/\s3.2 < 4)<|ld (q14.1,q14.2 + 0 + Int.toNat s3.2 * 10) jy.C fun x17=>Lp (qx Rec4 s3 x17) (s3.1,0)) ( K s3.1)
def wj (a0:Ptr) (K:kT Sl):hT:=br a0.isNone ( K (⟨none,0,0,none⟩:Sl)) ( Lp (qy a0 K) ((⟨none,0,0,none⟩:Sl),0))
theorem sim_tlb_Tlb_Lines (a0:Ptr) {K:kT Sl} {h:Hp} (H:wj a0 K h):cl prog rR [(pv a0)] rL K h:=z_i func66 p p fun _=>O<|U p<|ai<|O<|M p<|J (cy underlying99 p)<|ad<|av p H (fun k1 H2=>O<|U p<|ah<|F ⟨(⟨none,0,0,none⟩:Sl),p,H2⟩) fun k1 H2=>ak<|O<|U p<|ai<|O<|M p<|ad<|aw<|bv (step:=qy a0 K) (fun s3=>[(0,(pv a0)),(3,(sv s3.1)),(9,(.int .i64 s3.2))]) (fun s3=>[]) H2 (.cons p<|.cons p<|.cons p<|.nil _) .slnil fun Rec4 s3 _ H5=>O<|J (bZ p p)<|ad<|ai<|av p H5 (fun k6 H7=>ak<|ai<|aw<|O<|M p<|U p<|O<|M p<|M p<|bL H7 fun q14 e8 H9=>J (aP<|aJ p<|au e8)<|J (ae fld_153_0 p)<|jG H9 fun h10 H11=>J (bH arr_151 p p h10)<|aa<|ga H11 ag_150 p (fun _=>p) p fun x17 H12=>M p<|ad<|aw<|bv (step:=qx Rec4 s3 x17) (fun s13=>[(0,(pv a0)),(3,(sv s13.1)),(9,(.int .i64 s3.2)),(17,(.agg (jy.C x17).toArray)),(18,(.int .i64 s13.2))]) (fun s13=>[]) H12 (.cons p<|.cons p<|.cons p<|.cons p<|.cons p<|.nil _) .slnil fun Rec14 s13 _ H15=>O<|J (bZ p p)<|ad<|ai<|av p H15 (fun k16 H17=>ak<|ai<|aw<|O<|aa<|aF H17 (x_index p p) p fun v20 _ H18=>aa<|aT (l:=cq.C (⟨(⟨0,0,0,0⟩:ao),0⟩:cq)) zero_149 p p fun b6=>aa<|aV (k:=0) (vs:=cq.C v20) inf_149 p p p p p p p<|ad<|am<|M p<|J (ae qT p)<|bo (bK (k:=0) iA p p p p) p<|aa<|aF H18 (bh (vs:=[(.agg (ao.C v20.fl).toArray)]) p) p fun v24 _ H19=>aa<|aF H19 (bz p p) p fun v25 _ H20=>U p<|am<|J (bb p p)<|M p<|ad<|bU (v25,(i64.wrap (s13.2 + 1))) H20 (.cons p<|.cons p<|.cons p<|.cons p<|.cons p<|.nil _)<|.cons _ .slnil) fun k16 H17=>bf<|am<|J (bb p p)<|M p<|ad<|bU (s13.1,(i64.wrap (s3.2 + 1))) H17 (.cons p<|.cons p<|.cons p<|.nil _) .slnil) fun k6 H7=>bf<|O<|M p<|U p<|ah<|F ⟨s3.1,p,H7⟩
def nt (a2:Int) (K:kT Ptr) (Rec10:kT Int) (s9:Int) (q30:Nat × Nat) (s20:Bool):hT:=br s20 ( K (some (q30.1,q30.2 + 0 + Int.toNat (a2.tmod 4) * 10 + Int.toNat s9 * 5))) ( Rec10 (i64.wrap (s9 + 1)))
def vu (a0:Ptr) (a1:Int) (a2:Int) (K:kT Ptr) (Rec10:kT Int) (s9:Int):hT:=br (decide (s9 < 2)) ( nn a0 fun q30=>gd (0 <= (a2.tmod 4)/\(a2.tmod 4) < 4)<|gd (0 <= s9/\s9 < 2)<|ld (q30.1,q30.2 + 0 + Int.toNat (a2.tmod 4) * 10 + Int.toNat s9 * 5 + 0 + 0) (cI .i64) fun x38=>br (x38 == a1) ( ld (q30.1,q30.2 + 0 + Int.toNat (a2.tmod 4) * 10 + Int.toNat s9 * 5 + 0 + 1) (cI .i64) fun x46=>nt a2 K Rec10 s9 q30 (x46 == a2)) ( nt a2 K Rec10 s9 q30 false)) ( K none)
def sh_tlb_Tlb_at (a0:Ptr) (a1:Int) (a2:Int) (K:kT Ptr):hT:=br (((a0.isNone || (decide (a1 < 0))) || (decide (a2 < 0))) || (decide (a2 >= 8))) ( K none) ( Lp (vu a0 a1 a2 K) 0)
theorem sim_tlb_Tlb_at (a0:Ptr) (a1:Int) (a2:Int) {K:kT Ptr} {h:Hp} (H:sh_tlb_Tlb_at a0 a1 a2 K h):cl prog pE [(pv a0),(.int .i64 a1),(.int .i64 a2)] kw K h:=z_i func113 p p fun _=>O<|U p<|ai<|O<|M p<|J (cy underlying99 p)<|M p<|W p p (aL _) (fun g1=>wv<|ag p)<|W p p (aL _) (fun g2=>wv<|bZ (aC p g2) p)<|J (dy p p)<|M p<|W p p (aL _) (fun g3=>wv<|ag p)<|W p p (aL _) (fun g4=>wv<|bZ (aC p g4) p)<|J (dy p p)<|M p<|W p p (aL _) (fun g5=>wv<|ag p)<|W p p (aL _) (fun g6=>wv<|iE (aC p g6) p)<|J (dy p p)<|ad<|av p H (fun k7 H8=>O<|U p<|ah<|F ⟨none,p,H8⟩) fun k7 H8=>ak<|ai<|O<|M p<|ad<|aw<|bv (step:=vu a0 a1 a2 K) (fun s9=>[(0,(pv a0)),(1,(.int .i64 a1)),(2,(.int .i64 a2)),(23,(.int .i64 s9))]) (fun s9=>[]) H8 (.cons p<|.cons p<|.cons p<|.cons p<|.nil _) .slnil fun Rec10 s9 _ H11=>O<|J (bZ p p)<|ad<|ai<|av p H11 (fun k12 H13=>ak<|ai<|aw<|O<|M p<|U p<|O<|M p<|M p<|J (v_rem p p (by decide))<|M p<|bL H13 fun q30 e14 H15=>J (aP<|aJ p<|au e14)<|J (ae fld_153_0 p)<|jG H15 fun h16 H17=>J (bH arr_151 p p h16)<|jG H17 fun h18 H19=>J (bH arr_150 p p h18)<|U p<|dY (nt a2 K Rec10 s9 q30) (fun s20=>[(0,(pv a0)),(1,(.int .i64 a1)),(2,(.int .i64 a2)),(8,(.pointer (some ⟨q30.1,q30.2 + 0 + Int.toNat (a2.tmod 4) * 10 + Int.toNat s9 * 5,none⟩))),(23,(.int .i64 s9)),(49,(.bool s20))]) (fun s20=>[]) (am<|M p<|J (aP p)<|J (ae qT p)<|J (ae kR p)<|aa<|aY H19 aR p (fun _=>p) p fun x38 H24=>M p<|J (bM p p)<|M p<|W p p (aA _) (fun g25=>wv<|ag p)<|W p p (aA _) (fun g26=>wv<|aP<|aC p g26)<|W p p (aA _) (fun g27=>wv<|ae qT<|aC p g27)<|W p p (aA _) (fun g28=>wv<|ae nG<|aC p g28)<|bS H24 (fun k30 H31=>z_O (Z k30)<|aY H31 aR (aC p k30) (fun _=>p) p fun x46 H32=>z_O (Z k30)<|z_p (ag p)<|z_O (Z k30)<|z_p (bM p p)<|J (aI p k30 p)<|ad<|ct (x46 == a2) H32 (.cons p<|.cons p<|.cons p<|.cons p<|.cons p<|.cons p<|.nil _) .slnil) fun k30 H31=>Y (ax k30)<|Y (ax k30)<|Y (ax k30)<|J (ap p k30 p)<|ad<|ct false H31 (.cons p<|.cons p<|.cons p<|.cons p<|.cons p<|.cons p<|.nil _) .slnil) fun s20 _ H21=>av p H21 (fun k22 H23=>O<|M p<|U p<|ah<|F ⟨some (q30.1,q30.2 + 0 + Int.toNat (a2.tmod 4) * 10 + Int.toNat s9 * 5),p,H23⟩) fun k22 H23=>ak<|am<|J (bb p p)<|M p<|ad<|bU (i64.wrap (s9 + 1)) H23 (.cons p<|.cons p<|.cons p<|.cons p<|.nil _) .slnil) fun k12 H13=>bf<|O<|U p<|ah<|F ⟨none,p,H13⟩
def wk (a0:Ptr) (a1:Int) (a2:Int) (K:kT Bool):hT:=cl prog pE [(pv a0),(.int .i64 a1),(.int .i64 a2)] kw fun r11=>br r11.isNone ( K false) ( nn r11 fun q16=>st (q16.1,q16.2 + 0) (ao.C il)<|K true)
theorem sim_tlb_Tlb_Flush (a0:Ptr) (a1:Int) (a2:Int) {K:kT Bool} {h:Hp} (H:wk a0 a1 a2 K h):cl prog nM [(pv a0),(.int .i64 a1),(.int .i64 a2)] aD K h:=z_i func69 p p fun _=>O<|U p<|O<|M p<|M p<|M p<|aa<|G H en_113 fun r11 _ H1=>U p<|ai<|O<|M p<|J (cy underlying169 p)<|ad<|av p H1 (fun k2 H3=>O<|U p<|ah<|F ⟨false,p,H3⟩) fun k2 H3=>ak<|O<|M p<|aa<|cu (vs:=[]) (bu<|ct_tlb_empty _) en_114 p p<|bL H3 fun q16 e4 H5=>J (aP<|aJ p<|au e4)<|J (ae qT p)<|aa<|dx gb p p p p p H5 fun _ H6=>ad<|O<|U p<|ah<|F ⟨true,p,H6⟩
def sh_tlb_Tlb_Find (a0:Ptr) (a1:Int) (a2:Int) (K:kT (ao × Bool)):hT:=cl prog pE [(pv a0),(.int .i64 a1),(.int .i64 a2)] kw fun r12=>br r12.isNone ( K ((⟨0,0,0,0⟩:ao),false)) ( nn r12 fun q17=>ld (q17.1,q17.2 + 0) ao.C fun x19=>K (x19,true))
theorem sim_tlb_Tlb_Find (a0:Ptr) (a1:Int) (a2:Int) {K:kT (ao × Bool)} {h:Hp} (H:sh_tlb_Tlb_Find a0 a1 a2 K h):cl prog pF [(pv a0),(.int .i64 a1),(.int .i64 a2)] fZ K h:=z_i func119 p p fun _=>O<|aa<|aT (l:=ao.C (⟨0,0,0,0⟩:ao)) lD p p fun b6=>U p<|O<|M p<|M p<|M p<|aa<|G H en_113 fun r12 _ H1=>U p<|ai<|O<|M p<|J (cy underlying169 p)<|ad<|av p H1 (fun k2 H3=>O<|J (bg (vs:=[]) p my)<|aa<|aV (k:=0) (vs:=ao.C (⟨0,0,0,0⟩:ao)) gb p p p p p p p<|U p<|ah<|bE (bW p (bJ (k:=0) p iA p p)<|cj p) ⟨((⟨0,0,0,0⟩:ao),false),p,H3⟩) fun k2 H3=>ak<|O<|M p<|bL H3 fun q17 e4 H5=>J (aP<|aJ p<|au e4)<|J (ae qT p)<|aa<|ga H5 iA p (fun _=>p) p fun x19 H6=>aa<|aV (k:=0) (vs:=ao.C x19) gb p p p p p p p<|U p<|ah<|bE (bW p (bJ (k:=0) p iA p p)<|cj p) ⟨(x19,true),p,H6⟩
def rM (a0:Ptr) (a1:Int) (K:kT Ptr) (Rec2:kT (Ptr × Int)) (s1:Ptr × Int):hT:=br (decide (s1.2 < 2)) ( nn a0 fun q14=>gd (0 <= a1/\a1 < 4)<|gd (0 <= s1.2/\s1.2 < 2)<|ld (q14.1,q14.2 + 0 + Int.toNat a1 * 10 + Int.toNat s1.2 * 5 + 0 + 0) (cI .i64) fun x22=>br (decide (x22 < 0)) ( K (some (q14.1,q14.2 + 0 + Int.toNat a1 * 10 + Int.toNat s1.2 * 5))) ( br s1.1.isNone ( Rec2 ((some (q14.1,q14.2 + 0 + Int.toNat a1 * 10 + Int.toNat s1.2 * 5)),(i64.wrap (s1.2 + 1)))) ( nn s1.1 fun q33=>ld (q14.1,q14.2 + 0 + Int.toNat a1 * 10 + Int.toNat s1.2 * 5 + 4) (cI .i64) fun x31=>ld (q33.1,q33.2 + 4) (cI .i64) fun x35=>br (decide (x31 < x35)) ( Rec2 ((some (q14.1,q14.2 + 0 + Int.toNat a1 * 10 + Int.toNat s1.2 * 5)),(i64.wrap (s1.2 + 1)))) ( Rec2 (s1.1,(i64.wrap (s1.2 + 1))))))) ( K s1.1)
def sh_tlb_Tlb_room (a0:Ptr) (a1:Int) (K:kT Ptr):hT:=Lp (rM a0 a1 K) (none,0)
theorem sim_tlb_Tlb_room (a0:Ptr) (a1:Int) {K:kT Ptr} {h:Hp} (H:sh_tlb_Tlb_room a0 a1 K h):cl prog tP [(pv a0),(.int .i64 a1)] kw K h:=z_i func153 p p fun _=>O<|U p<|O<|U p<|ai<|O<|M p<|ad<|aw<|bv (step:=rM a0 a1 K) (fun s1=>[(0,(pv a0)),(1,(.int .i64 a1)),(5,(pv s1.1)),(8,(.int .i64 s1.2))]) (fun s1=>[]) H (.cons p<|.cons p<|.cons p<|.cons p<|.nil _) .slnil fun Rec2 s1 _ H3=>O<|J (bZ p p)<|ad<|ai<|av p H3 (fun k4 H5=>ak<|ai<|aw<|O<|M p<|U p<|O<|M p<|M p<|M p<|bL H5 fun q14 e6 H7=>J (aP<|aJ p<|au e6)<|J (ae fld_153_0 p)<|jG H7 fun h8 H9=>J (bH arr_151 p p h8)<|jG H9 fun h10 H11=>J (bH arr_150 p p h10)<|U p<|ai<|O<|M p<|J (aP p)<|J (ae qT p)<|J (ae kR p)<|aa<|aY H11 aR p (fun _=>p) p fun x22 H12=>J (bZ p p)<|ad<|av p H12 (fun k13 H14=>O<|M p<|U p<|ah<|F ⟨some (q14.1,q14.2 + 0 + Int.toNat a1 * 10 + Int.toNat s1.2 * 5),p,H14⟩) fun k13 H14=>ak<|ai<|bk (n:=13) [] ch p .slnil<|V 0 p (ag p)<|V 1 p (cy underlying169 p)<|V 2 p (ag p)<|dX H14 (fun k15 H16=>D 3 p (be k15)<|D 4 p (be k15)<|D 5 p (be k15)<|D 6 p (be k15)<|D 7 p (be k15)<|D 8 p (be k15)<|D 9 p (be k15)<|D 10 p (be k15)<|D 11 p (be k15)<|V 12 p (aI p k15 p)<|aG (by kernel_rfl)<|gc p p<|am<|M p<|U p<|am<|J (bb p p)<|M p<|ad<|bU ((some (q14.1,q14.2 + 0 + Int.toNat a1 * 10 + Int.toNat s1.2 * 5)),(i64.wrap (s1.2 + 1))) H16 (.cons p<|.cons p<|.cons p<|.cons p<|.nil _) .slnil) fun k15 H16=>I 3 p (Z k15) (ve<|ag p)<|I 4 p (Z k15) (ve<|aP p)<|I 5 p (Z k15) (ve<|ae fld_149_1 p)<|I 7 p (Z k15) (ve<|ag p)<|ip H16 fun q33 e17 H18=>I 8 p (Z k15) (ve<|aP<|aJ p<|au e17)<|I 9 p (Z k15) (ve<|ae fld_149_1 p)<|cD (i:=6) (fun _ _ _ _ hh=>hh) H18 p (by kernel_rfl) p p p (Z k15) aR p (fun _=>p) p fun x31 H19=>cD (i:=10) (fun _ _ _ _ hh=>hh) H19 p (by kernel_rfl) p p p (Z k15) aR p (fun _=>p) p fun x35 H20=>I 11 p (Z k15) (ve<|bZ p p)<|V 12 p (ap p k15 p)<|aG (by kernel_rfl)<|av p H20 (fun k21 H22=>am<|M p<|U p<|am<|J (bb p p)<|M p<|ad<|bU ((some (q14.1,q14.2 + 0 + Int.toNat a1 * 10 + Int.toNat s1.2 * 5)),(i64.wrap (s1.2 + 1))) H22 (.cons p<|.cons p<|.cons p<|.cons p<|.nil _) .slnil) fun k21 H22=>ak<|am<|J (bb p p)<|M p<|ad<|bU (s1.1,(i64.wrap (s1.2 + 1))) H22 (.cons p<|.cons p<|.cons p<|.cons p<|.nil _) .slnil) fun k4 H5=>bf<|O<|M p<|U p<|ah<|F ⟨s1.1,p,H5⟩
def kL (a0:Ptr) (a1:ao) (K:kT Bool) (s24:Ptr):hT:=nn a0 fun q60=>ld (q60.1,q60.2 + 40) (cI .i64) fun x62=>st (q60.1,q60.2 + 40) [.int .i64 (i64.wrap (x62 + 1))]<|ld (q60.1,q60.2 + 40) (cI .i64) fun x71=>nn s24 fun q73=>st (q73.1,q73.2) (cq.C (⟨a1,x71⟩:cq))<|K true
def sh_tlb_Tlb_Fill (a0:Ptr) (a1:ao) (K:kT Bool):hT:=br ((a0.isNone || ((((((decide (a1.fCa < 0)) || (decide (a1.fCa >= 4))) || (decide (a1.fVa < 0))) || (decide (a1.fVa >= 8))) || (decide (a1.fFa < 0))) || (decide (a1.fFa >= 16)))) || (!(cK a1.fBa))) ( K false) ( cl prog pE [(pv a0),(.int .i64 a1.fCa),(.int .i64 a1.fVa)] kw fun r51=>br r51.isNone ( cl prog tP [(pv a0),(.int .i64 (a1.fVa.tmod 4))] kw fun r58=>kL a0 a1 K r58) ( kL a0 a1 K r51))
theorem sim_tlb_Tlb_Fill (a0:Ptr) (a1:ao) {K:kT Bool} {h:Hp} (H:sh_tlb_Tlb_Fill a0 a1 K h):cl prog pG [(pv a0),(.agg (ao.C a1).toArray)] aD K h:=z_i func122 p p fun _=>O<|aa<|cz (l:=ao.C a1) p p p fun b3=>U p<|O<|J (ae kR p)<|bo (bc (k:=0) aR p p p) p<|J (bZ p p)<|M p<|W p p (aL _) (fun g1=>wv<|ae kR p)<|W p p (aL _) (fun g2=>cv<|bc (k:=0) aR (aC p g2) p p)<|W p p (aL _) (fun g3=>wv<|iE (aC p g3) p)<|J (dy p p)<|M p<|W p p (aL _) (fun g4=>wv<|ae nG p)<|W p p (aL _) (fun g5=>cv<|bc (k:=0) aR (aC p g5) p p)<|W p p (aL _) (fun g6=>wv<|bZ (aC p g6) p)<|J (dy p p)<|M p<|W p p (aL _) (fun g7=>wv<|ae nG p)<|W p p (aL _) (fun g8=>cv<|bc (k:=0) aR (aC p g8) p p)<|W p p (aL _) (fun g9=>wv<|iE (aC p g9) p)<|J (dy p p)<|M p<|W p p (aL _) (fun g10=>wv<|ae mt p)<|W p p (aL _) (fun g11=>cv<|bc (k:=0) aR (aC p g11) p p)<|W p p (aL _) (fun g12=>wv<|bZ (aC p g12) p)<|J (dy p p)<|M p<|W p p (aL _) (fun g13=>wv<|ae mt p)<|W p p (aL _) (fun g14=>cv<|bc (k:=0) aR (aC p g14) p p)<|W p p (aL _) (fun g15=>wv<|iE (aC p g15) p)<|J (dy p p)<|U p<|ai<|O<|M p<|J (cy underlying99 p)<|M p<|W p p (aL _) (fun g16=>wv<|ag p)<|J (dy p p)<|M p<|W p p (aL _) (fun g17=>wv<|ae rG p)<|W p p (aL _) (fun g18=>cv<|bc (k:=0) aR (aC p g18) p p)<|dk (vs:=[(.int .i64 a1.fBa)]) p p p (aL _) (fun g19=>bu<|qV a1.fBa _) en_112 (fun g19=>aZ (aC p g19) bX) p<|W p p (aL _) (fun g20=>wv<|cw<|aC p g20)<|J (dy p p)<|ad<|av p H (fun k21 H22=>O<|U p<|ah<|F ⟨false,p,H22⟩) fun k21 H22=>ak<|O<|M p<|J (ae kR p)<|bo (bc (k:=0) aR p p p) p<|J (ae nG p)<|bo (bc (k:=0) aR p p p) p<|aa<|G H22 en_113 fun r51 _ H23=>U p<|dY (kL a0 a1 K) (fun s24=>[(0,(pv a0)),(3,(.pointer (some ⟨b3,0,none⟩))),(6,(pv s24))]) (fun s24=>[bx b3 38 (ao.C a1)]) (O<|M p<|J (cy underlying169 p)<|ad<|av p H23 (fun k34 H35=>am<|M p<|J (ae nG p)<|bo (bc (k:=0) aR p p p) p<|J (v_rem p p (by decide))<|aa<|G H35 en_153 fun r58 _ H36=>U p<|ct r58 H36 (.cons p<|.cons p<|.cons p<|.nil _)<|.cons_cons _ .slnil) fun k34 H35=>ak<|ct r51 H35 (.cons p<|.cons p<|.cons p<|.nil _)<|.cons_cons _ .slnil) fun s24 _ H25=>O<|M p<|bL H25 fun q60 e26 H27=>J (aP<|aJ p<|au e26)<|J (ae fld_153_1 p)<|aa<|aY H27 aR p (fun _=>p) p fun x62 H28=>J (bb p p)<|J (aP<|aJ p<|au e26)<|J (ae fld_153_1 p)<|aa<|dx mo p p p p p H28 fun _ H29=>ad<|ai<|bk (n:=9) [bx b3 38 (ao.C a1)] ch p (.cons_cons _ .slnil)<|V 0 p (ag p)<|z_E 1 p (eP (k:=0) iA p p p p)<|V 2 p (ag<|aJ p<|au e26)<|V 3 p (aP p)<|V 4 p (ae fld_153_1 p)<|bw (i:=5) (fun _ _ _ _ hh=>hh) H29 p (by kernel_rfl) aR p (fun _=>p) p fun x71 H30=>V 6 p (bg p<|build_149_0_1 a1 x71)<|ip H30 fun q73 e31 H32=>V 7 p (aP<|aJ p<|au e31)<|R 8 p<|dx inf_149 p p p p p H32 fun _ H33=>⟨.cons_cons _ .slnil,aG (by kernel_rfl)<|O<|U p<|ah<|F ⟨true,p,H33⟩⟩
def qz (a0:Ptr) (Rec4:kT Int) (s3:Int) (Rec9:kT Int) (s8:Int):hT:=br (decide (s8 < 2)) ( nn a0 fun q16=>gd (0 <= s3/\s3 < 4)<|gd (0 <= s8/\s8 < 2)<|st (q16.1,q16.2 + 0 + Int.toNat s3 * 10 + Int.toNat s8 * 5 + 0) (ao.C il)<|Rec9 (i64.wrap (s8 + 1))) ( Rec4 (i64.wrap (s3 + 1)))
def qA (a0:Ptr) (K:kT Unit) (Rec4:kT Int) (s3:Int):hT:=br (decide (s3 < 4)) ( Lp (qz a0 Rec4 s3) 0) ( K ())
def wm (a0:Ptr) (K:kT Unit):hT:=br a0.isNone ( K ()) ( Lp (qA a0 K) 0)
theorem sim_tlb_Tlb_Clear (a0:Ptr) {K:kT Unit} {h:Hp} (H:wm a0 K h):cl prog rS [(pv a0)] R_ K h:=z_i func95 p p fun _=>ai<|O<|M p<|J (cy underlying99 p)<|ad<|av p H (fun k1 H2=>ah<|bE (wB p) ⟨(),p,H2⟩) fun k1 H2=>ak<|O<|M p<|ad<|aw<|bv (step:=qA a0 K) (fun s3=>[(0,(pv a0)),(6,(.int .i64 s3))]) (fun s3=>[]) H2 (.cons p<|.cons p<|.nil _) .slnil fun Rec4 s3 _ H5=>O<|J (bZ p p)<|ad<|ai<|av p H5 (fun k6 H7=>ak<|ai<|aw<|O<|M p<|U p<|O<|M p<|ad<|aw<|bv (step:=qz a0 Rec4 s3) (fun s8=>[(0,(pv a0)),(2,(.int .i64 s3)),(6,(.int .i64 s3)),(9,(.int .i64 s8))]) (fun s8=>[]) H7 (.cons p<|.cons p<|.cons p<|.cons p<|.nil _) .slnil fun Rec9 s8 _ H10=>O<|J (bZ p p)<|ad<|ai<|av p H10 (fun k11 H12=>ak<|ai<|aw<|O<|M p<|U p<|bk (n:=10) [] ch p .slnil<|V 0 p (ag p)<|V 1 p (ag p)<|V 2 p (ag p)<|ip H12 fun q16 e13 H14=>V 4 p (aP<|aJ p<|au e13)<|V 5 p (ae fld_153_0 p)<|eva_gd H14 fun h15 H16=>V 6 p (bH arr_151 p p h15)<|R 3 p<|cu (vs:=[]) (bu<|ct_tlb_empty _) en_114 p p ⟨.slnil,eva_gd H16 fun h17 H18=>V 7 p (bH arr_150 p p h17)<|V 8 p (ae qT p)<|R 9 p<|dx gb p p p p p H18 fun _ H19=>⟨.slnil,aG (by kernel_rfl)<|am<|J (bb p p)<|M p<|ad<|bU (i64.wrap (s8 + 1)) H19 (.cons p<|.cons p<|.cons p<|.cons p<|.nil _) .slnil⟩⟩) fun k11 H12=>bf<|am<|J (bb p p)<|M p<|ad<|bU (i64.wrap (s3 + 1)) H12 (.cons p<|.cons p<|.nil _) .slnil) fun k6 H7=>bf<|end_i (wB p) ⟨(),p,H7⟩
def sh_tlb_New (K:kT Ptr):hT:=hpv prog (Instr.build qB #[]) encL fun (v2:(List Value))=>nw qB v2 fun b3=>cl prog rS [(.pointer (some ⟨b3,0,none⟩))] R_ fun (_:Unit)=>K (some (b3,0))
theorem sim_tlb_New {K:kT Ptr} {h:Hp} (H:sh_tlb_New K h):cl prog jd [] gY K h:=z_i func59 p p fun _=>O<|U p<|O<|aa<|aF H (x_build (vs:=[]) p) p fun v2 _ H1=>aa<|iF p p p H1 fun b3 _ H2=>U p<|O<|M p<|aa<|G H2 en_95 fun r5 _ H3=>ad<|O<|M p<|U p<|ah<|F ⟨some (b3,0),p,H3⟩
end
section
open Go Mb
abbrev TL:=cq
theorem jO (p:TL):p.C.length = 5:=rfl
def fX (x:Ptr) (t:List TL × Int):As:=fun h=>∃ b:Nat,(x = some (b,0)/\t.1.length = 8)/\ay [blk b qB ([]++(t.1.flatMap cq.C++[.int .i64 t.2]))] h
theorem oV {x:Ptr} {t:List TL × Int} {l:List As} {h:Hp} (s0:ay (fX x t::l) h):∃ b,x = some (b,0)/\t.1.length = 8/\ay (blk b qB ([]++(t.1.flatMap cq.C++[.int .i64 t.2]))::l) h:=by
 obtain ⟨b,⟨hx,hb⟩,st⟩:=op_ s0;exact ⟨b,hx,hb,st⟩
theorem vt {b:Nat} {t:List TL × Int} {l:List As} {h:Hp} (hb:t.1.length = 8) (st:ay (blk b qB ([]++(t.1.flatMap cq.C++[.int .i64 t.2]))::l) h):ay (fX (some (b,0)) t::l) h:=cl_ b ⟨rfl,hb⟩ st
namespace Tlb
abbrev line0:TL:=⟨⟨0,0,0,0⟩,0⟩
def ln (ls:List TL) (n:Nat):TL:=ls.getD n line0
def hit (ls:List TL) (e p:Int) (n:Nat):Prop:=(ln ls n).fl.fCa = e/\(ln ls n).fl.fVa = p
instance (ls:List TL) (e p:Int) (n:Nat):Decidable (hit ls e p n):=by unfold hit; infer_instance
def at_ (ls:List TL) (e p:Int):Option Nat :=
 if e < 0\/p < 0\/p >= 8 then none
 else if hit ls e p ((p.tmod 4).toNat * 2) then some ((p.tmod 4).toNat * 2) else if hit ls e p ((p.tmod 4).toNat * 2 + 1) then some ((p.tmod 4).toNat * 2 + 1) else none
def find (ls:List TL) (e p:Int):ao × Bool:=match at_ ls e p with | some n=>((ln ls n).fl,true) | none=>(⟨0,0,0,0⟩,false)
def flush (t:List TL × Int) (e p:Int):Bool × List TL × Int:=match at_ t.1 e p with | some n=>(true,t.1.set n { ln t.1 n with fl:=il },t.2) | none=>(false,t)
theorem at_lt {ls:List TL} {e p:Int} {n:Nat} (h:at_ ls e p = some n):n < 8:=by
 unfold at_ at h;split at h
 ·cases h
 ·rename_i h0;have:(p.tmod 4).toNat < 4:=by
   obtain ⟨q,rfl⟩:=Int.eq_ofNat_of_zero_le (show 0 <= p by omega);rw [show ((4:Int)) = ((4:Nat):Int) from rfl,← Int.ofNat_tmod];simp; omega
  split at h
  ·cases h; omega
  ·split at h
   ·cases h; omega
   ·cases h
end Tlb
def xQ (b:Nat) (o:Option Nat):Ptr:=o.map fun n=>(b,n * 5)
theorem ln_get {ls:List TL} {n:Nat} (h:n < ls.length):Tlb.ln ls n = ls[n]:=by simp [Tlb.ln,h]
theorem sp_tlb_at (b:Nat) (t:List TL × Int) (e p:Int) (hb:t.1.length = 8):Sp prog pE [pv (some (b,0)),.int .i64 e,.int .i64 p] kw [fX (some (b,0)) t] (fun r=>pa_ (r = xQ b (Tlb.at_ t.1 e p)) [fX (some (b,0)) t]):=by
 intro h s0;obtain ⟨b',hb',_,st⟩:=oV s0;cases hb';refine sim_tlb_Tlb_at _ _ _ ?_;unfold sh_tlb_Tlb_at;refine aX (fun k=>?_) (fun k=>?_)
 ·have k':e < 0\/p < 0\/p >= 8:=by simpa [or_assoc] using k
  have e1:Tlb.at_ t.1 e p = none:=if_pos k';rw [e1];exact ba rfl (vt hb st)
 ·have k':¬ (e < 0\/p < 0\/p >= 8):=by simp at k; omega
  obtain ⟨q,rfl⟩:=Int.eq_ofNat_of_zero_le (show 0 <= p by omega);have hm:((q:Int).tmod 4) = ((q % 4:Nat):Int):=by rw [show ((4:Int)) = ((4:Nat):Int) from rfl,← Int.ofNat_tmod]
  have hq4:q % 4 < 4:=Nat.mod_lt _ (by omega);have e1:Tlb.at_ t.1 e q = if Tlb.hit t.1 e q (q % 4 * 2) then some (q % 4 * 2) else if Tlb.hit t.1 e q (q % 4 * 2 + 1) then some (q % 4 * 2 + 1) else none:=by
   unfold Tlb.at_; rw [if_neg k',hm,Int.toNat_natCast]
  refine Lp.intro (fun (w:Int) h=>∃ n:Nat,w = n/\n <= 2/\(∀ m,m < n->¬ Tlb.hit t.1 e q (q % 4 * 2 + m))/\ay [fX (some (b,0)) t] h) (fun (w:Int) _=>2 - w.toNat) ⟨0,rfl,by omega,by intro m hm; omega,vt hb st⟩ ?_;rintro w h ⟨n,rfl,hn,hno,s1⟩;unfold vu;refine aX (fun k2=>?_) (fun k2=>?_)
  ·have hlt:n < 2:=by have:=of_decide_eq_true k2; omega
   obtain ⟨b',hb',_,s2⟩:=oV s1;cases hb';have hi:q % 4 * 2 + n < t.1.length:=by rw [hb]; omega
   have hw:i64.wrap ((n:Int) + 1) = ((n + 1:Nat):Int):=by rw [bp (by omega) (by omega)]; rfl
   rw [hm];refine cL ⟨⟨by omega,by omega⟩,⟨by omega,by omega⟩,?_⟩;have next:¬ Tlb.hit t.1 e q (q % 4 * 2 + n)->∀ h,ay [fX (some (b,0)) t] h ->
     (∃ m:Nat,i64.wrap ((n:Int) + 1) = m/\m <= 2/\(∀ k,k < m->¬ Tlb.hit t.1 e q (q % 4 * 2 + k))/\ay [fX (some (b,0)) t] h)/\2 - (i64.wrap ((n:Int) + 1)).toNat < 2 - (n:Int).toNat:=by
    intro hnot h s;rw [hw];refine ⟨⟨n + 1,rfl,hlt,fun k hk=>?_,s⟩,by simp; omega⟩;by_cases hkn:k = n
    ·subst hkn; exact hnot
    ·exact hno k (by omega)
   refine ld_a (j:=0) (i:=q % 4 * 2 + n) (k:=0) t.1[q % 4 * 2 + n].fl.fCa jO s2 rfl (by simp; omega) (aB hi) (c1 rfl rfl) ?_;refine aX (fun k3=>?_) (fun k3=>?_)
   ·refine ld_a (j:=0) (i:=q % 4 * 2 + n) (k:=1) t.1[q % 4 * 2 + n].fl.fVa jO s2 rfl (by simp; omega) (aB hi) (c1 rfl rfl) ?_;unfold nt;refine aX (fun k4=>?_) (fun k4=>?_)
    ·have hh:Tlb.hit t.1 e q (q % 4 * 2 + n):=by
      unfold Tlb.hit; rw [ln_get hi]; exact ⟨by simpa using k3,by simpa using k4⟩
     refine ba ?_ s1;rw [e1];have hn01:n = 0\/n = 1:=by omega
     rcases hn01 with rfl | rfl
     ·rw [add_zero] at hh; rw [if_pos hh]; simp [xQ,hm]; omega
     ·have:=hno 0 (by omega); rw [add_zero] at this; rw [if_neg this,if_pos hh]; simp [xQ,hm]; omega
    ·exact next (by unfold Tlb.hit; rw [ln_get hi]; intro hh; simp [hh.2] at k4) h s1
   ·unfold nt;refine dN rfl ?_;exact next (by unfold Tlb.hit; rw [ln_get hi]; intro hh; simp [hh.1] at k3) h s1
  ·have hn2:n = 2:=by have:=of_decide_eq_false k2; omega
   subst hn2;refine ba ?_ s1;have h0:=hno 0 (by omega);have h1:=hno 1 (by omega);rw [add_zero] at h0;rw [e1,if_neg h0,if_neg h1]
   rfl
theorem sp_tlb_Find (x:Ptr) (t:List TL × Int) (e p:Int):Sp prog pF [pv x,.int .i64 e,.int .i64 p] fZ [fX x t] (fun r=>pa_ (r = Tlb.find t.1 e p) [fX x t]):=by
 intro h s0;obtain ⟨b,rfl,hb,st⟩:=oV s0;refine sim_tlb_Tlb_Find _ _ _ ?_;unfold sh_tlb_Tlb_Find;refine cW [0] (sp_tlb_at b t e p hb) s0 rfl fun r h' s1=>?_;obtain ⟨hr,s2⟩:=bA.1 s1;unfold Tlb.find;cases ho:Tlb.at_ t.1 e p with
 | none =>
  rw [ho] at hr; subst hr;exact eG rfl (ba rfl s2)
 | some n =>
  rw [ho] at hr; subst hr;have hn:n < t.1.length:=by rw [hb]; exact Tlb.at_lt ho
  obtain ⟨b',hb',_,s3⟩:=oV s2;cases hb';refine dN rfl (cL ?_);refine ld_a (j:=0) (i:=n) (k:=0) t.1[n].fl jO s3 rfl (by simp) (aB hn) ?_ ?_
  ·intro m v hv;rw [Nat.zero_add];have:m < 4:=(List.getElem?_eq_some_iff.1 hv).1
   match m,this with
   | 0,_=>exact hv
   | 1,_=>exact hv
   | 2,_=>exact hv
   | 3,_=>exact hv
  ·refine ba ?_ (vt hb s3);show _ = ((Tlb.ln t.1 n).fl,true)
   rw [ln_get hn]
theorem sp_tlb_Flush (x:Ptr) (t:List TL × Int) (e p:Int):Sp prog nM [pv x,.int .i64 e,.int .i64 p] aD [fX x t] (fun r=>pa_ (r = (Tlb.flush t e p).1) [fX x (Tlb.flush t e p).2]):=by
 intro h s0;obtain ⟨b,rfl,hb,st⟩:=oV s0;refine sim_tlb_Tlb_Flush _ _ _ ?_;unfold wk;refine cW [0] (sp_tlb_at b t e p hb) s0 rfl fun r h' s1=>?_;obtain ⟨hr,s2⟩:=bA.1 s1;cases ho:Tlb.at_ t.1 e p with
 | none =>
  rw [ho] at hr; subst hr;have e1:Tlb.flush t e p = (false,t):=by unfold Tlb.flush; rw [ho]
  rw [e1];exact eG rfl (ba rfl s2)
 | some n =>
  rw [ho] at hr; subst hr;have hn:n < t.1.length:=by rw [hb]; exact Tlb.at_lt ho
  have e1:Tlb.flush t e p = (true,t.1.set n { t.1[n] with fl:=il },t.2):=by unfold Tlb.flush; rw [ho,← ln_get hn]
  rw [e1];obtain ⟨b',hb',_,s3⟩:=oV s2;cases hb';refine dN rfl (cL ?_);refine st_a (j:=0) (i:=n) (k:=0) { t.1[n] with fl:=il } jO s3 rfl (by simp) (aB hn) (by simp [ao.C]) rfl fun h2 s4=>?_;exact ba rfl (vt (t:=(t.1.set n { t.1[n] with fl:=il },t.2)) (by simpa using hb) s4)
namespace Tlb
def room (ls:List TL) (a:Nat):Nat :=
 if (ln ls a).fl.fCa < 0 then a else if (ln ls (a + 1)).fl.fCa < 0 then a + 1 else if (ln ls (a + 1)).fwhen < (ln ls a).fwhen then a + 1 else a
end Tlb
theorem sp_tlb_room (b:Nat) (t:List TL × Int) (s:Nat) (hs:s < 4) (hb:t.1.length = 8):Sp prog tP [pv (some (b,0)),.int .i64 s] kw [fX (some (b,0)) t] (fun r=>pa_ (r = xQ b (some (Tlb.room t.1 (s * 2)))) [fX (some (b,0)) t]):=by
 intro h s0;refine sim_tlb_Tlb_room _ _ ?_;unfold sh_tlb_Tlb_room;have w1:i64.wrap (((0:Nat):Int) + 1) = 1:=by rw [bp (by omega) (by omega)]; rfl
 have w2:i64.wrap ((1:Int) + 1) = 2:=by rw [bp (by omega) (by omega)]; rfl
 have h0:s * 2 < t.1.length:=by omega
 have h1:s * 2 + 1 < t.1.length:=by omega
 have l0:=ln_get h0;have l1:=ln_get h1;refine Lp.intro (fun (z:Ptr × Int) h=>((z = (none,0))\/(z = (some (b,s * 2 * 5),1)/\¬ (t.1[s * 2]).fl.fCa < 0)\/(z.2 = 2/\z.1 = xQ b (some (Tlb.room t.1 (s * 2)))))/\ay [fX (some (b,0)) t] h) (fun (z:Ptr × Int) _=>2 - z.2.toNat) ⟨.inl rfl,s0⟩ ?_;rintro ⟨z,i⟩ h ⟨hz,s1⟩;obtain ⟨b',hb',_,s2⟩:=oV s1;cases hb';unfold rM;rcases hz with hz | ⟨hz,hne⟩ | ⟨hz1,hz2⟩
 ·cases hz;refine eG rfl (cL ⟨⟨by omega,by omega⟩,⟨by omega,by omega⟩,?_⟩);refine ld_a (j:=0) (i:=s * 2) (k:=0) t.1[s * 2].fl.fCa jO s2 rfl (by simp; omega) (aB h0) (c1 rfl rfl) ?_;refine aX (fun k=>?_) (fun k=>?_)
  ·have k':t.1[s * 2].fl.fCa < 0:=by simpa using k
   refine ba ?_ s1;unfold Tlb.room;rw [l0,if_pos k'];simp [xQ]; omega
  ·have k':¬ t.1[s * 2].fl.fCa < 0:=by simpa using k
   refine eG rfl ?_;refine ⟨⟨.inr (.inl ⟨?_,k'⟩),s1⟩,?_⟩
   ·show (some (b,0 + 0 + (s:Int).toNat * 10 + (0:Int).toNat * 5),i64.wrap ((0:Int) + 1)) = _;have:i64.wrap ((0:Int) + 1) = 1:=w1;rw [this];simp; omega
   ·have:i64.wrap ((0:Int) + 1) = 1:=w1;show 2 - (i64.wrap ((0:Int) + 1)).toNat < _;rw [this]; decide
 ·cases hz;refine eG rfl (cL ⟨⟨by omega,by omega⟩,⟨by omega,by omega⟩,?_⟩);refine ld_a (j:=0) (i:=s * 2 + 1) (k:=0) t.1[s * 2 + 1].fl.fCa jO s2 rfl (by simp; omega) (aB h1) (c1 rfl rfl) ?_;refine aX (fun k=>?_) (fun k=>?_)
  ·have k':t.1[s * 2 + 1].fl.fCa < 0:=by simpa using k
   refine ba ?_ s1;unfold Tlb.room;rw [l0,l1,if_neg hne,if_pos k'];simp [xQ]; omega
  ·have k':¬ t.1[s * 2 + 1].fl.fCa < 0:=by simpa using k
   refine dN rfl (cL ?_);refine ld_a (j:=0) (i:=s * 2 + 1) (k:=4) t.1[s * 2 + 1].fwhen jO s2 rfl (by simp; omega) (aB h1) (c1 rfl rfl) ?_;refine ld_a (j:=0) (i:=s * 2) (k:=4) t.1[s * 2].fwhen jO s2 rfl (by simp) (aB h0) (c1 rfl rfl) ?_;refine aX (fun k2=>?_) (fun k2=>?_)
   ·have k2':t.1[s * 2 + 1].fwhen < t.1[s * 2].fwhen:=by simpa using k2
    refine ⟨⟨.inr (.inr ⟨w2,?_⟩),s1⟩,by show 2 - (i64.wrap ((1:Int) + 1)).toNat < _; rw [w2]; simp⟩;unfold Tlb.room;rw [l0,l1,if_neg hne,if_neg k',if_pos k2'];simp [xQ]; omega
   ·have k2':¬ t.1[s * 2 + 1].fwhen < t.1[s * 2].fwhen:=by simpa using k2
    refine ⟨⟨.inr (.inr ⟨w2,?_⟩),s1⟩,by show 2 - (i64.wrap ((1:Int) + 1)).toNat < _; rw [w2]; simp⟩;unfold Tlb.room;rw [l0,l1,if_neg hne,if_neg k',if_neg k2'];simp [xQ]
 ·simp only at hz1 hz2;subst hz1;exact dN rfl (ba hz2 s1)
namespace Tlb
def bad (a:ao):Prop:=a.fCa < 0\/a.fCa >= 4\/a.fVa < 0\/a.fVa >= 8\/a.fFa < 0\/a.fFa >= 16\/cK a.fBa = false
instance (a:ao):Decidable (bad a):=by unfold bad; infer_instance
def place (ls:List TL) (a:ao):Nat:=match at_ ls a.fCa a.fVa with | some n=>n | none=>room ls ((a.fVa.tmod 4).toNat * 2)
def fill (t:List TL × Int) (a:ao):Bool × List TL × Int :=
 if bad a then (false,t) else (true,t.1.set (place t.1 a) ⟨a,i64.wrap (t.2 + 1)⟩,i64.wrap (t.2 + 1))
def clr (c:TL):TL:={ c with fl:=il }
def clear (t:List TL × Int):List TL × Int:=(t.1.map clr,t.2)
end Tlb
theorem tmod4 {p:Int} (h0:0 <= p):∃ q:Nat,p.tmod 4 = q/\q < 4:=by
 obtain ⟨q,rfl⟩:=Int.eq_ofNat_of_zero_le h0;exact ⟨q % 4,by rw [show ((4:Int)) = ((4:Nat):Int) from rfl,← Int.ofNat_tmod],Nat.mod_lt _ (by omega)⟩
theorem room_lt (ls:List TL) (a:Nat):Tlb.room ls a <= a + 1:=by
 unfold Tlb.room; split <;> (try split) <;> (try split) <;> omega
theorem sp_tlb_Fill (x:Ptr) (t:List TL × Int) (a:ao):Sp prog pG [pv x,.agg a.C.toArray] aD [fX x t] (fun r=>pa_ (r = (Tlb.fill t a).1) [fX x (Tlb.fill t a).2]):=by
 intro h s0;obtain ⟨b,rfl,hb,st⟩:=oV s0;refine sim_tlb_Tlb_Fill _ _ ?_;unfold sh_tlb_Tlb_Fill;refine aX (fun k=>?_) (fun k=>?_)
 ·have k':Tlb.bad a:=by simpa [Tlb.bad,or_assoc] using k
  have e1:Tlb.fill t a = (false,t):=if_pos k';rw [e1];exact ba rfl (vt hb st)
 ·have k':¬ Tlb.bad a:=by
   unfold Tlb.bad;simp at k;obtain ⟨⟨⟨⟨⟨⟨c1,c2⟩,c3⟩,c4⟩,c5⟩,c6⟩,c7⟩:=k;simp [c7]; omega
  have e1:Tlb.fill t a = (true,t.1.set (Tlb.place t.1 a) ⟨a,i64.wrap (t.2 + 1)⟩,i64.wrap (t.2 + 1)):=if_neg k';rw [e1];have fin:∀ (n:Nat) (h:Hp),n = Tlb.place t.1 a->n < 8->ay [fX (some (b,0)) t] h->kL (some (b,0)) a (fun r=>pa_ (r = true) [fX (some (b,0)) (t.1.set (Tlb.place t.1 a) ⟨a,i64.wrap (t.2 + 1)⟩,i64.wrap (t.2 + 1))]) (some (b,n * 5)) h:=by
   intro n h hn hlt s1;obtain ⟨b',hb',_,s2⟩:=oV s1;cases hb';have hn':n < t.1.length:=by omega
   have hfl:(t.1.flatMap cq.C).length = 40:=by rw [dG jO,hb]
   have lL:([]++(t.1.flatMap cq.C++[Value.int .i64 t.2]))[0 + 40]? = some (.int .i64 t.2):=by
    rw [nil_append,List.getElem?_append_right (by omega),hfl]; rfl
   unfold kL;refine cL (bt t.2 s2 (i:=0) rfl rfl lL ?_);refine vv (i:=0) s2 rfl (by simp [hfl]) fun h3 s3=>?_;have ew:wr ([]++(t.1.flatMap cq.C++[Value.int .i64 t.2])) (0 + 40) [.int .i64 (i64.wrap (t.2 + 1))] = []++(t.1.flatMap cq.C++[Value.int .i64 (i64.wrap (t.2 + 1))]):=by
    rw [nil_append,nil_append,show 0 + 40 = (t.1.flatMap cq.C).length + 0 from by rw [hfl],rg]; rfl
   have s4:ay [blk b qB ([]++(t.1.flatMap cq.C++[Value.int .i64 (i64.wrap (t.2 + 1))]))] h3:=by rw [← ew]; exact s3
   have hcell2:([]++(t.1.flatMap cq.C++[Value.int .i64 (i64.wrap (t.2 + 1))]))[0 + 40]? = some (.int .i64 (i64.wrap (t.2 + 1))):=by
    rw [nil_append,List.getElem?_append_right (by omega),hfl]; rfl
   refine bt (i64.wrap (t.2 + 1)) s4 (i:=0) rfl rfl hcell2 ?_;refine cL ?_;refine st_a (j:=0) (i:=n) (k:=0) (⟨a,i64.wrap (t.2 + 1)⟩:TL) jO s4 rfl (by simp) (aB hn') (by simp [jO]) rfl fun h5 s5=>?_;subst hn;exact ba rfl (vt (t:=(t.1.set (Tlb.place t.1 a) ⟨a,i64.wrap (t.2 + 1)⟩,i64.wrap (t.2 + 1))) (by simpa using hb) s5)
  refine cW [0] (sp_tlb_at b t a.fCa a.fVa hb) s0 rfl fun r h' s1=>?_;obtain ⟨hr,s2⟩:=bA.1 s1;cases ho:Tlb.at_ t.1 a.fCa a.fVa with
  | none =>
   rw [ho] at hr; subst hr;refine eG rfl ?_;obtain ⟨q,hq,hq4⟩:=tmod4 (p:=a.fVa) (by unfold Tlb.bad at k'; omega);rw [hq];refine cW [0] (sp_tlb_room b t q hq4 hb) s2 rfl fun r h' s3=>?_;obtain ⟨hr,s4⟩:=bA.1 s3;subst hr;have hp:Tlb.room t.1 (q * 2) = Tlb.place t.1 a:=by unfold Tlb.place; rw [ho,hq,Int.toNat_natCast]
   exact fin _ _ hp (by have:=room_lt t.1 (q * 2); omega) s4
  | some n =>
   rw [ho] at hr; subst hr;refine dN rfl ?_;exact fin _ _ (by unfold Tlb.place; rw [ho]) (Tlb.at_lt ho) s2
theorem tlb_clear_take (ls:List TL) (n:Nat) (hn:n < ls.length):(((ls.take n).map Tlb.clr)++ls.drop n).set n (Tlb.clr ls[n]) = ((ls.take (n + 1)).map Tlb.clr)++ls.drop (n + 1):=by
 have h1:ls.drop n = ls[n]::ls.drop (n + 1):=List.drop_eq_getElem_cons hn;have h2:ls.take (n + 1) = ls.take n++[ls[n]]:=by simp
 rw [h2,List.map_append,List.set_append_right _ _ (by simp; omega)];have:n - ((ls.take n).map Tlb.clr).length = 0:=by simp; omega
 rw [this,h1,List.append_assoc]
 rfl
theorem sp_tlb_Clear (x:Ptr) (t:List TL × Int):Sp prog rS [pv x] R_ [fX x t] (fun _=>ay [fX x (Tlb.clear t)]):=by
 intro h s0;obtain ⟨b,rfl,hb,st⟩:=oV s0;refine sim_tlb_Tlb_Clear _ ?_;unfold wm;refine dN rfl ?_;have mid:∀ n:Nat,n <= 8->((((t.1.take n).map Tlb.clr)++t.1.drop n)).length = 8:=by intro n hn; simp; omega
 refine Lp.intro (fun (i:Int) h=>∃ n:Nat,i = n/\n <= 4/\ay [fX (some (b,0)) (((t.1.take (n * 2)).map Tlb.clr)++t.1.drop (n * 2),t.2)] h) (fun (i:Int) _=>4 - i.toNat) ⟨0,rfl,by omega,by simpa using vt hb st⟩ ?_;rintro i h ⟨n,rfl,hn,s1⟩;unfold qA;refine aX (fun k=>?_) (fun k=>?_)
 ·have hlt:n < 4:=by have:=of_decide_eq_true k; omega
  refine Lp.intro (fun (j:Int) h=>∃ m:Nat,j = m/\m <= 2/\ay [fX (some (b,0)) (((t.1.take (n * 2 + m)).map Tlb.clr)++t.1.drop (n * 2 + m),t.2)] h) (fun (j:Int) _=>2 - j.toNat) ⟨0,rfl,by omega,s1⟩ ?_;rintro j h ⟨m,rfl,hm,s2⟩;unfold qz;refine aX (fun k2=>?_) (fun k2=>?_)
  ·have hlt2:m < 2:=by have:=of_decide_eq_true k2; omega
   have hw:i64.wrap ((m:Int) + 1) = ((m + 1:Nat):Int):=by rw [bp (by omega) (by omega)]; rfl
   have hi:n * 2 + m < t.1.length:=by omega
   obtain ⟨b',hb',_,s3⟩:=oV s2;cases hb';refine cL ⟨⟨by omega,by omega⟩,⟨by omega,by omega⟩,?_⟩;have hget:(((t.1.take (n * 2 + m)).map Tlb.clr)++t.1.drop (n * 2 + m))[n * 2 + m]? = some t.1[n * 2 + m]:=by
    rw [List.getElem?_append_right (by simp; omega)];have:n * 2 + m - ((t.1.take (n * 2 + m)).map Tlb.clr).length = 0:=by simp; omega
    rw [this,List.getElem?_drop];exact aB hi
   refine st_a (j:=0) (i:=n * 2 + m) (k:=0) (Tlb.clr t.1[n * 2 + m]) jO s3 rfl (by simp; omega) hget (by simp [ao.C]) rfl fun h2 s4=>?_;rw [hw];refine ⟨⟨m + 1,rfl,hlt2,?_⟩,by simp; omega⟩;have:=tlb_clear_take t.1 (n * 2 + m) hi;have s5:=vt (t:=((((t.1.take (n * 2 + m)).map Tlb.clr)++t.1.drop (n * 2 + m)).set (n * 2 + m) (Tlb.clr t.1[n * 2 + m]),t.2)) (by simp; omega) s4;rw [this] at s5;exact s5
  ·have hm2:m = 2:=by have:=of_decide_eq_false k2; omega
   subst hm2;have hw:i64.wrap ((n:Int) + 1) = ((n + 1:Nat):Int):=by rw [bp (by omega) (by omega)]; rfl
   rw [hw];exact ⟨⟨n + 1,rfl,hlt,by rw [show (n + 1) * 2 = n * 2 + 2 from by omega]; exact s2⟩,by simp; omega⟩
 ·have hn4:n = 4:=by have:=of_decide_eq_false k; omega
  subst hn4;have e:(((t.1.take (4 * 2)).map Tlb.clr)++t.1.drop (4 * 2),t.2) = Tlb.clear t:=by
   unfold Tlb.clear;rw [show 4 * 2 = t.1.length from by rw [hb],List.take_length,List.drop_length,List.append_nil]
  rw [e] at s1;exact s1
theorem tlb_new_run (K:Value->Hp->Prop) (h:Hp):hp prog (Instr.build qB #[]) K h = K (.agg (((replicate 8 Tlb.line0).flatMap cq.C++[Value.int .i64 0])).toArray) h:=by kernel_rfl
abbrev tlb0:List TL × Int:=(replicate 8 ⟨⟨-1,0,0,0⟩,0⟩,0)
theorem xg:Sp prog jd [] gY [] (fun r=>ay [fX r tlb0]):=by
 intro h st;refine sim_tlb_New ?_;unfold sh_tlb_New;refine ⟨?_⟩;rw [tlb_new_run];refine ⟨_,rfl,?_⟩;refine pC st fun b h' s1=>?_;have s2:=vt (t:=(replicate 8 Tlb.line0,0)) rfl s1;refine cW [0] (sp_tlb_Clear (some (b,0)) _) s2 rfl fun r h' s3=>?_;exact dq s3
abbrev vL (s:Sl) (xs:List ao):As:=vec t_api_Line 4 ao.C s xs
theorem line_len (p:ao):p.C.length = 4:=rfl
theorem line_one (p:ao):dS p.C = true:=rfl
def Tlb.lines (t:List TL × Int):List ao:=t.1.map (·.fl)
theorem sp_tlb_Lines (x:Ptr) (t:List TL × Int):Sp prog rR [pv x] rL [fX x t] (fun r=>ay [vL r (Tlb.lines t),fX x t]):=by
 intro h s0;obtain ⟨b,rfl,hb,st⟩:=oV s0;refine sim_tlb_Tlb_Lines _ ?_;unfold wj;refine dN rfl ?_;refine Lp.intro (fun (z:Sl × Int) h=>∃ n:Nat,z.2 = n/\n <= 4/\ay [vL z.1 ((t.1.take (n * 2)).map (·.fl)),fX (some (b,0)) t] h) (fun (z:Sl × Int) _=>4 - z.2.toNat) ⟨0,rfl,by omega,fu (vt hb st)⟩ ?_;rintro ⟨z,i⟩ h ⟨n,rfl,hn,s1⟩;unfold qy;refine aX (fun k=>?_) (fun k=>?_)
 ·have hlt:n < 4:=by have:=of_decide_eq_true k; omega
  have h0:n * 2 < t.1.length:=by omega
  have h1:n * 2 + 1 < t.1.length:=by omega
  obtain ⟨b',hb',_,s2⟩:=oV (bd [1] s1 rfl);cases hb';refine cL ⟨⟨by omega,by omega⟩,?_⟩;refine ld_s (⟨t.1[n * 2],t.1[n * 2 + 1]⟩:jy) s2 (i:=0) rfl ?_ ?_
  ·intro j v hv;have hfl:(t.1.flatMap cq.C).length = 40:=by rw [dG jO,hb]
   have hsp:jy.C ⟨t.1[n * 2],t.1[n * 2 + 1]⟩ = (t.1[n * 2]).C++(t.1[n * 2 + 1]).C:=rfl;rw [hsp] at hv;have hj:j < 10:=by have:=(List.getElem?_eq_some_iff.1 hv).1; simpa [jO] using this
   have key:(t.1.flatMap cq.C)[n * 10 + j]? = some v:=by
    by_cases h5:j < 5
    ·rw [List.getElem?_append_left (by simpa [jO] using h5)] at hv;have:=uc jO t.1 (n * 2) j _ v (aB h0) hv;rw [show n * 10 + j = n * 2 * 5 + j from by omega]; exact this
    ·rw [List.getElem?_append_right (by simp [jO]; omega),jO] at hv;have:=uc jO t.1 (n * 2 + 1) (j - 5) _ v (aB h1) hv;rw [show n * 10 + j = (n * 2 + 1) * 5 + (j - 5) from by omega]; exact this
   have hlt':=(List.getElem?_eq_some_iff.1 key).1;rw [nil_append,show (b,0).2 + 0 + (n:Int).toNat * 10 + j = n * 10 + j from by simp,List.getElem?_append_left hlt'];exact key
  ·refine Lp.intro (fun (z:Sl × Int) h=>∃ m:Nat,z.2 = m/\m <= 2/\ay [vL z.1 ((t.1.take (n * 2 + m)).map (·.fl)),fX (some (b,0)) t] h) (fun (z:Sl × Int) _=>2 - z.2.toNat) ⟨0,rfl,by omega,s1⟩ ?_;rintro ⟨y,j⟩ h ⟨m,rfl,hm,s3⟩;unfold qx;refine aX (fun k2=>?_) (fun k2=>?_)
   ·have hlt2:m < 2:=by have:=of_decide_eq_true k2; omega
    have hw:i64.wrap ((m:Int) + 1) = ((m + 1:Nat):Int):=by rw [bp (by omega) (by omega)]; rfl
    have hi:n * 2 + m < t.1.length:=by omega
    have hget:[t.1[n * 2],t.1[n * 2 + 1]][m]? = some t.1[n * 2 + m]:=by
     have:m = 0\/m = 1:=by omega
     rcases this with rfl | rfl <;> rfl
    refine index_v (enc:=cq.C) (m:=5) (xs:=[t.1[n * 2],t.1[n * 2 + 1]]) arn_2_tlb_line age_2_tlb_line jO (fun _=>rfl) rfl hget ?_;have hlen:(((t.1.take (n * 2 + m)).map (·.fl)):List ao).length <= 8:=by simp; omega
    refine kZ (τ:=ao) (i:=0) (enc:=ao.C) (val:=fun x=>.agg x.C.toArray) el_Sapi_Line line_len line_one (fun _=>rfl) (by omega) rfl rfl s3 rfl (by omega) (by omega) fun v h' s4=>?_;rw [hw];refine ⟨⟨m + 1,rfl,hlt2,?_⟩,by simp; omega⟩;have ht:t.1.take (n * 2 + (m + 1)) = t.1.take (n * 2 + m)++[t.1[n * 2 + m]]:=by rw [← Nat.add_assoc]; simp
    rw [ht,List.map_append];exact s4
   ·have hm2:m = 2:=by have:=of_decide_eq_false k2; omega
    subst hm2;have hw:i64.wrap ((n:Int) + 1) = ((n + 1:Nat):Int):=by rw [bp (by omega) (by omega)]; rfl
    rw [hw];exact ⟨⟨n + 1,rfl,hlt,by rw [show (n + 1) * 2 = n * 2 + 2 from by omega]; exact s3⟩,by simp; omega⟩
 ·have hn4:n = 4:=by have:=of_decide_eq_false k; omega
  subst hn4;rw [show t.1.take (4 * 2) = t.1 from by rw [show 4 * 2 = t.1.length from by rw [hb]]; exact List.take_length] at s1;exact s1
end
section
open Go Mb
def sh_user_Walk (a0:Ptr) (a1:Ptr) (a2:Int) (a3:Int) (a4:Int) (K:kT (ao × Bool)):hT:=cl prog pF [(pv a0),(.int .i64 a2),(.int .i64 a3)] fZ fun r21=>br (r21.2 && (dE r21.1.fBa a4)) ( K (r21.1,true)) ( cl prog fD [(pv a1),(.int .i64 a3)] cF fun r35=>br (!(dE r35.1.fBa a4)) ( cl prog nM [(pv a0),(.int .i64 a2),(.int .i64 a3)] aD fun r46=>K ((⟨0,0,0,0⟩:ao),false)) ( cl prog pG [(pv a0),(.agg (ao.C (⟨a2,a3,r35.1.fFa,r35.1.fBa⟩:ao)).toArray)] aD fun r57=>K ((⟨a2,a3,r35.1.fFa,r35.1.fBa⟩:ao),true)))
theorem sim_user_Walk (a0:Ptr) (a1:Ptr) (a2:Int) (a3:Int) (a4:Int) {K:kT (ao × Bool)} {h:Hp} (H:sh_user_Walk a0 a1 a2 a3 a4 K h):cl prog uY [(pv a0),(pv a1),(.int .i64 a2),(.int .i64 a3),(.int .i64 a4)] fZ K h:=z_i func75 p p fun _=>O<|aa<|aT (l:=ao.C (⟨0,0,0,0⟩:ao)) lD p p fun b10=>U p<|ai<|O<|M p<|M p<|M p<|aa<|G H en_119 fun r21 _ H1=>M p<|J (aj p p)<|J (aj p p)<|aa<|aT (l:=ao.C (⟨0,0,0,0⟩:ao)) lD p p fun b12=>aa<|aV (k:=0) (vs:=ao.C r21.1) gb p p p p p p p<|U p<|O<|M p<|M p<|W p p (aA _) (fun g2=>wv<|ae rG p)<|W p p (aA _) (fun g3=>cv<|bc (k:=0) aR (aC p g3) p p)<|W p p (aA _) (fun g4=>wv<|ag p)<|dk (vs:=[(.int .i64 r21.1.fBa),(.int .i64 a4)]) p p p (aA _) (fun g5=>bu<|kv r21.1.fBa a4 _) en_120 (fun g5=>aZ (aC p g5)<|aZ (aC p g5) bX) p<|J (bN p p)<|ad<|av p H1 (fun k6 H7=>O<|bo (bK (k:=0) iA p p p p) p<|aa<|aV (k:=1) (vs:=ao.C r21.1) gb p p p p p p p<|U p<|ah<|bE (bW p (bJ (k:=1) p iA p p)<|cj p) ⟨(r21.1,true),p,H7⟩) fun k6 H7=>ak<|O<|M p<|M p<|aa<|G H7 en_121 fun r35 _ H8=>M p<|J (aj p p)<|J (aj p p)<|aa<|aT (l:=an.C (⟨0,0,0⟩:an)) fo p p fun b14=>aa<|aV (k:=0) (vs:=an.C r35.1) dp p p p p p p p<|U p<|ai<|O<|J (ae eC p)<|bo (bc (k:=0) aR p p p) p<|M p<|aa<|cu (vs:=[(.int .i64 r35.1.fBa),(.int .i64 a4)]) (bu<|kv r35.1.fBa a4 _) en_120 p p<|J (cw p)<|ad<|av p H8 (fun k9 H10=>O<|M p<|M p<|M p<|aa<|G H10 en_69 fun r46 _ H11=>ad<|O<|J (bg (vs:=[]) p my)<|aa<|aV (k:=2) (vs:=ao.C (⟨0,0,0,0⟩:ao)) gb p p p p p p p<|U p<|ah<|bE (bW p (bJ (k:=2) p iA p p)<|cj p) ⟨((⟨0,0,0,0⟩:ao),false),p,H11⟩) fun k9 H10=>ak<|O<|M p<|M p<|J (ae oP p)<|bo (bc (k:=0) aR p p p) p<|J (ae eC p)<|bo (bc (k:=0) aR p p p) p<|J (bg p<|wV a2 a3 r35.1.fFa r35.1.fBa)<|aa<|aT (l:=ao.C (⟨0,0,0,0⟩:ao)) lD p p fun b16=>aa<|aV (k:=0) (vs:=ao.C (⟨a2,a3,r35.1.fFa,r35.1.fBa⟩:ao)) gb p p p p p p p<|ad<|O<|M p<|bo (bK (k:=0) iA p p p p) p<|aa<|G H10 en_122 fun r57 _ H12=>ad<|O<|bo (bK (k:=0) iA p p p p) p<|aa<|aV (k:=3) (vs:=ao.C (⟨a2,a3,r35.1.fFa,r35.1.fBa⟩:ao)) gb p p p p p p p<|U p<|ah<|bE (bW p (bJ (k:=3) p iA p p)<|cj p) ⟨((⟨a2,a3,r35.1.fFa,r35.1.fBa⟩:ao),true),p,H12⟩
def sh_user_touch (a0:Ptr) (a1:Int) (a2:al) (K:kT ac):hT:=br ((i64.wrap a2.e0) == 20) ( cl prog iL [(pv a0),(.int .i64 a1),(.int .i64 (i64.wrap a2.e2))] bP fun r21=>K (⟨0,r21.1⟩:ac)) ( br ((i64.wrap a2.e0) == 21) ( cl prog fW [(pv a0),(.int .i64 a1),(.int .i64 (i64.wrap a2.e2)),(.int .u64 a2.e3)] aD fun r31=>K (⟨0,0⟩:ac)) ( br ((i64.wrap a2.e0) == 22) ( cl prog ra [(pv a0),(.int .i64 a1),(.int .i64 (i64.wrap a2.e2)),(.int .u64 a2.e3),(.int .u64 a2.e4)] bP fun r42=>K (⟨0,r42.1⟩:ac)) ( br ((i64.wrap a2.e0) == 23) ( cl prog rb [(pv a0),(.int .i64 a1),(.int .i64 (i64.wrap a2.e2)),(.int .u64 a2.e3)] bP fun r53=>K (⟨0,r53.1⟩:ac)) ( K (⟨0,0⟩:ac)))))
theorem sim_user_touch (a0:Ptr) (a1:Int) (a2:al) {K:kT ac} {h:Hp} (H:sh_user_touch a0 a1 a2 K h):cl prog xK [(pv a0),(.int .i64 a1),(.agg (al.C a2).toArray)] ir K h:=z_i func142 p p fun _=>O<|aa<|cz (l:=al.C a2) p p p fun b5=>aa<|aT (l:=ac.C (⟨0,0⟩:ac)) dv p p fun b6=>ad<|O<|J (bH dw p p (by decide))<|bo (bc (k:=1) cC p p p) p<|J (dB ⟨_,underlying31⟩ underlying3 p)<|U p<|O<|U p<|ai<|O<|J (bH dw p p (by decide))<|bo (bc (k:=1) cC p p p) p<|J (dB ⟨_,underlying31⟩ underlying3 p)<|ad<|aw<|O<|J (bM p p)<|U p<|av p H (fun k1 H2=>am<|M p<|M p<|M p<|aa<|G H2 en_124 fun r21 _ H3=>M p<|J (aj p p)<|J (aj p p)<|U p<|O<|M p<|J (bg p<|kJ r21.1)<|aa<|aV (k:=0) (vs:=ac.C (⟨0,r21.1⟩:ac)) bR p p p p p p p<|ad<|ah<|bE (nC p<|bJ (k:=0) p cJ p p) ⟨(⟨0,r21.1⟩:ac),p,H3⟩) fun k1 H2=>O<|J (bM p p)<|U p<|av p H2 (fun k4 H5=>am<|M p<|M p<|M p<|J (bH dw p p (by decide))<|bo (bc (k:=1) cC p p p) p<|aa<|G H5 en_125 fun r31 _ H6=>ad<|O<|M p<|J (bg p<|kJ 0)<|aa<|aV (k:=0) (vs:=ac.C (⟨0,0⟩:ac)) bR p p p p p p p<|ad<|ah<|bE (nC p<|bJ (k:=0) p cJ p p) ⟨(⟨0,0⟩:ac),p,H6⟩) fun k4 H5=>O<|J (bM p p)<|U p<|av p H5 (fun k7 H8=>am<|M p<|M p<|M p<|J (bH dw p p (by decide))<|bo (bc (k:=1) cC p p p) p<|J (bH dw p p (by decide))<|bo (bc (k:=1) cC p p p) p<|aa<|G H8 en_126 fun r42 _ H9=>M p<|J (aj p p)<|J (aj p p)<|U p<|O<|M p<|J (bg p<|kJ r42.1)<|aa<|aV (k:=0) (vs:=ac.C (⟨0,r42.1⟩:ac)) bR p p p p p p p<|ad<|ah<|bE (nC p<|bJ (k:=0) p cJ p p) ⟨(⟨0,r42.1⟩:ac),p,H9⟩) fun k7 H8=>O<|J (bM p p)<|U p<|av p H8 (fun k10 H11=>am<|M p<|M p<|M p<|J (bH dw p p (by decide))<|bo (bc (k:=1) cC p p p) p<|aa<|G H11 en_127 fun r53 _ H12=>M p<|J (aj p p)<|J (aj p p)<|U p<|O<|M p<|J (bg p<|kJ r53.1)<|aa<|aV (k:=0) (vs:=ac.C (⟨0,r53.1⟩:ac)) bR p p p p p p p<|ad<|ah<|bE (nC p<|bJ (k:=0) p cJ p p) ⟨(⟨0,r53.1⟩:ac),p,H12⟩) fun k10 H11=>ak<|O<|M p<|J (bg p<|kJ 0)<|aa<|aV (k:=0) (vs:=ac.C (⟨0,0⟩:ac)) bR p p p p p p p<|ad<|ah<|bE (nC p<|bJ (k:=0) p cJ p p) ⟨(⟨0,0⟩:ac),p,H11⟩
def qw (a0:Ptr) (a1:Ptr) (a2:Ptr) (a3:Int) (a4:al) (K:kT (ac × ao)) (s2:Int):hT:=br (s2 != 0) ( K ((⟨s2,0⟩:ac),(⟨0,0,0,0⟩:ao))) ( cl prog uY [(pv a0),(pv a1),(.int .i64 a3),(.int .i64 (i64.wrap a4.e1)),(.int .i64 ((aH a4).1))] fZ fun r48=>br (!r48.2) ( K ((⟨7,0⟩:ac),(⟨0,0,0,0⟩:ao))) ( cl prog xK [(pv a2),(.int .i64 r48.1.fFa),(.agg (al.C a4).toArray)] ir fun r59=>K (r59,r48.1)))
def sh_user_Do (a0:Ptr) (a1:Ptr) (a2:Ptr) (a3:Int) (a4:al) (K:kT (ac × ao)):hT:=cl prog im [(.agg (al.C a4).toArray),(.int .i64 4)] bn fun r18=>br ((decide (a3 < 0)) || (decide (a3 >= 4))) ( qw a0 a1 a2 a3 a4 K 10) ( br (!(dI ((aH a4).1))) ( qw a0 a1 a2 a3 a4 K 1) ( qw a0 a1 a2 a3 a4 K r18))
theorem sim_user_Do (a0:Ptr) (a1:Ptr) (a2:Ptr) (a3:Int) (a4:al) {K:kT (ac × ao)} {h:Hp} (H:sh_user_Do a0 a1 a2 a3 a4 K h):cl prog n_user_Do [(pv a0),(pv a1),(pv a2),(.int .i64 a3),(.agg (al.C a4).toArray)] fj K h:=z_i func101 p p fun _=>O<|aa<|cz (l:=al.C a4) p p p fun b9=>aa<|aT (l:=ac.C (⟨0,0⟩:ac)) dv p p fun b10=>aa<|aT (l:=ao.C (⟨0,0,0,0⟩:ao)) lD p p fun b11=>ad<|O<|bo (bK (k:=2) fS p p p p) p<|aa<|G H en_72 fun r18 _ H1=>U p<|O<|bo (bK (k:=2) fS p p p p) p<|aa<|cu (vs:=[(.agg (al.C a4).toArray)]) (bu<|kI a4 _) en_44 p p<|M p<|J (aj p p)<|J (aj p p)<|J (ar p)<|U p<|dY (qw a0 a1 a2 a3 a4 K) (fun s2=>[(0,(pv a0)),(1,(pv a1)),(2,(pv a2)),(3,(.int .i64 a3)),(9,(.pointer (some ⟨b9,0,none⟩))),(10,(.pointer (some ⟨b10,0,none⟩))),(11,(.pointer (some ⟨b11,0,none⟩))),(12,(.int .i64 s2)),(13,(.int .i64 ((aH a4).1)))]) (fun s2=>[bx b11 38 (ao.C (⟨0,0,0,0⟩:ao)),bx b10 36 (ac.C (⟨0,0⟩:ac)),bx b9 33 (al.C a4)]) (aw<|O<|M p<|J (bZ p p)<|M p<|W p p (aL _) (fun g10=>wv<|ag p)<|W p p (aL _) (fun g11=>wv<|iE (aC p g11) p)<|J (dy p p)<|U p<|av p H1 (fun k12 H13=>am<|U p<|ct 10 H13 (.cons p<|.cons p<|.cons p<|.cons p<|.cons p<|.cons p<|.cons p<|.cons p<|.cons p<|.nil _)<|.cons_cons _<|.cons_cons _<|.cons_cons _ .slnil) fun k12 H13=>O<|M p<|aa<|cu (vs:=[(.int .i64 ((aH a4).1))]) (bu<|tb (aH a4).1 _) en_45 p p<|J (cw p)<|U p<|av p H13 (fun k14 H15=>am<|U p<|ct 1 H15 (.cons p<|.cons p<|.cons p<|.cons p<|.cons p<|.cons p<|.cons p<|.cons p<|.cons p<|.nil _)<|.cons_cons _<|.cons_cons _<|.cons_cons _ .slnil) fun k14 H15=>ak<|ct r18 H15 (.cons p<|.cons p<|.cons p<|.cons p<|.cons p<|.cons p<|.cons p<|.cons p<|.cons p<|.nil _)<|.cons_cons _<|.cons_cons _<|.cons_cons _ .slnil) fun s2 _ H3=>ai<|O<|M p<|J (nS p p)<|ad<|av p H3 (fun k4 H5=>O<|M p<|J (bg p<|jH s2)<|J (bg (vs:=[]) p my)<|aa<|aV (k:=1) (vs:=ac.C (⟨s2,0⟩:ac)) bR p p p p p p p<|aa<|aV (k:=0) (vs:=ao.C (⟨0,0,0,0⟩:ao)) gb p p p p p p p<|ad<|ah<|bE (bW p (bJ (k:=1) p cJ p p)<|bJ (k:=0) p iA p p) ⟨((⟨s2,0⟩:ac),(⟨0,0,0,0⟩:ao)),p,H5⟩) fun k4 H5=>ak<|O<|M p<|M p<|M p<|J (bH dw p p (by decide))<|bo (bc (k:=2) cC p p p) p<|J (dB ⟨_,underlying31⟩ underlying3 p)<|M p<|aa<|G H5 en_75 fun r48 _ H6=>M p<|J (aj p p)<|J (aj p p)<|aa<|aT (l:=ao.C (⟨0,0,0,0⟩:ao)) lD p p fun b15=>aa<|aV (k:=0) (vs:=ao.C r48.1) gb p p p p p p p<|U p<|ai<|O<|M p<|J (cw p)<|ad<|av p H6 (fun k7 H8=>O<|J (bg p<|jH 7)<|J (bg (vs:=[]) p my)<|aa<|aV (k:=2) (vs:=ac.C (⟨7,0⟩:ac)) bR p p p p p p p<|aa<|aV (k:=1) (vs:=ao.C (⟨0,0,0,0⟩:ao)) gb p p p p p p p<|ad<|ah<|bE (bW p (bJ (k:=2) p cJ p p)<|bJ (k:=1) p iA p p) ⟨((⟨7,0⟩:ac),(⟨0,0,0,0⟩:ao)),p,H8⟩) fun k7 H8=>ak<|ai<|bk (n:=8) [bx b15 38 (ao.C r48.1),bx b9 33 (al.C a4)] ch p (.cons_cons _<|.cons _<|.cons _<|.cons_cons _ .slnil)<|V 0 p (ag p)<|V 1 p (ae mt p)<|z_E 2 p (cA (k:=0) aR p p p)<|z_E 3 p (eP (k:=1) fS p p p p)<|z_E 5 p (eP (k:=0) iA p p p p)<|R 4 p<|G H8 en_142 fun r59 _ H9=>⟨.cons_cons _<|.cons _<|.cons _<|.cons_cons _ .slnil,R 6 p<|aV (k:=2) (vs:=ac.C r59) bR p p p p p p p ⟨.cons_cons _<|.cons _<|.cons _<|.cons_cons _ .slnil,R 7 p<|aV (k:=1) (vs:=ao.C r48.1) gb p p p p p p p ⟨.cons_cons _<|.cons _<|.cons _<|.cons_cons _ .slnil,aG (by kernel_rfl)<|ah<|bE (bW p (bJ (k:=2) p cJ p p)<|bJ (k:=1) p iA p p) ⟨(r59,r48.1),p,H9⟩⟩⟩⟩
end
section
open Go Mb
abbrev Line:=ao
abbrev Buf:=List TL × Int
abbrev nk:Line:=⟨0,0,0,0⟩
namespace User
def walk (b:Buf) (t:List Pte) (e pg kind:Int):(Line × Bool) × Buf :=
 if (Tlb.find b.1 e pg).2 = true/\dE (Tlb.find b.1 e pg).1.fBa kind = true then (((Tlb.find b.1 e pg).1,true),b)
 else if dE (Table.get t pg).1.fBa kind = false then ((nk,false),(Tlb.flush b e pg).2)
 else ((⟨e,pg,(Table.get t pg).1.fFa,(Table.get t pg).1.fBa⟩,true),(Tlb.fill b ⟨e,pg,(Table.get t pg).1.fFa,(Table.get t pg).1.fBa⟩).2)
def touch (m:List (List Int)) (f:Int) (c:kl):ac × List (List Int) :=
 if i64.wrap c.e0 = 20 then (⟨0,(Mem.load m f (i64.wrap c.e2)).1⟩,m)
 else if i64.wrap c.e0 = 21 then (⟨0,0⟩,(Mem.store m f (i64.wrap c.e2) c.e3).2)
 else if i64.wrap c.e0 = 22 then (⟨0,(Mem.cas m f (i64.wrap c.e2) c.e3 c.e4).1.1⟩,(Mem.cas m f (i64.wrap c.e2) c.e3 c.e4).2)
 else if i64.wrap c.e0 = 23 then (⟨0,(Mem.add m f (i64.wrap c.e2) c.e3).1.1⟩,(Mem.add m f (i64.wrap c.e2) c.e3).2)
 else (⟨0,0⟩,m)
def bad (e:Int) (c:kl):Int:=if e < 0\/e >= 4 then 10 else if dI (aH c).1 = false then 1 else Word.check c 4
def do_ (b:Buf) (t:List Pte) (m:List (List Int)) (e:Int) (c:kl):(ac × Line) × Buf × List (List Int) :=
 if bad e c ≠ 0 then ((⟨bad e c,0⟩,nk),b,m)
 else if (walk b t e (i64.wrap c.e1) (aH c).1).1.2 = false then ((⟨7,0⟩,nk),(walk b t e (i64.wrap c.e1) (aH c).1).2,m)
 else (((touch m (walk b t e (i64.wrap c.e1) (aH c).1).1.1.fFa c).1,(walk b t e (i64.wrap c.e1) (aH c).1).1.1),(walk b t e (i64.wrap c.e1) (aH c).1).2,(touch m (walk b t e (i64.wrap c.e1) (aH c).1).1.1.fFa c).2)
end User
theorem sp_user_Walk (x y:Ptr) (b:Buf) (t:List Pte) (e pg kind:Int):Sp prog uY [pv x,pv y,.int .i64 e,.int .i64 pg,.int .i64 kind] fZ [fX x b,df y t] (fun r=>pa_ (r = (User.walk b t e pg kind).1) [fX x (User.walk b t e pg kind).2,df y t]):=by
 intro h s0;refine sim_user_Walk _ _ _ _ _ ?_;unfold sh_user_Walk;refine cc (sp_tlb_Find x b e pg) (i:=0) rfl s0 fun r h1 hr s1=>?_;subst hr;refine aX (fun k=>?_) (fun k=>?_)
 ·have k':(Tlb.find b.1 e pg).2 = true/\dE (Tlb.find b.1 e pg).1.fBa kind = true:=by simpa using k
  have e1:User.walk b t e pg kind = (((Tlb.find b.1 e pg).1,true),b):=if_pos k';rw [e1]; exact ba rfl s1
 ·have k':¬ ((Tlb.find b.1 e pg).2 = true/\dE (Tlb.find b.1 e pg).1.fBa kind = true):=by simpa using k
  refine cc (oz y t pg) (i:=1) rfl s1 fun r h2 hr s2=>?_;subst hr;refine aX (fun k2=>?_) (fun k2=>?_)
  ·have e1:User.walk b t e pg kind = ((nk,false),(Tlb.flush b e pg).2):=by unfold User.walk; rw [if_neg k',if_pos (by simpa using k2)]
   rw [e1];exact cc (sp_tlb_Flush x b e pg) (i:=0) rfl s2 fun r h3 hr s3=>ba rfl s3
  ·have e1:User.walk b t e pg kind = ((⟨e,pg,(Table.get t pg).1.fFa,(Table.get t pg).1.fBa⟩,true),(Tlb.fill b ⟨e,pg,(Table.get t pg).1.fFa,(Table.get t pg).1.fBa⟩).2):=by unfold User.walk; rw [if_neg k',if_neg (by simpa using k2)]
   rw [e1];exact cc (sp_tlb_Fill x b ⟨e,pg,(Table.get t pg).1.fFa,(Table.get t pg).1.fBa⟩) (i:=0) rfl s2 fun r h3 hr s3=>ba rfl s3
theorem sp_user_touch (x:Ptr) (m:List (List Int)) (f:Int) (c:kl):Sp prog xK [pv x,.int .i64 f,.agg c.C.toArray] ir [iQ x m] (fun r=>pa_ (r = (User.touch m f c).1) [iQ x (User.touch m f c).2]):=by
 intro h s0;refine sim_user_touch _ _ _ ?_;unfold sh_user_touch;refine aX (fun k=>?_) (fun k=>?_)
 ·have e1:User.touch m f c = (⟨0,(Mem.load m f (i64.wrap c.e2)).1⟩,m):=if_pos (by simpa using k);rw [e1];exact cc (ro x m f _) (i:=0) rfl s0 fun r h1 hr s1=>ba (by rw [hr]) s1
 refine aX (fun k2=>?_) (fun k2=>?_)
 ·have e1:User.touch m f c = (⟨0,0⟩,(Mem.store m f (i64.wrap c.e2) c.e3).2):=by unfold User.touch; rw [if_neg (by simpa using k),if_pos (by simpa using k2)]
  rw [e1];exact cc (mC x m f _ _) (i:=0) rfl s0 fun r h1 hr s1=>ba rfl s1
 refine aX (fun k3=>?_) (fun k3=>?_)
 ·have e1:User.touch m f c = (⟨0,(Mem.cas m f (i64.wrap c.e2) c.e3 c.e4).1.1⟩,(Mem.cas m f (i64.wrap c.e2) c.e3 c.e4).2):=by unfold User.touch; rw [if_neg (by simpa using k),if_neg (by simpa using k2),if_pos (by simpa using k3)]
  rw [e1];exact cc (sp_mem_Cas x m f _ _ _) (i:=0) rfl s0 fun r h1 hr s1=>ba (by rw [hr]) s1
 refine aX (fun k4=>?_) (fun k4=>?_)
 ·have e1:User.touch m f c = (⟨0,(Mem.add m f (i64.wrap c.e2) c.e3).1.1⟩,(Mem.add m f (i64.wrap c.e2) c.e3).2):=by unfold User.touch; rw [if_neg (by simpa using k),if_neg (by simpa using k2),if_neg (by simpa using k3),if_pos (by simpa using k4)]
  rw [e1];exact cc (sp_mem_Add x m f _ _) (i:=0) rfl s0 fun r h1 hr s1=>ba (by rw [hr]) s1
 have e1:User.touch m f c = (⟨0,0⟩,m):=by unfold User.touch; rw [if_neg (by simpa using k),if_neg (by simpa using k2),if_neg (by simpa using k3),if_neg (by simpa using k4)]
 rw [e1];exact ba rfl s0
theorem sp_user_Do (x y z:Ptr) (b:Buf) (t:List Pte) (m:List (List Int)) (e:Int) (c:kl):Sp prog n_user_Do [pv x,pv y,pv z,.int .i64 e,.agg c.C.toArray] fj [fX x b,df y t,iQ z m] (fun r=>pa_ (r = (User.do_ b t m e c).1) [fX x (User.do_ b t m e c).2.1,df y t,iQ z (User.do_ b t m e c).2.2]):=by
 intro h s0;refine sim_user_Do _ _ _ _ _ ?_;unfold sh_user_Do;refine ut (jB c 4) s0 fun r h1 hr s1=>?_;subst hr;have go:∀ n,n = User.bad e c->qw x y z e c (fun r=>pa_ (r = (User.do_ b t m e c).1) [fX x (User.do_ b t m e c).2.1,df y t,iQ z (User.do_ b t m e c).2.2]) n h1:=by
  intro n hn;unfold qw;refine aX (fun k=>?_) (fun k=>?_)
  ·have k':User.bad e c ≠ 0:=by rw [← hn]; simpa using k
   have e1:User.do_ b t m e c = ((⟨User.bad e c,0⟩,nk),b,m):=if_pos k';rw [e1]; exact ba (by rw [hn]) s1
  ·have k':¬ User.bad e c ≠ 0:=by rw [← hn]; simpa using k
   refine cW [0,0] (sp_user_Walk x y b t e (i64.wrap c.e1) (aH c).1) s1 rfl fun r h2 s2=>?_;obtain ⟨hr,s3⟩:=bA.1 s2;subst hr;refine aX (fun k2=>?_) (fun k2=>?_)
   ·have e1:User.do_ b t m e c = ((⟨7,0⟩,nk),(User.walk b t e (i64.wrap c.e1) (aH c).1).2,m):=by unfold User.do_; rw [if_neg k',if_pos (by simpa using k2)]
    rw [e1]; exact ba rfl s3
   ·have e1:User.do_ b t m e c = (((User.touch m (User.walk b t e (i64.wrap c.e1) (aH c).1).1.1.fFa c).1,(User.walk b t e (i64.wrap c.e1) (aH c).1).1.1),(User.walk b t e (i64.wrap c.e1) (aH c).1).2,(User.touch m (User.walk b t e (i64.wrap c.e1) (aH c).1).1.1.fFa c).2):=by unfold User.do_; rw [if_neg k',if_neg (by simpa using k2)]
    rw [e1];exact cc (sp_user_touch z m _ c) (i:=2) rfl s3 fun r h3 hr s4=>ba (by rw [hr]) s4
 refine aX (fun k=>go 10 ?_) (fun k=>?_)
 ·unfold User.bad; rw [if_pos (by simpa using k)]
 ·have k':¬ (e < 0\/e >= 4):=by simpa using k
  refine aX (fun k2=>go 1 ?_) (fun k2=>go _ ?_)
  ·unfold User.bad; rw [if_neg k',if_pos (by simpa using k2)]
  ·unfold User.bad; rw [if_neg k',if_neg (by simpa using k2)]
end
section
open Go Mb
abbrev KC:=mz
abbrev bC:=aq
structure KK where
 p:PK
 fMa:List Buf
 fTa:Mail.S
 fRa:fKa.S
 calls:List (Option KC)
 events:List bC
 now:Int
namespace KK
def is (k:KK) (c:Int):Bool:=decide (0 <= c/\c < k.calls.length)
def call (k:KK) (c:Int):Option KC:=(k.calls.getD c.toNat none)
def busy (k:KK) (c:Int):Bool:=is k c && (call k c).isSome
def buf (k:KK) (c:Int):Buf:=k.fMa.getD c.toNat ([],0)
def ev0 (core env:Int) (c:kl) (n:Int):bC:=⟨core,env,c,n,0,0,⟨0,0⟩,nk⟩
def begin_ (k:KK) (core env:Int) (c:kl):Bool × KK :=
 if is k core = false\/busy k core = true\/env < 0\/env >= k.p.s.fIa then (false,k)
 else (true,{ k with now:=i64.wrap (k.now + 1),events:=k.events++[ev0 core env c (i64.wrap (k.now + 1))],calls:=k.calls.set core.toNat (some ⟨k.events.length,env,c,false,0⟩) })
def goes (p:PK) (x:KC) (e s:Int):Bool :=
 if x.fc.e0 = 5/\e = x.fNa/\s = i64.wrap x.fc.e1 then true
 else if fAa.has p.caps e s = true then fAa.under p.caps (fAa.get p.caps e s) ⟨x.fNa,i64.wrap x.fc.e1⟩ else false
def left (p:PK) (x:KC) (e pg:Int) (q:Pte):Pte :=
 if x.fc.e0 = 7 then (if x.fNa = e/\i64.wrap x.fc.e1 = pg then eW else q)
 else if x.fc.e0 = 8 then (if (x.fNa = e/\i64.wrap x.fc.e1 = pg)/\bm (i64.wrap x.fc.e2) (fAa.at_ p.caps e q.fEa).1.fBa = true then { q with fBa:=iand .i64 q.fBa (i64.wrap x.fc.e2) } else q)
 else if goes p x e q.fEa = true then eW else q
def fEb (p:PK) (e pg:Int):List (Option KC)->Bool->Pte->Pte × Bool
 | [],b,q=>(q,b)
 | none::cs,b,q=>fEb p e pg cs b q
 | some x::cs,b,q=>if b = true/\x.fZa = true then fEb p e pg cs ((left p x e pg q).fBa != 0) (left p x e pg q) else fEb p e pg cs b q
def seen (k:KK) (e pg:Int):Pte × Bool:=fEb k.p e pg k.calls (PK.pte k.p e pg).2 (PK.pte k.p e pg).1
def hits (p:PK) (x:KC) (e pg:Nat):Bool:=(PK.pte p e pg).2 && !(an.eqb (left p x e pg (PK.pte p e pg).1) (PK.pte p e pg).1)
def takes (p:PK) (x:KC):Bool :=
 if Word.check x.fc p.s.fIa ≠ 0\/x.fc.e0 < 4\/x.fc.e0 > 8\/x.fc.e0 = 6 then false
 else (range p.s.fIa.toNat).any fun e=>(range 8).any fun pg=>hits p x e pg
def stale (k:KK) (l:Line):Bool:=decide (0 <= l.fCa) && (!(seen k l.fCa l.fVa).2 || (seen k l.fCa l.fVa).1.fFa != l.fFa || !(bm l.fBa (seen k l.fCa l.fVa).1.fBa))
def cleans (k:KK):List Line->Buf->Buf
 | [],b=>b
 | l::ls,b=>if stale k l = true then cleans k ls (Tlb.flush b l.fCa l.fVa).2 else cleans k ls b
def clean (k:KK) (c:Int):KK:={ k with fMa:=k.fMa.set c.toNat (cleans k (Tlb.lines (buf k c)) (buf k c)) }
def evend (e:bC) (n:Int) (a:gZ) (l:Line):bC:={ e with fDa:=n,fGa:=n,fWa:=a,fPa:=l }
def ends (k:KK) (c:Int) (x:KC) (a:gZ) (l:Line):KK :=
 { k with events:=k.events.set x.fat.toNat (evend (k.events.getD x.fat.toNat (ev0 0 0 ⟨0,0,0,0,0⟩ 0)) k.now a l),calls:=k.calls.set c.toNat none }
def fGb (k:KK) (e pg:Int):List Pte:=if (seen k e pg).2 = true then (Table.insert (replicate 8 eW) pg (seen k e pg).1).2 else replicate 8 eW
def fBb (k:KK) (c:Int) (x:KC):(Line × Bool) × Buf:=User.walk (buf k c) (fGb k x.fNa (i64.wrap x.fc.e1)) x.fNa (i64.wrap x.fc.e1) (i64.wrap x.fc.e0)
def access (k:KK) (c:Int) (x:KC):(gZ × Line) × KK :=
 if Word.check x.fc k.p.s.fIa ≠ 0 then ((⟨Word.check x.fc k.p.s.fIa,0⟩,nk),k)
 else if (fBb k c x).1.2 = false then ((⟨7,0⟩,nk),{ k with fMa:=k.fMa.set c.toNat (fBb k c x).2 })
 else (((PK.touch k.p (fBb k c x).1.1.fFa x.fc).1.1,(fBb k c x).1.1),{ k with fMa:=k.fMa.set c.toNat (fBb k c x).2,p:=(PK.touch k.p (fBb k c x).1.1.fFa x.fc).2 })
def tell (k:KK) (c:Int) (x:KC):KK:={ k with calls:=k.calls.set c.toNat (some { x with fZa:=true }) }
def send (k:KK) (c:Int) (x:KC):KK :=
 { k with fRa:=(fKa.begin_ k.fRa c).2,calls:=k.calls.set c.toNat (some { x with fZa:=true,fCb:=(fKa.begin_ k.fRa c).1.1 }),fTa:=(Mail.sends k.fTa c (fKa.begin_ k.fRa c).1.1 k.fTa.length).2 }
def tick (k:KK):KK:={ k with now:=i64.wrap (k.now + 1) }
def work (k:KK) (c:Int) (x:KC):KK :=
 if dI (aH x.fc).1 = true then ends (access k c x).2 c x (access k c x).1.1 (access k c x).1.2
 else if x.fZa = false/\takes k.p x = true then send (clean (tell k c x) c) c x
 else if x.fZa = true/\fKa.done k.fRa x.fCb = false then k
 else if (PK.do_ k.p x.fNa x.fc).1.2 = true then ends { k with p:=(PK.do_ k.p x.fNa x.fc).2 } c x (PK.do_ k.p x.fNa x.fc).1.1 nk
 else { k with p:=(PK.do_ k.p x.fNa x.fc).2 }
def step (k:KK) (c:Int):Bool × KK :=
 if busy k c = false then (false,k) else match call k c with
 | none=>(false,k)
 | some x=>(true,work (tick k) c x)
def post (k:KK) (c:Int):Bool × KK :=
 if is k c = false then (false,k) else if (Mail.take k.fTa c).1.2 = false then (false,k)
 else (true,{ clean { tick k with fTa:=(Mail.take k.fTa c).2 } c with fRa:=(fKa.ack k.fRa c (Mail.take k.fTa c).1.1).2 })
def mail (k:KK) (c:Int):Int:=if is k c = true then Mail.waits k.fTa c else 0
def lines (k:KK) (c:Int):List Line:=if is k c = true then Tlb.lines (buf k c) else []
def new (s:gX):KK:=⟨PK.new s,replicate s.fOa.toNat tlb0,replicate s.fOa.toNat [],([],replicate s.fOa.toNat 0),replicate s.fOa.toNat none,[],0⟩
end KK
structure mZ (n:Nat) (l:List Int):Prop where
 up:l.Pairwise (· < ·)
 lo:∀ x ∈ l,1 <= x
 hi:∀ x ∈ l,x <= n
structure KK.Ok (k:KK):Prop where
 p:PK.Ok k.p
 tl:(k.fMa.length:Int) = k.p.s.fOa
 bl:(k.fTa.length:Int) = k.p.s.fOa
 el:(k.fRa.2.length:Int) = k.p.s.fOa
 cl:(k.calls.length:Int) = k.p.s.fOa
 cs:∀ x,some x ∈ k.calls->0 <= x.fat/\x.fat < k.events.length/\0 <= x.fNa/\x.fNa < k.p.s.fIa
 n0:0 <= k.now
 evn:(k.events.length:Int) <= k.now
 epn:(k.fRa.1.length:Int) <= k.now
 bx:∀ l ∈ k.fTa,mZ k.fRa.1.length l
theorem box_len {n:Nat} {l:List Int} (h:mZ n l):l.length <= n:=by
 have key:∀ (l:List Int) (a:Int),l.Pairwise (· < ·)->(∀ x ∈ l,a < x)->(∀ x ∈ l,x <= n)->(l.length:Int) <= max 0 (n - a):=by
  intro l
  induction l with
  | nil=>intro a _ _ _; simp; omega
  | cons b l ih =>
   intro a hp hl hh;obtain ⟨h1,h2⟩:=List.pairwise_cons.1 hp;have:=ih b h2 (fun x hx=>h1 x hx) (fun x hx=>hh x (by simp [hx]));have:=hl b (by simp);have:=hh b (by simp);simp only [List.length_cons]; omega
 have:=key l 0 h.up (fun x hx=>by have:=h.lo x hx; omega) h.hi;omega
theorem box_fit {n:Nat} {l:List Int} (h:mZ n l) (hn:n < 2 ^ 40):Mail.Fit l ((n:Int) + 1) :=
 ⟨fun x hx=>by have:=h.hi x hx; omega,h.up,by have:=box_len h; omega⟩
theorem box_more {n m:Nat} {l:List Int} (h:mZ n l) (hn:n <= m):mZ m l:=⟨h.up,h.lo,fun x hx=>by have:=h.hi x hx; omega⟩
theorem box_push {n:Nat} {l:List Int} (h:mZ n l):mZ (n + 1) (l++[(n:Int) + 1]):=by
 refine ⟨List.pairwise_append.2 ⟨h.up,List.pairwise_singleton _ _,fun a ha b hb=>?_⟩,fun x hx=>?_,fun x hx=>?_⟩
 ·rw [List.mem_singleton.1 hb]; have:=h.hi a ha; omega
 ·rcases List.mem_append.1 hx with h1 | h1
  ·exact h.lo x h1
  ·rw [List.mem_singleton.1 h1]; omega
 ·rcases List.mem_append.1 hx with h1 | h1
  ·have:=h.hi x h1; omega
  ·rw [List.mem_singleton.1 h1]; omega
theorem box_drop {n:Nat} {l:List Int} (h:mZ n l):mZ n (l.drop 1) :=
 ⟨h.up.sublist (List.drop_sublist 1 l),fun x hx=>h.lo x (List.mem_of_mem_drop hx),fun x hx=>h.hi x (List.mem_of_mem_drop hx)⟩
theorem boxes_set {bs:Mail.S} {n:Nat} (h:∀ l ∈ bs,mZ n l) (i:Nat) {b:List Int} (hb:mZ n b):∀ l ∈ bs.set i b,mZ n l:=by
 intro l hl;rcases List.mem_or_eq_of_mem_set hl with h1 | h1
 ·exact h l h1
 ·subst h1; exact hb
theorem box_of {bs:Mail.S} {n:Nat} (h:∀ l ∈ bs,mZ n l) (c:Int):mZ n (Mail.box bs c):=by
 unfold Mail.box;by_cases hi:c.toNat < bs.length
 ·simp [hi]; exact h _ (List.getElem_mem hi)
 ·simp [getD_eq_getElem?_getD,List.getElem?_eq_none (Nat.le_of_not_lt hi)];exact ⟨.nil,fun x hx=>(by cases hx),fun x hx=>(by cases hx)⟩
theorem boxes_send {bs:Mail.S} {n:Nat} (f t:Int) (h:∀ l ∈ bs,mZ (n + 1) l) (ht:mZ n (Mail.box bs t)):∀ l ∈ (Mail.send bs f t ((n:Int) + 1)).2,mZ (n + 1) l:=by
 unfold Mail.send;split
 ·exact boxes_set h _ (box_push ht)
 ·exact h
theorem boxes_sends {bs:Mail.S} {n:Nat} (f:Int) (h:∀ l ∈ bs,mZ n l):∀ j,j <= bs.length->∀ l ∈ (Mail.sends bs f ((n:Int) + 1) j).2,mZ (n + 1) l
 | 0,_=>fun l hl=>box_more (h l hl) (by omega)
 | j + 1,hj=>by
  have ih:=boxes_sends f h j (by omega);have hb:Mail.box (Mail.sends bs f ((n:Int) + 1) j).2 j = Mail.box bs j:=by
   unfold Mail.box;rw [Int.toNat_natCast,getD_eq_getElem?_getD,getD_eq_getElem?_getD,Mail.sends_ge bs f _ j j (Nat.le_refl _)]
  have:=boxes_send f (j:Int) ih (by rw [hb]; exact box_of h _);unfold Mail.sends;split <;> exact this
theorem wrapN {n:Int} (h0:0 <= n) (h1:n < 2 ^ 40):i64.wrap (n + 1) = n + 1:=bp (by omega) (by omega)
theorem calls_set {k:KK} (ok:KK.Ok k) (i:Nat) {o:Option KC} {n:Int} (hn:(k.events.length:Int) <= n) (ho:∀ x,o = some x->0 <= x.fat/\x.fat < n/\0 <= x.fNa/\x.fNa < k.p.s.fIa):∀ x,some x ∈ k.calls.set i o->0 <= x.fat/\x.fat < n/\0 <= x.fNa/\x.fNa < k.p.s.fIa:=by
 intro x hx;rcases List.mem_or_eq_of_mem_set hx with h1 | h1
 ·have:=ok.cs x h1; omega
 ·exact ho x h1.symm
theorem kok_new {s:gX} (h:PK.sized s = true):KK.Ok (KK.new s):=by
 have hs:=jR.1 h;refine ⟨ok_new h,?_,?_,?_,?_,?_,le_refl _,le_refl _,le_refl _,?_⟩
 ·simp [KK.new,PK.new]; omega
 ·simp [KK.new,PK.new]; omega
 ·simp [KK.new,PK.new]; omega
 ·simp [KK.new,PK.new]; omega
 ·intro x hx;have:=(List.mem_replicate.1 hx).2;cases this
 ·intro l hl;rw [(List.mem_replicate.1 hl).2];exact ⟨.nil,fun x hx=>(by cases hx),fun x hx=>(by cases hx)⟩
theorem kok_begin {k:KK} (ok:KK.Ok k) (hn:k.now < 2 ^ 40) (core env:Int) (c:kl):KK.Ok (KK.begin_ k core env c).2:=by
 unfold KK.begin_;split
 ·exact ok
 ·rename_i h;have h1:=ok.n0;have h2:=ok.evn;have h3:=ok.epn;simp at h;have hw:=wrapN h1 hn;refine ⟨ok.p,ok.tl,ok.bl,ok.el,by simpa using ok.cl,?_,by simp only [hw]; omega,by simp only [hw,List.length_append,List.length_singleton]; omega,by simp only [hw]; omega,ok.bx⟩;simp only [List.length_append,List.length_singleton];refine calls_set ok _ (by omega) fun x hx=>?_;cases hx;simp only; omega
theorem kok_tick {k:KK} (ok:KK.Ok k) (hn:k.now < 2 ^ 40):KK.Ok (KK.tick k):=by
 have h1:=ok.n0;have h2:=ok.evn;have h3:=ok.epn;have hw:=wrapN h1 hn;unfold KK.tick;exact ⟨ok.p,ok.tl,ok.bl,ok.el,ok.cl,ok.cs,by simp only [hw]; omega,by simp only [hw]; omega,by simp only [hw]; omega,ok.bx⟩
theorem kok_tlbs {k:KK} (ok:KK.Ok k) (i:Nat) (b:Buf):KK.Ok { k with fMa:=k.fMa.set i b }:=⟨ok.p,by simpa using ok.tl,ok.bl,ok.el,ok.cl,ok.cs,ok.n0,ok.evn,ok.epn,ok.bx⟩
theorem kok_p {k:KK} (ok:KK.Ok k) {p:PK} (h:PK.Ok p) (hs:p.s = k.p.s):KK.Ok { k with p:=p } :=
 ⟨h,by rw [hs]; exact ok.tl,by rw [hs]; exact ok.bl,by rw [hs]; exact ok.el,by rw [hs]; exact ok.cl,by rw [hs]; exact ok.cs,ok.n0,ok.evn,ok.epn,ok.bx⟩
theorem kok_ends {k:KK} (ok:KK.Ok k) (c:Int) (x:KC) (a:gZ) (l:Line):KK.Ok (KK.ends k c x a l):=by
 unfold KK.ends;refine ⟨ok.p,ok.tl,ok.bl,ok.el,by simpa using ok.cl,?_,ok.n0,by simpa using ok.evn,ok.epn,ok.bx⟩;simp only [length_set];exact calls_set ok _ (le_refl _) fun x hx=>by cases hx
theorem touch_s (k:PK) (f:Int) (c:kl):(PK.touch k f c).2.s = k.s:=by
 unfold PK.touch
 repeat' split
 all_goals rfl
theorem alloc_s (k:PK) (e s:Int):(PK.alloc k e s).2.s = k.s:=by
 unfold PK.alloc
 repeat' split
 all_goals rfl
theorem derive_s (k:PK) (e a b c d:Int):(PK.derive k e a b c d).2.s = k.s:=by
 unfold PK.derive
 repeat' split
 all_goals rfl
theorem gone_size (f:Int):∀ (l:List dA) (k:PK),(PK.gone k f l).s = k.s
 | [],_=>rfl
 | _::l,_=>by rw [PK.gone,gone_size f l]
theorem revoke_s (k:PK) (e s:Int) (w:Bool):(PK.revoke k e s w).2.s = k.s:=by
 unfold PK.revoke;split
 ·rfl
 ·split <;> simp only [gone_size]
theorem maps_s (k:PK) (e a b c:Int):(PK.maps k e a b c).2.s = k.s:=by
 unfold PK.maps
 repeat' split
 all_goals rfl
theorem protect_s (k:PK) (e a b:Int):(PK.protect k e a b).2.s = k.s:=by
 unfold PK.protect
 repeat' split
 all_goals rfl
theorem user_s (k:PK) (e:Int) (c:kl):(PK.user k e c).2.s = k.s:=by
 unfold PK.user; split
 ·rfl
 ·exact touch_s _ _ _
theorem does_s (k:PK) (e:Int) (c:kl):(PK.does k e c).2.s = k.s:=by
 unfold PK.does PK.errs
 repeat' split
 all_goals first | rfl | exact alloc_s _ _ _ | exact derive_s _ _ _ _ _ _ | exact revoke_s _ _ _ _ | exact maps_s _ _ _ _ _ | exact protect_s _ _ _ _ | exact user_s _ _ _
theorem do_s (k:PK) (e:Int) (c:kl):(PK.do_ k e c).2.s = k.s:=by
 unfold PK.do_; split
 ·rfl
 ·split
  ·rfl
  ·exact does_s _ _ _
theorem kok_access {k:KK} (ok:KK.Ok k) (c:Int) (x:KC):KK.Ok (KK.access k c x).2:=by
 unfold KK.access;split
 ·exact ok
 ·split
  ·exact kok_tlbs ok _ _
  ·have h1:=kok_tlbs ok c.toNat (KK.fBb k c x).2;exact kok_p h1 (ok_touch ok.p _ _) (touch_s _ _ _)
theorem kok_clean {k:KK} (ok:KK.Ok k) (c:Int):KK.Ok (KK.clean k c):=kok_tlbs ok _ _
theorem call_ok {k:KK} (ok:KK.Ok k) {c:Int} {x:KC} (h:KK.call k c = some x):0 <= x.fat/\x.fat < k.events.length/\0 <= x.fNa/\x.fNa < k.p.s.fIa:=by
 refine ok.cs x ?_;unfold KK.call at h;by_cases hi:c.toNat < k.calls.length
 ·simp [hi] at h; rw [← h]; exact List.getElem_mem hi
 ·simp [getD_eq_getElem?_getD,List.getElem?_eq_none (Nat.le_of_not_lt hi)] at h
theorem kok_call {k:KK} (ok:KK.Ok k) (c:Int) {x y:KC} (h:KK.call k c = some x) (h1:y.fat = x.fat) (h2:y.fNa = x.fNa):KK.Ok { k with calls:=k.calls.set c.toNat (some y) }:=by
 have hc:=call_ok ok h;refine ⟨ok.p,ok.tl,ok.bl,ok.el,by simpa using ok.cl,calls_set ok _ (le_refl _) fun z hz=>?_,ok.n0,ok.evn,ok.epn,ok.bx⟩;cases hz;show 0 <= y.fat/\y.fat < (k.events.length:Int)/\0 <= y.fNa/\y.fNa < k.p.s.fIa;omega
theorem call_set_same {k:KK} {c:Int} {x y:KC} (h:KK.call k c = some x):({ k with calls:=k.calls.set c.toNat (some y) }:KK).call c = some y:=by
 unfold KK.call at h ⊢;by_cases hi:c.toNat < k.calls.length
 ·simp [hi]
 ·simp [getD_eq_getElem?_getD,List.getElem?_eq_none (Nat.le_of_not_lt hi)] at h
theorem kok_send {k:KK} (ok:KK.Ok k) (hn:(k.fRa.1.length:Int) + 1 <= k.now) {c:Int} {x:KC} (hc:KK.call k c = some { x with fZa:=true }) (hi:KK.is k c = true):KK.Ok (KK.send k c x):=by
 have hc':=call_ok ok hc;simp only at hc';have he:fKa.is k.fRa c = true:=by
  unfold KK.is at hi;have h1:=of_decide_eq_true hi;have:=ok.el;have:=ok.cl;unfold fKa.is;exact decide_eq_true (by omega)
 have eb:fKa.begin_ k.fRa c = (((k.fRa.1.length:Int) + 1,true),(k.fRa.1++[c],k.fRa.2)):=if_pos he;unfold KK.send;rw [eb];refine ⟨ok.p,ok.tl,by rw [← ok.bl]; simp only [Mail.sends_len],ok.el,by simpa using ok.cl,calls_set ok _ (le_refl _) fun z hz=>?_,ok.n0,ok.evn,by simp; omega,?_⟩
 ·cases hz; exact hc'
 ·simp only [List.length_append,List.length_singleton];exact boxes_sends c ok.bx _ (Nat.le_refl _)
theorem kok_work {k:KK} (ok:KK.Ok k) (hn:(k.fRa.1.length:Int) + 1 <= k.now) {c:Int} {x:KC} (hc:KK.call k c = some x) (hi:KK.is k c = true):KK.Ok (KK.work k c x):=by
 unfold KK.work;split
 ·exact kok_ends (kok_access ok c x) _ _ _ _
 ·split
  ·refine kok_send (kok_clean (kok_call ok c hc (y:={ x with fZa:=true }) rfl rfl) c) hn ?_ ?_
   ·exact call_set_same hc
   ·unfold KK.is at hi ⊢;show decide (0 <= c/\c < ((k.calls.set c.toNat _).length:Int)) = true;rw [length_set]; exact hi
  ·split
   ·exact ok
   ·split
    ·exact kok_ends (kok_p ok (ok_do ok.p _ _) (do_s _ _ _)) _ _ _ _
    ·exact kok_p ok (ok_do ok.p _ _) (do_s _ _ _)
theorem busy_is {k:KK} {c:Int} (h:KK.busy k c = true):KK.is k c = true/\∃ x,KK.call k c = some x:=by
 unfold KK.busy at h;rw [Bool.and_eq_true,Option.isSome_iff_exists] at h;exact h
theorem kok_post {k:KK} (ok:KK.Ok k) (hn:k.now < 2 ^ 40) (c:Int):KK.Ok (KK.post k c).2:=by
 unfold KK.post;split
 ·exact ok
 ·split
  ·exact ok
  ·have o1:=kok_tick ok hn;have hb:∀ l ∈ (Mail.take k.fTa c).2,mZ k.fRa.1.length l:=by
    unfold Mail.take; split
    ·exact ok.bx
    ·exact boxes_set ok.bx _ (box_drop (box_of ok.bx c))
   have hbl:(Mail.take k.fTa c).2.length = k.fTa.length:=by unfold Mail.take; split <;> simp
   have ha:(fKa.ack k.fRa c (Mail.take k.fTa c).1.1).2.1 = k.fRa.1/\(fKa.ack k.fRa c (Mail.take k.fTa c).1.1).2.2.length = k.fRa.2.length:=by
    unfold fKa.ack; split <;> simp
   refine ⟨ok.p,?_,?_,?_,ok.cl,ok.cs,o1.n0,o1.evn,?_,?_⟩
   ·simp only [KK.clean,KK.tick,length_set]; exact ok.tl
   ·simp only [KK.clean,KK.tick,hbl]; exact ok.bl
   ·simp only [KK.clean,KK.tick,ha.2]; exact ok.el
   ·show ((fKa.ack k.fRa c (Mail.take k.fTa c).1.1).2.1.length:Int) <= _;rw [ha.1]; exact o1.epn
   ·show ∀ l ∈ (Mail.take k.fTa c).2,mZ (fKa.ack k.fRa c (Mail.take k.fTa c).1.1).2.1.length l;rw [ha.1]; exact hb
end
end Go.Proofs.YtochchocdckegaaGreatDoor
