/- Part of the proof of: The law RaceAlloc returns true for every input, and leaves its arguments as they were. -/
import Derived.Test.YtemoifebbhoinaaGreatDoorRaceAlloc06
set_option linter.all false
set_option maxRecDepth 20000
namespace Go.Proofs.YtemoifebbhoinaaGreatDoor
open Tryz
section
open Go Mb
set_option linter.unusedVariables false
def mP (a2:Int) (K:Ptr->Hp->Prop) (Rec10:Int->Hp->Prop) (s9:Int) (q30:Nat × Nat) (s20:Bool):Hp->Prop:=br s20 ( K (some (q30.1,q30.2 + 0 + Int.toNat (a2.tmod 4) * 10 + Int.toNat s9 * 5))) ( Rec10 (IntKind.i64.wrap (s9 + 1)))
def uK (a0:Ptr) (a1:Int) (a2:Int) (K:Ptr->Hp->Prop) (Rec10:Int->Hp->Prop) (s9:Int):Hp->Prop:=br (decide (s9 < 2)) ( nn a0 fun q30=>gd (0 <= (a2.tmod 4)/\(a2.tmod 4) < 4)<|gd (0 <= s9/\s9 < 2)<|ld (q30.1,q30.2 + 0 + Int.toNat (a2.tmod 4) * 10 + Int.toNat s9 * 5 + 0 + 0) (cI .i64) fun x38=>br (x38 == a1) ( ld (q30.1,q30.2 + 0 + Int.toNat (a2.tmod 4) * 10 + Int.toNat s9 * 5 + 0 + 1) (cI .i64) fun x46=>mP a2 K Rec10 s9 q30 (x46 == a2)) ( mP a2 K Rec10 s9 q30 false)) ( K none)
def sh_tlb_Tlb_at (a0:Ptr) (a1:Int) (a2:Int) (K:Ptr->Hp->Prop):Hp->Prop:=br (((a0.isNone || (decide (a1 < 0))) || (decide (a2 < 0))) || (decide (a2 >= 8))) ( K none) ( Lp (uK a0 a1 a2 K) 0)
theorem sim_tlb_Tlb_at (a0:Ptr) (a1:Int) (a2:Int) {K:Ptr->Hp->Prop} {h:Hp} (H:sh_tlb_Tlb_at a0 a1 a2 K h):Ct prog oM #[(pv a0),(.int .i64 a1),(.int .i64 a2)] h fun v h'=>∃ r,v = jP r/\K r h':=ay [(pv a0),(.int .i64 a1),(.int .i64 a2)] func167 c c c fun _=>M<|O c<|al<|M<|J c<|p (cq underlying114 c)<|J c<|V c c (aL _) (fun g1=>wv<|ah c)<|V c c (aL _) (fun g2=>wv<|cx (aD c g2) c)<|p (dp c c)<|J c<|V c c (aL _) (fun g3=>wv<|ah c)<|V c c (aL _) (fun g4=>wv<|cx (aD c g4) c)<|p (dp c c)<|J c<|V c c (aL _) (fun g5=>wv<|ah c)<|V c c (aL _) (fun g6=>wv<|jJ (aD c g6) c)<|p (dp c c)<|ad<|aw c H (fun k7 H8=>M<|O c<|aj<|Y ⟨none,c,H8⟩) fun k7 H8=>ao<|al<|M<|J c<|ad<|aA<|bE (step:=uK a0 a1 a2 K) (fun s9=>[(0,(pv a0)),(1,(.int .i64 a1)),(2,(.int .i64 a2)),(23,(.int .i64 s9))]) (fun s9=>[]) H8 (.cons c<|.cons c<|.cons c<|.cons c<|.nil _) .slnil fun Rec10 s9 _ H11=>M<|p (cx c c)<|ad<|al<|aw c H11 (fun k12 H13=>ao<|al<|aA<|M<|J c<|O c<|M<|J c<|J c<|p (v_rem c c (by decide))<|J c<|bG H13 fun q30 e14 H15=>p (aJ<|aN c<|ar e14)<|p (ae fld_173_0 c)<|iD H15 fun h16 H17=>p (bB arr_171 c c h16)<|iD H17 fun h18 H19=>p (bB arr_170 c c h18)<|O c<|eG (mP a2 K Rec10 s9 q30) (fun s20=>[(0,(pv a0)),(1,(.int .i64 a1)),(2,(.int .i64 a2)),(8,(.pointer (some ⟨q30.1,q30.2 + 0 + Int.toNat (a2.tmod 4) * 10 + Int.toNat s9 * 5,none⟩))),(23,(.int .i64 s9)),(49,(.bool s20))]) (fun s20=>[]) (ap<|J c<|p (aJ c)<|p (ae qj c)<|p (ae kw c)<|aa<|aW H19 aZ c (fun _=>c) c fun x38 H24=>J c<|p (bQ c c)<|J c<|V c c (aB _) (fun g25=>wv<|ah c)<|V c c (aB _) (fun g26=>wv<|aJ<|aD c g26)<|V c c (aB _) (fun g27=>wv<|ae qj<|aD c g27)<|V c c (aB _) (fun g28=>wv<|ae mY<|aD c g28)<|bS H24 (fun k30 H31=>F (D k30)<|aW H31 aZ (aD c k30) (fun _=>c) c fun x46 H32=>F (D k30)<|R (ah c)<|F (D k30)<|R (bQ c c)<|p (aT c k30 c)<|ad<|cM (x46 == a2) H32 (.cons c<|.cons c<|.cons c<|.cons c<|.cons c<|.cons c<|.nil _) .slnil) fun k30 H31=>W (aU k30)<|W (aU k30)<|W (aU k30)<|p (aq c k30 c)<|ad<|cM false H31 (.cons c<|.cons c<|.cons c<|.cons c<|.cons c<|.cons c<|.nil _) .slnil) fun s20 _ H21=>aw c H21 (fun k22 H23=>M<|J c<|O c<|aj<|Y ⟨some (q30.1,q30.2 + 0 + Int.toNat (a2.tmod 4) * 10 + Int.toNat s9 * 5),c,H23⟩) fun k22 H23=>ao<|ap<|p (bo c c)<|J c<|ad<|cN (IntKind.i64.wrap (s9 + 1)) H23 (.cons c<|.cons c<|.cons c<|.cons c<|.nil _) .slnil) fun k12 H13=>bi<|M<|O c<|aj<|Y ⟨none,c,H13⟩
def vq (a0:Ptr) (a1:Int) (a2:Int) (K:Bool->Hp->Prop):Hp->Prop:=cl prog oM [(pv a0),(.int .i64 a1),(.int .i64 a2)] jP fun r11=>br r11.isNone ( K false) ( nn r11 fun q16=>st (q16.1,q16.2 + 0) (am.C gc)<|K true)
theorem sim_tlb_Tlb_Flush (a0:Ptr) (a1:Int) (a2:Int) {K:Bool->Hp->Prop} {h:Hp} (H:vq a0 a1 a2 K h):Ct prog nh #[(pv a0),(.int .i64 a1),(.int .i64 a2)] h fun v h'=>∃ r,v = aC r/\K r h':=ay [(pv a0),(.int .i64 a1),(.int .i64 a2)] func117 c c c fun _=>M<|O c<|M<|J c<|J c<|J c<|aa<|Z H en_167 fun r11 _ H1=>O c<|al<|M<|J c<|p (cq underlying226 c)<|ad<|aw c H1 (fun k2 H3=>M<|O c<|aj<|Y ⟨false,c,H3⟩) fun k2 H3=>ao<|M<|J c<|aa<|cK (vs:=[]) (bz<|ct_tlb_empty _) en_152 c c<|bG H3 fun q16 e4 H5=>p (aJ<|aN c<|ar e4)<|p (ae qj c)<|aa<|dw fK c c c c c H5 fun _ H6=>ad<|M<|O c<|aj<|Y ⟨true,c,H6⟩
def sh_tlb_Tlb_Find (a0:Ptr) (a1:Int) (a2:Int) (K:(am × Bool)->Hp->Prop):Hp->Prop:=cl prog oM [(pv a0),(.int .i64 a1),(.int .i64 a2)] jP fun r12=>br r12.isNone ( K ((⟨0,0,0,0⟩:am),false)) ( nn r12 fun q17=>ld (q17.1,q17.2 + 0) am.C fun x19=>K (x19,true))
theorem sim_tlb_Tlb_Find (a0:Ptr) (a1:Int) (a2:Int) {K:(am × Bool)->Hp->Prop} {h:Hp} (H:sh_tlb_Tlb_Find a0 a1 a2 K h):Ct prog oN #[(pv a0),(.int .i64 a1),(.int .i64 a2)] h fun v h'=>∃ r,v = fI r/\K r h':=ay [(pv a0),(.int .i64 a1),(.int .i64 a2)] func157 c c c fun _=>M<|aa<|aM (l:=am.C (⟨0,0,0,0⟩:am)) kS c c fun b6=>O c<|M<|J c<|J c<|J c<|aa<|Z H en_167 fun r12 _ H1=>O c<|al<|M<|J c<|p (cq underlying226 c)<|ad<|aw c H1 (fun k2 H3=>M<|p (ba (vs:=[]) c lN)<|aa<|aP (k:=0) (vs:=am.C (⟨0,0,0,0⟩:am)) fK c c c c c c c<|O c<|aj<|bv (bN c (bC (k:=0) c hH c c)<|cc c) ⟨((⟨0,0,0,0⟩:am),false),c,H3⟩) fun k2 H3=>ao<|M<|J c<|bG H3 fun q17 e4 H5=>p (aJ<|aN c<|ar e4)<|p (ae qj c)<|aa<|gP H5 hH c (fun _=>c) c fun x19 H6=>aa<|aP (k:=0) (vs:=am.C x19) fK c c c c c c c<|O c<|aj<|bv (bN c (bC (k:=0) c hH c c)<|cc c) ⟨(x19,true),c,H6⟩
def re (a0:Ptr) (a1:Int) (K:Ptr->Hp->Prop) (Rec2:(Ptr × Int)->Hp->Prop) (s1:Ptr × Int):Hp->Prop:=br (decide (s1.2 < 2)) ( nn a0 fun q14=>gd (0 <= a1/\a1 < 4)<|gd (0 <= s1.2/\s1.2 < 2)<|ld (q14.1,q14.2 + 0 + Int.toNat a1 * 10 + Int.toNat s1.2 * 5 + 0 + 0) (cI .i64) fun x22=>br (decide (x22 < 0)) ( K (some (q14.1,q14.2 + 0 + Int.toNat a1 * 10 + Int.toNat s1.2 * 5))) ( br s1.1.isNone ( Rec2 ((some (q14.1,q14.2 + 0 + Int.toNat a1 * 10 + Int.toNat s1.2 * 5)),(IntKind.i64.wrap (s1.2 + 1)))) ( nn s1.1 fun q33=>ld (q14.1,q14.2 + 0 + Int.toNat a1 * 10 + Int.toNat s1.2 * 5 + 4) (cI .i64) fun x31=>ld (q33.1,q33.2 + 4) (cI .i64) fun x35=>br (decide (x31 < x35)) ( Rec2 ((some (q14.1,q14.2 + 0 + Int.toNat a1 * 10 + Int.toNat s1.2 * 5)),(IntKind.i64.wrap (s1.2 + 1)))) ( Rec2 (s1.1,(IntKind.i64.wrap (s1.2 + 1))))))) ( K s1.1)
def sh_tlb_Tlb_room (a0:Ptr) (a1:Int) (K:Ptr->Hp->Prop):Hp->Prop:=Lp (re a0 a1 K) (none,0)
theorem sim_tlb_Tlb_room (a0:Ptr) (a1:Int) {K:Ptr->Hp->Prop} {h:Hp} (H:sh_tlb_Tlb_room a0 a1 K h):Ct prog te #[(pv a0),(.int .i64 a1)] h fun v h'=>∃ r,v = jP r/\K r h':=ay [(pv a0),(.int .i64 a1)] func194 c c c fun _=>M<|O c<|M<|O c<|al<|M<|J c<|ad<|aA<|bE (step:=re a0 a1 K) (fun s1=>[(0,(pv a0)),(1,(.int .i64 a1)),(5,(pv s1.1)),(8,(.int .i64 s1.2))]) (fun s1=>[]) H (.cons c<|.cons c<|.cons c<|.cons c<|.nil _) .slnil fun Rec2 s1 _ H3=>M<|p (cx c c)<|ad<|al<|aw c H3 (fun k4 H5=>ao<|al<|aA<|M<|J c<|O c<|M<|J c<|J c<|J c<|bG H5 fun q14 e6 H7=>p (aJ<|aN c<|ar e6)<|p (ae fld_173_0 c)<|iD H7 fun h8 H9=>p (bB arr_171 c c h8)<|iD H9 fun h10 H11=>p (bB arr_170 c c h10)<|O c<|al<|M<|J c<|p (aJ c)<|p (ae qj c)<|p (ae kw c)<|aa<|aW H11 aZ c (fun _=>c) c fun x22 H12=>p (cx c c)<|ad<|aw c H12 (fun k13 H14=>M<|J c<|O c<|aj<|Y ⟨some (q14.1,q14.2 + 0 + Int.toNat a1 * 10 + Int.toNat s1.2 * 5),c,H14⟩) fun k13 H14=>ao<|al<|bn (n:=13) [] cu c .slnil<|U 0 c (ah c)<|U 1 c (cq underlying226 c)<|U 2 c (ah c)<|pd H14 (fun k15 H16=>I 3 c (cf k15)<|I 4 c (cf k15)<|I 5 c (cf k15)<|I 6 c (cf k15)<|I 7 c (cf k15)<|I 8 c (cf k15)<|I 9 c (cf k15)<|I 10 c (cf k15)<|I 11 c (cf k15)<|U 12 c (aT c k15 c)<|aV (by kernel_rfl)<|ke c c<|ap<|J c<|O c<|ap<|p (bo c c)<|J c<|ad<|cN ((some (q14.1,q14.2 + 0 + Int.toNat a1 * 10 + Int.toNat s1.2 * 5)),(IntKind.i64.wrap (s1.2 + 1))) H16 (.cons c<|.cons c<|.cons c<|.cons c<|.nil _) .slnil) fun k15 H16=>z_n 3 c (D k15) (ve<|ah c)<|z_n 4 c (D k15) (ve<|aJ c)<|z_n 5 c (D k15) (ve<|ae fld_169_1 c)<|z_n 7 c (D k15) (ve<|ah c)<|gT H16 fun q33 e17 H18=>z_n 8 c (D k15) (ve<|aJ<|aN c<|ar e17)<|z_n 9 c (D k15) (ve<|ae fld_169_1 c)<|mt (i:=6) (fun _ _ _ _ hh=>hh) H18 c (by kernel_rfl) c c c (D k15) aZ c (fun _=>c) c fun x31 H19=>mt (i:=10) (fun _ _ _ _ hh=>hh) H19 c (by kernel_rfl) c c c (D k15) aZ c (fun _=>c) c fun x35 H20=>z_n 11 c (D k15) (ve<|cx c c)<|U 12 c (aq c k15 c)<|aV (by kernel_rfl)<|aw c H20 (fun k21 H22=>ap<|J c<|O c<|ap<|p (bo c c)<|J c<|ad<|cN ((some (q14.1,q14.2 + 0 + Int.toNat a1 * 10 + Int.toNat s1.2 * 5)),(IntKind.i64.wrap (s1.2 + 1))) H22 (.cons c<|.cons c<|.cons c<|.cons c<|.nil _) .slnil) fun k21 H22=>ao<|ap<|p (bo c c)<|J c<|ad<|cN (s1.1,(IntKind.i64.wrap (s1.2 + 1))) H22 (.cons c<|.cons c<|.cons c<|.cons c<|.nil _) .slnil) fun k4 H5=>bi<|M<|J c<|O c<|aj<|Y ⟨s1.1,c,H5⟩
def kl (a0:Ptr) (a1:am) (K:Bool->Hp->Prop) (s24:Ptr):Hp->Prop:=nn a0 fun q60=>ld (q60.1,q60.2 + 40) (cI .i64) fun x62=>st (q60.1,q60.2 + 40) [.int .i64 (IntKind.i64.wrap (x62 + 1))]<|ld (q60.1,q60.2 + 40) (cI .i64) fun x71=>nn s24 fun q73=>st (q73.1,q73.2) (ck.C (⟨a1,x71⟩:ck))<|K true
def sh_tlb_Tlb_Fill (a0:Ptr) (a1:am) (K:Bool->Hp->Prop):Hp->Prop:=br ((a0.isNone || ((((((decide (a1.fCa < 0)) || (decide (a1.fCa >= 4))) || (decide (a1.fOa < 0))) || (decide (a1.fOa >= 8))) || (decide (a1.fEa < 0))) || (decide (a1.fEa >= 16)))) || (!(ch a1.fBa))) ( K false) ( cl prog oM [(pv a0),(.int .i64 a1.fCa),(.int .i64 a1.fOa)] jP fun r51=>br r51.isNone ( cl prog te [(pv a0),(.int .i64 (a1.fOa.tmod 4))] jP fun r58=>kl a0 a1 K r58) ( kl a0 a1 K r51))
theorem sim_tlb_Tlb_Fill (a0:Ptr) (a1:am) {K:Bool->Hp->Prop} {h:Hp} (H:sh_tlb_Tlb_Fill a0 a1 K h):Ct prog oO #[(pv a0),(.agg (am.C a1).toArray)] h fun v h'=>∃ r,v = aC r/\K r h':=ay [(pv a0),(.agg (am.C a1).toArray)] func159 c c c fun _=>M<|aa<|cO (l:=am.C a1) c c c fun b3=>O c<|M<|p (ae kw c)<|bh (bf (k:=0) aZ c c c) c<|p (cx c c)<|J c<|V c c (aL _) (fun g1=>wv<|ae kw c)<|V c c (aL _) (fun g2=>cv<|bf (k:=0) aZ (aD c g2) c c)<|V c c (aL _) (fun g3=>wv<|jJ (aD c g3) c)<|p (dp c c)<|J c<|V c c (aL _) (fun g4=>wv<|ae mY c)<|V c c (aL _) (fun g5=>cv<|bf (k:=0) aZ (aD c g5) c c)<|V c c (aL _) (fun g6=>wv<|cx (aD c g6) c)<|p (dp c c)<|J c<|V c c (aL _) (fun g7=>wv<|ae mY c)<|V c c (aL _) (fun g8=>cv<|bf (k:=0) aZ (aD c g8) c c)<|V c c (aL _) (fun g9=>wv<|jJ (aD c g9) c)<|p (dp c c)<|J c<|V c c (aL _) (fun g10=>wv<|ae lJ c)<|V c c (aL _) (fun g11=>cv<|bf (k:=0) aZ (aD c g11) c c)<|V c c (aL _) (fun g12=>wv<|cx (aD c g12) c)<|p (dp c c)<|J c<|V c c (aL _) (fun g13=>wv<|ae lJ c)<|V c c (aL _) (fun g14=>cv<|bf (k:=0) aZ (aD c g14) c c)<|V c c (aL _) (fun g15=>wv<|jJ (aD c g15) c)<|p (dp c c)<|O c<|al<|M<|J c<|p (cq underlying114 c)<|J c<|V c c (aL _) (fun g16=>wv<|ah c)<|p (dp c c)<|J c<|V c c (aL _) (fun g17=>wv<|ae qY c)<|V c c (aL _) (fun g18=>cv<|bf (k:=0) aZ (aD c g18) c c)<|cZ (vs:=[(.int .i64 a1.fBa)]) c c c (aL _) (fun g19=>bz<|ql a1.fBa _) en_166 (fun g19=>aS (aD c g19) bR) c<|V c c (aL _) (fun g20=>wv<|cr<|aD c g20)<|p (dp c c)<|ad<|aw c H (fun k21 H22=>M<|O c<|aj<|Y ⟨false,c,H22⟩) fun k21 H22=>ao<|M<|J c<|p (ae kw c)<|bh (bf (k:=0) aZ c c c) c<|p (ae mY c)<|bh (bf (k:=0) aZ c c c) c<|aa<|Z H22 en_167 fun r51 _ H23=>O c<|eG (kl a0 a1 K) (fun s24=>[(0,(pv a0)),(3,(.pointer (some ⟨b3,0,none⟩))),(6,(pv s24))]) (fun s24=>[bx b3 54 (am.C a1)]) (M<|J c<|p (cq underlying226 c)<|ad<|aw c H23 (fun k34 H35=>ap<|J c<|p (ae mY c)<|bh (bf (k:=0) aZ c c c) c<|p (v_rem c c (by decide))<|aa<|Z H35 en_194 fun r58 _ H36=>O c<|cM r58 H36 (.cons c<|.cons c<|.cons c<|.nil _)<|.cons_cons _ .slnil) fun k34 H35=>ao<|cM r51 H35 (.cons c<|.cons c<|.cons c<|.nil _)<|.cons_cons _ .slnil) fun s24 _ H25=>M<|J c<|bG H25 fun q60 e26 H27=>p (aJ<|aN c<|ar e26)<|p (ae fld_173_1 c)<|aa<|aW H27 aZ c (fun _=>c) c fun x62 H28=>p (bo c c)<|p (aJ<|aN c<|ar e26)<|p (ae fld_173_1 c)<|aa<|dw qU c c c c c H28 fun _ H29=>ad<|al<|bn (n:=9) [bx b3 54 (am.C a1)] cu c (.cons_cons _ .slnil)<|U 0 c (ah c)<|z_E 1 c (eo (k:=0) hH c c c c)<|U 2 c (ah<|aN c<|ar e26)<|U 3 c (aJ c)<|U 4 c (ae fld_173_1 c)<|bI (i:=5) (fun _ _ _ _ hh=>hh) H29 c (by kernel_rfl) aZ c (fun _=>c) c fun x71 H30=>U 6 c (ba c<|build_169_0_1 a1 x71)<|gT H30 fun q73 e31 H32=>U 7 c (aJ<|aN c<|ar e31)<|G 8 c<|dw inf_169 c c c c c H32 fun _ H33=>⟨.cons_cons _ .slnil,aV (by kernel_rfl)<|M<|O c<|aj<|Y ⟨true,c,H33⟩⟩
def pR (Rec4:(Sl × Int)->Hp->Prop) (s3:Sl × Int) (x17:jf) (Rec14:(Sl × Int)->Hp->Prop) (s13:Sl × Int):Hp->Prop:=br (decide (s13.2 < 2)) ( hpv prog (Instr.index t_2_tlb_line (.agg (jf.C x17).toArray) (.int .i64 s13.2)) R_tlb_line fun (v20:ck)=>hpv prog (Instr.buildSlice qF 1 #[(0,(.agg (am.C v20.fl).toArray))]) rd fun (v24:Sl)=>hpv prog (Builtin.append_ #[qF,qF] qF #[(sv s13.1),(sv v24)]) rd fun (v25:Sl)=>Rec14 (v25,(IntKind.i64.wrap (s13.2 + 1)))) ( Rec4 (s13.1,(IntKind.i64.wrap (s3.2 + 1))))
def pS (a0:Ptr) (K:Sl->Hp->Prop) (Rec4:(Sl × Int)->Hp->Prop) (s3:Sl × Int):Hp->Prop:=br (decide (s3.2 < 4)) ( nn a0 fun q14=>gd (0 <= s3.2/\s3.2 < 4)<|ld (q14.1,q14.2 + 0 + Int.toNat s3.2 * 10) jf.C fun x17=>Lp (pR Rec4 s3 x17) (s3.1,0)) ( K s3.1)
def vp (a0:Ptr) (K:Sl->Hp->Prop):Hp->Prop:=br a0.isNone ( K (⟨none,0,0,none⟩:Sl)) ( Lp (pS a0 K) ((⟨none,0,0,none⟩:Sl),0))
theorem sim_tlb_Tlb_Lines (a0:Ptr) {K:Sl->Hp->Prop} {h:Hp} (H:vp a0 K h):Ct prog rj #[(pv a0)] h fun v h'=>∃ r,v = rd r/\K r h':=ay [(pv a0)] func87 c c c fun _=>M<|O c<|al<|M<|J c<|p (cq underlying114 c)<|ad<|aw c H (fun k1 H2=>M<|O c<|aj<|Y ⟨(⟨none,0,0,none⟩:Sl),c,H2⟩) fun k1 H2=>ao<|M<|O c<|al<|M<|J c<|ad<|aA<|bE (step:=pS a0 K) (fun s3=>[(0,(pv a0)),(3,(sv s3.1)),(9,(.int .i64 s3.2))]) (fun s3=>[]) H2 (.cons c<|.cons c<|.cons c<|.nil _) .slnil fun Rec4 s3 _ H5=>M<|p (cx c c)<|ad<|al<|aw c H5 (fun k6 H7=>ao<|al<|aA<|M<|J c<|O c<|M<|J c<|J c<|bG H7 fun q14 e8 H9=>p (aJ<|aN c<|ar e8)<|p (ae fld_173_0 c)<|iD H9 fun h10 H11=>p (bB arr_171 c c h10)<|aa<|gP H11 ag_170 c (fun _=>c) c fun x17 H12=>J c<|ad<|aA<|bE (step:=pR Rec4 s3 x17) (fun s13=>[(0,(pv a0)),(3,(sv s13.1)),(9,(.int .i64 s3.2)),(17,(.agg (jf.C x17).toArray)),(18,(.int .i64 s13.2))]) (fun s13=>[]) H12 (.cons c<|.cons c<|.cons c<|.cons c<|.cons c<|.nil _) .slnil fun Rec14 s13 _ H15=>M<|p (cx c c)<|ad<|al<|aw c H15 (fun k16 H17=>ao<|al<|aA<|M<|aa<|aR H17 (x_index c c) c fun v20 _ H18=>aa<|aM (l:=ck.C (⟨(⟨0,0,0,0⟩:am),0⟩:ck)) zero_169 c c fun b6=>aa<|aP (k:=0) (vs:=ck.C v20) inf_169 c c c c c c c<|ad<|ap<|J c<|p (ae qj c)<|bh (bF (k:=0) hH c c c c) c<|aa<|aR H18 (bw (vs:=[(.agg (am.C v20.fl).toArray)]) c) c fun v24 _ H19=>aa<|aR H19 (dE c c) c fun v25 _ H20=>O c<|ap<|p (bo c c)<|J c<|ad<|cN (v25,(IntKind.i64.wrap (s13.2 + 1))) H20 (.cons c<|.cons c<|.cons c<|.cons c<|.cons c<|.nil _)<|.cons _ .slnil) fun k16 H17=>bi<|ap<|p (bo c c)<|J c<|ad<|cN (s13.1,(IntKind.i64.wrap (s3.2 + 1))) H17 (.cons c<|.cons c<|.cons c<|.nil _) .slnil) fun k6 H7=>bi<|M<|J c<|O c<|aj<|Y ⟨s3.1,c,H7⟩
def pT (a0:Ptr) (Rec4:Int->Hp->Prop) (s3:Int) (Rec9:Int->Hp->Prop) (s8:Int):Hp->Prop:=br (decide (s8 < 2)) ( nn a0 fun q16=>gd (0 <= s3/\s3 < 4)<|gd (0 <= s8/\s8 < 2)<|st (q16.1,q16.2 + 0 + Int.toNat s3 * 10 + Int.toNat s8 * 5 + 0) (am.C gc)<|Rec9 (IntKind.i64.wrap (s8 + 1))) ( Rec4 (IntKind.i64.wrap (s3 + 1)))
def pU (a0:Ptr) (K:Unit->Hp->Prop) (Rec4:Int->Hp->Prop) (s3:Int):Hp->Prop:=br (decide (s3 < 4)) ( Lp (pT a0 Rec4 s3) 0) ( K ())
def vr (a0:Ptr) (K:Unit->Hp->Prop):Hp->Prop:=br a0.isNone ( K ()) ( Lp (pU a0 K) 0)
theorem sim_tlb_Tlb_Clear (a0:Ptr) {K:Unit->Hp->Prop} {h:Hp} (H:vr a0 K h):Ct prog rl #[(pv a0)] h fun v h'=>∃ r,v = R_ r/\K r h':=ay [(pv a0)] func108 c c c fun _=>al<|M<|J c<|p (cq underlying114 c)<|ad<|aw c H (fun k1 H2=>aj<|bv (res_0 c) ⟨(),c,H2⟩) fun k1 H2=>ao<|M<|J c<|ad<|aA<|bE (step:=pU a0 K) (fun s3=>[(0,(pv a0)),(6,(.int .i64 s3))]) (fun s3=>[]) H2 (.cons c<|.cons c<|.nil _) .slnil fun Rec4 s3 _ H5=>M<|p (cx c c)<|ad<|al<|aw c H5 (fun k6 H7=>ao<|al<|aA<|M<|J c<|O c<|M<|J c<|ad<|aA<|bE (step:=pT a0 Rec4 s3) (fun s8=>[(0,(pv a0)),(2,(.int .i64 s3)),(6,(.int .i64 s3)),(9,(.int .i64 s8))]) (fun s8=>[]) H7 (.cons c<|.cons c<|.cons c<|.cons c<|.nil _) .slnil fun Rec9 s8 _ H10=>M<|p (cx c c)<|ad<|al<|aw c H10 (fun k11 H12=>ao<|al<|aA<|M<|J c<|O c<|bn (n:=10) [] cu c .slnil<|U 0 c (ah c)<|U 1 c (ah c)<|U 2 c (ah c)<|gT H12 fun q16 e13 H14=>U 4 c (aJ<|aN c<|ar e13)<|U 5 c (ae fld_173_0 c)<|eva_gd H14 fun h15 H16=>U 6 c (bB arr_171 c c h15)<|G 3 c<|cK (vs:=[]) (bz<|ct_tlb_empty _) en_152 c c ⟨.slnil,eva_gd H16 fun h17 H18=>U 7 c (bB arr_170 c c h17)<|U 8 c (ae qj c)<|G 9 c<|dw fK c c c c c H18 fun _ H19=>⟨.slnil,aV (by kernel_rfl)<|ap<|p (bo c c)<|J c<|ad<|cN (IntKind.i64.wrap (s8 + 1)) H19 (.cons c<|.cons c<|.cons c<|.cons c<|.nil _) .slnil⟩⟩) fun k11 H12=>bi<|ap<|p (bo c c)<|J c<|ad<|cN (IntKind.i64.wrap (s3 + 1)) H12 (.cons c<|.cons c<|.nil _) .slnil) fun k6 H7=>bi<|end_i (res_0 c) ⟨(),c,H7⟩
def sh_tlb_New (K:Ptr->Hp->Prop):Hp->Prop:=hpv prog (Instr.build pV #[]) encL fun (v2:(List Value))=>nw pV v2 fun b3=>cl prog rl [(.pointer (some ⟨b3,0,none⟩))] R_ fun (_:Unit)=>K (some (b3,0))
theorem sim_tlb_New {K:Ptr->Hp->Prop} {h:Hp} (H:sh_tlb_New K h):Ct prog iE #[] h fun v h'=>∃ r,v = gH r/\K r h':=ay [] func59 c c c fun _=>M<|O c<|M<|aa<|aR H (x_build (vs:=[]) c) c fun v2 _ H1=>aa<|hY c c c H1 fun b3 _ H2=>O c<|M<|J c<|aa<|Z H2 en_108 fun r5 _ H3=>ad<|M<|J c<|O c<|aj<|Y ⟨some (b3,0),c,H3⟩
end
section
open Go Mb
abbrev TL:=ck
theorem ju (p:TL):p.C.length = 5:=rfl
def fF (x:Ptr) (t:List TL × Int):As:=fun h=>∃ b:Nat,(x = some (b,0)/\t.1.length = 8)/\aF [blk b pV ([]++(t.1.flatMap ck.C++[.int .i64 t.2]))] h
theorem oh {x:Ptr} {t:List TL × Int} {l:List As} {h:Hp} (s0:aF (fF x t::l) h):∃ b,x = some (b,0)/\t.1.length = 8/\aF (blk b pV ([]++(t.1.flatMap ck.C++[.int .i64 t.2]))::l) h:=by
 obtain ⟨b,⟨hx,hb⟩,st⟩:=op_ s0
 exact ⟨b,hx,hb,st⟩
theorem uJ {b:Nat} {t:List TL × Int} {l:List As} {h:Hp} (hb:t.1.length = 8) (st:aF (blk b pV ([]++(t.1.flatMap ck.C++[.int .i64 t.2]))::l) h):aF (fF (some (b,0)) t::l) h:=cl_ b ⟨rfl,hb⟩ st
namespace Tlb
abbrev line0:TL:=⟨⟨0,0,0,0⟩,0⟩
def ln (ls:List TL) (n:Nat):TL:=ls.getD n line0
def hit (ls:List TL) (e p:Int) (n:Nat):Prop:=(ln ls n).fl.fCa = e/\(ln ls n).fl.fOa = p
instance (ls:List TL) (e p:Int) (n:Nat):Decidable (hit ls e p n):=by unfold hit; infer_instance
def at_ (ls:List TL) (e p:Int):Option Nat :=
 if e < 0\/p < 0\/p >= 8 then none
 else if hit ls e p ((p.tmod 4).toNat * 2) then some ((p.tmod 4).toNat * 2) else if hit ls e p ((p.tmod 4).toNat * 2 + 1) then some ((p.tmod 4).toNat * 2 + 1) else none
def find (ls:List TL) (e p:Int):am × Bool:=match at_ ls e p with | some n=>((ln ls n).fl,true) | none=>(⟨0,0,0,0⟩,false)
def flush (t:List TL × Int) (e p:Int):Bool × List TL × Int:=match at_ t.1 e p with | some n=>(true,t.1.set n { ln t.1 n with fl:=gc },t.2) | none=>(false,t)
theorem at_lt {ls:List TL} {e p:Int} {n:Nat} (h:at_ ls e p = some n):n < 8:=by
 unfold at_ at h
 split at h
 ·cases h
 ·rename_i h0
  have:(p.tmod 4).toNat < 4:=by
   obtain ⟨q,rfl⟩:=Int.eq_ofNat_of_zero_le (show 0 <= p by omega)
   rw [show ((4:Int)) = ((4:Nat):Int) from rfl,← Int.ofNat_tmod]
   simp; omega
  split at h
  ·cases h; omega
  ·split at h
   ·cases h; omega
   ·cases h
end Tlb
def xn (b:Nat) (o:Option Nat):Ptr:=o.map fun n=>(b,n * 5)
theorem ln_get {ls:List TL} {n:Nat} (h:n < ls.length):Tlb.ln ls n = ls[n]:=by simp [Tlb.ln,h]
theorem sp_tlb_at (b:Nat) (t:List TL × Int) (e p:Int) (hb:t.1.length = 8):Sp prog oM [pv (some (b,0)),.int .i64 e,.int .i64 p] jP [fF (some (b,0)) t] (fun r=>pa_ (r = xn b (Tlb.at_ t.1 e p)) [fF (some (b,0)) t]):=by
 intro h s0
 obtain ⟨b',hb',_,st⟩:=oh s0
 cases hb'
 refine sim_tlb_Tlb_at _ _ _ ?_
 unfold sh_tlb_Tlb_at
 refine aY (fun k=>?_) (fun k=>?_)
 ·have k':e < 0\/p < 0\/p >= 8:=by simpa [or_assoc] using k
  have e1:Tlb.at_ t.1 e p = none:=if_pos k'
  rw [e1]
  exact aX rfl (uJ hb st)
 ·have k':¬ (e < 0\/p < 0\/p >= 8):=by simp at k; omega
  obtain ⟨q,rfl⟩:=Int.eq_ofNat_of_zero_le (show 0 <= p by omega)
  have hm:((q:Int).tmod 4) = ((q % 4:Nat):Int):=by rw [show ((4:Int)) = ((4:Nat):Int) from rfl,← Int.ofNat_tmod]
  have hq4:q % 4 < 4:=Nat.mod_lt _ (by omega)
  have e1:Tlb.at_ t.1 e q = if Tlb.hit t.1 e q (q % 4 * 2) then some (q % 4 * 2) else if Tlb.hit t.1 e q (q % 4 * 2 + 1) then some (q % 4 * 2 + 1) else none:=by
   unfold Tlb.at_; rw [if_neg k',hm,Int.toNat_natCast]
  refine Lp.intro (fun (w:Int) h=>∃ n:Nat,w = n/\n <= 2/\(∀ m,m < n->¬ Tlb.hit t.1 e q (q % 4 * 2 + m))/\aF [fF (some (b,0)) t] h) (fun (w:Int) _=>2 - w.toNat) ⟨0,rfl,by omega,by intro m hm; omega,uJ hb st⟩ ?_
  rintro w h ⟨n,rfl,hn,hno,s1⟩
  unfold uK
  refine aY (fun k2=>?_) (fun k2=>?_)
  ·have hlt:n < 2:=by have:=of_decide_eq_true k2; omega
   obtain ⟨b',hb',_,s2⟩:=oh s1
   cases hb'
   have hi:q % 4 * 2 + n < t.1.length:=by rw [hb]; omega
   have hw:IntKind.i64.wrap ((n:Int) + 1) = ((n + 1:Nat):Int):=by rw [bM (by omega) (by omega)]; rfl
   rw [hm]
   refine cD ⟨⟨by omega,by omega⟩,⟨by omega,by omega⟩,?_⟩
   have next:¬ Tlb.hit t.1 e q (q % 4 * 2 + n)->∀ h,aF [fF (some (b,0)) t] h ->
     (∃ m:Nat,IntKind.i64.wrap ((n:Int) + 1) = m/\m <= 2/\(∀ k,k < m->¬ Tlb.hit t.1 e q (q % 4 * 2 + k))/\aF [fF (some (b,0)) t] h)/\2 - (IntKind.i64.wrap ((n:Int) + 1)).toNat < 2 - (n:Int).toNat:=by
    intro hnot h s
    rw [hw]
    refine ⟨⟨n + 1,rfl,hlt,fun k hk=>?_,s⟩,by simp; omega⟩
    by_cases hkn:k = n
    ·subst hkn; exact hnot
    ·exact hno k (by omega)
   refine ld_a (j:=0) (i:=q % 4 * 2 + n) (k:=0) t.1[q % 4 * 2 + n].fl.fCa ju s2 rfl (by simp; omega) (aH hi) (c1 rfl rfl) ?_
   refine aY (fun k3=>?_) (fun k3=>?_)
   ·refine ld_a (j:=0) (i:=q % 4 * 2 + n) (k:=1) t.1[q % 4 * 2 + n].fl.fOa ju s2 rfl (by simp; omega) (aH hi) (c1 rfl rfl) ?_
    unfold mP
    refine aY (fun k4=>?_) (fun k4=>?_)
    ·have hh:Tlb.hit t.1 e q (q % 4 * 2 + n):=by
      unfold Tlb.hit; rw [ln_get hi]; exact ⟨by simpa using k3,by simpa using k4⟩
     refine aX ?_ s1
     rw [e1]
     have hn01:n = 0\/n = 1:=by omega
     rcases hn01 with rfl | rfl
     ·rw [Nat.add_zero] at hh; rw [if_pos hh]; simp [xn,hm]; omega
     ·have:=hno 0 (by omega); rw [Nat.add_zero] at this; rw [if_neg this,if_pos hh]; simp [xn,hm]; omega
    ·exact next (by unfold Tlb.hit; rw [ln_get hi]; intro hh; simp [hh.2] at k4) h s1
   ·unfold mP
    refine dn rfl ?_
    exact next (by unfold Tlb.hit; rw [ln_get hi]; intro hh; simp [hh.1] at k3) h s1
  ·have hn2:n = 2:=by have:=of_decide_eq_false k2; omega
   subst hn2
   refine aX ?_ s1
   have h0:=hno 0 (by omega)
   have h1:=hno 1 (by omega)
   rw [Nat.add_zero] at h0
   rw [e1,if_neg h0,if_neg h1]
   rfl
theorem sp_tlb_Find (x:Ptr) (t:List TL × Int) (e p:Int):Sp prog oN [pv x,.int .i64 e,.int .i64 p] fI [fF x t] (fun r=>pa_ (r = Tlb.find t.1 e p) [fF x t]):=by
 intro h s0
 obtain ⟨b,rfl,hb,st⟩:=oh s0
 refine sim_tlb_Tlb_Find _ _ _ ?_
 unfold sh_tlb_Tlb_Find
 refine cQ [0] (sp_tlb_at b t e p hb) s0 rfl fun r h' s1=>?_
 obtain ⟨hr,s2⟩:=bt.1 s1
 unfold Tlb.find
 cases ho:Tlb.at_ t.1 e p with
 | none =>
  rw [ho] at hr; subst hr
  exact dL rfl (aX rfl s2)
 | some n =>
  rw [ho] at hr; subst hr
  have hn:n < t.1.length:=by rw [hb]; exact Tlb.at_lt ho
  obtain ⟨b',hb',_,s3⟩:=oh s2
  cases hb'
  refine dn rfl (cD ?_)
  refine ld_a (j:=0) (i:=n) (k:=0) t.1[n].fl ju s3 rfl (by simp) (aH hn) ?_ ?_
  ·intro m v hv
   rw [Nat.zero_add]
   have:m < 4:=(List.getElem?_eq_some_iff.1 hv).1
   match m,this with
   | 0,_=>exact hv
   | 1,_=>exact hv
   | 2,_=>exact hv
   | 3,_=>exact hv
  ·refine aX ?_ (uJ hb s3)
   show _ = ((Tlb.ln t.1 n).fl,true)
   rw [ln_get hn]
theorem sp_tlb_Flush (x:Ptr) (t:List TL × Int) (e p:Int):Sp prog nh [pv x,.int .i64 e,.int .i64 p] aC [fF x t] (fun r=>pa_ (r = (Tlb.flush t e p).1) [fF x (Tlb.flush t e p).2]):=by
 intro h s0
 obtain ⟨b,rfl,hb,st⟩:=oh s0
 refine sim_tlb_Tlb_Flush _ _ _ ?_
 unfold vq
 refine cQ [0] (sp_tlb_at b t e p hb) s0 rfl fun r h' s1=>?_
 obtain ⟨hr,s2⟩:=bt.1 s1
 cases ho:Tlb.at_ t.1 e p with
 | none =>
  rw [ho] at hr; subst hr
  have e1:Tlb.flush t e p = (false,t):=by unfold Tlb.flush; rw [ho]
  rw [e1]
  exact dL rfl (aX rfl s2)
 | some n =>
  rw [ho] at hr; subst hr
  have hn:n < t.1.length:=by rw [hb]; exact Tlb.at_lt ho
  have e1:Tlb.flush t e p = (true,t.1.set n { t.1[n] with fl:=gc },t.2):=by unfold Tlb.flush; rw [ho,← ln_get hn]
  rw [e1]
  obtain ⟨b',hb',_,s3⟩:=oh s2
  cases hb'
  refine dn rfl (cD ?_)
  refine st_a (j:=0) (i:=n) (k:=0) { t.1[n] with fl:=gc } ju s3 rfl (by simp) (aH hn) (by simp [am.C]) rfl fun h2 s4=>?_
  exact aX rfl (uJ (t:=(t.1.set n { t.1[n] with fl:=gc },t.2)) (by simpa using hb) s4)
namespace Tlb
def room (ls:List TL) (a:Nat):Nat :=
 if (ln ls a).fl.fCa < 0 then a else if (ln ls (a + 1)).fl.fCa < 0 then a + 1 else if (ln ls (a + 1)).fwhen < (ln ls a).fwhen then a + 1 else a
end Tlb
theorem sp_tlb_room (b:Nat) (t:List TL × Int) (s:Nat) (hs:s < 4) (hb:t.1.length = 8):Sp prog te [pv (some (b,0)),.int .i64 s] jP [fF (some (b,0)) t] (fun r=>pa_ (r = xn b (some (Tlb.room t.1 (s * 2)))) [fF (some (b,0)) t]):=by
 intro h s0
 refine sim_tlb_Tlb_room _ _ ?_
 unfold sh_tlb_Tlb_room
 have w1:IntKind.i64.wrap (((0:Nat):Int) + 1) = 1:=by rw [bM (by omega) (by omega)]; rfl
 have w2:IntKind.i64.wrap ((1:Int) + 1) = 2:=by rw [bM (by omega) (by omega)]; rfl
 have h0:s * 2 < t.1.length:=by omega
 have h1:s * 2 + 1 < t.1.length:=by omega
 have l0:=ln_get h0
 have l1:=ln_get h1
 refine Lp.intro (fun (z:Ptr × Int) h=>((z = (none,0))\/(z = (some (b,s * 2 * 5),1)/\¬ (t.1[s * 2]).fl.fCa < 0)\/(z.2 = 2/\z.1 = xn b (some (Tlb.room t.1 (s * 2)))))/\aF [fF (some (b,0)) t] h) (fun (z:Ptr × Int) _=>2 - z.2.toNat) ⟨.inl rfl,s0⟩ ?_
 rintro ⟨z,i⟩ h ⟨hz,s1⟩
 obtain ⟨b',hb',_,s2⟩:=oh s1
 cases hb'
 unfold re
 rcases hz with hz | ⟨hz,hne⟩ | ⟨hz1,hz2⟩
 ·cases hz
  refine dL rfl (cD ⟨⟨by omega,by omega⟩,⟨by omega,by omega⟩,?_⟩)
  refine ld_a (j:=0) (i:=s * 2) (k:=0) t.1[s * 2].fl.fCa ju s2 rfl (by simp; omega) (aH h0) (c1 rfl rfl) ?_
  refine aY (fun k=>?_) (fun k=>?_)
  ·have k':t.1[s * 2].fl.fCa < 0:=by simpa using k
   refine aX ?_ s1
   unfold Tlb.room
   rw [l0,if_pos k']
   simp [xn]; omega
  ·have k':¬ t.1[s * 2].fl.fCa < 0:=by simpa using k
   refine dL rfl ?_
   refine ⟨⟨.inr (.inl ⟨?_,k'⟩),s1⟩,?_⟩
   ·show (some (b,0 + 0 + (s:Int).toNat * 10 + (0:Int).toNat * 5),IntKind.i64.wrap ((0:Int) + 1)) = _
    have:IntKind.i64.wrap ((0:Int) + 1) = 1:=w1
    rw [this]
    simp; omega
   ·have:IntKind.i64.wrap ((0:Int) + 1) = 1:=w1
    show 2 - (IntKind.i64.wrap ((0:Int) + 1)).toNat < _
    rw [this]; decide
 ·cases hz
  refine dL rfl (cD ⟨⟨by omega,by omega⟩,⟨by omega,by omega⟩,?_⟩)
  refine ld_a (j:=0) (i:=s * 2 + 1) (k:=0) t.1[s * 2 + 1].fl.fCa ju s2 rfl (by simp; omega) (aH h1) (c1 rfl rfl) ?_
  refine aY (fun k=>?_) (fun k=>?_)
  ·have k':t.1[s * 2 + 1].fl.fCa < 0:=by simpa using k
   refine aX ?_ s1
   unfold Tlb.room
   rw [l0,l1,if_neg hne,if_pos k']
   simp [xn]; omega
  ·have k':¬ t.1[s * 2 + 1].fl.fCa < 0:=by simpa using k
   refine dn rfl (cD ?_)
   refine ld_a (j:=0) (i:=s * 2 + 1) (k:=4) t.1[s * 2 + 1].fwhen ju s2 rfl (by simp; omega) (aH h1) (c1 rfl rfl) ?_
   refine ld_a (j:=0) (i:=s * 2) (k:=4) t.1[s * 2].fwhen ju s2 rfl (by simp) (aH h0) (c1 rfl rfl) ?_
   refine aY (fun k2=>?_) (fun k2=>?_)
   ·have k2':t.1[s * 2 + 1].fwhen < t.1[s * 2].fwhen:=by simpa using k2
    refine ⟨⟨.inr (.inr ⟨w2,?_⟩),s1⟩,by show 2 - (IntKind.i64.wrap ((1:Int) + 1)).toNat < _; rw [w2]; simp⟩
    unfold Tlb.room
    rw [l0,l1,if_neg hne,if_neg k',if_pos k2']
    simp [xn]; omega
   ·have k2':¬ t.1[s * 2 + 1].fwhen < t.1[s * 2].fwhen:=by simpa using k2
    refine ⟨⟨.inr (.inr ⟨w2,?_⟩),s1⟩,by show 2 - (IntKind.i64.wrap ((1:Int) + 1)).toNat < _; rw [w2]; simp⟩
    unfold Tlb.room
    rw [l0,l1,if_neg hne,if_neg k',if_neg k2']
    simp [xn]
 ·simp only at hz1 hz2
  subst hz1
  exact dn rfl (aX hz2 s1)
namespace Tlb
def bad (a:am):Prop:=a.fCa < 0\/a.fCa >= 4\/a.fOa < 0\/a.fOa >= 8\/a.fEa < 0\/a.fEa >= 16\/ch a.fBa = false
instance (a:am):Decidable (bad a):=by unfold bad; infer_instance
def place (ls:List TL) (a:am):Nat:=match at_ ls a.fCa a.fOa with | some n=>n | none=>room ls ((a.fOa.tmod 4).toNat * 2)
def fill (t:List TL × Int) (a:am):Bool × List TL × Int :=
 if bad a then (false,t) else (true,t.1.set (place t.1 a) ⟨a,IntKind.i64.wrap (t.2 + 1)⟩,IntKind.i64.wrap (t.2 + 1))
def clr (c:TL):TL:={ c with fl:=gc }
def clear (t:List TL × Int):List TL × Int:=(t.1.map clr,t.2)
end Tlb
theorem tmod4 {p:Int} (h0:0 <= p):∃ q:Nat,p.tmod 4 = q/\q < 4:=by
 obtain ⟨q,rfl⟩:=Int.eq_ofNat_of_zero_le h0
 exact ⟨q % 4,by rw [show ((4:Int)) = ((4:Nat):Int) from rfl,← Int.ofNat_tmod],Nat.mod_lt _ (by omega)⟩
theorem room_lt (ls:List TL) (a:Nat):Tlb.room ls a <= a + 1:=by
 unfold Tlb.room; split <;> (try split) <;> (try split) <;> omega
theorem sp_tlb_Fill (x:Ptr) (t:List TL × Int) (a:am):Sp prog oO [pv x,.agg a.C.toArray] aC [fF x t] (fun r=>pa_ (r = (Tlb.fill t a).1) [fF x (Tlb.fill t a).2]):=by
 intro h s0
 obtain ⟨b,rfl,hb,st⟩:=oh s0
 refine sim_tlb_Tlb_Fill _ _ ?_
 unfold sh_tlb_Tlb_Fill
 refine aY (fun k=>?_) (fun k=>?_)
 ·have k':Tlb.bad a:=by simpa [Tlb.bad,or_assoc] using k
  have e1:Tlb.fill t a = (false,t):=if_pos k'
  rw [e1]
  exact aX rfl (uJ hb st)
 ·have k':¬ Tlb.bad a:=by
   unfold Tlb.bad
   simp at k
   obtain ⟨⟨⟨⟨⟨⟨c1,c2⟩,c3⟩,c4⟩,c5⟩,c6⟩,c7⟩:=k
   simp [c7]; omega
  have e1:Tlb.fill t a = (true,t.1.set (Tlb.place t.1 a) ⟨a,IntKind.i64.wrap (t.2 + 1)⟩,IntKind.i64.wrap (t.2 + 1)):=if_neg k'
  rw [e1]
  have fin:∀ (n:Nat) (h:Hp),n = Tlb.place t.1 a->n < 8->aF [fF (some (b,0)) t] h->kl (some (b,0)) a (fun r=>pa_ (r = true) [fF (some (b,0)) (t.1.set (Tlb.place t.1 a) ⟨a,IntKind.i64.wrap (t.2 + 1)⟩,IntKind.i64.wrap (t.2 + 1))]) (some (b,n * 5)) h:=by
   intro n h hn hlt s1
   obtain ⟨b',hb',_,s2⟩:=oh s1
   cases hb'
   have hn':n < t.1.length:=by omega
   have hfl:(t.1.flatMap ck.C).length = 40:=by rw [dZ ju,hb]
   have lb:([]++(t.1.flatMap ck.C++[Value.int .i64 t.2]))[0 + 40]? = some (.int .i64 t.2):=by
    rw [List.nil_append,List.getElem?_append_right (by omega),hfl]; rfl
   unfold kl
   refine cD (bk t.2 s2 (i:=0) rfl rfl lb ?_)
   refine uL (i:=0) s2 rfl (by simp [hfl]) fun h3 s3=>?_
   have ew:wr ([]++(t.1.flatMap ck.C++[Value.int .i64 t.2])) (0 + 40) [.int .i64 (IntKind.i64.wrap (t.2 + 1))] = []++(t.1.flatMap ck.C++[Value.int .i64 (IntKind.i64.wrap (t.2 + 1))]):=by
    rw [List.nil_append,List.nil_append,show 0 + 40 = (t.1.flatMap ck.C).length + 0 from by rw [hfl],qz]; rfl
   have s4:aF [blk b pV ([]++(t.1.flatMap ck.C++[Value.int .i64 (IntKind.i64.wrap (t.2 + 1))]))] h3:=by rw [← ew]; exact s3
   have hcell2:([]++(t.1.flatMap ck.C++[Value.int .i64 (IntKind.i64.wrap (t.2 + 1))]))[0 + 40]? = some (.int .i64 (IntKind.i64.wrap (t.2 + 1))):=by
    rw [List.nil_append,List.getElem?_append_right (by omega),hfl]; rfl
   refine bk (IntKind.i64.wrap (t.2 + 1)) s4 (i:=0) rfl rfl hcell2 ?_
   refine cD ?_
   refine st_a (j:=0) (i:=n) (k:=0) (⟨a,IntKind.i64.wrap (t.2 + 1)⟩:TL) ju s4 rfl (by simp) (aH hn') (by simp [ju]) rfl fun h5 s5=>?_
   subst hn
   exact aX rfl (uJ (t:=(t.1.set (Tlb.place t.1 a) ⟨a,IntKind.i64.wrap (t.2 + 1)⟩,IntKind.i64.wrap (t.2 + 1))) (by simpa using hb) s5)
  refine cQ [0] (sp_tlb_at b t a.fCa a.fOa hb) s0 rfl fun r h' s1=>?_
  obtain ⟨hr,s2⟩:=bt.1 s1
  cases ho:Tlb.at_ t.1 a.fCa a.fOa with
  | none =>
   rw [ho] at hr; subst hr
   refine dL rfl ?_
   obtain ⟨q,hq,hq4⟩:=tmod4 (p:=a.fOa) (by unfold Tlb.bad at k'; omega)
   rw [hq]
   refine cQ [0] (sp_tlb_room b t q hq4 hb) s2 rfl fun r h' s3=>?_
   obtain ⟨hr,s4⟩:=bt.1 s3
   subst hr
   have hp:Tlb.room t.1 (q * 2) = Tlb.place t.1 a:=by unfold Tlb.place; rw [ho,hq,Int.toNat_natCast]
   exact fin _ _ hp (by have:=room_lt t.1 (q * 2); omega) s4
  | some n =>
   rw [ho] at hr; subst hr
   refine dn rfl ?_
   exact fin _ _ (by unfold Tlb.place; rw [ho]) (Tlb.at_lt ho) s2
theorem tlb_clear_take (ls:List TL) (n:Nat) (hn:n < ls.length):(((ls.take n).map Tlb.clr)++ls.drop n).set n (Tlb.clr ls[n]) = ((ls.take (n + 1)).map Tlb.clr)++ls.drop (n + 1):=by
 have h1:ls.drop n = ls[n]::ls.drop (n + 1):=List.drop_eq_getElem_cons hn
 have h2:ls.take (n + 1) = ls.take n++[ls[n]]:=by simp
 rw [h2,List.map_append,List.set_append_right _ _ (by simp; omega)]
 have:n - ((ls.take n).map Tlb.clr).length = 0:=by simp; omega
 rw [this,h1,List.append_assoc]
 rfl
theorem sp_tlb_Clear (x:Ptr) (t:List TL × Int):Sp prog rl [pv x] R_ [fF x t] (fun _=>aF [fF x (Tlb.clear t)]):=by
 intro h s0
 obtain ⟨b,rfl,hb,st⟩:=oh s0
 refine sim_tlb_Tlb_Clear _ ?_
 unfold vr
 refine dn rfl ?_
 have mid:∀ n:Nat,n <= 8->((((t.1.take n).map Tlb.clr)++t.1.drop n)).length = 8:=by intro n hn; simp; omega
 refine Lp.intro (fun (i:Int) h=>∃ n:Nat,i = n/\n <= 4/\aF [fF (some (b,0)) (((t.1.take (n * 2)).map Tlb.clr)++t.1.drop (n * 2),t.2)] h) (fun (i:Int) _=>4 - i.toNat) ⟨0,rfl,by omega,by simpa using uJ hb st⟩ ?_
 rintro i h ⟨n,rfl,hn,s1⟩
 unfold pU
 refine aY (fun k=>?_) (fun k=>?_)
 ·have hlt:n < 4:=by have:=of_decide_eq_true k; omega
  refine Lp.intro (fun (j:Int) h=>∃ m:Nat,j = m/\m <= 2/\aF [fF (some (b,0)) (((t.1.take (n * 2 + m)).map Tlb.clr)++t.1.drop (n * 2 + m),t.2)] h) (fun (j:Int) _=>2 - j.toNat) ⟨0,rfl,by omega,s1⟩ ?_
  rintro j h ⟨m,rfl,hm,s2⟩
  unfold pT
  refine aY (fun k2=>?_) (fun k2=>?_)
  ·have hlt2:m < 2:=by have:=of_decide_eq_true k2; omega
   have hw:IntKind.i64.wrap ((m:Int) + 1) = ((m + 1:Nat):Int):=by rw [bM (by omega) (by omega)]; rfl
   have hi:n * 2 + m < t.1.length:=by omega
   obtain ⟨b',hb',_,s3⟩:=oh s2
   cases hb'
   refine cD ⟨⟨by omega,by omega⟩,⟨by omega,by omega⟩,?_⟩
   have hget:(((t.1.take (n * 2 + m)).map Tlb.clr)++t.1.drop (n * 2 + m))[n * 2 + m]? = some t.1[n * 2 + m]:=by
    rw [List.getElem?_append_right (by simp; omega)]
    have:n * 2 + m - ((t.1.take (n * 2 + m)).map Tlb.clr).length = 0:=by simp; omega
    rw [this,List.getElem?_drop]
    exact aH hi
   refine st_a (j:=0) (i:=n * 2 + m) (k:=0) (Tlb.clr t.1[n * 2 + m]) ju s3 rfl (by simp; omega) hget (by simp [am.C]) rfl fun h2 s4=>?_
   rw [hw]
   refine ⟨⟨m + 1,rfl,hlt2,?_⟩,by simp; omega⟩
   have:=tlb_clear_take t.1 (n * 2 + m) hi
   have s5:=uJ (t:=((((t.1.take (n * 2 + m)).map Tlb.clr)++t.1.drop (n * 2 + m)).set (n * 2 + m) (Tlb.clr t.1[n * 2 + m]),t.2)) (by simp; omega) s4
   rw [this] at s5
   exact s5
  ·have hm2:m = 2:=by have:=of_decide_eq_false k2; omega
   subst hm2
   have hw:IntKind.i64.wrap ((n:Int) + 1) = ((n + 1:Nat):Int):=by rw [bM (by omega) (by omega)]; rfl
   rw [hw]
   exact ⟨⟨n + 1,rfl,hlt,by rw [show (n + 1) * 2 = n * 2 + 2 from by omega]; exact s2⟩,by simp; omega⟩
 ·have hn4:n = 4:=by have:=of_decide_eq_false k; omega
  subst hn4
  have e:(((t.1.take (4 * 2)).map Tlb.clr)++t.1.drop (4 * 2),t.2) = Tlb.clear t:=by
   unfold Tlb.clear
   rw [show 4 * 2 = t.1.length from by rw [hb],List.take_length,List.drop_length,List.append_nil]
  rw [e] at s1
  exact s1
theorem tlb_new_run (K:Value->Hp->Prop) (h:Hp):hp prog (Instr.build pV #[]) K h = K (.agg (((List.replicate 8 Tlb.line0).flatMap ck.C++[Value.int .i64 0])).toArray) h:=by kernel_rfl
abbrev tlb0:List TL × Int:=(List.replicate 8 ⟨⟨-1,0,0,0⟩,0⟩,0)
theorem wx:Sp prog iE [] gH [] (fun r=>aF [fF r tlb0]):=by
 intro h st
 refine sim_tlb_New ?_
 unfold sh_tlb_New
 refine ⟨?_⟩
 rw [tlb_new_run]
 refine ⟨_,rfl,?_⟩
 refine pw st fun b h' s1=>?_
 have s2:=uJ (t:=(List.replicate 8 Tlb.line0,0)) rfl s1
 refine cQ [0] (sp_tlb_Clear (some (b,0)) _) s2 rfl fun r h' s3=>?_
 exact dB s3
abbrev vL (s:Sl) (xs:List am):As:=vec t_api_Line 4 am.C s xs
theorem line_len (p:am):p.C.length = 4:=rfl
theorem line_one (p:am):dI p.C = true:=rfl
def Tlb.lines (t:List TL × Int):List am:=t.1.map (·.fl)
theorem sp_tlb_Lines (x:Ptr) (t:List TL × Int):Sp prog rj [pv x] rd [fF x t] (fun r=>aF [vL r (Tlb.lines t),fF x t]):=by
 intro h s0
 obtain ⟨b,rfl,hb,st⟩:=oh s0
 refine sim_tlb_Tlb_Lines _ ?_
 unfold vp
 refine dn rfl ?_
 refine Lp.intro (fun (z:Sl × Int) h=>∃ n:Nat,z.2 = n/\n <= 4/\aF [vL z.1 ((t.1.take (n * 2)).map (·.fl)),fF (some (b,0)) t] h) (fun (z:Sl × Int) _=>4 - z.2.toNat) ⟨0,rfl,by omega,fN (uJ hb st)⟩ ?_
 rintro ⟨z,i⟩ h ⟨n,rfl,hn,s1⟩
 unfold pS
 refine aY (fun k=>?_) (fun k=>?_)
 ·have hlt:n < 4:=by have:=of_decide_eq_true k; omega
  have h0:n * 2 < t.1.length:=by omega
  have h1:n * 2 + 1 < t.1.length:=by omega
  obtain ⟨b',hb',_,s2⟩:=oh (bd [1] s1 rfl)
  cases hb'
  refine cD ⟨⟨by omega,by omega⟩,?_⟩
  refine ld_s (⟨t.1[n * 2],t.1[n * 2 + 1]⟩:jf) s2 (i:=0) rfl ?_ ?_
  ·intro j v hv
   have hfl:(t.1.flatMap ck.C).length = 40:=by rw [dZ ju,hb]
   have hsp:jf.C ⟨t.1[n * 2],t.1[n * 2 + 1]⟩ = (t.1[n * 2]).C++(t.1[n * 2 + 1]).C:=rfl
   rw [hsp] at hv
   have hj:j < 10:=by have:=(List.getElem?_eq_some_iff.1 hv).1; simpa [ju] using this
   have key:(t.1.flatMap ck.C)[n * 10 + j]? = some v:=by
    by_cases h5:j < 5
    ·rw [List.getElem?_append_left (by simpa [ju] using h5)] at hv
     have:=tw ju t.1 (n * 2) j _ v (aH h0) hv
     rw [show n * 10 + j = n * 2 * 5 + j from by omega]; exact this
    ·rw [List.getElem?_append_right (by simp [ju]; omega),ju] at hv
     have:=tw ju t.1 (n * 2 + 1) (j - 5) _ v (aH h1) hv
     rw [show n * 10 + j = (n * 2 + 1) * 5 + (j - 5) from by omega]; exact this
   have hlt':=(List.getElem?_eq_some_iff.1 key).1
   rw [List.nil_append,show (b,0).2 + 0 + (n:Int).toNat * 10 + j = n * 10 + j from by simp,List.getElem?_append_left hlt']
   exact key
  ·refine Lp.intro (fun (z:Sl × Int) h=>∃ m:Nat,z.2 = m/\m <= 2/\aF [vL z.1 ((t.1.take (n * 2 + m)).map (·.fl)),fF (some (b,0)) t] h) (fun (z:Sl × Int) _=>2 - z.2.toNat) ⟨0,rfl,by omega,s1⟩ ?_
   rintro ⟨y,j⟩ h ⟨m,rfl,hm,s3⟩
   unfold pR
   refine aY (fun k2=>?_) (fun k2=>?_)
   ·have hlt2:m < 2:=by have:=of_decide_eq_true k2; omega
    have hw:IntKind.i64.wrap ((m:Int) + 1) = ((m + 1:Nat):Int):=by rw [bM (by omega) (by omega)]; rfl
    have hi:n * 2 + m < t.1.length:=by omega
    have hget:[t.1[n * 2],t.1[n * 2 + 1]][m]? = some t.1[n * 2 + m]:=by
     have:m = 0\/m = 1:=by omega
     rcases this with rfl | rfl <;> rfl
    refine index_v (enc:=ck.C) (m:=5) (xs:=[t.1[n * 2],t.1[n * 2 + 1]]) arn_2_tlb_line age_2_tlb_line ju (fun _=>rfl) rfl hget ?_
    have hlen:(((t.1.take (n * 2 + m)).map (·.fl)):List am).length <= 8:=by simp; omega
    refine kC (τ:=am) (i:=0) (enc:=am.C) (val:=fun x=>.agg x.C.toArray) el_Sapi_Line line_len line_one (fun _=>rfl) (by omega) rfl rfl s3 rfl (by omega) (by omega) fun v h' s4=>?_
    rw [hw]
    refine ⟨⟨m + 1,rfl,hlt2,?_⟩,by simp; omega⟩
    have ht:t.1.take (n * 2 + (m + 1)) = t.1.take (n * 2 + m)++[t.1[n * 2 + m]]:=by rw [← Nat.add_assoc]; simp
    rw [ht,List.map_append]
    exact s4
   ·have hm2:m = 2:=by have:=of_decide_eq_false k2; omega
    subst hm2
    have hw:IntKind.i64.wrap ((n:Int) + 1) = ((n + 1:Nat):Int):=by rw [bM (by omega) (by omega)]; rfl
    rw [hw]
    exact ⟨⟨n + 1,rfl,hlt,by rw [show (n + 1) * 2 = n * 2 + 2 from by omega]; exact s3⟩,by simp; omega⟩
 ·have hn4:n = 4:=by have:=of_decide_eq_false k; omega
  subst hn4
  rw [show t.1.take (4 * 2) = t.1 from by rw [show 4 * 2 = t.1.length from by rw [hb]]; exact List.take_length] at s1
  exact s1
end
section
open Go Mb
set_option linter.unusedVariables false
def sh_user_Walk (a0:Ptr) (a1:Ptr) (a2:Int) (a3:Int) (a4:Int) (K:(am × Bool)->Hp->Prop):Hp->Prop:=cl prog oN [(pv a0),(.int .i64 a2),(.int .i64 a3)] fI fun r21=>br (r21.2 && (ct r21.1.fBa a4)) ( K (r21.1,true)) ( cl prog eV [(pv a1),(.int .i64 a3)] cA fun r35=>br (!(ct r35.1.fBa a4)) ( cl prog nh [(pv a0),(.int .i64 a2),(.int .i64 a3)] aC fun r46=>K ((⟨0,0,0,0⟩:am),false)) ( cl prog oO [(pv a0),(.agg (am.C (⟨a2,a3,r35.1.fEa,r35.1.fBa⟩:am)).toArray)] aC fun r57=>K ((⟨a2,a3,r35.1.fEa,r35.1.fBa⟩:am),true)))
theorem sim_user_Walk (a0:Ptr) (a1:Ptr) (a2:Int) (a3:Int) (a4:Int) {K:(am × Bool)->Hp->Prop} {h:Hp} (H:sh_user_Walk a0 a1 a2 a3 a4 K h):Ct prog uu #[(pv a0),(pv a1),(.int .i64 a2),(.int .i64 a3),(.int .i64 a4)] h fun v h'=>∃ r,v = fI r/\K r h':=ay [(pv a0),(pv a1),(.int .i64 a2),(.int .i64 a3),(.int .i64 a4)] func113 c c c fun _=>M<|aa<|aM (l:=am.C (⟨0,0,0,0⟩:am)) kS c c fun b10=>O c<|al<|M<|J c<|J c<|J c<|aa<|Z H en_157 fun r21 _ H1=>J c<|p (ak c c)<|p (ak c c)<|aa<|aM (l:=am.C (⟨0,0,0,0⟩:am)) kS c c fun b12=>aa<|aP (k:=0) (vs:=am.C r21.1) fK c c c c c c c<|O c<|M<|J c<|J c<|V c c (aB _) (fun g2=>wv<|ae qY c)<|V c c (aB _) (fun g3=>cv<|bf (k:=0) aZ (aD c g3) c c)<|V c c (aB _) (fun g4=>wv<|ah c)<|cZ (vs:=[(.int .i64 r21.1.fBa),(.int .i64 a4)]) c c c (aB _) (fun g5=>bz<|jO r21.1.fBa a4 _) en_158 (fun g5=>aS (aD c g5)<|aS (aD c g5) bR) c<|p (bT c c)<|ad<|aw c H1 (fun k6 H7=>M<|bh (bF (k:=0) hH c c c c) c<|aa<|aP (k:=1) (vs:=am.C r21.1) fK c c c c c c c<|O c<|aj<|bv (bN c (bC (k:=1) c hH c c)<|cc c) ⟨(r21.1,true),c,H7⟩) fun k6 H7=>ao<|M<|J c<|J c<|aa<|Z H7 en_135 fun r35 _ H8=>J c<|p (ak c c)<|p (ak c c)<|aa<|aM (l:=an.C (⟨0,0,0⟩:an)) ga c c fun b14=>aa<|aP (k:=0) (vs:=an.C r35.1) dP c c c c c c c<|O c<|al<|M<|p (ae eM c)<|bh (bf (k:=0) aZ c c c) c<|J c<|aa<|cK (vs:=[(.int .i64 r35.1.fBa),(.int .i64 a4)]) (bz<|jO r35.1.fBa a4 _) en_158 c c<|p (cr c)<|ad<|aw c H8 (fun k9 H10=>M<|J c<|J c<|J c<|aa<|Z H10 en_117 fun r46 _ H11=>ad<|M<|p (ba (vs:=[]) c lN)<|aa<|aP (k:=2) (vs:=am.C (⟨0,0,0,0⟩:am)) fK c c c c c c c<|O c<|aj<|bv (bN c (bC (k:=2) c hH c c)<|cc c) ⟨((⟨0,0,0,0⟩:am),false),c,H11⟩) fun k9 H10=>ao<|M<|J c<|J c<|p (ae qV c)<|bh (bf (k:=0) aZ c c c) c<|p (ae eM c)<|bh (bf (k:=0) aZ c c c) c<|p (ba c<|wj a2 a3 r35.1.fEa r35.1.fBa)<|aa<|aM (l:=am.C (⟨0,0,0,0⟩:am)) kS c c fun b16=>aa<|aP (k:=0) (vs:=am.C (⟨a2,a3,r35.1.fEa,r35.1.fBa⟩:am)) fK c c c c c c c<|ad<|M<|J c<|bh (bF (k:=0) hH c c c c) c<|aa<|Z H10 en_159 fun r57 _ H12=>ad<|M<|bh (bF (k:=0) hH c c c c) c<|aa<|aP (k:=3) (vs:=am.C (⟨a2,a3,r35.1.fEa,r35.1.fBa⟩:am)) fK c c c c c c c<|O c<|aj<|bv (bN c (bC (k:=3) c hH c c)<|cc c) ⟨((⟨a2,a3,r35.1.fEa,r35.1.fBa⟩:am),true),c,H12⟩
def sh_user_touch (a0:Ptr) (a1:Int) (a2:ai) (K:ab->Hp->Prop):Hp->Prop:=br ((IntKind.i64.wrap a2.e0) == 20) ( cl prog ii [(pv a0),(.int .i64 a1),(.int .i64 (IntKind.i64.wrap a2.e2))] bK fun r21=>K (⟨0,r21.1⟩:ab)) ( br ((IntKind.i64.wrap a2.e0) == 21) ( cl prog fE [(pv a0),(.int .i64 a1),(.int .i64 (IntKind.i64.wrap a2.e2)),(.int .u64 a2.e3)] aC fun r31=>K (⟨0,0⟩:ab)) ( br ((IntKind.i64.wrap a2.e0) == 22) ( cl prog qp [(pv a0),(.int .i64 a1),(.int .i64 (IntKind.i64.wrap a2.e2)),(.int .u64 a2.e3),(.int .u64 a2.e4)] bK fun r42=>K (⟨0,r42.1⟩:ab)) ( br ((IntKind.i64.wrap a2.e0) == 23) ( cl prog qr [(pv a0),(.int .i64 a1),(.int .i64 (IntKind.i64.wrap a2.e2)),(.int .u64 a2.e3)] bK fun r53=>K (⟨0,r53.1⟩:ab)) ( K (⟨0,0⟩:ab)))))
theorem sim_user_touch (a0:Ptr) (a1:Int) (a2:ai) {K:ab->Hp->Prop} {h:Hp} (H:sh_user_touch a0 a1 a2 K h):Ct prog xf #[(pv a0),(.int .i64 a1),(.agg (ai.C a2).toArray)] h fun v h'=>∃ r,v = eA r/\K r h':=ay [(pv a0),(.int .i64 a1),(.agg (ai.C a2).toArray)] func185 c c c fun _=>M<|aa<|cO (l:=ai.C a2) c c c fun b5=>aa<|aM (l:=ab.C (⟨0,0⟩:ab)) de c c fun b6=>ad<|M<|p (bB di c c (by decide))<|bh (bf (k:=1) cy c c c) c<|p (dT ⟨_,underlying22⟩ underlying3 c)<|O c<|M<|O c<|al<|M<|p (bB di c c (by decide))<|bh (bf (k:=1) cy c c c) c<|p (dT ⟨_,underlying22⟩ underlying3 c)<|ad<|aA<|M<|p (bQ c c)<|O c<|aw c H (fun k1 H2=>ap<|J c<|J c<|J c<|aa<|Z H2 en_161 fun r21 _ H3=>J c<|p (ak c c)<|p (ak c c)<|O c<|M<|J c<|p (ba c<|ki r21.1)<|aa<|aP (k:=0) (vs:=ab.C (⟨0,r21.1⟩:ab)) bO c c c c c c c<|ad<|aj<|bv (my c<|bC (k:=0) c cE c c) ⟨(⟨0,r21.1⟩:ab),c,H3⟩) fun k1 H2=>M<|p (bQ c c)<|O c<|aw c H2 (fun k4 H5=>ap<|J c<|J c<|J c<|p (bB di c c (by decide))<|bh (bf (k:=1) cy c c c) c<|aa<|Z H5 en_162 fun r31 _ H6=>ad<|M<|J c<|p (ba c<|ki 0)<|aa<|aP (k:=0) (vs:=ab.C (⟨0,0⟩:ab)) bO c c c c c c c<|ad<|aj<|bv (my c<|bC (k:=0) c cE c c) ⟨(⟨0,0⟩:ab),c,H6⟩) fun k4 H5=>M<|p (bQ c c)<|O c<|aw c H5 (fun k7 H8=>ap<|J c<|J c<|J c<|p (bB di c c (by decide))<|bh (bf (k:=1) cy c c c) c<|p (bB di c c (by decide))<|bh (bf (k:=1) cy c c c) c<|aa<|Z H8 en_163 fun r42 _ H9=>J c<|p (ak c c)<|p (ak c c)<|O c<|M<|J c<|p (ba c<|ki r42.1)<|aa<|aP (k:=0) (vs:=ab.C (⟨0,r42.1⟩:ab)) bO c c c c c c c<|ad<|aj<|bv (my c<|bC (k:=0) c cE c c) ⟨(⟨0,r42.1⟩:ab),c,H9⟩) fun k7 H8=>M<|p (bQ c c)<|O c<|aw c H8 (fun k10 H11=>ap<|J c<|J c<|J c<|p (bB di c c (by decide))<|bh (bf (k:=1) cy c c c) c<|aa<|Z H11 en_164 fun r53 _ H12=>J c<|p (ak c c)<|p (ak c c)<|O c<|M<|J c<|p (ba c<|ki r53.1)<|aa<|aP (k:=0) (vs:=ab.C (⟨0,r53.1⟩:ab)) bO c c c c c c c<|ad<|aj<|bv (my c<|bC (k:=0) c cE c c) ⟨(⟨0,r53.1⟩:ab),c,H12⟩) fun k10 H11=>ao<|M<|J c<|p (ba c<|ki 0)<|aa<|aP (k:=0) (vs:=ab.C (⟨0,0⟩:ab)) bO c c c c c c c<|ad<|aj<|bv (my c<|bC (k:=0) c cE c c) ⟨(⟨0,0⟩:ab),c,H11⟩
def pQ (a0:Ptr) (a1:Ptr) (a2:Ptr) (a3:Int) (a4:ai) (K:(ab × am)->Hp->Prop) (s2:Int):Hp->Prop:=br (s2 != 0) ( K ((⟨s2,0⟩:ab),(⟨0,0,0,0⟩:am))) ( cl prog uu [(pv a0),(pv a1),(.int .i64 a3),(.int .i64 (IntKind.i64.wrap a4.e1)),(.int .i64 ((az a4).1))] fI fun r48=>br (!r48.2) ( K ((⟨7,0⟩:ab),(⟨0,0,0,0⟩:am))) ( cl prog xf [(pv a2),(.int .i64 r48.1.fEa),(.agg (ai.C a4).toArray)] eA fun r59=>K (r59,r48.1)))
def sh_user_Do (a0:Ptr) (a1:Ptr) (a2:Ptr) (a3:Int) (a4:ai) (K:(ab × am)->Hp->Prop):Hp->Prop:=cl prog gS [(.agg (ai.C a4).toArray),(.int .i64 4)] bc fun r18=>br ((decide (a3 < 0)) || (decide (a3 >= 4))) ( pQ a0 a1 a2 a3 a4 K 10) ( br (!(bA ((az a4).1))) ( pQ a0 a1 a2 a3 a4 K 1) ( pQ a0 a1 a2 a3 a4 K r18))
theorem sim_user_Do (a0:Ptr) (a1:Ptr) (a2:Ptr) (a3:Int) (a4:ai) {K:(ab × am)->Hp->Prop} {h:Hp} (H:sh_user_Do a0 a1 a2 a3 a4 K h):Ct prog n_user_Do #[(pv a0),(pv a1),(pv a2),(.int .i64 a3),(.agg (ai.C a4).toArray)] h fun v h'=>∃ r,v = eK r/\K r h':=ay [(pv a0),(pv a1),(pv a2),(.int .i64 a3),(.agg (ai.C a4).toArray)] func144 c c c fun _=>M<|aa<|cO (l:=ai.C a4) c c c fun b9=>aa<|aM (l:=ab.C (⟨0,0⟩:ab)) de c c fun b10=>aa<|aM (l:=am.C (⟨0,0,0,0⟩:am)) kS c c fun b11=>ad<|M<|bh (bF (k:=2) fz c c c c) c<|aa<|Z H en_110 fun r18 _ H1=>O c<|M<|bh (bF (k:=2) fz c c c c) c<|aa<|cK (vs:=[(.agg (ai.C a4).toArray)]) (bz<|kg a4 _) en_63 c c<|J c<|p (ak c c)<|p (ak c c)<|p (au c)<|O c<|eG (pQ a0 a1 a2 a3 a4 K) (fun s2=>[(0,(pv a0)),(1,(pv a1)),(2,(pv a2)),(3,(.int .i64 a3)),(9,(.pointer (some ⟨b9,0,none⟩))),(10,(.pointer (some ⟨b10,0,none⟩))),(11,(.pointer (some ⟨b11,0,none⟩))),(12,(.int .i64 s2)),(13,(.int .i64 ((az a4).1)))]) (fun s2=>[bx b11 54 (am.C (⟨0,0,0,0⟩:am)),bx b10 30 (ab.C (⟨0,0⟩:ab)),bx b9 34 (ai.C a4)]) (aA<|M<|J c<|p (cx c c)<|J c<|V c c (aL _) (fun g10=>wv<|ah c)<|V c c (aL _) (fun g11=>wv<|jJ (aD c g11) c)<|p (dp c c)<|O c<|aw c H1 (fun k12 H13=>ap<|O c<|cM 10 H13 (.cons c<|.cons c<|.cons c<|.cons c<|.cons c<|.cons c<|.cons c<|.cons c<|.cons c<|.nil _)<|.cons_cons _<|.cons_cons _<|.cons_cons _ .slnil) fun k12 H13=>M<|J c<|aa<|cK (vs:=[(.int .i64 ((az a4).1))]) (bz<|su (az a4).1 _) en_64 c c<|p (cr c)<|O c<|aw c H13 (fun k14 H15=>ap<|O c<|cM 1 H15 (.cons c<|.cons c<|.cons c<|.cons c<|.cons c<|.cons c<|.cons c<|.cons c<|.cons c<|.nil _)<|.cons_cons _<|.cons_cons _<|.cons_cons _ .slnil) fun k14 H15=>ao<|cM r18 H15 (.cons c<|.cons c<|.cons c<|.cons c<|.cons c<|.cons c<|.cons c<|.cons c<|.cons c<|.nil _)<|.cons_cons _<|.cons_cons _<|.cons_cons _ .slnil) fun s2 _ H3=>al<|M<|J c<|p (pt c c)<|ad<|aw c H3 (fun k4 H5=>M<|J c<|p (ba c<|jl s2)<|p (ba (vs:=[]) c lN)<|aa<|aP (k:=1) (vs:=ab.C (⟨s2,0⟩:ab)) bO c c c c c c c<|aa<|aP (k:=0) (vs:=am.C (⟨0,0,0,0⟩:am)) fK c c c c c c c<|ad<|aj<|bv (bN c (bC (k:=1) c cE c c)<|bC (k:=0) c hH c c) ⟨((⟨s2,0⟩:ab),(⟨0,0,0,0⟩:am)),c,H5⟩) fun k4 H5=>ao<|M<|J c<|J c<|J c<|p (bB di c c (by decide))<|bh (bf (k:=2) cy c c c) c<|p (dT ⟨_,underlying22⟩ underlying3 c)<|J c<|aa<|Z H5 en_113 fun r48 _ H6=>J c<|p (ak c c)<|p (ak c c)<|aa<|aM (l:=am.C (⟨0,0,0,0⟩:am)) kS c c fun b15=>aa<|aP (k:=0) (vs:=am.C r48.1) fK c c c c c c c<|O c<|al<|M<|J c<|p (cr c)<|ad<|aw c H6 (fun k7 H8=>M<|p (ba c<|jl 7)<|p (ba (vs:=[]) c lN)<|aa<|aP (k:=2) (vs:=ab.C (⟨7,0⟩:ab)) bO c c c c c c c<|aa<|aP (k:=1) (vs:=am.C (⟨0,0,0,0⟩:am)) fK c c c c c c c<|ad<|aj<|bv (bN c (bC (k:=2) c cE c c)<|bC (k:=1) c hH c c) ⟨((⟨7,0⟩:ab),(⟨0,0,0,0⟩:am)),c,H8⟩) fun k7 H8=>ao<|al<|bn (n:=8) [bx b15 54 (am.C r48.1),bx b9 34 (ai.C a4)] cu c (.cons_cons _<|.cons _<|.cons _<|.cons_cons _ .slnil)<|U 0 c (ah c)<|U 1 c (ae lJ c)<|z_E 2 c (dk (k:=0) aZ c c c)<|z_E 3 c (eo (k:=1) fz c c c c)<|z_E 5 c (eo (k:=0) hH c c c c)<|G 4 c<|Z H8 en_185 fun r59 _ H9=>⟨.cons_cons _<|.cons _<|.cons _<|.cons_cons _ .slnil,G 6 c<|aP (k:=2) (vs:=ab.C r59) bO c c c c c c c ⟨.cons_cons _<|.cons _<|.cons _<|.cons_cons _ .slnil,G 7 c<|aP (k:=1) (vs:=am.C r48.1) fK c c c c c c c ⟨.cons_cons _<|.cons _<|.cons _<|.cons_cons _ .slnil,aV (by kernel_rfl)<|aj<|bv (bN c (bC (k:=2) c cE c c)<|bC (k:=1) c hH c c) ⟨(r59,r48.1),c,H9⟩⟩⟩⟩
end
section
open Go Mb
abbrev jn:=am
abbrev Buf:=List TL × Int
abbrev iB:jn:=⟨0,0,0,0⟩
namespace User
def walk (b:Buf) (t:List Pte) (e pg kind:Int):(jn × Bool) × Buf :=
 if (Tlb.find b.1 e pg).2 = true/\ct (Tlb.find b.1 e pg).1.fBa kind = true then (((Tlb.find b.1 e pg).1,true),b)
 else if ct (Table.get t pg).1.fBa kind = false then ((iB,false),(Tlb.flush b e pg).2)
 else ((⟨e,pg,(Table.get t pg).1.fEa,(Table.get t pg).1.fBa⟩,true),(Tlb.fill b ⟨e,pg,(Table.get t pg).1.fEa,(Table.get t pg).1.fBa⟩).2)
def touch (m:List (List Int)) (f:Int) (c:da):ab × List (List Int) :=
 if IntKind.i64.wrap c.e0 = 20 then (⟨0,(Mem.load m f (IntKind.i64.wrap c.e2)).1⟩,m)
 else if IntKind.i64.wrap c.e0 = 21 then (⟨0,0⟩,(Mem.store m f (IntKind.i64.wrap c.e2) c.e3).2)
 else if IntKind.i64.wrap c.e0 = 22 then (⟨0,(Mem.cas m f (IntKind.i64.wrap c.e2) c.e3 c.e4).1.1⟩,(Mem.cas m f (IntKind.i64.wrap c.e2) c.e3 c.e4).2)
 else if IntKind.i64.wrap c.e0 = 23 then (⟨0,(Mem.add m f (IntKind.i64.wrap c.e2) c.e3).1.1⟩,(Mem.add m f (IntKind.i64.wrap c.e2) c.e3).2)
 else (⟨0,0⟩,m)
def bad (e:Int) (c:da):Int:=if e < 0\/e >= 4 then 10 else if bA (az c).1 = false then 1 else Word.check c 4
def do_ (b:Buf) (t:List Pte) (m:List (List Int)) (e:Int) (c:da):(ab × jn) × Buf × List (List Int) :=
 if bad e c ≠ 0 then ((⟨bad e c,0⟩,iB),b,m)
 else if (walk b t e (IntKind.i64.wrap c.e1) (az c).1).1.2 = false then ((⟨7,0⟩,iB),(walk b t e (IntKind.i64.wrap c.e1) (az c).1).2,m)
 else (((touch m (walk b t e (IntKind.i64.wrap c.e1) (az c).1).1.1.fEa c).1,(walk b t e (IntKind.i64.wrap c.e1) (az c).1).1.1),(walk b t e (IntKind.i64.wrap c.e1) (az c).1).2,(touch m (walk b t e (IntKind.i64.wrap c.e1) (az c).1).1.1.fEa c).2)
end User
theorem sp_user_Walk (x y:Ptr) (b:Buf) (t:List Pte) (e pg kind:Int):Sp prog uu [pv x,pv y,.int .i64 e,.int .i64 pg,.int .i64 kind] fI [fF x b,cX y t] (fun r=>pa_ (r = (User.walk b t e pg kind).1) [fF x (User.walk b t e pg kind).2,cX y t]):=by
 intro h s0
 refine sim_user_Walk _ _ _ _ _ ?_
 unfold sh_user_Walk
 refine bP (sp_tlb_Find x b e pg) (i:=0) rfl s0 fun r h1 hr s1=>?_
 subst hr
 refine aY (fun k=>?_) (fun k=>?_)
 ·have k':(Tlb.find b.1 e pg).2 = true/\ct (Tlb.find b.1 e pg).1.fBa kind = true:=by simpa using k
  have e1:User.walk b t e pg kind = (((Tlb.find b.1 e pg).1,true),b):=if_pos k'
  rw [e1]; exact aX rfl s1
 ·have k':¬ ((Tlb.find b.1 e pg).2 = true/\ct (Tlb.find b.1 e pg).1.fBa kind = true):=by simpa using k
  refine bP (nK y t pg) (i:=1) rfl s1 fun r h2 hr s2=>?_
  subst hr
  refine aY (fun k2=>?_) (fun k2=>?_)
  ·have e1:User.walk b t e pg kind = ((iB,false),(Tlb.flush b e pg).2):=by unfold User.walk; rw [if_neg k',if_pos (by simpa using k2)]
   rw [e1]
   exact bP (sp_tlb_Flush x b e pg) (i:=0) rfl s2 fun r h3 hr s3=>aX rfl s3
  ·have e1:User.walk b t e pg kind = ((⟨e,pg,(Table.get t pg).1.fEa,(Table.get t pg).1.fBa⟩,true),(Tlb.fill b ⟨e,pg,(Table.get t pg).1.fEa,(Table.get t pg).1.fBa⟩).2):=by unfold User.walk; rw [if_neg k',if_neg (by simpa using k2)]
   rw [e1]
   exact bP (sp_tlb_Fill x b ⟨e,pg,(Table.get t pg).1.fEa,(Table.get t pg).1.fBa⟩) (i:=0) rfl s2 fun r h3 hr s3=>aX rfl s3
theorem sp_user_touch (x:Ptr) (m:List (List Int)) (f:Int) (c:da):Sp prog xf [pv x,.int .i64 f,.agg c.C.toArray] eA [iq x m] (fun r=>pa_ (r = (User.touch m f c).1) [iq x (User.touch m f c).2]):=by
 intro h s0
 refine sim_user_touch _ _ _ ?_
 unfold sh_user_touch
 refine aY (fun k=>?_) (fun k=>?_)
 ·have e1:User.touch m f c = (⟨0,(Mem.load m f (IntKind.i64.wrap c.e2)).1⟩,m):=if_pos (by simpa using k)
  rw [e1]
  exact bP (qI x m f _) (i:=0) rfl s0 fun r h1 hr s1=>aX (by rw [hr]) s1
 refine aY (fun k2=>?_) (fun k2=>?_)
 ·have e1:User.touch m f c = (⟨0,0⟩,(Mem.store m f (IntKind.i64.wrap c.e2) c.e3).2):=by unfold User.touch; rw [if_neg (by simpa using k),if_pos (by simpa using k2)]
  rw [e1]
  exact bP (lR x m f _ _) (i:=0) rfl s0 fun r h1 hr s1=>aX rfl s1
 refine aY (fun k3=>?_) (fun k3=>?_)
 ·have e1:User.touch m f c = (⟨0,(Mem.cas m f (IntKind.i64.wrap c.e2) c.e3 c.e4).1.1⟩,(Mem.cas m f (IntKind.i64.wrap c.e2) c.e3 c.e4).2):=by unfold User.touch; rw [if_neg (by simpa using k),if_neg (by simpa using k2),if_pos (by simpa using k3)]
  rw [e1]
  exact bP (sp_mem_Cas x m f _ _ _) (i:=0) rfl s0 fun r h1 hr s1=>aX (by rw [hr]) s1
 refine aY (fun k4=>?_) (fun k4=>?_)
 ·have e1:User.touch m f c = (⟨0,(Mem.add m f (IntKind.i64.wrap c.e2) c.e3).1.1⟩,(Mem.add m f (IntKind.i64.wrap c.e2) c.e3).2):=by unfold User.touch; rw [if_neg (by simpa using k),if_neg (by simpa using k2),if_neg (by simpa using k3),if_pos (by simpa using k4)]
  rw [e1]
  exact bP (sp_mem_Add x m f _ _) (i:=0) rfl s0 fun r h1 hr s1=>aX (by rw [hr]) s1
 have e1:User.touch m f c = (⟨0,0⟩,m):=by unfold User.touch; rw [if_neg (by simpa using k),if_neg (by simpa using k2),if_neg (by simpa using k3),if_neg (by simpa using k4)]
 rw [e1]
 exact aX rfl s0
theorem sp_user_Do (x y z:Ptr) (b:Buf) (t:List Pte) (m:List (List Int)) (e:Int) (c:da):Sp prog n_user_Do [pv x,pv y,pv z,.int .i64 e,.agg c.C.toArray] eK [fF x b,cX y t,iq z m] (fun r=>pa_ (r = (User.do_ b t m e c).1) [fF x (User.do_ b t m e c).2.1,cX y t,iq z (User.do_ b t m e c).2.2]):=by
 intro h s0
 refine sim_user_Do _ _ _ _ _ ?_
 unfold sh_user_Do
 refine tL (ji c 4) s0 fun r h1 hr s1=>?_
 subst hr
 have go:∀ n,n = User.bad e c->pQ x y z e c (fun r=>pa_ (r = (User.do_ b t m e c).1) [fF x (User.do_ b t m e c).2.1,cX y t,iq z (User.do_ b t m e c).2.2]) n h1:=by
  intro n hn
  unfold pQ
  refine aY (fun k=>?_) (fun k=>?_)
  ·have k':User.bad e c ≠ 0:=by rw [← hn]; simpa using k
   have e1:User.do_ b t m e c = ((⟨User.bad e c,0⟩,iB),b,m):=if_pos k'
   rw [e1]; exact aX (by rw [hn]) s1
  ·have k':¬ User.bad e c ≠ 0:=by rw [← hn]; simpa using k
   refine cQ [0,0] (sp_user_Walk x y b t e (IntKind.i64.wrap c.e1) (az c).1) s1 rfl fun r h2 s2=>?_
   obtain ⟨hr,s3⟩:=bt.1 s2
   subst hr
   refine aY (fun k2=>?_) (fun k2=>?_)
   ·have e1:User.do_ b t m e c = ((⟨7,0⟩,iB),(User.walk b t e (IntKind.i64.wrap c.e1) (az c).1).2,m):=by unfold User.do_; rw [if_neg k',if_pos (by simpa using k2)]
    rw [e1]; exact aX rfl s3
   ·have e1:User.do_ b t m e c = (((User.touch m (User.walk b t e (IntKind.i64.wrap c.e1) (az c).1).1.1.fEa c).1,(User.walk b t e (IntKind.i64.wrap c.e1) (az c).1).1.1),(User.walk b t e (IntKind.i64.wrap c.e1) (az c).1).2,(User.touch m (User.walk b t e (IntKind.i64.wrap c.e1) (az c).1).1.1.fEa c).2):=by unfold User.do_; rw [if_neg k',if_neg (by simpa using k2)]
    rw [e1]
    exact bP (sp_user_touch z m _ c) (i:=2) rfl s3 fun r h3 hr s4=>aX (by rw [hr]) s4
 refine aY (fun k=>go 10 ?_) (fun k=>?_)
 ·unfold User.bad; rw [if_pos (by simpa using k)]
 ·have k':¬ (e < 0\/e >= 4):=by simpa using k
  refine aY (fun k2=>go 1 ?_) (fun k2=>go _ ?_)
  ·unfold User.bad; rw [if_neg k',if_pos (by simpa using k2)]
  ·unfold User.bad; rw [if_neg k',if_neg (by simpa using k2)]
end
section
open Go Mb
abbrev KC:=lO
abbrev bm:=av
structure KK where
 p:PK
 fNa:List Buf
 fJa:Mail.S
 fFa:fMa.S
 calls:List (Option KC)
 events:List bm
 now:Int
namespace KK
def is (k:KK) (c:Int):Bool:=decide (0 <= c/\c < k.calls.length)
def call (k:KK) (c:Int):Option KC:=(k.calls.getD c.toNat none)
def busy (k:KK) (c:Int):Bool:=is k c && (call k c).isSome
def buf (k:KK) (c:Int):Buf:=k.fNa.getD c.toNat ([],0)
def ev0 (core env:Int) (c:da) (n:Int):bm:=⟨core,env,c,n,0,0,⟨0,0⟩,iB⟩
def begin_ (k:KK) (core env:Int) (c:da):Bool × KK :=
 if is k core = false\/busy k core = true\/env < 0\/env >= k.p.s.fIa then (false,k)
 else (true,{ k with now:=IntKind.i64.wrap (k.now + 1),events:=k.events++[ev0 core env c (IntKind.i64.wrap (k.now + 1))],calls:=k.calls.set core.toNat (some ⟨k.events.length,env,c,false,0⟩) })
def goes (p:PK) (x:KC) (e s:Int):Bool :=
 if x.fc.e0 = 5/\e = x.fGa/\s = IntKind.i64.wrap x.fc.e1 then true
 else if fAa.has p.caps e s = true then fAa.under p.caps (fAa.get p.caps e s) ⟨x.fGa,IntKind.i64.wrap x.fc.e1⟩ else false
def left (p:PK) (x:KC) (e pg:Int) (q:Pte):Pte :=
 if x.fc.e0 = 7 then (if x.fGa = e/\IntKind.i64.wrap x.fc.e1 = pg then dc else q)
 else if x.fc.e0 = 8 then (if (x.fGa = e/\IntKind.i64.wrap x.fc.e1 = pg)/\aQ (IntKind.i64.wrap x.fc.e2) (fAa.at_ p.caps e q.fDa).1.fBa = true then { q with fBa:=iand .i64 q.fBa (IntKind.i64.wrap x.fc.e2) } else q)
 else if goes p x e q.fDa = true then dc else q
def fEb (p:PK) (e pg:Int):List (Option KC)->Bool->Pte->Pte × Bool
 | [],b,q=>(q,b)
 | none::cs,b,q=>fEb p e pg cs b q
 | some x::cs,b,q=>if b = true/\x.fPa = true then fEb p e pg cs ((left p x e pg q).fBa != 0) (left p x e pg q) else fEb p e pg cs b q
def seen (k:KK) (e pg:Int):Pte × Bool:=fEb k.p e pg k.calls (PK.pte k.p e pg).2 (PK.pte k.p e pg).1
def hits (p:PK) (x:KC) (e pg:Nat):Bool:=(PK.pte p e pg).2 && !(an.eqb (left p x e pg (PK.pte p e pg).1) (PK.pte p e pg).1)
def takes (p:PK) (x:KC):Bool :=
 if Word.check x.fc p.s.fIa ≠ 0\/x.fc.e0 < 4\/x.fc.e0 > 8\/x.fc.e0 = 6 then false
 else (List.range p.s.fIa.toNat).any fun e=>(List.range 8).any fun pg=>hits p x e pg
def stale (k:KK) (l:jn):Bool:=decide (0 <= l.fCa) && (!(seen k l.fCa l.fOa).2 || (seen k l.fCa l.fOa).1.fEa != l.fEa || !(aQ l.fBa (seen k l.fCa l.fOa).1.fBa))
def cleans (k:KK):List jn->Buf->Buf
 | [],b=>b
 | l::ls,b=>if stale k l = true then cleans k ls (Tlb.flush b l.fCa l.fOa).2 else cleans k ls b
def clean (k:KK) (c:Int):KK:={ k with fNa:=k.fNa.set c.toNat (cleans k (Tlb.lines (buf k c)) (buf k c)) }
def evend (e:bm) (n:Int) (a:eH) (l:jn):bm:={ e with fHa:=n,fXa:=n,fYa:=a,fTa:=l }
def ends (k:KK) (c:Int) (x:KC) (a:eH) (l:jn):KK :=
 { k with events:=k.events.set x.fat.toNat (evend (k.events.getD x.fat.toNat (ev0 0 0 ⟨0,0,0,0,0⟩ 0)) k.now a l),calls:=k.calls.set c.toNat none }
def fGb (k:KK) (e pg:Int):List Pte:=if (seen k e pg).2 = true then (Table.insert (List.replicate 8 dc) pg (seen k e pg).1).2 else List.replicate 8 dc
def fCb (k:KK) (c:Int) (x:KC):(jn × Bool) × Buf:=User.walk (buf k c) (fGb k x.fGa (IntKind.i64.wrap x.fc.e1)) x.fGa (IntKind.i64.wrap x.fc.e1) (IntKind.i64.wrap x.fc.e0)
def access (k:KK) (c:Int) (x:KC):(eH × jn) × KK :=
 if Word.check x.fc k.p.s.fIa ≠ 0 then ((⟨Word.check x.fc k.p.s.fIa,0⟩,iB),k)
 else if (fCb k c x).1.2 = false then ((⟨7,0⟩,iB),{ k with fNa:=k.fNa.set c.toNat (fCb k c x).2 })
 else (((PK.touch k.p (fCb k c x).1.1.fEa x.fc).1.1,(fCb k c x).1.1),{ k with fNa:=k.fNa.set c.toNat (fCb k c x).2,p:=(PK.touch k.p (fCb k c x).1.1.fEa x.fc).2 })
def tell (k:KK) (c:Int) (x:KC):KK:={ k with calls:=k.calls.set c.toNat (some { x with fPa:=true }) }
def send (k:KK) (c:Int) (x:KC):KK :=
 { k with fFa:=(fMa.begin_ k.fFa c).2,calls:=k.calls.set c.toNat (some { x with fPa:=true,fBb:=(fMa.begin_ k.fFa c).1.1 }),fJa:=(Mail.sends k.fJa c (fMa.begin_ k.fFa c).1.1 k.fJa.length).2 }
def tick (k:KK):KK:={ k with now:=IntKind.i64.wrap (k.now + 1) }
def work (k:KK) (c:Int) (x:KC):KK :=
 if bA (az x.fc).1 = true then ends (access k c x).2 c x (access k c x).1.1 (access k c x).1.2
 else if x.fPa = false/\takes k.p x = true then send (clean (tell k c x) c) c x
 else if x.fPa = true/\fMa.done k.fFa x.fBb = false then k
 else if (PK.do_ k.p x.fGa x.fc).1.2 = true then ends { k with p:=(PK.do_ k.p x.fGa x.fc).2 } c x (PK.do_ k.p x.fGa x.fc).1.1 iB
 else { k with p:=(PK.do_ k.p x.fGa x.fc).2 }
def step (k:KK) (c:Int):Bool × KK :=
 if busy k c = false then (false,k) else match call k c with
 | none=>(false,k)
 | some x=>(true,work (tick k) c x)
def post (k:KK) (c:Int):Bool × KK :=
 if is k c = false then (false,k) else if (Mail.take k.fJa c).1.2 = false then (false,k)
 else (true,{ clean { tick k with fJa:=(Mail.take k.fJa c).2 } c with fFa:=(fMa.ack k.fFa c (Mail.take k.fJa c).1.1).2 })
def mail (k:KK) (c:Int):Int:=if is k c = true then Mail.waits k.fJa c else 0
def lines (k:KK) (c:Int):List jn:=if is k c = true then Tlb.lines (buf k c) else []
def new (s:fD):KK:=⟨PK.new s,List.replicate s.fVa.toNat tlb0,List.replicate s.fVa.toNat [],([],List.replicate s.fVa.toNat 0),List.replicate s.fVa.toNat none,[],0⟩
end KK
structure mB (n:Nat) (l:List Int):Prop where
 up:l.Pairwise (· < ·)
 lo:∀ x ∈ l,1 <= x
 hi:∀ x ∈ l,x <= n
structure KK.Ok (k:KK):Prop where
 p:PK.Ok k.p
 tl:(k.fNa.length:Int) = k.p.s.fVa
 bl:(k.fJa.length:Int) = k.p.s.fVa
 el:(k.fFa.2.length:Int) = k.p.s.fVa
 cl:(k.calls.length:Int) = k.p.s.fVa
 cs:∀ x,some x ∈ k.calls->0 <= x.fat/\x.fat < k.events.length/\0 <= x.fGa/\x.fGa < k.p.s.fIa
 n0:0 <= k.now
 evn:(k.events.length:Int) <= k.now
 epn:(k.fFa.1.length:Int) <= k.now
 bx:∀ l ∈ k.fJa,mB k.fFa.1.length l
theorem box_len {n:Nat} {l:List Int} (h:mB n l):l.length <= n:=by
 have key:∀ (l:List Int) (a:Int),l.Pairwise (· < ·)->(∀ x ∈ l,a < x)->(∀ x ∈ l,x <= n)->(l.length:Int) <= max 0 (n - a):=by
  intro l
  induction l with
  | nil=>intro a _ _ _; simp; omega
  | cons b l ih =>
   intro a hp hl hh
   obtain ⟨h1,h2⟩:=List.pairwise_cons.1 hp
   have:=ih b h2 (fun x hx=>h1 x hx) (fun x hx=>hh x (by simp [hx]))
   have:=hl b (by simp)
   have:=hh b (by simp)
   simp only [List.length_cons]; omega
 have:=key l 0 h.up (fun x hx=>by have:=h.lo x hx; omega) h.hi
 omega
theorem box_fit {n:Nat} {l:List Int} (h:mB n l) (hn:n < 2 ^ 40):Mail.Fit l ((n:Int) + 1) :=
 ⟨fun x hx=>by have:=h.hi x hx; omega,h.up,by have:=box_len h; omega⟩
theorem box_more {n m:Nat} {l:List Int} (h:mB n l) (hn:n <= m):mB m l:=⟨h.up,h.lo,fun x hx=>by have:=h.hi x hx; omega⟩
theorem box_push {n:Nat} {l:List Int} (h:mB n l):mB (n + 1) (l++[(n:Int) + 1]):=by
 refine ⟨List.pairwise_append.2 ⟨h.up,List.pairwise_singleton _ _,fun a ha b hb=>?_⟩,fun x hx=>?_,fun x hx=>?_⟩
 ·rw [List.mem_singleton.1 hb]; have:=h.hi a ha; omega
 ·rcases List.mem_append.1 hx with h1 | h1
  ·exact h.lo x h1
  ·rw [List.mem_singleton.1 h1]; omega
 ·rcases List.mem_append.1 hx with h1 | h1
  ·have:=h.hi x h1; omega
  ·rw [List.mem_singleton.1 h1]; omega
theorem box_drop {n:Nat} {l:List Int} (h:mB n l):mB n (l.drop 1) :=
 ⟨h.up.sublist (List.drop_sublist 1 l),fun x hx=>h.lo x (List.mem_of_mem_drop hx),fun x hx=>h.hi x (List.mem_of_mem_drop hx)⟩
theorem boxes_set {bs:Mail.S} {n:Nat} (h:∀ l ∈ bs,mB n l) (i:Nat) {b:List Int} (hb:mB n b):∀ l ∈ bs.set i b,mB n l:=by
 intro l hl
 rcases List.mem_or_eq_of_mem_set hl with h1 | h1
 ·exact h l h1
 ·subst h1; exact hb
theorem box_of {bs:Mail.S} {n:Nat} (h:∀ l ∈ bs,mB n l) (c:Int):mB n (Mail.box bs c):=by
 unfold Mail.box
 by_cases hi:c.toNat < bs.length
 ·simp [hi]; exact h _ (List.getElem_mem hi)
 ·simp [List.getD_eq_getElem?_getD,List.getElem?_eq_none (Nat.le_of_not_lt hi)]
  exact ⟨.nil,fun x hx=>(by cases hx),fun x hx=>(by cases hx)⟩
theorem boxes_send {bs:Mail.S} {n:Nat} (f t:Int) (h:∀ l ∈ bs,mB (n + 1) l) (ht:mB n (Mail.box bs t)):∀ l ∈ (Mail.send bs f t ((n:Int) + 1)).2,mB (n + 1) l:=by
 unfold Mail.send
 split
 ·exact boxes_set h _ (box_push ht)
 ·exact h
theorem boxes_sends {bs:Mail.S} {n:Nat} (f:Int) (h:∀ l ∈ bs,mB n l):∀ j,j <= bs.length->∀ l ∈ (Mail.sends bs f ((n:Int) + 1) j).2,mB (n + 1) l
 | 0,_=>fun l hl=>box_more (h l hl) (by omega)
 | j + 1,hj=>by
  have ih:=boxes_sends f h j (by omega)
  have hb:Mail.box (Mail.sends bs f ((n:Int) + 1) j).2 j = Mail.box bs j:=by
   unfold Mail.box
   rw [Int.toNat_natCast,List.getD_eq_getElem?_getD,List.getD_eq_getElem?_getD,Mail.sends_ge bs f _ j j (Nat.le_refl _)]
  have:=boxes_send f (j:Int) ih (by rw [hb]; exact box_of h _)
  unfold Mail.sends
  split <;> exact this
theorem wrapN {n:Int} (h0:0 <= n) (h1:n < 2 ^ 40):IntKind.i64.wrap (n + 1) = n + 1:=bM (by omega) (by omega)
theorem calls_set {k:KK} (ok:KK.Ok k) (i:Nat) {o:Option KC} {n:Int} (hn:(k.events.length:Int) <= n) (ho:∀ x,o = some x->0 <= x.fat/\x.fat < n/\0 <= x.fGa/\x.fGa < k.p.s.fIa):∀ x,some x ∈ k.calls.set i o->0 <= x.fat/\x.fat < n/\0 <= x.fGa/\x.fGa < k.p.s.fIa:=by
 intro x hx
 rcases List.mem_or_eq_of_mem_set hx with h1 | h1
 ·have:=ok.cs x h1; omega
 ·exact ho x h1.symm
theorem kok_new {s:fD} (h:PK.sized s = true):KK.Ok (KK.new s):=by
 have hs:=fA.1 h
 refine ⟨ok_new h,?_,?_,?_,?_,?_,Int.le_refl _,Int.le_refl _,Int.le_refl _,?_⟩
 ·simp [KK.new,PK.new]; omega
 ·simp [KK.new,PK.new]; omega
 ·simp [KK.new,PK.new]; omega
 ·simp [KK.new,PK.new]; omega
 ·intro x hx
  have:=(List.mem_replicate.1 hx).2
  cases this
 ·intro l hl
  rw [(List.mem_replicate.1 hl).2]
  exact ⟨.nil,fun x hx=>(by cases hx),fun x hx=>(by cases hx)⟩
theorem kok_begin {k:KK} (ok:KK.Ok k) (hn:k.now < 2 ^ 40) (core env:Int) (c:da):KK.Ok (KK.begin_ k core env c).2:=by
 unfold KK.begin_
 split
 ·exact ok
 ·rename_i h
  have h1:=ok.n0
  have h2:=ok.evn
  have h3:=ok.epn
  simp at h
  have hw:=wrapN h1 hn
  refine ⟨ok.p,ok.tl,ok.bl,ok.el,by simpa using ok.cl,?_,by simp only [hw]; omega,by simp only [hw,List.length_append,List.length_singleton]; omega,by simp only [hw]; omega,ok.bx⟩
  simp only [List.length_append,List.length_singleton]
  refine calls_set ok _ (by omega) fun x hx=>?_
  cases hx
  simp only; omega
theorem kok_tick {k:KK} (ok:KK.Ok k) (hn:k.now < 2 ^ 40):KK.Ok (KK.tick k):=by
 have h1:=ok.n0
 have h2:=ok.evn
 have h3:=ok.epn
 have hw:=wrapN h1 hn
 unfold KK.tick
 exact ⟨ok.p,ok.tl,ok.bl,ok.el,ok.cl,ok.cs,by simp only [hw]; omega,by simp only [hw]; omega,by simp only [hw]; omega,ok.bx⟩
theorem kok_tlbs {k:KK} (ok:KK.Ok k) (i:Nat) (b:Buf):KK.Ok { k with fNa:=k.fNa.set i b }:=⟨ok.p,by simpa using ok.tl,ok.bl,ok.el,ok.cl,ok.cs,ok.n0,ok.evn,ok.epn,ok.bx⟩
theorem kok_p {k:KK} (ok:KK.Ok k) {p:PK} (h:PK.Ok p) (hs:p.s = k.p.s):KK.Ok { k with p:=p } :=
 ⟨h,by rw [hs]; exact ok.tl,by rw [hs]; exact ok.bl,by rw [hs]; exact ok.el,by rw [hs]; exact ok.cl,by rw [hs]; exact ok.cs,ok.n0,ok.evn,ok.epn,ok.bx⟩
theorem kok_ends {k:KK} (ok:KK.Ok k) (c:Int) (x:KC) (a:eH) (l:jn):KK.Ok (KK.ends k c x a l):=by
 unfold KK.ends
 refine ⟨ok.p,ok.tl,ok.bl,ok.el,by simpa using ok.cl,?_,ok.n0,by simpa using ok.evn,ok.epn,ok.bx⟩
 simp only [List.length_set]
 exact calls_set ok _ (Int.le_refl _) fun x hx=>by cases hx
theorem touch_s (k:PK) (f:Int) (c:da):(PK.touch k f c).2.s = k.s:=by
 unfold PK.touch
 repeat' split
 all_goals rfl
theorem alloc_s (k:PK) (e s:Int):(PK.alloc k e s).2.s = k.s:=by
 unfold PK.alloc
 repeat' split
 all_goals rfl
theorem derive_s (k:PK) (e a b c d:Int):(PK.derive k e a b c d).2.s = k.s:=by
 unfold PK.derive
 repeat' split
 all_goals rfl
theorem gone_size (f:Int):∀ (l:List bV) (k:PK),(PK.gone k f l).s = k.s
 | [],_=>rfl
 | _::l,_=>by rw [PK.gone,gone_size f l]
theorem revoke_s (k:PK) (e s:Int) (w:Bool):(PK.revoke k e s w).2.s = k.s:=by
 unfold PK.revoke
 split
 ·rfl
 ·split <;> simp only [gone_size]
theorem maps_s (k:PK) (e a b c:Int):(PK.maps k e a b c).2.s = k.s:=by
 unfold PK.maps
 repeat' split
 all_goals rfl
theorem protect_s (k:PK) (e a b:Int):(PK.protect k e a b).2.s = k.s:=by
 unfold PK.protect
 repeat' split
 all_goals rfl
theorem user_s (k:PK) (e:Int) (c:da):(PK.user k e c).2.s = k.s:=by
 unfold PK.user; split
 ·rfl
 ·exact touch_s _ _ _
theorem does_s (k:PK) (e:Int) (c:da):(PK.does k e c).2.s = k.s:=by
 unfold PK.does PK.errs
 repeat' split
 all_goals first | rfl | exact alloc_s _ _ _ | exact derive_s _ _ _ _ _ _ | exact revoke_s _ _ _ _ | exact maps_s _ _ _ _ _ | exact protect_s _ _ _ _ | exact user_s _ _ _
theorem do_s (k:PK) (e:Int) (c:da):(PK.do_ k e c).2.s = k.s:=by
 unfold PK.do_; split
 ·rfl
 ·split
  ·rfl
  ·exact does_s _ _ _
theorem kok_access {k:KK} (ok:KK.Ok k) (c:Int) (x:KC):KK.Ok (KK.access k c x).2:=by
 unfold KK.access
 split
 ·exact ok
 ·split
  ·exact kok_tlbs ok _ _
  ·have h1:=kok_tlbs ok c.toNat (KK.fCb k c x).2
   exact kok_p h1 (ok_touch ok.p _ _) (touch_s _ _ _)
theorem kok_clean {k:KK} (ok:KK.Ok k) (c:Int):KK.Ok (KK.clean k c):=kok_tlbs ok _ _
theorem call_ok {k:KK} (ok:KK.Ok k) {c:Int} {x:KC} (h:KK.call k c = some x):0 <= x.fat/\x.fat < k.events.length/\0 <= x.fGa/\x.fGa < k.p.s.fIa:=by
 refine ok.cs x ?_
 unfold KK.call at h
 by_cases hi:c.toNat < k.calls.length
 ·simp [hi] at h; rw [← h]; exact List.getElem_mem hi
 ·simp [List.getD_eq_getElem?_getD,List.getElem?_eq_none (Nat.le_of_not_lt hi)] at h
theorem kok_call {k:KK} (ok:KK.Ok k) (c:Int) {x y:KC} (h:KK.call k c = some x) (h1:y.fat = x.fat) (h2:y.fGa = x.fGa):KK.Ok { k with calls:=k.calls.set c.toNat (some y) }:=by
 have hc:=call_ok ok h
 refine ⟨ok.p,ok.tl,ok.bl,ok.el,by simpa using ok.cl,calls_set ok _ (Int.le_refl _) fun z hz=>?_,ok.n0,ok.evn,ok.epn,ok.bx⟩
 cases hz
 show 0 <= y.fat/\y.fat < (k.events.length:Int)/\0 <= y.fGa/\y.fGa < k.p.s.fIa
 omega
theorem call_set_same {k:KK} {c:Int} {x y:KC} (h:KK.call k c = some x):({ k with calls:=k.calls.set c.toNat (some y) }:KK).call c = some y:=by
 unfold KK.call at h ⊢
 by_cases hi:c.toNat < k.calls.length
 ·simp [hi]
 ·simp [List.getD_eq_getElem?_getD,List.getElem?_eq_none (Nat.le_of_not_lt hi)] at h
theorem kok_send {k:KK} (ok:KK.Ok k) (hn:(k.fFa.1.length:Int) + 1 <= k.now) {c:Int} {x:KC} (hc:KK.call k c = some { x with fPa:=true }) (hi:KK.is k c = true):KK.Ok (KK.send k c x):=by
 have hc':=call_ok ok hc
 simp only at hc'
 have he:fMa.is k.fFa c = true:=by
  unfold KK.is at hi
  have h1:=of_decide_eq_true hi
  have:=ok.el
  have:=ok.cl
  unfold fMa.is
  exact decide_eq_true (by omega)
 have eb:fMa.begin_ k.fFa c = (((k.fFa.1.length:Int) + 1,true),(k.fFa.1++[c],k.fFa.2)):=if_pos he
 unfold KK.send
 rw [eb]
 refine ⟨ok.p,ok.tl,by rw [← ok.bl]; simp only [Mail.sends_len],ok.el,by simpa using ok.cl,calls_set ok _ (Int.le_refl _) fun z hz=>?_,ok.n0,ok.evn,by simp; omega,?_⟩
 ·cases hz; exact hc'
 ·simp only [List.length_append,List.length_singleton]
  exact boxes_sends c ok.bx _ (Nat.le_refl _)
theorem kok_work {k:KK} (ok:KK.Ok k) (hn:(k.fFa.1.length:Int) + 1 <= k.now) {c:Int} {x:KC} (hc:KK.call k c = some x) (hi:KK.is k c = true):KK.Ok (KK.work k c x):=by
 unfold KK.work
 split
 ·exact kok_ends (kok_access ok c x) _ _ _ _
 ·split
  ·refine kok_send (kok_clean (kok_call ok c hc (y:={ x with fPa:=true }) rfl rfl) c) hn ?_ ?_
   ·exact call_set_same hc
   ·unfold KK.is at hi ⊢
    show decide (0 <= c/\c < ((k.calls.set c.toNat _).length:Int)) = true
    rw [List.length_set]; exact hi
  ·split
   ·exact ok
   ·split
    ·exact kok_ends (kok_p ok (ok_do ok.p _ _) (do_s _ _ _)) _ _ _ _
    ·exact kok_p ok (ok_do ok.p _ _) (do_s _ _ _)
theorem busy_is {k:KK} {c:Int} (h:KK.busy k c = true):KK.is k c = true/\∃ x,KK.call k c = some x:=by
 unfold KK.busy at h
 rw [Bool.and_eq_true,Option.isSome_iff_exists] at h
 exact h
theorem kok_post {k:KK} (ok:KK.Ok k) (hn:k.now < 2 ^ 40) (c:Int):KK.Ok (KK.post k c).2:=by
 unfold KK.post
 split
 ·exact ok
 ·split
  ·exact ok
  ·have o1:=kok_tick ok hn
   have hb:∀ l ∈ (Mail.take k.fJa c).2,mB k.fFa.1.length l:=by
    unfold Mail.take; split
    ·exact ok.bx
    ·exact boxes_set ok.bx _ (box_drop (box_of ok.bx c))
   have hbl:(Mail.take k.fJa c).2.length = k.fJa.length:=by unfold Mail.take; split <;> simp
   have ha:(fMa.ack k.fFa c (Mail.take k.fJa c).1.1).2.1 = k.fFa.1/\(fMa.ack k.fFa c (Mail.take k.fJa c).1.1).2.2.length = k.fFa.2.length:=by
    unfold fMa.ack; split <;> simp
   refine ⟨ok.p,?_,?_,?_,ok.cl,ok.cs,o1.n0,o1.evn,?_,?_⟩
   ·simp only [KK.clean,KK.tick,List.length_set]; exact ok.tl
   ·simp only [KK.clean,KK.tick,hbl]; exact ok.bl
   ·simp only [KK.clean,KK.tick,ha.2]; exact ok.el
   ·show ((fMa.ack k.fFa c (Mail.take k.fJa c).1.1).2.1.length:Int) <= _
    rw [ha.1]; exact o1.epn
   ·show ∀ l ∈ (Mail.take k.fJa c).2,mB (fMa.ack k.fFa c (Mail.take k.fJa c).1.1).2.1.length l
    rw [ha.1]; exact hb
end
section
open Go Mb
namespace Tlb
theorem ln_set {ls:List TL} (hl:ls.length = 8) {n:Nat} (hn:n < 8) (y:TL) (i:Nat):ln (ls.set n y) i = if i = n then y else ln ls i:=by
 simp only [ln,List.getD_eq_getElem?_getD,List.getElem?_set]
 by_cases e:n = i
 ·subst e; simp [hl,hn]
 ·rw [if_neg e,if_neg (fun h=>e h.symm)]
abbrev bs (p:Int):Nat:=(p.tmod 4).toNat * 2
theorem bs_lt {p:Int} (h:0 <= p):bs p + 1 < 8:=by
 obtain ⟨q,h1,h2⟩:=tmod4 h
 unfold bs; rw [h1]; simp; omega
theorem at_iff {ls:List TL} {e p:Int} {n:Nat}:at_ ls e p = some n↔(0 <= e/\0 <= p/\p < 8)/\(n = bs p/\hit ls e p (bs p)\/n = bs p + 1/\hit ls e p (bs p + 1)/\¬ hit ls e p (bs p)):=by
 unfold at_
 by_cases h:e < 0\/p < 0\/p >= 8
 ·rw [if_pos h]
  constructor
  ·intro x; cases x
  ·rintro ⟨x,_⟩; omega
 ·rw [if_neg h]
  by_cases h1:hit ls e p (bs p)
  ·rw [if_pos h1]
   constructor
   ·intro x; cases x; exact ⟨by omega,.inl ⟨rfl,h1⟩⟩
   ·rintro ⟨_,⟨rfl,_⟩ | ⟨_,_,h2⟩⟩
    ·rfl
    ·exact absurd h1 h2
  ·rw [if_neg h1]
   by_cases h2:hit ls e p (bs p + 1)
   ·rw [if_pos h2]
    constructor
    ·intro x; cases x; exact ⟨by omega,.inr ⟨rfl,h2,h1⟩⟩
    ·rintro ⟨_,⟨_,h3⟩ | ⟨rfl,_⟩⟩
     ·exact absurd h3 h1
     ·rfl
   ·rw [if_neg h2]
    constructor
    ·intro x; cases x
    ·rintro ⟨_,⟨_,h3⟩ | ⟨_,h3,_⟩⟩
     ·exact absurd h3 h1
     ·exact absurd h3 h2
theorem at_hit {ls:List TL} {e p:Int} {n:Nat} (h:at_ ls e p = some n):(ln ls n).fl.fCa = e/\(ln ls n).fl.fOa = p:=by
 rcases (at_iff.1 h).2 with ⟨e1,h1⟩ | ⟨e1,h1,_⟩
 ·rw [e1]; exact h1
 ·rw [e1]; exact h1
structure TOk (t:Buf):Prop where
 len:t.1.length = 8
 at_:∀ i,i < 8->0 <= (ln t.1 i).fl.fCa->at_ t.1 (ln t.1 i).fl.fCa (ln t.1 i).fl.fOa = some i
theorem mem_lines {t:Buf} (h:t.1.length = 8) {l:jn}:l ∈ lines t↔∃ i,i < 8/\l = (ln t.1 i).fl:=by
 unfold lines
 rw [List.mem_map]
 constructor
 ·rintro ⟨x,hx,rfl⟩
  obtain ⟨i,hi,rfl⟩:=List.getElem_of_mem hx
  exact ⟨i,by omega,by simp [ln,hi]⟩
 ·rintro ⟨i,hi,rfl⟩
  have:i < t.1.length:=by omega
  exact ⟨t.1[i],List.getElem_mem this,by simp [ln,this]⟩
theorem tok_new:TOk tlb0:=by
 refine ⟨rfl,fun i hi h=>?_⟩
 have key:∀ i,i < 8->(ln tlb0.1 i).fl.fCa = -1:=by decide
 rw [key i hi] at h
 exact absurd h (by decide)
theorem tok_clear {t:Buf} (h:TOk t) {n:Nat} (hn:n < 8) {y:TL} (hy:y.fl.fCa < 0) (m:Int):TOk (t.1.set n y,m):=by
 refine ⟨by simpa using h.len,fun i hi he=>?_⟩
 simp only at he ⊢
 rw [ln_set h.len hn] at he ⊢
 by_cases e:i = n
 ·rw [if_pos e] at he; omega
 ·rw [if_neg e] at he ⊢
  have h1:=at_iff.1 (h.at_ i hi he)
  have keep:∀ j,hit (t.1.set n y) (ln t.1 i).fl.fCa (ln t.1 i).fl.fOa j↔j ≠ n/\hit t.1 (ln t.1 i).fl.fCa (ln t.1 i).fl.fOa j:=by
   intro j
   unfold hit
   rw [ln_set h.len hn]
   by_cases ej:j = n
   ·rw [if_pos ej]
    constructor
    ·intro x; omega
    ·intro x; exact absurd ej x.1
   ·rw [if_neg ej]; simp [ej]
  refine at_iff.2 ⟨h1.1,?_⟩
  rcases h1.2 with ⟨a,b⟩ | ⟨a,b,c⟩
  ·exact .inl ⟨a,(keep _).2 ⟨a ▸ e,b⟩⟩
  ·exact .inr ⟨a,(keep _).2 ⟨a ▸ e,b⟩,fun x=>c ((keep _).1 x).2⟩
theorem flush_eq {t:Buf} {e p:Int}:flush t e p = (match at_ t.1 e p with | some n=>(true,t.1.set n { ln t.1 n with fl:=gc },t.2) | none=>(false,t)):=rfl
theorem lines_clear {t:Buf} (h:TOk t) {n:Nat} (hn:n < 8) {y:TL} (hy:y.fl.fCa < 0) {m:Int} {l:jn} (hl:l ∈ lines (t.1.set n y,m)) (he:0 <= l.fCa):∃ i,i < 8/\i ≠ n/\l = (ln t.1 i).fl:=by
 obtain ⟨i,hi,rfl⟩:=(mem_lines (by simpa using h.len)).1 hl
 simp only at he ⊢
 rw [ln_set h.len hn] at he ⊢
 by_cases e:i = n
 ·rw [if_pos e] at he; omega
 ·rw [if_neg e]; exact ⟨i,hi,e,rfl⟩
theorem tok_flush {t:Buf} (h:TOk t) (e p:Int):TOk (flush t e p).2:=by
 rw [flush_eq]
 split
 ·rename_i n hn
  exact tok_clear h (at_lt hn) (by show (-1:Int) < 0; omega) _
 ·exact h
theorem lines_flush {t:Buf} (h:TOk t) {e p:Int} {l:jn} (hl:l ∈ lines (flush t e p).2) (he:0 <= l.fCa):l ∈ lines t/\¬ (l.fCa = e/\l.fOa = p):=by
 rw [flush_eq] at hl
 split at hl
 ·rename_i n hn
  obtain ⟨i,hi,hne,rfl⟩:=lines_clear h (at_lt hn) (by show (-1:Int) < 0; omega) hl he
  refine ⟨(mem_lines h.len).2 ⟨i,hi,rfl⟩,?_⟩
  rintro ⟨rfl,rfl⟩
  have:=h.at_ i hi he
  rw [hn] at this
  exact hne (Option.some.inj this).symm
 ·rename_i hn
  refine ⟨hl,?_⟩
  rintro ⟨rfl,rfl⟩
  obtain ⟨i,hi,rfl⟩:=(mem_lines h.len).1 hl
  rw [h.at_ i hi he] at hn
  cases hn
theorem room_in (ls:List TL) (p:Int):room ls (bs p) = bs p\/room ls (bs p) = bs p + 1:=by
 unfold room; repeat' split
 all_goals simp
theorem place_in {ls:List TL} {a:jn} (hp:0 <= a.fOa):place ls a = bs a.fOa\/place ls a = bs a.fOa + 1:=by
 unfold place
 split
 ·rename_i n hn
  rcases (at_iff.1 hn).2 with h | h
  ·exact .inl h.1
  ·exact .inr h.1
 ·exact room_in ls a.fOa
theorem tok_fill {t:Buf} (h:TOk t) (a:jn):TOk (fill t a).2/\∀ l ∈ lines (fill t a).2,0 <= l.fCa->l = a/\¬ bad a\/l ∈ lines t:=by
 unfold fill
 split
 ·exact ⟨h,fun l hl _=>.inr hl⟩
 ·rename_i hb
  have hb':0 <= a.fCa/\0 <= a.fOa/\a.fOa < 8:=by unfold bad at hb; omega
  have hpl:=place_in (ls:=t.1) hb'.2.1
  have hbs:=bs_lt hb'.2.1
  have hn:place t.1 a < 8:=by omega
  have dV:=ln_set h.len hn (⟨a,IntKind.i64.wrap (t.2 + 1)⟩:TL)
  have other:∀ i,i < 8->i ≠ place t.1 a->0 <= (ln t.1 i).fl.fCa->¬ ((ln t.1 i).fl.fCa = a.fCa/\(ln t.1 i).fl.fOa = a.fOa):=by
   rintro i hi hne he ⟨e1,e2⟩
   have:=h.at_ i hi he
   rw [e1,e2] at this
   unfold place at hne
   rw [this] at hne
   exact hne rfl
  refine ⟨⟨by simpa using h.len,fun i hi he=>?_⟩,fun l hl he=>?_⟩
  ·simp only at he ⊢
   rw [dV] at he ⊢
   by_cases e:i = place t.1 a
   ·rw [if_pos e] at he ⊢
    refine at_iff.2 ⟨hb',?_⟩
    have hself:hit (t.1.set (place t.1 a) ⟨a,IntKind.i64.wrap (t.2 + 1)⟩) a.fCa a.fOa (place t.1 a):=by unfold hit; rw [dV,if_pos rfl]; exact ⟨rfl,rfl⟩
    rcases hpl with h1 | h1
    ·exact .inl ⟨e.trans h1,by rw [h1] at hself ⊢; exact hself⟩
    ·refine .inr ⟨e.trans h1,by rw [h1] at hself ⊢; exact hself,fun hx=>?_⟩
     have hx:hit (t.1.set (place t.1 a) ⟨a,IntKind.i64.wrap (t.2 + 1)⟩) a.fCa a.fOa (bs a.fOa):=hx
     unfold hit at hx
     rw [dV,if_neg (by rw [h1]; omega)] at hx
     exact other _ (by omega) (by rw [h1]; omega) (by rw [hx.1]; exact hb'.1) hx
   ·rw [if_neg e] at he ⊢
    have h1:=at_iff.1 (h.at_ i hi he)
    have ho:=other i hi e he
    have keep:∀ j,hit (t.1.set (place t.1 a) ⟨a,IntKind.i64.wrap (t.2 + 1)⟩) (ln t.1 i).fl.fCa (ln t.1 i).fl.fOa j↔j ≠ place t.1 a/\hit t.1 (ln t.1 i).fl.fCa (ln t.1 i).fl.fOa j:=by
     intro j
     unfold hit
     rw [dV]
     by_cases ej:j = place t.1 a
     ·rw [if_pos ej]
      constructor
      ·rintro ⟨x,y⟩; exact absurd ⟨x.symm,y.symm⟩ ho
      ·intro x; exact absurd ej x.1
     ·rw [if_neg ej]; simp [ej]
    refine at_iff.2 ⟨h1.1,?_⟩
    rcases h1.2 with ⟨x,y⟩ | ⟨x,y,z⟩
    ·exact .inl ⟨x,(keep _).2 ⟨x ▸ e,y⟩⟩
    ·exact .inr ⟨x,(keep _).2 ⟨x ▸ e,y⟩,fun u=>z ((keep _).1 u).2⟩
  ·obtain ⟨i,hi,rfl⟩:=(mem_lines (by simpa using h.len)).1 hl
   simp only at he ⊢
   rw [dV] at he ⊢
   by_cases e:i = place t.1 a
   ·rw [if_pos e]; exact .inl ⟨rfl,hb⟩
   ·rw [if_neg e]; exact .inr ((mem_lines h.len).2 ⟨i,hi,rfl⟩)
theorem find_in {t:Buf} (h:TOk t) {e p:Int} (hf:(find t.1 e p).2 = true):(find t.1 e p).1 ∈ lines t/\(find t.1 e p).1.fCa = e/\(find t.1 e p).1.fOa = p/\0 <= e:=by
 unfold find at hf ⊢
 split at hf
 ·rename_i n hn
  simp only [hn]
  have:=at_hit hn
  exact ⟨(mem_lines h.len).2 ⟨n,at_lt hn,rfl⟩,this.1,this.2,(at_iff.1 hn).1.1⟩
 ·cases hf
end Tlb
theorem cleans_spec (k:KK):∀ (L:List jn) {b:Buf},Tlb.TOk b->Tlb.TOk (KK.cleans k L b)/\∀ l ∈ Tlb.lines (KK.cleans k L b),0 <= l.fCa->l ∈ Tlb.lines b/\∀ d ∈ L,KK.stale k d = true->¬ (l.fCa = d.fCa/\l.fOa = d.fOa)
 | [],b,h=>⟨h,fun l hl _=>⟨hl,fun d hd=>by cases hd⟩⟩
 | d::L,b,h=>by
  rw [KK.cleans]
  split
  ·rename_i hs
   have h1:=Tlb.tok_flush h d.fCa d.fOa
   obtain ⟨i1,i2⟩:=cleans_spec k L h1
   refine ⟨i1,fun l hl he=>?_⟩
   obtain ⟨j1,j2⟩:=i2 l hl he
   obtain ⟨k1,k2⟩:=Tlb.lines_flush h j1 he
   refine ⟨k1,fun x hx hsx=>?_⟩
   rcases List.mem_cons.1 hx with rfl | hx
   ·exact k2
   ·exact j2 x hx hsx
  ·rename_i hs
   obtain ⟨i1,i2⟩:=cleans_spec k L h
   refine ⟨i1,fun l hl he=>?_⟩
   obtain ⟨j1,j2⟩:=i2 l hl he
   refine ⟨j1,fun x hx hsx=>?_⟩
   rcases List.mem_cons.1 hx with rfl | hx
   ·exact absurd hsx hs
   ·exact j2 x hx hsx
theorem cleans_all {k:KK} {b:Buf} (h:Tlb.TOk b):Tlb.TOk (KK.cleans k (Tlb.lines b) b)/\∀ l ∈ Tlb.lines (KK.cleans k (Tlb.lines b) b),0 <= l.fCa->l ∈ Tlb.lines b/\KK.stale k l = false:=by
 obtain ⟨h1,h2⟩:=cleans_spec k (Tlb.lines b) h
 refine ⟨h1,fun l hl he=>?_⟩
 obtain ⟨a,c⟩:=h2 l hl he
 refine ⟨a,?_⟩
 cases hs:KK.stale k l with
 | false=>rfl
 | true=>exact absurd ⟨rfl,rfl⟩ (c l a hs)
end
end Go.Proofs.YtemoifebbhoinaaGreatDoor
