/- Part of the proof of: The law ShootProtect returns true for every input, and leaves its arguments as they were. -/
import Derived.Test.YtmggcfijlpldpaaGreatDoorShootProtect12
set_option linter.all false
set_option maxRecDepth 20000
namespace Go.Proofs.YtmggcfijlpldpaaGreatDoor
open Go Mb
set_option linter.unusedVariables false
def errors_as_l2 (a1:Value) (a2:aH) (a3:Value) (K:Bool→Hp→Prop) (v48:Sl) (Rec25:Int→Hp→Prop) (s24:Int):Hp→Prop:=br (decide (s24 < (v48.len:Int))) ( ix v48 s24 fun q52=>ld (q52.1,q52.2 + Int.toNat s24 * 1) cV fun x53=>hpv Tryz.prog (do eqGuard .eql 195 (.tmp 54) (.const Value.nilIface) x53 Value.nilIface; binOp .eql 195 x53 Value.nilIface:Sem Value) ay fun (v55:Bool)=>br v55 ( Rec25 (IntKind.i64.wrap (s24 + 1))) ( cl Tryz.prog tM [x53,a1,(.agg (aH.C a2).toArray),a3] ay fun r60=>br r60 ( K true) ( Rec25 (IntKind.i64.wrap (s24 + 1))))) ( K false)
def wB (a1:Value) (a2:aH) (a3:Value) (K:Bool→Hp→Prop) (Rec2:Value→Hp→Prop) (s1:Value) (s11:Unit):Hp→Prop:=hpv Tryz.prog (Instr.typeAssert s1 fW iL true) fS fun (v37:Value × Bool)=>br v37.2 ( cln Tryz.prog (callMethod v37.1 "Unwrap" #[]) encV fun (v41:Value)=>hpv Tryz.prog (do eqGuard .eql 195 (.tmp 42) (.const Value.nilIface) v41 Value.nilIface; binOp .eql 195 v41 Value.nilIface:Sem Value) ay fun (v43:Bool)=>br v43 ( K false) ( Rec2 v41)) ( hpv Tryz.prog (Instr.typeAssert s1 fW ie true) fE fun (v44:Value × Bool)=>br v44.2 ( cln Tryz.prog (callMethod v44.1 "Unwrap" #[]) R_Serror fun (v48:Sl)=>Lp (errors_as_l2 a1 a2 a3 K v48) 0) ( K false))
def wA (a1:Value) (a2:aH) (a3:Value) (K:Bool→Hp→Prop) (Rec2:Value→Hp→Prop) (s1:Value):Hp→Prop:=cln Tryz.prog (callFunc fJ #[s1]) encV fun (v17:Value)=>cln Tryz.prog (callMethod v17 "AssignableTo" #[a3]) ay fun (v19:Bool)=>br v19 ( cln Tryz.prog (callFunc eT #[(.agg (aH.C a2).toArray)]) fd fun (v21:aH)=>cln Tryz.prog (callFunc cN #[s1]) fd fun (v23:aH)=>cln Tryz.prog (callFunc eW #[(.agg (aH.C v21).toArray),(.agg (aH.C v23).toArray)]) R_ fun (v24:Unit)=>K true) ( hpv Tryz.prog (Instr.typeAssert s1 fW qa true) mT fun (v27:Value × Bool)=>br v27.2 ( cln Tryz.prog (callMethod v27.1 "As" #[a1]) ay fun (v34:Bool)=>br v34 ( K true) ( wB a1 a2 a3 K Rec2 s1 ())) ( wB a1 a2 a3 K Rec2 s1 ()))
def sh_errors_as (a0:Value) (a1:Value) (a2:aH) (a3:Value) (K:Bool→Hp→Prop):Hp→Prop:=Lp (wA a1 a2 a3 K) a0
theorem sim_errors_as (a0:Value) (a1:Value) (a2:aH) (a3:Value) {K:Bool→Hp→Prop} {h:Hp} (H:sh_errors_as a0 a1 a2 a3 K h):Ct Tryz.prog tM #[a0,a1,(.agg (aH.C a2).toArray),a3] h fun v h'=>∃ r,v = ay r∧K r h':=au [a0,a1,(.agg (aH.C a2).toArray),a3] Tryz.func228 c c c fun _=>M<|aa<|cD (l:=aH.C a2) c c c fun b6=>O c<|av<|bA (step:=wA a1 a2 a3 K) (fun s1=>[(0,s1),(1,a1),(3,a3),(6,(.pointer (some ⟨b6,0,none⟩)))]) (fun s1=>[bx b6 295 (aH.C a2)]) H (.cons c<|.cons c<|.cons c<|.cons c<|.nil _) (.cons_cons _ .slnil) fun Rec2 s1 _ H3=>av<|aj<|M<|J c<|aa<|fI H3 (rl (vs:=[s1]) c) c fun v17 _ H4=>J c<|aa<|fI H4 (fH (vs:=[a3]) c c) c fun v19 _ H5=>ac<|ar c H5 (fun k6 H7=>M<|bg (bw (k:=0) ag_295 c c c c) c<|aa<|fI H7 (rl (vs:=[(.agg (aH.C a2).toArray)]) c) c fun v21 _ H8=>J c<|aa<|fI H8 (rl (vs:=[s1]) c) c fun v23 _ H9=>aa<|fI H9 (rl (vs:=[(.agg (aH.C v21).toArray),(.agg (aH.C v23).toArray)]) c) c fun v24 _ H10=>ac<|M<|O c<|ah<|Y ⟨true,c,H10⟩) fun k6 H7=>am<|ee (wB a1 a2 a3 K Rec2 s1) (fun s11=>[(0,s1),(1,a1),(3,a3),(6,(.pointer (some ⟨b6,0,none⟩)))]) (fun s11=>[bx b6 295 (aH.C a2)]) (M<|J c<|aa<|aO H7 (fF c) c fun v27 _ H39=>J c<|p (ai c c)<|p (ai c c)<|p (aq c)<|O c<|M<|J c<|J c<|V c c (aw _) (fun g40=>wv<|ag c)<|V c c (aw _) (fun g41=>wv<|ag c)<|bP H39 (fun k43 H44=>F (D k43)<|fI H44 (fH (vs:=[a1]) (az c k43)<|aP (az c k43) bL) c fun v34 _ H45=>p (aR c k43 c)<|ac<|ar c H45 (fun k46 H47=>M<|O c<|ah<|Y ⟨true,c,H47⟩) fun k46 H47=>am<|cC () H47 (.cons c<|.cons c<|.cons c<|.cons c<|.nil _)<|.cons_cons _ .slnil) fun k43 H44=>W (aQ k43)<|p (ao c k43 c)<|ac<|ev_no c c<|am<|cC () H44 (.cons c<|.cons c<|.cons c<|.cons c<|.nil _)<|.cons_cons _ .slnil) fun s11 _ H12=>M<|J c<|ac<|av<|M<|aa<|aO H12 (fF c) c fun v37 _ H13=>p (ai c c)<|p (ai c c)<|ac<|ar c H13 (fun k14 H15=>M<|O c<|M<|J c<|aa<|fI H15 (fH (vs:=[]) c c) c fun v41 _ H16=>O c<|M<|J c<|aa<|aO H16 (fU c c) c fun v43 _ H17=>ac<|ar c H17 (fun k18 H19=>M<|O c<|ah<|Y ⟨false,c,H19⟩) fun k18 H19=>am<|cF v41 H19 (.cons c<|.cons c<|.cons c<|.cons c<|.nil _)<|.cons_cons _ .slnil) fun k14 H15=>M<|aa<|aO H15 (fF c) c fun v44 _ H20=>p (ai c c)<|p (ai c c)<|ac<|ar c H20 (fun k21 H22=>M<|O c<|aj<|M<|J c<|aa<|fI H22 (fH (vs:=[]) c c) c fun v48 _ H23=>p (dz c Tryz.underlying278 c)<|J c<|ac<|av<|bA (step:=errors_as_l2 a1 a2 a3 K v48) (fun s24=>[(1,a1),(3,a3),(6,(.pointer (some ⟨b6,0,none⟩))),(48,(sv v48)),(49,(.int .i64 (v48.len:Int))),(50,(.int .i64 s24))]) (fun s24=>[bx b6 295 (aH.C a2)]) H23 (.cons c<|.cons c<|.cons c<|.cons c<|.cons c<|.cons c<|.nil _) (.cons_cons _ .slnil) fun Rec25 s24 _ H26=>M<|p (cm c c)<|ac<|aj<|ar c H26 (fun k27 H28=>am<|aj<|av<|M<|ce H28 fun q52 e29 h30 H31=>p (bo slc_278 (aL c<|aZ e29) c h30)<|aa<|aT H31 sc_195 c (fun _=>c) c fun x53 H32=>O c<|aj<|M<|J c<|aa<|aO H32 (fU c c) c fun v55 _ H33=>ac<|ar c H33 (fun k34 H35=>bh<|ap<|p (bp c c)<|J c<|ac<|cF (IntKind.i64.wrap (s24 + 1)) H35 (.cons c<|.cons c<|.cons c<|.cons c<|.cons c<|.cons c<|.nil _)<|.cons_cons _ .slnil) fun k34 H35=>am<|M<|J c<|J c<|bg (bw (k:=0) ag_295 c c c c) c<|J c<|aa<|Z H35 en_228 fun r60 _ H36=>ac<|ar c H36 (fun k37 H38=>M<|O c<|ah<|Y ⟨true,c,H38⟩) fun k37 H38=>am<|ap<|p (bp c c)<|J c<|ac<|cF (IntKind.i64.wrap (s24 + 1)) H38 (.cons c<|.cons c<|.cons c<|.cons c<|.cons c<|.cons c<|.nil _)<|.cons_cons _ .slnil) fun k27 H28=>bh<|M<|O c<|ah<|Y ⟨false,c,H28⟩) fun k21 H22=>M<|O c<|M<|O c<|ah<|Y ⟨false,c,H22⟩
def rF (a0:Value) (a1:Value) (K:Bool→Hp→Prop) (v14:aH) (v26:Value) (s11:Unit):Hp→Prop:=cl Tryz.prog tM [a0,a1,(.agg (aH.C v14).toArray),v26] ay fun r41=>K r41
def wD (a0:Value) (a1:Value) (K:Bool→Hp→Prop) (v14:aH) (v16:Value) (s8:Unit):Hp→Prop:=cln Tryz.prog (callMethod v16 "Elem" #[]) encV fun (v26:Value)=>cln Tryz.prog (callMethod v26 "Kind" #[]) R_abi_Kind fun (v28:Int)=>br (v28 != 20) ( ld (0,0) cV fun x32=>cln Tryz.prog (callMethod v26 "Implements" #[x32]) ay fun (v33:Bool)=>br (!v33) ( hpv Tryz.prog (Instr.makeInterface ut (.string str_6ae768b9)) encV fun (v36:Value)=>nope) ( rF a0 a1 K v14 v26 ())) ( rF a0 a1 K v14 v26 ())
def wE (a0:Value) (a1:Value) (K:Bool→Hp→Prop) (s4:Unit):Hp→Prop:=cln Tryz.prog (callFunc cN #[a1]) fd fun (v14:aH)=>cln Tryz.prog (callFunc ic #[(.agg (aH.C v14).toArray)]) encV fun (v16:Value)=>cln Tryz.prog (callMethod v16 "Kind" #[]) R_abi_Kind fun (v18:Int)=>br (!(v18 != 22)) ( cln Tryz.prog (callFunc eJ #[(.agg (aH.C v14).toArray)]) ay fun (v22:Bool)=>br v22 ( hpv Tryz.prog (Instr.makeInterface ut (.string str_ae9b7a08)) encV fun (v24:Value)=>nope) ( wD a0 a1 K v14 v16 ())) ( hpv Tryz.prog (Instr.makeInterface ut (.string str_ae9b7a08)) encV fun (v24:Value)=>nope)
def vZ (a0:Value) (a1:Value) (K:Bool→Hp→Prop):Hp→Prop:=hpv Tryz.prog (do eqGuard .eql 195 (.tmp 8) (.const Value.nilIface) a0 Value.nilIface; binOp .eql 195 a0 Value.nilIface:Sem Value) ay fun (v9:Bool)=>br v9 ( K false) ( hpv Tryz.prog (do eqGuard .eql 20 (.tmp 10) (.const Value.nilIface) a1 Value.nilIface; binOp .eql 20 a1 Value.nilIface:Sem Value) ay fun (v11:Bool)=>br v11 ( hpv Tryz.prog (Instr.makeInterface ut (.string str_53947bae)) encV fun (v12:Value)=>nope) ( wE a0 a1 K ()))
theorem sim_errors_As (a0:Value) (a1:Value) {K:Bool→Hp→Prop} {h:Hp} (H:vZ a0 a1 K h):Ct Tryz.prog tN #[a0,a1] h fun v h'=>∃ r,v = ay r∧K r h':=au [a0,a1] Tryz.func223 c c c fun _=>M<|O c<|aj<|M<|J c<|aa<|aO H (fU c c) c fun v9 _ H1=>ac<|ar c H1 (fun k2 H3=>M<|O c<|ah<|Y ⟨false,c,H3⟩) fun k2 H3=>am<|ee (wE a0 a1 K) (fun s4=>[(0,a0),(1,a1)]) (fun s4=>[]) (M<|J c<|aa<|aO H3 (fU c c) c fun v11 _ H34=>ac<|ar c H34 (fun k35 H36=>ap<|aa<|aO H36 (gb c) c fun v12 _ H37=>evlNo H37) fun k35 H36=>am<|cC () H36 (.cons c<|.cons c<|.nil _) .slnil) fun s4 _ H5=>M<|J c<|aa<|fI H5 (rl (vs:=[a1]) c) c fun v14 _ H6=>aa<|aK (l:=aH.C (⟨none,none,0⟩:aH)) zero_295 c c fun b5=>aa<|aN (k:=0) (vs:=aH.C v14) inf_295 c c c c c c c<|ac<|M<|bg (bw (k:=0) ag_295 c c c c) c<|aa<|fI H6 (rl (vs:=[(.agg (aH.C v14).toArray)]) c) c fun v16 _ H7=>O c<|ee (wD a0 a1 K v14 v16) (fun s8=>[(0,a0),(1,a1),(5,(.pointer (some ⟨b5,0,none⟩))),(6,v16)]) (fun s8=>[bx b5 295 (aH.C v14)]) (M<|J c<|aa<|fI H7 (fH (vs:=[]) c c) c fun v18 _ H24=>p (nF c c)<|J c<|V c c (aG _) (fun g25=>cv<|bw (k:=0) ag_295 c c c c)<|bP H24 (fun k27 H28=>F (D<|bY k27)<|fI H28 (rl (vs:=[(.agg (aH.C v14).toArray)])<|aP (az c k27) bL) c fun v22 _ H29=>p (ao c (bY k27) c)<|ac<|ar c H29 (fun k30 H31=>ap<|aa<|aO H31 (gb c) c fun v24 _ H32=>evlNo H32) fun k30 H31=>am<|cC () H31 (.cons c<|.cons c<|.cons c<|.cons c<|.nil _)<|.cons_cons _ .slnil) fun k27 H28=>W (bV<|bE k27)<|p (aR c (bE k27) c)<|ac<|lY c c<|ap<|aa<|aO H28 (gb c) c fun v24 _ H33=>evlNo H33) fun s8 _ H9=>M<|J c<|aa<|fI H9 (fH (vs:=[]) c c) c fun v26 _ H10=>O c<|ee (rF a0 a1 K v14 v26) (fun s11=>[(0,a0),(1,a1),(5,(.pointer (some ⟨b5,0,none⟩))),(7,v26)]) (fun s11=>[bx b5 295 (aH.C v14)]) (M<|J c<|aa<|fI H10 (fH (vs:=[]) c c) c fun v28 _ H14=>p (nF c c)<|J c<|V c c (aw _) (fun g15=>wv<|ag c)<|bP H14 (fun k17 H18=>F (D k17)<|aT H18 sc_243 c (fun _=>c) c fun x32 H19=>F (D k17)<|fI H19 (fH (vs:=[x32]) (az c k17) c) c fun v33 _ H20=>F (D k17)<|R (cf c)<|p (aR c k17 c)<|ac<|ar c H20 (fun k21 H22=>ap<|aa<|aO H22 (gb c) c fun v36 _ H23=>evlNo H23) fun k21 H22=>am<|cC () H22 (.cons c<|.cons c<|.cons c<|.cons c<|.nil _)<|.cons_cons _ .slnil) fun k17 H18=>W (aQ k17)<|W (aQ k17)<|W (aQ k17)<|p (ao c k17 c)<|ac<|ev_no c c<|am<|cC () H18 (.cons c<|.cons c<|.cons c<|.cons c<|.nil _)<|.cons_cons _ .slnil) fun s11 _ H12=>M<|J c<|J c<|bg (bw (k:=0) ag_295 c c c c) c<|J c<|aa<|Z H12 en_228 fun r41 _ H13=>O c<|ah<|Y ⟨r41,c,H13⟩
def errors_is_l2 (a1:Value) (a2:Bool) (K:Bool→Hp→Prop) (v43:Sl) (Rec26:Int→Hp→Prop) (s25:Int):Hp→Prop:=br (decide (s25 < (v43.len:Int))) ( ix v43 s25 fun q47=>ld (q47.1,q47.2 + Int.toNat s25 * 1) cV fun x48=>cl Tryz.prog ni [x48,a1,(.bool a2)] ay fun r52=>br r52 ( K true) ( Rec26 (IntKind.i64.wrap (s25 + 1)))) ( K false)
def rE (a1:Value) (a2:Bool) (K:Bool→Hp→Prop) (Rec2:Value→Hp→Prop) (s1:Value) (s12:Unit):Hp→Prop:=hpv Tryz.prog (Instr.typeAssert s1 fW iL true) fS fun (v32:Value × Bool)=>br v32.2 ( cln Tryz.prog (callMethod v32.1 "Unwrap" #[]) encV fun (v36:Value)=>hpv Tryz.prog (do eqGuard .eql 195 (.tmp 37) (.const Value.nilIface) v36 Value.nilIface; binOp .eql 195 v36 Value.nilIface:Sem Value) ay fun (v38:Bool)=>br v38 ( K false) ( Rec2 v36)) ( hpv Tryz.prog (Instr.typeAssert s1 fW ie true) fE fun (v39:Value × Bool)=>br v39.2 ( cln Tryz.prog (callMethod v39.1 "Unwrap" #[]) R_Serror fun (v43:Sl)=>Lp (errors_is_l2 a1 a2 K v43) 0) ( K false))
def errors_is_l3 (a1:Value) (a2:Bool) (K:Bool→Hp→Prop) (v43:Sl) (Rec60:Int→Hp→Prop) (s59:Int):Hp→Prop:=br (decide (s59 < (v43.len:Int))) ( ix v43 s59 fun q47=>ld (q47.1,q47.2 + Int.toNat s59 * 1) cV fun x48=>cl Tryz.prog ni [x48,a1,(.bool a2)] ay fun r52=>br r52 ( K true) ( Rec60 (IntKind.i64.wrap (s59 + 1)))) ( K false)
def wz (a1:Value) (a2:Bool) (K:Bool→Hp→Prop) (Rec2:Value→Hp→Prop) (s1:Value) (s46:Unit):Hp→Prop:=hpv Tryz.prog (Instr.typeAssert s1 fW iL true) fS fun (v32:Value × Bool)=>br v32.2 ( cln Tryz.prog (callMethod v32.1 "Unwrap" #[]) encV fun (v36:Value)=>hpv Tryz.prog (do eqGuard .eql 195 (.tmp 37) (.const Value.nilIface) v36 Value.nilIface; binOp .eql 195 v36 Value.nilIface:Sem Value) ay fun (v38:Bool)=>br v38 ( K false) ( Rec2 v36)) ( hpv Tryz.prog (Instr.typeAssert s1 fW ie true) fE fun (v39:Value × Bool)=>br v39.2 ( cln Tryz.prog (callMethod v39.1 "Unwrap" #[]) R_Serror fun (v43:Sl)=>Lp (errors_is_l3 a1 a2 K v43) 0) ( K false))
def rD (a1:Value) (a2:Bool) (K:Bool→Hp→Prop) (Rec2:Value→Hp→Prop) (s1:Value):Hp→Prop:=br a2 ( hpv Tryz.prog (do eqGuard .eql 195 (.tmp 16) (.tmp 17) s1 a1; binOp .eql 195 s1 a1:Sem Value) ay fun (v18:Bool)=>br v18 ( K true) ( hpv Tryz.prog (Instr.typeAssert s1 fW lN true) jq fun (v22:Value × Bool)=>br v22.2 ( cln Tryz.prog (callMethod v22.1 "Is" #[a1]) ay fun (v29:Bool)=>br v29 ( K true) ( rE a1 a2 K Rec2 s1 ())) ( rE a1 a2 K Rec2 s1 ()))) ( hpv Tryz.prog (Instr.typeAssert s1 fW lN true) jq fun (v22:Value × Bool)=>br v22.2 ( cln Tryz.prog (callMethod v22.1 "Is" #[a1]) ay fun (v29:Bool)=>br v29 ( K true) ( wz a1 a2 K Rec2 s1 ())) ( wz a1 a2 K Rec2 s1 ()))
def vX (a0:Value) (a1:Value) (a2:Bool) (K:Bool→Hp→Prop):Hp→Prop:=Lp (rD a1 a2 K) a0
theorem sim_errors_is (a0:Value) (a1:Value) (a2:Bool) {K:Bool→Hp→Prop} {h:Hp} (H:vX a0 a1 a2 K h):Ct Tryz.prog ni #[a0,a1,(.bool a2)] h fun v h'=>∃ r,v = ay r∧K r h':=au [a0,a1,(.bool a2)] Tryz.func183 c c c fun _=>M<|O c<|av<|bA (step:=rD a1 a2 K) (fun s1=>[(0,s1),(1,a1),(2,(.bool a2))]) (fun s1=>[]) H (.cons c<|.cons c<|.cons c<|.nil _) .slnil fun Rec2 s1 _ H3=>av<|aj<|M<|J c<|J c<|V c c (aw _) (fun g4=>wv<|ag c)<|V c c (aw _) (fun g5=>wv<|ag c)<|bP H3 (fun k7 H8=>F (D k7)<|aO H8 (fU (az c k7)<|az c k7) c fun v18 _ H9=>p (aR c k7 c)<|ac<|ar c H9 (fun k10 H11=>M<|O c<|ah<|Y ⟨true,c,H11⟩) fun k10 H11=>am<|ee (rE a1 a2 K Rec2 s1) (fun s12=>[(0,s1),(1,a1),(2,(.bool a2))]) (fun s12=>[]) (M<|J c<|aa<|aO H11 (fF c) c fun v22 _ H37=>J c<|p (ai c c)<|p (ai c c)<|p (aq c)<|O c<|M<|J c<|J c<|V c c (aw _) (fun g38=>wv<|ag c)<|V c c (aw _) (fun g39=>wv<|ag c)<|bP H37 (fun k41 H42=>F (D k41)<|fI H42 (fH (vs:=[a1]) (az c k41)<|aP (az c k41) bL) c fun v29 _ H43=>p (aR c k41 c)<|ac<|ar c H43 (fun k44 H45=>M<|O c<|ah<|Y ⟨true,c,H45⟩) fun k44 H45=>am<|cC () H45 (.cons c<|.cons c<|.cons c<|.nil _) .slnil) fun k41 H42=>W (aQ k41)<|p (ao c k41 c)<|ac<|ev_no c c<|am<|cC () H42 (.cons c<|.cons c<|.cons c<|.nil _) .slnil) fun s12 _ H13=>M<|J c<|ac<|av<|M<|aa<|aO H13 (fF c) c fun v32 _ H14=>p (ai c c)<|p (ai c c)<|ac<|ar c H14 (fun k15 H16=>M<|O c<|M<|J c<|aa<|fI H16 (fH (vs:=[]) c c) c fun v36 _ H17=>O c<|M<|J c<|aa<|aO H17 (fU c c) c fun v38 _ H18=>ac<|ar c H18 (fun k19 H20=>M<|O c<|ah<|Y ⟨false,c,H20⟩) fun k19 H20=>am<|cF v36 H20 (.cons c<|.cons c<|.cons c<|.nil _) .slnil) fun k15 H16=>M<|aa<|aO H16 (fF c) c fun v39 _ H21=>p (ai c c)<|p (ai c c)<|ac<|ar c H21 (fun k22 H23=>M<|O c<|aj<|M<|J c<|aa<|fI H23 (fH (vs:=[]) c c) c fun v43 _ H24=>p (dz c Tryz.underlying278 c)<|J c<|ac<|av<|bA (step:=errors_is_l2 a1 a2 K v43) (fun s25=>[(1,a1),(2,(.bool a2)),(43,(sv v43)),(44,(.int .i64 (v43.len:Int))),(45,(.int .i64 s25))]) (fun s25=>[]) H24 (.cons c<|.cons c<|.cons c<|.cons c<|.cons c<|.nil _) .slnil fun Rec26 s25 _ H27=>M<|p (cm c c)<|ac<|aj<|ar c H27 (fun k28 H29=>am<|aj<|av<|M<|ce H29 fun q47 e30 h31 H32=>p (bo slc_278 (aL c<|aZ e30) c h31)<|aa<|aT H32 sc_195 c (fun _=>c) c fun x48 H33=>O c<|M<|J c<|J c<|J c<|aa<|Z H33 en_183 fun r52 _ H34=>ac<|ar c H34 (fun k35 H36=>M<|O c<|ah<|Y ⟨true,c,H36⟩) fun k35 H36=>am<|ap<|p (bp c c)<|J c<|ac<|cF (IntKind.i64.wrap (s25 + 1)) H36 (.cons c<|.cons c<|.cons c<|.cons c<|.cons c<|.nil _) .slnil) fun k28 H29=>bh<|M<|O c<|ah<|Y ⟨false,c,H29⟩) fun k22 H23=>M<|O c<|M<|O c<|ah<|Y ⟨false,c,H23⟩) fun k7 H8=>W (aQ k7)<|p (ao c k7 c)<|ac<|ev_no c c<|am<|ee (wz a1 a2 K Rec2 s1) (fun s46=>[(0,s1),(1,a1),(2,(.bool a2))]) (fun s46=>[]) (M<|J c<|aa<|aO H8 (fF c) c fun v22 _ H71=>J c<|p (ai c c)<|p (ai c c)<|p (aq c)<|O c<|M<|J c<|J c<|V c c (aw _) (fun g72=>wv<|ag c)<|V c c (aw _) (fun g73=>wv<|ag c)<|bP H71 (fun k75 H76=>F (D k75)<|fI H76 (fH (vs:=[a1]) (az c k75)<|aP (az c k75) bL) c fun v29 _ H77=>p (aR c k75 c)<|ac<|ar c H77 (fun k78 H79=>M<|O c<|ah<|Y ⟨true,c,H79⟩) fun k78 H79=>am<|cC () H79 (.cons c<|.cons c<|.cons c<|.nil _) .slnil) fun k75 H76=>W (aQ k75)<|p (ao c k75 c)<|ac<|ev_no c c<|am<|cC () H76 (.cons c<|.cons c<|.cons c<|.nil _) .slnil) fun s46 _ H47=>M<|J c<|ac<|av<|M<|aa<|aO H47 (fF c) c fun v32 _ H48=>p (ai c c)<|p (ai c c)<|ac<|ar c H48 (fun k49 H50=>M<|O c<|M<|J c<|aa<|fI H50 (fH (vs:=[]) c c) c fun v36 _ H51=>O c<|M<|J c<|aa<|aO H51 (fU c c) c fun v38 _ H52=>ac<|ar c H52 (fun k53 H54=>M<|O c<|ah<|Y ⟨false,c,H54⟩) fun k53 H54=>am<|cF v36 H54 (.cons c<|.cons c<|.cons c<|.nil _) .slnil) fun k49 H50=>M<|aa<|aO H50 (fF c) c fun v39 _ H55=>p (ai c c)<|p (ai c c)<|ac<|ar c H55 (fun k56 H57=>M<|O c<|aj<|M<|J c<|aa<|fI H57 (fH (vs:=[]) c c) c fun v43 _ H58=>p (dz c Tryz.underlying278 c)<|J c<|ac<|av<|bA (step:=errors_is_l3 a1 a2 K v43) (fun s59=>[(1,a1),(2,(.bool a2)),(43,(sv v43)),(44,(.int .i64 (v43.len:Int))),(45,(.int .i64 s59))]) (fun s59=>[]) H58 (.cons c<|.cons c<|.cons c<|.cons c<|.cons c<|.nil _) .slnil fun Rec60 s59 _ H61=>M<|p (cm c c)<|ac<|aj<|ar c H61 (fun k62 H63=>am<|aj<|av<|M<|ce H63 fun q47 e64 h65 H66=>p (bo slc_278 (aL c<|aZ e64) c h65)<|aa<|aT H66 sc_195 c (fun _=>c) c fun x48 H67=>O c<|M<|J c<|J c<|J c<|aa<|Z H67 en_183 fun r52 _ H68=>ac<|ar c H68 (fun k69 H70=>M<|O c<|ah<|Y ⟨true,c,H70⟩) fun k69 H70=>am<|ap<|p (bp c c)<|J c<|ac<|cF (IntKind.i64.wrap (s59 + 1)) H70 (.cons c<|.cons c<|.cons c<|.cons c<|.cons c<|.nil _) .slnil) fun k62 H63=>bh<|M<|O c<|ah<|Y ⟨false,c,H63⟩) fun k56 H57=>M<|O c<|M<|O c<|ah<|Y ⟨false,c,H57⟩
def vY (a0:Value) (a1:Value) (K:Bool→Hp→Prop):Hp→Prop:=hpv Tryz.prog (do eqGuard .eql 195 (.tmp 6) (.const Value.nilIface) a0 Value.nilIface; binOp .eql 195 a0 Value.nilIface:Sem Value) ay fun (v7:Bool)=>br (!v7) ( hpv Tryz.prog (do eqGuard .eql 195 (.tmp 9) (.const Value.nilIface) a1 Value.nilIface; binOp .eql 195 a1 Value.nilIface:Sem Value) ay fun (v10:Bool)=>br v10 ( hpv Tryz.prog (do eqGuard .eql 195 (.tmp 12) (.tmp 13) a0 a1; binOp .eql 195 a0 a1:Sem Value) ay fun (v14:Bool)=>K v14) ( cln Tryz.prog (callFunc fJ #[a1]) encV fun (v16:Value)=>cln Tryz.prog (callMethod v16 "Comparable" #[]) ay fun (v17:Bool)=>cl Tryz.prog ni [a0,a1,(.bool v17)] ay fun r21=>K r21)) ( hpv Tryz.prog (do eqGuard .eql 195 (.tmp 12) (.tmp 13) a0 a1; binOp .eql 195 a0 a1:Sem Value) ay fun (v14:Bool)=>K v14)
theorem sim_errors_Is (a0:Value) (a1:Value) {K:Bool→Hp→Prop} {h:Hp} (H:vY a0 a1 K h):Ct Tryz.prog nj #[a0,a1] h fun v h'=>∃ r,v = ay r∧K r h':=au [a0,a1] Tryz.func141 c c c fun _=>M<|O c<|aj<|M<|J c<|aa<|aO H (fU c c) c fun v7 _ H1=>J c<|V c c (aG _) (fun g2=>wv<|ag c)<|bP H1 (fun k4 H5=>F (D<|bY k4)<|aO H5 (fU (az c k4) c) c fun v10 _ H6=>p (ao c (bY k4) c)<|ac<|ar c H6 (fun k7 H8=>M<|J c<|J c<|aa<|aO H8 (fU c c) c fun v14 _ H9=>O c<|ah<|Y ⟨v14,c,H9⟩) fun k7 H8=>am<|M<|J c<|aa<|fI H8 (rl (vs:=[a1]) c) c fun v16 _ H10=>aa<|fI H10 (fH (vs:=[]) c c) c fun v17 _ H11=>O c<|M<|J c<|J c<|J c<|aa<|Z H11 en_183 fun r21 _ H12=>O c<|ah<|Y ⟨r21,c,H12⟩) fun k4 H5=>W (bV<|bE k4)<|p (aR c (bE k4) c)<|ac<|lY c c<|M<|J c<|J c<|aa<|aO H5 (fU c c) c fun v14 _ H13=>O c<|ah<|Y ⟨v14,c,H13⟩
end Go.Proofs.YtmggcfijlpldpaaGreatDoor
namespace Go.Proofs.YtmggcfijlpldpaaGreatDoor
open Go Mb
set_option linter.unusedVariables false
def sh_trap_Of (a0:Int) (K:Value→Hp→Prop):Hp→Prop:=br (a0 == 0) ( K Value.nilIface) ( nw mV (bR.C (⟨a0,(-1),(⟨0,0,0,0,0⟩:ae),Value.nilIface⟩:bR)) fun b7=>hpv Tryz.prog (Instr.makeInterface bd (.pointer (some ⟨b7,0,none⟩))) encV fun (v8:Value)=>K v8)
theorem sim_trap_Of (a0:Int) {K:Value→Hp→Prop} {h:Hp} (H:sh_trap_Of a0 K h):Ct Tryz.prog jZ #[(.int .i64 a0)] h fun v h'=>∃ r,v = ib r∧K r h':=au [(.int .i64 a0)] Tryz.func142 c c c fun _=>M<|O c<|aj<|M<|J c<|p (bM c c)<|ac<|ar c H (fun k1 H2=>M<|O c<|ah<|Y ⟨Value.nilIface,c,H2⟩) fun k1 H2=>am<|M<|J c<|p (aW c<|build_248_0_1 a0 (-1))<|aa<|gP c c c H2 fun b7 _ H3=>aa<|aO H3 (gb c) c fun v8 _ H4=>O c<|ah<|Y ⟨v8,c,H4⟩
def mc (K:(Ptr × Bool)→Hp→Prop) (b4:Nat) (s2:Bool):Hp→Prop:=br s2 ( K (none,false)) ( ld (b4,0) cP fun x13=>K (x13,true))
def ug (a0:Value) (K:(Ptr × Bool)→Hp→Prop):Hp→Prop:=nw bd [pv none] fun b4=>hpv Tryz.prog (Instr.makeInterface bv (.pointer (some ⟨b4,0,none⟩))) encV fun (v6:Value)=>cl Tryz.prog tN [a0,v6] ay fun r7=>br (!(!r7)) ( ld (b4,0) cP fun x10=>mc K b4 x10.isNone) ( mc K b4 true)
theorem sim_trap_First (a0:Value) {K:(Ptr × Bool)→Hp→Prop} {h:Hp} (H:ug a0 K h):Ct Tryz.prog jE #[a0] h fun v h'=>∃ r,v = eo r∧K r h':=au [a0] Tryz.func217 c c c fun _=>M<|p (aq c)<|O c<|M<|aa<|to_alloc zero_246 c c H fun b4 _ H1=>ac<|aj<|ee (mc K b4) (fun s2=>[(4,(.pointer (some ⟨b4,0,none⟩))),(12,(.bool s2))]) (fun s2=>[]) (ap<|J c<|aa<|aO H1 (gb c) c fun v6 _ H7=>aa<|Z H7 en_223 fun r7 _ H8=>p (cf c)<|J c<|bP H8 (fun k10 H11=>F (D<|bY k10)<|aT H11 sc_246 c (fun _=>c) c fun x10 H12=>F (D<|bY k10)<|R (cg Tryz.underlying246 c)<|p (ao c (bY k10) c)<|ac<|cC x10.isNone H12 (.cons c<|.cons c<|.nil _) .slnil) fun k10 H11=>W (bV<|bE k10)<|W (bV<|bE k10)<|p (aR c (bE k10) c)<|ac<|cC true H11 (.cons c<|.cons c<|.nil _) .slnil) fun s2 _ H3=>ar c H3 (fun k4 H5=>M<|p (aq c)<|O c<|ah<|bt (bJ c (bT c)<|bT c) ⟨(none,false),c,H5⟩) fun k4 H5=>am<|M<|aa<|aT H5 sc_246 c (fun _=>c) c fun x13 H6=>p (aq c)<|O c<|ah<|bt (bJ c (bT c)<|bT c) ⟨(x13,true),c,H6⟩
def sh_trap_Code (a0:Value) (K:Int→Hp→Prop):Hp→Prop:=hpv Tryz.prog (do eqGuard .eql 195 (.tmp 5) (.const Value.nilIface) a0 Value.nilIface; binOp .eql 195 a0 Value.nilIface:Sem Value) ay fun (v6:Bool)=>br v6 ( K 0) ( cl Tryz.prog jE [a0] eo fun r9=>br r9.2 ( nn r9.1 fun q14=>ld (q14.1,q14.2 + 0) (cI .i64) fun x16=>K x16) ( K 9))
theorem sim_trap_Code (a0:Value) {K:Int→Hp→Prop} {h:Hp} (H:sh_trap_Code a0 K h):Ct Tryz.prog tK #[a0] h fun v h'=>∃ r,v = bf r∧K r h':=au [a0] Tryz.func201 c c c fun _=>M<|O c<|aj<|M<|J c<|aa<|aO H (fU c c) c fun v6 _ H1=>ac<|ar c H1 (fun k2 H3=>M<|O c<|ah<|Y ⟨0,c,H3⟩) fun k2 H3=>am<|aj<|M<|J c<|aa<|Z H3 en_217 fun r9 _ H4=>J c<|p (ai c c)<|p (ai c c)<|p (aq c)<|O c<|M<|J c<|ac<|ar c H4 (fun k5 H6=>M<|J c<|bC H6 fun q14 e7 H8=>p (aI<|aL c<|an e7)<|p (ad uW c)<|aa<|aT H8 kK c (fun _=>c) c fun x16 H9=>O c<|ah<|Y ⟨x16,c,H9⟩) fun k5 H6=>am<|M<|O c<|ah<|Y ⟨9,c,H6⟩
def sh_trap_In (a0:Int) (a1:ae) (a2:Value) (K:Value→Hp→Prop):Hp→Prop:=hpv Tryz.prog (do eqGuard .eql 195 (.tmp 7) (.const Value.nilIface) a2 Value.nilIface; binOp .eql 195 a2 Value.nilIface:Sem Value) ay fun (v8:Bool)=>br v8 ( K Value.nilIface) ( cl Tryz.prog tK [a2] bf fun r10=>hpv Tryz.prog (Instr.build mV #[(0,(.int .i64 r10)),(1,(.int .i64 a0)),(2,(.agg (ae.C a1).toArray)),(3,a2)]) R_trap_Trap fun (v14:bR)=>nw mV (bR.C v14) fun b15=>hpv Tryz.prog (Instr.makeInterface bd (.pointer (some ⟨b15,0,none⟩))) encV fun (v16:Value)=>K v16)
theorem sim_trap_In (a0:Int) (a1:ae) (a2:Value) {K:Value→Hp→Prop} {h:Hp} (H:sh_trap_In a0 a1 a2 K h):Ct Tryz.prog n_trap_In #[(.int .i64 a0),(.agg (ae.C a1).toArray),a2] h fun v h'=>∃ r,v = ib r∧K r h':=au [(.int .i64 a0),(.agg (ae.C a1).toArray),a2] Tryz.func177 c c c fun _=>M<|aa<|cD (l:=ae.C a1) c c c fun b4=>O c<|aj<|M<|J c<|aa<|aO H (fU c c) c fun v8 _ H1=>ac<|ar c H1 (fun k2 H3=>M<|O c<|ah<|Y ⟨Value.nilIface,c,H3⟩) fun k2 H3=>am<|aj<|bj (n:=9) [bx b4 34 (ae.C a1)] ch c (.cons_cons _ .slnil)<|U 0 c (ag c)<|U 2 c (ag c)<|z_E 3 c (dX (k:=0) eQ c c c c)<|U 4 c (ag c)<|G 1 c<|Z H3 en_201 fun r10 _ H4=>⟨.cons_cons _ .slnil,G 5 c<|aO H4 (x_build (vs:=[(.int .i64 r10),(.int .i64 a0),(.agg (ae.C a1).toArray),a2]) c) c fun v14 _ H5=>⟨.cons_cons _ .slnil,G 6 c<|gP c c c H5 fun b15 _ H6=>⟨.cons_cons _ .slnil,G 7 c<|aO H6 (gb c) c fun v16 _ H7=>⟨.cons_cons _ .slnil,U 8 c (aq c)<|aS (by kernel_rfl)<|ah<|Y ⟨v16,c,H7⟩⟩⟩⟩⟩
def me (K:Int→Hp→Prop) (Rec3:(Int × Ptr × Bool)→Hp→Prop) (s2:Int × Ptr × Bool):Hp→Prop:=br s2.2.2 ( nn s2.2.1 fun q14=>ld (q14.1,q14.2 + 7) cV fun x16=>cl Tryz.prog jE [x16] eo fun r17=>Rec3 ((IntKind.i64.wrap (s2.1 + 1)),r17.1,r17.2)) ( K s2.1)
def sh_trap_Depth (a0:Value) (K:Int→Hp→Prop):Hp→Prop:=cl Tryz.prog jE [a0] eo fun r8=>Lp (me K) (0,r8.1,r8.2)
theorem sim_trap_Depth (a0:Value) {K:Int→Hp→Prop} {h:Hp} (H:sh_trap_Depth a0 K h):Ct Tryz.prog wg #[a0] h fun v h'=>∃ r,v = dW r∧K r h':=au [a0] Tryz.func224 c c c fun _=>M<|O c<|M<|O c<|aj<|M<|J c<|aa<|Z H en_217 fun r8 _ H1=>J c<|p (ai c c)<|p (ai c c)<|p (aq c)<|O c<|av<|bA (step:=me K) (fun s2=>[(3,(.int .i64 s2.1)),(4,(pv s2.2.1)),(5,(.bool s2.2.2))]) (fun s2=>[]) H1 (.cons c<|.cons c<|.cons c<|.nil _) .slnil fun Rec3 s2 _ H4=>aj<|M<|J c<|ac<|ar c H4 (fun k5 H6=>am<|aj<|av<|ap<|J c<|p (bp c c)<|O c<|ap<|J c<|bC H6 fun q14 e7 H8=>p (aI<|aL c<|an e7)<|p (ad fld_248_3 c)<|aa<|aT H8 sc_195 c (fun _=>c) c fun x16 H9=>aa<|Z H9 en_217 fun r17 _ H10=>J c<|p (ai c c)<|p (ai c c)<|p (aq c)<|O c<|cF ((IntKind.i64.wrap (s2.1 + 1)),r17.1,r17.2) H10 (.cons c<|.cons c<|.cons c<|.nil _) .slnil) fun k5 H6=>bh<|M<|J c<|O c<|ah<|Y ⟨s2.1,c,H6⟩
def mE (a0:Ptr) (K:ByteArray→Hp→Prop):Hp→Prop:=br a0.isNone ( K (⟨#[]⟩:ByteArray)) ( nn a0 fun q7=>ld (q7.1,q7.2 + 0) (cI .i64) fun x9=>cl Tryz.prog sA [(.int .i64 x9)] dM fun r10=>hpv Tryz.prog (do eqGuard .add 9 (.const (.string (⟨#[116,114,97,112,32]⟩:ByteArray))) (.tmp 10) (.string (⟨#[116,114,97,112,32]⟩:ByteArray)) (.string r10); binOp .add 9 (.string (⟨#[116,114,97,112,32]⟩:ByteArray)) (.string r10):Sem Value) dM fun (v11:ByteArray)=>ld (q7.1,q7.2 + 7) cV fun x15=>hpv Tryz.prog (do eqGuard .neq 195 (.tmp 15) (.const Value.nilIface) x15 Value.nilIface; binOp .neq 195 x15 Value.nilIface:Sem Value) ay fun (v16:Bool)=>br v16 ( ld (q7.1,q7.2 + 7) cV fun x21=>cln Tryz.prog (callMethod x21 "Error" #[]) dM fun (v22:ByteArray)=>hpv Tryz.prog (do eqGuard .add 9 (.const (.string (⟨#[58,32]⟩:ByteArray))) (.tmp 22) (.string (⟨#[58,32]⟩:ByteArray)) (.string v22); binOp .add 9 (.string (⟨#[58,32]⟩:ByteArray)) (.string v22):Sem Value) dM fun (v23:ByteArray)=>hpv Tryz.prog (do eqGuard .add 9 (.tmp 17) (.tmp 23) (.string v11) (.string v23); binOp .add 9 (.string v11) (.string v23):Sem Value) dM fun (v24:ByteArray)=>K v24) ( K v11))
theorem qS (a0:Ptr) {K:ByteArray→Hp→Prop} {h:Hp} (H:mE a0 K h):Ct Tryz.prog iz #[(pv a0)] h fun v h'=>∃ r,v = dM r∧K r h':=au [(pv a0)] Tryz.func249 c c c fun _=>M<|O c<|aj<|M<|J c<|p (cg Tryz.underlying246 c)<|ac<|ar c H (fun k1 H2=>M<|O c<|ah<|Y ⟨(⟨#[]⟩:ByteArray),c,H2⟩) fun k1 H2=>am<|M<|J c<|bC H2 fun q7 e3 H4=>p (aI<|aL c<|an e3)<|p (ad uW c)<|aa<|aT H4 kK c (fun _=>c) c fun x9 H5=>aa<|Z H5 en_252 fun r10 _ H6=>aa<|aO H6 (fU c c) c fun v11 _ H7=>O c<|aj<|M<|J (aL c<|an e3)<|p (aI c)<|p (ad fld_248_3 c)<|aa<|aT H7 sc_195 c (fun _=>c) c fun x15 H8=>aa<|aO H8 (fU c c) c fun v16 _ H9=>ac<|ar c H9 (fun k10 H11=>ap<|J c<|J (aL c<|an e3)<|p (aI c)<|p (ad fld_248_3 c)<|aa<|aT H11 sc_195 c (fun _=>c) c fun x21 H12=>aa<|fI H12 (fH (vs:=[]) c c) c fun v22 _ H13=>aa<|aO H13 (fU c c) c fun v23 _ H14=>aa<|aO H14 (fU c c) c fun v24 _ H15=>O c<|M<|J c<|O c<|ah<|Y ⟨v24,c,H15⟩) fun k10 H11=>am<|M<|J c<|O c<|ah<|Y ⟨v11,c,H11⟩
def sh_trap_Trap_Is (a0:Ptr) (a1:Value) (K:Bool→Hp→Prop):Hp→Prop:=hpv Tryz.prog (Instr.typeAssert a1 fW bd true) eo fun (v9:Ptr × Bool)=>br v9.2 ( br (!a0.isNone) ( br (!v9.1.isNone) ( nn a0 fun q23=>nn v9.1 fun q27=>ld (q23.1,q23.2 + 0) (cI .i64) fun x25=>ld (q27.1,q27.2 + 0) (cI .i64) fun x29=>K (x25 == x29)) ( K false)) ( K false)) ( K false)
theorem sim_trap_Trap_Is (a0:Ptr) (a1:Value) {K:Bool→Hp→Prop} {h:Hp} (H:sh_trap_Trap_Is a0 a1 K h):Ct Tryz.prog sx #[(pv a0),a1] h fun v h'=>∃ r,v = ay r∧K r h':=au [(pv a0),a1] Tryz.func250 c c c fun _=>M<|O c<|M<|J c<|aa<|aO H (fF c) c fun v9 _ H1=>J c<|p (ai c c)<|p (ai c c)<|p (aq c)<|O c<|aj<|bj (n:=21) [] ch c .slnil<|U 0 c (ag c)<|U 1 c (ag c)<|pI H1 (fun k2 H3=>z_n 2 c (D k2) (ve<|ag c)<|z_n 3 c (D k2) (ve<|v_pneT Tryz.underlying246 c)<|U 4 c (aR c k2 c)<|U 5 c (ag c)<|pI H3 (fun k4 H5=>z_n 6 c (D k4) (ve<|ag c)<|z_n 7 c (D k4) (ve<|v_pneT Tryz.underlying246 c)<|U 8 c (aR c k4 c)<|U 9 c (ag c)<|pI H5 (fun k6 H7=>z_n 10 c (D k6) (ve<|ag c)<|z_n 14 c (D k6) (ve<|ag c)<|gD H7 fun q23 e8 H9=>z_n 11 c (D k6) (ve<|aI<|aL c<|an e8)<|z_n 12 c (D k6) (ve<|ad uW c)<|gD H9 fun q27 e10 H11=>z_n 15 c (D k6) (ve<|aI<|aL c<|an e10)<|z_n 16 c (D k6) (ve<|ad uW c)<|lM (i:=13) (fun _ _ _ _ hh=>hh) H11 c (by kernel_rfl) c c c (D k6) kK c (fun _=>c) c fun x25 H12=>lM (i:=17) (fun _ _ _ _ hh=>hh) H12 c (by kernel_rfl) c c c (D k6) kK c (fun _=>c) c fun x29 H13=>z_n 18 c (D k6) (ve<|bM c c)<|U 19 c (aR c k6 c)<|U 20 c (aq c)<|aS (by kernel_rfl)<|ah<|Y ⟨(x25 == x29),c,H13⟩) fun k6 H7=>I 10 c (aQ k6)<|I 11 c (aQ k6)<|I 12 c (aQ k6)<|I 13 c (aQ k6)<|I 14 c (aQ k6)<|I 15 c (aQ k6)<|I 16 c (aQ k6)<|I 17 c (aQ k6)<|I 18 c (aQ k6)<|U 19 c (ao c k6 c)<|U 20 c (aq c)<|aS (by kernel_rfl)<|ah<|Y ⟨false,c,H7⟩) fun k4 H5=>I 6 c (aQ k4)<|I 7 c (aQ k4)<|U 8 c (ao c k4 c)<|U 9 c (ag c)<|I 10 c c<|I 11 c c<|I 12 c c<|I 13 c c<|I 14 c c<|I 15 c c<|I 16 c c<|I 17 c c<|I 18 c c<|U 19 c (ao c c c)<|U 20 c (aq c)<|aS (by kernel_rfl)<|ah<|Y ⟨false,c,H5⟩) fun k2 H3=>I 2 c (aQ k2)<|I 3 c (aQ k2)<|U 4 c (ao c k2 c)<|U 5 c (ag c)<|I 6 c c<|I 7 c c<|U 8 c (ao c c c)<|U 9 c (ag c)<|I 10 c c<|I 11 c c<|I 12 c c<|I 13 c c<|I 14 c c<|I 15 c c<|I 16 c c<|I 17 c c<|I 18 c c<|U 19 c (ao c c c)<|U 20 c (aq c)<|aS (by kernel_rfl)<|ah<|Y ⟨false,c,H3⟩
def qT (a0:Ptr) (K:Value→Hp→Prop):Hp→Prop:=br a0.isNone ( K Value.nilIface) ( nn a0 fun q6=>ld (q6.1,q6.2 + 7) cV fun x8=>K x8)
theorem sim_trap_Trap_Unwrap (a0:Ptr) {K:Value→Hp→Prop} {h:Hp} (H:qT a0 K h):Ct Tryz.prog mG #[(pv a0)] h fun v h'=>∃ r,v = ib r∧K r h':=au [(pv a0)] Tryz.func251 c c c fun _=>M<|O c<|aj<|M<|J c<|p (cg Tryz.underlying246 c)<|ac<|ar c H (fun k1 H2=>M<|O c<|ah<|Y ⟨Value.nilIface,c,H2⟩) fun k1 H2=>am<|M<|J c<|bC H2 fun q6 e3 H4=>p (aI<|aL c<|an e3)<|p (ad fld_248_3 c)<|aa<|aT H4 sc_195 c (fun _=>c) c fun x8 H5=>O c<|ah<|Y ⟨x8,c,H5⟩
end Go.Proofs.YtmggcfijlpldpaaGreatDoor
namespace Go.Proofs.YtmggcfijlpldpaaGreatDoor
open Go Mb
variable {ET:Nat} {EF:Nat × Nat}
abbrev dm (b:Nat):Value:=.iface bd (.pointer (some ⟨b,0,none⟩))
theorem g0:Tryz.prog.globals.size = 4:=by kernel_rfl
theorem g1:typeHandle Tryz.prog bd = pv (some (4,bd)):=by kernel_rfl
theorem g2:(Tryz.prog.globals[0]?).map (·.type) = some 243:=by kernel_rfl
theorem oneErr:((List.range 350).filter fun t=>Tryz.prog.rowNamed t [101,114,114,111,114]) = [195]:=by kernel_rfl
theorem g4:Tryz.prog.types.size = 350:=by kernel_rfl
abbrev rtV (T:Nat):Value:=.iface qR (.agg #[pv (some (4,T))])
abbrev vl (T c f:Nat):aH:=⟨some (4,T),some (c,0),f⟩
abbrev vlV (T c f:Nat):Value:=.agg (aH.C (vl T c f)).toArray
section
variable (b:Nat) (K:Next→Hp→Prop) (h:Hp)
theorem x7:hp Tryz.prog (callFunc fJ #[dm b]) K h = K (.value (rtV bd)) h:=by kernel_rfl
theorem x8:hp Tryz.prog (callFunc cN #[.iface bv (.pointer (some ⟨b,0,none⟩))]) K h = (true = true∧∀ e,h e = none→K (.value (vlV bv e 150)) (eE h e (.cells #[pv (some (b,0))] bv (0,0)))):=by kernel_rfl
theorem x8':hp Tryz.prog (callFunc cN #[dm b]) K h = (true = true∧∀ e,h e = none→K (.value (vlV bd e 150)) (eE h e (.cells #[pv (some (b,0))] bd (0,0)))):=by kernel_rfl
theorem x10:hp Tryz.prog (callMethod (rtV bv) "Kind" #[]) K h = K (.value (.int .u8 22)) h:=by kernel_rfl
theorem x11:hp Tryz.prog (callMethod (rtV bv) "Elem" #[]) K h = K (.value (rtV bd)) h:=by kernel_rfl
theorem x12:hp Tryz.prog (callMethod (rtV bd) "Kind" #[]) K h = K (.value (.int .u8 22)) h:=by kernel_rfl
theorem x13:hp Tryz.prog (callMethod (rtV bd) "Comparable" #[]) K h = K (.value (.bool true)) h:=by kernel_rfl
theorem x14:hp Tryz.prog (callMethod (rtV bd) "AssignableTo" #[rtV bd]) K h = K (.value (.bool true)) h:=by kernel_rfl
theorem x15 (c:Nat):hp Tryz.prog (callFunc ic #[vlV bv c 150]) K h = K (.value (rtV bv)) h:=by kernel_rfl
theorem x16 (c:Nat):hp Tryz.prog (callFunc eJ #[vlV bv c 150]) K h =
  hp Tryz.prog (do let r ← Extern.ReflectliteValue.isNil bv ⟨c,0,none⟩ 150 22; pure (.value r)) K h:=by kernel_rfl
theorem x17:hp Tryz.prog (callMethod (rtV bd) "Implements" #[rtV fW]) K h = K (.value (.bool true)) h:=by kernel_rfl
theorem x18 (c:Nat):hp Tryz.prog (callFunc eT #[vlV bv c 150]) K h =
  hp Tryz.prog (do let r ← Extern.ReflectliteValue.elem bv ⟨c,0,none⟩ 150 22; pure (.value r)) K h:=by kernel_rfl
theorem x19 (c d:Nat):hp Tryz.prog (callFunc eW #[vlV bd c 406,vlV bd d 150]) K h =
  hp Tryz.prog (do let r ← (do let v ← loadVar bd ⟨d,0,none⟩; storeVar bd ⟨c,0,none⟩ v; pure (Value.tuple #[])); pure (.value r)) K h:=by kernel_rfl
theorem y1 (c:Nat) (K:Value→Hp→Prop):hp Tryz.prog (loadVar bv ⟨c,0,none⟩) K h = ∃ v,nr h ⟨c,0,none⟩ = some v∧K v h:=by kernel_rfl
theorem y2 (c:Nat) (K:Value→Hp→Prop):hp Tryz.prog (loadVar bd ⟨c,0,none⟩) K h = ∃ v,nr h ⟨c,0,none⟩ = some v∧K v h:=by kernel_rfl
theorem y3 (b:Nat) (K:Value→Hp→Prop):hp Tryz.prog (Extern.ReflectliteValue.mk bd ⟨b,0,none⟩ Extern.ReflectliteValue.flagAddr) K h = K (vlV bd b 406) h:=by kernel_rfl
theorem y4 (K:Option TypeId→Hp→Prop):hp Tryz.prog (Extern.Rtype.elem? bv) K h = K (some bd) h:=by kernel_rfl
theorem y5 (b c:Nat) (K:Unit→Hp→Prop):hp Tryz.prog (storeVar bd ⟨c,0,none⟩ (.pointer (some ⟨b,0,none⟩))) K h = hp Tryz.prog (storeCells ⟨c,0,none⟩ [.pointer (some ⟨b,0,none⟩)]) K h:=by kernel_rfl
theorem y6 (K:Value→Hp→Prop) {a b n m:Nat}:hp Tryz.prog (do eqGuard .eql 195 (.tmp n) (.tmp m) (dm a) (dm b); binOp .eql 195 (dm a) (dm b):Sem Value) K h = hp Tryz.prog (do let r ← sameAddr ⟨a,0,none⟩ ⟨b,0,none⟩; pure (.bool r)) K h:=by kernel_rfl
theorem x25 (K:Bool→Hp→Prop) {a b:Nat} {ca cb:List Value} {Ta Tb:Nat} (ha:h a = some (.cells ca.toArray Ta (0,0))) (hb:h b = some (.cells cb.toArray Tb (0,0))) (H:K (a == b) h):hp Tryz.prog (sameAddr ⟨a,0,none⟩ ⟨b,0,none⟩) K h:=by
  unfold sameAddr
  rcases Decidable.em (a = b) with e | e
  · subst e
    rw [if_pos (by simp)]
    have H':K true h:=by simpa using H
    simpa [hp_pure] using H'
  · rw [if_neg (by simpa using e)]
    have fa:∀ (K:Bool→Hp→Prop) (o:Nat),hp Tryz.prog (frozen ⟨a,o,none⟩) K h↔K false h:=fun K o =>
      ⟨fun ⟨o',h1,h2⟩=>by rw [ha] at h1; cases h1; simpa [hp,tH] using h2,fun h2=>⟨_,ha,by simpa [hp,tH] using h2⟩⟩
    have fb:∀ (K:Bool→Hp→Prop) (o:Nat),hp Tryz.prog (frozen ⟨b,o,none⟩) K h↔K false h:=fun K o =>
      ⟨fun ⟨o',h1,h2⟩=>by rw [hb] at h1; cases h1; simpa [hp,tH] using h2,fun h2=>⟨_,hb,by simpa [hp,tH] using h2⟩⟩
    have sa:∀ (K:Option (TypeId × Nat)→Hp→Prop),hp Tryz.prog (shape a) K h↔K (some (Ta,ca.length)) h:=fun K =>
      ⟨fun ⟨o',h1,h2⟩=>by rw [ha] at h1; cases h1; simpa [hp,oshape] using h2,fun h2=>⟨_,ha,by simpa [hp,oshape] using h2⟩⟩
    have sb:∀ (K:Option (TypeId × Nat)→Hp→Prop),hp Tryz.prog (shape b) K h↔K (some (Tb,cb.length)) h:=fun K =>
      ⟨fun ⟨o',h1,h2⟩=>by rw [hb] at h1; cases h1; simpa [hp,oshape] using h2,fun h2=>⟨_,hb,by simpa [hp,oshape] using h2⟩⟩
    have eb:(a == b) = false:=by simpa using e
    rw [eb] at H
    simp [cL,fa,fb,sa,sb,noView,viewAt,mayBeOne,stringish,hp_pure,H]
end
section
variable {P:Program} {τ:Type} {enc:τ→Value} {K:τ→Hp→Prop} {h:Hp}
theorem eX {m:Sem Value} (r:τ) (e:∀ (K:Value→Hp→Prop) h,hp P m K h = K (enc r) h) (k:K r h):hpv P m enc K h:=⟨by rw [e]; exact ⟨r,rfl,k⟩⟩
theorem sR {m:Sem Next} (r:τ) (e:∀ (K:Next→Hp→Prop) h,hp P m K h = K (.value (enc r)) h) (k:K r h):cln P m enc K h:=⟨by rw [e]; exact .inl ⟨r,rfl,k⟩⟩
theorem cln_en {m:Sem Next} {f:FuncId} {vs:List Value} (e:∀ (K:Next→Hp→Prop) h,hp P m K h = K (.enter f vs.toArray) h) (k:cl P f vs enc K h):cln P m enc K h:=⟨by rw [e]; exact .inr ⟨f,_,rfl,k⟩⟩
end
abbrev etB (ET:Nat) (EF:Nat × Nat):As:=obj 0 (.cells #[rtV fW] ET EF)
abbrev trB (b:Nat) (t:bR):As:=blk b mV (bR.C t)
theorem en_0 (b n:Nat) (K:Value→Hp→Prop) (h:Hp):hp Tryz.prog (do eqGuard .eql 195 (.tmp n) (.const Value.nilIface) (dm b) Value.nilIface; binOp .eql 195 (dm b) Value.nilIface:Sem Value) K h = K (.bool false) h:=by kernel_rfl
theorem en_00 (n:Nat) (K:Value→Hp→Prop) (h:Hp):hp Tryz.prog (do eqGuard .eql 195 (.tmp n) (.const Value.nilIface) Value.nilIface Value.nilIface; binOp .eql 195 Value.nilIface Value.nilIface:Sem Value) K h = K (.bool true) h:=by kernel_rfl
theorem en_1 (b n:Nat) (K:Value→Hp→Prop) (h:Hp):hp Tryz.prog (do eqGuard .eql 20 (.tmp n) (.const Value.nilIface) (.iface bv (.pointer (some ⟨b,0,none⟩))) Value.nilIface; binOp .eql 20 (.iface bv (.pointer (some ⟨b,0,none⟩))) Value.nilIface:Sem Value) K h = K (.bool false) h:=by kernel_rfl
theorem sp_As_nil (v:Value):Sp Tryz.prog tN [Value.nilIface,v] ay [] (fun r=>pa_ (r = false) []):=by
  intro h st
  refine sim_errors_As _ _ ?_
  unfold vZ
  exact eX true (en_00 _) (dL rfl (aU rfl st))
section
variable {h:Hp} {b c d:Nat}
theorem c22 {K:Bool→Hp→Prop} (e:nr h ⟨c,0,none⟩ = some (.pointer (some ⟨b,0,none⟩))) (H:K false h):cln Tryz.prog (callFunc eJ #[vlV bv c 150]) ay K h:=by
  constructor
  rw [x16,cL]
  unfold Extern.ReflectliteValue.isNil
  rw [if_neg (by decide)]
  rw [cL,y1]; exact ⟨_,e,.inl ⟨false,rfl,H⟩⟩
theorem c23 {K:aH→Hp→Prop} (e:nr h ⟨c,0,none⟩ = some (.pointer (some ⟨b,0,none⟩))) (H:K (vl bd b 406) h):cln Tryz.prog (callFunc eT #[vlV bv c 150]) fd K h:=by
  constructor
  rw [x18,cL]
  unfold Extern.ReflectliteValue.elem
  rw [if_neg (by decide),cL,y1]
  refine ⟨_,e,?_⟩
  rw [cL,y4]
  show hp _ (Extern.ReflectliteValue.mk _ _ _) _ h
  rw [y3]; exact .inl ⟨_,rfl,H⟩
theorem c24 {K:Unit→Hp→Prop} (e:nr h ⟨d,0,none⟩ = some (.pointer (some ⟨b,0,none⟩))) (H:hp Tryz.prog (storeCells ⟨c,0,none⟩ [.pointer (some ⟨b,0,none⟩)]) (fun _=>K ()) h):cln Tryz.prog (callFunc eW #[vlV bd c 406,vlV bd d 150]) R_ K h:=by
  constructor
  rw [x19,cL,cL,y2]; refine ⟨_,e,?_⟩
  rw [cL,y5]; exact hp_mono _ (fun _ _ k=>.inl ⟨(),rfl,k⟩) _ H
theorem c8 {K:aH→Hp→Prop} (H:∀ e,h e = none→K (vl bv e 150) (eE h e (.cells #[pv (some (b,0))] bv (0,0)))):cln Tryz.prog (callFunc cN #[.iface bv (.pointer (some ⟨b,0,none⟩))]) fd K h:=by
  constructor
  rw [x8]
  exact ⟨rfl,fun e he=>.inl ⟨_,rfl,H e he⟩⟩
theorem c8' {K:aH→Hp→Prop} (H:∀ e,h e = none→K (vl bd e 150) (eE h e (.cells #[pv (some (b,0))] bd (0,0)))):cln Tryz.prog (callFunc cN #[dm b]) fd K h:=by
  constructor
  rw [x8']
  exact ⟨rfl,fun e he=>.inl ⟨_,rfl,H e he⟩⟩
end
theorem blk_cell {l:List As} {h:Hp} {i b:Nat} {T:TypeId} {c:List Value} {v:Value} (hi:l[i]? = some (blk b T c)) (hv:c[0]? = some v) (s:aC l h):nr h ⟨b,0,none⟩ = some v:=by
  obtain ⟨g1,a1,sub1⟩:=dP hi s
  have:=sub1 _ _ a1
  unfold nr
  rw [this]
  simpa using hv
theorem sp_as (b c d:Nat) (p:Ptr):Sp Tryz.prog tM [dm b,.iface bv (.pointer (some ⟨c,0,none⟩)),vlV bv d 150,rtV bd] ay
    [blk c bd [pv p],blk d bv [pv (some (c,0))]] (fun r=>pa_ (r = true) [blk c bd [pv (some (b,0))]]):=by
  intro h st
  refine sim_errors_as _ _ _ _ ?_
  unfold sh_errors_as
  refine ⟨fun s h=>s = dm b∧aC [blk c bd [pv p],blk d bv [pv (some (c,0))]] h,fun _ _=>0,⟨rfl,st⟩,?_⟩
  rintro _ h1 ⟨rfl,s1⟩
  unfold wA
  refine sR (rtV bd) (fun K h=>x7 b K h) ?_
  refine sR true (fun K h=>x14 K h) (dL rfl ?_)
  refine c23 (blk_cell (i:=1) rfl rfl s1) ?_
  refine c8' fun e he=>?_
  have s2:aC (blk e bd [pv (some (b,0))]::_) _:=new_s (o:=.cells #[pv (some (b,0))] bd (0,0)) s1 he
  refine c24 (blk_cell (i:=0) (T:=bd) (c:=[pv (some (b,0))]) rfl rfl s2) ?_
  obtain ⟨g2,a2,sub2⟩:=dP (i:=1) (A:=blk c bd [pv p]) rfl s2
  refine hp_storeCells _ 0 0 [pv p] _ (sub2 _ _ a2) (by simp) rfl ?_
  have s3:aC (_::blk c bd [pv (some (b,0))]::_) _:=obj_set (o':=.cells #[pv (some (b,0))] bd (0,0)) (i:=1) s2 rfl
  exact aU rfl (bU (l:=[_,_]) (ba [0,1] s3 rfl))
theorem sp_As (b c:Nat) (p:Ptr):Sp Tryz.prog tN [dm b,.iface bv (.pointer (some ⟨c,0,none⟩))] ay
    [(etB ET EF),blk c bd [pv p]] (fun r=>pa_ (r = true) [(etB ET EF),blk c bd [pv (some (b,0))]]):=by
  intro h st
  refine sim_errors_As _ _ ?_
  unfold vZ
  refine eX false (en_0 b _) (df rfl ?_)
  refine eX false (en_1 c _) (df rfl ?_)
  unfold wE
  refine c8 fun e he=>?_
  have s2:aC (blk e bv [pv (some (c,0))]::_) _:=new_s (o:=.cells #[pv (some (c,0))] bv (0,0)) st he
  refine sR (rtV bv) (fun K h=>x15 K h e) ?_
  refine sR 22 (fun K h=>x10 K h) (dL rfl ?_)
  refine c22 (blk_cell (i:=0) (T:=bv) (c:=[pv (some (c,0))]) rfl rfl s2) (df rfl ?_)
  unfold wD
  refine sR (rtV bd) (fun K h=>x11 K h) ?_
  refine sR 22 (fun K h=>x12 K h) (dL rfl ?_)
  obtain ⟨g3,a3,sub3⟩:=dP (i:=1) (A:=etB ET EF) rfl s2
  refine ⟨rtV fW,⟨_,_,_,sub3 _ _ a3,fun i v hv=>?_⟩,?_⟩
  · rcases i with _ | i <;> first | exact hv | simp [cV] at hv
  refine sR true (fun K h=>x17 K h) (df rfl ?_)
  unfold rF
  refine cJ [2,0,1] (rest:=[(etB ET EF)]) (sp_as b c e p) s2 rfl fun r h' s3=>?_
  obtain ⟨rfl,s4⟩:=bn.1 s3
  exact aU rfl (ba [1,0] s4 rfl)
abbrev firstOf (b:Nat):Ptr × Bool:=(some (b,0),true)
theorem sp_First (b:Nat):Sp Tryz.prog jE [dm b] eo [(etB ET EF)] (fun r=>pa_ (r = firstOf b) [(etB ET EF)]):=by
  intro h st
  refine sim_trap_First _ ?_
  unfold ug
  refine oG st fun c h1 s1=>?_
  refine eX (.iface bv (.pointer (some ⟨c,0,none⟩))) (fun K h=>by kernel_rfl) ?_
  refine cJ [1,0] (rest:=[]) (sp_As b c none) s1 rfl fun r h' s2=>?_
  obtain ⟨rfl,s3⟩:=bn.1 s2
  refine dL rfl ?_
  refine bi (some (b,0)) s3 (i:=1) rfl rfl rfl ?_
  unfold mc
  refine df rfl ?_
  refine bi (some (b,0)) s3 (i:=1) rfl rfl rfl ?_
  exact aU rfl (bU (l:=[_]) (ba [1] s3 rfl))
theorem sp_First_nil:Sp Tryz.prog jE [Value.nilIface] eo [] (fun r=>pa_ (r = (none,false)) []):=by
  intro h st
  refine sim_trap_First _ ?_
  unfold ug
  refine oG st fun c h1 s1=>?_
  refine eX (.iface bv (.pointer (some ⟨c,0,none⟩))) (fun K h=>by kernel_rfl) ?_
  refine sZ (sp_As_nil _) s1 fun r h' hr s2=>?_
  subst hr
  refine df rfl ?_
  unfold mc
  exact dL rfl (aU rfl trivial)
theorem sp_Of (n:Int) (hn:n ≠ 0):Sp Tryz.prog jZ [.int .i64 n] ib [] (fun r=>ex fun b=>pa_ (r = dm b) [trB b ⟨n,-1,⟨0,0,0,0,0⟩,.nilIface⟩]):=by
  intro h st
  refine sim_trap_Of _ ?_
  unfold sh_trap_Of
  refine df (by simpa using hn) ?_
  refine oG st fun b h1 s1=>?_
  refine eX (dm b) (fun K h=>by kernel_rfl) ?_
  exact ⟨b,aU rfl s1⟩
theorem sp_Of0:Sp Tryz.prog jZ [.int .i64 0] ib [] (fun r=>pa_ (r = Value.nilIface) []):=by
  intro h st
  refine sim_trap_Of _ ?_
  unfold sh_trap_Of
  exact dL rfl (aU rfl st)
theorem sp_Code (b:Nat) (t:bR):Sp Tryz.prog tK [dm b] bf [(etB ET EF),trB b t] (fun r=>pa_ (r = t.fCode) [(etB ET EF),trB b t]):=by
  intro h st
  refine sim_trap_Code _ ?_
  unfold sh_trap_Code
  refine eX false (en_0 b _) (df rfl ?_)
  refine bK (i:=0) (sp_First b) rfl st fun r h' hr s2=>?_
  subst hr
  refine dL rfl (cx ?_)
  refine bi t.fCode s2 (i:=1) rfl rfl rfl ?_
  exact aU rfl s2
theorem sp_In (env:Int) (c:ae) (b:Nat) (t:bR):Sp Tryz.prog n_trap_In [.int .i64 env,.agg (ae.C c).toArray,dm b] ib [(etB ET EF),trB b t]
    (fun r=>ex fun e=>pa_ (r = dm e) [trB e ⟨t.fCode,env,c,dm b⟩,(etB ET EF),trB b t]):=by
  intro h st
  refine sim_trap_In _ _ _ ?_
  unfold sh_trap_In
  refine eX false (en_0 b _) (df rfl ?_)
  refine cJ [] (rest:=[]) (sp_Code b t) st (List.append_nil _).symm fun r h' s2=>?_
  obtain ⟨rfl,s3⟩:=bn.1 s2
  refine eX ⟨t.fCode,env,c,dm b⟩ (fun K h=>by kernel_rfl) ?_
  refine oG s3 fun e h1 s4=>?_
  refine eX (dm e) (fun K h=>by kernel_rfl) ?_
  exact ⟨e,aU rfl s4⟩
theorem sp_Depth2 (b e:Nat) (t u:bR) (ht:t.fErr = dm e) (hu:u.fErr = Value.nilIface):Sp Tryz.prog wg [dm b] dW [(etB ET EF),trB b t,trB e u] (fun r=>pa_ (r = 2) [(etB ET EF),trB b t,trB e u]):=by
  intro h st
  refine sim_trap_Depth _ ?_
  unfold sh_trap_Depth
  refine bK (i:=0) (sp_First b) rfl st fun r h' hr s2=>?_
  subst hr
  refine ⟨fun s h=>(s = (0,some (b,0),true)∨s = (1,some (e,0),true)∨s = (2,none,false))∧aC [(etB ET EF),trB b t,trB e u] h,fun s _=>3 - s.1.toNat,⟨.inl rfl,s2⟩,?_⟩
  rintro s h1 ⟨rfl | rfl | rfl,s3⟩
  · unfold me
    refine dL rfl (cx ?_)
    refine bi t.fErr s3 (i:=1) rfl rfl rfl ?_
    rw [ht]
    refine bK (i:=0) (sp_First e) rfl s3 fun r h' hr s4=>?_
    subst hr
    exact ⟨⟨.inr (.inl rfl),s4⟩,Nat.le_of_ble_eq_true rfl⟩
  · unfold me
    refine dL rfl (cx ?_)
    refine bi u.fErr s3 (i:=2) rfl rfl rfl ?_
    rw [hu]
    refine sZ sp_First_nil s3 fun r h' hr s4=>?_
    subst hr
    exact ⟨⟨.inr (.inr rfl),s4⟩,Nat.le_of_ble_eq_true rfl⟩
  · unfold me
    exact df rfl (aU rfl s3)
end Go.Proofs.YtmggcfijlpldpaaGreatDoor
namespace Go.Proofs.YtmggcfijlpldpaaGreatDoor
open Go Mb
set_option linter.unusedVariables false
def sh_strconv_Itoa (a0:Int) (K:ByteArray→Hp→Prop):Hp→Prop:=cl Tryz.prog ji [(.int .i64 a0)] dM fun r4=>K r4
theorem sim_strconv_Itoa (a0:Int) {K:ByteArray→Hp→Prop} {h:Hp} (H:sh_strconv_Itoa a0 K h):Ct Tryz.prog sA #[(.int .i64 a0)] h fun v h'=>∃ r,v = dM r∧K r h':=au [(.int .i64 a0)] Tryz.func252 c c c fun _=>M<|O c<|M<|J c<|aa<|Z H en_253 fun r4 _ H1=>O c<|ah<|Y ⟨r4,c,H1⟩
end Go.Proofs.YtmggcfijlpldpaaGreatDoor
namespace Go.Proofs.YtmggcfijlpldpaaGreatDoor
open Go Mb
set_option linter.unusedVariables false
def lO (a0:Int) (K:ByteArray→Hp→Prop):Hp→Prop:=br (decide (a0 < 10)) ( hpv Tryz.prog (Instr.sliceAt ut (.string str_73df774b) (some (.int .i64 a0)) (some (.int .i64 (IntKind.i64.wrap (a0 + 1)))) none) dM fun (v8:ByteArray)=>K v8) ( hpv Tryz.prog (Instr.sliceAt ut (.string str_e9752c08) (some (.int .i64 (IntKind.i64.wrap (a0 * 2)))) (some (.int .i64 (IntKind.i64.wrap ((IntKind.i64.wrap (a0 * 2)) + 2)))) none) dM fun (v14:ByteArray)=>K v14)
theorem rZ (a0:Int) {K:ByteArray→Hp→Prop} {h:Hp} (H:lO a0 K h):Ct Tryz.prog iN #[(.int .i64 a0)] h fun v h'=>∃ r,v = dM r∧K r h':=au [(.int .i64 a0)] Tryz.func255 c c c fun _=>M<|O c<|aj<|M<|J c<|p (cm c c)<|ac<|ar c H (fun k1 H2=>M<|J c<|J c<|p (bp c c)<|aa<|aO H2 (eR c c c c c) c fun v8 _ H3=>O c<|ah<|Y ⟨v8,c,H3⟩) fun k1 H2=>am<|M<|J c<|p (v_mul c c)<|J c<|p (v_mul c c)<|p (bp c c)<|aa<|aO H2 (eR c c c c c) c fun v14 _ H4=>O c<|ah<|Y ⟨v14,c,H4⟩
def fN (a0:Int) (K:ByteArray→Hp→Prop) (b5:Nat) (s9:Int):Hp→Prop:=cl Tryz.prog qJ [(.int .u64 s9)] dW fun r27=>hpv Tryz.prog (Instr.sliceAt vr (.pointer (some ⟨b5,0,none⟩)) (some (.int .i64 1)) (some (.int .i64 (IntKind.i64.wrap (1 + r27)))) none) R_Suint8 fun (v30:Sl)=>cl Tryz.prog oH [(sv v30),(.int .u64 s9)] R_ fun (_:Unit)=>br (decide (a0 < 0)) ( st (b5,0) [.int .u8 45]<|hpv Tryz.prog (Instr.sliceAt vr (.pointer (some ⟨b5,0,none⟩)) none (some (.int .i64 (IntKind.i64.wrap (1 + r27)))) none) R_Suint8 fun (v38:Sl)=>hpv Tryz.prog (convert 328 9 (sv v38)) dM fun (v39:ByteArray)=>K v39) ( hpv Tryz.prog (Instr.sliceAt vr (.pointer (some ⟨b5,0,none⟩)) (some (.int .i64 1)) (some (.int .i64 (IntKind.i64.wrap (1 + r27)))) none) R_Suint8 fun (v42:Sl)=>hpv Tryz.prog (convert 328 9 (sv v42)) dM fun (v43:ByteArray)=>K v43)
def jx (a0:Int) (a1:Int) (K:ByteArray→Hp→Prop):Hp→Prop:=br (a1 == 10) ( br ((decide (0 ≤ a0)) && (decide (a0 < 100))) ( cl Tryz.prog iN [(.int .i64 a0)] dM fun r19=>K r19) ( nw vr [.int .u8 0,.int .u8 0,.int .u8 0,.int .u8 0,.int .u8 0,.int .u8 0,.int .u8 0,.int .u8 0,.int .u8 0,.int .u8 0,.int .u8 0,.int .u8 0,.int .u8 0,.int .u8 0,.int .u8 0,.int .u8 0,.int .u8 0,.int .u8 0,.int .u8 0,.int .u8 0,.int .u8 0,.int .u8 0,.int .u8 0,.int .u8 0] fun b5=>br (decide (a0 < 0)) ( fN a0 K b5 (IntKind.u64.wrap (0 - (IntKind.u64.wrap a0)))) ( fN a0 K b5 (IntKind.u64.wrap a0)))) ( cl Tryz.prog qo [(sv (⟨none,0,0,none⟩:Sl)),(.int .u64 (IntKind.u64.wrap a0)),(.int .i64 a1),(.bool (decide (a0 < 0))),(.bool false)] R_Suint8_string fun r50=>K r50.2)
theorem pu (a0:Int) (a1:Int) {K:ByteArray→Hp→Prop} {h:Hp} (H:jx a0 a1 K h):Ct Tryz.prog gg #[(.int .i64 a0),(.int .i64 a1)] h fun v h'=>∃ r,v = dM r∧K r h':=au [(.int .i64 a0),(.int .i64 a1)] Tryz.func254 c c c fun _=>M<|O c<|aj<|M<|J c<|p (bM c c)<|ac<|ar c H (fun k1 H2=>aj<|M<|J c<|p (v_le c c)<|J c<|V c c (aw _) (fun g3=>wv<|ag c)<|V c c (aw _) (fun g4=>wv<|cm (az c g4) c)<|p (bN c c)<|ac<|ar c H2 (fun k5 H6=>M<|J c<|aa<|Z H6 en_255 fun r19 _ H7=>O c<|ah<|Y ⟨r19,c,H7⟩) fun k5 H6=>am<|M<|aa<|to_alloc zero_325 c c H6 fun b5 _ H8=>ac<|M<|J c<|p (dr ⟨_,Tryz.underlying2⟩ Tryz.underlying22 c)<|O c<|ee (fN a0 K b5) (fun s9=>[(0,(.int .i64 a0)),(5,(.pointer (some ⟨b5,0,none⟩))),(6,(.int .u64 s9))]) (fun s9=>[]) (M<|J c<|p (cm c c)<|ac<|ar c H8 (fun k21 H22=>ap<|J c<|p (v_neg c)<|O c<|cC (IntKind.u64.wrap (0 - (IntKind.u64.wrap a0))) H22 (.cons c<|.cons c<|.cons c<|.nil _) .slnil) fun k21 H22=>am<|cC (IntKind.u64.wrap a0) H22 (.cons c<|.cons c<|.cons c<|.nil _) .slnil) fun s9 _ H10=>M<|J c<|aa<|Z H10 en_256 fun r27 _ H11=>O c<|M<|J c<|p (bp c c)<|aa<|aO H11 (eR c c c c c) c fun v30 _ H12=>J c<|aa<|Z H12 en_257 fun r32 _ H13=>ac<|aj<|M<|J c<|p (cm c c)<|ac<|ar c H13 (fun k14 H15=>M<|p (bu arr_325 c c (by decide))<|aa<|dp inf_5 c c c c c H15 fun _ H16=>ac<|M<|J c<|p (bp c c)<|aa<|aO H16 (eR c c c c c) c fun v38 _ H17=>aa<|aO H17 (x_convert c) c fun v39 _ H18=>O c<|ah<|Y ⟨v39,c,H18⟩) fun k14 H15=>am<|M<|J c<|p (bp c c)<|aa<|aO H15 (eR c c c c c) c fun v42 _ H19=>aa<|aO H19 (x_convert c) c fun v43 _ H20=>O c<|ah<|Y ⟨v43,c,H20⟩) fun k1 H2=>am<|M<|J c<|p (dr ⟨_,Tryz.underlying2⟩ Tryz.underlying22 c)<|J c<|J c<|p (cm c c)<|aa<|Z H2 en_258 fun r50 _ H23=>J c<|p (ai c c)<|p (ai c c)<|p (aq c)<|O c<|M<|J c<|O c<|ah<|Y ⟨r50.2,c,H23⟩
def mm (a0:Int) (K:ByteArray→Hp→Prop):Hp→Prop:=cl Tryz.prog gg [(.int .i64 a0),(.int .i64 10)] dM fun r4=>K r4
theorem sY (a0:Int) {K:ByteArray→Hp→Prop} {h:Hp} (H:mm a0 K h):Ct Tryz.prog ji #[(.int .i64 a0)] h fun v h'=>∃ r,v = dM r∧K r h':=au [(.int .i64 a0)] Tryz.func253 c c c fun _=>M<|O c<|M<|J c<|aa<|Z H en_254 fun r4 _ H1=>O c<|ah<|Y ⟨r4,c,H1⟩
end Go.Proofs.YtmggcfijlpldpaaGreatDoor
namespace Go.Proofs.YtmggcfijlpldpaaGreatDoor
open Go Mb
set_option linter.unusedVariables false
def oP (K:Bool→Hp→Prop):Hp→Prop:=cl Tryz.prog jZ [(.int .i64 3)] ib fun r5=>cl Tryz.prog n_trap_In [(.int .i64 2),(.agg (ae.C (⟨1,2,0,0,0⟩:ae)).toArray),r5] ib fun r6=>cl Tryz.prog jE [r6] eo fun r9=>hpv Tryz.prog (do eqGuard .eql 195 (.tmp 12) (.const Value.nilIface) r6 Value.nilIface; binOp .eql 195 r6 Value.nilIface:Sem Value) ay fun (v13:Bool)=>br (v13 || r9.1.isNone) ( K false) ( br r9.2 ( nn r9.1 fun q21=>ld (q21.1,q21.2 + 1) (cI .i64) fun x23=>br (x23 == 2) ( ld (q21.1,q21.2 + 2) ae.C fun x30=>br (ae.eqb x30 (⟨1,2,0,0,0⟩:ae)) ( ld (q21.1,q21.2 + 0) (cI .i64) fun x38=>br (x38 == 3) ( cl Tryz.prog tK [r6] bf fun r43=>br (r43 == 3) ( cl Tryz.prog wg [r6] dW fun r48=>br (r48 == 2) ( cl Tryz.prog jZ [(.int .i64 3)] ib fun r53=>cl Tryz.prog nj [r6,r53] ay fun r54=>br r54 ( cl Tryz.prog jZ [(.int .i64 4)] ib fun r58=>cl Tryz.prog nj [r6,r58] ay fun r59=>br (!r59) ( cln Tryz.prog (callMethod r6 "Error" #[]) dM fun (v64:ByteArray)=>hpv Tryz.prog (do eqGuard .eql 9 (.tmp 64) (.const (.string nJ)) (.string v64) (.string nJ); binOp .eql 9 (.string v64) (.string nJ):Sem Value) ay fun (v65:Bool)=>br v65 ( cl Tryz.prog jZ [(.int .i64 0)] ib fun r68=>hpv Tryz.prog (do eqGuard .eql 195 (.tmp 68) (.const Value.nilIface) r68 Value.nilIface; binOp .eql 195 r68 Value.nilIface:Sem Value) ay fun (v69:Bool)=>K v69) ( K false)) ( K false)) ( K false)) ( K false)) ( K false)) ( K false)) ( K false)) ( K false)) ( K false))
theorem vM {K:Bool→Hp→Prop} {h:Hp} (H:oP K h):Ct Tryz.prog kY #[] h fun v h'=>∃ r,v = ay r∧K r h':=au [] Tryz.func218 c c c fun _=>M<|O c<|M<|p (aW c<|jM 1 2)<|aa<|Z H wH fun r5 _ H1=>aa<|Z H1 en_177 fun r6 _ H2=>O c<|M<|J c<|aa<|Z H2 en_217 fun r9 _ H3=>J c<|p (ai c c)<|p (ai c c)<|p (aq c)<|O c<|aj<|M<|J c<|aa<|aO H3 (fU c c) c fun v13 _ H4=>J c<|V c c (aG _) (fun g5=>wv<|ag c)<|V c c (aG _) (fun g6=>wv<|cg Tryz.underlying246<|az c g6)<|p (cZ c c)<|ac<|ar c H4 (fun k7 H8=>M<|O c<|ah<|Y ⟨false,c,H8⟩) fun k7 H8=>am<|M<|J c<|J c<|V c c (aw _) (fun g9=>wv<|ag c)<|bP H8 (fun k11 H12=>bC H12 fun q21 e13 H14=>F (D k11)<|R (aI<|aL (az c k11)<|an e13)<|F (D k11)<|R (ad fld_248_1 c)<|F (D k11)<|aT H14 aY c (fun _=>c) c fun x23 H15=>F (D k11)<|R (bM c c)<|p (aR c k11 c)<|J c<|V c c (aw _) (fun g16=>wv<|ag<|aL c<|an e13)<|V c c (aw _) (fun g17=>wv<|aI<|az c g17)<|V c c (aw _) (fun g18=>wv<|ad fld_248_2<|az c g18)<|bP H15 (fun k20 H21=>F (D k20)<|gx H21 eQ (az c k20) (fun _=>c) c fun x30 H22=>F (D k20)<|R (aW c<|jM 1 2)<|F (D k20)<|R (v_eqA eqg_34 (eqr_34 9998 _ _) c c)<|p (aR c k20 c)<|J c<|V c c (aw _) (fun g23=>wv<|ag<|aL c<|an e13)<|V c c (aw _) (fun g24=>wv<|aI<|az c g24)<|V c c (aw _) (fun g25=>wv<|ad uW<|az c g25)<|bP H22 (fun k27 H28=>F (D k27)<|aT H28 kK (az c k27) (fun _=>c) c fun x38 H29=>F (D k27)<|R (bM c c)<|p (aR c k27 c)<|J c<|V c c (aw _) (fun g30=>wv<|ag c)<|bP H29 (fun k32 H33=>F (D k32)<|fV H33 en_201 (aP (az c k32) bL) c fun r43 _ H34=>F (D k32)<|R (bM c c)<|p (aR c k32 c)<|J c<|V c c (aw _) (fun g35=>wv<|ag c)<|bP H34 (fun k37 H38=>F (D k37)<|fV H38 en_224 (aP (az c k37) bL) c fun r48 _ H39=>F (D k37)<|R (bM c c)<|p (aR c k37 c)<|J c<|V c c (aw _) (fun g40=>wv<|ag c)<|bP H39 (fun k42 H43=>F (D k42)<|Z H43 wH fun r53 _ H44=>F (D k42)<|fV H44 en_141 (aP (az c k42)<|aP c bL) c fun r54 _ H45=>p (aR c k42 c)<|J c<|V c c (aw _) (fun g46=>wv<|ag c)<|bP H45 (fun k48 H49=>F (D k48)<|Z H49 wH fun r58 _ H50=>F (D k48)<|fV H50 en_141 (aP (az c k48)<|aP c bL) c fun r59 _ H51=>F (D k48)<|R (cf c)<|p (aR c k48 c)<|J c<|V c c (aw _) (fun g52=>wv<|ag c)<|bP H51 (fun k54 H55=>F (D k54)<|fI H55 (fH (vs:=[]) (az c k54) c) c fun v64 _ H56=>F (D k54)<|aO H56 (fU c c) c fun v65 _ H57=>p (aR c k54 c)<|J c<|bP H57 (fun k59 H60=>F (D k59)<|Z H60 wH fun r68 _ H61=>F (D k59)<|aO H61 (fU c c) c fun v69 _ H62=>p (aR c k59 c)<|O c<|ah<|Y ⟨v69,c,H62⟩) fun k59 H60=>W (aQ k59)<|W (aQ k59)<|p (ao c k59 c)<|O c<|ah<|Y ⟨false,c,H60⟩) fun k54 H55=>W (aQ k54)<|W (aQ k54)<|p (ao c k54 c)<|J c<|W c<|W c<|p (ao c c c)<|O c<|ah<|Y ⟨false,c,H55⟩) fun k48 H49=>W (aQ k48)<|W (aQ k48)<|W (aQ k48)<|p (ao c k48 c)<|J c<|W c<|W c<|W c<|p (ao c c c)<|J c<|W c<|W c<|p (ao c c c)<|O c<|ah<|Y ⟨false,c,H49⟩) fun k42 H43=>W (aQ k42)<|W (aQ k42)<|p (ao c k42 c)<|J c<|W c<|W c<|W c<|W c<|p (ao c c c)<|J c<|W c<|W c<|W c<|p (ao c c c)<|J c<|W c<|W c<|p (ao c c c)<|O c<|ah<|Y ⟨false,c,H43⟩) fun k37 H38=>W (aQ k37)<|W (aQ k37)<|p (ao c k37 c)<|J c<|W c<|W c<|W c<|p (ao c c c)<|J c<|W c<|W c<|W c<|W c<|p (ao c c c)<|J c<|W c<|W c<|W c<|p (ao c c c)<|J c<|W c<|W c<|p (ao c c c)<|O c<|ah<|Y ⟨false,c,H38⟩) fun k32 H33=>W (aQ k32)<|W (aQ k32)<|p (ao c k32 c)<|J c<|W c<|W c<|W c<|p (ao c c c)<|J c<|W c<|W c<|W c<|p (ao c c c)<|J c<|W c<|W c<|W c<|W c<|p (ao c c c)<|J c<|W c<|W c<|W c<|p (ao c c c)<|J c<|W c<|W c<|p (ao c c c)<|O c<|ah<|Y ⟨false,c,H33⟩) fun k27 H28=>W (aQ k27)<|W (aQ k27)<|p (ao c k27 c)<|J c<|W c<|W c<|W c<|p (ao c c c)<|J c<|W c<|W c<|W c<|p (ao c c c)<|J c<|W c<|W c<|W c<|p (ao c c c)<|J c<|W c<|W c<|W c<|W c<|p (ao c c c)<|J c<|W c<|W c<|W c<|p (ao c c c)<|J c<|W c<|W c<|p (ao c c c)<|O c<|ah<|Y ⟨false,c,H28⟩) fun k20 H21=>W (aQ k20)<|W (aQ k20)<|W (aQ k20)<|p (ao c k20 c)<|J c<|W c<|W c<|W c<|W c<|W c<|p (ao c c c)<|J c<|W c<|W c<|W c<|p (ao c c c)<|J c<|W c<|W c<|W c<|p (ao c c c)<|J c<|W c<|W c<|W c<|p (ao c c c)<|J c<|W c<|W c<|W c<|W c<|p (ao c c c)<|J c<|W c<|W c<|W c<|p (ao c c c)<|J c<|W c<|W c<|p (ao c c c)<|O c<|ah<|Y ⟨false,c,H21⟩) fun k11 H12=>W (aQ k11)<|W (aQ k11)<|W (aQ k11)<|W (aQ k11)<|p (ao c k11 c)<|J c<|W c<|W c<|W c<|W c<|W c<|W c<|p (ao c c c)<|J c<|W c<|W c<|W c<|W c<|W c<|p (ao c c c)<|J c<|W c<|W c<|W c<|p (ao c c c)<|J c<|W c<|W c<|W c<|p (ao c c c)<|J c<|W c<|W c<|W c<|p (ao c c c)<|J c<|W c<|W c<|W c<|W c<|p (ao c c c)<|J c<|W c<|W c<|W c<|p (ao c c c)<|J c<|W c<|W c<|p (ao c c c)<|O c<|ah<|Y ⟨false,c,H12⟩
def oQ (K:Bool→Hp→Prop):Hp→Prop:=cl Tryz.prog kY [] ay fun r1=>K r1
theorem vN {K:Bool→Hp→Prop} {h:Hp} (H:oQ K h):Ct Tryz.prog kZ #[] h fun v h'=>∃ r,v = ay r∧K r h':=au [] Tryz.func206 c c c fun _=>M<|O c<|M<|aa<|Z H en_218 fun r1 _ H1=>O c<|ah<|Y ⟨r1,c,H1⟩
end Go.Proofs.YtmggcfijlpldpaaGreatDoor
namespace Go.Proofs.YtmggcfijlpldpaaGreatDoor
open Go Mb
variable {ET:Nat} {EF:Nat × Nat}
abbrev s3_:ByteArray:=⟨#[51]⟩
theorem sp_small3:Sp Tryz.prog iN [.int .i64 3] dM [] (fun r=>pa_ (r = s3_) []):=by
  intro h st
  refine rZ _ ?_
  unfold lO
  exact dL rfl (eX s3_ (fun K h=>by kernel_rfl) (aU rfl st))
theorem sp_FormatInt3:Sp Tryz.prog gg [.int .i64 3,.int .i64 10] dM [] (fun r=>pa_ (r = s3_) []):=by
  intro h st
  refine pu _ _ ?_
  unfold jx
  refine dL rfl (dL rfl (sZ sp_small3 st fun r h' hr s2=>?_))
  exact aU hr s2
theorem sp_Itoa3':Sp Tryz.prog ji [.int .i64 3] dM [] (fun r=>pa_ (r = s3_) []):=by
  intro h st
  refine sY _ ?_
  unfold mm
  exact sZ sp_FormatInt3 st fun r h' hr s2=>aU hr s2
theorem sp_Itoa3:Sp Tryz.prog sA [.int .i64 3] dM [] (fun r=>pa_ (r = s3_) []):=by
  intro h st
  refine sim_strconv_Itoa _ ?_
  unfold sh_strconv_Itoa
  exact sZ sp_Itoa3' st fun r h' hr s2=>aU hr s2
abbrev t3_:ByteArray:=⟨#[116,114,97,112,32,51]⟩
theorem sp_Error1 (b:Nat) (t:bR) (hc:t.fCode = 3) (ht:t.fErr = Value.nilIface):Sp Tryz.prog iz [pv (some (b,0))] dM [trB b t] (fun r=>pa_ (r = t3_) [trB b t]):=by
  intro h st
  refine qS _ ?_
  unfold mE
  refine df rfl (cx ?_)
  refine bi t.fCode st (i:=0) rfl rfl rfl ?_
  rw [hc]
  refine sZ sp_Itoa3 st fun r h' hr s2=>?_
  subst hr
  refine eX t3_ (fun K h=>by kernel_rfl) ?_
  refine bi t.fErr s2 (i:=0) rfl rfl rfl ?_
  rw [ht]
  refine eX false (fun K h=>by kernel_rfl) (df rfl ?_)
  exact aU rfl s2
theorem sp_Error2 (b e:Nat) (t u:bR) (hc:t.fCode = 3) (ht:t.fErr = dm e) (hd:u.fCode = 3) (hu:u.fErr = Value.nilIface):Sp Tryz.prog iz [pv (some (b,0))] dM [trB b t,trB e u] (fun r=>pa_ (r = nJ) [trB b t,trB e u]):=by
  intro h st
  refine qS _ ?_
  unfold mE
  refine df rfl (cx ?_)
  refine bi t.fCode st (i:=0) rfl rfl rfl ?_
  rw [hc]
  refine sZ sp_Itoa3 st fun r h' hr s2=>?_
  subst hr
  refine eX t3_ (fun K h=>by kernel_rfl) ?_
  refine bi t.fErr s2 (i:=0) rfl rfl rfl ?_
  rw [ht]
  refine eX true (fun K h=>by kernel_rfl) (dL rfl ?_)
  refine bi t.fErr s2 (i:=0) rfl rfl rfl ?_
  rw [ht]
  refine cln_en (f:=iz) (vs:=[pv (some (e,0))]) (fun K h=>by kernel_rfl) ?_
  refine bK (i:=1) (sp_Error1 e u hd hu) rfl s2 fun r h' hr s3=>?_
  subst hr
  refine eX ⟨#[58,32,116,114,97,112,32,51]⟩ (fun K h=>by kernel_rfl) ?_
  refine eX nJ (fun K h=>by kernel_rfl) ?_
  exact aU rfl s3
theorem star_ne {b d:Nat} {T T':TypeId} {c c':List Value} {l:List As} {h:Hp} (s:aC (blk b T c::blk d T' c'::l) h):b ≠ d:=by
  obtain ⟨h1,h2,dj,e,a,h3,h4,dj2,e2,a2,_⟩:=s
  rintro rfl
  have h1b:h1 b = some _:=a
  have h3b:h3 b = some _:=a2
  rcases dj b with x | x
  · rw [h1b] at x; cases x
  · rw [e2,un_left h3b] at x; cases x
theorem sp_Trap_Is (b d:Nat) (t w:bR):Sp Tryz.prog sx [pv (some (b,0)),dm d] ay [trB b t,trB d w] (fun r=>pa_ (r = (t.fCode == w.fCode)) [trB b t,trB d w]):=by
  intro h st
  refine sim_trap_Trap_Is _ _ ?_
  unfold sh_trap_Trap_Is
  refine eX (some (d,0),true) (fun K h=>by kernel_rfl) (dL rfl (dL rfl (dL rfl (cx (cx ?_)))))
  refine bi t.fCode st (i:=0) rfl rfl rfl ?_
  refine bi w.fCode st (i:=1) rfl rfl rfl ?_
  exact aU rfl st
theorem sp_Unwrap (b:Nat) (t:bR):Sp Tryz.prog mG [pv (some (b,0))] encV [trB b t] (fun r=>pa_ (r = t.fErr) [trB b t]):=by
  intro h st
  refine sim_trap_Trap_Unwrap _ ?_
  unfold qT
  refine df rfl (cx ?_)
  refine bi t.fErr st (i:=0) rfl rfl rfl ?_
  exact aU rfl st
theorem eq_traps {K:Bool→Hp→Prop} {a b n m:Nat} {t u:bR} {l:List As} {h:Hp} (s:aC (trB a t::trB b u::l) h) (k:K false h):hpv Tryz.prog (do eqGuard .eql 195 (.tmp n) (.tmp m) (dm a) (dm b); binOp .eql 195 (dm a) (dm b):Sem Value) ay K h:=by
  obtain ⟨g1,a1,sub1⟩:=dP (l:=trB a t::trB b u::l) (A:=trB a t) (i:=0) (by rfl) s
  obtain ⟨g2,a2,sub2⟩:=dP (l:=trB a t::trB b u::l) (A:=trB b u) (i:=1) (by rfl) s
  have q1:h a = some (.cells (bR.C t).toArray mV (0,0)):=sub1 _ _ a1
  have q2:h b = some (.cells (bR.C u).toArray mV (0,0)):=sub2 _ _ a2
  have hne:=star_ne s
  have e:(a == b) = false:=by simpa using hne
  constructor
  rw [y6,cL]
  refine x25 _ _ q1 q2 ?_
  rw [e]
  exact ⟨false,rfl,k⟩
theorem is_step {b d:Nat} {t w:bR} {l:List As} {h:Hp} {K:Bool→Hp→Prop} {Rec:Value→Hp→Prop} (st:aC (trB b t::trB d w::l) h)
    (h1:t.fCode = w.fCode→∀ h',aC (trB b t::trB d w::l) h'→K true h') (h0:t.fCode ≠ w.fCode→t.fErr = .nilIface→∀ h',aC (trB b t::trB d w::l) h'→K false h')
    (h2:t.fCode ≠ w.fCode→∀ e,t.fErr = dm e→∀ h',aC (trB b t::trB d w::l) h'→Rec (dm e) h') (hok:t.fErr = .nilIface∨∃ e,t.fErr = dm e):rD (dm d) true K Rec (dm b) h:=by
  unfold rD
  refine dL rfl (eq_traps st (df rfl ?_))
  refine eX (dm b,true) (fun K h=>by kernel_rfl) (dL rfl ?_)
  refine cln_en (f:=sx) (vs:=[pv (some (b,0)),dm d]) (fun K h=>by kernel_rfl) ?_
  refine cJ [] (rest:=l) (sp_Trap_Is b d t w) st rfl fun r h' s2=>?_
  obtain ⟨rfl,s3⟩:=bn.1 s2
  by_cases e:t.fCode = w.fCode
  · exact dL (by simpa using e) (h1 e _ s3)
  · refine df (by simpa using e) ?_
    unfold rE
    refine eX (dm b,true) (fun K h=>by kernel_rfl) (dL rfl ?_)
    refine cln_en (f:=mG) (vs:=[pv (some (b,0))]) (fun K h=>by kernel_rfl) ?_
    refine bK (i:=0) (sp_Unwrap b t) rfl s3 fun r h' hr s4=>?_
    subst hr
    rcases hok with hn | ⟨x,hx⟩
    · rw [hn]
      refine eX true (en_00 _) (dL rfl (h0 e hn _ ?_))
      simpa using s4
    · rw [hx]
      refine eX false (en_0 x _) (df rfl (h2 e x hx _ ?_))
      simpa using s4
theorem sp_is1 (b d:Nat) (t w:bR) (hc:t.fCode = w.fCode) (hok:t.fErr = .nilIface∨∃ e,t.fErr = dm e):Sp Tryz.prog ni [dm b,dm d,.bool true] ay [trB b t,trB d w] (fun r=>pa_ (r = true) [trB b t,trB d w]):=by
  intro h st
  refine sim_errors_is _ _ _ ?_
  unfold vX
  refine ⟨fun s h=>s = dm b∧aC [trB b t,trB d w] h,fun _ _=>0,⟨rfl,st⟩,?_⟩
  rintro _ h1 ⟨rfl,s1⟩
  exact is_step s1 (fun _ h' s2=>aU rfl s2) (fun e=>absurd hc e) (fun e=>absurd hc e) hok
theorem sp_is2 (b e d:Nat) (t u w:bR) (ht:t.fErr = dm e) (hu:u.fErr = .nilIface) (hc:t.fCode ≠ w.fCode) (hd:u.fCode ≠ w.fCode) :
    Sp Tryz.prog ni [dm b,dm d,.bool true] ay [trB b t,trB e u,trB d w] (fun r=>pa_ (r = false) [trB b t,trB e u,trB d w]):=by
  intro h st
  refine sim_errors_is _ _ _ ?_
  unfold vX
  refine ⟨fun s h=>(s = dm b∨s = dm e)∧aC [trB b t,trB e u,trB d w] h,fun s _=>match s with | .iface _ (.pointer (some p))=>if p.block = b then 1 else 0 | _=>0,⟨.inl rfl,st⟩,?_⟩
  have hne:e ≠ b:=fun h=>(star_ne st) h.symm
  rintro _ h1 ⟨rfl | rfl,s1⟩
  · refine is_step (l:=[trB e u]) (ba [0,1] s1 rfl) (fun x=>absurd x hc) (fun _ x=>by rw [ht] at x; cases x) (fun _ x hx h' s2=>?_) (.inr ⟨e,ht⟩)
    rw [ht] at hx
    rw [← hx]
    exact ⟨⟨.inr rfl,ba [0,1] s2 rfl⟩,by show (if e = b then 1 else 0) < (if b = b then 1 else 0); rw [if_pos rfl,if_neg hne]; exact Nat.one_pos⟩
  · refine is_step (l:=[trB b t]) (ba [1,1] s1 rfl) (fun x=>absurd x hd) (fun _ _ h' s2=>aU rfl (ba [2,0] s2 rfl)) (fun _ x hx=>by rw [hu] at hx; cases hx) (.inl hu)
theorem sp_Is1 (b d:Nat) (t w:bR) (hc:t.fCode = w.fCode) (hok:t.fErr = .nilIface∨∃ e,t.fErr = dm e):Sp Tryz.prog nj [dm b,dm d] ay [trB b t,trB d w] (fun r=>pa_ (r = true) [trB b t,trB d w]):=by
  intro h st
  refine sim_errors_Is _ _ ?_
  unfold vY
  refine eX false (en_0 b _) (dL rfl (eX false (en_0 d _) (df rfl ?_)))
  refine sR (rtV bd) (fun K h=>x7 d K h) ?_
  refine sR true (fun K h=>x13 K h) ?_
  refine cJ [] (rest:=[]) (sp_is1 b d t w hc hok) st rfl fun r h' s2=>?_
  obtain ⟨rfl,s3⟩:=bn.1 s2
  exact aU rfl s3
theorem sp_Is2 (b e d:Nat) (t u w:bR) (ht:t.fErr = dm e) (hu:u.fErr = .nilIface) (hc:t.fCode ≠ w.fCode) (hd:u.fCode ≠ w.fCode) :
    Sp Tryz.prog nj [dm b,dm d] ay [trB b t,trB e u,trB d w] (fun r=>pa_ (r = false) [trB b t,trB e u,trB d w]):=by
  intro h st
  refine sim_errors_Is _ _ ?_
  unfold vY
  refine eX false (en_0 b _) (dL rfl (eX false (en_0 d _) (df rfl ?_)))
  refine sR (rtV bd) (fun K h=>x7 d K h) ?_
  refine sR true (fun K h=>x13 K h) ?_
  refine cJ [] (rest:=[]) (sp_is2 b e d t u w ht hu hc hd) st rfl fun r h' s2=>?_
  obtain ⟨rfl,s3⟩:=bn.1 s2
  exact aU rfl s3
theorem tR {α:Type} {A:α→As} {l:List As} {h:Hp} (s:aC (ex A::l) h):∃ x,aC (A x::l) h:=by
  obtain ⟨h1,h2,d,e,⟨x,a⟩,s2⟩:=s
  exact ⟨x,h1,h2,d,e,a,s2⟩
abbrev tr3:bR:=⟨3,-1,⟨0,0,0,0,0⟩,.nilIface⟩
abbrev tr4:bR:=⟨4,-1,⟨0,0,0,0,0⟩,.nilIface⟩
abbrev tr32 (e:Nat):bR:=⟨3,2,⟨1,2,0,0,0⟩,dm e⟩
theorem sp_begun1:Sp Tryz.prog kY [] ay [(etB ET EF)] (fun r=>pa_ (r = true) [(etB ET EF)]):=by
  intro h st
  refine vM ?_
  unfold oP
  refine cJ [] (rest:=[(etB ET EF)]) (sp_Of 3 (by decide)) st rfl fun r h1 s1=>?_
  obtain ⟨e,x1⟩:=tR s1
  obtain ⟨rfl,y1⟩:=bn.1 x1
  refine cJ [1,0] (rest:=[]) (sp_In 2 ⟨1,2,0,0,0⟩ e tr3) y1 rfl fun r h2 s2=>?_
  obtain ⟨b,x2⟩:=tR s2
  obtain ⟨rfl,y2⟩:=bn.1 x2
  refine bK (i:=1) (sp_First b) rfl y2 fun r h3 hr s3=>?_
  subst hr
  refine eX false (en_0 b _) (df rfl (dL rfl (cx ?_)))
  refine bi 2 s3 (i:=0) rfl rfl rfl (dL rfl ?_)
  refine ld_s ⟨1,2,0,0,0⟩ s3 (i:=0) rfl (fun j v hj=>?_) (dL rfl ?_)
  · rcases j with _ | _ | _ | _ | _ | j <;> first | exact hj | (simp [ae.C] at hj)
  refine bi 3 s3 (i:=0) rfl rfl rfl (dL rfl ?_)
  refine cJ [1,0] (rest:=[_]) (sp_Code b (tr32 e)) s3 rfl fun r h4 s4=>?_
  obtain ⟨rfl,y4⟩:=bn.1 s4
  refine dL rfl ?_
  refine cJ [] (rest:=[]) (sp_Depth2 b e (tr32 e) tr3 rfl rfl) y4 rfl fun r h5 s5=>?_
  obtain ⟨rfl,y5⟩:=bn.1 s5
  refine dL rfl ?_
  refine cJ [] (rest:=[_,_,_]) (sp_Of 3 (by decide)) y5 rfl fun r h6 s6=>?_
  obtain ⟨d,x6⟩:=tR s6
  obtain ⟨rfl,y6⟩:=bn.1 x6
  refine cJ [2,0] (rest:=[_,_]) (sp_Is1 b d (tr32 e) tr3 rfl (.inr ⟨e,rfl⟩)) y6 rfl fun r h7 s7=>?_
  obtain ⟨rfl,y7⟩:=bn.1 s7
  refine dL rfl ?_
  refine cJ [] (rest:=[_,_,_,_]) (sp_Of 4 (by decide)) y7 rfl fun r h8 s8=>?_
  obtain ⟨f,x8⟩:=tR s8
  obtain ⟨rfl,y8⟩:=bn.1 x8
  refine cJ [1,3,0] (rest:=[_,_]) (sp_Is2 b e f (tr32 e) tr3 tr4 rfl rfl (show (3:Int) ≠ 4 by decide) (show (3:Int) ≠ 4 by decide)) y8 rfl fun r h9 s9=>?_
  obtain ⟨rfl,y9⟩:=bn.1 s9
  refine dL rfl ?_
  refine cln_en (f:=iz) (vs:=[pv (some (b,0))]) (fun K h=>by kernel_rfl) ?_
  refine cJ [] (rest:=[_,_,_]) (sp_Error2 b e (tr32 e) tr3 rfl rfl rfl rfl) y9 rfl fun r h10 s10=>?_
  obtain ⟨rfl,y10⟩:=bn.1 s10
  refine eX true (fun K h=>by kernel_rfl) (dL rfl ?_)
  refine sZ sp_Of0 y10 fun r h11 hr s11=>?_
  subst hr
  refine eX true (en_00 _) ?_
  exact aU rfl (bU (l:=[_,_,_,_]) s11)
end Go.Proofs.YtmggcfijlpldpaaGreatDoor
namespace Go.Proofs.YtmggcfijlpldpaaGreatDoor
open Go Mb
set_option linter.unusedVariables false
def sh_cell_New (a0:Int) (K:Ptr→Hp→Prop):Hp→Prop:=nw qb (nC.C (⟨a0,0⟩:nC)) fun b5=>K (some (b5,0))
theorem sim_cell_New (a0:Int) {K:Ptr→Hp→Prop} {h:Hp} (H:sh_cell_New a0 K h):Ct Tryz.prog sF #[(.int .u64 a0)] h fun v h'=>∃ r,v = oD r∧K r h':=au [(.int .u64 a0)] Tryz.func202 c c c fun _=>M<|O c<|M<|J c<|p (aW c<|build_284_0 a0)<|aa<|gP c c c H fun b5 _ H1=>O c<|ah<|Y ⟨some (b5,0),c,H1⟩
def sh_cell_Cell_Up (a0:Ptr) (a1:Int) (K:(Int × Bool)→Hp→Prop):Hp→Prop:=br a0.isNone ( K (0,false)) ( nn a0 fun q9=>ld (q9.1,q9.2 + 1) (cI .i64) fun x11=>st (q9.1,q9.2 + 1) [.int .i64 (IntKind.i64.wrap (x11 + 1))]<|ld (q9.1,q9.2 + 0) (cI .u64) fun x18=>br (decide (x18 ≥ a1)) ( ld (q9.1,q9.2 + 0) (cI .u64) fun x24=>K (x24,false)) ( ld (q9.1,q9.2 + 0) (cI .u64) fun x28=>st (q9.1,q9.2 + 0) [.int .u64 (IntKind.u64.wrap (x28 + 1))]<|ld (q9.1,q9.2 + 0) (cI .u64) fun x35=>K (x35,true)))
theorem sim_cell_Cell_Up (a0:Ptr) (a1:Int) {K:(Int × Bool)→Hp→Prop} {h:Hp} (H:sh_cell_Cell_Up a0 a1 K h):Ct Tryz.prog ov #[(pv a0),(.int .u64 a1)] h fun v h'=>∃ r,v = bG r∧K r h':=au [(pv a0),(.int .u64 a1)] Tryz.func204 c c c fun _=>M<|p (aq c)<|O c<|aj<|M<|J c<|p (cg Tryz.underlying264 c)<|ac<|ar c H (fun k1 H2=>M<|p (aq c)<|O c<|ah<|bt (bJ c (bT c)<|bT c) ⟨(0,false),c,H2⟩) fun k1 H2=>am<|M<|J c<|bC H2 fun q9 e3 H4=>p (aI<|aL c<|an e3)<|p (ad rP c)<|aa<|aT H4 aY c (fun _=>c) c fun x11 H5=>p (bp c c)<|p (aI<|aL c<|an e3)<|p (ad rP c)<|aa<|dp qq c c c c c H5 fun _ H6=>ac<|aj<|M<|J (aL c<|an e3)<|p (aI c)<|p (ad nu c)<|aa<|aT H6 ck c (fun _=>c) c fun x18 H7=>J c<|p (jr c c)<|ac<|ar c H7 (fun k8 H9=>M<|J (aL c<|an e3)<|p (aI c)<|p (ad nu c)<|aa<|aT H9 ck c (fun _=>c) c fun x24 H10=>p (aq c)<|O c<|ah<|bt (bJ c (bT c)<|bT c) ⟨(x24,false),c,H10⟩) fun k8 H9=>am<|M<|J (aL c<|an e3)<|p (aI c)<|p (ad nu c)<|aa<|aT H9 ck c (fun _=>c) c fun x28 H11=>p (bp c c)<|p (aI c)<|p (ad nu c)<|aa<|dp inf_22 c c c c c H11 fun _ H12=>ac<|M<|J (aL c<|an e3)<|p (aI c)<|p (ad nu c)<|aa<|aT H12 ck c (fun _=>c) c fun x35 H13=>p (aq c)<|O c<|ah<|bt (bJ c (bT c)<|bT c) ⟨(x35,true),c,H13⟩
def tC (a0:Ptr) (K:Int→Hp→Prop):Hp→Prop:=br a0.isNone ( K 0) ( nn a0 fun q6=>ld (q6.1,q6.2 + 1) (cI .i64) fun x8=>st (q6.1,q6.2 + 1) [.int .i64 (IntKind.i64.wrap (x8 + 1))]<|ld (q6.1,q6.2 + 0) (cI .u64) fun x15=>K x15)
theorem sim_cell_Cell_Load (a0:Ptr) {K:Int→Hp→Prop} {h:Hp} (H:tC a0 K h):Ct Tryz.prog lH #[(pv a0)] h fun v h'=>∃ r,v = gw r∧K r h':=au [(pv a0)] Tryz.func219 c c c fun _=>M<|O c<|aj<|M<|J c<|p (cg Tryz.underlying264 c)<|ac<|ar c H (fun k1 H2=>M<|O c<|ah<|Y ⟨0,c,H2⟩) fun k1 H2=>am<|M<|J c<|bC H2 fun q6 e3 H4=>p (aI<|aL c<|an e3)<|p (ad rP c)<|aa<|aT H4 aY c (fun _=>c) c fun x8 H5=>p (bp c c)<|p (aI<|aL c<|an e3)<|p (ad rP c)<|aa<|dp qq c c c c c H5 fun _ H6=>ac<|M<|J (aL c<|an e3)<|p (aI c)<|p (ad nu c)<|aa<|aT H6 ck c (fun _=>c) c fun x15 H7=>O c<|ah<|Y ⟨x15,c,H7⟩
def uL (a0:Ptr) (a1:Int) (a2:Int) (K:Bool→Hp→Prop):Hp→Prop:=br a0.isNone ( K false) ( nn a0 fun q10=>ld (q10.1,q10.2 + 1) (cI .i64) fun x12=>st (q10.1,q10.2 + 1) [.int .i64 (IntKind.i64.wrap (x12 + 1))]<|ld (q10.1,q10.2 + 0) (cI .u64) fun x19=>br (x19 != a1) ( K false) ( st (q10.1,q10.2 + 0) [.int .u64 a2]<|K true))
theorem sim_cell_Cell_Cas (a0:Ptr) (a1:Int) (a2:Int) {K:Bool→Hp→Prop} {h:Hp} (H:uL a0 a1 a2 K h):Ct Tryz.prog qL #[(pv a0),(.int .u64 a1),(.int .u64 a2)] h fun v h'=>∃ r,v = ay r∧K r h':=au [(pv a0),(.int .u64 a1),(.int .u64 a2)] Tryz.func220 c c c fun _=>M<|O c<|aj<|M<|J c<|p (cg Tryz.underlying264 c)<|ac<|ar c H (fun k1 H2=>M<|O c<|ah<|Y ⟨false,c,H2⟩) fun k1 H2=>am<|M<|J c<|bC H2 fun q10 e3 H4=>p (aI<|aL c<|an e3)<|p (ad rP c)<|aa<|aT H4 aY c (fun _=>c) c fun x12 H5=>p (bp c c)<|p (aI<|aL c<|an e3)<|p (ad rP c)<|aa<|dp qq c c c c c H5 fun _ H6=>ac<|aj<|M<|J (aL c<|an e3)<|p (aI c)<|p (ad nu c)<|aa<|aT H6 ck c (fun _=>c) c fun x19 H7=>J c<|p (nF c c)<|ac<|ar c H7 (fun k8 H9=>M<|O c<|ah<|Y ⟨false,c,H9⟩) fun k8 H9=>am<|M<|J (aL c<|an e3)<|J c<|p (aI c)<|p (ad nu c)<|aa<|dp inf_22 c c c c c H9 fun _ H10=>ac<|M<|O c<|ah<|Y ⟨true,c,H10⟩
end Go.Proofs.YtmggcfijlpldpaaGreatDoor
namespace Go.Proofs.YtmggcfijlpldpaaGreatDoor
open Go Mb
set_option linter.unusedVariables false
def sh_ticket_New (K:Ptr→Hp→Prop):Hp→Prop:=cl Tryz.prog sF [(.int .u64 0)] oD fun r1=>cl Tryz.prog sF [(.int .u64 0)] oD fun r2=>nw mg (ki.C (⟨r1,r2⟩:ki)) fun b4=>K (some (b4,0))
theorem sim_ticket_New {K:Ptr→Hp→Prop} {h:Hp} (H:sh_ticket_New K h):Ct Tryz.prog wh #[] h fun v h'=>∃ r,v = sW r∧K r h':=au [] Tryz.func203 c c c fun _=>M<|O c<|M<|aa<|Z H en_202 fun r1 _ H1=>aa<|Z H1 en_202 fun r2 _ H2=>p (aW c<|build_286_0_1 r1 r2)<|aa<|gP c c c H2 fun b4 _ H3=>O c<|ah<|Y ⟨some (b4,0),c,H3⟩
def qW (a0:Ptr) (K:Int→Hp→Prop):Hp→Prop:=br a0.isNone ( K 0) ( nn a0 fun q9=>ld (q9.1,q9.2 + 0) cP fun x11=>cl Tryz.prog ov [(pv x11),(.int .u64 18446744073709551615)] bG fun r12=>K (IntKind.u64.wrap (r12.1 - 1)))
theorem sim_ticket_Lock_Draw (a0:Ptr) {K:Int→Hp→Prop} {h:Hp} (H:qW a0 K h):Ct Tryz.prog mI #[(pv a0)] h fun v h'=>∃ r,v = gw r∧K r h':=au [(pv a0)] Tryz.func205 c c c fun _=>M<|O c<|aj<|M<|J c<|p (cg Tryz.underlying266 c)<|ac<|ar c H (fun k1 H2=>M<|O c<|ah<|Y ⟨0,c,H2⟩) fun k1 H2=>am<|M<|J c<|bC H2 fun q9 e3 H4=>p (aI<|aL c<|an e3)<|p (ad fld_286_0 c)<|aa<|aT H4 sc_264 c (fun _=>c) c fun x11 H5=>aa<|Z H5 en_204 fun r12 _ H6=>J c<|p (ai c c)<|p (ai c c)<|p (aq c)<|O c<|M<|J c<|p (us c c)<|O c<|ah<|Y ⟨IntKind.u64.wrap (r12.1 - 1),c,H6⟩
def qU (a0:Ptr) (a1:Int) (K:Bool→Hp→Prop):Hp→Prop:=br (!a0.isNone) ( nn a0 fun q9=>ld (q9.1,q9.2 + 1) cP fun x11=>cl Tryz.prog lH [(pv x11)] gw fun r12=>br (r12 == a1) ( ld (q9.1,q9.2 + 0) cP fun x21=>cl Tryz.prog lH [(pv x21)] gw fun r22=>K (decide (a1 < r22))) ( K false)) ( K false)
theorem sim_ticket_Lock_Turn (a0:Ptr) (a1:Int) {K:Bool→Hp→Prop} {h:Hp} (H:qU a0 a1 K h):Ct Tryz.prog jF #[(pv a0),(.int .u64 a1)] h fun v h'=>∃ r,v = ay r∧K r h':=au [(pv a0),(.int .u64 a1)] Tryz.func207 c c c fun _=>M<|O c<|M<|J c<|p (v_pneT Tryz.underlying266 c)<|J c<|V c c (aw _) (fun g1=>wv<|ag c)<|bP H (fun k3 H4=>bC H4 fun q9 e5 H6=>F (D k3)<|R (aI<|aL (az c k3)<|an e5)<|F (D k3)<|R (ad fld_286_1 c)<|F (D k3)<|aT H6 sc_264 c (fun _=>c) c fun x11 H7=>F (D k3)<|Z H7 en_219 fun r12 _ H8=>F (D k3)<|R (ag c)<|F (D k3)<|R (bM c c)<|p (aR c k3 c)<|J c<|V c c (aw _) (fun g9=>wv<|ag c)<|V c c (aw _) (fun g10=>wv<|ag<|aL c<|an e5)<|V c c (aw _) (fun g11=>wv<|aI<|az c g11)<|V c c (aw _) (fun g12=>wv<|ad fld_286_0<|az c g12)<|bP H8 (fun k14 H15=>F (D k14)<|aT H15 sc_264 (az c k14) (fun _=>c) c fun x21 H16=>F (D k14)<|Z H16 en_219 fun r22 _ H17=>F (D k14)<|R (cm (az c k14) c)<|p (aR c k14 c)<|O c<|ah<|Y ⟨decide (a1 < r22),c,H17⟩) fun k14 H15=>W (aQ k14)<|W (aQ k14)<|W (aQ k14)<|p (ao c k14 c)<|O c<|ah<|Y ⟨false,c,H15⟩) fun k3 H4=>W (aQ k3)<|W (aQ k3)<|W (aQ k3)<|W (aQ k3)<|W (aQ k3)<|W (aQ k3)<|p (ao c k3 c)<|J c<|W c<|W c<|W c<|W c<|W c<|W c<|W c<|p (ao c c c)<|O c<|ah<|Y ⟨false,c,H4⟩
def qV (a0:Ptr) (a1:Int) (K:Bool→Hp→Prop):Hp→Prop:=cl Tryz.prog jF [(pv a0),(.int .u64 a1)] ay fun r7=>br r7 ( nn a0 fun q10=>ld (q10.1,q10.2 + 1) cP fun x12=>cl Tryz.prog qL [(pv x12),(.int .u64 a1),(.int .u64 (IntKind.u64.wrap (a1 + 1)))] ay fun r16=>K r16) ( K false)
theorem sim_ticket_Lock_Pass (a0:Ptr) (a1:Int) {K:Bool→Hp→Prop} {h:Hp} (H:qV a0 a1 K h):Ct Tryz.prog mH #[(pv a0),(.int .u64 a1)] h fun v h'=>∃ r,v = ay r∧K r h':=au [(pv a0),(.int .u64 a1)] Tryz.func208 c c c fun _=>M<|O c<|M<|J c<|J c<|aa<|Z H en_207 fun r7 _ H1=>J c<|V c c (aw _) (fun g2=>wv<|ag c)<|bP H1 (fun k4 H5=>bC H5 fun q10 e6 H7=>F (D k4)<|R (aI<|aL (az c k4)<|an e6)<|F (D k4)<|R (ad fld_286_1 c)<|F (D k4)<|aT H7 sc_264 c (fun _=>c) c fun x12 H8=>F (D k4)<|R (ag c)<|F (D k4)<|R (ag c)<|F (D k4)<|R (bp c c)<|F (D k4)<|Z H8 en_220 fun r16 _ H9=>p (aR c k4 c)<|O c<|ah<|Y ⟨r16,c,H9⟩) fun k4 H5=>W (aQ k4)<|W (aQ k4)<|W (aQ k4)<|W (aQ k4)<|W (aQ k4)<|W (aQ k4)<|W (aQ k4)<|p (ao c k4 c)<|O c<|ah<|Y ⟨false,c,H5⟩
end Go.Proofs.YtmggcfijlpldpaaGreatDoor
namespace Go.Proofs.YtmggcfijlpldpaaGreatDoor
open Go Mb
def kw (x:Ptr) (c:Int × Int):As:=fun h=>∃ b:Nat,(x = some (b,0))∧aC [blk b qb [.int .u64 c.1,.int .i64 c.2]] h
theorem cell_op {x:Ptr} {c:Int × Int} {l:List As} {h:Hp} (s0:aC (kw x c::l) h):∃ b,x = some (b,0)∧aC (blk b qb [.int .u64 c.1,.int .i64 c.2]::l) h:=by
  obtain ⟨b,hx,st⟩:=op_ s0
  exact ⟨b,hx,st⟩
theorem cell_cl {b:Nat} {v n:Int} {l:List As} {h:Hp} (st:aC (blk b qb [.int .u64 v,.int .i64 n]::l) h):aC (kw (some (b,0)) (v,n)::l) h:=cl_ (m:=fun b=>[blk b qb [.int .u64 (v,n).1,.int .i64 (v,n).2]]) b rfl st
namespace Cell
def tick (c:Int × Int):Int × Int:=(c.1,IntKind.i64.wrap (c.2 + 1))
def cas (c:Int × Int) (o v:Int):Bool × Int × Int:=if c.1 = o then (true,v,(tick c).2) else (false,tick c)
def up (c:Int × Int) (m:Int):(Int × Bool) × Int × Int:=if c.1 ≥ m then ((c.1,false),tick c) else ((IntKind.u64.wrap (c.1 + 1),true),(IntKind.u64.wrap (c.1 + 1),(tick c).2))
end Cell
theorem sp_cell_New (v:Int):Sp Tryz.prog sF [.int .u64 v] oD [] (fun r=>aC [kw r (v,0)]):=by
  intro h st
  refine sim_cell_New _ ?_
  unfold sh_cell_New
  exact oG st fun b h' s1=>cell_cl s1
theorem sp_cell_Load (x:Ptr) (c:Int × Int):Sp Tryz.prog lH [pv x] gw [kw x c] (fun r=>pa_ (r = c.1) [kw x (Cell.tick c)]):=by
  intro h s0
  obtain ⟨b,rfl,st⟩:=cell_op s0
  refine sim_cell_Cell_Load _ ?_
  unfold tC
  refine df rfl (cx ?_)
  refine bi c.2 st (i:=0) rfl rfl rfl ?_
  refine tY (i:=0) st rfl (Nat.le_refl _) fun h2 s2=>?_
  refine bi c.1 s2 (i:=0) rfl rfl rfl ?_
  exact aU rfl (cell_cl s2)
theorem sp_cell_Cas (x:Ptr) (c:Int × Int) (o v:Int):Sp Tryz.prog qL [pv x,.int .u64 o,.int .u64 v] ay [kw x c] (fun r=>pa_ (r = (Cell.cas c o v).1) [kw x (Cell.cas c o v).2]):=by
  intro h s0
  obtain ⟨b,rfl,st⟩:=cell_op s0
  refine sim_cell_Cell_Cas _ _ _ ?_
  unfold uL
  refine df rfl (cx ?_)
  refine bi c.2 st (i:=0) rfl rfl rfl ?_
  refine tY (i:=0) st rfl (Nat.le_refl _) fun h2 s2=>?_
  refine bi c.1 s2 (i:=0) rfl rfl rfl ?_
  refine aV (fun k=>?_) (fun k=>?_)
  · have k':¬ c.1 = o:=by simpa using k
    have e:Cell.cas c o v = (false,Cell.tick c):=if_neg k'
    rw [e]
    exact aU rfl (cell_cl s2)
  · have k':c.1 = o:=by simpa using k
    have e:Cell.cas c o v = (true,v,(Cell.tick c).2):=if_pos k'
    rw [e]
    refine tY (i:=0) s2 rfl (show 0 + 0 + 1 ≤ 2 by decide) fun h3 s3=>?_
    exact aU rfl (cell_cl s3)
theorem sp_cell_Up (x:Ptr) (c:Int × Int) (m:Int):Sp Tryz.prog ov [pv x,.int .u64 m] bG [kw x c] (fun r=>pa_ (r = (Cell.up c m).1) [kw x (Cell.up c m).2]):=by
  intro h s0
  obtain ⟨b,rfl,st⟩:=cell_op s0
  refine sim_cell_Cell_Up _ _ ?_
  unfold sh_cell_Cell_Up
  refine df rfl (cx ?_)
  refine bi c.2 st (i:=0) rfl rfl rfl ?_
  refine tY (i:=0) st rfl (Nat.le_refl _) fun h2 s2=>?_
  refine bi c.1 s2 (i:=0) rfl rfl rfl ?_
  refine aV (fun k=>?_) (fun k=>?_)
  · have k':c.1 ≥ m:=by simpa using k
    have e:Cell.up c m = ((c.1,false),Cell.tick c):=if_pos k'
    rw [e]
    refine bi c.1 s2 (i:=0) rfl rfl rfl ?_
    exact aU rfl (cell_cl s2)
  · have k':¬ c.1 ≥ m:=by simpa using k
    have e:Cell.up c m = ((IntKind.u64.wrap (c.1 + 1),true),(IntKind.u64.wrap (c.1 + 1),(Cell.tick c).2)):=if_neg k'
    rw [e]
    refine bi c.1 s2 (i:=0) rfl rfl rfl ?_
    refine tY (i:=0) s2 rfl (show 0 + 0 + 1 ≤ 2 by decide) fun h3 s3=>?_
    refine bi (IntKind.u64.wrap (c.1 + 1)) s3 (i:=0) rfl rfl rfl ?_
    exact aU rfl (cell_cl s3)
def uk (x:Ptr) (k:(Int × Int) × (Int × Int)):As:=fun h=>∃ bs:Nat × Ptr × Ptr,(x = some (bs.1,0))∧aC [blk bs.1 mg [pv bs.2.1,pv bs.2.2],kw bs.2.1 k.1,kw bs.2.2 k.2] h
theorem lock_op {x:Ptr} {k:(Int × Int) × (Int × Int)} {l:List As} {h:Hp} (s0:aC (uk x k::l) h):∃ b p q,x = some (b,0)∧aC (blk b mg [pv p,pv q]::kw p k.1::kw q k.2::l) h:=by
  obtain ⟨⟨b,p,q⟩,hx,st⟩:=op_ s0
  exact ⟨b,p,q,hx,st⟩
theorem lock_cl {b:Nat} {p q:Ptr} {k1 k2:Int × Int} {l:List As} {h:Hp} (st:aC (blk b mg [pv p,pv q]::kw p k1::kw q k2::l) h):aC (uk (some (b,0)) (k1,k2)::l) h :=
  cl_ (m:=fun bs:Nat × Ptr × Ptr=>[blk bs.1 mg [pv bs.2.1,pv bs.2.2],kw bs.2.1 (k1,k2).1,kw bs.2.2 (k1,k2).2]) (b,p,q) rfl st
namespace Lock
abbrev S:=(Int × Int) × (Int × Int)
def draw (k:S):Int × S:=(IntKind.u64.wrap ((Cell.up k.1 18446744073709551615).1.1 - 1),((Cell.up k.1 18446744073709551615).2,k.2))
def turn (k:S) (t:Int):Bool × S:=if k.2.1 = t then (decide (t < k.1.1),(Cell.tick k.1,Cell.tick k.2)) else (false,(k.1,Cell.tick k.2))
def pass (k:S) (t:Int):Bool × S:=if (turn k t).1 then ((Cell.cas (turn k t).2.2 t (IntKind.u64.wrap (t + 1))).1,((turn k t).2.1,(Cell.cas (turn k t).2.2 t (IntKind.u64.wrap (t + 1))).2)) else (false,(turn k t).2)
end Lock
theorem sp_ticket_New:Sp Tryz.prog wh [] sW [] (fun r=>aC [uk r ((0,0),(0,0))]):=by
  intro h st
  refine sim_ticket_New ?_
  unfold sh_ticket_New
  refine cJ [] (sp_cell_New 0) st rfl fun p h1 s1=>?_
  refine cJ [] (sp_cell_New 0) (dw s1) rfl fun q h2 s2=>?_
  refine oG (dw s2) fun b h3 s3=>?_
  exact lock_cl (ba [0,1] s3 rfl)
theorem sp_ticket_Draw (x:Ptr) (k:Lock.S):Sp Tryz.prog mI [pv x] gw [uk x k] (fun r=>pa_ (r = (Lock.draw k).1) [uk x (Lock.draw k).2]):=by
  intro h s0
  obtain ⟨b,p,q,rfl,st⟩:=lock_op s0
  refine sim_ticket_Lock_Draw _ ?_
  unfold qW
  refine df rfl (cx ?_)
  refine bi p st (i:=0) rfl rfl rfl ?_
  refine cJ [1] (sp_cell_Up p k.1 _) st rfl fun r h1 s1=>?_
  obtain ⟨hr,s2⟩:=bn.1 s1
  subst hr
  exact aU rfl (lock_cl (ba [1] s2 rfl))
theorem sp_ticket_Turn (x:Ptr) (k:Lock.S) (t:Int):Sp Tryz.prog jF [pv x,.int .u64 t] ay [uk x k] (fun r=>pa_ (r = (Lock.turn k t).1) [uk x (Lock.turn k t).2]):=by
  intro h s0
  obtain ⟨b,p,q,rfl,st⟩:=lock_op s0
  refine sim_ticket_Lock_Turn _ _ ?_
  unfold qU
  refine dL rfl (cx ?_)
  refine bi q st (i:=0) rfl rfl rfl ?_
  refine cJ [2] (sp_cell_Load q k.2) st rfl fun r h1 s1=>?_
  obtain ⟨hr,s2⟩:=bn.1 s1
  subst hr
  refine aV (fun c=>?_) (fun c=>?_)
  · have c':k.2.1 = t:=by simpa using c
    have e:Lock.turn k t = (decide (t < k.1.1),(Cell.tick k.1,Cell.tick k.2)):=if_pos c'
    rw [e]
    refine bi p s2 (i:=1) rfl rfl rfl ?_
    refine cJ [2] (sp_cell_Load p k.1) s2 rfl fun r h2 s3=>?_
    obtain ⟨hr,s4⟩:=bn.1 s3
    subst hr
    exact aU rfl (lock_cl (ba [2] s4 rfl))
  · have c':¬ k.2.1 = t:=by simpa using c
    have e:Lock.turn k t = (false,(k.1,Cell.tick k.2)):=if_neg c'
    rw [e]
    exact aU rfl (lock_cl (ba [1,1] s2 rfl))
theorem sp_ticket_Pass (x:Ptr) (k:Lock.S) (t:Int):Sp Tryz.prog mH [pv x,.int .u64 t] ay [uk x k] (fun r=>pa_ (r = (Lock.pass k t).1) [uk x (Lock.pass k t).2]):=by
  intro h s0
  refine sim_ticket_Lock_Pass _ _ ?_
  unfold qV
  refine cJ [0] (sp_ticket_Turn x k t) s0 rfl fun r h1 s1=>?_
  obtain ⟨hr,s2⟩:=bn.1 s1
  subst hr
  refine aV (fun c=>?_) (fun c=>?_)
  · have e:Lock.pass k t = ((Cell.cas (Lock.turn k t).2.2 t (IntKind.u64.wrap (t + 1))).1,((Lock.turn k t).2.1,(Cell.cas (Lock.turn k t).2.2 t (IntKind.u64.wrap (t + 1))).2)):=if_pos c
    rw [e]
    obtain ⟨b,p,q,rfl,st⟩:=lock_op s2
    refine cx (bi q st (i:=0) rfl rfl rfl ?_)
    refine cJ [2] (sp_cell_Cas q _ t _) st rfl fun r h2 s3=>?_
    obtain ⟨hr,s4⟩:=bn.1 s3
    subst hr
    exact aU rfl (lock_cl (ba [1,1] s4 rfl))
  · have e:Lock.pass k t = (false,(Lock.turn k t).2):=by unfold Lock.pass; rw [c]; rfl
    rw [e]
    exact aU rfl s2
end Go.Proofs.YtmggcfijlpldpaaGreatDoor
