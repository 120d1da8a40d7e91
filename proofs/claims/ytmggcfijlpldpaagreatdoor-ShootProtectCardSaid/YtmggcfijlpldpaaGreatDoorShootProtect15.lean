/- Part of the proof of: The law ShootProtect returns true for every input, and leaves its arguments as they were. -/
import Derived.Test.YtmggcfijlpldpaaGreatDoorShootProtect14
set_option linter.all false
set_option maxRecDepth 20000
namespace Go.Proofs.YtmggcfijlpldpaaGreatDoor
open Go Mb
set_option linter.unusedVariables false
def hist_May_l1 (a0:Sl) (a1:aE) (K:Bool→Hp→Prop) (v12:(Option Nat)) (v13:(Option Nat)) (Rec4:(Int × Int)→Hp→Prop) (s3:Int × Int):Hp→Prop:=br (decide (s3.2 < (a0.len:Int))) ( ix a0 s3.2 fun q18=>ld (q18.1,q18.2 + Int.toNat s3.2 * 16) aA.C fun x19=>br ((!(!(fe x19 a1 s3.1))) && (decide (x19.fEffect > 0))) ( hpv Tryz.prog (Instr.lookup iZ (.map v12) (.int .i64 x19.fEffect) false) ay fun (v33:Bool)=>br v33 ( K false) ( hpv Tryz.prog (Instr.lookup gH (.map v13) (.int .i64 x19.fCore) true) bH fun (v40:Int × Bool)=>br (v40.2 && ((decide (v40.1 ≤ 0)) || (decide (x19.fBegin ≤ v40.1)))) ( K false) ( hpu Tryz.prog (Instr.mapUpdate iZ (.map v12) (.int .i64 x19.fEffect) (.bool true))<|hpu Tryz.prog (Instr.mapUpdate gH (.map v13) (.int .i64 x19.fCore) (.int .i64 x19.fEnd))<|Rec4 (x19.fBegin,(IntKind.i64.wrap (s3.2 + 1)))))) ( br ((!(fe x19 a1 s3.1)) || false) ( K false) ( hpv Tryz.prog (Instr.lookup gH (.map v13) (.int .i64 x19.fCore) true) bH fun (v40:Int × Bool)=>br (v40.2 && ((decide (v40.1 ≤ 0)) || (decide (x19.fBegin ≤ v40.1)))) ( K false) ( hpu Tryz.prog (Instr.mapUpdate iZ (.map v12) (.int .i64 x19.fEffect) (.bool true))<|hpu Tryz.prog (Instr.mapUpdate gH (.map v13) (.int .i64 x19.fCore) (.int .i64 x19.fEnd))<|Rec4 (x19.fBegin,(IntKind.i64.wrap (s3.2 + 1))))))) ( K true)
def sh_hist_May (a0:Sl) (a1:aE) (K:Bool→Hp→Prop):Hp→Prop:=hpv Tryz.prog (Instr.makeMap iZ none) R_map_int_bool fun (v12:(Option Nat))=>hpv Tryz.prog (Instr.makeMap gH none) R_map_int_int fun (v13:(Option Nat))=>Lp (hist_May_l1 a0 a1 K v12 v13) (0,0)
theorem sim_hist_May (a0:Sl) (a1:aE) {K:Bool→Hp→Prop} {h:Hp} (H:sh_hist_May a0 a1 K h):Ct Tryz.prog wk #[(sv a0),(.agg (aE.C a1).toArray)] h fun v h'=>∃ r,v = ay r∧K r h':=au [(sv a0),(.agg (aE.C a1).toArray)] Tryz.func33 c c c fun _=>M<|aa<|cD (l:=aE.C a1) c c c fun b3=>O c<|M<|aa<|aO H x_makeMap0 c fun v12 _ H1=>aa<|aO H1 x_makeMap0 c fun v13 _ H2=>p (aq c)<|p (aq c)<|O c<|aj<|M<|J c<|p (dz c Tryz.underlying43 c)<|J c<|ac<|av<|bA (step:=hist_May_l1 a0 a1 K v12 v13) (fun s3=>[(3,(.pointer (some ⟨b3,0,none⟩))),(5,(.int .i64 s3.1)),(6,(.map v12)),(7,(.map v13)),(14,(sv a0)),(15,(.int .i64 (a0.len:Int))),(16,(.int .i64 s3.2))]) (fun s3=>[bx b3 27 (aE.C a1)]) H2 (.cons c<|.cons c<|.cons c<|.cons c<|.cons c<|.cons c<|.cons c<|.nil _) (.cons_cons _ .slnil) fun Rec4 s3 _ H5=>M<|p (cm c c)<|ac<|aj<|ar c H5 (fun k6 H7=>am<|aj<|av<|M<|ce H7 fun q18 e8 h9 H10=>p (bo rY (aL c<|aZ e8) c h9)<|aa<|gx H10 ag_54 c (fun _=>c) c fun x19 H11=>aa<|aK (l:=aA.C (⟨0,0,(⟨0,0,0,0,0⟩:ae),0,0,0,(⟨0,0⟩:ab),(⟨0,0,0,0⟩:al)⟩:aA)) zero_54 c c fun b9=>aa<|aN (k:=0) (vs:=aA.C x19) inf_54 c c c c c c c<|ac<|aj<|M<|bg (bw (k:=0) ag_54 c c c c) c<|bg (bw (k:=1) qy c c c c) c<|J c<|aa<|cA (vs:=[(.agg (aA.C x19).toArray),(.agg (aE.C a1).toArray),(.int .i64 s3.1)]) (bq<|ct_hist_one x19 a1 s3.1 _) en_69 c c<|p (cf c)<|J c<|V c c (aG _) (fun g12=>wv<|ad iI c)<|V c c (aG _) (fun g13=>cv<|bc (k:=0) aY (az c g13) c c)<|V c c (aG _) (fun g14=>wv<|pY (az c g14) c)<|V c c (aG _) (fun g15=>wv<|ag<|az c g15)<|V c c (qQ _ _) (fun g16=>wv<|ag c)<|V c c (qQ _ _) (fun g17=>wv<|ad iI c)<|V c c (qQ _ _) (fun g18=>cv<|bc (k:=0) aY (az c g18) c c)<|bP H11 (fun k20 H21=>F ((gv_t (b_l k20) _).trans<|D<|b_r k20)<|aO H21 (x_lookup (az c k20)<|az c k20) c fun v33 _ H22=>F (D<|bY<|b_l k20)<|R (aR (az c<|b_l k20) (b_r k20) c)<|p (ao c (bY<|b_l k20) c)<|ac<|ar c H22 (fun k23 H24=>M<|O c<|ah<|Y ⟨false,c,H24⟩) fun k23 H24=>am<|aj<|M<|J c<|p (ad sK c)<|bg (bc (k:=0) aY c c c) c<|aa<|aO H24 (x_lookup c c) c fun v40 _ H25=>J c<|p (ai c c)<|p (ai c c)<|p (aq c)<|O c<|M<|J c<|J c<|V c c (aw _) (fun g26=>wv<|ag c)<|V c c (aw _) (fun g27=>wv<|v_le (az c g27) c)<|V c c (aw _) (fun g28=>wv<|ag<|az c g28)<|V c c (dN _ _) (fun g29=>wv<|ad sJ c)<|V c c (dN _ _) (fun g30=>cv<|bc (k:=0) aY (az c g30) c c)<|V c c (dN _ _) (fun g31=>wv<|ag c)<|V c c (dN _ _) (fun g32=>wv<|v_le (az c g32)<|az c g32)<|V c c (aw _) (fun g33=>wv<|cZ (az c g33)<|aL c<|wu g33)<|p (bN c c)<|ac<|ar c H25 (fun k34 H35=>M<|O c<|ah<|Y ⟨false,c,H35⟩) fun k34 H35=>am<|bj (n:=13) [bx b9 54 (aA.C x19)] ch c (.cons_cons _<|.cons _ .slnil)<|U 0 c (ag c)<|U 1 c (ad iI c)<|z_E 2 c (da (k:=0) aY c c c)<|U 3 c (ag c)<|U 4 c (ad sK c)<|z_E 5 c (da (k:=0) aY c c c)<|U 6 c (ad sJ c)<|z_E 7 c (da (k:=0) aY c c c)<|U 8 c (ad qt c)<|z_E 9 c (da (k:=0) aY c c c)<|U 10 c (aq c)<|G 11 c<|to_hpu H35 (tc c c c) fun _ H36=>⟨.cons_cons _<|.cons _ .slnil,G 12 c<|to_hpu H36 (tc c c c) fun _ H37=>⟨.cons_cons _<|.cons _ .slnil,aS (by kernel_rfl)<|ap<|p (bp c c)<|J c<|ac<|cF (x19.fBegin,(IntKind.i64.wrap (s3.2 + 1))) H37 (.cons c<|.cons c<|.cons c<|.cons c<|.cons c<|.cons c<|.cons c<|.nil _)<|.cons _<|.cons_cons _ .slnil⟩⟩) fun k20 H21=>W ((qQ _ _).trans k20)<|V c c (aG _) (fun g38=>wv<|ao (az c g38) (b_andr k20 g38) c)<|p (cZ c c)<|ac<|ar c H21 (fun k39 H40=>M<|O c<|ah<|Y ⟨false,c,H40⟩) fun k39 H40=>am<|aj<|M<|J c<|p (ad sK c)<|bg (bc (k:=0) aY c c c) c<|aa<|aO H40 (x_lookup c c) c fun v40 _ H41=>J c<|p (ai c c)<|p (ai c c)<|p (aq c)<|O c<|M<|J c<|J c<|V c c (aw _) (fun g42=>wv<|ag c)<|V c c (aw _) (fun g43=>wv<|v_le (az c g43) c)<|V c c (aw _) (fun g44=>wv<|ag<|az c g44)<|V c c (dN _ _) (fun g45=>wv<|ad sJ c)<|V c c (dN _ _) (fun g46=>cv<|bc (k:=0) aY (az c g46) c c)<|V c c (dN _ _) (fun g47=>wv<|ag c)<|V c c (dN _ _) (fun g48=>wv<|v_le (az c g48)<|az c g48)<|V c c (aw _) (fun g49=>wv<|cZ (az c g49)<|aL c<|wu g49)<|p (bN c c)<|ac<|ar c H41 (fun k50 H51=>M<|O c<|ah<|Y ⟨false,c,H51⟩) fun k50 H51=>am<|bj (n:=13) [bx b9 54 (aA.C x19)] ch c (.cons_cons _<|.cons _ .slnil)<|U 0 c (ag c)<|U 1 c (ad iI c)<|z_E 2 c (da (k:=0) aY c c c)<|U 3 c (ag c)<|U 4 c (ad sK c)<|z_E 5 c (da (k:=0) aY c c c)<|U 6 c (ad sJ c)<|z_E 7 c (da (k:=0) aY c c c)<|U 8 c (ad qt c)<|z_E 9 c (da (k:=0) aY c c c)<|U 10 c (aq c)<|G 11 c<|to_hpu H51 (tc c c c) fun _ H52=>⟨.cons_cons _<|.cons _ .slnil,G 12 c<|to_hpu H52 (tc c c c) fun _ H53=>⟨.cons_cons _<|.cons _ .slnil,aS (by kernel_rfl)<|ap<|p (bp c c)<|J c<|ac<|cF (x19.fBegin,(IntKind.i64.wrap (s3.2 + 1))) H53 (.cons c<|.cons c<|.cons c<|.cons c<|.cons c<|.cons c<|.cons c<|.nil _)<|.cons _<|.cons_cons _ .slnil⟩⟩) fun k6 H7=>bh<|M<|O c<|ah<|Y ⟨true,c,H7⟩
def sH (a0:Sl) (a1:Value) (K:Sl→Hp→Prop) (Rec2:(Sl × Int)→Hp→Prop) (s1:Sl × Int):Hp→Prop:=br (decide (s1.2 < (a0.len:Int))) ( ix a0 s1.2 fun q13=>ld (q13.1,q13.2 + Int.toNat s1.2 * 16) aA.C fun x14=>clv Tryz.prog a1 [(.agg (aA.C x14).toArray)] ay fun r17=>br r17 ( hpv Tryz.prog (Instr.buildSlice dB 1 #[(0,(.int .i64 s1.2))]) cr fun (v20:Sl)=>hpv Tryz.prog (Builtin.append_ #[dB,dB] dB #[(sv s1.1),(sv v20)]) cr fun (v21:Sl)=>Rec2 (v21,(IntKind.i64.wrap (s1.2 + 1)))) ( Rec2 (s1.1,(IntKind.i64.wrap (s1.2 + 1))))) ( K s1.1)
def sh_hist_places (a0:Sl) (a1:Value) (K:Sl→Hp→Prop):Hp→Prop:=Lp (sH a0 a1 K) ((⟨none,0,0,none⟩:Sl),0)
theorem sim_hist_places (a0:Sl) (a1:Value) {K:Sl→Hp→Prop} {h:Hp} (H:sh_hist_places a0 a1 K h):Ct Tryz.prog pQ #[(sv a0),a1] h fun v h'=>∃ r,v = cr r∧K r h':=au [(sv a0),a1] Tryz.func67 c c c fun _=>M<|O c<|M<|O c<|aj<|M<|J c<|p (dz c Tryz.underlying43 c)<|J c<|ac<|av<|bA (step:=sH a0 a1 K) (fun s1=>[(1,a1),(5,(sv s1.1)),(8,(sv a0)),(9,(.int .i64 (a0.len:Int))),(10,(.int .i64 s1.2))]) (fun s1=>[]) H (.cons c<|.cons c<|.cons c<|.cons c<|.cons c<|.nil _) .slnil fun Rec2 s1 _ H3=>M<|p (cm c c)<|ac<|aj<|ar c H3 (fun k4 H5=>am<|aj<|av<|M<|J c<|ce H5 fun q13 e6 h7 H8=>p (bo rY (aL c<|aZ e6) c h7)<|aa<|gx H8 ag_54 c (fun _=>c) c fun x14 H9=>aa<|aK (l:=aA.C (⟨0,0,(⟨0,0,0,0,0⟩:ae),0,0,0,(⟨0,0⟩:ab),(⟨0,0,0,0⟩:al)⟩:aA)) zero_54 c c fun b7=>p (aq c)<|aa<|aN (k:=0) (vs:=aA.C x14) inf_54 c c c c c c c<|ac<|M<|J c<|bg (bw (k:=0) ag_54 c c c c) c<|aa<|to_clv H9 c c c fun r17 _ H10=>ac<|ar c H10 (fun k11 H12=>ap<|J c<|J c<|aa<|aO H12 (bm (vs:=[(.int .i64 s1.2)]) c) c fun v20 _ H13=>aa<|aO H13 (dA c c) c fun v21 _ H14=>O c<|ap<|p (bp c c)<|J c<|ac<|cF (v21,(IntKind.i64.wrap (s1.2 + 1))) H14 (.cons c<|.cons c<|.cons c<|.cons c<|.cons c<|.nil _)<|.cons _ .slnil) fun k11 H12=>am<|ap<|p (bp c c)<|J c<|ac<|cF (s1.1,(IntKind.i64.wrap (s1.2 + 1))) H12 (.cons c<|.cons c<|.cons c<|.cons c<|.cons c<|.nil _)<|.cons _ .slnil) fun k4 H5=>bh<|M<|J c<|O c<|ah<|Y ⟨s1.1,c,H5⟩
def uI (a0:Int) (a1:Int) (c0:Nat) (K:Int→Hp→Prop):Hp→Prop:=ld (c0,0) cS fun x6=>ix x6 a0 fun q8=>ld (q8.1,q8.2 + Int.toNat a0 * 16 + 8) (cI .i64) fun x10=>ld (c0,0) cS fun x11=>ix x11 a1 fun q13=>ld (q13.1,q13.2 + Int.toNat a1 * 16 + 8) (cI .i64) fun x15=>K (fy x10 x15)
theorem sim_hist_Order_c2 (a0:Int) (a1:Int) (c0:Nat) {K:Int→Hp→Prop} {h:Hp} (H:uI a0 a1 c0 K h):Ct Tryz.prog qK #[(.int .i64 a0),(.int .i64 a1),(.pointer (some ⟨c0,0,none⟩))] h fun v h'=>∃ r,v = dW r∧K r h':=au [(.int .i64 a0),(.int .i64 a1),(.pointer (some ⟨c0,0,none⟩))] Tryz.func88 c c c fun _=>M<|O c<|aj<|bj (n:=12) [] ch c .slnil<|U 1 c (ag c)<|U 6 c (ag c)<|bD (i:=0) (fun _ _ _ _ hh=>hh) H c (by kernel_rfl) sc_43 c (fun _=>c) c fun x6 H1=>fQ H1 fun q8 e2 h3 H4=>U 2 c (bo rY (aL c<|aZ e2) c h3)<|U 3 c (ad iI c)<|bD (i:=4) (fun _ _ _ _ hh=>hh) H4 c (by kernel_rfl) aY c (fun _=>c) c fun x10 H5=>bD (i:=5) (fun _ _ _ _ hh=>hh) H5 c (by kernel_rfl) sc_43 c (fun _=>c) c fun x11 H6=>fQ H6 fun q13 e7 h8 H9=>U 7 c (bo rY (aL c<|aZ e7) c h8)<|U 8 c (ad iI c)<|bD (i:=9) (fun _ _ _ _ hh=>hh) H9 c (by kernel_rfl) aY c (fun _=>c) c fun x15 H10=>G 10 c<|cA (vs:=[(.int .i64 x10),(.int .i64 x15)]) (bq<|ct_cmp_Compare_int x10 x15 _) en_89 c c ⟨.slnil,U 11 c (aq c)<|aS (by kernel_rfl)<|ah<|Y ⟨fy x10 x15,c,H10⟩⟩
def sh_hist_Order (a0:Sl) (K:Sl→Hp→Prop):Hp→Prop:=nw eC [sv a0] fun b1=>ld (b1,0) cS fun x4=>cl Tryz.prog pQ [(sv x4),(.func (.func mB) #[] #[])] cr fun r5=>cl Tryz.prog fq [(sv r5),(.func (.func qK) #[] #[(.pointer (some ⟨b1,0,none⟩))])] R_ fun (_:Unit)=>K r5
theorem sim_hist_Order (a0:Sl) {K:Sl→Hp→Prop} {h:Hp} (H:sh_hist_Order a0 K h):Ct Tryz.prog oq #[(sv a0)] h fun v h'=>∃ r,v = cr r∧K r h':=au [(sv a0)] Tryz.func43 c c c fun _=>M<|aa<|gP c c c H fun b1 _ H1=>O c<|M<|aa<|aT H1 sc_43 c (fun _=>c) c fun x4 H2=>aa<|Z H2 en_67 fun r5 _ H3=>O c<|M<|J c<|p (v_func c c)<|aa<|Z H3 en_87 fun r8 _ H4=>ac<|M<|J c<|O c<|ah<|Y ⟨r5,c,H4⟩
def sh_hist_Over_c1 (a0:aA) (c0:Nat) (K:Bool→Hp→Prop):Hp→Prop:=ld (c0,0) (cI .i64) fun x6=>br ((decide (a0.fBegin ≤ x6)) && (!(a0.fEffect == 0))) ( ld (c0,0) (cI .i64) fun x15=>K (decide (a0.fEffect > x15))) ( K ((decide (a0.fBegin ≤ x6)) && true))
theorem sim_hist_Over_c1 (a0:aA) (c0:Nat) {K:Bool→Hp→Prop} {h:Hp} (H:sh_hist_Over_c1 a0 c0 K h):Ct Tryz.prog sD #[(.agg (aA.C a0).toArray),(.pointer (some ⟨c0,0,none⟩))] h fun v h'=>∃ r,v = ay r∧K r h':=au [(.agg (aA.C a0).toArray),(.pointer (some ⟨c0,0,none⟩))] Tryz.func215 c c c fun _=>M<|aa<|cD (l:=aA.C a0) c c c fun b2=>O c<|M<|p (ad sJ c)<|bg (bc (k:=0) aY c c c) c<|aa<|aT H aY c (fun _=>c) c fun x6 H1=>p (v_le c c)<|J c<|V c c (aw _) (fun g2=>wv<|ad iI c)<|V c c (aw _) (fun g3=>cv<|bc (k:=0) aY (az c g3) c c)<|V c c (aw _) (fun g4=>wv<|bM (az c g4) c)<|V c c (aw _) (fun g5=>wv<|ag<|az c g5)<|V c c (dN _ _) (fun g6=>wv<|ad iI c)<|V c c (dN _ _) (fun g7=>cv<|bc (k:=0) aY (az c g7) c c)<|bP H1 (fun k9 H10=>F ((gv_t (b_l k9) _).trans<|D<|bY<|b_r k9)<|aT H10 aY c (fun _=>c) c fun x15 H11=>F ((gv_t (b_l k9) _).trans<|D<|bY<|b_r k9)<|R (pY (az c k9) c)<|F (D<|b_l k9)<|R (ao (az c<|b_l k9) (bY<|b_r k9) c)<|p (aR c (b_l k9) c)<|O c<|ah<|Y ⟨decide (a0.fEffect > x15),c,H11⟩) fun k9 H10=>W ((dN _ _).trans k9)<|W ((dN _ _).trans k9)<|V c c (aw _) (fun g12=>wv<|aR (az c g12) (bE<|b_andr k9 g12) c)<|p (bN c c)<|O c<|ah<|Y ⟨((decide (a0.fBegin ≤ x6)) && true),c,H10⟩
def sh_hist_Over (a0:Sl) (a1:Int) (K:Sl→Hp→Prop):Hp→Prop:=nw kA [.int .i64 a1] fun b3=>cl Tryz.prog pQ [(sv a0),(.func (.func sD) #[] #[(.pointer (some ⟨b3,0,none⟩))])] cr fun r7=>K r7
theorem sim_hist_Over (a0:Sl) (a1:Int) {K:Sl→Hp→Prop} {h:Hp} (H:sh_hist_Over a0 a1 K h):Ct Tryz.prog n_hist_Over #[(sv a0),(.int .i64 a1)] h fun v h'=>∃ r,v = cr r∧K r h':=au [(sv a0),(.int .i64 a1)] Tryz.func198 c c c fun _=>M<|aa<|gP c c c H fun b3 _ H1=>O c<|M<|J c<|p (v_func c c)<|aa<|Z H1 en_67 fun r7 _ H2=>O c<|ah<|Y ⟨r7,c,H2⟩
end Go.Proofs.YtmggcfijlpldpaaGreatDoor
namespace Go.Proofs.YtmggcfijlpldpaaGreatDoor
open Go Mb
namespace Hist
def placesFrom (P:bX→Bool):List bX→Int→List Int
  | [],_=>[]
  | e::es,i=>if P e = true then i::placesFrom P es (i + 1) else placesFrom P es (i + 1)
def places (P:bX→Bool) (es:List bX):List Int:=placesFrom P es 0
def ev00:bX:=KK.ev0 0 0 ⟨0,0,0,0,0⟩ 0
def eff (es:List bX) (i:Int):Int:=(es.getD i.toNat ev00).fEffect
def ins (key:Int→Int) (x:Int):List Int→List Int
  | []=>[x]
  | y::l=>if key x < key y then x::y::l else y::ins key x l
def isort (key:Int→Int):List Int→List Int
  | []=>[]
  | x::l=>ins key x (isort key l)
def effs (es:List bX):List Int:=places (fun e=>decide (e.fEffect > 0)) es
def order (es:List bX):List Int:=isort (eff es) (effs es)
def over (es:List bX) (at_:Int):List Int:=places (fun e=>decide (e.fBegin ≤ at_) && (e.fEffect == 0 || decide (e.fEffect > at_))) es
def done (es:List bX):List Int:=places (fun e=>e.fEnd != 0) es
def endOf (ends:List (Int × Int)) (c:Int):Option Int:=(ends.find? (fun p=>p.1 == c)).map (·.2)
def stops (ends:List (Int × Int)) (e:bX):Bool:=match endOf ends e.fCore with
  | some n=>decide (n ≤ 0) || decide (e.fBegin ≤ n)
  | none=>false
def mayFrom (s:js):List bX→Int→List Int→List (Int × Int)→Bool
  | [],_,_,_=>true
  | e::es,last,seen,ends=>if fe e s last = false∨(e.fEffect > 0∧e.fEffect ∈ seen) then false else if stops ends e = true then false else mayFrom s es e.fBegin (e.fEffect::seen) ((e.fCore,e.fEnd)::ends)
def may (es:List bX) (s:js):Bool:=mayFrom s es 0 [] []
theorem placesFrom_app (P:bX→Bool) (e:bX):∀ (es:List bX) (i:Int),placesFrom P (es++[e]) i = placesFrom P es i++(if P e = true then [i + es.length] else [])
  | [],i=>by simp only [List.nil_append,placesFrom]; split <;> simp
  | d::es,i=>by
    simp only [List.cons_append,placesFrom]
    rw [placesFrom_app P e es (i + 1)]
    have e1:i + 1 + (es.length:Int) = i + ((d::es).length:Int):=by simp; omega
    rw [e1]
    split <;> simp
theorem placesFrom_len (P:bX→Bool):∀ (es:List bX) (i:Int),(placesFrom P es i).length ≤ es.length
  | [],_=>Nat.le_refl _
  | e::es,i=>by unfold placesFrom; have:=placesFrom_len P es (i + 1); split <;> simp <;> omega
theorem placesFrom_c (P:bX→Bool) (d:bX) (es:List bX) (i:Int):placesFrom P (d::es) i = if P d = true then i::placesFrom P es (i + 1) else placesFrom P es (i + 1):=rfl
theorem mem_placesFrom {P:bX→Bool} {x:Int}:∀ {es:List bX} {i:Int},x ∈ placesFrom P es i↔∃ (n:Nat) (e:bX),es[n]? = some e∧x = i + n∧P e = true
  | [],i=>by simp [placesFrom]
  | d::es,i=>by
    have ih:=mem_placesFrom (P:=P) (x:=x) (es:=es) (i:=i + 1)
    have sp:(∃ (n:Nat) (e:bX),(d::es)[n]? = some e∧x = i + n∧P e = true)↔(x = i∧P d = true)∨∃ (n:Nat) (e:bX),es[n]? = some e∧x = i + 1 + n∧P e = true:=by
      constructor
      · rintro ⟨n,e,h1,h2,h3⟩
        cases n with
        | zero=>simp at h1; subst h1; exact .inl ⟨by simpa using h2,h3⟩
        | succ n=>exact .inr ⟨n,e,by simpa using h1,by omega,h3⟩
      · rintro (⟨h2,h3⟩ | ⟨n,e,h1,h2,h3⟩)
        · exact ⟨0,d,rfl,by simpa using h2,h3⟩
        · exact ⟨n + 1,e,by simpa using h1,by omega,h3⟩
    rw [sp,← ih,placesFrom_c]
    split
    · rename_i hd
      rw [List.mem_cons]
      constructor
      · rintro (h | h)
        · exact .inl ⟨h,hd⟩
        · exact .inr h
      · rintro (h | h)
        · exact .inl h.1
        · exact .inr h
    · rename_i hd
      constructor
      · exact .inr
      · rintro (h | h)
        · exact absurd h.2 hd
        · exact h
theorem mem_places {P:bX→Bool} {x:Int} {es:List bX}:x ∈ places P es↔∃ (n:Nat) (e:bX),es[n]? = some e∧x = n∧P e = true:=by
  unfold places
  rw [mem_placesFrom]
  simp
theorem places_in {P:bX→Bool} {x:Int} {es:List bX} (h:x ∈ places P es):0 ≤ x∧x < es.length:=by
  obtain ⟨n,e,h1,rfl,_⟩:=mem_places.1 h
  have:=(List.getElem?_eq_some_iff.1 h1).1
  omega
theorem ins_perm (key:Int→Int) (x:Int):∀ l,(ins key x l).Perm (x::l)
  | []=>.refl _
  | y::l=>by
    unfold ins; split
    · exact .refl _
    · exact ((ins_perm key x l).cons y).trans (.swap _ _ _)
theorem isort_perm (key:Int→Int):∀ l,(isort key l).Perm l
  | []=>.refl _
  | x::l=>(ins_perm key x _).trans ((isort_perm key l).cons x)
theorem ins_up (key:Int→Int) (x:Int):∀ l,Up key l→Up key (ins key x l)
  | [],_=>List.pairwise_singleton _ _
  | y::l,h=>by
    obtain ⟨h1,h2⟩:=List.pairwise_cons.1 h
    unfold ins; split
    · rename_i hx
      refine List.pairwise_cons.2 ⟨fun z hz=>?_,h⟩
      rcases List.mem_cons.1 hz with rfl | hz
      · omega
      · have:=h1 z hz; omega
    · rename_i hx
      refine List.pairwise_cons.2 ⟨fun z hz=>?_,ins_up key x l h2⟩
      rcases List.mem_cons.1 ((ins_perm key x l).subset hz) with rfl | hz
      · omega
      · exact h1 z hz
theorem isort_up (key:Int→Int):∀ l,Up key (isort key l)
  | []=>.nil
  | x::l=>ins_up key x _ (isort_up key l)
def Apart (es:List bX):Prop:=∀ a b,a ∈ effs es→b ∈ effs es→eff es a = eff es b→a = b
theorem order_of {es:List bX} (ha:Apart es) {l:List Int} (hp:l.Perm (effs es)) (hu:Up (eff es) l):l = order es:=by
  refine List.Perm.eq_of_pairwise (le:=fun x y=>eff es x ≤ eff es y) (fun a b h1 h2 h3 h4=>?_) hu (isort_up _ _) (hp.trans (isort_perm _ _).symm)
  exact ha a b (hp.subset h1) ((isort_perm _ _).subset h2) (by omega)
theorem mayFrom_apart {s:js}:∀ {es:List bX} {last:Int} {seen:List Int} {ends:List (Int × Int)},mayFrom s es last seen ends = true →
    (∀ (n:Nat) e,es[n]? = some e→e.fEffect > 0→e.fEffect ∉ seen)∧∀ (n m:Nat) e d,es[n]? = some e→es[m]? = some d→e.fEffect > 0→e.fEffect = d.fEffect→n = m
  | [],_,_,_,_=>⟨fun n e h=>by simp at h,fun n m e d h=>by simp at h⟩
  | e0::es,last,seen,ends,h=>by
    unfold mayFrom at h
    split at h
    · cases h
    · split at h
      · cases h
      · rename_i h1 _
        obtain ⟨i1,i2⟩:=mayFrom_apart h
        have h0:e0.fEffect > 0→e0.fEffect ∉ seen:=fun hp hm=>h1 (.inr ⟨hp,hm⟩)
        refine ⟨fun n e hn hp=>?_,fun n m e d hn hm hp he=>?_⟩
        · cases n with
          | zero=>simp at hn; subst hn; exact h0 hp
          | succ n=>exact fun hm=>i1 n e (by simpa using hn) hp (by simp [hm])
        · cases n with
          | zero =>
            cases m with
            | zero=>rfl
            | succ m =>
              simp at hn; subst hn
              exact absurd (by simp [he]) (i1 m d (by simpa using hm) (by omega))
          | succ n =>
            cases m with
            | zero =>
              simp at hm; subst hm
              exact absurd (by simp [he]) (i1 n e (by simpa using hn) hp)
            | succ m=>rw [i2 n m e d (by simpa using hn) (by simpa using hm) hp he]
theorem eff_nat {es:List bX} {n:Nat} {e:bX} (h:es[n]? = some e):eff es n = e.fEffect:=by simp [eff,h]
theorem may_apart {es:List bX} {s:js} (h:may es s = true):Apart es:=by
  intro a b ha hb he
  obtain ⟨n,e,h1,rfl,h2⟩:=mem_places.1 ha
  obtain ⟨m,d,h3,rfl,h4⟩:=mem_places.1 hb
  rw [eff_nat h1,eff_nat h3] at he
  rw [(mayFrom_apart h).2 n m e d h1 h3 (by simpa using h2) he]
end Hist
theorem sp_hist_places (s:Sl) (es:List bX) (v:Value) (P:bX→Bool) (A:List As) (hb:es.length < 2 ^ 38)
    (hv:∀ e ∈ es,SpV Tryz.prog v [.agg e.C.toArray] ay (vE s es::A) (fun r=>pa_ (r = P e) (vE s es::A))) :
    Sp Tryz.prog pQ [sv s,v] cr (vE s es::A) (fun r=>aC (vI r (Hist.places P es)::vE s es::A)):=by
  intro h s0
  have hl:=(cd (j:=0) s0 rfl).1
  refine sim_hist_places _ _ ?_
  unfold sh_hist_places
  refine Lp.intro (fun (z:Sl × Int) h=>∃ n:Nat,z.2 = n∧n ≤ es.length∧aC (vI z.1 (Hist.placesFrom P (es.take n) 0)::vE s es::A) h) (fun (z:Sl × Int) _=>es.length - z.2.toNat) ⟨0,rfl,Nat.zero_le _,fu s0⟩ ?_
  rintro ⟨z,i⟩ h ⟨n,rfl,hn,s1⟩
  unfold sH
  refine aV (fun k=>?_) (fun k=>?_)
  · have hlt:n < es.length:=by rw [hl] at k; simpa using k
    have hw:IntKind.i64.wrap ((n:Int) + 1) = ((n + 1:Nat):Int):=by rw [bO (by omega) (by omega)]; rfl
    have ht:es.take (n + 1) = es.take n++[es[n]]:=by simp
    have hlen:((es.take n).length:Int) = n:=by simp; omega
    have hpl:=Hist.placesFrom_len P (es.take n) 0
    simp at hpl
    refine dv s1 (j:=1) rfl (by omega) (by show (n:Int) < _; omega) fun q hq=>?_
    refine dZ (j:=1) (i:=n) (k:=0) es[n] mQ s1 rfl hq rfl (aD hlt) (by simp) ?_
    refine clv_t (hv es[n] (List.getElem_mem hlt)) s1 fun r h2 s2=>?_
    obtain ⟨hr,s3⟩:=bn.1 s2
    have s4:=star_rot s3
    rw [hw]
    refine aV (fun k2=>?_) (fun k2=>?_)
    · refine vi s4 (i:=0) rfl (by omega) fun v h' s5=>?_
      refine ⟨⟨n + 1,rfl,hlt,?_⟩,by simp; omega⟩
      rw [ht,Hist.placesFrom_app,if_pos (by rw [← hr,k2]),hlen,Int.zero_add]
      exact s5
    · refine ⟨⟨n + 1,rfl,hlt,?_⟩,by simp; omega⟩
      rw [ht,Hist.placesFrom_app,if_neg (by rw [← hr,k2]; exact Bool.false_ne_true),List.append_nil]
      exact s4
  · have:n = es.length:=by rw [hl] at k; simp at k; omega
    subst this
    rw [List.take_length] at s1
    exact s1
theorem cmp_neg (x y:Int):fy x y < 0↔x < y:=by
  unfold fy dT
  simp only [bne_self_eq_false,cond_false]
  by_cases h1:x < y
  · simp [h1]
  · by_cases h2:x > y
    · simp [h1,h2]
    · simp [h1,h2]
theorem sp_hist_Over (s:Sl) (es:List bX) (a:Int) (hb:es.length < 2 ^ 38):Sp Tryz.prog n_hist_Over [sv s,.int .i64 a] cr [vE s es] (fun r=>aC [vI r (Hist.over es a),vE s es]):=by
  intro h s0
  refine sim_hist_Over _ _ ?_
  unfold sh_hist_Over
  refine oG s0 fun b3 h1 s1=>?_
  refine cJ [1,0] (sp_hist_places s es _ (fun e=>decide (e.fBegin ≤ a) && (e.fEffect == 0 || decide (e.fEffect > a))) [blk b3 kA [.int .i64 a]] hb ?_) s1 rfl fun r h2 s2=>?_
  · intro e he
    refine ⟨_,_,_,rfl,enter_hist_Over_c1,fun h s3=>?_⟩
    refine sim_hist_Over_c1 e b3 ?_
    unfold sh_hist_Over_c1
    refine bi a s3 (i:=1) rfl rfl rfl ?_
    refine aV (fun k=>?_) (fun k=>?_)
    · refine bi a s3 (i:=1) rfl rfl rfl ?_
      rw [Bool.and_eq_true] at k
      refine aU ?_ s3
      have k2:(e.fEffect == 0) = false:=by simpa using k.2
      rw [k.1,k2]; rfl
    · refine aU ?_ s3
      cases k1:decide (e.fBegin ≤ a) with
      | false=>rfl
      | true =>
        rw [k1] at k
        have k2:(e.fEffect == 0) = true:=by simpa using k
        rw [k2]; rfl
  · have s3:=dw s2
    exact mY (l:=[vI r (Hist.over es a),vE s es]) s3
theorem sp_hist_Order20 (s:Sl) (es:List bX) (hb:es.length ≤ 20) (ha:Hist.Apart es):Sp Tryz.prog oq [sv s] cr [vE s es] (fun r=>aC [vI r (Hist.order es),vE s es]):=by
  intro h s0
  refine sim_hist_Order _ ?_
  unfold sh_hist_Order
  refine oG s0 fun b1 h1 s1=>?_
  refine bi s s1 (i:=0) rfl rfl rfl ?_
  refine cJ [1,0] (sp_hist_places s es _ (fun e=>decide (e.fEffect > 0)) [blk b1 eC [sv s]] (by omega) ?_) s1 rfl fun r h2 s2=>?_
  · intro e he
    refine ⟨_,_,_,rfl,enter_hist_Order_c1,fun h s3=>?_⟩
    exact (ct_hist_Order_c1 e h).mono fun v h' ⟨r,hv,hr,hh⟩=>⟨r,hv,hr,by rw [hh]; exact s3⟩
  · have s3:=dw s2
    have hpl:=Hist.placesFrom_len (fun e=>decide (e.fEffect > 0)) es 0
    refine cJ [0,0,0] (sp_SortStable20 r _ [vE s es,blk b1 eC [sv s]] (Hist.eff es) (fun x=>0 ≤ x∧x < es.length) ?_ (Hist.effs es) (fun x hx=>Hist.places_in hx) (by unfold Hist.effs Hist.places; omega)) s3 rfl fun u h4 s4=>?_
    · rintro x y ⟨hx0,hx⟩ ⟨hy0,hy⟩
      refine ⟨_,_,_,rfl,enter_hist_Order_c2,fun h s5=>?_⟩
      obtain ⟨n,rfl⟩:=Int.eq_ofNat_of_zero_le hx0
      obtain ⟨m,rfl⟩:=Int.eq_ofNat_of_zero_le hy0
      have hn:n < es.length:=by omega
      have hm:m < es.length:=by omega
      refine sim_hist_Order_c2 n m b1 ?_
      unfold uI
      refine bi s s5 (i:=1) rfl rfl rfl ?_
      refine dv s5 (j:=0) rfl (by omega) (by omega) fun q hq=>?_
      refine dZ (j:=0) (i:=n) (k:=8) es[n].fEffect mQ s5 rfl hq rfl (aD hn) (c1 rfl rfl) ?_
      refine bi s s5 (i:=1) rfl rfl rfl ?_
      refine dv s5 (j:=0) rfl (by omega) (by omega) fun q2 hq2=>?_
      refine dZ (j:=0) (i:=m) (k:=8) es[m].fEffect mQ s5 rfl hq2 rfl (aD hm) (c1 rfl rfl) ?_
      refine aU ?_ s5
      rw [cmp_neg,Hist.eff_nat (aD hn),Hist.eff_nat (aD hm)]
    · obtain ⟨g1,g2,d,rfl,⟨m',⟨p1,p2⟩,s5⟩,s6⟩:=s4
      rw [Hist.order_of ha p1 p2] at s5
      exact rL (mY (l:=[vI r (Hist.order es),vE s es]) s5) d
theorem sp_hist_May (s:Sl) (es:List bX) (z:js) (hb:es.length < 2 ^ 38):Sp Tryz.prog wk [sv s,.agg z.C.toArray] ay [vE s es] (fun r=>pa_ (r = Hist.may es z) [vE s es]):=by
  intro h s0
  have hl:=(cd (j:=0) s0 rfl).1
  refine sim_hist_May _ _ ?_
  unfold sh_hist_May
  refine makeMap_m (τ:=Bool) (val:=fun x=>.bool x) rfl s0 fun b1 h1 s1=>?_
  refine makeMap_m (τ:=Int) (val:=fun x=>.int .i64 x) rfl s1 fun b2 h2 s2=>?_
  refine Lp.intro (fun (y:Int × Int) h=>∃ (n:Nat) (seen:List Int) (ends:List (Int × Int)),y.2 = n∧n ≤ es.length∧Hist.mayFrom z (es.drop n) y.1 seen ends = Hist.may es z∧aC [mapA b2 (fun x=>Value.int .i64 x) (Hist.endOf ends),mapA b1 (fun x=>Value.bool x) (fun x=>if x ∈ seen then some true else none),vE s es] h) (fun (y:Int × Int) _=>es.length - y.2.toNat) ⟨0,[],[],rfl,Nat.zero_le _,rfl,?_⟩ ?_
  · have e1:(fun x:Int=>if x ∈ ([]:List Int) then some true else none) = fun _=>none:=by funext x; simp
    have e2:Hist.endOf [] = fun _=>none:=by funext x; rfl
    rw [e1,e2]; exact s2
  rintro ⟨last,i⟩ h ⟨n,seen,ends,rfl,hn,he,s3⟩
  unfold hist_May_l1
  simp only at he ⊢
  refine aV (fun k=>?_) (fun k=>?_)
  · have hlt:n < es.length:=by rw [hl] at k; simpa using k
    have hw:IntKind.i64.wrap ((n:Int) + 1) = ((n + 1:Nat):Int):=by rw [bO (by omega) (by omega)]; rfl
    rw [List.drop_eq_getElem_cons hlt,Hist.mayFrom] at he
    refine dv s3 (j:=2) rfl (by omega) (by omega) fun q hq=>?_
    refine dZ (j:=2) (i:=n) (k:=0) es[n] mQ s3 rfl hq rfl (aD hlt) (by simp) ?_
    have rest:¬ (fe es[n] z last = false∨(es[n].fEffect > 0∧es[n].fEffect ∈ seen))→∀ K:(Int × Int)→Hp→Prop,
        (∀ (s':Int × Int) h',s'.1 = es[n].fBegin∧s'.2 = ((n + 1:Nat):Int)→Hist.stops ends es[n] = false→aC [mapA b2 (fun x=>Value.int .i64 x) (Hist.endOf ((es[n].fCore,es[n].fEnd)::ends)),mapA b1 (fun x=>Value.bool x) (fun x=>if x ∈ es[n].fEffect::seen then some true else none),vE s es] h'→K s' h') →
        hpv Tryz.prog (Instr.lookup gH (.map (some b2)) (.int .i64 es[n].fCore) true) bH (fun (v40:Int × Bool) =>
          br (v40.2 && ((decide (v40.1 ≤ 0)) || (decide (es[n].fBegin ≤ v40.1)))) (pa_ (false = Hist.may es z) [vE s es]) (
          hpu Tryz.prog (Instr.mapUpdate iZ (.map (some b1)) (.int .i64 es[n].fEffect) (.bool true)) <|
          hpu Tryz.prog (Instr.mapUpdate gH (.map (some b2)) (.int .i64 es[n].fCore) (.int .i64 es[n].fEnd)) <|
          K (es[n].fBegin,((n + 1:Nat):Int)))) h:=by
      intro hno K hK
      rw [if_neg hno] at he
      refine lookup_m (j:=0) mp_map_int_int s3 rfl ((Hist.endOf ends es[n].fCore).getD 0,(Hist.endOf ends es[n].fCore).isSome) ?_ ?_
      · rw [if_pos rfl]; unfold bH
        cases Hist.endOf ends es[n].fCore <;> rfl
      · have hst:((Hist.endOf ends es[n].fCore).isSome && ((decide ((Hist.endOf ends es[n].fCore).getD 0 ≤ 0)) || (decide (es[n].fBegin ≤ (Hist.endOf ends es[n].fCore).getD 0)))) = Hist.stops ends es[n]:=by
          unfold Hist.stops
          cases Hist.endOf ends es[n].fCore <;> simp
        show br ((Hist.endOf ends es[n].fCore).isSome && ((decide ((Hist.endOf ends es[n].fCore).getD 0 ≤ 0)) || (decide (es[n].fBegin ≤ (Hist.endOf ends es[n].fCore).getD 0)))) _ _ h
        rw [hst]
        refine aV (fun k2=>?_) (fun k2=>?_)
        · rw [if_pos k2] at he
          exact aU he (bU (l:=[_,_]) s3)
        · refine update_m (j:=1) (w:=true) mp_map_int_bool s3 rfl rfl fun h4 s4=>?_
          refine update_m (j:=0) (w:=es[n].fEnd) mp_map_int_int s4 rfl rfl fun h5 s5=>?_
          refine hK _ _ ⟨rfl,rfl⟩ k2 ?_
          have e1:(fun y=>if y = es[n].fCore then some es[n].fEnd else Hist.endOf ends y) = Hist.endOf ((es[n].fCore,es[n].fEnd)::ends):=by
            funext y
            unfold Hist.endOf
            by_cases hy:y = es[n].fCore
            · subst hy; simp
            · have:(es[n].fCore == y) = false:=by simpa using fun e=>hy e.symm
              simp [hy,this]
          have e2:(fun y=>if y = es[n].fEffect then some true else if y ∈ seen then some true else none) = fun x=>if x ∈ es[n].fEffect::seen then some true else none:=by
            funext y
            by_cases hy:y = es[n].fEffect <;> simp [hy]
          rw [← e1,← e2]
          exact s5
    have go:¬ (fe es[n] z last = false∨(es[n].fEffect > 0∧es[n].fEffect ∈ seen))→∀ (s':Int × Int) h',s'.1 = es[n].fBegin∧s'.2 = ((n + 1:Nat):Int)→Hist.stops ends es[n] = false→aC [mapA b2 (fun x=>Value.int .i64 x) (Hist.endOf ((es[n].fCore,es[n].fEnd)::ends)),mapA b1 (fun x=>Value.bool x) (fun x=>if x ∈ es[n].fEffect::seen then some true else none),vE s es] h' →
        (∃ (n:Nat) (seen:List Int) (ends:List (Int × Int)),s'.2 = n∧n ≤ es.length∧Hist.mayFrom z (es.drop n) s'.1 seen ends = Hist.may es z∧aC [mapA b2 (fun x=>Value.int .i64 x) (Hist.endOf ends),mapA b1 (fun x=>Value.bool x) (fun x=>if x ∈ seen then some true else none),vE s es] h')∧es.length - s'.2.toNat < es.length - (n:Int).toNat:=by
      rintro hno ⟨u,w⟩ h' ⟨h4,h5⟩ hst s4
      simp only at h4 h5
      subst h4; subst h5
      rw [if_neg hno,if_neg (by rw [hst]; exact Bool.false_ne_true)] at he
      exact ⟨⟨n + 1,_,_,rfl,hlt,he,s4⟩,by simp; omega⟩
    rw [hw]
    refine aV (fun k2=>?_) (fun k2=>?_)
    · rw [Bool.and_eq_true] at k2
      have k1:fe es[n] z last = true:=by simpa using k2.1
      have kp:es[n].fEffect > 0:=by simpa using k2.2
      refine lookup_m (j:=1) mp_map_int_bool s3 rfl (decide (es[n].fEffect ∈ seen)) ?_ ?_
      · rw [if_neg Bool.false_ne_true]; unfold ay
        by_cases hm:es[n].fEffect ∈ seen <;> simp [hm]
      · refine aV (fun k3=>?_) (fun k3=>?_)
        · have hm:es[n].fEffect ∈ seen:=of_decide_eq_true k3
          rw [if_pos (.inr ⟨kp,hm⟩)] at he
          exact aU he (bU (l:=[_,_]) s3)
        · have hm:es[n].fEffect ∉ seen:=of_decide_eq_false k3
          have hno:¬ (fe es[n] z last = false∨(es[n].fEffect > 0∧es[n].fEffect ∈ seen)):=by simp [k1,hm]
          exact rest hno _ (go hno)
    · refine aV (fun k3=>?_) (fun k3=>?_)
      · have k1:fe es[n] z last = false:=by simpa using k3
        rw [if_pos (.inl k1)] at he
        exact aU he (bU (l:=[_,_]) s3)
      · have k1:fe es[n] z last = true:=by simpa using k3
        have kp:¬ es[n].fEffect > 0:=by simp [k1] at k2; omega
        have hno:¬ (fe es[n] z last = false∨(es[n].fEffect > 0∧es[n].fEffect ∈ seen)):=by simp [k1]; intro hh; exact absurd hh kp
        exact rest hno _ (go hno)
  · have:n = es.length:=by rw [hl] at k; simp at k; omega
    subst this
    rw [List.drop_length] at he
    exact aU he (bU (l:=[_,_]) s3)
end Go.Proofs.YtmggcfijlpldpaaGreatDoor
namespace Go.Proofs.YtmggcfijlpldpaaGreatDoor
open Go Mb
set_option linter.unusedVariables false
def dJ (a2:Int) (a3:Int) (q22:Nat × Nat) (Rec9:(Sl × Int)→Hp→Prop) (s8:Sl × Int) (x49:aA) (s22:Bool):Hp→Prop:=br s22 ( ld (q22.1,q22.2 + 4) cP fun x65=>cl Tryz.prog gm [(pv x65)] dF fun r66=>cl Tryz.prog dq [(pv r66),(.int .i64 x49.fEnv),(.agg (ae.C x49.fCall).toArray)] aX fun r72=>cl Tryz.prog fz [(pv r66),(.int .i64 a2),(.int .i64 a3)] cq fun r77=>hpv Tryz.prog (Instr.buildSlice pj 1 #[(0,(.agg (ak.C r77.1).toArray))]) pM fun (v82:Sl)=>hpv Tryz.prog (Builtin.append_ #[pj,pj] pj #[(sv s8.1),(sv v82)]) pM fun (v83:Sl)=>Rec9 (v83,(IntKind.i64.wrap (s8.2 + 1)))) ( Rec9 (s8.1,(IntKind.i64.wrap (s8.2 + 1))))
def ku (a2:Int) (a3:Int) (K:Sl→Hp→Prop) (q22:Nat × Nat) (r37:Sl) (Rec9:(Sl × Int)→Hp→Prop) (s8:Sl × Int):Hp→Prop:=br (decide (s8.2 < (r37.len:Int))) ( ix r37 s8.2 fun q41=>ld (q41.1,q41.2 + Int.toNat s8.2 * 1) (cI .i64) fun x42=>ld (q22.1,q22.2 + 0) cS fun x46=>ix x46 x42 fun q48=>ld (q48.1,q48.2 + Int.toNat x42 * 16) aA.C fun x49=>br (((aB x49.fCall).1) == 7) ( dJ a2 a3 q22 Rec9 s8 x49 (((aB x49.fCall).1) == 7)) ( br (((aB x49.fCall).1) == 8) ( dJ a2 a3 q22 Rec9 s8 x49 (((aB x49.fCall).1) == 8)) ( br (((aB x49.fCall).1) == 4) ( dJ a2 a3 q22 Rec9 s8 x49 (((aB x49.fCall).1) == 4)) ( dJ a2 a3 q22 Rec9 s8 x49 (((aB x49.fCall).1) == 5))))) ( K s8.1)
def oR (a0:Ptr) (a1:Int) (a2:Int) (a3:Int) (K:Sl→Hp→Prop):Hp→Prop:=nn a0 fun q22=>ld (q22.1,q22.2 + 4) cP fun x24=>cl Tryz.prog fz [(pv x24),(.int .i64 a2),(.int .i64 a3)] cq fun r27=>hpv Tryz.prog (Instr.buildSlice pj 1 #[(0,(.agg (ak.C r27.1).toArray))]) pM fun (v31:Sl)=>ld (q22.1,q22.2 + 0) cS fun x35=>cl Tryz.prog n_hist_Over [(sv x35),(.int .i64 a1)] cr fun r37=>Lp (ku a2 a3 K q22 r37) (v31,0)
theorem vO (a0:Ptr) (a1:Int) (a2:Int) (a3:Int) {K:Sl→Hp→Prop} {h:Hp} (H:oR a0 a1 a2 a3 K h):Ct Tryz.prog lb #[(pv a0),(.int .i64 a1),(.int .i64 a2),(.int .i64 a3)] h fun v h'=>∃ r,v = pM r∧K r h':=au [(pv a0),(.int .i64 a1),(.int .i64 a2),(.int .i64 a3)] Tryz.func174 c c c fun _=>M<|O c<|M<|J c<|bC H fun q22 e1 H2=>p (aI<|aL c<|an e1)<|p (ad uX c)<|aa<|aT H2 uN c (fun _=>c) c fun x24 H3=>J c<|J c<|aa<|Z H3 en_103 fun r27 _ H4=>J c<|p (ai c c)<|p (ai c c)<|aa<|aK (l:=ak.C (⟨0,0,0⟩:ak)) eA c c fun b9=>aa<|aN (k:=0) (vs:=ak.C r27.1) cT c c c c c c c<|O c<|M<|bg (bw (k:=0) dE c c c c) c<|aa<|aO H4 (bm (vs:=[(.agg (ak.C r27.1).toArray)]) c) c fun v31 _ H5=>O c<|aj<|M<|J (aL c<|an e1)<|p (aI c)<|p (ad fld_192_0 c)<|aa<|aT H5 sc_43 c (fun _=>c) c fun x35 H6=>J c<|aa<|Z H6 en_198 fun r37 _ H7=>p (dz c Tryz.underlying40 c)<|J c<|ac<|av<|bA (step:=ku a2 a3 K q22 r37) (fun s8=>[(0,(pv a0)),(2,(.int .i64 a2)),(3,(.int .i64 a3)),(11,(sv s8.1)),(37,(sv r37)),(38,(.int .i64 (r37.len:Int))),(39,(.int .i64 s8.2))]) (fun s8=>[]) H7 (.cons c<|.cons c<|.cons c<|.cons c<|.cons c<|.cons c<|.cons c<|.nil _) (.cons _ .slnil) fun Rec9 s8 _ H10=>M<|p (cm c c)<|ac<|aj<|ar c H10 (fun k11 H12=>am<|aj<|av<|M<|ce H12 fun q41 e13 h14 H15=>p (bo ig (aL c<|aZ e13) c h14)<|aa<|aT H15 aY c (fun _=>c) c fun x42 H16=>O c<|M<|J (aL c<|an e1)<|p (aI c)<|p (ad fld_192_0 c)<|aa<|aT H16 sc_43 c (fun _=>c) c fun x46 H17=>J c<|ce H17 fun q48 e18 h19 H20=>p (bo rY (aL c<|aZ e18) c h19)<|aa<|gx H20 ag_54 c (fun _=>c) c fun x49 H21=>aa<|aK (l:=aA.C (⟨0,0,(⟨0,0,0,0,0⟩:ae),0,0,0,(⟨0,0⟩:ab),(⟨0,0,0,0⟩:al)⟩:aA)) zero_54 c c fun b14=>aa<|aN (k:=0) (vs:=aA.C x49) inf_54 c c c c c c c<|ac<|M<|p (ad mq c)<|bg (bw (k:=0) eQ c c c c) c<|aa<|cA (vs:=[(.agg (ae.C x49.fCall).toArray)]) (bq<|jL x49.fCall _) en_53 c c<|J c<|p (ai c c)<|p (ai c c)<|p (aq c)<|O c<|M<|J c<|ac<|av<|ee (dJ a2 a3 q22 Rec9 s8 x49) (fun s22=>[(0,(pv a0)),(2,(.int .i64 a2)),(3,(.int .i64 a3)),(11,(sv s8.1)),(14,(.pointer (some ⟨b14,0,none⟩))),(37,(sv r37)),(38,(.int .i64 (r37.len:Int))),(39,(.int .i64 s8.2)),(57,(.bool s22))]) (fun s22=>[bx b14 54 (aA.C x49)]) (M<|p (bM c c)<|O c<|ar c H21 (fun k32 H33=>am<|cC (((aB x49.fCall).1) == 7) H33 (.cons c<|.cons c<|.cons c<|.cons c<|.cons c<|.cons c<|.cons c<|.cons c<|.cons c<|.nil _)<|.cons_cons _ .slnil) fun k32 H33=>M<|p (bM c c)<|O c<|ar c H33 (fun k34 H35=>am<|cC (((aB x49.fCall).1) == 8) H35 (.cons c<|.cons c<|.cons c<|.cons c<|.cons c<|.cons c<|.cons c<|.cons c<|.cons c<|.nil _)<|.cons_cons _ .slnil) fun k34 H35=>M<|p (bM c c)<|O c<|ar c H35 (fun k36 H37=>am<|cC (((aB x49.fCall).1) == 4) H37 (.cons c<|.cons c<|.cons c<|.cons c<|.cons c<|.cons c<|.cons c<|.cons c<|.cons c<|.nil _)<|.cons_cons _ .slnil) fun k36 H37=>ap<|p (bM c c)<|O c<|cC (((aB x49.fCall).1) == 5) H37 (.cons c<|.cons c<|.cons c<|.cons c<|.cons c<|.cons c<|.cons c<|.cons c<|.cons c<|.nil _)<|.cons_cons _ .slnil) fun s22 _ H23=>ar c H23 (fun k24 H25=>M<|J (aL c<|an e1)<|p (aI c)<|p (ad uX c)<|aa<|aT H25 uN c (fun _=>c) c fun x65 H26=>aa<|Z H26 en_175 fun r66 _ H27=>O c<|M<|J c<|p (ad oz c)<|bg (bc (k:=0) aY c c c) c<|p (ad mq c)<|bg (bw (k:=0) eQ c c c c) c<|aa<|Z H27 en_62 fun r72 _ H28=>ac<|M<|J c<|J c<|J c<|aa<|Z H28 en_103 fun r77 _ H29=>J c<|p (ai c c)<|p (ai c c)<|aa<|aK (l:=ak.C (⟨0,0,0⟩:ak)) eA c c fun b18=>aa<|aN (k:=0) (vs:=ak.C r77.1) cT c c c c c c c<|O c<|ap<|J c<|bg (bw (k:=0) dE c c c c) c<|aa<|aO H29 (bm (vs:=[(.agg (ak.C r77.1).toArray)]) c) c fun v82 _ H30=>aa<|aO H30 (dA c c) c fun v83 _ H31=>O c<|ap<|p (bp c c)<|J c<|ac<|cF (v83,(IntKind.i64.wrap (s8.2 + 1))) H31 (.cons c<|.cons c<|.cons c<|.cons c<|.cons c<|.cons c<|.cons c<|.nil _)<|.cons _<|.cons _ .slnil) fun k24 H25=>am<|ap<|p (bp c c)<|J c<|ac<|cF (s8.1,(IntKind.i64.wrap (s8.2 + 1))) H25 (.cons c<|.cons c<|.cons c<|.cons c<|.cons c<|.cons c<|.cons c<|.nil _)<|.cons _ .slnil) fun k11 H12=>bh<|M<|J c<|O c<|ah<|Y ⟨s8.1,c,H12⟩
def kv (a1:aA) (K:Bool→Hp→Prop) (q18:Nat × Nat) (r50:Sl) (Rec13:(Bool × Bool × Int)→Hp→Prop) (s12:Bool × Bool × Int):Hp→Prop:=br (decide (s12.2.2 < (r50.len:Int))) ( ix r50 s12.2.2 fun q54=>ld (q54.1,q54.2 + Int.toNat s12.2.2 * 3) ak.C fun x55=>Rec13 ((s12.1 || (!(dh x55.fRights (IntKind.i64.wrap a1.fCall.e0)))),(s12.2.1 || ((x55.fFrame == a1.fLine.fFrame) && (be a1.fLine.fRights x55.fRights))),(IntKind.i64.wrap (s12.2.2 + 1)))) ( br (a1.fAnswer.fErr == 7) ( K ((s12.1 && (a1.fAnswer.fVal == 0)) && (al.eqb a1.fLine (⟨0,0,0,0⟩:al)))) ( ld (q18.1,q18.2 + 4) cP fun x103=>cl Tryz.prog gm [(pv x103)] dF fun r104=>cl Tryz.prog eM [(pv r104),(.int .i64 a1.fLine.fFrame),(.agg (ae.C a1.fCall).toArray)] aX fun r110=>K (((s12.2.1 && (((a1.fLine.fEnv == a1.fEnv) && (a1.fLine.fPage == (IntKind.i64.wrap a1.fCall.e1))) && (dh a1.fLine.fRights (IntKind.i64.wrap a1.fCall.e0)))) && r110.2) && (ab.eqb r110.1 a1.fAnswer))))
def oS (a0:Ptr) (a1:aA) (K:Bool→Hp→Prop):Hp→Prop:=nn a0 fun q18=>ld (q18.1,q18.2 + 1 + 1) (cI .i64) fun x21=>cl Tryz.prog gB [(.agg (ae.C a1.fCall).toArray),(.int .i64 x21)] bf fun r22=>br (r22 != 0) ( K ((ab.eqb a1.fAnswer (⟨r22,0⟩:ab)) && (al.eqb a1.fLine (⟨0,0,0,0⟩:al)))) ( cl Tryz.prog lb [(.pointer (some ⟨q18.1,q18.2,none⟩)),(.int .i64 a1.fEffect),(.int .i64 a1.fEnv),(.int .i64 (IntKind.i64.wrap a1.fCall.e1))] pM fun r50=>Lp (kv a1 K q18 r50) (false,false,0))
theorem vR (a0:Ptr) (a1:aA) {K:Bool→Hp→Prop} {h:Hp} (H:oS a0 a1 K h):Ct Tryz.prog lc #[(pv a0),(.agg (aA.C a1).toArray)] h fun v h'=>∃ r,v = ay r∧K r h':=au [(pv a0),(.agg (aA.C a1).toArray)] Tryz.func132 c c c fun _=>M<|aa<|cD (l:=aA.C a1) c c c fun b3=>O c<|aj<|aj<|bj (n:=9) [bx b3 54 (aA.C a1)] ch c (.cons_cons _ .slnil)<|U 0 c (ad mq c)<|z_E 1 c (dX (k:=0) eQ c c c c)<|U 2 c (ag c)<|gD H fun q18 e1 H2=>U 3 c (aI<|aL c<|an e1)<|U 4 c (ad fld_192_1 c)<|U 5 c (ad mt c)<|bD (i:=6) (fun _ _ _ _ hh=>hh) H2 c (by kernel_rfl) aY c (fun _=>c) c fun x21 H3=>G 7 c<|Z H3 en_98 fun r22 _ H4=>⟨.cons_cons _ .slnil,U 8 c (aq c)<|aS (by kernel_rfl)<|M<|J c<|p (nF c c)<|ac<|ar c H4 (fun k5 H6=>M<|p (ad jV c)<|bg (bw (k:=0) co c c c c) c<|J c<|p (aW c<|iR r22)<|p (v_eqA eqg_30 (eqr_30 9998 _ _) c c)<|J c<|V c c (aw _) (fun g7=>wv<|ad fP c)<|V c c (aw _) (fun g8=>cv<|bw (k:=0) gM (az c g8) c c c)<|V c c (aw _) (fun g9=>wv<|aW (vs:=[]) c lm)<|V c c (aw _) (fun g10=>wv<|v_eqA eqg_52 (eqr_52 9998 _ _) (az c g10)<|az c g10)<|p (bN c c)<|O c<|ah<|Y ⟨((ab.eqb a1.fAnswer (⟨r22,0⟩:ab)) && (al.eqb a1.fLine (⟨0,0,0,0⟩:al))),c,H6⟩) fun k5 H6=>am<|aj<|bj (n:=10) [bx b3 54 (aA.C a1)] ch c (.cons_cons _ .slnil)<|U 0 c (ad mq c)<|U 1 c (bu cW c c (by decide))<|z_E 2 c (da (k:=0) ck c c c)<|U 3 c (dr ⟨_,Tryz.underlying22⟩ Tryz.underlying3 c)<|U 4 c (ad mq c)<|U 5 c (bu cW c c (by decide))<|z_E 6 c (da (k:=0) ck c c c)<|U 7 c (dr ⟨_,Tryz.underlying22⟩ Tryz.underlying3 c)<|U 8 c (aq c)<|U 9 c (aq c)<|aS (by kernel_rfl)<|M<|p (aq c)<|O c<|aj<|M<|J (aL c<|an e1)<|p (ad iI c)<|bg (bc (k:=0) aY c c c) c<|p (ad oz c)<|bg (bc (k:=0) aY c c c) c<|J c<|aa<|Z H6 en_174 fun r50 _ H11=>p (dz c Tryz.underlying234 c)<|J c<|ac<|av<|bA (step:=kv a1 K q18 r50) (fun s12=>[(0,(pv a0)),(3,(.pointer (some ⟨b3,0,none⟩))),(6,(.int .i64 (IntKind.i64.wrap a1.fCall.e1))),(7,(.int .i64 (IntKind.i64.wrap a1.fCall.e0))),(8,(.bool s12.1)),(9,(.bool s12.2.1)),(50,(sv r50)),(51,(.int .i64 (r50.len:Int))),(52,(.int .i64 s12.2.2))]) (fun s12=>[bx b3 54 (aA.C a1)]) H11 (.cons c<|.cons c<|.cons c<|.cons c<|.cons c<|.cons c<|.cons c<|.cons c<|.cons c<|.nil _) (.cons_cons _ .slnil) fun Rec13 s12 _ H14=>M<|p (cm c c)<|ac<|aj<|ar c H14 (fun k15 H16=>am<|aj<|av<|M<|ce H16 fun q54 e17 h18 H19=>p (bo slc_234 (aL c<|aZ e17) c h18)<|aa<|gx H19 dE c (fun _=>c) c fun x55 H20=>aa<|aK (l:=ak.C (⟨0,0,0⟩:ak)) eA c c fun b11=>aa<|aN (k:=0) (vs:=ak.C x55) cT c c c c c c c<|ac<|M<|J c<|J c<|V c c (aG _) (fun g21=>wv<|ad dG c)<|V c c (aG _) (fun g22=>cv<|bc (k:=0) aY (az c g22) c c)<|V c c (aG _) (fun g23=>wv<|ag c)<|cR (vs:=[(.int .i64 x55.fRights),(.int .i64 (IntKind.i64.wrap a1.fCall.e0))]) c c c (aG _) (fun g24=>bq<|jy x55.fRights (IntKind.i64.wrap a1.fCall.e0) _) en_152 (fun g24=>aP (az c g24)<|aP (az c g24) bL) c<|V c c (aG _) (fun g25=>wv<|cf<|az c g25)<|p (cZ c c)<|O c<|ap<|J c<|J c<|V c c (aG _) (fun g26=>wv<|ad nz c)<|V c c (aG _) (fun g27=>cv<|bc (k:=0) aY (az c g27) c c)<|V c c (aG _) (fun g28=>wv<|ad fP c)<|V c c (aG _) (fun g29=>wv<|ad lh<|az c g29)<|V c c (aG _) (fun g30=>cv<|bc (k:=1) aY (az c g30) c c)<|V c c (aG _) (fun g31=>wv<|bM (az c g31)<|az c g31)<|V c c (aG _) (fun g32=>wv<|ag<|az c g32)<|V c c (qQ _ _) (fun g33=>wv<|ad fP c)<|V c c (qQ _ _) (fun g34=>wv<|ad qu<|az c g34)<|V c c (qQ _ _) (fun g35=>cv<|bc (k:=1) aY (az c g35) c c)<|V c c (qQ _ _) (fun g36=>wv<|ad dG c)<|V c c (qQ _ _) (fun g37=>cv<|bc (k:=0) aY (az c g37) c c)<|cR (vs:=[(.int .i64 a1.fLine.fRights),(.int .i64 x55.fRights)]) c c c (qQ _ _) (fun g38=>bq<|cU a1.fLine.fRights x55.fRights _) lZ (fun g38=>aP (az c g38)<|aP (az c g38) bL) c<|V c c (aG _) (fun g39=>wv<|bN (az c g39)<|aL c<|wu g39)<|p (cZ c c)<|O c<|ap<|p (bp c c)<|J c<|ac<|cF ((s12.1 || (!(dh x55.fRights (IntKind.i64.wrap a1.fCall.e0)))),(s12.2.1 || ((x55.fFrame == a1.fLine.fFrame) && (be a1.fLine.fRights x55.fRights))),(IntKind.i64.wrap (s12.2.2 + 1))) H20 (.cons c<|.cons c<|.cons c<|.cons c<|.cons c<|.cons c<|.cons c<|.cons c<|.cons c<|.nil _)<|.cons _<|.cons_cons _ .slnil) fun k15 H16=>bh<|aj<|M<|p (ad jV c)<|p (ad gu c)<|bg (bc (k:=0) kK c c c) c<|p (bM c c)<|ac<|ar c H16 (fun k40 H41=>M<|J c<|J c<|V c c (aw _) (fun g42=>wv<|ad jV c)<|V c c (aw _) (fun g43=>wv<|ad fld_30_1<|az c g43)<|V c c (aw _) (fun g44=>cv<|bc (k:=0) ck (az c g44) c c)<|V c c (aw _) (fun g45=>wv<|bM (az c g45) c)<|p (bN c c)<|J c<|V c c (aw _) (fun g46=>wv<|ad fP c)<|V c c (aw _) (fun g47=>cv<|bw (k:=0) gM (az c g47) c c c)<|V c c (aw _) (fun g48=>wv<|aW (vs:=[]) c lm)<|V c c (aw _) (fun g49=>wv<|v_eqA eqg_52 (eqr_52 9998 _ _) (az c g49)<|az c g49)<|p (bN c c)<|O c<|ah<|Y ⟨((s12.1 && (a1.fAnswer.fVal == 0)) && (al.eqb a1.fLine (⟨0,0,0,0⟩:al))),c,H41⟩) fun k40 H41=>am<|aj<|bj (n:=17) [bx b3 54 (aA.C a1)] ch c (.cons_cons _ .slnil)<|U 0 c (ag<|aL c<|an e1)<|U 1 c (aI c)<|U 2 c (ad uX c)<|U 5 c (ad fP c)<|U 6 c (ad lh c)<|z_E 7 c (da (k:=0) aY c c c)<|U 8 c (ad mq c)<|z_E 9 c (dX (k:=0) eQ c c c c)<|bD (i:=3) (fun _ _ _ _ hh=>hh) H41 c (by kernel_rfl) uN c (fun _=>c) c fun x103 H50=>jo (i:=4) (j:=14) (by kernel_rfl) (cu c c<|Z H50 en_175 fun r104 _ H52=>⟨.cons_cons _ .slnil,jo (i:=10) (j:=14) (by kernel_rfl) (cu c c<|Z H52 uo fun r110 _ H54=>⟨.cons_cons _ .slnil,U 11 c (ag c)<|U 12 c (ai c c)<|U 13 c (ai c c)<|G 14 c<|aK (l:=ab.C (⟨0,0⟩:ab)) cE c c fun b12=>⟨.cons _<|.cons_cons _ .slnil,G 15 c<|aN (k:=0) (vs:=ab.C r110.1) bF c c c c c c c ⟨.cons _<|.cons_cons _ .slnil,U 16 c (aq c)<|aS (by kernel_rfl)<|M<|p (ad fP c)<|p (ad jW c)<|bg (bc (k:=1) aY c c c) c<|p (ad oz c)<|bg (bc (k:=1) aY c c c) c<|p (bM c c)<|J c<|V c c (aw _) (fun g55=>wv<|ad fP c)<|V c c (aw _) (fun g56=>wv<|ad ms<|az c g56)<|V c c (aw _) (fun g57=>cv<|bc (k:=1) aY (az c g57) c c)<|V c c (aw _) (fun g58=>wv<|ag c)<|V c c (aw _) (fun g59=>wv<|bM (az c g59)<|az c g59)<|p (bN c c)<|J c<|V c c (aw _) (fun g60=>wv<|ad fP c)<|V c c (aw _) (fun g61=>wv<|ad qu<|az c g61)<|V c c (aw _) (fun g62=>cv<|bc (k:=1) aY (az c g62) c c)<|V c c (aw _) (fun g63=>wv<|ag c)<|cR (vs:=[(.int .i64 a1.fLine.fRights),(.int .i64 (IntKind.i64.wrap a1.fCall.e0))]) c c c (aw _) (fun g64=>bq<|jy a1.fLine.fRights (IntKind.i64.wrap a1.fCall.e0) _) en_152 (fun g64=>aP (az c g64)<|aP (az c g64) bL) c<|p (bN c c)<|O c<|M<|J c<|J c<|V c c (aw _) (fun g65=>wv<|ag c)<|p (bN c c)<|J c<|V c c (aw _) (fun g66=>wv<|ag c)<|p (bN c c)<|J c<|V c c (aw _) (fun g67=>cv<|bw (k:=0) co c c c c)<|V c c (aw _) (fun g68=>wv<|ad jV c)<|V c c (aw _) (fun g69=>cv<|bw (k:=1) co (az c g69) c c c)<|V c c (aw _) (fun g70=>wv<|v_eqA eqg_30 (eqr_30 9998 _ _) (az c g70)<|az c g70)<|p (bN c c)<|O c<|ah<|Y ⟨(((s12.2.1 && (((a1.fLine.fEnv == a1.fEnv) && (a1.fLine.fPage == (IntKind.i64.wrap a1.fCall.e1))) && (dh a1.fLine.fRights (IntKind.i64.wrap a1.fCall.e0)))) && r110.2) && (ab.eqb r110.1 a1.fAnswer)),c,H54⟩⟩⟩⟩)<|cu c c<|aK (l:=ab.C (⟨0,0⟩:ab)) cE c c fun b12=>⟨.cons _<|.cons_cons _ .slnil,G 10 c<|Z H52 uo fun r110 _ H54=>⟨.cons _<|.cons_cons _ .slnil,U 11 c (ag c)<|U 12 c (ai c c)<|U 13 c (ai c c)<|G 15 c<|aN (k:=0) (vs:=ab.C r110.1) bF c c c c c c c ⟨.cons _<|.cons_cons _ .slnil,U 16 c (aq c)<|aS (by kernel_rfl)<|M<|p (ad fP c)<|p (ad jW c)<|bg (bc (k:=1) aY c c c) c<|p (ad oz c)<|bg (bc (k:=1) aY c c c) c<|p (bM c c)<|J c<|V c c (aw _) (fun g55=>wv<|ad fP c)<|V c c (aw _) (fun g56=>wv<|ad ms<|az c g56)<|V c c (aw _) (fun g57=>cv<|bc (k:=1) aY (az c g57) c c)<|V c c (aw _) (fun g58=>wv<|ag c)<|V c c (aw _) (fun g59=>wv<|bM (az c g59)<|az c g59)<|p (bN c c)<|J c<|V c c (aw _) (fun g60=>wv<|ad fP c)<|V c c (aw _) (fun g61=>wv<|ad qu<|az c g61)<|V c c (aw _) (fun g62=>cv<|bc (k:=1) aY (az c g62) c c)<|V c c (aw _) (fun g63=>wv<|ag c)<|cR (vs:=[(.int .i64 a1.fLine.fRights),(.int .i64 (IntKind.i64.wrap a1.fCall.e0))]) c c c (aw _) (fun g64=>bq<|jy a1.fLine.fRights (IntKind.i64.wrap a1.fCall.e0) _) en_152 (fun g64=>aP (az c g64)<|aP (az c g64) bL) c<|p (bN c c)<|O c<|M<|J c<|J c<|V c c (aw _) (fun g65=>wv<|ag c)<|p (bN c c)<|J c<|V c c (aw _) (fun g66=>wv<|ag c)<|p (bN c c)<|J c<|V c c (aw _) (fun g67=>cv<|bw (k:=0) co c c c c)<|V c c (aw _) (fun g68=>wv<|ad jV c)<|V c c (aw _) (fun g69=>cv<|bw (k:=1) co (az c g69) c c c)<|V c c (aw _) (fun g70=>wv<|v_eqA eqg_30 (eqr_30 9998 _ _) (az c g70)<|az c g70)<|p (bN c c)<|O c<|ah<|Y ⟨(((s12.2.1 && (((a1.fLine.fEnv == a1.fEnv) && (a1.fLine.fPage == (IntKind.i64.wrap a1.fCall.e1))) && (dh a1.fLine.fRights (IntKind.i64.wrap a1.fCall.e0)))) && r110.2) && (ab.eqb r110.1 a1.fAnswer)),c,H54⟩⟩⟩⟩⟩)<|cu c c<|aK (l:=ab.C (⟨0,0⟩:ab)) cE c c fun b12=>⟨.cons _<|.cons_cons _ .slnil,G 4 c<|Z H50 en_175 fun r104 _ H52=>⟨.cons _<|.cons_cons _ .slnil,G 10 c<|Z H52 uo fun r110 _ H53=>⟨.cons _<|.cons_cons _ .slnil,U 11 c (ag c)<|U 12 c (ai c c)<|U 13 c (ai c c)<|G 15 c<|aN (k:=0) (vs:=ab.C r110.1) bF c c c c c c c ⟨.cons _<|.cons_cons _ .slnil,U 16 c (aq c)<|aS (by kernel_rfl)<|M<|p (ad fP c)<|p (ad jW c)<|bg (bc (k:=1) aY c c c) c<|p (ad oz c)<|bg (bc (k:=1) aY c c c) c<|p (bM c c)<|J c<|V c c (aw _) (fun g54=>wv<|ad fP c)<|V c c (aw _) (fun g55=>wv<|ad ms<|az c g55)<|V c c (aw _) (fun g56=>cv<|bc (k:=1) aY (az c g56) c c)<|V c c (aw _) (fun g57=>wv<|ag c)<|V c c (aw _) (fun g58=>wv<|bM (az c g58)<|az c g58)<|p (bN c c)<|J c<|V c c (aw _) (fun g59=>wv<|ad fP c)<|V c c (aw _) (fun g60=>wv<|ad qu<|az c g60)<|V c c (aw _) (fun g61=>cv<|bc (k:=1) aY (az c g61) c c)<|V c c (aw _) (fun g62=>wv<|ag c)<|cR (vs:=[(.int .i64 a1.fLine.fRights),(.int .i64 (IntKind.i64.wrap a1.fCall.e0))]) c c c (aw _) (fun g63=>bq<|jy a1.fLine.fRights (IntKind.i64.wrap a1.fCall.e0) _) en_152 (fun g63=>aP (az c g63)<|aP (az c g63) bL) c<|p (bN c c)<|O c<|M<|J c<|J c<|V c c (aw _) (fun g64=>wv<|ag c)<|p (bN c c)<|J c<|V c c (aw _) (fun g65=>wv<|ag c)<|p (bN c c)<|J c<|V c c (aw _) (fun g66=>cv<|bw (k:=0) co c c c c)<|V c c (aw _) (fun g67=>wv<|ad jV c)<|V c c (aw _) (fun g68=>cv<|bw (k:=1) co (az c g68) c c c)<|V c c (aw _) (fun g69=>wv<|v_eqA eqg_30 (eqr_30 9998 _ _) (az c g69)<|az c g69)<|p (bN c c)<|O c<|ah<|Y ⟨(((s12.2.1 && (((a1.fLine.fEnv == a1.fEnv) && (a1.fLine.fPage == (IntKind.i64.wrap a1.fCall.e1))) && (dh a1.fLine.fRights (IntKind.i64.wrap a1.fCall.e0)))) && r110.2) && (ab.eqb r110.1 a1.fAnswer)),c,H53⟩⟩⟩⟩⟩⟩
def rd (a0:Ptr) (a1:aA) (K:Bool→Hp→Prop):Hp→Prop:=br (a1.fAnswer.fErr == 0) ( nn a0 fun q13=>ld (q13.1,q13.2 + 1 + 1) (cI .i64) fun x16=>cl Tryz.prog gB [(.agg (ae.C a1.fCall).toArray),(.int .i64 x16)] bf fun r17=>br (r17 == 0) ( K (a1.fLine.fRights != 0)) ( K false)) ( K false)
theorem sim_judge_judge_well (a0:Ptr) (a1:aA) {K:Bool→Hp→Prop} {h:Hp} (H:rd a0 a1 K h):Ct Tryz.prog mL #[(pv a0),(.agg (aA.C a1).toArray)] h fun v h'=>∃ r,v = ay r∧K r h':=au [(pv a0),(.agg (aA.C a1).toArray)] Tryz.func133 c c c fun _=>M<|aa<|cD (l:=aA.C a1) c c c fun b3=>O c<|aj<|bj (n:=22) [bx b3 54 (aA.C a1)] ch c (.cons_cons _ .slnil)<|U 0 c (ad jV c)<|U 1 c (ad gu c)<|z_E 2 c (da (k:=0) kK c c c)<|U 3 c (bM c c)<|U 4 c (ag c)<|pI H (fun k1 H2=>z_n 5 c (D k1) (ve<|ad mq c)<|z_n 6 c (D k1) (dX (k:=0) eQ c c c c)<|z_n 7 c (D k1) (ve<|ag c)<|gD H2 fun q13 e3 H4=>z_n 8 c (D k1) (ve<|aI<|aL c<|an e3)<|z_n 9 c (D k1) (ve<|ad fld_192_1 c)<|z_n 10 c (D k1) (ve<|ad mt c)<|lM (i:=11) (fun _ _ _ _ hh=>hh) H4 c (by kernel_rfl) c c c (D k1) aY c (fun _=>c) c fun x16 H5=>eva_1 (i:=12) (by kernel_rfl)<|way_on c c c c (D k1)<|Z H5 en_98 fun r17 _ H6=>⟨.cons_cons _ .slnil,z_n 13 c (D k1) (ve<|bM c c)<|U 14 c (aR c k1 c)<|U 15 c (ag c)<|pI H6 (fun k7 H8=>z_n 16 c (D k7) (ve<|ad fP c)<|z_n 17 c (D k7) (ve<|ad qu c)<|z_n 18 c (D k7) (da (k:=0) aY c c c)<|z_n 19 c (D k7) (ve<|nF c c)<|U 20 c (aR c k7 c)<|U 21 c (aq c)<|aS (by kernel_rfl)<|ah<|Y ⟨(a1.fLine.fRights != 0),c,H8⟩) fun k7 H8=>I 16 c (aQ k7)<|I 17 c (aQ k7)<|I 18 c (aQ k7)<|I 19 c (aQ k7)<|U 20 c (ao c k7 c)<|U 21 c (aq c)<|aS (by kernel_rfl)<|ah<|Y ⟨false,c,H8⟩⟩) fun k1 H2=>I 5 c (aQ k1)<|I 6 c (aQ k1)<|I 7 c (aQ k1)<|I 8 c (aQ k1)<|I 9 c (aQ k1)<|I 10 c (aQ k1)<|I 11 c (aQ k1)<|I 12 c (aQ k1)<|I 13 c (aQ k1)<|U 14 c (ao c k1 c)<|U 15 c (ag c)<|I 16 c c<|I 17 c c<|I 18 c c<|I 19 c c<|U 20 c (ao c c c)<|U 21 c (aq c)<|aS (by kernel_rfl)<|ah<|Y ⟨false,c,H2⟩
def rB (b25:Nat) (Rec8:Int→Hp→Prop) (s7:Int) (x36:aA) (s22:Unit):Hp→Prop:=cl Tryz.prog mL [(.pointer (some ⟨b25,0,none⟩)),(.agg (aA.C x36).toArray)] ay fun r49=>br r49 ( ld (b25,4) cP fun x53=>cl Tryz.prog eM [(pv x53),(.int .i64 x36.fLine.fFrame),(.agg (ae.C x36.fCall).toArray)] aX fun r59=>Rec8 (IntKind.i64.wrap (s7 + 1))) ( Rec8 (IntKind.i64.wrap (s7 + 1)))
def rA (K:(Int × Bool)→Hp→Prop) (b25:Nat) (Rec8:Int→Hp→Prop) (s7:Int) (x32:Int) (x36:aA) (s29:Bool):Hp→Prop:=br s29 ( K (x32,false)) ( rB b25 Rec8 s7 x36 ())
def wq (a0:Sl) (a2:Bool) (a3:Bool) (K:(Int × Bool)→Hp→Prop) (b25:Nat) (r27:Sl) (Rec8:Int→Hp→Prop) (s7:Int):Hp→Prop:=br (decide (s7 < (r27.len:Int))) ( ix r27 s7 fun q31=>ld (q31.1,q31.2 + Int.toNat s7 * 1) (cI .i64) fun x32=>ix a0 x32 fun q35=>ld (q35.1,q35.2 + Int.toNat x32 * 16) aA.C fun x36=>br (pN x36) ( br a3 ( cl Tryz.prog lc [(.pointer (some ⟨b25,0,none⟩)),(.agg (aA.C x36).toArray)] ay fun r43=>rA K b25 Rec8 s7 x32 x36 (!r43)) ( rA K b25 Rec8 s7 x32 x36 false)) ( ld (b25,4) cP fun x64=>cl Tryz.prog dq [(pv x64),(.int .i64 x36.fEnv),(.agg (ae.C x36.fCall).toArray)] aX fun r69=>br (a2 && ((!r69.2) || (!(ab.eqb r69.1 x36.fAnswer)))) ( K (x32,false)) ( Rec8 (IntKind.i64.wrap (s7 + 1))))) ( K ((-1),true))
def sh_judge_run (a0:Sl) (a1:aE) (a2:Bool) (a3:Bool) (K:(Int × Bool)→Hp→Prop):Hp→Prop:=cl Tryz.prog wk [(sv a0),(.agg (aE.C a1).toArray)] ay fun r18=>br (!r18) ( K ((-1),false)) ( cl Tryz.prog nh [(.agg (aE.C a1).toArray)] dF fun r23=>nw db (kj.C (⟨a0,a1,r23⟩:kj)) fun b25=>cl Tryz.prog oq [(sv a0)] cr fun r27=>Lp (wq a0 a2 a3 K b25 r27) 0)
theorem sim_judge_run (a0:Sl) (a1:aE) (a2:Bool) (a3:Bool) {K:(Int × Bool)→Hp→Prop} {h:Hp} (H:sh_judge_run a0 a1 a2 a3 K h):Ct Tryz.prog tL #[(sv a0),(.agg (aE.C a1).toArray),(.bool a2),(.bool a3)] h fun v h'=>∃ r,v = bH r∧K r h':=au [(sv a0),(.agg (aE.C a1).toArray),(.bool a2),(.bool a3)] Tryz.func84 c c c fun _=>M<|aa<|cD (l:=aE.C a1) c c c fun b5=>p (aq c)<|O c<|aj<|M<|J c<|bg (bw (k:=0) qy c c c c) c<|aa<|Z H en_33 fun r18 _ H1=>p (cf c)<|ac<|ar c H1 (fun k2 H3=>M<|p (aq c)<|O c<|ah<|bt (bJ c (bT c)<|bT c) ⟨((-1),false),c,H3⟩) fun k2 H3=>am<|aj<|bj (n:=7) [bx b5 27 (aE.C a1)] ch c (.cons_cons _ .slnil)<|U 0 c (ag c)<|z_E 1 c (dX (k:=0) qy c c c c)<|z_E 2 c (dX (k:=0) qy c c c c)<|G 3 c<|Z H3 en_48 fun r23 _ H4=>⟨.cons_cons _ .slnil,U 4 c (aW c<|build_192_0_1_2 a0 a1 r23)<|G 5 c<|gP c c c H4 fun b25 _ H5=>⟨.cons_cons _ .slnil,U 6 c (aq c)<|aS (by kernel_rfl)<|aj<|M<|J c<|aa<|Z H5 en_43 fun r27 _ H6=>p (dz c Tryz.underlying40 c)<|J c<|ac<|av<|bA (step:=wq a0 a2 a3 K b25 r27) (fun s7=>[(0,(sv a0)),(2,(.bool a2)),(3,(.bool a3)),(10,(.pointer (some ⟨b25,0,none⟩))),(27,(sv r27)),(28,(.int .i64 (r27.len:Int))),(29,(.int .i64 s7))]) (fun s7=>[]) H6 (.cons c<|.cons c<|.cons c<|.cons c<|.cons c<|.cons c<|.cons c<|.nil _) (.cons _ .slnil) fun Rec8 s7 _ H9=>M<|p (cm c c)<|ac<|aj<|ar c H9 (fun k10 H11=>am<|aj<|av<|M<|ce H11 fun q31 e12 h13 H14=>p (bo ig (aL c<|aZ e12) c h13)<|aa<|aT H14 aY c (fun _=>c) c fun x32 H15=>O c<|M<|J c<|J c<|ce H15 fun q35 e16 h17 H18=>p (bo rY (aL c<|aZ e16) c h17)<|aa<|gx H18 ag_54 c (fun _=>c) c fun x36 H19=>aa<|aK (l:=aA.C (⟨0,0,(⟨0,0,0,0,0⟩:ae),0,0,0,(⟨0,0⟩:ab),(⟨0,0,0,0⟩:al)⟩:aA)) zero_54 c c fun b13=>aa<|aN (k:=0) (vs:=aA.C x36) inf_54 c c c c c c c<|ac<|aj<|M<|bg (bw (k:=0) ag_54 c c c c) c<|aa<|cA (vs:=[(.agg (aA.C x36).toArray)]) (bq<|ct_judge_user x36 _) en_131 c c<|ac<|ar c H19 (fun k20 H21=>ee (rB b25 Rec8 s7 x36) (fun s22=>[(0,(sv a0)),(2,(.bool a2)),(3,(.bool a3)),(10,(.pointer (some ⟨b25,0,none⟩))),(13,(.pointer (some ⟨b13,0,none⟩))),(27,(sv r27)),(28,(.int .i64 (r27.len:Int))),(29,(.int .i64 s7))]) (fun s22=>[bx b13 54 (aA.C x36)]) (ee (rA K b25 Rec8 s7 x32 x36) (fun s29=>[(0,(sv a0)),(2,(.bool a2)),(3,(.bool a3)),(10,(.pointer (some ⟨b25,0,none⟩))),(12,(.int .i64 x32)),(13,(.pointer (some ⟨b13,0,none⟩))),(27,(sv r27)),(28,(.int .i64 (r27.len:Int))),(29,(.int .i64 s7)),(45,(.bool s29))]) (fun s29=>[bx b13 54 (aA.C x36)]) (ap<|J c<|J c<|V c c (aw _) (fun g33=>wv<|ag c)<|V c c (aw _) (fun g34=>cv<|bw (k:=0) ag_54 c c c c)<|bP H21 (fun k36 H37=>F (D k36)<|fV H37 en_132 (aP (az c k36)<|aP (az c k36) bL) c fun r43 _ H38=>F (D k36)<|R (cf c)<|p (aR c k36 c)<|ac<|cC (!r43) H38 (.cons c<|.cons c<|.cons c<|.cons c<|.cons c<|.cons c<|.cons c<|.cons c<|.cons c<|.cons c<|.nil _)<|.cons_cons _ .slnil) fun k36 H37=>W (aQ k36)<|W (aQ k36)<|p (ao c k36 c)<|ac<|cC false H37 (.cons c<|.cons c<|.cons c<|.cons c<|.cons c<|.cons c<|.cons c<|.cons c<|.cons c<|.cons c<|.nil _)<|.cons_cons _ .slnil) fun s29 _ H30=>ar c H30 (fun k31 H32=>M<|J c<|p (aq c)<|O c<|ah<|bt (bJ c (bT c)<|bT c) ⟨(x32,false),c,H32⟩) fun k31 H32=>am<|cC () H32 (.cons c<|.cons c<|.cons c<|.cons c<|.cons c<|.cons c<|.cons c<|.cons c<|.nil _)<|.cons_cons _ .slnil) fun s22 _ H23=>aj<|M<|J c<|bg (bw (k:=0) ag_54 c c c c) c<|aa<|Z H23 en_133 fun r49 _ H24=>ac<|ar c H24 (fun k25 H26=>bj (n:=10) [bx b13 54 (aA.C x36)] ch c (.cons_cons _ .slnil)<|U 0 c (ag c)<|U 1 c (aI c)<|U 2 c (ad uX c)<|U 4 c (ad fP c)<|U 5 c (ad lh c)<|z_E 6 c (da (k:=0) aY c c c)<|U 7 c (ad mq c)<|z_E 8 c (dX (k:=0) eQ c c c c)<|bD (i:=3) (fun _ _ _ _ hh=>hh) H26 c (by kernel_rfl) uN c (fun _=>c) c fun x53 H27=>G 9 c<|Z H27 uo fun r59 _ H28=>⟨.cons_cons _ .slnil,aS (by kernel_rfl)<|bh<|ap<|p (bp c c)<|J c<|ac<|cF (IntKind.i64.wrap (s7 + 1)) H28 (.cons c<|.cons c<|.cons c<|.cons c<|.cons c<|.cons c<|.cons c<|.nil _)<|.cons _ .slnil⟩) fun k25 H26=>am<|bh<|ap<|p (bp c c)<|J c<|ac<|cF (IntKind.i64.wrap (s7 + 1)) H26 (.cons c<|.cons c<|.cons c<|.cons c<|.cons c<|.cons c<|.cons c<|.nil _)<|.cons _ .slnil) fun k20 H21=>am<|aj<|bj (n:=15) [bx b13 54 (aA.C x36)] ch c (.cons_cons _ .slnil)<|U 0 c (ag c)<|U 1 c (aI c)<|U 2 c (ad uX c)<|U 4 c (ad oz c)<|z_E 5 c (da (k:=0) aY c c c)<|U 6 c (ad mq c)<|z_E 7 c (dX (k:=0) eQ c c c c)<|bD (i:=3) (fun _ _ _ _ hh=>hh) H21 c (by kernel_rfl) uN c (fun _=>c) c fun x64 H39=>jo (i:=8) (j:=12) (by kernel_rfl) (cu c c<|Z H39 en_62 fun r69 _ H41=>⟨.cons_cons _ .slnil,U 9 c (ag c)<|U 10 c (ai c c)<|U 11 c (ai c c)<|G 12 c<|aK (l:=ab.C (⟨0,0⟩:ab)) cE c c fun b14=>⟨.cons _<|.cons_cons _ .slnil,G 13 c<|aN (k:=0) (vs:=ab.C r69.1) bF c c c c c c c ⟨.cons _<|.cons_cons _ .slnil,U 14 c (aq c)<|aS (by kernel_rfl)<|M<|J c<|J c<|V c c (aw _) (fun g42=>wv<|ag c)<|V c c (aw _) (fun g43=>wv<|cf<|az c g43)<|V c c (aw _) (fun g44=>wv<|ag<|az c g44)<|V c c (dN _ _) (fun g45=>cv<|bw (k:=0) co c c c c)<|V c c (dN _ _) (fun g46=>wv<|ad jV c)<|V c c (dN _ _) (fun g47=>cv<|bw (k:=1) co (az c g47) c c c)<|V c c (dN _ _) (fun g48=>wv<|v_neA eqg_30 (eqr_30 9998 _ _) (az c g48)<|az c g48)<|V c c (aw _) (fun g49=>wv<|cZ (az c g49)<|aL c<|wu g49)<|p (bN c c)<|ac<|ar c H41 (fun k50 H51=>M<|J c<|p (aq c)<|O c<|ah<|bt (bJ c (bT c)<|bT c) ⟨(x32,false),c,H51⟩) fun k50 H51=>am<|ap<|p (bp c c)<|J c<|ac<|cF (IntKind.i64.wrap (s7 + 1)) H51 (.cons c<|.cons c<|.cons c<|.cons c<|.cons c<|.cons c<|.cons c<|.nil _)<|.cons _<|.cons _ .slnil⟩⟩⟩)<|cu c c<|aK (l:=ab.C (⟨0,0⟩:ab)) cE c c fun b14=>⟨.cons _<|.cons_cons _ .slnil,G 8 c<|Z H39 en_62 fun r69 _ H41=>⟨.cons _<|.cons_cons _ .slnil,U 9 c (ag c)<|U 10 c (ai c c)<|U 11 c (ai c c)<|G 13 c<|aN (k:=0) (vs:=ab.C r69.1) bF c c c c c c c ⟨.cons _<|.cons_cons _ .slnil,U 14 c (aq c)<|aS (by kernel_rfl)<|M<|J c<|J c<|V c c (aw _) (fun g42=>wv<|ag c)<|V c c (aw _) (fun g43=>wv<|cf<|az c g43)<|V c c (aw _) (fun g44=>wv<|ag<|az c g44)<|V c c (dN _ _) (fun g45=>cv<|bw (k:=0) co c c c c)<|V c c (dN _ _) (fun g46=>wv<|ad jV c)<|V c c (dN _ _) (fun g47=>cv<|bw (k:=1) co (az c g47) c c c)<|V c c (dN _ _) (fun g48=>wv<|v_neA eqg_30 (eqr_30 9998 _ _) (az c g48)<|az c g48)<|V c c (aw _) (fun g49=>wv<|cZ (az c g49)<|aL c<|wu g49)<|p (bN c c)<|ac<|ar c H41 (fun k50 H51=>M<|J c<|p (aq c)<|O c<|ah<|bt (bJ c (bT c)<|bT c) ⟨(x32,false),c,H51⟩) fun k50 H51=>am<|ap<|p (bp c c)<|J c<|ac<|cF (IntKind.i64.wrap (s7 + 1)) H51 (.cons c<|.cons c<|.cons c<|.cons c<|.cons c<|.cons c<|.cons c<|.nil _)<|.cons _<|.cons _ .slnil⟩⟩⟩) fun k10 H11=>bh<|M<|p (aq c)<|O c<|ah<|bt (bJ c (bT c)<|bT c) ⟨((-1),true),c,H11⟩⟩⟩
def sh_judge_Linear (a0:Sl) (a1:aE) (K:(Int × Bool)→Hp→Prop):Hp→Prop:=cl Tryz.prog tL [(sv a0),(.agg (aE.C a1).toArray),(.bool true),(.bool false)] bH fun r8=>K (r8.1,r8.2)
theorem sim_judge_Linear (a0:Sl) (a1:aE) {K:(Int × Bool)→Hp→Prop} {h:Hp} (H:sh_judge_Linear a0 a1 K h):Ct Tryz.prog ol #[(sv a0),(.agg (aE.C a1).toArray)] h fun v h'=>∃ r,v = bH r∧K r h':=au [(sv a0),(.agg (aE.C a1).toArray)] Tryz.func39 c c c fun _=>M<|aa<|cD (l:=aE.C a1) c c c fun b3=>p (aq c)<|O c<|M<|J c<|bg (bw (k:=0) qy c c c c) c<|aa<|Z H en_84 fun r8 _ H1=>p (ai c c)<|p (ai c c)<|p (aq c)<|O c<|ah<|bt (bJ c (bT c)<|bT c) ⟨(r8.1,r8.2),c,H1⟩
def sh_judge_Access (a0:Sl) (a1:aE) (K:(Int × Bool)→Hp→Prop):Hp→Prop:=cl Tryz.prog tL [(sv a0),(.agg (aE.C a1).toArray),(.bool false),(.bool true)] bH fun r8=>K (r8.1,r8.2)
theorem sim_judge_Access (a0:Sl) (a1:aE) {K:(Int × Bool)→Hp→Prop} {h:Hp} (H:sh_judge_Access a0 a1 K h):Ct Tryz.prog oo #[(sv a0),(.agg (aE.C a1).toArray)] h fun v h'=>∃ r,v = bH r∧K r h':=au [(sv a0),(.agg (aE.C a1).toArray)] Tryz.func40 c c c fun _=>M<|aa<|cD (l:=aE.C a1) c c c fun b3=>p (aq c)<|O c<|M<|J c<|bg (bw (k:=0) qy c c c c) c<|aa<|Z H en_84 fun r8 _ H1=>p (ai c c)<|p (ai c c)<|p (aq c)<|O c<|ah<|bt (bJ c (bT c)<|bT c) ⟨(r8.1,r8.2),c,H1⟩
def sh_judge_Right (a0:Sl) (a1:aE) (K:Bool→Hp→Prop):Hp→Prop:=cl Tryz.prog ol [(sv a0),(.agg (aE.C a1).toArray)] bH fun r12=>cl Tryz.prog oo [(sv a0),(.agg (aE.C a1).toArray)] bH fun r18=>K (r12.2 && r18.2)
theorem sim_judge_Right (a0:Sl) (a1:aE) {K:Bool→Hp→Prop} {h:Hp} (H:sh_judge_Right a0 a1 K h):Ct Tryz.prog ui #[(sv a0),(.agg (aE.C a1).toArray)] h fun v h'=>∃ r,v = ay r∧K r h':=au [(sv a0),(.agg (aE.C a1).toArray)] Tryz.func19 c c c fun _=>M<|aa<|cD (l:=aE.C a1) c c c fun b3=>O c<|M<|J c<|bg (bw (k:=0) qy c c c c) c<|aa<|Z H en_39 fun r12 _ H1=>J c<|p (ai c c)<|p (ai c c)<|p (aq c)<|O c<|M<|J c<|bg (bw (k:=0) qy c c c c) c<|aa<|Z H1 en_40 fun r18 _ H2=>J c<|p (ai c c)<|p (ai c c)<|p (aq c)<|O c<|M<|J c<|J c<|V c c (aw _) (fun g3=>wv<|ag c)<|p (bN c c)<|O c<|ah<|Y ⟨(r12.2 && r18.2),c,H2⟩
end Go.Proofs.YtmggcfijlpldpaaGreatDoor
namespace Go.Proofs.YtmggcfijlpldpaaGreatDoor
open Go Mb
abbrev vG (s:Sl) (xs:List Pte):As:=vec t_api_Pte 3 ak.C s xs
theorem pte_one (p:Pte):dC p.C = true:=rfl
namespace Judge
def ev (es:List bX) (i:Int):bX:=es.getD i.toNat Hist.ev00
def takes (e:bX):Bool:=(aB e.fCall).1 == 7 || (aB e.fCall).1 == 8 || (aB e.fCall).1 == 4 || (aB e.fCall).1 == 5
def othersFrom (k:PK) (es:List bX) (env pg:Int):List Int→List Pte
  | []=>[]
  | i::l=>if takes (ev es i) = true then (PK.pte (PK.do_ k (ev es i).fEnv (ev es i).fCall).2 env pg).1::othersFrom k es env pg l else othersFrom k es env pg l
def others (k:PK) (es:List bX) (at_ env pg:Int):List Pte:=(PK.pte k env pg).1::othersFrom k es env pg (Hist.over es at_)
def faults (e:bX) (l:List Pte):Bool:=l.any fun p=>!(dh p.fRights (IntKind.i64.wrap e.fCall.e0))
def goes (e:bX) (l:List Pte):Bool:=l.any fun p=>(p.fFrame == e.fLine.fFrame) && (be e.fLine.fRights p.fRights)
def own (e:bX):Bool:=((e.fLine.fEnv == e.fEnv) && (e.fLine.fPage == (IntKind.i64.wrap e.fCall.e1))) && (dh e.fLine.fRights (IntKind.i64.wrap e.fCall.e0))
def access (k:PK) (es:List bX) (s:js) (e:bX):Bool :=
  if Word.check e.fCall s.fEnvs ≠ 0 then (ab.eqb e.fAnswer ⟨Word.check e.fCall s.fEnvs,0⟩) && (al.eqb e.fLine lX)
  else if e.fAnswer.fErr = 7 then (faults e (others k es e.fEffect e.fEnv (IntKind.i64.wrap e.fCall.e1)) && (e.fAnswer.fVal == 0)) && (al.eqb e.fLine lX)
  else ((goes e (others k es e.fEffect e.fEnv (IntKind.i64.wrap e.fCall.e1)) && own e) && (PK.touch k e.fLine.fFrame e.fCall).1.2) && (ab.eqb (PK.touch k e.fLine.fFrame e.fCall).1.1 e.fAnswer)
def well (s:js) (e:bX):Bool:=(e.fAnswer.fErr == 0) && (Word.check e.fCall s.fEnvs == 0) && (e.fLine.fRights != 0)
def runFrom (es:List bX) (s:js) (lin acc:Bool):PK→List Int→Int × Bool
  | _,[]=>(-1,true)
  | k,i::l =>
    if pN (ev es i) = true then (if acc = true∧access k es s (ev es i) = false then (i,false) else runFrom es s lin acc (if well s (ev es i) = true then (PK.touch k (ev es i).fLine.fFrame (ev es i).fCall).2 else k) l)
    else if lin = true∧((PK.do_ k (ev es i).fEnv (ev es i).fCall).1.2 = false∨ab.eqb (PK.do_ k (ev es i).fEnv (ev es i).fCall).1.1 (ev es i).fAnswer = false) then (i,false)
    else runFrom es s lin acc (PK.do_ k (ev es i).fEnv (ev es i).fCall).2 l
def run (es:List bX) (s:js) (lin acc:Bool):Int × Bool:=if Hist.may es s = true then runFrom es s lin acc (PK.new s) (Hist.order es) else (-1,false)
def linear (es:List bX) (s:js):Int × Bool:=run es s true false
def accesses (es:List bX) (s:js):Int × Bool:=run es s false true
def right (es:List bX) (s:js):Bool:=(linear es s).2 && (accesses es s).2
theorem ev_nat {es:List bX} {n:Nat} (h:n < es.length):ev es n = es[n]:=by simp [ev,h]
theorem othersFrom_app (k:PK) (es:List bX) (env pg:Int) (i:Int):∀ l,othersFrom k es env pg (l++[i]) = othersFrom k es env pg l++(if takes (ev es i) = true then [(PK.pte (PK.do_ k (ev es i).fEnv (ev es i).fCall).2 env pg).1] else [])
  | []=>by simp only [List.nil_append,othersFrom]
  | j::l=>by
    simp only [List.cons_append,othersFrom,othersFrom_app k es env pg i l]
    split <;> simp
theorem othersFrom_len (k:PK) (es:List bX) (env pg:Int):∀ l,(othersFrom k es env pg l).length ≤ l.length
  | []=>Nat.le_refl _
  | i::l=>by unfold othersFrom; have:=othersFrom_len k es env pg l; split <;> simp <;> omega
end Judge
abbrev jc (s:Sl) (z:js) (pk:Ptr):List Value:=[sv s,.int .i64 z.fCores,.int .i64 z.fEnvs,.int .i64 z.fFrames,pv pk]
theorem sp_judge_others (jb:Nat) (s:Sl) (z:js) (pk:Ptr) (es:List bX) (k:PK) (a env pg:Int) (hb:es.length < 2 ^ 38) :
    Sp Tryz.prog lb [pv (some (jb,0)),.int .i64 a,.int .i64 env,.int .i64 pg] pM [blk jb db (jc s z pk),vE s es,bk pk k] (fun r=>aC [vG r (Judge.others k es a env pg),blk jb db (jc s z pk),vE s es,bk pk k]):=by
  intro h s0
  refine vO _ _ _ _ ?_
  unfold oR
  refine cx (bi pk s0 (i:=0) rfl rfl rfl ?_)
  refine bK (ro pk k env pg) (i:=2) rfl s0 fun r h1 hr s1=>?_
  subst hr
  refine eF (τ:=Pte) [(PK.pte k env pg).1] (val:=fun x=>.agg x.C.toArray) (enc:=ak.C) el_Sapi_Pte iT (fun _=>rfl) s1 rfl rfl (by simp) fun v h2 s2=>?_
  refine bi s s2 (i:=1) rfl rfl rfl ?_
  refine cl_n (sp_hist_Over s es a hb) (i:=2) rfl s2 fun r37 h3 s3=>?_
  have hrl:=(cd (j:=0) s3 rfl).1
  have hol:=Hist.placesFrom_len (fun e=>decide (e.fBegin ≤ a) && (e.fEffect == 0 || decide (e.fEffect > a))) es 0
  have hol':(Hist.over es a).length ≤ es.length:=hol
  refine Lp.intro (fun (y:Sl × Int) h=>∃ n:Nat,y.2 = n∧n ≤ (Hist.over es a).length∧aC [vI r37 (Hist.over es a),vG y.1 ((PK.pte k env pg).1::Judge.othersFrom k es env pg ((Hist.over es a).take n)),blk jb db (jc s z pk),vE s es,bk pk k] h) (fun (y:Sl × Int) _=>(Hist.over es a).length - y.2.toNat) ⟨0,rfl,Nat.zero_le _,s3⟩ ?_
  rintro ⟨y,i⟩ h ⟨n,rfl,hn,s4⟩
  unfold ku
  refine aV (fun d=>?_) (fun d=>?_)
  · have hlt:n < (Hist.over es a).length:=by rw [hrl] at d; have:=of_decide_eq_true d; simp at this; exact this
    have hw:IntKind.i64.wrap ((n:Int) + 1) = ((n + 1:Nat):Int):=by rw [bO (by omega) (by omega)]; rfl
    have ht:(Hist.over es a).take (n + 1) = (Hist.over es a).take n++[(Hist.over es a)[n]]:=by simp
    have hin:=Hist.places_in (List.getElem_mem hlt)
    have hes:=(cd (j:=3) s4 rfl).1
    obtain ⟨m,hm⟩:=Int.eq_ofNat_of_zero_le hin.1
    have hml:m < es.length:=by omega
    have hev:Judge.ev es (Hist.over es a)[n] = es[m]:=by rw [hm,Judge.ev_nat hml]
    have happ:=Judge.othersFrom_app k es env pg (Hist.over es a)[n] ((Hist.over es a).take n)
    rw [hev] at happ
    have hfl:=Judge.othersFrom_len k es env pg ((Hist.over es a).take n)
    simp at hfl
    refine dv s4 (j:=0) rfl (by omega) (by show (n:Int) < _; omega) fun q hq=>?_
    refine dZ (j:=0) (i:=n) (k:=0) (Hist.over es a)[n] (cX _) s4 rfl hq (by simp) (aD hlt) (by simp) ?_
    rw [hm]
    refine bi s s4 (i:=2) rfl rfl rfl ?_
    refine dv s4 (j:=3) rfl (by omega) (by omega) fun q2 hq2=>?_
    refine dZ (j:=3) (i:=m) (k:=0) es[m] mQ s4 rfl hq2 rfl (aD hml) (by simp) ?_
    have j1:∀ b,b = Judge.takes es[m]→dJ env pg (jb,0) (fun s' h'=>(∃ n:Nat,s'.2 = n∧n ≤ (Hist.over es a).length∧aC [vI r37 (Hist.over es a),vG s'.1 ((PK.pte k env pg).1::Judge.othersFrom k es env pg ((Hist.over es a).take n)),blk jb db (jc s z pk),vE s es,bk pk k] h')∧(Hist.over es a).length - s'.2.toNat < (Hist.over es a).length - (n:Int).toNat) (y,(n:Int)) es[m] b h:=by
      intro b hb2
      unfold dJ
      rw [hb2,hw]
      refine aV (fun d2=>?_) (fun d2=>?_)
      · refine bi pk s4 (i:=2) rfl rfl rfl ?_
        refine cl_n (tZ pk k) (i:=4) rfl s4 fun r66 h5 s5=>?_
        refine bK (ju r66 k es[m].fEnv es[m].fCall) (i:=0) rfl s5 fun r h6 hr s6=>?_
        refine bK (ro r66 _ env pg) (i:=0) rfl s6 fun r h7 hr s7=>?_
        subst hr
        refine kg (τ:=Pte) (i:=2) (enc:=ak.C) (val:=fun x=>.agg x.C.toArray) el_Sapi_Pte iT pte_one (fun _=>rfl) (by omega) rfl rfl s7 rfl (by simp; omega) (by simp; omega) fun v h8 s8=>?_
        refine ⟨⟨n + 1,rfl,hlt,?_⟩,by simp; omega⟩
        rw [ht,happ,if_pos d2]
        exact bU (l:=[bk r66 _]) s8
      · refine ⟨⟨n + 1,rfl,hlt,?_⟩,by simp; omega⟩
        rw [ht,happ,if_neg (by rw [d2]; exact Bool.false_ne_true),List.append_nil]
        exact s4
    refine aV (fun c=>j1 _ (by unfold Judge.takes; rw [c]; rfl)) (fun c=>?_)
    refine aV (fun c2=>j1 _ (by unfold Judge.takes; rw [c,c2]; rfl)) (fun c2=>?_)
    refine aV (fun c3=>j1 _ (by unfold Judge.takes; rw [c,c2,c3]; rfl)) (fun c3=>j1 _ (by unfold Judge.takes; rw [c,c2,c3]; rfl))
  · have:n = (Hist.over es a).length:=by rw [hrl] at d; have:=of_decide_eq_false d; simp at this; omega
    subst this
    rw [List.take_length] at s4
    exact bU (l:=[vI r37 (Hist.over es a)]) s4
theorem any_snoc {α:Type} (f:α→Bool) (l:List α) (x:α):(l++[x]).any f = (l.any f || f x):=by simp
theorem sp_judge_access (jb:Nat) (s:Sl) (z:js) (pk:Ptr) (es:List bX) (k:PK) (e:bX) (hb:es.length < 2 ^ 38) :
    Sp Tryz.prog lc [pv (some (jb,0)),.agg e.C.toArray] ay [blk jb db (jc s z pk),vE s es,bk pk k] (fun r=>pa_ (r = Judge.access k es z e) [blk jb db (jc s z pk),vE s es,bk pk k]):=by
  intro h s0
  refine vR _ _ ?_
  unfold oS
  refine cx (bi z.fEnvs s0 (i:=0) rfl rfl rfl ?_)
  refine sZ (iM e.fCall z.fEnvs) s0 fun r h1 hr s1=>?_
  subst hr
  refine aV (fun d=>?_) (fun d=>?_)
  · exact aU (by unfold Judge.access; rw [if_pos (by simpa using d)]) s1
  · have d':¬ Word.check e.fCall z.fEnvs ≠ 0:=by simpa using d
    refine cJ [0,0,0] (sp_judge_others jb s z pk es k e.fEffect e.fEnv (IntKind.i64.wrap e.fCall.e1) hb) s1 rfl fun r50 h2 s2=>?_
    have s3:=dw s2
    have hrl:=(cd (j:=0) s3 rfl).1
    have hol':(Hist.over es e.fEffect).length ≤ es.length:=Hist.placesFrom_len _ es 0
    have hfl:=Judge.othersFrom_len k es e.fEnv (IntKind.i64.wrap e.fCall.e1) (Hist.over es e.fEffect)
    have hll:(Judge.others k es e.fEffect e.fEnv (IntKind.i64.wrap e.fCall.e1)).length < 2 ^ 39:=by unfold Judge.others; simp; omega
    generalize hL:Judge.others k es e.fEffect e.fEnv (IntKind.i64.wrap e.fCall.e1) = L at *
    refine Lp.intro (fun (y:Bool × Bool × Int) h=>∃ n:Nat,y.2.2 = n∧n ≤ L.length∧y.1 = Judge.faults e (L.take n)∧y.2.1 = Judge.goes e (L.take n)∧aC [vG r50 L,blk jb db (jc s z pk),vE s es,bk pk k] h) (fun (y:Bool × Bool × Int) _=>L.length - y.2.2.toNat) ⟨0,rfl,Nat.zero_le _,rfl,rfl,s3⟩ ?_
    rintro ⟨f,g,i⟩ h ⟨n,rfl,hn,hf,hg,s4⟩
    simp only at hf hg
    unfold kv
    refine aV (fun d2=>?_) (fun d2=>?_)
    · have hlt:n < L.length:=by rw [hrl] at d2; have:=of_decide_eq_true d2; simp at this; exact this
      have hw:IntKind.i64.wrap ((n:Int) + 1) = ((n + 1:Nat):Int):=by rw [bO (by omega) (by omega)]; rfl
      have ht:L.take (n + 1) = L.take n++[L[n]]:=by simp
      refine dv s4 (j:=0) rfl (by show (0:Int) ≤ n; omega) (by show (n:Int) < _; omega) fun q hq=>?_
      refine dZ (j:=0) (i:=n) (k:=0) L[n] iT s4 rfl hq rfl (aD hlt) (by simp) ?_
      rw [hw]
      refine ⟨⟨n + 1,rfl,hlt,?_,?_,s4⟩,by simp; omega⟩
      · unfold Judge.faults; rw [ht,any_snoc]; show (f || _) = _; rw [hf]; rfl
      · unfold Judge.goes; rw [ht,any_snoc]; show (g || _) = _; rw [hg]; rfl
    · have:n = L.length:=by rw [hrl] at d2; have:=of_decide_eq_false d2; simp at this; omega
      subst this
      rw [List.take_length] at hf hg
      have s5:=bU (l:=[vG r50 L]) s4
      refine aV (fun d3=>?_) (fun d3=>?_)
      · refine aU ?_ s5
        unfold Judge.access
        rw [if_neg d',if_pos (by simpa using d3),hL,← hf]
      · refine bi pk s4 (i:=1) rfl rfl rfl ?_
        refine cl_n (tZ pk k) (i:=2) rfl s5 fun r104 h6 s6=>?_
        refine bK (nL r104 k e.fLine.fFrame e.fCall) (i:=0) rfl s6 fun r h7 hr s7=>?_
        subst hr
        refine aU ?_ (bU (l:=[bk r104 _]) s7)
        unfold Judge.access
        rw [if_neg d',if_neg (by simpa using d3),hL,← hg]
        rfl
theorem sp_judge_well (jb:Nat) (s:Sl) (z:js) (pk:Ptr) (e:bX) :
    Sp Tryz.prog mL [pv (some (jb,0)),.agg e.C.toArray] ay [blk jb db (jc s z pk)] (fun r=>pa_ (r = Judge.well z e) [blk jb db (jc s z pk)]):=by
  intro h s0
  refine sim_judge_judge_well _ _ ?_
  unfold rd
  refine aV (fun d=>?_) (fun d=>?_)
  · refine cx (bi z.fEnvs s0 (i:=0) rfl rfl rfl ?_)
    refine sZ (iM e.fCall z.fEnvs) s0 fun r h1 hr s1=>?_
    subst hr
    refine aV (fun d2=>?_) (fun d2=>?_)
    · exact aU (by unfold Judge.well; rw [d,d2]; rfl) s1
    · exact aU (by unfold Judge.well; rw [d,d2]; rfl) s1
  · exact aU (by unfold Judge.well; rw [d]; rfl) s0
abbrev OrdOk (s:Sl) (es:List bX):Prop:=Sp Tryz.prog oq [sv s] cr [vE s es] (fun r=>aC [vI r (Hist.order es),vE s es])
theorem order_in {es:List bX} {x:Int} (h:x ∈ Hist.order es):0 ≤ x∧x < es.length:=Hist.places_in ((Hist.isort_perm _ _).subset h)
theorem order_len (es:List bX):(Hist.order es).length ≤ es.length:=by
  have h1:=(Hist.isort_perm (Hist.eff es) (Hist.effs es)).length_eq
  have h2:=Hist.placesFrom_len (fun e=>decide (e.fEffect > 0)) es 0
  unfold Hist.order; rw [h1]; exact h2
theorem sp_judge_run (s:Sl) (es:List bX) (z:js) (lin acc:Bool) (hz:PK.sized z = true) (hb:es.length < 2 ^ 38) (ho:Hist.Apart es→OrdOk s es) :
    Sp Tryz.prog tL [sv s,.agg z.C.toArray,.bool lin,.bool acc] bH [vE s es] (fun r=>pa_ (r = Judge.run es z lin acc) [vE s es]):=by
  intro h s0
  refine sim_judge_run _ _ _ _ ?_
  unfold sh_judge_run
  refine bK (sp_hist_May s es z hb) (i:=0) rfl s0 fun r h1 hr s1=>?_
  subst hr
  refine aV (fun d=>?_) (fun d=>?_)
  · exact aU (by unfold Judge.run; rw [if_neg (by simpa using d)]) s1
  · have d':Hist.may es z = true:=by simpa using d
    have er:Judge.run es z lin acc = Judge.runFrom es z lin acc (PK.new z) (Hist.order es):=if_pos d'
    rw [er]
    refine lj (rp z hz) s1 fun pk h2 s2=>?_
    refine oG s2 fun b25 h3 s3=>?_
    refine cl_n (ho (Hist.may_apart d')) (i:=2) rfl s3 fun r27 h4 s4=>?_
    have hol:=order_len es
    have hrl:=(cd (j:=0) s4 rfl).1
    refine Lp.intro (fun (i:Int) h=>∃ (n:Nat) (k:PK),i = n∧n ≤ (Hist.order es).length∧Judge.runFrom es z lin acc k ((Hist.order es).drop n) = Judge.runFrom es z lin acc (PK.new z) (Hist.order es)∧aC [vI r27 (Hist.order es),blk b25 db (jc s z pk),bk pk k,vE s es] h) (fun (i:Int) _=>(Hist.order es).length - i.toNat) ⟨0,_,rfl,Nat.zero_le _,rfl,s4⟩ ?_
    rintro i h ⟨n,k,rfl,hn,he,s5⟩
    have fin:∀ h,aC [vI r27 (Hist.order es),blk b25 db (jc s z pk),bk pk k,vE s es] h→aC [vE s es] h:=fun h s=>bU (l:=[_,_,_]) s
    unfold wq
    refine aV (fun d2=>?_) (fun d2=>?_)
    · have hlt:n < (Hist.order es).length:=by rw [hrl] at d2; simpa using d2
      have hw:IntKind.i64.wrap ((n:Int) + 1) = ((n + 1:Nat):Int):=by rw [bO (by omega) (by omega)]; rfl
      have hin:=order_in (List.getElem_mem hlt)
      have hes:=(cd (j:=3) s5 rfl).1
      obtain ⟨m,hm⟩:=Int.eq_ofNat_of_zero_le hin.1
      have hml:m < es.length:=by omega
      have hev:Judge.ev es (Hist.order es)[n] = es[m]:=by rw [hm,Judge.ev_nat hml]
      rw [List.drop_eq_getElem_cons hlt,Judge.runFrom,hev] at he
      refine dv s5 (j:=0) rfl (by omega) (by omega) fun q hq=>?_
      refine dZ (j:=0) (i:=n) (k:=0) (Hist.order es)[n] (cX _) s5 rfl hq (by simp) (aD hlt) (by simp) ?_
      rw [hm]
      refine dv s5 (j:=3) rfl (by omega) (by omega) fun q2 hq2=>?_
      refine dZ (j:=3) (i:=m) (k:=0) es[m] mQ s5 rfl hq2 rfl (aD hml) (by simp) ?_
      have hmi:((m:Int),false) = ((Hist.order es)[n],false):=by rw [hm]
      refine aV (fun d3=>?_) (fun d3=>?_)
      · rw [if_pos d3] at he
        have j1:∀ h,(acc = true∧Judge.access k es z es[m] = false) = False→aC [vI r27 (Hist.order es),blk b25 db (jc s z pk),bk pk k,vE s es] h→rB b25 (fun s' h'=>(∃ (n:Nat) (k:PK),s' = n∧n ≤ (Hist.order es).length∧Judge.runFrom es z lin acc k ((Hist.order es).drop n) = Judge.runFrom es z lin acc (PK.new z) (Hist.order es)∧aC [vI r27 (Hist.order es),blk b25 db (jc s z pk),bk pk k,vE s es] h')∧(Hist.order es).length - s'.toNat < (Hist.order es).length - (n:Int).toNat) (n:Int) es[m] () h:=by
          intro h hno s6
          rw [if_neg (by rw [hno]; exact not_false)] at he
          unfold rB
          refine bK (sp_judge_well b25 s z pk es[m]) (i:=1) rfl s6 fun r h7 hr s7=>?_
          subst hr
          rw [hw]
          refine aV (fun d4=>?_) (fun d4=>?_)
          · rw [if_pos d4] at he
            refine bi pk s7 (i:=1) rfl rfl rfl ?_
            refine bK (nL pk k es[m].fLine.fFrame es[m].fCall) (i:=2) rfl s7 fun r h8 hr s8=>?_
            exact ⟨⟨n + 1,_,rfl,hlt,he,s8⟩,by simp; omega⟩
          · rw [if_neg (by rw [d4]; exact Bool.false_ne_true)] at he
            exact ⟨⟨n + 1,_,rfl,hlt,he,s7⟩,by simp; omega⟩
        unfold rA
        refine aV (fun d4=>?_) (fun d4=>?_)
        · refine cJ [1,2,1] (sp_judge_access b25 s z pk es k es[m] hb) s5 rfl fun r h6 s6=>?_
          obtain ⟨hr,s7⟩:=bn.1 s6
          subst hr
          have s8:aC [vI r27 (Hist.order es),blk b25 db (jc s z pk),bk pk k,vE s es] h6:=ba [3,0,1] s7 rfl
          refine aV (fun d5=>?_) (fun d5=>?_)
          · rw [if_pos ⟨d4,by simpa using d5⟩] at he
            exact aU (by rw [← he,hm]) (fin _ s8)
          · exact j1 h6 (by simp; intro _; simpa using d5) s8
        · refine df rfl ?_
          exact j1 h (by rw [d4]; simp) s5
      · rw [if_neg (by rw [d3]; exact Bool.false_ne_true)] at he
        refine bi pk s5 (i:=1) rfl rfl rfl ?_
        refine bK (ju pk k es[m].fEnv es[m].fCall) (i:=2) rfl s5 fun r h6 hr s6=>?_
        subst hr
        refine aV (fun d4=>?_) (fun d4=>?_)
        · have d4':lin = true∧((PK.do_ k es[m].fEnv es[m].fCall).1.2 = false∨ab.eqb (PK.do_ k es[m].fEnv es[m].fCall).1.1 es[m].fAnswer = false):=by simpa using d4
          rw [if_pos d4'] at he
          exact aU (by rw [← he,hm]) (bU (l:=[_,_,_]) s6)
        · have d4':¬ (lin = true∧((PK.do_ k es[m].fEnv es[m].fCall).1.2 = false∨ab.eqb (PK.do_ k es[m].fEnv es[m].fCall).1.1 es[m].fAnswer = false)):=by simpa using d4
          rw [if_neg d4'] at he
          rw [hw]
          exact ⟨⟨n + 1,_,rfl,hlt,he,s6⟩,by simp; omega⟩
    · have:n = (Hist.order es).length:=by rw [hrl] at d2; simp at d2; omega
      subst this
      rw [List.drop_length] at he
      exact aU he (fin h s5)
section
variable (s:Sl) (es:List bX) (z:js) (hz:PK.sized z = true) (hb:es.length < 2 ^ 38) (ho:Hist.Apart es→OrdOk s es)
include hz hb ho
theorem sp_judge_Linear:Sp Tryz.prog ol [sv s,.agg z.C.toArray] bH [vE s es] (fun r=>pa_ (r = Judge.linear es z) [vE s es]):=by
  intro h s0
  refine sim_judge_Linear _ _ ?_
  unfold sh_judge_Linear
  exact bK (sp_judge_run s es z true false hz hb ho) (i:=0) rfl s0 fun r h1 hr s1=>aU hr s1
theorem sp_judge_Access:Sp Tryz.prog oo [sv s,.agg z.C.toArray] bH [vE s es] (fun r=>pa_ (r = Judge.accesses es z) [vE s es]):=by
  intro h s0
  refine sim_judge_Access _ _ ?_
  unfold sh_judge_Access
  exact bK (sp_judge_run s es z false true hz hb ho) (i:=0) rfl s0 fun r h1 hr s1=>aU hr s1
theorem sp_judge_Right:Sp Tryz.prog ui [sv s,.agg z.C.toArray] ay [vE s es] (fun r=>pa_ (r = Judge.right es z) [vE s es]):=by
  intro h s0
  refine sim_judge_Right _ _ ?_
  unfold sh_judge_Right
  refine bK (sp_judge_Linear s es z hz hb ho) (i:=0) rfl s0 fun r h1 hr s1=>?_
  subst hr
  exact bK (sp_judge_Access s es z hz hb ho) (i:=0) rfl s1 fun r h2 hr s2=>aU (by rw [hr]; rfl) s2
end
end Go.Proofs.YtmggcfijlpldpaaGreatDoor
namespace Go.Proofs.YtmggcfijlpldpaaGreatDoor
open Go Mb
set_option linter.unusedVariables false
def sN (a0:Int) (Rec17:(Sl × Int)→Hp→Prop) (s16:Sl × Int) (x32:Int) (Rec26:(Sl × Int)→Hp→Prop) (s25:Sl × Int):Hp→Prop:=br (decide (s25.2 < a0)) ( hpv Tryz.prog (Instr.buildSlice mX 1 #[(0,(.agg (dK.C (⟨x32,s25.2,0,(⟨0,0,0,0,0⟩:ae),0,0⟩:dK)).toArray))]) nE fun (v41:Sl)=>hpv Tryz.prog (Builtin.append_ #[mX,mX] mX #[(sv s25.1),(sv v41)]) nE fun (v42:Sl)=>Rec26 (v42,(IntKind.i64.wrap (s25.2 + 1)))) ( Rec17 (s25.1,(IntKind.i64.wrap (s16.2 + 1))))
def sO (a0:Int) (Rec11:(Sl × Int)→Hp→Prop) (s10:Sl × Int) (v27:Sl) (Rec17:(Sl × Int)→Hp→Prop) (s16:Sl × Int):Hp→Prop:=br (decide (s16.2 < (v27.len:Int))) ( ix v27 s16.2 fun q31=>ld (q31.1,q31.2 + Int.toNat s16.2 * 1) (cI .i64) fun x32=>Lp (sN a0 Rec17 s16 x32) (s16.1,0)) ( Rec11 (s16.1,(IntKind.i64.wrap (s10.2 + 1))))
def sP (a0:Int) (a1:Int) (K:Sl→Hp→Prop) (Rec11:(Sl × Int)→Hp→Prop) (s10:Sl × Int):Hp→Prop:=br (decide (s10.2 < a1)) ( hpv Tryz.prog (Instr.buildSlice dB 2 #[(0,(.int .i64 3)),(1,(.int .i64 2))]) cr fun (v27:Sl)=>Lp (sO a0 Rec11 s10 v27) (s10.1,0)) ( K s10.1)
def sh_fair_Rounds (a0:Int) (a1:Int) (K:Sl→Hp→Prop):Hp→Prop:=br ((((decide (a0 < 1)) || (decide (a0 > 8))) || (decide (a1 < 0))) || (decide (a1 > 500))) ( K (⟨none,0,0,none⟩:Sl)) ( hpv Tryz.prog (Instr.buildSlice mX 0 #[]) nE fun (v23:Sl)=>Lp (sP a0 a1 K) (v23,0))
theorem sim_fair_Rounds (a0:Int) (a1:Int) {K:Sl→Hp→Prop} {h:Hp} (H:sh_fair_Rounds a0 a1 K h):Ct Tryz.prog uj #[(.int .i64 a0),(.int .i64 a1)] h fun v h'=>∃ r,v = nE r∧K r h':=au [(.int .i64 a0),(.int .i64 a1)] Tryz.func41 c c c fun _=>M<|O c<|aj<|M<|J c<|p (cm c c)<|J c<|V c c (aG _) (fun g1=>wv<|ag c)<|V c c (aG _) (fun g2=>wv<|pY (az c g2) c)<|p (cZ c c)<|J c<|V c c (aG _) (fun g3=>wv<|ag c)<|V c c (aG _) (fun g4=>wv<|cm (az c g4) c)<|p (cZ c c)<|J c<|V c c (aG _) (fun g5=>wv<|ag c)<|V c c (aG _) (fun g6=>wv<|pY (az c g6) c)<|p (cZ c c)<|ac<|ar c H (fun k7 H8=>M<|O c<|ah<|Y ⟨(⟨none,0,0,none⟩:Sl),c,H8⟩) fun k7 H8=>am<|M<|aa<|aO H8 (bm (vs:=[]) c) c fun v23 _ H9=>O c<|aj<|M<|J c<|J c<|ac<|av<|bA (step:=sP a0 a1 K) (fun s10=>[(0,(.int .i64 a0)),(5,(sv s10.1)),(24,(.int .i64 a1)),(25,(.int .i64 s10.2))]) (fun s10=>[]) H9 (.cons c<|.cons c<|.cons c<|.cons c<|.nil _) .slnil fun Rec11 s10 _ H12=>M<|p (cm c c)<|ac<|aj<|ar c H12 (fun k13 H14=>am<|aj<|av<|M<|aa<|aO H14 (bm (vs:=[(.int .i64 3),(.int .i64 2)]) c) c fun v27 _ H15=>p (dz c Tryz.underlying40 c)<|J c<|ac<|av<|bA (step:=sO a0 Rec11 s10 v27) (fun s16=>[(0,(.int .i64 a0)),(5,(sv s16.1)),(24,(.int .i64 a1)),(25,(.int .i64 s10.2)),(27,(sv v27)),(28,(.int .i64 (v27.len:Int))),(29,(.int .i64 s16.2))]) (fun s16=>[]) H15 (.cons c<|.cons c<|.cons c<|.cons c<|.cons c<|.cons c<|.cons c<|.nil _) .slnil fun Rec17 s16 _ H18=>M<|p (cm c c)<|ac<|aj<|ar c H18 (fun k19 H20=>am<|aj<|av<|M<|ce H20 fun q31 e21 h22 H23=>p (bo ig (aL c<|aZ e21) c h22)<|aa<|aT H23 aY c (fun _=>c) c fun x32 H24=>O c<|M<|J c<|J c<|ac<|av<|bA (step:=sN a0 Rec17 s16 x32) (fun s25=>[(0,(.int .i64 a0)),(5,(sv s25.1)),(7,(.int .i64 x32)),(24,(.int .i64 a1)),(25,(.int .i64 s10.2)),(27,(sv v27)),(28,(.int .i64 (v27.len:Int))),(29,(.int .i64 s16.2)),(33,(.int .i64 a0)),(34,(.int .i64 s25.2))]) (fun s25=>[]) H24 (.cons c<|.cons c<|.cons c<|.cons c<|.cons c<|.cons c<|.cons c<|.cons c<|.cons c<|.cons c<|.nil _) .slnil fun Rec26 s25 _ H27=>M<|p (cm c c)<|ac<|aj<|ar c H27 (fun k28 H29=>am<|aj<|av<|M<|J c<|O c<|ap<|J c<|J c<|J c<|p (aW c<|build_63_0_1 x32 s25.2)<|aa<|aO H29 (bm (vs:=[(.agg (dK.C (⟨x32,s25.2,0,(⟨0,0,0,0,0⟩:ae),0,0⟩:dK)).toArray)]) c) c fun v41 _ H30=>aa<|aO H30 (dA c c) c fun v42 _ H31=>O c<|ap<|p (bp c c)<|J c<|ac<|cF (v42,(IntKind.i64.wrap (s25.2 + 1))) H31 (.cons c<|.cons c<|.cons c<|.cons c<|.cons c<|.cons c<|.cons c<|.cons c<|.cons c<|.cons c<|.nil _) .slnil) fun k28 H29=>bh<|ap<|p (bp c c)<|J c<|ac<|cF (s25.1,(IntKind.i64.wrap (s16.2 + 1))) H29 (.cons c<|.cons c<|.cons c<|.cons c<|.cons c<|.cons c<|.cons c<|.nil _) .slnil) fun k19 H20=>bh<|ap<|p (bp c c)<|J c<|ac<|cF (s16.1,(IntKind.i64.wrap (s10.2 + 1))) H20 (.cons c<|.cons c<|.cons c<|.cons c<|.nil _) .slnil) fun k13 H14=>bh<|M<|J c<|O c<|ah<|Y ⟨s10.1,c,H14⟩
def qN (a0:Sl) (a1:Int) (a2:Int) (K:Int→Hp→Prop) (Rec2:(Int × Int × Int)→Hp→Prop) (s1:Int × Int × Int):Hp→Prop:=br (decide (s1.2.2 < (a0.len:Int))) ( ix a0 s1.2.2 fun q15=>ld (q15.1,q15.2 + Int.toNat s1.2.2 * 10) dK.C fun x16=>br ((x16.fKind == a1) && (x16.fCore == a2)) ( Rec2 ((mx s1.1 0),0,(IntKind.i64.wrap (s1.2.2 + 1)))) ( Rec2 ((mx s1.1 (IntKind.i64.wrap (s1.2.1 + 1))),(IntKind.i64.wrap (s1.2.1 + 1)),(IntKind.i64.wrap (s1.2.2 + 1))))) ( K s1.1)
def sh_fair_Longest (a0:Sl) (a1:Int) (a2:Int) (K:Int→Hp→Prop):Hp→Prop:=Lp (qN a0 a1 a2 K) (0,0,0)
theorem sim_fair_Longest (a0:Sl) (a1:Int) (a2:Int) {K:Int→Hp→Prop} {h:Hp} (H:sh_fair_Longest a0 a1 a2 K h):Ct Tryz.prog ou #[(sv a0),(.int .i64 a1),(.int .i64 a2)] h fun v h'=>∃ r,v = dW r∧K r h':=au [(sv a0),(.int .i64 a1),(.int .i64 a2)] Tryz.func90 c c c fun _=>M<|O c<|M<|p (aq c)<|O c<|aj<|M<|J c<|p (dz c Tryz.underlying59 c)<|J c<|ac<|av<|bA (step:=qN a0 a1 a2 K) (fun s1=>[(1,(.int .i64 a1)),(2,(.int .i64 a2)),(7,(.int .i64 s1.1)),(8,(.int .i64 s1.2.1)),(11,(sv a0)),(12,(.int .i64 (a0.len:Int))),(13,(.int .i64 s1.2.2))]) (fun s1=>[]) H (.cons c<|.cons c<|.cons c<|.cons c<|.cons c<|.cons c<|.cons c<|.nil _) .slnil fun Rec2 s1 _ H3=>M<|p (cm c c)<|ac<|aj<|ar c H3 (fun k4 H5=>am<|aj<|av<|M<|ce H5 fun q15 e6 h7 H8=>p (bo slc_59 (aL c<|aZ e6) c h7)<|aa<|gx H8 ag_63 c (fun _=>c) c fun x16 H9=>aa<|aK (l:=dK.C (⟨0,0,0,(⟨0,0,0,0,0⟩:ae),0,0⟩:dK)) zero_63 c c fun b10=>aa<|aN (k:=0) (vs:=dK.C x16) inf_63 c c c c c c c<|ac<|M<|J c<|p (bp c c)<|O c<|aj<|M<|p (ad fld_63_0 c)<|bg (bc (k:=0) aY c c c) c<|J c<|p (bM c c)<|J c<|V c c (aw _) (fun g10=>wv<|ad fld_63_1 c)<|V c c (aw _) (fun g11=>cv<|bc (k:=0) aY (az c g11) c c)<|V c c (aw _) (fun g12=>wv<|ag c)<|V c c (aw _) (fun g13=>wv<|bM (az c g13)<|az c g13)<|p (bN c c)<|ac<|ar c H9 (fun k14 H15=>ap<|O c<|ap<|J c<|J c<|p (v_maxT c c)<|O c<|ap<|p (bp c c)<|J c<|ac<|cF ((mx s1.1 0),0,(IntKind.i64.wrap (s1.2.2 + 1))) H15 (.cons c<|.cons c<|.cons c<|.cons c<|.cons c<|.cons c<|.cons c<|.nil _)<|.cons _ .slnil) fun k14 H15=>am<|ap<|J c<|J c<|p (v_maxT c c)<|O c<|ap<|p (bp c c)<|J c<|ac<|cF ((mx s1.1 (IntKind.i64.wrap (s1.2.1 + 1))),(IntKind.i64.wrap (s1.2.1 + 1)),(IntKind.i64.wrap (s1.2.2 + 1))) H15 (.cons c<|.cons c<|.cons c<|.cons c<|.cons c<|.cons c<|.cons c<|.nil _)<|.cons _ .slnil) fun k4 H5=>bh<|M<|J c<|O c<|ah<|Y ⟨s1.1,c,H5⟩
def wx (a0:Sl) (a1:Int) (a2:Int) (K:Bool→Hp→Prop) (Rec2:Int→Hp→Prop) (s1:Int):Hp→Prop:=br (decide (s1 < a1)) ( cl Tryz.prog ou [(sv a0),(.int .i64 2),(.int .i64 s1)] dW fun r14=>br (!(decide (r14 ≥ a2))) ( cl Tryz.prog ou [(sv a0),(.int .i64 3),(.int .i64 s1)] dW fun r20=>br (decide (r20 ≥ a2)) ( K false) ( Rec2 (IntKind.i64.wrap (s1 + 1)))) ( K false)) ( K true)
def sh_fair_Fair (a0:Sl) (a1:Int) (a2:Int) (K:Bool→Hp→Prop):Hp→Prop:=Lp (wx a0 a1 a2 K) 0
theorem sim_fair_Fair (a0:Sl) (a1:Int) (a2:Int) {K:Bool→Hp→Prop} {h:Hp} (H:sh_fair_Fair a0 a1 a2 K h):Ct Tryz.prog n_fair_Fair #[(sv a0),(.int .i64 a1),(.int .i64 a2)] h fun v h'=>∃ r,v = ay r∧K r h':=au [(sv a0),(.int .i64 a1),(.int .i64 a2)] Tryz.func44 c c c fun _=>M<|O c<|aj<|M<|J c<|J c<|ac<|av<|bA (step:=wx a0 a1 a2 K) (fun s1=>[(0,(sv a0)),(2,(.int .i64 a2)),(8,(.int .i64 a1)),(9,(.int .i64 s1))]) (fun s1=>[]) H (.cons c<|.cons c<|.cons c<|.cons c<|.nil _) .slnil fun Rec2 s1 _ H3=>M<|p (cm c c)<|ac<|aj<|ar c H3 (fun k4 H5=>am<|aj<|av<|M<|J c<|O c<|M<|J c<|J c<|aa<|Z H5 en_90 fun r14 _ H6=>J c<|p (jr c c)<|J c<|V c c (aG _) (fun g7=>wv<|ag c)<|V c c (aG _) (fun g8=>wv<|ag c)<|bP H6 (fun k10 H11=>F (D<|bY k10)<|fV H11 en_90 (aP (az c k10)<|aP c<|aP (az c k10) bL) c fun r20 _ H12=>F (D<|bY k10)<|R (ag c)<|F (D<|bY k10)<|R (jr c c)<|p (ao c (bY k10) c)<|ac<|ar c H12 (fun k13 H14=>M<|O c<|ah<|Y ⟨false,c,H14⟩) fun k13 H14=>am<|ap<|p (bp c c)<|J c<|ac<|cF (IntKind.i64.wrap (s1 + 1)) H14 (.cons c<|.cons c<|.cons c<|.cons c<|.nil _) .slnil) fun k10 H11=>W (bV<|bE k10)<|W (bV<|bE k10)<|W (bV<|bE k10)<|p (aR c (bE k10) c)<|ac<|lY c c<|M<|O c<|ah<|Y ⟨false,c,H11⟩) fun k4 H5=>bh<|M<|O c<|ah<|Y ⟨true,c,H5⟩
end Go.Proofs.YtmggcfijlpldpaaGreatDoor
