/- Part of the proof of: The law RaceSlot returns true for every input, and leaves its arguments as they were. -/
import Derived.Test.YtniiiakkdoiaiaaGreatDoorRaceSlot12
set_option linter.all false
set_option maxRecDepth 20000
namespace Go.Proofs.YtniiiakkdoiaiaaGreatDoor
open Go Mb
set_option linter.unusedVariables false
def hist_May_l1 (a0:Sl) (a1:aC) (K:Bool→Hp→Prop) (v12:(Option Nat)) (v13:(Option Nat)) (Rec4:(Int × Int)→Hp→Prop) (s3:Int × Int):Hp→Prop:=br (decide (s3.2 < (a0.len:Int))) ( ix a0 s3.2 fun q18=>ld (q18.1,q18.2 + Int.toNat s3.2 * 16) au.C fun x19=>br ((!(!(eD x19 a1 s3.1))) && (decide (x19.fEffect > 0))) ( hpv Tryz.prog (Instr.lookup jr (.map v12) (.int .i64 x19.fEffect) false) aB fun (v33:Bool)=>br v33 ( K false) ( hpv Tryz.prog (Instr.lookup gQ (.map v13) (.int .i64 x19.fCore) true) bK fun (v40:Int × Bool)=>br (v40.2 && ((decide (v40.1 ≤ 0)) || (decide (x19.fBegin ≤ v40.1)))) ( K false) ( hpu Tryz.prog (Instr.mapUpdate jr (.map v12) (.int .i64 x19.fEffect) (.bool true))<|hpu Tryz.prog (Instr.mapUpdate gQ (.map v13) (.int .i64 x19.fCore) (.int .i64 x19.fEnd))<|Rec4 (x19.fBegin,(IntKind.i64.wrap (s3.2 + 1)))))) ( br ((!(eD x19 a1 s3.1)) || false) ( K false) ( hpv Tryz.prog (Instr.lookup gQ (.map v13) (.int .i64 x19.fCore) true) bK fun (v40:Int × Bool)=>br (v40.2 && ((decide (v40.1 ≤ 0)) || (decide (x19.fBegin ≤ v40.1)))) ( K false) ( hpu Tryz.prog (Instr.mapUpdate jr (.map v12) (.int .i64 x19.fEffect) (.bool true))<|hpu Tryz.prog (Instr.mapUpdate gQ (.map v13) (.int .i64 x19.fCore) (.int .i64 x19.fEnd))<|Rec4 (x19.fBegin,(IntKind.i64.wrap (s3.2 + 1))))))) ( K true)
def sh_hist_May (a0:Sl) (a1:aC) (K:Bool→Hp→Prop):Hp→Prop:=hpv Tryz.prog (Instr.makeMap jr none) R_map_int_bool fun (v12:(Option Nat))=>hpv Tryz.prog (Instr.makeMap gQ none) R_map_int_int fun (v13:(Option Nat))=>Lp (hist_May_l1 a0 a1 K v12 v13) (0,0)
theorem sim_hist_May (a0:Sl) (a1:aC) {K:Bool→Hp→Prop} {h:Hp} (H:sh_hist_May a0 a1 K h):Ct Tryz.prog wX #[(sv a0),(.agg (aC.C a1).toArray)] h fun v h'=>∃ r,v = aB r∧K r h':=aw [(sv a0),(.agg (aC.C a1).toArray)] Tryz.func19 c c c fun _=>M<|aa<|cJ (l:=aC.C a1) c c c fun b3=>O c<|M<|aa<|aR H x_makeMap0 c fun v12 _ H1=>aa<|aR H1 x_makeMap0 c fun v13 _ H2=>p (ar c)<|p (ar c)<|O c<|ak<|M<|J c<|p (dz c Tryz.underlying39 c)<|J c<|ac<|ax<|bD (step:=hist_May_l1 a0 a1 K v12 v13) (fun s3=>[(3,(.pointer (some ⟨b3,0,none⟩))),(5,(.int .i64 s3.1)),(6,(.map v12)),(7,(.map v13)),(14,(sv a0)),(15,(.int .i64 (a0.len:Int))),(16,(.int .i64 s3.2))]) (fun s3=>[bx b3 35 (aC.C a1)]) H2 (.cons c<|.cons c<|.cons c<|.cons c<|.cons c<|.cons c<|.cons c<|.nil _) (.cons_cons _ .slnil) fun Rec4 s3 _ H5=>M<|p (ct c c)<|ac<|ak<|av c H5 (fun k6 H7=>an<|ak<|ax<|M<|cj H7 fun q18 e8 h9 H10=>p (bo qW (aL c<|ba e8) c h9)<|aa<|gJ H10 ux c (fun _=>c) c fun x19 H11=>aa<|aK (l:=au.C (⟨0,0,(⟨0,0,0,0,0⟩:ae),0,0,0,(⟨0,0⟩:ab),(⟨0,0,0,0⟩:al)⟩:au)) tC c c fun b9=>aa<|aO (k:=0) (vs:=au.C x19) inf_51 c c c c c c c<|ac<|ak<|M<|bh (bB (k:=0) ux c c c c) c<|bh (bB (k:=1) pD c c c c) c<|J c<|aa<|cH (vs:=[(.agg (au.C x19).toArray),(.agg (aC.C a1).toArray),(.int .i64 s3.1)]) (bv<|ct_hist_one x19 a1 s3.1 _) en_52 c c<|p (cn c)<|J c<|V c c (aM _) (fun g12=>wv<|ad iX c)<|V c c (aM _) (fun g13=>cv<|bf (k:=0) aY (aD c g13) c c)<|V c c (aM _) (fun g14=>wv<|qr (aD c g14) c)<|V c c (aM _) (fun g15=>wv<|ah<|aD c g15)<|V c c (rj _ _) (fun g16=>wv<|ah c)<|V c c (rj _ _) (fun g17=>wv<|ad iX c)<|V c c (rj _ _) (fun g18=>cv<|bf (k:=0) aY (aD c g18) c c)<|bT H11 (fun k20 H21=>F ((gv_t (b_l k20) _).trans<|D<|b_r k20)<|aR H21 (x_lookup (aD c k20)<|aD c k20) c fun v33 _ H22=>F (D<|cf<|b_l k20)<|R (aT (aD c<|b_l k20) (b_r k20) c)<|p (aq c (cf<|b_l k20) c)<|ac<|av c H22 (fun k23 H24=>M<|O c<|ai<|Y ⟨false,c,H24⟩) fun k23 H24=>an<|ak<|M<|J c<|p (ad qQ c)<|bh (bf (k:=0) aY c c c) c<|aa<|aR H24 (x_lookup c c) c fun v40 _ H25=>J c<|p (aj c c)<|p (aj c c)<|p (ar c)<|O c<|M<|J c<|J c<|V c c (ay _) (fun g26=>wv<|ah c)<|V c c (ay _) (fun g27=>wv<|v_le (aD c g27) c)<|V c c (ay _) (fun g28=>wv<|ah<|aD c g28)<|V c c (dR _ _) (fun g29=>wv<|ad tf c)<|V c c (dR _ _) (fun g30=>cv<|bf (k:=0) aY (aD c g30) c c)<|V c c (dR _ _) (fun g31=>wv<|ah c)<|V c c (dR _ _) (fun g32=>wv<|v_le (aD c g32)<|aD c g32)<|V c c (ay _) (fun g33=>wv<|dp (aD c g33)<|aL c<|xg g33)<|p (bP c c)<|ac<|av c H25 (fun k34 H35=>M<|O c<|ai<|Y ⟨false,c,H35⟩) fun k34 H35=>an<|bm (n:=13) [bx b9 51 (au.C x19)] ck c (.cons_cons _<|.cons _ .slnil)<|U 0 c (ah c)<|U 1 c (ad iX c)<|z_E 2 c (dh (k:=0) aY c c c)<|U 3 c (ah c)<|U 4 c (ad qQ c)<|z_E 5 c (dh (k:=0) aY c c c)<|U 6 c (ad tf c)<|z_E 7 c (dh (k:=0) aY c c c)<|U 8 c (ad qP c)<|z_E 9 c (dh (k:=0) aY c c c)<|U 10 c (ar c)<|G 11 c<|to_hpu H35 (tG c c c) fun _ H36=>⟨.cons_cons _<|.cons _ .slnil,G 12 c<|to_hpu H36 (tG c c c) fun _ H37=>⟨.cons_cons _<|.cons _ .slnil,aU (by kernel_rfl)<|ao<|p (bp c c)<|J c<|ac<|cK (x19.fBegin,(IntKind.i64.wrap (s3.2 + 1))) H37 (.cons c<|.cons c<|.cons c<|.cons c<|.cons c<|.cons c<|.cons c<|.nil _)<|.cons _<|.cons_cons _ .slnil⟩⟩) fun k20 H21=>W ((rj _ _).trans k20)<|V c c (aM _) (fun g38=>wv<|aq (aD c g38) (b_andr k20 g38) c)<|p (dp c c)<|ac<|av c H21 (fun k39 H40=>M<|O c<|ai<|Y ⟨false,c,H40⟩) fun k39 H40=>an<|ak<|M<|J c<|p (ad qQ c)<|bh (bf (k:=0) aY c c c) c<|aa<|aR H40 (x_lookup c c) c fun v40 _ H41=>J c<|p (aj c c)<|p (aj c c)<|p (ar c)<|O c<|M<|J c<|J c<|V c c (ay _) (fun g42=>wv<|ah c)<|V c c (ay _) (fun g43=>wv<|v_le (aD c g43) c)<|V c c (ay _) (fun g44=>wv<|ah<|aD c g44)<|V c c (dR _ _) (fun g45=>wv<|ad tf c)<|V c c (dR _ _) (fun g46=>cv<|bf (k:=0) aY (aD c g46) c c)<|V c c (dR _ _) (fun g47=>wv<|ah c)<|V c c (dR _ _) (fun g48=>wv<|v_le (aD c g48)<|aD c g48)<|V c c (ay _) (fun g49=>wv<|dp (aD c g49)<|aL c<|xg g49)<|p (bP c c)<|ac<|av c H41 (fun k50 H51=>M<|O c<|ai<|Y ⟨false,c,H51⟩) fun k50 H51=>an<|bm (n:=13) [bx b9 51 (au.C x19)] ck c (.cons_cons _<|.cons _ .slnil)<|U 0 c (ah c)<|U 1 c (ad iX c)<|z_E 2 c (dh (k:=0) aY c c c)<|U 3 c (ah c)<|U 4 c (ad qQ c)<|z_E 5 c (dh (k:=0) aY c c c)<|U 6 c (ad tf c)<|z_E 7 c (dh (k:=0) aY c c c)<|U 8 c (ad qP c)<|z_E 9 c (dh (k:=0) aY c c c)<|U 10 c (ar c)<|G 11 c<|to_hpu H51 (tG c c c) fun _ H52=>⟨.cons_cons _<|.cons _ .slnil,G 12 c<|to_hpu H52 (tG c c c) fun _ H53=>⟨.cons_cons _<|.cons _ .slnil,aU (by kernel_rfl)<|ao<|p (bp c c)<|J c<|ac<|cK (x19.fBegin,(IntKind.i64.wrap (s3.2 + 1))) H53 (.cons c<|.cons c<|.cons c<|.cons c<|.cons c<|.cons c<|.cons c<|.nil _)<|.cons _<|.cons_cons _ .slnil⟩⟩) fun k6 H7=>bi<|M<|O c<|ai<|Y ⟨true,c,H7⟩
def tc (a0:Sl) (a1:Value) (K:Sl→Hp→Prop) (Rec2:(Sl × Int)→Hp→Prop) (s1:Sl × Int):Hp→Prop:=br (decide (s1.2 < (a0.len:Int))) ( ix a0 s1.2 fun q13=>ld (q13.1,q13.2 + Int.toNat s1.2 * 16) au.C fun x14=>clv Tryz.prog a1 [(.agg (au.C x14).toArray)] aB fun r17=>br r17 ( hpv Tryz.prog (Instr.buildSlice dF 1 #[(0,(.int .i64 s1.2))]) cz fun (v20:Sl)=>hpv Tryz.prog (Builtin.append_ #[dF,dF] dF #[(sv s1.1),(sv v20)]) cz fun (v21:Sl)=>Rec2 (v21,(IntKind.i64.wrap (s1.2 + 1)))) ( Rec2 (s1.1,(IntKind.i64.wrap (s1.2 + 1))))) ( K s1.1)
def sh_hist_places (a0:Sl) (a1:Value) (K:Sl→Hp→Prop):Hp→Prop:=Lp (tc a0 a1 K) ((⟨none,0,0,none⟩:Sl),0)
theorem sim_hist_places (a0:Sl) (a1:Value) {K:Sl→Hp→Prop} {h:Hp} (H:sh_hist_places a0 a1 K h):Ct Tryz.prog qi #[(sv a0),a1] h fun v h'=>∃ r,v = cz r∧K r h':=aw [(sv a0),a1] Tryz.func53 c c c fun _=>M<|O c<|M<|O c<|ak<|M<|J c<|p (dz c Tryz.underlying39 c)<|J c<|ac<|ax<|bD (step:=tc a0 a1 K) (fun s1=>[(1,a1),(5,(sv s1.1)),(8,(sv a0)),(9,(.int .i64 (a0.len:Int))),(10,(.int .i64 s1.2))]) (fun s1=>[]) H (.cons c<|.cons c<|.cons c<|.cons c<|.cons c<|.nil _) .slnil fun Rec2 s1 _ H3=>M<|p (ct c c)<|ac<|ak<|av c H3 (fun k4 H5=>an<|ak<|ax<|M<|J c<|cj H5 fun q13 e6 h7 H8=>p (bo qW (aL c<|ba e6) c h7)<|aa<|gJ H8 ux c (fun _=>c) c fun x14 H9=>aa<|aK (l:=au.C (⟨0,0,(⟨0,0,0,0,0⟩:ae),0,0,0,(⟨0,0⟩:ab),(⟨0,0,0,0⟩:al)⟩:au)) tC c c fun b7=>p (ar c)<|aa<|aO (k:=0) (vs:=au.C x14) inf_51 c c c c c c c<|ac<|M<|J c<|bh (bB (k:=0) ux c c c c) c<|aa<|to_clv H9 c c c fun r17 _ H10=>ac<|av c H10 (fun k11 H12=>ao<|J c<|J c<|aa<|aR H12 (bu (vs:=[(.int .i64 s1.2)]) c) c fun v20 _ H13=>aa<|aR H13 (dE c c) c fun v21 _ H14=>O c<|ao<|p (bp c c)<|J c<|ac<|cK (v21,(IntKind.i64.wrap (s1.2 + 1))) H14 (.cons c<|.cons c<|.cons c<|.cons c<|.cons c<|.nil _)<|.cons _ .slnil) fun k11 H12=>an<|ao<|p (bp c c)<|J c<|ac<|cK (s1.1,(IntKind.i64.wrap (s1.2 + 1))) H12 (.cons c<|.cons c<|.cons c<|.cons c<|.cons c<|.nil _)<|.cons _ .slnil) fun k4 H5=>bi<|M<|J c<|O c<|ai<|Y ⟨s1.1,c,H5⟩
def vi (a0:Int) (a1:Int) (c0:Nat) (K:Int→Hp→Prop):Hp→Prop:=ld (c0,0) cS fun x6=>ix x6 a0 fun q8=>ld (q8.1,q8.2 + Int.toNat a0 * 16 + 8) (cI .i64) fun x10=>ld (c0,0) cS fun x11=>ix x11 a1 fun q13=>ld (q13.1,q13.2 + Int.toNat a1 * 16 + 8) (cI .i64) fun x15=>K (fN x10 x15)
theorem sim_hist_Order_c2 (a0:Int) (a1:Int) (c0:Nat) {K:Int→Hp→Prop} {h:Hp} (H:vi a0 a1 c0 K h):Ct Tryz.prog rd #[(.int .i64 a0),(.int .i64 a1),(.pointer (some ⟨c0,0,none⟩))] h fun v h'=>∃ r,v = eA r∧K r h':=aw [(.int .i64 a0),(.int .i64 a1),(.pointer (some ⟨c0,0,none⟩))] Tryz.func58 c c c fun _=>M<|O c<|ak<|bm (n:=12) [] ck c .slnil<|U 1 c (ah c)<|U 6 c (ah c)<|bF (i:=0) (fun _ _ _ _ hh=>hh) H c (by kernel_rfl) sc_39 c (fun _=>c) c fun x6 H1=>ge H1 fun q8 e2 h3 H4=>U 2 c (bo qW (aL c<|ba e2) c h3)<|U 3 c (ad iX c)<|bF (i:=4) (fun _ _ _ _ hh=>hh) H4 c (by kernel_rfl) aY c (fun _=>c) c fun x10 H5=>bF (i:=5) (fun _ _ _ _ hh=>hh) H5 c (by kernel_rfl) sc_39 c (fun _=>c) c fun x11 H6=>ge H6 fun q13 e7 h8 H9=>U 7 c (bo qW (aL c<|ba e7) c h8)<|U 8 c (ad iX c)<|bF (i:=9) (fun _ _ _ _ hh=>hh) H9 c (by kernel_rfl) aY c (fun _=>c) c fun x15 H10=>G 10 c<|cH (vs:=[(.int .i64 x10),(.int .i64 x15)]) (bv<|ct_cmp_Compare_int x10 x15 _) en_59 c c ⟨.slnil,U 11 c (ar c)<|aU (by kernel_rfl)<|ai<|Y ⟨fN x10 x15,c,H10⟩⟩
def sh_hist_Order (a0:Sl) (K:Sl→Hp→Prop):Hp→Prop:=nw eK [sv a0] fun b1=>ld (b1,0) cS fun x4=>cl Tryz.prog qi [(sv x4),(.func (.func mX) #[] #[])] cz fun r5=>cl Tryz.prog fG [(sv r5),(.func (.func rd) #[] #[(.pointer (some ⟨b1,0,none⟩))])] R_ fun (_:Unit)=>K r5
theorem sim_hist_Order (a0:Sl) {K:Sl→Hp→Prop} {h:Hp} (H:sh_hist_Order a0 K h):Ct Tryz.prog oJ #[(sv a0)] h fun v h'=>∃ r,v = cz r∧K r h':=aw [(sv a0)] Tryz.func26 c c c fun _=>M<|aa<|hG c c c H fun b1 _ H1=>O c<|M<|aa<|aV H1 sc_39 c (fun _=>c) c fun x4 H2=>aa<|Z H2 en_53 fun r5 _ H3=>O c<|M<|J c<|p (v_func c c)<|aa<|Z H3 en_57 fun r8 _ H4=>ac<|M<|J c<|O c<|ai<|Y ⟨r5,c,H4⟩
def sh_hist_Over_c1 (a0:au) (c0:Nat) (K:Bool→Hp→Prop):Hp→Prop:=ld (c0,0) (cI .i64) fun x6=>br ((decide (a0.fBegin ≤ x6)) && (!(a0.fEffect == 0))) ( ld (c0,0) (cI .i64) fun x15=>K (decide (a0.fEffect > x15))) ( K ((decide (a0.fBegin ≤ x6)) && true))
theorem sim_hist_Over_c1 (a0:au) (c0:Nat) {K:Bool→Hp→Prop} {h:Hp} (H:sh_hist_Over_c1 a0 c0 K h):Ct Tryz.prog sY #[(.agg (au.C a0).toArray),(.pointer (some ⟨c0,0,none⟩))] h fun v h'=>∃ r,v = aB r∧K r h':=aw [(.agg (au.C a0).toArray),(.pointer (some ⟨c0,0,none⟩))] Tryz.func54 c c c fun _=>M<|aa<|cJ (l:=au.C a0) c c c fun b2=>O c<|M<|p (ad tf c)<|bh (bf (k:=0) aY c c c) c<|aa<|aV H aY c (fun _=>c) c fun x6 H1=>p (v_le c c)<|J c<|V c c (ay _) (fun g2=>wv<|ad iX c)<|V c c (ay _) (fun g3=>cv<|bf (k:=0) aY (aD c g3) c c)<|V c c (ay _) (fun g4=>wv<|bM (aD c g4) c)<|V c c (ay _) (fun g5=>wv<|ah<|aD c g5)<|V c c (dR _ _) (fun g6=>wv<|ad iX c)<|V c c (dR _ _) (fun g7=>cv<|bf (k:=0) aY (aD c g7) c c)<|bT H1 (fun k9 H10=>F ((gv_t (b_l k9) _).trans<|D<|cf<|b_r k9)<|aV H10 aY c (fun _=>c) c fun x15 H11=>F ((gv_t (b_l k9) _).trans<|D<|cf<|b_r k9)<|R (qr (aD c k9) c)<|F (D<|b_l k9)<|R (aq (aD c<|b_l k9) (cf<|b_r k9) c)<|p (aT c (b_l k9) c)<|O c<|ai<|Y ⟨decide (a0.fEffect > x15),c,H11⟩) fun k9 H10=>W ((dR _ _).trans k9)<|W ((dR _ _).trans k9)<|V c c (ay _) (fun g12=>wv<|aT (aD c g12) (bH<|b_andr k9 g12) c)<|p (bP c c)<|O c<|ai<|Y ⟨((decide (a0.fBegin ≤ x6)) && true),c,H10⟩
def sh_hist_Over (a0:Sl) (a1:Int) (K:Sl→Hp→Prop):Hp→Prop:=nw kL [.int .i64 a1] fun b3=>cl Tryz.prog qi [(sv a0),(.func (.func sY) #[] #[(.pointer (some ⟨b3,0,none⟩))])] cz fun r7=>K r7
theorem sim_hist_Over (a0:Sl) (a1:Int) {K:Sl→Hp→Prop} {h:Hp} (H:sh_hist_Over a0 a1 K h):Ct Tryz.prog n_hist_Over #[(sv a0),(.int .i64 a1)] h fun v h'=>∃ r,v = cz r∧K r h':=aw [(sv a0),(.int .i64 a1)] Tryz.func21 c c c fun _=>M<|aa<|hG c c c H fun b3 _ H1=>O c<|M<|J c<|p (v_func c c)<|aa<|Z H1 en_53 fun r7 _ H2=>O c<|ai<|Y ⟨r7,c,H2⟩
end Go.Proofs.YtniiiakkdoiaiaaGreatDoor
namespace Go.Proofs.YtniiiakkdoiaiaaGreatDoor
open Go Mb
namespace Hist
def placesFrom (P:bj→Bool):List bj→Int→List Int
  | [],_=>[]
  | e::es,i=>if P e = true then i::placesFrom P es (i + 1) else placesFrom P es (i + 1)
def places (P:bj→Bool) (es:List bj):List Int:=placesFrom P es 0
def ev00:bj:=KK.ev0 0 0 ⟨0,0,0,0,0⟩ 0
def eff (es:List bj) (i:Int):Int:=(es.getD i.toNat ev00).fEffect
def ins (key:Int→Int) (x:Int):List Int→List Int
  | []=>[x]
  | y::l=>if key x < key y then x::y::l else y::ins key x l
def isort (key:Int→Int):List Int→List Int
  | []=>[]
  | x::l=>ins key x (isort key l)
def effs (es:List bj):List Int:=places (fun e=>decide (e.fEffect > 0)) es
def order (es:List bj):List Int:=isort (eff es) (effs es)
def over (es:List bj) (at_:Int):List Int:=places (fun e=>decide (e.fBegin ≤ at_) && (e.fEffect == 0 || decide (e.fEffect > at_))) es
def done (es:List bj):List Int:=places (fun e=>e.fEnd != 0) es
def endOf (ends:List (Int × Int)) (c:Int):Option Int:=(ends.find? (fun p=>p.1 == c)).map (·.2)
def stops (ends:List (Int × Int)) (e:bj):Bool:=match endOf ends e.fCore with
  | some n=>decide (n ≤ 0) || decide (e.fBegin ≤ n)
  | none=>false
def mayFrom (s:fK):List bj→Int→List Int→List (Int × Int)→Bool
  | [],_,_,_=>true
  | e::es,last,seen,ends=>if eD e s last = false∨(e.fEffect > 0∧e.fEffect ∈ seen) then false else if stops ends e = true then false else mayFrom s es e.fBegin (e.fEffect::seen) ((e.fCore,e.fEnd)::ends)
def may (es:List bj) (s:fK):Bool:=mayFrom s es 0 [] []
theorem placesFrom_app (P:bj→Bool) (e:bj):∀ (es:List bj) (i:Int),placesFrom P (es++[e]) i = placesFrom P es i++(if P e = true then [i + es.length] else [])
  | [],i=>by simp only [List.nil_append,placesFrom]; split <;> simp
  | d::es,i=>by
    simp only [List.cons_append,placesFrom]
    rw [placesFrom_app P e es (i + 1)]
    have e1:i + 1 + (es.length:Int) = i + ((d::es).length:Int):=by simp; omega
    rw [e1]
    split <;> simp
theorem placesFrom_len (P:bj→Bool):∀ (es:List bj) (i:Int),(placesFrom P es i).length ≤ es.length
  | [],_=>Nat.le_refl _
  | e::es,i=>by unfold placesFrom; have:=placesFrom_len P es (i + 1); split <;> simp <;> omega
theorem placesFrom_c (P:bj→Bool) (d:bj) (es:List bj) (i:Int):placesFrom P (d::es) i = if P d = true then i::placesFrom P es (i + 1) else placesFrom P es (i + 1):=rfl
theorem mem_placesFrom {P:bj→Bool} {x:Int}:∀ {es:List bj} {i:Int},x ∈ placesFrom P es i↔∃ (n:Nat) (e:bj),es[n]? = some e∧x = i + n∧P e = true
  | [],i=>by simp [placesFrom]
  | d::es,i=>by
    have ih:=mem_placesFrom (P:=P) (x:=x) (es:=es) (i:=i + 1)
    have sp:(∃ (n:Nat) (e:bj),(d::es)[n]? = some e∧x = i + n∧P e = true)↔(x = i∧P d = true)∨∃ (n:Nat) (e:bj),es[n]? = some e∧x = i + 1 + n∧P e = true:=by
      constructor
      · rintro ⟨n,e,h1,h2,h3⟩
        cases n with
        | zero=>simp at h1; subst h1; exact .inl ⟨by simpa using h2,h3⟩
        | succ n=>exact .inr ⟨n,e,by simpa using h1,by omega,h3⟩
      · rintro (⟨h2,h3⟩ | ⟨n,e,h1,h2,h3⟩)
        · exact ⟨0,d,rfl,by simpa using h2,h3⟩
        · exact ⟨n + 1,e,by simpa using h1,by omega,h3⟩
    rw [sp,← ih,placesFrom_c]
    split
    · rename_i hd
      rw [List.mem_cons]
      constructor
      · rintro (h | h)
        · exact .inl ⟨h,hd⟩
        · exact .inr h
      · rintro (h | h)
        · exact .inl h.1
        · exact .inr h
    · rename_i hd
      constructor
      · exact .inr
      · rintro (h | h)
        · exact absurd h.2 hd
        · exact h
theorem mem_places {P:bj→Bool} {x:Int} {es:List bj}:x ∈ places P es↔∃ (n:Nat) (e:bj),es[n]? = some e∧x = n∧P e = true:=by
  unfold places
  rw [mem_placesFrom]
  simp
theorem places_in {P:bj→Bool} {x:Int} {es:List bj} (h:x ∈ places P es):0 ≤ x∧x < es.length:=by
  obtain ⟨n,e,h1,rfl,_⟩:=mem_places.1 h
  have:=(List.getElem?_eq_some_iff.1 h1).1
  omega
theorem ins_perm (key:Int→Int) (x:Int):∀ l,(ins key x l).Perm (x::l)
  | []=>.refl _
  | y::l=>by
    unfold ins; split
    · exact .refl _
    · exact ((ins_perm key x l).cons y).trans (.swap _ _ _)
theorem isort_perm (key:Int→Int):∀ l,(isort key l).Perm l
  | []=>.refl _
  | x::l=>(ins_perm key x _).trans ((isort_perm key l).cons x)
theorem ins_up (key:Int→Int) (x:Int):∀ l,Up key l→Up key (ins key x l)
  | [],_=>List.pairwise_singleton _ _
  | y::l,h=>by
    obtain ⟨h1,h2⟩:=List.pairwise_cons.1 h
    unfold ins; split
    · rename_i hx
      refine List.pairwise_cons.2 ⟨fun z hz=>?_,h⟩
      rcases List.mem_cons.1 hz with rfl | hz
      · omega
      · have:=h1 z hz; omega
    · rename_i hx
      refine List.pairwise_cons.2 ⟨fun z hz=>?_,ins_up key x l h2⟩
      rcases List.mem_cons.1 ((ins_perm key x l).subset hz) with rfl | hz
      · omega
      · exact h1 z hz
theorem isort_up (key:Int→Int):∀ l,Up key (isort key l)
  | []=>.nil
  | x::l=>ins_up key x _ (isort_up key l)
def Apart (es:List bj):Prop:=∀ a b,a ∈ effs es→b ∈ effs es→eff es a = eff es b→a = b
theorem order_of {es:List bj} (ha:Apart es) {l:List Int} (hp:l.Perm (effs es)) (hu:Up (eff es) l):l = order es:=by
  refine List.Perm.eq_of_pairwise (le:=fun x y=>eff es x ≤ eff es y) (fun a b h1 h2 h3 h4=>?_) hu (isort_up _ _) (hp.trans (isort_perm _ _).symm)
  exact ha a b (hp.subset h1) ((isort_perm _ _).subset h2) (by omega)
theorem mayFrom_apart {s:fK}:∀ {es:List bj} {last:Int} {seen:List Int} {ends:List (Int × Int)},mayFrom s es last seen ends = true →
    (∀ (n:Nat) e,es[n]? = some e→e.fEffect > 0→e.fEffect ∉ seen)∧∀ (n m:Nat) e d,es[n]? = some e→es[m]? = some d→e.fEffect > 0→e.fEffect = d.fEffect→n = m
  | [],_,_,_,_=>⟨fun n e h=>by simp at h,fun n m e d h=>by simp at h⟩
  | e0::es,last,seen,ends,h=>by
    unfold mayFrom at h
    split at h
    · cases h
    · split at h
      · cases h
      · rename_i h1 _
        obtain ⟨i1,i2⟩:=mayFrom_apart h
        have h0:e0.fEffect > 0→e0.fEffect ∉ seen:=fun hp hm=>h1 (.inr ⟨hp,hm⟩)
        refine ⟨fun n e hn hp=>?_,fun n m e d hn hm hp he=>?_⟩
        · cases n with
          | zero=>simp at hn; subst hn; exact h0 hp
          | succ n=>exact fun hm=>i1 n e (by simpa using hn) hp (by simp [hm])
        · cases n with
          | zero =>
            cases m with
            | zero=>rfl
            | succ m =>
              simp at hn; subst hn
              exact absurd (by simp [he]) (i1 m d (by simpa using hm) (by omega))
          | succ n =>
            cases m with
            | zero =>
              simp at hm; subst hm
              exact absurd (by simp [he]) (i1 n e (by simpa using hn) hp)
            | succ m=>rw [i2 n m e d (by simpa using hn) (by simpa using hm) hp he]
theorem eff_nat {es:List bj} {n:Nat} {e:bj} (h:es[n]? = some e):eff es n = e.fEffect:=by simp [eff,h]
theorem may_apart {es:List bj} {s:fK} (h:may es s = true):Apart es:=by
  intro a b ha hb he
  obtain ⟨n,e,h1,rfl,h2⟩:=mem_places.1 ha
  obtain ⟨m,d,h3,rfl,h4⟩:=mem_places.1 hb
  rw [eff_nat h1,eff_nat h3] at he
  rw [(mayFrom_apart h).2 n m e d h1 h3 (by simpa using h2) he]
end Hist
theorem sp_hist_places (s:Sl) (es:List bj) (v:Value) (P:bj→Bool) (A:List As) (hb:es.length < 2 ^ 38)
    (hv:∀ e ∈ es,SpV Tryz.prog v [.agg e.C.toArray] aB (vE s es::A) (fun r=>pa_ (r = P e) (vE s es::A))) :
    Sp Tryz.prog qi [sv s,v] cz (vE s es::A) (fun r=>aG (vI r (Hist.places P es)::vE s es::A)):=by
  intro h s0
  have hl:=(ch (j:=0) s0 rfl).1
  refine sim_hist_places _ _ ?_
  unfold sh_hist_places
  refine Lp.intro (fun (z:Sl × Int) h=>∃ n:Nat,z.2 = n∧n ≤ es.length∧aG (vI z.1 (Hist.placesFrom P (es.take n) 0)::vE s es::A) h) (fun (z:Sl × Int) _=>es.length - z.2.toNat) ⟨0,rfl,Nat.zero_le _,fI s0⟩ ?_
  rintro ⟨z,i⟩ h ⟨n,rfl,hn,s1⟩
  unfold tc
  refine aX (fun k=>?_) (fun k=>?_)
  · have hlt:n < es.length:=by rw [hl] at k; simpa using k
    have hw:IntKind.i64.wrap ((n:Int) + 1) = ((n + 1:Nat):Int):=by rw [bN (by omega) (by omega)]; rfl
    have ht:es.take (n + 1) = es.take n++[es[n]]:=by simp
    have hlen:((es.take n).length:Int) = n:=by simp; omega
    have hpl:=Hist.placesFrom_len P (es.take n) 0
    simp at hpl
    refine dy s1 (j:=1) rfl (by omega) (by show (n:Int) < _; omega) fun q hq=>?_
    refine eu (j:=1) (i:=n) (k:=0) es[n] mv s1 rfl hq rfl (aF hlt) (by simp) ?_
    refine clv_t (hv es[n] (List.getElem_mem hlt)) s1 fun r h2 s2=>?_
    obtain ⟨hr,s3⟩:=bq.1 s2
    have s4:=star_rot s3
    rw [hw]
    refine aX (fun k2=>?_) (fun k2=>?_)
    · refine vX s4 (i:=0) rfl (by omega) fun v h' s5=>?_
      refine ⟨⟨n + 1,rfl,hlt,?_⟩,by simp; omega⟩
      rw [ht,Hist.placesFrom_app,if_pos (by rw [← hr,k2]),hlen,Int.zero_add]
      exact s5
    · refine ⟨⟨n + 1,rfl,hlt,?_⟩,by simp; omega⟩
      rw [ht,Hist.placesFrom_app,if_neg (by rw [← hr,k2]; exact Bool.false_ne_true),List.append_nil]
      exact s4
  · have:n = es.length:=by rw [hl] at k; simp at k; omega
    subst this
    rw [List.take_length] at s1
    exact s1
theorem cmp_neg (x y:Int):fN x y < 0↔x < y:=by
  unfold fN ee
  simp only [bne_self_eq_false,cond_false]
  by_cases h1:x < y
  · simp [h1]
  · by_cases h2:x > y
    · simp [h1,h2]
    · simp [h1,h2]
theorem sp_hist_Over (s:Sl) (es:List bj) (a:Int) (hb:es.length < 2 ^ 38):Sp Tryz.prog n_hist_Over [sv s,.int .i64 a] cz [vE s es] (fun r=>aG [vI r (Hist.over es a),vE s es]):=by
  intro h s0
  refine sim_hist_Over _ _ ?_
  unfold sh_hist_Over
  refine oY s0 fun b3 h1 s1=>?_
  refine cN [1,0] (sp_hist_places s es _ (fun e=>decide (e.fBegin ≤ a) && (e.fEffect == 0 || decide (e.fEffect > a))) [blk b3 kL [.int .i64 a]] hb ?_) s1 rfl fun r h2 s2=>?_
  · intro e he
    refine ⟨_,_,_,rfl,enter_hist_Over_c1,fun h s3=>?_⟩
    refine sim_hist_Over_c1 e b3 ?_
    unfold sh_hist_Over_c1
    refine bk a s3 (i:=1) rfl rfl rfl ?_
    refine aX (fun k=>?_) (fun k=>?_)
    · refine bk a s3 (i:=1) rfl rfl rfl ?_
      rw [Bool.and_eq_true] at k
      refine aW ?_ s3
      have k2:(e.fEffect == 0) = false:=by simpa using k.2
      rw [k.1,k2]; rfl
    · refine aW ?_ s3
      cases k1:decide (e.fBegin ≤ a) with
      | false=>rfl
      | true =>
        rw [k1] at k
        have k2:(e.fEffect == 0) = true:=by simpa using k
        rw [k2]; rfl
  · have s3:=dB s2
    exact nz (l:=[vI r (Hist.over es a),vE s es]) s3
theorem sp_hist_Order20 (s:Sl) (es:List bj) (hb:es.length ≤ 20) (ha:Hist.Apart es):Sp Tryz.prog oJ [sv s] cz [vE s es] (fun r=>aG [vI r (Hist.order es),vE s es]):=by
  intro h s0
  refine sim_hist_Order _ ?_
  unfold sh_hist_Order
  refine oY s0 fun b1 h1 s1=>?_
  refine bk s s1 (i:=0) rfl rfl rfl ?_
  refine cN [1,0] (sp_hist_places s es _ (fun e=>decide (e.fEffect > 0)) [blk b1 eK [sv s]] (by omega) ?_) s1 rfl fun r h2 s2=>?_
  · intro e he
    refine ⟨_,_,_,rfl,enter_hist_Order_c1,fun h s3=>?_⟩
    exact (ct_hist_Order_c1 e h).mono fun v h' ⟨r,hv,hr,hh⟩=>⟨r,hv,hr,by rw [hh]; exact s3⟩
  · have s3:=dB s2
    have hpl:=Hist.placesFrom_len (fun e=>decide (e.fEffect > 0)) es 0
    refine cN [0,0,0] (sp_SortStable20 r _ [vE s es,blk b1 eK [sv s]] (Hist.eff es) (fun x=>0 ≤ x∧x < es.length) ?_ (Hist.effs es) (fun x hx=>Hist.places_in hx) (by unfold Hist.effs Hist.places; omega)) s3 rfl fun u h4 s4=>?_
    · rintro x y ⟨hx0,hx⟩ ⟨hy0,hy⟩
      refine ⟨_,_,_,rfl,enter_hist_Order_c2,fun h s5=>?_⟩
      obtain ⟨n,rfl⟩:=Int.eq_ofNat_of_zero_le hx0
      obtain ⟨m,rfl⟩:=Int.eq_ofNat_of_zero_le hy0
      have hn:n < es.length:=by omega
      have hm:m < es.length:=by omega
      refine sim_hist_Order_c2 n m b1 ?_
      unfold vi
      refine bk s s5 (i:=1) rfl rfl rfl ?_
      refine dy s5 (j:=0) rfl (by omega) (by omega) fun q hq=>?_
      refine eu (j:=0) (i:=n) (k:=8) es[n].fEffect mv s5 rfl hq rfl (aF hn) (c1 rfl rfl) ?_
      refine bk s s5 (i:=1) rfl rfl rfl ?_
      refine dy s5 (j:=0) rfl (by omega) (by omega) fun q2 hq2=>?_
      refine eu (j:=0) (i:=m) (k:=8) es[m].fEffect mv s5 rfl hq2 rfl (aF hm) (c1 rfl rfl) ?_
      refine aW ?_ s5
      rw [cmp_neg,Hist.eff_nat (aF hn),Hist.eff_nat (aF hm)]
    · obtain ⟨g1,g2,d,rfl,⟨m',⟨p1,p2⟩,s5⟩,s6⟩:=s4
      rw [Hist.order_of ha p1 p2] at s5
      exact sj (nz (l:=[vI r (Hist.order es),vE s es]) s5) d
theorem sp_hist_May (s:Sl) (es:List bj) (z:fK) (hb:es.length < 2 ^ 38):Sp Tryz.prog wX [sv s,.agg z.C.toArray] aB [vE s es] (fun r=>pa_ (r = Hist.may es z) [vE s es]):=by
  intro h s0
  have hl:=(ch (j:=0) s0 rfl).1
  refine sim_hist_May _ _ ?_
  unfold sh_hist_May
  refine makeMap_m (τ:=Bool) (val:=fun x=>.bool x) rfl s0 fun b1 h1 s1=>?_
  refine makeMap_m (τ:=Int) (val:=fun x=>.int .i64 x) rfl s1 fun b2 h2 s2=>?_
  refine Lp.intro (fun (y:Int × Int) h=>∃ (n:Nat) (seen:List Int) (ends:List (Int × Int)),y.2 = n∧n ≤ es.length∧Hist.mayFrom z (es.drop n) y.1 seen ends = Hist.may es z∧aG [mapA b2 (fun x=>Value.int .i64 x) (Hist.endOf ends),mapA b1 (fun x=>Value.bool x) (fun x=>if x ∈ seen then some true else none),vE s es] h) (fun (y:Int × Int) _=>es.length - y.2.toNat) ⟨0,[],[],rfl,Nat.zero_le _,rfl,?_⟩ ?_
  · have e1:(fun x:Int=>if x ∈ ([]:List Int) then some true else none) = fun _=>none:=by funext x; simp
    have e2:Hist.endOf [] = fun _=>none:=by funext x; rfl
    rw [e1,e2]; exact s2
  rintro ⟨last,i⟩ h ⟨n,seen,ends,rfl,hn,he,s3⟩
  unfold hist_May_l1
  simp only at he ⊢
  refine aX (fun k=>?_) (fun k=>?_)
  · have hlt:n < es.length:=by rw [hl] at k; simpa using k
    have hw:IntKind.i64.wrap ((n:Int) + 1) = ((n + 1:Nat):Int):=by rw [bN (by omega) (by omega)]; rfl
    rw [List.drop_eq_getElem_cons hlt,Hist.mayFrom] at he
    refine dy s3 (j:=2) rfl (by omega) (by omega) fun q hq=>?_
    refine eu (j:=2) (i:=n) (k:=0) es[n] mv s3 rfl hq rfl (aF hlt) (by simp) ?_
    have rest:¬ (eD es[n] z last = false∨(es[n].fEffect > 0∧es[n].fEffect ∈ seen))→∀ K:(Int × Int)→Hp→Prop,
        (∀ (s':Int × Int) h',s'.1 = es[n].fBegin∧s'.2 = ((n + 1:Nat):Int)→Hist.stops ends es[n] = false→aG [mapA b2 (fun x=>Value.int .i64 x) (Hist.endOf ((es[n].fCore,es[n].fEnd)::ends)),mapA b1 (fun x=>Value.bool x) (fun x=>if x ∈ es[n].fEffect::seen then some true else none),vE s es] h'→K s' h') →
        hpv Tryz.prog (Instr.lookup gQ (.map (some b2)) (.int .i64 es[n].fCore) true) bK (fun (v40:Int × Bool) =>
          br (v40.2 && ((decide (v40.1 ≤ 0)) || (decide (es[n].fBegin ≤ v40.1)))) (pa_ (false = Hist.may es z) [vE s es]) (
          hpu Tryz.prog (Instr.mapUpdate jr (.map (some b1)) (.int .i64 es[n].fEffect) (.bool true)) <|
          hpu Tryz.prog (Instr.mapUpdate gQ (.map (some b2)) (.int .i64 es[n].fCore) (.int .i64 es[n].fEnd)) <|
          K (es[n].fBegin,((n + 1:Nat):Int)))) h:=by
      intro hno K hK
      rw [if_neg hno] at he
      refine lookup_m (j:=0) mp_map_int_int s3 rfl ((Hist.endOf ends es[n].fCore).getD 0,(Hist.endOf ends es[n].fCore).isSome) ?_ ?_
      · rw [if_pos rfl]; unfold bK
        cases Hist.endOf ends es[n].fCore <;> rfl
      · have hst:((Hist.endOf ends es[n].fCore).isSome && ((decide ((Hist.endOf ends es[n].fCore).getD 0 ≤ 0)) || (decide (es[n].fBegin ≤ (Hist.endOf ends es[n].fCore).getD 0)))) = Hist.stops ends es[n]:=by
          unfold Hist.stops
          cases Hist.endOf ends es[n].fCore <;> simp
        show br ((Hist.endOf ends es[n].fCore).isSome && ((decide ((Hist.endOf ends es[n].fCore).getD 0 ≤ 0)) || (decide (es[n].fBegin ≤ (Hist.endOf ends es[n].fCore).getD 0)))) _ _ h
        rw [hst]
        refine aX (fun k2=>?_) (fun k2=>?_)
        · rw [if_pos k2] at he
          exact aW he (bZ (l:=[_,_]) s3)
        · refine update_m (j:=1) (w:=true) mp_map_int_bool s3 rfl rfl fun h4 s4=>?_
          refine update_m (j:=0) (w:=es[n].fEnd) mp_map_int_int s4 rfl rfl fun h5 s5=>?_
          refine hK _ _ ⟨rfl,rfl⟩ k2 ?_
          have e1:(fun y=>if y = es[n].fCore then some es[n].fEnd else Hist.endOf ends y) = Hist.endOf ((es[n].fCore,es[n].fEnd)::ends):=by
            funext y
            unfold Hist.endOf
            by_cases hy:y = es[n].fCore
            · subst hy; simp
            · have:(es[n].fCore == y) = false:=by simpa using fun e=>hy e.symm
              simp [hy,this]
          have e2:(fun y=>if y = es[n].fEffect then some true else if y ∈ seen then some true else none) = fun x=>if x ∈ es[n].fEffect::seen then some true else none:=by
            funext y
            by_cases hy:y = es[n].fEffect <;> simp [hy]
          rw [← e1,← e2]
          exact s5
    have go:¬ (eD es[n] z last = false∨(es[n].fEffect > 0∧es[n].fEffect ∈ seen))→∀ (s':Int × Int) h',s'.1 = es[n].fBegin∧s'.2 = ((n + 1:Nat):Int)→Hist.stops ends es[n] = false→aG [mapA b2 (fun x=>Value.int .i64 x) (Hist.endOf ((es[n].fCore,es[n].fEnd)::ends)),mapA b1 (fun x=>Value.bool x) (fun x=>if x ∈ es[n].fEffect::seen then some true else none),vE s es] h' →
        (∃ (n:Nat) (seen:List Int) (ends:List (Int × Int)),s'.2 = n∧n ≤ es.length∧Hist.mayFrom z (es.drop n) s'.1 seen ends = Hist.may es z∧aG [mapA b2 (fun x=>Value.int .i64 x) (Hist.endOf ends),mapA b1 (fun x=>Value.bool x) (fun x=>if x ∈ seen then some true else none),vE s es] h')∧es.length - s'.2.toNat < es.length - (n:Int).toNat:=by
      rintro hno ⟨u,w⟩ h' ⟨h4,h5⟩ hst s4
      simp only at h4 h5
      subst h4; subst h5
      rw [if_neg hno,if_neg (by rw [hst]; exact Bool.false_ne_true)] at he
      exact ⟨⟨n + 1,_,_,rfl,hlt,he,s4⟩,by simp; omega⟩
    rw [hw]
    refine aX (fun k2=>?_) (fun k2=>?_)
    · rw [Bool.and_eq_true] at k2
      have k1:eD es[n] z last = true:=by simpa using k2.1
      have kp:es[n].fEffect > 0:=by simpa using k2.2
      refine lookup_m (j:=1) mp_map_int_bool s3 rfl (decide (es[n].fEffect ∈ seen)) ?_ ?_
      · rw [if_neg Bool.false_ne_true]; unfold aB
        by_cases hm:es[n].fEffect ∈ seen <;> simp [hm]
      · refine aX (fun k3=>?_) (fun k3=>?_)
        · have hm:es[n].fEffect ∈ seen:=of_decide_eq_true k3
          rw [if_pos (.inr ⟨kp,hm⟩)] at he
          exact aW he (bZ (l:=[_,_]) s3)
        · have hm:es[n].fEffect ∉ seen:=of_decide_eq_false k3
          have hno:¬ (eD es[n] z last = false∨(es[n].fEffect > 0∧es[n].fEffect ∈ seen)):=by simp [k1,hm]
          exact rest hno _ (go hno)
    · refine aX (fun k3=>?_) (fun k3=>?_)
      · have k1:eD es[n] z last = false:=by simpa using k3
        rw [if_pos (.inl k1)] at he
        exact aW he (bZ (l:=[_,_]) s3)
      · have k1:eD es[n] z last = true:=by simpa using k3
        have kp:¬ es[n].fEffect > 0:=by simp [k1] at k2; omega
        have hno:¬ (eD es[n] z last = false∨(es[n].fEffect > 0∧es[n].fEffect ∈ seen)):=by simp [k1]; intro hh; exact absurd hh kp
        exact rest hno _ (go hno)
  · have:n = es.length:=by rw [hl] at k; simp at k; omega
    subst this
    rw [List.drop_length] at he
    exact aW he (bZ (l:=[_,_]) s3)
end Go.Proofs.YtniiiakkdoiaiaaGreatDoor
namespace Go.Proofs.YtniiiakkdoiaiaaGreatDoor
open Go Mb
set_option linter.unusedVariables false
def dN (a2:Int) (a3:Int) (q22:Nat × Nat) (Rec9:(Sl × Int)→Hp→Prop) (s8:Sl × Int) (x49:au) (s22:Bool):Hp→Prop:=br s22 ( ld (q22.1,q22.2 + 4) cP fun x65=>cl Tryz.prog gD [(pv x65)] dJ fun r66=>cl Tryz.prog dx [(pv r66),(.int .i64 x49.fEnv),(.agg (ae.C x49.fCall).toArray)] bg fun r72=>cl Tryz.prog fO [(pv r66),(.int .i64 a2),(.int .i64 a3)] cy fun r77=>hpv Tryz.prog (Instr.buildSlice pM 1 #[(0,(.agg (am.C r77.1).toArray))]) qe fun (v82:Sl)=>hpv Tryz.prog (Builtin.append_ #[pM,pM] pM #[(sv s8.1),(sv v82)]) qe fun (v83:Sl)=>Rec9 (v83,(IntKind.i64.wrap (s8.2 + 1)))) ( Rec9 (s8.1,(IntKind.i64.wrap (s8.2 + 1))))
def kF (a2:Int) (a3:Int) (K:Sl→Hp→Prop) (q22:Nat × Nat) (r37:Sl) (Rec9:(Sl × Int)→Hp→Prop) (s8:Sl × Int):Hp→Prop:=br (decide (s8.2 < (r37.len:Int))) ( ix r37 s8.2 fun q41=>ld (q41.1,q41.2 + Int.toNat s8.2 * 1) (cI .i64) fun x42=>ld (q22.1,q22.2 + 0) cS fun x46=>ix x46 x42 fun q48=>ld (q48.1,q48.2 + Int.toNat x42 * 16) au.C fun x49=>br (((az x49.fCall).1) == 7) ( dN a2 a3 q22 Rec9 s8 x49 (((az x49.fCall).1) == 7)) ( br (((az x49.fCall).1) == 8) ( dN a2 a3 q22 Rec9 s8 x49 (((az x49.fCall).1) == 8)) ( br (((az x49.fCall).1) == 4) ( dN a2 a3 q22 Rec9 s8 x49 (((az x49.fCall).1) == 4)) ( dN a2 a3 q22 Rec9 s8 x49 (((az x49.fCall).1) == 5))))) ( K s8.1)
def px (a0:Ptr) (a1:Int) (a2:Int) (a3:Int) (K:Sl→Hp→Prop):Hp→Prop:=nn a0 fun q22=>ld (q22.1,q22.2 + 4) cP fun x24=>cl Tryz.prog fO [(pv x24),(.int .i64 a2),(.int .i64 a3)] cy fun r27=>hpv Tryz.prog (Instr.buildSlice pM 1 #[(0,(.agg (am.C r27.1).toArray))]) qe fun (v31:Sl)=>ld (q22.1,q22.2 + 0) cS fun x35=>cl Tryz.prog n_hist_Over [(sv x35),(.int .i64 a1)] cz fun r37=>Lp (kF a2 a3 K q22 r37) (v31,0)
theorem wD (a0:Ptr) (a1:Int) (a2:Int) (a3:Int) {K:Sl→Hp→Prop} {h:Hp} (H:px a0 a1 a2 a3 K h):Ct Tryz.prog lv #[(pv a0),(.int .i64 a1),(.int .i64 a2),(.int .i64 a3)] h fun v h'=>∃ r,v = qe r∧K r h':=aw [(pv a0),(.int .i64 a1),(.int .i64 a2),(.int .i64 a3)] Tryz.func163 c c c fun _=>M<|O c<|M<|J c<|bE H fun q22 e1 H2=>p (aI<|aL c<|ap e1)<|p (ad vD c)<|aa<|aV H2 vp c (fun _=>c) c fun x24 H3=>J c<|J c<|aa<|Z H3 en_81 fun r27 _ H4=>J c<|p (aj c c)<|p (aj c c)<|aa<|aK (l:=am.C (⟨0,0,0⟩:am)) fU c c fun b9=>aa<|aO (k:=0) (vs:=am.C r27.1) dO c c c c c c c<|O c<|M<|bh (bB (k:=0) fD c c c c) c<|aa<|aR H4 (bu (vs:=[(.agg (am.C r27.1).toArray)]) c) c fun v31 _ H5=>O c<|ak<|M<|J (aL c<|ap e1)<|p (aI c)<|p (ad fld_168_0 c)<|aa<|aV H5 sc_39 c (fun _=>c) c fun x35 H6=>J c<|aa<|Z H6 en_21 fun r37 _ H7=>p (dz c Tryz.underlying41 c)<|J c<|ac<|ax<|bD (step:=kF a2 a3 K q22 r37) (fun s8=>[(0,(pv a0)),(2,(.int .i64 a2)),(3,(.int .i64 a3)),(11,(sv s8.1)),(37,(sv r37)),(38,(.int .i64 (r37.len:Int))),(39,(.int .i64 s8.2))]) (fun s8=>[]) H7 (.cons c<|.cons c<|.cons c<|.cons c<|.cons c<|.cons c<|.cons c<|.nil _) (.cons _ .slnil) fun Rec9 s8 _ H10=>M<|p (ct c c)<|ac<|ak<|av c H10 (fun k11 H12=>an<|ak<|ax<|M<|cj H12 fun q41 e13 h14 H15=>p (bo hO (aL c<|ba e13) c h14)<|aa<|aV H15 aY c (fun _=>c) c fun x42 H16=>O c<|M<|J (aL c<|ap e1)<|p (aI c)<|p (ad fld_168_0 c)<|aa<|aV H16 sc_39 c (fun _=>c) c fun x46 H17=>J c<|cj H17 fun q48 e18 h19 H20=>p (bo qW (aL c<|ba e18) c h19)<|aa<|gJ H20 ux c (fun _=>c) c fun x49 H21=>aa<|aK (l:=au.C (⟨0,0,(⟨0,0,0,0,0⟩:ae),0,0,0,(⟨0,0⟩:ab),(⟨0,0,0,0⟩:al)⟩:au)) tC c c fun b14=>aa<|aO (k:=0) (vs:=au.C x49) inf_51 c c c c c c c<|ac<|M<|p (ad mN c)<|bh (bB (k:=0) fh c c c c) c<|aa<|cH (vs:=[(.agg (ae.C x49.fCall).toArray)]) (bv<|ka x49.fCall _) en_64 c c<|J c<|p (aj c c)<|p (aj c c)<|p (ar c)<|O c<|M<|J c<|ac<|ax<|eo (dN a2 a3 q22 Rec9 s8 x49) (fun s22=>[(0,(pv a0)),(2,(.int .i64 a2)),(3,(.int .i64 a3)),(11,(sv s8.1)),(14,(.pointer (some ⟨b14,0,none⟩))),(37,(sv r37)),(38,(.int .i64 (r37.len:Int))),(39,(.int .i64 s8.2)),(57,(.bool s22))]) (fun s22=>[bx b14 51 (au.C x49)]) (M<|p (bM c c)<|O c<|av c H21 (fun k32 H33=>an<|cE (((az x49.fCall).1) == 7) H33 (.cons c<|.cons c<|.cons c<|.cons c<|.cons c<|.cons c<|.cons c<|.cons c<|.cons c<|.nil _)<|.cons_cons _ .slnil) fun k32 H33=>M<|p (bM c c)<|O c<|av c H33 (fun k34 H35=>an<|cE (((az x49.fCall).1) == 8) H35 (.cons c<|.cons c<|.cons c<|.cons c<|.cons c<|.cons c<|.cons c<|.cons c<|.cons c<|.nil _)<|.cons_cons _ .slnil) fun k34 H35=>M<|p (bM c c)<|O c<|av c H35 (fun k36 H37=>an<|cE (((az x49.fCall).1) == 4) H37 (.cons c<|.cons c<|.cons c<|.cons c<|.cons c<|.cons c<|.cons c<|.cons c<|.cons c<|.nil _)<|.cons_cons _ .slnil) fun k36 H37=>ao<|p (bM c c)<|O c<|cE (((az x49.fCall).1) == 5) H37 (.cons c<|.cons c<|.cons c<|.cons c<|.cons c<|.cons c<|.cons c<|.cons c<|.cons c<|.nil _)<|.cons_cons _ .slnil) fun s22 _ H23=>av c H23 (fun k24 H25=>M<|J (aL c<|ap e1)<|p (aI c)<|p (ad vD c)<|aa<|aV H25 vp c (fun _=>c) c fun x65 H26=>aa<|Z H26 en_164 fun r66 _ H27=>O c<|M<|J c<|p (ad oO c)<|bh (bf (k:=0) aY c c c) c<|p (ad mN c)<|bh (bB (k:=0) fh c c c c) c<|aa<|Z H27 en_73 fun r72 _ H28=>ac<|M<|J c<|J c<|J c<|aa<|Z H28 en_81 fun r77 _ H29=>J c<|p (aj c c)<|p (aj c c)<|aa<|aK (l:=am.C (⟨0,0,0⟩:am)) fU c c fun b18=>aa<|aO (k:=0) (vs:=am.C r77.1) dO c c c c c c c<|O c<|ao<|J c<|bh (bB (k:=0) fD c c c c) c<|aa<|aR H29 (bu (vs:=[(.agg (am.C r77.1).toArray)]) c) c fun v82 _ H30=>aa<|aR H30 (dE c c) c fun v83 _ H31=>O c<|ao<|p (bp c c)<|J c<|ac<|cK (v83,(IntKind.i64.wrap (s8.2 + 1))) H31 (.cons c<|.cons c<|.cons c<|.cons c<|.cons c<|.cons c<|.cons c<|.nil _)<|.cons _<|.cons _ .slnil) fun k24 H25=>an<|ao<|p (bp c c)<|J c<|ac<|cK (s8.1,(IntKind.i64.wrap (s8.2 + 1))) H25 (.cons c<|.cons c<|.cons c<|.cons c<|.cons c<|.cons c<|.cons c<|.nil _)<|.cons _ .slnil) fun k11 H12=>bi<|M<|J c<|O c<|ai<|Y ⟨s8.1,c,H12⟩
def kG (a1:au) (K:Bool→Hp→Prop) (q18:Nat × Nat) (r50:Sl) (Rec13:(Bool × Bool × Int)→Hp→Prop) (s12:Bool × Bool × Int):Hp→Prop:=br (decide (s12.2.2 < (r50.len:Int))) ( ix r50 s12.2.2 fun q54=>ld (q54.1,q54.2 + Int.toNat s12.2.2 * 3) am.C fun x55=>Rec13 ((s12.1 || (!(cr x55.fRights (IntKind.i64.wrap a1.fCall.e0)))),(s12.2.1 || ((x55.fFrame == a1.fLine.fFrame) && (aP a1.fLine.fRights x55.fRights))),(IntKind.i64.wrap (s12.2.2 + 1)))) ( br (a1.fAnswer.fErr == 7) ( K ((s12.1 && (a1.fAnswer.fVal == 0)) && (al.eqb a1.fLine (⟨0,0,0,0⟩:al)))) ( ld (q18.1,q18.2 + 4) cP fun x103=>cl Tryz.prog gD [(pv x103)] dJ fun r104=>cl Tryz.prog eU [(pv r104),(.int .i64 a1.fLine.fFrame),(.agg (ae.C a1.fCall).toArray)] bg fun r110=>K (((s12.2.1 && (((a1.fLine.fEnv == a1.fEnv) && (a1.fLine.fPage == (IntKind.i64.wrap a1.fCall.e1))) && (cr a1.fLine.fRights (IntKind.i64.wrap a1.fCall.e0)))) && r110.2) && (ab.eqb r110.1 a1.fAnswer))))
def py (a0:Ptr) (a1:au) (K:Bool→Hp→Prop):Hp→Prop:=nn a0 fun q18=>ld (q18.1,q18.2 + 1 + 1) (cI .i64) fun x21=>cl Tryz.prog gM [(.agg (ae.C a1.fCall).toArray),(.int .i64 x21)] bc fun r22=>br (r22 != 0) ( K ((ab.eqb a1.fAnswer (⟨r22,0⟩:ab)) && (al.eqb a1.fLine (⟨0,0,0,0⟩:al)))) ( cl Tryz.prog lv [(.pointer (some ⟨q18.1,q18.2,none⟩)),(.int .i64 a1.fEffect),(.int .i64 a1.fEnv),(.int .i64 (IntKind.i64.wrap a1.fCall.e1))] qe fun r50=>Lp (kG a1 K q18 r50) (false,false,0))
theorem wE (a0:Ptr) (a1:au) {K:Bool→Hp→Prop} {h:Hp} (H:py a0 a1 K h):Ct Tryz.prog lw #[(pv a0),(.agg (au.C a1).toArray)] h fun v h'=>∃ r,v = aB r∧K r h':=aw [(pv a0),(.agg (au.C a1).toArray)] Tryz.func121 c c c fun _=>M<|aa<|cJ (l:=au.C a1) c c c fun b3=>O c<|ak<|ak<|bm (n:=9) [bx b3 51 (au.C a1)] ck c (.cons_cons _ .slnil)<|U 0 c (ad mN c)<|z_E 1 c (dZ (k:=0) fh c c c c)<|U 2 c (ah c)<|gN H fun q18 e1 H2=>U 3 c (aI<|aL c<|ap e1)<|U 4 c (ad fld_168_1 c)<|U 5 c (ad mP c)<|bF (i:=6) (fun _ _ _ _ hh=>hh) H2 c (by kernel_rfl) aY c (fun _=>c) c fun x21 H3=>G 7 c<|Z H3 en_95 fun r22 _ H4=>⟨.cons_cons _ .slnil,U 8 c (ar c)<|aU (by kernel_rfl)<|M<|J c<|p (pF c c)<|ac<|av c H4 (fun k5 H6=>M<|p (ad km c)<|bh (bB (k:=0) cA c c c c) c<|J c<|p (aZ c<|ji r22)<|p (v_eqA eqg_47 (eqr_47 9998 _ _) c c)<|J c<|V c c (ay _) (fun g7=>wv<|ad gc c)<|V c c (ay _) (fun g8=>cv<|bB (k:=0) gV (aD c g8) c c c)<|V c c (ay _) (fun g9=>wv<|aZ (vs:=[]) c lD)<|V c c (ay _) (fun g10=>wv<|v_eqA eqg_49 (eqr_49 9998 _ _) (aD c g10)<|aD c g10)<|p (bP c c)<|O c<|ai<|Y ⟨((ab.eqb a1.fAnswer (⟨r22,0⟩:ab)) && (al.eqb a1.fLine (⟨0,0,0,0⟩:al))),c,H6⟩) fun k5 H6=>an<|ak<|bm (n:=10) [bx b3 51 (au.C a1)] ck c (.cons_cons _ .slnil)<|U 0 c (ad mN c)<|U 1 c (bz de c c (by decide))<|z_E 2 c (dh (k:=0) cu c c c)<|U 3 c (dT ⟨_,Tryz.underlying25⟩ Tryz.underlying3 c)<|U 4 c (ad mN c)<|U 5 c (bz de c c (by decide))<|z_E 6 c (dh (k:=0) cu c c c)<|U 7 c (dT ⟨_,Tryz.underlying25⟩ Tryz.underlying3 c)<|U 8 c (ar c)<|U 9 c (ar c)<|aU (by kernel_rfl)<|M<|p (ar c)<|O c<|ak<|M<|J (aL c<|ap e1)<|p (ad iX c)<|bh (bf (k:=0) aY c c c) c<|p (ad oO c)<|bh (bf (k:=0) aY c c c) c<|J c<|aa<|Z H6 en_163 fun r50 _ H11=>p (dz c Tryz.underlying211 c)<|J c<|ac<|ax<|bD (step:=kG a1 K q18 r50) (fun s12=>[(0,(pv a0)),(3,(.pointer (some ⟨b3,0,none⟩))),(6,(.int .i64 (IntKind.i64.wrap a1.fCall.e1))),(7,(.int .i64 (IntKind.i64.wrap a1.fCall.e0))),(8,(.bool s12.1)),(9,(.bool s12.2.1)),(50,(sv r50)),(51,(.int .i64 (r50.len:Int))),(52,(.int .i64 s12.2.2))]) (fun s12=>[bx b3 51 (au.C a1)]) H11 (.cons c<|.cons c<|.cons c<|.cons c<|.cons c<|.cons c<|.cons c<|.cons c<|.cons c<|.nil _) (.cons_cons _ .slnil) fun Rec13 s12 _ H14=>M<|p (ct c c)<|ac<|ak<|av c H14 (fun k15 H16=>an<|ak<|ax<|M<|cj H16 fun q54 e17 h18 H19=>p (bo slc_211 (aL c<|ba e17) c h18)<|aa<|gJ H19 fD c (fun _=>c) c fun x55 H20=>aa<|aK (l:=am.C (⟨0,0,0⟩:am)) fU c c fun b11=>aa<|aO (k:=0) (vs:=am.C x55) dO c c c c c c c<|ac<|M<|J c<|J c<|V c c (aM _) (fun g21=>wv<|ad eI c)<|V c c (aM _) (fun g22=>cv<|bf (k:=0) aY (aD c g22) c c)<|V c c (aM _) (fun g23=>wv<|ah c)<|cX (vs:=[(.int .i64 x55.fRights),(.int .i64 (IntKind.i64.wrap a1.fCall.e0))]) c c c (aM _) (fun g24=>bv<|jN x55.fRights (IntKind.i64.wrap a1.fCall.e0) _) en_142 (fun g24=>aS (aD c g24)<|aS (aD c g24) bS) c<|V c c (aM _) (fun g25=>wv<|cn<|aD c g25)<|p (dp c c)<|O c<|ao<|J c<|J c<|V c c (aM _) (fun g26=>wv<|ad qN c)<|V c c (aM _) (fun g27=>cv<|bf (k:=0) aY (aD c g27) c c)<|V c c (aM _) (fun g28=>wv<|ad gc c)<|V c c (aM _) (fun g29=>wv<|ad lz<|aD c g29)<|V c c (aM _) (fun g30=>cv<|bf (k:=1) aY (aD c g30) c c)<|V c c (aM _) (fun g31=>wv<|bM (aD c g31)<|aD c g31)<|V c c (aM _) (fun g32=>wv<|ah<|aD c g32)<|V c c (rj _ _) (fun g33=>wv<|ad gc c)<|V c c (rj _ _) (fun g34=>wv<|ad qR<|aD c g34)<|V c c (rj _ _) (fun g35=>cv<|bf (k:=1) aY (aD c g35) c c)<|V c c (rj _ _) (fun g36=>wv<|ad eI c)<|V c c (rj _ _) (fun g37=>cv<|bf (k:=0) aY (aD c g37) c c)<|cX (vs:=[(.int .i64 a1.fLine.fRights),(.int .i64 x55.fRights)]) c c c (rj _ _) (fun g38=>bv<|cZ a1.fLine.fRights x55.fRights _) mw (fun g38=>aS (aD c g38)<|aS (aD c g38) bS) c<|V c c (aM _) (fun g39=>wv<|bP (aD c g39)<|aL c<|xg g39)<|p (dp c c)<|O c<|ao<|p (bp c c)<|J c<|ac<|cK ((s12.1 || (!(cr x55.fRights (IntKind.i64.wrap a1.fCall.e0)))),(s12.2.1 || ((x55.fFrame == a1.fLine.fFrame) && (aP a1.fLine.fRights x55.fRights))),(IntKind.i64.wrap (s12.2.2 + 1))) H20 (.cons c<|.cons c<|.cons c<|.cons c<|.cons c<|.cons c<|.cons c<|.cons c<|.cons c<|.nil _)<|.cons _<|.cons_cons _ .slnil) fun k15 H16=>bi<|ak<|M<|p (ad km c)<|p (ad jB c)<|bh (bf (k:=0) nE c c c) c<|p (bM c c)<|ac<|av c H16 (fun k40 H41=>M<|J c<|J c<|V c c (ay _) (fun g42=>wv<|ad km c)<|V c c (ay _) (fun g43=>wv<|ad fld_47_1<|aD c g43)<|V c c (ay _) (fun g44=>cv<|bf (k:=0) cu (aD c g44) c c)<|V c c (ay _) (fun g45=>wv<|bM (aD c g45) c)<|p (bP c c)<|J c<|V c c (ay _) (fun g46=>wv<|ad gc c)<|V c c (ay _) (fun g47=>cv<|bB (k:=0) gV (aD c g47) c c c)<|V c c (ay _) (fun g48=>wv<|aZ (vs:=[]) c lD)<|V c c (ay _) (fun g49=>wv<|v_eqA eqg_49 (eqr_49 9998 _ _) (aD c g49)<|aD c g49)<|p (bP c c)<|O c<|ai<|Y ⟨((s12.1 && (a1.fAnswer.fVal == 0)) && (al.eqb a1.fLine (⟨0,0,0,0⟩:al))),c,H41⟩) fun k40 H41=>an<|ak<|bm (n:=17) [bx b3 51 (au.C a1)] ck c (.cons_cons _ .slnil)<|U 0 c (ah<|aL c<|ap e1)<|U 1 c (aI c)<|U 2 c (ad vD c)<|U 5 c (ad gc c)<|U 6 c (ad lz c)<|z_E 7 c (dh (k:=0) aY c c c)<|U 8 c (ad mN c)<|z_E 9 c (dZ (k:=0) fh c c c c)<|bF (i:=3) (fun _ _ _ _ hh=>hh) H41 c (by kernel_rfl) vp c (fun _=>c) c fun x103 H50=>jD (i:=4) (j:=14) (by kernel_rfl) (cC c c<|Z H50 en_164 fun r104 _ H52=>⟨.cons_cons _ .slnil,jD (i:=10) (j:=14) (by kernel_rfl) (cC c c<|Z H52 en_99 fun r110 _ H54=>⟨.cons_cons _ .slnil,U 11 c (ah c)<|U 12 c (aj c c)<|U 13 c (aj c c)<|G 14 c<|aK (l:=ab.C (⟨0,0⟩:ab)) cY c c fun b12=>⟨.cons _<|.cons_cons _ .slnil,G 15 c<|aO (k:=0) (vs:=ab.C r110.1) bL c c c c c c c ⟨.cons _<|.cons_cons _ .slnil,U 16 c (ar c)<|aU (by kernel_rfl)<|M<|p (ad gc c)<|p (ad ko c)<|bh (bf (k:=1) aY c c c) c<|p (ad oO c)<|bh (bf (k:=1) aY c c c) c<|p (bM c c)<|J c<|V c c (ay _) (fun g55=>wv<|ad gc c)<|V c c (ay _) (fun g56=>wv<|ad mO<|aD c g56)<|V c c (ay _) (fun g57=>cv<|bf (k:=1) aY (aD c g57) c c)<|V c c (ay _) (fun g58=>wv<|ah c)<|V c c (ay _) (fun g59=>wv<|bM (aD c g59)<|aD c g59)<|p (bP c c)<|J c<|V c c (ay _) (fun g60=>wv<|ad gc c)<|V c c (ay _) (fun g61=>wv<|ad qR<|aD c g61)<|V c c (ay _) (fun g62=>cv<|bf (k:=1) aY (aD c g62) c c)<|V c c (ay _) (fun g63=>wv<|ah c)<|cX (vs:=[(.int .i64 a1.fLine.fRights),(.int .i64 (IntKind.i64.wrap a1.fCall.e0))]) c c c (ay _) (fun g64=>bv<|jN a1.fLine.fRights (IntKind.i64.wrap a1.fCall.e0) _) en_142 (fun g64=>aS (aD c g64)<|aS (aD c g64) bS) c<|p (bP c c)<|O c<|M<|J c<|J c<|V c c (ay _) (fun g65=>wv<|ah c)<|p (bP c c)<|J c<|V c c (ay _) (fun g66=>wv<|ah c)<|p (bP c c)<|J c<|V c c (ay _) (fun g67=>cv<|bB (k:=0) cA c c c c)<|V c c (ay _) (fun g68=>wv<|ad km c)<|V c c (ay _) (fun g69=>cv<|bB (k:=1) cA (aD c g69) c c c)<|V c c (ay _) (fun g70=>wv<|v_eqA eqg_47 (eqr_47 9998 _ _) (aD c g70)<|aD c g70)<|p (bP c c)<|O c<|ai<|Y ⟨(((s12.2.1 && (((a1.fLine.fEnv == a1.fEnv) && (a1.fLine.fPage == (IntKind.i64.wrap a1.fCall.e1))) && (cr a1.fLine.fRights (IntKind.i64.wrap a1.fCall.e0)))) && r110.2) && (ab.eqb r110.1 a1.fAnswer)),c,H54⟩⟩⟩⟩)<|cC c c<|aK (l:=ab.C (⟨0,0⟩:ab)) cY c c fun b12=>⟨.cons _<|.cons_cons _ .slnil,G 10 c<|Z H52 en_99 fun r110 _ H54=>⟨.cons _<|.cons_cons _ .slnil,U 11 c (ah c)<|U 12 c (aj c c)<|U 13 c (aj c c)<|G 15 c<|aO (k:=0) (vs:=ab.C r110.1) bL c c c c c c c ⟨.cons _<|.cons_cons _ .slnil,U 16 c (ar c)<|aU (by kernel_rfl)<|M<|p (ad gc c)<|p (ad ko c)<|bh (bf (k:=1) aY c c c) c<|p (ad oO c)<|bh (bf (k:=1) aY c c c) c<|p (bM c c)<|J c<|V c c (ay _) (fun g55=>wv<|ad gc c)<|V c c (ay _) (fun g56=>wv<|ad mO<|aD c g56)<|V c c (ay _) (fun g57=>cv<|bf (k:=1) aY (aD c g57) c c)<|V c c (ay _) (fun g58=>wv<|ah c)<|V c c (ay _) (fun g59=>wv<|bM (aD c g59)<|aD c g59)<|p (bP c c)<|J c<|V c c (ay _) (fun g60=>wv<|ad gc c)<|V c c (ay _) (fun g61=>wv<|ad qR<|aD c g61)<|V c c (ay _) (fun g62=>cv<|bf (k:=1) aY (aD c g62) c c)<|V c c (ay _) (fun g63=>wv<|ah c)<|cX (vs:=[(.int .i64 a1.fLine.fRights),(.int .i64 (IntKind.i64.wrap a1.fCall.e0))]) c c c (ay _) (fun g64=>bv<|jN a1.fLine.fRights (IntKind.i64.wrap a1.fCall.e0) _) en_142 (fun g64=>aS (aD c g64)<|aS (aD c g64) bS) c<|p (bP c c)<|O c<|M<|J c<|J c<|V c c (ay _) (fun g65=>wv<|ah c)<|p (bP c c)<|J c<|V c c (ay _) (fun g66=>wv<|ah c)<|p (bP c c)<|J c<|V c c (ay _) (fun g67=>cv<|bB (k:=0) cA c c c c)<|V c c (ay _) (fun g68=>wv<|ad km c)<|V c c (ay _) (fun g69=>cv<|bB (k:=1) cA (aD c g69) c c c)<|V c c (ay _) (fun g70=>wv<|v_eqA eqg_47 (eqr_47 9998 _ _) (aD c g70)<|aD c g70)<|p (bP c c)<|O c<|ai<|Y ⟨(((s12.2.1 && (((a1.fLine.fEnv == a1.fEnv) && (a1.fLine.fPage == (IntKind.i64.wrap a1.fCall.e1))) && (cr a1.fLine.fRights (IntKind.i64.wrap a1.fCall.e0)))) && r110.2) && (ab.eqb r110.1 a1.fAnswer)),c,H54⟩⟩⟩⟩⟩)<|cC c c<|aK (l:=ab.C (⟨0,0⟩:ab)) cY c c fun b12=>⟨.cons _<|.cons_cons _ .slnil,G 4 c<|Z H50 en_164 fun r104 _ H52=>⟨.cons _<|.cons_cons _ .slnil,G 10 c<|Z H52 en_99 fun r110 _ H53=>⟨.cons _<|.cons_cons _ .slnil,U 11 c (ah c)<|U 12 c (aj c c)<|U 13 c (aj c c)<|G 15 c<|aO (k:=0) (vs:=ab.C r110.1) bL c c c c c c c ⟨.cons _<|.cons_cons _ .slnil,U 16 c (ar c)<|aU (by kernel_rfl)<|M<|p (ad gc c)<|p (ad ko c)<|bh (bf (k:=1) aY c c c) c<|p (ad oO c)<|bh (bf (k:=1) aY c c c) c<|p (bM c c)<|J c<|V c c (ay _) (fun g54=>wv<|ad gc c)<|V c c (ay _) (fun g55=>wv<|ad mO<|aD c g55)<|V c c (ay _) (fun g56=>cv<|bf (k:=1) aY (aD c g56) c c)<|V c c (ay _) (fun g57=>wv<|ah c)<|V c c (ay _) (fun g58=>wv<|bM (aD c g58)<|aD c g58)<|p (bP c c)<|J c<|V c c (ay _) (fun g59=>wv<|ad gc c)<|V c c (ay _) (fun g60=>wv<|ad qR<|aD c g60)<|V c c (ay _) (fun g61=>cv<|bf (k:=1) aY (aD c g61) c c)<|V c c (ay _) (fun g62=>wv<|ah c)<|cX (vs:=[(.int .i64 a1.fLine.fRights),(.int .i64 (IntKind.i64.wrap a1.fCall.e0))]) c c c (ay _) (fun g63=>bv<|jN a1.fLine.fRights (IntKind.i64.wrap a1.fCall.e0) _) en_142 (fun g63=>aS (aD c g63)<|aS (aD c g63) bS) c<|p (bP c c)<|O c<|M<|J c<|J c<|V c c (ay _) (fun g64=>wv<|ah c)<|p (bP c c)<|J c<|V c c (ay _) (fun g65=>wv<|ah c)<|p (bP c c)<|J c<|V c c (ay _) (fun g66=>cv<|bB (k:=0) cA c c c c)<|V c c (ay _) (fun g67=>wv<|ad km c)<|V c c (ay _) (fun g68=>cv<|bB (k:=1) cA (aD c g68) c c c)<|V c c (ay _) (fun g69=>wv<|v_eqA eqg_47 (eqr_47 9998 _ _) (aD c g69)<|aD c g69)<|p (bP c c)<|O c<|ai<|Y ⟨(((s12.2.1 && (((a1.fLine.fEnv == a1.fEnv) && (a1.fLine.fPage == (IntKind.i64.wrap a1.fCall.e1))) && (cr a1.fLine.fRights (IntKind.i64.wrap a1.fCall.e0)))) && r110.2) && (ab.eqb r110.1 a1.fAnswer)),c,H53⟩⟩⟩⟩⟩⟩
def rA (a0:Ptr) (a1:au) (K:Bool→Hp→Prop):Hp→Prop:=br (a1.fAnswer.fErr == 0) ( nn a0 fun q13=>ld (q13.1,q13.2 + 1 + 1) (cI .i64) fun x16=>cl Tryz.prog gM [(.agg (ae.C a1.fCall).toArray),(.int .i64 x16)] bc fun r17=>br (r17 == 0) ( K (a1.fLine.fRights != 0)) ( K false)) ( K false)
theorem sim_judge_judge_well (a0:Ptr) (a1:au) {K:Bool→Hp→Prop} {h:Hp} (H:rA a0 a1 K h):Ct Tryz.prog nj #[(pv a0),(.agg (au.C a1).toArray)] h fun v h'=>∃ r,v = aB r∧K r h':=aw [(pv a0),(.agg (au.C a1).toArray)] Tryz.func122 c c c fun _=>M<|aa<|cJ (l:=au.C a1) c c c fun b3=>O c<|ak<|bm (n:=22) [bx b3 51 (au.C a1)] ck c (.cons_cons _ .slnil)<|U 0 c (ad km c)<|U 1 c (ad jB c)<|z_E 2 c (dh (k:=0) nE c c c)<|U 3 c (bM c c)<|U 4 c (ah c)<|oQ H (fun k1 H2=>z_n 5 c (D k1) (ve<|ad mN c)<|z_n 6 c (D k1) (dZ (k:=0) fh c c c c)<|z_n 7 c (D k1) (ve<|ah c)<|gN H2 fun q13 e3 H4=>z_n 8 c (D k1) (ve<|aI<|aL c<|ap e3)<|z_n 9 c (D k1) (ve<|ad fld_168_1 c)<|z_n 10 c (D k1) (ve<|ad mP c)<|ma (i:=11) (fun _ _ _ _ hh=>hh) H4 c (by kernel_rfl) c c c (D k1) aY c (fun _=>c) c fun x16 H5=>eva_1 (i:=12) (by kernel_rfl)<|way_on c c c c (D k1)<|Z H5 en_95 fun r17 _ H6=>⟨.cons_cons _ .slnil,z_n 13 c (D k1) (ve<|bM c c)<|U 14 c (aT c k1 c)<|U 15 c (ah c)<|oQ H6 (fun k7 H8=>z_n 16 c (D k7) (ve<|ad gc c)<|z_n 17 c (D k7) (ve<|ad qR c)<|z_n 18 c (D k7) (dh (k:=0) aY c c c)<|z_n 19 c (D k7) (ve<|pF c c)<|U 20 c (aT c k7 c)<|U 21 c (ar c)<|aU (by kernel_rfl)<|ai<|Y ⟨(a1.fLine.fRights != 0),c,H8⟩) fun k7 H8=>I 16 c (aQ k7)<|I 17 c (aQ k7)<|I 18 c (aQ k7)<|I 19 c (aQ k7)<|U 20 c (aq c k7 c)<|U 21 c (ar c)<|aU (by kernel_rfl)<|ai<|Y ⟨false,c,H8⟩⟩) fun k1 H2=>I 5 c (aQ k1)<|I 6 c (aQ k1)<|I 7 c (aQ k1)<|I 8 c (aQ k1)<|I 9 c (aQ k1)<|I 10 c (aQ k1)<|I 11 c (aQ k1)<|I 12 c (aQ k1)<|I 13 c (aQ k1)<|U 14 c (aq c k1 c)<|U 15 c (ah c)<|I 16 c c<|I 17 c c<|I 18 c c<|I 19 c c<|U 20 c (aq c c c)<|U 21 c (ar c)<|aU (by kernel_rfl)<|ai<|Y ⟨false,c,H2⟩
def rW (b25:Nat) (Rec8:Int→Hp→Prop) (s7:Int) (x36:au) (s22:Unit):Hp→Prop:=cl Tryz.prog nj [(.pointer (some ⟨b25,0,none⟩)),(.agg (au.C x36).toArray)] aB fun r49=>br r49 ( ld (b25,4) cP fun x53=>cl Tryz.prog eU [(pv x53),(.int .i64 x36.fLine.fFrame),(.agg (ae.C x36.fCall).toArray)] bg fun r59=>Rec8 (IntKind.i64.wrap (s7 + 1))) ( Rec8 (IntKind.i64.wrap (s7 + 1)))
def rV (K:(Int × Bool)→Hp→Prop) (b25:Nat) (Rec8:Int→Hp→Prop) (s7:Int) (x32:Int) (x36:au) (s29:Bool):Hp→Prop:=br s29 ( K (x32,false)) ( rW b25 Rec8 s7 x36 ())
def xd (a0:Sl) (a2:Bool) (a3:Bool) (K:(Int × Bool)→Hp→Prop) (b25:Nat) (r27:Sl) (Rec8:Int→Hp→Prop) (s7:Int):Hp→Prop:=br (decide (s7 < (r27.len:Int))) ( ix r27 s7 fun q31=>ld (q31.1,q31.2 + Int.toNat s7 * 1) (cI .i64) fun x32=>ix a0 x32 fun q35=>ld (q35.1,q35.2 + Int.toNat x32 * 16) au.C fun x36=>br (fq x36) ( br a3 ( cl Tryz.prog lw [(.pointer (some ⟨b25,0,none⟩)),(.agg (au.C x36).toArray)] aB fun r43=>rV K b25 Rec8 s7 x32 x36 (!r43)) ( rV K b25 Rec8 s7 x32 x36 false)) ( ld (b25,4) cP fun x64=>cl Tryz.prog dx [(pv x64),(.int .i64 x36.fEnv),(.agg (ae.C x36.fCall).toArray)] bg fun r69=>br (a2 && ((!r69.2) || (!(ab.eqb r69.1 x36.fAnswer)))) ( K (x32,false)) ( Rec8 (IntKind.i64.wrap (s7 + 1))))) ( K ((-1),true))
def sh_judge_run (a0:Sl) (a1:aC) (a2:Bool) (a3:Bool) (K:(Int × Bool)→Hp→Prop):Hp→Prop:=cl Tryz.prog wX [(sv a0),(.agg (aC.C a1).toArray)] aB fun r18=>br (!r18) ( K ((-1),false)) ( cl Tryz.prog nF [(.agg (aC.C a1).toArray)] dJ fun r23=>nw di (ky.C (⟨a0,a1,r23⟩:ky)) fun b25=>cl Tryz.prog oJ [(sv a0)] cz fun r27=>Lp (xd a0 a2 a3 K b25 r27) 0)
theorem sim_judge_run (a0:Sl) (a1:aC) (a2:Bool) (a3:Bool) {K:(Int × Bool)→Hp→Prop} {h:Hp} (H:sh_judge_run a0 a1 a2 a3 K h):Ct Tryz.prog uk #[(sv a0),(.agg (aC.C a1).toArray),(.bool a2),(.bool a3)] h fun v h'=>∃ r,v = bK r∧K r h':=aw [(sv a0),(.agg (aC.C a1).toArray),(.bool a2),(.bool a3)] Tryz.func82 c c c fun _=>M<|aa<|cJ (l:=aC.C a1) c c c fun b5=>p (ar c)<|O c<|ak<|M<|J c<|bh (bB (k:=0) pD c c c c) c<|aa<|Z H en_19 fun r18 _ H1=>p (cn c)<|ac<|av c H1 (fun k2 H3=>M<|p (ar c)<|O c<|ai<|bw (bR c (bY c)<|bY c) ⟨((-1),false),c,H3⟩) fun k2 H3=>an<|ak<|bm (n:=7) [bx b5 35 (aC.C a1)] ck c (.cons_cons _ .slnil)<|U 0 c (ah c)<|z_E 1 c (dZ (k:=0) pD c c c c)<|z_E 2 c (dZ (k:=0) pD c c c c)<|G 3 c<|Z H3 en_60 fun r23 _ H4=>⟨.cons_cons _ .slnil,U 4 c (aZ c<|build_168_0_1_2 a0 a1 r23)<|G 5 c<|hG c c c H4 fun b25 _ H5=>⟨.cons_cons _ .slnil,U 6 c (ar c)<|aU (by kernel_rfl)<|ak<|M<|J c<|aa<|Z H5 en_26 fun r27 _ H6=>p (dz c Tryz.underlying41 c)<|J c<|ac<|ax<|bD (step:=xd a0 a2 a3 K b25 r27) (fun s7=>[(0,(sv a0)),(2,(.bool a2)),(3,(.bool a3)),(10,(.pointer (some ⟨b25,0,none⟩))),(27,(sv r27)),(28,(.int .i64 (r27.len:Int))),(29,(.int .i64 s7))]) (fun s7=>[]) H6 (.cons c<|.cons c<|.cons c<|.cons c<|.cons c<|.cons c<|.cons c<|.nil _) (.cons _ .slnil) fun Rec8 s7 _ H9=>M<|p (ct c c)<|ac<|ak<|av c H9 (fun k10 H11=>an<|ak<|ax<|M<|cj H11 fun q31 e12 h13 H14=>p (bo hO (aL c<|ba e12) c h13)<|aa<|aV H14 aY c (fun _=>c) c fun x32 H15=>O c<|M<|J c<|J c<|cj H15 fun q35 e16 h17 H18=>p (bo qW (aL c<|ba e16) c h17)<|aa<|gJ H18 ux c (fun _=>c) c fun x36 H19=>aa<|aK (l:=au.C (⟨0,0,(⟨0,0,0,0,0⟩:ae),0,0,0,(⟨0,0⟩:ab),(⟨0,0,0,0⟩:al)⟩:au)) tC c c fun b13=>aa<|aO (k:=0) (vs:=au.C x36) inf_51 c c c c c c c<|ac<|ak<|M<|bh (bB (k:=0) ux c c c c) c<|aa<|cH (vs:=[(.agg (au.C x36).toArray)]) (bv<|ct_judge_user x36 _) en_120 c c<|ac<|av c H19 (fun k20 H21=>eo (rW b25 Rec8 s7 x36) (fun s22=>[(0,(sv a0)),(2,(.bool a2)),(3,(.bool a3)),(10,(.pointer (some ⟨b25,0,none⟩))),(13,(.pointer (some ⟨b13,0,none⟩))),(27,(sv r27)),(28,(.int .i64 (r27.len:Int))),(29,(.int .i64 s7))]) (fun s22=>[bx b13 51 (au.C x36)]) (eo (rV K b25 Rec8 s7 x32 x36) (fun s29=>[(0,(sv a0)),(2,(.bool a2)),(3,(.bool a3)),(10,(.pointer (some ⟨b25,0,none⟩))),(12,(.int .i64 x32)),(13,(.pointer (some ⟨b13,0,none⟩))),(27,(sv r27)),(28,(.int .i64 (r27.len:Int))),(29,(.int .i64 s7)),(45,(.bool s29))]) (fun s29=>[bx b13 51 (au.C x36)]) (ao<|J c<|J c<|V c c (ay _) (fun g33=>wv<|ah c)<|V c c (ay _) (fun g34=>cv<|bB (k:=0) ux c c c c)<|bT H21 (fun k36 H37=>F (D k36)<|gj H37 en_121 (aS (aD c k36)<|aS (aD c k36) bS) c fun r43 _ H38=>F (D k36)<|R (cn c)<|p (aT c k36 c)<|ac<|cE (!r43) H38 (.cons c<|.cons c<|.cons c<|.cons c<|.cons c<|.cons c<|.cons c<|.cons c<|.cons c<|.cons c<|.nil _)<|.cons_cons _ .slnil) fun k36 H37=>W (aQ k36)<|W (aQ k36)<|p (aq c k36 c)<|ac<|cE false H37 (.cons c<|.cons c<|.cons c<|.cons c<|.cons c<|.cons c<|.cons c<|.cons c<|.cons c<|.cons c<|.nil _)<|.cons_cons _ .slnil) fun s29 _ H30=>av c H30 (fun k31 H32=>M<|J c<|p (ar c)<|O c<|ai<|bw (bR c (bY c)<|bY c) ⟨(x32,false),c,H32⟩) fun k31 H32=>an<|cE () H32 (.cons c<|.cons c<|.cons c<|.cons c<|.cons c<|.cons c<|.cons c<|.cons c<|.nil _)<|.cons_cons _ .slnil) fun s22 _ H23=>ak<|M<|J c<|bh (bB (k:=0) ux c c c c) c<|aa<|Z H23 en_122 fun r49 _ H24=>ac<|av c H24 (fun k25 H26=>bm (n:=10) [bx b13 51 (au.C x36)] ck c (.cons_cons _ .slnil)<|U 0 c (ah c)<|U 1 c (aI c)<|U 2 c (ad vD c)<|U 4 c (ad gc c)<|U 5 c (ad lz c)<|z_E 6 c (dh (k:=0) aY c c c)<|U 7 c (ad mN c)<|z_E 8 c (dZ (k:=0) fh c c c c)<|bF (i:=3) (fun _ _ _ _ hh=>hh) H26 c (by kernel_rfl) vp c (fun _=>c) c fun x53 H27=>G 9 c<|Z H27 en_99 fun r59 _ H28=>⟨.cons_cons _ .slnil,aU (by kernel_rfl)<|bi<|ao<|p (bp c c)<|J c<|ac<|cK (IntKind.i64.wrap (s7 + 1)) H28 (.cons c<|.cons c<|.cons c<|.cons c<|.cons c<|.cons c<|.cons c<|.nil _)<|.cons _ .slnil⟩) fun k25 H26=>an<|bi<|ao<|p (bp c c)<|J c<|ac<|cK (IntKind.i64.wrap (s7 + 1)) H26 (.cons c<|.cons c<|.cons c<|.cons c<|.cons c<|.cons c<|.cons c<|.nil _)<|.cons _ .slnil) fun k20 H21=>an<|ak<|bm (n:=15) [bx b13 51 (au.C x36)] ck c (.cons_cons _ .slnil)<|U 0 c (ah c)<|U 1 c (aI c)<|U 2 c (ad vD c)<|U 4 c (ad oO c)<|z_E 5 c (dh (k:=0) aY c c c)<|U 6 c (ad mN c)<|z_E 7 c (dZ (k:=0) fh c c c c)<|bF (i:=3) (fun _ _ _ _ hh=>hh) H21 c (by kernel_rfl) vp c (fun _=>c) c fun x64 H39=>jD (i:=8) (j:=12) (by kernel_rfl) (cC c c<|Z H39 en_73 fun r69 _ H41=>⟨.cons_cons _ .slnil,U 9 c (ah c)<|U 10 c (aj c c)<|U 11 c (aj c c)<|G 12 c<|aK (l:=ab.C (⟨0,0⟩:ab)) cY c c fun b14=>⟨.cons _<|.cons_cons _ .slnil,G 13 c<|aO (k:=0) (vs:=ab.C r69.1) bL c c c c c c c ⟨.cons _<|.cons_cons _ .slnil,U 14 c (ar c)<|aU (by kernel_rfl)<|M<|J c<|J c<|V c c (ay _) (fun g42=>wv<|ah c)<|V c c (ay _) (fun g43=>wv<|cn<|aD c g43)<|V c c (ay _) (fun g44=>wv<|ah<|aD c g44)<|V c c (dR _ _) (fun g45=>cv<|bB (k:=0) cA c c c c)<|V c c (dR _ _) (fun g46=>wv<|ad km c)<|V c c (dR _ _) (fun g47=>cv<|bB (k:=1) cA (aD c g47) c c c)<|V c c (dR _ _) (fun g48=>wv<|v_neA eqg_47 (eqr_47 9998 _ _) (aD c g48)<|aD c g48)<|V c c (ay _) (fun g49=>wv<|dp (aD c g49)<|aL c<|xg g49)<|p (bP c c)<|ac<|av c H41 (fun k50 H51=>M<|J c<|p (ar c)<|O c<|ai<|bw (bR c (bY c)<|bY c) ⟨(x32,false),c,H51⟩) fun k50 H51=>an<|ao<|p (bp c c)<|J c<|ac<|cK (IntKind.i64.wrap (s7 + 1)) H51 (.cons c<|.cons c<|.cons c<|.cons c<|.cons c<|.cons c<|.cons c<|.nil _)<|.cons _<|.cons _ .slnil⟩⟩⟩)<|cC c c<|aK (l:=ab.C (⟨0,0⟩:ab)) cY c c fun b14=>⟨.cons _<|.cons_cons _ .slnil,G 8 c<|Z H39 en_73 fun r69 _ H41=>⟨.cons _<|.cons_cons _ .slnil,U 9 c (ah c)<|U 10 c (aj c c)<|U 11 c (aj c c)<|G 13 c<|aO (k:=0) (vs:=ab.C r69.1) bL c c c c c c c ⟨.cons _<|.cons_cons _ .slnil,U 14 c (ar c)<|aU (by kernel_rfl)<|M<|J c<|J c<|V c c (ay _) (fun g42=>wv<|ah c)<|V c c (ay _) (fun g43=>wv<|cn<|aD c g43)<|V c c (ay _) (fun g44=>wv<|ah<|aD c g44)<|V c c (dR _ _) (fun g45=>cv<|bB (k:=0) cA c c c c)<|V c c (dR _ _) (fun g46=>wv<|ad km c)<|V c c (dR _ _) (fun g47=>cv<|bB (k:=1) cA (aD c g47) c c c)<|V c c (dR _ _) (fun g48=>wv<|v_neA eqg_47 (eqr_47 9998 _ _) (aD c g48)<|aD c g48)<|V c c (ay _) (fun g49=>wv<|dp (aD c g49)<|aL c<|xg g49)<|p (bP c c)<|ac<|av c H41 (fun k50 H51=>M<|J c<|p (ar c)<|O c<|ai<|bw (bR c (bY c)<|bY c) ⟨(x32,false),c,H51⟩) fun k50 H51=>an<|ao<|p (bp c c)<|J c<|ac<|cK (IntKind.i64.wrap (s7 + 1)) H51 (.cons c<|.cons c<|.cons c<|.cons c<|.cons c<|.cons c<|.cons c<|.nil _)<|.cons _<|.cons _ .slnil⟩⟩⟩) fun k10 H11=>bi<|M<|p (ar c)<|O c<|ai<|bw (bR c (bY c)<|bY c) ⟨((-1),true),c,H11⟩⟩⟩
def sh_judge_Linear (a0:Sl) (a1:aC) (K:(Int × Bool)→Hp→Prop):Hp→Prop:=cl Tryz.prog uk [(sv a0),(.agg (aC.C a1).toArray),(.bool true),(.bool false)] bK fun r8=>K (r8.1,r8.2)
theorem sim_judge_Linear (a0:Sl) (a1:aC) {K:(Int × Bool)→Hp→Prop} {h:Hp} (H:sh_judge_Linear a0 a1 K h):Ct Tryz.prog oH #[(sv a0),(.agg (aC.C a1).toArray)] h fun v h'=>∃ r,v = bK r∧K r h':=aw [(sv a0),(.agg (aC.C a1).toArray)] Tryz.func44 c c c fun _=>M<|aa<|cJ (l:=aC.C a1) c c c fun b3=>p (ar c)<|O c<|M<|J c<|bh (bB (k:=0) pD c c c c) c<|aa<|Z H en_82 fun r8 _ H1=>p (aj c c)<|p (aj c c)<|p (ar c)<|O c<|ai<|bw (bR c (bY c)<|bY c) ⟨(r8.1,r8.2),c,H1⟩
def sh_judge_Access (a0:Sl) (a1:aC) (K:(Int × Bool)→Hp→Prop):Hp→Prop:=cl Tryz.prog uk [(sv a0),(.agg (aC.C a1).toArray),(.bool false),(.bool true)] bK fun r8=>K (r8.1,r8.2)
theorem sim_judge_Access (a0:Sl) (a1:aC) {K:(Int × Bool)→Hp→Prop} {h:Hp} (H:sh_judge_Access a0 a1 K h):Ct Tryz.prog oI #[(sv a0),(.agg (aC.C a1).toArray)] h fun v h'=>∃ r,v = bK r∧K r h':=aw [(sv a0),(.agg (aC.C a1).toArray)] Tryz.func49 c c c fun _=>M<|aa<|cJ (l:=aC.C a1) c c c fun b3=>p (ar c)<|O c<|M<|J c<|bh (bB (k:=0) pD c c c c) c<|aa<|Z H en_82 fun r8 _ H1=>p (aj c c)<|p (aj c c)<|p (ar c)<|O c<|ai<|bw (bR c (bY c)<|bY c) ⟨(r8.1,r8.2),c,H1⟩
def sh_judge_Right (a0:Sl) (a1:aC) (K:Bool→Hp→Prop):Hp→Prop:=cl Tryz.prog oH [(sv a0),(.agg (aC.C a1).toArray)] bK fun r12=>cl Tryz.prog oI [(sv a0),(.agg (aC.C a1).toArray)] bK fun r18=>K (r12.2 && r18.2)
theorem sim_judge_Right (a0:Sl) (a1:aC) {K:Bool→Hp→Prop} {h:Hp} (H:sh_judge_Right a0 a1 K h):Ct Tryz.prog qh #[(sv a0),(.agg (aC.C a1).toArray)] h fun v h'=>∃ r,v = aB r∧K r h':=aw [(sv a0),(.agg (aC.C a1).toArray)] Tryz.func41 c c c fun _=>M<|aa<|cJ (l:=aC.C a1) c c c fun b3=>O c<|M<|J c<|bh (bB (k:=0) pD c c c c) c<|aa<|Z H en_44 fun r12 _ H1=>J c<|p (aj c c)<|p (aj c c)<|p (ar c)<|O c<|M<|J c<|bh (bB (k:=0) pD c c c c) c<|aa<|Z H1 en_49 fun r18 _ H2=>J c<|p (aj c c)<|p (aj c c)<|p (ar c)<|O c<|M<|J c<|J c<|V c c (ay _) (fun g3=>wv<|ah c)<|p (bP c c)<|O c<|ai<|Y ⟨(r12.2 && r18.2),c,H2⟩
end Go.Proofs.YtniiiakkdoiaiaaGreatDoor
namespace Go.Proofs.YtniiiakkdoiaiaaGreatDoor
open Go Mb
abbrev vG (s:Sl) (xs:List Pte):As:=vec t_api_Pte 3 am.C s xs
theorem pte_one (p:Pte):dG p.C = true:=rfl
namespace Judge
def ev (es:List bj) (i:Int):bj:=es.getD i.toNat Hist.ev00
def takes (e:bj):Bool:=(az e.fCall).1 == 7 || (az e.fCall).1 == 8 || (az e.fCall).1 == 4 || (az e.fCall).1 == 5
def othersFrom (k:PK) (es:List bj) (env pg:Int):List Int→List Pte
  | []=>[]
  | i::l=>if takes (ev es i) = true then (PK.pte (PK.do_ k (ev es i).fEnv (ev es i).fCall).2 env pg).1::othersFrom k es env pg l else othersFrom k es env pg l
def others (k:PK) (es:List bj) (at_ env pg:Int):List Pte:=(PK.pte k env pg).1::othersFrom k es env pg (Hist.over es at_)
def faults (e:bj) (l:List Pte):Bool:=l.any fun p=>!(cr p.fRights (IntKind.i64.wrap e.fCall.e0))
def goes (e:bj) (l:List Pte):Bool:=l.any fun p=>(p.fFrame == e.fLine.fFrame) && (aP e.fLine.fRights p.fRights)
def own (e:bj):Bool:=((e.fLine.fEnv == e.fEnv) && (e.fLine.fPage == (IntKind.i64.wrap e.fCall.e1))) && (cr e.fLine.fRights (IntKind.i64.wrap e.fCall.e0))
def access (k:PK) (es:List bj) (s:fK) (e:bj):Bool :=
  if Word.check e.fCall s.fEnvs ≠ 0 then (ab.eqb e.fAnswer ⟨Word.check e.fCall s.fEnvs,0⟩) && (al.eqb e.fLine ii)
  else if e.fAnswer.fErr = 7 then (faults e (others k es e.fEffect e.fEnv (IntKind.i64.wrap e.fCall.e1)) && (e.fAnswer.fVal == 0)) && (al.eqb e.fLine ii)
  else ((goes e (others k es e.fEffect e.fEnv (IntKind.i64.wrap e.fCall.e1)) && own e) && (PK.touch k e.fLine.fFrame e.fCall).1.2) && (ab.eqb (PK.touch k e.fLine.fFrame e.fCall).1.1 e.fAnswer)
def well (s:fK) (e:bj):Bool:=(e.fAnswer.fErr == 0) && (Word.check e.fCall s.fEnvs == 0) && (e.fLine.fRights != 0)
def runFrom (es:List bj) (s:fK) (lin acc:Bool):PK→List Int→Int × Bool
  | _,[]=>(-1,true)
  | k,i::l =>
    if fq (ev es i) = true then (if acc = true∧access k es s (ev es i) = false then (i,false) else runFrom es s lin acc (if well s (ev es i) = true then (PK.touch k (ev es i).fLine.fFrame (ev es i).fCall).2 else k) l)
    else if lin = true∧((PK.do_ k (ev es i).fEnv (ev es i).fCall).1.2 = false∨ab.eqb (PK.do_ k (ev es i).fEnv (ev es i).fCall).1.1 (ev es i).fAnswer = false) then (i,false)
    else runFrom es s lin acc (PK.do_ k (ev es i).fEnv (ev es i).fCall).2 l
def run (es:List bj) (s:fK) (lin acc:Bool):Int × Bool:=if Hist.may es s = true then runFrom es s lin acc (PK.new s) (Hist.order es) else (-1,false)
def linear (es:List bj) (s:fK):Int × Bool:=run es s true false
def accesses (es:List bj) (s:fK):Int × Bool:=run es s false true
def right (es:List bj) (s:fK):Bool:=(linear es s).2 && (accesses es s).2
theorem ev_nat {es:List bj} {n:Nat} (h:n < es.length):ev es n = es[n]:=by simp [ev,h]
theorem othersFrom_app (k:PK) (es:List bj) (env pg:Int) (i:Int):∀ l,othersFrom k es env pg (l++[i]) = othersFrom k es env pg l++(if takes (ev es i) = true then [(PK.pte (PK.do_ k (ev es i).fEnv (ev es i).fCall).2 env pg).1] else [])
  | []=>by simp only [List.nil_append,othersFrom]
  | j::l=>by
    simp only [List.cons_append,othersFrom,othersFrom_app k es env pg i l]
    split <;> simp
theorem othersFrom_len (k:PK) (es:List bj) (env pg:Int):∀ l,(othersFrom k es env pg l).length ≤ l.length
  | []=>Nat.le_refl _
  | i::l=>by unfold othersFrom; have:=othersFrom_len k es env pg l; split <;> simp <;> omega
end Judge
abbrev jc (s:Sl) (z:fK) (pk:Ptr):List Value:=[sv s,.int .i64 z.fCores,.int .i64 z.fEnvs,.int .i64 z.fFrames,pv pk]
theorem sp_judge_others (jb:Nat) (s:Sl) (z:fK) (pk:Ptr) (es:List bj) (k:PK) (a env pg:Int) (hb:es.length < 2 ^ 38) :
    Sp Tryz.prog lv [pv (some (jb,0)),.int .i64 a,.int .i64 env,.int .i64 pg] qe [blk jb di (jc s z pk),vE s es,bn pk k] (fun r=>aG [vG r (Judge.others k es a env pg),blk jb di (jc s z pk),vE s es,bn pk k]):=by
  intro h s0
  refine wD _ _ _ _ ?_
  unfold px
  refine cD (bk pk s0 (i:=0) rfl rfl rfl ?_)
  refine bO (rL pk k env pg) (i:=2) rfl s0 fun r h1 hr s1=>?_
  subst hr
  refine fx (τ:=Pte) [(PK.pte k env pg).1] (val:=fun x=>.agg x.C.toArray) (enc:=am.C) el_Sapi_Pte jl (fun _=>rfl) s1 rfl rfl (by simp) fun v h2 s2=>?_
  refine bk s s2 (i:=1) rfl rfl rfl ?_
  refine vS (sp_hist_Over s es a hb) (i:=2) rfl s2 fun r37 h3 s3=>?_
  have hrl:=(ch (j:=0) s3 rfl).1
  have hol:=Hist.placesFrom_len (fun e=>decide (e.fBegin ≤ a) && (e.fEffect == 0 || decide (e.fEffect > a))) es 0
  have hol':(Hist.over es a).length ≤ es.length:=hol
  refine Lp.intro (fun (y:Sl × Int) h=>∃ n:Nat,y.2 = n∧n ≤ (Hist.over es a).length∧aG [vI r37 (Hist.over es a),vG y.1 ((PK.pte k env pg).1::Judge.othersFrom k es env pg ((Hist.over es a).take n)),blk jb di (jc s z pk),vE s es,bn pk k] h) (fun (y:Sl × Int) _=>(Hist.over es a).length - y.2.toNat) ⟨0,rfl,Nat.zero_le _,s3⟩ ?_
  rintro ⟨y,i⟩ h ⟨n,rfl,hn,s4⟩
  unfold kF
  refine aX (fun d=>?_) (fun d=>?_)
  · have hlt:n < (Hist.over es a).length:=by rw [hrl] at d; have:=of_decide_eq_true d; simp at this; exact this
    have hw:IntKind.i64.wrap ((n:Int) + 1) = ((n + 1:Nat):Int):=by rw [bN (by omega) (by omega)]; rfl
    have ht:(Hist.over es a).take (n + 1) = (Hist.over es a).take n++[(Hist.over es a)[n]]:=by simp
    have hin:=Hist.places_in (List.getElem_mem hlt)
    have hes:=(ch (j:=3) s4 rfl).1
    obtain ⟨m,hm⟩:=Int.eq_ofNat_of_zero_le hin.1
    have hml:m < es.length:=by omega
    have hev:Judge.ev es (Hist.over es a)[n] = es[m]:=by rw [hm,Judge.ev_nat hml]
    have happ:=Judge.othersFrom_app k es env pg (Hist.over es a)[n] ((Hist.over es a).take n)
    rw [hev] at happ
    have hfl:=Judge.othersFrom_len k es env pg ((Hist.over es a).take n)
    simp at hfl
    refine dy s4 (j:=0) rfl (by omega) (by show (n:Int) < _; omega) fun q hq=>?_
    refine eu (j:=0) (i:=n) (k:=0) (Hist.over es a)[n] (dc _) s4 rfl hq (by simp) (aF hlt) (by simp) ?_
    rw [hm]
    refine bk s s4 (i:=2) rfl rfl rfl ?_
    refine dy s4 (j:=3) rfl (by omega) (by omega) fun q2 hq2=>?_
    refine eu (j:=3) (i:=m) (k:=0) es[m] mv s4 rfl hq2 rfl (aF hml) (by simp) ?_
    have j1:∀ b,b = Judge.takes es[m]→dN env pg (jb,0) (fun s' h'=>(∃ n:Nat,s'.2 = n∧n ≤ (Hist.over es a).length∧aG [vI r37 (Hist.over es a),vG s'.1 ((PK.pte k env pg).1::Judge.othersFrom k es env pg ((Hist.over es a).take n)),blk jb di (jc s z pk),vE s es,bn pk k] h')∧(Hist.over es a).length - s'.2.toNat < (Hist.over es a).length - (n:Int).toNat) (y,(n:Int)) es[m] b h:=by
      intro b hb2
      unfold dN
      rw [hb2,hw]
      refine aX (fun d2=>?_) (fun d2=>?_)
      · refine bk pk s4 (i:=2) rfl rfl rfl ?_
        refine vS (uC pk k) (i:=4) rfl s4 fun r66 h5 s5=>?_
        refine bO (jK r66 k es[m].fEnv es[m].fCall) (i:=0) rfl s5 fun r h6 hr s6=>?_
        refine bO (rL r66 _ env pg) (i:=0) rfl s6 fun r h7 hr s7=>?_
        subst hr
        refine kw (τ:=Pte) (i:=2) (enc:=am.C) (val:=fun x=>.agg x.C.toArray) el_Sapi_Pte jl pte_one (fun _=>rfl) (by omega) rfl rfl s7 rfl (by simp; omega) (by simp; omega) fun v h8 s8=>?_
        refine ⟨⟨n + 1,rfl,hlt,?_⟩,by simp; omega⟩
        rw [ht,happ,if_pos d2]
        exact bZ (l:=[bn r66 _]) s8
      · refine ⟨⟨n + 1,rfl,hlt,?_⟩,by simp; omega⟩
        rw [ht,happ,if_neg (by rw [d2]; exact Bool.false_ne_true),List.append_nil]
        exact s4
    refine aX (fun c=>j1 _ (by unfold Judge.takes; rw [c]; rfl)) (fun c=>?_)
    refine aX (fun c2=>j1 _ (by unfold Judge.takes; rw [c,c2]; rfl)) (fun c2=>?_)
    refine aX (fun c3=>j1 _ (by unfold Judge.takes; rw [c,c2,c3]; rfl)) (fun c3=>j1 _ (by unfold Judge.takes; rw [c,c2,c3]; rfl))
  · have:n = (Hist.over es a).length:=by rw [hrl] at d; have:=of_decide_eq_false d; simp at this; omega
    subst this
    rw [List.take_length] at s4
    exact bZ (l:=[vI r37 (Hist.over es a)]) s4
theorem any_snoc {α:Type} (f:α→Bool) (l:List α) (x:α):(l++[x]).any f = (l.any f || f x):=by simp
theorem sp_judge_access (jb:Nat) (s:Sl) (z:fK) (pk:Ptr) (es:List bj) (k:PK) (e:bj) (hb:es.length < 2 ^ 38) :
    Sp Tryz.prog lw [pv (some (jb,0)),.agg e.C.toArray] aB [blk jb di (jc s z pk),vE s es,bn pk k] (fun r=>pa_ (r = Judge.access k es z e) [blk jb di (jc s z pk),vE s es,bn pk k]):=by
  intro h s0
  refine wE _ _ ?_
  unfold py
  refine cD (bk z.fEnvs s0 (i:=0) rfl rfl rfl ?_)
  refine tA (jf e.fCall z.fEnvs) s0 fun r h1 hr s1=>?_
  subst hr
  refine aX (fun d=>?_) (fun d=>?_)
  · exact aW (by unfold Judge.access; rw [if_pos (by simpa using d)]) s1
  · have d':¬ Word.check e.fCall z.fEnvs ≠ 0:=by simpa using d
    refine cN [0,0,0] (sp_judge_others jb s z pk es k e.fEffect e.fEnv (IntKind.i64.wrap e.fCall.e1) hb) s1 rfl fun r50 h2 s2=>?_
    have s3:=dB s2
    have hrl:=(ch (j:=0) s3 rfl).1
    have hol':(Hist.over es e.fEffect).length ≤ es.length:=Hist.placesFrom_len _ es 0
    have hfl:=Judge.othersFrom_len k es e.fEnv (IntKind.i64.wrap e.fCall.e1) (Hist.over es e.fEffect)
    have hll:(Judge.others k es e.fEffect e.fEnv (IntKind.i64.wrap e.fCall.e1)).length < 2 ^ 39:=by unfold Judge.others; simp; omega
    generalize hL:Judge.others k es e.fEffect e.fEnv (IntKind.i64.wrap e.fCall.e1) = L at *
    refine Lp.intro (fun (y:Bool × Bool × Int) h=>∃ n:Nat,y.2.2 = n∧n ≤ L.length∧y.1 = Judge.faults e (L.take n)∧y.2.1 = Judge.goes e (L.take n)∧aG [vG r50 L,blk jb di (jc s z pk),vE s es,bn pk k] h) (fun (y:Bool × Bool × Int) _=>L.length - y.2.2.toNat) ⟨0,rfl,Nat.zero_le _,rfl,rfl,s3⟩ ?_
    rintro ⟨f,g,i⟩ h ⟨n,rfl,hn,hf,hg,s4⟩
    simp only at hf hg
    unfold kG
    refine aX (fun d2=>?_) (fun d2=>?_)
    · have hlt:n < L.length:=by rw [hrl] at d2; have:=of_decide_eq_true d2; simp at this; exact this
      have hw:IntKind.i64.wrap ((n:Int) + 1) = ((n + 1:Nat):Int):=by rw [bN (by omega) (by omega)]; rfl
      have ht:L.take (n + 1) = L.take n++[L[n]]:=by simp
      refine dy s4 (j:=0) rfl (by show (0:Int) ≤ n; omega) (by show (n:Int) < _; omega) fun q hq=>?_
      refine eu (j:=0) (i:=n) (k:=0) L[n] jl s4 rfl hq rfl (aF hlt) (by simp) ?_
      rw [hw]
      refine ⟨⟨n + 1,rfl,hlt,?_,?_,s4⟩,by simp; omega⟩
      · unfold Judge.faults; rw [ht,any_snoc]; show (f || _) = _; rw [hf]; rfl
      · unfold Judge.goes; rw [ht,any_snoc]; show (g || _) = _; rw [hg]; rfl
    · have:n = L.length:=by rw [hrl] at d2; have:=of_decide_eq_false d2; simp at this; omega
      subst this
      rw [List.take_length] at hf hg
      have s5:=bZ (l:=[vG r50 L]) s4
      refine aX (fun d3=>?_) (fun d3=>?_)
      · refine aW ?_ s5
        unfold Judge.access
        rw [if_neg d',if_pos (by simpa using d3),hL,← hf]
      · refine bk pk s4 (i:=1) rfl rfl rfl ?_
        refine vS (uC pk k) (i:=2) rfl s5 fun r104 h6 s6=>?_
        refine bO (od r104 k e.fLine.fFrame e.fCall) (i:=0) rfl s6 fun r h7 hr s7=>?_
        subst hr
        refine aW ?_ (bZ (l:=[bn r104 _]) s7)
        unfold Judge.access
        rw [if_neg d',if_neg (by simpa using d3),hL,← hg]
        rfl
theorem sp_judge_well (jb:Nat) (s:Sl) (z:fK) (pk:Ptr) (e:bj) :
    Sp Tryz.prog nj [pv (some (jb,0)),.agg e.C.toArray] aB [blk jb di (jc s z pk)] (fun r=>pa_ (r = Judge.well z e) [blk jb di (jc s z pk)]):=by
  intro h s0
  refine sim_judge_judge_well _ _ ?_
  unfold rA
  refine aX (fun d=>?_) (fun d=>?_)
  · refine cD (bk z.fEnvs s0 (i:=0) rfl rfl rfl ?_)
    refine tA (jf e.fCall z.fEnvs) s0 fun r h1 hr s1=>?_
    subst hr
    refine aX (fun d2=>?_) (fun d2=>?_)
    · exact aW (by unfold Judge.well; rw [d,d2]; rfl) s1
    · exact aW (by unfold Judge.well; rw [d,d2]; rfl) s1
  · exact aW (by unfold Judge.well; rw [d]; rfl) s0
abbrev OrdOk (s:Sl) (es:List bj):Prop:=Sp Tryz.prog oJ [sv s] cz [vE s es] (fun r=>aG [vI r (Hist.order es),vE s es])
theorem order_in {es:List bj} {x:Int} (h:x ∈ Hist.order es):0 ≤ x∧x < es.length:=Hist.places_in ((Hist.isort_perm _ _).subset h)
theorem order_len (es:List bj):(Hist.order es).length ≤ es.length:=by
  have h1:=(Hist.isort_perm (Hist.eff es) (Hist.effs es)).length_eq
  have h2:=Hist.placesFrom_len (fun e=>decide (e.fEffect > 0)) es 0
  unfold Hist.order; rw [h1]; exact h2
theorem sp_judge_run (s:Sl) (es:List bj) (z:fK) (lin acc:Bool) (hz:PK.sized z = true) (hb:es.length < 2 ^ 38) (ho:Hist.Apart es→OrdOk s es) :
    Sp Tryz.prog uk [sv s,.agg z.C.toArray,.bool lin,.bool acc] bK [vE s es] (fun r=>pa_ (r = Judge.run es z lin acc) [vE s es]):=by
  intro h s0
  refine sim_judge_run _ _ _ _ ?_
  unfold sh_judge_run
  refine bO (sp_hist_May s es z hb) (i:=0) rfl s0 fun r h1 hr s1=>?_
  subst hr
  refine aX (fun d=>?_) (fun d=>?_)
  · exact aW (by unfold Judge.run; rw [if_neg (by simpa using d)]) s1
  · have d':Hist.may es z = true:=by simpa using d
    have er:Judge.run es z lin acc = Judge.runFrom es z lin acc (PK.new z) (Hist.order es):=if_pos d'
    rw [er]
    refine mb (rM z hz) s1 fun pk h2 s2=>?_
    refine oY s2 fun b25 h3 s3=>?_
    refine vS (ho (Hist.may_apart d')) (i:=2) rfl s3 fun r27 h4 s4=>?_
    have hol:=order_len es
    have hrl:=(ch (j:=0) s4 rfl).1
    refine Lp.intro (fun (i:Int) h=>∃ (n:Nat) (k:PK),i = n∧n ≤ (Hist.order es).length∧Judge.runFrom es z lin acc k ((Hist.order es).drop n) = Judge.runFrom es z lin acc (PK.new z) (Hist.order es)∧aG [vI r27 (Hist.order es),blk b25 di (jc s z pk),bn pk k,vE s es] h) (fun (i:Int) _=>(Hist.order es).length - i.toNat) ⟨0,_,rfl,Nat.zero_le _,rfl,s4⟩ ?_
    rintro i h ⟨n,k,rfl,hn,he,s5⟩
    have fin:∀ h,aG [vI r27 (Hist.order es),blk b25 di (jc s z pk),bn pk k,vE s es] h→aG [vE s es] h:=fun h s=>bZ (l:=[_,_,_]) s
    unfold xd
    refine aX (fun d2=>?_) (fun d2=>?_)
    · have hlt:n < (Hist.order es).length:=by rw [hrl] at d2; simpa using d2
      have hw:IntKind.i64.wrap ((n:Int) + 1) = ((n + 1:Nat):Int):=by rw [bN (by omega) (by omega)]; rfl
      have hin:=order_in (List.getElem_mem hlt)
      have hes:=(ch (j:=3) s5 rfl).1
      obtain ⟨m,hm⟩:=Int.eq_ofNat_of_zero_le hin.1
      have hml:m < es.length:=by omega
      have hev:Judge.ev es (Hist.order es)[n] = es[m]:=by rw [hm,Judge.ev_nat hml]
      rw [List.drop_eq_getElem_cons hlt,Judge.runFrom,hev] at he
      refine dy s5 (j:=0) rfl (by omega) (by omega) fun q hq=>?_
      refine eu (j:=0) (i:=n) (k:=0) (Hist.order es)[n] (dc _) s5 rfl hq (by simp) (aF hlt) (by simp) ?_
      rw [hm]
      refine dy s5 (j:=3) rfl (by omega) (by omega) fun q2 hq2=>?_
      refine eu (j:=3) (i:=m) (k:=0) es[m] mv s5 rfl hq2 rfl (aF hml) (by simp) ?_
      have hmi:((m:Int),false) = ((Hist.order es)[n],false):=by rw [hm]
      refine aX (fun d3=>?_) (fun d3=>?_)
      · rw [if_pos d3] at he
        have j1:∀ h,(acc = true∧Judge.access k es z es[m] = false) = False→aG [vI r27 (Hist.order es),blk b25 di (jc s z pk),bn pk k,vE s es] h→rW b25 (fun s' h'=>(∃ (n:Nat) (k:PK),s' = n∧n ≤ (Hist.order es).length∧Judge.runFrom es z lin acc k ((Hist.order es).drop n) = Judge.runFrom es z lin acc (PK.new z) (Hist.order es)∧aG [vI r27 (Hist.order es),blk b25 di (jc s z pk),bn pk k,vE s es] h')∧(Hist.order es).length - s'.toNat < (Hist.order es).length - (n:Int).toNat) (n:Int) es[m] () h:=by
          intro h hno s6
          rw [if_neg (by rw [hno]; exact not_false)] at he
          unfold rW
          refine bO (sp_judge_well b25 s z pk es[m]) (i:=1) rfl s6 fun r h7 hr s7=>?_
          subst hr
          rw [hw]
          refine aX (fun d4=>?_) (fun d4=>?_)
          · rw [if_pos d4] at he
            refine bk pk s7 (i:=1) rfl rfl rfl ?_
            refine bO (od pk k es[m].fLine.fFrame es[m].fCall) (i:=2) rfl s7 fun r h8 hr s8=>?_
            exact ⟨⟨n + 1,_,rfl,hlt,he,s8⟩,by simp; omega⟩
          · rw [if_neg (by rw [d4]; exact Bool.false_ne_true)] at he
            exact ⟨⟨n + 1,_,rfl,hlt,he,s7⟩,by simp; omega⟩
        unfold rV
        refine aX (fun d4=>?_) (fun d4=>?_)
        · refine cN [1,2,1] (sp_judge_access b25 s z pk es k es[m] hb) s5 rfl fun r h6 s6=>?_
          obtain ⟨hr,s7⟩:=bq.1 s6
          subst hr
          have s8:aG [vI r27 (Hist.order es),blk b25 di (jc s z pk),bn pk k,vE s es] h6:=bb [3,0,1] s7 rfl
          refine aX (fun d5=>?_) (fun d5=>?_)
          · rw [if_pos ⟨d4,by simpa using d5⟩] at he
            exact aW (by rw [← he,hm]) (fin _ s8)
          · exact j1 h6 (by simp; intro _; simpa using d5) s8
        · refine dr rfl ?_
          exact j1 h (by rw [d4]; simp) s5
      · rw [if_neg (by rw [d3]; exact Bool.false_ne_true)] at he
        refine bk pk s5 (i:=1) rfl rfl rfl ?_
        refine bO (jK pk k es[m].fEnv es[m].fCall) (i:=2) rfl s5 fun r h6 hr s6=>?_
        subst hr
        refine aX (fun d4=>?_) (fun d4=>?_)
        · have d4':lin = true∧((PK.do_ k es[m].fEnv es[m].fCall).1.2 = false∨ab.eqb (PK.do_ k es[m].fEnv es[m].fCall).1.1 es[m].fAnswer = false):=by simpa using d4
          rw [if_pos d4'] at he
          exact aW (by rw [← he,hm]) (bZ (l:=[_,_,_]) s6)
        · have d4':¬ (lin = true∧((PK.do_ k es[m].fEnv es[m].fCall).1.2 = false∨ab.eqb (PK.do_ k es[m].fEnv es[m].fCall).1.1 es[m].fAnswer = false)):=by simpa using d4
          rw [if_neg d4'] at he
          rw [hw]
          exact ⟨⟨n + 1,_,rfl,hlt,he,s6⟩,by simp; omega⟩
    · have:n = (Hist.order es).length:=by rw [hrl] at d2; simp at d2; omega
      subst this
      rw [List.drop_length] at he
      exact aW he (fin h s5)
section
variable (s:Sl) (es:List bj) (z:fK) (hz:PK.sized z = true) (hb:es.length < 2 ^ 38) (ho:Hist.Apart es→OrdOk s es)
include hz hb ho
theorem sp_judge_Linear:Sp Tryz.prog oH [sv s,.agg z.C.toArray] bK [vE s es] (fun r=>pa_ (r = Judge.linear es z) [vE s es]):=by
  intro h s0
  refine sim_judge_Linear _ _ ?_
  unfold sh_judge_Linear
  exact bO (sp_judge_run s es z true false hz hb ho) (i:=0) rfl s0 fun r h1 hr s1=>aW hr s1
theorem sp_judge_Access:Sp Tryz.prog oI [sv s,.agg z.C.toArray] bK [vE s es] (fun r=>pa_ (r = Judge.accesses es z) [vE s es]):=by
  intro h s0
  refine sim_judge_Access _ _ ?_
  unfold sh_judge_Access
  exact bO (sp_judge_run s es z false true hz hb ho) (i:=0) rfl s0 fun r h1 hr s1=>aW hr s1
theorem sp_judge_Right:Sp Tryz.prog qh [sv s,.agg z.C.toArray] aB [vE s es] (fun r=>pa_ (r = Judge.right es z) [vE s es]):=by
  intro h s0
  refine sim_judge_Right _ _ ?_
  unfold sh_judge_Right
  refine bO (sp_judge_Linear s es z hz hb ho) (i:=0) rfl s0 fun r h1 hr s1=>?_
  subst hr
  exact bO (sp_judge_Access s es z hz hb ho) (i:=0) rfl s1 fun r h2 hr s2=>aW (by rw [hr]; rfl) s2
end
end Go.Proofs.YtniiiakkdoiaiaaGreatDoor
