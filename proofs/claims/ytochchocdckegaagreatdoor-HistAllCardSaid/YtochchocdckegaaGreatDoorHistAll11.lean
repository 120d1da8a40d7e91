/- Part of the proof of: The law HistAll returns true for every input, and leaves its arguments as they were. -/
import Derived.Test.YtochchocdckegaaGreatDoorHistAll10
set_option linter.all false
set_option maxRecDepth 20000
namespace Go.Proofs.YtochchocdckegaaGreatDoor
open Go.Proofs.Tryz
open Go.IntKind (i64 u64)
open _root_.Bool (and_eq_true)
open _root_.Int (fdiv toNat_natCast zero_add)
open _root_.List (append_assoc cons_append eq_nil_of_length_eq_zero getElem?_append_right getElem?_eq_getElem getElem_mem length_append length_drop length_pos_iff length_pos_of_mem length_take mem_cons nil_append pairwise_append pairwise_cons take_append_drop)
open _root_.Nat (le_refl zero_le)
section
open Go Mb
def hist_May_l1 (a0:Sl) (a1:aK) (K:kT Bool) (v12:(Option Nat)) (v13:(Option Nat)) (Rec4:kT (Int × Int)) (s3:Int × Int):hT:=br (decide (s3.2 < (a0.len:Int))) ( ix a0 s3.2 fun q18=>ld (q18.1,q18.2 + Int.toNat s3.2 * 16) aq.C fun x19=>br ((!(!(dF x19 a1 s3.1))) && (decide (x19.fDa > 0))) ( hpv prog (Instr.lookup jP (.map v12) (.int .i64 x19.fDa) false) aD fun (v33:Bool)=>br v33 ( K false) ( hpv prog (Instr.lookup iu (.map v13) (.int .i64 x19.fJa) true) bQ fun (v40:Int × Bool)=>br (v40.2 && ((decide (v40.1 <= 0)) || (decide (x19.fLa <= v40.1)))) ( K false) ( hpu prog (Instr.mapUpdate jP (.map v12) (.int .i64 x19.fDa) (.bool true))<|hpu prog (Instr.mapUpdate iu (.map v13) (.int .i64 x19.fJa) (.int .i64 x19.fGa))<|Rec4 (x19.fLa,(i64.wrap (s3.2 + 1)))))) ( br ((!(dF x19 a1 s3.1)) || false) ( K false) ( hpv prog (Instr.lookup iu (.map v13) (.int .i64 x19.fJa) true) bQ fun (v40:Int × Bool)=>br (v40.2 && ((decide (v40.1 <= 0)) || (decide (x19.fLa <= v40.1)))) ( K false) ( hpu prog (Instr.mapUpdate jP (.map v12) (.int .i64 x19.fDa) (.bool true))<|hpu prog (Instr.mapUpdate iu (.map v13) (.int .i64 x19.fJa) (.int .i64 x19.fGa))<|Rec4 (x19.fLa,(i64.wrap (s3.2 + 1))))))) ( K true)
def sh_hist_May (a0:Sl) (a1:aK) (K:kT Bool):hT:=hpv prog (Instr.makeMap jP none) R_map_int_bool fun (v12:(Option Nat))=>hpv prog (Instr.makeMap iu none) R_map_int_int fun (v13:(Option Nat))=>Lp (hist_May_l1 a0 a1 K v12 v13) (0,0)
theorem sim_hist_May (a0:Sl) (a1:aK) {K:kT Bool} {h:Hp} (H:sh_hist_May a0 a1 K h):cl prog tU [(sv a0),(.agg (aK.C a1).toArray)] aD K h:=z_i func6 p p fun _=>O<|aa<|cz (l:=aK.C a1) p p p fun b3=>U p<|O<|aa<|aF H x_makeMap0 p fun v12 _ H1=>aa<|aF H1 x_makeMap0 p fun v13 _ H2=>J (ar p)<|J (ar p)<|U p<|ai<|O<|M p<|J (dh p underlying22 p)<|M p<|ad<|aw<|bv (step:=hist_May_l1 a0 a1 K v12 v13) (fun s3=>[(3,(.pointer (some ⟨b3,0,none⟩))),(5,(.int .i64 s3.1)),(6,(.map v12)),(7,(.map v13)),(14,(sv a0)),(15,(.int .i64 (a0.len:Int))),(16,(.int .i64 s3.2))]) (fun s3=>[bx b3 24 (aK.C a1)]) H2 (.cons p<|.cons p<|.cons p<|.cons p<|.cons p<|.cons p<|.cons p<|.nil _) (.cons_cons _ .slnil) fun Rec4 s3 _ H5=>O<|J (bZ p p)<|ad<|ai<|av p H5 (fun k6 H7=>ak<|ai<|aw<|O<|cm H7 fun q18 e8 h9 H10=>J (aW cQ (aJ p<|aM e8) p h9)<|aa<|ga H10 pV p (fun _=>p) p fun x19 H11=>aa<|aT (l:=aq.C (⟨0,0,(⟨0,0,0,0,0⟩:al),0,0,0,(⟨0,0⟩:ac),(⟨0,0,0,0⟩:ao)⟩:aq)) zero_40 p p fun b9=>aa<|aV (k:=0) (vs:=aq.C x19) inf_40 p p p p p p p<|ad<|ai<|O<|bo (bK (k:=0) pV p p p p) p<|bo (bK (k:=1) pW p p p p) p<|M p<|aa<|cu (vs:=[(.agg (aq.C x19).toArray),(.agg (aK.C a1).toArray),(.int .i64 s3.1)]) (bu<|ct_hist_one x19 a1 s3.1 _) en_32 p p<|J (cw p)<|M p<|W p p (aL _) (fun g12=>wv<|ae cR p)<|W p p (aL _) (fun g13=>cv<|bc (k:=0) aR (aC p g13) p p)<|W p p (aL _) (fun g14=>wv<|hG (aC p g14) p)<|W p p (aL _) (fun g15=>wv<|ag<|aC p g15)<|W p p (eq _ _) (fun g16=>wv<|ag p)<|W p p (eq _ _) (fun g17=>wv<|ae cR p)<|W p p (eq _ _) (fun g18=>cv<|bc (k:=0) aR (aC p g18) p p)<|bS H11 (fun k20 H21=>z_O ((gv_t (b_l k20) _).trans<|Z<|b_r k20)<|aF H21 (x_lookup (aC p k20)<|aC p k20) p fun v33 _ H22=>z_O (Z<|cg<|b_l k20)<|z_p (aI (aC p<|b_l k20) (b_r k20) p)<|J (ap p (cg<|b_l k20) p)<|ad<|av p H22 (fun k23 H24=>O<|U p<|ah<|F ⟨false,p,H24⟩) fun k23 H24=>ak<|ai<|O<|M p<|J (ae gH p)<|bo (bc (k:=0) aR p p p) p<|aa<|aF H24 (x_lookup p p) p fun v40 _ H25=>M p<|J (aj p p)<|J (aj p p)<|J (ar p)<|U p<|O<|M p<|M p<|W p p (aA _) (fun g26=>wv<|ag p)<|W p p (aA _) (fun g27=>wv<|vX (aC p g27) p)<|W p p (aA _) (fun g28=>wv<|ag<|aC p g28)<|W p p (eL _ _) (fun g29=>wv<|ae ee p)<|W p p (eL _ _) (fun g30=>cv<|bc (k:=0) aR (aC p g30) p p)<|W p p (eL _ _) (fun g31=>wv<|ag p)<|W p p (eL _ _) (fun g32=>wv<|vX (aC p g32)<|aC p g32)<|W p p (aA _) (fun g33=>wv<|dy (aC p g33)<|aJ p<|ol g33)<|J (bN p p)<|ad<|av p H25 (fun k34 H35=>O<|U p<|ah<|F ⟨false,p,H35⟩) fun k34 H35=>ak<|bk (n:=13) [bx b9 40 (aq.C x19)] ch p (.cons_cons _<|.cons _ .slnil)<|V 0 p (ag p)<|V 1 p (ae cR p)<|z_E 2 p (cA (k:=0) aR p p p)<|V 3 p (ag p)<|V 4 p (ae gH p)<|z_E 5 p (cA (k:=0) aR p p p)<|V 6 p (ae ee p)<|z_E 7 p (cA (k:=0) aR p p p)<|V 8 p (ae cM p)<|z_E 9 p (cA (k:=0) aR p p p)<|V 10 p (ar p)<|R 11 p<|to_hpu H35 (uw p p p) fun _ H36=>⟨.cons_cons _<|.cons _ .slnil,R 12 p<|to_hpu H36 (uw p p p) fun _ H37=>⟨.cons_cons _<|.cons _ .slnil,aG (by kernel_rfl)<|am<|J (bb p p)<|M p<|ad<|bU (x19.fLa,(i64.wrap (s3.2 + 1))) H37 (.cons p<|.cons p<|.cons p<|.cons p<|.cons p<|.cons p<|.cons p<|.nil _)<|.cons _<|.cons_cons _ .slnil⟩⟩) fun k20 H21=>Y ((eq _ _).trans k20)<|W p p (aL _) (fun g38=>wv<|ap (aC p g38) (b_andr k20 g38) p)<|J (dy p p)<|ad<|av p H21 (fun k39 H40=>O<|U p<|ah<|F ⟨false,p,H40⟩) fun k39 H40=>ak<|ai<|O<|M p<|J (ae gH p)<|bo (bc (k:=0) aR p p p) p<|aa<|aF H40 (x_lookup p p) p fun v40 _ H41=>M p<|J (aj p p)<|J (aj p p)<|J (ar p)<|U p<|O<|M p<|M p<|W p p (aA _) (fun g42=>wv<|ag p)<|W p p (aA _) (fun g43=>wv<|vX (aC p g43) p)<|W p p (aA _) (fun g44=>wv<|ag<|aC p g44)<|W p p (eL _ _) (fun g45=>wv<|ae ee p)<|W p p (eL _ _) (fun g46=>cv<|bc (k:=0) aR (aC p g46) p p)<|W p p (eL _ _) (fun g47=>wv<|ag p)<|W p p (eL _ _) (fun g48=>wv<|vX (aC p g48)<|aC p g48)<|W p p (aA _) (fun g49=>wv<|dy (aC p g49)<|aJ p<|ol g49)<|J (bN p p)<|ad<|av p H41 (fun k50 H51=>O<|U p<|ah<|F ⟨false,p,H51⟩) fun k50 H51=>ak<|bk (n:=13) [bx b9 40 (aq.C x19)] ch p (.cons_cons _<|.cons _ .slnil)<|V 0 p (ag p)<|V 1 p (ae cR p)<|z_E 2 p (cA (k:=0) aR p p p)<|V 3 p (ag p)<|V 4 p (ae gH p)<|z_E 5 p (cA (k:=0) aR p p p)<|V 6 p (ae ee p)<|z_E 7 p (cA (k:=0) aR p p p)<|V 8 p (ae cM p)<|z_E 9 p (cA (k:=0) aR p p p)<|V 10 p (ar p)<|R 11 p<|to_hpu H51 (uw p p p) fun _ H52=>⟨.cons_cons _<|.cons _ .slnil,R 12 p<|to_hpu H52 (uw p p p) fun _ H53=>⟨.cons_cons _<|.cons _ .slnil,aG (by kernel_rfl)<|am<|J (bb p p)<|M p<|ad<|bU (x19.fLa,(i64.wrap (s3.2 + 1))) H53 (.cons p<|.cons p<|.cons p<|.cons p<|.cons p<|.cons p<|.cons p<|.nil _)<|.cons _<|.cons_cons _ .slnil⟩⟩) fun k6 H7=>bf<|O<|U p<|ah<|F ⟨true,p,H7⟩
def tZ (a0:Sl) (a1:Value) (K:kT Sl) (Rec2:kT (Sl × Int)) (s1:Sl × Int):hT:=br (decide (s1.2 < (a0.len:Int))) ( ix a0 s1.2 fun q13=>ld (q13.1,q13.2 + Int.toNat s1.2 * 16) aq.C fun x14=>clv prog a1 [(.agg (aq.C x14).toArray)] aD fun r17=>br r17 ( hpv prog (Instr.buildSlice az 1 #[(0,(.int .i64 s1.2))]) aU fun (v20:Sl)=>hpv prog (Builtin.append_ #[az,az] az #[(sv s1.1),(sv v20)]) aU fun (v21:Sl)=>Rec2 (v21,(i64.wrap (s1.2 + 1)))) ( Rec2 (s1.1,(i64.wrap (s1.2 + 1))))) ( K s1.1)
def sh_hist_places (a0:Sl) (a1:Value) (K:kT Sl):hT:=Lp (tZ a0 a1 K) ((⟨none,0,0,none⟩:Sl),0)
theorem sim_hist_places (a0:Sl) (a1:Value) {K:kT Sl} {h:Hp} (H:sh_hist_places a0 a1 K h):cl prog nE [(sv a0),a1] aU K h:=z_i func33 p p fun _=>O<|U p<|O<|U p<|ai<|O<|M p<|J (dh p underlying22 p)<|M p<|ad<|aw<|bv (step:=tZ a0 a1 K) (fun s1=>[(1,a1),(5,(sv s1.1)),(8,(sv a0)),(9,(.int .i64 (a0.len:Int))),(10,(.int .i64 s1.2))]) (fun s1=>[]) H (.cons p<|.cons p<|.cons p<|.cons p<|.cons p<|.nil _) .slnil fun Rec2 s1 _ H3=>O<|J (bZ p p)<|ad<|ai<|av p H3 (fun k4 H5=>ak<|ai<|aw<|O<|M p<|cm H5 fun q13 e6 h7 H8=>J (aW cQ (aJ p<|aM e6) p h7)<|aa<|ga H8 pV p (fun _=>p) p fun x14 H9=>aa<|aT (l:=aq.C (⟨0,0,(⟨0,0,0,0,0⟩:al),0,0,0,(⟨0,0⟩:ac),(⟨0,0,0,0⟩:ao)⟩:aq)) zero_40 p p fun b7=>J (ar p)<|aa<|aV (k:=0) (vs:=aq.C x14) inf_40 p p p p p p p<|ad<|O<|M p<|bo (bK (k:=0) pV p p p p) p<|aa<|to_clv H9 p p p fun r17 _ H10=>ad<|av p H10 (fun k11 H12=>am<|M p<|M p<|aa<|aF H12 (bh (vs:=[(.int .i64 s1.2)]) p) p fun v20 _ H13=>aa<|aF H13 (bz p p) p fun v21 _ H14=>U p<|am<|J (bb p p)<|M p<|ad<|bU (v21,(i64.wrap (s1.2 + 1))) H14 (.cons p<|.cons p<|.cons p<|.cons p<|.cons p<|.nil _)<|.cons _ .slnil) fun k11 H12=>ak<|am<|J (bb p p)<|M p<|ad<|bU (s1.1,(i64.wrap (s1.2 + 1))) H12 (.cons p<|.cons p<|.cons p<|.cons p<|.cons p<|.nil _)<|.cons _ .slnil) fun k4 H5=>bf<|O<|M p<|U p<|ah<|F ⟨s1.1,p,H5⟩
def qI (a0:Int) (a1:Int) (c0:Nat) (K:kT Int):hT:=ld (c0,0) cS fun x6=>ix x6 a0 fun q8=>ld (q8.1,q8.2 + Int.toNat a0 * 16 + 8) (cI .i64) fun x10=>ld (c0,0) cS fun x11=>ix x11 a1 fun q13=>ld (q13.1,q13.2 + Int.toNat a1 * 16 + 8) (cI .i64) fun x15=>K (gi x10 x15)
theorem uy (a0:Int) (a1:Int) (c0:Nat) {K:kT Int} {h:Hp} (H:qI a0 a1 c0 K h):cl prog rV [(.int .i64 a0),(.int .i64 a1),(.pointer (some ⟨c0,0,none⟩))] eN K h:=z_i func38 p p fun _=>O<|U p<|ai<|bk (n:=12) [] ch p .slnil<|V 1 p (ag p)<|V 6 p (ag p)<|bw (i:=0) (fun _ _ _ _ hh=>hh) H p (by kernel_rfl) sc_22 p (fun _=>p) p fun x6 H1=>dl H1 fun q8 e2 h3 H4=>V 2 p (aW cQ (aJ p<|aM e2) p h3)<|V 3 p (ae cR p)<|bw (i:=4) (fun _ _ _ _ hh=>hh) H4 p (by kernel_rfl) aR p (fun _=>p) p fun x10 H5=>bw (i:=5) (fun _ _ _ _ hh=>hh) H5 p (by kernel_rfl) sc_22 p (fun _=>p) p fun x11 H6=>dl H6 fun q13 e7 h8 H9=>V 7 p (aW cQ (aJ p<|aM e7) p h8)<|V 8 p (ae cR p)<|bw (i:=9) (fun _ _ _ _ hh=>hh) H9 p (by kernel_rfl) aR p (fun _=>p) p fun x15 H10=>R 10 p<|cu (vs:=[(.int .i64 x10),(.int .i64 x15)]) (bu<|ct_cmp_Compare_int x10 x15 _) en_39 p p ⟨.slnil,V 11 p (ar p)<|aG (by kernel_rfl)<|ah<|F ⟨gi x10 x15,p,H10⟩⟩
def vH (a0:Sl) (K:kT Sl):hT:=nw dU [sv a0] fun b1=>ld (b1,0) cS fun x4=>cl prog nE [(sv x4),(.func (.func nP) #[] #[])] aU fun r5=>cl prog eO [(sv r5),(.func (.func rV) #[] #[(.pointer (some ⟨b1,0,none⟩))])] R_ fun (_:Unit)=>K r5
theorem sim_hist_Order (a0:Sl) {K:kT Sl} {h:Hp} (H:vH a0 K h):cl prog kF [(sv a0)] aU K h:=z_i func13 p p fun _=>O<|aa<|iF p p p H fun b1 _ H1=>U p<|O<|aa<|aY H1 sc_22 p (fun _=>p) p fun x4 H2=>aa<|G H2 en_33 fun r5 _ H3=>U p<|O<|M p<|J (v_func p p)<|aa<|G H3 en_37 fun r8 _ H4=>ad<|O<|M p<|U p<|ah<|F ⟨r5,p,H4⟩
def sh_hist_Over_c1 (a0:aq) (c0:Nat) (K:kT Bool):hT:=ld (c0,0) (cI .i64) fun x6=>br ((decide (a0.fLa <= x6)) && (!(a0.fDa == 0))) ( ld (c0,0) (cI .i64) fun x15=>K (decide (a0.fDa > x15))) ( K ((decide (a0.fLa <= x6)) && true))
theorem sim_hist_Over_c1 (a0:aq) (c0:Nat) {K:kT Bool} {h:Hp} (H:sh_hist_Over_c1 a0 c0 K h):cl prog tT [(.agg (aq.C a0).toArray),(.pointer (some ⟨c0,0,none⟩))] aD K h:=z_i func34 p p fun _=>O<|aa<|cz (l:=aq.C a0) p p p fun b2=>U p<|O<|J (ae ee p)<|bo (bc (k:=0) aR p p p) p<|aa<|aY H aR p (fun _=>p) p fun x6 H1=>J (vX p p)<|M p<|W p p (aA _) (fun g2=>wv<|ae cR p)<|W p p (aA _) (fun g3=>cv<|bc (k:=0) aR (aC p g3) p p)<|W p p (aA _) (fun g4=>wv<|bM (aC p g4) p)<|W p p (aA _) (fun g5=>wv<|ag<|aC p g5)<|W p p (eL _ _) (fun g6=>wv<|ae cR p)<|W p p (eL _ _) (fun g7=>cv<|bc (k:=0) aR (aC p g7) p p)<|bS H1 (fun k9 H10=>z_O ((gv_t (b_l k9) _).trans<|Z<|cg<|b_r k9)<|aY H10 aR p (fun _=>p) p fun x15 H11=>z_O ((gv_t (b_l k9) _).trans<|Z<|cg<|b_r k9)<|z_p (hG (aC p k9) p)<|z_O (Z<|b_l k9)<|z_p (ap (aC p<|b_l k9) (cg<|b_r k9) p)<|J (aI p (b_l k9) p)<|U p<|ah<|F ⟨decide (a0.fDa > x15),p,H11⟩) fun k9 H10=>Y ((eL _ _).trans k9)<|Y ((eL _ _).trans k9)<|W p p (aA _) (fun g12=>wv<|aI (aC p g12) (bG<|b_andr k9 g12) p)<|J (bN p p)<|U p<|ah<|F ⟨((decide (a0.fLa <= x6)) && true),p,H10⟩
def sh_hist_Over (a0:Sl) (a1:Int) (K:kT Sl):hT:=nw lE [.int .i64 a1] fun b3=>cl prog nE [(sv a0),(.func (.func tT) #[] #[(.pointer (some ⟨b3,0,none⟩))])] aU fun r7=>K r7
theorem sim_hist_Over (a0:Sl) (a1:Int) {K:kT Sl} {h:Hp} (H:sh_hist_Over a0 a1 K h):cl prog vg [(sv a0),(.int .i64 a1)] aU K h:=z_i func8 p p fun _=>O<|aa<|iF p p p H fun b3 _ H1=>U p<|O<|M p<|J (v_func p p)<|aa<|G H1 en_33 fun r7 _ H2=>U p<|ah<|F ⟨r7,p,H2⟩
def sh_hist_Done (a0:Sl) (K:kT Sl):hT:=cl prog nE [(sv a0),(.func (.func pL) #[] #[])] aU fun r4=>K r4
theorem sim_hist_Done (a0:Sl) {K:kT Sl} {h:Hp} (H:sh_hist_Done a0 K h):cl prog n_hist_Done [(sv a0)] aU K h:=z_i func11 p p fun _=>O<|U p<|O<|M p<|aa<|G H en_33 fun r4 _ H1=>U p<|ah<|F ⟨r4,p,H1⟩
end
section
open Go Mb
namespace Hist
def fXa (P:bC->Bool):List bC->Int->List Int
 | [],_=>[]
 | e::es,i=>if P e = true then i::fXa P es (i + 1) else fXa P es (i + 1)
def places (P:bC->Bool) (es:List bC):List Int:=fXa P es 0
def ev00:bC:=KK.ev0 0 0 ⟨0,0,0,0,0⟩ 0
def eff (es:List bC) (i:Int):Int:=(es.getD i.toNat ev00).fDa
def ins (key:Int->Int) (x:Int):List Int->List Int
 | []=>[x]
 | y::l=>if key x < key y then x::y::l else y::ins key x l
def isort (key:Int->Int):List Int->List Int
 | []=>[]
 | x::l=>ins key x (isort key l)
def effs (es:List bC):List Int:=places (fun e=>decide (e.fDa > 0)) es
def order (es:List bC):List Int:=isort (eff es) (effs es)
def over (es:List bC) (at_:Int):List Int:=places (fun e=>decide (e.fLa <= at_) && (e.fDa == 0 || decide (e.fDa > at_))) es
def done (es:List bC):List Int:=places (fun e=>e.fGa != 0) es
def endOf (ends:List (Int × Int)) (c:Int):Option Int:=(ends.find? (fun p=>p.1 == c)).map (·.2)
def stops (ends:List (Int × Int)) (e:bC):Bool:=match endOf ends e.fJa with
 | some n=>decide (n <= 0) || decide (e.fLa <= n)
 | none=>false
def mayFrom (s:gX):List bC->Int->List Int->List (Int × Int)->Bool
 | [],_,_,_=>true
 | e::es,last,seen,ends=>if dF e s last = false\/(e.fDa > 0/\e.fDa ∈ seen) then false else if stops ends e = true then false else mayFrom s es e.fLa (e.fDa::seen) ((e.fJa,e.fGa)::ends)
def may (es:List bC) (s:gX):Bool:=mayFrom s es 0 [] []
theorem placesFrom_app (P:bC->Bool) (e:bC):∀ (es:List bC) (i:Int),fXa P (es++[e]) i = fXa P es i++(if P e = true then [i + es.length] else [])
 | [],i=>by simp only [nil_append,fXa]; split <;> simp
 | d::es,i=>by
  simp only [cons_append,fXa];rw [placesFrom_app P e es (i + 1)];have e1:i + 1 + (es.length:Int) = i + ((d::es).length:Int):=by simp; omega
  rw [e1];split <;> simp
theorem placesFrom_len (P:bC->Bool):∀ (es:List bC) (i:Int),(fXa P es i).length <= es.length
 | [],_=>le_refl _
 | e::es,i=>by unfold fXa; have:=placesFrom_len P es (i + 1); split <;> simp <;> omega
theorem placesFrom_c (P:bC->Bool) (d:bC) (es:List bC) (i:Int):fXa P (d::es) i = if P d = true then i::fXa P es (i + 1) else fXa P es (i + 1):=rfl
theorem mem_placesFrom {P:bC->Bool} {x:Int}:∀ {es:List bC} {i:Int},x ∈ fXa P es i↔∃ (n:Nat) (e:bC),es[n]? = some e/\x = i + n/\P e = true
 | [],i=>by simp [fXa]
 | d::es,i=>by
  have ih:=mem_placesFrom (P:=P) (x:=x) (es:=es) (i:=i + 1);have sp:(∃ (n:Nat) (e:bC),(d::es)[n]? = some e/\x = i + n/\P e = true)↔(x = i/\P d = true)\/∃ (n:Nat) (e:bC),es[n]? = some e/\x = i + 1 + n/\P e = true:=by
   constructor
   ·rintro ⟨n,e,h1,h2,h3⟩;cases n with
    | zero=>simp at h1; subst h1; exact .inl ⟨by simpa using h2,h3⟩
    | succ n=>exact .inr ⟨n,e,by simpa using h1,by omega,h3⟩
   ·rintro (⟨h2,h3⟩ | ⟨n,e,h1,h2,h3⟩)
    ·exact ⟨0,d,rfl,by simpa using h2,h3⟩
    ·exact ⟨n + 1,e,by simpa using h1,by omega,h3⟩
  rw [sp,← ih,placesFrom_c];split
  ·rename_i hd;rw [mem_cons];constructor
   ·rintro (h | h)
    ·exact .inl ⟨h,hd⟩
    ·exact .inr h
   ·rintro (h | h)
    ·exact .inl h.1
    ·exact .inr h
  ·rename_i hd;constructor
   ·exact .inr
   ·rintro (h | h)
    ·exact absurd h.2 hd
    ·exact h
theorem mem_places {P:bC->Bool} {x:Int} {es:List bC}:x ∈ places P es↔∃ (n:Nat) (e:bC),es[n]? = some e/\x = n/\P e = true:=by
 unfold places;rw [mem_placesFrom];simp
theorem places_in {P:bC->Bool} {x:Int} {es:List bC} (h:x ∈ places P es):0 <= x/\x < es.length:=by
 obtain ⟨n,e,h1,rfl,_⟩:=mem_places.1 h;have:=(List.getElem?_eq_some_iff.1 h1).1;omega
theorem ins_perm (key:Int->Int) (x:Int):∀ l,(ins key x l).Perm (x::l)
 | []=>.refl _
 | y::l=>by
  unfold ins; split
  ·exact .refl _
  ·exact ((ins_perm key x l).cons y).trans (.swap _ _ _)
theorem isort_perm (key:Int->Int):∀ l,(isort key l).Perm l
 | []=>.refl _
 | x::l=>(ins_perm key x _).trans ((isort_perm key l).cons x)
theorem ins_up (key:Int->Int) (x:Int):∀ l,Up key l->Up key (ins key x l)
 | [],_=>List.pairwise_singleton _ _
 | y::l,h=>by
  obtain ⟨h1,h2⟩:=pairwise_cons.1 h;unfold ins; split
  ·rename_i hx;refine pairwise_cons.2 ⟨fun z hz=>?_,h⟩;rcases mem_cons.1 hz with rfl | hz
   ·omega
   ·have:=h1 z hz; omega
  ·rename_i hx;refine pairwise_cons.2 ⟨fun z hz=>?_,ins_up key x l h2⟩;rcases mem_cons.1 ((ins_perm key x l).subset hz) with rfl | hz
   ·omega
   ·exact h1 z hz
theorem isort_up (key:Int->Int):∀ l,Up key (isort key l)
 | []=>.nil
 | x::l=>ins_up key x _ (isort_up key l)
def Apart (es:List bC):Prop:=∀ a b,a ∈ effs es->b ∈ effs es->eff es a = eff es b->a = b
theorem order_of {es:List bC} (ha:Apart es) {l:List Int} (hp:l.Perm (effs es)) (hu:Up (eff es) l):l = order es:=by
 refine List.Perm.eq_of_pairwise (le:=fun x y=>eff es x <= eff es y) (fun a b h1 h2 h3 h4=>?_) hu (isort_up _ _) (hp.trans (isort_perm _ _).symm);exact ha a b (hp.subset h1) ((isort_perm _ _).subset h2) (by omega)
theorem mayFrom_apart {s:gX}:∀ {es:List bC} {last:Int} {seen:List Int} {ends:List (Int × Int)},mayFrom s es last seen ends = true ->
  (∀ (n:Nat) e,es[n]? = some e->e.fDa > 0->e.fDa ∉ seen)/\∀ (n m:Nat) e d,es[n]? = some e->es[m]? = some d->e.fDa > 0->e.fDa = d.fDa->n = m
 | [],_,_,_,_=>⟨fun n e h=>by simp at h,fun n m e d h=>by simp at h⟩
 | e0::es,last,seen,ends,h=>by
  unfold mayFrom at h;split at h
  ·cases h
  ·split at h
   ·cases h
   ·rename_i h1 _;obtain ⟨i1,i2⟩:=mayFrom_apart h;have h0:e0.fDa > 0->e0.fDa ∉ seen:=fun hp hm=>h1 (.inr ⟨hp,hm⟩);refine ⟨fun n e hn hp=>?_,fun n m e d hn hm hp he=>?_⟩
    ·cases n with
     | zero=>simp at hn; subst hn; exact h0 hp
     | succ n=>exact fun hm=>i1 n e (by simpa using hn) hp (by simp [hm])
    ·cases n with
     | zero =>
      cases m with
      | zero=>rfl
      | succ m =>
       simp at hn; subst hn;exact absurd (by simp [he]) (i1 m d (by simpa using hm) (by omega))
     | succ n =>
      cases m with
      | zero =>
       simp at hm; subst hm;exact absurd (by simp [he]) (i1 n e (by simpa using hn) hp)
      | succ m=>rw [i2 n m e d (by simpa using hn) (by simpa using hm) hp he]
theorem eff_nat {es:List bC} {n:Nat} {e:bC} (h:es[n]? = some e):eff es n = e.fDa:=by simp [eff,h]
theorem may_apart {es:List bC} {s:gX} (h:may es s = true):Apart es:=by
 intro a b ha hb he;obtain ⟨n,e,h1,rfl,h2⟩:=mem_places.1 ha;obtain ⟨m,d,h3,rfl,h4⟩:=mem_places.1 hb;rw [eff_nat h1,eff_nat h3] at he;rw [(mayFrom_apart h).2 n m e d h1 h3 (by simpa using h2) he]
end Hist
theorem pd (s:Sl) (es:List bC) (v:Value) (P:bC->Bool) (A:List As) (hb:es.length < 2 ^ 38)
  (hv:∀ e ∈ es,SpV prog v [.agg e.C.toArray] aD (vE s es::A) (fun r=>pa_ (r = P e) (vE s es::A))) :
  Sp prog nE [sv s,v] aU (vE s es::A) (fun r=>ay (vI r (Hist.places P es)::vE s es::A)):=by
 intro h s0;have hl:=(bY (j:=0) s0 rfl).1;refine sim_hist_places _ _ ?_;unfold sh_hist_places;refine Lp.intro (fun (z:Sl × Int) h=>∃ n:Nat,z.2 = n/\n <= es.length/\ay (vI z.1 (Hist.fXa P (es.take n) 0)::vE s es::A) h) (fun (z:Sl × Int) _=>es.length - z.2.toNat) ⟨0,rfl,zero_le _,fu s0⟩ ?_;rintro ⟨z,i⟩ h ⟨n,rfl,hn,s1⟩;unfold tZ;refine aX (fun k=>?_) (fun k=>?_)
 ·have hlt:n < es.length:=by rw [hl] at k; simpa using k
  have hw:i64.wrap ((n:Int) + 1) = ((n + 1:Nat):Int):=by rw [bp (by omega) (by omega)]; rfl
  have ht:es.take (n + 1) = es.take n++[es[n]]:=by simp
  have hlen:((es.take n).length:Int) = n:=by simp; omega
  have hpl:=Hist.placesFrom_len P (es.take n) 0;simp at hpl;refine cU s1 (j:=1) rfl (by omega) (by show (n:Int) < _; omega) fun q hq=>?_;refine cX (j:=1) (i:=n) (k:=0) es[n] eK s1 rfl hq rfl (aB hlt) (by simp) ?_;refine clv_t (hv es[n] (getElem_mem hlt)) s1 fun r h2 s2=>?_;obtain ⟨hr,s3⟩:=bA.1 s2;have s4:=vZ s3;rw [hw];refine aX (fun k2=>?_) (fun k2=>?_)
  ·refine tk s4 (i:=0) rfl (by omega) fun v h' s5=>?_;refine ⟨⟨n + 1,rfl,hlt,?_⟩,by simp; omega⟩;rw [ht,Hist.placesFrom_app,if_pos (by rw [← hr,k2]),hlen,zero_add];exact s5
  ·refine ⟨⟨n + 1,rfl,hlt,?_⟩,by simp; omega⟩;rw [ht,Hist.placesFrom_app,if_neg (by rw [← hr,k2]; exact Bool.false_ne_true),List.append_nil];exact s4
 ·have:n = es.length:=by rw [hl] at k; simp at k; omega
  subst this;rw [List.take_length] at s1;exact s1
theorem cmp_neg (x y:Int):gi x y < 0↔x < y:=by
 unfold gi eU;simp only [bne_self_eq_false,cond_false];by_cases h1:x < y
 ·simp [h1]
 ·by_cases h2:x > y
  ·simp [h1,h2]
  ·simp [h1,h2]
theorem sp_hist_Over (s:Sl) (es:List bC) (a:Int) (hb:es.length < 2 ^ 38):Sp prog vg [sv s,.int .i64 a] aU [vE s es] (fun r=>ay [vI r (Hist.over es a),vE s es]):=by
 intro h s0;refine sim_hist_Over _ _ ?_;unfold sh_hist_Over;refine pC s0 fun b3 h1 s1=>?_;refine cW [1,0] (pd s es _ (fun e=>decide (e.fLa <= a) && (e.fDa == 0 || decide (e.fDa > a))) [blk b3 lE [.int .i64 a]] hb ?_) s1 rfl fun r h2 s2=>?_
 ·intro e he;refine ⟨_,_,_,rfl,enter_hist_Over_c1,fun h s3=>?_⟩;refine sim_hist_Over_c1 e b3 ?_;unfold sh_hist_Over_c1;refine bt a s3 (i:=1) rfl rfl rfl ?_;refine aX (fun k=>?_) (fun k=>?_)
  ·refine bt a s3 (i:=1) rfl rfl rfl ?_;rw [and_eq_true] at k;refine ba ?_ s3;have k2:(e.fDa == 0) = false:=by simpa using k.2
   rw [k.1,k2]; rfl
  ·refine ba ?_ s3;cases k1:decide (e.fLa <= a) with
   | false=>rfl
   | true =>
    rw [k1] at k;have k2:(e.fDa == 0) = true:=by simpa using k
    rw [k2]; rfl
 ·have s3:=dq s2;exact mB (l:=[vI r (Hist.over es a),vE s es]) s3
theorem sp_hist_Order20 (s:Sl) (es:List bC) (hb:es.length <= 20) (ha:Hist.Apart es):Sp prog kF [sv s] aU [vE s es] (fun r=>ay [vI r (Hist.order es),vE s es]):=by
 intro h s0;refine sim_hist_Order _ ?_;unfold vH;refine pC s0 fun b1 h1 s1=>?_;refine bt s s1 (i:=0) rfl rfl rfl ?_;refine cW [1,0] (pd s es _ (fun e=>decide (e.fDa > 0)) [blk b1 dU [sv s]] (by omega) ?_) s1 rfl fun r h2 s2=>?_
 ·intro e he;refine ⟨_,_,_,rfl,sG,fun h s3=>?_⟩;exact (wS e h).mono fun v h' ⟨r,hv,hr,hh⟩=>⟨r,hv,hr,by rw [hh]; exact s3⟩
 ·have s3:=dq s2;have hpl:=Hist.placesFrom_len (fun e=>decide (e.fDa > 0)) es 0;refine cW [0,0,0] (sp_SortStable20 r _ [vE s es,blk b1 dU [sv s]] (Hist.eff es) (fun x=>0 <= x/\x < es.length) ?_ (Hist.effs es) (fun x hx=>Hist.places_in hx) (by unfold Hist.effs Hist.places; omega)) s3 rfl fun u h4 s4=>?_
  ·rintro x y ⟨hx0,hx⟩ ⟨hy0,hy⟩;refine ⟨_,_,_,rfl,sF,fun h s5=>?_⟩;obtain ⟨n,rfl⟩:=Int.eq_ofNat_of_zero_le hx0;obtain ⟨m,rfl⟩:=Int.eq_ofNat_of_zero_le hy0;have hn:n < es.length:=by omega
   have hm:m < es.length:=by omega
   refine uy n m b1 ?_;unfold qI;refine bt s s5 (i:=1) rfl rfl rfl ?_;refine cU s5 (j:=0) rfl (by omega) (by omega) fun q hq=>?_;refine cX (j:=0) (i:=n) (k:=8) es[n].fDa eK s5 rfl hq rfl (aB hn) (c1 rfl rfl) ?_;refine bt s s5 (i:=1) rfl rfl rfl ?_;refine cU s5 (j:=0) rfl (by omega) (by omega) fun q2 hq2=>?_;refine cX (j:=0) (i:=m) (k:=8) es[m].fDa eK s5 rfl hq2 rfl (aB hm) (c1 rfl rfl) ?_;refine ba ?_ s5;rw [cmp_neg,Hist.eff_nat (aB hn),Hist.eff_nat (aB hm)]
  ·obtain ⟨g1,g2,d,rfl,⟨m',⟨p1,p2⟩,s5⟩,s6⟩:=s4;rw [Hist.order_of ha p1 p2] at s5;exact qE (mB (l:=[vI r (Hist.order es),vE s es]) s5) d
theorem sp_hist_May (s:Sl) (es:List bC) (z:gX) (hb:es.length < 2 ^ 38):Sp prog tU [sv s,.agg z.C.toArray] aD [vE s es] (fun r=>pa_ (r = Hist.may es z) [vE s es]):=by
 intro h s0;have hl:=(bY (j:=0) s0 rfl).1;refine sim_hist_May _ _ ?_;unfold sh_hist_May;refine makeMap_m (τ:=Bool) (val:=fun x=>.bool x) rfl s0 fun b1 h1 s1=>?_;refine makeMap_m (τ:=Int) (val:=fun x=>.int .i64 x) rfl s1 fun b2 h2 s2=>?_;refine Lp.intro (fun (y:Int × Int) h=>∃ (n:Nat) (seen:List Int) (ends:List (Int × Int)),y.2 = n/\n <= es.length/\Hist.mayFrom z (es.drop n) y.1 seen ends = Hist.may es z/\ay [mapA b2 (fun x=>Value.int .i64 x) (Hist.endOf ends),mapA b1 (fun x=>Value.bool x) (fun x=>if x ∈ seen then some true else none),vE s es] h) (fun (y:Int × Int) _=>es.length - y.2.toNat) ⟨0,[],[],rfl,zero_le _,rfl,?_⟩ ?_
 ·have e1:(fun x:Int=>if x ∈ ([]:List Int) then some true else none) = fun _=>none:=by funext x; simp
  have e2:Hist.endOf [] = fun _=>none:=by funext x; rfl
  rw [e1,e2]; exact s2
 rintro ⟨last,i⟩ h ⟨n,seen,ends,rfl,hn,he,s3⟩;unfold hist_May_l1;simp only at he ⊢;refine aX (fun k=>?_) (fun k=>?_)
 ·have hlt:n < es.length:=by rw [hl] at k; simpa using k
  have hw:i64.wrap ((n:Int) + 1) = ((n + 1:Nat):Int):=by rw [bp (by omega) (by omega)]; rfl
  rw [List.drop_eq_getElem_cons hlt,Hist.mayFrom] at he;refine cU s3 (j:=2) rfl (by omega) (by omega) fun q hq=>?_;refine cX (j:=2) (i:=n) (k:=0) es[n] eK s3 rfl hq rfl (aB hlt) (by simp) ?_;have rest:¬ (dF es[n] z last = false\/(es[n].fDa > 0/\es[n].fDa ∈ seen))->∀ K:(Int × Int)->Hp->Prop,
    (∀ (s':Int × Int) h',s'.1 = es[n].fLa/\s'.2 = ((n + 1:Nat):Int)->Hist.stops ends es[n] = false->ay [mapA b2 (fun x=>Value.int .i64 x) (Hist.endOf ((es[n].fJa,es[n].fGa)::ends)),mapA b1 (fun x=>Value.bool x) (fun x=>if x ∈ es[n].fDa::seen then some true else none),vE s es] h'->K s' h') ->
    hpv prog (Instr.lookup iu (.map (some b2)) (.int .i64 es[n].fJa) true) bQ (fun (v40:Int × Bool) =>
     br (v40.2 && ((decide (v40.1 <= 0)) || (decide (es[n].fLa <= v40.1)))) (pa_ (false = Hist.may es z) [vE s es]) (
     hpu prog (Instr.mapUpdate jP (.map (some b1)) (.int .i64 es[n].fDa) (.bool true)) <|
     hpu prog (Instr.mapUpdate iu (.map (some b2)) (.int .i64 es[n].fJa) (.int .i64 es[n].fGa)) <|
     K (es[n].fLa,((n + 1:Nat):Int)))) h:=by
   intro hno K hK;rw [if_neg hno] at he;refine lookup_m (j:=0) mp_map_int_int s3 rfl ((Hist.endOf ends es[n].fJa).getD 0,(Hist.endOf ends es[n].fJa).isSome) ?_ ?_
   ·rw [if_pos rfl]; unfold bQ;cases Hist.endOf ends es[n].fJa <;> rfl
   ·have hst:((Hist.endOf ends es[n].fJa).isSome && ((decide ((Hist.endOf ends es[n].fJa).getD 0 <= 0)) || (decide (es[n].fLa <= (Hist.endOf ends es[n].fJa).getD 0)))) = Hist.stops ends es[n]:=by
     unfold Hist.stops;cases Hist.endOf ends es[n].fJa <;> simp
    show br ((Hist.endOf ends es[n].fJa).isSome && ((decide ((Hist.endOf ends es[n].fJa).getD 0 <= 0)) || (decide (es[n].fLa <= (Hist.endOf ends es[n].fJa).getD 0)))) _ _ h;rw [hst];refine aX (fun k2=>?_) (fun k2=>?_)
    ·rw [if_pos k2] at he;exact ba he (ce (l:=[_,_]) s3)
    ·refine update_m (j:=1) (w:=true) mp_map_int_bool s3 rfl rfl fun h4 s4=>?_;refine update_m (j:=0) (w:=es[n].fGa) mp_map_int_int s4 rfl rfl fun h5 s5=>?_;refine hK _ _ ⟨rfl,rfl⟩ k2 ?_;have e1:(fun y=>if y = es[n].fJa then some es[n].fGa else Hist.endOf ends y) = Hist.endOf ((es[n].fJa,es[n].fGa)::ends):=by
      funext y;unfold Hist.endOf;by_cases hy:y = es[n].fJa
      ·subst hy; simp
      ·have:(es[n].fJa == y) = false:=by simpa using fun e=>hy e.symm
       simp [hy,this]
     have e2:(fun y=>if y = es[n].fDa then some true else if y ∈ seen then some true else none) = fun x=>if x ∈ es[n].fDa::seen then some true else none:=by
      funext y;by_cases hy:y = es[n].fDa <;> simp [hy]
     rw [← e1,← e2];exact s5
  have go:¬ (dF es[n] z last = false\/(es[n].fDa > 0/\es[n].fDa ∈ seen))->∀ (s':Int × Int) h',s'.1 = es[n].fLa/\s'.2 = ((n + 1:Nat):Int)->Hist.stops ends es[n] = false->ay [mapA b2 (fun x=>Value.int .i64 x) (Hist.endOf ((es[n].fJa,es[n].fGa)::ends)),mapA b1 (fun x=>Value.bool x) (fun x=>if x ∈ es[n].fDa::seen then some true else none),vE s es] h' ->
    (∃ (n:Nat) (seen:List Int) (ends:List (Int × Int)),s'.2 = n/\n <= es.length/\Hist.mayFrom z (es.drop n) s'.1 seen ends = Hist.may es z/\ay [mapA b2 (fun x=>Value.int .i64 x) (Hist.endOf ends),mapA b1 (fun x=>Value.bool x) (fun x=>if x ∈ seen then some true else none),vE s es] h')/\es.length - s'.2.toNat < es.length - (n:Int).toNat:=by
   rintro hno ⟨u,w⟩ h' ⟨h4,h5⟩ hst s4;simp only at h4 h5;subst h4; subst h5;rw [if_neg hno,if_neg (by rw [hst]; exact Bool.false_ne_true)] at he;exact ⟨⟨n + 1,_,_,rfl,hlt,he,s4⟩,by simp; omega⟩
  rw [hw];refine aX (fun k2=>?_) (fun k2=>?_)
  ·rw [and_eq_true] at k2;have k1:dF es[n] z last = true:=by simpa using k2.1
   have kp:es[n].fDa > 0:=by simpa using k2.2
   refine lookup_m (j:=1) mp_map_int_bool s3 rfl (decide (es[n].fDa ∈ seen)) ?_ ?_
   ·rw [if_neg Bool.false_ne_true]; unfold aD;by_cases hm:es[n].fDa ∈ seen <;> simp [hm]
   ·refine aX (fun k3=>?_) (fun k3=>?_)
    ·have hm:es[n].fDa ∈ seen:=of_decide_eq_true k3;rw [if_pos (.inr ⟨kp,hm⟩)] at he;exact ba he (ce (l:=[_,_]) s3)
    ·have hm:es[n].fDa ∉ seen:=of_decide_eq_false k3;have hno:¬ (dF es[n] z last = false\/(es[n].fDa > 0/\es[n].fDa ∈ seen)):=by simp [k1,hm]
     exact rest hno _ (go hno)
  ·refine aX (fun k3=>?_) (fun k3=>?_)
   ·have k1:dF es[n] z last = false:=by simpa using k3
    rw [if_pos (.inl k1)] at he;exact ba he (ce (l:=[_,_]) s3)
   ·have k1:dF es[n] z last = true:=by simpa using k3
    have kp:¬ es[n].fDa > 0:=by simp [k1] at k2; omega
    have hno:¬ (dF es[n] z last = false\/(es[n].fDa > 0/\es[n].fDa ∈ seen)):=by simp [k1]; intro hh; exact absurd hh kp
    exact rest hno _ (go hno)
 ·have:n = es.length:=by rw [hl] at k; simp at k; omega
  subst this;rw [List.drop_length] at he;exact ba he (ce (l:=[_,_]) s3)
end
section
open Go Mb
theorem tL (P:bC->Bool):∀ (a b:List bC) (i:Int),Hist.fXa P (a++b) i = Hist.fXa P a i++Hist.fXa P b (i + a.length)
 | [],b,i=>by simp [Hist.fXa]
 | e::a,b,i=>by
  rw [cons_append,Hist.placesFrom_c,Hist.placesFrom_c,tL P a b (i + 1)];have h:i + 1 + (a.length:Int) = i + ((e::a).length:Int):=by simp; omega
  rw [h];split <;> simp
theorem may_end {z:gX}:∀ {es:List bC} {last:Int} {seen:List Int} {ends:List (Int × Int)},Hist.mayFrom z es last seen ends = true->0 <= last->∀ e ∈ es,e.fGa = 0\/0 < e.fGa
 | [],_,_,_,_,_,e,he=>by cases he
 | d::es,last,seen,ends,h,h0,e,he=>by
  rw [Hist.mayFrom] at h;split at h
  ·cases h
  ·rename_i h1;split at h
   ·cases h
   ·have hone:dF d z last = true:=by
     cases hh:dF d z last with
     | true=>rfl
     | false=>exact absurd (.inl hh) h1
    unfold dF at hone;have hb:last < d.fLa/\(d.fGa = 0\/0 < d.fGa):=by
     by_cases c1:(((((decide (d.fJa < 0)) || (decide (d.fJa >= z.fOa))) || (decide (d.fCa < 0))) || (decide (d.fCa >= z.fIa))) || (decide (d.fLa <= last))) = true
     ·rw [c1] at hone; cases hone
     ·have c2:¬ d.fLa <= last:=fun hx=>c1 (by rw [Bool.or_eq_true]; exact .inr (decide_eq_true hx));have c3:(((((decide (d.fJa < 0)) || (decide (d.fJa >= z.fOa))) || (decide (d.fCa < 0))) || (decide (d.fCa >= z.fIa))) || (decide (d.fLa <= last))) = false:=by simpa using c1
      rw [c3] at hone;simp only [cond_false] at hone;refine ⟨by omega,?_⟩;by_cases c4:d.fDa = 0
      ·rw [c4] at hone;exact .inl (by simpa using hone)
      ·have c5:(d.fDa == 0) = false:=by simpa using c4
       rw [c5] at hone;simp only [cond_false] at hone;simp at hone;omega
    rcases mem_cons.1 he with rfl | he
    ·exact hb.2
    ·exact may_end h (by omega) e he
theorem done_at {es:List bC} {i:Nat} {e:bC} (hi:es[i]? = some e):Hist.done es = Hist.fXa (fun e=>e.fGa != 0) (es.take i) 0++((if e.fGa != 0 then [(i:Int)] else [])++Hist.fXa (fun e=>e.fGa != 0) (es.drop (i + 1)) ((i:Int) + 1)):=by
 obtain ⟨hlt,rfl⟩:=List.getElem?_eq_some_iff.1 hi;have hs:es = es.take i++es[i]::es.drop (i + 1):=by rw [← List.drop_eq_getElem_cons hlt,take_append_drop]
 have hl:((es.take i).length:Int) = i:=by rw [length_take]; omega
 show Hist.fXa _ es 0 = _;rw (config:={ occs:=.pos [1] }) [hs];rw [tL,hl,zero_add,Hist.placesFrom_c];split <;> simp
theorem done_take {es:List bC} {i:Nat} {e:bC} (hi:es[i]? = some e):Hist.fXa (fun e=>e.fGa != 0) (es.take (i + 1)) 0 = Hist.fXa (fun e=>e.fGa != 0) (es.take i) 0++(if e.fGa != 0 then [(i:Int)] else []):=by
 obtain ⟨hlt,rfl⟩:=List.getElem?_eq_some_iff.1 hi;have ht:es.take (i + 1) = es.take i++[es[i]]:=by simp
 have hl:((es.take i).length:Int) = i:=by rw [length_take]; omega
 rw [ht,tL,hl,zero_add,Hist.placesFrom_c]
 rfl
end
section
open Go Mb
section pure
variable {key:Int->Int}
theorem up_ins {a1 a2:List Int} {y:Int} (h:Up key (a1++a2)) (h1:∀ x ∈ a1,key x <= key y) (h2:∀ x ∈ a2,key y <= key x):Up key (a1++y::a2):=by
 obtain ⟨p1,p2,p3⟩:=pairwise_append.1 h;refine pairwise_append.2 ⟨p1,pairwise_cons.2 ⟨h2,p2⟩,fun x hx z hz=>?_⟩;rcases mem_cons.1 hz with rfl | hz
 ·exact h1 x hx
 ·exact p3 x hx z hz
theorem up_join {u1 u2 v1 v2 w1 w2:List Int} (hu:Up key (u1++u2)) (hv:Up key (v1++v2)) (h12:∀ x ∈ u1,∀ y ∈ v2,key x <= key y) (h21:∀ x ∈ v1,∀ y ∈ u2,key x <= key y) (p1:w1.Perm (u1++v1)) (p2:w2.Perm (u2++v2)) (s1:Up key w1) (s2:Up key w2):Up key (w1++w2):=by
 refine pairwise_append.2 ⟨s1,s2,fun x hx y hy=>?_⟩;rcases List.mem_append.1 (p1.subset hx) with hx | hx <;> rcases List.mem_append.1 (p2.subset hy) with hy | hy
 ·exact (pairwise_append.1 hu).2.2 x hx y hy
 ·exact h12 x hx y hy
 ·exact h21 x hx y hy
 ·exact (pairwise_append.1 hv).2.2 x hx y hy
theorem perm_join {u1 u2 v1 v2 w1 w2:List Int} (p1:w1.Perm (u1++v1)) (p2:w2.Perm (u2++v2)):(w1++w2).Perm ((u1++u2)++(v1++v2)):=by
 refine (p1.append p2).trans ?_;have:((u1++v1)++(u2++v2)) = u1++((v1++u2)++v2):=by simp
 rw [this];have:((u1++u2)++(v1++v2)) = u1++((u2++v1)++v2):=by simp
 rw [this];exact ((List.perm_append_comm).append_right v2).append_left u1
theorem up_take {l:List Int} (h:Up key l) {i:Nat} {z x:Int} (hz:l[i]? = some z) (hx:x ∈ l.take (i + 1)):key x <= key z:=by
 obtain ⟨hi,rfl⟩:=List.getElem?_eq_some_iff.1 hz;obtain ⟨j,hj,rfl⟩:=List.getElem_of_mem hx;rw [length_take] at hj;rw [List.getElem_take];rcases Nat.lt_or_ge j i with h1 | h1
 ·exact List.pairwise_iff_getElem.1 h j i (by omega) hi h1
 ·have:j = i:=by omega
  subst this; exact Int.le_refl _
theorem up_drop {l:List Int} (h:Up key l) {i:Nat} {z x:Int} (hz:l[i]? = some z) (hx:x ∈ l.drop i):key z <= key x:=by
 obtain ⟨hi,rfl⟩:=List.getElem?_eq_some_iff.1 hz;obtain ⟨j,hj,rfl⟩:=List.getElem_of_mem hx;rw [length_drop] at hj;rw [List.getElem_drop];rcases Nat.eq_zero_or_pos j with h1 | h1
 ·subst h1; exact Int.le_refl _
 ·exact List.pairwise_iff_getElem.1 h i (i + j) hi (by omega) (by omega)
end pure
def hf (x y:Int):Int:=i64.wrap (fdiv (u64.wrap (i64.wrap (x + y))) (2 ^ (min (Int.toNat 1) (IntKind.bits .u64))))
section
variable (s:Sl) (f:Value) (A:List As)
theorem sp_swapRange (x u y v z:List Int) (hl:u.length = v.length) (hb:x.length + u.length + y.length + v.length + z.length < 2 ^ 60) :
  Sp prog dr [sv s,.int .i64 x.length,.int .i64 (x.length + u.length + y.length:Nat),.int .i64 u.length,f] R_ (vI s (x++(u++(y++(v++z))))::A) (fun _ h=>ay (vI s (x++(v++(y++(u++z))))::A) h):=by
 intro h s0;refine qa _ _ _ _ _ ?_;unfold jS;refine Lp.intro (fun (i:Int) h=>∃ u1 u2 v1 v2:List Int,u1++u2 = u/\v1++v2 = v/\u1.length = v1.length/\i = ((u1.length:Nat):Int)/\ay (vI s (x++((v1++u2)++(y++((u1++v2)++z))))::A) h) (fun (i:Int) _=>u.length - i.toNat) ⟨[],u,[],v,rfl,rfl,rfl,rfl,s0⟩ ?_;rintro i h1 ⟨u1,u2,v1,v2,rfl,rfl,h11,rfl,s1⟩;simp only [length_append] at hl hb ⊢;unfold gg;refine aX (fun k=>?_) (fun k=>?_)
 ·have hlt:0 < u2.length:=by have:=of_decide_eq_true k; omega
  obtain ⟨a,u2,rfl⟩:=List.exists_cons_of_length_pos hlt;have hlv:0 < v2.length:=by simp at hl; omega
  obtain ⟨b,v2,rfl⟩:=List.exists_cons_of_length_pos hlv;simp only [List.length_cons] at hl hb ⊢;have w1:i64.wrap (((x.length + (u1.length + (u2.length + 1)) + y.length:Nat):Int) + ((u1.length:Nat):Int)) = ((x.length + (u1.length + (u2.length + 1)) + y.length + u1.length:Nat):Int):=by rw [bp (by omega) (by omega)]; omega
  have w2:i64.wrap (((x.length:Nat):Int) + ((u1.length:Nat):Int)) = ((x.length + u1.length:Nat):Int):=by rw [bp (by omega) (by omega)]; omega
  have w3:i64.wrap (((u1.length:Nat):Int) + 1) = ((u1.length + 1:Nat):Int):=by rw [bp (by omega) (by omega)]; omega
  rw [w1,w2,w3];have d1:x++((v1++a::u2)++(y++((u1++b::v2)++z))) = (x++v1)++a::(u2++(y++((u1++b::v2)++z))):=by simp
  have d2:(x++v1)++a::(u2++(y++((u1++b::v2)++z))) = (x++v1++a::u2++y++u1)++b::(v2++z):=by simp
  have d3:(x++v1)++b::(u2++(y++((u1++b::v2)++z))) = (x++v1++b::u2++y++u1)++b::(v2++z):=by simp
  have i1:x.length + u1.length = (x++v1).length:=by simp; omega
  have i2:x.length + (u1.length + (u2.length + 1)) + y.length + u1.length = (x++v1++a::u2++y++u1).length:=by simp; omega
  have i3:(x++v1++a::u2++y++u1).length = (x++v1++b::u2++y++u1).length:=by simp
  rw [d1] at s1;have g1:((x++v1)++a::(u2++(y++((u1++b::v2)++z))))[x.length + u1.length]? = some a:=by rw [i1]; exact pO
  have g2:((x++v1)++a::(u2++(y++((u1++b::v2)++z))))[x.length + (u1.length + (u2.length + 1)) + y.length + u1.length]? = some b:=by rw [d2,i2]; exact pO
  have g1l:=(List.getElem?_eq_some_iff.1 g1).1;have g2l:=(List.getElem?_eq_some_iff.1 g2).1;refine cU s1 (j:=0) rfl (by omega) (by omega) fun q1 hq1=>?_;refine cU s1 (j:=0) rfl (by omega) (by omega) fun q2 hq2=>?_;refine cX (j:=0) (i:=x.length + (u1.length + (u2.length + 1)) + y.length + u1.length) (k:=0) b (cf _) s1 rfl hq1 (by rw [toNat_natCast]; rfl) g2 (by simp) ?_;refine cX (j:=0) (i:=x.length + u1.length) (k:=0) a (cf _) s1 rfl hq2 (by rw [toNat_natCast]; rfl) g1 (by simp) ?_;refine uq (j:=0) (i:=x.length + u1.length) (k:=0) b (cf _) s1 rfl hq2 (by rw [toNat_natCast]; rfl) g1 (by simp) rfl fun h6 s6=>?_;rw [i1,mid_set,d3] at s6;have g3:((x++v1++b::u2++y++u1)++b::(v2++z))[x.length + (u1.length + (u2.length + 1)) + y.length + u1.length]? = some b:=by rw [i2,i3]; exact pO
  refine uq (j:=0) (i:=x.length + (u1.length + (u2.length + 1)) + y.length + u1.length) (k:=0) a (cf _) s6 rfl hq1 (by rw [toNat_natCast]; rfl) g3 (by simp) rfl fun h7 s7=>?_;have s7:ay (vI s (((x++v1++b::u2++y++u1)++b::(v2++z)).set (x.length + (u1.length + (u2.length + 1)) + y.length + u1.length) a)::A) h7:=s7;rw [i2,i3,mid_set] at s7;refine ⟨⟨u1++[a],u2,v1++[b],v2,by simp,by simp,by simp; omega,by simp,?_⟩,by simp; omega⟩;have d4:(x++v1++b::u2++y++u1)++a::(v2++z) = x++((v1++[b]++u2)++(y++((u1++[a]++v2)++z))):=by simp
  rw [d4] at s7; exact s7
 ·have e2:u2 = []:=by
   have:=of_decide_eq_false k;exact eq_nil_of_length_eq_zero (by omega)
  subst e2;have e3:v2 = []:=eq_nil_of_length_eq_zero (by simp at hl; omega);subst e3;have d:x++((v1++[])++(y++((u1++[])++z))) = x++((v1++[])++(y++((u1++[])++z))):=rfl;exact s1
theorem sp_rotate (x u v z:List Int) (hu:u ≠ []) (hv:v ≠ []) (hb:x.length + u.length + v.length + z.length < 2 ^ 59) :
  Sp prog dL [sv s,.int .i64 x.length,.int .i64 (x.length + u.length:Nat),.int .i64 (x.length + u.length + v.length:Nat),f] R_ (vI s (x++(u++(v++z)))::A) (fun _ h=>ay (vI s (x++(v++(u++z)))::A) h):=by
 intro h s0;refine rO _ _ _ _ _ ?_;unfold lF;have w1:i64.wrap (((x.length + u.length:Nat):Int) - ((x.length:Nat):Int)) = ((u.length:Nat):Int):=by rw [bp (by omega) (by omega)]; omega
 have w2:i64.wrap (((x.length + u.length + v.length:Nat):Int) - ((x.length + u.length:Nat):Int)) = ((v.length:Nat):Int):=by rw [bp (by omega) (by omega)]; omega
 rw [w1,w2];have swp:∀ (X U Y V Z:List Int) (a b c:Int) (h':Hp) (K:Unit->Hp->Prop),U.length = V.length->X.length + U.length + Y.length + V.length + Z.length < 2 ^ 60->a = ((X.length:Nat):Int)->b = ((X.length + U.length + Y.length:Nat):Int)->c = ((U.length:Nat):Int)->ay (vI s (X++(U++(Y++(V++Z))))::A) h' ->
   (∀ h',ay (vI s (X++(V++(Y++(U++Z))))::A) h'->K () h')->cl prog dr [sv s,.int .i64 a,.int .i64 b,.int .i64 c,f] R_ K h':=by
  rintro X U Y V Z a b c h' K h1 h2 rfl rfl rfl s1 k;refine (sp_swapRange s f A X U Y V Z h1 h2 h' s1).mono ?_;rintro w h'' ⟨r,e,s2⟩;exact ⟨r,e,k h'' s2⟩
 refine Lp.intro (fun (t:Int × Int) h=>∃ X U V Z:List Int,t = (((U.length:Nat):Int),((V.length:Nat):Int))/\U ≠ []/\V ≠ []/\X.length + U.length = x.length + u.length/\X++(V++(U++Z)) = x++(v++(u++z))/\ay (vI s (X++(U++(V++Z)))::A) h) (fun (t:Int × Int) _=>t.1.toNat + t.2.toNat) ⟨x,u,v,z,rfl,hu,hv,rfl,rfl,s0⟩ ?_;rintro t h1 ⟨X,U,V,Z,rfl,hU,hV,hm,ht,s1⟩;have hlen:=congrArg List.length ht;simp only [length_append] at hlen;have hup:=length_pos_iff.2 hU;have hvp:=length_pos_iff.2 hV;unfold ig;simp only;have w3:i64.wrap (((x.length + u.length:Nat):Int) - ((U.length:Nat):Int)) = ((X.length:Nat):Int):=by rw [bp (by omega) (by omega)]; omega
 rw [w3];refine aX (fun k1=>?_) (fun k1=>?_)
 ·refine aX (fun k2=>?_) (fun k2=>?_)
  ·have hgt:V.length < U.length:=by have:=of_decide_eq_true k2; omega
   have hs:U = U.take V.length++U.drop V.length:=(take_append_drop _ _).symm;have l1:(U.take V.length).length = V.length:=by rw [length_take]; omega
   have l2:(U.drop V.length).length = U.length - V.length:=length_drop;generalize U.take V.length = U1 at hs l1;generalize U.drop V.length = U2 at hs l2;subst hs;have hUl:(U1++U2).length = U1.length + U2.length:=length_append;refine swp X U1 U2 V Z _ _ _ _ _ l1 (by simp at hm; omega) rfl (by simp at hm; omega) (by omega) (by simpa using s1) fun h2 s2=>?_;have w4:i64.wrap ((((U1++U2).length:Nat):Int) - ((V.length:Nat):Int)) = ((U2.length:Nat):Int):=by rw [bp (by simp; omega) (by simp; omega)]; simp; omega
   rw [w4];refine ⟨⟨X++V,U2,U1,Z,by rw [l1],?_,?_,by rw [length_append]; omega,by rw [← ht]; simp,by simpa using s2⟩,by simp; omega⟩
   ·intro e; have:=congrArg List.length e; simp only [List.length_nil] at this; omega
   ·intro e; rw [e] at l1; simp at l1; omega
  ·have hgt:U.length < V.length:=by
    have a1:=of_decide_eq_false k2;have a2:((U.length:Nat):Int) ≠ ((V.length:Nat):Int):=by simpa using k1
    omega
   have hs:V = V.take (V.length - U.length)++V.drop (V.length - U.length):=(take_append_drop _ _).symm;have l1:(V.take (V.length - U.length)).length = V.length - U.length:=by rw [length_take]; omega
   have l2:(V.drop (V.length - U.length)).length = U.length:=by rw [length_drop]; omega
   have w5:i64.wrap ((i64.wrap (((x.length + u.length:Nat):Int) + ((V.length:Nat):Int))) - ((U.length:Nat):Int)) = ((x.length + u.length + V.length - U.length:Nat):Int):=by rw [bp (n:=((x.length + u.length:Nat):Int) + ((V.length:Nat):Int)) (by omega) (by omega),bp (by omega) (by omega)]; omega
   have w6:i64.wrap (((V.length:Nat):Int) - ((U.length:Nat):Int)) = ((V.length - U.length:Nat):Int):=by rw [bp (by omega) (by omega)]; omega
   rw [w5,w6];generalize V.take (V.length - U.length) = V1 at hs l1;generalize V.drop (V.length - U.length) = V2 at hs l2;have hVl:V.length = V1.length + V2.length:=by rw [hs,length_append]
   rw [hs] at s1 ht;refine swp X U V1 V2 Z _ _ _ _ _ l2.symm (by omega) rfl (by omega) rfl (by simpa using s1) fun h2 s2=>?_;refine ⟨⟨X,V2,V1,U++Z,by rw [l2,← l1],?_,?_,by omega,by rw [← ht]; simp,by simpa using s2⟩,by simp; omega⟩
   ·intro e; rw [e] at l2; simp at l2; omega
   ·intro e; rw [e] at l1; simp at l1; omega
 ·have he:U.length = V.length:=by
   have:((U.length:Nat):Int) = ((V.length:Nat):Int):=by simpa using k1
   omega
  refine swp X U [] V Z _ _ _ _ _ he (by simp; omega) rfl (by simp; omega) rfl (by simpa using s1) fun h2 s2=>?_;rw [← ht];simpa using s2
end
end
section
open Go Mb
theorem up_get {key:Int->Int} {l:List Int} (h:Up key l) {i j:Nat} {x y:Int} (hij:i <= j) (hx:l[i]? = some x) (hy:l[j]? = some y):key x <= key y:=by
 obtain ⟨hi,rfl⟩:=List.getElem?_eq_some_iff.1 hx;obtain ⟨hj,rfl⟩:=List.getElem?_eq_some_iff.1 hy;rcases Nat.lt_or_ge i j with h1 | h1
 ·exact List.pairwise_iff_getElem.1 h i j hi hj h1
 ·have:i = j:=by omega
  subst this; exact Int.le_refl _
theorem mem_get {l:List Int} {x:Int} (h:x ∈ l):∃ i:Nat,i < l.length/\l[i]? = some x:=by
 obtain ⟨i,hi,rfl⟩:=List.getElem_of_mem h;exact ⟨i,hi,getElem?_eq_getElem hi⟩
section
variable (s:Sl) (f:Value) (A:List As) (key:Int->Int) (S:Int->Prop) (hv:CmpOk f A key S)
include hv
theorem merge_l1 (p v q:List Int) (x:Int) (K:Unit->Hp->Prop) (hS:S x/\∀ y ∈ v,S y) (hu:Up key v) (hb:p.length + v.length + q.length + 1 < 2 ^ 60) {h:Hp} (s0:ay (vI s (p++(x::v++q))::A) h)
  (k:∀ m' h',m'.Perm (x::v)->Up key m'->ay (vI s (p++(m'++q))::A) h'->K () h') :
  Lp (fe s p.length f K) (((p.length + 1:Nat):Int),((p.length + 1 + v.length:Nat):Int)) h:=by
 refine Lp.intro (fun (t:Int × Int) h=>∃ i j:Nat,t = (((p.length + 1 + i:Nat):Int),((p.length + 1 + j:Nat):Int))/\i <= j/\j <= v.length/\(∀ (t:Nat) y,t < i->v[t]? = some y->key y < key x)/\(∀ (t:Nat) y,j <= t->v[t]? = some y->key x <= key y)/\ay (vI s (p++(x::v++q))::A) h) (fun (t:Int × Int) _=>t.2.toNat - t.1.toNat)
  ⟨0,v.length,rfl,zero_le _,le_refl _,fun t y h=>absurd h (Nat.not_lt_zero t),fun t y h1 h2=>by have:=(List.getElem?_eq_some_iff.1 h2).1; omega,s0⟩ ?_
 rintro t h1 ⟨i,j,rfl,hij,hj,hlo,hhi,s1⟩;unfold fe;simp only;have hh:i64.wrap (fdiv (u64.wrap (i64.wrap (((p.length + 1 + i:Nat):Int) + ((p.length + 1 + j:Nat):Int)))) (2 ^ (min (Int.toNat 1) (IntKind.bits .u64)))) = ((p.length + 1 + (i + j) / 2:Nat):Int):=by
  rw [mid_eq _ _ (by omega)]; omega
 rw [hh];refine aX (fun c=>?_) (fun c=>?_)
 ·have hlt:i < j:=by have:=of_decide_eq_true c; omega
  obtain ⟨m,hm⟩:∃ m,m = (i + j) / 2:=⟨_,rfl⟩
  rw [← hm];have hmv:m < v.length:=by omega
  have g1:(p++(x::v++q))[p.length + 1 + m]? = some v[m]:=by
   rw [getElem?_append_right (by omega),show p.length + 1 + m - p.length = m + 1 by omega,cons_append,List.getElem?_cons_succ,List.getElem?_append_left hmv,getElem?_eq_getElem hmv]
  have g2:(p++(x::v++q))[p.length]? = some x:=by
   rw [getElem?_append_right (by omega),show p.length - p.length = 0 by omega]; rfl
  have l1:=(List.getElem?_eq_some_iff.1 g1).1;refine cU s1 (j:=0) rfl (by omega) (by omega) fun q1 hq1=>?_;refine cU s1 (j:=0) rfl (by omega) (by omega) fun q2 hq2=>?_;refine cX (j:=0) (i:=p.length + 1 + m) (k:=0) v[m] (cf _) s1 rfl hq1 (by rw [toNat_natCast]; rfl) g1 (by simp) ?_;refine cX (j:=0) (i:=p.length) (k:=0) x (cf _) s1 rfl hq2 (by rw [toNat_natCast]; rfl) g2 (by simp) ?_;refine clv_t (hv v[m] x (hS.2 _ (getElem_mem hmv)) hS.1) s1 fun r h3 s3=>?_;obtain ⟨hr,s4⟩:=bA.1 s3;have s5:=vZ s4;refine aX (fun k3=>?_) (fun k3=>?_)
  ·have k3':=hr.1 (of_decide_eq_true k3);have hw:i64.wrap (((p.length + 1 + m:Nat):Int) + 1) = ((p.length + 1 + (m + 1):Nat):Int):=by rw [bp (by omega) (by omega)]; omega
   rw [hw];refine ⟨⟨m + 1,j,rfl,by omega,hj,fun t y h4 h5=>?_,hhi,s5⟩,by simp only [toNat_natCast]; omega⟩;have:=up_get hu (show t <= m by omega) h5 (getElem?_eq_getElem hmv);omega
  ·have k3':key x <= key v[m]:=by
    have:¬ key v[m] < key x:=fun hh=>by have:=hr.2 hh; simp at k3; omega
    omega
   refine ⟨⟨i,m,rfl,by omega,by omega,hlo,fun t y h4 h5=>?_,s5⟩,by simp only [toNat_natCast]; omega⟩;have:=up_get hu h4 (getElem?_eq_getElem hmv) h5;omega
 ·have he:i = j:=by have:=of_decide_eq_false c; omega
  subst he;have fin:∀ (h':Hp),ay (vI s (p++((v.take i++x::v.drop i)++q))::A) h'->K () h':=by
   intro h' s';refine k _ h' ?_ ?_ s'
   ·have:=List.perm_middle (a:=x) (l₁:=v.take i) (l₂:=v.drop i);rw [take_append_drop] at this; exact this
   ·refine up_ins (by rw [take_append_drop]; exact hu) (fun y hy=>?_) (fun y hy=>?_)
    ·obtain ⟨t,h4,h5⟩:=mem_get hy;rw [length_take] at h4;rw [List.getElem?_take_of_lt (by omega)] at h5;exact Int.le_of_lt (hlo t y (by omega) h5)
    ·obtain ⟨t,h4,h5⟩:=mem_get hy;rw [List.getElem?_drop] at h5;exact hhi (i + t) y (by omega) h5
  refine Lp.intro (fun (t:Int) h=>∃ m:Nat,t = ((p.length + m:Nat):Int)/\m <= i/\ay (vI s (p++((v.take m++x::v.drop m)++q))::A) h) (fun (t:Int) _=>p.length + i - t.toNat) ⟨0,by simp,zero_le _,by simpa using s1⟩ ?_;rintro t h2 ⟨m,rfl,hm,s2⟩;unfold gB;simp only;have hw0:i64.wrap (((p.length + 1 + i:Nat):Int) - 1) = ((p.length + i:Nat):Int):=by rw [bp (by omega) (by omega)]; omega
  have hw1:i64.wrap (((p.length + m:Nat):Int) + 1) = ((p.length + m + 1:Nat):Int):=by rw [bp (by omega) (by omega)]; omega
  rw [hw0,hw1];refine aX (fun c2=>?_) (fun c2=>?_)
  ·have hlt:m < i:=by have:=of_decide_eq_true c2; omega
   have hmv:m < v.length:=by omega
   have hd:v.drop m = v[m]::v.drop (m + 1):=List.drop_eq_getElem_cons hmv;rw [hd] at s2;have hlt2:(v.take m).length = m:=by rw [length_take]; omega
   have d1:p++((v.take m++x::v[m]::v.drop (m + 1))++q) = (p++v.take m)++x::v[m]::(v.drop (m + 1)++q):=by simp only [append_assoc,cons_append,nil_append]
   rw [d1] at s2;have hL:p.length + m = (p++v.take m).length:=by rw [length_append,hlt2]
   rw [hL];have hsl:=(bY (j:=0) s2 rfl).1;have hlen:((p++v.take m)++x::v[m]::(v.drop (m + 1)++q)).length = (p++v.take m).length + 2 + (v.drop (m + 1)++q).length:=by simp; omega
   refine cU s2 (j:=0) rfl (by omega) (by omega) fun q1 hq1=>?_;refine cU s2 (j:=0) rfl (by omega) (by omega) fun q2 hq2=>?_;refine cX (j:=0) (i:=(p++v.take m).length + 1) (k:=0) v[m] (cf _) s2 rfl hq1 (by rw [toNat_natCast]; rfl) tX (by simp) ?_;refine cX (j:=0) (i:=(p++v.take m).length) (k:=0) x (cf _) s2 rfl hq2 (by rw [toNat_natCast]; rfl) pO (by simp) ?_;refine uq (j:=0) (i:=(p++v.take m).length) (k:=0) v[m] (cf _) s2 rfl hq2 (by rw [toNat_natCast]; rfl) pO (by simp) rfl fun h6 s6=>?_;rw [mid_set] at s6;refine uq (j:=0) (i:=(p++v.take m).length + 1) (k:=0) x (cf _) s6 rfl hq1 (by rw [toNat_natCast]; rfl) tX (by simp) rfl fun h7 s7=>?_;have s7:ay (vI s (((p++v.take m)++v[m]::v[m]::(v.drop (m + 1)++q)).set ((p++v.take m).length + 1) x)::A) h7:=s7;rw [mid_set1] at s7;refine ⟨⟨m + 1,by rw [← hL]; rfl,by omega,?_⟩,by rw [← hL]; simp only [toNat_natCast]; omega⟩;have ht:v.take (m + 1) = v.take m++[v[m]]:=by rw [List.take_append_getElem]
   rw [ht];have d2:p++((v.take m++[v[m]]++x::v.drop (m + 1))++q) = (p++v.take m)++v[m]::x::(v.drop (m + 1)++q):=by simp only [append_assoc,cons_append,nil_append]
   rw [d2]; exact s7
  ·have he:m = i:=by have:=of_decide_eq_false c2; omega
   subst he;exact fin h2 s2
theorem merge_l3 (p u q:List Int) (x:Int) (K:Unit->Hp->Prop) (hS:S x/\∀ y ∈ u,S y) (hu:Up key u) (hb:p.length + u.length + q.length + 1 < 2 ^ 60) {h:Hp} (s0:ay (vI s (p++(u++x::q))::A) h)
  (k:∀ m' h',m'.Perm (u++[x])->Up key m'->ay (vI s (p++(m'++q))::A) h'->K () h') :
  Lp (fd s ((p.length + u.length:Nat):Int) f K) (((p.length:Nat):Int),((p.length + u.length:Nat):Int)) h:=by
 refine Lp.intro (fun (t:Int × Int) h=>∃ i j:Nat,t = (((p.length + i:Nat):Int),((p.length + j:Nat):Int))/\i <= j/\j <= u.length/\(∀ (t:Nat) y,t < i->u[t]? = some y->key y <= key x)/\(∀ (t:Nat) y,j <= t->u[t]? = some y->key x < key y)/\ay (vI s (p++(u++x::q))::A) h) (fun (t:Int × Int) _=>t.2.toNat - t.1.toNat)
  ⟨0,u.length,by simp,zero_le _,le_refl _,fun t y h=>absurd h (Nat.not_lt_zero t),fun t y h1 h2=>by have:=(List.getElem?_eq_some_iff.1 h2).1; omega,s0⟩ ?_
 rintro t h1 ⟨i,j,rfl,hij,hj,hlo,hhi,s1⟩;unfold fd;simp only;have hh:i64.wrap (fdiv (u64.wrap (i64.wrap (((p.length + i:Nat):Int) + ((p.length + j:Nat):Int)))) (2 ^ (min (Int.toNat 1) (IntKind.bits .u64)))) = ((p.length + (i + j) / 2:Nat):Int):=by
  rw [mid_eq _ _ (by omega)]; omega
 rw [hh];refine aX (fun c=>?_) (fun c=>?_)
 ·have hlt:i < j:=by have:=of_decide_eq_true c; omega
  obtain ⟨m,hm⟩:∃ m,m = (i + j) / 2:=⟨_,rfl⟩
  rw [← hm];have hmv:m < u.length:=by omega
  have g1:(p++(u++x::q))[p.length + m]? = some u[m]:=by
   rw [getElem?_append_right (by omega),show p.length + m - p.length = m by omega,List.getElem?_append_left hmv,getElem?_eq_getElem hmv]
  have g2:(p++(u++x::q))[p.length + u.length]? = some x:=by
   rw [getElem?_append_right (by omega),show p.length + u.length - p.length = u.length by omega]; exact pO
  have l1:=(List.getElem?_eq_some_iff.1 g2).1;refine cU s1 (j:=0) rfl (by omega) (by omega) fun q1 hq1=>?_;refine cU s1 (j:=0) rfl (by omega) (by omega) fun q2 hq2=>?_;refine cX (j:=0) (i:=p.length + u.length) (k:=0) x (cf _) s1 rfl hq1 (by rw [toNat_natCast]; rfl) g2 (by simp) ?_;refine cX (j:=0) (i:=p.length + m) (k:=0) u[m] (cf _) s1 rfl hq2 (by rw [toNat_natCast]; rfl) g1 (by simp) ?_;refine clv_t (hv x u[m] hS.1 (hS.2 _ (getElem_mem hmv))) s1 fun r h3 s3=>?_;obtain ⟨hr,s4⟩:=bA.1 s3;have s5:=vZ s4;refine aX (fun k3=>?_) (fun k3=>?_)
  ·have k3':key u[m] <= key x:=by
    have:¬ key x < key u[m]:=fun hh=>by have:=hr.2 hh; simp at k3; omega
    omega
   have hw:i64.wrap (((p.length + m:Nat):Int) + 1) = ((p.length + (m + 1):Nat):Int):=by rw [bp (by omega) (by omega)]; omega
   rw [hw];refine ⟨⟨m + 1,j,rfl,by omega,hj,fun t y h4 h5=>?_,hhi,s5⟩,by simp only [toNat_natCast]; omega⟩;have:=up_get hu (show t <= m by omega) h5 (getElem?_eq_getElem hmv);omega
  ·have k3':key x < key u[m]:=hr.1 (by simpa using k3);refine ⟨⟨i,m,rfl,by omega,by omega,hlo,fun t y h4 h5=>?_,s5⟩,by simp only [toNat_natCast]; omega⟩;have:=up_get hu h4 (getElem?_eq_getElem hmv) h5;omega
 ·have he:i = j:=by have:=of_decide_eq_false c; omega
  subst he;have fin:∀ (h':Hp),ay (vI s (p++((u.take i++x::u.drop i)++q))::A) h'->K () h':=by
   intro h' s';refine k _ h' ?_ ?_ s'
   ·have h4:=List.perm_middle (a:=x) (l₁:=u.take i) (l₂:=u.drop i);rw [take_append_drop] at h4;exact h4.trans (List.perm_append_comm (l₁:=[x]) (l₂:=u))
   ·refine up_ins (by rw [take_append_drop]; exact hu) (fun y hy=>?_) (fun y hy=>?_)
    ·obtain ⟨t,h4,h5⟩:=mem_get hy;rw [length_take] at h4;rw [List.getElem?_take_of_lt (by omega)] at h5;exact hlo t y (by omega) h5
    ·obtain ⟨t,h4,h5⟩:=mem_get hy;rw [List.getElem?_drop] at h5;exact Int.le_of_lt (hhi (i + t) y (by omega) h5)
  refine Lp.intro (fun (t:Int) h=>∃ m:Nat,t = ((p.length + m:Nat):Int)/\i <= m/\m <= u.length/\ay (vI s (p++((u.take m++x::u.drop m)++q))::A) h) (fun (t:Int) _=>t.toNat - p.length) ⟨u.length,rfl,hj,le_refl _,by simpa using s1⟩ ?_;rintro t h2 ⟨m,rfl,hm,hmu,s2⟩;unfold gA;simp only;refine aX (fun c2=>?_) (fun c2=>?_)
  ·have hlt:i < m:=by have:=of_decide_eq_true c2; omega
   obtain ⟨m,rfl⟩:∃ m',m = m' + 1:=⟨m - 1,by omega⟩
   have hw1:i64.wrap (((p.length + (m + 1):Nat):Int) - 1) = ((p.length + m:Nat):Int):=by rw [bp (by omega) (by omega)]; omega
   rw [hw1];have hmv:m < u.length:=by omega
   have ht:u.take (m + 1) = u.take m++[u[m]]:=by rw [List.take_append_getElem]
   rw [ht] at s2;have hlt2:(u.take m).length = m:=by rw [length_take]; omega
   have d1:p++((u.take m++[u[m]]++x::u.drop (m + 1))++q) = (p++u.take m)++u[m]::x::(u.drop (m + 1)++q):=by simp only [append_assoc,cons_append,nil_append]
   rw [d1] at s2;have hL:p.length + m = (p++u.take m).length:=by rw [length_append,hlt2]
   have hL1:p.length + (m + 1) = (p++u.take m).length + 1:=by omega
   rw [hL,hL1];have hlen:((p++u.take m)++u[m]::x::(u.drop (m + 1)++q)).length = (p++u.take m).length + 2 + (u.drop (m + 1)++q).length:=by simp; omega
   refine cU s2 (j:=0) rfl (by omega) (by omega) fun q1 hq1=>?_;refine cU s2 (j:=0) rfl (by omega) (by omega) fun q2 hq2=>?_;refine cX (j:=0) (i:=(p++u.take m).length) (k:=0) u[m] (cf _) s2 rfl hq1 (by rw [toNat_natCast]; rfl) pO (by simp) ?_;refine cX (j:=0) (i:=(p++u.take m).length + 1) (k:=0) x (cf _) s2 rfl hq2 (by rw [toNat_natCast]; rfl) tX (by simp) ?_;refine uq (j:=0) (i:=(p++u.take m).length + 1) (k:=0) u[m] (cf _) s2 rfl hq2 (by rw [toNat_natCast]; rfl) tX (by simp) rfl fun h6 s6=>?_;rw [mid_set1] at s6;refine uq (j:=0) (i:=(p++u.take m).length) (k:=0) x (cf _) s6 rfl hq1 (by rw [toNat_natCast]; rfl) pO (by simp) rfl fun h7 s7=>?_;have s7:ay (vI s (((p++u.take m)++u[m]::u[m]::(u.drop (m + 1)++q)).set (p++u.take m).length x)::A) h7:=s7;rw [mid_set] at s7;refine ⟨⟨m,by rw [← hL],by omega,by omega,?_⟩,by rw [← hL]; simp only [toNat_natCast]; omega⟩;have hd:u.drop m = u[m]::u.drop (m + 1):=List.drop_eq_getElem_cons hmv;rw [hd];have d2:p++((u.take m++x::u[m]::u.drop (m + 1))++q) = (p++u.take m)++x::u[m]::(u.drop (m + 1)++q):=by simp only [append_assoc,cons_append,nil_append]
   rw [d2]; exact s7
  ·have he:m = i:=by have:=of_decide_eq_false c2; omega
   subst he;exact fin h2 s2
end
end
section
open Go Mb
def Wit (u v:List Int) (a b:Nat) (R:Int->Int->Prop):Prop:=∃ x y,u[a]? = some x/\v[b]? = some y/\R x y
section
variable (s:Sl) (f:Value) (A:List As) (key:Int->Int) (S:Int->Prop) (hv:CmpOk f A key S)
include hv
def Ih (N:Nat):Prop:=∀ (p u v q:List Int) (a m b:Int) (h':Hp) (K:Unit->Hp->Prop),u.length + v.length <= N->u ≠ []->v ≠ []->(∀ y ∈ u,S y)->(∀ y ∈ v,S y)->Up key u->Up key v->p.length + u.length + v.length + q.length < 2 ^ 58->a = ((p.length:Nat):Int)->m = ((p.length + u.length:Nat):Int)->b = ((p.length + u.length + v.length:Nat):Int)->ay (vI s (p++(u++(v++q)))::A) h' ->
    (∀ m' h',m'.Perm (u++v)->Up key m'->ay (vI s (p++(m'++q))::A) h'->K () h')->cl prog co [sv s,.int .i64 a,.int .i64 m,.int .i64 b,f] R_ K h'
omit hv in
theorem ih_of {N:Nat} (H:Ih s f A key S N):∀ (p u v q:List Int) (a m b:Int) (h':Hp) (K:Unit->Hp->Prop),u.length + v.length <= N->u ≠ []->v ≠ []->(∀ y ∈ u,S y)->(∀ y ∈ v,S y)->Up key u->Up key v->p.length + u.length + v.length + q.length < 2 ^ 58->a = ((p.length:Nat):Int)->m = ((p.length + u.length:Nat):Int)->b = ((p.length + u.length + v.length:Nat):Int)->ay (vI s (p++(u++(v++q)))::A) h' ->
    (∀ m' h',m'.Perm (u++v)->Up key m'->ay (vI s (p++(m'++q))::A) h'->K () h')->cl prog co [sv s,.int .i64 a,.int .i64 m,.int .i64 b,f] R_ K h':=H
abbrev Tgt (p q u1 u2 v1 v2:List Int):Unit->Hp->Prop:=fun _ h=>∃ m',(m'.Perm ((u1++u2)++(v1++v2))/\Up key m')/\ay (vI s (p++(m'++q))::A) h
structure Cut4 (N:Nat) (p q u1 u2 v1 v2:List Int) (i M B mid:Nat):Prop where
 l1:p.length + u1.length = i
 l2:i + u2.length = M
 l3:i + v1.length = mid
 l4:M + v1.length + v2.length = B
 lm:mid = (p.length + B) / 2
 ln:u1.length + u2.length + (v1.length + v2.length) <= N + 1
 lu:2 <= u1.length + u2.length
 lv:2 <= v1.length + v2.length
 lb:B + q.length < 2 ^ 58
 s1:∀ y ∈ u1,S y
 s2:∀ y ∈ u2,S y
 s3:∀ y ∈ v1,S y
 s4:∀ y ∈ v2,S y
 u:Up key (u1++u2)
 v:Up key (v1++v2)
 h12:∀ x ∈ u1,∀ y ∈ v2,key x <= key y
 h21:∀ x ∈ v1,∀ y ∈ u2,key x <= key y
variable {N:Nat} {p q u1 u2 v1 v2:List Int} {i M B mid:Nat}
omit hv in
theorem merge_j3 (C:Cut4 key S N p q u1 u2 v1 v2 i M B mid) (IH:Ih s f A key S N) (w1:List Int) (h3:Hp) (p1:w1.Perm (u1++v1)) (o1:Up key w1) (s3:ay (vI s (p++(w1++(u2++(v2++q))))::A) h3) :
  dQ s (p.length:Int) (M:Int) (B:Int) f (Tgt s A key p q u1 u2 v1 v2) ((i:Int),(i:Int)) () h3:=by
 have IH:=ih_of s f A key S IH;obtain ⟨l1,l2,l3,l4,lm,ln,lu,lv,lb,hS1,hS2,hS3,hS4,hU1,hV1,h12,h21⟩:=C;have lw:=p1.length_eq;rw [length_append] at lw;unfold dQ;simp only;have hhm':i64.wrap (fdiv (u64.wrap (i64.wrap (((p.length:Nat):Int) + (B:Int)))) (2 ^ (min (Int.toNat 1) (IntKind.bits .u64)))) = ((mid:Nat):Int):=by rw [mid_eq _ _ (by omega),lm]
 have wn':i64.wrap ((mid:Int) + (M:Int)) = ((mid + M:Nat):Int):=by rw [bp (by omega) (by omega)]; omega
 have we':i64.wrap (((mid + M:Nat):Int) - (i:Int)) = ((mid + M - i:Nat):Int):=by rw [bp (by omega) (by omega)]; omega
 rw [hhm',wn',we'];clear hhm' wn' we';have done:∀ (w2:List Int) (h':Hp),w2.Perm (u2++v2)->Up key w2->ay (vI s (p++(w1++(w2++q)))::A) h'->Tgt s A key p q u1 u2 v1 v2 () h':=by
  intro w2 h4 p2 o2 s4;exact ⟨w1++w2,⟨perm_join p1 p2,up_join hU1 hV1 h12 h21 p1 p2 o1 o2⟩,by rw [append_assoc]; exact s4⟩
 refine aX (fun c3=>?_) (fun c3=>?_)
 ·rw [and_eq_true,decide_eq_true_eq,decide_eq_true_eq] at c3;have e2:0 < u2.length:=by omega
  have e4:0 < v2.length:=by omega
  have epw:(p++w1).length = mid:=by rw [length_append]; omega
  refine IH (p++w1) u2 v2 q _ _ _ _ _ (by omega) (length_pos_iff.1 e2) (length_pos_iff.1 e4) hS2 hS4 (pairwise_append.1 hU1).2.1 (pairwise_append.1 hV1).2.1 (by omega) (by rw [epw]) (by rw [epw]; omega) (by rw [epw]; omega) (by rw [append_assoc]; exact s3) fun w2 h4 p2 o2 s4=>?_;exact done w2 h4 p2 o2 (by rw [append_assoc] at s4; exact s4)
 ·have hor:u2 = []\/v2 = []:=by
   rw [Bool.and_eq_false_iff,decide_eq_false_iff_not,decide_eq_false_iff_not] at c3;rcases c3 with h | h
   ·exact .inl (eq_nil_of_length_eq_zero (by omega))
   ·exact .inr (eq_nil_of_length_eq_zero (by omega))
  refine done (u2++v2) h3 (.refl _) ?_ (by rw [append_assoc u2 v2 q]; exact s3);rcases hor with e | e
  ·rw [e]; simpa using (pairwise_append.1 hV1).2.1
  ·rw [e]; simpa using (pairwise_append.1 hU1).2.1
omit hv in
theorem merge_j2 (C:Cut4 key S N p q u1 u2 v1 v2 i M B mid) (IH:Ih s f A key S N) (h3:Hp) (s3:ay (vI s (p++(u1++(v1++(u2++(v2++q)))))::A) h3) :
  cd s (p.length:Int) (M:Int) (B:Int) f (Tgt s A key p q u1 u2 v1 v2) ((i:Int),(i:Int)) () h3:=by
 have go3:=merge_j3 s f A key S C IH;have IH:=ih_of s f A key S IH;obtain ⟨l1,l2,l3,l4,lm,ln,lu,lv,lb,hS1,hS2,hS3,hS4,hU1,hV1,h12,h21⟩:=C;unfold cd;simp only;have hhm':i64.wrap (fdiv (u64.wrap (i64.wrap (((p.length:Nat):Int) + (B:Int)))) (2 ^ (min (Int.toNat 1) (IntKind.bits .u64)))) = ((mid:Nat):Int):=by rw [mid_eq _ _ (by omega),lm]
 rw [hhm'];clear hhm';refine aX (fun c3=>?_) (fun c3=>?_)
 ·rw [and_eq_true,decide_eq_true_eq,decide_eq_true_eq] at c3;have e2:0 < u1.length:=by omega
  have e4:0 < v1.length:=by omega
  refine IH p u1 v1 (u2++(v2++q)) _ _ _ _ _ (by omega) (length_pos_iff.1 e2) (length_pos_iff.1 e4) hS1 hS3 (pairwise_append.1 hU1).1 (pairwise_append.1 hV1).1 (by rw [length_append,length_append]; omega) rfl (by omega) (by omega) s3 fun w1 h4 p1 o1 s4=>?_;exact go3 w1 h4 p1 o1 s4
 ·have hor:u1 = []\/v1 = []:=by
   rw [Bool.and_eq_false_iff,decide_eq_false_iff_not,decide_eq_false_iff_not] at c3;rcases c3 with h | h
   ·exact .inl (eq_nil_of_length_eq_zero (by omega))
   ·exact .inr (eq_nil_of_length_eq_zero (by omega))
  refine go3 (u1++v1) h3 (.refl _) ?_ (by rw [append_assoc u1 v1]; exact s3);rcases hor with e | e
  ·rw [e]; simpa using (pairwise_append.1 hV1).1
  ·rw [e]; simpa using (pairwise_append.1 hU1).1
omit hv in
theorem merge_j1 (C:Cut4 key S N p q u1 u2 v1 v2 i M B mid) (IH:Ih s f A key S N) (h1:Hp) (s2:ay (vI s (p++((u1++u2)++((v1++v2)++q)))::A) h1) :
  br ((decide ((i:Int) < (M:Int))) && (decide ((M:Int) < ((mid + M - i:Nat):Int)))) (
  cl prog dL [(sv s),(.int .i64 (i:Int)),(.int .i64 (M:Int)),(.int .i64 ((mid + M - i:Nat):Int)),f] R_ fun (_:Unit) =>
  cd s (p.length:Int) (M:Int) (B:Int) f (Tgt s A key p q u1 u2 v1 v2) ((i:Int),(i:Int)) ()) (
  cd s (p.length:Int) (M:Int) (B:Int) f (Tgt s A key p q u1 u2 v1 v2) ((i:Int),(i:Int)) ()) h1:=by
 have go2:=merge_j2 s f A key S C IH;obtain ⟨l1,l2,l3,l4,lm,ln,lu,lv,lb,_,_,_,_,_,_,_,_⟩:=C;refine aX (fun c3=>?_) (fun c3=>?_)
 ·rw [and_eq_true,decide_eq_true_eq,decide_eq_true_eq] at c3;have lpu:(p++u1).length = i:=by rw [length_append]; omega
  have e2:0 < u2.length:=by omega
  have e4:0 < v1.length:=by omega
  have a1:((i:Nat):Int) = (((p++u1).length:Nat):Int):=by rw [lpu]
  have a2:((M:Nat):Int) = (((p++u1).length + u2.length:Nat):Int):=by rw [lpu]; omega
  have a3:((mid + M - i:Nat):Int) = (((p++u1).length + u2.length + v1.length:Nat):Int):=by rw [lpu]; omega
  have cr:cl prog dL [sv s,.int .i64 (((p++u1).length:Nat):Int),.int .i64 (((p++u1).length + u2.length:Nat):Int),.int .i64 (((p++u1).length + u2.length + v1.length:Nat):Int),f] R_ (fun _=>cd s (p.length:Int) (M:Int) (B:Int) f (Tgt s A key p q u1 u2 v1 v2) ((i:Int),(i:Int)) ()) h1:=by
   refine (sp_rotate s f A (p++u1) u2 v1 (v2++q) (length_pos_iff.1 e2) (length_pos_iff.1 e4) (by rw [lpu,length_append]; omega) h1 (by simpa using s2)).mono ?_;rintro w h'' ⟨r,e,s4⟩;exact ⟨r,e,go2 h'' (by simpa using s4)⟩
  rw [← a1,← a2,← a3] at cr;exact cr
 ·have hor:u2 = []\/v1 = []:=by
   rw [Bool.and_eq_false_iff,decide_eq_false_iff_not,decide_eq_false_iff_not] at c3;rcases c3 with h | h
   ·exact .inl (eq_nil_of_length_eq_zero (by omega))
   ·exact .inr (eq_nil_of_length_eq_zero (by omega))
  refine go2 h1 ?_;rcases hor with e | e
  ·rw [e] at s2 ⊢; simpa using s2
  ·rw [e] at s2 ⊢; simpa using s2
omit hv in
theorem merge_exit (p u v q:List Int) (hN:u.length + v.length <= N + 1) (hSu:∀ y ∈ u,S y) (hSv:∀ y ∈ v,S y) (hUu:Up key u) (hUv:Up key v) (hb:p.length + u.length + v.length + q.length < 2 ^ 58) (hu2:2 <= u.length) (hv2:2 <= v.length) (hmid:mid = (p.length + (p.length + u.length + v.length)) / 2) (IH:Ih s f A key S N)
  (lo hi:Nat) (hlo:p.length <= lo) (hhi:hi <= p.length + u.length) (hhm2:hi <= mid) (hn2:mid + (p.length + u.length) - lo <= p.length + u.length + v.length)
  (hlo2:lo = p.length\/mid + (p.length + u.length) - lo = p.length + u.length + v.length) (hhi2:hi = p.length + u.length\/hi = mid) (h1:Hp) (hi0:lo <= i) (hj0:i <= hi)
  (hI:i = lo\/Wit u v (i - 1 - p.length) (mid - i) fun x y=>key x <= key y) (hJ:i = hi\/Wit u v (i - p.length) (mid - 1 - i) fun x y=>key y < key x) (s1:ay (vI s (p++(u++(v++q)))::A) h1) :
  br ((decide ((i:Int) < ((p.length + u.length:Nat):Int))) && (decide (((p.length + u.length:Nat):Int) < ((mid + (p.length + u.length) - i:Nat):Int)))) (
  cl prog dL [(sv s),(.int .i64 (i:Int)),(.int .i64 ((p.length + u.length:Nat):Int)),(.int .i64 ((mid + (p.length + u.length) - i:Nat):Int)),f] R_ fun (_:Unit) =>
  cd s (p.length:Int) ((p.length + u.length:Nat):Int) ((p.length + u.length + v.length:Nat):Int) f (fun _ h=>∃ m',(m'.Perm (u++v)/\Up key m')/\ay (vI s (p++(m'++q))::A) h) ((i:Int),(i:Int)) ()) (
  cd s (p.length:Int) ((p.length + u.length:Nat):Int) ((p.length + u.length + v.length:Nat):Int) f (fun _ h=>∃ m',(m'.Perm (u++v)/\Up key m')/\ay (vI s (p++(m'++q))::A) h) ((i:Int),(i:Int)) ()) h1:=by
 have hsu:u = u.take (i - p.length)++u.drop (i - p.length):=(take_append_drop _ _).symm;have hsv:v = v.take (mid - i)++v.drop (mid - i):=(take_append_drop _ _).symm;have l1:(u.take (i - p.length)).length = i - p.length:=by rw [length_take]; omega
 have l2:(u.drop (i - p.length)).length = p.length + u.length - i:=by rw [length_drop]; omega
 have l3:(v.take (mid - i)).length = mid - i:=by rw [length_take]; omega
 have l4:(v.drop (mid - i)).length = v.length - (mid - i):=length_drop;have h12:∀ x ∈ u.take (i - p.length),∀ y ∈ v.drop (mid - i),key x <= key y:=by
  intro x hx y hy;rcases hI with e | ⟨a,b,e1,e2,e3⟩
  ·exfalso
   have:=length_pos_of_mem hx;have:=length_pos_of_mem hy;omega
  ·have hil:0 < i - p.length:=by have:=length_pos_of_mem hx; omega
   have f1:=up_take hUu e1 (x:=x) (by rw [show i - 1 - p.length + 1 = i - p.length by omega]; exact hx);have f2:=up_drop hUv e2 hy;omega
 have h21:∀ x ∈ v.take (mid - i),∀ y ∈ u.drop (i - p.length),key x <= key y:=by
  intro x hx y hy;rcases hJ with e | ⟨a,b,e1,e2,e3⟩
  ·exfalso
   have:=length_pos_of_mem hx;have:=length_pos_of_mem hy;omega
  ·have hil:0 < mid - i:=by have:=length_pos_of_mem hx; omega
   have f1:=up_take hUv e2 (x:=x) (by rw [show mid - 1 - i + 1 = mid - i by omega]; exact hx);have f2:=up_drop hUu e1 hy;omega
 have hS1:∀ y ∈ u.take (i - p.length),S y:=fun y hy=>hSu y (List.mem_of_mem_take hy);have hS2:∀ y ∈ u.drop (i - p.length),S y:=fun y hy=>hSu y (List.mem_of_mem_drop hy);have hS3:∀ y ∈ v.take (mid - i),S y:=fun y hy=>hSv y (List.mem_of_mem_take hy);have hS4:∀ y ∈ v.drop (mid - i),S y:=fun y hy=>hSv y (List.mem_of_mem_drop hy);have hperm:((u.take (i - p.length)++u.drop (i - p.length))++(v.take (mid - i)++v.drop (mid - i))) = u++v:=by rw [← hsu,← hsv]
 have s2:ay (vI s (p++((u.take (i - p.length)++u.drop (i - p.length))++((v.take (mid - i)++v.drop (mid - i))++q)))::A) h1:=by rw [← hsu,← hsv]; exact s1
 have C:Cut4 key S N p q (u.take (i - p.length)) (u.drop (i - p.length)) (v.take (mid - i)) (v.drop (mid - i)) i (p.length + u.length) (p.length + u.length + v.length) mid:=⟨by omega,by omega,by omega,by omega,hmid,by omega,by omega,by omega,by omega,hS1,hS2,hS3,hS4,by rw [← hsu]; exact hUu,by rw [← hsv]; exact hUv,h12,h21⟩
 have R:=merge_j1 s f A key S C IH h1 s2;have eT:Tgt s A key p q (u.take (i - p.length)) (u.drop (i - p.length)) (v.take (mid - i)) (v.drop (mid - i)) = fun _ h=>∃ m',(m'.Perm (u++v)/\Up key m')/\ay (vI s (p++(m'++q))::A) h:=by unfold Tgt; rw [hperm]
 rw [eT] at R;exact R
theorem merge_l5 (N:Nat) (p u v q:List Int) (hN:u.length + v.length <= N + 1) (hSu:∀ y ∈ u,S y) (hSv:∀ y ∈ v,S y) (hUu:Up key u) (hUv:Up key v) (hb:p.length + u.length + v.length + q.length < 2 ^ 58) (hu2:2 <= u.length) (hv2:2 <= v.length) (mid:Nat) (hmid:mid = (p.length + (p.length + u.length + v.length)) / 2) (IH:Ih s f A key S N) :
  ∀ (lo hi:Nat) (h:Hp),lo <= hi->p.length <= lo->hi <= p.length + u.length->hi <= mid->p.length + u.length <= mid + (p.length + u.length) - hi->mid + (p.length + u.length) - lo <= p.length + u.length + v.length ->
    (lo = p.length\/mid + (p.length + u.length) - lo = p.length + u.length + v.length)->(hi = p.length + u.length\/hi = mid)->ay (vI s (p++(u++(v++q)))::A) h ->
    Lp (eZ s (p.length:Int) ((p.length + u.length:Nat):Int) ((p.length + u.length + v.length:Nat):Int) f (fun _ h=>∃ m',(m'.Perm (u++v)/\Up key m')/\ay (vI s (p++(m'++q))::A) h)) ((lo:Int),(hi:Int)) h:=by
 have hhm:i64.wrap (fdiv (u64.wrap (i64.wrap (((p.length:Nat):Int) + ((p.length + u.length + v.length:Nat):Int)))) (2 ^ (min (Int.toNat 1) (IntKind.bits .u64)))) = ((mid:Nat):Int):=by
  rw [mid_eq _ _ (by omega),hmid]
 have wn:i64.wrap ((mid:Int) + ((p.length + u.length:Nat):Int)) = ((mid + (p.length + u.length):Nat):Int):=by rw [bp (by omega) (by omega)]; omega
 intro lo hi h hlh hlo hhi hhm2 hn1 hn2 hlo2 hhi2 s0;have getu:∀ c:Nat,p.length <= c->c < p.length + u.length->(p++(u++(v++q)))[c]? = u[c - p.length]?:=fun c h1 h2=>by rw [getElem?_append_right h1,List.getElem?_append_left (by omega)]
 have getv:∀ c:Nat,p.length + u.length <= c->c < p.length + u.length + v.length->(p++(u++(v++q)))[c]? = v[c - p.length - u.length]?:=fun c h1 h2=>by rw [getElem?_append_right (by omega),getElem?_append_right (by omega),List.getElem?_append_left (by omega)]
 have hL:(p++(u++(v++q))).length = p.length + u.length + v.length + q.length:=by simp; omega
 refine Lp.intro (fun (t:Int × Int) h=>∃ i j:Nat,t = ((i:Int),(j:Int))/\lo <= i/\i <= j/\j <= hi/\(i = lo\/Wit u v (i - 1 - p.length) (mid - i) fun x y=>key x <= key y)/\(j = hi\/Wit u v (j - p.length) (mid - 1 - j) fun x y=>key y < key x)/\ay (vI s (p++(u++(v++q)))::A) h) (fun (t:Int × Int) _=>t.2.toNat - t.1.toNat)
  ⟨lo,hi,rfl,le_refl _,hlh,le_refl _,.inl rfl,.inl rfl,s0⟩ ?_
 rintro t h1 ⟨i,j,rfl,hi0,hij,hj0,hI,hJ,s1⟩;unfold eZ;simp only;rw [hhm,wn];have wp:i64.wrap (((mid + (p.length + u.length):Nat):Int) - 1) = ((mid + (p.length + u.length) - 1:Nat):Int):=by rw [bp (by omega) (by omega)]; omega
 have we:i64.wrap (((mid + (p.length + u.length):Nat):Int) - (i:Int)) = ((mid + (p.length + u.length) - i:Nat):Int):=by rw [bp (by omega) (by omega)]; omega
 have hc:i64.wrap (fdiv (u64.wrap (i64.wrap ((i:Int) + (j:Int)))) (2 ^ (min (Int.toNat 1) (IntKind.bits .u64)))) = (((i + j) / 2:Nat):Int):=mid_eq _ _ (by omega);rw [wp,hc,we];refine aX (fun c=>?_) (fun c=>?_)
 ·have hlt:i < j:=by have:=of_decide_eq_true c; omega
  obtain ⟨m,hm⟩:∃ m,m = (i + j) / 2:=⟨_,rfl⟩
  rw [← hm];have wpc:i64.wrap (((mid + (p.length + u.length) - 1:Nat):Int) - (m:Int)) = ((mid + (p.length + u.length) - 1 - m:Nat):Int):=by rw [bp (by omega) (by omega)]; omega
  rw [wpc];have hmu:m - p.length < u.length:=by omega
  have hmv:mid - 1 - m < v.length:=by omega
  have g1:(p++(u++(v++q)))[mid + (p.length + u.length) - 1 - m]? = some v[mid - 1 - m]:=by
   rw [getv _ (by omega) (by omega),show mid + (p.length + u.length) - 1 - m - p.length - u.length = mid - 1 - m by omega,getElem?_eq_getElem hmv]
  have g2:(p++(u++(v++q)))[m]? = some u[m - p.length]:=by rw [getu _ (by omega) (by omega),getElem?_eq_getElem hmu]
  refine cU s1 (j:=0) rfl (by omega) (by omega) fun q1 hq1=>?_;refine cU s1 (j:=0) rfl (by omega) (by omega) fun q2 hq2=>?_;refine cX (j:=0) (i:=mid + (p.length + u.length) - 1 - m) (k:=0) v[mid - 1 - m] (cf _) s1 rfl hq1 (by rw [toNat_natCast]; rfl) g1 (by simp) ?_;refine cX (j:=0) (i:=m) (k:=0) u[m - p.length] (cf _) s1 rfl hq2 (by rw [toNat_natCast]; rfl) g2 (by simp) ?_;refine clv_t (hv v[mid - 1 - m] u[m - p.length] (hSv _ (getElem_mem hmv)) (hSu _ (getElem_mem hmu))) s1 fun r h3 s3=>?_;obtain ⟨hr,s4⟩:=bA.1 s3;have s5:=vZ s4;refine aX (fun k3=>?_) (fun k3=>?_)
  ·have k3':key u[m - p.length] <= key v[mid - 1 - m]:=by
    have:¬ key v[mid - 1 - m] < key u[m - p.length]:=fun hh=>by have:=hr.2 hh; simp at k3; omega
    omega
   have hw:i64.wrap (((m:Nat):Int) + 1) = ((m + 1:Nat):Int):=by rw [bp (by omega) (by omega)]; omega
   rw [hw];refine ⟨⟨m + 1,j,rfl,by omega,by omega,hj0,.inr ⟨u[m - p.length],v[mid - 1 - m],?_,?_,k3'⟩,hJ,s5⟩,by simp only [toNat_natCast]; omega⟩
   ·rw [show m + 1 - 1 - p.length = m - p.length by omega]; exact getElem?_eq_getElem hmu
   ·rw [show mid - (m + 1) = mid - 1 - m by omega]; exact getElem?_eq_getElem hmv
  ·have k3':key v[mid - 1 - m] < key u[m - p.length]:=hr.1 (by simpa using k3);exact ⟨⟨i,m,rfl,hi0,by omega,by omega,hI,.inr ⟨_,_,getElem?_eq_getElem hmu,getElem?_eq_getElem hmv,k3'⟩,s5⟩,by simp only [toNat_natCast]; omega⟩
 ·have he:i = j:=by have:=of_decide_eq_false c; omega
  subst he;exact merge_exit s f A key S p u v q hN hSu hSv hUu hUv hb hu2 hv2 hmid IH lo hi hlo hhi hhm2 hn2 hlo2 hhi2 h1 hi0 hj0 hI hJ s1
theorem sp_symMerge:∀ (N:Nat) (p u v q:List Int),u.length + v.length <= N->u ≠ []->v ≠ []->(∀ y ∈ u,S y)->(∀ y ∈ v,S y)->Up key u->Up key v->p.length + u.length + v.length + q.length < 2 ^ 58 ->
  Sp prog co [sv s,.int .i64 p.length,.int .i64 (p.length + u.length:Nat),.int .i64 (p.length + u.length + v.length:Nat),f] R_ (vI s (p++(u++(v++q)))::A) (fun _ h=>∃ m',(m'.Perm (u++v)/\Up key m')/\ay (vI s (p++(m'++q))::A) h)
 | 0,p,u,v,q,hN,hu,_,_,_,_,_,_=>absurd (length_pos_iff.2 hu) (by omega)
 | N + 1,p,u,v,q,hN,hu,hvn,hSu,hSv,hUu,hUv,hb=>by
  intro h s0;have hup:=length_pos_iff.2 hu;have hvp:=length_pos_iff.2 hvn;refine qF _ _ _ _ _ ?_;unfold kq;have w1:i64.wrap (((p.length + u.length:Nat):Int) - ((p.length:Nat):Int)) = ((u.length:Nat):Int):=by rw [bp (by omega) (by omega)]; omega
  have w2:i64.wrap (((p.length + u.length + v.length:Nat):Int) - ((p.length + u.length:Nat):Int)) = ((v.length:Nat):Int):=by rw [bp (by omega) (by omega)]; omega
  rw [w1,w2];refine aX (fun c1=>?_) (fun c1=>?_)
  ·have hl0:((u.length:Nat):Int) = 1:=by simpa using c1
   have hl1:u.length = 1:=by omega
   obtain ⟨x,rfl⟩:=List.length_eq_one_iff.1 hl1;have e:((p.length + [x].length + v.length:Nat):Int) = ((p.length + 1 + v.length:Nat):Int):=rfl;rw [e];refine merge_l1 s f A key S hv p v q x _ ⟨hSu x (by simp),hSv⟩ hUv (by simp at hb; omega) (by simpa using s0) fun m' h' hp hm s'=>?_;exact ⟨m',⟨hp,hm⟩,s'⟩
  refine aX (fun c2=>?_) (fun c2=>?_)
  ·have hl0:((v.length:Nat):Int) = 1:=by simpa using c2
   have hl1:v.length = 1:=by omega
   obtain ⟨x,rfl⟩:=List.length_eq_one_iff.1 hl1;refine merge_l3 s f A key S hv p u q x _ ⟨hSv x (by simp),hSu⟩ hUu (by simp at hb; omega) (by simpa using s0) fun m' h' hp hm s'=>?_;exact ⟨m',⟨hp,hm⟩,s'⟩
  have hu2:u.length ≠ 1:=by intro e; rw [e] at c1; cases c1
  have hv2:v.length ≠ 1:=by intro e; rw [e] at c2; cases c2
  obtain ⟨mid,hmid⟩:∃ mid,mid = (p.length + (p.length + u.length + v.length)) / 2:=⟨_,rfl⟩
  have hhm:i64.wrap (fdiv (u64.wrap (i64.wrap (((p.length:Nat):Int) + ((p.length + u.length + v.length:Nat):Int)))) (2 ^ (min (Int.toNat 1) (IntKind.bits .u64)))) = ((mid:Nat):Int):=by
   rw [mid_eq _ _ (by omega),hmid]
  rw [hhm];have wn:i64.wrap ((mid:Int) + ((p.length + u.length:Nat):Int)) = ((mid + (p.length + u.length):Nat):Int):=by rw [bp (by omega) (by omega)]; omega
  have IH:Ih s f A key S N:=by
   rintro p u v q a m b h' K h1 h2 h3 h4 h5 h6 h7 h8 rfl rfl rfl s1 k;refine (sp_symMerge N p u v q h1 h2 h3 h4 h5 h6 h7 h8 h' s1).mono ?_;rintro w h'' ⟨r,e,m',⟨g1,g2⟩,s2⟩;exact ⟨r,e,k m' h'' g1 g2 s2⟩
  have key_:=merge_l5 s f A key S hv N p u v q hN hSu hSv hUu hUv hb (by omega) (by omega) mid hmid IH;refine aX (fun c3=>?_) (fun c3=>?_)
  ·have hgt:mid < p.length + u.length:=by have:=of_decide_eq_true c3; omega
   have wl:i64.wrap ((i64.wrap ((mid:Int) + ((p.length + u.length:Nat):Int))) - ((p.length + u.length + v.length:Nat):Int)) = ((mid + (p.length + u.length) - (p.length + u.length + v.length):Nat):Int):=by rw [wn,bp (by omega) (by omega)]; omega
   rw [wl];unfold dR;exact key_ _ mid h (by omega) (by omega) (by omega) (le_refl _) (by omega) (by omega) (.inr (by omega)) (.inr rfl) s0
  ·have hle:p.length + u.length <= mid:=by have:=of_decide_eq_false c3; omega
   unfold dR;exact key_ p.length (p.length + u.length) h (by omega) (le_refl _) (le_refl _) hle (by omega) (by omega) (.inl rfl) (.inl rfl) s0
end
end
end Go.Proofs.YtochchocdckegaaGreatDoor
