/- Part of the proof of: The law ShootFrame returns true for every input, and leaves its arguments as they were. -/
import Derived.Test.YtochchocdckegaaGreatDoorShootFrame11
set_option linter.all false
set_option maxRecDepth 20000
namespace Go.Proofs.YtochchocdckegaaGreatDoor
open Go.Proofs.Tryz
open Go.IntKind (i64 u64)
open _root_.Int (le_refl)
open _root_.List (getElem?_set getElem_mem mem_cons take_length)
open _root_.Nat (zero_le)
section
open Go Mb
def hist_May_l1 (a0:Sl) (a1:aE) (K:kT Bool) (v12:(Option Nat)) (v13:(Option Nat)) (Rec4:kT (Int × Int)) (s3:Int × Int):hT:=br (decide (s3.2 < (a0.len:Int))) ( ix a0 s3.2 fun q18=>ld (q18.1,q18.2 + Int.toNat s3.2 * 16) aG.C fun x19=>br ((!(!(fd x19 a1 s3.1))) && (decide (x19.fHa > 0))) ( hpv prog (Instr.lookup jW (.map v12) (.int .i64 x19.fHa) false) aC fun (v33:Bool)=>br v33 ( K false) ( hpv prog (Instr.lookup iC (.map v13) (.int .i64 x19.fQa) true) bQ fun (v40:Int × Bool)=>br (v40.2 && ((decide (v40.1 <= 0)) || (decide (x19.fSa <= v40.1)))) ( K false) ( hpu prog (Instr.mapUpdate jW (.map v12) (.int .i64 x19.fHa) (.bool true))<|hpu prog (Instr.mapUpdate iC (.map v13) (.int .i64 x19.fQa) (.int .i64 x19.fXa))<|Rec4 (x19.fSa,(i64.wrap (s3.2 + 1)))))) ( br ((!(fd x19 a1 s3.1)) || false) ( K false) ( hpv prog (Instr.lookup iC (.map v13) (.int .i64 x19.fQa) true) bQ fun (v40:Int × Bool)=>br (v40.2 && ((decide (v40.1 <= 0)) || (decide (x19.fSa <= v40.1)))) ( K false) ( hpu prog (Instr.mapUpdate jW (.map v12) (.int .i64 x19.fHa) (.bool true))<|hpu prog (Instr.mapUpdate iC (.map v13) (.int .i64 x19.fQa) (.int .i64 x19.fXa))<|Rec4 (x19.fSa,(i64.wrap (s3.2 + 1))))))) ( K true)
def sh_hist_May (a0:Sl) (a1:aE) (K:kT Bool):hT:=hpv prog (Instr.makeMap jW none) R_map_int_bool fun (v12:(Option Nat))=>hpv prog (Instr.makeMap iC none) R_map_int_int fun (v13:(Option Nat))=>Lp (hist_May_l1 a0 a1 K v12 v13) (0,0)
theorem sim_hist_May (a0:Sl) (a1:aE) {K:kT Bool} {h:Hp} (H:sh_hist_May a0 a1 K h):cl prog yj [(sv a0),(.agg (aE.C a1).toArray)] aC K h:=z_i func6 p p fun _=>O<|aa<|cX (l:=aE.C a1) p p p fun b3=>U p<|O<|aa<|aT H x_makeMap0 p fun v12 _ H1=>aa<|aT H1 x_makeMap0 p fun v13 _ H2=>J (av p)<|J (av p)<|U p<|am<|O<|M p<|J (dK p underlying22 p)<|M p<|ad<|ax<|bv (step:=hist_May_l1 a0 a1 K v12 v13) (fun s3=>[(3,(.pointer (some ⟨b3,0,none⟩))),(5,(.int .i64 s3.1)),(6,(.map v12)),(7,(.map v13)),(14,(sv a0)),(15,(.int .i64 (a0.len:Int))),(16,(.int .i64 s3.2))]) (fun s3=>[bx b3 24 (aE.C a1)]) H2 (.cons p<|.cons p<|.cons p<|.cons p<|.cons p<|.cons p<|.cons p<|.nil _) (.cons_cons _ .slnil) fun Rec4 s3 _ H5=>O<|J (cn p p)<|ad<|am<|aw p H5 (fun k6 H7=>an<|am<|ax<|O<|cz H7 fun q18 e8 h9 H10=>J (bf rY (aJ p<|aX e8) p h9)<|aa<|hG H10 ag_40 p (fun _=>p) p fun x19 H11=>aa<|aI (l:=aG.C (⟨0,0,(⟨0,0,0,0,0⟩:ah),0,0,0,(⟨0,0⟩:ab),(⟨0,0,0,0⟩:ap)⟩:aG)) zero_40 p p fun b9=>aa<|aP (k:=0) (vs:=aG.C x19) inf_40 p p p p p p p<|ad<|am<|O<|bn (bH (k:=0) ag_40 p p p p) p<|bn (bH (k:=1) qe p p p p) p<|M p<|aa<|cW (vs:=[(.agg (aG.C x19).toArray),(.agg (aE.C a1).toArray),(.int .i64 s3.1)]) (bC<|ct_hist_one x19 a1 s3.1 _) en_32 p p<|J (cy p)<|M p<|W p p (aN _) (fun g12=>wv<|ae jE p)<|W p p (aN _) (fun g13=>cv<|be (k:=0) bc (aD p g13) p p)<|W p p (aN _) (fun g14=>wv<|pb (aD p g14) p)<|W p p (aN _) (fun g15=>wv<|ai<|aD p g15)<|W p p (sw _ _) (fun g16=>wv<|ai p)<|W p p (sw _ _) (fun g17=>wv<|ae jE p)<|W p p (sw _ _) (fun g18=>cv<|be (k:=0) bc (aD p g18) p p)<|bW H11 (fun k20 H21=>G ((gv_t (b_l k20) _).trans<|F<|b_r k20)<|aT H21 (x_lookup (aD p k20)<|aD p k20) p fun v33 _ H22=>G (F<|cm<|b_l k20)<|z_p (aU (aD p<|b_l k20) (b_r k20) p)<|J (au p (cm<|b_l k20) p)<|ad<|aw p H22 (fun k23 H24=>O<|U p<|aj<|Z ⟨false,p,H24⟩) fun k23 H24=>an<|am<|O<|M p<|J (ae uy p)<|bn (be (k:=0) bc p p p) p<|aa<|aT H24 (x_lookup p p) p fun v40 _ H25=>M p<|J (ak p p)<|J (ak p p)<|J (av p)<|U p<|O<|M p<|M p<|W p p (ay _) (fun g26=>wv<|ai p)<|W p p (ay _) (fun g27=>wv<|v_le (aD p g27) p)<|W p p (ay _) (fun g28=>wv<|ai<|aD p g28)<|W p p (eG _ _) (fun g29=>wv<|ae ux p)<|W p p (eG _ _) (fun g30=>cv<|be (k:=0) bc (aD p g30) p p)<|W p p (eG _ _) (fun g31=>wv<|ai p)<|W p p (eG _ _) (fun g32=>wv<|v_le (aD p g32)<|aD p g32)<|W p p (ay _) (fun g33=>wv<|dC (aD p g33)<|aJ p<|yr g33)<|J (bO p p)<|ad<|aw p H25 (fun k34 H35=>O<|U p<|aj<|Z ⟨false,p,H35⟩) fun k34 H35=>an<|bo (n:=13) [bx b9 40 (aG.C x19)] cu p (.cons_cons _<|.cons _ .slnil)<|V 0 p (ai p)<|V 1 p (ae jE p)<|z_E 2 p (dw (k:=0) bc p p p)<|V 3 p (ai p)<|V 4 p (ae uy p)<|z_E 5 p (dw (k:=0) bc p p p)<|V 6 p (ae ux p)<|z_E 7 p (dw (k:=0) bc p p p)<|V 8 p (ae rQ p)<|z_E 9 p (dw (k:=0) bc p p p)<|V 10 p (av p)<|I 11 p<|to_hpu H35 (uQ p p p) fun _ H36=>⟨.cons_cons _<|.cons _ .slnil,I 12 p<|to_hpu H36 (uQ p p p) fun _ H37=>⟨.cons_cons _<|.cons _ .slnil,aR (by kernel_rfl)<|aq<|J (bk p p)<|M p<|ad<|cF (x19.fSa,(i64.wrap (s3.2 + 1))) H37 (.cons p<|.cons p<|.cons p<|.cons p<|.cons p<|.cons p<|.cons p<|.nil _)<|.cons _<|.cons_cons _ .slnil⟩⟩) fun k20 H21=>Y ((sw _ _).trans k20)<|W p p (aN _) (fun g38=>wv<|au (aD p g38) (b_andr k20 g38) p)<|J (dC p p)<|ad<|aw p H21 (fun k39 H40=>O<|U p<|aj<|Z ⟨false,p,H40⟩) fun k39 H40=>an<|am<|O<|M p<|J (ae uy p)<|bn (be (k:=0) bc p p p) p<|aa<|aT H40 (x_lookup p p) p fun v40 _ H41=>M p<|J (ak p p)<|J (ak p p)<|J (av p)<|U p<|O<|M p<|M p<|W p p (ay _) (fun g42=>wv<|ai p)<|W p p (ay _) (fun g43=>wv<|v_le (aD p g43) p)<|W p p (ay _) (fun g44=>wv<|ai<|aD p g44)<|W p p (eG _ _) (fun g45=>wv<|ae ux p)<|W p p (eG _ _) (fun g46=>cv<|be (k:=0) bc (aD p g46) p p)<|W p p (eG _ _) (fun g47=>wv<|ai p)<|W p p (eG _ _) (fun g48=>wv<|v_le (aD p g48)<|aD p g48)<|W p p (ay _) (fun g49=>wv<|dC (aD p g49)<|aJ p<|yr g49)<|J (bO p p)<|ad<|aw p H41 (fun k50 H51=>O<|U p<|aj<|Z ⟨false,p,H51⟩) fun k50 H51=>an<|bo (n:=13) [bx b9 40 (aG.C x19)] cu p (.cons_cons _<|.cons _ .slnil)<|V 0 p (ai p)<|V 1 p (ae jE p)<|z_E 2 p (dw (k:=0) bc p p p)<|V 3 p (ai p)<|V 4 p (ae uy p)<|z_E 5 p (dw (k:=0) bc p p p)<|V 6 p (ae ux p)<|z_E 7 p (dw (k:=0) bc p p p)<|V 8 p (ae rQ p)<|z_E 9 p (dw (k:=0) bc p p p)<|V 10 p (av p)<|I 11 p<|to_hpu H51 (uQ p p p) fun _ H52=>⟨.cons_cons _<|.cons _ .slnil,I 12 p<|to_hpu H52 (uQ p p p) fun _ H53=>⟨.cons_cons _<|.cons _ .slnil,aR (by kernel_rfl)<|aq<|J (bk p p)<|M p<|ad<|cF (x19.fSa,(i64.wrap (s3.2 + 1))) H53 (.cons p<|.cons p<|.cons p<|.cons p<|.cons p<|.cons p<|.cons p<|.nil _)<|.cons _<|.cons_cons _ .slnil⟩⟩) fun k6 H7=>bh<|O<|U p<|aj<|Z ⟨true,p,H7⟩
def uu (a0:Sl) (a1:Value) (K:kT Sl) (Rec2:kT (Sl × Int)) (s1:Sl × Int):hT:=br (decide (s1.2 < (a0.len:Int))) ( ix a0 s1.2 fun q13=>ld (q13.1,q13.2 + Int.toNat s1.2 * 16) aG.C fun x14=>clv prog a1 [(.agg (aG.C x14).toArray)] aC fun r17=>br r17 ( hpv prog (Instr.buildSlice dT 1 #[(0,(.int .i64 s1.2))]) cJ fun (v20:Sl)=>hpv prog (Builtin.append_ #[dT,dT] dT #[(sv s1.1),(sv v20)]) cJ fun (v21:Sl)=>Rec2 (v21,(i64.wrap (s1.2 + 1)))) ( Rec2 (s1.1,(i64.wrap (s1.2 + 1))))) ( K s1.1)
def sh_hist_places (a0:Sl) (a1:Value) (K:kT Sl):hT:=Lp (uu a0 a1 K) ((⟨none,0,0,none⟩:Sl),0)
theorem sim_hist_places (a0:Sl) (a1:Value) {K:kT Sl} {h:Hp} (H:sh_hist_places a0 a1 K h):cl prog rn [(sv a0),a1] cJ K h:=z_i func33 p p fun _=>O<|U p<|O<|U p<|am<|O<|M p<|J (dK p underlying22 p)<|M p<|ad<|ax<|bv (step:=uu a0 a1 K) (fun s1=>[(1,a1),(5,(sv s1.1)),(8,(sv a0)),(9,(.int .i64 (a0.len:Int))),(10,(.int .i64 s1.2))]) (fun s1=>[]) H (.cons p<|.cons p<|.cons p<|.cons p<|.cons p<|.nil _) .slnil fun Rec2 s1 _ H3=>O<|J (cn p p)<|ad<|am<|aw p H3 (fun k4 H5=>an<|am<|ax<|O<|M p<|cz H5 fun q13 e6 h7 H8=>J (bf rY (aJ p<|aX e6) p h7)<|aa<|hG H8 ag_40 p (fun _=>p) p fun x14 H9=>aa<|aI (l:=aG.C (⟨0,0,(⟨0,0,0,0,0⟩:ah),0,0,0,(⟨0,0⟩:ab),(⟨0,0,0,0⟩:ap)⟩:aG)) zero_40 p p fun b7=>J (av p)<|aa<|aP (k:=0) (vs:=aG.C x14) inf_40 p p p p p p p<|ad<|O<|M p<|bn (bH (k:=0) ag_40 p p p p) p<|aa<|to_clv H9 p p p fun r17 _ H10=>ad<|aw p H10 (fun k11 H12=>aq<|M p<|M p<|aa<|aT H12 (bw (vs:=[(.int .i64 s1.2)]) p) p fun v20 _ H13=>aa<|aT H13 (dS p p) p fun v21 _ H14=>U p<|aq<|J (bk p p)<|M p<|ad<|cF (v21,(i64.wrap (s1.2 + 1))) H14 (.cons p<|.cons p<|.cons p<|.cons p<|.cons p<|.nil _)<|.cons _ .slnil) fun k11 H12=>an<|aq<|J (bk p p)<|M p<|ad<|cF (s1.1,(i64.wrap (s1.2 + 1))) H12 (.cons p<|.cons p<|.cons p<|.cons p<|.cons p<|.nil _)<|.cons _ .slnil) fun k4 H5=>bh<|O<|M p<|U p<|aj<|Z ⟨s1.1,p,H5⟩
def qS (a0:Int) (a1:Int) (c0:Nat) (K:kT Int):hT:=ld (c0,0) cS fun x6=>ix x6 a0 fun q8=>ld (q8.1,q8.2 + Int.toNat a0 * 16 + 8) (cI .i64) fun x10=>ld (c0,0) cS fun x11=>ix x11 a1 fun q13=>ld (q13.1,q13.2 + Int.toNat a1 * 16 + 8) (cI .i64) fun x15=>K (gn x10 x15)
theorem uS (a0:Int) (a1:Int) (c0:Nat) {K:kT Int} {h:Hp} (H:qS a0 a1 c0 K h):cl prog sm [(.int .i64 a0),(.int .i64 a1),(.pointer (some ⟨c0,0,none⟩))] eH K h:=z_i func38 p p fun _=>O<|U p<|am<|bo (n:=12) [] cu p .slnil<|V 1 p (ai p)<|V 6 p (ai p)<|bz (i:=0) (fun _ _ _ _ hh=>hh) H p (by kernel_rfl) sc_22 p (fun _=>p) p fun x6 H1=>dU H1 fun q8 e2 h3 H4=>V 2 p (bf rY (aJ p<|aX e2) p h3)<|V 3 p (ae jE p)<|bz (i:=4) (fun _ _ _ _ hh=>hh) H4 p (by kernel_rfl) bc p (fun _=>p) p fun x10 H5=>bz (i:=5) (fun _ _ _ _ hh=>hh) H5 p (by kernel_rfl) sc_22 p (fun _=>p) p fun x11 H6=>dU H6 fun q13 e7 h8 H9=>V 7 p (bf rY (aJ p<|aX e7) p h8)<|V 8 p (ae jE p)<|bz (i:=9) (fun _ _ _ _ hh=>hh) H9 p (by kernel_rfl) bc p (fun _=>p) p fun x15 H10=>I 10 p<|cW (vs:=[(.int .i64 x10),(.int .i64 x15)]) (bC<|ct_cmp_Compare_int x10 x15 _) en_39 p p ⟨.slnil,V 11 p (av p)<|aR (by kernel_rfl)<|aj<|Z ⟨gn x10 x15,p,H10⟩⟩
def wj (a0:Sl) (K:kT Sl):hT:=nw eB [sv a0] fun b1=>ld (b1,0) cS fun x4=>cl prog rn [(sv x4),(.func (.func nV) #[] #[])] cJ fun r5=>cl prog eJ [(sv r5),(.func (.func sm) #[] #[(.pointer (some ⟨b1,0,none⟩))])] R_ fun (_:Unit)=>K r5
theorem sim_hist_Order (a0:Sl) {K:kT Sl} {h:Hp} (H:wj a0 K h):cl prog mZ [(sv a0)] cJ K h:=z_i func13 p p fun _=>O<|aa<|iL p p p H fun b1 _ H1=>U p<|O<|aa<|aW H1 sc_22 p (fun _=>p) p fun x4 H2=>aa<|D H2 en_33 fun r5 _ H3=>U p<|O<|M p<|J (v_func p p)<|aa<|D H3 en_37 fun r8 _ H4=>ad<|O<|M p<|U p<|aj<|Z ⟨r5,p,H4⟩
def sh_hist_Over_c1 (a0:aG) (c0:Nat) (K:kT Bool):hT:=ld (c0,0) (cI .i64) fun x6=>br ((decide (a0.fSa <= x6)) && (!(a0.fHa == 0))) ( ld (c0,0) (cI .i64) fun x15=>K (decide (a0.fHa > x15))) ( K ((decide (a0.fSa <= x6)) && true))
theorem sim_hist_Over_c1 (a0:aG) (c0:Nat) {K:kT Bool} {h:Hp} (H:sh_hist_Over_c1 a0 c0 K h):cl prog um [(.agg (aG.C a0).toArray),(.pointer (some ⟨c0,0,none⟩))] aC K h:=z_i func34 p p fun _=>O<|aa<|cX (l:=aG.C a0) p p p fun b2=>U p<|O<|J (ae ux p)<|bn (be (k:=0) bc p p p) p<|aa<|aW H bc p (fun _=>p) p fun x6 H1=>J (v_le p p)<|M p<|W p p (ay _) (fun g2=>wv<|ae jE p)<|W p p (ay _) (fun g3=>cv<|be (k:=0) bc (aD p g3) p p)<|W p p (ay _) (fun g4=>wv<|bP (aD p g4) p)<|W p p (ay _) (fun g5=>wv<|ai<|aD p g5)<|W p p (eG _ _) (fun g6=>wv<|ae jE p)<|W p p (eG _ _) (fun g7=>cv<|be (k:=0) bc (aD p g7) p p)<|bW H1 (fun k9 H10=>G ((gv_t (b_l k9) _).trans<|F<|cm<|b_r k9)<|aW H10 bc p (fun _=>p) p fun x15 H11=>G ((gv_t (b_l k9) _).trans<|F<|cm<|b_r k9)<|z_p (pb (aD p k9) p)<|G (F<|b_l k9)<|z_p (au (aD p<|b_l k9) (cm<|b_r k9) p)<|J (aU p (b_l k9) p)<|U p<|aj<|Z ⟨decide (a0.fHa > x15),p,H11⟩) fun k9 H10=>Y ((eG _ _).trans k9)<|Y ((eG _ _).trans k9)<|W p p (ay _) (fun g12=>wv<|aU (aD p g12) (bK<|b_andr k9 g12) p)<|J (bO p p)<|U p<|aj<|Z ⟨((decide (a0.fSa <= x6)) && true),p,H10⟩
def sh_hist_Over (a0:Sl) (a1:Int) (K:kT Sl):hT:=nw lL [.int .i64 a1] fun b3=>cl prog rn [(sv a0),(.func (.func um) #[] #[(.pointer (some ⟨b3,0,none⟩))])] cJ fun r7=>K r7
theorem sim_hist_Over (a0:Sl) (a1:Int) {K:kT Sl} {h:Hp} (H:sh_hist_Over a0 a1 K h):cl prog n_hist_Over [(sv a0),(.int .i64 a1)] cJ K h:=z_i func8 p p fun _=>O<|aa<|iL p p p H fun b3 _ H1=>U p<|O<|M p<|J (v_func p p)<|aa<|D H1 en_33 fun r7 _ H2=>U p<|aj<|Z ⟨r7,p,H2⟩
end
section
open Go Mb
namespace Hist
def fFb (P:bp->Bool):List bp->Int->List Int
 | [],_=>[]
 | e::es,i=>if P e = true then i::fFb P es (i + 1) else fFb P es (i + 1)
def places (P:bp->Bool) (es:List bp):List Int:=fFb P es 0
def ev00:bp:=KK.ev0 0 0 ⟨0,0,0,0,0⟩ 0
def eff (es:List bp) (i:Int):Int:=(es.getD i.toNat ev00).fHa
def ins (key:Int->Int) (x:Int):List Int->List Int
 | []=>[x]
 | y::l=>if key x < key y then x::y::l else y::ins key x l
def isort (key:Int->Int):List Int->List Int
 | []=>[]
 | x::l=>ins key x (isort key l)
def effs (es:List bp):List Int:=places (fun e=>decide (e.fHa > 0)) es
def order (es:List bp):List Int:=isort (eff es) (effs es)
def over (es:List bp) (at_:Int):List Int:=places (fun e=>decide (e.fSa <= at_) && (e.fHa == 0 || decide (e.fHa > at_))) es
def done (es:List bp):List Int:=places (fun e=>e.fXa != 0) es
def endOf (ends:List (Int × Int)) (c:Int):Option Int:=(ends.find? (fun p=>p.1 == c)).map (·.2)
def stops (ends:List (Int × Int)) (e:bp):Bool:=match endOf ends e.fQa with
 | some n=>decide (n <= 0) || decide (e.fSa <= n)
 | none=>false
def mayFrom (s:eR):List bp->Int->List Int->List (Int × Int)->Bool
 | [],_,_,_=>true
 | e::es,uL,seen,ends=>if fd e s uL = false\/(e.fHa > 0/\e.fHa ∈ seen) then false else if stops ends e = true then false else mayFrom s es e.fSa (e.fHa::seen) ((e.fQa,e.fXa)::ends)
def may (es:List bp) (s:eR):Bool:=mayFrom s es 0 [] []
theorem placesFrom_app (P:bp->Bool) (e:bp):∀ (es:List bp) (i:Int),fFb P (es++[e]) i = fFb P es i++(if P e = true then [i + es.length] else [])
 | [],i=>by simp only [List.nil_append,fFb]; split <;> simp
 | d::es,i=>by
  simp only [List.cons_append,fFb];rw [placesFrom_app P e es (i + 1)];have e1:i + 1 + (es.length:Int) = i + ((d::es).length:Int):=by simp; omega
  rw [e1];split <;> simp
theorem placesFrom_len (P:bp->Bool):∀ (es:List bp) (i:Int),(fFb P es i).length <= es.length
 | [],_=>Nat.le_refl _
 | e::es,i=>by unfold fFb; have:=placesFrom_len P es (i + 1); split <;> simp <;> omega
theorem placesFrom_c (P:bp->Bool) (d:bp) (es:List bp) (i:Int):fFb P (d::es) i = if P d = true then i::fFb P es (i + 1) else fFb P es (i + 1):=rfl
theorem mem_placesFrom {P:bp->Bool} {x:Int}:∀ {es:List bp} {i:Int},x ∈ fFb P es i↔∃ (n:Nat) (e:bp),es[n]? = some e/\x = i + n/\P e = true
 | [],i=>by simp [fFb]
 | d::es,i=>by
  have ih:=mem_placesFrom (P:=P) (x:=x) (es:=es) (i:=i + 1);have sp:(∃ (n:Nat) (e:bp),(d::es)[n]? = some e/\x = i + n/\P e = true)↔(x = i/\P d = true)\/∃ (n:Nat) (e:bp),es[n]? = some e/\x = i + 1 + n/\P e = true:=by
   constructor
   ·rintro ⟨n,e,h1,h2,h3⟩;cases n with
    | zero=>simp at h1; subst h1; exact .inl ⟨by simpa using h2,h3⟩
    | succ n=>exact .inr ⟨n,e,by simpa using h1,by omega,h3⟩
   ·rintro (⟨h2,h3⟩ | ⟨n,e,h1,h2,h3⟩)
    ·exact ⟨0,d,rfl,by simpa using h2,h3⟩
    ·exact ⟨n + 1,e,by simpa using h1,by omega,h3⟩
  rw [sp,← ih,placesFrom_c];split
  ·rename_i hd;rw [mem_cons];constructor
   ·rintro (h | h)
    ·exact .inl ⟨h,hd⟩
    ·exact .inr h
   ·rintro (h | h)
    ·exact .inl h.1
    ·exact .inr h
  ·rename_i hd;constructor
   ·exact .inr
   ·rintro (h | h)
    ·exact absurd h.2 hd
    ·exact h
theorem mem_places {P:bp->Bool} {x:Int} {es:List bp}:x ∈ places P es↔∃ (n:Nat) (e:bp),es[n]? = some e/\x = n/\P e = true:=by
 unfold places;rw [mem_placesFrom];simp
theorem places_in {P:bp->Bool} {x:Int} {es:List bp} (h:x ∈ places P es):0 <= x/\x < es.length:=by
 obtain ⟨n,e,h1,rfl,_⟩:=mem_places.1 h;have:=(List.getElem?_eq_some_iff.1 h1).1;omega
theorem ins_perm (key:Int->Int) (x:Int):∀ l,(ins key x l).Perm (x::l)
 | []=>.refl _
 | y::l=>by
  unfold ins; split
  ·exact .refl _
  ·exact ((ins_perm key x l).cons y).trans (.swap _ _ _)
theorem isort_perm (key:Int->Int):∀ l,(isort key l).Perm l
 | []=>.refl _
 | x::l=>(ins_perm key x _).trans ((isort_perm key l).cons x)
theorem ins_up (key:Int->Int) (x:Int):∀ l,Up key l->Up key (ins key x l)
 | [],_=>List.pairwise_singleton _ _
 | y::l,h=>by
  obtain ⟨h1,h2⟩:=List.pairwise_cons.1 h;unfold ins; split
  ·rename_i hx;refine List.pairwise_cons.2 ⟨fun z hz=>?_,h⟩;rcases mem_cons.1 hz with rfl | hz
   ·omega
   ·have:=h1 z hz; omega
  ·rename_i hx;refine List.pairwise_cons.2 ⟨fun z hz=>?_,ins_up key x l h2⟩;rcases mem_cons.1 ((ins_perm key x l).subset hz) with rfl | hz
   ·omega
   ·exact h1 z hz
theorem isort_up (key:Int->Int):∀ l,Up key (isort key l)
 | []=>.nil
 | x::l=>ins_up key x _ (isort_up key l)
def Apart (es:List bp):Prop:=∀ a b,a ∈ effs es->b ∈ effs es->eff es a = eff es b->a = b
theorem order_of {es:List bp} (ha:Apart es) {l:List Int} (hp:l.Perm (effs es)) (hu:Up (eff es) l):l = order es:=by
 refine List.Perm.eq_of_pairwise (le:=fun x y=>eff es x <= eff es y) (fun a b h1 h2 h3 h4=>?_) hu (isort_up _ _) (hp.trans (isort_perm _ _).symm);exact ha a b (hp.subset h1) ((isort_perm _ _).subset h2) (by omega)
theorem mayFrom_apart {s:eR}:∀ {es:List bp} {uL:Int} {seen:List Int} {ends:List (Int × Int)},mayFrom s es uL seen ends = true ->
  (∀ (n:Nat) e,es[n]? = some e->e.fHa > 0->e.fHa ∉ seen)/\∀ (n m:Nat) e d,es[n]? = some e->es[m]? = some d->e.fHa > 0->e.fHa = d.fHa->n = m
 | [],_,_,_,_=>⟨fun n e h=>by simp at h,fun n m e d h=>by simp at h⟩
 | e0::es,uL,seen,ends,h=>by
  unfold mayFrom at h;split at h
  ·cases h
  ·split at h
   ·cases h
   ·rename_i h1 _;obtain ⟨i1,i2⟩:=mayFrom_apart h;have h0:e0.fHa > 0->e0.fHa ∉ seen:=fun hp hm=>h1 (.inr ⟨hp,hm⟩);refine ⟨fun n e hn hp=>?_,fun n m e d hn hm hp he=>?_⟩
    ·cases n with
     | zero=>simp at hn; subst hn; exact h0 hp
     | succ n=>exact fun hm=>i1 n e (by simpa using hn) hp (by simp [hm])
    ·cases n with
     | zero =>
      cases m with
      | zero=>rfl
      | succ m =>
       simp at hn; subst hn;exact absurd (by simp [he]) (i1 m d (by simpa using hm) (by omega))
     | succ n =>
      cases m with
      | zero =>
       simp at hm; subst hm;exact absurd (by simp [he]) (i1 n e (by simpa using hn) hp)
      | succ m=>rw [i2 n m e d (by simpa using hn) (by simpa using hm) hp he]
theorem eff_nat {es:List bp} {n:Nat} {e:bp} (h:es[n]? = some e):eff es n = e.fHa:=by simp [eff,h]
theorem may_apart {es:List bp} {s:eR} (h:may es s = true):Apart es:=by
 intro a b ha hb he;obtain ⟨n,e,h1,rfl,h2⟩:=mem_places.1 ha;obtain ⟨m,d,h3,rfl,h4⟩:=mem_places.1 hb;rw [eff_nat h1,eff_nat h3] at he;rw [(mayFrom_apart h).2 n m e d h1 h3 (by simpa using h2) he]
end Hist
theorem tO (s:Sl) (es:List bp) (v:Value) (P:bp->Bool) (A:List As) (hb:es.length < 2 ^ 38)
  (hv:∀ e ∈ es,SpV prog v [.agg e.C.toArray] aC (vE s es::A) (fun r=>pa_ (r = P e) (vE s es::A))) :
  Sp prog rn [sv s,v] cJ (vE s es::A) (fun r=>aB (vI r (Hist.places P es)::vE s es::A)):=by
 intro h s0;have hl:=(cj (j:=0) s0 rfl).1;refine sim_hist_places _ _ ?_;unfold sh_hist_places;refine Lp.intro (fun (z:Sl × Int) h=>∃ n:Nat,z.2 = n/\n <= es.length/\aB (vI z.1 (Hist.fFb P (es.take n) 0)::vE s es::A) h) (fun (z:Sl × Int) _=>es.length - z.2.toNat) ⟨0,rfl,zero_le _,gg s0⟩ ?_;rintro ⟨z,i⟩ h ⟨n,rfl,hn,s1⟩;unfold uu;refine aY (fun k=>?_) (fun k=>?_)
 ·have hlt:n < es.length:=by rw [hl] at k; simpa using k
  have hw:i64.wrap ((n:Int) + 1) = ((n + 1:Nat):Int):=by rw [bm (by omega) (by omega)]; rfl
  have ht:es.take (n + 1) = es.take n++[es[n]]:=by simp
  have hlen:((es.take n).length:Int) = n:=by simp; omega
  have hpl:=Hist.placesFrom_len P (es.take n) 0;simp at hpl;refine dk s1 (j:=1) rfl (by omega) (by show (n:Int) < _; omega) fun q hq=>?_;refine dD (j:=1) (i:=n) (k:=0) es[n] lH s1 rfl hq rfl (aF hlt) (by simp) ?_;refine clv_t (hv es[n] (getElem_mem hlt)) s1 fun r h2 s2=>?_;obtain ⟨hr,s3⟩:=bt.1 s2;have s4:=wA s3;rw [hw];refine aY (fun k2=>?_) (fun k2=>?_)
  ·refine xr s4 (i:=0) rfl (by omega) fun v h' s5=>?_;refine ⟨⟨n + 1,rfl,hlt,?_⟩,by simp; omega⟩;rw [ht,Hist.placesFrom_app,if_pos (by rw [← hr,k2]),hlen,Int.zero_add];exact s5
  ·refine ⟨⟨n + 1,rfl,hlt,?_⟩,by simp; omega⟩;rw [ht,Hist.placesFrom_app,if_neg (by rw [← hr,k2]; exact Bool.false_ne_true),List.append_nil];exact s4
 ·have:n = es.length:=by rw [hl] at k; simp at k; omega
  subst this;rw [take_length] at s1;exact s1
theorem cmp_neg (x y:Int):gn x y < 0↔x < y:=by
 unfold gn eS;simp only [bne_self_eq_false,cond_false];by_cases h1:x < y
 ·simp [h1]
 ·by_cases h2:x > y
  ·simp [h1,h2]
  ·simp [h1,h2]
theorem sp_hist_Over (s:Sl) (es:List bp) (a:Int) (hb:es.length < 2 ^ 38):Sp prog n_hist_Over [sv s,.int .i64 a] cJ [vE s es] (fun r=>aB [vI r (Hist.over es a),vE s es]):=by
 intro h s0;refine sim_hist_Over _ _ ?_;unfold sh_hist_Over;refine pL s0 fun b3 h1 s1=>?_;refine cZ [1,0] (tO s es _ (fun e=>decide (e.fSa <= a) && (e.fHa == 0 || decide (e.fHa > a))) [blk b3 lL [.int .i64 a]] hb ?_) s1 rfl fun r h2 s2=>?_
 ·intro e he;refine ⟨_,_,_,rfl,enter_hist_Over_c1,fun h s3=>?_⟩;refine sim_hist_Over_c1 e b3 ?_;unfold sh_hist_Over_c1;refine bq a s3 (i:=1) rfl rfl rfl ?_;refine aY (fun k=>?_) (fun k=>?_)
  ·refine bq a s3 (i:=1) rfl rfl rfl ?_;rw [Bool.and_eq_true] at k;refine ba ?_ s3;have k2:(e.fHa == 0) = false:=by simpa using k.2
   rw [k.1,k2]; rfl
  ·refine ba ?_ s3;cases k1:decide (e.fSa <= a) with
   | false=>rfl
   | true =>
    rw [k1] at k;have k2:(e.fHa == 0) = true:=by simpa using k
    rw [k2]; rfl
 ·have s3:=dH s2;exact mJ (l:=[vI r (Hist.over es a),vE s es]) s3
theorem sp_hist_Order20 (s:Sl) (es:List bp) (hb:es.length <= 20) (ha:Hist.Apart es):Sp prog mZ [sv s] cJ [vE s es] (fun r=>aB [vI r (Hist.order es),vE s es]):=by
 intro h s0;refine sim_hist_Order _ ?_;unfold wj;refine pL s0 fun b1 h1 s1=>?_;refine bq s s1 (i:=0) rfl rfl rfl ?_;refine cZ [1,0] (tO s es _ (fun e=>decide (e.fHa > 0)) [blk b1 eB [sv s]] (by omega) ?_) s1 rfl fun r h2 s2=>?_
 ·intro e he;refine ⟨_,_,_,rfl,sU,fun h s3=>?_⟩;exact (xm e h).mono fun v h' ⟨r,hv,hr,hh⟩=>⟨r,hv,hr,by rw [hh]; exact s3⟩
 ·have s3:=dH s2;have hpl:=Hist.placesFrom_len (fun e=>decide (e.fHa > 0)) es 0;refine cZ [0,0,0] (sp_SortStable20 r _ [vE s es,blk b1 eB [sv s]] (Hist.eff es) (fun x=>0 <= x/\x < es.length) ?_ (Hist.effs es) (fun x hx=>Hist.places_in hx) (by unfold Hist.effs Hist.places; omega)) s3 rfl fun u h4 s4=>?_
  ·rintro x y ⟨hx0,hx⟩ ⟨hy0,hy⟩;refine ⟨_,_,_,rfl,sT,fun h s5=>?_⟩;obtain ⟨n,rfl⟩:=Int.eq_ofNat_of_zero_le hx0;obtain ⟨m,rfl⟩:=Int.eq_ofNat_of_zero_le hy0;have hn:n < es.length:=by omega
   have hm:m < es.length:=by omega
   refine uS n m b1 ?_;unfold qS;refine bq s s5 (i:=1) rfl rfl rfl ?_;refine dk s5 (j:=0) rfl (by omega) (by omega) fun q hq=>?_;refine dD (j:=0) (i:=n) (k:=8) es[n].fHa lH s5 rfl hq rfl (aF hn) (c1 rfl rfl) ?_;refine bq s s5 (i:=1) rfl rfl rfl ?_;refine dk s5 (j:=0) rfl (by omega) (by omega) fun q2 hq2=>?_;refine dD (j:=0) (i:=m) (k:=8) es[m].fHa lH s5 rfl hq2 rfl (aF hm) (c1 rfl rfl) ?_;refine ba ?_ s5;rw [cmp_neg,Hist.eff_nat (aF hn),Hist.eff_nat (aF hm)]
  ·obtain ⟨g1,g2,d,rfl,⟨m',⟨p1,p2⟩,s5⟩,s6⟩:=s4;rw [Hist.order_of ha p1 p2] at s5;exact qO (mJ (l:=[vI r (Hist.order es),vE s es]) s5) d
theorem sp_hist_May (s:Sl) (es:List bp) (z:eR) (hb:es.length < 2 ^ 38):Sp prog yj [sv s,.agg z.C.toArray] aC [vE s es] (fun r=>pa_ (r = Hist.may es z) [vE s es]):=by
 intro h s0;have hl:=(cj (j:=0) s0 rfl).1;refine sim_hist_May _ _ ?_;unfold sh_hist_May;refine makeMap_m (τ:=Bool) (val:=fun x=>.bool x) rfl s0 fun b1 h1 s1=>?_;refine makeMap_m (τ:=Int) (val:=fun x=>.int .i64 x) rfl s1 fun b2 h2 s2=>?_;refine Lp.intro (fun (y:Int × Int) h=>∃ (n:Nat) (seen:List Int) (ends:List (Int × Int)),y.2 = n/\n <= es.length/\Hist.mayFrom z (es.drop n) y.1 seen ends = Hist.may es z/\aB [mapA b2 (fun x=>Value.int .i64 x) (Hist.endOf ends),mapA b1 (fun x=>Value.bool x) (fun x=>if x ∈ seen then some true else none),vE s es] h) (fun (y:Int × Int) _=>es.length - y.2.toNat) ⟨0,[],[],rfl,zero_le _,rfl,?_⟩ ?_
 ·have e1:(fun x:Int=>if x ∈ ([]:List Int) then some true else none) = fun _=>none:=by funext x; simp
  have e2:Hist.endOf [] = fun _=>none:=by funext x; rfl
  rw [e1,e2]; exact s2
 rintro ⟨uL,i⟩ h ⟨n,seen,ends,rfl,hn,he,s3⟩;unfold hist_May_l1;simp only at he ⊢;refine aY (fun k=>?_) (fun k=>?_)
 ·have hlt:n < es.length:=by rw [hl] at k; simpa using k
  have hw:i64.wrap ((n:Int) + 1) = ((n + 1:Nat):Int):=by rw [bm (by omega) (by omega)]; rfl
  rw [List.drop_eq_getElem_cons hlt,Hist.mayFrom] at he;refine dk s3 (j:=2) rfl (by omega) (by omega) fun q hq=>?_;refine dD (j:=2) (i:=n) (k:=0) es[n] lH s3 rfl hq rfl (aF hlt) (by simp) ?_;have rest:¬ (fd es[n] z uL = false\/(es[n].fHa > 0/\es[n].fHa ∈ seen))->∀ K:(Int × Int)->Hp->Prop,
    (∀ (s':Int × Int) h',s'.1 = es[n].fSa/\s'.2 = ((n + 1:Nat):Int)->Hist.stops ends es[n] = false->aB [mapA b2 (fun x=>Value.int .i64 x) (Hist.endOf ((es[n].fQa,es[n].fXa)::ends)),mapA b1 (fun x=>Value.bool x) (fun x=>if x ∈ es[n].fHa::seen then some true else none),vE s es] h'->K s' h') ->
    hpv prog (Instr.lookup iC (.map (some b2)) (.int .i64 es[n].fQa) true) bQ (fun (v40:Int × Bool) =>
     br (v40.2 && ((decide (v40.1 <= 0)) || (decide (es[n].fSa <= v40.1)))) (pa_ (false = Hist.may es z) [vE s es]) (
     hpu prog (Instr.mapUpdate jW (.map (some b1)) (.int .i64 es[n].fHa) (.bool true)) <|
     hpu prog (Instr.mapUpdate iC (.map (some b2)) (.int .i64 es[n].fQa) (.int .i64 es[n].fXa)) <|
     K (es[n].fSa,((n + 1:Nat):Int)))) h:=by
   intro hno K hK;rw [if_neg hno] at he;refine lookup_m (j:=0) mp_map_int_int s3 rfl ((Hist.endOf ends es[n].fQa).getD 0,(Hist.endOf ends es[n].fQa).isSome) ?_ ?_
   ·rw [if_pos rfl]; unfold bQ;cases Hist.endOf ends es[n].fQa <;> rfl
   ·have hst:((Hist.endOf ends es[n].fQa).isSome && ((decide ((Hist.endOf ends es[n].fQa).getD 0 <= 0)) || (decide (es[n].fSa <= (Hist.endOf ends es[n].fQa).getD 0)))) = Hist.stops ends es[n]:=by
     unfold Hist.stops;cases Hist.endOf ends es[n].fQa <;> simp
    show br ((Hist.endOf ends es[n].fQa).isSome && ((decide ((Hist.endOf ends es[n].fQa).getD 0 <= 0)) || (decide (es[n].fSa <= (Hist.endOf ends es[n].fQa).getD 0)))) _ _ h;rw [hst];refine aY (fun k2=>?_) (fun k2=>?_)
    ·rw [if_pos k2] at he;exact ba he (bY (l:=[_,_]) s3)
    ·refine update_m (j:=1) (w:=true) mp_map_int_bool s3 rfl rfl fun h4 s4=>?_;refine update_m (j:=0) (w:=es[n].fXa) mp_map_int_int s4 rfl rfl fun h5 s5=>?_;refine hK _ _ ⟨rfl,rfl⟩ k2 ?_;have e1:(fun y=>if y = es[n].fQa then some es[n].fXa else Hist.endOf ends y) = Hist.endOf ((es[n].fQa,es[n].fXa)::ends):=by
      funext y;unfold Hist.endOf;by_cases hy:y = es[n].fQa
      ·subst hy; simp
      ·have:(es[n].fQa == y) = false:=by simpa using fun e=>hy e.symm
       simp [hy,this]
     have e2:(fun y=>if y = es[n].fHa then some true else if y ∈ seen then some true else none) = fun x=>if x ∈ es[n].fHa::seen then some true else none:=by
      funext y;by_cases hy:y = es[n].fHa <;> simp [hy]
     rw [← e1,← e2];exact s5
  have go:¬ (fd es[n] z uL = false\/(es[n].fHa > 0/\es[n].fHa ∈ seen))->∀ (s':Int × Int) h',s'.1 = es[n].fSa/\s'.2 = ((n + 1:Nat):Int)->Hist.stops ends es[n] = false->aB [mapA b2 (fun x=>Value.int .i64 x) (Hist.endOf ((es[n].fQa,es[n].fXa)::ends)),mapA b1 (fun x=>Value.bool x) (fun x=>if x ∈ es[n].fHa::seen then some true else none),vE s es] h' ->
    (∃ (n:Nat) (seen:List Int) (ends:List (Int × Int)),s'.2 = n/\n <= es.length/\Hist.mayFrom z (es.drop n) s'.1 seen ends = Hist.may es z/\aB [mapA b2 (fun x=>Value.int .i64 x) (Hist.endOf ends),mapA b1 (fun x=>Value.bool x) (fun x=>if x ∈ seen then some true else none),vE s es] h')/\es.length - s'.2.toNat < es.length - (n:Int).toNat:=by
   rintro hno ⟨u,w⟩ h' ⟨h4,h5⟩ hst s4;simp only at h4 h5;subst h4; subst h5;rw [if_neg hno,if_neg (by rw [hst]; exact Bool.false_ne_true)] at he;exact ⟨⟨n + 1,_,_,rfl,hlt,he,s4⟩,by simp; omega⟩
  rw [hw];refine aY (fun k2=>?_) (fun k2=>?_)
  ·rw [Bool.and_eq_true] at k2;have k1:fd es[n] z uL = true:=by simpa using k2.1
   have kp:es[n].fHa > 0:=by simpa using k2.2
   refine lookup_m (j:=1) mp_map_int_bool s3 rfl (decide (es[n].fHa ∈ seen)) ?_ ?_
   ·rw [if_neg Bool.false_ne_true]; unfold aC;by_cases hm:es[n].fHa ∈ seen <;> simp [hm]
   ·refine aY (fun k3=>?_) (fun k3=>?_)
    ·have hm:es[n].fHa ∈ seen:=of_decide_eq_true k3;rw [if_pos (.inr ⟨kp,hm⟩)] at he;exact ba he (bY (l:=[_,_]) s3)
    ·have hm:es[n].fHa ∉ seen:=of_decide_eq_false k3;have hno:¬ (fd es[n] z uL = false\/(es[n].fHa > 0/\es[n].fHa ∈ seen)):=by simp [k1,hm]
     exact rest hno _ (go hno)
  ·refine aY (fun k3=>?_) (fun k3=>?_)
   ·have k1:fd es[n] z uL = false:=by simpa using k3
    rw [if_pos (.inl k1)] at he;exact ba he (bY (l:=[_,_]) s3)
   ·have k1:fd es[n] z uL = true:=by simpa using k3
    have kp:¬ es[n].fHa > 0:=by simp [k1] at k2; omega
    have hno:¬ (fd es[n] z uL = false\/(es[n].fHa > 0/\es[n].fHa ∈ seen)):=by simp [k1]; intro hh; exact absurd hh kp
    exact rest hno _ (go hno)
 ·have:n = es.length:=by rw [hl] at k; simp at k; omega
  subst this;rw [List.drop_length] at he;exact ba he (bY (l:=[_,_]) s3)
end
section
open Go Mb
def eq (a2:Int) (a3:Int) (q22:Nat × Nat) (Rec9:kT (Sl × Int)) (s8:Sl × Int) (x49:aG) (s22:Bool):hT:=br s22 ( ld (q22.1,q22.2 + 4) cP fun x65=>cl prog ic [(pv x65)] dY fun r66=>cl prog dL [(pv r66),(.int .i64 x49.fCa),(.agg (ah.C x49.fIa).toArray)] bb fun r72=>cl prog gq [(pv r66),(.int .i64 a2),(.int .i64 a3)] cN fun r77=>hpv prog (Instr.buildSlice qM 1 #[(0,(.agg (ao.C r77.1).toArray))]) rh fun (v82:Sl)=>hpv prog (Builtin.append_ #[qM,qM] qM #[(sv s8.1),(sv v82)]) rh fun (v83:Sl)=>Rec9 (v83,(i64.wrap (s8.2 + 1)))) ( Rec9 (s8.1,(i64.wrap (s8.2 + 1))))
def lE (a2:Int) (a3:Int) (K:kT Sl) (q22:Nat × Nat) (r37:Sl) (Rec9:kT (Sl × Int)) (s8:Sl × Int):hT:=br (decide (s8.2 < (r37.len:Int))) ( ix r37 s8.2 fun q41=>ld (q41.1,q41.2 + Int.toNat s8.2 * 1) (cI .i64) fun x42=>ld (q22.1,q22.2 + 0) cS fun x46=>ix x46 x42 fun q48=>ld (q48.1,q48.2 + Int.toNat x42 * 16) aG.C fun x49=>br (((az x49.fIa).1) == 7) ( eq a2 a3 q22 Rec9 s8 x49 (((az x49.fIa).1) == 7)) ( br (((az x49.fIa).1) == 8) ( eq a2 a3 q22 Rec9 s8 x49 (((az x49.fIa).1) == 8)) ( br (((az x49.fIa).1) == 4) ( eq a2 a3 q22 Rec9 s8 x49 (((az x49.fIa).1) == 4)) ( eq a2 a3 q22 Rec9 s8 x49 (((az x49.fIa).1) == 5))))) ( K s8.1)
def qw (a0:Ptr) (a1:Int) (a2:Int) (a3:Int) (K:kT Sl):hT:=nn a0 fun q22=>ld (q22.1,q22.2 + 4) cP fun x24=>cl prog gq [(pv x24),(.int .i64 a2),(.int .i64 a3)] cN fun r27=>hpv prog (Instr.buildSlice qM 1 #[(0,(.agg (ao.C r27.1).toArray))]) rh fun (v31:Sl)=>ld (q22.1,q22.2 + 0) cS fun x35=>cl prog n_hist_Over [(sv x35),(.int .i64 a1)] cJ fun r37=>Lp (lE a2 a3 K q22 r37) (v31,0)
theorem xQ (a0:Ptr) (a1:Int) (a2:Int) (a3:Int) {K:kT Sl} {h:Hp} (H:qw a0 a1 a2 a3 K h):cl prog mt [(pv a0),(.int .i64 a1),(.int .i64 a2),(.int .i64 a3)] rh K h:=z_i func140 p p fun _=>O<|U p<|O<|M p<|bI H fun q22 e1 H2=>J (aL<|aJ p<|ar e1)<|J (ae xh p)<|aa<|aW H2 vw p (fun _=>p) p fun x24 H3=>M p<|M p<|aa<|D H3 en_77 fun r27 _ H4=>M p<|J (ak p p)<|J (ak p p)<|aa<|aI (l:=ao.C (⟨0,0,0⟩:ao)) fj p p fun b9=>aa<|aP (k:=0) (vs:=ao.C r27.1) dn p p p p p p p<|U p<|O<|bn (bH (k:=0) dX p p p p) p<|aa<|aT H4 (bw (vs:=[(.agg (ao.C r27.1).toArray)]) p) p fun v31 _ H5=>U p<|am<|O<|M (aJ p<|ar e1)<|J (aL p)<|J (ae fld_156_0 p)<|aa<|aW H5 sc_22 p (fun _=>p) p fun x35 H6=>M p<|aa<|D H6 en_8 fun r37 _ H7=>J (dK p underlying27 p)<|M p<|ad<|ax<|bv (step:=lE a2 a3 K q22 r37) (fun s8=>[(0,(pv a0)),(2,(.int .i64 a2)),(3,(.int .i64 a3)),(11,(sv s8.1)),(37,(sv r37)),(38,(.int .i64 (r37.len:Int))),(39,(.int .i64 s8.2))]) (fun s8=>[]) H7 (.cons p<|.cons p<|.cons p<|.cons p<|.cons p<|.cons p<|.cons p<|.nil _) (.cons _ .slnil) fun Rec9 s8 _ H10=>O<|J (cn p p)<|ad<|am<|aw p H10 (fun k11 H12=>an<|am<|ax<|O<|cz H12 fun q41 e13 h14 H15=>J (bf dA (aJ p<|aX e13) p h14)<|aa<|aW H15 bc p (fun _=>p) p fun x42 H16=>U p<|O<|M (aJ p<|ar e1)<|J (aL p)<|J (ae fld_156_0 p)<|aa<|aW H16 sc_22 p (fun _=>p) p fun x46 H17=>M p<|cz H17 fun q48 e18 h19 H20=>J (bf rY (aJ p<|aX e18) p h19)<|aa<|hG H20 ag_40 p (fun _=>p) p fun x49 H21=>aa<|aI (l:=aG.C (⟨0,0,(⟨0,0,0,0,0⟩:ah),0,0,0,(⟨0,0⟩:ab),(⟨0,0,0,0⟩:ap)⟩:aG)) zero_40 p p fun b14=>aa<|aP (k:=0) (vs:=aG.C x49) inf_40 p p p p p p p<|ad<|O<|J (ae mz p)<|bn (bH (k:=0) fI p p p p) p<|aa<|cW (vs:=[(.agg (ah.C x49.fIa).toArray)]) (bC<|kR x49.fIa _) en_44 p p<|M p<|J (ak p p)<|J (ak p p)<|J (av p)<|U p<|O<|M p<|ad<|ax<|eu (eq a2 a3 q22 Rec9 s8 x49) (fun s22=>[(0,(pv a0)),(2,(.int .i64 a2)),(3,(.int .i64 a3)),(11,(sv s8.1)),(14,(.pointer (some ⟨b14,0,none⟩))),(37,(sv r37)),(38,(.int .i64 (r37.len:Int))),(39,(.int .i64 s8.2)),(57,(.bool s22))]) (fun s22=>[bx b14 40 (aG.C x49)]) (O<|J (bP p p)<|U p<|aw p H21 (fun k32 H33=>an<|cE (((az x49.fIa).1) == 7) H33 (.cons p<|.cons p<|.cons p<|.cons p<|.cons p<|.cons p<|.cons p<|.cons p<|.cons p<|.nil _)<|.cons_cons _ .slnil) fun k32 H33=>O<|J (bP p p)<|U p<|aw p H33 (fun k34 H35=>an<|cE (((az x49.fIa).1) == 8) H35 (.cons p<|.cons p<|.cons p<|.cons p<|.cons p<|.cons p<|.cons p<|.cons p<|.cons p<|.nil _)<|.cons_cons _ .slnil) fun k34 H35=>O<|J (bP p p)<|U p<|aw p H35 (fun k36 H37=>an<|cE (((az x49.fIa).1) == 4) H37 (.cons p<|.cons p<|.cons p<|.cons p<|.cons p<|.cons p<|.cons p<|.cons p<|.cons p<|.nil _)<|.cons_cons _ .slnil) fun k36 H37=>aq<|J (bP p p)<|U p<|cE (((az x49.fIa).1) == 5) H37 (.cons p<|.cons p<|.cons p<|.cons p<|.cons p<|.cons p<|.cons p<|.cons p<|.cons p<|.nil _)<|.cons_cons _ .slnil) fun s22 _ H23=>aw p H23 (fun k24 H25=>O<|M (aJ p<|ar e1)<|J (aL p)<|J (ae xh p)<|aa<|aW H25 vw p (fun _=>p) p fun x65 H26=>aa<|D H26 en_141 fun r66 _ H27=>U p<|O<|M p<|J (ae nM p)<|bn (be (k:=0) bc p p p) p<|J (ae mz p)<|bn (bH (k:=0) fI p p p p) p<|aa<|D H27 en_52 fun r72 _ H28=>ad<|O<|M p<|M p<|M p<|aa<|D H28 en_77 fun r77 _ H29=>M p<|J (ak p p)<|J (ak p p)<|aa<|aI (l:=ao.C (⟨0,0,0⟩:ao)) fj p p fun b18=>aa<|aP (k:=0) (vs:=ao.C r77.1) dn p p p p p p p<|U p<|aq<|M p<|bn (bH (k:=0) dX p p p p) p<|aa<|aT H29 (bw (vs:=[(.agg (ao.C r77.1).toArray)]) p) p fun v82 _ H30=>aa<|aT H30 (dS p p) p fun v83 _ H31=>U p<|aq<|J (bk p p)<|M p<|ad<|cF (v83,(i64.wrap (s8.2 + 1))) H31 (.cons p<|.cons p<|.cons p<|.cons p<|.cons p<|.cons p<|.cons p<|.nil _)<|.cons _<|.cons _ .slnil) fun k24 H25=>an<|aq<|J (bk p p)<|M p<|ad<|cF (s8.1,(i64.wrap (s8.2 + 1))) H25 (.cons p<|.cons p<|.cons p<|.cons p<|.cons p<|.cons p<|.cons p<|.nil _)<|.cons _ .slnil) fun k11 H12=>bh<|O<|M p<|U p<|aj<|Z ⟨s8.1,p,H12⟩
def lF (a1:aG) (K:kT Bool) (q18:Nat × Nat) (r50:Sl) (Rec13:kT (Bool × Bool × Int)) (s12:Bool × Bool × Int):hT:=br (decide (s12.2.2 < (r50.len:Int))) ( ix r50 s12.2.2 fun q54=>ld (q54.1,q54.2 + Int.toNat s12.2.2 * 3) ao.C fun x55=>Rec13 ((s12.1 || (!(ct x55.fBa (i64.wrap a1.fIa.e0)))),(s12.2.1 || ((x55.fEa == a1.fUa.fEa) && (aO a1.fUa.fBa x55.fBa))),(i64.wrap (s12.2.2 + 1)))) ( br (a1.fYa.fRa == 7) ( K ((s12.1 && (a1.fYa.fVal == 0)) && (ap.eqb a1.fUa (⟨0,0,0,0⟩:ap)))) ( ld (q18.1,q18.2 + 4) cP fun x103=>cl prog ic [(pv x103)] dY fun r104=>cl prog fD [(pv r104),(.int .i64 a1.fUa.fEa),(.agg (ah.C a1.fIa).toArray)] bb fun r110=>K (((s12.2.1 && (((a1.fUa.fCa == a1.fCa) && (a1.fUa.fOa == (i64.wrap a1.fIa.e1))) && (ct a1.fUa.fBa (i64.wrap a1.fIa.e0)))) && r110.2) && (ab.eqb r110.1 a1.fYa))))
def qx (a0:Ptr) (a1:aG) (K:kT Bool):hT:=nn a0 fun q18=>ld (q18.1,q18.2 + 1 + 1) (cI .i64) fun x21=>cl prog ir [(.agg (ah.C a1.fIa).toArray),(.int .i64 x21)] bj fun r22=>br (r22 != 0) ( K ((ab.eqb a1.fYa (⟨r22,0⟩:ab)) && (ap.eqb a1.fUa (⟨0,0,0,0⟩:ap)))) ( cl prog mt [(.pointer (some ⟨q18.1,q18.2,none⟩)),(.int .i64 a1.fHa),(.int .i64 a1.fCa),(.int .i64 (i64.wrap a1.fIa.e1))] rh fun r50=>Lp (lF a1 K q18 r50) (false,false,0))
theorem xR (a0:Ptr) (a1:aG) {K:kT Bool} {h:Hp} (H:qx a0 a1 K h):cl prog mu [(pv a0),(.agg (aG.C a1).toArray)] aC K h:=z_i func97 p p fun _=>O<|aa<|cX (l:=aG.C a1) p p p fun b3=>U p<|am<|am<|bo (n:=9) [bx b3 40 (aG.C a1)] cu p (.cons_cons _ .slnil)<|V 0 p (ae mz p)<|z_E 1 p (eK (k:=0) fI p p p p)<|V 2 p (ai p)<|iy H fun q18 e1 H2=>V 3 p (aL<|aJ p<|ar e1)<|V 4 p (ae fld_156_1 p)<|V 5 p (ae nO p)<|bz (i:=6) (fun _ _ _ _ hh=>hh) H2 p (by kernel_rfl) bc p (fun _=>p) p fun x21 H3=>I 7 p<|D H3 en_72 fun r22 _ H4=>⟨.cons_cons _ .slnil,V 8 p (av p)<|aR (by kernel_rfl)<|O<|M p<|J (nY p p)<|ad<|aw p H4 (fun k5 H6=>O<|J (ae jD p)<|bn (bH (k:=0) cM p p p p) p<|M p<|J (aZ p<|jM r22)<|J (v_eqA eqg_36 (eqr_36 9998 _ _) p p)<|M p<|W p p (ay _) (fun g7=>wv<|ae gK p)<|W p p (ay _) (fun g8=>cv<|bH (k:=0) iH (aD p g8) p p p)<|W p p (ay _) (fun g9=>wv<|aZ (vs:=[]) p mG)<|W p p (ay _) (fun g10=>wv<|v_eqA eqg_38 (eqr_38 9998 _ _) (aD p g10)<|aD p g10)<|J (bO p p)<|U p<|aj<|Z ⟨((ab.eqb a1.fYa (⟨r22,0⟩:ab)) && (ap.eqb a1.fUa (⟨0,0,0,0⟩:ap))),p,H6⟩) fun k5 H6=>an<|am<|bo (n:=10) [bx b3 40 (aG.C a1)] cu p (.cons_cons _ .slnil)<|V 0 p (ae mz p)<|V 1 p (bD dq p p (by decide))<|z_E 2 p (dw (k:=0) cG p p p)<|V 3 p (dy ⟨_,underlying31⟩ underlying3 p)<|V 4 p (ae mz p)<|V 5 p (bD dq p p (by decide))<|z_E 6 p (dw (k:=0) cG p p p)<|V 7 p (dy ⟨_,underlying31⟩ underlying3 p)<|V 8 p (av p)<|V 9 p (av p)<|aR (by kernel_rfl)<|O<|J (av p)<|U p<|am<|O<|M (aJ p<|ar e1)<|J (ae jE p)<|bn (be (k:=0) bc p p p) p<|J (ae nM p)<|bn (be (k:=0) bc p p p) p<|M p<|aa<|D H6 en_140 fun r50 _ H11=>J (dK p underlying202 p)<|M p<|ad<|ax<|bv (step:=lF a1 K q18 r50) (fun s12=>[(0,(pv a0)),(3,(.pointer (some ⟨b3,0,none⟩))),(6,(.int .i64 (i64.wrap a1.fIa.e1))),(7,(.int .i64 (i64.wrap a1.fIa.e0))),(8,(.bool s12.1)),(9,(.bool s12.2.1)),(50,(sv r50)),(51,(.int .i64 (r50.len:Int))),(52,(.int .i64 s12.2.2))]) (fun s12=>[bx b3 40 (aG.C a1)]) H11 (.cons p<|.cons p<|.cons p<|.cons p<|.cons p<|.cons p<|.cons p<|.cons p<|.cons p<|.nil _) (.cons_cons _ .slnil) fun Rec13 s12 _ H14=>O<|J (cn p p)<|ad<|am<|aw p H14 (fun k15 H16=>an<|am<|ax<|O<|cz H16 fun q54 e17 h18 H19=>J (bf slc_202 (aJ p<|aX e17) p h18)<|aa<|hG H19 dX p (fun _=>p) p fun x55 H20=>aa<|aI (l:=ao.C (⟨0,0,0⟩:ao)) fj p p fun b11=>aa<|aP (k:=0) (vs:=ao.C x55) dn p p p p p p p<|ad<|O<|M p<|M p<|W p p (aN _) (fun g21=>wv<|ae dZ p)<|W p p (aN _) (fun g22=>cv<|be (k:=0) bc (aD p g22) p p)<|W p p (aN _) (fun g23=>wv<|ai p)<|dm (vs:=[(.int .i64 x55.fBa),(.int .i64 (i64.wrap a1.fIa.e0))]) p p p (aN _) (fun g24=>bC<|kD x55.fBa (i64.wrap a1.fIa.e0) _) en_120 (fun g24=>aV (aD p g24)<|aV (aD p g24) bU) p<|W p p (aN _) (fun g25=>wv<|cy<|aD p g25)<|J (dC p p)<|U p<|aq<|M p<|M p<|W p p (aN _) (fun g26=>wv<|ae oU p)<|W p p (aN _) (fun g27=>cv<|be (k:=0) bc (aD p g27) p p)<|W p p (aN _) (fun g28=>wv<|ae gK p)<|W p p (aN _) (fun g29=>wv<|ae mB<|aD p g29)<|W p p (aN _) (fun g30=>cv<|be (k:=1) bc (aD p g30) p p)<|W p p (aN _) (fun g31=>wv<|bP (aD p g31)<|aD p g31)<|W p p (aN _) (fun g32=>wv<|ai<|aD p g32)<|W p p (sw _ _) (fun g33=>wv<|ae gK p)<|W p p (sw _ _) (fun g34=>wv<|ae rR<|aD p g34)<|W p p (sw _ _) (fun g35=>cv<|be (k:=1) bc (aD p g35) p p)<|W p p (sw _ _) (fun g36=>wv<|ae dZ p)<|W p p (sw _ _) (fun g37=>cv<|be (k:=0) bc (aD p g37) p p)<|dm (vs:=[(.int .i64 a1.fUa.fBa),(.int .i64 x55.fBa)]) p p p (sw _ _) (fun g38=>bC<|du a1.fUa.fBa x55.fBa _) sV (fun g38=>aV (aD p g38)<|aV (aD p g38) bU) p<|W p p (aN _) (fun g39=>wv<|bO (aD p g39)<|aJ p<|yr g39)<|J (dC p p)<|U p<|aq<|J (bk p p)<|M p<|ad<|cF ((s12.1 || (!(ct x55.fBa (i64.wrap a1.fIa.e0)))),(s12.2.1 || ((x55.fEa == a1.fUa.fEa) && (aO a1.fUa.fBa x55.fBa))),(i64.wrap (s12.2.2 + 1))) H20 (.cons p<|.cons p<|.cons p<|.cons p<|.cons p<|.cons p<|.cons p<|.cons p<|.cons p<|.nil _)<|.cons _<|.cons_cons _ .slnil) fun k15 H16=>bh<|am<|O<|J (ae jD p)<|J (ae gL p)<|bn (be (k:=0) lO p p p) p<|J (bP p p)<|ad<|aw p H16 (fun k40 H41=>O<|M p<|M p<|W p p (ay _) (fun g42=>wv<|ae jD p)<|W p p (ay _) (fun g43=>wv<|ae fld_36_1<|aD p g43)<|W p p (ay _) (fun g44=>cv<|be (k:=0) cG (aD p g44) p p)<|W p p (ay _) (fun g45=>wv<|bP (aD p g45) p)<|J (bO p p)<|M p<|W p p (ay _) (fun g46=>wv<|ae gK p)<|W p p (ay _) (fun g47=>cv<|bH (k:=0) iH (aD p g47) p p p)<|W p p (ay _) (fun g48=>wv<|aZ (vs:=[]) p mG)<|W p p (ay _) (fun g49=>wv<|v_eqA eqg_38 (eqr_38 9998 _ _) (aD p g49)<|aD p g49)<|J (bO p p)<|U p<|aj<|Z ⟨((s12.1 && (a1.fYa.fVal == 0)) && (ap.eqb a1.fUa (⟨0,0,0,0⟩:ap))),p,H41⟩) fun k40 H41=>an<|am<|bo (n:=17) [bx b3 40 (aG.C a1)] cu p (.cons_cons _ .slnil)<|V 0 p (ai<|aJ p<|ar e1)<|V 1 p (aL p)<|V 2 p (ae xh p)<|V 5 p (ae gK p)<|V 6 p (ae mB p)<|z_E 7 p (dw (k:=0) bc p p p)<|V 8 p (ae mz p)<|z_E 9 p (eK (k:=0) fI p p p p)<|bz (i:=3) (fun _ _ _ _ hh=>hh) H41 p (by kernel_rfl) vw p (fun _=>p) p fun x103 H50=>kr (i:=4) (j:=14) (by kernel_rfl) (cR p p<|D H50 en_141 fun r104 _ H52=>⟨.cons_cons _ .slnil,kr (i:=10) (j:=14) (by kernel_rfl) (cR p p<|D H52 en_76 fun r110 _ H54=>⟨.cons_cons _ .slnil,V 11 p (ai p)<|V 12 p (ak p p)<|V 13 p (ak p p)<|I 14 p<|aI (l:=ab.C (⟨0,0⟩:ab)) cY p p fun b12=>⟨.cons _<|.cons_cons _ .slnil,I 15 p<|aP (k:=0) (vs:=ab.C r110.1) bL p p p p p p p ⟨.cons _<|.cons_cons _ .slnil,V 16 p (av p)<|aR (by kernel_rfl)<|O<|J (ae gK p)<|J (ae lf p)<|bn (be (k:=1) bc p p p) p<|J (ae nM p)<|bn (be (k:=1) bc p p p) p<|J (bP p p)<|M p<|W p p (ay _) (fun g55=>wv<|ae gK p)<|W p p (ay _) (fun g56=>wv<|ae nN<|aD p g56)<|W p p (ay _) (fun g57=>cv<|be (k:=1) bc (aD p g57) p p)<|W p p (ay _) (fun g58=>wv<|ai p)<|W p p (ay _) (fun g59=>wv<|bP (aD p g59)<|aD p g59)<|J (bO p p)<|M p<|W p p (ay _) (fun g60=>wv<|ae gK p)<|W p p (ay _) (fun g61=>wv<|ae rR<|aD p g61)<|W p p (ay _) (fun g62=>cv<|be (k:=1) bc (aD p g62) p p)<|W p p (ay _) (fun g63=>wv<|ai p)<|dm (vs:=[(.int .i64 a1.fUa.fBa),(.int .i64 (i64.wrap a1.fIa.e0))]) p p p (ay _) (fun g64=>bC<|kD a1.fUa.fBa (i64.wrap a1.fIa.e0) _) en_120 (fun g64=>aV (aD p g64)<|aV (aD p g64) bU) p<|J (bO p p)<|U p<|O<|M p<|M p<|W p p (ay _) (fun g65=>wv<|ai p)<|J (bO p p)<|M p<|W p p (ay _) (fun g66=>wv<|ai p)<|J (bO p p)<|M p<|W p p (ay _) (fun g67=>cv<|bH (k:=0) cM p p p p)<|W p p (ay _) (fun g68=>wv<|ae jD p)<|W p p (ay _) (fun g69=>cv<|bH (k:=1) cM (aD p g69) p p p)<|W p p (ay _) (fun g70=>wv<|v_eqA eqg_36 (eqr_36 9998 _ _) (aD p g70)<|aD p g70)<|J (bO p p)<|U p<|aj<|Z ⟨(((s12.2.1 && (((a1.fUa.fCa == a1.fCa) && (a1.fUa.fOa == (i64.wrap a1.fIa.e1))) && (ct a1.fUa.fBa (i64.wrap a1.fIa.e0)))) && r110.2) && (ab.eqb r110.1 a1.fYa)),p,H54⟩⟩⟩⟩)<|cR p p<|aI (l:=ab.C (⟨0,0⟩:ab)) cY p p fun b12=>⟨.cons _<|.cons_cons _ .slnil,I 10 p<|D H52 en_76 fun r110 _ H54=>⟨.cons _<|.cons_cons _ .slnil,V 11 p (ai p)<|V 12 p (ak p p)<|V 13 p (ak p p)<|I 15 p<|aP (k:=0) (vs:=ab.C r110.1) bL p p p p p p p ⟨.cons _<|.cons_cons _ .slnil,V 16 p (av p)<|aR (by kernel_rfl)<|O<|J (ae gK p)<|J (ae lf p)<|bn (be (k:=1) bc p p p) p<|J (ae nM p)<|bn (be (k:=1) bc p p p) p<|J (bP p p)<|M p<|W p p (ay _) (fun g55=>wv<|ae gK p)<|W p p (ay _) (fun g56=>wv<|ae nN<|aD p g56)<|W p p (ay _) (fun g57=>cv<|be (k:=1) bc (aD p g57) p p)<|W p p (ay _) (fun g58=>wv<|ai p)<|W p p (ay _) (fun g59=>wv<|bP (aD p g59)<|aD p g59)<|J (bO p p)<|M p<|W p p (ay _) (fun g60=>wv<|ae gK p)<|W p p (ay _) (fun g61=>wv<|ae rR<|aD p g61)<|W p p (ay _) (fun g62=>cv<|be (k:=1) bc (aD p g62) p p)<|W p p (ay _) (fun g63=>wv<|ai p)<|dm (vs:=[(.int .i64 a1.fUa.fBa),(.int .i64 (i64.wrap a1.fIa.e0))]) p p p (ay _) (fun g64=>bC<|kD a1.fUa.fBa (i64.wrap a1.fIa.e0) _) en_120 (fun g64=>aV (aD p g64)<|aV (aD p g64) bU) p<|J (bO p p)<|U p<|O<|M p<|M p<|W p p (ay _) (fun g65=>wv<|ai p)<|J (bO p p)<|M p<|W p p (ay _) (fun g66=>wv<|ai p)<|J (bO p p)<|M p<|W p p (ay _) (fun g67=>cv<|bH (k:=0) cM p p p p)<|W p p (ay _) (fun g68=>wv<|ae jD p)<|W p p (ay _) (fun g69=>cv<|bH (k:=1) cM (aD p g69) p p p)<|W p p (ay _) (fun g70=>wv<|v_eqA eqg_36 (eqr_36 9998 _ _) (aD p g70)<|aD p g70)<|J (bO p p)<|U p<|aj<|Z ⟨(((s12.2.1 && (((a1.fUa.fCa == a1.fCa) && (a1.fUa.fOa == (i64.wrap a1.fIa.e1))) && (ct a1.fUa.fBa (i64.wrap a1.fIa.e0)))) && r110.2) && (ab.eqb r110.1 a1.fYa)),p,H54⟩⟩⟩⟩⟩)<|cR p p<|aI (l:=ab.C (⟨0,0⟩:ab)) cY p p fun b12=>⟨.cons _<|.cons_cons _ .slnil,I 4 p<|D H50 en_141 fun r104 _ H52=>⟨.cons _<|.cons_cons _ .slnil,I 10 p<|D H52 en_76 fun r110 _ H53=>⟨.cons _<|.cons_cons _ .slnil,V 11 p (ai p)<|V 12 p (ak p p)<|V 13 p (ak p p)<|I 15 p<|aP (k:=0) (vs:=ab.C r110.1) bL p p p p p p p ⟨.cons _<|.cons_cons _ .slnil,V 16 p (av p)<|aR (by kernel_rfl)<|O<|J (ae gK p)<|J (ae lf p)<|bn (be (k:=1) bc p p p) p<|J (ae nM p)<|bn (be (k:=1) bc p p p) p<|J (bP p p)<|M p<|W p p (ay _) (fun g54=>wv<|ae gK p)<|W p p (ay _) (fun g55=>wv<|ae nN<|aD p g55)<|W p p (ay _) (fun g56=>cv<|be (k:=1) bc (aD p g56) p p)<|W p p (ay _) (fun g57=>wv<|ai p)<|W p p (ay _) (fun g58=>wv<|bP (aD p g58)<|aD p g58)<|J (bO p p)<|M p<|W p p (ay _) (fun g59=>wv<|ae gK p)<|W p p (ay _) (fun g60=>wv<|ae rR<|aD p g60)<|W p p (ay _) (fun g61=>cv<|be (k:=1) bc (aD p g61) p p)<|W p p (ay _) (fun g62=>wv<|ai p)<|dm (vs:=[(.int .i64 a1.fUa.fBa),(.int .i64 (i64.wrap a1.fIa.e0))]) p p p (ay _) (fun g63=>bC<|kD a1.fUa.fBa (i64.wrap a1.fIa.e0) _) en_120 (fun g63=>aV (aD p g63)<|aV (aD p g63) bU) p<|J (bO p p)<|U p<|O<|M p<|M p<|W p p (ay _) (fun g64=>wv<|ai p)<|J (bO p p)<|M p<|W p p (ay _) (fun g65=>wv<|ai p)<|J (bO p p)<|M p<|W p p (ay _) (fun g66=>cv<|bH (k:=0) cM p p p p)<|W p p (ay _) (fun g67=>wv<|ae jD p)<|W p p (ay _) (fun g68=>cv<|bH (k:=1) cM (aD p g68) p p p)<|W p p (ay _) (fun g69=>wv<|v_eqA eqg_36 (eqr_36 9998 _ _) (aD p g69)<|aD p g69)<|J (bO p p)<|U p<|aj<|Z ⟨(((s12.2.1 && (((a1.fUa.fCa == a1.fCa) && (a1.fUa.fOa == (i64.wrap a1.fIa.e1))) && (ct a1.fUa.fBa (i64.wrap a1.fIa.e0)))) && r110.2) && (ab.eqb r110.1 a1.fYa)),p,H53⟩⟩⟩⟩⟩⟩
def sN (a0:Ptr) (a1:aG) (K:kT Bool):hT:=br (a1.fYa.fRa == 0) ( nn a0 fun q13=>ld (q13.1,q13.2 + 1 + 1) (cI .i64) fun x16=>cl prog ir [(.agg (ah.C a1.fIa).toArray),(.int .i64 x16)] bj fun r17=>br (r17 == 0) ( K (a1.fUa.fBa != 0)) ( K false)) ( K false)
theorem sim_judge_judge_well (a0:Ptr) (a1:aG) {K:kT Bool} {h:Hp} (H:sN a0 a1 K h):cl prog oo [(pv a0),(.agg (aG.C a1).toArray)] aC K h:=z_i func98 p p fun _=>O<|aa<|cX (l:=aG.C a1) p p p fun b3=>U p<|am<|bo (n:=22) [bx b3 40 (aG.C a1)] cu p (.cons_cons _ .slnil)<|V 0 p (ae jD p)<|V 1 p (ae gL p)<|z_E 2 p (dw (k:=0) lO p p p)<|V 3 p (bP p p)<|V 4 p (ai p)<|ox H (fun k1 H2=>z_n 5 p (F k1) (ve<|ae mz p)<|z_n 6 p (F k1) (eK (k:=0) fI p p p p)<|z_n 7 p (F k1) (ve<|ai p)<|iy H2 fun q13 e3 H4=>z_n 8 p (F k1) (ve<|aL<|aJ p<|ar e3)<|z_n 9 p (F k1) (ve<|ae fld_156_1 p)<|z_n 10 p (F k1) (ve<|ae nO p)<|ni (i:=11) (fun _ _ _ _ hh=>hh) H4 p (by kernel_rfl) p p p (F k1) bc p (fun _=>p) p fun x16 H5=>eva_1 (i:=12) (by kernel_rfl)<|way_on p p p p (F k1)<|D H5 en_72 fun r17 _ H6=>⟨.cons_cons _ .slnil,z_n 13 p (F k1) (ve<|bP p p)<|V 14 p (aU p k1 p)<|V 15 p (ai p)<|ox H6 (fun k7 H8=>z_n 16 p (F k7) (ve<|ae gK p)<|z_n 17 p (F k7) (ve<|ae rR p)<|z_n 18 p (F k7) (dw (k:=0) bc p p p)<|z_n 19 p (F k7) (ve<|nY p p)<|V 20 p (aU p k7 p)<|V 21 p (av p)<|aR (by kernel_rfl)<|aj<|Z ⟨(a1.fUa.fBa != 0),p,H8⟩) fun k7 H8=>z_f 16 p (aS k7)<|z_f 17 p (aS k7)<|z_f 18 p (aS k7)<|z_f 19 p (aS k7)<|V 20 p (au p k7 p)<|V 21 p (av p)<|aR (by kernel_rfl)<|aj<|Z ⟨false,p,H8⟩⟩) fun k1 H2=>z_f 5 p (aS k1)<|z_f 6 p (aS k1)<|z_f 7 p (aS k1)<|z_f 8 p (aS k1)<|z_f 9 p (aS k1)<|z_f 10 p (aS k1)<|z_f 11 p (aS k1)<|z_f 12 p (aS k1)<|z_f 13 p (aS k1)<|V 14 p (au p k1 p)<|V 15 p (ai p)<|z_f 16 p p<|z_f 17 p p<|z_f 18 p p<|z_f 19 p p<|V 20 p (au p p p)<|V 21 p (av p)<|aR (by kernel_rfl)<|aj<|Z ⟨false,p,H2⟩
def tv (b25:Nat) (Rec8:kT Int) (s7:Int) (x36:aG) (s22:Unit):hT:=cl prog oo [(.pointer (some ⟨b25,0,none⟩)),(.agg (aG.C x36).toArray)] aC fun r49=>br r49 ( ld (b25,4) cP fun x53=>cl prog fD [(pv x53),(.int .i64 x36.fUa.fEa),(.agg (ah.C x36.fIa).toArray)] bb fun r59=>Rec8 (i64.wrap (s7 + 1))) ( Rec8 (i64.wrap (s7 + 1)))
def tu (K:kT (Int × Bool)) (b25:Nat) (Rec8:kT Int) (s7:Int) (x32:Int) (x36:aG) (s29:Bool):hT:=br s29 ( K (x32,false)) ( tv b25 Rec8 s7 x36 ())
def yo (a0:Sl) (a2:Bool) (a3:Bool) (K:kT (Int × Bool)) (b25:Nat) (r27:Sl) (Rec8:kT Int) (s7:Int):hT:=br (decide (s7 < (r27.len:Int))) ( ix r27 s7 fun q31=>ld (q31.1,q31.2 + Int.toNat s7 * 1) (cI .i64) fun x32=>ix a0 x32 fun q35=>ld (q35.1,q35.2 + Int.toNat x32 * 16) aG.C fun x36=>br (fP x36) ( br a3 ( cl prog mu [(.pointer (some ⟨b25,0,none⟩)),(.agg (aG.C x36).toArray)] aC fun r43=>tu K b25 Rec8 s7 x32 x36 (!r43)) ( tu K b25 Rec8 s7 x32 x36 false)) ( ld (b25,4) cP fun x64=>cl prog dL [(pv x64),(.int .i64 x36.fCa),(.agg (ah.C x36.fIa).toArray)] bb fun r69=>br (a2 && ((!r69.2) || (!(ab.eqb r69.1 x36.fYa)))) ( K (x32,false)) ( Rec8 (i64.wrap (s7 + 1))))) ( K ((-1),true))
def sh_judge_run (a0:Sl) (a1:aE) (a2:Bool) (a3:Bool) (K:kT (Int × Bool)):hT:=cl prog yj [(sv a0),(.agg (aE.C a1).toArray)] aC fun r18=>br (!r18) ( K ((-1),false)) ( cl prog oK [(.agg (aE.C a1).toArray)] dY fun r23=>nw dz (ly.C (⟨a0,a1,r23⟩:ly)) fun b25=>cl prog mZ [(sv a0)] cJ fun r27=>Lp (yo a0 a2 a3 K b25 r27) 0)
theorem sim_judge_run (a0:Sl) (a1:aE) (a2:Bool) (a3:Bool) {K:kT (Int × Bool)} {h:Hp} (H:sh_judge_run a0 a1 a2 a3 K h):cl prog vC [(sv a0),(.agg (aE.C a1).toArray),(.bool a2),(.bool a3)] bQ K h:=z_i func60 p p fun _=>O<|aa<|cX (l:=aE.C a1) p p p fun b5=>J (av p)<|U p<|am<|O<|M p<|bn (bH (k:=0) qe p p p p) p<|aa<|D H en_6 fun r18 _ H1=>J (cy p)<|ad<|aw p H1 (fun k2 H3=>O<|J (av p)<|U p<|aj<|bB (bR p (cd p)<|cd p) ⟨((-1),false),p,H3⟩) fun k2 H3=>an<|am<|bo (n:=7) [bx b5 24 (aE.C a1)] cu p (.cons_cons _ .slnil)<|V 0 p (ai p)<|z_E 1 p (eK (k:=0) qe p p p p)<|z_E 2 p (eK (k:=0) qe p p p p)<|I 3 p<|D H3 en_56 fun r23 _ H4=>⟨.cons_cons _ .slnil,V 4 p (aZ p<|build_156_0_1_2 a0 a1 r23)<|I 5 p<|iL p p p H4 fun b25 _ H5=>⟨.cons_cons _ .slnil,V 6 p (av p)<|aR (by kernel_rfl)<|am<|O<|M p<|aa<|D H5 en_13 fun r27 _ H6=>J (dK p underlying27 p)<|M p<|ad<|ax<|bv (step:=yo a0 a2 a3 K b25 r27) (fun s7=>[(0,(sv a0)),(2,(.bool a2)),(3,(.bool a3)),(10,(.pointer (some ⟨b25,0,none⟩))),(27,(sv r27)),(28,(.int .i64 (r27.len:Int))),(29,(.int .i64 s7))]) (fun s7=>[]) H6 (.cons p<|.cons p<|.cons p<|.cons p<|.cons p<|.cons p<|.cons p<|.nil _) (.cons _ .slnil) fun Rec8 s7 _ H9=>O<|J (cn p p)<|ad<|am<|aw p H9 (fun k10 H11=>an<|am<|ax<|O<|cz H11 fun q31 e12 h13 H14=>J (bf dA (aJ p<|aX e12) p h13)<|aa<|aW H14 bc p (fun _=>p) p fun x32 H15=>U p<|O<|M p<|M p<|cz H15 fun q35 e16 h17 H18=>J (bf rY (aJ p<|aX e16) p h17)<|aa<|hG H18 ag_40 p (fun _=>p) p fun x36 H19=>aa<|aI (l:=aG.C (⟨0,0,(⟨0,0,0,0,0⟩:ah),0,0,0,(⟨0,0⟩:ab),(⟨0,0,0,0⟩:ap)⟩:aG)) zero_40 p p fun b13=>aa<|aP (k:=0) (vs:=aG.C x36) inf_40 p p p p p p p<|ad<|am<|O<|bn (bH (k:=0) ag_40 p p p p) p<|aa<|cW (vs:=[(.agg (aG.C x36).toArray)]) (bC<|ct_judge_user x36 _) en_96 p p<|ad<|aw p H19 (fun k20 H21=>eu (tv b25 Rec8 s7 x36) (fun s22=>[(0,(sv a0)),(2,(.bool a2)),(3,(.bool a3)),(10,(.pointer (some ⟨b25,0,none⟩))),(13,(.pointer (some ⟨b13,0,none⟩))),(27,(sv r27)),(28,(.int .i64 (r27.len:Int))),(29,(.int .i64 s7))]) (fun s22=>[bx b13 40 (aG.C x36)]) (eu (tu K b25 Rec8 s7 x32 x36) (fun s29=>[(0,(sv a0)),(2,(.bool a2)),(3,(.bool a3)),(10,(.pointer (some ⟨b25,0,none⟩))),(12,(.int .i64 x32)),(13,(.pointer (some ⟨b13,0,none⟩))),(27,(sv r27)),(28,(.int .i64 (r27.len:Int))),(29,(.int .i64 s7)),(45,(.bool s29))]) (fun s29=>[bx b13 40 (aG.C x36)]) (aq<|M p<|M p<|W p p (ay _) (fun g33=>wv<|ai p)<|W p p (ay _) (fun g34=>cv<|bH (k:=0) ag_40 p p p p)<|bW H21 (fun k36 H37=>G (F k36)<|gQ H37 en_97 (aV (aD p k36)<|aV (aD p k36) bU) p fun r43 _ H38=>G (F k36)<|z_p (cy p)<|J (aU p k36 p)<|ad<|cE (!r43) H38 (.cons p<|.cons p<|.cons p<|.cons p<|.cons p<|.cons p<|.cons p<|.cons p<|.cons p<|.cons p<|.nil _)<|.cons_cons _ .slnil) fun k36 H37=>Y (aS k36)<|Y (aS k36)<|J (au p k36 p)<|ad<|cE false H37 (.cons p<|.cons p<|.cons p<|.cons p<|.cons p<|.cons p<|.cons p<|.cons p<|.cons p<|.cons p<|.nil _)<|.cons_cons _ .slnil) fun s29 _ H30=>aw p H30 (fun k31 H32=>O<|M p<|J (av p)<|U p<|aj<|bB (bR p (cd p)<|cd p) ⟨(x32,false),p,H32⟩) fun k31 H32=>an<|cE () H32 (.cons p<|.cons p<|.cons p<|.cons p<|.cons p<|.cons p<|.cons p<|.cons p<|.nil _)<|.cons_cons _ .slnil) fun s22 _ H23=>am<|O<|M p<|bn (bH (k:=0) ag_40 p p p p) p<|aa<|D H23 en_98 fun r49 _ H24=>ad<|aw p H24 (fun k25 H26=>bo (n:=10) [bx b13 40 (aG.C x36)] cu p (.cons_cons _ .slnil)<|V 0 p (ai p)<|V 1 p (aL p)<|V 2 p (ae xh p)<|V 4 p (ae gK p)<|V 5 p (ae mB p)<|z_E 6 p (dw (k:=0) bc p p p)<|V 7 p (ae mz p)<|z_E 8 p (eK (k:=0) fI p p p p)<|bz (i:=3) (fun _ _ _ _ hh=>hh) H26 p (by kernel_rfl) vw p (fun _=>p) p fun x53 H27=>I 9 p<|D H27 en_76 fun r59 _ H28=>⟨.cons_cons _ .slnil,aR (by kernel_rfl)<|bh<|aq<|J (bk p p)<|M p<|ad<|cF (i64.wrap (s7 + 1)) H28 (.cons p<|.cons p<|.cons p<|.cons p<|.cons p<|.cons p<|.cons p<|.nil _)<|.cons _ .slnil⟩) fun k25 H26=>an<|bh<|aq<|J (bk p p)<|M p<|ad<|cF (i64.wrap (s7 + 1)) H26 (.cons p<|.cons p<|.cons p<|.cons p<|.cons p<|.cons p<|.cons p<|.nil _)<|.cons _ .slnil) fun k20 H21=>an<|am<|bo (n:=15) [bx b13 40 (aG.C x36)] cu p (.cons_cons _ .slnil)<|V 0 p (ai p)<|V 1 p (aL p)<|V 2 p (ae xh p)<|V 4 p (ae nM p)<|z_E 5 p (dw (k:=0) bc p p p)<|V 6 p (ae mz p)<|z_E 7 p (eK (k:=0) fI p p p p)<|bz (i:=3) (fun _ _ _ _ hh=>hh) H21 p (by kernel_rfl) vw p (fun _=>p) p fun x64 H39=>kr (i:=8) (j:=12) (by kernel_rfl) (cR p p<|D H39 en_52 fun r69 _ H41=>⟨.cons_cons _ .slnil,V 9 p (ai p)<|V 10 p (ak p p)<|V 11 p (ak p p)<|I 12 p<|aI (l:=ab.C (⟨0,0⟩:ab)) cY p p fun b14=>⟨.cons _<|.cons_cons _ .slnil,I 13 p<|aP (k:=0) (vs:=ab.C r69.1) bL p p p p p p p ⟨.cons _<|.cons_cons _ .slnil,V 14 p (av p)<|aR (by kernel_rfl)<|O<|M p<|M p<|W p p (ay _) (fun g42=>wv<|ai p)<|W p p (ay _) (fun g43=>wv<|cy<|aD p g43)<|W p p (ay _) (fun g44=>wv<|ai<|aD p g44)<|W p p (eG _ _) (fun g45=>cv<|bH (k:=0) cM p p p p)<|W p p (eG _ _) (fun g46=>wv<|ae jD p)<|W p p (eG _ _) (fun g47=>cv<|bH (k:=1) cM (aD p g47) p p p)<|W p p (eG _ _) (fun g48=>wv<|v_neA eqg_36 (eqr_36 9998 _ _) (aD p g48)<|aD p g48)<|W p p (ay _) (fun g49=>wv<|dC (aD p g49)<|aJ p<|yr g49)<|J (bO p p)<|ad<|aw p H41 (fun k50 H51=>O<|M p<|J (av p)<|U p<|aj<|bB (bR p (cd p)<|cd p) ⟨(x32,false),p,H51⟩) fun k50 H51=>an<|aq<|J (bk p p)<|M p<|ad<|cF (i64.wrap (s7 + 1)) H51 (.cons p<|.cons p<|.cons p<|.cons p<|.cons p<|.cons p<|.cons p<|.nil _)<|.cons _<|.cons _ .slnil⟩⟩⟩)<|cR p p<|aI (l:=ab.C (⟨0,0⟩:ab)) cY p p fun b14=>⟨.cons _<|.cons_cons _ .slnil,I 8 p<|D H39 en_52 fun r69 _ H41=>⟨.cons _<|.cons_cons _ .slnil,V 9 p (ai p)<|V 10 p (ak p p)<|V 11 p (ak p p)<|I 13 p<|aP (k:=0) (vs:=ab.C r69.1) bL p p p p p p p ⟨.cons _<|.cons_cons _ .slnil,V 14 p (av p)<|aR (by kernel_rfl)<|O<|M p<|M p<|W p p (ay _) (fun g42=>wv<|ai p)<|W p p (ay _) (fun g43=>wv<|cy<|aD p g43)<|W p p (ay _) (fun g44=>wv<|ai<|aD p g44)<|W p p (eG _ _) (fun g45=>cv<|bH (k:=0) cM p p p p)<|W p p (eG _ _) (fun g46=>wv<|ae jD p)<|W p p (eG _ _) (fun g47=>cv<|bH (k:=1) cM (aD p g47) p p p)<|W p p (eG _ _) (fun g48=>wv<|v_neA eqg_36 (eqr_36 9998 _ _) (aD p g48)<|aD p g48)<|W p p (ay _) (fun g49=>wv<|dC (aD p g49)<|aJ p<|yr g49)<|J (bO p p)<|ad<|aw p H41 (fun k50 H51=>O<|M p<|J (av p)<|U p<|aj<|bB (bR p (cd p)<|cd p) ⟨(x32,false),p,H51⟩) fun k50 H51=>an<|aq<|J (bk p p)<|M p<|ad<|cF (i64.wrap (s7 + 1)) H51 (.cons p<|.cons p<|.cons p<|.cons p<|.cons p<|.cons p<|.cons p<|.nil _)<|.cons _<|.cons _ .slnil⟩⟩⟩) fun k10 H11=>bh<|O<|J (av p)<|U p<|aj<|bB (bR p (cd p)<|cd p) ⟨((-1),true),p,H11⟩⟩⟩
def sh_judge_Linear (a0:Sl) (a1:aE) (K:kT (Int × Bool)):hT:=cl prog vC [(sv a0),(.agg (aE.C a1).toArray),(.bool true),(.bool false)] bQ fun r8=>K (r8.1,r8.2)
theorem sim_judge_Linear (a0:Sl) (a1:aE) {K:kT (Int × Bool)} {h:Hp} (H:sh_judge_Linear a0 a1 K h):cl prog pR [(sv a0),(.agg (aE.C a1).toArray)] bQ K h:=z_i func26 p p fun _=>O<|aa<|cX (l:=aE.C a1) p p p fun b3=>J (av p)<|U p<|O<|M p<|bn (bH (k:=0) qe p p p p) p<|aa<|D H en_60 fun r8 _ H1=>J (ak p p)<|J (ak p p)<|J (av p)<|U p<|aj<|bB (bR p (cd p)<|cd p) ⟨(r8.1,r8.2),p,H1⟩
def sh_judge_Access (a0:Sl) (a1:aE) (K:kT (Int × Bool)):hT:=cl prog vC [(sv a0),(.agg (aE.C a1).toArray),(.bool false),(.bool true)] bQ fun r8=>K (r8.1,r8.2)
theorem sim_judge_Access (a0:Sl) (a1:aE) {K:kT (Int × Bool)} {h:Hp} (H:sh_judge_Access a0 a1 K h):cl prog pS [(sv a0),(.agg (aE.C a1).toArray)] bQ K h:=z_i func27 p p fun _=>O<|aa<|cX (l:=aE.C a1) p p p fun b3=>J (av p)<|U p<|O<|M p<|bn (bH (k:=0) qe p p p p) p<|aa<|D H en_60 fun r8 _ H1=>J (ak p p)<|J (ak p p)<|J (av p)<|U p<|aj<|bB (bR p (cd p)<|cd p) ⟨(r8.1,r8.2),p,H1⟩
def sh_judge_Right (a0:Sl) (a1:aE) (K:kT Bool):hT:=cl prog pR [(sv a0),(.agg (aE.C a1).toArray)] bQ fun r12=>cl prog pS [(sv a0),(.agg (aE.C a1).toArray)] bQ fun r18=>K (r12.2 && r18.2)
theorem sim_judge_Right (a0:Sl) (a1:aE) {K:kT Bool} {h:Hp} (H:sh_judge_Right a0 a1 K h):cl prog rm [(sv a0),(.agg (aE.C a1).toArray)] aC K h:=z_i func24 p p fun _=>O<|aa<|cX (l:=aE.C a1) p p p fun b3=>U p<|O<|M p<|bn (bH (k:=0) qe p p p p) p<|aa<|D H en_26 fun r12 _ H1=>M p<|J (ak p p)<|J (ak p p)<|J (av p)<|U p<|O<|M p<|bn (bH (k:=0) qe p p p p) p<|aa<|D H1 en_27 fun r18 _ H2=>M p<|J (ak p p)<|J (ak p p)<|J (av p)<|U p<|O<|M p<|M p<|W p p (ay _) (fun g3=>wv<|ai p)<|J (bO p p)<|U p<|aj<|Z ⟨(r12.2 && r18.2),p,H2⟩
end
section
open Go Mb
abbrev vG (s:Sl) (xs:List Pte):As:=vec t_api_Pte 3 ao.C s xs
theorem pte_one (p:Pte):dO p.C = true:=rfl
namespace fMa
def ev (es:List bp) (i:Int):bp:=es.getD i.toNat Hist.ev00
def takes (e:bp):Bool:=(az e.fIa).1 == 7 || (az e.fIa).1 == 8 || (az e.fIa).1 == 4 || (az e.fIa).1 == 5
def fHb (k:PK) (es:List bp) (env pg:Int):List Int->List Pte
 | []=>[]
 | i::l=>if takes (ev es i) = true then (PK.pte (PK.do_ k (ev es i).fCa (ev es i).fIa).2 env pg).1::fHb k es env pg l else fHb k es env pg l
def others (k:PK) (es:List bp) (at_ env pg:Int):List Pte:=(PK.pte k env pg).1::fHb k es env pg (Hist.over es at_)
def faults (e:bp) (l:List Pte):Bool:=l.any fun p=>!(ct p.fBa (i64.wrap e.fIa.e0))
def goes (e:bp) (l:List Pte):Bool:=l.any fun p=>(p.fEa == e.fUa.fEa) && (aO e.fUa.fBa p.fBa)
def own (e:bp):Bool:=((e.fUa.fCa == e.fCa) && (e.fUa.fOa == (i64.wrap e.fIa.e1))) && (ct e.fUa.fBa (i64.wrap e.fIa.e0))
def access (k:PK) (es:List bp) (s:eR) (e:bp):Bool :=
 if Word.check e.fIa s.fJa ≠ 0 then (ab.eqb e.fYa ⟨Word.check e.fIa s.fJa,0⟩) && (ap.eqb e.fUa jg)
 else if e.fYa.fRa = 7 then (faults e (others k es e.fHa e.fCa (i64.wrap e.fIa.e1)) && (e.fYa.fVal == 0)) && (ap.eqb e.fUa jg)
 else ((goes e (others k es e.fHa e.fCa (i64.wrap e.fIa.e1)) && own e) && (PK.touch k e.fUa.fEa e.fIa).1.2) && (ab.eqb (PK.touch k e.fUa.fEa e.fIa).1.1 e.fYa)
def well (s:eR) (e:bp):Bool:=(e.fYa.fRa == 0) && (Word.check e.fIa s.fJa == 0) && (e.fUa.fBa != 0)
def runFrom (es:List bp) (s:eR) (lin acc:Bool):PK->List Int->Int × Bool
 | _,[]=>(-1,true)
 | k,i::l =>
  if fP (ev es i) = true then (if acc = true/\access k es s (ev es i) = false then (i,false) else runFrom es s lin acc (if well s (ev es i) = true then (PK.touch k (ev es i).fUa.fEa (ev es i).fIa).2 else k) l)
  else if lin = true/\((PK.do_ k (ev es i).fCa (ev es i).fIa).1.2 = false\/ab.eqb (PK.do_ k (ev es i).fCa (ev es i).fIa).1.1 (ev es i).fYa = false) then (i,false)
  else runFrom es s lin acc (PK.do_ k (ev es i).fCa (ev es i).fIa).2 l
def run (es:List bp) (s:eR) (lin acc:Bool):Int × Bool:=if Hist.may es s = true then runFrom es s lin acc (PK.new s) (Hist.order es) else (-1,false)
def linear (es:List bp) (s:eR):Int × Bool:=run es s true false
def accesses (es:List bp) (s:eR):Int × Bool:=run es s false true
def right (es:List bp) (s:eR):Bool:=(linear es s).2 && (accesses es s).2
theorem ev_nat {es:List bp} {n:Nat} (h:n < es.length):ev es n = es[n]:=by simp [ev,h]
theorem othersFrom_app (k:PK) (es:List bp) (env pg:Int) (i:Int):∀ l,fHb k es env pg (l++[i]) = fHb k es env pg l++(if takes (ev es i) = true then [(PK.pte (PK.do_ k (ev es i).fCa (ev es i).fIa).2 env pg).1] else [])
 | []=>by simp only [List.nil_append,fHb]
 | j::l=>by
  simp only [List.cons_append,fHb,othersFrom_app k es env pg i l];split <;> simp
theorem othersFrom_len (k:PK) (es:List bp) (env pg:Int):∀ l,(fHb k es env pg l).length <= l.length
 | []=>Nat.le_refl _
 | i::l=>by unfold fHb; have:=othersFrom_len k es env pg l; split <;> simp <;> omega
end fMa
abbrev jc (s:Sl) (z:eR) (pk:Ptr):List Value:=[sv s,.int .i64 z.fWa,.int .i64 z.fJa,.int .i64 z.fCb,pv pk]
theorem sp_judge_others (jb:Nat) (s:Sl) (z:eR) (pk:Ptr) (es:List bp) (k:PK) (a env pg:Int) (hb:es.length < 2 ^ 38) :
  Sp prog mt [pv (some (jb,0)),.int .i64 a,.int .i64 env,.int .i64 pg] rh [blk jb dz (jc s z pk),vE s es,bu pk k] (fun r=>aB [vG r (fMa.others k es a env pg),blk jb dz (jc s z pk),vE s es,bu pk k]):=by
 intro h s0;refine xQ _ _ _ _ ?_;unfold qw;refine cO (bq pk s0 (i:=0) rfl rfl rfl ?_);refine bM (tb pk k env pg) (i:=2) rfl s0 fun r h1 hr s1=>?_;subst hr;refine ft (τ:=Pte) [(PK.pte k env pg).1] (val:=fun x=>.agg x.C.toArray) (enc:=ao.C) el_Sapi_Pte jQ (fun _=>rfl) s1 rfl rfl (by simp) fun v h2 s2=>?_;refine bq s s2 (i:=1) rfl rfl rfl ?_;refine xo (sp_hist_Over s es a hb) (i:=2) rfl s2 fun r37 h3 s3=>?_;have hrl:=(cj (j:=0) s3 rfl).1;have hol:=Hist.placesFrom_len (fun e=>decide (e.fSa <= a) && (e.fHa == 0 || decide (e.fHa > a))) es 0;have hol':(Hist.over es a).length <= es.length:=hol;refine Lp.intro (fun (y:Sl × Int) h=>∃ n:Nat,y.2 = n/\n <= (Hist.over es a).length/\aB [vI r37 (Hist.over es a),vG y.1 ((PK.pte k env pg).1::fMa.fHb k es env pg ((Hist.over es a).take n)),blk jb dz (jc s z pk),vE s es,bu pk k] h) (fun (y:Sl × Int) _=>(Hist.over es a).length - y.2.toNat) ⟨0,rfl,zero_le _,s3⟩ ?_;rintro ⟨y,i⟩ h ⟨n,rfl,hn,s4⟩;unfold lE;refine aY (fun d=>?_) (fun d=>?_)
 ·have hlt:n < (Hist.over es a).length:=by rw [hrl] at d; have:=of_decide_eq_true d; simp at this; exact this
  have hw:i64.wrap ((n:Int) + 1) = ((n + 1:Nat):Int):=by rw [bm (by omega) (by omega)]; rfl
  have ht:(Hist.over es a).take (n + 1) = (Hist.over es a).take n++[(Hist.over es a)[n]]:=by simp
  have hin:=Hist.places_in (getElem_mem hlt);have hes:=(cj (j:=3) s4 rfl).1;obtain ⟨m,hm⟩:=Int.eq_ofNat_of_zero_le hin.1;have hml:m < es.length:=by omega
  have hev:fMa.ev es (Hist.over es a)[n] = es[m]:=by rw [hm,fMa.ev_nat hml]
  have happ:=fMa.othersFrom_app k es env pg (Hist.over es a)[n] ((Hist.over es a).take n);rw [hev] at happ;have hfl:=fMa.othersFrom_len k es env pg ((Hist.over es a).take n);simp at hfl;refine dk s4 (j:=0) rfl (by omega) (by show (n:Int) < _; omega) fun q hq=>?_;refine dD (j:=0) (i:=n) (k:=0) (Hist.over es a)[n] (ck _) s4 rfl hq (by simp) (aF hlt) (by simp) ?_;rw [hm];refine bq s s4 (i:=2) rfl rfl rfl ?_;refine dk s4 (j:=3) rfl (by omega) (by omega) fun q2 hq2=>?_;refine dD (j:=3) (i:=m) (k:=0) es[m] lH s4 rfl hq2 rfl (aF hml) (by simp) ?_;have j1:∀ b,b = fMa.takes es[m]->eq env pg (jb,0) (fun s' h'=>(∃ n:Nat,s'.2 = n/\n <= (Hist.over es a).length/\aB [vI r37 (Hist.over es a),vG s'.1 ((PK.pte k env pg).1::fMa.fHb k es env pg ((Hist.over es a).take n)),blk jb dz (jc s z pk),vE s es,bu pk k] h')/\(Hist.over es a).length - s'.2.toNat < (Hist.over es a).length - (n:Int).toNat) (y,(n:Int)) es[m] b h:=by
   intro b hb2;unfold eq;rw [hb2,hw];refine aY (fun d2=>?_) (fun d2=>?_)
   ·refine bq pk s4 (i:=2) rfl rfl rfl ?_;refine xo (wa pk k) (i:=4) rfl s4 fun r66 h5 s5=>?_;refine bM (kz r66 k es[m].fCa es[m].fIa) (i:=0) rfl s5 fun r h6 hr s6=>?_;refine bM (tb r66 _ env pg) (i:=0) rfl s6 fun r h7 hr s7=>?_;subst hr;refine lr (τ:=Pte) (i:=2) (enc:=ao.C) (val:=fun x=>.agg x.C.toArray) el_Sapi_Pte jQ pte_one (fun _=>rfl) (by omega) rfl rfl s7 rfl (by simp; omega) (by simp; omega) fun v h8 s8=>?_;refine ⟨⟨n + 1,rfl,hlt,?_⟩,by simp; omega⟩;rw [ht,happ,if_pos d2];exact bY (l:=[bu r66 _]) s8
   ·refine ⟨⟨n + 1,rfl,hlt,?_⟩,by simp; omega⟩;rw [ht,happ,if_neg (by rw [d2]; exact Bool.false_ne_true),List.append_nil];exact s4
  refine aY (fun c=>j1 _ (by unfold fMa.takes; rw [c]; rfl)) (fun c=>?_);refine aY (fun c2=>j1 _ (by unfold fMa.takes; rw [c,c2]; rfl)) (fun c2=>?_);refine aY (fun c3=>j1 _ (by unfold fMa.takes; rw [c,c2,c3]; rfl)) (fun c3=>j1 _ (by unfold fMa.takes; rw [c,c2,c3]; rfl))
 ·have:n = (Hist.over es a).length:=by rw [hrl] at d; have:=of_decide_eq_false d; simp at this; omega
  subst this;rw [take_length] at s4;exact bY (l:=[vI r37 (Hist.over es a)]) s4
theorem any_snoc {α:Type} (f:α->Bool) (l:List α) (x:α):(l++[x]).any f = (l.any f || f x):=by simp
theorem sp_judge_access (jb:Nat) (s:Sl) (z:eR) (pk:Ptr) (es:List bp) (k:PK) (e:bp) (hb:es.length < 2 ^ 38) :
  Sp prog mu [pv (some (jb,0)),.agg e.C.toArray] aC [blk jb dz (jc s z pk),vE s es,bu pk k] (fun r=>pa_ (r = fMa.access k es z e) [blk jb dz (jc s z pk),vE s es,bu pk k]):=by
 intro h s0;refine xR _ _ ?_;unfold qx;refine cO (bq z.fJa s0 (i:=0) rfl rfl rfl ?_);refine uM (jJ e.fIa z.fJa) s0 fun r h1 hr s1=>?_;subst hr;refine aY (fun d=>?_) (fun d=>?_)
 ·exact ba (by unfold fMa.access; rw [if_pos (by simpa using d)]) s1
 ·have d':¬ Word.check e.fIa z.fJa ≠ 0:=by simpa using d
  refine cZ [0,0,0] (sp_judge_others jb s z pk es k e.fHa e.fCa (i64.wrap e.fIa.e1) hb) s1 rfl fun r50 h2 s2=>?_;have s3:=dH s2;have hrl:=(cj (j:=0) s3 rfl).1;have hol':(Hist.over es e.fHa).length <= es.length:=Hist.placesFrom_len _ es 0;have hfl:=fMa.othersFrom_len k es e.fCa (i64.wrap e.fIa.e1) (Hist.over es e.fHa);have hll:(fMa.others k es e.fHa e.fCa (i64.wrap e.fIa.e1)).length < 2 ^ 39:=by unfold fMa.others; simp; omega
  generalize hL:fMa.others k es e.fHa e.fCa (i64.wrap e.fIa.e1) = L at *
  refine Lp.intro (fun (y:Bool × Bool × Int) h=>∃ n:Nat,y.2.2 = n/\n <= L.length/\y.1 = fMa.faults e (L.take n)/\y.2.1 = fMa.goes e (L.take n)/\aB [vG r50 L,blk jb dz (jc s z pk),vE s es,bu pk k] h) (fun (y:Bool × Bool × Int) _=>L.length - y.2.2.toNat) ⟨0,rfl,zero_le _,rfl,rfl,s3⟩ ?_;rintro ⟨f,g,i⟩ h ⟨n,rfl,hn,hf,hg,s4⟩;simp only at hf hg;unfold lF;refine aY (fun d2=>?_) (fun d2=>?_)
  ·have hlt:n < L.length:=by rw [hrl] at d2; have:=of_decide_eq_true d2; simp at this; exact this
   have hw:i64.wrap ((n:Int) + 1) = ((n + 1:Nat):Int):=by rw [bm (by omega) (by omega)]; rfl
   have ht:L.take (n + 1) = L.take n++[L[n]]:=by simp
   refine dk s4 (j:=0) rfl (by show (0:Int) <= n; omega) (by show (n:Int) < _; omega) fun q hq=>?_;refine dD (j:=0) (i:=n) (k:=0) L[n] jQ s4 rfl hq rfl (aF hlt) (by simp) ?_;rw [hw];refine ⟨⟨n + 1,rfl,hlt,?_,?_,s4⟩,by simp; omega⟩
   ·unfold fMa.faults; rw [ht,any_snoc]; show (f || _) = _; rw [hf]; rfl
   ·unfold fMa.goes; rw [ht,any_snoc]; show (g || _) = _; rw [hg]; rfl
  ·have:n = L.length:=by rw [hrl] at d2; have:=of_decide_eq_false d2; simp at this; omega
   subst this;rw [take_length] at hf hg;have s5:=bY (l:=[vG r50 L]) s4;refine aY (fun d3=>?_) (fun d3=>?_)
   ·refine ba ?_ s5;unfold fMa.access;rw [if_neg d',if_pos (by simpa using d3),hL,← hf]
   ·refine bq pk s4 (i:=1) rfl rfl rfl ?_;refine xo (wa pk k) (i:=2) rfl s5 fun r104 h6 s6=>?_;refine bM (pn r104 k e.fUa.fEa e.fIa) (i:=0) rfl s6 fun r h7 hr s7=>?_;subst hr;refine ba ?_ (bY (l:=[bu r104 _]) s7);unfold fMa.access;rw [if_neg d',if_neg (by simpa using d3),hL,← hg]
    rfl
theorem sp_judge_well (jb:Nat) (s:Sl) (z:eR) (pk:Ptr) (e:bp) :
  Sp prog oo [pv (some (jb,0)),.agg e.C.toArray] aC [blk jb dz (jc s z pk)] (fun r=>pa_ (r = fMa.well z e) [blk jb dz (jc s z pk)]):=by
 intro h s0;refine sim_judge_judge_well _ _ ?_;unfold sN;refine aY (fun d=>?_) (fun d=>?_)
 ·refine cO (bq z.fJa s0 (i:=0) rfl rfl rfl ?_);refine uM (jJ e.fIa z.fJa) s0 fun r h1 hr s1=>?_;subst hr;refine aY (fun d2=>?_) (fun d2=>?_)
  ·exact ba (by unfold fMa.well; rw [d,d2]; rfl) s1
  ·exact ba (by unfold fMa.well; rw [d,d2]; rfl) s1
 ·exact ba (by unfold fMa.well; rw [d]; rfl) s0
abbrev OrdOk (s:Sl) (es:List bp):Prop:=Sp prog mZ [sv s] cJ [vE s es] (fun r=>aB [vI r (Hist.order es),vE s es])
theorem order_in {es:List bp} {x:Int} (h:x ∈ Hist.order es):0 <= x/\x < es.length:=Hist.places_in ((Hist.isort_perm _ _).subset h)
theorem order_len (es:List bp):(Hist.order es).length <= es.length:=by
 have h1:=(Hist.isort_perm (Hist.eff es) (Hist.effs es)).length_eq;have h2:=Hist.placesFrom_len (fun e=>decide (e.fHa > 0)) es 0;unfold Hist.order; rw [h1]; exact h2
theorem sp_judge_run (s:Sl) (es:List bp) (z:eR) (lin acc:Bool) (hz:PK.sized z = true) (hb:es.length < 2 ^ 38) (ho:Hist.Apart es->OrdOk s es) :
  Sp prog vC [sv s,.agg z.C.toArray,.bool lin,.bool acc] bQ [vE s es] (fun r=>pa_ (r = fMa.run es z lin acc) [vE s es]):=by
 intro h s0;refine sim_judge_run _ _ _ _ ?_;unfold sh_judge_run;refine bM (sp_hist_May s es z hb) (i:=0) rfl s0 fun r h1 hr s1=>?_;subst hr;refine aY (fun d=>?_) (fun d=>?_)
 ·exact ba (by unfold fMa.run; rw [if_neg (by simpa using d)]) s1
 ·have d':Hist.may es z = true:=by simpa using d
  have er:fMa.run es z lin acc = fMa.runFrom es z lin acc (PK.new z) (Hist.order es):=if_pos d';rw [er];refine mD (tc z hz) s1 fun pk h2 s2=>?_;refine pL s2 fun b25 h3 s3=>?_;refine xo (ho (Hist.may_apart d')) (i:=2) rfl s3 fun r27 h4 s4=>?_;have hol:=order_len es;have hrl:=(cj (j:=0) s4 rfl).1;refine Lp.intro (fun (i:Int) h=>∃ (n:Nat) (k:PK),i = n/\n <= (Hist.order es).length/\fMa.runFrom es z lin acc k ((Hist.order es).drop n) = fMa.runFrom es z lin acc (PK.new z) (Hist.order es)/\aB [vI r27 (Hist.order es),blk b25 dz (jc s z pk),bu pk k,vE s es] h) (fun (i:Int) _=>(Hist.order es).length - i.toNat) ⟨0,_,rfl,zero_le _,rfl,s4⟩ ?_;rintro i h ⟨n,k,rfl,hn,he,s5⟩;have fin:∀ h,aB [vI r27 (Hist.order es),blk b25 dz (jc s z pk),bu pk k,vE s es] h->aB [vE s es] h:=fun h s=>bY (l:=[_,_,_]) s;unfold yo;refine aY (fun d2=>?_) (fun d2=>?_)
  ·have hlt:n < (Hist.order es).length:=by rw [hrl] at d2; simpa using d2
   have hw:i64.wrap ((n:Int) + 1) = ((n + 1:Nat):Int):=by rw [bm (by omega) (by omega)]; rfl
   have hin:=order_in (getElem_mem hlt);have hes:=(cj (j:=3) s5 rfl).1;obtain ⟨m,hm⟩:=Int.eq_ofNat_of_zero_le hin.1;have hml:m < es.length:=by omega
   have hev:fMa.ev es (Hist.order es)[n] = es[m]:=by rw [hm,fMa.ev_nat hml]
   rw [List.drop_eq_getElem_cons hlt,fMa.runFrom,hev] at he;refine dk s5 (j:=0) rfl (by omega) (by omega) fun q hq=>?_;refine dD (j:=0) (i:=n) (k:=0) (Hist.order es)[n] (ck _) s5 rfl hq (by simp) (aF hlt) (by simp) ?_;rw [hm];refine dk s5 (j:=3) rfl (by omega) (by omega) fun q2 hq2=>?_;refine dD (j:=3) (i:=m) (k:=0) es[m] lH s5 rfl hq2 rfl (aF hml) (by simp) ?_;have hmi:((m:Int),false) = ((Hist.order es)[n],false):=by rw [hm]
   refine aY (fun d3=>?_) (fun d3=>?_)
   ·rw [if_pos d3] at he;have j1:∀ h,(acc = true/\fMa.access k es z es[m] = false) = False->aB [vI r27 (Hist.order es),blk b25 dz (jc s z pk),bu pk k,vE s es] h->tv b25 (fun s' h'=>(∃ (n:Nat) (k:PK),s' = n/\n <= (Hist.order es).length/\fMa.runFrom es z lin acc k ((Hist.order es).drop n) = fMa.runFrom es z lin acc (PK.new z) (Hist.order es)/\aB [vI r27 (Hist.order es),blk b25 dz (jc s z pk),bu pk k,vE s es] h')/\(Hist.order es).length - s'.toNat < (Hist.order es).length - (n:Int).toNat) (n:Int) es[m] () h:=by
     intro h hno s6;rw [if_neg (by rw [hno]; exact not_false)] at he;unfold tv;refine bM (sp_judge_well b25 s z pk es[m]) (i:=1) rfl s6 fun r h7 hr s7=>?_;subst hr;rw [hw];refine aY (fun d4=>?_) (fun d4=>?_)
     ·rw [if_pos d4] at he;refine bq pk s7 (i:=1) rfl rfl rfl ?_;refine bM (pn pk k es[m].fUa.fEa es[m].fIa) (i:=2) rfl s7 fun r h8 hr s8=>?_;exact ⟨⟨n + 1,_,rfl,hlt,he,s8⟩,by simp; omega⟩
     ·rw [if_neg (by rw [d4]; exact Bool.false_ne_true)] at he;exact ⟨⟨n + 1,_,rfl,hlt,he,s7⟩,by simp; omega⟩
    unfold tu;refine aY (fun d4=>?_) (fun d4=>?_)
    ·refine cZ [1,2,1] (sp_judge_access b25 s z pk es k es[m] hb) s5 rfl fun r h6 s6=>?_;obtain ⟨hr,s7⟩:=bt.1 s6;subst hr;have s8:aB [vI r27 (Hist.order es),blk b25 dz (jc s z pk),bu pk k,vE s es] h6:=bd [3,0,1] s7 rfl;refine aY (fun d5=>?_) (fun d5=>?_)
     ·rw [if_pos ⟨d4,by simpa using d5⟩] at he;exact ba (by rw [← he,hm]) (fin _ s8)
     ·exact j1 h6 (by simp; intro _; simpa using d5) s8
    ·refine dx rfl ?_;exact j1 h (by rw [d4]; simp) s5
   ·rw [if_neg (by rw [d3]; exact Bool.false_ne_true)] at he;refine bq pk s5 (i:=1) rfl rfl rfl ?_;refine bM (kz pk k es[m].fCa es[m].fIa) (i:=2) rfl s5 fun r h6 hr s6=>?_;subst hr;refine aY (fun d4=>?_) (fun d4=>?_)
    ·have d4':lin = true/\((PK.do_ k es[m].fCa es[m].fIa).1.2 = false\/ab.eqb (PK.do_ k es[m].fCa es[m].fIa).1.1 es[m].fYa = false):=by simpa using d4
     rw [if_pos d4'] at he;exact ba (by rw [← he,hm]) (bY (l:=[_,_,_]) s6)
    ·have d4':¬ (lin = true/\((PK.do_ k es[m].fCa es[m].fIa).1.2 = false\/ab.eqb (PK.do_ k es[m].fCa es[m].fIa).1.1 es[m].fYa = false)):=by simpa using d4
     rw [if_neg d4'] at he;rw [hw];exact ⟨⟨n + 1,_,rfl,hlt,he,s6⟩,by simp; omega⟩
  ·have:n = (Hist.order es).length:=by rw [hrl] at d2; simp at d2; omega
   subst this;rw [List.drop_length] at he;exact ba he (fin h s5)
section
variable (s:Sl) (es:List bp) (z:eR) (hz:PK.sized z = true) (hb:es.length < 2 ^ 38) (ho:Hist.Apart es->OrdOk s es)
include hz hb ho
theorem sp_judge_Linear:Sp prog pR [sv s,.agg z.C.toArray] bQ [vE s es] (fun r=>pa_ (r = fMa.linear es z) [vE s es]):=by
 intro h s0;refine sim_judge_Linear _ _ ?_;unfold sh_judge_Linear;exact bM (sp_judge_run s es z true false hz hb ho) (i:=0) rfl s0 fun r h1 hr s1=>ba hr s1
theorem sp_judge_Access:Sp prog pS [sv s,.agg z.C.toArray] bQ [vE s es] (fun r=>pa_ (r = fMa.accesses es z) [vE s es]):=by
 intro h s0;refine sim_judge_Access _ _ ?_;unfold sh_judge_Access;exact bM (sp_judge_run s es z false true hz hb ho) (i:=0) rfl s0 fun r h1 hr s1=>ba hr s1
theorem sp_judge_Right:Sp prog rm [sv s,.agg z.C.toArray] aC [vE s es] (fun r=>pa_ (r = fMa.right es z) [vE s es]):=by
 intro h s0;refine sim_judge_Right _ _ ?_;unfold sh_judge_Right;refine bM (sp_judge_Linear s es z hz hb ho) (i:=0) rfl s0 fun r h1 hr s1=>?_;subst hr;exact bM (sp_judge_Access s es z hz hb ho) (i:=0) rfl s1 fun r h2 hr s2=>ba (by rw [hr]; rfl) s2
end
end
section
open Go Mb
structure Ev1 (k:KK) (e:bp):Prop where
 c0:0 <= e.fQa
 c1:e.fQa < k.p.s.fWa
 v0:0 <= e.fCa
 v1:e.fCa < k.p.s.fJa
 b0:1 <= e.fSa
 b1:e.fSa <= k.now
 st:(e.fHa = 0/\e.fXa = 0)\/(e.fSa < e.fHa/\e.fXa = e.fHa/\e.fHa <= k.now)
structure jN (k:KK):Prop where
 one:∀ (i:Nat) e,k.events[i]? = some e->Ev1 k e
 up:∀ (i j:Nat) d e,i < j->k.events[i]? = some d->k.events[j]? = some e->d.fSa < e.fSa
 ef:∀ (i j:Nat) d e,k.events[i]? = some d->k.events[j]? = some e->d.fHa > 0->d.fHa = e.fHa->i = j
 co:∀ (i j:Nat) d e,i < j->k.events[i]? = some d->k.events[j]? = some e->d.fQa = e.fQa->d.fXa > 0/\d.fXa < e.fSa
 call:∀ (c:Nat) x,k.calls[c]? = some (some x)->∃ n:Nat,x.fat = n/\∃ e,k.events[n]? = some e/\e.fQa = c/\e.fCa = x.fGa/\e.fIa = x.fc/\e.fHa = 0
 open_:∀ (i:Nat) e,k.events[i]? = some e->e.fHa = 0->∃ x,k.calls[e.fQa.toNat]? = some (some x)/\x.fat = i
theorem evinv_new (s:eR):jN (KK.new s):=by
 have hn:∀ i:Nat,(KK.new s).events[i]? = none:=fun i=>by simp [KK.new]
 refine ⟨fun i e h=>?_,fun i j d e _ h _=>?_,fun i j d e h _ _ _=>?_,fun i j d e _ h _ _=>?_,fun c x h=>absurd h (tk s c x),fun i e h _=>?_⟩ <;> (rw [hn] at h; cases h)
theorem Ev1.later {k k':KK} {e:bp} (h:Ev1 k e) (hs:k'.p.s = k.p.s) (hn:k.now <= k'.now):Ev1 k' e :=
 ⟨h.c0,by rw [hs]; exact h.c1,h.v0,by rw [hs]; exact h.v1,h.b0,by have:=h.b1; omega,by rcases h.st with a | a; exact .inl a; exact .inr ⟨a.1,a.2.1,by omega⟩⟩
theorem jN.same {k k':KK} (E:jN k) (he:k'.events = k.events) (hs:k'.p.s = k.p.s) (hn:k.now <= k'.now) (h1:∀ (c:Nat) x,k'.calls[c]? = some (some x)->∃ y,k.calls[c]? = some (some y)/\y.fat = x.fat/\y.fGa = x.fGa/\y.fc = x.fc) (h2:∀ (c:Nat) x,k.calls[c]? = some (some x)->∃ y,k'.calls[c]? = some (some y)/\y.fat = x.fat):jN k':=by
 refine ⟨fun i e h=>?_,fun i j d e hij h h'=>?_,fun i j d e h h'=>?_,fun i j d e hij h h'=>?_,fun c x hx=>?_,fun i e h h0=>?_⟩
 ·rw [he] at h; exact (E.one i e h).later hs hn
 ·rw [he] at h h'; exact E.up i j d e hij h h'
 ·rw [he] at h h'; exact E.ef i j d e h h'
 ·rw [he] at h h'; exact E.co i j d e hij h h'
 ·obtain ⟨y,hy,e1,e2,e3⟩:=h1 c x hx;obtain ⟨n,hn1,e,g1,g2,g3,g4,g5⟩:=E.call c y hy;exact ⟨n,e1 ▸ hn1,e,by rw [he]; exact g1,g2,e2 ▸ g3,e3 ▸ g4,g5⟩
 ·rw [he] at h;obtain ⟨x,hx,e1⟩:=E.open_ i e h h0;obtain ⟨y,hy,e2⟩:=h2 _ x hx;exact ⟨y,hy,e2.trans e1⟩
theorem jN.begin {k:KK} (E:jN k) (ok:KK.Ok k) (hn:k.now < 2 ^ 40) (core env:Int) (c:cK):jN (KK.begin_ k core env c).2:=by
 unfold KK.begin_;split
 ·exact E
 ·rename_i h;simp only [not_or,Bool.not_eq_false,Bool.not_eq_true] at h;obtain ⟨hi,hb,h0,h1⟩:=h;obtain ⟨n,rfl,hlt⟩:=kW hi;have hnone:k.calls[n]? = some none:=by
   cases hx:k.calls[n]? with
   | none=>rw [List.getElem?_eq_getElem hlt] at hx; cases hx
   | some o =>
    cases o with
    | none=>rfl
    | some x =>
     exfalso
     unfold KK.busy at hb;rw [hi] at hb;have:KK.call k n = some x:=by unfold KK.call; rw [Int.toNat_natCast,List.getD_eq_getElem?_getD,hx]; rfl
     rw [this] at hb; cases hb
  have hw:=wrapN ok.n0 hn;have hcl:=ok.cl;rw [hw];have get:∀ (i:Nat) e,(k.events++[KK.ev0 n env c (k.now + 1)])[i]? = some e->(i < k.events.length/\k.events[i]? = some e)\/(i = k.events.length/\e = KK.ev0 n env c (k.now + 1)):=by
   intro i e he;rcases Nat.lt_or_ge i k.events.length with h | h
   ·rw [List.getElem?_append_left h] at he; exact .inl ⟨h,he⟩
   ·rw [List.getElem?_append_right h] at he;by_cases e0:i - k.events.length = 0
    ·rw [e0] at he;exact .inr ⟨by omega,by simpa using he.symm⟩
    ·rw [List.getElem?_eq_none (by simp; omega)] at he; cases he
  have mk:∀ e,Ev1 k e->Ev1 { k with now:=k.now + 1,events:=k.events++[KK.ev0 n env c (k.now + 1)],calls:=k.calls.set n (some ⟨k.events.length,env,c,false,0⟩) } e:=fun e h=>h.later rfl (by show k.now <= k.now + 1; omega);have cget:∀ (a:Nat) x,(k.calls.set n (some (⟨k.events.length,env,c,false,0⟩:KC)))[a]? = some (some x)->(a = n/\x = ⟨k.events.length,env,c,false,0⟩)\/(a ≠ n/\k.calls[a]? = some (some x)):=by
   intro a x hx;rw [getElem?_set] at hx;by_cases e:n = a
   ·rw [if_pos e,if_pos hlt] at hx;exact .inl ⟨e.symm,by simpa using hx.symm⟩
   ·rw [if_neg e] at hx; exact .inr ⟨fun h=>e h.symm,hx⟩
  refine ⟨fun i e he=>?_,fun i j d e hij hd he=>?_,fun i j d e hd he hp heq=>?_,fun i j d e hij hd he hc=>?_,fun a x hx=>?_,fun i e he h00=>?_⟩
  ·rcases get i e he with ⟨_,h⟩ | ⟨_,rfl⟩
   ·exact mk e (E.one i e h)
   ·exact ⟨by show (0:Int) <= n; omega,by show (n:Int) < k.p.s.fWa; omega,by show 0 <= env; omega,by show env < k.p.s.fJa; omega,by show 1 <= k.now + 1; have:=ok.n0; omega,le_refl _,.inl ⟨rfl,rfl⟩⟩
  ·rcases get j e he with ⟨hj,h⟩ | ⟨hj,rfl⟩
   ·rcases get i d hd with ⟨_,h'⟩ | ⟨hi',_⟩
    ·exact E.up i j d e hij h' h
    ·omega
   ·rcases get i d hd with ⟨_,h'⟩ | ⟨hi',_⟩
    ·have:=(E.one i d h').b1;show d.fSa < k.now + 1; omega
    ·omega
  ·rcases get i d hd with ⟨_,h'⟩ | ⟨_,rfl⟩
   ·rcases get j e he with ⟨_,h⟩ | ⟨_,rfl⟩
    ·exact E.ef i j d e h' h hp heq
    ·have:(KK.ev0 n env c (k.now + 1)).fHa = 0:=rfl;omega
   ·have:(KK.ev0 n env c (k.now + 1)).fHa = 0:=rfl;omega
  ·rcases get j e he with ⟨hj,h⟩ | ⟨hj,rfl⟩
   ·rcases get i d hd with ⟨_,h'⟩ | ⟨hi',_⟩
    ·exact E.co i j d e hij h' h hc
    ·omega
   ·rcases get i d hd with ⟨_,h'⟩ | ⟨hi',_⟩
    ·have o:=E.one i d h';have hcc:d.fQa = n:=hc;have hb1:=o.b1;rcases o.st with s1 | s1
     ·exfalso
      obtain ⟨x,hx,_⟩:=E.open_ i d h' s1.1;rw [hcc,Int.toNat_natCast,hnone] at hx;cases hx
     ·have:=o.b0;exact ⟨by omega,by show d.fXa < k.now + 1; omega⟩
    ·omega
  ·rcases cget a x hx with ⟨rfl,rfl⟩ | ⟨_,h⟩
   ·exact ⟨k.events.length,rfl,KK.ev0 a env c (k.now + 1),by simp,rfl,rfl,rfl,rfl⟩
   ·obtain ⟨m,h2,e,g1,g2⟩:=E.call a x h;refine ⟨m,h2,e,?_,g2⟩;show (k.events++[_])[m]? = _;rw [List.getElem?_append_left (List.getElem?_eq_some_iff.1 g1).1]; exact g1
  ·rcases get i e he with ⟨_,h⟩ | ⟨hi',rfl⟩
   ·obtain ⟨x,hx,e1⟩:=E.open_ i e h h00;refine ⟨x,?_,e1⟩;show (k.calls.set n _)[e.fQa.toNat]? = _;rw [getElem?_set,if_neg]
    ·exact hx
    ·rintro e2;rw [← e2,hnone] at hx; cases hx
   ·refine ⟨⟨k.events.length,env,c,false,0⟩,?_,by rw [hi']⟩;show (k.calls.set n _)[(n:Int).toNat]? = _;simp [hlt]
theorem jN.ends {k:KK} (E:jN k) {c:Nat} {x:KC} (hx:k.calls[c]? = some (some x)) (hlate:∀ (i:Nat) e,k.events[i]? = some e->e.fSa < k.now/\e.fHa < k.now) (a:eQ) (l:jO):jN (KK.ends k c x a l):=by
 obtain ⟨n,hn,e0,g1,g2,g3,g4,g5⟩:=E.call c x hx;have hlt:=(List.getElem?_eq_some_iff.1 g1).1;have hev:(KK.ends k c x a l).events = k.events.set n (KK.evend e0 k.now a l):=by
  unfold KK.ends;rw [hn];simp only [Int.toNat_natCast,List.getD_eq_getElem?_getD,g1,Option.getD_some]
 have get:∀ (i:Nat) e,(k.events.set n (KK.evend e0 k.now a l))[i]? = some e->(i ≠ n/\k.events[i]? = some e)\/(i = n/\e = KK.evend e0 k.now a l):=by
  intro i e he;rw [getElem?_set] at he;by_cases h:n = i
  ·rw [if_pos h,if_pos hlt] at he;exact .inr ⟨h.symm,by simpa using he.symm⟩
  ·rw [if_neg h] at he; exact .inl ⟨fun h'=>h h'.symm,he⟩
 have o0:=E.one n e0 g1;have l0:=hlate n e0 g1;have cls:(KK.ends k c x a l).calls = k.calls.set c none:=by simp [KK.ends]
 have cget:∀ (b:Nat) y,(k.calls.set c none)[b]? = some (some y)->b ≠ c/\k.calls[b]? = some (some y):=by
  intro b y hy;rw [getElem?_set] at hy;by_cases e:c = b
  ·rw [if_pos e] at hy;split at hy
   ·cases hy
   ·cases hy
  ·rw [if_neg e] at hy; exact ⟨fun h=>e h.symm,hy⟩
 have b0:(KK.evend e0 k.now a l).fSa = e0.fSa:=rfl;have b1:(KK.evend e0 k.now a l).fQa = e0.fQa:=rfl;have b2:(KK.evend e0 k.now a l).fHa = k.now:=rfl;have b3:(KK.evend e0 k.now a l).fXa = k.now:=rfl;have b4:(KK.evend e0 k.now a l).fCa = e0.fCa:=rfl;refine ⟨fun i e he=>?_,fun i j d e hij hd he=>?_,fun i j d e hd he hp heq=>?_,fun i j d e hij hd he hc=>?_,fun b y hy=>?_,fun i e he h00=>?_⟩
 ·rw [hev] at he;rcases get i e he with ⟨_,h⟩ | ⟨_,rfl⟩
  ·exact (E.one i e h).later rfl (le_refl _)
  ·exact ⟨o0.c0,o0.c1,o0.v0,o0.v1,o0.b0,o0.b1,.inr ⟨l0.1,rfl,le_refl _⟩⟩
 ·rw [hev] at hd he;have hd':∃ d',k.events[i]? = some d'/\d'.fSa = d.fSa:=by
   rcases get i d hd with ⟨_,h⟩ | ⟨rfl,rfl⟩
   ·exact ⟨d,h,rfl⟩
   ·exact ⟨e0,g1,rfl⟩
  have he':∃ e',k.events[j]? = some e'/\e'.fSa = e.fSa:=by
   rcases get j e he with ⟨_,h⟩ | ⟨rfl,rfl⟩
   ·exact ⟨e,h,rfl⟩
   ·exact ⟨e0,g1,rfl⟩
  obtain ⟨d',h1,h2⟩:=hd';obtain ⟨e',h3,h4⟩:=he';rw [← h2,← h4]; exact E.up i j d' e' hij h1 h3
 ·rw [hev] at hd he;rcases get i d hd with ⟨_,h⟩ | ⟨rfl,rfl⟩
  ·rcases get j e he with ⟨_,h'⟩ | ⟨rfl,rfl⟩
   ·exact E.ef i j d e h h' hp heq
   ·have:=(hlate i d h).2;rw [heq,b2] at this; omega
  ·rcases get j e he with ⟨_,h'⟩ | ⟨rfl,rfl⟩
   ·have:=(hlate j e h').2;rw [← heq,b2] at this; omega
   ·rfl
 ·rw [hev] at hd he;rcases get i d hd with ⟨_,h⟩ | ⟨rfl,rfl⟩
  ·rcases get j e he with ⟨_,h'⟩ | ⟨rfl,rfl⟩
   ·exact E.co i j d e hij h h' hc
   ·exact E.co i j d e0 hij h g1 hc
  ·rcases get j e he with ⟨_,h'⟩ | ⟨rfl,rfl⟩
   ·have:=E.co i j e0 e hij g1 h' hc;rcases o0.st with s1 | s1
    ·omega
    ·rw [g5] at s1; have:=o0.b0; omega
   ·omega
 ·rw [cls] at hy;obtain ⟨hbc,hy⟩:=cget b y hy;obtain ⟨m,h2,e,f1,f2,f3⟩:=E.call b y hy;refine ⟨m,h2,e,?_,f2,f3⟩;rw [hev,getElem?_set,if_neg]
  ·exact f1
  ·rintro rfl;rw [g1] at f1;cases f1;omega
 ·rw [hev] at he;rcases get i e he with ⟨hne,h⟩ | ⟨_,rfl⟩
  ·obtain ⟨y,hy,e1⟩:=E.open_ i e h h00;refine ⟨y,?_,e1⟩;rw [cls,getElem?_set,if_neg]
   ·exact hy
   ·intro e2;rw [← e2,hx] at hy;cases hy;rw [hn] at e1;exact hne (by omega)
  ·have:=o0.b0;rw [b2] at h00; omega
end
end Go.Proofs.YtochchocdckegaaGreatDoor
