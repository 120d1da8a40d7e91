/- Part of the proof of: The law KernNone returns true for every input, and leaves its arguments as they were. -/
import Derived.Test.YtniiiakkdoiaiaaGreatDoorKernNone16
set_option linter.all false
namespace Go.Proofs.YtniiiakkdoiaiaaGreatDoor
open Go Mb
set_option linter.unusedVariables false
def dT (a2:Int) (a3:Int) (q22:Nat × Nat) (Rec9:(Sl × Int)→Hp→Prop) (s8:Sl × Int) (x49:aL) (s22:Bool):Hp→Prop:=br s22 ( ld (q22.1,q22.2 + 4) cP fun x65=>cl Tryz.prog gE [(pv x65)] dx fun r66=>cl Tryz.prog dE [(pv r66),(.int .i64 x49.fEnv),(.agg (ap.C x49.fCall).toArray)] bv fun r72=>cl Tryz.prog eT [(pv r66),(.int .i64 a2),(.int .i64 a3)] cm fun r77=>hpv Tryz.prog (Instr.buildSlice pJ 1 #[(0,(.agg (ar.C r77.1).toArray))]) qb fun (v82:Sl)=>hpv Tryz.prog (Builtin.append_ #[pJ,pJ] pJ #[(sv s8.1),(sv v82)]) qb fun (v83:Sl)=>Rec9 (v83,(IntKind.i64.wrap (s8.2 + 1)))) ( Rec9 (s8.1,(IntKind.i64.wrap (s8.2 + 1))))
def kD (a2:Int) (a3:Int) (K:Sl→Hp→Prop) (q22:Nat × Nat) (r37:Sl) (Rec9:(Sl × Int)→Hp→Prop) (s8:Sl × Int):Hp→Prop:=br (decide (s8.2 < (r37.len:Int))) ( ix r37 s8.2 fun q41=>ld (q41.1,q41.2 + Int.toNat s8.2 * 1) (cI .i64) fun x42=>ld (q22.1,q22.2 + 0) cS fun x46=>ix x46 x42 fun q48=>ld (q48.1,q48.2 + Int.toNat x42 * 16) aL.C fun x49=>br (((aM x49.fCall).1) == 7) ( dT a2 a3 q22 Rec9 s8 x49 (((aM x49.fCall).1) == 7)) ( br (((aM x49.fCall).1) == 8) ( dT a2 a3 q22 Rec9 s8 x49 (((aM x49.fCall).1) == 8)) ( br (((aM x49.fCall).1) == 4) ( dT a2 a3 q22 Rec9 s8 x49 (((aM x49.fCall).1) == 4)) ( dT a2 a3 q22 Rec9 s8 x49 (((aM x49.fCall).1) == 5))))) ( K s8.1)
def pt (a0:Ptr) (a1:Int) (a2:Int) (a3:Int) (K:Sl→Hp→Prop):Hp→Prop:=nn a0 fun q22=>ld (q22.1,q22.2 + 4) cP fun x24=>cl Tryz.prog eT [(pv x24),(.int .i64 a2),(.int .i64 a3)] cm fun r27=>hpv Tryz.prog (Instr.buildSlice pJ 1 #[(0,(.agg (ar.C r27.1).toArray))]) qb fun (v31:Sl)=>ld (q22.1,q22.2 + 0) cS fun x35=>cl Tryz.prog n_hist_Over [(sv x35),(.int .i64 a1)] cz fun r37=>Lp (kD a2 a3 K q22 r37) (v31,0)
set_option maxRecDepth 20000 in
theorem ww (a0:Ptr) (a1:Int) (a2:Int) (a3:Int) {K:Sl→Hp→Prop} {h:Hp} (H:pt a0 a1 a2 a3 K h):Ct Tryz.prog lr #[(pv a0),(.int .i64 a1),(.int .i64 a2),(.int .i64 a3)] h fun v h'=>∃ r,v = qb r∧K r h':=aA [(pv a0),(.int .i64 a1),(.int .i64 a2),(.int .i64 a3)] Tryz.func163 rfl rfl rfl fun _=>ag<|ab<|aa (ae rfl) rfl<|ad<|ag<|ab<|aa (ac rfl) rfl<|bJ H fun q22 e1 H2=>aa (aS (aV rfl (ax e1))) rfl<|aa (am vz rfl) rfl<|aj (bd H2 qG rfl (fun _=>rfl) rfl fun x24 H3=>aa (ac rfl) rfl<|aa (ac rfl) rfl<|aj (az H3 en_81 rfl rfl fun r27 _ H4=>aa (ac rfl) rfl<|aa (aq rfl rfl) rfl<|aa (aq rfl rfl) rfl<|aj (aW (l:=(ar.C (⟨0,0,0⟩:ar))) ft rfl rfl fun b9=>aj (bb (k:=0) (vs:=(ar.C r27.1)) dG rfl rfl rfl rfl rfl rfl rfl<|aa (ae rfl) rfl<|ad<|ag<|ab<|bw (bP (k:=0) fo rfl rfl rfl rfl) rfl<|aj (be H4 (bF (vs:=[(.agg (ar.C r27.1).toArray)]) rfl) rfl fun v31 _ H5=>aa (ae rfl) rfl<|ad<|ag<|ag<|ab<|aa (ac (aV rfl (ax e1))) rfl<|aa (aS rfl) rfl<|aa (am fld_168_0 rfl) rfl<|aj (bd H5 sc_39 rfl (fun _=>rfl) rfl fun x35 H6=>aa (ac rfl) rfl<|aj (az H6 en_21 rfl rfl fun r37 _ H7=>aa (dl rfl Tryz.underlying41 rfl) rfl<|aa (ac rfl) rfl<|ad<|aH<|bR (step:=kD a2 a3 K q22 r37) (fun s8=>[(0,(pv a0)),(2,(.int .i64 a2)),(3,(.int .i64 a3)),(11,(sv s8.1)),(37,(sv r37)),(38,(.int .i64 (r37.len:Int))),(39,(.int .i64 s8.2))]) (fun s8=>[]) H7 (.cons rfl (.cons rfl (.cons rfl (.cons rfl (.cons rfl (.cons rfl (.cons rfl (.nil _)))))))) (.cons _ .slnil) (fun Rec9 s8 _ H10=>ag<|ab<|aa (cH rfl rfl) rfl<|ad<|ag<|aE rfl H10 (fun k11 H12=>av<|ag<|aH<|ag<|ab<|cx H12 fun q41 e13 h14 H15=>aa (bC iq (aV rfl (bm e13)) rfl h14) rfl<|aj (bd H15 bk rfl (fun _=>rfl) rfl fun x42 H16=>aa (ae rfl) rfl<|ad<|ag<|ab<|aa (ac (aV rfl (ax e1))) rfl<|aa (aS rfl) rfl<|aa (am fld_168_0 rfl) rfl<|aj (bd H16 sc_39 rfl (fun _=>rfl) rfl fun x46 H17=>aa (ac rfl) rfl<|cx H17 fun q48 e18 h19 H20=>aa (bC sB (aV rfl (bm e18)) rfl h19) rfl<|aj (hH H20 ag_51 rfl (fun _=>rfl) rfl fun x49 H21=>aj (aW (l:=(aL.C (⟨0,0,(⟨0,0,0,0,0⟩:ap),0,0,0,(⟨0,0⟩:al),(⟨0,0,0,0⟩:au)⟩:aL))) zero_51 rfl rfl fun b14=>aj (bb (k:=0) (vs:=(aL.C x49)) inf_51 rfl rfl rfl rfl rfl rfl rfl<|ad<|ag<|ab<|aa (am mJ rfl) rfl<|bw (bP (k:=0) fA rfl rfl rfl rfl) rfl<|aj (cN (vs:=[(.agg (ap.C x49.fCall).toArray)]) (bG (jX x49.fCall _)) en_64 rfl rfl<|aa (ac rfl) rfl<|aa (aq rfl rfl) rfl<|aa (aq rfl rfl) rfl<|aa (ae rfl) rfl<|aa (ae rfl) rfl<|ad<|ag<|ab<|aa (ac rfl) rfl<|ad<|aH<|eG (dT a2 a3 q22 Rec9 s8 x49) (fun s22=>[(0,(pv a0)),(2,(.int .i64 a2)),(3,(.int .i64 a3)),(11,(sv s8.1)),(14,(.pointer (some ⟨b14,0,none⟩))),(37,(sv r37)),(38,(.int .i64 (r37.len:Int))),(39,(.int .i64 s8.2)),(57,(.bool s22))]) (fun s22=>[bx b14 51 (aL.C x49)]) ( ag<|ab<|aa (bV rfl rfl) rfl<|aa (ae rfl) rfl<|ad<|aE rfl H21 (fun k32 H33=>av<|cO (((aM x49.fCall).1) == 7) H33 (.cons rfl (.cons rfl (.cons rfl (.cons rfl (.cons rfl (.cons rfl (.cons rfl (.cons rfl (.cons rfl (.nil _)))))))))) (.cons_cons _ .slnil)) (fun k32 H33=>ag<|ab<|aa (bV rfl rfl) rfl<|aa (ae rfl) rfl<|ad<|aE rfl H33 (fun k34 H35=>av<|cO (((aM x49.fCall).1) == 8) H35 (.cons rfl (.cons rfl (.cons rfl (.cons rfl (.cons rfl (.cons rfl (.cons rfl (.cons rfl (.cons rfl (.nil _)))))))))) (.cons_cons _ .slnil)) (fun k34 H35=>ag<|ab<|aa (bV rfl rfl) rfl<|aa (ae rfl) rfl<|ad<|aE rfl H35 (fun k36 H37=>av<|cO (((aM x49.fCall).1) == 4) H37 (.cons rfl (.cons rfl (.cons rfl (.cons rfl (.cons rfl (.cons rfl (.cons rfl (.cons rfl (.cons rfl (.nil _)))))))))) (.cons_cons _ .slnil)) (fun k36 H37=>ab<|aa (bV rfl rfl) rfl<|aa (ae rfl) rfl<|ad<|cO (((aM x49.fCall).1) == 5) H37 (.cons rfl (.cons rfl (.cons rfl (.cons rfl (.cons rfl (.cons rfl (.cons rfl (.cons rfl (.cons rfl (.nil _)))))))))) (.cons_cons _ .slnil))))) (fun s22 _ H23=>aE rfl H23 (fun k24 H25=>ag<|ab<|aa (ac (aV rfl (ax e1))) rfl<|aa (aS rfl) rfl<|aa (am vz rfl) rfl<|aj (bd H25 qG rfl (fun _=>rfl) rfl fun x65 H26=>aj (az H26 en_164 rfl rfl fun r66 _ H27=>aa (ae rfl) rfl<|ad<|ag<|ab<|aa (ac rfl) rfl<|aa (am oO rfl) rfl<|bw (bt (k:=0) bk rfl rfl rfl) rfl<|aa (am mJ rfl) rfl<|bw (bP (k:=0) fA rfl rfl rfl rfl) rfl<|aj (az H27 en_73 rfl rfl fun r72 _ H28=>ad<|ag<|ab<|aa (ac rfl) rfl<|aa (ac rfl) rfl<|aa (ac rfl) rfl<|aj (az H28 en_81 rfl rfl fun r77 _ H29=>aa (ac rfl) rfl<|aa (aq rfl rfl) rfl<|aa (aq rfl rfl) rfl<|aj (aW (l:=(ar.C (⟨0,0,0⟩:ar))) ft rfl rfl fun b18=>aj (bb (k:=0) (vs:=(ar.C r77.1)) dG rfl rfl rfl rfl rfl rfl rfl<|aa (ae rfl) rfl<|ad<|ab<|aa (ac rfl) rfl<|bw (bP (k:=0) fo rfl rfl rfl rfl) rfl<|aj (be H29 (bF (vs:=[(.agg (ar.C r77.1).toArray)]) rfl) rfl fun v82 _ H30=>aj (be H30 (dM rfl rfl) rfl fun v83 _ H31=>aa (ae rfl) rfl<|ad<|ab<|aa (bK rfl rfl) rfl<|aa (ac rfl) rfl<|ad<|cU (v83,(IntKind.i64.wrap (s8.2 + 1))) H31 (.cons rfl (.cons rfl (.cons rfl (.cons rfl (.cons rfl (.cons rfl (.cons rfl (.nil _)))))))) (.cons _ (.cons _ .slnil))))))))))) (fun k24 H25=>av<|ab<|aa (bK rfl rfl) rfl<|aa (ac rfl) rfl<|ad<|cU (s8.1,(IntKind.i64.wrap (s8.2 + 1))) H25 (.cons rfl (.cons rfl (.cons rfl (.cons rfl (.cons rfl (.cons rfl (.cons rfl (.nil _)))))))) (.cons _ .slnil)))))))))) (fun k11 H12=>bz<|ag<|ab<|aa (ac rfl) rfl<|aa (ae rfl) rfl<|ad<|ao<|aw (ay rfl (aD rfl)) ⟨s8.1,rfl,H12⟩)))))))))
def kE (a1:aL) (K:Bool→Hp→Prop) (q18:Nat × Nat) (r50:Sl) (Rec13:(Bool × Bool × Int)→Hp→Prop) (s12:Bool × Bool × Int):Hp→Prop:=br (decide (s12.2.2 < (r50.len:Int))) ( ix r50 s12.2.2 fun q54=>ld (q54.1,q54.2 + Int.toNat s12.2.2 * 3) ar.C fun x55=>Rec13 ((s12.1 || (!(dr x55.fRights (IntKind.i64.wrap a1.fCall.e0)))),(s12.2.1 || ((x55.fFrame == a1.fLine.fFrame) && (bq a1.fLine.fRights x55.fRights))),(IntKind.i64.wrap (s12.2.2 + 1)))) ( br (a1.fAnswer.fErr == 7) ( K ((s12.1 && (a1.fAnswer.fVal == 0)) && (au.eqb a1.fLine (⟨0,0,0,0⟩:au)))) ( ld (q18.1,q18.2 + 4) cP fun x103=>cl Tryz.prog gE [(pv x103)] dx fun r104=>cl Tryz.prog eX [(pv r104),(.int .i64 a1.fLine.fFrame),(.agg (ap.C a1.fCall).toArray)] bv fun r110=>K (((s12.2.1 && (((a1.fLine.fEnv == a1.fEnv) && (a1.fLine.fPage == (IntKind.i64.wrap a1.fCall.e1))) && (dr a1.fLine.fRights (IntKind.i64.wrap a1.fCall.e0)))) && r110.2) && (al.eqb r110.1 a1.fAnswer))))
def pu (a0:Ptr) (a1:aL) (K:Bool→Hp→Prop):Hp→Prop:=nn a0 fun q18=>ld (q18.1,q18.2 + 1 + 1) (cI .i64) fun x21=>cl Tryz.prog gN [(.agg (ap.C a1.fCall).toArray),(.int .i64 x21)] bu fun r22=>br (r22 != 0) ( K ((al.eqb a1.fAnswer (⟨r22,0⟩:al)) && (au.eqb a1.fLine (⟨0,0,0,0⟩:au)))) ( cl Tryz.prog lr [(.pointer (some ⟨q18.1,q18.2,none⟩)),(.int .i64 a1.fEffect),(.int .i64 a1.fEnv),(.int .i64 (IntKind.i64.wrap a1.fCall.e1))] qb fun r50=>Lp (kE a1 K q18 r50) (false,false,0))
set_option maxRecDepth 20000 in
theorem wx (a0:Ptr) (a1:aL) {K:Bool→Hp→Prop} {h:Hp} (H:pu a0 a1 K h):Ct Tryz.prog lu #[(pv a0),(.agg (aL.C a1).toArray)] h fun v h'=>∃ r,v = aG r∧K r h':=aA [(pv a0),(.agg (aL.C a1).toArray)] Tryz.func121 rfl rfl rfl fun _=>ag<|ab<|aj (cQ (l:=(aL.C a1)) rfl rfl rfl fun b3=>aa (ae rfl) rfl<|ad<|ag<|ag<|bB (n:=9) [bx b3 51 (aL.C a1)] cA rfl (.cons_cons _ .slnil)<|ai (i:=0) (fun _ _ _ _=>id) rfl (by kernel_rfl) rfl (ve (am mJ rfl))<|ai (i:=1) (fun _ _ _ _=>id) rfl (by kernel_rfl) rfl (eD (k:=0) fA rfl rfl rfl rfl)<|ai (i:=2) (fun _ _ _ _=>id) rfl (by kernel_rfl) rfl (ve (ac rfl))<|gP H fun q18 e1 H2=>ai (i:=3) (fun _ _ _ _=>id) rfl (by kernel_rfl) rfl (ve (aS (aV rfl (ax e1))))<|ai (i:=4) (fun _ _ _ _=>id) rfl (by kernel_rfl) rfl (ve (am fld_168_1 rfl))<|ai (i:=5) (fun _ _ _ _=>id) rfl (by kernel_rfl) rfl (ve (am mL rfl))<|bQ (i:=6) (fun _ _ _ _=>id) H2 rfl (by kernel_rfl) bk rfl (fun _=>rfl) rfl fun x21 H3=>bh (i:=7) (by kernel_rfl) (aI rfl rfl (az H3 en_95 rfl rfl fun r22 _ H4=>⟨(.cons_cons _ .slnil),ai (i:=8) (fun _ _ _ _=>id) rfl (by kernel_rfl) rfl (ve (ae rfl))<|bf (by kernel_rfl)<|ag<|ab<|aa (ac rfl) rfl<|aa (pC rfl rfl) rfl<|ad<|aE rfl H4 (fun k5 H6=>ag<|ab<|aa (am ki rfl) rfl<|bw (bP (k:=0) cE rfl rfl rfl rfl) rfl<|aa (ac rfl) rfl<|aa (bj rfl (jf r22)) rfl<|aa (v_eqA eqg_47 (eqr_47 9998 _ _) rfl rfl) rfl<|aa (ac rfl) rfl<|ak rfl rfl rfl (aB _) (fun g7=>wv (am ge rfl)) rfl<|ak rfl rfl rfl (aB _) (fun g8=>cv (bP (k:=0) gY (aK rfl g8) rfl rfl rfl)) rfl<|ak rfl rfl rfl (aB _) (fun g9=>wv (bj (vs:=[]) rfl lD)) rfl<|ak rfl rfl rfl (aB _) (fun g10=>wv (v_eqA eqg_49 (eqr_49 9998 _ _) (aK rfl g10) (aK rfl g10))) rfl<|aa (bX rfl rfl) rfl<|aa (ae rfl) rfl<|ad<|ao<|aw (ay rfl (aD rfl)) ⟨((al.eqb a1.fAnswer (⟨r22,0⟩:al)) && (au.eqb a1.fLine (⟨0,0,0,0⟩:au))),rfl,H6⟩) (fun k5 H6=>av<|ag<|bB (n:=10) [bx b3 51 (aL.C a1)] cA rfl (.cons_cons _ .slnil)<|ai (i:=0) (fun _ _ _ _=>id) rfl (by kernel_rfl) rfl (ve (am mJ rfl))<|ai (i:=1) (fun _ _ _ _=>id) rfl (by kernel_rfl) rfl (ve (bL dh rfl rfl (by decide)))<|ai (i:=2) (fun _ _ _ _=>id) rfl (by kernel_rfl) rfl (dm (k:=0) cD rfl rfl rfl)<|ai (i:=3) (fun _ _ _ _=>id) rfl (by kernel_rfl) rfl (ve (dX ⟨_,Tryz.underlying25⟩ Tryz.underlying3 rfl))<|ai (i:=4) (fun _ _ _ _=>id) rfl (by kernel_rfl) rfl (ve (am mJ rfl))<|ai (i:=5) (fun _ _ _ _=>id) rfl (by kernel_rfl) rfl (ve (bL dh rfl rfl (by decide)))<|ai (i:=6) (fun _ _ _ _=>id) rfl (by kernel_rfl) rfl (dm (k:=0) cD rfl rfl rfl)<|ai (i:=7) (fun _ _ _ _=>id) rfl (by kernel_rfl) rfl (ve (dX ⟨_,Tryz.underlying25⟩ Tryz.underlying3 rfl))<|ai (i:=8) (fun _ _ _ _=>id) rfl (by kernel_rfl) rfl (ve (ae rfl))<|ai (i:=9) (fun _ _ _ _=>id) rfl (by kernel_rfl) rfl (ve (ae rfl))<|bf (by kernel_rfl)<|ag<|ab<|aa (ae rfl) rfl<|aa (ae rfl) rfl<|ad<|ag<|ag<|ab<|aa (ac (aV rfl (ax e1))) rfl<|aa (am iT rfl) rfl<|bw (bt (k:=0) bk rfl rfl rfl) rfl<|aa (am oO rfl) rfl<|bw (bt (k:=0) bk rfl rfl rfl) rfl<|aa (ac rfl) rfl<|aj (az H6 en_163 rfl rfl fun r50 _ H11=>aa (dl rfl Tryz.underlying211 rfl) rfl<|aa (ac rfl) rfl<|ad<|aH<|bR (step:=kE a1 K q18 r50) (fun s12=>[(0,(pv a0)),(3,(.pointer (some ⟨b3,0,none⟩))),(6,(.int .i64 (IntKind.i64.wrap a1.fCall.e1))),(7,(.int .i64 (IntKind.i64.wrap a1.fCall.e0))),(8,(.bool s12.1)),(9,(.bool s12.2.1)),(50,(sv r50)),(51,(.int .i64 (r50.len:Int))),(52,(.int .i64 s12.2.2))]) (fun s12=>[bx b3 51 (aL.C a1)]) H11 (.cons rfl (.cons rfl (.cons rfl (.cons rfl (.cons rfl (.cons rfl (.cons rfl (.cons rfl (.cons rfl (.nil _)))))))))) (.cons_cons _ .slnil) (fun Rec13 s12 _ H14=>ag<|ab<|aa (cH rfl rfl) rfl<|ad<|ag<|aE rfl H14 (fun k15 H16=>av<|ag<|aH<|ag<|ab<|cx H16 fun q54 e17 h18 H19=>aa (bC slc_211 (aV rfl (bm e17)) rfl h18) rfl<|aj (hH H19 fo rfl (fun _=>rfl) rfl fun x55 H20=>aj (aW (l:=(ar.C (⟨0,0,0⟩:ar))) ft rfl rfl fun b11=>aj (bb (k:=0) (vs:=(ar.C x55)) dG rfl rfl rfl rfl rfl rfl rfl<|ad<|ag<|ab<|aa (ac rfl) rfl<|aa (ac rfl) rfl<|ak rfl rfl rfl (aX _) (fun g21=>wv (am eM rfl)) rfl<|ak rfl rfl rfl (aX _) (fun g22=>cv (bt (k:=0) bk (aK rfl g22) rfl rfl)) rfl<|ak rfl rfl rfl (aX _) (fun g23=>wv (ac rfl)) rfl<|dc (vs:=[(.int .i64 x55.fRights),(.int .i64 (IntKind.i64.wrap a1.fCall.e0))]) rfl rfl rfl (aX _) (fun g24=>(bG (jM x55.fRights (IntKind.i64.wrap a1.fCall.e0) _))) en_142 (fun g24=>(aT (aK rfl g24) (aT (aK rfl g24) bM))) rfl<|ak rfl rfl rfl (aX _) (fun g25=>wv (cu (aK rfl g25))) rfl<|aa (dD rfl rfl) rfl<|aa (ae rfl) rfl<|ad<|ab<|aa (ac rfl) rfl<|aa (ac rfl) rfl<|ak rfl rfl rfl (aX _) (fun g26=>wv (am qJ rfl)) rfl<|ak rfl rfl rfl (aX _) (fun g27=>cv (bt (k:=0) bk (aK rfl g27) rfl rfl)) rfl<|ak rfl rfl rfl (aX _) (fun g28=>wv (am ge rfl)) rfl<|ak rfl rfl rfl (aX _) (fun g29=>wv (am ly (aK rfl g29))) rfl<|ak rfl rfl rfl (aX _) (fun g30=>cv (bt (k:=1) bk (aK rfl g30) rfl rfl)) rfl<|ak rfl rfl rfl (aX _) (fun g31=>wv (bV (aK rfl g31) (aK rfl g31))) rfl<|ak rfl rfl rfl (aX _) (fun g32=>wv (ac (aK rfl g32))) rfl<|ak rfl rfl rfl (rh _ _) (fun g33=>wv (am ge rfl)) rfl<|ak rfl rfl rfl (rh _ _) (fun g34=>wv (am qM (aK rfl g34))) rfl<|ak rfl rfl rfl (rh _ _) (fun g35=>cv (bt (k:=1) bk (aK rfl g35) rfl rfl)) rfl<|ak rfl rfl rfl (rh _ _) (fun g36=>wv (am eM rfl)) rfl<|ak rfl rfl rfl (rh _ _) (fun g37=>cv (bt (k:=0) bk (aK rfl g37) rfl rfl)) rfl<|dc (vs:=[(.int .i64 a1.fLine.fRights),(.int .i64 x55.fRights)]) rfl rfl rfl (rh _ _) (fun g38=>(bG (de a1.fLine.fRights x55.fRights _))) mu (fun g38=>(aT (aK rfl g38) (aT (aK rfl g38) bM))) rfl<|ak rfl rfl rfl (aX _) (fun g39=>wv (bX (aK rfl g39) (aV rfl (wV g39)))) rfl<|aa (dD rfl rfl) rfl<|aa (ae rfl) rfl<|ad<|ab<|aa (bK rfl rfl) rfl<|aa (ac rfl) rfl<|ad<|cU ((s12.1 || (!(dr x55.fRights (IntKind.i64.wrap a1.fCall.e0)))),(s12.2.1 || ((x55.fFrame == a1.fLine.fFrame) && (bq a1.fLine.fRights x55.fRights))),(IntKind.i64.wrap (s12.2.2 + 1))) H20 (.cons rfl (.cons rfl (.cons rfl (.cons rfl (.cons rfl (.cons rfl (.cons rfl (.cons rfl (.cons rfl (.nil _)))))))))) (.cons _ (.cons_cons _ .slnil)))))) (fun k15 H16=>bz<|ag<|ag<|ab<|aa (am ki rfl) rfl<|aa (am kl rfl) rfl<|bw (bt (k:=0) ow rfl rfl rfl) rfl<|aa (bV rfl rfl) rfl<|ad<|aE rfl H16 (fun k40 H41=>ag<|ab<|aa (ac rfl) rfl<|aa (ac rfl) rfl<|ak rfl rfl rfl (aB _) (fun g42=>wv (am ki rfl)) rfl<|ak rfl rfl rfl (aB _) (fun g43=>wv (am fld_47_1 (aK rfl g43))) rfl<|ak rfl rfl rfl (aB _) (fun g44=>cv (bt (k:=0) cD (aK rfl g44) rfl rfl)) rfl<|ak rfl rfl rfl (aB _) (fun g45=>wv (bV (aK rfl g45) rfl)) rfl<|aa (bX rfl rfl) rfl<|aa (ac rfl) rfl<|ak rfl rfl rfl (aB _) (fun g46=>wv (am ge rfl)) rfl<|ak rfl rfl rfl (aB _) (fun g47=>cv (bP (k:=0) gY (aK rfl g47) rfl rfl rfl)) rfl<|ak rfl rfl rfl (aB _) (fun g48=>wv (bj (vs:=[]) rfl lD)) rfl<|ak rfl rfl rfl (aB _) (fun g49=>wv (v_eqA eqg_49 (eqr_49 9998 _ _) (aK rfl g49) (aK rfl g49))) rfl<|aa (bX rfl rfl) rfl<|aa (ae rfl) rfl<|ad<|ao<|aw (ay rfl (aD rfl)) ⟨((s12.1 && (a1.fAnswer.fVal == 0)) && (au.eqb a1.fLine (⟨0,0,0,0⟩:au))),rfl,H41⟩) (fun k40 H41=>av<|ag<|bB (n:=17) [bx b3 51 (aL.C a1)] cA rfl (.cons_cons _ .slnil)<|ai (i:=0) (fun _ _ _ _=>id) rfl (by kernel_rfl) rfl (ve (ac (aV rfl (ax e1))))<|ai (i:=1) (fun _ _ _ _=>id) rfl (by kernel_rfl) rfl (ve (aS rfl))<|ai (i:=2) (fun _ _ _ _=>id) rfl (by kernel_rfl) rfl (ve (am vz rfl))<|ai (i:=5) (fun _ _ _ _=>id) rfl (by kernel_rfl) rfl (ve (am ge rfl))<|ai (i:=6) (fun _ _ _ _=>id) rfl (by kernel_rfl) rfl (ve (am ly rfl))<|ai (i:=7) (fun _ _ _ _=>id) rfl (by kernel_rfl) rfl (dm (k:=0) bk rfl rfl rfl)<|ai (i:=8) (fun _ _ _ _=>id) rfl (by kernel_rfl) rfl (ve (am mJ rfl))<|ai (i:=9) (fun _ _ _ _=>id) rfl (by kernel_rfl) rfl (eD (k:=0) fA rfl rfl rfl rfl)<|bQ (i:=3) (fun _ _ _ _=>id) H41 rfl (by kernel_rfl) qG rfl (fun _=>rfl) rfl fun x103 H50=>jD (i:=4) (j:=14) (by kernel_rfl) (aI rfl rfl (az H50 en_164 rfl rfl fun r104 _ H52=>⟨(.cons_cons _ .slnil),jD (i:=10) (j:=14) (by kernel_rfl) (aI rfl rfl (az H52 en_99 rfl rfl fun r110 _ H54=>⟨(.cons_cons _ .slnil),ai (i:=11) (fun _ _ _ _=>id) rfl (by kernel_rfl) rfl (ve (ac rfl))<|ai (i:=12) (fun _ _ _ _=>id) rfl (by kernel_rfl) rfl (ve (aq rfl rfl))<|ai (i:=13) (fun _ _ _ _=>id) rfl (by kernel_rfl) rfl (ve (aq rfl rfl))<|bh (i:=14) (by kernel_rfl) (aI rfl rfl (aW (l:=(al.C (⟨0,0⟩:al))) df rfl rfl fun b12=>⟨(.cons _ (.cons_cons _ .slnil)),bh (i:=15) (by kernel_rfl) (aI rfl rfl (bb (k:=0) (vs:=(al.C r110.1)) bY rfl rfl rfl rfl rfl rfl rfl<|⟨(.cons _ (.cons_cons _ .slnil)),ai (i:=16) (fun _ _ _ _=>id) rfl (by kernel_rfl) rfl (ve (ae rfl))<|bf (by kernel_rfl)<|ag<|ab<|aa (am ge rfl) rfl<|aa (am kj rfl) rfl<|bw (bt (k:=1) bk rfl rfl rfl) rfl<|aa (am oO rfl) rfl<|bw (bt (k:=1) bk rfl rfl rfl) rfl<|aa (bV rfl rfl) rfl<|aa (ac rfl) rfl<|ak rfl rfl rfl (aB _) (fun g55=>wv (am ge rfl)) rfl<|ak rfl rfl rfl (aB _) (fun g56=>wv (am mK (aK rfl g56))) rfl<|ak rfl rfl rfl (aB _) (fun g57=>cv (bt (k:=1) bk (aK rfl g57) rfl rfl)) rfl<|ak rfl rfl rfl (aB _) (fun g58=>wv (ac rfl)) rfl<|ak rfl rfl rfl (aB _) (fun g59=>wv (bV (aK rfl g59) (aK rfl g59))) rfl<|aa (bX rfl rfl) rfl<|aa (ac rfl) rfl<|ak rfl rfl rfl (aB _) (fun g60=>wv (am ge rfl)) rfl<|ak rfl rfl rfl (aB _) (fun g61=>wv (am qM (aK rfl g61))) rfl<|ak rfl rfl rfl (aB _) (fun g62=>cv (bt (k:=1) bk (aK rfl g62) rfl rfl)) rfl<|ak rfl rfl rfl (aB _) (fun g63=>wv (ac rfl)) rfl<|dc (vs:=[(.int .i64 a1.fLine.fRights),(.int .i64 (IntKind.i64.wrap a1.fCall.e0))]) rfl rfl rfl (aB _) (fun g64=>(bG (jM a1.fLine.fRights (IntKind.i64.wrap a1.fCall.e0) _))) en_142 (fun g64=>(aT (aK rfl g64) (aT (aK rfl g64) bM))) rfl<|aa (bX rfl rfl) rfl<|aa (ae rfl) rfl<|ad<|ag<|ab<|aa (ac rfl) rfl<|aa (ac rfl) rfl<|ak rfl rfl rfl (aB _) (fun g65=>wv (ac rfl)) rfl<|aa (bX rfl rfl) rfl<|aa (ac rfl) rfl<|ak rfl rfl rfl (aB _) (fun g66=>wv (ac rfl)) rfl<|aa (bX rfl rfl) rfl<|aa (ac rfl) rfl<|ak rfl rfl rfl (aB _) (fun g67=>cv (bP (k:=0) cE rfl rfl rfl rfl)) rfl<|ak rfl rfl rfl (aB _) (fun g68=>wv (am ki rfl)) rfl<|ak rfl rfl rfl (aB _) (fun g69=>cv (bP (k:=1) cE (aK rfl g69) rfl rfl rfl)) rfl<|ak rfl rfl rfl (aB _) (fun g70=>wv (v_eqA eqg_47 (eqr_47 9998 _ _) (aK rfl g70) (aK rfl g70))) rfl<|aa (bX rfl rfl) rfl<|aa (ae rfl) rfl<|ad<|ao<|aw (ay rfl (aD rfl)) ⟨(((s12.2.1 && (((a1.fLine.fEnv == a1.fEnv) && (a1.fLine.fPage == (IntKind.i64.wrap a1.fCall.e1))) && (dr a1.fLine.fRights (IntKind.i64.wrap a1.fCall.e0)))) && r110.2) && (al.eqb r110.1 a1.fAnswer)),rfl,H54⟩⟩))⟩))⟩)) (aI rfl rfl (aW (l:=(al.C (⟨0,0⟩:al))) df rfl rfl fun b12=>⟨(.cons _ (.cons_cons _ .slnil)),bh (i:=10) (by kernel_rfl) (aI rfl rfl (az H52 en_99 rfl rfl fun r110 _ H54=>⟨(.cons _ (.cons_cons _ .slnil)),ai (i:=11) (fun _ _ _ _=>id) rfl (by kernel_rfl) rfl (ve (ac rfl))<|ai (i:=12) (fun _ _ _ _=>id) rfl (by kernel_rfl) rfl (ve (aq rfl rfl))<|ai (i:=13) (fun _ _ _ _=>id) rfl (by kernel_rfl) rfl (ve (aq rfl rfl))<|bh (i:=15) (by kernel_rfl) (aI rfl rfl (bb (k:=0) (vs:=(al.C r110.1)) bY rfl rfl rfl rfl rfl rfl rfl<|⟨(.cons _ (.cons_cons _ .slnil)),ai (i:=16) (fun _ _ _ _=>id) rfl (by kernel_rfl) rfl (ve (ae rfl))<|bf (by kernel_rfl)<|ag<|ab<|aa (am ge rfl) rfl<|aa (am kj rfl) rfl<|bw (bt (k:=1) bk rfl rfl rfl) rfl<|aa (am oO rfl) rfl<|bw (bt (k:=1) bk rfl rfl rfl) rfl<|aa (bV rfl rfl) rfl<|aa (ac rfl) rfl<|ak rfl rfl rfl (aB _) (fun g55=>wv (am ge rfl)) rfl<|ak rfl rfl rfl (aB _) (fun g56=>wv (am mK (aK rfl g56))) rfl<|ak rfl rfl rfl (aB _) (fun g57=>cv (bt (k:=1) bk (aK rfl g57) rfl rfl)) rfl<|ak rfl rfl rfl (aB _) (fun g58=>wv (ac rfl)) rfl<|ak rfl rfl rfl (aB _) (fun g59=>wv (bV (aK rfl g59) (aK rfl g59))) rfl<|aa (bX rfl rfl) rfl<|aa (ac rfl) rfl<|ak rfl rfl rfl (aB _) (fun g60=>wv (am ge rfl)) rfl<|ak rfl rfl rfl (aB _) (fun g61=>wv (am qM (aK rfl g61))) rfl<|ak rfl rfl rfl (aB _) (fun g62=>cv (bt (k:=1) bk (aK rfl g62) rfl rfl)) rfl<|ak rfl rfl rfl (aB _) (fun g63=>wv (ac rfl)) rfl<|dc (vs:=[(.int .i64 a1.fLine.fRights),(.int .i64 (IntKind.i64.wrap a1.fCall.e0))]) rfl rfl rfl (aB _) (fun g64=>(bG (jM a1.fLine.fRights (IntKind.i64.wrap a1.fCall.e0) _))) en_142 (fun g64=>(aT (aK rfl g64) (aT (aK rfl g64) bM))) rfl<|aa (bX rfl rfl) rfl<|aa (ae rfl) rfl<|ad<|ag<|ab<|aa (ac rfl) rfl<|aa (ac rfl) rfl<|ak rfl rfl rfl (aB _) (fun g65=>wv (ac rfl)) rfl<|aa (bX rfl rfl) rfl<|aa (ac rfl) rfl<|ak rfl rfl rfl (aB _) (fun g66=>wv (ac rfl)) rfl<|aa (bX rfl rfl) rfl<|aa (ac rfl) rfl<|ak rfl rfl rfl (aB _) (fun g67=>cv (bP (k:=0) cE rfl rfl rfl rfl)) rfl<|ak rfl rfl rfl (aB _) (fun g68=>wv (am ki rfl)) rfl<|ak rfl rfl rfl (aB _) (fun g69=>cv (bP (k:=1) cE (aK rfl g69) rfl rfl rfl)) rfl<|ak rfl rfl rfl (aB _) (fun g70=>wv (v_eqA eqg_47 (eqr_47 9998 _ _) (aK rfl g70) (aK rfl g70))) rfl<|aa (bX rfl rfl) rfl<|aa (ae rfl) rfl<|ad<|ao<|aw (ay rfl (aD rfl)) ⟨(((s12.2.1 && (((a1.fLine.fEnv == a1.fEnv) && (a1.fLine.fPage == (IntKind.i64.wrap a1.fCall.e1))) && (dr a1.fLine.fRights (IntKind.i64.wrap a1.fCall.e0)))) && r110.2) && (al.eqb r110.1 a1.fAnswer)),rfl,H54⟩⟩))⟩))⟩))⟩)) (aI rfl rfl (aW (l:=(al.C (⟨0,0⟩:al))) df rfl rfl fun b12=>⟨(.cons _ (.cons_cons _ .slnil)),bh (i:=4) (by kernel_rfl) (aI rfl rfl (az H50 en_164 rfl rfl fun r104 _ H52=>⟨(.cons _ (.cons_cons _ .slnil)),bh (i:=10) (by kernel_rfl) (aI rfl rfl (az H52 en_99 rfl rfl fun r110 _ H53=>⟨(.cons _ (.cons_cons _ .slnil)),ai (i:=11) (fun _ _ _ _=>id) rfl (by kernel_rfl) rfl (ve (ac rfl))<|ai (i:=12) (fun _ _ _ _=>id) rfl (by kernel_rfl) rfl (ve (aq rfl rfl))<|ai (i:=13) (fun _ _ _ _=>id) rfl (by kernel_rfl) rfl (ve (aq rfl rfl))<|bh (i:=15) (by kernel_rfl) (aI rfl rfl (bb (k:=0) (vs:=(al.C r110.1)) bY rfl rfl rfl rfl rfl rfl rfl<|⟨(.cons _ (.cons_cons _ .slnil)),ai (i:=16) (fun _ _ _ _=>id) rfl (by kernel_rfl) rfl (ve (ae rfl))<|bf (by kernel_rfl)<|ag<|ab<|aa (am ge rfl) rfl<|aa (am kj rfl) rfl<|bw (bt (k:=1) bk rfl rfl rfl) rfl<|aa (am oO rfl) rfl<|bw (bt (k:=1) bk rfl rfl rfl) rfl<|aa (bV rfl rfl) rfl<|aa (ac rfl) rfl<|ak rfl rfl rfl (aB _) (fun g54=>wv (am ge rfl)) rfl<|ak rfl rfl rfl (aB _) (fun g55=>wv (am mK (aK rfl g55))) rfl<|ak rfl rfl rfl (aB _) (fun g56=>cv (bt (k:=1) bk (aK rfl g56) rfl rfl)) rfl<|ak rfl rfl rfl (aB _) (fun g57=>wv (ac rfl)) rfl<|ak rfl rfl rfl (aB _) (fun g58=>wv (bV (aK rfl g58) (aK rfl g58))) rfl<|aa (bX rfl rfl) rfl<|aa (ac rfl) rfl<|ak rfl rfl rfl (aB _) (fun g59=>wv (am ge rfl)) rfl<|ak rfl rfl rfl (aB _) (fun g60=>wv (am qM (aK rfl g60))) rfl<|ak rfl rfl rfl (aB _) (fun g61=>cv (bt (k:=1) bk (aK rfl g61) rfl rfl)) rfl<|ak rfl rfl rfl (aB _) (fun g62=>wv (ac rfl)) rfl<|dc (vs:=[(.int .i64 a1.fLine.fRights),(.int .i64 (IntKind.i64.wrap a1.fCall.e0))]) rfl rfl rfl (aB _) (fun g63=>(bG (jM a1.fLine.fRights (IntKind.i64.wrap a1.fCall.e0) _))) en_142 (fun g63=>(aT (aK rfl g63) (aT (aK rfl g63) bM))) rfl<|aa (bX rfl rfl) rfl<|aa (ae rfl) rfl<|ad<|ag<|ab<|aa (ac rfl) rfl<|aa (ac rfl) rfl<|ak rfl rfl rfl (aB _) (fun g64=>wv (ac rfl)) rfl<|aa (bX rfl rfl) rfl<|aa (ac rfl) rfl<|ak rfl rfl rfl (aB _) (fun g65=>wv (ac rfl)) rfl<|aa (bX rfl rfl) rfl<|aa (ac rfl) rfl<|ak rfl rfl rfl (aB _) (fun g66=>cv (bP (k:=0) cE rfl rfl rfl rfl)) rfl<|ak rfl rfl rfl (aB _) (fun g67=>wv (am ki rfl)) rfl<|ak rfl rfl rfl (aB _) (fun g68=>cv (bP (k:=1) cE (aK rfl g68) rfl rfl rfl)) rfl<|ak rfl rfl rfl (aB _) (fun g69=>wv (v_eqA eqg_47 (eqr_47 9998 _ _) (aK rfl g69) (aK rfl g69))) rfl<|aa (bX rfl rfl) rfl<|aa (ae rfl) rfl<|ad<|ao<|aw (ay rfl (aD rfl)) ⟨(((s12.2.1 && (((a1.fLine.fEnv == a1.fEnv) && (a1.fLine.fPage == (IntKind.i64.wrap a1.fCall.e1))) && (dr a1.fLine.fRights (IntKind.i64.wrap a1.fCall.e0)))) && r110.2) && (al.eqb r110.1 a1.fAnswer)),rfl,H53⟩⟩))⟩))⟩))⟩)))))))⟩)))
def ry (a0:Ptr) (a1:aL) (K:Bool→Hp→Prop):Hp→Prop:=br (a1.fAnswer.fErr == 0) ( nn a0 fun q13=>ld (q13.1,q13.2 + 1 + 1) (cI .i64) fun x16=>cl Tryz.prog gN [(.agg (ap.C a1.fCall).toArray),(.int .i64 x16)] bu fun r17=>br (r17 == 0) ( K (a1.fLine.fRights != 0)) ( K false)) ( K false)
set_option maxRecDepth 20000 in
theorem sim_judge_judge_well (a0:Ptr) (a1:aL) {K:Bool→Hp→Prop} {h:Hp} (H:ry a0 a1 K h):Ct Tryz.prog ng #[(pv a0),(.agg (aL.C a1).toArray)] h fun v h'=>∃ r,v = aG r∧K r h':=aA [(pv a0),(.agg (aL.C a1).toArray)] Tryz.func122 rfl rfl rfl fun _=>ag<|ab<|aj (cQ (l:=(aL.C a1)) rfl rfl rfl fun b3=>aa (ae rfl) rfl<|ad<|ag<|bB (n:=22) [bx b3 51 (aL.C a1)] cA rfl (.cons_cons _ .slnil)<|ai (i:=0) (fun _ _ _ _=>id) rfl (by kernel_rfl) rfl (ve (am ki rfl))<|ai (i:=1) (fun _ _ _ _=>id) rfl (by kernel_rfl) rfl (ve (am kl rfl))<|ai (i:=2) (fun _ _ _ _=>id) rfl (by kernel_rfl) rfl (dm (k:=0) ow rfl rfl rfl)<|ai (i:=3) (fun _ _ _ _=>id) rfl (by kernel_rfl) rfl (ve (bV rfl rfl))<|ai (i:=4) (fun _ _ _ _=>id) rfl (by kernel_rfl) rfl (ve (ac rfl))<|pX H (fun k1 H2=>cg (i:=5) (fun _ _ _ _=>id) rfl (by kernel_rfl) rfl rfl rfl rfl (congrArg Value.bool k1) (ve (am mJ rfl))<|cg (i:=6) (fun _ _ _ _=>id) rfl (by kernel_rfl) rfl rfl rfl rfl (congrArg Value.bool k1) (eD (k:=0) fA rfl rfl rfl rfl)<|cg (i:=7) (fun _ _ _ _=>id) rfl (by kernel_rfl) rfl rfl rfl rfl (congrArg Value.bool k1) (ve (ac rfl))<|gP H2 fun q13 e3 H4=>cg (i:=8) (fun _ _ _ _=>id) rfl (by kernel_rfl) rfl rfl rfl rfl (congrArg Value.bool k1) (ve (aS (aV rfl (ax e3))))<|cg (i:=9) (fun _ _ _ _=>id) rfl (by kernel_rfl) rfl rfl rfl rfl (congrArg Value.bool k1) (ve (am fld_168_1 rfl))<|cg (i:=10) (fun _ _ _ _=>id) rfl (by kernel_rfl) rfl rfl rfl rfl (congrArg Value.bool k1) (ve (am mL rfl))<|ma (i:=11) (fun _ _ _ _=>id) H4 rfl (by kernel_rfl) rfl rfl rfl (congrArg Value.bool k1) bk rfl (fun _=>rfl) rfl fun x16 H5=>bh (i:=12) (by kernel_rfl) (way_on rfl rfl rfl rfl (congrArg Value.bool k1) (az H5 en_95 rfl rfl fun r17 _ H6=>⟨(.cons_cons _ .slnil),cg (i:=13) (fun _ _ _ _=>id) rfl (by kernel_rfl) rfl rfl rfl rfl (congrArg Value.bool k1) (ve (bV rfl rfl))<|ai (i:=14) (fun _ _ _ _=>id) rfl (by kernel_rfl) rfl (ve (ba rfl k1 rfl))<|ai (i:=15) (fun _ _ _ _=>id) rfl (by kernel_rfl) rfl (ve (ac rfl))<|pX H6 (fun k7 H8=>cg (i:=16) (fun _ _ _ _=>id) rfl (by kernel_rfl) rfl rfl rfl rfl (congrArg Value.bool k7) (ve (am ge rfl))<|cg (i:=17) (fun _ _ _ _=>id) rfl (by kernel_rfl) rfl rfl rfl rfl (congrArg Value.bool k7) (ve (am qM rfl))<|cg (i:=18) (fun _ _ _ _=>id) rfl (by kernel_rfl) rfl rfl rfl rfl (congrArg Value.bool k7) (dm (k:=0) bk rfl rfl rfl)<|cg (i:=19) (fun _ _ _ _=>id) rfl (by kernel_rfl) rfl rfl rfl rfl (congrArg Value.bool k7) (ve (pC rfl rfl))<|ai (i:=20) (fun _ _ _ _=>id) rfl (by kernel_rfl) rfl (ve (ba rfl k7 rfl))<|ai (i:=21) (fun _ _ _ _=>id) rfl (by kernel_rfl) rfl (ve (ae rfl))<|bf (by kernel_rfl)<|ao<|aw (ay rfl (aD rfl)) ⟨(a1.fLine.fRights != 0),rfl,H8⟩) (fun k7 H8=>bc (i:=16) (fun _ _ _ _=>id) rfl (by kernel_rfl) rfl rfl rfl rfl (aY k7)<|bc (i:=17) (fun _ _ _ _=>id) rfl (by kernel_rfl) rfl rfl rfl rfl (aY k7)<|bc (i:=18) (fun _ _ _ _=>id) rfl (by kernel_rfl) rfl rfl rfl rfl (aY k7)<|bc (i:=19) (fun _ _ _ _=>id) rfl (by kernel_rfl) rfl rfl rfl rfl (aY k7)<|ai (i:=20) (fun _ _ _ _=>id) rfl (by kernel_rfl) rfl (ve (an rfl k7 rfl))<|ai (i:=21) (fun _ _ _ _=>id) rfl (by kernel_rfl) rfl (ve (ae rfl))<|bf (by kernel_rfl)<|ao<|aw (ay rfl (aD rfl)) ⟨false,rfl,H8⟩)⟩))) (fun k1 H2=>bc (i:=5) (fun _ _ _ _=>id) rfl (by kernel_rfl) rfl rfl rfl rfl (aY k1)<|bc (i:=6) (fun _ _ _ _=>id) rfl (by kernel_rfl) rfl rfl rfl rfl (aY k1)<|bc (i:=7) (fun _ _ _ _=>id) rfl (by kernel_rfl) rfl rfl rfl rfl (aY k1)<|bc (i:=8) (fun _ _ _ _=>id) rfl (by kernel_rfl) rfl rfl rfl rfl (aY k1)<|bc (i:=9) (fun _ _ _ _=>id) rfl (by kernel_rfl) rfl rfl rfl rfl (aY k1)<|bc (i:=10) (fun _ _ _ _=>id) rfl (by kernel_rfl) rfl rfl rfl rfl (aY k1)<|bc (i:=11) (fun _ _ _ _=>id) rfl (by kernel_rfl) rfl rfl rfl rfl (aY k1)<|bc (i:=12) (fun _ _ _ _=>id) rfl (by kernel_rfl) rfl rfl rfl rfl (aY k1)<|bc (i:=13) (fun _ _ _ _=>id) rfl (by kernel_rfl) rfl rfl rfl rfl (aY k1)<|ai (i:=14) (fun _ _ _ _=>id) rfl (by kernel_rfl) rfl (ve (an rfl k1 rfl))<|ai (i:=15) (fun _ _ _ _=>id) rfl (by kernel_rfl) rfl (ve (ac rfl))<|bc (i:=16) (fun _ _ _ _=>id) rfl (by kernel_rfl) rfl rfl rfl rfl rfl<|bc (i:=17) (fun _ _ _ _=>id) rfl (by kernel_rfl) rfl rfl rfl rfl rfl<|bc (i:=18) (fun _ _ _ _=>id) rfl (by kernel_rfl) rfl rfl rfl rfl rfl<|bc (i:=19) (fun _ _ _ _=>id) rfl (by kernel_rfl) rfl rfl rfl rfl rfl<|ai (i:=20) (fun _ _ _ _=>id) rfl (by kernel_rfl) rfl (ve (an rfl rfl rfl))<|ai (i:=21) (fun _ _ _ _=>id) rfl (by kernel_rfl) rfl (ve (ae rfl))<|bf (by kernel_rfl)<|ao<|aw (ay rfl (aD rfl)) ⟨false,rfl,H2⟩))
def rS (b25:Nat) (Rec8:Int→Hp→Prop) (s7:Int) (x36:aL) (s22:Unit):Hp→Prop:=cl Tryz.prog ng [(.pointer (some ⟨b25,0,none⟩)),(.agg (aL.C x36).toArray)] aG fun r49=>br r49 ( ld (b25,4) cP fun x53=>cl Tryz.prog eX [(pv x53),(.int .i64 x36.fLine.fFrame),(.agg (ap.C x36.fCall).toArray)] bv fun r59=>Rec8 (IntKind.i64.wrap (s7 + 1))) ( Rec8 (IntKind.i64.wrap (s7 + 1)))
def rR (K:(Int × Bool)→Hp→Prop) (b25:Nat) (Rec8:Int→Hp→Prop) (s7:Int) (x32:Int) (x36:aL) (s29:Bool):Hp→Prop:=br s29 ( K (x32,false)) ( rS b25 Rec8 s7 x36 ())
def wS (a0:Sl) (a2:Bool) (a3:Bool) (K:(Int × Bool)→Hp→Prop) (b25:Nat) (r27:Sl) (Rec8:Int→Hp→Prop) (s7:Int):Hp→Prop:=br (decide (s7 < (r27.len:Int))) ( ix r27 s7 fun q31=>ld (q31.1,q31.2 + Int.toNat s7 * 1) (cI .i64) fun x32=>ix a0 x32 fun q35=>ld (q35.1,q35.2 + Int.toNat x32 * 16) aL.C fun x36=>br (qc x36) ( br a3 ( cl Tryz.prog lu [(.pointer (some ⟨b25,0,none⟩)),(.agg (aL.C x36).toArray)] aG fun r43=>rR K b25 Rec8 s7 x32 x36 (!r43)) ( rR K b25 Rec8 s7 x32 x36 false)) ( ld (b25,4) cP fun x64=>cl Tryz.prog dE [(pv x64),(.int .i64 x36.fEnv),(.agg (ap.C x36.fCall).toArray)] bv fun r69=>br (a2 && ((!r69.2) || (!(al.eqb r69.1 x36.fAnswer)))) ( K (x32,false)) ( Rec8 (IntKind.i64.wrap (s7 + 1))))) ( K ((-1),true))
def sh_judge_run (a0:Sl) (a1:aP) (a2:Bool) (a3:Bool) (K:(Int × Bool)→Hp→Prop):Hp→Prop:=cl Tryz.prog tf [(sv a0),(.agg (aP.C a1).toArray)] aG fun r18=>br (!r18) ( K ((-1),false)) ( cl Tryz.prog lg [(.agg (aP.C a1).toArray)] dx fun r23=>nw dn (kx.C (⟨a0,a1,r23⟩:kx)) fun b25=>cl Tryz.prog oJ [(sv a0)] cz fun r27=>Lp (wS a0 a2 a3 K b25 r27) 0)
set_option maxRecDepth 20000 in
theorem sim_judge_run (a0:Sl) (a1:aP) (a2:Bool) (a3:Bool) {K:(Int × Bool)→Hp→Prop} {h:Hp} (H:sh_judge_run a0 a1 a2 a3 K h):Ct Tryz.prog ul #[(sv a0),(.agg (aP.C a1).toArray),(.bool a2),(.bool a3)] h fun v h'=>∃ r,v = bU r∧K r h':=aA [(sv a0),(.agg (aP.C a1).toArray),(.bool a2),(.bool a3)] Tryz.func82 rfl rfl rfl fun _=>ag<|ab<|aj (cQ (l:=(aP.C a1)) rfl rfl rfl fun b5=>aa (ae rfl) rfl<|aa (ae rfl) rfl<|ad<|ag<|ag<|ab<|aa (ac rfl) rfl<|bw (bP (k:=0) rF rfl rfl rfl rfl) rfl<|aj (az H en_19 rfl rfl fun r18 _ H1=>aa (cu rfl) rfl<|ad<|aE rfl H1 (fun k2 H3=>ag<|ab<|aa (ae rfl) rfl<|aa (ae rfl) rfl<|ad<|ao<|aw (bW rfl (aD rfl) (aD rfl)) ⟨((-1),false),rfl,H3⟩) (fun k2 H3=>av<|ag<|bB (n:=7) [bx b5 35 (aP.C a1)] cA rfl (.cons_cons _ .slnil)<|ai (i:=0) (fun _ _ _ _=>id) rfl (by kernel_rfl) rfl (ve (ac rfl))<|ai (i:=1) (fun _ _ _ _=>id) rfl (by kernel_rfl) rfl (eD (k:=0) rF rfl rfl rfl rfl)<|ai (i:=2) (fun _ _ _ _=>id) rfl (by kernel_rfl) rfl (eD (k:=0) rF rfl rfl rfl rfl)<|bh (i:=3) (by kernel_rfl) (aI rfl rfl (az H3 en_60 rfl rfl fun r23 _ H4=>⟨(.cons_cons _ .slnil),ai (i:=4) (fun _ _ _ _=>id) rfl (by kernel_rfl) rfl (ve (bj rfl (build_168_0_1_2 a0 a1 r23)))<|bh (i:=5) (by kernel_rfl) (aI rfl rfl (hO rfl rfl rfl H4 fun b25 _ H5=>⟨(.cons_cons _ .slnil),ai (i:=6) (fun _ _ _ _=>id) rfl (by kernel_rfl) rfl (ve (ae rfl))<|bf (by kernel_rfl)<|ag<|ag<|ab<|aa (ac rfl) rfl<|aj (az H5 en_26 rfl rfl fun r27 _ H6=>aa (dl rfl Tryz.underlying41 rfl) rfl<|aa (ac rfl) rfl<|ad<|aH<|bR (step:=wS a0 a2 a3 K b25 r27) (fun s7=>[(0,(sv a0)),(2,(.bool a2)),(3,(.bool a3)),(10,(.pointer (some ⟨b25,0,none⟩))),(27,(sv r27)),(28,(.int .i64 (r27.len:Int))),(29,(.int .i64 s7))]) (fun s7=>[]) H6 (.cons rfl (.cons rfl (.cons rfl (.cons rfl (.cons rfl (.cons rfl (.cons rfl (.nil _)))))))) (.cons _ .slnil) (fun Rec8 s7 _ H9=>ag<|ab<|aa (cH rfl rfl) rfl<|ad<|ag<|aE rfl H9 (fun k10 H11=>av<|ag<|aH<|ag<|ab<|cx H11 fun q31 e12 h13 H14=>aa (bC iq (aV rfl (bm e12)) rfl h13) rfl<|aj (bd H14 bk rfl (fun _=>rfl) rfl fun x32 H15=>aa (ae rfl) rfl<|ad<|ag<|ab<|aa (ac rfl) rfl<|aa (ac rfl) rfl<|cx H15 fun q35 e16 h17 H18=>aa (bC sB (aV rfl (bm e16)) rfl h17) rfl<|aj (hH H18 ag_51 rfl (fun _=>rfl) rfl fun x36 H19=>aj (aW (l:=(aL.C (⟨0,0,(⟨0,0,0,0,0⟩:ap),0,0,0,(⟨0,0⟩:al),(⟨0,0,0,0⟩:au)⟩:aL))) zero_51 rfl rfl fun b13=>aj (bb (k:=0) (vs:=(aL.C x36)) inf_51 rfl rfl rfl rfl rfl rfl rfl<|ad<|ag<|ag<|ab<|bw (bP (k:=0) ag_51 rfl rfl rfl rfl) rfl<|aj (cN (vs:=[(.agg (aL.C x36).toArray)]) (bG (ct_judge_user x36 _)) en_120 rfl rfl<|ad<|aE rfl H19 (fun k20 H21=>eG (rS b25 Rec8 s7 x36) (fun s22=>[(0,(sv a0)),(2,(.bool a2)),(3,(.bool a3)),(10,(.pointer (some ⟨b25,0,none⟩))),(13,(.pointer (some ⟨b13,0,none⟩))),(27,(sv r27)),(28,(.int .i64 (r27.len:Int))),(29,(.int .i64 s7))]) (fun s22=>[bx b13 51 (aL.C x36)]) ( eG (rR K b25 Rec8 s7 x32 x36) (fun s29=>[(0,(sv a0)),(2,(.bool a2)),(3,(.bool a3)),(10,(.pointer (some ⟨b25,0,none⟩))),(12,(.int .i64 x32)),(13,(.pointer (some ⟨b13,0,none⟩))),(27,(sv r27)),(28,(.int .i64 (r27.len:Int))),(29,(.int .i64 s7)),(45,(.bool s29))]) (fun s29=>[bx b13 51 (aL.C x36)]) ( ab<|aa (ac rfl) rfl<|aa (ac rfl) rfl<|ak rfl rfl rfl (aB _) (fun g33=>wv (ac rfl)) rfl<|ak rfl rfl rfl (aB _) (fun g34=>cv (bP (k:=0) ag_51 rfl rfl rfl rfl)) rfl<|bO H21 (fun k36 H37=>aF rfl rfl rfl (congrArg Value.bool k36) (az H37 en_121 (aT (aK rfl k36) (aT (aK rfl k36) bM)) rfl fun r43 _ H38=>aF rfl rfl rfl (congrArg Value.bool k36) (aJ (wv (cu rfl)) rfl<|aa (ba rfl k36 rfl) rfl<|ad<|cO (!r43) H38 (.cons rfl (.cons rfl (.cons rfl (.cons rfl (.cons rfl (.cons rfl (.cons rfl (.cons rfl (.cons rfl (.cons rfl (.nil _))))))))))) (.cons_cons _ .slnil)))) (fun k36 H37=>ah rfl rfl rfl (aY k36) rfl<|ah rfl rfl rfl (aY k36) rfl<|aa (an rfl k36 rfl) rfl<|ad<|cO false H37 (.cons rfl (.cons rfl (.cons rfl (.cons rfl (.cons rfl (.cons rfl (.cons rfl (.cons rfl (.cons rfl (.cons rfl (.nil _))))))))))) (.cons_cons _ .slnil))) (fun s29 _ H30=>aE rfl H30 (fun k31 H32=>ag<|ab<|aa (ac rfl) rfl<|aa (ae rfl) rfl<|aa (ae rfl) rfl<|ad<|ao<|aw (bW rfl (aD rfl) (aD rfl)) ⟨(x32,false),rfl,H32⟩) (fun k31 H32=>av<|cO () H32 (.cons rfl (.cons rfl (.cons rfl (.cons rfl (.cons rfl (.cons rfl (.cons rfl (.cons rfl (.nil _))))))))) (.cons_cons _ .slnil)))) (fun s22 _ H23=>ag<|ag<|ab<|aa (ac rfl) rfl<|bw (bP (k:=0) ag_51 rfl rfl rfl rfl) rfl<|aj (az H23 en_122 rfl rfl fun r49 _ H24=>ad<|aE rfl H24 (fun k25 H26=>bB (n:=10) [bx b13 51 (aL.C x36)] cA rfl (.cons_cons _ .slnil)<|ai (i:=0) (fun _ _ _ _=>id) rfl (by kernel_rfl) rfl (ve (ac rfl))<|ai (i:=1) (fun _ _ _ _=>id) rfl (by kernel_rfl) rfl (ve (aS rfl))<|ai (i:=2) (fun _ _ _ _=>id) rfl (by kernel_rfl) rfl (ve (am vz rfl))<|ai (i:=4) (fun _ _ _ _=>id) rfl (by kernel_rfl) rfl (ve (am ge rfl))<|ai (i:=5) (fun _ _ _ _=>id) rfl (by kernel_rfl) rfl (ve (am ly rfl))<|ai (i:=6) (fun _ _ _ _=>id) rfl (by kernel_rfl) rfl (dm (k:=0) bk rfl rfl rfl)<|ai (i:=7) (fun _ _ _ _=>id) rfl (by kernel_rfl) rfl (ve (am mJ rfl))<|ai (i:=8) (fun _ _ _ _=>id) rfl (by kernel_rfl) rfl (eD (k:=0) fA rfl rfl rfl rfl)<|bQ (i:=3) (fun _ _ _ _=>id) H26 rfl (by kernel_rfl) qG rfl (fun _=>rfl) rfl fun x53 H27=>bh (i:=9) (by kernel_rfl) (aI rfl rfl (az H27 en_99 rfl rfl fun r59 _ H28=>⟨(.cons_cons _ .slnil),bf (by kernel_rfl)<|bz<|ab<|aa (bK rfl rfl) rfl<|aa (ac rfl) rfl<|ad<|cU (IntKind.i64.wrap (s7 + 1)) H28 (.cons rfl (.cons rfl (.cons rfl (.cons rfl (.cons rfl (.cons rfl (.cons rfl (.nil _)))))))) (.cons _ .slnil)⟩))) (fun k25 H26=>av<|bz<|ab<|aa (bK rfl rfl) rfl<|aa (ac rfl) rfl<|ad<|cU (IntKind.i64.wrap (s7 + 1)) H26 (.cons rfl (.cons rfl (.cons rfl (.cons rfl (.cons rfl (.cons rfl (.cons rfl (.nil _)))))))) (.cons _ .slnil))))) (fun k20 H21=>av<|ag<|bB (n:=15) [bx b13 51 (aL.C x36)] cA rfl (.cons_cons _ .slnil)<|ai (i:=0) (fun _ _ _ _=>id) rfl (by kernel_rfl) rfl (ve (ac rfl))<|ai (i:=1) (fun _ _ _ _=>id) rfl (by kernel_rfl) rfl (ve (aS rfl))<|ai (i:=2) (fun _ _ _ _=>id) rfl (by kernel_rfl) rfl (ve (am vz rfl))<|ai (i:=4) (fun _ _ _ _=>id) rfl (by kernel_rfl) rfl (ve (am oO rfl))<|ai (i:=5) (fun _ _ _ _=>id) rfl (by kernel_rfl) rfl (dm (k:=0) bk rfl rfl rfl)<|ai (i:=6) (fun _ _ _ _=>id) rfl (by kernel_rfl) rfl (ve (am mJ rfl))<|ai (i:=7) (fun _ _ _ _=>id) rfl (by kernel_rfl) rfl (eD (k:=0) fA rfl rfl rfl rfl)<|bQ (i:=3) (fun _ _ _ _=>id) H21 rfl (by kernel_rfl) qG rfl (fun _=>rfl) rfl fun x64 H39=>jD (i:=8) (j:=12) (by kernel_rfl) (aI rfl rfl (az H39 en_73 rfl rfl fun r69 _ H41=>⟨(.cons_cons _ .slnil),ai (i:=9) (fun _ _ _ _=>id) rfl (by kernel_rfl) rfl (ve (ac rfl))<|ai (i:=10) (fun _ _ _ _=>id) rfl (by kernel_rfl) rfl (ve (aq rfl rfl))<|ai (i:=11) (fun _ _ _ _=>id) rfl (by kernel_rfl) rfl (ve (aq rfl rfl))<|bh (i:=12) (by kernel_rfl) (aI rfl rfl (aW (l:=(al.C (⟨0,0⟩:al))) df rfl rfl fun b14=>⟨(.cons _ (.cons_cons _ .slnil)),bh (i:=13) (by kernel_rfl) (aI rfl rfl (bb (k:=0) (vs:=(al.C r69.1)) bY rfl rfl rfl rfl rfl rfl rfl<|⟨(.cons _ (.cons_cons _ .slnil)),ai (i:=14) (fun _ _ _ _=>id) rfl (by kernel_rfl) rfl (ve (ae rfl))<|bf (by kernel_rfl)<|ag<|ab<|aa (ac rfl) rfl<|aa (ac rfl) rfl<|ak rfl rfl rfl (aB _) (fun g42=>wv (ac rfl)) rfl<|ak rfl rfl rfl (aB _) (fun g43=>wv (cu (aK rfl g43))) rfl<|ak rfl rfl rfl (aB _) (fun g44=>wv (ac (aK rfl g44))) rfl<|ak rfl rfl rfl (dW _ _) (fun g45=>cv (bP (k:=0) cE rfl rfl rfl rfl)) rfl<|ak rfl rfl rfl (dW _ _) (fun g46=>wv (am ki rfl)) rfl<|ak rfl rfl rfl (dW _ _) (fun g47=>cv (bP (k:=1) cE (aK rfl g47) rfl rfl rfl)) rfl<|ak rfl rfl rfl (dW _ _) (fun g48=>wv (v_neA eqg_47 (eqr_47 9998 _ _) (aK rfl g48) (aK rfl g48))) rfl<|ak rfl rfl rfl (aB _) (fun g49=>wv (dD (aK rfl g49) (aV rfl (wV g49)))) rfl<|aa (bX rfl rfl) rfl<|ad<|aE rfl H41 (fun k50 H51=>ag<|ab<|aa (ac rfl) rfl<|aa (ae rfl) rfl<|aa (ae rfl) rfl<|ad<|ao<|aw (bW rfl (aD rfl) (aD rfl)) ⟨(x32,false),rfl,H51⟩) (fun k50 H51=>av<|ab<|aa (bK rfl rfl) rfl<|aa (ac rfl) rfl<|ad<|cU (IntKind.i64.wrap (s7 + 1)) H51 (.cons rfl (.cons rfl (.cons rfl (.cons rfl (.cons rfl (.cons rfl (.cons rfl (.nil _)))))))) (.cons _ (.cons _ .slnil)))⟩))⟩))⟩)) (aI rfl rfl (aW (l:=(al.C (⟨0,0⟩:al))) df rfl rfl fun b14=>⟨(.cons _ (.cons_cons _ .slnil)),bh (i:=8) (by kernel_rfl) (aI rfl rfl (az H39 en_73 rfl rfl fun r69 _ H41=>⟨(.cons _ (.cons_cons _ .slnil)),ai (i:=9) (fun _ _ _ _=>id) rfl (by kernel_rfl) rfl (ve (ac rfl))<|ai (i:=10) (fun _ _ _ _=>id) rfl (by kernel_rfl) rfl (ve (aq rfl rfl))<|ai (i:=11) (fun _ _ _ _=>id) rfl (by kernel_rfl) rfl (ve (aq rfl rfl))<|bh (i:=13) (by kernel_rfl) (aI rfl rfl (bb (k:=0) (vs:=(al.C r69.1)) bY rfl rfl rfl rfl rfl rfl rfl<|⟨(.cons _ (.cons_cons _ .slnil)),ai (i:=14) (fun _ _ _ _=>id) rfl (by kernel_rfl) rfl (ve (ae rfl))<|bf (by kernel_rfl)<|ag<|ab<|aa (ac rfl) rfl<|aa (ac rfl) rfl<|ak rfl rfl rfl (aB _) (fun g42=>wv (ac rfl)) rfl<|ak rfl rfl rfl (aB _) (fun g43=>wv (cu (aK rfl g43))) rfl<|ak rfl rfl rfl (aB _) (fun g44=>wv (ac (aK rfl g44))) rfl<|ak rfl rfl rfl (dW _ _) (fun g45=>cv (bP (k:=0) cE rfl rfl rfl rfl)) rfl<|ak rfl rfl rfl (dW _ _) (fun g46=>wv (am ki rfl)) rfl<|ak rfl rfl rfl (dW _ _) (fun g47=>cv (bP (k:=1) cE (aK rfl g47) rfl rfl rfl)) rfl<|ak rfl rfl rfl (dW _ _) (fun g48=>wv (v_neA eqg_47 (eqr_47 9998 _ _) (aK rfl g48) (aK rfl g48))) rfl<|ak rfl rfl rfl (aB _) (fun g49=>wv (dD (aK rfl g49) (aV rfl (wV g49)))) rfl<|aa (bX rfl rfl) rfl<|ad<|aE rfl H41 (fun k50 H51=>ag<|ab<|aa (ac rfl) rfl<|aa (ae rfl) rfl<|aa (ae rfl) rfl<|ad<|ao<|aw (bW rfl (aD rfl) (aD rfl)) ⟨(x32,false),rfl,H51⟩) (fun k50 H51=>av<|ab<|aa (bK rfl rfl) rfl<|aa (ac rfl) rfl<|ad<|cU (IntKind.i64.wrap (s7 + 1)) H51 (.cons rfl (.cons rfl (.cons rfl (.cons rfl (.cons rfl (.cons rfl (.cons rfl (.nil _)))))))) (.cons _ (.cons _ .slnil)))⟩))⟩))⟩))))))))) (fun k10 H11=>bz<|ag<|ab<|aa (ae rfl) rfl<|aa (ae rfl) rfl<|ad<|ao<|aw (bW rfl (aD rfl) (aD rfl)) ⟨((-1),true),rfl,H11⟩)))⟩))⟩)))))
def sh_judge_Linear (a0:Sl) (a1:aP) (K:(Int × Bool)→Hp→Prop):Hp→Prop:=cl Tryz.prog ul [(sv a0),(.agg (aP.C a1).toArray),(.bool true),(.bool false)] bU fun r8=>K (r8.1,r8.2)
set_option maxRecDepth 20000 in
theorem sim_judge_Linear (a0:Sl) (a1:aP) {K:(Int × Bool)→Hp→Prop} {h:Hp} (H:sh_judge_Linear a0 a1 K h):Ct Tryz.prog lv #[(sv a0),(.agg (aP.C a1).toArray)] h fun v h'=>∃ r,v = bU r∧K r h':=aA [(sv a0),(.agg (aP.C a1).toArray)] Tryz.func44 rfl rfl rfl fun _=>ag<|ab<|aj (cQ (l:=(aP.C a1)) rfl rfl rfl fun b3=>aa (ae rfl) rfl<|aa (ae rfl) rfl<|ad<|ag<|ab<|aa (ac rfl) rfl<|bw (bP (k:=0) rF rfl rfl rfl rfl) rfl<|aj (az H en_82 rfl rfl fun r8 _ H1=>aa (aq rfl rfl) rfl<|aa (aq rfl rfl) rfl<|aa (ae rfl) rfl<|aa (ae rfl) rfl<|ad<|ao<|aw (bW rfl (aD rfl) (aD rfl)) ⟨(r8.1,r8.2),rfl,H1⟩))
def sh_judge_Access (a0:Sl) (a1:aP) (K:(Int × Bool)→Hp→Prop):Hp→Prop:=cl Tryz.prog ul [(sv a0),(.agg (aP.C a1).toArray),(.bool false),(.bool true)] bU fun r8=>K (r8.1,r8.2)
set_option maxRecDepth 20000 in
theorem sim_judge_Access (a0:Sl) (a1:aP) {K:(Int × Bool)→Hp→Prop} {h:Hp} (H:sh_judge_Access a0 a1 K h):Ct Tryz.prog oI #[(sv a0),(.agg (aP.C a1).toArray)] h fun v h'=>∃ r,v = bU r∧K r h':=aA [(sv a0),(.agg (aP.C a1).toArray)] Tryz.func49 rfl rfl rfl fun _=>ag<|ab<|aj (cQ (l:=(aP.C a1)) rfl rfl rfl fun b3=>aa (ae rfl) rfl<|aa (ae rfl) rfl<|ad<|ag<|ab<|aa (ac rfl) rfl<|bw (bP (k:=0) rF rfl rfl rfl rfl) rfl<|aj (az H en_82 rfl rfl fun r8 _ H1=>aa (aq rfl rfl) rfl<|aa (aq rfl rfl) rfl<|aa (ae rfl) rfl<|aa (ae rfl) rfl<|ad<|ao<|aw (bW rfl (aD rfl) (aD rfl)) ⟨(r8.1,r8.2),rfl,H1⟩))
def sh_judge_Right (a0:Sl) (a1:aP) (K:Bool→Hp→Prop):Hp→Prop:=cl Tryz.prog lv [(sv a0),(.agg (aP.C a1).toArray)] bU fun r12=>cl Tryz.prog oI [(sv a0),(.agg (aP.C a1).toArray)] bU fun r18=>K (r12.2 && r18.2)
set_option maxRecDepth 20000 in
theorem sim_judge_Right (a0:Sl) (a1:aP) {K:Bool→Hp→Prop} {h:Hp} (H:sh_judge_Right a0 a1 K h):Ct Tryz.prog uH #[(sv a0),(.agg (aP.C a1).toArray)] h fun v h'=>∃ r,v = aG r∧K r h':=aA [(sv a0),(.agg (aP.C a1).toArray)] Tryz.func41 rfl rfl rfl fun _=>ag<|ab<|aj (cQ (l:=(aP.C a1)) rfl rfl rfl fun b3=>aa (ae rfl) rfl<|ad<|ag<|ab<|aa (ac rfl) rfl<|bw (bP (k:=0) rF rfl rfl rfl rfl) rfl<|aj (az H en_44 rfl rfl fun r12 _ H1=>aa (ac rfl) rfl<|aa (aq rfl rfl) rfl<|aa (aq rfl rfl) rfl<|aa (ae rfl) rfl<|aa (ae rfl) rfl<|ad<|ag<|ab<|aa (ac rfl) rfl<|bw (bP (k:=0) rF rfl rfl rfl rfl) rfl<|aj (az H1 en_49 rfl rfl fun r18 _ H2=>aa (ac rfl) rfl<|aa (aq rfl rfl) rfl<|aa (aq rfl rfl) rfl<|aa (ae rfl) rfl<|aa (ae rfl) rfl<|ad<|ag<|ab<|aa (ac rfl) rfl<|aa (ac rfl) rfl<|ak rfl rfl rfl (aB _) (fun g3=>wv (ac rfl)) rfl<|aa (bX rfl rfl) rfl<|aa (ae rfl) rfl<|ad<|ao<|aw (ay rfl (aD rfl)) ⟨(r12.2 && r18.2),rfl,H2⟩)))
end Go.Proofs.YtniiiakkdoiaiaaGreatDoor
namespace Go.Proofs.YtniiiakkdoiaiaaGreatDoor
open Go Mb
abbrev vG (s:Sl) (xs:List Pte):As:=vec t_api_Pte 3 ar.C s xs
theorem pte_one (p:Pte):dO p.C = true:=rfl
namespace Judge
def ev (es:List cn) (i:Int):cn:=es.getD i.toNat Hist.ev00
def takes (e:cn):Bool:=(aM e.fCall).1 == 7 || (aM e.fCall).1 == 8 || (aM e.fCall).1 == 4 || (aM e.fCall).1 == 5
def othersFrom (k:PK) (es:List cn) (env pg:Int):List Int→List Pte
  | []=>[]
  | i::l=>if takes (ev es i) = true then (PK.pte (PK.do_ k (ev es i).fEnv (ev es i).fCall).2 env pg).1::othersFrom k es env pg l else othersFrom k es env pg l
def others (k:PK) (es:List cn) (at_ env pg:Int):List Pte:=(PK.pte k env pg).1::othersFrom k es env pg (Hist.over es at_)
def faults (e:cn) (l:List Pte):Bool:=l.any fun p=>!(dr p.fRights (IntKind.i64.wrap e.fCall.e0))
def goes (e:cn) (l:List Pte):Bool:=l.any fun p=>(p.fFrame == e.fLine.fFrame) && (bq e.fLine.fRights p.fRights)
def own (e:cn):Bool:=((e.fLine.fEnv == e.fEnv) && (e.fLine.fPage == (IntKind.i64.wrap e.fCall.e1))) && (dr e.fLine.fRights (IntKind.i64.wrap e.fCall.e0))
def access (k:PK) (es:List cn) (s:kR) (e:cn):Bool :=
  if Word.check e.fCall s.fEnvs ≠ 0 then (al.eqb e.fAnswer ⟨Word.check e.fCall s.fEnvs,0⟩) && (au.eqb e.fLine mt)
  else if e.fAnswer.fErr = 7 then (faults e (others k es e.fEffect e.fEnv (IntKind.i64.wrap e.fCall.e1)) && (e.fAnswer.fVal == 0)) && (au.eqb e.fLine mt)
  else ((goes e (others k es e.fEffect e.fEnv (IntKind.i64.wrap e.fCall.e1)) && own e) && (PK.touch k e.fLine.fFrame e.fCall).1.2) && (al.eqb (PK.touch k e.fLine.fFrame e.fCall).1.1 e.fAnswer)
def well (s:kR) (e:cn):Bool:=(e.fAnswer.fErr == 0) && (Word.check e.fCall s.fEnvs == 0) && (e.fLine.fRights != 0)
def runFrom (es:List cn) (s:kR) (lin acc:Bool):PK→List Int→Int × Bool
  | _,[]=>(-1,true)
  | k,i::l =>
    if qc (ev es i) = true then (if acc = true∧access k es s (ev es i) = false then (i,false) else runFrom es s lin acc (if well s (ev es i) = true then (PK.touch k (ev es i).fLine.fFrame (ev es i).fCall).2 else k) l)
    else if lin = true∧((PK.do_ k (ev es i).fEnv (ev es i).fCall).1.2 = false∨al.eqb (PK.do_ k (ev es i).fEnv (ev es i).fCall).1.1 (ev es i).fAnswer = false) then (i,false)
    else runFrom es s lin acc (PK.do_ k (ev es i).fEnv (ev es i).fCall).2 l
def run (es:List cn) (s:kR) (lin acc:Bool):Int × Bool:=if Hist.may es s = true then runFrom es s lin acc (PK.new s) (Hist.order es) else (-1,false)
def linear (es:List cn) (s:kR):Int × Bool:=run es s true false
def accesses (es:List cn) (s:kR):Int × Bool:=run es s false true
def right (es:List cn) (s:kR):Bool:=(linear es s).2 && (accesses es s).2
theorem ev_nat {es:List cn} {n:Nat} (h:n < es.length):ev es n = es[n]:=by simp [ev,h]
theorem othersFrom_app (k:PK) (es:List cn) (env pg:Int) (i:Int):∀ l,othersFrom k es env pg (l++[i]) = othersFrom k es env pg l++(if takes (ev es i) = true then [(PK.pte (PK.do_ k (ev es i).fEnv (ev es i).fCall).2 env pg).1] else [])
  | []=>by simp only [List.nil_append,othersFrom]
  | j::l=>by
    simp only [List.cons_append,othersFrom,othersFrom_app k es env pg i l]
    split <;> simp
theorem othersFrom_len (k:PK) (es:List cn) (env pg:Int):∀ l,(othersFrom k es env pg l).length ≤ l.length
  | []=>Nat.le_refl _
  | i::l=>by unfold othersFrom; have:=othersFrom_len k es env pg l; split <;> simp <;> omega
end Judge
abbrev jc (s:Sl) (z:kR) (pk:Ptr):List Value:=[sv s,.int .i64 z.fCores,.int .i64 z.fEnvs,.int .i64 z.fFrames,pv pk]
theorem sp_judge_others (jb:Nat) (s:Sl) (z:kR) (pk:Ptr) (es:List cn) (k:PK) (a env pg:Int) (hb:es.length < 2 ^ 38) :
    Sp Tryz.prog lr [pv (some (jb,0)),.int .i64 a,.int .i64 env,.int .i64 pg] qb [blk jb dn (jc s z pk),vE s es,bE pk k] (fun r=>aO [vG r (Judge.others k es a env pg),blk jb dn (jc s z pk),vE s es,bE pk k]):=by
  intro h s0
  refine ww _ _ _ _ ?_
  unfold pt
  refine cK (bA pk s0 (i:=0) rfl rfl rfl ?_)
  refine ce (rJ pk k env pg) (i:=2) rfl s0 fun r h1 hr s1=>?_
  subst hr
  refine fz (τ:=Pte) [(PK.pte k env pg).1] (val:=fun x=>.agg x.C.toArray) (enc:=ar.C) el_Sapi_Pte ji (fun _=>rfl) s1 rfl rfl (by simp) fun v h2 s2=>?_
  refine bA s s2 (i:=1) rfl rfl rfl ?_
  refine cl_n (sp_hist_Over s es a hb) (i:=2) rfl s2 fun r37 h3 s3=>?_
  have hrl:=(cr (j:=0) s3 rfl).1
  have hol:=Hist.placesFrom_len (fun e=>decide (e.fBegin ≤ a) && (e.fEffect == 0 || decide (e.fEffect > a))) es 0
  have hol':(Hist.over es a).length ≤ es.length:=hol
  refine Lp.intro (fun (y:Sl × Int) h=>∃ n:Nat,y.2 = n∧n ≤ (Hist.over es a).length∧aO [vI r37 (Hist.over es a),vG y.1 ((PK.pte k env pg).1::Judge.othersFrom k es env pg ((Hist.over es a).take n)),blk jb dn (jc s z pk),vE s es,bE pk k] h) (fun (y:Sl × Int) _=>(Hist.over es a).length - y.2.toNat) ⟨0,rfl,Nat.zero_le _,s3⟩ ?_
  rintro ⟨y,i⟩ h ⟨n,rfl,hn,s4⟩
  unfold kD
  refine bi (fun d=>?_) (fun d=>?_)
  · have hlt:n < (Hist.over es a).length:=by rw [hrl] at d; have:=of_decide_eq_true d; simp at this; exact this
    have hw:IntKind.i64.wrap ((n:Int) + 1) = ((n + 1:Nat):Int):=by rw [cj (by omega) (by omega)]; rfl
    have ht:(Hist.over es a).take (n + 1) = (Hist.over es a).take n++[(Hist.over es a)[n]]:=by simp
    have hin:=Hist.places_in (List.getElem_mem hlt)
    have hes:=(cr (j:=3) s4 rfl).1
    obtain ⟨m,hm⟩:=Int.eq_ofNat_of_zero_le hin.1
    have hml:m < es.length:=by omega
    have hev:Judge.ev es (Hist.over es a)[n] = es[m]:=by rw [hm,Judge.ev_nat hml]
    have happ:=Judge.othersFrom_app k es env pg (Hist.over es a)[n] ((Hist.over es a).take n)
    rw [hev] at happ
    have hfl:=Judge.othersFrom_len k es env pg ((Hist.over es a).take n)
    simp at hfl
    refine dF s4 (j:=0) rfl (by omega) (by show (n:Int) < _; omega) fun q hq=>?_
    refine eC (j:=0) (i:=n) (k:=0) (Hist.over es a)[n] (di _) s4 rfl hq (by simp) (aN hlt) (by simp) ?_
    rw [hm]
    refine bA s s4 (i:=2) rfl rfl rfl ?_
    refine dF s4 (j:=3) rfl (by omega) (by omega) fun q2 hq2=>?_
    refine eC (j:=3) (i:=m) (k:=0) es[m] nl s4 rfl hq2 rfl (aN hml) (by simp) ?_
    have j1:∀ b,b = Judge.takes es[m]→dT env pg (jb,0) (fun s' h'=>(∃ n:Nat,s'.2 = n∧n ≤ (Hist.over es a).length∧aO [vI r37 (Hist.over es a),vG s'.1 ((PK.pte k env pg).1::Judge.othersFrom k es env pg ((Hist.over es a).take n)),blk jb dn (jc s z pk),vE s es,bE pk k] h')∧(Hist.over es a).length - s'.2.toNat < (Hist.over es a).length - (n:Int).toNat) (y,(n:Int)) es[m] b h:=by
      intro b hb2
      unfold dT
      rw [hb2,hw]
      refine bi (fun d2=>?_) (fun d2=>?_)
      · refine bA pk s4 (i:=2) rfl rfl rfl ?_
        refine cl_n (uA pk k) (i:=4) rfl s4 fun r66 h5 s5=>?_
        refine ce (jJ r66 k es[m].fEnv es[m].fCall) (i:=0) rfl s5 fun r h6 hr s6=>?_
        refine ce (rJ r66 _ env pg) (i:=0) rfl s6 fun r h7 hr s7=>?_
        subst hr
        refine ku (τ:=Pte) (i:=2) (enc:=ar.C) (val:=fun x=>.agg x.C.toArray) el_Sapi_Pte ji pte_one (fun _=>rfl) (by omega) rfl rfl s7 rfl (by simp; omega) (by simp; omega) fun v h8 s8=>?_
        refine ⟨⟨n + 1,rfl,hlt,?_⟩,by simp; omega⟩
        rw [ht,happ,if_pos d2]
        exact co (l:=[bE r66 _]) s8
      · refine ⟨⟨n + 1,rfl,hlt,?_⟩,by simp; omega⟩
        rw [ht,happ,if_neg (by rw [d2]; exact Bool.false_ne_true),List.append_nil]
        exact s4
    refine bi (fun c=>j1 _ (by unfold Judge.takes; rw [c]; rfl)) (fun c=>?_)
    refine bi (fun c2=>j1 _ (by unfold Judge.takes; rw [c,c2]; rfl)) (fun c2=>?_)
    refine bi (fun c3=>j1 _ (by unfold Judge.takes; rw [c,c2,c3]; rfl)) (fun c3=>j1 _ (by unfold Judge.takes; rw [c,c2,c3]; rfl))
  · have:n = (Hist.over es a).length:=by rw [hrl] at d; have:=of_decide_eq_false d; simp at this; omega
    subst this
    rw [List.take_length] at s4
    exact co (l:=[vI r37 (Hist.over es a)]) s4
theorem any_snoc {α:Type} (f:α→Bool) (l:List α) (x:α):(l++[x]).any f = (l.any f || f x):=by simp
theorem sp_judge_access (jb:Nat) (s:Sl) (z:kR) (pk:Ptr) (es:List cn) (k:PK) (e:cn) (hb:es.length < 2 ^ 38) :
    Sp Tryz.prog lu [pv (some (jb,0)),.agg e.C.toArray] aG [blk jb dn (jc s z pk),vE s es,bE pk k] (fun r=>pa_ (r = Judge.access k es z e) [blk jb dn (jc s z pk),vE s es,bE pk k]):=by
  intro h s0
  refine wx _ _ ?_
  unfold pu
  refine cK (bA z.fEnvs s0 (i:=0) rfl rfl rfl ?_)
  refine iU (iZ e.fCall z.fEnvs) s0 fun r h1 hr s1=>?_
  subst hr
  refine bi (fun d=>?_) (fun d=>?_)
  · exact bg (by unfold Judge.access; rw [if_pos (by simpa using d)]) s1
  · have d':¬ Word.check e.fCall z.fEnvs ≠ 0:=by simpa using d
    refine cR [0,0,0] (sp_judge_others jb s z pk es k e.fEffect e.fEnv (IntKind.i64.wrap e.fCall.e1) hb) s1 rfl fun r50 h2 s2=>?_
    have s3:=dJ s2
    have hrl:=(cr (j:=0) s3 rfl).1
    have hol':(Hist.over es e.fEffect).length ≤ es.length:=Hist.placesFrom_len _ es 0
    have hfl:=Judge.othersFrom_len k es e.fEnv (IntKind.i64.wrap e.fCall.e1) (Hist.over es e.fEffect)
    have hll:(Judge.others k es e.fEffect e.fEnv (IntKind.i64.wrap e.fCall.e1)).length < 2 ^ 39:=by unfold Judge.others; simp; omega
    generalize hL:Judge.others k es e.fEffect e.fEnv (IntKind.i64.wrap e.fCall.e1) = L at *
    refine Lp.intro (fun (y:Bool × Bool × Int) h=>∃ n:Nat,y.2.2 = n∧n ≤ L.length∧y.1 = Judge.faults e (L.take n)∧y.2.1 = Judge.goes e (L.take n)∧aO [vG r50 L,blk jb dn (jc s z pk),vE s es,bE pk k] h) (fun (y:Bool × Bool × Int) _=>L.length - y.2.2.toNat) ⟨0,rfl,Nat.zero_le _,rfl,rfl,s3⟩ ?_
    rintro ⟨f,g,i⟩ h ⟨n,rfl,hn,hf,hg,s4⟩
    simp only at hf hg
    unfold kE
    refine bi (fun d2=>?_) (fun d2=>?_)
    · have hlt:n < L.length:=by rw [hrl] at d2; have:=of_decide_eq_true d2; simp at this; exact this
      have hw:IntKind.i64.wrap ((n:Int) + 1) = ((n + 1:Nat):Int):=by rw [cj (by omega) (by omega)]; rfl
      have ht:L.take (n + 1) = L.take n++[L[n]]:=by simp
      refine dF s4 (j:=0) rfl (by show (0:Int) ≤ n; omega) (by show (n:Int) < _; omega) fun q hq=>?_
      refine eC (j:=0) (i:=n) (k:=0) L[n] ji s4 rfl hq rfl (aN hlt) (by simp) ?_
      rw [hw]
      refine ⟨⟨n + 1,rfl,hlt,?_,?_,s4⟩,by simp; omega⟩
      · unfold Judge.faults; rw [ht,any_snoc]; show (f || _) = _; rw [hf]; rfl
      · unfold Judge.goes; rw [ht,any_snoc]; show (g || _) = _; rw [hg]; rfl
    · have:n = L.length:=by rw [hrl] at d2; have:=of_decide_eq_false d2; simp at this; omega
      subst this
      rw [List.take_length] at hf hg
      have s5:=co (l:=[vG r50 L]) s4
      refine bi (fun d3=>?_) (fun d3=>?_)
      · refine bg ?_ s5
        unfold Judge.access
        rw [if_neg d',if_pos (by simpa using d3),hL,← hf]
      · refine bA pk s4 (i:=1) rfl rfl rfl ?_
        refine cl_n (uA pk k) (i:=2) rfl s5 fun r104 h6 s6=>?_
        refine ce (nV r104 k e.fLine.fFrame e.fCall) (i:=0) rfl s6 fun r h7 hr s7=>?_
        subst hr
        refine bg ?_ (co (l:=[bE r104 _]) s7)
        unfold Judge.access
        rw [if_neg d',if_neg (by simpa using d3),hL,← hg]
        rfl
theorem sp_judge_well (jb:Nat) (s:Sl) (z:kR) (pk:Ptr) (e:cn) :
    Sp Tryz.prog ng [pv (some (jb,0)),.agg e.C.toArray] aG [blk jb dn (jc s z pk)] (fun r=>pa_ (r = Judge.well z e) [blk jb dn (jc s z pk)]):=by
  intro h s0
  refine sim_judge_judge_well _ _ ?_
  unfold ry
  refine bi (fun d=>?_) (fun d=>?_)
  · refine cK (bA z.fEnvs s0 (i:=0) rfl rfl rfl ?_)
    refine iU (iZ e.fCall z.fEnvs) s0 fun r h1 hr s1=>?_
    subst hr
    refine bi (fun d2=>?_) (fun d2=>?_)
    · exact bg (by unfold Judge.well; rw [d,d2]; rfl) s1
    · exact bg (by unfold Judge.well; rw [d,d2]; rfl) s1
  · exact bg (by unfold Judge.well; rw [d]; rfl) s0
abbrev OrdOk (s:Sl) (es:List cn):Prop:=Sp Tryz.prog oJ [sv s] cz [vE s es] (fun r=>aO [vI r (Hist.order es),vE s es])
theorem order_in {es:List cn} {x:Int} (h:x ∈ Hist.order es):0 ≤ x∧x < es.length:=Hist.places_in ((Hist.isort_perm _ _).subset h)
theorem order_len (es:List cn):(Hist.order es).length ≤ es.length:=by
  have h1:=(Hist.isort_perm (Hist.eff es) (Hist.effs es)).length_eq
  have h2:=Hist.placesFrom_len (fun e=>decide (e.fEffect > 0)) es 0
  unfold Hist.order; rw [h1]; exact h2
theorem sp_judge_run (s:Sl) (es:List cn) (z:kR) (lin acc:Bool) (hz:PK.sized z = true) (hb:es.length < 2 ^ 38) (ho:Hist.Apart es→OrdOk s es) :
    Sp Tryz.prog ul [sv s,.agg z.C.toArray,.bool lin,.bool acc] bU [vE s es] (fun r=>pa_ (r = Judge.run es z lin acc) [vE s es]):=by
  intro h s0
  refine sim_judge_run _ _ _ _ ?_
  unfold sh_judge_run
  refine ce (sp_hist_May s es z hb) (i:=0) rfl s0 fun r h1 hr s1=>?_
  subst hr
  refine bi (fun d=>?_) (fun d=>?_)
  · exact bg (by unfold Judge.run; rw [if_neg (by simpa using d)]) s1
  · have d':Hist.may es z = true:=by simpa using d
    have er:Judge.run es z lin acc = Judge.runFrom es z lin acc (PK.new z) (Hist.order es):=if_pos d'
    rw [er]
    refine mb (rK z hz) s1 fun pk h2 s2=>?_
    refine oW s2 fun b25 h3 s3=>?_
    refine cl_n (ho (Hist.may_apart d')) (i:=2) rfl s3 fun r27 h4 s4=>?_
    have hol:=order_len es
    have hrl:=(cr (j:=0) s4 rfl).1
    refine Lp.intro (fun (i:Int) h=>∃ (n:Nat) (k:PK),i = n∧n ≤ (Hist.order es).length∧Judge.runFrom es z lin acc k ((Hist.order es).drop n) = Judge.runFrom es z lin acc (PK.new z) (Hist.order es)∧aO [vI r27 (Hist.order es),blk b25 dn (jc s z pk),bE pk k,vE s es] h) (fun (i:Int) _=>(Hist.order es).length - i.toNat) ⟨0,_,rfl,Nat.zero_le _,rfl,s4⟩ ?_
    rintro i h ⟨n,k,rfl,hn,he,s5⟩
    have fin:∀ h,aO [vI r27 (Hist.order es),blk b25 dn (jc s z pk),bE pk k,vE s es] h→aO [vE s es] h:=fun h s=>co (l:=[_,_,_]) s
    unfold wS
    refine bi (fun d2=>?_) (fun d2=>?_)
    · have hlt:n < (Hist.order es).length:=by rw [hrl] at d2; simpa using d2
      have hw:IntKind.i64.wrap ((n:Int) + 1) = ((n + 1:Nat):Int):=by rw [cj (by omega) (by omega)]; rfl
      have hin:=order_in (List.getElem_mem hlt)
      have hes:=(cr (j:=3) s5 rfl).1
      obtain ⟨m,hm⟩:=Int.eq_ofNat_of_zero_le hin.1
      have hml:m < es.length:=by omega
      have hev:Judge.ev es (Hist.order es)[n] = es[m]:=by rw [hm,Judge.ev_nat hml]
      rw [List.drop_eq_getElem_cons hlt,Judge.runFrom,hev] at he
      refine dF s5 (j:=0) rfl (by omega) (by omega) fun q hq=>?_
      refine eC (j:=0) (i:=n) (k:=0) (Hist.order es)[n] (di _) s5 rfl hq (by simp) (aN hlt) (by simp) ?_
      rw [hm]
      refine dF s5 (j:=3) rfl (by omega) (by omega) fun q2 hq2=>?_
      refine eC (j:=3) (i:=m) (k:=0) es[m] nl s5 rfl hq2 rfl (aN hml) (by simp) ?_
      have hmi:((m:Int),false) = ((Hist.order es)[n],false):=by rw [hm]
      refine bi (fun d3=>?_) (fun d3=>?_)
      · rw [if_pos d3] at he
        have j1:∀ h,(acc = true∧Judge.access k es z es[m] = false) = False→aO [vI r27 (Hist.order es),blk b25 dn (jc s z pk),bE pk k,vE s es] h→rS b25 (fun s' h'=>(∃ (n:Nat) (k:PK),s' = n∧n ≤ (Hist.order es).length∧Judge.runFrom es z lin acc k ((Hist.order es).drop n) = Judge.runFrom es z lin acc (PK.new z) (Hist.order es)∧aO [vI r27 (Hist.order es),blk b25 dn (jc s z pk),bE pk k,vE s es] h')∧(Hist.order es).length - s'.toNat < (Hist.order es).length - (n:Int).toNat) (n:Int) es[m] () h:=by
          intro h hno s6
          rw [if_neg (by rw [hno]; exact not_false)] at he
          unfold rS
          refine ce (sp_judge_well b25 s z pk es[m]) (i:=1) rfl s6 fun r h7 hr s7=>?_
          subst hr
          rw [hw]
          refine bi (fun d4=>?_) (fun d4=>?_)
          · rw [if_pos d4] at he
            refine bA pk s7 (i:=1) rfl rfl rfl ?_
            refine ce (nV pk k es[m].fLine.fFrame es[m].fCall) (i:=2) rfl s7 fun r h8 hr s8=>?_
            exact ⟨⟨n + 1,_,rfl,hlt,he,s8⟩,by simp; omega⟩
          · rw [if_neg (by rw [d4]; exact Bool.false_ne_true)] at he
            exact ⟨⟨n + 1,_,rfl,hlt,he,s7⟩,by simp; omega⟩
        unfold rR
        refine bi (fun d4=>?_) (fun d4=>?_)
        · refine cR [1,2,1] (sp_judge_access b25 s z pk es k es[m] hb) s5 rfl fun r h6 s6=>?_
          obtain ⟨hr,s7⟩:=bD.1 s6
          subst hr
          have s8:aO [vI r27 (Hist.order es),blk b25 dn (jc s z pk),bE pk k,vE s es] h6:=bn [3,0,1] s7 rfl
          refine bi (fun d5=>?_) (fun d5=>?_)
          · rw [if_pos ⟨d4,by simpa using d5⟩] at he
            exact bg (by rw [← he,hm]) (fin _ s8)
          · exact j1 h6 (by simp; intro _; simpa using d5) s8
        · refine dH rfl ?_
          exact j1 h (by rw [d4]; simp) s5
      · rw [if_neg (by rw [d3]; exact Bool.false_ne_true)] at he
        refine bA pk s5 (i:=1) rfl rfl rfl ?_
        refine ce (jJ pk k es[m].fEnv es[m].fCall) (i:=2) rfl s5 fun r h6 hr s6=>?_
        subst hr
        refine bi (fun d4=>?_) (fun d4=>?_)
        · have d4':lin = true∧((PK.do_ k es[m].fEnv es[m].fCall).1.2 = false∨al.eqb (PK.do_ k es[m].fEnv es[m].fCall).1.1 es[m].fAnswer = false):=by simpa using d4
          rw [if_pos d4'] at he
          exact bg (by rw [← he,hm]) (co (l:=[_,_,_]) s6)
        · have d4':¬ (lin = true∧((PK.do_ k es[m].fEnv es[m].fCall).1.2 = false∨al.eqb (PK.do_ k es[m].fEnv es[m].fCall).1.1 es[m].fAnswer = false)):=by simpa using d4
          rw [if_neg d4'] at he
          rw [hw]
          exact ⟨⟨n + 1,_,rfl,hlt,he,s6⟩,by simp; omega⟩
    · have:n = (Hist.order es).length:=by rw [hrl] at d2; simp at d2; omega
      subst this
      rw [List.drop_length] at he
      exact bg he (fin h s5)
section
variable (s:Sl) (es:List cn) (z:kR) (hz:PK.sized z = true) (hb:es.length < 2 ^ 38) (ho:Hist.Apart es→OrdOk s es)
include hz hb ho
theorem qQ:Sp Tryz.prog lv [sv s,.agg z.C.toArray] bU [vE s es] (fun r=>pa_ (r = Judge.linear es z) [vE s es]):=by
  intro h s0
  refine sim_judge_Linear _ _ ?_
  unfold sh_judge_Linear
  exact ce (sp_judge_run s es z true false hz hb ho) (i:=0) rfl s0 fun r h1 hr s1=>bg hr s1
theorem sp_judge_Access:Sp Tryz.prog oI [sv s,.agg z.C.toArray] bU [vE s es] (fun r=>pa_ (r = Judge.accesses es z) [vE s es]):=by
  intro h s0
  refine sim_judge_Access _ _ ?_
  unfold sh_judge_Access
  exact ce (sp_judge_run s es z false true hz hb ho) (i:=0) rfl s0 fun r h1 hr s1=>bg hr s1
theorem sp_judge_Right:Sp Tryz.prog uH [sv s,.agg z.C.toArray] aG [vE s es] (fun r=>pa_ (r = Judge.right es z) [vE s es]):=by
  intro h s0
  refine sim_judge_Right _ _ ?_
  unfold sh_judge_Right
  refine ce (qQ s es z hz hb ho) (i:=0) rfl s0 fun r h1 hr s1=>?_
  subst hr
  exact ce (sp_judge_Access s es z hz hb ho) (i:=0) rfl s1 fun r h2 hr s2=>bg (by rw [hr]; rfl) s2
end
end Go.Proofs.YtniiiakkdoiaiaaGreatDoor
namespace Go.Proofs.YtniiiakkdoiaiaaGreatDoor
open Go Mb
set_option linter.unusedVariables false
def tu (a0:Int) (Rec17:(Sl × Int)→Hp→Prop) (s16:Sl × Int) (x32:Int) (Rec26:(Sl × Int)→Hp→Prop) (s25:Sl × Int):Hp→Prop:=br (decide (s25.2 < a0)) ( hpv Tryz.prog (Instr.buildSlice nu 1 #[(0,(.agg (dB.C (⟨x32,s25.2,0,(⟨0,0,0,0,0⟩:ap),0,0⟩:dB)).toArray))]) lF fun (v41:Sl)=>hpv Tryz.prog (Builtin.append_ #[nu,nu] nu #[(sv s25.1),(sv v41)]) lF fun (v42:Sl)=>Rec26 (v42,(IntKind.i64.wrap (s25.2 + 1)))) ( Rec17 (s25.1,(IntKind.i64.wrap (s16.2 + 1))))
def tv (a0:Int) (Rec11:(Sl × Int)→Hp→Prop) (s10:Sl × Int) (v27:Sl) (Rec17:(Sl × Int)→Hp→Prop) (s16:Sl × Int):Hp→Prop:=br (decide (s16.2 < (v27.len:Int))) ( ix v27 s16.2 fun q31=>ld (q31.1,q31.2 + Int.toNat s16.2 * 1) (cI .i64) fun x32=>Lp (tu a0 Rec17 s16 x32) (s16.1,0)) ( Rec11 (s16.1,(IntKind.i64.wrap (s10.2 + 1))))
def tw (a0:Int) (a1:Int) (K:Sl→Hp→Prop) (Rec11:(Sl × Int)→Hp→Prop) (s10:Sl × Int):Hp→Prop:=br (decide (s10.2 < a1)) ( hpv Tryz.prog (Instr.buildSlice dN 2 #[(0,(.int .i64 3)),(1,(.int .i64 2))]) cz fun (v27:Sl)=>Lp (tv a0 Rec11 s10 v27) (s10.1,0)) ( K s10.1)
def sh_fair_Rounds (a0:Int) (a1:Int) (K:Sl→Hp→Prop):Hp→Prop:=br ((((decide (a0 < 1)) || (decide (a0 > 8))) || (decide (a1 < 0))) || (decide (a1 > 500))) ( K (⟨none,0,0,none⟩:Sl)) ( hpv Tryz.prog (Instr.buildSlice nu 0 #[]) lF fun (v23:Sl)=>Lp (tw a0 a1 K) (v23,0))
set_option maxRecDepth 20000 in
theorem sim_fair_Rounds (a0:Int) (a1:Int) {K:Sl→Hp→Prop} {h:Hp} (H:sh_fair_Rounds a0 a1 K h):Ct Tryz.prog qg #[(.int .i64 a0),(.int .i64 a1)] h fun v h'=>∃ r,v = lF r∧K r h':=aA [(.int .i64 a0),(.int .i64 a1)] Tryz.func11 rfl rfl rfl fun _=>ag<|ab<|aa (ae rfl) rfl<|ad<|ag<|ag<|ab<|aa (ac rfl) rfl<|aa (cH rfl rfl) rfl<|aa (ac rfl) rfl<|ak rfl rfl rfl (aX _) (fun g1=>wv (ac rfl)) rfl<|ak rfl rfl rfl (aX _) (fun g2=>wv (qo (aK rfl g2) rfl)) rfl<|aa (dD rfl rfl) rfl<|aa (ac rfl) rfl<|ak rfl rfl rfl (aX _) (fun g3=>wv (ac rfl)) rfl<|ak rfl rfl rfl (aX _) (fun g4=>wv (cH (aK rfl g4) rfl)) rfl<|aa (dD rfl rfl) rfl<|aa (ac rfl) rfl<|ak rfl rfl rfl (aX _) (fun g5=>wv (ac rfl)) rfl<|ak rfl rfl rfl (aX _) (fun g6=>wv (qo (aK rfl g6) rfl)) rfl<|aa (dD rfl rfl) rfl<|ad<|aE rfl H (fun k7 H8=>ag<|ab<|aa (ae rfl) rfl<|ad<|ao<|aw (ay rfl (aD rfl)) ⟨(⟨none,0,0,none⟩:Sl),rfl,H8⟩) (fun k7 H8=>av<|ag<|ab<|aj (be H8 (bF (vs:=[]) rfl) rfl fun v23 _ H9=>aa (ae rfl) rfl<|ad<|ag<|ag<|ab<|aa (ac rfl) rfl<|aa (ac rfl) rfl<|ad<|aH<|bR (step:=tw a0 a1 K) (fun s10=>[(0,(.int .i64 a0)),(5,(sv s10.1)),(24,(.int .i64 a1)),(25,(.int .i64 s10.2))]) (fun s10=>[]) H9 (.cons rfl (.cons rfl (.cons rfl (.cons rfl (.nil _))))) .slnil (fun Rec11 s10 _ H12=>ag<|ab<|aa (cH rfl rfl) rfl<|ad<|ag<|aE rfl H12 (fun k13 H14=>av<|ag<|aH<|ag<|ab<|aj (be H14 (bF (vs:=[(.int .i64 3),(.int .i64 2)]) rfl) rfl fun v27 _ H15=>aa (dl rfl Tryz.underlying41 rfl) rfl<|aa (ac rfl) rfl<|ad<|aH<|bR (step:=tv a0 Rec11 s10 v27) (fun s16=>[(0,(.int .i64 a0)),(5,(sv s16.1)),(24,(.int .i64 a1)),(25,(.int .i64 s10.2)),(27,(sv v27)),(28,(.int .i64 (v27.len:Int))),(29,(.int .i64 s16.2))]) (fun s16=>[]) H15 (.cons rfl (.cons rfl (.cons rfl (.cons rfl (.cons rfl (.cons rfl (.cons rfl (.nil _)))))))) .slnil (fun Rec17 s16 _ H18=>ag<|ab<|aa (cH rfl rfl) rfl<|ad<|ag<|aE rfl H18 (fun k19 H20=>av<|ag<|aH<|ag<|ab<|cx H20 fun q31 e21 h22 H23=>aa (bC iq (aV rfl (bm e21)) rfl h22) rfl<|aj (bd H23 bk rfl (fun _=>rfl) rfl fun x32 H24=>aa (ae rfl) rfl<|ad<|ag<|ab<|aa (ac rfl) rfl<|aa (ac rfl) rfl<|ad<|aH<|bR (step:=tu a0 Rec17 s16 x32) (fun s25=>[(0,(.int .i64 a0)),(5,(sv s25.1)),(7,(.int .i64 x32)),(24,(.int .i64 a1)),(25,(.int .i64 s10.2)),(27,(sv v27)),(28,(.int .i64 (v27.len:Int))),(29,(.int .i64 s16.2)),(33,(.int .i64 a0)),(34,(.int .i64 s25.2))]) (fun s25=>[]) H24 (.cons rfl (.cons rfl (.cons rfl (.cons rfl (.cons rfl (.cons rfl (.cons rfl (.cons rfl (.cons rfl (.cons rfl (.nil _))))))))))) .slnil (fun Rec26 s25 _ H27=>ag<|ab<|aa (cH rfl rfl) rfl<|ad<|ag<|aE rfl H27 (fun k28 H29=>av<|ag<|aH<|ag<|ab<|aa (ac rfl) rfl<|aa (ae rfl) rfl<|ad<|ab<|aa (ac rfl) rfl<|aa (ac rfl) rfl<|aa (ac rfl) rfl<|aa (bj rfl (build_29_0_1 x32 s25.2)) rfl<|aj (be H29 (bF (vs:=[(.agg (dB.C (⟨x32,s25.2,0,(⟨0,0,0,0,0⟩:ap),0,0⟩:dB)).toArray)]) rfl) rfl fun v41 _ H30=>aj (be H30 (dM rfl rfl) rfl fun v42 _ H31=>aa (ae rfl) rfl<|ad<|ab<|aa (bK rfl rfl) rfl<|aa (ac rfl) rfl<|ad<|cU (v42,(IntKind.i64.wrap (s25.2 + 1))) H31 (.cons rfl (.cons rfl (.cons rfl (.cons rfl (.cons rfl (.cons rfl (.cons rfl (.cons rfl (.cons rfl (.cons rfl (.nil _))))))))))) .slnil))) (fun k28 H29=>bz<|ab<|aa (bK rfl rfl) rfl<|aa (ac rfl) rfl<|ad<|cU (s25.1,(IntKind.i64.wrap (s16.2 + 1))) H29 (.cons rfl (.cons rfl (.cons rfl (.cons rfl (.cons rfl (.cons rfl (.cons rfl (.nil _)))))))) .slnil)))) (fun k19 H20=>bz<|ab<|aa (bK rfl rfl) rfl<|aa (ac rfl) rfl<|ad<|cU (s16.1,(IntKind.i64.wrap (s10.2 + 1))) H20 (.cons rfl (.cons rfl (.cons rfl (.cons rfl (.nil _))))) .slnil)))) (fun k13 H14=>bz<|ag<|ab<|aa (ac rfl) rfl<|aa (ae rfl) rfl<|ad<|ao<|aw (ay rfl (aD rfl)) ⟨s10.1,rfl,H14⟩))))
def re (a0:Sl) (a1:Int) (a2:Int) (K:Int→Hp→Prop) (Rec2:(Int × Int × Int)→Hp→Prop) (s1:Int × Int × Int):Hp→Prop:=br (decide (s1.2.2 < (a0.len:Int))) ( ix a0 s1.2.2 fun q15=>ld (q15.1,q15.2 + Int.toNat s1.2.2 * 10) dB.C fun x16=>br ((x16.fKind == a1) && (x16.fCore == a2)) ( Rec2 ((mx s1.1 0),0,(IntKind.i64.wrap (s1.2.2 + 1)))) ( Rec2 ((mx s1.1 (IntKind.i64.wrap (s1.2.1 + 1))),(IntKind.i64.wrap (s1.2.1 + 1)),(IntKind.i64.wrap (s1.2.2 + 1))))) ( K s1.1)
def sh_fair_Longest (a0:Sl) (a1:Int) (a2:Int) (K:Int→Hp→Prop):Hp→Prop:=Lp (re a0 a1 a2 K) (0,0,0)
set_option maxRecDepth 20000 in
theorem sim_fair_Longest (a0:Sl) (a1:Int) (a2:Int) {K:Int→Hp→Prop} {h:Hp} (H:sh_fair_Longest a0 a1 a2 K h):Ct Tryz.prog oK #[(sv a0),(.int .i64 a1),(.int .i64 a2)] h fun v h'=>∃ r,v = dQ r∧K r h':=aA [(sv a0),(.int .i64 a1),(.int .i64 a2)] Tryz.func13 rfl rfl rfl fun _=>ag<|ab<|aa (ae rfl) rfl<|ad<|ag<|ab<|aa (ae rfl) rfl<|aa (ae rfl) rfl<|ad<|ag<|ag<|ab<|aa (ac rfl) rfl<|aa (dl rfl Tryz.underlying23 rfl) rfl<|aa (ac rfl) rfl<|ad<|aH<|bR (step:=re a0 a1 a2 K) (fun s1=>[(1,(.int .i64 a1)),(2,(.int .i64 a2)),(7,(.int .i64 s1.1)),(8,(.int .i64 s1.2.1)),(11,(sv a0)),(12,(.int .i64 (a0.len:Int))),(13,(.int .i64 s1.2.2))]) (fun s1=>[]) H (.cons rfl (.cons rfl (.cons rfl (.cons rfl (.cons rfl (.cons rfl (.cons rfl (.nil _)))))))) .slnil (fun Rec2 s1 _ H3=>ag<|ab<|aa (cH rfl rfl) rfl<|ad<|ag<|aE rfl H3 (fun k4 H5=>av<|ag<|aH<|ag<|ab<|cx H5 fun q15 e6 h7 H8=>aa (bC slc_23 (aV rfl (bm e6)) rfl h7) rfl<|aj (hH H8 ag_29 rfl (fun _=>rfl) rfl fun x16 H9=>aj (aW (l:=(dB.C (⟨0,0,0,(⟨0,0,0,0,0⟩:ap),0,0⟩:dB))) zero_29 rfl rfl fun b10=>aj (bb (k:=0) (vs:=(dB.C x16)) inf_29 rfl rfl rfl rfl rfl rfl rfl<|ad<|ag<|ab<|aa (ac rfl) rfl<|aa (bK rfl rfl) rfl<|aa (ae rfl) rfl<|ad<|ag<|ag<|ab<|aa (am fld_29_0 rfl) rfl<|bw (bt (k:=0) bk rfl rfl rfl) rfl<|aa (ac rfl) rfl<|aa (bV rfl rfl) rfl<|aa (ac rfl) rfl<|ak rfl rfl rfl (aB _) (fun g10=>wv (am fld_29_1 rfl)) rfl<|ak rfl rfl rfl (aB _) (fun g11=>cv (bt (k:=0) bk (aK rfl g11) rfl rfl)) rfl<|ak rfl rfl rfl (aB _) (fun g12=>wv (ac rfl)) rfl<|ak rfl rfl rfl (aB _) (fun g13=>wv (bV (aK rfl g13) (aK rfl g13))) rfl<|aa (bX rfl rfl) rfl<|ad<|aE rfl H9 (fun k14 H15=>ab<|aa (ae rfl) rfl<|ad<|ab<|aa (ac rfl) rfl<|aa (ac rfl) rfl<|aa (v_maxT rfl rfl) rfl<|aa (ae rfl) rfl<|ad<|ab<|aa (bK rfl rfl) rfl<|aa (ac rfl) rfl<|ad<|cU ((mx s1.1 0),0,(IntKind.i64.wrap (s1.2.2 + 1))) H15 (.cons rfl (.cons rfl (.cons rfl (.cons rfl (.cons rfl (.cons rfl (.cons rfl (.nil _)))))))) (.cons _ .slnil)) (fun k14 H15=>av<|ab<|aa (ac rfl) rfl<|aa (ac rfl) rfl<|aa (v_maxT rfl rfl) rfl<|aa (ae rfl) rfl<|ad<|ab<|aa (bK rfl rfl) rfl<|aa (ac rfl) rfl<|ad<|cU ((mx s1.1 (IntKind.i64.wrap (s1.2.1 + 1))),(IntKind.i64.wrap (s1.2.1 + 1)),(IntKind.i64.wrap (s1.2.2 + 1))) H15 (.cons rfl (.cons rfl (.cons rfl (.cons rfl (.cons rfl (.cons rfl (.cons rfl (.nil _)))))))) (.cons _ .slnil)))))) (fun k4 H5=>bz<|ag<|ab<|aa (ac rfl) rfl<|aa (ae rfl) rfl<|ad<|ao<|aw (ay rfl (aD rfl)) ⟨s1.1,rfl,H5⟩))
def wX (a0:Sl) (a1:Int) (a2:Int) (K:Bool→Hp→Prop) (Rec2:Int→Hp→Prop) (s1:Int):Hp→Prop:=br (decide (s1 < a1)) ( cl Tryz.prog oK [(sv a0),(.int .i64 2),(.int .i64 s1)] dQ fun r14=>br (!(decide (r14 ≥ a2))) ( cl Tryz.prog oK [(sv a0),(.int .i64 3),(.int .i64 s1)] dQ fun r20=>br (decide (r20 ≥ a2)) ( K false) ( Rec2 (IntKind.i64.wrap (s1 + 1)))) ( K false)) ( K true)
def sh_fair_Fair (a0:Sl) (a1:Int) (a2:Int) (K:Bool→Hp→Prop):Hp→Prop:=Lp (wX a0 a1 a2 K) 0
set_option maxRecDepth 20000 in
theorem sim_fair_Fair (a0:Sl) (a1:Int) (a2:Int) {K:Bool→Hp→Prop} {h:Hp} (H:sh_fair_Fair a0 a1 a2 K h):Ct Tryz.prog n_fair_Fair #[(sv a0),(.int .i64 a1),(.int .i64 a2)] h fun v h'=>∃ r,v = aG r∧K r h':=aA [(sv a0),(.int .i64 a1),(.int .i64 a2)] Tryz.func12 rfl rfl rfl fun _=>ag<|ab<|aa (ae rfl) rfl<|ad<|ag<|ag<|ab<|aa (ac rfl) rfl<|aa (ac rfl) rfl<|ad<|aH<|bR (step:=wX a0 a1 a2 K) (fun s1=>[(0,(sv a0)),(2,(.int .i64 a2)),(8,(.int .i64 a1)),(9,(.int .i64 s1))]) (fun s1=>[]) H (.cons rfl (.cons rfl (.cons rfl (.cons rfl (.nil _))))) .slnil (fun Rec2 s1 _ H3=>ag<|ab<|aa (cH rfl rfl) rfl<|ad<|ag<|aE rfl H3 (fun k4 H5=>av<|ag<|aH<|ag<|ab<|aa (ac rfl) rfl<|aa (ae rfl) rfl<|ad<|ag<|ab<|aa (ac rfl) rfl<|aa (ac rfl) rfl<|aj (az H5 en_13 rfl rfl fun r14 _ H6=>aa (ac rfl) rfl<|aa (jH rfl rfl) rfl<|aa (ac rfl) rfl<|ak rfl rfl rfl (aX _) (fun g7=>wv (ac rfl)) rfl<|ak rfl rfl rfl (aX _) (fun g8=>wv (ac rfl)) rfl<|bO H6 (fun k10 H11=>aF rfl rfl rfl (congrArg Value.bool (cf k10)) (az H11 en_13 (aT (aK rfl k10) (aT rfl (aT (aK rfl k10) bM))) rfl fun r20 _ H12=>aF rfl rfl rfl (congrArg Value.bool (cf k10)) (aJ (wv (ac rfl)) rfl<|aF rfl rfl rfl (congrArg Value.bool (cf k10)) (aJ (wv (jH rfl rfl)) rfl<|aa (an rfl (cf k10) rfl) rfl<|ad<|aE rfl H12 (fun k13 H14=>ag<|ab<|aa (ae rfl) rfl<|ad<|ao<|aw (ay rfl (aD rfl)) ⟨false,rfl,H14⟩) (fun k13 H14=>av<|ab<|aa (bK rfl rfl) rfl<|aa (ac rfl) rfl<|ad<|cU (IntKind.i64.wrap (s1 + 1)) H14 (.cons rfl (.cons rfl (.cons rfl (.cons rfl (.nil _))))) .slnil))))) (fun k10 H11=>ah rfl rfl rfl (cc (bH k10)) rfl<|ah rfl rfl rfl (cc (bH k10)) rfl<|ah rfl rfl rfl (cc (bH k10)) rfl<|aa (ba rfl (bH k10) rfl) rfl<|ad<|lz rfl rfl<|ag<|ab<|aa (ae rfl) rfl<|ad<|ao<|aw (ay rfl (aD rfl)) ⟨false,rfl,H11⟩))) (fun k4 H5=>bz<|ag<|ab<|aa (ae rfl) rfl<|ad<|ao<|aw (ay rfl (aD rfl)) ⟨true,rfl,H5⟩))
end Go.Proofs.YtniiiakkdoiaiaaGreatDoor
namespace Go.Proofs.YtniiiakkdoiaiaaGreatDoor
open Go Mb
abbrev Pick:=dB
abbrev vK (s:Sl) (xs:List Pick):As:=vec t_api_Pick 10 dB.C s xs
theorem pick_len (p:Pick):p.C.length = 10:=rfl
theorem pick_one (p:Pick):dO p.C = true:=rfl
namespace Fair
def longFrom (kind core:Int):List Pick→Int→Int→Int
  | [],best,_=>best
  | p::ps,best,now=>if p.fKind = kind∧p.fCore = core then longFrom kind core ps (mx best 0) 0 else longFrom kind core ps (mx best (IntKind.i64.wrap (now + 1))) (IntKind.i64.wrap (now + 1))
def longest (ps:List Pick) (kind core:Int):Int:=longFrom kind core ps 0 0
def okCore (ps:List Pick) (b:Int) (c:Nat):Bool:=decide (longest ps 2 c < b) && decide (longest ps 3 c < b)
def fair (ps:List Pick) (cores b:Int):Bool:=(List.range cores.toNat).all (okCore ps b)
def pk (kind:Int) (c:Nat):Pick:=⟨kind,c,0,⟨0,0,0,0,0⟩,0,0⟩
def line (kind:Int) (c:Nat):List Pick:=(List.range c).map (pk kind)
def lines (c:Nat) (kinds:List Int):List Pick:=kinds.flatMap fun k=>line k c
def turns (c n:Nat):List Pick:=(List.range n).flatMap fun _=>lines c [3,2]
def rounds (cores n:Int):List Pick:=if cores < 1∨cores > 8∨n < 0∨n > 500 then [] else turns cores.toNat n.toNat
theorem line_len (kind:Int) (c:Nat):(line kind c).length = c:=by simp [line]
theorem line_succ (kind:Int) (c:Nat):line kind (c + 1) = line kind c++[pk kind c]:=by simp [line,List.range_succ]
theorem turns_succ (c n:Nat):turns c (n + 1) = turns c n++lines c [3,2]:=by simp [turns,List.range_succ]
theorem lines_len (c:Nat):∀ (ks:List Int),(lines c ks).length = ks.length * c
  | []=>by simp [lines]
  | k::ks=>by
    have:=lines_len c ks
    simp only [lines,List.flatMap_cons,List.length_append,line_len,List.length_cons,Nat.succ_mul] at this ⊢
    omega
theorem turns_len (c n:Nat):(turns c n).length = n * (2 * c):=by
  induction n with
  | zero=>simp [turns]
  | succ n ih=>rw [turns_succ,List.length_append,ih,lines_len,Nat.add_mul n 1,Nat.one_mul]; rfl
end Fair
theorem sp_fair_Longest (s:Sl) (ps:List Pick) (kind core:Int) (hb:ps.length < 2 ^ 40):Sp Tryz.prog oK [sv s,.int .i64 kind,.int .i64 core] dQ [vK s ps] (fun r=>pa_ (r = Fair.longest ps kind core) [vK s ps]):=by
  intro h s0
  have hl:=(cr (j:=0) s0 rfl).1
  refine sim_fair_Longest _ _ _ ?_
  unfold sh_fair_Longest
  refine Lp.intro (fun (z:Int × Int × Int) h=>∃ n:Nat,z.2.2 = n∧n ≤ ps.length∧Fair.longFrom kind core (ps.drop n) z.1 z.2.1 = Fair.longest ps kind core∧aO [vK s ps] h) (fun (z:Int × Int × Int) _=>ps.length - z.2.2.toNat) ⟨0,rfl,Nat.zero_le _,rfl,s0⟩ ?_
  rintro ⟨best,now,i⟩ h ⟨n,rfl,hn,he,s1⟩
  unfold re
  simp only at he ⊢
  refine bi (fun k=>?_) (fun k=>?_)
  · have hlt:n < ps.length:=by rw [hl] at k; simpa using k
    have hw:IntKind.i64.wrap ((n:Int) + 1) = ((n + 1:Nat):Int):=by rw [cj (by omega) (by omega)]; rfl
    rw [List.drop_eq_getElem_cons hlt,Fair.longFrom] at he
    refine dF s1 (j:=0) rfl (by omega) (by omega) fun q hq=>?_
    refine eC (j:=0) (i:=n) (k:=0) ps[n] pick_len s1 rfl hq rfl (aN hlt) (by simp) ?_
    rw [hw]
    refine bi (fun k2=>?_) (fun k2=>?_)
    · have k2':ps[n].fKind = kind∧ps[n].fCore = core:=by simpa using k2
      rw [if_pos k2'] at he
      exact ⟨⟨n + 1,rfl,hlt,he,s1⟩,by simp; omega⟩
    · have k2':¬ (ps[n].fKind = kind∧ps[n].fCore = core):=by simpa using k2
      rw [if_neg k2'] at he
      exact ⟨⟨n + 1,rfl,hlt,he,s1⟩,by simp; omega⟩
  · have:n = ps.length:=by rw [hl] at k; simp at k; omega
    subst this
    rw [List.drop_length] at he
    exact bg he s1
theorem sp_fair_Fair (s:Sl) (ps:List Pick) (cores b:Int) (hb:ps.length < 2 ^ 40) (hc:cores < 2 ^ 62):Sp Tryz.prog n_fair_Fair [sv s,.int .i64 cores,.int .i64 b] aG [vK s ps] (fun r=>pa_ (r = Fair.fair ps cores b) [vK s ps]):=by
  intro h s0
  refine sim_fair_Fair _ _ _ ?_
  unfold sh_fair_Fair
  refine Lp.intro (fun (i:Int) h=>∃ n:Nat,i = n∧n ≤ cores.toNat∧(∀ c,c < n→Fair.okCore ps b c = true)∧aO [vK s ps] h) (fun (i:Int) _=>cores.toNat - i.toNat) ⟨0,rfl,Nat.zero_le _,fun c hc=>by omega,s0⟩ ?_
  rintro i h ⟨n,rfl,hn,ho,s1⟩
  unfold wX
  refine bi (fun k=>?_) (fun k=>?_)
  · have hlt:n < cores.toNat:=by have:=of_decide_eq_true k; omega
    have hw:IntKind.i64.wrap ((n:Int) + 1) = ((n + 1:Nat):Int):=by rw [cj (by omega) (by omega)]; rfl
    have no:Fair.okCore ps b n = false→Fair.fair ps cores b = false:=fun hf=>by
      unfold Fair.fair
      cases ha:(List.range cores.toNat).all (Fair.okCore ps b) with
      | false=>rfl
      | true=>rw [List.all_eq_true.1 ha n (List.mem_range.2 hlt)] at hf; cases hf
    refine ce (sp_fair_Longest s ps 2 n hb) (i:=0) rfl s1 fun r h2 hr s2=>?_
    subst hr
    refine bi (fun k2=>?_) (fun k2=>?_)
    · have k2':Fair.longest ps 2 n < b:=by simpa using k2
      refine ce (sp_fair_Longest s ps 3 n hb) (i:=0) rfl s2 fun r h3 hr s3=>?_
      subst hr
      refine bi (fun k3=>?_) (fun k3=>?_)
      · have k3':¬ Fair.longest ps 3 n < b:=by simp at k3; omega
        exact bg (no (by simp [Fair.okCore,k3'])).symm s3
      · have k3':Fair.longest ps 3 n < b:=by simp at k3; omega
        rw [hw]
        refine ⟨⟨n + 1,rfl,hlt,fun c hc=>?_,s3⟩,by simp; omega⟩
        by_cases e:c = n
        · subst e; simp [Fair.okCore,k2',k3']
        · exact ho c (by omega)
    · have k2':¬ Fair.longest ps 2 n < b:=by simp at k2; omega
      exact bg (no (by simp [Fair.okCore,k2'])).symm s2
  · have:n = cores.toNat:=by have:=of_decide_eq_false k; omega
    subst this
    refine bg ?_ s1
    unfold Fair.fair
    exact (List.all_eq_true.2 fun c hc=>ho c (List.mem_range.1 hc)).symm
theorem sp_fair_Rounds (cores n:Int):Sp Tryz.prog qg [.int .i64 cores,.int .i64 n] lF [] (fun r=>aO [vK r (Fair.rounds cores n)]):=by
  intro h s0
  refine sim_fair_Rounds _ _ ?_
  unfold sh_fair_Rounds
  refine bi (fun k=>?_) (fun k=>?_)
  · have e1:Fair.rounds cores n = []:=if_pos (by simpa [or_assoc] using k)
    rw [e1]; exact eN s0
  · have k':¬ (cores < 1∨cores > 8∨n < 0∨n > 500):=by simp at k; omega
    have e1:Fair.rounds cores n = Fair.turns cores.toNat n.toNat:=if_neg k'
    rw [e1]
    obtain ⟨C,rfl⟩:=Int.eq_ofNat_of_zero_le (show 0 ≤ cores by omega)
    obtain ⟨N,rfl⟩:=Int.eq_ofNat_of_zero_le (show 0 ≤ n by omega)
    simp only [Int.toNat_natCast]
    refine fz (τ:=Pick) [] (val:=fun x=>.agg x.C.toArray) (enc:=dB.C) el_Sapi_Pick pick_len (fun _=>rfl) s0 rfl rfl (by simp) fun v h1 s1=>?_
    refine Lp.intro (fun (z:Sl × Int) h=>∃ j:Nat,z.2 = j∧j ≤ N∧aO [vK z.1 (Fair.turns C j)] h) (fun (z:Sl × Int) _=>N - z.2.toNat) ⟨0,rfl,Nat.zero_le _,s1⟩ ?_
    rintro ⟨z,i⟩ h ⟨j,rfl,hj,s2⟩
    unfold tw
    refine bi (fun k2=>?_) (fun k2=>?_)
    · have hlt:j < N:=by have:=of_decide_eq_true k2; simp at this; exact this
      have hw:IntKind.i64.wrap ((j:Int) + 1) = ((j + 1:Nat):Int):=by rw [cj (by omega) (by omega)]; rfl
      have htl:=Fair.turns_len C j
      have hC:C ≤ 8:=by omega
      have hjb:j * (2 * C) ≤ 500 * 16:=Nat.mul_le_mul (by omega) (by omega)
      refine fz (τ:=Int) [3,2] (val:=fun x=>.int .i64 x) (enc:=cI .i64) el_Sint (di _) (fun _=>rfl) s2 rfl rfl (by decide) fun vk h3 s3=>?_
      have hvl:=(cr (j:=0) s3 rfl).1
      refine Lp.intro (fun (y:Sl × Int) h=>∃ m:Nat,y.2 = m∧m ≤ 2∧aO [vK y.1 (Fair.turns C j++Fair.lines C (([3,2]:List Int).take m)),vec kJ 1 (cI .i64) vk [3,2]] h) (fun (y:Sl × Int) _=>2 - y.2.toNat) ⟨0,rfl,Nat.zero_le _,by
        have s4:=bn (m:=[vK z (Fair.turns C j),vec kJ 1 (cI .i64) vk [3,2]]) [1] s3 rfl
        simpa [Fair.lines] using s4⟩ ?_
      rintro ⟨y,i2⟩ h ⟨m,rfl,hm,s4⟩
      unfold tv
      refine bi (fun k3=>?_) (fun k3=>?_)
      · have hlt2:m < 2:=by rw [hvl] at k3; have:=of_decide_eq_true k3; simp at this; omega
        have hw2:IntKind.i64.wrap ((m:Int) + 1) = ((m + 1:Nat):Int):=by rw [cj (by omega) (by omega)]; rfl
        have hkl:m < ([3,2]:List Int).length:=hlt2
        refine dF s4 (j:=1) rfl (by omega) (by simp; omega) fun q hq=>?_
        refine eC (j:=1) (i:=m) (k:=0) ([3,2]:List Int)[m] (di _) s4 rfl hq (by simp) (aN hkl) (by simp) ?_
        have hll:=Fair.lines_len C (([3,2]:List Int).take m)
        have hlb:(([3,2]:List Int).take m).length * C ≤ 2 * 8:=Nat.mul_le_mul (by simp; omega) (by omega)
        refine Lp.intro (fun (x:Sl × Int) h=>∃ p:Nat,x.2 = p∧p ≤ C∧aO [vK x.1 (Fair.turns C j++Fair.lines C (([3,2]:List Int).take m)++Fair.line ([3,2]:List Int)[m] p),vec kJ 1 (cI .i64) vk [3,2]] h) (fun (x:Sl × Int) _=>C - x.2.toNat) ⟨0,rfl,Nat.zero_le _,by simpa [Fair.line] using s4⟩ ?_
        rintro ⟨x,i3⟩ h ⟨p,rfl,hp,s5⟩
        have hpl:=Fair.line_len ([3,2]:List Int)[m] p
        unfold tu
        refine bi (fun k4=>?_) (fun k4=>?_)
        · have hlt3:p < C:=by have:=of_decide_eq_true k4; simp at this; exact this
          have hw3:IntKind.i64.wrap ((p:Int) + 1) = ((p + 1:Nat):Int):=by rw [cj (by omega) (by omega)]; rfl
          refine ku (τ:=Pick) (i:=0) (enc:=dB.C) (val:=fun x=>.agg x.C.toArray) (x:=Fair.pk ([3,2]:List Int)[m] p) el_Sapi_Pick pick_len pick_one (fun _=>rfl) (by omega) rfl rfl s5 rfl (by simp only [List.length_append]; omega) (by simp only [List.length_append]; omega) fun v h6 s6=>?_
          rw [hw3]
          refine ⟨⟨p + 1,rfl,hlt3,?_⟩,by simp; omega⟩
          rw [Fair.line_succ,← List.append_assoc]
          exact s6
        · have:p = C:=by have:=of_decide_eq_false k4; simp at this; omega
          subst this
          rw [hw2]
          refine ⟨⟨m + 1,rfl,hlt2,?_⟩,by simp; omega⟩
          have et:([3,2]:List Int).take (m + 1) = ([3,2]:List Int).take m++[([3,2]:List Int)[m]]:=by rw [List.take_add_one,aN hkl]; rfl
          have el:Fair.lines p (([3,2]:List Int).take (m + 1)) = Fair.lines p (([3,2]:List Int).take m)++Fair.line ([3,2]:List Int)[m] p:=by
            rw [et]; unfold Fair.lines; rw [List.flatMap_append]; simp
          rw [el,← List.append_assoc]
          exact s5
      · have:m = 2:=by rw [hvl] at k3; have:=of_decide_eq_false k3; simp at this; omega
        subst this
        rw [hw]
        refine ⟨⟨j + 1,rfl,hlt,?_⟩,by simp; omega⟩
        rw [Fair.turns_succ]
        exact nv (l:=[vK y (Fair.turns C j++Fair.lines C [3,2])]) s4
    · have:j = N:=by have:=of_decide_eq_false k2; simp at this; omega
      subst this
      exact s2
end Go.Proofs.YtniiiakkdoiaiaaGreatDoor
namespace Go.Proofs.YtniiiakkdoiaiaaGreatDoor
open Go Mb
set_option linter.unusedVariables false
def wa (a0:Sl) (a1:Int) (K:Sl→Hp→Prop) (Rec2:(Sl × Int)→Hp→Prop) (s1:Sl × Int):Hp→Prop:=br (decide (s1.2 < (a0.len:Int))) ( ix a0 s1.2 fun q12=>ld (q12.1,q12.2 + Int.toNat s1.2 * 16) aL.C fun x13=>br ((x13.fEnv == a1) && (decide (x13.fEnd > 0))) ( hpv Tryz.prog (Instr.buildSlice mD 1 #[(0,(.agg (al.C x13.fAnswer).toArray))]) mM fun (v26:Sl)=>hpv Tryz.prog (Builtin.append_ #[mD,mD] mD #[(sv s1.1),(sv v26)]) mM fun (v27:Sl)=>Rec2 (v27,(IntKind.i64.wrap (s1.2 + 1)))) ( Rec2 (s1.1,(IntKind.i64.wrap (s1.2 + 1))))) ( K s1.1)
def sh_twin_View (a0:Sl) (a1:Int) (K:Sl→Hp→Prop):Hp→Prop:=Lp (wa a0 a1 K) ((⟨none,0,0,none⟩:Sl),0)
set_option maxRecDepth 20000 in
theorem sim_twin_View (a0:Sl) (a1:Int) {K:Sl→Hp→Prop} {h:Hp} (H:sh_twin_View a0 a1 K h):Ct Tryz.prog n_twin_View #[(sv a0),(.int .i64 a1)] h fun v h'=>∃ r,v = mM r∧K r h':=aA [(sv a0),(.int .i64 a1)] Tryz.func51 rfl rfl rfl fun _=>ag<|ab<|aa (ae rfl) rfl<|ad<|ag<|ab<|aa (ae rfl) rfl<|ad<|ag<|ag<|ab<|aa (ac rfl) rfl<|aa (dl rfl Tryz.underlying39 rfl) rfl<|aa (ac rfl) rfl<|ad<|aH<|bR (step:=wa a0 a1 K) (fun s1=>[(1,(.int .i64 a1)),(5,(sv s1.1)),(8,(sv a0)),(9,(.int .i64 (a0.len:Int))),(10,(.int .i64 s1.2))]) (fun s1=>[]) H (.cons rfl (.cons rfl (.cons rfl (.cons rfl (.cons rfl (.nil _)))))) .slnil (fun Rec2 s1 _ H3=>ag<|ab<|aa (cH rfl rfl) rfl<|ad<|ag<|aE rfl H3 (fun k4 H5=>av<|ag<|aH<|ag<|ab<|cx H5 fun q12 e6 h7 H8=>aa (bC sB (aV rfl (bm e6)) rfl h7) rfl<|aj (hH H8 ag_51 rfl (fun _=>rfl) rfl fun x13 H9=>aj (aW (l:=(aL.C (⟨0,0,(⟨0,0,0,0,0⟩:ap),0,0,0,(⟨0,0⟩:al),(⟨0,0,0,0⟩:au)⟩:aL))) zero_51 rfl rfl fun b7=>aj (bb (k:=0) (vs:=(aL.C x13)) inf_51 rfl rfl rfl rfl rfl rfl rfl<|ad<|ag<|ab<|aa (am oO rfl) rfl<|bw (bt (k:=0) bk rfl rfl rfl) rfl<|aa (ac rfl) rfl<|aa (bV rfl rfl) rfl<|aa (ac rfl) rfl<|ak rfl rfl rfl (aB _) (fun g10=>wv (am qL rfl)) rfl<|ak rfl rfl rfl (aB _) (fun g11=>cv (bt (k:=0) bk (aK rfl g11) rfl rfl)) rfl<|ak rfl rfl rfl (aB _) (fun g12=>wv (qo (aK rfl g12) rfl)) rfl<|aa (bX rfl rfl) rfl<|ad<|aE rfl H9 (fun k13 H14=>ab<|aa (ac rfl) rfl<|aa (am ki rfl) rfl<|bw (bP (k:=0) cE rfl rfl rfl rfl) rfl<|aj (be H14 (bF (vs:=[(.agg (al.C x13.fAnswer).toArray)]) rfl) rfl fun v26 _ H15=>aj (be H15 (dM rfl rfl) rfl fun v27 _ H16=>aa (ae rfl) rfl<|ad<|ab<|aa (bK rfl rfl) rfl<|aa (ac rfl) rfl<|ad<|cU (v27,(IntKind.i64.wrap (s1.2 + 1))) H16 (.cons rfl (.cons rfl (.cons rfl (.cons rfl (.cons rfl (.nil _)))))) (.cons _ .slnil)))) (fun k13 H14=>av<|ab<|aa (bK rfl rfl) rfl<|aa (ac rfl) rfl<|ad<|cU (s1.1,(IntKind.i64.wrap (s1.2 + 1))) H14 (.cons rfl (.cons rfl (.cons rfl (.cons rfl (.cons rfl (.nil _)))))) (.cons _ .slnil)))))) (fun k4 H5=>bz<|ag<|ab<|aa (ac rfl) rfl<|aa (ae rfl) rfl<|ad<|ao<|aw (ay rfl (aD rfl)) ⟨s1.1,rfl,H5⟩))
def sh_twin_Same (a0:Sl) (a1:Sl) (K:Bool→Hp→Prop):Hp→Prop:=cl Tryz.prog gD [(sv a0),(sv a1)] aG fun r7=>K r7
set_option maxRecDepth 20000 in
theorem sim_twin_Same (a0:Sl) (a1:Sl) {K:Bool→Hp→Prop} {h:Hp} (H:sh_twin_Same a0 a1 K h):Ct Tryz.prog n_twin_Same #[(sv a0),(sv a1)] h fun v h'=>∃ r,v = aG r∧K r h':=aA [(sv a0),(sv a1)] Tryz.func48 rfl rfl rfl fun _=>ag<|ab<|aa (ae rfl) rfl<|ad<|ag<|ab<|aa (ac rfl) rfl<|aa (ac rfl) rfl<|aj (az H en_86 rfl rfl fun r7 _ H1=>aa (ae rfl) rfl<|ad<|ao<|aw (ay rfl (aD rfl)) ⟨r7,rfl,H1⟩)
end Go.Proofs.YtniiiakkdoiaiaaGreatDoor
