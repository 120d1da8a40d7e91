/- Part of the proof of: The law KernForm returns true for every input, and leaves its arguments as they were. -/
import Derived.Test.YtniiiakkdoiaiaaGreatDoorKernForm16
set_option linter.all false
namespace Go.Proofs.YtniiiakkdoiaiaaGreatDoor
open Go Mb
set_option linter.unusedVariables false
def dS (a2:Int) (a3:Int) (q22:Nat × Nat) (Rec9:(Sl × Int)→Hp→Prop) (s8:Sl × Int) (x49:aO) (s22:Bool):Hp→Prop:=br s22 ( ld (q22.1,q22.2 + 4) cP fun x65=>cl Tryz.prog gF [(pv x65)] dB fun r66=>cl Tryz.prog dG [(pv r66),(.int .i64 x49.fEnv),(.agg (ao.C x49.fCall).toArray)] bA fun r72=>cl Tryz.prog fN [(pv r66),(.int .i64 a2),(.int .i64 a3)] cF fun r77=>hpv Tryz.prog (Instr.buildSlice pI 1 #[(0,(.agg (aq.C r77.1).toArray))]) pZ fun (v82:Sl)=>hpv Tryz.prog (Builtin.append_ #[pI,pI] pI #[(sv s8.1),(sv v82)]) pZ fun (v83:Sl)=>Rec9 (v83,(IntKind.i64.wrap (s8.2 + 1)))) ( Rec9 (s8.1,(IntKind.i64.wrap (s8.2 + 1))))
def kD (a2:Int) (a3:Int) (K:Sl→Hp→Prop) (q22:Nat × Nat) (r37:Sl) (Rec9:(Sl × Int)→Hp→Prop) (s8:Sl × Int):Hp→Prop:=br (decide (s8.2 < (r37.len:Int))) ( ix r37 s8.2 fun q41=>ld (q41.1,q41.2 + Int.toNat s8.2 * 1) (cI .i64) fun x42=>ld (q22.1,q22.2 + 0) cS fun x46=>ix x46 x42 fun q48=>ld (q48.1,q48.2 + Int.toNat x42 * 16) aO.C fun x49=>br (((aP x49.fCall).1) == 7) ( dS a2 a3 q22 Rec9 s8 x49 (((aP x49.fCall).1) == 7)) ( br (((aP x49.fCall).1) == 8) ( dS a2 a3 q22 Rec9 s8 x49 (((aP x49.fCall).1) == 8)) ( br (((aP x49.fCall).1) == 4) ( dS a2 a3 q22 Rec9 s8 x49 (((aP x49.fCall).1) == 4)) ( dS a2 a3 q22 Rec9 s8 x49 (((aP x49.fCall).1) == 5))))) ( K s8.1)
def pj (a0:Ptr) (a1:Int) (a2:Int) (a3:Int) (K:Sl→Hp→Prop):Hp→Prop:=nn a0 fun q22=>ld (q22.1,q22.2 + 4) cP fun x24=>cl Tryz.prog fN [(pv x24),(.int .i64 a2),(.int .i64 a3)] cF fun r27=>hpv Tryz.prog (Instr.buildSlice pI 1 #[(0,(.agg (aq.C r27.1).toArray))]) pZ fun (v31:Sl)=>ld (q22.1,q22.2 + 0) cS fun x35=>cl Tryz.prog n_hist_Over [(sv x35),(.int .i64 a1)] cG fun r37=>Lp (kD a2 a3 K q22 r37) (v31,0)
set_option maxRecDepth 20000 in
theorem wi (a0:Ptr) (a1:Int) (a2:Int) (a3:Int) {K:Sl→Hp→Prop} {h:Hp} (H:pj a0 a1 a2 a3 K h):Ct Tryz.prog lq #[(pv a0),(.int .i64 a1),(.int .i64 a2),(.int .i64 a3)] h fun v h'=>∃ r,v = pZ r∧K r h':=aC [(pv a0),(.int .i64 a1),(.int .i64 a2),(.int .i64 a3)] Tryz.func163 rfl rfl rfl fun _=>ag<|ab<|aa (ae rfl) rfl<|ad<|ag<|ab<|aa (ac rfl) rfl<|bP H fun q22 e1 H2=>aa (aU (aX rfl (ay e1))) rfl<|aa (am vq rfl) rfl<|aj (bf H2 vg rfl (fun _=>rfl) rfl fun x24 H3=>aa (ac rfl) rfl<|aa (ac rfl) rfl<|aj (aA H3 en_81 rfl rfl fun r27 _ H4=>aa (ac rfl) rfl<|aa (ap rfl rfl) rfl<|aa (ap rfl rfl) rfl<|aj (bb (l:=(aq.C (⟨0,0,0⟩:aq))) fU rfl rfl fun b9=>aj (bc (k:=0) (vs:=(aq.C r27.1)) dT rfl rfl rfl rfl rfl rfl rfl<|aa (ae rfl) rfl<|ad<|ag<|ab<|bz (bO (k:=0) fF rfl rfl rfl rfl) rfl<|aj (be H4 (bK (vs:=[(.agg (aq.C r27.1).toArray)]) rfl) rfl fun v31 _ H5=>aa (ae rfl) rfl<|ad<|ag<|ag<|ab<|aa (ac (aX rfl (ay e1))) rfl<|aa (aU rfl) rfl<|aa (am fld_168_0 rfl) rfl<|aj (bf H5 sc_39 rfl (fun _=>rfl) rfl fun x35 H6=>aa (ac rfl) rfl<|aj (aA H6 en_21 rfl rfl fun r37 _ H7=>aa (dH rfl Tryz.underlying41 rfl) rfl<|aa (ac rfl) rfl<|ad<|aF<|bS (step:=kD a2 a3 K q22 r37) (fun s8=>[(0,(pv a0)),(2,(.int .i64 a2)),(3,(.int .i64 a3)),(11,(sv s8.1)),(37,(sv r37)),(38,(.int .i64 (r37.len:Int))),(39,(.int .i64 s8.2))]) (fun s8=>[]) H7 (.cons rfl (.cons rfl (.cons rfl (.cons rfl (.cons rfl (.cons rfl (.cons rfl (.nil _)))))))) (.cons _ .slnil) (fun Rec9 s8 _ H10=>ag<|ab<|aa (cA rfl rfl) rfl<|ad<|ag<|aD rfl H10 (fun k11 H12=>au<|ag<|aF<|ag<|ab<|cu H12 fun q41 e13 h14 H15=>aa (bC iC (aX rfl (bm e13)) rfl h14) rfl<|aj (bf H15 bj rfl (fun _=>rfl) rfl fun x42 H16=>aa (ae rfl) rfl<|ad<|ag<|ab<|aa (ac (aX rfl (ay e1))) rfl<|aa (aU rfl) rfl<|aa (am fld_168_0 rfl) rfl<|aj (bf H16 sc_39 rfl (fun _=>rfl) rfl fun x46 H17=>aa (ac rfl) rfl<|cu H17 fun q48 e18 h19 H20=>aa (bC kT (aX rfl (bm e18)) rfl h19) rfl<|aj (gL H20 ag_51 rfl (fun _=>rfl) rfl fun x49 H21=>aj (bb (l:=(aO.C (⟨0,0,(⟨0,0,0,0,0⟩:ao),0,0,0,(⟨0,0⟩:ak),(⟨0,0,0,0⟩:ar)⟩:aO))) zero_51 rfl rfl fun b14=>aj (bc (k:=0) (vs:=(aO.C x49)) inf_51 rfl rfl rfl rfl rfl rfl rfl<|ad<|ag<|ab<|aa (am lw rfl) rfl<|bz (bO (k:=0) eN rfl rfl rfl rfl) rfl<|aj (cL (vs:=[(.agg (ao.C x49.fCall).toArray)]) (bI (jX x49.fCall _)) en_64 rfl rfl<|aa (ac rfl) rfl<|aa (ap rfl rfl) rfl<|aa (ap rfl rfl) rfl<|aa (ae rfl) rfl<|aa (ae rfl) rfl<|ad<|ag<|ab<|aa (ac rfl) rfl<|ad<|aF<|eG (dS a2 a3 q22 Rec9 s8 x49) (fun s22=>[(0,(pv a0)),(2,(.int .i64 a2)),(3,(.int .i64 a3)),(11,(sv s8.1)),(14,(.pointer (some ⟨b14,0,none⟩))),(37,(sv r37)),(38,(.int .i64 (r37.len:Int))),(39,(.int .i64 s8.2)),(57,(.bool s22))]) (fun s22=>[bx b14 51 (aO.C x49)]) ( ag<|ab<|aa (cc rfl rfl) rfl<|aa (ae rfl) rfl<|ad<|aD rfl H21 (fun k32 H33=>au<|cQ (((aP x49.fCall).1) == 7) H33 (.cons rfl (.cons rfl (.cons rfl (.cons rfl (.cons rfl (.cons rfl (.cons rfl (.cons rfl (.cons rfl (.nil _)))))))))) (.cons_cons _ .slnil)) (fun k32 H33=>ag<|ab<|aa (cc rfl rfl) rfl<|aa (ae rfl) rfl<|ad<|aD rfl H33 (fun k34 H35=>au<|cQ (((aP x49.fCall).1) == 8) H35 (.cons rfl (.cons rfl (.cons rfl (.cons rfl (.cons rfl (.cons rfl (.cons rfl (.cons rfl (.cons rfl (.nil _)))))))))) (.cons_cons _ .slnil)) (fun k34 H35=>ag<|ab<|aa (cc rfl rfl) rfl<|aa (ae rfl) rfl<|ad<|aD rfl H35 (fun k36 H37=>au<|cQ (((aP x49.fCall).1) == 4) H37 (.cons rfl (.cons rfl (.cons rfl (.cons rfl (.cons rfl (.cons rfl (.cons rfl (.cons rfl (.cons rfl (.nil _)))))))))) (.cons_cons _ .slnil)) (fun k36 H37=>ab<|aa (cc rfl rfl) rfl<|aa (ae rfl) rfl<|ad<|cQ (((aP x49.fCall).1) == 5) H37 (.cons rfl (.cons rfl (.cons rfl (.cons rfl (.cons rfl (.cons rfl (.cons rfl (.cons rfl (.cons rfl (.nil _)))))))))) (.cons_cons _ .slnil))))) (fun s22 _ H23=>aD rfl H23 (fun k24 H25=>ag<|ab<|aa (ac (aX rfl (ay e1))) rfl<|aa (aU rfl) rfl<|aa (am vq rfl) rfl<|aj (bf H25 vg rfl (fun _=>rfl) rfl fun x65 H26=>aj (aA H26 en_164 rfl rfl fun r66 _ H27=>aa (ae rfl) rfl<|ad<|ag<|ab<|aa (ac rfl) rfl<|aa (am mJ rfl) rfl<|bz (bq (k:=0) bj rfl rfl rfl) rfl<|aa (am lw rfl) rfl<|bz (bO (k:=0) eN rfl rfl rfl rfl) rfl<|aj (aA H27 en_73 rfl rfl fun r72 _ H28=>ad<|ag<|ab<|aa (ac rfl) rfl<|aa (ac rfl) rfl<|aa (ac rfl) rfl<|aj (aA H28 en_81 rfl rfl fun r77 _ H29=>aa (ac rfl) rfl<|aa (ap rfl rfl) rfl<|aa (ap rfl rfl) rfl<|aj (bb (l:=(aq.C (⟨0,0,0⟩:aq))) fU rfl rfl fun b18=>aj (bc (k:=0) (vs:=(aq.C r77.1)) dT rfl rfl rfl rfl rfl rfl rfl<|aa (ae rfl) rfl<|ad<|ab<|aa (ac rfl) rfl<|bz (bO (k:=0) fF rfl rfl rfl rfl) rfl<|aj (be H29 (bK (vs:=[(.agg (aq.C r77.1).toArray)]) rfl) rfl fun v82 _ H30=>aj (be H30 (dM rfl rfl) rfl fun v83 _ H31=>aa (ae rfl) rfl<|ad<|ab<|aa (bM rfl rfl) rfl<|aa (ac rfl) rfl<|ad<|cW (v83,(IntKind.i64.wrap (s8.2 + 1))) H31 (.cons rfl (.cons rfl (.cons rfl (.cons rfl (.cons rfl (.cons rfl (.cons rfl (.nil _)))))))) (.cons _ (.cons _ .slnil))))))))))) (fun k24 H25=>au<|ab<|aa (bM rfl rfl) rfl<|aa (ac rfl) rfl<|ad<|cW (s8.1,(IntKind.i64.wrap (s8.2 + 1))) H25 (.cons rfl (.cons rfl (.cons rfl (.cons rfl (.cons rfl (.cons rfl (.cons rfl (.nil _)))))))) (.cons _ .slnil)))))))))) (fun k11 H12=>bD<|ag<|ab<|aa (ac rfl) rfl<|aa (ae rfl) rfl<|ad<|an<|av (az rfl (aE rfl)) ⟨s8.1,rfl,H12⟩)))))))))
def kE (a1:aO) (K:Bool→Hp→Prop) (q18:Nat × Nat) (r50:Sl) (Rec13:(Bool × Bool × Int)→Hp→Prop) (s12:Bool × Bool × Int):Hp→Prop:=br (decide (s12.2.2 < (r50.len:Int))) ( ix r50 s12.2.2 fun q54=>ld (q54.1,q54.2 + Int.toNat s12.2.2 * 3) aq.C fun x55=>Rec13 ((s12.1 || (!(dx x55.fRights (IntKind.i64.wrap a1.fCall.e0)))),(s12.2.1 || ((x55.fFrame == a1.fLine.fFrame) && (bv a1.fLine.fRights x55.fRights))),(IntKind.i64.wrap (s12.2.2 + 1)))) ( br (a1.fAnswer.fErr == 7) ( K ((s12.1 && (a1.fAnswer.fVal == 0)) && (ar.eqb a1.fLine (⟨0,0,0,0⟩:ar)))) ( ld (q18.1,q18.2 + 4) cP fun x103=>cl Tryz.prog gF [(pv x103)] dB fun r104=>cl Tryz.prog eW [(pv r104),(.int .i64 a1.fLine.fFrame),(.agg (ao.C a1.fCall).toArray)] bA fun r110=>K (((s12.2.1 && (((a1.fLine.fEnv == a1.fEnv) && (a1.fLine.fPage == (IntKind.i64.wrap a1.fCall.e1))) && (dx a1.fLine.fRights (IntKind.i64.wrap a1.fCall.e0)))) && r110.2) && (ak.eqb r110.1 a1.fAnswer))))
def pn (a0:Ptr) (a1:aO) (K:Bool→Hp→Prop):Hp→Prop:=nn a0 fun q18=>ld (q18.1,q18.2 + 1 + 1) (cI .i64) fun x21=>cl Tryz.prog gO [(.agg (ao.C a1.fCall).toArray),(.int .i64 x21)] bw fun r22=>br (r22 != 0) ( K ((ak.eqb a1.fAnswer (⟨r22,0⟩:ak)) && (ar.eqb a1.fLine (⟨0,0,0,0⟩:ar)))) ( cl Tryz.prog lq [(.pointer (some ⟨q18.1,q18.2,none⟩)),(.int .i64 a1.fEffect),(.int .i64 a1.fEnv),(.int .i64 (IntKind.i64.wrap a1.fCall.e1))] pZ fun r50=>Lp (kE a1 K q18 r50) (false,false,0))
set_option maxRecDepth 20000 in
theorem wj (a0:Ptr) (a1:aO) {K:Bool→Hp→Prop} {h:Hp} (H:pn a0 a1 K h):Ct Tryz.prog lr #[(pv a0),(.agg (aO.C a1).toArray)] h fun v h'=>∃ r,v = aG r∧K r h':=aC [(pv a0),(.agg (aO.C a1).toArray)] Tryz.func121 rfl rfl rfl fun _=>ag<|ab<|aj (cH (l:=(aO.C a1)) rfl rfl rfl fun b3=>aa (ae rfl) rfl<|ad<|ag<|ag<|bE (n:=9) [bx b3 51 (aO.C a1)] cy rfl (.cons_cons _ .slnil)<|ah (i:=0) (fun _ _ _ _=>id) rfl (by kernel_rfl) rfl (ve (am lw rfl))<|ah (i:=1) (fun _ _ _ _=>id) rfl (by kernel_rfl) rfl (eu (k:=0) eN rfl rfl rfl rfl)<|ah (i:=2) (fun _ _ _ _=>id) rfl (by kernel_rfl) rfl (ve (ac rfl))<|gQ H fun q18 e1 H2=>ah (i:=3) (fun _ _ _ _=>id) rfl (by kernel_rfl) rfl (ve (aU (aX rfl (ay e1))))<|ah (i:=4) (fun _ _ _ _=>id) rfl (by kernel_rfl) rfl (ve (am fld_168_1 rfl))<|ah (i:=5) (fun _ _ _ _=>id) rfl (by kernel_rfl) rfl (ve (am jA rfl))<|bR (i:=6) (fun _ _ _ _=>id) H2 rfl (by kernel_rfl) bj rfl (fun _=>rfl) rfl fun x21 H3=>bg (i:=7) (by kernel_rfl) (aJ rfl rfl (aA H3 en_95 rfl rfl fun r22 _ H4=>⟨(.cons_cons _ .slnil),ah (i:=8) (fun _ _ _ _=>id) rfl (by kernel_rfl) rfl (ve (ae rfl))<|bd (by kernel_rfl)<|ag<|ab<|aa (ac rfl) rfl<|aa (pA rfl rfl) rfl<|ad<|aD rfl H4 (fun k5 H6=>ag<|ab<|aa (am ki rfl) rfl<|bz (bO (k:=0) cK rfl rfl rfl rfl) rfl<|aa (ac rfl) rfl<|aa (bo rfl (jk r22)) rfl<|aa (v_eqA eqg_47 (eqr_47 9998 _ _) rfl rfl) rfl<|aa (ac rfl) rfl<|ai rfl rfl rfl (aB _) (fun g7=>wv (am ge rfl)) rfl<|ai rfl rfl rfl (aB _) (fun g8=>cv (bO (k:=0) gZ (aK rfl g8) rfl rfl rfl)) rfl<|ai rfl rfl rfl (aB _) (fun g9=>wv (bo (vs:=[]) rfl lA)) rfl<|ai rfl rfl rfl (aB _) (fun g10=>wv (v_eqA eqg_49 (eqr_49 9998 _ _) (aK rfl g10) (aK rfl g10))) rfl<|aa (bX rfl rfl) rfl<|aa (ae rfl) rfl<|ad<|an<|av (az rfl (aE rfl)) ⟨((ak.eqb a1.fAnswer (⟨r22,0⟩:ak)) && (ar.eqb a1.fLine (⟨0,0,0,0⟩:ar))),rfl,H6⟩) (fun k5 H6=>au<|ag<|bE (n:=10) [bx b3 51 (aO.C a1)] cy rfl (.cons_cons _ .slnil)<|ah (i:=0) (fun _ _ _ _=>id) rfl (by kernel_rfl) rfl (ve (am lw rfl))<|ah (i:=1) (fun _ _ _ _=>id) rfl (by kernel_rfl) rfl (ve (bJ dk rfl rfl (by decide)))<|ah (i:=2) (fun _ _ _ _=>id) rfl (by kernel_rfl) rfl (dn (k:=0) cD rfl rfl rfl)<|ah (i:=3) (fun _ _ _ _=>id) rfl (by kernel_rfl) rfl (ve (dY ⟨_,Tryz.underlying25⟩ Tryz.underlying3 rfl))<|ah (i:=4) (fun _ _ _ _=>id) rfl (by kernel_rfl) rfl (ve (am lw rfl))<|ah (i:=5) (fun _ _ _ _=>id) rfl (by kernel_rfl) rfl (ve (bJ dk rfl rfl (by decide)))<|ah (i:=6) (fun _ _ _ _=>id) rfl (by kernel_rfl) rfl (dn (k:=0) cD rfl rfl rfl)<|ah (i:=7) (fun _ _ _ _=>id) rfl (by kernel_rfl) rfl (ve (dY ⟨_,Tryz.underlying25⟩ Tryz.underlying3 rfl))<|ah (i:=8) (fun _ _ _ _=>id) rfl (by kernel_rfl) rfl (ve (ae rfl))<|ah (i:=9) (fun _ _ _ _=>id) rfl (by kernel_rfl) rfl (ve (ae rfl))<|bd (by kernel_rfl)<|ag<|ab<|aa (ae rfl) rfl<|aa (ae rfl) rfl<|ad<|ag<|ag<|ab<|aa (ac (aX rfl (ay e1))) rfl<|aa (am ik rfl) rfl<|bz (bq (k:=0) bj rfl rfl rfl) rfl<|aa (am mJ rfl) rfl<|bz (bq (k:=0) bj rfl rfl rfl) rfl<|aa (ac rfl) rfl<|aj (aA H6 en_163 rfl rfl fun r50 _ H11=>aa (dH rfl Tryz.underlying211 rfl) rfl<|aa (ac rfl) rfl<|ad<|aF<|bS (step:=kE a1 K q18 r50) (fun s12=>[(0,(pv a0)),(3,(.pointer (some ⟨b3,0,none⟩))),(6,(.int .i64 (IntKind.i64.wrap a1.fCall.e1))),(7,(.int .i64 (IntKind.i64.wrap a1.fCall.e0))),(8,(.bool s12.1)),(9,(.bool s12.2.1)),(50,(sv r50)),(51,(.int .i64 (r50.len:Int))),(52,(.int .i64 s12.2.2))]) (fun s12=>[bx b3 51 (aO.C a1)]) H11 (.cons rfl (.cons rfl (.cons rfl (.cons rfl (.cons rfl (.cons rfl (.cons rfl (.cons rfl (.cons rfl (.nil _)))))))))) (.cons_cons _ .slnil) (fun Rec13 s12 _ H14=>ag<|ab<|aa (cA rfl rfl) rfl<|ad<|ag<|aD rfl H14 (fun k15 H16=>au<|ag<|aF<|ag<|ab<|cu H16 fun q54 e17 h18 H19=>aa (bC slc_211 (aX rfl (bm e17)) rfl h18) rfl<|aj (gL H19 fF rfl (fun _=>rfl) rfl fun x55 H20=>aj (bb (l:=(aq.C (⟨0,0,0⟩:aq))) fU rfl rfl fun b11=>aj (bc (k:=0) (vs:=(aq.C x55)) dT rfl rfl rfl rfl rfl rfl rfl<|ad<|ag<|ab<|aa (ac rfl) rfl<|aa (ac rfl) rfl<|ai rfl rfl rfl (aS _) (fun g21=>wv (am eM rfl)) rfl<|ai rfl rfl rfl (aS _) (fun g22=>cv (bq (k:=0) bj (aK rfl g22) rfl rfl)) rfl<|ai rfl rfl rfl (aS _) (fun g23=>wv (ac rfl)) rfl<|de (vs:=[(.int .i64 x55.fRights),(.int .i64 (IntKind.i64.wrap a1.fCall.e0))]) rfl rfl rfl (aS _) (fun g24=>(bI (jL x55.fRights (IntKind.i64.wrap a1.fCall.e0) _))) en_142 (fun g24=>(aY (aK rfl g24) (aY (aK rfl g24) bU))) rfl<|ai rfl rfl rfl (aS _) (fun g25=>wv (cw (aK rfl g25))) rfl<|aa (du rfl rfl) rfl<|aa (ae rfl) rfl<|ad<|ab<|aa (ac rfl) rfl<|aa (ac rfl) rfl<|ai rfl rfl rfl (aS _) (fun g26=>wv (am qF rfl)) rfl<|ai rfl rfl rfl (aS _) (fun g27=>cv (bq (k:=0) bj (aK rfl g27) rfl rfl)) rfl<|ai rfl rfl rfl (aS _) (fun g28=>wv (am ge rfl)) rfl<|ai rfl rfl rfl (aS _) (fun g29=>wv (am lx (aK rfl g29))) rfl<|ai rfl rfl rfl (aS _) (fun g30=>cv (bq (k:=1) bj (aK rfl g30) rfl rfl)) rfl<|ai rfl rfl rfl (aS _) (fun g31=>wv (cc (aK rfl g31) (aK rfl g31))) rfl<|ai rfl rfl rfl (aS _) (fun g32=>wv (ac (aK rfl g32))) rfl<|ai rfl rfl rfl (rc _ _) (fun g33=>wv (am ge rfl)) rfl<|ai rfl rfl rfl (rc _ _) (fun g34=>wv (am qJ (aK rfl g34))) rfl<|ai rfl rfl rfl (rc _ _) (fun g35=>cv (bq (k:=1) bj (aK rfl g35) rfl rfl)) rfl<|ai rfl rfl rfl (rc _ _) (fun g36=>wv (am eM rfl)) rfl<|ai rfl rfl rfl (rc _ _) (fun g37=>cv (bq (k:=0) bj (aK rfl g37) rfl rfl)) rfl<|de (vs:=[(.int .i64 a1.fLine.fRights),(.int .i64 x55.fRights)]) rfl rfl rfl (rc _ _) (fun g38=>(bI (dh a1.fLine.fRights x55.fRights _))) mu (fun g38=>(aY (aK rfl g38) (aY (aK rfl g38) bU))) rfl<|ai rfl rfl rfl (aS _) (fun g39=>wv (bX (aK rfl g39) (aX rfl (wM g39)))) rfl<|aa (du rfl rfl) rfl<|aa (ae rfl) rfl<|ad<|ab<|aa (bM rfl rfl) rfl<|aa (ac rfl) rfl<|ad<|cW ((s12.1 || (!(dx x55.fRights (IntKind.i64.wrap a1.fCall.e0)))),(s12.2.1 || ((x55.fFrame == a1.fLine.fFrame) && (bv a1.fLine.fRights x55.fRights))),(IntKind.i64.wrap (s12.2.2 + 1))) H20 (.cons rfl (.cons rfl (.cons rfl (.cons rfl (.cons rfl (.cons rfl (.cons rfl (.cons rfl (.cons rfl (.nil _)))))))))) (.cons _ (.cons_cons _ .slnil)))))) (fun k15 H16=>bD<|ag<|ag<|ab<|aa (am ki rfl) rfl<|aa (am kj rfl) rfl<|bz (bq (k:=0) oq rfl rfl rfl) rfl<|aa (cc rfl rfl) rfl<|ad<|aD rfl H16 (fun k40 H41=>ag<|ab<|aa (ac rfl) rfl<|aa (ac rfl) rfl<|ai rfl rfl rfl (aB _) (fun g42=>wv (am ki rfl)) rfl<|ai rfl rfl rfl (aB _) (fun g43=>wv (am fld_47_1 (aK rfl g43))) rfl<|ai rfl rfl rfl (aB _) (fun g44=>cv (bq (k:=0) cD (aK rfl g44) rfl rfl)) rfl<|ai rfl rfl rfl (aB _) (fun g45=>wv (cc (aK rfl g45) rfl)) rfl<|aa (bX rfl rfl) rfl<|aa (ac rfl) rfl<|ai rfl rfl rfl (aB _) (fun g46=>wv (am ge rfl)) rfl<|ai rfl rfl rfl (aB _) (fun g47=>cv (bO (k:=0) gZ (aK rfl g47) rfl rfl rfl)) rfl<|ai rfl rfl rfl (aB _) (fun g48=>wv (bo (vs:=[]) rfl lA)) rfl<|ai rfl rfl rfl (aB _) (fun g49=>wv (v_eqA eqg_49 (eqr_49 9998 _ _) (aK rfl g49) (aK rfl g49))) rfl<|aa (bX rfl rfl) rfl<|aa (ae rfl) rfl<|ad<|an<|av (az rfl (aE rfl)) ⟨((s12.1 && (a1.fAnswer.fVal == 0)) && (ar.eqb a1.fLine (⟨0,0,0,0⟩:ar))),rfl,H41⟩) (fun k40 H41=>au<|ag<|bE (n:=17) [bx b3 51 (aO.C a1)] cy rfl (.cons_cons _ .slnil)<|ah (i:=0) (fun _ _ _ _=>id) rfl (by kernel_rfl) rfl (ve (ac (aX rfl (ay e1))))<|ah (i:=1) (fun _ _ _ _=>id) rfl (by kernel_rfl) rfl (ve (aU rfl))<|ah (i:=2) (fun _ _ _ _=>id) rfl (by kernel_rfl) rfl (ve (am vq rfl))<|ah (i:=5) (fun _ _ _ _=>id) rfl (by kernel_rfl) rfl (ve (am ge rfl))<|ah (i:=6) (fun _ _ _ _=>id) rfl (by kernel_rfl) rfl (ve (am lx rfl))<|ah (i:=7) (fun _ _ _ _=>id) rfl (by kernel_rfl) rfl (dn (k:=0) bj rfl rfl rfl)<|ah (i:=8) (fun _ _ _ _=>id) rfl (by kernel_rfl) rfl (ve (am lw rfl))<|ah (i:=9) (fun _ _ _ _=>id) rfl (by kernel_rfl) rfl (eu (k:=0) eN rfl rfl rfl rfl)<|bR (i:=3) (fun _ _ _ _=>id) H41 rfl (by kernel_rfl) vg rfl (fun _=>rfl) rfl fun x103 H50=>jD (i:=4) (j:=14) (by kernel_rfl) (aJ rfl rfl (aA H50 en_164 rfl rfl fun r104 _ H52=>⟨(.cons_cons _ .slnil),jD (i:=10) (j:=14) (by kernel_rfl) (aJ rfl rfl (aA H52 en_99 rfl rfl fun r110 _ H54=>⟨(.cons_cons _ .slnil),ah (i:=11) (fun _ _ _ _=>id) rfl (by kernel_rfl) rfl (ve (ac rfl))<|ah (i:=12) (fun _ _ _ _=>id) rfl (by kernel_rfl) rfl (ve (ap rfl rfl))<|ah (i:=13) (fun _ _ _ _=>id) rfl (by kernel_rfl) rfl (ve (ap rfl rfl))<|bg (i:=14) (by kernel_rfl) (aJ rfl rfl (bb (l:=(ak.C (⟨0,0⟩:ak))) di rfl rfl fun b12=>⟨(.cons _ (.cons_cons _ .slnil)),bg (i:=15) (by kernel_rfl) (aJ rfl rfl (bc (k:=0) (vs:=(ak.C r110.1)) cd rfl rfl rfl rfl rfl rfl rfl<|⟨(.cons _ (.cons_cons _ .slnil)),ah (i:=16) (fun _ _ _ _=>id) rfl (by kernel_rfl) rfl (ve (ae rfl))<|bd (by kernel_rfl)<|ag<|ab<|aa (am ge rfl) rfl<|aa (am jz rfl) rfl<|bz (bq (k:=1) bj rfl rfl rfl) rfl<|aa (am mJ rfl) rfl<|bz (bq (k:=1) bj rfl rfl rfl) rfl<|aa (cc rfl rfl) rfl<|aa (ac rfl) rfl<|ai rfl rfl rfl (aB _) (fun g55=>wv (am ge rfl)) rfl<|ai rfl rfl rfl (aB _) (fun g56=>wv (am mK (aK rfl g56))) rfl<|ai rfl rfl rfl (aB _) (fun g57=>cv (bq (k:=1) bj (aK rfl g57) rfl rfl)) rfl<|ai rfl rfl rfl (aB _) (fun g58=>wv (ac rfl)) rfl<|ai rfl rfl rfl (aB _) (fun g59=>wv (cc (aK rfl g59) (aK rfl g59))) rfl<|aa (bX rfl rfl) rfl<|aa (ac rfl) rfl<|ai rfl rfl rfl (aB _) (fun g60=>wv (am ge rfl)) rfl<|ai rfl rfl rfl (aB _) (fun g61=>wv (am qJ (aK rfl g61))) rfl<|ai rfl rfl rfl (aB _) (fun g62=>cv (bq (k:=1) bj (aK rfl g62) rfl rfl)) rfl<|ai rfl rfl rfl (aB _) (fun g63=>wv (ac rfl)) rfl<|de (vs:=[(.int .i64 a1.fLine.fRights),(.int .i64 (IntKind.i64.wrap a1.fCall.e0))]) rfl rfl rfl (aB _) (fun g64=>(bI (jL a1.fLine.fRights (IntKind.i64.wrap a1.fCall.e0) _))) en_142 (fun g64=>(aY (aK rfl g64) (aY (aK rfl g64) bU))) rfl<|aa (bX rfl rfl) rfl<|aa (ae rfl) rfl<|ad<|ag<|ab<|aa (ac rfl) rfl<|aa (ac rfl) rfl<|ai rfl rfl rfl (aB _) (fun g65=>wv (ac rfl)) rfl<|aa (bX rfl rfl) rfl<|aa (ac rfl) rfl<|ai rfl rfl rfl (aB _) (fun g66=>wv (ac rfl)) rfl<|aa (bX rfl rfl) rfl<|aa (ac rfl) rfl<|ai rfl rfl rfl (aB _) (fun g67=>cv (bO (k:=0) cK rfl rfl rfl rfl)) rfl<|ai rfl rfl rfl (aB _) (fun g68=>wv (am ki rfl)) rfl<|ai rfl rfl rfl (aB _) (fun g69=>cv (bO (k:=1) cK (aK rfl g69) rfl rfl rfl)) rfl<|ai rfl rfl rfl (aB _) (fun g70=>wv (v_eqA eqg_47 (eqr_47 9998 _ _) (aK rfl g70) (aK rfl g70))) rfl<|aa (bX rfl rfl) rfl<|aa (ae rfl) rfl<|ad<|an<|av (az rfl (aE rfl)) ⟨(((s12.2.1 && (((a1.fLine.fEnv == a1.fEnv) && (a1.fLine.fPage == (IntKind.i64.wrap a1.fCall.e1))) && (dx a1.fLine.fRights (IntKind.i64.wrap a1.fCall.e0)))) && r110.2) && (ak.eqb r110.1 a1.fAnswer)),rfl,H54⟩⟩))⟩))⟩)) (aJ rfl rfl (bb (l:=(ak.C (⟨0,0⟩:ak))) di rfl rfl fun b12=>⟨(.cons _ (.cons_cons _ .slnil)),bg (i:=10) (by kernel_rfl) (aJ rfl rfl (aA H52 en_99 rfl rfl fun r110 _ H54=>⟨(.cons _ (.cons_cons _ .slnil)),ah (i:=11) (fun _ _ _ _=>id) rfl (by kernel_rfl) rfl (ve (ac rfl))<|ah (i:=12) (fun _ _ _ _=>id) rfl (by kernel_rfl) rfl (ve (ap rfl rfl))<|ah (i:=13) (fun _ _ _ _=>id) rfl (by kernel_rfl) rfl (ve (ap rfl rfl))<|bg (i:=15) (by kernel_rfl) (aJ rfl rfl (bc (k:=0) (vs:=(ak.C r110.1)) cd rfl rfl rfl rfl rfl rfl rfl<|⟨(.cons _ (.cons_cons _ .slnil)),ah (i:=16) (fun _ _ _ _=>id) rfl (by kernel_rfl) rfl (ve (ae rfl))<|bd (by kernel_rfl)<|ag<|ab<|aa (am ge rfl) rfl<|aa (am jz rfl) rfl<|bz (bq (k:=1) bj rfl rfl rfl) rfl<|aa (am mJ rfl) rfl<|bz (bq (k:=1) bj rfl rfl rfl) rfl<|aa (cc rfl rfl) rfl<|aa (ac rfl) rfl<|ai rfl rfl rfl (aB _) (fun g55=>wv (am ge rfl)) rfl<|ai rfl rfl rfl (aB _) (fun g56=>wv (am mK (aK rfl g56))) rfl<|ai rfl rfl rfl (aB _) (fun g57=>cv (bq (k:=1) bj (aK rfl g57) rfl rfl)) rfl<|ai rfl rfl rfl (aB _) (fun g58=>wv (ac rfl)) rfl<|ai rfl rfl rfl (aB _) (fun g59=>wv (cc (aK rfl g59) (aK rfl g59))) rfl<|aa (bX rfl rfl) rfl<|aa (ac rfl) rfl<|ai rfl rfl rfl (aB _) (fun g60=>wv (am ge rfl)) rfl<|ai rfl rfl rfl (aB _) (fun g61=>wv (am qJ (aK rfl g61))) rfl<|ai rfl rfl rfl (aB _) (fun g62=>cv (bq (k:=1) bj (aK rfl g62) rfl rfl)) rfl<|ai rfl rfl rfl (aB _) (fun g63=>wv (ac rfl)) rfl<|de (vs:=[(.int .i64 a1.fLine.fRights),(.int .i64 (IntKind.i64.wrap a1.fCall.e0))]) rfl rfl rfl (aB _) (fun g64=>(bI (jL a1.fLine.fRights (IntKind.i64.wrap a1.fCall.e0) _))) en_142 (fun g64=>(aY (aK rfl g64) (aY (aK rfl g64) bU))) rfl<|aa (bX rfl rfl) rfl<|aa (ae rfl) rfl<|ad<|ag<|ab<|aa (ac rfl) rfl<|aa (ac rfl) rfl<|ai rfl rfl rfl (aB _) (fun g65=>wv (ac rfl)) rfl<|aa (bX rfl rfl) rfl<|aa (ac rfl) rfl<|ai rfl rfl rfl (aB _) (fun g66=>wv (ac rfl)) rfl<|aa (bX rfl rfl) rfl<|aa (ac rfl) rfl<|ai rfl rfl rfl (aB _) (fun g67=>cv (bO (k:=0) cK rfl rfl rfl rfl)) rfl<|ai rfl rfl rfl (aB _) (fun g68=>wv (am ki rfl)) rfl<|ai rfl rfl rfl (aB _) (fun g69=>cv (bO (k:=1) cK (aK rfl g69) rfl rfl rfl)) rfl<|ai rfl rfl rfl (aB _) (fun g70=>wv (v_eqA eqg_47 (eqr_47 9998 _ _) (aK rfl g70) (aK rfl g70))) rfl<|aa (bX rfl rfl) rfl<|aa (ae rfl) rfl<|ad<|an<|av (az rfl (aE rfl)) ⟨(((s12.2.1 && (((a1.fLine.fEnv == a1.fEnv) && (a1.fLine.fPage == (IntKind.i64.wrap a1.fCall.e1))) && (dx a1.fLine.fRights (IntKind.i64.wrap a1.fCall.e0)))) && r110.2) && (ak.eqb r110.1 a1.fAnswer)),rfl,H54⟩⟩))⟩))⟩))⟩)) (aJ rfl rfl (bb (l:=(ak.C (⟨0,0⟩:ak))) di rfl rfl fun b12=>⟨(.cons _ (.cons_cons _ .slnil)),bg (i:=4) (by kernel_rfl) (aJ rfl rfl (aA H50 en_164 rfl rfl fun r104 _ H52=>⟨(.cons _ (.cons_cons _ .slnil)),bg (i:=10) (by kernel_rfl) (aJ rfl rfl (aA H52 en_99 rfl rfl fun r110 _ H53=>⟨(.cons _ (.cons_cons _ .slnil)),ah (i:=11) (fun _ _ _ _=>id) rfl (by kernel_rfl) rfl (ve (ac rfl))<|ah (i:=12) (fun _ _ _ _=>id) rfl (by kernel_rfl) rfl (ve (ap rfl rfl))<|ah (i:=13) (fun _ _ _ _=>id) rfl (by kernel_rfl) rfl (ve (ap rfl rfl))<|bg (i:=15) (by kernel_rfl) (aJ rfl rfl (bc (k:=0) (vs:=(ak.C r110.1)) cd rfl rfl rfl rfl rfl rfl rfl<|⟨(.cons _ (.cons_cons _ .slnil)),ah (i:=16) (fun _ _ _ _=>id) rfl (by kernel_rfl) rfl (ve (ae rfl))<|bd (by kernel_rfl)<|ag<|ab<|aa (am ge rfl) rfl<|aa (am jz rfl) rfl<|bz (bq (k:=1) bj rfl rfl rfl) rfl<|aa (am mJ rfl) rfl<|bz (bq (k:=1) bj rfl rfl rfl) rfl<|aa (cc rfl rfl) rfl<|aa (ac rfl) rfl<|ai rfl rfl rfl (aB _) (fun g54=>wv (am ge rfl)) rfl<|ai rfl rfl rfl (aB _) (fun g55=>wv (am mK (aK rfl g55))) rfl<|ai rfl rfl rfl (aB _) (fun g56=>cv (bq (k:=1) bj (aK rfl g56) rfl rfl)) rfl<|ai rfl rfl rfl (aB _) (fun g57=>wv (ac rfl)) rfl<|ai rfl rfl rfl (aB _) (fun g58=>wv (cc (aK rfl g58) (aK rfl g58))) rfl<|aa (bX rfl rfl) rfl<|aa (ac rfl) rfl<|ai rfl rfl rfl (aB _) (fun g59=>wv (am ge rfl)) rfl<|ai rfl rfl rfl (aB _) (fun g60=>wv (am qJ (aK rfl g60))) rfl<|ai rfl rfl rfl (aB _) (fun g61=>cv (bq (k:=1) bj (aK rfl g61) rfl rfl)) rfl<|ai rfl rfl rfl (aB _) (fun g62=>wv (ac rfl)) rfl<|de (vs:=[(.int .i64 a1.fLine.fRights),(.int .i64 (IntKind.i64.wrap a1.fCall.e0))]) rfl rfl rfl (aB _) (fun g63=>(bI (jL a1.fLine.fRights (IntKind.i64.wrap a1.fCall.e0) _))) en_142 (fun g63=>(aY (aK rfl g63) (aY (aK rfl g63) bU))) rfl<|aa (bX rfl rfl) rfl<|aa (ae rfl) rfl<|ad<|ag<|ab<|aa (ac rfl) rfl<|aa (ac rfl) rfl<|ai rfl rfl rfl (aB _) (fun g64=>wv (ac rfl)) rfl<|aa (bX rfl rfl) rfl<|aa (ac rfl) rfl<|ai rfl rfl rfl (aB _) (fun g65=>wv (ac rfl)) rfl<|aa (bX rfl rfl) rfl<|aa (ac rfl) rfl<|ai rfl rfl rfl (aB _) (fun g66=>cv (bO (k:=0) cK rfl rfl rfl rfl)) rfl<|ai rfl rfl rfl (aB _) (fun g67=>wv (am ki rfl)) rfl<|ai rfl rfl rfl (aB _) (fun g68=>cv (bO (k:=1) cK (aK rfl g68) rfl rfl rfl)) rfl<|ai rfl rfl rfl (aB _) (fun g69=>wv (v_eqA eqg_47 (eqr_47 9998 _ _) (aK rfl g69) (aK rfl g69))) rfl<|aa (bX rfl rfl) rfl<|aa (ae rfl) rfl<|ad<|an<|av (az rfl (aE rfl)) ⟨(((s12.2.1 && (((a1.fLine.fEnv == a1.fEnv) && (a1.fLine.fPage == (IntKind.i64.wrap a1.fCall.e1))) && (dx a1.fLine.fRights (IntKind.i64.wrap a1.fCall.e0)))) && r110.2) && (ak.eqb r110.1 a1.fAnswer)),rfl,H53⟩⟩))⟩))⟩))⟩)))))))⟩)))
def rq (a0:Ptr) (a1:aO) (K:Bool→Hp→Prop):Hp→Prop:=br (a1.fAnswer.fErr == 0) ( nn a0 fun q13=>ld (q13.1,q13.2 + 1 + 1) (cI .i64) fun x16=>cl Tryz.prog gO [(.agg (ao.C a1.fCall).toArray),(.int .i64 x16)] bw fun r17=>br (r17 == 0) ( K (a1.fLine.fRights != 0)) ( K false)) ( K false)
set_option maxRecDepth 20000 in
theorem sim_judge_judge_well (a0:Ptr) (a1:aO) {K:Bool→Hp→Prop} {h:Hp} (H:rq a0 a1 K h):Ct Tryz.prog nh #[(pv a0),(.agg (aO.C a1).toArray)] h fun v h'=>∃ r,v = aG r∧K r h':=aC [(pv a0),(.agg (aO.C a1).toArray)] Tryz.func122 rfl rfl rfl fun _=>ag<|ab<|aj (cH (l:=(aO.C a1)) rfl rfl rfl fun b3=>aa (ae rfl) rfl<|ad<|ag<|bE (n:=22) [bx b3 51 (aO.C a1)] cy rfl (.cons_cons _ .slnil)<|ah (i:=0) (fun _ _ _ _=>id) rfl (by kernel_rfl) rfl (ve (am ki rfl))<|ah (i:=1) (fun _ _ _ _=>id) rfl (by kernel_rfl) rfl (ve (am kj rfl))<|ah (i:=2) (fun _ _ _ _=>id) rfl (by kernel_rfl) rfl (dn (k:=0) oq rfl rfl rfl)<|ah (i:=3) (fun _ _ _ _=>id) rfl (by kernel_rfl) rfl (ve (cc rfl rfl))<|ah (i:=4) (fun _ _ _ _=>id) rfl (by kernel_rfl) rfl (ve (ac rfl))<|jB H (fun k1 H2=>bi (i:=5) (fun _ _ _ _=>id) rfl (by kernel_rfl) rfl rfl rfl rfl (congrArg Value.bool k1) (ve (am lw rfl))<|bi (i:=6) (fun _ _ _ _=>id) rfl (by kernel_rfl) rfl rfl rfl rfl (congrArg Value.bool k1) (eu (k:=0) eN rfl rfl rfl rfl)<|bi (i:=7) (fun _ _ _ _=>id) rfl (by kernel_rfl) rfl rfl rfl rfl (congrArg Value.bool k1) (ve (ac rfl))<|gQ H2 fun q13 e3 H4=>bi (i:=8) (fun _ _ _ _=>id) rfl (by kernel_rfl) rfl rfl rfl rfl (congrArg Value.bool k1) (ve (aU (aX rfl (ay e3))))<|bi (i:=9) (fun _ _ _ _=>id) rfl (by kernel_rfl) rfl rfl rfl rfl (congrArg Value.bool k1) (ve (am fld_168_1 rfl))<|bi (i:=10) (fun _ _ _ _=>id) rfl (by kernel_rfl) rfl rfl rfl rfl (congrArg Value.bool k1) (ve (am jA rfl))<|iv (i:=11) (fun _ _ _ _=>id) H4 rfl (by kernel_rfl) rfl rfl rfl (congrArg Value.bool k1) bj rfl (fun _=>rfl) rfl fun x16 H5=>bg (i:=12) (by kernel_rfl) (way_on rfl rfl rfl rfl (congrArg Value.bool k1) (aA H5 en_95 rfl rfl fun r17 _ H6=>⟨(.cons_cons _ .slnil),bi (i:=13) (fun _ _ _ _=>id) rfl (by kernel_rfl) rfl rfl rfl rfl (congrArg Value.bool k1) (ve (cc rfl rfl))<|ah (i:=14) (fun _ _ _ _=>id) rfl (by kernel_rfl) rfl (ve (aT rfl k1 rfl))<|ah (i:=15) (fun _ _ _ _=>id) rfl (by kernel_rfl) rfl (ve (ac rfl))<|jB H6 (fun k7 H8=>bi (i:=16) (fun _ _ _ _=>id) rfl (by kernel_rfl) rfl rfl rfl rfl (congrArg Value.bool k7) (ve (am ge rfl))<|bi (i:=17) (fun _ _ _ _=>id) rfl (by kernel_rfl) rfl rfl rfl rfl (congrArg Value.bool k7) (ve (am qJ rfl))<|bi (i:=18) (fun _ _ _ _=>id) rfl (by kernel_rfl) rfl rfl rfl rfl (congrArg Value.bool k7) (dn (k:=0) bj rfl rfl rfl)<|bi (i:=19) (fun _ _ _ _=>id) rfl (by kernel_rfl) rfl rfl rfl rfl (congrArg Value.bool k7) (ve (pA rfl rfl))<|ah (i:=20) (fun _ _ _ _=>id) rfl (by kernel_rfl) rfl (ve (aT rfl k7 rfl))<|ah (i:=21) (fun _ _ _ _=>id) rfl (by kernel_rfl) rfl (ve (ae rfl))<|bd (by kernel_rfl)<|an<|av (az rfl (aE rfl)) ⟨(a1.fLine.fRights != 0),rfl,H8⟩) (fun k7 H8=>aw (i:=16) (fun _ _ _ _=>id) rfl (by kernel_rfl) rfl rfl rfl rfl (aZ k7)<|aw (i:=17) (fun _ _ _ _=>id) rfl (by kernel_rfl) rfl rfl rfl rfl (aZ k7)<|aw (i:=18) (fun _ _ _ _=>id) rfl (by kernel_rfl) rfl rfl rfl rfl (aZ k7)<|aw (i:=19) (fun _ _ _ _=>id) rfl (by kernel_rfl) rfl rfl rfl rfl (aZ k7)<|ah (i:=20) (fun _ _ _ _=>id) rfl (by kernel_rfl) rfl (ve (ax rfl k7 rfl))<|ah (i:=21) (fun _ _ _ _=>id) rfl (by kernel_rfl) rfl (ve (ae rfl))<|bd (by kernel_rfl)<|an<|av (az rfl (aE rfl)) ⟨false,rfl,H8⟩)⟩))) (fun k1 H2=>aw (i:=5) (fun _ _ _ _=>id) rfl (by kernel_rfl) rfl rfl rfl rfl (aZ k1)<|aw (i:=6) (fun _ _ _ _=>id) rfl (by kernel_rfl) rfl rfl rfl rfl (aZ k1)<|aw (i:=7) (fun _ _ _ _=>id) rfl (by kernel_rfl) rfl rfl rfl rfl (aZ k1)<|aw (i:=8) (fun _ _ _ _=>id) rfl (by kernel_rfl) rfl rfl rfl rfl (aZ k1)<|aw (i:=9) (fun _ _ _ _=>id) rfl (by kernel_rfl) rfl rfl rfl rfl (aZ k1)<|aw (i:=10) (fun _ _ _ _=>id) rfl (by kernel_rfl) rfl rfl rfl rfl (aZ k1)<|aw (i:=11) (fun _ _ _ _=>id) rfl (by kernel_rfl) rfl rfl rfl rfl (aZ k1)<|aw (i:=12) (fun _ _ _ _=>id) rfl (by kernel_rfl) rfl rfl rfl rfl (aZ k1)<|aw (i:=13) (fun _ _ _ _=>id) rfl (by kernel_rfl) rfl rfl rfl rfl (aZ k1)<|ah (i:=14) (fun _ _ _ _=>id) rfl (by kernel_rfl) rfl (ve (ax rfl k1 rfl))<|ah (i:=15) (fun _ _ _ _=>id) rfl (by kernel_rfl) rfl (ve (ac rfl))<|aw (i:=16) (fun _ _ _ _=>id) rfl (by kernel_rfl) rfl rfl rfl rfl rfl<|aw (i:=17) (fun _ _ _ _=>id) rfl (by kernel_rfl) rfl rfl rfl rfl rfl<|aw (i:=18) (fun _ _ _ _=>id) rfl (by kernel_rfl) rfl rfl rfl rfl rfl<|aw (i:=19) (fun _ _ _ _=>id) rfl (by kernel_rfl) rfl rfl rfl rfl rfl<|ah (i:=20) (fun _ _ _ _=>id) rfl (by kernel_rfl) rfl (ve (ax rfl rfl rfl))<|ah (i:=21) (fun _ _ _ _=>id) rfl (by kernel_rfl) rfl (ve (ae rfl))<|bd (by kernel_rfl)<|an<|av (az rfl (aE rfl)) ⟨false,rfl,H2⟩))
def rN (b25:Nat) (Rec8:Int→Hp→Prop) (s7:Int) (x36:aO) (s22:Unit):Hp→Prop:=cl Tryz.prog nh [(.pointer (some ⟨b25,0,none⟩)),(.agg (aO.C x36).toArray)] aG fun r49=>br r49 ( ld (b25,4) cP fun x53=>cl Tryz.prog eW [(pv x53),(.int .i64 x36.fLine.fFrame),(.agg (ao.C x36.fCall).toArray)] bA fun r59=>Rec8 (IntKind.i64.wrap (s7 + 1))) ( Rec8 (IntKind.i64.wrap (s7 + 1)))
def rM (K:(Int × Bool)→Hp→Prop) (b25:Nat) (Rec8:Int→Hp→Prop) (s7:Int) (x32:Int) (x36:aO) (s29:Bool):Hp→Prop:=br s29 ( K (x32,false)) ( rN b25 Rec8 s7 x36 ())
def wJ (a0:Sl) (a2:Bool) (a3:Bool) (K:(Int × Bool)→Hp→Prop) (b25:Nat) (r27:Sl) (Rec8:Int→Hp→Prop) (s7:Int):Hp→Prop:=br (decide (s7 < (r27.len:Int))) ( ix r27 s7 fun q31=>ld (q31.1,q31.2 + Int.toNat s7 * 1) (cI .i64) fun x32=>ix a0 x32 fun q35=>ld (q35.1,q35.2 + Int.toNat x32 * 16) aO.C fun x36=>br (qb x36) ( br a3 ( cl Tryz.prog lr [(.pointer (some ⟨b25,0,none⟩)),(.agg (aO.C x36).toArray)] aG fun r43=>rM K b25 Rec8 s7 x32 x36 (!r43)) ( rM K b25 Rec8 s7 x32 x36 false)) ( ld (b25,4) cP fun x64=>cl Tryz.prog dG [(pv x64),(.int .i64 x36.fEnv),(.agg (ao.C x36.fCall).toArray)] bA fun r69=>br (a2 && ((!r69.2) || (!(ak.eqb r69.1 x36.fAnswer)))) ( K (x32,false)) ( Rec8 (IntKind.i64.wrap (s7 + 1))))) ( K ((-1),true))
def sh_judge_run (a0:Sl) (a1:aM) (a2:Bool) (a3:Bool) (K:(Int × Bool)→Hp→Prop):Hp→Prop:=cl Tryz.prog wE [(sv a0),(.agg (aM.C a1).toArray)] aG fun r18=>br (!r18) ( K ((-1),false)) ( cl Tryz.prog lf [(.agg (aM.C a1).toArray)] dB fun r23=>nw dp (kx.C (⟨a0,a1,r23⟩:kx)) fun b25=>cl Tryz.prog oG [(sv a0)] cG fun r27=>Lp (wJ a0 a2 a3 K b25 r27) 0)
set_option maxRecDepth 20000 in
theorem sim_judge_run (a0:Sl) (a1:aM) (a2:Bool) (a3:Bool) {K:(Int × Bool)→Hp→Prop} {h:Hp} (H:sh_judge_run a0 a1 a2 a3 K h):Ct Tryz.prog ue #[(sv a0),(.agg (aM.C a1).toArray),(.bool a2),(.bool a3)] h fun v h'=>∃ r,v = bZ r∧K r h':=aC [(sv a0),(.agg (aM.C a1).toArray),(.bool a2),(.bool a3)] Tryz.func82 rfl rfl rfl fun _=>ag<|ab<|aj (cH (l:=(aM.C a1)) rfl rfl rfl fun b5=>aa (ae rfl) rfl<|aa (ae rfl) rfl<|ad<|ag<|ag<|ab<|aa (ac rfl) rfl<|bz (bO (k:=0) py rfl rfl rfl rfl) rfl<|aj (aA H en_19 rfl rfl fun r18 _ H1=>aa (cw rfl) rfl<|ad<|aD rfl H1 (fun k2 H3=>ag<|ab<|aa (ae rfl) rfl<|aa (ae rfl) rfl<|ad<|an<|av (cf rfl (aE rfl) (aE rfl)) ⟨((-1),false),rfl,H3⟩) (fun k2 H3=>au<|ag<|bE (n:=7) [bx b5 35 (aM.C a1)] cy rfl (.cons_cons _ .slnil)<|ah (i:=0) (fun _ _ _ _=>id) rfl (by kernel_rfl) rfl (ve (ac rfl))<|ah (i:=1) (fun _ _ _ _=>id) rfl (by kernel_rfl) rfl (eu (k:=0) py rfl rfl rfl rfl)<|ah (i:=2) (fun _ _ _ _=>id) rfl (by kernel_rfl) rfl (eu (k:=0) py rfl rfl rfl rfl)<|bg (i:=3) (by kernel_rfl) (aJ rfl rfl (aA H3 en_60 rfl rfl fun r23 _ H4=>⟨(.cons_cons _ .slnil),ah (i:=4) (fun _ _ _ _=>id) rfl (by kernel_rfl) rfl (ve (bo rfl (build_168_0_1_2 a0 a1 r23)))<|bg (i:=5) (by kernel_rfl) (aJ rfl rfl (hU rfl rfl rfl H4 fun b25 _ H5=>⟨(.cons_cons _ .slnil),ah (i:=6) (fun _ _ _ _=>id) rfl (by kernel_rfl) rfl (ve (ae rfl))<|bd (by kernel_rfl)<|ag<|ag<|ab<|aa (ac rfl) rfl<|aj (aA H5 en_26 rfl rfl fun r27 _ H6=>aa (dH rfl Tryz.underlying41 rfl) rfl<|aa (ac rfl) rfl<|ad<|aF<|bS (step:=wJ a0 a2 a3 K b25 r27) (fun s7=>[(0,(sv a0)),(2,(.bool a2)),(3,(.bool a3)),(10,(.pointer (some ⟨b25,0,none⟩))),(27,(sv r27)),(28,(.int .i64 (r27.len:Int))),(29,(.int .i64 s7))]) (fun s7=>[]) H6 (.cons rfl (.cons rfl (.cons rfl (.cons rfl (.cons rfl (.cons rfl (.cons rfl (.nil _)))))))) (.cons _ .slnil) (fun Rec8 s7 _ H9=>ag<|ab<|aa (cA rfl rfl) rfl<|ad<|ag<|aD rfl H9 (fun k10 H11=>au<|ag<|aF<|ag<|ab<|cu H11 fun q31 e12 h13 H14=>aa (bC iC (aX rfl (bm e12)) rfl h13) rfl<|aj (bf H14 bj rfl (fun _=>rfl) rfl fun x32 H15=>aa (ae rfl) rfl<|ad<|ag<|ab<|aa (ac rfl) rfl<|aa (ac rfl) rfl<|cu H15 fun q35 e16 h17 H18=>aa (bC kT (aX rfl (bm e16)) rfl h17) rfl<|aj (gL H18 ag_51 rfl (fun _=>rfl) rfl fun x36 H19=>aj (bb (l:=(aO.C (⟨0,0,(⟨0,0,0,0,0⟩:ao),0,0,0,(⟨0,0⟩:ak),(⟨0,0,0,0⟩:ar)⟩:aO))) zero_51 rfl rfl fun b13=>aj (bc (k:=0) (vs:=(aO.C x36)) inf_51 rfl rfl rfl rfl rfl rfl rfl<|ad<|ag<|ag<|ab<|bz (bO (k:=0) ag_51 rfl rfl rfl rfl) rfl<|aj (cL (vs:=[(.agg (aO.C x36).toArray)]) (bI (ct_judge_user x36 _)) en_120 rfl rfl<|ad<|aD rfl H19 (fun k20 H21=>eG (rN b25 Rec8 s7 x36) (fun s22=>[(0,(sv a0)),(2,(.bool a2)),(3,(.bool a3)),(10,(.pointer (some ⟨b25,0,none⟩))),(13,(.pointer (some ⟨b13,0,none⟩))),(27,(sv r27)),(28,(.int .i64 (r27.len:Int))),(29,(.int .i64 s7))]) (fun s22=>[bx b13 51 (aO.C x36)]) ( eG (rM K b25 Rec8 s7 x32 x36) (fun s29=>[(0,(sv a0)),(2,(.bool a2)),(3,(.bool a3)),(10,(.pointer (some ⟨b25,0,none⟩))),(12,(.int .i64 x32)),(13,(.pointer (some ⟨b13,0,none⟩))),(27,(sv r27)),(28,(.int .i64 (r27.len:Int))),(29,(.int .i64 s7)),(45,(.bool s29))]) (fun s29=>[bx b13 51 (aO.C x36)]) ( ab<|aa (ac rfl) rfl<|aa (ac rfl) rfl<|ai rfl rfl rfl (aB _) (fun g33=>wv (ac rfl)) rfl<|ai rfl rfl rfl (aB _) (fun g34=>cv (bO (k:=0) ag_51 rfl rfl rfl rfl)) rfl<|bW H21 (fun k36 H37=>aI rfl rfl rfl (congrArg Value.bool k36) (aA H37 en_121 (aY (aK rfl k36) (aY (aK rfl k36) bU)) rfl fun r43 _ H38=>aI rfl rfl rfl (congrArg Value.bool k36) (aN (wv (cw rfl)) rfl<|aa (aT rfl k36 rfl) rfl<|ad<|cQ (!r43) H38 (.cons rfl (.cons rfl (.cons rfl (.cons rfl (.cons rfl (.cons rfl (.cons rfl (.cons rfl (.cons rfl (.cons rfl (.nil _))))))))))) (.cons_cons _ .slnil)))) (fun k36 H37=>al rfl rfl rfl (aZ k36) rfl<|al rfl rfl rfl (aZ k36) rfl<|aa (ax rfl k36 rfl) rfl<|ad<|cQ false H37 (.cons rfl (.cons rfl (.cons rfl (.cons rfl (.cons rfl (.cons rfl (.cons rfl (.cons rfl (.cons rfl (.cons rfl (.nil _))))))))))) (.cons_cons _ .slnil))) (fun s29 _ H30=>aD rfl H30 (fun k31 H32=>ag<|ab<|aa (ac rfl) rfl<|aa (ae rfl) rfl<|aa (ae rfl) rfl<|ad<|an<|av (cf rfl (aE rfl) (aE rfl)) ⟨(x32,false),rfl,H32⟩) (fun k31 H32=>au<|cQ () H32 (.cons rfl (.cons rfl (.cons rfl (.cons rfl (.cons rfl (.cons rfl (.cons rfl (.cons rfl (.nil _))))))))) (.cons_cons _ .slnil)))) (fun s22 _ H23=>ag<|ag<|ab<|aa (ac rfl) rfl<|bz (bO (k:=0) ag_51 rfl rfl rfl rfl) rfl<|aj (aA H23 en_122 rfl rfl fun r49 _ H24=>ad<|aD rfl H24 (fun k25 H26=>bE (n:=10) [bx b13 51 (aO.C x36)] cy rfl (.cons_cons _ .slnil)<|ah (i:=0) (fun _ _ _ _=>id) rfl (by kernel_rfl) rfl (ve (ac rfl))<|ah (i:=1) (fun _ _ _ _=>id) rfl (by kernel_rfl) rfl (ve (aU rfl))<|ah (i:=2) (fun _ _ _ _=>id) rfl (by kernel_rfl) rfl (ve (am vq rfl))<|ah (i:=4) (fun _ _ _ _=>id) rfl (by kernel_rfl) rfl (ve (am ge rfl))<|ah (i:=5) (fun _ _ _ _=>id) rfl (by kernel_rfl) rfl (ve (am lx rfl))<|ah (i:=6) (fun _ _ _ _=>id) rfl (by kernel_rfl) rfl (dn (k:=0) bj rfl rfl rfl)<|ah (i:=7) (fun _ _ _ _=>id) rfl (by kernel_rfl) rfl (ve (am lw rfl))<|ah (i:=8) (fun _ _ _ _=>id) rfl (by kernel_rfl) rfl (eu (k:=0) eN rfl rfl rfl rfl)<|bR (i:=3) (fun _ _ _ _=>id) H26 rfl (by kernel_rfl) vg rfl (fun _=>rfl) rfl fun x53 H27=>bg (i:=9) (by kernel_rfl) (aJ rfl rfl (aA H27 en_99 rfl rfl fun r59 _ H28=>⟨(.cons_cons _ .slnil),bd (by kernel_rfl)<|bD<|ab<|aa (bM rfl rfl) rfl<|aa (ac rfl) rfl<|ad<|cW (IntKind.i64.wrap (s7 + 1)) H28 (.cons rfl (.cons rfl (.cons rfl (.cons rfl (.cons rfl (.cons rfl (.cons rfl (.nil _)))))))) (.cons _ .slnil)⟩))) (fun k25 H26=>au<|bD<|ab<|aa (bM rfl rfl) rfl<|aa (ac rfl) rfl<|ad<|cW (IntKind.i64.wrap (s7 + 1)) H26 (.cons rfl (.cons rfl (.cons rfl (.cons rfl (.cons rfl (.cons rfl (.cons rfl (.nil _)))))))) (.cons _ .slnil))))) (fun k20 H21=>au<|ag<|bE (n:=15) [bx b13 51 (aO.C x36)] cy rfl (.cons_cons _ .slnil)<|ah (i:=0) (fun _ _ _ _=>id) rfl (by kernel_rfl) rfl (ve (ac rfl))<|ah (i:=1) (fun _ _ _ _=>id) rfl (by kernel_rfl) rfl (ve (aU rfl))<|ah (i:=2) (fun _ _ _ _=>id) rfl (by kernel_rfl) rfl (ve (am vq rfl))<|ah (i:=4) (fun _ _ _ _=>id) rfl (by kernel_rfl) rfl (ve (am mJ rfl))<|ah (i:=5) (fun _ _ _ _=>id) rfl (by kernel_rfl) rfl (dn (k:=0) bj rfl rfl rfl)<|ah (i:=6) (fun _ _ _ _=>id) rfl (by kernel_rfl) rfl (ve (am lw rfl))<|ah (i:=7) (fun _ _ _ _=>id) rfl (by kernel_rfl) rfl (eu (k:=0) eN rfl rfl rfl rfl)<|bR (i:=3) (fun _ _ _ _=>id) H21 rfl (by kernel_rfl) vg rfl (fun _=>rfl) rfl fun x64 H39=>jD (i:=8) (j:=12) (by kernel_rfl) (aJ rfl rfl (aA H39 en_73 rfl rfl fun r69 _ H41=>⟨(.cons_cons _ .slnil),ah (i:=9) (fun _ _ _ _=>id) rfl (by kernel_rfl) rfl (ve (ac rfl))<|ah (i:=10) (fun _ _ _ _=>id) rfl (by kernel_rfl) rfl (ve (ap rfl rfl))<|ah (i:=11) (fun _ _ _ _=>id) rfl (by kernel_rfl) rfl (ve (ap rfl rfl))<|bg (i:=12) (by kernel_rfl) (aJ rfl rfl (bb (l:=(ak.C (⟨0,0⟩:ak))) di rfl rfl fun b14=>⟨(.cons _ (.cons_cons _ .slnil)),bg (i:=13) (by kernel_rfl) (aJ rfl rfl (bc (k:=0) (vs:=(ak.C r69.1)) cd rfl rfl rfl rfl rfl rfl rfl<|⟨(.cons _ (.cons_cons _ .slnil)),ah (i:=14) (fun _ _ _ _=>id) rfl (by kernel_rfl) rfl (ve (ae rfl))<|bd (by kernel_rfl)<|ag<|ab<|aa (ac rfl) rfl<|aa (ac rfl) rfl<|ai rfl rfl rfl (aB _) (fun g42=>wv (ac rfl)) rfl<|ai rfl rfl rfl (aB _) (fun g43=>wv (cw (aK rfl g43))) rfl<|ai rfl rfl rfl (aB _) (fun g44=>wv (ac (aK rfl g44))) rfl<|ai rfl rfl rfl (dX _ _) (fun g45=>cv (bO (k:=0) cK rfl rfl rfl rfl)) rfl<|ai rfl rfl rfl (dX _ _) (fun g46=>wv (am ki rfl)) rfl<|ai rfl rfl rfl (dX _ _) (fun g47=>cv (bO (k:=1) cK (aK rfl g47) rfl rfl rfl)) rfl<|ai rfl rfl rfl (dX _ _) (fun g48=>wv (v_neA eqg_47 (eqr_47 9998 _ _) (aK rfl g48) (aK rfl g48))) rfl<|ai rfl rfl rfl (aB _) (fun g49=>wv (du (aK rfl g49) (aX rfl (wM g49)))) rfl<|aa (bX rfl rfl) rfl<|ad<|aD rfl H41 (fun k50 H51=>ag<|ab<|aa (ac rfl) rfl<|aa (ae rfl) rfl<|aa (ae rfl) rfl<|ad<|an<|av (cf rfl (aE rfl) (aE rfl)) ⟨(x32,false),rfl,H51⟩) (fun k50 H51=>au<|ab<|aa (bM rfl rfl) rfl<|aa (ac rfl) rfl<|ad<|cW (IntKind.i64.wrap (s7 + 1)) H51 (.cons rfl (.cons rfl (.cons rfl (.cons rfl (.cons rfl (.cons rfl (.cons rfl (.nil _)))))))) (.cons _ (.cons _ .slnil)))⟩))⟩))⟩)) (aJ rfl rfl (bb (l:=(ak.C (⟨0,0⟩:ak))) di rfl rfl fun b14=>⟨(.cons _ (.cons_cons _ .slnil)),bg (i:=8) (by kernel_rfl) (aJ rfl rfl (aA H39 en_73 rfl rfl fun r69 _ H41=>⟨(.cons _ (.cons_cons _ .slnil)),ah (i:=9) (fun _ _ _ _=>id) rfl (by kernel_rfl) rfl (ve (ac rfl))<|ah (i:=10) (fun _ _ _ _=>id) rfl (by kernel_rfl) rfl (ve (ap rfl rfl))<|ah (i:=11) (fun _ _ _ _=>id) rfl (by kernel_rfl) rfl (ve (ap rfl rfl))<|bg (i:=13) (by kernel_rfl) (aJ rfl rfl (bc (k:=0) (vs:=(ak.C r69.1)) cd rfl rfl rfl rfl rfl rfl rfl<|⟨(.cons _ (.cons_cons _ .slnil)),ah (i:=14) (fun _ _ _ _=>id) rfl (by kernel_rfl) rfl (ve (ae rfl))<|bd (by kernel_rfl)<|ag<|ab<|aa (ac rfl) rfl<|aa (ac rfl) rfl<|ai rfl rfl rfl (aB _) (fun g42=>wv (ac rfl)) rfl<|ai rfl rfl rfl (aB _) (fun g43=>wv (cw (aK rfl g43))) rfl<|ai rfl rfl rfl (aB _) (fun g44=>wv (ac (aK rfl g44))) rfl<|ai rfl rfl rfl (dX _ _) (fun g45=>cv (bO (k:=0) cK rfl rfl rfl rfl)) rfl<|ai rfl rfl rfl (dX _ _) (fun g46=>wv (am ki rfl)) rfl<|ai rfl rfl rfl (dX _ _) (fun g47=>cv (bO (k:=1) cK (aK rfl g47) rfl rfl rfl)) rfl<|ai rfl rfl rfl (dX _ _) (fun g48=>wv (v_neA eqg_47 (eqr_47 9998 _ _) (aK rfl g48) (aK rfl g48))) rfl<|ai rfl rfl rfl (aB _) (fun g49=>wv (du (aK rfl g49) (aX rfl (wM g49)))) rfl<|aa (bX rfl rfl) rfl<|ad<|aD rfl H41 (fun k50 H51=>ag<|ab<|aa (ac rfl) rfl<|aa (ae rfl) rfl<|aa (ae rfl) rfl<|ad<|an<|av (cf rfl (aE rfl) (aE rfl)) ⟨(x32,false),rfl,H51⟩) (fun k50 H51=>au<|ab<|aa (bM rfl rfl) rfl<|aa (ac rfl) rfl<|ad<|cW (IntKind.i64.wrap (s7 + 1)) H51 (.cons rfl (.cons rfl (.cons rfl (.cons rfl (.cons rfl (.cons rfl (.cons rfl (.nil _)))))))) (.cons _ (.cons _ .slnil)))⟩))⟩))⟩))))))))) (fun k10 H11=>bD<|ag<|ab<|aa (ae rfl) rfl<|aa (ae rfl) rfl<|ad<|an<|av (cf rfl (aE rfl) (aE rfl)) ⟨((-1),true),rfl,H11⟩)))⟩))⟩)))))
def sh_judge_Linear (a0:Sl) (a1:aM) (K:(Int × Bool)→Hp→Prop):Hp→Prop:=cl Tryz.prog ue [(sv a0),(.agg (aM.C a1).toArray),(.bool true),(.bool false)] bZ fun r8=>K (r8.1,r8.2)
set_option maxRecDepth 20000 in
theorem sim_judge_Linear (a0:Sl) (a1:aM) {K:(Int × Bool)→Hp→Prop} {h:Hp} (H:sh_judge_Linear a0 a1 K h):Ct Tryz.prog oE #[(sv a0),(.agg (aM.C a1).toArray)] h fun v h'=>∃ r,v = bZ r∧K r h':=aC [(sv a0),(.agg (aM.C a1).toArray)] Tryz.func44 rfl rfl rfl fun _=>ag<|ab<|aj (cH (l:=(aM.C a1)) rfl rfl rfl fun b3=>aa (ae rfl) rfl<|aa (ae rfl) rfl<|ad<|ag<|ab<|aa (ac rfl) rfl<|bz (bO (k:=0) py rfl rfl rfl rfl) rfl<|aj (aA H en_82 rfl rfl fun r8 _ H1=>aa (ap rfl rfl) rfl<|aa (ap rfl rfl) rfl<|aa (ae rfl) rfl<|aa (ae rfl) rfl<|ad<|an<|av (cf rfl (aE rfl) (aE rfl)) ⟨(r8.1,r8.2),rfl,H1⟩))
def sh_judge_Access (a0:Sl) (a1:aM) (K:(Int × Bool)→Hp→Prop):Hp→Prop:=cl Tryz.prog ue [(sv a0),(.agg (aM.C a1).toArray),(.bool false),(.bool true)] bZ fun r8=>K (r8.1,r8.2)
set_option maxRecDepth 20000 in
theorem sim_judge_Access (a0:Sl) (a1:aM) {K:(Int × Bool)→Hp→Prop} {h:Hp} (H:sh_judge_Access a0 a1 K h):Ct Tryz.prog oF #[(sv a0),(.agg (aM.C a1).toArray)] h fun v h'=>∃ r,v = bZ r∧K r h':=aC [(sv a0),(.agg (aM.C a1).toArray)] Tryz.func49 rfl rfl rfl fun _=>ag<|ab<|aj (cH (l:=(aM.C a1)) rfl rfl rfl fun b3=>aa (ae rfl) rfl<|aa (ae rfl) rfl<|ad<|ag<|ab<|aa (ac rfl) rfl<|bz (bO (k:=0) py rfl rfl rfl rfl) rfl<|aj (aA H en_82 rfl rfl fun r8 _ H1=>aa (ap rfl rfl) rfl<|aa (ap rfl rfl) rfl<|aa (ae rfl) rfl<|aa (ae rfl) rfl<|ad<|an<|av (cf rfl (aE rfl) (aE rfl)) ⟨(r8.1,r8.2),rfl,H1⟩))
def sh_judge_Right (a0:Sl) (a1:aM) (K:Bool→Hp→Prop):Hp→Prop:=cl Tryz.prog oE [(sv a0),(.agg (aM.C a1).toArray)] bZ fun r12=>cl Tryz.prog oF [(sv a0),(.agg (aM.C a1).toArray)] bZ fun r18=>K (r12.2 && r18.2)
set_option maxRecDepth 20000 in
theorem sim_judge_Right (a0:Sl) (a1:aM) {K:Bool→Hp→Prop} {h:Hp} (H:sh_judge_Right a0 a1 K h):Ct Tryz.prog ux #[(sv a0),(.agg (aM.C a1).toArray)] h fun v h'=>∃ r,v = aG r∧K r h':=aC [(sv a0),(.agg (aM.C a1).toArray)] Tryz.func41 rfl rfl rfl fun _=>ag<|ab<|aj (cH (l:=(aM.C a1)) rfl rfl rfl fun b3=>aa (ae rfl) rfl<|ad<|ag<|ab<|aa (ac rfl) rfl<|bz (bO (k:=0) py rfl rfl rfl rfl) rfl<|aj (aA H en_44 rfl rfl fun r12 _ H1=>aa (ac rfl) rfl<|aa (ap rfl rfl) rfl<|aa (ap rfl rfl) rfl<|aa (ae rfl) rfl<|aa (ae rfl) rfl<|ad<|ag<|ab<|aa (ac rfl) rfl<|bz (bO (k:=0) py rfl rfl rfl rfl) rfl<|aj (aA H1 en_49 rfl rfl fun r18 _ H2=>aa (ac rfl) rfl<|aa (ap rfl rfl) rfl<|aa (ap rfl rfl) rfl<|aa (ae rfl) rfl<|aa (ae rfl) rfl<|ad<|ag<|ab<|aa (ac rfl) rfl<|aa (ac rfl) rfl<|ai rfl rfl rfl (aB _) (fun g3=>wv (ac rfl)) rfl<|aa (bX rfl rfl) rfl<|aa (ae rfl) rfl<|ad<|an<|av (az rfl (aE rfl)) ⟨(r12.2 && r18.2),rfl,H2⟩)))
end Go.Proofs.YtniiiakkdoiaiaaGreatDoor
namespace Go.Proofs.YtniiiakkdoiaiaaGreatDoor
open Go Mb
abbrev vG (s:Sl) (xs:List Pte):As:=vec t_api_Pte 3 aq.C s xs
theorem pte_one (p:Pte):dO p.C = true:=rfl
namespace Judge
def ev (es:List co) (i:Int):co:=es.getD i.toNat Hist.ev00
def takes (e:co):Bool:=(aP e.fCall).1 == 7 || (aP e.fCall).1 == 8 || (aP e.fCall).1 == 4 || (aP e.fCall).1 == 5
def othersFrom (k:PK) (es:List co) (env pg:Int):List Int→List Pte
  | []=>[]
  | i::l=>if takes (ev es i) = true then (PK.pte (PK.do_ k (ev es i).fEnv (ev es i).fCall).2 env pg).1::othersFrom k es env pg l else othersFrom k es env pg l
def others (k:PK) (es:List co) (at_ env pg:Int):List Pte:=(PK.pte k env pg).1::othersFrom k es env pg (Hist.over es at_)
def faults (e:co) (l:List Pte):Bool:=l.any fun p=>!(dx p.fRights (IntKind.i64.wrap e.fCall.e0))
def goes (e:co) (l:List Pte):Bool:=l.any fun p=>(p.fFrame == e.fLine.fFrame) && (bv e.fLine.fRights p.fRights)
def own (e:co):Bool:=((e.fLine.fEnv == e.fEnv) && (e.fLine.fPage == (IntKind.i64.wrap e.fCall.e1))) && (dx e.fLine.fRights (IntKind.i64.wrap e.fCall.e0))
def access (k:PK) (es:List co) (s:gj) (e:co):Bool :=
  if Word.check e.fCall s.fEnvs ≠ 0 then (ak.eqb e.fAnswer ⟨Word.check e.fCall s.fEnvs,0⟩) && (ar.eqb e.fLine ms)
  else if e.fAnswer.fErr = 7 then (faults e (others k es e.fEffect e.fEnv (IntKind.i64.wrap e.fCall.e1)) && (e.fAnswer.fVal == 0)) && (ar.eqb e.fLine ms)
  else ((goes e (others k es e.fEffect e.fEnv (IntKind.i64.wrap e.fCall.e1)) && own e) && (PK.touch k e.fLine.fFrame e.fCall).1.2) && (ak.eqb (PK.touch k e.fLine.fFrame e.fCall).1.1 e.fAnswer)
def well (s:gj) (e:co):Bool:=(e.fAnswer.fErr == 0) && (Word.check e.fCall s.fEnvs == 0) && (e.fLine.fRights != 0)
def runFrom (es:List co) (s:gj) (lin acc:Bool):PK→List Int→Int × Bool
  | _,[]=>(-1,true)
  | k,i::l =>
    if qb (ev es i) = true then (if acc = true∧access k es s (ev es i) = false then (i,false) else runFrom es s lin acc (if well s (ev es i) = true then (PK.touch k (ev es i).fLine.fFrame (ev es i).fCall).2 else k) l)
    else if lin = true∧((PK.do_ k (ev es i).fEnv (ev es i).fCall).1.2 = false∨ak.eqb (PK.do_ k (ev es i).fEnv (ev es i).fCall).1.1 (ev es i).fAnswer = false) then (i,false)
    else runFrom es s lin acc (PK.do_ k (ev es i).fEnv (ev es i).fCall).2 l
def run (es:List co) (s:gj) (lin acc:Bool):Int × Bool:=if Hist.may es s = true then runFrom es s lin acc (PK.new s) (Hist.order es) else (-1,false)
def linear (es:List co) (s:gj):Int × Bool:=run es s true false
def accesses (es:List co) (s:gj):Int × Bool:=run es s false true
def right (es:List co) (s:gj):Bool:=(linear es s).2 && (accesses es s).2
theorem ev_nat {es:List co} {n:Nat} (h:n < es.length):ev es n = es[n]:=by simp [ev,h]
theorem othersFrom_app (k:PK) (es:List co) (env pg:Int) (i:Int):∀ l,othersFrom k es env pg (l++[i]) = othersFrom k es env pg l++(if takes (ev es i) = true then [(PK.pte (PK.do_ k (ev es i).fEnv (ev es i).fCall).2 env pg).1] else [])
  | []=>by simp only [List.nil_append,othersFrom]
  | j::l=>by
    simp only [List.cons_append,othersFrom,othersFrom_app k es env pg i l]
    split <;> simp
theorem othersFrom_len (k:PK) (es:List co) (env pg:Int):∀ l,(othersFrom k es env pg l).length ≤ l.length
  | []=>Nat.le_refl _
  | i::l=>by unfold othersFrom; have:=othersFrom_len k es env pg l; split <;> simp <;> omega
end Judge
abbrev jc (s:Sl) (z:gj) (pk:Ptr):List Value:=[sv s,.int .i64 z.fCores,.int .i64 z.fEnvs,.int .i64 z.fFrames,pv pk]
theorem sp_judge_others (jb:Nat) (s:Sl) (z:gj) (pk:Ptr) (es:List co) (k:PK) (a env pg:Int) (hb:es.length < 2 ^ 38) :
    Sp Tryz.prog lq [pv (some (jb,0)),.int .i64 a,.int .i64 env,.int .i64 pg] pZ [blk jb dp (jc s z pk),vE s es,bG pk k] (fun r=>aQ [vG r (Judge.others k es a env pg),blk jb dp (jc s z pk),vE s es,bG pk k]):=by
  intro h s0
  refine wi _ _ _ _ ?_
  unfold pj
  refine cC (bB pk s0 (i:=0) rfl rfl rfl ?_)
  refine bY (rE pk k env pg) (i:=2) rfl s0 fun r h1 hr s1=>?_
  subst hr
  refine fz (τ:=Pte) [(PK.pte k env pg).1] (val:=fun x=>.agg x.C.toArray) (enc:=aq.C) el_Sapi_Pte jm (fun _=>rfl) s1 rfl rfl (by simp) fun v h2 s2=>?_
  refine bB s s2 (i:=1) rfl rfl rfl ?_
  refine tj (sp_hist_Over s es a hb) (i:=2) rfl s2 fun r37 h3 s3=>?_
  have hrl:=(cn (j:=0) s3 rfl).1
  have hol:=Hist.placesFrom_len (fun e=>decide (e.fBegin ≤ a) && (e.fEffect == 0 || decide (e.fEffect > a))) es 0
  have hol':(Hist.over es a).length ≤ es.length:=hol
  refine Lp.intro (fun (y:Sl × Int) h=>∃ n:Nat,y.2 = n∧n ≤ (Hist.over es a).length∧aQ [vI r37 (Hist.over es a),vG y.1 ((PK.pte k env pg).1::Judge.othersFrom k es env pg ((Hist.over es a).take n)),blk jb dp (jc s z pk),vE s es,bG pk k] h) (fun (y:Sl × Int) _=>(Hist.over es a).length - y.2.toNat) ⟨0,rfl,Nat.zero_le _,s3⟩ ?_
  rintro ⟨y,i⟩ h ⟨n,rfl,hn,s4⟩
  unfold kD
  refine bk (fun d=>?_) (fun d=>?_)
  · have hlt:n < (Hist.over es a).length:=by rw [hrl] at d; have:=of_decide_eq_true d; simp at this; exact this
    have hw:IntKind.i64.wrap ((n:Int) + 1) = ((n + 1:Nat):Int):=by rw [cm (by omega) (by omega)]; rfl
    have ht:(Hist.over es a).take (n + 1) = (Hist.over es a).take n++[(Hist.over es a)[n]]:=by simp
    have hin:=Hist.places_in (List.getElem_mem hlt)
    have hes:=(cn (j:=3) s4 rfl).1
    obtain ⟨m,hm⟩:=Int.eq_ofNat_of_zero_le hin.1
    have hml:m < es.length:=by omega
    have hev:Judge.ev es (Hist.over es a)[n] = es[m]:=by rw [hm,Judge.ev_nat hml]
    have happ:=Judge.othersFrom_app k es env pg (Hist.over es a)[n] ((Hist.over es a).take n)
    rw [hev] at happ
    have hfl:=Judge.othersFrom_len k es env pg ((Hist.over es a).take n)
    simp at hfl
    refine dF s4 (j:=0) rfl (by omega) (by show (n:Int) < _; omega) fun q hq=>?_
    refine eB (j:=0) (i:=n) (k:=0) (Hist.over es a)[n] (dl _) s4 rfl hq (by simp) (aL hlt) (by simp) ?_
    rw [hm]
    refine bB s s4 (i:=2) rfl rfl rfl ?_
    refine dF s4 (j:=3) rfl (by omega) (by omega) fun q2 hq2=>?_
    refine eB (j:=3) (i:=m) (k:=0) es[m] mt s4 rfl hq2 rfl (aL hml) (by simp) ?_
    have j1:∀ b,b = Judge.takes es[m]→dS env pg (jb,0) (fun s' h'=>(∃ n:Nat,s'.2 = n∧n ≤ (Hist.over es a).length∧aQ [vI r37 (Hist.over es a),vG s'.1 ((PK.pte k env pg).1::Judge.othersFrom k es env pg ((Hist.over es a).take n)),blk jb dp (jc s z pk),vE s es,bG pk k] h')∧(Hist.over es a).length - s'.2.toNat < (Hist.over es a).length - (n:Int).toNat) (y,(n:Int)) es[m] b h:=by
      intro b hb2
      unfold dS
      rw [hb2,hw]
      refine bk (fun d2=>?_) (fun d2=>?_)
      · refine bB pk s4 (i:=2) rfl rfl rfl ?_
        refine tj (uq pk k) (i:=4) rfl s4 fun r66 h5 s5=>?_
        refine bY (jI r66 k es[m].fEnv es[m].fCall) (i:=0) rfl s5 fun r h6 hr s6=>?_
        refine bY (rE r66 _ env pg) (i:=0) rfl s6 fun r h7 hr s7=>?_
        subst hr
        refine ku (τ:=Pte) (i:=2) (enc:=aq.C) (val:=fun x=>.agg x.C.toArray) el_Sapi_Pte jm pte_one (fun _=>rfl) (by omega) rfl rfl s7 rfl (by simp; omega) (by simp; omega) fun v h8 s8=>?_
        refine ⟨⟨n + 1,rfl,hlt,?_⟩,by simp; omega⟩
        rw [ht,happ,if_pos d2]
        exact cj (l:=[bG r66 _]) s8
      · refine ⟨⟨n + 1,rfl,hlt,?_⟩,by simp; omega⟩
        rw [ht,happ,if_neg (by rw [d2]; exact Bool.false_ne_true),List.append_nil]
        exact s4
    refine bk (fun c=>j1 _ (by unfold Judge.takes; rw [c]; rfl)) (fun c=>?_)
    refine bk (fun c2=>j1 _ (by unfold Judge.takes; rw [c,c2]; rfl)) (fun c2=>?_)
    refine bk (fun c3=>j1 _ (by unfold Judge.takes; rw [c,c2,c3]; rfl)) (fun c3=>j1 _ (by unfold Judge.takes; rw [c,c2,c3]; rfl))
  · have:n = (Hist.over es a).length:=by rw [hrl] at d; have:=of_decide_eq_false d; simp at this; omega
    subst this
    rw [List.take_length] at s4
    exact cj (l:=[vI r37 (Hist.over es a)]) s4
theorem any_snoc {α:Type} (f:α→Bool) (l:List α) (x:α):(l++[x]).any f = (l.any f || f x):=by simp
theorem sp_judge_access (jb:Nat) (s:Sl) (z:gj) (pk:Ptr) (es:List co) (k:PK) (e:co) (hb:es.length < 2 ^ 38) :
    Sp Tryz.prog lr [pv (some (jb,0)),.agg e.C.toArray] aG [blk jb dp (jc s z pk),vE s es,bG pk k] (fun r=>pa_ (r = Judge.access k es z e) [blk jb dp (jc s z pk),vE s es,bG pk k]):=by
  intro h s0
  refine wj _ _ ?_
  unfold pn
  refine cC (bB z.fEnvs s0 (i:=0) rfl rfl rfl ?_)
  refine rT (jh e.fCall z.fEnvs) s0 fun r h1 hr s1=>?_
  subst hr
  refine bk (fun d=>?_) (fun d=>?_)
  · exact bh (by unfold Judge.access; rw [if_pos (by simpa using d)]) s1
  · have d':¬ Word.check e.fCall z.fEnvs ≠ 0:=by simpa using d
    refine cT [0,0,0] (sp_judge_others jb s z pk es k e.fEffect e.fEnv (IntKind.i64.wrap e.fCall.e1) hb) s1 rfl fun r50 h2 s2=>?_
    have s3:=dJ s2
    have hrl:=(cn (j:=0) s3 rfl).1
    have hol':(Hist.over es e.fEffect).length ≤ es.length:=Hist.placesFrom_len _ es 0
    have hfl:=Judge.othersFrom_len k es e.fEnv (IntKind.i64.wrap e.fCall.e1) (Hist.over es e.fEffect)
    have hll:(Judge.others k es e.fEffect e.fEnv (IntKind.i64.wrap e.fCall.e1)).length < 2 ^ 39:=by unfold Judge.others; simp; omega
    generalize hL:Judge.others k es e.fEffect e.fEnv (IntKind.i64.wrap e.fCall.e1) = L at *
    refine Lp.intro (fun (y:Bool × Bool × Int) h=>∃ n:Nat,y.2.2 = n∧n ≤ L.length∧y.1 = Judge.faults e (L.take n)∧y.2.1 = Judge.goes e (L.take n)∧aQ [vG r50 L,blk jb dp (jc s z pk),vE s es,bG pk k] h) (fun (y:Bool × Bool × Int) _=>L.length - y.2.2.toNat) ⟨0,rfl,Nat.zero_le _,rfl,rfl,s3⟩ ?_
    rintro ⟨f,g,i⟩ h ⟨n,rfl,hn,hf,hg,s4⟩
    simp only at hf hg
    unfold kE
    refine bk (fun d2=>?_) (fun d2=>?_)
    · have hlt:n < L.length:=by rw [hrl] at d2; have:=of_decide_eq_true d2; simp at this; exact this
      have hw:IntKind.i64.wrap ((n:Int) + 1) = ((n + 1:Nat):Int):=by rw [cm (by omega) (by omega)]; rfl
      have ht:L.take (n + 1) = L.take n++[L[n]]:=by simp
      refine dF s4 (j:=0) rfl (by show (0:Int) ≤ n; omega) (by show (n:Int) < _; omega) fun q hq=>?_
      refine eB (j:=0) (i:=n) (k:=0) L[n] jm s4 rfl hq rfl (aL hlt) (by simp) ?_
      rw [hw]
      refine ⟨⟨n + 1,rfl,hlt,?_,?_,s4⟩,by simp; omega⟩
      · unfold Judge.faults; rw [ht,any_snoc]; show (f || _) = _; rw [hf]; rfl
      · unfold Judge.goes; rw [ht,any_snoc]; show (g || _) = _; rw [hg]; rfl
    · have:n = L.length:=by rw [hrl] at d2; have:=of_decide_eq_false d2; simp at this; omega
      subst this
      rw [List.take_length] at hf hg
      have s5:=cj (l:=[vG r50 L]) s4
      refine bk (fun d3=>?_) (fun d3=>?_)
      · refine bh ?_ s5
        unfold Judge.access
        rw [if_neg d',if_pos (by simpa using d3),hL,← hf]
      · refine bB pk s4 (i:=1) rfl rfl rfl ?_
        refine tj (uq pk k) (i:=2) rfl s5 fun r104 h6 s6=>?_
        refine bY (nW r104 k e.fLine.fFrame e.fCall) (i:=0) rfl s6 fun r h7 hr s7=>?_
        subst hr
        refine bh ?_ (cj (l:=[bG r104 _]) s7)
        unfold Judge.access
        rw [if_neg d',if_neg (by simpa using d3),hL,← hg]
        rfl
theorem sp_judge_well (jb:Nat) (s:Sl) (z:gj) (pk:Ptr) (e:co) :
    Sp Tryz.prog nh [pv (some (jb,0)),.agg e.C.toArray] aG [blk jb dp (jc s z pk)] (fun r=>pa_ (r = Judge.well z e) [blk jb dp (jc s z pk)]):=by
  intro h s0
  refine sim_judge_judge_well _ _ ?_
  unfold rq
  refine bk (fun d=>?_) (fun d=>?_)
  · refine cC (bB z.fEnvs s0 (i:=0) rfl rfl rfl ?_)
    refine rT (jh e.fCall z.fEnvs) s0 fun r h1 hr s1=>?_
    subst hr
    refine bk (fun d2=>?_) (fun d2=>?_)
    · exact bh (by unfold Judge.well; rw [d,d2]; rfl) s1
    · exact bh (by unfold Judge.well; rw [d,d2]; rfl) s1
  · exact bh (by unfold Judge.well; rw [d]; rfl) s0
abbrev OrdOk (s:Sl) (es:List co):Prop:=Sp Tryz.prog oG [sv s] cG [vE s es] (fun r=>aQ [vI r (Hist.order es),vE s es])
theorem order_in {es:List co} {x:Int} (h:x ∈ Hist.order es):0 ≤ x∧x < es.length:=Hist.places_in ((Hist.isort_perm _ _).subset h)
theorem order_len (es:List co):(Hist.order es).length ≤ es.length:=by
  have h1:=(Hist.isort_perm (Hist.eff es) (Hist.effs es)).length_eq
  have h2:=Hist.placesFrom_len (fun e=>decide (e.fEffect > 0)) es 0
  unfold Hist.order; rw [h1]; exact h2
theorem sp_judge_run (s:Sl) (es:List co) (z:gj) (lin acc:Bool) (hz:PK.sized z = true) (hb:es.length < 2 ^ 38) (ho:Hist.Apart es→OrdOk s es) :
    Sp Tryz.prog ue [sv s,.agg z.C.toArray,.bool lin,.bool acc] bZ [vE s es] (fun r=>pa_ (r = Judge.run es z lin acc) [vE s es]):=by
  intro h s0
  refine sim_judge_run _ _ _ _ ?_
  unfold sh_judge_run
  refine bY (sp_hist_May s es z hb) (i:=0) rfl s0 fun r h1 hr s1=>?_
  subst hr
  refine bk (fun d=>?_) (fun d=>?_)
  · exact bh (by unfold Judge.run; rw [if_neg (by simpa using d)]) s1
  · have d':Hist.may es z = true:=by simpa using d
    have er:Judge.run es z lin acc = Judge.runFrom es z lin acc (PK.new z) (Hist.order es):=if_pos d'
    rw [er]
    refine ma (rF z hz) s1 fun pk h2 s2=>?_
    refine oT s2 fun b25 h3 s3=>?_
    refine tj (ho (Hist.may_apart d')) (i:=2) rfl s3 fun r27 h4 s4=>?_
    have hol:=order_len es
    have hrl:=(cn (j:=0) s4 rfl).1
    refine Lp.intro (fun (i:Int) h=>∃ (n:Nat) (k:PK),i = n∧n ≤ (Hist.order es).length∧Judge.runFrom es z lin acc k ((Hist.order es).drop n) = Judge.runFrom es z lin acc (PK.new z) (Hist.order es)∧aQ [vI r27 (Hist.order es),blk b25 dp (jc s z pk),bG pk k,vE s es] h) (fun (i:Int) _=>(Hist.order es).length - i.toNat) ⟨0,_,rfl,Nat.zero_le _,rfl,s4⟩ ?_
    rintro i h ⟨n,k,rfl,hn,he,s5⟩
    have fin:∀ h,aQ [vI r27 (Hist.order es),blk b25 dp (jc s z pk),bG pk k,vE s es] h→aQ [vE s es] h:=fun h s=>cj (l:=[_,_,_]) s
    unfold wJ
    refine bk (fun d2=>?_) (fun d2=>?_)
    · have hlt:n < (Hist.order es).length:=by rw [hrl] at d2; simpa using d2
      have hw:IntKind.i64.wrap ((n:Int) + 1) = ((n + 1:Nat):Int):=by rw [cm (by omega) (by omega)]; rfl
      have hin:=order_in (List.getElem_mem hlt)
      have hes:=(cn (j:=3) s5 rfl).1
      obtain ⟨m,hm⟩:=Int.eq_ofNat_of_zero_le hin.1
      have hml:m < es.length:=by omega
      have hev:Judge.ev es (Hist.order es)[n] = es[m]:=by rw [hm,Judge.ev_nat hml]
      rw [List.drop_eq_getElem_cons hlt,Judge.runFrom,hev] at he
      refine dF s5 (j:=0) rfl (by omega) (by omega) fun q hq=>?_
      refine eB (j:=0) (i:=n) (k:=0) (Hist.order es)[n] (dl _) s5 rfl hq (by simp) (aL hlt) (by simp) ?_
      rw [hm]
      refine dF s5 (j:=3) rfl (by omega) (by omega) fun q2 hq2=>?_
      refine eB (j:=3) (i:=m) (k:=0) es[m] mt s5 rfl hq2 rfl (aL hml) (by simp) ?_
      have hmi:((m:Int),false) = ((Hist.order es)[n],false):=by rw [hm]
      refine bk (fun d3=>?_) (fun d3=>?_)
      · rw [if_pos d3] at he
        have j1:∀ h,(acc = true∧Judge.access k es z es[m] = false) = False→aQ [vI r27 (Hist.order es),blk b25 dp (jc s z pk),bG pk k,vE s es] h→rN b25 (fun s' h'=>(∃ (n:Nat) (k:PK),s' = n∧n ≤ (Hist.order es).length∧Judge.runFrom es z lin acc k ((Hist.order es).drop n) = Judge.runFrom es z lin acc (PK.new z) (Hist.order es)∧aQ [vI r27 (Hist.order es),blk b25 dp (jc s z pk),bG pk k,vE s es] h')∧(Hist.order es).length - s'.toNat < (Hist.order es).length - (n:Int).toNat) (n:Int) es[m] () h:=by
          intro h hno s6
          rw [if_neg (by rw [hno]; exact not_false)] at he
          unfold rN
          refine bY (sp_judge_well b25 s z pk es[m]) (i:=1) rfl s6 fun r h7 hr s7=>?_
          subst hr
          rw [hw]
          refine bk (fun d4=>?_) (fun d4=>?_)
          · rw [if_pos d4] at he
            refine bB pk s7 (i:=1) rfl rfl rfl ?_
            refine bY (nW pk k es[m].fLine.fFrame es[m].fCall) (i:=2) rfl s7 fun r h8 hr s8=>?_
            exact ⟨⟨n + 1,_,rfl,hlt,he,s8⟩,by simp; omega⟩
          · rw [if_neg (by rw [d4]; exact Bool.false_ne_true)] at he
            exact ⟨⟨n + 1,_,rfl,hlt,he,s7⟩,by simp; omega⟩
        unfold rM
        refine bk (fun d4=>?_) (fun d4=>?_)
        · refine cT [1,2,1] (sp_judge_access b25 s z pk es k es[m] hb) s5 rfl fun r h6 s6=>?_
          obtain ⟨hr,s7⟩:=bH.1 s6
          subst hr
          have s8:aQ [vI r27 (Hist.order es),blk b25 dp (jc s z pk),bG pk k,vE s es] h6:=bn [3,0,1] s7 rfl
          refine bk (fun d5=>?_) (fun d5=>?_)
          · rw [if_pos ⟨d4,by simpa using d5⟩] at he
            exact bh (by rw [← he,hm]) (fin _ s8)
          · exact j1 h6 (by simp; intro _; simpa using d5) s8
        · refine dv rfl ?_
          exact j1 h (by rw [d4]; simp) s5
      · rw [if_neg (by rw [d3]; exact Bool.false_ne_true)] at he
        refine bB pk s5 (i:=1) rfl rfl rfl ?_
        refine bY (jI pk k es[m].fEnv es[m].fCall) (i:=2) rfl s5 fun r h6 hr s6=>?_
        subst hr
        refine bk (fun d4=>?_) (fun d4=>?_)
        · have d4':lin = true∧((PK.do_ k es[m].fEnv es[m].fCall).1.2 = false∨ak.eqb (PK.do_ k es[m].fEnv es[m].fCall).1.1 es[m].fAnswer = false):=by simpa using d4
          rw [if_pos d4'] at he
          exact bh (by rw [← he,hm]) (cj (l:=[_,_,_]) s6)
        · have d4':¬ (lin = true∧((PK.do_ k es[m].fEnv es[m].fCall).1.2 = false∨ak.eqb (PK.do_ k es[m].fEnv es[m].fCall).1.1 es[m].fAnswer = false)):=by simpa using d4
          rw [if_neg d4'] at he
          rw [hw]
          exact ⟨⟨n + 1,_,rfl,hlt,he,s6⟩,by simp; omega⟩
    · have:n = (Hist.order es).length:=by rw [hrl] at d2; simp at d2; omega
      subst this
      rw [List.drop_length] at he
      exact bh he (fin h s5)
section
variable (s:Sl) (es:List co) (z:gj) (hz:PK.sized z = true) (hb:es.length < 2 ^ 38) (ho:Hist.Apart es→OrdOk s es)
include hz hb ho
theorem sp_judge_Linear:Sp Tryz.prog oE [sv s,.agg z.C.toArray] bZ [vE s es] (fun r=>pa_ (r = Judge.linear es z) [vE s es]):=by
  intro h s0
  refine sim_judge_Linear _ _ ?_
  unfold sh_judge_Linear
  exact bY (sp_judge_run s es z true false hz hb ho) (i:=0) rfl s0 fun r h1 hr s1=>bh hr s1
theorem sp_judge_Access:Sp Tryz.prog oF [sv s,.agg z.C.toArray] bZ [vE s es] (fun r=>pa_ (r = Judge.accesses es z) [vE s es]):=by
  intro h s0
  refine sim_judge_Access _ _ ?_
  unfold sh_judge_Access
  exact bY (sp_judge_run s es z false true hz hb ho) (i:=0) rfl s0 fun r h1 hr s1=>bh hr s1
theorem sp_judge_Right:Sp Tryz.prog ux [sv s,.agg z.C.toArray] aG [vE s es] (fun r=>pa_ (r = Judge.right es z) [vE s es]):=by
  intro h s0
  refine sim_judge_Right _ _ ?_
  unfold sh_judge_Right
  refine bY (sp_judge_Linear s es z hz hb ho) (i:=0) rfl s0 fun r h1 hr s1=>?_
  subst hr
  exact bY (sp_judge_Access s es z hz hb ho) (i:=0) rfl s1 fun r h2 hr s2=>bh (by rw [hr]; rfl) s2
end
end Go.Proofs.YtniiiakkdoiaiaaGreatDoor
namespace Go.Proofs.YtniiiakkdoiaiaaGreatDoor
open Go Mb
set_option linter.unusedVariables false
def td (a0:Int) (Rec17:(Sl × Int)→Hp→Prop) (s16:Sl × Int) (x32:Int) (Rec26:(Sl × Int)→Hp→Prop) (s25:Sl × Int):Hp→Prop:=br (decide (s25.2 < a0)) ( hpv Tryz.prog (Instr.buildSlice nu 1 #[(0,(.agg (dD.C (⟨x32,s25.2,0,(⟨0,0,0,0,0⟩:ao),0,0⟩:dD)).toArray))]) nR fun (v41:Sl)=>hpv Tryz.prog (Builtin.append_ #[nu,nu] nu #[(sv s25.1),(sv v41)]) nR fun (v42:Sl)=>Rec26 (v42,(IntKind.i64.wrap (s25.2 + 1)))) ( Rec17 (s25.1,(IntKind.i64.wrap (s16.2 + 1))))
def te (a0:Int) (Rec11:(Sl × Int)→Hp→Prop) (s10:Sl × Int) (v27:Sl) (Rec17:(Sl × Int)→Hp→Prop) (s16:Sl × Int):Hp→Prop:=br (decide (s16.2 < (v27.len:Int))) ( ix v27 s16.2 fun q31=>ld (q31.1,q31.2 + Int.toNat s16.2 * 1) (cI .i64) fun x32=>Lp (td a0 Rec17 s16 x32) (s16.1,0)) ( Rec11 (s16.1,(IntKind.i64.wrap (s10.2 + 1))))
def tf (a0:Int) (a1:Int) (K:Sl→Hp→Prop) (Rec11:(Sl × Int)→Hp→Prop) (s10:Sl × Int):Hp→Prop:=br (decide (s10.2 < a1)) ( hpv Tryz.prog (Instr.buildSlice dN 2 #[(0,(.int .i64 3)),(1,(.int .i64 2))]) cG fun (v27:Sl)=>Lp (te a0 Rec11 s10 v27) (s10.1,0)) ( K s10.1)
def sh_fair_Rounds (a0:Int) (a1:Int) (K:Sl→Hp→Prop):Hp→Prop:=br ((((decide (a0 < 1)) || (decide (a0 > 8))) || (decide (a1 < 0))) || (decide (a1 > 500))) ( K (⟨none,0,0,none⟩:Sl)) ( hpv Tryz.prog (Instr.buildSlice nu 0 #[]) nR fun (v23:Sl)=>Lp (tf a0 a1 K) (v23,0))
set_option maxRecDepth 20000 in
theorem sim_fair_Rounds (a0:Int) (a1:Int) {K:Sl→Hp→Prop} {h:Hp} (H:sh_fair_Rounds a0 a1 K h):Ct Tryz.prog uy #[(.int .i64 a0),(.int .i64 a1)] h fun v h'=>∃ r,v = nR r∧K r h':=aC [(.int .i64 a0),(.int .i64 a1)] Tryz.func11 rfl rfl rfl fun _=>ag<|ab<|aa (ae rfl) rfl<|ad<|ag<|ag<|ab<|aa (ac rfl) rfl<|aa (cA rfl rfl) rfl<|aa (ac rfl) rfl<|ai rfl rfl rfl (aS _) (fun g1=>wv (ac rfl)) rfl<|ai rfl rfl rfl (aS _) (fun g2=>wv (ql (aK rfl g2) rfl)) rfl<|aa (du rfl rfl) rfl<|aa (ac rfl) rfl<|ai rfl rfl rfl (aS _) (fun g3=>wv (ac rfl)) rfl<|ai rfl rfl rfl (aS _) (fun g4=>wv (cA (aK rfl g4) rfl)) rfl<|aa (du rfl rfl) rfl<|aa (ac rfl) rfl<|ai rfl rfl rfl (aS _) (fun g5=>wv (ac rfl)) rfl<|ai rfl rfl rfl (aS _) (fun g6=>wv (ql (aK rfl g6) rfl)) rfl<|aa (du rfl rfl) rfl<|ad<|aD rfl H (fun k7 H8=>ag<|ab<|aa (ae rfl) rfl<|ad<|an<|av (az rfl (aE rfl)) ⟨(⟨none,0,0,none⟩:Sl),rfl,H8⟩) (fun k7 H8=>au<|ag<|ab<|aj (be H8 (bK (vs:=[]) rfl) rfl fun v23 _ H9=>aa (ae rfl) rfl<|ad<|ag<|ag<|ab<|aa (ac rfl) rfl<|aa (ac rfl) rfl<|ad<|aF<|bS (step:=tf a0 a1 K) (fun s10=>[(0,(.int .i64 a0)),(5,(sv s10.1)),(24,(.int .i64 a1)),(25,(.int .i64 s10.2))]) (fun s10=>[]) H9 (.cons rfl (.cons rfl (.cons rfl (.cons rfl (.nil _))))) .slnil (fun Rec11 s10 _ H12=>ag<|ab<|aa (cA rfl rfl) rfl<|ad<|ag<|aD rfl H12 (fun k13 H14=>au<|ag<|aF<|ag<|ab<|aj (be H14 (bK (vs:=[(.int .i64 3),(.int .i64 2)]) rfl) rfl fun v27 _ H15=>aa (dH rfl Tryz.underlying41 rfl) rfl<|aa (ac rfl) rfl<|ad<|aF<|bS (step:=te a0 Rec11 s10 v27) (fun s16=>[(0,(.int .i64 a0)),(5,(sv s16.1)),(24,(.int .i64 a1)),(25,(.int .i64 s10.2)),(27,(sv v27)),(28,(.int .i64 (v27.len:Int))),(29,(.int .i64 s16.2))]) (fun s16=>[]) H15 (.cons rfl (.cons rfl (.cons rfl (.cons rfl (.cons rfl (.cons rfl (.cons rfl (.nil _)))))))) .slnil (fun Rec17 s16 _ H18=>ag<|ab<|aa (cA rfl rfl) rfl<|ad<|ag<|aD rfl H18 (fun k19 H20=>au<|ag<|aF<|ag<|ab<|cu H20 fun q31 e21 h22 H23=>aa (bC iC (aX rfl (bm e21)) rfl h22) rfl<|aj (bf H23 bj rfl (fun _=>rfl) rfl fun x32 H24=>aa (ae rfl) rfl<|ad<|ag<|ab<|aa (ac rfl) rfl<|aa (ac rfl) rfl<|ad<|aF<|bS (step:=td a0 Rec17 s16 x32) (fun s25=>[(0,(.int .i64 a0)),(5,(sv s25.1)),(7,(.int .i64 x32)),(24,(.int .i64 a1)),(25,(.int .i64 s10.2)),(27,(sv v27)),(28,(.int .i64 (v27.len:Int))),(29,(.int .i64 s16.2)),(33,(.int .i64 a0)),(34,(.int .i64 s25.2))]) (fun s25=>[]) H24 (.cons rfl (.cons rfl (.cons rfl (.cons rfl (.cons rfl (.cons rfl (.cons rfl (.cons rfl (.cons rfl (.cons rfl (.nil _))))))))))) .slnil (fun Rec26 s25 _ H27=>ag<|ab<|aa (cA rfl rfl) rfl<|ad<|ag<|aD rfl H27 (fun k28 H29=>au<|ag<|aF<|ag<|ab<|aa (ac rfl) rfl<|aa (ae rfl) rfl<|ad<|ab<|aa (ac rfl) rfl<|aa (ac rfl) rfl<|aa (ac rfl) rfl<|aa (bo rfl (build_29_0_1 x32 s25.2)) rfl<|aj (be H29 (bK (vs:=[(.agg (dD.C (⟨x32,s25.2,0,(⟨0,0,0,0,0⟩:ao),0,0⟩:dD)).toArray)]) rfl) rfl fun v41 _ H30=>aj (be H30 (dM rfl rfl) rfl fun v42 _ H31=>aa (ae rfl) rfl<|ad<|ab<|aa (bM rfl rfl) rfl<|aa (ac rfl) rfl<|ad<|cW (v42,(IntKind.i64.wrap (s25.2 + 1))) H31 (.cons rfl (.cons rfl (.cons rfl (.cons rfl (.cons rfl (.cons rfl (.cons rfl (.cons rfl (.cons rfl (.cons rfl (.nil _))))))))))) .slnil))) (fun k28 H29=>bD<|ab<|aa (bM rfl rfl) rfl<|aa (ac rfl) rfl<|ad<|cW (s25.1,(IntKind.i64.wrap (s16.2 + 1))) H29 (.cons rfl (.cons rfl (.cons rfl (.cons rfl (.cons rfl (.cons rfl (.cons rfl (.nil _)))))))) .slnil)))) (fun k19 H20=>bD<|ab<|aa (bM rfl rfl) rfl<|aa (ac rfl) rfl<|ad<|cW (s16.1,(IntKind.i64.wrap (s10.2 + 1))) H20 (.cons rfl (.cons rfl (.cons rfl (.cons rfl (.nil _))))) .slnil)))) (fun k13 H14=>bD<|ag<|ab<|aa (ac rfl) rfl<|aa (ae rfl) rfl<|ad<|an<|av (az rfl (aE rfl)) ⟨s10.1,rfl,H14⟩))))
def qZ (a0:Sl) (a1:Int) (a2:Int) (K:Int→Hp→Prop) (Rec2:(Int × Int × Int)→Hp→Prop) (s1:Int × Int × Int):Hp→Prop:=br (decide (s1.2.2 < (a0.len:Int))) ( ix a0 s1.2.2 fun q15=>ld (q15.1,q15.2 + Int.toNat s1.2.2 * 10) dD.C fun x16=>br ((x16.fKind == a1) && (x16.fCore == a2)) ( Rec2 ((mx s1.1 0),0,(IntKind.i64.wrap (s1.2.2 + 1)))) ( Rec2 ((mx s1.1 (IntKind.i64.wrap (s1.2.1 + 1))),(IntKind.i64.wrap (s1.2.1 + 1)),(IntKind.i64.wrap (s1.2.2 + 1))))) ( K s1.1)
def sh_fair_Longest (a0:Sl) (a1:Int) (a2:Int) (K:Int→Hp→Prop):Hp→Prop:=Lp (qZ a0 a1 a2 K) (0,0,0)
set_option maxRecDepth 20000 in
theorem sim_fair_Longest (a0:Sl) (a1:Int) (a2:Int) {K:Int→Hp→Prop} {h:Hp} (H:sh_fair_Longest a0 a1 a2 K h):Ct Tryz.prog oH #[(sv a0),(.int .i64 a1),(.int .i64 a2)] h fun v h'=>∃ r,v = dW r∧K r h':=aC [(sv a0),(.int .i64 a1),(.int .i64 a2)] Tryz.func13 rfl rfl rfl fun _=>ag<|ab<|aa (ae rfl) rfl<|ad<|ag<|ab<|aa (ae rfl) rfl<|aa (ae rfl) rfl<|ad<|ag<|ag<|ab<|aa (ac rfl) rfl<|aa (dH rfl Tryz.underlying23 rfl) rfl<|aa (ac rfl) rfl<|ad<|aF<|bS (step:=qZ a0 a1 a2 K) (fun s1=>[(1,(.int .i64 a1)),(2,(.int .i64 a2)),(7,(.int .i64 s1.1)),(8,(.int .i64 s1.2.1)),(11,(sv a0)),(12,(.int .i64 (a0.len:Int))),(13,(.int .i64 s1.2.2))]) (fun s1=>[]) H (.cons rfl (.cons rfl (.cons rfl (.cons rfl (.cons rfl (.cons rfl (.cons rfl (.nil _)))))))) .slnil (fun Rec2 s1 _ H3=>ag<|ab<|aa (cA rfl rfl) rfl<|ad<|ag<|aD rfl H3 (fun k4 H5=>au<|ag<|aF<|ag<|ab<|cu H5 fun q15 e6 h7 H8=>aa (bC slc_23 (aX rfl (bm e6)) rfl h7) rfl<|aj (gL H8 ag_29 rfl (fun _=>rfl) rfl fun x16 H9=>aj (bb (l:=(dD.C (⟨0,0,0,(⟨0,0,0,0,0⟩:ao),0,0⟩:dD))) zero_29 rfl rfl fun b10=>aj (bc (k:=0) (vs:=(dD.C x16)) inf_29 rfl rfl rfl rfl rfl rfl rfl<|ad<|ag<|ab<|aa (ac rfl) rfl<|aa (bM rfl rfl) rfl<|aa (ae rfl) rfl<|ad<|ag<|ag<|ab<|aa (am fld_29_0 rfl) rfl<|bz (bq (k:=0) bj rfl rfl rfl) rfl<|aa (ac rfl) rfl<|aa (cc rfl rfl) rfl<|aa (ac rfl) rfl<|ai rfl rfl rfl (aB _) (fun g10=>wv (am fld_29_1 rfl)) rfl<|ai rfl rfl rfl (aB _) (fun g11=>cv (bq (k:=0) bj (aK rfl g11) rfl rfl)) rfl<|ai rfl rfl rfl (aB _) (fun g12=>wv (ac rfl)) rfl<|ai rfl rfl rfl (aB _) (fun g13=>wv (cc (aK rfl g13) (aK rfl g13))) rfl<|aa (bX rfl rfl) rfl<|ad<|aD rfl H9 (fun k14 H15=>ab<|aa (ae rfl) rfl<|ad<|ab<|aa (ac rfl) rfl<|aa (ac rfl) rfl<|aa (v_maxT rfl rfl) rfl<|aa (ae rfl) rfl<|ad<|ab<|aa (bM rfl rfl) rfl<|aa (ac rfl) rfl<|ad<|cW ((mx s1.1 0),0,(IntKind.i64.wrap (s1.2.2 + 1))) H15 (.cons rfl (.cons rfl (.cons rfl (.cons rfl (.cons rfl (.cons rfl (.cons rfl (.nil _)))))))) (.cons _ .slnil)) (fun k14 H15=>au<|ab<|aa (ac rfl) rfl<|aa (ac rfl) rfl<|aa (v_maxT rfl rfl) rfl<|aa (ae rfl) rfl<|ad<|ab<|aa (bM rfl rfl) rfl<|aa (ac rfl) rfl<|ad<|cW ((mx s1.1 (IntKind.i64.wrap (s1.2.1 + 1))),(IntKind.i64.wrap (s1.2.1 + 1)),(IntKind.i64.wrap (s1.2.2 + 1))) H15 (.cons rfl (.cons rfl (.cons rfl (.cons rfl (.cons rfl (.cons rfl (.cons rfl (.nil _)))))))) (.cons _ .slnil)))))) (fun k4 H5=>bD<|ag<|ab<|aa (ac rfl) rfl<|aa (ae rfl) rfl<|ad<|an<|av (az rfl (aE rfl)) ⟨s1.1,rfl,H5⟩))
def wO (a0:Sl) (a1:Int) (a2:Int) (K:Bool→Hp→Prop) (Rec2:Int→Hp→Prop) (s1:Int):Hp→Prop:=br (decide (s1 < a1)) ( cl Tryz.prog oH [(sv a0),(.int .i64 2),(.int .i64 s1)] dW fun r14=>br (!(decide (r14 ≥ a2))) ( cl Tryz.prog oH [(sv a0),(.int .i64 3),(.int .i64 s1)] dW fun r20=>br (decide (r20 ≥ a2)) ( K false) ( Rec2 (IntKind.i64.wrap (s1 + 1)))) ( K false)) ( K true)
def sh_fair_Fair (a0:Sl) (a1:Int) (a2:Int) (K:Bool→Hp→Prop):Hp→Prop:=Lp (wO a0 a1 a2 K) 0
set_option maxRecDepth 20000 in
theorem sim_fair_Fair (a0:Sl) (a1:Int) (a2:Int) {K:Bool→Hp→Prop} {h:Hp} (H:sh_fair_Fair a0 a1 a2 K h):Ct Tryz.prog n_fair_Fair #[(sv a0),(.int .i64 a1),(.int .i64 a2)] h fun v h'=>∃ r,v = aG r∧K r h':=aC [(sv a0),(.int .i64 a1),(.int .i64 a2)] Tryz.func12 rfl rfl rfl fun _=>ag<|ab<|aa (ae rfl) rfl<|ad<|ag<|ag<|ab<|aa (ac rfl) rfl<|aa (ac rfl) rfl<|ad<|aF<|bS (step:=wO a0 a1 a2 K) (fun s1=>[(0,(sv a0)),(2,(.int .i64 a2)),(8,(.int .i64 a1)),(9,(.int .i64 s1))]) (fun s1=>[]) H (.cons rfl (.cons rfl (.cons rfl (.cons rfl (.nil _))))) .slnil (fun Rec2 s1 _ H3=>ag<|ab<|aa (cA rfl rfl) rfl<|ad<|ag<|aD rfl H3 (fun k4 H5=>au<|ag<|aF<|ag<|ab<|aa (ac rfl) rfl<|aa (ae rfl) rfl<|ad<|ag<|ab<|aa (ac rfl) rfl<|aa (ac rfl) rfl<|aj (aA H5 en_13 rfl rfl fun r14 _ H6=>aa (ac rfl) rfl<|aa (hO rfl rfl) rfl<|aa (ac rfl) rfl<|ai rfl rfl rfl (aS _) (fun g7=>wv (ac rfl)) rfl<|ai rfl rfl rfl (aS _) (fun g8=>wv (ac rfl)) rfl<|bW H6 (fun k10 H11=>aI rfl rfl rfl (congrArg Value.bool (bL k10)) (aA H11 en_13 (aY (aK rfl k10) (aY rfl (aY (aK rfl k10) bU))) rfl fun r20 _ H12=>aI rfl rfl rfl (congrArg Value.bool (bL k10)) (aN (wv (ac rfl)) rfl<|aI rfl rfl rfl (congrArg Value.bool (bL k10)) (aN (wv (hO rfl rfl)) rfl<|aa (ax rfl (bL k10) rfl) rfl<|ad<|aD rfl H12 (fun k13 H14=>ag<|ab<|aa (ae rfl) rfl<|ad<|an<|av (az rfl (aE rfl)) ⟨false,rfl,H14⟩) (fun k13 H14=>au<|ab<|aa (bM rfl rfl) rfl<|aa (ac rfl) rfl<|ad<|cW (IntKind.i64.wrap (s1 + 1)) H14 (.cons rfl (.cons rfl (.cons rfl (.cons rfl (.nil _))))) .slnil))))) (fun k10 H11=>al rfl rfl rfl (bF (bp k10)) rfl<|al rfl rfl rfl (bF (bp k10)) rfl<|al rfl rfl rfl (bF (bp k10)) rfl<|aa (aT rfl (bp k10) rfl) rfl<|ad<|gR rfl rfl<|ag<|ab<|aa (ae rfl) rfl<|ad<|an<|av (az rfl (aE rfl)) ⟨false,rfl,H11⟩))) (fun k4 H5=>bD<|ag<|ab<|aa (ae rfl) rfl<|ad<|an<|av (az rfl (aE rfl)) ⟨true,rfl,H5⟩))
end Go.Proofs.YtniiiakkdoiaiaaGreatDoor
namespace Go.Proofs.YtniiiakkdoiaiaaGreatDoor
open Go Mb
abbrev Pick:=dD
abbrev vK (s:Sl) (xs:List Pick):As:=vec t_api_Pick 10 dD.C s xs
theorem pick_len (p:Pick):p.C.length = 10:=rfl
theorem pick_one (p:Pick):dO p.C = true:=rfl
namespace Fair
def longFrom (kind core:Int):List Pick→Int→Int→Int
  | [],best,_=>best
  | p::ps,best,now=>if p.fKind = kind∧p.fCore = core then longFrom kind core ps (mx best 0) 0 else longFrom kind core ps (mx best (IntKind.i64.wrap (now + 1))) (IntKind.i64.wrap (now + 1))
def longest (ps:List Pick) (kind core:Int):Int:=longFrom kind core ps 0 0
def okCore (ps:List Pick) (b:Int) (c:Nat):Bool:=decide (longest ps 2 c < b) && decide (longest ps 3 c < b)
def fair (ps:List Pick) (cores b:Int):Bool:=(List.range cores.toNat).all (okCore ps b)
def pk (kind:Int) (c:Nat):Pick:=⟨kind,c,0,⟨0,0,0,0,0⟩,0,0⟩
def line (kind:Int) (c:Nat):List Pick:=(List.range c).map (pk kind)
def lines (c:Nat) (kinds:List Int):List Pick:=kinds.flatMap fun k=>line k c
def turns (c n:Nat):List Pick:=(List.range n).flatMap fun _=>lines c [3,2]
def rounds (cores n:Int):List Pick:=if cores < 1∨cores > 8∨n < 0∨n > 500 then [] else turns cores.toNat n.toNat
theorem line_len (kind:Int) (c:Nat):(line kind c).length = c:=by simp [line]
theorem line_succ (kind:Int) (c:Nat):line kind (c + 1) = line kind c++[pk kind c]:=by simp [line,List.range_succ]
theorem turns_succ (c n:Nat):turns c (n + 1) = turns c n++lines c [3,2]:=by simp [turns,List.range_succ]
theorem lines_len (c:Nat):∀ (ks:List Int),(lines c ks).length = ks.length * c
  | []=>by simp [lines]
  | k::ks=>by
    have:=lines_len c ks
    simp only [lines,List.flatMap_cons,List.length_append,line_len,List.length_cons,Nat.succ_mul] at this ⊢
    omega
theorem turns_len (c n:Nat):(turns c n).length = n * (2 * c):=by
  induction n with
  | zero=>simp [turns]
  | succ n ih=>rw [turns_succ,List.length_append,ih,lines_len,Nat.add_mul n 1,Nat.one_mul]; rfl
end Fair
theorem sp_fair_Longest (s:Sl) (ps:List Pick) (kind core:Int) (hb:ps.length < 2 ^ 40):Sp Tryz.prog oH [sv s,.int .i64 kind,.int .i64 core] dW [vK s ps] (fun r=>pa_ (r = Fair.longest ps kind core) [vK s ps]):=by
  intro h s0
  have hl:=(cn (j:=0) s0 rfl).1
  refine sim_fair_Longest _ _ _ ?_
  unfold sh_fair_Longest
  refine Lp.intro (fun (z:Int × Int × Int) h=>∃ n:Nat,z.2.2 = n∧n ≤ ps.length∧Fair.longFrom kind core (ps.drop n) z.1 z.2.1 = Fair.longest ps kind core∧aQ [vK s ps] h) (fun (z:Int × Int × Int) _=>ps.length - z.2.2.toNat) ⟨0,rfl,Nat.zero_le _,rfl,s0⟩ ?_
  rintro ⟨best,now,i⟩ h ⟨n,rfl,hn,he,s1⟩
  unfold qZ
  simp only at he ⊢
  refine bk (fun k=>?_) (fun k=>?_)
  · have hlt:n < ps.length:=by rw [hl] at k; simpa using k
    have hw:IntKind.i64.wrap ((n:Int) + 1) = ((n + 1:Nat):Int):=by rw [cm (by omega) (by omega)]; rfl
    rw [List.drop_eq_getElem_cons hlt,Fair.longFrom] at he
    refine dF s1 (j:=0) rfl (by omega) (by omega) fun q hq=>?_
    refine eB (j:=0) (i:=n) (k:=0) ps[n] pick_len s1 rfl hq rfl (aL hlt) (by simp) ?_
    rw [hw]
    refine bk (fun k2=>?_) (fun k2=>?_)
    · have k2':ps[n].fKind = kind∧ps[n].fCore = core:=by simpa using k2
      rw [if_pos k2'] at he
      exact ⟨⟨n + 1,rfl,hlt,he,s1⟩,by simp; omega⟩
    · have k2':¬ (ps[n].fKind = kind∧ps[n].fCore = core):=by simpa using k2
      rw [if_neg k2'] at he
      exact ⟨⟨n + 1,rfl,hlt,he,s1⟩,by simp; omega⟩
  · have:n = ps.length:=by rw [hl] at k; simp at k; omega
    subst this
    rw [List.drop_length] at he
    exact bh he s1
theorem sp_fair_Fair (s:Sl) (ps:List Pick) (cores b:Int) (hb:ps.length < 2 ^ 40) (hc:cores < 2 ^ 62):Sp Tryz.prog n_fair_Fair [sv s,.int .i64 cores,.int .i64 b] aG [vK s ps] (fun r=>pa_ (r = Fair.fair ps cores b) [vK s ps]):=by
  intro h s0
  refine sim_fair_Fair _ _ _ ?_
  unfold sh_fair_Fair
  refine Lp.intro (fun (i:Int) h=>∃ n:Nat,i = n∧n ≤ cores.toNat∧(∀ c,c < n→Fair.okCore ps b c = true)∧aQ [vK s ps] h) (fun (i:Int) _=>cores.toNat - i.toNat) ⟨0,rfl,Nat.zero_le _,fun c hc=>by omega,s0⟩ ?_
  rintro i h ⟨n,rfl,hn,ho,s1⟩
  unfold wO
  refine bk (fun k=>?_) (fun k=>?_)
  · have hlt:n < cores.toNat:=by have:=of_decide_eq_true k; omega
    have hw:IntKind.i64.wrap ((n:Int) + 1) = ((n + 1:Nat):Int):=by rw [cm (by omega) (by omega)]; rfl
    have no:Fair.okCore ps b n = false→Fair.fair ps cores b = false:=fun hf=>by
      unfold Fair.fair
      cases ha:(List.range cores.toNat).all (Fair.okCore ps b) with
      | false=>rfl
      | true=>rw [List.all_eq_true.1 ha n (List.mem_range.2 hlt)] at hf; cases hf
    refine bY (sp_fair_Longest s ps 2 n hb) (i:=0) rfl s1 fun r h2 hr s2=>?_
    subst hr
    refine bk (fun k2=>?_) (fun k2=>?_)
    · have k2':Fair.longest ps 2 n < b:=by simpa using k2
      refine bY (sp_fair_Longest s ps 3 n hb) (i:=0) rfl s2 fun r h3 hr s3=>?_
      subst hr
      refine bk (fun k3=>?_) (fun k3=>?_)
      · have k3':¬ Fair.longest ps 3 n < b:=by simp at k3; omega
        exact bh (no (by simp [Fair.okCore,k3'])).symm s3
      · have k3':Fair.longest ps 3 n < b:=by simp at k3; omega
        rw [hw]
        refine ⟨⟨n + 1,rfl,hlt,fun c hc=>?_,s3⟩,by simp; omega⟩
        by_cases e:c = n
        · subst e; simp [Fair.okCore,k2',k3']
        · exact ho c (by omega)
    · have k2':¬ Fair.longest ps 2 n < b:=by simp at k2; omega
      exact bh (no (by simp [Fair.okCore,k2'])).symm s2
  · have:n = cores.toNat:=by have:=of_decide_eq_false k; omega
    subst this
    refine bh ?_ s1
    unfold Fair.fair
    exact (List.all_eq_true.2 fun c hc=>ho c (List.mem_range.1 hc)).symm
theorem sp_fair_Rounds (cores n:Int):Sp Tryz.prog uy [.int .i64 cores,.int .i64 n] nR [] (fun r=>aQ [vK r (Fair.rounds cores n)]):=by
  intro h s0
  refine sim_fair_Rounds _ _ ?_
  unfold sh_fair_Rounds
  refine bk (fun k=>?_) (fun k=>?_)
  · have e1:Fair.rounds cores n = []:=if_pos (by simpa [or_assoc] using k)
    rw [e1]; exact ft s0
  · have k':¬ (cores < 1∨cores > 8∨n < 0∨n > 500):=by simp at k; omega
    have e1:Fair.rounds cores n = Fair.turns cores.toNat n.toNat:=if_neg k'
    rw [e1]
    obtain ⟨C,rfl⟩:=Int.eq_ofNat_of_zero_le (show 0 ≤ cores by omega)
    obtain ⟨N,rfl⟩:=Int.eq_ofNat_of_zero_le (show 0 ≤ n by omega)
    simp only [Int.toNat_natCast]
    refine fz (τ:=Pick) [] (val:=fun x=>.agg x.C.toArray) (enc:=dD.C) el_Sapi_Pick pick_len (fun _=>rfl) s0 rfl rfl (by simp) fun v h1 s1=>?_
    refine Lp.intro (fun (z:Sl × Int) h=>∃ j:Nat,z.2 = j∧j ≤ N∧aQ [vK z.1 (Fair.turns C j)] h) (fun (z:Sl × Int) _=>N - z.2.toNat) ⟨0,rfl,Nat.zero_le _,s1⟩ ?_
    rintro ⟨z,i⟩ h ⟨j,rfl,hj,s2⟩
    unfold tf
    refine bk (fun k2=>?_) (fun k2=>?_)
    · have hlt:j < N:=by have:=of_decide_eq_true k2; simp at this; exact this
      have hw:IntKind.i64.wrap ((j:Int) + 1) = ((j + 1:Nat):Int):=by rw [cm (by omega) (by omega)]; rfl
      have htl:=Fair.turns_len C j
      have hC:C ≤ 8:=by omega
      have hjb:j * (2 * C) ≤ 500 * 16:=Nat.mul_le_mul (by omega) (by omega)
      refine fz (τ:=Int) [3,2] (val:=fun x=>.int .i64 x) (enc:=cI .i64) el_Sint (dl _) (fun _=>rfl) s2 rfl rfl (by decide) fun vk h3 s3=>?_
      have hvl:=(cn (j:=0) s3 rfl).1
      refine Lp.intro (fun (y:Sl × Int) h=>∃ m:Nat,y.2 = m∧m ≤ 2∧aQ [vK y.1 (Fair.turns C j++Fair.lines C (([3,2]:List Int).take m)),vec kJ 1 (cI .i64) vk [3,2]] h) (fun (y:Sl × Int) _=>2 - y.2.toNat) ⟨0,rfl,Nat.zero_le _,by
        have s4:=bn (m:=[vK z (Fair.turns C j),vec kJ 1 (cI .i64) vk [3,2]]) [1] s3 rfl
        simpa [Fair.lines] using s4⟩ ?_
      rintro ⟨y,i2⟩ h ⟨m,rfl,hm,s4⟩
      unfold te
      refine bk (fun k3=>?_) (fun k3=>?_)
      · have hlt2:m < 2:=by rw [hvl] at k3; have:=of_decide_eq_true k3; simp at this; omega
        have hw2:IntKind.i64.wrap ((m:Int) + 1) = ((m + 1:Nat):Int):=by rw [cm (by omega) (by omega)]; rfl
        have hkl:m < ([3,2]:List Int).length:=hlt2
        refine dF s4 (j:=1) rfl (by omega) (by simp; omega) fun q hq=>?_
        refine eB (j:=1) (i:=m) (k:=0) ([3,2]:List Int)[m] (dl _) s4 rfl hq (by simp) (aL hkl) (by simp) ?_
        have hll:=Fair.lines_len C (([3,2]:List Int).take m)
        have hlb:(([3,2]:List Int).take m).length * C ≤ 2 * 8:=Nat.mul_le_mul (by simp; omega) (by omega)
        refine Lp.intro (fun (x:Sl × Int) h=>∃ p:Nat,x.2 = p∧p ≤ C∧aQ [vK x.1 (Fair.turns C j++Fair.lines C (([3,2]:List Int).take m)++Fair.line ([3,2]:List Int)[m] p),vec kJ 1 (cI .i64) vk [3,2]] h) (fun (x:Sl × Int) _=>C - x.2.toNat) ⟨0,rfl,Nat.zero_le _,by simpa [Fair.line] using s4⟩ ?_
        rintro ⟨x,i3⟩ h ⟨p,rfl,hp,s5⟩
        have hpl:=Fair.line_len ([3,2]:List Int)[m] p
        unfold td
        refine bk (fun k4=>?_) (fun k4=>?_)
        · have hlt3:p < C:=by have:=of_decide_eq_true k4; simp at this; exact this
          have hw3:IntKind.i64.wrap ((p:Int) + 1) = ((p + 1:Nat):Int):=by rw [cm (by omega) (by omega)]; rfl
          refine ku (τ:=Pick) (i:=0) (enc:=dD.C) (val:=fun x=>.agg x.C.toArray) (x:=Fair.pk ([3,2]:List Int)[m] p) el_Sapi_Pick pick_len pick_one (fun _=>rfl) (by omega) rfl rfl s5 rfl (by simp only [List.length_append]; omega) (by simp only [List.length_append]; omega) fun v h6 s6=>?_
          rw [hw3]
          refine ⟨⟨p + 1,rfl,hlt3,?_⟩,by simp; omega⟩
          rw [Fair.line_succ,← List.append_assoc]
          exact s6
        · have:p = C:=by have:=of_decide_eq_false k4; simp at this; omega
          subst this
          rw [hw2]
          refine ⟨⟨m + 1,rfl,hlt2,?_⟩,by simp; omega⟩
          have et:([3,2]:List Int).take (m + 1) = ([3,2]:List Int).take m++[([3,2]:List Int)[m]]:=by rw [List.take_add_one,aL hkl]; rfl
          have el:Fair.lines p (([3,2]:List Int).take (m + 1)) = Fair.lines p (([3,2]:List Int).take m)++Fair.line ([3,2]:List Int)[m] p:=by
            rw [et]; unfold Fair.lines; rw [List.flatMap_append]; simp
          rw [el,← List.append_assoc]
          exact s5
      · have:m = 2:=by rw [hvl] at k3; have:=of_decide_eq_false k3; simp at this; omega
        subst this
        rw [hw]
        refine ⟨⟨j + 1,rfl,hlt,?_⟩,by simp; omega⟩
        rw [Fair.turns_succ]
        exact nv (l:=[vK y (Fair.turns C j++Fair.lines C [3,2])]) s4
    · have:j = N:=by have:=of_decide_eq_false k2; simp at this; omega
      subst this
      exact s2
end Go.Proofs.YtniiiakkdoiaiaaGreatDoor
namespace Go.Proofs.YtniiiakkdoiaiaaGreatDoor
open Go Mb
set_option linter.unusedVariables false
def vM (a0:Sl) (a1:Int) (K:Sl→Hp→Prop) (Rec2:(Sl × Int)→Hp→Prop) (s1:Sl × Int):Hp→Prop:=br (decide (s1.2 < (a0.len:Int))) ( ix a0 s1.2 fun q12=>ld (q12.1,q12.2 + Int.toNat s1.2 * 16) aO.C fun x13=>br ((x13.fEnv == a1) && (decide (x13.fEnd > 0))) ( hpv Tryz.prog (Instr.buildSlice mD 1 #[(0,(.agg (ak.C x13.fAnswer).toArray))]) mM fun (v26:Sl)=>hpv Tryz.prog (Builtin.append_ #[mD,mD] mD #[(sv s1.1),(sv v26)]) mM fun (v27:Sl)=>Rec2 (v27,(IntKind.i64.wrap (s1.2 + 1)))) ( Rec2 (s1.1,(IntKind.i64.wrap (s1.2 + 1))))) ( K s1.1)
def sh_twin_View (a0:Sl) (a1:Int) (K:Sl→Hp→Prop):Hp→Prop:=Lp (vM a0 a1 K) ((⟨none,0,0,none⟩:Sl),0)
set_option maxRecDepth 20000 in
theorem sim_twin_View (a0:Sl) (a1:Int) {K:Sl→Hp→Prop} {h:Hp} (H:sh_twin_View a0 a1 K h):Ct Tryz.prog n_twin_View #[(sv a0),(.int .i64 a1)] h fun v h'=>∃ r,v = mM r∧K r h':=aC [(sv a0),(.int .i64 a1)] Tryz.func51 rfl rfl rfl fun _=>ag<|ab<|aa (ae rfl) rfl<|ad<|ag<|ab<|aa (ae rfl) rfl<|ad<|ag<|ag<|ab<|aa (ac rfl) rfl<|aa (dH rfl Tryz.underlying39 rfl) rfl<|aa (ac rfl) rfl<|ad<|aF<|bS (step:=vM a0 a1 K) (fun s1=>[(1,(.int .i64 a1)),(5,(sv s1.1)),(8,(sv a0)),(9,(.int .i64 (a0.len:Int))),(10,(.int .i64 s1.2))]) (fun s1=>[]) H (.cons rfl (.cons rfl (.cons rfl (.cons rfl (.cons rfl (.nil _)))))) .slnil (fun Rec2 s1 _ H3=>ag<|ab<|aa (cA rfl rfl) rfl<|ad<|ag<|aD rfl H3 (fun k4 H5=>au<|ag<|aF<|ag<|ab<|cu H5 fun q12 e6 h7 H8=>aa (bC kT (aX rfl (bm e6)) rfl h7) rfl<|aj (gL H8 ag_51 rfl (fun _=>rfl) rfl fun x13 H9=>aj (bb (l:=(aO.C (⟨0,0,(⟨0,0,0,0,0⟩:ao),0,0,0,(⟨0,0⟩:ak),(⟨0,0,0,0⟩:ar)⟩:aO))) zero_51 rfl rfl fun b7=>aj (bc (k:=0) (vs:=(aO.C x13)) inf_51 rfl rfl rfl rfl rfl rfl rfl<|ad<|ag<|ab<|aa (am mJ rfl) rfl<|bz (bq (k:=0) bj rfl rfl rfl) rfl<|aa (ac rfl) rfl<|aa (cc rfl rfl) rfl<|aa (ac rfl) rfl<|ai rfl rfl rfl (aB _) (fun g10=>wv (am oM rfl)) rfl<|ai rfl rfl rfl (aB _) (fun g11=>cv (bq (k:=0) bj (aK rfl g11) rfl rfl)) rfl<|ai rfl rfl rfl (aB _) (fun g12=>wv (ql (aK rfl g12) rfl)) rfl<|aa (bX rfl rfl) rfl<|ad<|aD rfl H9 (fun k13 H14=>ab<|aa (ac rfl) rfl<|aa (am ki rfl) rfl<|bz (bO (k:=0) cK rfl rfl rfl rfl) rfl<|aj (be H14 (bK (vs:=[(.agg (ak.C x13.fAnswer).toArray)]) rfl) rfl fun v26 _ H15=>aj (be H15 (dM rfl rfl) rfl fun v27 _ H16=>aa (ae rfl) rfl<|ad<|ab<|aa (bM rfl rfl) rfl<|aa (ac rfl) rfl<|ad<|cW (v27,(IntKind.i64.wrap (s1.2 + 1))) H16 (.cons rfl (.cons rfl (.cons rfl (.cons rfl (.cons rfl (.nil _)))))) (.cons _ .slnil)))) (fun k13 H14=>au<|ab<|aa (bM rfl rfl) rfl<|aa (ac rfl) rfl<|ad<|cW (s1.1,(IntKind.i64.wrap (s1.2 + 1))) H14 (.cons rfl (.cons rfl (.cons rfl (.cons rfl (.cons rfl (.nil _)))))) (.cons _ .slnil)))))) (fun k4 H5=>bD<|ag<|ab<|aa (ac rfl) rfl<|aa (ae rfl) rfl<|ad<|an<|av (az rfl (aE rfl)) ⟨s1.1,rfl,H5⟩))
end Go.Proofs.YtniiiakkdoiaiaaGreatDoor
namespace Go.Proofs.YtniiiakkdoiaiaaGreatDoor
open Go Mb
abbrev vA (s:Sl) (xs:List gD):As:=vec t_api_Answer 2 ak.C s xs
theorem ans_len (p:gD):p.C.length = 2:=rfl
theorem ans_one (p:gD):dO p.C = true:=rfl
namespace Twin
def view (env:Int):List co→List gD
  | []=>[]
  | e::es=>if e.fEnv = env∧e.fEnd > 0 then e.fAnswer::view env es else view env es
def same:List gD→List gD→Bool
  | [],[]=>true
  | a::l,b::r=>ak.eqb a b && same l r
  | _,_=>false
theorem view_app (env:Int) (e:co):∀ es,view env (es++[e]) = view env es++(if e.fEnv = env∧e.fEnd > 0 then [e.fAnswer] else [])
  | []=>by simp only [List.nil_append,view]
  | d::es=>by
    simp only [List.cons_append,view,view_app env e es]
    split <;> simp
theorem view_len (env:Int):∀ es,(view env es).length ≤ es.length
  | []=>Nat.le_refl _
  | e::es=>by unfold view; have:=view_len env es; split <;> simp <;> omega
end Twin
theorem sp_twin_View (s:Sl) (es:List co) (env:Int) (hb:es.length < 2 ^ 38):Sp Tryz.prog n_twin_View [sv s,.int .i64 env] mM [vE s es] (fun r=>aQ [vA r (Twin.view env es),vE s es]):=by
  intro h s0
  have hl:=(cn (j:=0) s0 rfl).1
  refine sim_twin_View _ _ ?_
  unfold sh_twin_View
  refine Lp.intro (fun (z:Sl × Int) h=>∃ n:Nat,z.2 = n∧n ≤ es.length∧aQ [vA z.1 (Twin.view env (es.take n)),vE s es] h) (fun (z:Sl × Int) _=>es.length - z.2.toNat) ⟨0,rfl,Nat.zero_le _,ft s0⟩ ?_
  rintro ⟨z,i⟩ h ⟨n,rfl,hn,s1⟩
  unfold vM
  refine bk (fun k=>?_) (fun k=>?_)
  · have hlt:n < es.length:=by rw [hl] at k; simpa using k
    have hw:IntKind.i64.wrap ((n:Int) + 1) = ((n + 1:Nat):Int):=by rw [cm (by omega) (by omega)]; rfl
    have ht:es.take (n + 1) = es.take n++[es[n]]:=by simp
    refine dF s1 (j:=1) rfl (by omega) (by show (n:Int) < _; omega) fun q hq=>?_
    refine eB (j:=1) (i:=n) (k:=0) es[n] mt s1 rfl hq rfl (aL hlt) (by simp) ?_
    rw [hw]
    refine bk (fun k2=>?_) (fun k2=>?_)
    · have k2':es[n].fEnv = env∧es[n].fEnd > 0:=by simpa using k2
      have hvl:=Twin.view_len env (es.take n)
      simp at hvl
      refine ku (τ:=gD) (i:=0) (enc:=ak.C) (val:=fun x=>.agg x.C.toArray) el_Sapi_Answer ans_len ans_one (fun _=>rfl) (by omega) rfl rfl s1 rfl (by omega) (by omega) fun v h2 s2=>?_
      refine ⟨⟨n + 1,rfl,hlt,?_⟩,by simp; omega⟩
      rw [ht,Twin.view_app,if_pos k2']
      exact s2
    · have k2':¬ (es[n].fEnv = env∧es[n].fEnd > 0):=by simpa using k2
      refine ⟨⟨n + 1,rfl,hlt,?_⟩,by simp; omega⟩
      rw [ht,Twin.view_app,if_neg k2',List.append_nil]
      exact s1
  · have:n = es.length:=by rw [hl] at k; simp at k; omega
    subst this
    rw [List.take_length] at s1
    exact s1
end Go.Proofs.YtniiiakkdoiaiaaGreatDoor
