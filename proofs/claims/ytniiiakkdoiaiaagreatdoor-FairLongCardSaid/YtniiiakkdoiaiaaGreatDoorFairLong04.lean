/- Part of the proof of: For every number of cores, every gap and every core, messuagelaw16.FairLong returns true and leaves its arguments as they were; errors.errorType holds the handle of the type error when the call begins. -/
import Derived.Test.YtniiiakkdoiaiaaGreatDoorFairLong03
set_option linter.all false
namespace Go.Proofs.YtniiiakkdoiaiaaGreatDoor
open Go Mb
set_option linter.unusedVariables false
def sh_table_New (K:Ptr→Hp→Prop):Hp→Prop:=hpv Tryz.prog (Instr.build ka #[]) encL fun (v1:(List Value))=>nw ka v1 fun b2=>K (some (b2,0))
set_option maxRecDepth 20000 in
theorem sim_table_New {K:Ptr→Hp→Prop} {h:Hp} (H:sh_table_New K h):Ct Tryz.prog kS #[] h fun v h'=>∃ r,v = ie r∧K r h':=aB [] Tryz.func93 rfl rfl rfl fun _=>ag<|ab<|aa (ae rfl) rfl<|ad<|ag<|ab<|ai (bc H (x_build (vs:=[]) rfl) rfl fun v1 _ H1=>ai (gV rfl rfl rfl H1 fun b2 _ H2=>aa (ae rfl) rfl<|ad<|an<|av (ay rfl (aD rfl)) ⟨(some (b2,0)),rfl,H2⟩))
def iB (a0:Ptr) (a1:Int) (K:(aq × Bool)→Hp→Prop) (s1:Bool):Hp→Prop:=br s1 ( K ((⟨0,0,0⟩:aq),false)) ( nn a0 fun q26=>gd (0 ≤ a1∧a1 < 8)<|ld (q26.1,q26.2 + 0 + Int.toNat a1 * 3) aq.C fun x29=>K (x29,true))
def td (a0:Ptr) (a1:Int) (K:(aq × Bool)→Hp→Prop):Hp→Prop:=br (!(a0.isNone || (!(cE a1)))) ( nn a0 fun q16=>gd (0 ≤ a1∧a1 < 8)<|ld (q16.1,q16.2 + 0 + Int.toNat a1 * 3 + 2) (cI .i64) fun x20=>iB a0 a1 K (x20 == 0)) ( iB a0 a1 K true)
set_option maxRecDepth 20000 in
theorem sim_table_Table_At (a0:Ptr) (a1:Int) {K:(aq × Bool)→Hp→Prop} {h:Hp} (H:td a0 a1 K h):Ct Tryz.prog eR #[(pv a0),(.int .i64 a1)] h fun v h'=>∃ r,v = cC r∧K r h':=aB [(pv a0),(.int .i64 a1)] Tryz.func119 rfl rfl rfl fun _=>ag<|ab<|ai (aX (l:=(aq.C (⟨0,0,0⟩:aq))) fQ rfl rfl fun b4=>aa (ae rfl) rfl<|ad<|ag<|eB (iB a0 a1 K) (fun s1=>[(0,(pv a0)),(1,(.int .i64 a1)),(4,(.pointer (some ⟨b4,0,none⟩))),(22,(.bool s1))]) (fun s1=>[bx b4 74 (aq.C (⟨0,0,0⟩:aq))]) ( ab<|aa (ac rfl) rfl<|aa (cw Tryz.underlying133 rfl) rfl<|aa (ac rfl) rfl<|aj rfl rfl rfl (aV _) (fun g10=>wv (ac rfl)) rfl<|dc (vs:=[(.int .i64 a1)]) rfl rfl rfl (aV _) (fun g11=>(bH (tT a1 _))) en_140 (fun g11=>(aZ (aI rfl g11) bW)) rfl<|aj rfl rfl rfl (aV _) (fun g12=>wv (cx (aI rfl g12))) rfl<|aa (dA rfl rfl) rfl<|aa (ac rfl) rfl<|aj rfl rfl rfl (aV _) (fun g13=>wv (ac rfl)) rfl<|aj rfl rfl rfl (aV _) (fun g14=>wv (ac rfl)) rfl<|bX H (fun k16 H17=>bM H17 fun q16 e18 H19=>aK rfl rfl rfl (congrArg Value.bool (cn k16)) (aO (wv (aS (aU (aI rfl k16) (aw e18)))) rfl<|aK rfl rfl rfl (congrArg Value.bool (cn k16)) (aO (wv (am kh rfl)) rfl<|ir H19 fun h20 H21=>aK rfl rfl rfl (congrArg Value.bool (cn k16)) (aO (wv (bI rE rfl (aI rfl k16) h20)) rfl<|aK rfl rfl rfl (congrArg Value.bool (cn k16)) (aO (wv (am eI rfl)) rfl<|aK rfl rfl rfl (congrArg Value.bool (cn k16)) (bf H21 bj rfl (fun _=>rfl) rfl fun x20 H22=>aK rfl rfl rfl (congrArg Value.bool (cn k16)) (aO (wv (bU rfl rfl)) rfl<|aa (ax rfl (cn k16) rfl) rfl<|ad<|cO (x20 == 0) H22 (.cons rfl (.cons rfl (.cons rfl (.cons rfl (.nil _))))) (.cons_cons _ .slnil)))))))) (fun k16 H17=>al rfl rfl rfl (ci (bP k16)) rfl<|al rfl rfl rfl (ci (bP k16)) rfl<|al rfl rfl rfl (ci (bP k16)) rfl<|al rfl rfl rfl (ci (bP k16)) rfl<|al rfl rfl rfl (ci (bP k16)) rfl<|al rfl rfl rfl (ci (bP k16)) rfl<|aa (bd rfl (bP k16) rfl) rfl<|ad<|cO true H17 (.cons rfl (.cons rfl (.cons rfl (.cons rfl (.nil _))))) (.cons_cons _ .slnil))) (fun s1 _ H2=>aC rfl H2 (fun k3 H4=>ag<|ab<|aa (bk (vs:=[]) rfl mC) rfl<|ai (aY (k:=0) (vs:=(aq.C (⟨0,0,0⟩:aq))) dR rfl rfl rfl rfl rfl rfl rfl<|aa (ae rfl) rfl<|ad<|an<|av (cc rfl (bK (k:=0) rfl fC rfl rfl) (aD rfl)) ⟨((⟨0,0,0⟩:aq),false),rfl,H4⟩)) (fun k3 H4=>au<|ag<|ab<|aa (ac rfl) rfl<|aa (ac rfl) rfl<|bM H4 fun q26 e5 H6=>aa (aS (aU rfl (aw e5))) rfl<|aa (am kh rfl) rfl<|ir H6 fun h7 H8=>aa (bI rE rfl rfl h7) rfl<|ai (gU H8 fC rfl (fun _=>rfl) rfl fun x29 H9=>ai (aY (k:=0) (vs:=(aq.C x29)) dR rfl rfl rfl rfl rfl rfl rfl<|aa (ae rfl) rfl<|ad<|an<|av (cc rfl (bK (k:=0) rfl fC rfl rfl) (aD rfl)) ⟨(x29,true),rfl,H9⟩)))))
def oI (a0:Ptr) (a1:Int) (a2:aq) (K:Int→Hp→Prop):Hp→Prop:=br a0.isNone ( K 10) ( br (((!(gm a2).2) || (a2.fRights == 0)) || (!(cE a1))) ( K 2) ( nn a0 fun q30=>gd (0 ≤ a1∧a1 < 8)<|ld (q30.1,q30.2 + 0 + Int.toNat a1 * 3 + 2) (cI .i64) fun x34=>br (x34 != 0) ( K 4) ( st (q30.1,q30.2 + 0 + Int.toNat a1 * 3) (aq.C a2)<|K 0)))
set_option maxRecDepth 20000 in
theorem vy (a0:Ptr) (a1:Int) (a2:aq) {K:Int→Hp→Prop} {h:Hp} (H:oI a0 a1 a2 K h):Ct Tryz.prog dY #[(pv a0),(.int .i64 a1),(.agg (aq.C a2).toArray)] h fun v h'=>∃ r,v = bu r∧K r h':=aB [(pv a0),(.int .i64 a1),(.agg (aq.C a2).toArray)] Tryz.func97 rfl rfl rfl fun _=>ag<|ab<|ai (cQ (l:=(aq.C a2)) rfl rfl rfl fun b5=>aa (ae rfl) rfl<|ad<|ag<|ag<|ab<|aa (ac rfl) rfl<|aa (cw Tryz.underlying133 rfl) rfl<|ad<|aC rfl H (fun k1 H2=>ag<|ab<|aa (ae rfl) rfl<|ad<|an<|av (ay rfl (aD rfl)) ⟨10,rfl,H2⟩) (fun k1 H2=>au<|ag<|ag<|ab<|bw (bL (k:=0) fC rfl rfl rfl rfl) rfl<|ai (cN (vs:=[(.agg (aq.C a2).toArray)]) (bH (ct_pte_Put a2 _)) en_139 rfl rfl<|aa (ac rfl) rfl<|aa (ap rfl rfl) rfl<|aa (ap rfl rfl) rfl<|aa (ae rfl) rfl<|aa (ae rfl) rfl<|ad<|ag<|ab<|aa (ac rfl) rfl<|aa (cx rfl) rfl<|aa (ac rfl) rfl<|aj rfl rfl rfl (aV _) (fun g3=>wv (am eI rfl)) rfl<|aj rfl rfl rfl (aV _) (fun g4=>cv (bt (k:=0) bj (aI rfl g4) rfl rfl)) rfl<|aj rfl rfl rfl (aV _) (fun g5=>wv (bU (aI rfl g5) rfl)) rfl<|aa (dA rfl rfl) rfl<|aa (ac rfl) rfl<|aj rfl rfl rfl (aV _) (fun g6=>wv (ac rfl)) rfl<|dc (vs:=[(.int .i64 a1)]) rfl rfl rfl (aV _) (fun g7=>(bH (tT a1 _))) en_140 (fun g7=>(aZ (aI rfl g7) bW)) rfl<|aj rfl rfl rfl (aV _) (fun g8=>wv (cx (aI rfl g8))) rfl<|aa (dA rfl rfl) rfl<|ad<|aC rfl H2 (fun k9 H10=>ag<|ab<|aa (ae rfl) rfl<|ad<|an<|av (ay rfl (aD rfl)) ⟨2,rfl,H10⟩) (fun k9 H10=>au<|ag<|ag<|ab<|aa (ac rfl) rfl<|aa (ac rfl) rfl<|bM H10 fun q30 e11 H12=>aa (aS (aU rfl (aw e11))) rfl<|aa (am kh rfl) rfl<|ir H12 fun h13 H14=>aa (bI rE rfl rfl h13) rfl<|aa (am eI rfl) rfl<|ai (bf H14 bj rfl (fun _=>rfl) rfl fun x34 H15=>aa (pV rfl rfl) rfl<|ad<|aC rfl H15 (fun k16 H17=>ag<|ab<|aa (ae rfl) rfl<|ad<|an<|av (ay rfl (aD rfl)) ⟨4,rfl,H17⟩) (fun k16 H17=>au<|ag<|bB (n:=7) [bx b5 74 (aq.C a2)] cu rfl (.cons_cons _ .slnil)<|ah (i:=0) (fun _ _ _ _=>id) rfl (by kernel_rfl) rfl (ve (ac (aU rfl (aw e11))))<|ah (i:=1) (fun _ _ _ _=>id) rfl (by kernel_rfl) rfl (ve (ac rfl))<|ah (i:=2) (fun _ _ _ _=>id) rfl (by kernel_rfl) rfl (eq (k:=0) fC rfl rfl rfl rfl)<|ah (i:=3) (fun _ _ _ _=>id) rfl (by kernel_rfl) rfl (ve (aS rfl))<|ah (i:=4) (fun _ _ _ _=>id) rfl (by kernel_rfl) rfl (ve (am kh rfl))<|ah (i:=5) (fun _ _ _ _=>id) rfl (by kernel_rfl) rfl (ve (bI rE rfl rfl h13))<|bg (i:=6) (by kernel_rfl) (aG rfl rfl (dC dR rfl rfl rfl rfl rfl H17 fun _ H18=>⟨(.cons_cons _ .slnil),be (by kernel_rfl)<|ag<|ab<|aa (ae rfl) rfl<|ad<|an<|av (ay rfl (aD rfl)) ⟨0,rfl,H18⟩⟩))))))))
def oH (a0:Ptr) (a1:Int) (K:(aq × Int)→Hp→Prop):Hp→Prop:=br a0.isNone ( K ((⟨0,0,0⟩:aq),10)) ( br (!(cE a1)) ( K ((⟨0,0,0⟩:aq),2)) ( nn a0 fun q19=>gd (0 ≤ a1∧a1 < 8)<|ld (q19.1,q19.2 + 0 + Int.toNat a1 * 3 + 2) (cI .i64) fun x23=>br (x23 == 0) ( K ((⟨0,0,0⟩:aq),3)) ( ld (q19.1,q19.2 + 0 + Int.toNat a1 * 3) aq.C fun x31=>st (q19.1,q19.2 + 0 + Int.toNat a1 * 3) (aq.C (⟨0,0,0⟩:aq))<|K (x31,0))))
set_option maxRecDepth 20000 in
theorem vx (a0:Ptr) (a1:Int) {K:(aq × Int)→Hp→Prop} {h:Hp} (H:oH a0 a1 K h):Ct Tryz.prog iJ #[(pv a0),(.int .i64 a1)] h fun v h'=>∃ r,v = jg r∧K r h':=aB [(pv a0),(.int .i64 a1)] Tryz.func113 rfl rfl rfl fun _=>ag<|ab<|ai (aX (l:=(aq.C (⟨0,0,0⟩:aq))) fQ rfl rfl fun b4=>aa (ae rfl) rfl<|ad<|ag<|aE<|ag<|ab<|aa (ac rfl) rfl<|aa (cw Tryz.underlying133 rfl) rfl<|aa (ae rfl) rfl<|ad<|aC rfl H (fun k1 H2=>ag<|ab<|aa (bk (vs:=[]) rfl mC) rfl<|ai (aY (k:=0) (vs:=(aq.C (⟨0,0,0⟩:aq))) dR rfl rfl rfl rfl rfl rfl rfl<|aa (ae rfl) rfl<|ad<|an<|av (cc rfl (bK (k:=0) rfl fC rfl rfl) (aD rfl)) ⟨((⟨0,0,0⟩:aq),10),rfl,H2⟩)) (fun k1 H2=>ag<|ab<|aa (ac rfl) rfl<|ai (cN (vs:=[(.int .i64 a1)]) (bH (tT a1 _)) en_140 rfl rfl<|aa (cx rfl) rfl<|aa (ae rfl) rfl<|ad<|aC rfl H2 (fun k3 H4=>ag<|ab<|aa (bk (vs:=[]) rfl mC) rfl<|ai (aY (k:=0) (vs:=(aq.C (⟨0,0,0⟩:aq))) dR rfl rfl rfl rfl rfl rfl rfl<|aa (ae rfl) rfl<|ad<|an<|av (cc rfl (bK (k:=0) rfl fC rfl rfl) (aD rfl)) ⟨((⟨0,0,0⟩:aq),2),rfl,H4⟩)) (fun k3 H4=>ag<|ab<|aa (ac rfl) rfl<|aa (ac rfl) rfl<|bM H4 fun q19 e5 H6=>aa (aS (aU rfl (aw e5))) rfl<|aa (am kh rfl) rfl<|ir H6 fun h7 H8=>aa (bI rE rfl rfl h7) rfl<|aa (am eI rfl) rfl<|ai (bf H8 bj rfl (fun _=>rfl) rfl fun x23 H9=>aa (bU rfl rfl) rfl<|aa (ae rfl) rfl<|ad<|aC rfl H9 (fun k10 H11=>ag<|ab<|aa (bk (vs:=[]) rfl mC) rfl<|ai (aY (k:=0) (vs:=(aq.C (⟨0,0,0⟩:aq))) dR rfl rfl rfl rfl rfl rfl rfl<|aa (ae rfl) rfl<|ad<|an<|av (cc rfl (bK (k:=0) rfl fC rfl rfl) (aD rfl)) ⟨((⟨0,0,0⟩:aq),3),rfl,H11⟩)) (fun k10 H11=>au<|ag<|ab<|aa (ac (aU rfl (aw e5))) rfl<|aa (ac rfl) rfl<|aa (aS rfl) rfl<|aa (am kh rfl) rfl<|aa (bI rE rfl rfl h7) rfl<|ai (gU H11 fC rfl (fun _=>rfl) rfl fun x31 H12=>ai (aX (l:=(aq.C (⟨0,0,0⟩:aq))) fQ rfl rfl fun b6=>ai (aY (k:=0) (vs:=(aq.C x31)) dR rfl rfl rfl rfl rfl rfl rfl<|ad<|ag<|ab<|aa (ac (aU rfl (aw e5))) rfl<|aa (ac rfl) rfl<|aa (bk (vs:=[]) rfl mC) rfl<|aa (aS rfl) rfl<|aa (am kh rfl) rfl<|aa (bI rE rfl rfl h7) rfl<|ai (dC dR rfl rfl rfl rfl rfl H12 fun _ H13=>ad<|ag<|ab<|bw (bL (k:=0) fC rfl rfl rfl rfl) rfl<|ai (aY (k:=1) (vs:=(aq.C x31)) dR rfl rfl rfl rfl rfl rfl rfl<|aa (ae rfl) rfl<|ad<|an<|av (cc rfl (bK (k:=1) rfl fC rfl rfl) (aD rfl)) ⟨(x31,0),rfl,H13⟩)))))))))))
def nH (a1:Int) (K:Sl→Hp→Prop) (v13:(List Value)) (Rec8:(Sl × Int)→Hp→Prop) (s7:Sl × Int):Hp→Prop:=br (decide (s7.2 < 8)) ( hpv Tryz.prog (Instr.index tb (.agg v13.toArray) (.int .i64 s7.2)) vd fun (v17:aq)=>br ((v17.fRights != 0) && (v17.fSlot == a1)) ( hpv Tryz.prog (Instr.buildSlice dK 1 #[(0,(.int .i64 s7.2))]) cD fun (v29:Sl)=>hpv Tryz.prog (Builtin.append_ #[dK,dK] dK #[(sv s7.1),(sv v29)]) cD fun (v30:Sl)=>Rec8 (v30,(IntKind.i64.wrap (s7.2 + 1)))) ( Rec8 (s7.1,(IntKind.i64.wrap (s7.2 + 1))))) ( K s7.1)
def tc (a0:Ptr) (a1:Int) (K:Sl→Hp→Prop):Hp→Prop:=br a0.isNone ( K (⟨none,0,0⟩:Sl)) ( nn a0 fun q11=>hpv Tryz.prog (Instr.loadAt tb (.pointer (some ⟨q11.1,q11.2 + 0,none⟩))) encL fun (v13:(List Value))=>Lp (nH a1 K v13) ((⟨none,0,0⟩:Sl),0))
set_option maxRecDepth 20000 in
theorem sim_table_Table_By (a0:Ptr) (a1:Int) {K:Sl→Hp→Prop} {h:Hp} (H:tc a0 a1 K h):Ct Tryz.prog ly #[(pv a0),(.int .i64 a1)] h fun v h'=>∃ r,v = cD r∧K r h':=aB [(pv a0),(.int .i64 a1)] Tryz.func159 rfl rfl rfl fun _=>ag<|ab<|aa (ae rfl) rfl<|ad<|ag<|ag<|ab<|aa (ac rfl) rfl<|aa (cw Tryz.underlying133 rfl) rfl<|ad<|aC rfl H (fun k1 H2=>ag<|ab<|aa (ae rfl) rfl<|ad<|an<|av (ay rfl (aD rfl)) ⟨(⟨none,0,0⟩:Sl),rfl,H2⟩) (fun k1 H2=>au<|ag<|ab<|aa (ae rfl) rfl<|ad<|ag<|ag<|ab<|aa (ac rfl) rfl<|bM H2 fun q11 e3 H4=>aa (aS (aU rfl (aw e3))) rfl<|aa (am kh rfl) rfl<|ai (bc H4 (x_load rfl) rfl fun v13 _ H6=>aa (ac rfl) rfl<|ad<|aE<|bO (step:=nH a1 K v13) (fun s7=>[(1,(.int .i64 a1)),(5,(sv s7.1)),(13,(.agg v13.toArray)),(14,(.int .i64 s7.2))]) (fun s7=>[]) H6 (.cons rfl (.cons rfl (.cons rfl (.cons rfl (.nil _))))) .slnil (fun Rec8 s7 _ H9=>ag<|ab<|aa (cG rfl rfl) rfl<|ad<|ag<|aC rfl H9 (fun k10 H11=>au<|ag<|aE<|ag<|ab<|aa (ac rfl) rfl<|ai (bc H11 (x_index rfl rfl) rfl fun v17 _ H12=>ai (aX (l:=(aq.C (⟨0,0,0⟩:aq))) fQ rfl rfl fun b7=>aa (ae rfl) rfl<|ai (aY (k:=0) (vs:=(aq.C v17)) dR rfl rfl rfl rfl rfl rfl rfl<|ad<|ag<|ab<|aa (am eI rfl) rfl<|bw (bt (k:=0) bj rfl rfl rfl) rfl<|aa (pV rfl rfl) rfl<|aa (ac rfl) rfl<|aj rfl rfl rfl (aA _) (fun g13=>wv (am sG rfl)) rfl<|aj rfl rfl rfl (aA _) (fun g14=>cv (bt (k:=0) bj (aI rfl g14) rfl rfl)) rfl<|aj rfl rfl rfl (aA _) (fun g15=>wv (ac rfl)) rfl<|aj rfl rfl rfl (aA _) (fun g16=>wv (bU (aI rfl g16) (aI rfl g16))) rfl<|aa (bY rfl rfl) rfl<|ad<|aC rfl H12 (fun k17 H18=>ab<|aa (ac rfl) rfl<|aa (ac rfl) rfl<|ai (bc H18 (bD (vs:=[(.int .i64 s7.2)]) rfl) rfl fun v29 _ H19=>ai (bc H19 (dw rfl rfl) rfl fun v30 _ H20=>aa (ae rfl) rfl<|ad<|ab<|aa (bE rfl rfl) rfl<|aa (ac rfl) rfl<|ad<|cT (v30,(IntKind.i64.wrap (s7.2 + 1))) H20 (.cons rfl (.cons rfl (.cons rfl (.cons rfl (.nil _))))) (.cons _ .slnil)))) (fun k17 H18=>au<|ab<|aa (bE rfl rfl) rfl<|aa (ac rfl) rfl<|ad<|cT (s7.1,(IntKind.i64.wrap (s7.2 + 1))) H18 (.cons rfl (.cons rfl (.cons rfl (.cons rfl (.nil _))))) (.cons _ .slnil)))))) (fun k10 H11=>bz<|ag<|ab<|aa (ac rfl) rfl<|aa (ae rfl) rfl<|ad<|an<|av (ay rfl (aD rfl)) ⟨s7.1,rfl,H11⟩))))
def nN (a0:Ptr) (a1:Int) (a2:Int) (K:Int→Hp→Prop):Hp→Prop:=br a0.isNone ( K 10) ( br ((!(cE a1)) || (!(cH a2))) ( K 2) ( nn a0 fun q22=>gd (0 ≤ a1∧a1 < 8)<|ld (q22.1,q22.2 + 0 + Int.toNat a1 * 3 + 2) (cI .i64) fun x26=>br (x26 == 0) ( K 3) ( st (q22.1,q22.2 + 0 + Int.toNat a1 * 3 + 2) [.int .i64 a2]<|K 0)))
set_option maxRecDepth 20000 in
theorem um (a0:Ptr) (a1:Int) (a2:Int) {K:Int→Hp→Prop} {h:Hp} (H:nN a0 a1 a2 K h):Ct Tryz.prog km #[(pv a0),(.int .i64 a1),(.int .i64 a2)] h fun v h'=>∃ r,v = bu r∧K r h':=aB [(pv a0),(.int .i64 a1),(.int .i64 a2)] Tryz.func161 rfl rfl rfl fun _=>ag<|ab<|aa (ae rfl) rfl<|ad<|ag<|aE<|ag<|ab<|aa (ac rfl) rfl<|aa (cw Tryz.underlying133 rfl) rfl<|aa (ae rfl) rfl<|ad<|aC rfl H (fun k1 H2=>ag<|ab<|aa (ae rfl) rfl<|ad<|an<|av (ay rfl (aD rfl)) ⟨10,rfl,H2⟩) (fun k1 H2=>ag<|ab<|aa (ac rfl) rfl<|ai (cN (vs:=[(.int .i64 a1)]) (bH (tT a1 _)) en_140 rfl rfl<|aa (cx rfl) rfl<|aa (ac rfl) rfl<|aj rfl rfl rfl (aV _) (fun g3=>wv (ac rfl)) rfl<|dc (vs:=[(.int .i64 a2)]) rfl rfl rfl (aV _) (fun g4=>(bH (pG a2 _))) en_150 (fun g4=>(aZ (aI rfl g4) bW)) rfl<|aj rfl rfl rfl (aV _) (fun g5=>wv (cx (aI rfl g5))) rfl<|aa (dA rfl rfl) rfl<|aa (ae rfl) rfl<|ad<|aC rfl H2 (fun k6 H7=>ag<|ab<|aa (ae rfl) rfl<|ad<|an<|av (ay rfl (aD rfl)) ⟨2,rfl,H7⟩) (fun k6 H7=>ag<|ab<|aa (ac rfl) rfl<|aa (ac rfl) rfl<|bM H7 fun q22 e8 H9=>aa (aS (aU rfl (aw e8))) rfl<|aa (am kh rfl) rfl<|ir H9 fun h10 H11=>aa (bI rE rfl rfl h10) rfl<|aa (am eI rfl) rfl<|ai (bf H11 bj rfl (fun _=>rfl) rfl fun x26 H12=>aa (bU rfl rfl) rfl<|aa (ae rfl) rfl<|ad<|aC rfl H12 (fun k13 H14=>ag<|ab<|aa (ae rfl) rfl<|ad<|an<|av (ay rfl (aD rfl)) ⟨3,rfl,H14⟩) (fun k13 H14=>au<|ag<|ab<|aa (ac (aU rfl (aw e8))) rfl<|aa (ac rfl) rfl<|aa (ac rfl) rfl<|aa (aS rfl) rfl<|aa (am kh rfl) rfl<|aa (bI rE rfl rfl h10) rfl<|aa (am eI rfl) rfl<|ai (dC qo rfl rfl rfl rfl rfl H14 fun _ H15=>ad<|ag<|ab<|aa (ae rfl) rfl<|ad<|an<|av (ay rfl (aD rfl)) ⟨0,rfl,H15⟩))))))
end Go.Proofs.YtniiiakkdoiaiaaGreatDoor
namespace Go.Proofs.YtniiiakkdoiaiaaGreatDoor
open Go Mb
abbrev Pte:=aq
theorem ja (p:Pte):p.C.length = 3:=rfl
abbrev eo:Pte:=⟨0,0,0⟩
def da (x:Ptr) (ps:List Pte):As:=fun h=>∃ b:Nat,(x = some (b,0)∧ps.length = 8)∧aN [blk b ka ([]++(ps.flatMap aq.C++[]))] h
theorem table_op {x:Ptr} {ps:List Pte} {l:List As} {h:Hp} (s0:aN (da x ps::l) h):∃ b,x = some (b,0)∧ps.length = 8∧aN (blk b ka ([]++(ps.flatMap aq.C++[]))::l) h:=by
  obtain ⟨b,⟨hx,hb⟩,st⟩:=op_ s0
  exact ⟨b,hx,hb,st⟩
theorem iA {b:Nat} {ps:List Pte} {l:List As} {h:Hp} (hb:ps.length = 8) (st:aN (blk b ka ([]++(ps.flatMap aq.C++[]))::l) h):aN (da (some (b,0)) ps::l) h:=cl_ b ⟨rfl,hb⟩ st
namespace Table
def at_ (ps:List Pte) (i:Int):Pte:=ps.getD i.toNat eo
def get (ps:List Pte) (i:Int):Pte × Bool:=if cE i = true∧(at_ ps i).fRights ≠ 0 then (at_ ps i,true) else (eo,false)
def insert (ps:List Pte) (i:Int) (p:Pte):Int × List Pte :=
  if (gm p).2 = false∨p.fRights = 0∨cE i = false then (2,ps) else if (at_ ps i).fRights ≠ 0 then (4,ps) else (0,ps.set i.toNat p)
def protect (ps:List Pte) (i r:Int):Int × List Pte :=
  if cE i = false∨cH r = false then (2,ps) else if (at_ ps i).fRights = 0 then (3,ps) else (0,ps.set i.toNat { at_ ps i with fRights:=r })
def remove (ps:List Pte) (i:Int):(Pte × Int) × List Pte :=
  if cE i = false then ((eo,2),ps) else if (at_ ps i).fRights = 0 then ((eo,3),ps) else ((at_ ps i,0),ps.set i.toNat eo)
def byFrom (s:Int):List Pte→Int→List Int
  | [],_=>[]
  | p::ps,i=>if p.fRights ≠ 0∧p.fSlot = s then i::byFrom s ps (i + 1) else byFrom s ps (i + 1)
def by_ (ps:List Pte) (s:Int):List Int:=byFrom s ps 0
end Table
theorem table_is {i:Int} (h:cE i = true):∃ n:Nat,i = n∧n < 8:=by
  unfold cE at h
  simp at h
  exact ⟨i.toNat,by omega,by omega⟩
theorem table_new_run (K:Value→Hp→Prop) (h:Hp):hp Tryz.prog (Instr.build ka #[]) K h = K (.agg ((List.replicate 8 eo).flatMap aq.C).toArray) h:=by kernel_rfl
theorem nJ:Sp Tryz.prog kS [] ie [] (fun r=>aN [da r (List.replicate 8 eo)]):=by
  intro h st
  refine sim_table_New ?_
  unfold sh_table_New
  refine ⟨?_⟩
  rw [table_new_run]
  refine ⟨_,rfl,?_⟩
  refine oF st fun b h' s1=>?_
  exact iA rfl s1
theorem jT (x:Ptr) (ps:List Pte) (i:Int) (p:Pte):Sp Tryz.prog dY [pv x,.int .i64 i,.agg p.C.toArray] bu [da x ps] (fun r=>pa_ (r = (Table.insert ps i p).1) [da x (Table.insert ps i p).2]):=by
  intro h s0
  obtain ⟨b,rfl,hb,st⟩:=table_op s0
  refine vy _ _ _ ?_
  unfold oI
  refine dJ rfl ?_
  refine bi (fun k=>?_) (fun k=>?_)
  · have k':(gm p).2 = false∨p.fRights = 0∨cE i = false:=by simpa [or_assoc] using k
    have e:Table.insert ps i p = (2,ps):=if_pos k'
    rw [e]
    exact bh rfl (iA hb st)
  · have k':¬ ((gm p).2 = false∨p.fRights = 0∨cE i = false):=by simp at k; simp [k]
    obtain ⟨n,rfl,hn⟩:=table_is (i:=i) (by simp at k'; exact k'.2.2)
    have hn':n < ps.length:=by omega
    have hat:Table.at_ ps n = ps[n]:=by simp [Table.at_,hn']
    refine cJ ⟨⟨by omega,by omega⟩,?_⟩
    refine ld_a (j:=0) (i:=n) (k:=2) ps[n].fRights ja st rfl (by simp) (aM hn') (c1 rfl rfl) ?_
    refine bi (fun k2=>?_) (fun k2=>?_)
    · have k2':(Table.at_ ps n).fRights ≠ 0:=by rw [hat]; simpa using k2
      have e:Table.insert ps n p = (4,ps):=by unfold Table.insert; rw [if_neg k',if_pos k2']
      rw [e]
      exact bh rfl (iA hb st)
    · have k2':¬ (Table.at_ ps n).fRights ≠ 0:=by rw [hat]; simpa using k2
      have e:Table.insert ps n p = (0,ps.set n p):=by unfold Table.insert; rw [if_neg k',if_neg k2']; rfl
      rw [e]
      refine st_a (j:=0) (i:=n) (k:=0) p ja st rfl (by simp) (aM hn') (by simp [ja]) rfl fun h2 s2=>?_
      exact bh rfl (iA (by simpa using hb) s2)
theorem sp_table_Protect (x:Ptr) (ps:List Pte) (i r:Int):Sp Tryz.prog km [pv x,.int .i64 i,.int .i64 r] bu [da x ps] (fun v=>pa_ (v = (Table.protect ps i r).1) [da x (Table.protect ps i r).2]):=by
  intro h s0
  obtain ⟨b,rfl,hb,st⟩:=table_op s0
  refine um _ _ _ ?_
  unfold nN
  refine dJ rfl ?_
  refine bi (fun k=>?_) (fun k=>?_)
  · have k':cE i = false∨cH r = false:=by simpa using k
    have e:Table.protect ps i r = (2,ps):=if_pos k'
    rw [e]
    exact bh rfl (iA hb st)
  · have k':¬ (cE i = false∨cH r = false):=by simp at k; simp [k]
    obtain ⟨n,rfl,hn⟩:=table_is (i:=i) (by simp at k'; exact k'.1)
    have hn':n < ps.length:=by omega
    have hat:Table.at_ ps n = ps[n]:=by simp [Table.at_,hn']
    refine cJ ⟨⟨by omega,by omega⟩,?_⟩
    refine ld_a (j:=0) (i:=n) (k:=2) ps[n].fRights ja st rfl (by simp) (aM hn') (c1 rfl rfl) ?_
    refine bi (fun k2=>?_) (fun k2=>?_)
    · have k2':(Table.at_ ps n).fRights = 0:=by rw [hat]; simpa using k2
      have e:Table.protect ps n r = (3,ps):=by unfold Table.protect; rw [if_neg k',if_pos k2']
      rw [e]
      exact bh rfl (iA hb st)
    · have k2':¬ (Table.at_ ps n).fRights = 0:=by rw [hat]; simpa using k2
      have e:Table.protect ps n r = (0,ps.set n { ps[n] with fRights:=r }):=by unfold Table.protect; rw [if_neg k',if_neg k2',hat]; rfl
      rw [e]
      refine st_a (j:=0) (i:=n) (k:=2) { ps[n] with fRights:=r } ja st rfl (by simp) (aM hn') (by simp) rfl fun h2 s2=>?_
      exact bh rfl (iA (by simpa using hb) s2)
theorem sp_table_Remove (x:Ptr) (ps:List Pte) (i:Int):Sp Tryz.prog iJ [pv x,.int .i64 i] jg [da x ps] (fun v=>pa_ (v = (Table.remove ps i).1) [da x (Table.remove ps i).2]):=by
  intro h s0
  obtain ⟨b,rfl,hb,st⟩:=table_op s0
  refine vx _ _ ?_
  unfold oH
  refine dJ rfl ?_
  refine bi (fun k=>?_) (fun k=>?_)
  · have k':cE i = false:=by simpa using k
    have e:Table.remove ps i = ((eo,2),ps):=if_pos k'
    rw [e]
    exact bh rfl (iA hb st)
  · have k':¬ (cE i = false):=by simp at k; simp [k]
    obtain ⟨n,rfl,hn⟩:=table_is (i:=i) (by simp at k'; exact k')
    have hn':n < ps.length:=by omega
    have hat:Table.at_ ps n = ps[n]:=by simp [Table.at_,hn']
    refine cJ ⟨⟨by omega,by omega⟩,?_⟩
    refine ld_a (j:=0) (i:=n) (k:=2) ps[n].fRights ja st rfl (by simp) (aM hn') (c1 rfl rfl) ?_
    refine bi (fun k2=>?_) (fun k2=>?_)
    · have k2':(Table.at_ ps n).fRights = 0:=by rw [hat]; simpa using k2
      have e:Table.remove ps n = ((eo,3),ps):=by unfold Table.remove; rw [if_neg k',if_pos k2']
      rw [e]
      exact bh rfl (iA hb st)
    · have k2':¬ (Table.at_ ps n).fRights = 0:=by rw [hat]; simpa using k2
      have e:Table.remove ps n = ((ps[n],0),ps.set n eo):=by unfold Table.remove; rw [if_neg k',if_neg k2',hat]; rfl
      rw [e]
      refine ld_a (j:=0) (i:=n) (k:=0) ps[n] ja st rfl (by simp) (aM hn') (by simp) ?_
      refine st_a (j:=0) (i:=n) (k:=0) eo ja st rfl (by simp) (aM hn') (by simp [ja]) rfl fun h2 s2=>?_
      exact bh rfl (iA (by simpa using hb) s2)
theorem ng (x:Ptr) (ps:List Pte) (i:Int):Sp Tryz.prog eR [pv x,.int .i64 i] cC [da x ps] (fun v=>pa_ (v = Table.get ps i) [da x ps]):=by
  intro h s0
  obtain ⟨b,rfl,hb,st⟩:=table_op s0
  refine sim_table_Table_At _ _ ?_
  unfold td
  refine bi (fun k=>?_) (fun k=>?_)
  · have k':cE i = true:=by simpa using k
    obtain ⟨n,rfl,hn⟩:=table_is k'
    have hn':n < ps.length:=by omega
    have hat:Table.at_ ps n = ps[n]:=by simp [Table.at_,hn']
    refine cJ ⟨⟨by omega,by omega⟩,?_⟩
    refine ld_a (j:=0) (i:=n) (k:=2) ps[n].fRights ja st rfl (by simp) (aM hn') (c1 rfl rfl) ?_
    unfold iB
    refine bi (fun k2=>?_) (fun k2=>?_)
    · have k2':(Table.at_ ps n).fRights = 0:=by rw [hat]; simpa using k2
      have e:Table.get ps n = (eo,false):=if_neg (fun hh=>hh.2 k2')
      rw [e]
      exact bh rfl (iA hb st)
    · have k2':¬ (Table.at_ ps n).fRights = 0:=by rw [hat]; simpa using k2
      have e:Table.get ps n = (ps[n],true):=by unfold Table.get; rw [if_pos ⟨k',k2'⟩,hat]
      rw [e]
      refine cJ ⟨⟨by omega,by omega⟩,?_⟩
      refine ld_a (j:=0) (i:=n) (k:=0) ps[n] ja st rfl (by simp) (aM hn') (by simp) ?_
      exact bh rfl (iA hb st)
  · have k':¬ cE i = true:=by simpa using k
    have e:Table.get ps i = (eo,false):=if_neg (fun hh=>k' hh.1)
    rw [e]
    unfold iB
    exact dN rfl (bh rfl (iA hb st))
theorem by_append (s:Int):∀ (ps:List Pte) (i:Int) (p:Pte),Table.byFrom s (ps++[p]) i = Table.byFrom s ps i++(if p.fRights ≠ 0∧p.fSlot = s then [i + ps.length] else [])
  | [],i,p=>by simp only [List.nil_append,Table.byFrom]; split <;> simp
  | y::ps,i,p=>by
    simp only [List.cons_append,Table.byFrom]
    rw [by_append s ps (i + 1) p]
    have e:i + 1 + (ps.length:Int) = i + ((y::ps).length:Int):=by simp; omega
    rw [e]
    split <;> simp
theorem by_len (s:Int):∀ (ps:List Pte) (i:Int),(Table.byFrom s ps i).length ≤ ps.length
  | [],_=>Nat.le_refl _
  | p::ps,i=>by unfold Table.byFrom; have:=by_len s ps (i + 1); split <;> simp <;> omega
theorem sp_table_By (x:Ptr) (ps:List Pte) (s:Int):Sp Tryz.prog ly [pv x,.int .i64 s] cD [da x ps] (fun r=>aN [vI r (Table.by_ ps s),da x ps]):=by
  intro h s0
  obtain ⟨b,rfl,hb,st⟩:=table_op s0
  refine sim_table_Table_By _ _ ?_
  unfold tc
  refine dJ rfl (cJ ?_)
  obtain ⟨h1,a,sub⟩:=ef (i:=0) rfl st
  have hfl:(ps.flatMap aq.C).length = 24:=by rw [eC ja,hb]
  refine loadAt_v (r:=ps.flatMap aq.C) (cs:=ps.flatMap aq.C) agn_8_api_Pte ⟨_,_,_,sub _ _ a,fun i v hv=>by simpa using hv⟩ hfl rfl ?_
  refine Lp.intro (fun (z:Sl × Int) h=>∃ n:Nat,z.2 = n∧n ≤ 8∧aN [vI z.1 (Table.byFrom s (ps.take n) 0),da (some (b,0)) ps] h) (fun (z:Sl × Int) _=>8 - z.2.toNat) ⟨0,rfl,Nat.zero_le _,fg (iA hb st)⟩ ?_
  rintro ⟨z,i⟩ h ⟨n,rfl,hn,s1⟩
  unfold nH
  refine bi (fun k=>?_) (fun k=>?_)
  · have hlt:n < 8:=by have:=of_decide_eq_true k; omega
    have hn':n < ps.length:=by omega
    have hw:IntKind.i64.wrap ((n:Int) + 1) = ((n + 1:Nat):Int):=by rw [bT (by omega) (by omega)]; rfl
    have ht:ps.take (n + 1) = ps.take n++[ps[n]]:=by simp
    have hlen:((ps.take n).length:Int) = n:=by simp; omega
    refine index_v (enc:=aq.C) (m:=3) arn_8_api_Pte age_8_api_Pte ja (fun _=>rfl) hb (aM hn') ?_
    refine bi (fun k2=>?_) (fun k2=>?_)
    · have k2':ps[n].fRights ≠ 0∧ps[n].fSlot = s:=by simpa using k2
      refine va s1 (i:=0) rfl ?_ fun v h' s2=>?_
      · have:=by_len s (ps.take n) 0; simp at this ⊢; omega
      · rw [hw]
        refine ⟨⟨n + 1,rfl,hlt,?_⟩,by simp; omega⟩
        rw [ht,by_append,if_pos k2',hlen,Int.zero_add]
        exact s2
    · have k2':¬ (ps[n].fRights ≠ 0∧ps[n].fSlot = s):=by simpa using k2
      rw [hw]
      refine ⟨⟨n + 1,rfl,hlt,?_⟩,by simp; omega⟩
      rw [ht,by_append,if_neg k2',List.append_nil]
      exact s1
  · have:n = 8:=by have:=of_decide_eq_false k; omega
    subst this
    rw [show ps.take 8 = ps from by rw [← hb]; exact List.take_length] at s1
    exact s1
end Go.Proofs.YtniiiakkdoiaiaaGreatDoor
namespace Go.Proofs.YtniiiakkdoiaiaaGreatDoor
open Go
namespace Mb
def uK {σ α:Type} (A:σ→α→As):List σ→List α→List As
  | p::ps,x::xs=>A p x::uK A ps xs
  | _,_=>[]
section
variable {σ α:Type} {A:σ→α→As}
theorem objs_get:∀ {ps:List σ} {xs:List α} {i:Nat} {p:σ} {x:α},ps[i]? = some p→xs[i]? = some x→(uK A ps xs)[i]? = some (A p x)
  | [],_,_,_,_,h,_=>by simp at h
  | _::_,[],_,_,_,_,h=>by simp at h
  | p::ps,x::xs,0,_,_,h1,h2=>by simp at h1 h2; subst h1; subst h2; rfl
  | p::ps,x::xs,i + 1,_,_,h1,h2=>by simpa [uK] using objs_get (ps:=ps) (xs:=xs) (i:=i) (by simpa using h1) (by simpa using h2)
theorem objs_set:∀ {ps:List σ} {xs:List α} {i:Nat} {p:σ} {x:α},ps[i]? = some p→(uK A ps xs).set i (A p x) = uK A ps (xs.set i x)
  | [],_,_,_,_,h=>by simp at h
  | p::ps,[],i,_,_,_=>by simp [uK]
  | p::ps,y::xs,0,_,_,h=>by simp at h; subst h; rfl
  | p::ps,y::xs,i + 1,_,_,h=>by simp only [uK,List.set_cons_succ]; rw [objs_set (ps:=ps) (xs:=xs) (i:=i) (by simpa using h)]
theorem objs_set2:∀ {ps:List σ} {xs:List α} {i:Nat} {p:σ} {x:α},i < xs.length→(uK A ps xs).set i (A p x) = uK A (ps.set i p) (xs.set i x)
  | [],_,_,_,_,_=>by simp [uK]
  | p::ps,[],i,_,_,h=>by simp at h
  | p::ps,y::xs,0,_,_,_=>rfl
  | p::ps,y::xs,i + 1,_,_,h=>by simp only [uK,List.set_cons_succ]; rw [objs_set2 (ps:=ps) (xs:=xs) (i:=i) (by simpa using h)]
theorem objs_append (p:σ) (x:α):∀ {ps:List σ} {xs:List α},ps.length = xs.length→uK A (ps++[p]) (xs++[x]) = uK A ps xs++[A p x]
  | [],[],_=>rfl
  | [],_::_,h=>by simp at h
  | _::_,[],h=>by simp at h
  | a::ps,b::xs,h=>by simp only [List.cons_append,uK]; rw [objs_append p x (by simpa using h)]
theorem objs_len:∀ {ps:List σ} {xs:List α},ps.length = xs.length→(uK A ps xs).length = xs.length
  | [],[],_=>rfl
  | [],_::_,h=>by simp at h
  | _::_,[],h=>by simp at h
  | a::ps,b::xs,h=>by simp only [uK,List.length_cons]; rw [objs_len (by simpa using h)]
def all (A:σ→α→As) (ps:List σ) (xs:List α):As:=aN (uK A ps xs)
def but (A:σ→α→As) (ps:List σ) (xs:List α) (i:Nat):As:=aN ((uK A ps xs).eraseIdx i)
variable {l:List As} {h:Hp} {ps:List σ} {xs:List α}
theorem star_shut {m:List As} (s:aN (m++l) h):aN (aN m::l) h:=by
  obtain ⟨h1,h2,d,e,s1,s2⟩:=eQ.1 s
  exact ⟨h1,h2,d,e,s1,s2⟩
theorem jf {i:Nat} {p:σ} {x:α} (hp:ps[i]? = some p) (hx:xs[i]? = some x) (s:aN (all A ps xs::l) h):aN (A p x::but A ps xs i::l) h:=by
  obtain ⟨h1,h2,d,e,a,s'⟩:=s
  have:=gl (objs_get (A:=A) hp hx) a
  obtain ⟨h3,h4,d',e',a',s4⟩:=this
  subst e'
  obtain ⟨d1,d2⟩:=Dj.of_un_left d
  exact ⟨h3,un h4 h2,Dj.un_right d' d1,by rw [e,mh],a',h4,h2,d2,rfl,s4,s'⟩
theorem wF {i:Nat} {p:σ} {y:α} (hp:ps[i]? = some p) (hi:i < xs.length) (hl:ps.length = xs.length) (s:aN (A p y::but A ps xs i::l) h):aN (all A ps (xs.set i y)::l) h:=by
  obtain ⟨h1,h2,d,e,a,h3,h4,d',e',b,s'⟩:=s
  subst e'
  obtain ⟨d1,d2⟩:=Dj.of_un_right d
  refine ⟨un h1 h3,h4,Dj.un_left d2 d',by rw [e,mh],?_,s'⟩
  have:=fw (A:=A p y) (l:=uK A ps xs) (i:=i) (by rw [objs_len hl]; exact hi) ⟨h1,h3,d1,rfl,a,b⟩
  rw [objs_set hp] at this
  exact this
theorem all_in2 {i:Nat} {p:σ} {y:α} (hi:i < xs.length) (hl:ps.length = xs.length) (s:aN (A p y::but A ps xs i::l) h):aN (all A (ps.set i p) (xs.set i y)::l) h:=by
  obtain ⟨h1,h2,d,e,a,h3,h4,d',e',b,s'⟩:=s
  subst e'
  obtain ⟨d1,d2⟩:=Dj.of_un_right d
  refine ⟨un h1 h3,h4,Dj.un_left d2 d',by rw [e,mh],?_,s'⟩
  have:=fw (A:=A p y) (l:=uK A ps xs) (i:=i) (by rw [objs_len hl]; exact hi) ⟨h1,h3,d1,rfl,a,b⟩
  rw [objs_set2 hi] at this
  exact this
theorem iD {α:Type} {xs:List α} {i:Nat} {x:α} (hx:xs[i]? = some x):xs.set i x = xs:=by
  apply List.ext_getElem?
  intro n
  rw [List.getElem?_set]
  by_cases e:i = n
  · subst e
    obtain ⟨h1,h2⟩:=List.getElem?_eq_some_iff.1 hx
    simp [h1,h2]
  · simp [e]
theorem vb {i:Nat} {p:σ} {x:α} (hp:ps[i]? = some p) (hx:xs[i]? = some x) (hl:ps.length = xs.length) (s:aN (A p x::but A ps xs i::l) h):aN (all A ps xs::l) h:=by
  have:=wF hp (List.getElem?_eq_some_iff.1 hx).1 hl s
  rwa [iD hx] at this
theorem all_nil:aN l h→aN (all A [] []::l) h:=fun s=>star_cons (fun _=>trivial) s
theorem all_push {p:σ} {x:α} (hl:ps.length = xs.length) (s:aN (A p x::all A ps xs::l) h):aN (all A (ps++[p]) (xs++[x])::l) h:=by
  refine star_shut ?_
  rw [objs_append p x hl]
  have s1:=ke (.swap _ _ _) s
  have s2:=dF s1
  exact ke (by simp) s2
end
theorem vo {A:As} {h:Hp} (a:A h):aN [A] h:=⟨h,emp,Dj.emp_right _,(un_emp _).symm,a,trivial⟩
section
variable {P:Program} {l:List As} {h:Hp} {τ:Type} {f:FuncId} {args:List Value} {enc:τ→Value} {K:τ→Hp→Prop} {i:Nat} {A:As}
theorem cd {φ:τ→Prop} {A':τ→As} (c:Sp P f args enc [A] (fun r=>pa_ (φ r) [A' r])) (hi:l[i]? = some A) (s:aN l h) (k:∀ r h',φ r→aN (l.set i (A' r)) h'→K r h'):cl P f args enc K h:=by
  obtain ⟨h1,h2,d,rfl,a,s'⟩:=gl hi s
  refine (c h1 (vo a)).frame_mono d rfl fun v h' ⟨r,hv,q⟩ dj=>⟨r,hv,?_⟩
  obtain ⟨g1,q⟩:=q
  refine k r _ g1 (fw (List.getElem?_eq_some_iff.1 hi).1 ?_)
  exact nf (l:=[A' r]++l.eraseIdx i) (by rw [List.append_nil]; exact eQ.2 ⟨h',h2,dj,rfl,q,s'⟩)
theorem cl_n {B A':τ→As} (c:Sp P f args enc [A] (fun r=>aN [B r,A' r])) (hi:l[i]? = some A) (s:aN l h) (k:∀ r h',aN (B r::l.set i (A' r)) h'→K r h'):cl P f args enc K h:=by
  obtain ⟨h1,h2,d,rfl,a,s'⟩:=gl hi s
  refine (c h1 (vo a)).frame_mono d rfl fun v h' ⟨r,hv,q⟩ dj=>⟨r,hv,k r _ ?_⟩
  have s1:aN (B r::A' r::l.eraseIdx i) (un h' h2):=(eQ (l:=[B r,A' r])).2 ⟨h',h2,dj,rfl,q,s'⟩
  obtain ⟨g1,g2,d2,e2,b,s2⟩:=s1
  exact ⟨g1,g2,d2,e2,b,fw (List.getElem?_eq_some_iff.1 hi).1 s2⟩
theorem cl_p {φ:τ→Prop} {B A':τ→As} (c:Sp P f args enc [A] (fun r=>pa_ (φ r) [B r,A' r])) (hi:l[i]? = some A) (s:aN l h) (k:∀ r h',φ r→aN (B r::l.set i (A' r)) h'→K r h'):cl P f args enc K h:=by
  obtain ⟨h1,h2,d,rfl,a,s'⟩:=gl hi s
  refine (c h1 (vo a)).frame_mono d rfl fun v h' ⟨r,hv,q⟩ dj=>⟨r,hv,?_⟩
  obtain ⟨g0,q⟩:=q
  refine k r _ g0 ?_
  have s1:aN (B r::A' r::l.eraseIdx i) (un h' h2):=(eQ (l:=[B r,A' r])).2 ⟨h',h2,dj,rfl,q,s'⟩
  obtain ⟨g1,g2,d2,e2,b,s2⟩:=s1
  exact ⟨g1,g2,d2,e2,b,fw (List.getElem?_eq_some_iff.1 hi).1 s2⟩
theorem sX {φ:τ→Prop} (c:Sp P f args enc [] (fun r=>pa_ (φ r) [])) (s:aN l h) (k:∀ r h',φ r→aN l h'→K r h'):cl P f args enc K h :=
  cU [] c s rfl fun r h' s1=>by
    obtain ⟨f1,s2⟩:=bF.1 s1
    exact k r h' f1 s2
theorem li {B:τ→As} (c:Sp P f args enc [] (fun r=>aN [B r])) (s:aN l h) (k:∀ r h',aN (B r::l) h'→K r h'):cl P f args enc K h :=
  cU [] c s rfl fun r h' s1=>k r h' (dF s1)
end
end Mb
end Go.Proofs.YtniiiakkdoiaiaaGreatDoor
namespace Go.Proofs.YtniiiakkdoiaiaaGreatDoor
open Go Mb
set_option linter.unusedVariables false
def sh_caps_New (a0:Int) (K:Ptr→Hp→Prop):Hp→Prop:=br ((decide (a0 < 1)) || (decide (a0 > 4))) ( K none) ( hpv Tryz.prog (Instr.makeSlice t_S_8_api_Cap (.int .i64 a0) (.int .i64 a0)) R_S_8_api_Cap fun (v10:Sl)=>nw ne (nE.C (⟨v10⟩:nE)) fun b12=>K (some (b12,0)))
set_option maxRecDepth 20000 in
theorem sim_caps_New (a0:Int) {K:Ptr→Hp→Prop} {h:Hp} (H:sh_caps_New a0 K h):Ct Tryz.prog wi #[(.int .i64 a0)] h fun v h'=>∃ r,v = rG r∧K r h':=aB [(.int .i64 a0)] Tryz.func92 rfl rfl rfl fun _=>ag<|ab<|aa (ae rfl) rfl<|ad<|ag<|ag<|ab<|aa (ac rfl) rfl<|aa (cG rfl rfl) rfl<|aa (ac rfl) rfl<|aj rfl rfl rfl (aV _) (fun g1=>wv (ac rfl)) rfl<|aj rfl rfl rfl (aV _) (fun g2=>wv (pW (aI rfl g2) rfl)) rfl<|aa (dA rfl rfl) rfl<|ad<|aC rfl H (fun k3 H4=>ag<|ab<|aa (ae rfl) rfl<|ad<|an<|av (ay rfl (aD rfl)) ⟨none,rfl,H4⟩) (fun k3 H4=>au<|ag<|ab<|aa (ac rfl) rfl<|ai (bc H4 (jA rfl rfl) rfl fun v10 _ H5=>aa (bk rfl (build_186_0 v10)) rfl<|ai (gV rfl rfl rfl H5 fun b12 _ H6=>aa (ae rfl) rfl<|ad<|an<|av (ay rfl (aD rfl)) ⟨(some (b12,0)),rfl,H6⟩)))
def sh_caps_Tree_is (a0:Ptr) (a1:Int) (a2:Int) (K:Bool→Hp→Prop):Hp→Prop:=br (decide (a1 ≥ 0)) ( nn a0 fun q12=>ld (q12.1,q12.2 + 0) cS fun x14=>K (((decide (a1 < (x14.len:Int))) && (decide (a2 ≥ 0))) && (decide (a2 < 8)))) ( K false)
set_option maxRecDepth 20000 in
theorem sim_caps_Tree_is (a0:Ptr) (a1:Int) (a2:Int) {K:Bool→Hp→Prop} {h:Hp} (H:sh_caps_Tree_is a0 a1 a2 K h):Ct Tryz.prog hY #[(pv a0),(.int .i64 a1),(.int .i64 a2)] h fun v h'=>∃ r,v = aH r∧K r h':=aB [(pv a0),(.int .i64 a1),(.int .i64 a2)] Tryz.func162 rfl rfl rfl fun _=>ag<|ab<|aa (ae rfl) rfl<|ad<|ag<|ab<|aa (ac rfl) rfl<|aa (jz rfl rfl) rfl<|aa (ac rfl) rfl<|aj rfl rfl rfl (aA _) (fun g1=>wv (ac rfl)) rfl<|aj rfl rfl rfl (aA _) (fun g2=>wv (ac rfl)) rfl<|bX H (fun k4 H5=>bM H5 fun q12 e6 H7=>aK rfl rfl rfl (congrArg Value.bool k4) (aO (wv (aS (aU (aI rfl k4) (aw e6)))) rfl<|aK rfl rfl rfl (congrArg Value.bool k4) (aO (wv (am gS rfl)) rfl<|aK rfl rfl rfl (congrArg Value.bool k4) (bf H7 pt rfl (fun _=>rfl) rfl fun x14 H8=>aK rfl rfl rfl (congrArg Value.bool k4) (aO (wv (dB rfl Tryz.underlying184 rfl)) rfl<|aK rfl rfl rfl (congrArg Value.bool k4) (aO (wv (cG (aI rfl k4) rfl)) rfl<|aa (bd rfl k4 rfl) rfl<|aa (ac rfl) rfl<|aj rfl rfl rfl (aA _) (fun g9=>wv (ac rfl)) rfl<|aj rfl rfl rfl (aA _) (fun g10=>wv (jz (aI rfl g10) rfl)) rfl<|aa (bY rfl rfl) rfl<|aa (ac rfl) rfl<|aj rfl rfl rfl (aA _) (fun g11=>wv (ac rfl)) rfl<|aj rfl rfl rfl (aA _) (fun g12=>wv (cG (aI rfl g12) rfl)) rfl<|aa (bY rfl rfl) rfl<|aa (ae rfl) rfl<|ad<|an<|av (ay rfl (aD rfl)) ⟨(((decide (a1 < (x14.len:Int))) && (decide (a2 ≥ 0))) && (decide (a2 < 8))),rfl,H8⟩)))))) (fun k4 H5=>al rfl rfl rfl (bb k4) rfl<|al rfl rfl rfl (bb k4) rfl<|al rfl rfl rfl (bb k4) rfl<|al rfl rfl rfl (bb k4) rfl<|al rfl rfl rfl (bb k4) rfl<|aa (ax rfl k4 rfl) rfl<|aa (ac rfl) rfl<|al rfl rfl rfl rfl rfl<|al rfl rfl rfl rfl rfl<|aa (ax rfl rfl rfl) rfl<|aa (ac rfl) rfl<|al rfl rfl rfl rfl rfl<|al rfl rfl rfl rfl rfl<|aa (ax rfl rfl rfl) rfl<|aa (ae rfl) rfl<|ad<|an<|av (ay rfl (aD rfl)) ⟨false,rfl,H5⟩)
def iy (a0:Ptr) (a1:Int) (a2:Int) (K:(aF × Bool)→Hp→Prop) (s1:Bool):Hp→Prop:=br s1 ( K ((⟨0,0,0,0⟩:aF),false)) ( nn a0 fun q32=>ld (q32.1,q32.2 + 0) cS fun x34=>ix x34 a1 fun q37=>gd (0 ≤ a2∧a2 < 8)<|ld (q37.1,q37.2 + Int.toNat a1 * 32 + Int.toNat a2 * 4) aF.C fun x39=>K (x39,true))
def sh_caps_Tree_At (a0:Ptr) (a1:Int) (a2:Int) (K:(aF × Bool)→Hp→Prop):Hp→Prop:=br (!a0.isNone) ( cl Tryz.prog hY [(pv a0),(.int .i64 a1),(.int .i64 a2)] aH fun r14=>br (!(!r14)) ( nn a0 fun q19=>ld (q19.1,q19.2 + 0) cS fun x21=>ix x21 a1 fun q24=>gd (0 ≤ a2∧a2 < 8)<|ld (q24.1,q24.2 + Int.toNat a1 * 32 + Int.toNat a2 * 4 + 1) (cI .i64) fun x27=>iy a0 a1 a2 K (x27 == 0)) ( iy a0 a1 a2 K true)) ( iy a0 a1 a2 K true)
set_option maxRecDepth 20000 in
theorem sim_caps_Tree_At (a0:Ptr) (a1:Int) (a2:Int) {K:(aF × Bool)→Hp→Prop} {h:Hp} (H:sh_caps_Tree_At a0 a1 a2 K h):Ct Tryz.prog dZ #[(pv a0),(.int .i64 a1),(.int .i64 a2)] h fun v h'=>∃ r,v = cR r∧K r h':=aB [(pv a0),(.int .i64 a1),(.int .i64 a2)] Tryz.func118 rfl rfl rfl fun _=>ag<|ab<|ai (aX (l:=(aF.C (⟨0,0,0,0⟩:aF))) ig rfl rfl fun b6=>aa (ae rfl) rfl<|ad<|ag<|eB (iy a0 a1 a2 K) (fun s1=>[(0,(pv a0)),(1,(.int .i64 a1)),(2,(.int .i64 a2)),(6,(.pointer (some ⟨b6,0,none⟩))),(29,(.bool s1))]) (fun s1=>[bx b6 70 (aF.C (⟨0,0,0,0⟩:aF))]) ( ab<|aa (ac rfl) rfl<|aa (cw Tryz.underlying128 rfl) rfl<|aa (ac rfl) rfl<|aj rfl rfl rfl (aV _) (fun g14=>wv (ac rfl)) rfl<|aj rfl rfl rfl (aV _) (fun g15=>wv (ac rfl)) rfl<|aj rfl rfl rfl (aV _) (fun g16=>wv (ac rfl)) rfl<|bX H (fun k18 H19=>aK rfl rfl rfl (congrArg Value.bool (cn k18)) (az H19 en_162 (aZ (aI rfl k18) (aZ (aI rfl k18) (aZ (aI rfl k18) bW))) rfl fun r14 _ H20=>aK rfl rfl rfl (congrArg Value.bool (cn k18)) (aO (wv (cx rfl)) rfl<|aa (ax rfl (cn k18) rfl) rfl<|aa (ac rfl) rfl<|aj rfl rfl rfl (aV _) (fun g21=>wv (ac rfl)) rfl<|bX H20 (fun k23 H24=>bM H24 fun q19 e25 H26=>aK rfl rfl rfl (congrArg Value.bool (cn k23)) (aO (wv (aS (aU (aI rfl k23) (aw e25)))) rfl<|aK rfl rfl rfl (congrArg Value.bool (cn k23)) (aO (wv (am gS rfl)) rfl<|aK rfl rfl rfl (congrArg Value.bool (cn k23)) (bf H26 pt rfl (fun _=>rfl) rfl fun x21 H27=>aK rfl rfl rfl (congrArg Value.bool (cn k23)) (aO (wv (ac rfl)) rfl<|aK rfl rfl rfl (congrArg Value.bool (cn k23)) (aO (wv (ac rfl)) rfl<|ct H27 fun q24 e28 h29 H30=>aK rfl rfl rfl (congrArg Value.bool (cn k23)) (aO (wv (bG nM (aU rfl (bm e28)) rfl h29)) rfl<|ir H30 fun h31 H32=>aK rfl rfl rfl (congrArg Value.bool (cn k23)) (aO (wv (bI pR rfl rfl h31)) rfl<|aK rfl rfl rfl (congrArg Value.bool (cn k23)) (aO (wv (am gB rfl)) rfl<|aK rfl rfl rfl (congrArg Value.bool (cn k23)) (bf H32 bj rfl (fun _=>rfl) rfl fun x27 H33=>aK rfl rfl rfl (congrArg Value.bool (cn k23)) (aO (wv (bU rfl rfl)) rfl<|aa (ax rfl (cn k23) rfl) rfl<|ad<|cO (x27 == 0) H33 (.cons rfl (.cons rfl (.cons rfl (.cons rfl (.cons rfl (.nil _)))))) (.cons_cons _ .slnil)))))))))))) (fun k23 H24=>al rfl rfl rfl (ci (bP k23)) rfl<|al rfl rfl rfl (ci (bP k23)) rfl<|al rfl rfl rfl (ci (bP k23)) rfl<|al rfl rfl rfl (ci (bP k23)) rfl<|al rfl rfl rfl (ci (bP k23)) rfl<|al rfl rfl rfl (ci (bP k23)) rfl<|al rfl rfl rfl (ci (bP k23)) rfl<|al rfl rfl rfl (ci (bP k23)) rfl<|al rfl rfl rfl (ci (bP k23)) rfl<|al rfl rfl rfl (ci (bP k23)) rfl<|aa (bd rfl (bP k23) rfl) rfl<|ad<|cO true H24 (.cons rfl (.cons rfl (.cons rfl (.cons rfl (.cons rfl (.nil _)))))) (.cons_cons _ .slnil))))) (fun k18 H19=>al rfl rfl rfl (ci (bP k18)) rfl<|al rfl rfl rfl (ci (bP k18)) rfl<|aa (bd rfl (bP k18) rfl) rfl<|aa (ac rfl) rfl<|al rfl rfl rfl rfl rfl<|al rfl rfl rfl rfl rfl<|al rfl rfl rfl rfl rfl<|al rfl rfl rfl rfl rfl<|al rfl rfl rfl rfl rfl<|al rfl rfl rfl rfl rfl<|al rfl rfl rfl rfl rfl<|al rfl rfl rfl rfl rfl<|al rfl rfl rfl rfl rfl<|al rfl rfl rfl rfl rfl<|al rfl rfl rfl rfl rfl<|aa (bd rfl rfl rfl) rfl<|ad<|cO true H19 (.cons rfl (.cons rfl (.cons rfl (.cons rfl (.cons rfl (.nil _)))))) (.cons_cons _ .slnil))) (fun s1 _ H2=>aC rfl H2 (fun k3 H4=>ag<|ab<|aa (bk (vs:=[]) rfl build_70) rfl<|ai (aY (k:=0) (vs:=(aF.C (⟨0,0,0,0⟩:aF))) gr rfl rfl rfl rfl rfl rfl rfl<|aa (ae rfl) rfl<|ad<|an<|av (cc rfl (bK (k:=0) rfl ag_70 rfl rfl) (aD rfl)) ⟨((⟨0,0,0,0⟩:aF),false),rfl,H4⟩)) (fun k3 H4=>au<|ag<|ab<|aa (ac rfl) rfl<|bM H4 fun q32 e5 H6=>aa (aS (aU rfl (aw e5))) rfl<|aa (am gS rfl) rfl<|ai (bf H6 pt rfl (fun _=>rfl) rfl fun x34 H7=>aa (ac rfl) rfl<|aa (ac rfl) rfl<|ct H7 fun q37 e8 h9 H10=>aa (bG nM (aU rfl (bm e8)) rfl h9) rfl<|ir H10 fun h11 H12=>aa (bI pR rfl rfl h11) rfl<|ai (gU H12 ag_70 rfl (fun _=>rfl) rfl fun x39 H13=>ai (aY (k:=0) (vs:=(aF.C x39)) gr rfl rfl rfl rfl rfl rfl rfl<|aa (ae rfl) rfl<|ad<|an<|av (cc rfl (bK (k:=0) rfl ag_70 rfl rfl) (aD rfl)) ⟨(x39,true),rfl,H13⟩))))))
def tC (a0:Ptr) (a1:Int) (a2:Int) (a3:Int) (K:Int→Hp→Prop):Hp→Prop:=br a0.isNone ( K 10) ( cl Tryz.prog hY [(pv a0),(.int .i64 a1),(.int .i64 a2)] aH fun r16=>br (((!r16) || (decide (a3 < 0))) || (decide (a3 ≥ 16))) ( K 2) ( nn a0 fun q28=>ld (q28.1,q28.2 + 0) cS fun x30=>ix x30 a1 fun q33=>gd (0 ≤ a2∧a2 < 8)<|ld (q33.1,q33.2 + Int.toNat a1 * 32 + Int.toNat a2 * 4 + 1) (cI .i64) fun x36=>br (x36 != 0) ( K 4) ( ld (q28.1,q28.2 + 0) cS fun x41=>ix x41 a1 fun q46=>st (q46.1,q46.2 + Int.toNat a1 * 32 + Int.toNat a2 * 4) (aF.C (⟨a3,3,(-1),0⟩:aF))<|K 0)))
set_option maxRecDepth 20000 in
theorem sim_caps_Tree_Root (a0:Ptr) (a1:Int) (a2:Int) (a3:Int) {K:Int→Hp→Prop} {h:Hp} (H:tC a0 a1 a2 a3 K h):Ct Tryz.prog jq #[(pv a0),(.int .i64 a1),(.int .i64 a2),(.int .i64 a3)] h fun v h'=>∃ r,v = bu r∧K r h':=aB [(pv a0),(.int .i64 a1),(.int .i64 a2),(.int .i64 a3)] Tryz.func126 rfl rfl rfl fun _=>ag<|ab<|aa (ae rfl) rfl<|ad<|ag<|aE<|ag<|ab<|aa (ac rfl) rfl<|aa (cw Tryz.underlying128 rfl) rfl<|aa (ae rfl) rfl<|ad<|aC rfl H (fun k1 H2=>ag<|ab<|aa (ae rfl) rfl<|ad<|an<|av (ay rfl (aD rfl)) ⟨10,rfl,H2⟩) (fun k1 H2=>ag<|ab<|aa (ac rfl) rfl<|aa (ac rfl) rfl<|aa (ac rfl) rfl<|ai (az H2 en_162 rfl rfl fun r16 _ H3=>aa (cx rfl) rfl<|aa (ac rfl) rfl<|aj rfl rfl rfl (aV _) (fun g4=>wv (ac rfl)) rfl<|aj rfl rfl rfl (aV _) (fun g5=>wv (cG (aI rfl g5) rfl)) rfl<|aa (dA rfl rfl) rfl<|aa (ac rfl) rfl<|aj rfl rfl rfl (aV _) (fun g6=>wv (ac rfl)) rfl<|aj rfl rfl rfl (aV _) (fun g7=>wv (jz (aI rfl g7) rfl)) rfl<|aa (dA rfl rfl) rfl<|aa (ae rfl) rfl<|ad<|aC rfl H3 (fun k8 H9=>ag<|ab<|aa (ae rfl) rfl<|ad<|an<|av (ay rfl (aD rfl)) ⟨2,rfl,H9⟩) (fun k8 H9=>ag<|ab<|aa (ac rfl) rfl<|bM H9 fun q28 e10 H11=>aa (aS (aU rfl (aw e10))) rfl<|aa (am gS rfl) rfl<|ai (bf H11 pt rfl (fun _=>rfl) rfl fun x30 H12=>aa (ac rfl) rfl<|aa (ac rfl) rfl<|ct H12 fun q33 e13 h14 H15=>aa (bG nM (aU rfl (bm e13)) rfl h14) rfl<|ir H15 fun h16 H17=>aa (bI pR rfl rfl h16) rfl<|aa (am gB rfl) rfl<|ai (bf H17 bj rfl (fun _=>rfl) rfl fun x36 H18=>aa (pV rfl rfl) rfl<|aa (ae rfl) rfl<|ad<|aC rfl H18 (fun k19 H20=>ag<|ab<|aa (ae rfl) rfl<|ad<|an<|av (ay rfl (aD rfl)) ⟨4,rfl,H20⟩) (fun k19 H20=>au<|ag<|ab<|aa (ac (aU rfl (aw e10))) rfl<|aa (aS rfl) rfl<|aa (am gS rfl) rfl<|ai (bf H20 pt rfl (fun _=>rfl) rfl fun x41 H21=>aa (ac rfl) rfl<|aa (ac rfl) rfl<|aa (ac rfl) rfl<|aa (bk rfl (build_70_0_1_2 a3 3 (-1))) rfl<|ct H21 fun q46 e22 h23 H24=>aa (bG nM (aU rfl (bm e22)) rfl h23) rfl<|aa (bI pR rfl rfl h16) rfl<|ai (dC gr rfl rfl rfl rfl rfl H24 fun _ H25=>ad<|ag<|ab<|aa (ae rfl) rfl<|ad<|an<|av (ay rfl (aD rfl)) ⟨0,rfl,H25⟩))))))))
def re (a0:Ptr) (a1:Int) (a2:Int) (a3:Int) (a4:Int) (a5:Int) (K:Int→Hp→Prop):Hp→Prop:=br a0.isNone ( K 10) ( cl Tryz.prog hY [(pv a0),(.int .i64 a1),(.int .i64 a2)] aH fun r19=>br (!(!r19)) ( cl Tryz.prog hY [(pv a0),(.int .i64 a3),(.int .i64 a4)] aH fun r25=>br ((!r25) || (!(cH a5))) ( K 2) ( nn a0 fun q34=>ld (q34.1,q34.2 + 0) cS fun x36=>ix x36 a1 fun q39=>gd (0 ≤ a2∧a2 < 8)<|ld (q39.1,q39.2 + Int.toNat a1 * 32 + Int.toNat a2 * 4) aF.C fun x41=>br (x41.fRights == 0) ( K 3) ( ld (q34.1,q34.2 + 0) cS fun x50=>ix x50 a3 fun q53=>gd (0 ≤ a4∧a4 < 8)<|ld (q53.1,q53.2 + Int.toNat a3 * 32 + Int.toNat a4 * 4 + 1) (cI .i64) fun x56=>br (x56 != 0) ( K 4) ( br (!(bq a5 x41.fRights)) ( K 5) ( ld (q34.1,q34.2 + 0) cS fun x67=>ix x67 a3 fun q76=>st (q76.1,q76.2 + Int.toNat a3 * 32 + Int.toNat a4 * 4) (aF.C (⟨x41.fFrame,a5,a1,a2⟩:aF))<|K 0))))) ( K 2))
set_option maxRecDepth 20000 in
theorem sim_caps_Tree_Derive (a0:Ptr) (a1:Int) (a2:Int) (a3:Int) (a4:Int) (a5:Int) {K:Int→Hp→Prop} {h:Hp} (H:re a0 a1 a2 a3 a4 a5 K h):Ct Tryz.prog hZ #[(pv a0),(.int .i64 a1),(.int .i64 a2),(.int .i64 a3),(.int .i64 a4),(.int .i64 a5)] h fun v h'=>∃ r,v = bu r∧K r h':=aB [(pv a0),(.int .i64 a1),(.int .i64 a2),(.int .i64 a3),(.int .i64 a4),(.int .i64 a5)] Tryz.func127 rfl rfl rfl fun _=>ag<|ab<|aa (ae rfl) rfl<|ad<|ag<|ag<|ab<|aa (ac rfl) rfl<|aa (cw Tryz.underlying128 rfl) rfl<|ad<|aC rfl H (fun k1 H2=>ag<|ab<|aa (ae rfl) rfl<|ad<|an<|av (ay rfl (aD rfl)) ⟨10,rfl,H2⟩) (fun k1 H2=>au<|ag<|ag<|ab<|aa (ac rfl) rfl<|aa (ac rfl) rfl<|aa (ac rfl) rfl<|ai (az H2 en_162 rfl rfl fun r19 _ H3=>aa (cx rfl) rfl<|aa (ac rfl) rfl<|aj rfl rfl rfl (aV _) (fun g4=>wv (ac rfl)) rfl<|aj rfl rfl rfl (aV _) (fun g5=>wv (ac rfl)) rfl<|aj rfl rfl rfl (aV _) (fun g6=>wv (ac rfl)) rfl<|bX H3 (fun k8 H9=>aK rfl rfl rfl (congrArg Value.bool (cn k8)) (az H9 en_162 (aZ (aI rfl k8) (aZ (aI rfl k8) (aZ (aI rfl k8) bW))) rfl fun r25 _ H10=>aK rfl rfl rfl (congrArg Value.bool (cn k8)) (aO (wv (cx rfl)) rfl<|aa (ax rfl (cn k8) rfl) rfl<|aa (ac rfl) rfl<|aj rfl rfl rfl (aV _) (fun g11=>wv (ac rfl)) rfl<|dc (vs:=[(.int .i64 a5)]) rfl rfl rfl (aV _) (fun g12=>(bH (pG a5 _))) en_150 (fun g12=>(aZ (aI rfl g12) bW)) rfl<|aj rfl rfl rfl (aV _) (fun g13=>wv (cx (aI rfl g13))) rfl<|aa (dA rfl rfl) rfl<|ad<|aC rfl H10 (fun k14 H15=>ag<|ab<|aa (ae rfl) rfl<|ad<|an<|av (ay rfl (aD rfl)) ⟨2,rfl,H15⟩) (fun k14 H15=>au<|ag<|ab<|aa (ac rfl) rfl<|bM H15 fun q34 e16 H17=>aa (aS (aU rfl (aw e16))) rfl<|aa (am gS rfl) rfl<|ai (bf H17 pt rfl (fun _=>rfl) rfl fun x36 H18=>aa (ac rfl) rfl<|aa (ac rfl) rfl<|ct H18 fun q39 e19 h20 H21=>aa (bG nM (aU rfl (bm e19)) rfl h20) rfl<|ir H21 fun h22 H23=>aa (bI pR rfl rfl h22) rfl<|ai (gU H23 ag_70 rfl (fun _=>rfl) rfl fun x41 H24=>ai (aX (l:=(aF.C (⟨0,0,0,0⟩:aF))) ig rfl rfl fun b13=>ai (aY (k:=0) (vs:=(aF.C x41)) gr rfl rfl rfl rfl rfl rfl rfl<|ad<|ag<|aE<|ag<|ab<|aa (am gB rfl) rfl<|bw (bt (k:=0) bj rfl rfl rfl) rfl<|aa (bU rfl rfl) rfl<|aa (ae rfl) rfl<|ad<|aC rfl H24 (fun k25 H26=>ag<|ab<|aa (ae rfl) rfl<|ad<|an<|av (ay rfl (aD rfl)) ⟨3,rfl,H26⟩) (fun k25 H26=>ag<|ab<|aa (ac (aU rfl (aw e16))) rfl<|aa (aS rfl) rfl<|aa (am gS rfl) rfl<|ai (bf H26 pt rfl (fun _=>rfl) rfl fun x50 H27=>aa (ac rfl) rfl<|aa (ac rfl) rfl<|ct H27 fun q53 e28 h29 H30=>aa (bG nM (aU rfl (bm e28)) rfl h29) rfl<|ir H30 fun h31 H32=>aa (bI pR rfl rfl h31) rfl<|aa (am gB rfl) rfl<|ai (bf H32 bj rfl (fun _=>rfl) rfl fun x56 H33=>aa (pV rfl rfl) rfl<|aa (ae rfl) rfl<|ad<|aC rfl H33 (fun k34 H35=>ag<|ab<|aa (ae rfl) rfl<|ad<|an<|av (ay rfl (aD rfl)) ⟨4,rfl,H35⟩) (fun k34 H35=>ag<|ab<|aa (ac rfl) rfl<|aa (am gB rfl) rfl<|bw (bt (k:=0) bj rfl rfl rfl) rfl<|ai (cN (vs:=[(.int .i64 a5),(.int .i64 x41.fRights)]) (bH (de a5 x41.fRights _)) me rfl rfl<|aa (cx rfl) rfl<|aa (ae rfl) rfl<|ad<|aC rfl H35 (fun k36 H37=>ag<|ab<|aa (ae rfl) rfl<|ad<|an<|av (ay rfl (aD rfl)) ⟨5,rfl,H37⟩) (fun k36 H37=>au<|ag<|bB (n:=15) [bx b13 70 (aF.C x41)] cu rfl (.cons_cons _ .slnil)<|ah (i:=0) (fun _ _ _ _=>id) rfl (by kernel_rfl) rfl (ve (ac (aU rfl (aw e16))))<|ah (i:=1) (fun _ _ _ _=>id) rfl (by kernel_rfl) rfl (ve (aS rfl))<|ah (i:=2) (fun _ _ _ _=>id) rfl (by kernel_rfl) rfl (ve (am gS rfl))<|ah (i:=4) (fun _ _ _ _=>id) rfl (by kernel_rfl) rfl (ve (ac rfl))<|ah (i:=5) (fun _ _ _ _=>id) rfl (by kernel_rfl) rfl (ve (ac rfl))<|ah (i:=6) (fun _ _ _ _=>id) rfl (by kernel_rfl) rfl (ve (am sH rfl))<|ah (i:=7) (fun _ _ _ _=>id) rfl (by kernel_rfl) rfl (dl (k:=0) bj rfl rfl rfl)<|ah (i:=8) (fun _ _ _ _=>id) rfl (by kernel_rfl) rfl (ve (ac rfl))<|ah (i:=9) (fun _ _ _ _=>id) rfl (by kernel_rfl) rfl (ve (ac rfl))<|ah (i:=10) (fun _ _ _ _=>id) rfl (by kernel_rfl) rfl (ve (ac rfl))<|ah (i:=11) (fun _ _ _ _=>id) rfl (by kernel_rfl) rfl (ve (bk rfl (build_70_0_1_2_3 x41.fFrame a5 a1 a2)))<|bN (i:=3) (fun _ _ _ _=>id) H37 rfl (by kernel_rfl) pt rfl (fun _=>rfl) rfl fun x67 H38=>fZ H38 fun q76 e39 h40 H41=>ah (i:=12) (fun _ _ _ _=>id) rfl (by kernel_rfl) rfl (ve (bG nM (aU rfl (bm e39)) rfl h40))<|ah (i:=13) (fun _ _ _ _=>id) rfl (by kernel_rfl) rfl (ve (bI pR rfl rfl h31))<|bg (i:=14) (by kernel_rfl) (aG rfl rfl (dC gr rfl rfl rfl rfl rfl H41 fun _ H42=>⟨(.cons_cons _ .slnil),be (by kernel_rfl)<|ag<|ab<|aa (ae rfl) rfl<|ad<|an<|av (ay rfl (aD rfl)) ⟨0,rfl,H42⟩⟩)))))))))))))))) (fun k8 H9=>al rfl rfl rfl (ci (bP k8)) rfl<|al rfl rfl rfl (ci (bP k8)) rfl<|aa (bd rfl (bP k8) rfl) rfl<|aa (ac rfl) rfl<|al rfl rfl rfl rfl rfl<|al rfl rfl rfl rfl rfl<|al rfl rfl rfl rfl rfl<|aa (bd rfl rfl rfl) rfl<|ad<|mc rfl rfl<|ag<|ab<|aa (ae rfl) rfl<|ad<|an<|av (ay rfl (aD rfl)) ⟨2,rfl,H9⟩)))
def gT (s6:Sl × Int) (Rec18:(Sl × Int)→Hp→Prop) (s17:Sl × Int) (s23:Bool):Hp→Prop:=br s23 ( hpv Tryz.prog (Instr.buildSlice gN 1 #[(0,(.agg (aP.C (⟨s6.2,s17.2⟩:aP)).toArray))]) cY fun (v45:Sl)=>hpv Tryz.prog (Builtin.append_ #[gN,gN] gN #[(sv s17.1),(sv v45)]) cY fun (v46:Sl)=>Rec18 (v46,(IntKind.i64.wrap (s17.2 + 1)))) ( Rec18 (s17.1,(IntKind.i64.wrap (s17.2 + 1))))
def pH (a1:Value) (Rec7:(Sl × Int)→Hp→Prop) (s6:Sl × Int) (v26:(List Value)) (Rec18:(Sl × Int)→Hp→Prop) (s17:Sl × Int):Hp→Prop:=br (decide (s17.2 < 8)) ( hpv Tryz.prog (Instr.index kK (.agg v26.toArray) (.int .i64 s17.2)) R_api_Cap fun (v30:aF)=>br (v30.fRights != 0) ( clv Tryz.prog a1 [(.agg (aP.C (⟨s6.2,s17.2⟩:aP)).toArray),(.agg (aF.C v30).toArray)] aH fun r41=>gT s6 Rec18 s17 r41) ( gT s6 Rec18 s17 false)) ( Rec7 (s17.1,(IntKind.i64.wrap (s6.2 + 1))))
def pI (a1:Value) (K:Sl→Hp→Prop) (q13:Nat × Nat) (x15:Sl) (Rec7:(Sl × Int)→Hp→Prop) (s6:Sl × Int):Hp→Prop:=br (decide (s6.2 < (x15.len:Int))) ( ld (q13.1,q13.2 + 0) cS fun x23=>ix x23 s6.2 fun q25=>hpv Tryz.prog (Instr.loadAt kK (.pointer (some ⟨q25.1,q25.2 + Int.toNat s6.2 * 32,none⟩))) encL fun (v26:(List Value))=>Lp (pH a1 Rec7 s6 v26) (s6.1,0)) ( K s6.1)
def uG (a0:Ptr) (a1:Value) (K:Sl→Hp→Prop):Hp→Prop:=br a0.isNone ( K (⟨none,0,0⟩:Sl)) ( nn a0 fun q13=>ld (q13.1,q13.2 + 0) cS fun x15=>Lp (pI a1 K q13 x15) ((⟨none,0,0⟩:Sl),0))
set_option maxRecDepth 20000 in
theorem sim_caps_Tree_all (a0:Ptr) (a1:Value) {K:Sl→Hp→Prop} {h:Hp} (H:uG a0 a1 K h):Ct Tryz.prog jW #[(pv a0),a1] h fun v h'=>∃ r,v = cY r∧K r h':=aB [(pv a0),a1] Tryz.func170 rfl rfl rfl fun _=>ag<|ab<|aa (ae rfl) rfl<|ad<|ag<|ag<|ab<|aa (ac rfl) rfl<|aa (cw Tryz.underlying128 rfl) rfl<|ad<|aC rfl H (fun k1 H2=>ag<|ab<|aa (ae rfl) rfl<|ad<|an<|av (ay rfl (aD rfl)) ⟨(⟨none,0,0⟩:Sl),rfl,H2⟩) (fun k1 H2=>au<|ag<|ab<|aa (ae rfl) rfl<|ad<|ag<|ag<|ab<|aa (ac rfl) rfl<|bM H2 fun q13 e3 H4=>aa (aS (aU rfl (aw e3))) rfl<|aa (am gS rfl) rfl<|ai (bf H4 pt rfl (fun _=>rfl) rfl fun x15 H5=>aa (dB rfl Tryz.underlying184 rfl) rfl<|aa (ac rfl) rfl<|ad<|aE<|bO (step:=pI a1 K q13 x15) (fun s6=>[(0,(pv a0)),(1,a1),(5,(sv s6.1)),(16,(.int .i64 (x15.len:Int))),(17,(.int .i64 s6.2))]) (fun s6=>[]) H5 (.cons rfl (.cons rfl (.cons rfl (.cons rfl (.cons rfl (.nil _)))))) .slnil (fun Rec7 s6 _ H8=>ag<|ab<|aa (cG rfl rfl) rfl<|ad<|ag<|aC rfl H8 (fun k9 H10=>au<|ag<|aE<|ag<|ab<|aa (ac rfl) rfl<|aa (ae rfl) rfl<|ad<|ag<|ab<|aa (ac (aU rfl (aw e3))) rfl<|aa (aS rfl) rfl<|aa (am gS rfl) rfl<|ai (bf H10 pt rfl (fun _=>rfl) rfl fun x23 H11=>aa (ac rfl) rfl<|ct H11 fun q25 e12 h13 H14=>aa (bG nM (aU rfl (bm e12)) rfl h13) rfl<|ai (bc H14 (x_load rfl) rfl fun v26 _ H16=>aa (ac rfl) rfl<|ad<|aE<|bO (step:=pH a1 Rec7 s6 v26) (fun s17=>[(0,(pv a0)),(1,a1),(5,(sv s17.1)),(6,(.int .i64 s6.2)),(16,(.int .i64 (x15.len:Int))),(17,(.int .i64 s6.2)),(26,(.agg v26.toArray)),(27,(.int .i64 s17.2))]) (fun s17=>[]) H16 (.cons rfl (.cons rfl (.cons rfl (.cons rfl (.cons rfl (.cons rfl (.cons rfl (.cons rfl (.nil _))))))))) .slnil (fun Rec18 s17 _ H19=>ag<|ab<|aa (cG rfl rfl) rfl<|ad<|ag<|aC rfl H19 (fun k20 H21=>au<|ag<|aE<|ag<|ab<|aa (ac rfl) rfl<|ai (bc H21 (x_index rfl rfl) rfl fun v30 _ H22=>ai (aX (l:=(aF.C (⟨0,0,0,0⟩:aF))) ig rfl rfl fun b8=>aa (ae rfl) rfl<|ai (aY (k:=0) (vs:=(aF.C v30)) gr rfl rfl rfl rfl rfl rfl rfl<|ad<|ag<|ab<|aa (ac rfl) rfl<|aa (ac rfl) rfl<|aa (bk rfl (uk s6.2 s17.2)) rfl<|ai (aX (l:=(aP.C (⟨0,0⟩:aP))) zero_208 rfl rfl fun b9=>ai (aY (k:=0) (vs:=(aP.C (⟨s6.2,s17.2⟩:aP))) inf_208 rfl rfl rfl rfl rfl rfl rfl<|ad<|eB (gT s6 Rec18 s17) (fun s23=>[(0,(pv a0)),(1,a1),(5,(sv s17.1)),(6,(.int .i64 s6.2)),(9,(.pointer (some ⟨b9,0,none⟩))),(16,(.int .i64 (x15.len:Int))),(17,(.int .i64 s6.2)),(26,(.agg v26.toArray)),(27,(.int .i64 s17.2)),(42,(.bool s23))]) (fun s23=>[bx b9 208 (aP.C (⟨s6.2,s17.2⟩:aP))]) ( ab<|aa (am gB rfl) rfl<|bw (bt (k:=1) bj rfl rfl rfl) rfl<|aa (pV rfl rfl) rfl<|aa (ac rfl) rfl<|aj rfl rfl rfl (aA _) (fun g29=>wv (ac rfl)) rfl<|aj rfl rfl rfl (aA _) (fun g30=>cv (bL (k:=0) ag_208 rfl rfl rfl rfl)) rfl<|aj rfl rfl rfl (aA _) (fun g31=>cv (bL (k:=1) ag_70 rfl rfl rfl rfl)) rfl<|bX H22 (fun k33 H34=>aK rfl rfl rfl (congrArg Value.bool k33) (to_clv H34 (aI rfl k33) (aZ (aI rfl k33) (aZ (aI rfl k33) bW)) rfl fun r41 _ H35=>aa (bd rfl k33 rfl) rfl<|ad<|cO r41 H35 (.cons rfl (.cons rfl (.cons rfl (.cons rfl (.cons rfl (.cons rfl (.cons rfl (.cons rfl (.cons rfl (.cons rfl (.nil _))))))))))) (.cons_cons _ (.cons _ .slnil)))) (fun k33 H34=>al rfl rfl rfl (bb k33) rfl<|aa (ax rfl k33 rfl) rfl<|ad<|cO false H34 (.cons rfl (.cons rfl (.cons rfl (.cons rfl (.cons rfl (.cons rfl (.cons rfl (.cons rfl (.cons rfl (.cons rfl (.nil _))))))))))) (.cons_cons _ (.cons _ .slnil)))) (fun s23 _ H24=>aC rfl H24 (fun k25 H26=>ab<|aa (ac rfl) rfl<|bw (bL (k:=0) ag_208 rfl rfl rfl rfl) rfl<|ai (bc H26 (bD (vs:=[(.agg (aP.C (⟨s6.2,s17.2⟩:aP)).toArray)]) rfl) rfl fun v45 _ H27=>ai (bc H27 (dw rfl rfl) rfl fun v46 _ H28=>aa (ae rfl) rfl<|ad<|ab<|aa (bE rfl rfl) rfl<|aa (ac rfl) rfl<|ad<|cT (v46,(IntKind.i64.wrap (s17.2 + 1))) H28 (.cons rfl (.cons rfl (.cons rfl (.cons rfl (.cons rfl (.cons rfl (.cons rfl (.cons rfl (.nil _))))))))) (.cons _ .slnil)))) (fun k25 H26=>au<|ab<|aa (bE rfl rfl) rfl<|aa (ac rfl) rfl<|ad<|cT (s17.1,(IntKind.i64.wrap (s17.2 + 1))) H26 (.cons rfl (.cons rfl (.cons rfl (.cons rfl (.cons rfl (.cons rfl (.cons rfl (.cons rfl (.nil _))))))))) (.cons _ .slnil))))))))) (fun k20 H21=>bz<|ab<|aa (bE rfl rfl) rfl<|aa (ac rfl) rfl<|ad<|cT (s17.1,(IntKind.i64.wrap (s6.2 + 1))) H21 (.cons rfl (.cons rfl (.cons rfl (.cons rfl (.cons rfl (.nil _)))))) .slnil))))) (fun k9 H10=>bz<|ag<|ab<|aa (ac rfl) rfl<|aa (ae rfl) rfl<|ad<|an<|av (ay rfl (aD rfl)) ⟨s6.1,rfl,H10⟩))))
def tB (a0:Ptr) (a1:Int) (a2:Int) (K:Int→Hp→Prop):Hp→Prop:=br a0.isNone ( K 10) ( cl Tryz.prog hY [(pv a0),(.int .i64 a1),(.int .i64 a2)] aH fun r14=>br (!r14) ( K 2) ( nn a0 fun q18=>ld (q18.1,q18.2 + 0) cS fun x20=>ix x20 a1 fun q23=>gd (0 ≤ a2∧a2 < 8)<|ld (q23.1,q23.2 + Int.toNat a1 * 32 + Int.toNat a2 * 4 + 1) (cI .i64) fun x26=>br (x26 == 0) ( K 3) ( K 0)))
set_option maxRecDepth 20000 in
theorem sim_caps_Tree_look (a0:Ptr) (a1:Int) (a2:Int) {K:Int→Hp→Prop} {h:Hp} (H:tB a0 a1 a2 K h):Ct Tryz.prog lH #[(pv a0),(.int .i64 a1),(.int .i64 a2)] h fun v h'=>∃ r,v = bu r∧K r h':=aB [(pv a0),(.int .i64 a1),(.int .i64 a2)] Tryz.func184 rfl rfl rfl fun _=>ag<|ab<|aa (ae rfl) rfl<|ad<|ag<|aE<|ag<|ab<|aa (ac rfl) rfl<|aa (cw Tryz.underlying128 rfl) rfl<|aa (ae rfl) rfl<|ad<|aC rfl H (fun k1 H2=>ag<|ab<|aa (ae rfl) rfl<|ad<|an<|av (ay rfl (aD rfl)) ⟨10,rfl,H2⟩) (fun k1 H2=>ag<|ab<|aa (ac rfl) rfl<|aa (ac rfl) rfl<|aa (ac rfl) rfl<|ai (az H2 en_162 rfl rfl fun r14 _ H3=>aa (cx rfl) rfl<|aa (ae rfl) rfl<|ad<|aC rfl H3 (fun k4 H5=>ag<|ab<|aa (ae rfl) rfl<|ad<|an<|av (ay rfl (aD rfl)) ⟨2,rfl,H5⟩) (fun k4 H5=>ag<|ab<|aa (ac rfl) rfl<|bM H5 fun q18 e6 H7=>aa (aS (aU rfl (aw e6))) rfl<|aa (am gS rfl) rfl<|ai (bf H7 pt rfl (fun _=>rfl) rfl fun x20 H8=>aa (ac rfl) rfl<|aa (ac rfl) rfl<|ct H8 fun q23 e9 h10 H11=>aa (bG nM (aU rfl (bm e9)) rfl h10) rfl<|ir H11 fun h12 H13=>aa (bI pR rfl rfl h12) rfl<|aa (am gB rfl) rfl<|ai (bf H13 bj rfl (fun _=>rfl) rfl fun x26 H14=>aa (bU rfl rfl) rfl<|aa (ae rfl) rfl<|ad<|aC rfl H14 (fun k15 H16=>ag<|ab<|aa (ae rfl) rfl<|ad<|an<|av (ay rfl (aD rfl)) ⟨3,rfl,H16⟩) (fun k15 H16=>au<|ag<|ab<|aa (ae rfl) rfl<|ad<|an<|av (ay rfl (aD rfl)) ⟨0,rfl,H16⟩))))))
def lj (a0:Ptr) (a1:Sl) (K:Sl→Hp→Prop) (Rec2:Int→Hp→Prop) (s1:Int):Hp→Prop:=br (decide (s1 < (a1.len:Int))) ( ix a1 s1 fun q11=>ld (q11.1,q11.2 + Int.toNat s1 * 2) aP.C fun x12=>nn a0 fun q14=>ld (q14.1,q14.2 + 0) cS fun x16=>ix x16 x12.fEnv fun q22=>gd (0 ≤ x12.fSlot∧x12.fSlot < 8)<|st (q22.1,q22.2 + Int.toNat x12.fEnv * 32 + Int.toNat x12.fSlot * 4) (aF.C (⟨0,0,0,0⟩:aF))<|Rec2 (IntKind.i64.wrap (s1 + 1))) ( K a1)
def qk (a0:Ptr) (a1:Sl) (K:Sl→Hp→Prop):Hp→Prop:=Lp (lj a0 a1 K) 0
set_option maxRecDepth 20000 in
theorem sim_caps_Tree_empties (a0:Ptr) (a1:Sl) {K:Sl→Hp→Prop} {h:Hp} (H:qk a0 a1 K h):Ct Tryz.prog gy #[(pv a0),(sv a1)] h fun v h'=>∃ r,v = cY r∧K r h':=aB [(pv a0),(sv a1)] Tryz.func185 rfl rfl rfl fun _=>ag<|ab<|aa (ae rfl) rfl<|ad<|ag<|ag<|ab<|aa (ac rfl) rfl<|aa (dB rfl Tryz.underlying173 rfl) rfl<|aa (ac rfl) rfl<|ad<|aE<|bO (step:=lj a0 a1 K) (fun s1=>[(0,(pv a0)),(1,(sv a1)),(7,(sv a1)),(8,(.int .i64 (a1.len:Int))),(9,(.int .i64 s1))]) (fun s1=>[]) H (.cons rfl (.cons rfl (.cons rfl (.cons rfl (.cons rfl (.nil _)))))) .slnil (fun Rec2 s1 _ H3=>ag<|ab<|aa (cG rfl rfl) rfl<|ad<|ag<|aC rfl H3 (fun k4 H5=>au<|ag<|aE<|ag<|ab<|ct H5 fun q11 e6 h7 H8=>aa (bG slc_173 (aU rfl (bm e6)) rfl h7) rfl<|ai (gU H8 ag_208 rfl (fun _=>rfl) rfl fun x12 H9=>ai (aX (l:=(aP.C (⟨0,0⟩:aP))) zero_208 rfl rfl fun b6=>ai (aY (k:=0) (vs:=(aP.C x12)) inf_208 rfl rfl rfl rfl rfl rfl rfl<|ad<|bB (n:=12) [bx b6 208 (aP.C x12)] cu rfl (.cons_cons _ .slnil)<|ah (i:=0) (fun _ _ _ _=>id) rfl (by kernel_rfl) rfl (ve (ac rfl))<|ah (i:=4) (fun _ _ _ _=>id) rfl (by kernel_rfl) rfl (ve (am fld_208_0 rfl))<|ah (i:=5) (fun _ _ _ _=>id) rfl (by kernel_rfl) rfl (dl (k:=0) bj rfl rfl rfl)<|ah (i:=6) (fun _ _ _ _=>id) rfl (by kernel_rfl) rfl (ve (am fld_208_1 rfl))<|ah (i:=7) (fun _ _ _ _=>id) rfl (by kernel_rfl) rfl (dl (k:=0) bj rfl rfl rfl)<|ah (i:=8) (fun _ _ _ _=>id) rfl (by kernel_rfl) rfl (ve (bk (vs:=[]) rfl build_70))<|gJ H9 fun q14 e10 H11=>ah (i:=1) (fun _ _ _ _=>id) rfl (by kernel_rfl) rfl (ve (aS (aU rfl (aw e10))))<|ah (i:=2) (fun _ _ _ _=>id) rfl (by kernel_rfl) rfl (ve (am gS rfl))<|bN (i:=3) (fun _ _ _ _=>id) H11 rfl (by kernel_rfl) pt rfl (fun _=>rfl) rfl fun x16 H12=>fZ H12 fun q22 e13 h14 H15=>ah (i:=9) (fun _ _ _ _=>id) rfl (by kernel_rfl) rfl (ve (bG nM (aU rfl (bm e13)) rfl h14))<|eva_gd H15 fun h16 H17=>ah (i:=10) (fun _ _ _ _=>id) rfl (by kernel_rfl) rfl (ve (bI pR rfl rfl h16))<|bg (i:=11) (by kernel_rfl) (aG rfl rfl (dC gr rfl rfl rfl rfl rfl H17 fun _ H18=>⟨(.cons_cons _ .slnil),be (by kernel_rfl)<|ab<|aa (bE rfl rfl) rfl<|aa (ac rfl) rfl<|ad<|cT (IntKind.i64.wrap (s1 + 1)) H18 (.cons rfl (.cons rfl (.cons rfl (.cons rfl (.cons rfl (.nil _)))))) (.cons _ .slnil)⟩)))))) (fun k4 H5=>bz<|ag<|ab<|aa (ac rfl) rfl<|aa (ae rfl) rfl<|ad<|an<|av (ay rfl (aD rfl)) ⟨a1,rfl,H5⟩))
def mY (a0:Ptr) (a2:aP) (K:Bool→Hp→Prop) (Rec2:aF→Hp→Prop) (s1:aF):Hp→Prop:=br ((s1.fRights != 0) && (decide (s1.fEnv ≥ 0))) ( br ((s1.fEnv == a2.fEnv) && (s1.fSlot == a2.fSlot)) ( K true) ( nn a0 fun q28=>ld (q28.1,q28.2 + 0) cS fun x30=>ix x30 s1.fEnv fun q35=>gd (0 ≤ s1.fSlot∧s1.fSlot < 8)<|ld (q35.1,q35.2 + Int.toNat s1.fEnv * 32 + Int.toNat s1.fSlot * 4) aF.C fun x37=>Rec2 x37)) ( K false)
def sk (a0:Ptr) (a1:aF) (a2:aP) (K:Bool→Hp→Prop):Hp→Prop:=Lp (mY a0 a2 K) a1
set_option maxRecDepth 20000 in
theorem sim_caps_Tree_under (a0:Ptr) (a1:aF) (a2:aP) {K:Bool→Hp→Prop} {h:Hp} (H:sk a0 a1 a2 K h):Ct Tryz.prog kH #[(pv a0),(.agg (aF.C a1).toArray),(.agg (aP.C a2).toArray)] h fun v h'=>∃ r,v = aH r∧K r h':=aB [(pv a0),(.agg (aF.C a1).toArray),(.agg (aP.C a2).toArray)] Tryz.func172 rfl rfl rfl fun _=>ag<|ab<|ai (cQ (l:=(aF.C a1)) rfl rfl rfl fun b4=>ai (cQ (l:=(aP.C a2)) rfl rfl rfl fun b5=>aa (ae rfl) rfl<|ad<|ag<|aE<|bO (step:=mY a0 a2 K) (fun s1=>[(0,(pv a0)),(4,(.pointer (some ⟨b4,0,none⟩))),(5,(.pointer (some ⟨b5,0,none⟩)))]) (fun s1=>[bx b5 208 (aP.C a2),bx b4 70 (aF.C s1)]) H (.cons rfl (.cons rfl (.cons rfl (.nil _)))) (.cons_cons _ (.cons_cons _ .slnil)) (fun Rec2 s1 _ H3=>ag<|ag<|ab<|aa (am gB rfl) rfl<|bw (bt (k:=1) bj rfl rfl rfl) rfl<|aa (pV rfl rfl) rfl<|aa (ac rfl) rfl<|aj rfl rfl rfl (aA _) (fun g4=>wv (am qq rfl)) rfl<|aj rfl rfl rfl (aA _) (fun g5=>cv (bt (k:=1) bj (aI rfl g5) rfl rfl)) rfl<|aj rfl rfl rfl (aA _) (fun g6=>wv (jz (aI rfl g6) rfl)) rfl<|aa (bY rfl rfl) rfl<|ad<|aC rfl H3 (fun k7 H8=>au<|aE<|ag<|ag<|ab<|aa (am qq rfl) rfl<|bw (bt (k:=1) bj rfl rfl rfl) rfl<|aa (am fld_208_0 rfl) rfl<|bw (bt (k:=0) bj rfl rfl rfl) rfl<|aa (bU rfl rfl) rfl<|aa (ac rfl) rfl<|aj rfl rfl rfl (aA _) (fun g9=>wv (am fld_70_3 rfl)) rfl<|aj rfl rfl rfl (aA _) (fun g10=>cv (bt (k:=1) bj (aI rfl g10) rfl rfl)) rfl<|aj rfl rfl rfl (aA _) (fun g11=>wv (am fld_208_1 rfl)) rfl<|aj rfl rfl rfl (aA _) (fun g12=>cv (bt (k:=0) bj (aI rfl g12) rfl rfl)) rfl<|aj rfl rfl rfl (aA _) (fun g13=>wv (bU (aI rfl g13) (aI rfl g13))) rfl<|aa (bY rfl rfl) rfl<|ad<|aC rfl H8 (fun k14 H15=>ag<|ab<|aa (ae rfl) rfl<|ad<|an<|av (ay rfl (aD rfl)) ⟨true,rfl,H15⟩) (fun k14 H15=>au<|bB (n:=12) [] cu rfl (.cons _ (.cons _ .slnil))<|ah (i:=0) (fun _ _ _ _=>id) rfl (by kernel_rfl) rfl (ve (ac rfl))<|ah (i:=4) (fun _ _ _ _=>id) rfl (by kernel_rfl) rfl (ve (am qq rfl))<|ah (i:=6) (fun _ _ _ _=>id) rfl (by kernel_rfl) rfl (ve (am fld_70_3 rfl))<|gJ H15 fun q28 e16 H17=>ah (i:=1) (fun _ _ _ _=>id) rfl (by kernel_rfl) rfl (ve (aS (aU rfl (aw e16))))<|ah (i:=2) (fun _ _ _ _=>id) rfl (by kernel_rfl) rfl (ve (am gS rfl))<|bN (i:=3) (fun _ _ _ _=>id) H17 rfl (by kernel_rfl) pt rfl (fun _=>rfl) rfl fun x30 H18=>eva_load (i:=5) (fun _ _ _ _=>id) rfl (by kernel_rfl) rfl (bt (k:=1) bj rfl rfl rfl)<|fZ H18 fun q35 e19 h20 H21=>ah (i:=8) (fun _ _ _ _=>id) rfl (by kernel_rfl) rfl (ve (bG nM (aU rfl (bm e19)) rfl h20))<|eva_load (i:=7) (fun _ _ _ _=>id) rfl (by kernel_rfl) rfl (bt (k:=1) bj rfl rfl rfl)<|eva_gd H21 fun h22 H23=>ah (i:=9) (fun _ _ _ _=>id) rfl (by kernel_rfl) rfl (ve (bI pR rfl rfl h22))<|wu (i:=10) (fun _ _ _ _=>id) H23 rfl (by kernel_rfl) ag_70 rfl (fun _=>rfl) rfl fun x37 H24=>bg (i:=11) (by kernel_rfl) (aG rfl rfl (aY (k:=1) (vs:=(aF.C x37)) gr rfl rfl rfl rfl rfl rfl rfl<|⟨(.cons _ (.cons _ .slnil)),be (by kernel_rfl)<|cT x37 H24 (.cons rfl (.cons rfl (.cons rfl (.nil _)))) (.cons_cons _ (.cons_cons _ .slnil))⟩)))) (fun k7 H8=>bz<|ag<|ab<|aa (ae rfl) rfl<|ad<|an<|av (ay rfl (aD rfl)) ⟨false,rfl,H8⟩))))
def ql (a0:aP) (a1:aF) (c0:Nat) (c1:Nat) (K:Bool→Hp→Prop):Hp→Prop:=ld (c0,0) aP.C fun x8=>br (!(aP.eqb a0 x8)) ( ld (c1,0) cP fun x11=>ld (c0,0) aP.C fun x13=>cl Tryz.prog kH [(pv x11),(.agg (aF.C a1).toArray),(.agg (aP.C x13).toArray)] aH fun r14=>K r14) ( K true)
set_option maxRecDepth 20000 in
theorem sim_caps_Tree_Drop_c1 (a0:aP) (a1:aF) (c0:Nat) (c1:Nat) {K:Bool→Hp→Prop} {h:Hp} (H:ql a0 a1 c0 c1 K h):Ct Tryz.prog gz #[(.agg (aP.C a0).toArray),(.agg (aF.C a1).toArray),(.pointer (some ⟨c0,0,none⟩)),(.pointer (some ⟨c1,0,none⟩))] h fun v h'=>∃ r,v = aH r∧K r h':=aB [(.agg (aP.C a0).toArray),(.agg (aF.C a1).toArray),(.pointer (some ⟨c0,0,none⟩)),(.pointer (some ⟨c1,0,none⟩))] Tryz.func186 rfl rfl rfl fun _=>ag<|ab<|ai (cQ (l:=(aP.C a0)) rfl rfl rfl fun b4=>ai (cQ (l:=(aF.C a1)) rfl rfl rfl fun b5=>aa (ae rfl) rfl<|ad<|ag<|ab<|bw (bL (k:=1) ag_208 rfl rfl rfl rfl) rfl<|ai (gU H ag_208 rfl (fun _=>rfl) rfl fun x8 H1=>aa (v_eqA eqg_208 (eqr_208 9998 _ _) rfl rfl) rfl<|aa (ac rfl) rfl<|bX H1 (fun k3 H4=>aK rfl rfl rfl (congrArg Value.bool (cn k3)) (bf H4 gY rfl (fun _=>rfl) rfl fun x11 H5=>aK rfl rfl rfl (congrArg Value.bool (cn k3)) (aO (cv (bL (k:=0) ag_70 rfl rfl rfl rfl)) rfl<|aK rfl rfl rfl (congrArg Value.bool (cn k3)) (gU H5 ag_208 rfl (fun _=>rfl) rfl fun x13 H6=>aK rfl rfl rfl (congrArg Value.bool (cn k3)) (az H6 en_172 rfl rfl fun r14 _ H7=>aa (ax rfl (cn k3) rfl) rfl<|aa (ae rfl) rfl<|ad<|an<|av (ay rfl (aD rfl)) ⟨r14,rfl,H7⟩))))) (fun k3 H4=>al rfl rfl rfl (ci (bP k3)) rfl<|al rfl rfl rfl (ci (bP k3)) rfl<|al rfl rfl rfl (ci (bP k3)) rfl<|al rfl rfl rfl (ci (bP k3)) rfl<|aa (bd rfl (bP k3) rfl) rfl<|aa (ae rfl) rfl<|ad<|an<|av (ay rfl (aD rfl)) ⟨true,rfl,H4⟩))))
def tD (a0:Ptr) (a1:Int) (a2:Int) (K:(Sl × Int)→Hp→Prop):Hp→Prop:=nw rj [pv a0] fun b3=>ld (b3,0) cP fun x10=>cl Tryz.prog lH [(pv x10),(.int .i64 a1),(.int .i64 a2)] bu fun r13=>br (r13 != 0) ( K ((⟨none,0,0⟩:Sl),r13)) ( nw ri (aP.C (⟨0,0⟩:aP)) fun b9=>st (b9,0) (aP.C (⟨a1,a2⟩:aP))<|ld (b3,0) cP fun x21=>both ( ld (b3,0) cP fun x20=>cl Tryz.prog jW [(pv x21),(.func (.func gz) #[] #[(.pointer (some ⟨b9,0,none⟩)),(.pointer (some ⟨b3,0,none⟩))])] cY fun r23=>cl Tryz.prog gy [(pv x20),(sv r23)] cY fun r24=>K (r24,0)) ( cl Tryz.prog jW [(pv x21),(.func (.func gz) #[] #[(.pointer (some ⟨b9,0,none⟩)),(.pointer (some ⟨b3,0,none⟩))])] cY fun r23=>ld (b3,0) cP fun x20=>cl Tryz.prog gy [(pv x20),(sv r23)] cY fun r24=>K (r24,0)))
set_option maxRecDepth 20000 in
theorem sim_caps_Tree_Drop (a0:Ptr) (a1:Int) (a2:Int) {K:(Sl × Int)→Hp→Prop} {h:Hp} (H:tD a0 a1 a2 K h):Ct Tryz.prog lI #[(pv a0),(.int .i64 a1),(.int .i64 a2)] h fun v h'=>∃ r,v = dz r∧K r h':=aB [(pv a0),(.int .i64 a1),(.int .i64 a2)] Tryz.func157 rfl rfl rfl fun _=>ag<|ab<|ai (gV rfl rfl rfl H fun b3 _ H1=>aa (ae rfl) rfl<|aa (ae rfl) rfl<|ad<|ag<|ag<|ab<|ai (bf H1 gY rfl (fun _=>rfl) rfl fun x10 H2=>aa (ac rfl) rfl<|aa (ac rfl) rfl<|ai (az H2 en_184 rfl rfl fun r13 _ H3=>aa (ae rfl) rfl<|ad<|ag<|ab<|aa (ac rfl) rfl<|aa (pV rfl rfl) rfl<|ad<|aC rfl H3 (fun k4 H5=>ag<|ab<|aa (ac rfl) rfl<|aa (ae rfl) rfl<|aa (ae rfl) rfl<|ad<|an<|av (cc rfl (aD rfl) (aD rfl)) ⟨((⟨none,0,0⟩:Sl),r13),rfl,H5⟩) (fun k4 H5=>au<|ag<|ab<|aa (ac rfl) rfl<|aa (ac rfl) rfl<|aa (bk rfl (uk a1 a2)) rfl<|ai (to_alloc zero_208 rfl rfl H5 fun b9 _ H6=>ai (dC inf_208 rfl rfl rfl rfl rfl H6 fun _ H7=>ad<|ag<|bB (n:=7) [] cu rfl .slnil<|ah (i:=2) (fun _ _ _ _=>id) rfl (by kernel_rfl) rfl (ve (v_func rfl rfl))<|bN (i:=1) (fun _ _ _ _=>id) H7 rfl (by kernel_rfl) gY rfl (fun _=>rfl) rfl fun x21 H8=>js H8 fun H9_1 H9_2=>jt (i:=0) (j:=3) (by kernel_rfl) (aG rfl rfl (bf H9_1 gY rfl (fun _=>rfl) rfl fun x20 H10=>⟨.slnil,bg (i:=3) (by kernel_rfl) (aG rfl rfl (az H10 en_170 rfl rfl fun r23 _ H11=>⟨.slnil,bg (i:=4) (by kernel_rfl) (aG rfl rfl (az H11 en_185 rfl rfl fun r24 _ H12=>⟨.slnil,ah (i:=5) (fun _ _ _ _=>id) rfl (by kernel_rfl) rfl (ve (ae rfl))<|ah (i:=6) (fun _ _ _ _=>id) rfl (by kernel_rfl) rfl (ve (ae rfl))<|be (by kernel_rfl)<|an<|av (cc rfl (aD rfl) (aD rfl)) ⟨(r24,0),rfl,H12⟩⟩))⟩))⟩)) (aG rfl rfl (az H9_2 en_170 rfl rfl fun r23 _ H10=>⟨.slnil,bN (i:=0) (fun _ _ _ _=>id) H10 rfl (by kernel_rfl) gY rfl (fun _=>rfl) rfl fun x20 H11=>bg (i:=4) (by kernel_rfl) (aG rfl rfl (az H11 en_185 rfl rfl fun r24 _ H12=>⟨.slnil,ah (i:=5) (fun _ _ _ _=>id) rfl (by kernel_rfl) rfl (ve (ae rfl))<|ah (i:=6) (fun _ _ _ _=>id) rfl (by kernel_rfl) rfl (ve (ae rfl))<|be (by kernel_rfl)<|an<|av (cc rfl (aD rfl) (aD rfl)) ⟨(r24,0),rfl,H12⟩⟩))⟩))))))))
def oU (a0:aP) (a1:aF) (c0:Nat) (c1:Nat) (c2:Nat) (K:Bool→Hp→Prop):Hp→Prop:=ld (c0,0) cP fun x8=>ld (c1,0) (cI .i64) fun x10=>ld (c2,0) (cI .i64) fun x11=>cl Tryz.prog kH [(pv x8),(.agg (aF.C a1).toArray),(.agg (aP.C (⟨x10,x11⟩:aP)).toArray)] aH fun r13=>K r13
set_option maxRecDepth 20000 in
theorem vS (a0:aP) (a1:aF) (c0:Nat) (c1:Nat) (c2:Nat) {K:Bool→Hp→Prop} {h:Hp} (H:oU a0 a1 c0 c1 c2 K h):Ct Tryz.prog lf #[(.agg (aP.C a0).toArray),(.agg (aF.C a1).toArray),(.pointer (some ⟨c0,0,none⟩)),(.pointer (some ⟨c1,0,none⟩)),(.pointer (some ⟨c2,0,none⟩))] h fun v h'=>∃ r,v = aH r∧K r h':=aB [(.agg (aP.C a0).toArray),(.agg (aF.C a1).toArray),(.pointer (some ⟨c0,0,none⟩)),(.pointer (some ⟨c1,0,none⟩)),(.pointer (some ⟨c2,0,none⟩))] Tryz.func171 rfl rfl rfl fun _=>ag<|ab<|ai (cQ (l:=(aP.C a0)) rfl rfl rfl fun b5=>ai (cQ (l:=(aF.C a1)) rfl rfl rfl fun b6=>aa (ae rfl) rfl<|ad<|ag<|ab<|ai (bf H gY rfl (fun _=>rfl) rfl fun x8 H1=>bw (bL (k:=0) ag_70 rfl rfl rfl rfl) rfl<|ai (bf H1 bj rfl (fun _=>rfl) rfl fun x10 H2=>ai (bf H2 bj rfl (fun _=>rfl) rfl fun x11 H3=>aa (bk rfl (uk x10 x11)) rfl<|ai (az H3 en_172 rfl rfl fun r13 _ H4=>aa (ae rfl) rfl<|ad<|an<|av (ay rfl (aD rfl)) ⟨r13,rfl,H4⟩))))))
def sm (a0:Ptr) (a1:Int) (a2:Int) (K:Sl→Hp→Prop):Hp→Prop:=nw rj [pv a0] fun b3=>nw kB [.int .i64 a1] fun b4=>nw kB [.int .i64 a2] fun b5=>ld (b3,0) cP fun x7=>cl Tryz.prog jW [(pv x7),(.func (.func lf) #[] #[(.pointer (some ⟨b3,0,none⟩)),(.pointer (some ⟨b4,0,none⟩)),(.pointer (some ⟨b5,0,none⟩))])] cY fun r9=>K r9
set_option maxRecDepth 20000 in
theorem sim_caps_Tree_Below (a0:Ptr) (a1:Int) (a2:Int) {K:Sl→Hp→Prop} {h:Hp} (H:sm a0 a1 a2 K h):Ct Tryz.prog kI #[(pv a0),(.int .i64 a1),(.int .i64 a2)] h fun v h'=>∃ r,v = cY r∧K r h':=aB [(pv a0),(.int .i64 a1),(.int .i64 a2)] Tryz.func131 rfl rfl rfl fun _=>ag<|ab<|ai (gV rfl rfl rfl H fun b3 _ H1=>ai (gV rfl rfl rfl H1 fun b4 _ H2=>ai (gV rfl rfl rfl H2 fun b5 _ H3=>aa (ae rfl) rfl<|ad<|ag<|ab<|ai (bf H3 gY rfl (fun _=>rfl) rfl fun x7 H4=>aa (v_func rfl rfl) rfl<|ai (az H4 en_170 rfl rfl fun r9 _ H5=>aa (ae rfl) rfl<|ad<|an<|av (ay rfl (aD rfl)) ⟨r9,rfl,H5⟩)))))
def rd (a0:Ptr) (a1:Int) (a2:Int) (K:(Sl × Int)→Hp→Prop):Hp→Prop:=cl Tryz.prog lH [(pv a0),(.int .i64 a1),(.int .i64 a2)] bu fun r12=>br (r12 != 0) ( K ((⟨none,0,0⟩:Sl),r12)) ( cl Tryz.prog kI [(pv a0),(.int .i64 a1),(.int .i64 a2)] cY fun r20=>cl Tryz.prog gy [(pv a0),(sv r20)] cY fun r21=>K (r21,0))
set_option maxRecDepth 20000 in
theorem sim_caps_Tree_Revoke (a0:Ptr) (a1:Int) (a2:Int) {K:(Sl × Int)→Hp→Prop} {h:Hp} (H:rd a0 a1 a2 K h):Ct Tryz.prog mT #[(pv a0),(.int .i64 a1),(.int .i64 a2)] h fun v h'=>∃ r,v = dz r∧K r h':=aB [(pv a0),(.int .i64 a1),(.int .i64 a2)] Tryz.func158 rfl rfl rfl fun _=>ag<|ab<|aa (ae rfl) rfl<|aa (ae rfl) rfl<|ad<|ag<|ag<|ab<|aa (ac rfl) rfl<|aa (ac rfl) rfl<|aa (ac rfl) rfl<|ai (az H en_184 rfl rfl fun r12 _ H1=>aa (ae rfl) rfl<|ad<|ag<|ab<|aa (ac rfl) rfl<|aa (pV rfl rfl) rfl<|ad<|aC rfl H1 (fun k2 H3=>ag<|ab<|aa (ac rfl) rfl<|aa (ae rfl) rfl<|aa (ae rfl) rfl<|ad<|an<|av (cc rfl (aD rfl) (aD rfl)) ⟨((⟨none,0,0⟩:Sl),r12),rfl,H3⟩) (fun k2 H3=>au<|ag<|ab<|aa (ac rfl) rfl<|aa (ac rfl) rfl<|aa (ac rfl) rfl<|aa (ac rfl) rfl<|ai (az H3 en_131 rfl rfl fun r20 _ H4=>ai (az H4 en_185 rfl rfl fun r21 _ H5=>aa (ae rfl) rfl<|aa (ae rfl) rfl<|ad<|an<|av (cc rfl (aD rfl) (aD rfl)) ⟨(r21,0),rfl,H5⟩))))
end Go.Proofs.YtniiiakkdoiaiaaGreatDoor
