/- Part of the proof of: For every number of cores, every gap and every core, messuagelaw16.FairLong returns true and leaves its arguments as they were; errors.errorType holds the handle of the type error when the call begins. -/
import Derived.Test.YtniiiakkdoiaiaaGreatDoorFairLong02
set_option linter.all false
namespace Go.Proofs.YtniiiakkdoiaiaaGreatDoor
open Go Mb
set_option linter.unusedVariables false
def sh_hist_one (a0:aJ) (a1:aR) (a2:Int) (K:Bool→Hp→Prop):Hp→Prop:=br (((((decide (a0.fCore < 0)) || (decide (a0.fCore ≥ a1.fCores))) || (decide (a0.fEnv < 0))) || (decide (a0.fEnv ≥ a1.fEnvs))) || (decide (a0.fBegin ≤ a2))) ( K false) ( br (a0.fEffect == 0) ( K (a0.fEnd == 0)) ( K ((decide (a0.fEffect ≥ a0.fBegin)) && ((a0.fEnd == 0) || (decide (a0.fEnd ≥ a0.fEffect))))))
set_option maxRecDepth 20000 in
theorem sim_hist_one (a0:aJ) (a1:aR) (a2:Int) {K:Bool→Hp→Prop} {h:Hp} (H:sh_hist_one a0 a1 a2 K h):Ct Tryz.prog n_hist_one #[(.agg (aJ.C a0).toArray),(.agg (aR.C a1).toArray),(.int .i64 a2)] h fun v h'=>∃ r,v = aH r∧K r h':=aB [(.agg (aJ.C a0).toArray),(.agg (aR.C a1).toArray),(.int .i64 a2)] Tryz.func52 rfl rfl rfl fun _=>ag<|ab<|ai (cQ (l:=(aJ.C a0)) rfl rfl rfl fun b3=>ai (cQ (l:=(aR.C a1)) rfl rfl rfl fun b4=>aa (ae rfl) rfl<|ad<|ag<|aE<|ag<|ab<|aa (am sJ rfl) rfl<|bw (bt (k:=1) bj rfl rfl rfl) rfl<|aa (cG rfl rfl) rfl<|aa (ac rfl) rfl<|aj rfl rfl rfl (aV _) (fun g1=>wv (am sJ rfl)) rfl<|aj rfl rfl rfl (aV _) (fun g2=>cv (bt (k:=1) bj (aI rfl g2) rfl rfl)) rfl<|aj rfl rfl rfl (aV _) (fun g3=>wv (am oy rfl)) rfl<|aj rfl rfl rfl (aV _) (fun g4=>cv (bt (k:=0) bj (aI rfl g4) rfl rfl)) rfl<|aj rfl rfl rfl (aV _) (fun g5=>wv (jz (aI rfl g5) (aI rfl g5))) rfl<|aa (dA rfl rfl) rfl<|aa (ac rfl) rfl<|aj rfl rfl rfl (aV _) (fun g6=>wv (am ox rfl)) rfl<|aj rfl rfl rfl (aV _) (fun g7=>cv (bt (k:=1) bj (aI rfl g7) rfl rfl)) rfl<|aj rfl rfl rfl (aV _) (fun g8=>wv (cG (aI rfl g8) rfl)) rfl<|aa (dA rfl rfl) rfl<|aa (ac rfl) rfl<|aj rfl rfl rfl (aV _) (fun g9=>wv (am ox rfl)) rfl<|aj rfl rfl rfl (aV _) (fun g10=>cv (bt (k:=1) bj (aI rfl g10) rfl rfl)) rfl<|aj rfl rfl rfl (aV _) (fun g11=>wv (am mB rfl)) rfl<|aj rfl rfl rfl (aV _) (fun g12=>cv (bt (k:=0) bj (aI rfl g12) rfl rfl)) rfl<|aj rfl rfl rfl (aV _) (fun g13=>wv (jz (aI rfl g13) (aI rfl g13))) rfl<|aa (dA rfl rfl) rfl<|aa (ac rfl) rfl<|aj rfl rfl rfl (aV _) (fun g14=>wv (am sI rfl)) rfl<|aj rfl rfl rfl (aV _) (fun g15=>cv (bt (k:=1) bj (aI rfl g15) rfl rfl)) rfl<|aj rfl rfl rfl (aV _) (fun g16=>wv (ac rfl)) rfl<|aj rfl rfl rfl (aV _) (fun g17=>wv (v_le (aI rfl g17) (aI rfl g17))) rfl<|aa (dA rfl rfl) rfl<|aa (ae rfl) rfl<|ad<|aC rfl H (fun k18 H19=>ag<|ab<|aa (ae rfl) rfl<|ad<|an<|av (ay rfl (aD rfl)) ⟨false,rfl,H19⟩) (fun k18 H19=>ag<|ab<|aa (am iR rfl) rfl<|bw (bt (k:=1) bj rfl rfl rfl) rfl<|aa (bU rfl rfl) rfl<|aa (ae rfl) rfl<|ad<|aC rfl H19 (fun k20 H21=>ag<|ab<|aa (am qr rfl) rfl<|bw (bt (k:=1) bj rfl rfl rfl) rfl<|aa (bU rfl rfl) rfl<|aa (ae rfl) rfl<|ad<|an<|av (ay rfl (aD rfl)) ⟨(a0.fEnd == 0),rfl,H21⟩) (fun k20 H21=>au<|ag<|ab<|aa (am iR rfl) rfl<|bw (bt (k:=1) bj rfl rfl rfl) rfl<|aa (am sI rfl) rfl<|bw (bt (k:=1) bj rfl rfl rfl) rfl<|aa (jz rfl rfl) rfl<|aa (ac rfl) rfl<|aj rfl rfl rfl (aA _) (fun g22=>wv (am qr rfl)) rfl<|aj rfl rfl rfl (aA _) (fun g23=>cv (bt (k:=1) bj (aI rfl g23) rfl rfl)) rfl<|aj rfl rfl rfl (aA _) (fun g24=>wv (bU (aI rfl g24) rfl)) rfl<|aj rfl rfl rfl (aA _) (fun g25=>wv (ac (aI rfl g25))) rfl<|aj rfl rfl rfl (dU _ _) (fun g26=>wv (am qr rfl)) rfl<|aj rfl rfl rfl (dU _ _) (fun g27=>cv (bt (k:=1) bj (aI rfl g27) rfl rfl)) rfl<|aj rfl rfl rfl (dU _ _) (fun g28=>wv (am iR rfl)) rfl<|aj rfl rfl rfl (dU _ _) (fun g29=>cv (bt (k:=1) bj (aI rfl g29) rfl rfl)) rfl<|aj rfl rfl rfl (dU _ _) (fun g30=>wv (jz (aI rfl g30) (aI rfl g30))) rfl<|aj rfl rfl rfl (aA _) (fun g31=>wv (dA (aI rfl g31) (aU rfl (wq g31)))) rfl<|aa (bY rfl rfl) rfl<|aa (ae rfl) rfl<|ad<|an<|av (ay rfl (aD rfl)) ⟨((decide (a0.fEffect ≥ a0.fBegin)) && ((a0.fEnd == 0) || (decide (a0.fEnd ≥ a0.fEffect)))),rfl,H21⟩))))
def fz (a0:aJ) (a1:aR) (a2:Int):Bool:=(bif (((((decide (a0.fCore < 0)) || (decide (a0.fCore ≥ a1.fCores))) || (decide (a0.fEnv < 0))) || (decide (a0.fEnv ≥ a1.fEnvs))) || (decide (a0.fBegin ≤ a2))) then (false) else (bif (a0.fEffect == 0) then ((a0.fEnd == 0)) else (((decide (a0.fEffect ≥ a0.fBegin)) && ((a0.fEnd == 0) || (decide (a0.fEnd ≥ a0.fEffect)))))))
theorem pr_hist_one (a0:aJ) (a1:aR) (a2:Int) {K:Bool→Hp→Prop} {h:Hp} (k:K (fz a0 a1 a2) h):sh_hist_one a0 a1 a2 K h:=(jR (K:=K) (fun k=>k) (jR (K:=K) (fun k=>k) (fun k=>k))) k
theorem ct_hist_one (a0:aJ) (a1:aR) (a2:Int) (h:Hp):Ct Tryz.prog n_hist_one #[(.agg (aJ.C a0).toArray),(.agg (aR.C a1).toArray),(.int .i64 a2)] h fun v h'=>∃ r,v = aH r∧(r = fz a0 a1 a2∧h' = h):=sim_hist_one a0 a1 a2 (pr_hist_one a0 a1 a2 ⟨rfl,rfl⟩)
def uD (a0:aJ) (K:Bool→Hp→Prop):Hp→Prop:=K (decide (a0.fEffect > 0))
set_option maxRecDepth 20000 in
theorem sim_hist_Order_c1 (a0:aJ) {K:Bool→Hp→Prop} {h:Hp} (H:uD a0 K h):Ct Tryz.prog mJ #[(.agg (aJ.C a0).toArray)] h fun v h'=>∃ r,v = aH r∧K r h':=aB [(.agg (aJ.C a0).toArray)] Tryz.func56 rfl rfl rfl fun _=>ag<|ab<|ai (cQ (l:=(aJ.C a0)) rfl rfl rfl fun b1=>aa (ae rfl) rfl<|ad<|ag<|ab<|aa (am iR rfl) rfl<|bw (bt (k:=0) bj rfl rfl rfl) rfl<|aa (pW rfl rfl) rfl<|aa (ae rfl) rfl<|ad<|an<|av (ay rfl (aD rfl)) ⟨(decide (a0.fEffect > 0)),rfl,H⟩)
def uJ (a0:aJ):Bool:=((decide (a0.fEffect > 0)))
theorem pr_hist_Order_c1 (a0:aJ) {K:Bool→Hp→Prop} {h:Hp} (k:K (uJ a0) h):uD a0 K h:=(fun k=>k) k
theorem ct_hist_Order_c1 (a0:aJ) (h:Hp):Ct Tryz.prog mJ #[(.agg (aJ.C a0).toArray)] h fun v h'=>∃ r,v = aH r∧(r = uJ a0∧h' = h):=sim_hist_Order_c1 a0 (pr_hist_Order_c1 a0 ⟨rfl,rfl⟩)
def uE (a0:Int) (K:Bool→Hp→Prop):Hp→Prop:=K (a0 != a0)
set_option maxRecDepth 20000 in
theorem sim_cmp_isNaN_int (a0:Int) {K:Bool→Hp→Prop} {h:Hp} (H:uE a0 K h):Ct Tryz.prog n_cmp_isNaN_int #[(.int .i64 a0)] h fun v h'=>∃ r,v = aH r∧K r h':=aB [(.int .i64 a0)] Tryz.func89 rfl rfl rfl fun _=>ag<|ab<|aa (ae rfl) rfl<|ad<|ag<|ab<|aa (ac rfl) rfl<|aa (ac rfl) rfl<|aa (pV rfl rfl) rfl<|aa (ae rfl) rfl<|ad<|an<|av (ay rfl (aD rfl)) ⟨(a0 != a0),rfl,H⟩
def ee (a0:Int):Bool:=((a0 != a0))
theorem pr_cmp_isNaN_int (a0:Int) {K:Bool→Hp→Prop} {h:Hp} (k:K (ee a0) h):uE a0 K h:=(fun k=>k) k
theorem uX (a0:Int) (h:Hp):Ct Tryz.prog n_cmp_isNaN_int #[(.int .i64 a0)] h fun v h'=>∃ r,v = aH r∧(r = ee a0∧h' = h):=sim_cmp_isNaN_int a0 (pr_cmp_isNaN_int a0 ⟨rfl,rfl⟩)
def sj (a0:Int) (a1:Int) (K:Int→Hp→Prop):Hp→Prop:=br (ee a0) ( br (ee a1) ( K 0) ( K (-1))) ( br (ee a1) ( K 1) ( br (decide (a0 < a1)) ( K (-1)) ( br (decide (a0 > a1)) ( K 1) ( K 0))))
set_option maxRecDepth 20000 in
theorem sim_cmp_Compare_int (a0:Int) (a1:Int) {K:Int→Hp→Prop} {h:Hp} (H:sj a0 a1 K h):Ct Tryz.prog tO #[(.int .i64 a0),(.int .i64 a1)] h fun v h'=>∃ r,v = dV r∧K r h':=aB [(.int .i64 a0),(.int .i64 a1)] Tryz.func59 rfl rfl rfl fun _=>ag<|ab<|aa (ae rfl) rfl<|ad<|ag<|ab<|aa (ac rfl) rfl<|ai (cN (vs:=[(.int .i64 a0)]) (bH (uX a0 _)) en_89 rfl rfl<|aa (ae rfl) rfl<|ad<|ag<|ab<|aa (ac rfl) rfl<|ai (cN (vs:=[(.int .i64 a1)]) (bH (uX a1 _)) en_89 rfl rfl<|aa (ae rfl) rfl<|ad<|ag<|ag<|ab<|aa (ac rfl) rfl<|ad<|aC rfl H (fun k1 H2=>ag<|ag<|ab<|aa (ac rfl) rfl<|ad<|aC rfl H2 (fun k3 H4=>ag<|ab<|aa (ae rfl) rfl<|ad<|an<|av (ay rfl (aD rfl)) ⟨0,rfl,H4⟩) (fun k3 H4=>au<|ag<|ab<|aa (ae rfl) rfl<|ad<|an<|av (ay rfl (aD rfl)) ⟨(-1),rfl,H4⟩)) (fun k1 H2=>au<|ag<|ag<|ab<|aa (ac rfl) rfl<|ad<|aC rfl H2 (fun k5 H6=>ag<|ab<|aa (ae rfl) rfl<|ad<|an<|av (ay rfl (aD rfl)) ⟨1,rfl,H6⟩) (fun k5 H6=>au<|ag<|ag<|ab<|aa (ac rfl) rfl<|aa (ac rfl) rfl<|aa (cG rfl rfl) rfl<|ad<|aC rfl H6 (fun k7 H8=>ag<|ab<|aa (ae rfl) rfl<|ad<|an<|av (ay rfl (aD rfl)) ⟨(-1),rfl,H8⟩) (fun k7 H8=>au<|ag<|ag<|ab<|aa (ac rfl) rfl<|aa (ac rfl) rfl<|aa (pW rfl rfl) rfl<|ad<|aC rfl H8 (fun k9 H10=>ag<|ab<|aa (ae rfl) rfl<|ad<|an<|av (ay rfl (aD rfl)) ⟨1,rfl,H10⟩) (fun k9 H10=>au<|ag<|ab<|aa (ae rfl) rfl<|ad<|an<|av (ay rfl (aD rfl)) ⟨0,rfl,H10⟩))))))
def fJ (a0:Int) (a1:Int):Int:=(bif (ee a0) then (bif (ee a1) then (0) else ((-1))) else (bif (ee a1) then (1) else (bif (decide (a0 < a1)) then ((-1)) else (bif (decide (a0 > a1)) then (1) else (0)))))
theorem pr_cmp_Compare_int (a0:Int) (a1:Int) {K:Int→Hp→Prop} {h:Hp} (k:K (fJ a0 a1) h):sj a0 a1 K h:=(jR (K:=K) (jR (K:=K) (fun k=>k) (fun k=>k)) (jR (K:=K) (fun k=>k) (jR (K:=K) (fun k=>k) (jR (K:=K) (fun k=>k) (fun k=>k))))) k
theorem ct_cmp_Compare_int (a0:Int) (a1:Int) (h:Hp):Ct Tryz.prog tO #[(.int .i64 a0),(.int .i64 a1)] h fun v h'=>∃ r,v = dV r∧(r = fJ a0 a1∧h' = h):=sim_cmp_Compare_int a0 a1 (pr_cmp_Compare_int a0 a1 ⟨rfl,rfl⟩)
def sh_tlb_empty (K:ar→Hp→Prop):Hp→Prop:=K (⟨(-1),0,0,0⟩:ar)
set_option maxRecDepth 20000 in
theorem sim_tlb_empty {K:ar→Hp→Prop} {h:Hp} (H:sh_tlb_empty K h):Ct Tryz.prog n_tlb_empty #[] h fun v h'=>∃ r,v = R_api_Line r∧K r h':=aB [] Tryz.func117 rfl rfl rfl fun _=>ag<|ab<|ai (aX (l:=(ar.C (⟨0,0,0,0⟩:ar))) kA rfl rfl fun b0=>ad<|ag<|ab<|aa (bk rfl (build_49_0 (-1))) rfl<|ai (aY (k:=0) (vs:=(ar.C (⟨(-1),0,0,0⟩:ar))) fG rfl rfl rfl rfl rfl rfl rfl<|ad<|an<|av (ay rfl (bK (k:=0) rfl gR rfl rfl)) ⟨(⟨(-1),0,0,0⟩:ar),rfl,H⟩))
def gG:ar:=((⟨(-1),0,0,0⟩:ar))
theorem pr_tlb_empty {K:ar→Hp→Prop} {h:Hp} (k:K (gG) h):sh_tlb_empty K h:=(fun k=>k) k
theorem ct_tlb_empty (h:Hp):Ct Tryz.prog n_tlb_empty #[] h fun v h'=>∃ r,v = R_api_Line r∧(r = gG∧h' = h):=sim_tlb_empty (pr_tlb_empty ⟨rfl,rfl⟩)
def sh_word_Kind (a0:ao) (K:(Int × Bool)→Hp→Prop):Hp→Prop:=br (((decide (a0.e0 ≥ 1)) && (decide (a0.e0 ≤ 10))) || ((decide (a0.e0 ≥ 20)) && (decide (a0.e0 ≤ 23)))) ( K ((IntKind.i64.wrap a0.e0),true)) ( K (0,false))
set_option maxRecDepth 20000 in
theorem sim_word_Kind (a0:ao) {K:(Int × Bool)→Hp→Prop} {h:Hp} (H:sh_word_Kind a0 K h):Ct Tryz.prog n_word_Kind #[(.agg (ao.C a0).toArray)] h fun v h'=>∃ r,v = bS r∧K r h':=aB [(.agg (ao.C a0).toArray)] Tryz.func64 rfl rfl rfl fun _=>ag<|ab<|ai (cQ (l:=(ao.C a0)) rfl rfl rfl fun b1=>aa (ae rfl) rfl<|aa (ae rfl) rfl<|ad<|ag<|ag<|ab<|aa (bI dh rfl rfl (by decide)) rfl<|bw (bt (k:=0) cz rfl rfl rfl) rfl<|aa (ae rfl) rfl<|ad<|ag<|ab<|aa (ac rfl) rfl<|aa (jz rfl rfl) rfl<|aa (ac rfl) rfl<|aj rfl rfl rfl (aA _) (fun g1=>wv (ac rfl)) rfl<|aj rfl rfl rfl (aA _) (fun g2=>wv (v_le (aI rfl g2) rfl)) rfl<|aa (bY rfl rfl) rfl<|aa (ac rfl) rfl<|aj rfl rfl rfl (aV _) (fun g3=>wv (ac rfl)) rfl<|aj rfl rfl rfl (aV _) (fun g4=>wv (jz (aI rfl g4) rfl)) rfl<|aj rfl rfl rfl (aV _) (fun g5=>wv (ac (aI rfl g5))) rfl<|aj rfl rfl rfl (qM _ _) (fun g6=>wv (ac rfl)) rfl<|aj rfl rfl rfl (qM _ _) (fun g7=>wv (v_le (aI rfl g7) rfl)) rfl<|aj rfl rfl rfl (aV _) (fun g8=>wv (bY (aI rfl g8) (aU rfl (wq g8)))) rfl<|aa (dA rfl rfl) rfl<|ad<|aC rfl H (fun k9 H10=>ag<|ab<|aa (ac rfl) rfl<|aa (dW ⟨_,Tryz.underlying25⟩ Tryz.underlying3 rfl) rfl<|aa (ae rfl) rfl<|aa (ae rfl) rfl<|ad<|an<|av (cc rfl (aD rfl) (aD rfl)) ⟨((IntKind.i64.wrap a0.e0),true),rfl,H10⟩) (fun k9 H10=>au<|ag<|ab<|aa (ae rfl) rfl<|aa (ae rfl) rfl<|ad<|an<|av (cc rfl (aD rfl) (aD rfl)) ⟨(0,false),rfl,H10⟩))
def aL (a0:ao):Int × Bool:=(bif (((decide (a0.e0 ≥ 1)) && (decide (a0.e0 ≤ 10))) || ((decide (a0.e0 ≥ 20)) && (decide (a0.e0 ≤ 23)))) then (((IntKind.i64.wrap a0.e0),true)) else ((0,false)))
theorem pr_word_Kind (a0:ao) {K:(Int × Bool)→Hp→Prop} {h:Hp} (k:K (aL a0) h):sh_word_Kind a0 K h:=(jR (K:=K) (fun k=>k) (fun k=>k)) k
theorem jP (a0:ao) (h:Hp):Ct Tryz.prog n_word_Kind #[(.agg (ao.C a0).toArray)] h fun v h'=>∃ r,v = bS r∧(r = aL a0∧h' = h):=sim_word_Kind a0 (pr_word_Kind a0 ⟨rfl,rfl⟩)
def sh_word_User (a0:Int) (K:Bool→Hp→Prop):Hp→Prop:=K ((decide (a0 ≥ 20)) && (decide (a0 ≤ 23)))
set_option maxRecDepth 20000 in
theorem sim_word_User (a0:Int) {K:Bool→Hp→Prop} {h:Hp} (H:sh_word_User a0 K h):Ct Tryz.prog n_word_User #[(.int .i64 a0)] h fun v h'=>∃ r,v = aH r∧K r h':=aB [(.int .i64 a0)] Tryz.func65 rfl rfl rfl fun _=>ag<|ab<|aa (ae rfl) rfl<|ad<|ag<|ab<|aa (ac rfl) rfl<|aa (jz rfl rfl) rfl<|aa (ac rfl) rfl<|aj rfl rfl rfl (aA _) (fun g1=>wv (ac rfl)) rfl<|aj rfl rfl rfl (aA _) (fun g2=>wv (v_le (aI rfl g2) rfl)) rfl<|aa (bY rfl rfl) rfl<|aa (ae rfl) rfl<|ad<|an<|av (ay rfl (aD rfl)) ⟨((decide (a0 ≥ 20)) && (decide (a0 ≤ 23))),rfl,H⟩
def du (a0:Int):Bool:=(((decide (a0 ≥ 20)) && (decide (a0 ≤ 23))))
theorem pr_word_User (a0:Int) {K:Bool→Hp→Prop} {h:Hp} (k:K (du a0) h):sh_word_User a0 K h:=(fun k=>k) k
theorem rC (a0:Int) (h:Hp):Ct Tryz.prog n_word_User #[(.int .i64 a0)] h fun v h'=>∃ r,v = aH r∧(r = du a0∧h' = h):=sim_word_User a0 (pr_word_User a0 ⟨rfl,rfl⟩)
def sh_word_Rights (a0:Int) (K:(Int × Bool)→Hp→Prop):Hp→Prop:=br ((decide (a0 < 1)) || (decide (a0 > 3))) ( K (0,false)) ( K ((IntKind.i64.wrap a0),true))
set_option maxRecDepth 20000 in
theorem sim_word_Rights (a0:Int) {K:(Int × Bool)→Hp→Prop} {h:Hp} (H:sh_word_Rights a0 K h):Ct Tryz.prog n_word_Rights #[(.int .u64 a0)] h fun v h'=>∃ r,v = bS r∧K r h':=aB [(.int .u64 a0)] Tryz.func176 rfl rfl rfl fun _=>ag<|ab<|aa (ae rfl) rfl<|aa (ae rfl) rfl<|ad<|ag<|ag<|ab<|aa (ac rfl) rfl<|aa (cG rfl rfl) rfl<|aa (ac rfl) rfl<|aj rfl rfl rfl (aV _) (fun g1=>wv (ac rfl)) rfl<|aj rfl rfl rfl (aV _) (fun g2=>wv (pW (aI rfl g2) rfl)) rfl<|aa (dA rfl rfl) rfl<|ad<|aC rfl H (fun k3 H4=>ag<|ab<|aa (ae rfl) rfl<|aa (ae rfl) rfl<|ad<|an<|av (cc rfl (aD rfl) (aD rfl)) ⟨(0,false),rfl,H4⟩) (fun k3 H4=>au<|ag<|ab<|aa (ac rfl) rfl<|aa (dW ⟨_,Tryz.underlying25⟩ Tryz.underlying3 rfl) rfl<|aa (ae rfl) rfl<|aa (ae rfl) rfl<|ad<|an<|av (cc rfl (aD rfl) (aD rfl)) ⟨((IntKind.i64.wrap a0),true),rfl,H4⟩)
def kR (a0:Int):Int × Bool:=(bif ((decide (a0 < 1)) || (decide (a0 > 3))) then ((0,false)) else (((IntKind.i64.wrap a0),true)))
theorem pr_word_Rights (a0:Int) {K:(Int × Bool)→Hp→Prop} {h:Hp} (k:K (kR a0) h):sh_word_Rights a0 K h:=(jR (K:=K) (fun k=>k) (fun k=>k)) k
theorem ct_word_Rights (a0:Int) (h:Hp):Ct Tryz.prog n_word_Rights #[(.int .u64 a0)] h fun v h'=>∃ r,v = bS r∧(r = kR a0∧h' = h):=sim_word_Rights a0 (pr_word_Rights a0 ⟨rfl,rfl⟩)
def sh_table_is (a0:Int) (K:Bool→Hp→Prop):Hp→Prop:=K ((decide (a0 ≥ 0)) && (decide (a0 < 8)))
set_option maxRecDepth 20000 in
theorem sim_table_is (a0:Int) {K:Bool→Hp→Prop} {h:Hp} (H:sh_table_is a0 K h):Ct Tryz.prog n_table_is #[(.int .i64 a0)] h fun v h'=>∃ r,v = aH r∧K r h':=aB [(.int .i64 a0)] Tryz.func140 rfl rfl rfl fun _=>ag<|ab<|aa (ae rfl) rfl<|ad<|ag<|ab<|aa (ac rfl) rfl<|aa (jz rfl rfl) rfl<|aa (ac rfl) rfl<|aj rfl rfl rfl (aA _) (fun g1=>wv (ac rfl)) rfl<|aj rfl rfl rfl (aA _) (fun g2=>wv (cG (aI rfl g2) rfl)) rfl<|aa (bY rfl rfl) rfl<|aa (ae rfl) rfl<|ad<|an<|av (ay rfl (aD rfl)) ⟨((decide (a0 ≥ 0)) && (decide (a0 < 8))),rfl,H⟩
def cE (a0:Int):Bool:=(((decide (a0 ≥ 0)) && (decide (a0 < 8))))
theorem pr_table_is (a0:Int) {K:Bool→Hp→Prop} {h:Hp} (k:K (cE a0) h):sh_table_is a0 K h:=(fun k=>k) k
theorem tT (a0:Int) (h:Hp):Ct Tryz.prog n_table_is #[(.int .i64 a0)] h fun v h'=>∃ r,v = aH r∧(r = cE a0∧h' = h):=sim_table_is a0 (pr_table_is a0 ⟨rfl,rfl⟩)
def sh_pte_May (a0:Int) (K:Bool→Hp→Prop):Hp→Prop:=K ((decide (a0 ≥ 1)) && (decide (a0 ≤ 3)))
set_option maxRecDepth 20000 in
theorem sim_pte_May (a0:Int) {K:Bool→Hp→Prop} {h:Hp} (H:sh_pte_May a0 K h):Ct Tryz.prog n_pte_May #[(.int .i64 a0)] h fun v h'=>∃ r,v = aH r∧K r h':=aB [(.int .i64 a0)] Tryz.func150 rfl rfl rfl fun _=>ag<|ab<|aa (ae rfl) rfl<|ad<|ag<|ab<|aa (ac rfl) rfl<|aa (jz rfl rfl) rfl<|aa (ac rfl) rfl<|aj rfl rfl rfl (aA _) (fun g1=>wv (ac rfl)) rfl<|aj rfl rfl rfl (aA _) (fun g2=>wv (v_le (aI rfl g2) rfl)) rfl<|aa (bY rfl rfl) rfl<|aa (ae rfl) rfl<|ad<|an<|av (ay rfl (aD rfl)) ⟨((decide (a0 ≥ 1)) && (decide (a0 ≤ 3))),rfl,H⟩
def cH (a0:Int):Bool:=(((decide (a0 ≥ 1)) && (decide (a0 ≤ 3))))
theorem pr_pte_May (a0:Int) {K:Bool→Hp→Prop} {h:Hp} (k:K (cH a0) h):sh_pte_May a0 K h:=(fun k=>k) k
theorem pG (a0:Int) (h:Hp):Ct Tryz.prog n_pte_May #[(.int .i64 a0)] h fun v h'=>∃ r,v = aH r∧(r = cH a0∧h' = h):=sim_pte_May a0 (pr_pte_May a0 ⟨rfl,rfl⟩)
def sh_pte_Within (a0:Int) (a1:Int) (K:Bool→Hp→Prop):Hp→Prop:=K (((cH a0) && (cH a1)) && ((iandnot .i64 a0 a1) == 0))
set_option maxRecDepth 20000 in
theorem sim_pte_Within (a0:Int) (a1:Int) {K:Bool→Hp→Prop} {h:Hp} (H:sh_pte_Within a0 a1 K h):Ct Tryz.prog n_pte_Within #[(.int .i64 a0),(.int .i64 a1)] h fun v h'=>∃ r,v = aH r∧K r h':=aB [(.int .i64 a0),(.int .i64 a1)] Tryz.func101 rfl rfl rfl fun _=>ag<|ab<|aa (ae rfl) rfl<|ad<|ag<|ab<|aa (ac rfl) rfl<|ai (cN (vs:=[(.int .i64 a0)]) (bH (pG a0 _)) en_150 rfl rfl<|aa (ac rfl) rfl<|aj rfl rfl rfl (aA _) (fun g1=>wv (ac rfl)) rfl<|dc (vs:=[(.int .i64 a1)]) rfl rfl rfl (aA _) (fun g2=>(bH (pG a1 _))) en_150 (fun g2=>(aZ (aI rfl g2) bW)) rfl<|aa (bY rfl rfl) rfl<|aa (ac rfl) rfl<|aj rfl rfl rfl (aA _) (fun g3=>wv (ac rfl)) rfl<|aj rfl rfl rfl (aA _) (fun g4=>wv (ac rfl)) rfl<|aj rfl rfl rfl (aA _) (fun g5=>wv (v_iandnot (aI rfl g5) (aI rfl g5))) rfl<|aj rfl rfl rfl (aA _) (fun g6=>wv (bU (aI rfl g6) rfl)) rfl<|aa (bY rfl rfl) rfl<|aa (ae rfl) rfl<|ad<|an<|av (ay rfl (aD rfl)) ⟨(((cH a0) && (cH a1)) && ((iandnot .i64 a0 a1) == 0)),rfl,H⟩)
def bq (a0:Int) (a1:Int):Bool:=((((cH a0) && (cH a1)) && ((iandnot .i64 a0 a1) == 0)))
theorem pr_pte_Within (a0:Int) (a1:Int) {K:Bool→Hp→Prop} {h:Hp} (k:K (bq a0 a1) h):sh_pte_Within a0 a1 K h:=(fun k=>k) k
theorem de (a0:Int) (a1:Int) (h:Hp):Ct Tryz.prog n_pte_Within #[(.int .i64 a0),(.int .i64 a1)] h fun v h'=>∃ r,v = aH r∧(r = bq a0 a1∧h' = h):=sim_pte_Within a0 a1 (pr_pte_Within a0 a1 ⟨rfl,rfl⟩)
def sh_pte_Put (a0:aq) (K:(Int × Bool)→Hp→Prop):Hp→Prop:=br (aq.eqb a0 (⟨0,0,0⟩:aq)) ( K (0,true)) ( br (((((decide (a0.fFrame < 0)) || (decide (a0.fFrame ≥ 16))) || (decide (a0.fSlot < 0))) || (decide (a0.fSlot ≥ 8))) || (!(cH a0.fRights))) ( K (0,false)) ( K ((IntKind.u64.wrap (IntKind.i64.wrap ((IntKind.i64.wrap ((IntKind.i64.wrap (32768 + (IntKind.i64.wrap (256 * a0.fFrame)))) + (IntKind.i64.wrap (16 * a0.fSlot)))) + a0.fRights))),true)))
set_option maxRecDepth 20000 in
theorem sim_pte_Put (a0:aq) {K:(Int × Bool)→Hp→Prop} {h:Hp} (H:sh_pte_Put a0 K h):Ct Tryz.prog n_pte_Put #[(.agg (aq.C a0).toArray)] h fun v h'=>∃ r,v = bR r∧K r h':=aB [(.agg (aq.C a0).toArray)] Tryz.func139 rfl rfl rfl fun _=>ag<|ab<|ai (cQ (l:=(aq.C a0)) rfl rfl rfl fun b1=>aa (ae rfl) rfl<|aa (ae rfl) rfl<|ad<|ag<|ag<|ab<|bw (bL (k:=0) fC rfl rfl rfl rfl) rfl<|aa (bk (vs:=[]) rfl mC) rfl<|aa (v_eqA eqg_74 (eqr_74 9998 _ _) rfl rfl) rfl<|ad<|aC rfl H (fun k1 H2=>ag<|ab<|aa (ae rfl) rfl<|aa (ae rfl) rfl<|ad<|an<|av (cc rfl (aD rfl) (aD rfl)) ⟨(0,true),rfl,H2⟩) (fun k1 H2=>au<|ag<|ag<|ab<|aa (am qp rfl) rfl<|bw (bt (k:=0) bj rfl rfl rfl) rfl<|aa (cG rfl rfl) rfl<|aa (ac rfl) rfl<|aj rfl rfl rfl (aV _) (fun g3=>wv (am qp rfl)) rfl<|aj rfl rfl rfl (aV _) (fun g4=>cv (bt (k:=0) bj (aI rfl g4) rfl rfl)) rfl<|aj rfl rfl rfl (aV _) (fun g5=>wv (jz (aI rfl g5) rfl)) rfl<|aa (dA rfl rfl) rfl<|aa (ac rfl) rfl<|aj rfl rfl rfl (aV _) (fun g6=>wv (am sG rfl)) rfl<|aj rfl rfl rfl (aV _) (fun g7=>cv (bt (k:=0) bj (aI rfl g7) rfl rfl)) rfl<|aj rfl rfl rfl (aV _) (fun g8=>wv (cG (aI rfl g8) rfl)) rfl<|aa (dA rfl rfl) rfl<|aa (ac rfl) rfl<|aj rfl rfl rfl (aV _) (fun g9=>wv (am sG rfl)) rfl<|aj rfl rfl rfl (aV _) (fun g10=>cv (bt (k:=0) bj (aI rfl g10) rfl rfl)) rfl<|aj rfl rfl rfl (aV _) (fun g11=>wv (jz (aI rfl g11) rfl)) rfl<|aa (dA rfl rfl) rfl<|aa (ac rfl) rfl<|aj rfl rfl rfl (aV _) (fun g12=>wv (am eI rfl)) rfl<|aj rfl rfl rfl (aV _) (fun g13=>cv (bt (k:=0) bj (aI rfl g13) rfl rfl)) rfl<|dc (vs:=[(.int .i64 a0.fRights)]) rfl rfl rfl (aV _) (fun g14=>(bH (pG a0.fRights _))) en_150 (fun g14=>(aZ (aI rfl g14) bW)) rfl<|aj rfl rfl rfl (aV _) (fun g15=>wv (cx (aI rfl g15))) rfl<|aa (dA rfl rfl) rfl<|ad<|aC rfl H2 (fun k16 H17=>ag<|ab<|aa (ae rfl) rfl<|aa (ae rfl) rfl<|ad<|an<|av (cc rfl (aD rfl) (aD rfl)) ⟨(0,false),rfl,H17⟩) (fun k16 H17=>au<|ag<|ab<|aa (am qp rfl) rfl<|bw (bt (k:=0) bj rfl rfl rfl) rfl<|aa (v_mul rfl rfl) rfl<|aa (bE rfl rfl) rfl<|aa (am sG rfl) rfl<|bw (bt (k:=0) bj rfl rfl rfl) rfl<|aa (v_mul rfl rfl) rfl<|aa (bE rfl rfl) rfl<|aa (am eI rfl) rfl<|bw (bt (k:=0) bj rfl rfl rfl) rfl<|aa (bE rfl rfl) rfl<|aa (dW ⟨_,Tryz.underlying3⟩ Tryz.underlying25 rfl) rfl<|aa (ae rfl) rfl<|aa (ae rfl) rfl<|ad<|an<|av (cc rfl (aD rfl) (aD rfl)) ⟨((IntKind.u64.wrap (IntKind.i64.wrap ((IntKind.i64.wrap ((IntKind.i64.wrap (32768 + (IntKind.i64.wrap (256 * a0.fFrame)))) + (IntKind.i64.wrap (16 * a0.fSlot)))) + a0.fRights))),true),rfl,H17⟩)))
def gm (a0:aq):Int × Bool:=(bif (aq.eqb a0 (⟨0,0,0⟩:aq)) then ((0,true)) else (bif (((((decide (a0.fFrame < 0)) || (decide (a0.fFrame ≥ 16))) || (decide (a0.fSlot < 0))) || (decide (a0.fSlot ≥ 8))) || (!(cH a0.fRights))) then ((0,false)) else (((IntKind.u64.wrap (IntKind.i64.wrap ((IntKind.i64.wrap ((IntKind.i64.wrap (32768 + (IntKind.i64.wrap (256 * a0.fFrame)))) + (IntKind.i64.wrap (16 * a0.fSlot)))) + a0.fRights))),true))))
theorem pr_pte_Put (a0:aq) {K:(Int × Bool)→Hp→Prop} {h:Hp} (k:K (gm a0) h):sh_pte_Put a0 K h:=(jR (K:=K) (fun k=>k) (jR (K:=K) (fun k=>k) (fun k=>k))) k
theorem ct_pte_Put (a0:aq) (h:Hp):Ct Tryz.prog n_pte_Put #[(.agg (aq.C a0).toArray)] h fun v h'=>∃ r,v = bR r∧(r = gm a0∧h' = h):=sim_pte_Put a0 (pr_pte_Put a0 ⟨rfl,rfl⟩)
def sh_pte_Lets (a0:Int) (a1:Int) (K:Bool→Hp→Prop):Hp→Prop:=br (a1 == 20) ( K (bq 1 a0)) ( br (a1 == 21) ( K (bq 2 a0)) ( br (a1 == 22) ( K (bq 3 a0)) ( br (a1 == 23) ( K (bq 3 a0)) ( K (bq 0 a0)))))
set_option maxRecDepth 20000 in
theorem sim_pte_Lets (a0:Int) (a1:Int) {K:Bool→Hp→Prop} {h:Hp} (H:sh_pte_Lets a0 a1 K h):Ct Tryz.prog n_pte_Lets #[(.int .i64 a0),(.int .i64 a1)] h fun v h'=>∃ r,v = aH r∧K r h':=aB [(.int .i64 a0),(.int .i64 a1)] Tryz.func142 rfl rfl rfl fun _=>ag<|ab<|aa (ae rfl) rfl<|ad<|ag<|ab<|aa (ae rfl) rfl<|ad<|ag<|ag<|ab<|aa (ac rfl) rfl<|ad<|aE<|ag<|ab<|aa (bU rfl rfl) rfl<|aa (ae rfl) rfl<|ad<|aC rfl H (fun k1 H2=>ab<|aa (ae rfl) rfl<|ad<|ag<|ab<|aa (ac rfl) rfl<|aa (ac rfl) rfl<|ai (cN (vs:=[(.int .i64 1),(.int .i64 a0)]) (bH (de 1 a0 _)) me rfl rfl<|aa (ae rfl) rfl<|ad<|an<|av (ay rfl (aD rfl)) ⟨(bq 1 a0),rfl,H2⟩)) (fun k1 H2=>ag<|ab<|aa (bU rfl rfl) rfl<|aa (ae rfl) rfl<|ad<|aC rfl H2 (fun k3 H4=>ab<|aa (ae rfl) rfl<|ad<|ag<|ab<|aa (ac rfl) rfl<|aa (ac rfl) rfl<|ai (cN (vs:=[(.int .i64 2),(.int .i64 a0)]) (bH (de 2 a0 _)) me rfl rfl<|aa (ae rfl) rfl<|ad<|an<|av (ay rfl (aD rfl)) ⟨(bq 2 a0),rfl,H4⟩)) (fun k3 H4=>ag<|ag<|ab<|aa (bU rfl rfl) rfl<|aa (ae rfl) rfl<|ad<|aC rfl H4 (fun k5 H6=>au<|mc rfl k5<|ab<|aa (ae rfl) rfl<|ad<|ag<|ab<|aa (ac rfl) rfl<|aa (ac rfl) rfl<|ai (cN (vs:=[(.int .i64 3),(.int .i64 a0)]) (bH (de 3 a0 _)) me rfl rfl<|aa (ae rfl) rfl<|ad<|an<|av (ay rfl (aD rfl)) ⟨(bq 3 a0),rfl,H6⟩)) (fun k5 H6=>ab<|aa (bU rfl rfl) rfl<|aa (ae rfl) rfl<|ad<|aC rfl H6 (fun k7 H8=>ab<|aa (ae rfl) rfl<|ad<|ag<|ab<|aa (ac rfl) rfl<|aa (ac rfl) rfl<|ai (cN (vs:=[(.int .i64 3),(.int .i64 a0)]) (bH (de 3 a0 _)) me rfl rfl<|aa (ae rfl) rfl<|ad<|an<|av (ay rfl (aD rfl)) ⟨(bq 3 a0),rfl,H8⟩)) (fun k7 H8=>au<|ag<|ab<|aa (ac rfl) rfl<|aa (ac rfl) rfl<|ai (cN (vs:=[(.int .i64 0),(.int .i64 a0)]) (bH (de 0 a0 _)) me rfl rfl<|aa (ae rfl) rfl<|ad<|an<|av (ay rfl (aD rfl)) ⟨(bq 0 a0),rfl,H8⟩)))))
def dq (a0:Int) (a1:Int):Bool:=(bif (a1 == 20) then ((bq 1 a0)) else (bif (a1 == 21) then ((bq 2 a0)) else (bif (a1 == 22) then ((bq 3 a0)) else (bif (a1 == 23) then ((bq 3 a0)) else ((bq 0 a0))))))
theorem pr_pte_Lets (a0:Int) (a1:Int) {K:Bool→Hp→Prop} {h:Hp} (k:K (dq a0 a1) h):sh_pte_Lets a0 a1 K h:=(jR (K:=K) (fun k=>k) (jR (K:=K) (fun k=>k) (jR (K:=K) (fun k=>k) (jR (K:=K) (fun k=>k) (fun k=>k))))) k
theorem jE (a0:Int) (a1:Int) (h:Hp):Ct Tryz.prog n_pte_Lets #[(.int .i64 a0),(.int .i64 a1)] h fun v h'=>∃ r,v = aH r∧(r = dq a0 a1∧h' = h):=sim_pte_Lets a0 a1 (pr_pte_Lets a0 a1 ⟨rfl,rfl⟩)
def rc (a0:Int) (K:Bool→Hp→Prop):Hp→Prop:=K (a0 != a0)
set_option maxRecDepth 20000 in
theorem sim_cmp_isNaN_uint64 (a0:Int) {K:Bool→Hp→Prop} {h:Hp} (H:rc a0 K h):Ct Tryz.prog sC #[(.int .u64 a0)] h fun v h'=>∃ r,v = aH r∧K r h':=aB [(.int .u64 a0)] Tryz.func200 rfl rfl rfl fun _=>ag<|ab<|aa (ae rfl) rfl<|ad<|ag<|ab<|aa (ac rfl) rfl<|aa (ac rfl) rfl<|aa (pV rfl rfl) rfl<|aa (ae rfl) rfl<|ad<|an<|av (ay rfl (aD rfl)) ⟨(a0 != a0),rfl,H⟩
def dv (a0:Int):Bool:=((a0 != a0))
theorem pr_cmp_isNaN_uint64 (a0:Int) {K:Bool→Hp→Prop} {h:Hp} (k:K (dv a0) h):rc a0 K h:=(fun k=>k) k
theorem rf (a0:Int) (h:Hp):Ct Tryz.prog sC #[(.int .u64 a0)] h fun v h'=>∃ r,v = aH r∧(r = dv a0∧h' = h):=sim_cmp_isNaN_uint64 a0 (pr_cmp_isNaN_uint64 a0 ⟨rfl,rfl⟩)
def si (a0:Int) (a1:Int) (K:Bool→Hp→Prop):Hp→Prop:=K (((dv a0) && (!(dv a1))) || (decide (a0 < a1)))
set_option maxRecDepth 20000 in
theorem sim_cmp_Less_uint64 (a0:Int) (a1:Int) {K:Bool→Hp→Prop} {h:Hp} (H:si a0 a1 K h):Ct Tryz.prog tN #[(.int .u64 a0),(.int .u64 a1)] h fun v h'=>∃ r,v = aH r∧K r h':=aB [(.int .u64 a0),(.int .u64 a1)] Tryz.func178 rfl rfl rfl fun _=>ag<|ab<|aa (ae rfl) rfl<|ad<|ag<|ab<|aa (ac rfl) rfl<|ai (cN (vs:=[(.int .u64 a0)]) (bH (rf a0 _)) en_200 rfl rfl<|aa (ac rfl) rfl<|aj rfl rfl rfl (aA _) (fun g1=>wv (ac rfl)) rfl<|dc (vs:=[(.int .u64 a1)]) rfl rfl rfl (aA _) (fun g2=>(bH (rf a1 _))) en_200 (fun g2=>(aZ (aI rfl g2) bW)) rfl<|aj rfl rfl rfl (aA _) (fun g3=>wv (cx (aI rfl g3))) rfl<|aa (bY rfl rfl) rfl<|aa (ac rfl) rfl<|aj rfl rfl rfl (aV _) (fun g4=>wv (ac rfl)) rfl<|aj rfl rfl rfl (aV _) (fun g5=>wv (ac rfl)) rfl<|aj rfl rfl rfl (aV _) (fun g6=>wv (cG (aI rfl g6) (aI rfl g6))) rfl<|aa (dA rfl rfl) rfl<|aa (ae rfl) rfl<|ad<|an<|av (ay rfl (aD rfl)) ⟨(((dv a0) && (!(dv a1))) || (decide (a0 < a1))),rfl,H⟩)
def gZ (a0:Int) (a1:Int):Bool:=((((dv a0) && (!(dv a1))) || (decide (a0 < a1))))
theorem pr_cmp_Less_uint64 (a0:Int) (a1:Int) {K:Bool→Hp→Prop} {h:Hp} (k:K (gZ a0 a1) h):si a0 a1 K h:=(fun k=>k) k
theorem ct_cmp_Less_uint64 (a0:Int) (a1:Int) (h:Hp):Ct Tryz.prog tN #[(.int .u64 a0),(.int .u64 a1)] h fun v h'=>∃ r,v = aH r∧(r = gZ a0 a1∧h' = h):=sim_cmp_Less_uint64 a0 a1 (pr_cmp_Less_uint64 a0 a1 ⟨rfl,rfl⟩)
def nO (a0:Int) (K:Bool→Hp→Prop):Hp→Prop:=K (a0 != a0)
set_option maxRecDepth 20000 in
theorem uo (a0:Int) {K:Bool→Hp→Prop} {h:Hp} (H:nO a0 K h):Ct Tryz.prog oV #[(.int .u64 a0)] h fun v h'=>∃ r,v = aH r∧K r h':=aB [(.int .u64 a0)] Tryz.func179 rfl rfl rfl fun _=>ag<|ab<|aa (ae rfl) rfl<|ad<|ag<|ab<|aa (ac rfl) rfl<|aa (ac rfl) rfl<|aa (pV rfl rfl) rfl<|aa (ae rfl) rfl<|ad<|an<|av (ay rfl (aD rfl)) ⟨(a0 != a0),rfl,H⟩
def dH (a0:Int):Bool:=((a0 != a0))
theorem wa (a0:Int) {K:Bool→Hp→Prop} {h:Hp} (k:K (dH a0) h):nO a0 K h:=(fun k=>k) k
theorem oA (a0:Int) (h:Hp):Ct Tryz.prog oV #[(.int .u64 a0)] h fun v h'=>∃ r,v = aH r∧(r = dH a0∧h' = h):=uo a0 (wa a0 ⟨rfl,rfl⟩)
def sh_plain_fails (a0:Int) (K:(ak × Bool)→Hp→Prop):Hp→Prop:=K ((⟨a0,0⟩:ak),true)
set_option maxRecDepth 20000 in
theorem sim_plain_fails (a0:Int) {K:(ak × Bool)→Hp→Prop} {h:Hp} (H:sh_plain_fails a0 K h):Ct Tryz.prog n_plain_fails #[(.int .i64 a0)] h fun v h'=>∃ r,v = bv r∧K r h':=aB [(.int .i64 a0)] Tryz.func108 rfl rfl rfl fun _=>ag<|ab<|ai (aX (l:=(ak.C (⟨0,0⟩:ak))) df rfl rfl fun b2=>aa (ae rfl) rfl<|ad<|ag<|ab<|aa (ac rfl) rfl<|aa (bk rfl (iY a0)) rfl<|ai (aY (k:=0) (vs:=(ak.C (⟨a0,0⟩:ak))) bV rfl rfl rfl rfl rfl rfl rfl<|aa (ae rfl) rfl<|ad<|an<|av (cc rfl (bK (k:=0) rfl cF rfl rfl) (aD rfl)) ⟨((⟨a0,0⟩:ak),true),rfl,H⟩))
def aW (a0:Int):ak × Bool:=(((⟨a0,0⟩:ak),true))
theorem pr_plain_fails (a0:Int) {K:(ak × Bool)→Hp→Prop} {h:Hp} (k:K (aW a0) h):sh_plain_fails a0 K h:=(fun k=>k) k
theorem dL (a0:Int) (h:Hp):Ct Tryz.prog n_plain_fails #[(.int .i64 a0)] h fun v h'=>∃ r,v = bv r∧(r = aW a0∧h' = h):=sim_plain_fails a0 (pr_plain_fails a0 ⟨rfl,rfl⟩)
def sh_pred_Holds (a0:Int) (a1:Int) (a2:Int) (K:Bool→Hp→Prop):Hp→Prop:=br (a0 == 1) ( K (a1 == a2)) ( br (a0 == 2) ( K (a1 != a2)) ( br (a0 == 3) ( K (decide (a1 < a2))) ( br (a0 == 4) ( K (decide (a1 > a2))) ( K false))))
set_option maxRecDepth 20000 in
theorem sim_pred_Holds (a0:Int) (a1:Int) (a2:Int) {K:Bool→Hp→Prop} {h:Hp} (H:sh_pred_Holds a0 a1 a2 K h):Ct Tryz.prog n_pred_Holds #[(.int .i64 a0),(.int .u64 a1),(.int .u64 a2)] h fun v h'=>∃ r,v = aH r∧K r h':=aB [(.int .i64 a0),(.int .u64 a1),(.int .u64 a2)] Tryz.func132 rfl rfl rfl fun _=>ag<|ab<|aa (ae rfl) rfl<|ad<|ag<|ag<|ab<|aa (ac rfl) rfl<|ad<|aE<|ag<|ab<|aa (bU rfl rfl) rfl<|aa (ae rfl) rfl<|ad<|aC rfl H (fun k1 H2=>ag<|ab<|aa (ac rfl) rfl<|aa (ac rfl) rfl<|aa (bU rfl rfl) rfl<|aa (ae rfl) rfl<|ad<|an<|av (ay rfl (aD rfl)) ⟨(a1 == a2),rfl,H2⟩) (fun k1 H2=>ag<|ab<|aa (bU rfl rfl) rfl<|aa (ae rfl) rfl<|ad<|aC rfl H2 (fun k3 H4=>ag<|ab<|aa (ac rfl) rfl<|aa (ac rfl) rfl<|aa (pV rfl rfl) rfl<|aa (ae rfl) rfl<|ad<|an<|av (ay rfl (aD rfl)) ⟨(a1 != a2),rfl,H4⟩) (fun k3 H4=>ag<|ab<|aa (bU rfl rfl) rfl<|aa (ae rfl) rfl<|ad<|aC rfl H4 (fun k5 H6=>ag<|ab<|aa (ac rfl) rfl<|aa (ac rfl) rfl<|aa (cG rfl rfl) rfl<|aa (ae rfl) rfl<|ad<|an<|av (ay rfl (aD rfl)) ⟨(decide (a1 < a2)),rfl,H6⟩) (fun k5 H6=>ag<|ab<|aa (bU rfl rfl) rfl<|aa (ae rfl) rfl<|ad<|aC rfl H6 (fun k7 H8=>ag<|ab<|aa (ac rfl) rfl<|aa (ac rfl) rfl<|aa (pW rfl rfl) rfl<|aa (ae rfl) rfl<|ad<|an<|av (ay rfl (aD rfl)) ⟨(decide (a1 > a2)),rfl,H8⟩) (fun k7 H8=>au<|ag<|ab<|aa (ae rfl) rfl<|ad<|an<|av (ay rfl (aD rfl)) ⟨false,rfl,H8⟩))))
def mu (a0:Int) (a1:Int) (a2:Int):Bool:=(bif (a0 == 1) then ((a1 == a2)) else (bif (a0 == 2) then ((a1 != a2)) else (bif (a0 == 3) then ((decide (a1 < a2))) else (bif (a0 == 4) then ((decide (a1 > a2))) else (false)))))
theorem pr_pred_Holds (a0:Int) (a1:Int) (a2:Int) {K:Bool→Hp→Prop} {h:Hp} (k:K (mu a0 a1 a2) h):sh_pred_Holds a0 a1 a2 K h:=(jR (K:=K) (fun k=>k) (jR (K:=K) (fun k=>k) (jR (K:=K) (fun k=>k) (jR (K:=K) (fun k=>k) (fun k=>k))))) k
theorem uj (a0:Int) (a1:Int) (a2:Int) (h:Hp):Ct Tryz.prog n_pred_Holds #[(.int .i64 a0),(.int .u64 a1),(.int .u64 a2)] h fun v h'=>∃ r,v = aH r∧(r = mu a0 a1 a2∧h' = h):=sim_pred_Holds a0 a1 a2 (pr_pred_Holds a0 a1 a2 ⟨rfl,rfl⟩)
def sh_judge_user (a0:aJ) (K:Bool→Hp→Prop):Hp→Prop:=K (du ((aL a0.fCall).1))
set_option maxRecDepth 20000 in
theorem sim_judge_user (a0:aJ) {K:Bool→Hp→Prop} {h:Hp} (H:sh_judge_user a0 K h):Ct Tryz.prog n_judge_user #[(.agg (aJ.C a0).toArray)] h fun v h'=>∃ r,v = aH r∧K r h':=aB [(.agg (aJ.C a0).toArray)] Tryz.func120 rfl rfl rfl fun _=>ag<|ab<|ai (cQ (l:=(aJ.C a0)) rfl rfl rfl fun b1=>aa (ae rfl) rfl<|ad<|ag<|ab<|aa (am mz rfl) rfl<|bw (bL (k:=0) ft rfl rfl rfl rfl) rfl<|ai (cN (vs:=[(.agg (ao.C a0.fCall).toArray)]) (bH (jP a0.fCall _)) en_64 rfl rfl<|aa (ac rfl) rfl<|aa (ap rfl rfl) rfl<|aa (ap rfl rfl) rfl<|aa (ae rfl) rfl<|aa (ae rfl) rfl<|ad<|ag<|ab<|aa (ac rfl) rfl<|ai (cN (vs:=[(.int .i64 ((aL a0.fCall).1))]) (bH (rC ((aL a0.fCall).1) _)) en_65 rfl rfl<|aa (ae rfl) rfl<|ad<|an<|av (ay rfl (aD rfl)) ⟨(du ((aL a0.fCall).1)),rfl,H⟩)))
def pK (a0:aJ):Bool:=((du ((aL a0.fCall).1)))
theorem pr_judge_user (a0:aJ) {K:Bool→Hp→Prop} {h:Hp} (k:K (pK a0) h):sh_judge_user a0 K h:=(fun k=>k) k
theorem ct_judge_user (a0:aJ) (h:Hp):Ct Tryz.prog n_judge_user #[(.agg (aJ.C a0).toArray)] h fun v h'=>∃ r,v = aH r∧(r = pK a0∧h' = h):=sim_judge_user a0 (pr_judge_user a0 ⟨rfl,rfl⟩)
end Go.Proofs.YtniiiakkdoiaiaaGreatDoor
namespace Go.Proofs.YtniiiakkdoiaiaaGreatDoor
open Go Mb
set_option linter.unusedVariables false
def sh_pool_New (a0:Int) (K:Ptr→Hp→Prop):Hp→Prop:=br ((decide (a0 < 1)) || (decide (a0 > 16))) ( K none) ( hpv Tryz.prog (Instr.makeSlice dK (.int .i64 a0) (.int .i64 a0)) cD fun (v10:Sl)=>nw pX (nB.C (⟨v10⟩:nB)) fun b12=>K (some (b12,0)))
set_option maxRecDepth 20000 in
theorem sim_pool_New (a0:Int) {K:Ptr→Hp→Prop} {h:Hp} (H:sh_pool_New a0 K h):Ct Tryz.prog wg #[(.int .i64 a0)] h fun v h'=>∃ r,v = rF r∧K r h':=aB [(.int .i64 a0)] Tryz.func91 rfl rfl rfl fun _=>ag<|ab<|aa (ae rfl) rfl<|ad<|ag<|ag<|ab<|aa (ac rfl) rfl<|aa (cG rfl rfl) rfl<|aa (ac rfl) rfl<|aj rfl rfl rfl (aV _) (fun g1=>wv (ac rfl)) rfl<|aj rfl rfl rfl (aV _) (fun g2=>wv (pW (aI rfl g2) rfl)) rfl<|aa (dA rfl rfl) rfl<|ad<|aC rfl H (fun k3 H4=>ag<|ab<|aa (ae rfl) rfl<|ad<|an<|av (ay rfl (aD rfl)) ⟨none,rfl,H4⟩) (fun k3 H4=>au<|ag<|ab<|aa (ac rfl) rfl<|ai (bc H4 (jA rfl rfl) rfl fun v10 _ H5=>aa (bk rfl (build_183_0 v10)) rfl<|ai (gV rfl rfl rfl H5 fun b12 _ H6=>aa (ae rfl) rfl<|ad<|an<|av (ay rfl (aD rfl)) ⟨(some (b12,0)),rfl,H6⟩)))
def te (a0:Ptr) (K:(Int × Bool)→Hp→Prop):Hp→Prop:=br a0.isNone ( K (0,false)) ( nn a0 fun q8=>ld (q8.1,q8.2 + 0) cS fun x10=>cl Tryz.prog jL [(sv x10),(.int .i64 0)] dV fun r11=>br (decide (r11 < 0)) ( K (0,false)) ( ld (q8.1,q8.2 + 0) cS fun x17=>ix x17 r11 fun q19=>st (q19.1,q19.2 + Int.toNat r11 * 1) [.int .i64 1]<|K (r11,true)))
set_option maxRecDepth 20000 in
theorem sim_pool_Pool_Take (a0:Ptr) {K:(Int × Bool)→Hp→Prop} {h:Hp} (H:te a0 K h):Ct Tryz.prog jm #[(pv a0)] h fun v h'=>∃ r,v = bS r∧K r h':=aB [(pv a0)] Tryz.func154 rfl rfl rfl fun _=>ag<|ab<|aa (ae rfl) rfl<|aa (ae rfl) rfl<|ad<|ag<|ag<|ab<|aa (ac rfl) rfl<|aa (cw Tryz.underlying126 rfl) rfl<|ad<|aC rfl H (fun k1 H2=>ag<|ab<|aa (ae rfl) rfl<|aa (ae rfl) rfl<|ad<|an<|av (cc rfl (aD rfl) (aD rfl)) ⟨(0,false),rfl,H2⟩) (fun k1 H2=>au<|ag<|ab<|aa (ac rfl) rfl<|bM H2 fun q8 e3 H4=>aa (aS (aU rfl (aw e3))) rfl<|aa (am ny rfl) rfl<|ai (bf H4 sc_41 rfl (fun _=>rfl) rfl fun x10 H5=>ai (az H5 en_182 rfl rfl fun r11 _ H6=>aa (ae rfl) rfl<|ad<|ag<|ag<|ab<|aa (ac rfl) rfl<|aa (cG rfl rfl) rfl<|ad<|aC rfl H6 (fun k7 H8=>ag<|ab<|aa (ae rfl) rfl<|aa (ae rfl) rfl<|ad<|an<|av (cc rfl (aD rfl) (aD rfl)) ⟨(0,false),rfl,H8⟩) (fun k7 H8=>au<|ag<|ab<|aa (ac (aU rfl (aw e3))) rfl<|aa (aS rfl) rfl<|aa (am ny rfl) rfl<|ai (bf H8 sc_41 rfl (fun _=>rfl) rfl fun x17 H9=>aa (ac rfl) rfl<|ct H9 fun q19 e10 h11 H12=>aa (bG io (aU rfl (bm e10)) rfl h11) rfl<|ai (dC qo rfl rfl rfl rfl rfl H12 fun _ H13=>ad<|ag<|ab<|aa (ac rfl) rfl<|aa (ae rfl) rfl<|aa (ae rfl) rfl<|ad<|an<|av (cc rfl (aD rfl) (aD rfl)) ⟨(r11,true),rfl,H13⟩))))))
def tf (a0:Ptr) (a1:Int) (K:Int→Hp→Prop):Hp→Prop:=br (!(a0.isNone || (decide (a1 < 0)))) ( nn a0 fun q14=>ld (q14.1,q14.2 + 0) cS fun x16=>br (decide (a1 ≥ (x16.len:Int))) ( K 0) ( ld (q14.1,q14.2 + 0) cS fun x23=>ix x23 a1 fun q25=>ld (q25.1,q25.2 + Int.toNat a1 * 1) (cI .i64) fun x26=>K x26)) ( K 0)
set_option maxRecDepth 20000 in
theorem sim_pool_Pool_Refs (a0:Ptr) (a1:Int) {K:Int→Hp→Prop} {h:Hp} (H:tf a0 a1 K h):Ct Tryz.prog jn #[(pv a0),(.int .i64 a1)] h fun v h'=>∃ r,v = dV r∧K r h':=aB [(pv a0),(.int .i64 a1)] Tryz.func183 rfl rfl rfl fun _=>ag<|ab<|aa (ae rfl) rfl<|ad<|ag<|ag<|ab<|aa (ac rfl) rfl<|aa (cw Tryz.underlying126 rfl) rfl<|aa (ac rfl) rfl<|aj rfl rfl rfl (aV _) (fun g1=>wv (ac rfl)) rfl<|aj rfl rfl rfl (aV _) (fun g2=>wv (cG (aI rfl g2) rfl)) rfl<|aa (dA rfl rfl) rfl<|aa (ac rfl) rfl<|aj rfl rfl rfl (aV _) (fun g3=>wv (ac rfl)) rfl<|aj rfl rfl rfl (aV _) (fun g4=>wv (ac rfl)) rfl<|bX H (fun k6 H7=>bM H7 fun q14 e8 H9=>aK rfl rfl rfl (congrArg Value.bool (cn k6)) (aO (wv (aS (aU (aI rfl k6) (aw e8)))) rfl<|aK rfl rfl rfl (congrArg Value.bool (cn k6)) (aO (wv (am ny rfl)) rfl<|aK rfl rfl rfl (congrArg Value.bool (cn k6)) (bf H9 sc_41 rfl (fun _=>rfl) rfl fun x16 H10=>aK rfl rfl rfl (congrArg Value.bool (cn k6)) (aO (wv (dB rfl Tryz.underlying41 rfl)) rfl<|aK rfl rfl rfl (congrArg Value.bool (cn k6)) (aO (wv (jz (aI rfl k6) rfl)) rfl<|aa (ax rfl (cn k6) rfl) rfl<|ad<|aC rfl H10 (fun k11 H12=>ag<|ab<|aa (ae rfl) rfl<|ad<|an<|av (ay rfl (aD rfl)) ⟨0,rfl,H12⟩) (fun k11 H12=>au<|ag<|ab<|aa (ac (aU rfl (aw e8))) rfl<|aa (aS rfl) rfl<|aa (am ny rfl) rfl<|ai (bf H12 sc_41 rfl (fun _=>rfl) rfl fun x23 H13=>aa (ac rfl) rfl<|ct H13 fun q25 e14 h15 H16=>aa (bG io (aU rfl (bm e14)) rfl h15) rfl<|ai (bf H16 bj rfl (fun _=>rfl) rfl fun x26 H17=>aa (ae rfl) rfl<|ad<|an<|av (ay rfl (aD rfl)) ⟨x26,rfl,H17⟩))))))))) (fun k6 H7=>al rfl rfl rfl (ci (bP k6)) rfl<|al rfl rfl rfl (ci (bP k6)) rfl<|al rfl rfl rfl (ci (bP k6)) rfl<|al rfl rfl rfl (ci (bP k6)) rfl<|al rfl rfl rfl (ci (bP k6)) rfl<|aa (bd rfl (bP k6) rfl) rfl<|ad<|mc rfl rfl<|ag<|ab<|aa (ae rfl) rfl<|ad<|an<|av (ay rfl (aD rfl)) ⟨0,rfl,H7⟩)
def tg (a0:Ptr) (a1:Int) (K:Bool→Hp→Prop):Hp→Prop:=cl Tryz.prog jn [(pv a0),(.int .i64 a1)] dV fun r8=>br ((r8 == 0) || (decide (r8 ≥ 7))) ( K false) ( nn a0 fun q16=>ld (q16.1,q16.2 + 0) cS fun x18=>ix x18 a1 fun q20=>ld (q20.1,q20.2 + Int.toNat a1 * 1) (cI .i64) fun x21=>st (q20.1,q20.2 + Int.toNat a1 * 1) [.int .i64 (IntKind.i64.wrap (x21 + 1))]<|K true)
set_option maxRecDepth 20000 in
theorem sim_pool_Pool_Hold (a0:Ptr) (a1:Int) {K:Bool→Hp→Prop} {h:Hp} (H:tg a0 a1 K h):Ct Tryz.prog lz #[(pv a0),(.int .i64 a1)] h fun v h'=>∃ r,v = aH r∧K r h':=aB [(pv a0),(.int .i64 a1)] Tryz.func156 rfl rfl rfl fun _=>ag<|ab<|aa (ae rfl) rfl<|ad<|ag<|ag<|ab<|aa (ac rfl) rfl<|aa (ac rfl) rfl<|ai (az H en_183 rfl rfl fun r8 _ H1=>aa (ae rfl) rfl<|ad<|ag<|ab<|aa (ac rfl) rfl<|aa (bU rfl rfl) rfl<|aa (ac rfl) rfl<|aj rfl rfl rfl (aV _) (fun g2=>wv (ac rfl)) rfl<|aj rfl rfl rfl (aV _) (fun g3=>wv (jz (aI rfl g3) rfl)) rfl<|aa (dA rfl rfl) rfl<|ad<|aC rfl H1 (fun k4 H5=>ag<|ab<|aa (ae rfl) rfl<|ad<|an<|av (ay rfl (aD rfl)) ⟨false,rfl,H5⟩) (fun k4 H5=>au<|ag<|ab<|aa (ac rfl) rfl<|bM H5 fun q16 e6 H7=>aa (aS (aU rfl (aw e6))) rfl<|aa (am ny rfl) rfl<|ai (bf H7 sc_41 rfl (fun _=>rfl) rfl fun x18 H8=>aa (ac rfl) rfl<|ct H8 fun q20 e9 h10 H11=>aa (bG io (aU rfl (bm e9)) rfl h10) rfl<|ai (bf H11 bj rfl (fun _=>rfl) rfl fun x21 H12=>aa (bE rfl rfl) rfl<|aa (bG io (aU rfl (bm e9)) rfl h10) rfl<|ai (dC qo rfl rfl rfl rfl rfl H12 fun _ H13=>ad<|ag<|ab<|aa (ae rfl) rfl<|ad<|an<|av (ay rfl (aD rfl)) ⟨true,rfl,H13⟩)))))
def uy (a0:Ptr) (a1:Int) (K:(Int × Bool)→Hp→Prop):Hp→Prop:=cl Tryz.prog jn [(pv a0),(.int .i64 a1)] dV fun r8=>br (r8 == 0) ( K (0,false)) ( nn a0 fun q11=>ld (q11.1,q11.2 + 0) cS fun x13=>ix x13 a1 fun q15=>ld (q15.1,q15.2 + Int.toNat a1 * 1) (cI .i64) fun x16=>st (q15.1,q15.2 + Int.toNat a1 * 1) [.int .i64 (IntKind.i64.wrap (x16 - 1))]<|ld (q11.1,q11.2 + 0) cS fun x22=>ix x22 a1 fun q24=>ld (q24.1,q24.2 + Int.toNat a1 * 1) (cI .i64) fun x25=>K (x25,true))
set_option maxRecDepth 20000 in
theorem sim_pool_Pool_Let (a0:Ptr) (a1:Int) {K:(Int × Bool)→Hp→Prop} {h:Hp} (H:uy a0 a1 K h):Ct Tryz.prog mH #[(pv a0),(.int .i64 a1)] h fun v h'=>∃ r,v = bS r∧K r h':=aB [(pv a0),(.int .i64 a1)] Tryz.func160 rfl rfl rfl fun _=>ag<|ab<|aa (ae rfl) rfl<|aa (ae rfl) rfl<|ad<|ag<|ag<|ab<|aa (ac rfl) rfl<|aa (ac rfl) rfl<|ai (az H en_183 rfl rfl fun r8 _ H1=>aa (bU rfl rfl) rfl<|ad<|aC rfl H1 (fun k2 H3=>ag<|ab<|aa (ae rfl) rfl<|aa (ae rfl) rfl<|ad<|an<|av (cc rfl (aD rfl) (aD rfl)) ⟨(0,false),rfl,H3⟩) (fun k2 H3=>au<|ag<|ab<|aa (ac rfl) rfl<|bM H3 fun q11 e4 H5=>aa (aS (aU rfl (aw e4))) rfl<|aa (am ny rfl) rfl<|ai (bf H5 sc_41 rfl (fun _=>rfl) rfl fun x13 H6=>aa (ac rfl) rfl<|ct H6 fun q15 e7 h8 H9=>aa (bG io (aU rfl (bm e7)) rfl h8) rfl<|ai (bf H9 bj rfl (fun _=>rfl) rfl fun x16 H10=>aa (sZ rfl rfl) rfl<|aa (bG io (aU rfl (bm e7)) rfl h8) rfl<|ai (dC qo rfl rfl rfl rfl rfl H10 fun _ H11=>ad<|ag<|ab<|aa (ac (aU rfl (aw e4))) rfl<|aa (aS rfl) rfl<|aa (am ny rfl) rfl<|ai (bf H11 sc_41 rfl (fun _=>rfl) rfl fun x22 H12=>aa (ac rfl) rfl<|ct H12 fun q24 e13 h14 H15=>aa (bG io (aU rfl (bm e13)) rfl h14) rfl<|ai (bf H15 bj rfl (fun _=>rfl) rfl fun x25 H16=>aa (ae rfl) rfl<|aa (ae rfl) rfl<|ad<|an<|av (cc rfl (aD rfl) (aD rfl)) ⟨(x25,true),rfl,H16⟩)))))))
def nX (K:Sl→Hp→Prop) (x11:Sl) (Rec7:(Sl × Int)→Hp→Prop) (s6:Sl × Int):Hp→Prop:=br (decide (s6.2 < (x11.len:Int))) ( ix x11 s6.2 fun q16=>ld (q16.1,q16.2 + Int.toNat s6.2 * 1) (cI .i64) fun x17=>br (x17 == 0) ( hpv Tryz.prog (Instr.buildSlice dK 1 #[(0,(.int .i64 s6.2))]) cD fun (v22:Sl)=>hpv Tryz.prog (Builtin.append_ #[dK,dK] dK #[(sv s6.1),(sv v22)]) cD fun (v23:Sl)=>Rec7 (v23,(IntKind.i64.wrap (s6.2 + 1)))) ( Rec7 (s6.1,(IntKind.i64.wrap (s6.2 + 1))))) ( K s6.1)
def th (a0:Ptr) (K:Sl→Hp→Prop):Hp→Prop:=br a0.isNone ( K (⟨none,0,0⟩:Sl)) ( nn a0 fun q9=>ld (q9.1,q9.2 + 0) cS fun x11=>Lp (nX K x11) ((⟨none,0,0⟩:Sl),0))
set_option maxRecDepth 20000 in
theorem sim_pool_Pool_Free (a0:Ptr) {K:Sl→Hp→Prop} {h:Hp} (H:th a0 K h):Ct Tryz.prog lA #[(pv a0)] h fun v h'=>∃ r,v = cD r∧K r h':=aB [(pv a0)] Tryz.func125 rfl rfl rfl fun _=>ag<|ab<|aa (ae rfl) rfl<|ad<|ag<|ag<|ab<|aa (ac rfl) rfl<|aa (cw Tryz.underlying126 rfl) rfl<|ad<|aC rfl H (fun k1 H2=>ag<|ab<|aa (ae rfl) rfl<|ad<|an<|av (ay rfl (aD rfl)) ⟨(⟨none,0,0⟩:Sl),rfl,H2⟩) (fun k1 H2=>au<|ag<|ab<|aa (ae rfl) rfl<|ad<|ag<|ag<|ab<|aa (ac rfl) rfl<|bM H2 fun q9 e3 H4=>aa (aS (aU rfl (aw e3))) rfl<|aa (am ny rfl) rfl<|ai (bf H4 sc_41 rfl (fun _=>rfl) rfl fun x11 H5=>aa (dB rfl Tryz.underlying41 rfl) rfl<|aa (ac rfl) rfl<|ad<|aE<|bO (step:=nX K x11) (fun s6=>[(3,(sv s6.1)),(11,(sv x11)),(12,(.int .i64 (x11.len:Int))),(13,(.int .i64 s6.2))]) (fun s6=>[]) H5 (.cons rfl (.cons rfl (.cons rfl (.cons rfl (.nil _))))) .slnil (fun Rec7 s6 _ H8=>ag<|ab<|aa (cG rfl rfl) rfl<|ad<|ag<|aC rfl H8 (fun k9 H10=>au<|ag<|aE<|ag<|ab<|aa (ac rfl) rfl<|ct H10 fun q16 e11 h12 H13=>aa (bG io (aU rfl (bm e11)) rfl h12) rfl<|ai (bf H13 bj rfl (fun _=>rfl) rfl fun x17 H14=>aa (ae rfl) rfl<|aa (ae rfl) rfl<|ad<|ag<|ab<|aa (ac rfl) rfl<|aa (bU rfl rfl) rfl<|ad<|aC rfl H14 (fun k15 H16=>ab<|aa (ac rfl) rfl<|aa (ac rfl) rfl<|ai (bc H16 (bD (vs:=[(.int .i64 s6.2)]) rfl) rfl fun v22 _ H17=>ai (bc H17 (dw rfl rfl) rfl fun v23 _ H18=>aa (ae rfl) rfl<|ad<|ab<|aa (bE rfl rfl) rfl<|aa (ac rfl) rfl<|ad<|cT (v23,(IntKind.i64.wrap (s6.2 + 1))) H18 (.cons rfl (.cons rfl (.cons rfl (.cons rfl (.nil _))))) .slnil))) (fun k15 H16=>au<|ab<|aa (bE rfl rfl) rfl<|aa (ac rfl) rfl<|ad<|cT (s6.1,(IntKind.i64.wrap (s6.2 + 1))) H16 (.cons rfl (.cons rfl (.cons rfl (.cons rfl (.nil _))))) .slnil))) (fun k9 H10=>bz<|ag<|ab<|aa (ac rfl) rfl<|aa (ae rfl) rfl<|ad<|an<|av (ay rfl (aD rfl)) ⟨s6.1,rfl,H10⟩))))
def nY (K:Int→Hp→Prop) (r7:Sl) (Rec3:(Int × Int)→Hp→Prop) (s2:Int × Int):Hp→Prop:=br (decide (s2.2 < (r7.len:Int))) ( ix r7 s2.2 fun q11=>ld (q11.1,q11.2 + Int.toNat s2.2 * 1) (cI .i64) fun x12=>gd (0 ≤ x12)<|Rec3 ((ior .u64 s2.1 (IntKind.u64.wrap (1 * 2 ^ (min (Int.toNat x12) (IntKind.bits .u64))))),(IntKind.i64.wrap (s2.2 + 1)))) ( K s2.1)
def ti (a0:Ptr) (K:Int→Hp→Prop):Hp→Prop:=cl Tryz.prog lA [(pv a0)] cD fun r7=>Lp (nY K r7) (0,0)
set_option maxRecDepth 20000 in
theorem sim_pool_Pool_Bits (a0:Ptr) {K:Int→Hp→Prop} {h:Hp} (H:ti a0 K h):Ct Tryz.prog pu #[(pv a0)] h fun v h'=>∃ r,v = gC r∧K r h':=aB [(pv a0)] Tryz.func198 rfl rfl rfl fun _=>ag<|ab<|aa (ae rfl) rfl<|ad<|ag<|ab<|aa (ae rfl) rfl<|ad<|ag<|ag<|ab<|aa (ac rfl) rfl<|ai (az H en_125 rfl rfl fun r7 _ H1=>aa (dB rfl Tryz.underlying41 rfl) rfl<|aa (ac rfl) rfl<|ad<|aE<|bO (step:=nY K r7) (fun s2=>[(3,(.int .u64 s2.1)),(7,(sv r7)),(8,(.int .i64 (r7.len:Int))),(9,(.int .i64 s2.2))]) (fun s2=>[]) H1 (.cons rfl (.cons rfl (.cons rfl (.cons rfl (.nil _))))) .slnil (fun Rec3 s2 _ H4=>ag<|ab<|aa (cG rfl rfl) rfl<|ad<|ag<|aC rfl H4 (fun k5 H6=>au<|ag<|aE<|ag<|ab<|ct H6 fun q11 e7 h8 H9=>aa (bG io (aU rfl (bm e7)) rfl h8) rfl<|ai (bf H9 bj rfl (fun _=>rfl) rfl fun x12 H10=>aa (ae rfl) rfl<|ad<|ab<|aa (ac rfl) rfl<|aa (ac rfl) rfl<|ir H10 fun z11 H12=>aa (v_shl rfl rfl z11) rfl<|aa (v_ior rfl rfl) rfl<|aa (ae rfl) rfl<|ad<|ab<|aa (bE rfl rfl) rfl<|aa (ac rfl) rfl<|ad<|cT ((ior .u64 s2.1 (IntKind.u64.wrap (1 * 2 ^ (min (Int.toNat x12) (IntKind.bits .u64))))),(IntKind.i64.wrap (s2.2 + 1))) H12 (.cons rfl (.cons rfl (.cons rfl (.cons rfl (.nil _))))) .slnil)) (fun k5 H6=>bz<|ag<|ab<|aa (ac rfl) rfl<|aa (ae rfl) rfl<|ad<|an<|av (ay rfl (aD rfl)) ⟨s2.1,rfl,H6⟩)))
end Go.Proofs.YtniiiakkdoiaiaaGreatDoor
namespace Go.Proofs.YtniiiakkdoiaiaaGreatDoor
open Go Mb
set_option linter.unusedVariables false
def eM (a0:Sl) (a1:Int) (a3:Value) (Rec2:Int→Hp→Prop) (s1:Int) (Rec7:Int→Hp→Prop) (s6:Int):Hp→Prop:=br (decide (s6 > a1)) ( ix a0 s6 fun q25=>ix a0 (IntKind.i64.wrap (s6 - 1)) fun q30=>ld (q25.1,q25.2 + Int.toNat s6 * 1) (cI .i64) fun x26=>ld (q30.1,q30.2 + Int.toNat (IntKind.i64.wrap (s6 - 1)) * 1) (cI .i64) fun x31=>clv Tryz.prog a3 [(.int .i64 x26),(.int .i64 x31)] dV fun r32=>br (decide (r32 < 0)) ( ld (q30.1,q30.2 + Int.toNat (IntKind.i64.wrap (s6 - 1)) * 1) (cI .i64) fun x46=>ld (q25.1,q25.2 + Int.toNat s6 * 1) (cI .i64) fun x50=>st (q25.1,q25.2 + Int.toNat s6 * 1) [.int .i64 x46]<|st (q30.1,q30.2 + Int.toNat (IntKind.i64.wrap (s6 - 1)) * 1) [.int .i64 x50]<|Rec7 (IntKind.i64.wrap (s6 - 1))) ( Rec2 (IntKind.i64.wrap (s1 + 1)))) ( Rec2 (IntKind.i64.wrap (s1 + 1)))
def dG (a0:Sl) (a1:Int) (a2:Int) (a3:Value) (K:Unit→Hp→Prop) (Rec2:Int→Hp→Prop) (s1:Int):Hp→Prop:=br (decide (s1 < a2)) ( Lp (eM a0 a1 a3 Rec2 s1) s1) ( K ())
def gX (a0:Sl) (a1:Int) (a2:Int) (a3:Value) (K:Unit→Hp→Prop):Hp→Prop:=Lp (dG a0 a1 a2 a3 K) (IntKind.i64.wrap (a1 + 1))
set_option maxRecDepth 20000 in
theorem ms (a0:Sl) (a1:Int) (a2:Int) (a3:Value) {K:Unit→Hp→Prop} {h:Hp} (H:gX a0 a1 a2 a3 K h):Ct Tryz.prog cf #[(sv a0),(.int .i64 a1),(.int .i64 a2),a3] h fun v h'=>∃ r,v = R_ r∧K r h':=aB [(sv a0),(.int .i64 a1),(.int .i64 a2),a3] Tryz.func135 rfl rfl rfl fun _=>ag<|ab<|aa (ac rfl) rfl<|aa (bE rfl rfl) rfl<|aa (ae rfl) rfl<|ad<|aE<|bO (step:=dG a0 a1 a2 a3 K) (fun s1=>[(0,(sv a0)),(1,(.int .i64 a1)),(2,(.int .i64 a2)),(3,a3),(8,(.int .i64 s1))]) (fun s1=>[]) H (.cons rfl (.cons rfl (.cons rfl (.cons rfl (.cons rfl (.nil _)))))) .slnil (fun Rec2 s1 _ H3=>ag<|ag<|ab<|aa (ac rfl) rfl<|aa (ac rfl) rfl<|aa (cG rfl rfl) rfl<|ad<|aC rfl H3 (fun k4 H5=>au<|ag<|aE<|ag<|ab<|aa (ac rfl) rfl<|aa (ae rfl) rfl<|ad<|aE<|bO (step:=eM a0 a1 a3 Rec2 s1) (fun s6=>[(0,(sv a0)),(1,(.int .i64 a1)),(2,(.int .i64 a2)),(3,a3),(8,(.int .i64 s1)),(9,(.int .i64 s6))]) (fun s6=>[]) H5 (.cons rfl (.cons rfl (.cons rfl (.cons rfl (.cons rfl (.cons rfl (.nil _))))))) .slnil (fun Rec7 s6 _ H8=>ag<|ag<|bB (n:=17) [] cu rfl .slnil<|ah (i:=0) (fun _ _ _ _=>id) rfl (by kernel_rfl) rfl (ve (ac rfl))<|ah (i:=1) (fun _ _ _ _=>id) rfl (by kernel_rfl) rfl (ve (ac rfl))<|ah (i:=2) (fun _ _ _ _=>id) rfl (by kernel_rfl) rfl (ve (pW rfl rfl))<|ah (i:=3) (fun _ _ _ _=>id) rfl (by kernel_rfl) rfl (ve (ac rfl))<|pF H8 (fun k9 H10=>ce (i:=4) (fun _ _ _ _=>id) rfl (by kernel_rfl) rfl rfl rfl rfl (congrArg Value.bool k9) (ve (ac rfl))<|ce (i:=5) (fun _ _ _ _=>id) rfl (by kernel_rfl) rfl rfl rfl rfl (congrArg Value.bool k9) (ve (ac rfl))<|ce (i:=6) (fun _ _ _ _=>id) rfl (by kernel_rfl) rfl rfl rfl rfl (congrArg Value.bool k9) (ve (ac rfl))<|ce (i:=9) (fun _ _ _ _=>id) rfl (by kernel_rfl) rfl rfl rfl rfl (congrArg Value.bool k9) (ve (ac rfl))<|ce (i:=10) (fun _ _ _ _=>id) rfl (by kernel_rfl) rfl rfl rfl rfl (congrArg Value.bool k9) (ve (ac rfl))<|ce (i:=11) (fun _ _ _ _=>id) rfl (by kernel_rfl) rfl rfl rfl rfl (congrArg Value.bool k9) (ve (sZ rfl rfl))<|fZ H10 fun q25 e11 h12 H13=>ce (i:=7) (fun _ _ _ _=>id) rfl (by kernel_rfl) rfl rfl rfl rfl (congrArg Value.bool k9) (ve (bG io (aU rfl (bm e11)) rfl h12))<|fZ H13 fun q30 e14 h15 H16=>ce (i:=12) (fun _ _ _ _=>id) rfl (by kernel_rfl) rfl rfl rfl rfl (congrArg Value.bool k9) (ve (bG io (aU rfl (bm e14)) rfl h15))<|lN (i:=8) (fun _ _ _ _=>id) H16 rfl (by kernel_rfl) rfl rfl rfl (congrArg Value.bool k9) bj rfl (fun _=>rfl) rfl fun x26 H17=>lN (i:=13) (fun _ _ _ _=>id) H17 rfl (by kernel_rfl) rfl rfl rfl (congrArg Value.bool k9) bj rfl (fun _=>rfl) rfl fun x31 H18=>bg (i:=14) (by kernel_rfl) (way_on rfl rfl rfl rfl (congrArg Value.bool k9) (to_clv H18 rfl rfl rfl fun r32 _ H19=>⟨.slnil,ce (i:=15) (fun _ _ _ _=>id) rfl (by kernel_rfl) rfl rfl rfl rfl (congrArg Value.bool k9) (ve (cG rfl rfl))<|ah (i:=16) (fun _ _ _ _=>id) rfl (by kernel_rfl) rfl (ve (bd rfl k9 rfl))<|be (by kernel_rfl)<|aC rfl H19 (fun k20 H21=>au<|ag<|aE<|bB (n:=18) [] cu rfl .slnil<|ah (i:=0) (fun _ _ _ _=>id) rfl (by kernel_rfl) rfl (ve (ac rfl))<|ah (i:=1) (fun _ _ _ _=>id) rfl (by kernel_rfl) rfl (ve (ac rfl))<|ah (i:=2) (fun _ _ _ _=>id) rfl (by kernel_rfl) rfl (ve (ac rfl))<|ah (i:=3) (fun _ _ _ _=>id) rfl (by kernel_rfl) rfl (ve (ac rfl))<|ah (i:=4) (fun _ _ _ _=>id) rfl (by kernel_rfl) rfl (ve (sZ rfl rfl))<|ah (i:=5) (fun _ _ _ _=>id) rfl (by kernel_rfl) rfl (ve (ac rfl))<|ah (i:=6) (fun _ _ _ _=>id) rfl (by kernel_rfl) rfl (ve (ac rfl))<|ah (i:=7) (fun _ _ _ _=>id) rfl (by kernel_rfl) rfl (ve (sZ rfl rfl))<|ah (i:=8) (fun _ _ _ _=>id) rfl (by kernel_rfl) rfl (ve (bG io (aU rfl (bm e14)) rfl h15))<|ah (i:=10) (fun _ _ _ _=>id) rfl (by kernel_rfl) rfl (ve (ac rfl))<|ah (i:=11) (fun _ _ _ _=>id) rfl (by kernel_rfl) rfl (ve (ac rfl))<|ah (i:=12) (fun _ _ _ _=>id) rfl (by kernel_rfl) rfl (ve (bG io (aU rfl (bm e11)) rfl h12))<|bN (i:=9) (fun _ _ _ _=>id) H21 rfl (by kernel_rfl) bj rfl (fun _=>rfl) rfl fun x46 H22=>bN (i:=13) (fun _ _ _ _=>id) H22 rfl (by kernel_rfl) bj rfl (fun _=>rfl) rfl fun x50 H23=>ah (i:=14) (fun _ _ _ _=>id) rfl (by kernel_rfl) rfl (ve (bG io (aU rfl (bm e11)) rfl h12))<|bg (i:=15) (by kernel_rfl) (aG rfl rfl (dC qo rfl rfl rfl rfl rfl H23 fun _ H24=>⟨.slnil,ah (i:=16) (fun _ _ _ _=>id) rfl (by kernel_rfl) rfl (ve (bG io (aU rfl (bm e14)) rfl h15))<|bg (i:=17) (by kernel_rfl) (aG rfl rfl (dC qo rfl rfl rfl rfl rfl H24 fun _ H25=>⟨.slnil,be (by kernel_rfl)<|ab<|aa (ac rfl) rfl<|aa (sZ rfl rfl) rfl<|aa (ae rfl) rfl<|ad<|cT (IntKind.i64.wrap (s6 - 1)) H25 (.cons rfl (.cons rfl (.cons rfl (.cons rfl (.cons rfl (.cons rfl (.nil _))))))) .slnil⟩))⟩))) (fun k20 H21=>bz<|ab<|aa (ac rfl) rfl<|aa (bE rfl rfl) rfl<|aa (ae rfl) rfl<|ad<|cT (IntKind.i64.wrap (s1 + 1)) H21 (.cons rfl (.cons rfl (.cons rfl (.cons rfl (.cons rfl (.nil _)))))) .slnil)⟩))) (fun k9 H10=>ba (i:=4) (fun _ _ _ _=>id) rfl (by kernel_rfl) rfl rfl rfl rfl (bb k9)<|ba (i:=5) (fun _ _ _ _=>id) rfl (by kernel_rfl) rfl rfl rfl rfl (bb k9)<|ba (i:=6) (fun _ _ _ _=>id) rfl (by kernel_rfl) rfl rfl rfl rfl (bb k9)<|ba (i:=7) (fun _ _ _ _=>id) rfl (by kernel_rfl) rfl rfl rfl rfl (bb k9)<|ba (i:=8) (fun _ _ _ _=>id) rfl (by kernel_rfl) rfl rfl rfl rfl (bb k9)<|ba (i:=9) (fun _ _ _ _=>id) rfl (by kernel_rfl) rfl rfl rfl rfl (bb k9)<|ba (i:=10) (fun _ _ _ _=>id) rfl (by kernel_rfl) rfl rfl rfl rfl (bb k9)<|ba (i:=11) (fun _ _ _ _=>id) rfl (by kernel_rfl) rfl rfl rfl rfl (bb k9)<|ba (i:=12) (fun _ _ _ _=>id) rfl (by kernel_rfl) rfl rfl rfl rfl (bb k9)<|ba (i:=13) (fun _ _ _ _=>id) rfl (by kernel_rfl) rfl rfl rfl rfl (bb k9)<|ba (i:=14) (fun _ _ _ _=>id) rfl (by kernel_rfl) rfl rfl rfl rfl (bb k9)<|ba (i:=15) (fun _ _ _ _=>id) rfl (by kernel_rfl) rfl rfl rfl rfl (bb k9)<|ah (i:=16) (fun _ _ _ _=>id) rfl (by kernel_rfl) rfl (ve (ax rfl k9 rfl))<|be (by kernel_rfl)<|ev_no rfl rfl<|bz<|ab<|aa (ac rfl) rfl<|aa (bE rfl rfl) rfl<|aa (ae rfl) rfl<|ad<|cT (IntKind.i64.wrap (s1 + 1)) H10 (.cons rfl (.cons rfl (.cons rfl (.cons rfl (.cons rfl (.nil _)))))) .slnil))) (fun k4 H5=>bz<|end_i (res_0 rfl) ⟨(),rfl,H5⟩))
def kC (a0:Sl) (a1:Int) (a2:Value) (Rec9:Int→Hp→Prop) (s8:Int) (Rec14:(Int × Int)→Hp→Prop) (s13:Int × Int):Hp→Prop:=br (decide (s13.2 ≤ a1)) ( cl Tryz.prog jV [(sv a0),(.int .i64 s13.1),(.int .i64 (IntKind.i64.wrap (s13.1 + s8))),(.int .i64 s13.2),a2] R_ fun (_:Unit)=>Rec14 (s13.2,(IntKind.i64.wrap (s13.2 + (IntKind.i64.wrap (2 * s8)))))) ( br (decide ((IntKind.i64.wrap (s13.1 + s8)) < a1)) ( cl Tryz.prog jV [(sv a0),(.int .i64 s13.1),(.int .i64 (IntKind.i64.wrap (s13.1 + s8))),(.int .i64 a1),a2] R_ fun (_:Unit)=>Rec9 (IntKind.i64.wrap (s8 * 2))) ( Rec9 (IntKind.i64.wrap (s8 * 2))))
def dp (a0:Sl) (a1:Int) (a2:Value) (K:Unit→Hp→Prop) (Rec9:Int→Hp→Prop) (s8:Int):Hp→Prop:=br (decide (s8 < a1)) ( Lp (kC a0 a1 a2 Rec9 s8) (0,(IntKind.i64.wrap (2 * s8)))) ( K ())
def eZ (a0:Sl) (a1:Int) (a2:Value) (K:Unit→Hp→Prop) (Rec2:(Int × Int)→Hp→Prop) (s1:Int × Int):Hp→Prop:=br (decide (s1.2 ≤ a1)) ( cl Tryz.prog cf [(sv a0),(.int .i64 s1.1),(.int .i64 s1.2),a2] R_ fun (_:Unit)=>Rec2 (s1.2,(IntKind.i64.wrap (s1.2 + 20)))) ( cl Tryz.prog cf [(sv a0),(.int .i64 s1.1),(.int .i64 a1),a2] R_ fun (_:Unit)=>Lp (dp a0 a1 a2 K) 20)
def kD (a0:Sl) (a1:Int) (a2:Value) (K:Unit→Hp→Prop):Hp→Prop:=Lp (eZ a0 a1 a2 K) (0,20)
set_option maxRecDepth 20000 in
theorem qA (a0:Sl) (a1:Int) (a2:Value) {K:Unit→Hp→Prop} {h:Hp} (H:kD a0 a1 a2 K h):Ct Tryz.prog kT #[(sv a0),(.int .i64 a1),a2] h fun v h'=>∃ r,v = R_ r∧K r h':=aB [(sv a0),(.int .i64 a1),a2] Tryz.func88 rfl rfl rfl fun _=>ag<|ab<|aa (ae rfl) rfl<|ad<|ag<|ab<|aa (ac rfl) rfl<|aa (ae rfl) rfl<|aa (ae rfl) rfl<|ad<|ag<|aE<|bO (step:=eZ a0 a1 a2 K) (fun s1=>[(0,(sv a0)),(1,(.int .i64 a1)),(2,a2),(6,(.int .i64 20)),(7,(.int .i64 s1.1)),(8,(.int .i64 s1.2))]) (fun s1=>[]) H (.cons rfl (.cons rfl (.cons rfl (.cons rfl (.cons rfl (.cons rfl (.nil _))))))) .slnil (fun Rec2 s1 _ H3=>ag<|ag<|ab<|aa (ac rfl) rfl<|aa (ac rfl) rfl<|aa (v_le rfl rfl) rfl<|ad<|aC rfl H3 (fun k4 H5=>au<|aE<|ag<|ab<|aa (ac rfl) rfl<|aa (ac rfl) rfl<|aa (ac rfl) rfl<|aa (ac rfl) rfl<|ai (az H5 en_135 rfl rfl fun r18 _ H6=>ad<|ag<|ab<|aa (ac rfl) rfl<|aa (ae rfl) rfl<|ad<|ab<|aa (ac rfl) rfl<|aa (ac rfl) rfl<|aa (bE rfl rfl) rfl<|aa (ae rfl) rfl<|ad<|cT (s1.2,(IntKind.i64.wrap (s1.2 + 20))) H6 (.cons rfl (.cons rfl (.cons rfl (.cons rfl (.cons rfl (.cons rfl (.nil _))))))) .slnil)) (fun k4 H5=>bz<|ag<|ab<|aa (ac rfl) rfl<|aa (ac rfl) rfl<|aa (ac rfl) rfl<|aa (ac rfl) rfl<|ai (az H5 en_135 rfl rfl fun r27 _ H7=>ad<|aE<|bO (step:=dp a0 a1 a2 K) (fun s8=>[(0,(sv a0)),(1,(.int .i64 a1)),(2,a2),(6,(.int .i64 s8))]) (fun s8=>[]) H7 (.cons rfl (.cons rfl (.cons rfl (.cons rfl (.nil _))))) .slnil (fun Rec9 s8 _ H10=>ag<|ag<|ab<|aa (ac rfl) rfl<|aa (ac rfl) rfl<|aa (cG rfl rfl) rfl<|ad<|aC rfl H10 (fun k11 H12=>au<|aE<|ag<|ab<|aa (ac rfl) rfl<|aa (v_mul rfl rfl) rfl<|aa (ae rfl) rfl<|aa (ae rfl) rfl<|ad<|ag<|aE<|bO (step:=kC a0 a1 a2 Rec9 s8) (fun s13=>[(0,(sv a0)),(1,(.int .i64 a1)),(2,a2),(6,(.int .i64 s8)),(7,(.int .i64 s13.1)),(8,(.int .i64 s13.2))]) (fun s13=>[]) H12 (.cons rfl (.cons rfl (.cons rfl (.cons rfl (.cons rfl (.cons rfl (.nil _))))))) .slnil (fun Rec14 s13 _ H15=>ag<|ag<|ab<|aa (ac rfl) rfl<|aa (ac rfl) rfl<|aa (v_le rfl rfl) rfl<|ad<|aC rfl H15 (fun k16 H17=>au<|aE<|ag<|ab<|aa (ac rfl) rfl<|aa (ac rfl) rfl<|aa (ac rfl) rfl<|aa (ac rfl) rfl<|aa (bE rfl rfl) rfl<|aa (ac rfl) rfl<|aa (ac rfl) rfl<|ai (az H17 en_136 rfl rfl fun r43 _ H18=>ad<|ag<|ab<|aa (ac rfl) rfl<|aa (ae rfl) rfl<|ad<|ab<|aa (ac rfl) rfl<|aa (ac rfl) rfl<|aa (v_mul rfl rfl) rfl<|aa (bE rfl rfl) rfl<|aa (ae rfl) rfl<|ad<|cT (s13.2,(IntKind.i64.wrap (s13.2 + (IntKind.i64.wrap (2 * s8))))) H18 (.cons rfl (.cons rfl (.cons rfl (.cons rfl (.cons rfl (.cons rfl (.nil _))))))) .slnil)) (fun k16 H17=>bz<|ag<|ag<|ab<|aa (ac rfl) rfl<|aa (ac rfl) rfl<|aa (bE rfl rfl) rfl<|aa (ae rfl) rfl<|ad<|ag<|ab<|aa (ac rfl) rfl<|aa (ac rfl) rfl<|aa (cG rfl rfl) rfl<|ad<|aC rfl H17 (fun k19 H20=>ab<|aa (ac rfl) rfl<|aa (ac rfl) rfl<|aa (ac rfl) rfl<|aa (ac rfl) rfl<|aa (ac rfl) rfl<|ai (az H20 en_136 rfl rfl fun r60 _ H21=>ad<|ab<|aa (ac rfl) rfl<|aa (v_mul rfl rfl) rfl<|aa (ae rfl) rfl<|ad<|cT (IntKind.i64.wrap (s8 * 2)) H21 (.cons rfl (.cons rfl (.cons rfl (.cons rfl (.nil _))))) .slnil)) (fun k19 H20=>au<|ab<|aa (ac rfl) rfl<|aa (v_mul rfl rfl) rfl<|aa (ae rfl) rfl<|ad<|cT (IntKind.i64.wrap (s8 * 2)) H20 (.cons rfl (.cons rfl (.cons rfl (.cons rfl (.nil _))))) .slnil)))) (fun k11 H12=>bz<|end_i (res_0 rfl) ⟨(),rfl,H12⟩)))))
def iC (a0:Sl) (a1:Value) (K:Unit→Hp→Prop):Hp→Prop:=cl Tryz.prog kT [(sv a0),(.int .i64 (a0.len:Int)),a1] R_ fun (_:Unit)=>K ()
set_option maxRecDepth 20000 in
theorem nF (a0:Sl) (a1:Value) {K:Unit→Hp→Prop} {h:Hp} (H:iC a0 a1 K h):Ct Tryz.prog fF #[(sv a0),a1] h fun v h'=>∃ r,v = R_ r∧K r h':=aB [(sv a0),a1] Tryz.func57 rfl rfl rfl fun _=>ab<|aa (ac rfl) rfl<|aa (ac rfl) rfl<|aa (dB rfl Tryz.underlying41 rfl) rfl<|aa (ac rfl) rfl<|ai (az H en_88 rfl rfl fun r8 _ H1=>ad<|end_i (res_0 rfl) ⟨(),rfl,H1⟩)
def gO (a0:Sl) (K:Sl→Hp→Prop):Hp→Prop:=br a0.a.isNone ( K (⟨none,0,0⟩:Sl)) ( hpv Tryz.prog (Instr.buildSlice eJ 0 #[]) eL fun (v5:Sl)=>hpv Tryz.prog (Builtin.append_ #[eJ,eJ] eJ #[(sv v5),(sv a0)]) eL fun (v7:Sl)=>K v7)
set_option maxRecDepth 20000 in
theorem lV (a0:Sl) {K:Sl→Hp→Prop} {h:Hp} (H:gO a0 K h):Ct Tryz.prog eN #[(sv a0)] h fun v h'=>∃ r,v = eL r∧K r h':=aB [(sv a0)] Tryz.func79 rfl rfl rfl fun _=>ag<|ab<|aa (ae rfl) rfl<|ad<|ag<|ag<|ab<|aa (ac rfl) rfl<|aa (v_seqT Tryz.underlying39 rfl) rfl<|ad<|aC rfl H (fun k1 H2=>ag<|ab<|aa (ae rfl) rfl<|ad<|an<|av (ay rfl (aD rfl)) ⟨(⟨none,0,0⟩:Sl),rfl,H2⟩) (fun k1 H2=>au<|ag<|ab<|ai (bc H2 (bD (vs:=[]) rfl) rfl fun v5 _ H3=>aa (ac rfl) rfl<|ai (bc H3 (dw rfl rfl) rfl fun v7 _ H4=>aa (ae rfl) rfl<|ad<|an<|av (ay rfl (aD rfl)) ⟨v7,rfl,H4⟩)))
def eu (a0:Sl) (a1:Int) (K:(Int × Bool)→Hp→Prop) (Rec2:(Int × Int)→Hp→Prop) (s1:Int × Int):Hp→Prop:=br (decide (s1.1 < s1.2)) ( ix a0 (IntKind.i64.wrap (Int.fdiv (IntKind.u64.wrap (IntKind.i64.wrap (s1.1 + s1.2))) (2 ^ (min (Int.toNat 1) (IntKind.bits .u64))))) fun q24=>ld (q24.1,q24.2 + Int.toNat (IntKind.i64.wrap (Int.fdiv (IntKind.u64.wrap (IntKind.i64.wrap (s1.1 + s1.2))) (2 ^ (min (Int.toNat 1) (IntKind.bits .u64))))) * 1) (cI .u64) fun x25=>br (gZ x25 a1) ( Rec2 ((IntKind.i64.wrap ((IntKind.i64.wrap (Int.fdiv (IntKind.u64.wrap (IntKind.i64.wrap (s1.1 + s1.2))) (2 ^ (min (Int.toNat 1) (IntKind.bits .u64))))) + 1)),s1.2)) ( Rec2 (s1.1,(IntKind.i64.wrap (Int.fdiv (IntKind.u64.wrap (IntKind.i64.wrap (s1.1 + s1.2))) (2 ^ (min (Int.toNat 1) (IntKind.bits .u64)))))))) ( br (decide (s1.1 < (a0.len:Int))) ( ix a0 s1.1 fun q38=>ld (q38.1,q38.2 + Int.toNat s1.1 * 1) (cI .u64) fun x39=>br (!(x39 == a1)) ( ld (q38.1,q38.2 + Int.toNat s1.1 * 1) (cI .u64) fun x46=>K (s1.1,((dH x46) && (dH a1)))) ( K (s1.1,true))) ( K (s1.1,false)))
def gw (a0:Sl) (a1:Int) (K:(Int × Bool)→Hp→Prop):Hp→Prop:=Lp (eu a0 a1 K) (0,(a0.len:Int))
set_option maxRecDepth 20000 in
theorem lv (a0:Sl) (a1:Int) {K:(Int × Bool)→Hp→Prop} {h:Hp} (H:gw a0 a1 K h):Ct Tryz.prog eH #[(sv a0),(.int .u64 a1)] h fun v h'=>∃ r,v = bS r∧K r h':=aB [(sv a0),(.int .u64 a1)] Tryz.func152 rfl rfl rfl fun _=>ag<|ab<|aa (ae rfl) rfl<|aa (ae rfl) rfl<|ad<|ag<|ab<|aa (ac rfl) rfl<|aa (dB rfl Tryz.underlying80 rfl) rfl<|aa (ae rfl) rfl<|ad<|ag<|ab<|aa (ac rfl) rfl<|aa (ae rfl) rfl<|aa (ae rfl) rfl<|ad<|ag<|aE<|bO (step:=eu a0 a1 K) (fun s1=>[(0,(sv a0)),(1,(.int .u64 a1)),(6,(.int .i64 (a0.len:Int))),(7,(.int .i64 s1.1)),(8,(.int .i64 s1.2))]) (fun s1=>[]) H (.cons rfl (.cons rfl (.cons rfl (.cons rfl (.cons rfl (.nil _)))))) .slnil (fun Rec2 s1 _ H3=>ag<|ag<|ab<|aa (ac rfl) rfl<|aa (ac rfl) rfl<|aa (cG rfl rfl) rfl<|ad<|aC rfl H3 (fun k4 H5=>au<|aE<|ag<|ab<|aa (ac rfl) rfl<|aa (ac rfl) rfl<|aa (bE rfl rfl) rfl<|aa (dW ⟨_,Tryz.underlying3⟩ Tryz.underlying229 rfl) rfl<|aa (v_shr rfl rfl (by decide)) rfl<|aa (dW ⟨_,Tryz.underlying229⟩ Tryz.underlying3 rfl) rfl<|aa (ae rfl) rfl<|ad<|ag<|ab<|aa (ac rfl) rfl<|aa (ac rfl) rfl<|ct H5 fun q24 e6 h7 H8=>aa (bG vw (aU rfl (bm e6)) rfl h7) rfl<|ai (bf H8 cz rfl (fun _=>rfl) rfl fun x25 H9=>aa (ac rfl) rfl<|ai (cN (vs:=[(.int .u64 x25),(.int .u64 a1)]) (bH (ct_cmp_Less_uint64 x25 a1 _)) en_178 rfl rfl<|ad<|aC rfl H9 (fun k10 H11=>ab<|aa (ac rfl) rfl<|aa (bE rfl rfl) rfl<|aa (ae rfl) rfl<|ad<|cT ((IntKind.i64.wrap ((IntKind.i64.wrap (Int.fdiv (IntKind.u64.wrap (IntKind.i64.wrap (s1.1 + s1.2))) (2 ^ (min (Int.toNat 1) (IntKind.bits .u64))))) + 1)),s1.2) H11 (.cons rfl (.cons rfl (.cons rfl (.cons rfl (.cons rfl (.nil _)))))) .slnil) (fun k10 H11=>ab<|aa (ac rfl) rfl<|aa (ae rfl) rfl<|ad<|cT (s1.1,(IntKind.i64.wrap (Int.fdiv (IntKind.u64.wrap (IntKind.i64.wrap (s1.1 + s1.2))) (2 ^ (min (Int.toNat 1) (IntKind.bits .u64)))))) H11 (.cons rfl (.cons rfl (.cons rfl (.cons rfl (.cons rfl (.nil _)))))) .slnil)))) (fun k4 H5=>bz<|ag<|ab<|aa (ac rfl) rfl<|aa (ac rfl) rfl<|aa (ac rfl) rfl<|aa (cG rfl rfl) rfl<|aa (ac rfl) rfl<|aj rfl rfl rfl (aA _) (fun g12=>wv (ac rfl)) rfl<|aj rfl rfl rfl (aA _) (fun g13=>wv (ac rfl)) rfl<|bX H5 (fun k15 H16=>ct H16 fun q38 e17 h18 H19=>aK rfl rfl rfl (congrArg Value.bool k15) (aO (wv (bG vw (aU (aI rfl k15) (bm e17)) (aI rfl k15) h18)) rfl<|aK rfl rfl rfl (congrArg Value.bool k15) (bf H19 cz rfl (fun _=>rfl) rfl fun x39 H20=>aK rfl rfl rfl (congrArg Value.bool k15) (aO (wv (ac rfl)) rfl<|aK rfl rfl rfl (congrArg Value.bool k15) (aO (wv (bU rfl rfl)) rfl<|aK rfl rfl rfl (congrArg Value.bool k15) (aO (wv (ac rfl)) rfl<|aj rfl rfl rfl (aV _) (fun g21=>wv (ac rfl)) rfl<|aj rfl rfl rfl (aV _) (fun g22=>wv (ac rfl)) rfl<|aj rfl rfl rfl (aV _) (fun g23=>wv (bG vw (aU (aI rfl g23) (bm e17)) (aI rfl g23) h18)) rfl<|bX H20 (fun k25 H26=>aK rfl rfl rfl (congrArg Value.bool (cn k25)) (bf H26 cz (aI rfl k25) (fun _=>rfl) rfl fun x46 H27=>aK rfl rfl rfl (congrArg Value.bool (cn k25)) (cN (vs:=[(.int .u64 x46)]) (bH (oA x46 _)) en_179 rfl rfl<|aK rfl rfl rfl (congrArg Value.bool (cn k25)) (aO (wv (ac rfl)) rfl<|aj rfl rfl rfl (aA _) (fun g28=>wv (ac rfl)) rfl<|dc (vs:=[(.int .u64 a1)]) rfl rfl rfl (aA _) (fun g29=>(bH (oA a1 _))) en_179 (fun g29=>(aZ (aI rfl g29) bW)) rfl<|aK rfl rfl rfl (congrArg Value.bool (cn k25)) (aO (wv (bY rfl rfl)) rfl<|aK rfl rfl rfl (congrArg Value.bool k15) (aO (wv (ax rfl (cn k25) rfl)) rfl<|aa (bd rfl k15 rfl) rfl<|aa (ae rfl) rfl<|aa (ae rfl) rfl<|ad<|an<|av (cc rfl (aD rfl) (aD rfl)) ⟨(s1.1,((dH x46) && (dH a1))),rfl,H27⟩)))))) (fun k25 H26=>al rfl rfl rfl (ci (bP k25)) rfl<|al rfl rfl rfl (ci (bP k25)) rfl<|al rfl rfl rfl (ci (bP k25)) rfl<|al rfl rfl rfl (off_u _) rfl<|al rfl rfl rfl (off_u _) rfl<|al rfl rfl rfl (ci (bP k25)) rfl<|aK rfl rfl rfl (congrArg Value.bool k15) (aO (wv (bd rfl (bP k25) rfl)) rfl<|aa (bd rfl k15 rfl) rfl<|aa (ae rfl) rfl<|aa (ae rfl) rfl<|ad<|an<|av (cc rfl (aD rfl) (aD rfl)) ⟨(s1.1,true),rfl,H26⟩)))))))) (fun k15 H16=>al rfl rfl rfl (bb k15) rfl<|al rfl rfl rfl (bb k15) rfl<|al rfl rfl rfl (bb k15) rfl<|al rfl rfl rfl (bb k15) rfl<|al rfl rfl rfl (bb k15) rfl<|al rfl rfl rfl (off_u _) rfl<|al rfl rfl rfl (off_u _) rfl<|al rfl rfl rfl (off_u _) rfl<|al rfl rfl rfl (off_u _) rfl<|al rfl rfl rfl (off_u _) rfl<|al rfl rfl rfl (off_u _) rfl<|al rfl rfl rfl (off_u _) rfl<|al rfl rfl rfl (off_u _) rfl<|al rfl rfl rfl (off_u _) rfl<|al rfl rfl rfl (bb k15) rfl<|aa (ax rfl k15 rfl) rfl<|aa (ae rfl) rfl<|aa (ae rfl) rfl<|ad<|an<|av (cc rfl (aD rfl) (aD rfl)) ⟨(s1.1,false),rfl,H16⟩)))
def jl (a0:Sl) (a1:Int) (a2:Sl) (K:Sl→Hp→Prop):Hp→Prop:=hpv Tryz.prog (Instr.sliceAt bo (sv a0) (some (.int .i64 a1)) none none) cj fun (v12:Sl)=>br ((a2.len:Int) == 0) ( K a0) ( br (a1 == (a0.len:Int)) ( hpv Tryz.prog (Builtin.append_ #[bo,bo] bo #[(sv a0),(sv a2)]) cj fun (v25:Sl)=>K v25) ( br (decide ((IntKind.i64.wrap ((a0.len:Int) + (a2.len:Int))) > (a0.cap:Int))) ( hpv Tryz.prog (Instr.sliceAt bo (sv a0) none (some (.int .i64 a1)) none) cj fun (v34:Sl)=>hpv Tryz.prog (Builtin.append_ #[bo,kB] bo #[(sv v34),(.int .i64 (IntKind.i64.wrap ((IntKind.i64.wrap ((a0.len:Int) + (a2.len:Int))) - a1)))]) cj fun (v40:Sl)=>hpv Tryz.prog (Instr.sliceAt bo (sv v40) (some (.int .i64 a1)) none none) cj fun (v43:Sl)=>hpv Tryz.prog (Builtin.copy_ #[bo,bo] kB #[(sv v43),(sv a2)]) dV fun (v45:Int)=>both ( hpv Tryz.prog (Instr.sliceAt bo (sv v40) (some (.int .i64 (IntKind.i64.wrap (a1 + (a2.len:Int))))) none none) cj fun (v50:Sl)=>hpv Tryz.prog (Instr.sliceAt bo (sv a0) (some (.int .i64 a1)) none none) cj fun (v53:Sl)=>hpv Tryz.prog (Builtin.copy_ #[bo,bo] kB #[(sv v50),(sv v53)]) dV fun (v54:Int)=>K v40) ( hpv Tryz.prog (Instr.sliceAt bo (sv a0) (some (.int .i64 a1)) none none) cj fun (v53:Sl)=>hpv Tryz.prog (Instr.sliceAt bo (sv v40) (some (.int .i64 (IntKind.i64.wrap (a1 + (a2.len:Int))))) none none) cj fun (v50:Sl)=>hpv Tryz.prog (Builtin.copy_ #[bo,bo] kB #[(sv v50),(sv v53)]) dV fun (v54:Int)=>K v40)) ( hpv Tryz.prog (Instr.sliceAt bo (sv a0) none (some (.int .i64 (IntKind.i64.wrap ((a0.len:Int) + (a2.len:Int))))) none) cj fun (v60:Sl)=>hpv Tryz.prog (Instr.sliceAt bo (sv v60) (some (.int .i64 (IntKind.i64.wrap (a1 + (a2.len:Int))))) none none) cj fun (v66:Sl)=>cln Tryz.prog (callFunc ue #[(sv a2),(sv v66)]) aH fun (v67:Bool)=>br (!v67) ( both ( hpv Tryz.prog (Instr.sliceAt bo (sv v60) (some (.int .i64 (IntKind.i64.wrap (a1 + (a2.len:Int))))) none none) cj fun (v73:Sl)=>hpv Tryz.prog (Instr.sliceAt bo (sv v60) (some (.int .i64 a1)) none none) cj fun (v76:Sl)=>hpv Tryz.prog (Builtin.copy_ #[bo,bo] kB #[(sv v73),(sv v76)]) dV fun (v77:Int)=>hpv Tryz.prog (Instr.sliceAt bo (sv v60) (some (.int .i64 a1)) none none) cj fun (v80:Sl)=>hpv Tryz.prog (Builtin.copy_ #[bo,bo] kB #[(sv v80),(sv a2)]) dV fun (v82:Int)=>K v60) ( hpv Tryz.prog (Instr.sliceAt bo (sv v60) (some (.int .i64 a1)) none none) cj fun (v76:Sl)=>hpv Tryz.prog (Instr.sliceAt bo (sv v60) (some (.int .i64 (IntKind.i64.wrap (a1 + (a2.len:Int))))) none none) cj fun (v73:Sl)=>hpv Tryz.prog (Builtin.copy_ #[bo,bo] kB #[(sv v73),(sv v76)]) dV fun (v77:Int)=>hpv Tryz.prog (Instr.sliceAt bo (sv v60) (some (.int .i64 a1)) none none) cj fun (v80:Sl)=>hpv Tryz.prog (Builtin.copy_ #[bo,bo] kB #[(sv v80),(sv a2)]) dV fun (v82:Int)=>K v60)) ( hpv Tryz.prog (Instr.sliceAt bo (sv v60) (some (.int .i64 (a0.len:Int))) none none) cj fun (v86:Sl)=>hpv Tryz.prog (Builtin.copy_ #[bo,bo] kB #[(sv v86),(sv a2)]) dV fun (v88:Int)=>hpv Tryz.prog (Instr.sliceAt bo (sv v60) (some (.int .i64 a1)) none none) cj fun (v91:Sl)=>cl Tryz.prog rr [(sv v91),(.int .i64 (a2.len:Int))] R_ fun (_:Unit)=>K v60))))
set_option maxRecDepth 20000 in
theorem oE (a0:Sl) (a1:Int) (a2:Sl) {K:Sl→Hp→Prop} {h:Hp} (H:jl a0 a1 a2 K h):Ct Tryz.prog dE #[(sv a0),(.int .i64 a1),(sv a2)] h fun v h'=>∃ r,v = cj r∧K r h':=aB [(sv a0),(.int .i64 a1),(sv a2)] Tryz.func153 rfl rfl rfl fun _=>ag<|ab<|aa (ae rfl) rfl<|ad<|ag<|ab<|aa (ac rfl) rfl<|aa (ac rfl) rfl<|ai (bc H (eY rfl rfl rfl rfl rfl) rfl fun v12 _ H1=>ad<|ag<|ab<|aa (ac rfl) rfl<|aa (dB rfl Tryz.underlying80 rfl) rfl<|aa (ae rfl) rfl<|ad<|ag<|ag<|ab<|aa (ac rfl) rfl<|aa (bU rfl rfl) rfl<|ad<|aC rfl H1 (fun k2 H3=>ag<|ab<|aa (ac rfl) rfl<|aa (ae rfl) rfl<|ad<|an<|av (ay rfl (aD rfl)) ⟨a0,rfl,H3⟩) (fun k2 H3=>au<|ag<|ab<|aa (ac rfl) rfl<|aa (dB rfl Tryz.underlying80 rfl) rfl<|aa (ae rfl) rfl<|ad<|ag<|ag<|ab<|aa (ac rfl) rfl<|aa (ac rfl) rfl<|aa (bU rfl rfl) rfl<|ad<|aC rfl H3 (fun k4 H5=>ag<|ab<|aa (ac rfl) rfl<|aa (ac rfl) rfl<|ai (bc H5 (dw rfl rfl) rfl fun v25 _ H6=>aa (ae rfl) rfl<|ad<|an<|av (ay rfl (aD rfl)) ⟨v25,rfl,H6⟩)) (fun k4 H5=>au<|ag<|ag<|ab<|aa (ac rfl) rfl<|aa (ac rfl) rfl<|aa (bE rfl rfl) rfl<|aa (ac rfl) rfl<|aa (v_cap rfl Tryz.underlying80 rfl) rfl<|aa (pW rfl rfl) rfl<|ad<|aC rfl H5 (fun k7 H8=>ag<|ab<|aa (ac rfl) rfl<|aa (ac rfl) rfl<|ai (bc H8 (eY rfl rfl rfl rfl rfl) rfl fun v34 _ H9=>aa (ac rfl) rfl<|aa (ac rfl) rfl<|aa (bE rfl rfl) rfl<|aa (ac rfl) rfl<|aa (sZ rfl rfl) rfl<|ai (bc H9 (dw rfl rfl) rfl fun v40 _ H10=>aa (ae rfl) rfl<|ad<|ag<|ab<|aa (ac rfl) rfl<|aa (ac rfl) rfl<|ai (bc H10 (eY rfl rfl rfl rfl rfl) rfl fun v43 _ H11=>aa (ac rfl) rfl<|ai (bc H11 (x_copy rfl rfl) rfl fun v45 _ H12=>ad<|ag<|bB (n:=9) [] cu rfl .slnil<|ah (i:=0) (fun _ _ _ _=>id) rfl (by kernel_rfl) rfl (ve (ac rfl))<|ah (i:=1) (fun _ _ _ _=>id) rfl (by kernel_rfl) rfl (ve (ac rfl))<|ah (i:=2) (fun _ _ _ _=>id) rfl (by kernel_rfl) rfl (ve (ac rfl))<|ah (i:=3) (fun _ _ _ _=>id) rfl (by kernel_rfl) rfl (ve (bE rfl rfl))<|ah (i:=5) (fun _ _ _ _=>id) rfl (by kernel_rfl) rfl (ve (ac rfl))<|ah (i:=6) (fun _ _ _ _=>id) rfl (by kernel_rfl) rfl (ve (ac rfl))<|js H12 fun H13_1 H13_2=>jt (i:=4) (j:=7) (by kernel_rfl) (aG rfl rfl (bc H13_1 (eY rfl rfl rfl rfl rfl) rfl fun v50 _ H14=>⟨.slnil,bg (i:=7) (by kernel_rfl) (aG rfl rfl (bc H14 (eY rfl rfl rfl rfl rfl) rfl fun v53 _ H15=>⟨.slnil,bg (i:=8) (by kernel_rfl) (aG rfl rfl (bc H15 (x_copy rfl rfl) rfl fun v54 _ H16=>⟨.slnil,be (by kernel_rfl)<|ag<|ab<|aa (ac rfl) rfl<|aa (ae rfl) rfl<|ad<|an<|av (ay rfl (aD rfl)) ⟨v40,rfl,H16⟩⟩))⟩))⟩)) (aG rfl rfl (bc H13_2 (eY rfl rfl rfl rfl rfl) rfl fun v53 _ H14=>⟨.slnil,bg (i:=4) (by kernel_rfl) (aG rfl rfl (bc H14 (eY rfl rfl rfl rfl rfl) rfl fun v50 _ H15=>⟨.slnil,bg (i:=8) (by kernel_rfl) (aG rfl rfl (bc H15 (x_copy rfl rfl) rfl fun v54 _ H16=>⟨.slnil,be (by kernel_rfl)<|ag<|ab<|aa (ac rfl) rfl<|aa (ae rfl) rfl<|ad<|an<|av (ay rfl (aD rfl)) ⟨v40,rfl,H16⟩⟩))⟩))⟩))))))) (fun k7 H8=>au<|ag<|ab<|aa (ac rfl) rfl<|aa (ac rfl) rfl<|aa (ac rfl) rfl<|aa (bE rfl rfl) rfl<|ai (bc H8 (eY rfl rfl rfl rfl rfl) rfl fun v60 _ H17=>aa (ae rfl) rfl<|ad<|ag<|ag<|ab<|aa (ac rfl) rfl<|aa (ac rfl) rfl<|aa (ac rfl) rfl<|aa (ac rfl) rfl<|aa (bE rfl rfl) rfl<|ai (bc H17 (eY rfl rfl rfl rfl rfl) rfl fun v66 _ H18=>ai (fU H18 (rh (vs:=[(sv a2),(sv v66)]) rfl) rfl fun v67 _ H19=>aa (cx rfl) rfl<|ad<|aC rfl H19 (fun k20 H21=>ag<|bB (n:=9) [] cu rfl .slnil<|ah (i:=0) (fun _ _ _ _=>id) rfl (by kernel_rfl) rfl (ve (ac rfl))<|ah (i:=1) (fun _ _ _ _=>id) rfl (by kernel_rfl) rfl (ve (ac rfl))<|ah (i:=2) (fun _ _ _ _=>id) rfl (by kernel_rfl) rfl (ve (ac rfl))<|ah (i:=3) (fun _ _ _ _=>id) rfl (by kernel_rfl) rfl (ve (bE rfl rfl))<|ah (i:=5) (fun _ _ _ _=>id) rfl (by kernel_rfl) rfl (ve (ac rfl))<|ah (i:=6) (fun _ _ _ _=>id) rfl (by kernel_rfl) rfl (ve (ac rfl))<|js H21 fun H22_1 H22_2=>jt (i:=4) (j:=7) (by kernel_rfl) (aG rfl rfl (bc H22_1 (eY rfl rfl rfl rfl rfl) rfl fun v73 _ H23=>⟨.slnil,bg (i:=7) (by kernel_rfl) (aG rfl rfl (bc H23 (eY rfl rfl rfl rfl rfl) rfl fun v76 _ H24=>⟨.slnil,bg (i:=8) (by kernel_rfl) (aG rfl rfl (bc H24 (x_copy rfl rfl) rfl fun v77 _ H25=>⟨.slnil,be (by kernel_rfl)<|ag<|ab<|aa (ac rfl) rfl<|aa (ac rfl) rfl<|ai (bc H25 (eY rfl rfl rfl rfl rfl) rfl fun v80 _ H26=>aa (ac rfl) rfl<|ai (bc H26 (x_copy rfl rfl) rfl fun v82 _ H27=>ad<|ag<|ab<|aa (ac rfl) rfl<|aa (ae rfl) rfl<|ad<|an<|av (ay rfl (aD rfl)) ⟨v60,rfl,H27⟩))⟩))⟩))⟩)) (aG rfl rfl (bc H22_2 (eY rfl rfl rfl rfl rfl) rfl fun v76 _ H23=>⟨.slnil,bg (i:=4) (by kernel_rfl) (aG rfl rfl (bc H23 (eY rfl rfl rfl rfl rfl) rfl fun v73 _ H24=>⟨.slnil,bg (i:=8) (by kernel_rfl) (aG rfl rfl (bc H24 (x_copy rfl rfl) rfl fun v77 _ H25=>⟨.slnil,be (by kernel_rfl)<|ag<|ab<|aa (ac rfl) rfl<|aa (ac rfl) rfl<|ai (bc H25 (eY rfl rfl rfl rfl rfl) rfl fun v80 _ H26=>aa (ac rfl) rfl<|ai (bc H26 (x_copy rfl rfl) rfl fun v82 _ H27=>ad<|ag<|ab<|aa (ac rfl) rfl<|aa (ae rfl) rfl<|ad<|an<|av (ay rfl (aD rfl)) ⟨v60,rfl,H27⟩))⟩))⟩))⟩))) (fun k20 H21=>au<|ag<|ab<|aa (ac rfl) rfl<|aa (ac rfl) rfl<|ai (bc H21 (eY rfl rfl rfl rfl rfl) rfl fun v86 _ H28=>aa (ac rfl) rfl<|ai (bc H28 (x_copy rfl rfl) rfl fun v88 _ H29=>ad<|ag<|ab<|aa (ac rfl) rfl<|aa (ac rfl) rfl<|ai (bc H29 (eY rfl rfl rfl rfl rfl) rfl fun v91 _ H30=>aa (ac rfl) rfl<|ai (az H30 en_181 rfl rfl fun r93 _ H31=>ad<|ag<|ab<|aa (ac rfl) rfl<|aa (ae rfl) rfl<|ad<|an<|av (ay rfl (aD rfl)) ⟨v60,rfl,H31⟩))))))))))))
def jj (a0:Sl) (a1:Int) (K:Int→Hp→Prop) (Rec2:Int→Hp→Prop) (s1:Int):Hp→Prop:=br (decide (s1 < (a0.len:Int))) ( ix a0 s1 fun q14=>ld (q14.1,q14.2 + Int.toNat s1 * 1) (cI .i64) fun x15=>br (a1 == x15) ( K s1) ( Rec2 (IntKind.i64.wrap (s1 + 1)))) ( K (-1))
def nh (a0:Sl) (a1:Int) (K:Int→Hp→Prop):Hp→Prop:=Lp (jj a0 a1 K) 0
set_option maxRecDepth 20000 in
theorem ua (a0:Sl) (a1:Int) {K:Int→Hp→Prop} {h:Hp} (H:nh a0 a1 K h):Ct Tryz.prog jL #[(sv a0),(.int .i64 a1)] h fun v h'=>∃ r,v = dV r∧K r h':=aB [(sv a0),(.int .i64 a1)] Tryz.func182 rfl rfl rfl fun _=>ag<|ab<|aa (ae rfl) rfl<|ad<|ag<|ag<|ab<|aa (ac rfl) rfl<|aa (dB rfl Tryz.underlying41 rfl) rfl<|aa (ac rfl) rfl<|ad<|aE<|bO (step:=jj a0 a1 K) (fun s1=>[(0,(sv a0)),(1,(.int .i64 a1)),(7,(.int .i64 (a0.len:Int))),(8,(.int .i64 s1))]) (fun s1=>[]) H (.cons rfl (.cons rfl (.cons rfl (.cons rfl (.nil _))))) .slnil (fun Rec2 s1 _ H3=>ag<|ab<|aa (cG rfl rfl) rfl<|ad<|ag<|aC rfl H3 (fun k4 H5=>au<|ag<|aE<|ag<|ab<|aa (ac rfl) rfl<|aa (ae rfl) rfl<|ad<|ag<|ab<|aa (ac rfl) rfl<|aa (ac rfl) rfl<|aa (ac rfl) rfl<|ct H5 fun q14 e6 h7 H8=>aa (bG io (aU rfl (bm e6)) rfl h7) rfl<|ai (bf H8 bj rfl (fun _=>rfl) rfl fun x15 H9=>aa (bU rfl rfl) rfl<|ad<|aC rfl H9 (fun k10 H11=>ag<|ab<|aa (ac rfl) rfl<|aa (ae rfl) rfl<|ad<|an<|av (ay rfl (aD rfl)) ⟨s1,rfl,H11⟩) (fun k10 H11=>au<|ab<|aa (bE rfl rfl) rfl<|aa (ac rfl) rfl<|ad<|cT (IntKind.i64.wrap (s1 + 1)) H11 (.cons rfl (.cons rfl (.cons rfl (.cons rfl (.nil _))))) .slnil))) (fun k4 H5=>bz<|ag<|ab<|aa (ae rfl) rfl<|ad<|an<|av (ay rfl (aD rfl)) ⟨(-1),rfl,H5⟩))
def jC (a0:Sl) (K:Sl→Hp→Prop):Hp→Prop:=br a0.a.isNone ( K (⟨none,0,0⟩:Sl)) ( hpv Tryz.prog (Instr.buildSlice bo 0 #[]) cj fun (v5:Sl)=>hpv Tryz.prog (Builtin.append_ #[bo,bo] bo #[(sv v5),(sv a0)]) cj fun (v7:Sl)=>K v7)
set_option maxRecDepth 20000 in
theorem pn (a0:Sl) {K:Sl→Hp→Prop} {h:Hp} (H:jC a0 K h):Ct Tryz.prog gn #[(sv a0)] h fun v h'=>∃ r,v = cj r∧K r h':=aB [(sv a0)] Tryz.func166 rfl rfl rfl fun _=>ag<|ab<|aa (ae rfl) rfl<|ad<|ag<|ag<|ab<|aa (ac rfl) rfl<|aa (v_seqT Tryz.underlying80 rfl) rfl<|ad<|aC rfl H (fun k1 H2=>ag<|ab<|aa (ae rfl) rfl<|ad<|an<|av (ay rfl (aD rfl)) ⟨(⟨none,0,0⟩:Sl),rfl,H2⟩) (fun k1 H2=>au<|ag<|ab<|ai (bc H2 (bD (vs:=[]) rfl) rfl fun v5 _ H3=>aa (ac rfl) rfl<|ai (bc H3 (dw rfl rfl) rfl fun v7 _ H4=>aa (ae rfl) rfl<|ad<|an<|av (ay rfl (aD rfl)) ⟨v7,rfl,H4⟩)))
end Go.Proofs.YtniiiakkdoiaiaaGreatDoor
namespace Go.Proofs.YtniiiakkdoiaiaaGreatDoor
open Go Mb
abbrev vI (s:Sl) (xs:List Int):As:=vec kB 1 (cI .i64) s xs
def fS (a:Int):List Int→Int→Int
  | [],_=>-1
  | x::xs,i=>if a = x then i else fS a xs (i + 1)
theorem sp_slices_Index (s:Sl) (a:Int) (xs:List Int) (hb:xs.length < 2^62) :
    Sp Tryz.prog jL [sv s,.int .i64 a] dV [vI s xs] (fun r=>pa_ (r = fS a xs 0) [vI s xs]):=by
  intro h st
  refine ua _ _ ?_
  unfold nh
  refine Lp.intro (fun (i:Int) h=>∃ n:Nat,i = n∧n ≤ xs.length∧fS a (xs.drop n) n = fS a xs 0∧aN [vI s xs] h) (fun (i:Int) _=>xs.length - i.toNat) ⟨0,rfl,Nat.zero_le _,by simp,st⟩ ?_
  rintro i h ⟨n,rfl,hn,he,st⟩
  have hl:=(cq st (j:=0) rfl).1
  unfold jj
  refine bi (fun k=>?_) (fun k=>?_)
  · have hlt:n < xs.length:=by simp [hl] at k; exact k
    refine dI st (j:=0) rfl (by omega) (by omega) fun q hq=>?_
    refine eE (j:=0) (i:=n) (k:=0) xs[n] (di _) st rfl hq (by simp) (aM hlt) (by simp) ?_
    have hd:xs.drop n = xs[n]::xs.drop (n + 1):=List.drop_eq_getElem_cons hlt
    rw [hd] at he
    refine bi (fun k2=>?_) (fun k2=>?_)
    · have k2':a = xs[n]:=by simpa using k2
      rw [fS,if_pos k2'] at he
      exact ⟨he,st⟩
    · have k2':¬ a = xs[n]:=by simpa using k2
      rw [fS,if_neg k2'] at he
      have hw:IntKind.i64.wrap ((n:Int) + 1) = ((n + 1:Nat):Int):=by rw [bT (by omega) (by omega)]; rfl
      rw [hw]
      exact ⟨⟨n + 1,rfl,hlt,by simpa using he,st⟩,by simp; omega⟩
  · have:n = xs.length:=by simp [hl] at k; omega
    subst this
    simp only [List.drop_length,fS] at he
    exact ⟨he,st⟩
def fN (x:Ptr) (p:List Int):As:=fun h=>∃ bs:Nat × Sl,(x = some (bs.1,0)∧p.length ≤ 16)∧aN [blk bs.1 pX [sv bs.2],vI bs.2 p] h
namespace Pool
def refs (p:List Int) (i:Int):Int:=if i < 0 then 0 else p.getD i.toNat 0
def take (p:List Int):Int × Bool × List Int :=
  if fS 0 p 0 < 0 then (0,false,p) else (fS 0 p 0,true,p.set (fS 0 p 0).toNat 1)
def hold (p:List Int) (i:Int):Bool × List Int :=
  if refs p i = 0∨refs p i ≥ 7 then (false,p) else (true,p.set i.toNat (IntKind.i64.wrap (refs p i + 1)))
def lets (p:List Int) (i:Int):Int × Bool × List Int :=
  if refs p i = 0 then (0,false,p) else (IntKind.i64.wrap (refs p i - 1),true,p.set i.toNat (IntKind.i64.wrap (refs p i - 1)))
def freeFrom:List Int→Int→List Int
  | [],_=>[]
  | x::xs,i=>if x = 0 then i::freeFrom xs (i + 1) else freeFrom xs (i + 1)
def free (p:List Int):List Int:=freeFrom p 0
end Pool
theorem idx_lt (a:Int):∀ (xs:List Int) (i:Int),fS a xs i = -1∨∃ n:Nat,n < xs.length∧fS a xs i = i + n
  | [],_=>.inl rfl
  | x::xs,i=>by
    unfold fS
    split
    · exact .inr ⟨0,by simp,by simp⟩
    · rcases idx_lt a xs (i + 1) with h | ⟨n,h1,h2⟩
      · exact .inl h
      · exact .inr ⟨n + 1,by simp; omega,by rw [h2]; omega⟩
theorem pool_op {x:Ptr} {p:List Int} {l:List As} {h:Hp} (s0:aN (fN x p::l) h):∃ b s,x = some (b,0)∧p.length ≤ 16∧s.len = p.length∧aN (blk b pX [sv s]::vI s p::l) h:=by
  obtain ⟨⟨b,s⟩,⟨hx,hb⟩,st⟩:=op_ s0
  exact ⟨b,s,hx,hb,(cq (j:=1) st rfl).1,st⟩
theorem rp {b:Nat} {s:Sl} {p:List Int} {l:List As} {h:Hp} (hb:p.length ≤ 16) (st:aN (blk b pX [sv s]::vI s p::l) h):aN (fN (some (b,0)) p::l) h:=cl_ (b,s) ⟨rfl,hb⟩ st
theorem sp_pool_New (n:Int) (h1:¬ n < 1) (h2:¬ n > 16):Sp Tryz.prog wg [.int .i64 n] rF [] (fun r=>aN [fN r (List.replicate n.toNat 0)]):=by
  intro h st
  refine sim_pool_New _ ?_
  unfold sh_pool_New
  obtain ⟨m,rfl⟩:=Int.eq_ofNat_of_zero_le (show 0 ≤ n by omega)
  refine dJ (by simp; omega) ?_
  refine nr (τ:=Int) (x0:=0) (enc:=cI .i64) (n:=m) (T:=kB) (m:=1) el_Sint rfl st ?_ ?_ ?_
  · omega
  · omega
  · intro v h' s1
    refine oF s1 fun b h'' s2=>?_
    exact rp (by simp; omega) s2
theorem vr (x:Ptr) (p:List Int) (i:Int):Sp Tryz.prog jn [pv x,.int .i64 i] dV [fN x p] (fun r=>pa_ (r = Pool.refs p i) [fN x p]):=by
  intro h s0
  obtain ⟨b,s,rfl,hb,hl,st⟩:=pool_op s0
  refine sim_pool_Pool_Refs _ _ ?_
  unfold tf
  refine bi (fun k=>?_) (fun k=>?_)
  · have h0:0 ≤ i:=by simpa using k
    obtain ⟨n,rfl⟩:=Int.eq_ofNat_of_zero_le h0
    refine cJ ?_
    refine bA s st (i:=0) rfl rfl rfl ?_
    refine bi (fun k2=>?_) (fun k2=>?_)
    · have:p.length ≤ n:=by rw [hl] at k2; simpa using k2
      exact bh (by simp [Pool.refs,this]) (rp hb st)
    · have hlt:n < p.length:=by rw [hl] at k2; simpa using k2
      refine bA s st (i:=0) rfl rfl rfl ?_
      refine dI st (j:=1) rfl (by omega) (by omega) fun q hq=>?_
      refine eE (j:=1) (i:=n) (k:=0) p[n] (di _) st rfl hq (by simp) (aM hlt) (by simp) ?_
      refine bh ?_ (rp hb st)
      have:¬ ((n:Int) < 0):=by omega
      simp [Pool.refs,hlt,this]
  · have h0:i < 0:=by simpa using k
    exact bh (by simp [Pool.refs,h0]) (rp hb st)
theorem vq (x:Ptr) (p:List Int):Sp Tryz.prog jm [pv x] bS [fN x p] (fun r=>pa_ (r = ((Pool.take p).1,(Pool.take p).2.1)) [fN x (Pool.take p).2.2]):=by
  intro h s0
  obtain ⟨b,s,rfl,hb,hl,st⟩:=pool_op s0
  refine sim_pool_Pool_Take _ ?_
  unfold te
  refine dJ rfl (cJ ?_)
  refine bA s st (i:=0) rfl rfl rfl ?_
  refine cU [1] (sp_slices_Index s 0 p (by omega)) st rfl fun r h' s1=>?_
  obtain ⟨hr,s2⟩:=bF.1 s1
  subst hr
  refine bi (fun k=>?_) (fun k=>?_)
  · have k':fS 0 p 0 < 0:=by simpa using k
    have e:Pool.take p = (0,false,p):=if_pos k'
    rw [e]
    exact bh rfl (rp hb (bn [1] s2 rfl))
  · have k':¬ fS 0 p 0 < 0:=by simpa using k
    have e0:Pool.take p = (fS 0 p 0,true,p.set (fS 0 p 0).toNat 1):=if_neg k'
    rw [e0]
    rcases idx_lt 0 p 0 with e | ⟨n,h1,e⟩
    · omega
    · rw [Int.zero_add] at e
      refine bA s s2 (i:=1) rfl rfl rfl ?_
      rw [e]
      refine dI s2 (j:=0) rfl (by omega) (by omega) fun q hq=>?_
      refine st_v (j:=0) (i:=n) (k:=0) (1:Int) (di _) s2 rfl hq (by simp) (aM h1) (by simp) rfl fun h2 s3=>?_
      exact bh rfl (rp (by simpa using hb) (bn [1] s3 rfl))
theorem refs_get {p:List Int} {i:Int} (h:Pool.refs p i ≠ 0):∃ n:Nat,i = n∧∃ hn:n < p.length,Pool.refs p i = p[n]:=by
  unfold Pool.refs at h ⊢
  by_cases h0:i < 0
  · rw [if_pos h0] at h; exact absurd rfl h
  · rw [if_neg h0] at h ⊢
    obtain ⟨n,rfl⟩:=Int.eq_ofNat_of_zero_le (show 0 ≤ i by omega)
    refine ⟨n,rfl,?_⟩
    by_cases hn:n < p.length
    · exact ⟨hn,by simp [hn]⟩
    · simp [List.getD_eq_getElem?_getD,List.getElem?_eq_none (Nat.le_of_not_lt hn)] at h
theorem sp_pool_Hold (x:Ptr) (p:List Int) (i:Int):Sp Tryz.prog lz [pv x,.int .i64 i] aH [fN x p] (fun r=>pa_ (r = (Pool.hold p i).1) [fN x (Pool.hold p i).2]):=by
  intro h s0
  refine sim_pool_Pool_Hold _ _ ?_
  unfold tg
  refine cU [0] (vr x p i) s0 rfl fun r h' s1=>?_
  obtain ⟨hr,s2⟩:=bF.1 s1
  subst hr
  refine bi (fun k=>?_) (fun k=>?_)
  · have k':Pool.refs p i = 0∨Pool.refs p i ≥ 7:=by simpa using k
    have e:Pool.hold p i = (false,p):=if_pos k'
    rw [e]
    exact bh rfl s2
  · have k':¬ (Pool.refs p i = 0∨Pool.refs p i ≥ 7):=by simpa using k
    have e:Pool.hold p i = (true,p.set i.toNat (IntKind.i64.wrap (Pool.refs p i + 1))):=if_neg k'
    rw [e]
    obtain ⟨n,rfl,hn,hg⟩:=refs_get (p:=p) (i:=i) (by omega)
    obtain ⟨b,s,rfl,hb,hl,st⟩:=pool_op s2
    refine cJ ?_
    refine bA s st (i:=0) rfl rfl rfl ?_
    refine dI st (j:=1) rfl (by omega) (by omega) fun q hq=>?_
    refine eE (j:=1) (i:=n) (k:=0) p[n] (di _) st rfl hq (by simp) (aM hn) (by simp) ?_
    refine st_v (j:=1) (i:=n) (k:=0) (IntKind.i64.wrap (p[n] + 1)) (di _) st rfl hq (by simp) (aM hn) (by simp) rfl fun h2 s3=>?_
    rw [hg]
    exact bh rfl (rp (by simpa using hb) s3)
theorem sp_pool_Let (x:Ptr) (p:List Int) (i:Int):Sp Tryz.prog mH [pv x,.int .i64 i] bS [fN x p] (fun r=>pa_ (r = ((Pool.lets p i).1,(Pool.lets p i).2.1)) [fN x (Pool.lets p i).2.2]):=by
  intro h s0
  refine sim_pool_Pool_Let _ _ ?_
  unfold uy
  refine cU [0] (vr x p i) s0 rfl fun r h' s1=>?_
  obtain ⟨hr,s2⟩:=bF.1 s1
  subst hr
  refine bi (fun k=>?_) (fun k=>?_)
  · have k':Pool.refs p i = 0:=by simpa using k
    have e:Pool.lets p i = (0,false,p):=if_pos k'
    rw [e]
    exact bh rfl s2
  · have k':¬ (Pool.refs p i = 0):=by simpa using k
    have e:Pool.lets p i = (IntKind.i64.wrap (Pool.refs p i - 1),true,p.set i.toNat (IntKind.i64.wrap (Pool.refs p i - 1))):=if_neg k'
    rw [e]
    obtain ⟨n,rfl,hn,hg⟩:=refs_get (p:=p) (i:=i) k'
    obtain ⟨b,s,rfl,hb,hl,st⟩:=pool_op s2
    refine cJ ?_
    refine bA s st (i:=0) rfl rfl rfl ?_
    refine dI st (j:=1) rfl (by omega) (by omega) fun q hq=>?_
    refine eE (j:=1) (i:=n) (k:=0) p[n] (di _) st rfl hq (by simp) (aM hn) (by simp) ?_
    refine st_v (j:=1) (i:=n) (k:=0) (IntKind.i64.wrap (p[n] - 1)) (di _) st rfl hq (by simp) (aM hn) (by simp) rfl fun h2 s3=>?_
    refine bA s s3 (i:=0) rfl rfl rfl ?_
    refine dI s3 (j:=1) rfl (by omega) (by simp; omega) fun q2 hq2=>?_
    refine eE (j:=1) (i:=n) (k:=0) (IntKind.i64.wrap (p[n] - 1)) (di _) s3 rfl hq2 (by simp) (x:=IntKind.i64.wrap (p[n] - 1)) (by simp [hn]) (by simp) ?_
    rw [hg]
    exact bh rfl (rp (by simpa using hb) s3)
theorem free_append:∀ (xs:List Int) (i:Int) (x:Int),Pool.freeFrom (xs++[x]) i = Pool.freeFrom xs i++(if x = 0 then [i + xs.length] else [])
  | [],i,x=>by simp only [List.nil_append,Pool.freeFrom]; split <;> simp
  | y::xs,i,x=>by
    simp only [List.cons_append,Pool.freeFrom]
    rw [free_append xs (i + 1) x]
    have e:i + 1 + (xs.length:Int) = i + ((y::xs).length:Int):=by simp; omega
    rw [e]
    split <;> simp
theorem free_len:∀ (xs:List Int) (i:Int),(Pool.freeFrom xs i).length ≤ xs.length
  | [],_=>Nat.le_refl _
  | x::xs,i=>by unfold Pool.freeFrom; have:=free_len xs (i + 1); split <;> simp <;> omega
theorem va {l:List As} {h:Hp} {i:Nat} {s:Sl} {xs:List Int} {x:Int} {K:Sl→Hp→Prop} (st:aN l h) (hi:l[i]? = some (vI s xs)) (hb:xs.length < 2 ^ 40)
    (k:∀ v h',aN (l.set i (vI v (xs++[x]))) h'→K v h'):hpv Tryz.prog (Instr.buildSlice dK 1 #[(0,.int .i64 x)]) cD (fun y=>hpv Tryz.prog (Builtin.append_ #[dK,dK] dK #[sv s,sv y]) cD K) h:=by
  refine fq (τ:=Int) [x] (val:=fun x=>.int .i64 x) (enc:=cI .i64) el_Sint (di _) (fun _=>rfl) st rfl rfl (by simp) fun y h' s1=>?_
  have hlt:=(List.getElem?_eq_some_iff.1 hi).1
  refine qw (τ:=Int) (i:=i + 1) (j:=0) (enc:=cI .i64) (ys:=[x]) el_Sint el_Sint.sl (di _) (oneI _) s1 (by simpa using hi) rfl (by omega) (by simp; omega) (by simp; omega) fun v h2 s2=>?_
  exact k v h2 (cm (l:=[vI y [x]]) (by simpa using s2))
theorem sp_pool_Free (x:Ptr) (p:List Int):Sp Tryz.prog lA [pv x] cD [fN x p] (fun r=>aN [vI r (Pool.free p),fN x p]):=by
  intro h s0
  obtain ⟨b,s,rfl,hb,hl,st⟩:=pool_op s0
  refine sim_pool_Pool_Free _ ?_
  unfold th
  refine dJ rfl (cJ ?_)
  refine bA s st (i:=0) rfl rfl rfl ?_
  refine Lp.intro (fun (z:Sl × Int) h=>∃ n:Nat,z.2 = n∧n ≤ p.length∧aN [vI z.1 (Pool.freeFrom (p.take n) 0),blk b pX [sv s],vI s p] h) (fun (z:Sl × Int) _=>p.length - z.2.toNat) ⟨0,rfl,Nat.zero_le _,fg st⟩ ?_
  rintro ⟨z,i⟩ h ⟨n,rfl,hn,s1⟩
  unfold nX
  refine bi (fun k=>?_) (fun k=>?_)
  · have hlt:n < p.length:=by rw [hl] at k; simpa using k
    have hw:IntKind.i64.wrap ((n:Int) + 1) = ((n + 1:Nat):Int):=by rw [bT (by omega) (by omega)]; rfl
    have ht:p.take (n + 1) = p.take n++[p[n]]:=by simp
    have hlen:((p.take n).length:Int) = n:=by simp; omega
    refine dI s1 (j:=2) rfl (by omega) (by show (n:Int) < _; omega) fun q hq=>?_
    refine eE (j:=2) (i:=n) (k:=0) p[n] (di _) s1 rfl hq (by simp) (aM hlt) (by simp) ?_
    refine bi (fun k2=>?_) (fun k2=>?_)
    · have k2':p[n] = 0:=by simpa using k2
      refine va s1 (i:=0) rfl ?_ fun v h' s2=>?_
      · have:=free_len (p.take n) 0; simp at this ⊢; omega
      · rw [hw]
        refine ⟨⟨n + 1,rfl,hlt,?_⟩,by simp; omega⟩
        rw [ht,free_append,if_pos k2',hlen,Int.zero_add]
        exact s2
    · have k2':¬ p[n] = 0:=by simpa using k2
      rw [hw]
      refine ⟨⟨n + 1,rfl,hlt,?_⟩,by simp; omega⟩
      rw [ht,free_append,if_neg k2',List.append_nil]
      exact s1
  · have:n = p.length:=by rw [hl] at k; simp at k; omega
    subst this
    rw [List.take_length] at s1
    exact ke (.cons _ (.refl _)) (bn (l:=[vI z (Pool.freeFrom p 0),fN (some (b,0)) p]) [0] (by
      have:=bn [1,1] s1 rfl
      exact bn [1] (rp hb this) rfl) rfl)
def Pool.bitsOf (w:Int):List Int→Int
  | []=>w
  | i::l=>Pool.bitsOf (ior .u64 w (IntKind.u64.wrap (1 * 2 ^ (min (Int.toNat i) (IntKind.bits .u64))))) l
def Pool.bits (p:List Int):Int:=Pool.bitsOf 0 (Pool.free p)
theorem free_ge:∀ (xs:List Int) (i:Int),0 ≤ i→∀ j ∈ Pool.freeFrom xs i,0 ≤ j
  | [],_,_,_,h=>by cases h
  | x::xs,i,hi,j,h=>by
    unfold Pool.freeFrom at h
    split at h
    · rcases List.mem_cons.1 h with rfl | h
      · exact hi
      · exact free_ge xs (i + 1) (by omega) j h
    · exact free_ge xs (i + 1) (by omega) j h
theorem bits_append (a:Int):∀ (l:List Int) (w:Int),Pool.bitsOf w (l++[a]) = ior .u64 (Pool.bitsOf w l) (IntKind.u64.wrap (1 * 2 ^ (min (Int.toNat a) (IntKind.bits .u64))))
  | [],_=>rfl
  | _::l,w=>by simp only [List.cons_append,Pool.bitsOf]; exact bits_append a l _
theorem sp_pool_Bits (x:Ptr) (p:List Int):Sp Tryz.prog pu [pv x] gC [fN x p] (fun r=>pa_ (r = Pool.bits p) [fN x p]):=by
  intro h s0
  have hp16:p.length ≤ 16:=by obtain ⟨_,_,_,hb,_⟩:=pool_op s0; exact hb
  refine sim_pool_Pool_Bits _ ?_
  unfold ti
  refine cU [0] (sp_pool_Free x p) s0 rfl fun r h1 s1=>?_
  have s2:=dF s1
  have hl:=(cq (j:=0) s2 rfl).1
  have hfl:=free_len p 0
  refine Lp.intro (fun (z:Int × Int) h=>∃ n:Nat,z.2 = n∧n ≤ (Pool.free p).length∧z.1 = Pool.bitsOf 0 ((Pool.free p).take n)∧aN [vI r (Pool.free p),fN x p] h) (fun (z:Int × Int) _=>(Pool.free p).length - z.2.toNat) ⟨0,rfl,Nat.zero_le _,rfl,s2⟩ ?_
  rintro ⟨w,i⟩ h ⟨n,rfl,hn,rfl,s3⟩
  unfold nY
  refine bi (fun k=>?_) (fun k=>?_)
  · have hlt:n < (Pool.free p).length:=by rw [hl] at k; simpa using k
    have hw:IntKind.i64.wrap ((n:Int) + 1) = ((n + 1:Nat):Int):=by
      have:(Pool.free p).length ≤ 16:=by unfold Pool.free; omega
      rw [bT (by omega) (by omega)]; rfl
    refine dI s3 (j:=0) rfl (by omega) (by show (n:Int) < _; omega) fun q hq=>?_
    refine eE (j:=0) (i:=n) (k:=0) (Pool.free p)[n] (di _) s3 rfl hq (by simp) (aM hlt) (by simp) ?_
    refine ⟨free_ge p 0 (Int.le_refl _) _ (List.getElem_mem hlt),?_⟩
    rw [hw]
    refine ⟨⟨n + 1,rfl,hlt,?_,s3⟩,by simp; omega⟩
    have ht:(Pool.free p).take (n + 1) = (Pool.free p).take n++[(Pool.free p)[n]]:=by simp
    rw [ht,bits_append]
  · have:n = (Pool.free p).length:=by rw [hl] at k; simp at k; omega
    subst this
    refine bh ?_ (cm (l:=[vI r (Pool.free p)]) s3)
    rw [List.take_length]; rfl
end Go.Proofs.YtniiiakkdoiaiaaGreatDoor
