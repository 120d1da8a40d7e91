/- Part of the proof of: The law RaceAdd returns true for every input, and leaves its arguments as they were. -/
import Derived.Test.YtemoifebbhoinaaGreatDoorRaceAdd02
set_option linter.all false
set_option maxRecDepth 20000
namespace Go.Proofs.YtemoifebbhoinaaGreatDoor
open Go.Proofs.Tryz
open Go.IntKind (i64 u64)
open _root_.Int (fdiv zero_add)
open _root_.List (cons_append replicate take_length)
open _root_.Nat (zero_le)
section
open Go Mb
def sh_word_Kind (a0:ai) (K:(Int × Bool)->Hp->Prop):Hp->Prop:=br (((decide (a0.e0 >= 1)) && (decide (a0.e0 <= 10))) || ((decide (a0.e0 >= 20)) && (decide (a0.e0 <= 23)))) ( K ((i64.wrap a0.e0),true)) ( K (0,false))
theorem sim_word_Kind (a0:ai) {K:(Int × Bool)->Hp->Prop} {h:Hp} (H:sh_word_Kind a0 K h):cl prog n_word_Kind [(.agg (ai.C a0).toArray)] bM K h:=z_i func63 p p fun _=>O<|aa<|cK (l:=ai.C a0) p p p fun b1=>J (av p)<|U p<|am<|O<|J (bA dc p p (by decide))<|bi (be (k:=0) cn p p p) p<|U p<|O<|M p<|J (jx p p)<|M p<|W p p (ay _) (fun g1=>wv<|aj p)<|W p p (ay _) (fun g2=>wv<|v_le (aC p g2) p)<|J (bP p p)<|M p<|W p p (aI _) (fun g3=>wv<|aj p)<|W p p (aI _) (fun g4=>wv<|jx (aC p g4) p)<|W p p (aI _) (fun g5=>wv<|aj<|aC p g5)<|W p p (ru _ _) (fun g6=>wv<|aj p)<|W p p (ru _ _) (fun g7=>wv<|v_le (aC p g7) p)<|W p p (aI _) (fun g8=>wv<|bP (aC p g8)<|aM p<|xo g8)<|J (dr p p)<|ae<|aw p H (fun k9 H10=>O<|M p<|J (dR ⟨_,underlying22⟩ underlying3 p)<|J (av p)<|U p<|ak<|bz (bT p (cc p)<|cc p) ⟨((i64.wrap a0.e0),true),p,H10⟩) fun k9 H10=>ap<|O<|J (av p)<|U p<|ak<|bz (bT p (cc p)<|cc p) ⟨(0,false),p,H10⟩
def ax (a0:ai):Int × Bool:=(bif (((decide (a0.e0 >= 1)) && (decide (a0.e0 <= 10))) || ((decide (a0.e0 >= 20)) && (decide (a0.e0 <= 23)))) then (((i64.wrap a0.e0),true)) else ((0,false)))
theorem pr_word_Kind (a0:ai) {K:(Int × Bool)->Hp->Prop} {h:Hp} (k:K (ax a0) h):sh_word_Kind a0 K h:=(km (K:=K) (fun k=>k) (fun k=>k)) k
theorem kj (a0:ai) (h:Hp):Ct prog n_word_Kind #[(.agg (ai.C a0).toArray)] h fun v h'=>∃ r,v = bM r/\(r = ax a0/\h' = h):=sim_word_Kind a0 (pr_word_Kind a0 ⟨rfl,rfl⟩)
def sh_word_User (a0:Int) (K:Bool->Hp->Prop):Hp->Prop:=K ((decide (a0 >= 20)) && (decide (a0 <= 23)))
theorem sim_word_User (a0:Int) {K:Bool->Hp->Prop} {h:Hp} (H:sh_word_User a0 K h):cl prog n_word_User [(.int .i64 a0)] aB K h:=z_i func64 p p fun _=>O<|U p<|O<|M p<|J (jx p p)<|M p<|W p p (ay _) (fun g1=>wv<|aj p)<|W p p (ay _) (fun g2=>wv<|v_le (aC p g2) p)<|J (bP p p)<|U p<|ak<|Z ⟨((decide (a0 >= 20)) && (decide (a0 <= 23))),p,H⟩
def bF (a0:Int):Bool:=(((decide (a0 >= 20)) && (decide (a0 <= 23))))
theorem pr_word_User (a0:Int) {K:Bool->Hp->Prop} {h:Hp} (k:K (bF a0) h):sh_word_User a0 K h:=(fun k=>k) k
theorem sk (a0:Int) (h:Hp):Ct prog n_word_User #[(.int .i64 a0)] h fun v h'=>∃ r,v = aB r/\(r = bF a0/\h' = h):=sim_word_User a0 (pr_word_User a0 ⟨rfl,rfl⟩)
def sh_word_Rights (a0:Int) (K:(Int × Bool)->Hp->Prop):Hp->Prop:=br ((decide (a0 < 1)) || (decide (a0 > 3))) ( K (0,false)) ( K ((i64.wrap a0),true))
theorem sim_word_Rights (a0:Int) {K:(Int × Bool)->Hp->Prop} {h:Hp} (H:sh_word_Rights a0 K h):cl prog n_word_Rights [(.int .u64 a0)] bM K h:=z_i func193 p p fun _=>O<|J (av p)<|U p<|am<|O<|M p<|J (cu p p)<|M p<|W p p (aI _) (fun g1=>wv<|aj p)<|W p p (aI _) (fun g2=>wv<|qA (aC p g2) p)<|J (dr p p)<|ae<|aw p H (fun k3 H4=>O<|J (av p)<|U p<|ak<|bz (bT p (cc p)<|cc p) ⟨(0,false),p,H4⟩) fun k3 H4=>ap<|O<|M p<|J (dR ⟨_,underlying22⟩ underlying3 p)<|J (av p)<|U p<|ak<|bz (bT p (cc p)<|cc p) ⟨((i64.wrap a0),true),p,H4⟩
def ib (a0:Int):Int × Bool:=(bif ((decide (a0 < 1)) || (decide (a0 > 3))) then ((0,false)) else (((i64.wrap a0),true)))
theorem pr_word_Rights (a0:Int) {K:(Int × Bool)->Hp->Prop} {h:Hp} (k:K (ib a0) h):sh_word_Rights a0 K h:=(km (K:=K) (fun k=>k) (fun k=>k)) k
theorem ct_word_Rights (a0:Int) (h:Hp):Ct prog n_word_Rights #[(.int .u64 a0)] h fun v h'=>∃ r,v = bM r/\(r = ib a0/\h' = h):=sim_word_Rights a0 (pr_word_Rights a0 ⟨rfl,rfl⟩)
def sh_table_is (a0:Int) (K:Bool->Hp->Prop):Hp->Prop:=K ((decide (a0 >= 0)) && (decide (a0 < 8)))
theorem sim_table_is (a0:Int) {K:Bool->Hp->Prop} {h:Hp} (H:sh_table_is a0 K h):cl prog n_table_is [(.int .i64 a0)] aB K h:=z_i func156 p p fun _=>O<|U p<|O<|M p<|J (jx p p)<|M p<|W p p (ay _) (fun g1=>wv<|aj p)<|W p p (ay _) (fun g2=>wv<|cu (aC p g2) p)<|J (bP p p)<|U p<|ak<|Z ⟨((decide (a0 >= 0)) && (decide (a0 < 8))),p,H⟩
def bv (a0:Int):Bool:=(((decide (a0 >= 0)) && (decide (a0 < 8))))
theorem pr_table_is (a0:Int) {K:Bool->Hp->Prop} {h:Hp} (k:K (bv a0) h):sh_table_is a0 K h:=(fun k=>k) k
theorem uE (a0:Int) (h:Hp):Ct prog n_table_is #[(.int .i64 a0)] h fun v h'=>∃ r,v = aB r/\(r = bv a0/\h' = h):=sim_table_is a0 (pr_table_is a0 ⟨rfl,rfl⟩)
def sh_pte_May (a0:Int) (K:Bool->Hp->Prop):Hp->Prop:=K ((decide (a0 >= 1)) && (decide (a0 <= 3)))
theorem sim_pte_May (a0:Int) {K:Bool->Hp->Prop} {h:Hp} (H:sh_pte_May a0 K h):cl prog n_pte_May [(.int .i64 a0)] aB K h:=z_i func166 p p fun _=>O<|U p<|O<|M p<|J (jx p p)<|M p<|W p p (ay _) (fun g1=>wv<|aj p)<|W p p (ay _) (fun g2=>wv<|v_le (aC p g2) p)<|J (bP p p)<|U p<|ak<|Z ⟨((decide (a0 >= 1)) && (decide (a0 <= 3))),p,H⟩
def cf (a0:Int):Bool:=(((decide (a0 >= 1)) && (decide (a0 <= 3))))
theorem pr_pte_May (a0:Int) {K:Bool->Hp->Prop} {h:Hp} (k:K (cf a0) h):sh_pte_May a0 K h:=(fun k=>k) k
theorem qk (a0:Int) (h:Hp):Ct prog n_pte_May #[(.int .i64 a0)] h fun v h'=>∃ r,v = aB r/\(r = cf a0/\h' = h):=sim_pte_May a0 (pr_pte_May a0 ⟨rfl,rfl⟩)
def sh_pte_Within (a0:Int) (a1:Int) (K:Bool->Hp->Prop):Hp->Prop:=K (((cf a0) && (cf a1)) && ((iandnot .i64 a0 a1) == 0))
theorem sim_pte_Within (a0:Int) (a1:Int) {K:Bool->Hp->Prop} {h:Hp} (H:sh_pte_Within a0 a1 K h):cl prog n_pte_Within [(.int .i64 a0),(.int .i64 a1)] aB K h:=z_i func116 p p fun _=>O<|U p<|O<|M p<|aa<|cJ (vs:=[(.int .i64 a0)]) (bw<|qk a0 _) en_166 p p<|M p<|W p p (ay _) (fun g1=>wv<|aj p)<|db (vs:=[(.int .i64 a1)]) p p p (ay _) (fun g2=>bw<|qk a1 _) en_166 (fun g2=>aR (aC p g2) bO) p<|J (bP p p)<|M p<|W p p (ay _) (fun g3=>wv<|aj p)<|W p p (ay _) (fun g4=>wv<|aj p)<|W p p (ay _) (fun g5=>wv<|v_iandnot (aC p g5)<|aC p g5)<|W p p (ay _) (fun g6=>wv<|bR (aC p g6) p)<|J (bP p p)<|U p<|ak<|Z ⟨(((cf a0) && (cf a1)) && ((iandnot .i64 a0 a1) == 0)),p,H⟩
def aP (a0:Int) (a1:Int):Bool:=((((cf a0) && (cf a1)) && ((iandnot .i64 a0 a1) == 0)))
theorem pr_pte_Within (a0:Int) (a1:Int) {K:Bool->Hp->Prop} {h:Hp} (k:K (aP a0 a1) h):sh_pte_Within a0 a1 K h:=(fun k=>k) k
theorem df (a0:Int) (a1:Int) (h:Hp):Ct prog n_pte_Within #[(.int .i64 a0),(.int .i64 a1)] h fun v h'=>∃ r,v = aB r/\(r = aP a0 a1/\h' = h):=sim_pte_Within a0 a1 (pr_pte_Within a0 a1 ⟨rfl,rfl⟩)
def sh_pte_Put (a0:an) (K:(Int × Bool)->Hp->Prop):Hp->Prop:=br (an.eqb a0 (⟨0,0,0⟩:an)) ( K (0,true)) ( br (((((decide (a0.fEa < 0)) || (decide (a0.fEa >= 16))) || (decide (a0.fDa < 0))) || (decide (a0.fDa >= 8))) || (!(cf a0.fBa))) ( K (0,false)) ( K ((u64.wrap (i64.wrap ((i64.wrap ((i64.wrap (32768 + (i64.wrap (256 * a0.fEa)))) + (i64.wrap (16 * a0.fDa)))) + a0.fBa))),true)))
theorem sim_pte_Put (a0:an) {K:(Int × Bool)->Hp->Prop} {h:Hp} (H:sh_pte_Put a0 K h):cl prog n_pte_Put [(.agg (an.C a0).toArray)] bK K h:=z_i func155 p p fun _=>O<|aa<|cK (l:=an.C a0) p p p fun b1=>J (av p)<|U p<|am<|O<|bi (bD (k:=0) fG p p p p) p<|J (aZ (vs:=[]) p mY)<|J (v_eqA eqg_79 (eqr_79 9998 _ _) p p)<|ae<|aw p H (fun k1 H2=>O<|J (av p)<|U p<|ak<|bz (bT p (cc p)<|cc p) ⟨(0,true),p,H2⟩) fun k1 H2=>ap<|am<|O<|J (ah qU p)<|bi (be (k:=0) bb p p p) p<|J (cu p p)<|M p<|W p p (aI _) (fun g3=>wv<|ah qU p)<|W p p (aI _) (fun g4=>cv<|be (k:=0) bb (aC p g4) p p)<|W p p (aI _) (fun g5=>wv<|jx (aC p g5) p)<|J (dr p p)<|M p<|W p p (aI _) (fun g6=>wv<|ah tj p)<|W p p (aI _) (fun g7=>cv<|be (k:=0) bb (aC p g7) p p)<|W p p (aI _) (fun g8=>wv<|cu (aC p g8) p)<|J (dr p p)<|M p<|W p p (aI _) (fun g9=>wv<|ah tj p)<|W p p (aI _) (fun g10=>cv<|be (k:=0) bb (aC p g10) p p)<|W p p (aI _) (fun g11=>wv<|jx (aC p g11) p)<|J (dr p p)<|M p<|W p p (aI _) (fun g12=>wv<|ah eJ p)<|W p p (aI _) (fun g13=>cv<|be (k:=0) bb (aC p g13) p p)<|db (vs:=[(.int .i64 a0.fBa)]) p p p (aI _) (fun g14=>bw<|qk a0.fBa _) en_166 (fun g14=>aR (aC p g14) bO) p<|W p p (aI _) (fun g15=>wv<|ct<|aC p g15)<|J (dr p p)<|ae<|aw p H2 (fun k16 H17=>O<|J (av p)<|U p<|ak<|bz (bT p (cc p)<|cc p) ⟨(0,false),p,H17⟩) fun k16 H17=>ap<|O<|J (ah qU p)<|bi (be (k:=0) bb p p p) p<|J (v_mul p p)<|J (bo p p)<|J (ah tj p)<|bi (be (k:=0) bb p p p) p<|J (v_mul p p)<|J (bo p p)<|J (ah eJ p)<|bi (be (k:=0) bb p p p) p<|J (bo p p)<|J (dR ⟨_,underlying3⟩ underlying22 p)<|J (av p)<|U p<|ak<|bz (bT p (cc p)<|cc p) ⟨((u64.wrap (i64.wrap ((i64.wrap ((i64.wrap (32768 + (i64.wrap (256 * a0.fEa)))) + (i64.wrap (16 * a0.fDa)))) + a0.fBa))),true),p,H17⟩
def eQ (a0:an):Int × Bool:=(bif (an.eqb a0 (⟨0,0,0⟩:an)) then ((0,true)) else (bif (((((decide (a0.fEa < 0)) || (decide (a0.fEa >= 16))) || (decide (a0.fDa < 0))) || (decide (a0.fDa >= 8))) || (!(cf a0.fBa))) then ((0,false)) else (((u64.wrap (i64.wrap ((i64.wrap ((i64.wrap (32768 + (i64.wrap (256 * a0.fEa)))) + (i64.wrap (16 * a0.fDa)))) + a0.fBa))),true))))
theorem pr_pte_Put (a0:an) {K:(Int × Bool)->Hp->Prop} {h:Hp} (k:K (eQ a0) h):sh_pte_Put a0 K h:=(km (K:=K) (fun k=>k) (km (K:=K) (fun k=>k) (fun k=>k))) k
theorem ct_pte_Put (a0:an) (h:Hp):Ct prog n_pte_Put #[(.agg (an.C a0).toArray)] h fun v h'=>∃ r,v = bK r/\(r = eQ a0/\h' = h):=sim_pte_Put a0 (pr_pte_Put a0 ⟨rfl,rfl⟩)
def sh_tlb_empty (K:ao->Hp->Prop):Hp->Prop:=K (⟨(-1),0,0,0⟩:ao)
theorem sim_tlb_empty {K:ao->Hp->Prop} {h:Hp} (H:sh_tlb_empty K h):cl prog n_tlb_empty [] R_api_Line K h:=z_i func152 p p fun _=>O<|aa<|aN (l:=ao.C (⟨0,0,0,0⟩:ao)) kP p p fun b0=>ae<|O<|J (aZ p<|build_54_0 (-1))<|aa<|aQ (k:=0) (vs:=ao.C (⟨(-1),0,0,0⟩:ao)) fK p p p p p p p<|ae<|ak<|bz (mU p<|bE (k:=0) p hG p p) ⟨(⟨(-1),0,0,0⟩:ao),p,H⟩
def fZ:ao:=((⟨(-1),0,0,0⟩:ao))
theorem pr_tlb_empty {K:ao->Hp->Prop} {h:Hp} (k:K (fZ) h):sh_tlb_empty K h:=(fun k=>k) k
theorem ct_tlb_empty (h:Hp):Ct prog n_tlb_empty #[] h fun v h'=>∃ r,v = R_api_Line r/\(r = fZ/\h' = h):=sim_tlb_empty (pr_tlb_empty ⟨rfl,rfl⟩)
def sh_pte_Lets (a0:Int) (a1:Int) (K:Bool->Hp->Prop):Hp->Prop:=br (a1 == 20) ( K (aP 1 a0)) ( br (a1 == 21) ( K (aP 2 a0)) ( br (a1 == 22) ( K (aP 3 a0)) ( br (a1 == 23) ( K (aP 3 a0)) ( K (aP 0 a0)))))
theorem sim_pte_Lets (a0:Int) (a1:Int) {K:Bool->Hp->Prop} {h:Hp} (H:sh_pte_Lets a0 a1 K h):cl prog n_pte_Lets [(.int .i64 a0),(.int .i64 a1)] aB K h:=z_i func158 p p fun _=>O<|U p<|O<|U p<|am<|O<|M p<|ae<|az<|O<|J (bR p p)<|U p<|aw p H (fun k1 H2=>aq<|U p<|O<|M p<|M p<|aa<|cJ (vs:=[(.int .i64 1),(.int .i64 a0)]) (bw<|df 1 a0 _) mF p p<|U p<|ak<|Z ⟨aP 1 a0,p,H2⟩) fun k1 H2=>O<|J (bR p p)<|U p<|aw p H2 (fun k3 H4=>aq<|U p<|O<|M p<|M p<|aa<|cJ (vs:=[(.int .i64 2),(.int .i64 a0)]) (bw<|df 2 a0 _) mF p p<|U p<|ak<|Z ⟨aP 2 a0,p,H4⟩) fun k3 H4=>am<|O<|J (bR p p)<|U p<|aw p H4 (fun k5 H6=>ap<|lH p k5<|aq<|U p<|O<|M p<|M p<|aa<|cJ (vs:=[(.int .i64 3),(.int .i64 a0)]) (bw<|df 3 a0 _) mF p p<|U p<|ak<|Z ⟨aP 3 a0,p,H6⟩) fun k5 H6=>aq<|J (bR p p)<|U p<|aw p H6 (fun k7 H8=>aq<|U p<|O<|M p<|M p<|aa<|cJ (vs:=[(.int .i64 3),(.int .i64 a0)]) (bw<|df 3 a0 _) mF p p<|U p<|ak<|Z ⟨aP 3 a0,p,H8⟩) fun k7 H8=>ap<|O<|M p<|M p<|aa<|cJ (vs:=[(.int .i64 0),(.int .i64 a0)]) (bw<|df 0 a0 _) mF p p<|U p<|ak<|Z ⟨aP 0 a0,p,H8⟩
def cq (a0:Int) (a1:Int):Bool:=(bif (a1 == 20) then ((aP 1 a0)) else (bif (a1 == 21) then ((aP 2 a0)) else (bif (a1 == 22) then ((aP 3 a0)) else (bif (a1 == 23) then ((aP 3 a0)) else ((aP 0 a0))))))
theorem pr_pte_Lets (a0:Int) (a1:Int) {K:Bool->Hp->Prop} {h:Hp} (k:K (cq a0 a1) h):sh_pte_Lets a0 a1 K h:=(km (K:=K) (fun k=>k) (km (K:=K) (fun k=>k) (km (K:=K) (fun k=>k) (km (K:=K) (fun k=>k) (fun k=>k))))) k
theorem jS (a0:Int) (a1:Int) (h:Hp):Ct prog n_pte_Lets #[(.int .i64 a0),(.int .i64 a1)] h fun v h'=>∃ r,v = aB r/\(r = cq a0 a1/\h' = h):=sim_pte_Lets a0 a1 (pr_pte_Lets a0 a1 ⟨rfl,rfl⟩)
def rL (a0:Int) (K:Bool->Hp->Prop):Hp->Prop:=K (a0 != a0)
theorem sim_cmp_isNaN_uint64 (a0:Int) {K:Bool->Hp->Prop} {h:Hp} (H:rL a0 K h):cl prog te [(.int .u64 a0)] aB K h:=z_i func218 p p fun _=>O<|U p<|O<|M p<|M p<|J (ph p p)<|U p<|ak<|Z ⟨(a0 != a0),p,H⟩
def du (a0:Int):Bool:=((a0 != a0))
theorem pr_cmp_isNaN_uint64 (a0:Int) {K:Bool->Hp->Prop} {h:Hp} (k:K (du a0) h):rL a0 K h:=(fun k=>k) k
theorem rO (a0:Int) (h:Hp):Ct prog te #[(.int .u64 a0)] h fun v h'=>∃ r,v = aB r/\(r = du a0/\h' = h):=sim_cmp_isNaN_uint64 a0 (pr_cmp_isNaN_uint64 a0 ⟨rfl,rfl⟩)
def sP (a0:Int) (a1:Int) (K:Bool->Hp->Prop):Hp->Prop:=K (((du a0) && (!(du a1))) || (decide (a0 < a1)))
theorem sim_cmp_Less_uint64 (a0:Int) (a1:Int) {K:Bool->Hp->Prop} {h:Hp} (H:sP a0 a1 K h):cl prog uw [(.int .u64 a0),(.int .u64 a1)] aB K h:=z_i func195 p p fun _=>O<|U p<|O<|M p<|aa<|cJ (vs:=[(.int .u64 a0)]) (bw<|rO a0 _) en_218 p p<|M p<|W p p (ay _) (fun g1=>wv<|aj p)<|db (vs:=[(.int .u64 a1)]) p p p (ay _) (fun g2=>bw<|rO a1 _) en_218 (fun g2=>aR (aC p g2) bO) p<|W p p (ay _) (fun g3=>wv<|ct<|aC p g3)<|J (bP p p)<|M p<|W p p (aI _) (fun g4=>wv<|aj p)<|W p p (aI _) (fun g5=>wv<|aj p)<|W p p (aI _) (fun g6=>wv<|cu (aC p g6)<|aC p g6)<|J (dr p p)<|U p<|ak<|Z ⟨(((du a0) && (!(du a1))) || (decide (a0 < a1))),p,H⟩
def ic (a0:Int) (a1:Int):Bool:=((((du a0) && (!(du a1))) || (decide (a0 < a1))))
theorem pr_cmp_Less_uint64 (a0:Int) (a1:Int) {K:Bool->Hp->Prop} {h:Hp} (k:K (ic a0 a1) h):sP a0 a1 K h:=(fun k=>k) k
theorem ct_cmp_Less_uint64 (a0:Int) (a1:Int) (h:Hp):Ct prog uw #[(.int .u64 a0),(.int .u64 a1)] h fun v h'=>∃ r,v = aB r/\(r = ic a0 a1/\h' = h):=sim_cmp_Less_uint64 a0 a1 (pr_cmp_Less_uint64 a0 a1 ⟨rfl,rfl⟩)
def ox (a0:Int) (K:Bool->Hp->Prop):Hp->Prop:=K (a0 != a0)
theorem vg (a0:Int) {K:Bool->Hp->Prop} {h:Hp} (H:ox a0 K h):cl prog pI [(.int .u64 a0)] aB K h:=z_i func196 p p fun _=>O<|U p<|O<|M p<|M p<|J (ph p p)<|U p<|ak<|Z ⟨(a0 != a0),p,H⟩
def dF (a0:Int):Bool:=((a0 != a0))
theorem wV (a0:Int) {K:Bool->Hp->Prop} {h:Hp} (k:K (dF a0) h):ox a0 K h:=(fun k=>k) k
theorem oW (a0:Int) (h:Hp):Ct prog pI #[(.int .u64 a0)] h fun v h'=>∃ r,v = aB r/\(r = dF a0/\h' = h):=vg a0 (wV a0 ⟨rfl,rfl⟩)
def sh_plain_fails (a0:Int) (K:(ab × Bool)->Hp->Prop):Hp->Prop:=K ((⟨a0,0⟩:ab),true)
theorem sim_plain_fails (a0:Int) {K:(ab × Bool)->Hp->Prop} {h:Hp} (H:sh_plain_fails a0 K h):cl prog n_plain_fails [(.int .i64 a0)] bd K h:=z_i func123 p p fun _=>O<|aa<|aN (l:=ab.C (⟨0,0⟩:ab)) cY p p fun b2=>U p<|O<|M p<|J (aZ p<|jn a0)<|aa<|aQ (k:=0) (vs:=ab.C (⟨a0,0⟩:ab)) bL p p p p p p p<|U p<|ak<|bz (bT p (bE (k:=0) p cz p p)<|cc p) ⟨((⟨a0,0⟩:ab),true),p,H⟩
def aO (a0:Int):ab × Bool:=(((⟨a0,0⟩:ab),true))
theorem pr_plain_fails (a0:Int) {K:(ab × Bool)->Hp->Prop} {h:Hp} (k:K (aO a0) h):sh_plain_fails a0 K h:=(fun k=>k) k
theorem dH (a0:Int) (h:Hp):Ct prog n_plain_fails #[(.int .i64 a0)] h fun v h'=>∃ r,v = bd r/\(r = aO a0/\h' = h):=sim_plain_fails a0 (pr_plain_fails a0 ⟨rfl,rfl⟩)
def sh_pred_Holds (a0:Int) (a1:Int) (a2:Int) (K:Bool->Hp->Prop):Hp->Prop:=br (a0 == 1) ( K (a1 == a2)) ( br (a0 == 2) ( K (a1 != a2)) ( br (a0 == 3) ( K (decide (a1 < a2))) ( br (a0 == 4) ( K (decide (a1 > a2))) ( K false))))
theorem sim_pred_Holds (a0:Int) (a1:Int) (a2:Int) {K:Bool->Hp->Prop} {h:Hp} (H:sh_pred_Holds a0 a1 a2 K h):cl prog n_pred_Holds [(.int .i64 a0),(.int .u64 a1),(.int .u64 a2)] aB K h:=z_i func148 p p fun _=>O<|U p<|am<|O<|M p<|ae<|az<|O<|J (bR p p)<|U p<|aw p H (fun k1 H2=>O<|M p<|M p<|J (bR p p)<|U p<|ak<|Z ⟨(a1 == a2),p,H2⟩) fun k1 H2=>O<|J (bR p p)<|U p<|aw p H2 (fun k3 H4=>O<|M p<|M p<|J (ph p p)<|U p<|ak<|Z ⟨(a1 != a2),p,H4⟩) fun k3 H4=>O<|J (bR p p)<|U p<|aw p H4 (fun k5 H6=>O<|M p<|M p<|J (cu p p)<|U p<|ak<|Z ⟨decide (a1 < a2),p,H6⟩) fun k5 H6=>O<|J (bR p p)<|U p<|aw p H6 (fun k7 H8=>O<|M p<|M p<|J (qA p p)<|U p<|ak<|Z ⟨decide (a1 > a2),p,H8⟩) fun k7 H8=>ap<|O<|U p<|ak<|Z ⟨false,p,H8⟩
def mV (a0:Int) (a1:Int) (a2:Int):Bool:=(bif (a0 == 1) then ((a1 == a2)) else (bif (a0 == 2) then ((a1 != a2)) else (bif (a0 == 3) then ((decide (a1 < a2))) else (bif (a0 == 4) then ((decide (a1 > a2))) else (false)))))
theorem pr_pred_Holds (a0:Int) (a1:Int) (a2:Int) {K:Bool->Hp->Prop} {h:Hp} (k:K (mV a0 a1 a2) h):sh_pred_Holds a0 a1 a2 K h:=(km (K:=K) (fun k=>k) (km (K:=K) (fun k=>k) (km (K:=K) (fun k=>k) (km (K:=K) (fun k=>k) (fun k=>k))))) k
theorem uZ (a0:Int) (a1:Int) (a2:Int) (h:Hp):Ct prog n_pred_Holds #[(.int .i64 a0),(.int .u64 a1),(.int .u64 a2)] h fun v h'=>∃ r,v = aB r/\(r = mV a0 a1 a2/\h' = h):=sim_pred_Holds a0 a1 a2 (pr_pred_Holds a0 a1 a2 ⟨rfl,rfl⟩)
def sh_hist_one (a0:aF) (a1:aJ) (a2:Int) (K:Bool->Hp->Prop):Hp->Prop:=br (((((decide (a0.fQa < 0)) || (decide (a0.fQa >= a1.fWa))) || (decide (a0.fCa < 0))) || (decide (a0.fCa >= a1.fIa))) || (decide (a0.fRa <= a2))) ( K false) ( br (a0.fHa == 0) ( K (a0.fYa == 0)) ( K ((decide (a0.fHa >= a0.fRa)) && ((a0.fYa == 0) || (decide (a0.fYa >= a0.fHa))))))
theorem sim_hist_one (a0:aF) (a1:aJ) (a2:Int) {K:Bool->Hp->Prop} {h:Hp} (H:sh_hist_one a0 a1 a2 K h):cl prog n_hist_one [(.agg (aF.C a0).toArray),(.agg (aJ.C a1).toArray),(.int .i64 a2)] aB K h:=z_i func61 p p fun _=>O<|aa<|cK (l:=aF.C a0) p p p fun b3=>aa<|cK (l:=aJ.C a1) p p p fun b4=>U p<|am<|az<|O<|J (ah tm p)<|bi (be (k:=1) bb p p p) p<|J (cu p p)<|M p<|W p p (aI _) (fun g1=>wv<|ah tm p)<|W p p (aI _) (fun g2=>cv<|be (k:=1) bb (aC p g2) p p)<|W p p (aI _) (fun g3=>wv<|ah oV p)<|W p p (aI _) (fun g4=>cv<|be (k:=0) bb (aC p g4) p p)<|W p p (aI _) (fun g5=>wv<|jx (aC p g5)<|aC p g5)<|J (dr p p)<|M p<|W p p (aI _) (fun g6=>wv<|ah oU p)<|W p p (aI _) (fun g7=>cv<|be (k:=1) bb (aC p g7) p p)<|W p p (aI _) (fun g8=>wv<|cu (aC p g8) p)<|J (dr p p)<|M p<|W p p (aI _) (fun g9=>wv<|ah oU p)<|W p p (aI _) (fun g10=>cv<|be (k:=1) bb (aC p g10) p p)<|W p p (aI _) (fun g11=>wv<|ah mX p)<|W p p (aI _) (fun g12=>cv<|be (k:=0) bb (aC p g12) p p)<|W p p (aI _) (fun g13=>wv<|jx (aC p g13)<|aC p g13)<|J (dr p p)<|M p<|W p p (aI _) (fun g14=>wv<|ah tk p)<|W p p (aI _) (fun g15=>cv<|be (k:=1) bb (aC p g15) p p)<|W p p (aI _) (fun g16=>wv<|aj p)<|W p p (aI _) (fun g17=>wv<|v_le (aC p g17)<|aC p g17)<|J (dr p p)<|U p<|aw p H (fun k18 H19=>O<|U p<|ak<|Z ⟨false,p,H19⟩) fun k18 H19=>O<|J (ah iY p)<|bi (be (k:=1) bb p p p) p<|J (bR p p)<|U p<|aw p H19 (fun k20 H21=>O<|J (ah qV p)<|bi (be (k:=1) bb p p p) p<|J (bR p p)<|U p<|ak<|Z ⟨(a0.fYa == 0),p,H21⟩) fun k20 H21=>ap<|O<|J (ah iY p)<|bi (be (k:=1) bb p p p) p<|J (ah tk p)<|bi (be (k:=1) bb p p p) p<|J (jx p p)<|M p<|W p p (ay _) (fun g22=>wv<|ah qV p)<|W p p (ay _) (fun g23=>cv<|be (k:=1) bb (aC p g23) p p)<|W p p (ay _) (fun g24=>wv<|bR (aC p g24) p)<|W p p (ay _) (fun g25=>wv<|aj<|aC p g25)<|W p p (dS _ _) (fun g26=>wv<|ah qV p)<|W p p (dS _ _) (fun g27=>cv<|be (k:=1) bb (aC p g27) p p)<|W p p (dS _ _) (fun g28=>wv<|ah iY p)<|W p p (dS _ _) (fun g29=>cv<|be (k:=1) bb (aC p g29) p p)<|W p p (dS _ _) (fun g30=>wv<|jx (aC p g30)<|aC p g30)<|W p p (ay _) (fun g31=>wv<|dr (aC p g31)<|aM p<|xo g31)<|J (bP p p)<|U p<|ak<|Z ⟨((decide (a0.fHa >= a0.fRa)) && ((a0.fYa == 0) || (decide (a0.fYa >= a0.fHa)))),p,H21⟩
def eE (a0:aF) (a1:aJ) (a2:Int):Bool:=(bif (((((decide (a0.fQa < 0)) || (decide (a0.fQa >= a1.fWa))) || (decide (a0.fCa < 0))) || (decide (a0.fCa >= a1.fIa))) || (decide (a0.fRa <= a2))) then (false) else (bif (a0.fHa == 0) then ((a0.fYa == 0)) else (((decide (a0.fHa >= a0.fRa)) && ((a0.fYa == 0) || (decide (a0.fYa >= a0.fHa)))))))
theorem pr_hist_one (a0:aF) (a1:aJ) (a2:Int) {K:Bool->Hp->Prop} {h:Hp} (k:K (eE a0 a1 a2) h):sh_hist_one a0 a1 a2 K h:=(km (K:=K) (fun k=>k) (km (K:=K) (fun k=>k) (fun k=>k))) k
theorem ct_hist_one (a0:aF) (a1:aJ) (a2:Int) (h:Hp):Ct prog n_hist_one #[(.agg (aF.C a0).toArray),(.agg (aJ.C a1).toArray),(.int .i64 a2)] h fun v h'=>∃ r,v = aB r/\(r = eE a0 a1 a2/\h' = h):=sim_hist_one a0 a1 a2 (pr_hist_one a0 a1 a2 ⟨rfl,rfl⟩)
def vx (a0:aF) (K:Bool->Hp->Prop):Hp->Prop:=K (decide (a0.fHa > 0))
theorem sim_hist_Order_c1 (a0:aF) {K:Bool->Hp->Prop} {h:Hp} (H:vx a0 K h):cl prog ni [(.agg (aF.C a0).toArray)] aB K h:=z_i func93 p p fun _=>O<|aa<|cK (l:=aF.C a0) p p p fun b1=>U p<|O<|J (ah iY p)<|bi (be (k:=0) bb p p p) p<|J (qA p p)<|U p<|ak<|Z ⟨decide (a0.fHa > 0),p,H⟩
def vD (a0:aF):Bool:=((decide (a0.fHa > 0)))
theorem pr_hist_Order_c1 (a0:aF) {K:Bool->Hp->Prop} {h:Hp} (k:K (vD a0) h):vx a0 K h:=(fun k=>k) k
theorem ct_hist_Order_c1 (a0:aF) (h:Hp):Ct prog ni #[(.agg (aF.C a0).toArray)] h fun v h'=>∃ r,v = aB r/\(r = vD a0/\h' = h):=sim_hist_Order_c1 a0 (pr_hist_Order_c1 a0 ⟨rfl,rfl⟩)
def vy (a0:Int) (K:Bool->Hp->Prop):Hp->Prop:=K (a0 != a0)
theorem sim_cmp_isNaN_int (a0:Int) {K:Bool->Hp->Prop} {h:Hp} (H:vy a0 K h):cl prog n_cmp_isNaN_int [(.int .i64 a0)] aB K h:=z_i func138 p p fun _=>O<|U p<|O<|M p<|M p<|J (ph p p)<|U p<|ak<|Z ⟨(a0 != a0),p,H⟩
def eo (a0:Int):Bool:=((a0 != a0))
theorem pr_cmp_isNaN_int (a0:Int) {K:Bool->Hp->Prop} {h:Hp} (k:K (eo a0) h):vy a0 K h:=(fun k=>k) k
theorem wc (a0:Int) (h:Hp):Ct prog n_cmp_isNaN_int #[(.int .i64 a0)] h fun v h'=>∃ r,v = aB r/\(r = eo a0/\h' = h):=sim_cmp_isNaN_int a0 (pr_cmp_isNaN_int a0 ⟨rfl,rfl⟩)
def sQ (a0:Int) (a1:Int) (K:Int->Hp->Prop):Hp->Prop:=br (eo a0) ( br (eo a1) ( K 0) ( K (-1))) ( br (eo a1) ( K 1) ( br (decide (a0 < a1)) ( K (-1)) ( br (decide (a0 > a1)) ( K 1) ( K 0))))
theorem sim_cmp_Compare_int (a0:Int) (a1:Int) {K:Int->Hp->Prop} {h:Hp} (H:sQ a0 a1 K h):cl prog ux [(.int .i64 a0),(.int .i64 a1)] eA K h:=z_i func96 p p fun _=>O<|U p<|O<|M p<|aa<|cJ (vs:=[(.int .i64 a0)]) (bw<|wc a0 _) en_138 p p<|U p<|O<|M p<|aa<|cJ (vs:=[(.int .i64 a1)]) (bw<|wc a1 _) en_138 p p<|U p<|am<|O<|M p<|ae<|aw p H (fun k1 H2=>am<|O<|M p<|ae<|aw p H2 (fun k3 H4=>O<|U p<|ak<|Z ⟨0,p,H4⟩) fun k3 H4=>ap<|O<|U p<|ak<|Z ⟨(-1),p,H4⟩) fun k1 H2=>ap<|am<|O<|M p<|ae<|aw p H2 (fun k5 H6=>O<|U p<|ak<|Z ⟨1,p,H6⟩) fun k5 H6=>ap<|am<|O<|M p<|M p<|J (cu p p)<|ae<|aw p H6 (fun k7 H8=>O<|U p<|ak<|Z ⟨(-1),p,H8⟩) fun k7 H8=>ap<|am<|O<|M p<|M p<|J (qA p p)<|ae<|aw p H8 (fun k9 H10=>O<|U p<|ak<|Z ⟨1,p,H10⟩) fun k9 H10=>ap<|O<|U p<|ak<|Z ⟨0,p,H10⟩
def fQ (a0:Int) (a1:Int):Int:=(bif (eo a0) then (bif (eo a1) then (0) else ((-1))) else (bif (eo a1) then (1) else (bif (decide (a0 < a1)) then ((-1)) else (bif (decide (a0 > a1)) then (1) else (0)))))
theorem pr_cmp_Compare_int (a0:Int) (a1:Int) {K:Int->Hp->Prop} {h:Hp} (k:K (fQ a0 a1) h):sQ a0 a1 K h:=(km (K:=K) (km (K:=K) (fun k=>k) (fun k=>k)) (km (K:=K) (fun k=>k) (km (K:=K) (fun k=>k) (km (K:=K) (fun k=>k) (fun k=>k))))) k
theorem ct_cmp_Compare_int (a0:Int) (a1:Int) (h:Hp):Ct prog ux #[(.int .i64 a0),(.int .i64 a1)] h fun v h'=>∃ r,v = eA r/\(r = fQ a0 a1/\h' = h):=sim_cmp_Compare_int a0 a1 (pr_cmp_Compare_int a0 a1 ⟨rfl,rfl⟩)
def sh_judge_user (a0:aF) (K:Bool->Hp->Prop):Hp->Prop:=K (bF ((ax a0.fKa).1))
theorem sim_judge_user (a0:aF) {K:Bool->Hp->Prop} {h:Hp} (H:sh_judge_user a0 K h):cl prog n_judge_user [(.agg (aF.C a0).toArray)] aB K h:=z_i func139 p p fun _=>O<|aa<|cK (l:=aF.C a0) p p p fun b1=>U p<|O<|J (ah lF p)<|bi (bD (k:=0) ff p p p p) p<|aa<|cJ (vs:=[(.agg (ai.C a0.fKa).toArray)]) (bw<|kj a0.fKa _) en_63 p p<|M p<|J (al p p)<|J (al p p)<|J (av p)<|U p<|O<|M p<|aa<|cJ (vs:=[(.int .i64 ((ax a0.fKa).1))]) (bw<|sk (ax a0.fKa).1 _) en_64 p p<|U p<|ak<|Z ⟨bF (ax a0.fKa).1,p,H⟩
def fw (a0:aF):Bool:=((bF ((ax a0.fKa).1)))
theorem pr_judge_user (a0:aF) {K:Bool->Hp->Prop} {h:Hp} (k:K (fw a0) h):sh_judge_user a0 K h:=(fun k=>k) k
theorem ct_judge_user (a0:aF) (h:Hp):Ct prog n_judge_user #[(.agg (aF.C a0).toArray)] h fun v h'=>∃ r,v = aB r/\(r = fw a0/\h' = h):=sim_judge_user a0 (pr_judge_user a0 ⟨rfl,rfl⟩)
end
section
open Go Mb
def tR (a0:Ptr) (K:(Int × Bool)->Hp->Prop):Hp->Prop:=br a0.isNone ( K (0,false)) ( nn a0 fun q8=>ld (q8.1,q8.2 + 0) cS fun x10=>cl prog jZ [(sv x10),(.int .i64 0)] eA fun r11=>br (decide (r11 < 0)) ( K (0,false)) ( ld (q8.1,q8.2 + 0) cS fun x17=>ix x17 r11 fun q19=>st (q19.1,q19.2 + Int.toNat r11 * 1) [.int .i64 1]<|K (r11,true)))
theorem sim_pool_Pool_Take (a0:Ptr) {K:(Int × Bool)->Hp->Prop} {h:Hp} (H:tR a0 K h):cl prog jC [(pv a0)] bM K h:=z_i func171 p p fun _=>O<|J (av p)<|U p<|am<|O<|M p<|J (cm underlying154 p)<|ae<|aw p H (fun k1 H2=>O<|J (av p)<|U p<|ak<|bz (bT p (cc p)<|cc p) ⟨(0,false),p,H2⟩) fun k1 H2=>ap<|O<|M p<|bI H2 fun q8 e3 H4=>J (aH<|aM p<|ar e3)<|J (ah nV p)<|aa<|aV H4 sc_39 p (fun _=>p) p fun x10 H5=>aa<|D H5 en_199 fun r11 _ H6=>U p<|am<|O<|M p<|J (cu p p)<|ae<|aw p H6 (fun k7 H8=>O<|J (av p)<|U p<|ak<|bz (bT p (cc p)<|cc p) ⟨(0,false),p,H8⟩) fun k7 H8=>ap<|O<|M (aM p<|ar e3)<|J (aH p)<|J (ah nV p)<|aa<|aV H8 sc_39 p (fun _=>p) p fun x17 H9=>M p<|ch H9 fun q19 e10 h11 H12=>J (bm fP (aM p<|ba e10) p h11)<|aa<|dx pK p p p p p H12 fun _ H13=>ae<|O<|M p<|J (av p)<|U p<|ak<|bz (bT p (cc p)<|cc p) ⟨(r11,true),p,H13⟩
def tS (a0:Ptr) (a1:Int) (K:Int->Hp->Prop):Hp->Prop:=br (!(a0.isNone || (decide (a1 < 0)))) ( nn a0 fun q14=>ld (q14.1,q14.2 + 0) cS fun x16=>br (decide (a1 >= (x16.len:Int))) ( K 0) ( ld (q14.1,q14.2 + 0) cS fun x23=>ix x23 a1 fun q25=>ld (q25.1,q25.2 + Int.toNat a1 * 1) (cI .i64) fun x26=>K x26)) ( K 0)
theorem sim_pool_Pool_Refs (a0:Ptr) (a1:Int) {K:Int->Hp->Prop} {h:Hp} (H:tS a0 a1 K h):cl prog jD [(pv a0),(.int .i64 a1)] eA K h:=z_i func200 p p fun _=>O<|U p<|am<|O<|M p<|J (cm underlying154 p)<|M p<|W p p (aI _) (fun g1=>wv<|aj p)<|W p p (aI _) (fun g2=>wv<|cu (aC p g2) p)<|J (dr p p)<|M p<|W p p (aI _) (fun g3=>wv<|aj p)<|W p p (aI _) (fun g4=>wv<|aj p)<|bU H (fun k6 H7=>bI H7 fun q14 e8 H9=>G (F<|cg k6)<|z_p (aH<|aM (aC p k6)<|ar e8)<|G (F<|cg k6)<|z_p (ah nV p)<|G (F<|cg k6)<|aV H9 sc_39 p (fun _=>p) p fun x16 H10=>G (F<|cg k6)<|z_p (dv p underlying39 p)<|G (F<|cg k6)<|z_p (jx (aC p k6) p)<|J (au p (cg k6) p)<|ae<|aw p H10 (fun k11 H12=>O<|U p<|ak<|Z ⟨0,p,H12⟩) fun k11 H12=>ap<|O<|M (aM p<|ar e8)<|J (aH p)<|J (ah nV p)<|aa<|aV H12 sc_39 p (fun _=>p) p fun x23 H13=>M p<|ch H13 fun q25 e14 h15 H16=>J (bm fP (aM p<|ba e14) p h15)<|aa<|aV H16 bb p (fun _=>p) p fun x26 H17=>U p<|ak<|Z ⟨x26,p,H17⟩) fun k6 H7=>Y (bY<|bG k6)<|Y (bY<|bG k6)<|Y (bY<|bG k6)<|Y (bY<|bG k6)<|Y (bY<|bG k6)<|J (aT p (bG k6) p)<|ae<|lH p p<|O<|U p<|ak<|Z ⟨0,p,H7⟩
def tT (a0:Ptr) (a1:Int) (K:Bool->Hp->Prop):Hp->Prop:=cl prog jD [(pv a0),(.int .i64 a1)] eA fun r8=>br ((r8 == 0) || (decide (r8 >= 7))) ( K false) ( nn a0 fun q16=>ld (q16.1,q16.2 + 0) cS fun x18=>ix x18 a1 fun q20=>ld (q20.1,q20.2 + Int.toNat a1 * 1) (cI .i64) fun x21=>st (q20.1,q20.2 + Int.toNat a1 * 1) [.int .i64 (i64.wrap (x21 + 1))]<|K true)
theorem sim_pool_Pool_Hold (a0:Ptr) (a1:Int) {K:Bool->Hp->Prop} {h:Hp} (H:tT a0 a1 K h):cl prog lX [(pv a0),(.int .i64 a1)] aB K h:=z_i func173 p p fun _=>O<|U p<|am<|O<|M p<|M p<|aa<|D H en_200 fun r8 _ H1=>U p<|O<|M p<|J (bR p p)<|M p<|W p p (aI _) (fun g2=>wv<|aj p)<|W p p (aI _) (fun g3=>wv<|jx (aC p g3) p)<|J (dr p p)<|ae<|aw p H1 (fun k4 H5=>O<|U p<|ak<|Z ⟨false,p,H5⟩) fun k4 H5=>ap<|O<|M p<|bI H5 fun q16 e6 H7=>J (aH<|aM p<|ar e6)<|J (ah nV p)<|aa<|aV H7 sc_39 p (fun _=>p) p fun x18 H8=>M p<|ch H8 fun q20 e9 h10 H11=>J (bm fP (aM p<|ba e9) p h10)<|aa<|aV H11 bb p (fun _=>p) p fun x21 H12=>J (bo p p)<|J (bm fP (aM p<|ba e9) p h10)<|aa<|dx pK p p p p p H12 fun _ H13=>ae<|O<|U p<|ak<|Z ⟨true,p,H13⟩
def vr (a0:Ptr) (a1:Int) (K:(Int × Bool)->Hp->Prop):Hp->Prop:=cl prog jD [(pv a0),(.int .i64 a1)] eA fun r8=>br (r8 == 0) ( K (0,false)) ( nn a0 fun q11=>ld (q11.1,q11.2 + 0) cS fun x13=>ix x13 a1 fun q15=>ld (q15.1,q15.2 + Int.toNat a1 * 1) (cI .i64) fun x16=>st (q15.1,q15.2 + Int.toNat a1 * 1) [.int .i64 (i64.wrap (x16 - 1))]<|ld (q11.1,q11.2 + 0) cS fun x22=>ix x22 a1 fun q24=>ld (q24.1,q24.2 + Int.toNat a1 * 1) (cI .i64) fun x25=>K (x25,true))
theorem sim_pool_Pool_Let (a0:Ptr) (a1:Int) {K:(Int × Bool)->Hp->Prop} {h:Hp} (H:vr a0 a1 K h):cl prog ng [(pv a0),(.int .i64 a1)] bM K h:=z_i func177 p p fun _=>O<|J (av p)<|U p<|am<|O<|M p<|M p<|aa<|D H en_200 fun r8 _ H1=>J (bR p p)<|ae<|aw p H1 (fun k2 H3=>O<|J (av p)<|U p<|ak<|bz (bT p (cc p)<|cc p) ⟨(0,false),p,H3⟩) fun k2 H3=>ap<|O<|M p<|bI H3 fun q11 e4 H5=>J (aH<|aM p<|ar e4)<|J (ah nV p)<|aa<|aV H5 sc_39 p (fun _=>p) p fun x13 H6=>M p<|ch H6 fun q15 e7 h8 H9=>J (bm fP (aM p<|ba e7) p h8)<|aa<|aV H9 bb p (fun _=>p) p fun x16 H10=>J (v_sub p p)<|J (bm fP (aM p<|ba e7) p h8)<|aa<|dx pK p p p p p H10 fun _ H11=>ae<|O<|M (aM p<|ar e4)<|J (aH p)<|J (ah nV p)<|aa<|aV H11 sc_39 p (fun _=>p) p fun x22 H12=>M p<|ch H12 fun q24 e13 h14 H15=>J (bm fP (aM p<|ba e13) p h14)<|aa<|aV H15 bb p (fun _=>p) p fun x25 H16=>J (av p)<|U p<|ak<|bz (bT p (cc p)<|cc p) ⟨(x25,true),p,H16⟩
def sh_pool_New (a0:Int) (K:Ptr->Hp->Prop):Hp->Prop:=br ((decide (a0 < 1)) || (decide (a0 > 16))) ( K none) ( hpv prog (Instr.makeSlice dD (.int .i64 a0) (.int .i64 a0)) cx fun (v10:Sl)=>nw qC (nY.C (⟨v10⟩:nY)) fun b12=>K (some (b12,0)))
theorem sim_pool_New (a0:Int) {K:Ptr->Hp->Prop} {h:Hp} (H:sh_pool_New a0 K h):cl prog xd [(.int .i64 a0)] sm K h:=z_i func105 p p fun _=>O<|U p<|am<|O<|M p<|J (cu p p)<|M p<|W p p (aI _) (fun g1=>wv<|aj p)<|W p p (aI _) (fun g2=>wv<|qA (aC p g2) p)<|J (dr p p)<|ae<|aw p H (fun k3 H4=>O<|U p<|ak<|Z ⟨none,p,H4⟩) fun k3 H4=>ap<|O<|M p<|aa<|aS H4 (iG p p) p fun v10 _ H5=>J (aZ p<|build_210_0 v10)<|aa<|hU p p p H5 fun b12 _ H6=>U p<|ak<|Z ⟨some (b12,0),p,H6⟩
def oF (K:Sl->Hp->Prop) (x11:Sl) (Rec7:(Sl × Int)->Hp->Prop) (s6:Sl × Int):Hp->Prop:=br (decide (s6.2 < (x11.len:Int))) ( ix x11 s6.2 fun q16=>ld (q16.1,q16.2 + Int.toNat s6.2 * 1) (cI .i64) fun x17=>br (x17 == 0) ( hpv prog (Instr.buildSlice dD 1 #[(0,(.int .i64 s6.2))]) cx fun (v22:Sl)=>hpv prog (Builtin.append_ #[dD,dD] dD #[(sv s6.1),(sv v22)]) cx fun (v23:Sl)=>Rec7 (v23,(i64.wrap (s6.2 + 1)))) ( Rec7 (s6.1,(i64.wrap (s6.2 + 1))))) ( K s6.1)
def tU (a0:Ptr) (K:Sl->Hp->Prop):Hp->Prop:=br a0.isNone ( K (⟨none,0,0,none⟩:Sl)) ( nn a0 fun q9=>ld (q9.1,q9.2 + 0) cS fun x11=>Lp (oF K x11) ((⟨none,0,0,none⟩:Sl),0))
theorem sim_pool_Pool_Free (a0:Ptr) {K:Sl->Hp->Prop} {h:Hp} (H:tU a0 K h):cl prog lY [(pv a0)] cx K h:=z_i func103 p p fun _=>O<|U p<|am<|O<|M p<|J (cm underlying154 p)<|ae<|aw p H (fun k1 H2=>O<|U p<|ak<|Z ⟨(⟨none,0,0,none⟩:Sl),p,H2⟩) fun k1 H2=>ap<|O<|U p<|am<|O<|M p<|bI H2 fun q9 e3 H4=>J (aH<|aM p<|ar e3)<|J (ah nV p)<|aa<|aV H4 sc_39 p (fun _=>p) p fun x11 H5=>J (dv p underlying39 p)<|M p<|ae<|az<|bC (step:=oF K x11) (fun s6=>[(3,(sv s6.1)),(11,(sv x11)),(12,(.int .i64 (x11.len:Int))),(13,(.int .i64 s6.2))]) (fun s6=>[]) H5 (.cons p<|.cons p<|.cons p<|.cons p<|.nil _) .slnil fun Rec7 s6 _ H8=>O<|J (cu p p)<|ae<|am<|aw p H8 (fun k9 H10=>ap<|am<|az<|O<|M p<|ch H10 fun q16 e11 h12 H13=>J (bm fP (aM p<|ba e11) p h12)<|aa<|aV H13 bb p (fun _=>p) p fun x17 H14=>J (av p)<|U p<|O<|M p<|J (bR p p)<|ae<|aw p H14 (fun k15 H16=>aq<|M p<|M p<|aa<|aS H16 (bt (vs:=[(.int .i64 s6.2)]) p) p fun v22 _ H17=>aa<|aS H17 (dG p p) p fun v23 _ H18=>U p<|aq<|J (bo p p)<|M p<|ae<|cL (v23,(i64.wrap (s6.2 + 1))) H18 (.cons p<|.cons p<|.cons p<|.cons p<|.nil _) .slnil) fun k15 H16=>ap<|aq<|J (bo p p)<|M p<|ae<|cL (s6.1,(i64.wrap (s6.2 + 1))) H16 (.cons p<|.cons p<|.cons p<|.cons p<|.nil _) .slnil) fun k9 H10=>bj<|O<|M p<|U p<|ak<|Z ⟨s6.1,p,H10⟩
def oG (K:Int->Hp->Prop) (r7:Sl) (Rec3:(Int × Int)->Hp->Prop) (s2:Int × Int):Hp->Prop:=br (decide (s2.2 < (r7.len:Int))) ( ix r7 s2.2 fun q11=>ld (q11.1,q11.2 + Int.toNat s2.2 * 1) (cI .i64) fun x12=>gd (0 <= x12)<|Rec3 ((ior .u64 s2.1 (u64.wrap (1 * 2 ^ (min (Int.toNat x12) (IntKind.bits .u64))))),(i64.wrap (s2.2 + 1)))) ( K s2.1)
def tV (a0:Ptr) (K:Int->Hp->Prop):Hp->Prop:=cl prog lY [(pv a0)] cx fun r7=>Lp (oG K r7) (0,0)
theorem sim_pool_Pool_Bits (a0:Ptr) {K:Int->Hp->Prop} {h:Hp} (H:tV a0 K h):cl prog pY [(pv a0)] gM K h:=z_i func217 p p fun _=>O<|U p<|O<|U p<|am<|O<|M p<|aa<|D H en_103 fun r7 _ H1=>J (dv p underlying39 p)<|M p<|ae<|az<|bC (step:=oG K r7) (fun s2=>[(3,(.int .u64 s2.1)),(7,(sv r7)),(8,(.int .i64 (r7.len:Int))),(9,(.int .i64 s2.2))]) (fun s2=>[]) H1 (.cons p<|.cons p<|.cons p<|.cons p<|.nil _) .slnil fun Rec3 s2 _ H4=>O<|J (cu p p)<|ae<|am<|aw p H4 (fun k5 H6=>ap<|am<|az<|O<|ch H6 fun q11 e7 h8 H9=>J (bm fP (aM p<|ba e7) p h8)<|aa<|aV H9 bb p (fun _=>p) p fun x12 H10=>U p<|aq<|M p<|M p<|iz H10 fun z11 H12=>J (v_shl p p z11)<|J (v_ior p p)<|U p<|aq<|J (bo p p)<|M p<|ae<|cL ((ior .u64 s2.1 (u64.wrap (1 * 2 ^ (min (Int.toNat x12) (IntKind.bits .u64))))),(i64.wrap (s2.2 + 1))) H12 (.cons p<|.cons p<|.cons p<|.cons p<|.nil _) .slnil) fun k5 H6=>bj<|O<|M p<|U p<|ak<|Z ⟨s2.1,p,H6⟩
end
section
open Go Mb
def gX (a0:Sl) (K:Sl->Hp->Prop):Hp->Prop:=br a0.a.isNone ( K (⟨none,0,0,none⟩:Sl)) ( hpv prog (Instr.buildSlice eL 0 #[]) eu fun (v5:Sl)=>hpv prog (Builtin.append_ #[eL,eL] eL #[(sv v5),(sv a0)]) eu fun (v7:Sl)=>K v7)
theorem my (a0:Sl) {K:Sl->Hp->Prop} {h:Hp} (H:gX a0 K h):cl prog eR [(sv a0)] eu K h:=z_i func55 p p fun _=>O<|U p<|am<|O<|M p<|J (v_seqT underlying42 p)<|ae<|aw p H (fun k1 H2=>O<|U p<|ak<|Z ⟨(⟨none,0,0,none⟩:Sl),p,H2⟩) fun k1 H2=>ap<|O<|aa<|aS H2 (bt (vs:=[]) p) p fun v5 _ H3=>M p<|aa<|aS H3 (dG p p) p fun v7 _ H4=>U p<|ak<|Z ⟨v7,p,H4⟩
def eD (a0:Sl) (a1:Int) (K:(Int × Bool)->Hp->Prop) (Rec2:(Int × Int)->Hp->Prop) (s1:Int × Int):Hp->Prop:=br (decide (s1.1 < s1.2)) ( ix a0 (i64.wrap (fdiv (u64.wrap (i64.wrap (s1.1 + s1.2))) (2 ^ (min (Int.toNat 1) (IntKind.bits .u64))))) fun q24=>ld (q24.1,q24.2 + Int.toNat (i64.wrap (fdiv (u64.wrap (i64.wrap (s1.1 + s1.2))) (2 ^ (min (Int.toNat 1) (IntKind.bits .u64))))) * 1) (cI .u64) fun x25=>br (ic x25 a1) ( Rec2 ((i64.wrap ((i64.wrap (fdiv (u64.wrap (i64.wrap (s1.1 + s1.2))) (2 ^ (min (Int.toNat 1) (IntKind.bits .u64))))) + 1)),s1.2)) ( Rec2 (s1.1,(i64.wrap (fdiv (u64.wrap (i64.wrap (s1.1 + s1.2))) (2 ^ (min (Int.toNat 1) (IntKind.bits .u64)))))))) ( br (decide (s1.1 < (a0.len:Int))) ( ix a0 s1.1 fun q38=>ld (q38.1,q38.2 + Int.toNat s1.1 * 1) (cI .u64) fun x39=>br (!(x39 == a1)) ( ld (q38.1,q38.2 + Int.toNat s1.1 * 1) (cI .u64) fun x46=>K (s1.1,((dF x46) && (dF a1)))) ( K (s1.1,true))) ( K (s1.1,false)))
def gF (a0:Sl) (a1:Int) (K:(Int × Bool)->Hp->Prop):Hp->Prop:=Lp (eD a0 a1 K) (0,(a0.len:Int))
theorem lS (a0:Sl) (a1:Int) {K:(Int × Bool)->Hp->Prop} {h:Hp} (H:gF a0 a1 K h):cl prog eH [(sv a0),(.int .u64 a1)] bM K h:=z_i func169 p p fun _=>O<|J (av p)<|U p<|O<|M p<|J (dv p underlying93 p)<|U p<|O<|M p<|J (av p)<|U p<|am<|az<|bC (step:=eD a0 a1 K) (fun s1=>[(0,(sv a0)),(1,(.int .u64 a1)),(6,(.int .i64 (a0.len:Int))),(7,(.int .i64 s1.1)),(8,(.int .i64 s1.2))]) (fun s1=>[]) H (.cons p<|.cons p<|.cons p<|.cons p<|.cons p<|.nil _) .slnil fun Rec2 s1 _ H3=>am<|O<|M p<|M p<|J (cu p p)<|ae<|aw p H3 (fun k4 H5=>ap<|az<|O<|M p<|M p<|J (bo p p)<|J (dR ⟨_,underlying3⟩ underlying257 p)<|J (v_shr p p (by decide))<|J (dR ⟨_,underlying257⟩ underlying3 p)<|U p<|O<|M p<|M p<|ch H5 fun q24 e6 h7 H8=>J (bm wz (aM p<|ba e6) p h7)<|aa<|aV H8 cn p (fun _=>p) p fun x25 H9=>M p<|aa<|cJ (vs:=[(.int .u64 x25),(.int .u64 a1)]) (bw<|ct_cmp_Less_uint64 x25 a1 _) en_195 p p<|ae<|aw p H9 (fun k10 H11=>aq<|M p<|J (bo p p)<|U p<|cL ((i64.wrap ((i64.wrap (fdiv (u64.wrap (i64.wrap (s1.1 + s1.2))) (2 ^ (min (Int.toNat 1) (IntKind.bits .u64))))) + 1)),s1.2) H11 (.cons p<|.cons p<|.cons p<|.cons p<|.cons p<|.nil _) .slnil) fun k10 H11=>aq<|M p<|U p<|cL (s1.1,(i64.wrap (fdiv (u64.wrap (i64.wrap (s1.1 + s1.2))) (2 ^ (min (Int.toNat 1) (IntKind.bits .u64)))))) H11 (.cons p<|.cons p<|.cons p<|.cons p<|.cons p<|.nil _) .slnil) fun k4 H5=>bj<|O<|M p<|M p<|M p<|J (cu p p)<|M p<|W p p (ay _) (fun g12=>wv<|aj p)<|W p p (ay _) (fun g13=>wv<|aj p)<|bU H5 (fun k15 H16=>ch H16 fun q38 e17 h18 H19=>G (F k15)<|z_p (bm wz (aM (aC p k15)<|ba e17) (aC p k15) h18)<|G (F k15)<|aV H19 cn p (fun _=>p) p fun x39 H20=>G (F k15)<|z_p (aj p)<|G (F k15)<|z_p (bR p p)<|G (F k15)<|z_p (aj p)<|W p p (aI _) (fun g21=>wv<|aj p)<|W p p (aI _) (fun g22=>wv<|aj p)<|W p p (aI _) (fun g23=>wv<|bm wz (aM (aC p g23)<|ba e17) (aC p g23) h18)<|bU H20 (fun k25 H26=>G (F<|cg k25)<|aV H26 cn (aC p k25) (fun _=>p) p fun x46 H27=>G (F<|cg k25)<|cJ (vs:=[(.int .u64 x46)]) (bw<|oW x46 _) en_196 p p<|G (F<|cg k25)<|z_p (aj p)<|W p p (ay _) (fun g28=>wv<|aj p)<|db (vs:=[(.int .u64 a1)]) p p p (ay _) (fun g29=>bw<|oW a1 _) en_196 (fun g29=>aR (aC p g29) bO) p<|G (F<|cg k25)<|z_p (bP p p)<|G (F k15)<|z_p (au p (cg k25) p)<|J (aT p k15 p)<|J (av p)<|U p<|ak<|bz (bT p (cc p)<|cc p) ⟨(s1.1,((dF x46) && (dF a1))),p,H27⟩) fun k25 H26=>Y (bY<|bG k25)<|Y (bY<|bG k25)<|Y (bY<|bG k25)<|Y (off_u _)<|Y (off_u _)<|Y (bY<|bG k25)<|G (F k15)<|z_p (aT p (bG k25) p)<|J (aT p k15 p)<|J (av p)<|U p<|ak<|bz (bT p (cc p)<|cc p) ⟨(s1.1,true),p,H26⟩) fun k15 H16=>Y (aU k15)<|Y (aU k15)<|Y (aU k15)<|Y (aU k15)<|Y (aU k15)<|Y (off_u _)<|Y (off_u _)<|Y (off_u _)<|Y (off_u _)<|Y (off_u _)<|Y (off_u _)<|Y (off_u _)<|Y (off_u _)<|Y (off_u _)<|Y (aU k15)<|J (au p k15 p)<|J (av p)<|U p<|ak<|bz (bT p (cc p)<|cc p) ⟨(s1.1,false),p,H16⟩
def jB (a0:Sl) (a1:Int) (a2:Sl) (K:Sl->Hp->Prop):Hp->Prop:=hpv prog (Instr.sliceAt bf (sv a0) (some (.int .i64 a1)) none none) ce fun (v12:Sl)=>br ((a2.len:Int) == 0) ( K a0) ( br (a1 == (a0.len:Int)) ( hpv prog (Builtin.append_ #[bf,bf] bf #[(sv a0),(sv a2)]) ce fun (v25:Sl)=>K v25) ( br (decide ((i64.wrap ((a0.len:Int) + (a2.len:Int))) > (a0.cap:Int))) ( hpv prog (Instr.sliceAt bf (sv a0) none (some (.int .i64 a1)) none) ce fun (v34:Sl)=>hpv prog (Builtin.append_ #[bf,kR] bf #[(sv v34),(.int .i64 (i64.wrap ((i64.wrap ((a0.len:Int) + (a2.len:Int))) - a1)))]) ce fun (v40:Sl)=>hpv prog (Instr.sliceAt bf (sv v40) (some (.int .i64 a1)) none none) ce fun (v43:Sl)=>hpv prog (Builtin.copy_ #[bf,bf] kR #[(sv v43),(sv a2)]) eA fun (v45:Int)=>both ( hpv prog (Instr.sliceAt bf (sv v40) (some (.int .i64 (i64.wrap (a1 + (a2.len:Int))))) none none) ce fun (v50:Sl)=>hpv prog (Instr.sliceAt bf (sv a0) (some (.int .i64 a1)) none none) ce fun (v53:Sl)=>hpv prog (Builtin.copy_ #[bf,bf] kR #[(sv v50),(sv v53)]) eA fun (v54:Int)=>K v40) ( hpv prog (Instr.sliceAt bf (sv a0) (some (.int .i64 a1)) none none) ce fun (v53:Sl)=>hpv prog (Instr.sliceAt bf (sv v40) (some (.int .i64 (i64.wrap (a1 + (a2.len:Int))))) none none) ce fun (v50:Sl)=>hpv prog (Builtin.copy_ #[bf,bf] kR #[(sv v50),(sv v53)]) eA fun (v54:Int)=>K v40)) ( hpv prog (Instr.sliceAt bf (sv a0) none (some (.int .i64 (i64.wrap ((a0.len:Int) + (a2.len:Int))))) none) ce fun (v60:Sl)=>hpv prog (Instr.sliceAt bf (sv v60) (some (.int .i64 (i64.wrap (a1 + (a2.len:Int))))) none none) ce fun (v66:Sl)=>cln prog (callFunc uS #[(sv a2),(sv v66)]) aB fun (v67:Bool)=>br (!v67) ( both ( hpv prog (Instr.sliceAt bf (sv v60) (some (.int .i64 (i64.wrap (a1 + (a2.len:Int))))) none none) ce fun (v73:Sl)=>hpv prog (Instr.sliceAt bf (sv v60) (some (.int .i64 a1)) none none) ce fun (v76:Sl)=>hpv prog (Builtin.copy_ #[bf,bf] kR #[(sv v73),(sv v76)]) eA fun (v77:Int)=>hpv prog (Instr.sliceAt bf (sv v60) (some (.int .i64 a1)) none none) ce fun (v80:Sl)=>hpv prog (Builtin.copy_ #[bf,bf] kR #[(sv v80),(sv a2)]) eA fun (v82:Int)=>K v60) ( hpv prog (Instr.sliceAt bf (sv v60) (some (.int .i64 a1)) none none) ce fun (v76:Sl)=>hpv prog (Instr.sliceAt bf (sv v60) (some (.int .i64 (i64.wrap (a1 + (a2.len:Int))))) none none) ce fun (v73:Sl)=>hpv prog (Builtin.copy_ #[bf,bf] kR #[(sv v73),(sv v76)]) eA fun (v77:Int)=>hpv prog (Instr.sliceAt bf (sv v60) (some (.int .i64 a1)) none none) ce fun (v80:Sl)=>hpv prog (Builtin.copy_ #[bf,bf] kR #[(sv v80),(sv a2)]) eA fun (v82:Int)=>K v60)) ( hpv prog (Instr.sliceAt bf (sv v60) (some (.int .i64 (a0.len:Int))) none none) ce fun (v86:Sl)=>hpv prog (Builtin.copy_ #[bf,bf] kR #[(sv v86),(sv a2)]) eA fun (v88:Int)=>hpv prog (Instr.sliceAt bf (sv v60) (some (.int .i64 a1)) none none) ce fun (v91:Sl)=>cl prog sc [(sv v91),(.int .i64 (a2.len:Int))] R_ fun (_:Unit)=>K v60))))
theorem pj (a0:Sl) (a1:Int) (a2:Sl) {K:Sl->Hp->Prop} {h:Hp} (H:jB a0 a1 a2 K h):cl prog dB [(sv a0),(.int .i64 a1),(sv a2)] ce K h:=z_i func170 p p fun _=>O<|U p<|O<|M p<|M p<|aa<|aS H (fj p p p p p) p fun v12 _ H1=>ae<|O<|M p<|J (dv p underlying93 p)<|U p<|am<|O<|M p<|J (bR p p)<|ae<|aw p H1 (fun k2 H3=>O<|M p<|U p<|ak<|Z ⟨a0,p,H3⟩) fun k2 H3=>ap<|O<|M p<|J (dv p underlying93 p)<|U p<|am<|O<|M p<|M p<|J (bR p p)<|ae<|aw p H3 (fun k4 H5=>O<|M p<|M p<|aa<|aS H5 (dG p p) p fun v25 _ H6=>U p<|ak<|Z ⟨v25,p,H6⟩) fun k4 H5=>ap<|am<|O<|M p<|M p<|J (bo p p)<|M p<|J (v_cap p underlying93 p)<|J (qA p p)<|ae<|aw p H5 (fun k7 H8=>O<|M p<|M p<|aa<|aS H8 (fj p p p p p) p fun v34 _ H9=>M p<|M p<|J (bo p p)<|M p<|J (v_sub p p)<|aa<|aS H9 (dG p p) p fun v40 _ H10=>U p<|O<|M p<|M p<|aa<|aS H10 (fj p p p p p) p fun v43 _ H11=>M p<|aa<|aS H11 (x_copy p p) p fun v45 _ H12=>ae<|am<|bp (n:=9) [] cr p .slnil<|V 0 p (aj p)<|V 1 p (aj p)<|V 2 p (aj p)<|V 3 p (bo p p)<|V 5 p (aj p)<|V 6 p (aj p)<|jK H12 fun H13_1 H13_2=>jL (i:=4) (j:=7) (by kernel_rfl) (cC p p<|aS H13_1 (fj p p p p p) p fun v50 _ H14=>⟨.slnil,I 7 p<|aS H14 (fj p p p p p) p fun v53 _ H15=>⟨.slnil,I 8 p<|aS H15 (x_copy p p) p fun v54 _ H16=>⟨.slnil,aW (by kernel_rfl)<|O<|M p<|U p<|ak<|Z ⟨v40,p,H16⟩⟩⟩⟩)<|cC p p<|aS H13_2 (fj p p p p p) p fun v53 _ H14=>⟨.slnil,I 4 p<|aS H14 (fj p p p p p) p fun v50 _ H15=>⟨.slnil,I 8 p<|aS H15 (x_copy p p) p fun v54 _ H16=>⟨.slnil,aW (by kernel_rfl)<|O<|M p<|U p<|ak<|Z ⟨v40,p,H16⟩⟩⟩⟩) fun k7 H8=>ap<|O<|M p<|M p<|M p<|J (bo p p)<|aa<|aS H8 (fj p p p p p) p fun v60 _ H17=>U p<|am<|O<|M p<|M p<|M p<|M p<|J (bo p p)<|aa<|aS H17 (fj p p p p p) p fun v66 _ H18=>aa<|gb H18 (rP (vs:=[(sv a2),(sv v66)]) p) p fun v67 _ H19=>J (ct p)<|ae<|aw p H19 (fun k20 H21=>am<|bp (n:=9) [] cr p .slnil<|V 0 p (aj p)<|V 1 p (aj p)<|V 2 p (aj p)<|V 3 p (bo p p)<|V 5 p (aj p)<|V 6 p (aj p)<|jK H21 fun H22_1 H22_2=>jL (i:=4) (j:=7) (by kernel_rfl) (cC p p<|aS H22_1 (fj p p p p p) p fun v73 _ H23=>⟨.slnil,I 7 p<|aS H23 (fj p p p p p) p fun v76 _ H24=>⟨.slnil,I 8 p<|aS H24 (x_copy p p) p fun v77 _ H25=>⟨.slnil,aW (by kernel_rfl)<|O<|M p<|M p<|aa<|aS H25 (fj p p p p p) p fun v80 _ H26=>M p<|aa<|aS H26 (x_copy p p) p fun v82 _ H27=>ae<|O<|M p<|U p<|ak<|Z ⟨v60,p,H27⟩⟩⟩⟩)<|cC p p<|aS H22_2 (fj p p p p p) p fun v76 _ H23=>⟨.slnil,I 4 p<|aS H23 (fj p p p p p) p fun v73 _ H24=>⟨.slnil,I 8 p<|aS H24 (x_copy p p) p fun v77 _ H25=>⟨.slnil,aW (by kernel_rfl)<|O<|M p<|M p<|aa<|aS H25 (fj p p p p p) p fun v80 _ H26=>M p<|aa<|aS H26 (x_copy p p) p fun v82 _ H27=>ae<|O<|M p<|U p<|ak<|Z ⟨v60,p,H27⟩⟩⟩⟩) fun k20 H21=>ap<|O<|M p<|M p<|aa<|aS H21 (fj p p p p p) p fun v86 _ H28=>M p<|aa<|aS H28 (x_copy p p) p fun v88 _ H29=>ae<|O<|M p<|M p<|aa<|aS H29 (fj p p p p p) p fun v91 _ H30=>M p<|aa<|D H30 en_198 fun r93 _ H31=>ae<|O<|M p<|U p<|ak<|Z ⟨v60,p,H31⟩
def jA (a0:Sl) (a1:Int) (K:Int->Hp->Prop) (Rec2:Int->Hp->Prop) (s1:Int):Hp->Prop:=br (decide (s1 < (a0.len:Int))) ( ix a0 s1 fun q14=>ld (q14.1,q14.2 + Int.toNat s1 * 1) (cI .i64) fun x15=>br (a1 == x15) ( K s1) ( Rec2 (i64.wrap (s1 + 1)))) ( K (-1))
def nJ (a0:Sl) (a1:Int) (K:Int->Hp->Prop):Hp->Prop:=Lp (jA a0 a1 K) 0
theorem uM (a0:Sl) (a1:Int) {K:Int->Hp->Prop} {h:Hp} (H:nJ a0 a1 K h):cl prog jZ [(sv a0),(.int .i64 a1)] eA K h:=z_i func199 p p fun _=>O<|U p<|am<|O<|M p<|J (dv p underlying39 p)<|M p<|ae<|az<|bC (step:=jA a0 a1 K) (fun s1=>[(0,(sv a0)),(1,(.int .i64 a1)),(7,(.int .i64 (a0.len:Int))),(8,(.int .i64 s1))]) (fun s1=>[]) H (.cons p<|.cons p<|.cons p<|.cons p<|.nil _) .slnil fun Rec2 s1 _ H3=>O<|J (cu p p)<|ae<|am<|aw p H3 (fun k4 H5=>ap<|am<|az<|O<|M p<|U p<|O<|M p<|M p<|M p<|ch H5 fun q14 e6 h7 H8=>J (bm fP (aM p<|ba e6) p h7)<|aa<|aV H8 bb p (fun _=>p) p fun x15 H9=>J (bR p p)<|ae<|aw p H9 (fun k10 H11=>O<|M p<|U p<|ak<|Z ⟨s1,p,H11⟩) fun k10 H11=>ap<|aq<|J (bo p p)<|M p<|ae<|cL (i64.wrap (s1 + 1)) H11 (.cons p<|.cons p<|.cons p<|.cons p<|.nil _) .slnil) fun k4 H5=>bj<|O<|U p<|ak<|Z ⟨(-1),p,H5⟩
def eP (a0:Sl) (a1:Int) (a3:Value) (Rec2:Int->Hp->Prop) (s1:Int) (Rec7:Int->Hp->Prop) (s6:Int):Hp->Prop:=br (decide (s6 > a1)) ( ix a0 s6 fun q25=>ix a0 (i64.wrap (s6 - 1)) fun q30=>ld (q25.1,q25.2 + Int.toNat s6 * 1) (cI .i64) fun x26=>ld (q30.1,q30.2 + Int.toNat (i64.wrap (s6 - 1)) * 1) (cI .i64) fun x31=>clv prog a3 [(.int .i64 x26),(.int .i64 x31)] eA fun r32=>br (decide (r32 < 0)) ( ld (q30.1,q30.2 + Int.toNat (i64.wrap (s6 - 1)) * 1) (cI .i64) fun x46=>ld (q25.1,q25.2 + Int.toNat s6 * 1) (cI .i64) fun x50=>st (q25.1,q25.2 + Int.toNat s6 * 1) [.int .i64 x46]<|st (q30.1,q30.2 + Int.toNat (i64.wrap (s6 - 1)) * 1) [.int .i64 x50]<|Rec7 (i64.wrap (s6 - 1))) ( Rec2 (i64.wrap (s1 + 1)))) ( Rec2 (i64.wrap (s1 + 1)))
def dE (a0:Sl) (a1:Int) (a2:Int) (a3:Value) (K:Unit->Hp->Prop) (Rec2:Int->Hp->Prop) (s1:Int):Hp->Prop:=br (decide (s1 < a2)) ( Lp (eP a0 a1 a3 Rec2 s1) s1) ( K ())
def hZ (a0:Sl) (a1:Int) (a2:Int) (a3:Value) (K:Unit->Hp->Prop):Hp->Prop:=Lp (dE a0 a1 a2 a3 K) (i64.wrap (a1 + 1))
theorem mQ (a0:Sl) (a1:Int) (a2:Int) (a3:Value) {K:Unit->Hp->Prop} {h:Hp} (H:hZ a0 a1 a2 a3 K h):cl prog bW [(sv a0),(.int .i64 a1),(.int .i64 a2),a3] R_ K h:=z_i func181 p p fun _=>O<|M p<|J (bo p p)<|U p<|az<|bC (step:=dE a0 a1 a2 a3 K) (fun s1=>[(0,(sv a0)),(1,(.int .i64 a1)),(2,(.int .i64 a2)),(3,a3),(8,(.int .i64 s1))]) (fun s1=>[]) H (.cons p<|.cons p<|.cons p<|.cons p<|.cons p<|.nil _) .slnil fun Rec2 s1 _ H3=>am<|O<|M p<|M p<|J (cu p p)<|ae<|aw p H3 (fun k4 H5=>ap<|am<|az<|O<|M p<|U p<|az<|bC (step:=eP a0 a1 a3 Rec2 s1) (fun s6=>[(0,(sv a0)),(1,(.int .i64 a1)),(2,(.int .i64 a2)),(3,a3),(8,(.int .i64 s1)),(9,(.int .i64 s6))]) (fun s6=>[]) H5 (.cons p<|.cons p<|.cons p<|.cons p<|.cons p<|.cons p<|.nil _) .slnil fun Rec7 s6 _ H8=>am<|am<|bp (n:=17) [] cr p .slnil<|V 0 p (aj p)<|V 1 p (aj p)<|V 2 p (qA p p)<|V 3 p (aj p)<|qj H8 (fun k9 H10=>z_n 4 p (F k9) (ve<|aj p)<|z_n 5 p (F k9) (ve<|aj p)<|z_n 6 p (F k9) (ve<|aj p)<|z_n 9 p (F k9) (ve<|aj p)<|z_n 10 p (F k9) (ve<|aj p)<|z_n 11 p (F k9) (ve<|v_sub p p)<|gj H10 fun q25 e11 h12 H13=>z_n 7 p (F k9) (ve<|bm fP (aM p<|ba e11) p h12)<|gj H13 fun q30 e14 h15 H16=>z_n 12 p (F k9) (ve<|bm fP (aM p<|ba e14) p h15)<|ms (i:=8) (fun _ _ _ _ hh=>hh) H16 p (by kernel_rfl) p p p (F k9) bb p (fun _=>p) p fun x26 H17=>ms (i:=13) (fun _ _ _ _ hh=>hh) H17 p (by kernel_rfl) p p p (F k9) bb p (fun _=>p) p fun x31 H18=>eva_1 (i:=14) (by kernel_rfl)<|way_on p p p p (F k9)<|to_clv H18 p p p fun r32 _ H19=>⟨.slnil,z_n 15 p (F k9) (ve<|cu p p)<|V 16 p (aT p k9 p)<|aW (by kernel_rfl)<|aw p H19 (fun k20 H21=>ap<|am<|az<|bp (n:=18) [] cr p .slnil<|V 0 p (aj p)<|V 1 p (aj p)<|V 2 p (aj p)<|V 3 p (aj p)<|V 4 p (v_sub p p)<|V 5 p (aj p)<|V 6 p (aj p)<|V 7 p (v_sub p p)<|V 8 p (bm fP (aM p<|ba e14) p h15)<|V 10 p (aj p)<|V 11 p (aj p)<|V 12 p (bm fP (aM p<|ba e11) p h12)<|bJ (i:=9) (fun _ _ _ _ hh=>hh) H21 p (by kernel_rfl) bb p (fun _=>p) p fun x46 H22=>bJ (i:=13) (fun _ _ _ _ hh=>hh) H22 p (by kernel_rfl) bb p (fun _=>p) p fun x50 H23=>V 14 p (bm fP (aM p<|ba e11) p h12)<|I 15 p<|dx pK p p p p p H23 fun _ H24=>⟨.slnil,V 16 p (bm fP (aM p<|ba e14) p h15)<|I 17 p<|dx pK p p p p p H24 fun _ H25=>⟨.slnil,aW (by kernel_rfl)<|aq<|M p<|J (v_sub p p)<|U p<|cL (i64.wrap (s6 - 1)) H25 (.cons p<|.cons p<|.cons p<|.cons p<|.cons p<|.cons p<|.nil _) .slnil⟩⟩) fun k20 H21=>bj<|aq<|M p<|J (bo p p)<|U p<|cL (i64.wrap (s1 + 1)) H21 (.cons p<|.cons p<|.cons p<|.cons p<|.cons p<|.nil _) .slnil⟩) fun k9 H10=>z_f 4 p (aU k9)<|z_f 5 p (aU k9)<|z_f 6 p (aU k9)<|z_f 7 p (aU k9)<|z_f 8 p (aU k9)<|z_f 9 p (aU k9)<|z_f 10 p (aU k9)<|z_f 11 p (aU k9)<|z_f 12 p (aU k9)<|z_f 13 p (aU k9)<|z_f 14 p (aU k9)<|z_f 15 p (aU k9)<|V 16 p (au p k9 p)<|aW (by kernel_rfl)<|ev_no p p<|bj<|aq<|M p<|J (bo p p)<|U p<|cL (i64.wrap (s1 + 1)) H10 (.cons p<|.cons p<|.cons p<|.cons p<|.cons p<|.nil _) .slnil) fun k4 H5=>bj<|end_i (res_0 p) ⟨(),p,H5⟩
def kS (a0:Sl) (a1:Int) (a2:Value) (Rec9:Int->Hp->Prop) (s8:Int) (Rec14:(Int × Int)->Hp->Prop) (s13:Int × Int):Hp->Prop:=br (decide (s13.2 <= a1)) ( cl prog kv [(sv a0),(.int .i64 s13.1),(.int .i64 (i64.wrap (s13.1 + s8))),(.int .i64 s13.2),a2] R_ fun (_:Unit)=>Rec14 (s13.2,(i64.wrap (s13.2 + (i64.wrap (2 * s8)))))) ( br (decide ((i64.wrap (s13.1 + s8)) < a1)) ( cl prog kv [(sv a0),(.int .i64 s13.1),(.int .i64 (i64.wrap (s13.1 + s8))),(.int .i64 a1),a2] R_ fun (_:Unit)=>Rec9 (i64.wrap (s8 * 2))) ( Rec9 (i64.wrap (s8 * 2))))
def dm (a0:Sl) (a1:Int) (a2:Value) (K:Unit->Hp->Prop) (Rec9:Int->Hp->Prop) (s8:Int):Hp->Prop:=br (decide (s8 < a1)) ( Lp (kS a0 a1 a2 Rec9 s8) (0,(i64.wrap (2 * s8)))) ( K ())
def fo (a0:Sl) (a1:Int) (a2:Value) (K:Unit->Hp->Prop) (Rec2:(Int × Int)->Hp->Prop) (s1:Int × Int):Hp->Prop:=br (decide (s1.2 <= a1)) ( cl prog bW [(sv a0),(.int .i64 s1.1),(.int .i64 s1.2),a2] R_ fun (_:Unit)=>Rec2 (s1.2,(i64.wrap (s1.2 + 20)))) ( cl prog bW [(sv a0),(.int .i64 s1.1),(.int .i64 a1),a2] R_ fun (_:Unit)=>Lp (dm a0 a1 a2 K) 20)
def kT (a0:Sl) (a1:Int) (a2:Value) (K:Unit->Hp->Prop):Hp->Prop:=Lp (fo a0 a1 a2 K) (0,20)
theorem rf (a0:Sl) (a1:Int) (a2:Value) {K:Unit->Hp->Prop} {h:Hp} (H:kT a0 a1 a2 K h):cl prog lq [(sv a0),(.int .i64 a1),a2] R_ K h:=z_i func137 p p fun _=>O<|U p<|O<|M p<|J (av p)<|U p<|am<|az<|bC (step:=fo a0 a1 a2 K) (fun s1=>[(0,(sv a0)),(1,(.int .i64 a1)),(2,a2),(6,(.int .i64 20)),(7,(.int .i64 s1.1)),(8,(.int .i64 s1.2))]) (fun s1=>[]) H (.cons p<|.cons p<|.cons p<|.cons p<|.cons p<|.cons p<|.nil _) .slnil fun Rec2 s1 _ H3=>am<|O<|M p<|M p<|J (v_le p p)<|ae<|aw p H3 (fun k4 H5=>ap<|az<|O<|M p<|M p<|M p<|M p<|aa<|D H5 en_181 fun r18 _ H6=>ae<|O<|M p<|U p<|aq<|M p<|M p<|J (bo p p)<|U p<|cL (s1.2,(i64.wrap (s1.2 + 20))) H6 (.cons p<|.cons p<|.cons p<|.cons p<|.cons p<|.cons p<|.nil _) .slnil) fun k4 H5=>bj<|O<|M p<|M p<|M p<|M p<|aa<|D H5 en_181 fun r27 _ H7=>ae<|az<|bC (step:=dm a0 a1 a2 K) (fun s8=>[(0,(sv a0)),(1,(.int .i64 a1)),(2,a2),(6,(.int .i64 s8))]) (fun s8=>[]) H7 (.cons p<|.cons p<|.cons p<|.cons p<|.nil _) .slnil fun Rec9 s8 _ H10=>am<|O<|M p<|M p<|J (cu p p)<|ae<|aw p H10 (fun k11 H12=>ap<|az<|O<|M p<|J (v_mul p p)<|J (av p)<|U p<|am<|az<|bC (step:=kS a0 a1 a2 Rec9 s8) (fun s13=>[(0,(sv a0)),(1,(.int .i64 a1)),(2,a2),(6,(.int .i64 s8)),(7,(.int .i64 s13.1)),(8,(.int .i64 s13.2))]) (fun s13=>[]) H12 (.cons p<|.cons p<|.cons p<|.cons p<|.cons p<|.cons p<|.nil _) .slnil fun Rec14 s13 _ H15=>am<|O<|M p<|M p<|J (v_le p p)<|ae<|aw p H15 (fun k16 H17=>ap<|az<|O<|M p<|M p<|M p<|M p<|J (bo p p)<|M p<|M p<|aa<|D H17 en_182 fun r43 _ H18=>ae<|O<|M p<|U p<|aq<|M p<|M p<|J (v_mul p p)<|J (bo p p)<|U p<|cL (s13.2,(i64.wrap (s13.2 + (i64.wrap (2 * s8))))) H18 (.cons p<|.cons p<|.cons p<|.cons p<|.cons p<|.cons p<|.nil _) .slnil) fun k16 H17=>bj<|am<|O<|M p<|M p<|J (bo p p)<|U p<|O<|M p<|M p<|J (cu p p)<|ae<|aw p H17 (fun k19 H20=>aq<|M p<|M p<|M p<|M p<|M p<|aa<|D H20 en_182 fun r60 _ H21=>ae<|aq<|M p<|J (v_mul p p)<|U p<|cL (i64.wrap (s8 * 2)) H21 (.cons p<|.cons p<|.cons p<|.cons p<|.nil _) .slnil) fun k19 H20=>ap<|aq<|M p<|J (v_mul p p)<|U p<|cL (i64.wrap (s8 * 2)) H20 (.cons p<|.cons p<|.cons p<|.cons p<|.nil _) .slnil) fun k11 H12=>bj<|end_i (res_0 p) ⟨(),p,H12⟩
def iJ (a0:Sl) (a1:Value) (K:Unit->Hp->Prop):Hp->Prop:=cl prog lq [(sv a0),(.int .i64 (a0.len:Int)),a1] R_ fun (_:Unit)=>K ()
theorem og (a0:Sl) (a1:Value) {K:Unit->Hp->Prop} {h:Hp} (H:iJ a0 a1 K h):cl prog fJ [(sv a0),a1] R_ K h:=z_i func94 p p fun _=>aq<|M p<|M p<|J (dv p underlying39 p)<|M p<|aa<|D H en_137 fun r8 _ H1=>ae<|end_i (res_0 p) ⟨(),p,H1⟩
def jQ (a0:Sl) (K:Sl->Hp->Prop):Hp->Prop:=br a0.a.isNone ( K (⟨none,0,0,none⟩:Sl)) ( hpv prog (Instr.buildSlice bf 0 #[]) ce fun (v5:Sl)=>hpv prog (Builtin.append_ #[bf,bf] bf #[(sv v5),(sv a0)]) ce fun (v7:Sl)=>K v7)
theorem pU (a0:Sl) {K:Sl->Hp->Prop} {h:Hp} (H:jQ a0 K h):cl prog gB [(sv a0)] ce K h:=z_i func180 p p fun _=>O<|U p<|am<|O<|M p<|J (v_seqT underlying93 p)<|ae<|aw p H (fun k1 H2=>O<|U p<|ak<|Z ⟨(⟨none,0,0,none⟩:Sl),p,H2⟩) fun k1 H2=>ap<|O<|aa<|aS H2 (bt (vs:=[]) p) p fun v5 _ H3=>M p<|aa<|aS H3 (dG p p) p fun v7 _ H4=>U p<|ak<|Z ⟨v7,p,H4⟩
end
section
open Go Mb
abbrev vI (s:Sl) (xs:List Int):As:=vec kR 1 (cI .i64) s xs
def fq (a:Int):List Int->Int->Int
 | [],_=>-1
 | x::xs,i=>if a = x then i else fq a xs (i + 1)
theorem sp_slices_Index (s:Sl) (a:Int) (xs:List Int) (hb:xs.length < 2^62) :
  Sp prog jZ [sv s,.int .i64 a] eA [vI s xs] (fun r=>pa_ (r = fq a xs 0) [vI s xs]):=by
 intro h st
 refine uM _ _ ?_
 unfold nJ
 refine Lp.intro (fun (i:Int) h=>∃ n:Nat,i = n/\n <= xs.length/\fq a (xs.drop n) n = fq a xs 0/\aE [vI s xs] h) (fun (i:Int) _=>xs.length - i.toNat) ⟨0,rfl,zero_le _,by simp,st⟩ ?_
 rintro i h ⟨n,rfl,hn,he,st⟩
 have hl:=(ci st (j:=0) rfl).1
 unfold jA
 refine aY (fun k=>?_) (fun k=>?_)
 ·have hlt:n < xs.length:=by simp [hl] at k; exact k
  refine dn st (j:=0) rfl (by omega) (by omega) fun q hq=>?_
  refine dT (j:=0) (i:=n) (k:=0) xs[n] (cR _) st rfl hq (by simp) (aD hlt) (by simp) ?_
  have hd:xs.drop n = xs[n]::xs.drop (n + 1):=List.drop_eq_getElem_cons hlt
  rw [hd] at he
  refine aY (fun k2=>?_) (fun k2=>?_)
  ·have k2':a = xs[n]:=by simpa using k2
   rw [fq,if_pos k2'] at he
   exact ⟨he,st⟩
  ·have k2':¬ a = xs[n]:=by simpa using k2
   rw [fq,if_neg k2'] at he
   have hw:i64.wrap ((n:Int) + 1) = ((n + 1:Nat):Int):=by rw [bN (by omega) (by omega)]; rfl
   rw [hw]
   exact ⟨⟨n + 1,rfl,hlt,by simpa using he,st⟩,by simp; omega⟩
 ·have:n = xs.length:=by simp [hl] at k; omega
  subst this
  simp only [List.drop_length,fq] at he
  exact ⟨he,st⟩
def fU (x:Ptr) (p:List Int):As:=fun h=>∃ bs:Nat × Sl,(x = some (bs.1,0)/\p.length <= 16)/\aE [blk bs.1 qC [sv bs.2],vI bs.2 p] h
namespace Pool
def refs (p:List Int) (i:Int):Int:=if i < 0 then 0 else p.getD i.toNat 0
def take (p:List Int):Int × Bool × List Int :=
 if fq 0 p 0 < 0 then (0,false,p) else (fq 0 p 0,true,p.set (fq 0 p 0).toNat 1)
def hold (p:List Int) (i:Int):Bool × List Int :=
 if refs p i = 0\/refs p i >= 7 then (false,p) else (true,p.set i.toNat (i64.wrap (refs p i + 1)))
def lets (p:List Int) (i:Int):Int × Bool × List Int :=
 if refs p i = 0 then (0,false,p) else (i64.wrap (refs p i - 1),true,p.set i.toNat (i64.wrap (refs p i - 1)))
def freeFrom:List Int->Int->List Int
 | [],_=>[]
 | x::xs,i=>if x = 0 then i::freeFrom xs (i + 1) else freeFrom xs (i + 1)
def free (p:List Int):List Int:=freeFrom p 0
end Pool
theorem idx_lt (a:Int):∀ (xs:List Int) (i:Int),fq a xs i = -1\/∃ n:Nat,n < xs.length/\fq a xs i = i + n
 | [],_=>.inl rfl
 | x::xs,i=>by
  unfold fq
  split
  ·exact .inr ⟨0,by simp,by simp⟩
  ·rcases idx_lt a xs (i + 1) with h | ⟨n,h1,h2⟩
   ·exact .inl h
   ·exact .inr ⟨n + 1,by simp; omega,by rw [h2]; omega⟩
theorem pool_op {x:Ptr} {p:List Int} {l:List As} {h:Hp} (s0:aE (fU x p::l) h):∃ b s,x = some (b,0)/\p.length <= 16/\s.len = p.length/\aE (blk b qC [sv s]::vI s p::l) h:=by
 obtain ⟨⟨b,s⟩,⟨hx,hb⟩,st⟩:=op_ s0
 exact ⟨b,s,hx,hb,(ci (j:=1) st rfl).1,st⟩
theorem rX {b:Nat} {s:Sl} {p:List Int} {l:List As} {h:Hp} (hb:p.length <= 16) (st:aE (blk b qC [sv s]::vI s p::l) h):aE (fU (some (b,0)) p::l) h:=cl_ (b,s) ⟨rfl,hb⟩ st
theorem sp_pool_New (n:Int) (h1:¬ n < 1) (h2:¬ n > 16):Sp prog xd [.int .i64 n] sm [] (fun r=>aE [fU r (replicate n.toNat 0)]):=by
 intro h st
 refine sim_pool_New _ ?_
 unfold sh_pool_New
 obtain ⟨m,rfl⟩:=Int.eq_ofNat_of_zero_le (show 0 <= n by omega)
 refine dp (by simp; omega) ?_
 refine lD (τ:=Int) (x0:=0) (enc:=cI .i64) (n:=m) (T:=kR) (m:=1) xA rfl st ?_ ?_ ?_
 ·omega
 ·omega
 ·intro v h' s1
  refine pn s1 fun b h'' s2=>?_
  exact rX (by simp; omega) s2
theorem wt (x:Ptr) (p:List Int) (i:Int):Sp prog jD [pv x,.int .i64 i] eA [fU x p] (fun r=>pa_ (r = Pool.refs p i) [fU x p]):=by
 intro h s0
 obtain ⟨b,s,rfl,hb,hl,st⟩:=pool_op s0
 refine sim_pool_Pool_Refs _ _ ?_
 unfold tS
 refine aY (fun k=>?_) (fun k=>?_)
 ·have h0:0 <= i:=by simpa using k
  obtain ⟨n,rfl⟩:=Int.eq_ofNat_of_zero_le h0
  refine cD ?_
  refine bn s st (i:=0) rfl rfl rfl ?_
  refine aY (fun k2=>?_) (fun k2=>?_)
  ·have:p.length <= n:=by rw [hl] at k2; simpa using k2
   exact aX (by simp [Pool.refs,this]) (rX hb st)
  ·have hlt:n < p.length:=by rw [hl] at k2; simpa using k2
   refine bn s st (i:=0) rfl rfl rfl ?_
   refine dn st (j:=1) rfl (by omega) (by omega) fun q hq=>?_
   refine dT (j:=1) (i:=n) (k:=0) p[n] (cR _) st rfl hq (by simp) (aD hlt) (by simp) ?_
   refine aX ?_ (rX hb st)
   have:¬ ((n:Int) < 0):=by omega
   simp [Pool.refs,hlt,this]
 ·have h0:i < 0:=by simpa using k
  exact aX (by simp [Pool.refs,h0]) (rX hb st)
theorem wq (x:Ptr) (p:List Int):Sp prog jC [pv x] bM [fU x p] (fun r=>pa_ (r = ((Pool.take p).1,(Pool.take p).2.1)) [fU x (Pool.take p).2.2]):=by
 intro h s0
 obtain ⟨b,s,rfl,hb,hl,st⟩:=pool_op s0
 refine sim_pool_Pool_Take _ ?_
 unfold tR
 refine dp rfl (cD ?_)
 refine bn s st (i:=0) rfl rfl rfl ?_
 refine cQ [1] (sp_slices_Index s 0 p (by omega)) st rfl fun r h' s1=>?_
 obtain ⟨hr,s2⟩:=bu.1 s1
 subst hr
 refine aY (fun k=>?_) (fun k=>?_)
 ·have k':fq 0 p 0 < 0:=by simpa using k
  have e:Pool.take p = (0,false,p):=if_pos k'
  rw [e]
  exact aX rfl (rX hb (bc [1] s2 rfl))
 ·have k':¬ fq 0 p 0 < 0:=by simpa using k
  have e0:Pool.take p = (fq 0 p 0,true,p.set (fq 0 p 0).toNat 1):=if_neg k'
  rw [e0]
  rcases idx_lt 0 p 0 with e | ⟨n,h1,e⟩
  ·omega
  ·rw [zero_add] at e
   refine bn s s2 (i:=1) rfl rfl rfl ?_
   rw [e]
   refine dn s2 (j:=0) rfl (by omega) (by omega) fun q hq=>?_
   refine st_v (j:=0) (i:=n) (k:=0) (1:Int) (cR _) s2 rfl hq (by simp) (aD h1) (by simp) rfl fun h2 s3=>?_
   exact aX rfl (rX (by simpa using hb) (bc [1] s3 rfl))
theorem refs_get {p:List Int} {i:Int} (h:Pool.refs p i ≠ 0):∃ n:Nat,i = n/\∃ hn:n < p.length,Pool.refs p i = p[n]:=by
 unfold Pool.refs at h ⊢
 by_cases h0:i < 0
 ·rw [if_pos h0] at h; exact absurd rfl h
 ·rw [if_neg h0] at h ⊢
  obtain ⟨n,rfl⟩:=Int.eq_ofNat_of_zero_le (show 0 <= i by omega)
  refine ⟨n,rfl,?_⟩
  by_cases hn:n < p.length
  ·exact ⟨hn,by simp [hn]⟩
  ·simp [List.getD_eq_getElem?_getD,List.getElem?_eq_none (Nat.le_of_not_lt hn)] at h
theorem sp_pool_Hold (x:Ptr) (p:List Int) (i:Int):Sp prog lX [pv x,.int .i64 i] aB [fU x p] (fun r=>pa_ (r = (Pool.hold p i).1) [fU x (Pool.hold p i).2]):=by
 intro h s0
 refine sim_pool_Pool_Hold _ _ ?_
 unfold tT
 refine cQ [0] (wt x p i) s0 rfl fun r h' s1=>?_
 obtain ⟨hr,s2⟩:=bu.1 s1
 subst hr
 refine aY (fun k=>?_) (fun k=>?_)
 ·have k':Pool.refs p i = 0\/Pool.refs p i >= 7:=by simpa using k
  have e:Pool.hold p i = (false,p):=if_pos k'
  rw [e]
  exact aX rfl s2
 ·have k':¬ (Pool.refs p i = 0\/Pool.refs p i >= 7):=by simpa using k
  have e:Pool.hold p i = (true,p.set i.toNat (i64.wrap (Pool.refs p i + 1))):=if_neg k'
  rw [e]
  obtain ⟨n,rfl,hn,hg⟩:=refs_get (p:=p) (i:=i) (by omega)
  obtain ⟨b,s,rfl,hb,hl,st⟩:=pool_op s2
  refine cD ?_
  refine bn s st (i:=0) rfl rfl rfl ?_
  refine dn st (j:=1) rfl (by omega) (by omega) fun q hq=>?_
  refine dT (j:=1) (i:=n) (k:=0) p[n] (cR _) st rfl hq (by simp) (aD hn) (by simp) ?_
  refine st_v (j:=1) (i:=n) (k:=0) (i64.wrap (p[n] + 1)) (cR _) st rfl hq (by simp) (aD hn) (by simp) rfl fun h2 s3=>?_
  rw [hg]
  exact aX rfl (rX (by simpa using hb) s3)
theorem sp_pool_Let (x:Ptr) (p:List Int) (i:Int):Sp prog ng [pv x,.int .i64 i] bM [fU x p] (fun r=>pa_ (r = ((Pool.lets p i).1,(Pool.lets p i).2.1)) [fU x (Pool.lets p i).2.2]):=by
 intro h s0
 refine sim_pool_Pool_Let _ _ ?_
 unfold vr
 refine cQ [0] (wt x p i) s0 rfl fun r h' s1=>?_
 obtain ⟨hr,s2⟩:=bu.1 s1
 subst hr
 refine aY (fun k=>?_) (fun k=>?_)
 ·have k':Pool.refs p i = 0:=by simpa using k
  have e:Pool.lets p i = (0,false,p):=if_pos k'
  rw [e]
  exact aX rfl s2
 ·have k':¬ (Pool.refs p i = 0):=by simpa using k
  have e:Pool.lets p i = (i64.wrap (Pool.refs p i - 1),true,p.set i.toNat (i64.wrap (Pool.refs p i - 1))):=if_neg k'
  rw [e]
  obtain ⟨n,rfl,hn,hg⟩:=refs_get (p:=p) (i:=i) k'
  obtain ⟨b,s,rfl,hb,hl,st⟩:=pool_op s2
  refine cD ?_
  refine bn s st (i:=0) rfl rfl rfl ?_
  refine dn st (j:=1) rfl (by omega) (by omega) fun q hq=>?_
  refine dT (j:=1) (i:=n) (k:=0) p[n] (cR _) st rfl hq (by simp) (aD hn) (by simp) ?_
  refine st_v (j:=1) (i:=n) (k:=0) (i64.wrap (p[n] - 1)) (cR _) st rfl hq (by simp) (aD hn) (by simp) rfl fun h2 s3=>?_
  refine bn s s3 (i:=0) rfl rfl rfl ?_
  refine dn s3 (j:=1) rfl (by omega) (by simp; omega) fun q2 hq2=>?_
  refine dT (j:=1) (i:=n) (k:=0) (i64.wrap (p[n] - 1)) (cR _) s3 rfl hq2 (by simp) (x:=i64.wrap (p[n] - 1)) (by simp [hn]) (by simp) ?_
  rw [hg]
  exact aX rfl (rX (by simpa using hb) s3)
theorem free_append:∀ (xs:List Int) (i:Int) (x:Int),Pool.freeFrom (xs++[x]) i = Pool.freeFrom xs i++(if x = 0 then [i + xs.length] else [])
 | [],i,x=>by simp only [List.nil_append,Pool.freeFrom]; split <;> simp
 | y::xs,i,x=>by
  simp only [cons_append,Pool.freeFrom]
  rw [free_append xs (i + 1) x]
  have e:i + 1 + (xs.length:Int) = i + ((y::xs).length:Int):=by simp; omega
  rw [e]
  split <;> simp
theorem free_len:∀ (xs:List Int) (i:Int),(Pool.freeFrom xs i).length <= xs.length
 | [],_=>Nat.le_refl _
 | x::xs,i=>by unfold Pool.freeFrom; have:=free_len xs (i + 1); split <;> simp <;> omega
theorem wg {l:List As} {h:Hp} {i:Nat} {s:Sl} {xs:List Int} {x:Int} {K:Sl->Hp->Prop} (st:aE l h) (hi:l[i]? = some (vI s xs)) (hb:xs.length < 2 ^ 40)
  (k:∀ v h',aE (l.set i (vI v (xs++[x]))) h'->K v h'):hpv prog (Instr.buildSlice dD 1 #[(0,.int .i64 x)]) cx (fun y=>hpv prog (Builtin.append_ #[dD,dD] dD #[sv s,sv y]) cx K) h:=by
 refine eN (τ:=Int) [x] (val:=fun x=>.int .i64 x) (enc:=cI .i64) xA (cR _) (fun _=>rfl) st rfl rfl (by simp) fun y h' s1=>?_
 have hlt:=(List.getElem?_eq_some_iff.1 hi).1
 refine tC (τ:=Int) (i:=i + 1) (j:=0) (enc:=cI .i64) (ys:=[x]) xA xA.sl (cR _) (oneI _) s1 (by simpa using hi) rfl (by omega) (by simp; omega) (by simp; omega) fun v h2 s2=>?_
 exact k v h2 (cd (l:=[vI y [x]]) (by simpa using s2))
theorem sp_pool_Free (x:Ptr) (p:List Int):Sp prog lY [pv x] cx [fU x p] (fun r=>aE [vI r (Pool.free p),fU x p]):=by
 intro h s0
 obtain ⟨b,s,rfl,hb,hl,st⟩:=pool_op s0
 refine sim_pool_Pool_Free _ ?_
 unfold tU
 refine dp rfl (cD ?_)
 refine bn s st (i:=0) rfl rfl rfl ?_
 refine Lp.intro (fun (z:Sl × Int) h=>∃ n:Nat,z.2 = n/\n <= p.length/\aE [vI z.1 (Pool.freeFrom (p.take n) 0),blk b qC [sv s],vI s p] h) (fun (z:Sl × Int) _=>p.length - z.2.toNat) ⟨0,rfl,zero_le _,fL st⟩ ?_
 rintro ⟨z,i⟩ h ⟨n,rfl,hn,s1⟩
 unfold oF
 refine aY (fun k=>?_) (fun k=>?_)
 ·have hlt:n < p.length:=by rw [hl] at k; simpa using k
  have hw:i64.wrap ((n:Int) + 1) = ((n + 1:Nat):Int):=by rw [bN (by omega) (by omega)]; rfl
  have ht:p.take (n + 1) = p.take n++[p[n]]:=by simp
  have hlen:((p.take n).length:Int) = n:=by simp; omega
  refine dn s1 (j:=2) rfl (by omega) (by show (n:Int) < _; omega) fun q hq=>?_
  refine dT (j:=2) (i:=n) (k:=0) p[n] (cR _) s1 rfl hq (by simp) (aD hlt) (by simp) ?_
  refine aY (fun k2=>?_) (fun k2=>?_)
  ·have k2':p[n] = 0:=by simpa using k2
   refine wg s1 (i:=0) rfl ?_ fun v h' s2=>?_
   ·have:=free_len (p.take n) 0; simp at this ⊢; omega
   ·rw [hw]
    refine ⟨⟨n + 1,rfl,hlt,?_⟩,by simp; omega⟩
    rw [ht,free_append,if_pos k2',hlen,zero_add]
    exact s2
  ·have k2':¬ p[n] = 0:=by simpa using k2
   rw [hw]
   refine ⟨⟨n + 1,rfl,hlt,?_⟩,by simp; omega⟩
   rw [ht,free_append,if_neg k2',List.append_nil]
   exact s1
 ·have:n = p.length:=by rw [hl] at k; simp at k; omega
  subst this
  rw [take_length] at s1
  exact kz (.cons _ (.refl _)) (bc (l:=[vI z (Pool.freeFrom p 0),fU (some (b,0)) p]) [0] (by
   have:=bc [1,1] s1 rfl
   exact bc [1] (rX hb this) rfl) rfl)
def Pool.bitsOf (w:Int):List Int->Int
 | []=>w
 | i::l=>Pool.bitsOf (ior .u64 w (u64.wrap (1 * 2 ^ (min (Int.toNat i) (IntKind.bits .u64))))) l
def Pool.bits (p:List Int):Int:=Pool.bitsOf 0 (Pool.free p)
theorem free_ge:∀ (xs:List Int) (i:Int),0 <= i->∀ j ∈ Pool.freeFrom xs i,0 <= j
 | [],_,_,_,h=>by cases h
 | x::xs,i,hi,j,h=>by
  unfold Pool.freeFrom at h
  split at h
  ·rcases List.mem_cons.1 h with rfl | h
   ·exact hi
   ·exact free_ge xs (i + 1) (by omega) j h
  ·exact free_ge xs (i + 1) (by omega) j h
theorem bits_append (a:Int):∀ (l:List Int) (w:Int),Pool.bitsOf w (l++[a]) = ior .u64 (Pool.bitsOf w l) (u64.wrap (1 * 2 ^ (min (Int.toNat a) (IntKind.bits .u64))))
 | [],_=>rfl
 | _::l,w=>by simp only [cons_append,Pool.bitsOf]; exact bits_append a l _
theorem sp_pool_Bits (x:Ptr) (p:List Int):Sp prog pY [pv x] gM [fU x p] (fun r=>pa_ (r = Pool.bits p) [fU x p]):=by
 intro h s0
 have hp16:p.length <= 16:=by obtain ⟨_,_,_,hb,_⟩:=pool_op s0; exact hb
 refine sim_pool_Pool_Bits _ ?_
 unfold tV
 refine cQ [0] (sp_pool_Free x p) s0 rfl fun r h1 s1=>?_
 have s2:=dC s1
 have hl:=(ci (j:=0) s2 rfl).1
 have hfl:=free_len p 0
 refine Lp.intro (fun (z:Int × Int) h=>∃ n:Nat,z.2 = n/\n <= (Pool.free p).length/\z.1 = Pool.bitsOf 0 ((Pool.free p).take n)/\aE [vI r (Pool.free p),fU x p] h) (fun (z:Int × Int) _=>(Pool.free p).length - z.2.toNat) ⟨0,rfl,zero_le _,rfl,s2⟩ ?_
 rintro ⟨w,i⟩ h ⟨n,rfl,hn,rfl,s3⟩
 unfold oG
 refine aY (fun k=>?_) (fun k=>?_)
 ·have hlt:n < (Pool.free p).length:=by rw [hl] at k; simpa using k
  have hw:i64.wrap ((n:Int) + 1) = ((n + 1:Nat):Int):=by
   have:(Pool.free p).length <= 16:=by unfold Pool.free; omega
   rw [bN (by omega) (by omega)]; rfl
  refine dn s3 (j:=0) rfl (by omega) (by show (n:Int) < _; omega) fun q hq=>?_
  refine dT (j:=0) (i:=n) (k:=0) (Pool.free p)[n] (cR _) s3 rfl hq (by simp) (aD hlt) (by simp) ?_
  refine ⟨free_ge p 0 (Int.le_refl _) _ (List.getElem_mem hlt),?_⟩
  rw [hw]
  refine ⟨⟨n + 1,rfl,hlt,?_,s3⟩,by simp; omega⟩
  have ht:(Pool.free p).take (n + 1) = (Pool.free p).take n++[(Pool.free p)[n]]:=by simp
  rw [ht,bits_append]
 ·have:n = (Pool.free p).length:=by rw [hl] at k; simp at k; omega
  subst this
  refine aX ?_ (cd (l:=[vI r (Pool.free p)]) s3)
  rw [take_length]; rfl
end
section
open Go Mb
def sh_table_New (K:Ptr->Hp->Prop):Hp->Prop:=hpv prog (Instr.build ky #[]) encL fun (v1:(List Value))=>nw ky v1 fun b2=>K (some (b2,0))
theorem sim_table_New {K:Ptr->Hp->Prop} {h:Hp} (H:sh_table_New K h):cl prog lp [] io K h:=z_i func107 p p fun _=>O<|U p<|O<|aa<|aS H (x_build (vs:=[]) p) p fun v1 _ H1=>aa<|hU p p p H1 fun b2 _ H2=>U p<|ak<|Z ⟨some (b2,0),p,H2⟩
def iI (a0:Ptr) (a1:Int) (K:(an × Bool)->Hp->Prop) (s1:Bool):Hp->Prop:=br s1 ( K ((⟨0,0,0⟩:an),false)) ( nn a0 fun q26=>gd (0 <= a1/\a1 < 8)<|ld (q26.1,q26.2 + 0 + Int.toNat a1 * 3) an.C fun x29=>K (x29,true))
def tQ (a0:Ptr) (a1:Int) (K:(an × Bool)->Hp->Prop):Hp->Prop:=br (!(a0.isNone || (!(bv a1)))) ( nn a0 fun q16=>gd (0 <= a1/\a1 < 8)<|ld (q16.1,q16.2 + 0 + Int.toNat a1 * 3 + 2) (cI .i64) fun x20=>iI a0 a1 K (x20 == 0)) ( iI a0 a1 K true)
theorem sim_table_Table_At (a0:Ptr) (a1:Int) {K:(an × Bool)->Hp->Prop} {h:Hp} (H:tQ a0 a1 K h):cl prog eU [(pv a0),(.int .i64 a1)] cA K h:=z_i func135 p p fun _=>O<|aa<|aN (l:=an.C (⟨0,0,0⟩:an)) fX p p fun b4=>U p<|am<|eq (iI a0 a1 K) (fun s1=>[(0,(pv a0)),(1,(.int .i64 a1)),(4,(.pointer (some ⟨b4,0,none⟩))),(22,(.bool s1))]) (fun s1=>[bx b4 79 (an.C (⟨0,0,0⟩:an))]) (aq<|M p<|J (cm underlying161 p)<|M p<|W p p (aI _) (fun g10=>wv<|aj p)<|db (vs:=[(.int .i64 a1)]) p p p (aI _) (fun g11=>bw<|uE a1 _) en_156 (fun g11=>aR (aC p g11) bO) p<|W p p (aI _) (fun g12=>wv<|ct<|aC p g12)<|J (dr p p)<|M p<|W p p (aI _) (fun g13=>wv<|aj p)<|W p p (aI _) (fun g14=>wv<|aj p)<|bU H (fun k16 H17=>bI H17 fun q16 e18 H19=>G (F<|cg k16)<|z_p (aH<|aM (aC p k16)<|ar e18)<|G (F<|cg k16)<|z_p (ah kB p)<|iz H19 fun h20 H21=>G (F<|cg k16)<|z_p (bA xC p (aC p k16) h20)<|G (F<|cg k16)<|z_p (ah eJ p)<|G (F<|cg k16)<|aV H21 bb p (fun _=>p) p fun x20 H22=>G (F<|cg k16)<|z_p (bR p p)<|J (au p (cg k16) p)<|ae<|cF (x20 == 0) H22 (.cons p<|.cons p<|.cons p<|.cons p<|.nil _)<|.cons_cons _ .slnil) fun k16 H17=>Y (bY<|bG k16)<|Y (bY<|bG k16)<|Y (bY<|bG k16)<|Y (bY<|bG k16)<|Y (bY<|bG k16)<|Y (bY<|bG k16)<|J (aT p (bG k16) p)<|ae<|cF true H17 (.cons p<|.cons p<|.cons p<|.cons p<|.nil _)<|.cons_cons _ .slnil) fun s1 _ H2=>aw p H2 (fun k3 H4=>O<|J (aZ (vs:=[]) p mY)<|aa<|aQ (k:=0) (vs:=an.C (⟨0,0,0⟩:an)) dM p p p p p p p<|U p<|ak<|bz (bT p (bE (k:=0) p fG p p)<|cc p) ⟨((⟨0,0,0⟩:an),false),p,H4⟩) fun k3 H4=>ap<|O<|M p<|M p<|bI H4 fun q26 e5 H6=>J (aH<|aM p<|ar e5)<|J (ah kB p)<|iz H6 fun h7 H8=>J (bA xC p p h7)<|aa<|gA H8 fG p (fun _=>p) p fun x29 H9=>aa<|aQ (k:=0) (vs:=an.C x29) dM p p p p p p p<|U p<|ak<|bz (bT p (bE (k:=0) p fG p p)<|cc p) ⟨(x29,true),p,H9⟩
def pu (a0:Ptr) (a1:Int) (a2:an) (K:Int->Hp->Prop):Hp->Prop:=br a0.isNone ( K 10) ( br (((!(eQ a2).2) || (a2.fBa == 0)) || (!(bv a1))) ( K 2) ( nn a0 fun q30=>gd (0 <= a1/\a1 < 8)<|ld (q30.1,q30.2 + 0 + Int.toNat a1 * 3 + 2) (cI .i64) fun x34=>br (x34 != 0) ( K 4) ( st (q30.1,q30.2 + 0 + Int.toNat a1 * 3) (an.C a2)<|K 0)))
theorem wB (a0:Ptr) (a1:Int) (a2:an) {K:Int->Hp->Prop} {h:Hp} (H:pu a0 a1 a2 K h):cl prog dW [(pv a0),(.int .i64 a1),(.agg (an.C a2).toArray)] bh K h:=z_i func112 p p fun _=>O<|aa<|cK (l:=an.C a2) p p p fun b5=>U p<|am<|O<|M p<|J (cm underlying161 p)<|ae<|aw p H (fun k1 H2=>O<|U p<|ak<|Z ⟨10,p,H2⟩) fun k1 H2=>ap<|am<|O<|bi (bD (k:=0) fG p p p p) p<|aa<|cJ (vs:=[(.agg (an.C a2).toArray)]) (bw<|ct_pte_Put a2 _) en_155 p p<|M p<|J (al p p)<|J (al p p)<|J (av p)<|U p<|O<|M p<|J (ct p)<|M p<|W p p (aI _) (fun g3=>wv<|ah eJ p)<|W p p (aI _) (fun g4=>cv<|be (k:=0) bb (aC p g4) p p)<|W p p (aI _) (fun g5=>wv<|bR (aC p g5) p)<|J (dr p p)<|M p<|W p p (aI _) (fun g6=>wv<|aj p)<|db (vs:=[(.int .i64 a1)]) p p p (aI _) (fun g7=>bw<|uE a1 _) en_156 (fun g7=>aR (aC p g7) bO) p<|W p p (aI _) (fun g8=>wv<|ct<|aC p g8)<|J (dr p p)<|ae<|aw p H2 (fun k9 H10=>O<|U p<|ak<|Z ⟨2,p,H10⟩) fun k9 H10=>ap<|am<|O<|M p<|M p<|bI H10 fun q30 e11 H12=>J (aH<|aM p<|ar e11)<|J (ah kB p)<|iz H12 fun h13 H14=>J (bA xC p p h13)<|J (ah eJ p)<|aa<|aV H14 bb p (fun _=>p) p fun x34 H15=>J (ph p p)<|ae<|aw p H15 (fun k16 H17=>O<|U p<|ak<|Z ⟨4,p,H17⟩) fun k16 H17=>ap<|am<|bp (n:=7) [bx b5 79 (an.C a2)] cr p (.cons_cons _ .slnil)<|V 0 p (aj<|aM p<|ar e11)<|V 1 p (aj p)<|z_E 2 p (eC (k:=0) fG p p p p)<|V 3 p (aH p)<|V 4 p (ah kB p)<|V 5 p (bA xC p p h13)<|I 6 p<|dx dM p p p p p H17 fun _ H18=>⟨.cons_cons _ .slnil,aW (by kernel_rfl)<|O<|U p<|ak<|Z ⟨0,p,H18⟩⟩
def pt (a0:Ptr) (a1:Int) (K:(an × Int)->Hp->Prop):Hp->Prop:=br a0.isNone ( K ((⟨0,0,0⟩:an),10)) ( br (!(bv a1)) ( K ((⟨0,0,0⟩:an),2)) ( nn a0 fun q19=>gd (0 <= a1/\a1 < 8)<|ld (q19.1,q19.2 + 0 + Int.toNat a1 * 3 + 2) (cI .i64) fun x23=>br (x23 == 0) ( K ((⟨0,0,0⟩:an),3)) ( ld (q19.1,q19.2 + 0 + Int.toNat a1 * 3) an.C fun x31=>st (q19.1,q19.2 + 0 + Int.toNat a1 * 3) (an.C (⟨0,0,0⟩:an))<|K (x31,0))))
theorem wA (a0:Ptr) (a1:Int) {K:(an × Int)->Hp->Prop} {h:Hp} (H:pt a0 a1 K h):cl prog iQ [(pv a0),(.int .i64 a1)] jw K h:=z_i func128 p p fun _=>O<|aa<|aN (l:=an.C (⟨0,0,0⟩:an)) fX p p fun b4=>U p<|am<|az<|O<|M p<|J (cm underlying161 p)<|U p<|aw p H (fun k1 H2=>O<|J (aZ (vs:=[]) p mY)<|aa<|aQ (k:=0) (vs:=an.C (⟨0,0,0⟩:an)) dM p p p p p p p<|U p<|ak<|bz (bT p (bE (k:=0) p fG p p)<|cc p) ⟨((⟨0,0,0⟩:an),10),p,H2⟩) fun k1 H2=>O<|M p<|aa<|cJ (vs:=[(.int .i64 a1)]) (bw<|uE a1 _) en_156 p p<|J (ct p)<|U p<|aw p H2 (fun k3 H4=>O<|J (aZ (vs:=[]) p mY)<|aa<|aQ (k:=0) (vs:=an.C (⟨0,0,0⟩:an)) dM p p p p p p p<|U p<|ak<|bz (bT p (bE (k:=0) p fG p p)<|cc p) ⟨((⟨0,0,0⟩:an),2),p,H4⟩) fun k3 H4=>O<|M p<|M p<|bI H4 fun q19 e5 H6=>J (aH<|aM p<|ar e5)<|J (ah kB p)<|iz H6 fun h7 H8=>J (bA xC p p h7)<|J (ah eJ p)<|aa<|aV H8 bb p (fun _=>p) p fun x23 H9=>J (bR p p)<|U p<|aw p H9 (fun k10 H11=>O<|J (aZ (vs:=[]) p mY)<|aa<|aQ (k:=0) (vs:=an.C (⟨0,0,0⟩:an)) dM p p p p p p p<|U p<|ak<|bz (bT p (bE (k:=0) p fG p p)<|cc p) ⟨((⟨0,0,0⟩:an),3),p,H11⟩) fun k10 H11=>ap<|O<|M (aM p<|ar e5)<|M p<|J (aH p)<|J (ah kB p)<|J (bA xC p p h7)<|aa<|gA H11 fG p (fun _=>p) p fun x31 H12=>aa<|aN (l:=an.C (⟨0,0,0⟩:an)) fX p p fun b6=>aa<|aQ (k:=0) (vs:=an.C x31) dM p p p p p p p<|ae<|O<|M (aM p<|ar e5)<|M p<|J (aZ (vs:=[]) p mY)<|J (aH p)<|J (ah kB p)<|J (bA xC p p h7)<|aa<|dx dM p p p p p H12 fun _ H13=>ae<|O<|bi (bD (k:=0) fG p p p p) p<|aa<|aQ (k:=1) (vs:=an.C x31) dM p p p p p p p<|U p<|ak<|bz (bT p (bE (k:=1) p fG p p)<|cc p) ⟨(x31,0),p,H13⟩
def ol (a1:Int) (K:Sl->Hp->Prop) (v13:(List Value)) (Rec8:(Sl × Int)->Hp->Prop) (s7:Sl × Int):Hp->Prop:=br (decide (s7.2 < 8)) ( hpv prog (Instr.index tO (.agg v13.toArray) (.int .i64 s7.2)) wi fun (v17:an)=>br ((v17.fBa != 0) && (v17.fDa == a1)) ( hpv prog (Instr.buildSlice dD 1 #[(0,(.int .i64 s7.2))]) cx fun (v29:Sl)=>hpv prog (Builtin.append_ #[dD,dD] dD #[(sv s7.1),(sv v29)]) cx fun (v30:Sl)=>Rec8 (v30,(i64.wrap (s7.2 + 1)))) ( Rec8 (s7.1,(i64.wrap (s7.2 + 1))))) ( K s7.1)
def tP (a0:Ptr) (a1:Int) (K:Sl->Hp->Prop):Hp->Prop:=br a0.isNone ( K (⟨none,0,0,none⟩:Sl)) ( nn a0 fun q11=>hpv prog (Instr.loadAt tO (.pointer (some ⟨q11.1,q11.2 + 0,none⟩))) encL fun (v13:(List Value))=>Lp (ol a1 K v13) ((⟨none,0,0,none⟩:Sl),0))
theorem sim_table_Table_By (a0:Ptr) (a1:Int) {K:Sl->Hp->Prop} {h:Hp} (H:tP a0 a1 K h):cl prog lW [(pv a0),(.int .i64 a1)] cx K h:=z_i func176 p p fun _=>O<|U p<|am<|O<|M p<|J (cm underlying161 p)<|ae<|aw p H (fun k1 H2=>O<|U p<|ak<|Z ⟨(⟨none,0,0,none⟩:Sl),p,H2⟩) fun k1 H2=>ap<|O<|U p<|am<|O<|M p<|bI H2 fun q11 e3 H4=>J (aH<|aM p<|ar e3)<|J (ah kB p)<|aa<|aS H4 (x_load p) p fun v13 _ H6=>M p<|ae<|az<|bC (step:=ol a1 K v13) (fun s7=>[(1,(.int .i64 a1)),(5,(sv s7.1)),(13,(.agg v13.toArray)),(14,(.int .i64 s7.2))]) (fun s7=>[]) H6 (.cons p<|.cons p<|.cons p<|.cons p<|.nil _) .slnil fun Rec8 s7 _ H9=>O<|J (cu p p)<|ae<|am<|aw p H9 (fun k10 H11=>ap<|am<|az<|O<|M p<|aa<|aS H11 (x_index p p) p fun v17 _ H12=>aa<|aN (l:=an.C (⟨0,0,0⟩:an)) fX p p fun b7=>J (av p)<|aa<|aQ (k:=0) (vs:=an.C v17) dM p p p p p p p<|ae<|O<|J (ah eJ p)<|bi (be (k:=0) bb p p p) p<|J (ph p p)<|M p<|W p p (ay _) (fun g13=>wv<|ah tj p)<|W p p (ay _) (fun g14=>cv<|be (k:=0) bb (aC p g14) p p)<|W p p (ay _) (fun g15=>wv<|aj p)<|W p p (ay _) (fun g16=>wv<|bR (aC p g16)<|aC p g16)<|J (bP p p)<|ae<|aw p H12 (fun k17 H18=>aq<|M p<|M p<|aa<|aS H18 (bt (vs:=[(.int .i64 s7.2)]) p) p fun v29 _ H19=>aa<|aS H19 (dG p p) p fun v30 _ H20=>U p<|aq<|J (bo p p)<|M p<|ae<|cL (v30,(i64.wrap (s7.2 + 1))) H20 (.cons p<|.cons p<|.cons p<|.cons p<|.nil _)<|.cons _ .slnil) fun k17 H18=>ap<|aq<|J (bo p p)<|M p<|ae<|cL (s7.1,(i64.wrap (s7.2 + 1))) H18 (.cons p<|.cons p<|.cons p<|.cons p<|.nil _)<|.cons _ .slnil) fun k10 H11=>bj<|O<|M p<|U p<|ak<|Z ⟨s7.1,p,H11⟩
def ow (a0:Ptr) (a1:Int) (a2:Int) (K:Int->Hp->Prop):Hp->Prop:=br a0.isNone ( K 10) ( br ((!(bv a1)) || (!(cf a2))) ( K 2) ( nn a0 fun q22=>gd (0 <= a1/\a1 < 8)<|ld (q22.1,q22.2 + 0 + Int.toNat a1 * 3 + 2) (cI .i64) fun x26=>br (x26 == 0) ( K 3) ( st (q22.1,q22.2 + 0 + Int.toNat a1 * 3 + 2) [.int .i64 a2]<|K 0)))
theorem vd (a0:Ptr) (a1:Int) (a2:Int) {K:Int->Hp->Prop} {h:Hp} (H:ow a0 a1 a2 K h):cl prog kF [(pv a0),(.int .i64 a1),(.int .i64 a2)] bh K h:=z_i func178 p p fun _=>O<|U p<|am<|az<|O<|M p<|J (cm underlying161 p)<|U p<|aw p H (fun k1 H2=>O<|U p<|ak<|Z ⟨10,p,H2⟩) fun k1 H2=>O<|M p<|aa<|cJ (vs:=[(.int .i64 a1)]) (bw<|uE a1 _) en_156 p p<|J (ct p)<|M p<|W p p (aI _) (fun g3=>wv<|aj p)<|db (vs:=[(.int .i64 a2)]) p p p (aI _) (fun g4=>bw<|qk a2 _) en_166 (fun g4=>aR (aC p g4) bO) p<|W p p (aI _) (fun g5=>wv<|ct<|aC p g5)<|J (dr p p)<|U p<|aw p H2 (fun k6 H7=>O<|U p<|ak<|Z ⟨2,p,H7⟩) fun k6 H7=>O<|M p<|M p<|bI H7 fun q22 e8 H9=>J (aH<|aM p<|ar e8)<|J (ah kB p)<|iz H9 fun h10 H11=>J (bA xC p p h10)<|J (ah eJ p)<|aa<|aV H11 bb p (fun _=>p) p fun x26 H12=>J (bR p p)<|U p<|aw p H12 (fun k13 H14=>O<|U p<|ak<|Z ⟨3,p,H14⟩) fun k13 H14=>ap<|O<|M (aM p<|ar e8)<|M p<|M p<|J (aH p)<|J (ah kB p)<|J (bA xC p p h10)<|J (ah eJ p)<|aa<|dx pK p p p p p H14 fun _ H15=>ae<|O<|U p<|ak<|Z ⟨0,p,H15⟩
end
section
open Go Mb
abbrev Pte:=an
theorem js (p:Pte):p.C.length = 3:=rfl
abbrev dh:Pte:=⟨0,0,0⟩
def cZ (x:Ptr) (ps:List Pte):As:=fun h=>∃ b:Nat,(x = some (b,0)/\ps.length = 8)/\aE [blk b ky ([]++(ps.flatMap an.C++[]))] h
theorem table_op {x:Ptr} {ps:List Pte} {l:List As} {h:Hp} (s0:aE (cZ x ps::l) h):∃ b,x = some (b,0)/\ps.length = 8/\aE (blk b ky ([]++(ps.flatMap an.C++[]))::l) h:=by
 obtain ⟨b,⟨hx,hb⟩,st⟩:=op_ s0
 exact ⟨b,hx,hb,st⟩
theorem iH {b:Nat} {ps:List Pte} {l:List As} {h:Hp} (hb:ps.length = 8) (st:aE (blk b ky ([]++(ps.flatMap an.C++[]))::l) h):aE (cZ (some (b,0)) ps::l) h:=cl_ b ⟨rfl,hb⟩ st
namespace Table
def at_ (ps:List Pte) (i:Int):Pte:=ps.getD i.toNat dh
def get (ps:List Pte) (i:Int):Pte × Bool:=if bv i = true/\(at_ ps i).fBa ≠ 0 then (at_ ps i,true) else (dh,false)
def insert (ps:List Pte) (i:Int) (p:Pte):Int × List Pte :=
 if (eQ p).2 = false\/p.fBa = 0\/bv i = false then (2,ps) else if (at_ ps i).fBa ≠ 0 then (4,ps) else (0,ps.set i.toNat p)
def protect (ps:List Pte) (i r:Int):Int × List Pte :=
 if bv i = false\/cf r = false then (2,ps) else if (at_ ps i).fBa = 0 then (3,ps) else (0,ps.set i.toNat { at_ ps i with fBa:=r })
def remove (ps:List Pte) (i:Int):(Pte × Int) × List Pte :=
 if bv i = false then ((dh,2),ps) else if (at_ ps i).fBa = 0 then ((dh,3),ps) else ((at_ ps i,0),ps.set i.toNat dh)
def byFrom (s:Int):List Pte->Int->List Int
 | [],_=>[]
 | p::ps,i=>if p.fBa ≠ 0/\p.fDa = s then i::byFrom s ps (i + 1) else byFrom s ps (i + 1)
def by_ (ps:List Pte) (s:Int):List Int:=byFrom s ps 0
end Table
theorem mM {i:Int} (h:bv i = true):∃ n:Nat,i = n/\n < 8:=by
 unfold bv at h
 simp at h
 exact ⟨i.toNat,by omega,by omega⟩
theorem table_new_run (K:Value->Hp->Prop) (h:Hp):hp prog (Instr.build ky #[]) K h = K (.agg ((replicate 8 dh).flatMap an.C).toArray) h:=by kernel_rfl
theorem oq:Sp prog lp [] io [] (fun r=>aE [cZ r (replicate 8 dh)]):=by
 intro h st
 refine sim_table_New ?_
 unfold sh_table_New
 refine ⟨?_⟩
 rw [table_new_run]
 refine ⟨_,rfl,?_⟩
 refine pn st fun b h' s1=>?_
 exact iH rfl s1
theorem ku (x:Ptr) (ps:List Pte) (i:Int) (p:Pte):Sp prog dW [pv x,.int .i64 i,.agg p.C.toArray] bh [cZ x ps] (fun r=>pa_ (r = (Table.insert ps i p).1) [cZ x (Table.insert ps i p).2]):=by
 intro h s0
 obtain ⟨b,rfl,hb,st⟩:=table_op s0
 refine wB _ _ _ ?_
 unfold pu
 refine dp rfl ?_
 refine aY (fun k=>?_) (fun k=>?_)
 ·have k':(eQ p).2 = false\/p.fBa = 0\/bv i = false:=by simpa [or_assoc] using k
  have e:Table.insert ps i p = (2,ps):=if_pos k'
  rw [e]
  exact aX rfl (iH hb st)
 ·have k':¬ ((eQ p).2 = false\/p.fBa = 0\/bv i = false):=by simp at k; simp [k]
  obtain ⟨n,rfl,hn⟩:=mM (i:=i) (by simp at k'; exact k'.2.2)
  have hn':n < ps.length:=by omega
  have hat:Table.at_ ps n = ps[n]:=by simp [Table.at_,hn']
  refine cD ⟨⟨by omega,by omega⟩,?_⟩
  refine ld_a (j:=0) (i:=n) (k:=2) ps[n].fBa js st rfl (by simp) (aD hn') (c1 rfl rfl) ?_
  refine aY (fun k2=>?_) (fun k2=>?_)
  ·have k2':(Table.at_ ps n).fBa ≠ 0:=by rw [hat]; simpa using k2
   have e:Table.insert ps n p = (4,ps):=by unfold Table.insert; rw [if_neg k',if_pos k2']
   rw [e]
   exact aX rfl (iH hb st)
  ·have k2':¬ (Table.at_ ps n).fBa ≠ 0:=by rw [hat]; simpa using k2
   have e:Table.insert ps n p = (0,ps.set n p):=by unfold Table.insert; rw [if_neg k',if_neg k2']; rfl
   rw [e]
   refine st_a (j:=0) (i:=n) (k:=0) p js st rfl (by simp) (aD hn') (by simp [js]) rfl fun h2 s2=>?_
   exact aX rfl (iH (by simpa using hb) s2)
theorem sp_table_Protect (x:Ptr) (ps:List Pte) (i r:Int):Sp prog kF [pv x,.int .i64 i,.int .i64 r] bh [cZ x ps] (fun v=>pa_ (v = (Table.protect ps i r).1) [cZ x (Table.protect ps i r).2]):=by
 intro h s0
 obtain ⟨b,rfl,hb,st⟩:=table_op s0
 refine vd _ _ _ ?_
 unfold ow
 refine dp rfl ?_
 refine aY (fun k=>?_) (fun k=>?_)
 ·have k':bv i = false\/cf r = false:=by simpa using k
  have e:Table.protect ps i r = (2,ps):=if_pos k'
  rw [e]
  exact aX rfl (iH hb st)
 ·have k':¬ (bv i = false\/cf r = false):=by simp at k; simp [k]
  obtain ⟨n,rfl,hn⟩:=mM (i:=i) (by simp at k'; exact k'.1)
  have hn':n < ps.length:=by omega
  have hat:Table.at_ ps n = ps[n]:=by simp [Table.at_,hn']
  refine cD ⟨⟨by omega,by omega⟩,?_⟩
  refine ld_a (j:=0) (i:=n) (k:=2) ps[n].fBa js st rfl (by simp) (aD hn') (c1 rfl rfl) ?_
  refine aY (fun k2=>?_) (fun k2=>?_)
  ·have k2':(Table.at_ ps n).fBa = 0:=by rw [hat]; simpa using k2
   have e:Table.protect ps n r = (3,ps):=by unfold Table.protect; rw [if_neg k',if_pos k2']
   rw [e]
   exact aX rfl (iH hb st)
  ·have k2':¬ (Table.at_ ps n).fBa = 0:=by rw [hat]; simpa using k2
   have e:Table.protect ps n r = (0,ps.set n { ps[n] with fBa:=r }):=by unfold Table.protect; rw [if_neg k',if_neg k2',hat]; rfl
   rw [e]
   refine st_a (j:=0) (i:=n) (k:=2) { ps[n] with fBa:=r } js st rfl (by simp) (aD hn') (by simp) rfl fun h2 s2=>?_
   exact aX rfl (iH (by simpa using hb) s2)
theorem sp_table_Remove (x:Ptr) (ps:List Pte) (i:Int):Sp prog iQ [pv x,.int .i64 i] jw [cZ x ps] (fun v=>pa_ (v = (Table.remove ps i).1) [cZ x (Table.remove ps i).2]):=by
 intro h s0
 obtain ⟨b,rfl,hb,st⟩:=table_op s0
 refine wA _ _ ?_
 unfold pt
 refine dp rfl ?_
 refine aY (fun k=>?_) (fun k=>?_)
 ·have k':bv i = false:=by simpa using k
  have e:Table.remove ps i = ((dh,2),ps):=if_pos k'
  rw [e]
  exact aX rfl (iH hb st)
 ·have k':¬ (bv i = false):=by simp at k; simp [k]
  obtain ⟨n,rfl,hn⟩:=mM (i:=i) (by simp at k'; exact k')
  have hn':n < ps.length:=by omega
  have hat:Table.at_ ps n = ps[n]:=by simp [Table.at_,hn']
  refine cD ⟨⟨by omega,by omega⟩,?_⟩
  refine ld_a (j:=0) (i:=n) (k:=2) ps[n].fBa js st rfl (by simp) (aD hn') (c1 rfl rfl) ?_
  refine aY (fun k2=>?_) (fun k2=>?_)
  ·have k2':(Table.at_ ps n).fBa = 0:=by rw [hat]; simpa using k2
   have e:Table.remove ps n = ((dh,3),ps):=by unfold Table.remove; rw [if_neg k',if_pos k2']
   rw [e]
   exact aX rfl (iH hb st)
  ·have k2':¬ (Table.at_ ps n).fBa = 0:=by rw [hat]; simpa using k2
   have e:Table.remove ps n = ((ps[n],0),ps.set n dh):=by unfold Table.remove; rw [if_neg k',if_neg k2',hat]; rfl
   rw [e]
   refine ld_a (j:=0) (i:=n) (k:=0) ps[n] js st rfl (by simp) (aD hn') (by simp) ?_
   refine st_a (j:=0) (i:=n) (k:=0) dh js st rfl (by simp) (aD hn') (by simp [js]) rfl fun h2 s2=>?_
   exact aX rfl (iH (by simpa using hb) s2)
theorem nI (x:Ptr) (ps:List Pte) (i:Int):Sp prog eU [pv x,.int .i64 i] cA [cZ x ps] (fun v=>pa_ (v = Table.get ps i) [cZ x ps]):=by
 intro h s0
 obtain ⟨b,rfl,hb,st⟩:=table_op s0
 refine sim_table_Table_At _ _ ?_
 unfold tQ
 refine aY (fun k=>?_) (fun k=>?_)
 ·have k':bv i = true:=by simpa using k
  obtain ⟨n,rfl,hn⟩:=mM k'
  have hn':n < ps.length:=by omega
  have hat:Table.at_ ps n = ps[n]:=by simp [Table.at_,hn']
  refine cD ⟨⟨by omega,by omega⟩,?_⟩
  refine ld_a (j:=0) (i:=n) (k:=2) ps[n].fBa js st rfl (by simp) (aD hn') (c1 rfl rfl) ?_
  unfold iI
  refine aY (fun k2=>?_) (fun k2=>?_)
  ·have k2':(Table.at_ ps n).fBa = 0:=by rw [hat]; simpa using k2
   have e:Table.get ps n = (dh,false):=if_neg (fun hh=>hh.2 k2')
   rw [e]
   exact aX rfl (iH hb st)
  ·have k2':¬ (Table.at_ ps n).fBa = 0:=by rw [hat]; simpa using k2
   have e:Table.get ps n = (ps[n],true):=by unfold Table.get; rw [if_pos ⟨k',k2'⟩,hat]
   rw [e]
   refine cD ⟨⟨by omega,by omega⟩,?_⟩
   refine ld_a (j:=0) (i:=n) (k:=0) ps[n] js st rfl (by simp) (aD hn') (by simp) ?_
   exact aX rfl (iH hb st)
 ·have k':¬ bv i = true:=by simpa using k
  have e:Table.get ps i = (dh,false):=if_neg (fun hh=>k' hh.1)
  rw [e]
  unfold iI
  exact dN rfl (aX rfl (iH hb st))
theorem by_append (s:Int):∀ (ps:List Pte) (i:Int) (p:Pte),Table.byFrom s (ps++[p]) i = Table.byFrom s ps i++(if p.fBa ≠ 0/\p.fDa = s then [i + ps.length] else [])
 | [],i,p=>by simp only [List.nil_append,Table.byFrom]; split <;> simp
 | y::ps,i,p=>by
  simp only [cons_append,Table.byFrom]
  rw [by_append s ps (i + 1) p]
  have e:i + 1 + (ps.length:Int) = i + ((y::ps).length:Int):=by simp; omega
  rw [e]
  split <;> simp
theorem by_len (s:Int):∀ (ps:List Pte) (i:Int),(Table.byFrom s ps i).length <= ps.length
 | [],_=>Nat.le_refl _
 | p::ps,i=>by unfold Table.byFrom; have:=by_len s ps (i + 1); split <;> simp <;> omega
theorem sp_table_By (x:Ptr) (ps:List Pte) (s:Int):Sp prog lW [pv x,.int .i64 s] cx [cZ x ps] (fun r=>aE [vI r (Table.by_ ps s),cZ x ps]):=by
 intro h s0
 obtain ⟨b,rfl,hb,st⟩:=table_op s0
 refine sim_table_Table_By _ _ ?_
 unfold tP
 refine dp rfl (cD ?_)
 obtain ⟨h1,a,sub⟩:=dP (i:=0) rfl st
 have hfl:(ps.flatMap an.C).length = 24:=by rw [dY js,hb]
 refine loadAt_v (r:=ps.flatMap an.C) (cs:=ps.flatMap an.C) agn_8_api_Pte ⟨_,_,_,sub _ _ a,fun i v hv=>by simpa using hv⟩ hfl rfl ?_
 refine Lp.intro (fun (z:Sl × Int) h=>∃ n:Nat,z.2 = n/\n <= 8/\aE [vI z.1 (Table.byFrom s (ps.take n) 0),cZ (some (b,0)) ps] h) (fun (z:Sl × Int) _=>8 - z.2.toNat) ⟨0,rfl,zero_le _,fL (iH hb st)⟩ ?_
 rintro ⟨z,i⟩ h ⟨n,rfl,hn,s1⟩
 unfold ol
 refine aY (fun k=>?_) (fun k=>?_)
 ·have hlt:n < 8:=by have:=of_decide_eq_true k; omega
  have hn':n < ps.length:=by omega
  have hw:i64.wrap ((n:Int) + 1) = ((n + 1:Nat):Int):=by rw [bN (by omega) (by omega)]; rfl
  have ht:ps.take (n + 1) = ps.take n++[ps[n]]:=by simp
  have hlen:((ps.take n).length:Int) = n:=by simp; omega
  refine index_v (enc:=an.C) (m:=3) arn_8_api_Pte age_8_api_Pte js (fun _=>rfl) hb (aD hn') ?_
  refine aY (fun k2=>?_) (fun k2=>?_)
  ·have k2':ps[n].fBa ≠ 0/\ps[n].fDa = s:=by simpa using k2
   refine wg s1 (i:=0) rfl ?_ fun v h' s2=>?_
   ·have:=by_len s (ps.take n) 0; simp at this ⊢; omega
   ·rw [hw]
    refine ⟨⟨n + 1,rfl,hlt,?_⟩,by simp; omega⟩
    rw [ht,by_append,if_pos k2',hlen,zero_add]
    exact s2
  ·have k2':¬ (ps[n].fBa ≠ 0/\ps[n].fDa = s):=by simpa using k2
   rw [hw]
   refine ⟨⟨n + 1,rfl,hlt,?_⟩,by simp; omega⟩
   rw [ht,by_append,if_neg k2',List.append_nil]
   exact s1
 ·have:n = 8:=by have:=of_decide_eq_false k; omega
  subst this
  rw [show ps.take 8 = ps from by rw [← hb]; exact take_length] at s1
  exact s1
end
end Go.Proofs.YtemoifebbhoinaaGreatDoor
