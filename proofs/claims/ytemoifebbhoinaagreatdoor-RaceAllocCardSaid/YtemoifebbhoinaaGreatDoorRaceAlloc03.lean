/- Part of the proof of: The law RaceAlloc returns true for every input, and leaves its arguments as they were. -/
import Derived.Test.YtemoifebbhoinaaGreatDoorRaceAlloc02
set_option linter.all false
set_option maxRecDepth 20000
namespace Go.Proofs.YtemoifebbhoinaaGreatDoor
open Tryz
section
open Go Mb
set_option linter.unusedVariables false
def sh_word_Kind (a0:ai) (K:(Int × Bool)->Hp->Prop):Hp->Prop:=br (((decide (a0.e0 >= 1)) && (decide (a0.e0 <= 10))) || ((decide (a0.e0 >= 20)) && (decide (a0.e0 <= 23)))) ( K ((IntKind.i64.wrap a0.e0),true)) ( K (0,false))
theorem sim_word_Kind (a0:ai) {K:(Int × Bool)->Hp->Prop} {h:Hp} (H:sh_word_Kind a0 K h):Ct prog n_word_Kind #[(.agg (ai.C a0).toArray)] h fun v h'=>∃ r,v = bL r/\K r h':=ay [(.agg (ai.C a0).toArray)] func63 c c c fun _=>M<|aa<|cO (l:=ai.C a0) c c c fun b1=>p (au c)<|O c<|al<|M<|p (bB di c c (by decide))<|bh (bf (k:=0) cy c c c) c<|O c<|M<|J c<|p (jJ c c)<|J c<|V c c (aB _) (fun g1=>wv<|ah c)<|V c c (aB _) (fun g2=>wv<|v_le (aD c g2) c)<|p (bT c c)<|J c<|V c c (aL _) (fun g3=>wv<|ah c)<|V c c (aL _) (fun g4=>wv<|jJ (aD c g4) c)<|V c c (aL _) (fun g5=>wv<|ah<|aD c g5)<|V c c (fM _ _) (fun g6=>wv<|ah c)<|V c c (fM _ _) (fun g7=>wv<|v_le (aD c g7) c)<|V c c (aL _) (fun g8=>wv<|bT (aD c g8)<|aN c<|xu g8)<|p (dp c c)<|ad<|aw c H (fun k9 H10=>M<|J c<|p (dT ⟨_,underlying22⟩ underlying3 c)<|p (au c)<|O c<|aj<|bv (bN c (cc c)<|cc c) ⟨((IntKind.i64.wrap a0.e0),true),c,H10⟩) fun k9 H10=>ao<|M<|p (au c)<|O c<|aj<|bv (bN c (cc c)<|cc c) ⟨(0,false),c,H10⟩
def az (a0:ai):Int × Bool:=(bif (((decide (a0.e0 >= 1)) && (decide (a0.e0 <= 10))) || ((decide (a0.e0 >= 20)) && (decide (a0.e0 <= 23)))) then (((IntKind.i64.wrap a0.e0),true)) else ((0,false)))
theorem pr_word_Kind (a0:ai) {K:(Int × Bool)->Hp->Prop} {h:Hp} (k:K (az a0) h):sh_word_Kind a0 K h:=(kj (K:=K) (fun k=>k) (fun k=>k)) k
theorem kg (a0:ai) (h:Hp):Ct prog n_word_Kind #[(.agg (ai.C a0).toArray)] h fun v h'=>∃ r,v = bL r/\(r = az a0/\h' = h):=sim_word_Kind a0 (pr_word_Kind a0 ⟨rfl,rfl⟩)
def sh_word_User (a0:Int) (K:Bool->Hp->Prop):Hp->Prop:=K ((decide (a0 >= 20)) && (decide (a0 <= 23)))
theorem sim_word_User (a0:Int) {K:Bool->Hp->Prop} {h:Hp} (H:sh_word_User a0 K h):Ct prog n_word_User #[(.int .i64 a0)] h fun v h'=>∃ r,v = aC r/\K r h':=ay [(.int .i64 a0)] func64 c c c fun _=>M<|O c<|M<|J c<|p (jJ c c)<|J c<|V c c (aB _) (fun g1=>wv<|ah c)<|V c c (aB _) (fun g2=>wv<|v_le (aD c g2) c)<|p (bT c c)<|O c<|aj<|Y ⟨((decide (a0 >= 20)) && (decide (a0 <= 23))),c,H⟩
def bA (a0:Int):Bool:=(((decide (a0 >= 20)) && (decide (a0 <= 23))))
theorem pr_word_User (a0:Int) {K:Bool->Hp->Prop} {h:Hp} (k:K (bA a0) h):sh_word_User a0 K h:=(fun k=>k) k
theorem su (a0:Int) (h:Hp):Ct prog n_word_User #[(.int .i64 a0)] h fun v h'=>∃ r,v = aC r/\(r = bA a0/\h' = h):=sim_word_User a0 (pr_word_User a0 ⟨rfl,rfl⟩)
def sh_word_Rights (a0:Int) (K:(Int × Bool)->Hp->Prop):Hp->Prop:=br ((decide (a0 < 1)) || (decide (a0 > 3))) ( K (0,false)) ( K ((IntKind.i64.wrap a0),true))
theorem sim_word_Rights (a0:Int) {K:(Int × Bool)->Hp->Prop} {h:Hp} (H:sh_word_Rights a0 K h):Ct prog n_word_Rights #[(.int .u64 a0)] h fun v h'=>∃ r,v = bL r/\K r h':=ay [(.int .u64 a0)] func193 c c c fun _=>M<|p (au c)<|O c<|al<|M<|J c<|p (cx c c)<|J c<|V c c (aL _) (fun g1=>wv<|ah c)<|V c c (aL _) (fun g2=>wv<|qB (aD c g2) c)<|p (dp c c)<|ad<|aw c H (fun k3 H4=>M<|p (au c)<|O c<|aj<|bv (bN c (cc c)<|cc c) ⟨(0,false),c,H4⟩) fun k3 H4=>ao<|M<|J c<|p (dT ⟨_,underlying22⟩ underlying3 c)<|p (au c)<|O c<|aj<|bv (bN c (cc c)<|cc c) ⟨((IntKind.i64.wrap a0),true),c,H4⟩
def ie (a0:Int):Int × Bool:=(bif ((decide (a0 < 1)) || (decide (a0 > 3))) then ((0,false)) else (((IntKind.i64.wrap a0),true)))
theorem pr_word_Rights (a0:Int) {K:(Int × Bool)->Hp->Prop} {h:Hp} (k:K (ie a0) h):sh_word_Rights a0 K h:=(kj (K:=K) (fun k=>k) (fun k=>k)) k
theorem ct_word_Rights (a0:Int) (h:Hp):Ct prog n_word_Rights #[(.int .u64 a0)] h fun v h'=>∃ r,v = bL r/\(r = ie a0/\h' = h):=sim_word_Rights a0 (pr_word_Rights a0 ⟨rfl,rfl⟩)
def sh_table_is (a0:Int) (K:Bool->Hp->Prop):Hp->Prop:=K ((decide (a0 >= 0)) && (decide (a0 < 8)))
theorem sim_table_is (a0:Int) {K:Bool->Hp->Prop} {h:Hp} (H:sh_table_is a0 K h):Ct prog n_table_is #[(.int .i64 a0)] h fun v h'=>∃ r,v = aC r/\K r h':=ay [(.int .i64 a0)] func156 c c c fun _=>M<|O c<|M<|J c<|p (jJ c c)<|J c<|V c c (aB _) (fun g1=>wv<|ah c)<|V c c (aB _) (fun g2=>wv<|cx (aD c g2) c)<|p (bT c c)<|O c<|aj<|Y ⟨((decide (a0 >= 0)) && (decide (a0 < 8))),c,H⟩
def bu (a0:Int):Bool:=(((decide (a0 >= 0)) && (decide (a0 < 8))))
theorem pr_table_is (a0:Int) {K:Bool->Hp->Prop} {h:Hp} (k:K (bu a0) h):sh_table_is a0 K h:=(fun k=>k) k
theorem uF (a0:Int) (h:Hp):Ct prog n_table_is #[(.int .i64 a0)] h fun v h'=>∃ r,v = aC r/\(r = bu a0/\h' = h):=sim_table_is a0 (pr_table_is a0 ⟨rfl,rfl⟩)
def sh_pte_May (a0:Int) (K:Bool->Hp->Prop):Hp->Prop:=K ((decide (a0 >= 1)) && (decide (a0 <= 3)))
theorem sim_pte_May (a0:Int) {K:Bool->Hp->Prop} {h:Hp} (H:sh_pte_May a0 K h):Ct prog n_pte_May #[(.int .i64 a0)] h fun v h'=>∃ r,v = aC r/\K r h':=ay [(.int .i64 a0)] func166 c c c fun _=>M<|O c<|M<|J c<|p (jJ c c)<|J c<|V c c (aB _) (fun g1=>wv<|ah c)<|V c c (aB _) (fun g2=>wv<|v_le (aD c g2) c)<|p (bT c c)<|O c<|aj<|Y ⟨((decide (a0 >= 1)) && (decide (a0 <= 3))),c,H⟩
def ch (a0:Int):Bool:=(((decide (a0 >= 1)) && (decide (a0 <= 3))))
theorem pr_pte_May (a0:Int) {K:Bool->Hp->Prop} {h:Hp} (k:K (ch a0) h):sh_pte_May a0 K h:=(fun k=>k) k
theorem ql (a0:Int) (h:Hp):Ct prog n_pte_May #[(.int .i64 a0)] h fun v h'=>∃ r,v = aC r/\(r = ch a0/\h' = h):=sim_pte_May a0 (pr_pte_May a0 ⟨rfl,rfl⟩)
def sh_pte_Within (a0:Int) (a1:Int) (K:Bool->Hp->Prop):Hp->Prop:=K (((ch a0) && (ch a1)) && ((iandnot .i64 a0 a1) == 0))
theorem sim_pte_Within (a0:Int) (a1:Int) {K:Bool->Hp->Prop} {h:Hp} (H:sh_pte_Within a0 a1 K h):Ct prog n_pte_Within #[(.int .i64 a0),(.int .i64 a1)] h fun v h'=>∃ r,v = aC r/\K r h':=ay [(.int .i64 a0),(.int .i64 a1)] func116 c c c fun _=>M<|O c<|M<|J c<|aa<|cK (vs:=[(.int .i64 a0)]) (bz<|ql a0 _) en_166 c c<|J c<|V c c (aB _) (fun g1=>wv<|ah c)<|cZ (vs:=[(.int .i64 a1)]) c c c (aB _) (fun g2=>bz<|ql a1 _) en_166 (fun g2=>aS (aD c g2) bR) c<|p (bT c c)<|J c<|V c c (aB _) (fun g3=>wv<|ah c)<|V c c (aB _) (fun g4=>wv<|ah c)<|V c c (aB _) (fun g5=>wv<|v_iandnot (aD c g5)<|aD c g5)<|V c c (aB _) (fun g6=>wv<|bQ (aD c g6) c)<|p (bT c c)<|O c<|aj<|Y ⟨(((ch a0) && (ch a1)) && ((iandnot .i64 a0 a1) == 0)),c,H⟩
def aQ (a0:Int) (a1:Int):Bool:=((((ch a0) && (ch a1)) && ((iandnot .i64 a0 a1) == 0)))
theorem pr_pte_Within (a0:Int) (a1:Int) {K:Bool->Hp->Prop} {h:Hp} (k:K (aQ a0 a1) h):sh_pte_Within a0 a1 K h:=(fun k=>k) k
theorem db (a0:Int) (a1:Int) (h:Hp):Ct prog n_pte_Within #[(.int .i64 a0),(.int .i64 a1)] h fun v h'=>∃ r,v = aC r/\(r = aQ a0 a1/\h' = h):=sim_pte_Within a0 a1 (pr_pte_Within a0 a1 ⟨rfl,rfl⟩)
def sh_pte_Put (a0:an) (K:(Int × Bool)->Hp->Prop):Hp->Prop:=br (an.eqb a0 (⟨0,0,0⟩:an)) ( K (0,true)) ( br (((((decide (a0.fEa < 0)) || (decide (a0.fEa >= 16))) || (decide (a0.fDa < 0))) || (decide (a0.fDa >= 8))) || (!(ch a0.fBa))) ( K (0,false)) ( K ((IntKind.u64.wrap (IntKind.i64.wrap ((IntKind.i64.wrap ((IntKind.i64.wrap (32768 + (IntKind.i64.wrap (256 * a0.fEa)))) + (IntKind.i64.wrap (16 * a0.fDa)))) + a0.fBa))),true)))
theorem sim_pte_Put (a0:an) {K:(Int × Bool)->Hp->Prop} {h:Hp} (H:sh_pte_Put a0 K h):Ct prog n_pte_Put #[(.agg (an.C a0).toArray)] h fun v h'=>∃ r,v = bK r/\K r h':=ay [(.agg (an.C a0).toArray)] func155 c c c fun _=>M<|aa<|cO (l:=an.C a0) c c c fun b1=>p (au c)<|O c<|al<|M<|bh (bF (k:=0) fG c c c c) c<|p (ba (vs:=[]) c na)<|p (v_eqA eqg_79 (eqr_79 9998 _ _) c c)<|ad<|aw c H (fun k1 H2=>M<|p (au c)<|O c<|aj<|bv (bN c (cc c)<|cc c) ⟨(0,true),c,H2⟩) fun k1 H2=>ao<|al<|M<|p (ae qV c)<|bh (bf (k:=0) aZ c c c) c<|p (cx c c)<|J c<|V c c (aL _) (fun g3=>wv<|ae qV c)<|V c c (aL _) (fun g4=>cv<|bf (k:=0) aZ (aD c g4) c c)<|V c c (aL _) (fun g5=>wv<|jJ (aD c g5) c)<|p (dp c c)<|J c<|V c c (aL _) (fun g6=>wv<|ae tu c)<|V c c (aL _) (fun g7=>cv<|bf (k:=0) aZ (aD c g7) c c)<|V c c (aL _) (fun g8=>wv<|cx (aD c g8) c)<|p (dp c c)<|J c<|V c c (aL _) (fun g9=>wv<|ae tu c)<|V c c (aL _) (fun g10=>cv<|bf (k:=0) aZ (aD c g10) c c)<|V c c (aL _) (fun g11=>wv<|jJ (aD c g11) c)<|p (dp c c)<|J c<|V c c (aL _) (fun g12=>wv<|ae eM c)<|V c c (aL _) (fun g13=>cv<|bf (k:=0) aZ (aD c g13) c c)<|cZ (vs:=[(.int .i64 a0.fBa)]) c c c (aL _) (fun g14=>bz<|ql a0.fBa _) en_166 (fun g14=>aS (aD c g14) bR) c<|V c c (aL _) (fun g15=>wv<|cr<|aD c g15)<|p (dp c c)<|ad<|aw c H2 (fun k16 H17=>M<|p (au c)<|O c<|aj<|bv (bN c (cc c)<|cc c) ⟨(0,false),c,H17⟩) fun k16 H17=>ao<|M<|p (ae qV c)<|bh (bf (k:=0) aZ c c c) c<|p (v_mul c c)<|p (bo c c)<|p (ae tu c)<|bh (bf (k:=0) aZ c c c) c<|p (v_mul c c)<|p (bo c c)<|p (ae eM c)<|bh (bf (k:=0) aZ c c c) c<|p (bo c c)<|p (dT ⟨_,underlying3⟩ underlying22 c)<|p (au c)<|O c<|aj<|bv (bN c (cc c)<|cc c) ⟨((IntKind.u64.wrap (IntKind.i64.wrap ((IntKind.i64.wrap ((IntKind.i64.wrap (32768 + (IntKind.i64.wrap (256 * a0.fEa)))) + (IntKind.i64.wrap (16 * a0.fDa)))) + a0.fBa))),true),c,H17⟩
def eQ (a0:an):Int × Bool:=(bif (an.eqb a0 (⟨0,0,0⟩:an)) then ((0,true)) else (bif (((((decide (a0.fEa < 0)) || (decide (a0.fEa >= 16))) || (decide (a0.fDa < 0))) || (decide (a0.fDa >= 8))) || (!(ch a0.fBa))) then ((0,false)) else (((IntKind.u64.wrap (IntKind.i64.wrap ((IntKind.i64.wrap ((IntKind.i64.wrap (32768 + (IntKind.i64.wrap (256 * a0.fEa)))) + (IntKind.i64.wrap (16 * a0.fDa)))) + a0.fBa))),true))))
theorem pr_pte_Put (a0:an) {K:(Int × Bool)->Hp->Prop} {h:Hp} (k:K (eQ a0) h):sh_pte_Put a0 K h:=(kj (K:=K) (fun k=>k) (kj (K:=K) (fun k=>k) (fun k=>k))) k
theorem ct_pte_Put (a0:an) (h:Hp):Ct prog n_pte_Put #[(.agg (an.C a0).toArray)] h fun v h'=>∃ r,v = bK r/\(r = eQ a0/\h' = h):=sim_pte_Put a0 (pr_pte_Put a0 ⟨rfl,rfl⟩)
def sh_tlb_empty (K:am->Hp->Prop):Hp->Prop:=K (⟨(-1),0,0,0⟩:am)
theorem sim_tlb_empty {K:am->Hp->Prop} {h:Hp} (H:sh_tlb_empty K h):Ct prog n_tlb_empty #[] h fun v h'=>∃ r,v = R_api_Line r/\K r h':=ay [] func152 c c c fun _=>M<|aa<|aM (l:=am.C (⟨0,0,0,0⟩:am)) kS c c fun b0=>ad<|M<|p (ba c<|build_54_0 (-1))<|aa<|aP (k:=0) (vs:=am.C (⟨(-1),0,0,0⟩:am)) fK c c c c c c c<|ad<|aj<|bv (my c<|bC (k:=0) c hH c c) ⟨(⟨(-1),0,0,0⟩:am),c,H⟩
def gc:am:=((⟨(-1),0,0,0⟩:am))
theorem pr_tlb_empty {K:am->Hp->Prop} {h:Hp} (k:K (gc) h):sh_tlb_empty K h:=(fun k=>k) k
theorem ct_tlb_empty (h:Hp):Ct prog n_tlb_empty #[] h fun v h'=>∃ r,v = R_api_Line r/\(r = gc/\h' = h):=sim_tlb_empty (pr_tlb_empty ⟨rfl,rfl⟩)
def sh_pte_Lets (a0:Int) (a1:Int) (K:Bool->Hp->Prop):Hp->Prop:=br (a1 == 20) ( K (aQ 1 a0)) ( br (a1 == 21) ( K (aQ 2 a0)) ( br (a1 == 22) ( K (aQ 3 a0)) ( br (a1 == 23) ( K (aQ 3 a0)) ( K (aQ 0 a0)))))
theorem sim_pte_Lets (a0:Int) (a1:Int) {K:Bool->Hp->Prop} {h:Hp} (H:sh_pte_Lets a0 a1 K h):Ct prog n_pte_Lets #[(.int .i64 a0),(.int .i64 a1)] h fun v h'=>∃ r,v = aC r/\K r h':=ay [(.int .i64 a0),(.int .i64 a1)] func158 c c c fun _=>M<|O c<|M<|O c<|al<|M<|J c<|ad<|aA<|M<|p (bQ c c)<|O c<|aw c H (fun k1 H2=>ap<|O c<|M<|J c<|J c<|aa<|cK (vs:=[(.int .i64 1),(.int .i64 a0)]) (bz<|db 1 a0 _) mJ c c<|O c<|aj<|Y ⟨aQ 1 a0,c,H2⟩) fun k1 H2=>M<|p (bQ c c)<|O c<|aw c H2 (fun k3 H4=>ap<|O c<|M<|J c<|J c<|aa<|cK (vs:=[(.int .i64 2),(.int .i64 a0)]) (bz<|db 2 a0 _) mJ c c<|O c<|aj<|Y ⟨aQ 2 a0,c,H4⟩) fun k3 H4=>al<|M<|p (bQ c c)<|O c<|aw c H4 (fun k5 H6=>ao<|ke c k5<|ap<|O c<|M<|J c<|J c<|aa<|cK (vs:=[(.int .i64 3),(.int .i64 a0)]) (bz<|db 3 a0 _) mJ c c<|O c<|aj<|Y ⟨aQ 3 a0,c,H6⟩) fun k5 H6=>ap<|p (bQ c c)<|O c<|aw c H6 (fun k7 H8=>ap<|O c<|M<|J c<|J c<|aa<|cK (vs:=[(.int .i64 3),(.int .i64 a0)]) (bz<|db 3 a0 _) mJ c c<|O c<|aj<|Y ⟨aQ 3 a0,c,H8⟩) fun k7 H8=>ao<|M<|J c<|J c<|aa<|cK (vs:=[(.int .i64 0),(.int .i64 a0)]) (bz<|db 0 a0 _) mJ c c<|O c<|aj<|Y ⟨aQ 0 a0,c,H8⟩
def ct (a0:Int) (a1:Int):Bool:=(bif (a1 == 20) then ((aQ 1 a0)) else (bif (a1 == 21) then ((aQ 2 a0)) else (bif (a1 == 22) then ((aQ 3 a0)) else (bif (a1 == 23) then ((aQ 3 a0)) else ((aQ 0 a0))))))
theorem pr_pte_Lets (a0:Int) (a1:Int) {K:Bool->Hp->Prop} {h:Hp} (k:K (ct a0 a1) h):sh_pte_Lets a0 a1 K h:=(kj (K:=K) (fun k=>k) (kj (K:=K) (fun k=>k) (kj (K:=K) (fun k=>k) (kj (K:=K) (fun k=>k) (fun k=>k))))) k
theorem jO (a0:Int) (a1:Int) (h:Hp):Ct prog n_pte_Lets #[(.int .i64 a0),(.int .i64 a1)] h fun v h'=>∃ r,v = aC r/\(r = ct a0 a1/\h' = h):=sim_pte_Lets a0 a1 (pr_pte_Lets a0 a1 ⟨rfl,rfl⟩)
def rN (a0:Int) (K:Bool->Hp->Prop):Hp->Prop:=K (a0 != a0)
theorem sim_cmp_isNaN_uint64 (a0:Int) {K:Bool->Hp->Prop} {h:Hp} (H:rN a0 K h):Ct prog tj #[(.int .u64 a0)] h fun v h'=>∃ r,v = aC r/\K r h':=ay [(.int .u64 a0)] func218 c c c fun _=>M<|O c<|M<|J c<|J c<|p (pt c c)<|O c<|aj<|Y ⟨(a0 != a0),c,H⟩
def dr (a0:Int):Bool:=((a0 != a0))
theorem pr_cmp_isNaN_uint64 (a0:Int) {K:Bool->Hp->Prop} {h:Hp} (k:K (dr a0) h):rN a0 K h:=(fun k=>k) k
theorem rQ (a0:Int) (h:Hp):Ct prog tj #[(.int .u64 a0)] h fun v h'=>∃ r,v = aC r/\(r = dr a0/\h' = h):=sim_cmp_isNaN_uint64 a0 (pr_cmp_isNaN_uint64 a0 ⟨rfl,rfl⟩)
def sV (a0:Int) (a1:Int) (K:Bool->Hp->Prop):Hp->Prop:=K (((dr a0) && (!(dr a1))) || (decide (a0 < a1)))
theorem sim_cmp_Less_uint64 (a0:Int) (a1:Int) {K:Bool->Hp->Prop} {h:Hp} (H:sV a0 a1 K h):Ct prog uz #[(.int .u64 a0),(.int .u64 a1)] h fun v h'=>∃ r,v = aC r/\K r h':=ay [(.int .u64 a0),(.int .u64 a1)] func195 c c c fun _=>M<|O c<|M<|J c<|aa<|cK (vs:=[(.int .u64 a0)]) (bz<|rQ a0 _) en_218 c c<|J c<|V c c (aB _) (fun g1=>wv<|ah c)<|cZ (vs:=[(.int .u64 a1)]) c c c (aB _) (fun g2=>bz<|rQ a1 _) en_218 (fun g2=>aS (aD c g2) bR) c<|V c c (aB _) (fun g3=>wv<|cr<|aD c g3)<|p (bT c c)<|J c<|V c c (aL _) (fun g4=>wv<|ah c)<|V c c (aL _) (fun g5=>wv<|ah c)<|V c c (aL _) (fun g6=>wv<|cx (aD c g6)<|aD c g6)<|p (dp c c)<|O c<|aj<|Y ⟨(((dr a0) && (!(dr a1))) || (decide (a0 < a1))),c,H⟩
def ig (a0:Int) (a1:Int):Bool:=((((dr a0) && (!(dr a1))) || (decide (a0 < a1))))
theorem pr_cmp_Less_uint64 (a0:Int) (a1:Int) {K:Bool->Hp->Prop} {h:Hp} (k:K (ig a0 a1) h):sV a0 a1 K h:=(fun k=>k) k
theorem ct_cmp_Less_uint64 (a0:Int) (a1:Int) (h:Hp):Ct prog uz #[(.int .u64 a0),(.int .u64 a1)] h fun v h'=>∃ r,v = aC r/\(r = ig a0 a1/\h' = h):=sim_cmp_Less_uint64 a0 a1 (pr_cmp_Less_uint64 a0 a1 ⟨rfl,rfl⟩)
def oz (a0:Int) (K:Bool->Hp->Prop):Hp->Prop:=K (a0 != a0)
theorem vh (a0:Int) {K:Bool->Hp->Prop} {h:Hp} (H:oz a0 K h):Ct prog pN #[(.int .u64 a0)] h fun v h'=>∃ r,v = aC r/\K r h':=ay [(.int .u64 a0)] func196 c c c fun _=>M<|O c<|M<|J c<|J c<|p (pt c c)<|O c<|aj<|Y ⟨(a0 != a0),c,H⟩
def dD (a0:Int):Bool:=((a0 != a0))
theorem xa (a0:Int) {K:Bool->Hp->Prop} {h:Hp} (k:K (dD a0) h):oz a0 K h:=(fun k=>k) k
theorem pf (a0:Int) (h:Hp):Ct prog pN #[(.int .u64 a0)] h fun v h'=>∃ r,v = aC r/\(r = dD a0/\h' = h):=vh a0 (xa a0 ⟨rfl,rfl⟩)
def sh_plain_fails (a0:Int) (K:(ab × Bool)->Hp->Prop):Hp->Prop:=K ((⟨a0,0⟩:ab),true)
theorem sim_plain_fails (a0:Int) {K:(ab × Bool)->Hp->Prop} {h:Hp} (H:sh_plain_fails a0 K h):Ct prog n_plain_fails #[(.int .i64 a0)] h fun v h'=>∃ r,v = bj r/\K r h':=ay [(.int .i64 a0)] func123 c c c fun _=>M<|aa<|aM (l:=ab.C (⟨0,0⟩:ab)) de c c fun b2=>O c<|M<|J c<|p (ba c<|jl a0)<|aa<|aP (k:=0) (vs:=ab.C (⟨a0,0⟩:ab)) bO c c c c c c c<|O c<|aj<|bv (bN c (bC (k:=0) c cE c c)<|cc c) ⟨((⟨a0,0⟩:ab),true),c,H⟩
def aO (a0:Int):ab × Bool:=(((⟨a0,0⟩:ab),true))
theorem pr_plain_fails (a0:Int) {K:(ab × Bool)->Hp->Prop} {h:Hp} (k:K (aO a0) h):sh_plain_fails a0 K h:=(fun k=>k) k
theorem dJ (a0:Int) (h:Hp):Ct prog n_plain_fails #[(.int .i64 a0)] h fun v h'=>∃ r,v = bj r/\(r = aO a0/\h' = h):=sim_plain_fails a0 (pr_plain_fails a0 ⟨rfl,rfl⟩)
def sh_pred_Holds (a0:Int) (a1:Int) (a2:Int) (K:Bool->Hp->Prop):Hp->Prop:=br (a0 == 1) ( K (a1 == a2)) ( br (a0 == 2) ( K (a1 != a2)) ( br (a0 == 3) ( K (decide (a1 < a2))) ( br (a0 == 4) ( K (decide (a1 > a2))) ( K false))))
theorem sim_pred_Holds (a0:Int) (a1:Int) (a2:Int) {K:Bool->Hp->Prop} {h:Hp} (H:sh_pred_Holds a0 a1 a2 K h):Ct prog n_pred_Holds #[(.int .i64 a0),(.int .u64 a1),(.int .u64 a2)] h fun v h'=>∃ r,v = aC r/\K r h':=ay [(.int .i64 a0),(.int .u64 a1),(.int .u64 a2)] func148 c c c fun _=>M<|O c<|al<|M<|J c<|ad<|aA<|M<|p (bQ c c)<|O c<|aw c H (fun k1 H2=>M<|J c<|J c<|p (bQ c c)<|O c<|aj<|Y ⟨(a1 == a2),c,H2⟩) fun k1 H2=>M<|p (bQ c c)<|O c<|aw c H2 (fun k3 H4=>M<|J c<|J c<|p (pt c c)<|O c<|aj<|Y ⟨(a1 != a2),c,H4⟩) fun k3 H4=>M<|p (bQ c c)<|O c<|aw c H4 (fun k5 H6=>M<|J c<|J c<|p (cx c c)<|O c<|aj<|Y ⟨decide (a1 < a2),c,H6⟩) fun k5 H6=>M<|p (bQ c c)<|O c<|aw c H6 (fun k7 H8=>M<|J c<|J c<|p (qB c c)<|O c<|aj<|Y ⟨decide (a1 > a2),c,H8⟩) fun k7 H8=>ao<|M<|O c<|aj<|Y ⟨false,c,H8⟩
def mW (a0:Int) (a1:Int) (a2:Int):Bool:=(bif (a0 == 1) then ((a1 == a2)) else (bif (a0 == 2) then ((a1 != a2)) else (bif (a0 == 3) then ((decide (a1 < a2))) else (bif (a0 == 4) then ((decide (a1 > a2))) else (false)))))
theorem pr_pred_Holds (a0:Int) (a1:Int) (a2:Int) {K:Bool->Hp->Prop} {h:Hp} (k:K (mW a0 a1 a2) h):sh_pred_Holds a0 a1 a2 K h:=(kj (K:=K) (fun k=>k) (kj (K:=K) (fun k=>k) (kj (K:=K) (fun k=>k) (kj (K:=K) (fun k=>k) (fun k=>k))))) k
theorem uZ (a0:Int) (a1:Int) (a2:Int) (h:Hp):Ct prog n_pred_Holds #[(.int .i64 a0),(.int .u64 a1),(.int .u64 a2)] h fun v h'=>∃ r,v = aC r/\(r = mW a0 a1 a2/\h' = h):=sim_pred_Holds a0 a1 a2 (pr_pred_Holds a0 a1 a2 ⟨rfl,rfl⟩)
def sh_hist_one (a0:av) (a1:aE) (a2:Int) (K:Bool->Hp->Prop):Hp->Prop:=br (((((decide (a0.fQa < 0)) || (decide (a0.fQa >= a1.fVa))) || (decide (a0.fCa < 0))) || (decide (a0.fCa >= a1.fIa))) || (decide (a0.fRa <= a2))) ( K false) ( br (a0.fHa == 0) ( K (a0.fXa == 0)) ( K ((decide (a0.fHa >= a0.fRa)) && ((a0.fXa == 0) || (decide (a0.fXa >= a0.fHa))))))
theorem sim_hist_one (a0:av) (a1:aE) (a2:Int) {K:Bool->Hp->Prop} {h:Hp} (H:sh_hist_one a0 a1 a2 K h):Ct prog n_hist_one #[(.agg (av.C a0).toArray),(.agg (aE.C a1).toArray),(.int .i64 a2)] h fun v h'=>∃ r,v = aC r/\K r h':=ay [(.agg (av.C a0).toArray),(.agg (aE.C a1).toArray),(.int .i64 a2)] func61 c c c fun _=>M<|aa<|cO (l:=av.C a0) c c c fun b3=>aa<|cO (l:=aE.C a1) c c c fun b4=>O c<|al<|aA<|M<|p (ae qX c)<|bh (bf (k:=1) aZ c c c) c<|p (cx c c)<|J c<|V c c (aL _) (fun g1=>wv<|ae qX c)<|V c c (aL _) (fun g2=>cv<|bf (k:=1) aZ (aD c g2) c c)<|V c c (aL _) (fun g3=>wv<|ae pb c)<|V c c (aL _) (fun g4=>cv<|bf (k:=0) aZ (aD c g4) c c)<|V c c (aL _) (fun g5=>wv<|jJ (aD c g5)<|aD c g5)<|p (dp c c)<|J c<|V c c (aL _) (fun g6=>wv<|ae oZ c)<|V c c (aL _) (fun g7=>cv<|bf (k:=1) aZ (aD c g7) c c)<|V c c (aL _) (fun g8=>wv<|cx (aD c g8) c)<|p (dp c c)<|J c<|V c c (aL _) (fun g9=>wv<|ae oZ c)<|V c c (aL _) (fun g10=>cv<|bf (k:=1) aZ (aD c g10) c c)<|V c c (aL _) (fun g11=>wv<|ae mZ c)<|V c c (aL _) (fun g12=>cv<|bf (k:=0) aZ (aD c g12) c c)<|V c c (aL _) (fun g13=>wv<|jJ (aD c g13)<|aD c g13)<|p (dp c c)<|J c<|V c c (aL _) (fun g14=>wv<|ae tv c)<|V c c (aL _) (fun g15=>cv<|bf (k:=1) aZ (aD c g15) c c)<|V c c (aL _) (fun g16=>wv<|ah c)<|V c c (aL _) (fun g17=>wv<|v_le (aD c g17)<|aD c g17)<|p (dp c c)<|O c<|aw c H (fun k18 H19=>M<|O c<|aj<|Y ⟨false,c,H19⟩) fun k18 H19=>M<|p (ae jd c)<|bh (bf (k:=1) aZ c c c) c<|p (bQ c c)<|O c<|aw c H19 (fun k20 H21=>M<|p (ae qW c)<|bh (bf (k:=1) aZ c c c) c<|p (bQ c c)<|O c<|aj<|Y ⟨(a0.fXa == 0),c,H21⟩) fun k20 H21=>ao<|M<|p (ae jd c)<|bh (bf (k:=1) aZ c c c) c<|p (ae tv c)<|bh (bf (k:=1) aZ c c c) c<|p (jJ c c)<|J c<|V c c (aB _) (fun g22=>wv<|ae qW c)<|V c c (aB _) (fun g23=>cv<|bf (k:=1) aZ (aD c g23) c c)<|V c c (aB _) (fun g24=>wv<|bQ (aD c g24) c)<|V c c (aB _) (fun g25=>wv<|ah<|aD c g25)<|V c c (dU _ _) (fun g26=>wv<|ae qW c)<|V c c (dU _ _) (fun g27=>cv<|bf (k:=1) aZ (aD c g27) c c)<|V c c (dU _ _) (fun g28=>wv<|ae jd c)<|V c c (dU _ _) (fun g29=>cv<|bf (k:=1) aZ (aD c g29) c c)<|V c c (dU _ _) (fun g30=>wv<|jJ (aD c g30)<|aD c g30)<|V c c (aB _) (fun g31=>wv<|dp (aD c g31)<|aN c<|xu g31)<|p (bT c c)<|O c<|aj<|Y ⟨((decide (a0.fHa >= a0.fRa)) && ((a0.fXa == 0) || (decide (a0.fXa >= a0.fHa)))),c,H21⟩
def eI (a0:av) (a1:aE) (a2:Int):Bool:=(bif (((((decide (a0.fQa < 0)) || (decide (a0.fQa >= a1.fVa))) || (decide (a0.fCa < 0))) || (decide (a0.fCa >= a1.fIa))) || (decide (a0.fRa <= a2))) then (false) else (bif (a0.fHa == 0) then ((a0.fXa == 0)) else (((decide (a0.fHa >= a0.fRa)) && ((a0.fXa == 0) || (decide (a0.fXa >= a0.fHa)))))))
theorem pr_hist_one (a0:av) (a1:aE) (a2:Int) {K:Bool->Hp->Prop} {h:Hp} (k:K (eI a0 a1 a2) h):sh_hist_one a0 a1 a2 K h:=(kj (K:=K) (fun k=>k) (kj (K:=K) (fun k=>k) (fun k=>k))) k
theorem ct_hist_one (a0:av) (a1:aE) (a2:Int) (h:Hp):Ct prog n_hist_one #[(.agg (av.C a0).toArray),(.agg (aE.C a1).toArray),(.int .i64 a2)] h fun v h'=>∃ r,v = aC r/\(r = eI a0 a1 a2/\h' = h):=sim_hist_one a0 a1 a2 (pr_hist_one a0 a1 a2 ⟨rfl,rfl⟩)
def vz (a0:av) (K:Bool->Hp->Prop):Hp->Prop:=K (decide (a0.fHa > 0))
theorem sim_hist_Order_c1 (a0:av) {K:Bool->Hp->Prop} {h:Hp} (H:vz a0 K h):Ct prog nk #[(.agg (av.C a0).toArray)] h fun v h'=>∃ r,v = aC r/\K r h':=ay [(.agg (av.C a0).toArray)] func93 c c c fun _=>M<|aa<|cO (l:=av.C a0) c c c fun b1=>O c<|M<|p (ae jd c)<|bh (bf (k:=0) aZ c c c) c<|p (qB c c)<|O c<|aj<|Y ⟨decide (a0.fHa > 0),c,H⟩
def vJ (a0:av):Bool:=((decide (a0.fHa > 0)))
theorem pr_hist_Order_c1 (a0:av) {K:Bool->Hp->Prop} {h:Hp} (k:K (vJ a0) h):vz a0 K h:=(fun k=>k) k
theorem ct_hist_Order_c1 (a0:av) (h:Hp):Ct prog nk #[(.agg (av.C a0).toArray)] h fun v h'=>∃ r,v = aC r/\(r = vJ a0/\h' = h):=sim_hist_Order_c1 a0 (pr_hist_Order_c1 a0 ⟨rfl,rfl⟩)
def vB (a0:Int) (K:Bool->Hp->Prop):Hp->Prop:=K (a0 != a0)
theorem sim_cmp_isNaN_int (a0:Int) {K:Bool->Hp->Prop} {h:Hp} (H:vB a0 K h):Ct prog n_cmp_isNaN_int #[(.int .i64 a0)] h fun v h'=>∃ r,v = aC r/\K r h':=ay [(.int .i64 a0)] func138 c c c fun _=>M<|O c<|M<|J c<|J c<|p (pt c c)<|O c<|aj<|Y ⟨(a0 != a0),c,H⟩
def eu (a0:Int):Bool:=((a0 != a0))
theorem pr_cmp_isNaN_int (a0:Int) {K:Bool->Hp->Prop} {h:Hp} (k:K (eu a0) h):vB a0 K h:=(fun k=>k) k
theorem wg (a0:Int) (h:Hp):Ct prog n_cmp_isNaN_int #[(.int .i64 a0)] h fun v h'=>∃ r,v = aC r/\(r = eu a0/\h' = h):=sim_cmp_isNaN_int a0 (pr_cmp_isNaN_int a0 ⟨rfl,rfl⟩)
def sW (a0:Int) (a1:Int) (K:Int->Hp->Prop):Hp->Prop:=br (eu a0) ( br (eu a1) ( K 0) ( K (-1))) ( br (eu a1) ( K 1) ( br (decide (a0 < a1)) ( K (-1)) ( br (decide (a0 > a1)) ( K 1) ( K 0))))
theorem sim_cmp_Compare_int (a0:Int) (a1:Int) {K:Int->Hp->Prop} {h:Hp} (H:sW a0 a1 K h):Ct prog uA #[(.int .i64 a0),(.int .i64 a1)] h fun v h'=>∃ r,v = ee r/\K r h':=ay [(.int .i64 a0),(.int .i64 a1)] func96 c c c fun _=>M<|O c<|M<|J c<|aa<|cK (vs:=[(.int .i64 a0)]) (bz<|wg a0 _) en_138 c c<|O c<|M<|J c<|aa<|cK (vs:=[(.int .i64 a1)]) (bz<|wg a1 _) en_138 c c<|O c<|al<|M<|J c<|ad<|aw c H (fun k1 H2=>al<|M<|J c<|ad<|aw c H2 (fun k3 H4=>M<|O c<|aj<|Y ⟨0,c,H4⟩) fun k3 H4=>ao<|M<|O c<|aj<|Y ⟨(-1),c,H4⟩) fun k1 H2=>ao<|al<|M<|J c<|ad<|aw c H2 (fun k5 H6=>M<|O c<|aj<|Y ⟨1,c,H6⟩) fun k5 H6=>ao<|al<|M<|J c<|J c<|p (cx c c)<|ad<|aw c H6 (fun k7 H8=>M<|O c<|aj<|Y ⟨(-1),c,H8⟩) fun k7 H8=>ao<|al<|M<|J c<|J c<|p (qB c c)<|ad<|aw c H8 (fun k9 H10=>M<|O c<|aj<|Y ⟨1,c,H10⟩) fun k9 H10=>ao<|M<|O c<|aj<|Y ⟨0,c,H10⟩
def fR (a0:Int) (a1:Int):Int:=(bif (eu a0) then (bif (eu a1) then (0) else ((-1))) else (bif (eu a1) then (1) else (bif (decide (a0 < a1)) then ((-1)) else (bif (decide (a0 > a1)) then (1) else (0)))))
theorem pr_cmp_Compare_int (a0:Int) (a1:Int) {K:Int->Hp->Prop} {h:Hp} (k:K (fR a0 a1) h):sW a0 a1 K h:=(kj (K:=K) (kj (K:=K) (fun k=>k) (fun k=>k)) (kj (K:=K) (fun k=>k) (kj (K:=K) (fun k=>k) (kj (K:=K) (fun k=>k) (fun k=>k))))) k
theorem ct_cmp_Compare_int (a0:Int) (a1:Int) (h:Hp):Ct prog uA #[(.int .i64 a0),(.int .i64 a1)] h fun v h'=>∃ r,v = ee r/\(r = fR a0 a1/\h' = h):=sim_cmp_Compare_int a0 a1 (pr_cmp_Compare_int a0 a1 ⟨rfl,rfl⟩)
def sh_judge_user (a0:av) (K:Bool->Hp->Prop):Hp->Prop:=K (bA ((az a0.fKa).1))
theorem sim_judge_user (a0:av) {K:Bool->Hp->Prop} {h:Hp} (H:sh_judge_user a0 K h):Ct prog n_judge_user #[(.agg (av.C a0).toArray)] h fun v h'=>∃ r,v = aC r/\K r h':=ay [(.agg (av.C a0).toArray)] func139 c c c fun _=>M<|aa<|cO (l:=av.C a0) c c c fun b1=>O c<|M<|p (ae mX c)<|bh (bF (k:=0) fz c c c c) c<|aa<|cK (vs:=[(.agg (ai.C a0.fKa).toArray)]) (bz<|kg a0.fKa _) en_63 c c<|J c<|p (ak c c)<|p (ak c c)<|p (au c)<|O c<|M<|J c<|aa<|cK (vs:=[(.int .i64 ((az a0.fKa).1))]) (bz<|su (az a0.fKa).1 _) en_64 c c<|O c<|aj<|Y ⟨bA (az a0.fKa).1,c,H⟩
def ft (a0:av):Bool:=((bA ((az a0.fKa).1)))
theorem pr_judge_user (a0:av) {K:Bool->Hp->Prop} {h:Hp} (k:K (ft a0) h):sh_judge_user a0 K h:=(fun k=>k) k
theorem ct_judge_user (a0:av) (h:Hp):Ct prog n_judge_user #[(.agg (av.C a0).toArray)] h fun v h'=>∃ r,v = aC r/\(r = ft a0/\h' = h):=sim_judge_user a0 (pr_judge_user a0 ⟨rfl,rfl⟩)
end
section
open Go Mb
set_option linter.unusedVariables false
def tU (a0:Ptr) (K:(Int × Bool)->Hp->Prop):Hp->Prop:=br a0.isNone ( K (0,false)) ( nn a0 fun q8=>ld (q8.1,q8.2 + 0) cS fun x10=>cl prog jV [(sv x10),(.int .i64 0)] ee fun r11=>br (decide (r11 < 0)) ( K (0,false)) ( ld (q8.1,q8.2 + 0) cS fun x17=>ix x17 r11 fun q19=>st (q19.1,q19.2 + Int.toNat r11 * 1) [.int .i64 1]<|K (r11,true)))
theorem sim_pool_Pool_Take (a0:Ptr) {K:(Int × Bool)->Hp->Prop} {h:Hp} (H:tU a0 K h):Ct prog jx #[(pv a0)] h fun v h'=>∃ r,v = bL r/\K r h':=ay [(pv a0)] func171 c c c fun _=>M<|p (au c)<|O c<|al<|M<|J c<|p (cq underlying154 c)<|ad<|aw c H (fun k1 H2=>M<|p (au c)<|O c<|aj<|bv (bN c (cc c)<|cc c) ⟨(0,false),c,H2⟩) fun k1 H2=>ao<|M<|J c<|bG H2 fun q8 e3 H4=>p (aJ<|aN c<|ar e3)<|p (ae nW c)<|aa<|aW H4 sc_39 c (fun _=>c) c fun x10 H5=>aa<|Z H5 en_199 fun r11 _ H6=>O c<|al<|M<|J c<|p (cx c c)<|ad<|aw c H6 (fun k7 H8=>M<|p (au c)<|O c<|aj<|bv (bN c (cc c)<|cc c) ⟨(0,false),c,H8⟩) fun k7 H8=>ao<|M<|J (aN c<|ar e3)<|p (aJ c)<|p (ae nW c)<|aa<|aW H8 sc_39 c (fun _=>c) c fun x17 H9=>J c<|cm H9 fun q19 e10 h11 H12=>p (bq ia (aN c<|bb e10) c h11)<|aa<|dw qU c c c c c H12 fun _ H13=>ad<|M<|J c<|p (au c)<|O c<|aj<|bv (bN c (cc c)<|cc c) ⟨(r11,true),c,H13⟩
def tV (a0:Ptr) (a1:Int) (K:Int->Hp->Prop):Hp->Prop:=br (!(a0.isNone || (decide (a1 < 0)))) ( nn a0 fun q14=>ld (q14.1,q14.2 + 0) cS fun x16=>br (decide (a1 >= (x16.len:Int))) ( K 0) ( ld (q14.1,q14.2 + 0) cS fun x23=>ix x23 a1 fun q25=>ld (q25.1,q25.2 + Int.toNat a1 * 1) (cI .i64) fun x26=>K x26)) ( K 0)
theorem sim_pool_Pool_Refs (a0:Ptr) (a1:Int) {K:Int->Hp->Prop} {h:Hp} (H:tV a0 a1 K h):Ct prog jy #[(pv a0),(.int .i64 a1)] h fun v h'=>∃ r,v = ee r/\K r h':=ay [(pv a0),(.int .i64 a1)] func200 c c c fun _=>M<|O c<|al<|M<|J c<|p (cq underlying154 c)<|J c<|V c c (aL _) (fun g1=>wv<|ah c)<|V c c (aL _) (fun g2=>wv<|cx (aD c g2) c)<|p (dp c c)<|J c<|V c c (aL _) (fun g3=>wv<|ah c)<|V c c (aL _) (fun g4=>wv<|ah c)<|bS H (fun k6 H7=>bG H7 fun q14 e8 H9=>F (D<|bW k6)<|R (aJ<|aN (aD c k6)<|ar e8)<|F (D<|bW k6)<|R (ae nW c)<|F (D<|bW k6)<|aW H9 sc_39 c (fun _=>c) c fun x16 H10=>F (D<|bW k6)<|R (dz c underlying39 c)<|F (D<|bW k6)<|R (jJ (aD c k6) c)<|p (aq c (bW k6) c)<|ad<|aw c H10 (fun k11 H12=>M<|O c<|aj<|Y ⟨0,c,H12⟩) fun k11 H12=>ao<|M<|J (aN c<|ar e8)<|p (aJ c)<|p (ae nW c)<|aa<|aW H12 sc_39 c (fun _=>c) c fun x23 H13=>J c<|cm H13 fun q25 e14 h15 H16=>p (bq ia (aN c<|bb e14) c h15)<|aa<|aW H16 aZ c (fun _=>c) c fun x26 H17=>O c<|aj<|Y ⟨x26,c,H17⟩) fun k6 H7=>W (cf<|bH k6)<|W (cf<|bH k6)<|W (cf<|bH k6)<|W (cf<|bH k6)<|W (cf<|bH k6)<|p (aT c (bH k6) c)<|ad<|ke c c<|M<|O c<|aj<|Y ⟨0,c,H7⟩
def tW (a0:Ptr) (a1:Int) (K:Bool->Hp->Prop):Hp->Prop:=cl prog jy [(pv a0),(.int .i64 a1)] ee fun r8=>br ((r8 == 0) || (decide (r8 >= 7))) ( K false) ( nn a0 fun q16=>ld (q16.1,q16.2 + 0) cS fun x18=>ix x18 a1 fun q20=>ld (q20.1,q20.2 + Int.toNat a1 * 1) (cI .i64) fun x21=>st (q20.1,q20.2 + Int.toNat a1 * 1) [.int .i64 (IntKind.i64.wrap (x21 + 1))]<|K true)
theorem sim_pool_Pool_Hold (a0:Ptr) (a1:Int) {K:Bool->Hp->Prop} {h:Hp} (H:tW a0 a1 K h):Ct prog lX #[(pv a0),(.int .i64 a1)] h fun v h'=>∃ r,v = aC r/\K r h':=ay [(pv a0),(.int .i64 a1)] func173 c c c fun _=>M<|O c<|al<|M<|J c<|J c<|aa<|Z H en_200 fun r8 _ H1=>O c<|M<|J c<|p (bQ c c)<|J c<|V c c (aL _) (fun g2=>wv<|ah c)<|V c c (aL _) (fun g3=>wv<|jJ (aD c g3) c)<|p (dp c c)<|ad<|aw c H1 (fun k4 H5=>M<|O c<|aj<|Y ⟨false,c,H5⟩) fun k4 H5=>ao<|M<|J c<|bG H5 fun q16 e6 H7=>p (aJ<|aN c<|ar e6)<|p (ae nW c)<|aa<|aW H7 sc_39 c (fun _=>c) c fun x18 H8=>J c<|cm H8 fun q20 e9 h10 H11=>p (bq ia (aN c<|bb e9) c h10)<|aa<|aW H11 aZ c (fun _=>c) c fun x21 H12=>p (bo c c)<|p (bq ia (aN c<|bb e9) c h10)<|aa<|dw qU c c c c c H12 fun _ H13=>ad<|M<|O c<|aj<|Y ⟨true,c,H13⟩
def vt (a0:Ptr) (a1:Int) (K:(Int × Bool)->Hp->Prop):Hp->Prop:=cl prog jy [(pv a0),(.int .i64 a1)] ee fun r8=>br (r8 == 0) ( K (0,false)) ( nn a0 fun q11=>ld (q11.1,q11.2 + 0) cS fun x13=>ix x13 a1 fun q15=>ld (q15.1,q15.2 + Int.toNat a1 * 1) (cI .i64) fun x16=>st (q15.1,q15.2 + Int.toNat a1 * 1) [.int .i64 (IntKind.i64.wrap (x16 - 1))]<|ld (q11.1,q11.2 + 0) cS fun x22=>ix x22 a1 fun q24=>ld (q24.1,q24.2 + Int.toNat a1 * 1) (cI .i64) fun x25=>K (x25,true))
theorem sim_pool_Pool_Let (a0:Ptr) (a1:Int) {K:(Int × Bool)->Hp->Prop} {h:Hp} (H:vt a0 a1 K h):Ct prog ni #[(pv a0),(.int .i64 a1)] h fun v h'=>∃ r,v = bL r/\K r h':=ay [(pv a0),(.int .i64 a1)] func177 c c c fun _=>M<|p (au c)<|O c<|al<|M<|J c<|J c<|aa<|Z H en_200 fun r8 _ H1=>p (bQ c c)<|ad<|aw c H1 (fun k2 H3=>M<|p (au c)<|O c<|aj<|bv (bN c (cc c)<|cc c) ⟨(0,false),c,H3⟩) fun k2 H3=>ao<|M<|J c<|bG H3 fun q11 e4 H5=>p (aJ<|aN c<|ar e4)<|p (ae nW c)<|aa<|aW H5 sc_39 c (fun _=>c) c fun x13 H6=>J c<|cm H6 fun q15 e7 h8 H9=>p (bq ia (aN c<|bb e7) c h8)<|aa<|aW H9 aZ c (fun _=>c) c fun x16 H10=>p (v_sub c c)<|p (bq ia (aN c<|bb e7) c h8)<|aa<|dw qU c c c c c H10 fun _ H11=>ad<|M<|J (aN c<|ar e4)<|p (aJ c)<|p (ae nW c)<|aa<|aW H11 sc_39 c (fun _=>c) c fun x22 H12=>J c<|cm H12 fun q24 e13 h14 H15=>p (bq ia (aN c<|bb e13) c h14)<|aa<|aW H15 aZ c (fun _=>c) c fun x25 H16=>p (au c)<|O c<|aj<|bv (bN c (cc c)<|cc c) ⟨(x25,true),c,H16⟩
def sh_pool_New (a0:Int) (K:Ptr->Hp->Prop):Hp->Prop:=br ((decide (a0 < 1)) || (decide (a0 > 16))) ( K none) ( hpv prog (Instr.makeSlice dG (.int .i64 a0) (.int .i64 a0)) cC fun (v10:Sl)=>nw qC (nY.C (⟨v10⟩:nY)) fun b12=>K (some (b12,0)))
theorem sim_pool_New (a0:Int) {K:Ptr->Hp->Prop} {h:Hp} (H:sh_pool_New a0 K h):Ct prog xi #[(.int .i64 a0)] h fun v h'=>∃ r,v = sw r/\K r h':=ay [(.int .i64 a0)] func105 c c c fun _=>M<|O c<|al<|M<|J c<|p (cx c c)<|J c<|V c c (aL _) (fun g1=>wv<|ah c)<|V c c (aL _) (fun g2=>wv<|qB (aD c g2) c)<|p (dp c c)<|ad<|aw c H (fun k3 H4=>M<|O c<|aj<|Y ⟨none,c,H4⟩) fun k3 H4=>ao<|M<|J c<|aa<|aR H4 (jK c c) c fun v10 _ H5=>p (ba c<|build_210_0 v10)<|aa<|hY c c c H5 fun b12 _ H6=>O c<|aj<|Y ⟨some (b12,0),c,H6⟩
def oJ (K:Sl->Hp->Prop) (x11:Sl) (Rec7:(Sl × Int)->Hp->Prop) (s6:Sl × Int):Hp->Prop:=br (decide (s6.2 < (x11.len:Int))) ( ix x11 s6.2 fun q16=>ld (q16.1,q16.2 + Int.toNat s6.2 * 1) (cI .i64) fun x17=>br (x17 == 0) ( hpv prog (Instr.buildSlice dG 1 #[(0,(.int .i64 s6.2))]) cC fun (v22:Sl)=>hpv prog (Builtin.append_ #[dG,dG] dG #[(sv s6.1),(sv v22)]) cC fun (v23:Sl)=>Rec7 (v23,(IntKind.i64.wrap (s6.2 + 1)))) ( Rec7 (s6.1,(IntKind.i64.wrap (s6.2 + 1))))) ( K s6.1)
def tX (a0:Ptr) (K:Sl->Hp->Prop):Hp->Prop:=br a0.isNone ( K (⟨none,0,0,none⟩:Sl)) ( nn a0 fun q9=>ld (q9.1,q9.2 + 0) cS fun x11=>Lp (oJ K x11) ((⟨none,0,0,none⟩:Sl),0))
theorem sim_pool_Pool_Free (a0:Ptr) {K:Sl->Hp->Prop} {h:Hp} (H:tX a0 K h):Ct prog lY #[(pv a0)] h fun v h'=>∃ r,v = cC r/\K r h':=ay [(pv a0)] func103 c c c fun _=>M<|O c<|al<|M<|J c<|p (cq underlying154 c)<|ad<|aw c H (fun k1 H2=>M<|O c<|aj<|Y ⟨(⟨none,0,0,none⟩:Sl),c,H2⟩) fun k1 H2=>ao<|M<|O c<|al<|M<|J c<|bG H2 fun q9 e3 H4=>p (aJ<|aN c<|ar e3)<|p (ae nW c)<|aa<|aW H4 sc_39 c (fun _=>c) c fun x11 H5=>p (dz c underlying39 c)<|J c<|ad<|aA<|bE (step:=oJ K x11) (fun s6=>[(3,(sv s6.1)),(11,(sv x11)),(12,(.int .i64 (x11.len:Int))),(13,(.int .i64 s6.2))]) (fun s6=>[]) H5 (.cons c<|.cons c<|.cons c<|.cons c<|.nil _) .slnil fun Rec7 s6 _ H8=>M<|p (cx c c)<|ad<|al<|aw c H8 (fun k9 H10=>ao<|al<|aA<|M<|J c<|cm H10 fun q16 e11 h12 H13=>p (bq ia (aN c<|bb e11) c h12)<|aa<|aW H13 aZ c (fun _=>c) c fun x17 H14=>p (au c)<|O c<|M<|J c<|p (bQ c c)<|ad<|aw c H14 (fun k15 H16=>ap<|J c<|J c<|aa<|aR H16 (bw (vs:=[(.int .i64 s6.2)]) c) c fun v22 _ H17=>aa<|aR H17 (dE c c) c fun v23 _ H18=>O c<|ap<|p (bo c c)<|J c<|ad<|cN (v23,(IntKind.i64.wrap (s6.2 + 1))) H18 (.cons c<|.cons c<|.cons c<|.cons c<|.nil _) .slnil) fun k15 H16=>ao<|ap<|p (bo c c)<|J c<|ad<|cN (s6.1,(IntKind.i64.wrap (s6.2 + 1))) H16 (.cons c<|.cons c<|.cons c<|.cons c<|.nil _) .slnil) fun k9 H10=>bi<|M<|J c<|O c<|aj<|Y ⟨s6.1,c,H10⟩
def oK (K:Int->Hp->Prop) (r7:Sl) (Rec3:(Int × Int)->Hp->Prop) (s2:Int × Int):Hp->Prop:=br (decide (s2.2 < (r7.len:Int))) ( ix r7 s2.2 fun q11=>ld (q11.1,q11.2 + Int.toNat s2.2 * 1) (cI .i64) fun x12=>gd (0 <= x12)<|Rec3 ((ior .u64 s2.1 (IntKind.u64.wrap (1 * 2 ^ (min (Int.toNat x12) (IntKind.bits .u64))))),(IntKind.i64.wrap (s2.2 + 1)))) ( K s2.1)
def tY (a0:Ptr) (K:Int->Hp->Prop):Hp->Prop:=cl prog lY [(pv a0)] cC fun r7=>Lp (oK K r7) (0,0)
theorem sim_pool_Pool_Bits (a0:Ptr) {K:Int->Hp->Prop} {h:Hp} (H:tY a0 K h):Ct prog qb #[(pv a0)] h fun v h'=>∃ r,v = gO r/\K r h':=ay [(pv a0)] func217 c c c fun _=>M<|O c<|M<|O c<|al<|M<|J c<|aa<|Z H en_103 fun r7 _ H1=>p (dz c underlying39 c)<|J c<|ad<|aA<|bE (step:=oK K r7) (fun s2=>[(3,(.int .u64 s2.1)),(7,(sv r7)),(8,(.int .i64 (r7.len:Int))),(9,(.int .i64 s2.2))]) (fun s2=>[]) H1 (.cons c<|.cons c<|.cons c<|.cons c<|.nil _) .slnil fun Rec3 s2 _ H4=>M<|p (cx c c)<|ad<|al<|aw c H4 (fun k5 H6=>ao<|al<|aA<|M<|cm H6 fun q11 e7 h8 H9=>p (bq ia (aN c<|bb e7) c h8)<|aa<|aW H9 aZ c (fun _=>c) c fun x12 H10=>O c<|ap<|J c<|J c<|iD H10 fun z11 H12=>p (v_shl c c z11)<|p (v_ior c c)<|O c<|ap<|p (bo c c)<|J c<|ad<|cN ((ior .u64 s2.1 (IntKind.u64.wrap (1 * 2 ^ (min (Int.toNat x12) (IntKind.bits .u64))))),(IntKind.i64.wrap (s2.2 + 1))) H12 (.cons c<|.cons c<|.cons c<|.cons c<|.nil _) .slnil) fun k5 H6=>bi<|M<|J c<|O c<|aj<|Y ⟨s2.1,c,H6⟩
end
section
open Go Mb
set_option linter.unusedVariables false
def gY (a0:Sl) (K:Sl->Hp->Prop):Hp->Prop:=br a0.a.isNone ( K (⟨none,0,0,none⟩:Sl)) ( hpv prog (Instr.buildSlice eN 0 #[]) dS fun (v5:Sl)=>hpv prog (Builtin.append_ #[eN,eN] eN #[(sv v5),(sv a0)]) dS fun (v7:Sl)=>K v7)
theorem mC (a0:Sl) {K:Sl->Hp->Prop} {h:Hp} (H:gY a0 K h):Ct prog eR #[(sv a0)] h fun v h'=>∃ r,v = dS r/\K r h':=ay [(sv a0)] func55 c c c fun _=>M<|O c<|al<|M<|J c<|p (v_seqT underlying42 c)<|ad<|aw c H (fun k1 H2=>M<|O c<|aj<|Y ⟨(⟨none,0,0,none⟩:Sl),c,H2⟩) fun k1 H2=>ao<|M<|aa<|aR H2 (bw (vs:=[]) c) c fun v5 _ H3=>J c<|aa<|aR H3 (dE c c) c fun v7 _ H4=>O c<|aj<|Y ⟨v7,c,H4⟩
def eD (a0:Sl) (a1:Int) (K:(Int × Bool)->Hp->Prop) (Rec2:(Int × Int)->Hp->Prop) (s1:Int × Int):Hp->Prop:=br (decide (s1.1 < s1.2)) ( ix a0 (IntKind.i64.wrap (Int.fdiv (IntKind.u64.wrap (IntKind.i64.wrap (s1.1 + s1.2))) (2 ^ (min (Int.toNat 1) (IntKind.bits .u64))))) fun q24=>ld (q24.1,q24.2 + Int.toNat (IntKind.i64.wrap (Int.fdiv (IntKind.u64.wrap (IntKind.i64.wrap (s1.1 + s1.2))) (2 ^ (min (Int.toNat 1) (IntKind.bits .u64))))) * 1) (cI .u64) fun x25=>br (ig x25 a1) ( Rec2 ((IntKind.i64.wrap ((IntKind.i64.wrap (Int.fdiv (IntKind.u64.wrap (IntKind.i64.wrap (s1.1 + s1.2))) (2 ^ (min (Int.toNat 1) (IntKind.bits .u64))))) + 1)),s1.2)) ( Rec2 (s1.1,(IntKind.i64.wrap (Int.fdiv (IntKind.u64.wrap (IntKind.i64.wrap (s1.1 + s1.2))) (2 ^ (min (Int.toNat 1) (IntKind.bits .u64)))))))) ( br (decide (s1.1 < (a0.len:Int))) ( ix a0 s1.1 fun q38=>ld (q38.1,q38.2 + Int.toNat s1.1 * 1) (cI .u64) fun x39=>br (!(x39 == a1)) ( ld (q38.1,q38.2 + Int.toNat s1.1 * 1) (cI .u64) fun x46=>K (s1.1,((dD x46) && (dD a1)))) ( K (s1.1,true))) ( K (s1.1,false)))
def gI (a0:Sl) (a1:Int) (K:(Int × Bool)->Hp->Prop):Hp->Prop:=Lp (eD a0 a1 K) (0,(a0.len:Int))
theorem lT (a0:Sl) (a1:Int) {K:(Int × Bool)->Hp->Prop} {h:Hp} (H:gI a0 a1 K h):Ct prog eL #[(sv a0),(.int .u64 a1)] h fun v h'=>∃ r,v = bL r/\K r h':=ay [(sv a0),(.int .u64 a1)] func169 c c c fun _=>M<|p (au c)<|O c<|M<|J c<|p (dz c underlying93 c)<|O c<|M<|J c<|p (au c)<|O c<|al<|aA<|bE (step:=eD a0 a1 K) (fun s1=>[(0,(sv a0)),(1,(.int .u64 a1)),(6,(.int .i64 (a0.len:Int))),(7,(.int .i64 s1.1)),(8,(.int .i64 s1.2))]) (fun s1=>[]) H (.cons c<|.cons c<|.cons c<|.cons c<|.cons c<|.nil _) .slnil fun Rec2 s1 _ H3=>al<|M<|J c<|J c<|p (cx c c)<|ad<|aw c H3 (fun k4 H5=>ao<|aA<|M<|J c<|J c<|p (bo c c)<|p (dT ⟨_,underlying3⟩ underlying257 c)<|p (v_shr c c (by decide))<|p (dT ⟨_,underlying257⟩ underlying3 c)<|O c<|M<|J c<|J c<|cm H5 fun q24 e6 h7 H8=>p (bq wE (aN c<|bb e6) c h7)<|aa<|aW H8 cy c (fun _=>c) c fun x25 H9=>J c<|aa<|cK (vs:=[(.int .u64 x25),(.int .u64 a1)]) (bz<|ct_cmp_Less_uint64 x25 a1 _) en_195 c c<|ad<|aw c H9 (fun k10 H11=>ap<|J c<|p (bo c c)<|O c<|cN ((IntKind.i64.wrap ((IntKind.i64.wrap (Int.fdiv (IntKind.u64.wrap (IntKind.i64.wrap (s1.1 + s1.2))) (2 ^ (min (Int.toNat 1) (IntKind.bits .u64))))) + 1)),s1.2) H11 (.cons c<|.cons c<|.cons c<|.cons c<|.cons c<|.nil _) .slnil) fun k10 H11=>ap<|J c<|O c<|cN (s1.1,(IntKind.i64.wrap (Int.fdiv (IntKind.u64.wrap (IntKind.i64.wrap (s1.1 + s1.2))) (2 ^ (min (Int.toNat 1) (IntKind.bits .u64)))))) H11 (.cons c<|.cons c<|.cons c<|.cons c<|.cons c<|.nil _) .slnil) fun k4 H5=>bi<|M<|J c<|J c<|J c<|p (cx c c)<|J c<|V c c (aB _) (fun g12=>wv<|ah c)<|V c c (aB _) (fun g13=>wv<|ah c)<|bS H5 (fun k15 H16=>cm H16 fun q38 e17 h18 H19=>F (D k15)<|R (bq wE (aN (aD c k15)<|bb e17) (aD c k15) h18)<|F (D k15)<|aW H19 cy c (fun _=>c) c fun x39 H20=>F (D k15)<|R (ah c)<|F (D k15)<|R (bQ c c)<|F (D k15)<|R (ah c)<|V c c (aL _) (fun g21=>wv<|ah c)<|V c c (aL _) (fun g22=>wv<|ah c)<|V c c (aL _) (fun g23=>wv<|bq wE (aN (aD c g23)<|bb e17) (aD c g23) h18)<|bS H20 (fun k25 H26=>F (D<|bW k25)<|aW H26 cy (aD c k25) (fun _=>c) c fun x46 H27=>F (D<|bW k25)<|cK (vs:=[(.int .u64 x46)]) (bz<|pf x46 _) en_196 c c<|F (D<|bW k25)<|R (ah c)<|V c c (aB _) (fun g28=>wv<|ah c)<|cZ (vs:=[(.int .u64 a1)]) c c c (aB _) (fun g29=>bz<|pf a1 _) en_196 (fun g29=>aS (aD c g29) bR) c<|F (D<|bW k25)<|R (bT c c)<|F (D k15)<|R (aq c (bW k25) c)<|p (aT c k15 c)<|p (au c)<|O c<|aj<|bv (bN c (cc c)<|cc c) ⟨(s1.1,((dD x46) && (dD a1))),c,H27⟩) fun k25 H26=>W (cf<|bH k25)<|W (cf<|bH k25)<|W (cf<|bH k25)<|W (off_u _)<|W (off_u _)<|W (cf<|bH k25)<|F (D k15)<|R (aT c (bH k25) c)<|p (aT c k15 c)<|p (au c)<|O c<|aj<|bv (bN c (cc c)<|cc c) ⟨(s1.1,true),c,H26⟩) fun k15 H16=>W (aU k15)<|W (aU k15)<|W (aU k15)<|W (aU k15)<|W (aU k15)<|W (off_u _)<|W (off_u _)<|W (off_u _)<|W (off_u _)<|W (off_u _)<|W (off_u _)<|W (off_u _)<|W (off_u _)<|W (off_u _)<|W (aU k15)<|p (aq c k15 c)<|p (au c)<|O c<|aj<|bv (bN c (cc c)<|cc c) ⟨(s1.1,false),c,H16⟩
def jw (a0:Sl) (a1:Int) (a2:Sl) (K:Sl->Hp->Prop):Hp->Prop:=hpv prog (Instr.sliceAt be (sv a0) (some (.int .i64 a1)) none none) cg fun (v12:Sl)=>br ((a2.len:Int) == 0) ( K a0) ( br (a1 == (a0.len:Int)) ( hpv prog (Builtin.append_ #[be,be] be #[(sv a0),(sv a2)]) cg fun (v25:Sl)=>K v25) ( br (decide ((IntKind.i64.wrap ((a0.len:Int) + (a2.len:Int))) > (a0.cap:Int))) ( hpv prog (Instr.sliceAt be (sv a0) none (some (.int .i64 a1)) none) cg fun (v34:Sl)=>hpv prog (Builtin.append_ #[be,km] be #[(sv v34),(.int .i64 (IntKind.i64.wrap ((IntKind.i64.wrap ((a0.len:Int) + (a2.len:Int))) - a1)))]) cg fun (v40:Sl)=>hpv prog (Instr.sliceAt be (sv v40) (some (.int .i64 a1)) none none) cg fun (v43:Sl)=>hpv prog (Builtin.copy_ #[be,be] km #[(sv v43),(sv a2)]) ee fun (v45:Int)=>both ( hpv prog (Instr.sliceAt be (sv v40) (some (.int .i64 (IntKind.i64.wrap (a1 + (a2.len:Int))))) none none) cg fun (v50:Sl)=>hpv prog (Instr.sliceAt be (sv a0) (some (.int .i64 a1)) none none) cg fun (v53:Sl)=>hpv prog (Builtin.copy_ #[be,be] km #[(sv v50),(sv v53)]) ee fun (v54:Int)=>K v40) ( hpv prog (Instr.sliceAt be (sv a0) (some (.int .i64 a1)) none none) cg fun (v53:Sl)=>hpv prog (Instr.sliceAt be (sv v40) (some (.int .i64 (IntKind.i64.wrap (a1 + (a2.len:Int))))) none none) cg fun (v50:Sl)=>hpv prog (Builtin.copy_ #[be,be] km #[(sv v50),(sv v53)]) ee fun (v54:Int)=>K v40)) ( hpv prog (Instr.sliceAt be (sv a0) none (some (.int .i64 (IntKind.i64.wrap ((a0.len:Int) + (a2.len:Int))))) none) cg fun (v60:Sl)=>hpv prog (Instr.sliceAt be (sv v60) (some (.int .i64 (IntKind.i64.wrap (a1 + (a2.len:Int))))) none none) cg fun (v66:Sl)=>cln prog (callFunc uT #[(sv a2),(sv v66)]) aC fun (v67:Bool)=>br (!v67) ( both ( hpv prog (Instr.sliceAt be (sv v60) (some (.int .i64 (IntKind.i64.wrap (a1 + (a2.len:Int))))) none none) cg fun (v73:Sl)=>hpv prog (Instr.sliceAt be (sv v60) (some (.int .i64 a1)) none none) cg fun (v76:Sl)=>hpv prog (Builtin.copy_ #[be,be] km #[(sv v73),(sv v76)]) ee fun (v77:Int)=>hpv prog (Instr.sliceAt be (sv v60) (some (.int .i64 a1)) none none) cg fun (v80:Sl)=>hpv prog (Builtin.copy_ #[be,be] km #[(sv v80),(sv a2)]) ee fun (v82:Int)=>K v60) ( hpv prog (Instr.sliceAt be (sv v60) (some (.int .i64 a1)) none none) cg fun (v76:Sl)=>hpv prog (Instr.sliceAt be (sv v60) (some (.int .i64 (IntKind.i64.wrap (a1 + (a2.len:Int))))) none none) cg fun (v73:Sl)=>hpv prog (Builtin.copy_ #[be,be] km #[(sv v73),(sv v76)]) ee fun (v77:Int)=>hpv prog (Instr.sliceAt be (sv v60) (some (.int .i64 a1)) none none) cg fun (v80:Sl)=>hpv prog (Builtin.copy_ #[be,be] km #[(sv v80),(sv a2)]) ee fun (v82:Int)=>K v60)) ( hpv prog (Instr.sliceAt be (sv v60) (some (.int .i64 (a0.len:Int))) none none) cg fun (v86:Sl)=>hpv prog (Builtin.copy_ #[be,be] km #[(sv v86),(sv a2)]) ee fun (v88:Int)=>hpv prog (Instr.sliceAt be (sv v60) (some (.int .i64 a1)) none none) cg fun (v91:Sl)=>cl prog sg [(sv v91),(.int .i64 (a2.len:Int))] R_ fun (_:Unit)=>K v60))))
theorem pu (a0:Sl) (a1:Int) (a2:Sl) {K:Sl->Hp->Prop} {h:Hp} (H:jw a0 a1 a2 K h):Ct prog dA #[(sv a0),(.int .i64 a1),(sv a2)] h fun v h'=>∃ r,v = cg r/\K r h':=ay [(sv a0),(.int .i64 a1),(sv a2)] func170 c c c fun _=>M<|O c<|M<|J c<|J c<|aa<|aR H (fe c c c c c) c fun v12 _ H1=>ad<|M<|J c<|p (dz c underlying93 c)<|O c<|al<|M<|J c<|p (bQ c c)<|ad<|aw c H1 (fun k2 H3=>M<|J c<|O c<|aj<|Y ⟨a0,c,H3⟩) fun k2 H3=>ao<|M<|J c<|p (dz c underlying93 c)<|O c<|al<|M<|J c<|J c<|p (bQ c c)<|ad<|aw c H3 (fun k4 H5=>M<|J c<|J c<|aa<|aR H5 (dE c c) c fun v25 _ H6=>O c<|aj<|Y ⟨v25,c,H6⟩) fun k4 H5=>ao<|al<|M<|J c<|J c<|p (bo c c)<|J c<|p (v_cap c underlying93 c)<|p (qB c c)<|ad<|aw c H5 (fun k7 H8=>M<|J c<|J c<|aa<|aR H8 (fe c c c c c) c fun v34 _ H9=>J c<|J c<|p (bo c c)<|J c<|p (v_sub c c)<|aa<|aR H9 (dE c c) c fun v40 _ H10=>O c<|M<|J c<|J c<|aa<|aR H10 (fe c c c c c) c fun v43 _ H11=>J c<|aa<|aR H11 (x_copy c c) c fun v45 _ H12=>ad<|al<|bn (n:=9) [] cu c .slnil<|U 0 c (ah c)<|U 1 c (ah c)<|U 2 c (ah c)<|U 3 c (bo c c)<|U 5 c (ah c)<|U 6 c (ah c)<|jD H12 fun H13_1 H13_2=>jE (i:=4) (j:=7) (by kernel_rfl) (cF c c<|aR H13_1 (fe c c c c c) c fun v50 _ H14=>⟨.slnil,G 7 c<|aR H14 (fe c c c c c) c fun v53 _ H15=>⟨.slnil,G 8 c<|aR H15 (x_copy c c) c fun v54 _ H16=>⟨.slnil,aV (by kernel_rfl)<|M<|J c<|O c<|aj<|Y ⟨v40,c,H16⟩⟩⟩⟩)<|cF c c<|aR H13_2 (fe c c c c c) c fun v53 _ H14=>⟨.slnil,G 4 c<|aR H14 (fe c c c c c) c fun v50 _ H15=>⟨.slnil,G 8 c<|aR H15 (x_copy c c) c fun v54 _ H16=>⟨.slnil,aV (by kernel_rfl)<|M<|J c<|O c<|aj<|Y ⟨v40,c,H16⟩⟩⟩⟩) fun k7 H8=>ao<|M<|J c<|J c<|J c<|p (bo c c)<|aa<|aR H8 (fe c c c c c) c fun v60 _ H17=>O c<|al<|M<|J c<|J c<|J c<|J c<|p (bo c c)<|aa<|aR H17 (fe c c c c c) c fun v66 _ H18=>aa<|gf H18 (rR (vs:=[(sv a2),(sv v66)]) c) c fun v67 _ H19=>p (cr c)<|ad<|aw c H19 (fun k20 H21=>al<|bn (n:=9) [] cu c .slnil<|U 0 c (ah c)<|U 1 c (ah c)<|U 2 c (ah c)<|U 3 c (bo c c)<|U 5 c (ah c)<|U 6 c (ah c)<|jD H21 fun H22_1 H22_2=>jE (i:=4) (j:=7) (by kernel_rfl) (cF c c<|aR H22_1 (fe c c c c c) c fun v73 _ H23=>⟨.slnil,G 7 c<|aR H23 (fe c c c c c) c fun v76 _ H24=>⟨.slnil,G 8 c<|aR H24 (x_copy c c) c fun v77 _ H25=>⟨.slnil,aV (by kernel_rfl)<|M<|J c<|J c<|aa<|aR H25 (fe c c c c c) c fun v80 _ H26=>J c<|aa<|aR H26 (x_copy c c) c fun v82 _ H27=>ad<|M<|J c<|O c<|aj<|Y ⟨v60,c,H27⟩⟩⟩⟩)<|cF c c<|aR H22_2 (fe c c c c c) c fun v76 _ H23=>⟨.slnil,G 4 c<|aR H23 (fe c c c c c) c fun v73 _ H24=>⟨.slnil,G 8 c<|aR H24 (x_copy c c) c fun v77 _ H25=>⟨.slnil,aV (by kernel_rfl)<|M<|J c<|J c<|aa<|aR H25 (fe c c c c c) c fun v80 _ H26=>J c<|aa<|aR H26 (x_copy c c) c fun v82 _ H27=>ad<|M<|J c<|O c<|aj<|Y ⟨v60,c,H27⟩⟩⟩⟩) fun k20 H21=>ao<|M<|J c<|J c<|aa<|aR H21 (fe c c c c c) c fun v86 _ H28=>J c<|aa<|aR H28 (x_copy c c) c fun v88 _ H29=>ad<|M<|J c<|J c<|aa<|aR H29 (fe c c c c c) c fun v91 _ H30=>J c<|aa<|Z H30 en_198 fun r93 _ H31=>ad<|M<|J c<|O c<|aj<|Y ⟨v60,c,H31⟩
def jv (a0:Sl) (a1:Int) (K:Int->Hp->Prop) (Rec2:Int->Hp->Prop) (s1:Int):Hp->Prop:=br (decide (s1 < (a0.len:Int))) ( ix a0 s1 fun q14=>ld (q14.1,q14.2 + Int.toNat s1 * 1) (cI .i64) fun x15=>br (a1 == x15) ( K s1) ( Rec2 (IntKind.i64.wrap (s1 + 1)))) ( K (-1))
def nL (a0:Sl) (a1:Int) (K:Int->Hp->Prop):Hp->Prop:=Lp (jv a0 a1 K) 0
theorem uO (a0:Sl) (a1:Int) {K:Int->Hp->Prop} {h:Hp} (H:nL a0 a1 K h):Ct prog jV #[(sv a0),(.int .i64 a1)] h fun v h'=>∃ r,v = ee r/\K r h':=ay [(sv a0),(.int .i64 a1)] func199 c c c fun _=>M<|O c<|al<|M<|J c<|p (dz c underlying39 c)<|J c<|ad<|aA<|bE (step:=jv a0 a1 K) (fun s1=>[(0,(sv a0)),(1,(.int .i64 a1)),(7,(.int .i64 (a0.len:Int))),(8,(.int .i64 s1))]) (fun s1=>[]) H (.cons c<|.cons c<|.cons c<|.cons c<|.nil _) .slnil fun Rec2 s1 _ H3=>M<|p (cx c c)<|ad<|al<|aw c H3 (fun k4 H5=>ao<|al<|aA<|M<|J c<|O c<|M<|J c<|J c<|J c<|cm H5 fun q14 e6 h7 H8=>p (bq ia (aN c<|bb e6) c h7)<|aa<|aW H8 aZ c (fun _=>c) c fun x15 H9=>p (bQ c c)<|ad<|aw c H9 (fun k10 H11=>M<|J c<|O c<|aj<|Y ⟨s1,c,H11⟩) fun k10 H11=>ao<|ap<|p (bo c c)<|J c<|ad<|cN (IntKind.i64.wrap (s1 + 1)) H11 (.cons c<|.cons c<|.cons c<|.cons c<|.nil _) .slnil) fun k4 H5=>bi<|M<|O c<|aj<|Y ⟨(-1),c,H5⟩
def eP (a0:Sl) (a1:Int) (a3:Value) (Rec2:Int->Hp->Prop) (s1:Int) (Rec7:Int->Hp->Prop) (s6:Int):Hp->Prop:=br (decide (s6 > a1)) ( ix a0 s6 fun q25=>ix a0 (IntKind.i64.wrap (s6 - 1)) fun q30=>ld (q25.1,q25.2 + Int.toNat s6 * 1) (cI .i64) fun x26=>ld (q30.1,q30.2 + Int.toNat (IntKind.i64.wrap (s6 - 1)) * 1) (cI .i64) fun x31=>clv prog a3 [(.int .i64 x26),(.int .i64 x31)] ee fun r32=>br (decide (r32 < 0)) ( ld (q30.1,q30.2 + Int.toNat (IntKind.i64.wrap (s6 - 1)) * 1) (cI .i64) fun x46=>ld (q25.1,q25.2 + Int.toNat s6 * 1) (cI .i64) fun x50=>st (q25.1,q25.2 + Int.toNat s6 * 1) [.int .i64 x46]<|st (q30.1,q30.2 + Int.toNat (IntKind.i64.wrap (s6 - 1)) * 1) [.int .i64 x50]<|Rec7 (IntKind.i64.wrap (s6 - 1))) ( Rec2 (IntKind.i64.wrap (s1 + 1)))) ( Rec2 (IntKind.i64.wrap (s1 + 1)))
def dC (a0:Sl) (a1:Int) (a2:Int) (a3:Value) (K:Unit->Hp->Prop) (Rec2:Int->Hp->Prop) (s1:Int):Hp->Prop:=br (decide (s1 < a2)) ( Lp (eP a0 a1 a3 Rec2 s1) s1) ( K ())
def ib (a0:Sl) (a1:Int) (a2:Int) (a3:Value) (K:Unit->Hp->Prop):Hp->Prop:=Lp (dC a0 a1 a2 a3 K) (IntKind.i64.wrap (a1 + 1))
theorem mU (a0:Sl) (a1:Int) (a2:Int) (a3:Value) {K:Unit->Hp->Prop} {h:Hp} (H:ib a0 a1 a2 a3 K h):Ct prog bY #[(sv a0),(.int .i64 a1),(.int .i64 a2),a3] h fun v h'=>∃ r,v = R_ r/\K r h':=ay [(sv a0),(.int .i64 a1),(.int .i64 a2),a3] func181 c c c fun _=>M<|J c<|p (bo c c)<|O c<|aA<|bE (step:=dC a0 a1 a2 a3 K) (fun s1=>[(0,(sv a0)),(1,(.int .i64 a1)),(2,(.int .i64 a2)),(3,a3),(8,(.int .i64 s1))]) (fun s1=>[]) H (.cons c<|.cons c<|.cons c<|.cons c<|.cons c<|.nil _) .slnil fun Rec2 s1 _ H3=>al<|M<|J c<|J c<|p (cx c c)<|ad<|aw c H3 (fun k4 H5=>ao<|al<|aA<|M<|J c<|O c<|aA<|bE (step:=eP a0 a1 a3 Rec2 s1) (fun s6=>[(0,(sv a0)),(1,(.int .i64 a1)),(2,(.int .i64 a2)),(3,a3),(8,(.int .i64 s1)),(9,(.int .i64 s6))]) (fun s6=>[]) H5 (.cons c<|.cons c<|.cons c<|.cons c<|.cons c<|.cons c<|.nil _) .slnil fun Rec7 s6 _ H8=>al<|al<|bn (n:=17) [] cu c .slnil<|U 0 c (ah c)<|U 1 c (ah c)<|U 2 c (qB c c)<|U 3 c (ah c)<|pd H8 (fun k9 H10=>z_n 4 c (D k9) (ve<|ah c)<|z_n 5 c (D k9) (ve<|ah c)<|z_n 6 c (D k9) (ve<|ah c)<|z_n 9 c (D k9) (ve<|ah c)<|z_n 10 c (D k9) (ve<|ah c)<|z_n 11 c (D k9) (ve<|v_sub c c)<|gn H10 fun q25 e11 h12 H13=>z_n 7 c (D k9) (ve<|bq ia (aN c<|bb e11) c h12)<|gn H13 fun q30 e14 h15 H16=>z_n 12 c (D k9) (ve<|bq ia (aN c<|bb e14) c h15)<|mt (i:=8) (fun _ _ _ _ hh=>hh) H16 c (by kernel_rfl) c c c (D k9) aZ c (fun _=>c) c fun x26 H17=>mt (i:=13) (fun _ _ _ _ hh=>hh) H17 c (by kernel_rfl) c c c (D k9) aZ c (fun _=>c) c fun x31 H18=>eva_1 (i:=14) (by kernel_rfl)<|way_on c c c c (D k9)<|to_clv H18 c c c fun r32 _ H19=>⟨.slnil,z_n 15 c (D k9) (ve<|cx c c)<|U 16 c (aT c k9 c)<|aV (by kernel_rfl)<|aw c H19 (fun k20 H21=>ao<|al<|aA<|bn (n:=18) [] cu c .slnil<|U 0 c (ah c)<|U 1 c (ah c)<|U 2 c (ah c)<|U 3 c (ah c)<|U 4 c (v_sub c c)<|U 5 c (ah c)<|U 6 c (ah c)<|U 7 c (v_sub c c)<|U 8 c (bq ia (aN c<|bb e14) c h15)<|U 10 c (ah c)<|U 11 c (ah c)<|U 12 c (bq ia (aN c<|bb e11) c h12)<|bI (i:=9) (fun _ _ _ _ hh=>hh) H21 c (by kernel_rfl) aZ c (fun _=>c) c fun x46 H22=>bI (i:=13) (fun _ _ _ _ hh=>hh) H22 c (by kernel_rfl) aZ c (fun _=>c) c fun x50 H23=>U 14 c (bq ia (aN c<|bb e11) c h12)<|G 15 c<|dw qU c c c c c H23 fun _ H24=>⟨.slnil,U 16 c (bq ia (aN c<|bb e14) c h15)<|G 17 c<|dw qU c c c c c H24 fun _ H25=>⟨.slnil,aV (by kernel_rfl)<|ap<|J c<|p (v_sub c c)<|O c<|cN (IntKind.i64.wrap (s6 - 1)) H25 (.cons c<|.cons c<|.cons c<|.cons c<|.cons c<|.cons c<|.nil _) .slnil⟩⟩) fun k20 H21=>bi<|ap<|J c<|p (bo c c)<|O c<|cN (IntKind.i64.wrap (s1 + 1)) H21 (.cons c<|.cons c<|.cons c<|.cons c<|.cons c<|.nil _) .slnil⟩) fun k9 H10=>I 4 c (aU k9)<|I 5 c (aU k9)<|I 6 c (aU k9)<|I 7 c (aU k9)<|I 8 c (aU k9)<|I 9 c (aU k9)<|I 10 c (aU k9)<|I 11 c (aU k9)<|I 12 c (aU k9)<|I 13 c (aU k9)<|I 14 c (aU k9)<|I 15 c (aU k9)<|U 16 c (aq c k9 c)<|aV (by kernel_rfl)<|ev_no c c<|bi<|ap<|J c<|p (bo c c)<|O c<|cN (IntKind.i64.wrap (s1 + 1)) H10 (.cons c<|.cons c<|.cons c<|.cons c<|.cons c<|.nil _) .slnil) fun k4 H5=>bi<|end_i (res_0 c) ⟨(),c,H5⟩
def kT (a0:Sl) (a1:Int) (a2:Value) (Rec9:Int->Hp->Prop) (s8:Int) (Rec14:(Int × Int)->Hp->Prop) (s13:Int × Int):Hp->Prop:=br (decide (s13.2 <= a1)) ( cl prog kq [(sv a0),(.int .i64 s13.1),(.int .i64 (IntKind.i64.wrap (s13.1 + s8))),(.int .i64 s13.2),a2] R_ fun (_:Unit)=>Rec14 (s13.2,(IntKind.i64.wrap (s13.2 + (IntKind.i64.wrap (2 * s8)))))) ( br (decide ((IntKind.i64.wrap (s13.1 + s8)) < a1)) ( cl prog kq [(sv a0),(.int .i64 s13.1),(.int .i64 (IntKind.i64.wrap (s13.1 + s8))),(.int .i64 a1),a2] R_ fun (_:Unit)=>Rec9 (IntKind.i64.wrap (s8 * 2))) ( Rec9 (IntKind.i64.wrap (s8 * 2))))
def dm (a0:Sl) (a1:Int) (a2:Value) (K:Unit->Hp->Prop) (Rec9:Int->Hp->Prop) (s8:Int):Hp->Prop:=br (decide (s8 < a1)) ( Lp (kT a0 a1 a2 Rec9 s8) (0,(IntKind.i64.wrap (2 * s8)))) ( K ())
def ff (a0:Sl) (a1:Int) (a2:Value) (K:Unit->Hp->Prop) (Rec2:(Int × Int)->Hp->Prop) (s1:Int × Int):Hp->Prop:=br (decide (s1.2 <= a1)) ( cl prog bY [(sv a0),(.int .i64 s1.1),(.int .i64 s1.2),a2] R_ fun (_:Unit)=>Rec2 (s1.2,(IntKind.i64.wrap (s1.2 + 20)))) ( cl prog bY [(sv a0),(.int .i64 s1.1),(.int .i64 a1),a2] R_ fun (_:Unit)=>Lp (dm a0 a1 a2 K) 20)
def kU (a0:Sl) (a1:Int) (a2:Value) (K:Unit->Hp->Prop):Hp->Prop:=Lp (ff a0 a1 a2 K) (0,20)
theorem rh (a0:Sl) (a1:Int) (a2:Value) {K:Unit->Hp->Prop} {h:Hp} (H:kU a0 a1 a2 K h):Ct prog lx #[(sv a0),(.int .i64 a1),a2] h fun v h'=>∃ r,v = R_ r/\K r h':=ay [(sv a0),(.int .i64 a1),a2] func137 c c c fun _=>M<|O c<|M<|J c<|p (au c)<|O c<|al<|aA<|bE (step:=ff a0 a1 a2 K) (fun s1=>[(0,(sv a0)),(1,(.int .i64 a1)),(2,a2),(6,(.int .i64 20)),(7,(.int .i64 s1.1)),(8,(.int .i64 s1.2))]) (fun s1=>[]) H (.cons c<|.cons c<|.cons c<|.cons c<|.cons c<|.cons c<|.nil _) .slnil fun Rec2 s1 _ H3=>al<|M<|J c<|J c<|p (v_le c c)<|ad<|aw c H3 (fun k4 H5=>ao<|aA<|M<|J c<|J c<|J c<|J c<|aa<|Z H5 en_181 fun r18 _ H6=>ad<|M<|J c<|O c<|ap<|J c<|J c<|p (bo c c)<|O c<|cN (s1.2,(IntKind.i64.wrap (s1.2 + 20))) H6 (.cons c<|.cons c<|.cons c<|.cons c<|.cons c<|.cons c<|.nil _) .slnil) fun k4 H5=>bi<|M<|J c<|J c<|J c<|J c<|aa<|Z H5 en_181 fun r27 _ H7=>ad<|aA<|bE (step:=dm a0 a1 a2 K) (fun s8=>[(0,(sv a0)),(1,(.int .i64 a1)),(2,a2),(6,(.int .i64 s8))]) (fun s8=>[]) H7 (.cons c<|.cons c<|.cons c<|.cons c<|.nil _) .slnil fun Rec9 s8 _ H10=>al<|M<|J c<|J c<|p (cx c c)<|ad<|aw c H10 (fun k11 H12=>ao<|aA<|M<|J c<|p (v_mul c c)<|p (au c)<|O c<|al<|aA<|bE (step:=kT a0 a1 a2 Rec9 s8) (fun s13=>[(0,(sv a0)),(1,(.int .i64 a1)),(2,a2),(6,(.int .i64 s8)),(7,(.int .i64 s13.1)),(8,(.int .i64 s13.2))]) (fun s13=>[]) H12 (.cons c<|.cons c<|.cons c<|.cons c<|.cons c<|.cons c<|.nil _) .slnil fun Rec14 s13 _ H15=>al<|M<|J c<|J c<|p (v_le c c)<|ad<|aw c H15 (fun k16 H17=>ao<|aA<|M<|J c<|J c<|J c<|J c<|p (bo c c)<|J c<|J c<|aa<|Z H17 en_182 fun r43 _ H18=>ad<|M<|J c<|O c<|ap<|J c<|J c<|p (v_mul c c)<|p (bo c c)<|O c<|cN (s13.2,(IntKind.i64.wrap (s13.2 + (IntKind.i64.wrap (2 * s8))))) H18 (.cons c<|.cons c<|.cons c<|.cons c<|.cons c<|.cons c<|.nil _) .slnil) fun k16 H17=>bi<|al<|M<|J c<|J c<|p (bo c c)<|O c<|M<|J c<|J c<|p (cx c c)<|ad<|aw c H17 (fun k19 H20=>ap<|J c<|J c<|J c<|J c<|J c<|aa<|Z H20 en_182 fun r60 _ H21=>ad<|ap<|J c<|p (v_mul c c)<|O c<|cN (IntKind.i64.wrap (s8 * 2)) H21 (.cons c<|.cons c<|.cons c<|.cons c<|.nil _) .slnil) fun k19 H20=>ao<|ap<|J c<|p (v_mul c c)<|O c<|cN (IntKind.i64.wrap (s8 * 2)) H20 (.cons c<|.cons c<|.cons c<|.cons c<|.nil _) .slnil) fun k11 H12=>bi<|end_i (res_0 c) ⟨(),c,H12⟩
def iM (a0:Sl) (a1:Value) (K:Unit->Hp->Prop):Hp->Prop:=cl prog lx [(sv a0),(.int .i64 (a0.len:Int)),a1] R_ fun (_:Unit)=>K ()
theorem og (a0:Sl) (a1:Value) {K:Unit->Hp->Prop} {h:Hp} (H:iM a0 a1 K h):Ct prog fJ #[(sv a0),a1] h fun v h'=>∃ r,v = R_ r/\K r h':=ay [(sv a0),a1] func94 c c c fun _=>ap<|J c<|J c<|p (dz c underlying39 c)<|J c<|aa<|Z H en_137 fun r8 _ H1=>ad<|end_i (res_0 c) ⟨(),c,H1⟩
def jM (a0:Sl) (K:Sl->Hp->Prop):Hp->Prop:=br a0.a.isNone ( K (⟨none,0,0,none⟩:Sl)) ( hpv prog (Instr.buildSlice be 0 #[]) cg fun (v5:Sl)=>hpv prog (Builtin.append_ #[be,be] be #[(sv v5),(sv a0)]) cg fun (v7:Sl)=>K v7)
theorem pY (a0:Sl) {K:Sl->Hp->Prop} {h:Hp} (H:jM a0 K h):Ct prog gF #[(sv a0)] h fun v h'=>∃ r,v = cg r/\K r h':=ay [(sv a0)] func180 c c c fun _=>M<|O c<|al<|M<|J c<|p (v_seqT underlying93 c)<|ad<|aw c H (fun k1 H2=>M<|O c<|aj<|Y ⟨(⟨none,0,0,none⟩:Sl),c,H2⟩) fun k1 H2=>ao<|M<|aa<|aR H2 (bw (vs:=[]) c) c fun v5 _ H3=>J c<|aa<|aR H3 (dE c c) c fun v7 _ H4=>O c<|aj<|Y ⟨v7,c,H4⟩
end
section
open Go Mb
abbrev vI (s:Sl) (xs:List Int):As:=vec km 1 (cI .i64) s xs
def fh (a:Int):List Int->Int->Int
 | [],_=>-1
 | x::xs,i=>if a = x then i else fh a xs (i + 1)
theorem sp_slices_Index (s:Sl) (a:Int) (xs:List Int) (hb:xs.length < 2^62) :
  Sp prog jV [sv s,.int .i64 a] ee [vI s xs] (fun r=>pa_ (r = fh a xs 0) [vI s xs]):=by
 intro h st
 refine uO _ _ ?_
 unfold nL
 refine Lp.intro (fun (i:Int) h=>∃ n:Nat,i = n/\n <= xs.length/\fh a (xs.drop n) n = fh a xs 0/\aF [vI s xs] h) (fun (i:Int) _=>xs.length - i.toNat) ⟨0,rfl,Nat.zero_le _,by simp,st⟩ ?_
 rintro i h ⟨n,rfl,hn,he,st⟩
 have hl:=(cj st (j:=0) rfl).1
 unfold jv
 refine aY (fun k=>?_) (fun k=>?_)
 ·have hlt:n < xs.length:=by simp [hl] at k; exact k
  refine dy st (j:=0) rfl (by omega) (by omega) fun q hq=>?_
  refine eB (j:=0) (i:=n) (k:=0) xs[n] (dh _) st rfl hq (by simp) (aH hlt) (by simp) ?_
  have hd:xs.drop n = xs[n]::xs.drop (n + 1):=List.drop_eq_getElem_cons hlt
  rw [hd] at he
  refine aY (fun k2=>?_) (fun k2=>?_)
  ·have k2':a = xs[n]:=by simpa using k2
   rw [fh,if_pos k2'] at he
   exact ⟨he,st⟩
  ·have k2':¬ a = xs[n]:=by simpa using k2
   rw [fh,if_neg k2'] at he
   have hw:IntKind.i64.wrap ((n:Int) + 1) = ((n + 1:Nat):Int):=by rw [bM (by omega) (by omega)]; rfl
   rw [hw]
   exact ⟨⟨n + 1,rfl,hlt,by simpa using he,st⟩,by simp; omega⟩
 ·have:n = xs.length:=by simp [hl] at k; omega
  subst this
  simp only [List.drop_length,fh] at he
  exact ⟨he,st⟩
def fW (x:Ptr) (p:List Int):As:=fun h=>∃ bs:Nat × Sl,(x = some (bs.1,0)/\p.length <= 16)/\aF [blk bs.1 qC [sv bs.2],vI bs.2 p] h
namespace Pool
def refs (p:List Int) (i:Int):Int:=if i < 0 then 0 else p.getD i.toNat 0
def take (p:List Int):Int × Bool × List Int :=
 if fh 0 p 0 < 0 then (0,false,p) else (fh 0 p 0,true,p.set (fh 0 p 0).toNat 1)
def hold (p:List Int) (i:Int):Bool × List Int :=
 if refs p i = 0\/refs p i >= 7 then (false,p) else (true,p.set i.toNat (IntKind.i64.wrap (refs p i + 1)))
def lets (p:List Int) (i:Int):Int × Bool × List Int :=
 if refs p i = 0 then (0,false,p) else (IntKind.i64.wrap (refs p i - 1),true,p.set i.toNat (IntKind.i64.wrap (refs p i - 1)))
def freeFrom:List Int->Int->List Int
 | [],_=>[]
 | x::xs,i=>if x = 0 then i::freeFrom xs (i + 1) else freeFrom xs (i + 1)
def free (p:List Int):List Int:=freeFrom p 0
end Pool
theorem idx_lt (a:Int):∀ (xs:List Int) (i:Int),fh a xs i = -1\/∃ n:Nat,n < xs.length/\fh a xs i = i + n
 | [],_=>.inl rfl
 | x::xs,i=>by
  unfold fh
  split
  ·exact .inr ⟨0,by simp,by simp⟩
  ·rcases idx_lt a xs (i + 1) with h | ⟨n,h1,h2⟩
   ·exact .inl h
   ·exact .inr ⟨n + 1,by simp; omega,by rw [h2]; omega⟩
theorem pool_op {x:Ptr} {p:List Int} {l:List As} {h:Hp} (s0:aF (fW x p::l) h):∃ b s,x = some (b,0)/\p.length <= 16/\s.len = p.length/\aF (blk b qC [sv s]::vI s p::l) h:=by
 obtain ⟨⟨b,s⟩,⟨hx,hb⟩,st⟩:=op_ s0
 exact ⟨b,s,hx,hb,(cj (j:=1) st rfl).1,st⟩
theorem sd {b:Nat} {s:Sl} {p:List Int} {l:List As} {h:Hp} (hb:p.length <= 16) (st:aF (blk b qC [sv s]::vI s p::l) h):aF (fW (some (b,0)) p::l) h:=cl_ (b,s) ⟨rfl,hb⟩ st
theorem sp_pool_New (n:Int) (h1:¬ n < 1) (h2:¬ n > 16):Sp prog xi [.int .i64 n] sw [] (fun r=>aF [fW r (List.replicate n.toNat 0)]):=by
 intro h st
 refine sim_pool_New _ ?_
 unfold sh_pool_New
 obtain ⟨m,rfl⟩:=Int.eq_ofNat_of_zero_le (show 0 <= n by omega)
 refine dn (by simp; omega) ?_
 refine nS (τ:=Int) (x0:=0) (enc:=cI .i64) (n:=m) (T:=km) (m:=1) el_Sint rfl st ?_ ?_ ?_
 ·omega
 ·omega
 ·intro v h' s1
  refine pw s1 fun b h'' s2=>?_
  exact sd (by simp; omega) s2
theorem wA (x:Ptr) (p:List Int) (i:Int):Sp prog jy [pv x,.int .i64 i] ee [fW x p] (fun r=>pa_ (r = Pool.refs p i) [fW x p]):=by
 intro h s0
 obtain ⟨b,s,rfl,hb,hl,st⟩:=pool_op s0
 refine sim_pool_Pool_Refs _ _ ?_
 unfold tV
 refine aY (fun k=>?_) (fun k=>?_)
 ·have h0:0 <= i:=by simpa using k
  obtain ⟨n,rfl⟩:=Int.eq_ofNat_of_zero_le h0
  refine cD ?_
  refine bk s st (i:=0) rfl rfl rfl ?_
  refine aY (fun k2=>?_) (fun k2=>?_)
  ·have:p.length <= n:=by rw [hl] at k2; simpa using k2
   exact aX (by simp [Pool.refs,this]) (sd hb st)
  ·have hlt:n < p.length:=by rw [hl] at k2; simpa using k2
   refine bk s st (i:=0) rfl rfl rfl ?_
   refine dy st (j:=1) rfl (by omega) (by omega) fun q hq=>?_
   refine eB (j:=1) (i:=n) (k:=0) p[n] (dh _) st rfl hq (by simp) (aH hlt) (by simp) ?_
   refine aX ?_ (sd hb st)
   have:¬ ((n:Int) < 0):=by omega
   simp [Pool.refs,hlt,this]
 ·have h0:i < 0:=by simpa using k
  exact aX (by simp [Pool.refs,h0]) (sd hb st)
theorem wz (x:Ptr) (p:List Int):Sp prog jx [pv x] bL [fW x p] (fun r=>pa_ (r = ((Pool.take p).1,(Pool.take p).2.1)) [fW x (Pool.take p).2.2]):=by
 intro h s0
 obtain ⟨b,s,rfl,hb,hl,st⟩:=pool_op s0
 refine sim_pool_Pool_Take _ ?_
 unfold tU
 refine dn rfl (cD ?_)
 refine bk s st (i:=0) rfl rfl rfl ?_
 refine cQ [1] (sp_slices_Index s 0 p (by omega)) st rfl fun r h' s1=>?_
 obtain ⟨hr,s2⟩:=bt.1 s1
 subst hr
 refine aY (fun k=>?_) (fun k=>?_)
 ·have k':fh 0 p 0 < 0:=by simpa using k
  have e:Pool.take p = (0,false,p):=if_pos k'
  rw [e]
  exact aX rfl (sd hb (bd [1] s2 rfl))
 ·have k':¬ fh 0 p 0 < 0:=by simpa using k
  have e0:Pool.take p = (fh 0 p 0,true,p.set (fh 0 p 0).toNat 1):=if_neg k'
  rw [e0]
  rcases idx_lt 0 p 0 with e | ⟨n,h1,e⟩
  ·omega
  ·rw [Int.zero_add] at e
   refine bk s s2 (i:=1) rfl rfl rfl ?_
   rw [e]
   refine dy s2 (j:=0) rfl (by omega) (by omega) fun q hq=>?_
   refine st_v (j:=0) (i:=n) (k:=0) (1:Int) (dh _) s2 rfl hq (by simp) (aH h1) (by simp) rfl fun h2 s3=>?_
   exact aX rfl (sd (by simpa using hb) (bd [1] s3 rfl))
theorem refs_get {p:List Int} {i:Int} (h:Pool.refs p i ≠ 0):∃ n:Nat,i = n/\∃ hn:n < p.length,Pool.refs p i = p[n]:=by
 unfold Pool.refs at h ⊢
 by_cases h0:i < 0
 ·rw [if_pos h0] at h; exact absurd rfl h
 ·rw [if_neg h0] at h ⊢
  obtain ⟨n,rfl⟩:=Int.eq_ofNat_of_zero_le (show 0 <= i by omega)
  refine ⟨n,rfl,?_⟩
  by_cases hn:n < p.length
  ·exact ⟨hn,by simp [hn]⟩
  ·simp [List.getD_eq_getElem?_getD,List.getElem?_eq_none (Nat.le_of_not_lt hn)] at h
theorem sp_pool_Hold (x:Ptr) (p:List Int) (i:Int):Sp prog lX [pv x,.int .i64 i] aC [fW x p] (fun r=>pa_ (r = (Pool.hold p i).1) [fW x (Pool.hold p i).2]):=by
 intro h s0
 refine sim_pool_Pool_Hold _ _ ?_
 unfold tW
 refine cQ [0] (wA x p i) s0 rfl fun r h' s1=>?_
 obtain ⟨hr,s2⟩:=bt.1 s1
 subst hr
 refine aY (fun k=>?_) (fun k=>?_)
 ·have k':Pool.refs p i = 0\/Pool.refs p i >= 7:=by simpa using k
  have e:Pool.hold p i = (false,p):=if_pos k'
  rw [e]
  exact aX rfl s2
 ·have k':¬ (Pool.refs p i = 0\/Pool.refs p i >= 7):=by simpa using k
  have e:Pool.hold p i = (true,p.set i.toNat (IntKind.i64.wrap (Pool.refs p i + 1))):=if_neg k'
  rw [e]
  obtain ⟨n,rfl,hn,hg⟩:=refs_get (p:=p) (i:=i) (by omega)
  obtain ⟨b,s,rfl,hb,hl,st⟩:=pool_op s2
  refine cD ?_
  refine bk s st (i:=0) rfl rfl rfl ?_
  refine dy st (j:=1) rfl (by omega) (by omega) fun q hq=>?_
  refine eB (j:=1) (i:=n) (k:=0) p[n] (dh _) st rfl hq (by simp) (aH hn) (by simp) ?_
  refine st_v (j:=1) (i:=n) (k:=0) (IntKind.i64.wrap (p[n] + 1)) (dh _) st rfl hq (by simp) (aH hn) (by simp) rfl fun h2 s3=>?_
  rw [hg]
  exact aX rfl (sd (by simpa using hb) s3)
theorem sp_pool_Let (x:Ptr) (p:List Int) (i:Int):Sp prog ni [pv x,.int .i64 i] bL [fW x p] (fun r=>pa_ (r = ((Pool.lets p i).1,(Pool.lets p i).2.1)) [fW x (Pool.lets p i).2.2]):=by
 intro h s0
 refine sim_pool_Pool_Let _ _ ?_
 unfold vt
 refine cQ [0] (wA x p i) s0 rfl fun r h' s1=>?_
 obtain ⟨hr,s2⟩:=bt.1 s1
 subst hr
 refine aY (fun k=>?_) (fun k=>?_)
 ·have k':Pool.refs p i = 0:=by simpa using k
  have e:Pool.lets p i = (0,false,p):=if_pos k'
  rw [e]
  exact aX rfl s2
 ·have k':¬ (Pool.refs p i = 0):=by simpa using k
  have e:Pool.lets p i = (IntKind.i64.wrap (Pool.refs p i - 1),true,p.set i.toNat (IntKind.i64.wrap (Pool.refs p i - 1))):=if_neg k'
  rw [e]
  obtain ⟨n,rfl,hn,hg⟩:=refs_get (p:=p) (i:=i) k'
  obtain ⟨b,s,rfl,hb,hl,st⟩:=pool_op s2
  refine cD ?_
  refine bk s st (i:=0) rfl rfl rfl ?_
  refine dy st (j:=1) rfl (by omega) (by omega) fun q hq=>?_
  refine eB (j:=1) (i:=n) (k:=0) p[n] (dh _) st rfl hq (by simp) (aH hn) (by simp) ?_
  refine st_v (j:=1) (i:=n) (k:=0) (IntKind.i64.wrap (p[n] - 1)) (dh _) st rfl hq (by simp) (aH hn) (by simp) rfl fun h2 s3=>?_
  refine bk s s3 (i:=0) rfl rfl rfl ?_
  refine dy s3 (j:=1) rfl (by omega) (by simp; omega) fun q2 hq2=>?_
  refine eB (j:=1) (i:=n) (k:=0) (IntKind.i64.wrap (p[n] - 1)) (dh _) s3 rfl hq2 (by simp) (x:=IntKind.i64.wrap (p[n] - 1)) (by simp [hn]) (by simp) ?_
  rw [hg]
  exact aX rfl (sd (by simpa using hb) s3)
theorem free_append:∀ (xs:List Int) (i:Int) (x:Int),Pool.freeFrom (xs++[x]) i = Pool.freeFrom xs i++(if x = 0 then [i + xs.length] else [])
 | [],i,x=>by simp only [List.nil_append,Pool.freeFrom]; split <;> simp
 | y::xs,i,x=>by
  simp only [List.cons_append,Pool.freeFrom]
  rw [free_append xs (i + 1) x]
  have e:i + 1 + (xs.length:Int) = i + ((y::xs).length:Int):=by simp; omega
  rw [e]
  split <;> simp
theorem free_len:∀ (xs:List Int) (i:Int),(Pool.freeFrom xs i).length <= xs.length
 | [],_=>Nat.le_refl _
 | x::xs,i=>by unfold Pool.freeFrom; have:=free_len xs (i + 1); split <;> simp <;> omega
theorem wk {l:List As} {h:Hp} {i:Nat} {s:Sl} {xs:List Int} {x:Int} {K:Sl->Hp->Prop} (st:aF l h) (hi:l[i]? = some (vI s xs)) (hb:xs.length < 2 ^ 40)
  (k:∀ v h',aF (l.set i (vI v (xs++[x]))) h'->K v h'):hpv prog (Instr.buildSlice dG 1 #[(0,.int .i64 x)]) cC (fun y=>hpv prog (Builtin.append_ #[dG,dG] dG #[sv s,sv y]) cC K) h:=by
 refine fy (τ:=Int) [x] (val:=fun x=>.int .i64 x) (enc:=cI .i64) el_Sint (dh _) (fun _=>rfl) st rfl rfl (by simp) fun y h' s1=>?_
 have hlt:=(List.getElem?_eq_some_iff.1 hi).1
 refine tH (τ:=Int) (i:=i + 1) (j:=0) (enc:=cI .i64) (ys:=[x]) el_Sint el_Sint.sl (dh _) (oneI _) s1 (by simpa using hi) rfl (by omega) (by simp; omega) (by simp; omega) fun v h2 s2=>?_
 exact k v h2 (ce (l:=[vI y [x]]) (by simpa using s2))
theorem sp_pool_Free (x:Ptr) (p:List Int):Sp prog lY [pv x] cC [fW x p] (fun r=>aF [vI r (Pool.free p),fW x p]):=by
 intro h s0
 obtain ⟨b,s,rfl,hb,hl,st⟩:=pool_op s0
 refine sim_pool_Pool_Free _ ?_
 unfold tX
 refine dn rfl (cD ?_)
 refine bk s st (i:=0) rfl rfl rfl ?_
 refine Lp.intro (fun (z:Sl × Int) h=>∃ n:Nat,z.2 = n/\n <= p.length/\aF [vI z.1 (Pool.freeFrom (p.take n) 0),blk b qC [sv s],vI s p] h) (fun (z:Sl × Int) _=>p.length - z.2.toNat) ⟨0,rfl,Nat.zero_le _,fN st⟩ ?_
 rintro ⟨z,i⟩ h ⟨n,rfl,hn,s1⟩
 unfold oJ
 refine aY (fun k=>?_) (fun k=>?_)
 ·have hlt:n < p.length:=by rw [hl] at k; simpa using k
  have hw:IntKind.i64.wrap ((n:Int) + 1) = ((n + 1:Nat):Int):=by rw [bM (by omega) (by omega)]; rfl
  have ht:p.take (n + 1) = p.take n++[p[n]]:=by simp
  have hlen:((p.take n).length:Int) = n:=by simp; omega
  refine dy s1 (j:=2) rfl (by omega) (by show (n:Int) < _; omega) fun q hq=>?_
  refine eB (j:=2) (i:=n) (k:=0) p[n] (dh _) s1 rfl hq (by simp) (aH hlt) (by simp) ?_
  refine aY (fun k2=>?_) (fun k2=>?_)
  ·have k2':p[n] = 0:=by simpa using k2
   refine wk s1 (i:=0) rfl ?_ fun v h' s2=>?_
   ·have:=free_len (p.take n) 0; simp at this ⊢; omega
   ·rw [hw]
    refine ⟨⟨n + 1,rfl,hlt,?_⟩,by simp; omega⟩
    rw [ht,free_append,if_pos k2',hlen,Int.zero_add]
    exact s2
  ·have k2':¬ p[n] = 0:=by simpa using k2
   rw [hw]
   refine ⟨⟨n + 1,rfl,hlt,?_⟩,by simp; omega⟩
   rw [ht,free_append,if_neg k2',List.append_nil]
   exact s1
 ·have:n = p.length:=by rw [hl] at k; simp at k; omega
  subst this
  rw [List.take_length] at s1
  exact kz (.cons _ (.refl _)) (bd (l:=[vI z (Pool.freeFrom p 0),fW (some (b,0)) p]) [0] (by
   have:=bd [1,1] s1 rfl
   exact bd [1] (sd hb this) rfl) rfl)
def Pool.bitsOf (w:Int):List Int->Int
 | []=>w
 | i::l=>Pool.bitsOf (ior .u64 w (IntKind.u64.wrap (1 * 2 ^ (min (Int.toNat i) (IntKind.bits .u64))))) l
def Pool.bits (p:List Int):Int:=Pool.bitsOf 0 (Pool.free p)
theorem free_ge:∀ (xs:List Int) (i:Int),0 <= i->∀ j ∈ Pool.freeFrom xs i,0 <= j
 | [],_,_,_,h=>by cases h
 | x::xs,i,hi,j,h=>by
  unfold Pool.freeFrom at h
  split at h
  ·rcases List.mem_cons.1 h with rfl | h
   ·exact hi
   ·exact free_ge xs (i + 1) (by omega) j h
  ·exact free_ge xs (i + 1) (by omega) j h
theorem bits_append (a:Int):∀ (l:List Int) (w:Int),Pool.bitsOf w (l++[a]) = ior .u64 (Pool.bitsOf w l) (IntKind.u64.wrap (1 * 2 ^ (min (Int.toNat a) (IntKind.bits .u64))))
 | [],_=>rfl
 | _::l,w=>by simp only [List.cons_append,Pool.bitsOf]; exact bits_append a l _
theorem sp_pool_Bits (x:Ptr) (p:List Int):Sp prog qb [pv x] gO [fW x p] (fun r=>pa_ (r = Pool.bits p) [fW x p]):=by
 intro h s0
 have hp16:p.length <= 16:=by obtain ⟨_,_,_,hb,_⟩:=pool_op s0; exact hb
 refine sim_pool_Pool_Bits _ ?_
 unfold tY
 refine cQ [0] (sp_pool_Free x p) s0 rfl fun r h1 s1=>?_
 have s2:=dB s1
 have hl:=(cj (j:=0) s2 rfl).1
 have hfl:=free_len p 0
 refine Lp.intro (fun (z:Int × Int) h=>∃ n:Nat,z.2 = n/\n <= (Pool.free p).length/\z.1 = Pool.bitsOf 0 ((Pool.free p).take n)/\aF [vI r (Pool.free p),fW x p] h) (fun (z:Int × Int) _=>(Pool.free p).length - z.2.toNat) ⟨0,rfl,Nat.zero_le _,rfl,s2⟩ ?_
 rintro ⟨w,i⟩ h ⟨n,rfl,hn,rfl,s3⟩
 unfold oK
 refine aY (fun k=>?_) (fun k=>?_)
 ·have hlt:n < (Pool.free p).length:=by rw [hl] at k; simpa using k
  have hw:IntKind.i64.wrap ((n:Int) + 1) = ((n + 1:Nat):Int):=by
   have:(Pool.free p).length <= 16:=by unfold Pool.free; omega
   rw [bM (by omega) (by omega)]; rfl
  refine dy s3 (j:=0) rfl (by omega) (by show (n:Int) < _; omega) fun q hq=>?_
  refine eB (j:=0) (i:=n) (k:=0) (Pool.free p)[n] (dh _) s3 rfl hq (by simp) (aH hlt) (by simp) ?_
  refine ⟨free_ge p 0 (Int.le_refl _) _ (List.getElem_mem hlt),?_⟩
  rw [hw]
  refine ⟨⟨n + 1,rfl,hlt,?_,s3⟩,by simp; omega⟩
  have ht:(Pool.free p).take (n + 1) = (Pool.free p).take n++[(Pool.free p)[n]]:=by simp
  rw [ht,bits_append]
 ·have:n = (Pool.free p).length:=by rw [hl] at k; simp at k; omega
  subst this
  refine aX ?_ (ce (l:=[vI r (Pool.free p)]) s3)
  rw [List.take_length]; rfl
end
section
open Go Mb
set_option linter.unusedVariables false
def sh_table_New (K:Ptr->Hp->Prop):Hp->Prop:=hpv prog (Instr.build ky #[]) encL fun (v1:(List Value))=>nw ky v1 fun b2=>K (some (b2,0))
theorem sim_table_New {K:Ptr->Hp->Prop} {h:Hp} (H:sh_table_New K h):Ct prog lw #[] h fun v h'=>∃ r,v = iu r/\K r h':=ay [] func107 c c c fun _=>M<|O c<|M<|aa<|aR H (x_build (vs:=[]) c) c fun v1 _ H1=>aa<|hY c c c H1 fun b2 _ H2=>O c<|aj<|Y ⟨some (b2,0),c,H2⟩
def iL (a0:Ptr) (a1:Int) (K:(an × Bool)->Hp->Prop) (s1:Bool):Hp->Prop:=br s1 ( K ((⟨0,0,0⟩:an),false)) ( nn a0 fun q26=>gd (0 <= a1/\a1 < 8)<|ld (q26.1,q26.2 + 0 + Int.toNat a1 * 3) an.C fun x29=>K (x29,true))
def tT (a0:Ptr) (a1:Int) (K:(an × Bool)->Hp->Prop):Hp->Prop:=br (!(a0.isNone || (!(bu a1)))) ( nn a0 fun q16=>gd (0 <= a1/\a1 < 8)<|ld (q16.1,q16.2 + 0 + Int.toNat a1 * 3 + 2) (cI .i64) fun x20=>iL a0 a1 K (x20 == 0)) ( iL a0 a1 K true)
theorem sim_table_Table_At (a0:Ptr) (a1:Int) {K:(an × Bool)->Hp->Prop} {h:Hp} (H:tT a0 a1 K h):Ct prog eV #[(pv a0),(.int .i64 a1)] h fun v h'=>∃ r,v = cA r/\K r h':=ay [(pv a0),(.int .i64 a1)] func135 c c c fun _=>M<|aa<|aM (l:=an.C (⟨0,0,0⟩:an)) ga c c fun b4=>O c<|al<|eG (iL a0 a1 K) (fun s1=>[(0,(pv a0)),(1,(.int .i64 a1)),(4,(.pointer (some ⟨b4,0,none⟩))),(22,(.bool s1))]) (fun s1=>[bx b4 79 (an.C (⟨0,0,0⟩:an))]) (ap<|J c<|p (cq underlying161 c)<|J c<|V c c (aL _) (fun g10=>wv<|ah c)<|cZ (vs:=[(.int .i64 a1)]) c c c (aL _) (fun g11=>bz<|uF a1 _) en_156 (fun g11=>aS (aD c g11) bR) c<|V c c (aL _) (fun g12=>wv<|cr<|aD c g12)<|p (dp c c)<|J c<|V c c (aL _) (fun g13=>wv<|ah c)<|V c c (aL _) (fun g14=>wv<|ah c)<|bS H (fun k16 H17=>bG H17 fun q16 e18 H19=>F (D<|bW k16)<|R (aJ<|aN (aD c k16)<|ar e18)<|F (D<|bW k16)<|R (ae kB c)<|iD H19 fun h20 H21=>F (D<|bW k16)<|R (bB xF c (aD c k16) h20)<|F (D<|bW k16)<|R (ae eM c)<|F (D<|bW k16)<|aW H21 aZ c (fun _=>c) c fun x20 H22=>F (D<|bW k16)<|R (bQ c c)<|p (aq c (bW k16) c)<|ad<|cM (x20 == 0) H22 (.cons c<|.cons c<|.cons c<|.cons c<|.nil _)<|.cons_cons _ .slnil) fun k16 H17=>W (cf<|bH k16)<|W (cf<|bH k16)<|W (cf<|bH k16)<|W (cf<|bH k16)<|W (cf<|bH k16)<|W (cf<|bH k16)<|p (aT c (bH k16) c)<|ad<|cM true H17 (.cons c<|.cons c<|.cons c<|.cons c<|.nil _)<|.cons_cons _ .slnil) fun s1 _ H2=>aw c H2 (fun k3 H4=>M<|p (ba (vs:=[]) c na)<|aa<|aP (k:=0) (vs:=an.C (⟨0,0,0⟩:an)) dP c c c c c c c<|O c<|aj<|bv (bN c (bC (k:=0) c fG c c)<|cc c) ⟨((⟨0,0,0⟩:an),false),c,H4⟩) fun k3 H4=>ao<|M<|J c<|J c<|bG H4 fun q26 e5 H6=>p (aJ<|aN c<|ar e5)<|p (ae kB c)<|iD H6 fun h7 H8=>p (bB xF c c h7)<|aa<|gP H8 fG c (fun _=>c) c fun x29 H9=>aa<|aP (k:=0) (vs:=an.C x29) dP c c c c c c c<|O c<|aj<|bv (bN c (bC (k:=0) c fG c c)<|cc c) ⟨(x29,true),c,H9⟩
def pz (a0:Ptr) (a1:Int) (a2:an) (K:Int->Hp->Prop):Hp->Prop:=br a0.isNone ( K 10) ( br (((!(eQ a2).2) || (a2.fBa == 0)) || (!(bu a1))) ( K 2) ( nn a0 fun q30=>gd (0 <= a1/\a1 < 8)<|ld (q30.1,q30.2 + 0 + Int.toNat a1 * 3 + 2) (cI .i64) fun x34=>br (x34 != 0) ( K 4) ( st (q30.1,q30.2 + 0 + Int.toNat a1 * 3) (an.C a2)<|K 0)))
theorem wG (a0:Ptr) (a1:Int) (a2:an) {K:Int->Hp->Prop} {h:Hp} (H:pz a0 a1 a2 K h):Ct prog dX #[(pv a0),(.int .i64 a1),(.agg (an.C a2).toArray)] h fun v h'=>∃ r,v = bc r/\K r h':=ay [(pv a0),(.int .i64 a1),(.agg (an.C a2).toArray)] func112 c c c fun _=>M<|aa<|cO (l:=an.C a2) c c c fun b5=>O c<|al<|M<|J c<|p (cq underlying161 c)<|ad<|aw c H (fun k1 H2=>M<|O c<|aj<|Y ⟨10,c,H2⟩) fun k1 H2=>ao<|al<|M<|bh (bF (k:=0) fG c c c c) c<|aa<|cK (vs:=[(.agg (an.C a2).toArray)]) (bz<|ct_pte_Put a2 _) en_155 c c<|J c<|p (ak c c)<|p (ak c c)<|p (au c)<|O c<|M<|J c<|p (cr c)<|J c<|V c c (aL _) (fun g3=>wv<|ae eM c)<|V c c (aL _) (fun g4=>cv<|bf (k:=0) aZ (aD c g4) c c)<|V c c (aL _) (fun g5=>wv<|bQ (aD c g5) c)<|p (dp c c)<|J c<|V c c (aL _) (fun g6=>wv<|ah c)<|cZ (vs:=[(.int .i64 a1)]) c c c (aL _) (fun g7=>bz<|uF a1 _) en_156 (fun g7=>aS (aD c g7) bR) c<|V c c (aL _) (fun g8=>wv<|cr<|aD c g8)<|p (dp c c)<|ad<|aw c H2 (fun k9 H10=>M<|O c<|aj<|Y ⟨2,c,H10⟩) fun k9 H10=>ao<|al<|M<|J c<|J c<|bG H10 fun q30 e11 H12=>p (aJ<|aN c<|ar e11)<|p (ae kB c)<|iD H12 fun h13 H14=>p (bB xF c c h13)<|p (ae eM c)<|aa<|aW H14 aZ c (fun _=>c) c fun x34 H15=>p (pt c c)<|ad<|aw c H15 (fun k16 H17=>M<|O c<|aj<|Y ⟨4,c,H17⟩) fun k16 H17=>ao<|al<|bn (n:=7) [bx b5 79 (an.C a2)] cu c (.cons_cons _ .slnil)<|U 0 c (ah<|aN c<|ar e11)<|U 1 c (ah c)<|z_E 2 c (eo (k:=0) fG c c c c)<|U 3 c (aJ c)<|U 4 c (ae kB c)<|U 5 c (bB xF c c h13)<|G 6 c<|dw dP c c c c c H17 fun _ H18=>⟨.cons_cons _ .slnil,aV (by kernel_rfl)<|M<|O c<|aj<|Y ⟨0,c,H18⟩⟩
def py (a0:Ptr) (a1:Int) (K:(an × Int)->Hp->Prop):Hp->Prop:=br a0.isNone ( K ((⟨0,0,0⟩:an),10)) ( br (!(bu a1)) ( K ((⟨0,0,0⟩:an),2)) ( nn a0 fun q19=>gd (0 <= a1/\a1 < 8)<|ld (q19.1,q19.2 + 0 + Int.toNat a1 * 3 + 2) (cI .i64) fun x23=>br (x23 == 0) ( K ((⟨0,0,0⟩:an),3)) ( ld (q19.1,q19.2 + 0 + Int.toNat a1 * 3) an.C fun x31=>st (q19.1,q19.2 + 0 + Int.toNat a1 * 3) (an.C (⟨0,0,0⟩:an))<|K (x31,0))))
theorem wF (a0:Ptr) (a1:Int) {K:(an × Int)->Hp->Prop} {h:Hp} (H:py a0 a1 K h):Ct prog iT #[(pv a0),(.int .i64 a1)] h fun v h'=>∃ r,v = jt r/\K r h':=ay [(pv a0),(.int .i64 a1)] func128 c c c fun _=>M<|aa<|aM (l:=an.C (⟨0,0,0⟩:an)) ga c c fun b4=>O c<|al<|aA<|M<|J c<|p (cq underlying161 c)<|O c<|aw c H (fun k1 H2=>M<|p (ba (vs:=[]) c na)<|aa<|aP (k:=0) (vs:=an.C (⟨0,0,0⟩:an)) dP c c c c c c c<|O c<|aj<|bv (bN c (bC (k:=0) c fG c c)<|cc c) ⟨((⟨0,0,0⟩:an),10),c,H2⟩) fun k1 H2=>M<|J c<|aa<|cK (vs:=[(.int .i64 a1)]) (bz<|uF a1 _) en_156 c c<|p (cr c)<|O c<|aw c H2 (fun k3 H4=>M<|p (ba (vs:=[]) c na)<|aa<|aP (k:=0) (vs:=an.C (⟨0,0,0⟩:an)) dP c c c c c c c<|O c<|aj<|bv (bN c (bC (k:=0) c fG c c)<|cc c) ⟨((⟨0,0,0⟩:an),2),c,H4⟩) fun k3 H4=>M<|J c<|J c<|bG H4 fun q19 e5 H6=>p (aJ<|aN c<|ar e5)<|p (ae kB c)<|iD H6 fun h7 H8=>p (bB xF c c h7)<|p (ae eM c)<|aa<|aW H8 aZ c (fun _=>c) c fun x23 H9=>p (bQ c c)<|O c<|aw c H9 (fun k10 H11=>M<|p (ba (vs:=[]) c na)<|aa<|aP (k:=0) (vs:=an.C (⟨0,0,0⟩:an)) dP c c c c c c c<|O c<|aj<|bv (bN c (bC (k:=0) c fG c c)<|cc c) ⟨((⟨0,0,0⟩:an),3),c,H11⟩) fun k10 H11=>ao<|M<|J (aN c<|ar e5)<|J c<|p (aJ c)<|p (ae kB c)<|p (bB xF c c h7)<|aa<|gP H11 fG c (fun _=>c) c fun x31 H12=>aa<|aM (l:=an.C (⟨0,0,0⟩:an)) ga c c fun b6=>aa<|aP (k:=0) (vs:=an.C x31) dP c c c c c c c<|ad<|M<|J (aN c<|ar e5)<|J c<|p (ba (vs:=[]) c na)<|p (aJ c)<|p (ae kB c)<|p (bB xF c c h7)<|aa<|dw dP c c c c c H12 fun _ H13=>ad<|M<|bh (bF (k:=0) fG c c c c) c<|aa<|aP (k:=1) (vs:=an.C x31) dP c c c c c c c<|O c<|aj<|bv (bN c (bC (k:=1) c fG c c)<|cc c) ⟨(x31,0),c,H13⟩
def ol (a1:Int) (K:Sl->Hp->Prop) (v13:(List Value)) (Rec8:(Sl × Int)->Hp->Prop) (s7:Sl × Int):Hp->Prop:=br (decide (s7.2 < 8)) ( hpv prog (Instr.index tR (.agg v13.toArray) (.int .i64 s7.2)) wn fun (v17:an)=>br ((v17.fBa != 0) && (v17.fDa == a1)) ( hpv prog (Instr.buildSlice dG 1 #[(0,(.int .i64 s7.2))]) cC fun (v29:Sl)=>hpv prog (Builtin.append_ #[dG,dG] dG #[(sv s7.1),(sv v29)]) cC fun (v30:Sl)=>Rec8 (v30,(IntKind.i64.wrap (s7.2 + 1)))) ( Rec8 (s7.1,(IntKind.i64.wrap (s7.2 + 1))))) ( K s7.1)
def tS (a0:Ptr) (a1:Int) (K:Sl->Hp->Prop):Hp->Prop:=br a0.isNone ( K (⟨none,0,0,none⟩:Sl)) ( nn a0 fun q11=>hpv prog (Instr.loadAt tR (.pointer (some ⟨q11.1,q11.2 + 0,none⟩))) encL fun (v13:(List Value))=>Lp (ol a1 K v13) ((⟨none,0,0,none⟩:Sl),0))
theorem sim_table_Table_By (a0:Ptr) (a1:Int) {K:Sl->Hp->Prop} {h:Hp} (H:tS a0 a1 K h):Ct prog lW #[(pv a0),(.int .i64 a1)] h fun v h'=>∃ r,v = cC r/\K r h':=ay [(pv a0),(.int .i64 a1)] func176 c c c fun _=>M<|O c<|al<|M<|J c<|p (cq underlying161 c)<|ad<|aw c H (fun k1 H2=>M<|O c<|aj<|Y ⟨(⟨none,0,0,none⟩:Sl),c,H2⟩) fun k1 H2=>ao<|M<|O c<|al<|M<|J c<|bG H2 fun q11 e3 H4=>p (aJ<|aN c<|ar e3)<|p (ae kB c)<|aa<|aR H4 (x_load c) c fun v13 _ H6=>J c<|ad<|aA<|bE (step:=ol a1 K v13) (fun s7=>[(1,(.int .i64 a1)),(5,(sv s7.1)),(13,(.agg v13.toArray)),(14,(.int .i64 s7.2))]) (fun s7=>[]) H6 (.cons c<|.cons c<|.cons c<|.cons c<|.nil _) .slnil fun Rec8 s7 _ H9=>M<|p (cx c c)<|ad<|al<|aw c H9 (fun k10 H11=>ao<|al<|aA<|M<|J c<|aa<|aR H11 (x_index c c) c fun v17 _ H12=>aa<|aM (l:=an.C (⟨0,0,0⟩:an)) ga c c fun b7=>p (au c)<|aa<|aP (k:=0) (vs:=an.C v17) dP c c c c c c c<|ad<|M<|p (ae eM c)<|bh (bf (k:=0) aZ c c c) c<|p (pt c c)<|J c<|V c c (aB _) (fun g13=>wv<|ae tu c)<|V c c (aB _) (fun g14=>cv<|bf (k:=0) aZ (aD c g14) c c)<|V c c (aB _) (fun g15=>wv<|ah c)<|V c c (aB _) (fun g16=>wv<|bQ (aD c g16)<|aD c g16)<|p (bT c c)<|ad<|aw c H12 (fun k17 H18=>ap<|J c<|J c<|aa<|aR H18 (bw (vs:=[(.int .i64 s7.2)]) c) c fun v29 _ H19=>aa<|aR H19 (dE c c) c fun v30 _ H20=>O c<|ap<|p (bo c c)<|J c<|ad<|cN (v30,(IntKind.i64.wrap (s7.2 + 1))) H20 (.cons c<|.cons c<|.cons c<|.cons c<|.nil _)<|.cons _ .slnil) fun k17 H18=>ao<|ap<|p (bo c c)<|J c<|ad<|cN (s7.1,(IntKind.i64.wrap (s7.2 + 1))) H18 (.cons c<|.cons c<|.cons c<|.cons c<|.nil _)<|.cons _ .slnil) fun k10 H11=>bi<|M<|J c<|O c<|aj<|Y ⟨s7.1,c,H11⟩
def oy (a0:Ptr) (a1:Int) (a2:Int) (K:Int->Hp->Prop):Hp->Prop:=br a0.isNone ( K 10) ( br ((!(bu a1)) || (!(ch a2))) ( K 2) ( nn a0 fun q22=>gd (0 <= a1/\a1 < 8)<|ld (q22.1,q22.2 + 0 + Int.toNat a1 * 3 + 2) (cI .i64) fun x26=>br (x26 == 0) ( K 3) ( st (q22.1,q22.2 + 0 + Int.toNat a1 * 3 + 2) [.int .i64 a2]<|K 0)))
theorem vg (a0:Ptr) (a1:Int) (a2:Int) {K:Int->Hp->Prop} {h:Hp} (H:oy a0 a1 a2 K h):Ct prog kF #[(pv a0),(.int .i64 a1),(.int .i64 a2)] h fun v h'=>∃ r,v = bc r/\K r h':=ay [(pv a0),(.int .i64 a1),(.int .i64 a2)] func178 c c c fun _=>M<|O c<|al<|aA<|M<|J c<|p (cq underlying161 c)<|O c<|aw c H (fun k1 H2=>M<|O c<|aj<|Y ⟨10,c,H2⟩) fun k1 H2=>M<|J c<|aa<|cK (vs:=[(.int .i64 a1)]) (bz<|uF a1 _) en_156 c c<|p (cr c)<|J c<|V c c (aL _) (fun g3=>wv<|ah c)<|cZ (vs:=[(.int .i64 a2)]) c c c (aL _) (fun g4=>bz<|ql a2 _) en_166 (fun g4=>aS (aD c g4) bR) c<|V c c (aL _) (fun g5=>wv<|cr<|aD c g5)<|p (dp c c)<|O c<|aw c H2 (fun k6 H7=>M<|O c<|aj<|Y ⟨2,c,H7⟩) fun k6 H7=>M<|J c<|J c<|bG H7 fun q22 e8 H9=>p (aJ<|aN c<|ar e8)<|p (ae kB c)<|iD H9 fun h10 H11=>p (bB xF c c h10)<|p (ae eM c)<|aa<|aW H11 aZ c (fun _=>c) c fun x26 H12=>p (bQ c c)<|O c<|aw c H12 (fun k13 H14=>M<|O c<|aj<|Y ⟨3,c,H14⟩) fun k13 H14=>ao<|M<|J (aN c<|ar e8)<|J c<|J c<|p (aJ c)<|p (ae kB c)<|p (bB xF c c h10)<|p (ae eM c)<|aa<|dw qU c c c c c H14 fun _ H15=>ad<|M<|O c<|aj<|Y ⟨0,c,H15⟩
end
section
open Go Mb
abbrev Pte:=an
theorem jp (p:Pte):p.C.length = 3:=rfl
abbrev dc:Pte:=⟨0,0,0⟩
def cX (x:Ptr) (ps:List Pte):As:=fun h=>∃ b:Nat,(x = some (b,0)/\ps.length = 8)/\aF [blk b ky ([]++(ps.flatMap an.C++[]))] h
theorem table_op {x:Ptr} {ps:List Pte} {l:List As} {h:Hp} (s0:aF (cX x ps::l) h):∃ b,x = some (b,0)/\ps.length = 8/\aF (blk b ky ([]++(ps.flatMap an.C++[]))::l) h:=by
 obtain ⟨b,⟨hx,hb⟩,st⟩:=op_ s0
 exact ⟨b,hx,hb,st⟩
theorem iK {b:Nat} {ps:List Pte} {l:List As} {h:Hp} (hb:ps.length = 8) (st:aF (blk b ky ([]++(ps.flatMap an.C++[]))::l) h):aF (cX (some (b,0)) ps::l) h:=cl_ b ⟨rfl,hb⟩ st
namespace Table
def at_ (ps:List Pte) (i:Int):Pte:=ps.getD i.toNat dc
def get (ps:List Pte) (i:Int):Pte × Bool:=if bu i = true/\(at_ ps i).fBa ≠ 0 then (at_ ps i,true) else (dc,false)
def insert (ps:List Pte) (i:Int) (p:Pte):Int × List Pte :=
 if (eQ p).2 = false\/p.fBa = 0\/bu i = false then (2,ps) else if (at_ ps i).fBa ≠ 0 then (4,ps) else (0,ps.set i.toNat p)
def protect (ps:List Pte) (i r:Int):Int × List Pte :=
 if bu i = false\/ch r = false then (2,ps) else if (at_ ps i).fBa = 0 then (3,ps) else (0,ps.set i.toNat { at_ ps i with fBa:=r })
def remove (ps:List Pte) (i:Int):(Pte × Int) × List Pte :=
 if bu i = false then ((dc,2),ps) else if (at_ ps i).fBa = 0 then ((dc,3),ps) else ((at_ ps i,0),ps.set i.toNat dc)
def byFrom (s:Int):List Pte->Int->List Int
 | [],_=>[]
 | p::ps,i=>if p.fBa ≠ 0/\p.fDa = s then i::byFrom s ps (i + 1) else byFrom s ps (i + 1)
def by_ (ps:List Pte) (s:Int):List Int:=byFrom s ps 0
end Table
theorem mQ {i:Int} (h:bu i = true):∃ n:Nat,i = n/\n < 8:=by
 unfold bu at h
 simp at h
 exact ⟨i.toNat,by omega,by omega⟩
theorem table_new_run (K:Value->Hp->Prop) (h:Hp):hp prog (Instr.build ky #[]) K h = K (.agg ((List.replicate 8 dc).flatMap an.C).toArray) h:=by kernel_rfl
theorem oq:Sp prog lw [] iu [] (fun r=>aF [cX r (List.replicate 8 dc)]):=by
 intro h st
 refine sim_table_New ?_
 unfold sh_table_New
 refine ⟨?_⟩
 rw [table_new_run]
 refine ⟨_,rfl,?_⟩
 refine pw st fun b h' s1=>?_
 exact iK rfl s1
theorem ko (x:Ptr) (ps:List Pte) (i:Int) (p:Pte):Sp prog dX [pv x,.int .i64 i,.agg p.C.toArray] bc [cX x ps] (fun r=>pa_ (r = (Table.insert ps i p).1) [cX x (Table.insert ps i p).2]):=by
 intro h s0
 obtain ⟨b,rfl,hb,st⟩:=table_op s0
 refine wG _ _ _ ?_
 unfold pz
 refine dn rfl ?_
 refine aY (fun k=>?_) (fun k=>?_)
 ·have k':(eQ p).2 = false\/p.fBa = 0\/bu i = false:=by simpa [or_assoc] using k
  have e:Table.insert ps i p = (2,ps):=if_pos k'
  rw [e]
  exact aX rfl (iK hb st)
 ·have k':¬ ((eQ p).2 = false\/p.fBa = 0\/bu i = false):=by simp at k; simp [k]
  obtain ⟨n,rfl,hn⟩:=mQ (i:=i) (by simp at k'; exact k'.2.2)
  have hn':n < ps.length:=by omega
  have hat:Table.at_ ps n = ps[n]:=by simp [Table.at_,hn']
  refine cD ⟨⟨by omega,by omega⟩,?_⟩
  refine ld_a (j:=0) (i:=n) (k:=2) ps[n].fBa jp st rfl (by simp) (aH hn') (c1 rfl rfl) ?_
  refine aY (fun k2=>?_) (fun k2=>?_)
  ·have k2':(Table.at_ ps n).fBa ≠ 0:=by rw [hat]; simpa using k2
   have e:Table.insert ps n p = (4,ps):=by unfold Table.insert; rw [if_neg k',if_pos k2']
   rw [e]
   exact aX rfl (iK hb st)
  ·have k2':¬ (Table.at_ ps n).fBa ≠ 0:=by rw [hat]; simpa using k2
   have e:Table.insert ps n p = (0,ps.set n p):=by unfold Table.insert; rw [if_neg k',if_neg k2']; rfl
   rw [e]
   refine st_a (j:=0) (i:=n) (k:=0) p jp st rfl (by simp) (aH hn') (by simp [jp]) rfl fun h2 s2=>?_
   exact aX rfl (iK (by simpa using hb) s2)
theorem sp_table_Protect (x:Ptr) (ps:List Pte) (i r:Int):Sp prog kF [pv x,.int .i64 i,.int .i64 r] bc [cX x ps] (fun v=>pa_ (v = (Table.protect ps i r).1) [cX x (Table.protect ps i r).2]):=by
 intro h s0
 obtain ⟨b,rfl,hb,st⟩:=table_op s0
 refine vg _ _ _ ?_
 unfold oy
 refine dn rfl ?_
 refine aY (fun k=>?_) (fun k=>?_)
 ·have k':bu i = false\/ch r = false:=by simpa using k
  have e:Table.protect ps i r = (2,ps):=if_pos k'
  rw [e]
  exact aX rfl (iK hb st)
 ·have k':¬ (bu i = false\/ch r = false):=by simp at k; simp [k]
  obtain ⟨n,rfl,hn⟩:=mQ (i:=i) (by simp at k'; exact k'.1)
  have hn':n < ps.length:=by omega
  have hat:Table.at_ ps n = ps[n]:=by simp [Table.at_,hn']
  refine cD ⟨⟨by omega,by omega⟩,?_⟩
  refine ld_a (j:=0) (i:=n) (k:=2) ps[n].fBa jp st rfl (by simp) (aH hn') (c1 rfl rfl) ?_
  refine aY (fun k2=>?_) (fun k2=>?_)
  ·have k2':(Table.at_ ps n).fBa = 0:=by rw [hat]; simpa using k2
   have e:Table.protect ps n r = (3,ps):=by unfold Table.protect; rw [if_neg k',if_pos k2']
   rw [e]
   exact aX rfl (iK hb st)
  ·have k2':¬ (Table.at_ ps n).fBa = 0:=by rw [hat]; simpa using k2
   have e:Table.protect ps n r = (0,ps.set n { ps[n] with fBa:=r }):=by unfold Table.protect; rw [if_neg k',if_neg k2',hat]; rfl
   rw [e]
   refine st_a (j:=0) (i:=n) (k:=2) { ps[n] with fBa:=r } jp st rfl (by simp) (aH hn') (by simp) rfl fun h2 s2=>?_
   exact aX rfl (iK (by simpa using hb) s2)
theorem sp_table_Remove (x:Ptr) (ps:List Pte) (i:Int):Sp prog iT [pv x,.int .i64 i] jt [cX x ps] (fun v=>pa_ (v = (Table.remove ps i).1) [cX x (Table.remove ps i).2]):=by
 intro h s0
 obtain ⟨b,rfl,hb,st⟩:=table_op s0
 refine wF _ _ ?_
 unfold py
 refine dn rfl ?_
 refine aY (fun k=>?_) (fun k=>?_)
 ·have k':bu i = false:=by simpa using k
  have e:Table.remove ps i = ((dc,2),ps):=if_pos k'
  rw [e]
  exact aX rfl (iK hb st)
 ·have k':¬ (bu i = false):=by simp at k; simp [k]
  obtain ⟨n,rfl,hn⟩:=mQ (i:=i) (by simp at k'; exact k')
  have hn':n < ps.length:=by omega
  have hat:Table.at_ ps n = ps[n]:=by simp [Table.at_,hn']
  refine cD ⟨⟨by omega,by omega⟩,?_⟩
  refine ld_a (j:=0) (i:=n) (k:=2) ps[n].fBa jp st rfl (by simp) (aH hn') (c1 rfl rfl) ?_
  refine aY (fun k2=>?_) (fun k2=>?_)
  ·have k2':(Table.at_ ps n).fBa = 0:=by rw [hat]; simpa using k2
   have e:Table.remove ps n = ((dc,3),ps):=by unfold Table.remove; rw [if_neg k',if_pos k2']
   rw [e]
   exact aX rfl (iK hb st)
  ·have k2':¬ (Table.at_ ps n).fBa = 0:=by rw [hat]; simpa using k2
   have e:Table.remove ps n = ((ps[n],0),ps.set n dc):=by unfold Table.remove; rw [if_neg k',if_neg k2',hat]; rfl
   rw [e]
   refine ld_a (j:=0) (i:=n) (k:=0) ps[n] jp st rfl (by simp) (aH hn') (by simp) ?_
   refine st_a (j:=0) (i:=n) (k:=0) dc jp st rfl (by simp) (aH hn') (by simp [jp]) rfl fun h2 s2=>?_
   exact aX rfl (iK (by simpa using hb) s2)
theorem nK (x:Ptr) (ps:List Pte) (i:Int):Sp prog eV [pv x,.int .i64 i] cA [cX x ps] (fun v=>pa_ (v = Table.get ps i) [cX x ps]):=by
 intro h s0
 obtain ⟨b,rfl,hb,st⟩:=table_op s0
 refine sim_table_Table_At _ _ ?_
 unfold tT
 refine aY (fun k=>?_) (fun k=>?_)
 ·have k':bu i = true:=by simpa using k
  obtain ⟨n,rfl,hn⟩:=mQ k'
  have hn':n < ps.length:=by omega
  have hat:Table.at_ ps n = ps[n]:=by simp [Table.at_,hn']
  refine cD ⟨⟨by omega,by omega⟩,?_⟩
  refine ld_a (j:=0) (i:=n) (k:=2) ps[n].fBa jp st rfl (by simp) (aH hn') (c1 rfl rfl) ?_
  unfold iL
  refine aY (fun k2=>?_) (fun k2=>?_)
  ·have k2':(Table.at_ ps n).fBa = 0:=by rw [hat]; simpa using k2
   have e:Table.get ps n = (dc,false):=if_neg (fun hh=>hh.2 k2')
   rw [e]
   exact aX rfl (iK hb st)
  ·have k2':¬ (Table.at_ ps n).fBa = 0:=by rw [hat]; simpa using k2
   have e:Table.get ps n = (ps[n],true):=by unfold Table.get; rw [if_pos ⟨k',k2'⟩,hat]
   rw [e]
   refine cD ⟨⟨by omega,by omega⟩,?_⟩
   refine ld_a (j:=0) (i:=n) (k:=0) ps[n] jp st rfl (by simp) (aH hn') (by simp) ?_
   exact aX rfl (iK hb st)
 ·have k':¬ bu i = true:=by simpa using k
  have e:Table.get ps i = (dc,false):=if_neg (fun hh=>k' hh.1)
  rw [e]
  unfold iL
  exact dL rfl (aX rfl (iK hb st))
theorem by_append (s:Int):∀ (ps:List Pte) (i:Int) (p:Pte),Table.byFrom s (ps++[p]) i = Table.byFrom s ps i++(if p.fBa ≠ 0/\p.fDa = s then [i + ps.length] else [])
 | [],i,p=>by simp only [List.nil_append,Table.byFrom]; split <;> simp
 | y::ps,i,p=>by
  simp only [List.cons_append,Table.byFrom]
  rw [by_append s ps (i + 1) p]
  have e:i + 1 + (ps.length:Int) = i + ((y::ps).length:Int):=by simp; omega
  rw [e]
  split <;> simp
theorem by_len (s:Int):∀ (ps:List Pte) (i:Int),(Table.byFrom s ps i).length <= ps.length
 | [],_=>Nat.le_refl _
 | p::ps,i=>by unfold Table.byFrom; have:=by_len s ps (i + 1); split <;> simp <;> omega
theorem sp_table_By (x:Ptr) (ps:List Pte) (s:Int):Sp prog lW [pv x,.int .i64 s] cC [cX x ps] (fun r=>aF [vI r (Table.by_ ps s),cX x ps]):=by
 intro h s0
 obtain ⟨b,rfl,hb,st⟩:=table_op s0
 refine sim_table_Table_By _ _ ?_
 unfold tS
 refine dn rfl (cD ?_)
 obtain ⟨h1,a,sub⟩:=dH (i:=0) rfl st
 have hfl:(ps.flatMap an.C).length = 24:=by rw [dZ jp,hb]
 refine loadAt_v (r:=ps.flatMap an.C) (cs:=ps.flatMap an.C) agn_8_api_Pte ⟨_,_,_,sub _ _ a,fun i v hv=>by simpa using hv⟩ hfl rfl ?_
 refine Lp.intro (fun (z:Sl × Int) h=>∃ n:Nat,z.2 = n/\n <= 8/\aF [vI z.1 (Table.byFrom s (ps.take n) 0),cX (some (b,0)) ps] h) (fun (z:Sl × Int) _=>8 - z.2.toNat) ⟨0,rfl,Nat.zero_le _,fN (iK hb st)⟩ ?_
 rintro ⟨z,i⟩ h ⟨n,rfl,hn,s1⟩
 unfold ol
 refine aY (fun k=>?_) (fun k=>?_)
 ·have hlt:n < 8:=by have:=of_decide_eq_true k; omega
  have hn':n < ps.length:=by omega
  have hw:IntKind.i64.wrap ((n:Int) + 1) = ((n + 1:Nat):Int):=by rw [bM (by omega) (by omega)]; rfl
  have ht:ps.take (n + 1) = ps.take n++[ps[n]]:=by simp
  have hlen:((ps.take n).length:Int) = n:=by simp; omega
  refine index_v (enc:=an.C) (m:=3) arn_8_api_Pte age_8_api_Pte jp (fun _=>rfl) hb (aH hn') ?_
  refine aY (fun k2=>?_) (fun k2=>?_)
  ·have k2':ps[n].fBa ≠ 0/\ps[n].fDa = s:=by simpa using k2
   refine wk s1 (i:=0) rfl ?_ fun v h' s2=>?_
   ·have:=by_len s (ps.take n) 0; simp at this ⊢; omega
   ·rw [hw]
    refine ⟨⟨n + 1,rfl,hlt,?_⟩,by simp; omega⟩
    rw [ht,by_append,if_pos k2',hlen,Int.zero_add]
    exact s2
  ·have k2':¬ (ps[n].fBa ≠ 0/\ps[n].fDa = s):=by simpa using k2
   rw [hw]
   refine ⟨⟨n + 1,rfl,hlt,?_⟩,by simp; omega⟩
   rw [ht,by_append,if_neg k2',List.append_nil]
   exact s1
 ·have:n = 8:=by have:=of_decide_eq_false k; omega
  subst this
  rw [show ps.take 8 = ps from by rw [← hb]; exact List.take_length] at s1
  exact s1
end
end Go.Proofs.YtemoifebbhoinaaGreatDoor
