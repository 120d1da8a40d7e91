/- Part of the proof of: The law KernNone returns true for every input, and leaves its arguments as they were. -/
import Derived.Test.YtniiiakkdoiaiaaGreatDoorKernNone14
set_option linter.all false
namespace Go.Proofs.YtniiiakkdoiaiaaGreatDoor
open Go Mb
set_option linter.unusedVariables false
def ph (K:Bool→Hp→Prop):Hp→Prop:=cl Tryz.prog vu [(.int .i64 2)] tH fun r24=>cl Tryz.prog lc [] ij fun r25=>cl Tryz.prog iu [] gB fun r26=>cl Tryz.prog tc [(.int .i64 3)] oS fun r27=>cl Tryz.prog th [(.int .u64 5)] oU fun r28=>cl Tryz.prog wM [] tG fun r29=>cl Tryz.prog wN [(.int .i64 2)] sd fun r30=>br ((((((r24.isNone || r25.isNone) || r26.isNone) || r27.isNone) || r28.isNone) || r29.isNone) || r30.isNone) ( K false) ( cl Tryz.prog ee [(pv r25),(.int .i64 1),(.agg (ar.C (⟨1,2,3⟩:ar)).toArray)] bu fun r59=>cl Tryz.prog oD [(pv r26),(.agg (au.C (⟨1,5,1,1⟩:au)).toArray)] aG fun r67=>cl Tryz.prog oC [(pv r26),(.int .i64 1),(.int .i64 5)] fI fun r70=>cl Tryz.prog mS [(pv r27),(.int .i64 0),(.int .u64 4)] dQ fun r74=>cl Tryz.prog lR [(pv r27),(.int .i64 2)] bT fun r77=>cl Tryz.prog oL [(pv r28),(.int .u64 9)] bT fun r82=>cl Tryz.prog na [(pv r29)] gJ fun r86=>cl Tryz.prog jt [(pv r30)] bU fun r89=>cl Tryz.prog lp [] aG fun r97=>br (((((((((((r97 && (r59 == 0)) && (gy (⟨1,2,3⟩:ar)).2) && (((gy (⟨1,2,3⟩:ar)).1) == 33059)) && r67) && r70.2) && (r70.1.fFrame == 1)) && (r74 == 2)) && (r77.1 == 4)) && r77.2) && (r82.1 == 6)) && (r86 == 0)) ( cl Tryz.prog jS [(pv r29),(.int .u64 0)] aG fun r141=>br r141 ( cl Tryz.prog mZ [(pv r29),(.int .u64 0)] aG fun r145=>br ((r145 && (r89.1 == 0)) && r89.2) ( cl Tryz.prog fF [(pv r24),(.int .i64 1),(.int .i64 3),(.int .u64 9)] aG fun r156=>br ((r156 && (aM (⟨6,0,0,0,0⟩:ap)).2) && (((aM (⟨6,0,0,0,0⟩:ap)).1) == 6)) ( cl Tryz.prog gN [(.agg (ap.C (⟨6,8,0,1,0⟩:ap)).toArray),(.int .i64 2)] bu fun r167=>br (r167 == 2) ( cl Tryz.prog n_word_Args [(.int .i64 3)] dQ fun r171=>br ((r171 == 4) && (bq 1 3)) ( cl Tryz.prog lN [(pv r25),(.int .i64 2)] cz fun r179=>br ((r179.len:Int) == 1) ( cl Tryz.prog pO [(pv r30)] gJ fun r185=>K (r185 == 2)) ( K false)) ( K false)) ( K false)) ( K false)) ( K false)) ( K false)) ( K false))
set_option maxRecDepth 20000 in
theorem wq {K:Bool→Hp→Prop} {h:Hp} (H:ph K h):Ct Tryz.prog lj #[] h fun v h'=>∃ r,v = aG r∧K r h':=aA [] Tryz.func169 rfl rfl rfl fun _=>ag<|ab<|aa (ae rfl) rfl<|ad<|ag<|ab<|aj (az H en_90 rfl rfl fun r24 _ H1=>aj (az H1 en_93 rfl rfl fun r25 _ H2=>aj (az H2 en_63 rfl rfl fun r26 _ H3=>aj (az H3 en_61 rfl rfl fun r27 _ H4=>aa (ae rfl) rfl<|aa (ae rfl) rfl<|aa (ae rfl) rfl<|aa (ae rfl) rfl<|ad<|ag<|ab<|aj (az H4 en_190 rfl rfl fun r28 _ H5=>aj (az H5 en_191 rfl rfl fun r29 _ H6=>aj (az H6 en_91 rfl rfl fun r30 _ H7=>aa (ae rfl) rfl<|aa (ae rfl) rfl<|aa (ae rfl) rfl<|ad<|ag<|ag<|ab<|aa (ac rfl) rfl<|aa (ct Tryz.underlying124 rfl) rfl<|aa (ac rfl) rfl<|ak rfl rfl rfl (aX _) (fun g8=>wv (ac rfl)) rfl<|ak rfl rfl rfl (aX _) (fun g9=>wv (ct Tryz.underlying133 (aK rfl g9))) rfl<|aa (dD rfl rfl) rfl<|aa (ac rfl) rfl<|ak rfl rfl rfl (aX _) (fun g10=>wv (ac rfl)) rfl<|ak rfl rfl rfl (aX _) (fun g11=>wv (ct Tryz.underlying103 (aK rfl g11))) rfl<|aa (dD rfl rfl) rfl<|aa (ac rfl) rfl<|ak rfl rfl rfl (aX _) (fun g12=>wv (ac rfl)) rfl<|ak rfl rfl rfl (aX _) (fun g13=>wv (ct Tryz.underlying95 (aK rfl g13))) rfl<|aa (dD rfl rfl) rfl<|aa (ac rfl) rfl<|ak rfl rfl rfl (aX _) (fun g14=>wv (ac rfl)) rfl<|ak rfl rfl rfl (aX _) (fun g15=>wv (ct Tryz.underlying239 (aK rfl g15))) rfl<|aa (dD rfl rfl) rfl<|aa (ac rfl) rfl<|ak rfl rfl rfl (aX _) (fun g16=>wv (ac rfl)) rfl<|ak rfl rfl rfl (aX _) (fun g17=>wv (ct Tryz.underlying241 (aK rfl g17))) rfl<|aa (dD rfl rfl) rfl<|aa (ac rfl) rfl<|ak rfl rfl rfl (aX _) (fun g18=>wv (ac rfl)) rfl<|ak rfl rfl rfl (aX _) (fun g19=>wv (ct Tryz.underlying126 (aK rfl g19))) rfl<|aa (dD rfl rfl) rfl<|ad<|aE rfl H7 (fun k20 H21=>ag<|ab<|aa (ae rfl) rfl<|ad<|ao<|aw (ay rfl (aD rfl)) ⟨false,rfl,H21⟩) (fun k20 H21=>av<|ag<|ab<|aa (ac rfl) rfl<|aa (bj rfl (oR 1 2 3)) rfl<|aj (az H21 en_97 rfl rfl fun r59 _ H22=>aa (ae rfl) rfl<|ad<|ag<|ab<|aa (bj rfl (oR 1 2 3)) rfl<|aj (cN (vs:=[(.agg (ar.C (⟨1,2,3⟩:ar)).toArray)]) (bG (ct_pte_Put (⟨1,2,3⟩:ar) _)) en_139 rfl rfl<|aa (ac rfl) rfl<|aa (aq rfl rfl) rfl<|aa (aq rfl rfl) rfl<|aa (ae rfl) rfl<|aa (ae rfl) rfl<|ad<|ag<|ab<|aa (ac rfl) rfl<|aa (bj rfl (vO 1 5 1 1)) rfl<|aj (az H22 en_143 rfl rfl fun r67 _ H23=>aa (ae rfl) rfl<|ad<|ag<|ab<|aa (ac rfl) rfl<|aj (az H23 en_141 rfl rfl fun r70 _ H24=>aa (ac rfl) rfl<|aa (aq rfl rfl) rfl<|aa (aq rfl rfl) rfl<|aj (aW (l:=(au.C (⟨0,0,0,0⟩:au))) kI rfl rfl fun b12=>aj (bb (k:=0) (vs:=(au.C r70.1)) fL rfl rfl rfl rfl rfl rfl rfl<|aa (ae rfl) rfl<|ad<|ag<|ab<|aa (ac rfl) rfl<|aj (az H24 en_71 rfl rfl fun r74 _ H25=>aa (ae rfl) rfl<|ad<|ag<|ab<|aa (ac rfl) rfl<|aj (az H25 en_75 rfl rfl fun r77 _ H26=>aa (ac rfl) rfl<|aa (aq rfl rfl) rfl<|aa (aq rfl rfl) rfl<|aa (ae rfl) rfl<|aa (ae rfl) rfl<|ad<|ag<|ab<|aa (ac rfl) rfl<|aj (az H26 en_192 rfl rfl fun r82 _ H27=>aa (ac rfl) rfl<|aa (aq rfl rfl) rfl<|aa (aq rfl rfl) rfl<|aa (ae rfl) rfl<|aa (ae rfl) rfl<|ad<|ag<|ab<|aa (ac rfl) rfl<|aj (az H27 en_193 rfl rfl fun r86 _ H28=>aa (ae rfl) rfl<|ad<|ag<|ab<|aa (ac rfl) rfl<|aj (az H28 en_154 rfl rfl fun r89 _ H29=>aa (ac rfl) rfl<|aa (aq rfl rfl) rfl<|aa (aq rfl rfl) rfl<|aa (ae rfl) rfl<|aa (ae rfl) rfl<|ad<|ag<|ab<|aa (bj rfl (build_27_0 6)) rfl<|aj (cN (vs:=[(.agg (ap.C (⟨6,0,0,0,0⟩:ap)).toArray)]) (bG (jX (⟨6,0,0,0,0⟩:ap) _)) en_64 rfl rfl<|aa (ac rfl) rfl<|aa (aq rfl rfl) rfl<|aa (aq rfl rfl) rfl<|aa (ae rfl) rfl<|aa (ae rfl) rfl<|ad<|ag<|ab<|aj (az H29 en_194 rfl rfl fun r97 _ H30=>aa (ac rfl) rfl<|ak rfl rfl rfl (aB _) (fun g31=>wv (ac rfl)) rfl<|ak rfl rfl rfl (aB _) (fun g32=>wv (bV (aK rfl g32) rfl)) rfl<|aa (bX rfl rfl) rfl<|aa (ac rfl) rfl<|ak rfl rfl rfl (aB _) (fun g33=>wv (ac rfl)) rfl<|aa (bX rfl rfl) rfl<|aa (ac rfl) rfl<|ak rfl rfl rfl (aB _) (fun g34=>wv (ac rfl)) rfl<|ak rfl rfl rfl (aB _) (fun g35=>wv (bV (aK rfl g35) rfl)) rfl<|aa (bX rfl rfl) rfl<|aa (ac rfl) rfl<|ak rfl rfl rfl (aB _) (fun g36=>wv (ac rfl)) rfl<|aa (bX rfl rfl) rfl<|aa (ac rfl) rfl<|ak rfl rfl rfl (aB _) (fun g37=>wv (ac rfl)) rfl<|aa (bX rfl rfl) rfl<|aa (ac rfl) rfl<|ak rfl rfl rfl (aB _) (fun g38=>wv (am ly rfl)) rfl<|ak rfl rfl rfl (aB _) (fun g39=>cv (bt (k:=0) bk (aK rfl g39) rfl rfl)) rfl<|ak rfl rfl rfl (aB _) (fun g40=>wv (bV (aK rfl g40) rfl)) rfl<|aa (bX rfl rfl) rfl<|aa (ac rfl) rfl<|ak rfl rfl rfl (aB _) (fun g41=>wv (ac rfl)) rfl<|ak rfl rfl rfl (aB _) (fun g42=>wv (bV (aK rfl g42) rfl)) rfl<|aa (bX rfl rfl) rfl<|aa (ac rfl) rfl<|ak rfl rfl rfl (aB _) (fun g43=>wv (ac rfl)) rfl<|ak rfl rfl rfl (aB _) (fun g44=>wv (bV (aK rfl g44) rfl)) rfl<|aa (bX rfl rfl) rfl<|aa (ac rfl) rfl<|ak rfl rfl rfl (aB _) (fun g45=>wv (ac rfl)) rfl<|aa (bX rfl rfl) rfl<|aa (ac rfl) rfl<|ak rfl rfl rfl (aB _) (fun g46=>wv (ac rfl)) rfl<|ak rfl rfl rfl (aB _) (fun g47=>wv (bV (aK rfl g47) rfl)) rfl<|aa (bX rfl rfl) rfl<|aa (ac rfl) rfl<|ak rfl rfl rfl (aB _) (fun g48=>wv (ac rfl)) rfl<|ak rfl rfl rfl (aB _) (fun g49=>wv (bV (aK rfl g49) rfl)) rfl<|aa (bX rfl rfl) rfl<|aa (ac rfl) rfl<|ak rfl rfl rfl (aB _) (fun g50=>wv (ac rfl)) rfl<|bO H30 (fun k52 H53=>aF rfl rfl rfl (congrArg Value.bool k52) (az H53 en_195 (aT (aK rfl k52) (aT rfl bM)) rfl fun r141 _ H54=>aa (ba rfl k52 rfl) rfl<|aa (ac rfl) rfl<|ak rfl rfl rfl (aB _) (fun g55=>wv (ac rfl)) rfl<|bO H54 (fun k57 H58=>aF rfl rfl rfl (congrArg Value.bool k57) (az H58 en_196 (aT (aK rfl k57) (aT rfl bM)) rfl fun r145 _ H59=>aa (ba rfl k57 rfl) rfl<|aa (ac rfl) rfl<|ak rfl rfl rfl (aB _) (fun g60=>wv (ac rfl)) rfl<|ak rfl rfl rfl (aB _) (fun g61=>wv (bV (aK rfl g61) rfl)) rfl<|aa (bX rfl rfl) rfl<|aa (ac rfl) rfl<|ak rfl rfl rfl (aB _) (fun g62=>wv (ac rfl)) rfl<|aa (bX rfl rfl) rfl<|aa (ac rfl) rfl<|ak rfl rfl rfl (aB _) (fun g63=>wv (ac rfl)) rfl<|bO H59 (fun k65 H66=>aF rfl rfl rfl (congrArg Value.bool k65) (az H66 en_146 (aT (aK rfl k65) (aT rfl (aT rfl (aT rfl bM)))) rfl fun r156 _ H67=>aa (ba rfl k65 rfl) rfl<|aa (ac rfl) rfl<|ak rfl rfl rfl (aB _) (fun g68=>wv (ac rfl)) rfl<|aa (bX rfl rfl) rfl<|aa (ac rfl) rfl<|ak rfl rfl rfl (aB _) (fun g69=>wv (ac rfl)) rfl<|ak rfl rfl rfl (aB _) (fun g70=>wv (bV (aK rfl g70) rfl)) rfl<|aa (bX rfl rfl) rfl<|aa (ac rfl) rfl<|ak rfl rfl rfl (aB _) (fun g71=>wv (bj rfl (jE 6 8 0 1))) rfl<|bO H67 (fun k73 H74=>aF rfl rfl rfl (congrArg Value.bool k73) (az H74 en_95 (aT (aK rfl k73) (aT rfl bM)) rfl fun r167 _ H75=>aF rfl rfl rfl (congrArg Value.bool k73) (aJ (wv (bV rfl rfl)) rfl<|aa (ba rfl k73 rfl) rfl<|aa (ac rfl) rfl<|bO H75 (fun k77 H78=>aF rfl rfl rfl (congrArg Value.bool k77) (az H78 en_197 rfl rfl fun r171 _ H79=>aF rfl rfl rfl (congrArg Value.bool k77) (aJ (wv (bV rfl rfl)) rfl<|aa (ba rfl k77 rfl) rfl<|aa (ac rfl) rfl<|dc (vs:=[(.int .i64 1),(.int .i64 3)]) rfl rfl rfl (aB _) (fun g80=>(bG (de 1 3 _))) mu (fun g80=>rfl) rfl<|aa (bX rfl rfl) rfl<|aa (ac rfl) rfl<|ak rfl rfl rfl (aB _) (fun g81=>wv (ac rfl)) rfl<|bO H79 (fun k83 H84=>aF rfl rfl rfl (congrArg Value.bool k83) (az H84 en_159 (aT (aK rfl k83) (aT rfl bM)) rfl fun r179 _ H85=>aF rfl rfl rfl (congrArg Value.bool k83) (aJ (wv (dl rfl Tryz.underlying41 rfl)) rfl<|aF rfl rfl rfl (congrArg Value.bool k83) (aJ (wv (bV rfl rfl)) rfl<|aa (ba rfl k83 rfl) rfl<|aa (ac rfl) rfl<|ak rfl rfl rfl (aB _) (fun g86=>wv (ac rfl)) rfl<|bO H85 (fun k88 H89=>aF rfl rfl rfl (congrArg Value.bool k88) (az H89 en_198 (aT (aK rfl k88) bM) rfl fun r185 _ H90=>aF rfl rfl rfl (congrArg Value.bool k88) (aJ (wv (bV rfl rfl)) rfl<|aa (ba rfl k88 rfl) rfl<|aa (ae rfl) rfl<|ad<|ao<|aw (ay rfl (aD rfl)) ⟨(r185 == 2),rfl,H90⟩))) (fun k88 H89=>ah rfl rfl rfl (aY k88) rfl<|ah rfl rfl rfl (aY k88) rfl<|aa (an rfl k88 rfl) rfl<|aa (ae rfl) rfl<|ad<|ao<|aw (ay rfl (aD rfl)) ⟨false,rfl,H89⟩))))) (fun k83 H84=>ah rfl rfl rfl (aY k83) rfl<|ah rfl rfl rfl (aY k83) rfl<|ah rfl rfl rfl (aY k83) rfl<|aa (an rfl k83 rfl) rfl<|aa (ac rfl) rfl<|ah rfl rfl rfl rfl rfl<|ah rfl rfl rfl rfl rfl<|ah rfl rfl rfl rfl rfl<|aa (an rfl rfl rfl) rfl<|aa (ae rfl) rfl<|ad<|ao<|aw (ay rfl (aD rfl)) ⟨false,rfl,H84⟩)))) (fun k77 H78=>ah rfl rfl rfl (aY k77) rfl<|ah rfl rfl rfl (aY k77) rfl<|aa (an rfl k77 rfl) rfl<|aa (ac rfl) rfl<|ah rfl rfl rfl rfl rfl<|aa (an rfl rfl rfl) rfl<|aa (ac rfl) rfl<|ah rfl rfl rfl rfl rfl<|ah rfl rfl rfl rfl rfl<|ah rfl rfl rfl rfl rfl<|ah rfl rfl rfl rfl rfl<|aa (an rfl rfl rfl) rfl<|aa (ac rfl) rfl<|ah rfl rfl rfl rfl rfl<|ah rfl rfl rfl rfl rfl<|ah rfl rfl rfl rfl rfl<|aa (an rfl rfl rfl) rfl<|aa (ae rfl) rfl<|ad<|ao<|aw (ay rfl (aD rfl)) ⟨false,rfl,H78⟩)))) (fun k73 H74=>ah rfl rfl rfl (aY k73) rfl<|ah rfl rfl rfl (aY k73) rfl<|aa (an rfl k73 rfl) rfl<|aa (ac rfl) rfl<|ah rfl rfl rfl rfl rfl<|ah rfl rfl rfl rfl rfl<|aa (an rfl rfl rfl) rfl<|aa (ac rfl) rfl<|ah rfl rfl rfl rfl rfl<|aa (an rfl rfl rfl) rfl<|aa (ac rfl) rfl<|ah rfl rfl rfl rfl rfl<|ah rfl rfl rfl rfl rfl<|ah rfl rfl rfl rfl rfl<|ah rfl rfl rfl rfl rfl<|aa (an rfl rfl rfl) rfl<|aa (ac rfl) rfl<|ah rfl rfl rfl rfl rfl<|ah rfl rfl rfl rfl rfl<|ah rfl rfl rfl rfl rfl<|aa (an rfl rfl rfl) rfl<|aa (ae rfl) rfl<|ad<|ao<|aw (ay rfl (aD rfl)) ⟨false,rfl,H74⟩))) (fun k65 H66=>ah rfl rfl rfl (aY k65) rfl<|aa (an rfl k65 rfl) rfl<|aa (ac rfl) rfl<|ah rfl rfl rfl rfl rfl<|aa (an rfl rfl rfl) rfl<|aa (ac rfl) rfl<|ah rfl rfl rfl rfl rfl<|ah rfl rfl rfl rfl rfl<|aa (an rfl rfl rfl) rfl<|aa (ac rfl) rfl<|ah rfl rfl rfl rfl rfl<|ah rfl rfl rfl rfl rfl<|ah rfl rfl rfl rfl rfl<|aa (an rfl rfl rfl) rfl<|aa (ac rfl) rfl<|ah rfl rfl rfl rfl rfl<|ah rfl rfl rfl rfl rfl<|aa (an rfl rfl rfl) rfl<|aa (ac rfl) rfl<|ah rfl rfl rfl rfl rfl<|aa (an rfl rfl rfl) rfl<|aa (ac rfl) rfl<|ah rfl rfl rfl rfl rfl<|ah rfl rfl rfl rfl rfl<|ah rfl rfl rfl rfl rfl<|ah rfl rfl rfl rfl rfl<|aa (an rfl rfl rfl) rfl<|aa (ac rfl) rfl<|ah rfl rfl rfl rfl rfl<|ah rfl rfl rfl rfl rfl<|ah rfl rfl rfl rfl rfl<|aa (an rfl rfl rfl) rfl<|aa (ae rfl) rfl<|ad<|ao<|aw (ay rfl (aD rfl)) ⟨false,rfl,H66⟩))) (fun k57 H58=>ah rfl rfl rfl (aY k57) rfl<|aa (an rfl k57 rfl) rfl<|aa (ac rfl) rfl<|ah rfl rfl rfl rfl rfl<|ah rfl rfl rfl rfl rfl<|aa (an rfl rfl rfl) rfl<|aa (ac rfl) rfl<|ah rfl rfl rfl rfl rfl<|aa (an rfl rfl rfl) rfl<|aa (ac rfl) rfl<|ah rfl rfl rfl rfl rfl<|ah rfl rfl rfl rfl rfl<|aa (an rfl rfl rfl) rfl<|aa (ac rfl) rfl<|ah rfl rfl rfl rfl rfl<|aa (an rfl rfl rfl) rfl<|aa (ac rfl) rfl<|ah rfl rfl rfl rfl rfl<|ah rfl rfl rfl rfl rfl<|aa (an rfl rfl rfl) rfl<|aa (ac rfl) rfl<|ah rfl rfl rfl rfl rfl<|ah rfl rfl rfl rfl rfl<|ah rfl rfl rfl rfl rfl<|aa (an rfl rfl rfl) rfl<|aa (ac rfl) rfl<|ah rfl rfl rfl rfl rfl<|ah rfl rfl rfl rfl rfl<|aa (an rfl rfl rfl) rfl<|aa (ac rfl) rfl<|ah rfl rfl rfl rfl rfl<|aa (an rfl rfl rfl) rfl<|aa (ac rfl) rfl<|ah rfl rfl rfl rfl rfl<|ah rfl rfl rfl rfl rfl<|ah rfl rfl rfl rfl rfl<|ah rfl rfl rfl rfl rfl<|aa (an rfl rfl rfl) rfl<|aa (ac rfl) rfl<|ah rfl rfl rfl rfl rfl<|ah rfl rfl rfl rfl rfl<|ah rfl rfl rfl rfl rfl<|aa (an rfl rfl rfl) rfl<|aa (ae rfl) rfl<|ad<|ao<|aw (ay rfl (aD rfl)) ⟨false,rfl,H58⟩))) (fun k52 H53=>ah rfl rfl rfl (aY k52) rfl<|aa (an rfl k52 rfl) rfl<|aa (ac rfl) rfl<|ah rfl rfl rfl rfl rfl<|ah rfl rfl rfl rfl rfl<|aa (an rfl rfl rfl) rfl<|aa (ac rfl) rfl<|ah rfl rfl rfl rfl rfl<|ah rfl rfl rfl rfl rfl<|aa (an rfl rfl rfl) rfl<|aa (ac rfl) rfl<|ah rfl rfl rfl rfl rfl<|aa (an rfl rfl rfl) rfl<|aa (ac rfl) rfl<|ah rfl rfl rfl rfl rfl<|ah rfl rfl rfl rfl rfl<|aa (an rfl rfl rfl) rfl<|aa (ac rfl) rfl<|ah rfl rfl rfl rfl rfl<|aa (an rfl rfl rfl) rfl<|aa (ac rfl) rfl<|ah rfl rfl rfl rfl rfl<|ah rfl rfl rfl rfl rfl<|aa (an rfl rfl rfl) rfl<|aa (ac rfl) rfl<|ah rfl rfl rfl rfl rfl<|ah rfl rfl rfl rfl rfl<|ah rfl rfl rfl rfl rfl<|aa (an rfl rfl rfl) rfl<|aa (ac rfl) rfl<|ah rfl rfl rfl rfl rfl<|ah rfl rfl rfl rfl rfl<|aa (an rfl rfl rfl) rfl<|aa (ac rfl) rfl<|ah rfl rfl rfl rfl rfl<|aa (an rfl rfl rfl) rfl<|aa (ac rfl) rfl<|ah rfl rfl rfl rfl rfl<|ah rfl rfl rfl rfl rfl<|ah rfl rfl rfl rfl rfl<|ah rfl rfl rfl rfl rfl<|aa (an rfl rfl rfl) rfl<|aa (ac rfl) rfl<|ah rfl rfl rfl rfl rfl<|ah rfl rfl rfl rfl rfl<|ah rfl rfl rfl rfl rfl<|aa (an rfl rfl rfl) rfl<|aa (ae rfl) rfl<|ad<|ao<|aw (ay rfl (aD rfl)) ⟨false,rfl,H53⟩))))))))))))))))))))))
def pj (K:Bool→Hp→Prop):Hp→Prop:=cl Tryz.prog lj [] aG fun r1=>K r1
set_option maxRecDepth 20000 in
theorem ws {K:Bool→Hp→Prop} {h:Hp} (H:pj K h):Ct Tryz.prog ll #[] h fun v h'=>∃ r,v = aG r∧K r h':=aA [] Tryz.func130 rfl rfl rfl fun _=>ag<|ab<|aa (ae rfl) rfl<|ad<|ag<|ab<|aj (az H en_169 rfl rfl fun r1 _ H1=>aa (ae rfl) rfl<|ad<|ao<|aw (ay rfl (aD rfl)) ⟨r1,rfl,H1⟩)
end Go.Proofs.YtniiiakkdoiaiaaGreatDoor
namespace Go.Proofs.YtniiiakkdoiaiaaGreatDoor
open Go Mb
variable {ET:Nat} {EF:Nat × Nat}
section
variable {l:List As} {h:Hp} {x:Ptr}
theorem mem_nn {fs:List (List Int)} (s:aO (ig x fs::l) h):x.isNone = false:=by obtain ⟨b,_,_,rfl,_⟩:=mem_op s; rfl
theorem nn_of {α:Type} {φ:α→Prop} {m:α→List As} (hx:∀ z,φ z→x.isNone = false) (s:aO ((fun h=>∃ z,φ z∧aO (m z) h)::l) h):x.isNone = false:=by
  obtain ⟨z,f,_⟩:=op_ s
  exact hx z f
theorem table_nn {ps:List Pte} (s:aO (da x ps::l) h):x.isNone = false:=nn_of (fun _ e=>by rw [e.1]; rfl) s
theorem tlb_nn {t:List TL × Int} (s:aO (fG x t::l) h):x.isNone = false:=nn_of (fun _ e=>by rw [e.1]; rfl) s
theorem mail_nn {bs:List (List Int)} (s:aO (jd x bs::l) h):x.isNone = false:=nn_of (fun _ e=>by rw [e.1]; rfl) s
theorem cell_nn {c:Int × Int} (s:aO (kF x c::l) h):x.isNone = false:=nn_of (fun _ e=>by rw [e]; rfl) s
theorem lock_nn {k:(Int × Int) × (Int × Int)} (s:aO (uI x k::l) h):x.isNone = false:=nn_of (fun _ e=>by rw [e]; rfl) s
theorem pool_nn {p:List Int} (s:aO (fS x p::l) h):x.isNone = false:=nn_of (fun _ e=>by rw [e.1]; rfl) s
end
theorem sp_Begun1:Sp Tryz.prog lp [] aG [(etB ET EF)] (fun r=>pa_ (r = true) [(etB ET EF)]):=by
  intro h st
  refine wu ?_
  unfold pq
  exact ce (i:=0) sp_begun1 rfl st fun r h' hr s=>bg hr s
theorem sp_begun2:Sp Tryz.prog lj [] aG [(etB ET EF)] (fun r=>pa_ (r = true) [(etB ET EF)]):=by
  intro h st
  refine wq ?_
  unfold ph
  refine mb (sp_mem_New 2 (by decide) (by decide)) st fun a1 h1 s1=>?_
  refine mb nU s1 fun a2 h2 s2=>?_
  refine mb wc s2 fun a3 h3 s3=>?_
  refine mb (sp_mail_New 3 (by decide) (by decide)) s3 fun a4 h4 s4=>?_
  refine mb (sp_cell_New 5) s4 fun a5 h5 s5=>?_
  refine mb sp_ticket_New s5 fun a6 h6 s6=>?_
  refine mb (sp_pool_New 2 (by decide) (by decide)) s6 fun a7 h7 s7=>?_
  have n1:=mem_nn s1
  have n2:=table_nn s2
  have n3:=tlb_nn s3
  have n4:=mail_nn s4
  have n5:=cell_nn s5
  have n6:=lock_nn s6
  have n7:=pool_nn s7
  rw [n1,n2,n3,n4,n5,n6,n7]
  refine dH rfl ?_
  refine ce (i:=5) (ke a2 _ 1 ⟨1,2,3⟩) rfl s7 fun r1 h8 e1 s8=>?_
  refine ce (i:=4) (sp_tlb_Fill a3 _ ⟨1,5,1,1⟩) rfl s8 fun r2 h9 e2 s9=>?_
  refine ce (i:=4) (sp_tlb_Find a3 _ 1 5) rfl s9 fun r3 h10 e3 s10=>?_
  refine ce (i:=3) (sp_mail_All a4 _ 0 4 (fun l hl=>?_)) rfl s10 fun r4 h11 e4 s11=>?_
  · have:l = []:=by simpa using hl
    subst this
    exact ⟨fun _ h=>(by cases h),.nil,by decide⟩
  refine ce (i:=3) (sp_mail_Take a4 _ 2) rfl s11 fun r5 h12 e5 s12=>?_
  refine ce (i:=2) (sp_cell_Up a5 _ 9) rfl s12 fun r6 h13 e6 s13=>?_
  refine ce (i:=1) (sp_ticket_Draw a6 _) rfl s13 fun r7 h14 e7 s14=>?_
  refine ce (i:=0) (wd a7 _) rfl s14 fun r8 h15 e8 s15=>?_
  refine ce (i:=7) sp_Begun1 rfl s15 fun r9 h16 e9 s16=>?_
  subst e1 e2 e3 e4 e5 e6 e7 e8 e9
  refine cT (by kernel_rfl) ?_
  refine ce (i:=1) (sp_ticket_Turn a6 _ 0) rfl s16 fun r10 h17 e10 s17=>?_
  subst e10
  refine cT (by kernel_rfl) ?_
  refine ce (i:=1) (sp_ticket_Pass a6 _ 0) rfl s17 fun r11 h18 e11 s18=>?_
  subst e11
  refine cT (by kernel_rfl) ?_
  refine ce (i:=6) (lI a1 _ 1 3 9) rfl s18 fun r12 h19 e12 s19=>?_
  subst e12
  refine cT (by kernel_rfl) ?_
  refine iU (iZ ⟨6,8,0,1,0⟩ 2) s19 fun r13 h20 e13 s20=>?_
  subst e13
  refine cT (by kernel_rfl) ?_
  refine iU (sp_word_Args 3) s20 fun r14 h21 e14 s21=>?_
  subst e14
  refine cT (by kernel_rfl) ?_
  refine cl_n (i:=5) (sp_table_By a2 _ 2) rfl s21 fun r15 h22 s22=>?_
  have e15:((r15.len:Int) == 1) = true:=by
    rw [(cr (j:=0) s22 rfl).1]
    kernel_rfl
  refine cT e15 ?_
  refine ce (i:=1) (sp_pool_Bits a7 _) rfl s22 fun r16 h23 e16 s23=>?_
  subst e16
  refine bg (by kernel_rfl) (co (l:=[_,_,_,_,_,_,_,_]) s23)
theorem sp_Begun2:Sp Tryz.prog ll [] aG [(etB ET EF)] (fun r=>pa_ (r = true) [(etB ET EF)]):=by
  intro h st
  refine ws ?_
  unfold pj
  exact ce (i:=0) sp_begun2 rfl st fun r h' hr s=>bg hr s
end Go.Proofs.YtniiiakkdoiaiaaGreatDoor
namespace Go.Proofs.YtniiiakkdoiaiaaGreatDoor
open Go Mb
namespace Mb
theorem least {p:Nat→Prop}:∀ (n:Nat),p n→∃ m,p m∧∀ k,p k→m ≤ k:=by
  intro n
  induction n using Nat.strongRecOn with
  | _ n ih =>
    intro hn
    by_cases h:∃ k,k < n∧p k
    · obtain ⟨k,hk,hpk⟩:=h
      exact ih k hk hpk
    · exact ⟨n,hn,fun k hk=>Nat.le_of_not_lt fun hlt=>h ⟨k,hlt,hk⟩⟩
theorem Lp.ghost {σ γ:Type} {step:(σ→Hp→Prop)→σ→Hp→Prop} (I:γ→σ→Hp→Prop) (μ:γ→Nat) {s:σ} {h:Hp} {g:γ} (h0:I g s h)
    (hs:∀ g s h,I g s h→∀ R:σ→Hp→Prop,(∀ g' s' h',I g' s' h'→μ g' < μ g→R s' h')→step R s h):Lp step s h:=by
  have mins:∀ s h,(∃ g,I g s h)→∃ m,(∃ g,I g s h∧μ g = m)∧∀ k,(∃ g,I g s h∧μ g = k)→m ≤ k:=by
    rintro s h ⟨g,hg⟩
    exact least (p:=fun m=>∃ g,I g s h∧μ g = m) (μ g) ⟨g,hg,rfl⟩
  let M:σ→Hp→Nat:=fun s h=>@dite Nat (∃ g,I g s h) (Classical.propDecidable _) (fun H=>Classical.choose (mins s h H)) (fun _=>0)
  have hM:∀ s h,(∃ g,I g s h)→(∃ g,I g s h∧μ g = M s h)∧∀ g,I g s h→M s h ≤ μ g:=by
    intro s h H
    have e:M s h = Classical.choose (mins s h H):=by
      show @dite Nat (∃ g,I g s h) (Classical.propDecidable _) _ _ = _
      rw [dif_pos H]
    have sp:=Classical.choose_spec (mins s h H)
    rw [e]
    exact ⟨sp.1,fun g hg=>sp.2 _ ⟨g,hg,rfl⟩⟩
  refine Lp.intro (fun s h=>∃ g,I g s h) M ⟨g,h0⟩ fun s h H=>?_
  obtain ⟨⟨g,hg,e⟩,_⟩:=hM s h H
  refine hs g s h hg _ fun g' s' h' hg' hlt=>⟨⟨g',hg'⟩,?_⟩
  have:=(hM s' h' ⟨g',hg'⟩).2 g' hg'
  omega
end Mb
namespace Caps
structure Sub (t o:T):Prop where
  len:t.length = o.length
  get:∀ e s,has o e s = true→get t e s = rZ∨get t e s = get o e s
def more1 (o t:T) (e s:Int):Bool × T :=
  if (at_ o e s).2 = false∨(at_ t e s).2 = true then (false,t)
  else if (at_ o e s).1.fEnv < 0 then ((root t e s (at_ o e s).1.fFrame).1 == 0,(root t e s (at_ o e s).1.fFrame).2)
  else ((derive t (at_ o e s).1.fEnv (at_ o e s).1.fSlot e s (at_ o e s).1.fRights).1 == 0,(derive t (at_ o e s).1.fEnv (at_ o e s).1.fSlot e s (at_ o e s).1.fRights).2)
def moreS (o:T) (e:Nat):Nat→Bool × T→Bool × T
  | 0,st=>st
  | n + 1,st=>((moreS o e n st).1 || (more1 o (moreS o e n st).2 e n).1,(more1 o (moreS o e n st).2 e n).2)
def moreE (o:T):Nat→Bool × T→Bool × T
  | 0,st=>st
  | m + 1,st=>moreS o m 8 (moreE o m st)
def missing (o t:T) (p:Nat × Nat):Bool:=(at_ o p.1 p.2).2 && !(at_ t p.1 p.2).2
def pairs (n:Nat):List (Nat × Nat):=(List.range n).flatMap fun e=>(List.range 8).map fun s=>(e,s)
def miss (o t:T):Nat:=(pairs o.length).countP (missing o t)
theorem mem_pairs {n e s:Nat}:(e,s) ∈ pairs n↔e < n∧s < 8:=by
  unfold pairs; simp [List.mem_flatMap]
theorem countP_lt {α:Type} {P Q:α→Bool} {a:α}:∀ {l:List α},(∀ x ∈ l,Q x = true→P x = true)→a ∈ l→P a = true→Q a = false→l.countP Q < l.countP P
  | [],_,h,_,_=>by cases h
  | x::l,h1,h2,h3,h4=>by
    have le:∀ {l:List α},(∀ x ∈ l,Q x = true→P x = true)→l.countP Q ≤ l.countP P:=fun h=>List.countP_mono_left h
    rcases List.mem_cons.1 h2 with rfl | h2
    · rw [List.countP_cons_of_pos h3,List.countP_cons_of_neg (by rw [h4]; exact Bool.false_ne_true)]
      have:=le (l:=l) (fun x hx=>h1 x (by simp [hx]))
      omega
    · have ih:=countP_lt (l:=l) (fun x hx=>h1 x (by simp [hx])) h2 h3 h4
      by_cases hq:Q x = true
      · rw [List.countP_cons_of_pos hq,List.countP_cons_of_pos (h1 x (by simp) hq)]; omega
      · rw [List.countP_cons_of_neg hq]
        by_cases hpx:P x = true
        · rw [List.countP_cons_of_pos hpx]; omega
        · rw [List.countP_cons_of_neg hpx]; omega
theorem tE {t:T} {e s:Int}:(at_ t e s).2 = true↔has t e s = true∧(get t e s).fRights ≠ 0:=by
  unfold at_; split
  · rename_i h; exact ⟨fun _=>h,fun _=>rfl⟩
  · rename_i h; exact ⟨fun hh=>(by cases hh),fun hh=>absurd hh h⟩
theorem at_fst {t:T} {e s:Int} (h:(at_ t e s).2 = true):(at_ t e s).1 = get t e s:=by
  have:=tE.1 h
  unfold at_; rw [if_pos this]
theorem sub_has {t o:T} (h:Sub t o) (e s:Int):has t e s = has o e s:=by unfold has; rw [h.len]
theorem cap_empty {n:Int} {o:T} {c:Cap} (h:CapFine n o c) (h0:c.fRights = 0):c = rZ:=by
  rcases h with h | h | h
  · exact h
  · omega
  · have:=(vX h.2.2.2.1).1; omega
theorem more1_is {n:Int} {o t:T} (hn:n ≤ 16) (ok:Ok o) (F:fB n o) (okt:Ok t) (sb:Sub t o) {e s:Int} (hh:has o e s = true) :
    (more1 o t e s = (false,t)∧((at_ o e s).2 = true→(at_ t e s).2 = true∨(0 ≤ (get o e s).fEnv∧(get t (get o e s).fEnv (get o e s).fSlot).fRights = 0))) ∨
    (more1 o t e s = (true,put t e s (get o e s))∧(get t e s).fRights = 0∧(get o e s).fRights ≠ 0∧(0 ≤ (get o e s).fEnv→has t (get o e s).fEnv (get o e s).fSlot = true∧(get t (get o e s).fEnv (get o e s).fSlot).fRights ≠ 0)):=by
  by_cases h1:(at_ o e s).2 = true
  · by_cases h2:(at_ t e s).2 = true
    · left
      exact ⟨by unfold more1; rw [if_pos (.inr h2)],fun _=>.inl h2⟩
    · have hno:¬ ((at_ o e s).2 = false∨(at_ t e s).2 = true):=by simp [h1,h2]
      have hc:=(tE.1 h1).2
      have hf:=at_fst h1
      have hht:has t e s = true:=by rw [sub_has sb]; exact hh
      have h0:(get t e s).fRights = 0:=by
        by_cases hz:(get t e s).fRights = 0
        · exact hz
        · exact absurd (tE.2 ⟨hht,hz⟩) h2
      rcases F e s hh with ec | ec | ec
      · rw [ec] at hc; exact absurd rfl hc
      · right
        have hneg:(get o e s).fEnv < 0:=by omega
        have er:root t e s (get o e s).fFrame = (0,put t e s (get o e s)):=by
          unfold root
          rw [if_neg (by simp [hht]; omega),if_neg (by simp [h0])]
          have:(⟨(get o e s).fFrame,3,-1,0⟩:Cap) = get o e s:=by
            obtain ⟨a1,a2,a3,_⟩:=ec
            cases hg:get o e s
            rw [hg] at a1 a2 a3
            simp_all
          rw [this]
        refine ⟨?_,h0,hc,fun hp=>absurd hp (by omega)⟩
        unfold more1
        rw [if_neg hno,hf,if_pos hneg,er]; rfl
      · have hpos:¬ (get o e s).fEnv < 0:=by omega
        obtain ⟨p1,p2⟩:=parent_has ok hh hc ec.1
        have p1t:has t (get o e s).fEnv (get o e s).fSlot = true:=by rw [sub_has sb]; exact p1
        have hw:=vX ec.2.2.2.1
        have hmay:cJ (get o e s).fRights = true:=may_iff.2 hw.1
        by_cases hp:(get t (get o e s).fEnv (get o e s).fSlot).fRights = 0
        · left
          have ed:derive t (get o e s).fEnv (get o e s).fSlot e s (get o e s).fRights = (3,t):=by
            unfold derive
            rw [if_neg (by simp [p1t,hht,hmay]),if_pos hp]
          refine ⟨?_,fun _=>.inr ⟨ec.1,hp⟩⟩
          unfold more1
          rw [if_neg hno,hf,if_neg hpos,ed]; rfl
        · right
          have eg:get t (get o e s).fEnv (get o e s).fSlot = get o (get o e s).fEnv (get o e s).fSlot:=by
            rcases sb.get _ _ p1 with h | h
            · rw [h] at hp; exact absurd rfl hp
            · exact h
          have ed:derive t (get o e s).fEnv (get o e s).fSlot e s (get o e s).fRights = (0,put t e s (get o e s)):=by
            unfold derive
            rw [if_neg (by simp [p1t,hht,hmay]),if_neg hp,if_neg (by simp [h0]),eg,if_neg (by simp [ec.2.2.2.1]),ec.2.2.2.2]
          refine ⟨?_,h0,hc,fun _=>⟨p1t,hp⟩⟩
          unfold more1
          rw [if_neg hno,hf,if_neg hpos,ed]; rfl
  · left
    exact ⟨by unfold more1; rw [if_pos (.inl (by simpa using h1))],fun h=>absurd h h1⟩
structure Way (o t0 t:T) (b:Bool) (D:Nat→Nat→Prop):Prop where
  ok:Ok t
  sub:Sub t o
  same:b = false→t = t0
  no:b = false→∀ e s:Nat,D e s→(more1 o t0 e s).1 = false
  le:miss o t ≤ miss o t0
  lt:b = true→miss o t < miss o t0
theorem way_step {n:Int} {o t0 t:T} {b:Bool} {D:Nat→Nat→Prop} (hn:n ≤ 16) (ok:Ok o) (F:fB n o) (w:Way o t0 t b D) {e s:Nat} (he:e < o.length) (hs:s < 8) :
    Way o t0 (more1 o t e s).2 (b || (more1 o t e s).1) (fun a i=>D a i∨(a = e∧i = s)):=by
  have hh:has o e s = true:=has_of he hs
  have hht:has t e s = true:=by rw [sub_has w.sub]; exact hh
  rcases more1_is hn ok F w.ok w.sub hh with ⟨e1,h1⟩ | ⟨e1,h0,hc,hp⟩
  · rw [e1,Bool.or_false]
    refine ⟨w.ok,w.sub,w.same,fun hb a i hd=>?_,w.le,w.lt⟩
    rcases hd with hd | ⟨rfl,rfl⟩
    · exact w.no hb a i hd
    · have:=w.same hb
      rw [← this,e1]
  · rw [e1,Bool.or_true]
    have gp:∀ a i,has o a i = true→get (put t e s (get o e s)) a i = if a = e∧i = s then get o e s else get t a i:=fun a i hai=>wW w.ok.row hht (by rw [sub_has w.sub]; exact hai) _
    have hlt:miss o (put t e s (get o e s)) < miss o t:=by
      unfold miss
      refine countP_lt (a:=(e,s)) (fun q hq hm=>?_) (mem_pairs.2 ⟨he,hs⟩) ?_ ?_
      · unfold missing at hm ⊢
        rw [Bool.and_eq_true] at hm ⊢
        refine ⟨hm.1,?_⟩
        have hq':=(tE.1 hm.1).1
        have hm2:¬ (at_ (put t e s (get o e s)) q.1 q.2).2 = true:=by simpa using hm.2
        have:¬ (at_ t q.1 q.2).2 = true:=by
          intro hat
          apply hm2
          have h3:=tE.1 hat
          refine tE.2 ⟨by rw [ug]; exact h3.1,?_⟩
          rw [gp _ _ hq']
          split
          · exact hc
          · exact h3.2
        simpa using this
      · unfold missing
        have a1:(at_ o e s).2 = true:=tE.2 ⟨hh,hc⟩
        have a2:(at_ t e s).2 = false:=by
          cases hat:(at_ t e s).2 with
          | false=>rfl
          | true=>exact absurd h0 (tE.1 hat).2
        simp only [a1,a2]; rfl
      · unfold missing
        have a2:(at_ (put t e s (get o e s)) e s).2 = true:=tE.2 ⟨by rw [ug]; exact hht,by rw [gp _ _ hh,if_pos ⟨rfl,rfl⟩]; exact hc⟩
        simp only [a2]; simp
    refine ⟨ok_put w.ok hht h0 _ hp,⟨by rw [put_len]; exact w.sub.len,fun a i hai=>?_⟩,fun h=>(by cases h),fun h=>(by cases h),Nat.le_of_lt (Nat.lt_of_lt_of_le hlt w.le),fun _=>Nat.lt_of_lt_of_le hlt w.le⟩
    rw [gp a i hai]
    split
    · rename_i hai2; obtain ⟨rfl,rfl⟩:=hai2; exact .inr rfl
    · exact w.sub.get a i hai
theorem way_mono {o t0 t:T} {b:Bool} {D D':Nat→Nat→Prop} (w:Way o t0 t b D) (h:∀ e s,D' e s→D e s):Way o t0 t b D':=⟨w.ok,w.sub,w.same,fun hb e s hd=>w.no hb e s (h e s hd),w.le,w.lt⟩
theorem way_row {n:Int} {o t0 t:T} {b:Bool} {e:Nat} (hn:n ≤ 16) (ok:Ok o) (F:fB n o) (he:e < o.length) (w:Way o t0 t b (fun a i=>a < e∧i < 8)):∀ j,j ≤ 8→Way o t0 (moreS o e j (b,t)).2 (moreS o e j (b,t)).1 (fun a i=>a < e∧i < 8∨a = e∧i < j)
  | 0,_=>way_mono w fun a i h=>by rcases h with h | h; exact h; omega
  | j + 1,hj=>by
    have:=way_step hn ok F (way_row hn ok F he w j (by omega)) he (s:=j) (by omega)
    exact way_mono this fun a i h=>by
      rcases h with h | h
      · exact .inl (.inl h)
      · by_cases e1:i = j
        · exact .inr ⟨h.1,e1⟩
        · exact .inl (.inr ⟨h.1,by omega⟩)
theorem way_all {n:Int} {o t:T} (hn:n ≤ 16) (ok:Ok o) (F:fB n o) (okt:Ok t) (sb:Sub t o):∀ m,m ≤ o.length→Way o t (moreE o m (false,t)).2 (moreE o m (false,t)).1 (fun a i=>a < m∧i < 8)
  | 0,_=>⟨okt,sb,fun _=>rfl,fun _ e s h=>(by omega),Nat.le_refl _,fun h=>(by cases h)⟩
  | m + 1,hm=>by
    have:=way_row hn ok F (e:=m) (by omega) (way_all hn ok F okt sb m (by omega)) 8 (Nat.le_refl _)
    exact way_mono this fun a i h=>by
      by_cases e1:a = m
      · exact .inr ⟨e1,h.2⟩
      · exact .inl ⟨by omega,h.2⟩
theorem all_there {n:Int} {o t:T} (hn:n ≤ 16) (ok:Ok o) (F:fB n o) (okt:Ok t) (sb:Sub t o) (hno:∀ e s:Nat,e < o.length→s < 8→(more1 o t e s).1 = false):t = o:=by
  obtain ⟨rank,hr⟩:=ok.rk
  have key:∀ (r:Nat) (e s:Nat),e < o.length→s < 8→rank e s ≤ r→get t e s = get o e s:=by
    intro r
    induction r using Nat.strongRecOn with
    | _ r ih =>
      intro e s he hs hrk
      have hh:has o e s = true:=has_of he hs
      by_cases hz:(get o e s).fRights = 0
      · have e0:=cap_empty (F e s hh) hz
        rcases sb.get e s hh with h | h
        · rw [h,e0]
        · exact h
      · rcases more1_is hn ok F okt sb hh with ⟨e1,h1⟩ | ⟨e1,_⟩
        · rcases h1 (tE.2 ⟨hh,hz⟩) with h2 | ⟨h2,h3⟩
          · rcases sb.get e s hh with h | h
            · have:=(tE.1 h2).2; rw [h] at this; exact absurd rfl this
            · exact h
          · exfalso
            obtain ⟨q1,q2,q3⟩:=hr e s hh hz h2
            obtain ⟨a,i,ea,ei,ha,hi⟩:=has_nat q1
            rw [ea,ei] at q2 q3 h3
            have:=ih (rank a i) (by omega) a i ha hi (Nat.le_refl _)
            rw [this] at h3; exact q2 h3
        · have:=hno e s he hs
          rw [e1] at this; cases this
  apply List.ext_getElem?
  intro m
  by_cases hm:m < o.length
  · have hmt:m < t.length:=by rw [sb.len]; exact hm
    rw [List.getElem?_eq_getElem hm,List.getElem?_eq_getElem hmt]
    congr 1
    have l1:=ok.row _ (List.getElem_mem hm)
    have l2:=okt.row _ (List.getElem_mem hmt)
    apply List.ext_getElem (by rw [l1,l2])
    intro s h1 h2
    have hs:s < 8:=by omega
    obtain ⟨_,g1⟩:=get_nat' ok.row hm hs
    obtain ⟨_,g2⟩:=get_nat' okt.row hmt hs
    rw [← g1,← g2]
    exact key _ m s hm hs (Nat.le_refl _)
  · have hmt:¬ m < t.length:=by rw [sb.len]; exact hm
    rw [List.getElem?_eq_none (Nat.le_of_not_lt hm),List.getElem?_eq_none (Nat.le_of_not_lt hmt)]
end Caps
end Go.Proofs.YtniiiakkdoiaiaaGreatDoor
namespace Go.Proofs.YtniiiakkdoiaiaaGreatDoor
open Go Mb
theorem sp_plain_more (zb ob:Nat) (kc oc:List Value) (ts:Sl) (pc po:Ptr) (t o:Caps.T) (h4:kc[4]? = some (sv ts)) (h6:kc[6]? = some (pv pc)) (o6:oc[6]? = some (pv po)) (hl:ts.len = o.length) (hb:o.length ≤ 4) :
    Sp Tryz.prog mq [pv (some (zb,0)),pv (some (ob,0))] aG [blk zb cF kc,cM pc t,blk ob cF oc,cM po o]
      (fun r=>pa_ (r = (Caps.moreE o o.length (false,t)).1) [blk zb cF kc,cM pc (Caps.moreE o o.length (false,t)).2,blk ob cF oc,cM po o]):=by
  intro h s0
  refine sim_plain_Kernel_more _ _ ?_
  unfold qy
  refine cK (bA ts s0 (i:=0) rfl rfl h4 ?_)
  refine Lp.intro (fun (z:Bool × Int) h=>∃ m:Nat,z.2 = m∧m ≤ o.length∧z.1 = (Caps.moreE o m (false,t)).1∧aO [blk zb cF kc,cM pc (Caps.moreE o m (false,t)).2,blk ob cF oc,cM po o] h) (fun (z:Bool × Int) _=>o.length - z.2.toNat) ⟨0,rfl,Nat.zero_le _,rfl,s0⟩ ?_
  rintro ⟨b,i⟩ h ⟨m,rfl,hm,rfl,s1⟩
  unfold kX
  refine bi (fun k=>?_) (fun k=>?_)
  · have hlt:m < o.length:=by rw [hl] at k; simpa using k
    have hw:IntKind.i64.wrap ((m:Int) + 1) = ((m + 1:Nat):Int):=by rw [cj (by omega) (by omega)]; rfl
    refine Lp.intro (fun (z:Bool × Int) h=>∃ j:Nat,z.2 = j∧j ≤ 8∧z.1 = (Caps.moreS o m j (Caps.moreE o m (false,t))).1∧aO [blk zb cF kc,cM pc (Caps.moreS o m j (Caps.moreE o m (false,t))).2,blk ob cF oc,cM po o] h) (fun (z:Bool × Int) _=>8 - z.2.toNat) ⟨0,rfl,Nat.zero_le _,rfl,s1⟩ ?_
    rintro ⟨b,i⟩ h ⟨j,rfl,hj,rfl,s2⟩
    unfold kW
    refine bi (fun k2=>?_) (fun k2=>?_)
    · have hlt2:j < 8:=by have:=of_decide_eq_true k2; simp at this; omega
      have hw2:IntKind.i64.wrap ((j:Int) + 1) = ((j + 1:Nat):Int):=by rw [cj (by omega) (by omega)]; rfl
      have es:Caps.moreS o m (j + 1) (Caps.moreE o m (false,t)) = ((Caps.moreS o m j (Caps.moreE o m (false,t))).1 || (Caps.more1 o (Caps.moreS o m j (Caps.moreE o m (false,t))).2 m j).1,(Caps.more1 o (Caps.moreS o m j (Caps.moreE o m (false,t))).2 m j).2):=rfl
      generalize hst:Caps.moreS o m j (Caps.moreE o m (false,t)) = st at *
      refine cK (bA po s2 (i:=2) rfl rfl o6 ?_)
      refine ce (jO po o m j) (i:=3) rfl s2 fun r h3 hr s3=>?_
      subst hr
      refine bA pc s3 (i:=0) rfl rfl h6 ?_
      refine ce (jO pc st.2 m j) (i:=1) rfl s3 fun r h4 hr s4=>?_
      subst hr
      rw [hw2]
      refine bi (fun k3=>?_) (fun k3=>?_)
      · have k3':(Caps.at_ o m j).2 = false∨(Caps.at_ st.2 m j).2 = true:=by simpa using k3
        have e1:Caps.more1 o st.2 m j = (false,st.2):=if_pos k3'
        refine ⟨⟨j + 1,rfl,hlt2,?_,?_⟩,by simp; omega⟩
        · rw [es,e1]; simp
        · rw [es,e1]; exact s4
      · have k3':¬ ((Caps.at_ o m j).2 = false∨(Caps.at_ st.2 m j).2 = true):=by simp at k3; simp [k3]
        refine bi (fun k4=>?_) (fun k4=>?_)
        · have e1:Caps.more1 o st.2 m j = ((Caps.root st.2 m j (Caps.at_ o m j).1.fFrame).1 == 0,(Caps.root st.2 m j (Caps.at_ o m j).1.fFrame).2):=by unfold Caps.more1; rw [if_neg k3',if_pos (by simpa using k4)]
          refine bA pc s4 (i:=0) rfl rfl h6 ?_
          refine ce (wi pc st.2 m j _) (i:=1) rfl s4 fun r h5 hr s5=>?_
          subst hr
          refine ⟨⟨j + 1,rfl,hlt2,?_,?_⟩,by simp; omega⟩
          · rw [es,e1]
          · rw [es,e1]; exact s5
        · have e1:Caps.more1 o st.2 m j = ((Caps.derive st.2 (Caps.at_ o m j).1.fEnv (Caps.at_ o m j).1.fSlot m j (Caps.at_ o m j).1.fRights).1 == 0,(Caps.derive st.2 (Caps.at_ o m j).1.fEnv (Caps.at_ o m j).1.fSlot m j (Caps.at_ o m j).1.fRights).2):=by unfold Caps.more1; rw [if_neg k3',if_neg (by simpa using k4)]
          refine bA pc s4 (i:=0) rfl rfl h6 ?_
          refine ce (sA pc st.2 _ _ m j _) (i:=1) rfl s4 fun r h5 hr s5=>?_
          subst hr
          refine ⟨⟨j + 1,rfl,hlt2,?_,?_⟩,by simp; omega⟩
          · rw [es,e1]
          · rw [es,e1]; exact s5
    · have:j = 8:=by have:=of_decide_eq_false k2; simp at this; omega
      subst this
      rw [hw]
      exact ⟨⟨m + 1,rfl,hlt,rfl,s2⟩,by simp; omega⟩
  · have:m = o.length:=by rw [hl] at k; simp at k; omega
    subst this
    exact bg rfl s1
section
variable {α:Type}
def fq (xs:List α) (d:α) (n:Nat):List α:=xs.take n++List.replicate (xs.length - n) d
theorem mixd_len (xs:List α) (d:α) {n:Nat} (h:n ≤ xs.length):(fq xs d n).length = xs.length:=by simp [fq]; omega
theorem sj (xs:List α) (d:α):fq xs d 0 = List.replicate xs.length d:=by simp [fq]
theorem vw (xs:List α) (d:α):fq xs d xs.length = xs:=by simp [fq]
theorem mixd_get (xs:List α) (d:α) {n:Nat} (h:n < xs.length):(fq xs d n)[n]? = some d:=by
  unfold fq
  rw [List.getElem?_append_right (by simp; omega),List.getElem?_replicate,if_pos (by simp; omega)]
theorem qI (xs:List α) (d:α) {n:Nat} (h:n < xs.length):(fq xs d n).set n xs[n] = fq xs d (n + 1):=by
  unfold fq
  rw [List.set_append_right _ _ (by simp; omega)]
  have e1:n - (xs.take n).length = 0:=by simp; omega
  have e2:xs.length - n = (xs.length - (n + 1)) + 1:=by omega
  rw [e1,e2,List.replicate_succ,List.set_cons_zero]
  have e3:xs.take (n + 1) = xs.take n++[xs[n]]:=by simp
  rw [e3,List.append_assoc]; rfl
end
theorem put_ok {p:Pte} (h:PteFine p) (h0:p.fRights ≠ 0):(gy p).2 = true:=by
  rcases h with h | ⟨h1,h2,h3,h4,h5⟩
  · rw [h] at h0; exact absurd rfl h0
  · unfold gy
    have e1:ar.eqb p ⟨0,0,0⟩ = false:=by
      unfold ar.eqb
      have:(p.fRights == 0) = false:=by simpa using h0
      simp [this]
    have e2:(((((decide (p.fFrame < 0)) || (decide (p.fFrame ≥ 16))) || (decide (p.fSlot < 0))) || (decide (p.fSlot ≥ 8))) || (!(cJ p.fRights))) = false:=by
      simp [h5]; omega
    rw [e1,e2]; rfl
theorem insert_mixd {row:List Pte} (h:pB row) {j:Nat} (hj:j < 8) (hr:row[j]?.map (·.fRights) ≠ some 0):Table.insert (fq row eB j) j (row.getD j eB) = (0,fq row eB (j + 1)):=by
  have hjl:j < row.length:=by rw [h.1]; exact hj
  have hg:row.getD j eB = row[j]:=by simp [hjl]
  rw [hg]
  have h0:row[j].fRights ≠ 0:=by
    intro e; apply hr; rw [List.getElem?_eq_getElem hjl]; simp [e]
  have hp:=put_ok (h.2 _ (List.getElem_mem hjl)) h0
  have hat:Table.at_ (fq row eB j) j = eB:=by
    unfold Table.at_
    rw [Int.toNat_natCast,List.getD_eq_getElem?_getD,mixd_get row eB hjl]; rfl
  have his:cG j = true:=by unfold cG; simp; omega
  unfold Table.insert
  rw [if_neg (by simp [hp,h0,his]),hat,if_neg (by simp),Int.toNat_natCast,qI row eB hjl]
theorem idx_rep (m:Nat):∀ (f:Nat) (i:Int),fX 0 (List.replicate f 1++List.replicate (m + 1) 0) i = i + f
  | 0,i=>by simp [fX,List.replicate_succ]
  | f + 1,i=>by
    rw [List.replicate_succ,List.cons_append,fX,if_neg (by decide),idx_rep m f (i + 1)]
    omega
theorem take_mixd {F f:Nat} (h:f < F):(Pool.take (fq (List.replicate F (1:Int)) 0 f)).2.2 = fq (List.replicate F (1:Int)) 0 (f + 1):=by
  have hl:f < (List.replicate F (1:Int)).length:=by simpa using h
  have e:fq (List.replicate F (1:Int)) 0 f = List.replicate f 1++List.replicate ((F - f - 1) + 1) 0:=by
    unfold fq
    rw [List.take_replicate,List.length_replicate,Nat.min_eq_left (by omega)]
    congr 2; omega
  have hi:fX 0 (fq (List.replicate F (1:Int)) 0 f) 0 = f:=by rw [e,idx_rep]; omega
  unfold Pool.take
  rw [hi,if_neg (by omega)]
  have:=qI (List.replicate F (1:Int)) 0 hl
  rw [List.getElem_replicate] at this
  simpa using this
abbrev cpL (zo z:PZ) (o k:PK):List As:=plainL zo o++plainL z k
abbrev Done (z:PZ) (k:PK) (r:Ptr):As:=aO [bE r k,bE (some (z.b,0)) k]
theorem copy7 {zo z:PZ} {o k:PK} {h:Hp} (ok:PK.Ok k) (ho:zo.tp.length = k.tabs.length) (hz:z.tp.length = k.tabs.length) (es:o.s = k.s) (em:o.m = k.m) (et:o.tabs = k.tabs) (ep:o.pool = k.pool) (oko:Caps.Ok o.caps) (sb:Caps.Sub o.caps k.caps)
    (s0:aO (cpL zo z o k) h):Lp (iF (Done z k) (z.b,0) (some (zo.b,0))) () h:=by
  obtain ⟨os,om,ot,op,oc⟩:=o
  simp only at es em et ep oko sb
  subst es; subst em; subst et; subst ep
  have hs:=jr.1 ok.sz
  have hts:=(cr (j:=2) s0 rfl).1
  have hcl:=ok.cl
  have htl:=ok.tl
  refine Lp.ghost (γ:=Caps.T) (fun c _ h=>Caps.Ok c∧Caps.Sub c k.caps∧aO (cpL zo z ⟨k.s,k.m,k.tabs,k.pool,c⟩ k) h) (fun c=>Caps.miss k.caps c) ⟨oko,sb,s0⟩ ?_
  rintro c s h ⟨okc,sbc,s1⟩ R hR
  have w:=Caps.way_all (n:=k.s.fFrames) (by omega) ok.tree ok.fine okc sbc k.caps.length (Nat.le_refl _)
  unfold iF
  refine cR [0,4,4,8] (sp_plain_more zo.b z.b (pT k.s zo) (pT k.s z) zo.ts zo.pc z.pc c k.caps rfl rfl rfl (by omega) (by omega)) s1 rfl fun r h2 s2=>?_
  obtain ⟨hr,s3⟩:=bD.1 s2
  have s4:aO (cpL zo z ⟨k.s,k.m,k.tabs,k.pool,(Caps.moreE k.caps k.caps.length (false,c)).2⟩ k) h2:=bn [0,3,3,3,3,0,0,1,1,1,1,0] s3 rfl
  refine bi (fun d=>?_) (fun d=>?_)
  · exact hR _ () h2 ⟨w.ok,w.sub,s4⟩ (w.lt (by rw [← hr,d]))
  · have hf:(Caps.moreE k.caps k.caps.length (false,c)).1 = false:=by rw [← hr,d]
    have hsame:=w.same hf
    rw [hsame] at s4
    have hc:c = k.caps:=Caps.all_there (n:=k.s.fFrames) (by omega) ok.tree ok.fine okc sbc fun e s he hs=>w.no hf e s ⟨he,hs⟩
    subst hc
    have s5:=db (z:=zo) (k:=k) (l:=plainL z k) ho ok s4
    exact bn [1] (db (z:=z) (k:=k) hz ok (bn [1,1,1,1,1,1] s5 rfl)) rfl
theorem copy5 {zo z:PZ} {o k:PK} {h:Hp} {x92:Sl} (ok:PK.Ok k) (ho:zo.tp.length = k.tabs.length) (hz:z.tp.length = k.tabs.length) (hx:x92.len = k.tabs.length) (es:o.s = k.s) (em:o.m = k.m) (et:o.tabs = List.replicate k.tabs.length (List.replicate 8 eB)) (ep:o.pool = k.pool) (oko:Caps.Ok o.caps) (sb:Caps.Sub o.caps k.caps)
    (s0:aO (cpL zo z o k) h):Lp (iG (Done z k) (z.b,0) (some (zo.b,0)) x92) 0 h:=by
  obtain ⟨os,om,ot,op,oc⟩:=o
  simp only at es em et ep oko sb
  subst es; subst em; subst et; subst ep
  have hs:=jr.1 ok.sz
  have htl:=ok.tl
  have hzs:=(cr (j:=8) s0 rfl).1
  have hos:=(cr (j:=2) s0 rfl).1
  have e0:List.replicate k.tabs.length (List.replicate 8 eB) = fq k.tabs (List.replicate 8 eB) 0:=(sj _ _).symm
  rw [e0] at s0
  refine Lp.intro (fun (i:Int) h=>∃ e:Nat,i = e∧e ≤ k.tabs.length∧aO (cpL zo z ⟨k.s,k.m,fq k.tabs (List.replicate 8 eB) e,k.pool,oc⟩ k) h) (fun (i:Int) _=>k.tabs.length - i.toNat) ⟨0,rfl,Nat.zero_le _,s0⟩ ?_
  rintro i h ⟨e,rfl,he,s1⟩
  unfold iG
  refine bi (fun d=>?_) (fun d=>?_)
  · have hlt:e < k.tabs.length:=by rw [hx] at d; simpa using d
    have hw:IntKind.i64.wrap ((e:Int) + 1) = ((e + 1:Nat):Int):=by rw [cj (by omega) (by omega)]; rfl
    have htab:pB k.tabs[e]:=ok.tr _ (List.getElem_mem hlt)
    have hml:=mixd_len k.tabs (List.replicate 8 eB) he
    have heo:e < zo.tp.length:=by omega
    have hez:e < z.tp.length:=by omega
    have hmg:=mixd_get k.tabs (List.replicate 8 eB) hlt
    have r0:List.replicate 8 eB = fq k.tabs[e] eB 0:=by rw [sj,htab.1]
    refine Lp.intro (fun (i:Int) h=>∃ j:Nat,i = j∧j ≤ 8∧aO (cpL zo z ⟨k.s,k.m,(fq k.tabs (List.replicate 8 eB) e).set e (fq k.tabs[e] eB j),k.pool,oc⟩ k) h) (fun (i:Int) _=>8 - i.toNat) ⟨0,rfl,Nat.zero_le _,?_⟩ ?_
    · rw [← r0,iE hmg]; exact s1
    rintro i h ⟨j,rfl,hj,s2⟩
    unfold kY
    refine bi (fun d2=>?_) (fun d2=>?_)
    · have hlt2:j < 8:=by have:=of_decide_eq_true d2; omega
      have hjl:j < k.tabs[e].length:=by rw [htab.1]; exact hlt2
      have hw2:IntKind.i64.wrap ((j:Int) + 1) = ((j + 1:Nat):Int):=by rw [cj (by omega) (by omega)]; rfl
      have his:cG j = true:=by unfold cG; simp; omega
      have hat:Table.at_ k.tabs[e] j = k.tabs[e][j]:=by simp [Table.at_,hjl]
      refine bA z.ts s2 (i:=6) rfl rfl rfl ?_
      refine dF s2 (j:=8) rfl (by omega) (by omega) fun q hq=>?_
      refine eC (j:=8) (i:=e) (k:=0) z.tp[e] gQ s2 rfl hq (by simp) (aN hez) (by simp) ?_
      have s3:=jm (aN hez) (aN hlt) (bn [9] s2 rfl)
      refine ce (ny z.tp[e] k.tabs[e] j) (i:=0) rfl s3 fun r h4 hr s4=>?_
      subst hr
      have s5:aO (cpL zo z ⟨k.s,k.m,(fq k.tabs (List.replicate 8 eB) e).set e (fq k.tabs[e] eB j),k.pool,oc⟩ k) h4:=bn [1,1,1,1,1,1,1,1,1,0] (vS (aN hez) (aN hlt) hz s4) rfl
      refine bi (fun d3=>?_) (fun d3=>?_)
      · have hne:k.tabs[e][j].fRights ≠ 0:=by
          unfold Table.get at d3
          split at d3
          · rename_i hh; rw [hat] at hh; exact hh.2
          · cases d3
        have eg:(Table.get k.tabs[e] j).1 = k.tabs[e].getD j eB:=by
          unfold Table.get; rw [hat,if_pos ⟨his,hne⟩]; simp [hjl]
        have ei:=insert_mixd htab hlt2 (by rw [List.getElem?_eq_getElem hjl]; simpa using hne)
        rw [eg]
        refine cK (bA zo.ts s5 (i:=0) rfl rfl rfl ?_)
        refine dF s5 (j:=2) rfl (by omega) (by omega) fun q2 hq2=>?_
        refine eC (j:=2) (i:=e) (k:=0) zo.tp[e] gQ s5 rfl hq2 (by simp) (aN heo) (by simp) ?_
        have eQ:((fq k.tabs (List.replicate 8 eB) e).set e (fq k.tabs[e] eB j))[e]? = some (fq k.tabs[e] eB j):=by rw [List.getElem?_set,if_pos rfl,if_pos (by rw [hml]; exact hlt)]
        have s6:=jm (aN heo) eQ (bn [3] s5 rfl)
        refine ce (ke zo.tp[e] _ j _) (i:=0) rfl s6 fun r h7 hr s7=>?_
        rw [ei] at s7
        have s8:=xh (aN heo) (by rw [List.length_set,hml]; exact hlt) (by rw [List.length_set,hml]; exact ho) s7
        rw [List.set_set] at s8
        rw [hw2]
        exact ⟨⟨j + 1,rfl,hlt2,bn [1,1,1] s8 rfl⟩,by simp; omega⟩
      · have hze:k.tabs[e][j] = eB:=by
          rcases htab.2 _ (List.getElem_mem hjl) with h | h
          · exact h
          · have:=may_iff.1 h.2.2.2.2
            unfold Table.get at d3
            rw [hat,if_pos ⟨his,by omega⟩] at d3; cases d3
        have hsame:fq k.tabs[e] eB j = fq k.tabs[e] eB (j + 1):=by
          rw [← qI _ _ hjl,hze,iE (mixd_get _ _ hjl)]
        rw [hsame] at s5
        rw [hw2]
        exact ⟨⟨j + 1,rfl,hlt2,s5⟩,by simp; omega⟩
    · have:j = 8:=by have:=of_decide_eq_false d2; omega
      subst this
      have er:fq k.tabs[e] eB 8 = k.tabs[e]:=by have:=vw k.tabs[e] eB; rw [htab.1] at this; exact this
      rw [er,qI _ _ hlt] at s2
      rw [hw]
      exact ⟨⟨e + 1,rfl,hlt,s2⟩,by simp; omega⟩
  · have:e = k.tabs.length:=by rw [hx] at d; simp at d; omega
    subst this
    rw [vw] at s1
    exact copy7 (o:=⟨k.s,k.m,k.tabs,k.pool,oc⟩) ok ho hz rfl rfl rfl rfl oko sb s1
theorem refs_nat {p:List Int} {f:Nat} (h:f < p.length):Pool.refs p f = p[f]:=by
  unfold Pool.refs; rw [if_neg (by omega)]; simp [h]
theorem copy3 {zo z:PZ} {o k:PK} {h:Hp} (ok:PK.Ok k) (ho:zo.tp.length = k.tabs.length) (hz:z.tp.length = k.tabs.length) (es:o.s = k.s) (em:o.m = k.m) (et:o.tabs = List.replicate k.tabs.length (List.replicate 8 eB)) (ep:o.pool = List.replicate k.pool.length 1) (oko:Caps.Ok o.caps) (sb:Caps.Sub o.caps k.caps)
    (s0:aO (cpL zo z o k) h):Lp (iH (Done z k) (z.b,0) (some (zo.b,0)) k.s.fFrames) 0 h:=by
  obtain ⟨os,om,ot,op,oc⟩:=o
  simp only at es em et ep oko sb
  subst es; subst em; subst et; subst ep
  have hs:=jr.1 ok.sz
  have hpl:=ok.pl
  rw [← sj k.pool 1] at s0
  refine Lp.intro (fun (i:Int) h=>∃ f:Nat,i = f∧f ≤ k.pool.length∧aO (cpL zo z ⟨k.s,k.m,List.replicate k.tabs.length (List.replicate 8 eB),fq k.pool 1 f,oc⟩ k) h) (fun (i:Int) _=>k.pool.length - i.toNat) ⟨0,rfl,Nat.zero_le _,s0⟩ ?_
  rintro i h ⟨f,rfl,hf,s1⟩
  unfold iH
  refine bi (fun d=>?_) (fun d=>?_)
  · have hlt:f < k.pool.length:=by have:=of_decide_eq_true d; omega
    have hw:IntKind.i64.wrap ((f:Int) + 1) = ((f + 1:Nat):Int):=by rw [cj (by omega) (by omega)]; rfl
    have hml:=mixd_len k.pool 1 hf
    have hmg:=mixd_get k.pool 1 hlt
    have hr7:=ok.pr _ (List.getElem_mem hlt)
    refine bA z.pp s1 (i:=6) rfl rfl rfl ?_
    refine ce (we z.pp k.pool f) (i:=10) rfl s1 fun r h2 hr s2=>?_
    rw [refs_nat hlt] at hr
    subst hr
    have hw0:IntKind.i64.wrap (k.pool[f] - 1) = k.pool[f] - 1:=cj (by omega) (by omega)
    refine Lp.intro (fun (i:Int) h=>∃ j:Nat,i = j∧(j:Int) ≤ max 0 (k.pool[f] - 1)∧aO (cpL zo z ⟨k.s,k.m,List.replicate k.tabs.length (List.replicate 8 eB),(fq k.pool 1 f).set f (1 + (j:Int)),oc⟩ k) h) (fun (i:Int) _=>(8 - i).toNat) ⟨0,rfl,by omega,?_⟩ ?_
    · have:(fq k.pool 1 f).set f (1 + ((0:Nat):Int)) = fq k.pool 1 f:=by
        rw [show (1:Int) + ((0:Nat):Int) = 1 from rfl,iE hmg]
      rw [this]; exact s2
    rintro i h ⟨j,rfl,hj,s3⟩
    have eQ:f < ((fq k.pool 1 f).set f (1 + (j:Int))).length:=by rw [List.length_set,hml]; exact hlt
    have hgs:((fq k.pool 1 f).set f (1 + (j:Int)))[f] = 1 + (j:Int):=by simp
    unfold kZ
    rw [hw0]
    refine bi (fun d2=>?_) (fun d2=>?_)
    · have hlt2:(j:Int) < k.pool[f] - 1:=of_decide_eq_true d2
      have hw2:IntKind.i64.wrap ((j:Int) + 1) = ((j + 1:Nat):Int):=by rw [cj (by omega) (by omega)]; rfl
      refine cK (bA zo.pp s3 (i:=0) rfl rfl rfl ?_)
      refine ce (sp_pool_Hold zo.pp _ f) (i:=4) rfl s3 fun r h4 hr s4=>?_
      have eh:(Pool.hold ((fq k.pool 1 f).set f (1 + (j:Int))) f).2 = (fq k.pool 1 f).set f (1 + ((j + 1:Nat):Int)):=by
        unfold Pool.hold
        rw [refs_nat eQ,hgs,if_neg (by omega),Int.toNat_natCast,List.set_set,cj (by omega) (by omega)]
        congr 1 <;> omega
      rw [eh] at s4
      rw [hw2]
      exact ⟨⟨j + 1,rfl,by omega,s4⟩,by omega⟩
    · have hge:¬ (j:Int) < k.pool[f] - 1:=of_decide_eq_false d2
      rw [hw]
      refine bi (fun d3=>?_) (fun d3=>?_)
      · have h0:k.pool[f] = 0:=by simpa using d3
        have hj0:j = 0:=by omega
        subst hj0
        refine cK (bA zo.pp s3 (i:=0) rfl rfl rfl ?_)
        refine ce (sp_pool_Let zo.pp _ f) (i:=4) rfl s3 fun r h4 hr s4=>?_
        have eh:(Pool.lets ((fq k.pool 1 f).set f (1 + ((0:Nat):Int))) f).2.2 = fq k.pool 1 (f + 1):=by
          unfold Pool.lets
          rw [refs_nat eQ,hgs,if_neg (by omega),Int.toNat_natCast,List.set_set,cj (by omega) (by omega),← qI _ _ hlt,h0]
          rfl
        rw [eh] at s4
        exact ⟨⟨f + 1,rfl,hlt,s4⟩,by simp; omega⟩
      · have h0:k.pool[f] ≠ 0:=by simpa using d3
        have ej:1 + (j:Int) = k.pool[f]:=by omega
        rw [ej,qI _ _ hlt] at s3
        exact ⟨⟨f + 1,rfl,hlt,s3⟩,by simp; omega⟩
  · have:f = k.pool.length:=by have:=of_decide_eq_false d; omega
    subst this
    rw [vw] at s1
    have hzs:=(cr (j:=8) s1 rfl).1
    refine bA z.ts s1 (i:=6) rfl rfl rfl ?_
    exact copy5 (o:=⟨k.s,k.m,List.replicate k.tabs.length (List.replicate 8 eB),k.pool,oc⟩) ok ho hz (by omega) rfl rfl rfl rfl oko sb s1
theorem frame_nat {m:List (List Int)} {f:Nat} (h:f < m.length):Mem.frame m f = m[f]:=by
  have hh:Mem.has m f 0:=⟨by omega,by omega,by omega,by omega⟩
  unfold Mem.frame
  rw [if_pos hh]
  simp [h]
theorem copy1 {zo z:PZ} {o k:PK} {h:Hp} (ok:PK.Ok k) (ho:zo.tp.length = k.tabs.length) (hz:z.tp.length = k.tabs.length) (es:o.s = k.s) (em:o.m = List.replicate k.m.length (List.replicate 16 0)) (et:o.tabs = List.replicate k.tabs.length (List.replicate 8 eB)) (ep:o.pool = List.replicate k.pool.length 0) (oko:Caps.Ok o.caps) (sb:Caps.Sub o.caps k.caps)
    (s0:aO (cpL zo z o k) h):Lp (iI (Done z k) (z.b,0) (some (zo.b,0)) k.s.fFrames) 0 h:=by
  obtain ⟨os,om,ot,op,oc⟩:=o
  simp only at es em et ep oko sb
  subst es; subst em; subst et; subst ep
  have hs:=jr.1 ok.sz
  have hpl:=ok.pl
  have hml:=ok.ml
  have hpm:k.pool.length = k.m.length:=by omega
  rw [← sj k.m] at s0
  have ep0:List.replicate k.pool.length (0:Int) = fq (List.replicate k.pool.length (1:Int)) 0 0:=by rw [sj]; simp
  rw [ep0] at s0
  refine Lp.intro (fun (i:Int) h=>∃ f:Nat,i = f∧f ≤ k.m.length∧aO (cpL zo z ⟨k.s,fq k.m (List.replicate 16 0) f,List.replicate k.tabs.length (List.replicate 8 eB),fq (List.replicate k.pool.length (1:Int)) 0 f,oc⟩ k) h) (fun (i:Int) _=>k.m.length - i.toNat) ⟨0,rfl,Nat.zero_le _,s0⟩ ?_
  rintro i h ⟨f,rfl,hf,s1⟩
  unfold iI
  refine bi (fun d=>?_) (fun d=>?_)
  · have hlt:f < k.m.length:=by have:=of_decide_eq_true d; omega
    have hw:IntKind.i64.wrap ((f:Int) + 1) = ((f + 1:Nat):Int):=by rw [cj (by omega) (by omega)]; rfl
    have hrow:=ok.mr _ (List.getElem_mem hlt)
    have hmx:=mixd_len k.m (List.replicate 16 (0:Int)) hf
    have hmg:=mixd_get k.m (List.replicate 16 (0:Int)) hlt
    refine bA z.pm s1 (i:=6) rfl rfl rfl ?_
    refine cl_n (sp_mem_Frame z.pm k.m f) (i:=7) rfl s1 fun r33 h2 s2=>?_
    rw [frame_nat hlt] at s2
    have hrl:=(cr (j:=0) s2 rfl).1
    have r0:List.replicate 16 (0:Int) = fq k.m[f] 0 0:=by rw [sj,hrow]
    refine Lp.intro (fun (i:Int) h=>∃ j:Nat,i = j∧j ≤ 16∧aO (vU r33 k.m[f]::cpL zo z ⟨k.s,(fq k.m (List.replicate 16 0) f).set f (fq k.m[f] 0 j),List.replicate k.tabs.length (List.replicate 8 eB),fq (List.replicate k.pool.length (1:Int)) 0 f,oc⟩ k) h) (fun (i:Int) _=>16 - i.toNat) ⟨0,rfl,Nat.zero_le _,?_⟩ ?_
    · rw [← r0,iE hmg]; exact s2
    rintro i h ⟨j,rfl,hj,s3⟩
    unfold la
    refine bi (fun d2=>?_) (fun d2=>?_)
    · have hlt2:j < 16:=by rw [hrl,hrow] at d2; have:=of_decide_eq_true d2; omega
      have hjl:j < k.m[f].length:=by omega
      have hw2:IntKind.i64.wrap ((j:Int) + 1) = ((j + 1:Nat):Int):=by rw [cj (by omega) (by omega)]; rfl
      refine dF s3 (j:=0) rfl (by omega) (by omega) fun q hq=>?_
      refine eC (j:=0) (i:=j) (k:=0) k.m[f][j] (di _) s3 rfl hq (by simp) (aN hjl) (by simp) ?_
      refine cK (bA zo.pm s3 (i:=1) rfl rfl rfl ?_)
      refine ce (lI zo.pm _ f j k.m[f][j]) (i:=2) rfl s3 fun r h4 hr s4=>?_
      have es:(Mem.store ((fq k.m (List.replicate 16 0) f).set f (fq k.m[f] 0 j)) f j k.m[f][j]).2 = (fq k.m (List.replicate 16 0) f).set f (fq k.m[f] 0 (j + 1)):=by
        have hh:Mem.has ((fq k.m (List.replicate 16 0) f).set f (fq k.m[f] 0 j)) f j:=⟨by omega,by simp only [List.length_set,hmx]; omega,by omega,by omega⟩
        unfold Mem.store
        rw [if_pos hh]
        unfold Mem.put
        simp only [Int.toNat_natCast]
        have hg:((fq k.m (List.replicate 16 0) f).set f (fq k.m[f] 0 j)).getD f [] = fq k.m[f] 0 j:=by rw [List.getD_eq_getElem?_getD,List.getElem?_set,if_pos rfl,if_pos (by rw [hmx]; exact hlt)]; rfl
        rw [hg,List.set_set,qI _ _ hjl]
      rw [es] at s4
      rw [hw2]
      exact ⟨⟨j + 1,rfl,hlt2,s4⟩,by simp; omega⟩
    · have:j = 16:=by rw [hrl,hrow] at d2; have:=of_decide_eq_false d2; omega
      subst this
      have er:fq k.m[f] 0 16 = k.m[f]:=by have:=vw k.m[f] (0:Int); rw [hrow] at this; exact this
      rw [er,qI _ _ hlt] at s3
      refine cK (bA zo.pp s3 (i:=1) rfl rfl rfl ?_)
      refine ce (wd zo.pp _) (i:=5) rfl s3 fun r h4 hr s4=>?_
      rw [take_mixd (by omega)] at s4
      rw [hw]
      exact ⟨⟨f + 1,rfl,hlt,co (l:=[vU r33 k.m[f]]) s4⟩,by simp; omega⟩
  · have:f = k.m.length:=by have:=of_decide_eq_false d; omega
    subst this
    have ea:fq (List.replicate k.pool.length (1:Int)) 0 k.m.length = List.replicate k.pool.length 1:=by
      have:=vw (List.replicate k.pool.length (1:Int)) 0
      rw [List.length_replicate,hpm] at this
      rw [hpm]; exact this
    rw [vw,ea] at s1
    refine bA k.s.fFrames s1 (i:=6) rfl rfl rfl ?_
    exact copy3 (o:=⟨k.s,k.m,List.replicate k.tabs.length (List.replicate 8 eB),List.replicate k.pool.length 1,oc⟩) ok ho hz rfl rfl rfl rfl oko sb s1
theorem three {s:kR} {z:PZ}:∀ (i:Nat) (v:Value),(aP.C s)[i]? = some v→(pT s z)[0 + 0 + i]? = some v:=by
  intro j v hv
  have:j < 3:=(List.getElem?_eq_some_iff.1 hv).1
  match j,this with
  | 0,_=>exact hv
  | 1,_=>exact hv
  | 2,_=>exact hv
theorem uA (x:Ptr) (k:PK):Sp Tryz.prog gE [pv x] dx [bE x k] (fun r=>aO [bE r k,bE x k]):=by
  intro h s0
  obtain ⟨z,rfl,h1,ok,hl,st⟩:=fN s0
  have hs:=jr.1 ok.sz
  refine sim_plain_Kernel_Copy _ ?_
  unfold qB
  refine dH rfl (cK ?_)
  refine ld_s (i:=0) k.s st rfl (fun i v hv=>by simpa using three i v hv) ?_
  refine mb (rK k.s ok.sz) st fun r h2 s2=>?_
  obtain ⟨zo,rfl,ho,okn,hlo,s3⟩:=fN s2
  refine bA k.s.fFrames s3 (i:=6) rfl rfl rfl ?_
  have e1:k.s.fFrames.toNat = k.m.length:=by have:=ok.ml; omega
  have e2:k.s.fEnvs.toNat = k.tabs.length:=by have:=ok.tl; omega
  have e3:k.s.fFrames.toNat = k.pool.length:=by have:=ok.pl; omega
  have e4:k.s.fEnvs.toNat = k.caps.length:=by have:=ok.cl; omega
  refine copy1 (o:=PK.new k.s) ok ?_ h1 rfl (by simp only [PK.new,e1]) (by simp only [PK.new,e2]) (by simp only [PK.new,e3]) okn.tree ⟨by simp only [PK.new,List.length_replicate,e4],fun e s hh=>.inl ?_⟩ s3
  · rw [ho]; simp only [PK.new,List.length_replicate,e2]
  · obtain ⟨a,b,rfl,rfl,ha,hb⟩:=Caps.has_nat hh
    simp only [Caps.get,PK.new,e4,Int.toNat_natCast,List.getD_eq_getElem?_getD,List.getElem?_replicate,if_pos ha,Option.getD_some,if_pos hb]
end Go.Proofs.YtniiiakkdoiaiaaGreatDoor
namespace Go.Proofs.YtniiiakkdoiaiaaGreatDoor
open Go Mb
set_option linter.unusedVariables false
def og (K:Bool→Hp→Prop):Hp→Prop:=cl Tryz.prog lg [(.agg (aP.C (⟨1,2,2⟩:aP)).toArray)] dx fun r23=>cl Tryz.prog wO [(.int .i64 2)] se fun r24=>cl Tryz.prog nE [(.int .i64 3)] iA fun r25=>cl Tryz.prog iu [] gB fun r26=>cl Tryz.prog lc [] ij fun r27=>cl Tryz.prog vu [(.int .i64 2)] tH fun r28=>br (((((r23.isNone || r24.isNone) || r25.isNone) || r26.isNone) || r27.isNone) || r28.isNone) ( K false) ( cl Tryz.prog dE [(pv r23),(.int .i64 0),(.agg (ap.C (⟨1,1,0,0,0⟩:ap)).toArray)] bv fun r54=>cl Tryz.prog dE [(pv r23),(.int .i64 0),(.agg (ap.C (⟨6,2,1,3,0⟩:ap)).toArray)] bv fun r60=>cl Tryz.prog dE [(pv r23),(.int .i64 0),(.agg (ap.C (⟨21,2,5,77,0⟩:ap)).toArray)] bv fun r65=>cl Tryz.prog dE [(pv r23),(.int .i64 0),(.agg (ap.C (⟨20,2,5,0,0⟩:ap)).toArray)] bv fun r69=>cl Tryz.prog jz [(pv r24),(.int .i64 0),(.int .i64 1),(.int .i64 1)] bu fun r73=>cl Tryz.prog ic [(pv r24),(.int .i64 0),(.int .i64 1),(.int .i64 1),(.int .i64 3),(.int .i64 1)] bu fun r75=>cl Tryz.prog iN [(pv r25),(.int .i64 0)] bT fun r78=>cl Tryz.prog jW [(pv r25),(.int .i64 1),(.int .u64 r78.1)] aG fun r83=>cl Tryz.prog ee [(pv r27),(.int .i64 2),(.agg (ar.C (⟨1,1,1⟩:ar)).toArray)] bu fun r86=>cl Tryz.prog n_user_Do [(pv r26),(pv r27),(pv r28),(.int .i64 0),(.agg (ap.C (⟨20,2,3,0,0⟩:ap)).toArray)] eK fun r92=>cl Tryz.prog nc [(pv r23),(.int .i64 0),(.agg (ap.C (⟨7,5,0,0,0⟩:ap)).toArray)] il fun r97=>cl Tryz.prog ll [] aG fun r98=>br ((((((r98 && r54.2) && (r54.1.fErr == 0)) && (r60.1.fErr == 0)) && (r69.1.fVal == 77)) && (r73 == 0)) && (r75 == 0)) ( cl Tryz.prog kQ [(pv r24),(.int .i64 0),(.int .i64 1)] cY fun r127=>br (((((r127.len:Int) == 1) && (r78.1 == 1)) && r78.2) && r83) ( cl Tryz.prog jk [(pv r25),(.int .u64 1)] aG fun r143=>br (!r143) ( cl Tryz.prog iM [(pv r25),(.int .u64 1)] cz fun r148=>br ((((((r148.len:Int) == 1) && (r86 == 0)) && (r92.1.fErr == 0)) && (r92.2.fFrame == 1)) && (mH 3 3 4)) ( cl Tryz.prog kq [(.int .i64 3)] il fun r171=>cl Tryz.prog nD [r97,r171] aG fun r172=>br r172 ( cl Tryz.prog jj [(pv r23)] cz fun r176=>K ((r176.len:Int) == 1)) ( K false)) ( K false)) ( K false)) ( K false)) ( K false))
set_option maxRecDepth 20000 in
theorem uT {K:Bool→Hp→Prop} {h:Hp} (H:og K h):Ct Tryz.prog kB #[] h fun v h'=>∃ r,v = aG r∧K r h':=aA [] Tryz.func87 rfl rfl rfl fun _=>ag<|ab<|aa (ae rfl) rfl<|ad<|ag<|ab<|aa (bj rfl (tC 1 2 2)) rfl<|aj (az H en_60 rfl rfl fun r23 _ H1=>aj (az H1 en_92 rfl rfl fun r24 _ H2=>aj (az H2 en_62 rfl rfl fun r25 _ H3=>aa (ae rfl) rfl<|aa (ae rfl) rfl<|aa (ae rfl) rfl<|ad<|ag<|ab<|aj (az H3 en_63 rfl rfl fun r26 _ H4=>aj (az H4 en_93 rfl rfl fun r27 _ H5=>aj (az H5 en_90 rfl rfl fun r28 _ H6=>aa (ae rfl) rfl<|aa (ae rfl) rfl<|aa (ae rfl) rfl<|ad<|ag<|ag<|ab<|aa (ac rfl) rfl<|aa (ct Tryz.underlying93 rfl) rfl<|aa (ac rfl) rfl<|ak rfl rfl rfl (aX _) (fun g7=>wv (ac rfl)) rfl<|ak rfl rfl rfl (aX _) (fun g8=>wv (ct Tryz.underlying128 (aK rfl g8))) rfl<|aa (dD rfl rfl) rfl<|aa (ac rfl) rfl<|ak rfl rfl rfl (aX _) (fun g9=>wv (ac rfl)) rfl<|ak rfl rfl rfl (aX _) (fun g10=>wv (ct Tryz.underlying97 (aK rfl g10))) rfl<|aa (dD rfl rfl) rfl<|aa (ac rfl) rfl<|ak rfl rfl rfl (aX _) (fun g11=>wv (ac rfl)) rfl<|ak rfl rfl rfl (aX _) (fun g12=>wv (ct Tryz.underlying103 (aK rfl g12))) rfl<|aa (dD rfl rfl) rfl<|aa (ac rfl) rfl<|ak rfl rfl rfl (aX _) (fun g13=>wv (ac rfl)) rfl<|ak rfl rfl rfl (aX _) (fun g14=>wv (ct Tryz.underlying133 (aK rfl g14))) rfl<|aa (dD rfl rfl) rfl<|aa (ac rfl) rfl<|ak rfl rfl rfl (aX _) (fun g15=>wv (ac rfl)) rfl<|ak rfl rfl rfl (aX _) (fun g16=>wv (ct Tryz.underlying124 (aK rfl g16))) rfl<|aa (dD rfl rfl) rfl<|ad<|aE rfl H6 (fun k17 H18=>ag<|ab<|aa (ae rfl) rfl<|ad<|ao<|aw (ay rfl (aD rfl)) ⟨false,rfl,H18⟩) (fun k17 H18=>av<|ag<|ab<|aa (ac rfl) rfl<|aa (bj rfl (mc 1 1)) rfl<|aj (az H18 en_73 rfl rfl fun r54 _ H19=>aa (ac rfl) rfl<|aa (aq rfl rfl) rfl<|aa (aq rfl rfl) rfl<|aj (aW (l:=(al.C (⟨0,0⟩:al))) df rfl rfl fun b7=>aj (bb (k:=0) (vs:=(al.C r54.1)) bY rfl rfl rfl rfl rfl rfl rfl<|aa (ae rfl) rfl<|ad<|ag<|ab<|aa (ac rfl) rfl<|aa (bj rfl (jE 6 2 1 3)) rfl<|aj (az H19 en_73 rfl rfl fun r60 _ H20=>aa (ac rfl) rfl<|aa (aq rfl rfl) rfl<|aa (aq rfl rfl) rfl<|aj (aW (l:=(al.C (⟨0,0⟩:al))) df rfl rfl fun b9=>aj (bb (k:=0) (vs:=(al.C r60.1)) bY rfl rfl rfl rfl rfl rfl rfl<|aa (ae rfl) rfl<|ad<|ag<|ab<|aa (ac rfl) rfl<|aa (bj rfl (jE 21 2 5 77)) rfl<|aj (az H20 en_73 rfl rfl fun r65 _ H21=>ad<|ag<|ab<|aa (ac rfl) rfl<|aa (bj rfl (tD 20 2 5)) rfl<|aj (az H21 en_73 rfl rfl fun r69 _ H22=>aa (ac rfl) rfl<|aa (aq rfl rfl) rfl<|aa (aq rfl rfl) rfl<|aj (aW (l:=(al.C (⟨0,0⟩:al))) df rfl rfl fun b11=>aj (bb (k:=0) (vs:=(al.C r69.1)) bY rfl rfl rfl rfl rfl rfl rfl<|aa (ae rfl) rfl<|ad<|ag<|ab<|aa (ac rfl) rfl<|aj (az H22 en_126 rfl rfl fun r73 _ H23=>aa (ac rfl) rfl<|aj (az H23 en_127 rfl rfl fun r75 _ H24=>aa (ae rfl) rfl<|aa (ae rfl) rfl<|ad<|ag<|ab<|aa (ac rfl) rfl<|aj (az H24 en_70 rfl rfl fun r78 _ H25=>aa (ac rfl) rfl<|aa (aq rfl rfl) rfl<|aa (aq rfl rfl) rfl<|aa (ae rfl) rfl<|aa (ae rfl) rfl<|ad<|ag<|ab<|aa (ac rfl) rfl<|aa (ac rfl) rfl<|aj (az H25 en_76 rfl rfl fun r83 _ H26=>aa (ae rfl) rfl<|ad<|ag<|ab<|aa (ac rfl) rfl<|aa (bj rfl (oR 1 1 1)) rfl<|aj (az H26 en_97 rfl rfl fun r86 _ H27=>aa (ae rfl) rfl<|ad<|ag<|ab<|aa (ac rfl) rfl<|aa (ac rfl) rfl<|aa (ac rfl) rfl<|aa (bj rfl (tD 20 2 3)) rfl<|aj (az H27 en_128 rfl rfl fun r92 _ H28=>aa (ac rfl) rfl<|aa (aq rfl rfl) rfl<|aa (aq rfl rfl) rfl<|aj (aW (l:=(al.C (⟨0,0⟩:al))) df rfl rfl fun b19=>aj (aW (l:=(au.C (⟨0,0,0,0⟩:au))) kI rfl rfl fun b20=>aj (bb (k:=1) (vs:=(al.C r92.1)) bY rfl rfl rfl rfl rfl rfl rfl<|aj (bb (k:=0) (vs:=(au.C r92.2)) fL rfl rfl rfl rfl rfl rfl rfl<|ad<|ag<|ab<|aa (ac rfl) rfl<|aa (bj rfl (mc 7 5)) rfl<|aj (az H28 en_129 rfl rfl fun r97 _ H29=>aa (ae rfl) rfl<|ad<|ag<|ab<|aj (az H29 en_130 rfl rfl fun r98 _ H30=>aa (ac rfl) rfl<|ak rfl rfl rfl (aB _) (fun g31=>wv (ac rfl)) rfl<|aa (bX rfl rfl) rfl<|aa (ac rfl) rfl<|ak rfl rfl rfl (aB _) (fun g32=>wv (am kl rfl)) rfl<|ak rfl rfl rfl (aB _) (fun g33=>cv (bt (k:=4) ow (aK rfl g33) rfl rfl)) rfl<|ak rfl rfl rfl (aB _) (fun g34=>wv (bV (aK rfl g34) rfl)) rfl<|aa (bX rfl rfl) rfl<|aa (ac rfl) rfl<|ak rfl rfl rfl (aB _) (fun g35=>wv (am kl rfl)) rfl<|ak rfl rfl rfl (aB _) (fun g36=>cv (bt (k:=3) ow (aK rfl g36) rfl rfl)) rfl<|ak rfl rfl rfl (aB _) (fun g37=>wv (bV (aK rfl g37) rfl)) rfl<|aa (bX rfl rfl) rfl<|aa (ac rfl) rfl<|ak rfl rfl rfl (aB _) (fun g38=>wv (am fld_47_1 rfl)) rfl<|ak rfl rfl rfl (aB _) (fun g39=>cv (bt (k:=2) cD (aK rfl g39) rfl rfl)) rfl<|ak rfl rfl rfl (aB _) (fun g40=>wv (bV (aK rfl g40) rfl)) rfl<|aa (bX rfl rfl) rfl<|aa (ac rfl) rfl<|ak rfl rfl rfl (aB _) (fun g41=>wv (ac rfl)) rfl<|ak rfl rfl rfl (aB _) (fun g42=>wv (bV (aK rfl g42) rfl)) rfl<|aa (bX rfl rfl) rfl<|aa (ac rfl) rfl<|ak rfl rfl rfl (aB _) (fun g43=>wv (ac rfl)) rfl<|ak rfl rfl rfl (aB _) (fun g44=>wv (bV (aK rfl g44) rfl)) rfl<|aa (bX rfl rfl) rfl<|aa (ac rfl) rfl<|ak rfl rfl rfl (aB _) (fun g45=>wv (ac rfl)) rfl<|bO H30 (fun k47 H48=>aF rfl rfl rfl (congrArg Value.bool k47) (az H48 en_131 (aT (aK rfl k47) (aT rfl (aT rfl bM))) rfl fun r127 _ H49=>aF rfl rfl rfl (congrArg Value.bool k47) (aJ (wv (dl rfl Tryz.underlying173 rfl)) rfl<|aF rfl rfl rfl (congrArg Value.bool k47) (aJ (wv (bV rfl rfl)) rfl<|aa (ba rfl k47 rfl) rfl<|aa (ac rfl) rfl<|ak rfl rfl rfl (aB _) (fun g50=>wv (ac rfl)) rfl<|ak rfl rfl rfl (aB _) (fun g51=>wv (bV (aK rfl g51) rfl)) rfl<|aa (bX rfl rfl) rfl<|aa (ac rfl) rfl<|ak rfl rfl rfl (aB _) (fun g52=>wv (ac rfl)) rfl<|aa (bX rfl rfl) rfl<|aa (ac rfl) rfl<|ak rfl rfl rfl (aB _) (fun g53=>wv (ac rfl)) rfl<|aa (bX rfl rfl) rfl<|aa (ac rfl) rfl<|ak rfl rfl rfl (aB _) (fun g54=>wv (ac rfl)) rfl<|bO H49 (fun k56 H57=>aF rfl rfl rfl (congrArg Value.bool k56) (az H57 en_72 (aT (aK rfl k56) (aT rfl bM)) rfl fun r143 _ H58=>aF rfl rfl rfl (congrArg Value.bool k56) (aJ (wv (cu rfl)) rfl<|aa (ba rfl k56 rfl) rfl<|aa (ac rfl) rfl<|ak rfl rfl rfl (aB _) (fun g59=>wv (ac rfl)) rfl<|bO H58 (fun k61 H62=>aF rfl rfl rfl (congrArg Value.bool k61) (az H62 en_106 (aT (aK rfl k61) (aT rfl bM)) rfl fun r148 _ H63=>aF rfl rfl rfl (congrArg Value.bool k61) (aJ (wv (dl rfl Tryz.underlying41 rfl)) rfl<|aF rfl rfl rfl (congrArg Value.bool k61) (aJ (wv (bV rfl rfl)) rfl<|aa (ba rfl k61 rfl) rfl<|aa (ac rfl) rfl<|ak rfl rfl rfl (aB _) (fun g64=>wv (ac rfl)) rfl<|ak rfl rfl rfl (aB _) (fun g65=>wv (bV (aK rfl g65) rfl)) rfl<|aa (bX rfl rfl) rfl<|aa (ac rfl) rfl<|ak rfl rfl rfl (aB _) (fun g66=>wv (am kl rfl)) rfl<|ak rfl rfl rfl (aB _) (fun g67=>cv (bt (k:=1) ow (aK rfl g67) rfl rfl)) rfl<|ak rfl rfl rfl (aB _) (fun g68=>wv (bV (aK rfl g68) rfl)) rfl<|aa (bX rfl rfl) rfl<|aa (ac rfl) rfl<|ak rfl rfl rfl (aB _) (fun g69=>wv (am ly rfl)) rfl<|ak rfl rfl rfl (aB _) (fun g70=>cv (bt (k:=0) bk (aK rfl g70) rfl rfl)) rfl<|ak rfl rfl rfl (aB _) (fun g71=>wv (bV (aK rfl g71) rfl)) rfl<|aa (bX rfl rfl) rfl<|aa (ac rfl) rfl<|dc (vs:=[(.int .i64 3),(.int .u64 3),(.int .u64 4)]) rfl rfl rfl (aB _) (fun g72=>(bG (uL 3 3 4 _))) en_132 (fun g72=>rfl) rfl<|aa (bX rfl rfl) rfl<|aa (ac rfl) rfl<|ak rfl rfl rfl (aB _) (fun g73=>wv (ac rfl)) rfl<|bO H63 (fun k75 H76=>aF rfl rfl rfl (congrArg Value.bool k75) (az H76 xg rfl rfl fun r171 _ H77=>aF rfl rfl rfl (congrArg Value.bool k75) (az H77 en_133 (aT (aK rfl k75) (aT rfl bM)) rfl fun r172 _ H78=>aa (ba rfl k75 rfl) rfl<|aa (ac rfl) rfl<|ak rfl rfl rfl (aB _) (fun g79=>wv (ac rfl)) rfl<|bO H78 (fun k81 H82=>aF rfl rfl rfl (congrArg Value.bool k81) (az H82 en_85 (aT (aK rfl k81) bM) rfl fun r176 _ H83=>aF rfl rfl rfl (congrArg Value.bool k81) (aJ (wv (dl rfl Tryz.underlying41 rfl)) rfl<|aF rfl rfl rfl (congrArg Value.bool k81) (aJ (wv (bV rfl rfl)) rfl<|aa (ba rfl k81 rfl) rfl<|aa (ae rfl) rfl<|ad<|ao<|aw (ay rfl (aD rfl)) ⟨((r176.len:Int) == 1),rfl,H83⟩)))) (fun k81 H82=>ah rfl rfl rfl (aY k81) rfl<|ah rfl rfl rfl (aY k81) rfl<|ah rfl rfl rfl (aY k81) rfl<|aa (an rfl k81 rfl) rfl<|aa (ae rfl) rfl<|ad<|ao<|aw (ay rfl (aD rfl)) ⟨false,rfl,H82⟩)))) (fun k75 H76=>ah rfl rfl rfl (aY k75) rfl<|ah rfl rfl rfl (aY k75) rfl<|aa (an rfl k75 rfl) rfl<|aa (ac rfl) rfl<|ah rfl rfl rfl rfl rfl<|ah rfl rfl rfl rfl rfl<|ah rfl rfl rfl rfl rfl<|ah rfl rfl rfl rfl rfl<|aa (an rfl rfl rfl) rfl<|aa (ae rfl) rfl<|ad<|ao<|aw (ay rfl (aD rfl)) ⟨false,rfl,H76⟩))))) (fun k61 H62=>ah rfl rfl rfl (aY k61) rfl<|ah rfl rfl rfl (aY k61) rfl<|ah rfl rfl rfl (aY k61) rfl<|aa (an rfl k61 rfl) rfl<|aa (ac rfl) rfl<|ah rfl rfl rfl rfl rfl<|ah rfl rfl rfl rfl rfl<|aa (an rfl rfl rfl) rfl<|aa (ac rfl) rfl<|ah rfl rfl rfl rfl rfl<|ah rfl rfl rfl rfl rfl<|ah rfl rfl rfl rfl rfl<|aa (an rfl rfl rfl) rfl<|aa (ac rfl) rfl<|ah rfl rfl rfl rfl rfl<|ah rfl rfl rfl rfl rfl<|ah rfl rfl rfl rfl rfl<|aa (an rfl rfl rfl) rfl<|aa (ac rfl) rfl<|ah rfl rfl rfl rfl rfl<|aa (an rfl rfl rfl) rfl<|aa (ac rfl) rfl<|ah rfl rfl rfl rfl rfl<|ah rfl rfl rfl rfl rfl<|ah rfl rfl rfl rfl rfl<|aa (an rfl rfl rfl) rfl<|aa (ac rfl) rfl<|ah rfl rfl rfl rfl rfl<|ah rfl rfl rfl rfl rfl<|ah rfl rfl rfl rfl rfl<|ah rfl rfl rfl rfl rfl<|aa (an rfl rfl rfl) rfl<|aa (ae rfl) rfl<|ad<|ao<|aw (ay rfl (aD rfl)) ⟨false,rfl,H62⟩)))) (fun k56 H57=>ah rfl rfl rfl (aY k56) rfl<|ah rfl rfl rfl (aY k56) rfl<|aa (an rfl k56 rfl) rfl<|aa (ac rfl) rfl<|ah rfl rfl rfl rfl rfl<|ah rfl rfl rfl rfl rfl<|ah rfl rfl rfl rfl rfl<|ah rfl rfl rfl rfl rfl<|aa (an rfl rfl rfl) rfl<|aa (ac rfl) rfl<|ah rfl rfl rfl rfl rfl<|ah rfl rfl rfl rfl rfl<|aa (an rfl rfl rfl) rfl<|aa (ac rfl) rfl<|ah rfl rfl rfl rfl rfl<|ah rfl rfl rfl rfl rfl<|ah rfl rfl rfl rfl rfl<|aa (an rfl rfl rfl) rfl<|aa (ac rfl) rfl<|ah rfl rfl rfl rfl rfl<|ah rfl rfl rfl rfl rfl<|ah rfl rfl rfl rfl rfl<|aa (an rfl rfl rfl) rfl<|aa (ac rfl) rfl<|ah rfl rfl rfl rfl rfl<|aa (an rfl rfl rfl) rfl<|aa (ac rfl) rfl<|ah rfl rfl rfl rfl rfl<|ah rfl rfl rfl rfl rfl<|ah rfl rfl rfl rfl rfl<|aa (an rfl rfl rfl) rfl<|aa (ac rfl) rfl<|ah rfl rfl rfl rfl rfl<|ah rfl rfl rfl rfl rfl<|ah rfl rfl rfl rfl rfl<|ah rfl rfl rfl rfl rfl<|aa (an rfl rfl rfl) rfl<|aa (ae rfl) rfl<|ad<|ao<|aw (ay rfl (aD rfl)) ⟨false,rfl,H57⟩))))) (fun k47 H48=>ah rfl rfl rfl (aY k47) rfl<|ah rfl rfl rfl (aY k47) rfl<|ah rfl rfl rfl (aY k47) rfl<|aa (an rfl k47 rfl) rfl<|aa (ac rfl) rfl<|ah rfl rfl rfl rfl rfl<|ah rfl rfl rfl rfl rfl<|aa (an rfl rfl rfl) rfl<|aa (ac rfl) rfl<|ah rfl rfl rfl rfl rfl<|aa (an rfl rfl rfl) rfl<|aa (ac rfl) rfl<|ah rfl rfl rfl rfl rfl<|aa (an rfl rfl rfl) rfl<|aa (ac rfl) rfl<|ah rfl rfl rfl rfl rfl<|ah rfl rfl rfl rfl rfl<|ah rfl rfl rfl rfl rfl<|aa (an rfl rfl rfl) rfl<|aa (ac rfl) rfl<|ah rfl rfl rfl rfl rfl<|ah rfl rfl rfl rfl rfl<|ah rfl rfl rfl rfl rfl<|ah rfl rfl rfl rfl rfl<|aa (an rfl rfl rfl) rfl<|aa (ac rfl) rfl<|ah rfl rfl rfl rfl rfl<|ah rfl rfl rfl rfl rfl<|aa (an rfl rfl rfl) rfl<|aa (ac rfl) rfl<|ah rfl rfl rfl rfl rfl<|ah rfl rfl rfl rfl rfl<|ah rfl rfl rfl rfl rfl<|aa (an rfl rfl rfl) rfl<|aa (ac rfl) rfl<|ah rfl rfl rfl rfl rfl<|ah rfl rfl rfl rfl rfl<|ah rfl rfl rfl rfl rfl<|aa (an rfl rfl rfl) rfl<|aa (ac rfl) rfl<|ah rfl rfl rfl rfl rfl<|aa (an rfl rfl rfl) rfl<|aa (ac rfl) rfl<|ah rfl rfl rfl rfl rfl<|ah rfl rfl rfl rfl rfl<|ah rfl rfl rfl rfl rfl<|aa (an rfl rfl rfl) rfl<|aa (ac rfl) rfl<|ah rfl rfl rfl rfl rfl<|ah rfl rfl rfl rfl rfl<|ah rfl rfl rfl rfl rfl<|ah rfl rfl rfl rfl rfl<|aa (an rfl rfl rfl) rfl<|aa (ae rfl) rfl<|ad<|ao<|aw (ay rfl (aD rfl)) ⟨false,rfl,H48⟩))))))))))))))))))))))))))))))
def oh (K:Bool→Hp→Prop):Hp→Prop:=cl Tryz.prog kB [] aG fun r1=>K r1
set_option maxRecDepth 20000 in
theorem uU {K:Bool→Hp→Prop} {h:Hp} (H:oh K h):Ct Tryz.prog kC #[] h fun v h'=>∃ r,v = aG r∧K r h':=aA [] Tryz.func50 rfl rfl rfl fun _=>ag<|ab<|aa (ae rfl) rfl<|ad<|ag<|ab<|aj (az H en_87 rfl rfl fun r1 _ H1=>aa (ae rfl) rfl<|ad<|ao<|aw (ay rfl (aD rfl)) ⟨r1,rfl,H1⟩)
end Go.Proofs.YtniiiakkdoiaiaaGreatDoor
namespace Go.Proofs.YtniiiakkdoiaiaaGreatDoor
open Go Mb
variable {ET:Nat} {EF:Nat × Nat}
section
variable {l:List As} {h:Hp} {x:Ptr}
theorem plain_nn {k:PK} (s:aO (bE x k::l) h):x.isNone = false:=nn_of (fun _ e=>by rw [e.1]; rfl) s
theorem tree_nn {k:Caps.T} (s:aO (cM x k::l) h):x.isNone = false:=nn_of (fun _ e=>by rw [e.1]; rfl) s
theorem epochs_nn {k:List Int × List Int} (s:aO (eZ x k::l) h):x.isNone = false:=nn_of (fun _ e=>by rw [e.1]; rfl) s
end
theorem sp_plain_Err (x:Ptr) (k:PK) (e:Int) (c:ap) (h1:(PK.do_ k e c).1.2 = true) (h2:(PK.do_ k e c).1.1.fErr ≠ 0):Sp Tryz.prog nc [pv x,.int .i64 e,.agg c.C.toArray] il [(etB ET EF),bE x k]
    (fun r=>ex fun b:Nat × Nat=>pa_ (r = dy b.1) [trB b.1 ⟨(PK.do_ k e c).1.1.fErr,e,c,dy b.2⟩,(etB ET EF),bE x k]):=by
  intro h st
  have hn:=plain_nn (bn [1] st rfl)
  refine sim_plain_Kernel_Err _ _ _ ?_
  unfold ru
  refine dH hn ?_
  refine cl_n (i:=1) (uA x k) rfl st fun y g1 s1=>?_
  refine ce (i:=0) (jJ y k e c) rfl s1 fun r g2 hr s2=>?_
  subst hr
  refine dH (by rw [h1]; rfl) ?_
  refine cR [] (rest:=[_,_,_]) (sp_Of _ h2) s2 rfl fun r g3 s3=>?_
  obtain ⟨b,x3⟩:=ut s3
  obtain ⟨rfl,y3⟩:=bD.1 x3
  refine cR [2,0] (rest:=[_,_]) (sp_In e c b _) y3 rfl fun r g4 s4=>?_
  obtain ⟨d,x4⟩:=ut s4
  obtain ⟨rfl,y4⟩:=bD.1 x4
  refine ⟨(d,b),bg rfl (co (l:=[_,_]) (bn [2,2] y4 rfl))⟩
theorem sp_begun11:Sp Tryz.prog kB [] aG [(etB ET EF)] (fun r=>pa_ (r = true) [(etB ET EF)]):=by
  intro h st
  refine uT ?_
  unfold og
  refine mb (rK ⟨1,2,2⟩ (by decide)) st fun a1 h1 s1=>?_
  refine mb (sp_caps_New 2 (by decide) (by decide)) s1 fun a2 h2 s2=>?_
  refine mb (rM 3 (by decide) (by decide)) s2 fun a3 h3 s3=>?_
  refine mb wc s3 fun a4 h4 s4=>?_
  refine mb nU s4 fun a5 h5 s5=>?_
  refine mb (sp_mem_New 2 (by decide) (by decide)) s5 fun a6 h6 s6=>?_
  have n1:=plain_nn s1
  have n2:=tree_nn s2
  have n3:=epochs_nn s3
  have n4:=tlb_nn s4
  have n5:=table_nn s5
  have n6:=mem_nn s6
  rw [n1,n2,n3,n4,n5,n6]
  refine dH rfl ?_
  refine ce (i:=5) (jJ a1 _ 0 ⟨1,1,0,0,0⟩) rfl s6 fun r1 h7 e1 s7=>?_
  refine ce (i:=5) (jJ a1 _ 0 ⟨6,2,1,3,0⟩) rfl s7 fun r2 h8 e2 s8=>?_
  refine ce (i:=5) (jJ a1 _ 0 ⟨21,2,5,77,0⟩) rfl s8 fun r3 h9 e3 s9=>?_
  refine ce (i:=5) (jJ a1 _ 0 ⟨20,2,5,0,0⟩) rfl s9 fun r4 h10 e4 s10=>?_
  refine ce (i:=4) (wi a2 _ 0 1 1) rfl s10 fun r5 h11 e5 s11=>?_
  refine ce (i:=4) (sA a2 _ 0 1 1 3 1) rfl s11 fun r6 h12 e6 s12=>?_
  refine ce (i:=3) (sp_epoch_Begin a3 _ 0 (by decide)) rfl s12 fun r7 h13 e7 s13=>?_
  subst e7
  refine ce (i:=3) (sp_epoch_Ack a3 _ 1 _) rfl s13 fun r8 h14 e8 s14=>?_
  refine ce (i:=1) (ke a5 _ 2 ⟨1,1,1⟩) rfl s14 fun r9 h15 e9 s15=>?_
  refine cR [2,1,0] (rest:=[_,_,_,_]) (sp_user_Do a4 a5 a6 _ _ _ 0 ⟨20,2,3,0,0⟩) s15 rfl fun r10 h16 x16=>?_
  obtain ⟨e10,s16⟩:=bD.1 x16
  subst e1 e2 e3 e4 e5 e6 e8 e9 e10
  refine cR [6,5] (rest:=[_,_,_,_,_]) (sp_plain_Err a1 _ 0 ⟨7,5,0,0,0⟩ (by kernel_rfl) (by decide)) s16 rfl fun r11 h17 x17=>?_
  obtain ⟨⟨b,b'⟩,z17⟩:=ut x17
  obtain ⟨rfl,s17⟩:=bD.1 z17
  refine ce (i:=1) sp_Begun2 rfl s17 fun r12 h18 e12 s18=>?_
  subst e12
  refine cT (by kernel_rfl) ?_
  refine cl_n (i:=7) (sp_caps_Below a2 _ 0 1) rfl s18 fun r13 h19 s19=>?_
  have e13:((r13.len:Int) == 1) = true:=by
    rw [(cr (j:=0) s19 rfl).1]
    kernel_rfl
  rw [e13]
  refine cT (by kernel_rfl) ?_
  refine ce (i:=7) (sp_epoch_Done a3 _ 1) rfl s19 fun r14 h20 e14 s20=>?_
  subst e14
  refine cT (by kernel_rfl) ?_
  refine cl_n (i:=7) (sp_epoch_Waits a3 _ 1) rfl s20 fun r15 h21 s21=>?_
  have e15:((r15.len:Int) == 1) = true:=by
    rw [(cr (j:=0) s21 rfl).1]
    kernel_rfl
  rw [e15]
  refine cT (by kernel_rfl) ?_
  refine cR [] (rest:=[_,_,_,_,_,_,_,_,_,_]) (sp_Of 3 (by decide)) s21 rfl fun r16 h22 x22=>?_
  obtain ⟨d,z22⟩:=ut x22
  obtain ⟨rfl,s22⟩:=bD.1 z22
  refine cR [3,0] (rest:=[_,_,_,_,_,_,_,_,_]) (sp_Is1 b d _ tr3 (by kernel_rfl) (.inr ⟨b',by kernel_rfl⟩)) s22 rfl fun r17 h23 x23=>?_
  obtain ⟨rfl,s23⟩:=bD.1 x23
  refine cT rfl ?_
  refine cl_n (i:=5) (sp_plain_Free a1 _) rfl s23 fun r18 h24 s24=>?_
  have e18:((r18.len:Int) == 1) = true:=by
    rw [(cr (j:=0) s24 rfl).1]
    kernel_rfl
  exact bg e18 (co (l:=[_,_,_,_,_,_,_,_,_,_,_]) (bn [0,0,0,0,0,1,1,1,1,1,1] s24 rfl))
theorem sp_Begun11:Sp Tryz.prog kC [] aG [(etB ET EF)] (fun r=>pa_ (r = true) [(etB ET EF)]):=by
  intro h st
  refine uU ?_
  unfold oh
  exact ce (i:=0) sp_begun11 rfl st fun r h' hr s=>bg hr s
end Go.Proofs.YtniiiakkdoiaiaaGreatDoor
namespace Go.Proofs.YtniiiakkdoiaiaaGreatDoor
open Go Mb
theorem calls_nil:∀ (n:Nat) {l:List As} {h:Hp},aO l h→aO (all ir (List.replicate n (none:Ptr)) (List.replicate n (none:Option KC))::l) h
  | 0,_,_,s=>all_nil s
  | n + 1,l,h,s=>by
    have s1:=star_cons (A:=ir none none) (fun _=>rfl) (calls_nil n s)
    rw [List.replicate_succ,List.replicate_succ]
    obtain ⟨h1,h2,d,e,a,h3,h4,d2,e2,b,s'⟩:=s1
    subst e2
    obtain ⟨d3,d4⟩:=Dj.of_un_right d
    exact ⟨un h1 h3,h4,Dj.un_left d4 d2,by rw [e,my],⟨h1,h3,d3,rfl,a,b⟩,s'⟩
def newI (s:kR) (b n:Nat) (pp pm pe:Ptr) (cs:Sl) (i:Int) (h:Hp):Prop:=∃ (j:Nat) (ts:Sl) (tp:List Ptr),i = j∧j ≤ n∧tp.length = j∧aO [blk b cq [pv pp,.int .i64 s.fEnvs,sv ts,pv pm,pv pe,sv cs,sv (⟨none,0,0,none⟩:Sl),.int .i64 0],bE pp (PK.new s),vQ sw ts tp,all fG tp (List.replicate j tlb0),jd pm (List.replicate n []),eZ pe ([],List.replicate n 0),vQ fu cs (List.replicate n none),all ir (List.replicate n none) (List.replicate n none),vE (⟨none,0,0,none⟩:Sl) []] h
theorem new_round {s:kR} {b n:Nat} {pp pm pe:Ptr} {cs:Sl} (hn8:n ≤ 8) {i:Int} {h:Hp} (H:newI s b n pp pm pe cs i h) (hi:i < n) :
    (both (ld (b,2) cS fun x31=>cl Tryz.prog iu [] gB fun r32=>hpv Tryz.prog (Instr.buildSlice bZ 1 #[(0,(pv r32))]) dR fun (v33:Sl)=>hpv Tryz.prog (Builtin.append_ #[bZ,bZ] bZ #[(sv x31),(sv v33)]) dR fun (v34:Sl)=>Mb.st (b,2) [sv v34] fun h'=>newI s b n pp pm pe cs (IntKind.i64.wrap (i + 1)) h'∧n - (IntKind.i64.wrap (i + 1)).toNat < n - i.toNat)
     (cl Tryz.prog iu [] gB fun r32=>ld (b,2) cS fun x31=>hpv Tryz.prog (Instr.buildSlice bZ 1 #[(0,(pv r32))]) dR fun (v33:Sl)=>hpv Tryz.prog (Builtin.append_ #[bZ,bZ] bZ #[(sv x31),(sv v33)]) dR fun (v34:Sl)=>Mb.st (b,2) [sv v34] fun h'=>newI s b n pp pm pe cs (IntKind.i64.wrap (i + 1)) h'∧n - (IntKind.i64.wrap (i + 1)).toNat < n - i.toNat)) h:=by
  obtain ⟨j,ts,tp,rfl,hj,htp,s6⟩:=H
  have hlt:j < n:=by omega
  have hw:IntKind.i64.wrap ((j:Int) + 1) = ((j + 1:Nat):Int):=by rw [cj (by omega) (by omega)]; rfl
  rw [hw]
  have fin:∀ (r:Ptr) (v:Sl) (h:Hp),aO [fG r tlb0,blk b cq [pv pp,.int .i64 s.fEnvs,sv ts,pv pm,pv pe,sv cs,sv (⟨none,0,0,none⟩:Sl),.int .i64 0],bE pp (PK.new s),vQ sw v (tp++[r]),all fG tp (List.replicate j tlb0),jd pm (List.replicate n []),eZ pe ([],List.replicate n 0),vQ fu cs (List.replicate n none),all ir (List.replicate n none) (List.replicate n none),vE (⟨none,0,0,none⟩:Sl) []] h →
      Mb.st (b,2) [sv v] (fun h'=>newI s b n pp pm pe cs ((j + 1:Nat):Int) h'∧n - ((j + 1:Nat):Int).toNat < n - (j:Int).toNat) h:=by
    intro r v h s7
    refine uz (i:=1) s7 rfl (Nat.le_of_ble_eq_true rfl) fun h8 s8=>?_
    refine ⟨⟨j + 1,v,tp++[r],rfl,hlt,by simp [htp],?_⟩,by simp; omega⟩
    have s9:=all_push (by simp [htp]) (bn [0,3] s8 rfl)
    have e:List.replicate j tlb0++[tlb0] = List.replicate (j + 1) tlb0:=List.replicate_succ'.symm
    rw [e] at s9
    exact bn [1,1,1,0] s9 rfl
  refine ⟨?_,?_⟩
  · refine bA ts s6 (i:=0) rfl rfl rfl ?_
    refine mb wc s6 fun r h7 s7=>?_
    refine ku (τ:=Ptr) (i:=3) (enc:=cP) (val:=fun x=>pv x) el_SPtlb_Tlb gQ cP_one (fun _=>rfl) (by omega) rfl rfl s7 rfl (by omega) (by omega) fun v h8 s8=>?_
    exact fin r v h8 s8
  · refine mb wc s6 fun r h7 s7=>?_
    refine bA ts s7 (i:=1) rfl rfl rfl ?_
    refine ku (τ:=Ptr) (i:=3) (enc:=cP) (val:=fun x=>pv x) el_SPtlb_Tlb gQ cP_one (fun _=>rfl) (by omega) rfl rfl s7 rfl (by omega) (by omega) fun v h8 s8=>?_
    exact fin r v h8 s8
theorem new_start {s:kR} {b n:Nat} {pp pm pe:Ptr} {cs:Sl} {h:Hp}
    (st:aO [blk b cq (fH.C (⟨pp,s.fEnvs,(⟨none,0,0,none⟩:Sl),pm,pe,cs,(⟨none,0,0,none⟩:Sl),0⟩:fH)),bE pp (PK.new s),jd pm (List.replicate n []),eZ pe ([],List.replicate n 0),vQ fu cs (List.replicate n none)] h):newI s b n pp pm pe cs 0 h:=by
  have s1:=eN (τ:=cn) (T:=t_api_Event) (m:=16) (enc:=aL.C) (calls_nil n (eN (τ:=Ptr) (T:=sw) (m:=1) (enc:=cP) (all_nil (A:=fG) st)))
  exact ⟨0,⟨none,0,0,none⟩,[],rfl,Nat.zero_le _,rfl,bn [4,4,2,2,2,2,2,1] s1 rfl⟩
theorem new_end {s:kR} (hs:PK.sized s = true) {b n:Nat} (hn:s.fCores = n) {pp pm pe:Ptr} {cs:Sl} {h:Hp} (H:newI s b n pp pm pe cs n h):aO [dA (some (b,0)) (KK.new s)] h:=by
  obtain ⟨j,ts,tp,hj,hj2,htp,s6⟩:=H
  have:j = n:=by omega
  subst this
  have ok:=kok_new hs
  have e:KK.new s = ⟨PK.new s,List.replicate j tlb0,List.replicate j [],([],List.replicate j 0),List.replicate j none,[],0⟩:=by unfold KK.new; rw [hn]; rfl
  rw [e] at ok ⊢
  exact qh (z:=⟨b,pp,ts,tp,pm,pe,cs,List.replicate j none,⟨none,0,0,none⟩⟩) ⟨by simpa using htp,by simp⟩ ok s6
theorem sp_kern_NewNo (s:kR) (hs:PK.sized s = false):Sp Tryz.prog td [.agg s.C.toArray] oT [] (fun r=>pa_ (r = none) []):=by
  intro h st
  refine sim_kern_New _ ?_
  unfold sh_kern_New
  refine iU (sp_plain_NewNo s hs) st fun r h1 hr s1=>?_
  subst hr
  exact cT rfl (bg rfl trivial)
theorem sp_kern_New (s:kR) (hs:PK.sized s = true):Sp Tryz.prog td [.agg s.C.toArray] oT [] (fun r=>aO [dA r (KK.new s)]):=by
  intro h st
  have hz:=jr.1 hs
  obtain ⟨n,hn⟩:=Int.eq_ofNat_of_zero_le (show 0 ≤ s.fCores by omega)
  have hn8:n ≤ 8:=by omega
  refine sim_kern_New _ ?_
  unfold sh_kern_New
  refine mb (rK s hs) st fun pp h1 s1=>?_
  have hpp:pp.isNone = false:=by
    obtain ⟨_,h2,_⟩:=fN s1; rw [h2]; rfl
  refine dH hpp ?_
  have mk:∀ {l:List As} {h:Hp} {K:Sl→Hp→Prop},aO l h→(∀ v h',aO (vQ fu v (List.replicate n none)::l) h'→K v h')→hpv Tryz.prog (Instr.makeSlice mE (.int .i64 s.fCores) (.int .i64 s.fCores)) ql K h:=by
    intro l h K s2 k
    rw [hn]
    exact nF (τ:=Ptr) (x0:=none) (enc:=cP) (n:=n) (T:=fu) (m:=1) el_SPkern_call rfl s2 (by omega) (by omega) k
  have em:s.fCores.toNat = n:=by omega
  refine ⟨?_,?_⟩
  · refine mb (sp_mail_New s.fCores (by omega) (by omega)) s1 fun pm h2 s2=>?_
    refine ⟨?_,?_⟩
    · refine mb (rM s.fCores (by omega) (by omega)) s2 fun pe h3 s3=>?_
      rw [em] at s3
      refine mk s3 fun cs h4 s4=>?_
      refine oW s4 fun b h5 s5=>?_
      refine Lp.intro (fun (i:Int) h=>newI s b n pp pm pe cs i h) (fun (i:Int) _=>n - i.toNat) (new_start (bn [0,4,3,2,1] s5 rfl)) ?_
      intro i h H
      unfold kern_New_l1
      refine bi (fun d=>new_round hn8 H (by have:=of_decide_eq_true d; omega)) (fun d=>?_)
      have:i = n:=by obtain ⟨j,_,_,e,hj,_⟩:=H; have:=of_decide_eq_false d; omega
      subst this
      exact new_end hs hn H
    · refine mk s2 fun cs h3 s3=>?_
      refine mb (rM s.fCores (by omega) (by omega)) s3 fun pe h4 s4=>?_
      rw [em] at s4
      refine oW s4 fun b h5 s5=>?_
      refine Lp.intro (fun (i:Int) h=>newI s b n pp pm pe cs i h) (fun (i:Int) _=>n - i.toNat) (new_start (bn [0,3,2,0,0] s5 rfl)) ?_
      intro i h H
      unfold kern_New_l2
      refine bi (fun d=>new_round hn8 H (by have:=of_decide_eq_true d; omega)) (fun d=>?_)
      have:i = n:=by obtain ⟨j,_,_,e,hj,_⟩:=H; have:=of_decide_eq_false d; omega
      subst this
      exact new_end hs hn H
  · refine mk s1 fun cs h2 s2=>?_
    refine mb (sp_mail_New s.fCores (by omega) (by omega)) s2 fun pm h3 s3=>?_
    refine mb (rM s.fCores (by omega) (by omega)) s3 fun pe h4 s4=>?_
    rw [em] at s4
    refine oW s4 fun b h5 s5=>?_
    refine Lp.intro (fun (i:Int) h=>newI s b n pp pm pe cs i h) (fun (i:Int) _=>n - i.toNat) (new_start (bn [0,3,1,0,0] s5 rfl)) ?_
    intro i h H
    unfold kern_New_l3
    refine bi (fun d=>new_round hn8 H (by have:=of_decide_eq_true d; omega)) (fun d=>?_)
    have:i = n:=by obtain ⟨j,_,_,e,hj,_⟩:=H; have:=of_decide_eq_false d; omega
    subst this
    exact new_end hs hn H
end Go.Proofs.YtniiiakkdoiaiaaGreatDoor
