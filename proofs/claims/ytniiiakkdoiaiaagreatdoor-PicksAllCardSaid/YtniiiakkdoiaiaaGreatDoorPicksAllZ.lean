/- The law PicksAll returns true for every input, and leaves its arguments as they were. -/
import Derived.Test.YtniiiakkdoiaiaaGreatDoorPicksAll16
import Derived.Test.YtniiiakkdoiaiaaGreatDoorCards
import Derived.Test.YtniiiakkdoiaiaaGreatDoorRows
import Derived.Test.YtniiiakkdoiaiaaGreatDoorTie
set_option linter.all false
namespace Go.Proofs.YtniiiakkdoiaiaaGreatDoor
open Go Mb
set_option linter.unusedVariables false
def tc (a0:Int) (Rec17:(Sl × Int)→Hp→Prop) (s16:Sl × Int) (x32:Int) (Rec26:(Sl × Int)→Hp→Prop) (s25:Sl × Int):Hp→Prop:=br (decide (s25.2 < a0)) ( hpv Tryz.prog (Instr.buildSlice kS 1 #[(0,(.agg (bH.C (⟨x32,s25.2,0,(⟨0,0,0,0,0⟩:ap),0,0⟩:bH)).toArray))]) gY fun (v41:Sl)=>hpv Tryz.prog (Builtin.append_ #[kS,kS] kS #[(sv s25.1),(sv v41)]) gY fun (v42:Sl)=>Rec26 (v42,(IntKind.i64.wrap (s25.2 + 1)))) ( Rec17 (s25.1,(IntKind.i64.wrap (s16.2 + 1))))
def td (a0:Int) (Rec11:(Sl × Int)→Hp→Prop) (s10:Sl × Int) (v27:Sl) (Rec17:(Sl × Int)→Hp→Prop) (s16:Sl × Int):Hp→Prop:=br (decide (s16.2 < (v27.len:Int))) ( ix v27 s16.2 fun q31=>ld (q31.1,q31.2 + Int.toNat s16.2 * 1) (cI .i64) fun x32=>Lp (tc a0 Rec17 s16 x32) (s16.1,0)) ( Rec11 (s16.1,(IntKind.i64.wrap (s10.2 + 1))))
def te (a0:Int) (a1:Int) (K:Sl→Hp→Prop) (Rec11:(Sl × Int)→Hp→Prop) (s10:Sl × Int):Hp→Prop:=br (decide (s10.2 < a1)) ( hpv Tryz.prog (Instr.buildSlice dL 2 #[(0,(.int .i64 3)),(1,(.int .i64 2))]) cJ fun (v27:Sl)=>Lp (td a0 Rec11 s10 v27) (s10.1,0)) ( K s10.1)
def sh_fair_Rounds (a0:Int) (a1:Int) (K:Sl→Hp→Prop):Hp→Prop:=br ((((decide (a0 < 1)) || (decide (a0 > 8))) || (decide (a1 < 0))) || (decide (a1 > 500))) ( K (⟨none,0,0,none⟩:Sl)) ( hpv Tryz.prog (Instr.buildSlice kS 0 #[]) gY fun (v23:Sl)=>Lp (te a0 a1 K) (v23,0))
set_option maxRecDepth 20000 in
theorem sim_fair_Rounds (a0:Int) (a1:Int) {K:Sl→Hp→Prop} {h:Hp} (H:sh_fair_Rounds a0 a1 K h):Ct Tryz.prog uB #[(.int .i64 a0),(.int .i64 a1)] h fun v h'=>∃ r,v = gY r∧K r h':=aD [(.int .i64 a0),(.int .i64 a1)] Tryz.func11 rfl rfl rfl fun _=>ah<|ac<|aa (ag rfl) rfl<|ae<|ah<|ah<|ac<|aa (ad rfl) rfl<|aa (cx rfl rfl) rfl<|aa (ad rfl) rfl<|aj rfl rfl rfl (aS _) (fun g1=>wv (ad rfl)) rfl<|aj rfl rfl rfl (aS _) (fun g2=>wv (oQ (aJ rfl g2) rfl)) rfl<|aa (dr rfl rfl) rfl<|aa (ad rfl) rfl<|aj rfl rfl rfl (aS _) (fun g3=>wv (ad rfl)) rfl<|aj rfl rfl rfl (aS _) (fun g4=>wv (cx (aJ rfl g4) rfl)) rfl<|aa (dr rfl rfl) rfl<|aa (ad rfl) rfl<|aj rfl rfl rfl (aS _) (fun g5=>wv (ad rfl)) rfl<|aj rfl rfl rfl (aS _) (fun g6=>wv (oQ (aJ rfl g6) rfl)) rfl<|aa (dr rfl rfl) rfl<|ae<|aC rfl H (fun k7 H8=>ah<|ac<|aa (ag rfl) rfl<|ae<|ao<|aw (az rfl (aE rfl)) ⟨(⟨none,0,0,none⟩:Sl),rfl,H8⟩) (fun k7 H8=>av<|ah<|ac<|ak (be H8 (bJ (vs:=[]) rfl) rfl fun v23 _ H9=>aa (ag rfl) rfl<|ae<|ah<|ah<|ac<|aa (ad rfl) rfl<|aa (ad rfl) rfl<|ae<|aF<|bO (step:=te a0 a1 K) (fun s10=>[(0,(.int .i64 a0)),(5,(sv s10.1)),(24,(.int .i64 a1)),(25,(.int .i64 s10.2))]) (fun s10=>[]) H9 (.cons rfl (.cons rfl (.cons rfl (.cons rfl (.nil _))))) .slnil (fun Rec11 s10 _ H12=>ah<|ac<|aa (cx rfl rfl) rfl<|ae<|ah<|aC rfl H12 (fun k13 H14=>av<|ah<|aF<|ah<|ac<|ak (be H14 (bJ (vs:=[(.int .i64 3),(.int .i64 2)]) rfl) rfl fun v27 _ H15=>aa (dB rfl Tryz.underlying41 rfl) rfl<|aa (ad rfl) rfl<|ae<|aF<|bO (step:=td a0 Rec11 s10 v27) (fun s16=>[(0,(.int .i64 a0)),(5,(sv s16.1)),(24,(.int .i64 a1)),(25,(.int .i64 s10.2)),(27,(sv v27)),(28,(.int .i64 (v27.len:Int))),(29,(.int .i64 s16.2))]) (fun s16=>[]) H15 (.cons rfl (.cons rfl (.cons rfl (.cons rfl (.cons rfl (.cons rfl (.cons rfl (.nil _)))))))) .slnil (fun Rec17 s16 _ H18=>ah<|ac<|aa (cx rfl rfl) rfl<|ae<|ah<|aC rfl H18 (fun k19 H20=>av<|ah<|aF<|ah<|ac<|cw H20 fun q31 e21 h22 H23=>aa (bD iu (aW rfl (bn e21)) rfl h22) rfl<|ak (bg H23 bj rfl (fun _=>rfl) rfl fun x32 H24=>aa (ag rfl) rfl<|ae<|ah<|ac<|aa (ad rfl) rfl<|aa (ad rfl) rfl<|ae<|aF<|bO (step:=tc a0 Rec17 s16 x32) (fun s25=>[(0,(.int .i64 a0)),(5,(sv s25.1)),(7,(.int .i64 x32)),(24,(.int .i64 a1)),(25,(.int .i64 s10.2)),(27,(sv v27)),(28,(.int .i64 (v27.len:Int))),(29,(.int .i64 s16.2)),(33,(.int .i64 a0)),(34,(.int .i64 s25.2))]) (fun s25=>[]) H24 (.cons rfl (.cons rfl (.cons rfl (.cons rfl (.cons rfl (.cons rfl (.cons rfl (.cons rfl (.cons rfl (.cons rfl (.nil _))))))))))) .slnil (fun Rec26 s25 _ H27=>ah<|ac<|aa (cx rfl rfl) rfl<|ae<|ah<|aC rfl H27 (fun k28 H29=>av<|ah<|aF<|ah<|ac<|aa (ad rfl) rfl<|aa (ag rfl) rfl<|ae<|ac<|aa (ad rfl) rfl<|aa (ad rfl) rfl<|aa (ad rfl) rfl<|aa (bo rfl (build_29_0_1 x32 s25.2)) rfl<|ak (be H29 (bJ (vs:=[(.agg (bH.C (⟨x32,s25.2,0,(⟨0,0,0,0,0⟩:ap),0,0⟩:bH)).toArray)]) rfl) rfl fun v41 _ H30=>ak (be H30 (dK rfl rfl) rfl fun v42 _ H31=>aa (ag rfl) rfl<|ae<|ac<|aa (bI rfl rfl) rfl<|aa (ad rfl) rfl<|ae<|cT (v42,(IntKind.i64.wrap (s25.2 + 1))) H31 (.cons rfl (.cons rfl (.cons rfl (.cons rfl (.cons rfl (.cons rfl (.cons rfl (.cons rfl (.cons rfl (.cons rfl (.nil _))))))))))) .slnil))) (fun k28 H29=>bA<|ac<|aa (bI rfl rfl) rfl<|aa (ad rfl) rfl<|ae<|cT (s25.1,(IntKind.i64.wrap (s16.2 + 1))) H29 (.cons rfl (.cons rfl (.cons rfl (.cons rfl (.cons rfl (.cons rfl (.cons rfl (.nil _)))))))) .slnil)))) (fun k19 H20=>bA<|ac<|aa (bI rfl rfl) rfl<|aa (ad rfl) rfl<|ae<|cT (s16.1,(IntKind.i64.wrap (s10.2 + 1))) H20 (.cons rfl (.cons rfl (.cons rfl (.cons rfl (.nil _))))) .slnil)))) (fun k13 H14=>bA<|ah<|ac<|aa (ad rfl) rfl<|aa (ag rfl) rfl<|ae<|ao<|aw (az rfl (aE rfl)) ⟨s10.1,rfl,H14⟩))))
def rb (a0:Sl) (a1:Int) (a2:Int) (K:Int→Hp→Prop) (Rec2:(Int × Int × Int)→Hp→Prop) (s1:Int × Int × Int):Hp→Prop:=br (decide (s1.2.2 < (a0.len:Int))) ( ix a0 s1.2.2 fun q15=>ld (q15.1,q15.2 + Int.toNat s1.2.2 * 10) bH.C fun x16=>br ((x16.fKind == a1) && (x16.fCore == a2)) ( Rec2 ((mx s1.1 0),0,(IntKind.i64.wrap (s1.2.2 + 1)))) ( Rec2 ((mx s1.1 (IntKind.i64.wrap (s1.2.1 + 1))),(IntKind.i64.wrap (s1.2.1 + 1)),(IntKind.i64.wrap (s1.2.2 + 1))))) ( K s1.1)
def sh_fair_Longest (a0:Sl) (a1:Int) (a2:Int) (K:Int→Hp→Prop):Hp→Prop:=Lp (rb a0 a1 a2 K) (0,0,0)
set_option maxRecDepth 20000 in
theorem sim_fair_Longest (a0:Sl) (a1:Int) (a2:Int) {K:Int→Hp→Prop} {h:Hp} (H:sh_fair_Longest a0 a1 a2 K h):Ct Tryz.prog lu #[(sv a0),(.int .i64 a1),(.int .i64 a2)] h fun v h'=>∃ r,v = dO r∧K r h':=aD [(sv a0),(.int .i64 a1),(.int .i64 a2)] Tryz.func13 rfl rfl rfl fun _=>ah<|ac<|aa (ag rfl) rfl<|ae<|ah<|ac<|aa (ag rfl) rfl<|aa (ag rfl) rfl<|ae<|ah<|ah<|ac<|aa (ad rfl) rfl<|aa (dB rfl Tryz.underlying23 rfl) rfl<|aa (ad rfl) rfl<|ae<|aF<|bO (step:=rb a0 a1 a2 K) (fun s1=>[(1,(.int .i64 a1)),(2,(.int .i64 a2)),(7,(.int .i64 s1.1)),(8,(.int .i64 s1.2.1)),(11,(sv a0)),(12,(.int .i64 (a0.len:Int))),(13,(.int .i64 s1.2.2))]) (fun s1=>[]) H (.cons rfl (.cons rfl (.cons rfl (.cons rfl (.cons rfl (.cons rfl (.cons rfl (.nil _)))))))) .slnil (fun Rec2 s1 _ H3=>ah<|ac<|aa (cx rfl rfl) rfl<|ae<|ah<|aC rfl H3 (fun k4 H5=>av<|ah<|aF<|ah<|ac<|cw H5 fun q15 e6 h7 H8=>aa (bD slc_23 (aW rfl (bn e6)) rfl h7) rfl<|ak (gI H8 ag_29 rfl (fun _=>rfl) rfl fun x16 H9=>ak (aY (l:=(bH.C (⟨0,0,0,(⟨0,0,0,0,0⟩:ap),0,0⟩:bH))) zero_29 rfl rfl fun b10=>ak (aZ (k:=0) (vs:=(bH.C x16)) inf_29 rfl rfl rfl rfl rfl rfl rfl<|ae<|ah<|ac<|aa (ad rfl) rfl<|aa (bI rfl rfl) rfl<|aa (ag rfl) rfl<|ae<|ah<|ah<|ac<|aa (an vt rfl) rfl<|bw (bm (k:=0) bj rfl rfl rfl) rfl<|aa (ad rfl) rfl<|aa (bV rfl rfl) rfl<|aa (ad rfl) rfl<|aj rfl rfl rfl (aA _) (fun g10=>wv (an vr rfl)) rfl<|aj rfl rfl rfl (aA _) (fun g11=>cv (bm (k:=0) bj (aJ rfl g11) rfl rfl)) rfl<|aj rfl rfl rfl (aA _) (fun g12=>wv (ad rfl)) rfl<|aj rfl rfl rfl (aA _) (fun g13=>wv (bV (aJ rfl g13) (aJ rfl g13))) rfl<|aa (bU rfl rfl) rfl<|ae<|aC rfl H9 (fun k14 H15=>ac<|aa (ag rfl) rfl<|ae<|ac<|aa (ad rfl) rfl<|aa (ad rfl) rfl<|aa (v_maxT rfl rfl) rfl<|aa (ag rfl) rfl<|ae<|ac<|aa (bI rfl rfl) rfl<|aa (ad rfl) rfl<|ae<|cT ((mx s1.1 0),0,(IntKind.i64.wrap (s1.2.2 + 1))) H15 (.cons rfl (.cons rfl (.cons rfl (.cons rfl (.cons rfl (.cons rfl (.cons rfl (.nil _)))))))) (.cons _ .slnil)) (fun k14 H15=>av<|ac<|aa (ad rfl) rfl<|aa (ad rfl) rfl<|aa (v_maxT rfl rfl) rfl<|aa (ag rfl) rfl<|ae<|ac<|aa (bI rfl rfl) rfl<|aa (ad rfl) rfl<|ae<|cT ((mx s1.1 (IntKind.i64.wrap (s1.2.1 + 1))),(IntKind.i64.wrap (s1.2.1 + 1)),(IntKind.i64.wrap (s1.2.2 + 1))) H15 (.cons rfl (.cons rfl (.cons rfl (.cons rfl (.cons rfl (.cons rfl (.cons rfl (.nil _)))))))) (.cons _ .slnil)))))) (fun k4 H5=>bA<|ah<|ac<|aa (ad rfl) rfl<|aa (ag rfl) rfl<|ae<|ao<|aw (az rfl (aE rfl)) ⟨s1.1,rfl,H5⟩))
def wW (a0:Sl) (a1:Int) (a2:Int) (K:Bool→Hp→Prop) (Rec2:Int→Hp→Prop) (s1:Int):Hp→Prop:=br (decide (s1 < a1)) ( cl Tryz.prog lu [(sv a0),(.int .i64 2),(.int .i64 s1)] dO fun r14=>br (!(decide (r14 ≥ a2))) ( cl Tryz.prog lu [(sv a0),(.int .i64 3),(.int .i64 s1)] dO fun r20=>br (decide (r20 ≥ a2)) ( K false) ( Rec2 (IntKind.i64.wrap (s1 + 1)))) ( K false)) ( K true)
def sh_fair_Fair (a0:Sl) (a1:Int) (a2:Int) (K:Bool→Hp→Prop):Hp→Prop:=Lp (wW a0 a1 a2 K) 0
set_option maxRecDepth 20000 in
theorem sim_fair_Fair (a0:Sl) (a1:Int) (a2:Int) {K:Bool→Hp→Prop} {h:Hp} (H:sh_fair_Fair a0 a1 a2 K h):Ct Tryz.prog uc #[(sv a0),(.int .i64 a1),(.int .i64 a2)] h fun v h'=>∃ r,v = aK r∧K r h':=aD [(sv a0),(.int .i64 a1),(.int .i64 a2)] Tryz.func12 rfl rfl rfl fun _=>ah<|ac<|aa (ag rfl) rfl<|ae<|ah<|ah<|ac<|aa (ad rfl) rfl<|aa (ad rfl) rfl<|ae<|aF<|bO (step:=wW a0 a1 a2 K) (fun s1=>[(0,(sv a0)),(2,(.int .i64 a2)),(8,(.int .i64 a1)),(9,(.int .i64 s1))]) (fun s1=>[]) H (.cons rfl (.cons rfl (.cons rfl (.cons rfl (.nil _))))) .slnil (fun Rec2 s1 _ H3=>ah<|ac<|aa (cx rfl rfl) rfl<|ae<|ah<|aC rfl H3 (fun k4 H5=>av<|ah<|aF<|ah<|ac<|aa (ad rfl) rfl<|aa (ag rfl) rfl<|ae<|ah<|ac<|aa (ad rfl) rfl<|aa (ad rfl) rfl<|ak (aB H5 en_13 rfl rfl fun r14 _ H6=>aa (ad rfl) rfl<|aa (gz rfl rfl) rfl<|aa (ad rfl) rfl<|aj rfl rfl rfl (aS _) (fun g7=>wv (ad rfl)) rfl<|aj rfl rfl rfl (aS _) (fun g8=>wv (ad rfl)) rfl<|cc H6 (fun k10 H11=>aL rfl rfl rfl (congrArg Value.bool (cm k10)) (aB H11 en_13 (ba (aJ rfl k10) (ba rfl (ba (aJ rfl k10) bY))) rfl fun r20 _ H12=>aL rfl rfl rfl (congrArg Value.bool (cm k10)) (aQ (wv (ad rfl)) rfl<|aL rfl rfl rfl (congrArg Value.bool (cm k10)) (aQ (wv (gz rfl rfl)) rfl<|aa (ay rfl (cm k10) rfl) rfl<|ae<|aC rfl H12 (fun k13 H14=>ah<|ac<|aa (ag rfl) rfl<|ae<|ao<|aw (az rfl (aE rfl)) ⟨false,rfl,H14⟩) (fun k13 H14=>av<|ac<|aa (bI rfl rfl) rfl<|aa (ad rfl) rfl<|ae<|cT (IntKind.i64.wrap (s1 + 1)) H14 (.cons rfl (.cons rfl (.cons rfl (.cons rfl (.nil _))))) .slnil))))) (fun k10 H11=>am rfl rfl rfl (ci (bN k10)) rfl<|am rfl rfl rfl (ci (bN k10)) rfl<|am rfl rfl rfl (ci (bN k10)) rfl<|aa (bd rfl (bN k10) rfl) rfl<|ae<|lz rfl rfl<|ah<|ac<|aa (ag rfl) rfl<|ae<|ao<|aw (az rfl (aE rfl)) ⟨false,rfl,H11⟩))) (fun k4 H5=>bA<|ah<|ac<|aa (ag rfl) rfl<|ae<|ao<|aw (az rfl (aE rfl)) ⟨true,rfl,H5⟩))
end Go.Proofs.YtniiiakkdoiaiaaGreatDoor
namespace Go.Proofs.YtniiiakkdoiaiaaGreatDoor
open Go Mb
abbrev uH:=bH
abbrev vK (s:Sl) (xs:List uH):As:=vec t_api_Pick 10 bH.C s xs
theorem qD (p:uH):p.C.length = 10:=rfl
theorem pick_one (p:uH):dM p.C = true:=rfl
namespace Fair
def longFrom (kind core:Int):List uH→Int→Int→Int
  | [],best,_=>best
  | p::ps,best,now=>if p.fKind = kind∧p.fCore = core then longFrom kind core ps (mx best 0) 0 else longFrom kind core ps (mx best (IntKind.i64.wrap (now + 1))) (IntKind.i64.wrap (now + 1))
def longest (ps:List uH) (kind core:Int):Int:=longFrom kind core ps 0 0
def okCore (ps:List uH) (b:Int) (c:Nat):Bool:=decide (longest ps 2 c < b) && decide (longest ps 3 c < b)
def fair (ps:List uH) (cores b:Int):Bool:=(List.range cores.toNat).all (okCore ps b)
def pk (kind:Int) (c:Nat):uH:=⟨kind,c,0,⟨0,0,0,0,0⟩,0,0⟩
def line (kind:Int) (c:Nat):List uH:=(List.range c).map (pk kind)
def lines (c:Nat) (kinds:List Int):List uH:=kinds.flatMap fun k=>line k c
def turns (c n:Nat):List uH:=(List.range n).flatMap fun _=>lines c [3,2]
def rounds (cores n:Int):List uH:=if cores < 1∨cores > 8∨n < 0∨n > 500 then [] else turns cores.toNat n.toNat
theorem line_len (kind:Int) (c:Nat):(line kind c).length = c:=by simp [line]
theorem line_succ (kind:Int) (c:Nat):line kind (c + 1) = line kind c++[pk kind c]:=by simp [line,List.range_succ]
theorem turns_succ (c n:Nat):turns c (n + 1) = turns c n++lines c [3,2]:=by simp [turns,List.range_succ]
theorem lines_len (c:Nat):∀ (ks:List Int),(lines c ks).length = ks.length * c
  | []=>by simp [lines]
  | k::ks=>by
    have:=lines_len c ks
    simp only [lines,List.flatMap_cons,List.length_append,line_len,List.length_cons,Nat.succ_mul] at this ⊢
    omega
theorem turns_len (c n:Nat):(turns c n).length = n * (2 * c):=by
  induction n with
  | zero=>simp [turns]
  | succ n ih=>rw [turns_succ,List.length_append,ih,lines_len,Nat.add_mul n 1,Nat.one_mul]; rfl
end Fair
theorem qQ (s:Sl) (ps:List uH) (kind core:Int) (hb:ps.length < 2 ^ 40):Sp Tryz.prog lu [sv s,.int .i64 kind,.int .i64 core] dO [vK s ps] (fun r=>pa_ (r = Fair.longest ps kind core) [vK s ps]):=by
  intro h s0
  have hl:=(cq (j:=0) s0 rfl).1
  refine sim_fair_Longest _ _ _ ?_
  unfold sh_fair_Longest
  refine Lp.intro (fun (z:Int × Int × Int) h=>∃ n:Nat,z.2.2 = n∧n ≤ ps.length∧Fair.longFrom kind core (ps.drop n) z.1 z.2.1 = Fair.longest ps kind core∧aP [vK s ps] h) (fun (z:Int × Int × Int) _=>ps.length - z.2.2.toNat) ⟨0,rfl,Nat.zero_le _,rfl,s0⟩ ?_
  rintro ⟨best,now,i⟩ h ⟨n,rfl,hn,he,s1⟩
  unfold rb
  simp only at he ⊢
  refine bk (fun k=>?_) (fun k=>?_)
  · have hlt:n < ps.length:=by rw [hl] at k; simpa using k
    have hw:IntKind.i64.wrap ((n:Int) + 1) = ((n + 1:Nat):Int):=by rw [cf (by omega) (by omega)]; rfl
    rw [List.drop_eq_getElem_cons hlt,Fair.longFrom] at he
    refine dE s1 (j:=0) rfl (by omega) (by omega) fun q hq=>?_
    refine eC (j:=0) (i:=n) (k:=0) ps[n] qD s1 rfl hq rfl (aO hlt) (by simp) ?_
    rw [hw]
    refine bk (fun k2=>?_) (fun k2=>?_)
    · have k2':ps[n].fKind = kind∧ps[n].fCore = core:=by simpa using k2
      rw [if_pos k2'] at he
      exact ⟨⟨n + 1,rfl,hlt,he,s1⟩,by simp; omega⟩
    · have k2':¬ (ps[n].fKind = kind∧ps[n].fCore = core):=by simpa using k2
      rw [if_neg k2'] at he
      exact ⟨⟨n + 1,rfl,hlt,he,s1⟩,by simp; omega⟩
  · have:n = ps.length:=by rw [hl] at k; simp at k; omega
    subst this
    rw [List.drop_length] at he
    exact bi he s1
theorem sp_fair_Fair (s:Sl) (ps:List uH) (cores b:Int) (hb:ps.length < 2 ^ 40) (hc:cores < 2 ^ 62):Sp Tryz.prog uc [sv s,.int .i64 cores,.int .i64 b] aK [vK s ps] (fun r=>pa_ (r = Fair.fair ps cores b) [vK s ps]):=by
  intro h s0
  refine sim_fair_Fair _ _ _ ?_
  unfold sh_fair_Fair
  refine Lp.intro (fun (i:Int) h=>∃ n:Nat,i = n∧n ≤ cores.toNat∧(∀ c,c < n→Fair.okCore ps b c = true)∧aP [vK s ps] h) (fun (i:Int) _=>cores.toNat - i.toNat) ⟨0,rfl,Nat.zero_le _,fun c hc=>by omega,s0⟩ ?_
  rintro i h ⟨n,rfl,hn,ho,s1⟩
  unfold wW
  refine bk (fun k=>?_) (fun k=>?_)
  · have hlt:n < cores.toNat:=by have:=of_decide_eq_true k; omega
    have hw:IntKind.i64.wrap ((n:Int) + 1) = ((n + 1:Nat):Int):=by rw [cf (by omega) (by omega)]; rfl
    have no:Fair.okCore ps b n = false→Fair.fair ps cores b = false:=fun hf=>by
      unfold Fair.fair
      cases ha:(List.range cores.toNat).all (Fair.okCore ps b) with
      | false=>rfl
      | true=>rw [List.all_eq_true.1 ha n (List.mem_range.2 hlt)] at hf; cases hf
    refine bZ (qQ s ps 2 n hb) (i:=0) rfl s1 fun r h2 hr s2=>?_
    subst hr
    refine bk (fun k2=>?_) (fun k2=>?_)
    · have k2':Fair.longest ps 2 n < b:=by simpa using k2
      refine bZ (qQ s ps 3 n hb) (i:=0) rfl s2 fun r h3 hr s3=>?_
      subst hr
      refine bk (fun k3=>?_) (fun k3=>?_)
      · have k3':¬ Fair.longest ps 3 n < b:=by simp at k3; omega
        exact bi (no (by simp [Fair.okCore,k3'])).symm s3
      · have k3':Fair.longest ps 3 n < b:=by simp at k3; omega
        rw [hw]
        refine ⟨⟨n + 1,rfl,hlt,fun c hc=>?_,s3⟩,by simp; omega⟩
        by_cases e:c = n
        · subst e; simp [Fair.okCore,k2',k3']
        · exact ho c (by omega)
    · have k2':¬ Fair.longest ps 2 n < b:=by simp at k2; omega
      exact bi (no (by simp [Fair.okCore,k2'])).symm s2
  · have:n = cores.toNat:=by have:=of_decide_eq_false k; omega
    subst this
    refine bi ?_ s1
    unfold Fair.fair
    exact (List.all_eq_true.2 fun c hc=>ho c (List.mem_range.1 hc)).symm
theorem sp_fair_Rounds (cores n:Int):Sp Tryz.prog uB [.int .i64 cores,.int .i64 n] gY [] (fun r=>aP [vK r (Fair.rounds cores n)]):=by
  intro h s0
  refine sim_fair_Rounds _ _ ?_
  unfold sh_fair_Rounds
  refine bk (fun k=>?_) (fun k=>?_)
  · have e1:Fair.rounds cores n = []:=if_pos (by simpa [or_assoc] using k)
    rw [e1]; exact fI s0
  · have k':¬ (cores < 1∨cores > 8∨n < 0∨n > 500):=by simp at k; omega
    have e1:Fair.rounds cores n = Fair.turns cores.toNat n.toNat:=if_neg k'
    rw [e1]
    obtain ⟨C,rfl⟩:=Int.eq_ofNat_of_zero_le (show 0 ≤ cores by omega)
    obtain ⟨N,rfl⟩:=Int.eq_ofNat_of_zero_le (show 0 ≤ n by omega)
    simp only [Int.toNat_natCast]
    refine fu (τ:=uH) [] (val:=fun x=>.agg x.C.toArray) (enc:=bH.C) xg qD (fun _=>rfl) s0 rfl rfl (by simp) fun v h1 s1=>?_
    refine Lp.intro (fun (z:Sl × Int) h=>∃ j:Nat,z.2 = j∧j ≤ N∧aP [vK z.1 (Fair.turns C j)] h) (fun (z:Sl × Int) _=>N - z.2.toNat) ⟨0,rfl,Nat.zero_le _,s1⟩ ?_
    rintro ⟨z,i⟩ h ⟨j,rfl,hj,s2⟩
    unfold te
    refine bk (fun k2=>?_) (fun k2=>?_)
    · have hlt:j < N:=by have:=of_decide_eq_true k2; simp at this; exact this
      have hw:IntKind.i64.wrap ((j:Int) + 1) = ((j + 1:Nat):Int):=by rw [cf (by omega) (by omega)]; rfl
      have htl:=Fair.turns_len C j
      have hC:C ≤ 8:=by omega
      have hjb:j * (2 * C) ≤ 500 * 16:=Nat.mul_le_mul (by omega) (by omega)
      refine fu (τ:=Int) [3,2] (val:=fun x=>.int .i64 x) (enc:=cI .i64) el_Sint (dk _) (fun _=>rfl) s2 rfl rfl (by decide) fun vk h3 s3=>?_
      have hvl:=(cq (j:=0) s3 rfl).1
      refine Lp.intro (fun (y:Sl × Int) h=>∃ m:Nat,y.2 = m∧m ≤ 2∧aP [vK y.1 (Fair.turns C j++Fair.lines C (([3,2]:List Int).take m)),vec kH 1 (cI .i64) vk [3,2]] h) (fun (y:Sl × Int) _=>2 - y.2.toNat) ⟨0,rfl,Nat.zero_le _,by
        have s4:=bp (m:=[vK z (Fair.turns C j),vec kH 1 (cI .i64) vk [3,2]]) [1] s3 rfl
        simpa [Fair.lines] using s4⟩ ?_
      rintro ⟨y,i2⟩ h ⟨m,rfl,hm,s4⟩
      unfold td
      refine bk (fun k3=>?_) (fun k3=>?_)
      · have hlt2:m < 2:=by rw [hvl] at k3; have:=of_decide_eq_true k3; simp at this; omega
        have hw2:IntKind.i64.wrap ((m:Int) + 1) = ((m + 1:Nat):Int):=by rw [cf (by omega) (by omega)]; rfl
        have hkl:m < ([3,2]:List Int).length:=hlt2
        refine dE s4 (j:=1) rfl (by omega) (by simp; omega) fun q hq=>?_
        refine eC (j:=1) (i:=m) (k:=0) ([3,2]:List Int)[m] (dk _) s4 rfl hq (by simp) (aO hkl) (by simp) ?_
        have hll:=Fair.lines_len C (([3,2]:List Int).take m)
        have hlb:(([3,2]:List Int).take m).length * C ≤ 2 * 8:=Nat.mul_le_mul (by simp; omega) (by omega)
        refine Lp.intro (fun (x:Sl × Int) h=>∃ p:Nat,x.2 = p∧p ≤ C∧aP [vK x.1 (Fair.turns C j++Fair.lines C (([3,2]:List Int).take m)++Fair.line ([3,2]:List Int)[m] p),vec kH 1 (cI .i64) vk [3,2]] h) (fun (x:Sl × Int) _=>C - x.2.toNat) ⟨0,rfl,Nat.zero_le _,by simpa [Fair.line] using s4⟩ ?_
        rintro ⟨x,i3⟩ h ⟨p,rfl,hp,s5⟩
        have hpl:=Fair.line_len ([3,2]:List Int)[m] p
        unfold tc
        refine bk (fun k4=>?_) (fun k4=>?_)
        · have hlt3:p < C:=by have:=of_decide_eq_true k4; simp at this; exact this
          have hw3:IntKind.i64.wrap ((p:Int) + 1) = ((p + 1:Nat):Int):=by rw [cf (by omega) (by omega)]; rfl
          refine kr (τ:=uH) (i:=0) (enc:=bH.C) (val:=fun x=>.agg x.C.toArray) (x:=Fair.pk ([3,2]:List Int)[m] p) xg qD pick_one (fun _=>rfl) (by omega) rfl rfl s5 rfl (by simp only [List.length_append]; omega) (by simp only [List.length_append]; omega) fun v h6 s6=>?_
          rw [hw3]
          refine ⟨⟨p + 1,rfl,hlt3,?_⟩,by simp; omega⟩
          rw [Fair.line_succ,← List.append_assoc]
          exact s6
        · have:p = C:=by have:=of_decide_eq_false k4; simp at this; omega
          subst this
          rw [hw2]
          refine ⟨⟨m + 1,rfl,hlt2,?_⟩,by simp; omega⟩
          have et:([3,2]:List Int).take (m + 1) = ([3,2]:List Int).take m++[([3,2]:List Int)[m]]:=by rw [List.take_add_one,aO hkl]; rfl
          have el:Fair.lines p (([3,2]:List Int).take (m + 1)) = Fair.lines p (([3,2]:List Int).take m)++Fair.line ([3,2]:List Int)[m] p:=by
            rw [et]; unfold Fair.lines; rw [List.flatMap_append]; simp
          rw [el,← List.append_assoc]
          exact s5
      · have:m = 2:=by rw [hvl] at k3; have:=of_decide_eq_false k3; simp at this; omega
        subst this
        rw [hw]
        refine ⟨⟨j + 1,rfl,hlt,?_⟩,by simp; omega⟩
        rw [Fair.turns_succ]
        exact nv (l:=[vK y (Fair.turns C j++Fair.lines C [3,2])]) s4
    · have:j = N:=by have:=of_decide_eq_false k2; simp at this; omega
      subst this
      exact s2
end Go.Proofs.YtniiiakkdoiaiaaGreatDoor
namespace Go.Proofs.YtniiiakkdoiaiaaGreatDoor
open Go Mb
set_option linter.unusedVariables false
def vW (a0:Sl) (a1:Int) (K:Sl→Hp→Prop) (Rec2:(Sl × Int)→Hp→Prop) (s1:Sl × Int):Hp→Prop:=br (decide (s1.2 < (a0.len:Int))) ( ix a0 s1.2 fun q12=>ld (q12.1,q12.2 + Int.toNat s1.2 * 16) aM.C fun x13=>br ((x13.fEnv == a1) && (decide (x13.fEnd > 0))) ( hpv Tryz.prog (Instr.buildSlice mG 1 #[(0,(.agg (al.C x13.fAnswer).toArray))]) mP fun (v26:Sl)=>hpv Tryz.prog (Builtin.append_ #[mG,mG] mG #[(sv s1.1),(sv v26)]) mP fun (v27:Sl)=>Rec2 (v27,(IntKind.i64.wrap (s1.2 + 1)))) ( Rec2 (s1.1,(IntKind.i64.wrap (s1.2 + 1))))) ( K s1.1)
def sh_twin_View (a0:Sl) (a1:Int) (K:Sl→Hp→Prop):Hp→Prop:=Lp (vW a0 a1 K) ((⟨none,0,0,none⟩:Sl),0)
set_option maxRecDepth 20000 in
theorem sim_twin_View (a0:Sl) (a1:Int) {K:Sl→Hp→Prop} {h:Hp} (H:sh_twin_View a0 a1 K h):Ct Tryz.prog n_twin_View #[(sv a0),(.int .i64 a1)] h fun v h'=>∃ r,v = mP r∧K r h':=aD [(sv a0),(.int .i64 a1)] Tryz.func51 rfl rfl rfl fun _=>ah<|ac<|aa (ag rfl) rfl<|ae<|ah<|ac<|aa (ag rfl) rfl<|ae<|ah<|ah<|ac<|aa (ad rfl) rfl<|aa (dB rfl Tryz.underlying39 rfl) rfl<|aa (ad rfl) rfl<|ae<|aF<|bO (step:=vW a0 a1 K) (fun s1=>[(1,(.int .i64 a1)),(5,(sv s1.1)),(8,(sv a0)),(9,(.int .i64 (a0.len:Int))),(10,(.int .i64 s1.2))]) (fun s1=>[]) H (.cons rfl (.cons rfl (.cons rfl (.cons rfl (.cons rfl (.nil _)))))) .slnil (fun Rec2 s1 _ H3=>ah<|ac<|aa (cx rfl rfl) rfl<|ae<|ah<|aC rfl H3 (fun k4 H5=>av<|ah<|aF<|ah<|ac<|cw H5 fun q12 e6 h7 H8=>aa (bD sw (aW rfl (bn e6)) rfl h7) rfl<|ak (gI H8 ag_51 rfl (fun _=>rfl) rfl fun x13 H9=>ak (aY (l:=(aM.C (⟨0,0,(⟨0,0,0,0,0⟩:ap),0,0,0,(⟨0,0⟩:al),(⟨0,0,0,0⟩:au)⟩:aM))) zero_51 rfl rfl fun b7=>ak (aZ (k:=0) (vs:=(aM.C x13)) inf_51 rfl rfl rfl rfl rfl rfl rfl<|ae<|ah<|ac<|aa (an oL rfl) rfl<|bw (bm (k:=0) bj rfl rfl rfl) rfl<|aa (ad rfl) rfl<|aa (bV rfl rfl) rfl<|aa (ad rfl) rfl<|aj rfl rfl rfl (aA _) (fun g10=>wv (an qJ rfl)) rfl<|aj rfl rfl rfl (aA _) (fun g11=>cv (bm (k:=0) bj (aJ rfl g11) rfl rfl)) rfl<|aj rfl rfl rfl (aA _) (fun g12=>wv (oQ (aJ rfl g12) rfl)) rfl<|aa (bU rfl rfl) rfl<|ae<|aC rfl H9 (fun k13 H14=>ac<|aa (ad rfl) rfl<|aa (an ke rfl) rfl<|bw (bP (k:=0) cL rfl rfl rfl rfl) rfl<|ak (be H14 (bJ (vs:=[(.agg (al.C x13.fAnswer).toArray)]) rfl) rfl fun v26 _ H15=>ak (be H15 (dK rfl rfl) rfl fun v27 _ H16=>aa (ag rfl) rfl<|ae<|ac<|aa (bI rfl rfl) rfl<|aa (ad rfl) rfl<|ae<|cT (v27,(IntKind.i64.wrap (s1.2 + 1))) H16 (.cons rfl (.cons rfl (.cons rfl (.cons rfl (.cons rfl (.nil _)))))) (.cons _ .slnil)))) (fun k13 H14=>av<|ac<|aa (bI rfl rfl) rfl<|aa (ad rfl) rfl<|ae<|cT (s1.1,(IntKind.i64.wrap (s1.2 + 1))) H14 (.cons rfl (.cons rfl (.cons rfl (.cons rfl (.cons rfl (.nil _)))))) (.cons _ .slnil)))))) (fun k4 H5=>bA<|ah<|ac<|aa (ad rfl) rfl<|aa (ag rfl) rfl<|ae<|ao<|aw (az rfl (aE rfl)) ⟨s1.1,rfl,H5⟩))
end Go.Proofs.YtniiiakkdoiaiaaGreatDoor
namespace Go.Proofs.YtniiiakkdoiaiaaGreatDoor
open Go Mb
abbrev vA (s:Sl) (xs:List gy):As:=vec t_api_Answer 2 al.C s xs
theorem ans_len (p:gy):p.C.length = 2:=rfl
theorem ans_one (p:gy):dM p.C = true:=rfl
namespace Twin
def view (env:Int):List co→List gy
  | []=>[]
  | e::es=>if e.fEnv = env∧e.fEnd > 0 then e.fAnswer::view env es else view env es
def same:List gy→List gy→Bool
  | [],[]=>true
  | a::l,b::r=>al.eqb a b && same l r
  | _,_=>false
theorem view_app (env:Int) (e:co):∀ es,view env (es++[e]) = view env es++(if e.fEnv = env∧e.fEnd > 0 then [e.fAnswer] else [])
  | []=>by simp only [List.nil_append,view]
  | d::es=>by
    simp only [List.cons_append,view,view_app env e es]
    split <;> simp
theorem view_len (env:Int):∀ es,(view env es).length ≤ es.length
  | []=>Nat.le_refl _
  | e::es=>by unfold view; have:=view_len env es; split <;> simp <;> omega
end Twin
theorem sp_twin_View (s:Sl) (es:List co) (env:Int) (hb:es.length < 2 ^ 38):Sp Tryz.prog n_twin_View [sv s,.int .i64 env] mP [vE s es] (fun r=>aP [vA r (Twin.view env es),vE s es]):=by
  intro h s0
  have hl:=(cq (j:=0) s0 rfl).1
  refine sim_twin_View _ _ ?_
  unfold sh_twin_View
  refine Lp.intro (fun (z:Sl × Int) h=>∃ n:Nat,z.2 = n∧n ≤ es.length∧aP [vA z.1 (Twin.view env (es.take n)),vE s es] h) (fun (z:Sl × Int) _=>es.length - z.2.toNat) ⟨0,rfl,Nat.zero_le _,fI s0⟩ ?_
  rintro ⟨z,i⟩ h ⟨n,rfl,hn,s1⟩
  unfold vW
  refine bk (fun k=>?_) (fun k=>?_)
  · have hlt:n < es.length:=by rw [hl] at k; simpa using k
    have hw:IntKind.i64.wrap ((n:Int) + 1) = ((n + 1:Nat):Int):=by rw [cf (by omega) (by omega)]; rfl
    have ht:es.take (n + 1) = es.take n++[es[n]]:=by simp
    refine dE s1 (j:=1) rfl (by omega) (by show (n:Int) < _; omega) fun q hq=>?_
    refine eC (j:=1) (i:=n) (k:=0) es[n] np s1 rfl hq rfl (aO hlt) (by simp) ?_
    rw [hw]
    refine bk (fun k2=>?_) (fun k2=>?_)
    · have k2':es[n].fEnv = env∧es[n].fEnd > 0:=by simpa using k2
      have hvl:=Twin.view_len env (es.take n)
      simp at hvl
      refine kr (τ:=gy) (i:=0) (enc:=al.C) (val:=fun x=>.agg x.C.toArray) el_Sapi_Answer ans_len ans_one (fun _=>rfl) (by omega) rfl rfl s1 rfl (by omega) (by omega) fun v h2 s2=>?_
      refine ⟨⟨n + 1,rfl,hlt,?_⟩,by simp; omega⟩
      rw [ht,Twin.view_app,if_pos k2']
      exact s2
    · have k2':¬ (es[n].fEnv = env∧es[n].fEnd > 0):=by simpa using k2
      refine ⟨⟨n + 1,rfl,hlt,?_⟩,by simp; omega⟩
      rw [ht,Twin.view_app,if_neg k2',List.append_nil]
      exact s1
  · have:n = es.length:=by rw [hl] at k; simp at k; omega
    subst this
    rw [List.take_length] at s1
    exact s1
end Go.Proofs.YtniiiakkdoiaiaaGreatDoor
namespace Go.Proofs.YtniiiakkdoiaiaaGreatDoor
open Go Mb
variable {ET:Nat} {EF:Nat × Nat}
theorem kern_nn {l:List As} {h:Hp} {x:Ptr} {k:KK} (s:aP (dz x k::l) h):x.isNone = false:=nn_of (fun _ e=>by rw [e.1]; rfl) s
namespace B16
abbrev sz:kQ:=⟨2,2,3⟩
def r1:=KK.run (KK.new ⟨2,2,3⟩) 0 0 ⟨1,1,0,0,0⟩
def r2:=KK.run r1.2 0 0 ⟨6,4,1,3,0⟩
def r3:=KK.run r2.2 1 0 ⟨21,4,2,9,0⟩
def r4:=KK.run r3.2 0 0 ⟨20,4,2,0,0⟩
def r5:=KK.run r4.2 0 0 ⟨7,4,0,0,0⟩
def es:=r5.2.events
theorem es_len:es.length = 5:=by kernel_rfl
theorem apart:Hist.may es sz = true:=by kernel_rfl
theorem now1:r1.2.now < 1000:=of_decide_eq_true (by kernel_rfl)
theorem now2:r2.2.now < 1000:=of_decide_eq_true (by kernel_rfl)
theorem now3:r3.2.now < 1000:=of_decide_eq_true (by kernel_rfl)
theorem now4:r4.2.now < 1000:=of_decide_eq_true (by kernel_rfl)
theorem now5:r5.2.now < 1000:=of_decide_eq_true (by kernel_rfl)
theorem lin:Judge.linear es sz = (-1,true):=by kernel_rfl
theorem acc:Judge.accesses es sz = (-1,true):=by kernel_rfl
theorem rgt:Judge.right es sz = true:=by kernel_rfl
end B16
theorem ord20 {es:List co} (s:Sl) (h:es.length ≤ 20):Hist.Apart es→OrdOk s es:=fun ha=>sp_hist_Order20 s es h ha
theorem sp_begun16:Sp Tryz.prog ky [] aK [(etB ET EF)] (fun r=>pa_ (r = true) [(etB ET EF)]):=by
  intro h st
  refine uN ?_
  unfold ol
  refine my (sp_kern_New ⟨2,2,3⟩ (by decide)) st fun x h1 s1=>?_
  refine dJ (kern_nn s1) ?_
  refine bZ (i:=0) (sp_Run x _ 0 0 ⟨1,1,0,0,0⟩ (by decide)) rfl s1 fun a1 h2 e1 s2=>?_
  refine bZ (i:=0) (sp_Run x B16.r1.2 0 0 ⟨6,4,1,3,0⟩ (by have:=B16.now1; omega)) rfl s2 fun a2 h3 e2 s3=>?_
  refine bZ (i:=0) (sp_Run x B16.r2.2 1 0 ⟨21,4,2,9,0⟩ (by have:=B16.now2; omega)) rfl s3 fun a3 h4 e3 s4=>?_
  refine bZ (i:=0) (sp_Run x B16.r3.2 0 0 ⟨20,4,2,0,0⟩ (by have:=B16.now3; omega)) rfl s4 fun a4 h5 e4 s5=>?_
  refine bZ (i:=0) (sp_Run x B16.r4.2 0 0 ⟨7,4,0,0,0⟩ (by have:=B16.now4; omega)) rfl s5 fun a5 h6 e5 s6=>?_
  refine cl_n (i:=0) (sp_kern_Events x B16.r5.2 (by have:=B16.now5; omega)) rfl s6 fun s h7 s7=>?_
  have hes:B16.es.length < 2 ^ 38:=by rw [B16.es_len]; decide
  have hes20:B16.es.length ≤ 20:=by rw [B16.es_len]; decide
  refine bZ (i:=0) (sp_judge_Linear s B16.es B16.sz (by decide) hes (ord20 s hes20)) rfl s7 fun r1 h8 f1 s8=>?_
  refine bZ (i:=0) (sp_judge_Access s B16.es B16.sz (by decide) hes (ord20 s hes20)) rfl s8 fun r2 h9 f2 s9=>?_
  refine my (sp_fair_Rounds 2 3) s9 fun t h10 s10=>?_
  refine bZ (i:=3) sp_Begun11 rfl s10 fun r3 h11 f3 s11=>?_
  have hl:((s.len:Int) == 5) = true:=by rw [(cq (j:=1) s11 rfl).1]; kernel_rfl
  have htl:((t.len:Int) == 12) = true:=by rw [(cq (j:=0) s11 rfl).1]; kernel_rfl
  have g1:a1 = B16.r1.1:=e1.1
  have g2:a2 = B16.r2.1:=e2.1
  have g3:a3 = B16.r3.1:=e3.1
  have g4:a4 = B16.r4.1:=e4.1
  have g5:a5 = B16.r5.1:=e5.1
  rw [B16.lin] at f1
  rw [B16.acc] at f2
  rw [f1,f2,f3,g1,g2,g3,g4,g5,hl]
  refine dW (by kernel_rfl) ?_
  refine bZ (i:=1) (sp_hist_May s B16.es B16.sz hes) rfl s11 fun r4 h12 f4 s12=>?_
  refine dW (f4.trans B16.apart) ?_
  refine cl_n (i:=1) (sp_hist_Order20 s B16.es hes20 (Hist.may_apart B16.apart)) rfl s12 fun o h13 s13=>?_
  have hol:((o.len:Int) == 5) = true:=by rw [(cq (j:=0) s13 rfl).1]; kernel_rfl
  refine dW (by rw [hol,htl]; rfl) ?_
  refine bZ (i:=1) (sp_fair_Fair t _ 2 5 (by decide) (by decide)) rfl s13 fun r5 h14 f5 s14=>?_
  refine dW (f5.trans (by kernel_rfl)) ?_
  refine cl_n (i:=2) (sp_twin_View s B16.es 0 hes) rfl s14 fun v h15 s15=>?_
  have hvl:((v.len:Int) == 5) = true:=by rw [(cq (j:=0) s15 rfl).1]; kernel_rfl
  refine dW hvl ?_
  refine bZ (i:=3) (sp_judge_Right s B16.es B16.sz (by decide) hes (ord20 s hes20)) rfl s15 fun r6 h16 f6 s16=>?_
  exact bi (f6.trans B16.rgt) (ct (l:=[_,_,_,_,_]) s16)
end Go.Proofs.YtniiiakkdoiaiaaGreatDoor
namespace Go.Proofs.YtniiiakkdoiaiaaGreatDoor
open Go Mb
theorem star_imp {l:List As} {i:Nat} {A B:As} {h:Hp} (hi:l[i]? = some A) (ab:∀ h,A h→B h) (s:aP l h):aP (l.set i B) h:=by
  obtain ⟨h1,h2,d,e,a,s'⟩:=fj hi s
  exact dQ (List.getElem?_eq_some_iff.1 hi).1 ⟨h1,h2,d,e,ab _ a,s'⟩
theorem sliceTo_v {τ:Type} {P:Program} {l:List As} {h:Hp} {S T m bys i:Nat} {z:List Value} {enc:τ→List Value} {R:Sl→Value} {s:Sl} {xs:List τ} {n:Nat} {K:Sl→Hp→Prop} (E:El P S T m bys z) (he:∀ x,(enc x).length = m) (hR:R = sv) (st:aP l h) (hi:l[i]? = some (vec T m enc s xs)) (hn:n ≤ xs.length)
    (k:∀ v,v.len = n→(∀ h',vec T m enc v (xs.take n) h'→vec T m enc s xs h')→aP (l.set i (vec T m enc v (xs.take n))) h→K v h):hpv P (Instr.sliceAt S (sv s) none (some (.int .i64 n)) none) R K h:=by
  subst hR
  have hilt:=(List.getElem?_eq_some_iff.1 hi).1
  obtain ⟨e1,_⟩:=cq st hi
  have hcap:s.len ≤ s.cap:=by
    obtain ⟨_,⟨_,e2,_⟩,_⟩:=dX hi st
    exact e2
  have fin:∀ (v:Sl),v.a = s.a→v.len = n→v.cap = s.cap→(∀ h',vec T m enc v (xs.take n) h'→vec T m enc s xs h')→aP (l.set i (vec T m enc v (xs.take n))) h→hpv P (Instr.sliceAt S (sv s) none (some (.int .i64 n)) none) sv K h:=by
    intro v va vl vc vb vs
    have ev:sv (sub m s 0 n) = sv v:=by
      unfold sub sv
      rw [va,vl,vc]
      cases s.a with
      | none=>split <;> rfl
      | some q=>simp [pa]
    have H:=slice_raw (P:=P) (h:=h) (m:=m) (s:=s) (lo:=0) (hi:=n) (vlo:=none) (vhi:=some (.int .i64 n)) (R:=sv) (K:=fun r h'=>sv r = sv v∧h' = h) E rfl (.inr ⟨rfl,rfl⟩) (.inl rfl) (Nat.zero_le _) (by omega) ⟨ev,rfl⟩
    exact ⟨hp_mono _ (fun x h' ⟨r,e,e2,e3⟩=>⟨v,e.trans e2,by subst e3; exact k v vl vb vs⟩) _ H.go⟩
  obtain ⟨g1,g2,d,rfl,⟨f1,f2,f3⟩,s'⟩:=fj hi st
  rcases f3 with f3 | ⟨b,pre,rest,U,fr,f4,f5,f6,f7⟩
  · refine fin ⟨s.a,n,s.cap,none⟩ rfl rfl rfl (fun h' _=>⟨f1,f2,.inl f3⟩) (dQ hilt ⟨g1,g2,d,rfl,⟨?_,?_,.inl f3⟩,s'⟩)
    · show n = _; simp; omega
    · show n ≤ s.cap; omega
  · have hfl:(xs.take n).flatMap enc++((xs.drop n).flatMap enc++rest) = xs.flatMap enc++rest:=by
      rw [← List.append_assoc,← List.flatMap_append,List.take_append_drop]
    have hdl:((xs.drop n).flatMap enc).length = (xs.length - n) * m:=by rw [dR he]; simp
    refine fin ⟨s.a,n,s.cap,some (pre,(xs.drop n).flatMap enc++rest,U,fr)⟩ rfl rfl rfl ?_ (dQ hilt ⟨g1,g2,d,rfl,⟨?_,?_,.inr ⟨b,pre,(xs.drop n).flatMap enc++rest,U,fr,f4,?_,⟨rfl,(show nf fr pre.length (s.cap * m) from gh_nf f6)⟩,?_⟩⟩,s'⟩)
    · rintro h' ⟨a1,a2,a3⟩
      refine ⟨f1,f2,?_⟩
      rcases a3 with a3 | ⟨b',pre',rest',U',fr',c1,c2,c3,c4⟩
      · exact .inl a3
      · refine .inr ⟨b,pre,rest,U,fr,f4,f5,f6,?_⟩
        obtain ⟨c5,_⟩:=c3
        simp only [Prod.mk.injEq] at c5
        obtain ⟨rfl,rfl,rfl,rfl⟩:=c5
        have c1':s.a = some (b',pre.length):=c1
        rw [f4] at c1'
        simp only [Option.some.injEq,Prod.mk.injEq] at c1'
        obtain ⟨rfl,_⟩:=c1'
        rw [hfl] at c4
        exact c4
    · show n = _; simp; omega
    · show n ≤ s.cap; omega
    · show s.cap * m ≤ n * m + _
      rw [List.length_append,hdl,Nat.sub_mul]
      have:n * m ≤ xs.length * m:=Nat.mul_le_mul_right m hn
      rw [f1] at f5
      omega
    · rw [hfl]; exact f7
end Go.Proofs.YtniiiakkdoiaiaaGreatDoor
namespace Go.Proofs.YtniiiakkdoiaiaaGreatDoor
open Go Mb
set_option linter.unusedVariables false
def gi (a0:bH) (K:Bool→Hp→Prop) (s15:Bool):Hp→Prop:=br s15 ( K true) ( br (a0.fKind == 4) ( K ((((decide (a0.fSet ≥ 0)) && (decide (a0.fSet < 4))) && (decide (a0.fWay ≥ 0))) && (decide (a0.fWay < 2)))) ( K false))
def nB (a0:bH) (a1:aH) (K:Bool→Hp→Prop):Hp→Prop:=br ((decide (a0.fCore < 0)) || (decide (a0.fCore ≥ a1.fCores))) ( K false) ( br (a0.fKind == 1) ( K ((decide (a0.fEnv ≥ 0)) && (decide (a0.fEnv < a1.fEnvs)))) ( br (a0.fKind == 2) ( gi a0 K (a0.fKind == 2)) ( gi a0 K (a0.fKind == 3))))
set_option maxRecDepth 20000 in
theorem uv (a0:bH) (a1:aH) {K:Bool→Hp→Prop} {h:Hp} (H:nB a0 a1 K h):Ct Tryz.prog jT #[(.agg (bH.C a0).toArray),(.agg (aH.C a1).toArray)] h fun v h'=>∃ r,v = aK r∧K r h':=aD [(.agg (bH.C a0).toArray),(.agg (aH.C a1).toArray)] Tryz.func16 rfl rfl rfl fun _=>ah<|ac<|ak (cC (l:=(bH.C a0)) rfl rfl rfl fun b2=>ak (cC (l:=(aH.C a1)) rfl rfl rfl fun b3=>aa (ag rfl) rfl<|ae<|ah<|ah<|ac<|aa (an vr rfl) rfl<|bw (bm (k:=1) bj rfl rfl rfl) rfl<|aa (cx rfl rfl) rfl<|aa (ad rfl) rfl<|aj rfl rfl rfl (aS _) (fun g1=>wv (an vr rfl)) rfl<|aj rfl rfl rfl (aS _) (fun g2=>cv (bm (k:=1) bj (aJ rfl g2) rfl rfl)) rfl<|aj rfl rfl rfl (aS _) (fun g3=>wv (an kj rfl)) rfl<|aj rfl rfl rfl (aS _) (fun g4=>cv (bm (k:=0) bj (aJ rfl g4) rfl rfl)) rfl<|aj rfl rfl rfl (aS _) (fun g5=>wv (gz (aJ rfl g5) (aJ rfl g5))) rfl<|aa (dr rfl rfl) rfl<|ae<|aC rfl H (fun k6 H7=>ah<|ac<|aa (ag rfl) rfl<|ae<|ao<|aw (az rfl (aE rfl)) ⟨false,rfl,H7⟩) (fun k6 H7=>av<|ah<|ah<|ac<|aa (an vt rfl) rfl<|bw (bm (k:=1) bj rfl rfl rfl) rfl<|ae<|aF<|ah<|ac<|aa (bV rfl rfl) rfl<|aa (ag rfl) rfl<|ae<|aC rfl H7 (fun k8 H9=>ah<|ac<|aa (an fld_29_2 rfl) rfl<|bw (bm (k:=1) bj rfl rfl rfl) rfl<|aa (gz rfl rfl) rfl<|aa (ad rfl) rfl<|aj rfl rfl rfl (aA _) (fun g10=>wv (an fld_29_2 rfl)) rfl<|aj rfl rfl rfl (aA _) (fun g11=>cv (bm (k:=1) bj (aJ rfl g11) rfl rfl)) rfl<|aj rfl rfl rfl (aA _) (fun g12=>wv (an ki rfl)) rfl<|aj rfl rfl rfl (aA _) (fun g13=>cv (bm (k:=0) bj (aJ rfl g13) rfl rfl)) rfl<|aj rfl rfl rfl (aA _) (fun g14=>wv (cx (aJ rfl g14) (aJ rfl g14))) rfl<|aa (bU rfl rfl) rfl<|aa (ag rfl) rfl<|ae<|ao<|aw (az rfl (aE rfl)) ⟨((decide (a0.fEnv ≥ 0)) && (decide (a0.fEnv < a1.fEnvs))),rfl,H9⟩) (fun k8 H9=>eB (gi a0 K) (fun s15=>[(2,(.pointer (some ⟨b2,0,none⟩))),(16,(.int .i64 a0.fKind)),(29,(.bool s15))]) (fun s15=>[bx b2 29 (bH.C a0)]) ( ah<|ac<|aa (bV rfl rfl) rfl<|aa (ag rfl) rfl<|ae<|aC rfl H9 (fun k30 H31=>av<|cF (a0.fKind == 2) H31 (.cons rfl (.cons rfl (.cons rfl (.nil _)))) (.cons _ (.cons_cons _ .slnil))) (fun k30 H31=>ac<|aa (bV rfl rfl) rfl<|aa (ag rfl) rfl<|ae<|cF (a0.fKind == 3) H31 (.cons rfl (.cons rfl (.cons rfl (.nil _)))) (.cons _ (.cons_cons _ .slnil)))) (fun s15 _ H16=>aC rfl H16 (fun k17 H18=>ah<|ac<|aa (ag rfl) rfl<|ae<|ao<|aw (az rfl (aE rfl)) ⟨true,rfl,H18⟩) (fun k17 H18=>ah<|ac<|aa (bV rfl rfl) rfl<|aa (ag rfl) rfl<|ae<|aC rfl H18 (fun k19 H20=>ah<|ac<|aa (an fld_29_4 rfl) rfl<|bw (bm (k:=0) bj rfl rfl rfl) rfl<|aa (gz rfl rfl) rfl<|aa (ad rfl) rfl<|aj rfl rfl rfl (aA _) (fun g21=>wv (an fld_29_4 rfl)) rfl<|aj rfl rfl rfl (aA _) (fun g22=>cv (bm (k:=0) bj (aJ rfl g22) rfl rfl)) rfl<|aj rfl rfl rfl (aA _) (fun g23=>wv (cx (aJ rfl g23) rfl)) rfl<|aa (bU rfl rfl) rfl<|aa (ad rfl) rfl<|aj rfl rfl rfl (aA _) (fun g24=>wv (an fld_29_5 rfl)) rfl<|aj rfl rfl rfl (aA _) (fun g25=>cv (bm (k:=0) bj (aJ rfl g25) rfl rfl)) rfl<|aj rfl rfl rfl (aA _) (fun g26=>wv (gz (aJ rfl g26) rfl)) rfl<|aa (bU rfl rfl) rfl<|aa (ad rfl) rfl<|aj rfl rfl rfl (aA _) (fun g27=>wv (an fld_29_5 rfl)) rfl<|aj rfl rfl rfl (aA _) (fun g28=>cv (bm (k:=0) bj (aJ rfl g28) rfl rfl)) rfl<|aj rfl rfl rfl (aA _) (fun g29=>wv (cx (aJ rfl g29) rfl)) rfl<|aa (bU rfl rfl) rfl<|aa (ag rfl) rfl<|ae<|ao<|aw (az rfl (aE rfl)) ⟨((((decide (a0.fSet ≥ 0)) && (decide (a0.fSet < 4))) && (decide (a0.fWay ≥ 0))) && (decide (a0.fWay < 2))),rfl,H20⟩) (fun k19 H20=>av<|ah<|ac<|aa (ag rfl) rfl<|ae<|ao<|aw (az rfl (aE rfl)) ⟨false,rfl,H20⟩)))))))
def ee (Rec2:(Int × Int × Int)→Hp→Prop) (s1:Int × Int × Int) (s6:Int):Hp→Prop:=br (decide (s6 > s1.1)) ( Rec2 (s6,s6,(IntKind.i64.wrap (s1.2.2 + 1)))) ( Rec2 (s1.1,s6,(IntKind.i64.wrap (s1.2.2 + 1))))
def jx (a0:Sl) (a1:Int) (a2:Int) (K:Int→Hp→Prop) (Rec2:(Int × Int × Int)→Hp→Prop) (s1:Int × Int × Int):Hp→Prop:=br (decide (s1.2.2 < (a0.len:Int))) ( ix a0 s1.2.2 fun q20=>ld (q20.1,q20.2 + Int.toNat s1.2.2 * 10 + 0) (cI .i64) fun x22=>br (x22 == a1) ( ld (q20.1,q20.2 + Int.toNat s1.2.2 * 10 + 1) (cI .i64) fun x30=>br (x30 == a2) ( ee Rec2 s1 0) ( ee Rec2 s1 (IntKind.i64.wrap (s1.2.1 + 1)))) ( ee Rec2 s1 (IntKind.i64.wrap (s1.2.1 + 1)))) ( K s1.1)
def nC (a0:Sl) (a1:Int) (a2:Int) (K:Int→Hp→Prop):Hp→Prop:=Lp (jx a0 a1 a2 K) (0,0,0)
set_option maxRecDepth 20000 in
theorem uw (a0:Sl) (a1:Int) (a2:Int) {K:Int→Hp→Prop} {h:Hp} (H:nC a0 a1 a2 K h):Ct Tryz.prog fo #[(sv a0),(.int .i64 a1),(.int .i64 a2)] h fun v h'=>∃ r,v = dO r∧K r h':=aD [(sv a0),(.int .i64 a1),(.int .i64 a2)] Tryz.func17 rfl rfl rfl fun _=>ah<|ac<|aa (ag rfl) rfl<|ae<|ah<|ac<|aa (ag rfl) rfl<|aa (ag rfl) rfl<|ae<|ah<|ah<|ac<|aa (ag rfl) rfl<|ae<|aF<|bO (step:=jx a0 a1 a2 K) (fun s1=>[(0,(sv a0)),(1,(.int .i64 a1)),(2,(.int .i64 a2)),(7,(.int .i64 s1.1)),(8,(.int .i64 s1.2.1)),(9,(.int .i64 s1.2.2))]) (fun s1=>[]) H (.cons rfl (.cons rfl (.cons rfl (.cons rfl (.cons rfl (.cons rfl (.nil _))))))) .slnil (fun Rec2 s1 _ H3=>ah<|ah<|ac<|aa (ad rfl) rfl<|aa (ad rfl) rfl<|aa (dB rfl Tryz.underlying23 rfl) rfl<|aa (cx rfl rfl) rfl<|ae<|aC rfl H3 (fun k4 H5=>av<|ah<|aF<|ah<|ac<|aa (ad rfl) rfl<|aa (bI rfl rfl) rfl<|aa (ag rfl) rfl<|ae<|eB (ee Rec2 s1) (fun s6=>[(0,(sv a0)),(1,(.int .i64 a1)),(2,(.int .i64 a2)),(7,(.int .i64 s1.1)),(8,(.int .i64 s6)),(9,(.int .i64 s1.2.2))]) (fun s6=>[]) ( ah<|ac<|aa (ad rfl) rfl<|aa (ad rfl) rfl<|cw H5 fun q20 e10 h11 H12=>aa (bD slc_23 (aW rfl (bn e10)) rfl h11) rfl<|aa (an vt rfl) rfl<|ak (bg H12 bj rfl (fun _=>rfl) rfl fun x22 H13=>aa (ad rfl) rfl<|aa (bV rfl rfl) rfl<|aa (ad rfl) rfl<|aj rfl rfl rfl (aA _) (fun g14=>wv (ad rfl)) rfl<|aj rfl rfl rfl (aA _) (fun g15=>wv (ad rfl)) rfl<|aj rfl rfl rfl (aA _) (fun g16=>wv (bD slc_23 (aW (aJ rfl g16) (bn e10)) (aJ rfl g16) h11)) rfl<|aj rfl rfl rfl (aA _) (fun g17=>wv (an vr (aJ rfl g17))) rfl<|cc H13 (fun k19 H20=>aL rfl rfl rfl (congrArg Value.bool k19) (bg H20 bj (aJ rfl k19) (fun _=>rfl) rfl fun x30 H21=>aL rfl rfl rfl (congrArg Value.bool k19) (aQ (wv (ad rfl)) rfl<|aL rfl rfl rfl (congrArg Value.bool k19) (aQ (wv (bV rfl rfl)) rfl<|aa (bd rfl k19 rfl) rfl<|ae<|aC rfl H21 (fun k22 H23=>ac<|aa (ag rfl) rfl<|ae<|cF 0 H23 (.cons rfl (.cons rfl (.cons rfl (.cons rfl (.cons rfl (.cons rfl (.nil _))))))) .slnil) (fun k22 H23=>av<|cF (IntKind.i64.wrap (s1.2.1 + 1)) H23 (.cons rfl (.cons rfl (.cons rfl (.cons rfl (.cons rfl (.cons rfl (.nil _))))))) .slnil))))) (fun k19 H20=>am rfl rfl rfl (bc k19) rfl<|am rfl rfl rfl (bc k19) rfl<|am rfl rfl rfl (bc k19) rfl<|aa (ay rfl k19 rfl) rfl<|ae<|ev_no rfl rfl<|av<|cF (IntKind.i64.wrap (s1.2.1 + 1)) H20 (.cons rfl (.cons rfl (.cons rfl (.cons rfl (.cons rfl (.cons rfl (.nil _))))))) .slnil))) (fun s6 _ H7=>ah<|ac<|aa (ad rfl) rfl<|aa (ad rfl) rfl<|aa (oQ rfl rfl) rfl<|ae<|aC rfl H7 (fun k8 H9=>ac<|aa (ad rfl) rfl<|aa (ag rfl) rfl<|ae<|ac<|aa (ad rfl) rfl<|aa (bI rfl rfl) rfl<|aa (ag rfl) rfl<|ae<|cT (s6,s6,(IntKind.i64.wrap (s1.2.2 + 1))) H9 (.cons rfl (.cons rfl (.cons rfl (.cons rfl (.cons rfl (.cons rfl (.nil _))))))) .slnil) (fun k8 H9=>av<|ac<|aa (ad rfl) rfl<|aa (bI rfl rfl) rfl<|aa (ag rfl) rfl<|ae<|cT (s1.1,s6,(IntKind.i64.wrap (s1.2.2 + 1))) H9 (.cons rfl (.cons rfl (.cons rfl (.cons rfl (.cons rfl (.cons rfl (.nil _))))))) .slnil))) (fun k4 H5=>bA<|ah<|ac<|aa (ad rfl) rfl<|aa (ag rfl) rfl<|ae<|ao<|aw (az rfl (aE rfl)) ⟨s1.1,rfl,H5⟩))
def lw (a0:Sl) (a1:Int) (a2:Int) (K:Bool→Hp→Prop) (Rec2:Int→Hp→Prop) (s1:Int):Hp→Prop:=br (decide (s1 < a1)) ( cl Tryz.prog fo [(sv a0),(.int .i64 2),(.int .i64 s1)] dO fun r15=>br (!(decide (r15 ≥ a2))) ( cl Tryz.prog fo [(sv a0),(.int .i64 3),(.int .i64 s1)] dO fun r21=>br (decide (r21 ≥ a2)) ( K false) ( Rec2 (IntKind.i64.wrap (s1 + 1)))) ( K false)) ( K true)
def qx (a0:Sl) (a1:Int) (a2:Int) (K:Bool→Hp→Prop):Hp→Prop:=Lp (lw a0 a1 a2 K) 0
set_option maxRecDepth 20000 in
theorem sim_messuageref2_Fair (a0:Sl) (a1:Int) (a2:Int) {K:Bool→Hp→Prop} {h:Hp} (H:qx a0 a1 a2 K h):Ct Tryz.prog mt #[(sv a0),(.int .i64 a1),(.int .i64 a2)] h fun v h'=>∃ r,v = aK r∧K r h':=aD [(sv a0),(.int .i64 a1),(.int .i64 a2)] Tryz.func18 rfl rfl rfl fun _=>ah<|ac<|aa (ag rfl) rfl<|ae<|ah<|ah<|ac<|aa (ag rfl) rfl<|ae<|aF<|bO (step:=lw a0 a1 a2 K) (fun s1=>[(0,(sv a0)),(1,(.int .i64 a1)),(2,(.int .i64 a2)),(7,(.int .i64 s1))]) (fun s1=>[]) H (.cons rfl (.cons rfl (.cons rfl (.cons rfl (.nil _))))) .slnil (fun Rec2 s1 _ H3=>ah<|ah<|ac<|aa (ad rfl) rfl<|aa (ad rfl) rfl<|aa (cx rfl rfl) rfl<|ae<|aC rfl H3 (fun k4 H5=>av<|ah<|aF<|ah<|ac<|aa (ad rfl) rfl<|aa (ad rfl) rfl<|ak (aB H5 en_17 rfl rfl fun r15 _ H6=>aa (ad rfl) rfl<|aa (gz rfl rfl) rfl<|aa (ad rfl) rfl<|aj rfl rfl rfl (aS _) (fun g7=>wv (ad rfl)) rfl<|aj rfl rfl rfl (aS _) (fun g8=>wv (ad rfl)) rfl<|cc H6 (fun k10 H11=>aL rfl rfl rfl (congrArg Value.bool (cm k10)) (aB H11 en_17 (ba (aJ rfl k10) (ba rfl (ba (aJ rfl k10) bY))) rfl fun r21 _ H12=>aL rfl rfl rfl (congrArg Value.bool (cm k10)) (aQ (wv (ad rfl)) rfl<|aL rfl rfl rfl (congrArg Value.bool (cm k10)) (aQ (wv (gz rfl rfl)) rfl<|aa (ay rfl (cm k10) rfl) rfl<|ae<|aC rfl H12 (fun k13 H14=>ah<|ac<|aa (ag rfl) rfl<|ae<|ao<|aw (az rfl (aE rfl)) ⟨false,rfl,H14⟩) (fun k13 H14=>av<|ac<|aa (ad rfl) rfl<|aa (bI rfl rfl) rfl<|aa (ag rfl) rfl<|ae<|cT (IntKind.i64.wrap (s1 + 1)) H14 (.cons rfl (.cons rfl (.cons rfl (.cons rfl (.nil _))))) .slnil))))) (fun k10 H11=>am rfl rfl rfl (ci (bN k10)) rfl<|am rfl rfl rfl (ci (bN k10)) rfl<|am rfl rfl rfl (ci (bN k10)) rfl<|aa (bd rfl (bN k10) rfl) rfl<|ae<|lz rfl rfl<|ah<|ac<|aa (ag rfl) rfl<|ae<|ao<|aw (az rfl (aE rfl)) ⟨false,rfl,H11⟩))) (fun k4 H5=>bA<|ah<|ac<|aa (ag rfl) rfl<|ae<|ao<|aw (az rfl (aE rfl)) ⟨true,rfl,H5⟩))
end Go.Proofs.YtniiiakkdoiaiaaGreatDoor
namespace Go.Proofs.YtniiiakkdoiaiaaGreatDoor
open Go Mb
variable {ET:Nat} {EF:Nat × Nat}
theorem sp_Cut (s:Sl) (ps:List uH) (n:Int) (hn:0 ≤ n) (hn2:n < 2 ^ 40):Sp Tryz.prog mu [sv s,.int .i64 n] gY [vK s ps] (fun r=>pa_ (∀ h',vK r (ps.take n.toNat) h'→vK s ps h') [vK r (ps.take n.toNat)]):=by
  intro h st
  refine sim_messuagelaw16_Cut _ _ ?_
  unfold qz
  have hl:=(cq (j:=0) st rfl).1
  have hm:mn (s.len:Int) n = ((min ps.length n.toNat:Nat):Int):=by unfold mn; rw [hl]; split <;> omega
  rw [hm]
  refine sliceTo_v (i:=0) xg qD rfl st rfl (Nat.min_le_left _ _) fun v _ hb s1=>?_
  have ht:ps.take (min ps.length n.toNat) = ps.take n.toNat:=by
    rcases Nat.le_total ps.length n.toNat with h1 | h1
    · rw [Nat.min_eq_left h1,List.take_of_length_le (Nat.le_refl _),List.take_of_length_le h1]
    · rw [Nat.min_eq_right h1]
  rw [ht] at hb s1
  exact bi hb s1
theorem sp_ref2_MayPick (p:uH) (z:kQ):Sp Tryz.prog jT [.agg p.C.toArray,.agg z.C.toArray] aK [] (fun r=>pa_ (r = lb p z) []):=by
  intro h st
  refine uv _ _ ?_
  unfold nB gi
  have out:∀ b:Bool,lb p z = b→pa_ (b = lb p z) [] h:=fun b e=>bi e.symm st
  unfold lb at out ⊢
  refine bk (fun c=>?_) (fun c=>?_)
  · refine out _ ?_
    have:(((decide (p.fKind < 1)) || (decide (p.fKind > 4)) || (decide (p.fCore < 0))) || (decide (p.fCore ≥ z.fCores))) = true:=by simp at c ⊢; omega
    rw [this]; rfl
  · have c':0 ≤ p.fCore∧p.fCore < z.fCores:=by simp at c; omega
    refine bk (fun k=>?_) (fun k=>?_)
    · have k':p.fKind = 1:=by simpa using k
      refine out _ ?_
      simp [k',c'.1,c'.2]
    · have k':p.fKind ≠ 1:=by simpa using k
      refine bk (fun k2=>?_) (fun k2=>?_)
      · have k2':p.fKind = 2:=by simpa using k2
        refine dW k2 (out _ ?_)
        simp [k2',c'.1,c'.2]
      · have k2':p.fKind ≠ 2:=by simpa using k2
        refine bk (fun k3=>?_) (fun k3=>?_)
        · have k3':p.fKind = 3:=by simpa using k3
          refine out _ ?_
          simp [k3',c'.1,c'.2]
        · have k3':p.fKind ≠ 3:=by simpa using k3
          refine bk (fun k4=>?_) (fun k4=>?_)
          · have k4':p.fKind = 4:=by simpa using k4
            refine out _ ?_
            simp [k4',c'.1,c'.2]
          · have k4':p.fKind ≠ 4:=by simpa using k4
            refine out _ ?_
            have:((((decide (p.fKind < 1)) || (decide (p.fKind > 4))) || (decide (p.fCore < 0))) || (decide (p.fCore ≥ z.fCores))) = true:=by simp; omega
            rw [this]; rfl
namespace Fair
end Fair
theorem qP (s:Sl) (ps:List uH) (kind core:Int) (hb:ps.length < 2 ^ 39):Sp Tryz.prog fo [sv s,.int .i64 kind,.int .i64 core] dO [vK s ps] (fun r=>pa_ (r = Fair.longest ps kind core) [vK s ps]):=by
  intro h s0
  have hl:=(cq (j:=0) s0 rfl).1
  refine uw _ _ _ ?_
  unfold nC
  refine Lp.intro (fun (z:Int × Int × Int) h=>∃ n:Nat,z.2.2 = n∧n ≤ ps.length∧0 ≤ z.1∧0 ≤ z.2.1∧z.2.1 ≤ n∧Fair.longFrom kind core (ps.drop n) z.1 z.2.1 = Fair.longest ps kind core∧aP [vK s ps] h) (fun (z:Int × Int × Int) _=>ps.length - z.2.2.toNat) ⟨0,rfl,Nat.zero_le _,Int.le_refl _,Int.le_refl _,Int.le_refl _,rfl,s0⟩ ?_
  rintro ⟨best,now,i⟩ h ⟨n,rfl,hn,hb0,hn0,hnn,he,s1⟩
  unfold jx
  simp only at he hb0 hn0 hnn ⊢
  refine bk (fun k=>?_) (fun k=>?_)
  · have hlt:n < ps.length:=by rw [hl] at k; simpa using k
    have hw:IntKind.i64.wrap ((n:Int) + 1) = ((n + 1:Nat):Int):=by rw [cf (by omega) (by omega)]; rfl
    have hw2:IntKind.i64.wrap (now + 1) = now + 1:=cf (by omega) (by omega)
    rw [List.drop_eq_getElem_cons hlt,Fair.longFrom,hw2] at he
    have fin:∀ (m:Int) (h':Hp),0 ≤ m→m ≤ n + 1→Fair.longFrom kind core (ps.drop (n + 1)) (mx best m) m = Fair.longest ps kind core→aP [vK s ps] h' →
        ee (fun z' h'=>(∃ n':Nat,z'.2.2 = n'∧n' ≤ ps.length∧0 ≤ z'.1∧0 ≤ z'.2.1∧z'.2.1 ≤ n'∧Fair.longFrom kind core (ps.drop n') z'.1 z'.2.1 = Fair.longest ps kind core∧aP [vK s ps] h')∧ps.length - z'.2.2.toNat < ps.length - (n:Int).toNat) (best,now,n) m h':=by
      intro m h' m0 m1 e s2
      unfold ee
      simp only
      rw [hw]
      refine bk (fun c=>?_) (fun c=>?_)
      · have c':m > best:=of_decide_eq_true c
        have:mx best m = m:=by unfold mx; rw [if_pos c']
        rw [this] at e
        exact ⟨⟨n + 1,rfl,hlt,m0,m0,by omega,e,s2⟩,by simp; omega⟩
      · have c':¬ m > best:=of_decide_eq_false c
        have:mx best m = best:=by unfold mx; rw [if_neg c']
        rw [this] at e
        exact ⟨⟨n + 1,rfl,hlt,hb0,m0,by omega,e,s2⟩,by simp; omega⟩
    refine dE s1 (j:=0) rfl (by omega) (by omega) fun q hq=>?_
    refine eC (j:=0) (i:=n) (k:=0) ps[n].fKind qD s1 rfl hq rfl (aO hlt) (c1 rfl rfl) ?_
    rw [hw2]
    refine bk (fun k2=>?_) (fun k2=>?_)
    · have k2':ps[n].fKind = kind:=by simpa using k2
      refine eC (j:=0) (i:=n) (k:=1) ps[n].fCore qD s1 rfl hq rfl (aO hlt) (c1 rfl rfl) ?_
      refine bk (fun k3=>?_) (fun k3=>?_)
      · have k3':ps[n].fCore = core:=by simpa using k3
        rw [if_pos ⟨k2',k3'⟩] at he
        exact fin 0 h (Int.le_refl _) (by omega) he s1
      · have k3':ps[n].fCore ≠ core:=by simpa using k3
        rw [if_neg (fun e=>k3' e.2)] at he
        exact fin (now + 1) h (by omega) (by omega) he s1
    · have k2':ps[n].fKind ≠ kind:=by simpa using k2
      rw [if_neg (fun e=>k2' e.1)] at he
      exact fin (now + 1) h (by omega) (by omega) he s1
  · have:n = ps.length:=by rw [hl] at k; simp at k; omega
    subst this
    rw [List.drop_length] at he
    exact bi he s1
theorem sp_ref2_Fair (s:Sl) (ps:List uH) (cores b:Int) (hb:ps.length < 2 ^ 39) (hc:cores < 2 ^ 62):Sp Tryz.prog mt [sv s,.int .i64 cores,.int .i64 b] aK [vK s ps] (fun r=>pa_ (r = Fair.fair ps cores b) [vK s ps]):=by
  intro h s0
  refine sim_messuageref2_Fair _ _ _ ?_
  unfold qx
  refine Lp.intro (fun (i:Int) h=>∃ n:Nat,i = n∧n ≤ cores.toNat∧(∀ c,c < n→Fair.okCore ps b c = true)∧aP [vK s ps] h) (fun (i:Int) _=>cores.toNat - i.toNat) ⟨0,rfl,Nat.zero_le _,fun c hc=>by omega,s0⟩ ?_
  rintro i h ⟨n,rfl,hn,ho,s1⟩
  unfold lw
  refine bk (fun k=>?_) (fun k=>?_)
  · have hlt:n < cores.toNat:=by have:=of_decide_eq_true k; omega
    have hw:IntKind.i64.wrap ((n:Int) + 1) = ((n + 1:Nat):Int):=by rw [cf (by omega) (by omega)]; rfl
    have no:Fair.okCore ps b n = false→Fair.fair ps cores b = false:=fun hf=>by
      unfold Fair.fair
      cases ha:(List.range cores.toNat).all (Fair.okCore ps b) with
      | false=>rfl
      | true=>rw [List.all_eq_true.1 ha n (List.mem_range.2 hlt)] at hf; cases hf
    refine bZ (qP s ps 2 n hb) (i:=0) rfl s1 fun r h2 hr s2=>?_
    subst hr
    refine bk (fun k2=>?_) (fun k2=>?_)
    · have k2':Fair.longest ps 2 n < b:=by simpa using k2
      refine bZ (qP s ps 3 n hb) (i:=0) rfl s2 fun r h3 hr s3=>?_
      subst hr
      refine bk (fun k3=>?_) (fun k3=>?_)
      · have k3':¬ Fair.longest ps 3 n < b:=by simp at k3; omega
        exact bi (no (by simp [Fair.okCore,k3'])).symm s3
      · have k3':Fair.longest ps 3 n < b:=by simp at k3; omega
        rw [hw]
        refine ⟨⟨n + 1,rfl,hlt,fun c hc=>?_,s3⟩,by simp; omega⟩
        by_cases e:c = n
        · subst e; simp [Fair.okCore,k2',k3']
        · exact ho c (by omega)
    · have k2':¬ Fair.longest ps 2 n < b:=by simp at k2; omega
      exact bi (no (by simp [Fair.okCore,k2'])).symm s2
  · have:n = cores.toNat:=by have:=of_decide_eq_false k; omega
    subst this
    refine bi ?_ s1
    unfold Fair.fair
    exact (List.all_eq_true.2 fun c hc=>ho c (List.mem_range.1 hc)).symm
theorem sp_PicksAll (s:Sl) (ps:List uH) (z:kQ) (kind core b:Int):Sp Tryz.prog mL [sv s,.agg z.C.toArray,.int .i64 kind,.int .i64 core,.int .i64 b] aK [etB ET EF,vK s ps] (fun r=>pa_ (r = true) [etB ET EF,vK s ps]):=by
  intro h st
  refine sx _ _ _ _ _ ?_
  unfold mc
  refine bZ (i:=0) sp_begun16 rfl st fun r h1 hr s1=>?_
  subst hr
  refine dJ rfl ?_
  refine bZ (i:=1) (sp_Cut s ps 100 (by decide) (by decide)) rfl s1 fun y h2 hback s2=>?_
  have e100:(100:Int).toNat = 100:=rfl
  rw [e100] at hback
  rw [e100] at s2
  have hlen:(ps.take 100).length ≤ 100:=by rw [List.length_take]; exact Nat.min_le_left _ _
  generalize ps.take 100 = qs at hback s2 hlen
  have s2:aP [etB ET EF,vK y qs] h2:=s2
  have hl:=(cq (j:=1) s2 rfl).1
  have fin:∀ {r:Bool} {h':Hp},r = true→aP [etB ET EF,vK y qs] h'→pa_ (r = true) [etB ET EF,vK s ps] h':=fun hr s'=>bi hr (star_imp (i:=1) rfl hback s')
  refine Lp.intro (fun (i:Int) h=>∃ n:Nat,i = n∧n ≤ qs.length∧aP [etB ET EF,vK y qs] h) (fun (i:Int) _=>qs.length - i.toNat) ⟨0,rfl,Nat.zero_le _,s2⟩ ?_
  rintro i h3 ⟨n,rfl,hn,s3⟩
  unfold iv
  refine bk (fun k=>?_) (fun k=>?_)
  · have hlt:n < qs.length:=by rw [hl] at k; simpa using k
    have hw:IntKind.i64.wrap ((n:Int) + 1) = ((n + 1:Nat):Int):=by rw [cf (by omega) (by omega)]; rfl
    refine dE s3 (j:=1) rfl (by omega) (by omega) fun q hq=>?_
    refine eC (j:=1) (i:=n) (k:=0) qs[n] qD s3 rfl hq rfl (aO hlt) (by simp) ?_
    refine eC (j:=1) (i:=n) (k:=0) qs[n] qD s3 rfl hq rfl (aO hlt) (by simp) ?_
    refine ti (sp_ref2_MayPick qs[n] z) s3 fun r h4 hr s4=>?_
    subst hr
    refine dJ (by simp) ?_
    rw [hw]
    exact ⟨⟨n + 1,rfl,hlt,s4⟩,by simp; omega⟩
  · refine bZ (i:=1) (qQ y qs kind core (by omega)) rfl s3 fun r h4 hr s4=>?_
    subst hr
    refine bZ (i:=1) (qP y qs kind core (by omega)) rfl s4 fun r h5 hr s5=>?_
    subst hr
    refine dW (by simp) ?_
    have b1:((IntKind.i64.wrap ((z.fCores.tmod 9) + 9)).tmod 9) < 2 ^ 62:=by
      have:=Int.tmod_lt_of_pos (IntKind.i64.wrap ((z.fCores.tmod 9) + 9)) (show (0:Int) < 9 by decide)
      omega
    refine bZ (i:=1) (sp_fair_Fair y qs _ b (by omega) b1) rfl s5 fun r h6 hr s6=>?_
    subst hr
    refine bZ (i:=1) (sp_ref2_Fair y qs _ b (by omega) b1) rfl s6 fun r h7 hr s7=>?_
    subst hr
    exact fin (by simp) s7
end Go.Proofs.YtniiiakkdoiaiaaGreatDoor
namespace Go.Proofs.YtniiiakkdoiaiaaGreatDoor
open Go Mb Go.ChangeShapes Go.WideShapes Go.RowKit
theorem Tryz.own:ownKnob Tryz.prog.godebug = none:=by kernel_rfl
theorem Tryz.et:Tryz.prog.globalNamed "errors.errorType" = some 0:=by kernel_rfl
theorem Tryz.rt:(Tryz.prog.cutTypes.find? (·.1 == "internal/reflectlite.rtype")).map (·.2) = some 245:=by kernel_rfl
abbrev laid:List (String × DataW Unit) := [("errors.errorType",Rows.laid_errors_errorType)]
theorem block_of_laid {W:World} (h:laidMetH Tryz.prog laid W):∃ T F,W.heap[0]? = some (.cells #[rtV gg] T F):=by
  have h':laidMet Tryz.prog [] W∧handlesMet Tryz.prog laid W:=h
  obtain ⟨name,u,ty,e1,e2,e3,e4,e5⟩:=h'.2 _ (List.mem_singleton.2 rfl)
  have en:name = [101,114,114,111,114]:=(Option.some.inj e1).symm
  subst en
  obtain rfl:=Option.some.inj (Tryz.rt.symm.trans e2)
  have hm:ty ∈ (List.range 325).filter fun t=>Tryz.prog.rowNamed t [101,114,114,111,114]:=List.mem_filter.2 ⟨List.mem_range.2 (by rw [← g4]; exact e3),e4⟩
  rw [oneErr] at hm
  obtain rfl:=List.mem_singleton.1 hm
  have hh:typeHandle Tryz.prog 171 = .pointer (some ⟨4,171,none⟩):=by kernel_rfl
  rw [hh] at e5
  unfold World.var? at e5
  rw [Tryz.et] at e5
  simp only [Option.bind_some] at e5
  split at e5
  · rename_i cs T F hq
    cases e5
    exact ⟨T,F,hq⟩
  · cases e5
noncomputable def laidWorld (os:Os):World :=
  let w0:=World.holding Tryz.prog os ⟨#[],#[],[]⟩
  { w0 with heap:=w0.heap.modify 0 fun
      | .cells _ t frozen=>.cells #[rtV gg] t frozen
      | o=>o }
theorem laidWorld_met (os:Os) (args:Array Value):laidMetH Tryz.prog laid ((laidWorld os).forCall (fun _ _=>0) ⟨#[],args,[]⟩).memory :=
  laidMetH_of_parts (laidMet_nil _ _) (by kernel_rfl)
theorem keptBut_same {w w':World} {may:MemPlace→Prop} (h1:w'.os = w.os) (h2:w'.output = w.output) (h:∀ i,i < w.heap.size→w'.heap[i]? = w.heap[i]?):w.keptBut w' may:=by
  refine ⟨h1,h2,fun i hi=>?_⟩
  have:=(World.keptBut_refl w may).2.2 i hi
  rw [h i hi]
  exact this
end Go.Proofs.YtniiiakkdoiaiaaGreatDoor
namespace Go.Proofs.YtniiiakkdoiaiaaGreatDoor
open Go Mb Go.ChangeShapes Go.WideShapes Go.RowKit
inductive FK where
  | i (k:IntKind)
  | b
def FK.ok:FK→Value→Prop
  | .i k,v=>∃ n,v = .int k n∧(Lit.int k n).wf = true
  | .b,v=>∃ x,v = .bool x
def rh:List FK→List Value→Prop
  | [],[]=>True
  | k::ks,v::vs=>k.ok v∧rh ks vs
  | _,_=>False
theorem rh.app:∀ {ks ls:List FK} {vs ws:List Value},rh ks vs→rh ls ws→rh (ks++ls) (vs++ws)
  | [],_,[],_,_,h=>h
  | _::_,_,_::_,_,h,g=>⟨h.1,h.2.app g⟩
  | [],_,_::_,_,h,_=>h.elim
  | _::_,_,[],_,h,_=>h.elim
theorem rh.len:∀ {ks:List FK} {vs:List Value},rh ks vs→vs.length = ks.length
  | [],[],_=>rfl
  | _::_,_::_,h=>by simp [h.2.len]
  | [],_::_,h=>h.elim
  | _::_,[],h=>h.elim
def fldK (P:Program) (r:TypeId→Option (List FK)):Nat→List Field→Option (List FK)
  | _,[]=>some []
  | o,f::fs=>if f.offset = o then (r f.type).bind fun ks=>if ks.length = P.cellsOf f.type then (fldK P r (o + ks.length) fs).map (ks++·) else none else none
def flatK (P:Program):Nat→TypeId→Option (List FK)
  | 0,_=>none
  | n + 1,t=>match P.underlying t with
    | some (.int k)=>some [.i k]
    | some .bool=>some [.b]
    | some (.struct fs)=>(fldK P (flatK P n) 0 fs.toList).bind fun ks=>if ks.length = P.cellsOf t then some ks else none
    | some (.array m e)=>(flatK P n e).bind fun ks=>if ks.length = P.cellsOf e∧m * ks.length = P.cellsOf t then some (List.replicate m ks).flatten else none
    | _=>none
section
variable {H:Type} {enc:TypeId × Value→H} {P:Program} {W:World} {base:Nat} {sp:Nat→Bool} {held:Bool}
theorem trod_array {t e m fuel:Nat} {cs:List Value} {x:DataW H × List MemPlace} (ht:P.underlying t = some (.array m e)) (h:DataW.trod enc P W base sp held fuel t cs = some x) :
    ∃ (xs:List (DataW H × List MemPlace)) (n:Nat),fuel = n + 1∧x = (.agg (xs.map (·.1)),xs.flatMap (·.2))∧cs.length = P.cellsOf t∧xs.length = m ∧
      ∀ i,i < m→DataW.trod enc P W base sp held n e ((cs.drop (i * P.cellsOf e)).take (P.cellsOf e)) = xs[i]?:=by
  cases fuel with
  | zero=>simp [DataW.trod] at h
  | succ n =>
    unfold DataW.trod at h
    rw [ht] at h
    split at h <;> simp_all
    obtain ⟨hl,xs,hp,hd⟩:=h
    refine ⟨xs,hd.symm,by simpa using mapM_some_length hp,fun i hi=>mapM_some_get hp i i (by simp [hi])⟩
theorem flatMap_nil {α β:Type} {f:α→List β} {xs:List α} (h:∀ x ∈ xs,f x = []):xs.flatMap f = []:=by
  rw [List.flatMap_eq_nil_iff]; exact h
theorem take_drop_take (cs:List Value) (o n:Nat):(cs.drop o).take n++cs.drop (o + n) = cs.drop o:=by
  rw [← List.drop_drop,List.take_append_drop]
theorem fld_fits {r:TypeId→Option (List FK)} {cs:List Value} {g:TypeId→List Value→Option (DataW H × List MemPlace)} (hr:∀ t ks cs x,r t = some ks→g t cs = some x→rh ks cs∧x.2 = []) :
    ∀ (fs:List Field) (o:Nat) (ks:List FK),fldK P r o fs = some ks→(∀ f ∈ fs,∃ x,g f.type ((cs.drop f.offset).take (P.cellsOf f.type)) = some x)→o + ks.length = cs.length→rh ks (cs.drop o)
  | [],o,ks,h,_,hl=>by
    simp only [fldK,Option.some.injEq] at h
    subst h
    have:cs.drop o = []:=List.drop_eq_nil_of_le (by simp at hl; omega)
    rw [this]; trivial
  | f::fs,o,ks,h,hx,hl=>by
    unfold fldK at h
    split at h
    · rename_i ho
      obtain ⟨ks1,h1,h2⟩:=Option.bind_eq_some_iff.1 h
      split at h2
      · rename_i hc
        obtain ⟨ks2,h3,rfl⟩:=Option.map_eq_some_iff.1 h2
        obtain ⟨x,hx1⟩:=hx f (by simp)
        have f1:=(hr _ _ _ _ h1 hx1).1
        have f2:=fld_fits hr fs (o + ks1.length) ks2 h3 (fun f' hf'=>hx f' (by simp [hf'])) (by simp at hl; omega)
        rw [ho,← hc] at f1
        have:=f1.app f2
        rwa [take_drop_take] at this
      · cases h2
    · cases h
theorem arr_fits {ks:List FK} {c:Nat} (hc:ks.length = c):∀ (m:Nat) (cs:List Value),cs.length = m * c→(∀ i,i < m→rh ks ((cs.drop (i * c)).take c))→rh (List.replicate m ks).flatten cs
  | 0,cs,hl,_=>by
    have:cs = []:=List.eq_nil_of_length_eq_zero (by simpa using hl)
    subst this; trivial
  | m + 1,cs,hl,h=>by
    rw [List.replicate_succ,List.flatten_cons]
    have h0:=h 0 (by omega)
    simp only [Nat.zero_mul,List.drop_zero] at h0
    have h1:=arr_fits hc m (cs.drop c) (by rw [List.length_drop,hl,Nat.succ_mul]; omega) (fun i hi=>by
      have:=h (i + 1) (by omega)
      rwa [List.drop_drop,Nat.add_comm,← Nat.succ_mul])
    have:=h0.app h1
    rwa [List.take_append_drop] at this
theorem trod_flat:∀ (n t:Nat) (ks:List FK),flatK P n t = some ks→∀ (fuel:Nat) (cs:List Value) (x:DataW H × List MemPlace),DataW.trod enc P W base sp held fuel t cs = some x→rh ks cs∧x.2 = []
  | 0,_,_,h,_,_,_,_=>by cases h
  | n + 1,t,ks,h,fuel,cs,x,hx=>by
    have ih:=trod_flat n
    unfold flatK at h
    split at h
    · rename_i k hu
      cases h
      obtain ⟨m,rfl,rfl,hw⟩:=DataW.trod_int hu hx
      exact ⟨⟨⟨m,rfl,hw⟩,trivial⟩,rfl⟩
    · rename_i hu
      cases h
      obtain ⟨b,rfl,rfl⟩:=DataW.trod_bool hu hx
      exact ⟨⟨⟨b,rfl⟩,trivial⟩,rfl⟩
    · rename_i fs hu
      obtain ⟨ks',h1,h2⟩:=Option.bind_eq_some_iff.1 h
      split at h2
      · rename_i hc
        cases h2
        obtain ⟨xs,f,rfl,rfl,hl,hxl,hi⟩:=DataW.trod_struct hu hx
        have hall:∀ fl ∈ fs.toList,∃ x,DataW.trod enc P W base sp held f fl.type ((cs.drop fl.offset).take (P.cellsOf fl.type)) = some x:=by
          intro fl hfl
          obtain ⟨i,hi1,hi2⟩:=List.getElem_of_mem hfl
          have:=hi i fl (by rw [← Array.getElem?_toList,List.getElem?_eq_getElem hi1,hi2])
          have hlt:i < xs.length:=by rw [hxl]; simpa using hi1
          rw [List.getElem?_eq_getElem hlt] at this
          exact ⟨_,this⟩
        refine ⟨?_,flatMap_nil fun y hy=>?_⟩
        · have:=fld_fits (P:=P) (cs:=cs) (fun t ks cs x h=>ih t ks h f cs x) fs.toList 0 ks h1 hall (by rw [hc,hl]; omega)
          simpa using this
        · obtain ⟨i,hi1,rfl⟩:=List.getElem_of_mem hy
          have hif:i < fs.size:=by rw [← hxl]; exact hi1
          have h3:=hi i fs[i] (by simp [hif])
          rw [List.getElem?_eq_getElem hi1] at h3
          have key:∀ (l:List Field) (o:Nat) (ks:List FK),fldK P (flatK P n) o l = some ks→∀ fl ∈ l,∃ ks,flatK P n fl.type = some ks:=by
            intro l
            induction l with
            | nil=>intro _ _ _ fl h; cases h
            | cons a l ihl =>
              intro o ks hk fl hfl
              unfold fldK at hk
              split at hk
              · obtain ⟨k1,hk1,hk2⟩:=Option.bind_eq_some_iff.1 hk
                rcases List.mem_cons.1 hfl with rfl | hfl
                · exact ⟨_,hk1⟩
                · split at hk2
                  · obtain ⟨k2,hk3,_⟩:=Option.map_eq_some_iff.1 hk2
                    exact ihl _ _ hk3 fl hfl
                  · cases hk2
              · cases hk
          obtain ⟨ks2,hks2⟩:=key _ _ _ h1 fs[i] (by simp)
          exact (ih _ _ hks2 _ _ _ h3).2
      · cases h2
    · rename_i m e hu
      obtain ⟨ks',h1,h2⟩:=Option.bind_eq_some_iff.1 h
      split at h2
      · rename_i hc
        cases h2
        obtain ⟨xs,f,rfl,rfl,hl,hxl,hi⟩:=trod_array hu hx
        have hat:∀ i,i < m→∃ x,xs[i]? = some x∧DataW.trod enc P W base sp held f e ((cs.drop (i * P.cellsOf e)).take (P.cellsOf e)) = some x:=fun i him=>by
          have:=hi i him
          rw [List.getElem?_eq_getElem (by omega)] at this
          exact ⟨_,List.getElem?_eq_getElem (by omega),this⟩
        refine ⟨arr_fits (by exact hc.1) m cs (by rw [hl,← hc.2,hc.1]) (fun i him=>?_),flatMap_nil fun y hy=>?_⟩
        · obtain ⟨x,_,hx2⟩:=hat i him
          exact (ih _ _ h1 _ _ _ hx2).1
        · obtain ⟨i,hi1,rfl⟩:=List.getElem_of_mem hy
          obtain ⟨x,hx1,hx2⟩:=hat i (by omega)
          rw [List.getElem?_eq_getElem hi1] at hx1
          cases hx1
          exact (ih _ _ h1 _ _ _ hx2).2
      · cases h2
    · cases h
end
structure Arg {τ:Type} (W:World) (m:Nat) (enc:τ→List Value) (s:Sl) (xs:List τ):Prop where
  len:s.len = xs.length
  cap:s.len ≤ s.cap
  row:s.cap = 0∨∃ b pre rest U fr,s.a = some (b,pre.length)∧s.cap * m ≤ s.len * m + rest.length∧s.g = some (pre,rest,U,fr)∧nf fr pre.length (s.cap * m)∧b ≠ 0∧W.heap[b]? = some (.cells (pre++(xs.flatMap enc++rest)).toArray U fr)
section
variable {H:Type} {enc:TypeId × Value→H} {P:Program} {W:World}
theorem has_spot {r:Reach} {b0:Nat} {t e:TypeId} {a:Addr} {len cap:Nat} (ht:P.underlying t = some (.slice e)) (h:Value.okWide P W r b0 t (.slice (some a) len cap)):a.spot = none∧∃ c T fr,W.heap[a.block]? = some (.cells c T fr):=by
  unfold Value.okWide at h
  rw [ht] at h
  unfold Cell.okWide at h
  rw [ht] at h
  simp only at h
  unfold Cell.ok at h
  rw [ht] at h
  simp only at h
  obtain ⟨_,_,_,hs,row,cells,h1,_⟩:=h
  refine ⟨hs,?_⟩
  unfold World.shape? at h1
  split at h1
  · rename_i c T fr hq
    exact ⟨_,_,_,hq⟩
  · cases h1
theorem open_arg {τ:Type} {b0 m:Nat} {t e:TypeId} {ks:List FK} {enc':τ→List Value} {v:Value} {d:DataW H} {ps:List MemPlace} {ET:Nat} {EF:Nat × Nat} {X:Value} (ht:P.underlying t = some (.slice e)) (hm:P.cellsOf e = m) (hk:flatK P 9 e = some ks) (hpos:0 < m)
    (dec:∀ cs,rh ks cs→∃ x:τ,enc' x = cs) (hval:Value.okWide P W .any b0 t v) (hd:DataW.Trod enc P W 0 (fun _=>true) true t v d ps) (hz:W.noneFrozen ps)
    (hw:W.heap[0]? = some (.cells #[X] ET EF)) (hX:∀ k,¬ FK.ok k X):∃ (s:Sl) (xs:List τ),v = sv s∧Arg W m enc' s xs:=by
  obtain ⟨a0,len0,rd,rfl⟩:=okWide_slice ht hval
  obtain ⟨fuel,hf⟩:=hd
  rcases Go.Deep.open_slice ht hf with ⟨h1,_⟩ | ⟨a,len,cap,mm,n,D,Pl,h1,_,hl,_,hmm,hx,hi⟩
  · simp only [Value.cells,List.cons.injEq,Value.slice.injEq,and_true] at h1
    obtain ⟨rfl,rfl,rfl⟩:=h1
    exact ⟨⟨none,0,0,none⟩,[],rfl,rfl,Nat.le_refl _,.inl rfl⟩
  · simp only [Value.cells,List.cons.injEq,Value.slice.injEq,and_true] at h1
    obtain ⟨rfl,rfl,rfl⟩:=h1
    simp only [if_true] at hmm
    subst hmm
    obtain ⟨hs,c,T,fr,hb⟩:=has_spot ht hval
    obtain ⟨b,off,spot⟩:=a
    simp only at hs hb
    subst hs
    by_cases hc0:mm = 0
    · subst hc0
      obtain rfl:len0 = 0:=by omega
      exact ⟨⟨some (b,off),0,0,none⟩,[],rfl,rfl,Nat.le_refl _,.inl rfl⟩
    rw [hm] at hi hx
    have kP:∀ i,i < mm→∃ x:τ,(enc' x).length = m∧rh ks (enc' x)∧∀ j,j < m→c.toList[off + i * m + j]? = (enc' x)[j]?:=by
      intro i him
      obtain ⟨cs',h2,h3⟩:=hi i him
      obtain ⟨_,hlen,hget⟩:=World.cells?_some h2
      have hfit:=(trod_flat 9 e ks hk _ _ _ h3).1
      obtain ⟨x,rfl⟩:=dec cs' hfit
      refine ⟨x,hlen,hfit,fun j hj=>?_⟩
      have:=hget j hj
      rw [WideShapes.add_plain,WideShapes.add_plain] at this
      rw [← this]
      unfold World.cell?
      rw [hb]
      simp
    have hsize:off + mm * m ≤ c.toList.length:=by
      obtain ⟨x,hxl,_,hj⟩:=kP (mm - 1) (by omega)
      have h4:=hj (m - 1) (by omega)
      have h5:=(List.getElem?_eq_some_iff.1 (h4.trans (List.getElem?_eq_getElem (by omega)))).1
      have:mm * m = (mm - 1) * m + m:=by rw [← Nat.succ_mul]; congr 1; omega
      omega
    have hflat:∀ k,k ≤ mm→∃ ys:List τ,ys.length = k∧(c.toList.drop off).take (k * m) = ys.flatMap enc':=by
      intro k
      induction k with
      | zero=>exact fun _=>⟨[],rfl,by simp⟩
      | succ k ih =>
        intro hk1
        obtain ⟨ys,hy1,hy2⟩:=ih (by omega)
        obtain ⟨x,hxl,_,hj⟩:=kP k (by omega)
        refine ⟨ys++[x],by simp [hy1],?_⟩
        rw [Nat.succ_mul,List.take_add,hy2,List.flatMap_append]
        congr 1
        simp only [List.flatMap_cons,List.flatMap_nil,List.append_nil]
        apply List.ext_getElem?
        intro j
        rw [List.drop_drop,List.getElem?_take,List.getElem?_drop]
        by_cases hjm:j < m
        · rw [if_pos hjm,← hj j hjm]
        · rw [if_neg hjm,List.getElem?_eq_none (by omega)]
    obtain ⟨xs,hx1,hx2⟩:=hflat len0 hl
    have hlm:len0 * m ≤ mm * m:=Nat.mul_le_mul_right m hl
    refine ⟨⟨some (b,off),len0,mm,some (c.toList.take off,c.toList.drop (off + len0 * m),T,fr)⟩,xs,rfl,hx1.symm,hl,.inr ⟨b,c.toList.take off,c.toList.drop (off + len0 * m),T,fr,?_,?_,rfl,?_,?_,?_⟩⟩
    · rw [List.length_take,Nat.min_eq_left (by omega)]
    · show mm * m ≤ len0 * m + _
      rw [List.length_drop]; omega
    · rw [List.length_take,Nat.min_eq_left (by omega)]
      intro j j1 j2
      have j2':j < off + mm * m:=j2
      have hp:MemPlace.cell b j ∈ ps:=by
        have hps:=congrArg Prod.snd hx
        simp only at hps
        rw [hps]
        refine List.mem_append_left _ (List.mem_map.2 ⟨j - off,List.mem_range.2 (by omega),?_⟩)
        show MemPlace.cell b (off + (j - off)) = _
        congr 1; omega
      have:=hz b j hp
      unfold World.frozen? at this
      simp only [hb] at this
      exact this
    · rintro rfl
      rw [hw] at hb
      cases hb
      obtain ⟨x,hxl,hfit,hj⟩:=kP 0 (by omega)
      have h4:=hj 0 hpos
      simp only [Nat.zero_mul,Nat.add_zero] at h4
      cases hks:ks with
      | nil=>subst hks; have:=hfit.len; simp at this; simp [this] at hxl; omega
      | cons k ks' =>
        subst hks
        cases hex:enc' x with
        | nil=>rw [hex] at hxl; simp at hxl; omega
        | cons y ys =>
          rw [hex] at hfit h4
          simp only [List.getElem?_cons_zero] at h4
          have h5:y = X:=by
            cases off with
            | zero=>simpa using h4.symm
            | succ o=>simp at h4
          exact hX k (h5 ▸ hfit.1)
    · rw [hb]
      congr 2
      apply Array.ext'
      show c.toList = c.toList.take off++(xs.flatMap enc'++c.toList.drop (off + len0 * m))
      rw [← hx2,← List.drop_drop,List.take_append_drop,List.take_append_drop]
theorem open_struct {b0:Nat} {t:TypeId} {fs:Array Field} {ks:List FK} {v:Value} {d:DataW H} {ps:List MemPlace} (ht:P.underlying t = some (.struct fs)) (hk:flatK P 9 t = some ks) (hval:Value.okWide P W .any b0 t v) (hd:DataW.Trod enc P W 0 (fun _=>true) true t v d ps):∃ cs:List Value,v = .agg cs.toArray∧rh ks cs:=by
  obtain ⟨cs,rfl,_⟩:=okWide_struct ht hval
  obtain ⟨fuel,hf⟩:=hd
  exact ⟨cs.toList,by simp,(trod_flat 9 t ks hk _ _ _ hf).1⟩
theorem trodAll_stays (hl:laidOutB P = true) {W':World} {sp':Nat→Bool}:∀ {ts:List TypeId} {vs:List Value} {ds:List (DataW H)} {ps:List MemPlace},(∀ t ∈ ts,P.readableRec t = true∧t < P.types.size) →
    DataW.TrodAll enc P W 0 (fun _=>true) true ts vs ds ps→(∀ p ∈ ps,W.sameAt W' p)→(∀ p ∈ ps,sp' p.block = true)→DataW.TrodAll enc P W' 0 sp' true ts vs ds ps
  | [],_,_,_,_,h,_,_=>by
    obtain ⟨rfl,rfl,rfl⟩:=trodAll_nil h
    rfl
  | t::ts,_,_,_,hr,h,hs,hp=>by
    obtain ⟨v,vs,d,ds,a,b,rfl,rfl,rfl,h1,h2⟩:=trodAll_cons h
    exact ⟨a,b,Go.WideElems.Trod_stays hl (hr t (by simp)).1 (hr t (by simp)).2 h1 (fun p q=>hs p (by simp [q])) (fun p q=>hp p (by simp [q])),trodAll_stays hl (fun t q=>hr t (by simp [q])) h2 (fun p q=>hs p (by simp [q])) (fun p q=>hp p (by simp [q])),rfl⟩
end
end Go.Proofs.YtniiiakkdoiaiaaGreatDoor
namespace Go.Proofs.YtniiiakkdoiaiaaGreatDoor
open Go Mb Go.ChangeShapes Go.WideShapes Go.RowKit
theorem no_iface (k:FK):¬ FK.ok k (rtV gg):=by
  cases k with
  | i k=>rintro ⟨n,h,_⟩; cases h
  | b=>rintro ⟨x,h⟩; cases h
theorem fit_cons {k:FK} {ks:List FK} {cs:List Value} (h:rh (k::ks) cs):∃ v vs,cs = v::vs∧k.ok v∧rh ks vs:=by
  cases cs with
  | nil=>exact h.elim
  | cons v vs=>exact ⟨v,vs,rfl,h.1,h.2⟩
theorem vy {k:IntKind} {ks:List FK} {cs:List Value} (h:rh (.i k::ks) cs):∃ (n:Int) (vs:List Value),cs = .int k n::vs∧(Lit.int k n).wf = true∧rh ks vs:=by
  obtain ⟨v,vs,rfl,⟨n,rfl,hw⟩,hf⟩:=fit_cons h
  exact ⟨n,vs,rfl,hw,hf⟩
theorem fit_nil {cs:List Value} (h:rh [] cs):cs = []:=by
  cases cs with
  | nil=>rfl
  | cons v vs=>exact h.elim
theorem Arg.sub {τ:Type} {P:τ→Prop} {W:World} {m:Nat} {C:τ→List Value} {s:Sl} {xs:List {x:τ // P x}} (A:Arg W m (fun x=>C x.1) s xs):Arg W m C s (xs.map (·.1))∧∀ x ∈ xs.map (·.1),P x:=by
  refine ⟨⟨by simpa using A.len,A.cap,?_⟩,fun x hx=>?_⟩
  · have e:(xs.map (·.1)).flatMap C = xs.flatMap (fun x=>C x.1):=by rw [List.flatMap_map]
    rw [e]; exact A.row
  · obtain ⟨y,_,rfl⟩:=List.mem_map.1 hx
    exact y.2
structure Same (W W':World):Prop where
  os:W'.os = W.os
  out:W'.output = W.output
  heap:∀ i,i < W.heap.size→W'.heap[i]? = W.heap[i]?
theorem Same.cell {W W':World} (s:Same W W') {p:MemPlace} (h:p.block < W.heap.size):W.sameAt W' p:=by
  cases p with
  | cell b off =>
    show W'.cell? _ = W.cell? _
    unfold World.cell?
    rw [s.heap b h]
  | map b=>exact s.heap b h
theorem run_spV {τ:Type} {T m:Nat} {enc:τ→List Value} {s:Sl} {xs:List τ} {f:FuncId} {vs:List Value} {ET:Nat} {EF:Nat × Nat} {W:World} (A:Arg W m enc s xs)
    (c:Sp Tryz.prog f vs aK [etB ET EF,vec T m enc s xs] (fun r=>pa_ (r = true) [etB ET EF,vec T m enc s xs])) (hw:W.heap[0]? = some (.cells #[rtV gg] ET EF)) :
    Calls Tryz.prog f vs.toArray W fun e W'=>e = .returned (.bool true)∧Same W W':=by
  have key:∀ (g:Hp),g 0 = none→(∀ b o,g b = some o→W.heap[b]? = some o)→vec T m enc s xs g→(∀ g',vec T m enc s xs g'→∀ b o,g b = some o→g' b = some o) →
      Calls Tryz.prog f vs.toArray W fun e W'=>e = .returned (.bool true)∧Same W W':=by
    intro g g0 gW gv gk
    have hs:Sub (un (eO emp 0 (.cells #[rtV gg] ET EF)) g) W:=by
      intro b o ho
      by_cases hb:b = 0
      · subst hb; rw [un_left (jz _ _ _)] at ho; rw [hw]; exact ho
      · rw [un_right (pR _ _ _ hb)] at ho; exact gW b o ho
    have hd:Dj (eO emp 0 (.cells #[rtV gg] ET EF)) g:=fun b=>by
      by_cases hb:b = 0
      · subst hb; exact .inr g0
      · exact .inl (pR _ _ _ hb)
    have hst:aP [etB ET EF,vec T m enc s xs] (un (eO emp 0 (.cells #[rtV gg] ET EF)) g):=⟨_,_,hd,rfl,jz _ _ _,vY gv⟩
    refine (c _ hst W hs).mono ?_
    rintro e W' ⟨v,h',rfl,⟨r,rfl,q⟩,s',fr⟩
    obtain ⟨rfl,q⟩:=q
    obtain ⟨g1,a1,sub1⟩:=dX (i:=0) (A:=etB ET EF) rfl q
    obtain ⟨g2,a2,sub2⟩:=dX (i:=1) (A:=vec T m enc s xs) rfl q
    refine ⟨rfl,fr.os,fr.out,fun i hi=>?_⟩
    rcases Nat.eq_zero_or_pos i with rfl | hp
    · rw [s' _ _ (sub1 _ _ a1),hw]
    · cases hg:g i with
      | none=>exact fr.same i hi (tw.2 ⟨pR _ _ _ (by omega),hg⟩)
      | some o=>rw [s' _ _ (sub2 _ _ (gk g2 a2 i o hg)),gW i o hg]
  rcases A.row with h0 | ⟨b,pre,rest,U,fr,h1,h2,h3,h4,h5,h6⟩
  · exact key emp rfl (fun b o h=>by cases h) ⟨A.len,A.cap,.inl h0⟩ (fun _ _ b o h=>by cases h)
  · by_cases h0:s.cap = 0
    · exact key emp rfl (fun b o h=>by cases h) ⟨A.len,A.cap,.inl h0⟩ (fun _ _ b o h=>by cases h)
    · refine key (eO emp b (.cells (pre++(xs.flatMap enc++rest)).toArray U fr)) (pR _ _ _ (Ne.symm h5)) ?_ ⟨A.len,A.cap,.inr ⟨b,pre,rest,U,fr,h1,h2,?_,jz _ _ _⟩⟩ ?_
      · intro b' o ho
        unfold eO at ho
        split at ho
        · rename_i hb; subst hb; rw [h6]; exact ho
        · cases ho
      · unfold gh; rw [h3]; exact ⟨rfl,h4⟩
      · rintro g' ⟨_,_,r⟩ b' o ho
        rcases r with r | ⟨c',pre',rest',U',fr',r1,_,r3,r4⟩
        · exact absurd r h0
        · rw [h1] at r1
          unfold gh at r3
          rw [h3] at r3
          obtain ⟨r5,_⟩:=r3
          simp only [Prod.mk.injEq] at r5
          obtain ⟨rfl,rfl,rfl,rfl⟩:=r5
          simp only [Option.some.injEq,Prod.mk.injEq] at r1
          obtain ⟨rfl,_⟩:=r1
          unfold eO at ho
          split at ho
          · rename_i hb; subst hb; cases ho; exact r4
          · cases ho
theorem same_post {H:Type} {enc:TypeId × Value→H} {W W':World} {ts:List TypeId} {vs:List Value} {ds:List (DataW H)} {ps:List MemPlace} {sp:Nat→Bool} (hl:laidOutB Tryz.prog = true) (hr:(ts.all fun t=>Tryz.prog.readableRec t && decide (t < Tryz.prog.types.size)) = true)
    (h:DataW.TrodAll enc Tryz.prog W 0 (fun _=>true) true ts vs ds ps) (hlt:∀ p ∈ ps,p.block < W.heap.size) (s:Same W W') (hs:∀ p ∈ ps,sp p.block = true):DataW.TrodAll enc Tryz.prog W' 0 sp true ts vs ds ps :=
  trodAll_stays hl (fun t ht=>by
    have:=List.all_eq_true.1 hr t ht
    simp only [Bool.and_eq_true,decide_eq_true_eq] at this
    exact this) h (fun p hp=>s.cell (hlt p hp)) hs
theorem want_all {ts:List TypeId} (h:(ts.all fun t=>!(Tryz.prog.wantsStandIn t)) = true) {j:Nat} {t:TypeId} (ht:ts.toArray[j]? = some t):Tryz.prog.wantsStandIn t = false:=by
  have:=List.all_eq_true.1 h t (List.mem_of_getElem? (by simpa using ht))
  simpa using this
end Go.Proofs.YtniiiakkdoiaiaaGreatDoor
namespace Go.Proofs.YtniiiakkdoiaiaaGreatDoor
open Go Mb Go.ChangeShapes Go.WideShapes Go.RowKit
theorem decPicksAll29 (cs:List Value) (h:rh [.i .i64,.i .i64,.i .i64,.i .u64,.i .u64,.i .u64,.i .u64,.i .u64,.i .i64,.i .i64] cs):∃ x:{x:bH // rh [.i .i64,.i .i64,.i .i64,.i .u64,.i .u64,.i .u64,.i .u64,.i .u64,.i .i64,.i .i64] (bH.C x)},bH.C x.1 = cs:=by
  have h0:=h
  obtain ⟨a0,r0,rfl,_,h⟩:=vy h
  obtain ⟨a1,r1,rfl,_,h⟩:=vy h
  obtain ⟨a2,r2,rfl,_,h⟩:=vy h
  obtain ⟨a3,r3,rfl,_,h⟩:=vy h
  obtain ⟨a4,r4,rfl,_,h⟩:=vy h
  obtain ⟨a5,r5,rfl,_,h⟩:=vy h
  obtain ⟨a6,r6,rfl,_,h⟩:=vy h
  obtain ⟨a7,r7,rfl,_,h⟩:=vy h
  obtain ⟨a8,r8,rfl,_,h⟩:=vy h
  obtain ⟨a9,r9,rfl,_,h⟩:=vy h
  obtain rfl:=fit_nil h
  exact ⟨⟨⟨a0,a1,a2,⟨a3,a4,a5,a6,a7⟩,a8,a9⟩,h0⟩,rfl⟩
theorem decPicksAll35 (cs:List Value) (h:rh [.i .i64,.i .i64,.i .i64] cs):∃ x:{x:aH // rh [.i .i64,.i .i64,.i .i64] (aH.C x)},aH.C x.1 = cs:=by
  have h0:=h
  obtain ⟨a0,r0,rfl,_,h⟩:=vy h
  obtain ⟨a1,r1,rfl,_,h⟩:=vy h
  obtain ⟨a2,r2,rfl,_,h⟩:=vy h
  obtain rfl:=fit_nil h
  exact ⟨⟨⟨a0,a1,a2⟩,h0⟩,rfl⟩
set_option maxRecDepth 100000 in
theorem lifted_5 (os:Os) (started:os.Started) (H:Type) (enc:TypeId × Value→H) :
    ReturnsInHanded {} Tryz.checked os 5 .any (fun w args=>(Rows.picksAllSpec.pre enc Tryz.prog Tryz.f5 [] false w args∧laidMetH Tryz.prog laid w)∧sizedMet enc Tryz.prog Tryz.f5 (OpenSpec.ofChange Rows.picksAllSpec) false w args)
      (Rows.picksAllSpec.post enc Tryz.prog Tryz.f5 false true false false):=by
  refine returnsInHanded_of_change_and (C:=Tryz.checked) (X:=fun w _=>laidMetH Tryz.prog laid w) (fun _ _ _ hh h=>h.of_heap hh) Tryz.own started (by kernel_rfl) Tryz.func5
    (ChangeSpec.witness_at (enc:=enc) (C:=Tryz.checked) (os:=os) (X:=fun w _=>laidMetH Tryz.prog laid w) false (laidWorld os) #[.slice none 0 0,.agg #[.int .i64 0,.int .i64 0,.int .i64 0],.int .i64 0,.int .i64 0,.int .i64 0] 8 rfl (by kernel_rfl) (by kernel_rfl) (by kernel_rfl) (by kernel_rfl) (by kernel_rfl) (laidWorld_met os _)) ?_
  intro W base args ds gs before hval0 hW _ _ hL _
  have hval:∀ (j:Nat) t v,Tryz.f5.params[j]? = some t→args[j]? = some v→Value.okWide Tryz.prog W .any base t v:=hval0
  have hW':=hW
  obtain ⟨p,q,hA0,hV0,rfl,hfz,hnd⟩:=hW
  have hA:DataW.TrodAll enc Tryz.prog W 0 (fun _=>true) true Tryz.f5.params.toList args.toList ds p:=hA0
  have hV:DataW.TrodVars enc Tryz.prog W (fun _=>true) [] gs q:=hV0
  rw [Tryz.params5] at hA hval
  have hst:=hA
  obtain ⟨T,F,hb⟩:=block_of_laid hL
  obtain ⟨rfl,rfl⟩:gs = []∧q = []:=by
    cases gs with
    | nil=>exact ⟨rfl,hV⟩
    | cons g r=>exact absurd hV (by intro h; cases h)
  obtain ⟨v0,w0,d0,e0,p0,q0,hx0,rfl,rfl,h0,hA0⟩:=trodAll_cons hA
  obtain ⟨v1,w1,d1,e1,p1,q1,hx1,rfl,rfl,h1,hA1⟩:=trodAll_cons hA0
  obtain ⟨v2,w2,d2,e2,p2,q2,hx2,rfl,rfl,h2,hA2⟩:=trodAll_cons hA1
  obtain ⟨v3,w3,d3,e3,p3,q3,hx3,rfl,rfl,h3,hA3⟩:=trodAll_cons hA2
  obtain ⟨v4,w4,d4,e4,p4,q4,hx4,rfl,rfl,h4,hA4⟩:=trodAll_cons hA3
  obtain ⟨hy,rfl,rfl⟩:=trodAll_nil hA4
  subst hy
  subst hx4
  subst hx3
  subst hx2
  subst hx1
  obtain rfl:args = #[v0,v1,v2,v3,v4]:=by apply Array.ext'; exact hx0
  obtain ⟨s0,ys0,rfl,A0⟩:=open_arg (m:=10) (ks:=[.i .i64,.i .i64,.i .i64,.i .u64,.i .u64,.i .u64,.i .u64,.i .u64,.i .i64,.i .i64]) (enc':=fun x:{x:bH // rh [.i .i64,.i .i64,.i .i64,.i .u64,.i .u64,.i .u64,.i .u64,.i .u64,.i .i64,.i .i64] (bH.C x)}=>bH.C x.1) Tryz.underlying23 (by kernel_rfl) (by kernel_rfl) (by decide) decPicksAll29 (hval 0 23 v0 rfl rfl) h0 (fun b o hb=>hfz b o (by simp [hb])) hb no_iface
  obtain ⟨A0,hf0⟩:=A0.sub
  generalize ys0.map (·.1) = xs0 at A0 hf0
  obtain ⟨c1,rfl,hc1⟩:=open_struct (ks:=[.i .i64,.i .i64,.i .i64]) Tryz.underlying35 (by kernel_rfl) (hval 1 35 v1 rfl rfl) h1
  obtain ⟨⟨z1,hf1⟩,rfl⟩:=decPicksAll35 _ hc1
  obtain ⟨n2,rfl,rfl,rfl,hw2⟩:=open_int Tryz.underlying3 (hval 2 3 v2 rfl rfl) h2
  obtain ⟨n3,rfl,rfl,rfl,hw3⟩:=open_int Tryz.underlying3 (hval 3 3 v3 rfl rfl) h3
  obtain ⟨n4,rfl,rfl,rfl,hw4⟩:=open_int Tryz.underlying3 (hval 4 3 v4 rfl rfl) h4
  refine (run_spV A0 (ET:=T) (EF:=F) (sp_PicksAll s0 xs0 z1 n2 n3 n4) hb).mono fun e W' ⟨he,hk⟩=>?_
  subst he
  refine ⟨_,rfl,_,_,_,[],(p0++(p1++(([]:List MemPlace)++(([]:List MemPlace)++(([]:List MemPlace)++[]))))),[],hW',?_,?_,?_,keptBut_same hk.os hk.out hk.heap,fun h=>by cases h⟩
  · exact trodAll_mk1 (shut_bool Tryz.underlying4 true)
  · exact same_post (by kernel_rfl) (by kernel_rfl) hst (fun p hp=>hW'.lt p (List.mem_append_left _ hp)) hk (fun p hp=>by simpa using hW'.lt p (List.mem_append_left _ hp))
  · rfl
theorem said_5:Rows.PicksAllSaid :=
  OpenClaim.holds_of_wide 5 Tryz.f5 rfl rfl rfl rfl rfl rfl rfl ⟨rfl,rfl,rfl,rfl,rfl⟩ rfl rfl rfl rfl rfl (by kernel_rfl) Tryz.func5 (by kernel_rfl)
    (of_decide_eq_true (by kernel_rfl)) (by unfold Func.isWrapper; rw [if_neg (of_decide_eq_false (by kernel_rfl))]; exact ⟨rfl,rfl⟩)
    (fun os started H enc _=>lifted_5 os started H enc)
theorem picksAll_holds:Rows.PicksAllCardSaid :=
  Claim7.holds_tied_plain_at .later [] [.handle] true (true, "1c83f4dfbcbfaed934cec40c9d2b35637a96dbc4ce1f31d396f73b9811e9fefe") true
    said_5 (fun _ h=>by cases h) (by kernel_rfl) (fun _ h=>by cases h) picksAll_row_tie rfl ⟨rfl,rfl⟩ (by kernel_rfl) rfl
    (fun f fn hf hfn=>by
      obtain rfl:f = 5:=Option.some.inj ((show Tryz.prog.funcNamed "messuage/messuagelaw16.PicksAll" = some 5 by kernel_rfl).symm.trans hf) |>.symm
      obtain rfl:fn = Tryz.f5:=(Option.some.inj (Tryz.func5.symm.trans hfn)).symm
      exact ⟨by kernel_rfl,fun j t ht=>by
        rw [Tryz.params5] at ht
        exact want_all (by kernel_rfl) (j:=j) (t:=t) ht⟩)
    (by kernel_rfl)
end Go.Proofs.YtniiiakkdoiaiaaGreatDoor
