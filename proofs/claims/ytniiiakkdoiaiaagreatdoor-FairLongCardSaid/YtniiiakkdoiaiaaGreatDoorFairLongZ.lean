/- For every number of cores, every gap and every core, messuagelaw16.FairLong returns true and leaves its arguments as they were; errors.errorType holds the handle of the type error when the call begins. -/
import Derived.Test.YtniiiakkdoiaiaaGreatDoorFairLong16
import Derived.Test.YtniiiakkdoiaiaaGreatDoorCards
import Derived.Test.YtniiiakkdoiaiaaGreatDoorRows
import Derived.Test.YtniiiakkdoiaiaaGreatDoorTie
set_option linter.all false
namespace Go.Proofs.YtniiiakkdoiaiaaGreatDoor
open Go Mb
set_option linter.unusedVariables false
def sL (a0:Int) (Rec17:(Sl × Int)→Hp→Prop) (s16:Sl × Int) (x32:Int) (Rec26:(Sl × Int)→Hp→Prop) (s25:Sl × Int):Hp→Prop:=br (decide (s25.2 < a0)) ( hpv Tryz.prog (Instr.buildSlice eP 1 #[(0,(.agg (cK.C (⟨x32,s25.2,0,(⟨0,0,0,0,0⟩:ao),0,0⟩:cK)).toArray))]) gc fun (v41:Sl)=>hpv Tryz.prog (Builtin.append_ #[eP,eP] eP #[(sv s25.1),(sv v41)]) gc fun (v42:Sl)=>Rec26 (v42,(IntKind.i64.wrap (s25.2 + 1)))) ( Rec17 (s25.1,(IntKind.i64.wrap (s16.2 + 1))))
def sM (a0:Int) (Rec11:(Sl × Int)→Hp→Prop) (s10:Sl × Int) (v27:Sl) (Rec17:(Sl × Int)→Hp→Prop) (s16:Sl × Int):Hp→Prop:=br (decide (s16.2 < (v27.len:Int))) ( ix v27 s16.2 fun q31=>ld (q31.1,q31.2 + Int.toNat s16.2 * 1) (cI .i64) fun x32=>Lp (sL a0 Rec17 s16 x32) (s16.1,0)) ( Rec11 (s16.1,(IntKind.i64.wrap (s10.2 + 1))))
def sN (a0:Int) (a1:Int) (K:Sl→Hp→Prop) (Rec11:(Sl × Int)→Hp→Prop) (s10:Sl × Int):Hp→Prop:=br (decide (s10.2 < a1)) ( hpv Tryz.prog (Instr.buildSlice dK 2 #[(0,(.int .i64 3)),(1,(.int .i64 2))]) cD fun (v27:Sl)=>Lp (sM a0 Rec11 s10 v27) (s10.1,0)) ( K s10.1)
def sh_fair_Rounds (a0:Int) (a1:Int) (K:Sl→Hp→Prop):Hp→Prop:=br ((((decide (a0 < 1)) || (decide (a0 > 8))) || (decide (a1 < 0))) || (decide (a1 > 500))) ( K (⟨none,0,0⟩:Sl)) ( hpv Tryz.prog (Instr.buildSlice eP 0 #[]) gc fun (v23:Sl)=>Lp (sN a0 a1 K) (v23,0))
set_option maxRecDepth 20000 in
theorem sim_fair_Rounds (a0:Int) (a1:Int) {K:Sl→Hp→Prop} {h:Hp} (H:sh_fair_Rounds a0 a1 K h):Ct Tryz.prog mw #[(.int .i64 a0),(.int .i64 a1)] h fun v h'=>∃ r,v = gc r∧K r h':=aB [(.int .i64 a0),(.int .i64 a1)] Tryz.func11 rfl rfl rfl fun _=>ag<|ab<|aa (ae rfl) rfl<|ad<|ag<|ag<|ab<|aa (ac rfl) rfl<|aa (cG rfl rfl) rfl<|aa (ac rfl) rfl<|aj rfl rfl rfl (aV _) (fun g1=>wv (ac rfl)) rfl<|aj rfl rfl rfl (aV _) (fun g2=>wv (pW (aI rfl g2) rfl)) rfl<|aa (dA rfl rfl) rfl<|aa (ac rfl) rfl<|aj rfl rfl rfl (aV _) (fun g3=>wv (ac rfl)) rfl<|aj rfl rfl rfl (aV _) (fun g4=>wv (cG (aI rfl g4) rfl)) rfl<|aa (dA rfl rfl) rfl<|aa (ac rfl) rfl<|aj rfl rfl rfl (aV _) (fun g5=>wv (ac rfl)) rfl<|aj rfl rfl rfl (aV _) (fun g6=>wv (pW (aI rfl g6) rfl)) rfl<|aa (dA rfl rfl) rfl<|ad<|aC rfl H (fun k7 H8=>ag<|ab<|aa (ae rfl) rfl<|ad<|an<|av (ay rfl (aD rfl)) ⟨(⟨none,0,0⟩:Sl),rfl,H8⟩) (fun k7 H8=>au<|ag<|ab<|ai (bc H8 (bD (vs:=[]) rfl) rfl fun v23 _ H9=>aa (ae rfl) rfl<|ad<|ag<|ag<|ab<|aa (ac rfl) rfl<|aa (ac rfl) rfl<|ad<|aE<|bO (step:=sN a0 a1 K) (fun s10=>[(0,(.int .i64 a0)),(5,(sv s10.1)),(24,(.int .i64 a1)),(25,(.int .i64 s10.2))]) (fun s10=>[]) H9 (.cons rfl (.cons rfl (.cons rfl (.cons rfl (.nil _))))) .slnil (fun Rec11 s10 _ H12=>ag<|ab<|aa (cG rfl rfl) rfl<|ad<|ag<|aC rfl H12 (fun k13 H14=>au<|ag<|aE<|ag<|ab<|ai (bc H14 (bD (vs:=[(.int .i64 3),(.int .i64 2)]) rfl) rfl fun v27 _ H15=>aa (dB rfl Tryz.underlying41 rfl) rfl<|aa (ac rfl) rfl<|ad<|aE<|bO (step:=sM a0 Rec11 s10 v27) (fun s16=>[(0,(.int .i64 a0)),(5,(sv s16.1)),(24,(.int .i64 a1)),(25,(.int .i64 s10.2)),(27,(sv v27)),(28,(.int .i64 (v27.len:Int))),(29,(.int .i64 s16.2))]) (fun s16=>[]) H15 (.cons rfl (.cons rfl (.cons rfl (.cons rfl (.cons rfl (.cons rfl (.cons rfl (.nil _)))))))) .slnil (fun Rec17 s16 _ H18=>ag<|ab<|aa (cG rfl rfl) rfl<|ad<|ag<|aC rfl H18 (fun k19 H20=>au<|ag<|aE<|ag<|ab<|ct H20 fun q31 e21 h22 H23=>aa (bG io (aU rfl (bm e21)) rfl h22) rfl<|ai (bf H23 bj rfl (fun _=>rfl) rfl fun x32 H24=>aa (ae rfl) rfl<|ad<|ag<|ab<|aa (ac rfl) rfl<|aa (ac rfl) rfl<|ad<|aE<|bO (step:=sL a0 Rec17 s16 x32) (fun s25=>[(0,(.int .i64 a0)),(5,(sv s25.1)),(7,(.int .i64 x32)),(24,(.int .i64 a1)),(25,(.int .i64 s10.2)),(27,(sv v27)),(28,(.int .i64 (v27.len:Int))),(29,(.int .i64 s16.2)),(33,(.int .i64 a0)),(34,(.int .i64 s25.2))]) (fun s25=>[]) H24 (.cons rfl (.cons rfl (.cons rfl (.cons rfl (.cons rfl (.cons rfl (.cons rfl (.cons rfl (.cons rfl (.cons rfl (.nil _))))))))))) .slnil (fun Rec26 s25 _ H27=>ag<|ab<|aa (cG rfl rfl) rfl<|ad<|ag<|aC rfl H27 (fun k28 H29=>au<|ag<|aE<|ag<|ab<|aa (ac rfl) rfl<|aa (ae rfl) rfl<|ad<|ab<|aa (ac rfl) rfl<|aa (ac rfl) rfl<|aa (ac rfl) rfl<|aa (bk rfl (build_29_0_1 x32 s25.2)) rfl<|ai (bc H29 (bD (vs:=[(.agg (cK.C (⟨x32,s25.2,0,(⟨0,0,0,0,0⟩:ao),0,0⟩:cK)).toArray)]) rfl) rfl fun v41 _ H30=>ai (bc H30 (dw rfl rfl) rfl fun v42 _ H31=>aa (ae rfl) rfl<|ad<|ab<|aa (bE rfl rfl) rfl<|aa (ac rfl) rfl<|ad<|cT (v42,(IntKind.i64.wrap (s25.2 + 1))) H31 (.cons rfl (.cons rfl (.cons rfl (.cons rfl (.cons rfl (.cons rfl (.cons rfl (.cons rfl (.cons rfl (.cons rfl (.nil _))))))))))) .slnil))) (fun k28 H29=>bz<|ab<|aa (bE rfl rfl) rfl<|aa (ac rfl) rfl<|ad<|cT (s25.1,(IntKind.i64.wrap (s16.2 + 1))) H29 (.cons rfl (.cons rfl (.cons rfl (.cons rfl (.cons rfl (.cons rfl (.cons rfl (.nil _)))))))) .slnil)))) (fun k19 H20=>bz<|ab<|aa (bE rfl rfl) rfl<|aa (ac rfl) rfl<|ad<|cT (s16.1,(IntKind.i64.wrap (s10.2 + 1))) H20 (.cons rfl (.cons rfl (.cons rfl (.cons rfl (.nil _))))) .slnil)))) (fun k13 H14=>bz<|ag<|ab<|aa (ac rfl) rfl<|aa (ae rfl) rfl<|ad<|an<|av (ay rfl (aD rfl)) ⟨s10.1,rfl,H14⟩))))
def qJ (a0:Sl) (a1:Int) (a2:Int) (K:Int→Hp→Prop) (Rec2:(Int × Int × Int)→Hp→Prop) (s1:Int × Int × Int):Hp→Prop:=br (decide (s1.2.2 < (a0.len:Int))) ( ix a0 s1.2.2 fun q15=>ld (q15.1,q15.2 + Int.toNat s1.2.2 * 10) cK.C fun x16=>br ((x16.fKind == a1) && (x16.fCore == a2)) ( Rec2 ((mx s1.1 0),0,(IntKind.i64.wrap (s1.2.2 + 1)))) ( Rec2 ((mx s1.1 (IntKind.i64.wrap (s1.2.1 + 1))),(IntKind.i64.wrap (s1.2.1 + 1)),(IntKind.i64.wrap (s1.2.2 + 1))))) ( K s1.1)
def sh_fair_Longest (a0:Sl) (a1:Int) (a2:Int) (K:Int→Hp→Prop):Hp→Prop:=Lp (qJ a0 a1 a2 K) (0,0,0)
set_option maxRecDepth 20000 in
theorem sim_fair_Longest (a0:Sl) (a1:Int) (a2:Int) {K:Int→Hp→Prop} {h:Hp} (H:sh_fair_Longest a0 a1 a2 K h):Ct Tryz.prog hX #[(sv a0),(.int .i64 a1),(.int .i64 a2)] h fun v h'=>∃ r,v = dV r∧K r h':=aB [(sv a0),(.int .i64 a1),(.int .i64 a2)] Tryz.func13 rfl rfl rfl fun _=>ag<|ab<|aa (ae rfl) rfl<|ad<|ag<|ab<|aa (ae rfl) rfl<|aa (ae rfl) rfl<|ad<|ag<|ag<|ab<|aa (ac rfl) rfl<|aa (dB rfl Tryz.underlying23 rfl) rfl<|aa (ac rfl) rfl<|ad<|aE<|bO (step:=qJ a0 a1 a2 K) (fun s1=>[(1,(.int .i64 a1)),(2,(.int .i64 a2)),(7,(.int .i64 s1.1)),(8,(.int .i64 s1.2.1)),(11,(sv a0)),(12,(.int .i64 (a0.len:Int))),(13,(.int .i64 s1.2.2))]) (fun s1=>[]) H (.cons rfl (.cons rfl (.cons rfl (.cons rfl (.cons rfl (.cons rfl (.cons rfl (.nil _)))))))) .slnil (fun Rec2 s1 _ H3=>ag<|ab<|aa (cG rfl rfl) rfl<|ad<|ag<|aC rfl H3 (fun k4 H5=>au<|ag<|aE<|ag<|ab<|ct H5 fun q15 e6 h7 H8=>aa (bG slc_23 (aU rfl (bm e6)) rfl h7) rfl<|ai (gU H8 ag_29 rfl (fun _=>rfl) rfl fun x16 H9=>ai (aX (l:=(cK.C (⟨0,0,0,(⟨0,0,0,0,0⟩:ao),0,0⟩:cK))) zero_29 rfl rfl fun b10=>ai (aY (k:=0) (vs:=(cK.C x16)) inf_29 rfl rfl rfl rfl rfl rfl rfl<|ad<|ag<|ab<|aa (ac rfl) rfl<|aa (bE rfl rfl) rfl<|aa (ae rfl) rfl<|ad<|ag<|ag<|ab<|aa (am fld_29_0 rfl) rfl<|bw (bt (k:=0) bj rfl rfl rfl) rfl<|aa (ac rfl) rfl<|aa (bU rfl rfl) rfl<|aa (ac rfl) rfl<|aj rfl rfl rfl (aA _) (fun g10=>wv (am fld_29_1 rfl)) rfl<|aj rfl rfl rfl (aA _) (fun g11=>cv (bt (k:=0) bj (aI rfl g11) rfl rfl)) rfl<|aj rfl rfl rfl (aA _) (fun g12=>wv (ac rfl)) rfl<|aj rfl rfl rfl (aA _) (fun g13=>wv (bU (aI rfl g13) (aI rfl g13))) rfl<|aa (bY rfl rfl) rfl<|ad<|aC rfl H9 (fun k14 H15=>ab<|aa (ae rfl) rfl<|ad<|ab<|aa (ac rfl) rfl<|aa (ac rfl) rfl<|aa (v_maxT rfl rfl) rfl<|aa (ae rfl) rfl<|ad<|ab<|aa (bE rfl rfl) rfl<|aa (ac rfl) rfl<|ad<|cT ((mx s1.1 0),0,(IntKind.i64.wrap (s1.2.2 + 1))) H15 (.cons rfl (.cons rfl (.cons rfl (.cons rfl (.cons rfl (.cons rfl (.cons rfl (.nil _)))))))) (.cons _ .slnil)) (fun k14 H15=>au<|ab<|aa (ac rfl) rfl<|aa (ac rfl) rfl<|aa (v_maxT rfl rfl) rfl<|aa (ae rfl) rfl<|ad<|ab<|aa (bE rfl rfl) rfl<|aa (ac rfl) rfl<|ad<|cT ((mx s1.1 (IntKind.i64.wrap (s1.2.1 + 1))),(IntKind.i64.wrap (s1.2.1 + 1)),(IntKind.i64.wrap (s1.2.2 + 1))) H15 (.cons rfl (.cons rfl (.cons rfl (.cons rfl (.cons rfl (.cons rfl (.cons rfl (.nil _)))))))) (.cons _ .slnil)))))) (fun k4 H5=>bz<|ag<|ab<|aa (ac rfl) rfl<|aa (ae rfl) rfl<|ad<|an<|av (ay rfl (aD rfl)) ⟨s1.1,rfl,H5⟩))
def wt (a0:Sl) (a1:Int) (a2:Int) (K:Bool→Hp→Prop) (Rec2:Int→Hp→Prop) (s1:Int):Hp→Prop:=br (decide (s1 < a1)) ( cl Tryz.prog hX [(sv a0),(.int .i64 2),(.int .i64 s1)] dV fun r14=>br (!(decide (r14 ≥ a2))) ( cl Tryz.prog hX [(sv a0),(.int .i64 3),(.int .i64 s1)] dV fun r20=>br (decide (r20 ≥ a2)) ( K false) ( Rec2 (IntKind.i64.wrap (s1 + 1)))) ( K false)) ( K true)
def sh_fair_Fair (a0:Sl) (a1:Int) (a2:Int) (K:Bool→Hp→Prop):Hp→Prop:=Lp (wt a0 a1 a2 K) 0
set_option maxRecDepth 20000 in
theorem sim_fair_Fair (a0:Sl) (a1:Int) (a2:Int) {K:Bool→Hp→Prop} {h:Hp} (H:sh_fair_Fair a0 a1 a2 K h):Ct Tryz.prog tK #[(sv a0),(.int .i64 a1),(.int .i64 a2)] h fun v h'=>∃ r,v = aH r∧K r h':=aB [(sv a0),(.int .i64 a1),(.int .i64 a2)] Tryz.func12 rfl rfl rfl fun _=>ag<|ab<|aa (ae rfl) rfl<|ad<|ag<|ag<|ab<|aa (ac rfl) rfl<|aa (ac rfl) rfl<|ad<|aE<|bO (step:=wt a0 a1 a2 K) (fun s1=>[(0,(sv a0)),(2,(.int .i64 a2)),(8,(.int .i64 a1)),(9,(.int .i64 s1))]) (fun s1=>[]) H (.cons rfl (.cons rfl (.cons rfl (.cons rfl (.nil _))))) .slnil (fun Rec2 s1 _ H3=>ag<|ab<|aa (cG rfl rfl) rfl<|ad<|ag<|aC rfl H3 (fun k4 H5=>au<|ag<|aE<|ag<|ab<|aa (ac rfl) rfl<|aa (ae rfl) rfl<|ad<|ag<|ab<|aa (ac rfl) rfl<|aa (ac rfl) rfl<|ai (az H5 en_13 rfl rfl fun r14 _ H6=>aa (ac rfl) rfl<|aa (jz rfl rfl) rfl<|aa (ac rfl) rfl<|aj rfl rfl rfl (aV _) (fun g7=>wv (ac rfl)) rfl<|aj rfl rfl rfl (aV _) (fun g8=>wv (ac rfl)) rfl<|bX H6 (fun k10 H11=>aK rfl rfl rfl (congrArg Value.bool (cn k10)) (az H11 en_13 (aZ (aI rfl k10) (aZ rfl (aZ (aI rfl k10) bW))) rfl fun r20 _ H12=>aK rfl rfl rfl (congrArg Value.bool (cn k10)) (aO (wv (ac rfl)) rfl<|aK rfl rfl rfl (congrArg Value.bool (cn k10)) (aO (wv (jz rfl rfl)) rfl<|aa (ax rfl (cn k10) rfl) rfl<|ad<|aC rfl H12 (fun k13 H14=>ag<|ab<|aa (ae rfl) rfl<|ad<|an<|av (ay rfl (aD rfl)) ⟨false,rfl,H14⟩) (fun k13 H14=>au<|ab<|aa (bE rfl rfl) rfl<|aa (ac rfl) rfl<|ad<|cT (IntKind.i64.wrap (s1 + 1)) H14 (.cons rfl (.cons rfl (.cons rfl (.cons rfl (.nil _))))) .slnil))))) (fun k10 H11=>al rfl rfl rfl (ci (bP k10)) rfl<|al rfl rfl rfl (ci (bP k10)) rfl<|al rfl rfl rfl (ci (bP k10)) rfl<|aa (bd rfl (bP k10) rfl) rfl<|ad<|mc rfl rfl<|ag<|ab<|aa (ae rfl) rfl<|ad<|an<|av (ay rfl (aD rfl)) ⟨false,rfl,H11⟩))) (fun k4 H5=>bz<|ag<|ab<|aa (ae rfl) rfl<|ad<|an<|av (ay rfl (aD rfl)) ⟨true,rfl,H5⟩))
end Go.Proofs.YtniiiakkdoiaiaaGreatDoor
namespace Go.Proofs.YtniiiakkdoiaiaaGreatDoor
open Go Mb
abbrev rH:=cK
abbrev vK (s:Sl) (xs:List rH):As:=vec t_api_Pick 10 cK.C s xs
theorem pick_len (p:rH):p.C.length = 10:=rfl
theorem pick_one (p:rH):dS p.C = true:=rfl
namespace Fair
def longFrom (kind core:Int):List rH→Int→Int→Int
  | [],best,_=>best
  | p::ps,best,now=>if p.fKind = kind∧p.fCore = core then longFrom kind core ps (mx best 0) 0 else longFrom kind core ps (mx best (IntKind.i64.wrap (now + 1))) (IntKind.i64.wrap (now + 1))
def longest (ps:List rH) (kind core:Int):Int:=longFrom kind core ps 0 0
def okCore (ps:List rH) (b:Int) (c:Nat):Bool:=decide (longest ps 2 c < b) && decide (longest ps 3 c < b)
def fair (ps:List rH) (cores b:Int):Bool:=(List.range cores.toNat).all (okCore ps b)
def pk (kind:Int) (c:Nat):rH:=⟨kind,c,0,⟨0,0,0,0,0⟩,0,0⟩
def line (kind:Int) (c:Nat):List rH:=(List.range c).map (pk kind)
def lines (c:Nat) (kinds:List Int):List rH:=kinds.flatMap fun k=>line k c
def turns (c n:Nat):List rH:=(List.range n).flatMap fun _=>lines c [3,2]
def rounds (cores n:Int):List rH:=if cores < 1∨cores > 8∨n < 0∨n > 500 then [] else turns cores.toNat n.toNat
theorem line_len (kind:Int) (c:Nat):(line kind c).length = c:=by simp [line]
theorem line_succ (kind:Int) (c:Nat):line kind (c + 1) = line kind c++[pk kind c]:=by simp [line,List.range_succ]
theorem turns_succ (c n:Nat):turns c (n + 1) = turns c n++lines c [3,2]:=by simp [turns,List.range_succ]
theorem lines_len (c:Nat):∀ (ks:List Int),(lines c ks).length = ks.length * c
  | []=>by simp [lines]
  | k::ks=>by
    have:=lines_len c ks
    simp only [lines,List.flatMap_cons,List.length_append,line_len,List.length_cons,Nat.succ_mul] at this ⊢
    omega
theorem turns_len (c n:Nat):(turns c n).length = n * (2 * c):=by
  induction n with
  | zero=>simp [turns]
  | succ n ih=>rw [turns_succ,List.length_append,ih,lines_len,Nat.add_mul n 1,Nat.one_mul]; rfl
end Fair
theorem jU (s:Sl) (ps:List rH) (kind core:Int) (hb:ps.length < 2 ^ 40):Sp Tryz.prog hX [sv s,.int .i64 kind,.int .i64 core] dV [vK s ps] (fun r=>pa_ (r = Fair.longest ps kind core) [vK s ps]):=by
  intro h s0
  have hl:=(cq (j:=0) s0 rfl).1
  refine sim_fair_Longest _ _ _ ?_
  unfold sh_fair_Longest
  refine Lp.intro (fun (z:Int × Int × Int) h=>∃ n:Nat,z.2.2 = n∧n ≤ ps.length∧Fair.longFrom kind core (ps.drop n) z.1 z.2.1 = Fair.longest ps kind core∧aN [vK s ps] h) (fun (z:Int × Int × Int) _=>ps.length - z.2.2.toNat) ⟨0,rfl,Nat.zero_le _,rfl,s0⟩ ?_
  rintro ⟨best,now,i⟩ h ⟨n,rfl,hn,he,s1⟩
  unfold qJ
  simp only at he ⊢
  refine bi (fun k=>?_) (fun k=>?_)
  · have hlt:n < ps.length:=by rw [hl] at k; simpa using k
    have hw:IntKind.i64.wrap ((n:Int) + 1) = ((n + 1:Nat):Int):=by rw [bT (by omega) (by omega)]; rfl
    rw [List.drop_eq_getElem_cons hlt,Fair.longFrom] at he
    refine dI s1 (j:=0) rfl (by omega) (by omega) fun q hq=>?_
    refine eE (j:=0) (i:=n) (k:=0) ps[n] pick_len s1 rfl hq rfl (aM hlt) (by simp) ?_
    rw [hw]
    refine bi (fun k2=>?_) (fun k2=>?_)
    · have k2':ps[n].fKind = kind∧ps[n].fCore = core:=by simpa using k2
      rw [if_pos k2'] at he
      exact ⟨⟨n + 1,rfl,hlt,he,s1⟩,by simp; omega⟩
    · have k2':¬ (ps[n].fKind = kind∧ps[n].fCore = core):=by simpa using k2
      rw [if_neg k2'] at he
      exact ⟨⟨n + 1,rfl,hlt,he,s1⟩,by simp; omega⟩
  · have:n = ps.length:=by rw [hl] at k; simp at k; omega
    subst this
    rw [List.drop_length] at he
    exact bh he s1
theorem sp_fair_Fair (s:Sl) (ps:List rH) (cores b:Int) (hb:ps.length < 2 ^ 40) (hc:cores < 2 ^ 62):Sp Tryz.prog tK [sv s,.int .i64 cores,.int .i64 b] aH [vK s ps] (fun r=>pa_ (r = Fair.fair ps cores b) [vK s ps]):=by
  intro h s0
  refine sim_fair_Fair _ _ _ ?_
  unfold sh_fair_Fair
  refine Lp.intro (fun (i:Int) h=>∃ n:Nat,i = n∧n ≤ cores.toNat∧(∀ c,c < n→Fair.okCore ps b c = true)∧aN [vK s ps] h) (fun (i:Int) _=>cores.toNat - i.toNat) ⟨0,rfl,Nat.zero_le _,fun c hc=>by omega,s0⟩ ?_
  rintro i h ⟨n,rfl,hn,ho,s1⟩
  unfold wt
  refine bi (fun k=>?_) (fun k=>?_)
  · have hlt:n < cores.toNat:=by have:=of_decide_eq_true k; omega
    have hw:IntKind.i64.wrap ((n:Int) + 1) = ((n + 1:Nat):Int):=by rw [bT (by omega) (by omega)]; rfl
    have no:Fair.okCore ps b n = false→Fair.fair ps cores b = false:=fun hf=>by
      unfold Fair.fair
      cases ha:(List.range cores.toNat).all (Fair.okCore ps b) with
      | false=>rfl
      | true=>rw [List.all_eq_true.1 ha n (List.mem_range.2 hlt)] at hf; cases hf
    refine cd (jU s ps 2 n hb) (i:=0) rfl s1 fun r h2 hr s2=>?_
    subst hr
    refine bi (fun k2=>?_) (fun k2=>?_)
    · have k2':Fair.longest ps 2 n < b:=by simpa using k2
      refine cd (jU s ps 3 n hb) (i:=0) rfl s2 fun r h3 hr s3=>?_
      subst hr
      refine bi (fun k3=>?_) (fun k3=>?_)
      · have k3':¬ Fair.longest ps 3 n < b:=by simp at k3; omega
        exact bh (no (by simp [Fair.okCore,k3'])).symm s3
      · have k3':Fair.longest ps 3 n < b:=by simp at k3; omega
        rw [hw]
        refine ⟨⟨n + 1,rfl,hlt,fun c hc=>?_,s3⟩,by simp; omega⟩
        by_cases e:c = n
        · subst e; simp [Fair.okCore,k2',k3']
        · exact ho c (by omega)
    · have k2':¬ Fair.longest ps 2 n < b:=by simp at k2; omega
      exact bh (no (by simp [Fair.okCore,k2'])).symm s2
  · have:n = cores.toNat:=by have:=of_decide_eq_false k; omega
    subst this
    refine bh ?_ s1
    unfold Fair.fair
    exact (List.all_eq_true.2 fun c hc=>ho c (List.mem_range.1 hc)).symm
theorem rT (cores n:Int):Sp Tryz.prog mw [.int .i64 cores,.int .i64 n] gc [] (fun r=>aN [vK r (Fair.rounds cores n)]):=by
  intro h s0
  refine sim_fair_Rounds _ _ ?_
  unfold sh_fair_Rounds
  refine bi (fun k=>?_) (fun k=>?_)
  · have e1:Fair.rounds cores n = []:=if_pos (by simpa [or_assoc] using k)
    rw [e1]; exact fg s0
  · have k':¬ (cores < 1∨cores > 8∨n < 0∨n > 500):=by simp at k; omega
    have e1:Fair.rounds cores n = Fair.turns cores.toNat n.toNat:=if_neg k'
    rw [e1]
    obtain ⟨C,rfl⟩:=Int.eq_ofNat_of_zero_le (show 0 ≤ cores by omega)
    obtain ⟨N,rfl⟩:=Int.eq_ofNat_of_zero_le (show 0 ≤ n by omega)
    simp only [Int.toNat_natCast]
    refine fq (τ:=rH) [] (val:=fun x=>.agg x.C.toArray) (enc:=cK.C) oz pick_len (fun _=>rfl) s0 rfl rfl (by simp) fun v h1 s1=>?_
    refine Lp.intro (fun (z:Sl × Int) h=>∃ j:Nat,z.2 = j∧j ≤ N∧aN [vK z.1 (Fair.turns C j)] h) (fun (z:Sl × Int) _=>N - z.2.toNat) ⟨0,rfl,Nat.zero_le _,s1⟩ ?_
    rintro ⟨z,i⟩ h ⟨j,rfl,hj,s2⟩
    unfold sN
    refine bi (fun k2=>?_) (fun k2=>?_)
    · have hlt:j < N:=by have:=of_decide_eq_true k2; simp at this; exact this
      have hw:IntKind.i64.wrap ((j:Int) + 1) = ((j + 1:Nat):Int):=by rw [bT (by omega) (by omega)]; rfl
      have htl:=Fair.turns_len C j
      have hC:C ≤ 8:=by omega
      have hjb:j * (2 * C) ≤ 500 * 16:=Nat.mul_le_mul (by omega) (by omega)
      refine fq (τ:=Int) [3,2] (val:=fun x=>.int .i64 x) (enc:=cI .i64) el_Sint (di _) (fun _=>rfl) s2 rfl rfl (by decide) fun vk h3 s3=>?_
      have hvl:=(cq (j:=0) s3 rfl).1
      refine Lp.intro (fun (y:Sl × Int) h=>∃ m:Nat,y.2 = m∧m ≤ 2∧aN [vK y.1 (Fair.turns C j++Fair.lines C (([3,2]:List Int).take m)),vec kB 1 (cI .i64) vk [3,2]] h) (fun (y:Sl × Int) _=>2 - y.2.toNat) ⟨0,rfl,Nat.zero_le _,by
        have s4:=bn (m:=[vK z (Fair.turns C j),vec kB 1 (cI .i64) vk [3,2]]) [1] s3 rfl
        simpa [Fair.lines] using s4⟩ ?_
      rintro ⟨y,i2⟩ h ⟨m,rfl,hm,s4⟩
      unfold sM
      refine bi (fun k3=>?_) (fun k3=>?_)
      · have hlt2:m < 2:=by rw [hvl] at k3; have:=of_decide_eq_true k3; simp at this; omega
        have hw2:IntKind.i64.wrap ((m:Int) + 1) = ((m + 1:Nat):Int):=by rw [bT (by omega) (by omega)]; rfl
        have hkl:m < ([3,2]:List Int).length:=hlt2
        refine dI s4 (j:=1) rfl (by omega) (by simp; omega) fun q hq=>?_
        refine eE (j:=1) (i:=m) (k:=0) ([3,2]:List Int)[m] (di _) s4 rfl hq (by simp) (aM hkl) (by simp) ?_
        have hll:=Fair.lines_len C (([3,2]:List Int).take m)
        have hlb:(([3,2]:List Int).take m).length * C ≤ 2 * 8:=Nat.mul_le_mul (by simp; omega) (by omega)
        refine Lp.intro (fun (x:Sl × Int) h=>∃ p:Nat,x.2 = p∧p ≤ C∧aN [vK x.1 (Fair.turns C j++Fair.lines C (([3,2]:List Int).take m)++Fair.line ([3,2]:List Int)[m] p),vec kB 1 (cI .i64) vk [3,2]] h) (fun (x:Sl × Int) _=>C - x.2.toNat) ⟨0,rfl,Nat.zero_le _,by simpa [Fair.line] using s4⟩ ?_
        rintro ⟨x,i3⟩ h ⟨p,rfl,hp,s5⟩
        have hpl:=Fair.line_len ([3,2]:List Int)[m] p
        unfold sL
        refine bi (fun k4=>?_) (fun k4=>?_)
        · have hlt3:p < C:=by have:=of_decide_eq_true k4; simp at this; exact this
          have hw3:IntKind.i64.wrap ((p:Int) + 1) = ((p + 1:Nat):Int):=by rw [bT (by omega) (by omega)]; rfl
          refine jv (τ:=rH) (i:=0) (enc:=cK.C) (val:=fun x=>.agg x.C.toArray) (x:=Fair.pk ([3,2]:List Int)[m] p) oz pick_len pick_one (fun _=>rfl) (by omega) rfl rfl s5 rfl (by simp only [List.length_append]; omega) (by simp only [List.length_append]; omega) fun v h6 s6=>?_
          rw [hw3]
          refine ⟨⟨p + 1,rfl,hlt3,?_⟩,by simp; omega⟩
          rw [Fair.line_succ,← List.append_assoc]
          exact s6
        · have:p = C:=by have:=of_decide_eq_false k4; simp at this; omega
          subst this
          rw [hw2]
          refine ⟨⟨m + 1,rfl,hlt2,?_⟩,by simp; omega⟩
          have et:([3,2]:List Int).take (m + 1) = ([3,2]:List Int).take m++[([3,2]:List Int)[m]]:=by rw [List.take_add_one,aM hkl]; rfl
          have el:Fair.lines p (([3,2]:List Int).take (m + 1)) = Fair.lines p (([3,2]:List Int).take m)++Fair.line ([3,2]:List Int)[m] p:=by
            rw [et]; unfold Fair.lines; rw [List.flatMap_append]; simp
          rw [el,← List.append_assoc]
          exact s5
      · have:m = 2:=by rw [hvl] at k3; have:=of_decide_eq_false k3; simp at this; omega
        subst this
        rw [hw]
        refine ⟨⟨j + 1,rfl,hlt,?_⟩,by simp; omega⟩
        rw [Fair.turns_succ]
        exact nf (l:=[vK y (Fair.turns C j++Fair.lines C [3,2])]) s4
    · have:j = N:=by have:=of_decide_eq_false k2; simp at this; omega
      subst this
      exact s2
end Go.Proofs.YtniiiakkdoiaiaaGreatDoor
namespace Go.Proofs.YtniiiakkdoiaiaaGreatDoor
open Go Mb
set_option linter.unusedVariables false
def vm (a0:Sl) (a1:Int) (K:Sl→Hp→Prop) (Rec2:(Sl × Int)→Hp→Prop) (s1:Sl × Int):Hp→Prop:=br (decide (s1.2 < (a0.len:Int))) ( ix a0 s1.2 fun q12=>ld (q12.1,q12.2 + Int.toNat s1.2 * 16) aJ.C fun x13=>br ((x13.fEnv == a1) && (decide (x13.fEnd > 0))) ( hpv Tryz.prog (Instr.buildSlice mo 1 #[(0,(.agg (ak.C x13.fAnswer).toArray))]) mD fun (v26:Sl)=>hpv Tryz.prog (Builtin.append_ #[mo,mo] mo #[(sv s1.1),(sv v26)]) mD fun (v27:Sl)=>Rec2 (v27,(IntKind.i64.wrap (s1.2 + 1)))) ( Rec2 (s1.1,(IntKind.i64.wrap (s1.2 + 1))))) ( K s1.1)
def sh_twin_View (a0:Sl) (a1:Int) (K:Sl→Hp→Prop):Hp→Prop:=Lp (vm a0 a1 K) ((⟨none,0,0⟩:Sl),0)
set_option maxRecDepth 20000 in
theorem sim_twin_View (a0:Sl) (a1:Int) {K:Sl→Hp→Prop} {h:Hp} (H:sh_twin_View a0 a1 K h):Ct Tryz.prog n_twin_View #[(sv a0),(.int .i64 a1)] h fun v h'=>∃ r,v = mD r∧K r h':=aB [(sv a0),(.int .i64 a1)] Tryz.func51 rfl rfl rfl fun _=>ag<|ab<|aa (ae rfl) rfl<|ad<|ag<|ab<|aa (ae rfl) rfl<|ad<|ag<|ag<|ab<|aa (ac rfl) rfl<|aa (dB rfl Tryz.underlying39 rfl) rfl<|aa (ac rfl) rfl<|ad<|aE<|bO (step:=vm a0 a1 K) (fun s1=>[(1,(.int .i64 a1)),(5,(sv s1.1)),(8,(sv a0)),(9,(.int .i64 (a0.len:Int))),(10,(.int .i64 s1.2))]) (fun s1=>[]) H (.cons rfl (.cons rfl (.cons rfl (.cons rfl (.cons rfl (.nil _)))))) .slnil (fun Rec2 s1 _ H3=>ag<|ab<|aa (cG rfl rfl) rfl<|ad<|ag<|aC rfl H3 (fun k4 H5=>au<|ag<|aE<|ag<|ab<|ct H5 fun q12 e6 h7 H8=>aa (bG rW (aU rfl (bm e6)) rfl h7) rfl<|ai (gU H8 ag_51 rfl (fun _=>rfl) rfl fun x13 H9=>ai (aX (l:=(aJ.C (⟨0,0,(⟨0,0,0,0,0⟩:ao),0,0,0,(⟨0,0⟩:ak),(⟨0,0,0,0⟩:ar)⟩:aJ))) zero_51 rfl rfl fun b7=>ai (aY (k:=0) (vs:=(aJ.C x13)) inf_51 rfl rfl rfl rfl rfl rfl rfl<|ad<|ag<|ab<|aa (am ox rfl) rfl<|bw (bt (k:=0) bj rfl rfl rfl) rfl<|aa (ac rfl) rfl<|aa (bU rfl rfl) rfl<|aa (ac rfl) rfl<|aj rfl rfl rfl (aA _) (fun g10=>wv (am qr rfl)) rfl<|aj rfl rfl rfl (aA _) (fun g11=>cv (bt (k:=0) bj (aI rfl g11) rfl rfl)) rfl<|aj rfl rfl rfl (aA _) (fun g12=>wv (pW (aI rfl g12) rfl)) rfl<|aa (bY rfl rfl) rfl<|ad<|aC rfl H9 (fun k13 H14=>ab<|aa (ac rfl) rfl<|aa (am jX rfl) rfl<|bw (bL (k:=0) cF rfl rfl rfl rfl) rfl<|ai (bc H14 (bD (vs:=[(.agg (ak.C x13.fAnswer).toArray)]) rfl) rfl fun v26 _ H15=>ai (bc H15 (dw rfl rfl) rfl fun v27 _ H16=>aa (ae rfl) rfl<|ad<|ab<|aa (bE rfl rfl) rfl<|aa (ac rfl) rfl<|ad<|cT (v27,(IntKind.i64.wrap (s1.2 + 1))) H16 (.cons rfl (.cons rfl (.cons rfl (.cons rfl (.cons rfl (.nil _)))))) (.cons _ .slnil)))) (fun k13 H14=>au<|ab<|aa (bE rfl rfl) rfl<|aa (ac rfl) rfl<|ad<|cT (s1.1,(IntKind.i64.wrap (s1.2 + 1))) H14 (.cons rfl (.cons rfl (.cons rfl (.cons rfl (.cons rfl (.nil _)))))) (.cons _ .slnil)))))) (fun k4 H5=>bz<|ag<|ab<|aa (ac rfl) rfl<|aa (ae rfl) rfl<|ad<|an<|av (ay rfl (aD rfl)) ⟨s1.1,rfl,H5⟩))
end Go.Proofs.YtniiiakkdoiaiaaGreatDoor
namespace Go.Proofs.YtniiiakkdoiaiaaGreatDoor
open Go Mb
abbrev vA (s:Sl) (xs:List gu):As:=vec t_api_Answer 2 ak.C s xs
theorem ans_len (p:gu):p.C.length = 2:=rfl
theorem ans_one (p:gu):dS p.C = true:=rfl
namespace Twin
def view (env:Int):List ck→List gu
  | []=>[]
  | e::es=>if e.fEnv = env∧e.fEnd > 0 then e.fAnswer::view env es else view env es
def same:List gu→List gu→Bool
  | [],[]=>true
  | a::l,b::r=>ak.eqb a b && same l r
  | _,_=>false
theorem view_app (env:Int) (e:ck):∀ es,view env (es++[e]) = view env es++(if e.fEnv = env∧e.fEnd > 0 then [e.fAnswer] else [])
  | []=>by simp only [List.nil_append,view]
  | d::es=>by
    simp only [List.cons_append,view,view_app env e es]
    split <;> simp
theorem view_len (env:Int):∀ es,(view env es).length ≤ es.length
  | []=>Nat.le_refl _
  | e::es=>by unfold view; have:=view_len env es; split <;> simp <;> omega
end Twin
theorem sp_twin_View (s:Sl) (es:List ck) (env:Int) (hb:es.length < 2 ^ 38):Sp Tryz.prog n_twin_View [sv s,.int .i64 env] mD [vE s es] (fun r=>aN [vA r (Twin.view env es),vE s es]):=by
  intro h s0
  have hl:=(cq (j:=0) s0 rfl).1
  refine sim_twin_View _ _ ?_
  unfold sh_twin_View
  refine Lp.intro (fun (z:Sl × Int) h=>∃ n:Nat,z.2 = n∧n ≤ es.length∧aN [vA z.1 (Twin.view env (es.take n)),vE s es] h) (fun (z:Sl × Int) _=>es.length - z.2.toNat) ⟨0,rfl,Nat.zero_le _,fg s0⟩ ?_
  rintro ⟨z,i⟩ h ⟨n,rfl,hn,s1⟩
  unfold vm
  refine bi (fun k=>?_) (fun k=>?_)
  · have hlt:n < es.length:=by rw [hl] at k; simpa using k
    have hw:IntKind.i64.wrap ((n:Int) + 1) = ((n + 1:Nat):Int):=by rw [bT (by omega) (by omega)]; rfl
    have ht:es.take (n + 1) = es.take n++[es[n]]:=by simp
    refine dI s1 (j:=1) rfl (by omega) (by show (n:Int) < _; omega) fun q hq=>?_
    refine eE (j:=1) (i:=n) (k:=0) es[n] mX s1 rfl hq rfl (aM hlt) (by simp) ?_
    rw [hw]
    refine bi (fun k2=>?_) (fun k2=>?_)
    · have k2':es[n].fEnv = env∧es[n].fEnd > 0:=by simpa using k2
      have hvl:=Twin.view_len env (es.take n)
      simp at hvl
      refine jv (τ:=gu) (i:=0) (enc:=ak.C) (val:=fun x=>.agg x.C.toArray) el_Sapi_Answer ans_len ans_one (fun _=>rfl) (by omega) rfl rfl s1 rfl (by omega) (by omega) fun v h2 s2=>?_
      refine ⟨⟨n + 1,rfl,hlt,?_⟩,by simp; omega⟩
      rw [ht,Twin.view_app,if_pos k2']
      exact s2
    · have k2':¬ (es[n].fEnv = env∧es[n].fEnd > 0):=by simpa using k2
      refine ⟨⟨n + 1,rfl,hlt,?_⟩,by simp; omega⟩
      rw [ht,Twin.view_app,if_neg k2',List.append_nil]
      exact s1
  · have:n = es.length:=by rw [hl] at k; simp at k; omega
    subst this
    rw [List.take_length] at s1
    exact s1
end Go.Proofs.YtniiiakkdoiaiaaGreatDoor
namespace Go.Proofs.YtniiiakkdoiaiaaGreatDoor
open Go Mb
variable {ET:Nat} {EF:Nat × Nat}
theorem kern_nn {l:List As} {h:Hp} {x:Ptr} {k:KK} (s:aN (dy x k::l) h):x.isNone = false:=nn_of (fun _ e=>by rw [e.1]; rfl) s
namespace B16
abbrev sz:lP:=⟨2,2,3⟩
def r1:=KK.run (KK.new ⟨2,2,3⟩) 0 0 ⟨1,1,0,0,0⟩
def r2:=KK.run r1.2 0 0 ⟨6,4,1,3,0⟩
def r3:=KK.run r2.2 1 0 ⟨21,4,2,9,0⟩
def r4:=KK.run r3.2 0 0 ⟨20,4,2,0,0⟩
def r5:=KK.run r4.2 0 0 ⟨7,4,0,0,0⟩
def es:=r5.2.events
theorem es_len:es.length = 5:=by kernel_rfl
theorem apart:Hist.may es sz = true:=by kernel_rfl
theorem now1:r1.2.now < 1000:=of_decide_eq_true (by kernel_rfl)
theorem now2:r2.2.now < 1000:=of_decide_eq_true (by kernel_rfl)
theorem now3:r3.2.now < 1000:=of_decide_eq_true (by kernel_rfl)
theorem now4:r4.2.now < 1000:=of_decide_eq_true (by kernel_rfl)
theorem now5:r5.2.now < 1000:=of_decide_eq_true (by kernel_rfl)
theorem lin:Judge.linear es sz = (-1,true):=by kernel_rfl
theorem acc:Judge.accesses es sz = (-1,true):=by kernel_rfl
theorem rgt:Judge.right es sz = true:=by kernel_rfl
end B16
theorem ord20 {es:List ck} (s:Sl) (h:es.length ≤ 20):Hist.Apart es→OrdOk s es:=fun ha=>sp_hist_Order20 s es h ha
theorem sp_begun16:Sp Tryz.prog kq [] aH [(etB ET EF)] (fun r=>pa_ (r = true) [(etB ET EF)]):=by
  intro h st
  refine us ?_
  unfold nR
  refine li (sp_kern_New ⟨2,2,3⟩ (by decide)) st fun x h1 s1=>?_
  refine dJ (kern_nn s1) ?_
  refine cd (i:=0) (sp_Run x _ 0 0 ⟨1,1,0,0,0⟩ (by decide)) rfl s1 fun a1 h2 e1 s2=>?_
  refine cd (i:=0) (sp_Run x B16.r1.2 0 0 ⟨6,4,1,3,0⟩ (by have:=B16.now1; omega)) rfl s2 fun a2 h3 e2 s3=>?_
  refine cd (i:=0) (sp_Run x B16.r2.2 1 0 ⟨21,4,2,9,0⟩ (by have:=B16.now2; omega)) rfl s3 fun a3 h4 e3 s4=>?_
  refine cd (i:=0) (sp_Run x B16.r3.2 0 0 ⟨20,4,2,0,0⟩ (by have:=B16.now3; omega)) rfl s4 fun a4 h5 e4 s5=>?_
  refine cd (i:=0) (sp_Run x B16.r4.2 0 0 ⟨7,4,0,0,0⟩ (by have:=B16.now4; omega)) rfl s5 fun a5 h6 e5 s6=>?_
  refine cl_n (i:=0) (sp_kern_Events x B16.r5.2 (by have:=B16.now5; omega)) rfl s6 fun s h7 s7=>?_
  have hes:B16.es.length < 2 ^ 38:=by rw [B16.es_len]; decide
  have hes20:B16.es.length ≤ 20:=by rw [B16.es_len]; decide
  refine cd (i:=0) (sp_judge_Linear s B16.es B16.sz (by decide) hes (ord20 s hes20)) rfl s7 fun r1 h8 f1 s8=>?_
  refine cd (i:=0) (sp_judge_Access s B16.es B16.sz (by decide) hes (ord20 s hes20)) rfl s8 fun r2 h9 f2 s9=>?_
  refine li (rT 2 3) s9 fun t h10 s10=>?_
  refine cd (i:=3) sp_Begun11 rfl s10 fun r3 h11 f3 s11=>?_
  have hl:((s.len:Int) == 5) = true:=by rw [(cq (j:=1) s11 rfl).1]; kernel_rfl
  have htl:((t.len:Int) == 12) = true:=by rw [(cq (j:=0) s11 rfl).1]; kernel_rfl
  have g1:a1 = B16.r1.1:=e1.1
  have g2:a2 = B16.r2.1:=e2.1
  have g3:a3 = B16.r3.1:=e3.1
  have g4:a4 = B16.r4.1:=e4.1
  have g5:a5 = B16.r5.1:=e5.1
  rw [B16.lin] at f1
  rw [B16.acc] at f2
  rw [f1,f2,f3,g1,g2,g3,g4,g5,hl]
  refine dN (by kernel_rfl) ?_
  refine cd (i:=1) (sp_hist_May s B16.es B16.sz hes) rfl s11 fun r4 h12 f4 s12=>?_
  refine dN (f4.trans B16.apart) ?_
  refine cl_n (i:=1) (sp_hist_Order20 s B16.es hes20 (Hist.may_apart B16.apart)) rfl s12 fun o h13 s13=>?_
  have hol:((o.len:Int) == 5) = true:=by rw [(cq (j:=0) s13 rfl).1]; kernel_rfl
  refine dN (by rw [hol,htl]; rfl) ?_
  refine cd (i:=1) (sp_fair_Fair t _ 2 5 (by decide) (by decide)) rfl s13 fun r5 h14 f5 s14=>?_
  refine dN (f5.trans (by kernel_rfl)) ?_
  refine cl_n (i:=2) (sp_twin_View s B16.es 0 hes) rfl s14 fun v h15 s15=>?_
  have hvl:((v.len:Int) == 5) = true:=by rw [(cq (j:=0) s15 rfl).1]; kernel_rfl
  refine dN hvl ?_
  refine cd (i:=3) (sp_judge_Right s B16.es B16.sz (by decide) hes (ord20 s hes20)) rfl s15 fun r6 h16 f6 s16=>?_
  exact bh (f6.trans B16.rgt) (cm (l:=[_,_,_,_,_]) s16)
end Go.Proofs.YtniiiakkdoiaiaaGreatDoor
namespace Go.Proofs.YtniiiakkdoiaiaaGreatDoor
open Go Mb
namespace Fair
def stp (kind core:Int) (s:Int × Int) (p:rH):Int × Int:=if p.fKind = kind∧p.fCore = core then (mx s.1 0,0) else (mx s.1 (IntKind.i64.wrap (s.2 + 1)),IntKind.i64.wrap (s.2 + 1))
theorem tP (kind core:Int):∀ (ps:List rH) (b n:Int),longFrom kind core ps b n = (ps.foldl (stp kind core) (b,n)).1
  | [],_,_=>rfl
  | p::ps,b,n=>by
    unfold longFrom
    rw [List.foldl_cons]
    unfold stp
    split
    · exact tP kind core ps _ _
    · exact tP kind core ps _ _
theorem skip {kind core:Int}:∀ (xs:List rH) (b n:Int),(∀ p ∈ xs,¬ (p.fKind = kind∧p.fCore = core))→0 ≤ n→n ≤ b→n + xs.length < 2 ^ 60→xs.foldl (stp kind core) (b,n) = (max b (n + xs.length),n + xs.length)
  | [],b,n,_,_,h,_=>by simp; omega
  | p::xs,b,n,hm,h0,h,hb=>by
    simp only [List.length_cons] at hb
    have hw:IntKind.i64.wrap (n + 1) = n + 1:=bT (by omega) (by omega)
    have hx:mx b (n + 1) = max b (n + 1):=by unfold mx; split <;> omega
    rw [List.foldl_cons]
    have e:stp kind core (b,n) p = (max b (n + 1),n + 1):=by
      unfold stp
      rw [if_neg (hm p (by simp)),hw,hx]
    rw [e,skip xs _ _ (fun q hq=>hm q (by simp [hq])) (by omega) (by omega) (by omega)]
    simp only [List.length_cons,Prod.mk.injEq]
    omega
theorem line_get (kind:Int) (c i:Nat) (h:i < c):(line kind c)[i]? = some (pk kind i):=by simp [line,h]
theorem lines_get (C i:Nat) (h:i < 2 * C):(lines C [3,2])[i]? = some (pk (if i < C then 3 else 2) (i % C)):=by
  have e:lines C [3,2] = line 3 C++line 2 C:=by simp [lines]
  rw [e]
  by_cases hi:i < C
  · rw [List.getElem?_append_left (by rw [line_len]; exact hi),line_get 3 C i hi,if_pos hi,Nat.mod_eq_of_lt hi]
  · rw [List.getElem?_append_right (by rw [line_len]; omega),line_len,line_get 2 C _ (by omega),if_neg hi]
    have:i % C = i - C:=by rw [Nat.mod_eq_sub_mod (by omega),Nat.mod_eq_of_lt (by omega)]
    rw [this]
theorem lines2 (C:Nat):(lines C [3,2]).length = 2 * C:=by rw [lines_len]; rfl
structure At (C:Nat) (kind core:Int) (p:Nat):Prop where
  lt:p < 2 * C
  is:∀ i,i < 2 * C→((if i < C then (3:Int) else 2) = kind∧((i % C:Nat):Int) = core↔i = p)
theorem at3 {C c:Nat} (h:c < C):At C 3 c c:=by
  refine ⟨by omega,fun i hi=>⟨fun ⟨h1,h2⟩=>?_,fun e=>?_⟩⟩
  · by_cases hc:i < C
    · rw [Nat.mod_eq_of_lt hc] at h2; omega
    · rw [if_neg hc] at h1; cases h1
  · subst e; rw [if_pos h,Nat.mod_eq_of_lt h]; exact ⟨rfl,rfl⟩
theorem mem_get {α:Type} {xs:List α} {x:α} (h:x ∈ xs):∃ i,i < xs.length∧xs[i]? = some x:=by
  obtain ⟨i,hi,e⟩:=List.getElem_of_mem h
  exact ⟨i,hi,by rw [List.getElem?_eq_getElem hi,e]⟩
theorem period {C p:Nat} {kind core:Int} (hC:C ≤ 8) (a:At C kind core p) (b n:Int) (h0:0 ≤ n) (hb:n ≤ b) (hn:n < 2 ^ 59) :
    (lines C [3,2]).foldl (stp kind core) (b,n) = (max (max b (n + p)) (2 * (C:Int) - 1 - p),2 * (C:Int) - 1 - p):=by
  have hl:=lines2 C
  have hp:=a.lt
  have hget:(lines C [3,2])[p]? = some (pk (if p < C then 3 else 2) (p % C)):=lines_get C p hp
  have hsplit:lines C [3,2] = (lines C [3,2]).take p++(pk (if p < C then 3 else 2) (p % C)::(lines C [3,2]).drop (p + 1)):=by
    have hlt:p < (lines C [3,2]).length:=by rw [hl]; exact hp
    have:=List.take_append_drop p (lines C [3,2])
    rw [List.drop_eq_getElem_cons hlt] at this
    rw [List.getElem?_eq_getElem hlt] at hget
    rw [← Option.some.inj hget]
    exact this.symm
  have no:∀ i x,i < 2 * C→i ≠ p→(lines C [3,2])[i]? = some x→¬ (x.fKind = kind∧x.fCore = core):=by
    intro i x hi hne hx hm
    rw [lines_get C i hi] at hx
    cases hx
    exact hne ((a.is i hi).1 hm)
  have hA:∀ x ∈ (lines C [3,2]).take p,¬ (x.fKind = kind∧x.fCore = core):=by
    intro x hx
    obtain ⟨i,hi,e⟩:=mem_get hx
    rw [List.length_take] at hi
    rw [List.getElem?_take] at e
    split at e
    · exact no i x (by omega) (by omega) e
    · cases e
  have hB:∀ x ∈ (lines C [3,2]).drop (p + 1),¬ (x.fKind = kind∧x.fCore = core):=by
    intro x hx
    obtain ⟨i,hi,e⟩:=mem_get hx
    rw [List.length_drop,hl] at hi
    rw [List.getElem?_drop] at e
    exact no (p + 1 + i) x (by omega) (by omega) e
  have hlA:((lines C [3,2]).take p).length = p:=by rw [List.length_take,hl]; omega
  have hlB:((lines C [3,2]).drop (p + 1)).length = 2 * C - (p + 1):=by rw [List.length_drop,hl]
  rw [hsplit,List.foldl_append,skip _ _ _ hA h0 hb (by rw [hlA]; omega),List.foldl_cons]
  have e:stp kind core (max b (n + ((lines C [3,2]).take p).length),n + ((lines C [3,2]).take p).length) (pk (if p < C then 3 else 2) (p % C)) = (max b (n + p),0):=by
    unfold stp
    rw [if_pos (show (pk (if p < C then 3 else 2) (p % C)).fKind = kind∧(pk (if p < C then 3 else 2) (p % C)).fCore = core from (a.is p hp).2 rfl),hlA]
    have:mx (max b (n + p)) 0 = max b (n + p):=by unfold mx; split <;> omega
    simp only [this]
  rw [e,skip _ _ _ hB (Int.le_refl 0) (by omega) (by rw [hlB]; omega),hlB]
  simp only [Prod.mk.injEq]
  omega
theorem turns_one (C:Nat):turns C 1 = lines C [3,2]:=by simp [turns]
theorem turns_st {C p:Nat} {kind core:Int} (hC:C ≤ 8) (a:At C kind core p):∀ n:Nat,(turns C (n + 2)).foldl (stp kind core) (0,0) = (2 * (C:Int) - 1,2 * (C:Int) - 1 - p)
  | 0=>by
    have hp:=a.lt
    rw [turns_succ,turns_one,List.foldl_append,period hC a 0 0 (Int.le_refl _) (Int.le_refl _) (by decide),period hC a _ _ (by omega) (by omega) (by omega)]
    refine Prod.ext ?_ ?_ <;> dsimp only <;> omega
  | n + 1=>by
    have hp:=a.lt
    rw [turns_succ,List.foldl_append,turns_st hC a n,period hC a _ _ (by omega) (by omega) (by omega)]
    refine Prod.ext ?_ ?_ <;> dsimp only <;> omega
theorem longest_gap {C:Nat} (h1:1 ≤ C) (hC:C ≤ 8) (gap:Nat) (hg:gap ≤ 100) {q:rH} (hq:q.fKind = 4):longest (turns C 3++List.replicate gap q++turns C 1) 3 0 = 2 * C - 1 + gap:=by
  have a:At C 3 ((0:Nat):Int) 0:=at3 (C:=C) (c:=0) (by omega)
  have a:At C 3 0 0:=a
  unfold longest
  rw [tP,List.foldl_append,List.foldl_append,turns_st hC a 1,skip (kind:=3) (core:=0) (List.replicate gap q) _ _ (fun p hp=>by rw [List.eq_of_mem_replicate hp,hq]; intro h; exact absurd h.1 (by decide)) (by omega) (by omega) (by rw [List.length_replicate]; omega),turns_one,List.length_replicate,
    period hC a _ _ (by omega) (by omega) (by omega)]
  simp only
  omega
theorem longest_none {core:Int} (ps:List rH) (h:∀ p ∈ ps,p.fKind ≠ 1) (hb:ps.length < 2 ^ 59):longest ps 1 core = ps.length:=by
  unfold longest
  rw [tP,skip ps 0 0 (fun p hp=>fun e=>h p hp e.1) (Int.le_refl _) (Int.le_refl _) (by omega)]
  simp only
  omega
theorem turns_kind {C n:Nat}:∀ p ∈ turns C n,p.fKind ≠ 1:=by
  intro p hp
  unfold turns at hp
  obtain ⟨_,_,h2⟩:=List.mem_flatMap.1 hp
  unfold lines at h2
  obtain ⟨k,hk,h3⟩:=List.mem_flatMap.1 h2
  unfold line at h3
  obtain ⟨c,_,rfl⟩:=List.mem_map.1 h3
  simp at hk
  rcases hk with rfl | rfl <;> simp [pk]
theorem longest_gap1 {C:Nat} (gap:Nat) (hC:C ≤ 8) (hg:gap ≤ 100) {q:rH} (hq:q.fKind = 4) (core:Int):longest (turns C 3++List.replicate gap q++turns C 1) 1 core = (turns C 3++List.replicate gap q++turns C 1).length:=by
  refine longest_none _ (fun p hp=>?_) ?_
  · rcases List.mem_append.1 hp with h | h
    · rcases List.mem_append.1 h with h | h
      · exact turns_kind p h
      · rw [List.eq_of_mem_replicate h,hq]; decide
    · exact turns_kind p h
  · simp only [List.length_append,turns_len,List.length_replicate]; omega
theorem unfair_gap {C:Nat} (h1:1 ≤ C) (hC:C ≤ 8) (gap:Nat) (hg:gap ≤ 100) {q:rH} (hq:q.fKind = 4):fair (turns C 3++List.replicate gap q++turns C 1) C (2 * C - 1 + gap) = false:=by
  unfold fair
  rw [List.all_eq_false]
  refine ⟨0,by simp; omega,?_⟩
  have:=longest_gap h1 hC gap hg hq
  have e:¬ longest (turns C 3++List.replicate gap q++turns C 1) 3 ((0:Nat):Int) < 2 * C - 1 + gap:=by
    rw [show ((0:Nat):Int) = 0 from rfl,this]; omega
  unfold okCore
  simp only [e,decide_false,Bool.and_false]
  exact Bool.false_ne_true
end Fair
end Go.Proofs.YtniiiakkdoiaiaaGreatDoor
namespace Go.Proofs.YtniiiakkdoiaiaaGreatDoor
open Go Mb
variable {ET:Nat} {EF:Nat × Nat}
theorem tmodN (a b:Nat):(a:Int).tmod b = ((a % b:Nat):Int):=by rw [Int.tmod_eq_emod_of_nonneg (by omega)]; rfl
theorem norm (a:Int) (m:Nat) (h1:1 ≤ m) (h2:m < 2 ^ 40):∃ c:Nat,c < m∧(IntKind.i64.wrap ((a.tmod m) + m)).tmod m = c:=by
  have b1:a.tmod m < m:=by have:=Int.tmod_lt_of_pos a (show (0:Int) < m by omega); omega
  have b2:-(m:Int) < a.tmod m:=by have:=Int.lt_tmod_of_pos a (show (0:Int) < m by omega); omega
  rw [bT (by omega) (by omega)]
  obtain ⟨z,hz⟩:=Int.eq_ofNat_of_zero_le (show 0 ≤ a.tmod m + m by omega)
  rw [hz,tmodN]
  exact ⟨z % m,Nat.mod_lt _ (by omega),rfl⟩
theorem sp_FairLong (a g w:Int):Sp Tryz.prog mv [.int .i64 a,.int .i64 g,.int .i64 w] aH [(etB ET EF)] (fun r=>pa_ (r = true) [(etB ET EF)]):=by
  intro h st
  refine rX _ _ _ ?_
  unfold lR
  refine cd (i:=0) sp_begun16 rfl st fun r h1 hr s1=>?_
  subst hr
  obtain ⟨c,hc,ec⟩:=norm a 8 (by decide) (by decide)
  have ec':(IntKind.i64.wrap ((a.tmod 8) + 8)).tmod 8 = (c:Int):=ec
  have hC:IntKind.i64.wrap (1 + (IntKind.i64.wrap ((a.tmod 8) + 8)).tmod 8) = ((c + 1:Nat):Int):=by rw [ec',bT (by omega) (by omega)]; omega
  obtain ⟨G,hG,eG⟩:=norm g 40 (by decide) (by decide)
  have eG':(IntKind.i64.wrap ((g.tmod 40) + 40)).tmod 40 = (G:Int):=eG
  obtain ⟨W,hW,eW⟩:=norm w (c + 1) (by omega) (by omega)
  rw [hC]
  generalize hCC:c + 1 = C at *
  have C1:1 ≤ C:=by omega
  have C8:C ≤ 8:=by omega
  refine dJ rfl ⟨by omega,?_⟩
  have r3:Fair.rounds C 3 = Fair.turns C 3:=by
    unfold Fair.rounds
    rw [if_neg (by omega)]; rfl
  have r1:Fair.rounds C 1 = Fair.turns C 1:=by
    unfold Fair.rounds
    rw [if_neg (by omega)]; rfl
  refine li (rT C 3) s1 fun s h2 s2=>?_
  rw [r3] at s2
  have t3:=Fair.turns_len C 3
  have t1:=Fair.turns_len C 1
  have hl3:=(cq (j:=0) s2 rfl).1
  generalize hq:(⟨4,(W:Int),0,(⟨0,0,0,0,0⟩:ao),0,0⟩:cK) = q
  have q4:q.fKind = 4:=by rw [← hq]
  refine Lp.intro (fun (z:Sl × Int) h=>∃ j:Nat,z.2 = j∧j ≤ G∧aN [vK z.1 (Fair.turns C 3++List.replicate j q),(etB ET EF)] h) (fun (z:Sl × Int) _=>G - z.2.toNat) ⟨0,rfl,Nat.zero_le _,by simpa using s2⟩ ?_
  rintro ⟨z,i⟩ h3 ⟨j,rfl,hj,s3⟩
  unfold ip
  simp only [hC,eG']
  rw [eW,hq]
  refine bi (fun k=>?_) (fun k=>?_)
  · have hlt:j < G:=by have:=of_decide_eq_true k; omega
    have hw3:IntKind.i64.wrap ((j:Int) + 1) = ((j + 1:Nat):Int):=by rw [bT (by omega) (by omega)]; rfl
    refine jv (τ:=rH) (i:=0) (enc:=cK.C) (val:=fun x=>.agg x.C.toArray) (x:=q) oz pick_len pick_one (fun _=>rfl) (by omega) rfl rfl s3 rfl (by simp only [List.length_append,List.length_replicate,t3]; omega) (by simp only [List.length_append,List.length_replicate,t3]; omega) fun v h4 s4=>?_
    rw [hw3]
    refine ⟨⟨j + 1,rfl,hlt,?_⟩,by simp; omega⟩
    rw [List.replicate_succ',← List.append_assoc]
    exact s4
  · have hjG:j = G:=by have:=of_decide_eq_false k; omega
    subst hjG
    refine li (rT C 1) s3 fun y h4 s4=>?_
    rw [r1] at s4
    refine qw (i:=1) (j:=0) (enc:=cK.C) oz oz.sl pick_len pick_one s4 rfl rfl (by decide) (by simp only [List.length_append,List.length_replicate,t3,t1]; omega) (by simp only [List.length_append,List.length_replicate,t3,t1]; omega) fun v h5 s5=>?_
    have hll:(Fair.turns C 3++List.replicate j q++Fair.turns C 1).length = 3 * (2 * C) + j + 2 * C:=by simp only [List.length_append,List.length_replicate,t3,t1]; omega
    have hvl:=(cq (j:=1) s5 rfl).1
    refine cd (i:=1) (jU v _ 3 0 (by rw [hll]; omega)) rfl s5 fun r h6 hr s6=>?_
    rw [Fair.longest_gap C1 C8 j (by omega) q4] at hr
    rw [hr,hl3,hvl,hll,t3]
    refine dN ?_ ?_
    · have w1:IntKind.i64.wrap (((3 * (2 * C):Nat):Int) + j) = ((3 * (2 * C) + j:Nat):Int):=by rw [bT (by omega) (by omega)]; omega
      have w2:IntKind.i64.wrap (2 * (C:Int)) = ((2 * C:Nat):Int):=by rw [bT (by omega) (by omega)]; omega
      have w3:IntKind.i64.wrap (((3 * (2 * C) + j:Nat):Int) + ((2 * C:Nat):Int)) = ((3 * (2 * C) + j + 2 * C:Nat):Int):=by rw [bT (by omega) (by omega)]; omega
      have w4:IntKind.i64.wrap ((C:Int) + C) = 2 * (C:Int):=by rw [bT (by omega) (by omega)]; omega
      have w5:IntKind.i64.wrap (2 * (C:Int) - 1) = 2 * (C:Int) - 1:=bT (by omega) (by omega)
      have w6:IntKind.i64.wrap (2 * (C:Int) - 1 + j) = 2 * (C:Int) - 1 + j:=bT (by omega) (by omega)
      have w7:mx (2 * (C:Int) - 1) (2 * (C:Int) - 1 + j) = 2 * (C:Int) - 1 + j:=by unfold mx; split <;> omega
      rw [w1,w2,w3,w4,w5,w6,w7]
      simp
    refine cd (i:=1) (jU v _ 1 W (by rw [hll]; omega)) rfl s6 fun r h7 hr7 s7=>?_
    rw [Fair.longest_gap1 j C8 (by omega) q4,hll] at hr7
    rw [hr7]
    refine dN (by simp) ?_
    refine cd (i:=1) (sp_fair_Fair v _ C (2 * (C:Int) - 1 + j) (by rw [hll]; omega) (by omega)) rfl s7 fun r h8 hr8 s8=>?_
    rw [Fair.unfair_gap C1 C8 j (by omega) q4] at hr8
    rw [hr8]
    refine dN rfl ?_
    refine cd (i:=0) (jU ⟨none,0,0⟩ [] 2 0 (by decide)) rfl (fg s8) fun r h9 hr9 s9=>?_
    rw [hr9]
    exact bh rfl (cm (l:=[_,_,_]) s9)
end Go.Proofs.YtniiiakkdoiaiaaGreatDoor
namespace Go.Proofs.YtniiiakkdoiaiaaGreatDoor
open Go Mb Go.ChangeShapes Go.WideShapes Go.RowKit
theorem Tryz.own:ownKnob Tryz.prog.godebug = none:=by kernel_rfl
theorem Tryz.et:Tryz.prog.globalNamed "errors.errorType" = some 0:=by kernel_rfl
theorem Tryz.rt:(Tryz.prog.cutTypes.find? (·.1 == "internal/reflectlite.rtype")).map (·.2) = some 245:=by kernel_rfl
abbrev laid:List (String × DataW Unit) := [("errors.errorType",Rows.laid_errors_errorType)]
theorem block_of_laid {W:World} (h:laidMetH Tryz.prog laid W):∃ T F,W.heap[0]? = some (.cells #[rtV gD] T F):=by
  have h':laidMet Tryz.prog [] W∧handlesMet Tryz.prog laid W:=h
  obtain ⟨name,u,ty,e1,e2,e3,e4,e5⟩:=h'.2 _ (List.mem_singleton.2 rfl)
  have en:name = [101,114,114,111,114]:=(Option.some.inj e1).symm
  subst en
  obtain rfl:=Option.some.inj (Tryz.rt.symm.trans e2)
  have hm:ty ∈ (List.range 325).filter fun t=>Tryz.prog.rowNamed t [101,114,114,111,114]:=List.mem_filter.2 ⟨List.mem_range.2 (by rw [← g4]; exact e3),e4⟩
  rw [oneErr] at hm
  obtain rfl:=List.mem_singleton.1 hm
  have hh:typeHandle Tryz.prog 171 = .pointer (some ⟨4,171,none⟩):=by kernel_rfl
  rw [hh] at e5
  unfold World.var? at e5
  rw [Tryz.et] at e5
  simp only [Option.bind_some] at e5
  split at e5
  · rename_i cs T F hq
    cases e5
    exact ⟨T,F,hq⟩
  · cases e5
noncomputable def laidWorld (os:Os):World :=
  let w0:=World.holding Tryz.prog os ⟨#[],#[],[]⟩
  { w0 with heap:=w0.heap.modify 0 fun
      | .cells _ t frozen=>.cells #[rtV gD] t frozen
      | o=>o }
theorem laidWorld_met (os:Os) (args:Array Value):laidMetH Tryz.prog laid ((laidWorld os).forCall (fun _ _=>0) ⟨#[],args,[]⟩).memory :=
  laidMetH_of_parts (laidMet_nil _ _) (by kernel_rfl)
theorem keptBut_same {w w':World} {may:MemPlace→Prop} (h1:w'.os = w.os) (h2:w'.output = w.output) (h:∀ i,i < w.heap.size→w'.heap[i]? = w.heap[i]?):w.keptBut w' may:=by
  refine ⟨h1,h2,fun i hi=>?_⟩
  have:=(World.keptBut_refl w may).2.2 i hi
  rw [h i hi]
  exact this
theorem run_sp {f:FuncId} {vs:List Value} {ET:Nat} {EF:Nat × Nat} (c:Sp Tryz.prog f vs aH [etB ET EF] (fun r=>pa_ (r = true) [etB ET EF])) {W:World} (hw:W.heap[0]? = some (.cells #[rtV gD] ET EF)) :
    Calls Tryz.prog f vs.toArray W fun e W'=>e = .returned (.bool true)∧∀ may,W.keptBut W' may:=by
  have hs:Sub (ff emp 0 (.cells #[rtV gD] ET EF)) W:=by
    intro b o ho
    unfold ff at ho
    split at ho
    · rename_i hb; subst hb; rw [hw]; exact ho
    · cases ho
  have hst:aN [etB ET EF] (ff emp 0 (.cells #[rtV gD] ET EF)):=vo (lJ _ _ _)
  refine (c _ hst W hs).mono ?_
  rintro e W' ⟨v,h',rfl,⟨r,rfl,q⟩,s',fr⟩
  obtain ⟨rfl,q⟩:=q
  obtain ⟨g1,a1,sub1⟩:=ef (i:=0) (A:=etB ET EF) rfl q
  have h0:W'.heap[0]? = some (.cells #[rtV gD] ET EF):=s' _ _ (sub1 _ _ a1)
  refine ⟨rfl,fun may=>keptBut_same fr.os fr.out fun i hi=>?_⟩
  rcases Nat.eq_zero_or_pos i with rfl | hp
  · rw [h0,hw]
  · exact fr.same i hi (hset_other _ _ _ (by omega))
end Go.Proofs.YtniiiakkdoiaiaaGreatDoor
namespace Go.Proofs.YtniiiakkdoiaiaaGreatDoor
open Go Mb Go.ChangeShapes Go.WideShapes Go.RowKit
set_option maxRecDepth 100000 in
theorem lifted_4 (os:Os) (started:os.Started) (H:Type) (enc:TypeId × Value→H) :
    ReturnsInHanded {} Tryz.checked os 4 .any (fun w args=>(Rows.fairLongSpec.pre enc Tryz.prog Tryz.f4 [] false w args∧laidMetH Tryz.prog laid w)∧sizedMet enc Tryz.prog Tryz.f4 (OpenSpec.ofChange Rows.fairLongSpec) false w args)
      (Rows.fairLongSpec.post enc Tryz.prog Tryz.f4 false true false false):=by
  refine returnsInHanded_of_change_and (C:=Tryz.checked) (X:=fun w _=>laidMetH Tryz.prog laid w) (fun _ _ _ hh h=>h.of_heap hh) Tryz.own started (by kernel_rfl) Tryz.func4
    (ChangeSpec.witness_at (enc:=enc) (C:=Tryz.checked) (os:=os) (X:=fun w _=>laidMetH Tryz.prog laid w) false (laidWorld os) #[.int .i64 0,.int .i64 0,.int .i64 0] 8 rfl (by kernel_rfl) (by kernel_rfl) (by kernel_rfl) (by kernel_rfl) (by kernel_rfl) (laidWorld_met os _)) ?_
  intro W base args ds gs before hval0 hW _ _ hL _
  have hval:∀ (j:Nat) t v,Tryz.f4.params[j]? = some t→args[j]? = some v→Value.okWide Tryz.prog W .any base t v:=hval0
  have hW':=hW
  obtain ⟨p,q,hA0,hV0,rfl,hfz,hnd⟩:=hW
  have hA:DataW.TrodAll enc Tryz.prog W 0 (fun _=>true) true Tryz.f4.params.toList args.toList ds p:=hA0
  have hV:DataW.TrodVars enc Tryz.prog W (fun _=>true) [] gs q:=hV0
  rw [Tryz.params4] at hA hval
  obtain ⟨v0,v1,v2,d0,d1,d2,p0,p1,p2,rfl,rfl,rfl,h0,h1,h2⟩:=trodAll_three hA
  obtain ⟨n,rfl,rfl,rfl,hwn⟩:=open_int Tryz.underlying3 (hval 0 3 v0 rfl rfl) h0
  obtain ⟨m,rfl,rfl,rfl,hwm⟩:=open_int Tryz.underlying3 (hval 1 3 v1 rfl rfl) h1
  obtain ⟨k,rfl,rfl,rfl,hwk⟩:=open_int Tryz.underlying3 (hval 2 3 v2 rfl rfl) h2
  obtain ⟨T,F,hb⟩:=block_of_laid hL
  obtain ⟨rfl,rfl⟩:gs = []∧q = []:=by
    cases gs with
    | nil=>exact ⟨rfl,hV⟩
    | cons g r=>exact absurd hV (by intro h; cases h)
  refine (run_sp (sp_FairLong (ET:=T) (EF:=F) n m k) hb).mono fun e W' ⟨he,hk⟩=>?_
  subst he
  refine ⟨_,rfl,_,_,_,[],[],[],hW',?_,?_,?_,hk _,fun h=>by cases h⟩
  · exact trodAll_mk1 (shut_bool Tryz.underlying4 true)
  · exact trodAll_mk3 (shut_int Tryz.underlying3 hwn) (shut_int Tryz.underlying3 hwm) (shut_int Tryz.underlying3 hwk)
  · rfl
theorem said_4:Rows.FairLongSaid :=
  OpenClaim.holds_of_wide 4 Tryz.f4 rfl rfl rfl rfl rfl rfl rfl ⟨rfl,rfl,rfl,rfl,rfl⟩ rfl rfl rfl rfl rfl (by kernel_rfl) Tryz.func4 (by kernel_rfl)
    (of_decide_eq_true (by kernel_rfl)) (by unfold Func.isWrapper; rw [if_neg (of_decide_eq_false (by kernel_rfl))]; exact ⟨rfl,rfl⟩)
    (fun os started H enc _=>lifted_4 os started H enc)
theorem fairLong_holds:Rows.FairLongCardSaid :=
  Claim7.holds_tied_plain_at .later [] [.handle] true (true, "1c83f4dfbcbfaed934cec40c9d2b35637a96dbc4ce1f31d396f73b9811e9fefe") true
    said_4 (fun _ h=>by cases h) (by kernel_rfl) (fun _ h=>by cases h) fairLong_row_tie rfl ⟨rfl,rfl⟩ (by kernel_rfl) rfl
    (fun f fn hf hfn=>by
      obtain rfl:f = 4:=Option.some.inj ((show Tryz.prog.funcNamed "messuage/messuagelaw16.FairLong" = some 4 by kernel_rfl).symm.trans hf) |>.symm
      obtain rfl:fn = Tryz.f4:=(Option.some.inj (Tryz.func4.symm.trans hfn)).symm
      exact ⟨by kernel_rfl,fun j t ht=>by
        rw [Tryz.params4] at ht
        have h3:t = 3:=by
          rcases j with _ | _ | _ | j
          · simpa using ht.symm
          · simpa using ht.symm
          · simpa using ht.symm
          · simp at ht
        subst h3
        exact (show Tryz.prog.wantsStandIn 3 = false by kernel_rfl)⟩)
    (by kernel_rfl)
end Go.Proofs.YtniiiakkdoiaiaaGreatDoor
