/- The law KernEnds returns true for every input, and leaves its arguments as they were. -/
import Derived.Test.YtmggcfijlpldpaaGreatDoorKernEnds17
import Derived.Test.YtmggcfijlpldpaaGreatDoorCards
import Derived.Test.YtmggcfijlpldpaaGreatDoorRows
import Derived.Test.YtmggcfijlpldpaaGreatDoorTie
set_option linter.all false
set_option maxRecDepth 20000
namespace Go.Proofs.YtmggcfijlpldpaaGreatDoor
open Go Mb
set_option linter.unusedVariables false
def tB (a0:Int) (Rec17:(Sl × Int)→Hp→Prop) (s16:Sl × Int) (x32:Int) (Rec26:(Sl × Int)→Hp→Prop) (s25:Sl × Int):Hp→Prop:=br (decide (s25.2 < a0)) ( hpv Tryz.prog (Instr.buildSlice kW 1 #[(0,(.agg (ch.C (⟨x32,s25.2,0,(⟨0,0,0,0,0⟩:ah),0,0⟩:ch)).toArray))]) gV fun (v41:Sl)=>hpv Tryz.prog (Builtin.append_ #[kW,kW] kW #[(sv s25.1),(sv v41)]) gV fun (v42:Sl)=>Rec26 (v42,(IntKind.i64.wrap (s25.2 + 1)))) ( Rec17 (s25.1,(IntKind.i64.wrap (s16.2 + 1))))
def tC (a0:Int) (Rec11:(Sl × Int)→Hp→Prop) (s10:Sl × Int) (v27:Sl) (Rec17:(Sl × Int)→Hp→Prop) (s16:Sl × Int):Hp→Prop:=br (decide (s16.2 < (v27.len:Int))) ( ix v27 s16.2 fun q31=>ld (q31.1,q31.2 + Int.toNat s16.2 * 1) (cI .i64) fun x32=>Lp (tB a0 Rec17 s16 x32) (s16.1,0)) ( Rec11 (s16.1,(IntKind.i64.wrap (s10.2 + 1))))
def tD (a0:Int) (a1:Int) (K:Sl→Hp→Prop) (Rec11:(Sl × Int)→Hp→Prop) (s10:Sl × Int):Hp→Prop:=br (decide (s10.2 < a1)) ( hpv Tryz.prog (Instr.buildSlice dH 2 #[(0,(.int .i64 3)),(1,(.int .i64 2))]) cA fun (v27:Sl)=>Lp (tC a0 Rec11 s10 v27) (s10.1,0)) ( K s10.1)
def sh_fair_Rounds (a0:Int) (a1:Int) (K:Sl→Hp→Prop):Hp→Prop:=br ((((decide (a0 < 1)) || (decide (a0 > 8))) || (decide (a1 < 0))) || (decide (a1 > 500))) ( K (⟨none,0,0,none⟩:Sl)) ( hpv Tryz.prog (Instr.buildSlice kW 0 #[]) gV fun (v23:Sl)=>Lp (tD a0 a1 K) (v23,0))
theorem sim_fair_Rounds (a0:Int) (a1:Int) {K:Sl→Hp→Prop} {h:Hp} (H:sh_fair_Rounds a0 a1 K h):Ct Tryz.prog uQ #[(.int .i64 a0),(.int .i64 a1)] h fun v h'=>∃ r,v = gV r∧K r h':=au [(.int .i64 a0),(.int .i64 a1)] Tryz.func41 c c c fun _=>M<|O c<|ak<|M<|J c<|p (cu c c)<|J c<|V c c (aH _) (fun g1=>wv<|ag c)<|V c c (aH _) (fun g2=>wv<|qv (aD c g2) c)<|p (dh c c)<|J c<|V c c (aH _) (fun g3=>wv<|ag c)<|V c c (aH _) (fun g4=>wv<|cu (aD c g4) c)<|p (dh c c)<|J c<|V c c (aH _) (fun g5=>wv<|ag c)<|V c c (aH _) (fun g6=>wv<|qv (aD c g6) c)<|p (dh c c)<|ad<|av c H (fun k7 H8=>M<|O c<|ai<|Y ⟨(⟨none,0,0,none⟩:Sl),c,H8⟩) fun k7 H8=>an<|M<|aa<|aR H8 (bv (vs:=[]) c) c fun v23 _ H9=>O c<|ak<|M<|J c<|J c<|ad<|ay<|bE (step:=tD a0 a1 K) (fun s10=>[(0,(.int .i64 a0)),(5,(sv s10.1)),(24,(.int .i64 a1)),(25,(.int .i64 s10.2))]) (fun s10=>[]) H9 (.cons c<|.cons c<|.cons c<|.cons c<|.nil _) .slnil fun Rec11 s10 _ H12=>M<|p (cu c c)<|ad<|ak<|av c H12 (fun k13 H14=>an<|ak<|ay<|M<|aa<|aR H14 (bv (vs:=[(.int .i64 3),(.int .i64 2)]) c) c fun v27 _ H15=>p (dy c Tryz.underlying40 c)<|J c<|ad<|ay<|bE (step:=tC a0 Rec11 s10 v27) (fun s16=>[(0,(.int .i64 a0)),(5,(sv s16.1)),(24,(.int .i64 a1)),(25,(.int .i64 s10.2)),(27,(sv v27)),(28,(.int .i64 (v27.len:Int))),(29,(.int .i64 s16.2))]) (fun s16=>[]) H15 (.cons c<|.cons c<|.cons c<|.cons c<|.cons c<|.cons c<|.cons c<|.nil _) .slnil fun Rec17 s16 _ H18=>M<|p (cu c c)<|ad<|ak<|av c H18 (fun k19 H20=>an<|ak<|ay<|M<|cj H20 fun q31 e21 h22 H23=>p (bn iA (aL c<|aZ e21) c h22)<|aa<|aU H23 aY c (fun _=>c) c fun x32 H24=>O c<|M<|J c<|J c<|ad<|ay<|bE (step:=tB a0 Rec17 s16 x32) (fun s25=>[(0,(.int .i64 a0)),(5,(sv s25.1)),(7,(.int .i64 x32)),(24,(.int .i64 a1)),(25,(.int .i64 s10.2)),(27,(sv v27)),(28,(.int .i64 (v27.len:Int))),(29,(.int .i64 s16.2)),(33,(.int .i64 a0)),(34,(.int .i64 s25.2))]) (fun s25=>[]) H24 (.cons c<|.cons c<|.cons c<|.cons c<|.cons c<|.cons c<|.cons c<|.cons c<|.cons c<|.cons c<|.nil _) .slnil fun Rec26 s25 _ H27=>M<|p (cu c c)<|ad<|ak<|av c H27 (fun k28 H29=>an<|ak<|ay<|M<|J c<|O c<|aq<|J c<|J c<|J c<|p (bc c<|build_63_0_1 x32 s25.2)<|aa<|aR H29 (bv (vs:=[(.agg (ch.C (⟨x32,s25.2,0,(⟨0,0,0,0,0⟩:ah),0,0⟩:ch)).toArray)]) c) c fun v41 _ H30=>aa<|aR H30 (dG c c) c fun v42 _ H31=>O c<|aq<|p (bq c c)<|J c<|ad<|cL (v42,(IntKind.i64.wrap (s25.2 + 1))) H31 (.cons c<|.cons c<|.cons c<|.cons c<|.cons c<|.cons c<|.cons c<|.cons c<|.cons c<|.cons c<|.nil _) .slnil) fun k28 H29=>bj<|aq<|p (bq c c)<|J c<|ad<|cL (s25.1,(IntKind.i64.wrap (s16.2 + 1))) H29 (.cons c<|.cons c<|.cons c<|.cons c<|.cons c<|.cons c<|.cons c<|.nil _) .slnil) fun k19 H20=>bj<|aq<|p (bq c c)<|J c<|ad<|cL (s16.1,(IntKind.i64.wrap (s10.2 + 1))) H20 (.cons c<|.cons c<|.cons c<|.cons c<|.nil _) .slnil) fun k13 H14=>bj<|M<|J c<|O c<|ai<|Y ⟨s10.1,c,H14⟩
def rn (a0:Sl) (a1:Int) (a2:Int) (K:Int→Hp→Prop) (Rec2:(Int × Int × Int)→Hp→Prop) (s1:Int × Int × Int):Hp→Prop:=br (decide (s1.2.2 < (a0.len:Int))) ( ix a0 s1.2.2 fun q15=>ld (q15.1,q15.2 + Int.toNat s1.2.2 * 10) ch.C fun x16=>br ((x16.fKind == a1) && (x16.fCore == a2)) ( Rec2 ((mx s1.1 0),0,(IntKind.i64.wrap (s1.2.2 + 1)))) ( Rec2 ((mx s1.1 (IntKind.i64.wrap (s1.2.1 + 1))),(IntKind.i64.wrap (s1.2.1 + 1)),(IntKind.i64.wrap (s1.2.2 + 1))))) ( K s1.1)
def sh_fair_Longest (a0:Sl) (a1:Int) (a2:Int) (K:Int→Hp→Prop):Hp→Prop:=Lp (rn a0 a1 a2 K) (0,0,0)
theorem sim_fair_Longest (a0:Sl) (a1:Int) (a2:Int) {K:Int→Hp→Prop} {h:Hp} (H:sh_fair_Longest a0 a1 a2 K h):Ct Tryz.prog oO #[(sv a0),(.int .i64 a1),(.int .i64 a2)] h fun v h'=>∃ r,v = eC r∧K r h':=au [(sv a0),(.int .i64 a1),(.int .i64 a2)] Tryz.func90 c c c fun _=>M<|O c<|M<|p (ar c)<|O c<|ak<|M<|J c<|p (dy c Tryz.underlying59 c)<|J c<|ad<|ay<|bE (step:=rn a0 a1 a2 K) (fun s1=>[(1,(.int .i64 a1)),(2,(.int .i64 a2)),(7,(.int .i64 s1.1)),(8,(.int .i64 s1.2.1)),(11,(sv a0)),(12,(.int .i64 (a0.len:Int))),(13,(.int .i64 s1.2.2))]) (fun s1=>[]) H (.cons c<|.cons c<|.cons c<|.cons c<|.cons c<|.cons c<|.cons c<|.nil _) .slnil fun Rec2 s1 _ H3=>M<|p (cu c c)<|ad<|ak<|av c H3 (fun k4 H5=>an<|ak<|ay<|M<|cj H5 fun q15 e6 h7 H8=>p (bn slc_59 (aL c<|aZ e6) c h7)<|aa<|gu H8 ag_63 c (fun _=>c) c fun x16 H9=>aa<|aM (l:=ch.C (⟨0,0,0,(⟨0,0,0,0,0⟩:ah),0,0⟩:ch)) zero_63 c c fun b10=>aa<|aO (k:=0) (vs:=ch.C x16) inf_63 c c c c c c c<|ad<|M<|J c<|p (bq c c)<|O c<|ak<|M<|p (ae fld_63_0 c)<|be (ba (k:=0) aY c c c) c<|J c<|p (bL c c)<|J c<|V c c (ax _) (fun g10=>wv<|ae fld_63_1 c)<|V c c (ax _) (fun g11=>cv<|ba (k:=0) aY (aD c g11) c c)<|V c c (ax _) (fun g12=>wv<|ag c)<|V c c (ax _) (fun g13=>wv<|bL (aD c g13)<|aD c g13)<|p (bT c c)<|ad<|av c H9 (fun k14 H15=>aq<|O c<|aq<|J c<|J c<|p (v_maxT c c)<|O c<|aq<|p (bq c c)<|J c<|ad<|cL ((mx s1.1 0),0,(IntKind.i64.wrap (s1.2.2 + 1))) H15 (.cons c<|.cons c<|.cons c<|.cons c<|.cons c<|.cons c<|.cons c<|.nil _)<|.cons _ .slnil) fun k14 H15=>an<|aq<|J c<|J c<|p (v_maxT c c)<|O c<|aq<|p (bq c c)<|J c<|ad<|cL ((mx s1.1 (IntKind.i64.wrap (s1.2.1 + 1))),(IntKind.i64.wrap (s1.2.1 + 1)),(IntKind.i64.wrap (s1.2.2 + 1))) H15 (.cons c<|.cons c<|.cons c<|.cons c<|.cons c<|.cons c<|.cons c<|.nil _)<|.cons _ .slnil) fun k4 H5=>bj<|M<|J c<|O c<|ai<|Y ⟨s1.1,c,H5⟩
def xj (a0:Sl) (a1:Int) (a2:Int) (K:Bool→Hp→Prop) (Rec2:Int→Hp→Prop) (s1:Int):Hp→Prop:=br (decide (s1 < a1)) ( cl Tryz.prog oO [(sv a0),(.int .i64 2),(.int .i64 s1)] eC fun r14=>br (!(decide (r14 ≥ a2))) ( cl Tryz.prog oO [(sv a0),(.int .i64 3),(.int .i64 s1)] eC fun r20=>br (decide (r20 ≥ a2)) ( K false) ( Rec2 (IntKind.i64.wrap (s1 + 1)))) ( K false)) ( K true)
def sh_fair_Fair (a0:Sl) (a1:Int) (a2:Int) (K:Bool→Hp→Prop):Hp→Prop:=Lp (xj a0 a1 a2 K) 0
theorem sim_fair_Fair (a0:Sl) (a1:Int) (a2:Int) {K:Bool→Hp→Prop} {h:Hp} (H:sh_fair_Fair a0 a1 a2 K h):Ct Tryz.prog n_fair_Fair #[(sv a0),(.int .i64 a1),(.int .i64 a2)] h fun v h'=>∃ r,v = aA r∧K r h':=au [(sv a0),(.int .i64 a1),(.int .i64 a2)] Tryz.func44 c c c fun _=>M<|O c<|ak<|M<|J c<|J c<|ad<|ay<|bE (step:=xj a0 a1 a2 K) (fun s1=>[(0,(sv a0)),(2,(.int .i64 a2)),(8,(.int .i64 a1)),(9,(.int .i64 s1))]) (fun s1=>[]) H (.cons c<|.cons c<|.cons c<|.cons c<|.nil _) .slnil fun Rec2 s1 _ H3=>M<|p (cu c c)<|ad<|ak<|av c H3 (fun k4 H5=>an<|ak<|ay<|M<|J c<|O c<|M<|J c<|J c<|aa<|Z H5 en_90 fun r14 _ H6=>J c<|p (jk c c)<|J c<|V c c (aH _) (fun g7=>wv<|ag c)<|V c c (aH _) (fun g8=>wv<|ag c)<|bO H6 (fun k10 H11=>F (D<|bH k10)<|fX H11 en_90 (aP (aD c k10)<|aP c<|aP (aD c k10) bS) c fun r20 _ H12=>F (D<|bH k10)<|I (ag c)<|F (D<|bH k10)<|I (jk c c)<|p (ap c (bH k10) c)<|ad<|av c H12 (fun k13 H14=>M<|O c<|ai<|Y ⟨false,c,H14⟩) fun k13 H14=>an<|aq<|p (bq c c)<|J c<|ad<|cL (IntKind.i64.wrap (s1 + 1)) H14 (.cons c<|.cons c<|.cons c<|.cons c<|.nil _) .slnil) fun k10 H11=>W (bG<|bi k10)<|W (bG<|bi k10)<|W (bG<|bi k10)<|p (aQ c (bi k10) c)<|ad<|kG c c<|M<|O c<|ai<|Y ⟨false,c,H11⟩) fun k4 H5=>bj<|M<|O c<|ai<|Y ⟨true,c,H5⟩
end Go.Proofs.YtmggcfijlpldpaaGreatDoor
namespace Go.Proofs.YtmggcfijlpldpaaGreatDoor
open Go Mb
abbrev qW:=ch
abbrev vK (s:Sl) (xs:List qW):As:=vec t_api_Pick 10 ch.C s xs
theorem tc (p:qW):p.C.length = 10:=rfl
theorem pick_one (p:qW):dI p.C = true:=rfl
namespace Fair
def longFrom (kind core:Int):List qW→Int→Int→Int
  | [],best,_=>best
  | p::ps,best,now=>if p.fKind = kind∧p.fCore = core then longFrom kind core ps (mx best 0) 0 else longFrom kind core ps (mx best (IntKind.i64.wrap (now + 1))) (IntKind.i64.wrap (now + 1))
def longest (ps:List qW) (kind core:Int):Int:=longFrom kind core ps 0 0
def okCore (ps:List qW) (b:Int) (c:Nat):Bool:=decide (longest ps 2 c < b) && decide (longest ps 3 c < b)
def fair (ps:List qW) (cores b:Int):Bool:=(List.range cores.toNat).all (okCore ps b)
def pk (kind:Int) (c:Nat):qW:=⟨kind,c,0,⟨0,0,0,0,0⟩,0,0⟩
def line (kind:Int) (c:Nat):List qW:=(List.range c).map (pk kind)
def lines (c:Nat) (kinds:List Int):List qW:=kinds.flatMap fun k=>line k c
def turns (c n:Nat):List qW:=(List.range n).flatMap fun _=>lines c [3,2]
def rounds (cores n:Int):List qW:=if cores < 1∨cores > 8∨n < 0∨n > 500 then [] else turns cores.toNat n.toNat
theorem line_len (kind:Int) (c:Nat):(line kind c).length = c:=by simp [line]
theorem line_succ (kind:Int) (c:Nat):line kind (c + 1) = line kind c++[pk kind c]:=by simp [line,List.range_succ]
theorem turns_succ (c n:Nat):turns c (n + 1) = turns c n++lines c [3,2]:=by simp [turns,List.range_succ]
theorem lines_len (c:Nat):∀ (ks:List Int),(lines c ks).length = ks.length * c
  | []=>by simp [lines]
  | k::ks=>by
    have:=lines_len c ks
    simp only [lines,List.flatMap_cons,List.length_append,line_len,List.length_cons,Nat.succ_mul] at this ⊢
    omega
theorem turns_len (c n:Nat):(turns c n).length = n * (2 * c):=by
  induction n with
  | zero=>simp [turns]
  | succ n ih=>rw [turns_succ,List.length_append,ih,lines_len,Nat.add_mul n 1,Nat.one_mul]; rfl
end Fair
theorem sp_fair_Longest (s:Sl) (ps:List qW) (kind core:Int) (hb:ps.length < 2 ^ 40):Sp Tryz.prog oO [sv s,.int .i64 kind,.int .i64 core] eC [vK s ps] (fun r=>pa_ (r = Fair.longest ps kind core) [vK s ps]):=by
  intro h s0
  have hl:=(cf (j:=0) s0 rfl).1
  refine sim_fair_Longest _ _ _ ?_
  unfold sh_fair_Longest
  refine Lp.intro (fun (z:Int × Int × Int) h=>∃ n:Nat,z.2.2 = n∧n ≤ ps.length∧Fair.longFrom kind core (ps.drop n) z.1 z.2.1 = Fair.longest ps kind core∧aG [vK s ps] h) (fun (z:Int × Int × Int) _=>ps.length - z.2.2.toNat) ⟨0,rfl,Nat.zero_le _,rfl,s0⟩ ?_
  rintro ⟨best,now,i⟩ h ⟨n,rfl,hn,he,s1⟩
  unfold rn
  simp only at he ⊢
  refine aX (fun k=>?_) (fun k=>?_)
  · have hlt:n < ps.length:=by rw [hl] at k; simpa using k
    have hw:IntKind.i64.wrap ((n:Int) + 1) = ((n + 1:Nat):Int):=by rw [bP (by omega) (by omega)]; rfl
    rw [List.drop_eq_getElem_cons hlt,Fair.longFrom] at he
    refine dw s1 (j:=0) rfl (by omega) (by omega) fun q hq=>?_
    refine eo (j:=0) (i:=n) (k:=0) ps[n] tc s1 rfl hq rfl (aE hlt) (by simp) ?_
    rw [hw]
    refine aX (fun k2=>?_) (fun k2=>?_)
    · have k2':ps[n].fKind = kind∧ps[n].fCore = core:=by simpa using k2
      rw [if_pos k2'] at he
      exact ⟨⟨n + 1,rfl,hlt,he,s1⟩,by simp; omega⟩
    · have k2':¬ (ps[n].fKind = kind∧ps[n].fCore = core):=by simpa using k2
      rw [if_neg k2'] at he
      exact ⟨⟨n + 1,rfl,hlt,he,s1⟩,by simp; omega⟩
  · have:n = ps.length:=by rw [hl] at k; simp at k; omega
    subst this
    rw [List.drop_length] at he
    exact aW he s1
theorem sp_fair_Fair (s:Sl) (ps:List qW) (cores b:Int) (hb:ps.length < 2 ^ 40) (hc:cores < 2 ^ 62):Sp Tryz.prog n_fair_Fair [sv s,.int .i64 cores,.int .i64 b] aA [vK s ps] (fun r=>pa_ (r = Fair.fair ps cores b) [vK s ps]):=by
  intro h s0
  refine sim_fair_Fair _ _ _ ?_
  unfold sh_fair_Fair
  refine Lp.intro (fun (i:Int) h=>∃ n:Nat,i = n∧n ≤ cores.toNat∧(∀ c,c < n→Fair.okCore ps b c = true)∧aG [vK s ps] h) (fun (i:Int) _=>cores.toNat - i.toNat) ⟨0,rfl,Nat.zero_le _,fun c hc=>by omega,s0⟩ ?_
  rintro i h ⟨n,rfl,hn,ho,s1⟩
  unfold xj
  refine aX (fun k=>?_) (fun k=>?_)
  · have hlt:n < cores.toNat:=by have:=of_decide_eq_true k; omega
    have hw:IntKind.i64.wrap ((n:Int) + 1) = ((n + 1:Nat):Int):=by rw [bP (by omega) (by omega)]; rfl
    have no:Fair.okCore ps b n = false→Fair.fair ps cores b = false:=fun hf=>by
      unfold Fair.fair
      cases ha:(List.range cores.toNat).all (Fair.okCore ps b) with
      | false=>rfl
      | true=>rw [List.all_eq_true.1 ha n (List.mem_range.2 hlt)] at hf; cases hf
    refine bM (sp_fair_Longest s ps 2 n hb) (i:=0) rfl s1 fun r h2 hr s2=>?_
    subst hr
    refine aX (fun k2=>?_) (fun k2=>?_)
    · have k2':Fair.longest ps 2 n < b:=by simpa using k2
      refine bM (sp_fair_Longest s ps 3 n hb) (i:=0) rfl s2 fun r h3 hr s3=>?_
      subst hr
      refine aX (fun k3=>?_) (fun k3=>?_)
      · have k3':¬ Fair.longest ps 3 n < b:=by simp at k3; omega
        exact aW (no (by simp [Fair.okCore,k3'])).symm s3
      · have k3':Fair.longest ps 3 n < b:=by simp at k3; omega
        rw [hw]
        refine ⟨⟨n + 1,rfl,hlt,fun c hc=>?_,s3⟩,by simp; omega⟩
        by_cases e:c = n
        · subst e; simp [Fair.okCore,k2',k3']
        · exact ho c (by omega)
    · have k2':¬ Fair.longest ps 2 n < b:=by simp at k2; omega
      exact aW (no (by simp [Fair.okCore,k2'])).symm s2
  · have:n = cores.toNat:=by have:=of_decide_eq_false k; omega
    subst this
    refine aW ?_ s1
    unfold Fair.fair
    exact (List.all_eq_true.2 fun c hc=>ho c (List.mem_range.1 hc)).symm
theorem sp_fair_Rounds (cores n:Int):Sp Tryz.prog uQ [.int .i64 cores,.int .i64 n] gV [] (fun r=>aG [vK r (Fair.rounds cores n)]):=by
  intro h s0
  refine sim_fair_Rounds _ _ ?_
  unfold sh_fair_Rounds
  refine aX (fun k=>?_) (fun k=>?_)
  · have e1:Fair.rounds cores n = []:=if_pos (by simpa [or_assoc] using k)
    rw [e1]; exact fH s0
  · have k':¬ (cores < 1∨cores > 8∨n < 0∨n > 500):=by simp at k; omega
    have e1:Fair.rounds cores n = Fair.turns cores.toNat n.toNat:=if_neg k'
    rw [e1]
    obtain ⟨C,rfl⟩:=Int.eq_ofNat_of_zero_le (show 0 ≤ cores by omega)
    obtain ⟨N,rfl⟩:=Int.eq_ofNat_of_zero_le (show 0 ≤ n by omega)
    simp only [Int.toNat_natCast]
    refine fy (τ:=qW) [] (val:=fun x=>.agg x.C.toArray) (enc:=ch.C) xu tc (fun _=>rfl) s0 rfl rfl (by simp) fun v h1 s1=>?_
    refine Lp.intro (fun (z:Sl × Int) h=>∃ j:Nat,z.2 = j∧j ≤ N∧aG [vK z.1 (Fair.turns C j)] h) (fun (z:Sl × Int) _=>N - z.2.toNat) ⟨0,rfl,Nat.zero_le _,s1⟩ ?_
    rintro ⟨z,i⟩ h ⟨j,rfl,hj,s2⟩
    unfold tD
    refine aX (fun k2=>?_) (fun k2=>?_)
    · have hlt:j < N:=by have:=of_decide_eq_true k2; simp at this; exact this
      have hw:IntKind.i64.wrap ((j:Int) + 1) = ((j + 1:Nat):Int):=by rw [bP (by omega) (by omega)]; rfl
      have htl:=Fair.turns_len C j
      have hC:C ≤ 8:=by omega
      have hjb:j * (2 * C) ≤ 500 * 16:=Nat.mul_le_mul (by omega) (by omega)
      refine fy (τ:=Int) [3,2] (val:=fun x=>.int .i64 x) (enc:=cI .i64) el_Sint (de _) (fun _=>rfl) s2 rfl rfl (by decide) fun vk h3 s3=>?_
      have hvl:=(cf (j:=0) s3 rfl).1
      refine Lp.intro (fun (y:Sl × Int) h=>∃ m:Nat,y.2 = m∧m ≤ 2∧aG [vK y.1 (Fair.turns C j++Fair.lines C (([3,2]:List Int).take m)),vec kL 1 (cI .i64) vk [3,2]] h) (fun (y:Sl × Int) _=>2 - y.2.toNat) ⟨0,rfl,Nat.zero_le _,by
        have s4:=bb (m:=[vK z (Fair.turns C j),vec kL 1 (cI .i64) vk [3,2]]) [1] s3 rfl
        simpa [Fair.lines] using s4⟩ ?_
      rintro ⟨y,i2⟩ h ⟨m,rfl,hm,s4⟩
      unfold tC
      refine aX (fun k3=>?_) (fun k3=>?_)
      · have hlt2:m < 2:=by rw [hvl] at k3; have:=of_decide_eq_true k3; simp at this; omega
        have hw2:IntKind.i64.wrap ((m:Int) + 1) = ((m + 1:Nat):Int):=by rw [bP (by omega) (by omega)]; rfl
        have hkl:m < ([3,2]:List Int).length:=hlt2
        refine dw s4 (j:=1) rfl (by omega) (by simp; omega) fun q hq=>?_
        refine eo (j:=1) (i:=m) (k:=0) ([3,2]:List Int)[m] (de _) s4 rfl hq (by simp) (aE hkl) (by simp) ?_
        have hll:=Fair.lines_len C (([3,2]:List Int).take m)
        have hlb:(([3,2]:List Int).take m).length * C ≤ 2 * 8:=Nat.mul_le_mul (by simp; omega) (by omega)
        refine Lp.intro (fun (x:Sl × Int) h=>∃ p:Nat,x.2 = p∧p ≤ C∧aG [vK x.1 (Fair.turns C j++Fair.lines C (([3,2]:List Int).take m)++Fair.line ([3,2]:List Int)[m] p),vec kL 1 (cI .i64) vk [3,2]] h) (fun (x:Sl × Int) _=>C - x.2.toNat) ⟨0,rfl,Nat.zero_le _,by simpa [Fair.line] using s4⟩ ?_
        rintro ⟨x,i3⟩ h ⟨p,rfl,hp,s5⟩
        have hpl:=Fair.line_len ([3,2]:List Int)[m] p
        unfold tB
        refine aX (fun k4=>?_) (fun k4=>?_)
        · have hlt3:p < C:=by have:=of_decide_eq_true k4; simp at this; exact this
          have hw3:IntKind.i64.wrap ((p:Int) + 1) = ((p + 1:Nat):Int):=by rw [bP (by omega) (by omega)]; rfl
          refine ku (τ:=qW) (i:=0) (enc:=ch.C) (val:=fun x=>.agg x.C.toArray) (x:=Fair.pk ([3,2]:List Int)[m] p) xu tc pick_one (fun _=>rfl) (by omega) rfl rfl s5 rfl (by simp only [List.length_append]; omega) (by simp only [List.length_append]; omega) fun v h6 s6=>?_
          rw [hw3]
          refine ⟨⟨p + 1,rfl,hlt3,?_⟩,by simp; omega⟩
          rw [Fair.line_succ,← List.append_assoc]
          exact s6
        · have:p = C:=by have:=of_decide_eq_false k4; simp at this; omega
          subst this
          rw [hw2]
          refine ⟨⟨m + 1,rfl,hlt2,?_⟩,by simp; omega⟩
          have et:([3,2]:List Int).take (m + 1) = ([3,2]:List Int).take m++[([3,2]:List Int)[m]]:=by rw [List.take_add_one,aE hkl]; rfl
          have el:Fair.lines p (([3,2]:List Int).take (m + 1)) = Fair.lines p (([3,2]:List Int).take m)++Fair.line ([3,2]:List Int)[m] p:=by
            rw [et]; unfold Fair.lines; rw [List.flatMap_append]; simp
          rw [el,← List.append_assoc]
          exact s5
      · have:m = 2:=by rw [hvl] at k3; have:=of_decide_eq_false k3; simp at this; omega
        subst this
        rw [hw]
        refine ⟨⟨j + 1,rfl,hlt,?_⟩,by simp; omega⟩
        rw [Fair.turns_succ]
        exact nE (l:=[vK y (Fair.turns C j++Fair.lines C [3,2])]) s4
    · have:j = N:=by have:=of_decide_eq_false k2; simp at this; omega
      subst this
      exact s2
end Go.Proofs.YtmggcfijlpldpaaGreatDoor
namespace Go.Proofs.YtmggcfijlpldpaaGreatDoor
open Go Mb
set_option linter.unusedVariables false
def wj (a0:Sl) (a1:Int) (K:Sl→Hp→Prop) (Rec2:(Sl × Int)→Hp→Prop) (s1:Sl × Int):Hp→Prop:=br (decide (s1.2 < (a0.len:Int))) ( ix a0 s1.2 fun q12=>ld (q12.1,q12.2 + Int.toNat s1.2 * 16) aC.C fun x13=>br ((x13.fEnv == a1) && (decide (x13.fEnd > 0))) ( hpv Tryz.prog (Instr.buildSlice mK 1 #[(0,(.agg (ac.C x13.fAnswer).toArray))]) mS fun (v26:Sl)=>hpv Tryz.prog (Builtin.append_ #[mK,mK] mK #[(sv s1.1),(sv v26)]) mS fun (v27:Sl)=>Rec2 (v27,(IntKind.i64.wrap (s1.2 + 1)))) ( Rec2 (s1.1,(IntKind.i64.wrap (s1.2 + 1))))) ( K s1.1)
def sh_twin_View (a0:Sl) (a1:Int) (K:Sl→Hp→Prop):Hp→Prop:=Lp (wj a0 a1 K) ((⟨none,0,0,none⟩:Sl),0)
theorem sim_twin_View (a0:Sl) (a1:Int) {K:Sl→Hp→Prop} {h:Hp} (H:sh_twin_View a0 a1 K h):Ct Tryz.prog n_twin_View #[(sv a0),(.int .i64 a1)] h fun v h'=>∃ r,v = mS r∧K r h':=au [(sv a0),(.int .i64 a1)] Tryz.func30 c c c fun _=>M<|O c<|M<|O c<|ak<|M<|J c<|p (dy c Tryz.underlying43 c)<|J c<|ad<|ay<|bE (step:=wj a0 a1 K) (fun s1=>[(1,(.int .i64 a1)),(5,(sv s1.1)),(8,(sv a0)),(9,(.int .i64 (a0.len:Int))),(10,(.int .i64 s1.2))]) (fun s1=>[]) H (.cons c<|.cons c<|.cons c<|.cons c<|.cons c<|.nil _) .slnil fun Rec2 s1 _ H3=>M<|p (cu c c)<|ad<|ak<|av c H3 (fun k4 H5=>an<|ak<|ay<|M<|cj H5 fun q12 e6 h7 H8=>p (bn ra (aL c<|aZ e6) c h7)<|aa<|gu H8 ag_54 c (fun _=>c) c fun x13 H9=>aa<|aM (l:=aC.C (⟨0,0,(⟨0,0,0,0,0⟩:ah),0,0,0,(⟨0,0⟩:ac),(⟨0,0,0,0⟩:am)⟩:aC)) zero_54 c c fun b7=>aa<|aO (k:=0) (vs:=aC.C x13) inf_54 c c c c c c c<|ad<|M<|p (ae oT c)<|be (ba (k:=0) aY c c c) c<|J c<|p (bL c c)<|J c<|V c c (ax _) (fun g10=>wv<|ae oS c)<|V c c (ax _) (fun g11=>cv<|ba (k:=0) aY (aD c g11) c c)<|V c c (ax _) (fun g12=>wv<|qv (aD c g12) c)<|p (bT c c)<|ad<|av c H9 (fun k13 H14=>aq<|J c<|p (ae ki c)<|be (bC (k:=0) cD c c c c) c<|aa<|aR H14 (bv (vs:=[(.agg (ac.C x13.fAnswer).toArray)]) c) c fun v26 _ H15=>aa<|aR H15 (dG c c) c fun v27 _ H16=>O c<|aq<|p (bq c c)<|J c<|ad<|cL (v27,(IntKind.i64.wrap (s1.2 + 1))) H16 (.cons c<|.cons c<|.cons c<|.cons c<|.cons c<|.nil _)<|.cons _ .slnil) fun k13 H14=>an<|aq<|p (bq c c)<|J c<|ad<|cL (s1.1,(IntKind.i64.wrap (s1.2 + 1))) H14 (.cons c<|.cons c<|.cons c<|.cons c<|.cons c<|.nil _)<|.cons _ .slnil) fun k4 H5=>bj<|M<|J c<|O c<|ai<|Y ⟨s1.1,c,H5⟩
end Go.Proofs.YtmggcfijlpldpaaGreatDoor
namespace Go.Proofs.YtmggcfijlpldpaaGreatDoor
open Go Mb
abbrev vA (s:Sl) (xs:List fG):As:=vec t_api_Answer 2 ac.C s xs
theorem ans_len (p:fG):p.C.length = 2:=rfl
theorem ans_one (p:fG):dI p.C = true:=rfl
namespace Twin
def view (env:Int):List ce→List fG
  | []=>[]
  | e::es=>if e.fEnv = env∧e.fEnd > 0 then e.fAnswer::view env es else view env es
def same:List fG→List fG→Bool
  | [],[]=>true
  | a::l,b::r=>ac.eqb a b && same l r
  | _,_=>false
theorem view_app (env:Int) (e:ce):∀ es,view env (es++[e]) = view env es++(if e.fEnv = env∧e.fEnd > 0 then [e.fAnswer] else [])
  | []=>by simp only [List.nil_append,view]
  | d::es=>by
    simp only [List.cons_append,view,view_app env e es]
    split <;> simp
theorem view_len (env:Int):∀ es,(view env es).length ≤ es.length
  | []=>Nat.le_refl _
  | e::es=>by unfold view; have:=view_len env es; split <;> simp <;> omega
end Twin
theorem sp_twin_View (s:Sl) (es:List ce) (env:Int) (hb:es.length < 2 ^ 38):Sp Tryz.prog n_twin_View [sv s,.int .i64 env] mS [vE s es] (fun r=>aG [vA r (Twin.view env es),vE s es]):=by
  intro h s0
  have hl:=(cf (j:=0) s0 rfl).1
  refine sim_twin_View _ _ ?_
  unfold sh_twin_View
  refine Lp.intro (fun (z:Sl × Int) h=>∃ n:Nat,z.2 = n∧n ≤ es.length∧aG [vA z.1 (Twin.view env (es.take n)),vE s es] h) (fun (z:Sl × Int) _=>es.length - z.2.toNat) ⟨0,rfl,Nat.zero_le _,fH s0⟩ ?_
  rintro ⟨z,i⟩ h ⟨n,rfl,hn,s1⟩
  unfold wj
  refine aX (fun k=>?_) (fun k=>?_)
  · have hlt:n < es.length:=by rw [hl] at k; simpa using k
    have hw:IntKind.i64.wrap ((n:Int) + 1) = ((n + 1:Nat):Int):=by rw [bP (by omega) (by omega)]; rfl
    have ht:es.take (n + 1) = es.take n++[es[n]]:=by simp
    refine dw s1 (j:=1) rfl (by omega) (by show (n:Int) < _; omega) fun q hq=>?_
    refine eo (j:=1) (i:=n) (k:=0) es[n] mC s1 rfl hq rfl (aE hlt) (by simp) ?_
    rw [hw]
    refine aX (fun k2=>?_) (fun k2=>?_)
    · have k2':es[n].fEnv = env∧es[n].fEnd > 0:=by simpa using k2
      have hvl:=Twin.view_len env (es.take n)
      simp at hvl
      refine ku (τ:=fG) (i:=0) (enc:=ac.C) (val:=fun x=>.agg x.C.toArray) el_Sapi_Answer ans_len ans_one (fun _=>rfl) (by omega) rfl rfl s1 rfl (by omega) (by omega) fun v h2 s2=>?_
      refine ⟨⟨n + 1,rfl,hlt,?_⟩,by simp; omega⟩
      rw [ht,Twin.view_app,if_pos k2']
      exact s2
    · have k2':¬ (es[n].fEnv = env∧es[n].fEnd > 0):=by simpa using k2
      refine ⟨⟨n + 1,rfl,hlt,?_⟩,by simp; omega⟩
      rw [ht,Twin.view_app,if_neg k2',List.append_nil]
      exact s1
  · have:n = es.length:=by rw [hl] at k; simp at k; omega
    subst this
    rw [List.take_length] at s1
    exact s1
end Go.Proofs.YtmggcfijlpldpaaGreatDoor
namespace Go.Proofs.YtmggcfijlpldpaaGreatDoor
open Go Mb
variable {ET:Nat} {EF:Nat × Nat}
theorem kern_nn {l:List As} {h:Hp} {x:Ptr} {k:KK} (s:aG (cM x k::l) h):x.isNone = false:=nn_of (fun _ e=>by rw [e.1]; rfl) s
namespace B16
abbrev sz:io:=⟨2,2,3⟩
def r1:=KK.run (KK.new ⟨2,2,3⟩) 0 0 ⟨1,1,0,0,0⟩
def r2:=KK.run r1.2 0 0 ⟨6,4,1,3,0⟩
def r3:=KK.run r2.2 1 0 ⟨21,4,2,9,0⟩
def r4:=KK.run r3.2 0 0 ⟨20,4,2,0,0⟩
def r5:=KK.run r4.2 0 0 ⟨7,4,0,0,0⟩
def es:=r5.2.events
theorem es_len:es.length = 5:=by kernel_rfl
theorem apart:Hist.may es sz = true:=by kernel_rfl
theorem now1:r1.2.now < 1000:=of_decide_eq_true (by kernel_rfl)
theorem now2:r2.2.now < 1000:=of_decide_eq_true (by kernel_rfl)
theorem now3:r3.2.now < 1000:=of_decide_eq_true (by kernel_rfl)
theorem now4:r4.2.now < 1000:=of_decide_eq_true (by kernel_rfl)
theorem now5:r5.2.now < 1000:=of_decide_eq_true (by kernel_rfl)
theorem lin:Judge.linear es sz = (-1,true):=by kernel_rfl
theorem acc:Judge.accesses es sz = (-1,true):=by kernel_rfl
theorem rgt:Judge.right es sz = true:=by kernel_rfl
end B16
theorem ord20 {es:List ce} (s:Sl) (h:es.length ≤ 20):Hist.Apart es→OrdOk s es:=fun ha=>sp_hist_Order20 s es h ha
theorem sp_begun16:Sp Tryz.prog kz [] aA [(etB ET EF)] (fun r=>pa_ (r = true) [(etB ET EF)]):=by
  intro h st
  refine vi ?_
  unfold ox
  refine mf (sp_kern_New ⟨2,2,3⟩ (by decide)) st fun x h1 s1=>?_
  refine dB (kern_nn s1) ?_
  refine bM (i:=0) (sp_Run x _ 0 0 ⟨1,1,0,0,0⟩ (by decide)) rfl s1 fun a1 h2 e1 s2=>?_
  refine bM (i:=0) (sp_Run x B16.r1.2 0 0 ⟨6,4,1,3,0⟩ (by have:=B16.now1; omega)) rfl s2 fun a2 h3 e2 s3=>?_
  refine bM (i:=0) (sp_Run x B16.r2.2 1 0 ⟨21,4,2,9,0⟩ (by have:=B16.now2; omega)) rfl s3 fun a3 h4 e3 s4=>?_
  refine bM (i:=0) (sp_Run x B16.r3.2 0 0 ⟨20,4,2,0,0⟩ (by have:=B16.now3; omega)) rfl s4 fun a4 h5 e4 s5=>?_
  refine bM (i:=0) (sp_Run x B16.r4.2 0 0 ⟨7,4,0,0,0⟩ (by have:=B16.now4; omega)) rfl s5 fun a5 h6 e5 s6=>?_
  refine xw (i:=0) (sK x B16.r5.2 (by have:=B16.now5; omega)) rfl s6 fun s h7 s7=>?_
  have hes:B16.es.length < 2 ^ 38:=by rw [B16.es_len]; decide
  have hes20:B16.es.length ≤ 20:=by rw [B16.es_len]; decide
  refine bM (i:=0) (sp_judge_Linear s B16.es B16.sz (by decide) hes (ord20 s hes20)) rfl s7 fun r1 h8 f1 s8=>?_
  refine bM (i:=0) (sp_judge_Access s B16.es B16.sz (by decide) hes (ord20 s hes20)) rfl s8 fun r2 h9 f2 s9=>?_
  refine mf (sp_fair_Rounds 2 3) s9 fun t h10 s10=>?_
  refine bM (i:=3) sp_Begun11 rfl s10 fun r3 h11 f3 s11=>?_
  have hl:((s.len:Int) == 5) = true:=by rw [(cf (j:=1) s11 rfl).1]; kernel_rfl
  have htl:((t.len:Int) == 12) = true:=by rw [(cf (j:=0) s11 rfl).1]; kernel_rfl
  have g1:a1 = B16.r1.1:=e1.1
  have g2:a2 = B16.r2.1:=e2.1
  have g3:a3 = B16.r3.1:=e3.1
  have g4:a4 = B16.r4.1:=e4.1
  have g5:a5 = B16.r5.1:=e5.1
  rw [B16.lin] at f1
  rw [B16.acc] at f2
  rw [f1,f2,f3,g1,g2,g3,g4,g5,hl]
  refine dU (by kernel_rfl) ?_
  refine bM (i:=1) (sp_hist_May s B16.es B16.sz hes) rfl s11 fun r4 h12 f4 s12=>?_
  refine dU (f4.trans B16.apart) ?_
  refine xw (i:=1) (sp_hist_Order20 s B16.es hes20 (Hist.may_apart B16.apart)) rfl s12 fun o h13 s13=>?_
  have hol:((o.len:Int) == 5) = true:=by rw [(cf (j:=0) s13 rfl).1]; kernel_rfl
  refine dU (by rw [hol,htl]; rfl) ?_
  refine bM (i:=1) (sp_fair_Fair t _ 2 5 (by decide) (by decide)) rfl s13 fun r5 h14 f5 s14=>?_
  refine dU (f5.trans (by kernel_rfl)) ?_
  refine xw (i:=2) (sp_twin_View s B16.es 0 hes) rfl s14 fun v h15 s15=>?_
  have hvl:((v.len:Int) == 5) = true:=by rw [(cf (j:=0) s15 rfl).1]; kernel_rfl
  refine dU hvl ?_
  refine bM (i:=3) (sp_judge_Right s B16.es B16.sz (by decide) hes (ord20 s hes20)) rfl s15 fun r6 h16 f6 s16=>?_
  exact aW (f6.trans B16.rgt) (cc (l:=[_,_,_,_,_]) s16)
end Go.Proofs.YtmggcfijlpldpaaGreatDoor
namespace Go.Proofs.YtmggcfijlpldpaaGreatDoor
open Go Mb
theorem star_imp {l:List As} {i:Nat} {A B:As} {h:Hp} (hi:l[i]? = some A) (ab:∀ h,A h→B h) (s:aG l h):aG (l.set i B) h:=by
  obtain ⟨h1,h2,d,e,a,s'⟩:=fq hi s
  exact dM (List.getElem?_eq_some_iff.1 hi).1 ⟨h1,h2,d,e,ab _ a,s'⟩
theorem sliceTo_v {τ:Type} {P:Program} {l:List As} {h:Hp} {S T m bys i:Nat} {z:List Value} {enc:τ→List Value} {R:Sl→Value} {s:Sl} {xs:List τ} {n:Nat} {K:Sl→Hp→Prop} (E:El P S T m bys z) (he:∀ x,(enc x).length = m) (hR:R = sv) (st:aG l h) (hi:l[i]? = some (vec T m enc s xs)) (hn:n ≤ xs.length)
    (k:∀ v,v.len = n→(∀ h',vec T m enc v (xs.take n) h'→vec T m enc s xs h')→aG (l.set i (vec T m enc v (xs.take n))) h→K v h):hpv P (Instr.sliceAt S (sv s) none (some (.int .i64 n)) none) R K h:=by
  subst hR
  have hilt:=(List.getElem?_eq_some_iff.1 hi).1
  obtain ⟨e1,_⟩:=cf st hi
  have hcap:s.len ≤ s.cap:=by
    obtain ⟨_,⟨_,e2,_⟩,_⟩:=dS hi st
    exact e2
  have fin:∀ (v:Sl),v.a = s.a→v.len = n→v.cap = s.cap→(∀ h',vec T m enc v (xs.take n) h'→vec T m enc s xs h')→aG (l.set i (vec T m enc v (xs.take n))) h→hpv P (Instr.sliceAt S (sv s) none (some (.int .i64 n)) none) sv K h:=by
    intro v va vl vc vb vs
    have ev:sv (sub m s 0 n) = sv v:=by
      unfold sub sv
      rw [va,vl,vc]
      cases s.a with
      | none=>split <;> rfl
      | some q=>simp [pa]
    have H:=slice_raw (P:=P) (h:=h) (m:=m) (s:=s) (lo:=0) (hi:=n) (vlo:=none) (vhi:=some (.int .i64 n)) (R:=sv) (K:=fun r h'=>sv r = sv v∧h' = h) E rfl (.inr ⟨rfl,rfl⟩) (.inl rfl) (Nat.zero_le _) (by omega) ⟨ev,rfl⟩
    exact ⟨hp_mono _ (fun x h' ⟨r,e,e2,e3⟩=>⟨v,e.trans e2,by subst e3; exact k v vl vb vs⟩) _ H.go⟩
  obtain ⟨g1,g2,d,rfl,⟨f1,f2,f3⟩,s'⟩:=fq hi st
  rcases f3 with f3 | ⟨b,pre,rest,U,fr,f4,f5,f6,f7⟩
  · refine fin ⟨s.a,n,s.cap,none⟩ rfl rfl rfl (fun h' _=>⟨f1,f2,.inl f3⟩) (dM hilt ⟨g1,g2,d,rfl,⟨?_,?_,.inl f3⟩,s'⟩)
    · show n = _; simp; omega
    · show n ≤ s.cap; omega
  · have hfl:(xs.take n).flatMap enc++((xs.drop n).flatMap enc++rest) = xs.flatMap enc++rest:=by
      rw [← List.append_assoc,← List.flatMap_append,List.take_append_drop]
    have hdl:((xs.drop n).flatMap enc).length = (xs.length - n) * m:=by rw [dO he]; simp
    refine fin ⟨s.a,n,s.cap,some (pre,(xs.drop n).flatMap enc++rest,U,fr)⟩ rfl rfl rfl ?_ (dM hilt ⟨g1,g2,d,rfl,⟨?_,?_,.inr ⟨b,pre,(xs.drop n).flatMap enc++rest,U,fr,f4,?_,⟨rfl,(show nf fr pre.length (s.cap * m) from gh_nf f6)⟩,?_⟩⟩,s'⟩)
    · rintro h' ⟨a1,a2,a3⟩
      refine ⟨f1,f2,?_⟩
      rcases a3 with a3 | ⟨b',pre',rest',U',fr',c1,c2,c3,c4⟩
      · exact .inl a3
      · refine .inr ⟨b,pre,rest,U,fr,f4,f5,f6,?_⟩
        obtain ⟨c5,_⟩:=c3
        simp only [Prod.mk.injEq] at c5
        obtain ⟨rfl,rfl,rfl,rfl⟩:=c5
        have c1':s.a = some (b',pre.length):=c1
        rw [f4] at c1'
        simp only [Option.some.injEq,Prod.mk.injEq] at c1'
        obtain ⟨rfl,_⟩:=c1'
        rw [hfl] at c4
        exact c4
    · show n = _; simp; omega
    · show n ≤ s.cap; omega
    · show s.cap * m ≤ n * m + _
      rw [List.length_append,hdl,Nat.sub_mul]
      have:n * m ≤ xs.length * m:=Nat.mul_le_mul_right m hn
      rw [f1] at f5
      omega
    · rw [hfl]; exact f7
end Go.Proofs.YtmggcfijlpldpaaGreatDoor
namespace Go.Proofs.YtmggcfijlpldpaaGreatDoor
open Go Mb
theorem sp_Cut (s:Sl) (ps:List qW) (n:Int) (hn:0 ≤ n) (hn2:n < 2 ^ 40):Sp Tryz.prog mB [sv s,.int .i64 n] gV [vK s ps] (fun r=>pa_ (∀ h',vK r (ps.take n.toNat) h'→vK s ps h') [vK r (ps.take n.toNat)]):=by
  intro h st
  refine sim_messuagelaw16_Cut _ _ ?_
  unfold qJ
  have hl:=(cf (j:=0) st rfl).1
  have hm:mn (s.len:Int) n = ((min ps.length n.toNat:Nat):Int):=by unfold mn; rw [hl]; split <;> omega
  rw [hm]
  refine sliceTo_v (i:=0) xu tc rfl st rfl (Nat.min_le_left _ _) fun v _ hb s1=>?_
  have ht:ps.take (min ps.length n.toNat) = ps.take n.toNat:=by
    rcases Nat.le_total ps.length n.toNat with h1 | h1
    · rw [Nat.min_eq_left h1,List.take_of_length_le (Nat.le_refl _),List.take_of_length_le h1]
    · rw [Nat.min_eq_right h1]
  rw [ht] at hb s1
  exact aW hb s1
end Go.Proofs.YtmggcfijlpldpaaGreatDoor
namespace Go.Proofs.YtmggcfijlpldpaaGreatDoor
open Go Mb Go.ChangeShapes Go.WideShapes Go.RowKit
theorem Tryz.own:ownKnob Tryz.prog.godebug = none:=by kernel_rfl
theorem Tryz.et:Tryz.prog.globalNamed "errors.errorType" = some 0:=by kernel_rfl
theorem Tryz.rt:(Tryz.prog.cutTypes.find? (·.1 == "internal/reflectlite.rtype")).map (·.2) = some rr:=by kernel_rfl
abbrev laid:List (String × DataW Unit) := [("errors.errorType",Rows.laid_errors_errorType)]
theorem block_of_laid {W:World} (h:laidMetH Tryz.prog laid W):∃ T F,W.heap[0]? = some (.cells #[rtV gj] T F):=by
  have h':laidMet Tryz.prog [] W∧handlesMet Tryz.prog laid W:=h
  obtain ⟨name,u,ty,e1,e2,e3,e4,e5⟩:=h'.2 _ (List.mem_singleton.2 rfl)
  have en:name = [101,114,114,111,114]:=(Option.some.inj e1).symm
  subst en
  obtain rfl:=Option.some.inj (Tryz.rt.symm.trans e2)
  have hm:ty ∈ (List.range 350).filter fun t=>Tryz.prog.rowNamed t [101,114,114,111,114]:=List.mem_filter.2 ⟨List.mem_range.2 (by rw [← g4]; exact e3),e4⟩
  rw [oneErr] at hm
  obtain rfl:=List.mem_singleton.1 hm
  have hh:typeHandle Tryz.prog 195 = .pointer (some ⟨4,195,none⟩):=by kernel_rfl
  rw [hh] at e5
  unfold World.var? at e5
  rw [Tryz.et] at e5
  simp only [Option.bind_some] at e5
  split at e5
  · rename_i cs T F hq
    cases e5
    exact ⟨T,F,hq⟩
  · cases e5
noncomputable def laidWorld (os:Os):World :=
  let w0:=World.holding Tryz.prog os ⟨#[],#[],[]⟩
  { w0 with heap:=w0.heap.modify 0 fun
      | .cells _ t frozen=>.cells #[rtV gj] t frozen
      | o=>o }
theorem laidWorld_met (os:Os) (args:Array Value):laidMetH Tryz.prog laid ((laidWorld os).forCall (fun _ _=>0) ⟨#[],args,[]⟩).memory :=
  laidMetH_of_parts (laidMet_nil _ _) (by kernel_rfl)
theorem keptBut_same {w w':World} {may:MemPlace→Prop} (h1:w'.os = w.os) (h2:w'.output = w.output) (h:∀ i,i < w.heap.size→w'.heap[i]? = w.heap[i]?):w.keptBut w' may:=by
  refine ⟨h1,h2,fun i hi=>?_⟩
  have:=(World.keptBut_refl w may).2.2 i hi
  rw [h i hi]
  exact this
def kindsB (P:Program) (fn:Func) (c:OpenClaim):Bool:=c.kinds == (if c.domain.isEmpty then [] else fn.params.toList.map fun t=>match P.underlying t with | some (.int k)=>some k | _=>none)
theorem joined_split {P:Program} {f:FuncId} {fn:Func} {s:ChangeSpec} {c:OpenClaim} (h1:(c.wf (OpenSpec.ofChange s) && laidOutB P && mapsRowed P) = true)
    (h2:(fn.params.all (P.readableRec ·) && namedTie P c.named s.vars && (c.stops == []) && (P.stops == []) && (c.knobs == []) && (P.stopKnobs == [])) = true)
    (h3:(c.inPlace == P.inPlace f) = true) (h4:(c.unfollowed == P.unfollowed f) = true) (h5:(c.recurses == P.recurses f) = true) (h6:(c.named == P.varsNamed f) = true)
    (h7:((c.maps == (fn.params.toList++s.plain.varTypes P).any (P.mapsRec ·)) && (c.ifaces == (fn.params.toList++s.plain.varTypes P).any (P.ifacesRec ·)) && (c.mapsOut == P.mapsAmong fn.resultTypes.toList) &&
  (c.loops == (fn.params.toList++s.plain.varTypes P).any (P.loopsFrom ·)) && (c.wideKeys == (fn.params.toList++s.plain.varTypes P++fn.resultTypes.toList).any (P.wideKeysFrom ·)) &&
  s.vars.all (P.varReadable ·) && fn.resultTypes.all (fun t=>P.readableRec t && decide (t < P.types.size)) && (c.ifacesOut == fn.resultTypes.toList.any (P.ifacesRec ·)) && (c.loopsOut == fn.resultTypes.toList.any (P.loopsFrom ·))) = true)
    (h8:(c.plainKeys == P.plainKeys) = true) (h9:(c.shortTexts.isNone && P.stopsHeard && P.mayEnter && (c.lifted == P.liftsFinal) && (P.make == some c.make) && kindsB P fn c && (c.pinned == c.pinnedBy) &&
  (c.veiled == (fn.params.toList++s.plain.varTypes P++fn.resultTypes.toList).any (P.veiledRec ·)) && c.veiledFits P fn.params.toList (fn.params.toList++s.plain.varTypes P++fn.resultTypes.toList)) = true):joinedFacts P f fn s c = true:=by
  unfold joinedFacts
  unfold kindsB at h9
  rw [Bool.and_eq_true] at h1 h2 h7 h9
  simp only [Bool.and_eq_true] at h1 h2 h7 h9
  obtain ⟨⟨a1,a2⟩,a3⟩:=h1
  obtain ⟨⟨⟨⟨⟨b1,b2⟩,b3⟩,b4⟩,b5⟩,b6⟩:=h2
  obtain ⟨⟨⟨⟨⟨⟨⟨⟨c1,c2⟩,c3⟩,c4⟩,c5⟩,c6⟩,c7⟩,c8⟩,c9⟩:=h7
  obtain ⟨⟨⟨⟨⟨⟨⟨⟨d1,d2⟩,d3⟩,d4⟩,d5⟩,d6⟩,d7⟩,d8⟩,d9⟩:=h9
  simp only [Bool.and_eq_true]
  exact ⟨⟨⟨⟨⟨⟨⟨⟨⟨⟨⟨⟨⟨⟨⟨⟨⟨⟨⟨⟨⟨⟨⟨⟨⟨⟨⟨⟨⟨⟨⟨a1,a2⟩,a3⟩,b1⟩,b2⟩,b3⟩,b4⟩,b5⟩,b6⟩,h3⟩,h4⟩,h5⟩,h6⟩,c1⟩,c2⟩,c3⟩,c4⟩,c5⟩,c6⟩,c7⟩,c8⟩,c9⟩,h8⟩,d1⟩,d2⟩,d3⟩,d4⟩,d5⟩,d6⟩,d7⟩,d8⟩,d9⟩
end Go.Proofs.YtmggcfijlpldpaaGreatDoor
namespace Go.Proofs.YtmggcfijlpldpaaGreatDoor
open Go Mb Go.ChangeShapes Go.WideShapes Go.RowKit
inductive FK where
  | i (k:IntKind)
  | b
def FK.ok:FK→Value→Prop
  | .i k,v=>∃ n,v = .int k n∧(Lit.int k n).wf = true
  | .b,v=>∃ x,v = .bool x
def qX:List FK→List Value→Prop
  | [],[]=>True
  | k::ks,v::vs=>k.ok v∧qX ks vs
  | _,_=>False
theorem qX.app:∀ {ks ls:List FK} {vs ws:List Value},qX ks vs→qX ls ws→qX (ks++ls) (vs++ws)
  | [],_,[],_,_,h=>h
  | _::_,_,_::_,_,h,g=>⟨h.1,h.2.app g⟩
  | [],_,_::_,_,h,_=>h.elim
  | _::_,_,[],_,h,_=>h.elim
theorem qX.len:∀ {ks:List FK} {vs:List Value},qX ks vs→vs.length = ks.length
  | [],[],_=>rfl
  | _::_,_::_,h=>by simp [h.2.len]
  | [],_::_,h=>h.elim
  | _::_,[],h=>h.elim
def fldK (P:Program) (r:TypeId→Option (List FK)):Nat→List Field→Option (List FK)
  | _,[]=>some []
  | o,f::fs=>if f.offset = o then (r f.type).bind fun ks=>if ks.length = P.cellsOf f.type then (fldK P r (o + ks.length) fs).map (ks++·) else none else none
def flatK (P:Program):Nat→TypeId→Option (List FK)
  | 0,_=>none
  | n + 1,t=>match P.underlying t with
    | some (.int k)=>some [.i k]
    | some .bool=>some [.b]
    | some (.struct fs)=>(fldK P (flatK P n) 0 fs.toList).bind fun ks=>if ks.length = P.cellsOf t then some ks else none
    | some (.array m e)=>(flatK P n e).bind fun ks=>if ks.length = P.cellsOf e∧m * ks.length = P.cellsOf t then some (List.replicate m ks).flatten else none
    | _=>none
section
variable {H:Type} {enc:TypeId × Value→H} {P:Program} {W:World} {base:Nat} {sp:Nat→Bool} {held:Bool}
theorem trod_array {t e m fuel:Nat} {cs:List Value} {x:DataW H × List MemPlace} (ht:P.underlying t = some (.array m e)) (h:DataW.trod enc P W base sp held fuel t cs = some x) :
    ∃ (xs:List (DataW H × List MemPlace)) (n:Nat),fuel = n + 1∧x = (.agg (xs.map (·.1)),xs.flatMap (·.2))∧cs.length = P.cellsOf t∧xs.length = m ∧
      ∀ i,i < m→DataW.trod enc P W base sp held n e ((cs.drop (i * P.cellsOf e)).take (P.cellsOf e)) = xs[i]?:=by
  cases fuel with
  | zero=>simp [DataW.trod] at h
  | succ n =>
    unfold DataW.trod at h
    rw [ht] at h
    split at h <;> simp_all
    obtain ⟨hl,xs,hp,hd⟩:=h
    refine ⟨xs,hd.symm,by simpa using mapM_some_length hp,fun i hi=>mapM_some_get hp i i (by simp [hi])⟩
theorem flatMap_nil {α β:Type} {f:α→List β} {xs:List α} (h:∀ x ∈ xs,f x = []):xs.flatMap f = []:=by
  rw [List.flatMap_eq_nil_iff]; exact h
theorem take_drop_take (cs:List Value) (o n:Nat):(cs.drop o).take n++cs.drop (o + n) = cs.drop o:=by
  rw [← List.drop_drop,List.take_append_drop]
theorem fld_fits {r:TypeId→Option (List FK)} {cs:List Value} {g:TypeId→List Value→Option (DataW H × List MemPlace)} (hr:∀ t ks cs x,r t = some ks→g t cs = some x→qX ks cs∧x.2 = []) :
    ∀ (fs:List Field) (o:Nat) (ks:List FK),fldK P r o fs = some ks→(∀ f ∈ fs,∃ x,g f.type ((cs.drop f.offset).take (P.cellsOf f.type)) = some x)→o + ks.length = cs.length→qX ks (cs.drop o)
  | [],o,ks,h,_,hl=>by
    simp only [fldK,Option.some.injEq] at h
    subst h
    have:cs.drop o = []:=List.drop_eq_nil_of_le (by simp at hl; omega)
    rw [this]; trivial
  | f::fs,o,ks,h,hx,hl=>by
    unfold fldK at h
    split at h
    · rename_i ho
      obtain ⟨ks1,h1,h2⟩:=Option.bind_eq_some_iff.1 h
      split at h2
      · rename_i hc
        obtain ⟨ks2,h3,rfl⟩:=Option.map_eq_some_iff.1 h2
        obtain ⟨x,hx1⟩:=hx f (by simp)
        have f1:=(hr _ _ _ _ h1 hx1).1
        have f2:=fld_fits hr fs (o + ks1.length) ks2 h3 (fun f' hf'=>hx f' (by simp [hf'])) (by simp at hl; omega)
        rw [ho,← hc] at f1
        have:=f1.app f2
        rwa [take_drop_take] at this
      · cases h2
    · cases h
theorem arr_fits {ks:List FK} {c:Nat} (hc:ks.length = c):∀ (m:Nat) (cs:List Value),cs.length = m * c→(∀ i,i < m→qX ks ((cs.drop (i * c)).take c))→qX (List.replicate m ks).flatten cs
  | 0,cs,hl,_=>by
    have:cs = []:=List.eq_nil_of_length_eq_zero (by simpa using hl)
    subst this; trivial
  | m + 1,cs,hl,h=>by
    rw [List.replicate_succ,List.flatten_cons]
    have h0:=h 0 (by omega)
    simp only [Nat.zero_mul,List.drop_zero] at h0
    have h1:=arr_fits hc m (cs.drop c) (by rw [List.length_drop,hl,Nat.succ_mul]; omega) (fun i hi=>by
      have:=h (i + 1) (by omega)
      rwa [List.drop_drop,Nat.add_comm,← Nat.succ_mul])
    have:=h0.app h1
    rwa [List.take_append_drop] at this
theorem trod_flat:∀ (n t:Nat) (ks:List FK),flatK P n t = some ks→∀ (fuel:Nat) (cs:List Value) (x:DataW H × List MemPlace),DataW.trod enc P W base sp held fuel t cs = some x→qX ks cs∧x.2 = []
  | 0,_,_,h,_,_,_,_=>by cases h
  | n + 1,t,ks,h,fuel,cs,x,hx=>by
    have ih:=trod_flat n
    unfold flatK at h
    split at h
    · rename_i k hu
      cases h
      obtain ⟨m,rfl,rfl,hw⟩:=DataW.trod_int hu hx
      exact ⟨⟨⟨m,rfl,hw⟩,trivial⟩,rfl⟩
    · rename_i hu
      cases h
      obtain ⟨b,rfl,rfl⟩:=DataW.trod_bool hu hx
      exact ⟨⟨⟨b,rfl⟩,trivial⟩,rfl⟩
    · rename_i fs hu
      obtain ⟨ks',h1,h2⟩:=Option.bind_eq_some_iff.1 h
      split at h2
      · rename_i hc
        cases h2
        obtain ⟨xs,f,rfl,rfl,hl,hxl,hi⟩:=DataW.trod_struct hu hx
        have hall:∀ fl ∈ fs.toList,∃ x,DataW.trod enc P W base sp held f fl.type ((cs.drop fl.offset).take (P.cellsOf fl.type)) = some x:=by
          intro fl hfl
          obtain ⟨i,hi1,hi2⟩:=List.getElem_of_mem hfl
          have:=hi i fl (by rw [← Array.getElem?_toList,List.getElem?_eq_getElem hi1,hi2])
          have hlt:i < xs.length:=by rw [hxl]; simpa using hi1
          rw [List.getElem?_eq_getElem hlt] at this
          exact ⟨_,this⟩
        refine ⟨?_,flatMap_nil fun y hy=>?_⟩
        · have:=fld_fits (P:=P) (cs:=cs) (fun t ks cs x h=>ih t ks h f cs x) fs.toList 0 ks h1 hall (by rw [hc,hl]; omega)
          simpa using this
        · obtain ⟨i,hi1,rfl⟩:=List.getElem_of_mem hy
          have hif:i < fs.size:=by rw [← hxl]; exact hi1
          have h3:=hi i fs[i] (by simp [hif])
          rw [List.getElem?_eq_getElem hi1] at h3
          have key:∀ (l:List Field) (o:Nat) (ks:List FK),fldK P (flatK P n) o l = some ks→∀ fl ∈ l,∃ ks,flatK P n fl.type = some ks:=by
            intro l
            induction l with
            | nil=>intro _ _ _ fl h; cases h
            | cons a l ihl =>
              intro o ks hk fl hfl
              unfold fldK at hk
              split at hk
              · obtain ⟨k1,hk1,hk2⟩:=Option.bind_eq_some_iff.1 hk
                rcases List.mem_cons.1 hfl with rfl | hfl
                · exact ⟨_,hk1⟩
                · split at hk2
                  · obtain ⟨k2,hk3,_⟩:=Option.map_eq_some_iff.1 hk2
                    exact ihl _ _ hk3 fl hfl
                  · cases hk2
              · cases hk
          obtain ⟨ks2,hks2⟩:=key _ _ _ h1 fs[i] (by simp)
          exact (ih _ _ hks2 _ _ _ h3).2
      · cases h2
    · rename_i m e hu
      obtain ⟨ks',h1,h2⟩:=Option.bind_eq_some_iff.1 h
      split at h2
      · rename_i hc
        cases h2
        obtain ⟨xs,f,rfl,rfl,hl,hxl,hi⟩:=trod_array hu hx
        have hat:∀ i,i < m→∃ x,xs[i]? = some x∧DataW.trod enc P W base sp held f e ((cs.drop (i * P.cellsOf e)).take (P.cellsOf e)) = some x:=fun i him=>by
          have:=hi i him
          rw [List.getElem?_eq_getElem (by omega)] at this
          exact ⟨_,List.getElem?_eq_getElem (by omega),this⟩
        refine ⟨arr_fits (by exact hc.1) m cs (by rw [hl,← hc.2,hc.1]) (fun i him=>?_),flatMap_nil fun y hy=>?_⟩
        · obtain ⟨x,_,hx2⟩:=hat i him
          exact (ih _ _ h1 _ _ _ hx2).1
        · obtain ⟨i,hi1,rfl⟩:=List.getElem_of_mem hy
          obtain ⟨x,hx1,hx2⟩:=hat i (by omega)
          rw [List.getElem?_eq_getElem hi1] at hx1
          cases hx1
          exact (ih _ _ h1 _ _ _ hx2).2
      · cases h2
    · cases h
end
structure Arg {τ:Type} (W:World) (m:Nat) (enc:τ→List Value) (s:Sl) (xs:List τ):Prop where
  len:s.len = xs.length
  cap:s.len ≤ s.cap
  row:s.cap = 0∨∃ b pre rest U fr,s.a = some (b,pre.length)∧s.cap * m ≤ s.len * m + rest.length∧s.g = some (pre,rest,U,fr)∧nf fr pre.length (s.cap * m)∧b ≠ 0∧W.heap[b]? = some (.cells (pre++(xs.flatMap enc++rest)).toArray U fr)
section
variable {H:Type} {enc:TypeId × Value→H} {P:Program} {W:World}
theorem has_spot {r:Reach} {b0:Nat} {t e:TypeId} {a:Addr} {len cap:Nat} (ht:P.underlying t = some (.slice e)) (h:Value.okWide P W r b0 t (.slice (some a) len cap)):a.spot = none∧∃ c T fr,W.heap[a.block]? = some (.cells c T fr):=by
  unfold Value.okWide at h
  rw [ht] at h
  unfold Cell.okWide at h
  rw [ht] at h
  simp only at h
  unfold Cell.ok at h
  rw [ht] at h
  simp only at h
  obtain ⟨_,_,_,hs,row,cells,h1,_⟩:=h
  refine ⟨hs,?_⟩
  unfold World.shape? at h1
  split at h1
  · rename_i c T fr hq
    exact ⟨_,_,_,hq⟩
  · cases h1
theorem open_arg {τ:Type} {b0 m:Nat} {t e:TypeId} {ks:List FK} {enc':τ→List Value} {v:Value} {d:DataW H} {ps:List MemPlace} {ET:Nat} {EF:Nat × Nat} {X:Value} (ht:P.underlying t = some (.slice e)) (hm:P.cellsOf e = m) (hk:flatK P 9 e = some ks) (hpos:0 < m)
    (dec:∀ cs,qX ks cs→∃ x:τ,enc' x = cs) (hval:Value.okWide P W .any b0 t v) (hd:DataW.Trod enc P W 0 (fun _=>true) true t v d ps) (hz:W.noneFrozen ps)
    (hw:W.heap[0]? = some (.cells #[X] ET EF)) (hX:∀ k,¬ FK.ok k X):∃ (s:Sl) (xs:List τ),v = sv s∧Arg W m enc' s xs:=by
  obtain ⟨a0,len0,lE,rfl⟩:=okWide_slice ht hval
  obtain ⟨fuel,hf⟩:=hd
  rcases Go.Deep.open_slice ht hf with ⟨h1,_⟩ | ⟨a,len,cap,mm,n,D,Pl,h1,_,hl,_,hmm,hx,hi⟩
  · simp only [Value.cells,List.cons.injEq,Value.slice.injEq,and_true] at h1
    obtain ⟨rfl,rfl,rfl⟩:=h1
    exact ⟨⟨none,0,0,none⟩,[],rfl,rfl,Nat.le_refl _,.inl rfl⟩
  · simp only [Value.cells,List.cons.injEq,Value.slice.injEq,and_true] at h1
    obtain ⟨rfl,rfl,rfl⟩:=h1
    simp only [if_true] at hmm
    subst hmm
    obtain ⟨hs,c,T,fr,hb⟩:=has_spot ht hval
    obtain ⟨b,off,spot⟩:=a
    simp only at hs hb
    subst hs
    by_cases hc0:mm = 0
    · subst hc0
      obtain rfl:len0 = 0:=by omega
      exact ⟨⟨some (b,off),0,0,none⟩,[],rfl,rfl,Nat.le_refl _,.inl rfl⟩
    rw [hm] at hi hx
    have kU:∀ i,i < mm→∃ x:τ,(enc' x).length = m∧qX ks (enc' x)∧∀ j,j < m→c.toList[off + i * m + j]? = (enc' x)[j]?:=by
      intro i him
      obtain ⟨cs',h2,h3⟩:=hi i him
      obtain ⟨_,hlen,hget⟩:=World.cells?_some h2
      have hfit:=(trod_flat 9 e ks hk _ _ _ h3).1
      obtain ⟨x,rfl⟩:=dec cs' hfit
      refine ⟨x,hlen,hfit,fun j hj=>?_⟩
      have:=hget j hj
      rw [WideShapes.add_plain,WideShapes.add_plain] at this
      rw [← this]
      unfold World.cell?
      rw [hb]
      simp
    have hsize:off + mm * m ≤ c.toList.length:=by
      obtain ⟨x,hxl,_,hj⟩:=kU (mm - 1) (by omega)
      have h4:=hj (m - 1) (by omega)
      have h5:=(List.getElem?_eq_some_iff.1 (h4.trans (List.getElem?_eq_getElem (by omega)))).1
      have:mm * m = (mm - 1) * m + m:=by rw [← Nat.succ_mul]; congr 1; omega
      omega
    have hflat:∀ k,k ≤ mm→∃ ys:List τ,ys.length = k∧(c.toList.drop off).take (k * m) = ys.flatMap enc':=by
      intro k
      induction k with
      | zero=>exact fun _=>⟨[],rfl,by simp⟩
      | succ k ih =>
        intro hk1
        obtain ⟨ys,hy1,hy2⟩:=ih (by omega)
        obtain ⟨x,hxl,_,hj⟩:=kU k (by omega)
        refine ⟨ys++[x],by simp [hy1],?_⟩
        rw [Nat.succ_mul,List.take_add,hy2,List.flatMap_append]
        congr 1
        simp only [List.flatMap_cons,List.flatMap_nil,List.append_nil]
        apply List.ext_getElem?
        intro j
        rw [List.drop_drop,List.getElem?_take,List.getElem?_drop]
        by_cases hjm:j < m
        · rw [if_pos hjm,← hj j hjm]
        · rw [if_neg hjm,List.getElem?_eq_none (by omega)]
    obtain ⟨xs,hx1,hx2⟩:=hflat len0 hl
    have hlm:len0 * m ≤ mm * m:=Nat.mul_le_mul_right m hl
    refine ⟨⟨some (b,off),len0,mm,some (c.toList.take off,c.toList.drop (off + len0 * m),T,fr)⟩,xs,rfl,hx1.symm,hl,.inr ⟨b,c.toList.take off,c.toList.drop (off + len0 * m),T,fr,?_,?_,rfl,?_,?_,?_⟩⟩
    · rw [List.length_take,Nat.min_eq_left (by omega)]
    · show mm * m ≤ len0 * m + _
      rw [List.length_drop]; omega
    · rw [List.length_take,Nat.min_eq_left (by omega)]
      intro j j1 j2
      have j2':j < off + mm * m:=j2
      have hp:MemPlace.cell b j ∈ ps:=by
        have hps:=congrArg Prod.snd hx
        simp only at hps
        rw [hps]
        refine List.mem_append_left _ (List.mem_map.2 ⟨j - off,List.mem_range.2 (by omega),?_⟩)
        show MemPlace.cell b (off + (j - off)) = _
        congr 1; omega
      have:=hz b j hp
      unfold World.frozen? at this
      simp only [hb] at this
      exact this
    · rintro rfl
      rw [hw] at hb
      cases hb
      obtain ⟨x,hxl,hfit,hj⟩:=kU 0 (by omega)
      have h4:=hj 0 hpos
      simp only [Nat.zero_mul,Nat.add_zero] at h4
      cases hks:ks with
      | nil=>subst hks; have:=hfit.len; simp at this; simp [this] at hxl; omega
      | cons k ks' =>
        subst hks
        cases hex:enc' x with
        | nil=>rw [hex] at hxl; simp at hxl; omega
        | cons y ys =>
          rw [hex] at hfit h4
          simp only [List.getElem?_cons_zero] at h4
          have h5:y = X:=by
            cases off with
            | zero=>simpa using h4.symm
            | succ o=>simp at h4
          exact hX k (h5 ▸ hfit.1)
    · rw [hb]
      congr 2
      apply Array.ext'
      show c.toList = c.toList.take off++(xs.flatMap enc'++c.toList.drop (off + len0 * m))
      rw [← hx2,← List.drop_drop,List.take_append_drop,List.take_append_drop]
theorem open_struct {b0:Nat} {t:TypeId} {fs:Array Field} {ks:List FK} {v:Value} {d:DataW H} {ps:List MemPlace} (ht:P.underlying t = some (.struct fs)) (hk:flatK P 9 t = some ks) (hval:Value.okWide P W .any b0 t v) (hd:DataW.Trod enc P W 0 (fun _=>true) true t v d ps):∃ cs:List Value,v = .agg cs.toArray∧qX ks cs:=by
  obtain ⟨cs,rfl,_⟩:=okWide_struct ht hval
  obtain ⟨fuel,hf⟩:=hd
  exact ⟨cs.toList,by simp,(trod_flat 9 t ks hk _ _ _ hf).1⟩
theorem trodAll_stays (hl:laidOutB P = true) {W':World} {sp':Nat→Bool}:∀ {ts:List TypeId} {vs:List Value} {ds:List (DataW H)} {ps:List MemPlace},(∀ t ∈ ts,P.readableRec t = true∧t < P.types.size) →
    DataW.TrodAll enc P W 0 (fun _=>true) true ts vs ds ps→(∀ p ∈ ps,W.sameAt W' p)→(∀ p ∈ ps,sp' p.block = true)→DataW.TrodAll enc P W' 0 sp' true ts vs ds ps
  | [],_,_,_,_,h,_,_=>by
    obtain ⟨rfl,rfl,rfl⟩:=trodAll_nil h
    rfl
  | t::ts,_,_,_,hr,h,hs,hp=>by
    obtain ⟨v,vs,d,ds,a,b,rfl,rfl,rfl,h1,h2⟩:=trodAll_cons h
    exact ⟨a,b,Go.WideElems.Trod_stays hl (hr t (by simp)).1 (hr t (by simp)).2 h1 (fun p q=>hs p (by simp [q])) (fun p q=>hp p (by simp [q])),trodAll_stays hl (fun t q=>hr t (by simp [q])) h2 (fun p q=>hs p (by simp [q])) (fun p q=>hp p (by simp [q])),rfl⟩
end
end Go.Proofs.YtmggcfijlpldpaaGreatDoor
namespace Go.Proofs.YtmggcfijlpldpaaGreatDoor
open Go Mb Go.ChangeShapes Go.WideShapes Go.RowKit
theorem no_iface (k:FK):¬ FK.ok k (rtV gj):=by
  cases k with
  | i k=>rintro ⟨n,h,_⟩; cases h
  | b=>rintro ⟨x,h⟩; cases h
theorem fit_cons {k:FK} {ks:List FK} {cs:List Value} (h:qX (k::ks) cs):∃ v vs,cs = v::vs∧k.ok v∧qX ks vs:=by
  cases cs with
  | nil=>exact h.elim
  | cons v vs=>exact ⟨v,vs,rfl,h.1,h.2⟩
theorem vW {k:IntKind} {ks:List FK} {cs:List Value} (h:qX (.i k::ks) cs):∃ (n:Int) (vs:List Value),cs = .int k n::vs∧(Lit.int k n).wf = true∧qX ks vs:=by
  obtain ⟨v,vs,rfl,⟨n,rfl,hw⟩,hf⟩:=fit_cons h
  exact ⟨n,vs,rfl,hw,hf⟩
theorem fit_nil {cs:List Value} (h:qX [] cs):cs = []:=by
  cases cs with
  | nil=>rfl
  | cons v vs=>exact h.elim
theorem wf_u {n:Int} (h:(Lit.int .u64 n).wf = true):0 ≤ n∧n < 2 ^ 64:=by
  have:=(Lit.wf_int_iff .u64 n).1 h
  simp [IntKind.has,IntKind.min,IntKind.max,IntKind.signed,IntKind.bits] at this
  omega
theorem Arg.sub {τ:Type} {P:τ→Prop} {W:World} {m:Nat} {C:τ→List Value} {s:Sl} {xs:List {x:τ // P x}} (A:Arg W m (fun x=>C x.1) s xs):Arg W m C s (xs.map (·.1))∧∀ x ∈ xs.map (·.1),P x:=by
  refine ⟨⟨by simpa using A.len,A.cap,?_⟩,fun x hx=>?_⟩
  · have e:(xs.map (·.1)).flatMap C = xs.flatMap (fun x=>C x.1):=by rw [List.flatMap_map]
    rw [e]; exact A.row
  · obtain ⟨y,_,rfl⟩:=List.mem_map.1 hx
    exact y.2
structure Same (W W':World):Prop where
  os:W'.os = W.os
  out:W'.output = W.output
  heap:∀ i,i < W.heap.size→W'.heap[i]? = W.heap[i]?
theorem Same.cell {W W':World} (s:Same W W') {p:MemPlace} (h:p.block < W.heap.size):W.sameAt W' p:=by
  cases p with
  | cell b off =>
    show W'.cell? _ = W.cell? _
    unfold World.cell?
    rw [s.heap b h]
  | map b=>exact s.heap b h
theorem run_spV {τ:Type} {T m:Nat} {enc:τ→List Value} {s:Sl} {xs:List τ} {f:FuncId} {vs:List Value} {ET:Nat} {EF:Nat × Nat} {W:World} (A:Arg W m enc s xs)
    (c:Sp Tryz.prog f vs aA [etB ET EF,vec T m enc s xs] (fun r=>pa_ (r = true) [etB ET EF,vec T m enc s xs])) (hw:W.heap[0]? = some (.cells #[rtV gj] ET EF)) :
    Calls Tryz.prog f vs.toArray W fun e W'=>e = .returned (.bool true)∧Same W W':=by
  have key:∀ (g:Hp),g 0 = none→(∀ b o,g b = some o→W.heap[b]? = some o)→vec T m enc s xs g→(∀ g',vec T m enc s xs g'→∀ b o,g b = some o→g' b = some o) →
      Calls Tryz.prog f vs.toArray W fun e W'=>e = .returned (.bool true)∧Same W W':=by
    intro g g0 gW gv gk
    have hs:Sub (un (dW emp 0 (.cells #[rtV gj] ET EF)) g) W:=by
      intro b o ho
      by_cases hb:b = 0
      · subst hb; rw [un_left (jy _ _ _)] at ho; rw [hw]; exact ho
      · rw [un_right (qc _ _ _ hb)] at ho; exact gW b o ho
    have hd:Dj (dW emp 0 (.cells #[rtV gj] ET EF)) g:=fun b=>by
      by_cases hb:b = 0
      · subst hb; exact .inr g0
      · exact .inl (qc _ _ _ hb)
    have hst:aG [etB ET EF,vec T m enc s xs] (un (dW emp 0 (.cells #[rtV gj] ET EF)) g):=⟨_,_,hd,rfl,jy _ _ _,wl gv⟩
    refine (c _ hst W hs).mono ?_
    rintro e W' ⟨v,h',rfl,⟨r,rfl,q⟩,s',fr⟩
    obtain ⟨rfl,q⟩:=q
    obtain ⟨g1,a1,sub1⟩:=dS (i:=0) (A:=etB ET EF) rfl q
    obtain ⟨g2,a2,sub2⟩:=dS (i:=1) (A:=vec T m enc s xs) rfl q
    refine ⟨rfl,fr.os,fr.out,fun i hi=>?_⟩
    rcases Nat.eq_zero_or_pos i with rfl | hp
    · rw [s' _ _ (sub1 _ _ a1),hw]
    · cases hg:g i with
      | none=>exact fr.same i hi (tR.2 ⟨qc _ _ _ (by omega),hg⟩)
      | some o=>rw [s' _ _ (sub2 _ _ (gk g2 a2 i o hg)),gW i o hg]
  rcases A.row with h0 | ⟨b,pre,rest,U,fr,h1,h2,h3,h4,h5,h6⟩
  · exact key emp rfl (fun b o h=>by cases h) ⟨A.len,A.cap,.inl h0⟩ (fun _ _ b o h=>by cases h)
  · by_cases h0:s.cap = 0
    · exact key emp rfl (fun b o h=>by cases h) ⟨A.len,A.cap,.inl h0⟩ (fun _ _ b o h=>by cases h)
    · refine key (dW emp b (.cells (pre++(xs.flatMap enc++rest)).toArray U fr)) (qc _ _ _ (Ne.symm h5)) ?_ ⟨A.len,A.cap,.inr ⟨b,pre,rest,U,fr,h1,h2,?_,jy _ _ _⟩⟩ ?_
      · intro b' o ho
        unfold dW at ho
        split at ho
        · rename_i hb; subst hb; rw [h6]; exact ho
        · cases ho
      · unfold gh; rw [h3]; exact ⟨rfl,h4⟩
      · rintro g' ⟨_,_,r⟩ b' o ho
        rcases r with r | ⟨c',pre',rest',U',fr',r1,_,r3,r4⟩
        · exact absurd r h0
        · rw [h1] at r1
          unfold gh at r3
          rw [h3] at r3
          obtain ⟨r5,_⟩:=r3
          simp only [Prod.mk.injEq] at r5
          obtain ⟨rfl,rfl,rfl,rfl⟩:=r5
          simp only [Option.some.injEq,Prod.mk.injEq] at r1
          obtain ⟨rfl,_⟩:=r1
          unfold dW at ho
          split at ho
          · rename_i hb; subst hb; cases ho; exact r4
          · cases ho
theorem same_post {H:Type} {enc:TypeId × Value→H} {W W':World} {ts:List TypeId} {vs:List Value} {ds:List (DataW H)} {ps:List MemPlace} {sp:Nat→Bool} (hl:laidOutB Tryz.prog = true) (hr:(ts.all fun t=>Tryz.prog.readableRec t && decide (t < Tryz.prog.types.size)) = true)
    (h:DataW.TrodAll enc Tryz.prog W 0 (fun _=>true) true ts vs ds ps) (hlt:∀ p ∈ ps,p.block < W.heap.size) (s:Same W W') (hs:∀ p ∈ ps,sp p.block = true):DataW.TrodAll enc Tryz.prog W' 0 sp true ts vs ds ps :=
  trodAll_stays hl (fun t ht=>by
    have:=List.all_eq_true.1 hr t ht
    simp only [Bool.and_eq_true,decide_eq_true_eq] at this
    exact this) h (fun p hp=>s.cell (hlt p hp)) hs
theorem want_all {ts:List TypeId} (h:(ts.all fun t=>!(Tryz.prog.wantsStandIn t)) = true) {j:Nat} {t:TypeId} (ht:ts.toArray[j]? = some t):Tryz.prog.wantsStandIn t = false:=by
  have:=List.all_eq_true.1 h t (List.mem_of_getElem? (by simpa using ht))
  simpa using this
end Go.Proofs.YtmggcfijlpldpaaGreatDoor
namespace Go.Proofs.YtmggcfijlpldpaaGreatDoor
open Go Mb
theorem mod_in (x:Int) {n:Int} (h:1 ≤ n∧n ≤ 100):0 ≤ (IntKind.i64.wrap (x.tmod n + n)).tmod n∧(IntKind.i64.wrap (x.tmod n + n)).tmod n < n:=by
  have h1:=Int.tmod_lt_of_pos x (show (0:Int) < n by omega)
  have h2:-n < x.tmod n:=by
    have:=Int.tmod_lt_of_pos (-x) (show (0:Int) < n by omega)
    rw [Int.neg_tmod] at this
    omega
  rw [bP (by omega) (by omega)]
  exact ⟨Int.tmod_nonneg _ (by omega),Int.tmod_lt_of_pos _ (by omega)⟩
end Go.Proofs.YtmggcfijlpldpaaGreatDoor
namespace Go.Proofs.YtmggcfijlpldpaaGreatDoor
open Go Mb
def KK.pick (k:KK) (p:qW):Bool × KK:=if p.fKind = 1 then KK.begin_ k p.fCore p.fEnv p.fCall else if p.fKind = 2 then KK.step k p.fCore else if p.fKind = 3 then KK.post k p.fCore else if p.fKind = 4 then KK.evict k p.fCore p.fSet p.fWay else (false,k)
theorem sp_Do (x:Ptr) (k:KK) (p:qW) (hn:k.now < 2 ^ 36):Sp Tryz.prog np [pv x,.agg p.C.toArray] aA [cM x k] (fun r=>pa_ (r = (KK.pick k p).1) [cM x (KK.pick k p).2]):=by
  intro h st
  refine sim_messuagelaw16_Do _ _ ?_
  unfold rE
  refine aX (fun c=>?_) (fun c=>?_)
  · have c':p.fKind = 1:=by simpa using c
    have e:KK.pick k p = KK.begin_ k p.fCore p.fEnv p.fCall:=by unfold KK.pick; rw [if_pos c']
    rw [e]
    exact bM (i:=0) (sp_kern_Begin x k p.fCore p.fEnv p.fCall (by omega)) rfl st fun r h1 hr s1=>aW hr s1
  · have c1:p.fKind ≠ 1:=by simpa using c
    refine aX (fun c=>?_) (fun c=>?_)
    · have c':p.fKind = 2:=by simpa using c
      have e:KK.pick k p = KK.step k p.fCore:=by unfold KK.pick; rw [if_neg c1,if_pos c']
      rw [e]
      exact bM (i:=0) (sp_kern_Step x k p.fCore (by omega)) rfl st fun r h1 hr s1=>aW hr s1
    · have c2:p.fKind ≠ 2:=by simpa using c
      refine aX (fun c=>?_) (fun c=>?_)
      · have c':p.fKind = 3:=by simpa using c
        have e:KK.pick k p = KK.post k p.fCore:=by unfold KK.pick; rw [if_neg c1,if_neg c2,if_pos c']
        rw [e]
        exact bM (i:=0) (sp_kern_Post x k p.fCore (by omega)) rfl st fun r h1 hr s1=>aW hr s1
      · have c3:p.fKind ≠ 3:=by simpa using c
        refine aX (fun c=>?_) (fun c=>?_)
        · have c':p.fKind = 4:=by simpa using c
          have e:KK.pick k p = KK.evict k p.fCore p.fSet p.fWay:=by unfold KK.pick; rw [if_neg c1,if_neg c2,if_neg c3,if_pos c']
          rw [e]
          exact bM (i:=0) (sp_kern_Evict x k p.fCore p.fSet p.fWay (by omega)) rfl st fun r h1 hr s1=>aW hr s1
        · have c4:p.fKind ≠ 4:=by simpa using c
          have e:KK.pick k p = (false,k):=by unfold KK.pick; rw [if_neg c1,if_neg c2,if_neg c3,if_neg c4]
          rw [e]
          exact aW rfl st
theorem IE.pick {k:KK} (A:IE k) (hn:k.now < 2 ^ 40) {p:qW} (cw:Cw p.fCall):IE (KK.pick k p).2:=by
  unfold KK.pick
  split
  · exact A.begin hn _ _ cw
  · split
    · exact A.step hn _
    · split
      · exact A.post hn _
      · split
        · exact A.evict hn _ _ _
        · exact A
structure Picked (p:qW) (k k':KK):Prop where
  len:k'.calls.length = k.calls.length
  s:k'.p.s = k.p.s
  lo:k.now ≤ k'.now
  now:k'.now ≤ k.now + 1
  calls:∀ (d:Nat) y,k'.calls[d]? = some (some y)→(∃ x,k.calls[d]? = some (some x)∧(x.fc.e0 ≠ 9→y.fc = x.fc))∨(y.fc = p.fCall∧p.fKind = 1)
theorem step_s {k:KK} (c:Int):(KK.step k c).2.p.s = k.p.s:=by
  unfold KK.step
  split
  · rfl
  · split
    · rfl
    · rename_i x _
      unfold KK.work
      split
      · exact (access_keep (KK.tick k) c x).2.2.1
      · split
        · rfl
        · split
          · rfl
          · split
            · exact do_s _ _ _
            · exact do_s _ _ _
theorem pick_picked {k:KK} (A:IE k) (hn:k.now < 2 ^ 38) (p:qW):Picked p k (KK.pick k p).2:=by
  have ht:(KK.tick k).now = k.now + 1:=tick_now A.inv.ok (by omega)
  have hw:IntKind.i64.wrap (k.now + 1) = k.now + 1:=ht
  have same:∀ (d:Nat) y,k.calls[d]? = some (some y)→(∃ x,k.calls[d]? = some (some x)∧(x.fc.e0 ≠ 9→y.fc = x.fc))∨(y.fc = p.fCall∧p.fKind = 1):=fun d y h=>.inl ⟨y,h,fun _=>rfl⟩
  unfold KK.pick
  split
  · rename_i hk
    unfold KK.begin_
    split
    · exact ⟨rfl,rfl,Int.le_refl _,by show k.now ≤ k.now + 1; omega,same⟩
    · refine ⟨by simp,rfl,by show k.now ≤ IntKind.i64.wrap (k.now + 1); omega,by show IntKind.i64.wrap (k.now + 1) ≤ _; omega,fun d y h=>?_⟩
      have h':(k.calls.set p.fCore.toNat (some ⟨k.events.length,p.fEnv,p.fCall,false,0⟩))[d]? = some (some y):=h
      rw [List.getElem?_set] at h'
      split at h'
      · split at h'
        · simp only [Option.some.injEq] at h'
          rw [← h']; exact .inr ⟨rfl,hk⟩
        · cases h'
      · exact same d y h'
  · split
    · by_cases hb:KK.busy k p.fCore = true
      · obtain ⟨hi,x,hx⟩:=busy_is hb
        obtain ⟨n,e,hlt⟩:=nZ hi
        rw [e] at hx ⊢
        have hcx:=kcall_nat hx
        obtain ⟨S,s1,_⟩:=step_stepped A.inv hlt hcx
        have hnn:=KK.step_now A.inv.ok.n0 hn (n:Int)
        refine ⟨S.len,step_s _,hnn.1,hnn.2,fun d y h=>?_⟩
        by_cases ed:d = n
        · subst ed
          refine .inl ⟨x,hcx,fun h9=>?_⟩
          rcases s1 h9 with g | ⟨z,g1,_,g3⟩
          · rw [g] at h; cases h
          · rw [g1] at h; cases h; exact g3
        · rw [S.other d ed] at h; exact same d y h
      · have e:KK.step k p.fCore = (false,k):=by unfold KK.step; rw [if_pos (by simpa using hb)]
        rw [e]
        exact ⟨rfl,rfl,Int.le_refl _,by show k.now ≤ k.now + 1; omega,same⟩
    · split
      · have hnn:=KK.post_now A.inv.ok.n0 hn p.fCore
        have e:(KK.post k p.fCore).2.calls = k.calls∧(KK.post k p.fCore).2.p.s = k.p.s:=by
          unfold KK.post
          split
          · exact ⟨rfl,rfl⟩
          · split <;> exact ⟨rfl,rfl⟩
        exact ⟨by rw [e.1],e.2,hnn.1,hnn.2,by rw [e.1]; exact same⟩
      · split
        · unfold KK.evict
          split
          · exact ⟨rfl,rfl,Int.le_refl _,by show k.now ≤ k.now + 1; omega,same⟩
          · split
            · exact ⟨rfl,rfl,Int.le_refl _,by show k.now ≤ k.now + 1; omega,same⟩
            · exact ⟨rfl,rfl,by show k.now ≤ IntKind.i64.wrap (k.now + 1); omega,by show IntKind.i64.wrap (k.now + 1) ≤ _; omega,same⟩
        · exact ⟨rfl,rfl,Int.le_refl _,by show k.now ≤ k.now + 1; omega,same⟩
theorem size_in (z:io):PK.sized (bW z) = true∧1 ≤ (bW z).fCores∧(bW z).fCores ≤ 4∧1 ≤ (bW z).fEnvs∧(bW z).fEnvs ≤ 3:=by
  have h1:=mod_in z.fCores (n:=4) (by decide)
  have h2:=mod_in z.fEnvs (n:=3) (by decide)
  have h3:=mod_in z.fFrames (n:=6) (by decide)
  rw [fK]
  unfold bW
  dsimp only
  generalize (IntKind.i64.wrap (z.fCores.tmod 4 + 4)).tmod 4 = a at *
  generalize (IntKind.i64.wrap (z.fEnvs.tmod 3 + 3)).tmod 3 = b at *
  generalize (IntKind.i64.wrap (z.fFrames.tmod 6 + 6)).tmod 6 = c at *
  rw [bP (n:=1 + a) (by omega) (by omega),bP (n:=1 + b) (by omega) (by omega),bP (n:=1 + c) (by omega) (by omega)]
  omega
theorem cw_of {p:qW} (h:qX [.i .i64,.i .i64,.i .i64,.i .u64,.i .u64,.i .u64,.i .u64,.i .u64,.i .i64,.i .i64] (ch.C p)):Cw p.fCall:=by
  obtain ⟨_,_,_,⟨n0,e0,w0⟩,⟨n1,e1,w1⟩,⟨n2,e2,w2⟩,⟨n3,e3,w3⟩,⟨n4,e4,w4⟩,_⟩:=h
  injection e0 with _ e0
  injection e1 with _ e1
  injection e2 with _ e2
  injection e3 with _ e3
  injection e4 with _ e4
  exact ⟨by rw [e0]; exact (wf_u w0).1,by rw [e1]; exact (wf_u w1).1,by rw [e2]; exact (wf_u w2).1,by rw [e3]; exact (wf_u w3).1,by rw [e4]; exact (wf_u w4).1⟩
end Go.Proofs.YtmggcfijlpldpaaGreatDoor
namespace Go.Proofs.YtmggcfijlpldpaaGreatDoor
open Go Mb
variable {ET:Nat} {EF:Nat × Nat}
structure Behind (z:io) (n:Nat) (k:KK):Prop where
  ie:IE k
  s:k.p.s = z
  now:k.now ≤ n
theorem Behind.pick {z:io} {n:Nat} {k:KK} (B:Behind z n k) (hn:n < 1000) {p:qW} (cw:Cw p.fCall):Behind z (n + 1) (KK.pick k p).2:=by
  have hk:k.now < 2 ^ 38:=by have:=B.now; omega
  have P:=pick_picked B.ie hk p
  exact ⟨B.ie.pick (by omega) cw,P.s.trans B.s,by have:=P.now; have:=B.now; omega⟩
theorem behind_new {z:io} (h:PK.sized z = true):Behind z 0 (KK.new z):=⟨ie_new h,rfl,Int.le_refl _⟩
theorem Behind.lens {z:io} {n:Nat} {k:KK} (B:Behind z n k):(k.calls.length:Int) = z.fCores∧(k.epochs.1.length:Int) ≤ n∧(k.events.length:Int) ≤ n:=by
  have h1:=B.ie.inv.ok.cl
  have h2:=B.ie.inv.ok.epn
  have h3:=B.ie.inv.ok.evn
  have:=B.now
  rw [← B.s]
  have h5:=fK.1 B.ie.inv.ok.p.sz
  omega
def Awake (k:KK):Prop:=∀ (d:Nat) x,k.calls[d]? = some (some x)→x.fc.e0 ≠ 9
theorem Awake.pick {k:KK} (W:Awake k) (A:IE k) (hn:k.now < 2 ^ 38) {p:qW} (h:p.fKind ≠ 1∨p.fCall.e0 ≠ 9):Awake (KK.pick k p).2:=by
  intro d y hy
  rcases (pick_picked A hn p).calls d y hy with ⟨x,hx,e⟩ | ⟨e,hk⟩
  · have h9:=W d x hx
    rw [e h9]; exact h9
  · rw [e]
    rcases h with h | h
    · exact absurd hk h
    · exact h
theorem sp_KernEnds (z:io) (s:Sl) (ps:List qW) (hf:∀ p ∈ ps,Cw p.fCall):Sp Tryz.prog mP [.agg z.C.toArray,sv s] aA [etB ET EF,vK s ps] (fun r=>pa_ (r = true) [etB ET EF,vK s ps]):=by
  intro h st
  refine sN _ _ ?_
  unfold mj
  refine bM (i:=0) sp_begun16 rfl st fun r h1 hr s1=>?_
  subst hr
  refine dB rfl ?_
  refine bM (i:=1) (sp_Cut s ps 200 (by decide) (by decide)) rfl s1 fun y h2 hback s2=>?_
  have e200:(200:Int).toNat = 200:=rfl
  rw [e200] at hback
  rw [e200] at s2
  have hlen:(ps.take 200).length ≤ 200:=by rw [List.length_take]; exact Nat.min_le_left _ _
  have hfq:∀ p ∈ ps.take 200,Cw p.fCall:=fun p hp=>hf p (List.mem_of_mem_take hp)
  generalize ps.take 200 = qs at hback s2 hlen hfq
  have s2:aG [etB ET EF,vK y qs] h2:=s2
  have hl:=(cf (j:=1) s2 rfl).1
  obtain ⟨hs,d1,d4,_,_⟩:=size_in z
  generalize hwz:bW z = w at hs d1 d4 ⊢
  refine mf (sp_kern_New w hs) s2 fun x h3 s3=>?_
  have fin:∀ {r:Bool} {h':Hp} {k:KK},r = true→aG [cM x k,etB ET EF,vK y qs] h'→pa_ (r = true) [etB ET EF,vK s ps] h':=fun hr s'=>aW hr (star_imp (i:=1) rfl hback (cc (l:=[_]) s'))
  refine Lp.intro (fun (i:Int) h=>∃ (n:Nat) (k:KK),i = n∧n ≤ qs.length∧Behind w n k∧Awake k∧aG [cM x k,etB ET EF,vK y qs] h) (fun (i:Int) _=>qs.length - i.toNat) ⟨0,_,rfl,Nat.zero_le _,behind_new hs,fun d x' h=>absurd h (rY w d x'),s3⟩ ?_
  rintro i h4 ⟨n,k,rfl,hn,B,W,s4⟩
  have hk:k.now < 2 ^ 30:=by have:=B.now; omega
  unfold iC
  refine aX (fun c=>?_) (fun c=>?_)
  · have hlt:n < qs.length:=by rw [hl] at c; simpa using c
    have hw:IntKind.i64.wrap ((n:Int) + 1) = ((n + 1:Nat):Int):=by rw [bP (by omega) (by omega)]; rfl
    have go:∀ b:Bool,(b = true→qs[n].fKind ≠ 1∨qs[n].fCall.e0 ≠ 9)→eB y x (fun s' h'=>(∃ (n:Nat) (k:KK),s' = n∧n ≤ qs.length∧Behind w n k∧Awake k∧aG [cM x k,etB ET EF,vK y qs] h')∧qs.length - s'.toNat < qs.length - (n:Int).toNat) n b h4:=by
      intro b hb
      unfold eB
      rw [hw]
      refine aX (fun e=>?_) (fun e=>?_)
      · refine dw s4 (j:=2) rfl (by omega) (by omega) fun q hq=>?_
        refine eo (j:=2) (i:=n) (k:=0) qs[n] tc s4 rfl hq rfl (aE hlt) (by simp) ?_
        refine bM (i:=0) (sp_Do x k qs[n] (by omega)) rfl s4 fun r h5 hr s5=>?_
        exact ⟨⟨n + 1,_,rfl,hlt,B.pick (by omega) (hfq _ (List.getElem_mem hlt)),W.pick B.ie (by omega) (hb e),s5⟩,by simp; omega⟩
      · refine ⟨⟨n + 1,k,rfl,hlt,⟨B.ie,B.s,by have:=B.now; omega⟩,W,s4⟩,by simp; omega⟩
    refine dw s4 (j:=2) rfl (by omega) (by omega) fun q hq=>?_
    refine eo (j:=2) (i:=n) (k:=0) qs[n].fKind tc s4 rfl hq rfl (aE hlt) (c1 rfl rfl) ?_
    refine aX (fun e=>?_) (fun e=>?_)
    · refine eo (j:=2) (i:=n) (k:=3) qs[n].fCall.e0 tc s4 rfl hq rfl (aE hlt) (c1 rfl rfl) ?_
      exact go _ (fun h=>.inr (by simpa using h))
    · exact go _ (fun _=>.inl (by simpa using e))
  · obtain ⟨l1,l2,l3⟩:=B.lens
    obtain ⟨m,hm⟩:∃ m:Nat,w.fCores = m:=⟨w.fCores.toNat,by omega⟩
    rw [hwz,hm]
    have S:=settle_settled (m:=997) ie_closed (cores:=m) B.ie (by omega) (by omega) (by omega) (by omega) W
    refine bM (i:=0) (sp_Settle x k m 1000 (by omega) (Nat.le_refl _) (by omega)) rfl s4 fun r h5 hr s5=>?_
    have hr1:r = (KK.settle m (997 + 3) k).1:=hr.1
    rw [S.1] at hr1
    subst hr1
    refine dB rfl ?_
    have s5:aG [cM x (KK.settle m (997 + 3) k).2,etB ET EF,vK y qs] h5:=s5
    have hen:=S.2.all.ended S.2.idle
    have hev:=S.2.all.inv.ok.evn
    have hno:=S.2.now
    generalize (KK.settle m (997 + 3) k).2 = k' at s5 hen hev hno
    have hno':k'.now < 2 ^ 36:=by omega
    refine xw (i:=0) (sK x k' (by omega)) rfl s5 fun v h6 s6=>?_
    have hvl:=(cf (j:=0) s6 rfl).1
    refine Lp.intro (fun (i:Int) h=>∃ n:Nat,i = n∧n ≤ k'.events.length∧aG [vE v k'.events,cM x k',etB ET EF,vK y qs] h) (fun (i:Int) _=>k'.events.length - i.toNat) ⟨0,rfl,Nat.zero_le _,s6⟩ ?_
    rintro i h7 ⟨a,rfl,ha,s7⟩
    unfold iB
    refine aX (fun c=>?_) (fun c=>?_)
    · have hlt:a < k'.events.length:=by rw [hvl] at c; simpa using c
      have hw:IntKind.i64.wrap ((a:Int) + 1) = ((a + 1:Nat):Int):=by rw [bP (by omega) (by omega)]; rfl
      refine dw s7 (j:=0) rfl (by omega) (by omega) fun q hq=>?_
      refine eo (j:=0) (i:=a) (k:=0) k'.events[a] mC s7 rfl hq rfl (aE hlt) (by simp) ?_
      have he:=hen _ (List.getElem_mem hlt)
      refine dB (by simp [he.1,he.2]) ?_
      rw [hw]
      exact ⟨⟨a + 1,rfl,hlt,s7⟩,by simp; omega⟩
    · exact fin rfl (cc (l:=[_]) s7)
end Go.Proofs.YtmggcfijlpldpaaGreatDoor
namespace Go.Proofs.YtmggcfijlpldpaaGreatDoor
open Go Mb Go.ChangeShapes Go.WideShapes Go.RowKit
theorem decKernEnds27 (cs:List Value) (h:qX [.i .i64,.i .i64,.i .i64] cs):∃ x:{x:aw // qX [.i .i64,.i .i64,.i .i64] (aw.C x)},aw.C x.1 = cs:=by
  have h0:=h
  obtain ⟨a0,r0,rfl,_,h⟩:=vW h
  obtain ⟨a1,r1,rfl,_,h⟩:=vW h
  obtain ⟨a2,r2,rfl,_,h⟩:=vW h
  obtain rfl:=fit_nil h
  exact ⟨⟨⟨a0,a1,a2⟩,h0⟩,rfl⟩
theorem decKernEnds63 (cs:List Value) (h:qX [.i .i64,.i .i64,.i .i64,.i .u64,.i .u64,.i .u64,.i .u64,.i .u64,.i .i64,.i .i64] cs):∃ x:{x:ch // qX [.i .i64,.i .i64,.i .i64,.i .u64,.i .u64,.i .u64,.i .u64,.i .u64,.i .i64,.i .i64] (ch.C x)},ch.C x.1 = cs:=by
  have h0:=h
  obtain ⟨a0,r0,rfl,_,h⟩:=vW h
  obtain ⟨a1,r1,rfl,_,h⟩:=vW h
  obtain ⟨a2,r2,rfl,_,h⟩:=vW h
  obtain ⟨a3,r3,rfl,_,h⟩:=vW h
  obtain ⟨a4,r4,rfl,_,h⟩:=vW h
  obtain ⟨a5,r5,rfl,_,h⟩:=vW h
  obtain ⟨a6,r6,rfl,_,h⟩:=vW h
  obtain ⟨a7,r7,rfl,_,h⟩:=vW h
  obtain ⟨a8,r8,rfl,_,h⟩:=vW h
  obtain ⟨a9,r9,rfl,_,h⟩:=vW h
  obtain rfl:=fit_nil h
  exact ⟨⟨⟨a0,a1,a2,⟨a3,a4,a5,a6,a7⟩,a8,a9⟩,h0⟩,rfl⟩
set_option maxRecDepth 100000 in
theorem lifted_8 (os:Os) (started:os.Started) (H:Type) (enc:TypeId × Value→H) :
    ReturnsInHanded {} Tryz.checked os 8 .any (fun w args=>(Rows.kernEndsSpec.pre enc Tryz.prog Tryz.f8 [] false w args∧laidMetH Tryz.prog laid w)∧sizedMet enc Tryz.prog Tryz.f8 (OpenSpec.ofChange Rows.kernEndsSpec) false w args)
      (Rows.kernEndsSpec.post enc Tryz.prog Tryz.f8 false true false false):=by
  refine returnsInHanded_of_change_and (C:=Tryz.checked) (X:=fun w _=>laidMetH Tryz.prog laid w) (fun _ _ _ hh h=>h.of_heap hh) Tryz.own started (by kernel_rfl) Tryz.func8
    (ChangeSpec.witness_at (enc:=enc) (C:=Tryz.checked) (os:=os) (X:=fun w _=>laidMetH Tryz.prog laid w) false (laidWorld os) #[.agg #[.int .i64 0,.int .i64 0,.int .i64 0],.slice none 0 0] 8 rfl (by kernel_rfl) (by kernel_rfl) (by kernel_rfl) (by kernel_rfl) (by kernel_rfl) (laidWorld_met os _)) ?_
  intro W base args ds gs before hval0 hW _ _ hL _
  have hval:∀ (j:Nat) t v,Tryz.f8.params[j]? = some t→args[j]? = some v→Value.okWide Tryz.prog W .any base t v:=hval0
  have hW':=hW
  obtain ⟨p,q,hA0,hV0,rfl,hfz,hnd⟩:=hW
  have hA:DataW.TrodAll enc Tryz.prog W 0 (fun _=>true) true Tryz.f8.params.toList args.toList ds p:=hA0
  have hV:DataW.TrodVars enc Tryz.prog W (fun _=>true) [] gs q:=hV0
  rw [Tryz.params8] at hA hval
  have hst:=hA
  obtain ⟨T,F,hb⟩:=block_of_laid hL
  obtain ⟨rfl,rfl⟩:gs = []∧q = []:=by
    cases gs with
    | nil=>exact ⟨rfl,hV⟩
    | cons g r=>exact absurd hV (by intro h; cases h)
  obtain ⟨v0,w0,d0,e0,p0,q0,hx0,rfl,rfl,h0,hA0⟩:=trodAll_cons hA
  obtain ⟨v1,w1,d1,e1,p1,q1,hx1,rfl,rfl,h1,hA1⟩:=trodAll_cons hA0
  obtain ⟨hy,rfl,rfl⟩:=trodAll_nil hA1
  subst hy
  subst hx1
  obtain rfl:args = #[v0,v1]:=by apply Array.ext'; exact hx0
  obtain ⟨c0,rfl,hc0⟩:=open_struct (ks:=[.i .i64,.i .i64,.i .i64]) Tryz.underlying27 (by kernel_rfl) (hval 0 27 v0 rfl rfl) h0
  obtain ⟨⟨z0,hf0⟩,rfl⟩:=decKernEnds27 _ hc0
  obtain ⟨s1,ys1,rfl,A1⟩:=open_arg (m:=10) (ks:=[.i .i64,.i .i64,.i .i64,.i .u64,.i .u64,.i .u64,.i .u64,.i .u64,.i .i64,.i .i64]) (enc':=fun x:{x:ch // qX [.i .i64,.i .i64,.i .i64,.i .u64,.i .u64,.i .u64,.i .u64,.i .u64,.i .i64,.i .i64] (ch.C x)}=>ch.C x.1) Tryz.underlying59 (by kernel_rfl) (by kernel_rfl) (by decide) decKernEnds63 (hval 1 59 v1 rfl rfl) h1 (fun b o hb=>hfz b o (by simp [hb])) hb no_iface
  obtain ⟨A1,hf1⟩:=A1.sub
  generalize ys1.map (·.1) = xs1 at A1 hf1
  refine (run_spV A1 (ET:=T) (EF:=F) (sp_KernEnds z0 s1 xs1 (fun p hp=>cw_of (hf1 p hp))) hb).mono fun e W' ⟨he,hk⟩=>?_
  subst he
  refine ⟨_,rfl,_,_,_,[],(p0++(p1++[])),[],hW',?_,?_,?_,keptBut_same hk.os hk.out hk.heap,fun h=>by cases h⟩
  · exact trodAll_mk1 (shut_bool Tryz.underlying4 true)
  · exact same_post (by kernel_rfl) (by kernel_rfl) hst (fun p hp=>hW'.lt p (List.mem_append_left _ hp)) hk (fun p hp=>by simpa using hW'.lt p (List.mem_append_left _ hp))
  · rfl
end Go.Proofs.YtmggcfijlpldpaaGreatDoor
namespace Go.Proofs.YtmggcfijlpldpaaGreatDoor
open Go Mb Go.ChangeShapes Go.WideShapes Go.RowKit
theorem jf0:Tryz.pinned.checked.prog.funcNamed Rows.kernEndsRow.func = some 8:=by kernel_rfl
theorem jf1:(Rows.kernEndsRow.wf (OpenSpec.ofChange Rows.kernEndsSpec) && laidOutB Tryz.pinned.checked.prog && mapsRowed Tryz.pinned.checked.prog) = true:=by kernel_rfl
theorem jf2:(Tryz.f8.params.all (Tryz.pinned.checked.prog.readableRec ·) && namedTie Tryz.pinned.checked.prog Rows.kernEndsRow.named Rows.kernEndsSpec.vars && (Rows.kernEndsRow.stops == []) && (Tryz.pinned.checked.prog.stops == []) && (Rows.kernEndsRow.knobs == []) && (Tryz.pinned.checked.prog.stopKnobs == [])) = true:=by kernel_rfl
theorem jf3:(Rows.kernEndsRow.inPlace == Tryz.pinned.checked.prog.inPlace 8) = true:=by kernel_rfl
theorem jf4:(Rows.kernEndsRow.unfollowed == Tryz.pinned.checked.prog.unfollowed 8) = true:=by kernel_rfl
theorem jf5:(Rows.kernEndsRow.recurses == Tryz.pinned.checked.prog.recurses 8) = true:=by kernel_rfl
theorem jf6:(Rows.kernEndsRow.named == Tryz.pinned.checked.prog.varsNamed 8) = true:=by kernel_rfl
theorem jf7:((Rows.kernEndsRow.maps == (Tryz.f8.params.toList++Rows.kernEndsSpec.plain.varTypes Tryz.pinned.checked.prog).any (Tryz.pinned.checked.prog.mapsRec ·)) && (Rows.kernEndsRow.ifaces == (Tryz.f8.params.toList++Rows.kernEndsSpec.plain.varTypes Tryz.pinned.checked.prog).any (Tryz.pinned.checked.prog.ifacesRec ·)) && (Rows.kernEndsRow.mapsOut == Tryz.pinned.checked.prog.mapsAmong Tryz.f8.resultTypes.toList) &&
  (Rows.kernEndsRow.loops == (Tryz.f8.params.toList++Rows.kernEndsSpec.plain.varTypes Tryz.pinned.checked.prog).any (Tryz.pinned.checked.prog.loopsFrom ·)) && (Rows.kernEndsRow.wideKeys == (Tryz.f8.params.toList++Rows.kernEndsSpec.plain.varTypes Tryz.pinned.checked.prog++Tryz.f8.resultTypes.toList).any (Tryz.pinned.checked.prog.wideKeysFrom ·)) &&
  Rows.kernEndsSpec.vars.all (Tryz.pinned.checked.prog.varReadable ·) && Tryz.f8.resultTypes.all (fun t=>Tryz.pinned.checked.prog.readableRec t && decide (t < Tryz.pinned.checked.prog.types.size)) && (Rows.kernEndsRow.ifacesOut == Tryz.f8.resultTypes.toList.any (Tryz.pinned.checked.prog.ifacesRec ·)) && (Rows.kernEndsRow.loopsOut == Tryz.f8.resultTypes.toList.any (Tryz.pinned.checked.prog.loopsFrom ·))) = true:=by kernel_rfl
theorem jf8:(Rows.kernEndsRow.plainKeys == Tryz.pinned.checked.prog.plainKeys) = true:=by kernel_rfl
theorem jf9:(Rows.kernEndsRow.shortTexts.isNone && Tryz.pinned.checked.prog.stopsHeard && Tryz.pinned.checked.prog.mayEnter && (Rows.kernEndsRow.lifted == Tryz.pinned.checked.prog.liftsFinal) && (Tryz.pinned.checked.prog.make == some Rows.kernEndsRow.make) && kindsB Tryz.pinned.checked.prog Tryz.f8 Rows.kernEndsRow && (Rows.kernEndsRow.pinned == Rows.kernEndsRow.pinnedBy) &&
  (Rows.kernEndsRow.veiled == (Tryz.f8.params.toList++Rows.kernEndsSpec.plain.varTypes Tryz.pinned.checked.prog++Tryz.f8.resultTypes.toList).any (Tryz.pinned.checked.prog.veiledRec ·)) && Rows.kernEndsRow.veiledFits Tryz.pinned.checked.prog Tryz.f8.params.toList (Tryz.f8.params.toList++Rows.kernEndsSpec.plain.varTypes Tryz.pinned.checked.prog++Tryz.f8.resultTypes.toList)) = true:=by kernel_rfl
theorem said_8:Rows.KernEndsSaid :=
  OpenClaim.holds_of_wide 8 Tryz.f8 rfl rfl rfl rfl rfl rfl rfl ⟨rfl,rfl,rfl,rfl,rfl⟩ rfl rfl rfl rfl rfl jf0 Tryz.func8 (joined_split jf1 jf2 jf3 jf4 jf5 jf6 jf7 jf8 jf9)
    (of_decide_eq_true (by kernel_rfl)) (by unfold Func.isWrapper; rw [if_neg (of_decide_eq_false (by kernel_rfl))]; exact ⟨rfl,rfl⟩)
    (fun os started H enc _=>lifted_8 os started H enc)
theorem kernEnds_holds:Rows.KernEndsCardSaid :=
  Claim7.holds_tied_plain_at .later [] [.handle] true (true, "0a18a80e28d285d70557e301bc4d2565b35b6c3c507dca02213e4d1d6624e7b5") true
    said_8 (fun _ h=>by cases h) (by kernel_rfl) (fun _ h=>by cases h) kernEnds_row_tie rfl ⟨rfl,rfl⟩ (by kernel_rfl) rfl
    (fun f fn hf hfn=>by
      obtain rfl:f = 8:=Option.some.inj ((show Tryz.prog.funcNamed "messuage/messuagelaw16.KernEnds" = some 8 by kernel_rfl).symm.trans hf) |>.symm
      obtain rfl:fn = Tryz.f8:=(Option.some.inj (Tryz.func8.symm.trans hfn)).symm
      exact ⟨by kernel_rfl,fun j t ht=>by
        rw [Tryz.params8] at ht
        exact want_all (by kernel_rfl) (j:=j) (t:=t) ht⟩)
    (by kernel_rfl)
end Go.Proofs.YtmggcfijlpldpaaGreatDoor
