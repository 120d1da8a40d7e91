/- Part of the proof of: The law RaceAlloc returns true for every input, and leaves its arguments as they were. -/
import Derived.Test.YtemoifebbhoinaaGreatDoorRaceAlloc15
import Derived.Test.YtemoifebbhoinaaGreatDoorRows
set_option linter.all false
set_option maxRecDepth 20000
namespace Go.Proofs.YtemoifebbhoinaaGreatDoor
open Go.Proofs.Tryz
section
open Go Mb
set_option linter.unusedVariables false
def tx (a0:Int) (Rec17:(Sl × Int)->Hp->Prop) (s16:Sl × Int) (x32:Int) (Rec26:(Sl × Int)->Hp->Prop) (s25:Sl × Int):Hp->Prop:=br (decide (s25.2 < a0)) ( hpv prog (Instr.buildSlice nI 1 #[(0,(.agg (dQ.C (⟨x32,s25.2,0,(⟨0,0,0,0,0⟩:ai),0,0⟩:dQ)).toArray))]) oe fun (v41:Sl)=>hpv prog (Builtin.append_ #[nI,nI] nI #[(sv s25.1),(sv v41)]) oe fun (v42:Sl)=>Rec26 (v42,(IntKind.i64.wrap (s25.2 + 1)))) ( Rec17 (s25.1,(IntKind.i64.wrap (s16.2 + 1))))
def tz (a0:Int) (Rec11:(Sl × Int)->Hp->Prop) (s10:Sl × Int) (v27:Sl) (Rec17:(Sl × Int)->Hp->Prop) (s16:Sl × Int):Hp->Prop:=br (decide (s16.2 < (v27.len:Int))) ( ix v27 s16.2 fun q31=>ld (q31.1,q31.2 + Int.toNat s16.2 * 1) (cI .i64) fun x32=>Lp (tx a0 Rec17 s16 x32) (s16.1,0)) ( Rec11 (s16.1,(IntKind.i64.wrap (s10.2 + 1))))
def tA (a0:Int) (a1:Int) (K:Sl->Hp->Prop) (Rec11:(Sl × Int)->Hp->Prop) (s10:Sl × Int):Hp->Prop:=br (decide (s10.2 < a1)) ( hpv prog (Instr.buildSlice dG 2 #[(0,(.int .i64 3)),(1,(.int .i64 2))]) cC fun (v27:Sl)=>Lp (tz a0 Rec11 s10 v27) (s10.1,0)) ( K s10.1)
def sh_fair_Rounds (a0:Int) (a1:Int) (K:Sl->Hp->Prop):Hp->Prop:=br ((((decide (a0 < 1)) || (decide (a0 > 8))) || (decide (a1 < 0))) || (decide (a1 > 500))) ( K (⟨none,0,0,none⟩:Sl)) ( hpv prog (Instr.buildSlice nI 0 #[]) oe fun (v23:Sl)=>Lp (tA a0 a1 K) (v23,0))
theorem sim_fair_Rounds (a0:Int) (a1:Int) {K:Sl->Hp->Prop} {h:Hp} (H:sh_fair_Rounds a0 a1 K h):Ct prog uU #[(.int .i64 a0),(.int .i64 a1)] h fun v h'=>∃ r,v = oe r/\K r h':=ay [(.int .i64 a0),(.int .i64 a1)] func49 c c c fun _=>M<|O c<|al<|M<|J c<|p (cx c c)<|J c<|V c c (aL _) (fun g1=>wv<|ah c)<|V c c (aL _) (fun g2=>wv<|qB (aD c g2) c)<|p (dp c c)<|J c<|V c c (aL _) (fun g3=>wv<|ah c)<|V c c (aL _) (fun g4=>wv<|cx (aD c g4) c)<|p (dp c c)<|J c<|V c c (aL _) (fun g5=>wv<|ah c)<|V c c (aL _) (fun g6=>wv<|qB (aD c g6) c)<|p (dp c c)<|ad<|aw c H (fun k7 H8=>M<|O c<|aj<|Y ⟨(⟨none,0,0,none⟩:Sl),c,H8⟩) fun k7 H8=>ao<|M<|aa<|aR H8 (bw (vs:=[]) c) c fun v23 _ H9=>O c<|al<|M<|J c<|J c<|ad<|aA<|bE (step:=tA a0 a1 K) (fun s10=>[(0,(.int .i64 a0)),(5,(sv s10.1)),(24,(.int .i64 a1)),(25,(.int .i64 s10.2))]) (fun s10=>[]) H9 (.cons c<|.cons c<|.cons c<|.cons c<|.nil _) .slnil fun Rec11 s10 _ H12=>M<|p (cx c c)<|ad<|al<|aw c H12 (fun k13 H14=>ao<|al<|aA<|M<|aa<|aR H14 (bw (vs:=[(.int .i64 3),(.int .i64 2)]) c) c fun v27 _ H15=>p (dz c underlying39 c)<|J c<|ad<|aA<|bE (step:=tz a0 Rec11 s10 v27) (fun s16=>[(0,(.int .i64 a0)),(5,(sv s16.1)),(24,(.int .i64 a1)),(25,(.int .i64 s10.2)),(27,(sv v27)),(28,(.int .i64 (v27.len:Int))),(29,(.int .i64 s16.2))]) (fun s16=>[]) H15 (.cons c<|.cons c<|.cons c<|.cons c<|.cons c<|.cons c<|.cons c<|.nil _) .slnil fun Rec17 s16 _ H18=>M<|p (cx c c)<|ad<|al<|aw c H18 (fun k19 H20=>ao<|al<|aA<|M<|cm H20 fun q31 e21 h22 H23=>p (bq ia (aN c<|bb e21) c h22)<|aa<|aW H23 aZ c (fun _=>c) c fun x32 H24=>O c<|M<|J c<|J c<|ad<|aA<|bE (step:=tx a0 Rec17 s16 x32) (fun s25=>[(0,(.int .i64 a0)),(5,(sv s25.1)),(7,(.int .i64 x32)),(24,(.int .i64 a1)),(25,(.int .i64 s10.2)),(27,(sv v27)),(28,(.int .i64 (v27.len:Int))),(29,(.int .i64 s16.2)),(33,(.int .i64 a0)),(34,(.int .i64 s25.2))]) (fun s25=>[]) H24 (.cons c<|.cons c<|.cons c<|.cons c<|.cons c<|.cons c<|.cons c<|.cons c<|.cons c<|.cons c<|.nil _) .slnil fun Rec26 s25 _ H27=>M<|p (cx c c)<|ad<|al<|aw c H27 (fun k28 H29=>ao<|al<|aA<|M<|J c<|O c<|ap<|J c<|J c<|J c<|p (ba c<|build_51_0_1 x32 s25.2)<|aa<|aR H29 (bw (vs:=[(.agg (dQ.C (⟨x32,s25.2,0,(⟨0,0,0,0,0⟩:ai),0,0⟩:dQ)).toArray)]) c) c fun v41 _ H30=>aa<|aR H30 (dE c c) c fun v42 _ H31=>O c<|ap<|p (bo c c)<|J c<|ad<|cN (v42,(IntKind.i64.wrap (s25.2 + 1))) H31 (.cons c<|.cons c<|.cons c<|.cons c<|.cons c<|.cons c<|.cons c<|.cons c<|.cons c<|.cons c<|.nil _) .slnil) fun k28 H29=>bi<|ap<|p (bo c c)<|J c<|ad<|cN (s25.1,(IntKind.i64.wrap (s16.2 + 1))) H29 (.cons c<|.cons c<|.cons c<|.cons c<|.cons c<|.cons c<|.cons c<|.nil _) .slnil) fun k19 H20=>bi<|ap<|p (bo c c)<|J c<|ad<|cN (s16.1,(IntKind.i64.wrap (s10.2 + 1))) H20 (.cons c<|.cons c<|.cons c<|.cons c<|.nil _) .slnil) fun k13 H14=>bi<|M<|J c<|O c<|aj<|Y ⟨s10.1,c,H14⟩
def ru (a0:Sl) (a1:Int) (a2:Int) (K:Int->Hp->Prop) (Rec2:(Int × Int × Int)->Hp->Prop) (s1:Int × Int × Int):Hp->Prop:=br (decide (s1.2.2 < (a0.len:Int))) ( ix a0 s1.2.2 fun q15=>ld (q15.1,q15.2 + Int.toNat s1.2.2 * 10) dQ.C fun x16=>br ((x16.fKind == a1) && (x16.fQa == a2)) ( Rec2 ((mx s1.1 0),0,(IntKind.i64.wrap (s1.2.2 + 1)))) ( Rec2 ((mx s1.1 (IntKind.i64.wrap (s1.2.1 + 1))),(IntKind.i64.wrap (s1.2.1 + 1)),(IntKind.i64.wrap (s1.2.2 + 1))))) ( K s1.1)
def sh_fair_Longest (a0:Sl) (a1:Int) (a2:Int) (K:Int->Hp->Prop):Hp->Prop:=Lp (ru a0 a1 a2 K) (0,0,0)
theorem sim_fair_Longest (a0:Sl) (a1:Int) (a2:Int) {K:Int->Hp->Prop} {h:Hp} (H:sh_fair_Longest a0 a1 a2 K h):Ct prog oT #[(sv a0),(.int .i64 a1),(.int .i64 a2)] h fun v h'=>∃ r,v = ee r/\K r h':=ay [(sv a0),(.int .i64 a1),(.int .i64 a2)] func101 c c c fun _=>M<|O c<|M<|p (au c)<|O c<|al<|M<|J c<|p (dz c underlying45 c)<|J c<|ad<|aA<|bE (step:=ru a0 a1 a2 K) (fun s1=>[(1,(.int .i64 a1)),(2,(.int .i64 a2)),(7,(.int .i64 s1.1)),(8,(.int .i64 s1.2.1)),(11,(sv a0)),(12,(.int .i64 (a0.len:Int))),(13,(.int .i64 s1.2.2))]) (fun s1=>[]) H (.cons c<|.cons c<|.cons c<|.cons c<|.cons c<|.cons c<|.cons c<|.nil _) .slnil fun Rec2 s1 _ H3=>M<|p (cx c c)<|ad<|al<|aw c H3 (fun k4 H5=>ao<|al<|aA<|M<|cm H5 fun q15 e6 h7 H8=>p (bq slc_45 (aN c<|bb e6) c h7)<|aa<|gP H8 ag_51 c (fun _=>c) c fun x16 H9=>aa<|aM (l:=dQ.C (⟨0,0,0,(⟨0,0,0,0,0⟩:ai),0,0⟩:dQ)) zero_51 c c fun b10=>aa<|aP (k:=0) (vs:=dQ.C x16) inf_51 c c c c c c c<|ad<|M<|J c<|p (bo c c)<|O c<|al<|M<|p (ae fld_51_0 c)<|bh (bf (k:=0) aZ c c c) c<|J c<|p (bQ c c)<|J c<|V c c (aB _) (fun g10=>wv<|ae fld_51_1 c)<|V c c (aB _) (fun g11=>cv<|bf (k:=0) aZ (aD c g11) c c)<|V c c (aB _) (fun g12=>wv<|ah c)<|V c c (aB _) (fun g13=>wv<|bQ (aD c g13)<|aD c g13)<|p (bT c c)<|ad<|aw c H9 (fun k14 H15=>ap<|O c<|ap<|J c<|J c<|p (v_maxT c c)<|O c<|ap<|p (bo c c)<|J c<|ad<|cN ((mx s1.1 0),0,(IntKind.i64.wrap (s1.2.2 + 1))) H15 (.cons c<|.cons c<|.cons c<|.cons c<|.cons c<|.cons c<|.cons c<|.nil _)<|.cons _ .slnil) fun k14 H15=>ao<|ap<|J c<|J c<|p (v_maxT c c)<|O c<|ap<|p (bo c c)<|J c<|ad<|cN ((mx s1.1 (IntKind.i64.wrap (s1.2.1 + 1))),(IntKind.i64.wrap (s1.2.1 + 1)),(IntKind.i64.wrap (s1.2.2 + 1))) H15 (.cons c<|.cons c<|.cons c<|.cons c<|.cons c<|.cons c<|.cons c<|.nil _)<|.cons _ .slnil) fun k4 H5=>bi<|M<|J c<|O c<|aj<|Y ⟨s1.1,c,H5⟩
def xv (a0:Sl) (a1:Int) (a2:Int) (K:Bool->Hp->Prop) (Rec2:Int->Hp->Prop) (s1:Int):Hp->Prop:=br (decide (s1 < a1)) ( cl prog oT [(sv a0),(.int .i64 2),(.int .i64 s1)] ee fun r14=>br (!(decide (r14 >= a2))) ( cl prog oT [(sv a0),(.int .i64 3),(.int .i64 s1)] ee fun r20=>br (decide (r20 >= a2)) ( K false) ( Rec2 (IntKind.i64.wrap (s1 + 1)))) ( K false)) ( K true)
def sh_fair_Fair (a0:Sl) (a1:Int) (a2:Int) (K:Bool->Hp->Prop):Hp->Prop:=Lp (xv a0 a1 a2 K) 0
theorem sim_fair_Fair (a0:Sl) (a1:Int) (a2:Int) {K:Bool->Hp->Prop} {h:Hp} (H:sh_fair_Fair a0 a1 a2 K h):Ct prog n_fair_Fair #[(sv a0),(.int .i64 a1),(.int .i64 a2)] h fun v h'=>∃ r,v = aC r/\K r h':=ay [(sv a0),(.int .i64 a1),(.int .i64 a2)] func51 c c c fun _=>M<|O c<|al<|M<|J c<|J c<|ad<|aA<|bE (step:=xv a0 a1 a2 K) (fun s1=>[(0,(sv a0)),(2,(.int .i64 a2)),(8,(.int .i64 a1)),(9,(.int .i64 s1))]) (fun s1=>[]) H (.cons c<|.cons c<|.cons c<|.cons c<|.nil _) .slnil fun Rec2 s1 _ H3=>M<|p (cx c c)<|ad<|al<|aw c H3 (fun k4 H5=>ao<|al<|aA<|M<|J c<|O c<|M<|J c<|J c<|aa<|Z H5 en_101 fun r14 _ H6=>J c<|p (jJ c c)<|J c<|V c c (aL _) (fun g7=>wv<|ah c)<|V c c (aL _) (fun g8=>wv<|ah c)<|bS H6 (fun k10 H11=>F (D<|bW k10)<|fZ H11 en_101 (aS (aD c k10)<|aS c<|aS (aD c k10) bR) c fun r20 _ H12=>F (D<|bW k10)<|R (ah c)<|F (D<|bW k10)<|R (jJ c c)<|p (aq c (bW k10) c)<|ad<|aw c H12 (fun k13 H14=>M<|O c<|aj<|Y ⟨false,c,H14⟩) fun k13 H14=>ao<|ap<|p (bo c c)<|J c<|ad<|cN (IntKind.i64.wrap (s1 + 1)) H14 (.cons c<|.cons c<|.cons c<|.cons c<|.nil _) .slnil) fun k10 H11=>W (cf<|bH k10)<|W (cf<|bH k10)<|W (cf<|bH k10)<|p (aT c (bH k10) c)<|ad<|ke c c<|M<|O c<|aj<|Y ⟨false,c,H11⟩) fun k4 H5=>bi<|M<|O c<|aj<|Y ⟨true,c,H5⟩
end
section
open Go Mb
abbrev Pick:=dQ
abbrev vK (s:Sl) (xs:List Pick):As:=vec t_api_Pick 10 dQ.C s xs
theorem pick_len (p:Pick):p.C.length = 10:=rfl
theorem pick_one (p:Pick):dI p.C = true:=rfl
namespace Fair
def longFrom (kind core:Int):List Pick->Int->Int->Int
 | [],best,_=>best
 | p::ps,best,now=>if p.fKind = kind/\p.fQa = core then longFrom kind core ps (mx best 0) 0 else longFrom kind core ps (mx best (IntKind.i64.wrap (now + 1))) (IntKind.i64.wrap (now + 1))
def longest (ps:List Pick) (kind core:Int):Int:=longFrom kind core ps 0 0
def okCore (ps:List Pick) (b:Int) (c:Nat):Bool:=decide (longest ps 2 c < b) && decide (longest ps 3 c < b)
def fair (ps:List Pick) (cores b:Int):Bool:=(List.range cores.toNat).all (okCore ps b)
def pk (kind:Int) (c:Nat):Pick:=⟨kind,c,0,⟨0,0,0,0,0⟩,0,0⟩
def line (kind:Int) (c:Nat):List Pick:=(List.range c).map (pk kind)
def lines (c:Nat) (kinds:List Int):List Pick:=kinds.flatMap fun k=>line k c
def turns (c n:Nat):List Pick:=(List.range n).flatMap fun _=>lines c [3,2]
def rounds (cores n:Int):List Pick:=if cores < 1\/cores > 8\/n < 0\/n > 500 then [] else turns cores.toNat n.toNat
theorem line_len (kind:Int) (c:Nat):(line kind c).length = c:=by simp [line]
theorem line_succ (kind:Int) (c:Nat):line kind (c + 1) = line kind c++[pk kind c]:=by simp [line,List.range_succ]
theorem turns_succ (c n:Nat):turns c (n + 1) = turns c n++lines c [3,2]:=by simp [turns,List.range_succ]
theorem lines_len (c:Nat):∀ (ks:List Int),(lines c ks).length = ks.length * c
 | []=>by simp [lines]
 | k::ks=>by
  have:=lines_len c ks
  simp only [lines,List.flatMap_cons,List.length_append,line_len,List.length_cons,Nat.succ_mul] at this ⊢
  omega
theorem turns_len (c n:Nat):(turns c n).length = n * (2 * c):=by
 induction n with
 | zero=>simp [turns]
 | succ n ih=>rw [turns_succ,List.length_append,ih,lines_len,Nat.add_mul n 1,Nat.one_mul]; rfl
end Fair
theorem sp_fair_Longest (s:Sl) (ps:List Pick) (kind core:Int) (hb:ps.length < 2 ^ 40):Sp prog oT [sv s,.int .i64 kind,.int .i64 core] ee [vK s ps] (fun r=>pa_ (r = Fair.longest ps kind core) [vK s ps]):=by
 intro h s0
 have hl:=(cj (j:=0) s0 rfl).1
 refine sim_fair_Longest _ _ _ ?_
 unfold sh_fair_Longest
 refine Lp.intro (fun (z:Int × Int × Int) h=>∃ n:Nat,z.2.2 = n/\n <= ps.length/\Fair.longFrom kind core (ps.drop n) z.1 z.2.1 = Fair.longest ps kind core/\aF [vK s ps] h) (fun (z:Int × Int × Int) _=>ps.length - z.2.2.toNat) ⟨0,rfl,Nat.zero_le _,rfl,s0⟩ ?_
 rintro ⟨best,now,i⟩ h ⟨n,rfl,hn,he,s1⟩
 unfold ru
 simp only at he ⊢
 refine aY (fun k=>?_) (fun k=>?_)
 ·have hlt:n < ps.length:=by rw [hl] at k; simpa using k
  have hw:IntKind.i64.wrap ((n:Int) + 1) = ((n + 1:Nat):Int):=by rw [bM (by omega) (by omega)]; rfl
  rw [List.drop_eq_getElem_cons hlt,Fair.longFrom] at he
  refine dy s1 (j:=0) rfl (by omega) (by omega) fun q hq=>?_
  refine eB (j:=0) (i:=n) (k:=0) ps[n] pick_len s1 rfl hq rfl (aH hlt) (by simp) ?_
  rw [hw]
  refine aY (fun k2=>?_) (fun k2=>?_)
  ·have k2':ps[n].fKind = kind/\ps[n].fQa = core:=by simpa using k2
   rw [if_pos k2'] at he
   exact ⟨⟨n + 1,rfl,hlt,he,s1⟩,by simp; omega⟩
  ·have k2':¬ (ps[n].fKind = kind/\ps[n].fQa = core):=by simpa using k2
   rw [if_neg k2'] at he
   exact ⟨⟨n + 1,rfl,hlt,he,s1⟩,by simp; omega⟩
 ·have:n = ps.length:=by rw [hl] at k; simp at k; omega
  subst this
  rw [List.drop_length] at he
  exact aX he s1
theorem sp_fair_Fair (s:Sl) (ps:List Pick) (cores b:Int) (hb:ps.length < 2 ^ 40) (hc:cores < 2 ^ 62):Sp prog n_fair_Fair [sv s,.int .i64 cores,.int .i64 b] aC [vK s ps] (fun r=>pa_ (r = Fair.fair ps cores b) [vK s ps]):=by
 intro h s0
 refine sim_fair_Fair _ _ _ ?_
 unfold sh_fair_Fair
 refine Lp.intro (fun (i:Int) h=>∃ n:Nat,i = n/\n <= cores.toNat/\(∀ c,c < n->Fair.okCore ps b c = true)/\aF [vK s ps] h) (fun (i:Int) _=>cores.toNat - i.toNat) ⟨0,rfl,Nat.zero_le _,fun c hc=>by omega,s0⟩ ?_
 rintro i h ⟨n,rfl,hn,ho,s1⟩
 unfold xv
 refine aY (fun k=>?_) (fun k=>?_)
 ·have hlt:n < cores.toNat:=by have:=of_decide_eq_true k; omega
  have hw:IntKind.i64.wrap ((n:Int) + 1) = ((n + 1:Nat):Int):=by rw [bM (by omega) (by omega)]; rfl
  have no:Fair.okCore ps b n = false->Fair.fair ps cores b = false:=fun hf=>by
   unfold Fair.fair
   cases ha:(List.range cores.toNat).all (Fair.okCore ps b) with
   | false=>rfl
   | true=>rw [List.all_eq_true.1 ha n (List.mem_range.2 hlt)] at hf; cases hf
  refine bP (sp_fair_Longest s ps 2 n hb) (i:=0) rfl s1 fun r h2 hr s2=>?_
  subst hr
  refine aY (fun k2=>?_) (fun k2=>?_)
  ·have k2':Fair.longest ps 2 n < b:=by simpa using k2
   refine bP (sp_fair_Longest s ps 3 n hb) (i:=0) rfl s2 fun r h3 hr s3=>?_
   subst hr
   refine aY (fun k3=>?_) (fun k3=>?_)
   ·have k3':¬ Fair.longest ps 3 n < b:=by simp at k3; omega
    exact aX (no (by simp [Fair.okCore,k3'])).symm s3
   ·have k3':Fair.longest ps 3 n < b:=by simp at k3; omega
    rw [hw]
    refine ⟨⟨n + 1,rfl,hlt,fun c hc=>?_,s3⟩,by simp; omega⟩
    by_cases e:c = n
    ·subst e; simp [Fair.okCore,k2',k3']
    ·exact ho c (by omega)
  ·have k2':¬ Fair.longest ps 2 n < b:=by simp at k2; omega
   exact aX (no (by simp [Fair.okCore,k2'])).symm s2
 ·have:n = cores.toNat:=by have:=of_decide_eq_false k; omega
  subst this
  refine aX ?_ s1
  unfold Fair.fair
  exact (List.all_eq_true.2 fun c hc=>ho c (List.mem_range.1 hc)).symm
theorem sp_fair_Rounds (cores n:Int):Sp prog uU [.int .i64 cores,.int .i64 n] oe [] (fun r=>aF [vK r (Fair.rounds cores n)]):=by
 intro h s0
 refine sim_fair_Rounds _ _ ?_
 unfold sh_fair_Rounds
 refine aY (fun k=>?_) (fun k=>?_)
 ·have e1:Fair.rounds cores n = []:=if_pos (by simpa [or_assoc] using k)
  rw [e1]; exact fN s0
 ·have k':¬ (cores < 1\/cores > 8\/n < 0\/n > 500):=by simp at k; omega
  have e1:Fair.rounds cores n = Fair.turns cores.toNat n.toNat:=if_neg k'
  rw [e1]
  obtain ⟨C,rfl⟩:=Int.eq_ofNat_of_zero_le (show 0 <= cores by omega)
  obtain ⟨N,rfl⟩:=Int.eq_ofNat_of_zero_le (show 0 <= n by omega)
  simp only [Int.toNat_natCast]
  refine fy (τ:=Pick) [] (val:=fun x=>.agg x.C.toArray) (enc:=dQ.C) el_Sapi_Pick pick_len (fun _=>rfl) s0 rfl rfl (by simp) fun v h1 s1=>?_
  refine Lp.intro (fun (z:Sl × Int) h=>∃ j:Nat,z.2 = j/\j <= N/\aF [vK z.1 (Fair.turns C j)] h) (fun (z:Sl × Int) _=>N - z.2.toNat) ⟨0,rfl,Nat.zero_le _,s1⟩ ?_
  rintro ⟨z,i⟩ h ⟨j,rfl,hj,s2⟩
  unfold tA
  refine aY (fun k2=>?_) (fun k2=>?_)
  ·have hlt:j < N:=by have:=of_decide_eq_true k2; simp at this; exact this
   have hw:IntKind.i64.wrap ((j:Int) + 1) = ((j + 1:Nat):Int):=by rw [bM (by omega) (by omega)]; rfl
   have htl:=Fair.turns_len C j
   have hC:C <= 8:=by omega
   have hjb:j * (2 * C) <= 500 * 16:=Nat.mul_le_mul (by omega) (by omega)
   refine fy (τ:=Int) [3,2] (val:=fun x=>.int .i64 x) (enc:=cI .i64) el_Sint (dh _) (fun _=>rfl) s2 rfl rfl (by decide) fun vk h3 s3=>?_
   have hvl:=(cj (j:=0) s3 rfl).1
   refine Lp.intro (fun (y:Sl × Int) h=>∃ m:Nat,y.2 = m/\m <= 2/\aF [vK y.1 (Fair.turns C j++Fair.lines C (([3,2]:List Int).take m)),vec km 1 (cI .i64) vk [3,2]] h) (fun (y:Sl × Int) _=>2 - y.2.toNat) ⟨0,rfl,Nat.zero_le _,by
    have s4:=bd (m:=[vK z (Fair.turns C j),vec km 1 (cI .i64) vk [3,2]]) [1] s3 rfl
    simpa [Fair.lines] using s4⟩ ?_
   rintro ⟨y,i2⟩ h ⟨m,rfl,hm,s4⟩
   unfold tz
   refine aY (fun k3=>?_) (fun k3=>?_)
   ·have hlt2:m < 2:=by rw [hvl] at k3; have:=of_decide_eq_true k3; simp at this; omega
    have hw2:IntKind.i64.wrap ((m:Int) + 1) = ((m + 1:Nat):Int):=by rw [bM (by omega) (by omega)]; rfl
    have hkl:m < ([3,2]:List Int).length:=hlt2
    refine dy s4 (j:=1) rfl (by omega) (by simp; omega) fun q hq=>?_
    refine eB (j:=1) (i:=m) (k:=0) ([3,2]:List Int)[m] (dh _) s4 rfl hq (by simp) (aH hkl) (by simp) ?_
    have hll:=Fair.lines_len C (([3,2]:List Int).take m)
    have hlb:(([3,2]:List Int).take m).length * C <= 2 * 8:=Nat.mul_le_mul (by simp; omega) (by omega)
    refine Lp.intro (fun (x:Sl × Int) h=>∃ p:Nat,x.2 = p/\p <= C/\aF [vK x.1 (Fair.turns C j++Fair.lines C (([3,2]:List Int).take m)++Fair.line ([3,2]:List Int)[m] p),vec km 1 (cI .i64) vk [3,2]] h) (fun (x:Sl × Int) _=>C - x.2.toNat) ⟨0,rfl,Nat.zero_le _,by simpa [Fair.line] using s4⟩ ?_
    rintro ⟨x,i3⟩ h ⟨p,rfl,hp,s5⟩
    have hpl:=Fair.line_len ([3,2]:List Int)[m] p
    unfold tx
    refine aY (fun k4=>?_) (fun k4=>?_)
    ·have hlt3:p < C:=by have:=of_decide_eq_true k4; simp at this; exact this
     have hw3:IntKind.i64.wrap ((p:Int) + 1) = ((p + 1:Nat):Int):=by rw [bM (by omega) (by omega)]; rfl
     refine kC (τ:=Pick) (i:=0) (enc:=dQ.C) (val:=fun x=>.agg x.C.toArray) (x:=Fair.pk ([3,2]:List Int)[m] p) el_Sapi_Pick pick_len pick_one (fun _=>rfl) (by omega) rfl rfl s5 rfl (by simp only [List.length_append]; omega) (by simp only [List.length_append]; omega) fun v h6 s6=>?_
     rw [hw3]
     refine ⟨⟨p + 1,rfl,hlt3,?_⟩,by simp; omega⟩
     rw [Fair.line_succ,← List.append_assoc]
     exact s6
    ·have:p = C:=by have:=of_decide_eq_false k4; simp at this; omega
     subst this
     rw [hw2]
     refine ⟨⟨m + 1,rfl,hlt2,?_⟩,by simp; omega⟩
     have et:([3,2]:List Int).take (m + 1) = ([3,2]:List Int).take m++[([3,2]:List Int)[m]]:=by rw [List.take_add_one,aH hkl]; rfl
     have el:Fair.lines p (([3,2]:List Int).take (m + 1)) = Fair.lines p (([3,2]:List Int).take m)++Fair.line ([3,2]:List Int)[m] p:=by
      rw [et]; unfold Fair.lines; rw [List.flatMap_append]; simp
     rw [el,← List.append_assoc]
     exact s5
   ·have:m = 2:=by rw [hvl] at k3; have:=of_decide_eq_false k3; simp at this; omega
    subst this
    rw [hw]
    refine ⟨⟨j + 1,rfl,hlt,?_⟩,by simp; omega⟩
    rw [Fair.turns_succ]
    exact nJ (l:=[vK y (Fair.turns C j++Fair.lines C [3,2])]) s4
  ·have:j = N:=by have:=of_decide_eq_false k2; simp at this; omega
   subst this
   exact s2
end
section
open Go Mb
set_option linter.unusedVariables false
def wt (a0:Sl) (a1:Int) (K:Sl->Hp->Prop) (Rec2:(Sl × Int)->Hp->Prop) (s1:Sl × Int):Hp->Prop:=br (decide (s1.2 < (a0.len:Int))) ( ix a0 s1.2 fun q12=>ld (q12.1,q12.2 + Int.toNat s1.2 * 16) av.C fun x13=>br ((x13.fCa == a1) && (decide (x13.fXa > 0))) ( hpv prog (Instr.buildSlice mS 1 #[(0,(.agg (ab.C x13.fYa).toArray))]) nc fun (v26:Sl)=>hpv prog (Builtin.append_ #[mS,mS] mS #[(sv s1.1),(sv v26)]) nc fun (v27:Sl)=>Rec2 (v27,(IntKind.i64.wrap (s1.2 + 1)))) ( Rec2 (s1.1,(IntKind.i64.wrap (s1.2 + 1))))) ( K s1.1)
def sh_twin_View (a0:Sl) (a1:Int) (K:Sl->Hp->Prop):Hp->Prop:=Lp (wt a0 a1 K) ((⟨none,0,0,none⟩:Sl),0)
theorem sim_twin_View (a0:Sl) (a1:Int) {K:Sl->Hp->Prop} {h:Hp} (H:sh_twin_View a0 a1 K h):Ct prog n_twin_View #[(sv a0),(.int .i64 a1)] h fun v h'=>∃ r,v = nc r/\K r h':=ay [(sv a0),(.int .i64 a1)] func52 c c c fun _=>M<|O c<|M<|O c<|al<|M<|J c<|p (dz c underlying42 c)<|J c<|ad<|aA<|bE (step:=wt a0 a1 K) (fun s1=>[(1,(.int .i64 a1)),(5,(sv s1.1)),(8,(sv a0)),(9,(.int .i64 (a0.len:Int))),(10,(.int .i64 s1.2))]) (fun s1=>[]) H (.cons c<|.cons c<|.cons c<|.cons c<|.cons c<|.nil _) .slnil fun Rec2 s1 _ H3=>M<|p (cx c c)<|ad<|al<|aw c H3 (fun k4 H5=>ao<|al<|aA<|M<|cm H5 fun q12 e6 h7 H8=>p (bq rg (aN c<|bb e6) c h7)<|aa<|gP H8 uH c (fun _=>c) c fun x13 H9=>aa<|aM (l:=av.C (⟨0,0,(⟨0,0,0,0,0⟩:ai),0,0,0,(⟨0,0⟩:ab),(⟨0,0,0,0⟩:am)⟩:av)) tN c c fun b7=>aa<|aP (k:=0) (vs:=av.C x13) inf_56 c c c c c c c<|ad<|M<|p (ae oZ c)<|bh (bf (k:=0) aZ c c c) c<|J c<|p (bQ c c)<|J c<|V c c (aB _) (fun g10=>wv<|ae qW c)<|V c c (aB _) (fun g11=>cv<|bf (k:=0) aZ (aD c g11) c c)<|V c c (aB _) (fun g12=>wv<|qB (aD c g12) c)<|p (bT c c)<|ad<|aw c H9 (fun k13 H14=>ap<|J c<|p (ae kv c)<|bh (bF (k:=0) cE c c c c) c<|aa<|aR H14 (bw (vs:=[(.agg (ab.C x13.fYa).toArray)]) c) c fun v26 _ H15=>aa<|aR H15 (dE c c) c fun v27 _ H16=>O c<|ap<|p (bo c c)<|J c<|ad<|cN (v27,(IntKind.i64.wrap (s1.2 + 1))) H16 (.cons c<|.cons c<|.cons c<|.cons c<|.cons c<|.nil _)<|.cons _ .slnil) fun k13 H14=>ao<|ap<|p (bo c c)<|J c<|ad<|cN (s1.1,(IntKind.i64.wrap (s1.2 + 1))) H14 (.cons c<|.cons c<|.cons c<|.cons c<|.cons c<|.nil _)<|.cons _ .slnil) fun k4 H5=>bi<|M<|J c<|O c<|aj<|Y ⟨s1.1,c,H5⟩
end
section
open Go Mb
abbrev vA (s:Sl) (xs:List eH):As:=vec lQ 2 ab.C s xs
theorem ans_len (p:eH):p.C.length = 2:=rfl
theorem ans_one (p:eH):dI p.C = true:=rfl
namespace Twin
def view (env:Int):List bm->List eH
 | []=>[]
 | e::es=>if e.fCa = env/\e.fXa > 0 then e.fYa::view env es else view env es
def same:List eH->List eH->Bool
 | [],[]=>true
 | a::l,b::r=>ab.eqb a b && same l r
 | _,_=>false
theorem view_app (env:Int) (e:bm):∀ es,view env (es++[e]) = view env es++(if e.fCa = env/\e.fXa > 0 then [e.fYa] else [])
 | []=>by simp only [List.nil_append,view]
 | d::es=>by
  simp only [List.cons_append,view,view_app env e es]
  split <;> simp
theorem view_len (env:Int):∀ es,(view env es).length <= es.length
 | []=>Nat.le_refl _
 | e::es=>by unfold view; have:=view_len env es; split <;> simp <;> omega
end Twin
theorem sp_twin_View (s:Sl) (es:List bm) (env:Int) (hb:es.length < 2 ^ 38):Sp prog n_twin_View [sv s,.int .i64 env] nc [vE s es] (fun r=>aF [vA r (Twin.view env es),vE s es]):=by
 intro h s0
 have hl:=(cj (j:=0) s0 rfl).1
 refine sim_twin_View _ _ ?_
 unfold sh_twin_View
 refine Lp.intro (fun (z:Sl × Int) h=>∃ n:Nat,z.2 = n/\n <= es.length/\aF [vA z.1 (Twin.view env (es.take n)),vE s es] h) (fun (z:Sl × Int) _=>es.length - z.2.toNat) ⟨0,rfl,Nat.zero_le _,fN s0⟩ ?_
 rintro ⟨z,i⟩ h ⟨n,rfl,hn,s1⟩
 unfold wt
 refine aY (fun k=>?_) (fun k=>?_)
 ·have hlt:n < es.length:=by rw [hl] at k; simpa using k
  have hw:IntKind.i64.wrap ((n:Int) + 1) = ((n + 1:Nat):Int):=by rw [bM (by omega) (by omega)]; rfl
  have ht:es.take (n + 1) = es.take n++[es[n]]:=by simp
  refine dy s1 (j:=1) rfl (by omega) (by show (n:Int) < _; omega) fun q hq=>?_
  refine eB (j:=1) (i:=n) (k:=0) es[n] mI s1 rfl hq rfl (aH hlt) (by simp) ?_
  rw [hw]
  refine aY (fun k2=>?_) (fun k2=>?_)
  ·have k2':es[n].fCa = env/\es[n].fXa > 0:=by simpa using k2
   have hvl:=Twin.view_len env (es.take n)
   simp at hvl
   refine kC (τ:=eH) (i:=0) (enc:=ab.C) (val:=fun x=>.agg x.C.toArray) el_Sapi_Answer ans_len ans_one (fun _=>rfl) (by omega) rfl rfl s1 rfl (by omega) (by omega) fun v h2 s2=>?_
   refine ⟨⟨n + 1,rfl,hlt,?_⟩,by simp; omega⟩
   rw [ht,Twin.view_app,if_pos k2']
   exact s2
  ·have k2':¬ (es[n].fCa = env/\es[n].fXa > 0):=by simpa using k2
   refine ⟨⟨n + 1,rfl,hlt,?_⟩,by simp; omega⟩
   rw [ht,Twin.view_app,if_neg k2',List.append_nil]
   exact s1
 ·have:n = es.length:=by rw [hl] at k; simp at k; omega
  subst this
  rw [List.take_length] at s1
  exact s1
end
section
open Go Mb
variable {ET:Nat} {EF:Nat × Nat}
theorem kern_nn {l:List As} {h:Hp} {x:Ptr} {k:KK} (s:aF (cL x k::l) h):x.isNone = false:=nn_of (fun _ e=>by rw [e.1]; rfl) s
namespace B16
abbrev sz:fD:=⟨2,2,3⟩
def r1:=KK.run (KK.new ⟨2,2,3⟩) 0 0 ⟨1,1,0,0,0⟩
def r2:=KK.run r1.2 0 0 ⟨6,4,1,3,0⟩
def r3:=KK.run r2.2 1 0 ⟨21,4,2,9,0⟩
def r4:=KK.run r3.2 0 0 ⟨20,4,2,0,0⟩
def r5:=KK.run r4.2 0 0 ⟨7,4,0,0,0⟩
def es:=r5.2.events
theorem es_len:es.length = 5:=by kernel_rfl
theorem apart:Hist.may es sz = true:=by kernel_rfl
theorem now1:r1.2.now < 1000:=of_decide_eq_true (by kernel_rfl)
theorem now2:r2.2.now < 1000:=of_decide_eq_true (by kernel_rfl)
theorem now3:r3.2.now < 1000:=of_decide_eq_true (by kernel_rfl)
theorem now4:r4.2.now < 1000:=of_decide_eq_true (by kernel_rfl)
theorem now5:r5.2.now < 1000:=of_decide_eq_true (by kernel_rfl)
theorem lin:fLa.linear es sz = (-1,true):=by kernel_rfl
theorem acc:fLa.accesses es sz = (-1,true):=by kernel_rfl
theorem rgt:fLa.right es sz = true:=by kernel_rfl
end B16
theorem ord20 {es:List bm} (s:Sl) (h:es.length <= 20):Hist.Apart es->OrdOk s es:=fun ha=>sp_hist_Order20 s es h ha
theorem sp_begun16:Sp prog kH [] aC [(etB ET EF)] (fun r=>pa_ (r = true) [(etB ET EF)]):=by
 intro h st
 refine vm ?_
 unfold oC
 refine mu (sp_kern_New ⟨2,2,3⟩ (by decide)) st fun x h1 s1=>?_
 refine dn (kern_nn s1) ?_
 refine bP (i:=0) (sp_Run x _ 0 0 ⟨1,1,0,0,0⟩ (by decide)) rfl s1 fun a1 h2 e1 s2=>?_
 refine bP (i:=0) (sp_Run x B16.r1.2 0 0 ⟨6,4,1,3,0⟩ (by have:=B16.now1; omega)) rfl s2 fun a2 h3 e2 s3=>?_
 refine bP (i:=0) (sp_Run x B16.r2.2 1 0 ⟨21,4,2,9,0⟩ (by have:=B16.now2; omega)) rfl s3 fun a3 h4 e3 s4=>?_
 refine bP (i:=0) (sp_Run x B16.r3.2 0 0 ⟨20,4,2,0,0⟩ (by have:=B16.now3; omega)) rfl s4 fun a4 h5 e4 s5=>?_
 refine bP (i:=0) (sp_Run x B16.r4.2 0 0 ⟨7,4,0,0,0⟩ (by have:=B16.now4; omega)) rfl s5 fun a5 h6 e5 s6=>?_
 refine wh (i:=0) (ov x B16.r5.2 (by have:=B16.now5; omega)) rfl s6 fun s h7 s7=>?_
 have hes:B16.es.length < 2 ^ 38:=by rw [B16.es_len]; decide
 have hes20:B16.es.length <= 20:=by rw [B16.es_len]; decide
 refine bP (i:=0) (sp_judge_Linear s B16.es B16.sz (by decide) hes (ord20 s hes20)) rfl s7 fun r1 h8 f1 s8=>?_
 refine bP (i:=0) (sp_judge_Access s B16.es B16.sz (by decide) hes (ord20 s hes20)) rfl s8 fun r2 h9 f2 s9=>?_
 refine mu (sp_fair_Rounds 2 3) s9 fun t h10 s10=>?_
 refine bP (i:=3) sp_Begun11 rfl s10 fun r3 h11 f3 s11=>?_
 have hl:((s.len:Int) == 5) = true:=by rw [(cj (j:=1) s11 rfl).1]; kernel_rfl
 have htl:((t.len:Int) == 12) = true:=by rw [(cj (j:=0) s11 rfl).1]; kernel_rfl
 have g1:a1 = B16.r1.1:=e1.1
 have g2:a2 = B16.r2.1:=e2.1
 have g3:a3 = B16.r3.1:=e3.1
 have g4:a4 = B16.r4.1:=e4.1
 have g5:a5 = B16.r5.1:=e5.1
 rw [B16.lin] at f1
 rw [B16.acc] at f2
 rw [f1,f2,f3,g1,g2,g3,g4,g5,hl]
 refine dL (by kernel_rfl) ?_
 refine bP (i:=1) (sp_hist_May s B16.es B16.sz hes) rfl s11 fun r4 h12 f4 s12=>?_
 refine dL (f4.trans B16.apart) ?_
 refine wh (i:=1) (sp_hist_Order20 s B16.es hes20 (Hist.may_apart B16.apart)) rfl s12 fun o h13 s13=>?_
 have hol:((o.len:Int) == 5) = true:=by rw [(cj (j:=0) s13 rfl).1]; kernel_rfl
 refine dL (by rw [hol,htl]; rfl) ?_
 refine bP (i:=1) (sp_fair_Fair t _ 2 5 (by decide) (by decide)) rfl s13 fun r5 h14 f5 s14=>?_
 refine dL (f5.trans (by kernel_rfl)) ?_
 refine wh (i:=2) (sp_twin_View s B16.es 0 hes) rfl s14 fun v h15 s15=>?_
 have hvl:((v.len:Int) == 5) = true:=by rw [(cj (j:=0) s15 rfl).1]; kernel_rfl
 refine dL hvl ?_
 refine bP (i:=3) (sp_judge_Right s B16.es B16.sz (by decide) hes (ord20 s hes20)) rfl s15 fun r6 h16 f6 s16=>?_
 exact aX (f6.trans B16.rgt) (ce (l:=[_,_,_,_,_]) s16)
end
section
open Go Mb
namespace KK
def lastE (c:Int):List bm->bm->bm
 | [],e=>e
 | x::es,e=>lastE c es (if x.fQa = c then x else e)
def last (k:KK) (c:Int):bm:=lastE c k.events ⟨0,0,⟨0,0,0,0,0⟩,0,0,0,⟨0,0⟩,⟨0,0,0,0⟩⟩
end KK
theorem field_ans (e:bm) (K:Value->Hp->Prop) (h:Hp):hp prog (Instr.field li (.agg (av.C e).toArray) 6) K h = K (eA e.fYa) h:=by kernel_rfl
theorem field_err (a:eH) (K:Value->Hp->Prop) (h:Hp):hp prog (Instr.field lQ (.agg (ab.C a).toArray) 0) K h = K (bc a.fWa) h:=by kernel_rfl
theorem sp_last (x:Ptr) (k:KK) (c:Int) (hn:k.now < 2 ^ 37):Sp prog gg [pv x,.int .i64 c] rc [cL x k] (fun r=>pa_ (r = KK.last k c) [cL x k]):=by
 intro h st
 refine wO _ _ ?_
 unfold pH
 have n0:=kern_n0 st
 refine wh (i:=0) (ov x k (by omega)) rfl st fun v h1 s1=>?_
 have hl:=(cj (j:=0) s1 rfl).1
 have s1:aF [vE v k.events,cL x k] h1:=s1
 refine Lp.intro (fun (z:Int × bm) h=>∃ n:Nat,z.1 = n/\n <= k.events.length/\KK.lastE c (k.events.drop n) z.2 = KK.last k c/\aF [vE v k.events,cL x k] h) (fun (z:Int × bm) _=>k.events.length - z.1.toNat) ⟨0,rfl,Nat.zero_le _,rfl,s1⟩ ?_
 rintro ⟨i,e⟩ h2 ⟨n,rfl,hn2,he,s2⟩
 unfold kK
 simp only at he ⊢
 have n2:=n0.2
 refine aY (fun d=>?_) (fun d=>?_)
 ·have hlt:n < k.events.length:=by rw [hl] at d; simpa using d
  have hw:IntKind.i64.wrap ((n:Int) + 1) = ((n + 1:Nat):Int):=by rw [bM (by omega) (by omega)]; rfl
  rw [List.drop_eq_getElem_cons hlt,KK.lastE] at he
  refine dy s2 (j:=0) rfl (by omega) (by omega) fun q hq=>?_
  refine eB (j:=0) (i:=n) (k:=0) k.events[n] mI s2 rfl hq rfl (aH hlt) (by simp) ?_
  rw [hw]
  refine aY (fun d2=>?_) (fun d2=>?_)
  ·rw [if_pos (by simpa using d2)] at he
   exact ⟨⟨n + 1,rfl,hlt,he,s2⟩,by simp; omega⟩
  ·rw [if_neg (by simpa using d2)] at he
   exact ⟨⟨n + 1,rfl,hlt,he,s2⟩,by simp; omega⟩
 ·have:n = k.events.length:=by rw [hl] at d; simp at d; omega
  subst this
  rw [List.drop_length] at he
  exact aX he (ce (l:=[_]) s2)
end
section
open Go Mb
inductive Stp (k:KK) (c:Nat) (x:KC) (k':KK):Prop
 | wait (y:KC) (he:k'.events = k.events) (hp:k'.p = k.p) (hc:k'.calls = k.calls.set c (some y)) (h1:y.fc = x.fc) (h2:y.fGa = x.fGa) (h3:y.fat = x.fat)
 | user (m:Nat) (e0:bm) (h0:k.events[m]? = some e0) (hm:x.fat = (m:Nat)) (hz:e0.fHa = 0) (hcl:e0.fKa = x.fc) (hen:e0.fCa = x.fGa) (hco:e0.fQa = c) (hu:bA (az x.fc).1 = true)
   (he:k'.events = k.events.set m (KK.evend e0 (k.now + 1) (KK.access (KK.tick k) c x).1.1 (KK.access (KK.tick k) c x).1.2)) (hp:k'.p = (KK.access (KK.tick k) c x).2.p) (hc:k'.calls = k.calls.set c none)
 | does (m:Nat) (e0:bm) (h0:k.events[m]? = some e0) (hm:x.fat = (m:Nat)) (hz:e0.fHa = 0) (hcl:e0.fKa = x.fc) (hen:e0.fCa = x.fGa) (hco:e0.fQa = c) (hu:bA (az x.fc).1 = false)
   (he:k'.events = k.events.set m (KK.evend e0 (k.now + 1) (PK.do_ k.p x.fGa x.fc).1.1 iB)) (hp:k'.p = (PK.do_ k.p x.fGa x.fc).2) (hc:k'.calls = k.calls.set c none)
theorem set_some {α:Type} {l:List (Option α)} {c:Nat} {x:α} (h:l[c]? = some (some x)):l = l.set c (some x):=by
 refine List.ext_getElem? fun i=>?_
 rw [List.getElem?_set]
 split
 ·rename_i e; subst e
  rw [if_pos (List.getElem?_eq_some_iff.1 h).1,h]
 ·rfl
theorem step_stp {k:KK} (A:IE k) (hn:k.now < 2 ^ 40) {c:Nat} {x:KC} (hx:k.calls[c]? = some (some x)):Stp k c x (KK.step k c).2:=by
 have hc:=(List.getElem?_eq_some_iff.1 hx).1
 obtain ⟨m,hm,e0,g1,g2,g3,g4,g5⟩:=A.ev.call c x hx
 have hi:KK.is k c = true:=by unfold KK.is; exact decide_eq_true (by omega)
 have hcall:KK.call k c = some x:=by unfold KK.call; rw [Int.toNat_natCast,List.getD_eq_getElem?_getD,hx]; rfl
 have hb:KK.busy k c = true:=by unfold KK.busy; rw [hi,hcall]; rfl
 have hnow:=tick_now A.inv.ok hn
 have hst:(KK.step k c).2 = KK.work (KK.tick k) c x:=by
  unfold KK.step
  rw [if_neg (by rw [hb]; simp),hcall]
 have hcn:((c:Int)).toNat = c:=Int.toNat_natCast c
 rw [hst]
 have setev:∀ (q:KK) (a:eH) (l:jn),q.events = k.events->q.now = k.now + 1->(KK.ends q c x a l).events = k.events.set m (KK.evend e0 (k.now + 1) a l):=by
  intro q a l h1 h2
  unfold KK.ends
  rw [h1,h2,hm]
  simp only [Int.toNat_natCast,List.getD_eq_getElem?_getD,g1,Option.getD_some]
 unfold KK.work
 by_cases hu:bA (az x.fc).1 = true
 ·rw [if_pos hu]
  obtain ⟨h1,h2,h3,h4,_⟩:=access_keep (KK.tick k) c x
  refine .user m e0 g1 hm g5 g4 g3 g2 hu (setev _ _ _ h1 (by rw [h2,hnow])) rfl ?_
  show (KK.access (KK.tick k) c x).2.calls.set (c:Int).toNat none = _
  rw [h4,hcn]; rfl
 ·rw [if_neg hu]
  have hu':bA (az x.fc).1 = false:=by simpa using hu
  split
  ·refine .wait { x with fPa:=true,fBb:=(fMa.begin_ (KK.tick k).fFa c).1.1 } rfl rfl ?_ rfl rfl rfl
   show (k.calls.set (c:Int).toNat _).set (c:Int).toNat _ = _
   rw [hcn,List.set_set]; rfl
  ·split
   ·exact .wait x rfl rfl (set_some hx) rfl rfl rfl
   ·split
    ·refine .does m e0 g1 hm g5 g4 g3 g2 hu' (setev _ _ _ rfl hnow) rfl ?_
     show k.calls.set (c:Int).toNat none = _
     rw [hcn]
    ·rename_i hd
     refine .wait x rfl ?_ (set_some hx) rfl rfl rfl
     show (PK.do_ k.p x.fGa x.fc).2 = k.p
     exact do_wait (by have h2:¬ (PK.do_ k.p x.fGa x.fc).1.2 = true:=hd; simpa using h2)
theorem step_not {k:KK} {c:Int} (h:KK.busy k c = false):(KK.step k c).2 = k:=by unfold KK.step; rw [if_pos h]
theorem step_or {k:KK} (A:IE k) (hn:k.now < 2 ^ 40) (c:Int):(KK.step k c).2 = k\/∃ (d:Nat) (x:KC),c = d/\k.calls[d]? = some (some x)/\Stp k d x (KK.step k c).2:=by
 cases hb:KK.busy k c with
 | false=>exact .inl (step_not hb)
 | true =>
  obtain ⟨hi,x,hx⟩:=busy_is hb
  obtain ⟨n,rfl,_⟩:=lf hi
  exact .inr ⟨n,x,rfl,sE hx,step_stp A hn (sE hx)⟩
theorem post_same (k:KK) (c:Int):(KK.post k c).2.events = k.events/\(KK.post k c).2.p = k.p/\(KK.post k c).2.calls = k.calls:=by
 unfold KK.post
 split
 ·exact ⟨rfl,rfl,rfl⟩
 ·split <;> exact ⟨rfl,rfl,rfl⟩
theorem begin_or {k:KK} (A:IE k) (hn:k.now < 2 ^ 40) (core env:Int) (c:da):((KK.begin_ k core env c).1 = false/\(KK.begin_ k core env c).2 = k) \/
  ((KK.begin_ k core env c).1 = true/\∃ d:Nat,core = d/\d < k.calls.length/\k.calls[d]? = some none/\0 <= env/\env < k.p.s.fIa/\(KK.begin_ k core env c).2.events = k.events++[KK.ev0 core env c (k.now + 1)]/\(KK.begin_ k core env c).2.p = k.p/\(KK.begin_ k core env c).2.calls = k.calls.set d (some ⟨k.events.length,env,c,false,0⟩)/\(KK.begin_ k core env c).2.fFa = k.fFa):=by
 have hw:=wrapN A.inv.ok.n0 hn
 unfold KK.begin_
 split
 ·exact .inl ⟨rfl,rfl⟩
 ·rename_i h
  simp only [not_or,Bool.not_eq_true,Bool.not_eq_false] at h
  obtain ⟨h1,h2,h3,h4⟩:=h
  obtain ⟨d,rfl,hd⟩:=lf h1
  refine .inr ⟨rfl,d,rfl,hd,?_,by omega,by omega,by rw [hw],rfl,by rw [Int.toNat_natCast],rfl⟩
  cases hc:k.calls[d]? with
  | none=>rw [List.getElem?_eq_none_iff] at hc; omega
  | some o =>
   cases o with
   | none=>rfl
   | some x =>
    have:KK.busy k d = true:=(busy_nat hd).2 ⟨x,hc⟩
    rw [this] at h2; cases h2
theorem begin_does {k:KK} {c env:Int} {x:da} (h1:KK.is k c = true) (h2:KK.busy k c = false) (h3:0 <= env) (h4:env < k.p.s.fIa):(KK.begin_ k c env x).1 = true:=by
 unfold KK.begin_
 rw [if_neg]
 rintro (h | h | h | h)
 ·rw [h1] at h; cases h
 ·rw [h2] at h; cases h
 ·omega
 ·omega
theorem access_or {k:KK} (I:fo k) {c:Nat} (hc:c < k.calls.length) {x:KC} (hw:Word.check x.fc k.p.s.fIa = 0) (hkind:20 <= IntKind.i64.wrap x.fc.e0/\IntKind.i64.wrap x.fc.e0 <= 23) :
  ((KK.access k c x).1.1 = ⟨7,0⟩/\(KK.access k c x).2.p = k.p/\(KK.fCb k c x).1.2 = false) \/
  ∃ l:jn,Cov (PK.q k.p x.fGa (IntKind.i64.wrap x.fc.e1)) l/\ct l.fBa (IntKind.i64.wrap x.fc.e0) = true/\(KK.access k c x).1.1 = (PK.touch k.p (PK.q k.p x.fGa (IntKind.i64.wrap x.fc.e1)).fEa x.fc).1.1/\(KK.access k c x).2.p = (PK.touch k.p (PK.q k.p x.fGa (IntKind.i64.wrap x.fc.e1)).fEa x.fc).2:=by
 unfold KK.access
 rw [if_neg (by rw [hw]; simp)]
 cases hf:(KK.fCb k c x).1.2 with
 | false=>exact .inl ⟨rfl,rfl,rfl⟩
 | true =>
  obtain ⟨h1,_,_,h4⟩:=walk_cov I hc hf hkind
  rw [if_neg (by simp)]
  refine .inr ⟨_,h1,h4,?_,?_⟩
  ·show (PK.touch k.p (KK.fCb k c x).1.1.fEa x.fc).1.1 = _
   rw [h1.f]
  ·show (PK.touch k.p (KK.fCb k c x).1.1.fEa x.fc).2 = _
   rw [h1.f]
theorem lastE_at {c:Int}:∀ {es:List bm} {i:Nat} {e d:bm},es[i]? = some e->e.fQa = c->(∀ (j:Nat) e',i < j->es[j]? = some e'->e'.fQa ≠ c)->KK.lastE c es d = e
 | [],_,_,_,h,_,_=>by simp at h
 | x::es,0,e,d,h,hc,hl=>by
  simp at h
  subst h
  rw [KK.lastE,if_pos hc]
  have:∀ (es:List bm) (d:bm),(∀ e' ∈ es,e'.fQa ≠ c)->KK.lastE c es d = d:=by
   intro es
   induction es with
   | nil=>intro d _; rfl
   | cons y es ih=>intro d h; rw [KK.lastE,if_neg (h y List.mem_cons_self)]; exact ih d fun e he=>h e (List.mem_cons_of_mem _ he)
  refine this es x fun e' he=>?_
  obtain ⟨j,hj⟩:=List.getElem?_of_mem he
  exact hl (j + 1) e' (by omega) (by simpa using hj)
 | x::es,i + 1,e,d,h,hc,hl=>by
  rw [KK.lastE]
  exact lastE_at (i:=i) (by simpa using h) hc fun j e' hj he=>hl (j + 1) e' (by omega) (by simpa using he)
theorem tick_p (k:KK):(KK.tick k).p = k.p:=rfl
structure Usr (fc:da) (n:Int):Prop where
 chk:Word.check fc n = 0
 usr:bA (az fc).1 = true
 kind:20 <= IntKind.i64.wrap fc.e0/\IntKind.i64.wrap fc.e0 <= 23
 cw:Cw fc
 n9:fc.e0 ≠ 9
structure Lone (i:Nat) (core a:Int) (fc:da) (s:fD) (k:KK):Prop extends All k where
 sz:k.p.s = s
 q0:(PK.q k.p a (IntKind.i64.wrap fc.e1)).fBa = 0
 call:∀ (d:Nat) x,k.calls[d]? = some (some x)->x.fc = fc/\x.fGa = a
 len:k.events.length = i + 1
 le:∃ e,k.events[i]? = some e/\e.fQa = core/\(e.fHa ≠ 0->e.fYa = ⟨7,0⟩)
theorem Lone.post {i:Nat} {core a:Int} {fc:da} {s:fD} {k:KK} (L:Lone i core a fc s k) (hn:k.now < 2 ^ 40) (c:Int):Lone i core a fc s (KK.post k c).2:=by
 obtain ⟨h1,h2,h3⟩:=post_same k c
 exact ⟨L.toAll.post hn c,by rw [h2]; exact L.sz,by rw [h2]; exact L.q0,by rw [h3]; exact L.call,by rw [h1]; exact L.len,by rw [h1]; exact L.le⟩
theorem vF {l:List (Option KC)} {c:Nat} {o:Option KC} {P:Nat->KC->Prop} (h:∀ (d:Nat) x,l[d]? = some (some x)->P d x) (ho:∀ x,o = some x->P c x):∀ (d:Nat) x,(l.set c o)[d]? = some (some x)->P d x:=by
 intro d x hd
 rw [List.getElem?_set] at hd
 split at hd
 ·rename_i e; subst e
  split at hd
  ·simp only [Option.some.injEq] at hd
   exact ho x hd
  ·cases hd
 ·exact h d x hd
theorem Lone.step {i:Nat} {core a:Int} {fc:da} {s:fD} {k:KK} (U:Usr fc s.fIa) (L:Lone i core a fc s k) (hn:k.now < 2 ^ 40) (c:Int):Lone i core a fc s (KK.step k c).2:=by
 rcases step_or L.toIE hn c with h | ⟨d,x,rfl,hx,st⟩
 ·rw [h]; exact L
 have hA:=L.toAll.step hn d
 obtain ⟨hc1,hc2⟩:=L.call d x hx
 have hdl:=(List.getElem?_eq_some_iff.1 hx).1
 cases st with
 | wait y he hp' hc h1 h2 h3 =>
  refine ⟨hA,by rw [hp']; exact L.sz,by rw [hp']; exact L.q0,?_,by rw [he]; exact L.len,by rw [he]; exact L.le⟩
  rw [hc]
  refine vF (P:=fun _ x=>x.fc = fc/\x.fGa = a) L.call fun z hz=>?_
  cases hz
  exact ⟨by rw [h1]; exact hc1,by rw [h2]; exact hc2⟩
 | user m e0 h0 hm hz hcl hen hco hu he hp' hc =>
  have I:=L.inv.tick hn
  have ac:=access_or I (c:=d) (by exact hdl) (x:=x) (by rw [hc1]; show Word.check fc k.p.s.fIa = 0; rw [L.sz]; exact U.chk) (by rw [hc1]; exact U.kind)
  have hans:(KK.access (KK.tick k) d x).1.1 = ⟨7,0⟩/\(KK.access (KK.tick k) d x).2.p = k.p:=by
   rcases ac with h | ⟨l,h1,_⟩
   ·exact ⟨h.1,h.2.1⟩
   ·rw [hc1,hc2] at h1
    have h2:=h1.r
    have h3:=L.q0
    rw [tick_p] at h2
    omega
  refine ⟨hA,by rw [hp',hans.2]; exact L.sz,by rw [hp',hans.2]; exact L.q0,?_,by rw [he,List.length_set]; exact L.len,?_⟩
  ·rw [hc]
   exact vF (P:=fun _ x=>x.fc = fc/\x.fGa = a) L.call fun z hz=>by cases hz
  ·obtain ⟨e,g1,g2,g3⟩:=L.le
   rw [he]
   by_cases hmi:m = i
   ·subst hmi
    rw [h0] at g1
    cases g1
    refine ⟨KK.evend e0 (k.now + 1) (KK.access (KK.tick k) d x).1.1 (KK.access (KK.tick k) d x).1.2,?_,g2,fun _=>hans.1⟩
    rw [List.getElem?_set,if_pos rfl,if_pos (List.getElem?_eq_some_iff.1 h0).1]
   ·exact ⟨e,by rw [List.getElem?_set,if_neg hmi]; exact g1,g2,g3⟩
 | does m e0 h0 hm hz hcl hen hco hu he hp' hc =>
  rw [hc1,U.usr] at hu
  cases hu
end
section
open Go Mb
theorem mod_in (x:Int) {n:Int} (h:1 <= n/\n <= 100):0 <= (IntKind.i64.wrap (x.tmod n + n)).tmod n/\(IntKind.i64.wrap (x.tmod n + n)).tmod n < n:=by
 have h1:=Int.tmod_lt_of_pos x (show (0:Int) < n by omega)
 have h2:-n < x.tmod n:=by
  have:=Int.tmod_lt_of_pos (-x) (show (0:Int) < n by omega)
  rw [Int.neg_tmod] at this
  omega
 rw [bM (by omega) (by omega)]
 exact ⟨Int.tmod_nonneg _ (by omega),Int.tmod_lt_of_pos _ (by omega)⟩
end
section
open Go
namespace Mb
section
variable {τ:Type}
def entsK (kd:IntKind) (val:τ->Value) (es:List MapEntry) (m:List (Int × τ)):Prop:=es.map (fun e=>(e.key,e.val)) = m.map (fun p=>(Value.int kd p.1,val p.2))
def mapL (kd:IntKind) (b:Nat) (val:τ->Value) (m:List (Int × τ)):As:=fun h=>∃ (es:List MapEntry) (clock:Nat),h b = some (.map es.toArray clock)/\entsK kd val es m
theorem find_nowK {val:τ->Value} {kd k:IntKind} (x:Int):∀ {es:List MapEntry} {m:List (Int × τ)} (i:Nat),entsK k val es m->Instr.findNow (.int kd) (.int k x) es i = some ((fi x m i).map fun r=>(r.1,val r.2))
 | [],[],_,_=>rfl
 | [],_::_,_,h=>by simp [entsK] at h
 | _::_,[],_,h=>by simp [entsK] at h
 | e::es,p::m,i,h=>by
  simp only [entsK,List.map_cons,List.cons.injEq,Prod.mk.injEq] at h
  obtain ⟨⟨h1,h2⟩,h3⟩:=h
  unfold Instr.findNow fi
  rw [h1,h2]
  by_cases hx:x = p.1
  ·subst hx; simp [Instr.sameNow]
  ·have:(x == p.1) = false:=by simpa using hx
   simp only [Instr.sameNow,this,if_true,if_neg hx]
   exact find_nowK x (i + 1) h3
theorem fi_none {x:Int}:∀ {m:List (Int × τ)} {i:Nat},x ∉ m.map (·.1)->fi x m i = none
 | [],_,_=>rfl
 | p::m,i,h=>by
  unfold fi
  rw [if_neg (fun e=>h (by simp [e]))]
  exact fi_none (fun hm=>h (by simp only [List.map_cons,List.mem_cons]; exact .inr hm))
end
section
variable {P:Program} {l:List As} {h:Hp} {τ:Type} {S K E:TypeId} {z:Value} {val:τ->Value} {kd:IntKind}
theorem hp_findKeyK {kd k:IntKind} {x:Int} {es:List MapEntry} {m:List (Int × τ)} {Q:Option (Nat × Value)->Hp->Prop} (e:P.underlying K = some (.int kd)) (he:entsK k val es m) (q:Q ((fi x m 0).map fun r=>(r.1,val r.2)) h):hp P (Instr.findKey K (.int k x) es) Q h:=by
 unfold Instr.findKey
 refine bX (cJ e ?_)
 rw [find_nowK x 0 he]
 exact q
theorem makeMap_L {R:Option Nat->Value} {Q:Option Nat->Hp->Prop} (kd:IntKind) (hR:R = fun r=>.map r) (st:aF l h) (k:∀ b h',aF (mapL kd b val []::l) h'->Q (some b) h'):hpv P (Instr.makeMap S none) R Q h:=by
 subst hR
 refine ⟨?_⟩
 unfold Instr.makeMap
 refine bX ?_
 refine ⟨rfl,fun b hb=>⟨some b,rfl,k b _ ?_⟩⟩
 obtain ⟨h1,h2,d,e,a,s⟩:=new_s (o:=.map #[] 0) st hb
 exact ⟨h1,h2,d,e,⟨[],0,a,rfl⟩,s⟩
theorem lookup_L {σ:Type} {j b:Nat} {m:List (Int × τ)} {x:Int} {ok:Bool} {R:σ->Value} {Q:σ->Hp->Prop} (M:Mp P S K E z) (st:aF l h) (hj:l[j]? = some (mapL kd b val m)) (r:σ) (hr:(if ok then .tuple #[(((fi x m 0).map (·.2)).map val).getD z,.bool (fi x m 0).isSome] else (((fi x m 0).map (·.2)).map val).getD z) = R r) (q:Q r h):hpv P (Instr.lookup S (.map (some b)) (.int kd x) ok) R Q h:=by
 refine ⟨?_⟩
 obtain ⟨h1,⟨es,clock,a,he⟩,sub⟩:=dH hj st
 obtain ⟨kd',hk⟩:=M.key
 obtain ⟨i,hi,hz⟩:=M.inf
 unfold Instr.lookup
 refine bX (cJ M.mp ?_)
 refine bX (vV (sub _ _ a) rfl ?_)
 refine bX ?_
 rw [xr]
 refine bX (uC hk ?_)
 refine bX (hp_findKeyK (val:=val) hk he ?_)
 cases hm:fi x m 0 with
 | none =>
  rw [hm] at hr
  refine bX (oY hi hz ?_)
  exact ⟨r,hr,q⟩
 | some p =>
  rw [hm] at hr
  refine bX ?_
  exact ⟨r,hr,q⟩
theorem update_L {j b:Nat} {m:List (Int × τ)} {x:Int} {w:τ} {v:Value} {Q:Hp->Prop} (M:Mp P S K E z) (st:aF l h) (hj:l[j]? = some (mapL kd b val m)) (hv:v = val w) (hx:x ∉ m.map (·.1)) (k:∀ h',aF (l.set j (mapL kd b val (m++[(x,w)]))) h'->Q h'):hpu P (Instr.mapUpdate S (.map (some b)) (.int kd x) v) Q h:=by
 subst hv
 refine ⟨?_⟩
 obtain ⟨h1,h2,d,rfl,⟨es,clock,a,he⟩,s'⟩:=fQ hj st
 have hjl:=(List.getElem?_eq_some_iff.1 hj).1
 obtain ⟨kd',hk⟩:=M.key
 unfold Instr.mapUpdate
 refine bX (cJ M.mp ?_)
 refine bX (vV (un_left a) rfl ?_)
 refine bX (uC hk ?_)
 refine bX (hp_findKeyK (val:=val) hk he ?_)
 rw [fi_none hx]
 refine ⟨rfl,⟨_,un_left a,rfl⟩,?_⟩
 obtain ⟨d',e'⟩:=set_dj (o':=.map (es.toArray.push { key:=.int kd x,val:=val w,born:=clock }) (clock + 1)) d a
 rw [e']
 refine k _ (eq hjl ⟨_,h2,d',rfl,⟨(es.toArray.push { key:=.int kd x,val:=val w,born:=clock }).toList,clock + 1,?_,?_⟩,s'⟩)
 ·exact iF _ _ _
 ·unfold entsK at he ⊢
  simp [he]
theorem len_L {j b:Nat} {m:List (Int × τ)} {T:TypeId} {Q:Int->Hp->Prop} {R:Int->Value} (hR:R = fun n=>.int .i64 n) (M:Mp P S K E z) (st:aF l h) (hj:l[j]? = some (mapL kd b val m)) (q:Q m.length h):hpv P (Builtin.len_ #[S] T #[.map (some b)]) R Q h:=by
 subst hR
 refine ⟨?_⟩
 obtain ⟨h1,⟨es,clock,a,he⟩,sub⟩:=dH hj st
 have hl:es.length = m.length:=by
  have:=congrArg List.length he
  simpa using this
 unfold Builtin.len_
 refine bX (cJ M.mp ?_)
 refine bX (vV (sub _ _ a) rfl ?_)
 refine ⟨m.length,?_,q⟩
 show goInt es.toArray.size = _
 rw [List.size_toArray,hl]
 rfl
end
end Mb
end
section
open Go Mb
variable {ET:Nat} {EF:Nat × Nat}
theorem fAa.cnt_ex {f:Int}:∀ {t:fAa.T},0 < fAa.cnt f t->∃ (i j:Nat) (r:List Cap) (c:Cap),t[i]? = some r/\r[j]? = some c/\fAa.isF f c = true
 | [],h=>by simp [fAa.cnt] at h
 | r::t,h=>by
  by_cases hr:0 < r.countP (fAa.isF f)
  ·obtain ⟨c,hc,hp⟩:=List.countP_pos_iff.1 hr
   obtain ⟨j,hj⟩:=List.getElem?_of_mem hc
   exact ⟨0,j,r,c,rfl,hj,hp⟩
  ·obtain ⟨i,j,r',c,h1,h2,h3⟩:=fAa.cnt_ex (f:=f) (t:=t) (by simp only [fAa.cnt] at h; omega)
   exact ⟨i + 1,j,r',c,by simpa using h1,h2,h3⟩
theorem nodup_le {α:Type} [DecidableEq α]:∀ {l m:List α},l.Nodup->(∀ x ∈ l,x ∈ m)->l.length <= m.length
 | [],_,_,_=>Nat.zero_le _
 | a::l,m,hn,hs=>by
  obtain ⟨h1,h2⟩:=List.nodup_cons.1 hn
  have ha:=hs a (by simp)
  have:=nodup_le (l:=l) (m:=m.erase a) h2 fun x hx=>(List.mem_erase_of_ne (fun e=>h1 (by rw [← e]; exact hx))).2 (hs x (by simp [hx]))
  rw [List.length_erase_of_mem ha] at this
  have:=List.length_pos_of_mem ha
  simp only [List.length_cons]; omega
namespace Alloc
def sz (n f:Int):fD:=⟨n,1,f⟩
abbrev cal (c:Int):da:=⟨1,c,0,0,0⟩
def rt (k:PK) (d:Nat):Int:=(fAa.get k.caps 0 d).fBa
def fr (k:PK) (d:Nat):Int:=(fAa.get k.caps 0 d).fEa
def Full (k:PK):Prop:=∀ g:Int,0 <= g->g < k.s.fAb->Pool.refs k.pool g ≠ 0
theorem alloc_or {k:PK} (F:PK.Fine k) {d:Nat} (hh:fAa.has k.caps 0 d = true) (h0:rt k d = 0):(PK.alloc k 0 d = (6,k)/\Full k) \/
  ∃ g:Nat,(PK.alloc k 0 d).1 = 0/\Pool.refs k.pool g = 0/\(g:Int) < k.s.fAb/\(PK.alloc k 0 d).2.caps = fAa.put k.caps 0 d ⟨g,3,-1,0⟩/\(PK.alloc k 0 d).2.pool = k.pool.set g 1:=by
 have hat:(fAa.at_ k.caps 0 d).2 = false:=by
  cases h:(fAa.at_ k.caps 0 d).2 with
  | false=>rfl
  | true=>exact absurd h0 ((PK.at_snd _ _ _).1 h).2
 have hsz:=fA.1 F.ok.sz
 have hpl:=F.ok.pl
 unfold PK.alloc
 rw [if_neg (by rw [hat]; simp)]
 rcases idx_spec 0 k.pool 0 with ⟨i1,hno⟩ | ⟨n,i1,i2,_⟩
 ·left
  have ht:Pool.take k.pool = (0,false,k.pool):=by unfold Pool.take; rw [if_pos (by rw [i1]; decide)]
  rw [ht,if_pos rfl]
  refine ⟨rfl,fun g g0 g1 h=>hno ?_⟩
  rw [PK.refs_nn g0] at h
  have hlt:g.toNat < k.pool.length:=by omega
  rw [List.getElem?_eq_getElem hlt,Option.getD_some] at h
  rw [← h]; exact List.getElem_mem hlt
 ·right
  have htk:Pool.take k.pool = ((n:Int),true,k.pool.set n 1):=by
   unfold Pool.take; rw [if_neg (by rw [i1]; omega),i1]; simp
  have hn:=(List.getElem?_eq_some_iff.1 i2).1
  have hroot:fAa.root k.caps 0 d n = (0,fAa.put k.caps 0 d ⟨n,3,-1,0⟩):=by
   unfold fAa.root
   rw [if_neg (by rw [hh]; simp; omega),if_neg (by show ¬ rt k d ≠ 0; rw [h0]; simp)]
  rw [htk,if_neg (by simp)]
  refine ⟨n,by show (fAa.root k.caps 0 d n).1 = 0; rw [hroot],?_,by omega,by show (fAa.root k.caps 0 d n).2 = _; rw [hroot],rfl⟩
  rw [PK.refs_nn (by omega),Int.toNat_natCast,i2]; rfl
theorem chk {d:Nat} (h:d < 8):Word.check (cal d) 1 = 0/\IntKind.i64.wrap (d:Int) = d/\Cw (cal d):=by
 refine ⟨?_,bM (by omega) (by omega),⟨show (0:Int) <= 1 by decide,by show (0:Int) <= d; omega,Int.le_refl _,Int.le_refl _,Int.le_refl _⟩⟩
 have:d = 0\/d = 1\/d = 2\/d = 3\/d = 4\/d = 5\/d = 6\/d = 7:=by omega
 rcases this with h | h | h | h | h | h | h | h <;> subst h <;> rfl
theorem nuser (d:Int):bA (az (cal d)).1 = false:=by
 rw [tn (show 1 <= (cal d).e0/\(cal d).e0 <= 10\/20 <= (cal d).e0/\(cal d).e0 <= 23 from .inl ⟨show (1:Int) <= 1 by decide,show (1:Int) <= 10 by decide⟩)]
 show bA 1 = false
 decide
theorem does_cal {k:PK} {d:Nat} (h:d < 8) (hs:k.s.fIa = 1):PK.do_ k 0 (cal d) = PK.errs (PK.alloc k 0 d):=by
 rw [PK.do_good (PK.off_iff.2 (by rw [hs]; decide)) (by rw [hs]; exact (chk h).1)]
 unfold PK.does
 rw [if_pos (show IntKind.i64.wrap (cal d).e0 = 1 by show IntKind.i64.wrap 1 = 1; decide)]
 show PK.errs (PK.alloc k 0 (IntKind.i64.wrap (d:Int))) = _
 rw [(chk h).2.1]
def St (k:PK) (d:Nat) (e:bm):Prop:=(e.fHa = 0->rt k d = 0)/\(e.fHa ≠ 0->(e.fYa.fWa = 0/\rt k d ≠ 0)\/(e.fYa.fWa = 6/\rt k d = 0/\Full k))
structure J (n f m:Nat) (k:KK):Prop extends All k where
 s:k.p.s = sz n f
 evl:k.events.length = m
 mn:m <= n
 core:∀ d:Nat,d < m->∃ e,k.events[d]? = some e/\e.fQa = d/\St k.p d e
 call:∀ (d:Nat) x,k.calls[d]? = some (some x)->d < m/\x.fc = cal d/\x.fGa = 0/\x.fat = d
 free:∀ d:Nat,m <= d->d < 8->rt k.p d = 0
 apart:∀ a b:Nat,a < 8->b < 8->rt k.p a ≠ 0->rt k.p b ≠ 0->fr k.p a = fr k.p b->a = b
theorem J.post {n f m:Nat} {k:KK} (H:J n f m k) (hn:k.now < 2 ^ 40) (c:Int):J n f m (KK.post k c).2:=by
 obtain ⟨h1,h2,h3⟩:=post_same k c
 exact ⟨H.toAll.post hn c,by rw [h2]; exact H.s,by rw [h1]; exact H.evl,H.mn,by rw [h1,h2]; exact H.core,by rw [h3]; exact H.call,by rw [h2]; exact H.free,by rw [h2]; exact H.apart⟩
theorem J.clen {n f m:Nat} {k:KK} (H:J n f m k):k.calls.length = n:=by
 have h1:=H.inv.ok.cl
 rw [H.s] at h1
 have h2:(sz n f).fVa = n:=rfl
 omega
theorem J.begin {n f m:Nat} {k:KK} (H:J n f m k) (hn:k.now < 2 ^ 40) (hm:m < n) (hn8:n <= 8):(KK.begin_ k m 0 (cal m)).1 = true/\J n f (m + 1) (KK.begin_ k m 0 (cal m)).2:=by
 have hA:=H.toAll.begin hn m 0 (chk (d:=m) (by omega)).2.2
 have hcl:=H.clen
 have hi:KK.is k m = true:=by unfold KK.is; exact decide_eq_true (by omega)
 have hnb:KK.busy k m = false:=by
  cases hb:KK.busy k m with
  | false=>rfl
  | true =>
   obtain ⟨x,hx⟩:=(busy_nat (by omega)).1 hb
   have:=(H.call m x hx).1
   omega
 have hdo:=begin_does (x:=cal m) hi hnb (Int.le_refl 0) (by rw [H.s]; show (0:Int) < 1; decide)
 refine ⟨hdo,?_⟩
 rcases begin_or H.toIE hn m 0 (cal m) with ⟨h,_⟩ | ⟨_,d,hd0,hd,_,_,_,he,hp,hc,_⟩
 ·rw [hdo] at h; cases h
 have hdm:d = m:=by omega
 subst hdm
 have hev:=H.evl
 refine ⟨hA,by rw [hp]; exact H.s,by rw [he,List.length_append,hev]; rfl,hm,fun a ha=>?_,?_,fun a h1 h2=>by rw [hp]; exact H.free a (by omega) h2,by rw [hp]; exact H.apart⟩
 ·rw [he,hp]
  by_cases h:a = d
  ·subst h
   exact ⟨KK.ev0 a 0 (cal a) (k.now + 1),by rw [List.getElem?_append_right (by omega),hev]; simp,rfl,fun _=>H.free a (Nat.le_refl _) (by omega),fun h=>absurd rfl h⟩
  ·obtain ⟨e,h1,h2,h3⟩:=H.core a (by omega)
   exact ⟨e,by rw [List.getElem?_append_left (by omega)]; exact h1,h2,h3⟩
 ·rw [hc]
  exact vF (P:=fun a x=>a < d + 1/\x.fc = cal a/\x.fGa = 0/\x.fat = a) (fun a x h=>by
   obtain ⟨h1,h2⟩:=H.call a x h
   exact ⟨by omega,h2⟩) fun x hx=>by cases hx; exact ⟨by omega,rfl,rfl,by show ((k.events.length:Nat):Int) = d; rw [hev]⟩
theorem J.step {n f m:Nat} {k:KK} (hn8:n <= 8) (H:J n f m k) (hn:k.now < 2 ^ 40) (c:Int):J n f m (KK.step k c).2:=by
 rcases step_or H.toIE hn c with h | ⟨d,x,rfl,hx,st⟩
 ·rw [h]; exact H
 have hA:=H.toAll.step hn d
 obtain ⟨hc0,hc1,hc2,hc3⟩:=H.call d x hx
 have hdl:=(List.getElem?_eq_some_iff.1 hx).1
 have hcl:=H.clen
 have hd8:d < 8:=by omega
 have hs1:k.p.s.fIa = 1:=by rw [H.s]; rfl
 cases st with
 | wait y he hp hc h1 h2 h3 =>
  refine ⟨hA,by rw [hp]; exact H.s,by rw [he]; exact H.evl,H.mn,by rw [he,hp]; exact H.core,?_,by rw [hp]; exact H.free,by rw [hp]; exact H.apart⟩
  rw [hc]
  refine vF (P:=fun a x=>a < m/\x.fc = cal a/\x.fGa = 0/\x.fat = a) H.call fun z hz=>?_
  cases hz
  rw [h1,h2,h3]; exact ⟨hc0,hc1,hc2,hc3⟩
 | user i e0 h0 hm hz hcl hen hco hu he hp hc =>
  rw [hc1,nuser] at hu; cases hu
 | does i e0 h0 hm hz hcl' hen hco hu he hp hc =>
  have hid:i = d:=by omega
  subst hid
  rw [hc1,hc2,does_cal hd8 hs1] at he hp
  have hhas:fAa.has k.p.caps 0 i = true:=(PK.has_iff H.inv.F.ok).2 ⟨PK.off_iff.2 (by rw [hs1]; decide),by omega,by omega⟩
  obtain ⟨e1,g1,g2,g3⟩:=H.core i hc0
  rw [h0] at g1; cases g1
  have hr0:=g3.1 hz
  have hpos:k.now + 1 ≠ 0:=by have:=H.inv.ok.n0; omega
  have hil:=(List.getElem?_eq_some_iff.1 h0).1
  have rest:∀ (k':PK),(KK.step k i).2.p = k'->k'.s = k.p.s->St k' i (KK.evend e0 (k.now + 1) (PK.errs (PK.alloc k.p 0 i)).1.1 iB)->(∀ a:Nat,a < 8->a ≠ i->rt k' a = rt k.p a/\fr k' a = fr k.p a)->(Full k.p->Full k')->(∀ a:Nat,a < 8->a ≠ i->rt k' i ≠ 0->rt k.p a ≠ 0->fr k' i ≠ fr k.p a)->J n f m (KK.step k i).2:=by
   intro k' hk hs hst hget hfull hap
   refine ⟨hA,by rw [hk,hs]; exact H.s,by rw [he,List.length_set]; exact H.evl,H.mn,fun a ha=>?_,?_,fun a h1 h2=>?_,fun a b h1 h2 h3 h4 h5=>?_⟩
   ·rw [he,hk]
    have hml:=H.mn
    by_cases h:a = i
    ·subst h
     exact ⟨KK.evend e0 (k.now + 1) (PK.errs (PK.alloc k.p 0 a)).1.1 iB,by rw [List.getElem?_set,if_pos rfl,if_pos hil],g2,hst⟩
    ·obtain ⟨e,q1,q2,q3⟩:=H.core a ha
     refine ⟨e,by rw [List.getElem?_set,if_neg (fun x=>h x.symm)]; exact q1,q2,?_⟩
     by_cases ha8:a < 8
     ·have:=hget a ha8 h
      unfold St at q3 ⊢
      rw [this.1]
      refine ⟨q3.1,fun hx=>?_⟩
      rcases q3.2 hx with h | h
      ·exact .inl h
      ·exact .inr ⟨h.1,h.2.1,hfull h.2.2⟩
     ·omega
   ·rw [hc]
    exact vF (P:=fun a x=>a < m/\x.fc = cal a/\x.fGa = 0/\x.fat = a) H.call fun z hz=>by cases hz
   ·rw [hk]
    rw [(hget a h2 (by omega)).1]; exact H.free a h1 h2
   ·rw [hk] at h3 h4 h5
    by_cases ha:a = i
    ·by_cases hb:b = i
     ·rw [ha,hb]
     ·subst ha
      rw [(hget b h2 hb).2] at h5
      rw [(hget b h2 hb).1] at h4
      exact absurd h5 (hap b h2 hb h3 h4)
    ·by_cases hb:b = i
     ·subst hb
      rw [(hget a h1 ha).2] at h5
      rw [(hget a h1 ha).1] at h3
      exact absurd h5.symm (hap a h1 ha h4 h3)
     ·rw [(hget a h1 ha).1] at h3
      rw [(hget b h2 hb).1] at h4
      rw [(hget a h1 ha).2,(hget b h2 hb).2] at h5
      exact H.apart a b h1 h2 h3 h4 h5
  rcases alloc_or H.inv.F hhas hr0 with ⟨ha,hfl⟩ | ⟨g,a1,a2,a3,a4,a5⟩
  ·refine rest k.p (by rw [hp,ha]; rfl) rfl ⟨fun h=>absurd h hpos,fun _=>.inr ⟨by rw [ha]; rfl,hr0,hfl⟩⟩ (fun _ _ _=>⟨rfl,rfl⟩) id (fun a _ _ h=>absurd hr0 h)
  ·have row:=H.inv.F.ok.tree.row
   have hget:∀ a:Nat,a < 8->fAa.get (PK.alloc k.p 0 i).2.caps 0 a = if a = i then ⟨g,3,-1,0⟩ else fAa.get k.p.caps 0 a:=by
    intro a ha
    have hha:fAa.has k.p.caps 0 a = true:=(PK.has_iff H.inv.F.ok).2 ⟨PK.off_iff.2 (by rw [hs1]; decide),by omega,by omega⟩
    rw [a4,fAa.get_put row hhas hha]
    by_cases e:a = i
    ·rw [if_pos ⟨rfl,by rw [e]⟩,if_pos e]
    ·rw [if_neg (fun h=>e (by omega)),if_neg e]
   have hpl:=H.inv.F.ok.pl
   refine rest (PK.alloc k.p 0 i).2 hp (alloc_s _ _ _) ⟨fun h=>absurd h hpos,fun _=>.inl ⟨a1,?_⟩⟩ (fun a h1 h2=>?_) (fun hf x x0 x1=>?_) (fun a h1 h2 _ h4=>?_)
   ·unfold rt; rw [hget i hd8,if_pos rfl]; show (3:Int) ≠ 0; decide
   ·unfold rt fr; rw [hget a h1,if_neg h2]; exact ⟨rfl,rfl⟩
   ·rw [a5]
    have:=PK.refs_set (p:=k.p.pool) (i:=(g:Int)) (by omega) (by omega) 1 x x0
    rw [Int.toNat_natCast] at this
    rw [this]
    split
    ·decide
    ·rw [alloc_s] at x1; exact hf x x0 x1
   ·show fr (PK.alloc k.p 0 i).2 i ≠ fr k.p a
    unfold fr; rw [hget i hd8,if_pos rfl]
    intro e
    have hha:fAa.has k.p.caps 0 a = true:=(PK.has_iff H.inv.F.ok).2 ⟨PK.off_iff.2 (by rw [hs1]; decide),by omega,by omega⟩
    have:=fAa.cnt_pos (f:=(g:Int)) row hha h4 e.symm
    have hnum:=H.inv.F.num g (by omega) a3
    show False
    omega
theorem closed {n f m:Nat} (hn8:n <= 8):Closed (J n f m):=⟨fun A=>A.inv,fun A hn c=>A.post hn c,fun A hn c=>A.step hn8 hn c⟩
theorem j0 {n f:Nat} (h:PK.sized (sz n f) = true):J n f 0 (KK.new (sz n f)):=by
 have hz:∀ d:Nat,rt (KK.new (sz n f)).p d = 0:=by
  intro d
  show (fAa.get (List.replicate _ (List.replicate 8 kP)) 0 d).fBa = 0
  unfold fAa.get
  simp only [List.getD_eq_getElem?_getD,List.getElem?_replicate]
  split
  ·simp only [Option.getD_some,List.getElem?_replicate]
   split <;> rfl
  ·rfl
 refine ⟨all_new h,rfl,rfl,Nat.zero_le _,fun d h=>absurd h (Nat.not_lt_zero d),fun d x h=>absurd h (se _ d x),fun d _ _=>hz d,fun a b _ _ h=>absurd (hz a) h⟩
def jZ (k:PK):Nat->List Int
 | 0=>[]
 | t + 1=>if rt k t ≠ 0 then jZ k t++[fr k t] else jZ k t
theorem tm {k:PK} {x:Int}:∀ {t:Nat},x ∈ jZ k t↔∃ d:Nat,d < t/\rt k d ≠ 0/\fr k d = x
 | 0=>by simp [jZ]
 | t + 1=>by
  have ih:=tm (k:=k) (x:=x) (t:=t)
  rw [jZ]
  by_cases h:rt k t ≠ 0
  ·rw [if_pos h,List.mem_append,ih,List.mem_singleton]
   constructor
   ·rintro (⟨d,h1,h2⟩ | h1)
    ·exact ⟨d,by omega,h2⟩
    ·exact ⟨t,by omega,h,h1.symm⟩
   ·rintro ⟨d,h1,h2,h3⟩
    by_cases e:d = t
    ·subst e; exact .inr h3.symm
    ·exact .inl ⟨d,by omega,h2,h3⟩
  ·rw [if_neg h,ih]
   constructor
   ·rintro ⟨d,h1,h2⟩; exact ⟨d,by omega,h2⟩
   ·rintro ⟨d,h1,h2,h3⟩
    by_cases e:d = t
    ·subst e; exact absurd h2 h
    ·exact ⟨d,by omega,h2,h3⟩
theorem frames_nd {n f m:Nat} {k:KK} (H:J n f m k):∀ {t:Nat},t <= 8->(jZ k.p t).Nodup
 | 0,_=>.nil
 | t + 1,ht=>by
  have ih:=frames_nd H (t:=t) (by omega)
  rw [jZ]
  split
  ·rename_i h
   refine List.nodup_append.2 ⟨ih,List.pairwise_singleton _ _,fun x hx y hy=>?_⟩
   rw [List.mem_singleton] at hy
   subst hy
   rintro rfl
   obtain ⟨d,h1,h2,h3⟩:=tm.1 hx
   have:=H.apart d t (by omega) (by omega) h2 h h3
   omega
  ·exact ih
theorem frames_le (k:PK):∀ t:Nat,(jZ k t).length <= t
 | 0=>Nat.le_refl _
 | t + 1=>by
  have:=frames_le k t
  rw [jZ]
  split <;> simp <;> omega
theorem frames_all {k:PK}:∀ {t:Nat},(∀ d:Nat,d < t->rt k d ≠ 0)->(jZ k t).length = t
 | 0,_=>rfl
 | t + 1,h=>by
  rw [jZ,if_pos (h t (by omega)),List.length_append,frames_all fun d hd=>h d (by omega)]; rfl
theorem J.count {n f:Nat} {k:KK} (H:J n f n k) (hn8:n <= 8) (hi:∀ (d:Nat) x,k.calls[d]? ≠ some (some x)):(jZ k.p n).length = min n f:=by
 have hs1:k.p.s.fIa = 1:=by rw [H.s]; rfl
 have hsf:k.p.s.fAb = f:=by rw [H.s]; rfl
 have F:=H.inv.F
 have hlo:(jZ k.p n).length <= ((List.range f).map fun i:Nat=>(i:Int)).length:=nodup_le (frames_nd H hn8) fun x hx=>by
  obtain ⟨d,h1,h2,rfl⟩:=tm.1 hx
  have hh:fAa.has k.p.caps 0 d = true:=(PK.has_iff F.ok).2 ⟨PK.off_iff.2 (by rw [hs1]; decide),by omega,by omega⟩
  have:=PK.fine_frame F.ok.fine hh h2
  rw [hsf] at this
  exact List.mem_map.2 ⟨(fr k.p d).toNat,List.mem_range.2 (by show (fAa.get k.p.caps 0 d).fEa.toNat < f; omega),by show ((fAa.get k.p.caps 0 d).fEa.toNat:Int) = (fAa.get k.p.caps 0 d).fEa; omega⟩
 rw [List.length_map,List.length_range] at hlo
 have hle:=frames_le k.p n
 by_cases hall:∀ d:Nat,d < n->rt k.p d ≠ 0
 ·rw [frames_all hall] at hlo ⊢; omega
 ·have hex:∃ d:Nat,d < n/\rt k.p d = 0:=by
   refine Classical.byContradiction fun hno=>hall fun d hd h0=>hno ⟨d,hd,h0⟩
  obtain ⟨d,hd,h0⟩:=hex
  obtain ⟨e,q1,_,q3⟩:=H.core d hd
  have hen:=(H.toIE.ended hi e (List.mem_of_getElem? q1)).2
  have hfull:Full k.p:=by
   rcases q3.2 hen with h | h
   ·exact absurd h0 h.2
   ·exact h.2.2
  have hhi:((List.range f).map fun i:Nat=>(i:Int)).length <= (jZ k.p n).length:=nodup_le (by
   refine List.Pairwise.map _ (fun a b h e=>h ?_) List.nodup_range
   omega) fun x hx=>by
   obtain ⟨i,h1,rfl⟩:=List.mem_map.1 hx
   have h1:=List.mem_range.1 h1
   have hne:=hfull i (by omega) (by omega)
   have hnum:=F.num i (by omega) (by omega)
   obtain ⟨a,b,r,c,c1,c2,c3⟩:=fAa.cnt_ex (f:=(i:Int)) (t:=k.p.caps) (by omega)
   have hrl:=F.ok.tree.row r (List.mem_of_getElem? c1)
   have hal:=(List.getElem?_eq_some_iff.1 c1).1
   have hbl:=(List.getElem?_eq_some_iff.1 c2).1
   have hcl:=F.ok.cl
   have ha0:a = 0:=by omega
   subst ha0
   have hg:fAa.get k.p.caps 0 b = c:=by
    unfold fAa.get
    rw [Int.toNat_natCast,List.getD_eq_getElem?_getD,show (0:Int).toNat = 0 from rfl,List.getD_eq_getElem?_getD,c1,Option.getD_some,c2,Option.getD_some]
   unfold fAa.isF at c3
   simp only [Bool.and_eq_true,decide_eq_true_eq] at c3
   refine tm.2 ⟨b,?_,by unfold rt; rw [hg]; exact c3.1,by unfold fr; rw [hg]; exact c3.2⟩
   rcases Nat.lt_or_ge b n with h | h
   ·exact h
   ·have:=H.free b h (by omega)
    unfold rt at this
    rw [hg] at this
    exact absurd this c3.1
  rw [List.length_map,List.length_range] at hhi
  omega
theorem J.last {n f:Nat} {k:KK} (H:J n f n k) {d:Nat} (hd:d < n):∃ e,k.events[d]? = some e/\KK.last k d = e/\St k.p d e:=by
 obtain ⟨e,q1,q2,q3⟩:=H.core d hd
 refine ⟨e,q1,lastE_at q1 q2 fun j e' hj he=>?_,q3⟩
 have hlt:=(List.getElem?_eq_some_iff.1 he).1
 have hev:=H.evl
 obtain ⟨e2,q3,q4,_⟩:=H.core j (by omega)
 rw [he] at q3
 cases q3
 omega
end Alloc
end
section
open Go Mb
variable {ET:Nat} {EF:Nat × Nat}
open Alloc in
theorem sp_RaceAlloc (c g:Int) (s:Sl) (xs:List Int):Sp prog mz [.int .i64 c,.int .i64 g,sv s] aC [etB ET EF,vI s xs] (fun r=>pa_ (r = true) [etB ET EF,vI s xs]):=by
 intro h st
 refine rZ _ _ _ ?_
 unfold ll
 refine bP (i:=0) sp_begun16 rfl st fun r h1 hr s1=>?_
 subst hr
 refine dn rfl ?_
 have m1:=mod_in c (n:=6) (by decide)
 have m2:=mod_in g (n:=5) (by decide)
 have hw1:IntKind.i64.wrap (2 + (IntKind.i64.wrap (c.tmod 6 + 6)).tmod 6) = 2 + (IntKind.i64.wrap (c.tmod 6 + 6)).tmod 6:=bM (by omega) (by omega)
 have hw2:IntKind.i64.wrap (1 + (IntKind.i64.wrap (g.tmod 5 + 5)).tmod 5) = 1 + (IntKind.i64.wrap (g.tmod 5 + 5)).tmod 5:=bM (by omega) (by omega)
 obtain ⟨n,hn⟩:∃ n:Nat,2 + (IntKind.i64.wrap (c.tmod 6 + 6)).tmod 6 = n:=⟨(2 + (IntKind.i64.wrap (c.tmod 6 + 6)).tmod 6).toNat,by omega⟩
 obtain ⟨f,hf⟩:∃ f:Nat,1 + (IntKind.i64.wrap (g.tmod 5 + 5)).tmod 5 = f:=⟨(1 + (IntKind.i64.wrap (g.tmod 5 + 5)).tmod 5).toNat,by omega⟩
 have hn2:2 <= n/\n <= 7:=by omega
 have hf2:1 <= f/\f <= 5:=by omega
 rw [hw1,hn,hw2,hf]
 have hsz:PK.sized (sz n f) = true:=fA.2 ⟨show (1:Int) <= n by omega,show (n:Int) <= 8 by omega,show (1:Int) <= 1 by omega,show (1:Int) <= 4 by omega,show (1:Int) <= f by omega,show (f:Int) <= 16 by omega⟩
 refine mu (sp_kern_New (sz n f) hsz) s1 fun x h2 s2=>?_
 refine dn (kern_nn s2) ?_
 have s2:aF [cL x (KK.new (sz n f)),etB ET EF,vI s xs] h2:=s2
 have hl:=(cj (j:=2) s2 rfl).1
 refine Lp.intro (fun (i:Int) h=>∃ (m:Nat) (k:KK),i = m/\m <= n/\J n f m k/\k.now <= m/\aF [cL x k,etB ET EF,vI s xs] h) (fun (i:Int) _=>n - i.toNat) ⟨0,_,rfl,Nat.zero_le _,j0 hsz,Int.le_refl _,s2⟩ ?_
 rintro i h4 ⟨m,k,rfl,hm,H,hk,s4⟩
 unfold io
 rw [hw1,hn]
 refine aY (fun d=>?_) (fun d=>?_)
 ·have hlt:m < n:=by simpa using d
  have hw:IntKind.i64.wrap ((m:Int) + 1) = ((m + 1:Nat):Int):=by rw [bM (by omega) (by omega)]; rfl
  have hu:IntKind.u64.wrap (m:Int) = m:=wrapU (by omega) (by omega)
  rw [hu]
  refine bP (i:=0) (sp_kern_Begin x k m 0 (cal m) (by omega)) rfl s4 fun r h5 hr s5=>?_
  have hb:=KK.begin_now H.inv.ok.n0 (by omega) m 0 (cal m)
  obtain ⟨q1,q2⟩:=H.begin (by omega) hlt (by omega)
  rw [q1] at hr
  subst hr
  refine dn rfl ?_
  rw [hw]
  exact ⟨⟨m + 1,_,rfl,hlt,q2,by omega,s5⟩,by simp; omega⟩
 ·have hmn:m = n:=by simp at d; omega
  subst hmn
  refine Lp.intro (fun (i:Int) h=>∃ (a:Nat) (k:KK),i = a/\a <= xs.length/\a <= 60/\J m f m k/\k.now <= 2000 + a/\aF [cL x k,etB ET EF,vI s xs] h) (fun (i:Int) _=>xs.length - i.toNat) ⟨0,_,rfl,Nat.zero_le _,Nat.zero_le _,H,by omega,s4⟩ ?_
  rintro i h5 ⟨a,k,rfl,ha,ha60,H,hk,s5⟩
  unfold im
  rw [hw1,hn]
  refine aY (fun d=>?_) (fun d=>?_)
  ·have hc:a < xs.length/\a < 60:=by rw [hl] at d; simp at d; omega
   have hlt:=hc.1
   have hw:IntKind.i64.wrap ((a:Int) + 1) = ((a + 1:Nat):Int):=by rw [bM (by omega) (by omega)]; rfl
   refine dy s5 (j:=2) rfl (by omega) (by omega) fun q hq=>?_
   refine eB (j:=2) (i:=a) (k:=0) xs[a] (dh _) s5 rfl hq rfl (aH hlt) (by simp) ?_
   refine ⟨by omega,?_⟩
   refine bP (i:=0) (sp_kern_Step x k _ (by omega)) rfl s5 fun _ h6 _ s6=>?_
   have hb:=KK.step_now H.inv.ok.n0 (by omega) ((IntKind.i64.wrap (xs[a].tmod m + m)).tmod m)
   rw [hw]
   exact ⟨⟨a + 1,_,rfl,hlt,by omega,H.step (by omega) (by omega) _,by omega,s6⟩,by simp; omega⟩
  ·have hep:(k.fFa.1.length:Int) <= 2060:=by have:=H.inv.ok.epn; omega
   have S:=settle_settled (m:=997) (closed (n:=m) (f:=f) (m:=m) (by omega)) (cores:=m) H (by rw [H.clen]; exact Nat.le_refl _) (by omega) (by omega) (by omega) (fun d y hy=>by rw [(H.call d y hy).2.1]; show (1:Int) ≠ 9; decide)
   refine bP (i:=0) (sp_Settle x k m 1000 (by omega) (Nat.le_refl _) (by omega)) rfl s5 fun r h6 hr s6=>?_
   have hr1:r = (KK.settle m (997 + 3) k).1:=hr.1
   rw [S.1] at hr1
   subst hr1
   refine dn rfl ?_
   have s6:aF [cL x (KK.settle m (997 + 3) k).2,etB ET EF,vI s xs] h6:=s6
   have H':=S.2.all
   have hid:=S.2.idle
   have hno:=S.2.now
   generalize (KK.settle m (997 + 3) k).2 = k' at s6 H' hid hno
   have hen:=H'.toIE.ended hid
   have hno':k'.now < 2 ^ 36:=by omega
   have hs1:k'.p.s.fIa = 1:=by rw [H'.s]; rfl
   refine makeMap_L (val:=fun x:Bool=>.bool x) .i64 rfl s6 fun b h7 s7=>?_
   refine Lp.intro (fun (z:Int) h=>∃ t:Nat,z = t/\t <= m/\aF [mapL .i64 b (fun x:Bool=>.bool x) ((jZ k'.p t).map fun x=>(x,true)),cL x k',etB ET EF,vI s xs] h) (fun (z:Int) _=>m - z.toNat) ⟨0,rfl,Nat.zero_le _,s7⟩ ?_
   rintro z h8 ⟨t,rfl,ht,s8⟩
   unfold il
   rw [hw1,hn,hw2,hf]
   refine aY (fun d=>?_) (fun d=>?_)
   ·have hlt:t < m:=by simpa using d
    have hw:IntKind.i64.wrap ((t:Int) + 1) = ((t + 1:Nat):Int):=by rw [bM (by omega) (by omega)]; rfl
    rw [hw]
    obtain ⟨e,q1,q2,q3⟩:=H'.last hlt
    have hef:=(hen _ (List.mem_of_getElem? q1)).2
    have hhas:fAa.has k'.p.caps 0 t = true:=(PK.has_iff H'.inv.F.ok).2 ⟨PK.off_iff.2 (by rw [hs1]; decide),by omega,by omega⟩
    refine bP (i:=1) (sp_kern_Cap x k' 0 t) rfl s8 fun r h9 hr s9=>?_
    refine bP (i:=1) (sp_last x k' t (by omega)) rfl s9 fun r2 h10 hr2 s10=>?_
    rw [q2] at hr2
    subst hr2
    refine eF _ (field_ans _) (eF _ (field_err _) ?_)
    have s10:aF [mapL .i64 b (fun x:Bool=>.bool x) ((jZ k'.p t).map fun x=>(x,true)),cL x k',etB ET EF,vI s xs] h10:=s10
    rcases q3.2 hef with ⟨e1,e2⟩ | ⟨e1,e2,_⟩
    ·rw [PK.at_of hhas e2] at hr
     subst hr
     refine dL (by rw [e1]; rfl) ?_
     have hno:fr k'.p t ∉ ((jZ k'.p t).map fun x=>(x,true)).map (·.1):=by
      rw [List.map_map]
      intro hm
      obtain ⟨y,hy,rfl⟩:=List.mem_map.1 hm
      obtain ⟨d2,d3,d4,d5⟩:=tm.1 hy
      have:=H'.apart d2 t (by omega) (by omega) d4 e2 d5
      omega
     refine lookup_L (j:=0) ku s10 rfl false ?_ ?_
     ·rw [show (fAa.get k'.p.caps 0 t,true).1.fEa = fr k'.p t from rfl,fi_none hno]; rfl
     ·refine dn rfl (dn rfl ?_)
      refine update_L (j:=0) (w:=true) ku s10 rfl rfl hno fun h11 s11=>?_
      refine ⟨⟨t + 1,rfl,hlt,?_⟩,by simp; omega⟩
      rw [jZ,if_pos e2,List.map_append]
      exact s11
    ·have hat:fAa.at_ k'.p.caps 0 t = (kP,false):=by unfold fAa.at_; rw [if_neg (fun h=>h.2 e2)]
     rw [hat] at hr
     subst hr
     refine dn (by rw [e1]; rfl) (dL (by rw [e1]; rfl) ?_)
     refine bP (i:=1) (sp_last x k' t (by omega)) rfl s10 fun r3 h11 hr3 s11=>?_
     rw [q2] at hr3
     subst hr3
     refine eF _ (field_ans _) (eF _ (field_err _) ?_)
     refine dn (by rw [e1]; rfl) ?_
     refine ⟨⟨t + 1,rfl,hlt,?_⟩,by simp; omega⟩
     rw [jZ,if_neg (by rw [e2]; simp)]
     exact s11
   ·have htm:t = m:=by simp at d; omega
    subst htm
    have hcnt:=H'.count (by omega) hid
    refine len_L (j:=0) rfl ku s8 rfl ?_
    refine dL (by rw [List.length_map,hcnt]; unfold mn; simp; split <;> omega) ?_
    refine wh (i:=1) (ov x k' (by omega)) rfl s8 fun v h9 s9=>?_
    have hb20:k'.events.length <= 20:=by rw [H'.evl]; omega
    refine bP (i:=0) (sp_judge_Right v k'.events (sz t f) hsz (by omega) (ord20 v hb20)) rfl s9 fun r h10 hr s10=>?_
    have hR:=H'.toAll.right.1
    rw [H'.s] at hR
    exact aX (hr.trans hR) (ce (l:=[_,_,_]) s10)
end
section
open Go Mb Go.ChangeShapes Go.WideShapes Go.RowKit
theorem Tryz.own:ownKnob prog.godebug = none:=by kernel_rfl
theorem Tryz.et:prog.globalNamed "errors.errorType" = some 0:=by kernel_rfl
theorem Tryz.rt:(prog.cutTypes.find? (·.1 == "internal/reflectlite.rtype")).map (·.2) = some ry:=by kernel_rfl
abbrev laid:List (String × DataW Unit) := [("errors.errorType",Rows.laid_errors_errorType)]
theorem block_of_laid {W:World} (h:laidMetH prog laid W):∃ T F,W.heap[0]? = some (.cells #[rtV gx] T F):=by
 have h':laidMet prog [] W/\handlesMet prog laid W:=h
 obtain ⟨name,u,ty,e1,e2,e3,e4,e5⟩:=h'.2 _ (List.mem_singleton.2 rfl)
 have en:name = [101,114,114,111,114]:=(Option.some.inj e1).symm
 subst en
 obtain rfl:=Option.some.inj (Tryz.rt.symm.trans e2)
 have hm:ty ∈ (List.range 351).filter fun t=>prog.rowNamed t [101,114,114,111,114]:=List.mem_filter.2 ⟨List.mem_range.2 (by rw [← g4]; exact e3),e4⟩
 rw [oneErr] at hm
 obtain rfl:=List.mem_singleton.1 hm
 have hh:typeHandle prog 199 = .pointer (some ⟨4,199,none⟩):=by kernel_rfl
 rw [hh] at e5
 unfold World.var? at e5
 rw [Tryz.et] at e5
 simp only [Option.bind_some] at e5
 split at e5
 ·rename_i cs T F hq
  cases e5
  exact ⟨T,F,hq⟩
 ·cases e5
noncomputable def laidWorld (os:Os):World :=
 let w0:=World.holding prog os ⟨#[],#[],[]⟩
 { w0 with heap:=w0.heap.modify 0 fun
   | .cells _ t frozen=>.cells #[rtV gx] t frozen
   | o=>o }
theorem laidWorld_met (os:Os) (args:Array Value):laidMetH prog laid ((laidWorld os).forCall (fun _ _=>0) ⟨#[],args,[]⟩).memory :=
 laidMetH_of_parts (laidMet_nil _ _) (by kernel_rfl)
theorem keptBut_same {w w':World} {may:MemPlace->Prop} (h1:w'.os = w.os) (h2:w'.output = w.output) (h:∀ i,i < w.heap.size->w'.heap[i]? = w.heap[i]?):w.keptBut w' may:=by
 refine ⟨h1,h2,fun i hi=>?_⟩
 have:=(World.keptBut_refl w may).2.2 i hi
 rw [h i hi]
 exact this
def kindsB (P:Program) (fn:Func) (c:OpenClaim):Bool:=c.kinds == (if c.domain.isEmpty then [] else fn.params.toList.map fun t=>match P.underlying t with | some (.int k)=>some k | _=>none)
theorem joined_split {P:Program} {f:FuncId} {fn:Func} {s:ChangeSpec} {c:OpenClaim} (h1:(c.wf (OpenSpec.ofChange s) && laidOutB P && mapsRowed P) = true)
  (h2:(fn.params.all (P.readableRec ·) && namedTie P c.named s.vars && (c.stops == []) && (P.stops == []) && (c.knobs == []) && (P.stopKnobs == [])) = true)
  (h3:(c.inPlace == P.inPlace f) = true) (h4:(c.unfollowed == P.unfollowed f) = true) (h5:(c.recurses == P.recurses f) = true) (h6:(c.named == P.varsNamed f) = true)
  (h7:((c.maps == (fn.params.toList++s.plain.varTypes P).any (P.mapsRec ·)) && (c.ifaces == (fn.params.toList++s.plain.varTypes P).any (P.ifacesRec ·)) && (c.mapsOut == P.mapsAmong fn.resultTypes.toList) &&
 (c.loops == (fn.params.toList++s.plain.varTypes P).any (P.loopsFrom ·)) && (c.wideKeys == (fn.params.toList++s.plain.varTypes P++fn.resultTypes.toList).any (P.wideKeysFrom ·)) &&
 s.vars.all (P.varReadable ·) && fn.resultTypes.all (fun t=>P.readableRec t && decide (t < P.types.size)) && (c.ifacesOut == fn.resultTypes.toList.any (P.ifacesRec ·)) && (c.loopsOut == fn.resultTypes.toList.any (P.loopsFrom ·))) = true)
  (h8:(c.plainKeys == P.plainKeys) = true) (h9:(c.shortTexts.isNone && P.stopsHeard && P.mayEnter && (c.lifted == P.liftsFinal) && (P.make == some c.make) && kindsB P fn c && (c.pinned == c.pinnedBy) &&
 (c.veiled == (fn.params.toList++s.plain.varTypes P++fn.resultTypes.toList).any (P.veiledRec ·)) && c.veiledFits P fn.params.toList (fn.params.toList++s.plain.varTypes P++fn.resultTypes.toList)) = true):joinedFacts P f fn s c = true:=by
 unfold joinedFacts
 unfold kindsB at h9
 rw [Bool.and_eq_true] at h1 h2 h7 h9
 simp only [Bool.and_eq_true] at h1 h2 h7 h9
 obtain ⟨⟨a1,a2⟩,a3⟩:=h1
 obtain ⟨⟨⟨⟨⟨b1,b2⟩,b3⟩,b4⟩,b5⟩,b6⟩:=h2
 obtain ⟨⟨⟨⟨⟨⟨⟨⟨c1,c2⟩,c3⟩,c4⟩,c5⟩,c6⟩,c7⟩,c8⟩,c9⟩:=h7
 obtain ⟨⟨⟨⟨⟨⟨⟨⟨d1,d2⟩,d3⟩,d4⟩,d5⟩,d6⟩,d7⟩,d8⟩,d9⟩:=h9
 simp only [Bool.and_eq_true]
 exact ⟨⟨⟨⟨⟨⟨⟨⟨⟨⟨⟨⟨⟨⟨⟨⟨⟨⟨⟨⟨⟨⟨⟨⟨⟨⟨⟨⟨⟨⟨⟨a1,a2⟩,a3⟩,b1⟩,b2⟩,b3⟩,b4⟩,b5⟩,b6⟩,h3⟩,h4⟩,h5⟩,h6⟩,c1⟩,c2⟩,c3⟩,c4⟩,c5⟩,c6⟩,c7⟩,c8⟩,c9⟩,h8⟩,d1⟩,d2⟩,d3⟩,d4⟩,d5⟩,d6⟩,d7⟩,d8⟩,d9⟩
end
section
open Go Mb Go.ChangeShapes Go.WideShapes Go.RowKit
inductive FK where
 | i (k:IntKind)
 | b
def FK.ok:FK->Value->Prop
 | .i k,v=>∃ n,v = .int k n/\(Lit.int k n).wf = true
 | .b,v=>∃ x,v = .bool x
def tM:List FK->List Value->Prop
 | [],[]=>True
 | k::ks,v::vs=>k.ok v/\tM ks vs
 | _,_=>False
theorem tM.app:∀ {ks ls:List FK} {vs ws:List Value},tM ks vs->tM ls ws->tM (ks++ls) (vs++ws)
 | [],_,[],_,_,h=>h
 | _::_,_,_::_,_,h,g=>⟨h.1,h.2.app g⟩
 | [],_,_::_,_,h,_=>h.elim
 | _::_,_,[],_,h,_=>h.elim
theorem tM.len:∀ {ks:List FK} {vs:List Value},tM ks vs->vs.length = ks.length
 | [],[],_=>rfl
 | _::_,_::_,h=>by simp [h.2.len]
 | [],_::_,h=>h.elim
 | _::_,[],h=>h.elim
def fldK (P:Program) (r:TypeId->Option (List FK)):Nat->List Field->Option (List FK)
 | _,[]=>some []
 | o,f::fs=>if f.offset = o then (r f.type).bind fun ks=>if ks.length = P.cellsOf f.type then (fldK P r (o + ks.length) fs).map (ks++·) else none else none
def flatK (P:Program):Nat->TypeId->Option (List FK)
 | 0,_=>none
 | n + 1,t=>match P.underlying t with
  | some (.int k)=>some [.i k]
  | some .bool=>some [.b]
  | some (.struct fs)=>(fldK P (flatK P n) 0 fs.toList).bind fun ks=>if ks.length = P.cellsOf t then some ks else none
  | some (.array m e)=>(flatK P n e).bind fun ks=>if ks.length = P.cellsOf e/\m * ks.length = P.cellsOf t then some (List.replicate m ks).flatten else none
  | _=>none
section
variable {H:Type} {enc:TypeId × Value->H} {P:Program} {W:World} {base:Nat} {sp:Nat->Bool} {held:Bool}
theorem trod_array {t e m fuel:Nat} {cs:List Value} {x:DataW H × List MemPlace} (ht:P.underlying t = some (.array m e)) (h:DataW.trod enc P W base sp held fuel t cs = some x) :
  ∃ (xs:List (DataW H × List MemPlace)) (n:Nat),fuel = n + 1/\x = (.agg (xs.map (·.1)),xs.flatMap (·.2))/\cs.length = P.cellsOf t/\xs.length = m /\
   ∀ i,i < m->DataW.trod enc P W base sp held n e ((cs.drop (i * P.cellsOf e)).take (P.cellsOf e)) = xs[i]?:=by
 cases fuel with
 | zero=>simp [DataW.trod] at h
 | succ n =>
  unfold DataW.trod at h
  rw [ht] at h
  split at h <;> simp_all
  obtain ⟨hl,xs,hp,hd⟩:=h
  refine ⟨xs,hd.symm,by simpa using mapM_some_length hp,fun i hi=>mapM_some_get hp i i (by simp [hi])⟩
theorem flatMap_nil {α β:Type} {f:α->List β} {xs:List α} (h:∀ x ∈ xs,f x = []):xs.flatMap f = []:=by
 rw [List.flatMap_eq_nil_iff]; exact h
theorem take_drop_take (cs:List Value) (o n:Nat):(cs.drop o).take n++cs.drop (o + n) = cs.drop o:=by
 rw [← List.drop_drop,List.take_append_drop]
theorem fld_fits {r:TypeId->Option (List FK)} {cs:List Value} {g:TypeId->List Value->Option (DataW H × List MemPlace)} (hr:∀ t ks cs x,r t = some ks->g t cs = some x->tM ks cs/\x.2 = []) :
  ∀ (fs:List Field) (o:Nat) (ks:List FK),fldK P r o fs = some ks->(∀ f ∈ fs,∃ x,g f.type ((cs.drop f.offset).take (P.cellsOf f.type)) = some x)->o + ks.length = cs.length->tM ks (cs.drop o)
 | [],o,ks,h,_,hl=>by
  simp only [fldK,Option.some.injEq] at h
  subst h
  have:cs.drop o = []:=List.drop_eq_nil_of_le (by simp at hl; omega)
  rw [this]; trivial
 | f::fs,o,ks,h,hx,hl=>by
  unfold fldK at h
  split at h
  ·rename_i ho
   obtain ⟨ks1,h1,h2⟩:=Option.bind_eq_some_iff.1 h
   split at h2
   ·rename_i hc
    obtain ⟨ks2,h3,rfl⟩:=Option.map_eq_some_iff.1 h2
    obtain ⟨x,hx1⟩:=hx f (by simp)
    have f1:=(hr _ _ _ _ h1 hx1).1
    have f2:=fld_fits hr fs (o + ks1.length) ks2 h3 (fun f' hf'=>hx f' (by simp [hf'])) (by simp at hl; omega)
    rw [ho,← hc] at f1
    have:=f1.app f2
    rwa [take_drop_take] at this
   ·cases h2
  ·cases h
theorem arr_fits {ks:List FK} {c:Nat} (hc:ks.length = c):∀ (m:Nat) (cs:List Value),cs.length = m * c->(∀ i,i < m->tM ks ((cs.drop (i * c)).take c))->tM (List.replicate m ks).flatten cs
 | 0,cs,hl,_=>by
  have:cs = []:=List.eq_nil_of_length_eq_zero (by simpa using hl)
  subst this; trivial
 | m + 1,cs,hl,h=>by
  rw [List.replicate_succ,List.flatten_cons]
  have h0:=h 0 (by omega)
  simp only [Nat.zero_mul,List.drop_zero] at h0
  have h1:=arr_fits hc m (cs.drop c) (by rw [List.length_drop,hl,Nat.succ_mul]; omega) (fun i hi=>by
   have:=h (i + 1) (by omega)
   rwa [List.drop_drop,Nat.add_comm,← Nat.succ_mul])
  have:=h0.app h1
  rwa [List.take_append_drop] at this
theorem trod_flat:∀ (n t:Nat) (ks:List FK),flatK P n t = some ks->∀ (fuel:Nat) (cs:List Value) (x:DataW H × List MemPlace),DataW.trod enc P W base sp held fuel t cs = some x->tM ks cs/\x.2 = []
 | 0,_,_,h,_,_,_,_=>by cases h
 | n + 1,t,ks,h,fuel,cs,x,hx=>by
  have ih:=trod_flat n
  unfold flatK at h
  split at h
  ·rename_i k hu
   cases h
   obtain ⟨m,rfl,rfl,hw⟩:=DataW.trod_int hu hx
   exact ⟨⟨⟨m,rfl,hw⟩,trivial⟩,rfl⟩
  ·rename_i hu
   cases h
   obtain ⟨b,rfl,rfl⟩:=DataW.trod_bool hu hx
   exact ⟨⟨⟨b,rfl⟩,trivial⟩,rfl⟩
  ·rename_i fs hu
   obtain ⟨ks',h1,h2⟩:=Option.bind_eq_some_iff.1 h
   split at h2
   ·rename_i hc
    cases h2
    obtain ⟨xs,f,rfl,rfl,hl,hxl,hi⟩:=DataW.trod_struct hu hx
    have hall:∀ fl ∈ fs.toList,∃ x,DataW.trod enc P W base sp held f fl.type ((cs.drop fl.offset).take (P.cellsOf fl.type)) = some x:=by
     intro fl hfl
     obtain ⟨i,hi1,hi2⟩:=List.getElem_of_mem hfl
     have:=hi i fl (by rw [← Array.getElem?_toList,List.getElem?_eq_getElem hi1,hi2])
     have hlt:i < xs.length:=by rw [hxl]; simpa using hi1
     rw [List.getElem?_eq_getElem hlt] at this
     exact ⟨_,this⟩
    refine ⟨?_,flatMap_nil fun y hy=>?_⟩
    ·have:=fld_fits (P:=P) (cs:=cs) (fun t ks cs x h=>ih t ks h f cs x) fs.toList 0 ks h1 hall (by rw [hc,hl]; omega)
     simpa using this
    ·obtain ⟨i,hi1,rfl⟩:=List.getElem_of_mem hy
     have hif:i < fs.size:=by rw [← hxl]; exact hi1
     have h3:=hi i fs[i] (by simp [hif])
     rw [List.getElem?_eq_getElem hi1] at h3
     have key:∀ (l:List Field) (o:Nat) (ks:List FK),fldK P (flatK P n) o l = some ks->∀ fl ∈ l,∃ ks,flatK P n fl.type = some ks:=by
      intro l
      induction l with
      | nil=>intro _ _ _ fl h; cases h
      | cons a l ihl =>
       intro o ks hk fl hfl
       unfold fldK at hk
       split at hk
       ·obtain ⟨k1,hk1,hk2⟩:=Option.bind_eq_some_iff.1 hk
        rcases List.mem_cons.1 hfl with rfl | hfl
        ·exact ⟨_,hk1⟩
        ·split at hk2
         ·obtain ⟨k2,hk3,_⟩:=Option.map_eq_some_iff.1 hk2
          exact ihl _ _ hk3 fl hfl
         ·cases hk2
       ·cases hk
     obtain ⟨ks2,hks2⟩:=key _ _ _ h1 fs[i] (by simp)
     exact (ih _ _ hks2 _ _ _ h3).2
   ·cases h2
  ·rename_i m e hu
   obtain ⟨ks',h1,h2⟩:=Option.bind_eq_some_iff.1 h
   split at h2
   ·rename_i hc
    cases h2
    obtain ⟨xs,f,rfl,rfl,hl,hxl,hi⟩:=trod_array hu hx
    have hat:∀ i,i < m->∃ x,xs[i]? = some x/\DataW.trod enc P W base sp held f e ((cs.drop (i * P.cellsOf e)).take (P.cellsOf e)) = some x:=fun i him=>by
     have:=hi i him
     rw [List.getElem?_eq_getElem (by omega)] at this
     exact ⟨_,List.getElem?_eq_getElem (by omega),this⟩
    refine ⟨arr_fits (by exact hc.1) m cs (by rw [hl,← hc.2,hc.1]) (fun i him=>?_),flatMap_nil fun y hy=>?_⟩
    ·obtain ⟨x,_,hx2⟩:=hat i him
     exact (ih _ _ h1 _ _ _ hx2).1
    ·obtain ⟨i,hi1,rfl⟩:=List.getElem_of_mem hy
     obtain ⟨x,hx1,hx2⟩:=hat i (by omega)
     rw [List.getElem?_eq_getElem hi1] at hx1
     cases hx1
     exact (ih _ _ h1 _ _ _ hx2).2
   ·cases h2
  ·cases h
end
structure Arg {τ:Type} (W:World) (m:Nat) (enc:τ->List Value) (s:Sl) (xs:List τ):Prop where
 len:s.len = xs.length
 cap:s.len <= s.cap
 row:s.cap = 0\/∃ b pre rest U fr,s.a = some (b,pre.length)/\s.cap * m <= s.len * m + rest.length/\s.g = some (pre,rest,U,fr)/\nf fr pre.length (s.cap * m)/\b ≠ 0/\W.heap[b]? = some (.cells (pre++(xs.flatMap enc++rest)).toArray U fr)
section
variable {H:Type} {enc:TypeId × Value->H} {P:Program} {W:World}
theorem has_spot {r:Reach} {b0:Nat} {t e:TypeId} {a:Addr} {len cap:Nat} (ht:P.underlying t = some (.slice e)) (h:Value.okWide P W r b0 t (.slice (some a) len cap)):a.spot = none/\∃ c T fr,W.heap[a.block]? = some (.cells c T fr):=by
 unfold Value.okWide at h
 rw [ht] at h
 unfold Cell.okWide at h
 rw [ht] at h
 simp only at h
 unfold Cell.ok at h
 rw [ht] at h
 simp only at h
 obtain ⟨_,_,_,hs,row,cells,h1,_⟩:=h
 refine ⟨hs,?_⟩
 unfold World.shape? at h1
 split at h1
 ·rename_i c T fr hq
  exact ⟨_,_,_,hq⟩
 ·cases h1
theorem open_arg {τ:Type} {b0 m:Nat} {t e:TypeId} {ks:List FK} {enc':τ->List Value} {v:Value} {d:DataW H} {ps:List MemPlace} {ET:Nat} {EF:Nat × Nat} {X:Value} (ht:P.underlying t = some (.slice e)) (hm:P.cellsOf e = m) (hk:flatK P 9 e = some ks) (hpos:0 < m)
  (dec:∀ cs,tM ks cs->∃ x:τ,enc' x = cs) (hval:Value.okWide P W .any b0 t v) (hd:DataW.Trod enc P W 0 (fun _=>true) true t v d ps) (hz:W.noneFrozen ps)
  (hw:W.heap[0]? = some (.cells #[X] ET EF)) (hX:∀ k,¬ FK.ok k X):∃ (s:Sl) (xs:List τ),v = sv s/\Arg W m enc' s xs:=by
 obtain ⟨a0,len0,kP,rfl⟩:=okWide_slice ht hval
 obtain ⟨fuel,hf⟩:=hd
 rcases Go.Deep.open_slice ht hf with ⟨h1,_⟩ | ⟨a,len,cap,mm,n,D,Pl,h1,_,hl,_,hmm,hx,hi⟩
 ·simp only [Value.cells,List.cons.injEq,Value.slice.injEq,and_true] at h1
  obtain ⟨rfl,rfl,rfl⟩:=h1
  exact ⟨⟨none,0,0,none⟩,[],rfl,rfl,Nat.le_refl _,.inl rfl⟩
 ·simp only [Value.cells,List.cons.injEq,Value.slice.injEq,and_true] at h1
  obtain ⟨rfl,rfl,rfl⟩:=h1
  simp only [if_true] at hmm
  subst hmm
  obtain ⟨hs,c,T,fr,hb⟩:=has_spot ht hval
  obtain ⟨b,off,spot⟩:=a
  simp only at hs hb
  subst hs
  by_cases hc0:mm = 0
  ·subst hc0
   obtain rfl:len0 = 0:=by omega
   exact ⟨⟨some (b,off),0,0,none⟩,[],rfl,rfl,Nat.le_refl _,.inl rfl⟩
  rw [hm] at hi hx
  have lb:∀ i,i < mm->∃ x:τ,(enc' x).length = m/\tM ks (enc' x)/\∀ j,j < m->c.toList[off + i * m + j]? = (enc' x)[j]?:=by
   intro i him
   obtain ⟨cs',h2,h3⟩:=hi i him
   obtain ⟨_,hlen,hget⟩:=World.cells?_some h2
   have hfit:=(trod_flat 9 e ks hk _ _ _ h3).1
   obtain ⟨x,rfl⟩:=dec cs' hfit
   refine ⟨x,hlen,hfit,fun j hj=>?_⟩
   have:=hget j hj
   rw [WideShapes.add_plain,WideShapes.add_plain] at this
   rw [← this]
   unfold World.cell?
   rw [hb]
   simp
  have hsize:off + mm * m <= c.toList.length:=by
   obtain ⟨x,hxl,_,hj⟩:=lb (mm - 1) (by omega)
   have h4:=hj (m - 1) (by omega)
   have h5:=(List.getElem?_eq_some_iff.1 (h4.trans (List.getElem?_eq_getElem (by omega)))).1
   have:mm * m = (mm - 1) * m + m:=by rw [← Nat.succ_mul]; congr 1; omega
   omega
  have hflat:∀ k,k <= mm->∃ ys:List τ,ys.length = k/\(c.toList.drop off).take (k * m) = ys.flatMap enc':=by
   intro k
   induction k with
   | zero=>exact fun _=>⟨[],rfl,by simp⟩
   | succ k ih =>
    intro hk1
    obtain ⟨ys,hy1,hy2⟩:=ih (by omega)
    obtain ⟨x,hxl,_,hj⟩:=lb k (by omega)
    refine ⟨ys++[x],by simp [hy1],?_⟩
    rw [Nat.succ_mul,List.take_add,hy2,List.flatMap_append]
    congr 1
    simp only [List.flatMap_cons,List.flatMap_nil,List.append_nil]
    apply List.ext_getElem?
    intro j
    rw [List.drop_drop,List.getElem?_take,List.getElem?_drop]
    by_cases hjm:j < m
    ·rw [if_pos hjm,← hj j hjm]
    ·rw [if_neg hjm,List.getElem?_eq_none (by omega)]
  obtain ⟨xs,hx1,hx2⟩:=hflat len0 hl
  have hlm:len0 * m <= mm * m:=Nat.mul_le_mul_right m hl
  refine ⟨⟨some (b,off),len0,mm,some (c.toList.take off,c.toList.drop (off + len0 * m),T,fr)⟩,xs,rfl,hx1.symm,hl,.inr ⟨b,c.toList.take off,c.toList.drop (off + len0 * m),T,fr,?_,?_,rfl,?_,?_,?_⟩⟩
  ·rw [List.length_take,Nat.min_eq_left (by omega)]
  ·show mm * m <= len0 * m + _
   rw [List.length_drop]; omega
  ·rw [List.length_take,Nat.min_eq_left (by omega)]
   intro j j1 j2
   have j2':j < off + mm * m:=j2
   have hp:MemPlace.cell b j ∈ ps:=by
    have hps:=congrArg Prod.snd hx
    simp only at hps
    rw [hps]
    refine List.mem_append_left _ (List.mem_map.2 ⟨j - off,List.mem_range.2 (by omega),?_⟩)
    show MemPlace.cell b (off + (j - off)) = _
    congr 1; omega
   have:=hz b j hp
   unfold World.frozen? at this
   simp only [hb] at this
   exact this
  ·rintro rfl
   rw [hw] at hb
   cases hb
   obtain ⟨x,hxl,hfit,hj⟩:=lb 0 (by omega)
   have h4:=hj 0 hpos
   simp only [Nat.zero_mul,Nat.add_zero] at h4
   cases hks:ks with
   | nil=>subst hks; have:=hfit.len; simp at this; simp [this] at hxl; omega
   | cons k ks' =>
    subst hks
    cases hex:enc' x with
    | nil=>rw [hex] at hxl; simp at hxl; omega
    | cons y ys =>
     rw [hex] at hfit h4
     simp only [List.getElem?_cons_zero] at h4
     have h5:y = X:=by
      cases off with
      | zero=>simpa using h4.symm
      | succ o=>simp at h4
     exact hX k (h5 ▸ hfit.1)
  ·rw [hb]
   congr 2
   apply Array.ext'
   show c.toList = c.toList.take off++(xs.flatMap enc'++c.toList.drop (off + len0 * m))
   rw [← hx2,← List.drop_drop,List.take_append_drop,List.take_append_drop]
theorem trodAll_stays (hl:laidOutB P = true) {W':World} {sp':Nat->Bool}:∀ {ts:List TypeId} {vs:List Value} {ds:List (DataW H)} {ps:List MemPlace},(∀ t ∈ ts,P.readableRec t = true/\t < P.types.size) ->
  DataW.TrodAll enc P W 0 (fun _=>true) true ts vs ds ps->(∀ p ∈ ps,W.sameAt W' p)->(∀ p ∈ ps,sp' p.block = true)->DataW.TrodAll enc P W' 0 sp' true ts vs ds ps
 | [],_,_,_,_,h,_,_=>by
  obtain ⟨rfl,rfl,rfl⟩:=trodAll_nil h
  rfl
 | t::ts,_,_,_,hr,h,hs,hp=>by
  obtain ⟨v,vs,d,ds,a,b,rfl,rfl,rfl,h1,h2⟩:=trodAll_cons h
  exact ⟨a,b,Go.WideElems.Trod_stays hl (hr t (by simp)).1 (hr t (by simp)).2 h1 (fun p q=>hs p (by simp [q])) (fun p q=>hp p (by simp [q])),trodAll_stays hl (fun t q=>hr t (by simp [q])) h2 (fun p q=>hs p (by simp [q])) (fun p q=>hp p (by simp [q])),rfl⟩
end
end
end Go.Proofs.YtemoifebbhoinaaGreatDoor
