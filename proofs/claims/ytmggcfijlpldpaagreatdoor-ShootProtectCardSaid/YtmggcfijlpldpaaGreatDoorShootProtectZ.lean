/- The law ShootProtect returns true for every input, and leaves its arguments as they were. -/
import Derived.Test.YtmggcfijlpldpaaGreatDoorShootProtect15
import Derived.Test.YtmggcfijlpldpaaGreatDoorCards
import Derived.Test.YtmggcfijlpldpaaGreatDoorRows
import Derived.Test.YtmggcfijlpldpaaGreatDoorTie
set_option linter.all false
set_option maxRecDepth 20000
namespace Go.Proofs.YtmggcfijlpldpaaGreatDoor
open Go Mb
abbrev Pick:=dK
abbrev vK (s:Sl) (xs:List Pick):As:=vec t_api_Pick 10 dK.C s xs
theorem pick_len (p:Pick):p.C.length = 10:=rfl
theorem pick_one (p:Pick):dC p.C = true:=rfl
namespace Fair
def longFrom (kind core:Int):List Pick→Int→Int→Int
  | [],best,_=>best
  | p::ps,best,now=>if p.fKind = kind∧p.fCore = core then longFrom kind core ps (mx best 0) 0 else longFrom kind core ps (mx best (IntKind.i64.wrap (now + 1))) (IntKind.i64.wrap (now + 1))
def longest (ps:List Pick) (kind core:Int):Int:=longFrom kind core ps 0 0
def okCore (ps:List Pick) (b:Int) (c:Nat):Bool:=decide (longest ps 2 c < b) && decide (longest ps 3 c < b)
def fair (ps:List Pick) (cores b:Int):Bool:=(List.range cores.toNat).all (okCore ps b)
def pk (kind:Int) (c:Nat):Pick:=⟨kind,c,0,⟨0,0,0,0,0⟩,0,0⟩
def line (kind:Int) (c:Nat):List Pick:=(List.range c).map (pk kind)
def lines (c:Nat) (kinds:List Int):List Pick:=kinds.flatMap fun k=>line k c
def turns (c n:Nat):List Pick:=(List.range n).flatMap fun _=>lines c [3,2]
def rounds (cores n:Int):List Pick:=if cores < 1∨cores > 8∨n < 0∨n > 500 then [] else turns cores.toNat n.toNat
theorem line_len (kind:Int) (c:Nat):(line kind c).length = c:=by simp [line]
theorem line_succ (kind:Int) (c:Nat):line kind (c + 1) = line kind c++[pk kind c]:=by simp [line,List.range_succ]
theorem turns_succ (c n:Nat):turns c (n + 1) = turns c n++lines c [3,2]:=by simp [turns,List.range_succ]
theorem lines_len (c:Nat):∀ (ks:List Int),(lines c ks).length = ks.length * c
  | []=>by simp [lines]
  | k::ks=>by
    have:=lines_len c ks
    simp only [lines,List.flatMap_cons,List.length_append,line_len,List.length_cons,Nat.succ_mul] at this ⊢
    omega
theorem turns_len (c n:Nat):(turns c n).length = n * (2 * c):=by
  induction n with
  | zero=>simp [turns]
  | succ n ih=>rw [turns_succ,List.length_append,ih,lines_len,Nat.add_mul n 1,Nat.one_mul]; rfl
end Fair
theorem sp_fair_Longest (s:Sl) (ps:List Pick) (kind core:Int) (hb:ps.length < 2 ^ 40):Sp Tryz.prog ou [sv s,.int .i64 kind,.int .i64 core] dW [vK s ps] (fun r=>pa_ (r = Fair.longest ps kind core) [vK s ps]):=by
  intro h s0
  have hl:=(cd (j:=0) s0 rfl).1
  refine sim_fair_Longest _ _ _ ?_
  unfold sh_fair_Longest
  refine Lp.intro (fun (z:Int × Int × Int) h=>∃ n:Nat,z.2.2 = n∧n ≤ ps.length∧Fair.longFrom kind core (ps.drop n) z.1 z.2.1 = Fair.longest ps kind core∧aC [vK s ps] h) (fun (z:Int × Int × Int) _=>ps.length - z.2.2.toNat) ⟨0,rfl,Nat.zero_le _,rfl,s0⟩ ?_
  rintro ⟨best,now,i⟩ h ⟨n,rfl,hn,he,s1⟩
  unfold qN
  simp only at he ⊢
  refine aV (fun k=>?_) (fun k=>?_)
  · have hlt:n < ps.length:=by rw [hl] at k; simpa using k
    have hw:IntKind.i64.wrap ((n:Int) + 1) = ((n + 1:Nat):Int):=by rw [bO (by omega) (by omega)]; rfl
    rw [List.drop_eq_getElem_cons hlt,Fair.longFrom] at he
    refine dv s1 (j:=0) rfl (by omega) (by omega) fun q hq=>?_
    refine dZ (j:=0) (i:=n) (k:=0) ps[n] pick_len s1 rfl hq rfl (aD hlt) (by simp) ?_
    rw [hw]
    refine aV (fun k2=>?_) (fun k2=>?_)
    · have k2':ps[n].fKind = kind∧ps[n].fCore = core:=by simpa using k2
      rw [if_pos k2'] at he
      exact ⟨⟨n + 1,rfl,hlt,he,s1⟩,by simp; omega⟩
    · have k2':¬ (ps[n].fKind = kind∧ps[n].fCore = core):=by simpa using k2
      rw [if_neg k2'] at he
      exact ⟨⟨n + 1,rfl,hlt,he,s1⟩,by simp; omega⟩
  · have:n = ps.length:=by rw [hl] at k; simp at k; omega
    subst this
    rw [List.drop_length] at he
    exact aU he s1
theorem sp_fair_Fair (s:Sl) (ps:List Pick) (cores b:Int) (hb:ps.length < 2 ^ 40) (hc:cores < 2 ^ 62):Sp Tryz.prog n_fair_Fair [sv s,.int .i64 cores,.int .i64 b] ay [vK s ps] (fun r=>pa_ (r = Fair.fair ps cores b) [vK s ps]):=by
  intro h s0
  refine sim_fair_Fair _ _ _ ?_
  unfold sh_fair_Fair
  refine Lp.intro (fun (i:Int) h=>∃ n:Nat,i = n∧n ≤ cores.toNat∧(∀ c,c < n→Fair.okCore ps b c = true)∧aC [vK s ps] h) (fun (i:Int) _=>cores.toNat - i.toNat) ⟨0,rfl,Nat.zero_le _,fun c hc=>by omega,s0⟩ ?_
  rintro i h ⟨n,rfl,hn,ho,s1⟩
  unfold wx
  refine aV (fun k=>?_) (fun k=>?_)
  · have hlt:n < cores.toNat:=by have:=of_decide_eq_true k; omega
    have hw:IntKind.i64.wrap ((n:Int) + 1) = ((n + 1:Nat):Int):=by rw [bO (by omega) (by omega)]; rfl
    have no:Fair.okCore ps b n = false→Fair.fair ps cores b = false:=fun hf=>by
      unfold Fair.fair
      cases ha:(List.range cores.toNat).all (Fair.okCore ps b) with
      | false=>rfl
      | true=>rw [List.all_eq_true.1 ha n (List.mem_range.2 hlt)] at hf; cases hf
    refine bK (sp_fair_Longest s ps 2 n hb) (i:=0) rfl s1 fun r h2 hr s2=>?_
    subst hr
    refine aV (fun k2=>?_) (fun k2=>?_)
    · have k2':Fair.longest ps 2 n < b:=by simpa using k2
      refine bK (sp_fair_Longest s ps 3 n hb) (i:=0) rfl s2 fun r h3 hr s3=>?_
      subst hr
      refine aV (fun k3=>?_) (fun k3=>?_)
      · have k3':¬ Fair.longest ps 3 n < b:=by simp at k3; omega
        exact aU (no (by simp [Fair.okCore,k3'])).symm s3
      · have k3':Fair.longest ps 3 n < b:=by simp at k3; omega
        rw [hw]
        refine ⟨⟨n + 1,rfl,hlt,fun c hc=>?_,s3⟩,by simp; omega⟩
        by_cases e:c = n
        · subst e; simp [Fair.okCore,k2',k3']
        · exact ho c (by omega)
    · have k2':¬ Fair.longest ps 2 n < b:=by simp at k2; omega
      exact aU (no (by simp [Fair.okCore,k2'])).symm s2
  · have:n = cores.toNat:=by have:=of_decide_eq_false k; omega
    subst this
    refine aU ?_ s1
    unfold Fair.fair
    exact (List.all_eq_true.2 fun c hc=>ho c (List.mem_range.1 hc)).symm
theorem sp_fair_Rounds (cores n:Int):Sp Tryz.prog uj [.int .i64 cores,.int .i64 n] nE [] (fun r=>aC [vK r (Fair.rounds cores n)]):=by
  intro h s0
  refine sim_fair_Rounds _ _ ?_
  unfold sh_fair_Rounds
  refine aV (fun k=>?_) (fun k=>?_)
  · have e1:Fair.rounds cores n = []:=if_pos (by simpa [or_assoc] using k)
    rw [e1]; exact fu s0
  · have k':¬ (cores < 1∨cores > 8∨n < 0∨n > 500):=by simp at k; omega
    have e1:Fair.rounds cores n = Fair.turns cores.toNat n.toNat:=if_neg k'
    rw [e1]
    obtain ⟨C,rfl⟩:=Int.eq_ofNat_of_zero_le (show 0 ≤ cores by omega)
    obtain ⟨N,rfl⟩:=Int.eq_ofNat_of_zero_le (show 0 ≤ n by omega)
    simp only [Int.toNat_natCast]
    refine eF (τ:=Pick) [] (val:=fun x=>.agg x.C.toArray) (enc:=dK.C) el_Sapi_Pick pick_len (fun _=>rfl) s0 rfl rfl (by simp) fun v h1 s1=>?_
    refine Lp.intro (fun (z:Sl × Int) h=>∃ j:Nat,z.2 = j∧j ≤ N∧aC [vK z.1 (Fair.turns C j)] h) (fun (z:Sl × Int) _=>N - z.2.toNat) ⟨0,rfl,Nat.zero_le _,s1⟩ ?_
    rintro ⟨z,i⟩ h ⟨j,rfl,hj,s2⟩
    unfold sP
    refine aV (fun k2=>?_) (fun k2=>?_)
    · have hlt:j < N:=by have:=of_decide_eq_true k2; simp at this; exact this
      have hw:IntKind.i64.wrap ((j:Int) + 1) = ((j + 1:Nat):Int):=by rw [bO (by omega) (by omega)]; rfl
      have htl:=Fair.turns_len C j
      have hC:C ≤ 8:=by omega
      have hjb:j * (2 * C) ≤ 500 * 16:=Nat.mul_le_mul (by omega) (by omega)
      refine eF (τ:=Int) [3,2] (val:=fun x=>.int .i64 x) (enc:=cI .i64) el_Sint (cX _) (fun _=>rfl) s2 rfl rfl (by decide) fun vk h3 s3=>?_
      have hvl:=(cd (j:=0) s3 rfl).1
      refine Lp.intro (fun (y:Sl × Int) h=>∃ m:Nat,y.2 = m∧m ≤ 2∧aC [vK y.1 (Fair.turns C j++Fair.lines C (([3,2]:List Int).take m)),vec kA 1 (cI .i64) vk [3,2]] h) (fun (y:Sl × Int) _=>2 - y.2.toNat) ⟨0,rfl,Nat.zero_le _,by
        have s4:=ba (m:=[vK z (Fair.turns C j),vec kA 1 (cI .i64) vk [3,2]]) [1] s3 rfl
        simpa [Fair.lines] using s4⟩ ?_
      rintro ⟨y,i2⟩ h ⟨m,rfl,hm,s4⟩
      unfold sO
      refine aV (fun k3=>?_) (fun k3=>?_)
      · have hlt2:m < 2:=by rw [hvl] at k3; have:=of_decide_eq_true k3; simp at this; omega
        have hw2:IntKind.i64.wrap ((m:Int) + 1) = ((m + 1:Nat):Int):=by rw [bO (by omega) (by omega)]; rfl
        have hkl:m < ([3,2]:List Int).length:=hlt2
        refine dv s4 (j:=1) rfl (by omega) (by simp; omega) fun q hq=>?_
        refine dZ (j:=1) (i:=m) (k:=0) ([3,2]:List Int)[m] (cX _) s4 rfl hq (by simp) (aD hkl) (by simp) ?_
        have hll:=Fair.lines_len C (([3,2]:List Int).take m)
        have hlb:(([3,2]:List Int).take m).length * C ≤ 2 * 8:=Nat.mul_le_mul (by simp; omega) (by omega)
        refine Lp.intro (fun (x:Sl × Int) h=>∃ p:Nat,x.2 = p∧p ≤ C∧aC [vK x.1 (Fair.turns C j++Fair.lines C (([3,2]:List Int).take m)++Fair.line ([3,2]:List Int)[m] p),vec kA 1 (cI .i64) vk [3,2]] h) (fun (x:Sl × Int) _=>C - x.2.toNat) ⟨0,rfl,Nat.zero_le _,by simpa [Fair.line] using s4⟩ ?_
        rintro ⟨x,i3⟩ h ⟨p,rfl,hp,s5⟩
        have hpl:=Fair.line_len ([3,2]:List Int)[m] p
        unfold sN
        refine aV (fun k4=>?_) (fun k4=>?_)
        · have hlt3:p < C:=by have:=of_decide_eq_true k4; simp at this; exact this
          have hw3:IntKind.i64.wrap ((p:Int) + 1) = ((p + 1:Nat):Int):=by rw [bO (by omega) (by omega)]; rfl
          refine kg (τ:=Pick) (i:=0) (enc:=dK.C) (val:=fun x=>.agg x.C.toArray) (x:=Fair.pk ([3,2]:List Int)[m] p) el_Sapi_Pick pick_len pick_one (fun _=>rfl) (by omega) rfl rfl s5 rfl (by simp only [List.length_append]; omega) (by simp only [List.length_append]; omega) fun v h6 s6=>?_
          rw [hw3]
          refine ⟨⟨p + 1,rfl,hlt3,?_⟩,by simp; omega⟩
          rw [Fair.line_succ,← List.append_assoc]
          exact s6
        · have:p = C:=by have:=of_decide_eq_false k4; simp at this; omega
          subst this
          rw [hw2]
          refine ⟨⟨m + 1,rfl,hlt2,?_⟩,by simp; omega⟩
          have et:([3,2]:List Int).take (m + 1) = ([3,2]:List Int).take m++[([3,2]:List Int)[m]]:=by rw [List.take_add_one,aD hkl]; rfl
          have el:Fair.lines p (([3,2]:List Int).take (m + 1)) = Fair.lines p (([3,2]:List Int).take m)++Fair.line ([3,2]:List Int)[m] p:=by
            rw [et]; unfold Fair.lines; rw [List.flatMap_append]; simp
          rw [el,← List.append_assoc]
          exact s5
      · have:m = 2:=by rw [hvl] at k3; have:=of_decide_eq_false k3; simp at this; omega
        subst this
        rw [hw]
        refine ⟨⟨j + 1,rfl,hlt,?_⟩,by simp; omega⟩
        rw [Fair.turns_succ]
        exact mY (l:=[vK y (Fair.turns C j++Fair.lines C [3,2])]) s4
    · have:j = N:=by have:=of_decide_eq_false k2; simp at this; omega
      subst this
      exact s2
end Go.Proofs.YtmggcfijlpldpaaGreatDoor
namespace Go.Proofs.YtmggcfijlpldpaaGreatDoor
open Go Mb
set_option linter.unusedVariables false
def vq (a0:Sl) (a1:Int) (K:Sl→Hp→Prop) (Rec2:(Sl × Int)→Hp→Prop) (s1:Sl × Int):Hp→Prop:=br (decide (s1.2 < (a0.len:Int))) ( ix a0 s1.2 fun q12=>ld (q12.1,q12.2 + Int.toNat s1.2 * 16) aA.C fun x13=>br ((x13.fEnv == a1) && (decide (x13.fEnd > 0))) ( hpv Tryz.prog (Instr.buildSlice mh 1 #[(0,(.agg (ab.C x13.fAnswer).toArray))]) mu fun (v26:Sl)=>hpv Tryz.prog (Builtin.append_ #[mh,mh] mh #[(sv s1.1),(sv v26)]) mu fun (v27:Sl)=>Rec2 (v27,(IntKind.i64.wrap (s1.2 + 1)))) ( Rec2 (s1.1,(IntKind.i64.wrap (s1.2 + 1))))) ( K s1.1)
def sh_twin_View (a0:Sl) (a1:Int) (K:Sl→Hp→Prop):Hp→Prop:=Lp (vq a0 a1 K) ((⟨none,0,0,none⟩:Sl),0)
theorem sim_twin_View (a0:Sl) (a1:Int) {K:Sl→Hp→Prop} {h:Hp} (H:sh_twin_View a0 a1 K h):Ct Tryz.prog n_twin_View #[(sv a0),(.int .i64 a1)] h fun v h'=>∃ r,v = mu r∧K r h':=au [(sv a0),(.int .i64 a1)] Tryz.func30 c c c fun _=>M<|O c<|M<|O c<|aj<|M<|J c<|p (dz c Tryz.underlying43 c)<|J c<|ac<|av<|bA (step:=vq a0 a1 K) (fun s1=>[(1,(.int .i64 a1)),(5,(sv s1.1)),(8,(sv a0)),(9,(.int .i64 (a0.len:Int))),(10,(.int .i64 s1.2))]) (fun s1=>[]) H (.cons c<|.cons c<|.cons c<|.cons c<|.cons c<|.nil _) .slnil fun Rec2 s1 _ H3=>M<|p (cm c c)<|ac<|aj<|ar c H3 (fun k4 H5=>am<|aj<|av<|M<|ce H5 fun q12 e6 h7 H8=>p (bo rY (aL c<|aZ e6) c h7)<|aa<|gx H8 ag_54 c (fun _=>c) c fun x13 H9=>aa<|aK (l:=aA.C (⟨0,0,(⟨0,0,0,0,0⟩:ae),0,0,0,(⟨0,0⟩:ab),(⟨0,0,0,0⟩:al)⟩:aA)) zero_54 c c fun b7=>aa<|aN (k:=0) (vs:=aA.C x13) inf_54 c c c c c c c<|ac<|M<|p (ad oz c)<|bg (bc (k:=0) aY c c c) c<|J c<|p (bM c c)<|J c<|V c c (aw _) (fun g10=>wv<|ad qt c)<|V c c (aw _) (fun g11=>cv<|bc (k:=0) aY (az c g11) c c)<|V c c (aw _) (fun g12=>wv<|pY (az c g12) c)<|p (bN c c)<|ac<|ar c H9 (fun k13 H14=>ap<|J c<|p (ad jV c)<|bg (bw (k:=0) co c c c c) c<|aa<|aO H14 (bm (vs:=[(.agg (ab.C x13.fAnswer).toArray)]) c) c fun v26 _ H15=>aa<|aO H15 (dA c c) c fun v27 _ H16=>O c<|ap<|p (bp c c)<|J c<|ac<|cF (v27,(IntKind.i64.wrap (s1.2 + 1))) H16 (.cons c<|.cons c<|.cons c<|.cons c<|.cons c<|.nil _)<|.cons _ .slnil) fun k13 H14=>am<|ap<|p (bp c c)<|J c<|ac<|cF (s1.1,(IntKind.i64.wrap (s1.2 + 1))) H14 (.cons c<|.cons c<|.cons c<|.cons c<|.cons c<|.nil _)<|.cons _ .slnil) fun k4 H5=>bh<|M<|J c<|O c<|ah<|Y ⟨s1.1,c,H5⟩
end Go.Proofs.YtmggcfijlpldpaaGreatDoor
namespace Go.Proofs.YtmggcfijlpldpaaGreatDoor
open Go Mb
abbrev vA (s:Sl) (xs:List fT):As:=vec t_api_Answer 2 ab.C s xs
theorem ans_len (p:fT):p.C.length = 2:=rfl
theorem ans_one (p:fT):dC p.C = true:=rfl
namespace Twin
def view (env:Int):List bX→List fT
  | []=>[]
  | e::es=>if e.fEnv = env∧e.fEnd > 0 then e.fAnswer::view env es else view env es
def same:List fT→List fT→Bool
  | [],[]=>true
  | a::l,b::r=>ab.eqb a b && same l r
  | _,_=>false
theorem view_app (env:Int) (e:bX):∀ es,view env (es++[e]) = view env es++(if e.fEnv = env∧e.fEnd > 0 then [e.fAnswer] else [])
  | []=>by simp only [List.nil_append,view]
  | d::es=>by
    simp only [List.cons_append,view,view_app env e es]
    split <;> simp
theorem view_len (env:Int):∀ es,(view env es).length ≤ es.length
  | []=>Nat.le_refl _
  | e::es=>by unfold view; have:=view_len env es; split <;> simp <;> omega
end Twin
theorem sp_twin_View (s:Sl) (es:List bX) (env:Int) (hb:es.length < 2 ^ 38):Sp Tryz.prog n_twin_View [sv s,.int .i64 env] mu [vE s es] (fun r=>aC [vA r (Twin.view env es),vE s es]):=by
  intro h s0
  have hl:=(cd (j:=0) s0 rfl).1
  refine sim_twin_View _ _ ?_
  unfold sh_twin_View
  refine Lp.intro (fun (z:Sl × Int) h=>∃ n:Nat,z.2 = n∧n ≤ es.length∧aC [vA z.1 (Twin.view env (es.take n)),vE s es] h) (fun (z:Sl × Int) _=>es.length - z.2.toNat) ⟨0,rfl,Nat.zero_le _,fu s0⟩ ?_
  rintro ⟨z,i⟩ h ⟨n,rfl,hn,s1⟩
  unfold vq
  refine aV (fun k=>?_) (fun k=>?_)
  · have hlt:n < es.length:=by rw [hl] at k; simpa using k
    have hw:IntKind.i64.wrap ((n:Int) + 1) = ((n + 1:Nat):Int):=by rw [bO (by omega) (by omega)]; rfl
    have ht:es.take (n + 1) = es.take n++[es[n]]:=by simp
    refine dv s1 (j:=1) rfl (by omega) (by show (n:Int) < _; omega) fun q hq=>?_
    refine dZ (j:=1) (i:=n) (k:=0) es[n] mQ s1 rfl hq rfl (aD hlt) (by simp) ?_
    rw [hw]
    refine aV (fun k2=>?_) (fun k2=>?_)
    · have k2':es[n].fEnv = env∧es[n].fEnd > 0:=by simpa using k2
      have hvl:=Twin.view_len env (es.take n)
      simp at hvl
      refine kg (τ:=fT) (i:=0) (enc:=ab.C) (val:=fun x=>.agg x.C.toArray) el_Sapi_Answer ans_len ans_one (fun _=>rfl) (by omega) rfl rfl s1 rfl (by omega) (by omega) fun v h2 s2=>?_
      refine ⟨⟨n + 1,rfl,hlt,?_⟩,by simp; omega⟩
      rw [ht,Twin.view_app,if_pos k2']
      exact s2
    · have k2':¬ (es[n].fEnv = env∧es[n].fEnd > 0):=by simpa using k2
      refine ⟨⟨n + 1,rfl,hlt,?_⟩,by simp; omega⟩
      rw [ht,Twin.view_app,if_neg k2',List.append_nil]
      exact s1
  · have:n = es.length:=by rw [hl] at k; simp at k; omega
    subst this
    rw [List.take_length] at s1
    exact s1
end Go.Proofs.YtmggcfijlpldpaaGreatDoor
namespace Go.Proofs.YtmggcfijlpldpaaGreatDoor
open Go Mb
variable {ET:Nat} {EF:Nat × Nat}
theorem kern_nn {l:List As} {h:Hp} {x:Ptr} {k:KK} (s:aC (cG x k::l) h):x.isNone = false:=nn_of (fun _ e=>by rw [e.1]; rfl) s
namespace B16
abbrev sz:js:=⟨2,2,3⟩
def r1:=KK.run (KK.new ⟨2,2,3⟩) 0 0 ⟨1,1,0,0,0⟩
def r2:=KK.run r1.2 0 0 ⟨6,4,1,3,0⟩
def r3:=KK.run r2.2 1 0 ⟨21,4,2,9,0⟩
def r4:=KK.run r3.2 0 0 ⟨20,4,2,0,0⟩
def r5:=KK.run r4.2 0 0 ⟨7,4,0,0,0⟩
def es:=r5.2.events
theorem es_len:es.length = 5:=by kernel_rfl
theorem apart:Hist.may es sz = true:=by kernel_rfl
theorem now1:r1.2.now < 1000:=of_decide_eq_true (by kernel_rfl)
theorem now2:r2.2.now < 1000:=of_decide_eq_true (by kernel_rfl)
theorem now3:r3.2.now < 1000:=of_decide_eq_true (by kernel_rfl)
theorem now4:r4.2.now < 1000:=of_decide_eq_true (by kernel_rfl)
theorem now5:r5.2.now < 1000:=of_decide_eq_true (by kernel_rfl)
theorem lin:Judge.linear es sz = (-1,true):=by kernel_rfl
theorem acc:Judge.accesses es sz = (-1,true):=by kernel_rfl
theorem rgt:Judge.right es sz = true:=by kernel_rfl
end B16
theorem ord20 {es:List bX} (s:Sl) (h:es.length ≤ 20):Hist.Apart es→OrdOk s es:=fun ha=>sp_hist_Order20 s es h ha
theorem sp_begun16:Sp Tryz.prog ko [] ay [(etB ET EF)] (fun r=>pa_ (r = true) [(etB ET EF)]):=by
  intro h st
  refine uy ?_
  unfold nS
  refine lj (sp_kern_New ⟨2,2,3⟩ (by decide)) st fun x h1 s1=>?_
  refine df (kern_nn s1) ?_
  refine bK (i:=0) (ua x _ 0 0 ⟨1,1,0,0,0⟩ (by decide)) rfl s1 fun a1 h2 e1 s2=>?_
  refine bK (i:=0) (ua x B16.r1.2 0 0 ⟨6,4,1,3,0⟩ (by have:=B16.now1; omega)) rfl s2 fun a2 h3 e2 s3=>?_
  refine bK (i:=0) (ua x B16.r2.2 1 0 ⟨21,4,2,9,0⟩ (by have:=B16.now2; omega)) rfl s3 fun a3 h4 e3 s4=>?_
  refine bK (i:=0) (ua x B16.r3.2 0 0 ⟨20,4,2,0,0⟩ (by have:=B16.now3; omega)) rfl s4 fun a4 h5 e4 s5=>?_
  refine bK (i:=0) (ua x B16.r4.2 0 0 ⟨7,4,0,0,0⟩ (by have:=B16.now4; omega)) rfl s5 fun a5 h6 e5 s6=>?_
  refine cl_n (i:=0) (sp_kern_Events x B16.r5.2 (by have:=B16.now5; omega)) rfl s6 fun s h7 s7=>?_
  have hes:B16.es.length < 2 ^ 38:=by rw [B16.es_len]; decide
  have hes20:B16.es.length ≤ 20:=by rw [B16.es_len]; decide
  refine bK (i:=0) (sp_judge_Linear s B16.es B16.sz (by decide) hes (ord20 s hes20)) rfl s7 fun r1 h8 f1 s8=>?_
  refine bK (i:=0) (sp_judge_Access s B16.es B16.sz (by decide) hes (ord20 s hes20)) rfl s8 fun r2 h9 f2 s9=>?_
  refine lj (sp_fair_Rounds 2 3) s9 fun t h10 s10=>?_
  refine bK (i:=3) sp_Begun11 rfl s10 fun r3 h11 f3 s11=>?_
  have hl:((s.len:Int) == 5) = true:=by rw [(cd (j:=1) s11 rfl).1]; kernel_rfl
  have htl:((t.len:Int) == 12) = true:=by rw [(cd (j:=0) s11 rfl).1]; kernel_rfl
  have g1:a1 = B16.r1.1:=e1.1
  have g2:a2 = B16.r2.1:=e2.1
  have g3:a3 = B16.r3.1:=e3.1
  have g4:a4 = B16.r4.1:=e4.1
  have g5:a5 = B16.r5.1:=e5.1
  rw [B16.lin] at f1
  rw [B16.acc] at f2
  rw [f1,f2,f3,g1,g2,g3,g4,g5,hl]
  refine dL (by kernel_rfl) ?_
  refine bK (i:=1) (sp_hist_May s B16.es B16.sz hes) rfl s11 fun r4 h12 f4 s12=>?_
  refine dL (f4.trans B16.apart) ?_
  refine cl_n (i:=1) (sp_hist_Order20 s B16.es hes20 (Hist.may_apart B16.apart)) rfl s12 fun o h13 s13=>?_
  have hol:((o.len:Int) == 5) = true:=by rw [(cd (j:=0) s13 rfl).1]; kernel_rfl
  refine dL (by rw [hol,htl]; rfl) ?_
  refine bK (i:=1) (sp_fair_Fair t _ 2 5 (by decide) (by decide)) rfl s13 fun r5 h14 f5 s14=>?_
  refine dL (f5.trans (by kernel_rfl)) ?_
  refine cl_n (i:=2) (sp_twin_View s B16.es 0 hes) rfl s14 fun v h15 s15=>?_
  have hvl:((v.len:Int) == 5) = true:=by rw [(cd (j:=0) s15 rfl).1]; kernel_rfl
  refine dL hvl ?_
  refine bK (i:=3) (sp_judge_Right s B16.es B16.sz (by decide) hes (ord20 s hes20)) rfl s15 fun r6 h16 f6 s16=>?_
  exact aU (f6.trans B16.rgt) (bU (l:=[_,_,_,_,_]) s16)
end Go.Proofs.YtmggcfijlpldpaaGreatDoor
namespace Go.Proofs.YtmggcfijlpldpaaGreatDoor
open Go Mb Go.ChangeShapes Go.WideShapes Go.RowKit
theorem Tryz.own:ownKnob Tryz.prog.godebug = none:=by kernel_rfl
theorem Tryz.et:Tryz.prog.globalNamed "errors.errorType" = some 0:=by kernel_rfl
theorem Tryz.rt:(Tryz.prog.cutTypes.find? (·.1 == "internal/reflectlite.rtype")).map (·.2) = some qR:=by kernel_rfl
abbrev laid:List (String × DataW Unit) := [("errors.errorType",Rows.laid_errors_errorType)]
theorem block_of_laid {W:World} (h:laidMetH Tryz.prog laid W):∃ T F,W.heap[0]? = some (.cells #[rtV fW] T F):=by
  have h':laidMet Tryz.prog [] W∧handlesMet Tryz.prog laid W:=h
  obtain ⟨name,u,ty,e1,e2,e3,e4,e5⟩:=h'.2 _ (List.mem_singleton.2 rfl)
  have en:name = [101,114,114,111,114]:=(Option.some.inj e1).symm
  subst en
  obtain rfl:=Option.some.inj (Tryz.rt.symm.trans e2)
  have hm:ty ∈ (List.range 350).filter fun t=>Tryz.prog.rowNamed t [101,114,114,111,114]:=List.mem_filter.2 ⟨List.mem_range.2 (by rw [← g4]; exact e3),e4⟩
  rw [oneErr] at hm
  obtain rfl:=List.mem_singleton.1 hm
  have hh:typeHandle Tryz.prog 195 = .pointer (some ⟨4,195,none⟩):=by kernel_rfl
  rw [hh] at e5
  unfold World.var? at e5
  rw [Tryz.et] at e5
  simp only [Option.bind_some] at e5
  split at e5
  · rename_i cs T F hq
    cases e5
    exact ⟨T,F,hq⟩
  · cases e5
noncomputable def laidWorld (os:Os):World :=
  let w0:=World.holding Tryz.prog os ⟨#[],#[],[]⟩
  { w0 with heap:=w0.heap.modify 0 fun
      | .cells _ t frozen=>.cells #[rtV fW] t frozen
      | o=>o }
theorem laidWorld_met (os:Os) (args:Array Value):laidMetH Tryz.prog laid ((laidWorld os).forCall (fun _ _=>0) ⟨#[],args,[]⟩).memory :=
  laidMetH_of_parts (laidMet_nil _ _) (by kernel_rfl)
theorem keptBut_same {w w':World} {may:MemPlace→Prop} (h1:w'.os = w.os) (h2:w'.output = w.output) (h:∀ i,i < w.heap.size→w'.heap[i]? = w.heap[i]?):w.keptBut w' may:=by
  refine ⟨h1,h2,fun i hi=>?_⟩
  have:=(World.keptBut_refl w may).2.2 i hi
  rw [h i hi]
  exact this
def kindsB (P:Program) (fn:Func) (c:OpenClaim):Bool:=c.kinds == (if c.domain.isEmpty then [] else fn.params.toList.map fun t=>match P.underlying t with | some (.int k)=>some k | _=>none)
theorem joined_split {P:Program} {f:FuncId} {fn:Func} {s:ChangeSpec} {c:OpenClaim} (h1:(c.wf (OpenSpec.ofChange s) && laidOutB P && mapsRowed P) = true)
    (h2:(fn.params.all (P.readableRec ·) && namedTie P c.named s.vars && (c.stops == []) && (P.stops == []) && (c.knobs == []) && (P.stopKnobs == [])) = true)
    (h3:(c.inPlace == P.inPlace f) = true) (h4:(c.unfollowed == P.unfollowed f) = true) (h5:(c.recurses == P.recurses f) = true) (h6:(c.named == P.varsNamed f) = true)
    (h7:((c.maps == (fn.params.toList++s.plain.varTypes P).any (P.mapsRec ·)) && (c.ifaces == (fn.params.toList++s.plain.varTypes P).any (P.ifacesRec ·)) && (c.mapsOut == P.mapsAmong fn.resultTypes.toList) &&
  (c.loops == (fn.params.toList++s.plain.varTypes P).any (P.loopsFrom ·)) && (c.wideKeys == (fn.params.toList++s.plain.varTypes P++fn.resultTypes.toList).any (P.wideKeysFrom ·)) &&
  s.vars.all (P.varReadable ·) && fn.resultTypes.all (fun t=>P.readableRec t && decide (t < P.types.size)) && (c.ifacesOut == fn.resultTypes.toList.any (P.ifacesRec ·)) && (c.loopsOut == fn.resultTypes.toList.any (P.loopsFrom ·))) = true)
    (h8:(c.plainKeys == P.plainKeys) = true) (h9:(c.shortTexts.isNone && P.stopsHeard && P.mayEnter && (c.lifted == P.liftsFinal) && (P.make == some c.make) && kindsB P fn c && (c.pinned == c.pinnedBy) &&
  (c.veiled == (fn.params.toList++s.plain.varTypes P++fn.resultTypes.toList).any (P.veiledRec ·)) && c.veiledFits P fn.params.toList (fn.params.toList++s.plain.varTypes P++fn.resultTypes.toList)) = true):joinedFacts P f fn s c = true:=by
  unfold joinedFacts
  unfold kindsB at h9
  rw [Bool.and_eq_true] at h1 h2 h7 h9
  simp only [Bool.and_eq_true] at h1 h2 h7 h9
  obtain ⟨⟨a1,a2⟩,a3⟩:=h1
  obtain ⟨⟨⟨⟨⟨b1,b2⟩,b3⟩,b4⟩,b5⟩,b6⟩:=h2
  obtain ⟨⟨⟨⟨⟨⟨⟨⟨c1,c2⟩,c3⟩,c4⟩,c5⟩,c6⟩,c7⟩,c8⟩,c9⟩:=h7
  obtain ⟨⟨⟨⟨⟨⟨⟨⟨d1,d2⟩,d3⟩,d4⟩,d5⟩,d6⟩,d7⟩,d8⟩,d9⟩:=h9
  simp only [Bool.and_eq_true]
  exact ⟨⟨⟨⟨⟨⟨⟨⟨⟨⟨⟨⟨⟨⟨⟨⟨⟨⟨⟨⟨⟨⟨⟨⟨⟨⟨⟨⟨⟨⟨⟨a1,a2⟩,a3⟩,b1⟩,b2⟩,b3⟩,b4⟩,b5⟩,b6⟩,h3⟩,h4⟩,h5⟩,h6⟩,c1⟩,c2⟩,c3⟩,c4⟩,c5⟩,c6⟩,c7⟩,c8⟩,c9⟩,h8⟩,d1⟩,d2⟩,d3⟩,d4⟩,d5⟩,d6⟩,d7⟩,d8⟩,d9⟩
end Go.Proofs.YtmggcfijlpldpaaGreatDoor
namespace Go.Proofs.YtmggcfijlpldpaaGreatDoor
open Go Mb Go.ChangeShapes Go.WideShapes Go.RowKit
inductive FK where
  | i (k:IntKind)
  | b
def FK.ok:FK→Value→Prop
  | .i k,v=>∃ n,v = .int k n∧(Lit.int k n).wf = true
  | .b,v=>∃ x,v = .bool x
def Fits:List FK→List Value→Prop
  | [],[]=>True
  | k::ks,v::vs=>k.ok v∧Fits ks vs
  | _,_=>False
theorem Fits.len:∀ {ks:List FK} {vs:List Value},Fits ks vs→vs.length = ks.length
  | [],[],_=>rfl
  | _::_,_::_,h=>by simp [h.2.len]
  | [],_::_,h=>h.elim
  | _::_,[],h=>h.elim
section
variable {H:Type} {enc:TypeId × Value→H} {P:Program} {W:World} {base:Nat} {sp:Nat→Bool} {held:Bool}
end
structure Arg {τ:Type} (W:World) (m:Nat) (enc:τ→List Value) (s:Sl) (xs:List τ):Prop where
  len:s.len = xs.length
  cap:s.len ≤ s.cap
  row:s.cap = 0∨∃ b pre rest U fr,s.a = some (b,pre.length)∧s.cap * m ≤ s.len * m + rest.length∧s.g = some (pre,rest,U,fr)∧nf fr pre.length (s.cap * m)∧b ≠ 0∧W.heap[b]? = some (.cells (pre++(xs.flatMap enc++rest)).toArray U fr)
section
variable {H:Type} {enc:TypeId × Value→H} {P:Program} {W:World}
theorem trodAll_stays (hl:laidOutB P = true) {W':World} {sp':Nat→Bool}:∀ {ts:List TypeId} {vs:List Value} {ds:List (DataW H)} {ps:List MemPlace},(∀ t ∈ ts,P.readableRec t = true∧t < P.types.size) →
    DataW.TrodAll enc P W 0 (fun _=>true) true ts vs ds ps→(∀ p ∈ ps,W.sameAt W' p)→(∀ p ∈ ps,sp' p.block = true)→DataW.TrodAll enc P W' 0 sp' true ts vs ds ps
  | [],_,_,_,_,h,_,_=>by
    obtain ⟨rfl,rfl,rfl⟩:=trodAll_nil h
    rfl
  | t::ts,_,_,_,hr,h,hs,hp=>by
    obtain ⟨v,vs,d,ds,a,b,rfl,rfl,rfl,h1,h2⟩:=trodAll_cons h
    exact ⟨a,b,Go.WideElems.Trod_stays hl (hr t (by simp)).1 (hr t (by simp)).2 h1 (fun p q=>hs p (by simp [q])) (fun p q=>hp p (by simp [q])),trodAll_stays hl (fun t q=>hr t (by simp [q])) h2 (fun p q=>hs p (by simp [q])) (fun p q=>hp p (by simp [q])),rfl⟩
end
end Go.Proofs.YtmggcfijlpldpaaGreatDoor
namespace Go.Proofs.YtmggcfijlpldpaaGreatDoor
open Go Mb Go.ChangeShapes Go.WideShapes Go.RowKit
theorem Arg.sub {τ:Type} {P:τ→Prop} {W:World} {m:Nat} {C:τ→List Value} {s:Sl} {xs:List {x:τ // P x}} (A:Arg W m (fun x=>C x.1) s xs):Arg W m C s (xs.map (·.1))∧∀ x ∈ xs.map (·.1),P x:=by
  refine ⟨⟨by simpa using A.len,A.cap,?_⟩,fun x hx=>?_⟩
  · have e:(xs.map (·.1)).flatMap C = xs.flatMap (fun x=>C x.1):=by rw [List.flatMap_map]
    rw [e]; exact A.row
  · obtain ⟨y,_,rfl⟩:=List.mem_map.1 hx
    exact y.2
structure Same (W W':World):Prop where
  os:W'.os = W.os
  out:W'.output = W.output
  heap:∀ i,i < W.heap.size→W'.heap[i]? = W.heap[i]?
theorem Same.cell {W W':World} (s:Same W W') {p:MemPlace} (h:p.block < W.heap.size):W.sameAt W' p:=by
  cases p with
  | cell b off =>
    show W'.cell? _ = W.cell? _
    unfold World.cell?
    rw [s.heap b h]
  | map b=>exact s.heap b h
theorem run_spV {τ:Type} {T m:Nat} {enc:τ→List Value} {s:Sl} {xs:List τ} {f:FuncId} {vs:List Value} {ET:Nat} {EF:Nat × Nat} {W:World} (A:Arg W m enc s xs)
    (c:Sp Tryz.prog f vs ay [etB ET EF,vec T m enc s xs] (fun r=>pa_ (r = true) [etB ET EF,vec T m enc s xs])) (hw:W.heap[0]? = some (.cells #[rtV fW] ET EF)) :
    Calls Tryz.prog f vs.toArray W fun e W'=>e = .returned (.bool true)∧Same W W':=by
  have key:∀ (g:Hp),g 0 = none→(∀ b o,g b = some o→W.heap[b]? = some o)→vec T m enc s xs g→(∀ g',vec T m enc s xs g'→∀ b o,g b = some o→g' b = some o) →
      Calls Tryz.prog f vs.toArray W fun e W'=>e = .returned (.bool true)∧Same W W':=by
    intro g g0 gW gv gk
    have hs:Sub (un (eE emp 0 (.cells #[rtV fW] ET EF)) g) W:=by
      intro b o ho
      by_cases hb:b = 0
      · subst hb; rw [un_left (jm _ _ _)] at ho; rw [hw]; exact ho
      · rw [un_right (pF _ _ _ hb)] at ho; exact gW b o ho
    have hd:Dj (eE emp 0 (.cells #[rtV fW] ET EF)) g:=fun b=>by
      by_cases hb:b = 0
      · subst hb; exact .inr g0
      · exact .inl (pF _ _ _ hb)
    have hst:aC [etB ET EF,vec T m enc s xs] (un (eE emp 0 (.cells #[rtV fW] ET EF)) g):=⟨_,_,hd,rfl,jm _ _ _,rV gv⟩
    refine (c _ hst W hs).mono ?_
    rintro e W' ⟨v,h',rfl,⟨r,rfl,q⟩,s',fr⟩
    obtain ⟨rfl,q⟩:=q
    obtain ⟨g1,a1,sub1⟩:=dP (i:=0) (A:=etB ET EF) rfl q
    obtain ⟨g2,a2,sub2⟩:=dP (i:=1) (A:=vec T m enc s xs) rfl q
    refine ⟨rfl,fr.os,fr.out,fun i hi=>?_⟩
    rcases Nat.eq_zero_or_pos i with rfl | hp
    · rw [s' _ _ (sub1 _ _ a1),hw]
    · cases hg:g i with
      | none=>exact fr.same i hi (tb.2 ⟨pF _ _ _ (by omega),hg⟩)
      | some o=>rw [s' _ _ (sub2 _ _ (gk g2 a2 i o hg)),gW i o hg]
  rcases A.row with h0 | ⟨b,pre,rest,U,fr,h1,h2,h3,h4,h5,h6⟩
  · exact key emp rfl (fun b o h=>by cases h) ⟨A.len,A.cap,.inl h0⟩ (fun _ _ b o h=>by cases h)
  · by_cases h0:s.cap = 0
    · exact key emp rfl (fun b o h=>by cases h) ⟨A.len,A.cap,.inl h0⟩ (fun _ _ b o h=>by cases h)
    · refine key (eE emp b (.cells (pre++(xs.flatMap enc++rest)).toArray U fr)) (pF _ _ _ (Ne.symm h5)) ?_ ⟨A.len,A.cap,.inr ⟨b,pre,rest,U,fr,h1,h2,?_,jm _ _ _⟩⟩ ?_
      · intro b' o ho
        unfold eE at ho
        split at ho
        · rename_i hb; subst hb; rw [h6]; exact ho
        · cases ho
      · unfold gh; rw [h3]; exact ⟨rfl,h4⟩
      · rintro g' ⟨_,_,r⟩ b' o ho
        rcases r with r | ⟨c',pre',rest',U',fr',r1,_,r3,r4⟩
        · exact absurd r h0
        · rw [h1] at r1
          unfold gh at r3
          rw [h3] at r3
          obtain ⟨r5,_⟩:=r3
          simp only [Prod.mk.injEq] at r5
          obtain ⟨rfl,rfl,rfl,rfl⟩:=r5
          simp only [Option.some.injEq,Prod.mk.injEq] at r1
          obtain ⟨rfl,_⟩:=r1
          unfold eE at ho
          split at ho
          · rename_i hb; subst hb; cases ho; exact r4
          · cases ho
theorem run_sp' {f:FuncId} {vs:List Value} {ET:Nat} {EF:Nat × Nat} (c:Sp Tryz.prog f vs ay [etB ET EF] (fun r=>pa_ (r = true) [etB ET EF])) {W:World} (hw:W.heap[0]? = some (.cells #[rtV fW] ET EF)) :
    Calls Tryz.prog f vs.toArray W fun e W'=>e = .returned (.bool true)∧Same W W':=by
  refine run_spV (τ:=Int) (T:=0) (m:=1) (enc:=cI .i64) (s:=⟨none,0,0,none⟩) (xs:=[]) ⟨rfl,Nat.le_refl _,.inl rfl⟩ (fun h st=>?_) hw
  obtain ⟨h1,h2,d,rfl,a,s2⟩:=st
  refine (c h1 (rV a)).frame_mono d rfl fun v h' ⟨r,hv,q⟩ dj=>⟨r,hv,?_⟩
  obtain ⟨g1,q⟩:=q
  refine ⟨g1,?_⟩
  exact (ef (l:=[etB ET EF])).2 ⟨h',h2,dj,rfl,q,s2⟩
theorem same_post {H:Type} {enc:TypeId × Value→H} {W W':World} {ts:List TypeId} {vs:List Value} {ds:List (DataW H)} {ps:List MemPlace} {sp:Nat→Bool} (hl:laidOutB Tryz.prog = true) (hr:(ts.all fun t=>Tryz.prog.readableRec t && decide (t < Tryz.prog.types.size)) = true)
    (h:DataW.TrodAll enc Tryz.prog W 0 (fun _=>true) true ts vs ds ps) (hlt:∀ p ∈ ps,p.block < W.heap.size) (s:Same W W') (hs:∀ p ∈ ps,sp p.block = true):DataW.TrodAll enc Tryz.prog W' 0 sp true ts vs ds ps :=
  trodAll_stays hl (fun t ht=>by
    have:=List.all_eq_true.1 hr t ht
    simp only [Bool.and_eq_true,decide_eq_true_eq] at this
    exact this) h (fun p hp=>s.cell (hlt p hp)) hs
theorem want_all {ts:List TypeId} (h:(ts.all fun t=>!(Tryz.prog.wantsStandIn t)) = true) {j:Nat} {t:TypeId} (ht:ts.toArray[j]? = some t):Tryz.prog.wantsStandIn t = false:=by
  have:=List.all_eq_true.1 h t (List.mem_of_getElem? (by simpa using ht))
  simpa using this
end Go.Proofs.YtmggcfijlpldpaaGreatDoor
namespace Go.Proofs.YtmggcfijlpldpaaGreatDoor
open Go Mb
variable {ET:Nat} {EF:Nat × Nat}
namespace Shared
def r1 (s:js):=KK.run (KK.new s) 0 0 ⟨1,0,0,0,0⟩
def r2 (s:js):=KK.run (r1 s).2 0 0 ⟨6,0,0,3,0⟩
def r3 (s:js) (v:Int):=KK.run (r2 s).2 0 0 ⟨21,0,0,v,0⟩
structure Fine (s:js) (v:Int):Prop where
  sz:PK.sized s = true
  a1:(r1 s).1 = (⟨0,0⟩,true)
  a2:(r2 s).1 = (⟨0,0⟩,true)
  a3:(r3 s v).1 = (⟨0,0⟩,true)
  n1:(r1 s).2.now < 1000
  n2:(r2 s).2.now < 1000
end Shared
theorem call_len (c:hX):(ae.C c).length = 5:=rfl
open Shared in
theorem sp_shared (s:js) (v:Int) (F:Fine s v):Sp Tryz.prog jJ [.agg s.C.toArray,.int .u64 v] jO [] (fun r=>aC [cG r (r3 s v).2]):=by
  intro h st
  refine ue _ _ ?_
  unfold ne
  refine lj (sp_kern_New s F.sz) st fun x h1 s1=>?_
  refine df (kern_nn s1) ?_
  refine eF (τ:=hX) [⟨1,0,0,0,0⟩,⟨6,0,0,3,0⟩,⟨21,0,0,v,0⟩] (val:=fun x=>.agg x.C.toArray) (enc:=ae.C) el_Sapi_Call call_len (fun _=>rfl) s1 rfl rfl (by decide) fun y h2 s2=>?_
  have hl:=(cd (j:=0) s2 rfl).1
  have hl3:y.len = 3:=hl
  refine Lp.intro (fun (i:Int) h=>∃ (n:Nat) (k:KK),i = n∧(n = 0∧k = KK.new s∨n = 1∧k = (r1 s).2∨n = 2∧k = (r2 s).2∨n = 3∧k = (r3 s v).2)∧aC [vec t_api_Call 5 ae.C y [⟨1,0,0,0,0⟩,⟨6,0,0,3,0⟩,⟨21,0,0,v,0⟩],cG x k] h) (fun (i:Int) _=>3 - i.toNat) ⟨0,_,rfl,.inl ⟨rfl,rfl⟩,s2⟩ ?_
  rintro i h3 ⟨n,k,rfl,hn,s3⟩
  unfold jk
  have lk:∀ (m:Nat) (c:hX) (k':KK),n = m→m < 3→([⟨1,0,0,0,0⟩,⟨6,0,0,3,0⟩,⟨21,0,0,v,0⟩]:List hX)[m]? = some c→(KK.run k 0 0 c).1 = (⟨0,0⟩,true)→(KK.run k 0 0 c).2 = k'→k.now < 1000 →
      (n + 1 = 0∧k' = KK.new s∨n + 1 = 1∧k' = (r1 s).2∨n + 1 = 2∧k' = (r2 s).2∨n + 1 = 3∧k' = (r3 s v).2) →
      (br (decide ((n:Int) < (y.len:Int))) (ix y n fun q22=>ld (q22.1,q22.2 + Int.toNat (n:Int) * 5) ae.C fun x23=>cl Tryz.prog ci [(pv x),(.int .i64 0),(.int .i64 0),(.agg (ae.C x23).toArray)] aX fun r27 =>
        br ((!r27.2) || (r27.1.fErr != 0)) ((fun r=>aC [cG r (r3 s v).2]) none) ((fun (s':Int) h'=>(∃ (n:Nat) (k:KK),s' = n∧(n = 0∧k = KK.new s∨n = 1∧k = (r1 s).2∨n = 2∧k = (r2 s).2∨n = 3∧k = (r3 s v).2)∧aC [vec t_api_Call 5 ae.C y [⟨1,0,0,0,0⟩,⟨6,0,0,3,0⟩,⟨21,0,0,v,0⟩],cG x k] h')∧3 - s'.toNat < 3 - (n:Int).toNat) (IntKind.i64.wrap ((n:Int) + 1)))) ((fun r=>aC [cG r (r3 s v).2]) x)) h3:=by
    intro m c k' e hm hc hr hk hnow hq
    subst e
    have hw:IntKind.i64.wrap ((n:Int) + 1) = ((n + 1:Nat):Int):=by rw [bO (by omega) (by omega)]; rfl
    refine dL (by rw [hl3]; exact decide_eq_true (by omega)) ?_
    refine dv s3 (j:=0) rfl (by omega) (by omega) fun q hq'=>?_
    refine dZ (j:=0) (i:=n) (k:=0) c call_len s3 rfl hq' rfl hc (by simp) ?_
    refine bK (i:=1) (ua x k 0 0 c (by omega)) rfl s3 fun r h4 hr2 s4=>?_
    have hr3:r = (KK.run k 0 0 c).1:=hr2.1
    rw [hr] at hr3
    subst hr3
    refine df rfl ?_
    rw [hw]
    rw [hk] at s4
    exact ⟨⟨n + 1,k',rfl,hq,s4⟩,by simp; omega⟩
  rcases hn with ⟨e,ek⟩ | ⟨e,ek⟩ | ⟨e,ek⟩ | ⟨e,ek⟩
  · exact lk 0 _ (r1 s).2 e (by decide) rfl (by rw [ek]; exact F.a1) (by rw [ek,r1]) (by rw [ek]; show (0:Int) < 1000; decide) (.inr (.inl ⟨by omega,rfl⟩))
  · exact lk 1 _ (r2 s).2 e (by decide) rfl (by rw [ek]; exact F.a2) (by rw [ek,r2]) (by rw [ek]; exact F.n1) (.inr (.inr (.inl ⟨by omega,rfl⟩)))
  · exact lk 2 _ (r3 s v).2 e (by decide) rfl (by rw [ek]; exact F.a3) (by rw [ek,r3]) (by rw [ek]; exact F.n2) (.inr (.inr (.inr ⟨by omega,rfl⟩)))
  · subst e
    refine df (by rw [hl3]; rfl) ?_
    rw [ek] at s3
    exact bU (l:=[_]) s3
end Go.Proofs.YtmggcfijlpldpaaGreatDoor
namespace Go.Proofs.YtmggcfijlpldpaaGreatDoor
open Go Mb
theorem mod_in (x:Int) {n:Int} (h:1 ≤ n∧n ≤ 100):0 ≤ (IntKind.i64.wrap (x.tmod n + n)).tmod n∧(IntKind.i64.wrap (x.tmod n + n)).tmod n < n:=by
  have h1:=Int.tmod_lt_of_pos x (show (0:Int) < n by omega)
  have h2:-n < x.tmod n:=by
    have:=Int.tmod_lt_of_pos (-x) (show (0:Int) < n by omega)
    rw [Int.neg_tmod] at this
    omega
  rw [bO (by omega) (by omega)]
  exact ⟨Int.tmod_nonneg _ (by omega),Int.tmod_lt_of_pos _ (by omega)⟩
end Go.Proofs.YtmggcfijlpldpaaGreatDoor
namespace Go.Proofs.YtmggcfijlpldpaaGreatDoor
open Go Mb
variable {ET:Nat} {EF:Nat × Nat}
namespace Protect
open Shared
def sz (n:Int):js:=⟨n,1,1⟩
def put (o v:Int):hX:=⟨21,0,o,v,0⟩
def cut:hX:=⟨8,0,1,0,0⟩
def val (v:Int) (m:Int):Int:=IntKind.u64.wrap (v + IntKind.u64.wrap m)
def ks (n v o:Int):Nat→KK
  | 0=>(r3 (sz n) v).2
  | m + 1=>(KK.run (ks n v o m) m 0 (put o (val v m))).2
def kc (n v o:Int):KK:=(KK.run (ks n v o n.toNat) 1 0 cut).2
def kt (n v o:Int):Nat→KK
  | 0=>kc n v o
  | m + 1=>(KK.run (KK.run (kt n v o m) m 0 (put o 5)).2 m 0 ⟨20,0,o,0,0⟩).2
def a1 (n v o:Int) (m:Nat):=(KK.run (ks n v o m) m 0 (put o (val v m))).1
def a2 (n v o:Int) (m:Nat):=(KK.run (kt n v o m) m 0 (put o 5)).1
def a3 (n v o:Int) (m:Nat):=(KK.run (KK.run (kt n v o m) m 0 (put o 5)).2 m 0 ⟨20,0,o,0,0⟩).1
structure Fine (n v o:Int):Prop where
  sh:Shared.Fine (sz n) v
  ns:∀ m:Nat,m ≤ n.toNat→(ks n v o m).now < 1000
  s1:∀ m:Nat,m < n.toNat→a1 n v o m = (⟨0,0⟩,true)
  s2:(KK.run (ks n v o n.toNat) 1 0 cut).1 = (⟨0,0⟩,true)
  nt:∀ m:Nat,m ≤ n.toNat→(kt n v o m).now < 1000
  s3:∀ m:Nat,m < n.toNat→a2 n v o m = (⟨7,0⟩,true)
  n3:∀ m:Nat,m < n.toNat→(KK.run (kt n v o m) m 0 (put o 5)).2.now < 1000
  s4:∀ m:Nat,m < n.toNat→a3 n v o m = (⟨0,val v (n - 1)⟩,true)
abbrev AB:=fT × Bool
def tab (n v o:Int):(AB × AB × AB × AB) × (List AB × List AB × List AB) × Bool :=
  (((r1 (sz n)).1,(r2 (sz n)).1,(r3 (sz n) v).1,(KK.run (ks n v o n.toNat) 1 0 cut).1),
   ((List.range n.toNat).map (a1 n v o),(List.range n.toNat).map (a2 n v o),(List.range n.toNat).map (a3 n v o)),
   PK.sized (sz n) && decide ((r1 (sz n)).2.now < 1000) && decide ((r2 (sz n)).2.now < 1000) && ((List.range (n.toNat + 1)).all fun m=>decide ((ks n v o m).now < 1000)) && ((List.range (n.toNat + 1)).all fun m=>decide ((kt n v o m).now < 1000)) && ((List.range n.toNat).all fun m=>decide ((KK.run (kt n v o m) m 0 (put o 5)).2.now < 1000)))
abbrev ok:AB:=(⟨0,0⟩,true)
def eK (n v:Int):(AB × AB × AB × AB) × (List AB × List AB × List AB) × Bool :=
  ((ok,ok,ok,ok),((List.range n.toNat).map (fun _=>ok),(List.range n.toNat).map (fun _=>(⟨7,0⟩,true)),(List.range n.toNat).map (fun _=>(⟨0,val v (n - 1)⟩,true))),true)
theorem of_map {α:Type} {f:Nat→α} {a:α} {n:Nat} (h:(List.range n).map f = (List.range n).map (fun _=>a)) (m:Nat) (hm:m < n):f m = a:=by
  have:=congrArg (fun l=>l[m]?) h
  simpa [hm] using this
theorem fine_of {n v o:Int} (h:tab n v o = eK n v):Fine n v o:=by
  unfold tab eK at h
  simp only [Prod.mk.injEq] at h
  obtain ⟨⟨b1,b2,b3,b4⟩,⟨c1,c2,c3⟩,d⟩:=h
  simp only [Bool.and_eq_true,List.all_eq_true,List.mem_range,decide_eq_true_eq] at d
  obtain ⟨⟨⟨⟨⟨d1,d2⟩,d3⟩,d4⟩,d5⟩,d6⟩:=d
  exact ⟨⟨d1,b1,b2,b3,d2,d3⟩,fun m hm=>d4 m (by omega),of_map c1,b4,fun m hm=>d5 m (by omega),of_map c2,d6,of_map c3⟩
theorem all_of {P:Int→Prop} (h:P 0∧P 1∧P 2∧P 3∧P 4∧P 5∧P 6∧P 7∧P 8∧P 9∧P 10∧P 11∧P 12∧P 13∧P 14∧P 15) (o:Int) (h0:0 ≤ o) (h1:o < 16):P o:=by
  obtain ⟨p0,p1,p2,p3,p4,p5,p6,p7,p8,p9,p10,p11,p12,p13,p14,p15⟩:=h
  have:o = 0∨o = 1∨o = 2∨o = 3∨o = 4∨o = 5∨o = 6∨o = 7∨o = 8∨o = 9∨o = 10∨o = 11∨o = 12∨o = 13∨o = 14∨o = 15:=by omega
  rcases this with h | h | h | h | h | h | h | h | h | h | h | h | h | h | h | h <;> (rw [h]; assumption)
theorem tab2 (v:Int):∀ o:Int,0 ≤ o→o < 16→tab 2 v o = eK 2 v:=all_of (by refine ⟨?_,?_,?_,?_,?_,?_,?_,?_,?_,?_,?_,?_,?_,?_,?_,?_⟩ <;> kernel_rfl)
theorem tab3 (v:Int):∀ o:Int,0 ≤ o→o < 16→tab 3 v o = eK 3 v:=all_of (by refine ⟨?_,?_,?_,?_,?_,?_,?_,?_,?_,?_,?_,?_,?_,?_,?_,?_⟩ <;> kernel_rfl)
theorem tab4 (v:Int):∀ o:Int,0 ≤ o→o < 16→tab 4 v o = eK 4 v:=all_of (by refine ⟨?_,?_,?_,?_,?_,?_,?_,?_,?_,?_,?_,?_,?_,?_,?_,?_⟩ <;> kernel_rfl)
theorem tab5 (v:Int):∀ o:Int,0 ≤ o→o < 16→tab 5 v o = eK 5 v:=all_of (by refine ⟨?_,?_,?_,?_,?_,?_,?_,?_,?_,?_,?_,?_,?_,?_,?_,?_⟩ <;> kernel_rfl)
theorem fine (n v o:Int) (h:2 ≤ n∧n ≤ 5) (h0:0 ≤ o) (h1:o < 16):Fine n v o:=by
  have:n = 2∨n = 3∨n = 4∨n = 5:=by omega
  rcases this with h | h | h | h <;> rw [h]
  · exact fine_of (tab2 v o h0 h1)
  · exact fine_of (tab3 v o h0 h1)
  · exact fine_of (tab4 v o h0 h1)
  · exact fine_of (tab5 v o h0 h1)
end Protect
open Protect in
theorem sp_ShootProtect (c v off:Int):Sp Tryz.prog jS [.int .i64 c,.int .u64 v,.int .i64 off] ay [etB ET EF] (fun r=>pa_ (r = true) [etB ET EF]):=by
  intro h st
  refine pt _ _ _ ?_
  unfold jw
  refine bK (i:=0) sp_begun16 rfl st fun r h1 hr s1=>?_
  subst hr
  refine df rfl ?_
  have m1:=mod_in c (n:=4) (by decide)
  have m2:=mod_in off (n:=16) (by decide)
  have hw1:IntKind.i64.wrap (2 + (IntKind.i64.wrap (c.tmod 4 + 4)).tmod 4) = 2 + (IntKind.i64.wrap (c.tmod 4 + 4)).tmod 4:=bO (by omega) (by omega)
  have hw2:IntKind.u64.wrap ((IntKind.i64.wrap (off.tmod 16 + 16)).tmod 16) = (IntKind.i64.wrap (off.tmod 16 + 16)).tmod 16:=wrapU (by omega) (by omega)
  obtain ⟨n,hn⟩:∃ n:Nat,2 + (IntKind.i64.wrap (c.tmod 4 + 4)).tmod 4 = n:=⟨(2 + (IntKind.i64.wrap (c.tmod 4 + 4)).tmod 4).toNat,by omega⟩
  generalize ho:(IntKind.i64.wrap (off.tmod 16 + 16)).tmod 16 = o at m2 hw2
  have F:=fine n v o (by omega) m2.1 m2.2
  have ent:(n:Int).toNat = n:=Int.toNat_natCast n
  rw [hw1,hn]
  refine lj (sp_shared (sz n) v F.sh) s1 fun x h2 s2=>?_
  refine df (kern_nn s2) ?_
  have s2:aC [cG x (ks n v o 0),etB ET EF] h2:=s2
  refine Lp.intro (fun (i:Int) h=>∃ m:Nat,i = m∧m ≤ n∧aC [cG x (ks n v o m),etB ET EF] h) (fun (i:Int) _=>n - i.toNat) ⟨0,rfl,Nat.zero_le _,s2⟩ ?_
  rintro i h3 ⟨m,rfl,hm,s3⟩
  unfold fL
  rw [hw1,hn,ho,hw2]
  have hnm:=F.ns m (by omega)
  refine aV (fun k=>?_) (fun k=>?_)
  · have hlt:m < n:=by simpa using k
    have hw:IntKind.i64.wrap ((m:Int) + 1) = ((m + 1:Nat):Int):=by rw [bO (by omega) (by omega)]; rfl
    refine bK (i:=0) (ua x (ks n v o m) m 0 (put o (val v m)) (by omega)) rfl s3 fun r h4 hr s4=>?_
    have e1:r = (⟨0,0⟩,true):=hr.1.trans (F.s1 m (by omega))
    subst e1
    refine df rfl ?_
    rw [hw]
    exact ⟨⟨m + 1,rfl,hlt,s4⟩,by simp; omega⟩
  · have hmn:m = n:=by simp at k; omega
    subst hmn
    refine bK (i:=0) (ua x (ks m v o m) 1 0 cut (by omega)) rfl s3 fun r h4 hr s4=>?_
    have e1:r = (⟨0,0⟩,true):=hr.1.trans (by have:=F.s2; rw [ent] at this; exact this)
    subst e1
    refine df rfl ?_
    have s4:aC [cG x (KK.run (ks m v o m) 1 0 cut).2,etB ET EF] h4:=s4
    have ek:(KK.run (ks m v o m) 1 0 cut).2 = kt m v o 0:=by rw [kt,kc,ent]
    rw [ek] at s4
    refine Lp.intro (fun (i:Int) h=>∃ a:Nat,i = a∧a ≤ m∧aC [cG x (kt m v o a),etB ET EF] h) (fun (i:Int) _=>m - i.toNat) ⟨0,rfl,Nat.zero_le _,s4⟩ ?_
    rintro i h5 ⟨a,rfl,ha,s5⟩
    unfold fK
    rw [hw1,hn,ho,hw2]
    have hna:=F.nt a (by omega)
    refine aV (fun k=>?_) (fun k=>?_)
    · have hlt:a < m:=by simpa using k
      have hw:IntKind.i64.wrap ((a:Int) + 1) = ((a + 1:Nat):Int):=by rw [bO (by omega) (by omega)]; rfl
      have hw3:IntKind.i64.wrap ((m:Int) - 1) = m - 1:=bO (by omega) (by omega)
      refine bK (i:=0) (ua x (kt m v o a) a 0 (put o 5) (by omega)) rfl s5 fun r h6 hr s6=>?_
      have e2:r = (⟨7,0⟩,true):=hr.1.trans (F.s3 a (by omega))
      have hn3:=F.n3 a (by omega)
      refine bK (i:=0) (ua x _ a 0 ⟨20,0,o,0,0⟩ (by omega)) rfl s6 fun r2 h7 hr2 s7=>?_
      have e3:r2 = (⟨0,val v (m - 1)⟩,true):=hr2.1.trans (F.s4 a (by omega))
      subst e2 e3
      rw [hw3]
      refine df (by simp [ab.eqb,val]) ?_
      rw [hw]
      exact ⟨⟨a + 1,rfl,hlt,s7⟩,by simp; omega⟩
    · exact aU rfl (bU (l:=[_]) s5)
end Go.Proofs.YtmggcfijlpldpaaGreatDoor
namespace Go.Proofs.YtmggcfijlpldpaaGreatDoor
open Go Mb Go.ChangeShapes Go.WideShapes Go.RowKit
set_option maxRecDepth 100000 in
theorem lifted_3 (os:Os) (started:os.Started) (H:Type) (enc:TypeId × Value→H) :
    ReturnsInHanded {} Tryz.checked os 3 .any (fun w args=>(Rows.shootProtectSpec.pre enc Tryz.prog Tryz.f3 [] false w args∧laidMetH Tryz.prog laid w)∧sizedMet enc Tryz.prog Tryz.f3 (OpenSpec.ofChange Rows.shootProtectSpec) false w args)
      (Rows.shootProtectSpec.post enc Tryz.prog Tryz.f3 false true false false):=by
  refine returnsInHanded_of_change_and (C:=Tryz.checked) (X:=fun w _=>laidMetH Tryz.prog laid w) (fun _ _ _ hh h=>h.of_heap hh) Tryz.own started (by kernel_rfl) Tryz.func3
    (ChangeSpec.witness_at (enc:=enc) (C:=Tryz.checked) (os:=os) (X:=fun w _=>laidMetH Tryz.prog laid w) false (laidWorld os) #[.int .i64 0,.int .u64 0,.int .i64 0] 8 rfl (by kernel_rfl) (by kernel_rfl) (by kernel_rfl) (by kernel_rfl) (by kernel_rfl) (laidWorld_met os _)) ?_
  intro W base args ds gs before hval0 hW _ _ hL _
  have hval:∀ (j:Nat) t v,Tryz.f3.params[j]? = some t→args[j]? = some v→Value.okWide Tryz.prog W .any base t v:=hval0
  have hW':=hW
  obtain ⟨p,q,hA0,hV0,rfl,hfz,hnd⟩:=hW
  have hA:DataW.TrodAll enc Tryz.prog W 0 (fun _=>true) true Tryz.f3.params.toList args.toList ds p:=hA0
  have hV:DataW.TrodVars enc Tryz.prog W (fun _=>true) [] gs q:=hV0
  rw [Tryz.params3] at hA hval
  have hst:=hA
  obtain ⟨T,F,hb⟩:=block_of_laid hL
  obtain ⟨rfl,rfl⟩:gs = []∧q = []:=by
    cases gs with
    | nil=>exact ⟨rfl,hV⟩
    | cons g r=>exact absurd hV (by intro h; cases h)
  obtain ⟨v0,w0,d0,e0,p0,q0,hx0,rfl,rfl,h0,hA0⟩:=trodAll_cons hA
  obtain ⟨v1,w1,d1,e1,p1,q1,hx1,rfl,rfl,h1,hA1⟩:=trodAll_cons hA0
  obtain ⟨v2,w2,d2,e2,p2,q2,hx2,rfl,rfl,h2,hA2⟩:=trodAll_cons hA1
  obtain ⟨hy,rfl,rfl⟩:=trodAll_nil hA2
  subst hy
  subst hx2
  subst hx1
  obtain rfl:args = #[v0,v1,v2]:=by apply Array.ext'; exact hx0
  obtain ⟨n0,rfl,rfl,rfl,hw0⟩:=open_int Tryz.underlying3 (hval 0 3 v0 rfl rfl) h0
  obtain ⟨n1,rfl,rfl,rfl,hw1⟩:=open_int Tryz.underlying22 (hval 1 22 v1 rfl rfl) h1
  obtain ⟨n2,rfl,rfl,rfl,hw2⟩:=open_int Tryz.underlying3 (hval 2 3 v2 rfl rfl) h2
  refine (run_sp' (ET:=T) (EF:=F) (sp_ShootProtect n0 n1 n2) hb).mono fun e W' ⟨he,hk⟩=>?_
  subst he
  refine ⟨_,rfl,_,_,_,[],(([]:List MemPlace)++(([]:List MemPlace)++(([]:List MemPlace)++[]))),[],hW',?_,?_,?_,keptBut_same hk.os hk.out hk.heap,fun h=>by cases h⟩
  · exact trodAll_mk1 (shut_bool Tryz.underlying4 true)
  · exact same_post (by kernel_rfl) (by kernel_rfl) hst (fun p hp=>hW'.lt p (List.mem_append_left _ hp)) hk (fun p hp=>by simpa using hW'.lt p (List.mem_append_left _ hp))
  · rfl
end Go.Proofs.YtmggcfijlpldpaaGreatDoor
namespace Go.Proofs.YtmggcfijlpldpaaGreatDoor
open Go Mb Go.ChangeShapes Go.WideShapes Go.RowKit
theorem jf0:Tryz.pinned.checked.prog.funcNamed Rows.shootProtectRow.func = some 3:=by kernel_rfl
theorem jf1:(Rows.shootProtectRow.wf (OpenSpec.ofChange Rows.shootProtectSpec) && laidOutB Tryz.pinned.checked.prog && mapsRowed Tryz.pinned.checked.prog) = true:=by kernel_rfl
theorem jf2:(Tryz.f3.params.all (Tryz.pinned.checked.prog.readableRec ·) && namedTie Tryz.pinned.checked.prog Rows.shootProtectRow.named Rows.shootProtectSpec.vars && (Rows.shootProtectRow.stops == []) && (Tryz.pinned.checked.prog.stops == []) && (Rows.shootProtectRow.knobs == []) && (Tryz.pinned.checked.prog.stopKnobs == [])) = true:=by kernel_rfl
theorem jf3:(Rows.shootProtectRow.inPlace == Tryz.pinned.checked.prog.inPlace 3) = true:=by kernel_rfl
theorem jf4:(Rows.shootProtectRow.unfollowed == Tryz.pinned.checked.prog.unfollowed 3) = true:=by kernel_rfl
theorem jf5:(Rows.shootProtectRow.recurses == Tryz.pinned.checked.prog.recurses 3) = true:=by kernel_rfl
theorem jf6:(Rows.shootProtectRow.named == Tryz.pinned.checked.prog.varsNamed 3) = true:=by kernel_rfl
theorem jf7:((Rows.shootProtectRow.maps == (Tryz.f3.params.toList++Rows.shootProtectSpec.plain.varTypes Tryz.pinned.checked.prog).any (Tryz.pinned.checked.prog.mapsRec ·)) && (Rows.shootProtectRow.ifaces == (Tryz.f3.params.toList++Rows.shootProtectSpec.plain.varTypes Tryz.pinned.checked.prog).any (Tryz.pinned.checked.prog.ifacesRec ·)) && (Rows.shootProtectRow.mapsOut == Tryz.pinned.checked.prog.mapsAmong Tryz.f3.resultTypes.toList) &&
  (Rows.shootProtectRow.loops == (Tryz.f3.params.toList++Rows.shootProtectSpec.plain.varTypes Tryz.pinned.checked.prog).any (Tryz.pinned.checked.prog.loopsFrom ·)) && (Rows.shootProtectRow.wideKeys == (Tryz.f3.params.toList++Rows.shootProtectSpec.plain.varTypes Tryz.pinned.checked.prog++Tryz.f3.resultTypes.toList).any (Tryz.pinned.checked.prog.wideKeysFrom ·)) &&
  Rows.shootProtectSpec.vars.all (Tryz.pinned.checked.prog.varReadable ·) && Tryz.f3.resultTypes.all (fun t=>Tryz.pinned.checked.prog.readableRec t && decide (t < Tryz.pinned.checked.prog.types.size)) && (Rows.shootProtectRow.ifacesOut == Tryz.f3.resultTypes.toList.any (Tryz.pinned.checked.prog.ifacesRec ·)) && (Rows.shootProtectRow.loopsOut == Tryz.f3.resultTypes.toList.any (Tryz.pinned.checked.prog.loopsFrom ·))) = true:=by kernel_rfl
theorem jf8:(Rows.shootProtectRow.plainKeys == Tryz.pinned.checked.prog.plainKeys) = true:=by kernel_rfl
theorem jf9:(Rows.shootProtectRow.shortTexts.isNone && Tryz.pinned.checked.prog.stopsHeard && Tryz.pinned.checked.prog.mayEnter && (Rows.shootProtectRow.lifted == Tryz.pinned.checked.prog.liftsFinal) && (Tryz.pinned.checked.prog.make == some Rows.shootProtectRow.make) && kindsB Tryz.pinned.checked.prog Tryz.f3 Rows.shootProtectRow && (Rows.shootProtectRow.pinned == Rows.shootProtectRow.pinnedBy) &&
  (Rows.shootProtectRow.veiled == (Tryz.f3.params.toList++Rows.shootProtectSpec.plain.varTypes Tryz.pinned.checked.prog++Tryz.f3.resultTypes.toList).any (Tryz.pinned.checked.prog.veiledRec ·)) && Rows.shootProtectRow.veiledFits Tryz.pinned.checked.prog Tryz.f3.params.toList (Tryz.f3.params.toList++Rows.shootProtectSpec.plain.varTypes Tryz.pinned.checked.prog++Tryz.f3.resultTypes.toList)) = true:=by kernel_rfl
theorem said_3:Rows.ShootProtectSaid :=
  OpenClaim.holds_of_wide 3 Tryz.f3 rfl rfl rfl rfl rfl rfl rfl ⟨rfl,rfl,rfl,rfl,rfl⟩ rfl rfl rfl rfl rfl jf0 Tryz.func3 (joined_split jf1 jf2 jf3 jf4 jf5 jf6 jf7 jf8 jf9)
    (of_decide_eq_true (by kernel_rfl)) (by unfold Func.isWrapper; rw [if_neg (of_decide_eq_false (by kernel_rfl))]; exact ⟨rfl,rfl⟩)
    (fun os started H enc _=>lifted_3 os started H enc)
theorem shootProtect_holds:Rows.ShootProtectCardSaid :=
  Claim7.holds_tied_plain_at .later [] [.handle] true (true, "0a18a80e28d285d70557e301bc4d2565b35b6c3c507dca02213e4d1d6624e7b5") true
    said_3 (fun _ h=>by cases h) (by kernel_rfl) (fun _ h=>by cases h) shootProtect_row_tie rfl ⟨rfl,rfl⟩ (by kernel_rfl) rfl
    (fun f fn hf hfn=>by
      obtain rfl:f = 3:=Option.some.inj ((show Tryz.prog.funcNamed "messuage/messuagelaw16.ShootProtect" = some 3 by kernel_rfl).symm.trans hf) |>.symm
      obtain rfl:fn = Tryz.f3:=(Option.some.inj (Tryz.func3.symm.trans hfn)).symm
      exact ⟨by kernel_rfl,fun j t ht=>by
        rw [Tryz.params3] at ht
        exact want_all (by kernel_rfl) (j:=j) (t:=t) ht⟩)
    (by kernel_rfl)
end Go.Proofs.YtmggcfijlpldpaaGreatDoor
