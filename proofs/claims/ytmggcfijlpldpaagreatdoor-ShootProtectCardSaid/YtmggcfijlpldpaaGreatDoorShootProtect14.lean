/- Part of the proof of: The law ShootProtect returns true for every input, and leaves its arguments as they were. -/
import Derived.Test.YtmggcfijlpldpaaGreatDoorShootProtect13
set_option linter.all false
set_option maxRecDepth 20000
namespace Go.Proofs.YtmggcfijlpldpaaGreatDoor
open Go Mb
set_option linter.unusedVariables false
def oN (K:Bool→Hp→Prop):Hp→Prop:=cl Tryz.prog uR [(.int .i64 2)] sX fun r24=>cl Tryz.prog kS [] hU fun r25=>cl Tryz.prog ij [] gj fun r26=>cl Tryz.prog sC [(.int .i64 3)] oC fun r27=>cl Tryz.prog sF [(.int .u64 5)] oD fun r28=>cl Tryz.prog wh [] sW fun r29=>cl Tryz.prog wi [(.int .i64 2)] rJ fun r30=>br ((((((r24.isNone || r25.isNone) || r26.isNone) || r27.isNone) || r28.isNone) || r29.isNone) || r30.isNone) ( K false) ( cl Tryz.prog dQ [(pv r25),(.int .i64 1),(.agg (ak.C (⟨1,2,3⟩:ak)).toArray)] bf fun r59=>cl Tryz.prog oe [(pv r26),(.agg (al.C (⟨1,5,1,1⟩:al)).toArray)] ay fun r67=>cl Tryz.prog od [(pv r26),(.int .i64 1),(.int .i64 5)] fo fun r70=>cl Tryz.prog mA [(pv r27),(.int .i64 0),(.int .u64 4)] dW fun r74=>cl Tryz.prog lD [(pv r27),(.int .i64 2)] bG fun r77=>cl Tryz.prog ov [(pv r28),(.int .u64 9)] bG fun r82=>cl Tryz.prog mI [(pv r29)] gw fun r86=>cl Tryz.prog jf [(pv r30)] bH fun r89=>cl Tryz.prog kZ [] ay fun r97=>br (((((((((((r97 && (r59 == 0)) && (ge (⟨1,2,3⟩:ak)).2) && (((ge (⟨1,2,3⟩:ak)).1) == 33059)) && r67) && r70.2) && (r70.1.fFrame == 1)) && (r74 == 2)) && (r77.1 == 4)) && r77.2) && (r82.1 == 6)) && (r86 == 0)) ( cl Tryz.prog jF [(pv r29),(.int .u64 0)] ay fun r141=>br r141 ( cl Tryz.prog mH [(pv r29),(.int .u64 0)] ay fun r145=>br ((r145 && (r89.1 == 0)) && r89.2) ( cl Tryz.prog ff [(pv r24),(.int .i64 1),(.int .i64 3),(.int .u64 9)] ay fun r156=>br ((r156 && (aB (⟨6,0,0,0,0⟩:ae)).2) && (((aB (⟨6,0,0,0,0⟩:ae)).1) == 6)) ( cl Tryz.prog gB [(.agg (ae.C (⟨6,8,0,1,0⟩:ae)).toArray),(.int .i64 2)] bf fun r167=>br (r167 == 2) ( cl Tryz.prog n_word_Args [(.int .i64 3)] dW fun r171=>br ((r171 == 4) && (be 1 3)) ( cl Tryz.prog lz [(pv r25),(.int .i64 2)] cr fun r179=>br ((r179.len:Int) == 1) ( cl Tryz.prog px [(pv r30)] gw fun r185=>K (r185 == 2)) ( K false)) ( K false)) ( K false)) ( K false)) ( K false)) ( K false)) ( K false))
theorem vH {K:Bool→Hp→Prop} {h:Hp} (H:oN K h):Ct Tryz.prog kW #[] h fun v h'=>∃ r,v = ay r∧K r h':=au [] Tryz.func178 c c c fun _=>M<|O c<|M<|aa<|Z H en_93 fun r24 _ H1=>aa<|Z H1 en_96 fun r25 _ H2=>aa<|Z H2 en_51 fun r26 _ H3=>aa<|Z H3 en_49 fun r27 _ H4=>p (aq c)<|p (aq c)<|p (aq c)<|O c<|M<|aa<|Z H4 en_202 fun r28 _ H5=>aa<|Z H5 en_203 fun r29 _ H6=>aa<|Z H6 en_94 fun r30 _ H7=>p (aq c)<|p (aq c)<|O c<|aj<|M<|J c<|p (cg Tryz.underlying144 c)<|J c<|V c c (aG _) (fun g8=>wv<|ag c)<|V c c (aG _) (fun g9=>wv<|cg Tryz.underlying153<|az c g9)<|p (cZ c c)<|J c<|V c c (aG _) (fun g10=>wv<|ag c)<|V c c (aG _) (fun g11=>wv<|cg Tryz.underlying94<|az c g11)<|p (cZ c c)<|J c<|V c c (aG _) (fun g12=>wv<|ag c)<|V c c (aG _) (fun g13=>wv<|cg Tryz.underlying85<|az c g13)<|p (cZ c c)<|J c<|V c c (aG _) (fun g14=>wv<|ag c)<|V c c (aG _) (fun g15=>wv<|cg Tryz.underlying264<|az c g15)<|p (cZ c c)<|J c<|V c c (aG _) (fun g16=>wv<|ag c)<|V c c (aG _) (fun g17=>wv<|cg Tryz.underlying266<|az c g17)<|p (cZ c c)<|J c<|V c c (aG _) (fun g18=>wv<|ag c)<|V c c (aG _) (fun g19=>wv<|cg Tryz.underlying146<|az c g19)<|p (cZ c c)<|ac<|ar c H7 (fun k20 H21=>M<|O c<|ah<|Y ⟨false,c,H21⟩) fun k20 H21=>am<|M<|J c<|p (aW c<|mC 1 2 3)<|aa<|Z H21 en_100 fun r59 _ H22=>O c<|M<|p (aW c<|mC 1 2 3)<|aa<|cA (vs:=[(.agg (ak.C (⟨1,2,3⟩:ak)).toArray)]) (bq<|ct_pte_Put (⟨1,2,3⟩:ak) _) en_149 c c<|J c<|p (ai c c)<|p (ai c c)<|p (aq c)<|O c<|M<|J c<|p (aW c<|vh 1 5 1 1)<|aa<|Z H22 en_154 fun r67 _ H23=>O c<|M<|J c<|aa<|Z H23 en_151 fun r70 _ H24=>J c<|p (ai c c)<|p (ai c c)<|aa<|aK (l:=al.C (⟨0,0,0,0⟩:al)) kz c c fun b12=>aa<|aN (k:=0) (vs:=al.C r70.1) ft c c c c c c c<|O c<|M<|J c<|aa<|Z H24 en_60 fun r74 _ H25=>O c<|M<|J c<|aa<|Z H25 en_123 fun r77 _ H26=>J c<|p (ai c c)<|p (ai c c)<|p (aq c)<|O c<|M<|J c<|aa<|Z H26 en_204 fun r82 _ H27=>J c<|p (ai c c)<|p (ai c c)<|p (aq c)<|O c<|M<|J c<|aa<|Z H27 en_205 fun r86 _ H28=>O c<|M<|J c<|aa<|Z H28 en_166 fun r89 _ H29=>J c<|p (ai c c)<|p (ai c c)<|p (aq c)<|O c<|M<|p (aW c<|build_34_0 6)<|aa<|cA (vs:=[(.agg (ae.C (⟨6,0,0,0,0⟩:ae)).toArray)]) (bq<|jL (⟨6,0,0,0,0⟩:ae) _) en_53 c c<|J c<|p (ai c c)<|p (ai c c)<|p (aq c)<|O c<|M<|aa<|Z H29 en_206 fun r97 _ H30=>J c<|V c c (aw _) (fun g31=>wv<|ag c)<|V c c (aw _) (fun g32=>wv<|bM (az c g32) c)<|p (bN c c)<|J c<|V c c (aw _) (fun g33=>wv<|ag c)<|p (bN c c)<|J c<|V c c (aw _) (fun g34=>wv<|ag c)<|V c c (aw _) (fun g35=>wv<|bM (az c g35) c)<|p (bN c c)<|J c<|V c c (aw _) (fun g36=>wv<|ag c)<|p (bN c c)<|J c<|V c c (aw _) (fun g37=>wv<|ag c)<|p (bN c c)<|J c<|V c c (aw _) (fun g38=>wv<|ad lh c)<|V c c (aw _) (fun g39=>cv<|bc (k:=0) aY (az c g39) c c)<|V c c (aw _) (fun g40=>wv<|bM (az c g40) c)<|p (bN c c)<|J c<|V c c (aw _) (fun g41=>wv<|ag c)<|V c c (aw _) (fun g42=>wv<|bM (az c g42) c)<|p (bN c c)<|J c<|V c c (aw _) (fun g43=>wv<|ag c)<|V c c (aw _) (fun g44=>wv<|bM (az c g44) c)<|p (bN c c)<|J c<|V c c (aw _) (fun g45=>wv<|ag c)<|p (bN c c)<|J c<|V c c (aw _) (fun g46=>wv<|ag c)<|V c c (aw _) (fun g47=>wv<|bM (az c g47) c)<|p (bN c c)<|J c<|V c c (aw _) (fun g48=>wv<|ag c)<|V c c (aw _) (fun g49=>wv<|bM (az c g49) c)<|p (bN c c)<|J c<|V c c (aw _) (fun g50=>wv<|ag c)<|bP H30 (fun k52 H53=>F (D k52)<|fV H53 en_207 (aP (az c k52)<|aP c bL) c fun r141 _ H54=>p (aR c k52 c)<|J c<|V c c (aw _) (fun g55=>wv<|ag c)<|bP H54 (fun k57 H58=>F (D k57)<|fV H58 en_208 (aP (az c k57)<|aP c bL) c fun r145 _ H59=>p (aR c k57 c)<|J c<|V c c (aw _) (fun g60=>wv<|ag c)<|V c c (aw _) (fun g61=>wv<|bM (az c g61) c)<|p (bN c c)<|J c<|V c c (aw _) (fun g62=>wv<|ag c)<|p (bN c c)<|J c<|V c c (aw _) (fun g63=>wv<|ag c)<|bP H59 (fun k65 H66=>F (D k65)<|fV H66 en_157 (aP (az c k65)<|aP c<|aP c<|aP c bL) c fun r156 _ H67=>p (aR c k65 c)<|J c<|V c c (aw _) (fun g68=>wv<|ag c)<|p (bN c c)<|J c<|V c c (aw _) (fun g69=>wv<|ag c)<|V c c (aw _) (fun g70=>wv<|bM (az c g70) c)<|p (bN c c)<|J c<|V c c (aw _) (fun g71=>wv<|aW c<|dU 6 8 0 1)<|bP H67 (fun k73 H74=>F (D k73)<|fV H74 en_98 (aP (az c k73)<|aP c bL) c fun r167 _ H75=>F (D k73)<|R (bM c c)<|p (aR c k73 c)<|J c<|bP H75 (fun k77 H78=>F (D k77)<|Z H78 en_209 fun r171 _ H79=>F (D k77)<|R (bM c c)<|p (aR c k77 c)<|J c<|cR (vs:=[(.int .i64 1),(.int .i64 3)]) c c c (aw _) (fun g80=>bq<|cU 1 3 _) lZ (fun g80=>c) c<|p (bN c c)<|J c<|V c c (aw _) (fun g81=>wv<|ag c)<|bP H79 (fun k83 H84=>F (D k83)<|fV H84 en_171 (aP (az c k83)<|aP c bL) c fun r179 _ H85=>F (D k83)<|R (dz c Tryz.underlying40 c)<|F (D k83)<|R (bM c c)<|p (aR c k83 c)<|J c<|V c c (aw _) (fun g86=>wv<|ag c)<|bP H85 (fun k88 H89=>F (D k88)<|fV H89 en_210 (aP (az c k88) bL) c fun r185 _ H90=>F (D k88)<|R (bM c c)<|p (aR c k88 c)<|O c<|ah<|Y ⟨(r185 == 2),c,H90⟩) fun k88 H89=>W (aQ k88)<|W (aQ k88)<|p (ao c k88 c)<|O c<|ah<|Y ⟨false,c,H89⟩) fun k83 H84=>W (aQ k83)<|W (aQ k83)<|W (aQ k83)<|p (ao c k83 c)<|J c<|W c<|W c<|W c<|p (ao c c c)<|O c<|ah<|Y ⟨false,c,H84⟩) fun k77 H78=>W (aQ k77)<|W (aQ k77)<|p (ao c k77 c)<|J c<|W c<|p (ao c c c)<|J c<|W c<|W c<|W c<|W c<|p (ao c c c)<|J c<|W c<|W c<|W c<|p (ao c c c)<|O c<|ah<|Y ⟨false,c,H78⟩) fun k73 H74=>W (aQ k73)<|W (aQ k73)<|p (ao c k73 c)<|J c<|W c<|W c<|p (ao c c c)<|J c<|W c<|p (ao c c c)<|J c<|W c<|W c<|W c<|W c<|p (ao c c c)<|J c<|W c<|W c<|W c<|p (ao c c c)<|O c<|ah<|Y ⟨false,c,H74⟩) fun k65 H66=>W (aQ k65)<|p (ao c k65 c)<|J c<|W c<|p (ao c c c)<|J c<|W c<|W c<|p (ao c c c)<|J c<|W c<|W c<|W c<|p (ao c c c)<|J c<|W c<|W c<|p (ao c c c)<|J c<|W c<|p (ao c c c)<|J c<|W c<|W c<|W c<|W c<|p (ao c c c)<|J c<|W c<|W c<|W c<|p (ao c c c)<|O c<|ah<|Y ⟨false,c,H66⟩) fun k57 H58=>W (aQ k57)<|p (ao c k57 c)<|J c<|W c<|W c<|p (ao c c c)<|J c<|W c<|p (ao c c c)<|J c<|W c<|W c<|p (ao c c c)<|J c<|W c<|p (ao c c c)<|J c<|W c<|W c<|p (ao c c c)<|J c<|W c<|W c<|W c<|p (ao c c c)<|J c<|W c<|W c<|p (ao c c c)<|J c<|W c<|p (ao c c c)<|J c<|W c<|W c<|W c<|W c<|p (ao c c c)<|J c<|W c<|W c<|W c<|p (ao c c c)<|O c<|ah<|Y ⟨false,c,H58⟩) fun k52 H53=>W (aQ k52)<|p (ao c k52 c)<|J c<|W c<|W c<|p (ao c c c)<|J c<|W c<|W c<|p (ao c c c)<|J c<|W c<|p (ao c c c)<|J c<|W c<|W c<|p (ao c c c)<|J c<|W c<|p (ao c c c)<|J c<|W c<|W c<|p (ao c c c)<|J c<|W c<|W c<|W c<|p (ao c c c)<|J c<|W c<|W c<|p (ao c c c)<|J c<|W c<|p (ao c c c)<|J c<|W c<|W c<|W c<|W c<|p (ao c c c)<|J c<|W c<|W c<|W c<|p (ao c c c)<|O c<|ah<|Y ⟨false,c,H53⟩
def oO (K:Bool→Hp→Prop):Hp→Prop:=cl Tryz.prog kW [] ay fun r1=>K r1
theorem vJ {K:Bool→Hp→Prop} {h:Hp} (H:oO K h):Ct Tryz.prog kX #[] h fun v h'=>∃ r,v = ay r∧K r h':=au [] Tryz.func138 c c c fun _=>M<|O c<|M<|aa<|Z H en_178 fun r1 _ H1=>O c<|ah<|Y ⟨r1,c,H1⟩
end Go.Proofs.YtmggcfijlpldpaaGreatDoor
namespace Go.Proofs.YtmggcfijlpldpaaGreatDoor
open Go Mb
variable {ET:Nat} {EF:Nat × Nat}
section
variable {l:List As} {h:Hp} {x:Ptr}
theorem mem_nn {fs:List (List Int)} (s:aC (hH x fs::l) h):x.isNone = false:=by obtain ⟨b,_,_,rfl,_⟩:=mem_op s; rfl
theorem nn_of {α:Type} {φ:α→Prop} {m:α→List As} (hx:∀ z,φ z→x.isNone = false) (s:aC ((fun h=>∃ z,φ z∧aC (m z) h)::l) h):x.isNone = false:=by
  obtain ⟨z,f,_⟩:=op_ s
  exact hx z f
theorem table_nn {ps:List Pte} (s:aC (cO x ps::l) h):x.isNone = false:=nn_of (fun _ e=>by rw [e.1]; rfl) s
theorem tlb_nn {t:List TL × Int} (s:aC (fh x t::l) h):x.isNone = false:=nn_of (fun _ e=>by rw [e.1]; rfl) s
theorem mail_nn {bs:List (List Int)} (s:aC (iO x bs::l) h):x.isNone = false:=nn_of (fun _ e=>by rw [e.1]; rfl) s
theorem cell_nn {c:Int × Int} (s:aC (kw x c::l) h):x.isNone = false:=nn_of (fun _ e=>by rw [e]; rfl) s
theorem lock_nn {k:(Int × Int) × (Int × Int)} (s:aC (uk x k::l) h):x.isNone = false:=nn_of (fun _ e=>by rw [e]; rfl) s
theorem pool_nn {p:List Int} (s:aC (fC x p::l) h):x.isNone = false:=nn_of (fun _ e=>by rw [e.1]; rfl) s
end
theorem sp_Begun1:Sp Tryz.prog kZ [] ay [(etB ET EF)] (fun r=>pa_ (r = true) [(etB ET EF)]):=by
  intro h st
  refine vN ?_
  unfold oQ
  exact bK (i:=0) sp_begun1 rfl st fun r h' hr s=>aU hr s
theorem sp_begun2:Sp Tryz.prog kW [] ay [(etB ET EF)] (fun r=>pa_ (r = true) [(etB ET EF)]):=by
  intro h st
  refine vH ?_
  unfold oN
  refine lj (sp_mem_New 2 (by decide) (by decide)) st fun a1 h1 s1=>?_
  refine lj nK s1 fun a2 h2 s2=>?_
  refine lj vt s2 fun a3 h3 s3=>?_
  refine lj (sp_mail_New 3 (by decide) (by decide)) s3 fun a4 h4 s4=>?_
  refine lj (sp_cell_New 5) s4 fun a5 h5 s5=>?_
  refine lj sp_ticket_New s5 fun a6 h6 s6=>?_
  refine lj (sp_pool_New 2 (by decide) (by decide)) s6 fun a7 h7 s7=>?_
  have n1:=mem_nn s1
  have n2:=table_nn s2
  have n3:=tlb_nn s3
  have n4:=mail_nn s4
  have n5:=cell_nn s5
  have n6:=lock_nn s6
  have n7:=pool_nn s7
  rw [n1,n2,n3,n4,n5,n6,n7]
  refine df rfl ?_
  refine bK (i:=5) (jQ a2 _ 1 ⟨1,2,3⟩) rfl s7 fun r1 h8 e1 s8=>?_
  refine bK (i:=4) (sp_tlb_Fill a3 _ ⟨1,5,1,1⟩) rfl s8 fun r2 h9 e2 s9=>?_
  refine bK (i:=4) (sp_tlb_Find a3 _ 1 5) rfl s9 fun r3 h10 e3 s10=>?_
  refine bK (i:=3) (sp_mail_All a4 _ 0 4 (fun l hl=>?_)) rfl s10 fun r4 h11 e4 s11=>?_
  · have:l = []:=by simpa using hl
    subst this
    exact ⟨fun _ h=>(by cases h),.nil,by decide⟩
  refine bK (i:=3) (sp_mail_Take a4 _ 2) rfl s11 fun r5 h12 e5 s12=>?_
  refine bK (i:=2) (sp_cell_Up a5 _ 9) rfl s12 fun r6 h13 e6 s13=>?_
  refine bK (i:=1) (sp_ticket_Draw a6 _) rfl s13 fun r7 h14 e7 s14=>?_
  refine bK (i:=0) (vu a7 _) rfl s14 fun r8 h15 e8 s15=>?_
  refine bK (i:=7) sp_Begun1 rfl s15 fun r9 h16 e9 s16=>?_
  subst e1 e2 e3 e4 e5 e6 e7 e8 e9
  refine dL (by kernel_rfl) ?_
  refine bK (i:=1) (sp_ticket_Turn a6 _ 0) rfl s16 fun r10 h17 e10 s17=>?_
  subst e10
  refine dL (by kernel_rfl) ?_
  refine bK (i:=1) (sp_ticket_Pass a6 _ 0) rfl s17 fun r11 h18 e11 s18=>?_
  subst e11
  refine dL (by kernel_rfl) ?_
  refine bK (i:=6) (lu a1 _ 1 3 9) rfl s18 fun r12 h19 e12 s19=>?_
  subst e12
  refine dL (by kernel_rfl) ?_
  refine sZ (iM ⟨6,8,0,1,0⟩ 2) s19 fun r13 h20 e13 s20=>?_
  subst e13
  refine dL (by kernel_rfl) ?_
  refine sZ (sp_word_Args 3) s20 fun r14 h21 e14 s21=>?_
  subst e14
  refine dL (by kernel_rfl) ?_
  refine cl_n (i:=5) (sp_table_By a2 _ 2) rfl s21 fun r15 h22 s22=>?_
  have e15:((r15.len:Int) == 1) = true:=by
    rw [(cd (j:=0) s22 rfl).1]
    kernel_rfl
  refine dL e15 ?_
  refine bK (i:=1) (sp_pool_Bits a7 _) rfl s22 fun r16 h23 e16 s23=>?_
  subst e16
  refine aU (by kernel_rfl) (bU (l:=[_,_,_,_,_,_,_,_]) s23)
theorem sp_Begun2:Sp Tryz.prog kX [] ay [(etB ET EF)] (fun r=>pa_ (r = true) [(etB ET EF)]):=by
  intro h st
  refine vJ ?_
  unfold oO
  exact bK (i:=0) sp_begun2 rfl st fun r h' hr s=>aU hr s
end Go.Proofs.YtmggcfijlpldpaaGreatDoor
namespace Go.Proofs.YtmggcfijlpldpaaGreatDoor
open Go Mb
namespace Mb
theorem least {p:Nat→Prop}:∀ (n:Nat),p n→∃ m,p m∧∀ k,p k→m ≤ k:=by
  intro n
  induction n using Nat.strongRecOn with
  | _ n ih =>
    intro hn
    by_cases h:∃ k,k < n∧p k
    · obtain ⟨k,hk,hpk⟩:=h
      exact ih k hk hpk
    · exact ⟨n,hn,fun k hk=>Nat.le_of_not_lt fun hlt=>h ⟨k,hlt,hk⟩⟩
theorem Lp.ghost {σ γ:Type} {step:(σ→Hp→Prop)→σ→Hp→Prop} (I:γ→σ→Hp→Prop) (μ:γ→Nat) {s:σ} {h:Hp} {g:γ} (h0:I g s h)
    (hs:∀ g s h,I g s h→∀ R:σ→Hp→Prop,(∀ g' s' h',I g' s' h'→μ g' < μ g→R s' h')→step R s h):Lp step s h:=by
  have mins:∀ s h,(∃ g,I g s h)→∃ m,(∃ g,I g s h∧μ g = m)∧∀ k,(∃ g,I g s h∧μ g = k)→m ≤ k:=by
    rintro s h ⟨g,hg⟩
    exact least (p:=fun m=>∃ g,I g s h∧μ g = m) (μ g) ⟨g,hg,rfl⟩
  let M:σ→Hp→Nat:=fun s h=>@dite Nat (∃ g,I g s h) (Classical.propDecidable _) (fun H=>Classical.choose (mins s h H)) (fun _=>0)
  have hM:∀ s h,(∃ g,I g s h)→(∃ g,I g s h∧μ g = M s h)∧∀ g,I g s h→M s h ≤ μ g:=by
    intro s h H
    have e:M s h = Classical.choose (mins s h H):=by
      show @dite Nat (∃ g,I g s h) (Classical.propDecidable _) _ _ = _
      rw [dif_pos H]
    have sp:=Classical.choose_spec (mins s h H)
    rw [e]
    exact ⟨sp.1,fun g hg=>sp.2 _ ⟨g,hg,rfl⟩⟩
  refine Lp.intro (fun s h=>∃ g,I g s h) M ⟨g,h0⟩ fun s h H=>?_
  obtain ⟨⟨g,hg,e⟩,_⟩:=hM s h H
  refine hs g s h hg _ fun g' s' h' hg' hlt=>⟨⟨g',hg'⟩,?_⟩
  have:=(hM s' h' ⟨g',hg'⟩).2 g' hg'
  omega
end Mb
namespace Caps
structure Sub (t o:T):Prop where
  len:t.length = o.length
  get:∀ e s,has o e s = true→get t e s = rH∨get t e s = get o e s
def more1 (o t:T) (e s:Int):Bool × T :=
  if (at_ o e s).2 = false∨(at_ t e s).2 = true then (false,t)
  else if (at_ o e s).1.fEnv < 0 then ((root t e s (at_ o e s).1.fFrame).1 == 0,(root t e s (at_ o e s).1.fFrame).2)
  else ((derive t (at_ o e s).1.fEnv (at_ o e s).1.fSlot e s (at_ o e s).1.fRights).1 == 0,(derive t (at_ o e s).1.fEnv (at_ o e s).1.fSlot e s (at_ o e s).1.fRights).2)
def moreS (o:T) (e:Nat):Nat→Bool × T→Bool × T
  | 0,st=>st
  | n + 1,st=>((moreS o e n st).1 || (more1 o (moreS o e n st).2 e n).1,(more1 o (moreS o e n st).2 e n).2)
def moreE (o:T):Nat→Bool × T→Bool × T
  | 0,st=>st
  | m + 1,st=>moreS o m 8 (moreE o m st)
def missing (o t:T) (p:Nat × Nat):Bool:=(at_ o p.1 p.2).2 && !(at_ t p.1 p.2).2
def pairs (n:Nat):List (Nat × Nat):=(List.range n).flatMap fun e=>(List.range 8).map fun s=>(e,s)
def miss (o t:T):Nat:=(pairs o.length).countP (missing o t)
theorem mem_pairs {n e s:Nat}:(e,s) ∈ pairs n↔e < n∧s < 8:=by
  unfold pairs; simp [List.mem_flatMap]
theorem countP_lt {α:Type} {P Q:α→Bool} {a:α}:∀ {l:List α},(∀ x ∈ l,Q x = true→P x = true)→a ∈ l→P a = true→Q a = false→l.countP Q < l.countP P
  | [],_,h,_,_=>by cases h
  | x::l,h1,h2,h3,h4=>by
    have le:∀ {l:List α},(∀ x ∈ l,Q x = true→P x = true)→l.countP Q ≤ l.countP P:=fun h=>List.countP_mono_left h
    rcases List.mem_cons.1 h2 with rfl | h2
    · rw [List.countP_cons_of_pos h3,List.countP_cons_of_neg (by rw [h4]; exact Bool.false_ne_true)]
      have:=le (l:=l) (fun x hx=>h1 x (by simp [hx]))
      omega
    · have ih:=countP_lt (l:=l) (fun x hx=>h1 x (by simp [hx])) h2 h3 h4
      by_cases hq:Q x = true
      · rw [List.countP_cons_of_pos hq,List.countP_cons_of_pos (h1 x (by simp) hq)]; omega
      · rw [List.countP_cons_of_neg hq]
        by_cases hpx:P x = true
        · rw [List.countP_cons_of_pos hpx]; omega
        · rw [List.countP_cons_of_neg hpx]; omega
theorem sU {t:T} {e s:Int}:(at_ t e s).2 = true↔has t e s = true∧(get t e s).fRights ≠ 0:=by
  unfold at_; split
  · rename_i h; exact ⟨fun _=>h,fun _=>rfl⟩
  · rename_i h; exact ⟨fun hh=>(by cases hh),fun hh=>absurd hh h⟩
theorem at_fst {t:T} {e s:Int} (h:(at_ t e s).2 = true):(at_ t e s).1 = get t e s:=by
  have:=sU.1 h
  unfold at_; rw [if_pos this]
theorem sub_has {t o:T} (h:Sub t o) (e s:Int):has t e s = has o e s:=by unfold has; rw [h.len]
theorem cap_empty {n:Int} {o:T} {c:Cap} (h:CapFine n o c) (h0:c.fRights = 0):c = rH:=by
  rcases h with h | h | h
  · exact h
  · omega
  · have:=(vn h.2.2.2.1).1; omega
theorem more1_is {n:Int} {o t:T} (hn:n ≤ 16) (ok:Ok o) (F:eY n o) (okt:Ok t) (sb:Sub t o) {e s:Int} (hh:has o e s = true) :
    (more1 o t e s = (false,t)∧((at_ o e s).2 = true→(at_ t e s).2 = true∨(0 ≤ (get o e s).fEnv∧(get t (get o e s).fEnv (get o e s).fSlot).fRights = 0))) ∨
    (more1 o t e s = (true,put t e s (get o e s))∧(get t e s).fRights = 0∧(get o e s).fRights ≠ 0∧(0 ≤ (get o e s).fEnv→has t (get o e s).fEnv (get o e s).fSlot = true∧(get t (get o e s).fEnv (get o e s).fSlot).fRights ≠ 0)):=by
  by_cases h1:(at_ o e s).2 = true
  · by_cases h2:(at_ t e s).2 = true
    · left
      exact ⟨by unfold more1; rw [if_pos (.inr h2)],fun _=>.inl h2⟩
    · have hno:¬ ((at_ o e s).2 = false∨(at_ t e s).2 = true):=by simp [h1,h2]
      have hc:=(sU.1 h1).2
      have hf:=at_fst h1
      have hht:has t e s = true:=by rw [sub_has sb]; exact hh
      have h0:(get t e s).fRights = 0:=by
        by_cases hz:(get t e s).fRights = 0
        · exact hz
        · exact absurd (sU.2 ⟨hht,hz⟩) h2
      rcases F e s hh with ec | ec | ec
      · rw [ec] at hc; exact absurd rfl hc
      · right
        have hneg:(get o e s).fEnv < 0:=by omega
        have er:root t e s (get o e s).fFrame = (0,put t e s (get o e s)):=by
          unfold root
          rw [if_neg (by simp [hht]; omega),if_neg (by simp [h0])]
          have:(⟨(get o e s).fFrame,3,-1,0⟩:Cap) = get o e s:=by
            obtain ⟨a1,a2,a3,_⟩:=ec
            cases hg:get o e s
            rw [hg] at a1 a2 a3
            simp_all
          rw [this]
        refine ⟨?_,h0,hc,fun hp=>absurd hp (by omega)⟩
        unfold more1
        rw [if_neg hno,hf,if_pos hneg,er]; rfl
      · have hpos:¬ (get o e s).fEnv < 0:=by omega
        obtain ⟨p1,p2⟩:=parent_has ok hh hc ec.1
        have p1t:has t (get o e s).fEnv (get o e s).fSlot = true:=by rw [sub_has sb]; exact p1
        have hw:=vn ec.2.2.2.1
        have hmay:cw (get o e s).fRights = true:=may_iff.2 hw.1
        by_cases hp:(get t (get o e s).fEnv (get o e s).fSlot).fRights = 0
        · left
          have ed:derive t (get o e s).fEnv (get o e s).fSlot e s (get o e s).fRights = (3,t):=by
            unfold derive
            rw [if_neg (by simp [p1t,hht,hmay]),if_pos hp]
          refine ⟨?_,fun _=>.inr ⟨ec.1,hp⟩⟩
          unfold more1
          rw [if_neg hno,hf,if_neg hpos,ed]; rfl
        · right
          have eg:get t (get o e s).fEnv (get o e s).fSlot = get o (get o e s).fEnv (get o e s).fSlot:=by
            rcases sb.get _ _ p1 with h | h
            · rw [h] at hp; exact absurd rfl hp
            · exact h
          have ed:derive t (get o e s).fEnv (get o e s).fSlot e s (get o e s).fRights = (0,put t e s (get o e s)):=by
            unfold derive
            rw [if_neg (by simp [p1t,hht,hmay]),if_neg hp,if_neg (by simp [h0]),eg,if_neg (by simp [ec.2.2.2.1]),ec.2.2.2.2]
          refine ⟨?_,h0,hc,fun _=>⟨p1t,hp⟩⟩
          unfold more1
          rw [if_neg hno,hf,if_neg hpos,ed]; rfl
  · left
    exact ⟨by unfold more1; rw [if_pos (.inl (by simpa using h1))],fun h=>absurd h h1⟩
structure Way (o t0 t:T) (b:Bool) (D:Nat→Nat→Prop):Prop where
  ok:Ok t
  sub:Sub t o
  same:b = false→t = t0
  no:b = false→∀ e s:Nat,D e s→(more1 o t0 e s).1 = false
  le:miss o t ≤ miss o t0
  lt:b = true→miss o t < miss o t0
theorem way_step {n:Int} {o t0 t:T} {b:Bool} {D:Nat→Nat→Prop} (hn:n ≤ 16) (ok:Ok o) (F:eY n o) (w:Way o t0 t b D) {e s:Nat} (he:e < o.length) (hs:s < 8) :
    Way o t0 (more1 o t e s).2 (b || (more1 o t e s).1) (fun a i=>D a i∨(a = e∧i = s)):=by
  have hh:has o e s = true:=has_of he hs
  have hht:has t e s = true:=by rw [sub_has w.sub]; exact hh
  rcases more1_is hn ok F w.ok w.sub hh with ⟨e1,h1⟩ | ⟨e1,h0,hc,hp⟩
  · rw [e1,Bool.or_false]
    refine ⟨w.ok,w.sub,w.same,fun hb a i hd=>?_,w.le,w.lt⟩
    rcases hd with hd | ⟨rfl,rfl⟩
    · exact w.no hb a i hd
    · have:=w.same hb
      rw [← this,e1]
  · rw [e1,Bool.or_true]
    have gp:∀ a i,has o a i = true→get (put t e s (get o e s)) a i = if a = e∧i = s then get o e s else get t a i:=fun a i hai=>ww w.ok.row hht (by rw [sub_has w.sub]; exact hai) _
    have hlt:miss o (put t e s (get o e s)) < miss o t:=by
      unfold miss
      refine countP_lt (a:=(e,s)) (fun q hq hm=>?_) (mem_pairs.2 ⟨he,hs⟩) ?_ ?_
      · unfold missing at hm ⊢
        rw [Bool.and_eq_true] at hm ⊢
        refine ⟨hm.1,?_⟩
        have hq':=(sU.1 hm.1).1
        have hm2:¬ (at_ (put t e s (get o e s)) q.1 q.2).2 = true:=by simpa using hm.2
        have:¬ (at_ t q.1 q.2).2 = true:=by
          intro hat
          apply hm2
          have h3:=sU.1 hat
          refine sU.2 ⟨by rw [tG]; exact h3.1,?_⟩
          rw [gp _ _ hq']
          split
          · exact hc
          · exact h3.2
        simpa using this
      · unfold missing
        have a1:(at_ o e s).2 = true:=sU.2 ⟨hh,hc⟩
        have a2:(at_ t e s).2 = false:=by
          cases hat:(at_ t e s).2 with
          | false=>rfl
          | true=>exact absurd h0 (sU.1 hat).2
        simp only [a1,a2]; rfl
      · unfold missing
        have a2:(at_ (put t e s (get o e s)) e s).2 = true:=sU.2 ⟨by rw [tG]; exact hht,by rw [gp _ _ hh,if_pos ⟨rfl,rfl⟩]; exact hc⟩
        simp only [a2]; simp
    refine ⟨ok_put w.ok hht h0 _ hp,⟨by rw [put_len]; exact w.sub.len,fun a i hai=>?_⟩,fun h=>(by cases h),fun h=>(by cases h),Nat.le_of_lt (Nat.lt_of_lt_of_le hlt w.le),fun _=>Nat.lt_of_lt_of_le hlt w.le⟩
    rw [gp a i hai]
    split
    · rename_i hai2; obtain ⟨rfl,rfl⟩:=hai2; exact .inr rfl
    · exact w.sub.get a i hai
theorem way_mono {o t0 t:T} {b:Bool} {D D':Nat→Nat→Prop} (w:Way o t0 t b D) (h:∀ e s,D' e s→D e s):Way o t0 t b D':=⟨w.ok,w.sub,w.same,fun hb e s hd=>w.no hb e s (h e s hd),w.le,w.lt⟩
theorem way_row {n:Int} {o t0 t:T} {b:Bool} {e:Nat} (hn:n ≤ 16) (ok:Ok o) (F:eY n o) (he:e < o.length) (w:Way o t0 t b (fun a i=>a < e∧i < 8)):∀ j,j ≤ 8→Way o t0 (moreS o e j (b,t)).2 (moreS o e j (b,t)).1 (fun a i=>a < e∧i < 8∨a = e∧i < j)
  | 0,_=>way_mono w fun a i h=>by rcases h with h | h; exact h; omega
  | j + 1,hj=>by
    have:=way_step hn ok F (way_row hn ok F he w j (by omega)) he (s:=j) (by omega)
    exact way_mono this fun a i h=>by
      rcases h with h | h
      · exact .inl (.inl h)
      · by_cases e1:i = j
        · exact .inr ⟨h.1,e1⟩
        · exact .inl (.inr ⟨h.1,by omega⟩)
theorem way_all {n:Int} {o t:T} (hn:n ≤ 16) (ok:Ok o) (F:eY n o) (okt:Ok t) (sb:Sub t o):∀ m,m ≤ o.length→Way o t (moreE o m (false,t)).2 (moreE o m (false,t)).1 (fun a i=>a < m∧i < 8)
  | 0,_=>⟨okt,sb,fun _=>rfl,fun _ e s h=>(by omega),Nat.le_refl _,fun h=>(by cases h)⟩
  | m + 1,hm=>by
    have:=way_row hn ok F (e:=m) (by omega) (way_all hn ok F okt sb m (by omega)) 8 (Nat.le_refl _)
    exact way_mono this fun a i h=>by
      by_cases e1:a = m
      · exact .inr ⟨e1,h.2⟩
      · exact .inl ⟨by omega,h.2⟩
theorem all_there {n:Int} {o t:T} (hn:n ≤ 16) (ok:Ok o) (F:eY n o) (okt:Ok t) (sb:Sub t o) (hno:∀ e s:Nat,e < o.length→s < 8→(more1 o t e s).1 = false):t = o:=by
  obtain ⟨rank,hr⟩:=ok.rk
  have key:∀ (r:Nat) (e s:Nat),e < o.length→s < 8→rank e s ≤ r→get t e s = get o e s:=by
    intro r
    induction r using Nat.strongRecOn with
    | _ r ih =>
      intro e s he hs hrk
      have hh:has o e s = true:=has_of he hs
      by_cases hz:(get o e s).fRights = 0
      · have e0:=cap_empty (F e s hh) hz
        rcases sb.get e s hh with h | h
        · rw [h,e0]
        · exact h
      · rcases more1_is hn ok F okt sb hh with ⟨e1,h1⟩ | ⟨e1,_⟩
        · rcases h1 (sU.2 ⟨hh,hz⟩) with h2 | ⟨h2,h3⟩
          · rcases sb.get e s hh with h | h
            · have:=(sU.1 h2).2; rw [h] at this; exact absurd rfl this
            · exact h
          · exfalso
            obtain ⟨q1,q2,q3⟩:=hr e s hh hz h2
            obtain ⟨a,i,ea,ei,ha,hi⟩:=has_nat q1
            rw [ea,ei] at q2 q3 h3
            have:=ih (rank a i) (by omega) a i ha hi (Nat.le_refl _)
            rw [this] at h3; exact q2 h3
        · have:=hno e s he hs
          rw [e1] at this; cases this
  apply List.ext_getElem?
  intro m
  by_cases hm:m < o.length
  · have hmt:m < t.length:=by rw [sb.len]; exact hm
    rw [List.getElem?_eq_getElem hm,List.getElem?_eq_getElem hmt]
    congr 1
    have l1:=ok.row _ (List.getElem_mem hm)
    have l2:=okt.row _ (List.getElem_mem hmt)
    apply List.ext_getElem (by rw [l1,l2])
    intro s h1 h2
    have hs:s < 8:=by omega
    obtain ⟨_,g1⟩:=get_nat' ok.row hm hs
    obtain ⟨_,g2⟩:=get_nat' okt.row hmt hs
    rw [← g1,← g2]
    exact key _ m s hm hs (Nat.le_refl _)
  · have hmt:¬ m < t.length:=by rw [sb.len]; exact hm
    rw [List.getElem?_eq_none (Nat.le_of_not_lt hm),List.getElem?_eq_none (Nat.le_of_not_lt hmt)]
end Caps
end Go.Proofs.YtmggcfijlpldpaaGreatDoor
namespace Go.Proofs.YtmggcfijlpldpaaGreatDoor
open Go Mb
theorem sp_plain_more (zb ob:Nat) (kc oc:List Value) (ts:Sl) (pc po:Ptr) (t o:Caps.T) (h4:kc[4]? = some (sv ts)) (h6:kc[6]? = some (pv pc)) (o6:oc[6]? = some (pv po)) (hl:ts.len = o.length) (hb:o.length ≤ 4) :
    Sp Tryz.prog lU [pv (some (zb,0)),pv (some (ob,0))] ay [blk zb cn kc,cz pc t,blk ob cn oc,cz po o]
      (fun r=>pa_ (r = (Caps.moreE o o.length (false,t)).1) [blk zb cn kc,cz pc (Caps.moreE o o.length (false,t)).2,blk ob cn oc,cz po o]):=by
  intro h s0
  refine sim_plain_Kernel_more _ _ ?_
  unfold qg
  refine cx (bi ts s0 (i:=0) rfl rfl h4 ?_)
  refine Lp.intro (fun (z:Bool × Int) h=>∃ m:Nat,z.2 = m∧m ≤ o.length∧z.1 = (Caps.moreE o m (false,t)).1∧aC [blk zb cn kc,cz pc (Caps.moreE o m (false,t)).2,blk ob cn oc,cz po o] h) (fun (z:Bool × Int) _=>o.length - z.2.toNat) ⟨0,rfl,Nat.zero_le _,rfl,s0⟩ ?_
  rintro ⟨b,i⟩ h ⟨m,rfl,hm,rfl,s1⟩
  unfold kN
  refine aV (fun k=>?_) (fun k=>?_)
  · have hlt:m < o.length:=by rw [hl] at k; simpa using k
    have hw:IntKind.i64.wrap ((m:Int) + 1) = ((m + 1:Nat):Int):=by rw [bO (by omega) (by omega)]; rfl
    refine Lp.intro (fun (z:Bool × Int) h=>∃ j:Nat,z.2 = j∧j ≤ 8∧z.1 = (Caps.moreS o m j (Caps.moreE o m (false,t))).1∧aC [blk zb cn kc,cz pc (Caps.moreS o m j (Caps.moreE o m (false,t))).2,blk ob cn oc,cz po o] h) (fun (z:Bool × Int) _=>8 - z.2.toNat) ⟨0,rfl,Nat.zero_le _,rfl,s1⟩ ?_
    rintro ⟨b,i⟩ h ⟨j,rfl,hj,rfl,s2⟩
    unfold kM
    refine aV (fun k2=>?_) (fun k2=>?_)
    · have hlt2:j < 8:=by have:=of_decide_eq_true k2; simp at this; omega
      have hw2:IntKind.i64.wrap ((j:Int) + 1) = ((j + 1:Nat):Int):=by rw [bO (by omega) (by omega)]; rfl
      have es:Caps.moreS o m (j + 1) (Caps.moreE o m (false,t)) = ((Caps.moreS o m j (Caps.moreE o m (false,t))).1 || (Caps.more1 o (Caps.moreS o m j (Caps.moreE o m (false,t))).2 m j).1,(Caps.more1 o (Caps.moreS o m j (Caps.moreE o m (false,t))).2 m j).2):=rfl
      generalize hst:Caps.moreS o m j (Caps.moreE o m (false,t)) = st at *
      refine cx (bi po s2 (i:=2) rfl rfl o6 ?_)
      refine bK (jB po o m j) (i:=3) rfl s2 fun r h3 hr s3=>?_
      subst hr
      refine bi pc s3 (i:=0) rfl rfl h6 ?_
      refine bK (jB pc st.2 m j) (i:=1) rfl s3 fun r h4 hr s4=>?_
      subst hr
      rw [hw2]
      refine aV (fun k3=>?_) (fun k3=>?_)
      · have k3':(Caps.at_ o m j).2 = false∨(Caps.at_ st.2 m j).2 = true:=by simpa using k3
        have e1:Caps.more1 o st.2 m j = (false,st.2):=if_pos k3'
        refine ⟨⟨j + 1,rfl,hlt2,?_,?_⟩,by simp; omega⟩
        · rw [es,e1]; simp
        · rw [es,e1]; exact s4
      · have k3':¬ ((Caps.at_ o m j).2 = false∨(Caps.at_ st.2 m j).2 = true):=by simp at k3; simp [k3]
        refine aV (fun k4=>?_) (fun k4=>?_)
        · have e1:Caps.more1 o st.2 m j = ((Caps.root st.2 m j (Caps.at_ o m j).1.fFrame).1 == 0,(Caps.root st.2 m j (Caps.at_ o m j).1.fFrame).2):=by unfold Caps.more1; rw [if_neg k3',if_pos (by simpa using k4)]
          refine bi pc s4 (i:=0) rfl rfl h6 ?_
          refine bK (vy pc st.2 m j _) (i:=1) rfl s4 fun r h5 hr s5=>?_
          subst hr
          refine ⟨⟨j + 1,rfl,hlt2,?_,?_⟩,by simp; omega⟩
          · rw [es,e1]
          · rw [es,e1]; exact s5
        · have e1:Caps.more1 o st.2 m j = ((Caps.derive st.2 (Caps.at_ o m j).1.fEnv (Caps.at_ o m j).1.fSlot m j (Caps.at_ o m j).1.fRights).1 == 0,(Caps.derive st.2 (Caps.at_ o m j).1.fEnv (Caps.at_ o m j).1.fSlot m j (Caps.at_ o m j).1.fRights).2):=by unfold Caps.more1; rw [if_neg k3',if_neg (by simpa using k4)]
          refine bi pc s4 (i:=0) rfl rfl h6 ?_
          refine bK (rX pc st.2 _ _ m j _) (i:=1) rfl s4 fun r h5 hr s5=>?_
          subst hr
          refine ⟨⟨j + 1,rfl,hlt2,?_,?_⟩,by simp; omega⟩
          · rw [es,e1]
          · rw [es,e1]; exact s5
    · have:j = 8:=by have:=of_decide_eq_false k2; simp at this; omega
      subst this
      rw [hw]
      exact ⟨⟨m + 1,rfl,hlt,rfl,s2⟩,by simp; omega⟩
  · have:m = o.length:=by rw [hl] at k; simp at k; omega
    subst this
    exact aU rfl s1
section
variable {α:Type}
def eU (xs:List α) (d:α) (n:Nat):List α:=xs.take n++List.replicate (xs.length - n) d
theorem mixd_len (xs:List α) (d:α) {n:Nat} (h:n ≤ xs.length):(eU xs d n).length = xs.length:=by simp [eU]; omega
theorem rO (xs:List α) (d:α):eU xs d 0 = List.replicate xs.length d:=by simp [eU]
theorem uT (xs:List α) (d:α):eU xs d xs.length = xs:=by simp [eU]
theorem mixd_get (xs:List α) (d:α) {n:Nat} (h:n < xs.length):(eU xs d n)[n]? = some d:=by
  unfold eU
  rw [List.getElem?_append_right (by simp; omega),List.getElem?_replicate,if_pos (by simp; omega)]
theorem qp (xs:List α) (d:α) {n:Nat} (h:n < xs.length):(eU xs d n).set n xs[n] = eU xs d (n + 1):=by
  unfold eU
  rw [List.set_append_right _ _ (by simp; omega)]
  have e1:n - (xs.take n).length = 0:=by simp; omega
  have e2:xs.length - n = (xs.length - (n + 1)) + 1:=by omega
  rw [e1,e2,List.replicate_succ,List.set_cons_zero]
  have e3:xs.take (n + 1) = xs.take n++[xs[n]]:=by simp
  rw [e3,List.append_assoc]; rfl
end
theorem put_ok {p:Pte} (h:PteFine p) (h0:p.fRights ≠ 0):(ge p).2 = true:=by
  rcases h with h | ⟨h1,h2,h3,h4,h5⟩
  · rw [h] at h0; exact absurd rfl h0
  · unfold ge
    have e1:ak.eqb p ⟨0,0,0⟩ = false:=by
      unfold ak.eqb
      have:(p.fRights == 0) = false:=by simpa using h0
      simp [this]
    have e2:(((((decide (p.fFrame < 0)) || (decide (p.fFrame ≥ 16))) || (decide (p.fSlot < 0))) || (decide (p.fSlot ≥ 8))) || (!(cw p.fRights))) = false:=by
      simp [h5]; omega
    rw [e1,e2]; rfl
theorem insert_mixd {row:List Pte} (h:oX row) {j:Nat} (hj:j < 8) (hr:row[j]?.map (·.fRights) ≠ some 0):Table.insert (eU row dV j) j (row.getD j dV) = (0,eU row dV (j + 1)):=by
  have hjl:j < row.length:=by rw [h.1]; exact hj
  have hg:row.getD j dV = row[j]:=by simp [hjl]
  rw [hg]
  have h0:row[j].fRights ≠ 0:=by
    intro e; apply hr; rw [List.getElem?_eq_getElem hjl]; simp [e]
  have hp:=put_ok (h.2 _ (List.getElem_mem hjl)) h0
  have hat:Table.at_ (eU row dV j) j = dV:=by
    unfold Table.at_
    rw [Int.toNat_natCast,List.getD_eq_getElem?_getD,mixd_get row dV hjl]; rfl
  have his:ct j = true:=by unfold ct; simp; omega
  unfold Table.insert
  rw [if_neg (by simp [hp,h0,his]),hat,if_neg (by simp),Int.toNat_natCast,qp row dV hjl]
theorem idx_rep (m:Nat):∀ (f:Nat) (i:Int),fG 0 (List.replicate f 1++List.replicate (m + 1) 0) i = i + f
  | 0,i=>by simp [fG,List.replicate_succ]
  | f + 1,i=>by
    rw [List.replicate_succ,List.cons_append,fG,if_neg (by decide),idx_rep m f (i + 1)]
    omega
theorem take_mixd {F f:Nat} (h:f < F):(Pool.take (eU (List.replicate F (1:Int)) 0 f)).2.2 = eU (List.replicate F (1:Int)) 0 (f + 1):=by
  have hl:f < (List.replicate F (1:Int)).length:=by simpa using h
  have e:eU (List.replicate F (1:Int)) 0 f = List.replicate f 1++List.replicate ((F - f - 1) + 1) 0:=by
    unfold eU
    rw [List.take_replicate,List.length_replicate,Nat.min_eq_left (by omega)]
    congr 2; omega
  have hi:fG 0 (eU (List.replicate F (1:Int)) 0 f) 0 = f:=by rw [e,idx_rep]; omega
  unfold Pool.take
  rw [hi,if_neg (by omega)]
  have:=qp (List.replicate F (1:Int)) 0 hl
  rw [List.getElem_replicate] at this
  simpa using this
abbrev cpL (zo z:PZ) (o k:PK):List As:=plainL zo o++plainL z k
abbrev Done (z:PZ) (k:PK) (r:Ptr):As:=aC [bk r k,bk (some (z.b,0)) k]
theorem copy7 {zo z:PZ} {o k:PK} {h:Hp} (ok:PK.Ok k) (ho:zo.tp.length = k.tabs.length) (hz:z.tp.length = k.tabs.length) (es:o.s = k.s) (em:o.m = k.m) (et:o.tabs = k.tabs) (ep:o.pool = k.pool) (oko:Caps.Ok o.caps) (sb:Caps.Sub o.caps k.caps)
    (s0:aC (cpL zo z o k) h):Lp (iu (Done z k) (z.b,0) (some (zo.b,0))) () h:=by
  obtain ⟨os,om,ot,op,oc⟩:=o
  simp only at es em et ep oko sb
  subst es; subst em; subst et; subst ep
  have hs:=jd.1 ok.sz
  have hts:=(cd (j:=2) s0 rfl).1
  have hcl:=ok.cl
  have htl:=ok.tl
  refine Lp.ghost (γ:=Caps.T) (fun c _ h=>Caps.Ok c∧Caps.Sub c k.caps∧aC (cpL zo z ⟨k.s,k.m,k.tabs,k.pool,c⟩ k) h) (fun c=>Caps.miss k.caps c) ⟨oko,sb,s0⟩ ?_
  rintro c s h ⟨okc,sbc,s1⟩ R hR
  have w:=Caps.way_all (n:=k.s.fFrames) (by omega) ok.tree ok.fine okc sbc k.caps.length (Nat.le_refl _)
  unfold iu
  refine cJ [0,4,4,8] (sp_plain_more zo.b z.b (pE k.s zo) (pE k.s z) zo.ts zo.pc z.pc c k.caps rfl rfl rfl (by omega) (by omega)) s1 rfl fun r h2 s2=>?_
  obtain ⟨hr,s3⟩:=bn.1 s2
  have s4:aC (cpL zo z ⟨k.s,k.m,k.tabs,k.pool,(Caps.moreE k.caps k.caps.length (false,c)).2⟩ k) h2:=ba [0,3,3,3,3,0,0,1,1,1,1,0] s3 rfl
  refine aV (fun d=>?_) (fun d=>?_)
  · exact hR _ () h2 ⟨w.ok,w.sub,s4⟩ (w.lt (by rw [← hr,d]))
  · have hf:(Caps.moreE k.caps k.caps.length (false,c)).1 = false:=by rw [← hr,d]
    have hsame:=w.same hf
    rw [hsame] at s4
    have hc:c = k.caps:=Caps.all_there (n:=k.s.fFrames) (by omega) ok.tree ok.fine okc sbc fun e s he hs=>w.no hf e s ⟨he,hs⟩
    subst hc
    have s5:=cQ (z:=zo) (k:=k) (l:=plainL z k) ho ok s4
    exact ba [1] (cQ (z:=z) (k:=k) hz ok (ba [1,1,1,1,1,1] s5 rfl)) rfl
theorem copy5 {zo z:PZ} {o k:PK} {h:Hp} {x92:Sl} (ok:PK.Ok k) (ho:zo.tp.length = k.tabs.length) (hz:z.tp.length = k.tabs.length) (hx:x92.len = k.tabs.length) (es:o.s = k.s) (em:o.m = k.m) (et:o.tabs = List.replicate k.tabs.length (List.replicate 8 dV)) (ep:o.pool = k.pool) (oko:Caps.Ok o.caps) (sb:Caps.Sub o.caps k.caps)
    (s0:aC (cpL zo z o k) h):Lp (iv (Done z k) (z.b,0) (some (zo.b,0)) x92) 0 h:=by
  obtain ⟨os,om,ot,op,oc⟩:=o
  simp only at es em et ep oko sb
  subst es; subst em; subst et; subst ep
  have hs:=jd.1 ok.sz
  have htl:=ok.tl
  have hzs:=(cd (j:=8) s0 rfl).1
  have hos:=(cd (j:=2) s0 rfl).1
  have e0:List.replicate k.tabs.length (List.replicate 8 dV) = eU k.tabs (List.replicate 8 dV) 0:=(rO _ _).symm
  rw [e0] at s0
  refine Lp.intro (fun (i:Int) h=>∃ e:Nat,i = e∧e ≤ k.tabs.length∧aC (cpL zo z ⟨k.s,k.m,eU k.tabs (List.replicate 8 dV) e,k.pool,oc⟩ k) h) (fun (i:Int) _=>k.tabs.length - i.toNat) ⟨0,rfl,Nat.zero_le _,s0⟩ ?_
  rintro i h ⟨e,rfl,he,s1⟩
  unfold iv
  refine aV (fun d=>?_) (fun d=>?_)
  · have hlt:e < k.tabs.length:=by rw [hx] at d; simpa using d
    have hw:IntKind.i64.wrap ((e:Int) + 1) = ((e + 1:Nat):Int):=by rw [bO (by omega) (by omega)]; rfl
    have htab:oX k.tabs[e]:=ok.tr _ (List.getElem_mem hlt)
    have hml:=mixd_len k.tabs (List.replicate 8 dV) he
    have heo:e < zo.tp.length:=by omega
    have hez:e < z.tp.length:=by omega
    have hmg:=mixd_get k.tabs (List.replicate 8 dV) hlt
    have r0:List.replicate 8 dV = eU k.tabs[e] dV 0:=by rw [rO,htab.1]
    refine Lp.intro (fun (i:Int) h=>∃ j:Nat,i = j∧j ≤ 8∧aC (cpL zo z ⟨k.s,k.m,(eU k.tabs (List.replicate 8 dV) e).set e (eU k.tabs[e] dV j),k.pool,oc⟩ k) h) (fun (i:Int) _=>8 - i.toNat) ⟨0,rfl,Nat.zero_le _,?_⟩ ?_
    · rw [← r0,ir hmg]; exact s1
    rintro i h ⟨j,rfl,hj,s2⟩
    unfold kO
    refine aV (fun d2=>?_) (fun d2=>?_)
    · have hlt2:j < 8:=by have:=of_decide_eq_true d2; omega
      have hjl:j < k.tabs[e].length:=by rw [htab.1]; exact hlt2
      have hw2:IntKind.i64.wrap ((j:Int) + 1) = ((j + 1:Nat):Int):=by rw [bO (by omega) (by omega)]; rfl
      have his:ct j = true:=by unfold ct; simp; omega
      have hat:Table.at_ k.tabs[e] j = k.tabs[e][j]:=by simp [Table.at_,hjl]
      refine bi z.ts s2 (i:=6) rfl rfl rfl ?_
      refine dv s2 (j:=8) rfl (by omega) (by omega) fun q hq=>?_
      refine dZ (j:=8) (i:=e) (k:=0) z.tp[e] gE s2 rfl hq (by simp) (aD hez) (by simp) ?_
      have s3:=iW (aD hez) (aD hlt) (ba [9] s2 rfl)
      refine bK (mZ z.tp[e] k.tabs[e] j) (i:=0) rfl s3 fun r h4 hr s4=>?_
      subst hr
      have s5:aC (cpL zo z ⟨k.s,k.m,(eU k.tabs (List.replicate 8 dV) e).set e (eU k.tabs[e] dV j),k.pool,oc⟩ k) h4:=ba [1,1,1,1,1,1,1,1,1,0] (vj (aD hez) (aD hlt) hz s4) rfl
      refine aV (fun d3=>?_) (fun d3=>?_)
      · have hne:k.tabs[e][j].fRights ≠ 0:=by
          unfold Table.get at d3
          split at d3
          · rename_i hh; rw [hat] at hh; exact hh.2
          · cases d3
        have eg:(Table.get k.tabs[e] j).1 = k.tabs[e].getD j dV:=by
          unfold Table.get; rw [hat,if_pos ⟨his,hne⟩]; simp [hjl]
        have ei:=insert_mixd htab hlt2 (by rw [List.getElem?_eq_getElem hjl]; simpa using hne)
        rw [eg]
        refine cx (bi zo.ts s5 (i:=0) rfl rfl rfl ?_)
        refine dv s5 (j:=2) rfl (by omega) (by omega) fun q2 hq2=>?_
        refine dZ (j:=2) (i:=e) (k:=0) zo.tp[e] gE s5 rfl hq2 (by simp) (aD heo) (by simp) ?_
        have eE:((eU k.tabs (List.replicate 8 dV) e).set e (eU k.tabs[e] dV j))[e]? = some (eU k.tabs[e] dV j):=by rw [List.getElem?_set,if_pos rfl,if_pos (by rw [hml]; exact hlt)]
        have s6:=iW (aD heo) eE (ba [3] s5 rfl)
        refine bK (jQ zo.tp[e] _ j _) (i:=0) rfl s6 fun r h7 hr s7=>?_
        rw [ei] at s7
        have s8:=wI (aD heo) (by rw [List.length_set,hml]; exact hlt) (by rw [List.length_set,hml]; exact ho) s7
        rw [List.set_set] at s8
        rw [hw2]
        exact ⟨⟨j + 1,rfl,hlt2,ba [1,1,1] s8 rfl⟩,by simp; omega⟩
      · have hze:k.tabs[e][j] = dV:=by
          rcases htab.2 _ (List.getElem_mem hjl) with h | h
          · exact h
          · have:=may_iff.1 h.2.2.2.2
            unfold Table.get at d3
            rw [hat,if_pos ⟨his,by omega⟩] at d3; cases d3
        have hsame:eU k.tabs[e] dV j = eU k.tabs[e] dV (j + 1):=by
          rw [← qp _ _ hjl,hze,ir (mixd_get _ _ hjl)]
        rw [hsame] at s5
        rw [hw2]
        exact ⟨⟨j + 1,rfl,hlt2,s5⟩,by simp; omega⟩
    · have:j = 8:=by have:=of_decide_eq_false d2; omega
      subst this
      have er:eU k.tabs[e] dV 8 = k.tabs[e]:=by have:=uT k.tabs[e] dV; rw [htab.1] at this; exact this
      rw [er,qp _ _ hlt] at s2
      rw [hw]
      exact ⟨⟨e + 1,rfl,hlt,s2⟩,by simp; omega⟩
  · have:e = k.tabs.length:=by rw [hx] at d; simp at d; omega
    subst this
    rw [uT] at s1
    exact copy7 (o:=⟨k.s,k.m,k.tabs,k.pool,oc⟩) ok ho hz rfl rfl rfl rfl oko sb s1
theorem refs_nat {p:List Int} {f:Nat} (h:f < p.length):Pool.refs p f = p[f]:=by
  unfold Pool.refs; rw [if_neg (by omega)]; simp [h]
theorem copy3 {zo z:PZ} {o k:PK} {h:Hp} (ok:PK.Ok k) (ho:zo.tp.length = k.tabs.length) (hz:z.tp.length = k.tabs.length) (es:o.s = k.s) (em:o.m = k.m) (et:o.tabs = List.replicate k.tabs.length (List.replicate 8 dV)) (ep:o.pool = List.replicate k.pool.length 1) (oko:Caps.Ok o.caps) (sb:Caps.Sub o.caps k.caps)
    (s0:aC (cpL zo z o k) h):Lp (iw (Done z k) (z.b,0) (some (zo.b,0)) k.s.fFrames) 0 h:=by
  obtain ⟨os,om,ot,op,oc⟩:=o
  simp only at es em et ep oko sb
  subst es; subst em; subst et; subst ep
  have hs:=jd.1 ok.sz
  have hpl:=ok.pl
  rw [← rO k.pool 1] at s0
  refine Lp.intro (fun (i:Int) h=>∃ f:Nat,i = f∧f ≤ k.pool.length∧aC (cpL zo z ⟨k.s,k.m,List.replicate k.tabs.length (List.replicate 8 dV),eU k.pool 1 f,oc⟩ k) h) (fun (i:Int) _=>k.pool.length - i.toNat) ⟨0,rfl,Nat.zero_le _,s0⟩ ?_
  rintro i h ⟨f,rfl,hf,s1⟩
  unfold iw
  refine aV (fun d=>?_) (fun d=>?_)
  · have hlt:f < k.pool.length:=by have:=of_decide_eq_true d; omega
    have hw:IntKind.i64.wrap ((f:Int) + 1) = ((f + 1:Nat):Int):=by rw [bO (by omega) (by omega)]; rfl
    have hml:=mixd_len k.pool 1 hf
    have hmg:=mixd_get k.pool 1 hlt
    have hr7:=ok.pr _ (List.getElem_mem hlt)
    refine bi z.pp s1 (i:=6) rfl rfl rfl ?_
    refine bK (vv z.pp k.pool f) (i:=10) rfl s1 fun r h2 hr s2=>?_
    rw [refs_nat hlt] at hr
    subst hr
    have hw0:IntKind.i64.wrap (k.pool[f] - 1) = k.pool[f] - 1:=bO (by omega) (by omega)
    refine Lp.intro (fun (i:Int) h=>∃ j:Nat,i = j∧(j:Int) ≤ max 0 (k.pool[f] - 1)∧aC (cpL zo z ⟨k.s,k.m,List.replicate k.tabs.length (List.replicate 8 dV),(eU k.pool 1 f).set f (1 + (j:Int)),oc⟩ k) h) (fun (i:Int) _=>(8 - i).toNat) ⟨0,rfl,by omega,?_⟩ ?_
    · have:(eU k.pool 1 f).set f (1 + ((0:Nat):Int)) = eU k.pool 1 f:=by
        rw [show (1:Int) + ((0:Nat):Int) = 1 from rfl,ir hmg]
      rw [this]; exact s2
    rintro i h ⟨j,rfl,hj,s3⟩
    have eE:f < ((eU k.pool 1 f).set f (1 + (j:Int))).length:=by rw [List.length_set,hml]; exact hlt
    have hgs:((eU k.pool 1 f).set f (1 + (j:Int)))[f] = 1 + (j:Int):=by simp
    unfold kP
    rw [hw0]
    refine aV (fun d2=>?_) (fun d2=>?_)
    · have hlt2:(j:Int) < k.pool[f] - 1:=of_decide_eq_true d2
      have hw2:IntKind.i64.wrap ((j:Int) + 1) = ((j + 1:Nat):Int):=by rw [bO (by omega) (by omega)]; rfl
      refine cx (bi zo.pp s3 (i:=0) rfl rfl rfl ?_)
      refine bK (sp_pool_Hold zo.pp _ f) (i:=4) rfl s3 fun r h4 hr s4=>?_
      have eh:(Pool.hold ((eU k.pool 1 f).set f (1 + (j:Int))) f).2 = (eU k.pool 1 f).set f (1 + ((j + 1:Nat):Int)):=by
        unfold Pool.hold
        rw [refs_nat eE,hgs,if_neg (by omega),Int.toNat_natCast,List.set_set,bO (by omega) (by omega)]
        congr 1 <;> omega
      rw [eh] at s4
      rw [hw2]
      exact ⟨⟨j + 1,rfl,by omega,s4⟩,by omega⟩
    · have hge:¬ (j:Int) < k.pool[f] - 1:=of_decide_eq_false d2
      rw [hw]
      refine aV (fun d3=>?_) (fun d3=>?_)
      · have h0:k.pool[f] = 0:=by simpa using d3
        have hj0:j = 0:=by omega
        subst hj0
        refine cx (bi zo.pp s3 (i:=0) rfl rfl rfl ?_)
        refine bK (sp_pool_Let zo.pp _ f) (i:=4) rfl s3 fun r h4 hr s4=>?_
        have eh:(Pool.lets ((eU k.pool 1 f).set f (1 + ((0:Nat):Int))) f).2.2 = eU k.pool 1 (f + 1):=by
          unfold Pool.lets
          rw [refs_nat eE,hgs,if_neg (by omega),Int.toNat_natCast,List.set_set,bO (by omega) (by omega),← qp _ _ hlt,h0]
          rfl
        rw [eh] at s4
        exact ⟨⟨f + 1,rfl,hlt,s4⟩,by simp; omega⟩
      · have h0:k.pool[f] ≠ 0:=by simpa using d3
        have ej:1 + (j:Int) = k.pool[f]:=by omega
        rw [ej,qp _ _ hlt] at s3
        exact ⟨⟨f + 1,rfl,hlt,s3⟩,by simp; omega⟩
  · have:f = k.pool.length:=by have:=of_decide_eq_false d; omega
    subst this
    rw [uT] at s1
    have hzs:=(cd (j:=8) s1 rfl).1
    refine bi z.ts s1 (i:=6) rfl rfl rfl ?_
    exact copy5 (o:=⟨k.s,k.m,List.replicate k.tabs.length (List.replicate 8 dV),k.pool,oc⟩) ok ho hz (by omega) rfl rfl rfl rfl oko sb s1
theorem frame_nat {m:List (List Int)} {f:Nat} (h:f < m.length):Mem.frame m f = m[f]:=by
  have hh:Mem.has m f 0:=⟨by omega,by omega,by omega,by omega⟩
  unfold Mem.frame
  rw [if_pos hh]
  simp [h]
theorem copy1 {zo z:PZ} {o k:PK} {h:Hp} (ok:PK.Ok k) (ho:zo.tp.length = k.tabs.length) (hz:z.tp.length = k.tabs.length) (es:o.s = k.s) (em:o.m = List.replicate k.m.length (List.replicate 16 0)) (et:o.tabs = List.replicate k.tabs.length (List.replicate 8 dV)) (ep:o.pool = List.replicate k.pool.length 0) (oko:Caps.Ok o.caps) (sb:Caps.Sub o.caps k.caps)
    (s0:aC (cpL zo z o k) h):Lp (iy (Done z k) (z.b,0) (some (zo.b,0)) k.s.fFrames) 0 h:=by
  obtain ⟨os,om,ot,op,oc⟩:=o
  simp only at es em et ep oko sb
  subst es; subst em; subst et; subst ep
  have hs:=jd.1 ok.sz
  have hpl:=ok.pl
  have hml:=ok.ml
  have hpm:k.pool.length = k.m.length:=by omega
  rw [← rO k.m] at s0
  have ep0:List.replicate k.pool.length (0:Int) = eU (List.replicate k.pool.length (1:Int)) 0 0:=by rw [rO]; simp
  rw [ep0] at s0
  refine Lp.intro (fun (i:Int) h=>∃ f:Nat,i = f∧f ≤ k.m.length∧aC (cpL zo z ⟨k.s,eU k.m (List.replicate 16 0) f,List.replicate k.tabs.length (List.replicate 8 dV),eU (List.replicate k.pool.length (1:Int)) 0 f,oc⟩ k) h) (fun (i:Int) _=>k.m.length - i.toNat) ⟨0,rfl,Nat.zero_le _,s0⟩ ?_
  rintro i h ⟨f,rfl,hf,s1⟩
  unfold iy
  refine aV (fun d=>?_) (fun d=>?_)
  · have hlt:f < k.m.length:=by have:=of_decide_eq_true d; omega
    have hw:IntKind.i64.wrap ((f:Int) + 1) = ((f + 1:Nat):Int):=by rw [bO (by omega) (by omega)]; rfl
    have hrow:=ok.mr _ (List.getElem_mem hlt)
    have hmx:=mixd_len k.m (List.replicate 16 (0:Int)) hf
    have hmg:=mixd_get k.m (List.replicate 16 (0:Int)) hlt
    refine bi z.pm s1 (i:=6) rfl rfl rfl ?_
    refine cl_n (sp_mem_Frame z.pm k.m f) (i:=7) rfl s1 fun r33 h2 s2=>?_
    rw [frame_nat hlt] at s2
    have hrl:=(cd (j:=0) s2 rfl).1
    have r0:List.replicate 16 (0:Int) = eU k.m[f] 0 0:=by rw [rO,hrow]
    refine Lp.intro (fun (i:Int) h=>∃ j:Nat,i = j∧j ≤ 16∧aC (vU r33 k.m[f]::cpL zo z ⟨k.s,(eU k.m (List.replicate 16 0) f).set f (eU k.m[f] 0 j),List.replicate k.tabs.length (List.replicate 8 dV),eU (List.replicate k.pool.length (1:Int)) 0 f,oc⟩ k) h) (fun (i:Int) _=>16 - i.toNat) ⟨0,rfl,Nat.zero_le _,?_⟩ ?_
    · rw [← r0,ir hmg]; exact s2
    rintro i h ⟨j,rfl,hj,s3⟩
    unfold kQ
    refine aV (fun d2=>?_) (fun d2=>?_)
    · have hlt2:j < 16:=by rw [hrl,hrow] at d2; have:=of_decide_eq_true d2; omega
      have hjl:j < k.m[f].length:=by omega
      have hw2:IntKind.i64.wrap ((j:Int) + 1) = ((j + 1:Nat):Int):=by rw [bO (by omega) (by omega)]; rfl
      refine dv s3 (j:=0) rfl (by omega) (by omega) fun q hq=>?_
      refine dZ (j:=0) (i:=j) (k:=0) k.m[f][j] (cX _) s3 rfl hq (by simp) (aD hjl) (by simp) ?_
      refine cx (bi zo.pm s3 (i:=1) rfl rfl rfl ?_)
      refine bK (lu zo.pm _ f j k.m[f][j]) (i:=2) rfl s3 fun r h4 hr s4=>?_
      have es:(Mem.store ((eU k.m (List.replicate 16 0) f).set f (eU k.m[f] 0 j)) f j k.m[f][j]).2 = (eU k.m (List.replicate 16 0) f).set f (eU k.m[f] 0 (j + 1)):=by
        have hh:Mem.has ((eU k.m (List.replicate 16 0) f).set f (eU k.m[f] 0 j)) f j:=⟨by omega,by simp only [List.length_set,hmx]; omega,by omega,by omega⟩
        unfold Mem.store
        rw [if_pos hh]
        unfold Mem.put
        simp only [Int.toNat_natCast]
        have hg:((eU k.m (List.replicate 16 0) f).set f (eU k.m[f] 0 j)).getD f [] = eU k.m[f] 0 j:=by rw [List.getD_eq_getElem?_getD,List.getElem?_set,if_pos rfl,if_pos (by rw [hmx]; exact hlt)]; rfl
        rw [hg,List.set_set,qp _ _ hjl]
      rw [es] at s4
      rw [hw2]
      exact ⟨⟨j + 1,rfl,hlt2,s4⟩,by simp; omega⟩
    · have:j = 16:=by rw [hrl,hrow] at d2; have:=of_decide_eq_false d2; omega
      subst this
      have er:eU k.m[f] 0 16 = k.m[f]:=by have:=uT k.m[f] (0:Int); rw [hrow] at this; exact this
      rw [er,qp _ _ hlt] at s3
      refine cx (bi zo.pp s3 (i:=1) rfl rfl rfl ?_)
      refine bK (vu zo.pp _) (i:=5) rfl s3 fun r h4 hr s4=>?_
      rw [take_mixd (by omega)] at s4
      rw [hw]
      exact ⟨⟨f + 1,rfl,hlt,bU (l:=[vU r33 k.m[f]]) s4⟩,by simp; omega⟩
  · have:f = k.m.length:=by have:=of_decide_eq_false d; omega
    subst this
    have ea:eU (List.replicate k.pool.length (1:Int)) 0 k.m.length = List.replicate k.pool.length 1:=by
      have:=uT (List.replicate k.pool.length (1:Int)) 0
      rw [List.length_replicate,hpm] at this
      rw [hpm]; exact this
    rw [uT,ea] at s1
    refine bi k.s.fFrames s1 (i:=6) rfl rfl rfl ?_
    exact copy3 (o:=⟨k.s,k.m,List.replicate k.tabs.length (List.replicate 8 dV),List.replicate k.pool.length 1,oc⟩) ok ho hz rfl rfl rfl rfl oko sb s1
theorem three {s:js} {z:PZ}:∀ (i:Nat) (v:Value),(aE.C s)[i]? = some v→(pE s z)[0 + 0 + i]? = some v:=by
  intro j v hv
  have:j < 3:=(List.getElem?_eq_some_iff.1 hv).1
  match j,this with
  | 0,_=>exact hv
  | 1,_=>exact hv
  | 2,_=>exact hv
theorem tZ (x:Ptr) (k:PK):Sp Tryz.prog gm [pv x] dF [bk x k] (fun r=>aC [bk r k,bk x k]):=by
  intro h s0
  obtain ⟨z,rfl,h1,ok,hl,st⟩:=fw s0
  have hs:=jd.1 ok.sz
  refine sim_plain_Kernel_Copy _ ?_
  unfold qj
  refine df rfl (cx ?_)
  refine ld_s (i:=0) k.s st rfl (fun i v hv=>by simpa using three i v hv) ?_
  refine lj (rp k.s ok.sz) st fun r h2 s2=>?_
  obtain ⟨zo,rfl,ho,okn,hlo,s3⟩:=fw s2
  refine bi k.s.fFrames s3 (i:=6) rfl rfl rfl ?_
  have e1:k.s.fFrames.toNat = k.m.length:=by have:=ok.ml; omega
  have e2:k.s.fEnvs.toNat = k.tabs.length:=by have:=ok.tl; omega
  have e3:k.s.fFrames.toNat = k.pool.length:=by have:=ok.pl; omega
  have e4:k.s.fEnvs.toNat = k.caps.length:=by have:=ok.cl; omega
  refine copy1 (o:=PK.new k.s) ok ?_ h1 rfl (by simp only [PK.new,e1]) (by simp only [PK.new,e2]) (by simp only [PK.new,e3]) okn.tree ⟨by simp only [PK.new,List.length_replicate,e4],fun e s hh=>.inl ?_⟩ s3
  · rw [ho]; simp only [PK.new,List.length_replicate,e2]
  · obtain ⟨a,b,rfl,rfl,ha,hb⟩:=Caps.has_nat hh
    simp only [Caps.get,PK.new,e4,Int.toNat_natCast,List.getD_eq_getElem?_getD,List.getElem?_replicate,if_pos ha,Option.getD_some,if_pos hb]
end Go.Proofs.YtmggcfijlpldpaaGreatDoor
namespace Go.Proofs.YtmggcfijlpldpaaGreatDoor
open Go Mb
set_option linter.unusedVariables false
def nT (K:Bool→Hp→Prop):Hp→Prop:=cl Tryz.prog nh [(.agg (aE.C (⟨1,2,2⟩:aE)).toArray)] dF fun r23=>cl Tryz.prog wl [(.int .i64 2)] rK fun r24=>cl Tryz.prog nk [(.int .i64 3)] im fun r25=>cl Tryz.prog ij [] gj fun r26=>cl Tryz.prog kS [] hU fun r27=>cl Tryz.prog uR [(.int .i64 2)] sX fun r28=>br (((((r23.isNone || r24.isNone) || r25.isNone) || r26.isNone) || r27.isNone) || r28.isNone) ( K false) ( cl Tryz.prog dq [(pv r23),(.int .i64 0),(.agg (ae.C (⟨1,1,0,0,0⟩:ae)).toArray)] aX fun r54=>cl Tryz.prog dq [(pv r23),(.int .i64 0),(.agg (ae.C (⟨6,2,1,3,0⟩:ae)).toArray)] aX fun r60=>cl Tryz.prog dq [(pv r23),(.int .i64 0),(.agg (ae.C (⟨21,2,5,77,0⟩:ae)).toArray)] aX fun r65=>cl Tryz.prog dq [(pv r23),(.int .i64 0),(.agg (ae.C (⟨20,2,5,0,0⟩:ae)).toArray)] aX fun r69=>cl Tryz.prog jj [(pv r24),(.int .i64 0),(.int .i64 1),(.int .i64 1)] bf fun r73=>cl Tryz.prog gZ [(pv r24),(.int .i64 0),(.int .i64 1),(.int .i64 1),(.int .i64 3),(.int .i64 1)] bf fun r75=>cl Tryz.prog iC [(pv r25),(.int .i64 0)] bG fun r78=>cl Tryz.prog jK [(pv r25),(.int .i64 1),(.int .u64 r78.1)] ay fun r83=>cl Tryz.prog dQ [(pv r27),(.int .i64 2),(.agg (ak.C (⟨1,1,1⟩:ak)).toArray)] bf fun r86=>cl Tryz.prog n_user_Do [(pv r26),(pv r27),(pv r28),(.int .i64 0),(.agg (ae.C (⟨20,2,3,0,0⟩:ae)).toArray)] eu fun r92=>cl Tryz.prog mJ [(pv r23),(.int .i64 0),(.agg (ae.C (⟨7,5,0,0,0⟩:ae)).toArray)] ib fun r97=>cl Tryz.prog kX [] ay fun r98=>br ((((((r98 && r54.2) && (r54.1.fErr == 0)) && (r60.1.fErr == 0)) && (r69.1.fVal == 77)) && (r73 == 0)) && (r75 == 0)) ( cl Tryz.prog kH [(pv r24),(.int .i64 0),(.int .i64 1)] cM fun r127=>br (((((r127.len:Int) == 1) && (r78.1 == 1)) && r78.2) && r83) ( cl Tryz.prog iU [(pv r25),(.int .u64 1)] ay fun r143=>br (!r143) ( cl Tryz.prog iB [(pv r25),(.int .u64 1)] cr fun r148=>br ((((((r148.len:Int) == 1) && (r86 == 0)) && (r92.1.fErr == 0)) && (r92.2.fFrame == 1)) && (mo 3 3 4)) ( cl Tryz.prog jZ [(.int .i64 3)] ib fun r171=>cl Tryz.prog nj [r97,r171] ay fun r172=>br r172 ( cl Tryz.prog lW [(pv r23)] cr fun r176=>K ((r176.len:Int) == 1)) ( K false)) ( K false)) ( K false)) ( K false)) ( K false))
theorem uz {K:Bool→Hp→Prop} {h:Hp} (H:nT K h):Ct Tryz.prog kq #[] h fun v h'=>∃ r,v = ay r∧K r h':=au [] Tryz.func85 c c c fun _=>M<|O c<|M<|p (aW c<|sT 1 2 2)<|aa<|Z H en_48 fun r23 _ H1=>aa<|Z H1 en_95 fun r24 _ H2=>aa<|Z H2 en_50 fun r25 _ H3=>p (aq c)<|p (aq c)<|O c<|M<|aa<|Z H3 en_51 fun r26 _ H4=>aa<|Z H4 en_96 fun r27 _ H5=>aa<|Z H5 en_93 fun r28 _ H6=>p (aq c)<|p (aq c)<|O c<|aj<|M<|J c<|p (cg Tryz.underlying83 c)<|J c<|V c c (aG _) (fun g7=>wv<|ag c)<|V c c (aG _) (fun g8=>wv<|cg Tryz.underlying147<|az c g8)<|p (cZ c c)<|J c<|V c c (aG _) (fun g9=>wv<|ag c)<|V c c (aG _) (fun g10=>wv<|cg Tryz.underlying86<|az c g10)<|p (cZ c c)<|J c<|V c c (aG _) (fun g11=>wv<|ag c)<|V c c (aG _) (fun g12=>wv<|cg Tryz.underlying94<|az c g12)<|p (cZ c c)<|J c<|V c c (aG _) (fun g13=>wv<|ag c)<|V c c (aG _) (fun g14=>wv<|cg Tryz.underlying153<|az c g14)<|p (cZ c c)<|J c<|V c c (aG _) (fun g15=>wv<|ag c)<|V c c (aG _) (fun g16=>wv<|cg Tryz.underlying144<|az c g16)<|p (cZ c c)<|ac<|ar c H6 (fun k17 H18=>M<|O c<|ah<|Y ⟨false,c,H18⟩) fun k17 H18=>am<|M<|J c<|p (aW c<|jM 1 1)<|aa<|Z H18 en_62 fun r54 _ H19=>J c<|p (ai c c)<|p (ai c c)<|aa<|aK (l:=ab.C (⟨0,0⟩:ab)) cE c c fun b7=>aa<|aN (k:=0) (vs:=ab.C r54.1) bF c c c c c c c<|O c<|M<|J c<|p (aW c<|dU 6 2 1 3)<|aa<|Z H19 en_62 fun r60 _ H20=>J c<|p (ai c c)<|p (ai c c)<|aa<|aK (l:=ab.C (⟨0,0⟩:ab)) cE c c fun b9=>aa<|aN (k:=0) (vs:=ab.C r60.1) bF c c c c c c c<|O c<|M<|J c<|p (aW c<|dU 21 2 5 77)<|aa<|Z H20 en_62 fun r65 _ H21=>ac<|M<|J c<|p (aW c<|lp 20 2 5)<|aa<|Z H21 en_62 fun r69 _ H22=>J c<|p (ai c c)<|p (ai c c)<|aa<|aK (l:=ab.C (⟨0,0⟩:ab)) cE c c fun b11=>aa<|aN (k:=0) (vs:=ab.C r69.1) bF c c c c c c c<|O c<|M<|J c<|aa<|Z H22 en_134 fun r73 _ H23=>J c<|aa<|Z H23 en_135 fun r75 _ H24=>p (aq c)<|O c<|M<|J c<|aa<|Z H24 en_59 fun r78 _ H25=>J c<|p (ai c c)<|p (ai c c)<|p (aq c)<|O c<|M<|J c<|J c<|aa<|Z H25 en_124 fun r83 _ H26=>O c<|M<|J c<|p (aW c<|mC 1 1 1)<|aa<|Z H26 en_100 fun r86 _ H27=>O c<|M<|J c<|J c<|J c<|p (aW c<|lp 20 2 3)<|aa<|Z H27 en_136 fun r92 _ H28=>J c<|p (ai c c)<|p (ai c c)<|aa<|aK (l:=ab.C (⟨0,0⟩:ab)) cE c c fun b19=>aa<|aK (l:=al.C (⟨0,0,0,0⟩:al)) kz c c fun b20=>aa<|aN (k:=1) (vs:=ab.C r92.1) bF c c c c c c c<|aa<|aN (k:=0) (vs:=al.C r92.2) ft c c c c c c c<|ac<|M<|J c<|p (aW c<|jM 7 5)<|aa<|Z H28 en_137 fun r97 _ H29=>O c<|M<|aa<|Z H29 en_138 fun r98 _ H30=>J c<|V c c (aw _) (fun g31=>wv<|ag c)<|p (bN c c)<|J c<|V c c (aw _) (fun g32=>wv<|ad gu c)<|V c c (aw _) (fun g33=>cv<|bc (k:=4) kK (az c g33) c c)<|V c c (aw _) (fun g34=>wv<|bM (az c g34) c)<|p (bN c c)<|J c<|V c c (aw _) (fun g35=>wv<|ad gu c)<|V c c (aw _) (fun g36=>cv<|bc (k:=3) kK (az c g36) c c)<|V c c (aw _) (fun g37=>wv<|bM (az c g37) c)<|p (bN c c)<|J c<|V c c (aw _) (fun g38=>wv<|ad fld_30_1 c)<|V c c (aw _) (fun g39=>cv<|bc (k:=2) ck (az c g39) c c)<|V c c (aw _) (fun g40=>wv<|bM (az c g40) c)<|p (bN c c)<|J c<|V c c (aw _) (fun g41=>wv<|ag c)<|V c c (aw _) (fun g42=>wv<|bM (az c g42) c)<|p (bN c c)<|J c<|V c c (aw _) (fun g43=>wv<|ag c)<|V c c (aw _) (fun g44=>wv<|bM (az c g44) c)<|p (bN c c)<|J c<|V c c (aw _) (fun g45=>wv<|ag c)<|bP H30 (fun k47 H48=>F (D k47)<|fV H48 en_139 (aP (az c k47)<|aP c<|aP c bL) c fun r127 _ H49=>F (D k47)<|R (dz c Tryz.underlying197 c)<|F (D k47)<|R (bM c c)<|p (aR c k47 c)<|J c<|V c c (aw _) (fun g50=>wv<|ag c)<|V c c (aw _) (fun g51=>wv<|bM (az c g51) c)<|p (bN c c)<|J c<|V c c (aw _) (fun g52=>wv<|ag c)<|p (bN c c)<|J c<|V c c (aw _) (fun g53=>wv<|ag c)<|p (bN c c)<|J c<|V c c (aw _) (fun g54=>wv<|ag c)<|bP H49 (fun k56 H57=>F (D k56)<|fV H57 en_61 (aP (az c k56)<|aP c bL) c fun r143 _ H58=>F (D k56)<|R (cf c)<|p (aR c k56 c)<|J c<|V c c (aw _) (fun g59=>wv<|ag c)<|bP H58 (fun k61 H62=>F (D k61)<|fV H62 en_111 (aP (az c k61)<|aP c bL) c fun r148 _ H63=>F (D k61)<|R (dz c Tryz.underlying40 c)<|F (D k61)<|R (bM c c)<|p (aR c k61 c)<|J c<|V c c (aw _) (fun g64=>wv<|ag c)<|V c c (aw _) (fun g65=>wv<|bM (az c g65) c)<|p (bN c c)<|J c<|V c c (aw _) (fun g66=>wv<|ad gu c)<|V c c (aw _) (fun g67=>cv<|bc (k:=1) kK (az c g67) c c)<|V c c (aw _) (fun g68=>wv<|bM (az c g68) c)<|p (bN c c)<|J c<|V c c (aw _) (fun g69=>wv<|ad lh c)<|V c c (aw _) (fun g70=>cv<|bc (k:=0) aY (az c g70) c c)<|V c c (aw _) (fun g71=>wv<|bM (az c g71) c)<|p (bN c c)<|J c<|cR (vs:=[(.int .i64 3),(.int .u64 3),(.int .u64 4)]) c c c (aw _) (fun g72=>bq<|uq 3 3 4 _) en_140 (fun g72=>c) c<|p (bN c c)<|J c<|V c c (aw _) (fun g73=>wv<|ag c)<|bP H63 (fun k75 H76=>F (D k75)<|Z H76 wH fun r171 _ H77=>F (D k75)<|fV H77 en_141 (aP (az c k75)<|aP c bL) c fun r172 _ H78=>p (aR c k75 c)<|J c<|V c c (aw _) (fun g79=>wv<|ag c)<|bP H78 (fun k81 H82=>F (D k81)<|fV H82 en_46 (aP (az c k81) bL) c fun r176 _ H83=>F (D k81)<|R (dz c Tryz.underlying40 c)<|F (D k81)<|R (bM c c)<|p (aR c k81 c)<|O c<|ah<|Y ⟨((r176.len:Int) == 1),c,H83⟩) fun k81 H82=>W (aQ k81)<|W (aQ k81)<|W (aQ k81)<|p (ao c k81 c)<|O c<|ah<|Y ⟨false,c,H82⟩) fun k75 H76=>W (aQ k75)<|W (aQ k75)<|p (ao c k75 c)<|J c<|W c<|W c<|W c<|W c<|p (ao c c c)<|O c<|ah<|Y ⟨false,c,H76⟩) fun k61 H62=>W (aQ k61)<|W (aQ k61)<|W (aQ k61)<|p (ao c k61 c)<|J c<|W c<|W c<|p (ao c c c)<|J c<|W c<|W c<|W c<|p (ao c c c)<|J c<|W c<|W c<|W c<|p (ao c c c)<|J c<|W c<|p (ao c c c)<|J c<|W c<|W c<|W c<|p (ao c c c)<|J c<|W c<|W c<|W c<|W c<|p (ao c c c)<|O c<|ah<|Y ⟨false,c,H62⟩) fun k56 H57=>W (aQ k56)<|W (aQ k56)<|p (ao c k56 c)<|J c<|W c<|W c<|W c<|W c<|p (ao c c c)<|J c<|W c<|W c<|p (ao c c c)<|J c<|W c<|W c<|W c<|p (ao c c c)<|J c<|W c<|W c<|W c<|p (ao c c c)<|J c<|W c<|p (ao c c c)<|J c<|W c<|W c<|W c<|p (ao c c c)<|J c<|W c<|W c<|W c<|W c<|p (ao c c c)<|O c<|ah<|Y ⟨false,c,H57⟩) fun k47 H48=>W (aQ k47)<|W (aQ k47)<|W (aQ k47)<|p (ao c k47 c)<|J c<|W c<|W c<|p (ao c c c)<|J c<|W c<|p (ao c c c)<|J c<|W c<|p (ao c c c)<|J c<|W c<|W c<|W c<|p (ao c c c)<|J c<|W c<|W c<|W c<|W c<|p (ao c c c)<|J c<|W c<|W c<|p (ao c c c)<|J c<|W c<|W c<|W c<|p (ao c c c)<|J c<|W c<|W c<|W c<|p (ao c c c)<|J c<|W c<|p (ao c c c)<|J c<|W c<|W c<|W c<|p (ao c c c)<|J c<|W c<|W c<|W c<|W c<|p (ao c c c)<|O c<|ah<|Y ⟨false,c,H48⟩
def nU (K:Bool→Hp→Prop):Hp→Prop:=cl Tryz.prog kq [] ay fun r1=>K r1
theorem uA {K:Bool→Hp→Prop} {h:Hp} (H:nU K h):Ct Tryz.prog kr #[] h fun v h'=>∃ r,v = ay r∧K r h':=au [] Tryz.func42 c c c fun _=>M<|O c<|M<|aa<|Z H en_85 fun r1 _ H1=>O c<|ah<|Y ⟨r1,c,H1⟩
end Go.Proofs.YtmggcfijlpldpaaGreatDoor
namespace Go.Proofs.YtmggcfijlpldpaaGreatDoor
open Go Mb
variable {ET:Nat} {EF:Nat × Nat}
section
variable {l:List As} {h:Hp} {x:Ptr}
theorem plain_nn {k:PK} (s:aC (bk x k::l) h):x.isNone = false:=nn_of (fun _ e=>by rw [e.1]; rfl) s
theorem tree_nn {k:Caps.T} (s:aC (cz x k::l) h):x.isNone = false:=nn_of (fun _ e=>by rw [e.1]; rfl) s
theorem epochs_nn {k:List Int × List Int} (s:aC (eO x k::l) h):x.isNone = false:=nn_of (fun _ e=>by rw [e.1]; rfl) s
end
theorem sp_plain_Err (x:Ptr) (k:PK) (e:Int) (c:ae) (h1:(PK.do_ k e c).1.2 = true) (h2:(PK.do_ k e c).1.1.fErr ≠ 0):Sp Tryz.prog mJ [pv x,.int .i64 e,.agg c.C.toArray] ib [(etB ET EF),bk x k]
    (fun r=>ex fun b:Nat × Nat=>pa_ (r = dm b.1) [trB b.1 ⟨(PK.do_ k e c).1.1.fErr,e,c,dm b.2⟩,(etB ET EF),bk x k]):=by
  intro h st
  have hn:=plain_nn (ba [1] st rfl)
  refine sim_plain_Kernel_Err _ _ _ ?_
  unfold qZ
  refine df hn ?_
  refine cl_n (i:=1) (tZ x k) rfl st fun y g1 s1=>?_
  refine bK (i:=0) (ju y k e c) rfl s1 fun r g2 hr s2=>?_
  subst hr
  refine df (by rw [h1]; rfl) ?_
  refine cJ [] (rest:=[_,_,_]) (sp_Of _ h2) s2 rfl fun r g3 s3=>?_
  obtain ⟨b,x3⟩:=tR s3
  obtain ⟨rfl,y3⟩:=bn.1 x3
  refine cJ [2,0] (rest:=[_,_]) (sp_In e c b _) y3 rfl fun r g4 s4=>?_
  obtain ⟨d,x4⟩:=tR s4
  obtain ⟨rfl,y4⟩:=bn.1 x4
  refine ⟨(d,b),aU rfl (bU (l:=[_,_]) (ba [2,2] y4 rfl))⟩
theorem sp_begun11:Sp Tryz.prog kq [] ay [(etB ET EF)] (fun r=>pa_ (r = true) [(etB ET EF)]):=by
  intro h st
  refine uz ?_
  unfold nT
  refine lj (rp ⟨1,2,2⟩ (by decide)) st fun a1 h1 s1=>?_
  refine lj (sp_caps_New 2 (by decide) (by decide)) s1 fun a2 h2 s2=>?_
  refine lj (rr 3 (by decide) (by decide)) s2 fun a3 h3 s3=>?_
  refine lj vt s3 fun a4 h4 s4=>?_
  refine lj nK s4 fun a5 h5 s5=>?_
  refine lj (sp_mem_New 2 (by decide) (by decide)) s5 fun a6 h6 s6=>?_
  have n1:=plain_nn s1
  have n2:=tree_nn s2
  have n3:=epochs_nn s3
  have n4:=tlb_nn s4
  have n5:=table_nn s5
  have n6:=mem_nn s6
  rw [n1,n2,n3,n4,n5,n6]
  refine df rfl ?_
  refine bK (i:=5) (ju a1 _ 0 ⟨1,1,0,0,0⟩) rfl s6 fun r1 h7 e1 s7=>?_
  refine bK (i:=5) (ju a1 _ 0 ⟨6,2,1,3,0⟩) rfl s7 fun r2 h8 e2 s8=>?_
  refine bK (i:=5) (ju a1 _ 0 ⟨21,2,5,77,0⟩) rfl s8 fun r3 h9 e3 s9=>?_
  refine bK (i:=5) (ju a1 _ 0 ⟨20,2,5,0,0⟩) rfl s9 fun r4 h10 e4 s10=>?_
  refine bK (i:=4) (vy a2 _ 0 1 1) rfl s10 fun r5 h11 e5 s11=>?_
  refine bK (i:=4) (rX a2 _ 0 1 1 3 1) rfl s11 fun r6 h12 e6 s12=>?_
  refine bK (i:=3) (sp_epoch_Begin a3 _ 0 (by decide)) rfl s12 fun r7 h13 e7 s13=>?_
  subst e7
  refine bK (i:=3) (sp_epoch_Ack a3 _ 1 _) rfl s13 fun r8 h14 e8 s14=>?_
  refine bK (i:=1) (jQ a5 _ 2 ⟨1,1,1⟩) rfl s14 fun r9 h15 e9 s15=>?_
  refine cJ [2,1,0] (rest:=[_,_,_,_]) (sp_user_Do a4 a5 a6 _ _ _ 0 ⟨20,2,3,0,0⟩) s15 rfl fun r10 h16 x16=>?_
  obtain ⟨e10,s16⟩:=bn.1 x16
  subst e1 e2 e3 e4 e5 e6 e8 e9 e10
  refine cJ [6,5] (rest:=[_,_,_,_,_]) (sp_plain_Err a1 _ 0 ⟨7,5,0,0,0⟩ (by kernel_rfl) (by decide)) s16 rfl fun r11 h17 x17=>?_
  obtain ⟨⟨b,b'⟩,z17⟩:=tR x17
  obtain ⟨rfl,s17⟩:=bn.1 z17
  refine bK (i:=1) sp_Begun2 rfl s17 fun r12 h18 e12 s18=>?_
  subst e12
  refine dL (by kernel_rfl) ?_
  refine cl_n (i:=7) (sp_caps_Below a2 _ 0 1) rfl s18 fun r13 h19 s19=>?_
  have e13:((r13.len:Int) == 1) = true:=by
    rw [(cd (j:=0) s19 rfl).1]
    kernel_rfl
  rw [e13]
  refine dL (by kernel_rfl) ?_
  refine bK (i:=7) (sp_epoch_Done a3 _ 1) rfl s19 fun r14 h20 e14 s20=>?_
  subst e14
  refine dL (by kernel_rfl) ?_
  refine cl_n (i:=7) (sp_epoch_Waits a3 _ 1) rfl s20 fun r15 h21 s21=>?_
  have e15:((r15.len:Int) == 1) = true:=by
    rw [(cd (j:=0) s21 rfl).1]
    kernel_rfl
  rw [e15]
  refine dL (by kernel_rfl) ?_
  refine cJ [] (rest:=[_,_,_,_,_,_,_,_,_,_]) (sp_Of 3 (by decide)) s21 rfl fun r16 h22 x22=>?_
  obtain ⟨d,z22⟩:=tR x22
  obtain ⟨rfl,s22⟩:=bn.1 z22
  refine cJ [3,0] (rest:=[_,_,_,_,_,_,_,_,_]) (sp_Is1 b d _ tr3 (by kernel_rfl) (.inr ⟨b',by kernel_rfl⟩)) s22 rfl fun r17 h23 x23=>?_
  obtain ⟨rfl,s23⟩:=bn.1 x23
  refine dL rfl ?_
  refine cl_n (i:=5) (sp_plain_Free a1 _) rfl s23 fun r18 h24 s24=>?_
  have e18:((r18.len:Int) == 1) = true:=by
    rw [(cd (j:=0) s24 rfl).1]
    kernel_rfl
  exact aU e18 (bU (l:=[_,_,_,_,_,_,_,_,_,_,_]) (ba [0,0,0,0,0,1,1,1,1,1,1] s24 rfl))
theorem sp_Begun11:Sp Tryz.prog kr [] ay [(etB ET EF)] (fun r=>pa_ (r = true) [(etB ET EF)]):=by
  intro h st
  refine uA ?_
  unfold nU
  exact bK (i:=0) sp_begun11 rfl st fun r h' hr s=>aU hr s
end Go.Proofs.YtmggcfijlpldpaaGreatDoor
namespace Go.Proofs.YtmggcfijlpldpaaGreatDoor
open Go Mb
theorem calls_nil:∀ (n:Nat) {l:List As} {h:Hp},aC l h→aC (all ii (List.replicate n (none:Ptr)) (List.replicate n (none:Option KC))::l) h
  | 0,_,_,s=>all_nil s
  | n + 1,l,h,s=>by
    have s1:=star_cons (A:=ii none none) (fun _=>rfl) (calls_nil n s)
    rw [List.replicate_succ,List.replicate_succ]
    obtain ⟨h1,h2,d,e,a,h3,h4,d2,e2,b,s'⟩:=s1
    subst e2
    obtain ⟨d3,d4⟩:=Dj.of_un_right d
    exact ⟨un h1 h3,h4,Dj.un_left d4 d2,by rw [e,mb],⟨h1,h3,d3,rfl,a,b⟩,s'⟩
def newI (s:js) (b n:Nat) (pp pm pe:Ptr) (cs:Sl) (i:Int) (h:Hp):Prop:=∃ (j:Nat) (ts:Sl) (tp:List Ptr),i = j∧j ≤ n∧tp.length = j∧aC [blk b bZ [pv pp,.int .i64 s.fEnvs,sv ts,pv pm,pv pe,sv cs,sv (⟨none,0,0,none⟩:Sl),.int .i64 0],bk pp (PK.new s),vQ rU ts tp,all fh tp (List.replicate j tlb0),iO pm (List.replicate n []),eO pe ([],List.replicate n 0),vQ eV cs (List.replicate n none),all ii (List.replicate n none) (List.replicate n none),vE (⟨none,0,0,none⟩:Sl) []] h
theorem new_round {s:js} {b n:Nat} {pp pm pe:Ptr} {cs:Sl} (hn8:n ≤ 8) {i:Int} {h:Hp} (H:newI s b n pp pm pe cs i h) (hi:i < n) :
    (both (ld (b,2) cS fun x31=>cl Tryz.prog ij [] gj fun r32=>hpv Tryz.prog (Instr.buildSlice bI 1 #[(0,(pv r32))]) dH fun (v33:Sl)=>hpv Tryz.prog (Builtin.append_ #[bI,bI] bI #[(sv x31),(sv v33)]) dH fun (v34:Sl)=>Mb.st (b,2) [sv v34] fun h'=>newI s b n pp pm pe cs (IntKind.i64.wrap (i + 1)) h'∧n - (IntKind.i64.wrap (i + 1)).toNat < n - i.toNat)
     (cl Tryz.prog ij [] gj fun r32=>ld (b,2) cS fun x31=>hpv Tryz.prog (Instr.buildSlice bI 1 #[(0,(pv r32))]) dH fun (v33:Sl)=>hpv Tryz.prog (Builtin.append_ #[bI,bI] bI #[(sv x31),(sv v33)]) dH fun (v34:Sl)=>Mb.st (b,2) [sv v34] fun h'=>newI s b n pp pm pe cs (IntKind.i64.wrap (i + 1)) h'∧n - (IntKind.i64.wrap (i + 1)).toNat < n - i.toNat)) h:=by
  obtain ⟨j,ts,tp,rfl,hj,htp,s6⟩:=H
  have hlt:j < n:=by omega
  have hw:IntKind.i64.wrap ((j:Int) + 1) = ((j + 1:Nat):Int):=by rw [bO (by omega) (by omega)]; rfl
  rw [hw]
  have fin:∀ (r:Ptr) (v:Sl) (h:Hp),aC [fh r tlb0,blk b bZ [pv pp,.int .i64 s.fEnvs,sv ts,pv pm,pv pe,sv cs,sv (⟨none,0,0,none⟩:Sl),.int .i64 0],bk pp (PK.new s),vQ rU v (tp++[r]),all fh tp (List.replicate j tlb0),iO pm (List.replicate n []),eO pe ([],List.replicate n 0),vQ eV cs (List.replicate n none),all ii (List.replicate n none) (List.replicate n none),vE (⟨none,0,0,none⟩:Sl) []] h →
      Mb.st (b,2) [sv v] (fun h'=>newI s b n pp pm pe cs ((j + 1:Nat):Int) h'∧n - ((j + 1:Nat):Int).toNat < n - (j:Int).toNat) h:=by
    intro r v h s7
    refine tY (i:=1) s7 rfl (Nat.le_of_ble_eq_true rfl) fun h8 s8=>?_
    refine ⟨⟨j + 1,v,tp++[r],rfl,hlt,by simp [htp],?_⟩,by simp; omega⟩
    have s9:=all_push (by simp [htp]) (ba [0,3] s8 rfl)
    have e:List.replicate j tlb0++[tlb0] = List.replicate (j + 1) tlb0:=List.replicate_succ'.symm
    rw [e] at s9
    exact ba [1,1,1,0] s9 rfl
  refine ⟨?_,?_⟩
  · refine bi ts s6 (i:=0) rfl rfl rfl ?_
    refine lj vt s6 fun r h7 s7=>?_
    refine kg (τ:=Ptr) (i:=3) (enc:=cP) (val:=fun x=>pv x) el_SPtlb_Tlb gE cP_one (fun _=>rfl) (by omega) rfl rfl s7 rfl (by omega) (by omega) fun v h8 s8=>?_
    exact fin r v h8 s8
  · refine lj vt s6 fun r h7 s7=>?_
    refine bi ts s7 (i:=1) rfl rfl rfl ?_
    refine kg (τ:=Ptr) (i:=3) (enc:=cP) (val:=fun x=>pv x) el_SPtlb_Tlb gE cP_one (fun _=>rfl) (by omega) rfl rfl s7 rfl (by omega) (by omega) fun v h8 s8=>?_
    exact fin r v h8 s8
theorem new_start {s:js} {b n:Nat} {pp pm pe:Ptr} {cs:Sl} {h:Hp}
    (st:aC [blk b bZ (fj.C (⟨pp,s.fEnvs,(⟨none,0,0,none⟩:Sl),pm,pe,cs,(⟨none,0,0,none⟩:Sl),0⟩:fj)),bk pp (PK.new s),iO pm (List.replicate n []),eO pe ([],List.replicate n 0),vQ eV cs (List.replicate n none)] h):newI s b n pp pm pe cs 0 h:=by
  have s1:=fu (τ:=bX) (T:=t_api_Event) (m:=16) (enc:=aA.C) (calls_nil n (fu (τ:=Ptr) (T:=rU) (m:=1) (enc:=cP) (all_nil (A:=fh) st)))
  exact ⟨0,⟨none,0,0,none⟩,[],rfl,Nat.zero_le _,rfl,ba [4,4,2,2,2,2,2,1] s1 rfl⟩
theorem new_end {s:js} (hs:PK.sized s = true) {b n:Nat} (hn:s.fCores = n) {pp pm pe:Ptr} {cs:Sl} {h:Hp} (H:newI s b n pp pm pe cs n h):aC [cG (some (b,0)) (KK.new s)] h:=by
  obtain ⟨j,ts,tp,hj,hj2,htp,s6⟩:=H
  have:j = n:=by omega
  subst this
  have ok:=kok_new hs
  have e:KK.new s = ⟨PK.new s,List.replicate j tlb0,List.replicate j [],([],List.replicate j 0),List.replicate j none,[],0⟩:=by unfold KK.new; rw [hn]; rfl
  rw [e] at ok ⊢
  exact pR (z:=⟨b,pp,ts,tp,pm,pe,cs,List.replicate j none,⟨none,0,0,none⟩⟩) ⟨by simpa using htp,by simp⟩ ok s6
theorem sp_kern_New (s:js) (hs:PK.sized s = true):Sp Tryz.prog wj [.agg s.C.toArray] jO [] (fun r=>aC [cG r (KK.new s)]):=by
  intro h st
  have hz:=jd.1 hs
  obtain ⟨n,hn⟩:=Int.eq_ofNat_of_zero_le (show 0 ≤ s.fCores by omega)
  have hn8:n ≤ 8:=by omega
  refine sim_kern_New _ ?_
  unfold sh_kern_New
  refine lj (rp s hs) st fun pp h1 s1=>?_
  have hpp:pp.isNone = false:=by
    obtain ⟨_,h2,_⟩:=fw s1; rw [h2]; rfl
  refine df hpp ?_
  have mk:∀ {l:List As} {h:Hp} {K:Sl→Hp→Prop},aC l h→(∀ v h',aC (vQ eV v (List.replicate n none)::l) h'→K v h')→hpv Tryz.prog (Instr.makeSlice mi (.int .i64 s.fCores) (.int .i64 s.fCores)) pV K h:=by
    intro l h K s2 k
    rw [hn]
    exact nl (τ:=Ptr) (x0:=none) (enc:=cP) (n:=n) (T:=eV) (m:=1) el_SPkern_call rfl s2 (by omega) (by omega) k
  have em:s.fCores.toNat = n:=by omega
  refine ⟨?_,?_⟩
  · refine lj (sp_mail_New s.fCores (by omega) (by omega)) s1 fun pm h2 s2=>?_
    refine ⟨?_,?_⟩
    · refine lj (rr s.fCores (by omega) (by omega)) s2 fun pe h3 s3=>?_
      rw [em] at s3
      refine mk s3 fun cs h4 s4=>?_
      refine oG s4 fun b h5 s5=>?_
      refine Lp.intro (fun (i:Int) h=>newI s b n pp pm pe cs i h) (fun (i:Int) _=>n - i.toNat) (new_start (ba [0,4,3,2,1] s5 rfl)) ?_
      intro i h H
      unfold kern_New_l1
      refine aV (fun d=>new_round hn8 H (by have:=of_decide_eq_true d; omega)) (fun d=>?_)
      have:i = n:=by obtain ⟨j,_,_,e,hj,_⟩:=H; have:=of_decide_eq_false d; omega
      subst this
      exact new_end hs hn H
    · refine mk s2 fun cs h3 s3=>?_
      refine lj (rr s.fCores (by omega) (by omega)) s3 fun pe h4 s4=>?_
      rw [em] at s4
      refine oG s4 fun b h5 s5=>?_
      refine Lp.intro (fun (i:Int) h=>newI s b n pp pm pe cs i h) (fun (i:Int) _=>n - i.toNat) (new_start (ba [0,3,2,0,0] s5 rfl)) ?_
      intro i h H
      unfold kern_New_l2
      refine aV (fun d=>new_round hn8 H (by have:=of_decide_eq_true d; omega)) (fun d=>?_)
      have:i = n:=by obtain ⟨j,_,_,e,hj,_⟩:=H; have:=of_decide_eq_false d; omega
      subst this
      exact new_end hs hn H
  · refine mk s1 fun cs h2 s2=>?_
    refine lj (sp_mail_New s.fCores (by omega) (by omega)) s2 fun pm h3 s3=>?_
    refine lj (rr s.fCores (by omega) (by omega)) s3 fun pe h4 s4=>?_
    rw [em] at s4
    refine oG s4 fun b h5 s5=>?_
    refine Lp.intro (fun (i:Int) h=>newI s b n pp pm pe cs i h) (fun (i:Int) _=>n - i.toNat) (new_start (ba [0,3,1,0,0] s5 rfl)) ?_
    intro i h H
    unfold kern_New_l3
    refine aV (fun d=>new_round hn8 H (by have:=of_decide_eq_true d; omega)) (fun d=>?_)
    have:i = n:=by obtain ⟨j,_,_,e,hj,_⟩:=H; have:=of_decide_eq_false d; omega
    subst this
    exact new_end hs hn H
end Go.Proofs.YtmggcfijlpldpaaGreatDoor
namespace Go.Proofs.YtmggcfijlpldpaaGreatDoor
open Go Mb
def CmpOk (v:Value) (A:List As) (key:Int→Int) (S:Int→Prop):Prop :=
  ∀ x y,S x→S y→SpV Tryz.prog v [.int .i64 x,.int .i64 y] dW A (fun r=>pa_ (r < 0↔key x < key y) A)
abbrev Up (key:Int→Int) (l:List Int):Prop:=l.Pairwise fun x y=>key x ≤ key y
theorem mid_get {L R:List Int} {x:Int}:(L++x::R)[L.length]? = some x:=by simp
theorem mid_get1 {L R:List Int} {x y:Int}:(L++x::y::R)[L.length + 1]? = some y:=by
  rw [List.getElem?_append_right (by omega),show L.length + 1 - L.length = 1 from by omega]; rfl
theorem mid_set {L R:List Int} {x v:Int}:(L++x::R).set L.length v = L++v::R:=by simp
theorem mid_set1 {L R:List Int} {x y v:Int}:(L++x::y::R).set (L.length + 1) v = L++x::v::R:=by
  rw [List.set_append_right _ _ (by omega),show L.length + 1 - L.length = 1 from by omega]; rfl
theorem up_insert {key:Int→Int} {a1 a2:List Int} {y:Int} (h:Up key (a1++a2)) (h1:∀ x ∈ a1,key x ≤ key y) (h2:∀ x ∈ a2,key y < key x):Up key (a1++y::a2):=by
  obtain ⟨p1,p2,p3⟩:=List.pairwise_append.1 h
  refine List.pairwise_append.2 ⟨p1,List.pairwise_cons.2 ⟨fun x hx=>Int.le_of_lt (h2 x hx),p2⟩,fun x hx z hz=>?_⟩
  rcases List.mem_cons.1 hz with rfl | hz
  · exact h1 x hx
  · exact p3 x hx z hz
theorem sp_insertion (s:Sl) (v:Value) (A:List As) (key:Int→Int) (S:Int→Prop) (hv:CmpOk v A key S) (p m q:List Int) (hS:∀ x ∈ m,S x) (hb:p.length + m.length + q.length < 2 ^ 60) :
    Sp Tryz.prog bQ [sv s,.int .i64 p.length,.int .i64 (p.length + m.length:Nat),v] R_ (vI s (p++(m++q))::A) (fun _ h=>∃ m',(m'.Perm m∧Up key m')∧aC (vI s (p++(m'++q))::A) h):=by
  intro h s0
  have hl:=(cd (j:=0) s0 rfl).1
  refine mj _ _ _ _ ?_
  unfold gR
  have hw0:IntKind.i64.wrap ((p.length:Int) + 1) = ((p.length + 1:Nat):Int):=by rw [bO (by omega) (by omega)]; rfl
  rw [hw0]
  cases m with
  | nil =>
    refine Lp.intro (fun (i:Int) h=>i = ((p.length + 1:Nat):Int)∧aC (vI s (p++([]++q))::A) h) (fun _ _=>0) ⟨rfl,s0⟩ ?_
    rintro i h ⟨rfl,s1⟩
    unfold dx
    refine df (by simp; omega) ?_
    exact ⟨[],⟨.refl _,.nil⟩,s1⟩
  | cons x0 t0 =>
    refine Lp.intro (fun (i:Int) h=>∃ a b:List Int,i = ((p.length + a.length:Nat):Int)∧Up key a∧(a++b).Perm (x0::t0)∧aC (vI s (p++((a++b)++q))::A) h) (fun (i:Int) _=>p.length + (x0::t0).length - i.toNat) ⟨[x0],t0,rfl,List.pairwise_singleton _ _,.refl _,s0⟩ ?_
    rintro i h ⟨a,b,rfl,ha,hp,s1⟩
    have hlen:=hp.length_eq
    simp only [List.length_append] at hlen
    have hsl:=(cd (j:=0) s1 rfl).1
    unfold dx
    refine aV (fun k=>?_) (fun k=>?_)
    · have hbp:0 < b.length:=by have:=of_decide_eq_true k; omega
      obtain ⟨y,b',rfl⟩:=List.exists_cons_of_length_pos hbp
      have hS':∀ x ∈ a++y::b',S x:=fun x hx=>hS x (hp.subset hx)
      have hw1:IntKind.i64.wrap (((p.length + a.length:Nat):Int) + 1) = ((p.length + a.length + 1:Nat):Int):=by rw [bO (by omega) (by omega)]; rfl
      have out:∀ (a1 a2:List Int) (h:Hp),a1++a2 = a→(∀ x ∈ a1,key x ≤ key y)→(∀ x ∈ a2,key y < key x)→aC (vI s (p++((a1++y::(a2++b'))++q))::A) h →
          (fun (s':Int) h'=>(∃ a b:List Int,s' = ((p.length + a.length:Nat):Int)∧Up key a∧(a++b).Perm (x0::t0)∧aC (vI s (p++((a++b)++q))::A) h')∧p.length + (x0::t0).length - s'.toNat < p.length + (x0::t0).length - ((p.length + a.length:Nat):Int).toNat) (IntKind.i64.wrap (((p.length + a.length:Nat):Int) + 1)) h:=by
        intro a1 a2 h he h1 h2 s2
        subst he
        rw [hw1]
        refine ⟨⟨a1++y::a2,b',by simp; omega,up_insert ha h1 h2,?_,?_⟩,by simp at hlen ⊢; omega⟩
        · refine List.Perm.trans ?_ hp
          have:(a1++y::a2++b').Perm (a1++a2++y::b'):=by
            rw [List.append_assoc,List.append_assoc]
            refine List.Perm.append_left a1 ?_
            simpa using (List.perm_middle (a:=y) (l₁:=a2) (l₂:=b')).symm
          exact this
        · have:a1++y::a2++b' = a1++y::(a2++b'):=by simp
          rw [this]; exact s2
      refine Lp.intro (fun (j:Int) h=>∃ a1 a2:List Int,a1++a2 = a∧j = ((p.length + a1.length:Nat):Int)∧(∀ x ∈ a2,key y < key x)∧aC (vI s (p++((a1++y::(a2++b'))++q))::A) h) (fun (j:Int) _=>j.toNat) ⟨a,[],by simp,rfl,fun x hx=>(by cases hx),by simpa using s1⟩ ?_
      rintro j h ⟨a1,a2,he,rfl,h2,s2⟩
      unfold eH
      refine aV (fun k2=>?_) (fun k2=>?_)
      · have hne:a1 ≠ []:=by
          intro e; subst e; simp at k2
        obtain ⟨L0,z,rfl⟩:∃ L z,a1 = L++[z]:=⟨a1.dropLast,a1.getLast hne,(List.dropLast_concat_getLast hne).symm⟩
        have hal:a.length = L0.length + 1 + a2.length:=by rw [← he]; simp; omega
        have hdec:p++((L0++[z]++y::(a2++b'))++q) = (p++L0)++z::y::(a2++b'++q):=by simp
        rw [hdec] at s2
        have hlL:(p++L0).length = p.length + L0.length:=by simp
        have hj:((p.length + (L0++[z]).length:Nat):Int) = (((p++L0).length + 1:Nat):Int):=by simp; omega
        rw [hj]
        have hsl2:=(cd (j:=0) s2 rfl).1
        have hw2:IntKind.i64.wrap ((((p++L0).length + 1:Nat):Int) - 1) = (((p++L0).length:Nat):Int):=by rw [bO (by omega) (by omega)]; omega
        rw [hw2]
        refine dv s2 (j:=0) rfl (by omega) (by simp; omega) fun q1 hq1=>?_
        refine dv s2 (j:=0) rfl (by omega) (by simp; omega) fun q2 hq2=>?_
        refine dZ (j:=0) (i:=(p++L0).length + 1) (k:=0) y (cX _) s2 rfl hq1 (by rw [Int.toNat_natCast]; rfl) mid_get1 (by simp) ?_
        refine dZ (j:=0) (i:=(p++L0).length) (k:=0) z (cX _) s2 rfl hq2 (by rw [Int.toNat_natCast]; rfl) mid_get (by simp) ?_
        have hSy:S y:=hS' y (by simp)
        have hSz:S z:=hS' z (by rw [← he]; simp)
        refine clv_t (hv y z hSy hSz) s2 fun r h3 s3=>?_
        obtain ⟨hr,s4⟩:=bn.1 s3
        have s5:=star_rot s4
        refine aV (fun k3=>?_) (fun k3=>?_)
        · have k3':key y < key z:=hr.1 (of_decide_eq_true k3)
          refine dZ (j:=0) (i:=(p++L0).length) (k:=0) z (cX _) s5 rfl hq2 (by rw [Int.toNat_natCast]; rfl) mid_get (by simp) ?_
          refine dZ (j:=0) (i:=(p++L0).length + 1) (k:=0) y (cX _) s5 rfl hq1 (by rw [Int.toNat_natCast]; rfl) mid_get1 (by simp) ?_
          refine st_v (j:=0) (i:=(p++L0).length + 1) (k:=0) z (cX _) s5 rfl hq1 (by rw [Int.toNat_natCast]; rfl) mid_get1 (by simp) rfl fun h6 s6=>?_
          rw [mid_set1] at s6
          refine st_v (j:=0) (i:=(p++L0).length) (k:=0) y (cX _) s6 rfl hq2 (by rw [Int.toNat_natCast]; rfl) mid_get (by simp) rfl fun h7 s7=>?_
          refine ⟨⟨L0,z::a2,by rw [← he]; simp,by rw [hlL],fun x hx=>?_,?_⟩,by simp only [Int.toNat_natCast]; omega⟩
          · rcases List.mem_cons.1 hx with rfl | hx
            · exact k3'
            · exact h2 x hx
          · have e2:p++((L0++y::(z::a2++b'))++q) = (p++L0)++y::z::(a2++b'++q):=by simp
            rw [e2]
            have s8:aC (vI s (((p++L0)++z::z::(a2++b'++q)).set (p++L0).length y)::A) h7:=s7
            rw [mid_set] at s8
            exact s8
        · have k3':key z ≤ key y:=by
            have:¬ key y < key z:=fun hh=>by have:=hr.2 hh; simp at k3; omega
            omega
          refine out (L0++[z]) a2 h3 he (fun x hx=>?_) h2 (by rw [hdec]; exact s5)
          have hup:Up key (L0++[z]):=by
            rw [← he] at ha
            exact (List.pairwise_append.1 ha).1
          rcases List.mem_append.1 hx with hx | hx
          · have:=(List.pairwise_append.1 hup).2.2 x hx z (by simp)
            omega
          · rw [List.mem_singleton.1 hx]; exact k3'
      · have e:a1 = []:=by
          have:=of_decide_eq_false k2
          exact List.eq_nil_of_length_eq_zero (by omega)
        subst e
        exact out [] a2 h he (fun x hx=>by cases hx) h2 s2
    · have hb0:b = []:=by
        have:=of_decide_eq_false k
        exact List.eq_nil_of_length_eq_zero (by omega)
      subst hb0
      rw [List.append_nil] at hp s1
      exact ⟨a,⟨hp,ha⟩,s1⟩
theorem sp_SortStable20 (s:Sl) (v:Value) (A:List As) (key:Int→Int) (S:Int→Prop) (hv:CmpOk v A key S) (m:List Int) (hS:∀ x ∈ m,S x) (hb:m.length ≤ 20) :
    Sp Tryz.prog fq [sv s,v] R_ (vI s m::A) (fun _ h=>∃ m',(m'.Perm m∧Up key m')∧aC (vI s m'::A) h):=by
  intro h s0
  have hl:=(cd (j:=0) s0 rfl).1
  refine nG _ _ ?_
  unfold iq
  unfold cl
  refine qD _ _ _ ?_
  unfold kC
  rw [hl]
  have ins:∀ (p m q:List Int) (h:Hp) (K:Unit→Hp→Prop),(∀ x ∈ m,S x)→p.length + m.length + q.length < 2 ^ 60→aC (vI s (p++(m++q))::A) h→(∀ m' h',m'.Perm m→Up key m'→aC (vI s (p++(m'++q))::A) h'→K () h') →
      cl Tryz.prog bQ [sv s,.int .i64 p.length,.int .i64 (p.length + m.length:Nat),v] R_ K h:=by
    intro p m q h K h1 h2 s1 k
    refine (sp_insertion s v A key S hv p m q h1 h2 h s1).mono ?_
    rintro u h' ⟨r,e,m',⟨p1,p2⟩,s2⟩
    exact ⟨r,e,k m' h' p1 p2 s2⟩
  have tail:∀ (m':List Int) (h:Hp),m'.length = m.length→Up key m'→m'.Perm m→aC (vI s m'::A) h→Lp (de (s) (m.length:Int) v (fun _ h'=>∃ m',(m'.Perm m∧Up key m')∧aC (vI s m'::A) h')) 20 h:=by
    intro m' h hlm hu hp s1
    refine Lp.intro (fun (i:Int) h=>i = 20∧aC (vI s m'::A) h) (fun _ _=>0) ⟨rfl,s1⟩ ?_
    rintro i h ⟨rfl,s2⟩
    unfold de
    refine df (by simp; omega) ?_
    exact ⟨m',⟨hp,hu⟩,s2⟩
  refine Lp.intro (fun (z:Int × Int) h=>(z = (0,20)∧aC (vI s m::A) h)∨(z = (20,40)∧m.length = 20∧∃ m',(m'.Perm m∧Up key m')∧aC (vI s m'::A) h)) (fun (z:Int × Int) _=>(40 - z.2).toNat) (.inl ⟨rfl,s0⟩) ?_
  rintro z h (⟨rfl,s1⟩ | ⟨rfl,h20,m',⟨hp,hu⟩,s1⟩)
  · unfold eS
    refine aV (fun k=>?_) (fun k=>?_)
    · have h20:m.length = 20:=by have:=of_decide_eq_true k; omega
      have e:(20:Int) = ((([]:List Int).length + m.length:Nat):Int):=by simp [h20]
      show cl Tryz.prog bQ [sv s,.int .i64 0,.int .i64 20,v] R_ _ h
      rw [e]
      refine ins [] m [] h _ hS (by simp; omega) (by simpa using s1) fun m' h' hp hu s2=>?_
      refine ⟨.inr ⟨?_,h20,m',⟨hp,hu⟩,by simpa using s2⟩,?_⟩
      · rw [← e]; rw [bO (by omega) (by omega)]; rfl
      · rw [← e]; rw [bO (by omega) (by omega)]; decide
    · have e:(m.length:Int) = ((([]:List Int).length + m.length:Nat):Int):=by simp
      show cl Tryz.prog bQ [sv s,.int .i64 0,.int .i64 (m.length:Int),v] R_ _ h
      have:=ins [] m [] h (fun _=>Lp (de s (m.length:Int) v (fun _ h'=>∃ m',(m'.Perm m∧Up key m')∧aC (vI s m'::A) h')) 20) hS (by simp; omega) (by simpa using s1) fun m' h' hp hu s2=>tail m' h' hp.length_eq hu hp (by simpa using s2)
      rw [← e] at this
      exact this
  · unfold eS
    refine df (by rw [h20]; rfl) ?_
    have hml:m'.length = 20:=hp.length_eq.trans h20
    have e:(m.length:Int) = ((m'.length + ([]:List Int).length:Nat):Int):=by simp [h20,hml]
    have e2:(20:Int) = (m'.length:Int):=by omega
    show cl Tryz.prog bQ [sv s,.int .i64 20,.int .i64 (m.length:Int),v] R_ _ h
    have:=ins m' [] [] h (fun _=>Lp (de s (m.length:Int) v (fun _ h'=>∃ m',(m'.Perm m∧Up key m')∧aC (vI s m'::A) h')) 20) (fun x hx=>by cases hx) (by simp; omega) (by simpa using s1) fun m2 h' hp2 hu2 s2=>by
      have:m2 = []:=hp2.eq_nil
      subst this
      exact tail m' h' hp.length_eq hu hp (by simpa using s2)
    rw [← e,← e2] at this
    exact this
end Go.Proofs.YtmggcfijlpldpaaGreatDoor
