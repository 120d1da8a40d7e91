/- The law KernForm returns true for every input, and leaves its arguments as they were. -/
import Derived.Test.YtniiiakkdoiaiaaGreatDoorKernForm17
import Derived.Test.YtniiiakkdoiaiaaGreatDoorCards
import Derived.Test.YtniiiakkdoiaiaaGreatDoorRows
import Derived.Test.YtniiiakkdoiaiaaGreatDoorTie
set_option linter.all false
namespace Go.Proofs.YtniiiakkdoiaiaaGreatDoor
open Go Mb
variable {ET:Nat} {EF:Nat × Nat}
theorem kern_nn {l:List As} {h:Hp} {x:Ptr} {k:KK} (s:aQ (dc x k::l) h):x.isNone = false:=nn_of (fun _ e=>by rw [e.1]; rfl) s
namespace B16
abbrev sz:gj:=⟨2,2,3⟩
def r1:=KK.run (KK.new ⟨2,2,3⟩) 0 0 ⟨1,1,0,0,0⟩
def r2:=KK.run r1.2 0 0 ⟨6,4,1,3,0⟩
def r3:=KK.run r2.2 1 0 ⟨21,4,2,9,0⟩
def r4:=KK.run r3.2 0 0 ⟨20,4,2,0,0⟩
def r5:=KK.run r4.2 0 0 ⟨7,4,0,0,0⟩
def es:=r5.2.events
theorem es_len:es.length = 5:=by kernel_rfl
theorem apart:Hist.may es sz = true:=by kernel_rfl
theorem now1:r1.2.now < 1000:=of_decide_eq_true (by kernel_rfl)
theorem now2:r2.2.now < 1000:=of_decide_eq_true (by kernel_rfl)
theorem now3:r3.2.now < 1000:=of_decide_eq_true (by kernel_rfl)
theorem now4:r4.2.now < 1000:=of_decide_eq_true (by kernel_rfl)
theorem now5:r5.2.now < 1000:=of_decide_eq_true (by kernel_rfl)
theorem lin:Judge.linear es sz = (-1,true):=by kernel_rfl
theorem acc:Judge.accesses es sz = (-1,true):=by kernel_rfl
theorem rgt:Judge.right es sz = true:=by kernel_rfl
end B16
theorem ord20 {es:List co} (s:Sl) (h:es.length ≤ 20):Hist.Apart es→OrdOk s es:=fun ha=>sp_hist_Order20 s es h ha
theorem sp_begun16:Sp Tryz.prog kA [] aG [(etB ET EF)] (fun r=>pa_ (r = true) [(etB ET EF)]):=by
  intro h st
  refine uM ?_
  unfold og
  refine ma (sp_kern_New ⟨2,2,3⟩ (by decide)) st fun x h1 s1=>?_
  refine dv (kern_nn s1) ?_
  refine bY (i:=0) (sp_Run x _ 0 0 ⟨1,1,0,0,0⟩ (by decide)) rfl s1 fun a1 h2 e1 s2=>?_
  refine bY (i:=0) (sp_Run x B16.r1.2 0 0 ⟨6,4,1,3,0⟩ (by have:=B16.now1; omega)) rfl s2 fun a2 h3 e2 s3=>?_
  refine bY (i:=0) (sp_Run x B16.r2.2 1 0 ⟨21,4,2,9,0⟩ (by have:=B16.now2; omega)) rfl s3 fun a3 h4 e3 s4=>?_
  refine bY (i:=0) (sp_Run x B16.r3.2 0 0 ⟨20,4,2,0,0⟩ (by have:=B16.now3; omega)) rfl s4 fun a4 h5 e4 s5=>?_
  refine bY (i:=0) (sp_Run x B16.r4.2 0 0 ⟨7,4,0,0,0⟩ (by have:=B16.now4; omega)) rfl s5 fun a5 h6 e5 s6=>?_
  refine tj (i:=0) (nX x B16.r5.2 (by have:=B16.now5; omega)) rfl s6 fun s h7 s7=>?_
  have hes:B16.es.length < 2 ^ 38:=by rw [B16.es_len]; decide
  have hes20:B16.es.length ≤ 20:=by rw [B16.es_len]; decide
  refine bY (i:=0) (sp_judge_Linear s B16.es B16.sz (by decide) hes (ord20 s hes20)) rfl s7 fun r1 h8 f1 s8=>?_
  refine bY (i:=0) (sp_judge_Access s B16.es B16.sz (by decide) hes (ord20 s hes20)) rfl s8 fun r2 h9 f2 s9=>?_
  refine ma (sp_fair_Rounds 2 3) s9 fun t h10 s10=>?_
  refine bY (i:=3) sp_Begun11 rfl s10 fun r3 h11 f3 s11=>?_
  have hl:((s.len:Int) == 5) = true:=by rw [(cn (j:=1) s11 rfl).1]; kernel_rfl
  have htl:((t.len:Int) == 12) = true:=by rw [(cn (j:=0) s11 rfl).1]; kernel_rfl
  have g1:a1 = B16.r1.1:=e1.1
  have g2:a2 = B16.r2.1:=e2.1
  have g3:a3 = B16.r3.1:=e3.1
  have g4:a4 = B16.r4.1:=e4.1
  have g5:a5 = B16.r5.1:=e5.1
  rw [B16.lin] at f1
  rw [B16.acc] at f2
  rw [f1,f2,f3,g1,g2,g3,g4,g5,hl]
  refine df (by kernel_rfl) ?_
  refine bY (i:=1) (sp_hist_May s B16.es B16.sz hes) rfl s11 fun r4 h12 f4 s12=>?_
  refine df (f4.trans B16.apart) ?_
  refine tj (i:=1) (sp_hist_Order20 s B16.es hes20 (Hist.may_apart B16.apart)) rfl s12 fun o h13 s13=>?_
  have hol:((o.len:Int) == 5) = true:=by rw [(cn (j:=0) s13 rfl).1]; kernel_rfl
  refine df (by rw [hol,htl]; rfl) ?_
  refine bY (i:=1) (sp_fair_Fair t _ 2 5 (by decide) (by decide)) rfl s13 fun r5 h14 f5 s14=>?_
  refine df (f5.trans (by kernel_rfl)) ?_
  refine tj (i:=2) (sp_twin_View s B16.es 0 hes) rfl s14 fun v h15 s15=>?_
  have hvl:((v.len:Int) == 5) = true:=by rw [(cn (j:=0) s15 rfl).1]; kernel_rfl
  refine df hvl ?_
  refine bY (i:=3) (sp_judge_Right s B16.es B16.sz (by decide) hes (ord20 s hes20)) rfl s15 fun r6 h16 f6 s16=>?_
  exact bh (f6.trans B16.rgt) (cj (l:=[_,_,_,_,_]) s16)
end Go.Proofs.YtniiiakkdoiaiaaGreatDoor
namespace Go.Proofs.YtniiiakkdoiaiaaGreatDoor
open Go Mb
variable {ET:Nat} {EF:Nat × Nat}
namespace KK
theorem new_call (s:gj) (c:Int):call (new s) c = none:=by
  simp only [call,new,List.getD_eq_getElem?_getD,List.getElem?_replicate]
  split <;> rfl
theorem new_is (s:gj) (h:PK.sized s = true) (c:Int):is (new s) c = decide (0 ≤ c∧c < s.fCores):=by
  have:=fL.1 h
  simp only [is,new,List.length_replicate]
  rw [Int.toNat_of_nonneg (by omega)]
theorem new_busy (s:gj) (c:Int):busy (new s) c = false:=by
  unfold busy; rw [new_call]; simp
theorem new_step (s:gj) (c:Int):step (new s) c = (false,new s):=by
  unfold step; rw [if_pos (new_busy s c)]
theorem new_waits (s:gj) (c:Int):Mail.waits (new s).boxes c = 0:=by
  unfold Mail.waits
  split
  · simp only [Mail.box,new,List.getD_eq_getElem?_getD,List.getElem?_replicate]
    split <;> rfl
  · rfl
theorem new_post (s:gj) (c:Int):post (new s) c = (false,new s):=by
  unfold post
  split
  · rfl
  · rw [if_pos]
    unfold Mail.take
    rw [if_pos (new_waits s c)]
theorem new_buf (s:gj) (c:Int) (h:is (new s) c = true):buf (new s) c = tlb0:=by
  have h':0 ≤ c∧c < ((new s).calls.length:Int):=of_decide_eq_true h
  simp only [new,List.length_replicate] at h'
  simp only [buf,new,List.getD_eq_getElem?_getD,List.getElem?_replicate]
  rw [if_pos (by omega)]; rfl
theorem new_begin_no (s:gj) (h:PK.sized s = true) (core env:Int) (c:iq) (hn:¬ (0 ≤ core∧core < s.fCores∧0 ≤ env∧env < s.fEnvs)):begin_ (new s) core env c = (false,new s):=by
  unfold begin_
  rw [if_pos]
  rw [new_is s h]
  by_cases h1:0 ≤ core∧core < s.fCores
  · have:env < 0∨env ≥ s.fEnvs:=by omega
    exact .inr (.inr this)
  · exact .inl (decide_eq_false h1)
def first (s:gj) (core env:Int) (c:iq):KK:={ new s with now:=1,events:=[ev0 core env c 1],calls:=(new s).calls.set core.toNat (some ⟨0,env,c,false,0⟩) }
theorem new_begin_yes (s:gj) (h:PK.sized s = true) (core env:Int) (c:iq) (hn:0 ≤ core∧core < s.fCores∧0 ≤ env∧env < s.fEnvs):begin_ (new s) core env c = (true,first s core env c):=by
  unfold begin_
  rw [if_neg]
  · rfl
  · rw [new_is s h,new_busy]
    rintro (h1 | h1 | h1 | h1)
    · exact absurd (of_decide_eq_false h1) (by omega)
    · cases h1
    · omega
    · have h1':env ≥ s.fEnvs:=h1
      omega
theorem first_busy (s:gj) (h:PK.sized s = true) (core env:Int) (c:iq) (hn:0 ≤ core∧core < s.fCores∧0 ≤ env∧env < s.fEnvs):busy (first s core env c) core = true:=by
  have h1:is (first s core env c) core = true:=by
    have:=new_is s h core
    unfold is at this ⊢
    simp only [first,List.length_set]
    rw [this]
    exact decide_eq_true ⟨hn.1,hn.2.1⟩
  have h2:=fL.1 h
  have hlt:core.toNat < s.fCores.toNat:=by omega
  unfold busy
  rw [h1]
  simp [call,first,new,hlt]
theorem first_begin (s:gj) (h:PK.sized s = true) (core env:Int) (c:iq) (hn:0 ≤ core∧core < s.fCores∧0 ≤ env∧env < s.fEnvs):begin_ (first s core env c) core env c = (false,first s core env c):=by
  unfold begin_
  rw [if_pos (.inr (.inl (first_busy s h core env c hn)))]
theorem like_lines {s:gj} (h:PK.sized s = true) {k:KK} (h1:k.tlbs = (new s).tlbs) (h2:k.calls.length = (new s).calls.length) (core:Int):(decide (core ≥ 0) && decide (core < s.fCores)) = (((lines k core).length:Int) == 8):=by
  have e1:is k core = is (new s) core:=by unfold is; rw [h2]
  have e2:buf k core = buf (new s) core:=by unfold buf; rw [h1]
  unfold lines
  rw [e1,e2,new_is s h]
  by_cases hc:0 ≤ core∧core < s.fCores
  · rw [if_pos (decide_eq_true hc),new_buf s core (by rw [new_is s h]; exact decide_eq_true hc)]
    have:(((Tlb.lines tlb0).length:Int) == 8) = true:=by kernel_rfl
    rw [this]
    simp [hc.1,hc.2]
  · rw [if_neg (by simpa using hc)]
    have:((([]:List Line).length:Int) == 8) = false:=rfl
    rw [this]
    simp; omega
theorem like_evict {s:gj} (h:PK.sized s = true) {k:KK} (h1:k.tlbs = (new s).tlbs) (h2:k.calls.length = (new s).calls.length) (core:Int):evict k core 0 0 = (false,k):=by
  have e1:is k core = is (new s) core:=by unfold is; rw [h2]
  have e2:buf k core = buf (new s) core:=by unfold buf; rw [h1]
  unfold evict
  split
  · rfl
  · rename_i hc
    have hc':is (new s) core = true:=by rw [← e1]; simpa using hc
    rw [if_pos]
    rw [e2,new_buf s core hc']
    kernel_rfl
end KK
theorem size_eq (s:gj):eU s = PK.sized s:=by
  cases hs:PK.sized s with
  | true =>
    have:=fL.1 hs
    simp [eU]; omega
  | false =>
    have:¬ (1 ≤ s.fCores∧s.fCores ≤ 8∧1 ≤ s.fEnvs∧s.fEnvs ≤ 4∧1 ≤ s.fFrames∧s.fFrames ≤ 16):=fun h=>by rw [fL.2 h] at hs; cases hs
    simp [eU]; omega
theorem sp_KernForm (s:gj) (core env:Int) (c:iq):Sp Tryz.prog mI [.agg s.C.toArray,.int .i64 core,.int .i64 env,.agg c.C.toArray] aG [etB ET EF] (fun r=>pa_ (r = true) [etB ET EF]):=by
  intro h st
  refine sw _ _ _ _ ?_
  unfold me
  refine bY (i:=0) sp_begun16 rfl st fun r h1 hr s1=>?_
  subst hr
  refine dv rfl ?_
  rw [size_eq]
  cases hs:PK.sized s with
  | false =>
    refine rT (sp_kern_NewNo s hs) s1 fun x h2 hx s2=>?_
    subst hx
    exact df rfl (bh rfl s2)
  | true =>
    refine ma (sp_kern_New s hs) s1 fun x h2 s2=>?_
    refine dv rfl (dv (kern_nn s2) ?_)
    refine bY (i:=0) (sp_kern_Step x _ core (show (0:Int) < 2 ^ 37 by decide)) rfl s2 fun r h3 hr s3=>?_
    rw [KK.new_step] at hr s3
    subst hr
    refine df rfl ?_
    refine bY (i:=0) (sp_kern_Post x (KK.new s) core (show (0:Int) < 2 ^ 37 by decide)) rfl s3 fun r h4 hr s4=>?_
    rw [KK.new_post] at hr s4
    subst hr
    refine df rfl ?_
    refine bY (i:=0) (sp_kern_Now x (KK.new s)) rfl s4 fun r h5 hr s5=>?_
    subst hr
    refine df rfl ?_
    refine bY (i:=0) (qa x (KK.new s) core env c (show (0:Int) < 2 ^ 38 by decide)) rfl s5 fun r h6 hr s6=>?_
    by_cases hn:0 ≤ core∧core < s.fCores∧0 ≤ env∧env < s.fEnvs
    · have hin:((((decide (core ≥ 0)) && (decide (core < s.fCores))) && (decide (env ≥ 0))) && (decide (env < s.fEnvs))) = true:=by simp; omega
      rw [KK.new_begin_yes s hs core env c hn] at hr s6
      subst hr
      refine df (by rw [hin]; rfl) ?_
      refine bY (i:=0) (qa x (KK.first s core env c) core env c (show (1:Int) < 2 ^ 38 by decide)) rfl s6 fun r h7 hr s7=>?_
      rw [KK.first_begin s hs core env c hn] at hr s7
      subst hr
      refine df rfl ?_
      refine bY (i:=0) (jN x (KK.first s core env c) core) rfl s7 fun r h8 hr s8=>?_
      rw [KK.first_busy s hs core env c hn] at hr
      subst hr
      rw [hin]
      refine dv rfl ?_
      have l1:(KK.first s core env c).tlbs = (KK.new s).tlbs:=rfl
      have l2:(KK.first s core env c).calls.length = (KK.new s).calls.length:=by simp [KK.first]
      refine tj (i:=0) (sp_kern_Lines x (KK.first s core env c) core) rfl s8 fun y h9 s9=>?_
      rw [(cn (j:=0) s9 rfl).1]
      refine df (by rw [KK.like_lines hs l1 l2 core]; simp) ?_
      refine bY (i:=1) (sp_kern_Evict x (KK.first s core env c) core 0 0 (show (1:Int) < 2 ^ 37 by decide)) rfl s9 fun r h10 hr s10=>?_
      rw [KK.like_evict hs l1 l2 core] at hr s10
      subst hr
      refine dv rfl ?_
      refine tj (i:=1) (nX x (KK.first s core env c) (show (1:Int) < 2 ^ 38 by decide)) rfl s10 fun z h11 s11=>?_
      refine bY (i:=2) (sp_kern_Now x (KK.first s core env c)) rfl s11 fun r h12 hr s12=>?_
      subst hr
      have hzl:=(cn (j:=0) s12 rfl).1
      refine df (by rw [hzl]; rfl) ?_
      refine dv rfl ?_
      refine dF s12 (j:=0) rfl (by omega) (by show (0:Int) < 1; omega) fun q hq=>?_
      have lk:∀ {σ:Type} {enc:σ→List Value} {K:σ→Hp→Prop} (y:σ) (o:Nat),(∀ i v,(enc y)[i]? = some v→((KK.ev0 core env c 1).C)[o + i]? = some v)→K y h12→ld (q.1,q.2 + Int.toNat (0:Int) * 16 + o) enc K h12:=by
        intro σ enc K y o he k
        exact eB (j:=0) (i:=0) (k:=o) y mt s12 rfl hq (by simp) rfl he k
      refine lk core 0 (fun i v hv=>?_) (df (by simp) ?_)
      · rcases i with _ | i <;> first | exact hv | simp [cI] at hv
      refine lk env 1 (fun i v hv=>?_) (df (by simp) ?_)
      · rcases i with _ | i <;> first | exact hv | simp [cI] at hv
      refine lk c 2 (fun i v hv=>?_) (df (by simp [ao.eqb]) ?_)
      · rcases i with _ | _ | _ | _ | _ | i <;> first | exact hv | simp [ao.C] at hv
      refine lk 1 7 (fun i v hv=>?_) (df rfl ?_)
      · rcases i with _ | i <;> first | exact hv | simp [cI] at hv
      refine lk 0 8 (fun i v hv=>?_) (df rfl ?_)
      · rcases i with _ | i <;> first | exact hv | simp [cI] at hv
      refine lk 0 9 (fun i v hv=>?_) ?_
      · rcases i with _ | i <;> first | exact hv | simp [cI] at hv
      exact bh rfl (cj (l:=[_,_,_]) s12)
    · have hin:((((decide (core ≥ 0)) && (decide (core < s.fCores))) && (decide (env ≥ 0))) && (decide (env < s.fEnvs))) = false:=by simp; omega
      rw [KK.new_begin_no s hs core env c hn] at hr s6
      subst hr
      refine df (by rw [hin]; rfl) ?_
      refine bY (i:=0) (qa x (KK.new s) core env c (show (0:Int) < 2 ^ 38 by decide)) rfl s6 fun r h7 hr s7=>?_
      rw [KK.new_begin_no s hs core env c hn] at hr s7
      subst hr
      refine df rfl ?_
      refine bY (i:=0) (jN x (KK.new s) core) rfl s7 fun r h8 hr s8=>?_
      rw [KK.new_busy] at hr
      subst hr
      rw [hin]
      refine dv rfl ?_
      refine tj (i:=0) (sp_kern_Lines x (KK.new s) core) rfl s8 fun y h9 s9=>?_
      rw [(cn (j:=0) s9 rfl).1]
      refine df (by rw [KK.like_lines hs rfl rfl core]; simp) ?_
      refine bY (i:=1) (sp_kern_Evict x (KK.new s) core 0 0 (show (0:Int) < 2 ^ 37 by decide)) rfl s9 fun r h10 hr s10=>?_
      rw [KK.like_evict hs rfl rfl core] at hr s10
      subst hr
      refine dv rfl ?_
      refine tj (i:=1) (nX x (KK.new s) (show (0:Int) < 2 ^ 38 by decide)) rfl s10 fun z h11 s11=>?_
      refine bY (i:=2) (sp_kern_Now x (KK.new s)) rfl s11 fun r h12 hr s12=>?_
      subst hr
      have hzl:=(cn (j:=0) s12 rfl).1
      refine df (by rw [hzl]; rfl) ?_
      refine df rfl ?_
      exact bh rfl (cj (l:=[_,_,_]) s12)
end Go.Proofs.YtniiiakkdoiaiaaGreatDoor
namespace Go.Proofs.YtniiiakkdoiaiaaGreatDoor
open Go Mb Go.ChangeShapes Go.WideShapes Go.RowKit
theorem Tryz.own:ownKnob Tryz.prog.godebug = none:=by kernel_rfl
theorem Tryz.et:Tryz.prog.globalNamed "errors.errorType" = some 0:=by kernel_rfl
theorem Tryz.rt:(Tryz.prog.cutTypes.find? (·.1 == "internal/reflectlite.rtype")).map (·.2) = some 245:=by kernel_rfl
abbrev laid:List (String × DataW Unit) := [("errors.errorType",Rows.laid_errors_errorType)]
theorem block_of_laid {W:World} (h:laidMetH Tryz.prog laid W):∃ T F,W.heap[0]? = some (.cells #[rtV gm] T F):=by
  have h':laidMet Tryz.prog [] W∧handlesMet Tryz.prog laid W:=h
  obtain ⟨name,u,ty,e1,e2,e3,e4,e5⟩:=h'.2 _ (List.mem_singleton.2 rfl)
  have en:name = [101,114,114,111,114]:=(Option.some.inj e1).symm
  subst en
  obtain rfl:=Option.some.inj (Tryz.rt.symm.trans e2)
  have hm:ty ∈ (List.range 325).filter fun t=>Tryz.prog.rowNamed t [101,114,114,111,114]:=List.mem_filter.2 ⟨List.mem_range.2 (by rw [← g4]; exact e3),e4⟩
  rw [oneErr] at hm
  obtain rfl:=List.mem_singleton.1 hm
  have hh:typeHandle Tryz.prog 171 = .pointer (some ⟨4,171,none⟩):=by kernel_rfl
  rw [hh] at e5
  unfold World.var? at e5
  rw [Tryz.et] at e5
  simp only [Option.bind_some] at e5
  split at e5
  · rename_i cs T F hq
    cases e5
    exact ⟨T,F,hq⟩
  · cases e5
noncomputable def laidWorld (os:Os):World :=
  let w0:=World.holding Tryz.prog os ⟨#[],#[],[]⟩
  { w0 with heap:=w0.heap.modify 0 fun
      | .cells _ t frozen=>.cells #[rtV gm] t frozen
      | o=>o }
theorem laidWorld_met (os:Os) (args:Array Value):laidMetH Tryz.prog laid ((laidWorld os).forCall (fun _ _=>0) ⟨#[],args,[]⟩).memory :=
  laidMetH_of_parts (laidMet_nil _ _) (by kernel_rfl)
theorem keptBut_same {w w':World} {may:MemPlace→Prop} (h1:w'.os = w.os) (h2:w'.output = w.output) (h:∀ i,i < w.heap.size→w'.heap[i]? = w.heap[i]?):w.keptBut w' may:=by
  refine ⟨h1,h2,fun i hi=>?_⟩
  have:=(World.keptBut_refl w may).2.2 i hi
  rw [h i hi]
  exact this
end Go.Proofs.YtniiiakkdoiaiaaGreatDoor
namespace Go.Proofs.YtniiiakkdoiaiaaGreatDoor
open Go Mb Go.ChangeShapes Go.WideShapes Go.RowKit
inductive FK where
  | i (k:IntKind)
  | b
def FK.ok:FK→Value→Prop
  | .i k,v=>∃ n,v = .int k n∧(Lit.int k n).wf = true
  | .b,v=>∃ x,v = .bool x
def tv:List FK→List Value→Prop
  | [],[]=>True
  | k::ks,v::vs=>k.ok v∧tv ks vs
  | _,_=>False
theorem tv.app:∀ {ks ls:List FK} {vs ws:List Value},tv ks vs→tv ls ws→tv (ks++ls) (vs++ws)
  | [],_,[],_,_,h=>h
  | _::_,_,_::_,_,h,g=>⟨h.1,h.2.app g⟩
  | [],_,_::_,_,h,_=>h.elim
  | _::_,_,[],_,h,_=>h.elim
theorem tv.len:∀ {ks:List FK} {vs:List Value},tv ks vs→vs.length = ks.length
  | [],[],_=>rfl
  | _::_,_::_,h=>by simp [h.2.len]
  | [],_::_,h=>h.elim
  | _::_,[],h=>h.elim
def fldK (P:Program) (r:TypeId→Option (List FK)):Nat→List Field→Option (List FK)
  | _,[]=>some []
  | o,f::fs=>if f.offset = o then (r f.type).bind fun ks=>if ks.length = P.cellsOf f.type then (fldK P r (o + ks.length) fs).map (ks++·) else none else none
def flatK (P:Program):Nat→TypeId→Option (List FK)
  | 0,_=>none
  | n + 1,t=>match P.underlying t with
    | some (.int k)=>some [.i k]
    | some .bool=>some [.b]
    | some (.struct fs)=>(fldK P (flatK P n) 0 fs.toList).bind fun ks=>if ks.length = P.cellsOf t then some ks else none
    | some (.array m e)=>(flatK P n e).bind fun ks=>if ks.length = P.cellsOf e∧m * ks.length = P.cellsOf t then some (List.replicate m ks).flatten else none
    | _=>none
section
variable {H:Type} {enc:TypeId × Value→H} {P:Program} {W:World} {base:Nat} {sp:Nat→Bool} {held:Bool}
theorem trod_array {t e m fuel:Nat} {cs:List Value} {x:DataW H × List MemPlace} (ht:P.underlying t = some (.array m e)) (h:DataW.trod enc P W base sp held fuel t cs = some x) :
    ∃ (xs:List (DataW H × List MemPlace)) (n:Nat),fuel = n + 1∧x = (.agg (xs.map (·.1)),xs.flatMap (·.2))∧cs.length = P.cellsOf t∧xs.length = m ∧
      ∀ i,i < m→DataW.trod enc P W base sp held n e ((cs.drop (i * P.cellsOf e)).take (P.cellsOf e)) = xs[i]?:=by
  cases fuel with
  | zero=>simp [DataW.trod] at h
  | succ n =>
    unfold DataW.trod at h
    rw [ht] at h
    split at h <;> simp_all
    obtain ⟨hl,xs,hp,hd⟩:=h
    refine ⟨xs,hd.symm,by simpa using mapM_some_length hp,fun i hi=>mapM_some_get hp i i (by simp [hi])⟩
theorem flatMap_nil {α β:Type} {f:α→List β} {xs:List α} (h:∀ x ∈ xs,f x = []):xs.flatMap f = []:=by
  rw [List.flatMap_eq_nil_iff]; exact h
theorem take_drop_take (cs:List Value) (o n:Nat):(cs.drop o).take n++cs.drop (o + n) = cs.drop o:=by
  rw [← List.drop_drop,List.take_append_drop]
theorem fld_fits {r:TypeId→Option (List FK)} {cs:List Value} {g:TypeId→List Value→Option (DataW H × List MemPlace)} (hr:∀ t ks cs x,r t = some ks→g t cs = some x→tv ks cs∧x.2 = []) :
    ∀ (fs:List Field) (o:Nat) (ks:List FK),fldK P r o fs = some ks→(∀ f ∈ fs,∃ x,g f.type ((cs.drop f.offset).take (P.cellsOf f.type)) = some x)→o + ks.length = cs.length→tv ks (cs.drop o)
  | [],o,ks,h,_,hl=>by
    simp only [fldK,Option.some.injEq] at h
    subst h
    have:cs.drop o = []:=List.drop_eq_nil_of_le (by simp at hl; omega)
    rw [this]; trivial
  | f::fs,o,ks,h,hx,hl=>by
    unfold fldK at h
    split at h
    · rename_i ho
      obtain ⟨ks1,h1,h2⟩:=Option.bind_eq_some_iff.1 h
      split at h2
      · rename_i hc
        obtain ⟨ks2,h3,rfl⟩:=Option.map_eq_some_iff.1 h2
        obtain ⟨x,hx1⟩:=hx f (by simp)
        have f1:=(hr _ _ _ _ h1 hx1).1
        have f2:=fld_fits hr fs (o + ks1.length) ks2 h3 (fun f' hf'=>hx f' (by simp [hf'])) (by simp at hl; omega)
        rw [ho,← hc] at f1
        have:=f1.app f2
        rwa [take_drop_take] at this
      · cases h2
    · cases h
theorem arr_fits {ks:List FK} {c:Nat} (hc:ks.length = c):∀ (m:Nat) (cs:List Value),cs.length = m * c→(∀ i,i < m→tv ks ((cs.drop (i * c)).take c))→tv (List.replicate m ks).flatten cs
  | 0,cs,hl,_=>by
    have:cs = []:=List.eq_nil_of_length_eq_zero (by simpa using hl)
    subst this; trivial
  | m + 1,cs,hl,h=>by
    rw [List.replicate_succ,List.flatten_cons]
    have h0:=h 0 (by omega)
    simp only [Nat.zero_mul,List.drop_zero] at h0
    have h1:=arr_fits hc m (cs.drop c) (by rw [List.length_drop,hl,Nat.succ_mul]; omega) (fun i hi=>by
      have:=h (i + 1) (by omega)
      rwa [List.drop_drop,Nat.add_comm,← Nat.succ_mul])
    have:=h0.app h1
    rwa [List.take_append_drop] at this
theorem trod_flat:∀ (n t:Nat) (ks:List FK),flatK P n t = some ks→∀ (fuel:Nat) (cs:List Value) (x:DataW H × List MemPlace),DataW.trod enc P W base sp held fuel t cs = some x→tv ks cs∧x.2 = []
  | 0,_,_,h,_,_,_,_=>by cases h
  | n + 1,t,ks,h,fuel,cs,x,hx=>by
    have ih:=trod_flat n
    unfold flatK at h
    split at h
    · rename_i k hu
      cases h
      obtain ⟨m,rfl,rfl,hw⟩:=DataW.trod_int hu hx
      exact ⟨⟨⟨m,rfl,hw⟩,trivial⟩,rfl⟩
    · rename_i hu
      cases h
      obtain ⟨b,rfl,rfl⟩:=DataW.trod_bool hu hx
      exact ⟨⟨⟨b,rfl⟩,trivial⟩,rfl⟩
    · rename_i fs hu
      obtain ⟨ks',h1,h2⟩:=Option.bind_eq_some_iff.1 h
      split at h2
      · rename_i hc
        cases h2
        obtain ⟨xs,f,rfl,rfl,hl,hxl,hi⟩:=DataW.trod_struct hu hx
        have hall:∀ fl ∈ fs.toList,∃ x,DataW.trod enc P W base sp held f fl.type ((cs.drop fl.offset).take (P.cellsOf fl.type)) = some x:=by
          intro fl hfl
          obtain ⟨i,hi1,hi2⟩:=List.getElem_of_mem hfl
          have:=hi i fl (by rw [← Array.getElem?_toList,List.getElem?_eq_getElem hi1,hi2])
          have hlt:i < xs.length:=by rw [hxl]; simpa using hi1
          rw [List.getElem?_eq_getElem hlt] at this
          exact ⟨_,this⟩
        refine ⟨?_,flatMap_nil fun y hy=>?_⟩
        · have:=fld_fits (P:=P) (cs:=cs) (fun t ks cs x h=>ih t ks h f cs x) fs.toList 0 ks h1 hall (by rw [hc,hl]; omega)
          simpa using this
        · obtain ⟨i,hi1,rfl⟩:=List.getElem_of_mem hy
          have hif:i < fs.size:=by rw [← hxl]; exact hi1
          have h3:=hi i fs[i] (by simp [hif])
          rw [List.getElem?_eq_getElem hi1] at h3
          have key:∀ (l:List Field) (o:Nat) (ks:List FK),fldK P (flatK P n) o l = some ks→∀ fl ∈ l,∃ ks,flatK P n fl.type = some ks:=by
            intro l
            induction l with
            | nil=>intro _ _ _ fl h; cases h
            | cons a l ihl =>
              intro o ks hk fl hfl
              unfold fldK at hk
              split at hk
              · obtain ⟨k1,hk1,hk2⟩:=Option.bind_eq_some_iff.1 hk
                rcases List.mem_cons.1 hfl with rfl | hfl
                · exact ⟨_,hk1⟩
                · split at hk2
                  · obtain ⟨k2,hk3,_⟩:=Option.map_eq_some_iff.1 hk2
                    exact ihl _ _ hk3 fl hfl
                  · cases hk2
              · cases hk
          obtain ⟨ks2,hks2⟩:=key _ _ _ h1 fs[i] (by simp)
          exact (ih _ _ hks2 _ _ _ h3).2
      · cases h2
    · rename_i m e hu
      obtain ⟨ks',h1,h2⟩:=Option.bind_eq_some_iff.1 h
      split at h2
      · rename_i hc
        cases h2
        obtain ⟨xs,f,rfl,rfl,hl,hxl,hi⟩:=trod_array hu hx
        have hat:∀ i,i < m→∃ x,xs[i]? = some x∧DataW.trod enc P W base sp held f e ((cs.drop (i * P.cellsOf e)).take (P.cellsOf e)) = some x:=fun i him=>by
          have:=hi i him
          rw [List.getElem?_eq_getElem (by omega)] at this
          exact ⟨_,List.getElem?_eq_getElem (by omega),this⟩
        refine ⟨arr_fits (by exact hc.1) m cs (by rw [hl,← hc.2,hc.1]) (fun i him=>?_),flatMap_nil fun y hy=>?_⟩
        · obtain ⟨x,_,hx2⟩:=hat i him
          exact (ih _ _ h1 _ _ _ hx2).1
        · obtain ⟨i,hi1,rfl⟩:=List.getElem_of_mem hy
          obtain ⟨x,hx1,hx2⟩:=hat i (by omega)
          rw [List.getElem?_eq_getElem hi1] at hx1
          cases hx1
          exact (ih _ _ h1 _ _ _ hx2).2
      · cases h2
    · cases h
end
structure Arg {τ:Type} (W:World) (m:Nat) (enc:τ→List Value) (s:Sl) (xs:List τ):Prop where
  len:s.len = xs.length
  cap:s.len ≤ s.cap
  row:s.cap = 0∨∃ b pre rest U fr,s.a = some (b,pre.length)∧s.cap * m ≤ s.len * m + rest.length∧s.g = some (pre,rest,U,fr)∧nf fr pre.length (s.cap * m)∧b ≠ 0∧W.heap[b]? = some (.cells (pre++(xs.flatMap enc++rest)).toArray U fr)
section
variable {H:Type} {enc:TypeId × Value→H} {P:Program} {W:World}
theorem open_struct {b0:Nat} {t:TypeId} {fs:Array Field} {ks:List FK} {v:Value} {d:DataW H} {ps:List MemPlace} (ht:P.underlying t = some (.struct fs)) (hk:flatK P 9 t = some ks) (hval:Value.okWide P W .any b0 t v) (hd:DataW.Trod enc P W 0 (fun _=>true) true t v d ps):∃ cs:List Value,v = .agg cs.toArray∧tv ks cs:=by
  obtain ⟨cs,rfl,_⟩:=okWide_struct ht hval
  obtain ⟨fuel,hf⟩:=hd
  exact ⟨cs.toList,by simp,(trod_flat 9 t ks hk _ _ _ hf).1⟩
theorem open_array {b0:Nat} {t e n:TypeId} {ks:List FK} {v:Value} {d:DataW H} {ps:List MemPlace} (ht:P.underlying t = some (.array n e)) (hk:flatK P 9 t = some ks) (hval:Value.okWide P W .any b0 t v) (hd:DataW.Trod enc P W 0 (fun _=>true) true t v d ps):∃ cs:List Value,v = .agg cs.toArray∧tv ks cs:=by
  have h:∃ cs,v = .agg cs:=by
    unfold Value.okWide at hval
    rw [ht] at hval
    obtain ⟨cs,rfl,_⟩:=hval
    exact ⟨cs,rfl⟩
  obtain ⟨cs,rfl⟩:=h
  obtain ⟨fuel,hf⟩:=hd
  exact ⟨cs.toList,by simp,(trod_flat 9 t ks hk _ _ _ hf).1⟩
theorem trodAll_stays (hl:laidOutB P = true) {W':World} {sp':Nat→Bool}:∀ {ts:List TypeId} {vs:List Value} {ds:List (DataW H)} {ps:List MemPlace},(∀ t ∈ ts,P.readableRec t = true∧t < P.types.size) →
    DataW.TrodAll enc P W 0 (fun _=>true) true ts vs ds ps→(∀ p ∈ ps,W.sameAt W' p)→(∀ p ∈ ps,sp' p.block = true)→DataW.TrodAll enc P W' 0 sp' true ts vs ds ps
  | [],_,_,_,_,h,_,_=>by
    obtain ⟨rfl,rfl,rfl⟩:=trodAll_nil h
    rfl
  | t::ts,_,_,_,hr,h,hs,hp=>by
    obtain ⟨v,vs,d,ds,a,b,rfl,rfl,rfl,h1,h2⟩:=trodAll_cons h
    exact ⟨a,b,Go.WideElems.Trod_stays hl (hr t (by simp)).1 (hr t (by simp)).2 h1 (fun p q=>hs p (by simp [q])) (fun p q=>hp p (by simp [q])),trodAll_stays hl (fun t q=>hr t (by simp [q])) h2 (fun p q=>hs p (by simp [q])) (fun p q=>hp p (by simp [q])),rfl⟩
end
end Go.Proofs.YtniiiakkdoiaiaaGreatDoor
namespace Go.Proofs.YtniiiakkdoiaiaaGreatDoor
open Go Mb Go.ChangeShapes Go.WideShapes Go.RowKit
theorem fit_cons {k:FK} {ks:List FK} {cs:List Value} (h:tv (k::ks) cs):∃ v vs,cs = v::vs∧k.ok v∧tv ks vs:=by
  cases cs with
  | nil=>exact h.elim
  | cons v vs=>exact ⟨v,vs,rfl,h.1,h.2⟩
theorem fit_i {k:IntKind} {ks:List FK} {cs:List Value} (h:tv (.i k::ks) cs):∃ (n:Int) (vs:List Value),cs = .int k n::vs∧(Lit.int k n).wf = true∧tv ks vs:=by
  obtain ⟨v,vs,rfl,⟨n,rfl,hw⟩,hf⟩:=fit_cons h
  exact ⟨n,vs,rfl,hw,hf⟩
theorem fit_nil {cs:List Value} (h:tv [] cs):cs = []:=by
  cases cs with
  | nil=>rfl
  | cons v vs=>exact h.elim
theorem Arg.sub {τ:Type} {P:τ→Prop} {W:World} {m:Nat} {C:τ→List Value} {s:Sl} {xs:List {x:τ // P x}} (A:Arg W m (fun x=>C x.1) s xs):Arg W m C s (xs.map (·.1))∧∀ x ∈ xs.map (·.1),P x:=by
  refine ⟨⟨by simpa using A.len,A.cap,?_⟩,fun x hx=>?_⟩
  · have e:(xs.map (·.1)).flatMap C = xs.flatMap (fun x=>C x.1):=by rw [List.flatMap_map]
    rw [e]; exact A.row
  · obtain ⟨y,_,rfl⟩:=List.mem_map.1 hx
    exact y.2
structure Same (W W':World):Prop where
  os:W'.os = W.os
  out:W'.output = W.output
  heap:∀ i,i < W.heap.size→W'.heap[i]? = W.heap[i]?
theorem Same.cell {W W':World} (s:Same W W') {p:MemPlace} (h:p.block < W.heap.size):W.sameAt W' p:=by
  cases p with
  | cell b off =>
    show W'.cell? _ = W.cell? _
    unfold World.cell?
    rw [s.heap b h]
  | map b=>exact s.heap b h
theorem run_spV {τ:Type} {T m:Nat} {enc:τ→List Value} {s:Sl} {xs:List τ} {f:FuncId} {vs:List Value} {ET:Nat} {EF:Nat × Nat} {W:World} (A:Arg W m enc s xs)
    (c:Sp Tryz.prog f vs aG [etB ET EF,vec T m enc s xs] (fun r=>pa_ (r = true) [etB ET EF,vec T m enc s xs])) (hw:W.heap[0]? = some (.cells #[rtV gm] ET EF)) :
    Calls Tryz.prog f vs.toArray W fun e W'=>e = .returned (.bool true)∧Same W W':=by
  have key:∀ (g:Hp),g 0 = none→(∀ b o,g b = some o→W.heap[b]? = some o)→vec T m enc s xs g→(∀ g',vec T m enc s xs g'→∀ b o,g b = some o→g' b = some o) →
      Calls Tryz.prog f vs.toArray W fun e W'=>e = .returned (.bool true)∧Same W W':=by
    intro g g0 gW gv gk
    have hs:Sub (un (eQ emp 0 (.cells #[rtV gm] ET EF)) g) W:=by
      intro b o ho
      by_cases hb:b = 0
      · subst hb; rw [un_left (jy _ _ _)] at ho; rw [hw]; exact ho
      · rw [un_right (pU _ _ _ hb)] at ho; exact gW b o ho
    have hd:Dj (eQ emp 0 (.cells #[rtV gm] ET EF)) g:=fun b=>by
      by_cases hb:b = 0
      · subst hb; exact .inr g0
      · exact .inl (pU _ _ _ hb)
    have hst:aQ [etB ET EF,vec T m enc s xs] (un (eQ emp 0 (.cells #[rtV gm] ET EF)) g):=⟨_,_,hd,rfl,jy _ _ _,so gv⟩
    refine (c _ hst W hs).mono ?_
    rintro e W' ⟨v,h',rfl,⟨r,rfl,q⟩,s',fr⟩
    obtain ⟨rfl,q⟩:=q
    obtain ⟨g1,a1,sub1⟩:=ee (i:=0) (A:=etB ET EF) rfl q
    obtain ⟨g2,a2,sub2⟩:=ee (i:=1) (A:=vec T m enc s xs) rfl q
    refine ⟨rfl,fr.os,fr.out,fun i hi=>?_⟩
    rcases Nat.eq_zero_or_pos i with rfl | hp
    · rw [s' _ _ (sub1 _ _ a1),hw]
    · cases hg:g i with
      | none=>exact fr.same i hi (tA.2 ⟨pU _ _ _ (by omega),hg⟩)
      | some o=>rw [s' _ _ (sub2 _ _ (gk g2 a2 i o hg)),gW i o hg]
  rcases A.row with h0 | ⟨b,pre,rest,U,fr,h1,h2,h3,h4,h5,h6⟩
  · exact key emp rfl (fun b o h=>by cases h) ⟨A.len,A.cap,.inl h0⟩ (fun _ _ b o h=>by cases h)
  · by_cases h0:s.cap = 0
    · exact key emp rfl (fun b o h=>by cases h) ⟨A.len,A.cap,.inl h0⟩ (fun _ _ b o h=>by cases h)
    · refine key (eQ emp b (.cells (pre++(xs.flatMap enc++rest)).toArray U fr)) (pU _ _ _ (Ne.symm h5)) ?_ ⟨A.len,A.cap,.inr ⟨b,pre,rest,U,fr,h1,h2,?_,jy _ _ _⟩⟩ ?_
      · intro b' o ho
        unfold eQ at ho
        split at ho
        · rename_i hb; subst hb; rw [h6]; exact ho
        · cases ho
      · unfold gh; rw [h3]; exact ⟨rfl,h4⟩
      · rintro g' ⟨_,_,r⟩ b' o ho
        rcases r with r | ⟨c',pre',rest',U',fr',r1,_,r3,r4⟩
        · exact absurd r h0
        · rw [h1] at r1
          unfold gh at r3
          rw [h3] at r3
          obtain ⟨r5,_⟩:=r3
          simp only [Prod.mk.injEq] at r5
          obtain ⟨rfl,rfl,rfl,rfl⟩:=r5
          simp only [Option.some.injEq,Prod.mk.injEq] at r1
          obtain ⟨rfl,_⟩:=r1
          unfold eQ at ho
          split at ho
          · rename_i hb; subst hb; cases ho; exact r4
          · cases ho
theorem run_sp' {f:FuncId} {vs:List Value} {ET:Nat} {EF:Nat × Nat} (c:Sp Tryz.prog f vs aG [etB ET EF] (fun r=>pa_ (r = true) [etB ET EF])) {W:World} (hw:W.heap[0]? = some (.cells #[rtV gm] ET EF)) :
    Calls Tryz.prog f vs.toArray W fun e W'=>e = .returned (.bool true)∧Same W W':=by
  refine run_spV (τ:=Int) (T:=0) (m:=1) (enc:=cI .i64) (s:=⟨none,0,0,none⟩) (xs:=[]) ⟨rfl,Nat.le_refl _,.inl rfl⟩ (fun h st=>?_) hw
  obtain ⟨h1,h2,d,rfl,a,s2⟩:=st
  refine (c h1 (so a)).frame_mono d rfl fun v h' ⟨r,hv,q⟩ dj=>⟨r,hv,?_⟩
  obtain ⟨g1,q⟩:=q
  refine ⟨g1,?_⟩
  exact (eH (l:=[etB ET EF])).2 ⟨h',h2,dj,rfl,q,s2⟩
theorem same_post {H:Type} {enc:TypeId × Value→H} {W W':World} {ts:List TypeId} {vs:List Value} {ds:List (DataW H)} {ps:List MemPlace} {sp:Nat→Bool} (hl:laidOutB Tryz.prog = true) (hr:(ts.all fun t=>Tryz.prog.readableRec t && decide (t < Tryz.prog.types.size)) = true)
    (h:DataW.TrodAll enc Tryz.prog W 0 (fun _=>true) true ts vs ds ps) (hlt:∀ p ∈ ps,p.block < W.heap.size) (s:Same W W') (hs:∀ p ∈ ps,sp p.block = true):DataW.TrodAll enc Tryz.prog W' 0 sp true ts vs ds ps :=
  trodAll_stays hl (fun t ht=>by
    have:=List.all_eq_true.1 hr t ht
    simp only [Bool.and_eq_true,decide_eq_true_eq] at this
    exact this) h (fun p hp=>s.cell (hlt p hp)) hs
theorem want_all {ts:List TypeId} (h:(ts.all fun t=>!(Tryz.prog.wantsStandIn t)) = true) {j:Nat} {t:TypeId} (ht:ts.toArray[j]? = some t):Tryz.prog.wantsStandIn t = false:=by
  have:=List.all_eq_true.1 h t (List.mem_of_getElem? (by simpa using ht))
  simpa using this
end Go.Proofs.YtniiiakkdoiaiaaGreatDoor
namespace Go.Proofs.YtniiiakkdoiaiaaGreatDoor
open Go Mb Go.ChangeShapes Go.WideShapes Go.RowKit
theorem decKernForm35 (cs:List Value) (h:tv [.i .i64,.i .i64,.i .i64] cs):∃ x:{x:aM // tv [.i .i64,.i .i64,.i .i64] (aM.C x)},aM.C x.1 = cs:=by
  have h0:=h
  obtain ⟨a0,r0,rfl,_,h⟩:=fit_i h
  obtain ⟨a1,r1,rfl,_,h⟩:=fit_i h
  obtain ⟨a2,r2,rfl,_,h⟩:=fit_i h
  obtain rfl:=fit_nil h
  exact ⟨⟨⟨a0,a1,a2⟩,h0⟩,rfl⟩
theorem decKernForm27 (cs:List Value) (h:tv [.i .u64,.i .u64,.i .u64,.i .u64,.i .u64] cs):∃ x:{x:ao // tv [.i .u64,.i .u64,.i .u64,.i .u64,.i .u64] (ao.C x)},ao.C x.1 = cs:=by
  have h0:=h
  obtain ⟨a0,r0,rfl,_,h⟩:=fit_i h
  obtain ⟨a1,r1,rfl,_,h⟩:=fit_i h
  obtain ⟨a2,r2,rfl,_,h⟩:=fit_i h
  obtain ⟨a3,r3,rfl,_,h⟩:=fit_i h
  obtain ⟨a4,r4,rfl,_,h⟩:=fit_i h
  obtain rfl:=fit_nil h
  exact ⟨⟨⟨a0,a1,a2,a3,a4⟩,h0⟩,rfl⟩
set_option maxRecDepth 100000 in
theorem lifted_7 (os:Os) (started:os.Started) (H:Type) (enc:TypeId × Value→H) :
    ReturnsInHanded {} Tryz.checked os 7 .any (fun w args=>(Rows.kernFormSpec.pre enc Tryz.prog Tryz.f7 [] false w args∧laidMetH Tryz.prog laid w)∧sizedMet enc Tryz.prog Tryz.f7 (OpenSpec.ofChange Rows.kernFormSpec) false w args)
      (Rows.kernFormSpec.post enc Tryz.prog Tryz.f7 false true false false):=by
  refine returnsInHanded_of_change_and (C:=Tryz.checked) (X:=fun w _=>laidMetH Tryz.prog laid w) (fun _ _ _ hh h=>h.of_heap hh) Tryz.own started (by kernel_rfl) Tryz.func7
    (ChangeSpec.witness_at (enc:=enc) (C:=Tryz.checked) (os:=os) (X:=fun w _=>laidMetH Tryz.prog laid w) false (laidWorld os) #[.agg #[.int .i64 0,.int .i64 0,.int .i64 0],.int .i64 0,.int .i64 0,.agg #[.int .u64 0,.int .u64 0,.int .u64 0,.int .u64 0,.int .u64 0]] 8 rfl (by kernel_rfl) (by kernel_rfl) (by kernel_rfl) (by kernel_rfl) (by kernel_rfl) (laidWorld_met os _)) ?_
  intro W base args ds gs before hval0 hW _ _ hL _
  have hval:∀ (j:Nat) t v,Tryz.f7.params[j]? = some t→args[j]? = some v→Value.okWide Tryz.prog W .any base t v:=hval0
  have hW':=hW
  obtain ⟨p,q,hA0,hV0,rfl,hfz,hnd⟩:=hW
  have hA:DataW.TrodAll enc Tryz.prog W 0 (fun _=>true) true Tryz.f7.params.toList args.toList ds p:=hA0
  have hV:DataW.TrodVars enc Tryz.prog W (fun _=>true) [] gs q:=hV0
  rw [Tryz.params7] at hA hval
  have hst:=hA
  obtain ⟨T,F,hb⟩:=block_of_laid hL
  obtain ⟨rfl,rfl⟩:gs = []∧q = []:=by
    cases gs with
    | nil=>exact ⟨rfl,hV⟩
    | cons g r=>exact absurd hV (by intro h; cases h)
  obtain ⟨v0,w0,d0,e0,p0,q0,hx0,rfl,rfl,h0,hA0⟩:=trodAll_cons hA
  obtain ⟨v1,w1,d1,e1,p1,q1,hx1,rfl,rfl,h1,hA1⟩:=trodAll_cons hA0
  obtain ⟨v2,w2,d2,e2,p2,q2,hx2,rfl,rfl,h2,hA2⟩:=trodAll_cons hA1
  obtain ⟨v3,w3,d3,e3,p3,q3,hx3,rfl,rfl,h3,hA3⟩:=trodAll_cons hA2
  obtain ⟨hy,rfl,rfl⟩:=trodAll_nil hA3
  subst hy
  subst hx3
  subst hx2
  subst hx1
  obtain rfl:args = #[v0,v1,v2,v3]:=by apply Array.ext'; exact hx0
  obtain ⟨c0,rfl,hc0⟩:=open_struct (ks:=[.i .i64,.i .i64,.i .i64]) Tryz.underlying35 (by kernel_rfl) (hval 0 35 v0 rfl rfl) h0
  obtain ⟨⟨z0,hf0⟩,rfl⟩:=decKernForm35 _ hc0
  obtain ⟨n1,rfl,rfl,rfl,hw1⟩:=open_int Tryz.underlying3 (hval 1 3 v1 rfl rfl) h1
  obtain ⟨n2,rfl,rfl,rfl,hw2⟩:=open_int Tryz.underlying3 (hval 2 3 v2 rfl rfl) h2
  obtain ⟨c3,rfl,hc3⟩:=open_array (ks:=[.i .u64,.i .u64,.i .u64,.i .u64,.i .u64]) Tryz.underlying27 (by kernel_rfl) (hval 3 27 v3 rfl rfl) h3
  obtain ⟨⟨z3,hf3⟩,rfl⟩:=decKernForm27 _ hc3
  refine (run_sp' (ET:=T) (EF:=F) (sp_KernForm z0 n1 n2 z3) hb).mono fun e W' ⟨he,hk⟩=>?_
  subst he
  refine ⟨_,rfl,_,_,_,[],(p0++(([]:List MemPlace)++(([]:List MemPlace)++(p3++[])))),[],hW',?_,?_,?_,keptBut_same hk.os hk.out hk.heap,fun h=>by cases h⟩
  · exact trodAll_mk1 (shut_bool Tryz.underlying4 true)
  · exact same_post (by kernel_rfl) (by kernel_rfl) hst (fun p hp=>hW'.lt p (List.mem_append_left _ hp)) hk (fun p hp=>by simpa using hW'.lt p (List.mem_append_left _ hp))
  · rfl
theorem said_7:Rows.KernFormSaid :=
  OpenClaim.holds_of_wide 7 Tryz.f7 rfl rfl rfl rfl rfl rfl rfl ⟨rfl,rfl,rfl,rfl,rfl⟩ rfl rfl rfl rfl rfl (by kernel_rfl) Tryz.func7 (by kernel_rfl)
    (of_decide_eq_true (by kernel_rfl)) (by unfold Func.isWrapper; rw [if_neg (of_decide_eq_false (by kernel_rfl))]; exact ⟨rfl,rfl⟩)
    (fun os started H enc _=>lifted_7 os started H enc)
theorem kernForm_holds:Rows.KernFormCardSaid :=
  Claim7.holds_tied_plain_at .later [] [.handle] true (true, "1c83f4dfbcbfaed934cec40c9d2b35637a96dbc4ce1f31d396f73b9811e9fefe") true
    said_7 (fun _ h=>by cases h) (by kernel_rfl) (fun _ h=>by cases h) kernForm_row_tie rfl ⟨rfl,rfl⟩ (by kernel_rfl) rfl
    (fun f fn hf hfn=>by
      obtain rfl:f = 7:=Option.some.inj ((show Tryz.prog.funcNamed "messuage/messuagelaw16.KernForm" = some 7 by kernel_rfl).symm.trans hf) |>.symm
      obtain rfl:fn = Tryz.f7:=(Option.some.inj (Tryz.func7.symm.trans hfn)).symm
      exact ⟨by kernel_rfl,fun j t ht=>by
        rw [Tryz.params7] at ht
        exact want_all (by kernel_rfl) (j:=j) (t:=t) ht⟩)
    (by kernel_rfl)
end Go.Proofs.YtniiiakkdoiaiaaGreatDoor
