/- The law KernNone returns true for every input, and leaves its arguments as they were. -/
import Derived.Test.YtniiiakkdoiaiaaGreatDoorKernNone17
import Derived.Test.YtniiiakkdoiaiaaGreatDoorCards
import Derived.Test.YtniiiakkdoiaiaaGreatDoorRows
import Derived.Test.YtniiiakkdoiaiaaGreatDoorTie
set_option linter.all false
namespace Go.Proofs.YtniiiakkdoiaiaaGreatDoor
open Go Mb
abbrev vA (s:Sl) (xs:List fV):As:=vec t_api_Answer 2 al.C s xs
theorem ans_len (p:fV):p.C.length = 2:=rfl
theorem ans_one (p:fV):dO p.C = true:=rfl
namespace Twin
def view (env:Int):List cn→List fV
  | []=>[]
  | e::es=>if e.fEnv = env∧e.fEnd > 0 then e.fAnswer::view env es else view env es
def same:List fV→List fV→Bool
  | [],[]=>true
  | a::l,b::r=>al.eqb a b && same l r
  | _,_=>false
theorem view_app (env:Int) (e:cn):∀ es,view env (es++[e]) = view env es++(if e.fEnv = env∧e.fEnd > 0 then [e.fAnswer] else [])
  | []=>by simp only [List.nil_append,view]
  | d::es=>by
    simp only [List.cons_append,view,view_app env e es]
    split <;> simp
theorem view_len (env:Int):∀ es,(view env es).length ≤ es.length
  | []=>Nat.le_refl _
  | e::es=>by unfold view; have:=view_len env es; split <;> simp <;> omega
end Twin
theorem sp_twin_View (s:Sl) (es:List cn) (env:Int) (hb:es.length < 2 ^ 38):Sp Tryz.prog n_twin_View [sv s,.int .i64 env] mM [vE s es] (fun r=>aO [vA r (Twin.view env es),vE s es]):=by
  intro h s0
  have hl:=(cr (j:=0) s0 rfl).1
  refine sim_twin_View _ _ ?_
  unfold sh_twin_View
  refine Lp.intro (fun (z:Sl × Int) h=>∃ n:Nat,z.2 = n∧n ≤ es.length∧aO [vA z.1 (Twin.view env (es.take n)),vE s es] h) (fun (z:Sl × Int) _=>es.length - z.2.toNat) ⟨0,rfl,Nat.zero_le _,eN s0⟩ ?_
  rintro ⟨z,i⟩ h ⟨n,rfl,hn,s1⟩
  unfold wa
  refine bi (fun k=>?_) (fun k=>?_)
  · have hlt:n < es.length:=by rw [hl] at k; simpa using k
    have hw:IntKind.i64.wrap ((n:Int) + 1) = ((n + 1:Nat):Int):=by rw [cj (by omega) (by omega)]; rfl
    have ht:es.take (n + 1) = es.take n++[es[n]]:=by simp
    refine dF s1 (j:=1) rfl (by omega) (by show (n:Int) < _; omega) fun q hq=>?_
    refine eC (j:=1) (i:=n) (k:=0) es[n] nl s1 rfl hq rfl (aN hlt) (by simp) ?_
    rw [hw]
    refine bi (fun k2=>?_) (fun k2=>?_)
    · have k2':es[n].fEnv = env∧es[n].fEnd > 0:=by simpa using k2
      have hvl:=Twin.view_len env (es.take n)
      simp at hvl
      refine ku (τ:=fV) (i:=0) (enc:=al.C) (val:=fun x=>.agg x.C.toArray) el_Sapi_Answer ans_len ans_one (fun _=>rfl) (by omega) rfl rfl s1 rfl (by omega) (by omega) fun v h2 s2=>?_
      refine ⟨⟨n + 1,rfl,hlt,?_⟩,by simp; omega⟩
      rw [ht,Twin.view_app,if_pos k2']
      exact s2
    · have k2':¬ (es[n].fEnv = env∧es[n].fEnd > 0):=by simpa using k2
      refine ⟨⟨n + 1,rfl,hlt,?_⟩,by simp; omega⟩
      rw [ht,Twin.view_app,if_neg k2',List.append_nil]
      exact s1
  · have:n = es.length:=by rw [hl] at k; simp at k; omega
    subst this
    rw [List.take_length] at s1
    exact s1
theorem same_len:∀ (a b:List fV),a.length ≠ b.length→Twin.same a b = false
  | [],[],h=>absurd rfl h
  | [],_::_,_=>rfl
  | _::_,[],_=>rfl
  | a::l,b::r,h=>by unfold Twin.same; rw [same_len l r (by simpa using h)]; simp
theorem sp_twin_Same (s t:Sl) (a b:List fV) (hb:a.length < 2 ^ 60):Sp Tryz.prog n_twin_Same [sv s,sv t] aG [vA s a,vA t b] (fun r=>pa_ (r = Twin.same a b) [vA s a,vA t b]):=by
  intro h s0
  have hs:=(cr (j:=0) s0 rfl).1
  have ht:=(cr (j:=1) s0 rfl).1
  refine sim_twin_Same _ _ ?_
  unfold sh_twin_Same
  unfold cl
  refine kU _ _ ?_
  unfold gm
  refine bi (fun k=>?_) (fun k=>?_)
  · have k':a.length ≠ b.length:=by rw [hs,ht] at k; simp at k; omega
    exact bg (same_len a b k').symm s0
  · have k':a.length = b.length:=by rw [hs,ht] at k; simp at k; omega
    refine Lp.intro (fun (i:Int) h=>∃ n:Nat,i = n∧n ≤ a.length∧Twin.same (a.drop n) (b.drop n) = Twin.same a b∧aO [vA s a,vA t b] h) (fun (i:Int) _=>a.length - i.toNat) ⟨0,rfl,Nat.zero_le _,rfl,s0⟩ ?_
    rintro i h ⟨n,rfl,hn,he,s1⟩
    unfold eq
    refine bi (fun k2=>?_) (fun k2=>?_)
    · have hlt:n < a.length:=by rw [hs] at k2; simpa using k2
      have hlb:n < b.length:=by omega
      have hw:IntKind.i64.wrap ((n:Int) + 1) = ((n + 1:Nat):Int):=by rw [cj (by omega) (by omega)]; rfl
      rw [List.drop_eq_getElem_cons hlt,List.drop_eq_getElem_cons hlb,Twin.same] at he
      refine dF s1 (j:=0) rfl (by omega) (by omega) fun q hq=>?_
      refine dF s1 (j:=1) rfl (by omega) (by omega) fun q2 hq2=>?_
      refine eC (j:=0) (i:=n) (k:=0) a[n] ans_len s1 rfl hq rfl (aN hlt) (by simp) ?_
      refine eC (j:=1) (i:=n) (k:=0) b[n] ans_len s1 rfl hq2 rfl (aN hlb) (by simp) ?_
      refine bi (fun k3=>?_) (fun k3=>?_)
      · have k3':al.eqb a[n] b[n] = false:=by simpa using k3
        rw [k3'] at he
        exact bg he s1
      · have k3':al.eqb a[n] b[n] = true:=by simpa using k3
        rw [k3',Bool.true_and] at he
        rw [hw]
        exact ⟨⟨n + 1,rfl,hlt,he,s1⟩,by simp; omega⟩
    · have:n = a.length:=by rw [hs] at k2; simp at k2; omega
      subst this
      rw [List.drop_length,k',List.drop_length] at he
      exact bg (by rw [← he]; rfl) s1
end Go.Proofs.YtniiiakkdoiaiaaGreatDoor
namespace Go.Proofs.YtniiiakkdoiaiaaGreatDoor
open Go Mb
variable {ET:Nat} {EF:Nat × Nat}
theorem kern_nn {l:List As} {h:Hp} {x:Ptr} {k:KK} (s:aO (dA x k::l) h):x.isNone = false:=nn_of (fun _ e=>by rw [e.1]; rfl) s
namespace B16
abbrev sz:kR:=⟨2,2,3⟩
def r1:=KK.run (KK.new ⟨2,2,3⟩) 0 0 ⟨1,1,0,0,0⟩
def r2:=KK.run r1.2 0 0 ⟨6,4,1,3,0⟩
def r3:=KK.run r2.2 1 0 ⟨21,4,2,9,0⟩
def r4:=KK.run r3.2 0 0 ⟨20,4,2,0,0⟩
def r5:=KK.run r4.2 0 0 ⟨7,4,0,0,0⟩
def es:=r5.2.events
theorem es_len:es.length = 5:=by kernel_rfl
theorem apart:Hist.may es sz = true:=by kernel_rfl
theorem now1:r1.2.now < 1000:=of_decide_eq_true (by kernel_rfl)
theorem now2:r2.2.now < 1000:=of_decide_eq_true (by kernel_rfl)
theorem now3:r3.2.now < 1000:=of_decide_eq_true (by kernel_rfl)
theorem now4:r4.2.now < 1000:=of_decide_eq_true (by kernel_rfl)
theorem now5:r5.2.now < 1000:=of_decide_eq_true (by kernel_rfl)
theorem lin:Judge.linear es sz = (-1,true):=by kernel_rfl
theorem acc:Judge.accesses es sz = (-1,true):=by kernel_rfl
theorem rgt:Judge.right es sz = true:=by kernel_rfl
end B16
theorem ord20 {es:List cn} (s:Sl) (h:es.length ≤ 20):Hist.Apart es→OrdOk s es:=fun ha=>sp_hist_Order20 s es h ha
theorem sp_begun16:Sp Tryz.prog kA [] aG [(etB ET EF)] (fun r=>pa_ (r = true) [(etB ET EF)]):=by
  intro h st
  refine uS ?_
  unfold oe
  refine mb (sp_kern_New ⟨2,2,3⟩ (by decide)) st fun x h1 s1=>?_
  refine dH (kern_nn s1) ?_
  refine ce (i:=0) (sp_Run x _ 0 0 ⟨1,1,0,0,0⟩ (by decide)) rfl s1 fun a1 h2 e1 s2=>?_
  refine ce (i:=0) (sp_Run x B16.r1.2 0 0 ⟨6,4,1,3,0⟩ (by have:=B16.now1; omega)) rfl s2 fun a2 h3 e2 s3=>?_
  refine ce (i:=0) (sp_Run x B16.r2.2 1 0 ⟨21,4,2,9,0⟩ (by have:=B16.now2; omega)) rfl s3 fun a3 h4 e3 s4=>?_
  refine ce (i:=0) (sp_Run x B16.r3.2 0 0 ⟨20,4,2,0,0⟩ (by have:=B16.now3; omega)) rfl s4 fun a4 h5 e4 s5=>?_
  refine ce (i:=0) (sp_Run x B16.r4.2 0 0 ⟨7,4,0,0,0⟩ (by have:=B16.now4; omega)) rfl s5 fun a5 h6 e5 s6=>?_
  refine cl_n (i:=0) (sp_kern_Events x B16.r5.2 (by have:=B16.now5; omega)) rfl s6 fun s h7 s7=>?_
  have hes:B16.es.length < 2 ^ 38:=by rw [B16.es_len]; decide
  have hes20:B16.es.length ≤ 20:=by rw [B16.es_len]; decide
  refine ce (i:=0) (qQ s B16.es B16.sz (by decide) hes (ord20 s hes20)) rfl s7 fun r1 h8 f1 s8=>?_
  refine ce (i:=0) (sp_judge_Access s B16.es B16.sz (by decide) hes (ord20 s hes20)) rfl s8 fun r2 h9 f2 s9=>?_
  refine mb (sp_fair_Rounds 2 3) s9 fun t h10 s10=>?_
  refine ce (i:=3) sp_Begun11 rfl s10 fun r3 h11 f3 s11=>?_
  have hl:((s.len:Int) == 5) = true:=by rw [(cr (j:=1) s11 rfl).1]; kernel_rfl
  have htl:((t.len:Int) == 12) = true:=by rw [(cr (j:=0) s11 rfl).1]; kernel_rfl
  have g1:a1 = B16.r1.1:=e1.1
  have g2:a2 = B16.r2.1:=e2.1
  have g3:a3 = B16.r3.1:=e3.1
  have g4:a4 = B16.r4.1:=e4.1
  have g5:a5 = B16.r5.1:=e5.1
  rw [B16.lin] at f1
  rw [B16.acc] at f2
  rw [f1,f2,f3,g1,g2,g3,g4,g5,hl]
  refine cT (by kernel_rfl) ?_
  refine ce (i:=1) (sp_hist_May s B16.es B16.sz hes) rfl s11 fun r4 h12 f4 s12=>?_
  refine cT (f4.trans B16.apart) ?_
  refine cl_n (i:=1) (sp_hist_Order20 s B16.es hes20 (Hist.may_apart B16.apart)) rfl s12 fun o h13 s13=>?_
  have hol:((o.len:Int) == 5) = true:=by rw [(cr (j:=0) s13 rfl).1]; kernel_rfl
  refine cT (by rw [hol,htl]; rfl) ?_
  refine ce (i:=1) (sp_fair_Fair t _ 2 5 (by decide) (by decide)) rfl s13 fun r5 h14 f5 s14=>?_
  refine cT (f5.trans (by kernel_rfl)) ?_
  refine cl_n (i:=2) (sp_twin_View s B16.es 0 hes) rfl s14 fun v h15 s15=>?_
  have hvl:((v.len:Int) == 5) = true:=by rw [(cr (j:=0) s15 rfl).1]; kernel_rfl
  refine cT hvl ?_
  refine ce (i:=3) (sp_judge_Right s B16.es B16.sz (by decide) hes (ord20 s hes20)) rfl s15 fun r6 h16 f6 s16=>?_
  exact bg (f6.trans B16.rgt) (co (l:=[_,_,_,_,_]) s16)
end Go.Proofs.YtniiiakkdoiaiaaGreatDoor
namespace Go.Proofs.YtniiiakkdoiaiaaGreatDoor
open Go Mb
variable {ET:Nat} {EF:Nat × Nat}
theorem no_is (c:Int):Sp Tryz.prog fw [pv none,.int .i64 c] aG [] (fun r=>pa_ (r = false) []):=by
  intro h st
  refine uV _ _ ?_
  unfold qT
  exact dH rfl (bg rfl st)
theorem no_Busy (c:Int):Sp Tryz.prog eA [pv none,.int .i64 c] aG [] (fun r=>pa_ (r = false) []):=by
  intro h st
  refine sG _ _ ?_
  unfold ou
  refine iU (no_is c) st fun r h1 hr s1=>?_
  subst hr
  exact dH rfl (bg rfl s1)
theorem no_Cap (e s:Int):Sp Tryz.prog qZ [pv none,.int .i64 e,.int .i64 s] cy [] (fun r=>pa_ (r.2 = false) []):=by
  intro h st
  refine sim_kern_Kern_Cap _ _ _ ?_
  unfold vi
  exact cT rfl (bg rfl st)
theorem no_Pte (e s:Int):Sp Tryz.prog qX [pv none,.int .i64 e,.int .i64 s] cm [] (fun r=>pa_ (r.2 = false) []):=by
  intro h st
  refine sim_kern_Kern_Pte _ _ _ ?_
  unfold vg
  exact cT rfl (bg rfl st)
theorem no_Begin (a b:Int) (c:jg):Sp Tryz.prog iL [pv none,.int .i64 a,.int .i64 b,.agg c.C.toArray] aG [] (fun r=>pa_ (r = false) []):=by
  intro h st
  refine rl _ _ _ _ ?_
  unfold mW
  refine iU (no_is a) st fun r h1 hr s1=>?_
  subst hr
  exact dH rfl (bg rfl s1)
theorem no_Step (a:Int):Sp Tryz.prog jv [pv none,.int .i64 a] aG [] (fun r=>pa_ (r = false) []):=by
  intro h st
  refine sD _ _ ?_
  unfold ol
  refine iU (no_Busy a) st fun r h1 hr s1=>?_
  subst hr
  exact cT rfl (bg rfl s1)
theorem no_Post (a:Int):Sp Tryz.prog jw [pv none,.int .i64 a] aG [] (fun r=>pa_ (r = false) []):=by
  intro h st
  refine sE _ _ ?_
  unfold oo
  refine iU (no_is a) st fun r h1 hr s1=>?_
  subst hr
  exact cT rfl (bg rfl s1)
theorem no_Evict (a b c:Int):Sp Tryz.prog oH [pv none,.int .i64 a,.int .i64 b,.int .i64 c] aG [] (fun r=>pa_ (r = false) []):=by
  intro h st
  refine sim_kern_Kern_Evict _ _ _ _ ?_
  unfold sO
  refine iU (no_is a) st fun r h1 hr s1=>?_
  subst hr
  exact dH rfl (bg rfl s1)
theorem no_Mail (a:Int):Sp Tryz.prog jx [pv none,.int .i64 a] dQ [] (fun r=>pa_ (r = 0) []):=by
  intro h st
  refine sF _ _ ?_
  unfold oq
  refine iU (no_is a) st fun r h1 hr s1=>?_
  subst hr
  exact cT rfl (bg rfl s1)
theorem no_Events:Sp Tryz.prog eU [pv none] dV [] (fun r=>pa_ (r = ⟨none,0,0,none⟩) []):=by
  intro h st
  refine qw _ ?_
  unfold mm
  exact cT rfl (bg rfl st)
theorem no_Lines (a:Int):Sp Tryz.prog oF [pv none,.int .i64 a] iW [] (fun r=>pa_ (r = ⟨none,0,0,none⟩) []):=by
  intro h st
  refine sim_kern_Kern_Lines _ _ ?_
  unfold sM
  refine iU (no_is a) st fun r h1 hr s1=>?_
  subst hr
  exact cT rfl (bg rfl s1)
theorem no_Frame (a:Int):Sp Tryz.prog oG [pv none,.int .i64 a] cd [] (fun r=>pa_ (r = ⟨none,0,0,none⟩) []):=by
  intro h st
  refine sim_kern_Kern_Frame _ _ ?_
  unfold sN
  exact cT rfl (bg rfl st)
theorem no_Free:Sp Tryz.prog pR [pv none] cz [] (fun r=>pa_ (r = ⟨none,0,0,none⟩) []):=by
  intro h st
  refine sim_kern_Kern_Free _ ?_
  unfold ub
  exact cT rfl (bg rfl st)
theorem no_Now:Sp Tryz.prog qY [pv none] dQ [] (fun r=>pa_ (r = 0) []):=by
  intro h st
  refine sim_kern_Kern_Now _ ?_
  unfold vh
  exact cT rfl (bg rfl st)
theorem sp_KernNone:Sp Tryz.prog mI [] aG [etB ET EF] (fun r=>pa_ (r = true) [etB ET EF]):=by
  intro h st
  refine sC ?_
  unfold mf
  refine iU (no_Cap 0 0) st fun r1 h1 e1 s1=>?_
  refine iU (no_Pte 0 0) s1 fun r2 h2 e2 s2=>?_
  have s2':aO [vE ⟨none,0,0,none⟩ [],etB ET EF] h2:=eN s2
  refine ce (i:=0) (qQ ⟨none,0,0,none⟩ [] ⟨1,1,1⟩ (by decide) (by decide) (ord20 _ (by decide))) rfl s2' fun r3 h3 e3 s3=>?_
  have j0:Judge.linear [] ⟨1,1,1⟩ = (-1,true):=by kernel_rfl
  rw [j0] at e3
  subst e3
  refine ce (i:=1) sp_begun16 rfl s3 fun r4 h4 e4 s4=>?_
  refine cT e4 ?_
  refine iU (no_Begin 0 0 ⟨0,0,0,0,0⟩) s4 fun r5 h5 e5 s5=>?_
  refine cT (by rw [e5]; rfl) ?_
  refine iU (no_Step 0) s5 fun r6 h6 e6 s6=>?_
  refine cT (by rw [e6]; rfl) ?_
  refine iU (no_Post 0) s6 fun r7 h7 e7 s7=>?_
  refine cT (by rw [e7]; rfl) ?_
  refine iU (no_Evict 0 0 0) s7 fun r8 h8 e8 s8=>?_
  refine cT (by rw [e8]; rfl) ?_
  refine iU (no_Busy 0) s8 fun r9 h9 e9 s9=>?_
  refine cT (by rw [e9]; rfl) ?_
  refine iU (no_Mail 0) s9 fun r10 h10 e10 s10=>?_
  refine cT (by rw [e10]; rfl) ?_
  refine iU no_Events s10 fun r11 h11 e11 s11=>?_
  refine cT (by rw [e11]; rfl) ?_
  refine iU (no_Lines 0) s11 fun r12 h12 e12 s12=>?_
  refine cT (by rw [e12,e1,e2]; rfl) ?_
  refine iU (no_Frame 0) s12 fun r13 h13 e13 s13=>?_
  refine cT (by rw [e13]; rfl) ?_
  refine iU no_Free s13 fun r14 h14 e14 s14=>?_
  refine cT (by rw [e14]; rfl) ?_
  refine iU no_Now s14 fun r15 h15 e15 s15=>?_
  refine cT (by rw [e15]; rfl) ?_
  refine iU (sp_kern_NewNo ⟨0,0,0⟩ (by decide)) s15 fun r16 h16 e16 s16=>?_
  refine cT (by rw [e16]; rfl) ?_
  refine ce (i:=0) (sp_hist_May ⟨none,0,0,none⟩ [] ⟨0,0,0⟩ (by decide)) rfl s16 fun r17 h17 e17 s17=>?_
  refine cT (e17.trans (by kernel_rfl)) ?_
  have s17':aO [vA ⟨none,0,0,none⟩ [],vA ⟨none,0,0,none⟩ [],vE ⟨none,0,0,none⟩ [],etB ET EF] h17:=eN (eN s17)
  refine cR [] (rest:=[_,_]) (sp_twin_Same ⟨none,0,0,none⟩ ⟨none,0,0,none⟩ [] [] (by decide)) s17' rfl fun r18 h18 x18=>?_
  obtain ⟨e18,s18⟩:=bD.1 x18
  refine cT (by rw [e18]; rfl) ?_
  refine mb (sp_fair_Rounds 0 1) s18 fun r19 h19 s19=>?_
  have hl:r19.len = 0:=(cr (j:=0) s19 rfl).1
  exact bg (by rw [hl]; rfl) (co (l:=[_,_,_,_]) s19)
end Go.Proofs.YtniiiakkdoiaiaaGreatDoor
namespace Go.Proofs.YtniiiakkdoiaiaaGreatDoor
open Go Mb Go.ChangeShapes Go.WideShapes Go.RowKit
theorem Tryz.own:ownKnob Tryz.prog.godebug = none:=by kernel_rfl
theorem Tryz.et:Tryz.prog.globalNamed "errors.errorType" = some 0:=by kernel_rfl
theorem Tryz.rt:(Tryz.prog.cutTypes.find? (·.1 == "internal/reflectlite.rtype")).map (·.2) = some 245:=by kernel_rfl
abbrev laid:List (String × DataW Unit) := [("errors.errorType",Rows.laid_errors_errorType)]
theorem block_of_laid {W:World} (h:laidMetH Tryz.prog laid W):∃ T F,W.heap[0]? = some (.cells #[rtV gl] T F):=by
  have h':laidMet Tryz.prog [] W∧handlesMet Tryz.prog laid W:=h
  obtain ⟨name,u,ty,e1,e2,e3,e4,e5⟩:=h'.2 _ (List.mem_singleton.2 rfl)
  have en:name = [101,114,114,111,114]:=(Option.some.inj e1).symm
  subst en
  obtain rfl:=Option.some.inj (Tryz.rt.symm.trans e2)
  have hm:ty ∈ (List.range 325).filter fun t=>Tryz.prog.rowNamed t [101,114,114,111,114]:=List.mem_filter.2 ⟨List.mem_range.2 (by rw [← g4]; exact e3),e4⟩
  rw [oneErr] at hm
  obtain rfl:=List.mem_singleton.1 hm
  have hh:typeHandle Tryz.prog 171 = .pointer (some ⟨4,171,none⟩):=by kernel_rfl
  rw [hh] at e5
  unfold World.var? at e5
  rw [Tryz.et] at e5
  simp only [Option.bind_some] at e5
  split at e5
  · rename_i cs T F hq
    cases e5
    exact ⟨T,F,hq⟩
  · cases e5
noncomputable def laidWorld (os:Os):World :=
  let w0:=World.holding Tryz.prog os ⟨#[],#[],[]⟩
  { w0 with heap:=w0.heap.modify 0 fun
      | .cells _ t frozen=>.cells #[rtV gl] t frozen
      | o=>o }
theorem laidWorld_met (os:Os) (args:Array Value):laidMetH Tryz.prog laid ((laidWorld os).forCall (fun _ _=>0) ⟨#[],args,[]⟩).memory :=
  laidMetH_of_parts (laidMet_nil _ _) (by kernel_rfl)
theorem keptBut_same {w w':World} {may:MemPlace→Prop} (h1:w'.os = w.os) (h2:w'.output = w.output) (h:∀ i,i < w.heap.size→w'.heap[i]? = w.heap[i]?):w.keptBut w' may:=by
  refine ⟨h1,h2,fun i hi=>?_⟩
  have:=(World.keptBut_refl w may).2.2 i hi
  rw [h i hi]
  exact this
end Go.Proofs.YtniiiakkdoiaiaaGreatDoor
namespace Go.Proofs.YtniiiakkdoiaiaaGreatDoor
open Go Mb Go.ChangeShapes Go.WideShapes Go.RowKit
inductive FK where
  | i (k:IntKind)
  | b
def FK.ok:FK→Value→Prop
  | .i k,v=>∃ n,v = .int k n∧(Lit.int k n).wf = true
  | .b,v=>∃ x,v = .bool x
def Fits:List FK→List Value→Prop
  | [],[]=>True
  | k::ks,v::vs=>k.ok v∧Fits ks vs
  | _,_=>False
theorem Fits.len:∀ {ks:List FK} {vs:List Value},Fits ks vs→vs.length = ks.length
  | [],[],_=>rfl
  | _::_,_::_,h=>by simp [h.2.len]
  | [],_::_,h=>h.elim
  | _::_,[],h=>h.elim
section
variable {H:Type} {enc:TypeId × Value→H} {P:Program} {W:World} {base:Nat} {sp:Nat→Bool} {held:Bool}
end
structure Arg {τ:Type} (W:World) (m:Nat) (enc:τ→List Value) (s:Sl) (xs:List τ):Prop where
  len:s.len = xs.length
  cap:s.len ≤ s.cap
  row:s.cap = 0∨∃ b pre rest U fr,s.a = some (b,pre.length)∧s.cap * m ≤ s.len * m + rest.length∧s.g = some (pre,rest,U,fr)∧nf fr pre.length (s.cap * m)∧b ≠ 0∧W.heap[b]? = some (.cells (pre++(xs.flatMap enc++rest)).toArray U fr)
section
variable {H:Type} {enc:TypeId × Value→H} {P:Program} {W:World}
theorem trodAll_stays (hl:laidOutB P = true) {W':World} {sp':Nat→Bool}:∀ {ts:List TypeId} {vs:List Value} {ds:List (DataW H)} {ps:List MemPlace},(∀ t ∈ ts,P.readableRec t = true∧t < P.types.size) →
    DataW.TrodAll enc P W 0 (fun _=>true) true ts vs ds ps→(∀ p ∈ ps,W.sameAt W' p)→(∀ p ∈ ps,sp' p.block = true)→DataW.TrodAll enc P W' 0 sp' true ts vs ds ps
  | [],_,_,_,_,h,_,_=>by
    obtain ⟨rfl,rfl,rfl⟩:=trodAll_nil h
    rfl
  | t::ts,_,_,_,hr,h,hs,hp=>by
    obtain ⟨v,vs,d,ds,a,b,rfl,rfl,rfl,h1,h2⟩:=trodAll_cons h
    exact ⟨a,b,Go.WideElems.Trod_stays hl (hr t (by simp)).1 (hr t (by simp)).2 h1 (fun p q=>hs p (by simp [q])) (fun p q=>hp p (by simp [q])),trodAll_stays hl (fun t q=>hr t (by simp [q])) h2 (fun p q=>hs p (by simp [q])) (fun p q=>hp p (by simp [q])),rfl⟩
end
end Go.Proofs.YtniiiakkdoiaiaaGreatDoor
namespace Go.Proofs.YtniiiakkdoiaiaaGreatDoor
open Go Mb Go.ChangeShapes Go.WideShapes Go.RowKit
theorem Arg.sub {τ:Type} {P:τ→Prop} {W:World} {m:Nat} {C:τ→List Value} {s:Sl} {xs:List {x:τ // P x}} (A:Arg W m (fun x=>C x.1) s xs):Arg W m C s (xs.map (·.1))∧∀ x ∈ xs.map (·.1),P x:=by
  refine ⟨⟨by simpa using A.len,A.cap,?_⟩,fun x hx=>?_⟩
  · have e:(xs.map (·.1)).flatMap C = xs.flatMap (fun x=>C x.1):=by rw [List.flatMap_map]
    rw [e]; exact A.row
  · obtain ⟨y,_,rfl⟩:=List.mem_map.1 hx
    exact y.2
structure Same (W W':World):Prop where
  os:W'.os = W.os
  out:W'.output = W.output
  heap:∀ i,i < W.heap.size→W'.heap[i]? = W.heap[i]?
theorem Same.cell {W W':World} (s:Same W W') {p:MemPlace} (h:p.block < W.heap.size):W.sameAt W' p:=by
  cases p with
  | cell b off =>
    show W'.cell? _ = W.cell? _
    unfold World.cell?
    rw [s.heap b h]
  | map b=>exact s.heap b h
theorem run_spV {τ:Type} {T m:Nat} {enc:τ→List Value} {s:Sl} {xs:List τ} {f:FuncId} {vs:List Value} {ET:Nat} {EF:Nat × Nat} {W:World} (A:Arg W m enc s xs)
    (c:Sp Tryz.prog f vs aG [etB ET EF,vec T m enc s xs] (fun r=>pa_ (r = true) [etB ET EF,vec T m enc s xs])) (hw:W.heap[0]? = some (.cells #[rtV gl] ET EF)) :
    Calls Tryz.prog f vs.toArray W fun e W'=>e = .returned (.bool true)∧Same W W':=by
  have key:∀ (g:Hp),g 0 = none→(∀ b o,g b = some o→W.heap[b]? = some o)→vec T m enc s xs g→(∀ g',vec T m enc s xs g'→∀ b o,g b = some o→g' b = some o) →
      Calls Tryz.prog f vs.toArray W fun e W'=>e = .returned (.bool true)∧Same W W':=by
    intro g g0 gW gv gk
    have hs:Sub (un (eQ emp 0 (.cells #[rtV gl] ET EF)) g) W:=by
      intro b o ho
      by_cases hb:b = 0
      · subst hb; rw [un_left (jB _ _ _)] at ho; rw [hw]; exact ho
      · rw [un_right (pU _ _ _ hb)] at ho; exact gW b o ho
    have hd:Dj (eQ emp 0 (.cells #[rtV gl] ET EF)) g:=fun b=>by
      by_cases hb:b = 0
      · subst hb; exact .inr g0
      · exact .inl (pU _ _ _ hb)
    have hst:aO [etB ET EF,vec T m enc s xs] (un (eQ emp 0 (.cells #[rtV gl] ET EF)) g):=⟨_,_,hd,rfl,jB _ _ _,sx gv⟩
    refine (c _ hst W hs).mono ?_
    rintro e W' ⟨v,h',rfl,⟨r,rfl,q⟩,s',fr⟩
    obtain ⟨rfl,q⟩:=q
    obtain ⟨g1,a1,sub1⟩:=dZ (i:=0) (A:=etB ET EF) rfl q
    obtain ⟨g2,a2,sub2⟩:=dZ (i:=1) (A:=vec T m enc s xs) rfl q
    refine ⟨rfl,fr.os,fr.out,fun i hi=>?_⟩
    rcases Nat.eq_zero_or_pos i with rfl | hp
    · rw [s' _ _ (sub1 _ _ a1),hw]
    · cases hg:g i with
      | none=>exact fr.same i hi (tK.2 ⟨pU _ _ _ (by omega),hg⟩)
      | some o=>rw [s' _ _ (sub2 _ _ (gk g2 a2 i o hg)),gW i o hg]
  rcases A.row with h0 | ⟨b,pre,rest,U,fr,h1,h2,h3,h4,h5,h6⟩
  · exact key emp rfl (fun b o h=>by cases h) ⟨A.len,A.cap,.inl h0⟩ (fun _ _ b o h=>by cases h)
  · by_cases h0:s.cap = 0
    · exact key emp rfl (fun b o h=>by cases h) ⟨A.len,A.cap,.inl h0⟩ (fun _ _ b o h=>by cases h)
    · refine key (eQ emp b (.cells (pre++(xs.flatMap enc++rest)).toArray U fr)) (pU _ _ _ (Ne.symm h5)) ?_ ⟨A.len,A.cap,.inr ⟨b,pre,rest,U,fr,h1,h2,?_,jB _ _ _⟩⟩ ?_
      · intro b' o ho
        unfold eQ at ho
        split at ho
        · rename_i hb; subst hb; rw [h6]; exact ho
        · cases ho
      · unfold gh; rw [h3]; exact ⟨rfl,h4⟩
      · rintro g' ⟨_,_,r⟩ b' o ho
        rcases r with r | ⟨c',pre',rest',U',fr',r1,_,r3,r4⟩
        · exact absurd r h0
        · rw [h1] at r1
          unfold gh at r3
          rw [h3] at r3
          obtain ⟨r5,_⟩:=r3
          simp only [Prod.mk.injEq] at r5
          obtain ⟨rfl,rfl,rfl,rfl⟩:=r5
          simp only [Option.some.injEq,Prod.mk.injEq] at r1
          obtain ⟨rfl,_⟩:=r1
          unfold eQ at ho
          split at ho
          · rename_i hb; subst hb; cases ho; exact r4
          · cases ho
theorem run_sp' {f:FuncId} {vs:List Value} {ET:Nat} {EF:Nat × Nat} (c:Sp Tryz.prog f vs aG [etB ET EF] (fun r=>pa_ (r = true) [etB ET EF])) {W:World} (hw:W.heap[0]? = some (.cells #[rtV gl] ET EF)) :
    Calls Tryz.prog f vs.toArray W fun e W'=>e = .returned (.bool true)∧Same W W':=by
  refine run_spV (τ:=Int) (T:=0) (m:=1) (enc:=cI .i64) (s:=⟨none,0,0,none⟩) (xs:=[]) ⟨rfl,Nat.le_refl _,.inl rfl⟩ (fun h st=>?_) hw
  obtain ⟨h1,h2,d,rfl,a,s2⟩:=st
  refine (c h1 (sx a)).frame_mono d rfl fun v h' ⟨r,hv,q⟩ dj=>⟨r,hv,?_⟩
  obtain ⟨g1,q⟩:=q
  refine ⟨g1,?_⟩
  exact (eH (l:=[etB ET EF])).2 ⟨h',h2,dj,rfl,q,s2⟩
theorem same_post {H:Type} {enc:TypeId × Value→H} {W W':World} {ts:List TypeId} {vs:List Value} {ds:List (DataW H)} {ps:List MemPlace} {sp:Nat→Bool} (hl:laidOutB Tryz.prog = true) (hr:(ts.all fun t=>Tryz.prog.readableRec t && decide (t < Tryz.prog.types.size)) = true)
    (h:DataW.TrodAll enc Tryz.prog W 0 (fun _=>true) true ts vs ds ps) (hlt:∀ p ∈ ps,p.block < W.heap.size) (s:Same W W') (hs:∀ p ∈ ps,sp p.block = true):DataW.TrodAll enc Tryz.prog W' 0 sp true ts vs ds ps :=
  trodAll_stays hl (fun t ht=>by
    have:=List.all_eq_true.1 hr t ht
    simp only [Bool.and_eq_true,decide_eq_true_eq] at this
    exact this) h (fun p hp=>s.cell (hlt p hp)) hs
theorem want_all {ts:List TypeId} (h:(ts.all fun t=>!(Tryz.prog.wantsStandIn t)) = true) {j:Nat} {t:TypeId} (ht:ts.toArray[j]? = some t):Tryz.prog.wantsStandIn t = false:=by
  have:=List.all_eq_true.1 h t (List.mem_of_getElem? (by simpa using ht))
  simpa using this
end Go.Proofs.YtniiiakkdoiaiaaGreatDoor
namespace Go.Proofs.YtniiiakkdoiaiaaGreatDoor
open Go Mb Go.ChangeShapes Go.WideShapes Go.RowKit
set_option maxRecDepth 100000 in
theorem lifted_9 (os:Os) (started:os.Started) (H:Type) (enc:TypeId × Value→H) :
    ReturnsInHanded {} Tryz.checked os 9 .any (fun w args=>(Rows.kernNoneSpec.pre enc Tryz.prog Tryz.f9 [] false w args∧laidMetH Tryz.prog laid w)∧sizedMet enc Tryz.prog Tryz.f9 (OpenSpec.ofChange Rows.kernNoneSpec) false w args)
      (Rows.kernNoneSpec.post enc Tryz.prog Tryz.f9 false true false false):=by
  refine returnsInHanded_of_change_and (C:=Tryz.checked) (X:=fun w _=>laidMetH Tryz.prog laid w) (fun _ _ _ hh h=>h.of_heap hh) Tryz.own started (by kernel_rfl) Tryz.func9
    (ChangeSpec.witness_at (enc:=enc) (C:=Tryz.checked) (os:=os) (X:=fun w _=>laidMetH Tryz.prog laid w) false (laidWorld os) #[] 8 rfl (by kernel_rfl) (by kernel_rfl) (by kernel_rfl) (by kernel_rfl) (by kernel_rfl) (laidWorld_met os _)) ?_
  intro W base args ds gs before hval0 hW _ _ hL _
  have hval:∀ (j:Nat) t v,Tryz.f9.params[j]? = some t→args[j]? = some v→Value.okWide Tryz.prog W .any base t v:=hval0
  have hW':=hW
  obtain ⟨p,q,hA0,hV0,rfl,hfz,hnd⟩:=hW
  have hA:DataW.TrodAll enc Tryz.prog W 0 (fun _=>true) true Tryz.f9.params.toList args.toList ds p:=hA0
  have hV:DataW.TrodVars enc Tryz.prog W (fun _=>true) [] gs q:=hV0
  rw [Tryz.params9] at hA hval
  have hst:=hA
  obtain ⟨T,F,hb⟩:=block_of_laid hL
  obtain ⟨rfl,rfl⟩:gs = []∧q = []:=by
    cases gs with
    | nil=>exact ⟨rfl,hV⟩
    | cons g r=>exact absurd hV (by intro h; cases h)
  obtain ⟨hy,rfl,rfl⟩:=trodAll_nil hA
  obtain rfl:args = #[]:=by apply Array.ext'; exact hy
  refine (run_sp' (ET:=T) (EF:=F) (sp_KernNone) hb).mono fun e W' ⟨he,hk⟩=>?_
  subst he
  refine ⟨_,rfl,_,_,_,[],[],[],hW',?_,?_,?_,keptBut_same hk.os hk.out hk.heap,fun h=>by cases h⟩
  · exact trodAll_mk1 (shut_bool Tryz.underlying4 true)
  · exact same_post (by kernel_rfl) (by kernel_rfl) hst (fun p hp=>hW'.lt p (List.mem_append_left _ hp)) hk (fun p hp=>by simpa using hW'.lt p (List.mem_append_left _ hp))
  · rfl
theorem said_9:Rows.KernNoneSaid :=
  OpenClaim.holds_of_wide 9 Tryz.f9 rfl rfl rfl rfl rfl rfl rfl ⟨rfl,rfl,rfl,rfl,rfl⟩ rfl rfl rfl rfl rfl (by kernel_rfl) Tryz.func9 (by kernel_rfl)
    (of_decide_eq_true (by kernel_rfl)) (by unfold Func.isWrapper; rw [if_neg (of_decide_eq_false (by kernel_rfl))]; exact ⟨rfl,rfl⟩)
    (fun os started H enc _=>lifted_9 os started H enc)
theorem kernNone_holds:Rows.KernNoneCardSaid :=
  Claim7.holds_tied_plain_at .later [] [.handle] true (true, "1c83f4dfbcbfaed934cec40c9d2b35637a96dbc4ce1f31d396f73b9811e9fefe") true
    said_9 (fun _ h=>by cases h) (by kernel_rfl) (fun _ h=>by cases h) kernNone_row_tie rfl ⟨rfl,rfl⟩ (by kernel_rfl) rfl
    (fun f fn hf hfn=>by
      obtain rfl:f = 9:=Option.some.inj ((show Tryz.prog.funcNamed "messuage/messuagelaw16.KernNone" = some 9 by kernel_rfl).symm.trans hf) |>.symm
      obtain rfl:fn = Tryz.f9:=(Option.some.inj (Tryz.func9.symm.trans hfn)).symm
      exact ⟨by kernel_rfl,fun j t ht=>by
        rw [Tryz.params9] at ht
        exact want_all (by kernel_rfl) (j:=j) (t:=t) ht⟩)
    (by kernel_rfl)
end Go.Proofs.YtniiiakkdoiaiaaGreatDoor
