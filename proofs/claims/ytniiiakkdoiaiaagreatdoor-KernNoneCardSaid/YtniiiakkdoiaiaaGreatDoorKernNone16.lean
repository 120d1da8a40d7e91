/- Part of the proof of: The law KernNone returns true for every input, and leaves its arguments as they were. -/
import Derived.Test.YtniiiakkdoiaiaaGreatDoorKernNone15
set_option linter.all false
namespace Go.Proofs.YtniiiakkdoiaiaaGreatDoor
open Go Mb
def CmpOk (v:Value) (A:List As) (key:Int→Int) (S:Int→Prop):Prop :=
  ∀ x y,S x→S y→SpV Tryz.prog v [.int .i64 x,.int .i64 y] dQ A (fun r=>pa_ (r < 0↔key x < key y) A)
abbrev Up (key:Int→Int) (l:List Int):Prop:=l.Pairwise fun x y=>key x ≤ key y
theorem mid_get {L R:List Int} {x:Int}:(L++x::R)[L.length]? = some x:=by simp
theorem mid_get1 {L R:List Int} {x y:Int}:(L++x::y::R)[L.length + 1]? = some y:=by
  rw [List.getElem?_append_right (by omega),show L.length + 1 - L.length = 1 from by omega]; rfl
theorem mid_set {L R:List Int} {x v:Int}:(L++x::R).set L.length v = L++v::R:=by simp
theorem mid_set1 {L R:List Int} {x y v:Int}:(L++x::y::R).set (L.length + 1) v = L++x::v::R:=by
  rw [List.set_append_right _ _ (by omega),show L.length + 1 - L.length = 1 from by omega]; rfl
theorem up_insert {key:Int→Int} {a1 a2:List Int} {y:Int} (h:Up key (a1++a2)) (h1:∀ x ∈ a1,key x ≤ key y) (h2:∀ x ∈ a2,key y < key x):Up key (a1++y::a2):=by
  obtain ⟨p1,p2,p3⟩:=List.pairwise_append.1 h
  refine List.pairwise_append.2 ⟨p1,List.pairwise_cons.2 ⟨fun x hx=>Int.le_of_lt (h2 x hx),p2⟩,fun x hx z hz=>?_⟩
  rcases List.mem_cons.1 hz with rfl | hz
  · exact h1 x hx
  · exact p3 x hx z hz
theorem sp_insertion (s:Sl) (v:Value) (A:List As) (key:Int→Int) (S:Int→Prop) (hv:CmpOk v A key S) (p m q:List Int) (hS:∀ x ∈ m,S x) (hb:p.length + m.length + q.length < 2 ^ 60) :
    Sp Tryz.prog ch [sv s,.int .i64 p.length,.int .i64 (p.length + m.length:Nat),v] R_ (vI s (p++(m++q))::A) (fun _ h=>∃ m',(m'.Perm m∧Up key m')∧aO (vI s (p++(m'++q))::A) h):=by
  intro h s0
  have hl:=(cr (j:=0) s0 rfl).1
  refine mF _ _ _ _ ?_
  unfold hX
  have hw0:IntKind.i64.wrap ((p.length:Int) + 1) = ((p.length + 1:Nat):Int):=by rw [cj (by omega) (by omega)]; rfl
  rw [hw0]
  cases m with
  | nil =>
    refine Lp.intro (fun (i:Int) h=>i = ((p.length + 1:Nat):Int)∧aO (vI s (p++([]++q))::A) h) (fun _ _=>0) ⟨rfl,s0⟩ ?_
    rintro i h ⟨rfl,s1⟩
    unfold dK
    refine dH (by simp; omega) ?_
    exact ⟨[],⟨.refl _,.nil⟩,s1⟩
  | cons x0 t0 =>
    refine Lp.intro (fun (i:Int) h=>∃ a b:List Int,i = ((p.length + a.length:Nat):Int)∧Up key a∧(a++b).Perm (x0::t0)∧aO (vI s (p++((a++b)++q))::A) h) (fun (i:Int) _=>p.length + (x0::t0).length - i.toNat) ⟨[x0],t0,rfl,List.pairwise_singleton _ _,.refl _,s0⟩ ?_
    rintro i h ⟨a,b,rfl,ha,hp,s1⟩
    have hlen:=hp.length_eq
    simp only [List.length_append] at hlen
    have hsl:=(cr (j:=0) s1 rfl).1
    unfold dK
    refine bi (fun k=>?_) (fun k=>?_)
    · have hbp:0 < b.length:=by have:=of_decide_eq_true k; omega
      obtain ⟨y,b',rfl⟩:=List.exists_cons_of_length_pos hbp
      have hS':∀ x ∈ a++y::b',S x:=fun x hx=>hS x (hp.subset hx)
      have hw1:IntKind.i64.wrap (((p.length + a.length:Nat):Int) + 1) = ((p.length + a.length + 1:Nat):Int):=by rw [cj (by omega) (by omega)]; rfl
      have out:∀ (a1 a2:List Int) (h:Hp),a1++a2 = a→(∀ x ∈ a1,key x ≤ key y)→(∀ x ∈ a2,key y < key x)→aO (vI s (p++((a1++y::(a2++b'))++q))::A) h →
          (fun (s':Int) h'=>(∃ a b:List Int,s' = ((p.length + a.length:Nat):Int)∧Up key a∧(a++b).Perm (x0::t0)∧aO (vI s (p++((a++b)++q))::A) h')∧p.length + (x0::t0).length - s'.toNat < p.length + (x0::t0).length - ((p.length + a.length:Nat):Int).toNat) (IntKind.i64.wrap (((p.length + a.length:Nat):Int) + 1)) h:=by
        intro a1 a2 h he h1 h2 s2
        subst he
        rw [hw1]
        refine ⟨⟨a1++y::a2,b',by simp; omega,up_insert ha h1 h2,?_,?_⟩,by simp at hlen ⊢; omega⟩
        · refine List.Perm.trans ?_ hp
          have:(a1++y::a2++b').Perm (a1++a2++y::b'):=by
            rw [List.append_assoc,List.append_assoc]
            refine List.Perm.append_left a1 ?_
            simpa using (List.perm_middle (a:=y) (l₁:=a2) (l₂:=b')).symm
          exact this
        · have:a1++y::a2++b' = a1++y::(a2++b'):=by simp
          rw [this]; exact s2
      refine Lp.intro (fun (j:Int) h=>∃ a1 a2:List Int,a1++a2 = a∧j = ((p.length + a1.length:Nat):Int)∧(∀ x ∈ a2,key y < key x)∧aO (vI s (p++((a1++y::(a2++b'))++q))::A) h) (fun (j:Int) _=>j.toNat) ⟨a,[],by simp,rfl,fun x hx=>(by cases hx),by simpa using s1⟩ ?_
      rintro j h ⟨a1,a2,he,rfl,h2,s2⟩
      unfold eR
      refine bi (fun k2=>?_) (fun k2=>?_)
      · have hne:a1 ≠ []:=by
          intro e; subst e; simp at k2
        obtain ⟨L0,z,rfl⟩:∃ L z,a1 = L++[z]:=⟨a1.dropLast,a1.getLast hne,(List.dropLast_concat_getLast hne).symm⟩
        have hal:a.length = L0.length + 1 + a2.length:=by rw [← he]; simp; omega
        have hdec:p++((L0++[z]++y::(a2++b'))++q) = (p++L0)++z::y::(a2++b'++q):=by simp
        rw [hdec] at s2
        have hlL:(p++L0).length = p.length + L0.length:=by simp
        have hj:((p.length + (L0++[z]).length:Nat):Int) = (((p++L0).length + 1:Nat):Int):=by simp; omega
        rw [hj]
        have hsl2:=(cr (j:=0) s2 rfl).1
        have hw2:IntKind.i64.wrap ((((p++L0).length + 1:Nat):Int) - 1) = (((p++L0).length:Nat):Int):=by rw [cj (by omega) (by omega)]; omega
        rw [hw2]
        refine dF s2 (j:=0) rfl (by omega) (by simp; omega) fun q1 hq1=>?_
        refine dF s2 (j:=0) rfl (by omega) (by simp; omega) fun q2 hq2=>?_
        refine eC (j:=0) (i:=(p++L0).length + 1) (k:=0) y (di _) s2 rfl hq1 (by rw [Int.toNat_natCast]; rfl) mid_get1 (by simp) ?_
        refine eC (j:=0) (i:=(p++L0).length) (k:=0) z (di _) s2 rfl hq2 (by rw [Int.toNat_natCast]; rfl) mid_get (by simp) ?_
        have hSy:S y:=hS' y (by simp)
        have hSz:S z:=hS' z (by rw [← he]; simp)
        refine clv_t (hv y z hSy hSz) s2 fun r h3 s3=>?_
        obtain ⟨hr,s4⟩:=bD.1 s3
        have s5:=star_rot s4
        refine bi (fun k3=>?_) (fun k3=>?_)
        · have k3':key y < key z:=hr.1 (of_decide_eq_true k3)
          refine eC (j:=0) (i:=(p++L0).length) (k:=0) z (di _) s5 rfl hq2 (by rw [Int.toNat_natCast]; rfl) mid_get (by simp) ?_
          refine eC (j:=0) (i:=(p++L0).length + 1) (k:=0) y (di _) s5 rfl hq1 (by rw [Int.toNat_natCast]; rfl) mid_get1 (by simp) ?_
          refine st_v (j:=0) (i:=(p++L0).length + 1) (k:=0) z (di _) s5 rfl hq1 (by rw [Int.toNat_natCast]; rfl) mid_get1 (by simp) rfl fun h6 s6=>?_
          rw [mid_set1] at s6
          refine st_v (j:=0) (i:=(p++L0).length) (k:=0) y (di _) s6 rfl hq2 (by rw [Int.toNat_natCast]; rfl) mid_get (by simp) rfl fun h7 s7=>?_
          refine ⟨⟨L0,z::a2,by rw [← he]; simp,by rw [hlL],fun x hx=>?_,?_⟩,by simp only [Int.toNat_natCast]; omega⟩
          · rcases List.mem_cons.1 hx with rfl | hx
            · exact k3'
            · exact h2 x hx
          · have e2:p++((L0++y::(z::a2++b'))++q) = (p++L0)++y::z::(a2++b'++q):=by simp
            rw [e2]
            have s8:aO (vI s (((p++L0)++z::z::(a2++b'++q)).set (p++L0).length y)::A) h7:=s7
            rw [mid_set] at s8
            exact s8
        · have k3':key z ≤ key y:=by
            have:¬ key y < key z:=fun hh=>by have:=hr.2 hh; simp at k3; omega
            omega
          refine out (L0++[z]) a2 h3 he (fun x hx=>?_) h2 (by rw [hdec]; exact s5)
          have hup:Up key (L0++[z]):=by
            rw [← he] at ha
            exact (List.pairwise_append.1 ha).1
          rcases List.mem_append.1 hx with hx | hx
          · have:=(List.pairwise_append.1 hup).2.2 x hx z (by simp)
            omega
          · rw [List.mem_singleton.1 hx]; exact k3'
      · have e:a1 = []:=by
          have:=of_decide_eq_false k2
          exact List.eq_nil_of_length_eq_zero (by omega)
        subst e
        exact out [] a2 h he (fun x hx=>by cases hx) h2 s2
    · have hb0:b = []:=by
        have:=of_decide_eq_false k
        exact List.eq_nil_of_length_eq_zero (by omega)
      subst hb0
      rw [List.append_nil] at hp s1
      exact ⟨a,⟨hp,ha⟩,s1⟩
theorem sp_SortStable20 (s:Sl) (v:Value) (A:List As) (key:Int→Int) (S:Int→Prop) (hv:CmpOk v A key S) (m:List Int) (hS:∀ x ∈ m,S x) (hb:m.length ≤ 20) :
    Sp Tryz.prog fJ [sv s,v] R_ (vI s m::A) (fun _ h=>∃ m',(m'.Perm m∧Up key m')∧aO (vI s m'::A) h):=by
  intro h s0
  have hl:=(cr (j:=0) s0 rfl).1
  refine nQ _ _ ?_
  unfold iD
  unfold cl
  refine qS _ _ _ ?_
  unfold kL
  rw [hl]
  have ins:∀ (p m q:List Int) (h:Hp) (K:Unit→Hp→Prop),(∀ x ∈ m,S x)→p.length + m.length + q.length < 2 ^ 60→aO (vI s (p++(m++q))::A) h→(∀ m' h',m'.Perm m→Up key m'→aO (vI s (p++(m'++q))::A) h'→K () h') →
      cl Tryz.prog ch [sv s,.int .i64 p.length,.int .i64 (p.length + m.length:Nat),v] R_ K h:=by
    intro p m q h K h1 h2 s1 k
    refine (sp_insertion s v A key S hv p m q h1 h2 h s1).mono ?_
    rintro u h' ⟨r,e,m',⟨p1,p2⟩,s2⟩
    exact ⟨r,e,k m' h' p1 p2 s2⟩
  have tail:∀ (m':List Int) (h:Hp),m'.length = m.length→Up key m'→m'.Perm m→aO (vI s m'::A) h→Lp (dq (s) (m.length:Int) v (fun _ h'=>∃ m',(m'.Perm m∧Up key m')∧aO (vI s m'::A) h')) 20 h:=by
    intro m' h hlm hu hp s1
    refine Lp.intro (fun (i:Int) h=>i = 20∧aO (vI s m'::A) h) (fun _ _=>0) ⟨rfl,s1⟩ ?_
    rintro i h ⟨rfl,s2⟩
    unfold dq
    refine dH (by simp; omega) ?_
    exact ⟨m',⟨hp,hu⟩,s2⟩
  refine Lp.intro (fun (z:Int × Int) h=>(z = (0,20)∧aO (vI s m::A) h)∨(z = (20,40)∧m.length = 20∧∃ m',(m'.Perm m∧Up key m')∧aO (vI s m'::A) h)) (fun (z:Int × Int) _=>(40 - z.2).toNat) (.inl ⟨rfl,s0⟩) ?_
  rintro z h (⟨rfl,s1⟩ | ⟨rfl,h20,m',⟨hp,hu⟩,s1⟩)
  · unfold fh
    refine bi (fun k=>?_) (fun k=>?_)
    · have h20:m.length = 20:=by have:=of_decide_eq_true k; omega
      have e:(20:Int) = ((([]:List Int).length + m.length:Nat):Int):=by simp [h20]
      show cl Tryz.prog ch [sv s,.int .i64 0,.int .i64 20,v] R_ _ h
      rw [e]
      refine ins [] m [] h _ hS (by simp; omega) (by simpa using s1) fun m' h' hp hu s2=>?_
      refine ⟨.inr ⟨?_,h20,m',⟨hp,hu⟩,by simpa using s2⟩,?_⟩
      · rw [← e]; rw [cj (by omega) (by omega)]; rfl
      · rw [← e]; rw [cj (by omega) (by omega)]; decide
    · have e:(m.length:Int) = ((([]:List Int).length + m.length:Nat):Int):=by simp
      show cl Tryz.prog ch [sv s,.int .i64 0,.int .i64 (m.length:Int),v] R_ _ h
      have:=ins [] m [] h (fun _=>Lp (dq s (m.length:Int) v (fun _ h'=>∃ m',(m'.Perm m∧Up key m')∧aO (vI s m'::A) h')) 20) hS (by simp; omega) (by simpa using s1) fun m' h' hp hu s2=>tail m' h' hp.length_eq hu hp (by simpa using s2)
      rw [← e] at this
      exact this
  · unfold fh
    refine dH (by rw [h20]; rfl) ?_
    have hml:m'.length = 20:=hp.length_eq.trans h20
    have e:(m.length:Int) = ((m'.length + ([]:List Int).length:Nat):Int):=by simp [h20,hml]
    have e2:(20:Int) = (m'.length:Int):=by omega
    show cl Tryz.prog ch [sv s,.int .i64 20,.int .i64 (m.length:Int),v] R_ _ h
    have:=ins m' [] [] h (fun _=>Lp (dq s (m.length:Int) v (fun _ h'=>∃ m',(m'.Perm m∧Up key m')∧aO (vI s m'::A) h')) 20) (fun x hx=>by cases hx) (by simp; omega) (by simpa using s1) fun m2 h' hp2 hu2 s2=>by
      have:m2 = []:=hp2.eq_nil
      subst this
      exact tail m' h' hp.length_eq hu hp (by simpa using s2)
    rw [← e,← e2] at this
    exact this
end Go.Proofs.YtniiiakkdoiaiaaGreatDoor
namespace Go.Proofs.YtniiiakkdoiaiaaGreatDoor
open Go Mb
set_option linter.unusedVariables false
def hist_May_l1 (a0:Sl) (a1:aP) (K:Bool→Hp→Prop) (v12:(Option Nat)) (v13:(Option Nat)) (Rec4:(Int × Int)→Hp→Prop) (s3:Int × Int):Hp→Prop:=br (decide (s3.2 < (a0.len:Int))) ( ix a0 s3.2 fun q18=>ld (q18.1,q18.2 + Int.toNat s3.2 * 16) aL.C fun x19=>br ((!(!(fE x19 a1 s3.1))) && (decide (x19.fEffect > 0))) ( hpv Tryz.prog (Instr.lookup jp (.map v12) (.int .i64 x19.fEffect) false) aG fun (v33:Bool)=>br v33 ( K false) ( hpv Tryz.prog (Instr.lookup gS (.map v13) (.int .i64 x19.fCore) true) bU fun (v40:Int × Bool)=>br (v40.2 && ((decide (v40.1 ≤ 0)) || (decide (x19.fBegin ≤ v40.1)))) ( K false) ( hpu Tryz.prog (Instr.mapUpdate jp (.map v12) (.int .i64 x19.fEffect) (.bool true))<|hpu Tryz.prog (Instr.mapUpdate gS (.map v13) (.int .i64 x19.fCore) (.int .i64 x19.fEnd))<|Rec4 (x19.fBegin,(IntKind.i64.wrap (s3.2 + 1)))))) ( br ((!(fE x19 a1 s3.1)) || false) ( K false) ( hpv Tryz.prog (Instr.lookup gS (.map v13) (.int .i64 x19.fCore) true) bU fun (v40:Int × Bool)=>br (v40.2 && ((decide (v40.1 ≤ 0)) || (decide (x19.fBegin ≤ v40.1)))) ( K false) ( hpu Tryz.prog (Instr.mapUpdate jp (.map v12) (.int .i64 x19.fEffect) (.bool true))<|hpu Tryz.prog (Instr.mapUpdate gS (.map v13) (.int .i64 x19.fCore) (.int .i64 x19.fEnd))<|Rec4 (x19.fBegin,(IntKind.i64.wrap (s3.2 + 1))))))) ( K true)
def sh_hist_May (a0:Sl) (a1:aP) (K:Bool→Hp→Prop):Hp→Prop:=hpv Tryz.prog (Instr.makeMap jp none) R_map_int_bool fun (v12:(Option Nat))=>hpv Tryz.prog (Instr.makeMap gS none) R_map_int_int fun (v13:(Option Nat))=>Lp (hist_May_l1 a0 a1 K v12 v13) (0,0)
set_option maxRecDepth 20000 in
theorem sim_hist_May (a0:Sl) (a1:aP) {K:Bool→Hp→Prop} {h:Hp} (H:sh_hist_May a0 a1 K h):Ct Tryz.prog tf #[(sv a0),(.agg (aP.C a1).toArray)] h fun v h'=>∃ r,v = aG r∧K r h':=aA [(sv a0),(.agg (aP.C a1).toArray)] Tryz.func19 rfl rfl rfl fun _=>ag<|ab<|aj (cQ (l:=(aP.C a1)) rfl rfl rfl fun b3=>aa (ae rfl) rfl<|ad<|ag<|ab<|aj (be H (x_makeMap0) rfl fun v12 _ H1=>aj (be H1 (x_makeMap0) rfl fun v13 _ H2=>aa (ae rfl) rfl<|aa (ae rfl) rfl<|aa (ae rfl) rfl<|ad<|ag<|ag<|ab<|aa (ac rfl) rfl<|aa (dl rfl Tryz.underlying39 rfl) rfl<|aa (ac rfl) rfl<|ad<|aH<|bR (step:=hist_May_l1 a0 a1 K v12 v13) (fun s3=>[(3,(.pointer (some ⟨b3,0,none⟩))),(5,(.int .i64 s3.1)),(6,(.map v12)),(7,(.map v13)),(14,(sv a0)),(15,(.int .i64 (a0.len:Int))),(16,(.int .i64 s3.2))]) (fun s3=>[bx b3 35 (aP.C a1)]) H2 (.cons rfl (.cons rfl (.cons rfl (.cons rfl (.cons rfl (.cons rfl (.cons rfl (.nil _)))))))) (.cons_cons _ .slnil) (fun Rec4 s3 _ H5=>ag<|ab<|aa (cH rfl rfl) rfl<|ad<|ag<|aE rfl H5 (fun k6 H7=>av<|ag<|aH<|ag<|ab<|cx H7 fun q18 e8 h9 H10=>aa (bC sB (aV rfl (bm e8)) rfl h9) rfl<|aj (hH H10 ag_51 rfl (fun _=>rfl) rfl fun x19 H11=>aj (aW (l:=(aL.C (⟨0,0,(⟨0,0,0,0,0⟩:ap),0,0,0,(⟨0,0⟩:al),(⟨0,0,0,0⟩:au)⟩:aL))) zero_51 rfl rfl fun b9=>aj (bb (k:=0) (vs:=(aL.C x19)) inf_51 rfl rfl rfl rfl rfl rfl rfl<|ad<|ag<|ag<|ab<|bw (bP (k:=0) ag_51 rfl rfl rfl rfl) rfl<|bw (bP (k:=1) rF rfl rfl rfl rfl) rfl<|aa (ac rfl) rfl<|aj (cN (vs:=[(.agg (aL.C x19).toArray),(.agg (aP.C a1).toArray),(.int .i64 s3.1)]) (bG (ct_hist_one x19 a1 s3.1 _)) en_52 rfl rfl<|aa (cu rfl) rfl<|aa (ac rfl) rfl<|ak rfl rfl rfl (aX _) (fun g12=>wv (am iT rfl)) rfl<|ak rfl rfl rfl (aX _) (fun g13=>cv (bt (k:=0) bk (aK rfl g13) rfl rfl)) rfl<|ak rfl rfl rfl (aX _) (fun g14=>wv (qo (aK rfl g14) rfl)) rfl<|ak rfl rfl rfl (aX _) (fun g15=>wv (ac (aK rfl g15))) rfl<|ak rfl rfl rfl (rh _ _) (fun g16=>wv (ac rfl)) rfl<|ak rfl rfl rfl (rh _ _) (fun g17=>wv (am iT rfl)) rfl<|ak rfl rfl rfl (rh _ _) (fun g18=>cv (bt (k:=0) bk (aK rfl g18) rfl rfl)) rfl<|bO H11 (fun k20 H21=>aF rfl rfl rfl ((gv_t (b_l k20) _).trans (congrArg Value.bool (b_r k20))) (be H21 (x_lookup (aK rfl k20) (aK rfl k20)) rfl fun v33 _ H22=>aF rfl rfl rfl (congrArg Value.bool (cf (b_l k20))) (aJ (wv (ba (aK rfl (b_l k20)) (b_r k20) rfl)) rfl<|aa (an rfl (cf (b_l k20)) rfl) rfl<|ad<|aE rfl H22 (fun k23 H24=>ag<|ab<|aa (ae rfl) rfl<|ad<|ao<|aw (ay rfl (aD rfl)) ⟨false,rfl,H24⟩) (fun k23 H24=>av<|ag<|ag<|ab<|aa (ac rfl) rfl<|aa (am tq rfl) rfl<|bw (bt (k:=0) bk rfl rfl rfl) rfl<|aj (be H24 (x_lookup rfl rfl) rfl fun v40 _ H25=>aa (ac rfl) rfl<|aa (aq rfl rfl) rfl<|aa (aq rfl rfl) rfl<|aa (ae rfl) rfl<|aa (ae rfl) rfl<|ad<|ag<|ab<|aa (ac rfl) rfl<|aa (ac rfl) rfl<|ak rfl rfl rfl (aB _) (fun g26=>wv (ac rfl)) rfl<|ak rfl rfl rfl (aB _) (fun g27=>wv (v_le (aK rfl g27) rfl)) rfl<|ak rfl rfl rfl (aB _) (fun g28=>wv (ac (aK rfl g28))) rfl<|ak rfl rfl rfl (dW _ _) (fun g29=>wv (am tn rfl)) rfl<|ak rfl rfl rfl (dW _ _) (fun g30=>cv (bt (k:=0) bk (aK rfl g30) rfl rfl)) rfl<|ak rfl rfl rfl (dW _ _) (fun g31=>wv (ac rfl)) rfl<|ak rfl rfl rfl (dW _ _) (fun g32=>wv (v_le (aK rfl g32) (aK rfl g32))) rfl<|ak rfl rfl rfl (aB _) (fun g33=>wv (dD (aK rfl g33) (aV rfl (wV g33)))) rfl<|aa (bX rfl rfl) rfl<|ad<|aE rfl H25 (fun k34 H35=>ag<|ab<|aa (ae rfl) rfl<|ad<|ao<|aw (ay rfl (aD rfl)) ⟨false,rfl,H35⟩) (fun k34 H35=>av<|bB (n:=13) [bx b9 51 (aL.C x19)] cA rfl (.cons_cons _ (.cons _ .slnil))<|ai (i:=0) (fun _ _ _ _=>id) rfl (by kernel_rfl) rfl (ve (ac rfl))<|ai (i:=1) (fun _ _ _ _=>id) rfl (by kernel_rfl) rfl (ve (am iT rfl))<|ai (i:=2) (fun _ _ _ _=>id) rfl (by kernel_rfl) rfl (dm (k:=0) bk rfl rfl rfl)<|ai (i:=3) (fun _ _ _ _=>id) rfl (by kernel_rfl) rfl (ve (ac rfl))<|ai (i:=4) (fun _ _ _ _=>id) rfl (by kernel_rfl) rfl (ve (am tq rfl))<|ai (i:=5) (fun _ _ _ _=>id) rfl (by kernel_rfl) rfl (dm (k:=0) bk rfl rfl rfl)<|ai (i:=6) (fun _ _ _ _=>id) rfl (by kernel_rfl) rfl (ve (am tn rfl))<|ai (i:=7) (fun _ _ _ _=>id) rfl (by kernel_rfl) rfl (dm (k:=0) bk rfl rfl rfl)<|ai (i:=8) (fun _ _ _ _=>id) rfl (by kernel_rfl) rfl (ve (am qL rfl))<|ai (i:=9) (fun _ _ _ _=>id) rfl (by kernel_rfl) rfl (dm (k:=0) bk rfl rfl rfl)<|ai (i:=10) (fun _ _ _ _=>id) rfl (by kernel_rfl) rfl (ve (ae rfl))<|bh (i:=11) (by kernel_rfl) (aI rfl rfl (to_hpu H35 (tL rfl rfl rfl) fun _ H36=>⟨(.cons_cons _ (.cons _ .slnil)),bh (i:=12) (by kernel_rfl) (aI rfl rfl (to_hpu H36 (tL rfl rfl rfl) fun _ H37=>⟨(.cons_cons _ (.cons _ .slnil)),bf (by kernel_rfl)<|ab<|aa (bK rfl rfl) rfl<|aa (ac rfl) rfl<|ad<|cU (x19.fBegin,(IntKind.i64.wrap (s3.2 + 1))) H37 (.cons rfl (.cons rfl (.cons rfl (.cons rfl (.cons rfl (.cons rfl (.cons rfl (.nil _)))))))) (.cons _ (.cons_cons _ .slnil))⟩))⟩)))))))) (fun k20 H21=>ah rfl rfl rfl ((rh _ _).trans k20) rfl<|ak rfl rfl rfl (aX _) (fun g38=>wv (an (aK rfl g38) (b_andr k20 g38) rfl)) rfl<|aa (dD rfl rfl) rfl<|ad<|aE rfl H21 (fun k39 H40=>ag<|ab<|aa (ae rfl) rfl<|ad<|ao<|aw (ay rfl (aD rfl)) ⟨false,rfl,H40⟩) (fun k39 H40=>av<|ag<|ag<|ab<|aa (ac rfl) rfl<|aa (am tq rfl) rfl<|bw (bt (k:=0) bk rfl rfl rfl) rfl<|aj (be H40 (x_lookup rfl rfl) rfl fun v40 _ H41=>aa (ac rfl) rfl<|aa (aq rfl rfl) rfl<|aa (aq rfl rfl) rfl<|aa (ae rfl) rfl<|aa (ae rfl) rfl<|ad<|ag<|ab<|aa (ac rfl) rfl<|aa (ac rfl) rfl<|ak rfl rfl rfl (aB _) (fun g42=>wv (ac rfl)) rfl<|ak rfl rfl rfl (aB _) (fun g43=>wv (v_le (aK rfl g43) rfl)) rfl<|ak rfl rfl rfl (aB _) (fun g44=>wv (ac (aK rfl g44))) rfl<|ak rfl rfl rfl (dW _ _) (fun g45=>wv (am tn rfl)) rfl<|ak rfl rfl rfl (dW _ _) (fun g46=>cv (bt (k:=0) bk (aK rfl g46) rfl rfl)) rfl<|ak rfl rfl rfl (dW _ _) (fun g47=>wv (ac rfl)) rfl<|ak rfl rfl rfl (dW _ _) (fun g48=>wv (v_le (aK rfl g48) (aK rfl g48))) rfl<|ak rfl rfl rfl (aB _) (fun g49=>wv (dD (aK rfl g49) (aV rfl (wV g49)))) rfl<|aa (bX rfl rfl) rfl<|ad<|aE rfl H41 (fun k50 H51=>ag<|ab<|aa (ae rfl) rfl<|ad<|ao<|aw (ay rfl (aD rfl)) ⟨false,rfl,H51⟩) (fun k50 H51=>av<|bB (n:=13) [bx b9 51 (aL.C x19)] cA rfl (.cons_cons _ (.cons _ .slnil))<|ai (i:=0) (fun _ _ _ _=>id) rfl (by kernel_rfl) rfl (ve (ac rfl))<|ai (i:=1) (fun _ _ _ _=>id) rfl (by kernel_rfl) rfl (ve (am iT rfl))<|ai (i:=2) (fun _ _ _ _=>id) rfl (by kernel_rfl) rfl (dm (k:=0) bk rfl rfl rfl)<|ai (i:=3) (fun _ _ _ _=>id) rfl (by kernel_rfl) rfl (ve (ac rfl))<|ai (i:=4) (fun _ _ _ _=>id) rfl (by kernel_rfl) rfl (ve (am tq rfl))<|ai (i:=5) (fun _ _ _ _=>id) rfl (by kernel_rfl) rfl (dm (k:=0) bk rfl rfl rfl)<|ai (i:=6) (fun _ _ _ _=>id) rfl (by kernel_rfl) rfl (ve (am tn rfl))<|ai (i:=7) (fun _ _ _ _=>id) rfl (by kernel_rfl) rfl (dm (k:=0) bk rfl rfl rfl)<|ai (i:=8) (fun _ _ _ _=>id) rfl (by kernel_rfl) rfl (ve (am qL rfl))<|ai (i:=9) (fun _ _ _ _=>id) rfl (by kernel_rfl) rfl (dm (k:=0) bk rfl rfl rfl)<|ai (i:=10) (fun _ _ _ _=>id) rfl (by kernel_rfl) rfl (ve (ae rfl))<|bh (i:=11) (by kernel_rfl) (aI rfl rfl (to_hpu H51 (tL rfl rfl rfl) fun _ H52=>⟨(.cons_cons _ (.cons _ .slnil)),bh (i:=12) (by kernel_rfl) (aI rfl rfl (to_hpu H52 (tL rfl rfl rfl) fun _ H53=>⟨(.cons_cons _ (.cons _ .slnil)),bf (by kernel_rfl)<|ab<|aa (bK rfl rfl) rfl<|aa (ac rfl) rfl<|ad<|cU (x19.fBegin,(IntKind.i64.wrap (s3.2 + 1))) H53 (.cons rfl (.cons rfl (.cons rfl (.cons rfl (.cons rfl (.cons rfl (.cons rfl (.nil _)))))))) (.cons _ (.cons_cons _ .slnil))⟩))⟩))))))))))) (fun k6 H7=>bz<|ag<|ab<|aa (ae rfl) rfl<|ad<|ao<|aw (ay rfl (aD rfl)) ⟨true,rfl,H7⟩)))))
def tj (a0:Sl) (a1:Value) (K:Sl→Hp→Prop) (Rec2:(Sl × Int)→Hp→Prop) (s1:Sl × Int):Hp→Prop:=br (decide (s1.2 < (a0.len:Int))) ( ix a0 s1.2 fun q13=>ld (q13.1,q13.2 + Int.toNat s1.2 * 16) aL.C fun x14=>clv Tryz.prog a1 [(.agg (aL.C x14).toArray)] aG fun r17=>br r17 ( hpv Tryz.prog (Instr.buildSlice dN 1 #[(0,(.int .i64 s1.2))]) cz fun (v20:Sl)=>hpv Tryz.prog (Builtin.append_ #[dN,dN] dN #[(sv s1.1),(sv v20)]) cz fun (v21:Sl)=>Rec2 (v21,(IntKind.i64.wrap (s1.2 + 1)))) ( Rec2 (s1.1,(IntKind.i64.wrap (s1.2 + 1))))) ( K s1.1)
def sh_hist_places (a0:Sl) (a1:Value) (K:Sl→Hp→Prop):Hp→Prop:=Lp (tj a0 a1 K) ((⟨none,0,0,none⟩:Sl),0)
set_option maxRecDepth 20000 in
theorem sim_hist_places (a0:Sl) (a1:Value) {K:Sl→Hp→Prop} {h:Hp} (H:sh_hist_places a0 a1 K h):Ct Tryz.prog qf #[(sv a0),a1] h fun v h'=>∃ r,v = cz r∧K r h':=aA [(sv a0),a1] Tryz.func53 rfl rfl rfl fun _=>ag<|ab<|aa (ae rfl) rfl<|ad<|ag<|ab<|aa (ae rfl) rfl<|ad<|ag<|ag<|ab<|aa (ac rfl) rfl<|aa (dl rfl Tryz.underlying39 rfl) rfl<|aa (ac rfl) rfl<|ad<|aH<|bR (step:=tj a0 a1 K) (fun s1=>[(1,a1),(5,(sv s1.1)),(8,(sv a0)),(9,(.int .i64 (a0.len:Int))),(10,(.int .i64 s1.2))]) (fun s1=>[]) H (.cons rfl (.cons rfl (.cons rfl (.cons rfl (.cons rfl (.nil _)))))) .slnil (fun Rec2 s1 _ H3=>ag<|ab<|aa (cH rfl rfl) rfl<|ad<|ag<|aE rfl H3 (fun k4 H5=>av<|ag<|aH<|ag<|ab<|aa (ac rfl) rfl<|cx H5 fun q13 e6 h7 H8=>aa (bC sB (aV rfl (bm e6)) rfl h7) rfl<|aj (hH H8 ag_51 rfl (fun _=>rfl) rfl fun x14 H9=>aj (aW (l:=(aL.C (⟨0,0,(⟨0,0,0,0,0⟩:ap),0,0,0,(⟨0,0⟩:al),(⟨0,0,0,0⟩:au)⟩:aL))) zero_51 rfl rfl fun b7=>aa (ae rfl) rfl<|aj (bb (k:=0) (vs:=(aL.C x14)) inf_51 rfl rfl rfl rfl rfl rfl rfl<|ad<|ag<|ab<|aa (ac rfl) rfl<|bw (bP (k:=0) ag_51 rfl rfl rfl rfl) rfl<|aj (to_clv H9 rfl rfl rfl fun r17 _ H10=>ad<|aE rfl H10 (fun k11 H12=>ab<|aa (ac rfl) rfl<|aa (ac rfl) rfl<|aj (be H12 (bF (vs:=[(.int .i64 s1.2)]) rfl) rfl fun v20 _ H13=>aj (be H13 (dM rfl rfl) rfl fun v21 _ H14=>aa (ae rfl) rfl<|ad<|ab<|aa (bK rfl rfl) rfl<|aa (ac rfl) rfl<|ad<|cU (v21,(IntKind.i64.wrap (s1.2 + 1))) H14 (.cons rfl (.cons rfl (.cons rfl (.cons rfl (.cons rfl (.nil _)))))) (.cons _ .slnil)))) (fun k11 H12=>av<|ab<|aa (bK rfl rfl) rfl<|aa (ac rfl) rfl<|ad<|cU (s1.1,(IntKind.i64.wrap (s1.2 + 1))) H12 (.cons rfl (.cons rfl (.cons rfl (.cons rfl (.cons rfl (.nil _)))))) (.cons _ .slnil))))))) (fun k4 H5=>bz<|ag<|ab<|aa (ac rfl) rfl<|aa (ae rfl) rfl<|ad<|ao<|aw (ay rfl (aD rfl)) ⟨s1.1,rfl,H5⟩))
def vj (a0:Int) (a1:Int) (c0:Nat) (K:Int→Hp→Prop):Hp→Prop:=ld (c0,0) cS fun x6=>ix x6 a0 fun q8=>ld (q8.1,q8.2 + Int.toNat a0 * 16 + 8) (cI .i64) fun x10=>ld (c0,0) cS fun x11=>ix x11 a1 fun q13=>ld (q13.1,q13.2 + Int.toNat a1 * 16 + 8) (cI .i64) fun x15=>K (fP x10 x15)
set_option maxRecDepth 20000 in
theorem sim_hist_Order_c2 (a0:Int) (a1:Int) (c0:Nat) {K:Int→Hp→Prop} {h:Hp} (H:vj a0 a1 c0 K h):Ct Tryz.prog rb #[(.int .i64 a0),(.int .i64 a1),(.pointer (some ⟨c0,0,none⟩))] h fun v h'=>∃ r,v = dQ r∧K r h':=aA [(.int .i64 a0),(.int .i64 a1),(.pointer (some ⟨c0,0,none⟩))] Tryz.func58 rfl rfl rfl fun _=>ag<|ab<|aa (ae rfl) rfl<|ad<|ag<|bB (n:=12) [] cA rfl .slnil<|ai (i:=1) (fun _ _ _ _=>id) rfl (by kernel_rfl) rfl (ve (ac rfl))<|ai (i:=6) (fun _ _ _ _=>id) rfl (by kernel_rfl) rfl (ve (ac rfl))<|bQ (i:=0) (fun _ _ _ _=>id) H rfl (by kernel_rfl) sc_39 rfl (fun _=>rfl) rfl fun x6 H1=>fM H1 fun q8 e2 h3 H4=>ai (i:=2) (fun _ _ _ _=>id) rfl (by kernel_rfl) rfl (ve (bC sB (aV rfl (bm e2)) rfl h3))<|ai (i:=3) (fun _ _ _ _=>id) rfl (by kernel_rfl) rfl (ve (am iT rfl))<|bQ (i:=4) (fun _ _ _ _=>id) H4 rfl (by kernel_rfl) bk rfl (fun _=>rfl) rfl fun x10 H5=>bQ (i:=5) (fun _ _ _ _=>id) H5 rfl (by kernel_rfl) sc_39 rfl (fun _=>rfl) rfl fun x11 H6=>fM H6 fun q13 e7 h8 H9=>ai (i:=7) (fun _ _ _ _=>id) rfl (by kernel_rfl) rfl (ve (bC sB (aV rfl (bm e7)) rfl h8))<|ai (i:=8) (fun _ _ _ _=>id) rfl (by kernel_rfl) rfl (ve (am iT rfl))<|bQ (i:=9) (fun _ _ _ _=>id) H9 rfl (by kernel_rfl) bk rfl (fun _=>rfl) rfl fun x15 H10=>bh (i:=10) (by kernel_rfl) (aI rfl rfl (cN (vs:=[(.int .i64 x10),(.int .i64 x15)]) (bG (ct_cmp_Compare_int x10 x15 _)) en_59 rfl rfl<|⟨.slnil,ai (i:=11) (fun _ _ _ _=>id) rfl (by kernel_rfl) rfl (ve (ae rfl))<|bf (by kernel_rfl)<|ao<|aw (ay rfl (aD rfl)) ⟨(fP x10 x15),rfl,H10⟩⟩))
def sh_hist_Order (a0:Sl) (K:Sl→Hp→Prop):Hp→Prop:=nw eO [sv a0] fun b1=>ld (b1,0) cS fun x4=>cl Tryz.prog qf [(sv x4),(.func (.func mT) #[] #[])] cz fun r5=>cl Tryz.prog fJ [(sv r5),(.func (.func rb) #[] #[(.pointer (some ⟨b1,0,none⟩))])] R_ fun (_:Unit)=>K r5
set_option maxRecDepth 20000 in
theorem sim_hist_Order (a0:Sl) {K:Sl→Hp→Prop} {h:Hp} (H:sh_hist_Order a0 K h):Ct Tryz.prog oJ #[(sv a0)] h fun v h'=>∃ r,v = cz r∧K r h':=aA [(sv a0)] Tryz.func26 rfl rfl rfl fun _=>ag<|ab<|aj (hO rfl rfl rfl H fun b1 _ H1=>aa (ae rfl) rfl<|ad<|ag<|ab<|aj (bd H1 sc_39 rfl (fun _=>rfl) rfl fun x4 H2=>aj (az H2 en_53 rfl rfl fun r5 _ H3=>aa (ae rfl) rfl<|ad<|ag<|ab<|aa (ac rfl) rfl<|aa (v_func rfl rfl) rfl<|aj (az H3 en_57 rfl rfl fun r8 _ H4=>ad<|ag<|ab<|aa (ac rfl) rfl<|aa (ae rfl) rfl<|ad<|ao<|aw (ay rfl (aD rfl)) ⟨r5,rfl,H4⟩))))
def sh_hist_Over_c1 (a0:aL) (c0:Nat) (K:Bool→Hp→Prop):Hp→Prop:=ld (c0,0) (cI .i64) fun x6=>br ((decide (a0.fBegin ≤ x6)) && (!(a0.fEffect == 0))) ( ld (c0,0) (cI .i64) fun x15=>K (decide (a0.fEffect > x15))) ( K ((decide (a0.fBegin ≤ x6)) && true))
set_option maxRecDepth 20000 in
theorem sim_hist_Over_c1 (a0:aL) (c0:Nat) {K:Bool→Hp→Prop} {h:Hp} (H:sh_hist_Over_c1 a0 c0 K h):Ct Tryz.prog te #[(.agg (aL.C a0).toArray),(.pointer (some ⟨c0,0,none⟩))] h fun v h'=>∃ r,v = aG r∧K r h':=aA [(.agg (aL.C a0).toArray),(.pointer (some ⟨c0,0,none⟩))] Tryz.func54 rfl rfl rfl fun _=>ag<|ab<|aj (cQ (l:=(aL.C a0)) rfl rfl rfl fun b2=>aa (ae rfl) rfl<|ad<|ag<|ab<|aa (am tn rfl) rfl<|bw (bt (k:=0) bk rfl rfl rfl) rfl<|aj (bd H bk rfl (fun _=>rfl) rfl fun x6 H1=>aa (v_le rfl rfl) rfl<|aa (ac rfl) rfl<|ak rfl rfl rfl (aB _) (fun g2=>wv (am iT rfl)) rfl<|ak rfl rfl rfl (aB _) (fun g3=>cv (bt (k:=0) bk (aK rfl g3) rfl rfl)) rfl<|ak rfl rfl rfl (aB _) (fun g4=>wv (bV (aK rfl g4) rfl)) rfl<|ak rfl rfl rfl (aB _) (fun g5=>wv (ac (aK rfl g5))) rfl<|ak rfl rfl rfl (dW _ _) (fun g6=>wv (am iT rfl)) rfl<|ak rfl rfl rfl (dW _ _) (fun g7=>cv (bt (k:=0) bk (aK rfl g7) rfl rfl)) rfl<|bO H1 (fun k9 H10=>aF rfl rfl rfl ((gv_t (b_l k9) _).trans (congrArg Value.bool (cf (b_r k9)))) (bd H10 bk rfl (fun _=>rfl) rfl fun x15 H11=>aF rfl rfl rfl ((gv_t (b_l k9) _).trans (congrArg Value.bool (cf (b_r k9)))) (aJ (wv (qo (aK rfl k9) rfl)) rfl<|aF rfl rfl rfl (congrArg Value.bool (b_l k9)) (aJ (wv (an (aK rfl (b_l k9)) (cf (b_r k9)) rfl)) rfl<|aa (ba rfl (b_l k9) rfl) rfl<|aa (ae rfl) rfl<|ad<|ao<|aw (ay rfl (aD rfl)) ⟨(decide (a0.fEffect > x15)),rfl,H11⟩)))) (fun k9 H10=>ah rfl rfl rfl ((dW _ _).trans k9) rfl<|ah rfl rfl rfl ((dW _ _).trans k9) rfl<|ak rfl rfl rfl (aB _) (fun g12=>wv (ba (aK rfl g12) (bH (b_andr k9 g12)) rfl)) rfl<|aa (bX rfl rfl) rfl<|aa (ae rfl) rfl<|ad<|ao<|aw (ay rfl (aD rfl)) ⟨((decide (a0.fBegin ≤ x6)) && true),rfl,H10⟩)))
def sh_hist_Over (a0:Sl) (a1:Int) (K:Sl→Hp→Prop):Hp→Prop:=nw kJ [.int .i64 a1] fun b3=>cl Tryz.prog qf [(sv a0),(.func (.func te) #[] #[(.pointer (some ⟨b3,0,none⟩))])] cz fun r7=>K r7
set_option maxRecDepth 20000 in
theorem sim_hist_Over (a0:Sl) (a1:Int) {K:Sl→Hp→Prop} {h:Hp} (H:sh_hist_Over a0 a1 K h):Ct Tryz.prog n_hist_Over #[(sv a0),(.int .i64 a1)] h fun v h'=>∃ r,v = cz r∧K r h':=aA [(sv a0),(.int .i64 a1)] Tryz.func21 rfl rfl rfl fun _=>ag<|ab<|aj (hO rfl rfl rfl H fun b3 _ H1=>aa (ae rfl) rfl<|ad<|ag<|ab<|aa (ac rfl) rfl<|aa (v_func rfl rfl) rfl<|aj (az H1 en_53 rfl rfl fun r7 _ H2=>aa (ae rfl) rfl<|ad<|ao<|aw (ay rfl (aD rfl)) ⟨r7,rfl,H2⟩))
end Go.Proofs.YtniiiakkdoiaiaaGreatDoor
namespace Go.Proofs.YtniiiakkdoiaiaaGreatDoor
open Go Mb
namespace Hist
def placesFrom (P:cn→Bool):List cn→Int→List Int
  | [],_=>[]
  | e::es,i=>if P e = true then i::placesFrom P es (i + 1) else placesFrom P es (i + 1)
def places (P:cn→Bool) (es:List cn):List Int:=placesFrom P es 0
def ev00:cn:=KK.ev0 0 0 ⟨0,0,0,0,0⟩ 0
def eff (es:List cn) (i:Int):Int:=(es.getD i.toNat ev00).fEffect
def ins (key:Int→Int) (x:Int):List Int→List Int
  | []=>[x]
  | y::l=>if key x < key y then x::y::l else y::ins key x l
def isort (key:Int→Int):List Int→List Int
  | []=>[]
  | x::l=>ins key x (isort key l)
def effs (es:List cn):List Int:=places (fun e=>decide (e.fEffect > 0)) es
def order (es:List cn):List Int:=isort (eff es) (effs es)
def over (es:List cn) (at_:Int):List Int:=places (fun e=>decide (e.fBegin ≤ at_) && (e.fEffect == 0 || decide (e.fEffect > at_))) es
def done (es:List cn):List Int:=places (fun e=>e.fEnd != 0) es
def endOf (ends:List (Int × Int)) (c:Int):Option Int:=(ends.find? (fun p=>p.1 == c)).map (·.2)
def stops (ends:List (Int × Int)) (e:cn):Bool:=match endOf ends e.fCore with
  | some n=>decide (n ≤ 0) || decide (e.fBegin ≤ n)
  | none=>false
def mayFrom (s:kR):List cn→Int→List Int→List (Int × Int)→Bool
  | [],_,_,_=>true
  | e::es,last,seen,ends=>if fE e s last = false∨(e.fEffect > 0∧e.fEffect ∈ seen) then false else if stops ends e = true then false else mayFrom s es e.fBegin (e.fEffect::seen) ((e.fCore,e.fEnd)::ends)
def may (es:List cn) (s:kR):Bool:=mayFrom s es 0 [] []
theorem placesFrom_app (P:cn→Bool) (e:cn):∀ (es:List cn) (i:Int),placesFrom P (es++[e]) i = placesFrom P es i++(if P e = true then [i + es.length] else [])
  | [],i=>by simp only [List.nil_append,placesFrom]; split <;> simp
  | d::es,i=>by
    simp only [List.cons_append,placesFrom]
    rw [placesFrom_app P e es (i + 1)]
    have e1:i + 1 + (es.length:Int) = i + ((d::es).length:Int):=by simp; omega
    rw [e1]
    split <;> simp
theorem placesFrom_len (P:cn→Bool):∀ (es:List cn) (i:Int),(placesFrom P es i).length ≤ es.length
  | [],_=>Nat.le_refl _
  | e::es,i=>by unfold placesFrom; have:=placesFrom_len P es (i + 1); split <;> simp <;> omega
theorem placesFrom_c (P:cn→Bool) (d:cn) (es:List cn) (i:Int):placesFrom P (d::es) i = if P d = true then i::placesFrom P es (i + 1) else placesFrom P es (i + 1):=rfl
theorem mem_placesFrom {P:cn→Bool} {x:Int}:∀ {es:List cn} {i:Int},x ∈ placesFrom P es i↔∃ (n:Nat) (e:cn),es[n]? = some e∧x = i + n∧P e = true
  | [],i=>by simp [placesFrom]
  | d::es,i=>by
    have ih:=mem_placesFrom (P:=P) (x:=x) (es:=es) (i:=i + 1)
    have sp:(∃ (n:Nat) (e:cn),(d::es)[n]? = some e∧x = i + n∧P e = true)↔(x = i∧P d = true)∨∃ (n:Nat) (e:cn),es[n]? = some e∧x = i + 1 + n∧P e = true:=by
      constructor
      · rintro ⟨n,e,h1,h2,h3⟩
        cases n with
        | zero=>simp at h1; subst h1; exact .inl ⟨by simpa using h2,h3⟩
        | succ n=>exact .inr ⟨n,e,by simpa using h1,by omega,h3⟩
      · rintro (⟨h2,h3⟩ | ⟨n,e,h1,h2,h3⟩)
        · exact ⟨0,d,rfl,by simpa using h2,h3⟩
        · exact ⟨n + 1,e,by simpa using h1,by omega,h3⟩
    rw [sp,← ih,placesFrom_c]
    split
    · rename_i hd
      rw [List.mem_cons]
      constructor
      · rintro (h | h)
        · exact .inl ⟨h,hd⟩
        · exact .inr h
      · rintro (h | h)
        · exact .inl h.1
        · exact .inr h
    · rename_i hd
      constructor
      · exact .inr
      · rintro (h | h)
        · exact absurd h.2 hd
        · exact h
theorem mem_places {P:cn→Bool} {x:Int} {es:List cn}:x ∈ places P es↔∃ (n:Nat) (e:cn),es[n]? = some e∧x = n∧P e = true:=by
  unfold places
  rw [mem_placesFrom]
  simp
theorem places_in {P:cn→Bool} {x:Int} {es:List cn} (h:x ∈ places P es):0 ≤ x∧x < es.length:=by
  obtain ⟨n,e,h1,rfl,_⟩:=mem_places.1 h
  have:=(List.getElem?_eq_some_iff.1 h1).1
  omega
theorem ins_perm (key:Int→Int) (x:Int):∀ l,(ins key x l).Perm (x::l)
  | []=>.refl _
  | y::l=>by
    unfold ins; split
    · exact .refl _
    · exact ((ins_perm key x l).cons y).trans (.swap _ _ _)
theorem isort_perm (key:Int→Int):∀ l,(isort key l).Perm l
  | []=>.refl _
  | x::l=>(ins_perm key x _).trans ((isort_perm key l).cons x)
theorem ins_up (key:Int→Int) (x:Int):∀ l,Up key l→Up key (ins key x l)
  | [],_=>List.pairwise_singleton _ _
  | y::l,h=>by
    obtain ⟨h1,h2⟩:=List.pairwise_cons.1 h
    unfold ins; split
    · rename_i hx
      refine List.pairwise_cons.2 ⟨fun z hz=>?_,h⟩
      rcases List.mem_cons.1 hz with rfl | hz
      · omega
      · have:=h1 z hz; omega
    · rename_i hx
      refine List.pairwise_cons.2 ⟨fun z hz=>?_,ins_up key x l h2⟩
      rcases List.mem_cons.1 ((ins_perm key x l).subset hz) with rfl | hz
      · omega
      · exact h1 z hz
theorem isort_up (key:Int→Int):∀ l,Up key (isort key l)
  | []=>.nil
  | x::l=>ins_up key x _ (isort_up key l)
def Apart (es:List cn):Prop:=∀ a b,a ∈ effs es→b ∈ effs es→eff es a = eff es b→a = b
theorem order_of {es:List cn} (ha:Apart es) {l:List Int} (hp:l.Perm (effs es)) (hu:Up (eff es) l):l = order es:=by
  refine List.Perm.eq_of_pairwise (le:=fun x y=>eff es x ≤ eff es y) (fun a b h1 h2 h3 h4=>?_) hu (isort_up _ _) (hp.trans (isort_perm _ _).symm)
  exact ha a b (hp.subset h1) ((isort_perm _ _).subset h2) (by omega)
theorem mayFrom_apart {s:kR}:∀ {es:List cn} {last:Int} {seen:List Int} {ends:List (Int × Int)},mayFrom s es last seen ends = true →
    (∀ (n:Nat) e,es[n]? = some e→e.fEffect > 0→e.fEffect ∉ seen)∧∀ (n m:Nat) e d,es[n]? = some e→es[m]? = some d→e.fEffect > 0→e.fEffect = d.fEffect→n = m
  | [],_,_,_,_=>⟨fun n e h=>by simp at h,fun n m e d h=>by simp at h⟩
  | e0::es,last,seen,ends,h=>by
    unfold mayFrom at h
    split at h
    · cases h
    · split at h
      · cases h
      · rename_i h1 _
        obtain ⟨i1,i2⟩:=mayFrom_apart h
        have h0:e0.fEffect > 0→e0.fEffect ∉ seen:=fun hp hm=>h1 (.inr ⟨hp,hm⟩)
        refine ⟨fun n e hn hp=>?_,fun n m e d hn hm hp he=>?_⟩
        · cases n with
          | zero=>simp at hn; subst hn; exact h0 hp
          | succ n=>exact fun hm=>i1 n e (by simpa using hn) hp (by simp [hm])
        · cases n with
          | zero =>
            cases m with
            | zero=>rfl
            | succ m =>
              simp at hn; subst hn
              exact absurd (by simp [he]) (i1 m d (by simpa using hm) (by omega))
          | succ n =>
            cases m with
            | zero =>
              simp at hm; subst hm
              exact absurd (by simp [he]) (i1 n e (by simpa using hn) hp)
            | succ m=>rw [i2 n m e d (by simpa using hn) (by simpa using hm) hp he]
theorem eff_nat {es:List cn} {n:Nat} {e:cn} (h:es[n]? = some e):eff es n = e.fEffect:=by simp [eff,h]
theorem may_apart {es:List cn} {s:kR} (h:may es s = true):Apart es:=by
  intro a b ha hb he
  obtain ⟨n,e,h1,rfl,h2⟩:=mem_places.1 ha
  obtain ⟨m,d,h3,rfl,h4⟩:=mem_places.1 hb
  rw [eff_nat h1,eff_nat h3] at he
  rw [(mayFrom_apart h).2 n m e d h1 h3 (by simpa using h2) he]
end Hist
theorem sp_hist_places (s:Sl) (es:List cn) (v:Value) (P:cn→Bool) (A:List As) (hb:es.length < 2 ^ 38)
    (hv:∀ e ∈ es,SpV Tryz.prog v [.agg e.C.toArray] aG (vE s es::A) (fun r=>pa_ (r = P e) (vE s es::A))) :
    Sp Tryz.prog qf [sv s,v] cz (vE s es::A) (fun r=>aO (vI r (Hist.places P es)::vE s es::A)):=by
  intro h s0
  have hl:=(cr (j:=0) s0 rfl).1
  refine sim_hist_places _ _ ?_
  unfold sh_hist_places
  refine Lp.intro (fun (z:Sl × Int) h=>∃ n:Nat,z.2 = n∧n ≤ es.length∧aO (vI z.1 (Hist.placesFrom P (es.take n) 0)::vE s es::A) h) (fun (z:Sl × Int) _=>es.length - z.2.toNat) ⟨0,rfl,Nat.zero_le _,eN s0⟩ ?_
  rintro ⟨z,i⟩ h ⟨n,rfl,hn,s1⟩
  unfold tj
  refine bi (fun k=>?_) (fun k=>?_)
  · have hlt:n < es.length:=by rw [hl] at k; simpa using k
    have hw:IntKind.i64.wrap ((n:Int) + 1) = ((n + 1:Nat):Int):=by rw [cj (by omega) (by omega)]; rfl
    have ht:es.take (n + 1) = es.take n++[es[n]]:=by simp
    have hlen:((es.take n).length:Int) = n:=by simp; omega
    have hpl:=Hist.placesFrom_len P (es.take n) 0
    simp at hpl
    refine dF s1 (j:=1) rfl (by omega) (by show (n:Int) < _; omega) fun q hq=>?_
    refine eC (j:=1) (i:=n) (k:=0) es[n] nl s1 rfl hq rfl (aN hlt) (by simp) ?_
    refine clv_t (hv es[n] (List.getElem_mem hlt)) s1 fun r h2 s2=>?_
    obtain ⟨hr,s3⟩:=bD.1 s2
    have s4:=star_rot s3
    rw [hw]
    refine bi (fun k2=>?_) (fun k2=>?_)
    · refine vR s4 (i:=0) rfl (by omega) fun v h' s5=>?_
      refine ⟨⟨n + 1,rfl,hlt,?_⟩,by simp; omega⟩
      rw [ht,Hist.placesFrom_app,if_pos (by rw [← hr,k2]),hlen,Int.zero_add]
      exact s5
    · refine ⟨⟨n + 1,rfl,hlt,?_⟩,by simp; omega⟩
      rw [ht,Hist.placesFrom_app,if_neg (by rw [← hr,k2]; exact Bool.false_ne_true),List.append_nil]
      exact s4
  · have:n = es.length:=by rw [hl] at k; simp at k; omega
    subst this
    rw [List.take_length] at s1
    exact s1
theorem cmp_neg (x y:Int):fP x y < 0↔x < y:=by
  unfold fP eu
  simp only [bne_self_eq_false,cond_false]
  by_cases h1:x < y
  · simp [h1]
  · by_cases h2:x > y
    · simp [h1,h2]
    · simp [h1,h2]
theorem sp_hist_Over (s:Sl) (es:List cn) (a:Int) (hb:es.length < 2 ^ 38):Sp Tryz.prog n_hist_Over [sv s,.int .i64 a] cz [vE s es] (fun r=>aO [vI r (Hist.over es a),vE s es]):=by
  intro h s0
  refine sim_hist_Over _ _ ?_
  unfold sh_hist_Over
  refine oW s0 fun b3 h1 s1=>?_
  refine cR [1,0] (sp_hist_places s es _ (fun e=>decide (e.fBegin ≤ a) && (e.fEffect == 0 || decide (e.fEffect > a))) [blk b3 kJ [.int .i64 a]] hb ?_) s1 rfl fun r h2 s2=>?_
  · intro e he
    refine ⟨_,_,_,rfl,enter_hist_Over_c1,fun h s3=>?_⟩
    refine sim_hist_Over_c1 e b3 ?_
    unfold sh_hist_Over_c1
    refine bA a s3 (i:=1) rfl rfl rfl ?_
    refine bi (fun k=>?_) (fun k=>?_)
    · refine bA a s3 (i:=1) rfl rfl rfl ?_
      rw [Bool.and_eq_true] at k
      refine bg ?_ s3
      have k2:(e.fEffect == 0) = false:=by simpa using k.2
      rw [k.1,k2]; rfl
    · refine bg ?_ s3
      cases k1:decide (e.fBegin ≤ a) with
      | false=>rfl
      | true =>
        rw [k1] at k
        have k2:(e.fEffect == 0) = true:=by simpa using k
        rw [k2]; rfl
  · have s3:=dJ s2
    exact nv (l:=[vI r (Hist.over es a),vE s es]) s3
theorem sp_hist_Order20 (s:Sl) (es:List cn) (hb:es.length ≤ 20) (ha:Hist.Apart es):Sp Tryz.prog oJ [sv s] cz [vE s es] (fun r=>aO [vI r (Hist.order es),vE s es]):=by
  intro h s0
  refine sim_hist_Order _ ?_
  unfold sh_hist_Order
  refine oW s0 fun b1 h1 s1=>?_
  refine bA s s1 (i:=0) rfl rfl rfl ?_
  refine cR [1,0] (sp_hist_places s es _ (fun e=>decide (e.fEffect > 0)) [blk b1 eO [sv s]] (by omega) ?_) s1 rfl fun r h2 s2=>?_
  · intro e he
    refine ⟨_,_,_,rfl,enter_hist_Order_c1,fun h s3=>?_⟩
    exact (ct_hist_Order_c1 e h).mono fun v h' ⟨r,hv,hr,hh⟩=>⟨r,hv,hr,by rw [hh]; exact s3⟩
  · have s3:=dJ s2
    have hpl:=Hist.placesFrom_len (fun e=>decide (e.fEffect > 0)) es 0
    refine cR [0,0,0] (sp_SortStable20 r _ [vE s es,blk b1 eO [sv s]] (Hist.eff es) (fun x=>0 ≤ x∧x < es.length) ?_ (Hist.effs es) (fun x hx=>Hist.places_in hx) (by unfold Hist.effs Hist.places; omega)) s3 rfl fun u h4 s4=>?_
    · rintro x y ⟨hx0,hx⟩ ⟨hy0,hy⟩
      refine ⟨_,_,_,rfl,enter_hist_Order_c2,fun h s5=>?_⟩
      obtain ⟨n,rfl⟩:=Int.eq_ofNat_of_zero_le hx0
      obtain ⟨m,rfl⟩:=Int.eq_ofNat_of_zero_le hy0
      have hn:n < es.length:=by omega
      have hm:m < es.length:=by omega
      refine sim_hist_Order_c2 n m b1 ?_
      unfold vj
      refine bA s s5 (i:=1) rfl rfl rfl ?_
      refine dF s5 (j:=0) rfl (by omega) (by omega) fun q hq=>?_
      refine eC (j:=0) (i:=n) (k:=8) es[n].fEffect nl s5 rfl hq rfl (aN hn) (c1 rfl rfl) ?_
      refine bA s s5 (i:=1) rfl rfl rfl ?_
      refine dF s5 (j:=0) rfl (by omega) (by omega) fun q2 hq2=>?_
      refine eC (j:=0) (i:=m) (k:=8) es[m].fEffect nl s5 rfl hq2 rfl (aN hm) (c1 rfl rfl) ?_
      refine bg ?_ s5
      rw [cmp_neg,Hist.eff_nat (aN hn),Hist.eff_nat (aN hm)]
    · obtain ⟨g1,g2,d,rfl,⟨m',⟨p1,p2⟩,s5⟩,s6⟩:=s4
      rw [Hist.order_of ha p1 p2] at s5
      exact sf (nv (l:=[vI r (Hist.order es),vE s es]) s5) d
theorem sp_hist_May (s:Sl) (es:List cn) (z:kR) (hb:es.length < 2 ^ 38):Sp Tryz.prog tf [sv s,.agg z.C.toArray] aG [vE s es] (fun r=>pa_ (r = Hist.may es z) [vE s es]):=by
  intro h s0
  have hl:=(cr (j:=0) s0 rfl).1
  refine sim_hist_May _ _ ?_
  unfold sh_hist_May
  refine makeMap_m (τ:=Bool) (val:=fun x=>.bool x) rfl s0 fun b1 h1 s1=>?_
  refine makeMap_m (τ:=Int) (val:=fun x=>.int .i64 x) rfl s1 fun b2 h2 s2=>?_
  refine Lp.intro (fun (y:Int × Int) h=>∃ (n:Nat) (seen:List Int) (ends:List (Int × Int)),y.2 = n∧n ≤ es.length∧Hist.mayFrom z (es.drop n) y.1 seen ends = Hist.may es z∧aO [mapA b2 (fun x=>Value.int .i64 x) (Hist.endOf ends),mapA b1 (fun x=>Value.bool x) (fun x=>if x ∈ seen then some true else none),vE s es] h) (fun (y:Int × Int) _=>es.length - y.2.toNat) ⟨0,[],[],rfl,Nat.zero_le _,rfl,?_⟩ ?_
  · have e1:(fun x:Int=>if x ∈ ([]:List Int) then some true else none) = fun _=>none:=by funext x; simp
    have e2:Hist.endOf [] = fun _=>none:=by funext x; rfl
    rw [e1,e2]; exact s2
  rintro ⟨last,i⟩ h ⟨n,seen,ends,rfl,hn,he,s3⟩
  unfold hist_May_l1
  simp only at he ⊢
  refine bi (fun k=>?_) (fun k=>?_)
  · have hlt:n < es.length:=by rw [hl] at k; simpa using k
    have hw:IntKind.i64.wrap ((n:Int) + 1) = ((n + 1:Nat):Int):=by rw [cj (by omega) (by omega)]; rfl
    rw [List.drop_eq_getElem_cons hlt,Hist.mayFrom] at he
    refine dF s3 (j:=2) rfl (by omega) (by omega) fun q hq=>?_
    refine eC (j:=2) (i:=n) (k:=0) es[n] nl s3 rfl hq rfl (aN hlt) (by simp) ?_
    have rest:¬ (fE es[n] z last = false∨(es[n].fEffect > 0∧es[n].fEffect ∈ seen))→∀ K:(Int × Int)→Hp→Prop,
        (∀ (s':Int × Int) h',s'.1 = es[n].fBegin∧s'.2 = ((n + 1:Nat):Int)→Hist.stops ends es[n] = false→aO [mapA b2 (fun x=>Value.int .i64 x) (Hist.endOf ((es[n].fCore,es[n].fEnd)::ends)),mapA b1 (fun x=>Value.bool x) (fun x=>if x ∈ es[n].fEffect::seen then some true else none),vE s es] h'→K s' h') →
        hpv Tryz.prog (Instr.lookup gS (.map (some b2)) (.int .i64 es[n].fCore) true) bU (fun (v40:Int × Bool) =>
          br (v40.2 && ((decide (v40.1 ≤ 0)) || (decide (es[n].fBegin ≤ v40.1)))) (pa_ (false = Hist.may es z) [vE s es]) (
          hpu Tryz.prog (Instr.mapUpdate jp (.map (some b1)) (.int .i64 es[n].fEffect) (.bool true)) <|
          hpu Tryz.prog (Instr.mapUpdate gS (.map (some b2)) (.int .i64 es[n].fCore) (.int .i64 es[n].fEnd)) <|
          K (es[n].fBegin,((n + 1:Nat):Int)))) h:=by
      intro hno K hK
      rw [if_neg hno] at he
      refine lookup_m (j:=0) mp_map_int_int s3 rfl ((Hist.endOf ends es[n].fCore).getD 0,(Hist.endOf ends es[n].fCore).isSome) ?_ ?_
      · rw [if_pos rfl]; unfold bU
        cases Hist.endOf ends es[n].fCore <;> rfl
      · have hst:((Hist.endOf ends es[n].fCore).isSome && ((decide ((Hist.endOf ends es[n].fCore).getD 0 ≤ 0)) || (decide (es[n].fBegin ≤ (Hist.endOf ends es[n].fCore).getD 0)))) = Hist.stops ends es[n]:=by
          unfold Hist.stops
          cases Hist.endOf ends es[n].fCore <;> simp
        show br ((Hist.endOf ends es[n].fCore).isSome && ((decide ((Hist.endOf ends es[n].fCore).getD 0 ≤ 0)) || (decide (es[n].fBegin ≤ (Hist.endOf ends es[n].fCore).getD 0)))) _ _ h
        rw [hst]
        refine bi (fun k2=>?_) (fun k2=>?_)
        · rw [if_pos k2] at he
          exact bg he (co (l:=[_,_]) s3)
        · refine update_m (j:=1) (w:=true) mp_map_int_bool s3 rfl rfl fun h4 s4=>?_
          refine update_m (j:=0) (w:=es[n].fEnd) mp_map_int_int s4 rfl rfl fun h5 s5=>?_
          refine hK _ _ ⟨rfl,rfl⟩ k2 ?_
          have e1:(fun y=>if y = es[n].fCore then some es[n].fEnd else Hist.endOf ends y) = Hist.endOf ((es[n].fCore,es[n].fEnd)::ends):=by
            funext y
            unfold Hist.endOf
            by_cases hy:y = es[n].fCore
            · subst hy; simp
            · have:(es[n].fCore == y) = false:=by simpa using fun e=>hy e.symm
              simp [hy,this]
          have e2:(fun y=>if y = es[n].fEffect then some true else if y ∈ seen then some true else none) = fun x=>if x ∈ es[n].fEffect::seen then some true else none:=by
            funext y
            by_cases hy:y = es[n].fEffect <;> simp [hy]
          rw [← e1,← e2]
          exact s5
    have go:¬ (fE es[n] z last = false∨(es[n].fEffect > 0∧es[n].fEffect ∈ seen))→∀ (s':Int × Int) h',s'.1 = es[n].fBegin∧s'.2 = ((n + 1:Nat):Int)→Hist.stops ends es[n] = false→aO [mapA b2 (fun x=>Value.int .i64 x) (Hist.endOf ((es[n].fCore,es[n].fEnd)::ends)),mapA b1 (fun x=>Value.bool x) (fun x=>if x ∈ es[n].fEffect::seen then some true else none),vE s es] h' →
        (∃ (n:Nat) (seen:List Int) (ends:List (Int × Int)),s'.2 = n∧n ≤ es.length∧Hist.mayFrom z (es.drop n) s'.1 seen ends = Hist.may es z∧aO [mapA b2 (fun x=>Value.int .i64 x) (Hist.endOf ends),mapA b1 (fun x=>Value.bool x) (fun x=>if x ∈ seen then some true else none),vE s es] h')∧es.length - s'.2.toNat < es.length - (n:Int).toNat:=by
      rintro hno ⟨u,w⟩ h' ⟨h4,h5⟩ hst s4
      simp only at h4 h5
      subst h4; subst h5
      rw [if_neg hno,if_neg (by rw [hst]; exact Bool.false_ne_true)] at he
      exact ⟨⟨n + 1,_,_,rfl,hlt,he,s4⟩,by simp; omega⟩
    rw [hw]
    refine bi (fun k2=>?_) (fun k2=>?_)
    · rw [Bool.and_eq_true] at k2
      have k1:fE es[n] z last = true:=by simpa using k2.1
      have kp:es[n].fEffect > 0:=by simpa using k2.2
      refine lookup_m (j:=1) mp_map_int_bool s3 rfl (decide (es[n].fEffect ∈ seen)) ?_ ?_
      · rw [if_neg Bool.false_ne_true]; unfold aG
        by_cases hm:es[n].fEffect ∈ seen <;> simp [hm]
      · refine bi (fun k3=>?_) (fun k3=>?_)
        · have hm:es[n].fEffect ∈ seen:=of_decide_eq_true k3
          rw [if_pos (.inr ⟨kp,hm⟩)] at he
          exact bg he (co (l:=[_,_]) s3)
        · have hm:es[n].fEffect ∉ seen:=of_decide_eq_false k3
          have hno:¬ (fE es[n] z last = false∨(es[n].fEffect > 0∧es[n].fEffect ∈ seen)):=by simp [k1,hm]
          exact rest hno _ (go hno)
    · refine bi (fun k3=>?_) (fun k3=>?_)
      · have k1:fE es[n] z last = false:=by simpa using k3
        rw [if_pos (.inl k1)] at he
        exact bg he (co (l:=[_,_]) s3)
      · have k1:fE es[n] z last = true:=by simpa using k3
        have kp:¬ es[n].fEffect > 0:=by simp [k1] at k2; omega
        have hno:¬ (fE es[n] z last = false∨(es[n].fEffect > 0∧es[n].fEffect ∈ seen)):=by simp [k1]; intro hh; exact absurd hh kp
        exact rest hno _ (go hno)
  · have:n = es.length:=by rw [hl] at k; simp at k; omega
    subst this
    rw [List.drop_length] at he
    exact bg he (co (l:=[_,_]) s3)
end Go.Proofs.YtniiiakkdoiaiaaGreatDoor
