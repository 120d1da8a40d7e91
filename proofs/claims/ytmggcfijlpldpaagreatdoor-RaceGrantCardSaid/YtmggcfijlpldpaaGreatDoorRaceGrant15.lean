/- Part of the proof of: The law RaceGrant returns true for every input, and leaves its arguments as they were. -/
import Derived.Test.YtmggcfijlpldpaaGreatDoorRaceGrant14
set_option linter.all false
set_option maxRecDepth 20000
namespace Go.Proofs.YtmggcfijlpldpaaGreatDoor
open Go Mb
def CmpOk (v:Value) (A:List As) (key:Int→Int) (S:Int→Prop):Prop :=
  ∀ x y,S x→S y→SpV Tryz.prog v [.int .i64 x,.int .i64 y] eo A (fun r=>pa_ (r < 0↔key x < key y) A)
abbrev Up (key:Int→Int) (l:List Int):Prop:=l.Pairwise fun x y=>key x ≤ key y
theorem mid_get {L R:List Int} {x:Int}:(L++x::R)[L.length]? = some x:=by simp
theorem mid_get1 {L R:List Int} {x y:Int}:(L++x::y::R)[L.length + 1]? = some y:=by
  rw [List.getElem?_append_right (by omega),show L.length + 1 - L.length = 1 from by omega]; rfl
theorem mid_set {L R:List Int} {x v:Int}:(L++x::R).set L.length v = L++v::R:=by simp
theorem mid_set1 {L R:List Int} {x y v:Int}:(L++x::y::R).set (L.length + 1) v = L++x::v::R:=by
  rw [List.set_append_right _ _ (by omega),show L.length + 1 - L.length = 1 from by omega]; rfl
theorem up_insert {key:Int→Int} {a1 a2:List Int} {y:Int} (h:Up key (a1++a2)) (h1:∀ x ∈ a1,key x ≤ key y) (h2:∀ x ∈ a2,key y < key x):Up key (a1++y::a2):=by
  obtain ⟨p1,p2,p3⟩:=List.pairwise_append.1 h
  refine List.pairwise_append.2 ⟨p1,List.pairwise_cons.2 ⟨fun x hx=>Int.le_of_lt (h2 x hx),p2⟩,fun x hx z hz=>?_⟩
  rcases List.mem_cons.1 hz with rfl | hz
  · exact h1 x hx
  · exact p3 x hx z hz
theorem sp_insertion (s:Sl) (v:Value) (A:List As) (key:Int→Int) (S:Int→Prop) (hv:CmpOk v A key S) (p m q:List Int) (hS:∀ x ∈ m,S x) (hb:p.length + m.length + q.length < 2 ^ 60) :
    Sp Tryz.prog bT [sv s,.int .i64 p.length,.int .i64 (p.length + m.length:Nat),v] R_ (vI s (p++(m++q))::A) (fun _ h=>∃ m',(m'.Perm m∧Up key m')∧aE (vI s (p++(m'++q))::A) h):=by
  intro h s0
  have hl:=(cd (j:=0) s0 rfl).1
  refine my _ _ _ _ ?_
  unfold gX
  have hw0:IntKind.i64.wrap ((p.length:Int) + 1) = ((p.length + 1:Nat):Int):=by rw [bR (by omega) (by omega)]; rfl
  rw [hw0]
  cases m with
  | nil =>
    refine Lp.intro (fun (i:Int) h=>i = ((p.length + 1:Nat):Int)∧aE (vI s (p++([]++q))::A) h) (fun _ _=>0) ⟨rfl,s0⟩ ?_
    rintro i h ⟨rfl,s1⟩
    unfold dy
    refine cZ (by simp; omega) ?_
    exact ⟨[],⟨.refl _,.nil⟩,s1⟩
  | cons x0 t0 =>
    refine Lp.intro (fun (i:Int) h=>∃ a b:List Int,i = ((p.length + a.length:Nat):Int)∧Up key a∧(a++b).Perm (x0::t0)∧aE (vI s (p++((a++b)++q))::A) h) (fun (i:Int) _=>p.length + (x0::t0).length - i.toNat) ⟨[x0],t0,rfl,List.pairwise_singleton _ _,.refl _,s0⟩ ?_
    rintro i h ⟨a,b,rfl,ha,hp,s1⟩
    have hlen:=hp.length_eq
    simp only [List.length_append] at hlen
    have hsl:=(cd (j:=0) s1 rfl).1
    unfold dy
    refine aV (fun k=>?_) (fun k=>?_)
    · have hbp:0 < b.length:=by have:=of_decide_eq_true k; omega
      obtain ⟨y,b',rfl⟩:=List.exists_cons_of_length_pos hbp
      have hS':∀ x ∈ a++y::b',S x:=fun x hx=>hS x (hp.subset hx)
      have hw1:IntKind.i64.wrap (((p.length + a.length:Nat):Int) + 1) = ((p.length + a.length + 1:Nat):Int):=by rw [bR (by omega) (by omega)]; rfl
      have out:∀ (a1 a2:List Int) (h:Hp),a1++a2 = a→(∀ x ∈ a1,key x ≤ key y)→(∀ x ∈ a2,key y < key x)→aE (vI s (p++((a1++y::(a2++b'))++q))::A) h →
          (fun (s':Int) h'=>(∃ a b:List Int,s' = ((p.length + a.length:Nat):Int)∧Up key a∧(a++b).Perm (x0::t0)∧aE (vI s (p++((a++b)++q))::A) h')∧p.length + (x0::t0).length - s'.toNat < p.length + (x0::t0).length - ((p.length + a.length:Nat):Int).toNat) (IntKind.i64.wrap (((p.length + a.length:Nat):Int) + 1)) h:=by
        intro a1 a2 h he h1 h2 s2
        subst he
        rw [hw1]
        refine ⟨⟨a1++y::a2,b',by simp; omega,up_insert ha h1 h2,?_,?_⟩,by simp at hlen ⊢; omega⟩
        · refine List.Perm.trans ?_ hp
          have:(a1++y::a2++b').Perm (a1++a2++y::b'):=by
            rw [List.append_assoc,List.append_assoc]
            refine List.Perm.append_left a1 ?_
            simpa using (List.perm_middle (a:=y) (l₁:=a2) (l₂:=b')).symm
          exact this
        · have:a1++y::a2++b' = a1++y::(a2++b'):=by simp
          rw [this]; exact s2
      refine Lp.intro (fun (j:Int) h=>∃ a1 a2:List Int,a1++a2 = a∧j = ((p.length + a1.length:Nat):Int)∧(∀ x ∈ a2,key y < key x)∧aE (vI s (p++((a1++y::(a2++b'))++q))::A) h) (fun (j:Int) _=>j.toNat) ⟨a,[],by simp,rfl,fun x hx=>(by cases hx),by simpa using s1⟩ ?_
      rintro j h ⟨a1,a2,he,rfl,h2,s2⟩
      unfold eJ
      refine aV (fun k2=>?_) (fun k2=>?_)
      · have hne:a1 ≠ []:=by
          intro e; subst e; simp at k2
        obtain ⟨L0,z,rfl⟩:∃ L z,a1 = L++[z]:=⟨a1.dropLast,a1.getLast hne,(List.dropLast_concat_getLast hne).symm⟩
        have hal:a.length = L0.length + 1 + a2.length:=by rw [← he]; simp; omega
        have hdec:p++((L0++[z]++y::(a2++b'))++q) = (p++L0)++z::y::(a2++b'++q):=by simp
        rw [hdec] at s2
        have hlL:(p++L0).length = p.length + L0.length:=by simp
        have hj:((p.length + (L0++[z]).length:Nat):Int) = (((p++L0).length + 1:Nat):Int):=by simp; omega
        rw [hj]
        have hsl2:=(cd (j:=0) s2 rfl).1
        have hw2:IntKind.i64.wrap ((((p++L0).length + 1:Nat):Int) - 1) = (((p++L0).length:Nat):Int):=by rw [bR (by omega) (by omega)]; omega
        rw [hw2]
        refine du s2 (j:=0) rfl (by omega) (by simp; omega) fun q1 hq1=>?_
        refine du s2 (j:=0) rfl (by omega) (by simp; omega) fun q2 hq2=>?_
        refine ef (j:=0) (i:=(p++L0).length + 1) (k:=0) y (cW _) s2 rfl hq1 (by rw [Int.toNat_natCast]; rfl) mid_get1 (by simp) ?_
        refine ef (j:=0) (i:=(p++L0).length) (k:=0) z (cW _) s2 rfl hq2 (by rw [Int.toNat_natCast]; rfl) mid_get (by simp) ?_
        have hSy:S y:=hS' y (by simp)
        have hSz:S z:=hS' z (by rw [← he]; simp)
        refine clv_t (hv y z hSy hSz) s2 fun r h3 s3=>?_
        obtain ⟨hr,s4⟩:=bn.1 s3
        have s5:=star_rot s4
        refine aV (fun k3=>?_) (fun k3=>?_)
        · have k3':key y < key z:=hr.1 (of_decide_eq_true k3)
          refine ef (j:=0) (i:=(p++L0).length) (k:=0) z (cW _) s5 rfl hq2 (by rw [Int.toNat_natCast]; rfl) mid_get (by simp) ?_
          refine ef (j:=0) (i:=(p++L0).length + 1) (k:=0) y (cW _) s5 rfl hq1 (by rw [Int.toNat_natCast]; rfl) mid_get1 (by simp) ?_
          refine st_v (j:=0) (i:=(p++L0).length + 1) (k:=0) z (cW _) s5 rfl hq1 (by rw [Int.toNat_natCast]; rfl) mid_get1 (by simp) rfl fun h6 s6=>?_
          rw [mid_set1] at s6
          refine st_v (j:=0) (i:=(p++L0).length) (k:=0) y (cW _) s6 rfl hq2 (by rw [Int.toNat_natCast]; rfl) mid_get (by simp) rfl fun h7 s7=>?_
          refine ⟨⟨L0,z::a2,by rw [← he]; simp,by rw [hlL],fun x hx=>?_,?_⟩,by simp only [Int.toNat_natCast]; omega⟩
          · rcases List.mem_cons.1 hx with rfl | hx
            · exact k3'
            · exact h2 x hx
          · have e2:p++((L0++y::(z::a2++b'))++q) = (p++L0)++y::z::(a2++b'++q):=by simp
            rw [e2]
            have s8:aE (vI s (((p++L0)++z::z::(a2++b'++q)).set (p++L0).length y)::A) h7:=s7
            rw [mid_set] at s8
            exact s8
        · have k3':key z ≤ key y:=by
            have:¬ key y < key z:=fun hh=>by have:=hr.2 hh; simp at k3; omega
            omega
          refine out (L0++[z]) a2 h3 he (fun x hx=>?_) h2 (by rw [hdec]; exact s5)
          have hup:Up key (L0++[z]):=by
            rw [← he] at ha
            exact (List.pairwise_append.1 ha).1
          rcases List.mem_append.1 hx with hx | hx
          · have:=(List.pairwise_append.1 hup).2.2 x hx z (by simp)
            omega
          · rw [List.mem_singleton.1 hx]; exact k3'
      · have e:a1 = []:=by
          have:=of_decide_eq_false k2
          exact List.eq_nil_of_length_eq_zero (by omega)
        subst e
        exact out [] a2 h he (fun x hx=>by cases hx) h2 s2
    · have hb0:b = []:=by
        have:=of_decide_eq_false k
        exact List.eq_nil_of_length_eq_zero (by omega)
      subst hb0
      rw [List.append_nil] at hp s1
      exact ⟨a,⟨hp,ha⟩,s1⟩
theorem sp_SortStable20 (s:Sl) (v:Value) (A:List As) (key:Int→Int) (S:Int→Prop) (hv:CmpOk v A key S) (m:List Int) (hS:∀ x ∈ m,S x) (hb:m.length ≤ 20) :
    Sp Tryz.prog fA [sv s,v] R_ (vI s m::A) (fun _ h=>∃ m',(m'.Perm m∧Up key m')∧aE (vI s m'::A) h):=by
  intro h s0
  have hl:=(cd (j:=0) s0 rfl).1
  refine nN _ _ ?_
  unfold iw
  unfold cl
  refine qM _ _ _ ?_
  unfold kG
  rw [hl]
  have ins:∀ (p m q:List Int) (h:Hp) (K:Unit→Hp→Prop),(∀ x ∈ m,S x)→p.length + m.length + q.length < 2 ^ 60→aE (vI s (p++(m++q))::A) h→(∀ m' h',m'.Perm m→Up key m'→aE (vI s (p++(m'++q))::A) h'→K () h') →
      cl Tryz.prog bT [sv s,.int .i64 p.length,.int .i64 (p.length + m.length:Nat),v] R_ K h:=by
    intro p m q h K h1 h2 s1 k
    refine (sp_insertion s v A key S hv p m q h1 h2 h s1).mono ?_
    rintro u h' ⟨r,e,m',⟨p1,p2⟩,s2⟩
    exact ⟨r,e,k m' h' p1 p2 s2⟩
  have tail:∀ (m':List Int) (h:Hp),m'.length = m.length→Up key m'→m'.Perm m→aE (vI s m'::A) h→Lp (de (s) (m.length:Int) v (fun _ h'=>∃ m',(m'.Perm m∧Up key m')∧aE (vI s m'::A) h')) 20 h:=by
    intro m' h hlm hu hp s1
    refine Lp.intro (fun (i:Int) h=>i = 20∧aE (vI s m'::A) h) (fun _ _=>0) ⟨rfl,s1⟩ ?_
    rintro i h ⟨rfl,s2⟩
    unfold de
    refine cZ (by simp; omega) ?_
    exact ⟨m',⟨hp,hu⟩,s2⟩
  refine Lp.intro (fun (z:Int × Int) h=>(z = (0,20)∧aE (vI s m::A) h)∨(z = (20,40)∧m.length = 20∧∃ m',(m'.Perm m∧Up key m')∧aE (vI s m'::A) h)) (fun (z:Int × Int) _=>(40 - z.2).toNat) (.inl ⟨rfl,s0⟩) ?_
  rintro z h (⟨rfl,s1⟩ | ⟨rfl,h20,m',⟨hp,hu⟩,s1⟩)
  · unfold eU
    refine aV (fun k=>?_) (fun k=>?_)
    · have h20:m.length = 20:=by have:=of_decide_eq_true k; omega
      have e:(20:Int) = ((([]:List Int).length + m.length:Nat):Int):=by simp [h20]
      show cl Tryz.prog bT [sv s,.int .i64 0,.int .i64 20,v] R_ _ h
      rw [e]
      refine ins [] m [] h _ hS (by simp; omega) (by simpa using s1) fun m' h' hp hu s2=>?_
      refine ⟨.inr ⟨?_,h20,m',⟨hp,hu⟩,by simpa using s2⟩,?_⟩
      · rw [← e]; rw [bR (by omega) (by omega)]; rfl
      · rw [← e]; rw [bR (by omega) (by omega)]; decide
    · have e:(m.length:Int) = ((([]:List Int).length + m.length:Nat):Int):=by simp
      show cl Tryz.prog bT [sv s,.int .i64 0,.int .i64 (m.length:Int),v] R_ _ h
      have:=ins [] m [] h (fun _=>Lp (de s (m.length:Int) v (fun _ h'=>∃ m',(m'.Perm m∧Up key m')∧aE (vI s m'::A) h')) 20) hS (by simp; omega) (by simpa using s1) fun m' h' hp hu s2=>tail m' h' hp.length_eq hu hp (by simpa using s2)
      rw [← e] at this
      exact this
  · unfold eU
    refine cZ (by rw [h20]; rfl) ?_
    have hml:m'.length = 20:=hp.length_eq.trans h20
    have e:(m.length:Int) = ((m'.length + ([]:List Int).length:Nat):Int):=by simp [h20,hml]
    have e2:(20:Int) = (m'.length:Int):=by omega
    show cl Tryz.prog bT [sv s,.int .i64 20,.int .i64 (m.length:Int),v] R_ _ h
    have:=ins m' [] [] h (fun _=>Lp (de s (m.length:Int) v (fun _ h'=>∃ m',(m'.Perm m∧Up key m')∧aE (vI s m'::A) h')) 20) (fun x hx=>by cases hx) (by simp; omega) (by simpa using s1) fun m2 h' hp2 hu2 s2=>by
      have:m2 = []:=hp2.eq_nil
      subst this
      exact tail m' h' hp.length_eq hu hp (by simpa using s2)
    rw [← e,← e2] at this
    exact this
end Go.Proofs.YtmggcfijlpldpaaGreatDoor
namespace Go.Proofs.YtmggcfijlpldpaaGreatDoor
open Go Mb
set_option linter.unusedVariables false
def hist_May_l1 (a0:Sl) (a1:aA) (K:Bool→Hp→Prop) (v12:(Option Nat)) (v13:(Option Nat)) (Rec4:(Int × Int)→Hp→Prop) (s3:Int × Int):Hp→Prop:=br (decide (s3.2 < (a0.len:Int))) ( ix a0 s3.2 fun q18=>ld (q18.1,q18.2 + Int.toNat s3.2 * 16) ar.C fun x19=>br ((!(!(fu x19 a1 s3.1))) && (decide (x19.fEffect > 0))) ( hpv Tryz.prog (Instr.lookup jg (.map v12) (.int .i64 x19.fEffect) false) az fun (v33:Bool)=>br v33 ( K false) ( hpv Tryz.prog (Instr.lookup gL (.map v13) (.int .i64 x19.fCore) true) bI fun (v40:Int × Bool)=>br (v40.2 && ((decide (v40.1 ≤ 0)) || (decide (x19.fBegin ≤ v40.1)))) ( K false) ( hpu Tryz.prog (Instr.mapUpdate jg (.map v12) (.int .i64 x19.fEffect) (.bool true))<|hpu Tryz.prog (Instr.mapUpdate gL (.map v13) (.int .i64 x19.fCore) (.int .i64 x19.fEnd))<|Rec4 (x19.fBegin,(IntKind.i64.wrap (s3.2 + 1)))))) ( br ((!(fu x19 a1 s3.1)) || false) ( K false) ( hpv Tryz.prog (Instr.lookup gL (.map v13) (.int .i64 x19.fCore) true) bI fun (v40:Int × Bool)=>br (v40.2 && ((decide (v40.1 ≤ 0)) || (decide (x19.fBegin ≤ v40.1)))) ( K false) ( hpu Tryz.prog (Instr.mapUpdate jg (.map v12) (.int .i64 x19.fEffect) (.bool true))<|hpu Tryz.prog (Instr.mapUpdate gL (.map v13) (.int .i64 x19.fCore) (.int .i64 x19.fEnd))<|Rec4 (x19.fBegin,(IntKind.i64.wrap (s3.2 + 1))))))) ( K true)
def sh_hist_May (a0:Sl) (a1:aA) (K:Bool→Hp→Prop):Hp→Prop:=hpv Tryz.prog (Instr.makeMap jg none) R_map_int_bool fun (v12:(Option Nat))=>hpv Tryz.prog (Instr.makeMap gL none) R_map_int_int fun (v13:(Option Nat))=>Lp (hist_May_l1 a0 a1 K v12 v13) (0,0)
theorem sim_hist_May (a0:Sl) (a1:aA) {K:Bool→Hp→Prop} {h:Hp} (H:sh_hist_May a0 a1 K h):Ct Tryz.prog wI #[(sv a0),(.agg (aA.C a1).toArray)] h fun v h'=>∃ r,v = az r∧K r h':=aw [(sv a0),(.agg (aA.C a1).toArray)] Tryz.func33 c c c fun _=>M<|aa<|cE (l:=aA.C a1) c c c fun b3=>O c<|M<|aa<|aR H x_makeMap0 c fun v12 _ H1=>aa<|aR H1 x_makeMap0 c fun v13 _ H2=>p (aq c)<|p (aq c)<|O c<|aj<|M<|J c<|p (dv c Tryz.underlying43 c)<|J c<|ac<|ax<|bB (step:=hist_May_l1 a0 a1 K v12 v13) (fun s3=>[(3,(.pointer (some ⟨b3,0,none⟩))),(5,(.int .i64 s3.1)),(6,(.map v12)),(7,(.map v13)),(14,(sv a0)),(15,(.int .i64 (a0.len:Int))),(16,(.int .i64 s3.2))]) (fun s3=>[bx b3 27 (aA.C a1)]) H2 (.cons c<|.cons c<|.cons c<|.cons c<|.cons c<|.cons c<|.cons c<|.nil _) (.cons_cons _ .slnil) fun Rec4 s3 _ H5=>M<|p (cm c c)<|ac<|aj<|av c H5 (fun k6 H7=>am<|aj<|ax<|M<|cg H7 fun q18 e8 h9 H10=>p (bm qL (aL c<|aY e8) c h9)<|aa<|gD H10 ul c (fun _=>c) c fun x19 H11=>aa<|aI (l:=ar.C (⟨0,0,(⟨0,0,0,0,0⟩:ah),0,0,0,(⟨0,0⟩:ab),(⟨0,0,0,0⟩:ak)⟩:ar)) tv c c fun b9=>aa<|aN (k:=0) (vs:=ar.C x19) inf_54 c c c c c c c<|ac<|aj<|M<|bg (bA (k:=0) ul c c c c) c<|bg (bA (k:=1) pw c c c c) c<|J c<|aa<|cD (vs:=[(.agg (ar.C x19).toArray),(.agg (aA.C a1).toArray),(.int .i64 s3.1)]) (bq<|ct_hist_one x19 a1 s3.1 _) en_69 c c<|p (cf c)<|J c<|V c c (aK _) (fun g12=>wv<|ad iO c)<|V c c (aK _) (fun g13=>cv<|bd (k:=0) aW (aB c g13) c c)<|V c c (aK _) (fun g14=>wv<|qi (aB c g14) c)<|V c c (aK _) (fun g15=>wv<|ae<|aB c g15)<|V c c (rc _ _) (fun g16=>wv<|ae c)<|V c c (rc _ _) (fun g17=>wv<|ad iO c)<|V c c (rc _ _) (fun g18=>cv<|bd (k:=0) aW (aB c g18) c c)<|bP H11 (fun k20 H21=>G ((gv_t (b_l k20) _).trans<|Z<|b_r k20)<|aR H21 (x_lookup (aB c k20)<|aB c k20) c fun v33 _ H22=>G (Z<|bS<|b_l k20)<|z_p (aM (aB c<|b_l k20) (b_r k20) c)<|p (an c (bS<|b_l k20) c)<|ac<|av c H22 (fun k23 H24=>M<|O c<|ag<|Y ⟨false,c,H24⟩) fun k23 H24=>am<|aj<|M<|J c<|p (ad qD c)<|bg (bd (k:=0) aW c c c) c<|aa<|aR H24 (x_lookup c c) c fun v40 _ H25=>J c<|p (ai c c)<|p (ai c c)<|p (aq c)<|O c<|M<|J c<|J c<|V c c (ay _) (fun g26=>wv<|ae c)<|V c c (ay _) (fun g27=>wv<|v_le (aB c g27) c)<|V c c (ay _) (fun g28=>wv<|ae<|aB c g28)<|V c c (dO _ _) (fun g29=>wv<|ad sX c)<|V c c (dO _ _) (fun g30=>cv<|bd (k:=0) aW (aB c g30) c c)<|V c c (dO _ _) (fun g31=>wv<|ae c)<|V c c (dO _ _) (fun g32=>wv<|v_le (aB c g32)<|aB c g32)<|V c c (ay _) (fun g33=>wv<|dm (aB c g33)<|aL c<|wQ g33)<|p (bM c c)<|ac<|av c H25 (fun k34 H35=>M<|O c<|ag<|Y ⟨false,c,H35⟩) fun k34 H35=>am<|bj (n:=13) [bx b9 54 (ar.C x19)] ci c (.cons_cons _<|.cons _ .slnil)<|U 0 c (ae c)<|U 1 c (ad iO c)<|z_E 2 c (cT (k:=0) aW c c c)<|U 3 c (ae c)<|U 4 c (ad qD c)<|z_E 5 c (cT (k:=0) aW c c c)<|U 6 c (ad sX c)<|z_E 7 c (cT (k:=0) aW c c c)<|U 8 c (ad qC c)<|z_E 9 c (cT (k:=0) aW c c c)<|U 10 c (aq c)<|I 11 c<|to_hpu H35 (tz c c c) fun _ H36=>⟨.cons_cons _<|.cons _ .slnil,I 12 c<|to_hpu H36 (tz c c c) fun _ H37=>⟨.cons_cons _<|.cons _ .slnil,aQ (by kernel_rfl)<|ap<|p (bt c c)<|J c<|ac<|cF (x19.fBegin,(IntKind.i64.wrap (s3.2 + 1))) H37 (.cons c<|.cons c<|.cons c<|.cons c<|.cons c<|.cons c<|.cons c<|.nil _)<|.cons _<|.cons_cons _ .slnil⟩⟩) fun k20 H21=>W ((rc _ _).trans k20)<|V c c (aK _) (fun g38=>wv<|an (aB c g38) (b_andr k20 g38) c)<|p (dm c c)<|ac<|av c H21 (fun k39 H40=>M<|O c<|ag<|Y ⟨false,c,H40⟩) fun k39 H40=>am<|aj<|M<|J c<|p (ad qD c)<|bg (bd (k:=0) aW c c c) c<|aa<|aR H40 (x_lookup c c) c fun v40 _ H41=>J c<|p (ai c c)<|p (ai c c)<|p (aq c)<|O c<|M<|J c<|J c<|V c c (ay _) (fun g42=>wv<|ae c)<|V c c (ay _) (fun g43=>wv<|v_le (aB c g43) c)<|V c c (ay _) (fun g44=>wv<|ae<|aB c g44)<|V c c (dO _ _) (fun g45=>wv<|ad sX c)<|V c c (dO _ _) (fun g46=>cv<|bd (k:=0) aW (aB c g46) c c)<|V c c (dO _ _) (fun g47=>wv<|ae c)<|V c c (dO _ _) (fun g48=>wv<|v_le (aB c g48)<|aB c g48)<|V c c (ay _) (fun g49=>wv<|dm (aB c g49)<|aL c<|wQ g49)<|p (bM c c)<|ac<|av c H41 (fun k50 H51=>M<|O c<|ag<|Y ⟨false,c,H51⟩) fun k50 H51=>am<|bj (n:=13) [bx b9 54 (ar.C x19)] ci c (.cons_cons _<|.cons _ .slnil)<|U 0 c (ae c)<|U 1 c (ad iO c)<|z_E 2 c (cT (k:=0) aW c c c)<|U 3 c (ae c)<|U 4 c (ad qD c)<|z_E 5 c (cT (k:=0) aW c c c)<|U 6 c (ad sX c)<|z_E 7 c (cT (k:=0) aW c c c)<|U 8 c (ad qC c)<|z_E 9 c (cT (k:=0) aW c c c)<|U 10 c (aq c)<|I 11 c<|to_hpu H51 (tz c c c) fun _ H52=>⟨.cons_cons _<|.cons _ .slnil,I 12 c<|to_hpu H52 (tz c c c) fun _ H53=>⟨.cons_cons _<|.cons _ .slnil,aQ (by kernel_rfl)<|ap<|p (bt c c)<|J c<|ac<|cF (x19.fBegin,(IntKind.i64.wrap (s3.2 + 1))) H53 (.cons c<|.cons c<|.cons c<|.cons c<|.cons c<|.cons c<|.cons c<|.nil _)<|.cons _<|.cons_cons _ .slnil⟩⟩) fun k6 H7=>bh<|M<|O c<|ag<|Y ⟨true,c,H7⟩
def sV (a0:Sl) (a1:Value) (K:Sl→Hp→Prop) (Rec2:(Sl × Int)→Hp→Prop) (s1:Sl × Int):Hp→Prop:=br (decide (s1.2 < (a0.len:Int))) ( ix a0 s1.2 fun q13=>ld (q13.1,q13.2 + Int.toNat s1.2 * 16) ar.C fun x14=>clv Tryz.prog a1 [(.agg (ar.C x14).toArray)] az fun r17=>br r17 ( hpv Tryz.prog (Instr.buildSlice dB 1 #[(0,(.int .i64 s1.2))]) ct fun (v20:Sl)=>hpv Tryz.prog (Builtin.append_ #[dB,dB] dB #[(sv s1.1),(sv v20)]) ct fun (v21:Sl)=>Rec2 (v21,(IntKind.i64.wrap (s1.2 + 1)))) ( Rec2 (s1.1,(IntKind.i64.wrap (s1.2 + 1))))) ( K s1.1)
def sh_hist_places (a0:Sl) (a1:Value) (K:Sl→Hp→Prop):Hp→Prop:=Lp (sV a0 a1 K) ((⟨none,0,0,none⟩:Sl),0)
theorem sim_hist_places (a0:Sl) (a1:Value) {K:Sl→Hp→Prop} {h:Hp} (H:sh_hist_places a0 a1 K h):Ct Tryz.prog qb #[(sv a0),a1] h fun v h'=>∃ r,v = ct r∧K r h':=aw [(sv a0),a1] Tryz.func67 c c c fun _=>M<|O c<|M<|O c<|aj<|M<|J c<|p (dv c Tryz.underlying43 c)<|J c<|ac<|ax<|bB (step:=sV a0 a1 K) (fun s1=>[(1,a1),(5,(sv s1.1)),(8,(sv a0)),(9,(.int .i64 (a0.len:Int))),(10,(.int .i64 s1.2))]) (fun s1=>[]) H (.cons c<|.cons c<|.cons c<|.cons c<|.cons c<|.nil _) .slnil fun Rec2 s1 _ H3=>M<|p (cm c c)<|ac<|aj<|av c H3 (fun k4 H5=>am<|aj<|ax<|M<|J c<|cg H5 fun q13 e6 h7 H8=>p (bm qL (aL c<|aY e6) c h7)<|aa<|gD H8 ul c (fun _=>c) c fun x14 H9=>aa<|aI (l:=ar.C (⟨0,0,(⟨0,0,0,0,0⟩:ah),0,0,0,(⟨0,0⟩:ab),(⟨0,0,0,0⟩:ak)⟩:ar)) tv c c fun b7=>p (aq c)<|aa<|aN (k:=0) (vs:=ar.C x14) inf_54 c c c c c c c<|ac<|M<|J c<|bg (bA (k:=0) ul c c c c) c<|aa<|to_clv H9 c c c fun r17 _ H10=>ac<|av c H10 (fun k11 H12=>ap<|J c<|J c<|aa<|aR H12 (bp (vs:=[(.int .i64 s1.2)]) c) c fun v20 _ H13=>aa<|aR H13 (dA c c) c fun v21 _ H14=>O c<|ap<|p (bt c c)<|J c<|ac<|cF (v21,(IntKind.i64.wrap (s1.2 + 1))) H14 (.cons c<|.cons c<|.cons c<|.cons c<|.cons c<|.nil _)<|.cons _ .slnil) fun k11 H12=>am<|ap<|p (bt c c)<|J c<|ac<|cF (s1.1,(IntKind.i64.wrap (s1.2 + 1))) H12 (.cons c<|.cons c<|.cons c<|.cons c<|.cons c<|.nil _)<|.cons _ .slnil) fun k4 H5=>bh<|M<|J c<|O c<|ag<|Y ⟨s1.1,c,H5⟩
def uY (a0:Int) (a1:Int) (c0:Nat) (K:Int→Hp→Prop):Hp→Prop:=ld (c0,0) cS fun x6=>ix x6 a0 fun q8=>ld (q8.1,q8.2 + Int.toNat a0 * 16 + 8) (cI .i64) fun x10=>ld (c0,0) cS fun x11=>ix x11 a1 fun q13=>ld (q13.1,q13.2 + Int.toNat a1 * 16 + 8) (cI .i64) fun x15=>K (fG x10 x15)
theorem sim_hist_Order_c2 (a0:Int) (a1:Int) (c0:Nat) {K:Int→Hp→Prop} {h:Hp} (H:uY a0 a1 c0 K h):Ct Tryz.prog qT #[(.int .i64 a0),(.int .i64 a1),(.pointer (some ⟨c0,0,none⟩))] h fun v h'=>∃ r,v = eo r∧K r h':=aw [(.int .i64 a0),(.int .i64 a1),(.pointer (some ⟨c0,0,none⟩))] Tryz.func88 c c c fun _=>M<|O c<|aj<|bj (n:=12) [] ci c .slnil<|U 1 c (ae c)<|U 6 c (ae c)<|bD (i:=0) (fun _ _ _ _ hh=>hh) H c (by kernel_rfl) sc_43 c (fun _=>c) c fun x6 H1=>fZ H1 fun q8 e2 h3 H4=>U 2 c (bm qL (aL c<|aY e2) c h3)<|U 3 c (ad iO c)<|bD (i:=4) (fun _ _ _ _ hh=>hh) H4 c (by kernel_rfl) aW c (fun _=>c) c fun x10 H5=>bD (i:=5) (fun _ _ _ _ hh=>hh) H5 c (by kernel_rfl) sc_43 c (fun _=>c) c fun x11 H6=>fZ H6 fun q13 e7 h8 H9=>U 7 c (bm qL (aL c<|aY e7) c h8)<|U 8 c (ad iO c)<|bD (i:=9) (fun _ _ _ _ hh=>hh) H9 c (by kernel_rfl) aW c (fun _=>c) c fun x15 H10=>I 10 c<|cD (vs:=[(.int .i64 x10),(.int .i64 x15)]) (bq<|ct_cmp_Compare_int x10 x15 _) en_89 c c ⟨.slnil,U 11 c (aq c)<|aQ (by kernel_rfl)<|ag<|Y ⟨fG x10 x15,c,H10⟩⟩
def sh_hist_Order (a0:Sl) (K:Sl→Hp→Prop):Hp→Prop:=nw eF [sv a0] fun b1=>ld (b1,0) cS fun x4=>cl Tryz.prog qb [(sv x4),(.func (.func mM) #[] #[])] ct fun r5=>cl Tryz.prog fA [(sv r5),(.func (.func qT) #[] #[(.pointer (some ⟨b1,0,none⟩))])] R_ fun (_:Unit)=>K r5
theorem sim_hist_Order (a0:Sl) {K:Sl→Hp→Prop} {h:Hp} (H:sh_hist_Order a0 K h):Ct Tryz.prog oC #[(sv a0)] h fun v h'=>∃ r,v = ct r∧K r h':=aw [(sv a0)] Tryz.func43 c c c fun _=>M<|aa<|gT c c c H fun b1 _ H1=>O c<|M<|aa<|aT H1 sc_43 c (fun _=>c) c fun x4 H2=>aa<|D H2 en_67 fun r5 _ H3=>O c<|M<|J c<|p (v_func c c)<|aa<|D H3 en_87 fun r8 _ H4=>ac<|M<|J c<|O c<|ag<|Y ⟨r5,c,H4⟩
def sh_hist_Over_c1 (a0:ar) (c0:Nat) (K:Bool→Hp→Prop):Hp→Prop:=ld (c0,0) (cI .i64) fun x6=>br ((decide (a0.fBegin ≤ x6)) && (!(a0.fEffect == 0))) ( ld (c0,0) (cI .i64) fun x15=>K (decide (a0.fEffect > x15))) ( K ((decide (a0.fBegin ≤ x6)) && true))
theorem sim_hist_Over_c1 (a0:ar) (c0:Nat) {K:Bool→Hp→Prop} {h:Hp} (H:sh_hist_Over_c1 a0 c0 K h):Ct Tryz.prog sR #[(.agg (ar.C a0).toArray),(.pointer (some ⟨c0,0,none⟩))] h fun v h'=>∃ r,v = az r∧K r h':=aw [(.agg (ar.C a0).toArray),(.pointer (some ⟨c0,0,none⟩))] Tryz.func215 c c c fun _=>M<|aa<|cE (l:=ar.C a0) c c c fun b2=>O c<|M<|p (ad sX c)<|bg (bd (k:=0) aW c c c) c<|aa<|aT H aW c (fun _=>c) c fun x6 H1=>p (v_le c c)<|J c<|V c c (ay _) (fun g2=>wv<|ad iO c)<|V c c (ay _) (fun g3=>cv<|bd (k:=0) aW (aB c g3) c c)<|V c c (ay _) (fun g4=>wv<|bK (aB c g4) c)<|V c c (ay _) (fun g5=>wv<|ae<|aB c g5)<|V c c (dO _ _) (fun g6=>wv<|ad iO c)<|V c c (dO _ _) (fun g7=>cv<|bd (k:=0) aW (aB c g7) c c)<|bP H1 (fun k9 H10=>G ((gv_t (b_l k9) _).trans<|Z<|bS<|b_r k9)<|aT H10 aW c (fun _=>c) c fun x15 H11=>G ((gv_t (b_l k9) _).trans<|Z<|bS<|b_r k9)<|z_p (qi (aB c k9) c)<|G (Z<|b_l k9)<|z_p (an (aB c<|b_l k9) (bS<|b_r k9) c)<|p (aM c (b_l k9) c)<|O c<|ag<|Y ⟨decide (a0.fEffect > x15),c,H11⟩) fun k9 H10=>W ((dO _ _).trans k9)<|W ((dO _ _).trans k9)<|V c c (ay _) (fun g12=>wv<|aM (aB c g12) (bz<|b_andr k9 g12) c)<|p (bM c c)<|O c<|ag<|Y ⟨((decide (a0.fBegin ≤ x6)) && true),c,H10⟩
def sh_hist_Over (a0:Sl) (a1:Int) (K:Sl→Hp→Prop):Hp→Prop:=nw kE [.int .i64 a1] fun b3=>cl Tryz.prog qb [(sv a0),(.func (.func sR) #[] #[(.pointer (some ⟨b3,0,none⟩))])] ct fun r7=>K r7
theorem sim_hist_Over (a0:Sl) (a1:Int) {K:Sl→Hp→Prop} {h:Hp} (H:sh_hist_Over a0 a1 K h):Ct Tryz.prog n_hist_Over #[(sv a0),(.int .i64 a1)] h fun v h'=>∃ r,v = ct r∧K r h':=aw [(sv a0),(.int .i64 a1)] Tryz.func198 c c c fun _=>M<|aa<|gT c c c H fun b3 _ H1=>O c<|M<|J c<|p (v_func c c)<|aa<|D H1 en_67 fun r7 _ H2=>O c<|ag<|Y ⟨r7,c,H2⟩
end Go.Proofs.YtmggcfijlpldpaaGreatDoor
namespace Go.Proofs.YtmggcfijlpldpaaGreatDoor
open Go Mb
namespace Hist
def placesFrom (P:bQ→Bool):List bQ→Int→List Int
  | [],_=>[]
  | e::es,i=>if P e = true then i::placesFrom P es (i + 1) else placesFrom P es (i + 1)
def places (P:bQ→Bool) (es:List bQ):List Int:=placesFrom P es 0
def ev00:bQ:=KK.ev0 0 0 ⟨0,0,0,0,0⟩ 0
def eff (es:List bQ) (i:Int):Int:=(es.getD i.toNat ev00).fEffect
def ins (key:Int→Int) (x:Int):List Int→List Int
  | []=>[x]
  | y::l=>if key x < key y then x::y::l else y::ins key x l
def isort (key:Int→Int):List Int→List Int
  | []=>[]
  | x::l=>ins key x (isort key l)
def effs (es:List bQ):List Int:=places (fun e=>decide (e.fEffect > 0)) es
def order (es:List bQ):List Int:=isort (eff es) (effs es)
def over (es:List bQ) (at_:Int):List Int:=places (fun e=>decide (e.fBegin ≤ at_) && (e.fEffect == 0 || decide (e.fEffect > at_))) es
def done (es:List bQ):List Int:=places (fun e=>e.fEnd != 0) es
def endOf (ends:List (Int × Int)) (c:Int):Option Int:=(ends.find? (fun p=>p.1 == c)).map (·.2)
def stops (ends:List (Int × Int)) (e:bQ):Bool:=match endOf ends e.fCore with
  | some n=>decide (n ≤ 0) || decide (e.fBegin ≤ n)
  | none=>false
def mayFrom (s:lx):List bQ→Int→List Int→List (Int × Int)→Bool
  | [],_,_,_=>true
  | e::es,last,seen,ends=>if fu e s last = false∨(e.fEffect > 0∧e.fEffect ∈ seen) then false else if stops ends e = true then false else mayFrom s es e.fBegin (e.fEffect::seen) ((e.fCore,e.fEnd)::ends)
def may (es:List bQ) (s:lx):Bool:=mayFrom s es 0 [] []
theorem placesFrom_app (P:bQ→Bool) (e:bQ):∀ (es:List bQ) (i:Int),placesFrom P (es++[e]) i = placesFrom P es i++(if P e = true then [i + es.length] else [])
  | [],i=>by simp only [List.nil_append,placesFrom]; split <;> simp
  | d::es,i=>by
    simp only [List.cons_append,placesFrom]
    rw [placesFrom_app P e es (i + 1)]
    have e1:i + 1 + (es.length:Int) = i + ((d::es).length:Int):=by simp; omega
    rw [e1]
    split <;> simp
theorem placesFrom_len (P:bQ→Bool):∀ (es:List bQ) (i:Int),(placesFrom P es i).length ≤ es.length
  | [],_=>Nat.le_refl _
  | e::es,i=>by unfold placesFrom; have:=placesFrom_len P es (i + 1); split <;> simp <;> omega
theorem placesFrom_c (P:bQ→Bool) (d:bQ) (es:List bQ) (i:Int):placesFrom P (d::es) i = if P d = true then i::placesFrom P es (i + 1) else placesFrom P es (i + 1):=rfl
theorem mem_placesFrom {P:bQ→Bool} {x:Int}:∀ {es:List bQ} {i:Int},x ∈ placesFrom P es i↔∃ (n:Nat) (e:bQ),es[n]? = some e∧x = i + n∧P e = true
  | [],i=>by simp [placesFrom]
  | d::es,i=>by
    have ih:=mem_placesFrom (P:=P) (x:=x) (es:=es) (i:=i + 1)
    have sp:(∃ (n:Nat) (e:bQ),(d::es)[n]? = some e∧x = i + n∧P e = true)↔(x = i∧P d = true)∨∃ (n:Nat) (e:bQ),es[n]? = some e∧x = i + 1 + n∧P e = true:=by
      constructor
      · rintro ⟨n,e,h1,h2,h3⟩
        cases n with
        | zero=>simp at h1; subst h1; exact .inl ⟨by simpa using h2,h3⟩
        | succ n=>exact .inr ⟨n,e,by simpa using h1,by omega,h3⟩
      · rintro (⟨h2,h3⟩ | ⟨n,e,h1,h2,h3⟩)
        · exact ⟨0,d,rfl,by simpa using h2,h3⟩
        · exact ⟨n + 1,e,by simpa using h1,by omega,h3⟩
    rw [sp,← ih,placesFrom_c]
    split
    · rename_i hd
      rw [List.mem_cons]
      constructor
      · rintro (h | h)
        · exact .inl ⟨h,hd⟩
        · exact .inr h
      · rintro (h | h)
        · exact .inl h.1
        · exact .inr h
    · rename_i hd
      constructor
      · exact .inr
      · rintro (h | h)
        · exact absurd h.2 hd
        · exact h
theorem mem_places {P:bQ→Bool} {x:Int} {es:List bQ}:x ∈ places P es↔∃ (n:Nat) (e:bQ),es[n]? = some e∧x = n∧P e = true:=by
  unfold places
  rw [mem_placesFrom]
  simp
theorem places_in {P:bQ→Bool} {x:Int} {es:List bQ} (h:x ∈ places P es):0 ≤ x∧x < es.length:=by
  obtain ⟨n,e,h1,rfl,_⟩:=mem_places.1 h
  have:=(List.getElem?_eq_some_iff.1 h1).1
  omega
theorem ins_perm (key:Int→Int) (x:Int):∀ l,(ins key x l).Perm (x::l)
  | []=>.refl _
  | y::l=>by
    unfold ins; split
    · exact .refl _
    · exact ((ins_perm key x l).cons y).trans (.swap _ _ _)
theorem isort_perm (key:Int→Int):∀ l,(isort key l).Perm l
  | []=>.refl _
  | x::l=>(ins_perm key x _).trans ((isort_perm key l).cons x)
theorem ins_up (key:Int→Int) (x:Int):∀ l,Up key l→Up key (ins key x l)
  | [],_=>List.pairwise_singleton _ _
  | y::l,h=>by
    obtain ⟨h1,h2⟩:=List.pairwise_cons.1 h
    unfold ins; split
    · rename_i hx
      refine List.pairwise_cons.2 ⟨fun z hz=>?_,h⟩
      rcases List.mem_cons.1 hz with rfl | hz
      · omega
      · have:=h1 z hz; omega
    · rename_i hx
      refine List.pairwise_cons.2 ⟨fun z hz=>?_,ins_up key x l h2⟩
      rcases List.mem_cons.1 ((ins_perm key x l).subset hz) with rfl | hz
      · omega
      · exact h1 z hz
theorem isort_up (key:Int→Int):∀ l,Up key (isort key l)
  | []=>.nil
  | x::l=>ins_up key x _ (isort_up key l)
def Apart (es:List bQ):Prop:=∀ a b,a ∈ effs es→b ∈ effs es→eff es a = eff es b→a = b
theorem order_of {es:List bQ} (ha:Apart es) {l:List Int} (hp:l.Perm (effs es)) (hu:Up (eff es) l):l = order es:=by
  refine List.Perm.eq_of_pairwise (le:=fun x y=>eff es x ≤ eff es y) (fun a b h1 h2 h3 h4=>?_) hu (isort_up _ _) (hp.trans (isort_perm _ _).symm)
  exact ha a b (hp.subset h1) ((isort_perm _ _).subset h2) (by omega)
theorem mayFrom_apart {s:lx}:∀ {es:List bQ} {last:Int} {seen:List Int} {ends:List (Int × Int)},mayFrom s es last seen ends = true →
    (∀ (n:Nat) e,es[n]? = some e→e.fEffect > 0→e.fEffect ∉ seen)∧∀ (n m:Nat) e d,es[n]? = some e→es[m]? = some d→e.fEffect > 0→e.fEffect = d.fEffect→n = m
  | [],_,_,_,_=>⟨fun n e h=>by simp at h,fun n m e d h=>by simp at h⟩
  | e0::es,last,seen,ends,h=>by
    unfold mayFrom at h
    split at h
    · cases h
    · split at h
      · cases h
      · rename_i h1 _
        obtain ⟨i1,i2⟩:=mayFrom_apart h
        have h0:e0.fEffect > 0→e0.fEffect ∉ seen:=fun hp hm=>h1 (.inr ⟨hp,hm⟩)
        refine ⟨fun n e hn hp=>?_,fun n m e d hn hm hp he=>?_⟩
        · cases n with
          | zero=>simp at hn; subst hn; exact h0 hp
          | succ n=>exact fun hm=>i1 n e (by simpa using hn) hp (by simp [hm])
        · cases n with
          | zero =>
            cases m with
            | zero=>rfl
            | succ m =>
              simp at hn; subst hn
              exact absurd (by simp [he]) (i1 m d (by simpa using hm) (by omega))
          | succ n =>
            cases m with
            | zero =>
              simp at hm; subst hm
              exact absurd (by simp [he]) (i1 n e (by simpa using hn) hp)
            | succ m=>rw [i2 n m e d (by simpa using hn) (by simpa using hm) hp he]
theorem eff_nat {es:List bQ} {n:Nat} {e:bQ} (h:es[n]? = some e):eff es n = e.fEffect:=by simp [eff,h]
theorem may_apart {es:List bQ} {s:lx} (h:may es s = true):Apart es:=by
  intro a b ha hb he
  obtain ⟨n,e,h1,rfl,h2⟩:=mem_places.1 ha
  obtain ⟨m,d,h3,rfl,h4⟩:=mem_places.1 hb
  rw [eff_nat h1,eff_nat h3] at he
  rw [(mayFrom_apart h).2 n m e d h1 h3 (by simpa using h2) he]
end Hist
theorem sp_hist_places (s:Sl) (es:List bQ) (v:Value) (P:bQ→Bool) (A:List As) (hb:es.length < 2 ^ 38)
    (hv:∀ e ∈ es,SpV Tryz.prog v [.agg e.C.toArray] az (vE s es::A) (fun r=>pa_ (r = P e) (vE s es::A))) :
    Sp Tryz.prog qb [sv s,v] ct (vE s es::A) (fun r=>aE (vI r (Hist.places P es)::vE s es::A)):=by
  intro h s0
  have hl:=(cd (j:=0) s0 rfl).1
  refine sim_hist_places _ _ ?_
  unfold sh_hist_places
  refine Lp.intro (fun (z:Sl × Int) h=>∃ n:Nat,z.2 = n∧n ≤ es.length∧aE (vI z.1 (Hist.placesFrom P (es.take n) 0)::vE s es::A) h) (fun (z:Sl × Int) _=>es.length - z.2.toNat) ⟨0,rfl,Nat.zero_le _,fC s0⟩ ?_
  rintro ⟨z,i⟩ h ⟨n,rfl,hn,s1⟩
  unfold sV
  refine aV (fun k=>?_) (fun k=>?_)
  · have hlt:n < es.length:=by rw [hl] at k; simpa using k
    have hw:IntKind.i64.wrap ((n:Int) + 1) = ((n + 1:Nat):Int):=by rw [bR (by omega) (by omega)]; rfl
    have ht:es.take (n + 1) = es.take n++[es[n]]:=by simp
    have hlen:((es.take n).length:Int) = n:=by simp; omega
    have hpl:=Hist.placesFrom_len P (es.take n) 0
    simp at hpl
    refine du s1 (j:=1) rfl (by omega) (by show (n:Int) < _; omega) fun q hq=>?_
    refine ef (j:=1) (i:=n) (k:=0) es[n] mi s1 rfl hq rfl (aD hlt) (by simp) ?_
    refine clv_t (hv es[n] (List.getElem_mem hlt)) s1 fun r h2 s2=>?_
    obtain ⟨hr,s3⟩:=bn.1 s2
    have s4:=star_rot s3
    rw [hw]
    refine aV (fun k2=>?_) (fun k2=>?_)
    · refine vD s4 (i:=0) rfl (by omega) fun v h' s5=>?_
      refine ⟨⟨n + 1,rfl,hlt,?_⟩,by simp; omega⟩
      rw [ht,Hist.placesFrom_app,if_pos (by rw [← hr,k2]),hlen,Int.zero_add]
      exact s5
    · refine ⟨⟨n + 1,rfl,hlt,?_⟩,by simp; omega⟩
      rw [ht,Hist.placesFrom_app,if_neg (by rw [← hr,k2]; exact Bool.false_ne_true),List.append_nil]
      exact s4
  · have:n = es.length:=by rw [hl] at k; simp at k; omega
    subst this
    rw [List.take_length] at s1
    exact s1
theorem cmp_neg (x y:Int):fG x y < 0↔x < y:=by
  unfold fG dZ
  simp only [bne_self_eq_false,cond_false]
  by_cases h1:x < y
  · simp [h1]
  · by_cases h2:x > y
    · simp [h1,h2]
    · simp [h1,h2]
theorem sp_hist_Over (s:Sl) (es:List bQ) (a:Int) (hb:es.length < 2 ^ 38):Sp Tryz.prog n_hist_Over [sv s,.int .i64 a] ct [vE s es] (fun r=>aE [vI r (Hist.over es a),vE s es]):=by
  intro h s0
  refine sim_hist_Over _ _ ?_
  unfold sh_hist_Over
  refine oR s0 fun b3 h1 s1=>?_
  refine cG [1,0] (sp_hist_places s es _ (fun e=>decide (e.fBegin ≤ a) && (e.fEffect == 0 || decide (e.fEffect > a))) [blk b3 kE [.int .i64 a]] hb ?_) s1 rfl fun r h2 s2=>?_
  · intro e he
    refine ⟨_,_,_,rfl,enter_hist_Over_c1,fun h s3=>?_⟩
    refine sim_hist_Over_c1 e b3 ?_
    unfold sh_hist_Over_c1
    refine bi a s3 (i:=1) rfl rfl rfl ?_
    refine aV (fun k=>?_) (fun k=>?_)
    · refine bi a s3 (i:=1) rfl rfl rfl ?_
      rw [Bool.and_eq_true] at k
      refine aU ?_ s3
      have k2:(e.fEffect == 0) = false:=by simpa using k.2
      rw [k.1,k2]; rfl
    · refine aU ?_ s3
      cases k1:decide (e.fBegin ≤ a) with
      | false=>rfl
      | true =>
        rw [k1] at k
        have k2:(e.fEffect == 0) = true:=by simpa using k
        rw [k2]; rfl
  · have s3:=dx s2
    exact np (l:=[vI r (Hist.over es a),vE s es]) s3
theorem sp_hist_Order20 (s:Sl) (es:List bQ) (hb:es.length ≤ 20) (ha:Hist.Apart es):Sp Tryz.prog oC [sv s] ct [vE s es] (fun r=>aE [vI r (Hist.order es),vE s es]):=by
  intro h s0
  refine sim_hist_Order _ ?_
  unfold sh_hist_Order
  refine oR s0 fun b1 h1 s1=>?_
  refine bi s s1 (i:=0) rfl rfl rfl ?_
  refine cG [1,0] (sp_hist_places s es _ (fun e=>decide (e.fEffect > 0)) [blk b1 eF [sv s]] (by omega) ?_) s1 rfl fun r h2 s2=>?_
  · intro e he
    refine ⟨_,_,_,rfl,enter_hist_Order_c1,fun h s3=>?_⟩
    exact (ct_hist_Order_c1 e h).mono fun v h' ⟨r,hv,hr,hh⟩=>⟨r,hv,hr,by rw [hh]; exact s3⟩
  · have s3:=dx s2
    have hpl:=Hist.placesFrom_len (fun e=>decide (e.fEffect > 0)) es 0
    refine cG [0,0,0] (sp_SortStable20 r _ [vE s es,blk b1 eF [sv s]] (Hist.eff es) (fun x=>0 ≤ x∧x < es.length) ?_ (Hist.effs es) (fun x hx=>Hist.places_in hx) (by unfold Hist.effs Hist.places; omega)) s3 rfl fun u h4 s4=>?_
    · rintro x y ⟨hx0,hx⟩ ⟨hy0,hy⟩
      refine ⟨_,_,_,rfl,enter_hist_Order_c2,fun h s5=>?_⟩
      obtain ⟨n,rfl⟩:=Int.eq_ofNat_of_zero_le hx0
      obtain ⟨m,rfl⟩:=Int.eq_ofNat_of_zero_le hy0
      have hn:n < es.length:=by omega
      have hm:m < es.length:=by omega
      refine sim_hist_Order_c2 n m b1 ?_
      unfold uY
      refine bi s s5 (i:=1) rfl rfl rfl ?_
      refine du s5 (j:=0) rfl (by omega) (by omega) fun q hq=>?_
      refine ef (j:=0) (i:=n) (k:=8) es[n].fEffect mi s5 rfl hq rfl (aD hn) (c1 rfl rfl) ?_
      refine bi s s5 (i:=1) rfl rfl rfl ?_
      refine du s5 (j:=0) rfl (by omega) (by omega) fun q2 hq2=>?_
      refine ef (j:=0) (i:=m) (k:=8) es[m].fEffect mi s5 rfl hq2 rfl (aD hm) (c1 rfl rfl) ?_
      refine aU ?_ s5
      rw [cmp_neg,Hist.eff_nat (aD hn),Hist.eff_nat (aD hm)]
    · obtain ⟨g1,g2,d,rfl,⟨m',⟨p1,p2⟩,s5⟩,s6⟩:=s4
      rw [Hist.order_of ha p1 p2] at s5
      exact sd (np (l:=[vI r (Hist.order es),vE s es]) s5) d
theorem sp_hist_May (s:Sl) (es:List bQ) (z:lx) (hb:es.length < 2 ^ 38):Sp Tryz.prog wI [sv s,.agg z.C.toArray] az [vE s es] (fun r=>pa_ (r = Hist.may es z) [vE s es]):=by
  intro h s0
  have hl:=(cd (j:=0) s0 rfl).1
  refine sim_hist_May _ _ ?_
  unfold sh_hist_May
  refine makeMap_m (τ:=Bool) (val:=fun x=>.bool x) rfl s0 fun b1 h1 s1=>?_
  refine makeMap_m (τ:=Int) (val:=fun x=>.int .i64 x) rfl s1 fun b2 h2 s2=>?_
  refine Lp.intro (fun (y:Int × Int) h=>∃ (n:Nat) (seen:List Int) (ends:List (Int × Int)),y.2 = n∧n ≤ es.length∧Hist.mayFrom z (es.drop n) y.1 seen ends = Hist.may es z∧aE [mapA b2 (fun x=>Value.int .i64 x) (Hist.endOf ends),mapA b1 (fun x=>Value.bool x) (fun x=>if x ∈ seen then some true else none),vE s es] h) (fun (y:Int × Int) _=>es.length - y.2.toNat) ⟨0,[],[],rfl,Nat.zero_le _,rfl,?_⟩ ?_
  · have e1:(fun x:Int=>if x ∈ ([]:List Int) then some true else none) = fun _=>none:=by funext x; simp
    have e2:Hist.endOf [] = fun _=>none:=by funext x; rfl
    rw [e1,e2]; exact s2
  rintro ⟨last,i⟩ h ⟨n,seen,ends,rfl,hn,he,s3⟩
  unfold hist_May_l1
  simp only at he ⊢
  refine aV (fun k=>?_) (fun k=>?_)
  · have hlt:n < es.length:=by rw [hl] at k; simpa using k
    have hw:IntKind.i64.wrap ((n:Int) + 1) = ((n + 1:Nat):Int):=by rw [bR (by omega) (by omega)]; rfl
    rw [List.drop_eq_getElem_cons hlt,Hist.mayFrom] at he
    refine du s3 (j:=2) rfl (by omega) (by omega) fun q hq=>?_
    refine ef (j:=2) (i:=n) (k:=0) es[n] mi s3 rfl hq rfl (aD hlt) (by simp) ?_
    have rest:¬ (fu es[n] z last = false∨(es[n].fEffect > 0∧es[n].fEffect ∈ seen))→∀ K:(Int × Int)→Hp→Prop,
        (∀ (s':Int × Int) h',s'.1 = es[n].fBegin∧s'.2 = ((n + 1:Nat):Int)→Hist.stops ends es[n] = false→aE [mapA b2 (fun x=>Value.int .i64 x) (Hist.endOf ((es[n].fCore,es[n].fEnd)::ends)),mapA b1 (fun x=>Value.bool x) (fun x=>if x ∈ es[n].fEffect::seen then some true else none),vE s es] h'→K s' h') →
        hpv Tryz.prog (Instr.lookup gL (.map (some b2)) (.int .i64 es[n].fCore) true) bI (fun (v40:Int × Bool) =>
          br (v40.2 && ((decide (v40.1 ≤ 0)) || (decide (es[n].fBegin ≤ v40.1)))) (pa_ (false = Hist.may es z) [vE s es]) (
          hpu Tryz.prog (Instr.mapUpdate jg (.map (some b1)) (.int .i64 es[n].fEffect) (.bool true)) <|
          hpu Tryz.prog (Instr.mapUpdate gL (.map (some b2)) (.int .i64 es[n].fCore) (.int .i64 es[n].fEnd)) <|
          K (es[n].fBegin,((n + 1:Nat):Int)))) h:=by
      intro hno K hK
      rw [if_neg hno] at he
      refine lookup_m (j:=0) mp_map_int_int s3 rfl ((Hist.endOf ends es[n].fCore).getD 0,(Hist.endOf ends es[n].fCore).isSome) ?_ ?_
      · rw [if_pos rfl]; unfold bI
        cases Hist.endOf ends es[n].fCore <;> rfl
      · have hst:((Hist.endOf ends es[n].fCore).isSome && ((decide ((Hist.endOf ends es[n].fCore).getD 0 ≤ 0)) || (decide (es[n].fBegin ≤ (Hist.endOf ends es[n].fCore).getD 0)))) = Hist.stops ends es[n]:=by
          unfold Hist.stops
          cases Hist.endOf ends es[n].fCore <;> simp
        show br ((Hist.endOf ends es[n].fCore).isSome && ((decide ((Hist.endOf ends es[n].fCore).getD 0 ≤ 0)) || (decide (es[n].fBegin ≤ (Hist.endOf ends es[n].fCore).getD 0)))) _ _ h
        rw [hst]
        refine aV (fun k2=>?_) (fun k2=>?_)
        · rw [if_pos k2] at he
          exact aU he (bX (l:=[_,_]) s3)
        · refine update_m (j:=1) (w:=true) mp_map_int_bool s3 rfl rfl fun h4 s4=>?_
          refine update_m (j:=0) (w:=es[n].fEnd) mp_map_int_int s4 rfl rfl fun h5 s5=>?_
          refine hK _ _ ⟨rfl,rfl⟩ k2 ?_
          have e1:(fun y=>if y = es[n].fCore then some es[n].fEnd else Hist.endOf ends y) = Hist.endOf ((es[n].fCore,es[n].fEnd)::ends):=by
            funext y
            unfold Hist.endOf
            by_cases hy:y = es[n].fCore
            · subst hy; simp
            · have:(es[n].fCore == y) = false:=by simpa using fun e=>hy e.symm
              simp [hy,this]
          have e2:(fun y=>if y = es[n].fEffect then some true else if y ∈ seen then some true else none) = fun x=>if x ∈ es[n].fEffect::seen then some true else none:=by
            funext y
            by_cases hy:y = es[n].fEffect <;> simp [hy]
          rw [← e1,← e2]
          exact s5
    have go:¬ (fu es[n] z last = false∨(es[n].fEffect > 0∧es[n].fEffect ∈ seen))→∀ (s':Int × Int) h',s'.1 = es[n].fBegin∧s'.2 = ((n + 1:Nat):Int)→Hist.stops ends es[n] = false→aE [mapA b2 (fun x=>Value.int .i64 x) (Hist.endOf ((es[n].fCore,es[n].fEnd)::ends)),mapA b1 (fun x=>Value.bool x) (fun x=>if x ∈ es[n].fEffect::seen then some true else none),vE s es] h' →
        (∃ (n:Nat) (seen:List Int) (ends:List (Int × Int)),s'.2 = n∧n ≤ es.length∧Hist.mayFrom z (es.drop n) s'.1 seen ends = Hist.may es z∧aE [mapA b2 (fun x=>Value.int .i64 x) (Hist.endOf ends),mapA b1 (fun x=>Value.bool x) (fun x=>if x ∈ seen then some true else none),vE s es] h')∧es.length - s'.2.toNat < es.length - (n:Int).toNat:=by
      rintro hno ⟨u,w⟩ h' ⟨h4,h5⟩ hst s4
      simp only at h4 h5
      subst h4; subst h5
      rw [if_neg hno,if_neg (by rw [hst]; exact Bool.false_ne_true)] at he
      exact ⟨⟨n + 1,_,_,rfl,hlt,he,s4⟩,by simp; omega⟩
    rw [hw]
    refine aV (fun k2=>?_) (fun k2=>?_)
    · rw [Bool.and_eq_true] at k2
      have k1:fu es[n] z last = true:=by simpa using k2.1
      have kp:es[n].fEffect > 0:=by simpa using k2.2
      refine lookup_m (j:=1) mp_map_int_bool s3 rfl (decide (es[n].fEffect ∈ seen)) ?_ ?_
      · rw [if_neg Bool.false_ne_true]; unfold az
        by_cases hm:es[n].fEffect ∈ seen <;> simp [hm]
      · refine aV (fun k3=>?_) (fun k3=>?_)
        · have hm:es[n].fEffect ∈ seen:=of_decide_eq_true k3
          rw [if_pos (.inr ⟨kp,hm⟩)] at he
          exact aU he (bX (l:=[_,_]) s3)
        · have hm:es[n].fEffect ∉ seen:=of_decide_eq_false k3
          have hno:¬ (fu es[n] z last = false∨(es[n].fEffect > 0∧es[n].fEffect ∈ seen)):=by simp [k1,hm]
          exact rest hno _ (go hno)
    · refine aV (fun k3=>?_) (fun k3=>?_)
      · have k1:fu es[n] z last = false:=by simpa using k3
        rw [if_pos (.inl k1)] at he
        exact aU he (bX (l:=[_,_]) s3)
      · have k1:fu es[n] z last = true:=by simpa using k3
        have kp:¬ es[n].fEffect > 0:=by simp [k1] at k2; omega
        have hno:¬ (fu es[n] z last = false∨(es[n].fEffect > 0∧es[n].fEffect ∈ seen)):=by simp [k1]; intro hh; exact absurd hh kp
        exact rest hno _ (go hno)
  · have:n = es.length:=by rw [hl] at k; simp at k; omega
    subst this
    rw [List.drop_length] at he
    exact aU he (bX (l:=[_,_]) s3)
end Go.Proofs.YtmggcfijlpldpaaGreatDoor
namespace Go.Proofs.YtmggcfijlpldpaaGreatDoor
open Go Mb
set_option linter.unusedVariables false
def dK (a2:Int) (a3:Int) (q22:Nat × Nat) (Rec9:(Sl × Int)→Hp→Prop) (s8:Sl × Int) (x49:ar) (s22:Bool):Hp→Prop:=br s22 ( ld (q22.1,q22.2 + 4) cP fun x65=>cl Tryz.prog gy [(pv x65)] dF fun r66=>cl Tryz.prog dr [(pv r66),(.int .i64 x49.fEnv),(.agg (ah.C x49.fCall).toArray)] bf fun r72=>cl Tryz.prog fH [(pv r66),(.int .i64 a2),(.int .i64 a3)] cr fun r77=>hpv Tryz.prog (Instr.buildSlice pE 1 #[(0,(.agg (al.C r77.1).toArray))]) pW fun (v82:Sl)=>hpv Tryz.prog (Builtin.append_ #[pE,pE] pE #[(sv s8.1),(sv v82)]) pW fun (v83:Sl)=>Rec9 (v83,(IntKind.i64.wrap (s8.2 + 1)))) ( Rec9 (s8.1,(IntKind.i64.wrap (s8.2 + 1))))
def kx (a2:Int) (a3:Int) (K:Sl→Hp→Prop) (q22:Nat × Nat) (r37:Sl) (Rec9:(Sl × Int)→Hp→Prop) (s8:Sl × Int):Hp→Prop:=br (decide (s8.2 < (r37.len:Int))) ( ix r37 s8.2 fun q41=>ld (q41.1,q41.2 + Int.toNat s8.2 * 1) (cI .i64) fun x42=>ld (q22.1,q22.2 + 0) cS fun x46=>ix x46 x42 fun q48=>ld (q48.1,q48.2 + Int.toNat x42 * 16) ar.C fun x49=>br (((aC x49.fCall).1) == 7) ( dK a2 a3 q22 Rec9 s8 x49 (((aC x49.fCall).1) == 7)) ( br (((aC x49.fCall).1) == 8) ( dK a2 a3 q22 Rec9 s8 x49 (((aC x49.fCall).1) == 8)) ( br (((aC x49.fCall).1) == 4) ( dK a2 a3 q22 Rec9 s8 x49 (((aC x49.fCall).1) == 4)) ( dK a2 a3 q22 Rec9 s8 x49 (((aC x49.fCall).1) == 5))))) ( K s8.1)
def ph (a0:Ptr) (a1:Int) (a2:Int) (a3:Int) (K:Sl→Hp→Prop):Hp→Prop:=nn a0 fun q22=>ld (q22.1,q22.2 + 4) cP fun x24=>cl Tryz.prog fH [(pv x24),(.int .i64 a2),(.int .i64 a3)] cr fun r27=>hpv Tryz.prog (Instr.buildSlice pE 1 #[(0,(.agg (al.C r27.1).toArray))]) pW fun (v31:Sl)=>ld (q22.1,q22.2 + 0) cS fun x35=>cl Tryz.prog n_hist_Over [(sv x35),(.int .i64 a1)] ct fun r37=>Lp (kx a2 a3 K q22 r37) (v31,0)
theorem wm (a0:Ptr) (a1:Int) (a2:Int) (a3:Int) {K:Sl→Hp→Prop} {h:Hp} (H:ph a0 a1 a2 a3 K h):Ct Tryz.prog li #[(pv a0),(.int .i64 a1),(.int .i64 a2),(.int .i64 a3)] h fun v h'=>∃ r,v = pW r∧K r h':=aw [(pv a0),(.int .i64 a1),(.int .i64 a2),(.int .i64 a3)] Tryz.func174 c c c fun _=>M<|O c<|M<|J c<|bC H fun q22 e1 H2=>p (aH<|aL c<|ao e1)<|p (ad vr c)<|aa<|aT H2 tX c (fun _=>c) c fun x24 H3=>J c<|J c<|aa<|D H3 en_103 fun r27 _ H4=>J c<|p (ai c c)<|p (ai c c)<|aa<|aI (l:=al.C (⟨0,0,0⟩:al)) eD c c fun b9=>aa<|aN (k:=0) (vs:=al.C r27.1) cR c c c c c c c<|O c<|M<|bg (bA (k:=0) dE c c c c) c<|aa<|aR H4 (bp (vs:=[(.agg (al.C r27.1).toArray)]) c) c fun v31 _ H5=>O c<|aj<|M<|J (aL c<|ao e1)<|p (aH c)<|p (ad fld_192_0 c)<|aa<|aT H5 sc_43 c (fun _=>c) c fun x35 H6=>J c<|aa<|D H6 en_198 fun r37 _ H7=>p (dv c Tryz.underlying40 c)<|J c<|ac<|ax<|bB (step:=kx a2 a3 K q22 r37) (fun s8=>[(0,(pv a0)),(2,(.int .i64 a2)),(3,(.int .i64 a3)),(11,(sv s8.1)),(37,(sv r37)),(38,(.int .i64 (r37.len:Int))),(39,(.int .i64 s8.2))]) (fun s8=>[]) H7 (.cons c<|.cons c<|.cons c<|.cons c<|.cons c<|.cons c<|.cons c<|.nil _) (.cons _ .slnil) fun Rec9 s8 _ H10=>M<|p (cm c c)<|ac<|aj<|av c H10 (fun k11 H12=>am<|aj<|ax<|M<|cg H12 fun q41 e13 h14 H15=>p (bm gV (aL c<|aY e13) c h14)<|aa<|aT H15 aW c (fun _=>c) c fun x42 H16=>O c<|M<|J (aL c<|ao e1)<|p (aH c)<|p (ad fld_192_0 c)<|aa<|aT H16 sc_43 c (fun _=>c) c fun x46 H17=>J c<|cg H17 fun q48 e18 h19 H20=>p (bm qL (aL c<|aY e18) c h19)<|aa<|gD H20 ul c (fun _=>c) c fun x49 H21=>aa<|aI (l:=ar.C (⟨0,0,(⟨0,0,0,0,0⟩:ah),0,0,0,(⟨0,0⟩:ab),(⟨0,0,0,0⟩:ak)⟩:ar)) tv c c fun b14=>aa<|aN (k:=0) (vs:=ar.C x49) inf_54 c c c c c c c<|ac<|M<|p (ad mB c)<|bg (bA (k:=0) fj c c c c) c<|aa<|cD (vs:=[(.agg (ah.C x49.fCall).toArray)]) (bq<|jO x49.fCall _) en_53 c c<|J c<|p (ai c c)<|p (ai c c)<|p (aq c)<|O c<|M<|J c<|ac<|ax<|dX (dK a2 a3 q22 Rec9 s8 x49) (fun s22=>[(0,(pv a0)),(2,(.int .i64 a2)),(3,(.int .i64 a3)),(11,(sv s8.1)),(14,(.pointer (some ⟨b14,0,none⟩))),(37,(sv r37)),(38,(.int .i64 (r37.len:Int))),(39,(.int .i64 s8.2)),(57,(.bool s22))]) (fun s22=>[bx b14 54 (ar.C x49)]) (M<|p (bK c c)<|O c<|av c H21 (fun k32 H33=>am<|cq (((aC x49.fCall).1) == 7) H33 (.cons c<|.cons c<|.cons c<|.cons c<|.cons c<|.cons c<|.cons c<|.cons c<|.cons c<|.nil _)<|.cons_cons _ .slnil) fun k32 H33=>M<|p (bK c c)<|O c<|av c H33 (fun k34 H35=>am<|cq (((aC x49.fCall).1) == 8) H35 (.cons c<|.cons c<|.cons c<|.cons c<|.cons c<|.cons c<|.cons c<|.cons c<|.cons c<|.nil _)<|.cons_cons _ .slnil) fun k34 H35=>M<|p (bK c c)<|O c<|av c H35 (fun k36 H37=>am<|cq (((aC x49.fCall).1) == 4) H37 (.cons c<|.cons c<|.cons c<|.cons c<|.cons c<|.cons c<|.cons c<|.cons c<|.cons c<|.nil _)<|.cons_cons _ .slnil) fun k36 H37=>ap<|p (bK c c)<|O c<|cq (((aC x49.fCall).1) == 5) H37 (.cons c<|.cons c<|.cons c<|.cons c<|.cons c<|.cons c<|.cons c<|.cons c<|.cons c<|.nil _)<|.cons_cons _ .slnil) fun s22 _ H23=>av c H23 (fun k24 H25=>M<|J (aL c<|ao e1)<|p (aH c)<|p (ad vr c)<|aa<|aT H25 tX c (fun _=>c) c fun x65 H26=>aa<|D H26 en_175 fun r66 _ H27=>O c<|M<|J c<|p (ad oK c)<|bg (bd (k:=0) aW c c c) c<|p (ad mB c)<|bg (bA (k:=0) fj c c c c) c<|aa<|D H27 en_62 fun r72 _ H28=>ac<|M<|J c<|J c<|J c<|aa<|D H28 en_103 fun r77 _ H29=>J c<|p (ai c c)<|p (ai c c)<|aa<|aI (l:=al.C (⟨0,0,0⟩:al)) eD c c fun b18=>aa<|aN (k:=0) (vs:=al.C r77.1) cR c c c c c c c<|O c<|ap<|J c<|bg (bA (k:=0) dE c c c c) c<|aa<|aR H29 (bp (vs:=[(.agg (al.C r77.1).toArray)]) c) c fun v82 _ H30=>aa<|aR H30 (dA c c) c fun v83 _ H31=>O c<|ap<|p (bt c c)<|J c<|ac<|cF (v83,(IntKind.i64.wrap (s8.2 + 1))) H31 (.cons c<|.cons c<|.cons c<|.cons c<|.cons c<|.cons c<|.cons c<|.nil _)<|.cons _<|.cons _ .slnil) fun k24 H25=>am<|ap<|p (bt c c)<|J c<|ac<|cF (s8.1,(IntKind.i64.wrap (s8.2 + 1))) H25 (.cons c<|.cons c<|.cons c<|.cons c<|.cons c<|.cons c<|.cons c<|.nil _)<|.cons _ .slnil) fun k11 H12=>bh<|M<|J c<|O c<|ag<|Y ⟨s8.1,c,H12⟩
def ky (a1:ar) (K:Bool→Hp→Prop) (q18:Nat × Nat) (r50:Sl) (Rec13:(Bool × Bool × Int)→Hp→Prop) (s12:Bool × Bool × Int):Hp→Prop:=br (decide (s12.2.2 < (r50.len:Int))) ( ix r50 s12.2.2 fun q54=>ld (q54.1,q54.2 + Int.toNat s12.2.2 * 3) al.C fun x55=>Rec13 ((s12.1 || (!(dh x55.fRights (IntKind.i64.wrap a1.fCall.e0)))),(s12.2.1 || ((x55.fFrame == a1.fLine.fFrame) && (be a1.fLine.fRights x55.fRights))),(IntKind.i64.wrap (s12.2.2 + 1)))) ( br (a1.fAnswer.fErr == 7) ( K ((s12.1 && (a1.fAnswer.fVal == 0)) && (ak.eqb a1.fLine (⟨0,0,0,0⟩:ak)))) ( ld (q18.1,q18.2 + 4) cP fun x103=>cl Tryz.prog gy [(pv x103)] dF fun r104=>cl Tryz.prog eP [(pv r104),(.int .i64 a1.fLine.fFrame),(.agg (ah.C a1.fCall).toArray)] bf fun r110=>K (((s12.2.1 && (((a1.fLine.fEnv == a1.fEnv) && (a1.fLine.fPage == (IntKind.i64.wrap a1.fCall.e1))) && (dh a1.fLine.fRights (IntKind.i64.wrap a1.fCall.e0)))) && r110.2) && (ab.eqb r110.1 a1.fAnswer))))
def pj (a0:Ptr) (a1:ar) (K:Bool→Hp→Prop):Hp→Prop:=nn a0 fun q18=>ld (q18.1,q18.2 + 1 + 1) (cI .i64) fun x21=>cl Tryz.prog gH [(.agg (ah.C a1.fCall).toArray),(.int .i64 x21)] aZ fun r22=>br (r22 != 0) ( K ((ab.eqb a1.fAnswer (⟨r22,0⟩:ab)) && (ak.eqb a1.fLine (⟨0,0,0,0⟩:ak)))) ( cl Tryz.prog li [(.pointer (some ⟨q18.1,q18.2,none⟩)),(.int .i64 a1.fEffect),(.int .i64 a1.fEnv),(.int .i64 (IntKind.i64.wrap a1.fCall.e1))] pW fun r50=>Lp (ky a1 K q18 r50) (false,false,0))
theorem wn (a0:Ptr) (a1:ar) {K:Bool→Hp→Prop} {h:Hp} (H:pj a0 a1 K h):Ct Tryz.prog lj #[(pv a0),(.agg (ar.C a1).toArray)] h fun v h'=>∃ r,v = az r∧K r h':=aw [(pv a0),(.agg (ar.C a1).toArray)] Tryz.func132 c c c fun _=>M<|aa<|cE (l:=ar.C a1) c c c fun b3=>O c<|aj<|aj<|bj (n:=9) [bx b3 54 (ar.C a1)] ci c (.cons_cons _ .slnil)<|U 0 c (ad mB c)<|z_E 1 c (dY (k:=0) fj c c c c)<|U 2 c (ae c)<|gI H fun q18 e1 H2=>U 3 c (aH<|aL c<|ao e1)<|U 4 c (ad fld_192_1 c)<|U 5 c (ad mE c)<|bD (i:=6) (fun _ _ _ _ hh=>hh) H2 c (by kernel_rfl) aW c (fun _=>c) c fun x21 H3=>I 7 c<|D H3 en_98 fun r22 _ H4=>⟨.cons_cons _ .slnil,U 8 c (aq c)<|aQ (by kernel_rfl)<|M<|J c<|p (nO c c)<|ac<|av c H4 (fun k5 H6=>M<|p (ad jX c)<|bg (bA (k:=0) cx c c c c) c<|J c<|p (aX c<|iW r22)<|p (v_eqA eqg_30 (eqr_30 9998 _ _) c c)<|J c<|V c c (ay _) (fun g7=>wv<|ad fY c)<|V c c (ay _) (fun g8=>cv<|bA (k:=0) gQ (aB c g8) c c c)<|V c c (ay _) (fun g9=>wv<|aX (vs:=[]) c lv)<|V c c (ay _) (fun g10=>wv<|v_eqA eqg_52 (eqr_52 9998 _ _) (aB c g10)<|aB c g10)<|p (bM c c)<|O c<|ag<|Y ⟨((ab.eqb a1.fAnswer (⟨r22,0⟩:ab)) && (ak.eqb a1.fLine (⟨0,0,0,0⟩:ak))),c,H6⟩) fun k5 H6=>am<|aj<|bj (n:=10) [bx b3 54 (ar.C a1)] ci c (.cons_cons _ .slnil)<|U 0 c (ad mB c)<|U 1 c (bu cX c c (by decide))<|z_E 2 c (cT (k:=0) ck c c c)<|U 3 c (dP ⟨_,Tryz.underlying22⟩ Tryz.underlying3 c)<|U 4 c (ad mB c)<|U 5 c (bu cX c c (by decide))<|z_E 6 c (cT (k:=0) ck c c c)<|U 7 c (dP ⟨_,Tryz.underlying22⟩ Tryz.underlying3 c)<|U 8 c (aq c)<|U 9 c (aq c)<|aQ (by kernel_rfl)<|M<|p (aq c)<|O c<|aj<|M<|J (aL c<|ao e1)<|p (ad iO c)<|bg (bd (k:=0) aW c c c) c<|p (ad oK c)<|bg (bd (k:=0) aW c c c) c<|J c<|aa<|D H6 en_174 fun r50 _ H11=>p (dv c Tryz.underlying234 c)<|J c<|ac<|ax<|bB (step:=ky a1 K q18 r50) (fun s12=>[(0,(pv a0)),(3,(.pointer (some ⟨b3,0,none⟩))),(6,(.int .i64 (IntKind.i64.wrap a1.fCall.e1))),(7,(.int .i64 (IntKind.i64.wrap a1.fCall.e0))),(8,(.bool s12.1)),(9,(.bool s12.2.1)),(50,(sv r50)),(51,(.int .i64 (r50.len:Int))),(52,(.int .i64 s12.2.2))]) (fun s12=>[bx b3 54 (ar.C a1)]) H11 (.cons c<|.cons c<|.cons c<|.cons c<|.cons c<|.cons c<|.cons c<|.cons c<|.cons c<|.nil _) (.cons_cons _ .slnil) fun Rec13 s12 _ H14=>M<|p (cm c c)<|ac<|aj<|av c H14 (fun k15 H16=>am<|aj<|ax<|M<|cg H16 fun q54 e17 h18 H19=>p (bm slc_234 (aL c<|aY e17) c h18)<|aa<|gD H19 dE c (fun _=>c) c fun x55 H20=>aa<|aI (l:=al.C (⟨0,0,0⟩:al)) eD c c fun b11=>aa<|aN (k:=0) (vs:=al.C x55) cR c c c c c c c<|ac<|M<|J c<|J c<|V c c (aK _) (fun g21=>wv<|ad dG c)<|V c c (aK _) (fun g22=>cv<|bd (k:=0) aW (aB c g22) c c)<|V c c (aK _) (fun g23=>wv<|ae c)<|cO (vs:=[(.int .i64 x55.fRights),(.int .i64 (IntKind.i64.wrap a1.fCall.e0))]) c c c (aK _) (fun g24=>bq<|jD x55.fRights (IntKind.i64.wrap a1.fCall.e0) _) en_152 (fun g24=>aS (aB c g24)<|aS (aB c g24) bO) c<|V c c (aK _) (fun g25=>wv<|cf<|aB c g25)<|p (dm c c)<|O c<|ap<|J c<|J c<|V c c (aK _) (fun g26=>wv<|ad nH c)<|V c c (aK _) (fun g27=>cv<|bd (k:=0) aW (aB c g27) c c)<|V c c (aK _) (fun g28=>wv<|ad fY c)<|V c c (aK _) (fun g29=>wv<|ad lp<|aB c g29)<|V c c (aK _) (fun g30=>cv<|bd (k:=1) aW (aB c g30) c c)<|V c c (aK _) (fun g31=>wv<|bK (aB c g31)<|aB c g31)<|V c c (aK _) (fun g32=>wv<|ae<|aB c g32)<|V c c (rc _ _) (fun g33=>wv<|ad fY c)<|V c c (rc _ _) (fun g34=>wv<|ad qE<|aB c g34)<|V c c (rc _ _) (fun g35=>cv<|bd (k:=1) aW (aB c g35) c c)<|V c c (rc _ _) (fun g36=>wv<|ad dG c)<|V c c (rc _ _) (fun g37=>cv<|bd (k:=0) aW (aB c g37) c c)<|cO (vs:=[(.int .i64 a1.fLine.fRights),(.int .i64 x55.fRights)]) c c c (rc _ _) (fun g38=>bq<|cU a1.fLine.fRights x55.fRights _) mj (fun g38=>aS (aB c g38)<|aS (aB c g38) bO) c<|V c c (aK _) (fun g39=>wv<|bM (aB c g39)<|aL c<|wQ g39)<|p (dm c c)<|O c<|ap<|p (bt c c)<|J c<|ac<|cF ((s12.1 || (!(dh x55.fRights (IntKind.i64.wrap a1.fCall.e0)))),(s12.2.1 || ((x55.fFrame == a1.fLine.fFrame) && (be a1.fLine.fRights x55.fRights))),(IntKind.i64.wrap (s12.2.2 + 1))) H20 (.cons c<|.cons c<|.cons c<|.cons c<|.cons c<|.cons c<|.cons c<|.cons c<|.cons c<|.nil _)<|.cons _<|.cons_cons _ .slnil) fun k15 H16=>bh<|aj<|M<|p (ad jX c)<|p (ad jr c)<|bg (bd (k:=0) nu c c c) c<|p (bK c c)<|ac<|av c H16 (fun k40 H41=>M<|J c<|J c<|V c c (ay _) (fun g42=>wv<|ad jX c)<|V c c (ay _) (fun g43=>wv<|ad fld_30_1<|aB c g43)<|V c c (ay _) (fun g44=>cv<|bd (k:=0) ck (aB c g44) c c)<|V c c (ay _) (fun g45=>wv<|bK (aB c g45) c)<|p (bM c c)<|J c<|V c c (ay _) (fun g46=>wv<|ad fY c)<|V c c (ay _) (fun g47=>cv<|bA (k:=0) gQ (aB c g47) c c c)<|V c c (ay _) (fun g48=>wv<|aX (vs:=[]) c lv)<|V c c (ay _) (fun g49=>wv<|v_eqA eqg_52 (eqr_52 9998 _ _) (aB c g49)<|aB c g49)<|p (bM c c)<|O c<|ag<|Y ⟨((s12.1 && (a1.fAnswer.fVal == 0)) && (ak.eqb a1.fLine (⟨0,0,0,0⟩:ak))),c,H41⟩) fun k40 H41=>am<|aj<|bj (n:=17) [bx b3 54 (ar.C a1)] ci c (.cons_cons _ .slnil)<|U 0 c (ae<|aL c<|ao e1)<|U 1 c (aH c)<|U 2 c (ad vr c)<|U 5 c (ad fY c)<|U 6 c (ad lp c)<|z_E 7 c (cT (k:=0) aW c c c)<|U 8 c (ad mB c)<|z_E 9 c (dY (k:=0) fj c c c c)<|bD (i:=3) (fun _ _ _ _ hh=>hh) H41 c (by kernel_rfl) tX c (fun _=>c) c fun x103 H50=>jt (i:=4) (j:=14) (by kernel_rfl) (cy c c<|D H50 en_175 fun r104 _ H52=>⟨.cons_cons _ .slnil,jt (i:=10) (j:=14) (by kernel_rfl) (cy c c<|D H52 uF fun r110 _ H54=>⟨.cons_cons _ .slnil,U 11 c (ae c)<|U 12 c (ai c c)<|U 13 c (ai c c)<|I 14 c<|aI (l:=ab.C (⟨0,0⟩:ab)) cQ c c fun b12=>⟨.cons _<|.cons_cons _ .slnil,I 15 c<|aN (k:=0) (vs:=ab.C r110.1) bJ c c c c c c c ⟨.cons _<|.cons_cons _ .slnil,U 16 c (aq c)<|aQ (by kernel_rfl)<|M<|p (ad fY c)<|p (ad jY c)<|bg (bd (k:=1) aW c c c) c<|p (ad oK c)<|bg (bd (k:=1) aW c c c) c<|p (bK c c)<|J c<|V c c (ay _) (fun g55=>wv<|ad fY c)<|V c c (ay _) (fun g56=>wv<|ad mC<|aB c g56)<|V c c (ay _) (fun g57=>cv<|bd (k:=1) aW (aB c g57) c c)<|V c c (ay _) (fun g58=>wv<|ae c)<|V c c (ay _) (fun g59=>wv<|bK (aB c g59)<|aB c g59)<|p (bM c c)<|J c<|V c c (ay _) (fun g60=>wv<|ad fY c)<|V c c (ay _) (fun g61=>wv<|ad qE<|aB c g61)<|V c c (ay _) (fun g62=>cv<|bd (k:=1) aW (aB c g62) c c)<|V c c (ay _) (fun g63=>wv<|ae c)<|cO (vs:=[(.int .i64 a1.fLine.fRights),(.int .i64 (IntKind.i64.wrap a1.fCall.e0))]) c c c (ay _) (fun g64=>bq<|jD a1.fLine.fRights (IntKind.i64.wrap a1.fCall.e0) _) en_152 (fun g64=>aS (aB c g64)<|aS (aB c g64) bO) c<|p (bM c c)<|O c<|M<|J c<|J c<|V c c (ay _) (fun g65=>wv<|ae c)<|p (bM c c)<|J c<|V c c (ay _) (fun g66=>wv<|ae c)<|p (bM c c)<|J c<|V c c (ay _) (fun g67=>cv<|bA (k:=0) cx c c c c)<|V c c (ay _) (fun g68=>wv<|ad jX c)<|V c c (ay _) (fun g69=>cv<|bA (k:=1) cx (aB c g69) c c c)<|V c c (ay _) (fun g70=>wv<|v_eqA eqg_30 (eqr_30 9998 _ _) (aB c g70)<|aB c g70)<|p (bM c c)<|O c<|ag<|Y ⟨(((s12.2.1 && (((a1.fLine.fEnv == a1.fEnv) && (a1.fLine.fPage == (IntKind.i64.wrap a1.fCall.e1))) && (dh a1.fLine.fRights (IntKind.i64.wrap a1.fCall.e0)))) && r110.2) && (ab.eqb r110.1 a1.fAnswer)),c,H54⟩⟩⟩⟩)<|cy c c<|aI (l:=ab.C (⟨0,0⟩:ab)) cQ c c fun b12=>⟨.cons _<|.cons_cons _ .slnil,I 10 c<|D H52 uF fun r110 _ H54=>⟨.cons _<|.cons_cons _ .slnil,U 11 c (ae c)<|U 12 c (ai c c)<|U 13 c (ai c c)<|I 15 c<|aN (k:=0) (vs:=ab.C r110.1) bJ c c c c c c c ⟨.cons _<|.cons_cons _ .slnil,U 16 c (aq c)<|aQ (by kernel_rfl)<|M<|p (ad fY c)<|p (ad jY c)<|bg (bd (k:=1) aW c c c) c<|p (ad oK c)<|bg (bd (k:=1) aW c c c) c<|p (bK c c)<|J c<|V c c (ay _) (fun g55=>wv<|ad fY c)<|V c c (ay _) (fun g56=>wv<|ad mC<|aB c g56)<|V c c (ay _) (fun g57=>cv<|bd (k:=1) aW (aB c g57) c c)<|V c c (ay _) (fun g58=>wv<|ae c)<|V c c (ay _) (fun g59=>wv<|bK (aB c g59)<|aB c g59)<|p (bM c c)<|J c<|V c c (ay _) (fun g60=>wv<|ad fY c)<|V c c (ay _) (fun g61=>wv<|ad qE<|aB c g61)<|V c c (ay _) (fun g62=>cv<|bd (k:=1) aW (aB c g62) c c)<|V c c (ay _) (fun g63=>wv<|ae c)<|cO (vs:=[(.int .i64 a1.fLine.fRights),(.int .i64 (IntKind.i64.wrap a1.fCall.e0))]) c c c (ay _) (fun g64=>bq<|jD a1.fLine.fRights (IntKind.i64.wrap a1.fCall.e0) _) en_152 (fun g64=>aS (aB c g64)<|aS (aB c g64) bO) c<|p (bM c c)<|O c<|M<|J c<|J c<|V c c (ay _) (fun g65=>wv<|ae c)<|p (bM c c)<|J c<|V c c (ay _) (fun g66=>wv<|ae c)<|p (bM c c)<|J c<|V c c (ay _) (fun g67=>cv<|bA (k:=0) cx c c c c)<|V c c (ay _) (fun g68=>wv<|ad jX c)<|V c c (ay _) (fun g69=>cv<|bA (k:=1) cx (aB c g69) c c c)<|V c c (ay _) (fun g70=>wv<|v_eqA eqg_30 (eqr_30 9998 _ _) (aB c g70)<|aB c g70)<|p (bM c c)<|O c<|ag<|Y ⟨(((s12.2.1 && (((a1.fLine.fEnv == a1.fEnv) && (a1.fLine.fPage == (IntKind.i64.wrap a1.fCall.e1))) && (dh a1.fLine.fRights (IntKind.i64.wrap a1.fCall.e0)))) && r110.2) && (ab.eqb r110.1 a1.fAnswer)),c,H54⟩⟩⟩⟩⟩)<|cy c c<|aI (l:=ab.C (⟨0,0⟩:ab)) cQ c c fun b12=>⟨.cons _<|.cons_cons _ .slnil,I 4 c<|D H50 en_175 fun r104 _ H52=>⟨.cons _<|.cons_cons _ .slnil,I 10 c<|D H52 uF fun r110 _ H53=>⟨.cons _<|.cons_cons _ .slnil,U 11 c (ae c)<|U 12 c (ai c c)<|U 13 c (ai c c)<|I 15 c<|aN (k:=0) (vs:=ab.C r110.1) bJ c c c c c c c ⟨.cons _<|.cons_cons _ .slnil,U 16 c (aq c)<|aQ (by kernel_rfl)<|M<|p (ad fY c)<|p (ad jY c)<|bg (bd (k:=1) aW c c c) c<|p (ad oK c)<|bg (bd (k:=1) aW c c c) c<|p (bK c c)<|J c<|V c c (ay _) (fun g54=>wv<|ad fY c)<|V c c (ay _) (fun g55=>wv<|ad mC<|aB c g55)<|V c c (ay _) (fun g56=>cv<|bd (k:=1) aW (aB c g56) c c)<|V c c (ay _) (fun g57=>wv<|ae c)<|V c c (ay _) (fun g58=>wv<|bK (aB c g58)<|aB c g58)<|p (bM c c)<|J c<|V c c (ay _) (fun g59=>wv<|ad fY c)<|V c c (ay _) (fun g60=>wv<|ad qE<|aB c g60)<|V c c (ay _) (fun g61=>cv<|bd (k:=1) aW (aB c g61) c c)<|V c c (ay _) (fun g62=>wv<|ae c)<|cO (vs:=[(.int .i64 a1.fLine.fRights),(.int .i64 (IntKind.i64.wrap a1.fCall.e0))]) c c c (ay _) (fun g63=>bq<|jD a1.fLine.fRights (IntKind.i64.wrap a1.fCall.e0) _) en_152 (fun g63=>aS (aB c g63)<|aS (aB c g63) bO) c<|p (bM c c)<|O c<|M<|J c<|J c<|V c c (ay _) (fun g64=>wv<|ae c)<|p (bM c c)<|J c<|V c c (ay _) (fun g65=>wv<|ae c)<|p (bM c c)<|J c<|V c c (ay _) (fun g66=>cv<|bA (k:=0) cx c c c c)<|V c c (ay _) (fun g67=>wv<|ad jX c)<|V c c (ay _) (fun g68=>cv<|bA (k:=1) cx (aB c g68) c c c)<|V c c (ay _) (fun g69=>wv<|v_eqA eqg_30 (eqr_30 9998 _ _) (aB c g69)<|aB c g69)<|p (bM c c)<|O c<|ag<|Y ⟨(((s12.2.1 && (((a1.fLine.fEnv == a1.fEnv) && (a1.fLine.fPage == (IntKind.i64.wrap a1.fCall.e1))) && (dh a1.fLine.fRights (IntKind.i64.wrap a1.fCall.e0)))) && r110.2) && (ab.eqb r110.1 a1.fAnswer)),c,H53⟩⟩⟩⟩⟩⟩
def rq (a0:Ptr) (a1:ar) (K:Bool→Hp→Prop):Hp→Prop:=br (a1.fAnswer.fErr == 0) ( nn a0 fun q13=>ld (q13.1,q13.2 + 1 + 1) (cI .i64) fun x16=>cl Tryz.prog gH [(.agg (ah.C a1.fCall).toArray),(.int .i64 x16)] aZ fun r17=>br (r17 == 0) ( K (a1.fLine.fRights != 0)) ( K false)) ( K false)
theorem sim_judge_judge_well (a0:Ptr) (a1:ar) {K:Bool→Hp→Prop} {h:Hp} (H:rq a0 a1 K h):Ct Tryz.prog mW #[(pv a0),(.agg (ar.C a1).toArray)] h fun v h'=>∃ r,v = az r∧K r h':=aw [(pv a0),(.agg (ar.C a1).toArray)] Tryz.func133 c c c fun _=>M<|aa<|cE (l:=ar.C a1) c c c fun b3=>O c<|aj<|bj (n:=22) [bx b3 54 (ar.C a1)] ci c (.cons_cons _ .slnil)<|U 0 c (ad jX c)<|U 1 c (ad jr c)<|z_E 2 c (cT (k:=0) nu c c c)<|U 3 c (bK c c)<|U 4 c (ae c)<|im H (fun k1 H2=>R 5 c (Z k1) (ve<|ad mB c)<|R 6 c (Z k1) (dY (k:=0) fj c c c c)<|R 7 c (Z k1) (ve<|ae c)<|gI H2 fun q13 e3 H4=>R 8 c (Z k1) (ve<|aH<|aL c<|ao e3)<|R 9 c (Z k1) (ve<|ad fld_192_1 c)<|R 10 c (Z k1) (ve<|ad mE c)<|lS (i:=11) (fun _ _ _ _ hh=>hh) H4 c (by kernel_rfl) c c c (Z k1) aW c (fun _=>c) c fun x16 H5=>eva_1 (i:=12) (by kernel_rfl)<|way_on c c c c (Z k1)<|D H5 en_98 fun r17 _ H6=>⟨.cons_cons _ .slnil,R 13 c (Z k1) (ve<|bK c c)<|U 14 c (aM c k1 c)<|U 15 c (ae c)<|im H6 (fun k7 H8=>R 16 c (Z k7) (ve<|ad fY c)<|R 17 c (Z k7) (ve<|ad qE c)<|R 18 c (Z k7) (cT (k:=0) aW c c c)<|R 19 c (Z k7) (ve<|nO c c)<|U 20 c (aM c k7 c)<|U 21 c (aq c)<|aQ (by kernel_rfl)<|ag<|Y ⟨(a1.fLine.fRights != 0),c,H8⟩) fun k7 H8=>F 16 c (aP k7)<|F 17 c (aP k7)<|F 18 c (aP k7)<|F 19 c (aP k7)<|U 20 c (an c k7 c)<|U 21 c (aq c)<|aQ (by kernel_rfl)<|ag<|Y ⟨false,c,H8⟩⟩) fun k1 H2=>F 5 c (aP k1)<|F 6 c (aP k1)<|F 7 c (aP k1)<|F 8 c (aP k1)<|F 9 c (aP k1)<|F 10 c (aP k1)<|F 11 c (aP k1)<|F 12 c (aP k1)<|F 13 c (aP k1)<|U 14 c (an c k1 c)<|U 15 c (ae c)<|F 16 c c<|F 17 c c<|F 18 c c<|F 19 c c<|U 20 c (an c c c)<|U 21 c (aq c)<|aQ (by kernel_rfl)<|ag<|Y ⟨false,c,H2⟩
def rQ (b25:Nat) (Rec8:Int→Hp→Prop) (s7:Int) (x36:ar) (s22:Unit):Hp→Prop:=cl Tryz.prog mW [(.pointer (some ⟨b25,0,none⟩)),(.agg (ar.C x36).toArray)] az fun r49=>br r49 ( ld (b25,4) cP fun x53=>cl Tryz.prog eP [(pv x53),(.int .i64 x36.fLine.fFrame),(.agg (ah.C x36.fCall).toArray)] bf fun r59=>Rec8 (IntKind.i64.wrap (s7 + 1))) ( Rec8 (IntKind.i64.wrap (s7 + 1)))
def rP (K:(Int × Bool)→Hp→Prop) (b25:Nat) (Rec8:Int→Hp→Prop) (s7:Int) (x32:Int) (x36:ar) (s29:Bool):Hp→Prop:=br s29 ( K (x32,false)) ( rQ b25 Rec8 s7 x36 ())
def wN (a0:Sl) (a2:Bool) (a3:Bool) (K:(Int × Bool)→Hp→Prop) (b25:Nat) (r27:Sl) (Rec8:Int→Hp→Prop) (s7:Int):Hp→Prop:=br (decide (s7 < (r27.len:Int))) ( ix r27 s7 fun q31=>ld (q31.1,q31.2 + Int.toNat s7 * 1) (cI .i64) fun x32=>ix a0 x32 fun q35=>ld (q35.1,q35.2 + Int.toNat x32 * 16) ar.C fun x36=>br (pX x36) ( br a3 ( cl Tryz.prog lj [(.pointer (some ⟨b25,0,none⟩)),(.agg (ar.C x36).toArray)] az fun r43=>rP K b25 Rec8 s7 x32 x36 (!r43)) ( rP K b25 Rec8 s7 x32 x36 false)) ( ld (b25,4) cP fun x64=>cl Tryz.prog dr [(pv x64),(.int .i64 x36.fEnv),(.agg (ah.C x36.fCall).toArray)] bf fun r69=>br (a2 && ((!r69.2) || (!(ab.eqb r69.1 x36.fAnswer)))) ( K (x32,false)) ( Rec8 (IntKind.i64.wrap (s7 + 1))))) ( K ((-1),true))
def sh_judge_run (a0:Sl) (a1:aA) (a2:Bool) (a3:Bool) (K:(Int × Bool)→Hp→Prop):Hp→Prop:=cl Tryz.prog wI [(sv a0),(.agg (aA.C a1).toArray)] az fun r18=>br (!r18) ( K ((-1),false)) ( cl Tryz.prog nv [(.agg (aA.C a1).toArray)] dF fun r23=>nw da (km.C (⟨a0,a1,r23⟩:km)) fun b25=>cl Tryz.prog oC [(sv a0)] ct fun r27=>Lp (wN a0 a2 a3 K b25 r27) 0)
theorem sim_judge_run (a0:Sl) (a1:aA) (a2:Bool) (a3:Bool) {K:(Int × Bool)→Hp→Prop} {h:Hp} (H:sh_judge_run a0 a1 a2 a3 K h):Ct Tryz.prog ud #[(sv a0),(.agg (aA.C a1).toArray),(.bool a2),(.bool a3)] h fun v h'=>∃ r,v = bI r∧K r h':=aw [(sv a0),(.agg (aA.C a1).toArray),(.bool a2),(.bool a3)] Tryz.func84 c c c fun _=>M<|aa<|cE (l:=aA.C a1) c c c fun b5=>p (aq c)<|O c<|aj<|M<|J c<|bg (bA (k:=0) pw c c c c) c<|aa<|D H en_33 fun r18 _ H1=>p (cf c)<|ac<|av c H1 (fun k2 H3=>M<|p (aq c)<|O c<|ag<|bo (bL c (bV c)<|bV c) ⟨((-1),false),c,H3⟩) fun k2 H3=>am<|aj<|bj (n:=7) [bx b5 27 (aA.C a1)] ci c (.cons_cons _ .slnil)<|U 0 c (ae c)<|z_E 1 c (dY (k:=0) pw c c c c)<|z_E 2 c (dY (k:=0) pw c c c c)<|I 3 c<|D H3 en_48 fun r23 _ H4=>⟨.cons_cons _ .slnil,U 4 c (aX c<|build_192_0_1_2 a0 a1 r23)<|I 5 c<|gT c c c H4 fun b25 _ H5=>⟨.cons_cons _ .slnil,U 6 c (aq c)<|aQ (by kernel_rfl)<|aj<|M<|J c<|aa<|D H5 en_43 fun r27 _ H6=>p (dv c Tryz.underlying40 c)<|J c<|ac<|ax<|bB (step:=wN a0 a2 a3 K b25 r27) (fun s7=>[(0,(sv a0)),(2,(.bool a2)),(3,(.bool a3)),(10,(.pointer (some ⟨b25,0,none⟩))),(27,(sv r27)),(28,(.int .i64 (r27.len:Int))),(29,(.int .i64 s7))]) (fun s7=>[]) H6 (.cons c<|.cons c<|.cons c<|.cons c<|.cons c<|.cons c<|.cons c<|.nil _) (.cons _ .slnil) fun Rec8 s7 _ H9=>M<|p (cm c c)<|ac<|aj<|av c H9 (fun k10 H11=>am<|aj<|ax<|M<|cg H11 fun q31 e12 h13 H14=>p (bm gV (aL c<|aY e12) c h13)<|aa<|aT H14 aW c (fun _=>c) c fun x32 H15=>O c<|M<|J c<|J c<|cg H15 fun q35 e16 h17 H18=>p (bm qL (aL c<|aY e16) c h17)<|aa<|gD H18 ul c (fun _=>c) c fun x36 H19=>aa<|aI (l:=ar.C (⟨0,0,(⟨0,0,0,0,0⟩:ah),0,0,0,(⟨0,0⟩:ab),(⟨0,0,0,0⟩:ak)⟩:ar)) tv c c fun b13=>aa<|aN (k:=0) (vs:=ar.C x36) inf_54 c c c c c c c<|ac<|aj<|M<|bg (bA (k:=0) ul c c c c) c<|aa<|cD (vs:=[(.agg (ar.C x36).toArray)]) (bq<|ct_judge_user x36 _) en_131 c c<|ac<|av c H19 (fun k20 H21=>dX (rQ b25 Rec8 s7 x36) (fun s22=>[(0,(sv a0)),(2,(.bool a2)),(3,(.bool a3)),(10,(.pointer (some ⟨b25,0,none⟩))),(13,(.pointer (some ⟨b13,0,none⟩))),(27,(sv r27)),(28,(.int .i64 (r27.len:Int))),(29,(.int .i64 s7))]) (fun s22=>[bx b13 54 (ar.C x36)]) (dX (rP K b25 Rec8 s7 x32 x36) (fun s29=>[(0,(sv a0)),(2,(.bool a2)),(3,(.bool a3)),(10,(.pointer (some ⟨b25,0,none⟩))),(12,(.int .i64 x32)),(13,(.pointer (some ⟨b13,0,none⟩))),(27,(sv r27)),(28,(.int .i64 (r27.len:Int))),(29,(.int .i64 s7)),(45,(.bool s29))]) (fun s29=>[bx b13 54 (ar.C x36)]) (ap<|J c<|J c<|V c c (ay _) (fun g33=>wv<|ae c)<|V c c (ay _) (fun g34=>cv<|bA (k:=0) ul c c c c)<|bP H21 (fun k36 H37=>G (Z k36)<|fT H37 en_132 (aS (aB c k36)<|aS (aB c k36) bO) c fun r43 _ H38=>G (Z k36)<|z_p (cf c)<|p (aM c k36 c)<|ac<|cq (!r43) H38 (.cons c<|.cons c<|.cons c<|.cons c<|.cons c<|.cons c<|.cons c<|.cons c<|.cons c<|.cons c<|.nil _)<|.cons_cons _ .slnil) fun k36 H37=>W (aP k36)<|W (aP k36)<|p (an c k36 c)<|ac<|cq false H37 (.cons c<|.cons c<|.cons c<|.cons c<|.cons c<|.cons c<|.cons c<|.cons c<|.cons c<|.cons c<|.nil _)<|.cons_cons _ .slnil) fun s29 _ H30=>av c H30 (fun k31 H32=>M<|J c<|p (aq c)<|O c<|ag<|bo (bL c (bV c)<|bV c) ⟨(x32,false),c,H32⟩) fun k31 H32=>am<|cq () H32 (.cons c<|.cons c<|.cons c<|.cons c<|.cons c<|.cons c<|.cons c<|.cons c<|.nil _)<|.cons_cons _ .slnil) fun s22 _ H23=>aj<|M<|J c<|bg (bA (k:=0) ul c c c c) c<|aa<|D H23 en_133 fun r49 _ H24=>ac<|av c H24 (fun k25 H26=>bj (n:=10) [bx b13 54 (ar.C x36)] ci c (.cons_cons _ .slnil)<|U 0 c (ae c)<|U 1 c (aH c)<|U 2 c (ad vr c)<|U 4 c (ad fY c)<|U 5 c (ad lp c)<|z_E 6 c (cT (k:=0) aW c c c)<|U 7 c (ad mB c)<|z_E 8 c (dY (k:=0) fj c c c c)<|bD (i:=3) (fun _ _ _ _ hh=>hh) H26 c (by kernel_rfl) tX c (fun _=>c) c fun x53 H27=>I 9 c<|D H27 uF fun r59 _ H28=>⟨.cons_cons _ .slnil,aQ (by kernel_rfl)<|bh<|ap<|p (bt c c)<|J c<|ac<|cF (IntKind.i64.wrap (s7 + 1)) H28 (.cons c<|.cons c<|.cons c<|.cons c<|.cons c<|.cons c<|.cons c<|.nil _)<|.cons _ .slnil⟩) fun k25 H26=>am<|bh<|ap<|p (bt c c)<|J c<|ac<|cF (IntKind.i64.wrap (s7 + 1)) H26 (.cons c<|.cons c<|.cons c<|.cons c<|.cons c<|.cons c<|.cons c<|.nil _)<|.cons _ .slnil) fun k20 H21=>am<|aj<|bj (n:=15) [bx b13 54 (ar.C x36)] ci c (.cons_cons _ .slnil)<|U 0 c (ae c)<|U 1 c (aH c)<|U 2 c (ad vr c)<|U 4 c (ad oK c)<|z_E 5 c (cT (k:=0) aW c c c)<|U 6 c (ad mB c)<|z_E 7 c (dY (k:=0) fj c c c c)<|bD (i:=3) (fun _ _ _ _ hh=>hh) H21 c (by kernel_rfl) tX c (fun _=>c) c fun x64 H39=>jt (i:=8) (j:=12) (by kernel_rfl) (cy c c<|D H39 en_62 fun r69 _ H41=>⟨.cons_cons _ .slnil,U 9 c (ae c)<|U 10 c (ai c c)<|U 11 c (ai c c)<|I 12 c<|aI (l:=ab.C (⟨0,0⟩:ab)) cQ c c fun b14=>⟨.cons _<|.cons_cons _ .slnil,I 13 c<|aN (k:=0) (vs:=ab.C r69.1) bJ c c c c c c c ⟨.cons _<|.cons_cons _ .slnil,U 14 c (aq c)<|aQ (by kernel_rfl)<|M<|J c<|J c<|V c c (ay _) (fun g42=>wv<|ae c)<|V c c (ay _) (fun g43=>wv<|cf<|aB c g43)<|V c c (ay _) (fun g44=>wv<|ae<|aB c g44)<|V c c (dO _ _) (fun g45=>cv<|bA (k:=0) cx c c c c)<|V c c (dO _ _) (fun g46=>wv<|ad jX c)<|V c c (dO _ _) (fun g47=>cv<|bA (k:=1) cx (aB c g47) c c c)<|V c c (dO _ _) (fun g48=>wv<|v_neA eqg_30 (eqr_30 9998 _ _) (aB c g48)<|aB c g48)<|V c c (ay _) (fun g49=>wv<|dm (aB c g49)<|aL c<|wQ g49)<|p (bM c c)<|ac<|av c H41 (fun k50 H51=>M<|J c<|p (aq c)<|O c<|ag<|bo (bL c (bV c)<|bV c) ⟨(x32,false),c,H51⟩) fun k50 H51=>am<|ap<|p (bt c c)<|J c<|ac<|cF (IntKind.i64.wrap (s7 + 1)) H51 (.cons c<|.cons c<|.cons c<|.cons c<|.cons c<|.cons c<|.cons c<|.nil _)<|.cons _<|.cons _ .slnil⟩⟩⟩)<|cy c c<|aI (l:=ab.C (⟨0,0⟩:ab)) cQ c c fun b14=>⟨.cons _<|.cons_cons _ .slnil,I 8 c<|D H39 en_62 fun r69 _ H41=>⟨.cons _<|.cons_cons _ .slnil,U 9 c (ae c)<|U 10 c (ai c c)<|U 11 c (ai c c)<|I 13 c<|aN (k:=0) (vs:=ab.C r69.1) bJ c c c c c c c ⟨.cons _<|.cons_cons _ .slnil,U 14 c (aq c)<|aQ (by kernel_rfl)<|M<|J c<|J c<|V c c (ay _) (fun g42=>wv<|ae c)<|V c c (ay _) (fun g43=>wv<|cf<|aB c g43)<|V c c (ay _) (fun g44=>wv<|ae<|aB c g44)<|V c c (dO _ _) (fun g45=>cv<|bA (k:=0) cx c c c c)<|V c c (dO _ _) (fun g46=>wv<|ad jX c)<|V c c (dO _ _) (fun g47=>cv<|bA (k:=1) cx (aB c g47) c c c)<|V c c (dO _ _) (fun g48=>wv<|v_neA eqg_30 (eqr_30 9998 _ _) (aB c g48)<|aB c g48)<|V c c (ay _) (fun g49=>wv<|dm (aB c g49)<|aL c<|wQ g49)<|p (bM c c)<|ac<|av c H41 (fun k50 H51=>M<|J c<|p (aq c)<|O c<|ag<|bo (bL c (bV c)<|bV c) ⟨(x32,false),c,H51⟩) fun k50 H51=>am<|ap<|p (bt c c)<|J c<|ac<|cF (IntKind.i64.wrap (s7 + 1)) H51 (.cons c<|.cons c<|.cons c<|.cons c<|.cons c<|.cons c<|.cons c<|.nil _)<|.cons _<|.cons _ .slnil⟩⟩⟩) fun k10 H11=>bh<|M<|p (aq c)<|O c<|ag<|bo (bL c (bV c)<|bV c) ⟨((-1),true),c,H11⟩⟩⟩
def sh_judge_Linear (a0:Sl) (a1:aA) (K:(Int × Bool)→Hp→Prop):Hp→Prop:=cl Tryz.prog ud [(sv a0),(.agg (aA.C a1).toArray),(.bool true),(.bool false)] bI fun r8=>K (r8.1,r8.2)
theorem sim_judge_Linear (a0:Sl) (a1:aA) {K:(Int × Bool)→Hp→Prop} {h:Hp} (H:sh_judge_Linear a0 a1 K h):Ct Tryz.prog oA #[(sv a0),(.agg (aA.C a1).toArray)] h fun v h'=>∃ r,v = bI r∧K r h':=aw [(sv a0),(.agg (aA.C a1).toArray)] Tryz.func39 c c c fun _=>M<|aa<|cE (l:=aA.C a1) c c c fun b3=>p (aq c)<|O c<|M<|J c<|bg (bA (k:=0) pw c c c c) c<|aa<|D H en_84 fun r8 _ H1=>p (ai c c)<|p (ai c c)<|p (aq c)<|O c<|ag<|bo (bL c (bV c)<|bV c) ⟨(r8.1,r8.2),c,H1⟩
def sh_judge_Access (a0:Sl) (a1:aA) (K:(Int × Bool)→Hp→Prop):Hp→Prop:=cl Tryz.prog ud [(sv a0),(.agg (aA.C a1).toArray),(.bool false),(.bool true)] bI fun r8=>K (r8.1,r8.2)
theorem sim_judge_Access (a0:Sl) (a1:aA) {K:(Int × Bool)→Hp→Prop} {h:Hp} (H:sh_judge_Access a0 a1 K h):Ct Tryz.prog oB #[(sv a0),(.agg (aA.C a1).toArray)] h fun v h'=>∃ r,v = bI r∧K r h':=aw [(sv a0),(.agg (aA.C a1).toArray)] Tryz.func40 c c c fun _=>M<|aa<|cE (l:=aA.C a1) c c c fun b3=>p (aq c)<|O c<|M<|J c<|bg (bA (k:=0) pw c c c c) c<|aa<|D H en_84 fun r8 _ H1=>p (ai c c)<|p (ai c c)<|p (aq c)<|O c<|ag<|bo (bL c (bV c)<|bV c) ⟨(r8.1,r8.2),c,H1⟩
def sh_judge_Right (a0:Sl) (a1:aA) (K:Bool→Hp→Prop):Hp→Prop:=cl Tryz.prog oA [(sv a0),(.agg (aA.C a1).toArray)] bI fun r12=>cl Tryz.prog oB [(sv a0),(.agg (aA.C a1).toArray)] bI fun r18=>K (r12.2 && r18.2)
theorem sim_judge_Right (a0:Sl) (a1:aA) {K:Bool→Hp→Prop} {h:Hp} (H:sh_judge_Right a0 a1 K h):Ct Tryz.prog qa #[(sv a0),(.agg (aA.C a1).toArray)] h fun v h'=>∃ r,v = az r∧K r h':=aw [(sv a0),(.agg (aA.C a1).toArray)] Tryz.func19 c c c fun _=>M<|aa<|cE (l:=aA.C a1) c c c fun b3=>O c<|M<|J c<|bg (bA (k:=0) pw c c c c) c<|aa<|D H en_39 fun r12 _ H1=>J c<|p (ai c c)<|p (ai c c)<|p (aq c)<|O c<|M<|J c<|bg (bA (k:=0) pw c c c c) c<|aa<|D H1 en_40 fun r18 _ H2=>J c<|p (ai c c)<|p (ai c c)<|p (aq c)<|O c<|M<|J c<|J c<|V c c (ay _) (fun g3=>wv<|ae c)<|p (bM c c)<|O c<|ag<|Y ⟨(r12.2 && r18.2),c,H2⟩
end Go.Proofs.YtmggcfijlpldpaaGreatDoor
