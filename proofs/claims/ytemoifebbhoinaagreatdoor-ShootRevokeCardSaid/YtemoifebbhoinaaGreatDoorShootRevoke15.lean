/- Part of the proof of: The law ShootRevoke returns true for every input, and leaves its arguments as they were. -/
import Derived.Test.YtemoifebbhoinaaGreatDoorShootRevoke14
set_option linter.all false
set_option maxRecDepth 20000
namespace Go.Proofs.YtemoifebbhoinaaGreatDoor
open Go Mb
def CmpOk (v:Value) (A:List As) (key:Int→Int) (S:Int→Prop):Prop :=
  ∀ x y,S x→S y→SpV Tryz.prog v [.int .i64 x,.int .i64 y] eB A (fun r=>pa_ (r < 0↔key x < key y) A)
abbrev Up (key:Int→Int) (l:List Int):Prop:=l.Pairwise fun x y=>key x ≤ key y
theorem mid_get {L R:List Int} {x:Int}:(L++x::R)[L.length]? = some x:=by simp
theorem mid_get1 {L R:List Int} {x y:Int}:(L++x::y::R)[L.length + 1]? = some y:=by
  rw [List.getElem?_append_right (by omega),show L.length + 1 - L.length = 1 from by omega]; rfl
theorem mid_set {L R:List Int} {x v:Int}:(L++x::R).set L.length v = L++v::R:=by simp
theorem mid_set1 {L R:List Int} {x y v:Int}:(L++x::y::R).set (L.length + 1) v = L++x::v::R:=by
  rw [List.set_append_right _ _ (by omega),show L.length + 1 - L.length = 1 from by omega]; rfl
theorem up_insert {key:Int→Int} {a1 a2:List Int} {y:Int} (h:Up key (a1++a2)) (h1:∀ x ∈ a1,key x ≤ key y) (h2:∀ x ∈ a2,key y < key x):Up key (a1++y::a2):=by
  obtain ⟨p1,p2,p3⟩:=List.pairwise_append.1 h
  refine List.pairwise_append.2 ⟨p1,List.pairwise_cons.2 ⟨fun x hx=>Int.le_of_lt (h2 x hx),p2⟩,fun x hx z hz=>?_⟩
  rcases List.mem_cons.1 hz with rfl | hz
  · exact h1 x hx
  · exact p3 x hx z hz
theorem sp_insertion (s:Sl) (v:Value) (A:List As) (key:Int→Int) (S:Int→Prop) (hv:CmpOk v A key S) (p m q:List Int) (hS:∀ x ∈ m,S x) (hb:p.length + m.length + q.length < 2 ^ 60) :
    Sp Tryz.prog bW [sv s,.int .i64 p.length,.int .i64 (p.length + m.length:Nat),v] R_ (vI s (p++(m++q))::A) (fun _ h=>∃ m',(m'.Perm m∧Up key m')∧aG (vI s (p++(m'++q))::A) h):=by
  intro h s0
  have hl:=(cj (j:=0) s0 rfl).1
  refine mN _ _ _ _ ?_
  unfold ii
  have hw0:IntKind.i64.wrap ((p.length:Int) + 1) = ((p.length + 1:Nat):Int):=by rw [bR (by omega) (by omega)]; rfl
  rw [hw0]
  cases m with
  | nil =>
    refine Lp.intro (fun (i:Int) h=>i = ((p.length + 1:Nat):Int)∧aG (vI s (p++([]++q))::A) h) (fun _ _=>0) ⟨rfl,s0⟩ ?_
    rintro i h ⟨rfl,s1⟩
    unfold dE
    refine di (by simp; omega) ?_
    exact ⟨[],⟨.refl _,.nil⟩,s1⟩
  | cons x0 t0 =>
    refine Lp.intro (fun (i:Int) h=>∃ a b:List Int,i = ((p.length + a.length:Nat):Int)∧Up key a∧(a++b).Perm (x0::t0)∧aG (vI s (p++((a++b)++q))::A) h) (fun (i:Int) _=>p.length + (x0::t0).length - i.toNat) ⟨[x0],t0,rfl,List.pairwise_singleton _ _,.refl _,s0⟩ ?_
    rintro i h ⟨a,b,rfl,ha,hp,s1⟩
    have hlen:=hp.length_eq
    simp only [List.length_append] at hlen
    have hsl:=(cj (j:=0) s1 rfl).1
    unfold dE
    refine ba (fun k=>?_) (fun k=>?_)
    · have hbp:0 < b.length:=by have:=of_decide_eq_true k; omega
      obtain ⟨y,b',rfl⟩:=List.exists_cons_of_length_pos hbp
      have hS':∀ x ∈ a++y::b',S x:=fun x hx=>hS x (hp.subset hx)
      have hw1:IntKind.i64.wrap (((p.length + a.length:Nat):Int) + 1) = ((p.length + a.length + 1:Nat):Int):=by rw [bR (by omega) (by omega)]; rfl
      have out:∀ (a1 a2:List Int) (h:Hp),a1++a2 = a→(∀ x ∈ a1,key x ≤ key y)→(∀ x ∈ a2,key y < key x)→aG (vI s (p++((a1++y::(a2++b'))++q))::A) h →
          (fun (s':Int) h'=>(∃ a b:List Int,s' = ((p.length + a.length:Nat):Int)∧Up key a∧(a++b).Perm (x0::t0)∧aG (vI s (p++((a++b)++q))::A) h')∧p.length + (x0::t0).length - s'.toNat < p.length + (x0::t0).length - ((p.length + a.length:Nat):Int).toNat) (IntKind.i64.wrap (((p.length + a.length:Nat):Int) + 1)) h:=by
        intro a1 a2 h he h1 h2 s2
        subst he
        rw [hw1]
        refine ⟨⟨a1++y::a2,b',by simp; omega,up_insert ha h1 h2,?_,?_⟩,by simp at hlen ⊢; omega⟩
        · refine List.Perm.trans ?_ hp
          have:(a1++y::a2++b').Perm (a1++a2++y::b'):=by
            rw [List.append_assoc,List.append_assoc]
            refine List.Perm.append_left a1 ?_
            simpa using (List.perm_middle (a:=y) (l₁:=a2) (l₂:=b')).symm
          exact this
        · have:a1++y::a2++b' = a1++y::(a2++b'):=by simp
          rw [this]; exact s2
      refine Lp.intro (fun (j:Int) h=>∃ a1 a2:List Int,a1++a2 = a∧j = ((p.length + a1.length:Nat):Int)∧(∀ x ∈ a2,key y < key x)∧aG (vI s (p++((a1++y::(a2++b'))++q))::A) h) (fun (j:Int) _=>j.toNat) ⟨a,[],by simp,rfl,fun x hx=>(by cases hx),by simpa using s1⟩ ?_
      rintro j h ⟨a1,a2,he,rfl,h2,s2⟩
      unfold eU
      refine ba (fun k2=>?_) (fun k2=>?_)
      · have hne:a1 ≠ []:=by
          intro e; subst e; simp at k2
        obtain ⟨L0,z,rfl⟩:∃ L z,a1 = L++[z]:=⟨a1.dropLast,a1.getLast hne,(List.dropLast_concat_getLast hne).symm⟩
        have hal:a.length = L0.length + 1 + a2.length:=by rw [← he]; simp; omega
        have hdec:p++((L0++[z]++y::(a2++b'))++q) = (p++L0)++z::y::(a2++b'++q):=by simp
        rw [hdec] at s2
        have hlL:(p++L0).length = p.length + L0.length:=by simp
        have hj:((p.length + (L0++[z]).length:Nat):Int) = (((p++L0).length + 1:Nat):Int):=by simp; omega
        rw [hj]
        have hsl2:=(cj (j:=0) s2 rfl).1
        have hw2:IntKind.i64.wrap ((((p++L0).length + 1:Nat):Int) - 1) = (((p++L0).length:Nat):Int):=by rw [bR (by omega) (by omega)]; omega
        rw [hw2]
        refine dC s2 (j:=0) rfl (by omega) (by simp; omega) fun q1 hq1=>?_
        refine dC s2 (j:=0) rfl (by omega) (by simp; omega) fun q2 hq2=>?_
        refine eE (j:=0) (i:=(p++L0).length + 1) (k:=0) y (dl _) s2 rfl hq1 (by rw [Int.toNat_natCast]; rfl) mid_get1 (by simp) ?_
        refine eE (j:=0) (i:=(p++L0).length) (k:=0) z (dl _) s2 rfl hq2 (by rw [Int.toNat_natCast]; rfl) mid_get (by simp) ?_
        have hSy:S y:=hS' y (by simp)
        have hSz:S z:=hS' z (by rw [← he]; simp)
        refine clv_t (hv y z hSy hSz) s2 fun r h3 s3=>?_
        obtain ⟨hr,s4⟩:=bp.1 s3
        have s5:=star_rot s4
        refine ba (fun k3=>?_) (fun k3=>?_)
        · have k3':key y < key z:=hr.1 (of_decide_eq_true k3)
          refine eE (j:=0) (i:=(p++L0).length) (k:=0) z (dl _) s5 rfl hq2 (by rw [Int.toNat_natCast]; rfl) mid_get (by simp) ?_
          refine eE (j:=0) (i:=(p++L0).length + 1) (k:=0) y (dl _) s5 rfl hq1 (by rw [Int.toNat_natCast]; rfl) mid_get1 (by simp) ?_
          refine st_v (j:=0) (i:=(p++L0).length + 1) (k:=0) z (dl _) s5 rfl hq1 (by rw [Int.toNat_natCast]; rfl) mid_get1 (by simp) rfl fun h6 s6=>?_
          rw [mid_set1] at s6
          refine st_v (j:=0) (i:=(p++L0).length) (k:=0) y (dl _) s6 rfl hq2 (by rw [Int.toNat_natCast]; rfl) mid_get (by simp) rfl fun h7 s7=>?_
          refine ⟨⟨L0,z::a2,by rw [← he]; simp,by rw [hlL],fun x hx=>?_,?_⟩,by simp only [Int.toNat_natCast]; omega⟩
          · rcases List.mem_cons.1 hx with rfl | hx
            · exact k3'
            · exact h2 x hx
          · have e2:p++((L0++y::(z::a2++b'))++q) = (p++L0)++y::z::(a2++b'++q):=by simp
            rw [e2]
            have s8:aG (vI s (((p++L0)++z::z::(a2++b'++q)).set (p++L0).length y)::A) h7:=s7
            rw [mid_set] at s8
            exact s8
        · have k3':key z ≤ key y:=by
            have:¬ key y < key z:=fun hh=>by have:=hr.2 hh; simp at k3; omega
            omega
          refine out (L0++[z]) a2 h3 he (fun x hx=>?_) h2 (by rw [hdec]; exact s5)
          have hup:Up key (L0++[z]):=by
            rw [← he] at ha
            exact (List.pairwise_append.1 ha).1
          rcases List.mem_append.1 hx with hx | hx
          · have:=(List.pairwise_append.1 hup).2.2 x hx z (by simp)
            omega
          · rw [List.mem_singleton.1 hx]; exact k3'
      · have e:a1 = []:=by
          have:=of_decide_eq_false k2
          exact List.eq_nil_of_length_eq_zero (by omega)
        subst e
        exact out [] a2 h he (fun x hx=>by cases hx) h2 s2
    · have hb0:b = []:=by
        have:=of_decide_eq_false k
        exact List.eq_nil_of_length_eq_zero (by omega)
      subst hb0
      rw [List.append_nil] at hp s1
      exact ⟨a,⟨hp,ha⟩,s1⟩
theorem sp_SortStable20 (s:Sl) (v:Value) (A:List As) (key:Int→Int) (S:Int→Prop) (hv:CmpOk v A key S) (m:List Int) (hS:∀ x ∈ m,S x) (hb:m.length ≤ 20) :
    Sp Tryz.prog fK [sv s,v] R_ (vI s m::A) (fun _ h=>∃ m',(m'.Perm m∧Up key m')∧aG (vI s m'::A) h):=by
  intro h s0
  have hl:=(cj (j:=0) s0 rfl).1
  refine oh _ _ ?_
  unfold iL
  unfold cl
  refine re _ _ _ ?_
  unfold kY
  rw [hl]
  have ins:∀ (p m q:List Int) (h:Hp) (K:Unit→Hp→Prop),(∀ x ∈ m,S x)→p.length + m.length + q.length < 2 ^ 60→aG (vI s (p++(m++q))::A) h→(∀ m' h',m'.Perm m→Up key m'→aG (vI s (p++(m'++q))::A) h'→K () h') →
      cl Tryz.prog bW [sv s,.int .i64 p.length,.int .i64 (p.length + m.length:Nat),v] R_ K h:=by
    intro p m q h K h1 h2 s1 k
    refine (sp_insertion s v A key S hv p m q h1 h2 h s1).mono ?_
    rintro u h' ⟨r,e,m',⟨p1,p2⟩,s2⟩
    exact ⟨r,e,k m' h' p1 p2 s2⟩
  have tail:∀ (m':List Int) (h:Hp),m'.length = m.length→Up key m'→m'.Perm m→aG (vI s m'::A) h→Lp (dr (s) (m.length:Int) v (fun _ h'=>∃ m',(m'.Perm m∧Up key m')∧aG (vI s m'::A) h')) 20 h:=by
    intro m' h hlm hu hp s1
    refine Lp.intro (fun (i:Int) h=>i = 20∧aG (vI s m'::A) h) (fun _ _=>0) ⟨rfl,s1⟩ ?_
    rintro i h ⟨rfl,s2⟩
    unfold dr
    refine di (by simp; omega) ?_
    exact ⟨m',⟨hp,hu⟩,s2⟩
  refine Lp.intro (fun (z:Int × Int) h=>(z = (0,20)∧aG (vI s m::A) h)∨(z = (20,40)∧m.length = 20∧∃ m',(m'.Perm m∧Up key m')∧aG (vI s m'::A) h)) (fun (z:Int × Int) _=>(40 - z.2).toNat) (.inl ⟨rfl,s0⟩) ?_
  rintro z h (⟨rfl,s1⟩ | ⟨rfl,h20,m',⟨hp,hu⟩,s1⟩)
  · unfold ft
    refine ba (fun k=>?_) (fun k=>?_)
    · have h20:m.length = 20:=by have:=of_decide_eq_true k; omega
      have e:(20:Int) = ((([]:List Int).length + m.length:Nat):Int):=by simp [h20]
      show cl Tryz.prog bW [sv s,.int .i64 0,.int .i64 20,v] R_ _ h
      rw [e]
      refine ins [] m [] h _ hS (by simp; omega) (by simpa using s1) fun m' h' hp hu s2=>?_
      refine ⟨.inr ⟨?_,h20,m',⟨hp,hu⟩,by simpa using s2⟩,?_⟩
      · rw [← e]; rw [bR (by omega) (by omega)]; rfl
      · rw [← e]; rw [bR (by omega) (by omega)]; decide
    · have e:(m.length:Int) = ((([]:List Int).length + m.length:Nat):Int):=by simp
      show cl Tryz.prog bW [sv s,.int .i64 0,.int .i64 (m.length:Int),v] R_ _ h
      have:=ins [] m [] h (fun _=>Lp (dr s (m.length:Int) v (fun _ h'=>∃ m',(m'.Perm m∧Up key m')∧aG (vI s m'::A) h')) 20) hS (by simp; omega) (by simpa using s1) fun m' h' hp hu s2=>tail m' h' hp.length_eq hu hp (by simpa using s2)
      rw [← e] at this
      exact this
  · unfold ft
    refine di (by rw [h20]; rfl) ?_
    have hml:m'.length = 20:=hp.length_eq.trans h20
    have e:(m.length:Int) = ((m'.length + ([]:List Int).length:Nat):Int):=by simp [h20,hml]
    have e2:(20:Int) = (m'.length:Int):=by omega
    show cl Tryz.prog bW [sv s,.int .i64 20,.int .i64 (m.length:Int),v] R_ _ h
    have:=ins m' [] [] h (fun _=>Lp (dr s (m.length:Int) v (fun _ h'=>∃ m',(m'.Perm m∧Up key m')∧aG (vI s m'::A) h')) 20) (fun x hx=>by cases hx) (by simp; omega) (by simpa using s1) fun m2 h' hp2 hu2 s2=>by
      have:m2 = []:=hp2.eq_nil
      subst this
      exact tail m' h' hp.length_eq hu hp (by simpa using s2)
    rw [← e,← e2] at this
    exact this
end Go.Proofs.YtemoifebbhoinaaGreatDoor
namespace Go.Proofs.YtemoifebbhoinaaGreatDoor
open Go Mb
set_option linter.unusedVariables false
def hist_May_l1 (a0:Sl) (a1:aB) (K:Bool→Hp→Prop) (v12:(Option Nat)) (v13:(Option Nat)) (Rec4:(Int × Int)→Hp→Prop) (s3:Int × Int):Hp→Prop:=br (decide (s3.2 < (a0.len:Int))) ( ix a0 s3.2 fun q18=>ld (q18.1,q18.2 + Int.toNat s3.2 * 16) aE.C fun x19=>br ((!(!(eG x19 a1 s3.1))) && (decide (x19.fEffect > 0))) ( hpv Tryz.prog (Instr.lookup jx (.map v12) (.int .i64 x19.fEffect) false) aC fun (v33:Bool)=>br v33 ( K false) ( hpv Tryz.prog (Instr.lookup hO (.map v13) (.int .i64 x19.fCore) true) bL fun (v40:Int × Bool)=>br (v40.2 && ((decide (v40.1 ≤ 0)) || (decide (x19.fBegin ≤ v40.1)))) ( K false) ( hpu Tryz.prog (Instr.mapUpdate jx (.map v12) (.int .i64 x19.fEffect) (.bool true))<|hpu Tryz.prog (Instr.mapUpdate hO (.map v13) (.int .i64 x19.fCore) (.int .i64 x19.fEnd))<|Rec4 (x19.fBegin,(IntKind.i64.wrap (s3.2 + 1)))))) ( br ((!(eG x19 a1 s3.1)) || false) ( K false) ( hpv Tryz.prog (Instr.lookup hO (.map v13) (.int .i64 x19.fCore) true) bL fun (v40:Int × Bool)=>br (v40.2 && ((decide (v40.1 ≤ 0)) || (decide (x19.fBegin ≤ v40.1)))) ( K false) ( hpu Tryz.prog (Instr.mapUpdate jx (.map v12) (.int .i64 x19.fEffect) (.bool true))<|hpu Tryz.prog (Instr.mapUpdate hO (.map v13) (.int .i64 x19.fCore) (.int .i64 x19.fEnd))<|Rec4 (x19.fBegin,(IntKind.i64.wrap (s3.2 + 1))))))) ( K true)
def sh_hist_May (a0:Sl) (a1:aB) (K:Bool→Hp→Prop):Hp→Prop:=hpv Tryz.prog (Instr.makeMap jx none) R_map_int_bool fun (v12:(Option Nat))=>hpv Tryz.prog (Instr.makeMap hO none) R_map_int_int fun (v13:(Option Nat))=>Lp (hist_May_l1 a0 a1 K v12 v13) (0,0)
theorem sim_hist_May (a0:Sl) (a1:aB) {K:Bool→Hp→Prop} {h:Hp} (H:sh_hist_May a0 a1 K h):Ct Tryz.prog xd #[(sv a0),(.agg (aB.C a1).toArray)] h fun v h'=>∃ r,v = aC r∧K r h':=aw [(sv a0),(.agg (aB.C a1).toArray)] Tryz.func25 c c c fun _=>M<|aa<|cQ (l:=aB.C a1) c c c fun b3=>O c<|M<|aa<|aS H x_makeMap0 c fun v12 _ H1=>aa<|aS H1 x_makeMap0 c fun v13 _ H2=>p (au c)<|p (au c)<|O c<|al<|M<|J c<|p (dA c Tryz.underlying42 c)<|J c<|ad<|ay<|bE (step:=hist_May_l1 a0 a1 K v12 v13) (fun s3=>[(3,(.pointer (some ⟨b3,0,none⟩))),(5,(.int .i64 s3.1)),(6,(.map v12)),(7,(.map v13)),(14,(sv a0)),(15,(.int .i64 (a0.len:Int))),(16,(.int .i64 s3.2))]) (fun s3=>[bx b3 25 (aB.C a1)]) H2 (.cons c<|.cons c<|.cons c<|.cons c<|.cons c<|.cons c<|.cons c<|.nil _) (.cons_cons _ .slnil) fun Rec4 s3 _ H5=>M<|p (cC c c)<|ad<|al<|av c H5 (fun k6 H7=>ao<|al<|ay<|M<|ct H7 fun q18 e8 h9 H10=>p (bq sM (aN c<|bc e8) c h9)<|aa<|gT H10 ag_56 c (fun _=>c) c fun x19 H11=>aa<|aI (l:=aE.C (⟨0,0,(⟨0,0,0,0,0⟩:ah),0,0,0,(⟨0,0⟩:ab),(⟨0,0,0,0⟩:an)⟩:aE)) zero_56 c c fun b9=>aa<|aO (k:=0) (vs:=aE.C x19) inf_56 c c c c c c c<|ad<|al<|M<|bi (bC (k:=0) ag_56 c c c c) c<|bi (bC (k:=1) pf c c c c) c<|J c<|aa<|cN (vs:=[(.agg (aE.C x19).toArray),(.agg (aB.C a1).toArray),(.int .i64 s3.1)]) (bu<|ct_hist_one x19 a1 s3.1 _) en_61 c c<|p (cq c)<|J c<|V c c (aJ _) (fun g12=>wv<|ae ja c)<|V c c (aJ _) (fun g13=>cv<|bf (k:=0) bb (aD c g13) c c)<|V c c (aJ _) (fun g14=>wv<|qA (aD c g14) c)<|V c c (aJ _) (fun g15=>wv<|ai<|aD c g15)<|V c c (ru _ _) (fun g16=>wv<|ai c)<|V c c (ru _ _) (fun g17=>wv<|ae ja c)<|V c c (ru _ _) (fun g18=>cv<|bf (k:=0) bb (aD c g18) c c)<|bU H11 (fun k20 H21=>F ((gv_t (b_l k20) _).trans<|D<|b_r k20)<|aS H21 (x_lookup (aD c k20)<|aD c k20) c fun v33 _ H22=>F (D<|ch<|b_l k20)<|R (aU (aD c<|b_l k20) (b_r k20) c)<|p (aq c (ch<|b_l k20) c)<|ad<|av c H22 (fun k23 H24=>M<|O c<|aj<|Y ⟨false,c,H24⟩) fun k23 H24=>ao<|al<|M<|J c<|p (ae tt c)<|bi (bf (k:=0) bb c c c) c<|aa<|aS H24 (x_lookup c c) c fun v40 _ H25=>J c<|p (ak c c)<|p (ak c c)<|p (au c)<|O c<|M<|J c<|J c<|V c c (az _) (fun g26=>wv<|ai c)<|V c c (az _) (fun g27=>wv<|v_le (aD c g27) c)<|V c c (az _) (fun g28=>wv<|ai<|aD c g28)<|V c c (dT _ _) (fun g29=>wv<|ae tq c)<|V c c (dT _ _) (fun g30=>cv<|bf (k:=0) bb (aD c g30) c c)<|V c c (dT _ _) (fun g31=>wv<|ai c)<|V c c (dT _ _) (fun g32=>wv<|v_le (aD c g32)<|aD c g32)<|V c c (az _) (fun g33=>wv<|dm (aD c g33)<|aN c<|xl g33)<|p (bS c c)<|ad<|av c H25 (fun k34 H35=>M<|O c<|aj<|Y ⟨false,c,H35⟩) fun k34 H35=>ao<|bm (n:=13) [bx b9 56 (aE.C x19)] cx c (.cons_cons _<|.cons _ .slnil)<|U 0 c (ai c)<|U 1 c (ae ja c)<|z_E 2 c (dn (k:=0) bb c c c)<|U 3 c (ai c)<|U 4 c (ae tt c)<|z_E 5 c (dn (k:=0) bb c c c)<|U 6 c (ae tq c)<|z_E 7 c (dn (k:=0) bb c c c)<|U 8 c (ae qW c)<|z_E 9 c (dn (k:=0) bb c c c)<|U 10 c (au c)<|G 11 c<|to_hpu H35 (tN c c c) fun _ H36=>⟨.cons_cons _<|.cons _ .slnil,G 12 c<|to_hpu H36 (tN c c c) fun _ H37=>⟨.cons_cons _<|.cons _ .slnil,aV (by kernel_rfl)<|ar<|p (bw c c)<|J c<|ad<|cR (x19.fBegin,(IntKind.i64.wrap (s3.2 + 1))) H37 (.cons c<|.cons c<|.cons c<|.cons c<|.cons c<|.cons c<|.cons c<|.nil _)<|.cons _<|.cons_cons _ .slnil⟩⟩) fun k20 H21=>W ((ru _ _).trans k20)<|V c c (aJ _) (fun g38=>wv<|aq (aD c g38) (b_andr k20 g38) c)<|p (dm c c)<|ad<|av c H21 (fun k39 H40=>M<|O c<|aj<|Y ⟨false,c,H40⟩) fun k39 H40=>ao<|al<|M<|J c<|p (ae tt c)<|bi (bf (k:=0) bb c c c) c<|aa<|aS H40 (x_lookup c c) c fun v40 _ H41=>J c<|p (ak c c)<|p (ak c c)<|p (au c)<|O c<|M<|J c<|J c<|V c c (az _) (fun g42=>wv<|ai c)<|V c c (az _) (fun g43=>wv<|v_le (aD c g43) c)<|V c c (az _) (fun g44=>wv<|ai<|aD c g44)<|V c c (dT _ _) (fun g45=>wv<|ae tq c)<|V c c (dT _ _) (fun g46=>cv<|bf (k:=0) bb (aD c g46) c c)<|V c c (dT _ _) (fun g47=>wv<|ai c)<|V c c (dT _ _) (fun g48=>wv<|v_le (aD c g48)<|aD c g48)<|V c c (az _) (fun g49=>wv<|dm (aD c g49)<|aN c<|xl g49)<|p (bS c c)<|ad<|av c H41 (fun k50 H51=>M<|O c<|aj<|Y ⟨false,c,H51⟩) fun k50 H51=>ao<|bm (n:=13) [bx b9 56 (aE.C x19)] cx c (.cons_cons _<|.cons _ .slnil)<|U 0 c (ai c)<|U 1 c (ae ja c)<|z_E 2 c (dn (k:=0) bb c c c)<|U 3 c (ai c)<|U 4 c (ae tt c)<|z_E 5 c (dn (k:=0) bb c c c)<|U 6 c (ae tq c)<|z_E 7 c (dn (k:=0) bb c c c)<|U 8 c (ae qW c)<|z_E 9 c (dn (k:=0) bb c c c)<|U 10 c (au c)<|G 11 c<|to_hpu H51 (tN c c c) fun _ H52=>⟨.cons_cons _<|.cons _ .slnil,G 12 c<|to_hpu H52 (tN c c c) fun _ H53=>⟨.cons_cons _<|.cons _ .slnil,aV (by kernel_rfl)<|ar<|p (bw c c)<|J c<|ad<|cR (x19.fBegin,(IntKind.i64.wrap (s3.2 + 1))) H53 (.cons c<|.cons c<|.cons c<|.cons c<|.cons c<|.cons c<|.cons c<|.nil _)<|.cons _<|.cons_cons _ .slnil⟩⟩) fun k6 H7=>bj<|M<|O c<|aj<|Y ⟨true,c,H7⟩
def tm (a0:Sl) (a1:Value) (K:Sl→Hp→Prop) (Rec2:(Sl × Int)→Hp→Prop) (s1:Sl × Int):Hp→Prop:=br (decide (s1.2 < (a0.len:Int))) ( ix a0 s1.2 fun q13=>ld (q13.1,q13.2 + Int.toNat s1.2 * 16) aE.C fun x14=>clv Tryz.prog a1 [(.agg (aE.C x14).toArray)] aC fun r17=>br r17 ( hpv Tryz.prog (Instr.buildSlice dI 1 #[(0,(.int .i64 s1.2))]) cu fun (v20:Sl)=>hpv Tryz.prog (Builtin.append_ #[dI,dI] dI #[(sv s1.1),(sv v20)]) cu fun (v21:Sl)=>Rec2 (v21,(IntKind.i64.wrap (s1.2 + 1)))) ( Rec2 (s1.1,(IntKind.i64.wrap (s1.2 + 1))))) ( K s1.1)
def sh_hist_places (a0:Sl) (a1:Value) (K:Sl→Hp→Prop):Hp→Prop:=Lp (tm a0 a1 K) ((⟨none,0,0,none⟩:Sl),0)
theorem sim_hist_places (a0:Sl) (a1:Value) {K:Sl→Hp→Prop} {h:Hp} (H:sh_hist_places a0 a1 K h):Ct Tryz.prog qr #[(sv a0),a1] h fun v h'=>∃ r,v = cu r∧K r h':=aw [(sv a0),a1] Tryz.func92 c c c fun _=>M<|O c<|M<|O c<|al<|M<|J c<|p (dA c Tryz.underlying42 c)<|J c<|ad<|ay<|bE (step:=tm a0 a1 K) (fun s1=>[(1,a1),(5,(sv s1.1)),(8,(sv a0)),(9,(.int .i64 (a0.len:Int))),(10,(.int .i64 s1.2))]) (fun s1=>[]) H (.cons c<|.cons c<|.cons c<|.cons c<|.cons c<|.nil _) .slnil fun Rec2 s1 _ H3=>M<|p (cC c c)<|ad<|al<|av c H3 (fun k4 H5=>ao<|al<|ay<|M<|J c<|ct H5 fun q13 e6 h7 H8=>p (bq sM (aN c<|bc e6) c h7)<|aa<|gT H8 ag_56 c (fun _=>c) c fun x14 H9=>aa<|aI (l:=aE.C (⟨0,0,(⟨0,0,0,0,0⟩:ah),0,0,0,(⟨0,0⟩:ab),(⟨0,0,0,0⟩:an)⟩:aE)) zero_56 c c fun b7=>p (au c)<|aa<|aO (k:=0) (vs:=aE.C x14) inf_56 c c c c c c c<|ad<|M<|J c<|bi (bC (k:=0) ag_56 c c c c) c<|aa<|to_clv H9 c c c fun r17 _ H10=>ad<|av c H10 (fun k11 H12=>ar<|J c<|J c<|aa<|aS H12 (bo (vs:=[(.int .i64 s1.2)]) c) c fun v20 _ H13=>aa<|aS H13 (dH c c) c fun v21 _ H14=>O c<|ar<|p (bw c c)<|J c<|ad<|cR (v21,(IntKind.i64.wrap (s1.2 + 1))) H14 (.cons c<|.cons c<|.cons c<|.cons c<|.cons c<|.nil _)<|.cons _ .slnil) fun k11 H12=>ao<|ar<|p (bw c c)<|J c<|ad<|cR (s1.1,(IntKind.i64.wrap (s1.2 + 1))) H12 (.cons c<|.cons c<|.cons c<|.cons c<|.cons c<|.nil _)<|.cons _ .slnil) fun k4 H5=>bj<|M<|J c<|O c<|aj<|Y ⟨s1.1,c,H5⟩
def vx (a0:Int) (a1:Int) (c0:Nat) (K:Int→Hp→Prop):Hp→Prop:=ld (c0,0) cS fun x6=>ix x6 a0 fun q8=>ld (q8.1,q8.2 + Int.toNat a0 * 16 + 8) (cI .i64) fun x10=>ld (c0,0) cS fun x11=>ix x11 a1 fun q13=>ld (q13.1,q13.2 + Int.toNat a1 * 16 + 8) (cI .i64) fun x15=>K (fR x10 x15)
theorem sim_hist_Order_c2 (a0:Int) (a1:Int) (c0:Nat) {K:Int→Hp→Prop} {h:Hp} (H:vx a0 a1 c0 K h):Ct Tryz.prog rm #[(.int .i64 a0),(.int .i64 a1),(.pointer (some ⟨c0,0,none⟩))] h fun v h'=>∃ r,v = eB r∧K r h':=aw [(.int .i64 a0),(.int .i64 a1),(.pointer (some ⟨c0,0,none⟩))] Tryz.func95 c c c fun _=>M<|O c<|al<|bm (n:=12) [] cx c .slnil<|U 1 c (ai c)<|U 6 c (ai c)<|bH (i:=0) (fun _ _ _ _ hh=>hh) H c (by kernel_rfl) sc_42 c (fun _=>c) c fun x6 H1=>gn H1 fun q8 e2 h3 H4=>U 2 c (bq sM (aN c<|bc e2) c h3)<|U 3 c (ae ja c)<|bH (i:=4) (fun _ _ _ _ hh=>hh) H4 c (by kernel_rfl) bb c (fun _=>c) c fun x10 H5=>bH (i:=5) (fun _ _ _ _ hh=>hh) H5 c (by kernel_rfl) sc_42 c (fun _=>c) c fun x11 H6=>gn H6 fun q13 e7 h8 H9=>U 7 c (bq sM (aN c<|bc e7) c h8)<|U 8 c (ae ja c)<|bH (i:=9) (fun _ _ _ _ hh=>hh) H9 c (by kernel_rfl) bb c (fun _=>c) c fun x15 H10=>G 10 c<|cN (vs:=[(.int .i64 x10),(.int .i64 x15)]) (bu<|ct_cmp_Compare_int x10 x15 _) en_96 c c ⟨.slnil,U 11 c (au c)<|aV (by kernel_rfl)<|aj<|Y ⟨fR x10 x15,c,H10⟩⟩
def sh_hist_Order (a0:Sl) (K:Sl→Hp→Prop):Hp→Prop:=nw eO [sv a0] fun b1=>ld (b1,0) cS fun x4=>cl Tryz.prog qr [(sv x4),(.func (.func nc) #[] #[])] cu fun r5=>cl Tryz.prog fK [(sv r5),(.func (.func rm) #[] #[(.pointer (some ⟨b1,0,none⟩))])] R_ fun (_:Unit)=>K r5
theorem sim_hist_Order (a0:Sl) {K:Sl→Hp→Prop} {h:Hp} (H:sh_hist_Order a0 K h):Ct Tryz.prog oS #[(sv a0)] h fun v h'=>∃ r,v = cu r∧K r h':=aw [(sv a0)] Tryz.func44 c c c fun _=>M<|aa<|ie c c c H fun b1 _ H1=>O c<|M<|aa<|aW H1 sc_42 c (fun _=>c) c fun x4 H2=>aa<|Z H2 en_92 fun r5 _ H3=>O c<|M<|J c<|p (v_func c c)<|aa<|Z H3 en_94 fun r8 _ H4=>ad<|M<|J c<|O c<|aj<|Y ⟨r5,c,H4⟩
def sh_hist_Over_c1 (a0:aE) (c0:Nat) (K:Bool→Hp→Prop):Hp→Prop:=ld (c0,0) (cI .i64) fun x6=>br ((decide (a0.fBegin ≤ x6)) && (!(a0.fEffect == 0))) ( ld (c0,0) (cI .i64) fun x15=>K (decide (a0.fEffect > x15))) ( K ((decide (a0.fBegin ≤ x6)) && true))
theorem sim_hist_Over_c1 (a0:aE) (c0:Nat) {K:Bool→Hp→Prop} {h:Hp} (H:sh_hist_Over_c1 a0 c0 K h):Ct Tryz.prog th #[(.agg (aE.C a0).toArray),(.pointer (some ⟨c0,0,none⟩))] h fun v h'=>∃ r,v = aC r∧K r h':=aw [(.agg (aE.C a0).toArray),(.pointer (some ⟨c0,0,none⟩))] Tryz.func221 c c c fun _=>M<|aa<|cQ (l:=aE.C a0) c c c fun b2=>O c<|M<|p (ae tq c)<|bi (bf (k:=0) bb c c c) c<|aa<|aW H bb c (fun _=>c) c fun x6 H1=>p (v_le c c)<|J c<|V c c (az _) (fun g2=>wv<|ae ja c)<|V c c (az _) (fun g3=>cv<|bf (k:=0) bb (aD c g3) c c)<|V c c (az _) (fun g4=>wv<|bO (aD c g4) c)<|V c c (az _) (fun g5=>wv<|ai<|aD c g5)<|V c c (dT _ _) (fun g6=>wv<|ae ja c)<|V c c (dT _ _) (fun g7=>cv<|bf (k:=0) bb (aD c g7) c c)<|bU H1 (fun k9 H10=>F ((gv_t (b_l k9) _).trans<|D<|ch<|b_r k9)<|aW H10 bb c (fun _=>c) c fun x15 H11=>F ((gv_t (b_l k9) _).trans<|D<|ch<|b_r k9)<|R (qA (aD c k9) c)<|F (D<|b_l k9)<|R (aq (aD c<|b_l k9) (ch<|b_r k9) c)<|p (aU c (b_l k9) c)<|O c<|aj<|Y ⟨decide (a0.fEffect > x15),c,H11⟩) fun k9 H10=>W ((dT _ _).trans k9)<|W ((dT _ _).trans k9)<|V c c (az _) (fun g12=>wv<|aU (aD c g12) (bJ<|b_andr k9 g12) c)<|p (bS c c)<|O c<|aj<|Y ⟨((decide (a0.fBegin ≤ x6)) && true),c,H10⟩
def sh_hist_Over (a0:Sl) (a1:Int) (K:Sl→Hp→Prop):Hp→Prop:=nw kW [.int .i64 a1] fun b3=>cl Tryz.prog qr [(sv a0),(.func (.func th) #[] #[(.pointer (some ⟨b3,0,none⟩))])] cu fun r7=>K r7
theorem sim_hist_Over (a0:Sl) (a1:Int) {K:Sl→Hp→Prop} {h:Hp} (H:sh_hist_Over a0 a1 K h):Ct Tryz.prog n_hist_Over #[(sv a0),(.int .i64 a1)] h fun v h'=>∃ r,v = cu r∧K r h':=aw [(sv a0),(.int .i64 a1)] Tryz.func206 c c c fun _=>M<|aa<|ie c c c H fun b3 _ H1=>O c<|M<|J c<|p (v_func c c)<|aa<|Z H1 en_92 fun r7 _ H2=>O c<|aj<|Y ⟨r7,c,H2⟩
end Go.Proofs.YtemoifebbhoinaaGreatDoor
namespace Go.Proofs.YtemoifebbhoinaaGreatDoor
open Go Mb
namespace Hist
def placesFrom (P:bA→Bool):List bA→Int→List Int
  | [],_=>[]
  | e::es,i=>if P e = true then i::placesFrom P es (i + 1) else placesFrom P es (i + 1)
def places (P:bA→Bool) (es:List bA):List Int:=placesFrom P es 0
def ev00:bA:=KK.ev0 0 0 ⟨0,0,0,0,0⟩ 0
def eff (es:List bA) (i:Int):Int:=(es.getD i.toNat ev00).fEffect
def ins (key:Int→Int) (x:Int):List Int→List Int
  | []=>[x]
  | y::l=>if key x < key y then x::y::l else y::ins key x l
def isort (key:Int→Int):List Int→List Int
  | []=>[]
  | x::l=>ins key x (isort key l)
def effs (es:List bA):List Int:=places (fun e=>decide (e.fEffect > 0)) es
def order (es:List bA):List Int:=isort (eff es) (effs es)
def over (es:List bA) (at_:Int):List Int:=places (fun e=>decide (e.fBegin ≤ at_) && (e.fEffect == 0 || decide (e.fEffect > at_))) es
def done (es:List bA):List Int:=places (fun e=>e.fEnd != 0) es
def endOf (ends:List (Int × Int)) (c:Int):Option Int:=(ends.find? (fun p=>p.1 == c)).map (·.2)
def stops (ends:List (Int × Int)) (e:bA):Bool:=match endOf ends e.fCore with
  | some n=>decide (n ≤ 0) || decide (e.fBegin ≤ n)
  | none=>false
def mayFrom (s:eY):List bA→Int→List Int→List (Int × Int)→Bool
  | [],_,_,_=>true
  | e::es,last,seen,ends=>if eG e s last = false∨(e.fEffect > 0∧e.fEffect ∈ seen) then false else if stops ends e = true then false else mayFrom s es e.fBegin (e.fEffect::seen) ((e.fCore,e.fEnd)::ends)
def may (es:List bA) (s:eY):Bool:=mayFrom s es 0 [] []
theorem placesFrom_app (P:bA→Bool) (e:bA):∀ (es:List bA) (i:Int),placesFrom P (es++[e]) i = placesFrom P es i++(if P e = true then [i + es.length] else [])
  | [],i=>by simp only [List.nil_append,placesFrom]; split <;> simp
  | d::es,i=>by
    simp only [List.cons_append,placesFrom]
    rw [placesFrom_app P e es (i + 1)]
    have e1:i + 1 + (es.length:Int) = i + ((d::es).length:Int):=by simp; omega
    rw [e1]
    split <;> simp
theorem placesFrom_len (P:bA→Bool):∀ (es:List bA) (i:Int),(placesFrom P es i).length ≤ es.length
  | [],_=>Nat.le_refl _
  | e::es,i=>by unfold placesFrom; have:=placesFrom_len P es (i + 1); split <;> simp <;> omega
theorem placesFrom_c (P:bA→Bool) (d:bA) (es:List bA) (i:Int):placesFrom P (d::es) i = if P d = true then i::placesFrom P es (i + 1) else placesFrom P es (i + 1):=rfl
theorem mem_placesFrom {P:bA→Bool} {x:Int}:∀ {es:List bA} {i:Int},x ∈ placesFrom P es i↔∃ (n:Nat) (e:bA),es[n]? = some e∧x = i + n∧P e = true
  | [],i=>by simp [placesFrom]
  | d::es,i=>by
    have ih:=mem_placesFrom (P:=P) (x:=x) (es:=es) (i:=i + 1)
    have sp:(∃ (n:Nat) (e:bA),(d::es)[n]? = some e∧x = i + n∧P e = true)↔(x = i∧P d = true)∨∃ (n:Nat) (e:bA),es[n]? = some e∧x = i + 1 + n∧P e = true:=by
      constructor
      · rintro ⟨n,e,h1,h2,h3⟩
        cases n with
        | zero=>simp at h1; subst h1; exact .inl ⟨by simpa using h2,h3⟩
        | succ n=>exact .inr ⟨n,e,by simpa using h1,by omega,h3⟩
      · rintro (⟨h2,h3⟩ | ⟨n,e,h1,h2,h3⟩)
        · exact ⟨0,d,rfl,by simpa using h2,h3⟩
        · exact ⟨n + 1,e,by simpa using h1,by omega,h3⟩
    rw [sp,← ih,placesFrom_c]
    split
    · rename_i hd
      rw [List.mem_cons]
      constructor
      · rintro (h | h)
        · exact .inl ⟨h,hd⟩
        · exact .inr h
      · rintro (h | h)
        · exact .inl h.1
        · exact .inr h
    · rename_i hd
      constructor
      · exact .inr
      · rintro (h | h)
        · exact absurd h.2 hd
        · exact h
theorem mem_places {P:bA→Bool} {x:Int} {es:List bA}:x ∈ places P es↔∃ (n:Nat) (e:bA),es[n]? = some e∧x = n∧P e = true:=by
  unfold places
  rw [mem_placesFrom]
  simp
theorem places_in {P:bA→Bool} {x:Int} {es:List bA} (h:x ∈ places P es):0 ≤ x∧x < es.length:=by
  obtain ⟨n,e,h1,rfl,_⟩:=mem_places.1 h
  have:=(List.getElem?_eq_some_iff.1 h1).1
  omega
theorem ins_perm (key:Int→Int) (x:Int):∀ l,(ins key x l).Perm (x::l)
  | []=>.refl _
  | y::l=>by
    unfold ins; split
    · exact .refl _
    · exact ((ins_perm key x l).cons y).trans (.swap _ _ _)
theorem isort_perm (key:Int→Int):∀ l,(isort key l).Perm l
  | []=>.refl _
  | x::l=>(ins_perm key x _).trans ((isort_perm key l).cons x)
theorem ins_up (key:Int→Int) (x:Int):∀ l,Up key l→Up key (ins key x l)
  | [],_=>List.pairwise_singleton _ _
  | y::l,h=>by
    obtain ⟨h1,h2⟩:=List.pairwise_cons.1 h
    unfold ins; split
    · rename_i hx
      refine List.pairwise_cons.2 ⟨fun z hz=>?_,h⟩
      rcases List.mem_cons.1 hz with rfl | hz
      · omega
      · have:=h1 z hz; omega
    · rename_i hx
      refine List.pairwise_cons.2 ⟨fun z hz=>?_,ins_up key x l h2⟩
      rcases List.mem_cons.1 ((ins_perm key x l).subset hz) with rfl | hz
      · omega
      · exact h1 z hz
theorem isort_up (key:Int→Int):∀ l,Up key (isort key l)
  | []=>.nil
  | x::l=>ins_up key x _ (isort_up key l)
def Apart (es:List bA):Prop:=∀ a b,a ∈ effs es→b ∈ effs es→eff es a = eff es b→a = b
theorem order_of {es:List bA} (ha:Apart es) {l:List Int} (hp:l.Perm (effs es)) (hu:Up (eff es) l):l = order es:=by
  refine List.Perm.eq_of_pairwise (le:=fun x y=>eff es x ≤ eff es y) (fun a b h1 h2 h3 h4=>?_) hu (isort_up _ _) (hp.trans (isort_perm _ _).symm)
  exact ha a b (hp.subset h1) ((isort_perm _ _).subset h2) (by omega)
theorem mayFrom_apart {s:eY}:∀ {es:List bA} {last:Int} {seen:List Int} {ends:List (Int × Int)},mayFrom s es last seen ends = true →
    (∀ (n:Nat) e,es[n]? = some e→e.fEffect > 0→e.fEffect ∉ seen)∧∀ (n m:Nat) e d,es[n]? = some e→es[m]? = some d→e.fEffect > 0→e.fEffect = d.fEffect→n = m
  | [],_,_,_,_=>⟨fun n e h=>by simp at h,fun n m e d h=>by simp at h⟩
  | e0::es,last,seen,ends,h=>by
    unfold mayFrom at h
    split at h
    · cases h
    · split at h
      · cases h
      · rename_i h1 _
        obtain ⟨i1,i2⟩:=mayFrom_apart h
        have h0:e0.fEffect > 0→e0.fEffect ∉ seen:=fun hp hm=>h1 (.inr ⟨hp,hm⟩)
        refine ⟨fun n e hn hp=>?_,fun n m e d hn hm hp he=>?_⟩
        · cases n with
          | zero=>simp at hn; subst hn; exact h0 hp
          | succ n=>exact fun hm=>i1 n e (by simpa using hn) hp (by simp [hm])
        · cases n with
          | zero =>
            cases m with
            | zero=>rfl
            | succ m =>
              simp at hn; subst hn
              exact absurd (by simp [he]) (i1 m d (by simpa using hm) (by omega))
          | succ n =>
            cases m with
            | zero =>
              simp at hm; subst hm
              exact absurd (by simp [he]) (i1 n e (by simpa using hn) hp)
            | succ m=>rw [i2 n m e d (by simpa using hn) (by simpa using hm) hp he]
theorem eff_nat {es:List bA} {n:Nat} {e:bA} (h:es[n]? = some e):eff es n = e.fEffect:=by simp [eff,h]
theorem may_apart {es:List bA} {s:eY} (h:may es s = true):Apart es:=by
  intro a b ha hb he
  obtain ⟨n,e,h1,rfl,h2⟩:=mem_places.1 ha
  obtain ⟨m,d,h3,rfl,h4⟩:=mem_places.1 hb
  rw [eff_nat h1,eff_nat h3] at he
  rw [(mayFrom_apart h).2 n m e d h1 h3 (by simpa using h2) he]
end Hist
theorem sp_hist_places (s:Sl) (es:List bA) (v:Value) (P:bA→Bool) (A:List As) (hb:es.length < 2 ^ 38)
    (hv:∀ e ∈ es,SpV Tryz.prog v [.agg e.C.toArray] aC (vE s es::A) (fun r=>pa_ (r = P e) (vE s es::A))) :
    Sp Tryz.prog qr [sv s,v] cu (vE s es::A) (fun r=>aG (vI r (Hist.places P es)::vE s es::A)):=by
  intro h s0
  have hl:=(cj (j:=0) s0 rfl).1
  refine sim_hist_places _ _ ?_
  unfold sh_hist_places
  refine Lp.intro (fun (z:Sl × Int) h=>∃ n:Nat,z.2 = n∧n ≤ es.length∧aG (vI z.1 (Hist.placesFrom P (es.take n) 0)::vE s es::A) h) (fun (z:Sl × Int) _=>es.length - z.2.toNat) ⟨0,rfl,Nat.zero_le _,fN s0⟩ ?_
  rintro ⟨z,i⟩ h ⟨n,rfl,hn,s1⟩
  unfold tm
  refine ba (fun k=>?_) (fun k=>?_)
  · have hlt:n < es.length:=by rw [hl] at k; simpa using k
    have hw:IntKind.i64.wrap ((n:Int) + 1) = ((n + 1:Nat):Int):=by rw [bR (by omega) (by omega)]; rfl
    have ht:es.take (n + 1) = es.take n++[es[n]]:=by simp
    have hlen:((es.take n).length:Int) = n:=by simp; omega
    have hpl:=Hist.placesFrom_len P (es.take n) 0
    simp at hpl
    refine dC s1 (j:=1) rfl (by omega) (by show (n:Int) < _; omega) fun q hq=>?_
    refine eE (j:=1) (i:=n) (k:=0) es[n] nB s1 rfl hq rfl (aH hlt) (by simp) ?_
    refine clv_t (hv es[n] (List.getElem_mem hlt)) s1 fun r h2 s2=>?_
    obtain ⟨hr,s3⟩:=bp.1 s2
    have s4:=star_rot s3
    rw [hw]
    refine ba (fun k2=>?_) (fun k2=>?_)
    · refine wg s4 (i:=0) rfl (by omega) fun v h' s5=>?_
      refine ⟨⟨n + 1,rfl,hlt,?_⟩,by simp; omega⟩
      rw [ht,Hist.placesFrom_app,if_pos (by rw [← hr,k2]),hlen,Int.zero_add]
      exact s5
    · refine ⟨⟨n + 1,rfl,hlt,?_⟩,by simp; omega⟩
      rw [ht,Hist.placesFrom_app,if_neg (by rw [← hr,k2]; exact Bool.false_ne_true),List.append_nil]
      exact s4
  · have:n = es.length:=by rw [hl] at k; simp at k; omega
    subst this
    rw [List.take_length] at s1
    exact s1
theorem cmp_neg (x y:Int):fR x y < 0↔x < y:=by
  unfold fR eu
  simp only [bne_self_eq_false,cond_false]
  by_cases h1:x < y
  · simp [h1]
  · by_cases h2:x > y
    · simp [h1,h2]
    · simp [h1,h2]
theorem sp_hist_Over (s:Sl) (es:List bA) (a:Int) (hb:es.length < 2 ^ 38):Sp Tryz.prog n_hist_Over [sv s,.int .i64 a] cu [vE s es] (fun r=>aG [vI r (Hist.over es a),vE s es]):=by
  intro h s0
  refine sim_hist_Over _ _ ?_
  unfold sh_hist_Over
  refine pt s0 fun b3 h1 s1=>?_
  refine cT [1,0] (sp_hist_places s es _ (fun e=>decide (e.fBegin ≤ a) && (e.fEffect == 0 || decide (e.fEffect > a))) [blk b3 kW [.int .i64 a]] hb ?_) s1 rfl fun r h2 s2=>?_
  · intro e he
    refine ⟨_,_,_,rfl,enter_hist_Over_c1,fun h s3=>?_⟩
    refine sim_hist_Over_c1 e b3 ?_
    unfold sh_hist_Over_c1
    refine bk a s3 (i:=1) rfl rfl rfl ?_
    refine ba (fun k=>?_) (fun k=>?_)
    · refine bk a s3 (i:=1) rfl rfl rfl ?_
      rw [Bool.and_eq_true] at k
      refine aX ?_ s3
      have k2:(e.fEffect == 0) = false:=by simpa using k.2
      rw [k.1,k2]; rfl
    · refine aX ?_ s3
      cases k1:decide (e.fBegin ≤ a) with
      | false=>rfl
      | true =>
        rw [k1] at k
        have k2:(e.fEffect == 0) = true:=by simpa using k
        rw [k2]; rfl
  · have s3:=dD s2
    exact nI (l:=[vI r (Hist.over es a),vE s es]) s3
theorem sp_hist_Order20 (s:Sl) (es:List bA) (hb:es.length ≤ 20) (ha:Hist.Apart es):Sp Tryz.prog oS [sv s] cu [vE s es] (fun r=>aG [vI r (Hist.order es),vE s es]):=by
  intro h s0
  refine sim_hist_Order _ ?_
  unfold sh_hist_Order
  refine pt s0 fun b1 h1 s1=>?_
  refine bk s s1 (i:=0) rfl rfl rfl ?_
  refine cT [1,0] (sp_hist_places s es _ (fun e=>decide (e.fEffect > 0)) [blk b1 eO [sv s]] (by omega) ?_) s1 rfl fun r h2 s2=>?_
  · intro e he
    refine ⟨_,_,_,rfl,enter_hist_Order_c1,fun h s3=>?_⟩
    exact (ct_hist_Order_c1 e h).mono fun v h' ⟨r,hv,hr,hh⟩=>⟨r,hv,hr,by rw [hh]; exact s3⟩
  · have s3:=dD s2
    have hpl:=Hist.placesFrom_len (fun e=>decide (e.fEffect > 0)) es 0
    refine cT [0,0,0] (sp_SortStable20 r _ [vE s es,blk b1 eO [sv s]] (Hist.eff es) (fun x=>0 ≤ x∧x < es.length) ?_ (Hist.effs es) (fun x hx=>Hist.places_in hx) (by unfold Hist.effs Hist.places; omega)) s3 rfl fun u h4 s4=>?_
    · rintro x y ⟨hx0,hx⟩ ⟨hy0,hy⟩
      refine ⟨_,_,_,rfl,enter_hist_Order_c2,fun h s5=>?_⟩
      obtain ⟨n,rfl⟩:=Int.eq_ofNat_of_zero_le hx0
      obtain ⟨m,rfl⟩:=Int.eq_ofNat_of_zero_le hy0
      have hn:n < es.length:=by omega
      have hm:m < es.length:=by omega
      refine sim_hist_Order_c2 n m b1 ?_
      unfold vx
      refine bk s s5 (i:=1) rfl rfl rfl ?_
      refine dC s5 (j:=0) rfl (by omega) (by omega) fun q hq=>?_
      refine eE (j:=0) (i:=n) (k:=8) es[n].fEffect nB s5 rfl hq rfl (aH hn) (c1 rfl rfl) ?_
      refine bk s s5 (i:=1) rfl rfl rfl ?_
      refine dC s5 (j:=0) rfl (by omega) (by omega) fun q2 hq2=>?_
      refine eE (j:=0) (i:=m) (k:=8) es[m].fEffect nB s5 rfl hq2 rfl (aH hm) (c1 rfl rfl) ?_
      refine aX ?_ s5
      rw [cmp_neg,Hist.eff_nat (aH hn),Hist.eff_nat (aH hm)]
    · obtain ⟨g1,g2,d,rfl,⟨m',⟨p1,p2⟩,s5⟩,s6⟩:=s4
      rw [Hist.order_of ha p1 p2] at s5
      exact su (nI (l:=[vI r (Hist.order es),vE s es]) s5) d
theorem sp_hist_May (s:Sl) (es:List bA) (z:eY) (hb:es.length < 2 ^ 38):Sp Tryz.prog xd [sv s,.agg z.C.toArray] aC [vE s es] (fun r=>pa_ (r = Hist.may es z) [vE s es]):=by
  intro h s0
  have hl:=(cj (j:=0) s0 rfl).1
  refine sim_hist_May _ _ ?_
  unfold sh_hist_May
  refine makeMap_m (τ:=Bool) (val:=fun x=>.bool x) rfl s0 fun b1 h1 s1=>?_
  refine makeMap_m (τ:=Int) (val:=fun x=>.int .i64 x) rfl s1 fun b2 h2 s2=>?_
  refine Lp.intro (fun (y:Int × Int) h=>∃ (n:Nat) (seen:List Int) (ends:List (Int × Int)),y.2 = n∧n ≤ es.length∧Hist.mayFrom z (es.drop n) y.1 seen ends = Hist.may es z∧aG [mapA b2 (fun x=>Value.int .i64 x) (Hist.endOf ends),mapA b1 (fun x=>Value.bool x) (fun x=>if x ∈ seen then some true else none),vE s es] h) (fun (y:Int × Int) _=>es.length - y.2.toNat) ⟨0,[],[],rfl,Nat.zero_le _,rfl,?_⟩ ?_
  · have e1:(fun x:Int=>if x ∈ ([]:List Int) then some true else none) = fun _=>none:=by funext x; simp
    have e2:Hist.endOf [] = fun _=>none:=by funext x; rfl
    rw [e1,e2]; exact s2
  rintro ⟨last,i⟩ h ⟨n,seen,ends,rfl,hn,he,s3⟩
  unfold hist_May_l1
  simp only at he ⊢
  refine ba (fun k=>?_) (fun k=>?_)
  · have hlt:n < es.length:=by rw [hl] at k; simpa using k
    have hw:IntKind.i64.wrap ((n:Int) + 1) = ((n + 1:Nat):Int):=by rw [bR (by omega) (by omega)]; rfl
    rw [List.drop_eq_getElem_cons hlt,Hist.mayFrom] at he
    refine dC s3 (j:=2) rfl (by omega) (by omega) fun q hq=>?_
    refine eE (j:=2) (i:=n) (k:=0) es[n] nB s3 rfl hq rfl (aH hlt) (by simp) ?_
    have rest:¬ (eG es[n] z last = false∨(es[n].fEffect > 0∧es[n].fEffect ∈ seen))→∀ K:(Int × Int)→Hp→Prop,
        (∀ (s':Int × Int) h',s'.1 = es[n].fBegin∧s'.2 = ((n + 1:Nat):Int)→Hist.stops ends es[n] = false→aG [mapA b2 (fun x=>Value.int .i64 x) (Hist.endOf ((es[n].fCore,es[n].fEnd)::ends)),mapA b1 (fun x=>Value.bool x) (fun x=>if x ∈ es[n].fEffect::seen then some true else none),vE s es] h'→K s' h') →
        hpv Tryz.prog (Instr.lookup hO (.map (some b2)) (.int .i64 es[n].fCore) true) bL (fun (v40:Int × Bool) =>
          br (v40.2 && ((decide (v40.1 ≤ 0)) || (decide (es[n].fBegin ≤ v40.1)))) (pa_ (false = Hist.may es z) [vE s es]) (
          hpu Tryz.prog (Instr.mapUpdate jx (.map (some b1)) (.int .i64 es[n].fEffect) (.bool true)) <|
          hpu Tryz.prog (Instr.mapUpdate hO (.map (some b2)) (.int .i64 es[n].fCore) (.int .i64 es[n].fEnd)) <|
          K (es[n].fBegin,((n + 1:Nat):Int)))) h:=by
      intro hno K hK
      rw [if_neg hno] at he
      refine lookup_m (j:=0) mp_map_int_int s3 rfl ((Hist.endOf ends es[n].fCore).getD 0,(Hist.endOf ends es[n].fCore).isSome) ?_ ?_
      · rw [if_pos rfl]; unfold bL
        cases Hist.endOf ends es[n].fCore <;> rfl
      · have hst:((Hist.endOf ends es[n].fCore).isSome && ((decide ((Hist.endOf ends es[n].fCore).getD 0 ≤ 0)) || (decide (es[n].fBegin ≤ (Hist.endOf ends es[n].fCore).getD 0)))) = Hist.stops ends es[n]:=by
          unfold Hist.stops
          cases Hist.endOf ends es[n].fCore <;> simp
        show br ((Hist.endOf ends es[n].fCore).isSome && ((decide ((Hist.endOf ends es[n].fCore).getD 0 ≤ 0)) || (decide (es[n].fBegin ≤ (Hist.endOf ends es[n].fCore).getD 0)))) _ _ h
        rw [hst]
        refine ba (fun k2=>?_) (fun k2=>?_)
        · rw [if_pos k2] at he
          exact aX he (cc (l:=[_,_]) s3)
        · refine update_m (j:=1) (w:=true) mp_map_int_bool s3 rfl rfl fun h4 s4=>?_
          refine update_m (j:=0) (w:=es[n].fEnd) mp_map_int_int s4 rfl rfl fun h5 s5=>?_
          refine hK _ _ ⟨rfl,rfl⟩ k2 ?_
          have e1:(fun y=>if y = es[n].fCore then some es[n].fEnd else Hist.endOf ends y) = Hist.endOf ((es[n].fCore,es[n].fEnd)::ends):=by
            funext y
            unfold Hist.endOf
            by_cases hy:y = es[n].fCore
            · subst hy; simp
            · have:(es[n].fCore == y) = false:=by simpa using fun e=>hy e.symm
              simp [hy,this]
          have e2:(fun y=>if y = es[n].fEffect then some true else if y ∈ seen then some true else none) = fun x=>if x ∈ es[n].fEffect::seen then some true else none:=by
            funext y
            by_cases hy:y = es[n].fEffect <;> simp [hy]
          rw [← e1,← e2]
          exact s5
    have go:¬ (eG es[n] z last = false∨(es[n].fEffect > 0∧es[n].fEffect ∈ seen))→∀ (s':Int × Int) h',s'.1 = es[n].fBegin∧s'.2 = ((n + 1:Nat):Int)→Hist.stops ends es[n] = false→aG [mapA b2 (fun x=>Value.int .i64 x) (Hist.endOf ((es[n].fCore,es[n].fEnd)::ends)),mapA b1 (fun x=>Value.bool x) (fun x=>if x ∈ es[n].fEffect::seen then some true else none),vE s es] h' →
        (∃ (n:Nat) (seen:List Int) (ends:List (Int × Int)),s'.2 = n∧n ≤ es.length∧Hist.mayFrom z (es.drop n) s'.1 seen ends = Hist.may es z∧aG [mapA b2 (fun x=>Value.int .i64 x) (Hist.endOf ends),mapA b1 (fun x=>Value.bool x) (fun x=>if x ∈ seen then some true else none),vE s es] h')∧es.length - s'.2.toNat < es.length - (n:Int).toNat:=by
      rintro hno ⟨u,w⟩ h' ⟨h4,h5⟩ hst s4
      simp only at h4 h5
      subst h4; subst h5
      rw [if_neg hno,if_neg (by rw [hst]; exact Bool.false_ne_true)] at he
      exact ⟨⟨n + 1,_,_,rfl,hlt,he,s4⟩,by simp; omega⟩
    rw [hw]
    refine ba (fun k2=>?_) (fun k2=>?_)
    · rw [Bool.and_eq_true] at k2
      have k1:eG es[n] z last = true:=by simpa using k2.1
      have kp:es[n].fEffect > 0:=by simpa using k2.2
      refine lookup_m (j:=1) mp_map_int_bool s3 rfl (decide (es[n].fEffect ∈ seen)) ?_ ?_
      · rw [if_neg Bool.false_ne_true]; unfold aC
        by_cases hm:es[n].fEffect ∈ seen <;> simp [hm]
      · refine ba (fun k3=>?_) (fun k3=>?_)
        · have hm:es[n].fEffect ∈ seen:=of_decide_eq_true k3
          rw [if_pos (.inr ⟨kp,hm⟩)] at he
          exact aX he (cc (l:=[_,_]) s3)
        · have hm:es[n].fEffect ∉ seen:=of_decide_eq_false k3
          have hno:¬ (eG es[n] z last = false∨(es[n].fEffect > 0∧es[n].fEffect ∈ seen)):=by simp [k1,hm]
          exact rest hno _ (go hno)
    · refine ba (fun k3=>?_) (fun k3=>?_)
      · have k1:eG es[n] z last = false:=by simpa using k3
        rw [if_pos (.inl k1)] at he
        exact aX he (cc (l:=[_,_]) s3)
      · have k1:eG es[n] z last = true:=by simpa using k3
        have kp:¬ es[n].fEffect > 0:=by simp [k1] at k2; omega
        have hno:¬ (eG es[n] z last = false∨(es[n].fEffect > 0∧es[n].fEffect ∈ seen)):=by simp [k1]; intro hh; exact absurd hh kp
        exact rest hno _ (go hno)
  · have:n = es.length:=by rw [hl] at k; simp at k; omega
    subst this
    rw [List.drop_length] at he
    exact aX he (cc (l:=[_,_]) s3)
end Go.Proofs.YtemoifebbhoinaaGreatDoor
namespace Go.Proofs.YtemoifebbhoinaaGreatDoor
open Go Mb
set_option linter.unusedVariables false
def dP (a2:Int) (a3:Int) (q22:Nat × Nat) (Rec9:(Sl × Int)→Hp→Prop) (s8:Sl × Int) (x49:aE) (s22:Bool):Hp→Prop:=br s22 ( ld (q22.1,q22.2 + 4) cP fun x65=>cl Tryz.prog gL [(pv x65)] dM fun r66=>cl Tryz.prog dz [(pv r66),(.int .i64 x49.fEnv),(.agg (ah.C x49.fCall).toArray)] aZ fun r72=>cl Tryz.prog fS [(pv r66),(.int .i64 a2),(.int .i64 a3)] cJ fun r77=>hpv Tryz.prog (Instr.buildSlice pS 1 #[(0,(.agg (am.C r77.1).toArray))]) qm fun (v82:Sl)=>hpv Tryz.prog (Builtin.append_ #[pS,pS] pS #[(sv s8.1),(sv v82)]) qm fun (v83:Sl)=>Rec9 (v83,(IntKind.i64.wrap (s8.2 + 1)))) ( Rec9 (s8.1,(IntKind.i64.wrap (s8.2 + 1))))
def kQ (a2:Int) (a3:Int) (K:Sl→Hp→Prop) (q22:Nat × Nat) (r37:Sl) (Rec9:(Sl × Int)→Hp→Prop) (s8:Sl × Int):Hp→Prop:=br (decide (s8.2 < (r37.len:Int))) ( ix r37 s8.2 fun q41=>ld (q41.1,q41.2 + Int.toNat s8.2 * 1) (cI .i64) fun x42=>ld (q22.1,q22.2 + 0) cS fun x46=>ix x46 x42 fun q48=>ld (q48.1,q48.2 + Int.toNat x42 * 16) aE.C fun x49=>br (((aA x49.fCall).1) == 7) ( dP a2 a3 q22 Rec9 s8 x49 (((aA x49.fCall).1) == 7)) ( br (((aA x49.fCall).1) == 8) ( dP a2 a3 q22 Rec9 s8 x49 (((aA x49.fCall).1) == 8)) ( br (((aA x49.fCall).1) == 4) ( dP a2 a3 q22 Rec9 s8 x49 (((aA x49.fCall).1) == 4)) ( dP a2 a3 q22 Rec9 s8 x49 (((aA x49.fCall).1) == 5))))) ( K s8.1)
def pF (a0:Ptr) (a1:Int) (a2:Int) (a3:Int) (K:Sl→Hp→Prop):Hp→Prop:=nn a0 fun q22=>ld (q22.1,q22.2 + 4) cP fun x24=>cl Tryz.prog fS [(pv x24),(.int .i64 a2),(.int .i64 a3)] cJ fun r27=>hpv Tryz.prog (Instr.buildSlice pS 1 #[(0,(.agg (am.C r27.1).toArray))]) qm fun (v31:Sl)=>ld (q22.1,q22.2 + 0) cS fun x35=>cl Tryz.prog n_hist_Over [(sv x35),(.int .i64 a1)] cu fun r37=>Lp (kQ a2 a3 K q22 r37) (v31,0)
theorem wI (a0:Ptr) (a1:Int) (a2:Int) (a3:Int) {K:Sl→Hp→Prop} {h:Hp} (H:pF a0 a1 a2 a3 K h):Ct Tryz.prog lF #[(pv a0),(.int .i64 a1),(.int .i64 a2),(.int .i64 a3)] h fun v h'=>∃ r,v = qm r∧K r h':=aw [(pv a0),(.int .i64 a1),(.int .i64 a2),(.int .i64 a3)] Tryz.func183 c c c fun _=>M<|O c<|M<|J c<|bF H fun q22 e1 H2=>p (aL<|aN c<|ap e1)<|p (ae vW c)<|aa<|aW H2 nj c (fun _=>c) c fun x24 H3=>J c<|J c<|aa<|Z H3 en_89 fun r27 _ H4=>J c<|p (ak c c)<|p (ak c c)<|aa<|aI (l:=am.C (⟨0,0,0⟩:am)) ga c c fun b9=>aa<|aO (k:=0) (vs:=am.C r27.1) dQ c c c c c c c<|O c<|M<|bi (bC (k:=0) fH c c c c) c<|aa<|aS H4 (bo (vs:=[(.agg (am.C r27.1).toArray)]) c) c fun v31 _ H5=>O c<|al<|M<|J (aN c<|ap e1)<|p (aL c)<|p (ae fld_196_0 c)<|aa<|aW H5 sc_42 c (fun _=>c) c fun x35 H6=>J c<|aa<|Z H6 en_206 fun r37 _ H7=>p (dA c Tryz.underlying39 c)<|J c<|ad<|ay<|bE (step:=kQ a2 a3 K q22 r37) (fun s8=>[(0,(pv a0)),(2,(.int .i64 a2)),(3,(.int .i64 a3)),(11,(sv s8.1)),(37,(sv r37)),(38,(.int .i64 (r37.len:Int))),(39,(.int .i64 s8.2))]) (fun s8=>[]) H7 (.cons c<|.cons c<|.cons c<|.cons c<|.cons c<|.cons c<|.cons c<|.nil _) (.cons _ .slnil) fun Rec9 s8 _ H10=>M<|p (cC c c)<|ad<|al<|av c H10 (fun k11 H12=>ao<|al<|ay<|M<|ct H12 fun q41 e13 h14 H15=>p (bq iC (aN c<|bc e13) c h14)<|aa<|aW H15 bb c (fun _=>c) c fun x42 H16=>O c<|M<|J (aN c<|ap e1)<|p (aL c)<|p (ae fld_196_0 c)<|aa<|aW H16 sc_42 c (fun _=>c) c fun x46 H17=>J c<|ct H17 fun q48 e18 h19 H20=>p (bq sM (aN c<|bc e18) c h19)<|aa<|gT H20 ag_56 c (fun _=>c) c fun x49 H21=>aa<|aI (l:=aE.C (⟨0,0,(⟨0,0,0,0,0⟩:ah),0,0,0,(⟨0,0⟩:ab),(⟨0,0,0,0⟩:an)⟩:aE)) zero_56 c c fun b14=>aa<|aO (k:=0) (vs:=aE.C x49) inf_56 c c c c c c c<|ad<|M<|p (ae mR c)<|bi (bC (k:=0) eT c c c c) c<|aa<|cN (vs:=[(.agg (ah.C x49.fCall).toArray)]) (bu<|kq x49.fCall _) en_63 c c<|J c<|p (ak c c)<|p (ak c c)<|p (au c)<|O c<|M<|J c<|ad<|ay<|eo (dP a2 a3 q22 Rec9 s8 x49) (fun s22=>[(0,(pv a0)),(2,(.int .i64 a2)),(3,(.int .i64 a3)),(11,(sv s8.1)),(14,(.pointer (some ⟨b14,0,none⟩))),(37,(sv r37)),(38,(.int .i64 (r37.len:Int))),(39,(.int .i64 s8.2)),(57,(.bool s22))]) (fun s22=>[bx b14 56 (aE.C x49)]) (M<|p (bO c c)<|O c<|av c H21 (fun k32 H33=>ao<|cG (((aA x49.fCall).1) == 7) H33 (.cons c<|.cons c<|.cons c<|.cons c<|.cons c<|.cons c<|.cons c<|.cons c<|.cons c<|.nil _)<|.cons_cons _ .slnil) fun k32 H33=>M<|p (bO c c)<|O c<|av c H33 (fun k34 H35=>ao<|cG (((aA x49.fCall).1) == 8) H35 (.cons c<|.cons c<|.cons c<|.cons c<|.cons c<|.cons c<|.cons c<|.cons c<|.cons c<|.nil _)<|.cons_cons _ .slnil) fun k34 H35=>M<|p (bO c c)<|O c<|av c H35 (fun k36 H37=>ao<|cG (((aA x49.fCall).1) == 4) H37 (.cons c<|.cons c<|.cons c<|.cons c<|.cons c<|.cons c<|.cons c<|.cons c<|.cons c<|.nil _)<|.cons_cons _ .slnil) fun k36 H37=>ar<|p (bO c c)<|O c<|cG (((aA x49.fCall).1) == 5) H37 (.cons c<|.cons c<|.cons c<|.cons c<|.cons c<|.cons c<|.cons c<|.cons c<|.cons c<|.nil _)<|.cons_cons _ .slnil) fun s22 _ H23=>av c H23 (fun k24 H25=>M<|J (aN c<|ap e1)<|p (aL c)<|p (ae vW c)<|aa<|aW H25 nj c (fun _=>c) c fun x65 H26=>aa<|Z H26 en_184 fun r66 _ H27=>O c<|M<|J c<|p (ae oX c)<|bi (bf (k:=0) bb c c c) c<|p (ae mR c)<|bi (bC (k:=0) eT c c c c) c<|aa<|Z H27 en_72 fun r72 _ H28=>ad<|M<|J c<|J c<|J c<|aa<|Z H28 en_89 fun r77 _ H29=>J c<|p (ak c c)<|p (ak c c)<|aa<|aI (l:=am.C (⟨0,0,0⟩:am)) ga c c fun b18=>aa<|aO (k:=0) (vs:=am.C r77.1) dQ c c c c c c c<|O c<|ar<|J c<|bi (bC (k:=0) fH c c c c) c<|aa<|aS H29 (bo (vs:=[(.agg (am.C r77.1).toArray)]) c) c fun v82 _ H30=>aa<|aS H30 (dH c c) c fun v83 _ H31=>O c<|ar<|p (bw c c)<|J c<|ad<|cR (v83,(IntKind.i64.wrap (s8.2 + 1))) H31 (.cons c<|.cons c<|.cons c<|.cons c<|.cons c<|.cons c<|.cons c<|.nil _)<|.cons _<|.cons _ .slnil) fun k24 H25=>ao<|ar<|p (bw c c)<|J c<|ad<|cR (s8.1,(IntKind.i64.wrap (s8.2 + 1))) H25 (.cons c<|.cons c<|.cons c<|.cons c<|.cons c<|.cons c<|.cons c<|.nil _)<|.cons _ .slnil) fun k11 H12=>bj<|M<|J c<|O c<|aj<|Y ⟨s8.1,c,H12⟩
def kR (a1:aE) (K:Bool→Hp→Prop) (q18:Nat × Nat) (r50:Sl) (Rec13:(Bool × Bool × Int)→Hp→Prop) (s12:Bool × Bool × Int):Hp→Prop:=br (decide (s12.2.2 < (r50.len:Int))) ( ix r50 s12.2.2 fun q54=>ld (q54.1,q54.2 + Int.toNat s12.2.2 * 3) am.C fun x55=>Rec13 ((s12.1 || (!(cA x55.fRights (IntKind.i64.wrap a1.fCall.e0)))),(s12.2.1 || ((x55.fFrame == a1.fLine.fFrame) && (aQ a1.fLine.fRights x55.fRights))),(IntKind.i64.wrap (s12.2.2 + 1)))) ( br (a1.fAnswer.fErr == 7) ( K ((s12.1 && (a1.fAnswer.fVal == 0)) && (an.eqb a1.fLine (⟨0,0,0,0⟩:an)))) ( ld (q18.1,q18.2 + 4) cP fun x103=>cl Tryz.prog gL [(pv x103)] dM fun r104=>cl Tryz.prog fd [(pv r104),(.int .i64 a1.fLine.fFrame),(.agg (ah.C a1.fCall).toArray)] aZ fun r110=>K (((s12.2.1 && (((a1.fLine.fEnv == a1.fEnv) && (a1.fLine.fPage == (IntKind.i64.wrap a1.fCall.e1))) && (cA a1.fLine.fRights (IntKind.i64.wrap a1.fCall.e0)))) && r110.2) && (ab.eqb r110.1 a1.fAnswer))))
def pG (a0:Ptr) (a1:aE) (K:Bool→Hp→Prop):Hp→Prop:=nn a0 fun q18=>ld (q18.1,q18.2 + 1 + 1) (cI .i64) fun x21=>cl Tryz.prog gX [(.agg (ah.C a1.fCall).toArray),(.int .i64 x21)] bh fun r22=>br (r22 != 0) ( K ((ab.eqb a1.fAnswer (⟨r22,0⟩:ab)) && (an.eqb a1.fLine (⟨0,0,0,0⟩:an)))) ( cl Tryz.prog lF [(.pointer (some ⟨q18.1,q18.2,none⟩)),(.int .i64 a1.fEffect),(.int .i64 a1.fEnv),(.int .i64 (IntKind.i64.wrap a1.fCall.e1))] qm fun r50=>Lp (kR a1 K q18 r50) (false,false,0))
theorem wJ (a0:Ptr) (a1:aE) {K:Bool→Hp→Prop} {h:Hp} (H:pG a0 a1 K h):Ct Tryz.prog lG #[(pv a0),(.agg (aE.C a1).toArray)] h fun v h'=>∃ r,v = aC r∧K r h':=aw [(pv a0),(.agg (aE.C a1).toArray)] Tryz.func140 c c c fun _=>M<|aa<|cQ (l:=aE.C a1) c c c fun b3=>O c<|al<|al<|bm (n:=9) [bx b3 56 (aE.C a1)] cx c (.cons_cons _ .slnil)<|U 0 c (ae mR c)<|z_E 1 c (eq (k:=0) eT c c c c)<|U 2 c (ai c)<|gZ H fun q18 e1 H2=>U 3 c (aL<|aN c<|ap e1)<|U 4 c (ae fld_196_1 c)<|U 5 c (ae mT c)<|bH (i:=6) (fun _ _ _ _ hh=>hh) H2 c (by kernel_rfl) bb c (fun _=>c) c fun x21 H3=>G 7 c<|Z H3 en_110 fun r22 _ H4=>⟨.cons_cons _ .slnil,U 8 c (au c)<|aV (by kernel_rfl)<|M<|J c<|p (nh c c)<|ad<|av c H4 (fun k5 H6=>M<|p (ae kA c)<|bi (bC (k:=0) cH c c c c) c<|J c<|p (aY c<|jn r22)<|p (v_eqA eqg_30 (eqr_30 9998 _ _) c c)<|J c<|V c c (az _) (fun g7=>wv<|ae gm c)<|V c c (az _) (fun g8=>cv<|bC (k:=0) ia (aD c g8) c c c)<|V c c (az _) (fun g9=>wv<|aY (vs:=[]) c lN)<|V c c (az _) (fun g10=>wv<|v_eqA eqg_54 (eqr_54 9998 _ _) (aD c g10)<|aD c g10)<|p (bS c c)<|O c<|aj<|Y ⟨((ab.eqb a1.fAnswer (⟨r22,0⟩:ab)) && (an.eqb a1.fLine (⟨0,0,0,0⟩:an))),c,H6⟩) fun k5 H6=>ao<|al<|bm (n:=10) [bx b3 56 (aE.C a1)] cx c (.cons_cons _ .slnil)<|U 0 c (ae mR c)<|U 1 c (bz de c c (by decide))<|z_E 2 c (dn (k:=0) cz c c c)<|U 3 c (dV ⟨_,Tryz.underlying22⟩ Tryz.underlying3 c)<|U 4 c (ae mR c)<|U 5 c (bz de c c (by decide))<|z_E 6 c (dn (k:=0) cz c c c)<|U 7 c (dV ⟨_,Tryz.underlying22⟩ Tryz.underlying3 c)<|U 8 c (au c)<|U 9 c (au c)<|aV (by kernel_rfl)<|M<|p (au c)<|O c<|al<|M<|J (aN c<|ap e1)<|p (ae ja c)<|bi (bf (k:=0) bb c c c) c<|p (ae oX c)<|bi (bf (k:=0) bb c c c) c<|J c<|aa<|Z H6 en_183 fun r50 _ H11=>p (dA c Tryz.underlying240 c)<|J c<|ad<|ay<|bE (step:=kR a1 K q18 r50) (fun s12=>[(0,(pv a0)),(3,(.pointer (some ⟨b3,0,none⟩))),(6,(.int .i64 (IntKind.i64.wrap a1.fCall.e1))),(7,(.int .i64 (IntKind.i64.wrap a1.fCall.e0))),(8,(.bool s12.1)),(9,(.bool s12.2.1)),(50,(sv r50)),(51,(.int .i64 (r50.len:Int))),(52,(.int .i64 s12.2.2))]) (fun s12=>[bx b3 56 (aE.C a1)]) H11 (.cons c<|.cons c<|.cons c<|.cons c<|.cons c<|.cons c<|.cons c<|.cons c<|.cons c<|.nil _) (.cons_cons _ .slnil) fun Rec13 s12 _ H14=>M<|p (cC c c)<|ad<|al<|av c H14 (fun k15 H16=>ao<|al<|ay<|M<|ct H16 fun q54 e17 h18 H19=>p (bq slc_240 (aN c<|bc e17) c h18)<|aa<|gT H19 fH c (fun _=>c) c fun x55 H20=>aa<|aI (l:=am.C (⟨0,0,0⟩:am)) ga c c fun b11=>aa<|aO (k:=0) (vs:=am.C x55) dQ c c c c c c c<|ad<|M<|J c<|J c<|V c c (aJ _) (fun g21=>wv<|ae eL c)<|V c c (aJ _) (fun g22=>cv<|bf (k:=0) bb (aD c g22) c c)<|V c c (aJ _) (fun g23=>wv<|ai c)<|db (vs:=[(.int .i64 x55.fRights),(.int .i64 (IntKind.i64.wrap a1.fCall.e0))]) c c c (aJ _) (fun g24=>bu<|jT x55.fRights (IntKind.i64.wrap a1.fCall.e0) _) en_158 (fun g24=>aT (aD c g24)<|aT (aD c g24) bQ) c<|V c c (aJ _) (fun g25=>wv<|cq<|aD c g25)<|p (dm c c)<|O c<|ar<|J c<|J c<|V c c (aJ _) (fun g26=>wv<|ae qV c)<|V c c (aJ _) (fun g27=>cv<|bf (k:=0) bb (aD c g27) c c)<|V c c (aJ _) (fun g28=>wv<|ae gm c)<|V c c (aJ _) (fun g29=>wv<|ae lJ<|aD c g29)<|V c c (aJ _) (fun g30=>cv<|bf (k:=1) bb (aD c g30) c c)<|V c c (aJ _) (fun g31=>wv<|bO (aD c g31)<|aD c g31)<|V c c (aJ _) (fun g32=>wv<|ai<|aD c g32)<|V c c (ru _ _) (fun g33=>wv<|ae gm c)<|V c c (ru _ _) (fun g34=>wv<|ae qX<|aD c g34)<|V c c (ru _ _) (fun g35=>cv<|bf (k:=1) bb (aD c g35) c c)<|V c c (ru _ _) (fun g36=>wv<|ae eL c)<|V c c (ru _ _) (fun g37=>cv<|bf (k:=0) bb (aD c g37) c c)<|db (vs:=[(.int .i64 a1.fLine.fRights),(.int .i64 x55.fRights)]) c c c (ru _ _) (fun g38=>bu<|df a1.fLine.fRights x55.fRights _) mC (fun g38=>aT (aD c g38)<|aT (aD c g38) bQ) c<|V c c (aJ _) (fun g39=>wv<|bS (aD c g39)<|aN c<|xl g39)<|p (dm c c)<|O c<|ar<|p (bw c c)<|J c<|ad<|cR ((s12.1 || (!(cA x55.fRights (IntKind.i64.wrap a1.fCall.e0)))),(s12.2.1 || ((x55.fFrame == a1.fLine.fFrame) && (aQ a1.fLine.fRights x55.fRights))),(IntKind.i64.wrap (s12.2.2 + 1))) H20 (.cons c<|.cons c<|.cons c<|.cons c<|.cons c<|.cons c<|.cons c<|.cons c<|.cons c<|.nil _)<|.cons _<|.cons_cons _ .slnil) fun k15 H16=>bj<|al<|M<|p (ae kA c)<|p (ae gQ c)<|bi (bf (k:=0) ll c c c) c<|p (bO c c)<|ad<|av c H16 (fun k40 H41=>M<|J c<|J c<|V c c (az _) (fun g42=>wv<|ae kA c)<|V c c (az _) (fun g43=>wv<|ae fld_30_1<|aD c g43)<|V c c (az _) (fun g44=>cv<|bf (k:=0) cz (aD c g44) c c)<|V c c (az _) (fun g45=>wv<|bO (aD c g45) c)<|p (bS c c)<|J c<|V c c (az _) (fun g46=>wv<|ae gm c)<|V c c (az _) (fun g47=>cv<|bC (k:=0) ia (aD c g47) c c c)<|V c c (az _) (fun g48=>wv<|aY (vs:=[]) c lN)<|V c c (az _) (fun g49=>wv<|v_eqA eqg_54 (eqr_54 9998 _ _) (aD c g49)<|aD c g49)<|p (bS c c)<|O c<|aj<|Y ⟨((s12.1 && (a1.fAnswer.fVal == 0)) && (an.eqb a1.fLine (⟨0,0,0,0⟩:an))),c,H41⟩) fun k40 H41=>ao<|al<|bm (n:=17) [bx b3 56 (aE.C a1)] cx c (.cons_cons _ .slnil)<|U 0 c (ai<|aN c<|ap e1)<|U 1 c (aL c)<|U 2 c (ae vW c)<|U 5 c (ae gm c)<|U 6 c (ae lJ c)<|z_E 7 c (dn (k:=0) bb c c c)<|U 8 c (ae mR c)<|z_E 9 c (eq (k:=0) eT c c c c)<|bH (i:=3) (fun _ _ _ _ hh=>hh) H41 c (by kernel_rfl) nj c (fun _=>c) c fun x103 H50=>jJ (i:=4) (j:=14) (by kernel_rfl) (cK c c<|Z H50 en_184 fun r104 _ H52=>⟨.cons_cons _ .slnil,jJ (i:=10) (j:=14) (by kernel_rfl) (cK c c<|Z H52 uW fun r110 _ H54=>⟨.cons_cons _ .slnil,U 11 c (ai c)<|U 12 c (ak c c)<|U 13 c (ak c c)<|G 14 c<|aI (l:=ab.C (⟨0,0⟩:ab)) cO c c fun b12=>⟨.cons _<|.cons_cons _ .slnil,G 15 c<|aO (k:=0) (vs:=ab.C r110.1) bI c c c c c c c ⟨.cons _<|.cons_cons _ .slnil,U 16 c (au c)<|aV (by kernel_rfl)<|M<|p (ae gm c)<|p (ae kB c)<|bi (bf (k:=1) bb c c c) c<|p (ae oX c)<|bi (bf (k:=1) bb c c c) c<|p (bO c c)<|J c<|V c c (az _) (fun g55=>wv<|ae gm c)<|V c c (az _) (fun g56=>wv<|ae mS<|aD c g56)<|V c c (az _) (fun g57=>cv<|bf (k:=1) bb (aD c g57) c c)<|V c c (az _) (fun g58=>wv<|ai c)<|V c c (az _) (fun g59=>wv<|bO (aD c g59)<|aD c g59)<|p (bS c c)<|J c<|V c c (az _) (fun g60=>wv<|ae gm c)<|V c c (az _) (fun g61=>wv<|ae qX<|aD c g61)<|V c c (az _) (fun g62=>cv<|bf (k:=1) bb (aD c g62) c c)<|V c c (az _) (fun g63=>wv<|ai c)<|db (vs:=[(.int .i64 a1.fLine.fRights),(.int .i64 (IntKind.i64.wrap a1.fCall.e0))]) c c c (az _) (fun g64=>bu<|jT a1.fLine.fRights (IntKind.i64.wrap a1.fCall.e0) _) en_158 (fun g64=>aT (aD c g64)<|aT (aD c g64) bQ) c<|p (bS c c)<|O c<|M<|J c<|J c<|V c c (az _) (fun g65=>wv<|ai c)<|p (bS c c)<|J c<|V c c (az _) (fun g66=>wv<|ai c)<|p (bS c c)<|J c<|V c c (az _) (fun g67=>cv<|bC (k:=0) cH c c c c)<|V c c (az _) (fun g68=>wv<|ae kA c)<|V c c (az _) (fun g69=>cv<|bC (k:=1) cH (aD c g69) c c c)<|V c c (az _) (fun g70=>wv<|v_eqA eqg_30 (eqr_30 9998 _ _) (aD c g70)<|aD c g70)<|p (bS c c)<|O c<|aj<|Y ⟨(((s12.2.1 && (((a1.fLine.fEnv == a1.fEnv) && (a1.fLine.fPage == (IntKind.i64.wrap a1.fCall.e1))) && (cA a1.fLine.fRights (IntKind.i64.wrap a1.fCall.e0)))) && r110.2) && (ab.eqb r110.1 a1.fAnswer)),c,H54⟩⟩⟩⟩)<|cK c c<|aI (l:=ab.C (⟨0,0⟩:ab)) cO c c fun b12=>⟨.cons _<|.cons_cons _ .slnil,G 10 c<|Z H52 uW fun r110 _ H54=>⟨.cons _<|.cons_cons _ .slnil,U 11 c (ai c)<|U 12 c (ak c c)<|U 13 c (ak c c)<|G 15 c<|aO (k:=0) (vs:=ab.C r110.1) bI c c c c c c c ⟨.cons _<|.cons_cons _ .slnil,U 16 c (au c)<|aV (by kernel_rfl)<|M<|p (ae gm c)<|p (ae kB c)<|bi (bf (k:=1) bb c c c) c<|p (ae oX c)<|bi (bf (k:=1) bb c c c) c<|p (bO c c)<|J c<|V c c (az _) (fun g55=>wv<|ae gm c)<|V c c (az _) (fun g56=>wv<|ae mS<|aD c g56)<|V c c (az _) (fun g57=>cv<|bf (k:=1) bb (aD c g57) c c)<|V c c (az _) (fun g58=>wv<|ai c)<|V c c (az _) (fun g59=>wv<|bO (aD c g59)<|aD c g59)<|p (bS c c)<|J c<|V c c (az _) (fun g60=>wv<|ae gm c)<|V c c (az _) (fun g61=>wv<|ae qX<|aD c g61)<|V c c (az _) (fun g62=>cv<|bf (k:=1) bb (aD c g62) c c)<|V c c (az _) (fun g63=>wv<|ai c)<|db (vs:=[(.int .i64 a1.fLine.fRights),(.int .i64 (IntKind.i64.wrap a1.fCall.e0))]) c c c (az _) (fun g64=>bu<|jT a1.fLine.fRights (IntKind.i64.wrap a1.fCall.e0) _) en_158 (fun g64=>aT (aD c g64)<|aT (aD c g64) bQ) c<|p (bS c c)<|O c<|M<|J c<|J c<|V c c (az _) (fun g65=>wv<|ai c)<|p (bS c c)<|J c<|V c c (az _) (fun g66=>wv<|ai c)<|p (bS c c)<|J c<|V c c (az _) (fun g67=>cv<|bC (k:=0) cH c c c c)<|V c c (az _) (fun g68=>wv<|ae kA c)<|V c c (az _) (fun g69=>cv<|bC (k:=1) cH (aD c g69) c c c)<|V c c (az _) (fun g70=>wv<|v_eqA eqg_30 (eqr_30 9998 _ _) (aD c g70)<|aD c g70)<|p (bS c c)<|O c<|aj<|Y ⟨(((s12.2.1 && (((a1.fLine.fEnv == a1.fEnv) && (a1.fLine.fPage == (IntKind.i64.wrap a1.fCall.e1))) && (cA a1.fLine.fRights (IntKind.i64.wrap a1.fCall.e0)))) && r110.2) && (ab.eqb r110.1 a1.fAnswer)),c,H54⟩⟩⟩⟩⟩)<|cK c c<|aI (l:=ab.C (⟨0,0⟩:ab)) cO c c fun b12=>⟨.cons _<|.cons_cons _ .slnil,G 4 c<|Z H50 en_184 fun r104 _ H52=>⟨.cons _<|.cons_cons _ .slnil,G 10 c<|Z H52 uW fun r110 _ H53=>⟨.cons _<|.cons_cons _ .slnil,U 11 c (ai c)<|U 12 c (ak c c)<|U 13 c (ak c c)<|G 15 c<|aO (k:=0) (vs:=ab.C r110.1) bI c c c c c c c ⟨.cons _<|.cons_cons _ .slnil,U 16 c (au c)<|aV (by kernel_rfl)<|M<|p (ae gm c)<|p (ae kB c)<|bi (bf (k:=1) bb c c c) c<|p (ae oX c)<|bi (bf (k:=1) bb c c c) c<|p (bO c c)<|J c<|V c c (az _) (fun g54=>wv<|ae gm c)<|V c c (az _) (fun g55=>wv<|ae mS<|aD c g55)<|V c c (az _) (fun g56=>cv<|bf (k:=1) bb (aD c g56) c c)<|V c c (az _) (fun g57=>wv<|ai c)<|V c c (az _) (fun g58=>wv<|bO (aD c g58)<|aD c g58)<|p (bS c c)<|J c<|V c c (az _) (fun g59=>wv<|ae gm c)<|V c c (az _) (fun g60=>wv<|ae qX<|aD c g60)<|V c c (az _) (fun g61=>cv<|bf (k:=1) bb (aD c g61) c c)<|V c c (az _) (fun g62=>wv<|ai c)<|db (vs:=[(.int .i64 a1.fLine.fRights),(.int .i64 (IntKind.i64.wrap a1.fCall.e0))]) c c c (az _) (fun g63=>bu<|jT a1.fLine.fRights (IntKind.i64.wrap a1.fCall.e0) _) en_158 (fun g63=>aT (aD c g63)<|aT (aD c g63) bQ) c<|p (bS c c)<|O c<|M<|J c<|J c<|V c c (az _) (fun g64=>wv<|ai c)<|p (bS c c)<|J c<|V c c (az _) (fun g65=>wv<|ai c)<|p (bS c c)<|J c<|V c c (az _) (fun g66=>cv<|bC (k:=0) cH c c c c)<|V c c (az _) (fun g67=>wv<|ae kA c)<|V c c (az _) (fun g68=>cv<|bC (k:=1) cH (aD c g68) c c c)<|V c c (az _) (fun g69=>wv<|v_eqA eqg_30 (eqr_30 9998 _ _) (aD c g69)<|aD c g69)<|p (bS c c)<|O c<|aj<|Y ⟨(((s12.2.1 && (((a1.fLine.fEnv == a1.fEnv) && (a1.fLine.fPage == (IntKind.i64.wrap a1.fCall.e1))) && (cA a1.fLine.fRights (IntKind.i64.wrap a1.fCall.e0)))) && r110.2) && (ab.eqb r110.1 a1.fAnswer)),c,H53⟩⟩⟩⟩⟩⟩
def rI (a0:Ptr) (a1:aE) (K:Bool→Hp→Prop):Hp→Prop:=br (a1.fAnswer.fErr == 0) ( nn a0 fun q13=>ld (q13.1,q13.2 + 1 + 1) (cI .i64) fun x16=>cl Tryz.prog gX [(.agg (ah.C a1.fCall).toArray),(.int .i64 x16)] bh fun r17=>br (r17 == 0) ( K (a1.fLine.fRights != 0)) ( K false)) ( K false)
theorem sim_judge_judge_well (a0:Ptr) (a1:aE) {K:Bool→Hp→Prop} {h:Hp} (H:rI a0 a1 K h):Ct Tryz.prog nt #[(pv a0),(.agg (aE.C a1).toArray)] h fun v h'=>∃ r,v = aC r∧K r h':=aw [(pv a0),(.agg (aE.C a1).toArray)] Tryz.func141 c c c fun _=>M<|aa<|cQ (l:=aE.C a1) c c c fun b3=>O c<|al<|bm (n:=22) [bx b3 56 (aE.C a1)] cx c (.cons_cons _ .slnil)<|U 0 c (ae kA c)<|U 1 c (ae gQ c)<|z_E 2 c (dn (k:=0) ll c c c)<|U 3 c (bO c c)<|U 4 c (ai c)<|nA H (fun k1 H2=>z_n 5 c (D k1) (ve<|ae mR c)<|z_n 6 c (D k1) (eq (k:=0) eT c c c c)<|z_n 7 c (D k1) (ve<|ai c)<|gZ H2 fun q13 e3 H4=>z_n 8 c (D k1) (ve<|aL<|aN c<|ap e3)<|z_n 9 c (D k1) (ve<|ae fld_196_1 c)<|z_n 10 c (D k1) (ve<|ae mT c)<|mn (i:=11) (fun _ _ _ _ hh=>hh) H4 c (by kernel_rfl) c c c (D k1) bb c (fun _=>c) c fun x16 H5=>eva_1 (i:=12) (by kernel_rfl)<|way_on c c c c (D k1)<|Z H5 en_110 fun r17 _ H6=>⟨.cons_cons _ .slnil,z_n 13 c (D k1) (ve<|bO c c)<|U 14 c (aU c k1 c)<|U 15 c (ai c)<|nA H6 (fun k7 H8=>z_n 16 c (D k7) (ve<|ae gm c)<|z_n 17 c (D k7) (ve<|ae qX c)<|z_n 18 c (D k7) (dn (k:=0) bb c c c)<|z_n 19 c (D k7) (ve<|nh c c)<|U 20 c (aU c k7 c)<|U 21 c (au c)<|aV (by kernel_rfl)<|aj<|Y ⟨(a1.fLine.fRights != 0),c,H8⟩) fun k7 H8=>I 16 c (aR k7)<|I 17 c (aR k7)<|I 18 c (aR k7)<|I 19 c (aR k7)<|U 20 c (aq c k7 c)<|U 21 c (au c)<|aV (by kernel_rfl)<|aj<|Y ⟨false,c,H8⟩⟩) fun k1 H2=>I 5 c (aR k1)<|I 6 c (aR k1)<|I 7 c (aR k1)<|I 8 c (aR k1)<|I 9 c (aR k1)<|I 10 c (aR k1)<|I 11 c (aR k1)<|I 12 c (aR k1)<|I 13 c (aR k1)<|U 14 c (aq c k1 c)<|U 15 c (ai c)<|I 16 c c<|I 17 c c<|I 18 c c<|I 19 c c<|U 20 c (aq c c c)<|U 21 c (au c)<|aV (by kernel_rfl)<|aj<|Y ⟨false,c,H2⟩
def sg (b25:Nat) (Rec8:Int→Hp→Prop) (s7:Int) (x36:aE) (s22:Unit):Hp→Prop:=cl Tryz.prog nt [(.pointer (some ⟨b25,0,none⟩)),(.agg (aE.C x36).toArray)] aC fun r49=>br r49 ( ld (b25,4) cP fun x53=>cl Tryz.prog fd [(pv x53),(.int .i64 x36.fLine.fFrame),(.agg (ah.C x36.fCall).toArray)] aZ fun r59=>Rec8 (IntKind.i64.wrap (s7 + 1))) ( Rec8 (IntKind.i64.wrap (s7 + 1)))
def sf (K:(Int × Bool)→Hp→Prop) (b25:Nat) (Rec8:Int→Hp→Prop) (s7:Int) (x32:Int) (x36:aE) (s29:Bool):Hp→Prop:=br s29 ( K (x32,false)) ( sg b25 Rec8 s7 x36 ())
def xi (a0:Sl) (a2:Bool) (a3:Bool) (K:(Int × Bool)→Hp→Prop) (b25:Nat) (r27:Sl) (Rec8:Int→Hp→Prop) (s7:Int):Hp→Prop:=br (decide (s7 < (r27.len:Int))) ( ix r27 s7 fun q31=>ld (q31.1,q31.2 + Int.toNat s7 * 1) (cI .i64) fun x32=>ix a0 x32 fun q35=>ld (q35.1,q35.2 + Int.toNat x32 * 16) aE.C fun x36=>br (fz x36) ( br a3 ( cl Tryz.prog lG [(.pointer (some ⟨b25,0,none⟩)),(.agg (aE.C x36).toArray)] aC fun r43=>sf K b25 Rec8 s7 x32 x36 (!r43)) ( sf K b25 Rec8 s7 x32 x36 false)) ( ld (b25,4) cP fun x64=>cl Tryz.prog dz [(pv x64),(.int .i64 x36.fEnv),(.agg (ah.C x36.fCall).toArray)] aZ fun r69=>br (a2 && ((!r69.2) || (!(ab.eqb r69.1 x36.fAnswer)))) ( K (x32,false)) ( Rec8 (IntKind.i64.wrap (s7 + 1))))) ( K ((-1),true))
def sh_judge_run (a0:Sl) (a1:aB) (a2:Bool) (a3:Bool) (K:(Int × Bool)→Hp→Prop):Hp→Prop:=cl Tryz.prog xd [(sv a0),(.agg (aB.C a1).toArray)] aC fun r18=>br (!r18) ( K ((-1),false)) ( cl Tryz.prog nO [(.agg (aB.C a1).toArray)] dM fun r23=>nw dp (kK.C (⟨a0,a1,r23⟩:kK)) fun b25=>cl Tryz.prog oS [(sv a0)] cu fun r27=>Lp (xi a0 a2 a3 K b25 r27) 0)
theorem sim_judge_run (a0:Sl) (a1:aB) (a2:Bool) (a3:Bool) {K:(Int × Bool)→Hp→Prop} {h:Hp} (H:sh_judge_run a0 a1 a2 a3 K h):Ct Tryz.prog uu #[(sv a0),(.agg (aB.C a1).toArray),(.bool a2),(.bool a3)] h fun v h'=>∃ r,v = bL r∧K r h':=aw [(sv a0),(.agg (aB.C a1).toArray),(.bool a2),(.bool a3)] Tryz.func99 c c c fun _=>M<|aa<|cQ (l:=aB.C a1) c c c fun b5=>p (au c)<|O c<|al<|M<|J c<|bi (bC (k:=0) pf c c c c) c<|aa<|Z H en_25 fun r18 _ H1=>p (cq c)<|ad<|av c H1 (fun k2 H3=>M<|p (au c)<|O c<|aj<|bv (bN c (bY c)<|bY c) ⟨((-1),false),c,H3⟩) fun k2 H3=>ao<|al<|bm (n:=7) [bx b5 25 (aB.C a1)] cx c (.cons_cons _ .slnil)<|U 0 c (ai c)<|z_E 1 c (eq (k:=0) pf c c c c)<|z_E 2 c (eq (k:=0) pf c c c c)<|G 3 c<|Z H3 en_56 fun r23 _ H4=>⟨.cons_cons _ .slnil,U 4 c (aY c<|build_196_0_1_2 a0 a1 r23)<|G 5 c<|ie c c c H4 fun b25 _ H5=>⟨.cons_cons _ .slnil,U 6 c (au c)<|aV (by kernel_rfl)<|al<|M<|J c<|aa<|Z H5 en_44 fun r27 _ H6=>p (dA c Tryz.underlying39 c)<|J c<|ad<|ay<|bE (step:=xi a0 a2 a3 K b25 r27) (fun s7=>[(0,(sv a0)),(2,(.bool a2)),(3,(.bool a3)),(10,(.pointer (some ⟨b25,0,none⟩))),(27,(sv r27)),(28,(.int .i64 (r27.len:Int))),(29,(.int .i64 s7))]) (fun s7=>[]) H6 (.cons c<|.cons c<|.cons c<|.cons c<|.cons c<|.cons c<|.cons c<|.nil _) (.cons _ .slnil) fun Rec8 s7 _ H9=>M<|p (cC c c)<|ad<|al<|av c H9 (fun k10 H11=>ao<|al<|ay<|M<|ct H11 fun q31 e12 h13 H14=>p (bq iC (aN c<|bc e12) c h13)<|aa<|aW H14 bb c (fun _=>c) c fun x32 H15=>O c<|M<|J c<|J c<|ct H15 fun q35 e16 h17 H18=>p (bq sM (aN c<|bc e16) c h17)<|aa<|gT H18 ag_56 c (fun _=>c) c fun x36 H19=>aa<|aI (l:=aE.C (⟨0,0,(⟨0,0,0,0,0⟩:ah),0,0,0,(⟨0,0⟩:ab),(⟨0,0,0,0⟩:an)⟩:aE)) zero_56 c c fun b13=>aa<|aO (k:=0) (vs:=aE.C x36) inf_56 c c c c c c c<|ad<|al<|M<|bi (bC (k:=0) ag_56 c c c c) c<|aa<|cN (vs:=[(.agg (aE.C x36).toArray)]) (bu<|ct_judge_user x36 _) en_139 c c<|ad<|av c H19 (fun k20 H21=>eo (sg b25 Rec8 s7 x36) (fun s22=>[(0,(sv a0)),(2,(.bool a2)),(3,(.bool a3)),(10,(.pointer (some ⟨b25,0,none⟩))),(13,(.pointer (some ⟨b13,0,none⟩))),(27,(sv r27)),(28,(.int .i64 (r27.len:Int))),(29,(.int .i64 s7))]) (fun s22=>[bx b13 56 (aE.C x36)]) (eo (sf K b25 Rec8 s7 x32 x36) (fun s29=>[(0,(sv a0)),(2,(.bool a2)),(3,(.bool a3)),(10,(.pointer (some ⟨b25,0,none⟩))),(12,(.int .i64 x32)),(13,(.pointer (some ⟨b13,0,none⟩))),(27,(sv r27)),(28,(.int .i64 (r27.len:Int))),(29,(.int .i64 s7)),(45,(.bool s29))]) (fun s29=>[bx b13 56 (aE.C x36)]) (ar<|J c<|J c<|V c c (az _) (fun g33=>wv<|ai c)<|V c c (az _) (fun g34=>cv<|bC (k:=0) ag_56 c c c c)<|bU H21 (fun k36 H37=>F (D k36)<|gw H37 en_140 (aT (aD c k36)<|aT (aD c k36) bQ) c fun r43 _ H38=>F (D k36)<|R (cq c)<|p (aU c k36 c)<|ad<|cG (!r43) H38 (.cons c<|.cons c<|.cons c<|.cons c<|.cons c<|.cons c<|.cons c<|.cons c<|.cons c<|.cons c<|.nil _)<|.cons_cons _ .slnil) fun k36 H37=>W (aR k36)<|W (aR k36)<|p (aq c k36 c)<|ad<|cG false H37 (.cons c<|.cons c<|.cons c<|.cons c<|.cons c<|.cons c<|.cons c<|.cons c<|.cons c<|.cons c<|.nil _)<|.cons_cons _ .slnil) fun s29 _ H30=>av c H30 (fun k31 H32=>M<|J c<|p (au c)<|O c<|aj<|bv (bN c (bY c)<|bY c) ⟨(x32,false),c,H32⟩) fun k31 H32=>ao<|cG () H32 (.cons c<|.cons c<|.cons c<|.cons c<|.cons c<|.cons c<|.cons c<|.cons c<|.nil _)<|.cons_cons _ .slnil) fun s22 _ H23=>al<|M<|J c<|bi (bC (k:=0) ag_56 c c c c) c<|aa<|Z H23 en_141 fun r49 _ H24=>ad<|av c H24 (fun k25 H26=>bm (n:=10) [bx b13 56 (aE.C x36)] cx c (.cons_cons _ .slnil)<|U 0 c (ai c)<|U 1 c (aL c)<|U 2 c (ae vW c)<|U 4 c (ae gm c)<|U 5 c (ae lJ c)<|z_E 6 c (dn (k:=0) bb c c c)<|U 7 c (ae mR c)<|z_E 8 c (eq (k:=0) eT c c c c)<|bH (i:=3) (fun _ _ _ _ hh=>hh) H26 c (by kernel_rfl) nj c (fun _=>c) c fun x53 H27=>G 9 c<|Z H27 uW fun r59 _ H28=>⟨.cons_cons _ .slnil,aV (by kernel_rfl)<|bj<|ar<|p (bw c c)<|J c<|ad<|cR (IntKind.i64.wrap (s7 + 1)) H28 (.cons c<|.cons c<|.cons c<|.cons c<|.cons c<|.cons c<|.cons c<|.nil _)<|.cons _ .slnil⟩) fun k25 H26=>ao<|bj<|ar<|p (bw c c)<|J c<|ad<|cR (IntKind.i64.wrap (s7 + 1)) H26 (.cons c<|.cons c<|.cons c<|.cons c<|.cons c<|.cons c<|.cons c<|.nil _)<|.cons _ .slnil) fun k20 H21=>ao<|al<|bm (n:=15) [bx b13 56 (aE.C x36)] cx c (.cons_cons _ .slnil)<|U 0 c (ai c)<|U 1 c (aL c)<|U 2 c (ae vW c)<|U 4 c (ae oX c)<|z_E 5 c (dn (k:=0) bb c c c)<|U 6 c (ae mR c)<|z_E 7 c (eq (k:=0) eT c c c c)<|bH (i:=3) (fun _ _ _ _ hh=>hh) H21 c (by kernel_rfl) nj c (fun _=>c) c fun x64 H39=>jJ (i:=8) (j:=12) (by kernel_rfl) (cK c c<|Z H39 en_72 fun r69 _ H41=>⟨.cons_cons _ .slnil,U 9 c (ai c)<|U 10 c (ak c c)<|U 11 c (ak c c)<|G 12 c<|aI (l:=ab.C (⟨0,0⟩:ab)) cO c c fun b14=>⟨.cons _<|.cons_cons _ .slnil,G 13 c<|aO (k:=0) (vs:=ab.C r69.1) bI c c c c c c c ⟨.cons _<|.cons_cons _ .slnil,U 14 c (au c)<|aV (by kernel_rfl)<|M<|J c<|J c<|V c c (az _) (fun g42=>wv<|ai c)<|V c c (az _) (fun g43=>wv<|cq<|aD c g43)<|V c c (az _) (fun g44=>wv<|ai<|aD c g44)<|V c c (dT _ _) (fun g45=>cv<|bC (k:=0) cH c c c c)<|V c c (dT _ _) (fun g46=>wv<|ae kA c)<|V c c (dT _ _) (fun g47=>cv<|bC (k:=1) cH (aD c g47) c c c)<|V c c (dT _ _) (fun g48=>wv<|v_neA eqg_30 (eqr_30 9998 _ _) (aD c g48)<|aD c g48)<|V c c (az _) (fun g49=>wv<|dm (aD c g49)<|aN c<|xl g49)<|p (bS c c)<|ad<|av c H41 (fun k50 H51=>M<|J c<|p (au c)<|O c<|aj<|bv (bN c (bY c)<|bY c) ⟨(x32,false),c,H51⟩) fun k50 H51=>ao<|ar<|p (bw c c)<|J c<|ad<|cR (IntKind.i64.wrap (s7 + 1)) H51 (.cons c<|.cons c<|.cons c<|.cons c<|.cons c<|.cons c<|.cons c<|.nil _)<|.cons _<|.cons _ .slnil⟩⟩⟩)<|cK c c<|aI (l:=ab.C (⟨0,0⟩:ab)) cO c c fun b14=>⟨.cons _<|.cons_cons _ .slnil,G 8 c<|Z H39 en_72 fun r69 _ H41=>⟨.cons _<|.cons_cons _ .slnil,U 9 c (ai c)<|U 10 c (ak c c)<|U 11 c (ak c c)<|G 13 c<|aO (k:=0) (vs:=ab.C r69.1) bI c c c c c c c ⟨.cons _<|.cons_cons _ .slnil,U 14 c (au c)<|aV (by kernel_rfl)<|M<|J c<|J c<|V c c (az _) (fun g42=>wv<|ai c)<|V c c (az _) (fun g43=>wv<|cq<|aD c g43)<|V c c (az _) (fun g44=>wv<|ai<|aD c g44)<|V c c (dT _ _) (fun g45=>cv<|bC (k:=0) cH c c c c)<|V c c (dT _ _) (fun g46=>wv<|ae kA c)<|V c c (dT _ _) (fun g47=>cv<|bC (k:=1) cH (aD c g47) c c c)<|V c c (dT _ _) (fun g48=>wv<|v_neA eqg_30 (eqr_30 9998 _ _) (aD c g48)<|aD c g48)<|V c c (az _) (fun g49=>wv<|dm (aD c g49)<|aN c<|xl g49)<|p (bS c c)<|ad<|av c H41 (fun k50 H51=>M<|J c<|p (au c)<|O c<|aj<|bv (bN c (bY c)<|bY c) ⟨(x32,false),c,H51⟩) fun k50 H51=>ao<|ar<|p (bw c c)<|J c<|ad<|cR (IntKind.i64.wrap (s7 + 1)) H51 (.cons c<|.cons c<|.cons c<|.cons c<|.cons c<|.cons c<|.cons c<|.nil _)<|.cons _<|.cons _ .slnil⟩⟩⟩) fun k10 H11=>bj<|M<|p (au c)<|O c<|aj<|bv (bN c (bY c)<|bY c) ⟨((-1),true),c,H11⟩⟩⟩
def sh_judge_Linear (a0:Sl) (a1:aB) (K:(Int × Bool)→Hp→Prop):Hp→Prop:=cl Tryz.prog uu [(sv a0),(.agg (aB.C a1).toArray),(.bool true),(.bool false)] bL fun r8=>K (r8.1,r8.2)
theorem sim_judge_Linear (a0:Sl) (a1:aB) {K:(Int × Bool)→Hp→Prop} {h:Hp} (H:sh_judge_Linear a0 a1 K h):Ct Tryz.prog oQ #[(sv a0),(.agg (aB.C a1).toArray)] h fun v h'=>∃ r,v = bL r∧K r h':=aw [(sv a0),(.agg (aB.C a1).toArray)] Tryz.func47 c c c fun _=>M<|aa<|cQ (l:=aB.C a1) c c c fun b3=>p (au c)<|O c<|M<|J c<|bi (bC (k:=0) pf c c c c) c<|aa<|Z H en_99 fun r8 _ H1=>p (ak c c)<|p (ak c c)<|p (au c)<|O c<|aj<|bv (bN c (bY c)<|bY c) ⟨(r8.1,r8.2),c,H1⟩
def sh_judge_Access (a0:Sl) (a1:aB) (K:(Int × Bool)→Hp→Prop):Hp→Prop:=cl Tryz.prog uu [(sv a0),(.agg (aB.C a1).toArray),(.bool false),(.bool true)] bL fun r8=>K (r8.1,r8.2)
theorem sim_judge_Access (a0:Sl) (a1:aB) {K:(Int × Bool)→Hp→Prop} {h:Hp} (H:sh_judge_Access a0 a1 K h):Ct Tryz.prog oR #[(sv a0),(.agg (aB.C a1).toArray)] h fun v h'=>∃ r,v = bL r∧K r h':=aw [(sv a0),(.agg (aB.C a1).toArray)] Tryz.func48 c c c fun _=>M<|aa<|cQ (l:=aB.C a1) c c c fun b3=>p (au c)<|O c<|M<|J c<|bi (bC (k:=0) pf c c c c) c<|aa<|Z H en_99 fun r8 _ H1=>p (ak c c)<|p (ak c c)<|p (au c)<|O c<|aj<|bv (bN c (bY c)<|bY c) ⟨(r8.1,r8.2),c,H1⟩
def sh_judge_Right (a0:Sl) (a1:aB) (K:Bool→Hp→Prop):Hp→Prop:=cl Tryz.prog oQ [(sv a0),(.agg (aB.C a1).toArray)] bL fun r12=>cl Tryz.prog oR [(sv a0),(.agg (aB.C a1).toArray)] bL fun r18=>K (r12.2 && r18.2)
theorem sim_judge_Right (a0:Sl) (a1:aB) {K:Bool→Hp→Prop} {h:Hp} (H:sh_judge_Right a0 a1 K h):Ct Tryz.prog qp #[(sv a0),(.agg (aB.C a1).toArray)] h fun v h'=>∃ r,v = aC r∧K r h':=aw [(sv a0),(.agg (aB.C a1).toArray)] Tryz.func19 c c c fun _=>M<|aa<|cQ (l:=aB.C a1) c c c fun b3=>O c<|M<|J c<|bi (bC (k:=0) pf c c c c) c<|aa<|Z H en_47 fun r12 _ H1=>J c<|p (ak c c)<|p (ak c c)<|p (au c)<|O c<|M<|J c<|bi (bC (k:=0) pf c c c c) c<|aa<|Z H1 en_48 fun r18 _ H2=>J c<|p (ak c c)<|p (ak c c)<|p (au c)<|O c<|M<|J c<|J c<|V c c (az _) (fun g3=>wv<|ai c)<|p (bS c c)<|O c<|aj<|Y ⟨(r12.2 && r18.2),c,H2⟩
end Go.Proofs.YtemoifebbhoinaaGreatDoor
