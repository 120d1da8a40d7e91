/- Part of the proof of: The law ShootFrame returns true for every input, and leaves its arguments as they were. -/
import Derived.Test.YtochchocdckegaaGreatDoorShootFrame03
set_option linter.all false
set_option maxRecDepth 20000
namespace Go.Proofs.YtochchocdckegaaGreatDoor
open Go.Proofs.Tryz
open Go.IntKind (i64 u64)
open _root_.List (append_nil getElem?_cons_succ getElem_mem mem_cons replicate set_cons_succ)
open _root_.Nat (add_comm)
section
open Go
namespace Mb
def wZ {σ α:Type} (A:σ->α->As):List σ->List α->List As
 | p::ps,x::xs=>A p x::wZ A ps xs
 | _,_=>[]
section
variable {σ α:Type} {A:σ->α->As}
theorem objs_get:∀ {ps:List σ} {xs:List α} {i:Nat} {p:σ} {x:α},ps[i]? = some p->xs[i]? = some x->(wZ A ps xs)[i]? = some (A p x)
 | [],_,_,_,_,h,_=>by simp at h
 | _::_,[],_,_,_,_,h=>by simp at h
 | p::ps,x::xs,0,_,_,h1,h2=>by simp at h1 h2; subst h1; subst h2; rfl
 | p::ps,x::xs,i + 1,_,_,h1,h2=>by simpa [wZ] using objs_get (ps:=ps) (xs:=xs) (i:=i) (by simpa using h1) (by simpa using h2)
theorem objs_set:∀ {ps:List σ} {xs:List α} {i:Nat} {p:σ} {x:α},ps[i]? = some p->(wZ A ps xs).set i (A p x) = wZ A ps (xs.set i x)
 | [],_,_,_,_,h=>by simp at h
 | p::ps,[],i,_,_,_=>by simp [wZ]
 | p::ps,y::xs,0,_,_,h=>by simp at h; subst h; rfl
 | p::ps,y::xs,i + 1,_,_,h=>by simp only [wZ,set_cons_succ]; rw [objs_set (ps:=ps) (xs:=xs) (i:=i) (by simpa using h)]
theorem objs_set2:∀ {ps:List σ} {xs:List α} {i:Nat} {p:σ} {x:α},i < xs.length->(wZ A ps xs).set i (A p x) = wZ A (ps.set i p) (xs.set i x)
 | [],_,_,_,_,_=>by simp [wZ]
 | p::ps,[],i,_,_,h=>by simp at h
 | p::ps,y::xs,0,_,_,_=>rfl
 | p::ps,y::xs,i + 1,_,_,h=>by simp only [wZ,set_cons_succ]; rw [objs_set2 (ps:=ps) (xs:=xs) (i:=i) (by simpa using h)]
theorem objs_append (p:σ) (x:α):∀ {ps:List σ} {xs:List α},ps.length = xs.length->wZ A (ps++[p]) (xs++[x]) = wZ A ps xs++[A p x]
 | [],[],_=>rfl
 | [],_::_,h=>by simp at h
 | _::_,[],h=>by simp at h
 | a::ps,b::xs,h=>by simp only [List.cons_append,wZ]; rw [objs_append p x (by simpa using h)]
theorem objs_len:∀ {ps:List σ} {xs:List α},ps.length = xs.length->(wZ A ps xs).length = xs.length
 | [],[],_=>rfl
 | [],_::_,h=>by simp at h
 | _::_,[],h=>by simp at h
 | a::ps,b::xs,h=>by simp only [wZ,List.length_cons]; rw [objs_len (by simpa using h)]
def all (A:σ->α->As) (ps:List σ) (xs:List α):As:=aB (wZ A ps xs)
def but (A:σ->α->As) (ps:List σ) (xs:List α) (i:Nat):As:=aB ((wZ A ps xs).eraseIdx i)
variable {l:List As} {h:Hp} {ps:List σ} {xs:List α}
theorem star_shut {m:List As} (s:aB (m++l) h):aB (aB m::l) h:=by
 obtain ⟨h1,h2,d,e,s1,s2⟩:=fB.1 s;exact ⟨h1,h2,d,e,s1,s2⟩
theorem jT {i:Nat} {p:σ} {x:α} (hp:ps[i]? = some p) (hx:xs[i]? = some x) (s:aB (all A ps xs::l) h):aB (A p x::but A ps xs i::l) h:=by
 obtain ⟨h1,h2,d,e,a,s'⟩:=s;have:=hH (objs_get (A:=A) hp hx) a;obtain ⟨h3,h4,d',e',a',s4⟩:=this;subst e';obtain ⟨d1,d2⟩:=Dj.of_un_left d;exact ⟨h3,un h4 h2,Dj.un_right d' d1,by rw [e,nA],a',h4,h2,d2,rfl,s4,s'⟩
theorem yD {i:Nat} {p:σ} {y:α} (hp:ps[i]? = some p) (hi:i < xs.length) (hl:ps.length = xs.length) (s:aB (A p y::but A ps xs i::l) h):aB (all A ps (xs.set i y)::l) h:=by
 obtain ⟨h1,h2,d,e,a,h3,h4,d',e',b,s'⟩:=s;subst e';obtain ⟨d1,d2⟩:=Dj.of_un_right d;refine ⟨un h1 h3,h4,Dj.un_left d2 d',by rw [e,nA],?_,s'⟩;have:=ff (A:=A p y) (l:=wZ A ps xs) (i:=i) (by rw [objs_len hl]; exact hi) ⟨h1,h3,d1,rfl,a,b⟩;rw [objs_set hp] at this;exact this
theorem all_in2 {i:Nat} {p:σ} {y:α} (hi:i < xs.length) (hl:ps.length = xs.length) (s:aB (A p y::but A ps xs i::l) h):aB (all A (ps.set i p) (xs.set i y)::l) h:=by
 obtain ⟨h1,h2,d,e,a,h3,h4,d',e',b,s'⟩:=s;subst e';obtain ⟨d1,d2⟩:=Dj.of_un_right d;refine ⟨un h1 h3,h4,Dj.un_left d2 d',by rw [e,nA],?_,s'⟩;have:=ff (A:=A p y) (l:=wZ A ps xs) (i:=i) (by rw [objs_len hl]; exact hi) ⟨h1,h3,d1,rfl,a,b⟩;rw [objs_set2 hi] at this;exact this
theorem jp {α:Type} {xs:List α} {i:Nat} {x:α} (hx:xs[i]? = some x):xs.set i x = xs:=by
 apply List.ext_getElem?;intro n;rw [List.getElem?_set];by_cases e:i = n
 ·subst e;obtain ⟨h1,h2⟩:=List.getElem?_eq_some_iff.1 hx;simp [h1,h2]
 ·simp [e]
theorem xt {i:Nat} {p:σ} {x:α} (hp:ps[i]? = some p) (hx:xs[i]? = some x) (hl:ps.length = xs.length) (s:aB (A p x::but A ps xs i::l) h):aB (all A ps xs::l) h:=by
 have:=yD hp (List.getElem?_eq_some_iff.1 hx).1 hl s
 rwa [jp hx] at this
theorem all_nil:aB l h->aB (all A [] []::l) h:=fun s=>star_cons (fun _=>trivial) s
theorem all_push {p:σ} {x:α} (hl:ps.length = xs.length) (s:aB (A p x::all A ps xs::l) h):aB (all A (ps++[p]) (xs++[x])::l) h:=by
 refine star_shut ?_;rw [objs_append p x hl];have s1:=li (.swap _ _ _) s;have s2:=dH s1;exact li (by simp) s2
end
theorem xA {A:As} {h:Hp} (a:A h):aB [A] h:=⟨h,emp,Dj.emp_right _,(un_emp _).symm,a,trivial⟩
section
variable {P:Program} {l:List As} {h:Hp} {τ:Type} {f:FuncId} {args:List Value} {enc:τ->Value} {K:τ->Hp->Prop} {i:Nat} {A:As}
theorem bM {φ:τ->Prop} {A':τ->As} (c:Sp P f args enc [A] (fun r=>pa_ (φ r) [A' r])) (hi:l[i]? = some A) (s:aB l h) (k:∀ r h',φ r->aB (l.set i (A' r)) h'->K r h'):cl P f args enc K h:=by
 obtain ⟨h1,h2,d,rfl,a,s'⟩:=hH hi s;refine (c h1 (xA a)).frame_mono d rfl fun v h' ⟨r,hv,q⟩ dj=>⟨r,hv,?_⟩
 obtain ⟨g1,q⟩:=q;refine k r _ g1 (ff (List.getElem?_eq_some_iff.1 hi).1 ?_);exact mJ (l:=[A' r]++l.eraseIdx i) (by rw [append_nil]; exact fB.2 ⟨h',h2,dj,rfl,q,s'⟩)
theorem xo {B A':τ->As} (c:Sp P f args enc [A] (fun r=>aB [B r,A' r])) (hi:l[i]? = some A) (s:aB l h) (k:∀ r h',aB (B r::l.set i (A' r)) h'->K r h'):cl P f args enc K h:=by
 obtain ⟨h1,h2,d,rfl,a,s'⟩:=hH hi s;refine (c h1 (xA a)).frame_mono d rfl fun v h' ⟨r,hv,q⟩ dj=>⟨r,hv,k r _ ?_⟩
 have s1:aB (B r::A' r::l.eraseIdx i) (un h' h2):=(fB (l:=[B r,A' r])).2 ⟨h',h2,dj,rfl,q,s'⟩;obtain ⟨g1,g2,d2,e2,b,s2⟩:=s1;exact ⟨g1,g2,d2,e2,b,ff (List.getElem?_eq_some_iff.1 hi).1 s2⟩
theorem cl_p {φ:τ->Prop} {B A':τ->As} (c:Sp P f args enc [A] (fun r=>pa_ (φ r) [B r,A' r])) (hi:l[i]? = some A) (s:aB l h) (k:∀ r h',φ r->aB (B r::l.set i (A' r)) h'->K r h'):cl P f args enc K h:=by
 obtain ⟨h1,h2,d,rfl,a,s'⟩:=hH hi s;refine (c h1 (xA a)).frame_mono d rfl fun v h' ⟨r,hv,q⟩ dj=>⟨r,hv,?_⟩
 obtain ⟨g0,q⟩:=q;refine k r _ g0 ?_;have s1:aB (B r::A' r::l.eraseIdx i) (un h' h2):=(fB (l:=[B r,A' r])).2 ⟨h',h2,dj,rfl,q,s'⟩;obtain ⟨g1,g2,d2,e2,b,s2⟩:=s1;exact ⟨g1,g2,d2,e2,b,ff (List.getElem?_eq_some_iff.1 hi).1 s2⟩
theorem uM {φ:τ->Prop} (c:Sp P f args enc [] (fun r=>pa_ (φ r) [])) (s:aB l h) (k:∀ r h',φ r->aB l h'->K r h'):cl P f args enc K h :=
 cZ [] c s rfl fun r h' s1=>by
  obtain ⟨f1,s2⟩:=bt.1 s1;exact k r h' f1 s2
theorem mD {B:τ->As} (c:Sp P f args enc [] (fun r=>aB [B r])) (s:aB l h) (k:∀ r h',aB (B r::l) h'->K r h'):cl P f args enc K h :=
 cZ [] c s rfl fun r h' s1=>k r h' (dH s1)
end
end Mb
end
section
open Go Mb
def sh_caps_Tree_is (a0:Ptr) (a1:Int) (a2:Int) (K:kT Bool):hT:=br (decide (a1 >= 0)) ( nn a0 fun q12=>ld (q12.1,q12.2 + 0) cS fun x14=>K (((decide (a1 < (x14.len:Int))) && (decide (a2 >= 0))) && (decide (a2 < 8)))) ( K false)
theorem sim_caps_Tree_is (a0:Ptr) (a1:Int) (a2:Int) {K:kT Bool} {h:Hp} (H:sh_caps_Tree_is a0 a1 a2 K h):cl prog iS [(pv a0),(.int .i64 a1),(.int .i64 a2)] aC K h:=z_i func139 p p fun _=>O<|U p<|O<|M p<|J (kx p p)<|M p<|W p p (ay _) (fun g1=>wv<|ai p)<|W p p (ay _) (fun g2=>wv<|ai p)<|bW H (fun k4 H5=>bI H5 fun q12 e6 H7=>G (F k4)<|z_p (aL<|aJ (aD p k4)<|ar e6)<|G (F k4)<|z_p (ae iJ p)<|G (F k4)<|aW H7 qT p (fun _=>p) p fun x14 H8=>G (F k4)<|z_p (dK p underlying195 p)<|G (F k4)<|z_p (cn (aD p k4) p)<|J (aU p k4 p)<|M p<|W p p (ay _) (fun g9=>wv<|ai p)<|W p p (ay _) (fun g10=>wv<|kx (aD p g10) p)<|J (bO p p)<|M p<|W p p (ay _) (fun g11=>wv<|ai p)<|W p p (ay _) (fun g12=>wv<|cn (aD p g12) p)<|J (bO p p)<|U p<|aj<|Z ⟨(((decide (a1 < (x14.len:Int))) && (decide (a2 >= 0))) && (decide (a2 < 8))),p,H8⟩) fun k4 H5=>Y (aS k4)<|Y (aS k4)<|Y (aS k4)<|Y (aS k4)<|Y (aS k4)<|J (au p k4 p)<|M p<|Y p<|Y p<|J (au p p p)<|M p<|Y p<|Y p<|J (au p p p)<|U p<|aj<|Z ⟨false,p,H5⟩
def jl (a0:Ptr) (a1:Int) (a2:Int) (K:kT (aA × Bool)) (s1:Bool):hT:=br s1 ( K ((⟨0,0,0,0⟩:aA),false)) ( nn a0 fun q32=>ld (q32.1,q32.2 + 0) cS fun x34=>ix x34 a1 fun q37=>gd (0 <= a2/\a2 < 8)<|ld (q37.1,q37.2 + Int.toNat a1 * 32 + Int.toNat a2 * 4) aA.C fun x39=>K (x39,true))
def sh_caps_Tree_At (a0:Ptr) (a1:Int) (a2:Int) (K:kT (aA × Bool)):hT:=br (!a0.isNone) ( cl prog iS [(pv a0),(.int .i64 a1),(.int .i64 a2)] aC fun r14=>br (!(!r14)) ( nn a0 fun q19=>ld (q19.1,q19.2 + 0) cS fun x21=>ix x21 a1 fun q24=>gd (0 <= a2/\a2 < 8)<|ld (q24.1,q24.2 + Int.toNat a1 * 32 + Int.toNat a2 * 4 + 1) (cI .i64) fun x27=>jl a0 a1 a2 K (x27 == 0)) ( jl a0 a1 a2 K true)) ( jl a0 a1 a2 K true)
theorem sim_caps_Tree_At (a0:Ptr) (a1:Int) (a2:Int) {K:kT (aA × Bool)} {h:Hp} (H:sh_caps_Tree_At a0 a1 a2 K h):cl prog eO [(pv a0),(.int .i64 a1),(.int .i64 a2)] cC K h:=z_i func91 p p fun _=>O<|aa<|aI (l:=aA.C (⟨0,0,0,0⟩:aA)) gO p p fun b6=>U p<|am<|eu (jl a0 a1 a2 K) (fun s1=>[(0,(pv a0)),(1,(.int .i64 a1)),(2,(.int .i64 a2)),(6,(.pointer (some ⟨b6,0,none⟩))),(29,(.bool s1))]) (fun s1=>[bx b6 51 (aA.C (⟨0,0,0,0⟩:aA))]) (aq<|M p<|J (cD underlying134 p)<|M p<|W p p (aN _) (fun g14=>wv<|ai p)<|W p p (aN _) (fun g15=>wv<|ai p)<|W p p (aN _) (fun g16=>wv<|ai p)<|bW H (fun k18 H19=>G (F<|cm k18)<|gQ H19 en_139 (aV (aD p k18)<|aV (aD p k18)<|aV (aD p k18) bU) p fun r14 _ H20=>G (F<|cm k18)<|z_p (cy p)<|J (au p (cm k18) p)<|M p<|W p p (aN _) (fun g21=>wv<|ai p)<|bW H20 (fun k23 H24=>bI H24 fun q19 e25 H26=>G (F<|cm k23)<|z_p (aL<|aJ (aD p k23)<|ar e25)<|G (F<|cm k23)<|z_p (ae iJ p)<|G (F<|cm k23)<|aW H26 qT p (fun _=>p) p fun x21 H27=>G (F<|cm k23)<|z_p (ai p)<|G (F<|cm k23)<|z_p (ai p)<|cz H27 fun q24 e28 h29 H30=>G (F<|cm k23)<|z_p (bf pt (aJ p<|aX e28) p h29)<|ji H30 fun h31 H32=>G (F<|cm k23)<|z_p (bD rq p p h31)<|G (F<|cm k23)<|z_p (ae ij p)<|G (F<|cm k23)<|aW H32 bc p (fun _=>p) p fun x27 H33=>G (F<|cm k23)<|z_p (bP p p)<|J (au p (cm k23) p)<|ad<|cE (x27 == 0) H33 (.cons p<|.cons p<|.cons p<|.cons p<|.cons p<|.nil _)<|.cons_cons _ .slnil) fun k23 H24=>Y (cf<|bK k23)<|Y (cf<|bK k23)<|Y (cf<|bK k23)<|Y (cf<|bK k23)<|Y (cf<|bK k23)<|Y (cf<|bK k23)<|Y (cf<|bK k23)<|Y (cf<|bK k23)<|Y (cf<|bK k23)<|Y (cf<|bK k23)<|J (aU p (bK k23) p)<|ad<|cE true H24 (.cons p<|.cons p<|.cons p<|.cons p<|.cons p<|.nil _)<|.cons_cons _ .slnil) fun k18 H19=>Y (cf<|bK k18)<|Y (cf<|bK k18)<|J (aU p (bK k18) p)<|M p<|Y p<|Y p<|Y p<|Y p<|Y p<|Y p<|Y p<|Y p<|Y p<|Y p<|Y p<|J (aU p p p)<|ad<|cE true H19 (.cons p<|.cons p<|.cons p<|.cons p<|.cons p<|.nil _)<|.cons_cons _ .slnil) fun s1 _ H2=>aw p H2 (fun k3 H4=>O<|J (aZ (vs:=[]) p build_51)<|aa<|aP (k:=0) (vs:=aA.C (⟨0,0,0,0⟩:aA)) ge p p p p p p p<|U p<|aj<|bB (bR p (bG (k:=0) p xu p p)<|cd p) ⟨((⟨0,0,0,0⟩:aA),false),p,H4⟩) fun k3 H4=>an<|O<|M p<|bI H4 fun q32 e5 H6=>J (aL<|aJ p<|ar e5)<|J (ae iJ p)<|aa<|aW H6 qT p (fun _=>p) p fun x34 H7=>M p<|M p<|cz H7 fun q37 e8 h9 H10=>J (bf pt (aJ p<|aX e8) p h9)<|ji H10 fun h11 H12=>J (bD rq p p h11)<|aa<|hG H12 xu p (fun _=>p) p fun x39 H13=>aa<|aP (k:=0) (vs:=aA.C x39) ge p p p p p p p<|U p<|aj<|bB (bR p (bG (k:=0) p xu p p)<|cd p) ⟨(x39,true),p,H13⟩
def vt (a0:Ptr) (a1:Int) (a2:Int) (a3:Int) (K:kT Int):hT:=br a0.isNone ( K 10) ( cl prog iS [(pv a0),(.int .i64 a1),(.int .i64 a2)] aC fun r16=>br (((!r16) || (decide (a3 < 0))) || (decide (a3 >= 16))) ( K 2) ( nn a0 fun q28=>ld (q28.1,q28.2 + 0) cS fun x30=>ix x30 a1 fun q33=>gd (0 <= a2/\a2 < 8)<|ld (q33.1,q33.2 + Int.toNat a1 * 32 + Int.toNat a2 * 4 + 1) (cI .i64) fun x36=>br (x36 != 0) ( K 4) ( ld (q28.1,q28.2 + 0) cS fun x41=>ix x41 a1 fun q46=>st (q46.1,q46.2 + Int.toNat a1 * 32 + Int.toNat a2 * 4) (aA.C (⟨a3,3,(-1),0⟩:aA))<|K 0)))
theorem sim_caps_Tree_Root (a0:Ptr) (a1:Int) (a2:Int) (a3:Int) {K:kT Int} {h:Hp} (H:vt a0 a1 a2 a3 K h):cl prog kj [(pv a0),(.int .i64 a1),(.int .i64 a2),(.int .i64 a3)] bj K h:=z_i func99 p p fun _=>O<|U p<|am<|ax<|O<|M p<|J (cD underlying134 p)<|U p<|aw p H (fun k1 H2=>O<|U p<|aj<|Z ⟨10,p,H2⟩) fun k1 H2=>O<|M p<|M p<|M p<|aa<|D H2 en_139 fun r16 _ H3=>J (cy p)<|M p<|W p p (aN _) (fun g4=>wv<|ai p)<|W p p (aN _) (fun g5=>wv<|cn (aD p g5) p)<|J (dC p p)<|M p<|W p p (aN _) (fun g6=>wv<|ai p)<|W p p (aN _) (fun g7=>wv<|kx (aD p g7) p)<|J (dC p p)<|U p<|aw p H3 (fun k8 H9=>O<|U p<|aj<|Z ⟨2,p,H9⟩) fun k8 H9=>O<|M p<|bI H9 fun q28 e10 H11=>J (aL<|aJ p<|ar e10)<|J (ae iJ p)<|aa<|aW H11 qT p (fun _=>p) p fun x30 H12=>M p<|M p<|cz H12 fun q33 e13 h14 H15=>J (bf pt (aJ p<|aX e13) p h14)<|ji H15 fun h16 H17=>J (bD rq p p h16)<|J (ae ij p)<|aa<|aW H17 bc p (fun _=>p) p fun x36 H18=>J (nY p p)<|U p<|aw p H18 (fun k19 H20=>O<|U p<|aj<|Z ⟨4,p,H20⟩) fun k19 H20=>an<|O<|M (aJ p<|ar e10)<|J (aL p)<|J (ae iJ p)<|aa<|aW H20 qT p (fun _=>p) p fun x41 H21=>M p<|M p<|M p<|J (aZ p<|build_51_0_1_2 a3 3 (-1))<|cz H21 fun q46 e22 h23 H24=>J (bf pt (aJ p<|aX e22) p h23)<|J (bD rq p p h16)<|aa<|dv ge p p p p p H24 fun _ H25=>ad<|O<|U p<|aj<|Z ⟨0,p,H25⟩
def sS (a0:Ptr) (a1:Int) (a2:Int) (a3:Int) (a4:Int) (a5:Int) (K:kT Int):hT:=br a0.isNone ( K 10) ( cl prog iS [(pv a0),(.int .i64 a1),(.int .i64 a2)] aC fun r19=>br (!(!r19)) ( cl prog iS [(pv a0),(.int .i64 a3),(.int .i64 a4)] aC fun r25=>br ((!r25) || (!(ch a5))) ( K 2) ( nn a0 fun q34=>ld (q34.1,q34.2 + 0) cS fun x36=>ix x36 a1 fun q39=>gd (0 <= a2/\a2 < 8)<|ld (q39.1,q39.2 + Int.toNat a1 * 32 + Int.toNat a2 * 4) aA.C fun x41=>br (x41.fBa == 0) ( K 3) ( ld (q34.1,q34.2 + 0) cS fun x50=>ix x50 a3 fun q53=>gd (0 <= a4/\a4 < 8)<|ld (q53.1,q53.2 + Int.toNat a3 * 32 + Int.toNat a4 * 4 + 1) (cI .i64) fun x56=>br (x56 != 0) ( K 4) ( br (!(aO a5 x41.fBa)) ( K 5) ( ld (q34.1,q34.2 + 0) cS fun x67=>ix x67 a3 fun q76=>st (q76.1,q76.2 + Int.toNat a3 * 32 + Int.toNat a4 * 4) (aA.C (⟨x41.fEa,a5,a1,a2⟩:aA))<|K 0))))) ( K 2))
theorem sim_caps_Tree_Derive (a0:Ptr) (a1:Int) (a2:Int) (a3:Int) (a4:Int) (a5:Int) {K:kT Int} {h:Hp} (H:sS a0 a1 a2 a3 a4 a5 K h):cl prog iT [(pv a0),(.int .i64 a1),(.int .i64 a2),(.int .i64 a3),(.int .i64 a4),(.int .i64 a5)] bj K h:=z_i func100 p p fun _=>O<|U p<|am<|O<|M p<|J (cD underlying134 p)<|ad<|aw p H (fun k1 H2=>O<|U p<|aj<|Z ⟨10,p,H2⟩) fun k1 H2=>an<|am<|O<|M p<|M p<|M p<|aa<|D H2 en_139 fun r19 _ H3=>J (cy p)<|M p<|W p p (aN _) (fun g4=>wv<|ai p)<|W p p (aN _) (fun g5=>wv<|ai p)<|W p p (aN _) (fun g6=>wv<|ai p)<|bW H3 (fun k8 H9=>G (F<|cm k8)<|gQ H9 en_139 (aV (aD p k8)<|aV (aD p k8)<|aV (aD p k8) bU) p fun r25 _ H10=>G (F<|cm k8)<|z_p (cy p)<|J (au p (cm k8) p)<|M p<|W p p (aN _) (fun g11=>wv<|ai p)<|dm (vs:=[(.int .i64 a5)]) p p p (aN _) (fun g12=>bC<|re a5 _) en_112 (fun g12=>aV (aD p g12) bU) p<|W p p (aN _) (fun g13=>wv<|cy<|aD p g13)<|J (dC p p)<|ad<|aw p H10 (fun k14 H15=>O<|U p<|aj<|Z ⟨2,p,H15⟩) fun k14 H15=>an<|O<|M p<|bI H15 fun q34 e16 H17=>J (aL<|aJ p<|ar e16)<|J (ae iJ p)<|aa<|aW H17 qT p (fun _=>p) p fun x36 H18=>M p<|M p<|cz H18 fun q39 e19 h20 H21=>J (bf pt (aJ p<|aX e19) p h20)<|ji H21 fun h22 H23=>J (bD rq p p h22)<|aa<|hG H23 xu p (fun _=>p) p fun x41 H24=>aa<|aI (l:=aA.C (⟨0,0,0,0⟩:aA)) gO p p fun b13=>aa<|aP (k:=0) (vs:=aA.C x41) ge p p p p p p p<|ad<|am<|ax<|O<|J (ae ij p)<|bn (be (k:=0) bc p p p) p<|J (bP p p)<|U p<|aw p H24 (fun k25 H26=>O<|U p<|aj<|Z ⟨3,p,H26⟩) fun k25 H26=>O<|M (aJ p<|ar e16)<|J (aL p)<|J (ae iJ p)<|aa<|aW H26 qT p (fun _=>p) p fun x50 H27=>M p<|M p<|cz H27 fun q53 e28 h29 H30=>J (bf pt (aJ p<|aX e28) p h29)<|ji H30 fun h31 H32=>J (bD rq p p h31)<|J (ae ij p)<|aa<|aW H32 bc p (fun _=>p) p fun x56 H33=>J (nY p p)<|U p<|aw p H33 (fun k34 H35=>O<|U p<|aj<|Z ⟨4,p,H35⟩) fun k34 H35=>O<|M p<|J (ae ij p)<|bn (be (k:=0) bc p p p) p<|aa<|cW (vs:=[(.int .i64 a5),(.int .i64 x41.fBa)]) (bC<|du a5 x41.fBa _) sV p p<|J (cy p)<|U p<|aw p H35 (fun k36 H37=>O<|U p<|aj<|Z ⟨5,p,H37⟩) fun k36 H37=>an<|am<|bo (n:=15) [bx b13 51 (aA.C x41)] cu p (.cons_cons _ .slnil)<|V 0 p (ai<|aJ p<|ar e16)<|V 1 p (aL p)<|V 2 p (ae iJ p)<|V 4 p (ai p)<|V 5 p (ai p)<|V 6 p (ae uw p)<|z_E 7 p (dw (k:=0) bc p p p)<|V 8 p (ai p)<|V 9 p (ai p)<|V 10 p (ai p)<|V 11 p (aZ p<|build_51_0_1_2_3 x41.fEa a5 a1 a2)<|bz (i:=3) (fun _ _ _ _ hh=>hh) H37 p (by kernel_rfl) qT p (fun _=>p) p fun x67 H38=>dU H38 fun q76 e39 h40 H41=>V 12 p (bf pt (aJ p<|aX e39) p h40)<|V 13 p (bD rq p p h31)<|I 14 p<|dv ge p p p p p H41 fun _ H42=>⟨.cons_cons _ .slnil,aR (by kernel_rfl)<|O<|U p<|aj<|Z ⟨0,p,H42⟩⟩) fun k8 H9=>Y (cf<|bK k8)<|Y (cf<|bK k8)<|J (aU p (bK k8) p)<|M p<|Y p<|Y p<|Y p<|J (aU p p p)<|ad<|ny p p<|O<|U p<|aj<|Z ⟨2,p,H9⟩
def iK (s6:Sl × Int) (Rec18:kT (Sl × Int)) (s17:Sl × Int) (s23:Bool):hT:=br s23 ( hpv prog (Instr.buildSlice iD 1 #[(0,(.agg (aH.C (⟨s6.2,s17.2⟩:aH)).toArray))]) df fun (v45:Sl)=>hpv prog (Builtin.append_ #[iD,iD] iD #[(sv s17.1),(sv v45)]) df fun (v46:Sl)=>Rec18 (v46,(i64.wrap (s17.2 + 1)))) ( Rec18 (s17.1,(i64.wrap (s17.2 + 1))))
def rf (a1:Value) (Rec7:kT (Sl × Int)) (s6:Sl × Int) (v26:(List Value)) (Rec18:kT (Sl × Int)) (s17:Sl × Int):hT:=br (decide (s17.2 < 8)) ( hpv prog (Instr.index lW (.agg v26.toArray) (.int .i64 s17.2)) R_api_Cap fun (v30:aA)=>br (v30.fBa != 0) ( clv prog a1 [(.agg (aH.C (⟨s6.2,s17.2⟩:aH)).toArray),(.agg (aA.C v30).toArray)] aC fun r41=>iK s6 Rec18 s17 r41) ( iK s6 Rec18 s17 false)) ( Rec7 (s17.1,(i64.wrap (s6.2 + 1))))
def rg (a1:Value) (K:kT Sl) (q13:Nat × Nat) (x15:Sl) (Rec7:kT (Sl × Int)) (s6:Sl × Int):hT:=br (decide (s6.2 < (x15.len:Int))) ( ld (q13.1,q13.2 + 0) cS fun x23=>ix x23 s6.2 fun q25=>hpv prog (Instr.loadAt lW (.pointer (some ⟨q25.1,q25.2 + Int.toNat s6.2 * 32,none⟩))) encL fun (v26:(List Value))=>Lp (rf a1 Rec7 s6 v26) (s6.1,0)) ( K s6.1)
def wU (a0:Ptr) (a1:Value) (K:kT Sl):hT:=br a0.isNone ( K (⟨none,0,0,none⟩:Sl)) ( nn a0 fun q13=>ld (q13.1,q13.2 + 0) cS fun x15=>Lp (rg a1 K q13 x15) ((⟨none,0,0,none⟩:Sl),0))
theorem sim_caps_Tree_all (a0:Ptr) (a1:Value) {K:kT Sl} {h:Hp} (H:wU a0 a1 K h):cl prog la [(pv a0),a1] df K h:=z_i func145 p p fun _=>O<|U p<|am<|O<|M p<|J (cD underlying134 p)<|ad<|aw p H (fun k1 H2=>O<|U p<|aj<|Z ⟨(⟨none,0,0,none⟩:Sl),p,H2⟩) fun k1 H2=>an<|O<|U p<|am<|O<|M p<|bI H2 fun q13 e3 H4=>J (aL<|aJ p<|ar e3)<|J (ae iJ p)<|aa<|aW H4 qT p (fun _=>p) p fun x15 H5=>J (dK p underlying195 p)<|M p<|ad<|ax<|bv (step:=rg a1 K q13 x15) (fun s6=>[(0,(pv a0)),(1,a1),(5,(sv s6.1)),(16,(.int .i64 (x15.len:Int))),(17,(.int .i64 s6.2))]) (fun s6=>[]) H5 (.cons p<|.cons p<|.cons p<|.cons p<|.cons p<|.nil _) .slnil fun Rec7 s6 _ H8=>O<|J (cn p p)<|ad<|am<|aw p H8 (fun k9 H10=>an<|am<|ax<|O<|M p<|U p<|O<|M (aJ p<|ar e3)<|J (aL p)<|J (ae iJ p)<|aa<|aW H10 qT p (fun _=>p) p fun x23 H11=>M p<|cz H11 fun q25 e12 h13 H14=>J (bf pt (aJ p<|aX e12) p h13)<|aa<|aT H14 (x_load p) p fun v26 _ H16=>M p<|ad<|ax<|bv (step:=rf a1 Rec7 s6 v26) (fun s17=>[(0,(pv a0)),(1,a1),(5,(sv s17.1)),(6,(.int .i64 s6.2)),(16,(.int .i64 (x15.len:Int))),(17,(.int .i64 s6.2)),(26,(.agg v26.toArray)),(27,(.int .i64 s17.2))]) (fun s17=>[]) H16 (.cons p<|.cons p<|.cons p<|.cons p<|.cons p<|.cons p<|.cons p<|.cons p<|.nil _) .slnil fun Rec18 s17 _ H19=>O<|J (cn p p)<|ad<|am<|aw p H19 (fun k20 H21=>an<|am<|ax<|O<|M p<|aa<|aT H21 (x_index p p) p fun v30 _ H22=>aa<|aI (l:=aA.C (⟨0,0,0,0⟩:aA)) gO p p fun b8=>J (av p)<|aa<|aP (k:=0) (vs:=aA.C v30) ge p p p p p p p<|ad<|O<|M p<|M p<|J (aZ p<|wx s6.2 s17.2)<|aa<|aI (l:=aH.C (⟨0,0⟩:aH)) zero_192 p p fun b9=>aa<|aP (k:=0) (vs:=aH.C (⟨s6.2,s17.2⟩:aH)) inf_192 p p p p p p p<|ad<|eu (iK s6 Rec18 s17) (fun s23=>[(0,(pv a0)),(1,a1),(5,(sv s17.1)),(6,(.int .i64 s6.2)),(9,(.pointer (some ⟨b9,0,none⟩))),(16,(.int .i64 (x15.len:Int))),(17,(.int .i64 s6.2)),(26,(.agg v26.toArray)),(27,(.int .i64 s17.2)),(42,(.bool s23))]) (fun s23=>[bx b9 192 (aH.C (⟨s6.2,s17.2⟩:aH))]) (aq<|J (ae ij p)<|bn (be (k:=1) bc p p p) p<|J (nY p p)<|M p<|W p p (ay _) (fun g29=>wv<|ai p)<|W p p (ay _) (fun g30=>cv<|bH (k:=0) ag_192 p p p p)<|W p p (ay _) (fun g31=>cv<|bH (k:=1) xu p p p p)<|bW H22 (fun k33 H34=>G (F k33)<|to_clv H34 (aD p k33) (aV (aD p k33)<|aV (aD p k33) bU) p fun r41 _ H35=>J (aU p k33 p)<|ad<|cE r41 H35 (.cons p<|.cons p<|.cons p<|.cons p<|.cons p<|.cons p<|.cons p<|.cons p<|.cons p<|.cons p<|.nil _)<|.cons_cons _<|.cons _ .slnil) fun k33 H34=>Y (aS k33)<|J (au p k33 p)<|ad<|cE false H34 (.cons p<|.cons p<|.cons p<|.cons p<|.cons p<|.cons p<|.cons p<|.cons p<|.cons p<|.cons p<|.nil _)<|.cons_cons _<|.cons _ .slnil) fun s23 _ H24=>aw p H24 (fun k25 H26=>aq<|M p<|bn (bH (k:=0) ag_192 p p p p) p<|aa<|aT H26 (bw (vs:=[(.agg (aH.C (⟨s6.2,s17.2⟩:aH)).toArray)]) p) p fun v45 _ H27=>aa<|aT H27 (dS p p) p fun v46 _ H28=>U p<|aq<|J (bk p p)<|M p<|ad<|cF (v46,(i64.wrap (s17.2 + 1))) H28 (.cons p<|.cons p<|.cons p<|.cons p<|.cons p<|.cons p<|.cons p<|.cons p<|.nil _)<|.cons _ .slnil) fun k25 H26=>an<|aq<|J (bk p p)<|M p<|ad<|cF (s17.1,(i64.wrap (s17.2 + 1))) H26 (.cons p<|.cons p<|.cons p<|.cons p<|.cons p<|.cons p<|.cons p<|.cons p<|.nil _)<|.cons _ .slnil) fun k20 H21=>bh<|aq<|J (bk p p)<|M p<|ad<|cF (s17.1,(i64.wrap (s6.2 + 1))) H21 (.cons p<|.cons p<|.cons p<|.cons p<|.cons p<|.nil _) .slnil) fun k9 H10=>bh<|O<|M p<|U p<|aj<|Z ⟨s6.1,p,H10⟩
def vr (a0:Ptr) (a1:Int) (a2:Int) (K:kT Int):hT:=br a0.isNone ( K 10) ( cl prog iS [(pv a0),(.int .i64 a1),(.int .i64 a2)] aC fun r14=>br (!r14) ( K 2) ( nn a0 fun q18=>ld (q18.1,q18.2 + 0) cS fun x20=>ix x20 a1 fun q23=>gd (0 <= a2/\a2 < 8)<|ld (q23.1,q23.2 + Int.toNat a1 * 32 + Int.toNat a2 * 4 + 1) (cI .i64) fun x26=>br (x26 == 0) ( K 3) ( K 0)))
theorem sim_caps_Tree_look (a0:Ptr) (a1:Int) (a2:Int) {K:kT Int} {h:Hp} (H:vr a0 a1 a2 K h):cl prog nc [(pv a0),(.int .i64 a1),(.int .i64 a2)] bj K h:=z_i func161 p p fun _=>O<|U p<|am<|ax<|O<|M p<|J (cD underlying134 p)<|U p<|aw p H (fun k1 H2=>O<|U p<|aj<|Z ⟨10,p,H2⟩) fun k1 H2=>O<|M p<|M p<|M p<|aa<|D H2 en_139 fun r14 _ H3=>J (cy p)<|U p<|aw p H3 (fun k4 H5=>O<|U p<|aj<|Z ⟨2,p,H5⟩) fun k4 H5=>O<|M p<|bI H5 fun q18 e6 H7=>J (aL<|aJ p<|ar e6)<|J (ae iJ p)<|aa<|aW H7 qT p (fun _=>p) p fun x20 H8=>M p<|M p<|cz H8 fun q23 e9 h10 H11=>J (bf pt (aJ p<|aX e9) p h10)<|ji H11 fun h12 H13=>J (bD rq p p h12)<|J (ae ij p)<|aa<|aW H13 bc p (fun _=>p) p fun x26 H14=>J (bP p p)<|U p<|aw p H14 (fun k15 H16=>O<|U p<|aj<|Z ⟨3,p,H16⟩) fun k15 H16=>an<|O<|U p<|aj<|Z ⟨0,p,H16⟩
def mE (a0:Ptr) (a1:Sl) (K:kT Sl) (Rec2:kT Int) (s1:Int):hT:=br (decide (s1 < (a1.len:Int))) ( ix a1 s1 fun q11=>ld (q11.1,q11.2 + Int.toNat s1 * 2) aH.C fun x12=>nn a0 fun q14=>ld (q14.1,q14.2 + 0) cS fun x16=>ix x16 x12.fCa fun q22=>gd (0 <= x12.fDa/\x12.fDa < 8)<|st (q22.1,q22.2 + Int.toNat x12.fCa * 32 + Int.toNat x12.fDa * 4) (aA.C (⟨0,0,0,0⟩:aA))<|Rec2 (i64.wrap (s1 + 1))) ( K a1)
def rL (a0:Ptr) (a1:Sl) (K:kT Sl):hT:=Lp (mE a0 a1 K) 0
theorem sim_caps_Tree_empties (a0:Ptr) (a1:Sl) {K:kT Sl} {h:Hp} (H:rL a0 a1 K h):cl prog ie [(pv a0),(sv a1)] df K h:=z_i func162 p p fun _=>O<|U p<|am<|O<|M p<|J (dK p underlying161 p)<|M p<|ad<|ax<|bv (step:=mE a0 a1 K) (fun s1=>[(0,(pv a0)),(1,(sv a1)),(7,(sv a1)),(8,(.int .i64 (a1.len:Int))),(9,(.int .i64 s1))]) (fun s1=>[]) H (.cons p<|.cons p<|.cons p<|.cons p<|.cons p<|.nil _) .slnil fun Rec2 s1 _ H3=>O<|J (cn p p)<|ad<|am<|aw p H3 (fun k4 H5=>an<|am<|ax<|O<|cz H5 fun q11 e6 h7 H8=>J (bf slc_161 (aJ p<|aX e6) p h7)<|aa<|hG H8 ag_192 p (fun _=>p) p fun x12 H9=>aa<|aI (l:=aH.C (⟨0,0⟩:aH)) zero_192 p p fun b6=>aa<|aP (k:=0) (vs:=aH.C x12) inf_192 p p p p p p p<|ad<|bo (n:=12) [bx b6 192 (aH.C x12)] cu p (.cons_cons _ .slnil)<|V 0 p (ai p)<|V 4 p (ae fld_192_0 p)<|z_E 5 p (dw (k:=0) bc p p p)<|V 6 p (ae fld_192_1 p)<|z_E 7 p (dw (k:=0) bc p p p)<|V 8 p (aZ (vs:=[]) p build_51)<|iy H9 fun q14 e10 H11=>V 1 p (aL<|aJ p<|ar e10)<|V 2 p (ae iJ p)<|bz (i:=3) (fun _ _ _ _ hh=>hh) H11 p (by kernel_rfl) qT p (fun _=>p) p fun x16 H12=>dU H12 fun q22 e13 h14 H15=>V 9 p (bf pt (aJ p<|aX e13) p h14)<|eva_gd H15 fun h16 H17=>V 10 p (bD rq p p h16)<|I 11 p<|dv ge p p p p p H17 fun _ H18=>⟨.cons_cons _ .slnil,aR (by kernel_rfl)<|aq<|J (bk p p)<|M p<|ad<|cF (i64.wrap (s1 + 1)) H18 (.cons p<|.cons p<|.cons p<|.cons p<|.cons p<|.nil _)<|.cons _ .slnil⟩) fun k4 H5=>bh<|O<|M p<|U p<|aj<|Z ⟨a1,p,H5⟩
def oy (a0:Ptr) (a2:aH) (K:kT Bool) (Rec2:kT aA) (s1:aA):hT:=br ((s1.fBa != 0) && (decide (s1.fCa >= 0))) ( br ((s1.fCa == a2.fCa) && (s1.fDa == a2.fDa)) ( K true) ( nn a0 fun q28=>ld (q28.1,q28.2 + 0) cS fun x30=>ix x30 s1.fCa fun q35=>gd (0 <= s1.fDa/\s1.fDa < 8)<|ld (q35.1,q35.2 + Int.toNat s1.fCa * 32 + Int.toNat s1.fDa * 4) aA.C fun x37=>Rec2 x37)) ( K false)
def ua (a0:Ptr) (a1:aA) (a2:aH) (K:kT Bool):hT:=Lp (oy a0 a2 K) a1
theorem sim_caps_Tree_under (a0:Ptr) (a1:aA) (a2:aH) {K:kT Bool} {h:Hp} (H:ua a0 a1 a2 K h):cl prog lS [(pv a0),(.agg (aA.C a1).toArray),(.agg (aH.C a2).toArray)] aC K h:=z_i func147 p p fun _=>O<|aa<|cX (l:=aA.C a1) p p p fun b4=>aa<|cX (l:=aH.C a2) p p p fun b5=>U p<|am<|ax<|bv (step:=oy a0 a2 K) (fun s1=>[(0,(pv a0)),(4,(.pointer (some ⟨b4,0,none⟩))),(5,(.pointer (some ⟨b5,0,none⟩)))]) (fun s1=>[bx b5 192 (aH.C a2),bx b4 51 (aA.C s1)]) H (.cons p<|.cons p<|.cons p<|.nil _) (.cons_cons _<|.cons_cons _ .slnil) fun Rec2 s1 _ H3=>am<|O<|J (ae ij p)<|bn (be (k:=1) bc p p p) p<|J (nY p p)<|M p<|W p p (ay _) (fun g4=>wv<|ae rP p)<|W p p (ay _) (fun g5=>cv<|be (k:=1) bc (aD p g5) p p)<|W p p (ay _) (fun g6=>wv<|kx (aD p g6) p)<|J (bO p p)<|ad<|aw p H3 (fun k7 H8=>an<|ax<|am<|O<|J (ae rP p)<|bn (be (k:=1) bc p p p) p<|J (ae fld_192_0 p)<|bn (be (k:=0) bc p p p) p<|J (bP p p)<|M p<|W p p (ay _) (fun g9=>wv<|ae fld_51_3 p)<|W p p (ay _) (fun g10=>cv<|be (k:=1) bc (aD p g10) p p)<|W p p (ay _) (fun g11=>wv<|ae fld_192_1 p)<|W p p (ay _) (fun g12=>cv<|be (k:=0) bc (aD p g12) p p)<|W p p (ay _) (fun g13=>wv<|bP (aD p g13)<|aD p g13)<|J (bO p p)<|ad<|aw p H8 (fun k14 H15=>O<|U p<|aj<|Z ⟨true,p,H15⟩) fun k14 H15=>an<|bo (n:=12) [] cu p (.cons _<|.cons _ .slnil)<|V 0 p (ai p)<|V 4 p (ae rP p)<|V 6 p (ae fld_51_3 p)<|iy H15 fun q28 e16 H17=>V 1 p (aL<|aJ p<|ar e16)<|V 2 p (ae iJ p)<|bz (i:=3) (fun _ _ _ _ hh=>hh) H17 p (by kernel_rfl) qT p (fun _=>p) p fun x30 H18=>eva_load (i:=5) (fun _ _ _ _ hh=>hh) p (by kernel_rfl) p (be (k:=1) bc p p p)<|dU H18 fun q35 e19 h20 H21=>V 8 p (bf pt (aJ p<|aX e19) p h20)<|eva_load (i:=7) (fun _ _ _ _ hh=>hh) p (by kernel_rfl) p (be (k:=1) bc p p p)<|eva_gd H21 fun h22 H23=>V 9 p (bD rq p p h22)<|yu (i:=10) (fun _ _ _ _ hh=>hh) H23 p (by kernel_rfl) xu p (fun _=>p) p fun x37 H24=>I 11 p<|aP (k:=1) (vs:=aA.C x37) ge p p p p p p p ⟨.cons _<|.cons _ .slnil,aR (by kernel_rfl)<|cF x37 H24 (.cons p<|.cons p<|.cons p<|.nil _)<|.cons_cons _<|.cons_cons _ .slnil⟩) fun k7 H8=>bh<|O<|U p<|aj<|Z ⟨false,p,H8⟩
def rM (a0:aH) (a1:aA) (c0:Nat) (c1:Nat) (K:kT Bool):hT:=ld (c0,0) aH.C fun x8=>br (!(aH.eqb a0 x8)) ( ld (c1,0) cP fun x11=>ld (c0,0) aH.C fun x13=>cl prog lS [(pv x11),(.agg (aA.C a1).toArray),(.agg (aH.C x13).toArray)] aC fun r14=>K r14) ( K true)
theorem sim_caps_Tree_Drop_c1 (a0:aH) (a1:aA) (c0:Nat) (c1:Nat) {K:kT Bool} {h:Hp} (H:rM a0 a1 c0 c1 K h):cl prog ig [(.agg (aH.C a0).toArray),(.agg (aA.C a1).toArray),(.pointer (some ⟨c0,0,none⟩)),(.pointer (some ⟨c1,0,none⟩))] aC K h:=z_i func163 p p fun _=>O<|aa<|cX (l:=aH.C a0) p p p fun b4=>aa<|cX (l:=aA.C a1) p p p fun b5=>U p<|O<|bn (bH (k:=1) ag_192 p p p p) p<|aa<|hG H ag_192 p (fun _=>p) p fun x8 H1=>J (v_eqA eqg_192 (eqr_192 9998 _ _) p p)<|M p<|bW H1 (fun k3 H4=>G (F<|cm k3)<|aW H4 iO p (fun _=>p) p fun x11 H5=>G (F<|cm k3)<|uf (cv<|bH (k:=0) xu p p p p) p<|G (F<|cm k3)<|hG H5 ag_192 p (fun _=>p) p fun x13 H6=>G (F<|cm k3)<|D H6 en_147 fun r14 _ H7=>J (au p (cm k3) p)<|U p<|aj<|Z ⟨r14,p,H7⟩) fun k3 H4=>Y (cf<|bK k3)<|Y (cf<|bK k3)<|Y (cf<|bK k3)<|Y (cf<|bK k3)<|J (aU p (bK k3) p)<|U p<|aj<|Z ⟨true,p,H4⟩
def vu (a0:Ptr) (a1:Int) (a2:Int) (K:kT (Sl × Int)):hT:=nw ta [pv a0] fun b3=>ld (b3,0) cP fun x10=>cl prog nc [(pv x10),(.int .i64 a1),(.int .i64 a2)] bj fun r13=>br (r13 != 0) ( K ((⟨none,0,0,none⟩:Sl),r13)) ( nw sZ (aH.C (⟨0,0⟩:aH)) fun b9=>st (b9,0) (aH.C (⟨a1,a2⟩:aH))<|ld (b3,0) cP fun x21=>both ( ld (b3,0) cP fun x20=>cl prog la [(pv x21),(.func (.func ig) #[] #[(.pointer (some ⟨b9,0,none⟩)),(.pointer (some ⟨b3,0,none⟩))])] df fun r23=>cl prog ie [(pv x20),(sv r23)] df fun r24=>K (r24,0)) ( cl prog la [(pv x21),(.func (.func ig) #[] #[(.pointer (some ⟨b9,0,none⟩)),(.pointer (some ⟨b3,0,none⟩))])] df fun r23=>ld (b3,0) cP fun x20=>cl prog ie [(pv x20),(sv r23)] df fun r24=>K (r24,0)))
theorem sim_caps_Tree_Drop (a0:Ptr) (a1:Int) (a2:Int) {K:kT (Sl × Int)} {h:Hp} (H:vu a0 a1 a2 K h):cl prog ne [(pv a0),(.int .i64 a1),(.int .i64 a2)] dJ K h:=z_i func134 p p fun _=>O<|aa<|iL p p p H fun b3 _ H1=>J (av p)<|U p<|am<|O<|aa<|aW H1 iO p (fun _=>p) p fun x10 H2=>M p<|M p<|aa<|D H2 en_161 fun r13 _ H3=>U p<|O<|M p<|J (nY p p)<|ad<|aw p H3 (fun k4 H5=>O<|M p<|J (av p)<|U p<|aj<|bB (bR p (cd p)<|cd p) ⟨((⟨none,0,0,none⟩:Sl),r13),p,H5⟩) fun k4 H5=>an<|O<|M p<|M p<|J (aZ p<|wx a1 a2)<|aa<|to_alloc zero_192 p p H5 fun b9 _ H6=>aa<|dv inf_192 p p p p p H6 fun _ H7=>ad<|am<|bo (n:=7) [] cu p .slnil<|V 2 p (v_func p p)<|bz (i:=1) (fun _ _ _ _ hh=>hh) H7 p (by kernel_rfl) iO p (fun _=>p) p fun x21 H8=>kq H8 fun H9_1 H9_2=>kr (i:=0) (j:=3) (by kernel_rfl) (cR p p<|aW H9_1 iO p (fun _=>p) p fun x20 H10=>⟨.slnil,I 3 p<|D H10 en_145 fun r23 _ H11=>⟨.slnil,I 4 p<|D H11 en_162 fun r24 _ H12=>⟨.slnil,V 5 p (av p)<|V 6 p (av p)<|aR (by kernel_rfl)<|aj<|bB (bR p (cd p)<|cd p) ⟨(r24,0),p,H12⟩⟩⟩⟩)<|cR p p<|D H9_2 en_145 fun r23 _ H10=>⟨.slnil,bz (i:=0) (fun _ _ _ _ hh=>hh) H10 p (by kernel_rfl) iO p (fun _=>p) p fun x20 H11=>I 4 p<|D H11 en_162 fun r24 _ H12=>⟨.slnil,V 5 p (av p)<|V 6 p (av p)<|aR (by kernel_rfl)<|aj<|bB (bR p (cd p)<|cd p) ⟨(r24,0),p,H12⟩⟩⟩
def qD (a0:aH) (a1:aA) (c0:Nat) (c1:Nat) (c2:Nat) (K:kT Bool):hT:=ld (c0,0) cP fun x8=>ld (c1,0) (cI .i64) fun x10=>ld (c2,0) (cI .i64) fun x11=>cl prog lS [(pv x8),(.agg (aA.C a1).toArray),(.agg (aH.C (⟨x10,x11⟩:aH)).toArray)] aC fun r13=>K r13
theorem xU (a0:aH) (a1:aA) (c0:Nat) (c1:Nat) (c2:Nat) {K:kT Bool} {h:Hp} (H:qD a0 a1 c0 c1 c2 K h):cl prog mv [(.agg (aH.C a0).toArray),(.agg (aA.C a1).toArray),(.pointer (some ⟨c0,0,none⟩)),(.pointer (some ⟨c1,0,none⟩)),(.pointer (some ⟨c2,0,none⟩))] aC K h:=z_i func146 p p fun _=>O<|aa<|cX (l:=aH.C a0) p p p fun b5=>aa<|cX (l:=aA.C a1) p p p fun b6=>U p<|O<|aa<|aW H iO p (fun _=>p) p fun x8 H1=>bn (bH (k:=0) xu p p p p) p<|aa<|aW H1 bc p (fun _=>p) p fun x10 H2=>aa<|aW H2 bc p (fun _=>p) p fun x11 H3=>J (aZ p<|wx x10 x11)<|aa<|D H3 en_147 fun r13 _ H4=>U p<|aj<|Z ⟨r13,p,H4⟩
def ub (a0:Ptr) (a1:Int) (a2:Int) (K:kT Sl):hT:=nw ta [pv a0] fun b3=>nw lL [.int .i64 a1] fun b4=>nw lL [.int .i64 a2] fun b5=>ld (b3,0) cP fun x7=>cl prog la [(pv x7),(.func (.func mv) #[] #[(.pointer (some ⟨b3,0,none⟩)),(.pointer (some ⟨b4,0,none⟩)),(.pointer (some ⟨b5,0,none⟩))])] df fun r9=>K r9
theorem sim_caps_Tree_Below (a0:Ptr) (a1:Int) (a2:Int) {K:kT Sl} {h:Hp} (H:ub a0 a1 a2 K h):cl prog lT [(pv a0),(.int .i64 a1),(.int .i64 a2)] df K h:=z_i func104 p p fun _=>O<|aa<|iL p p p H fun b3 _ H1=>aa<|iL p p p H1 fun b4 _ H2=>aa<|iL p p p H2 fun b5 _ H3=>U p<|O<|aa<|aW H3 iO p (fun _=>p) p fun x7 H4=>J (v_func p p)<|aa<|D H4 en_145 fun r9 _ H5=>U p<|aj<|Z ⟨r9,p,H5⟩
def sR (a0:Ptr) (a1:Int) (a2:Int) (K:kT (Sl × Int)):hT:=cl prog nc [(pv a0),(.int .i64 a1),(.int .i64 a2)] bj fun r12=>br (r12 != 0) ( K ((⟨none,0,0,none⟩:Sl),r12)) ( cl prog lT [(pv a0),(.int .i64 a1),(.int .i64 a2)] df fun r20=>cl prog ie [(pv a0),(sv r20)] df fun r21=>K (r21,0))
theorem sim_caps_Tree_Revoke (a0:Ptr) (a1:Int) (a2:Int) {K:kT (Sl × Int)} {h:Hp} (H:sR a0 a1 a2 K h):cl prog oq [(pv a0),(.int .i64 a1),(.int .i64 a2)] dJ K h:=z_i func135 p p fun _=>O<|J (av p)<|U p<|am<|O<|M p<|M p<|M p<|aa<|D H en_161 fun r12 _ H1=>U p<|O<|M p<|J (nY p p)<|ad<|aw p H1 (fun k2 H3=>O<|M p<|J (av p)<|U p<|aj<|bB (bR p (cd p)<|cd p) ⟨((⟨none,0,0,none⟩:Sl),r12),p,H3⟩) fun k2 H3=>an<|O<|M p<|M p<|M p<|M p<|aa<|D H3 en_104 fun r20 _ H4=>aa<|D H4 en_162 fun r21 _ H5=>J (av p)<|U p<|aj<|bB (bR p (cd p)<|cd p) ⟨(r21,0),p,H5⟩
def sh_caps_New (a0:Int) (K:kT Ptr):hT:=br ((decide (a0 < 1)) || (decide (a0 > 4))) ( K none) ( hpv prog (Instr.makeSlice t_S_8_api_Cap (.int .i64 a0) (.int .i64 a0)) R_S_8_api_Cap fun (v10:Sl)=>nw oD (oY.C (⟨v10⟩:oY)) fun b12=>K (some (b12,0)))
theorem sim_caps_New (a0:Int) {K:kT Ptr} {h:Hp} (H:sh_caps_New a0 K h):cl prog yk [(.int .i64 a0)] tE K h:=z_i func94 p p fun _=>O<|U p<|am<|O<|M p<|J (cn p p)<|M p<|W p p (aN _) (fun g1=>wv<|ai p)<|W p p (aN _) (fun g2=>wv<|pb (aD p g2) p)<|J (dC p p)<|ad<|aw p H (fun k3 H4=>O<|U p<|aj<|Z ⟨none,p,H4⟩) fun k3 H4=>an<|O<|M p<|aa<|aT H4 (ky p p) p fun v10 _ H5=>J (aZ p<|build_197_0 v10)<|aa<|iL p p p H5 fun b12 _ H6=>U p<|aj<|Z ⟨some (b12,0),p,H6⟩
end
section
open Go Mb
namespace Mb
def SpV {τ:Type} (P:Program) (c:Value) (args:List Value) (enc:τ->Value) (pre:List As) (post:τ->As):Prop :=
 ∃ f fi ca,c = .func (.func f) fi ca/\aK P f/\∀ h,aB pre h->Ct P f ((fi++args.toArray)++ca) h fun v h'=>∃ r,v = enc r/\post r h'
theorem wA {m:List As} {B:As} {h:Hp} (s:aB (m++[B]) h):aB (B::m) h:=li (List.perm_append_singleton _ _) s
theorem star_rot' {m:List As} {B:As} {h:Hp} (s:aB (B::m) h):aB (m++[B]) h:=li (List.perm_append_singleton _ _).symm s
theorem clv_t {τ:Type} {P:Program} {c:Value} {args:List Value} {enc:τ->Value} {pre:List As} {B:As} {post:τ->As} {K:τ->Hp->Prop} {h:Hp} (H:SpV P c args enc pre post) (s:aB (B::pre) h)
  (k:∀ r h',aB [post r,B] h'->K r h'):clv P c args enc K h:=by
 obtain ⟨f,fi,ca,rfl,he,H⟩:=H;obtain ⟨h1,h2,d,rfl,s1,s2⟩:=fB.1 (star_rot' s);exact ⟨f,fi,ca,rfl,he,(H h1 s1).frame_mono d rfl fun v h' ⟨r,hv,q⟩ dj=>⟨r,hv,k r _ ⟨h',h2,dj,rfl,q,s2⟩⟩⟩
end Mb
abbrev Cap:=aA
abbrev bX:=aH
abbrev mF:Cap:=⟨0,0,0,0⟩
theorem rp (c:Cap):c.C.length = 4:=rfl
theorem wW (c:bX):c.C.length = 2:=rfl
theorem place_one (c:bX):dO c.C = true:=rfl
instance:DecidableEq bX:=fun a b=>decidable_of_iff (a.fCa = b.fCa/\a.fDa = b.fDa) ⟨fun h=>by cases a; cases b; simp_all,fun h=>by subst h; exact ⟨rfl,rfl⟩⟩
def enc8 (r:List Cap):List Value:=((r++replicate 8 mF).take 8).flatMap aA.C
theorem enc8_len (r:List Cap):(enc8 r).length = 32:=by unfold enc8; rw [eP rp]; simp
theorem enc8_eq {r:List Cap} (h:r.length = 8):enc8 r = r.flatMap aA.C:=by
 unfold enc8; rw [List.take_append_of_le_length (by omega),← h,List.take_length]
namespace fAa
abbrev T:=List (List Cap)
def has (t:T) (e s:Int):Bool:=decide (0 <= e/\e < t.length/\0 <= s/\s < 8)
def get (t:T) (e s:Int):Cap:=(t.getD e.toNat []).getD s.toNat mF
def put (t:T) (e s:Int) (c:Cap):T:=t.set e.toNat ((t.getD e.toNat []).set s.toNat c)
def at_ (t:T) (e s:Int):Cap × Bool:=if has t e s = true/\(get t e s).fBa ≠ 0 then (get t e s,true) else (mF,false)
def root (t:T) (e s f:Int):Int × T :=
 if has t e s = false\/f < 0\/f >= 16 then (2,t) else if (get t e s).fBa ≠ 0 then (4,t) else (0,put t e s ⟨f,3,-1,0⟩)
def derive (t:T) (e src to dst r:Int):Int × T :=
 if has t e src = false\/has t to dst = false\/ch r = false then (2,t)
 else if (get t e src).fBa = 0 then (3,t) else if (get t to dst).fBa ≠ 0 then (4,t)
 else if aO r (get t e src).fBa = false then (5,t) else (0,put t to dst ⟨(get t e src).fEa,r,e,src⟩)
def up:Nat->T->Cap->bX->Bool
 | 0,_,_,_=>false
 | n + 1,t,c,p=>if c.fBa ≠ 0/\0 <= c.fCa then (if c.fCa = p.fCa/\c.fDa = p.fDa then true else up n t (get t c.fCa c.fDa) p) else false
def deep:Nat->T->Cap->Nat
 | 0,_,_=>0
 | n + 1,t,c=>if c.fBa ≠ 0/\0 <= c.fCa then deep n t (get t c.fCa c.fDa) + 1 else 0
def under (t:T) (c:Cap) (p:bX):Bool:=up 40 t c p
def rowOf (P:Int->Int->Cap->Bool) (e:Int):List Cap->Int->List bX
 | [],_=>[]
 | c::cs,s=>if c.fBa ≠ 0/\P e s c = true then ⟨e,s⟩::rowOf P e cs (s + 1) else rowOf P e cs (s + 1)
def allOf (P:Int->Int->Cap->Bool):T->Int->List bX
 | [],_=>[]
 | r::rs,e=>rowOf P e r 0++allOf P rs (e + 1)
def below (t:T) (e s:Int):List bX:=allOf (fun _ _ c=>under t c ⟨e,s⟩) t 0
def own (t:T) (e s:Int):List bX:=allOf (fun a b c=>aH.eqb ⟨a,b⟩ ⟨e,s⟩ || under t c ⟨e,s⟩) t 0
def fVa (t:T):List bX->T
 | []=>t
 | p::l=>fVa (put t p.fCa p.fDa mF) l
def look (t:T) (e s:Int):Int:=if has t e s = false then 2 else if (get t e s).fBa = 0 then 3 else 0
def revoke (t:T) (e s:Int):(List bX × Int) × T:=if look t e s ≠ 0 then (([],look t e s),t) else ((below t e s,0),fVa t (below t e s))
def drop (t:T) (e s:Int):(List bX × Int) × T:=if look t e s ≠ 0 then (([],look t e s),t) else ((own t e s,0),fVa t (own t e s))
structure Ok (t:T):Prop where
 len:t.length <= 4
 row:∀ r ∈ t,r.length = 8
 rk:∃ rank:Int->Int->Nat,∀ e s,has t e s = true->(get t e s).fBa ≠ 0->0 <= (get t e s).fCa ->
  has t (get t e s).fCa (get t e s).fDa = true/\(get t (get t e s).fCa (get t e s).fDa).fBa ≠ 0/\rank (get t e s).fCa (get t e s).fDa < rank e s
theorem has_nat {t:T} {e s:Int} (h:has t e s = true):∃ m n:Nat,e = m/\s = n/\m < t.length/\n < 8:=by
 unfold has at h;have:=of_decide_eq_true h;exact ⟨e.toNat,s.toNat,by omega,by omega,by omega,by omega⟩
theorem has_of {t:T} {m n:Nat} (h1:m < t.length) (h2:n < 8):has t m n = true:=by
 unfold has; exact decide_eq_true ⟨by omega,by omega,by omega,by omega⟩
theorem get_nat' {t:T} (ok:∀ r ∈ t,r.length = 8) {m n:Nat} (h1:m < t.length) (h2:n < 8):∃ h3:n < t[m].length,get t m n = t[m][n]:=by
 have:=ok _ (getElem_mem h1);refine ⟨by omega,?_⟩;have h3:n < t[m].length:=by omega
 simp [get,h1,h3]
theorem put_nat {t:T} {m n:Nat} (h1:m < t.length) (c:Cap):put t m n c = t.set m (t[m].set n c):=by simp [put,h1]
theorem put_len (t:T) (e s:Int) (c:Cap):(put t e s c).length = t.length:=by simp [put]
theorem put_has (t:T) (e s:Int) (c:Cap) (a b:Int):has (put t e s c) a b = has t a b:=by unfold has; rw [put_len]
theorem put_row {t:T} (ok:∀ r ∈ t,r.length = 8) (e s:Int) (c:Cap):∀ r ∈ put t e s c,r.length = 8:=by
 intro r hr;unfold put at hr;rcases List.mem_or_eq_of_mem_set hr with h | h
 ·exact ok r h
 ·subst h;by_cases hm:e.toNat < t.length
  ·simp [hm]; exact ok _ (getElem_mem hm)
  ·rw [List.set_eq_of_length_le (by omega)] at hr; exact ok _ hr
theorem get_put {t:T} (ok:∀ r ∈ t,r.length = 8) {e s a b:Int} (h:has t e s = true) (h2:has t a b = true) (c:Cap):get (put t e s c) a b = if a = e/\b = s then c else get t a b:=by
 obtain ⟨m,n,rfl,rfl,hm,hn⟩:=has_nat h;obtain ⟨i,j,rfl,rfl,hi,hj⟩:=has_nat h2;have hl:=ok _ (getElem_mem hm);rw [put_nat hm];simp only [get,Int.toNat_natCast,List.getD_eq_getElem?_getD,List.getElem?_set];by_cases e1:m = i
 ·subst e1;by_cases e2:n = j
  ·subst e2; simp [hm,hl,hn]
  ·have:¬ ((m:Int) = m/\(j:Int) = n):=by omega
   rw [if_neg this]; simp [hm,e2]
 ·have:¬ ((i:Int) = m/\(j:Int) = n):=by omega
  rw [if_neg this]; simp [e1]
theorem pigeon:∀ (n:Nat) (l:List Nat),l.Nodup->(∀ x ∈ l,x < n)->l.length <= n
 | 0,l,_,h=>by
  cases l with
  | nil=>simp
  | cons a l=>exact absurd (h a (by simp)) (by omega)
 | n + 1,l,d,h=>by
  have h1:=pigeon n (l.erase n) (d.erase n) (fun x hx=>by
   have h2:=d.mem_erase_iff.1 hx;have:=h x h2.2;have:=h2.1;omega)
  rw [List.length_erase] at h1;split at h1 <;> omega
theorem path {t:T} (ok:Ok t) {rank:Int->Int->Nat} (hr:∀ e s,has t e s = true->(get t e s).fBa ≠ 0->0 <= (get t e s).fCa ->
  has t (get t e s).fCa (get t e s).fDa = true/\(get t (get t e s).fCa (get t e s).fDa).fBa ≠ 0/\rank (get t e s).fCa (get t e s).fDa < rank e s) :
  ∀ (n:Nat) (e s:Int),has t e s = true->∃ l:List Nat,l.length = deep n t (get t e s)/\l.Pairwise (fun a b=>rank (b / 8:Nat) (b % 8:Nat) < rank (a / 8:Nat) (a % 8:Nat))/\∀ a ∈ l,a < 32/\rank (a / 8:Nat) (a % 8:Nat) < rank e s
 | 0,_,_,_=>⟨[],rfl,.nil,fun a h=>by cases h⟩
 | n + 1,e,s,h=>by
  by_cases hc:(get t e s).fBa ≠ 0/\0 <= (get t e s).fCa
  ·obtain ⟨h1,h2,h3⟩:=hr e s h hc.1 hc.2;obtain ⟨l,hl,hp,hb⟩:=path ok hr n _ _ h1;obtain ⟨i,j,ei,ej,hi,hj⟩:=has_nat h1;have hlen:=ok.len;have e1:(i * 8 + j) / 8 = i:=by omega
   have e2:(i * 8 + j) % 8 = j:=by omega
   refine ⟨(i * 8 + j)::l,?_,?_,?_⟩
   ·simp only [List.length_cons,deep]; rw [if_pos hc,hl]
   ·refine List.pairwise_cons.2 ⟨fun b hb'=>?_,hp⟩;have:=(hb b hb').2;rw [e1,e2,← ei,← ej]; exact this
   ·intro a ha;rcases mem_cons.1 ha with rfl | ha
    ·rw [e1,e2,← ei,← ej]; exact ⟨by omega,h3⟩
    ·exact ⟨(hb a ha).1,Nat.lt_trans (hb a ha).2 h3⟩
  ·exact ⟨[],by simp only [deep]; rw [if_neg hc]; rfl,.nil,fun a h=>by cases h⟩
theorem deep_le {t:T} (ok:Ok t) {e s:Int} (h:has t e s = true) (n:Nat):deep n t (get t e s) <= 32:=by
 obtain ⟨rank,hr⟩:=ok.rk;obtain ⟨l,hl,hp,hb⟩:=path ok hr n e s h;rw [← hl];refine pigeon 32 l (hp.imp ?_) (fun x hx=>(hb x hx).1);rintro a b hab rfl;exact absurd hab (Nat.lt_irrefl _)
theorem deep_s (n:Nat) (t:T) (c:Cap):deep (n + 1) t c = if c.fBa ≠ 0/\0 <= c.fCa then deep n t (get t c.fCa c.fDa) + 1 else 0:=rfl
theorem up_s (n:Nat) (t:T) (c:Cap) (p:bX):up (n + 1) t c p = if c.fBa ≠ 0/\0 <= c.fCa then (if c.fCa = p.fCa/\c.fDa = p.fDa then true else up n t (get t c.fCa c.fDa) p) else false:=rfl
theorem deep_succ {t:T}:∀ {n:Nat} {c:Cap},deep n t c < n->deep (n + 1) t c = deep n t c
 | 0,_,h=>by omega
 | n + 1,c,h=>by
  rw [deep_s (n + 1) t c,deep_s n t c];rw [deep_s n] at h;by_cases hc:c.fBa ≠ 0/\0 <= c.fCa
  ·rw [if_pos hc] at h;rw [if_pos hc,if_pos hc,deep_succ (n:=n) (by omega)]
  ·rw [if_neg hc,if_neg hc]
theorem up_succ {t:T} {p:bX}:∀ {n:Nat} {c:Cap},deep n t c < n->up (n + 1) t c p = up n t c p
 | 0,_,h=>by omega
 | n + 1,c,h=>by
  rw [up_s (n + 1) t c p,up_s n t c p];rw [deep_s n] at h;by_cases hc:c.fBa ≠ 0/\0 <= c.fCa
  ·rw [if_pos hc] at h;rw [if_pos hc,if_pos hc,up_succ (n:=n) (by omega)]
  ·rw [if_neg hc,if_neg hc]
theorem under_step {t:T} (ok:Ok t) {e s:Int} (h:has t e s = true) (p:bX):under t (get t e s) p = if (get t e s).fBa ≠ 0/\0 <= (get t e s).fCa then (if (get t e s).fCa = p.fCa/\(get t e s).fDa = p.fDa then true else under t (get t (get t e s).fCa (get t e s).fDa) p) else false:=by
 have h1:=deep_le ok h 40;unfold under;by_cases hc:(get t e s).fBa ≠ 0/\0 <= (get t e s).fCa
 ·rw [deep_s 39,if_pos hc] at h1;rw [up_s 39,up_succ (n:=39) (by omega)]
 ·rw [up_s 39,if_neg hc,if_neg hc]
theorem deep_step {t:T} (ok:Ok t) {e s:Int} (h:has t e s = true) (hc:(get t e s).fBa ≠ 0/\0 <= (get t e s).fCa):deep 40 t (get t (get t e s).fCa (get t e s).fDa) < deep 40 t (get t e s):=by
 have h1:=deep_le ok h 40;rw [deep_s 39,if_pos hc] at h1;rw [deep_succ (n:=39) (by omega),deep_s 39,if_pos hc];omega
theorem ok_new (n:Nat) (h:n <= 4):Ok (replicate n (replicate 8 mF)):=by
 refine ⟨by simpa using h,fun r hr=>?_,fun _ _=>0,fun e s hh hne=>?_⟩
 ·rw [(List.mem_replicate.1 hr).2]; rfl
 ·exfalso
  apply hne;obtain ⟨i,j,rfl,rfl,hi,hj⟩:=has_nat hh;simp only [List.length_replicate] at hi;simp only [get,Int.toNat_natCast,List.getD_eq_getElem?_getD,List.getElem?_replicate,if_pos hi,Option.getD_some,if_pos hj]
theorem ok_put {t:T} (ok:Ok t) {e s:Int} (h:has t e s = true) (h0:(get t e s).fBa = 0) (c:Cap) (hc:0 <= c.fCa->has t c.fCa c.fDa = true/\(get t c.fCa c.fDa).fBa ≠ 0):Ok (put t e s c):=by
 obtain ⟨rank,hr⟩:=ok.rk;refine ⟨by rw [put_len]; exact ok.len,put_row ok.row e s c,fun a b=>if a = e/\b = s then rank c.fCa c.fDa + 1 else rank a b,fun a b hab hne hen=>?_⟩;rw [put_has] at hab;have keep:∀ {i j:Int},has t i j = true->(get t i j).fBa ≠ 0->¬ (i = e/\j = s):=by
  rintro i j _ hn ⟨rfl,rfl⟩; exact hn h0
 have hg:=get_put ok.row h hab c;rw [hg] at hne hen ⊢;by_cases hes:a = e/\b = s
 ·rw [if_pos hes] at hne hen ⊢;obtain ⟨h1,h2⟩:=hc hen;have hk:=keep h1 h2;refine ⟨by rw [put_has]; exact h1,by rw [get_put ok.row h h1,if_neg hk]; exact h2,?_⟩;show (if c.fCa = e/\c.fDa = s then _ else _) < (if a = e/\b = s then _ else _)
  rw [if_neg hk,if_pos hes]; omega
 ·rw [if_neg hes] at hne hen ⊢;obtain ⟨h1,h2,h3⟩:=hr a b hab hne hen;have hk:=keep h1 h2;refine ⟨by rw [put_has]; exact h1,by rw [get_put ok.row h h1,if_neg hk]; exact h2,?_⟩;show (if (get t a b).fCa = e/\(get t a b).fDa = s then _ else _) < (if a = e/\b = s then _ else _)
  rw [if_neg hk,if_neg hes]; exact h3
theorem empties_len:∀ (l:List bX) (t:T),(fVa t l).length = t.length
 | [],_=>rfl
 | p::l,t=>by rw [fVa,empties_len l,put_len]
theorem empties_has (t:T) (l:List bX) (a b:Int):has (fVa t l) a b = has t a b:=by unfold has; rw [empties_len]
theorem empties_row:∀ (l:List bX) (t:T),(∀ r ∈ t,r.length = 8)->∀ r ∈ fVa t l,r.length = 8
 | [],_,h=>h
 | p::l,t,h=>empties_row l _ (put_row h _ _ _)
theorem jF:∀ (l:List bX) (t:T),(∀ r ∈ t,r.length = 8)->(∀ p ∈ l,has t p.fCa p.fDa = true)->∀ a b,has t a b = true->get (fVa t l) a b = if (⟨a,b⟩:bX) ∈ l then mF else get t a b
 | [],_,_,_,_,_,_=>by simp [fVa]
 | p::l,t,h,hl,a,b,hab=>by
  rw [fVa,jF l _ (put_row h _ _ _) (fun q hq=>by rw [put_has]; exact hl q (by simp [hq])) a b (by rw [put_has]; exact hab),get_put h (hl p (by simp)) hab];by_cases h1:(⟨a,b⟩:bX) ∈ l
  ·rw [if_pos h1,if_pos (by simp [h1])]
  ·rw [if_neg h1];by_cases h2:a = p.fCa/\b = p.fDa
   ·obtain ⟨rfl,rfl⟩:=h2;rw [if_pos ⟨rfl,rfl⟩,if_pos (by simp)]
   ·rw [if_neg h2,if_neg];intro hm;rcases mem_cons.1 hm with hm | hm
    ·subst hm; exact h2 ⟨rfl,rfl⟩
    ·exact h1 hm
theorem rowOf_c (P:Int->Int->Cap->Bool) (e:Int) (c:Cap) (cs:List Cap) (s:Int):rowOf P e (c::cs) s = if c.fBa ≠ 0/\P e s c = true then ⟨e,s⟩::rowOf P e cs (s + 1) else rowOf P e cs (s + 1):=rfl
theorem mem_rowOf {P:Int->Int->Cap->Bool} {e:Int} {p:bX}:∀ {cs:List Cap} {s:Int},p ∈ rowOf P e cs s↔p.fCa = e/\∃ (n:Nat) (c:Cap),cs[n]? = some c/\p.fDa = s + n/\c.fBa ≠ 0/\P e (s + n) c = true
 | [],s=>by simp [rowOf]
 | c::cs,s=>by
  have ih:=mem_rowOf (P:=P) (e:=e) (p:=p) (cs:=cs) (s:=s + 1);have tail:(p.fCa = e/\∃ (n:Nat) (c':Cap),cs[n]? = some c'/\p.fDa = s + 1 + n/\c'.fBa ≠ 0/\P e (s + 1 + n) c' = true)↔(p.fCa = e/\∃ (n:Nat) (c':Cap),(c::cs)[n + 1]? = some c'/\p.fDa = s + ((n + 1:Nat):Int)/\c'.fBa ≠ 0/\P e (s + ((n + 1:Nat):Int)) c' = true):=by
   have:∀ n:Nat,s + ((n + 1:Nat):Int) = s + 1 + n:=fun n=>by omega
   simp only [this,getElem?_cons_succ]
  have split0:(p.fCa = e/\∃ (n:Nat) (c':Cap),(c::cs)[n]? = some c'/\p.fDa = s + n/\c'.fBa ≠ 0/\P e (s + n) c' = true)↔(p = ⟨e,s⟩/\c.fBa ≠ 0/\P e s c = true)\/(p.fCa = e/\∃ (n:Nat) (c':Cap),(c::cs)[n + 1]? = some c'/\p.fDa = s + ((n + 1:Nat):Int)/\c'.fBa ≠ 0/\P e (s + ((n + 1:Nat):Int)) c' = true):=by
   constructor
   ·rintro ⟨he,n,c',h1,h2,h3,h4⟩;cases n with
    | zero =>
     simp at h1; subst h1;simp at h2 h4;exact .inl ⟨by cases p; simp_all,h3,h4⟩
    | succ n=>exact .inr ⟨he,n,c',h1,h2,h3,h4⟩
   ·rintro (⟨rfl,h3,h4⟩ | ⟨he,n,c',h1,h2,h3,h4⟩)
    ·exact ⟨rfl,0,c,rfl,by simp,h3,by simpa using h4⟩
    ·exact ⟨he,n + 1,c',h1,h2,h3,h4⟩
  rw [split0,← tail,← ih,rowOf_c];split
  ·rename_i hc;rw [mem_cons];constructor
   ·rintro (h | h)
    ·exact .inl ⟨h,hc⟩
    ·exact .inr h
   ·rintro (h | h)
    ·exact .inl h.1
    ·exact .inr h
  ·rename_i hc;constructor
   ·exact .inr
   ·rintro (h | h)
    ·exact absurd h.2 hc
    ·exact h
theorem mem_allOf {P:Int->Int->Cap->Bool} {p:bX}:∀ {t:T} {e:Int},p ∈ allOf P t e↔∃ (m n:Nat) (r:List Cap) (c:Cap),t[m]? = some r/\r[n]? = some c/\p = ⟨e + m,n⟩/\c.fBa ≠ 0/\P (e + m) n c = true
 | [],e=>by simp [allOf]
 | r::t,e=>by
  rw [allOf,List.mem_append,mem_rowOf,mem_allOf];constructor
  ·rintro (⟨h1,n,c,h2,h3,h4,h5⟩ | ⟨m,n,r',c,h1,h2,rfl,h4,h5⟩)
   ·refine ⟨0,n,r,c,rfl,h2,?_,h4,?_⟩
    ·cases p; simp_all
    ·simpa using h5
   ·refine ⟨m + 1,n,r',c,by simpa using h1,h2,?_,h4,?_⟩
    ·congr 1; omega
    ·rw [show e + ((m + 1:Nat):Int) = e + 1 + m from by omega]; exact h5
  ·rintro ⟨m,n,r',c,h1,h2,rfl,h4,h5⟩;cases m with
   | zero =>
    simp at h1; subst h1;exact .inl ⟨by simp,n,c,h2,by simp,h4,by simpa using h5⟩
   | succ m =>
    refine .inr ⟨m,n,r',c,by simpa using h1,h2,?_,h4,?_⟩
    ·congr 1; omega
    ·rw [show e + 1 + (m:Int) = e + ((m + 1:Nat):Int) from by omega]; exact h5
theorem mem_all {t:T} (row:∀ r ∈ t,r.length = 8) {P:Int->Int->Cap->Bool} {p:bX}:p ∈ allOf P t 0↔has t p.fCa p.fDa = true/\(get t p.fCa p.fDa).fBa ≠ 0/\P p.fCa p.fDa (get t p.fCa p.fDa) = true:=by
 rw [mem_allOf];constructor
 ·rintro ⟨m,n,r,c,h1,h2,rfl,h4,h5⟩;obtain ⟨hm,e1⟩:=List.getElem?_eq_some_iff.1 h1;obtain ⟨hn,e2⟩:=List.getElem?_eq_some_iff.1 h2;have h8:=row r (List.mem_of_getElem? h1);simp only [Int.zero_add] at h5 ⊢;have hg:get t m n = c:=by simp [get,h1,h2]
  rw [hg];exact ⟨has_of hm (by omega),h4,h5⟩
 ·rintro ⟨h1,h2,h3⟩;obtain ⟨m,n,em,en,hm,hn⟩:=has_nat h1;rw [em,en] at h2 h3;obtain ⟨hn',hg⟩:=get_nat' row hm hn;rw [hg] at h2 h3;refine ⟨m,n,t[m],t[m][n],by simp [hm],by simp [hn'],?_,h2,by simpa using h3⟩;cases p; simp_all
theorem mem_below {t:T} (ok:Ok t) {e s:Int} {p:bX}:p ∈ below t e s↔has t p.fCa p.fDa = true/\(get t p.fCa p.fDa).fBa ≠ 0/\under t (get t p.fCa p.fDa) ⟨e,s⟩ = true:=mem_all ok.row
theorem eqb_place (p q:bX):aH.eqb p q = true↔p = q:=by
 cases p; cases q; simp [aH.eqb]
theorem mem_own {t:T} (ok:Ok t) {e s:Int} {p:bX}:p ∈ own t e s↔has t p.fCa p.fDa = true/\(get t p.fCa p.fDa).fBa ≠ 0/\(p = ⟨e,s⟩\/under t (get t p.fCa p.fDa) ⟨e,s⟩ = true):=by
 unfold own;rw [mem_all ok.row,Bool.or_eq_true,eqb_place]
theorem under_rights {t:T} {c:Cap} {p:bX} (h:under t c p = true):c.fBa ≠ 0:=by
 unfold under at h; rw [up_s 39] at h;split at h
 ·rename_i hc; exact hc.1
 ·cases h
theorem ok_empties {t:T} (ok:Ok t) {l:List bX} (hl:∀ p ∈ l,has t p.fCa p.fDa = true)
  (cl:∀ e s,has t e s = true->(get t e s).fBa ≠ 0->0 <= (get t e s).fCa->(⟨(get t e s).fCa,(get t e s).fDa⟩:bX) ∈ l->(⟨e,s⟩:bX) ∈ l):Ok (fVa t l):=by
 obtain ⟨rank,hr⟩:=ok.rk;refine ⟨by rw [empties_len]; exact ok.len,empties_row l t ok.row,rank,fun a b hab hne hen=>?_⟩;rw [empties_has] at hab;have hg:=jF l t ok.row hl a b hab;by_cases hm:(⟨a,b⟩:bX) ∈ l
 ·rw [if_pos hm] at hg; rw [hg] at hne; exact absurd rfl hne
 ·rw [if_neg hm] at hg;rw [hg] at hne hen ⊢;obtain ⟨h1,h2,h3⟩:=hr a b hab hne hen;have hp:(⟨(get t a b).fCa,(get t a b).fDa⟩:bX) ∉ l:=fun h=>hm (cl a b hab hne hen h);refine ⟨by rw [empties_has]; exact h1,?_,h3⟩;rw [jF l t ok.row hl _ _ h1,if_neg hp]; exact h2
theorem ok_below {t:T} (ok:Ok t) (e s:Int):Ok (fVa t (below t e s)):=by
 refine ok_empties ok (fun p hp=>((mem_below ok).1 hp).1) fun a b hab hne hen hp=>?_;have h1:=(mem_below ok).1 hp;refine (mem_below ok).2 ⟨hab,hne,?_⟩;rw [under_step ok hab,if_pos ⟨hne,hen⟩];split
 ·rfl
 ·exact h1.2.2
theorem ok_own {t:T} (ok:Ok t) (e s:Int):Ok (fVa t (own t e s)):=by
 refine ok_empties ok (fun p hp=>((mem_own ok).1 hp).1) fun a b hab hne hen hp=>?_;have h1:=(mem_own ok).1 hp;refine (mem_own ok).2 ⟨hab,hne,.inr ?_⟩;rw [under_step ok hab,if_pos ⟨hne,hen⟩];split
 ·rfl
 ·rename_i hno;rcases h1.2.2 with h | h
  ·exact absurd ⟨congrArg aH.fCa h,congrArg aH.fDa h⟩ hno
  ·exact h
theorem ok_root {t:T} (ok:Ok t) (e s f:Int):Ok (root t e s f).2:=by
 unfold root;split
 ·exact ok
 ·split
  ·exact ok
  ·rename_i h1 h2;refine ok_put ok (by simp at h1; exact h1.1) (by simpa using h2) _ (fun h=>?_);exact absurd h (by show ¬ (0:Int) <= -1; omega)
theorem ok_derive {t:T} (ok:Ok t) (e src to dst r:Int):Ok (derive t e src to dst r).2:=by
 unfold derive;split
 ·exact ok
 ·split
  ·exact ok
  ·split
   ·exact ok
   ·split
    ·exact ok
    ·rename_i h1 h2 h3 h4;simp at h1;exact ok_put ok h1.2.1 (by simpa using h3) _ (fun _=>⟨h1.1,h2⟩)
theorem ok_revoke {t:T} (ok:Ok t) (e s:Int):Ok (revoke t e s).2:=by
 unfold revoke; split
 ·exact ok
 ·exact ok_below ok e s
theorem ok_drop {t:T} (ok:Ok t) (e s:Int):Ok (drop t e s).2:=by
 unfold drop; split
 ·exact ok
 ·exact ok_own ok e s
end fAa
end
section
open Go Mb
def va (a0:Ptr) (K:kT Int):hT:=br a0.isNone ( K 0) ( nn a0 fun q6=>ld (q6.1,q6.2 + 0) cS fun x8=>K (x8.len:Int))
theorem sim_mem_Mem_Frames (a0:Ptr) {K:kT Int} {h:Hp} (H:va a0 K h):cl prog xc [(pv a0)] eH K h:=z_i func177 p p fun _=>O<|U p<|am<|O<|M p<|J (cD underlying131 p)<|ad<|aw p H (fun k1 H2=>O<|U p<|aj<|Z ⟨0,p,H2⟩) fun k1 H2=>an<|O<|M p<|bI H2 fun q6 e3 H4=>J (aL<|aJ p<|ar e3)<|J (ae tJ p)<|aa<|aW H4 lX p (fun _=>p) p fun x8 H5=>J (dK p underlying107 p)<|U p<|aj<|Z ⟨(x8.len:Int),p,H5⟩
def sh_mem_Mem_at (a0:Ptr) (a1:Int) (a2:Int) (K:kT Ptr):hT:=br (!(decide (a1 < 0))) ( cl prog xc [(pv a0)] eH fun r12=>br (((decide (a1 >= r12)) || (decide (a2 < 0))) || (decide (a2 >= 16))) ( K none) ( nn a0 fun q24=>ld (q24.1,q24.2 + 0) cS fun x26=>ix x26 a1 fun q28=>ld (q28.1,q28.2 + Int.toNat a1 * 1) cS fun x29=>ix x29 a2 fun q31=>K (some (q31.1,q31.2 + Int.toNat a2 * 1)))) ( K none)
theorem sim_mem_Mem_at (a0:Ptr) (a1:Int) (a2:Int) {K:kT Ptr} {h:Hp} (H:sh_mem_Mem_at a0 a1 a2 K h):cl prog mT [(pv a0),(.int .i64 a1),(.int .i64 a2)] tL K h:=z_i func154 p p fun _=>O<|U p<|am<|O<|M p<|J (cn p p)<|M p<|W p p (aN _) (fun g1=>wv<|ai p)<|W p p (aN _) (fun g2=>wv<|ai p)<|bW H (fun k4 H5=>G (F<|cm k4)<|gQ H5 en_177 (aV (aD p k4) bU) p fun r12 _ H6=>G (F<|cm k4)<|z_p (kx (aD p k4) p)<|J (au p (cm k4) p)<|M p<|W p p (aN _) (fun g7=>wv<|ai p)<|W p p (aN _) (fun g8=>wv<|cn (aD p g8) p)<|J (dC p p)<|M p<|W p p (aN _) (fun g9=>wv<|ai p)<|W p p (aN _) (fun g10=>wv<|kx (aD p g10) p)<|J (dC p p)<|ad<|aw p H6 (fun k11 H12=>O<|U p<|aj<|Z ⟨none,p,H12⟩) fun k11 H12=>an<|O<|M p<|bI H12 fun q24 e13 H14=>J (aL<|aJ p<|ar e13)<|J (ae tJ p)<|aa<|aW H14 lX p (fun _=>p) p fun x26 H15=>M p<|cz H15 fun q28 e16 h17 H18=>J (bf mM (aJ p<|aX e16) p h17)<|aa<|aW H18 se p (fun _=>p) p fun x29 H19=>M p<|cz H19 fun q31 e20 h21 H22=>J (bf th (aJ p<|aX e20) p h21)<|U p<|aj<|Z ⟨some (q31.1,q31.2 + Int.toNat a2 * 1),p,H22⟩) fun k4 H5=>Y (cf<|bK k4)<|Y (cf<|bK k4)<|J (aU p (bK k4) p)<|M p<|Y p<|Y p<|J (aU p p p)<|M p<|Y p<|Y p<|J (aU p p p)<|ad<|ny p p<|O<|U p<|aj<|Z ⟨none,p,H5⟩
def sh_mem_Mem_Load (a0:Ptr) (a1:Int) (a2:Int) (K:kT (Int × Bool)):hT:=cl prog mT [(pv a0),(.int .i64 a1),(.int .i64 a2)] tL fun r12=>br r12.isNone ( K (0,false)) ( nn r12 fun q16=>ld (q16.1,q16.2) (cI .u64) fun x17=>K (x17,true))
theorem sim_mem_Mem_Load (a0:Ptr) (a1:Int) (a2:Int) {K:kT (Int × Bool)} {h:Hp} (H:sh_mem_Mem_Load a0 a1 a2 K h):cl prog iR [(pv a0),(.int .i64 a1),(.int .i64 a2)] bN K h:=z_i func124 p p fun _=>O<|J (av p)<|U p<|O<|M p<|M p<|M p<|aa<|D H en_154 fun r12 _ H1=>U p<|am<|O<|M p<|J (cD underlying220 p)<|ad<|aw p H1 (fun k2 H3=>O<|J (av p)<|U p<|aj<|bB (bR p (cd p)<|cd p) ⟨(0,false),p,H3⟩) fun k2 H3=>an<|O<|M p<|bI H3 fun q16 e4 H5=>J (aL<|aJ p<|ar e4)<|aa<|aW H5 cG p (fun _=>p) p fun x17 H6=>J (av p)<|U p<|aj<|bB (bR p (cd p)<|cd p) ⟨(x17,true),p,H6⟩
def wN (a0:Ptr) (a1:Int) (a2:Int) (a3:Int) (K:kT Bool):hT:=cl prog mT [(pv a0),(.int .i64 a1),(.int .i64 a2)] tL fun r13=>br r13.isNone ( K false) ( nn r13 fun q18=>st (q18.1,q18.2) [.int .u64 a3]<|K true)
theorem sim_mem_Mem_Store (a0:Ptr) (a1:Int) (a2:Int) (a3:Int) {K:kT Bool} {h:Hp} (H:wN a0 a1 a2 a3 K h):cl prog fY [(pv a0),(.int .i64 a1),(.int .i64 a2),(.int .u64 a3)] aC K h:=z_i func125 p p fun _=>O<|U p<|O<|M p<|M p<|M p<|aa<|D H en_154 fun r13 _ H1=>U p<|am<|O<|M p<|J (cD underlying220 p)<|ad<|aw p H1 (fun k2 H3=>O<|U p<|aj<|Z ⟨false,p,H3⟩) fun k2 H3=>an<|O<|M p<|M p<|bI H3 fun q18 e4 H5=>J (aL<|aJ p<|ar e4)<|aa<|dv inf_31 p p p p p H5 fun _ H6=>ad<|O<|U p<|aj<|Z ⟨true,p,H6⟩
def sh_mem_Mem_Cas (a0:Ptr) (a1:Int) (a2:Int) (a3:Int) (a4:Int) (K:kT (Int × Bool)):hT:=cl prog iR [(pv a0),(.int .i64 a1),(.int .i64 a2)] bN fun r18=>br (r18.2 && (r18.1 == a3)) ( cl prog fY [(pv a0),(.int .i64 a1),(.int .i64 a2),(.int .u64 a4)] aC fun r31=>K (r18.1,r18.2)) ( K (r18.1,r18.2))
theorem sim_mem_Mem_Cas (a0:Ptr) (a1:Int) (a2:Int) (a3:Int) (a4:Int) {K:kT (Int × Bool)} {h:Hp} (H:sh_mem_Mem_Cas a0 a1 a2 a3 a4 K h):cl prog rj [(pv a0),(.int .i64 a1),(.int .i64 a2),(.int .u64 a3),(.int .u64 a4)] bN K h:=z_i func126 p p fun _=>O<|J (av p)<|U p<|O<|M p<|M p<|M p<|aa<|D H en_124 fun r18 _ H1=>M p<|J (ak p p)<|J (ak p p)<|J (av p)<|U p<|am<|O<|M p<|M p<|W p p (ay _) (fun g2=>wv<|ai p)<|W p p (ay _) (fun g3=>wv<|ai p)<|W p p (ay _) (fun g4=>wv<|bP (aD p g4)<|aD p g4)<|J (bO p p)<|ad<|aw p H1 (fun k5 H6=>aq<|M p<|M p<|M p<|M p<|aa<|D H6 en_125 fun r31 _ H7=>ad<|O<|M p<|M p<|J (av p)<|U p<|aj<|bB (bR p (cd p)<|cd p) ⟨(r18.1,r18.2),p,H7⟩) fun k5 H6=>an<|O<|M p<|M p<|J (av p)<|U p<|aj<|bB (bR p (cd p)<|cd p) ⟨(r18.1,r18.2),p,H6⟩
def sh_mem_Mem_Add (a0:Ptr) (a1:Int) (a2:Int) (a3:Int) (K:kT (Int × Bool)):hT:=cl prog iR [(pv a0),(.int .i64 a1),(.int .i64 a2)] bN fun r16=>cl prog fY [(pv a0),(.int .i64 a1),(.int .i64 a2),(.int .u64 (u64.wrap (r16.1 + a3)))] aC fun r25=>K (r16.1,r16.2)
theorem sim_mem_Mem_Add (a0:Ptr) (a1:Int) (a2:Int) (a3:Int) {K:kT (Int × Bool)} {h:Hp} (H:sh_mem_Mem_Add a0 a1 a2 a3 K h):cl prog rl [(pv a0),(.int .i64 a1),(.int .i64 a2),(.int .u64 a3)] bN K h:=z_i func127 p p fun _=>O<|J (av p)<|U p<|O<|M p<|M p<|M p<|aa<|D H en_124 fun r16 _ H1=>M p<|J (ak p p)<|J (ak p p)<|J (av p)<|U p<|O<|M p<|M p<|M p<|M p<|M p<|J (bk p p)<|aa<|D H1 en_125 fun r25 _ H2=>ad<|O<|M p<|M p<|J (av p)<|U p<|aj<|bB (bR p (cd p)<|cd p) ⟨(r16.1,r16.2),p,H2⟩
def sh_mem_Mem_Zero (a0:Ptr) (a1:Int) (K:kT Bool):hT:=cl prog mT [(pv a0),(.int .i64 a1),(.int .i64 0)] tL fun r7=>br r7.isNone ( K false) ( nn a0 fun q10=>ld (q10.1,q10.2 + 0) cS fun x12=>ix x12 a1 fun q14=>ld (q14.1,q14.2 + Int.toNat a1 * 1) cS fun x15=>hpv prog (Builtin.clear_ #[bg] t_none #[(sv x15)]) R_ fun (_:Unit)=>K true)
theorem sim_mem_Mem_Zero (a0:Ptr) (a1:Int) {K:kT Bool} {h:Hp} (H:sh_mem_Mem_Zero a0 a1 K h):cl prog uk [(pv a0),(.int .i64 a1)] aC K h:=z_i func132 p p fun _=>O<|U p<|am<|O<|M p<|M p<|aa<|D H en_154 fun r7 _ H1=>J (cD underlying220 p)<|ad<|aw p H1 (fun k2 H3=>O<|U p<|aj<|Z ⟨false,p,H3⟩) fun k2 H3=>an<|O<|M p<|bI H3 fun q10 e4 H5=>J (aL<|aJ p<|ar e4)<|J (ae tJ p)<|aa<|aW H5 lX p (fun _=>p) p fun x12 H6=>M p<|cz H6 fun q14 e7 h8 H9=>J (bf mM (aJ p<|aX e7) p h8)<|aa<|aW H9 se p (fun _=>p) p fun x15 H10=>aa<|to_hpv0 H10 (x_clear p) fun _ _ H11=>ad<|O<|U p<|aj<|Z ⟨true,p,H11⟩
def mem_New_l1 (a0:Int) (K:kT Ptr) (b11:Nat) (Rec7:kT Int) (s6:Int):hT:=br (decide (s6 < a0)) ( ld (b11,0) cS fun x19=>hpv prog (Instr.makeSlice bg (.int .i64 16) (.int .i64 16)) cg fun (v20:Sl)=>hpv prog (Instr.buildSlice qN 1 #[(0,(sv v20))]) R_SSuint64 fun (v21:Sl)=>hpv prog (Builtin.append_ #[qN,qN] qN #[(sv x19),(sv v21)]) R_SSuint64 fun (v22:Sl)=>st (b11,0) [sv v22]<|Rec7 (i64.wrap (s6 + 1))) ( K (some (b11,0)))
def sh_mem_New (a0:Int) (K:kT Ptr):hT:=br ((decide (a0 < 1)) || (decide (a0 > 16))) ( K none) ( nw mI (tK.C (⟨(⟨none,0,0,none⟩:Sl)⟩:tK)) fun b11=>Lp (mem_New_l1 a0 K b11) 0)
theorem sim_mem_New (a0:Int) {K:kT Ptr} {h:Hp} (H:sh_mem_New a0 K h):cl prog xa [(.int .i64 a0)] uI K h:=z_i func92 p p fun _=>O<|U p<|am<|O<|M p<|J (cn p p)<|M p<|W p p (aN _) (fun g1=>wv<|ai p)<|W p p (aN _) (fun g2=>wv<|pb (aD p g2) p)<|J (dC p p)<|ad<|aw p H (fun k3 H4=>O<|U p<|aj<|Z ⟨none,p,H4⟩) fun k3 H4=>an<|O<|J (aZ (vs:=[]) p build_199)<|aa<|iL p p p H4 fun b11 _ H5=>U p<|am<|O<|M p<|M p<|ad<|ax<|bv (step:=mem_New_l1 a0 K b11) (fun s6=>[(3,(.pointer (some ⟨b11,0,none⟩))),(12,(.int .i64 a0)),(13,(.int .i64 s6))]) (fun s6=>[]) H5 (.cons p<|.cons p<|.cons p<|.nil _) .slnil fun Rec7 s6 _ H8=>O<|J (cn p p)<|ad<|am<|aw p H8 (fun k9 H10=>an<|am<|ax<|bo (n:=11) [] cu p .slnil<|V 0 p (ai p)<|V 1 p (ai p)<|V 2 p (aL p)<|V 3 p (ae tJ p)<|bz (i:=4) (fun _ _ _ _ hh=>hh) H10 p (by kernel_rfl) lX p (fun _=>p) p fun x19 H11=>I 5 p<|aT H11 (ky p p) p fun v20 _ H12=>⟨.slnil,I 6 p<|aT H12 (bw (vs:=[(sv v20)]) p) p fun v21 _ H13=>⟨.slnil,I 7 p<|aT H13 (dS p p) p fun v22 _ H14=>⟨.slnil,V 8 p (aL p)<|V 9 p (ae tJ p)<|I 10 p<|dv inf_107 p p p p p H14 fun _ H15=>⟨.slnil,aR (by kernel_rfl)<|aq<|J (bk p p)<|M p<|ad<|cF (i64.wrap (s6 + 1)) H15 (.cons p<|.cons p<|.cons p<|.nil _) .slnil⟩⟩⟩⟩) fun k9 H10=>bh<|O<|M p<|U p<|aj<|Z ⟨some (b11,0),p,H10⟩
def wO (a0:Ptr) (a1:Int) (K:kT Sl):hT:=cl prog mT [(pv a0),(.int .i64 a1),(.int .i64 0)] tL fun r7=>br r7.isNone ( K (⟨none,0,0,none⟩:Sl)) ( nn a0 fun q10=>ld (q10.1,q10.2 + 0) cS fun x12=>ix x12 a1 fun q14=>ld (q14.1,q14.2 + Int.toNat a1 * 1) cS fun x15=>cl prog hO [(sv x15)] cg fun r16=>K r16)
theorem sim_mem_Mem_Frame (a0:Ptr) (a1:Int) {K:kT Sl} {h:Hp} (H:wO a0 a1 K h):cl prog si [(pv a0),(.int .i64 a1)] cg K h:=z_i func164 p p fun _=>O<|U p<|am<|O<|M p<|M p<|aa<|D H en_154 fun r7 _ H1=>J (cD underlying220 p)<|ad<|aw p H1 (fun k2 H3=>O<|U p<|aj<|Z ⟨(⟨none,0,0,none⟩:Sl),p,H3⟩) fun k2 H3=>an<|O<|M p<|bI H3 fun q10 e4 H5=>J (aL<|aJ p<|ar e4)<|J (ae tJ p)<|aa<|aW H5 lX p (fun _=>p) p fun x12 H6=>M p<|cz H6 fun q14 e7 h8 H9=>J (bf mM (aJ p<|aX e7) p h8)<|aa<|aW H9 se p (fun _=>p) p fun x15 H10=>aa<|D H10 en_180 fun r16 _ H11=>U p<|aj<|Z ⟨r16,p,H11⟩
end
section
open Go Mb
abbrev vU (s:Sl) (xs:List Int):As:=vec t_uint64 1 (cI .u64) s xs
def rows:List Sl->List (List Int)->List As
 | s::ss,f::fs=>vU s f::rows ss fs
 | _,_=>[]
theorem rows_get:∀ (ss:List Sl) (fs:List (List Int)) (i:Nat) (s:Sl) (f:List Int),ss[i]? = some s->fs[i]? = some f->(rows ss fs)[i]? = some (vU s f)
 | [],_,_,_,_,h,_=>by simp at h
 | _::_,[],_,_,_,_,h=>by simp at h
 | s::ss,f::fs,0,_,_,h1,h2=>by simp at h1 h2; subst h1; subst h2; rfl
 | s::ss,f::fs,i + 1,_,_,h1,h2=>by simpa [rows] using rows_get ss fs i _ _ (by simpa using h1) (by simpa using h2)
theorem rows_set:∀ (ss:List Sl) (fs:List (List Int)) (i:Nat) (s:Sl) (f:List Int),ss[i]? = some s->(rows ss fs).set i (vU s f) = rows ss (fs.set i f)
 | [],_,_,_,_,h=>by simp at h
 | s::ss,[],i,_,_,_=>by simp [rows]
 | s::ss,g::fs,0,_,_,h1=>by simp at h1; subst h1; rfl
 | s::ss,g::fs,i + 1,_,_,h1=>by simp only [rows,set_cons_succ]; rw [rows_set ss fs i _ _ (by simpa using h1)]
theorem rows_app (s:Sl) (f:List Int):∀ (ss:List Sl) (fs:List (List Int)),ss.length = fs.length->rows (ss++[s]) (fs++[f]) = rows ss fs++[vU s f]
 | [],[],_=>rfl
 | [],_::_,h=>by simp at h
 | _::_,[],h=>by simp at h
 | a::ss,b::fs,h=>by simp only [List.cons_append,rows]; rw [rows_app s f ss fs (by simpa using h)]
def yl (b:Nat) (s:Sl) (ss:List Sl) (fs:List (List Int)):List As:=blk b mI [sv s]::vec bg 1 cS s ss::rows ss fs
structure MemOk (ss:List Sl) (fs:List (List Int)):Prop where
 len:ss.length = fs.length
 le:fs.length <= 16
 row:∀ f ∈ fs,f.length = 16
def iV (x:Ptr) (fs:List (List Int)):As:=fun h=>∃ bs:Nat × Sl × List Sl,(x = some (bs.1,0)/\MemOk bs.2.2 fs)/\aB (yl bs.1 bs.2.1 bs.2.2 fs) h
theorem mem_op {x:Ptr} {fs:List (List Int)} {l:List As} {h:Hp} (s0:aB (iV x fs::l) h):∃ b s ss,x = some (b,0)/\MemOk ss fs/\s.len = fs.length/\aB (yl b s ss fs++l) h:=by
 obtain ⟨⟨b,s,ss⟩,⟨hx,hb⟩,st⟩:=op_ s0;exact ⟨b,s,ss,hx,hb,(cj (j:=1) st rfl).1.trans hb.len,st⟩
theorem mem_cl {b:Nat} {s:Sl} {ss:List Sl} {fs:List (List Int)} {l:List As} {h:Hp} (hb:MemOk ss fs) (st:aB (yl b s ss fs++l) h):aB (iV (some (b,0)) fs::l) h:=cl_ (b,s,ss) ⟨rfl,hb⟩ st
theorem tq {b:Nat} {s:Sl} {ss:List Sl} {fs:List (List Int)} {h:Hp} (hb:MemOk ss fs) (st:aB (yl b s ss fs) h):aB [iV (some (b,0)) fs] h:=mem_cl hb (by rw [append_nil]; exact st)
namespace Mem
def has (fs:List (List Int)) (f a:Int):Prop:=0 <= f/\f < fs.length/\0 <= a/\a < 16
instance (fs:List (List Int)) (f a:Int):Decidable (has fs f a):=by unfold has; infer_instance
def word (fs:List (List Int)) (f a:Int):Int:=(fs.getD f.toNat []).getD a.toNat 0
def load (fs:List (List Int)) (f a:Int):Int × Bool:=if has fs f a then (word fs f a,true) else (0,false)
def put (fs:List (List Int)) (f a v:Int):List (List Int):=fs.set f.toNat ((fs.getD f.toNat []).set a.toNat v)
def store (fs:List (List Int)) (f a v:Int):Bool × List (List Int):=if has fs f a then (true,put fs f a v) else (false,fs)
end Mem
theorem su (x:Sl):(cS x).length = 1:=rfl
def memAt (ss:List Sl) (fs:List (List Int)) (f a:Int) (r:Ptr):Prop :=
 if Mem.has fs f a then ∃ s q,ss[f.toNat]? = some s/\s.a = some q/\r = some (q.1,q.2 + a.toNat * 1) else r = none
theorem sp_mem_at (b:Nat) (s:Sl) (ss:List Sl) (fs:List (List Int)) (hb:MemOk ss fs) (f a:Int):Sp prog mT [pv (some (b,0)),.int .i64 f,.int .i64 a] tL (yl b s ss fs) (fun r=>pa_ (memAt ss fs f a r) (yl b s ss fs)):=by
 intro h st;refine sim_mem_Mem_at _ _ _ ?_;unfold sh_mem_Mem_at;have hno:∀ {p:Prop},¬ p->(Mem.has fs f a->p)->memAt ss fs f a none:=fun hp himp=>by unfold memAt; rw [if_neg (fun hh=>hp (himp hh))]
 have hl:s.len = fs.length:=(cj (j:=1) st rfl).1.trans hb.len;refine aY (fun k=>?_) (fun k=>?_)
 ·have h0:0 <= f:=by simpa using k
  unfold cl;refine sim_mem_Mem_Frames _ ?_;unfold va;refine dx rfl (cO (bq s st (i:=0) rfl rfl rfl ?_));refine aY (fun k2=>?_) (fun k2=>?_)
  ·have k2':¬ (f < fs.length/\0 <= a/\a < 16):=by simp [hl] at k2; omega
   exact ba (hno k2' (fun hh=>hh.2)) st
  ·have k2':f < fs.length/\0 <= a/\a < 16:=by simp [hl] at k2; omega
   obtain ⟨n,rfl⟩:=Int.eq_ofNat_of_zero_le h0;have hn:n < ss.length:=by rw [hb.len]; omega
   have hf:n < fs.length:=by omega
   refine cO (bq s st (i:=0) rfl rfl rfl ?_);refine dk st (j:=1) rfl (by omega) (by omega) fun q hq=>?_;refine dD (j:=1) (i:=n) (k:=0) ss[n] su st rfl hq (by simp) (aF hn) (by simp) ?_;have hr:(yl b s ss fs)[2 + n]? = some (vU ss[n] fs[n]):=by
    show (blk b mI [sv s]::vec bg 1 cS s ss::rows ss fs)[2 + n]? = _;rw [add_comm,getElem?_cons_succ,getElem?_cons_succ];exact rows_get ss fs n _ _ (aF hn) (aF hf)
   have hlen:fs[n].length = 16:=hb.row _ (getElem_mem hf);refine dk st (j:=2 + n) hr (by omega) (by omega) fun q2 hq2=>?_;refine ba ?_ st;unfold memAt;rw [if_pos ⟨h0,k2'⟩];exact ⟨ss[n],q2,by simp [hn],hq2,rfl⟩
 ·have k':¬ 0 <= f:=by simpa using k
  exact ba (hno k' (fun hh=>hh.1)) st
theorem rD (x:Ptr) (fs:List (List Int)) (f a:Int):Sp prog iR [pv x,.int .i64 f,.int .i64 a] bN [iV x fs] (fun r=>pa_ (r = Mem.load fs f a) [iV x fs]):=by
 intro h s0;obtain ⟨b,s,ss,rfl,hb,hl,st⟩:=mem_op s0;refine sim_mem_Mem_Load _ _ _ ?_;unfold sh_mem_Mem_Load;rw [append_nil] at st;refine cZ (rest:=[]) [] (sp_mem_at b s ss fs hb f a) st (append_nil _).symm fun r h' s1=>?_;obtain ⟨hr,s2⟩:=bt.1 s1;rw [append_nil] at s2;by_cases hh:Mem.has fs f a
 ·unfold memAt at hr;rw [if_pos hh] at hr;obtain ⟨sr,q,h1,h2,rfl⟩:=hr;obtain ⟨g1,g2,g3,g4⟩:=hh;have hf:f.toNat < fs.length:=by omega
  have hrow:(yl b s ss fs)[2 + f.toNat]? = some (vU sr fs[f.toNat]):=by
   show (blk b mI [sv s]::vec bg 1 cS s ss::rows ss fs)[2 + f.toNat]? = _;rw [add_comm,getElem?_cons_succ,getElem?_cons_succ];exact rows_get ss fs _ _ _ h1 (aF hf)
  have hlen:fs[f.toNat].length = 16:=hb.row _ (getElem_mem hf);have ha:a.toNat < fs[f.toNat].length:=by omega
  refine dx rfl (cO ?_);refine dD (j:=2 + f.toNat) (i:=a.toNat) (k:=0) (q:=q) fs[f.toNat][a.toNat] (ck _) s2 hrow h2 (by simp) (aF ha) (by simp) ?_;refine ba ?_ (tq hb s2);unfold Mem.load;rw [if_pos ⟨g1,g2,g3,g4⟩];simp [Mem.word,hf,ha]
 ·unfold memAt at hr;rw [if_neg hh] at hr;subst hr;refine dW rfl ?_;refine ba ?_ (tq hb s2);unfold Mem.load;rw [if_neg hh]
theorem mK (x:Ptr) (fs:List (List Int)) (f a v:Int):Sp prog fY [pv x,.int .i64 f,.int .i64 a,.int .u64 v] aC [iV x fs] (fun r=>pa_ (r = (Mem.store fs f a v).1) [iV x (Mem.store fs f a v).2]):=by
 intro h s0;obtain ⟨b,s,ss,rfl,hb,hl,st⟩:=mem_op s0;refine sim_mem_Mem_Store _ _ _ _ ?_;unfold wN;rw [append_nil] at st;refine cZ (rest:=[]) [] (sp_mem_at b s ss fs hb f a) st (append_nil _).symm fun r h' s1=>?_;obtain ⟨hr,s2⟩:=bt.1 s1;rw [append_nil] at s2;by_cases hh:Mem.has fs f a
 ·unfold memAt at hr;rw [if_pos hh] at hr;obtain ⟨sr,q,h1,h2,rfl⟩:=hr;have e:Mem.store fs f a v = (true,Mem.put fs f a v):=if_pos hh;rw [e];obtain ⟨g1,g2,g3,g4⟩:=hh;have hf:f.toNat < fs.length:=by omega
  have hrow:(yl b s ss fs)[2 + f.toNat]? = some (vU sr fs[f.toNat]):=by
   show (blk b mI [sv s]::vec bg 1 cS s ss::rows ss fs)[2 + f.toNat]? = _;rw [add_comm,getElem?_cons_succ,getElem?_cons_succ];exact rows_get ss fs _ _ _ h1 (aF hf)
  have hlen:fs[f.toNat].length = 16:=hb.row _ (getElem_mem hf);have ha:a.toNat < fs[f.toNat].length:=by omega
  refine dx rfl (cO ?_);refine uJ (j:=2 + f.toNat) (i:=a.toNat) (k:=0) (q:=q) v (ck _) s2 hrow h2 (by simp) (aF ha) (by simp) rfl fun h3 s3=>?_;have eI:(yl b s ss fs).set (2 + f.toNat) (vU sr (fs[f.toNat].set a.toNat v)) = yl b s ss (Mem.put fs f a v):=by
   show (blk b mI [sv s]::vec bg 1 cS s ss::rows ss fs).set (2 + f.toNat) _ = _;rw [add_comm,set_cons_succ,set_cons_succ,rows_set ss fs _ _ _ h1];simp [yl,Mem.put,hf]
  rw [eI] at s3;refine ba rfl (tq ⟨by simp [Mem.put,hb.len],by simpa [Mem.put] using hb.le,?_⟩ s3);intro g hg;unfold Mem.put at hg;rcases List.mem_or_eq_of_mem_set hg with h4 | h4
  ·exact hb.row _ h4
  ·rw [h4]; simp [hf,hlen]
 ·unfold memAt at hr;rw [if_neg hh] at hr;subst hr;have e:Mem.store fs f a v = (false,fs):=if_neg hh;rw [e];exact dW rfl (ba rfl (tq hb s2))
namespace Mem
def cas (fs:List (List Int)) (f a o v:Int):(Int × Bool) × List (List Int) :=
 (load fs f a,if (load fs f a).2 && ((load fs f a).1 == o) then (store fs f a v).2 else fs)
def add (fs:List (List Int)) (f a v:Int):(Int × Bool) × List (List Int) :=
 (load fs f a,(store fs f a (u64.wrap ((load fs f a).1 + v))).2)
def zero (fs:List (List Int)) (f:Int):Bool × List (List Int) :=
 if has fs f 0 then (true,fs.set f.toNat (replicate 16 0)) else (false,fs)
def frame (fs:List (List Int)) (f:Int):List Int:=if has fs f 0 then fs.getD f.toNat [] else []
end Mem
theorem sp_mem_Cas (x:Ptr) (fs:List (List Int)) (f a o v:Int):Sp prog rj [pv x,.int .i64 f,.int .i64 a,.int .u64 o,.int .u64 v] bN [iV x fs] (fun r=>pa_ (r = (Mem.cas fs f a o v).1) [iV x (Mem.cas fs f a o v).2]):=by
 intro h s0;refine sim_mem_Mem_Cas _ _ _ _ _ ?_;unfold sh_mem_Mem_Cas;refine cZ [0] (rD x fs f a) s0 rfl fun r h' s1=>?_;obtain ⟨hr,s2⟩:=bt.1 s1;subst hr;refine aY (fun k=>?_) (fun k=>?_)
 ·refine cZ [0] (mK x fs f a v) s2 rfl fun r h' s3=>?_;obtain ⟨_,s4⟩:=bt.1 s3;refine ba rfl ?_;simp only [Mem.cas,k,if_true];exact s4
 ·refine ba rfl ?_;simp only [Mem.cas,k,Bool.false_eq_true,if_false];exact s2
theorem sp_mem_Add (x:Ptr) (fs:List (List Int)) (f a v:Int):Sp prog rl [pv x,.int .i64 f,.int .i64 a,.int .u64 v] bN [iV x fs] (fun r=>pa_ (r = (Mem.add fs f a v).1) [iV x (Mem.add fs f a v).2]):=by
 intro h s0;refine sim_mem_Mem_Add _ _ _ _ ?_;unfold sh_mem_Mem_Add;refine cZ [0] (rD x fs f a) s0 rfl fun r h' s1=>?_;obtain ⟨hr,s2⟩:=bt.1 s1;subst hr;refine cZ [0] (mK x fs f a _) s2 rfl fun r h' s3=>?_;obtain ⟨_,s4⟩:=bt.1 s3;exact ba rfl s4
theorem sp_slices_Clone (s:Sl) (xs:List Int) (hb:xs.length < 2 ^ 40):Sp prog hO [sv s] cg [vU s xs] (fun r=>aB [vU r xs,vU s xs]):=by
 intro h s0;refine qQ _ ?_;unfold kB;refine aY (fun k=>?_) (fun k=>?_)
 ·have hn:xs = []:=by
   obtain ⟨_,⟨e1,e2,e3⟩,_⟩:=eM (i:=0) rfl s0;rcases e3 with e3 | ⟨b,pre,rest,U,fr,h4,_⟩
   ·exact List.eq_nil_of_length_eq_zero (by omega)
   ·rw [h4] at k; cases k
  subst hn;exact gg s0
 ·refine ft (τ:=Int) [] (val:=fun x=>.int .u64 x) (enc:=cI .u64) gw (ck _) (fun _=>rfl) s0 rfl rfl (by simp) fun y h' s1=>?_;refine uG (τ:=Int) (i:=0) (j:=1) (enc:=cI .u64) (xs:=[]) (ys:=xs) gw gw.sl (ck _) (oneI _) s1 rfl rfl (by omega) (by simp; omega) (by simp; omega) fun v h2 s2=>?_;exact s2
theorem mem_has {ss:List Sl} {fs:List (List Int)} {f a:Int} {r:Ptr} (hr:memAt ss fs f a r):(Mem.has fs f a↔r ≠ none):=by
 unfold memAt at hr;split at hr
 ·obtain ⟨s,q,_,_,rfl⟩:=hr; simp [*]
 ·simp [*]
theorem mem_row {b:Nat} {s:Sl} {ss:List Sl} {fs:List (List Int)} {i:Nat} (hb:MemOk ss fs) (hi:i < fs.length):∃ sr,ss[i]? = some sr/\(yl b s ss fs)[2 + i]? = some (vU sr fs[i]):=by
 have hn:i < ss.length:=by rw [hb.len]; exact hi
 refine ⟨ss[i],aF hn,?_⟩;show (blk b mI [sv s]::vec bg 1 cS s ss::rows ss fs)[2 + i]? = _;rw [add_comm,getElem?_cons_succ,getElem?_cons_succ];exact rows_get ss fs i _ _ (aF hn) (aF hi)
theorem mem_set {b:Nat} {s:Sl} {ss:List Sl} {fs:List (List Int)} {i:Nat} {sr:Sl} {g:List Int} (h1:ss[i]? = some sr):(yl b s ss fs).set (2 + i) (vU sr g) = yl b s ss (fs.set i g):=by
 show (blk b mI [sv s]::vec bg 1 cS s ss::rows ss fs).set (2 + i) _ = _;rw [add_comm,set_cons_succ,set_cons_succ,rows_set ss fs _ _ _ h1]; rfl
theorem mem_ok_set {ss:List Sl} {fs:List (List Int)} {i:Nat} {g:List Int} (hb:MemOk ss fs) (hg:g.length = 16):MemOk ss (fs.set i g) :=
 ⟨by simp [hb.len],by simpa using hb.le,fun f hf=>by
  rcases List.mem_or_eq_of_mem_set hf with h4 | h4
  ·exact hb.row _ h4
  ·rw [h4]; exact hg⟩
theorem sp_mem_Zero (x:Ptr) (fs:List (List Int)) (f:Int):Sp prog uk [pv x,.int .i64 f] aC [iV x fs] (fun r=>pa_ (r = (Mem.zero fs f).1) [iV x (Mem.zero fs f).2]):=by
 intro h s0;obtain ⟨b,s,ss,rfl,hb,hl,st⟩:=mem_op s0;refine sim_mem_Mem_Zero _ _ ?_;unfold sh_mem_Mem_Zero;rw [append_nil] at st;refine cZ (rest:=[]) [] (sp_mem_at b s ss fs hb f 0) st (append_nil _).symm fun r h' s1=>?_;obtain ⟨hr,s2⟩:=bt.1 s1;rw [append_nil] at s2;have hh:=mem_has hr;refine aY (fun k=>?_) (fun k=>?_)
 ·have:¬ Mem.has fs f 0:=by rw [hh]; cases r <;> simp_all
  have e:Mem.zero fs f = (false,fs):=if_neg this;rw [e];exact ba rfl (tq hb s2)
 ·have hy:Mem.has fs f 0:=by rw [hh]; cases r <;> simp_all
  have e:Mem.zero fs f = (true,fs.set f.toNat (replicate 16 0)):=if_pos hy;rw [e];obtain ⟨g1,g2,_⟩:=hy;obtain ⟨n,rfl⟩:=Int.eq_ofNat_of_zero_le g1;have hf:n < fs.length:=by omega
  obtain ⟨sr,h1,hrow⟩:=mem_row (b:=b) (s:=s) hb hf;have hn:n < ss.length:=by rw [hb.len]; exact hf
  refine cO (bq s s2 (i:=0) rfl rfl rfl ?_);refine dk s2 (j:=1) rfl (by omega) (by omega) fun q hq=>?_;refine dD (j:=1) (i:=n) (k:=0) sr su s2 rfl hq (by simp) h1 (by simp) ?_;refine clear_v (τ:=Int) (x0:=0) (enc:=cI .u64) gw rfl (ck _) (oneI _) s2 hrow fun h3 s3=>?_;rw [mem_set h1,hb.row _ (getElem_mem hf)] at s3;exact ba rfl (tq (mem_ok_set hb (by simp)) s3)
theorem sp_mem_Frame (x:Ptr) (fs:List (List Int)) (f:Int):Sp prog si [pv x,.int .i64 f] cg [iV x fs] (fun r=>aB [vU r (Mem.frame fs f),iV x fs]):=by
 intro h s0;obtain ⟨b,s,ss,rfl,hb,hl,st⟩:=mem_op s0;refine sim_mem_Mem_Frame _ _ ?_;unfold wO;rw [append_nil] at st;refine cZ (rest:=[]) [] (sp_mem_at b s ss fs hb f 0) st (append_nil _).symm fun r h' s1=>?_;obtain ⟨hr,s2⟩:=bt.1 s1;rw [append_nil] at s2;have hh:=mem_has hr;refine aY (fun k=>?_) (fun k=>?_)
 ·have:¬ Mem.has fs f 0:=by rw [hh]; cases r <;> simp_all
  have e:Mem.frame fs f = []:=if_neg this;rw [e];exact gg (tq hb s2)
 ·have hy:Mem.has fs f 0:=by rw [hh]; cases r <;> simp_all
  have e:Mem.frame fs f = fs.getD f.toNat []:=if_pos hy;rw [e];obtain ⟨g1,g2,_⟩:=hy;obtain ⟨n,rfl⟩:=Int.eq_ofNat_of_zero_le g1;have hf:n < fs.length:=by omega
  obtain ⟨sr,h1,hrow⟩:=mem_row (b:=b) (s:=s) hb hf;have hn:n < ss.length:=by rw [hb.len]; exact hf
  have hlen:=hb.row _ (getElem_mem hf);refine cO (bq s s2 (i:=0) rfl rfl rfl ?_);refine dk s2 (j:=1) rfl (by omega) (by omega) fun q hq=>?_;refine dD (j:=1) (i:=n) (k:=0) sr su s2 rfl hq (by simp) h1 (by simp) ?_;have hp:pick [2 + n] (yl b s ss fs) = [vU sr fs[n]]++(yl b s ss fs).eraseIdx (2 + n):=by
   unfold pick; rw [hrow]; rfl
  refine cZ [2 + n] (sp_slices_Clone sr fs[n] (by omega)) s2 hp fun r2 h3 s3=>?_;have e2:fs.getD (n:Int).toNat [] = fs[n]:=by simp [hf]
  rw [e2];have hlt:=(List.getElem?_eq_some_iff.1 hrow).1;refine star_tail (dH s3) fun h4 s4=>?_;have s5:=ff hlt s4;rw [mem_set h1] at s5;exact tq hb (by simpa using s5)
theorem sp_mem_New (n:Int) (h1:¬ n < 1) (h2:¬ n > 16):Sp prog xa [.int .i64 n] uI [] (fun r=>aB [iV r (replicate n.toNat (replicate 16 0))]):=by
 intro h st;refine sim_mem_New _ ?_;unfold sh_mem_New;obtain ⟨m,rfl⟩:=Int.eq_ofNat_of_zero_le (show 0 <= n by omega);refine dx (by simp; omega) ?_;refine pL st fun b h' s1=>?_;refine Lp.intro (fun (i:Int) h=>∃ (k:Nat) (s:Sl) (ss:List Sl),i = k/\k <= m/\ss.length = k/\aB (yl b s ss (replicate k (replicate 16 0))) h) (fun (i:Int) _=>m - i.toNat)
  ⟨0,⟨none,0,0,none⟩,[],rfl,Nat.zero_le _,rfl,bd [1] (gg s1) rfl⟩ ?_
 rintro i h ⟨k,s,ss,rfl,hk,hss,s2⟩;unfold mem_New_l1;refine aY (fun c=>?_) (fun c=>?_)
 ·have hlt:k < m:=by simpa using c
  have hw:i64.wrap ((k:Int) + 1) = ((k + 1:Nat):Int):=by rw [bm (by omega) (by omega)]; rfl
  refine bq s s2 (i:=0) rfl rfl rfl ?_;refine oO (τ:=Int) (x0:=0) (enc:=cI .u64) (n:=16) gw rfl s2 (by omega) (by omega) fun v h3 s3=>?_;refine ft (τ:=Sl) [v] (val:=sv) (enc:=cS) vR su (fun _=>rfl) s3 rfl rfl (by simp) fun y h4 s4=>?_;refine uG (τ:=Sl) (i:=3) (j:=0) (enc:=cS) (xs:=ss) (ys:=[v]) vR vR.sl su oneS s4 rfl rfl (by omega) (by simp; omega) (by simp; omega) fun w h5 s5=>?_;refine vZ (i:=2) s5 rfl (Nat.le_refl _) fun h6 s6=>?_;rw [hw];refine ⟨⟨k + 1,w,ss++[v],rfl,hlt,by simp [hss],?_⟩,by simp; omega⟩;have s7:aB (vU v (replicate 16 0)::blk b mI [sv w]::vec bg 1 cS w (ss++[v])::rows ss (replicate k (replicate 16 0))) h6:=bY (l:=[vec bg 1 cS y [v]]) s6;have s8:=bd [1,1] s7 rfl;unfold yl;rw [show replicate (k + 1) (replicate 16 (0:Int)) = replicate k (replicate 16 0)++[replicate 16 0] from by simp [List.replicate_succ'],rows_app _ _ _ _ (by simp [hss])];exact li (.cons _ (.cons _ (List.perm_append_comm (l₁:=[_])))) s8
 ·have:k = m:=by simp at c; omega
  subst this;exact tq ⟨by simp [hss],by simp; omega,fun f hf=>by rw [(List.mem_replicate.1 hf).2]; simp⟩ s2
end
section
open Go Mb
def nz (a0:Int) (K:kT Sl) (s27:Bool):hT:=br s27 ( hpv prog (Instr.buildSlice dT 3 #[(0,(.int .i64 1)),(1,(.int .i64 2)),(2,(.int .i64 6))]) cJ fun (v33:Sl)=>K v33) ( br (a0 == 22) ( hpv prog (Instr.buildSlice dT 4 #[(0,(.int .i64 1)),(1,(.int .i64 2)),(2,(.int .i64 6)),(3,(.int .i64 6))]) cJ fun (v36:Sl)=>K v36) ( K (⟨none,0,0,none⟩:Sl)))
def jH (a0:Int) (K:kT Sl) (s1:Bool):hT:=br s1 ( hpv prog (Instr.buildSlice dT 1 #[(0,(.int .i64 0))]) cJ fun (v8:Sl)=>K v8) ( br (a0 == 2) ( hpv prog (Instr.buildSlice dT 3 #[(0,(.int .i64 0)),(1,(.int .i64 0)),(2,(.int .i64 4))]) cJ fun (v11:Sl)=>K v11) ( br (a0 == 3) ( hpv prog (Instr.buildSlice dT 4 #[(0,(.int .i64 0)),(1,(.int .i64 3)),(2,(.int .i64 0)),(3,(.int .i64 4))]) cJ fun (v14:Sl)=>K v14) ( br (a0 == 6) ( hpv prog (Instr.buildSlice dT 3 #[(0,(.int .i64 1)),(1,(.int .i64 0)),(2,(.int .i64 4))]) cJ fun (v17:Sl)=>K v17) ( br (a0 == 7) ( hpv prog (Instr.buildSlice dT 1 #[(0,(.int .i64 1))]) cJ fun (v20:Sl)=>K v20) ( br (a0 == 8) ( hpv prog (Instr.buildSlice dT 2 #[(0,(.int .i64 1)),(1,(.int .i64 4))]) cJ fun (v23:Sl)=>K v23) ( br (a0 == 9) ( hpv prog (Instr.buildSlice dT 4 #[(0,(.int .i64 0)),(1,(.int .i64 2)),(2,(.int .i64 5)),(3,(.int .i64 6))]) cJ fun (v26:Sl)=>K v26) ( br (a0 == 20) ( hpv prog (Instr.buildSlice dT 2 #[(0,(.int .i64 1)),(1,(.int .i64 2))]) cJ fun (v29:Sl)=>K v29) ( br (a0 == 21) ( nz a0 K (a0 == 21)) ( nz a0 K (a0 == 23))))))))))
def sh_word_kinds (a0:Int) (K:kT Sl):hT:=br (a0 == 1) ( jH a0 K (a0 == 1)) ( br (a0 == 4) ( jH a0 K (a0 == 4)) ( jH a0 K (a0 == 5)))
theorem sim_word_kinds (a0:Int) {K:kT Sl} {h:Hp} (H:sh_word_kinds a0 K h):cl prog tm [(.int .i64 a0)] cJ K h:=z_i func115 p p fun _=>O<|U p<|am<|O<|M p<|ad<|ax<|eu (jH a0 K) (fun s1=>[(3,(.int .i64 a0)),(4,(.bool s1))]) (fun s1=>[]) (O<|J (bP p p)<|U p<|aw p H (fun k37 H38=>an<|cE (a0 == 1) H38 (.cons p<|.cons p<|.nil _) .slnil) fun k37 H38=>O<|J (bP p p)<|U p<|aw p H38 (fun k39 H40=>an<|cE (a0 == 4) H40 (.cons p<|.cons p<|.nil _) .slnil) fun k39 H40=>aq<|J (bP p p)<|U p<|cE (a0 == 5) H40 (.cons p<|.cons p<|.nil _) .slnil) fun s1 _ H2=>aw p H2 (fun k3 H4=>O<|aa<|aT H4 (bw (vs:=[(.int .i64 0)]) p) p fun v8 _ H5=>U p<|aj<|Z ⟨v8,p,H5⟩) fun k3 H4=>O<|J (bP p p)<|U p<|aw p H4 (fun k6 H7=>O<|aa<|aT H7 (bw (vs:=[(.int .i64 0),(.int .i64 0),(.int .i64 4)]) p) p fun v11 _ H8=>U p<|aj<|Z ⟨v11,p,H8⟩) fun k6 H7=>O<|J (bP p p)<|U p<|aw p H7 (fun k9 H10=>O<|aa<|aT H10 (bw (vs:=[(.int .i64 0),(.int .i64 3),(.int .i64 0),(.int .i64 4)]) p) p fun v14 _ H11=>U p<|aj<|Z ⟨v14,p,H11⟩) fun k9 H10=>O<|J (bP p p)<|U p<|aw p H10 (fun k12 H13=>O<|aa<|aT H13 (bw (vs:=[(.int .i64 1),(.int .i64 0),(.int .i64 4)]) p) p fun v17 _ H14=>U p<|aj<|Z ⟨v17,p,H14⟩) fun k12 H13=>O<|J (bP p p)<|U p<|aw p H13 (fun k15 H16=>O<|aa<|aT H16 (bw (vs:=[(.int .i64 1)]) p) p fun v20 _ H17=>U p<|aj<|Z ⟨v20,p,H17⟩) fun k15 H16=>O<|J (bP p p)<|U p<|aw p H16 (fun k18 H19=>O<|aa<|aT H19 (bw (vs:=[(.int .i64 1),(.int .i64 4)]) p) p fun v23 _ H20=>U p<|aj<|Z ⟨v23,p,H20⟩) fun k18 H19=>O<|J (bP p p)<|U p<|aw p H19 (fun k21 H22=>O<|aa<|aT H22 (bw (vs:=[(.int .i64 0),(.int .i64 2),(.int .i64 5),(.int .i64 6)]) p) p fun v26 _ H23=>U p<|aj<|Z ⟨v26,p,H23⟩) fun k21 H22=>O<|J (bP p p)<|U p<|aw p H22 (fun k24 H25=>O<|aa<|aT H25 (bw (vs:=[(.int .i64 1),(.int .i64 2)]) p) p fun v29 _ H26=>U p<|aj<|Z ⟨v29,p,H26⟩) fun k24 H25=>eu (nz a0 K) (fun s27=>[(3,(.int .i64 a0)),(30,(.bool s27))]) (fun s27=>[]) (O<|J (bP p p)<|U p<|aw p H25 (fun k35 H36=>an<|cE (a0 == 21) H36 (.cons p<|.cons p<|.nil _) .slnil) fun k35 H36=>aq<|J (bP p p)<|U p<|cE (a0 == 23) H36 (.cons p<|.cons p<|.nil _) .slnil) fun s27 _ H28=>aw p H28 (fun k29 H30=>O<|aa<|aT H30 (bw (vs:=[(.int .i64 1),(.int .i64 2),(.int .i64 6)]) p) p fun v33 _ H31=>U p<|aj<|Z ⟨v33,p,H31⟩) fun k29 H30=>O<|J (bP p p)<|U p<|aw p H30 (fun k32 H33=>O<|aa<|aT H33 (bw (vs:=[(.int .i64 1),(.int .i64 2),(.int .i64 6),(.int .i64 6)]) p) p fun v36 _ H34=>U p<|aj<|Z ⟨v36,p,H34⟩) fun k32 H33=>an<|O<|U p<|aj<|Z ⟨(⟨none,0,0,none⟩:Sl),p,H33⟩
def uO (a0:ah) (a1:Int) (K:kT (Int × Bool)) (s1:Bool):hT:=br s1 ( K (0,false)) ( gd (0 <= a1/\a1 < 5)<|K ((i64.wrap (ah.get a0 a1)),true))
def sh_word_Arg (a0:ah) (a1:Int) (a2:Int) (K:kT (Int × Bool)):hT:=br (!(((decide (a1 < 1)) || (decide (a1 >= 5))) || (decide (a2 <= 0)))) ( gd (0 <= a1/\a1 < 5)<|uO a0 a1 K (decide ((ah.get a0 a1) >= (u64.wrap a2)))) ( uO a0 a1 K true)
theorem sim_word_Arg (a0:ah) (a1:Int) (a2:Int) {K:kT (Int × Bool)} {h:Hp} (H:sh_word_Arg a0 a1 a2 K h):cl prog oa [(.agg (ah.C a0).toArray),(.int .i64 a1),(.int .i64 a2)] bQ K h:=z_i func123 p p fun _=>O<|aa<|cX (l:=ah.C a0) p p p fun b3=>J (av p)<|U p<|am<|eu (uO a0 a1 K) (fun s1=>[(1,(.int .i64 a1)),(3,(.pointer (some ⟨b3,0,none⟩))),(25,(.bool s1))]) (fun s1=>[bx b3 33 (ah.C a0)]) (aq<|M p<|J (cn p p)<|M p<|W p p (aN _) (fun g7=>wv<|ai p)<|W p p (aN _) (fun g8=>wv<|kx (aD p g8) p)<|J (dC p p)<|M p<|W p p (aN _) (fun g9=>wv<|ai p)<|W p p (aN _) (fun g10=>wv<|v_le (aD p g10) p)<|J (dC p p)<|M p<|W p p (aN _) (fun g11=>wv<|ai p)<|bW H (fun k13 H14=>ji H14 fun h15 H16=>G (F<|cm k13)<|z_p (bD dq p (aD p k13) h15)<|G (F<|cm k13)<|uf (cv<|be (k:=0) cG p p<|at_33 _ _ h15) p<|G (F<|cm k13)<|z_p (ai p)<|G (F<|cm k13)<|z_p (dy ⟨_,underlying3⟩ underlying31 p)<|G (F<|cm k13)<|z_p (kx p p)<|J (au p (cm k13) p)<|ad<|cE (decide ((ah.get a0 a1) >= (u64.wrap a2))) H16 (.cons p<|.cons p<|.cons p<|.nil _)<|.cons_cons _ .slnil) fun k13 H14=>Y (cf<|bK k13)<|Y (cf<|bK k13)<|Y (cf<|bK k13)<|Y (cf<|bK k13)<|Y (cf<|bK k13)<|J (aU p (bK k13) p)<|ad<|cE true H14 (.cons p<|.cons p<|.cons p<|.nil _)<|.cons_cons _ .slnil) fun s1 _ H2=>aw p H2 (fun k3 H4=>O<|J (av p)<|U p<|aj<|bB (bR p (cd p)<|cd p) ⟨(0,false),p,H4⟩) fun k3 H4=>an<|O<|M p<|ji H4 fun h5 H6=>J (bD dq p p h5)<|bn (be (k:=0) cG p p<|at_33 _ _ h5) p<|J (dy ⟨_,underlying31⟩ underlying3 p)<|J (av p)<|U p<|aj<|bB (bR p (cd p)<|cd p) ⟨((i64.wrap (ah.get a0 a1)),true),p,H6⟩
def sh_word_fits (a0:ah) (a1:Int) (a2:Int) (a3:Int) (K:kT Bool):hT:=br (a2 == 0) ( cl prog oa [(.agg (ah.C a0).toArray),(.int .i64 a1),(.int .i64 8)] bQ fun r16=>K r16.2) ( br (a2 == 1) ( cl prog oa [(.agg (ah.C a0).toArray),(.int .i64 a1),(.int .i64 8)] bQ fun r24=>K r24.2) ( br (a2 == 2) ( cl prog oa [(.agg (ah.C a0).toArray),(.int .i64 a1),(.int .i64 16)] bQ fun r32=>K r32.2) ( br (a2 == 3) ( cl prog oa [(.agg (ah.C a0).toArray),(.int .i64 a1),(.int .i64 a3)] bQ fun r41=>K r41.2) ( br (a2 == 4) ( gd (0 <= a1/\a1 < 5)<|K ((iP (ah.get a0 a1)).2)) ( br (a2 == 5) ( gd (0 <= a1/\a1 < 5)<|K ((decide ((ah.get a0 a1) >= 1)) && (decide ((ah.get a0 a1) <= 4)))) ( K true))))))
theorem sim_word_fits (a0:ah) (a1:Int) (a2:Int) (a3:Int) {K:kT Bool} {h:Hp} (H:sh_word_fits a0 a1 a2 a3 K h):cl prog n_word_fits [(.agg (ah.C a0).toArray),(.int .i64 a1),(.int .i64 a2),(.int .i64 a3)] aC K h:=z_i func116 p p fun _=>O<|aa<|cX (l:=ah.C a0) p p p fun b4=>U p<|O<|U p<|am<|O<|M p<|ad<|ax<|O<|J (bP p p)<|U p<|aw p H (fun k1 H2=>aq<|bn (bH (k:=0) fI p p p p) p<|M p<|aa<|D H2 en_123 fun r16 _ H3=>M p<|J (ak p p)<|J (ak p p)<|U p<|O<|M p<|U p<|aj<|Z ⟨r16.2,p,H3⟩) fun k1 H2=>O<|J (bP p p)<|U p<|aw p H2 (fun k4 H5=>aq<|bn (bH (k:=0) fI p p p p) p<|M p<|aa<|D H5 en_123 fun r24 _ H6=>M p<|J (ak p p)<|J (ak p p)<|U p<|O<|M p<|U p<|aj<|Z ⟨r24.2,p,H6⟩) fun k4 H5=>O<|J (bP p p)<|U p<|aw p H5 (fun k7 H8=>aq<|bn (bH (k:=0) fI p p p p) p<|M p<|aa<|D H8 en_123 fun r32 _ H9=>M p<|J (ak p p)<|J (ak p p)<|U p<|O<|M p<|U p<|aj<|Z ⟨r32.2,p,H9⟩) fun k7 H8=>O<|J (bP p p)<|U p<|aw p H8 (fun k10 H11=>aq<|bn (bH (k:=0) fI p p p p) p<|M p<|M p<|aa<|D H11 en_123 fun r41 _ H12=>M p<|J (ak p p)<|J (ak p p)<|U p<|O<|M p<|U p<|aj<|Z ⟨r41.2,p,H12⟩) fun k10 H11=>O<|J (bP p p)<|U p<|aw p H11 (fun k13 H14=>aq<|M p<|ji H14 fun h15 H16=>J (bD dq p p h15)<|bn (be (k:=0) cG p p<|at_33 _ _ h15) p<|aa<|cW (vs:=[(.int .u64 (ah.get a0 a1))]) (bC<|ct_word_Rights (ah.get a0 a1) _) en_152 p p<|M p<|J (ak p p)<|J (ak p p)<|U p<|O<|M p<|U p<|aj<|Z ⟨(iP (ah.get a0 a1)).2,p,H16⟩) fun k13 H14=>O<|J (bP p p)<|U p<|aw p H14 (fun k17 H18=>aq<|M p<|ji H18 fun h19 H20=>J (bD dq p p h19)<|bn (be (k:=0) cG p p<|at_33 _ _ h19) p<|J (kx p p)<|M p<|W p p (ay _) (fun g21=>wv<|ai p)<|W p p (ay _) (fun g22=>wv<|bD dq p (aD p g22) h19)<|W p p (ay _) (fun g23=>cv<|be (k:=0) cG (aD p g23) p<|at_33 _ _ h19)<|W p p (ay _) (fun g24=>wv<|v_le (aD p g24) p)<|J (bO p p)<|U p<|O<|M p<|U p<|aj<|Z ⟨((decide ((ah.get a0 a1) >= 1)) && (decide ((ah.get a0 a1) <= 4))),p,H20⟩) fun k17 H18=>an<|O<|M p<|U p<|aj<|Z ⟨true,p,H18⟩
def vW (a0:ah) (a1:Int) (K:kT Int) (r17:Sl) (Rec5:kT Int) (s4:Int):hT:=br (decide (s4 < (r17.len:Int))) ( ix r17 s4 fun q22=>ld (q22.1,q22.2 + Int.toNat s4 * 1) (cI .i64) fun x23=>cl prog n_word_fits [(.agg (ah.C a0).toArray),(.int .i64 (i64.wrap (s4 + 1))),(.int .i64 x23),(.int .i64 a1)] aC fun r29=>br (!r29) ( K 2) ( Rec5 (i64.wrap (s4 + 1)))) ( K 0)
def sh_word_Check (a0:ah) (a1:Int) (K:kT Int):hT:=br (!(az a0).2) ( K 1) ( cl prog tm [(.int .i64 ((az a0).1))] cJ fun r17=>Lp (vW a0 a1 K r17) 0)
theorem sim_word_Check (a0:ah) (a1:Int) {K:kT Int} {h:Hp} (H:sh_word_Check a0 a1 K h):cl prog ir [(.agg (ah.C a0).toArray),(.int .i64 a1)] bj K h:=z_i func72 p p fun _=>O<|aa<|cX (l:=ah.C a0) p p p fun b2=>U p<|O<|bn (bH (k:=0) fI p p p p) p<|aa<|cW (vs:=[(.agg (ah.C a0).toArray)]) (bC<|kR a0 _) en_44 p p<|M p<|J (ak p p)<|J (ak p p)<|J (av p)<|U p<|am<|O<|M p<|J (cy p)<|ad<|aw p H (fun k1 H2=>O<|U p<|aj<|Z ⟨1,p,H2⟩) fun k1 H2=>an<|am<|O<|M p<|aa<|D H2 en_115 fun r17 _ H3=>J (dK p underlying27 p)<|M p<|ad<|ax<|bv (step:=vW a0 a1 K r17) (fun s4=>[(1,(.int .i64 a1)),(2,(.pointer (some ⟨b2,0,none⟩))),(17,(sv r17)),(18,(.int .i64 (r17.len:Int))),(19,(.int .i64 s4))]) (fun s4=>[bx b2 33 (ah.C a0)]) H3 (.cons p<|.cons p<|.cons p<|.cons p<|.cons p<|.nil _) (.cons_cons _ .slnil) fun Rec5 s4 _ H6=>O<|J (cn p p)<|ad<|am<|aw p H6 (fun k7 H8=>an<|am<|ax<|O<|M p<|cz H8 fun q22 e9 h10 H11=>J (bf dA (aJ p<|aX e9) p h10)<|aa<|aW H11 bc p (fun _=>p) p fun x23 H12=>J (av p)<|U p<|O<|bn (bH (k:=0) fI p p p p) p<|M p<|J (bk p p)<|M p<|M p<|aa<|D H12 en_116 fun r29 _ H13=>J (cy p)<|ad<|aw p H13 (fun k14 H15=>O<|U p<|aj<|Z ⟨2,p,H15⟩) fun k14 H15=>an<|aq<|J (bk p p)<|M p<|ad<|cF (i64.wrap (s4 + 1)) H15 (.cons p<|.cons p<|.cons p<|.cons p<|.cons p<|.nil _)<|.cons_cons _ .slnil) fun k7 H8=>bh<|O<|U p<|aj<|Z ⟨0,p,H8⟩
def sh_word_Args (a0:Int) (K:kT Int):hT:=cl prog tm [(.int .i64 a0)] cJ fun r4=>K (r4.len:Int)
theorem sim_word_Args (a0:Int) {K:kT Int} {h:Hp} (H:sh_word_Args a0 K h):cl prog n_word_Args [(.int .i64 a0)] eH K h:=z_i func174 p p fun _=>O<|U p<|O<|M p<|aa<|D H en_115 fun r4 _ H1=>J (dK p underlying27 p)<|U p<|aj<|Z ⟨(r4.len:Int),p,H1⟩
end
end Go.Proofs.YtochchocdckegaaGreatDoor
