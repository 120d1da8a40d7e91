/- Part of the proof of: The law ShootUnmap returns true for every input, and leaves its arguments as they were. -/
import Derived.Test.YtemoifebbhoinaaGreatDoorShootUnmap03
set_option linter.all false
set_option maxRecDepth 20000
namespace Go.Proofs.YtemoifebbhoinaaGreatDoor
open Go.Proofs.Tryz
open Go.IntKind (i64 u64)
open _root_.List (append_nil getElem?_cons_succ getElem_mem mem_cons replicate set_cons_succ)
open _root_.Nat (add_comm)
section
open Go
namespace Mb
def wQ {σ α:Type} (A:σ->α->As):List σ->List α->List As
 | p::ps,x::xs=>A p x::wQ A ps xs
 | _,_=>[]
section
variable {σ α:Type} {A:σ->α->As}
theorem objs_get:∀ {ps:List σ} {xs:List α} {i:Nat} {p:σ} {x:α},ps[i]? = some p->xs[i]? = some x->(wQ A ps xs)[i]? = some (A p x)
 | [],_,_,_,_,h,_=>by simp at h
 | _::_,[],_,_,_,_,h=>by simp at h
 | p::ps,x::xs,0,_,_,h1,h2=>by simp at h1 h2; subst h1; subst h2; rfl
 | p::ps,x::xs,i + 1,_,_,h1,h2=>by simpa [wQ] using objs_get (ps:=ps) (xs:=xs) (i:=i) (by simpa using h1) (by simpa using h2)
theorem objs_set:∀ {ps:List σ} {xs:List α} {i:Nat} {p:σ} {x:α},ps[i]? = some p->(wQ A ps xs).set i (A p x) = wQ A ps (xs.set i x)
 | [],_,_,_,_,h=>by simp at h
 | p::ps,[],i,_,_,_=>by simp [wQ]
 | p::ps,y::xs,0,_,_,h=>by simp at h; subst h; rfl
 | p::ps,y::xs,i + 1,_,_,h=>by simp only [wQ,set_cons_succ]; rw [objs_set (ps:=ps) (xs:=xs) (i:=i) (by simpa using h)]
theorem objs_set2:∀ {ps:List σ} {xs:List α} {i:Nat} {p:σ} {x:α},i < xs.length->(wQ A ps xs).set i (A p x) = wQ A (ps.set i p) (xs.set i x)
 | [],_,_,_,_,_=>by simp [wQ]
 | p::ps,[],i,_,_,h=>by simp at h
 | p::ps,y::xs,0,_,_,_=>rfl
 | p::ps,y::xs,i + 1,_,_,h=>by simp only [wQ,set_cons_succ]; rw [objs_set2 (ps:=ps) (xs:=xs) (i:=i) (by simpa using h)]
theorem objs_append (p:σ) (x:α):∀ {ps:List σ} {xs:List α},ps.length = xs.length->wQ A (ps++[p]) (xs++[x]) = wQ A ps xs++[A p x]
 | [],[],_=>rfl
 | [],_::_,h=>by simp at h
 | _::_,[],h=>by simp at h
 | a::ps,b::xs,h=>by simp only [List.cons_append,wQ]; rw [objs_append p x (by simpa using h)]
theorem objs_len:∀ {ps:List σ} {xs:List α},ps.length = xs.length->(wQ A ps xs).length = xs.length
 | [],[],_=>rfl
 | [],_::_,h=>by simp at h
 | _::_,[],h=>by simp at h
 | a::ps,b::xs,h=>by simp only [wQ,List.length_cons]; rw [objs_len (by simpa using h)]
def all (A:σ->α->As) (ps:List σ) (xs:List α):As:=az (wQ A ps xs)
def but (A:σ->α->As) (ps:List σ) (xs:List α) (i:Nat):As:=az ((wQ A ps xs).eraseIdx i)
variable {l:List As} {h:Hp} {ps:List σ} {xs:List α}
theorem star_shut {m:List As} (s:az (m++l) h):az (az m::l) h:=by
 obtain ⟨h1,h2,d,e,s1,s2⟩:=fu.1 s;exact ⟨h1,h2,d,e,s1,s2⟩
theorem jB {i:Nat} {p:σ} {x:α} (hp:ps[i]? = some p) (hx:xs[i]? = some x) (s:az (all A ps xs::l) h):az (A p x::but A ps xs i::l) h:=by
 obtain ⟨h1,h2,d,e,a,s'⟩:=s;have:=gP (objs_get (A:=A) hp hx) a;obtain ⟨h3,h4,d',e',a',s4⟩:=this;subst e';obtain ⟨d1,d2⟩:=Dj.of_un_left d;exact ⟨h3,un h4 h2,Dj.un_right d' d1,by rw [e,ny],a',h4,h2,d2,rfl,s4,s'⟩
theorem yu {i:Nat} {p:σ} {y:α} (hp:ps[i]? = some p) (hi:i < xs.length) (hl:ps.length = xs.length) (s:az (A p y::but A ps xs i::l) h):az (all A ps (xs.set i y)::l) h:=by
 obtain ⟨h1,h2,d,e,a,h3,h4,d',e',b,s'⟩:=s;subst e';obtain ⟨d1,d2⟩:=Dj.of_un_right d;refine ⟨un h1 h3,h4,Dj.un_left d2 d',by rw [e,ny],?_,s'⟩;have:=eW (A:=A p y) (l:=wQ A ps xs) (i:=i) (by rw [objs_len hl]; exact hi) ⟨h1,h3,d1,rfl,a,b⟩;rw [objs_set hp] at this;exact this
theorem all_in2 {i:Nat} {p:σ} {y:α} (hi:i < xs.length) (hl:ps.length = xs.length) (s:az (A p y::but A ps xs i::l) h):az (all A (ps.set i p) (xs.set i y)::l) h:=by
 obtain ⟨h1,h2,d,e,a,h3,h4,d',e',b,s'⟩:=s;subst e';obtain ⟨d1,d2⟩:=Dj.of_un_right d;refine ⟨un h1 h3,h4,Dj.un_left d2 d',by rw [e,ny],?_,s'⟩;have:=eW (A:=A p y) (l:=wQ A ps xs) (i:=i) (by rw [objs_len hl]; exact hi) ⟨h1,h3,d1,rfl,a,b⟩;rw [objs_set2 hi] at this;exact this
theorem ji {α:Type} {xs:List α} {i:Nat} {x:α} (hx:xs[i]? = some x):xs.set i x = xs:=by
 apply List.ext_getElem?;intro n;rw [List.getElem?_set];by_cases e:i = n
 ·subst e;obtain ⟨h1,h2⟩:=List.getElem?_eq_some_iff.1 hx;simp [h1,h2]
 ·simp [e]
theorem us {i:Nat} {p:σ} {x:α} (hp:ps[i]? = some p) (hx:xs[i]? = some x) (hl:ps.length = xs.length) (s:az (A p x::but A ps xs i::l) h):az (all A ps xs::l) h:=by
 have:=yu hp (List.getElem?_eq_some_iff.1 hx).1 hl s
 rwa [ji hx] at this
theorem all_nil:az l h->az (all A [] []::l) h:=fun s=>star_cons (fun _=>trivial) s
theorem all_push {p:σ} {x:α} (hl:ps.length = xs.length) (s:az (A p x::all A ps xs::l) h):az (all A (ps++[p]) (xs++[x])::l) h:=by
 refine star_shut ?_;rw [objs_append p x hl];have s1:=lf (.swap _ _ _) s;have s2:=dE s1;exact lf (by simp) s2
end
theorem xp {A:As} {h:Hp} (a:A h):az [A] h:=⟨h,emp,Dj.emp_right _,(un_emp _).symm,a,trivial⟩
section
variable {P:Program} {l:List As} {h:Hp} {τ:Type} {f:FuncId} {args:List Value} {enc:τ->Value} {K:τ->Hp->Prop} {i:Nat} {A:As}
theorem bN {φ:τ->Prop} {A':τ->As} (c:Sp P f args enc [A] (fun r=>pa_ (φ r) [A' r])) (hi:l[i]? = some A) (s:az l h) (k:∀ r h',φ r->az (l.set i (A' r)) h'->K r h'):cl P f args enc K h:=by
 obtain ⟨h1,h2,d,rfl,a,s'⟩:=gP hi s;refine (c h1 (xp a)).frame_mono d rfl fun v h' ⟨r,hv,q⟩ dj=>⟨r,hv,?_⟩
 obtain ⟨g1,q⟩:=q;refine k r _ g1 (eW (List.getElem?_eq_some_iff.1 hi).1 ?_);exact mC (l:=[A' r]++l.eraseIdx i) (by rw [append_nil]; exact fu.2 ⟨h',h2,dj,rfl,q,s'⟩)
theorem wh {B A':τ->As} (c:Sp P f args enc [A] (fun r=>az [B r,A' r])) (hi:l[i]? = some A) (s:az l h) (k:∀ r h',az (B r::l.set i (A' r)) h'->K r h'):cl P f args enc K h:=by
 obtain ⟨h1,h2,d,rfl,a,s'⟩:=gP hi s;refine (c h1 (xp a)).frame_mono d rfl fun v h' ⟨r,hv,q⟩ dj=>⟨r,hv,k r _ ?_⟩
 have s1:az (B r::A' r::l.eraseIdx i) (un h' h2):=(fu (l:=[B r,A' r])).2 ⟨h',h2,dj,rfl,q,s'⟩;obtain ⟨g1,g2,d2,e2,b,s2⟩:=s1;exact ⟨g1,g2,d2,e2,b,eW (List.getElem?_eq_some_iff.1 hi).1 s2⟩
theorem cl_p {φ:τ->Prop} {B A':τ->As} (c:Sp P f args enc [A] (fun r=>pa_ (φ r) [B r,A' r])) (hi:l[i]? = some A) (s:az l h) (k:∀ r h',φ r->az (B r::l.set i (A' r)) h'->K r h'):cl P f args enc K h:=by
 obtain ⟨h1,h2,d,rfl,a,s'⟩:=gP hi s;refine (c h1 (xp a)).frame_mono d rfl fun v h' ⟨r,hv,q⟩ dj=>⟨r,hv,?_⟩
 obtain ⟨g0,q⟩:=q;refine k r _ g0 ?_;have s1:az (B r::A' r::l.eraseIdx i) (un h' h2):=(fu (l:=[B r,A' r])).2 ⟨h',h2,dj,rfl,q,s'⟩;obtain ⟨g1,g2,d2,e2,b,s2⟩:=s1;exact ⟨g1,g2,d2,e2,b,eW (List.getElem?_eq_some_iff.1 hi).1 s2⟩
theorem uy {φ:τ->Prop} (c:Sp P f args enc [] (fun r=>pa_ (φ r) [])) (s:az l h) (k:∀ r h',φ r->az l h'->K r h'):cl P f args enc K h :=
 cW [] c s rfl fun r h' s1=>by
  obtain ⟨f1,s2⟩:=bp.1 s1;exact k r h' f1 s2
theorem mv {B:τ->As} (c:Sp P f args enc [] (fun r=>az [B r])) (s:az l h) (k:∀ r h',az (B r::l) h'->K r h'):cl P f args enc K h :=
 cW [] c s rfl fun r h' s1=>k r h' (dE s1)
end
end Mb
end
section
open Go Mb
def sh_caps_Tree_is (a0:Ptr) (a1:Int) (a2:Int) (K:kT Bool):hT:=br (decide (a1 >= 0)) ( nn a0 fun q12=>ld (q12.1,q12.2 + 0) cS fun x14=>K (((decide (a1 < (x14.len:Int))) && (decide (a2 >= 0))) && (decide (a2 < 8)))) ( K false)
theorem sim_caps_Tree_is (a0:Ptr) (a1:Int) (a2:Int) {K:kT Bool} {h:Hp} (H:sh_caps_Tree_is a0 a1 a2 K h):cl prog iK [(pv a0),(.int .i64 a1),(.int .i64 a2)] aB K h:=z_i func151 p p fun _=>O<|U p<|O<|M p<|J (jS p p)<|M p<|W p p (ax _) (fun g1=>wv<|ah p)<|W p p (ax _) (fun g2=>wv<|ah p)<|bV H (fun k4 H5=>bH H5 fun q12 e6 H7=>G (F k4)<|z_p (aJ<|aG (aD p k4)<|aq e6)<|G (F k4)<|z_p (ae iy p)<|G (F k4)<|aU H7 qJ p (fun _=>p) p fun x14 H8=>G (F k4)<|z_p (dH p underlying206 p)<|G (F k4)<|z_p (ci (aD p k4) p)<|J (aV p k4 p)<|M p<|W p p (ax _) (fun g9=>wv<|ah p)<|W p p (ax _) (fun g10=>wv<|jS (aD p g10) p)<|J (bO p p)<|M p<|W p p (ax _) (fun g11=>wv<|ah p)<|W p p (ax _) (fun g12=>wv<|ci (aD p g12) p)<|J (bO p p)<|U p<|aj<|Z ⟨(((decide (a1 < (x14.len:Int))) && (decide (a2 >= 0))) && (decide (a2 < 8))),p,H8⟩) fun k4 H5=>Y (aS k4)<|Y (aS k4)<|Y (aS k4)<|Y (aS k4)<|Y (aS k4)<|J (ar p k4 p)<|M p<|Y p<|Y p<|J (ar p p p)<|M p<|Y p<|Y p<|J (ar p p p)<|U p<|aj<|Z ⟨false,p,H5⟩
def je (a0:Ptr) (a1:Int) (a2:Int) (K:kT (aA × Bool)) (s1:Bool):hT:=br s1 ( K ((⟨0,0,0,0⟩:aA),false)) ( nn a0 fun q32=>ld (q32.1,q32.2 + 0) cS fun x34=>ix x34 a1 fun q37=>gd (0 <= a2/\a2 < 8)<|ld (q37.1,q37.2 + Int.toNat a1 * 32 + Int.toNat a2 * 4) aA.C fun x39=>K (x39,true))
def sh_caps_Tree_At (a0:Ptr) (a1:Int) (a2:Int) (K:kT (aA × Bool)):hT:=br (!a0.isNone) ( cl prog iK [(pv a0),(.int .i64 a1),(.int .i64 a2)] aB fun r14=>br (!(!r14)) ( nn a0 fun q19=>ld (q19.1,q19.2 + 0) cS fun x21=>ix x21 a1 fun q24=>gd (0 <= a2/\a2 < 8)<|ld (q24.1,q24.2 + Int.toNat a1 * 32 + Int.toNat a2 * 4 + 1) (cI .i64) fun x27=>je a0 a1 a2 K (x27 == 0)) ( je a0 a1 a2 K true)) ( je a0 a1 a2 K true)
theorem sim_caps_Tree_At (a0:Ptr) (a1:Int) (a2:Int) {K:kT (aA × Bool)} {h:Hp} (H:sh_caps_Tree_At a0 a1 a2 K h):cl prog eH [(pv a0),(.int .i64 a1),(.int .i64 a2)] cX K h:=z_i func102 p p fun _=>O<|aa<|aM (l:=aA.C (⟨0,0,0,0⟩:aA)) iQ p p fun b6=>U p<|al<|eu (je a0 a1 a2 K) (fun s1=>[(0,(pv a0)),(1,(.int .i64 a1)),(2,(.int .i64 a2)),(6,(.pointer (some ⟨b6,0,none⟩))),(29,(.bool s1))]) (fun s1=>[bx b6 36 (aA.C (⟨0,0,0,0⟩:aA))]) (ap<|M p<|J (cx underlying155 p)<|M p<|W p p (aL _) (fun g14=>wv<|ah p)<|W p p (aL _) (fun g15=>wv<|ah p)<|W p p (aL _) (fun g16=>wv<|ah p)<|bV H (fun k18 H19=>G (F<|ch k18)<|gG H19 en_151 (aT (aD p k18)<|aT (aD p k18)<|aT (aD p k18) bT) p fun r14 _ H20=>G (F<|ch k18)<|z_p (cu p)<|J (ar p (ch k18) p)<|M p<|W p p (aL _) (fun g21=>wv<|ah p)<|bV H20 (fun k23 H24=>bH H24 fun q19 e25 H26=>G (F<|ch k23)<|z_p (aJ<|aG (aD p k23)<|aq e25)<|G (F<|ch k23)<|z_p (ae iy p)<|G (F<|ch k23)<|aU H26 qJ p (fun _=>p) p fun x21 H27=>G (F<|ch k23)<|z_p (ah p)<|G (F<|ch k23)<|z_p (ah p)<|cm H27 fun q24 e28 h29 H30=>G (F<|ch k23)<|z_p (bd pj (aG p<|aW e28) p h29)<|iZ H30 fun h31 H32=>G (F<|ch k23)<|z_p (bC rg p p h31)<|G (F<|ch k23)<|z_p (ae hH p)<|G (F<|ch k23)<|aU H32 aZ p (fun _=>p) p fun x27 H33=>G (F<|ch k23)<|z_p (bP p p)<|J (ar p (ch k23) p)<|ad<|cE (x27 == 0) H33 (.cons p<|.cons p<|.cons p<|.cons p<|.cons p<|.nil _)<|.cons_cons _ .slnil) fun k23 H24=>Y (cd<|bJ k23)<|Y (cd<|bJ k23)<|Y (cd<|bJ k23)<|Y (cd<|bJ k23)<|Y (cd<|bJ k23)<|Y (cd<|bJ k23)<|Y (cd<|bJ k23)<|Y (cd<|bJ k23)<|Y (cd<|bJ k23)<|Y (cd<|bJ k23)<|J (aV p (bJ k23) p)<|ad<|cE true H24 (.cons p<|.cons p<|.cons p<|.cons p<|.cons p<|.nil _)<|.cons_cons _ .slnil) fun k18 H19=>Y (cd<|bJ k18)<|Y (cd<|bJ k18)<|J (aV p (bJ k18) p)<|M p<|Y p<|Y p<|Y p<|Y p<|Y p<|Y p<|Y p<|Y p<|Y p<|Y p<|Y p<|J (aV p p p)<|ad<|cE true H19 (.cons p<|.cons p<|.cons p<|.cons p<|.cons p<|.nil _)<|.cons_cons _ .slnil) fun s1 _ H2=>av p H2 (fun k3 H4=>O<|J (ba (vs:=[]) p build_36)<|aa<|aP (k:=0) (vs:=aA.C (⟨0,0,0,0⟩:aA)) gS p p p p p p p<|U p<|aj<|bB (bS p (bE (k:=0) p ag_36 p p)<|bZ p) ⟨((⟨0,0,0,0⟩:aA),false),p,H4⟩) fun k3 H4=>an<|O<|M p<|bH H4 fun q32 e5 H6=>J (aJ<|aG p<|aq e5)<|J (ae iy p)<|aa<|aU H6 qJ p (fun _=>p) p fun x34 H7=>M p<|M p<|cm H7 fun q37 e8 h9 H10=>J (bd pj (aG p<|aW e8) p h9)<|iZ H10 fun h11 H12=>J (bC rg p p h11)<|aa<|gO H12 ag_36 p (fun _=>p) p fun x39 H13=>aa<|aP (k:=0) (vs:=aA.C x39) gS p p p p p p p<|U p<|aj<|bB (bS p (bE (k:=0) p ag_36 p p)<|bZ p) ⟨(x39,true),p,H13⟩
def va (a0:Ptr) (a1:Int) (a2:Int) (a3:Int) (K:kT Int):hT:=br a0.isNone ( K 10) ( cl prog iK [(pv a0),(.int .i64 a1),(.int .i64 a2)] aB fun r16=>br (((!r16) || (decide (a3 < 0))) || (decide (a3 >= 16))) ( K 2) ( nn a0 fun q28=>ld (q28.1,q28.2 + 0) cS fun x30=>ix x30 a1 fun q33=>gd (0 <= a2/\a2 < 8)<|ld (q33.1,q33.2 + Int.toNat a1 * 32 + Int.toNat a2 * 4 + 1) (cI .i64) fun x36=>br (x36 != 0) ( K 4) ( ld (q28.1,q28.2 + 0) cS fun x41=>ix x41 a1 fun q46=>st (q46.1,q46.2 + Int.toNat a1 * 32 + Int.toNat a2 * 4) (aA.C (⟨a3,3,(-1),0⟩:aA))<|K 0)))
theorem sim_caps_Tree_Root (a0:Ptr) (a1:Int) (a2:Int) (a3:Int) {K:kT Int} {h:Hp} (H:va a0 a1 a2 a3 K h):cl prog ke [(pv a0),(.int .i64 a1),(.int .i64 a2),(.int .i64 a3)] bi K h:=z_i func142 p p fun _=>O<|U p<|al<|aw<|O<|M p<|J (cx underlying155 p)<|U p<|av p H (fun k1 H2=>O<|U p<|aj<|Z ⟨10,p,H2⟩) fun k1 H2=>O<|M p<|M p<|M p<|aa<|D H2 en_151 fun r16 _ H3=>J (cu p)<|M p<|W p p (aL _) (fun g4=>wv<|ah p)<|W p p (aL _) (fun g5=>wv<|ci (aD p g5) p)<|J (dy p p)<|M p<|W p p (aL _) (fun g6=>wv<|ah p)<|W p p (aL _) (fun g7=>wv<|jS (aD p g7) p)<|J (dy p p)<|U p<|av p H3 (fun k8 H9=>O<|U p<|aj<|Z ⟨2,p,H9⟩) fun k8 H9=>O<|M p<|bH H9 fun q28 e10 H11=>J (aJ<|aG p<|aq e10)<|J (ae iy p)<|aa<|aU H11 qJ p (fun _=>p) p fun x30 H12=>M p<|M p<|cm H12 fun q33 e13 h14 H15=>J (bd pj (aG p<|aW e13) p h14)<|iZ H15 fun h16 H17=>J (bC rg p p h16)<|J (ae hH p)<|aa<|aU H17 aZ p (fun _=>p) p fun x36 H18=>J (oX p p)<|U p<|av p H18 (fun k19 H20=>O<|U p<|aj<|Z ⟨4,p,H20⟩) fun k19 H20=>an<|O<|M (aG p<|aq e10)<|J (aJ p)<|J (ae iy p)<|aa<|aU H20 qJ p (fun _=>p) p fun x41 H21=>M p<|M p<|M p<|J (ba p<|build_36_0_1_2 a3 3 (-1))<|cm H21 fun q46 e22 h23 H24=>J (bd pj (aG p<|aW e22) p h23)<|J (bC rg p p h16)<|aa<|dq gS p p p p p H24 fun _ H25=>ad<|O<|U p<|aj<|Z ⟨0,p,H25⟩
def sD (a0:Ptr) (a1:Int) (a2:Int) (a3:Int) (a4:Int) (a5:Int) (K:kT Int):hT:=br a0.isNone ( K 10) ( cl prog iK [(pv a0),(.int .i64 a1),(.int .i64 a2)] aB fun r19=>br (!(!r19)) ( cl prog iK [(pv a0),(.int .i64 a3),(.int .i64 a4)] aB fun r25=>br ((!r25) || (!(cg a5))) ( K 2) ( nn a0 fun q34=>ld (q34.1,q34.2 + 0) cS fun x36=>ix x36 a1 fun q39=>gd (0 <= a2/\a2 < 8)<|ld (q39.1,q39.2 + Int.toNat a1 * 32 + Int.toNat a2 * 4) aA.C fun x41=>br (x41.fBa == 0) ( K 3) ( ld (q34.1,q34.2 + 0) cS fun x50=>ix x50 a3 fun q53=>gd (0 <= a4/\a4 < 8)<|ld (q53.1,q53.2 + Int.toNat a3 * 32 + Int.toNat a4 * 4 + 1) (cI .i64) fun x56=>br (x56 != 0) ( K 4) ( br (!(aO a5 x41.fBa)) ( K 5) ( ld (q34.1,q34.2 + 0) cS fun x67=>ix x67 a3 fun q76=>st (q76.1,q76.2 + Int.toNat a3 * 32 + Int.toNat a4 * 4) (aA.C (⟨x41.fEa,a5,a1,a2⟩:aA))<|K 0))))) ( K 2))
theorem sim_caps_Tree_Derive (a0:Ptr) (a1:Int) (a2:Int) (a3:Int) (a4:Int) (a5:Int) {K:kT Int} {h:Hp} (H:sD a0 a1 a2 a3 a4 a5 K h):cl prog iL [(pv a0),(.int .i64 a1),(.int .i64 a2),(.int .i64 a3),(.int .i64 a4),(.int .i64 a5)] bi K h:=z_i func143 p p fun _=>O<|U p<|al<|O<|M p<|J (cx underlying155 p)<|ad<|av p H (fun k1 H2=>O<|U p<|aj<|Z ⟨10,p,H2⟩) fun k1 H2=>an<|al<|O<|M p<|M p<|M p<|aa<|D H2 en_151 fun r19 _ H3=>J (cu p)<|M p<|W p p (aL _) (fun g4=>wv<|ah p)<|W p p (aL _) (fun g5=>wv<|ah p)<|W p p (aL _) (fun g6=>wv<|ah p)<|bV H3 (fun k8 H9=>G (F<|ch k8)<|gG H9 en_151 (aT (aD p k8)<|aT (aD p k8)<|aT (aD p k8) bT) p fun r25 _ H10=>G (F<|ch k8)<|z_p (cu p)<|J (ar p (ch k8) p)<|M p<|W p p (aL _) (fun g11=>wv<|ah p)<|di (vs:=[(.int .i64 a5)]) p p p (aL _) (fun g12=>bA<|qW a5 _) en_166 (fun g12=>aT (aD p g12) bT) p<|W p p (aL _) (fun g13=>wv<|cu<|aD p g13)<|J (dy p p)<|ad<|av p H10 (fun k14 H15=>O<|U p<|aj<|Z ⟨2,p,H15⟩) fun k14 H15=>an<|O<|M p<|bH H15 fun q34 e16 H17=>J (aJ<|aG p<|aq e16)<|J (ae iy p)<|aa<|aU H17 qJ p (fun _=>p) p fun x36 H18=>M p<|M p<|cm H18 fun q39 e19 h20 H21=>J (bd pj (aG p<|aW e19) p h20)<|iZ H21 fun h22 H23=>J (bC rg p p h22)<|aa<|gO H23 ag_36 p (fun _=>p) p fun x41 H24=>aa<|aM (l:=aA.C (⟨0,0,0,0⟩:aA)) iQ p p fun b13=>aa<|aP (k:=0) (vs:=aA.C x41) gS p p p p p p p<|ad<|al<|aw<|O<|J (ae hH p)<|bm (bg (k:=0) aZ p p p) p<|J (bP p p)<|U p<|av p H24 (fun k25 H26=>O<|U p<|aj<|Z ⟨3,p,H26⟩) fun k25 H26=>O<|M (aG p<|aq e16)<|J (aJ p)<|J (ae iy p)<|aa<|aU H26 qJ p (fun _=>p) p fun x50 H27=>M p<|M p<|cm H27 fun q53 e28 h29 H30=>J (bd pj (aG p<|aW e28) p h29)<|iZ H30 fun h31 H32=>J (bC rg p p h31)<|J (ae hH p)<|aa<|aU H32 aZ p (fun _=>p) p fun x56 H33=>J (oX p p)<|U p<|av p H33 (fun k34 H35=>O<|U p<|aj<|Z ⟨4,p,H35⟩) fun k34 H35=>O<|M p<|J (ae hH p)<|bm (bg (k:=0) aZ p p p) p<|aa<|cQ (vs:=[(.int .i64 a5),(.int .i64 x41.fBa)]) (bA<|dl a5 x41.fBa _) nt p p<|J (cu p)<|U p<|av p H35 (fun k36 H37=>O<|U p<|aj<|Z ⟨5,p,H37⟩) fun k36 H37=>an<|al<|bn (n:=15) [bx b13 36 (aA.C x41)] cq p (.cons_cons _ .slnil)<|V 0 p (ah<|aG p<|aq e16)<|V 1 p (aJ p)<|V 2 p (ae iy p)<|V 4 p (ah p)<|V 5 p (ah p)<|V 6 p (ae uf p)<|z_E 7 p (dr (k:=0) aZ p p p)<|V 8 p (ah p)<|V 9 p (ah p)<|V 10 p (ah p)<|V 11 p (ba p<|build_36_0_1_2_3 x41.fEa a5 a1 a2)<|bz (i:=3) (fun _ _ _ _ hh=>hh) H37 p (by kernel_rfl) qJ p (fun _=>p) p fun x67 H38=>dR H38 fun q76 e39 h40 H41=>V 12 p (bd pj (aG p<|aW e39) p h40)<|V 13 p (bC rg p p h31)<|I 14 p<|dq gS p p p p p H41 fun _ H42=>⟨.cons_cons _ .slnil,aQ (by kernel_rfl)<|O<|U p<|aj<|Z ⟨0,p,H42⟩⟩) fun k8 H9=>Y (cd<|bJ k8)<|Y (cd<|bJ k8)<|J (aV p (bJ k8) p)<|M p<|Y p<|Y p<|Y p<|J (aV p p p)<|ad<|ns p p<|O<|U p<|aj<|Z ⟨2,p,H9⟩
def iA (s6:Sl × Int) (Rec18:kT (Sl × Int)) (s17:Sl × Int) (s23:Bool):hT:=br s23 ( hpv prog (Instr.buildSlice ir 1 #[(0,(.agg (aF.C (⟨s6.2,s17.2⟩:aF)).toArray))]) db fun (v45:Sl)=>hpv prog (Builtin.append_ #[ir,ir] ir #[(sv s17.1),(sv v45)]) db fun (v46:Sl)=>Rec18 (v46,(i64.wrap (s17.2 + 1)))) ( Rec18 (s17.1,(i64.wrap (s17.2 + 1))))
def qX (a1:Value) (Rec7:kT (Sl × Int)) (s6:Sl × Int) (v26:(List Value)) (Rec18:kT (Sl × Int)) (s17:Sl × Int):hT:=br (decide (s17.2 < 8)) ( hpv prog (Instr.index lQ (.agg v26.toArray) (.int .i64 s17.2)) R_api_Cap fun (v30:aA)=>br (v30.fBa != 0) ( clv prog a1 [(.agg (aF.C (⟨s6.2,s17.2⟩:aF)).toArray),(.agg (aA.C v30).toArray)] aB fun r41=>iA s6 Rec18 s17 r41) ( iA s6 Rec18 s17 false)) ( Rec7 (s17.1,(i64.wrap (s6.2 + 1))))
def qY (a1:Value) (K:kT Sl) (q13:Nat × Nat) (x15:Sl) (Rec7:kT (Sl × Int)) (s6:Sl × Int):hT:=br (decide (s6.2 < (x15.len:Int))) ( ld (q13.1,q13.2 + 0) cS fun x23=>ix x23 s6.2 fun q25=>hpv prog (Instr.loadAt lQ (.pointer (some ⟨q25.1,q25.2 + Int.toNat s6.2 * 32,none⟩))) encL fun (v26:(List Value))=>Lp (qX a1 Rec7 s6 v26) (s6.1,0)) ( K s6.1)
def wL (a0:Ptr) (a1:Value) (K:kT Sl):hT:=br a0.isNone ( K (⟨none,0,0,none⟩:Sl)) ( nn a0 fun q13=>ld (q13.1,q13.2 + 0) cS fun x15=>Lp (qY a1 K q13 x15) ((⟨none,0,0,none⟩:Sl),0))
theorem sim_caps_Tree_all (a0:Ptr) (a1:Value) {K:kT Sl} {h:Hp} (H:wL a0 a1 K h):cl prog kZ [(pv a0),a1] db K h:=z_i func188 p p fun _=>O<|U p<|al<|O<|M p<|J (cx underlying155 p)<|ad<|av p H (fun k1 H2=>O<|U p<|aj<|Z ⟨(⟨none,0,0,none⟩:Sl),p,H2⟩) fun k1 H2=>an<|O<|U p<|al<|O<|M p<|bH H2 fun q13 e3 H4=>J (aJ<|aG p<|aq e3)<|J (ae iy p)<|aa<|aU H4 qJ p (fun _=>p) p fun x15 H5=>J (dH p underlying206 p)<|M p<|ad<|aw<|bv (step:=qY a1 K q13 x15) (fun s6=>[(0,(pv a0)),(1,a1),(5,(sv s6.1)),(16,(.int .i64 (x15.len:Int))),(17,(.int .i64 s6.2))]) (fun s6=>[]) H5 (.cons p<|.cons p<|.cons p<|.cons p<|.cons p<|.nil _) .slnil fun Rec7 s6 _ H8=>O<|J (ci p p)<|ad<|al<|av p H8 (fun k9 H10=>an<|al<|aw<|O<|M p<|U p<|O<|M (aG p<|aq e3)<|J (aJ p)<|J (ae iy p)<|aa<|aU H10 qJ p (fun _=>p) p fun x23 H11=>M p<|cm H11 fun q25 e12 h13 H14=>J (bd pj (aG p<|aW e12) p h13)<|aa<|aR H14 (x_load p) p fun v26 _ H16=>M p<|ad<|aw<|bv (step:=qX a1 Rec7 s6 v26) (fun s17=>[(0,(pv a0)),(1,a1),(5,(sv s17.1)),(6,(.int .i64 s6.2)),(16,(.int .i64 (x15.len:Int))),(17,(.int .i64 s6.2)),(26,(.agg v26.toArray)),(27,(.int .i64 s17.2))]) (fun s17=>[]) H16 (.cons p<|.cons p<|.cons p<|.cons p<|.cons p<|.cons p<|.cons p<|.cons p<|.nil _) .slnil fun Rec18 s17 _ H19=>O<|J (ci p p)<|ad<|al<|av p H19 (fun k20 H21=>an<|al<|aw<|O<|M p<|aa<|aR H21 (x_index p p) p fun v30 _ H22=>aa<|aM (l:=aA.C (⟨0,0,0,0⟩:aA)) iQ p p fun b8=>J (au p)<|aa<|aP (k:=0) (vs:=aA.C v30) gS p p p p p p p<|ad<|O<|M p<|M p<|J (ba p<|wi s6.2 s17.2)<|aa<|aM (l:=aF.C (⟨0,0⟩:aF)) zero_233 p p fun b9=>aa<|aP (k:=0) (vs:=aF.C (⟨s6.2,s17.2⟩:aF)) inf_233 p p p p p p p<|ad<|eu (iA s6 Rec18 s17) (fun s23=>[(0,(pv a0)),(1,a1),(5,(sv s17.1)),(6,(.int .i64 s6.2)),(9,(.pointer (some ⟨b9,0,none⟩))),(16,(.int .i64 (x15.len:Int))),(17,(.int .i64 s6.2)),(26,(.agg v26.toArray)),(27,(.int .i64 s17.2)),(42,(.bool s23))]) (fun s23=>[bx b9 233 (aF.C (⟨s6.2,s17.2⟩:aF))]) (ap<|J (ae hH p)<|bm (bg (k:=1) aZ p p p) p<|J (oX p p)<|M p<|W p p (ax _) (fun g29=>wv<|ah p)<|W p p (ax _) (fun g30=>cv<|bG (k:=0) ag_233 p p p p)<|W p p (ax _) (fun g31=>cv<|bG (k:=1) ag_36 p p p p)<|bV H22 (fun k33 H34=>G (F k33)<|to_clv H34 (aD p k33) (aT (aD p k33)<|aT (aD p k33) bT) p fun r41 _ H35=>J (aV p k33 p)<|ad<|cE r41 H35 (.cons p<|.cons p<|.cons p<|.cons p<|.cons p<|.cons p<|.cons p<|.cons p<|.cons p<|.cons p<|.nil _)<|.cons_cons _<|.cons _ .slnil) fun k33 H34=>Y (aS k33)<|J (ar p k33 p)<|ad<|cE false H34 (.cons p<|.cons p<|.cons p<|.cons p<|.cons p<|.cons p<|.cons p<|.cons p<|.cons p<|.cons p<|.nil _)<|.cons_cons _<|.cons _ .slnil) fun s23 _ H24=>av p H24 (fun k25 H26=>ap<|M p<|bm (bG (k:=0) ag_233 p p p p) p<|aa<|aR H26 (bw (vs:=[(.agg (aF.C (⟨s6.2,s17.2⟩:aF)).toArray)]) p) p fun v45 _ H27=>aa<|aR H27 (dP p p) p fun v46 _ H28=>U p<|ap<|J (bj p p)<|M p<|ad<|cD (v46,(i64.wrap (s17.2 + 1))) H28 (.cons p<|.cons p<|.cons p<|.cons p<|.cons p<|.cons p<|.cons p<|.cons p<|.nil _)<|.cons _ .slnil) fun k25 H26=>an<|ap<|J (bj p p)<|M p<|ad<|cD (s17.1,(i64.wrap (s17.2 + 1))) H26 (.cons p<|.cons p<|.cons p<|.cons p<|.cons p<|.cons p<|.cons p<|.cons p<|.nil _)<|.cons _ .slnil) fun k20 H21=>bf<|ap<|J (bj p p)<|M p<|ad<|cD (s17.1,(i64.wrap (s6.2 + 1))) H21 (.cons p<|.cons p<|.cons p<|.cons p<|.cons p<|.nil _) .slnil) fun k9 H10=>bf<|O<|M p<|U p<|aj<|Z ⟨s6.1,p,H10⟩
def uZ (a0:Ptr) (a1:Int) (a2:Int) (K:kT Int):hT:=br a0.isNone ( K 10) ( cl prog iK [(pv a0),(.int .i64 a1),(.int .i64 a2)] aB fun r14=>br (!r14) ( K 2) ( nn a0 fun q18=>ld (q18.1,q18.2 + 0) cS fun x20=>ix x20 a1 fun q23=>gd (0 <= a2/\a2 < 8)<|ld (q23.1,q23.2 + Int.toNat a1 * 32 + Int.toNat a2 * 4 + 1) (cI .i64) fun x26=>br (x26 == 0) ( K 3) ( K 0)))
theorem sim_caps_Tree_look (a0:Ptr) (a1:Int) (a2:Int) {K:kT Int} {h:Hp} (H:uZ a0 a1 a2 K h):cl prog mW [(pv a0),(.int .i64 a1),(.int .i64 a2)] bi K h:=z_i func201 p p fun _=>O<|U p<|al<|aw<|O<|M p<|J (cx underlying155 p)<|U p<|av p H (fun k1 H2=>O<|U p<|aj<|Z ⟨10,p,H2⟩) fun k1 H2=>O<|M p<|M p<|M p<|aa<|D H2 en_151 fun r14 _ H3=>J (cu p)<|U p<|av p H3 (fun k4 H5=>O<|U p<|aj<|Z ⟨2,p,H5⟩) fun k4 H5=>O<|M p<|bH H5 fun q18 e6 H7=>J (aJ<|aG p<|aq e6)<|J (ae iy p)<|aa<|aU H7 qJ p (fun _=>p) p fun x20 H8=>M p<|M p<|cm H8 fun q23 e9 h10 H11=>J (bd pj (aG p<|aW e9) p h10)<|iZ H11 fun h12 H13=>J (bC rg p p h12)<|J (ae hH p)<|aa<|aU H13 aZ p (fun _=>p) p fun x26 H14=>J (bP p p)<|U p<|av p H14 (fun k15 H16=>O<|U p<|aj<|Z ⟨3,p,H16⟩) fun k15 H16=>an<|O<|U p<|aj<|Z ⟨0,p,H16⟩
def mw (a0:Ptr) (a1:Sl) (K:kT Sl) (Rec2:kT Int) (s1:Int):hT:=br (decide (s1 < (a1.len:Int))) ( ix a1 s1 fun q11=>ld (q11.1,q11.2 + Int.toNat s1 * 2) aF.C fun x12=>nn a0 fun q14=>ld (q14.1,q14.2 + 0) cS fun x16=>ix x16 x12.fCa fun q22=>gd (0 <= x12.fDa/\x12.fDa < 8)<|st (q22.1,q22.2 + Int.toNat x12.fCa * 32 + Int.toNat x12.fDa * 4) (aA.C (⟨0,0,0,0⟩:aA))<|Rec2 (i64.wrap (s1 + 1))) ( K a1)
def rC (a0:Ptr) (a1:Sl) (K:kT Sl):hT:=Lp (mw a0 a1 K) 0
theorem sim_caps_Tree_empties (a0:Ptr) (a1:Sl) {K:kT Sl} {h:Hp} (H:rC a0 a1 K h):cl prog gY [(pv a0),(sv a1)] db K h:=z_i func202 p p fun _=>O<|U p<|al<|O<|M p<|J (dH p underlying201 p)<|M p<|ad<|aw<|bv (step:=mw a0 a1 K) (fun s1=>[(0,(pv a0)),(1,(sv a1)),(7,(sv a1)),(8,(.int .i64 (a1.len:Int))),(9,(.int .i64 s1))]) (fun s1=>[]) H (.cons p<|.cons p<|.cons p<|.cons p<|.cons p<|.nil _) .slnil fun Rec2 s1 _ H3=>O<|J (ci p p)<|ad<|al<|av p H3 (fun k4 H5=>an<|al<|aw<|O<|cm H5 fun q11 e6 h7 H8=>J (bd slc_201 (aG p<|aW e6) p h7)<|aa<|gO H8 ag_233 p (fun _=>p) p fun x12 H9=>aa<|aM (l:=aF.C (⟨0,0⟩:aF)) zero_233 p p fun b6=>aa<|aP (k:=0) (vs:=aF.C x12) inf_233 p p p p p p p<|ad<|bn (n:=12) [bx b6 233 (aF.C x12)] cq p (.cons_cons _ .slnil)<|V 0 p (ah p)<|V 4 p (ae fld_233_0 p)<|z_E 5 p (dr (k:=0) aZ p p p)<|V 6 p (ae fld_233_1 p)<|z_E 7 p (dr (k:=0) aZ p p p)<|V 8 p (ba (vs:=[]) p build_36)<|im H9 fun q14 e10 H11=>V 1 p (aJ<|aG p<|aq e10)<|V 2 p (ae iy p)<|bz (i:=3) (fun _ _ _ _ hh=>hh) H11 p (by kernel_rfl) qJ p (fun _=>p) p fun x16 H12=>dR H12 fun q22 e13 h14 H15=>V 9 p (bd pj (aG p<|aW e13) p h14)<|eva_gd H15 fun h16 H17=>V 10 p (bC rg p p h16)<|I 11 p<|dq gS p p p p p H17 fun _ H18=>⟨.cons_cons _ .slnil,aQ (by kernel_rfl)<|ap<|J (bj p p)<|M p<|ad<|cD (i64.wrap (s1 + 1)) H18 (.cons p<|.cons p<|.cons p<|.cons p<|.cons p<|.nil _)<|.cons _ .slnil⟩) fun k4 H5=>bf<|O<|M p<|U p<|aj<|Z ⟨a1,p,H5⟩
def ow (a0:Ptr) (a2:aF) (K:kT Bool) (Rec2:kT aA) (s1:aA):hT:=br ((s1.fBa != 0) && (decide (s1.fCa >= 0))) ( br ((s1.fCa == a2.fCa) && (s1.fDa == a2.fDa)) ( K true) ( nn a0 fun q28=>ld (q28.1,q28.2 + 0) cS fun x30=>ix x30 s1.fCa fun q35=>gd (0 <= s1.fDa/\s1.fDa < 8)<|ld (q35.1,q35.2 + Int.toNat s1.fCa * 32 + Int.toNat s1.fDa * 4) aA.C fun x37=>Rec2 x37)) ( K false)
def tK (a0:Ptr) (a1:aA) (a2:aF) (K:kT Bool):hT:=Lp (ow a0 a2 K) a1
theorem sim_caps_Tree_under (a0:Ptr) (a1:aA) (a2:aF) {K:kT Bool} {h:Hp} (H:tK a0 a1 a2 K h):cl prog lM [(pv a0),(.agg (aA.C a1).toArray),(.agg (aF.C a2).toArray)] aB K h:=z_i func190 p p fun _=>O<|aa<|cR (l:=aA.C a1) p p p fun b4=>aa<|cR (l:=aF.C a2) p p p fun b5=>U p<|al<|aw<|bv (step:=ow a0 a2 K) (fun s1=>[(0,(pv a0)),(4,(.pointer (some ⟨b4,0,none⟩))),(5,(.pointer (some ⟨b5,0,none⟩)))]) (fun s1=>[bx b5 233 (aF.C a2),bx b4 36 (aA.C s1)]) H (.cons p<|.cons p<|.cons p<|.nil _) (.cons_cons _<|.cons_cons _ .slnil) fun Rec2 s1 _ H3=>al<|O<|J (ae hH p)<|bm (bg (k:=1) aZ p p p) p<|J (oX p p)<|M p<|W p p (ax _) (fun g4=>wv<|ae rJ p)<|W p p (ax _) (fun g5=>cv<|bg (k:=1) aZ (aD p g5) p p)<|W p p (ax _) (fun g6=>wv<|jS (aD p g6) p)<|J (bO p p)<|ad<|av p H3 (fun k7 H8=>an<|aw<|al<|O<|J (ae rJ p)<|bm (bg (k:=1) aZ p p p) p<|J (ae fld_233_0 p)<|bm (bg (k:=0) aZ p p p) p<|J (bP p p)<|M p<|W p p (ax _) (fun g9=>wv<|ae fld_36_3 p)<|W p p (ax _) (fun g10=>cv<|bg (k:=1) aZ (aD p g10) p p)<|W p p (ax _) (fun g11=>wv<|ae fld_233_1 p)<|W p p (ax _) (fun g12=>cv<|bg (k:=0) aZ (aD p g12) p p)<|W p p (ax _) (fun g13=>wv<|bP (aD p g13)<|aD p g13)<|J (bO p p)<|ad<|av p H8 (fun k14 H15=>O<|U p<|aj<|Z ⟨true,p,H15⟩) fun k14 H15=>an<|bn (n:=12) [] cq p (.cons _<|.cons _ .slnil)<|V 0 p (ah p)<|V 4 p (ae rJ p)<|V 6 p (ae fld_36_3 p)<|im H15 fun q28 e16 H17=>V 1 p (aJ<|aG p<|aq e16)<|V 2 p (ae iy p)<|bz (i:=3) (fun _ _ _ _ hh=>hh) H17 p (by kernel_rfl) qJ p (fun _=>p) p fun x30 H18=>eva_load (i:=5) (fun _ _ _ _ hh=>hh) p (by kernel_rfl) p (bg (k:=1) aZ p p p)<|dR H18 fun q35 e19 h20 H21=>V 8 p (bd pj (aG p<|aW e19) p h20)<|eva_load (i:=7) (fun _ _ _ _ hh=>hh) p (by kernel_rfl) p (bg (k:=1) aZ p p p)<|eva_gd H21 fun h22 H23=>V 9 p (bC rg p p h22)<|yj (i:=10) (fun _ _ _ _ hh=>hh) H23 p (by kernel_rfl) ag_36 p (fun _=>p) p fun x37 H24=>I 11 p<|aP (k:=1) (vs:=aA.C x37) gS p p p p p p p ⟨.cons _<|.cons _ .slnil,aQ (by kernel_rfl)<|cD x37 H24 (.cons p<|.cons p<|.cons p<|.nil _)<|.cons_cons _<|.cons_cons _ .slnil⟩) fun k7 H8=>bf<|O<|U p<|aj<|Z ⟨false,p,H8⟩
def rD (a0:aF) (a1:aA) (c0:Nat) (c1:Nat) (K:kT Bool):hT:=ld (c0,0) aF.C fun x8=>br (!(aF.eqb a0 x8)) ( ld (c1,0) cP fun x11=>ld (c0,0) aF.C fun x13=>cl prog lM [(pv x11),(.agg (aA.C a1).toArray),(.agg (aF.C x13).toArray)] aB fun r14=>K r14) ( K true)
theorem sim_caps_Tree_Drop_c1 (a0:aF) (a1:aA) (c0:Nat) (c1:Nat) {K:kT Bool} {h:Hp} (H:rD a0 a1 c0 c1 K h):cl prog gZ [(.agg (aF.C a0).toArray),(.agg (aA.C a1).toArray),(.pointer (some ⟨c0,0,none⟩)),(.pointer (some ⟨c1,0,none⟩))] aB K h:=z_i func203 p p fun _=>O<|aa<|cR (l:=aF.C a0) p p p fun b4=>aa<|cR (l:=aA.C a1) p p p fun b5=>U p<|O<|bm (bG (k:=1) ag_233 p p p p) p<|aa<|gO H ag_233 p (fun _=>p) p fun x8 H1=>J (v_eqA eqg_233 (eqr_233 9998 _ _) p p)<|M p<|bV H1 (fun k3 H4=>G (F<|ch k3)<|aU H4 iE p (fun _=>p) p fun x11 H5=>G (F<|ch k3)<|tP (cv<|bG (k:=0) ag_36 p p p p) p<|G (F<|ch k3)<|gO H5 ag_233 p (fun _=>p) p fun x13 H6=>G (F<|ch k3)<|D H6 en_190 fun r14 _ H7=>J (ar p (ch k3) p)<|U p<|aj<|Z ⟨r14,p,H7⟩) fun k3 H4=>Y (cd<|bJ k3)<|Y (cd<|bJ k3)<|Y (cd<|bJ k3)<|Y (cd<|bJ k3)<|J (aV p (bJ k3) p)<|U p<|aj<|Z ⟨true,p,H4⟩
def vb (a0:Ptr) (a1:Int) (a2:Int) (K:kT (Sl × Int)):hT:=nw sJ [pv a0] fun b3=>ld (b3,0) cP fun x10=>cl prog mW [(pv x10),(.int .i64 a1),(.int .i64 a2)] bi fun r13=>br (r13 != 0) ( K ((⟨none,0,0,none⟩:Sl),r13)) ( nw sI (aF.C (⟨0,0⟩:aF)) fun b9=>st (b9,0) (aF.C (⟨a1,a2⟩:aF))<|ld (b3,0) cP fun x21=>both ( ld (b3,0) cP fun x20=>cl prog kZ [(pv x21),(.func (.func gZ) #[] #[(.pointer (some ⟨b9,0,none⟩)),(.pointer (some ⟨b3,0,none⟩))])] db fun r23=>cl prog gY [(pv x20),(sv r23)] db fun r24=>K (r24,0)) ( cl prog kZ [(pv x21),(.func (.func gZ) #[] #[(.pointer (some ⟨b9,0,none⟩)),(.pointer (some ⟨b3,0,none⟩))])] db fun r23=>ld (b3,0) cP fun x20=>cl prog gY [(pv x20),(sv r23)] db fun r24=>K (r24,0)))
theorem sim_caps_Tree_Drop (a0:Ptr) (a1:Int) (a2:Int) {K:kT (Sl × Int)} {h:Hp} (H:vb a0 a1 a2 K h):cl prog mX [(pv a0),(.int .i64 a1),(.int .i64 a2)] dG K h:=z_i func174 p p fun _=>O<|aa<|iB p p p H fun b3 _ H1=>J (au p)<|U p<|al<|O<|aa<|aU H1 iE p (fun _=>p) p fun x10 H2=>M p<|M p<|aa<|D H2 en_201 fun r13 _ H3=>U p<|O<|M p<|J (oX p p)<|ad<|av p H3 (fun k4 H5=>O<|M p<|J (au p)<|U p<|aj<|bB (bS p (bZ p)<|bZ p) ⟨((⟨none,0,0,none⟩:Sl),r13),p,H5⟩) fun k4 H5=>an<|O<|M p<|M p<|J (ba p<|wi a1 a2)<|aa<|to_alloc zero_233 p p H5 fun b9 _ H6=>aa<|dq inf_233 p p p p p H6 fun _ H7=>ad<|al<|bn (n:=7) [] cq p .slnil<|V 2 p (v_func p p)<|bz (i:=1) (fun _ _ _ _ hh=>hh) H7 p (by kernel_rfl) iE p (fun _=>p) p fun x21 H8=>km H8 fun H9_1 H9_2=>ko (i:=0) (j:=3) (by kernel_rfl) (cM p p<|aU H9_1 iE p (fun _=>p) p fun x20 H10=>⟨.slnil,I 3 p<|D H10 en_188 fun r23 _ H11=>⟨.slnil,I 4 p<|D H11 en_202 fun r24 _ H12=>⟨.slnil,V 5 p (au p)<|V 6 p (au p)<|aQ (by kernel_rfl)<|aj<|bB (bS p (bZ p)<|bZ p) ⟨(r24,0),p,H12⟩⟩⟩⟩)<|cM p p<|D H9_2 en_188 fun r23 _ H10=>⟨.slnil,bz (i:=0) (fun _ _ _ _ hh=>hh) H10 p (by kernel_rfl) iE p (fun _=>p) p fun x20 H11=>I 4 p<|D H11 en_202 fun r24 _ H12=>⟨.slnil,V 5 p (au p)<|V 6 p (au p)<|aQ (by kernel_rfl)<|aj<|bB (bS p (bZ p)<|bZ p) ⟨(r24,0),p,H12⟩⟩⟩
def qt (a0:aF) (a1:aA) (c0:Nat) (c1:Nat) (c2:Nat) (K:kT Bool):hT:=ld (c0,0) cP fun x8=>ld (c1,0) (cI .i64) fun x10=>ld (c2,0) (cI .i64) fun x11=>cl prog lM [(pv x8),(.agg (aA.C a1).toArray),(.agg (aF.C (⟨x10,x11⟩:aF)).toArray)] aB fun r13=>K r13
theorem xK (a0:aF) (a1:aA) (c0:Nat) (c1:Nat) (c2:Nat) {K:kT Bool} {h:Hp} (H:qt a0 a1 c0 c1 c2 K h):cl prog mn [(.agg (aF.C a0).toArray),(.agg (aA.C a1).toArray),(.pointer (some ⟨c0,0,none⟩)),(.pointer (some ⟨c1,0,none⟩)),(.pointer (some ⟨c2,0,none⟩))] aB K h:=z_i func189 p p fun _=>O<|aa<|cR (l:=aF.C a0) p p p fun b5=>aa<|cR (l:=aA.C a1) p p p fun b6=>U p<|O<|aa<|aU H iE p (fun _=>p) p fun x8 H1=>bm (bG (k:=0) ag_36 p p p p) p<|aa<|aU H1 aZ p (fun _=>p) p fun x10 H2=>aa<|aU H2 aZ p (fun _=>p) p fun x11 H3=>J (ba p<|wi x10 x11)<|aa<|D H3 en_190 fun r13 _ H4=>U p<|aj<|Z ⟨r13,p,H4⟩
def tL (a0:Ptr) (a1:Int) (a2:Int) (K:kT Sl):hT:=nw sJ [pv a0] fun b3=>nw lG [.int .i64 a1] fun b4=>nw lG [.int .i64 a2] fun b5=>ld (b3,0) cP fun x7=>cl prog kZ [(pv x7),(.func (.func mn) #[] #[(.pointer (some ⟨b3,0,none⟩)),(.pointer (some ⟨b4,0,none⟩)),(.pointer (some ⟨b5,0,none⟩))])] db fun r9=>K r9
theorem sim_caps_Tree_Below (a0:Ptr) (a1:Int) (a2:Int) {K:kT Sl} {h:Hp} (H:tL a0 a1 a2 K h):cl prog lN [(pv a0),(.int .i64 a1),(.int .i64 a2)] db K h:=z_i func147 p p fun _=>O<|aa<|iB p p p H fun b3 _ H1=>aa<|iB p p p H1 fun b4 _ H2=>aa<|iB p p p H2 fun b5 _ H3=>U p<|O<|aa<|aU H3 iE p (fun _=>p) p fun x7 H4=>J (v_func p p)<|aa<|D H4 en_188 fun r9 _ H5=>U p<|aj<|Z ⟨r9,p,H5⟩
def sC (a0:Ptr) (a1:Int) (a2:Int) (K:kT (Sl × Int)):hT:=cl prog mW [(pv a0),(.int .i64 a1),(.int .i64 a2)] bi fun r12=>br (r12 != 0) ( K ((⟨none,0,0,none⟩:Sl),r12)) ( cl prog lN [(pv a0),(.int .i64 a1),(.int .i64 a2)] db fun r20=>cl prog gY [(pv a0),(sv r20)] db fun r21=>K (r21,0))
theorem sim_caps_Tree_Revoke (a0:Ptr) (a1:Int) (a2:Int) {K:kT (Sl × Int)} {h:Hp} (H:sC a0 a1 a2 K h):cl prog oo [(pv a0),(.int .i64 a1),(.int .i64 a2)] dG K h:=z_i func175 p p fun _=>O<|J (au p)<|U p<|al<|O<|M p<|M p<|M p<|aa<|D H en_201 fun r12 _ H1=>U p<|O<|M p<|J (oX p p)<|ad<|av p H1 (fun k2 H3=>O<|M p<|J (au p)<|U p<|aj<|bB (bS p (bZ p)<|bZ p) ⟨((⟨none,0,0,none⟩:Sl),r12),p,H3⟩) fun k2 H3=>an<|O<|M p<|M p<|M p<|M p<|aa<|D H3 en_147 fun r20 _ H4=>aa<|D H4 en_202 fun r21 _ H5=>J (au p)<|U p<|aj<|bB (bS p (bZ p)<|bZ p) ⟨(r21,0),p,H5⟩
def sh_caps_New (a0:Int) (K:kT Ptr):hT:=br ((decide (a0 < 1)) || (decide (a0 > 4))) ( K none) ( hpv prog (Instr.makeSlice t_S_8_api_Cap (.int .i64 a0) (.int .i64 a0)) R_S_8_api_Cap fun (v10:Sl)=>nw oA (oV.C (⟨v10⟩:oV)) fun b12=>K (some (b12,0)))
theorem sim_caps_New (a0:Int) {K:kT Ptr} {h:Hp} (H:sh_caps_New a0 K h):cl prog ya [(.int .i64 a0)] td K h:=z_i func106 p p fun _=>O<|U p<|al<|O<|M p<|J (ci p p)<|M p<|W p p (aL _) (fun g1=>wv<|ah p)<|W p p (aL _) (fun g2=>wv<|oY (aD p g2) p)<|J (dy p p)<|ad<|av p H (fun k3 H4=>O<|U p<|aj<|Z ⟨none,p,H4⟩) fun k3 H4=>an<|O<|M p<|aa<|aR H4 (kw p p) p fun v10 _ H5=>J (ba p<|build_208_0 v10)<|aa<|iB p p p H5 fun b12 _ H6=>U p<|aj<|Z ⟨some (b12,0),p,H6⟩
end
section
open Go Mb
namespace Mb
def SpV {τ:Type} (P:Program) (c:Value) (args:List Value) (enc:τ->Value) (pre:List As) (post:τ->As):Prop :=
 ∃ f fi ca,c = .func (.func f) fi ca/\aI P f/\∀ h,az pre h->Ct P f ((fi++args.toArray)++ca) h fun v h'=>∃ r,v = enc r/\post r h'
theorem wm {m:List As} {B:As} {h:Hp} (s:az (m++[B]) h):az (B::m) h:=lf (List.perm_append_singleton _ _) s
theorem star_rot' {m:List As} {B:As} {h:Hp} (s:az (B::m) h):az (m++[B]) h:=lf (List.perm_append_singleton _ _).symm s
theorem clv_t {τ:Type} {P:Program} {c:Value} {args:List Value} {enc:τ->Value} {pre:List As} {B:As} {post:τ->As} {K:τ->Hp->Prop} {h:Hp} (H:SpV P c args enc pre post) (s:az (B::pre) h)
  (k:∀ r h',az [post r,B] h'->K r h'):clv P c args enc K h:=by
 obtain ⟨f,fi,ca,rfl,he,H⟩:=H;obtain ⟨h1,h2,d,rfl,s1,s2⟩:=fu.1 (star_rot' s);exact ⟨f,fi,ca,rfl,he,(H h1 s1).frame_mono d rfl fun v h' ⟨r,hv,q⟩ dj=>⟨r,hv,k r _ ⟨h',h2,dj,rfl,q,s2⟩⟩⟩
end Mb
abbrev Cap:=aA
abbrev bW:=aF
abbrev my:Cap:=⟨0,0,0,0⟩
theorem rf (c:Cap):c.C.length = 4:=rfl
theorem wN (c:bW):c.C.length = 2:=rfl
theorem place_one (c:bW):dL c.C = true:=rfl
instance:DecidableEq bW:=fun a b=>decidable_of_iff (a.fCa = b.fCa/\a.fDa = b.fDa) ⟨fun h=>by cases a; cases b; simp_all,fun h=>by subst h; exact ⟨rfl,rfl⟩⟩
def enc8 (r:List Cap):List Value:=((r++replicate 8 my).take 8).flatMap aA.C
theorem enc8_len (r:List Cap):(enc8 r).length = 32:=by unfold enc8; rw [eI rf]; simp
theorem enc8_eq {r:List Cap} (h:r.length = 8):enc8 r = r.flatMap aA.C:=by
 unfold enc8; rw [List.take_append_of_le_length (by omega),← h,List.take_length]
namespace fAa
abbrev T:=List (List Cap)
def has (t:T) (e s:Int):Bool:=decide (0 <= e/\e < t.length/\0 <= s/\s < 8)
def get (t:T) (e s:Int):Cap:=(t.getD e.toNat []).getD s.toNat my
def put (t:T) (e s:Int) (c:Cap):T:=t.set e.toNat ((t.getD e.toNat []).set s.toNat c)
def at_ (t:T) (e s:Int):Cap × Bool:=if has t e s = true/\(get t e s).fBa ≠ 0 then (get t e s,true) else (my,false)
def root (t:T) (e s f:Int):Int × T :=
 if has t e s = false\/f < 0\/f >= 16 then (2,t) else if (get t e s).fBa ≠ 0 then (4,t) else (0,put t e s ⟨f,3,-1,0⟩)
def derive (t:T) (e src to dst r:Int):Int × T :=
 if has t e src = false\/has t to dst = false\/cg r = false then (2,t)
 else if (get t e src).fBa = 0 then (3,t) else if (get t to dst).fBa ≠ 0 then (4,t)
 else if aO r (get t e src).fBa = false then (5,t) else (0,put t to dst ⟨(get t e src).fEa,r,e,src⟩)
def up:Nat->T->Cap->bW->Bool
 | 0,_,_,_=>false
 | n + 1,t,c,p=>if c.fBa ≠ 0/\0 <= c.fCa then (if c.fCa = p.fCa/\c.fDa = p.fDa then true else up n t (get t c.fCa c.fDa) p) else false
def deep:Nat->T->Cap->Nat
 | 0,_,_=>0
 | n + 1,t,c=>if c.fBa ≠ 0/\0 <= c.fCa then deep n t (get t c.fCa c.fDa) + 1 else 0
def under (t:T) (c:Cap) (p:bW):Bool:=up 40 t c p
def rowOf (P:Int->Int->Cap->Bool) (e:Int):List Cap->Int->List bW
 | [],_=>[]
 | c::cs,s=>if c.fBa ≠ 0/\P e s c = true then ⟨e,s⟩::rowOf P e cs (s + 1) else rowOf P e cs (s + 1)
def allOf (P:Int->Int->Cap->Bool):T->Int->List bW
 | [],_=>[]
 | r::rs,e=>rowOf P e r 0++allOf P rs (e + 1)
def below (t:T) (e s:Int):List bW:=allOf (fun _ _ c=>under t c ⟨e,s⟩) t 0
def own (t:T) (e s:Int):List bW:=allOf (fun a b c=>aF.eqb ⟨a,b⟩ ⟨e,s⟩ || under t c ⟨e,s⟩) t 0
def fUa (t:T):List bW->T
 | []=>t
 | p::l=>fUa (put t p.fCa p.fDa my) l
def look (t:T) (e s:Int):Int:=if has t e s = false then 2 else if (get t e s).fBa = 0 then 3 else 0
def revoke (t:T) (e s:Int):(List bW × Int) × T:=if look t e s ≠ 0 then (([],look t e s),t) else ((below t e s,0),fUa t (below t e s))
def drop (t:T) (e s:Int):(List bW × Int) × T:=if look t e s ≠ 0 then (([],look t e s),t) else ((own t e s,0),fUa t (own t e s))
structure Ok (t:T):Prop where
 len:t.length <= 4
 row:∀ r ∈ t,r.length = 8
 rk:∃ rank:Int->Int->Nat,∀ e s,has t e s = true->(get t e s).fBa ≠ 0->0 <= (get t e s).fCa ->
  has t (get t e s).fCa (get t e s).fDa = true/\(get t (get t e s).fCa (get t e s).fDa).fBa ≠ 0/\rank (get t e s).fCa (get t e s).fDa < rank e s
theorem has_nat {t:T} {e s:Int} (h:has t e s = true):∃ m n:Nat,e = m/\s = n/\m < t.length/\n < 8:=by
 unfold has at h;have:=of_decide_eq_true h;exact ⟨e.toNat,s.toNat,by omega,by omega,by omega,by omega⟩
theorem has_of {t:T} {m n:Nat} (h1:m < t.length) (h2:n < 8):has t m n = true:=by
 unfold has; exact decide_eq_true ⟨by omega,by omega,by omega,by omega⟩
theorem get_nat' {t:T} (ok:∀ r ∈ t,r.length = 8) {m n:Nat} (h1:m < t.length) (h2:n < 8):∃ h3:n < t[m].length,get t m n = t[m][n]:=by
 have:=ok _ (getElem_mem h1);refine ⟨by omega,?_⟩;have h3:n < t[m].length:=by omega
 simp [get,h1,h3]
theorem put_nat {t:T} {m n:Nat} (h1:m < t.length) (c:Cap):put t m n c = t.set m (t[m].set n c):=by simp [put,h1]
theorem put_len (t:T) (e s:Int) (c:Cap):(put t e s c).length = t.length:=by simp [put]
theorem put_has (t:T) (e s:Int) (c:Cap) (a b:Int):has (put t e s c) a b = has t a b:=by unfold has; rw [put_len]
theorem put_row {t:T} (ok:∀ r ∈ t,r.length = 8) (e s:Int) (c:Cap):∀ r ∈ put t e s c,r.length = 8:=by
 intro r hr;unfold put at hr;rcases List.mem_or_eq_of_mem_set hr with h | h
 ·exact ok r h
 ·subst h;by_cases hm:e.toNat < t.length
  ·simp [hm]; exact ok _ (getElem_mem hm)
  ·rw [List.set_eq_of_length_le (by omega)] at hr; exact ok _ hr
theorem get_put {t:T} (ok:∀ r ∈ t,r.length = 8) {e s a b:Int} (h:has t e s = true) (h2:has t a b = true) (c:Cap):get (put t e s c) a b = if a = e/\b = s then c else get t a b:=by
 obtain ⟨m,n,rfl,rfl,hm,hn⟩:=has_nat h;obtain ⟨i,j,rfl,rfl,hi,hj⟩:=has_nat h2;have hl:=ok _ (getElem_mem hm);rw [put_nat hm];simp only [get,Int.toNat_natCast,List.getD_eq_getElem?_getD,List.getElem?_set];by_cases e1:m = i
 ·subst e1;by_cases e2:n = j
  ·subst e2; simp [hm,hl,hn]
  ·have:¬ ((m:Int) = m/\(j:Int) = n):=by omega
   rw [if_neg this]; simp [hm,e2]
 ·have:¬ ((i:Int) = m/\(j:Int) = n):=by omega
  rw [if_neg this]; simp [e1]
theorem pigeon:∀ (n:Nat) (l:List Nat),l.Nodup->(∀ x ∈ l,x < n)->l.length <= n
 | 0,l,_,h=>by
  cases l with
  | nil=>simp
  | cons a l=>exact absurd (h a (by simp)) (by omega)
 | n + 1,l,d,h=>by
  have h1:=pigeon n (l.erase n) (d.erase n) (fun x hx=>by
   have h2:=d.mem_erase_iff.1 hx;have:=h x h2.2;have:=h2.1;omega)
  rw [List.length_erase] at h1;split at h1 <;> omega
theorem path {t:T} (ok:Ok t) {rank:Int->Int->Nat} (hr:∀ e s,has t e s = true->(get t e s).fBa ≠ 0->0 <= (get t e s).fCa ->
  has t (get t e s).fCa (get t e s).fDa = true/\(get t (get t e s).fCa (get t e s).fDa).fBa ≠ 0/\rank (get t e s).fCa (get t e s).fDa < rank e s) :
  ∀ (n:Nat) (e s:Int),has t e s = true->∃ l:List Nat,l.length = deep n t (get t e s)/\l.Pairwise (fun a b=>rank (b / 8:Nat) (b % 8:Nat) < rank (a / 8:Nat) (a % 8:Nat))/\∀ a ∈ l,a < 32/\rank (a / 8:Nat) (a % 8:Nat) < rank e s
 | 0,_,_,_=>⟨[],rfl,.nil,fun a h=>by cases h⟩
 | n + 1,e,s,h=>by
  by_cases hc:(get t e s).fBa ≠ 0/\0 <= (get t e s).fCa
  ·obtain ⟨h1,h2,h3⟩:=hr e s h hc.1 hc.2;obtain ⟨l,hl,hp,hb⟩:=path ok hr n _ _ h1;obtain ⟨i,j,ei,ej,hi,hj⟩:=has_nat h1;have hlen:=ok.len;have e1:(i * 8 + j) / 8 = i:=by omega
   have e2:(i * 8 + j) % 8 = j:=by omega
   refine ⟨(i * 8 + j)::l,?_,?_,?_⟩
   ·simp only [List.length_cons,deep]; rw [if_pos hc,hl]
   ·refine List.pairwise_cons.2 ⟨fun b hb'=>?_,hp⟩;have:=(hb b hb').2;rw [e1,e2,← ei,← ej]; exact this
   ·intro a ha;rcases mem_cons.1 ha with rfl | ha
    ·rw [e1,e2,← ei,← ej]; exact ⟨by omega,h3⟩
    ·exact ⟨(hb a ha).1,Nat.lt_trans (hb a ha).2 h3⟩
  ·exact ⟨[],by simp only [deep]; rw [if_neg hc]; rfl,.nil,fun a h=>by cases h⟩
theorem deep_le {t:T} (ok:Ok t) {e s:Int} (h:has t e s = true) (n:Nat):deep n t (get t e s) <= 32:=by
 obtain ⟨rank,hr⟩:=ok.rk;obtain ⟨l,hl,hp,hb⟩:=path ok hr n e s h;rw [← hl];refine pigeon 32 l (hp.imp ?_) (fun x hx=>(hb x hx).1);rintro a b hab rfl;exact absurd hab (Nat.lt_irrefl _)
theorem deep_s (n:Nat) (t:T) (c:Cap):deep (n + 1) t c = if c.fBa ≠ 0/\0 <= c.fCa then deep n t (get t c.fCa c.fDa) + 1 else 0:=rfl
theorem up_s (n:Nat) (t:T) (c:Cap) (p:bW):up (n + 1) t c p = if c.fBa ≠ 0/\0 <= c.fCa then (if c.fCa = p.fCa/\c.fDa = p.fDa then true else up n t (get t c.fCa c.fDa) p) else false:=rfl
theorem deep_succ {t:T}:∀ {n:Nat} {c:Cap},deep n t c < n->deep (n + 1) t c = deep n t c
 | 0,_,h=>by omega
 | n + 1,c,h=>by
  rw [deep_s (n + 1) t c,deep_s n t c];rw [deep_s n] at h;by_cases hc:c.fBa ≠ 0/\0 <= c.fCa
  ·rw [if_pos hc] at h;rw [if_pos hc,if_pos hc,deep_succ (n:=n) (by omega)]
  ·rw [if_neg hc,if_neg hc]
theorem up_succ {t:T} {p:bW}:∀ {n:Nat} {c:Cap},deep n t c < n->up (n + 1) t c p = up n t c p
 | 0,_,h=>by omega
 | n + 1,c,h=>by
  rw [up_s (n + 1) t c p,up_s n t c p];rw [deep_s n] at h;by_cases hc:c.fBa ≠ 0/\0 <= c.fCa
  ·rw [if_pos hc] at h;rw [if_pos hc,if_pos hc,up_succ (n:=n) (by omega)]
  ·rw [if_neg hc,if_neg hc]
theorem under_step {t:T} (ok:Ok t) {e s:Int} (h:has t e s = true) (p:bW):under t (get t e s) p = if (get t e s).fBa ≠ 0/\0 <= (get t e s).fCa then (if (get t e s).fCa = p.fCa/\(get t e s).fDa = p.fDa then true else under t (get t (get t e s).fCa (get t e s).fDa) p) else false:=by
 have h1:=deep_le ok h 40;unfold under;by_cases hc:(get t e s).fBa ≠ 0/\0 <= (get t e s).fCa
 ·rw [deep_s 39,if_pos hc] at h1;rw [up_s 39,up_succ (n:=39) (by omega)]
 ·rw [up_s 39,if_neg hc,if_neg hc]
theorem deep_step {t:T} (ok:Ok t) {e s:Int} (h:has t e s = true) (hc:(get t e s).fBa ≠ 0/\0 <= (get t e s).fCa):deep 40 t (get t (get t e s).fCa (get t e s).fDa) < deep 40 t (get t e s):=by
 have h1:=deep_le ok h 40;rw [deep_s 39,if_pos hc] at h1;rw [deep_succ (n:=39) (by omega),deep_s 39,if_pos hc];omega
theorem ok_new (n:Nat) (h:n <= 4):Ok (replicate n (replicate 8 my)):=by
 refine ⟨by simpa using h,fun r hr=>?_,fun _ _=>0,fun e s hh hne=>?_⟩
 ·rw [(List.mem_replicate.1 hr).2]; rfl
 ·exfalso
  apply hne;obtain ⟨i,j,rfl,rfl,hi,hj⟩:=has_nat hh;simp only [List.length_replicate] at hi;simp only [get,Int.toNat_natCast,List.getD_eq_getElem?_getD,List.getElem?_replicate,if_pos hi,Option.getD_some,if_pos hj]
theorem ok_put {t:T} (ok:Ok t) {e s:Int} (h:has t e s = true) (h0:(get t e s).fBa = 0) (c:Cap) (hc:0 <= c.fCa->has t c.fCa c.fDa = true/\(get t c.fCa c.fDa).fBa ≠ 0):Ok (put t e s c):=by
 obtain ⟨rank,hr⟩:=ok.rk;refine ⟨by rw [put_len]; exact ok.len,put_row ok.row e s c,fun a b=>if a = e/\b = s then rank c.fCa c.fDa + 1 else rank a b,fun a b hab hne hen=>?_⟩;rw [put_has] at hab;have keep:∀ {i j:Int},has t i j = true->(get t i j).fBa ≠ 0->¬ (i = e/\j = s):=by
  rintro i j _ hn ⟨rfl,rfl⟩; exact hn h0
 have hg:=get_put ok.row h hab c;rw [hg] at hne hen ⊢;by_cases hes:a = e/\b = s
 ·rw [if_pos hes] at hne hen ⊢;obtain ⟨h1,h2⟩:=hc hen;have hk:=keep h1 h2;refine ⟨by rw [put_has]; exact h1,by rw [get_put ok.row h h1,if_neg hk]; exact h2,?_⟩;show (if c.fCa = e/\c.fDa = s then _ else _) < (if a = e/\b = s then _ else _)
  rw [if_neg hk,if_pos hes]; omega
 ·rw [if_neg hes] at hne hen ⊢;obtain ⟨h1,h2,h3⟩:=hr a b hab hne hen;have hk:=keep h1 h2;refine ⟨by rw [put_has]; exact h1,by rw [get_put ok.row h h1,if_neg hk]; exact h2,?_⟩;show (if (get t a b).fCa = e/\(get t a b).fDa = s then _ else _) < (if a = e/\b = s then _ else _)
  rw [if_neg hk,if_neg hes]; exact h3
theorem empties_len:∀ (l:List bW) (t:T),(fUa t l).length = t.length
 | [],_=>rfl
 | p::l,t=>by rw [fUa,empties_len l,put_len]
theorem empties_has (t:T) (l:List bW) (a b:Int):has (fUa t l) a b = has t a b:=by unfold has; rw [empties_len]
theorem empties_row:∀ (l:List bW) (t:T),(∀ r ∈ t,r.length = 8)->∀ r ∈ fUa t l,r.length = 8
 | [],_,h=>h
 | p::l,t,h=>empties_row l _ (put_row h _ _ _)
theorem jz:∀ (l:List bW) (t:T),(∀ r ∈ t,r.length = 8)->(∀ p ∈ l,has t p.fCa p.fDa = true)->∀ a b,has t a b = true->get (fUa t l) a b = if (⟨a,b⟩:bW) ∈ l then my else get t a b
 | [],_,_,_,_,_,_=>by simp [fUa]
 | p::l,t,h,hl,a,b,hab=>by
  rw [fUa,jz l _ (put_row h _ _ _) (fun q hq=>by rw [put_has]; exact hl q (by simp [hq])) a b (by rw [put_has]; exact hab),get_put h (hl p (by simp)) hab];by_cases h1:(⟨a,b⟩:bW) ∈ l
  ·rw [if_pos h1,if_pos (by simp [h1])]
  ·rw [if_neg h1];by_cases h2:a = p.fCa/\b = p.fDa
   ·obtain ⟨rfl,rfl⟩:=h2;rw [if_pos ⟨rfl,rfl⟩,if_pos (by simp)]
   ·rw [if_neg h2,if_neg];intro hm;rcases mem_cons.1 hm with hm | hm
    ·subst hm; exact h2 ⟨rfl,rfl⟩
    ·exact h1 hm
theorem rowOf_c (P:Int->Int->Cap->Bool) (e:Int) (c:Cap) (cs:List Cap) (s:Int):rowOf P e (c::cs) s = if c.fBa ≠ 0/\P e s c = true then ⟨e,s⟩::rowOf P e cs (s + 1) else rowOf P e cs (s + 1):=rfl
theorem mem_rowOf {P:Int->Int->Cap->Bool} {e:Int} {p:bW}:∀ {cs:List Cap} {s:Int},p ∈ rowOf P e cs s↔p.fCa = e/\∃ (n:Nat) (c:Cap),cs[n]? = some c/\p.fDa = s + n/\c.fBa ≠ 0/\P e (s + n) c = true
 | [],s=>by simp [rowOf]
 | c::cs,s=>by
  have ih:=mem_rowOf (P:=P) (e:=e) (p:=p) (cs:=cs) (s:=s + 1);have tail:(p.fCa = e/\∃ (n:Nat) (c':Cap),cs[n]? = some c'/\p.fDa = s + 1 + n/\c'.fBa ≠ 0/\P e (s + 1 + n) c' = true)↔(p.fCa = e/\∃ (n:Nat) (c':Cap),(c::cs)[n + 1]? = some c'/\p.fDa = s + ((n + 1:Nat):Int)/\c'.fBa ≠ 0/\P e (s + ((n + 1:Nat):Int)) c' = true):=by
   have:∀ n:Nat,s + ((n + 1:Nat):Int) = s + 1 + n:=fun n=>by omega
   simp only [this,getElem?_cons_succ]
  have split0:(p.fCa = e/\∃ (n:Nat) (c':Cap),(c::cs)[n]? = some c'/\p.fDa = s + n/\c'.fBa ≠ 0/\P e (s + n) c' = true)↔(p = ⟨e,s⟩/\c.fBa ≠ 0/\P e s c = true)\/(p.fCa = e/\∃ (n:Nat) (c':Cap),(c::cs)[n + 1]? = some c'/\p.fDa = s + ((n + 1:Nat):Int)/\c'.fBa ≠ 0/\P e (s + ((n + 1:Nat):Int)) c' = true):=by
   constructor
   ·rintro ⟨he,n,c',h1,h2,h3,h4⟩;cases n with
    | zero =>
     simp at h1; subst h1;simp at h2 h4;exact .inl ⟨by cases p; simp_all,h3,h4⟩
    | succ n=>exact .inr ⟨he,n,c',h1,h2,h3,h4⟩
   ·rintro (⟨rfl,h3,h4⟩ | ⟨he,n,c',h1,h2,h3,h4⟩)
    ·exact ⟨rfl,0,c,rfl,by simp,h3,by simpa using h4⟩
    ·exact ⟨he,n + 1,c',h1,h2,h3,h4⟩
  rw [split0,← tail,← ih,rowOf_c];split
  ·rename_i hc;rw [mem_cons];constructor
   ·rintro (h | h)
    ·exact .inl ⟨h,hc⟩
    ·exact .inr h
   ·rintro (h | h)
    ·exact .inl h.1
    ·exact .inr h
  ·rename_i hc;constructor
   ·exact .inr
   ·rintro (h | h)
    ·exact absurd h.2 hc
    ·exact h
theorem mem_allOf {P:Int->Int->Cap->Bool} {p:bW}:∀ {t:T} {e:Int},p ∈ allOf P t e↔∃ (m n:Nat) (r:List Cap) (c:Cap),t[m]? = some r/\r[n]? = some c/\p = ⟨e + m,n⟩/\c.fBa ≠ 0/\P (e + m) n c = true
 | [],e=>by simp [allOf]
 | r::t,e=>by
  rw [allOf,List.mem_append,mem_rowOf,mem_allOf];constructor
  ·rintro (⟨h1,n,c,h2,h3,h4,h5⟩ | ⟨m,n,r',c,h1,h2,rfl,h4,h5⟩)
   ·refine ⟨0,n,r,c,rfl,h2,?_,h4,?_⟩
    ·cases p; simp_all
    ·simpa using h5
   ·refine ⟨m + 1,n,r',c,by simpa using h1,h2,?_,h4,?_⟩
    ·congr 1; omega
    ·rw [show e + ((m + 1:Nat):Int) = e + 1 + m from by omega]; exact h5
  ·rintro ⟨m,n,r',c,h1,h2,rfl,h4,h5⟩;cases m with
   | zero =>
    simp at h1; subst h1;exact .inl ⟨by simp,n,c,h2,by simp,h4,by simpa using h5⟩
   | succ m =>
    refine .inr ⟨m,n,r',c,by simpa using h1,h2,?_,h4,?_⟩
    ·congr 1; omega
    ·rw [show e + 1 + (m:Int) = e + ((m + 1:Nat):Int) from by omega]; exact h5
theorem mem_all {t:T} (row:∀ r ∈ t,r.length = 8) {P:Int->Int->Cap->Bool} {p:bW}:p ∈ allOf P t 0↔has t p.fCa p.fDa = true/\(get t p.fCa p.fDa).fBa ≠ 0/\P p.fCa p.fDa (get t p.fCa p.fDa) = true:=by
 rw [mem_allOf];constructor
 ·rintro ⟨m,n,r,c,h1,h2,rfl,h4,h5⟩;obtain ⟨hm,e1⟩:=List.getElem?_eq_some_iff.1 h1;obtain ⟨hn,e2⟩:=List.getElem?_eq_some_iff.1 h2;have h8:=row r (List.mem_of_getElem? h1);simp only [Int.zero_add] at h5 ⊢;have hg:get t m n = c:=by simp [get,h1,h2]
  rw [hg];exact ⟨has_of hm (by omega),h4,h5⟩
 ·rintro ⟨h1,h2,h3⟩;obtain ⟨m,n,em,en,hm,hn⟩:=has_nat h1;rw [em,en] at h2 h3;obtain ⟨hn',hg⟩:=get_nat' row hm hn;rw [hg] at h2 h3;refine ⟨m,n,t[m],t[m][n],by simp [hm],by simp [hn'],?_,h2,by simpa using h3⟩;cases p; simp_all
theorem mem_below {t:T} (ok:Ok t) {e s:Int} {p:bW}:p ∈ below t e s↔has t p.fCa p.fDa = true/\(get t p.fCa p.fDa).fBa ≠ 0/\under t (get t p.fCa p.fDa) ⟨e,s⟩ = true:=mem_all ok.row
theorem eqb_place (p q:bW):aF.eqb p q = true↔p = q:=by
 cases p; cases q; simp [aF.eqb]
theorem mem_own {t:T} (ok:Ok t) {e s:Int} {p:bW}:p ∈ own t e s↔has t p.fCa p.fDa = true/\(get t p.fCa p.fDa).fBa ≠ 0/\(p = ⟨e,s⟩\/under t (get t p.fCa p.fDa) ⟨e,s⟩ = true):=by
 unfold own;rw [mem_all ok.row,Bool.or_eq_true,eqb_place]
theorem under_rights {t:T} {c:Cap} {p:bW} (h:under t c p = true):c.fBa ≠ 0:=by
 unfold under at h; rw [up_s 39] at h;split at h
 ·rename_i hc; exact hc.1
 ·cases h
theorem ok_empties {t:T} (ok:Ok t) {l:List bW} (hl:∀ p ∈ l,has t p.fCa p.fDa = true)
  (cl:∀ e s,has t e s = true->(get t e s).fBa ≠ 0->0 <= (get t e s).fCa->(⟨(get t e s).fCa,(get t e s).fDa⟩:bW) ∈ l->(⟨e,s⟩:bW) ∈ l):Ok (fUa t l):=by
 obtain ⟨rank,hr⟩:=ok.rk;refine ⟨by rw [empties_len]; exact ok.len,empties_row l t ok.row,rank,fun a b hab hne hen=>?_⟩;rw [empties_has] at hab;have hg:=jz l t ok.row hl a b hab;by_cases hm:(⟨a,b⟩:bW) ∈ l
 ·rw [if_pos hm] at hg; rw [hg] at hne; exact absurd rfl hne
 ·rw [if_neg hm] at hg;rw [hg] at hne hen ⊢;obtain ⟨h1,h2,h3⟩:=hr a b hab hne hen;have hp:(⟨(get t a b).fCa,(get t a b).fDa⟩:bW) ∉ l:=fun h=>hm (cl a b hab hne hen h);refine ⟨by rw [empties_has]; exact h1,?_,h3⟩;rw [jz l t ok.row hl _ _ h1,if_neg hp]; exact h2
theorem ok_below {t:T} (ok:Ok t) (e s:Int):Ok (fUa t (below t e s)):=by
 refine ok_empties ok (fun p hp=>((mem_below ok).1 hp).1) fun a b hab hne hen hp=>?_;have h1:=(mem_below ok).1 hp;refine (mem_below ok).2 ⟨hab,hne,?_⟩;rw [under_step ok hab,if_pos ⟨hne,hen⟩];split
 ·rfl
 ·exact h1.2.2
theorem ok_own {t:T} (ok:Ok t) (e s:Int):Ok (fUa t (own t e s)):=by
 refine ok_empties ok (fun p hp=>((mem_own ok).1 hp).1) fun a b hab hne hen hp=>?_;have h1:=(mem_own ok).1 hp;refine (mem_own ok).2 ⟨hab,hne,.inr ?_⟩;rw [under_step ok hab,if_pos ⟨hne,hen⟩];split
 ·rfl
 ·rename_i hno;rcases h1.2.2 with h | h
  ·exact absurd ⟨congrArg aF.fCa h,congrArg aF.fDa h⟩ hno
  ·exact h
theorem ok_root {t:T} (ok:Ok t) (e s f:Int):Ok (root t e s f).2:=by
 unfold root;split
 ·exact ok
 ·split
  ·exact ok
  ·rename_i h1 h2;refine ok_put ok (by simp at h1; exact h1.1) (by simpa using h2) _ (fun h=>?_);exact absurd h (by show ¬ (0:Int) <= -1; omega)
theorem ok_derive {t:T} (ok:Ok t) (e src to dst r:Int):Ok (derive t e src to dst r).2:=by
 unfold derive;split
 ·exact ok
 ·split
  ·exact ok
  ·split
   ·exact ok
   ·split
    ·exact ok
    ·rename_i h1 h2 h3 h4;simp at h1;exact ok_put ok h1.2.1 (by simpa using h3) _ (fun _=>⟨h1.1,h2⟩)
theorem ok_revoke {t:T} (ok:Ok t) (e s:Int):Ok (revoke t e s).2:=by
 unfold revoke; split
 ·exact ok
 ·exact ok_below ok e s
theorem ok_drop {t:T} (ok:Ok t) (e s:Int):Ok (drop t e s).2:=by
 unfold drop; split
 ·exact ok
 ·exact ok_own ok e s
end fAa
end
section
open Go Mb
def uN (a0:Ptr) (K:kT Int):hT:=br a0.isNone ( K 0) ( nn a0 fun q6=>ld (q6.1,q6.2 + 0) cS fun x8=>K (x8.len:Int))
theorem sim_mem_Mem_Frames (a0:Ptr) {K:kT Int} {h:Hp} (H:uN a0 K h):cl prog wS [(pv a0)] eB K h:=z_i func204 p p fun _=>O<|U p<|al<|O<|M p<|J (cx underlying152 p)<|ad<|av p H (fun k1 H2=>O<|U p<|aj<|Z ⟨0,p,H2⟩) fun k1 H2=>an<|O<|M p<|bH H2 fun q6 e3 H4=>J (aJ<|aG p<|aq e3)<|J (ae ti p)<|aa<|aU H4 lR p (fun _=>p) p fun x8 H5=>J (dH p underlying163 p)<|U p<|aj<|Z ⟨(x8.len:Int),p,H5⟩
def sh_mem_Mem_at (a0:Ptr) (a1:Int) (a2:Int) (K:kT Ptr):hT:=br (!(decide (a1 < 0))) ( cl prog wS [(pv a0)] eB fun r12=>br (((decide (a1 >= r12)) || (decide (a2 < 0))) || (decide (a2 >= 16))) ( K none) ( nn a0 fun q24=>ld (q24.1,q24.2 + 0) cS fun x26=>ix x26 a1 fun q28=>ld (q28.1,q28.2 + Int.toNat a1 * 1) cS fun x29=>ix x29 a2 fun q31=>K (some (q31.1,q31.2 + Int.toNat a2 * 1)))) ( K none)
theorem sim_mem_Mem_at (a0:Ptr) (a1:Int) (a2:Int) {K:kT Ptr} {h:Hp} (H:sh_mem_Mem_at a0 a1 a2 K h):cl prog mN [(pv a0),(.int .i64 a1),(.int .i64 a2)] tm K h:=z_i func179 p p fun _=>O<|U p<|al<|O<|M p<|J (ci p p)<|M p<|W p p (aL _) (fun g1=>wv<|ah p)<|W p p (aL _) (fun g2=>wv<|ah p)<|bV H (fun k4 H5=>G (F<|ch k4)<|gG H5 en_204 (aT (aD p k4) bT) p fun r12 _ H6=>G (F<|ch k4)<|z_p (jS (aD p k4) p)<|J (ar p (ch k4) p)<|M p<|W p p (aL _) (fun g7=>wv<|ah p)<|W p p (aL _) (fun g8=>wv<|ci (aD p g8) p)<|J (dy p p)<|M p<|W p p (aL _) (fun g9=>wv<|ah p)<|W p p (aL _) (fun g10=>wv<|jS (aD p g10) p)<|J (dy p p)<|ad<|av p H6 (fun k11 H12=>O<|U p<|aj<|Z ⟨none,p,H12⟩) fun k11 H12=>an<|O<|M p<|bH H12 fun q24 e13 H14=>J (aJ<|aG p<|aq e13)<|J (ae ti p)<|aa<|aU H14 lR p (fun _=>p) p fun x26 H15=>M p<|cm H15 fun q28 e16 h17 H18=>J (bd mF (aG p<|aW e16) p h17)<|aa<|aU H18 sc_93 p (fun _=>p) p fun x29 H19=>M p<|cm H19 fun q31 e20 h21 H22=>J (bd xw (aG p<|aW e20) p h21)<|U p<|aj<|Z ⟨some (q31.1,q31.2 + Int.toNat a2 * 1),p,H22⟩) fun k4 H5=>Y (cd<|bJ k4)<|Y (cd<|bJ k4)<|J (aV p (bJ k4) p)<|M p<|Y p<|Y p<|J (aV p p p)<|M p<|Y p<|Y p<|J (aV p p p)<|ad<|ns p p<|O<|U p<|aj<|Z ⟨none,p,H5⟩
def sh_mem_Mem_Load (a0:Ptr) (a1:Int) (a2:Int) (K:kT (Int × Bool)):hT:=cl prog mN [(pv a0),(.int .i64 a1),(.int .i64 a2)] tm fun r12=>br r12.isNone ( K (0,false)) ( nn r12 fun q16=>ld (q16.1,q16.2) (cI .u64) fun x17=>K (x17,true))
theorem sim_mem_Mem_Load (a0:Ptr) (a1:Int) (a2:Int) {K:kT (Int × Bool)} {h:Hp} (H:sh_mem_Mem_Load a0 a1 a2 K h):cl prog iI [(pv a0),(.int .i64 a1),(.int .i64 a2)] bK K h:=z_i func161 p p fun _=>O<|J (au p)<|U p<|O<|M p<|M p<|M p<|aa<|D H en_179 fun r12 _ H1=>U p<|al<|O<|M p<|J (cx underlying191 p)<|ad<|av p H1 (fun k2 H3=>O<|J (au p)<|U p<|aj<|bB (bS p (bZ p)<|bZ p) ⟨(0,false),p,H3⟩) fun k2 H3=>an<|O<|M p<|bH H3 fun q16 e4 H5=>J (aJ<|aG p<|aq e4)<|aa<|aU H5 cC p (fun _=>p) p fun x17 H6=>J (au p)<|U p<|aj<|bB (bS p (bZ p)<|bZ p) ⟨(x17,true),p,H6⟩
def wF (a0:Ptr) (a1:Int) (a2:Int) (a3:Int) (K:kT Bool):hT:=cl prog mN [(pv a0),(.int .i64 a1),(.int .i64 a2)] tm fun r13=>br r13.isNone ( K false) ( nn r13 fun q18=>st (q18.1,q18.2) [.int .u64 a3]<|K true)
theorem sim_mem_Mem_Store (a0:Ptr) (a1:Int) (a2:Int) (a3:Int) {K:kT Bool} {h:Hp} (H:wF a0 a1 a2 a3 K h):cl prog fT [(pv a0),(.int .i64 a1),(.int .i64 a2),(.int .u64 a3)] aB K h:=z_i func162 p p fun _=>O<|U p<|O<|M p<|M p<|M p<|aa<|D H en_179 fun r13 _ H1=>U p<|al<|O<|M p<|J (cx underlying191 p)<|ad<|av p H1 (fun k2 H3=>O<|U p<|aj<|Z ⟨false,p,H3⟩) fun k2 H3=>an<|O<|M p<|M p<|bH H3 fun q18 e4 H5=>J (aJ<|aG p<|aq e4)<|aa<|dq inf_22 p p p p p H5 fun _ H6=>ad<|O<|U p<|aj<|Z ⟨true,p,H6⟩
def sh_mem_Mem_Cas (a0:Ptr) (a1:Int) (a2:Int) (a3:Int) (a4:Int) (K:kT (Int × Bool)):hT:=cl prog iI [(pv a0),(.int .i64 a1),(.int .i64 a2)] bK fun r18=>br (r18.2 && (r18.1 == a3)) ( cl prog fT [(pv a0),(.int .i64 a1),(.int .i64 a2),(.int .u64 a4)] aB fun r31=>K (r18.1,r18.2)) ( K (r18.1,r18.2))
theorem sim_mem_Mem_Cas (a0:Ptr) (a1:Int) (a2:Int) (a3:Int) (a4:Int) {K:kT (Int × Bool)} {h:Hp} (H:sh_mem_Mem_Cas a0 a1 a2 a3 a4 K h):cl prog ra [(pv a0),(.int .i64 a1),(.int .i64 a2),(.int .u64 a3),(.int .u64 a4)] bK K h:=z_i func163 p p fun _=>O<|J (au p)<|U p<|O<|M p<|M p<|M p<|aa<|D H en_161 fun r18 _ H1=>M p<|J (ak p p)<|J (ak p p)<|J (au p)<|U p<|al<|O<|M p<|M p<|W p p (ax _) (fun g2=>wv<|ah p)<|W p p (ax _) (fun g3=>wv<|ah p)<|W p p (ax _) (fun g4=>wv<|bP (aD p g4)<|aD p g4)<|J (bO p p)<|ad<|av p H1 (fun k5 H6=>ap<|M p<|M p<|M p<|M p<|aa<|D H6 en_162 fun r31 _ H7=>ad<|O<|M p<|M p<|J (au p)<|U p<|aj<|bB (bS p (bZ p)<|bZ p) ⟨(r18.1,r18.2),p,H7⟩) fun k5 H6=>an<|O<|M p<|M p<|J (au p)<|U p<|aj<|bB (bS p (bZ p)<|bZ p) ⟨(r18.1,r18.2),p,H6⟩
def sh_mem_Mem_Add (a0:Ptr) (a1:Int) (a2:Int) (a3:Int) (K:kT (Int × Bool)):hT:=cl prog iI [(pv a0),(.int .i64 a1),(.int .i64 a2)] bK fun r16=>cl prog fT [(pv a0),(.int .i64 a1),(.int .i64 a2),(.int .u64 (u64.wrap (r16.1 + a3)))] aB fun r25=>K (r16.1,r16.2)
theorem sim_mem_Mem_Add (a0:Ptr) (a1:Int) (a2:Int) (a3:Int) {K:kT (Int × Bool)} {h:Hp} (H:sh_mem_Mem_Add a0 a1 a2 a3 K h):cl prog rb [(pv a0),(.int .i64 a1),(.int .i64 a2),(.int .u64 a3)] bK K h:=z_i func164 p p fun _=>O<|J (au p)<|U p<|O<|M p<|M p<|M p<|aa<|D H en_161 fun r16 _ H1=>M p<|J (ak p p)<|J (ak p p)<|J (au p)<|U p<|O<|M p<|M p<|M p<|M p<|M p<|J (bj p p)<|aa<|D H1 en_162 fun r25 _ H2=>ad<|O<|M p<|M p<|J (au p)<|U p<|aj<|bB (bS p (bZ p)<|bZ p) ⟨(r16.1,r16.2),p,H2⟩
def sh_mem_Mem_Zero (a0:Ptr) (a1:Int) (K:kT Bool):hT:=cl prog mN [(pv a0),(.int .i64 a1),(.int .i64 0)] tm fun r7=>br r7.isNone ( K false) ( nn a0 fun q10=>ld (q10.1,q10.2 + 0) cS fun x12=>ix x12 a1 fun q14=>ld (q14.1,q14.2 + Int.toNat a1 * 1) cS fun x15=>hpv prog (Builtin.clear_ #[be] t_none #[(sv x15)]) R_ fun (_:Unit)=>K true)
theorem sim_mem_Mem_Zero (a0:Ptr) (a1:Int) {K:kT Bool} {h:Hp} (H:sh_mem_Mem_Zero a0 a1 K h):cl prog tU [(pv a0),(.int .i64 a1)] aB K h:=z_i func172 p p fun _=>O<|U p<|al<|O<|M p<|M p<|aa<|D H en_179 fun r7 _ H1=>J (cx underlying191 p)<|ad<|av p H1 (fun k2 H3=>O<|U p<|aj<|Z ⟨false,p,H3⟩) fun k2 H3=>an<|O<|M p<|bH H3 fun q10 e4 H5=>J (aJ<|aG p<|aq e4)<|J (ae ti p)<|aa<|aU H5 lR p (fun _=>p) p fun x12 H6=>M p<|cm H6 fun q14 e7 h8 H9=>J (bd mF (aG p<|aW e7) p h8)<|aa<|aU H9 sc_93 p (fun _=>p) p fun x15 H10=>aa<|to_hpv0 H10 (x_clear p) fun _ _ H11=>ad<|O<|U p<|aj<|Z ⟨true,p,H11⟩
def mem_New_l1 (a0:Int) (K:kT Ptr) (b11:Nat) (Rec7:kT Int) (s6:Int):hT:=br (decide (s6 < a0)) ( ld (b11,0) cS fun x19=>hpv prog (Instr.makeSlice be (.int .i64 16) (.int .i64 16)) ce fun (v20:Sl)=>hpv prog (Instr.buildSlice qD 1 #[(0,(sv v20))]) R_SSuint64 fun (v21:Sl)=>hpv prog (Builtin.append_ #[qD,qD] qD #[(sv x19),(sv v21)]) R_SSuint64 fun (v22:Sl)=>st (b11,0) [sv v22]<|Rec7 (i64.wrap (s6 + 1))) ( K (some (b11,0)))
def sh_mem_New (a0:Int) (K:kT Ptr):hT:=br ((decide (a0 < 1)) || (decide (a0 > 16))) ( K none) ( nw mB (tk.C (⟨(⟨none,0,0,none⟩:Sl)⟩:tk)) fun b11=>Lp (mem_New_l1 a0 K b11) 0)
theorem sim_mem_New (a0:Int) {K:kT Ptr} {h:Hp} (H:sh_mem_New a0 K h):cl prog wR [(.int .i64 a0)] uu K h:=z_i func104 p p fun _=>O<|U p<|al<|O<|M p<|J (ci p p)<|M p<|W p p (aL _) (fun g1=>wv<|ah p)<|W p p (aL _) (fun g2=>wv<|oY (aD p g2) p)<|J (dy p p)<|ad<|av p H (fun k3 H4=>O<|U p<|aj<|Z ⟨none,p,H4⟩) fun k3 H4=>an<|O<|J (ba (vs:=[]) p build_212)<|aa<|iB p p p H4 fun b11 _ H5=>U p<|al<|O<|M p<|M p<|ad<|aw<|bv (step:=mem_New_l1 a0 K b11) (fun s6=>[(3,(.pointer (some ⟨b11,0,none⟩))),(12,(.int .i64 a0)),(13,(.int .i64 s6))]) (fun s6=>[]) H5 (.cons p<|.cons p<|.cons p<|.nil _) .slnil fun Rec7 s6 _ H8=>O<|J (ci p p)<|ad<|al<|av p H8 (fun k9 H10=>an<|al<|aw<|bn (n:=11) [] cq p .slnil<|V 0 p (ah p)<|V 1 p (ah p)<|V 2 p (aJ p)<|V 3 p (ae ti p)<|bz (i:=4) (fun _ _ _ _ hh=>hh) H10 p (by kernel_rfl) lR p (fun _=>p) p fun x19 H11=>I 5 p<|aR H11 (kw p p) p fun v20 _ H12=>⟨.slnil,I 6 p<|aR H12 (bw (vs:=[(sv v20)]) p) p fun v21 _ H13=>⟨.slnil,I 7 p<|aR H13 (dP p p) p fun v22 _ H14=>⟨.slnil,V 8 p (aJ p)<|V 9 p (ae ti p)<|I 10 p<|dq inf_163 p p p p p H14 fun _ H15=>⟨.slnil,aQ (by kernel_rfl)<|ap<|J (bj p p)<|M p<|ad<|cD (i64.wrap (s6 + 1)) H15 (.cons p<|.cons p<|.cons p<|.nil _) .slnil⟩⟩⟩⟩) fun k9 H10=>bf<|O<|M p<|U p<|aj<|Z ⟨some (b11,0),p,H10⟩
def wG (a0:Ptr) (a1:Int) (K:kT Sl):hT:=cl prog mN [(pv a0),(.int .i64 a1),(.int .i64 0)] tm fun r7=>br r7.isNone ( K (⟨none,0,0,none⟩:Sl)) ( nn a0 fun q10=>ld (q10.1,q10.2 + 0) cS fun x12=>ix x12 a1 fun q14=>ld (q14.1,q14.2 + Int.toNat a1 * 1) cS fun x15=>cl prog gQ [(sv x15)] ce fun r16=>K r16)
theorem sim_mem_Mem_Frame (a0:Ptr) (a1:Int) {K:kT Sl} {h:Hp} (H:wG a0 a1 K h):cl prog rT [(pv a0),(.int .i64 a1)] ce K h:=z_i func136 p p fun _=>O<|U p<|al<|O<|M p<|M p<|aa<|D H en_179 fun r7 _ H1=>J (cx underlying191 p)<|ad<|av p H1 (fun k2 H3=>O<|U p<|aj<|Z ⟨(⟨none,0,0,none⟩:Sl),p,H3⟩) fun k2 H3=>an<|O<|M p<|bH H3 fun q10 e4 H5=>J (aJ<|aG p<|aq e4)<|J (ae ti p)<|aa<|aU H5 lR p (fun _=>p) p fun x12 H6=>M p<|cm H6 fun q14 e7 h8 H9=>J (bd mF (aG p<|aW e7) p h8)<|aa<|aU H9 sc_93 p (fun _=>p) p fun x15 H10=>aa<|D H10 en_180 fun r16 _ H11=>U p<|aj<|Z ⟨r16,p,H11⟩
end
section
open Go Mb
abbrev vU (s:Sl) (xs:List Int):As:=vec t_uint64 1 (cI .u64) s xs
def rows:List Sl->List (List Int)->List As
 | s::ss,f::fs=>vU s f::rows ss fs
 | _,_=>[]
theorem rows_get:∀ (ss:List Sl) (fs:List (List Int)) (i:Nat) (s:Sl) (f:List Int),ss[i]? = some s->fs[i]? = some f->(rows ss fs)[i]? = some (vU s f)
 | [],_,_,_,_,h,_=>by simp at h
 | _::_,[],_,_,_,_,h=>by simp at h
 | s::ss,f::fs,0,_,_,h1,h2=>by simp at h1 h2; subst h1; subst h2; rfl
 | s::ss,f::fs,i + 1,_,_,h1,h2=>by simpa [rows] using rows_get ss fs i _ _ (by simpa using h1) (by simpa using h2)
theorem rows_set:∀ (ss:List Sl) (fs:List (List Int)) (i:Nat) (s:Sl) (f:List Int),ss[i]? = some s->(rows ss fs).set i (vU s f) = rows ss (fs.set i f)
 | [],_,_,_,_,h=>by simp at h
 | s::ss,[],i,_,_,_=>by simp [rows]
 | s::ss,g::fs,0,_,_,h1=>by simp at h1; subst h1; rfl
 | s::ss,g::fs,i + 1,_,_,h1=>by simp only [rows,set_cons_succ]; rw [rows_set ss fs i _ _ (by simpa using h1)]
theorem rows_app (s:Sl) (f:List Int):∀ (ss:List Sl) (fs:List (List Int)),ss.length = fs.length->rows (ss++[s]) (fs++[f]) = rows ss fs++[vU s f]
 | [],[],_=>rfl
 | [],_::_,h=>by simp at h
 | _::_,[],h=>by simp at h
 | a::ss,b::fs,h=>by simp only [List.cons_append,rows]; rw [rows_app s f ss fs (by simpa using h)]
def yb (b:Nat) (s:Sl) (ss:List Sl) (fs:List (List Int)):List As:=blk b mB [sv s]::vec be 1 cS s ss::rows ss fs
structure MemOk (ss:List Sl) (fs:List (List Int)):Prop where
 len:ss.length = fs.length
 le:fs.length <= 16
 row:∀ f ∈ fs,f.length = 16
def iN (x:Ptr) (fs:List (List Int)):As:=fun h=>∃ bs:Nat × Sl × List Sl,(x = some (bs.1,0)/\MemOk bs.2.2 fs)/\az (yb bs.1 bs.2.1 bs.2.2 fs) h
theorem mem_op {x:Ptr} {fs:List (List Int)} {l:List As} {h:Hp} (s0:az (iN x fs::l) h):∃ b s ss,x = some (b,0)/\MemOk ss fs/\s.len = fs.length/\az (yb b s ss fs++l) h:=by
 obtain ⟨⟨b,s,ss⟩,⟨hx,hb⟩,st⟩:=op_ s0;exact ⟨b,s,ss,hx,hb,(cf (j:=1) st rfl).1.trans hb.len,st⟩
theorem mem_cl {b:Nat} {s:Sl} {ss:List Sl} {fs:List (List Int)} {l:List As} {h:Hp} (hb:MemOk ss fs) (st:az (yb b s ss fs++l) h):az (iN (some (b,0)) fs::l) h:=cl_ (b,s,ss) ⟨rfl,hb⟩ st
theorem sT {b:Nat} {s:Sl} {ss:List Sl} {fs:List (List Int)} {h:Hp} (hb:MemOk ss fs) (st:az (yb b s ss fs) h):az [iN (some (b,0)) fs] h:=mem_cl hb (by rw [append_nil]; exact st)
namespace Mem
def has (fs:List (List Int)) (f a:Int):Prop:=0 <= f/\f < fs.length/\0 <= a/\a < 16
instance (fs:List (List Int)) (f a:Int):Decidable (has fs f a):=by unfold has; infer_instance
def word (fs:List (List Int)) (f a:Int):Int:=(fs.getD f.toNat []).getD a.toNat 0
def load (fs:List (List Int)) (f a:Int):Int × Bool:=if has fs f a then (word fs f a,true) else (0,false)
def put (fs:List (List Int)) (f a v:Int):List (List Int):=fs.set f.toNat ((fs.getD f.toNat []).set a.toNat v)
def store (fs:List (List Int)) (f a v:Int):Bool × List (List Int):=if has fs f a then (true,put fs f a v) else (false,fs)
end Mem
theorem sc (x:Sl):(cS x).length = 1:=rfl
def memAt (ss:List Sl) (fs:List (List Int)) (f a:Int) (r:Ptr):Prop :=
 if Mem.has fs f a then ∃ s q,ss[f.toNat]? = some s/\s.a = some q/\r = some (q.1,q.2 + a.toNat * 1) else r = none
theorem sp_mem_at (b:Nat) (s:Sl) (ss:List Sl) (fs:List (List Int)) (hb:MemOk ss fs) (f a:Int):Sp prog mN [pv (some (b,0)),.int .i64 f,.int .i64 a] tm (yb b s ss fs) (fun r=>pa_ (memAt ss fs f a r) (yb b s ss fs)):=by
 intro h st;refine sim_mem_Mem_at _ _ _ ?_;unfold sh_mem_Mem_at;have hno:∀ {p:Prop},¬ p->(Mem.has fs f a->p)->memAt ss fs f a none:=fun hp himp=>by unfold memAt; rw [if_neg (fun hh=>hp (himp hh))]
 have hl:s.len = fs.length:=(cf (j:=1) st rfl).1.trans hb.len;refine aX (fun k=>?_) (fun k=>?_)
 ·have h0:0 <= f:=by simpa using k
  unfold cl;refine sim_mem_Mem_Frames _ ?_;unfold uN;refine dx rfl (cJ (bo s st (i:=0) rfl rfl rfl ?_));refine aX (fun k2=>?_) (fun k2=>?_)
  ·have k2':¬ (f < fs.length/\0 <= a/\a < 16):=by simp [hl] at k2; omega
   exact aY (hno k2' (fun hh=>hh.2)) st
  ·have k2':f < fs.length/\0 <= a/\a < 16:=by simp [hl] at k2; omega
   obtain ⟨n,rfl⟩:=Int.eq_ofNat_of_zero_le h0;have hn:n < ss.length:=by rw [hb.len]; omega
   have hf:n < fs.length:=by omega
   refine cJ (bo s st (i:=0) rfl rfl rfl ?_);refine de st (j:=1) rfl (by omega) (by omega) fun q hq=>?_;refine dA (j:=1) (i:=n) (k:=0) ss[n] sc st rfl hq (by simp) (aC hn) (by simp) ?_;have hr:(yb b s ss fs)[2 + n]? = some (vU ss[n] fs[n]):=by
    show (blk b mB [sv s]::vec be 1 cS s ss::rows ss fs)[2 + n]? = _;rw [add_comm,getElem?_cons_succ,getElem?_cons_succ];exact rows_get ss fs n _ _ (aC hn) (aC hf)
   have hlen:fs[n].length = 16:=hb.row _ (getElem_mem hf);refine de st (j:=2 + n) hr (by omega) (by omega) fun q2 hq2=>?_;refine aY ?_ st;unfold memAt;rw [if_pos ⟨h0,k2'⟩];exact ⟨ss[n],q2,by simp [hn],hq2,rfl⟩
 ·have k':¬ 0 <= f:=by simpa using k
  exact aY (hno k' (fun hh=>hh.1)) st
theorem rr (x:Ptr) (fs:List (List Int)) (f a:Int):Sp prog iI [pv x,.int .i64 f,.int .i64 a] bK [iN x fs] (fun r=>pa_ (r = Mem.load fs f a) [iN x fs]):=by
 intro h s0;obtain ⟨b,s,ss,rfl,hb,hl,st⟩:=mem_op s0;refine sim_mem_Mem_Load _ _ _ ?_;unfold sh_mem_Mem_Load;rw [append_nil] at st;refine cW (rest:=[]) [] (sp_mem_at b s ss fs hb f a) st (append_nil _).symm fun r h' s1=>?_;obtain ⟨hr,s2⟩:=bp.1 s1;rw [append_nil] at s2;by_cases hh:Mem.has fs f a
 ·unfold memAt at hr;rw [if_pos hh] at hr;obtain ⟨sr,q,h1,h2,rfl⟩:=hr;obtain ⟨g1,g2,g3,g4⟩:=hh;have hf:f.toNat < fs.length:=by omega
  have hrow:(yb b s ss fs)[2 + f.toNat]? = some (vU sr fs[f.toNat]):=by
   show (blk b mB [sv s]::vec be 1 cS s ss::rows ss fs)[2 + f.toNat]? = _;rw [add_comm,getElem?_cons_succ,getElem?_cons_succ];exact rows_get ss fs _ _ _ h1 (aC hf)
  have hlen:fs[f.toNat].length = 16:=hb.row _ (getElem_mem hf);have ha:a.toNat < fs[f.toNat].length:=by omega
  refine dx rfl (cJ ?_);refine dA (j:=2 + f.toNat) (i:=a.toNat) (k:=0) (q:=q) fs[f.toNat][a.toNat] (cn _) s2 hrow h2 (by simp) (aC ha) (by simp) ?_;refine aY ?_ (sT hb s2);unfold Mem.load;rw [if_pos ⟨g1,g2,g3,g4⟩];simp [Mem.word,hf,ha]
 ·unfold memAt at hr;rw [if_neg hh] at hr;subst hr;refine eo rfl ?_;refine aY ?_ (sT hb s2);unfold Mem.load;rw [if_neg hh]
theorem mD (x:Ptr) (fs:List (List Int)) (f a v:Int):Sp prog fT [pv x,.int .i64 f,.int .i64 a,.int .u64 v] aB [iN x fs] (fun r=>pa_ (r = (Mem.store fs f a v).1) [iN x (Mem.store fs f a v).2]):=by
 intro h s0;obtain ⟨b,s,ss,rfl,hb,hl,st⟩:=mem_op s0;refine sim_mem_Mem_Store _ _ _ _ ?_;unfold wF;rw [append_nil] at st;refine cW (rest:=[]) [] (sp_mem_at b s ss fs hb f a) st (append_nil _).symm fun r h' s1=>?_;obtain ⟨hr,s2⟩:=bp.1 s1;rw [append_nil] at s2;by_cases hh:Mem.has fs f a
 ·unfold memAt at hr;rw [if_pos hh] at hr;obtain ⟨sr,q,h1,h2,rfl⟩:=hr;have e:Mem.store fs f a v = (true,Mem.put fs f a v):=if_pos hh;rw [e];obtain ⟨g1,g2,g3,g4⟩:=hh;have hf:f.toNat < fs.length:=by omega
  have hrow:(yb b s ss fs)[2 + f.toNat]? = some (vU sr fs[f.toNat]):=by
   show (blk b mB [sv s]::vec be 1 cS s ss::rows ss fs)[2 + f.toNat]? = _;rw [add_comm,getElem?_cons_succ,getElem?_cons_succ];exact rows_get ss fs _ _ _ h1 (aC hf)
  have hlen:fs[f.toNat].length = 16:=hb.row _ (getElem_mem hf);have ha:a.toNat < fs[f.toNat].length:=by omega
  refine dx rfl (cJ ?_);refine uv (j:=2 + f.toNat) (i:=a.toNat) (k:=0) (q:=q) v (cn _) s2 hrow h2 (by simp) (aC ha) (by simp) rfl fun h3 s3=>?_;have eC:(yb b s ss fs).set (2 + f.toNat) (vU sr (fs[f.toNat].set a.toNat v)) = yb b s ss (Mem.put fs f a v):=by
   show (blk b mB [sv s]::vec be 1 cS s ss::rows ss fs).set (2 + f.toNat) _ = _;rw [add_comm,set_cons_succ,set_cons_succ,rows_set ss fs _ _ _ h1];simp [yb,Mem.put,hf]
  rw [eC] at s3;refine aY rfl (sT ⟨by simp [Mem.put,hb.len],by simpa [Mem.put] using hb.le,?_⟩ s3);intro g hg;unfold Mem.put at hg;rcases List.mem_or_eq_of_mem_set hg with h4 | h4
  ·exact hb.row _ h4
  ·rw [h4]; simp [hf,hlen]
 ·unfold memAt at hr;rw [if_neg hh] at hr;subst hr;have e:Mem.store fs f a v = (false,fs):=if_neg hh;rw [e];exact eo rfl (aY rfl (sT hb s2))
namespace Mem
def cas (fs:List (List Int)) (f a o v:Int):(Int × Bool) × List (List Int) :=
 (load fs f a,if (load fs f a).2 && ((load fs f a).1 == o) then (store fs f a v).2 else fs)
def add (fs:List (List Int)) (f a v:Int):(Int × Bool) × List (List Int) :=
 (load fs f a,(store fs f a (u64.wrap ((load fs f a).1 + v))).2)
def zero (fs:List (List Int)) (f:Int):Bool × List (List Int) :=
 if has fs f 0 then (true,fs.set f.toNat (replicate 16 0)) else (false,fs)
def frame (fs:List (List Int)) (f:Int):List Int:=if has fs f 0 then fs.getD f.toNat [] else []
end Mem
theorem sp_mem_Cas (x:Ptr) (fs:List (List Int)) (f a o v:Int):Sp prog ra [pv x,.int .i64 f,.int .i64 a,.int .u64 o,.int .u64 v] bK [iN x fs] (fun r=>pa_ (r = (Mem.cas fs f a o v).1) [iN x (Mem.cas fs f a o v).2]):=by
 intro h s0;refine sim_mem_Mem_Cas _ _ _ _ _ ?_;unfold sh_mem_Mem_Cas;refine cW [0] (rr x fs f a) s0 rfl fun r h' s1=>?_;obtain ⟨hr,s2⟩:=bp.1 s1;subst hr;refine aX (fun k=>?_) (fun k=>?_)
 ·refine cW [0] (mD x fs f a v) s2 rfl fun r h' s3=>?_;obtain ⟨_,s4⟩:=bp.1 s3;refine aY rfl ?_;simp only [Mem.cas,k,if_true];exact s4
 ·refine aY rfl ?_;simp only [Mem.cas,k,Bool.false_eq_true,if_false];exact s2
theorem sp_mem_Add (x:Ptr) (fs:List (List Int)) (f a v:Int):Sp prog rb [pv x,.int .i64 f,.int .i64 a,.int .u64 v] bK [iN x fs] (fun r=>pa_ (r = (Mem.add fs f a v).1) [iN x (Mem.add fs f a v).2]):=by
 intro h s0;refine sim_mem_Mem_Add _ _ _ _ ?_;unfold sh_mem_Mem_Add;refine cW [0] (rr x fs f a) s0 rfl fun r h' s1=>?_;obtain ⟨hr,s2⟩:=bp.1 s1;subst hr;refine cW [0] (mD x fs f a _) s2 rfl fun r h' s3=>?_;obtain ⟨_,s4⟩:=bp.1 s3;exact aY rfl s4
theorem sp_slices_Clone (s:Sl) (xs:List Int) (hb:xs.length < 2 ^ 40):Sp prog gQ [sv s] ce [vU s xs] (fun r=>az [vU r xs,vU s xs]):=by
 intro h s0;refine qG _ ?_;unfold kz;refine aX (fun k=>?_) (fun k=>?_)
 ·have hn:xs = []:=by
   obtain ⟨_,⟨e1,e2,e3⟩,_⟩:=eF (i:=0) rfl s0;rcases e3 with e3 | ⟨b,pre,rest,U,fr,h4,_⟩
   ·exact List.eq_nil_of_length_eq_zero (by omega)
   ·rw [h4] at k; cases k
  subst hn;exact fJ s0
 ·refine fe (τ:=Int) [] (val:=fun x=>.int .u64 x) (enc:=cI .u64) gi (cn _) (fun _=>rfl) s0 rfl rfl (by simp) fun y h' s1=>?_;refine ur (τ:=Int) (i:=0) (j:=1) (enc:=cI .u64) (xs:=[]) (ys:=xs) gi gi.sl (cn _) (oneI _) s1 rfl rfl (by omega) (by simp; omega) (by simp; omega) fun v h2 s2=>?_;exact s2
theorem mem_has {ss:List Sl} {fs:List (List Int)} {f a:Int} {r:Ptr} (hr:memAt ss fs f a r):(Mem.has fs f a↔r ≠ none):=by
 unfold memAt at hr;split at hr
 ·obtain ⟨s,q,_,_,rfl⟩:=hr; simp [*]
 ·simp [*]
theorem mem_row {b:Nat} {s:Sl} {ss:List Sl} {fs:List (List Int)} {i:Nat} (hb:MemOk ss fs) (hi:i < fs.length):∃ sr,ss[i]? = some sr/\(yb b s ss fs)[2 + i]? = some (vU sr fs[i]):=by
 have hn:i < ss.length:=by rw [hb.len]; exact hi
 refine ⟨ss[i],aC hn,?_⟩;show (blk b mB [sv s]::vec be 1 cS s ss::rows ss fs)[2 + i]? = _;rw [add_comm,getElem?_cons_succ,getElem?_cons_succ];exact rows_get ss fs i _ _ (aC hn) (aC hi)
theorem mem_set {b:Nat} {s:Sl} {ss:List Sl} {fs:List (List Int)} {i:Nat} {sr:Sl} {g:List Int} (h1:ss[i]? = some sr):(yb b s ss fs).set (2 + i) (vU sr g) = yb b s ss (fs.set i g):=by
 show (blk b mB [sv s]::vec be 1 cS s ss::rows ss fs).set (2 + i) _ = _;rw [add_comm,set_cons_succ,set_cons_succ,rows_set ss fs _ _ _ h1]; rfl
theorem mem_ok_set {ss:List Sl} {fs:List (List Int)} {i:Nat} {g:List Int} (hb:MemOk ss fs) (hg:g.length = 16):MemOk ss (fs.set i g) :=
 ⟨by simp [hb.len],by simpa using hb.le,fun f hf=>by
  rcases List.mem_or_eq_of_mem_set hf with h4 | h4
  ·exact hb.row _ h4
  ·rw [h4]; exact hg⟩
theorem sp_mem_Zero (x:Ptr) (fs:List (List Int)) (f:Int):Sp prog tU [pv x,.int .i64 f] aB [iN x fs] (fun r=>pa_ (r = (Mem.zero fs f).1) [iN x (Mem.zero fs f).2]):=by
 intro h s0;obtain ⟨b,s,ss,rfl,hb,hl,st⟩:=mem_op s0;refine sim_mem_Mem_Zero _ _ ?_;unfold sh_mem_Mem_Zero;rw [append_nil] at st;refine cW (rest:=[]) [] (sp_mem_at b s ss fs hb f 0) st (append_nil _).symm fun r h' s1=>?_;obtain ⟨hr,s2⟩:=bp.1 s1;rw [append_nil] at s2;have hh:=mem_has hr;refine aX (fun k=>?_) (fun k=>?_)
 ·have:¬ Mem.has fs f 0:=by rw [hh]; cases r <;> simp_all
  have e:Mem.zero fs f = (false,fs):=if_neg this;rw [e];exact aY rfl (sT hb s2)
 ·have hy:Mem.has fs f 0:=by rw [hh]; cases r <;> simp_all
  have e:Mem.zero fs f = (true,fs.set f.toNat (replicate 16 0)):=if_pos hy;rw [e];obtain ⟨g1,g2,_⟩:=hy;obtain ⟨n,rfl⟩:=Int.eq_ofNat_of_zero_le g1;have hf:n < fs.length:=by omega
  obtain ⟨sr,h1,hrow⟩:=mem_row (b:=b) (s:=s) hb hf;have hn:n < ss.length:=by rw [hb.len]; exact hf
  refine cJ (bo s s2 (i:=0) rfl rfl rfl ?_);refine de s2 (j:=1) rfl (by omega) (by omega) fun q hq=>?_;refine dA (j:=1) (i:=n) (k:=0) sr sc s2 rfl hq (by simp) h1 (by simp) ?_;refine clear_v (τ:=Int) (x0:=0) (enc:=cI .u64) gi rfl (cn _) (oneI _) s2 hrow fun h3 s3=>?_;rw [mem_set h1,hb.row _ (getElem_mem hf)] at s3;exact aY rfl (sT (mem_ok_set hb (by simp)) s3)
theorem sp_mem_Frame (x:Ptr) (fs:List (List Int)) (f:Int):Sp prog rT [pv x,.int .i64 f] ce [iN x fs] (fun r=>az [vU r (Mem.frame fs f),iN x fs]):=by
 intro h s0;obtain ⟨b,s,ss,rfl,hb,hl,st⟩:=mem_op s0;refine sim_mem_Mem_Frame _ _ ?_;unfold wG;rw [append_nil] at st;refine cW (rest:=[]) [] (sp_mem_at b s ss fs hb f 0) st (append_nil _).symm fun r h' s1=>?_;obtain ⟨hr,s2⟩:=bp.1 s1;rw [append_nil] at s2;have hh:=mem_has hr;refine aX (fun k=>?_) (fun k=>?_)
 ·have:¬ Mem.has fs f 0:=by rw [hh]; cases r <;> simp_all
  have e:Mem.frame fs f = []:=if_neg this;rw [e];exact fJ (sT hb s2)
 ·have hy:Mem.has fs f 0:=by rw [hh]; cases r <;> simp_all
  have e:Mem.frame fs f = fs.getD f.toNat []:=if_pos hy;rw [e];obtain ⟨g1,g2,_⟩:=hy;obtain ⟨n,rfl⟩:=Int.eq_ofNat_of_zero_le g1;have hf:n < fs.length:=by omega
  obtain ⟨sr,h1,hrow⟩:=mem_row (b:=b) (s:=s) hb hf;have hn:n < ss.length:=by rw [hb.len]; exact hf
  have hlen:=hb.row _ (getElem_mem hf);refine cJ (bo s s2 (i:=0) rfl rfl rfl ?_);refine de s2 (j:=1) rfl (by omega) (by omega) fun q hq=>?_;refine dA (j:=1) (i:=n) (k:=0) sr sc s2 rfl hq (by simp) h1 (by simp) ?_;have hp:pick [2 + n] (yb b s ss fs) = [vU sr fs[n]]++(yb b s ss fs).eraseIdx (2 + n):=by
   unfold pick; rw [hrow]; rfl
  refine cW [2 + n] (sp_slices_Clone sr fs[n] (by omega)) s2 hp fun r2 h3 s3=>?_;have e2:fs.getD (n:Int).toNat [] = fs[n]:=by simp [hf]
  rw [e2];have hlt:=(List.getElem?_eq_some_iff.1 hrow).1;refine wk (dE s3) fun h4 s4=>?_;have s5:=eW hlt s4;rw [mem_set h1] at s5;exact sT hb (by simpa using s5)
theorem sp_mem_New (n:Int) (h1:¬ n < 1) (h2:¬ n > 16):Sp prog wR [.int .i64 n] uu [] (fun r=>az [iN r (replicate n.toNat (replicate 16 0))]):=by
 intro h st;refine sim_mem_New _ ?_;unfold sh_mem_New;obtain ⟨m,rfl⟩:=Int.eq_ofNat_of_zero_le (show 0 <= n by omega);refine dx (by simp; omega) ?_;refine pD st fun b h' s1=>?_;refine Lp.intro (fun (i:Int) h=>∃ (k:Nat) (s:Sl) (ss:List Sl),i = k/\k <= m/\ss.length = k/\az (yb b s ss (replicate k (replicate 16 0))) h) (fun (i:Int) _=>m - i.toNat)
  ⟨0,⟨none,0,0,none⟩,[],rfl,Nat.zero_le _,rfl,bb [1] (fJ s1) rfl⟩ ?_
 rintro i h ⟨k,s,ss,rfl,hk,hss,s2⟩;unfold mem_New_l1;refine aX (fun c=>?_) (fun c=>?_)
 ·have hlt:k < m:=by simpa using c
  have hw:i64.wrap ((k:Int) + 1) = ((k + 1:Nat):Int):=by rw [bk (by omega) (by omega)]; rfl
  refine bo s s2 (i:=0) rfl rfl rfl ?_;refine oL (τ:=Int) (x0:=0) (enc:=cI .u64) (n:=16) gi rfl s2 (by omega) (by omega) fun v h3 s3=>?_;refine fe (τ:=Sl) [v] (val:=sv) (enc:=cS) vw sc (fun _=>rfl) s3 rfl rfl (by simp) fun y h4 s4=>?_;refine ur (τ:=Sl) (i:=3) (j:=0) (enc:=cS) (xs:=ss) (ys:=[v]) vw vw.sl sc oneS s4 rfl rfl (by omega) (by simp; omega) (by simp; omega) fun w h5 s5=>?_;refine vD (i:=2) s5 rfl (Nat.le_refl _) fun h6 s6=>?_;rw [hw];refine ⟨⟨k + 1,w,ss++[v],rfl,hlt,by simp [hss],?_⟩,by simp; omega⟩;have s7:az (vU v (replicate 16 0)::blk b mB [sv w]::vec be 1 cS w (ss++[v])::rows ss (replicate k (replicate 16 0))) h6:=bX (l:=[vec be 1 cS y [v]]) s6;have s8:=bb [1,1] s7 rfl;unfold yb;rw [show replicate (k + 1) (replicate 16 (0:Int)) = replicate k (replicate 16 0)++[replicate 16 0] from by simp [List.replicate_succ'],rows_app _ _ _ _ (by simp [hss])];exact lf (.cons _ (.cons _ (List.perm_append_comm (l₁:=[_])))) s8
 ·have:k = m:=by simp at c; omega
  subst this;exact sT ⟨by simp [hss],by simp; omega,fun f hf=>by rw [(List.mem_replicate.1 hf).2]; simp⟩ s2
end
section
open Go Mb
def nv (a0:Int) (K:kT Sl) (s27:Bool):hT:=br s27 ( hpv prog (Instr.buildSlice dQ 3 #[(0,(.int .i64 1)),(1,(.int .i64 2)),(2,(.int .i64 6))]) cF fun (v33:Sl)=>K v33) ( br (a0 == 22) ( hpv prog (Instr.buildSlice dQ 4 #[(0,(.int .i64 1)),(1,(.int .i64 2)),(2,(.int .i64 6)),(3,(.int .i64 6))]) cF fun (v36:Sl)=>K v36) ( K (⟨none,0,0,none⟩:Sl)))
def jF (a0:Int) (K:kT Sl) (s1:Bool):hT:=br s1 ( hpv prog (Instr.buildSlice dQ 1 #[(0,(.int .i64 0))]) cF fun (v8:Sl)=>K v8) ( br (a0 == 2) ( hpv prog (Instr.buildSlice dQ 3 #[(0,(.int .i64 0)),(1,(.int .i64 0)),(2,(.int .i64 4))]) cF fun (v11:Sl)=>K v11) ( br (a0 == 3) ( hpv prog (Instr.buildSlice dQ 4 #[(0,(.int .i64 0)),(1,(.int .i64 3)),(2,(.int .i64 0)),(3,(.int .i64 4))]) cF fun (v14:Sl)=>K v14) ( br (a0 == 6) ( hpv prog (Instr.buildSlice dQ 3 #[(0,(.int .i64 1)),(1,(.int .i64 0)),(2,(.int .i64 4))]) cF fun (v17:Sl)=>K v17) ( br (a0 == 7) ( hpv prog (Instr.buildSlice dQ 1 #[(0,(.int .i64 1))]) cF fun (v20:Sl)=>K v20) ( br (a0 == 8) ( hpv prog (Instr.buildSlice dQ 2 #[(0,(.int .i64 1)),(1,(.int .i64 4))]) cF fun (v23:Sl)=>K v23) ( br (a0 == 9) ( hpv prog (Instr.buildSlice dQ 4 #[(0,(.int .i64 0)),(1,(.int .i64 2)),(2,(.int .i64 5)),(3,(.int .i64 6))]) cF fun (v26:Sl)=>K v26) ( br (a0 == 20) ( hpv prog (Instr.buildSlice dQ 2 #[(0,(.int .i64 1)),(1,(.int .i64 2))]) cF fun (v29:Sl)=>K v29) ( br (a0 == 21) ( nv a0 K (a0 == 21)) ( nv a0 K (a0 == 23))))))))))
def sh_word_kinds (a0:Int) (K:kT Sl):hT:=br (a0 == 1) ( jF a0 K (a0 == 1)) ( br (a0 == 4) ( jF a0 K (a0 == 4)) ( jF a0 K (a0 == 5)))
theorem sim_word_kinds (a0:Int) {K:kT Sl} {h:Hp} (H:sh_word_kinds a0 K h):cl prog sR [(.int .i64 a0)] cF K h:=z_i func153 p p fun _=>O<|U p<|al<|O<|M p<|ad<|aw<|eu (jF a0 K) (fun s1=>[(3,(.int .i64 a0)),(4,(.bool s1))]) (fun s1=>[]) (O<|J (bP p p)<|U p<|av p H (fun k37 H38=>an<|cE (a0 == 1) H38 (.cons p<|.cons p<|.nil _) .slnil) fun k37 H38=>O<|J (bP p p)<|U p<|av p H38 (fun k39 H40=>an<|cE (a0 == 4) H40 (.cons p<|.cons p<|.nil _) .slnil) fun k39 H40=>ap<|J (bP p p)<|U p<|cE (a0 == 5) H40 (.cons p<|.cons p<|.nil _) .slnil) fun s1 _ H2=>av p H2 (fun k3 H4=>O<|aa<|aR H4 (bw (vs:=[(.int .i64 0)]) p) p fun v8 _ H5=>U p<|aj<|Z ⟨v8,p,H5⟩) fun k3 H4=>O<|J (bP p p)<|U p<|av p H4 (fun k6 H7=>O<|aa<|aR H7 (bw (vs:=[(.int .i64 0),(.int .i64 0),(.int .i64 4)]) p) p fun v11 _ H8=>U p<|aj<|Z ⟨v11,p,H8⟩) fun k6 H7=>O<|J (bP p p)<|U p<|av p H7 (fun k9 H10=>O<|aa<|aR H10 (bw (vs:=[(.int .i64 0),(.int .i64 3),(.int .i64 0),(.int .i64 4)]) p) p fun v14 _ H11=>U p<|aj<|Z ⟨v14,p,H11⟩) fun k9 H10=>O<|J (bP p p)<|U p<|av p H10 (fun k12 H13=>O<|aa<|aR H13 (bw (vs:=[(.int .i64 1),(.int .i64 0),(.int .i64 4)]) p) p fun v17 _ H14=>U p<|aj<|Z ⟨v17,p,H14⟩) fun k12 H13=>O<|J (bP p p)<|U p<|av p H13 (fun k15 H16=>O<|aa<|aR H16 (bw (vs:=[(.int .i64 1)]) p) p fun v20 _ H17=>U p<|aj<|Z ⟨v20,p,H17⟩) fun k15 H16=>O<|J (bP p p)<|U p<|av p H16 (fun k18 H19=>O<|aa<|aR H19 (bw (vs:=[(.int .i64 1),(.int .i64 4)]) p) p fun v23 _ H20=>U p<|aj<|Z ⟨v23,p,H20⟩) fun k18 H19=>O<|J (bP p p)<|U p<|av p H19 (fun k21 H22=>O<|aa<|aR H22 (bw (vs:=[(.int .i64 0),(.int .i64 2),(.int .i64 5),(.int .i64 6)]) p) p fun v26 _ H23=>U p<|aj<|Z ⟨v26,p,H23⟩) fun k21 H22=>O<|J (bP p p)<|U p<|av p H22 (fun k24 H25=>O<|aa<|aR H25 (bw (vs:=[(.int .i64 1),(.int .i64 2)]) p) p fun v29 _ H26=>U p<|aj<|Z ⟨v29,p,H26⟩) fun k24 H25=>eu (nv a0 K) (fun s27=>[(3,(.int .i64 a0)),(30,(.bool s27))]) (fun s27=>[]) (O<|J (bP p p)<|U p<|av p H25 (fun k35 H36=>an<|cE (a0 == 21) H36 (.cons p<|.cons p<|.nil _) .slnil) fun k35 H36=>ap<|J (bP p p)<|U p<|cE (a0 == 23) H36 (.cons p<|.cons p<|.nil _) .slnil) fun s27 _ H28=>av p H28 (fun k29 H30=>O<|aa<|aR H30 (bw (vs:=[(.int .i64 1),(.int .i64 2),(.int .i64 6)]) p) p fun v33 _ H31=>U p<|aj<|Z ⟨v33,p,H31⟩) fun k29 H30=>O<|J (bP p p)<|U p<|av p H30 (fun k32 H33=>O<|aa<|aR H33 (bw (vs:=[(.int .i64 1),(.int .i64 2),(.int .i64 6),(.int .i64 6)]) p) p fun v36 _ H34=>U p<|aj<|Z ⟨v36,p,H34⟩) fun k32 H33=>an<|O<|U p<|aj<|Z ⟨(⟨none,0,0,none⟩:Sl),p,H33⟩
def uA (a0:ai) (a1:Int) (K:kT (Int × Bool)) (s1:Bool):hT:=br s1 ( K (0,false)) ( gd (0 <= a1/\a1 < 5)<|K ((i64.wrap (ai.get a0 a1)),true))
def sh_word_Arg (a0:ai) (a1:Int) (a2:Int) (K:kT (Int × Bool)):hT:=br (!(((decide (a1 < 1)) || (decide (a1 >= 5))) || (decide (a2 <= 0)))) ( gd (0 <= a1/\a1 < 5)<|uA a0 a1 K (decide ((ai.get a0 a1) >= (u64.wrap a2)))) ( uA a0 a1 K true)
theorem sim_word_Arg (a0:ai) (a1:Int) (a2:Int) {K:kT (Int × Bool)} {h:Hp} (H:sh_word_Arg a0 a1 a2 K h):cl prog nZ [(.agg (ai.C a0).toArray),(.int .i64 a1),(.int .i64 a2)] bM K h:=z_i func160 p p fun _=>O<|aa<|cR (l:=ai.C a0) p p p fun b3=>J (au p)<|U p<|al<|eu (uA a0 a1 K) (fun s1=>[(1,(.int .i64 a1)),(3,(.pointer (some ⟨b3,0,none⟩))),(25,(.bool s1))]) (fun s1=>[bx b3 34 (ai.C a0)]) (ap<|M p<|J (ci p p)<|M p<|W p p (aL _) (fun g7=>wv<|ah p)<|W p p (aL _) (fun g8=>wv<|jS (aD p g8) p)<|J (dy p p)<|M p<|W p p (aL _) (fun g9=>wv<|ah p)<|W p p (aL _) (fun g10=>wv<|v_le (aD p g10) p)<|J (dy p p)<|M p<|W p p (aL _) (fun g11=>wv<|ah p)<|bV H (fun k13 H14=>iZ H14 fun h15 H16=>G (F<|ch k13)<|z_p (bC dp p (aD p k13) h15)<|G (F<|ch k13)<|tP (cv<|bg (k:=0) cC p p<|at_34 _ _ h15) p<|G (F<|ch k13)<|z_p (ah p)<|G (F<|ch k13)<|z_p (du ⟨_,underlying3⟩ underlying22 p)<|G (F<|ch k13)<|z_p (jS p p)<|J (ar p (ch k13) p)<|ad<|cE (decide ((ai.get a0 a1) >= (u64.wrap a2))) H16 (.cons p<|.cons p<|.cons p<|.nil _)<|.cons_cons _ .slnil) fun k13 H14=>Y (cd<|bJ k13)<|Y (cd<|bJ k13)<|Y (cd<|bJ k13)<|Y (cd<|bJ k13)<|Y (cd<|bJ k13)<|J (aV p (bJ k13) p)<|ad<|cE true H14 (.cons p<|.cons p<|.cons p<|.nil _)<|.cons_cons _ .slnil) fun s1 _ H2=>av p H2 (fun k3 H4=>O<|J (au p)<|U p<|aj<|bB (bS p (bZ p)<|bZ p) ⟨(0,false),p,H4⟩) fun k3 H4=>an<|O<|M p<|iZ H4 fun h5 H6=>J (bC dp p p h5)<|bm (bg (k:=0) cC p p<|at_34 _ _ h5) p<|J (du ⟨_,underlying22⟩ underlying3 p)<|J (au p)<|U p<|aj<|bB (bS p (bZ p)<|bZ p) ⟨((i64.wrap (ai.get a0 a1)),true),p,H6⟩
def sh_word_fits (a0:ai) (a1:Int) (a2:Int) (a3:Int) (K:kT Bool):hT:=br (a2 == 0) ( cl prog nZ [(.agg (ai.C a0).toArray),(.int .i64 a1),(.int .i64 8)] bM fun r16=>K r16.2) ( br (a2 == 1) ( cl prog nZ [(.agg (ai.C a0).toArray),(.int .i64 a1),(.int .i64 8)] bM fun r24=>K r24.2) ( br (a2 == 2) ( cl prog nZ [(.agg (ai.C a0).toArray),(.int .i64 a1),(.int .i64 16)] bM fun r32=>K r32.2) ( br (a2 == 3) ( cl prog nZ [(.agg (ai.C a0).toArray),(.int .i64 a1),(.int .i64 a3)] bM fun r41=>K r41.2) ( br (a2 == 4) ( gd (0 <= a1/\a1 < 5)<|K ((iF (ai.get a0 a1)).2)) ( br (a2 == 5) ( gd (0 <= a1/\a1 < 5)<|K ((decide ((ai.get a0 a1) >= 1)) && (decide ((ai.get a0 a1) <= 4)))) ( K true))))))
theorem sim_word_fits (a0:ai) (a1:Int) (a2:Int) (a3:Int) {K:kT Bool} {h:Hp} (H:sh_word_fits a0 a1 a2 a3 K h):cl prog n_word_fits [(.agg (ai.C a0).toArray),(.int .i64 a1),(.int .i64 a2),(.int .i64 a3)] aB K h:=z_i func154 p p fun _=>O<|aa<|cR (l:=ai.C a0) p p p fun b4=>U p<|O<|U p<|al<|O<|M p<|ad<|aw<|O<|J (bP p p)<|U p<|av p H (fun k1 H2=>ap<|bm (bG (k:=0) fD p p p p) p<|M p<|aa<|D H2 en_160 fun r16 _ H3=>M p<|J (ak p p)<|J (ak p p)<|U p<|O<|M p<|U p<|aj<|Z ⟨r16.2,p,H3⟩) fun k1 H2=>O<|J (bP p p)<|U p<|av p H2 (fun k4 H5=>ap<|bm (bG (k:=0) fD p p p p) p<|M p<|aa<|D H5 en_160 fun r24 _ H6=>M p<|J (ak p p)<|J (ak p p)<|U p<|O<|M p<|U p<|aj<|Z ⟨r24.2,p,H6⟩) fun k4 H5=>O<|J (bP p p)<|U p<|av p H5 (fun k7 H8=>ap<|bm (bG (k:=0) fD p p p p) p<|M p<|aa<|D H8 en_160 fun r32 _ H9=>M p<|J (ak p p)<|J (ak p p)<|U p<|O<|M p<|U p<|aj<|Z ⟨r32.2,p,H9⟩) fun k7 H8=>O<|J (bP p p)<|U p<|av p H8 (fun k10 H11=>ap<|bm (bG (k:=0) fD p p p p) p<|M p<|M p<|aa<|D H11 en_160 fun r41 _ H12=>M p<|J (ak p p)<|J (ak p p)<|U p<|O<|M p<|U p<|aj<|Z ⟨r41.2,p,H12⟩) fun k10 H11=>O<|J (bP p p)<|U p<|av p H11 (fun k13 H14=>ap<|M p<|iZ H14 fun h15 H16=>J (bC dp p p h15)<|bm (bg (k:=0) cC p p<|at_34 _ _ h15) p<|aa<|cQ (vs:=[(.int .u64 (ai.get a0 a1))]) (bA<|ct_word_Rights (ai.get a0 a1) _) en_193 p p<|M p<|J (ak p p)<|J (ak p p)<|U p<|O<|M p<|U p<|aj<|Z ⟨(iF (ai.get a0 a1)).2,p,H16⟩) fun k13 H14=>O<|J (bP p p)<|U p<|av p H14 (fun k17 H18=>ap<|M p<|iZ H18 fun h19 H20=>J (bC dp p p h19)<|bm (bg (k:=0) cC p p<|at_34 _ _ h19) p<|J (jS p p)<|M p<|W p p (ax _) (fun g21=>wv<|ah p)<|W p p (ax _) (fun g22=>wv<|bC dp p (aD p g22) h19)<|W p p (ax _) (fun g23=>cv<|bg (k:=0) cC (aD p g23) p<|at_34 _ _ h19)<|W p p (ax _) (fun g24=>wv<|v_le (aD p g24) p)<|J (bO p p)<|U p<|O<|M p<|U p<|aj<|Z ⟨((decide ((ai.get a0 a1) >= 1)) && (decide ((ai.get a0 a1) <= 4))),p,H20⟩) fun k17 H18=>an<|O<|M p<|U p<|aj<|Z ⟨true,p,H18⟩
def vz (a0:ai) (a1:Int) (K:kT Int) (r17:Sl) (Rec5:kT Int) (s4:Int):hT:=br (decide (s4 < (r17.len:Int))) ( ix r17 s4 fun q22=>ld (q22.1,q22.2 + Int.toNat s4 * 1) (cI .i64) fun x23=>cl prog n_word_fits [(.agg (ai.C a0).toArray),(.int .i64 (i64.wrap (s4 + 1))),(.int .i64 x23),(.int .i64 a1)] aB fun r29=>br (!r29) ( K 2) ( Rec5 (i64.wrap (s4 + 1)))) ( K 0)
def sh_word_Check (a0:ai) (a1:Int) (K:kT Int):hT:=br (!(ay a0).2) ( K 1) ( cl prog sR [(.int .i64 ((ay a0).1))] cF fun r17=>Lp (vz a0 a1 K r17) 0)
theorem sim_word_Check (a0:ai) (a1:Int) {K:kT Int} {h:Hp} (H:sh_word_Check a0 a1 K h):cl prog ig [(.agg (ai.C a0).toArray),(.int .i64 a1)] bi K h:=z_i func110 p p fun _=>O<|aa<|cR (l:=ai.C a0) p p p fun b2=>U p<|O<|bm (bG (k:=0) fD p p p p) p<|aa<|cQ (vs:=[(.agg (ai.C a0).toArray)]) (bA<|kQ a0 _) en_63 p p<|M p<|J (ak p p)<|J (ak p p)<|J (au p)<|U p<|al<|O<|M p<|J (cu p)<|ad<|av p H (fun k1 H2=>O<|U p<|aj<|Z ⟨1,p,H2⟩) fun k1 H2=>an<|al<|O<|M p<|aa<|D H2 en_153 fun r17 _ H3=>J (dH p underlying39 p)<|M p<|ad<|aw<|bv (step:=vz a0 a1 K r17) (fun s4=>[(1,(.int .i64 a1)),(2,(.pointer (some ⟨b2,0,none⟩))),(17,(sv r17)),(18,(.int .i64 (r17.len:Int))),(19,(.int .i64 s4))]) (fun s4=>[bx b2 34 (ai.C a0)]) H3 (.cons p<|.cons p<|.cons p<|.cons p<|.cons p<|.nil _) (.cons_cons _ .slnil) fun Rec5 s4 _ H6=>O<|J (ci p p)<|ad<|al<|av p H6 (fun k7 H8=>an<|al<|aw<|O<|M p<|cm H8 fun q22 e9 h10 H11=>J (bd dz (aG p<|aW e9) p h10)<|aa<|aU H11 aZ p (fun _=>p) p fun x23 H12=>J (au p)<|U p<|O<|bm (bG (k:=0) fD p p p p) p<|M p<|J (bj p p)<|M p<|M p<|aa<|D H12 en_154 fun r29 _ H13=>J (cu p)<|ad<|av p H13 (fun k14 H15=>O<|U p<|aj<|Z ⟨2,p,H15⟩) fun k14 H15=>an<|ap<|J (bj p p)<|M p<|ad<|cD (i64.wrap (s4 + 1)) H15 (.cons p<|.cons p<|.cons p<|.cons p<|.cons p<|.nil _)<|.cons_cons _ .slnil) fun k7 H8=>bf<|O<|U p<|aj<|Z ⟨0,p,H8⟩
def sh_word_Args (a0:Int) (K:kT Int):hT:=cl prog sR [(.int .i64 a0)] cF fun r4=>K (r4.len:Int)
theorem sim_word_Args (a0:Int) {K:kT Int} {h:Hp} (H:sh_word_Args a0 K h):cl prog n_word_Args [(.int .i64 a0)] eB K h:=z_i func216 p p fun _=>O<|U p<|O<|M p<|aa<|D H en_153 fun r4 _ H1=>J (dH p underlying39 p)<|U p<|aj<|Z ⟨(r4.len:Int),p,H1⟩
end
end Go.Proofs.YtemoifebbhoinaaGreatDoor
