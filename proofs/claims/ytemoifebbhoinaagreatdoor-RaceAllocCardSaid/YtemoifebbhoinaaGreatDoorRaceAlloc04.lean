/- Part of the proof of: The law RaceAlloc returns true for every input, and leaves its arguments as they were. -/
import Derived.Test.YtemoifebbhoinaaGreatDoorRaceAlloc03
set_option linter.all false
set_option maxRecDepth 20000
namespace Go.Proofs.YtemoifebbhoinaaGreatDoor
open Tryz
section
open Go
namespace Mb
def vN {σ α:Type} (A:σ->α->As):List σ->List α->List As
 | p::ps,x::xs=>A p x::vN A ps xs
 | _,_=>[]
section
variable {σ α:Type} {A:σ->α->As}
theorem objs_get:∀ {ps:List σ} {xs:List α} {i:Nat} {p:σ} {x:α},ps[i]? = some p->xs[i]? = some x->(vN A ps xs)[i]? = some (A p x)
 | [],_,_,_,_,h,_=>by simp at h
 | _::_,[],_,_,_,_,h=>by simp at h
 | p::ps,x::xs,0,_,_,h1,h2=>by simp at h1 h2; subst h1; subst h2; rfl
 | p::ps,x::xs,i + 1,_,_,h1,h2=>by simpa [vN] using objs_get (ps:=ps) (xs:=xs) (i:=i) (by simpa using h1) (by simpa using h2)
theorem objs_set:∀ {ps:List σ} {xs:List α} {i:Nat} {p:σ} {x:α},ps[i]? = some p->(vN A ps xs).set i (A p x) = vN A ps (xs.set i x)
 | [],_,_,_,_,h=>by simp at h
 | p::ps,[],i,_,_,_=>by simp [vN]
 | p::ps,y::xs,0,_,_,h=>by simp at h; subst h; rfl
 | p::ps,y::xs,i + 1,_,_,h=>by simp only [vN,List.set_cons_succ]; rw [objs_set (ps:=ps) (xs:=xs) (i:=i) (by simpa using h)]
theorem objs_set2:∀ {ps:List σ} {xs:List α} {i:Nat} {p:σ} {x:α},i < xs.length->(vN A ps xs).set i (A p x) = vN A (ps.set i p) (xs.set i x)
 | [],_,_,_,_,_=>by simp [vN]
 | p::ps,[],i,_,_,h=>by simp at h
 | p::ps,y::xs,0,_,_,_=>rfl
 | p::ps,y::xs,i + 1,_,_,h=>by simp only [vN,List.set_cons_succ]; rw [objs_set2 (ps:=ps) (xs:=xs) (i:=i) (by simpa using h)]
theorem objs_append (p:σ) (x:α):∀ {ps:List σ} {xs:List α},ps.length = xs.length->vN A (ps++[p]) (xs++[x]) = vN A ps xs++[A p x]
 | [],[],_=>rfl
 | [],_::_,h=>by simp at h
 | _::_,[],h=>by simp at h
 | a::ps,b::xs,h=>by simp only [List.cons_append,vN]; rw [objs_append p x (by simpa using h)]
theorem objs_len:∀ {ps:List σ} {xs:List α},ps.length = xs.length->(vN A ps xs).length = xs.length
 | [],[],_=>rfl
 | [],_::_,h=>by simp at h
 | _::_,[],h=>by simp at h
 | a::ps,b::xs,h=>by simp only [vN,List.length_cons]; rw [objs_len (by simpa using h)]
def all (A:σ->α->As) (ps:List σ) (xs:List α):As:=aF (vN A ps xs)
def but (A:σ->α->As) (ps:List σ) (xs:List α) (i:Nat):As:=aF ((vN A ps xs).eraseIdx i)
variable {l:List As} {h:Hp} {ps:List σ} {xs:List α}
theorem star_shut {m:List As} (s:aF (m++l) h):aF (aF m::l) h:=by
 obtain ⟨h1,h2,d,e,s1,s2⟩:=eU.1 s
 exact ⟨h1,h2,d,e,s1,s2⟩
theorem js {i:Nat} {p:σ} {x:α} (hp:ps[i]? = some p) (hx:xs[i]? = some x) (s:aF (all A ps xs::l) h):aF (A p x::but A ps xs i::l) h:=by
 obtain ⟨h1,h2,d,e,a,s'⟩:=s
 have:=fQ (objs_get (A:=A) hp hx) a
 obtain ⟨h3,h4,d',e',a',s4⟩:=this
 subst e'
 obtain ⟨d1,d2⟩:=Dj.of_un_left d
 exact ⟨h3,un h4 h2,Dj.un_right d' d1,by rw [e,mM],a',h4,h2,d2,rfl,s4,s'⟩
theorem xG {i:Nat} {p:σ} {y:α} (hp:ps[i]? = some p) (hi:i < xs.length) (hl:ps.length = xs.length) (s:aF (A p y::but A ps xs i::l) h):aF (all A ps (xs.set i y)::l) h:=by
 obtain ⟨h1,h2,d,e,a,h3,h4,d',e',b,s'⟩:=s
 subst e'
 obtain ⟨d1,d2⟩:=Dj.of_un_right d
 refine ⟨un h1 h3,h4,Dj.un_left d2 d',by rw [e,mM],?_,s'⟩
 have:=eq (A:=A p y) (l:=vN A ps xs) (i:=i) (by rw [objs_len hl]; exact hi) ⟨h1,h3,d1,rfl,a,b⟩
 rw [objs_set hp] at this
 exact this
theorem all_in2 {i:Nat} {p:σ} {y:α} (hi:i < xs.length) (hl:ps.length = xs.length) (s:aF (A p y::but A ps xs i::l) h):aF (all A (ps.set i p) (xs.set i y)::l) h:=by
 obtain ⟨h1,h2,d,e,a,h3,h4,d',e',b,s'⟩:=s
 subst e'
 obtain ⟨d1,d2⟩:=Dj.of_un_right d
 refine ⟨un h1 h3,h4,Dj.un_left d2 d',by rw [e,mM],?_,s'⟩
 have:=eq (A:=A p y) (l:=vN A ps xs) (i:=i) (by rw [objs_len hl]; exact hi) ⟨h1,h3,d1,rfl,a,b⟩
 rw [objs_set2 hi] at this
 exact this
theorem iN {α:Type} {xs:List α} {i:Nat} {x:α} (hx:xs[i]? = some x):xs.set i x = xs:=by
 apply List.ext_getElem?
 intro n
 rw [List.getElem?_set]
 by_cases e:i = n
 ·subst e
  obtain ⟨h1,h2⟩:=List.getElem?_eq_some_iff.1 hx
  simp [h1,h2]
 ·simp [e]
theorem wl {i:Nat} {p:σ} {x:α} (hp:ps[i]? = some p) (hx:xs[i]? = some x) (hl:ps.length = xs.length) (s:aF (A p x::but A ps xs i::l) h):aF (all A ps xs::l) h:=by
 have:=xG hp (List.getElem?_eq_some_iff.1 hx).1 hl s
 rwa [iN hx] at this
theorem all_nil:aF l h->aF (all A [] []::l) h:=fun s=>star_cons (fun _=>trivial) s
theorem all_push {p:σ} {x:α} (hl:ps.length = xs.length) (s:aF (A p x::all A ps xs::l) h):aF (all A (ps++[p]) (xs++[x])::l) h:=by
 refine star_shut ?_
 rw [objs_append p x hl]
 have s1:=kz (.swap _ _ _) s
 have s2:=dB s1
 exact kz (by simp) s2
end
theorem ww {A:As} {h:Hp} (a:A h):aF [A] h:=⟨h,emp,Dj.emp_right _,(un_emp _).symm,a,trivial⟩
section
variable {P:Program} {l:List As} {h:Hp} {τ:Type} {f:FuncId} {args:List Value} {enc:τ->Value} {K:τ->Hp->Prop} {i:Nat} {A:As}
theorem bP {φ:τ->Prop} {A':τ->As} (c:Sp P f args enc [A] (fun r=>pa_ (φ r) [A' r])) (hi:l[i]? = some A) (s:aF l h) (k:∀ r h',φ r->aF (l.set i (A' r)) h'->K r h'):cl P f args enc K h:=by
 obtain ⟨h1,h2,d,rfl,a,s'⟩:=fQ hi s
 refine (c h1 (ww a)).frame_mono d rfl fun v h' ⟨r,hv,q⟩ dj=>⟨r,hv,?_⟩
 obtain ⟨g1,q⟩:=q
 refine k r _ g1 (eq (List.getElem?_eq_some_iff.1 hi).1 ?_)
 exact nJ (l:=[A' r]++l.eraseIdx i) (by rw [List.append_nil]; exact eU.2 ⟨h',h2,dj,rfl,q,s'⟩)
theorem wh {B A':τ->As} (c:Sp P f args enc [A] (fun r=>aF [B r,A' r])) (hi:l[i]? = some A) (s:aF l h) (k:∀ r h',aF (B r::l.set i (A' r)) h'->K r h'):cl P f args enc K h:=by
 obtain ⟨h1,h2,d,rfl,a,s'⟩:=fQ hi s
 refine (c h1 (ww a)).frame_mono d rfl fun v h' ⟨r,hv,q⟩ dj=>⟨r,hv,k r _ ?_⟩
 have s1:aF (B r::A' r::l.eraseIdx i) (un h' h2):=(eU (l:=[B r,A' r])).2 ⟨h',h2,dj,rfl,q,s'⟩
 obtain ⟨g1,g2,d2,e2,b,s2⟩:=s1
 exact ⟨g1,g2,d2,e2,b,eq (List.getElem?_eq_some_iff.1 hi).1 s2⟩
theorem cl_p {φ:τ->Prop} {B A':τ->As} (c:Sp P f args enc [A] (fun r=>pa_ (φ r) [B r,A' r])) (hi:l[i]? = some A) (s:aF l h) (k:∀ r h',φ r->aF (B r::l.set i (A' r)) h'->K r h'):cl P f args enc K h:=by
 obtain ⟨h1,h2,d,rfl,a,s'⟩:=fQ hi s
 refine (c h1 (ww a)).frame_mono d rfl fun v h' ⟨r,hv,q⟩ dj=>⟨r,hv,?_⟩
 obtain ⟨g0,q⟩:=q
 refine k r _ g0 ?_
 have s1:aF (B r::A' r::l.eraseIdx i) (un h' h2):=(eU (l:=[B r,A' r])).2 ⟨h',h2,dj,rfl,q,s'⟩
 obtain ⟨g1,g2,d2,e2,b,s2⟩:=s1
 exact ⟨g1,g2,d2,e2,b,eq (List.getElem?_eq_some_iff.1 hi).1 s2⟩
theorem tL {φ:τ->Prop} (c:Sp P f args enc [] (fun r=>pa_ (φ r) [])) (s:aF l h) (k:∀ r h',φ r->aF l h'->K r h'):cl P f args enc K h :=
 cQ [] c s rfl fun r h' s1=>by
  obtain ⟨f1,s2⟩:=bt.1 s1
  exact k r h' f1 s2
theorem mu {B:τ->As} (c:Sp P f args enc [] (fun r=>aF [B r])) (s:aF l h) (k:∀ r h',aF (B r::l) h'->K r h'):cl P f args enc K h :=
 cQ [] c s rfl fun r h' s1=>k r h' (dB s1)
end
end Mb
end
section
open Go Mb
set_option linter.unusedVariables false
def sh_caps_Tree_is (a0:Ptr) (a1:Int) (a2:Int) (K:Bool->Hp->Prop):Hp->Prop:=br (decide (a1 >= 0)) ( nn a0 fun q12=>ld (q12.1,q12.2 + 0) cS fun x14=>K (((decide (a1 < (x14.len:Int))) && (decide (a2 >= 0))) && (decide (a2 < 8)))) ( K false)
theorem sim_caps_Tree_is (a0:Ptr) (a1:Int) (a2:Int) {K:Bool->Hp->Prop} {h:Hp} (H:sh_caps_Tree_is a0 a1 a2 K h):Ct prog ij #[(pv a0),(.int .i64 a1),(.int .i64 a2)] h fun v h'=>∃ r,v = aC r/\K r h':=ay [(pv a0),(.int .i64 a1),(.int .i64 a2)] func151 c c c fun _=>M<|O c<|M<|J c<|p (jJ c c)<|J c<|V c c (aB _) (fun g1=>wv<|ah c)<|V c c (aB _) (fun g2=>wv<|ah c)<|bS H (fun k4 H5=>bG H5 fun q12 e6 H7=>F (D k4)<|R (aJ<|aN (aD c k4)<|ar e6)<|F (D k4)<|R (ae hO c)<|F (D k4)<|aW H7 qa c (fun _=>c) c fun x14 H8=>F (D k4)<|R (dz c underlying206 c)<|F (D k4)<|R (cx (aD c k4) c)<|p (aT c k4 c)<|J c<|V c c (aB _) (fun g9=>wv<|ah c)<|V c c (aB _) (fun g10=>wv<|jJ (aD c g10) c)<|p (bT c c)<|J c<|V c c (aB _) (fun g11=>wv<|ah c)<|V c c (aB _) (fun g12=>wv<|cx (aD c g12) c)<|p (bT c c)<|O c<|aj<|Y ⟨(((decide (a1 < (x14.len:Int))) && (decide (a2 >= 0))) && (decide (a2 < 8))),c,H8⟩) fun k4 H5=>W (aU k4)<|W (aU k4)<|W (aU k4)<|W (aU k4)<|W (aU k4)<|p (aq c k4 c)<|J c<|W c<|W c<|p (aq c c c)<|J c<|W c<|W c<|p (aq c c c)<|O c<|aj<|Y ⟨false,c,H5⟩
def iI (a0:Ptr) (a1:Int) (a2:Int) (K:(ax × Bool)->Hp->Prop) (s1:Bool):Hp->Prop:=br s1 ( K ((⟨0,0,0,0⟩:ax),false)) ( nn a0 fun q32=>ld (q32.1,q32.2 + 0) cS fun x34=>ix x34 a1 fun q37=>gd (0 <= a2/\a2 < 8)<|ld (q37.1,q37.2 + Int.toNat a1 * 32 + Int.toNat a2 * 4) ax.C fun x39=>K (x39,true))
def sh_caps_Tree_At (a0:Ptr) (a1:Int) (a2:Int) (K:(ax × Bool)->Hp->Prop):Hp->Prop:=br (!a0.isNone) ( cl prog ij [(pv a0),(.int .i64 a1),(.int .i64 a2)] aC fun r14=>br (!(!r14)) ( nn a0 fun q19=>ld (q19.1,q19.2 + 0) cS fun x21=>ix x21 a1 fun q24=>gd (0 <= a2/\a2 < 8)<|ld (q24.1,q24.2 + Int.toNat a1 * 32 + Int.toNat a2 * 4 + 1) (cI .i64) fun x27=>iI a0 a1 a2 K (x27 == 0)) ( iI a0 a1 a2 K true)) ( iI a0 a1 a2 K true)
theorem sim_caps_Tree_At (a0:Ptr) (a1:Int) (a2:Int) {K:(ax × Bool)->Hp->Prop} {h:Hp} (H:sh_caps_Tree_At a0 a1 a2 K h):Ct prog dY #[(pv a0),(.int .i64 a1),(.int .i64 a2)] h fun v h'=>∃ r,v = cn r/\K r h':=ay [(pv a0),(.int .i64 a1),(.int .i64 a2)] func102 c c c fun _=>M<|aa<|aM (l:=ax.C (⟨0,0,0,0⟩:ax)) gu c c fun b6=>O c<|al<|eG (iI a0 a1 a2 K) (fun s1=>[(0,(pv a0)),(1,(.int .i64 a1)),(2,(.int .i64 a2)),(6,(.pointer (some ⟨b6,0,none⟩))),(29,(.bool s1))]) (fun s1=>[bx b6 36 (ax.C (⟨0,0,0,0⟩:ax))]) (ap<|J c<|p (cq underlying155 c)<|J c<|V c c (aL _) (fun g14=>wv<|ah c)<|V c c (aL _) (fun g15=>wv<|ah c)<|V c c (aL _) (fun g16=>wv<|ah c)<|bS H (fun k18 H19=>F (D<|bW k18)<|fZ H19 en_151 (aS (aD c k18)<|aS (aD c k18)<|aS (aD c k18) bR) c fun r14 _ H20=>F (D<|bW k18)<|R (cr c)<|p (aq c (bW k18) c)<|J c<|V c c (aL _) (fun g21=>wv<|ah c)<|bS H20 (fun k23 H24=>bG H24 fun q19 e25 H26=>F (D<|bW k23)<|R (aJ<|aN (aD c k23)<|ar e25)<|F (D<|bW k23)<|R (ae hO c)<|F (D<|bW k23)<|aW H26 qa c (fun _=>c) c fun x21 H27=>F (D<|bW k23)<|R (ah c)<|F (D<|bW k23)<|R (ah c)<|cm H27 fun q24 e28 h29 H30=>F (D<|bW k23)<|R (bq ox (aN c<|bb e28) c h29)<|iD H30 fun h31 H32=>F (D<|bW k23)<|R (bB qx c c h31)<|F (D<|bW k23)<|R (ae gN c)<|F (D<|bW k23)<|aW H32 aZ c (fun _=>c) c fun x27 H33=>F (D<|bW k23)<|R (bQ c c)<|p (aq c (bW k23) c)<|ad<|cM (x27 == 0) H33 (.cons c<|.cons c<|.cons c<|.cons c<|.cons c<|.nil _)<|.cons_cons _ .slnil) fun k23 H24=>W (cf<|bH k23)<|W (cf<|bH k23)<|W (cf<|bH k23)<|W (cf<|bH k23)<|W (cf<|bH k23)<|W (cf<|bH k23)<|W (cf<|bH k23)<|W (cf<|bH k23)<|W (cf<|bH k23)<|W (cf<|bH k23)<|p (aT c (bH k23) c)<|ad<|cM true H24 (.cons c<|.cons c<|.cons c<|.cons c<|.cons c<|.nil _)<|.cons_cons _ .slnil) fun k18 H19=>W (cf<|bH k18)<|W (cf<|bH k18)<|p (aT c (bH k18) c)<|J c<|W c<|W c<|W c<|W c<|W c<|W c<|W c<|W c<|W c<|W c<|W c<|p (aT c c c)<|ad<|cM true H19 (.cons c<|.cons c<|.cons c<|.cons c<|.cons c<|.nil _)<|.cons_cons _ .slnil) fun s1 _ H2=>aw c H2 (fun k3 H4=>M<|p (ba (vs:=[]) c build_36)<|aa<|aP (k:=0) (vs:=ax.C (⟨0,0,0,0⟩:ax)) fL c c c c c c c<|O c<|aj<|bv (bN c (bC (k:=0) c wm c c)<|cc c) ⟨((⟨0,0,0,0⟩:ax),false),c,H4⟩) fun k3 H4=>ao<|M<|J c<|bG H4 fun q32 e5 H6=>p (aJ<|aN c<|ar e5)<|p (ae hO c)<|aa<|aW H6 qa c (fun _=>c) c fun x34 H7=>J c<|J c<|cm H7 fun q37 e8 h9 H10=>p (bq ox (aN c<|bb e8) c h9)<|iD H10 fun h11 H12=>p (bB qx c c h11)<|aa<|gP H12 wm c (fun _=>c) c fun x39 H13=>aa<|aP (k:=0) (vs:=ax.C x39) fL c c c c c c c<|O c<|aj<|bv (bN c (bC (k:=0) c wm c c)<|cc c) ⟨(x39,true),c,H13⟩
def um (a0:Ptr) (a1:Int) (a2:Int) (a3:Int) (K:Int->Hp->Prop):Hp->Prop:=br a0.isNone ( K 10) ( cl prog ij [(pv a0),(.int .i64 a1),(.int .i64 a2)] aC fun r16=>br (((!r16) || (decide (a3 < 0))) || (decide (a3 >= 16))) ( K 2) ( nn a0 fun q28=>ld (q28.1,q28.2 + 0) cS fun x30=>ix x30 a1 fun q33=>gd (0 <= a2/\a2 < 8)<|ld (q33.1,q33.2 + Int.toNat a1 * 32 + Int.toNat a2 * 4 + 1) (cI .i64) fun x36=>br (x36 != 0) ( K 4) ( ld (q28.1,q28.2 + 0) cS fun x41=>ix x41 a1 fun q46=>st (q46.1,q46.2 + Int.toNat a1 * 32 + Int.toNat a2 * 4) (ax.C (⟨a3,3,(-1),0⟩:ax))<|K 0)))
theorem sim_caps_Tree_Root (a0:Ptr) (a1:Int) (a2:Int) (a3:Int) {K:Int->Hp->Prop} {h:Hp} (H:um a0 a1 a2 a3 K h):Ct prog jB #[(pv a0),(.int .i64 a1),(.int .i64 a2),(.int .i64 a3)] h fun v h'=>∃ r,v = bc r/\K r h':=ay [(pv a0),(.int .i64 a1),(.int .i64 a2),(.int .i64 a3)] func142 c c c fun _=>M<|O c<|al<|aA<|M<|J c<|p (cq underlying155 c)<|O c<|aw c H (fun k1 H2=>M<|O c<|aj<|Y ⟨10,c,H2⟩) fun k1 H2=>M<|J c<|J c<|J c<|aa<|Z H2 en_151 fun r16 _ H3=>p (cr c)<|J c<|V c c (aL _) (fun g4=>wv<|ah c)<|V c c (aL _) (fun g5=>wv<|cx (aD c g5) c)<|p (dp c c)<|J c<|V c c (aL _) (fun g6=>wv<|ah c)<|V c c (aL _) (fun g7=>wv<|jJ (aD c g7) c)<|p (dp c c)<|O c<|aw c H3 (fun k8 H9=>M<|O c<|aj<|Y ⟨2,c,H9⟩) fun k8 H9=>M<|J c<|bG H9 fun q28 e10 H11=>p (aJ<|aN c<|ar e10)<|p (ae hO c)<|aa<|aW H11 qa c (fun _=>c) c fun x30 H12=>J c<|J c<|cm H12 fun q33 e13 h14 H15=>p (bq ox (aN c<|bb e13) c h14)<|iD H15 fun h16 H17=>p (bB qx c c h16)<|p (ae gN c)<|aa<|aW H17 aZ c (fun _=>c) c fun x36 H18=>p (pt c c)<|O c<|aw c H18 (fun k19 H20=>M<|O c<|aj<|Y ⟨4,c,H20⟩) fun k19 H20=>ao<|M<|J (aN c<|ar e10)<|p (aJ c)<|p (ae hO c)<|aa<|aW H20 qa c (fun _=>c) c fun x41 H21=>J c<|J c<|J c<|p (ba c<|build_36_0_1_2 a3 3 (-1))<|cm H21 fun q46 e22 h23 H24=>p (bq ox (aN c<|bb e22) c h23)<|p (bB qx c c h16)<|aa<|dw fL c c c c c H24 fun _ H25=>ad<|M<|O c<|aj<|Y ⟨0,c,H25⟩
def rP (a0:Ptr) (a1:Int) (a2:Int) (a3:Int) (a4:Int) (a5:Int) (K:Int->Hp->Prop):Hp->Prop:=br a0.isNone ( K 10) ( cl prog ij [(pv a0),(.int .i64 a1),(.int .i64 a2)] aC fun r19=>br (!(!r19)) ( cl prog ij [(pv a0),(.int .i64 a3),(.int .i64 a4)] aC fun r25=>br ((!r25) || (!(ch a5))) ( K 2) ( nn a0 fun q34=>ld (q34.1,q34.2 + 0) cS fun x36=>ix x36 a1 fun q39=>gd (0 <= a2/\a2 < 8)<|ld (q39.1,q39.2 + Int.toNat a1 * 32 + Int.toNat a2 * 4) ax.C fun x41=>br (x41.fBa == 0) ( K 3) ( ld (q34.1,q34.2 + 0) cS fun x50=>ix x50 a3 fun q53=>gd (0 <= a4/\a4 < 8)<|ld (q53.1,q53.2 + Int.toNat a3 * 32 + Int.toNat a4 * 4 + 1) (cI .i64) fun x56=>br (x56 != 0) ( K 4) ( br (!(aQ a5 x41.fBa)) ( K 5) ( ld (q34.1,q34.2 + 0) cS fun x67=>ix x67 a3 fun q76=>st (q76.1,q76.2 + Int.toNat a3 * 32 + Int.toNat a4 * 4) (ax.C (⟨x41.fEa,a5,a1,a2⟩:ax))<|K 0))))) ( K 2))
theorem sim_caps_Tree_Derive (a0:Ptr) (a1:Int) (a2:Int) (a3:Int) (a4:Int) (a5:Int) {K:Int->Hp->Prop} {h:Hp} (H:rP a0 a1 a2 a3 a4 a5 K h):Ct prog ik #[(pv a0),(.int .i64 a1),(.int .i64 a2),(.int .i64 a3),(.int .i64 a4),(.int .i64 a5)] h fun v h'=>∃ r,v = bc r/\K r h':=ay [(pv a0),(.int .i64 a1),(.int .i64 a2),(.int .i64 a3),(.int .i64 a4),(.int .i64 a5)] func143 c c c fun _=>M<|O c<|al<|M<|J c<|p (cq underlying155 c)<|ad<|aw c H (fun k1 H2=>M<|O c<|aj<|Y ⟨10,c,H2⟩) fun k1 H2=>ao<|al<|M<|J c<|J c<|J c<|aa<|Z H2 en_151 fun r19 _ H3=>p (cr c)<|J c<|V c c (aL _) (fun g4=>wv<|ah c)<|V c c (aL _) (fun g5=>wv<|ah c)<|V c c (aL _) (fun g6=>wv<|ah c)<|bS H3 (fun k8 H9=>F (D<|bW k8)<|fZ H9 en_151 (aS (aD c k8)<|aS (aD c k8)<|aS (aD c k8) bR) c fun r25 _ H10=>F (D<|bW k8)<|R (cr c)<|p (aq c (bW k8) c)<|J c<|V c c (aL _) (fun g11=>wv<|ah c)<|cZ (vs:=[(.int .i64 a5)]) c c c (aL _) (fun g12=>bz<|ql a5 _) en_166 (fun g12=>aS (aD c g12) bR) c<|V c c (aL _) (fun g13=>wv<|cr<|aD c g13)<|p (dp c c)<|ad<|aw c H10 (fun k14 H15=>M<|O c<|aj<|Y ⟨2,c,H15⟩) fun k14 H15=>ao<|M<|J c<|bG H15 fun q34 e16 H17=>p (aJ<|aN c<|ar e16)<|p (ae hO c)<|aa<|aW H17 qa c (fun _=>c) c fun x36 H18=>J c<|J c<|cm H18 fun q39 e19 h20 H21=>p (bq ox (aN c<|bb e19) c h20)<|iD H21 fun h22 H23=>p (bB qx c c h22)<|aa<|gP H23 wm c (fun _=>c) c fun x41 H24=>aa<|aM (l:=ax.C (⟨0,0,0,0⟩:ax)) gu c c fun b13=>aa<|aP (k:=0) (vs:=ax.C x41) fL c c c c c c c<|ad<|al<|aA<|M<|p (ae gN c)<|bh (bf (k:=0) aZ c c c) c<|p (bQ c c)<|O c<|aw c H24 (fun k25 H26=>M<|O c<|aj<|Y ⟨3,c,H26⟩) fun k25 H26=>M<|J (aN c<|ar e16)<|p (aJ c)<|p (ae hO c)<|aa<|aW H26 qa c (fun _=>c) c fun x50 H27=>J c<|J c<|cm H27 fun q53 e28 h29 H30=>p (bq ox (aN c<|bb e28) c h29)<|iD H30 fun h31 H32=>p (bB qx c c h31)<|p (ae gN c)<|aa<|aW H32 aZ c (fun _=>c) c fun x56 H33=>p (pt c c)<|O c<|aw c H33 (fun k34 H35=>M<|O c<|aj<|Y ⟨4,c,H35⟩) fun k34 H35=>M<|J c<|p (ae gN c)<|bh (bf (k:=0) aZ c c c) c<|aa<|cK (vs:=[(.int .i64 a5),(.int .i64 x41.fBa)]) (bz<|db a5 x41.fBa _) mJ c c<|p (cr c)<|O c<|aw c H35 (fun k36 H37=>M<|O c<|aj<|Y ⟨5,c,H37⟩) fun k36 H37=>ao<|al<|bn (n:=15) [bx b13 36 (ax.C x41)] cu c (.cons_cons _ .slnil)<|U 0 c (ah<|aN c<|ar e16)<|U 1 c (aJ c)<|U 2 c (ae hO c)<|U 4 c (ah c)<|U 5 c (ah c)<|U 6 c (ae lK c)<|z_E 7 c (dk (k:=0) aZ c c c)<|U 8 c (ah c)<|U 9 c (ah c)<|U 10 c (ah c)<|U 11 c (ba c<|build_36_0_1_2_3 x41.fEa a5 a1 a2)<|bI (i:=3) (fun _ _ _ _ hh=>hh) H37 c (by kernel_rfl) qa c (fun _=>c) c fun x67 H38=>gn H38 fun q76 e39 h40 H41=>U 12 c (bq ox (aN c<|bb e39) c h40)<|U 13 c (bB qx c c h31)<|G 14 c<|dw fL c c c c c H41 fun _ H42=>⟨.cons_cons _ .slnil,aV (by kernel_rfl)<|M<|O c<|aj<|Y ⟨0,c,H42⟩⟩) fun k8 H9=>W (cf<|bH k8)<|W (cf<|bH k8)<|p (aT c (bH k8) c)<|J c<|W c<|W c<|W c<|p (aT c c c)<|ad<|ke c c<|M<|O c<|aj<|Y ⟨2,c,H9⟩
def hU (s6:Sl × Int) (Rec18:(Sl × Int)->Hp->Prop) (s17:Sl × Int) (s23:Bool):Hp->Prop:=br s23 ( hpv prog (Instr.buildSlice gX 1 #[(0,(.agg (aG.C (⟨s6.2,s17.2⟩:aG)).toArray))]) cU fun (v45:Sl)=>hpv prog (Builtin.append_ #[gX,gX] gX #[(sv s17.1),(sv v45)]) cU fun (v46:Sl)=>Rec18 (v46,(IntKind.i64.wrap (s17.2 + 1)))) ( Rec18 (s17.1,(IntKind.i64.wrap (s17.2 + 1))))
def qm (a1:Value) (Rec7:(Sl × Int)->Hp->Prop) (s6:Sl × Int) (v26:(List Value)) (Rec18:(Sl × Int)->Hp->Prop) (s17:Sl × Int):Hp->Prop:=br (decide (s17.2 < 8)) ( hpv prog (Instr.index lj (.agg v26.toArray) (.int .i64 s17.2)) R_api_Cap fun (v30:ax)=>br (v30.fBa != 0) ( clv prog a1 [(.agg (aG.C (⟨s6.2,s17.2⟩:aG)).toArray),(.agg (ax.C v30).toArray)] aC fun r41=>hU s6 Rec18 s17 r41) ( hU s6 Rec18 s17 false)) ( Rec7 (s17.1,(IntKind.i64.wrap (s6.2 + 1))))
def qn (a1:Value) (K:Sl->Hp->Prop) (q13:Nat × Nat) (x15:Sl) (Rec7:(Sl × Int)->Hp->Prop) (s6:Sl × Int):Hp->Prop:=br (decide (s6.2 < (x15.len:Int))) ( ld (q13.1,q13.2 + 0) cS fun x23=>ix x23 s6.2 fun q25=>hpv prog (Instr.loadAt lj (.pointer (some ⟨q25.1,q25.2 + Int.toNat s6.2 * 32,none⟩))) encL fun (v26:(List Value))=>Lp (qm a1 Rec7 s6 v26) (s6.1,0)) ( K s6.1)
def vD (a0:Ptr) (a1:Value) (K:Sl->Hp->Prop):Hp->Prop:=br a0.isNone ( K (⟨none,0,0,none⟩:Sl)) ( nn a0 fun q13=>ld (q13.1,q13.2 + 0) cS fun x15=>Lp (qn a1 K q13 x15) ((⟨none,0,0,none⟩:Sl),0))
theorem sim_caps_Tree_all (a0:Ptr) (a1:Value) {K:Sl->Hp->Prop} {h:Hp} (H:vD a0 a1 K h):Ct prog kr #[(pv a0),a1] h fun v h'=>∃ r,v = cU r/\K r h':=ay [(pv a0),a1] func188 c c c fun _=>M<|O c<|al<|M<|J c<|p (cq underlying155 c)<|ad<|aw c H (fun k1 H2=>M<|O c<|aj<|Y ⟨(⟨none,0,0,none⟩:Sl),c,H2⟩) fun k1 H2=>ao<|M<|O c<|al<|M<|J c<|bG H2 fun q13 e3 H4=>p (aJ<|aN c<|ar e3)<|p (ae hO c)<|aa<|aW H4 qa c (fun _=>c) c fun x15 H5=>p (dz c underlying206 c)<|J c<|ad<|aA<|bE (step:=qn a1 K q13 x15) (fun s6=>[(0,(pv a0)),(1,a1),(5,(sv s6.1)),(16,(.int .i64 (x15.len:Int))),(17,(.int .i64 s6.2))]) (fun s6=>[]) H5 (.cons c<|.cons c<|.cons c<|.cons c<|.cons c<|.nil _) .slnil fun Rec7 s6 _ H8=>M<|p (cx c c)<|ad<|al<|aw c H8 (fun k9 H10=>ao<|al<|aA<|M<|J c<|O c<|M<|J (aN c<|ar e3)<|p (aJ c)<|p (ae hO c)<|aa<|aW H10 qa c (fun _=>c) c fun x23 H11=>J c<|cm H11 fun q25 e12 h13 H14=>p (bq ox (aN c<|bb e12) c h13)<|aa<|aR H14 (x_load c) c fun v26 _ H16=>J c<|ad<|aA<|bE (step:=qm a1 Rec7 s6 v26) (fun s17=>[(0,(pv a0)),(1,a1),(5,(sv s17.1)),(6,(.int .i64 s6.2)),(16,(.int .i64 (x15.len:Int))),(17,(.int .i64 s6.2)),(26,(.agg v26.toArray)),(27,(.int .i64 s17.2))]) (fun s17=>[]) H16 (.cons c<|.cons c<|.cons c<|.cons c<|.cons c<|.cons c<|.cons c<|.cons c<|.nil _) .slnil fun Rec18 s17 _ H19=>M<|p (cx c c)<|ad<|al<|aw c H19 (fun k20 H21=>ao<|al<|aA<|M<|J c<|aa<|aR H21 (x_index c c) c fun v30 _ H22=>aa<|aM (l:=ax.C (⟨0,0,0,0⟩:ax)) gu c c fun b8=>p (au c)<|aa<|aP (k:=0) (vs:=ax.C v30) fL c c c c c c c<|ad<|M<|J c<|J c<|p (ba c<|va s6.2 s17.2)<|aa<|aM (l:=aG.C (⟨0,0⟩:aG)) zero_233 c c fun b9=>aa<|aP (k:=0) (vs:=aG.C (⟨s6.2,s17.2⟩:aG)) inf_233 c c c c c c c<|ad<|eG (hU s6 Rec18 s17) (fun s23=>[(0,(pv a0)),(1,a1),(5,(sv s17.1)),(6,(.int .i64 s6.2)),(9,(.pointer (some ⟨b9,0,none⟩))),(16,(.int .i64 (x15.len:Int))),(17,(.int .i64 s6.2)),(26,(.agg v26.toArray)),(27,(.int .i64 s17.2)),(42,(.bool s23))]) (fun s23=>[bx b9 233 (aG.C (⟨s6.2,s17.2⟩:aG))]) (ap<|p (ae gN c)<|bh (bf (k:=1) aZ c c c) c<|p (pt c c)<|J c<|V c c (aB _) (fun g29=>wv<|ah c)<|V c c (aB _) (fun g30=>cv<|bF (k:=0) ag_233 c c c c)<|V c c (aB _) (fun g31=>cv<|bF (k:=1) wm c c c c)<|bS H22 (fun k33 H34=>F (D k33)<|to_clv H34 (aD c k33) (aS (aD c k33)<|aS (aD c k33) bR) c fun r41 _ H35=>p (aT c k33 c)<|ad<|cM r41 H35 (.cons c<|.cons c<|.cons c<|.cons c<|.cons c<|.cons c<|.cons c<|.cons c<|.cons c<|.cons c<|.nil _)<|.cons_cons _<|.cons _ .slnil) fun k33 H34=>W (aU k33)<|p (aq c k33 c)<|ad<|cM false H34 (.cons c<|.cons c<|.cons c<|.cons c<|.cons c<|.cons c<|.cons c<|.cons c<|.cons c<|.cons c<|.nil _)<|.cons_cons _<|.cons _ .slnil) fun s23 _ H24=>aw c H24 (fun k25 H26=>ap<|J c<|bh (bF (k:=0) ag_233 c c c c) c<|aa<|aR H26 (bw (vs:=[(.agg (aG.C (⟨s6.2,s17.2⟩:aG)).toArray)]) c) c fun v45 _ H27=>aa<|aR H27 (dE c c) c fun v46 _ H28=>O c<|ap<|p (bo c c)<|J c<|ad<|cN (v46,(IntKind.i64.wrap (s17.2 + 1))) H28 (.cons c<|.cons c<|.cons c<|.cons c<|.cons c<|.cons c<|.cons c<|.cons c<|.nil _)<|.cons _ .slnil) fun k25 H26=>ao<|ap<|p (bo c c)<|J c<|ad<|cN (s17.1,(IntKind.i64.wrap (s17.2 + 1))) H26 (.cons c<|.cons c<|.cons c<|.cons c<|.cons c<|.cons c<|.cons c<|.cons c<|.nil _)<|.cons _ .slnil) fun k20 H21=>bi<|ap<|p (bo c c)<|J c<|ad<|cN (s17.1,(IntKind.i64.wrap (s6.2 + 1))) H21 (.cons c<|.cons c<|.cons c<|.cons c<|.cons c<|.nil _) .slnil) fun k9 H10=>bi<|M<|J c<|O c<|aj<|Y ⟨s6.1,c,H10⟩
def ul (a0:Ptr) (a1:Int) (a2:Int) (K:Int->Hp->Prop):Hp->Prop:=br a0.isNone ( K 10) ( cl prog ij [(pv a0),(.int .i64 a1),(.int .i64 a2)] aC fun r14=>br (!r14) ( K 2) ( nn a0 fun q18=>ld (q18.1,q18.2 + 0) cS fun x20=>ix x20 a1 fun q23=>gd (0 <= a2/\a2 < 8)<|ld (q23.1,q23.2 + Int.toNat a1 * 32 + Int.toNat a2 * 4 + 1) (cI .i64) fun x26=>br (x26 == 0) ( K 3) ( K 0)))
theorem sim_caps_Tree_look (a0:Ptr) (a1:Int) (a2:Int) {K:Int->Hp->Prop} {h:Hp} (H:ul a0 a1 a2 K h):Ct prog mh #[(pv a0),(.int .i64 a1),(.int .i64 a2)] h fun v h'=>∃ r,v = bc r/\K r h':=ay [(pv a0),(.int .i64 a1),(.int .i64 a2)] func201 c c c fun _=>M<|O c<|al<|aA<|M<|J c<|p (cq underlying155 c)<|O c<|aw c H (fun k1 H2=>M<|O c<|aj<|Y ⟨10,c,H2⟩) fun k1 H2=>M<|J c<|J c<|J c<|aa<|Z H2 en_151 fun r14 _ H3=>p (cr c)<|O c<|aw c H3 (fun k4 H5=>M<|O c<|aj<|Y ⟨2,c,H5⟩) fun k4 H5=>M<|J c<|bG H5 fun q18 e6 H7=>p (aJ<|aN c<|ar e6)<|p (ae hO c)<|aa<|aW H7 qa c (fun _=>c) c fun x20 H8=>J c<|J c<|cm H8 fun q23 e9 h10 H11=>p (bq ox (aN c<|bb e9) c h10)<|iD H11 fun h12 H13=>p (bB qx c c h12)<|p (ae gN c)<|aa<|aW H13 aZ c (fun _=>c) c fun x26 H14=>p (bQ c c)<|O c<|aw c H14 (fun k15 H16=>M<|O c<|aj<|Y ⟨3,c,H16⟩) fun k15 H16=>ao<|M<|O c<|aj<|Y ⟨0,c,H16⟩
def lM (a0:Ptr) (a1:Sl) (K:Sl->Hp->Prop) (Rec2:Int->Hp->Prop) (s1:Int):Hp->Prop:=br (decide (s1 < (a1.len:Int))) ( ix a1 s1 fun q11=>ld (q11.1,q11.2 + Int.toNat s1 * 2) aG.C fun x12=>nn a0 fun q14=>ld (q14.1,q14.2 + 0) cS fun x16=>ix x16 x12.fCa fun q22=>gd (0 <= x12.fDa/\x12.fDa < 8)<|st (q22.1,q22.2 + Int.toNat x12.fCa * 32 + Int.toNat x12.fDa * 4) (ax.C (⟨0,0,0,0⟩:ax))<|Rec2 (IntKind.i64.wrap (s1 + 1))) ( K a1)
def qQ (a0:Ptr) (a1:Sl) (K:Sl->Hp->Prop):Hp->Prop:=Lp (lM a0 a1 K) 0
theorem sim_caps_Tree_empties (a0:Ptr) (a1:Sl) {K:Sl->Hp->Prop} {h:Hp} (H:qQ a0 a1 K h):Ct prog gK #[(pv a0),(sv a1)] h fun v h'=>∃ r,v = cU r/\K r h':=ay [(pv a0),(sv a1)] func202 c c c fun _=>M<|O c<|al<|M<|J c<|p (dz c underlying201 c)<|J c<|ad<|aA<|bE (step:=lM a0 a1 K) (fun s1=>[(0,(pv a0)),(1,(sv a1)),(7,(sv a1)),(8,(.int .i64 (a1.len:Int))),(9,(.int .i64 s1))]) (fun s1=>[]) H (.cons c<|.cons c<|.cons c<|.cons c<|.cons c<|.nil _) .slnil fun Rec2 s1 _ H3=>M<|p (cx c c)<|ad<|al<|aw c H3 (fun k4 H5=>ao<|al<|aA<|M<|cm H5 fun q11 e6 h7 H8=>p (bq slc_201 (aN c<|bb e6) c h7)<|aa<|gP H8 ag_233 c (fun _=>c) c fun x12 H9=>aa<|aM (l:=aG.C (⟨0,0⟩:aG)) zero_233 c c fun b6=>aa<|aP (k:=0) (vs:=aG.C x12) inf_233 c c c c c c c<|ad<|bn (n:=12) [bx b6 233 (aG.C x12)] cu c (.cons_cons _ .slnil)<|U 0 c (ah c)<|U 4 c (ae fld_233_0 c)<|z_E 5 c (dk (k:=0) aZ c c c)<|U 6 c (ae fld_233_1 c)<|z_E 7 c (dk (k:=0) aZ c c c)<|U 8 c (ba (vs:=[]) c build_36)<|gT H9 fun q14 e10 H11=>U 1 c (aJ<|aN c<|ar e10)<|U 2 c (ae hO c)<|bI (i:=3) (fun _ _ _ _ hh=>hh) H11 c (by kernel_rfl) qa c (fun _=>c) c fun x16 H12=>gn H12 fun q22 e13 h14 H15=>U 9 c (bq ox (aN c<|bb e13) c h14)<|eva_gd H15 fun h16 H17=>U 10 c (bB qx c c h16)<|G 11 c<|dw fL c c c c c H17 fun _ H18=>⟨.cons_cons _ .slnil,aV (by kernel_rfl)<|ap<|p (bo c c)<|J c<|ad<|cN (IntKind.i64.wrap (s1 + 1)) H18 (.cons c<|.cons c<|.cons c<|.cons c<|.cons c<|.nil _)<|.cons _ .slnil⟩) fun k4 H5=>bi<|M<|J c<|O c<|aj<|Y ⟨a1,c,H5⟩
def nD (a0:Ptr) (a2:aG) (K:Bool->Hp->Prop) (Rec2:ax->Hp->Prop) (s1:ax):Hp->Prop:=br ((s1.fBa != 0) && (decide (s1.fCa >= 0))) ( br ((s1.fCa == a2.fCa) && (s1.fDa == a2.fDa)) ( K true) ( nn a0 fun q28=>ld (q28.1,q28.2 + 0) cS fun x30=>ix x30 s1.fCa fun q35=>gd (0 <= s1.fDa/\s1.fDa < 8)<|ld (q35.1,q35.2 + Int.toNat s1.fCa * 32 + Int.toNat s1.fDa * 4) ax.C fun x37=>Rec2 x37)) ( K false)
def sX (a0:Ptr) (a1:ax) (a2:aG) (K:Bool->Hp->Prop):Hp->Prop:=Lp (nD a0 a2 K) a1
theorem sim_caps_Tree_under (a0:Ptr) (a1:ax) (a2:aG) {K:Bool->Hp->Prop} {h:Hp} (H:sX a0 a1 a2 K h):Ct prog kZ #[(pv a0),(.agg (ax.C a1).toArray),(.agg (aG.C a2).toArray)] h fun v h'=>∃ r,v = aC r/\K r h':=ay [(pv a0),(.agg (ax.C a1).toArray),(.agg (aG.C a2).toArray)] func190 c c c fun _=>M<|aa<|cO (l:=ax.C a1) c c c fun b4=>aa<|cO (l:=aG.C a2) c c c fun b5=>O c<|al<|aA<|bE (step:=nD a0 a2 K) (fun s1=>[(0,(pv a0)),(4,(.pointer (some ⟨b4,0,none⟩))),(5,(.pointer (some ⟨b5,0,none⟩)))]) (fun s1=>[bx b5 233 (aG.C a2),bx b4 36 (ax.C s1)]) H (.cons c<|.cons c<|.cons c<|.nil _) (.cons_cons _<|.cons_cons _ .slnil) fun Rec2 s1 _ H3=>al<|M<|p (ae gN c)<|bh (bf (k:=1) aZ c c c) c<|p (pt c c)<|J c<|V c c (aB _) (fun g4=>wv<|ae qZ c)<|V c c (aB _) (fun g5=>cv<|bf (k:=1) aZ (aD c g5) c c)<|V c c (aB _) (fun g6=>wv<|jJ (aD c g6) c)<|p (bT c c)<|ad<|aw c H3 (fun k7 H8=>ao<|aA<|al<|M<|p (ae qZ c)<|bh (bf (k:=1) aZ c c c) c<|p (ae fld_233_0 c)<|bh (bf (k:=0) aZ c c c) c<|p (bQ c c)<|J c<|V c c (aB _) (fun g9=>wv<|ae fld_36_3 c)<|V c c (aB _) (fun g10=>cv<|bf (k:=1) aZ (aD c g10) c c)<|V c c (aB _) (fun g11=>wv<|ae fld_233_1 c)<|V c c (aB _) (fun g12=>cv<|bf (k:=0) aZ (aD c g12) c c)<|V c c (aB _) (fun g13=>wv<|bQ (aD c g13)<|aD c g13)<|p (bT c c)<|ad<|aw c H8 (fun k14 H15=>M<|O c<|aj<|Y ⟨true,c,H15⟩) fun k14 H15=>ao<|bn (n:=12) [] cu c (.cons _<|.cons _ .slnil)<|U 0 c (ah c)<|U 4 c (ae qZ c)<|U 6 c (ae fld_36_3 c)<|gT H15 fun q28 e16 H17=>U 1 c (aJ<|aN c<|ar e16)<|U 2 c (ae hO c)<|bI (i:=3) (fun _ _ _ _ hh=>hh) H17 c (by kernel_rfl) qa c (fun _=>c) c fun x30 H18=>eva_load (i:=5) (fun _ _ _ _ hh=>hh) c (by kernel_rfl) c (bf (k:=1) aZ c c c)<|gn H18 fun q35 e19 h20 H21=>U 8 c (bq ox (aN c<|bb e19) c h20)<|eva_load (i:=7) (fun _ _ _ _ hh=>hh) c (by kernel_rfl) c (bf (k:=1) aZ c c c)<|eva_gd H21 fun h22 H23=>U 9 c (bB qx c c h22)<|xw (i:=10) (fun _ _ _ _ hh=>hh) H23 c (by kernel_rfl) wm c (fun _=>c) c fun x37 H24=>G 11 c<|aP (k:=1) (vs:=ax.C x37) fL c c c c c c c ⟨.cons _<|.cons _ .slnil,aV (by kernel_rfl)<|cN x37 H24 (.cons c<|.cons c<|.cons c<|.nil _)<|.cons_cons _<|.cons_cons _ .slnil⟩) fun k7 H8=>bi<|M<|O c<|aj<|Y ⟨false,c,H8⟩
def qR (a0:aG) (a1:ax) (c0:Nat) (c1:Nat) (K:Bool->Hp->Prop):Hp->Prop:=ld (c0,0) aG.C fun x8=>br (!(aG.eqb a0 x8)) ( ld (c1,0) cP fun x11=>ld (c0,0) aG.C fun x13=>cl prog kZ [(pv x11),(.agg (ax.C a1).toArray),(.agg (aG.C x13).toArray)] aC fun r14=>K r14) ( K true)
theorem sim_caps_Tree_Drop_c1 (a0:aG) (a1:ax) (c0:Nat) (c1:Nat) {K:Bool->Hp->Prop} {h:Hp} (H:qR a0 a1 c0 c1 K h):Ct prog gL #[(.agg (aG.C a0).toArray),(.agg (ax.C a1).toArray),(.pointer (some ⟨c0,0,none⟩)),(.pointer (some ⟨c1,0,none⟩))] h fun v h'=>∃ r,v = aC r/\K r h':=ay [(.agg (aG.C a0).toArray),(.agg (ax.C a1).toArray),(.pointer (some ⟨c0,0,none⟩)),(.pointer (some ⟨c1,0,none⟩))] func203 c c c fun _=>M<|aa<|cO (l:=aG.C a0) c c c fun b4=>aa<|cO (l:=ax.C a1) c c c fun b5=>O c<|M<|bh (bF (k:=1) ag_233 c c c c) c<|aa<|gP H ag_233 c (fun _=>c) c fun x8 H1=>p (v_eqA eqg_233 (eqr_233 9998 _ _) c c)<|J c<|bS H1 (fun k3 H4=>F (D<|bW k3)<|aW H4 ic c (fun _=>c) c fun x11 H5=>F (D<|bW k3)<|tb (cv<|bF (k:=0) wm c c c c) c<|F (D<|bW k3)<|gP H5 ag_233 c (fun _=>c) c fun x13 H6=>F (D<|bW k3)<|Z H6 en_190 fun r14 _ H7=>p (aq c (bW k3) c)<|O c<|aj<|Y ⟨r14,c,H7⟩) fun k3 H4=>W (cf<|bH k3)<|W (cf<|bH k3)<|W (cf<|bH k3)<|W (cf<|bH k3)<|p (aT c (bH k3) c)<|O c<|aj<|Y ⟨true,c,H4⟩
def uo (a0:Ptr) (a1:Int) (a2:Int) (K:(Sl × Int)->Hp->Prop):Hp->Prop:=nw rT [pv a0] fun b3=>ld (b3,0) cP fun x10=>cl prog mh [(pv x10),(.int .i64 a1),(.int .i64 a2)] bc fun r13=>br (r13 != 0) ( K ((⟨none,0,0,none⟩:Sl),r13)) ( nw rS (aG.C (⟨0,0⟩:aG)) fun b9=>st (b9,0) (aG.C (⟨a1,a2⟩:aG))<|ld (b3,0) cP fun x21=>both ( ld (b3,0) cP fun x20=>cl prog kr [(pv x21),(.func (.func gL) #[] #[(.pointer (some ⟨b9,0,none⟩)),(.pointer (some ⟨b3,0,none⟩))])] cU fun r23=>cl prog gK [(pv x20),(sv r23)] cU fun r24=>K (r24,0)) ( cl prog kr [(pv x21),(.func (.func gL) #[] #[(.pointer (some ⟨b9,0,none⟩)),(.pointer (some ⟨b3,0,none⟩))])] cU fun r23=>ld (b3,0) cP fun x20=>cl prog gK [(pv x20),(sv r23)] cU fun r24=>K (r24,0)))
theorem sim_caps_Tree_Drop (a0:Ptr) (a1:Int) (a2:Int) {K:(Sl × Int)->Hp->Prop} {h:Hp} (H:uo a0 a1 a2 K h):Ct prog mi #[(pv a0),(.int .i64 a1),(.int .i64 a2)] h fun v h'=>∃ r,v = dv r/\K r h':=ay [(pv a0),(.int .i64 a1),(.int .i64 a2)] func174 c c c fun _=>M<|aa<|hY c c c H fun b3 _ H1=>p (au c)<|O c<|al<|M<|aa<|aW H1 ic c (fun _=>c) c fun x10 H2=>J c<|J c<|aa<|Z H2 en_201 fun r13 _ H3=>O c<|M<|J c<|p (pt c c)<|ad<|aw c H3 (fun k4 H5=>M<|J c<|p (au c)<|O c<|aj<|bv (bN c (cc c)<|cc c) ⟨((⟨none,0,0,none⟩:Sl),r13),c,H5⟩) fun k4 H5=>ao<|M<|J c<|J c<|p (ba c<|va a1 a2)<|aa<|to_alloc zero_233 c c H5 fun b9 _ H6=>aa<|dw inf_233 c c c c c H6 fun _ H7=>ad<|al<|bn (n:=7) [] cu c .slnil<|U 2 c (v_func c c)<|bI (i:=1) (fun _ _ _ _ hh=>hh) H7 c (by kernel_rfl) ic c (fun _=>c) c fun x21 H8=>jD H8 fun H9_1 H9_2=>jE (i:=0) (j:=3) (by kernel_rfl) (cF c c<|aW H9_1 ic c (fun _=>c) c fun x20 H10=>⟨.slnil,G 3 c<|Z H10 en_188 fun r23 _ H11=>⟨.slnil,G 4 c<|Z H11 en_202 fun r24 _ H12=>⟨.slnil,U 5 c (au c)<|U 6 c (au c)<|aV (by kernel_rfl)<|aj<|bv (bN c (cc c)<|cc c) ⟨(r24,0),c,H12⟩⟩⟩⟩)<|cF c c<|Z H9_2 en_188 fun r23 _ H10=>⟨.slnil,bI (i:=0) (fun _ _ _ _ hh=>hh) H10 c (by kernel_rfl) ic c (fun _=>c) c fun x20 H11=>G 4 c<|Z H11 en_202 fun r24 _ H12=>⟨.slnil,U 5 c (au c)<|U 6 c (au c)<|aV (by kernel_rfl)<|aj<|bv (bN c (cc c)<|cc c) ⟨(r24,0),c,H12⟩⟩⟩
def pM (a0:aG) (a1:ax) (c0:Nat) (c1:Nat) (c2:Nat) (K:Bool->Hp->Prop):Hp->Prop:=ld (c0,0) cP fun x8=>ld (c1,0) (cI .i64) fun x10=>ld (c2,0) (cI .i64) fun x11=>cl prog kZ [(pv x8),(.agg (ax.C a1).toArray),(.agg (aG.C (⟨x10,x11⟩:aG)).toArray)] aC fun r13=>K r13
theorem wT (a0:aG) (a1:ax) (c0:Nat) (c1:Nat) (c2:Nat) {K:Bool->Hp->Prop} {h:Hp} (H:pM a0 a1 c0 c1 c2 K h):Ct prog lH #[(.agg (aG.C a0).toArray),(.agg (ax.C a1).toArray),(.pointer (some ⟨c0,0,none⟩)),(.pointer (some ⟨c1,0,none⟩)),(.pointer (some ⟨c2,0,none⟩))] h fun v h'=>∃ r,v = aC r/\K r h':=ay [(.agg (aG.C a0).toArray),(.agg (ax.C a1).toArray),(.pointer (some ⟨c0,0,none⟩)),(.pointer (some ⟨c1,0,none⟩)),(.pointer (some ⟨c2,0,none⟩))] func189 c c c fun _=>M<|aa<|cO (l:=aG.C a0) c c c fun b5=>aa<|cO (l:=ax.C a1) c c c fun b6=>O c<|M<|aa<|aW H ic c (fun _=>c) c fun x8 H1=>bh (bF (k:=0) wm c c c c) c<|aa<|aW H1 aZ c (fun _=>c) c fun x10 H2=>aa<|aW H2 aZ c (fun _=>c) c fun x11 H3=>p (ba c<|va x10 x11)<|aa<|Z H3 en_190 fun r13 _ H4=>O c<|aj<|Y ⟨r13,c,H4⟩
def sY (a0:Ptr) (a1:Int) (a2:Int) (K:Sl->Hp->Prop):Hp->Prop:=nw rT [pv a0] fun b3=>nw km [.int .i64 a1] fun b4=>nw km [.int .i64 a2] fun b5=>ld (b3,0) cP fun x7=>cl prog kr [(pv x7),(.func (.func lH) #[] #[(.pointer (some ⟨b3,0,none⟩)),(.pointer (some ⟨b4,0,none⟩)),(.pointer (some ⟨b5,0,none⟩))])] cU fun r9=>K r9
theorem sim_caps_Tree_Below (a0:Ptr) (a1:Int) (a2:Int) {K:Sl->Hp->Prop} {h:Hp} (H:sY a0 a1 a2 K h):Ct prog la #[(pv a0),(.int .i64 a1),(.int .i64 a2)] h fun v h'=>∃ r,v = cU r/\K r h':=ay [(pv a0),(.int .i64 a1),(.int .i64 a2)] func147 c c c fun _=>M<|aa<|hY c c c H fun b3 _ H1=>aa<|hY c c c H1 fun b4 _ H2=>aa<|hY c c c H2 fun b5 _ H3=>O c<|M<|aa<|aW H3 ic c (fun _=>c) c fun x7 H4=>p (v_func c c)<|aa<|Z H4 en_188 fun r9 _ H5=>O c<|aj<|Y ⟨r9,c,H5⟩
def rO (a0:Ptr) (a1:Int) (a2:Int) (K:(Sl × Int)->Hp->Prop):Hp->Prop:=cl prog mh [(pv a0),(.int .i64 a1),(.int .i64 a2)] bc fun r12=>br (r12 != 0) ( K ((⟨none,0,0,none⟩:Sl),r12)) ( cl prog la [(pv a0),(.int .i64 a1),(.int .i64 a2)] cU fun r20=>cl prog gK [(pv a0),(sv r20)] cU fun r21=>K (r21,0))
theorem sim_caps_Tree_Revoke (a0:Ptr) (a1:Int) (a2:Int) {K:(Sl × Int)->Hp->Prop} {h:Hp} (H:rO a0 a1 a2 K h):Ct prog nz #[(pv a0),(.int .i64 a1),(.int .i64 a2)] h fun v h'=>∃ r,v = dv r/\K r h':=ay [(pv a0),(.int .i64 a1),(.int .i64 a2)] func175 c c c fun _=>M<|p (au c)<|O c<|al<|M<|J c<|J c<|J c<|aa<|Z H en_201 fun r12 _ H1=>O c<|M<|J c<|p (pt c c)<|ad<|aw c H1 (fun k2 H3=>M<|J c<|p (au c)<|O c<|aj<|bv (bN c (cc c)<|cc c) ⟨((⟨none,0,0,none⟩:Sl),r12),c,H3⟩) fun k2 H3=>ao<|M<|J c<|J c<|J c<|J c<|aa<|Z H3 en_147 fun r20 _ H4=>aa<|Z H4 en_202 fun r21 _ H5=>p (au c)<|O c<|aj<|bv (bN c (cc c)<|cc c) ⟨(r21,0),c,H5⟩
def sh_caps_New (a0:Int) (K:Ptr->Hp->Prop):Hp->Prop:=br ((decide (a0 < 1)) || (decide (a0 > 4))) ( K none) ( hpv prog (Instr.makeSlice t_S_8_api_Cap (.int .i64 a0) (.int .i64 a0)) R_S_8_api_Cap fun (v10:Sl)=>nw nH (od.C (⟨v10⟩:od)) fun b12=>K (some (b12,0)))
theorem sim_caps_New (a0:Int) {K:Ptr->Hp->Prop} {h:Hp} (H:sh_caps_New a0 K h):Ct prog xl #[(.int .i64 a0)] h fun v h'=>∃ r,v = sy r/\K r h':=ay [(.int .i64 a0)] func106 c c c fun _=>M<|O c<|al<|M<|J c<|p (cx c c)<|J c<|V c c (aL _) (fun g1=>wv<|ah c)<|V c c (aL _) (fun g2=>wv<|qB (aD c g2) c)<|p (dp c c)<|ad<|aw c H (fun k3 H4=>M<|O c<|aj<|Y ⟨none,c,H4⟩) fun k3 H4=>ao<|M<|J c<|aa<|aR H4 (jK c c) c fun v10 _ H5=>p (ba c<|build_208_0 v10)<|aa<|hY c c c H5 fun b12 _ H6=>O c<|aj<|Y ⟨some (b12,0),c,H6⟩
end
section
open Go Mb
namespace Mb
def SpV {τ:Type} (P:Program) (c:Value) (args:List Value) (enc:τ->Value) (pre:List As) (post:τ->As):Prop :=
 ∃ f fi ca,c = .func (.func f) fi ca/\aK P f/\∀ h,aF pre h->Ct P f ((fi++args.toArray)++ca) h fun v h'=>∃ r,v = enc r/\post r h'
theorem star_rot {m:List As} {B:As} {h:Hp} (s:aF (m++[B]) h):aF (B::m) h:=kz (List.perm_append_singleton _ _) s
theorem star_rot' {m:List As} {B:As} {h:Hp} (s:aF (B::m) h):aF (m++[B]) h:=kz (List.perm_append_singleton _ _).symm s
theorem clv_t {τ:Type} {P:Program} {c:Value} {args:List Value} {enc:τ->Value} {pre:List As} {B:As} {post:τ->As} {K:τ->Hp->Prop} {h:Hp} (H:SpV P c args enc pre post) (s:aF (B::pre) h)
  (k:∀ r h',aF [post r,B] h'->K r h'):clv P c args enc K h:=by
 obtain ⟨f,fi,ca,rfl,he,H⟩:=H
 obtain ⟨h1,h2,d,rfl,s1,s2⟩:=eU.1 (star_rot' s)
 exact ⟨f,fi,ca,rfl,he,(H h1 s1).frame_mono d rfl fun v h' ⟨r,hv,q⟩ dj=>⟨r,hv,k r _ ⟨h',h2,dj,rfl,q,s2⟩⟩⟩
end Mb
abbrev Cap:=ax
abbrev bV:=aG
abbrev kP:Cap:=⟨0,0,0,0⟩
theorem qw (c:Cap):c.C.length = 4:=rfl
theorem vH (c:bV):c.C.length = 2:=rfl
theorem place_one (c:bV):dI c.C = true:=rfl
instance:DecidableEq bV:=fun a b=>decidable_of_iff (a.fCa = b.fCa/\a.fDa = b.fDa) ⟨fun h=>by cases a; cases b; simp_all,fun h=>by subst h; exact ⟨rfl,rfl⟩⟩
def enc8 (r:List Cap):List Value:=((r++List.replicate 8 kP).take 8).flatMap ax.C
theorem enc8_len (r:List Cap):(enc8 r).length = 32:=by unfold enc8; rw [dZ qw]; simp
theorem enc8_eq {r:List Cap} (h:r.length = 8):enc8 r = r.flatMap ax.C:=by
 unfold enc8; rw [List.take_append_of_le_length (by omega),← h,List.take_length]
namespace fAa
abbrev T:=List (List Cap)
def has (t:T) (e s:Int):Bool:=decide (0 <= e/\e < t.length/\0 <= s/\s < 8)
def get (t:T) (e s:Int):Cap:=(t.getD e.toNat []).getD s.toNat kP
def put (t:T) (e s:Int) (c:Cap):T:=t.set e.toNat ((t.getD e.toNat []).set s.toNat c)
def at_ (t:T) (e s:Int):Cap × Bool:=if has t e s = true/\(get t e s).fBa ≠ 0 then (get t e s,true) else (kP,false)
def root (t:T) (e s f:Int):Int × T :=
 if has t e s = false\/f < 0\/f >= 16 then (2,t) else if (get t e s).fBa ≠ 0 then (4,t) else (0,put t e s ⟨f,3,-1,0⟩)
def derive (t:T) (e src to dst r:Int):Int × T :=
 if has t e src = false\/has t to dst = false\/ch r = false then (2,t)
 else if (get t e src).fBa = 0 then (3,t) else if (get t to dst).fBa ≠ 0 then (4,t)
 else if aQ r (get t e src).fBa = false then (5,t) else (0,put t to dst ⟨(get t e src).fEa,r,e,src⟩)
def up:Nat->T->Cap->bV->Bool
 | 0,_,_,_=>false
 | n + 1,t,c,p=>if c.fBa ≠ 0/\0 <= c.fCa then (if c.fCa = p.fCa/\c.fDa = p.fDa then true else up n t (get t c.fCa c.fDa) p) else false
def deep:Nat->T->Cap->Nat
 | 0,_,_=>0
 | n + 1,t,c=>if c.fBa ≠ 0/\0 <= c.fCa then deep n t (get t c.fCa c.fDa) + 1 else 0
def under (t:T) (c:Cap) (p:bV):Bool:=up 40 t c p
def rowOf (P:Int->Int->Cap->Bool) (e:Int):List Cap->Int->List bV
 | [],_=>[]
 | c::cs,s=>if c.fBa ≠ 0/\P e s c = true then ⟨e,s⟩::rowOf P e cs (s + 1) else rowOf P e cs (s + 1)
def allOf (P:Int->Int->Cap->Bool):T->Int->List bV
 | [],_=>[]
 | r::rs,e=>rowOf P e r 0++allOf P rs (e + 1)
def below (t:T) (e s:Int):List bV:=allOf (fun _ _ c=>under t c ⟨e,s⟩) t 0
def own (t:T) (e s:Int):List bV:=allOf (fun a b c=>aG.eqb ⟨a,b⟩ ⟨e,s⟩ || under t c ⟨e,s⟩) t 0
def fUa (t:T):List bV->T
 | []=>t
 | p::l=>fUa (put t p.fCa p.fDa kP) l
def look (t:T) (e s:Int):Int:=if has t e s = false then 2 else if (get t e s).fBa = 0 then 3 else 0
def revoke (t:T) (e s:Int):(List bV × Int) × T:=if look t e s ≠ 0 then (([],look t e s),t) else ((below t e s,0),fUa t (below t e s))
def drop (t:T) (e s:Int):(List bV × Int) × T:=if look t e s ≠ 0 then (([],look t e s),t) else ((own t e s,0),fUa t (own t e s))
structure Ok (t:T):Prop where
 len:t.length <= 4
 row:∀ r ∈ t,r.length = 8
 rk:∃ rank:Int->Int->Nat,∀ e s,has t e s = true->(get t e s).fBa ≠ 0->0 <= (get t e s).fCa ->
  has t (get t e s).fCa (get t e s).fDa = true/\(get t (get t e s).fCa (get t e s).fDa).fBa ≠ 0/\rank (get t e s).fCa (get t e s).fDa < rank e s
theorem has_nat {t:T} {e s:Int} (h:has t e s = true):∃ m n:Nat,e = m/\s = n/\m < t.length/\n < 8:=by
 unfold has at h
 have:=of_decide_eq_true h
 exact ⟨e.toNat,s.toNat,by omega,by omega,by omega,by omega⟩
theorem has_of {t:T} {m n:Nat} (h1:m < t.length) (h2:n < 8):has t m n = true:=by
 unfold has; exact decide_eq_true ⟨by omega,by omega,by omega,by omega⟩
theorem get_nat' {t:T} (ok:∀ r ∈ t,r.length = 8) {m n:Nat} (h1:m < t.length) (h2:n < 8):∃ h3:n < t[m].length,get t m n = t[m][n]:=by
 have:=ok _ (List.getElem_mem h1)
 refine ⟨by omega,?_⟩
 have h3:n < t[m].length:=by omega
 simp [get,h1,h3]
theorem put_nat {t:T} {m n:Nat} (h1:m < t.length) (c:Cap):put t m n c = t.set m (t[m].set n c):=by simp [put,h1]
theorem put_len (t:T) (e s:Int) (c:Cap):(put t e s c).length = t.length:=by simp [put]
theorem put_has (t:T) (e s:Int) (c:Cap) (a b:Int):has (put t e s c) a b = has t a b:=by unfold has; rw [put_len]
theorem put_row {t:T} (ok:∀ r ∈ t,r.length = 8) (e s:Int) (c:Cap):∀ r ∈ put t e s c,r.length = 8:=by
 intro r hr
 unfold put at hr
 rcases List.mem_or_eq_of_mem_set hr with h | h
 ·exact ok r h
 ·subst h
  by_cases hm:e.toNat < t.length
  ·simp [hm]; exact ok _ (List.getElem_mem hm)
  ·rw [List.set_eq_of_length_le (by omega)] at hr; exact ok _ hr
theorem get_put {t:T} (ok:∀ r ∈ t,r.length = 8) {e s a b:Int} (h:has t e s = true) (h2:has t a b = true) (c:Cap):get (put t e s c) a b = if a = e/\b = s then c else get t a b:=by
 obtain ⟨m,n,rfl,rfl,hm,hn⟩:=has_nat h
 obtain ⟨i,j,rfl,rfl,hi,hj⟩:=has_nat h2
 have hl:=ok _ (List.getElem_mem hm)
 rw [put_nat hm]
 simp only [get,Int.toNat_natCast,List.getD_eq_getElem?_getD,List.getElem?_set]
 by_cases e1:m = i
 ·subst e1
  by_cases e2:n = j
  ·subst e2; simp [hm,hl,hn]
  ·have:¬ ((m:Int) = m/\(j:Int) = n):=by omega
   rw [if_neg this]; simp [hm,e2]
 ·have:¬ ((i:Int) = m/\(j:Int) = n):=by omega
  rw [if_neg this]; simp [e1]
theorem pigeon:∀ (n:Nat) (l:List Nat),l.Nodup->(∀ x ∈ l,x < n)->l.length <= n
 | 0,l,_,h=>by
  cases l with
  | nil=>simp
  | cons a l=>exact absurd (h a (by simp)) (by omega)
 | n + 1,l,d,h=>by
  have h1:=pigeon n (l.erase n) (d.erase n) (fun x hx=>by
   have h2:=d.mem_erase_iff.1 hx
   have:=h x h2.2
   have:=h2.1
   omega)
  rw [List.length_erase] at h1
  split at h1 <;> omega
theorem path {t:T} (ok:Ok t) {rank:Int->Int->Nat} (hr:∀ e s,has t e s = true->(get t e s).fBa ≠ 0->0 <= (get t e s).fCa ->
  has t (get t e s).fCa (get t e s).fDa = true/\(get t (get t e s).fCa (get t e s).fDa).fBa ≠ 0/\rank (get t e s).fCa (get t e s).fDa < rank e s) :
  ∀ (n:Nat) (e s:Int),has t e s = true->∃ l:List Nat,l.length = deep n t (get t e s)/\l.Pairwise (fun a b=>rank (b / 8:Nat) (b % 8:Nat) < rank (a / 8:Nat) (a % 8:Nat))/\∀ a ∈ l,a < 32/\rank (a / 8:Nat) (a % 8:Nat) < rank e s
 | 0,_,_,_=>⟨[],rfl,.nil,fun a h=>by cases h⟩
 | n + 1,e,s,h=>by
  by_cases hc:(get t e s).fBa ≠ 0/\0 <= (get t e s).fCa
  ·obtain ⟨h1,h2,h3⟩:=hr e s h hc.1 hc.2
   obtain ⟨l,hl,hp,hb⟩:=path ok hr n _ _ h1
   obtain ⟨i,j,ei,ej,hi,hj⟩:=has_nat h1
   have hlen:=ok.len
   have e1:(i * 8 + j) / 8 = i:=by omega
   have e2:(i * 8 + j) % 8 = j:=by omega
   refine ⟨(i * 8 + j)::l,?_,?_,?_⟩
   ·simp only [List.length_cons,deep]; rw [if_pos hc,hl]
   ·refine List.pairwise_cons.2 ⟨fun b hb'=>?_,hp⟩
    have:=(hb b hb').2
    rw [e1,e2,← ei,← ej]; exact this
   ·intro a ha
    rcases List.mem_cons.1 ha with rfl | ha
    ·rw [e1,e2,← ei,← ej]; exact ⟨by omega,h3⟩
    ·exact ⟨(hb a ha).1,Nat.lt_trans (hb a ha).2 h3⟩
  ·exact ⟨[],by simp only [deep]; rw [if_neg hc]; rfl,.nil,fun a h=>by cases h⟩
theorem deep_le {t:T} (ok:Ok t) {e s:Int} (h:has t e s = true) (n:Nat):deep n t (get t e s) <= 32:=by
 obtain ⟨rank,hr⟩:=ok.rk
 obtain ⟨l,hl,hp,hb⟩:=path ok hr n e s h
 rw [← hl]
 refine pigeon 32 l (hp.imp ?_) (fun x hx=>(hb x hx).1)
 rintro a b hab rfl
 exact absurd hab (Nat.lt_irrefl _)
theorem deep_s (n:Nat) (t:T) (c:Cap):deep (n + 1) t c = if c.fBa ≠ 0/\0 <= c.fCa then deep n t (get t c.fCa c.fDa) + 1 else 0:=rfl
theorem up_s (n:Nat) (t:T) (c:Cap) (p:bV):up (n + 1) t c p = if c.fBa ≠ 0/\0 <= c.fCa then (if c.fCa = p.fCa/\c.fDa = p.fDa then true else up n t (get t c.fCa c.fDa) p) else false:=rfl
theorem deep_succ {t:T}:∀ {n:Nat} {c:Cap},deep n t c < n->deep (n + 1) t c = deep n t c
 | 0,_,h=>by omega
 | n + 1,c,h=>by
  rw [deep_s (n + 1) t c,deep_s n t c]
  rw [deep_s n] at h
  by_cases hc:c.fBa ≠ 0/\0 <= c.fCa
  ·rw [if_pos hc] at h
   rw [if_pos hc,if_pos hc,deep_succ (n:=n) (by omega)]
  ·rw [if_neg hc,if_neg hc]
theorem up_succ {t:T} {p:bV}:∀ {n:Nat} {c:Cap},deep n t c < n->up (n + 1) t c p = up n t c p
 | 0,_,h=>by omega
 | n + 1,c,h=>by
  rw [up_s (n + 1) t c p,up_s n t c p]
  rw [deep_s n] at h
  by_cases hc:c.fBa ≠ 0/\0 <= c.fCa
  ·rw [if_pos hc] at h
   rw [if_pos hc,if_pos hc,up_succ (n:=n) (by omega)]
  ·rw [if_neg hc,if_neg hc]
theorem under_step {t:T} (ok:Ok t) {e s:Int} (h:has t e s = true) (p:bV):under t (get t e s) p = if (get t e s).fBa ≠ 0/\0 <= (get t e s).fCa then (if (get t e s).fCa = p.fCa/\(get t e s).fDa = p.fDa then true else under t (get t (get t e s).fCa (get t e s).fDa) p) else false:=by
 have h1:=deep_le ok h 40
 unfold under
 by_cases hc:(get t e s).fBa ≠ 0/\0 <= (get t e s).fCa
 ·rw [deep_s 39,if_pos hc] at h1
  rw [up_s 39,up_succ (n:=39) (by omega)]
 ·rw [up_s 39,if_neg hc,if_neg hc]
theorem deep_step {t:T} (ok:Ok t) {e s:Int} (h:has t e s = true) (hc:(get t e s).fBa ≠ 0/\0 <= (get t e s).fCa):deep 40 t (get t (get t e s).fCa (get t e s).fDa) < deep 40 t (get t e s):=by
 have h1:=deep_le ok h 40
 rw [deep_s 39,if_pos hc] at h1
 rw [deep_succ (n:=39) (by omega),deep_s 39,if_pos hc]
 omega
theorem ok_new (n:Nat) (h:n <= 4):Ok (List.replicate n (List.replicate 8 kP)):=by
 refine ⟨by simpa using h,fun r hr=>?_,fun _ _=>0,fun e s hh hne=>?_⟩
 ·rw [(List.mem_replicate.1 hr).2]; rfl
 ·exfalso
  apply hne
  obtain ⟨i,j,rfl,rfl,hi,hj⟩:=has_nat hh
  simp only [List.length_replicate] at hi
  simp only [get,Int.toNat_natCast,List.getD_eq_getElem?_getD,List.getElem?_replicate,if_pos hi,Option.getD_some,if_pos hj]
theorem ok_put {t:T} (ok:Ok t) {e s:Int} (h:has t e s = true) (h0:(get t e s).fBa = 0) (c:Cap) (hc:0 <= c.fCa->has t c.fCa c.fDa = true/\(get t c.fCa c.fDa).fBa ≠ 0):Ok (put t e s c):=by
 obtain ⟨rank,hr⟩:=ok.rk
 refine ⟨by rw [put_len]; exact ok.len,put_row ok.row e s c,fun a b=>if a = e/\b = s then rank c.fCa c.fDa + 1 else rank a b,fun a b hab hne hen=>?_⟩
 rw [put_has] at hab
 have keep:∀ {i j:Int},has t i j = true->(get t i j).fBa ≠ 0->¬ (i = e/\j = s):=by
  rintro i j _ hn ⟨rfl,rfl⟩; exact hn h0
 have hg:=get_put ok.row h hab c
 rw [hg] at hne hen ⊢
 by_cases hes:a = e/\b = s
 ·rw [if_pos hes] at hne hen ⊢
  obtain ⟨h1,h2⟩:=hc hen
  have hk:=keep h1 h2
  refine ⟨by rw [put_has]; exact h1,by rw [get_put ok.row h h1,if_neg hk]; exact h2,?_⟩
  show (if c.fCa = e/\c.fDa = s then _ else _) < (if a = e/\b = s then _ else _)
  rw [if_neg hk,if_pos hes]; omega
 ·rw [if_neg hes] at hne hen ⊢
  obtain ⟨h1,h2,h3⟩:=hr a b hab hne hen
  have hk:=keep h1 h2
  refine ⟨by rw [put_has]; exact h1,by rw [get_put ok.row h h1,if_neg hk]; exact h2,?_⟩
  show (if (get t a b).fCa = e/\(get t a b).fDa = s then _ else _) < (if a = e/\b = s then _ else _)
  rw [if_neg hk,if_neg hes]; exact h3
theorem empties_len:∀ (l:List bV) (t:T),(fUa t l).length = t.length
 | [],_=>rfl
 | p::l,t=>by rw [fUa,empties_len l,put_len]
theorem empties_has (t:T) (l:List bV) (a b:Int):has (fUa t l) a b = has t a b:=by unfold has; rw [empties_len]
theorem empties_row:∀ (l:List bV) (t:T),(∀ r ∈ t,r.length = 8)->∀ r ∈ fUa t l,r.length = 8
 | [],_,h=>h
 | p::l,t,h=>empties_row l _ (put_row h _ _ _)
theorem je:∀ (l:List bV) (t:T),(∀ r ∈ t,r.length = 8)->(∀ p ∈ l,has t p.fCa p.fDa = true)->∀ a b,has t a b = true->get (fUa t l) a b = if (⟨a,b⟩:bV) ∈ l then kP else get t a b
 | [],_,_,_,_,_,_=>by simp [fUa]
 | p::l,t,h,hl,a,b,hab=>by
  rw [fUa,je l _ (put_row h _ _ _) (fun q hq=>by rw [put_has]; exact hl q (by simp [hq])) a b (by rw [put_has]; exact hab),get_put h (hl p (by simp)) hab]
  by_cases h1:(⟨a,b⟩:bV) ∈ l
  ·rw [if_pos h1,if_pos (by simp [h1])]
  ·rw [if_neg h1]
   by_cases h2:a = p.fCa/\b = p.fDa
   ·obtain ⟨rfl,rfl⟩:=h2
    rw [if_pos ⟨rfl,rfl⟩,if_pos (by simp)]
   ·rw [if_neg h2,if_neg]
    intro hm
    rcases List.mem_cons.1 hm with hm | hm
    ·subst hm; exact h2 ⟨rfl,rfl⟩
    ·exact h1 hm
theorem rowOf_c (P:Int->Int->Cap->Bool) (e:Int) (c:Cap) (cs:List Cap) (s:Int):rowOf P e (c::cs) s = if c.fBa ≠ 0/\P e s c = true then ⟨e,s⟩::rowOf P e cs (s + 1) else rowOf P e cs (s + 1):=rfl
theorem mem_rowOf {P:Int->Int->Cap->Bool} {e:Int} {p:bV}:∀ {cs:List Cap} {s:Int},p ∈ rowOf P e cs s↔p.fCa = e/\∃ (n:Nat) (c:Cap),cs[n]? = some c/\p.fDa = s + n/\c.fBa ≠ 0/\P e (s + n) c = true
 | [],s=>by simp [rowOf]
 | c::cs,s=>by
  have ih:=mem_rowOf (P:=P) (e:=e) (p:=p) (cs:=cs) (s:=s + 1)
  have tail:(p.fCa = e/\∃ (n:Nat) (c':Cap),cs[n]? = some c'/\p.fDa = s + 1 + n/\c'.fBa ≠ 0/\P e (s + 1 + n) c' = true)↔(p.fCa = e/\∃ (n:Nat) (c':Cap),(c::cs)[n + 1]? = some c'/\p.fDa = s + ((n + 1:Nat):Int)/\c'.fBa ≠ 0/\P e (s + ((n + 1:Nat):Int)) c' = true):=by
   have:∀ n:Nat,s + ((n + 1:Nat):Int) = s + 1 + n:=fun n=>by omega
   simp only [this,List.getElem?_cons_succ]
  have split0:(p.fCa = e/\∃ (n:Nat) (c':Cap),(c::cs)[n]? = some c'/\p.fDa = s + n/\c'.fBa ≠ 0/\P e (s + n) c' = true)↔(p = ⟨e,s⟩/\c.fBa ≠ 0/\P e s c = true)\/(p.fCa = e/\∃ (n:Nat) (c':Cap),(c::cs)[n + 1]? = some c'/\p.fDa = s + ((n + 1:Nat):Int)/\c'.fBa ≠ 0/\P e (s + ((n + 1:Nat):Int)) c' = true):=by
   constructor
   ·rintro ⟨he,n,c',h1,h2,h3,h4⟩
    cases n with
    | zero =>
     simp at h1; subst h1
     simp at h2 h4
     exact .inl ⟨by cases p; simp_all,h3,h4⟩
    | succ n=>exact .inr ⟨he,n,c',h1,h2,h3,h4⟩
   ·rintro (⟨rfl,h3,h4⟩ | ⟨he,n,c',h1,h2,h3,h4⟩)
    ·exact ⟨rfl,0,c,rfl,by simp,h3,by simpa using h4⟩
    ·exact ⟨he,n + 1,c',h1,h2,h3,h4⟩
  rw [split0,← tail,← ih,rowOf_c]
  split
  ·rename_i hc
   rw [List.mem_cons]
   constructor
   ·rintro (h | h)
    ·exact .inl ⟨h,hc⟩
    ·exact .inr h
   ·rintro (h | h)
    ·exact .inl h.1
    ·exact .inr h
  ·rename_i hc
   constructor
   ·exact .inr
   ·rintro (h | h)
    ·exact absurd h.2 hc
    ·exact h
theorem mem_allOf {P:Int->Int->Cap->Bool} {p:bV}:∀ {t:T} {e:Int},p ∈ allOf P t e↔∃ (m n:Nat) (r:List Cap) (c:Cap),t[m]? = some r/\r[n]? = some c/\p = ⟨e + m,n⟩/\c.fBa ≠ 0/\P (e + m) n c = true
 | [],e=>by simp [allOf]
 | r::t,e=>by
  rw [allOf,List.mem_append,mem_rowOf,mem_allOf]
  constructor
  ·rintro (⟨h1,n,c,h2,h3,h4,h5⟩ | ⟨m,n,r',c,h1,h2,rfl,h4,h5⟩)
   ·refine ⟨0,n,r,c,rfl,h2,?_,h4,?_⟩
    ·cases p; simp_all
    ·simpa using h5
   ·refine ⟨m + 1,n,r',c,by simpa using h1,h2,?_,h4,?_⟩
    ·congr 1; omega
    ·rw [show e + ((m + 1:Nat):Int) = e + 1 + m from by omega]; exact h5
  ·rintro ⟨m,n,r',c,h1,h2,rfl,h4,h5⟩
   cases m with
   | zero =>
    simp at h1; subst h1
    exact .inl ⟨by simp,n,c,h2,by simp,h4,by simpa using h5⟩
   | succ m =>
    refine .inr ⟨m,n,r',c,by simpa using h1,h2,?_,h4,?_⟩
    ·congr 1; omega
    ·rw [show e + 1 + (m:Int) = e + ((m + 1:Nat):Int) from by omega]; exact h5
theorem mem_all {t:T} (row:∀ r ∈ t,r.length = 8) {P:Int->Int->Cap->Bool} {p:bV}:p ∈ allOf P t 0↔has t p.fCa p.fDa = true/\(get t p.fCa p.fDa).fBa ≠ 0/\P p.fCa p.fDa (get t p.fCa p.fDa) = true:=by
 rw [mem_allOf]
 constructor
 ·rintro ⟨m,n,r,c,h1,h2,rfl,h4,h5⟩
  obtain ⟨hm,e1⟩:=List.getElem?_eq_some_iff.1 h1
  obtain ⟨hn,e2⟩:=List.getElem?_eq_some_iff.1 h2
  have h8:=row r (List.mem_of_getElem? h1)
  simp only [Int.zero_add] at h5 ⊢
  have hg:get t m n = c:=by simp [get,h1,h2]
  rw [hg]
  exact ⟨has_of hm (by omega),h4,h5⟩
 ·rintro ⟨h1,h2,h3⟩
  obtain ⟨m,n,em,en,hm,hn⟩:=has_nat h1
  rw [em,en] at h2 h3
  obtain ⟨hn',hg⟩:=get_nat' row hm hn
  rw [hg] at h2 h3
  refine ⟨m,n,t[m],t[m][n],by simp [hm],by simp [hn'],?_,h2,by simpa using h3⟩
  cases p; simp_all
theorem mem_below {t:T} (ok:Ok t) {e s:Int} {p:bV}:p ∈ below t e s↔has t p.fCa p.fDa = true/\(get t p.fCa p.fDa).fBa ≠ 0/\under t (get t p.fCa p.fDa) ⟨e,s⟩ = true:=mem_all ok.row
theorem eqb_place (p q:bV):aG.eqb p q = true↔p = q:=by
 cases p; cases q; simp [aG.eqb]
theorem mem_own {t:T} (ok:Ok t) {e s:Int} {p:bV}:p ∈ own t e s↔has t p.fCa p.fDa = true/\(get t p.fCa p.fDa).fBa ≠ 0/\(p = ⟨e,s⟩\/under t (get t p.fCa p.fDa) ⟨e,s⟩ = true):=by
 unfold own
 rw [mem_all ok.row,Bool.or_eq_true,eqb_place]
theorem under_rights {t:T} {c:Cap} {p:bV} (h:under t c p = true):c.fBa ≠ 0:=by
 unfold under at h; rw [up_s 39] at h
 split at h
 ·rename_i hc; exact hc.1
 ·cases h
theorem ok_empties {t:T} (ok:Ok t) {l:List bV} (hl:∀ p ∈ l,has t p.fCa p.fDa = true)
  (cl:∀ e s,has t e s = true->(get t e s).fBa ≠ 0->0 <= (get t e s).fCa->(⟨(get t e s).fCa,(get t e s).fDa⟩:bV) ∈ l->(⟨e,s⟩:bV) ∈ l):Ok (fUa t l):=by
 obtain ⟨rank,hr⟩:=ok.rk
 refine ⟨by rw [empties_len]; exact ok.len,empties_row l t ok.row,rank,fun a b hab hne hen=>?_⟩
 rw [empties_has] at hab
 have hg:=je l t ok.row hl a b hab
 by_cases hm:(⟨a,b⟩:bV) ∈ l
 ·rw [if_pos hm] at hg; rw [hg] at hne; exact absurd rfl hne
 ·rw [if_neg hm] at hg
  rw [hg] at hne hen ⊢
  obtain ⟨h1,h2,h3⟩:=hr a b hab hne hen
  have hp:(⟨(get t a b).fCa,(get t a b).fDa⟩:bV) ∉ l:=fun h=>hm (cl a b hab hne hen h)
  refine ⟨by rw [empties_has]; exact h1,?_,h3⟩
  rw [je l t ok.row hl _ _ h1,if_neg hp]; exact h2
theorem ok_below {t:T} (ok:Ok t) (e s:Int):Ok (fUa t (below t e s)):=by
 refine ok_empties ok (fun p hp=>((mem_below ok).1 hp).1) fun a b hab hne hen hp=>?_
 have h1:=(mem_below ok).1 hp
 refine (mem_below ok).2 ⟨hab,hne,?_⟩
 rw [under_step ok hab,if_pos ⟨hne,hen⟩]
 split
 ·rfl
 ·exact h1.2.2
theorem ok_own {t:T} (ok:Ok t) (e s:Int):Ok (fUa t (own t e s)):=by
 refine ok_empties ok (fun p hp=>((mem_own ok).1 hp).1) fun a b hab hne hen hp=>?_
 have h1:=(mem_own ok).1 hp
 refine (mem_own ok).2 ⟨hab,hne,.inr ?_⟩
 rw [under_step ok hab,if_pos ⟨hne,hen⟩]
 split
 ·rfl
 ·rename_i hno
  rcases h1.2.2 with h | h
  ·exact absurd ⟨congrArg aG.fCa h,congrArg aG.fDa h⟩ hno
  ·exact h
theorem ok_root {t:T} (ok:Ok t) (e s f:Int):Ok (root t e s f).2:=by
 unfold root
 split
 ·exact ok
 ·split
  ·exact ok
  ·rename_i h1 h2
   refine ok_put ok (by simp at h1; exact h1.1) (by simpa using h2) _ (fun h=>?_)
   exact absurd h (by show ¬ (0:Int) <= -1; omega)
theorem ok_derive {t:T} (ok:Ok t) (e src to dst r:Int):Ok (derive t e src to dst r).2:=by
 unfold derive
 split
 ·exact ok
 ·split
  ·exact ok
  ·split
   ·exact ok
   ·split
    ·exact ok
    ·rename_i h1 h2 h3 h4
     simp at h1
     exact ok_put ok h1.2.1 (by simpa using h3) _ (fun _=>⟨h1.1,h2⟩)
theorem ok_revoke {t:T} (ok:Ok t) (e s:Int):Ok (revoke t e s).2:=by
 unfold revoke; split
 ·exact ok
 ·exact ok_below ok e s
theorem ok_drop {t:T} (ok:Ok t) (e s:Int):Ok (drop t e s).2:=by
 unfold drop; split
 ·exact ok
 ·exact ok_own ok e s
end fAa
end
section
open Go Mb
set_option linter.unusedVariables false
def tZ (a0:Ptr) (K:Int->Hp->Prop):Hp->Prop:=br a0.isNone ( K 0) ( nn a0 fun q6=>ld (q6.1,q6.2 + 0) cS fun x8=>K (x8.len:Int))
theorem sim_mem_Mem_Frames (a0:Ptr) {K:Int->Hp->Prop} {h:Hp} (H:tZ a0 K h):Ct prog vR #[(pv a0)] h fun v h'=>∃ r,v = ee r/\K r h':=ay [(pv a0)] func204 c c c fun _=>M<|O c<|al<|M<|J c<|p (cq underlying152 c)<|ad<|aw c H (fun k1 H2=>M<|O c<|aj<|Y ⟨0,c,H2⟩) fun k1 H2=>ao<|M<|J c<|bG H2 fun q6 e3 H4=>p (aJ<|aN c<|ar e3)<|p (ae sG c)<|aa<|aW H4 lm c (fun _=>c) c fun x8 H5=>p (dz c underlying163 c)<|O c<|aj<|Y ⟨(x8.len:Int),c,H5⟩
def sh_mem_Mem_at (a0:Ptr) (a1:Int) (a2:Int) (K:Ptr->Hp->Prop):Hp->Prop:=br (!(decide (a1 < 0))) ( cl prog vR [(pv a0)] ee fun r12=>br (((decide (a1 >= r12)) || (decide (a2 < 0))) || (decide (a2 >= 16))) ( K none) ( nn a0 fun q24=>ld (q24.1,q24.2 + 0) cS fun x26=>ix x26 a1 fun q28=>ld (q28.1,q28.2 + Int.toNat a1 * 1) cS fun x29=>ix x29 a2 fun q31=>K (some (q31.1,q31.2 + Int.toNat a2 * 1)))) ( K none)
theorem sim_mem_Mem_at (a0:Ptr) (a1:Int) (a2:Int) {K:Ptr->Hp->Prop} {h:Hp} (H:sh_mem_Mem_at a0 a1 a2 K h):Ct prog lZ #[(pv a0),(.int .i64 a1),(.int .i64 a2)] h fun v h'=>∃ r,v = sJ r/\K r h':=ay [(pv a0),(.int .i64 a1),(.int .i64 a2)] func179 c c c fun _=>M<|O c<|al<|M<|J c<|p (cx c c)<|J c<|V c c (aL _) (fun g1=>wv<|ah c)<|V c c (aL _) (fun g2=>wv<|ah c)<|bS H (fun k4 H5=>F (D<|bW k4)<|fZ H5 en_204 (aS (aD c k4) bR) c fun r12 _ H6=>F (D<|bW k4)<|R (jJ (aD c k4) c)<|p (aq c (bW k4) c)<|J c<|V c c (aL _) (fun g7=>wv<|ah c)<|V c c (aL _) (fun g8=>wv<|cx (aD c g8) c)<|p (dp c c)<|J c<|V c c (aL _) (fun g9=>wv<|ah c)<|V c c (aL _) (fun g10=>wv<|jJ (aD c g10) c)<|p (dp c c)<|ad<|aw c H6 (fun k11 H12=>M<|O c<|aj<|Y ⟨none,c,H12⟩) fun k11 H12=>ao<|M<|J c<|bG H12 fun q24 e13 H14=>p (aJ<|aN c<|ar e13)<|p (ae sG c)<|aa<|aW H14 lm c (fun _=>c) c fun x26 H15=>J c<|cm H15 fun q28 e16 h17 H18=>p (bq lS (aN c<|bb e16) c h17)<|aa<|aW H18 sc_93 c (fun _=>c) c fun x29 H19=>J c<|cm H19 fun q31 e20 h21 H22=>p (bq wE (aN c<|bb e20) c h21)<|O c<|aj<|Y ⟨some (q31.1,q31.2 + Int.toNat a2 * 1),c,H22⟩) fun k4 H5=>W (cf<|bH k4)<|W (cf<|bH k4)<|p (aT c (bH k4) c)<|J c<|W c<|W c<|p (aT c c c)<|J c<|W c<|W c<|p (aT c c c)<|ad<|ke c c<|M<|O c<|aj<|Y ⟨none,c,H5⟩
def sh_mem_Mem_Load (a0:Ptr) (a1:Int) (a2:Int) (K:(Int × Bool)->Hp->Prop):Hp->Prop:=cl prog lZ [(pv a0),(.int .i64 a1),(.int .i64 a2)] sJ fun r12=>br r12.isNone ( K (0,false)) ( nn r12 fun q16=>ld (q16.1,q16.2) (cI .u64) fun x17=>K (x17,true))
theorem sim_mem_Mem_Load (a0:Ptr) (a1:Int) (a2:Int) {K:(Int × Bool)->Hp->Prop} {h:Hp} (H:sh_mem_Mem_Load a0 a1 a2 K h):Ct prog ii #[(pv a0),(.int .i64 a1),(.int .i64 a2)] h fun v h'=>∃ r,v = bK r/\K r h':=ay [(pv a0),(.int .i64 a1),(.int .i64 a2)] func161 c c c fun _=>M<|p (au c)<|O c<|M<|J c<|J c<|J c<|aa<|Z H en_179 fun r12 _ H1=>O c<|al<|M<|J c<|p (cq underlying191 c)<|ad<|aw c H1 (fun k2 H3=>M<|p (au c)<|O c<|aj<|bv (bN c (cc c)<|cc c) ⟨(0,false),c,H3⟩) fun k2 H3=>ao<|M<|J c<|bG H3 fun q16 e4 H5=>p (aJ<|aN c<|ar e4)<|aa<|aW H5 cy c (fun _=>c) c fun x17 H6=>p (au c)<|O c<|aj<|bv (bN c (cc c)<|cc c) ⟨(x17,true),c,H6⟩
def vu (a0:Ptr) (a1:Int) (a2:Int) (a3:Int) (K:Bool->Hp->Prop):Hp->Prop:=cl prog lZ [(pv a0),(.int .i64 a1),(.int .i64 a2)] sJ fun r13=>br r13.isNone ( K false) ( nn r13 fun q18=>st (q18.1,q18.2) [.int .u64 a3]<|K true)
theorem sim_mem_Mem_Store (a0:Ptr) (a1:Int) (a2:Int) (a3:Int) {K:Bool->Hp->Prop} {h:Hp} (H:vu a0 a1 a2 a3 K h):Ct prog fE #[(pv a0),(.int .i64 a1),(.int .i64 a2),(.int .u64 a3)] h fun v h'=>∃ r,v = aC r/\K r h':=ay [(pv a0),(.int .i64 a1),(.int .i64 a2),(.int .u64 a3)] func162 c c c fun _=>M<|O c<|M<|J c<|J c<|J c<|aa<|Z H en_179 fun r13 _ H1=>O c<|al<|M<|J c<|p (cq underlying191 c)<|ad<|aw c H1 (fun k2 H3=>M<|O c<|aj<|Y ⟨false,c,H3⟩) fun k2 H3=>ao<|M<|J c<|J c<|bG H3 fun q18 e4 H5=>p (aJ<|aN c<|ar e4)<|aa<|dw inf_22 c c c c c H5 fun _ H6=>ad<|M<|O c<|aj<|Y ⟨true,c,H6⟩
def sh_mem_Mem_Cas (a0:Ptr) (a1:Int) (a2:Int) (a3:Int) (a4:Int) (K:(Int × Bool)->Hp->Prop):Hp->Prop:=cl prog ii [(pv a0),(.int .i64 a1),(.int .i64 a2)] bK fun r18=>br (r18.2 && (r18.1 == a3)) ( cl prog fE [(pv a0),(.int .i64 a1),(.int .i64 a2),(.int .u64 a4)] aC fun r31=>K (r18.1,r18.2)) ( K (r18.1,r18.2))
theorem sim_mem_Mem_Cas (a0:Ptr) (a1:Int) (a2:Int) (a3:Int) (a4:Int) {K:(Int × Bool)->Hp->Prop} {h:Hp} (H:sh_mem_Mem_Cas a0 a1 a2 a3 a4 K h):Ct prog qp #[(pv a0),(.int .i64 a1),(.int .i64 a2),(.int .u64 a3),(.int .u64 a4)] h fun v h'=>∃ r,v = bK r/\K r h':=ay [(pv a0),(.int .i64 a1),(.int .i64 a2),(.int .u64 a3),(.int .u64 a4)] func163 c c c fun _=>M<|p (au c)<|O c<|M<|J c<|J c<|J c<|aa<|Z H en_161 fun r18 _ H1=>J c<|p (ak c c)<|p (ak c c)<|p (au c)<|O c<|al<|M<|J c<|J c<|V c c (aB _) (fun g2=>wv<|ah c)<|V c c (aB _) (fun g3=>wv<|ah c)<|V c c (aB _) (fun g4=>wv<|bQ (aD c g4)<|aD c g4)<|p (bT c c)<|ad<|aw c H1 (fun k5 H6=>ap<|J c<|J c<|J c<|J c<|aa<|Z H6 en_162 fun r31 _ H7=>ad<|M<|J c<|J c<|p (au c)<|O c<|aj<|bv (bN c (cc c)<|cc c) ⟨(r18.1,r18.2),c,H7⟩) fun k5 H6=>ao<|M<|J c<|J c<|p (au c)<|O c<|aj<|bv (bN c (cc c)<|cc c) ⟨(r18.1,r18.2),c,H6⟩
def sh_mem_Mem_Add (a0:Ptr) (a1:Int) (a2:Int) (a3:Int) (K:(Int × Bool)->Hp->Prop):Hp->Prop:=cl prog ii [(pv a0),(.int .i64 a1),(.int .i64 a2)] bK fun r16=>cl prog fE [(pv a0),(.int .i64 a1),(.int .i64 a2),(.int .u64 (IntKind.u64.wrap (r16.1 + a3)))] aC fun r25=>K (r16.1,r16.2)
theorem sim_mem_Mem_Add (a0:Ptr) (a1:Int) (a2:Int) (a3:Int) {K:(Int × Bool)->Hp->Prop} {h:Hp} (H:sh_mem_Mem_Add a0 a1 a2 a3 K h):Ct prog qr #[(pv a0),(.int .i64 a1),(.int .i64 a2),(.int .u64 a3)] h fun v h'=>∃ r,v = bK r/\K r h':=ay [(pv a0),(.int .i64 a1),(.int .i64 a2),(.int .u64 a3)] func164 c c c fun _=>M<|p (au c)<|O c<|M<|J c<|J c<|J c<|aa<|Z H en_161 fun r16 _ H1=>J c<|p (ak c c)<|p (ak c c)<|p (au c)<|O c<|M<|J c<|J c<|J c<|J c<|J c<|p (bo c c)<|aa<|Z H1 en_162 fun r25 _ H2=>ad<|M<|J c<|J c<|p (au c)<|O c<|aj<|bv (bN c (cc c)<|cc c) ⟨(r16.1,r16.2),c,H2⟩
def sh_mem_Mem_Zero (a0:Ptr) (a1:Int) (K:Bool->Hp->Prop):Hp->Prop:=cl prog lZ [(pv a0),(.int .i64 a1),(.int .i64 0)] sJ fun r7=>br r7.isNone ( K false) ( nn a0 fun q10=>ld (q10.1,q10.2 + 0) cS fun x12=>ix x12 a1 fun q14=>ld (q14.1,q14.2 + Int.toNat a1 * 1) cS fun x15=>hpv prog (Builtin.clear_ #[be] t_none #[(sv x15)]) R_ fun (_:Unit)=>K true)
theorem sim_mem_Mem_Zero (a0:Ptr) (a1:Int) {K:Bool->Hp->Prop} {h:Hp} (H:sh_mem_Mem_Zero a0 a1 K h):Ct prog tg #[(pv a0),(.int .i64 a1)] h fun v h'=>∃ r,v = aC r/\K r h':=ay [(pv a0),(.int .i64 a1)] func172 c c c fun _=>M<|O c<|al<|M<|J c<|J c<|aa<|Z H en_179 fun r7 _ H1=>p (cq underlying191 c)<|ad<|aw c H1 (fun k2 H3=>M<|O c<|aj<|Y ⟨false,c,H3⟩) fun k2 H3=>ao<|M<|J c<|bG H3 fun q10 e4 H5=>p (aJ<|aN c<|ar e4)<|p (ae sG c)<|aa<|aW H5 lm c (fun _=>c) c fun x12 H6=>J c<|cm H6 fun q14 e7 h8 H9=>p (bq lS (aN c<|bb e7) c h8)<|aa<|aW H9 sc_93 c (fun _=>c) c fun x15 H10=>aa<|to_hpv0 H10 (x_clear c) fun _ _ H11=>ad<|M<|O c<|aj<|Y ⟨true,c,H11⟩
def mem_New_l1 (a0:Int) (K:Ptr->Hp->Prop) (b11:Nat) (Rec7:Int->Hp->Prop) (s6:Int):Hp->Prop:=br (decide (s6 < a0)) ( ld (b11,0) cS fun x19=>hpv prog (Instr.makeSlice be (.int .i64 16) (.int .i64 16)) cg fun (v20:Sl)=>hpv prog (Instr.buildSlice pX 1 #[(0,(sv v20))]) R_SSuint64 fun (v21:Sl)=>hpv prog (Builtin.append_ #[pX,pX] pX #[(sv x19),(sv v21)]) R_SSuint64 fun (v22:Sl)=>st (b11,0) [sv v22]<|Rec7 (IntKind.i64.wrap (s6 + 1))) ( K (some (b11,0)))
def sh_mem_New (a0:Int) (K:Ptr->Hp->Prop):Hp->Prop:=br ((decide (a0 < 1)) || (decide (a0 > 16))) ( K none) ( nw lP (sI.C (⟨(⟨none,0,0,none⟩:Sl)⟩:sI)) fun b11=>Lp (mem_New_l1 a0 K b11) 0)
theorem sim_mem_New (a0:Int) {K:Ptr->Hp->Prop} {h:Hp} (H:sh_mem_New a0 K h):Ct prog vO #[(.int .i64 a0)] h fun v h'=>∃ r,v = tJ r/\K r h':=ay [(.int .i64 a0)] func104 c c c fun _=>M<|O c<|al<|M<|J c<|p (cx c c)<|J c<|V c c (aL _) (fun g1=>wv<|ah c)<|V c c (aL _) (fun g2=>wv<|qB (aD c g2) c)<|p (dp c c)<|ad<|aw c H (fun k3 H4=>M<|O c<|aj<|Y ⟨none,c,H4⟩) fun k3 H4=>ao<|M<|p (ba (vs:=[]) c build_212)<|aa<|hY c c c H4 fun b11 _ H5=>O c<|al<|M<|J c<|J c<|ad<|aA<|bE (step:=mem_New_l1 a0 K b11) (fun s6=>[(3,(.pointer (some ⟨b11,0,none⟩))),(12,(.int .i64 a0)),(13,(.int .i64 s6))]) (fun s6=>[]) H5 (.cons c<|.cons c<|.cons c<|.nil _) .slnil fun Rec7 s6 _ H8=>M<|p (cx c c)<|ad<|al<|aw c H8 (fun k9 H10=>ao<|al<|aA<|bn (n:=11) [] cu c .slnil<|U 0 c (ah c)<|U 1 c (ah c)<|U 2 c (aJ c)<|U 3 c (ae sG c)<|bI (i:=4) (fun _ _ _ _ hh=>hh) H10 c (by kernel_rfl) lm c (fun _=>c) c fun x19 H11=>G 5 c<|aR H11 (jK c c) c fun v20 _ H12=>⟨.slnil,G 6 c<|aR H12 (bw (vs:=[(sv v20)]) c) c fun v21 _ H13=>⟨.slnil,G 7 c<|aR H13 (dE c c) c fun v22 _ H14=>⟨.slnil,U 8 c (aJ c)<|U 9 c (ae sG c)<|G 10 c<|dw inf_163 c c c c c H14 fun _ H15=>⟨.slnil,aV (by kernel_rfl)<|ap<|p (bo c c)<|J c<|ad<|cN (IntKind.i64.wrap (s6 + 1)) H15 (.cons c<|.cons c<|.cons c<|.nil _) .slnil⟩⟩⟩⟩) fun k9 H10=>bi<|M<|J c<|O c<|aj<|Y ⟨some (b11,0),c,H10⟩
def vv (a0:Ptr) (a1:Int) (K:Sl->Hp->Prop):Hp->Prop:=cl prog lZ [(pv a0),(.int .i64 a1),(.int .i64 0)] sJ fun r7=>br r7.isNone ( K (⟨none,0,0,none⟩:Sl)) ( nn a0 fun q10=>ld (q10.1,q10.2 + 0) cS fun x12=>ix x12 a1 fun q14=>ld (q14.1,q14.2 + Int.toNat a1 * 1) cS fun x15=>cl prog gF [(sv x15)] cg fun r16=>K r16)
theorem sim_mem_Mem_Frame (a0:Ptr) (a1:Int) {K:Sl->Hp->Prop} {h:Hp} (H:vv a0 a1 K h):Ct prog rm #[(pv a0),(.int .i64 a1)] h fun v h'=>∃ r,v = cg r/\K r h':=ay [(pv a0),(.int .i64 a1)] func136 c c c fun _=>M<|O c<|al<|M<|J c<|J c<|aa<|Z H en_179 fun r7 _ H1=>p (cq underlying191 c)<|ad<|aw c H1 (fun k2 H3=>M<|O c<|aj<|Y ⟨(⟨none,0,0,none⟩:Sl),c,H3⟩) fun k2 H3=>ao<|M<|J c<|bG H3 fun q10 e4 H5=>p (aJ<|aN c<|ar e4)<|p (ae sG c)<|aa<|aW H5 lm c (fun _=>c) c fun x12 H6=>J c<|cm H6 fun q14 e7 h8 H9=>p (bq lS (aN c<|bb e7) c h8)<|aa<|aW H9 sc_93 c (fun _=>c) c fun x15 H10=>aa<|Z H10 en_180 fun r16 _ H11=>O c<|aj<|Y ⟨r16,c,H11⟩
end
section
open Go Mb
abbrev vU (s:Sl) (xs:List Int):As:=vec t_uint64 1 (cI .u64) s xs
def rows:List Sl->List (List Int)->List As
 | s::ss,f::fs=>vU s f::rows ss fs
 | _,_=>[]
theorem rows_get:∀ (ss:List Sl) (fs:List (List Int)) (i:Nat) (s:Sl) (f:List Int),ss[i]? = some s->fs[i]? = some f->(rows ss fs)[i]? = some (vU s f)
 | [],_,_,_,_,h,_=>by simp at h
 | _::_,[],_,_,_,_,h=>by simp at h
 | s::ss,f::fs,0,_,_,h1,h2=>by simp at h1 h2; subst h1; subst h2; rfl
 | s::ss,f::fs,i + 1,_,_,h1,h2=>by simpa [rows] using rows_get ss fs i _ _ (by simpa using h1) (by simpa using h2)
theorem rows_set:∀ (ss:List Sl) (fs:List (List Int)) (i:Nat) (s:Sl) (f:List Int),ss[i]? = some s->(rows ss fs).set i (vU s f) = rows ss (fs.set i f)
 | [],_,_,_,_,h=>by simp at h
 | s::ss,[],i,_,_,_=>by simp [rows]
 | s::ss,g::fs,0,_,_,h1=>by simp at h1; subst h1; rfl
 | s::ss,g::fs,i + 1,_,_,h1=>by simp only [rows,List.set_cons_succ]; rw [rows_set ss fs i _ _ (by simpa using h1)]
theorem rows_app (s:Sl) (f:List Int):∀ (ss:List Sl) (fs:List (List Int)),ss.length = fs.length->rows (ss++[s]) (fs++[f]) = rows ss fs++[vU s f]
 | [],[],_=>rfl
 | [],_::_,h=>by simp at h
 | _::_,[],h=>by simp at h
 | a::ss,b::fs,h=>by simp only [List.cons_append,rows]; rw [rows_app s f ss fs (by simpa using h)]
def xm (b:Nat) (s:Sl) (ss:List Sl) (fs:List (List Int)):List As:=blk b lP [sv s]::vec be 1 cS s ss::rows ss fs
structure MemOk (ss:List Sl) (fs:List (List Int)):Prop where
 len:ss.length = fs.length
 le:fs.length <= 16
 row:∀ f ∈ fs,f.length = 16
def iq (x:Ptr) (fs:List (List Int)):As:=fun h=>∃ bs:Nat × Sl × List Sl,(x = some (bs.1,0)/\MemOk bs.2.2 fs)/\aF (xm bs.1 bs.2.1 bs.2.2 fs) h
theorem mem_op {x:Ptr} {fs:List (List Int)} {l:List As} {h:Hp} (s0:aF (iq x fs::l) h):∃ b s ss,x = some (b,0)/\MemOk ss fs/\s.len = fs.length/\aF (xm b s ss fs++l) h:=by
 obtain ⟨⟨b,s,ss⟩,⟨hx,hb⟩,st⟩:=op_ s0
 exact ⟨b,s,ss,hx,hb,(cj (j:=1) st rfl).1.trans hb.len,st⟩
theorem mem_cl {b:Nat} {s:Sl} {ss:List Sl} {fs:List (List Int)} {l:List As} {h:Hp} (hb:MemOk ss fs) (st:aF (xm b s ss fs++l) h):aF (iq (some (b,0)) fs::l) h:=cl_ (b,s,ss) ⟨rfl,hb⟩ st
theorem si {b:Nat} {s:Sl} {ss:List Sl} {fs:List (List Int)} {h:Hp} (hb:MemOk ss fs) (st:aF (xm b s ss fs) h):aF [iq (some (b,0)) fs] h:=mem_cl hb (by rw [List.append_nil]; exact st)
namespace Mem
def has (fs:List (List Int)) (f a:Int):Prop:=0 <= f/\f < fs.length/\0 <= a/\a < 16
instance (fs:List (List Int)) (f a:Int):Decidable (has fs f a):=by unfold has; infer_instance
def word (fs:List (List Int)) (f a:Int):Int:=(fs.getD f.toNat []).getD a.toNat 0
def load (fs:List (List Int)) (f a:Int):Int × Bool:=if has fs f a then (word fs f a,true) else (0,false)
def put (fs:List (List Int)) (f a v:Int):List (List Int):=fs.set f.toNat ((fs.getD f.toNat []).set a.toNat v)
def store (fs:List (List Int)) (f a v:Int):Bool × List (List Int):=if has fs f a then (true,put fs f a v) else (false,fs)
end Mem
theorem rx (x:Sl):(cS x).length = 1:=rfl
def memAt (ss:List Sl) (fs:List (List Int)) (f a:Int) (r:Ptr):Prop :=
 if Mem.has fs f a then ∃ s q,ss[f.toNat]? = some s/\s.a = some q/\r = some (q.1,q.2 + a.toNat * 1) else r = none
theorem sp_mem_at (b:Nat) (s:Sl) (ss:List Sl) (fs:List (List Int)) (hb:MemOk ss fs) (f a:Int):Sp prog lZ [pv (some (b,0)),.int .i64 f,.int .i64 a] sJ (xm b s ss fs) (fun r=>pa_ (memAt ss fs f a r) (xm b s ss fs)):=by
 intro h st
 refine sim_mem_Mem_at _ _ _ ?_
 unfold sh_mem_Mem_at
 have hno:∀ {p:Prop},¬ p->(Mem.has fs f a->p)->memAt ss fs f a none:=fun hp himp=>by unfold memAt; rw [if_neg (fun hh=>hp (himp hh))]
 have hl:s.len = fs.length:=(cj (j:=1) st rfl).1.trans hb.len
 refine aY (fun k=>?_) (fun k=>?_)
 ·have h0:0 <= f:=by simpa using k
  unfold cl
  refine sim_mem_Mem_Frames _ ?_
  unfold tZ
  refine dn rfl (cD (bk s st (i:=0) rfl rfl rfl ?_))
  refine aY (fun k2=>?_) (fun k2=>?_)
  ·have k2':¬ (f < fs.length/\0 <= a/\a < 16):=by simp [hl] at k2; omega
   exact aX (hno k2' (fun hh=>hh.2)) st
  ·have k2':f < fs.length/\0 <= a/\a < 16:=by simp [hl] at k2; omega
   obtain ⟨n,rfl⟩:=Int.eq_ofNat_of_zero_le h0
   have hn:n < ss.length:=by rw [hb.len]; omega
   have hf:n < fs.length:=by omega
   refine cD (bk s st (i:=0) rfl rfl rfl ?_)
   refine dy st (j:=1) rfl (by omega) (by omega) fun q hq=>?_
   refine eB (j:=1) (i:=n) (k:=0) ss[n] rx st rfl hq (by simp) (aH hn) (by simp) ?_
   have hr:(xm b s ss fs)[2 + n]? = some (vU ss[n] fs[n]):=by
    show (blk b lP [sv s]::vec be 1 cS s ss::rows ss fs)[2 + n]? = _
    rw [Nat.add_comm,List.getElem?_cons_succ,List.getElem?_cons_succ]
    exact rows_get ss fs n _ _ (aH hn) (aH hf)
   have hlen:fs[n].length = 16:=hb.row _ (List.getElem_mem hf)
   refine dy st (j:=2 + n) hr (by omega) (by omega) fun q2 hq2=>?_
   refine aX ?_ st
   unfold memAt
   rw [if_pos ⟨h0,k2'⟩]
   exact ⟨ss[n],q2,by simp [hn],hq2,rfl⟩
 ·have k':¬ 0 <= f:=by simpa using k
  exact aX (hno k' (fun hh=>hh.1)) st
theorem qI (x:Ptr) (fs:List (List Int)) (f a:Int):Sp prog ii [pv x,.int .i64 f,.int .i64 a] bK [iq x fs] (fun r=>pa_ (r = Mem.load fs f a) [iq x fs]):=by
 intro h s0
 obtain ⟨b,s,ss,rfl,hb,hl,st⟩:=mem_op s0
 refine sim_mem_Mem_Load _ _ _ ?_
 unfold sh_mem_Mem_Load
 rw [List.append_nil] at st
 refine cQ (rest:=[]) [] (sp_mem_at b s ss fs hb f a) st (List.append_nil _).symm fun r h' s1=>?_
 obtain ⟨hr,s2⟩:=bt.1 s1
 rw [List.append_nil] at s2
 by_cases hh:Mem.has fs f a
 ·unfold memAt at hr
  rw [if_pos hh] at hr
  obtain ⟨sr,q,h1,h2,rfl⟩:=hr
  obtain ⟨g1,g2,g3,g4⟩:=hh
  have hf:f.toNat < fs.length:=by omega
  have hrow:(xm b s ss fs)[2 + f.toNat]? = some (vU sr fs[f.toNat]):=by
   show (blk b lP [sv s]::vec be 1 cS s ss::rows ss fs)[2 + f.toNat]? = _
   rw [Nat.add_comm,List.getElem?_cons_succ,List.getElem?_cons_succ]
   exact rows_get ss fs _ _ _ h1 (aH hf)
  have hlen:fs[f.toNat].length = 16:=hb.row _ (List.getElem_mem hf)
  have ha:a.toNat < fs[f.toNat].length:=by omega
  refine dn rfl (cD ?_)
  refine eB (j:=2 + f.toNat) (i:=a.toNat) (k:=0) (q:=q) fs[f.toNat][a.toNat] (dh _) s2 hrow h2 (by simp) (aH ha) (by simp) ?_
  refine aX ?_ (si hb s2)
  unfold Mem.load
  rw [if_pos ⟨g1,g2,g3,g4⟩]
  simp [Mem.word,hf,ha]
 ·unfold memAt at hr
  rw [if_neg hh] at hr
  subst hr
  refine dL rfl ?_
  refine aX ?_ (si hb s2)
  unfold Mem.load
  rw [if_neg hh]
theorem lR (x:Ptr) (fs:List (List Int)) (f a v:Int):Sp prog fE [pv x,.int .i64 f,.int .i64 a,.int .u64 v] aC [iq x fs] (fun r=>pa_ (r = (Mem.store fs f a v).1) [iq x (Mem.store fs f a v).2]):=by
 intro h s0
 obtain ⟨b,s,ss,rfl,hb,hl,st⟩:=mem_op s0
 refine sim_mem_Mem_Store _ _ _ _ ?_
 unfold vu
 rw [List.append_nil] at st
 refine cQ (rest:=[]) [] (sp_mem_at b s ss fs hb f a) st (List.append_nil _).symm fun r h' s1=>?_
 obtain ⟨hr,s2⟩:=bt.1 s1
 rw [List.append_nil] at s2
 by_cases hh:Mem.has fs f a
 ·unfold memAt at hr
  rw [if_pos hh] at hr
  obtain ⟨sr,q,h1,h2,rfl⟩:=hr
  have e:Mem.store fs f a v = (true,Mem.put fs f a v):=if_pos hh
  rw [e]
  obtain ⟨g1,g2,g3,g4⟩:=hh
  have hf:f.toNat < fs.length:=by omega
  have hrow:(xm b s ss fs)[2 + f.toNat]? = some (vU sr fs[f.toNat]):=by
   show (blk b lP [sv s]::vec be 1 cS s ss::rows ss fs)[2 + f.toNat]? = _
   rw [Nat.add_comm,List.getElem?_cons_succ,List.getElem?_cons_succ]
   exact rows_get ss fs _ _ _ h1 (aH hf)
  have hlen:fs[f.toNat].length = 16:=hb.row _ (List.getElem_mem hf)
  have ha:a.toNat < fs[f.toNat].length:=by omega
  refine dn rfl (cD ?_)
  refine st_v (j:=2 + f.toNat) (i:=a.toNat) (k:=0) (q:=q) v (dh _) s2 hrow h2 (by simp) (aH ha) (by simp) rfl fun h3 s3=>?_
  have dV:(xm b s ss fs).set (2 + f.toNat) (vU sr (fs[f.toNat].set a.toNat v)) = xm b s ss (Mem.put fs f a v):=by
   show (blk b lP [sv s]::vec be 1 cS s ss::rows ss fs).set (2 + f.toNat) _ = _
   rw [Nat.add_comm,List.set_cons_succ,List.set_cons_succ,rows_set ss fs _ _ _ h1]
   simp [xm,Mem.put,hf]
  rw [dV] at s3
  refine aX rfl (si ⟨by simp [Mem.put,hb.len],by simpa [Mem.put] using hb.le,?_⟩ s3)
  intro g hg
  unfold Mem.put at hg
  rcases List.mem_or_eq_of_mem_set hg with h4 | h4
  ·exact hb.row _ h4
  ·rw [h4]; simp [hf,hlen]
 ·unfold memAt at hr
  rw [if_neg hh] at hr
  subst hr
  have e:Mem.store fs f a v = (false,fs):=if_neg hh
  rw [e]
  exact dL rfl (aX rfl (si hb s2))
namespace Mem
def cas (fs:List (List Int)) (f a o v:Int):(Int × Bool) × List (List Int) :=
 (load fs f a,if (load fs f a).2 && ((load fs f a).1 == o) then (store fs f a v).2 else fs)
def add (fs:List (List Int)) (f a v:Int):(Int × Bool) × List (List Int) :=
 (load fs f a,(store fs f a (IntKind.u64.wrap ((load fs f a).1 + v))).2)
def zero (fs:List (List Int)) (f:Int):Bool × List (List Int) :=
 if has fs f 0 then (true,fs.set f.toNat (List.replicate 16 0)) else (false,fs)
def frame (fs:List (List Int)) (f:Int):List Int:=if has fs f 0 then fs.getD f.toNat [] else []
end Mem
theorem sp_mem_Cas (x:Ptr) (fs:List (List Int)) (f a o v:Int):Sp prog qp [pv x,.int .i64 f,.int .i64 a,.int .u64 o,.int .u64 v] bK [iq x fs] (fun r=>pa_ (r = (Mem.cas fs f a o v).1) [iq x (Mem.cas fs f a o v).2]):=by
 intro h s0
 refine sim_mem_Mem_Cas _ _ _ _ _ ?_
 unfold sh_mem_Mem_Cas
 refine cQ [0] (qI x fs f a) s0 rfl fun r h' s1=>?_
 obtain ⟨hr,s2⟩:=bt.1 s1
 subst hr
 refine aY (fun k=>?_) (fun k=>?_)
 ·refine cQ [0] (lR x fs f a v) s2 rfl fun r h' s3=>?_
  obtain ⟨_,s4⟩:=bt.1 s3
  refine aX rfl ?_
  simp only [Mem.cas,k,if_true]
  exact s4
 ·refine aX rfl ?_
  simp only [Mem.cas,k,Bool.false_eq_true,if_false]
  exact s2
theorem sp_mem_Add (x:Ptr) (fs:List (List Int)) (f a v:Int):Sp prog qr [pv x,.int .i64 f,.int .i64 a,.int .u64 v] bK [iq x fs] (fun r=>pa_ (r = (Mem.add fs f a v).1) [iq x (Mem.add fs f a v).2]):=by
 intro h s0
 refine sim_mem_Mem_Add _ _ _ _ ?_
 unfold sh_mem_Mem_Add
 refine cQ [0] (qI x fs f a) s0 rfl fun r h' s1=>?_
 obtain ⟨hr,s2⟩:=bt.1 s1
 subst hr
 refine cQ [0] (lR x fs f a _) s2 rfl fun r h' s3=>?_
 obtain ⟨_,s4⟩:=bt.1 s3
 exact aX rfl s4
theorem sp_slices_Clone (s:Sl) (xs:List Int) (hb:xs.length < 2 ^ 40):Sp prog gF [sv s] cg [vU s xs] (fun r=>aF [vU r xs,vU s xs]):=by
 intro h s0
 refine pY _ ?_
 unfold jM
 refine aY (fun k=>?_) (fun k=>?_)
 ·have hn:xs = []:=by
   obtain ⟨_,⟨e1,e2,e3⟩,_⟩:=dH (i:=0) rfl s0
   rcases e3 with e3 | ⟨b,pre,rest,U,fr,h4,_⟩
   ·exact List.eq_nil_of_length_eq_zero (by omega)
   ·rw [h4] at k; cases k
  subst hn
  exact fN s0
 ·refine fy (τ:=Int) [] (val:=fun x=>.int .u64 x) (enc:=cI .u64) fX (dh _) (fun _=>rfl) s0 rfl rfl (by simp) fun y h' s1=>?_
  refine tH (τ:=Int) (i:=0) (j:=1) (enc:=cI .u64) (xs:=[]) (ys:=xs) fX fX.sl (dh _) (oneI _) s1 rfl rfl (by omega) (by simp; omega) (by simp; omega) fun v h2 s2=>?_
  exact s2
theorem mem_has {ss:List Sl} {fs:List (List Int)} {f a:Int} {r:Ptr} (hr:memAt ss fs f a r):(Mem.has fs f a↔r ≠ none):=by
 unfold memAt at hr
 split at hr
 ·obtain ⟨s,q,_,_,rfl⟩:=hr; simp [*]
 ·simp [*]
theorem mem_row {b:Nat} {s:Sl} {ss:List Sl} {fs:List (List Int)} {i:Nat} (hb:MemOk ss fs) (hi:i < fs.length):∃ sr,ss[i]? = some sr/\(xm b s ss fs)[2 + i]? = some (vU sr fs[i]):=by
 have hn:i < ss.length:=by rw [hb.len]; exact hi
 refine ⟨ss[i],aH hn,?_⟩
 show (blk b lP [sv s]::vec be 1 cS s ss::rows ss fs)[2 + i]? = _
 rw [Nat.add_comm,List.getElem?_cons_succ,List.getElem?_cons_succ]
 exact rows_get ss fs i _ _ (aH hn) (aH hi)
theorem mem_set {b:Nat} {s:Sl} {ss:List Sl} {fs:List (List Int)} {i:Nat} {sr:Sl} {g:List Int} (h1:ss[i]? = some sr):(xm b s ss fs).set (2 + i) (vU sr g) = xm b s ss (fs.set i g):=by
 show (blk b lP [sv s]::vec be 1 cS s ss::rows ss fs).set (2 + i) _ = _
 rw [Nat.add_comm,List.set_cons_succ,List.set_cons_succ,rows_set ss fs _ _ _ h1]; rfl
theorem mem_ok_set {ss:List Sl} {fs:List (List Int)} {i:Nat} {g:List Int} (hb:MemOk ss fs) (hg:g.length = 16):MemOk ss (fs.set i g) :=
 ⟨by simp [hb.len],by simpa using hb.le,fun f hf=>by
  rcases List.mem_or_eq_of_mem_set hf with h4 | h4
  ·exact hb.row _ h4
  ·rw [h4]; exact hg⟩
theorem sp_mem_Zero (x:Ptr) (fs:List (List Int)) (f:Int):Sp prog tg [pv x,.int .i64 f] aC [iq x fs] (fun r=>pa_ (r = (Mem.zero fs f).1) [iq x (Mem.zero fs f).2]):=by
 intro h s0
 obtain ⟨b,s,ss,rfl,hb,hl,st⟩:=mem_op s0
 refine sim_mem_Mem_Zero _ _ ?_
 unfold sh_mem_Mem_Zero
 rw [List.append_nil] at st
 refine cQ (rest:=[]) [] (sp_mem_at b s ss fs hb f 0) st (List.append_nil _).symm fun r h' s1=>?_
 obtain ⟨hr,s2⟩:=bt.1 s1
 rw [List.append_nil] at s2
 have hh:=mem_has hr
 refine aY (fun k=>?_) (fun k=>?_)
 ·have:¬ Mem.has fs f 0:=by rw [hh]; cases r <;> simp_all
  have e:Mem.zero fs f = (false,fs):=if_neg this
  rw [e]
  exact aX rfl (si hb s2)
 ·have hy:Mem.has fs f 0:=by rw [hh]; cases r <;> simp_all
  have e:Mem.zero fs f = (true,fs.set f.toNat (List.replicate 16 0)):=if_pos hy
  rw [e]
  obtain ⟨g1,g2,_⟩:=hy
  obtain ⟨n,rfl⟩:=Int.eq_ofNat_of_zero_le g1
  have hf:n < fs.length:=by omega
  obtain ⟨sr,h1,hrow⟩:=mem_row (b:=b) (s:=s) hb hf
  have hn:n < ss.length:=by rw [hb.len]; exact hf
  refine cD (bk s s2 (i:=0) rfl rfl rfl ?_)
  refine dy s2 (j:=1) rfl (by omega) (by omega) fun q hq=>?_
  refine eB (j:=1) (i:=n) (k:=0) sr rx s2 rfl hq (by simp) h1 (by simp) ?_
  refine clear_v (τ:=Int) (x0:=0) (enc:=cI .u64) fX rfl (dh _) (oneI _) s2 hrow fun h3 s3=>?_
  rw [mem_set h1,hb.row _ (List.getElem_mem hf)] at s3
  exact aX rfl (si (mem_ok_set hb (by simp)) s3)
theorem sp_mem_Frame (x:Ptr) (fs:List (List Int)) (f:Int):Sp prog rm [pv x,.int .i64 f] cg [iq x fs] (fun r=>aF [vU r (Mem.frame fs f),iq x fs]):=by
 intro h s0
 obtain ⟨b,s,ss,rfl,hb,hl,st⟩:=mem_op s0
 refine sim_mem_Mem_Frame _ _ ?_
 unfold vv
 rw [List.append_nil] at st
 refine cQ (rest:=[]) [] (sp_mem_at b s ss fs hb f 0) st (List.append_nil _).symm fun r h' s1=>?_
 obtain ⟨hr,s2⟩:=bt.1 s1
 rw [List.append_nil] at s2
 have hh:=mem_has hr
 refine aY (fun k=>?_) (fun k=>?_)
 ·have:¬ Mem.has fs f 0:=by rw [hh]; cases r <;> simp_all
  have e:Mem.frame fs f = []:=if_neg this
  rw [e]
  exact fN (si hb s2)
 ·have hy:Mem.has fs f 0:=by rw [hh]; cases r <;> simp_all
  have e:Mem.frame fs f = fs.getD f.toNat []:=if_pos hy
  rw [e]
  obtain ⟨g1,g2,_⟩:=hy
  obtain ⟨n,rfl⟩:=Int.eq_ofNat_of_zero_le g1
  have hf:n < fs.length:=by omega
  obtain ⟨sr,h1,hrow⟩:=mem_row (b:=b) (s:=s) hb hf
  have hn:n < ss.length:=by rw [hb.len]; exact hf
  have hlen:=hb.row _ (List.getElem_mem hf)
  refine cD (bk s s2 (i:=0) rfl rfl rfl ?_)
  refine dy s2 (j:=1) rfl (by omega) (by omega) fun q hq=>?_
  refine eB (j:=1) (i:=n) (k:=0) sr rx s2 rfl hq (by simp) h1 (by simp) ?_
  have hp:pick [2 + n] (xm b s ss fs) = [vU sr fs[n]]++(xm b s ss fs).eraseIdx (2 + n):=by
   unfold pick; rw [hrow]; rfl
  refine cQ [2 + n] (sp_slices_Clone sr fs[n] (by omega)) s2 hp fun r2 h3 s3=>?_
  have e2:fs.getD (n:Int).toNat [] = fs[n]:=by simp [hf]
  rw [e2]
  have hlt:=(List.getElem?_eq_some_iff.1 hrow).1
  refine star_tail (dB s3) fun h4 s4=>?_
  have s5:=eq hlt s4
  rw [mem_set h1] at s5
  exact si hb (by simpa using s5)
theorem sp_mem_New (n:Int) (h1:¬ n < 1) (h2:¬ n > 16):Sp prog vO [.int .i64 n] tJ [] (fun r=>aF [iq r (List.replicate n.toNat (List.replicate 16 0))]):=by
 intro h st
 refine sim_mem_New _ ?_
 unfold sh_mem_New
 obtain ⟨m,rfl⟩:=Int.eq_ofNat_of_zero_le (show 0 <= n by omega)
 refine dn (by simp; omega) ?_
 refine pw st fun b h' s1=>?_
 refine Lp.intro (fun (i:Int) h=>∃ (k:Nat) (s:Sl) (ss:List Sl),i = k/\k <= m/\ss.length = k/\aF (xm b s ss (List.replicate k (List.replicate 16 0))) h) (fun (i:Int) _=>m - i.toNat)
  ⟨0,⟨none,0,0,none⟩,[],rfl,Nat.zero_le _,rfl,bd [1] (fN s1) rfl⟩ ?_
 rintro i h ⟨k,s,ss,rfl,hk,hss,s2⟩
 unfold mem_New_l1
 refine aY (fun c=>?_) (fun c=>?_)
 ·have hlt:k < m:=by simpa using c
  have hw:IntKind.i64.wrap ((k:Int) + 1) = ((k + 1:Nat):Int):=by rw [bM (by omega) (by omega)]; rfl
  refine bk s s2 (i:=0) rfl rfl rfl ?_
  refine nS (τ:=Int) (x0:=0) (enc:=cI .u64) (n:=16) fX rfl s2 (by omega) (by omega) fun v h3 s3=>?_
  refine fy (τ:=Sl) [v] (val:=sv) (enc:=cS) uE rx (fun _=>rfl) s3 rfl rfl (by simp) fun y h4 s4=>?_
  refine tH (τ:=Sl) (i:=3) (j:=0) (enc:=cS) (xs:=ss) (ys:=[v]) uE uE.sl rx oneS s4 rfl rfl (by omega) (by simp; omega) (by simp; omega) fun w h5 s5=>?_
  refine uL (i:=2) s5 rfl (Nat.le_refl _) fun h6 s6=>?_
  rw [hw]
  refine ⟨⟨k + 1,w,ss++[v],rfl,hlt,by simp [hss],?_⟩,by simp; omega⟩
  have s7:aF (vU v (List.replicate 16 0)::blk b lP [sv w]::vec be 1 cS w (ss++[v])::rows ss (List.replicate k (List.replicate 16 0))) h6:=ce (l:=[vec be 1 cS y [v]]) s6
  have s8:=bd [1,1] s7 rfl
  unfold xm
  rw [show List.replicate (k + 1) (List.replicate 16 (0:Int)) = List.replicate k (List.replicate 16 0)++[List.replicate 16 0] from by simp [List.replicate_succ'],rows_app _ _ _ _ (by simp [hss])]
  exact kz (.cons _ (.cons _ (List.perm_append_comm (l₁:=[_])))) s8
 ·have:k = m:=by simp at c; omega
  subst this
  exact si ⟨by simp [hss],by simp; omega,fun f hf=>by rw [(List.mem_replicate.1 hf).2]; simp⟩ s2
end
end Go.Proofs.YtemoifebbhoinaaGreatDoor
