/- Part of the proof of: The law PicksAll returns true for every input, and leaves its arguments as they were. -/
import Derived.Test.YtniiiakkdoiaiaaGreatDoorPicksAll01
set_option linter.all false
namespace Go.Proofs.YtniiiakkdoiaiaaGreatDoor
open Go
namespace Mb
section
variable {l:List As} {h:Hp}
theorem get_nat' {α:Type} {xs:List α} {i:Nat} (h:i < xs.length):xs[i]? = some xs[i]:=List.getElem?_eq_some_iff.2 ⟨h,rfl⟩
def ex {α:Type} (A:α→As):As:=fun h=>∃ x,A x h
theorem op_ {α:Type} {φ:α→Prop} {m:α→List As} (s:aP ((fun h=>∃ x,φ x∧aP (m x) h)::l) h):∃ x,φ x∧aP (m x++l) h:=by
  obtain ⟨h1,h2,d,e,⟨x,f,s1⟩,s2⟩:=s
  exact ⟨x,f,eT.2 ⟨h1,h2,d,e,s1,s2⟩⟩
theorem cl_ {α:Type} {φ:α→Prop} {m:α→List As} (x:α) (f:φ x) (s:aP (m x++l) h):aP ((fun h=>∃ x,φ x∧aP (m x) h)::l) h:=by
  obtain ⟨h1,h2,d,e,s1,s2⟩:=eT.1 s
  exact ⟨h1,h2,d,e,⟨x,f,s1⟩,s2⟩
theorem star_cons {A:As} (a:∀ h,A h) (s:aP l h):aP (A::l) h:=⟨emp,h,Dj.emp_left _,rfl,a _,s⟩
theorem fI {τ:Type} {T m:Nat} {enc:τ→List Value} (s:aP l h):aP (vec T m enc (⟨none,0,0,none⟩:Sl) []::l) h :=
  star_cons (fun _=>⟨rfl,Nat.le_refl _,.inl rfl⟩) s
theorem dG {m:List As} (s:aP (aP m::l) h):aP (m++l) h:=by
  obtain ⟨h1,h2,d,e,a,s'⟩:=s
  exact eT.2 ⟨h1,h2,d,e,a,s'⟩
theorem star_tail {A:As} {m:List As} (s:aP (A::l) h) (hm:∀ h,aP l h→aP m h):aP (A::m) h:=by
  obtain ⟨h1,h2,d,e,a,s'⟩:=s
  exact ⟨h1,h2,d,e,a,hm _ s'⟩
theorem bi {φ:Prop} {m:List As} (f:φ) (s:aP m h):pa_ φ m h:=⟨f,s⟩
end
theorem vec_set_row {τ:Type} {T m i:Nat} {enc:τ→List Value} {s:Sl} {xs ys:List τ} {l:List As} {h:Hp} {K:Hp→Prop} {P:Program} (he:∀ x,(enc x).length = m) (ho:∀ x,dM (enc x) = true) (hlen:ys.length = xs.length) (st:aP l h) (hi:l[i]? = some (vec T m enc s xs)) {q:Nat × Nat} (hq:s.a = some q)
    (k:∀ h',aP (l.set i (vec T m enc s ys)) h'→K h'):hp P (storeCells ⟨q.1,q.2,none⟩ (ys.flatMap enc)) (fun _ h=>K h) h:=by
  obtain ⟨g1,g2,d,rfl,⟨e1,e2,e3⟩,s'⟩:=fj hi st
  rcases e3 with h4 | ⟨b,pre,rest,U,fr,h4,h5,hg,h6⟩
  · have hny:ys = []:=List.eq_nil_of_length_eq_zero (by omega)
    have hnx:xs = []:=List.eq_nil_of_length_eq_zero (by omega)
    subst hny; subst hnx
    exact k _ (dQ (List.getElem?_eq_some_iff.1 hi).1 ⟨g1,g2,d,rfl,⟨e1,e2,.inl h4⟩,s'⟩)
  · rw [h4] at hq; cases hq
    have hfx:=dR he xs
    have hfy:=dR he ys
    have hoy:dM (ys.flatMap enc) = true:=by
      unfold dM
      rw [List.all_flatMap,List.all_eq_true]
      exact fun x _=>ho x
    have ew:wr (pre++(xs.flatMap enc++rest)) (pre.length + 0) (ys.flatMap enc) = pre++(ys.flatMap enc++rest):=by
      rw [qi,wr_left _ _ _ _ (by rw [hfx,hfy,hlen,Nat.zero_add]; exact Nat.le_refl _),wr_all (by rw [hfx,hfy,hlen])]
    have hcap:s.len * m ≤ s.cap * m:=Nat.mul_le_mul_right m e2
    have hlm:s.len * m = xs.length * m:=by rw [e1]
    refine lx (T:=U) (fr:=fr) (ys.flatMap enc) 0 pre.length (pre++(xs.flatMap enc++rest)) _ (un_left h6) (fun j j1 j2=>gh_nf hg j (by omega) (by rw [hfy,hlen] at j2; omega)) (by simp [hfx,hfy,hlen]) hoy ?_
    rw [ew]
    obtain ⟨d',e'⟩:=set_dj (o':=.cells (pre++(ys.flatMap enc++rest)).toArray U fr) d h6
    rw [e']
    exact k _ (dQ (List.getElem?_eq_some_iff.1 hi).1 ⟨_,g2,d',rfl,⟨by rw [e1,hlen],e2,.inr ⟨b,pre,rest,U,fr,h4,h5,hg,jz _ _ _⟩⟩,s'⟩)
def encU (_:Unit):Value:=.tuple #[]
theorem clear_v {τ:Type} {S T m bys i R:Nat} {z:List Value} {enc:τ→List Value} {x0:τ} {s:Sl} {xs:List τ} {l:List As} {h:Hp} {K:Unit→Hp→Prop} {P:Program} (E:El P S T m bys z) (hz:enc x0 = z) (he:∀ x,(enc x).length = m) (ho:∀ x,dM (enc x) = true) (st:aP l h) (hi:l[i]? = some (vec T m enc s xs))
    (k:∀ h',aP (l.set i (vec T m enc s (List.replicate xs.length x0))) h'→K () h'):hpv P (Builtin.clear_ #[S] R #[sv s]) encU K h:=by
  refine ⟨?_⟩
  obtain ⟨_,es,_⟩:=dX hi st
  have hilt:=(List.getElem?_eq_some_iff.1 hi).1
  unfold Builtin.clear_
  simp only [List.getElem?_toArray,List.getElem?_cons_zero]
  refine cz (dp E.sl ?_)
  have same:xs = []→aP (l.set i (vec T m enc s (List.replicate xs.length x0))) h:=by
    intro e
    subst e
    have:l.set i (vec T m enc s (List.replicate ([]:List τ).length x0)) = l:=by
      apply List.ext_getElem?
      intro n
      rw [List.getElem?_set]
      by_cases e:i = n
      · subst e; rw [hi]; simp [hilt]
      · simp [e]
    rw [this]; exact st
  cases ha:s.a with
  | none =>
    have hnil:xs = []:=by
      obtain ⟨e1,e2,e3⟩:=es
      rcases e3 with e3 | ⟨b,pre,rest,U,fr,h4,_⟩
      · exact List.eq_nil_of_length_eq_zero (by omega)
      · rw [h4] at ha; cases ha
    simp only [sv,ha,pa]
    exact ⟨(),rfl,k h (same hnil)⟩
  | some q =>
    simp only [sv,ha,pa]
    cases hn:s.len with
    | zero =>
      have hnil:xs = []:=List.eq_nil_of_length_eq_zero (by rw [← es.1]; exact hn)
      exact ⟨(),rfl,k h (same hnil)⟩
    | succ n =>
      obtain ⟨inf,hinf,h1,h2,h3⟩:=E.inf
      cases hzv:inf.zero with
      | none=>rw [hzv] at h3; cases h3
      | some zv =>
        rw [hzv] at h3
        simp only [Option.map_some,Option.some.injEq] at h3
        refine cz (rR hinf hzv ?_)
        refine cz ?_
        have hzc:zv.cells = z.toArray:=by rw [← h3]
        have hrow:(Builtin.zeroCells zv.cells (n + 1)).toList = (List.replicate xs.length x0).flatMap enc:=by
          rw [hzc]; unfold Builtin.zeroCells
          have:=rep_flat z (n + 1)
          simp only [List.size_toArray] at this ⊢
          rw [this,← hz,rep_flat_map,← es.1,hn]
        rw [hrow]
        refine vec_set_row (K:=fun h'=>∃ r,Value.tuple #[] = encU r∧K r h') he ho (by simp) st hi ha fun h' s'=>?_
        exact ⟨(),rfl,k h' s'⟩
theorem oneI (k:IntKind) (x:Int):dM (cI k x) = true:=rfl
theorem oneS (x:Sl):dM (cS x) = true:=rfl
section
variable {τ:Type} {m:Nat} {enc:τ→List Value} {l:List As} {h:Hp}
theorem ld_a {σ:Type} {T j i k:Nat} {b:Nat} {pre rest:List Value} {xs:List τ} {enc':σ→List Value} {K:σ→Hp→Prop} {off:Nat} (y:σ) (he:∀ x,(enc x).length = m) (st:aP l h) (hj:l[j]? = some (blk b T (pre++(xs.flatMap enc++rest)))) (hoff:off = pre.length + i * m + k)
    {x:τ} (hx:xs[i]? = some x) (hy:∀ n v,(enc' y)[n]? = some v→(enc x)[k + n]? = some v) (kk:K y h):ld (b,off) enc' K h:=by
  refine ld_s y st hj (fun n v hn=>?_) kk
  have:=tb he xs i (k + n) x v hx (hy n v hn)
  have hlt:=(List.getElem?_eq_some_iff.1 this).1
  rw [hoff,List.getElem?_append_right (by omega),show pre.length + i * m + k + n - pre.length = i * m + (k + n) from by omega,List.getElem?_append_left hlt]
  exact this
theorem st_a {T j i k:Nat} {b:Nat} {pre rest:List Value} {xs:List τ} {vs:List Value} {K:Hp→Prop} {off:Nat} (y:τ) (he:∀ x,(enc x).length = m) (s0:aP l h) (hj:l[j]? = some (blk b T (pre++(xs.flatMap enc++rest)))) (hoff:off = pre.length + i * m + k)
    {x:τ} (hx:xs[i]? = some x) (hlen:k + vs.length ≤ m) (hy:enc y = wr (enc x) k vs) (kk:∀ h',aP (l.set j (blk b T (pre++((xs.set i y).flatMap enc++rest)))) h'→K h'):st (b,off) vs K h:=by
  have hi:=(List.getElem?_eq_some_iff.1 hx).1
  have hfl:=dR he xs
  have hm:(i + 1) * m ≤ xs.length * m:=Nat.mul_le_mul_right m hi
  rw [Nat.succ_mul] at hm
  refine uq s0 hj (by simp [hoff,hfl]; omega) fun h' s'=>kk h' ?_
  have ew:wr (pre++(xs.flatMap enc++rest)) off vs = pre++((xs.set i y).flatMap enc++rest):=by
    rw [hoff,Nat.add_assoc,qi,wr_left _ _ _ _ (by rw [hfl]; omega),flat_wr he xs i k x y vs hx hlen hy]
  rw [ew] at s'
  exact s'
end
section
variable {P:Program} {l:List As} {h:Hp}
theorem hp_isAgg_ag {T n:Nat} (t:Ag P T n) {K:Bool→Hp→Prop} (k:K true h):hp P (isAgg T) K h:=by
  obtain ⟨D,h1,h2⟩:=t.und
  unfold isAgg
  refine cz (dp h1 ?_)
  cases D <;> first | exact k | cases h2
theorem sV {kd:IntKind} {n:Int} {K:IntKind × Int→Hp→Prop} (k:K (kd,n) h):hp P (asIntOf (.int kd n)) K h:=k
theorem loadAt_v {τ:Type} {T n b off:Nat} {cs:List Value} {enc:τ→Value} {r:τ} {K:τ→Hp→Prop} (t:Ag P T n) (hc:ra h (b,off) cs) (hn:cs.length = n) (hr:enc r = .agg cs.toArray) (k:K r h):hpv P (Instr.loadAt T (.pointer (some ⟨b,off,none⟩))) enc K h:=by
  refine ⟨?_⟩
  obtain ⟨inf,h1,h2⟩:=t.inf
  show hp P (loadVar T ⟨b,off,none⟩) _ h
  unfold loadVar
  refine cz (hp_isAgg_ag t ?_)
  refine hp_yes rfl ?_
  refine cz (nK h1 ?_)
  rw [h2]
  refine cz (hp_loadCells hc hn ?_)
  exact ⟨r,hr.symm,k⟩
theorem index_v {τ:Type} {S T len m i:Nat} {enc:τ→List Value} {val:τ→Value} {xs:List τ} {x:τ} {K:τ→Hp→Prop} (hS:P.underlying S = some (.array len T)) (t:Ag P T m) (he:∀ x,(enc x).length = m) (hv:∀ x,val x = .agg (enc x).toArray) (hl:xs.length = len) (hx:xs[i]? = some x) (k:K x h) :
    hpv P (Instr.index S (.agg (xs.flatMap enc).toArray) (.int .i64 i)) val K h:=by
  refine ⟨?_⟩
  have hi:=(List.getElem?_eq_some_iff.1 hx).1
  obtain ⟨inf,h1,h2⟩:=t.inf
  unfold Instr.index
  refine cz (sV ?_)
  refine cz (dp hS ?_)
  refine hp_yes ⟨by omega,by omega⟩ ?_
  refine cz (nK h1 ?_)
  unfold part
  refine cz (hp_isAgg_ag t ?_)
  refine cz (nK h1 ?_)
  refine ⟨x,?_,k⟩
  rw [hv,h2]
  have:(xs.flatMap enc).toArray.extract ((i:Int).toNat * m) ((i:Int).toNat * m + m) = (enc x).toArray:=by
    apply Array.ext'
    rw [Array.toList_extract]
    simp only [Int.toNat_natCast,List.extract]
    rw [Nat.add_sub_cancel_left]
    apply List.ext_getElem?
    intro n
    rw [List.getElem?_take,List.getElem?_drop]
    by_cases hn:n < m
    · rw [if_pos hn]
      have hlt:n < (enc x).length:=by rw [he]; exact hn
      rw [tb he xs i n x _ hx (get_nat' hlt)]
      exact (get_nat' hlt).symm
    · rw [if_neg hn]
      exact (List.getElem?_eq_none (by rw [he]; omega)).symm
  rw [this]
end
theorem sliceFrom_v {τ:Type} {P:Program} {l:List As} {h:Hp} {S T m bys i:Nat} {z:List Value} {enc:τ→List Value} {R:Sl→Value} {s:Sl} {xs:List τ} {n:Nat} {K:Sl→Hp→Prop} (E:El P S T m bys z) (he:∀ x,(enc x).length = m) (hR:R = sv) (st:aP l h) (hi:l[i]? = some (vec T m enc s xs)) (hn:n ≤ xs.length)
    (k:∀ v,aP (l.set i (vec T m enc v (xs.drop n))) h→K v h):hpv P (Instr.sliceAt S (sv s) (some (.int .i64 n)) none none) R K h:=by
  subst hR
  refine ⟨?_⟩
  have hilt:=(List.getElem?_eq_some_iff.1 hi).1
  obtain ⟨g1,g2,d,rfl,⟨e1,e2,e3⟩,s'⟩:=fj hi st
  obtain ⟨inf,hinf,h1,h2,h3⟩:=E.inf
  unfold Instr.sliceAt
  refine cz (dp E.sl ?_)
  show hp P (Instr.slice S (sv s) _ _ _) _ _
  unfold Instr.slice
  refine cz (dp E.sl ?_)
  simp only [sv]
  refine cz ?_
  unfold Instr.sliceBounds
  refine cz ?_
  refine cz ?_
  refine cz ?_
  unfold Instr.sliceBound
  refine cz (sV ?_)
  refine hp_yes ⟨by omega,by omega⟩ ?_
  refine cz (nK hinf ?_)
  rw [h1]
  rcases e3 with h5 | ⟨b,pre,rest,U,fr,h4,h5,hg,h6⟩
  · have hn0:n = 0:=by omega
    subst hn0
    refine ⟨s,?_,k s ?_⟩
    · simp [sv,h5]
    · exact dQ hilt ⟨g1,g2,d,rfl,⟨by simpa using e1,e2,.inl h5⟩,s'⟩
  · by_cases hc:s.cap = n
    · have hx:xs.drop n = []:=by apply List.drop_eq_nil_of_le; omega
      refine ⟨⟨s.a,s.len - n,s.cap - n,none⟩,?_,k _ (dQ hilt ⟨g1,g2,d,rfl,⟨?_,by show s.len - n ≤ s.cap - n; omega,.inl (by show s.cap - n = 0; omega)⟩,s'⟩)⟩
      · rw [if_pos (by simpa using hc)]; simp [sv]
      · show s.len - n = _; rw [hx]; simp; omega
    · refine ⟨⟨some (b,pre.length + n * m),s.len - n,s.cap - n,s.g.map fun _=>(pre++(xs.take n).flatMap enc,rest,U,fr)⟩,?_,k _ (dQ hilt ⟨g1,g2,d,rfl,⟨?_,by show s.len - n ≤ s.cap - n; omega,.inr ⟨b,pre++(xs.take n).flatMap enc,rest,U,fr,?_,?_,?_,?_⟩⟩,s'⟩)⟩
      · rw [if_neg (by simpa using hc)]; simp [sv,h4,pa,add_plain]
      · show s.len - n = _; simp; omega
      · show some (b,pre.length + n * m) = _
        rw [List.length_append,dR he]; simp; rw [Nat.min_eq_left hn]
      · show (s.cap - n) * m ≤ (s.len - n) * m + rest.length
        rw [Nat.sub_mul,Nat.sub_mul]
        have:n * m ≤ s.len * m:=Nat.mul_le_mul_right m (by omega)
        omega
      · have hpl:(pre++(xs.take n).flatMap enc).length = pre.length + n * m:=by rw [List.length_append,dR he]; simp; rw [Nat.min_eq_left hn]
        unfold gh at hg ⊢
        cases hsg:s.g with
        | none=>rw [hsg] at hg; exact hg
        | some x =>
          rw [hsg] at hg
          refine ⟨rfl,fun j j1 j2=>hg.2 j (by rw [hpl] at j1; omega) ?_⟩
          rw [hpl] at j2
          have j2':j < pre.length + n * m + (s.cap - n) * m:=j2
          have hnc:n ≤ s.cap:=by omega
          have:n * m + (s.cap - n) * m = s.cap * m:=by rw [← Nat.add_mul]; congr 1; omega
          omega
      · have:pre++(xs.take n).flatMap enc++((xs.drop n).flatMap enc++rest) = pre++(xs.flatMap enc++rest):=by
          rw [List.append_assoc,← List.append_assoc ((xs.take n).flatMap enc),← List.flatMap_append,List.take_append_drop]
        rw [this]; exact h6
theorem kr {τ:Type} {P:Program} {l:List As} {h:Hp} {S T m bys i:Nat} {z:List Value} {enc:τ→List Value} {val:τ→Value} {R R':Sl→Value} {s:Sl} {xs:List τ} {x:τ} {K:Sl→Hp→Prop} {Q:Nat} (E:El P S T m bys z) (he:∀ x,(enc x).length = m) (ho:∀ x,dM (enc x) = true) (hv:∀ x,(val x).cells.toList = enc x)
    (hm:m ≤ 2 ^ 24) (hR:R = sv) (hR':R' = sv) (st:aP l h) (hi:l[i]? = some (vec T m enc s xs)) (hb:(2 * (xs.length + 1) + 512) * bys ≤ 2 ^ 48) (hb2:xs.length < 2 ^ 60)
    (k:∀ v h',aP (l.set i (vec T m enc v (xs++[x]))) h'→K v h'):hpv P (Instr.buildSlice S 1 #[(0,val x)]) R (fun y=>hpv P (Builtin.append_ #[S,S] Q #[sv s,sv y]) R' K) h:=by
  subst hR; subst hR'
  refine fu [x] (val:=val) (enc:=enc) E he hv st rfl rfl (by simpa using hm) fun y h' s1=>?_
  refine tn (i:=i + 1) (j:=0) (enc:=enc) (ys:=[x]) E E.sl he ho s1 (by simpa using hi) rfl (by omega) (by simpa using hb) (by simp; omega) fun v h2 s2=>?_
  exact k v h2 (ct (l:=[vec T m enc y [x]]) (by simpa using s2))
theorem c1 {c d:List Value} {u:Value} {k:Nat} (h1:d = [u]) (h2:c[k]? = some u):∀ (n:Nat) (v:Value),d[n]? = some v→c[k + n]? = some v:=by
  intro n v hv
  subst h1
  cases n with
  | zero=>simp at hv; subst hv; exact h2
  | succ n=>simp at hv
theorem aO {α:Type} {xs:List α} {i:Nat} (h:i < xs.length):xs[i]? = some xs[i]:=List.getElem?_eq_some_iff.2 ⟨h,rfl⟩
theorem dk (k:IntKind) (x:Int):(cI k x).length = 1:=rfl
end Mb
end Go.Proofs.YtniiiakkdoiaiaaGreatDoor
namespace Go.Proofs.YtniiiakkdoiaiaaGreatDoor
open Go
namespace Mb
structure Mp (P:Program) (S K E:TypeId) (z:Value):Prop where
  mp:P.underlying S = some (.map K E)
  key:∃ kd,P.underlying K = some (.int kd)
  inf:∃ i,P.info? E = some i∧i.zero = some z
section
variable {τ:Type}
def fi (x:Int):List (Int × τ)→Nat→Option (Nat × τ)
  | [],_=>none
  | p::m,i=>if x = p.1 then some (i,p.2) else fi x m (i + 1)
def ents (val:τ→Value) (es:List MapEntry) (m:List (Int × τ)):Prop:=es.map (fun e=>(e.key,e.val)) = m.map (fun p=>(Value.int .i64 p.1,val p.2))
def mapA (b:Nat) (val:τ→Value) (f:Int→Option τ):As:=fun h=>∃ (es:List MapEntry) (m:List (Int × τ)) (clock:Nat),h b = some (.map es.toArray clock)∧ents val es m∧∀ x,(fi x m 0).map (·.2) = f x
theorem vz (x:Int):∀ (m:List (Int × τ)) (i:Nat),fi x m i = (fi x m 0).map (fun r=>(r.1 + i,r.2))
  | [],_=>rfl
  | p::m,i=>by
    unfold fi
    split
    · simp
    · rw [vz x m (i + 1),vz x m (0 + 1)]
      cases fi x m 0 with
      | none=>rfl
      | some r=>simp; omega
theorem fi_v (x:Int) (m:List (Int × τ)) (i:Nat):(fi x m i).map (·.2) = (fi x m 0).map (·.2):=by
  rw [vz x m i]; cases fi x m 0 <;> rfl
theorem find_now {val:τ→Value} {kd:IntKind} (x:Int):∀ {es:List MapEntry} {m:List (Int × τ)} (i:Nat),ents val es m→Instr.findNow (.int kd) (.int .i64 x) es i = some ((fi x m i).map fun r=>(r.1,val r.2))
  | [],[],_,_=>rfl
  | [],_::_,_,h=>by simp [ents] at h
  | _::_,[],_,h=>by simp [ents] at h
  | e::es,p::m,i,h=>by
    simp only [ents,List.map_cons,List.cons.injEq,Prod.mk.injEq] at h
    obtain ⟨⟨h1,h2⟩,h3⟩:=h
    unfold Instr.findNow fi
    rw [h1,h2]
    by_cases hx:x = p.1
    · subst hx; simp [Instr.sameNow]
    · have:(x == p.1) = false:=by simpa using hx
      simp only [Instr.sameNow,this,if_true,if_neg hx]
      exact find_now x (i + 1) h3
theorem fi_get {x:Int} {v:τ} {i:Nat}:∀ {m:List (Int × τ)},fi x m 0 = some (i,v)→m[i]? = some (x,v)
  | [],h=>by cases h
  | p::m,h=>by
    unfold fi at h
    split at h
    · rename_i hx
      cases h; subst hx; rfl
    · rw [vz] at h
      cases hm:fi x m 0 with
      | none=>rw [hm] at h; cases h
      | some r =>
        rw [hm] at h
        simp only [Option.map_some,Option.some.injEq,Prod.mk.injEq] at h
        obtain ⟨h1,h2⟩:=h
        subst h2; subst h1
        simp only [List.getElem?_cons_succ]
        exact fi_get (m:=m) (by rw [hm])
theorem fi_set {x y:Int} {v w:τ} {i:Nat}:∀ {m:List (Int × τ)},fi x m 0 = some (i,v)→(fi y (m.set i (x,w)) 0).map (·.2) = if y = x then some w else (fi y m 0).map (·.2)
  | [],h=>by cases h
  | p::m,h=>by
    unfold fi at h
    split at h
    · rename_i hx
      cases h; subst hx
      simp only [List.set_cons_zero,fi]
      by_cases hy:y = p.1
      · simp [hy]
      · simp [hy]
    · rename_i hx
      rw [vz] at h
      cases hm:fi x m 0 with
      | none=>rw [hm] at h; cases h
      | some r =>
        rw [hm] at h
        simp only [Option.map_some,Option.some.injEq,Prod.mk.injEq] at h
        obtain ⟨h1,h2⟩:=h
        subst h2; subst h1
        have ih:=fi_set (x:=x) (y:=y) (v:=r.2) (w:=w) (i:=r.1) (m:=m) (by rw [hm])
        simp only [List.set_cons_succ,fi]
        by_cases hy:y = p.1
        · have:y ≠ x:=fun e=>hx (e.symm.trans hy)
          simp [hy]
          intro e; exact absurd e.symm hx
        · rw [if_neg hy,if_neg hy,fi_v y _ (0 + 1),fi_v y m (0 + 1)]
          exact ih
theorem fi_push {x y:Int} {w:τ}:∀ {m:List (Int × τ)},fi x m 0 = none→(fi y (m++[(x,w)]) 0).map (·.2) = if y = x then some w else (fi y m 0).map (·.2)
  | [],_=>by
    simp only [List.nil_append,fi]
    by_cases hy:y = x <;> simp [hy]
  | p::m,h=>by
    unfold fi at h
    split at h
    · cases h
    · rename_i hx
      rw [vz] at h
      have hm:fi x m 0 = none:=by
        cases hm:fi x m 0 with
        | none=>rfl
        | some r=>rw [hm] at h; cases h
      have ih:=fi_push (y:=y) (w:=w) hm
      simp only [List.cons_append,fi]
      by_cases hy:y = p.1
      · have:¬ y = x:=fun e=>hx (e.symm.trans hy)
        simp [hy]
        intro e; exact absurd e.symm hx
      · rw [if_neg hy,if_neg hy,fi_v y _ (0 + 1),fi_v y m (0 + 1)]
        exact ih
theorem ents_set {val:τ→Value} {x:Int} {w:τ} {i:Nat} {es:List MapEntry} {m:List (Int × τ)} (h:ents val es m) (g:MapEntry→MapEntry) (hg:∀ e,es[i]? = some e→(g e).key = .int .i64 x∧(g e).val = val w):ents val (es.toArray.modify i g).toList (m.set i (x,w)):=by
  unfold ents at h ⊢
  apply List.ext_getElem?
  intro j
  have hj:(es.map (fun e=>(e.key,e.val)))[j]? = (m.map (fun p=>(Value.int .i64 p.1,val p.2)))[j]?:=by rw [h]
  simp only [List.getElem?_map] at hj ⊢
  rw [Array.getElem?_toList,Array.getElem?_modify,List.getElem?_set,List.getElem?_toArray]
  by_cases hij:i = j
  · subst hij
    rw [if_pos rfl]
    cases he:es[i]? with
    | none =>
      rw [he] at hj
      have:m[i]? = none:=by cases hm:m[i]? with
        | none=>rfl
        | some p=>rw [hm] at hj; cases hj
      have hlt:¬ i < m.length:=by intro hlt; rw [List.getElem?_eq_getElem hlt] at this; cases this
      simp [hlt]
    | some e =>
      rw [he] at hj
      have hlt:i < m.length:=by
        cases hm:m[i]? with
        | none=>rw [hm] at hj; cases hj
        | some p=>exact (List.getElem?_eq_some_iff.1 hm).1
      obtain ⟨g1,g2⟩:=hg e he
      simp [hlt,g1,g2]
  · rw [if_neg hij,if_neg hij]; exact hj
theorem ents_push {val:τ→Value} {x:Int} {w:τ} {es:List MapEntry} {m:List (Int × τ)} {c:Nat} (h:ents val es m):ents val (es.toArray.push { key:=.int .i64 x,val:=val w,born:=c }).toList (m++[(x,w)]):=by
  unfold ents at h ⊢
  simp [h]
end
section
variable {P:Program} {l:List As} {h:Hp} {τ:Type} {S K E:TypeId} {z:Value} {val:τ→Value}
theorem hp_checkKey {kd k:IntKind} {b:Bool} {x:Int} {Q:Unit→Hp→Prop} (e:P.underlying K = some (.int kd)) (q:Q () h):hp P (Instr.checkKey b 10000 K (.int k x)) Q h:=by
  unfold Instr.checkKey
  refine cz (dp e ?_)
  exact q
theorem hp_findKey {kd:IntKind} {x:Int} {es:List MapEntry} {m:List (Int × τ)} {Q:Option (Nat × Value)→Hp→Prop} (e:P.underlying K = some (.int kd)) (he:ents val es m) (q:Q ((fi x m 0).map fun r=>(r.1,val r.2)) h):hp P (Instr.findKey K (.int .i64 x) es) Q h:=by
  unfold Instr.findKey
  refine cz (dp e ?_)
  rw [find_now x 0 he]
  exact q
theorem hp_getObj {b:Nat} {o:Obj} {Q:Obj→Hp→Prop} (e:h b = some o) (hc:wS o = false) (q:Q o h):hp P (getObj b) Q h:=⟨o,e,hc,q⟩
theorem makeMap_m {R:Option Nat→Value} {Q:Option Nat→Hp→Prop} (hR:R = fun r=>.map r) (st:aP l h) (k:∀ b h',aP (mapA b val (fun _=>none)::l) h'→Q (some b) h'):hpv P (Instr.makeMap S none) R Q h:=by
  subst hR
  refine ⟨?_⟩
  unfold Instr.makeMap
  refine cz ?_
  refine ⟨rfl,fun b hb=>⟨some b,rfl,k b _ ?_⟩⟩
  obtain ⟨h1,h2,d,e,a,s⟩:=new_s (o:=.map #[] 0) st hb
  exact ⟨h1,h2,d,e,⟨[],[],0,a,rfl,fun x=>rfl⟩,s⟩
theorem lookup_m {σ:Type} {j b:Nat} {f:Int→Option τ} {x:Int} {ok:Bool} {R:σ→Value} {Q:σ→Hp→Prop} (M:Mp P S K E z) (st:aP l h) (hj:l[j]? = some (mapA b val f)) (r:σ) (hr:(if ok then .tuple #[((f x).map val).getD z,.bool (f x).isSome] else ((f x).map val).getD z) = R r) (q:Q r h):hpv P (Instr.lookup S (.map (some b)) (.int .i64 x) ok) R Q h:=by
  refine ⟨?_⟩
  obtain ⟨h1,⟨es,m,clock,a,he,hf⟩,sub⟩:=dX hj st
  obtain ⟨kd,hk⟩:=M.key
  obtain ⟨i,hi,hz⟩:=M.inf
  unfold Instr.lookup
  refine cz (dp M.mp ?_)
  refine cz (hp_getObj (sub _ _ a) rfl ?_)
  refine cz ?_
  rw [hp_pure]
  refine cz (hp_checkKey hk ?_)
  refine cz (hp_findKey (val:=val) hk he ?_)
  have hfx:=hf x
  cases hm:fi x m 0 with
  | none =>
    rw [hm] at hfx
    rw [← hfx] at hr
    refine cz (rR hi hz ?_)
    exact ⟨r,hr,q⟩
  | some p =>
    rw [hm] at hfx
    rw [← hfx] at hr
    refine cz ?_
    exact ⟨r,hr,q⟩
theorem update_m {j b:Nat} {f:Int→Option τ} {x:Int} {w:τ} {v:Value} {Q:Hp→Prop} (M:Mp P S K E z) (st:aP l h) (hj:l[j]? = some (mapA b val f)) (hv:v = val w) (k:∀ h',aP (l.set j (mapA b val (fun y=>if y = x then some w else f y))) h'→Q h'):hpu P (Instr.mapUpdate S (.map (some b)) (.int .i64 x) v) Q h:=by
  subst hv
  refine ⟨?_⟩
  obtain ⟨h1,h2,d,rfl,⟨es,m,clock,a,he,hf⟩,s'⟩:=fj hj st
  have hjl:=(List.getElem?_eq_some_iff.1 hj).1
  obtain ⟨kd,hk⟩:=M.key
  unfold Instr.mapUpdate
  refine cz (dp M.mp ?_)
  refine cz (hp_getObj (un_left a) rfl ?_)
  refine cz (hp_checkKey hk ?_)
  refine cz (hp_findKey (val:=val) hk he ?_)
  cases hm:fi x m 0 with
  | none =>
    refine ⟨rfl,⟨_,un_left a,rfl⟩,?_⟩
    obtain ⟨d',e'⟩:=set_dj (o':=.map (es.toArray.push { key:=.int .i64 x,val:=val w,born:=clock }) (clock + 1)) d a
    rw [e']
    refine k _ (dQ hjl ⟨_,h2,d',rfl,⟨_,m++[(x,w)],clock + 1,?_,ents_push (c:=clock) he,fun y=>?_⟩,s'⟩)
    · exact jz _ _ _
    · rw [fi_push hm,hf]
  | some p =>
    obtain ⟨i,u⟩:=p
    have hg:=fi_get hm
    have hge:∃ e,es[i]? = some e∧e.key = .int .i64 x:=by
      have hi:(es.map (fun e=>(e.key,e.val)))[i]? = (m.map (fun p=>(Value.int .i64 p.1,val p.2)))[i]?:=by rw [he]
      simp only [List.getElem?_map,hg,Option.map_some] at hi
      cases hs:es[i]? with
      | none=>rw [hs] at hi; cases hi
      | some e=>rw [hs] at hi; simp at hi; exact ⟨e,rfl,hi.1⟩
    obtain ⟨e,hge,hkey⟩:=hge
    refine cz ?_
    have hks:Instr.keyThatStays (((es.toArray[i]?).map (·.key)).getD (.int .i64 x)) (.int .i64 x) = pure (.int .i64 x):=by
      unfold Instr.keyThatStays
      have:((es.toArray[i]?).map (·.key)).getD (.int .i64 x) = .int .i64 x:=by simp [hge,hkey]
      rw [this]
      have sb:Instr.sameBits 10000 (.int .i64 x) (.int .i64 x) = true:=by unfold Instr.sameBits; simp
      rw [if_pos sb]
    simp only [Option.map_some]
    rw [hks,hp_pure]
    refine ⟨rfl,⟨_,un_left a,rfl⟩,?_⟩
    obtain ⟨d',e'⟩:=set_dj (o':=.map (es.toArray.modify i fun e=>{ e with key:=.int .i64 x,val:=val w }) clock) d a
    rw [e']
    refine k _ (dQ hjl ⟨_,h2,d',rfl,⟨_,m.set i (x,w),clock,?_,ents_set (x:=x) (w:=w) he (fun e=>{ e with key:=.int .i64 x,val:=val w }) (fun e' _=>⟨rfl,rfl⟩),fun y=>?_⟩,s'⟩)
    · exact jz _ _ _
    · rw [fi_set hm,hf]
end
end Mb
end Go.Proofs.YtniiiakkdoiaiaaGreatDoor
namespace Go.Proofs.YtniiiakkdoiaiaaGreatDoor
open Go Mb
set_option linter.unusedVariables false
structure ap where
  e0:Int
  e1:Int
  e2:Int
  e3:Int
  e4:Int
def ap.C (x:ap):List Value:=[.int .u64 x.e0,.int .u64 x.e1,.int .u64 x.e2,.int .u64 x.e3,.int .u64 x.e4]
structure bH where
  fKind:Int
  fCore:Int
  fEnv:Int
  fCall:ap
  fSet:Int
  fWay:Int
def bH.C (x:bH):List Value:=[.int .i64 x.fKind,.int .i64 x.fCore,.int .i64 x.fEnv,.int .u64 x.fCall.e0,.int .u64 x.fCall.e1,.int .u64 x.fCall.e2,.int .u64 x.fCall.e3,.int .u64 x.fCall.e4,.int .i64 x.fSet,.int .i64 x.fWay]
structure al where
  fErr:Int
  fVal:Int
def al.C (x:al):List Value:=[.int .i64 x.fErr,.int .u64 x.fVal]
structure au where
  fEnv:Int
  fPage:Int
  fFrame:Int
  fRights:Int
def au.C (x:au):List Value:=[.int .i64 x.fEnv,.int .i64 x.fPage,.int .i64 x.fFrame,.int .i64 x.fRights]
structure aM where
  fCore:Int
  fEnv:Int
  fCall:ap
  fBegin:Int
  fEffect:Int
  fEnd:Int
  fAnswer:al
  fLine:au
def aM.C (x:aM):List Value:=[.int .i64 x.fCore,.int .i64 x.fEnv,.int .u64 x.fCall.e0,.int .u64 x.fCall.e1,.int .u64 x.fCall.e2,.int .u64 x.fCall.e3,.int .u64 x.fCall.e4,.int .i64 x.fBegin,.int .i64 x.fEffect,.int .i64 x.fEnd,.int .i64 x.fAnswer.fErr,.int .u64 x.fAnswer.fVal,.int .i64 x.fLine.fEnv,.int .i64 x.fLine.fPage,.int .i64 x.fLine.fFrame,.int .i64 x.fLine.fRights]
structure aH where
  fCores:Int
  fEnvs:Int
  fFrames:Int
def aH.C (x:aH):List Value:=[.int .i64 x.fCores,.int .i64 x.fEnvs,.int .i64 x.fFrames]
structure sk where
  fl:Sl
def sk.C (x:sk):List Value:=[sv x.fl]
structure nP where
  frefs:Sl
def nP.C (x:nP):List Value:=[sv x.frefs]
structure nS where
  fl:Sl
def nS.C (x:nS):List Value:=[sv x.fl]
structure gc where
  fs:aH
  fm:Ptr
  ftables:Sl
  fpool:Ptr
  fcaps:Ptr
def gc.C (x:gc):List Value:=[.int .i64 x.fs.fCores,.int .i64 x.fs.fEnvs,.int .i64 x.fs.fFrames,pv x.fm,sv x.ftables,pv x.fpool,pv x.fcaps]
structure nQ where
  fl:Sl
def nQ.C (x:nQ):List Value:=[sv x.fl]
structure jC where
  fowner:Sl
  fheard:Sl
def jC.C (x:jC):List Value:=[sv x.fowner,sv x.fheard]
structure fE where
  fp:Ptr
  fenvs:Int
  ftlbs:Sl
  fboxes:Ptr
  fepochs:Ptr
  fcalls:Sl
  fevents:Sl
  fnow:Int
def fE.C (x:fE):List Value:=[pv x.fp,.int .i64 x.fenvs,sv x.ftlbs,pv x.fboxes,pv x.fepochs,sv x.fcalls,sv x.fevents,.int .i64 x.fnow]
structure lD where
  fat:Int
  fenv:Int
  fc:ap
  ftold:Bool
  fepoch:Int
def lD.C (x:lD):List Value:=[.int .i64 x.fat,.int .i64 x.fenv,.int .u64 x.fc.e0,.int .u64 x.fc.e1,.int .u64 x.fc.e2,.int .u64 x.fc.e3,.int .u64 x.fc.e4,.bool x.ftold,.int .u64 x.fepoch]
structure ar where
  fFrame:Int
  fSlot:Int
  fRights:Int
def ar.C (x:ar):List Value:=[.int .i64 x.fFrame,.int .i64 x.fSlot,.int .i64 x.fRights]
structure aG where
  fFrame:Int
  fRights:Int
  fEnv:Int
  fSlot:Int
def aG.C (x:aG):List Value:=[.int .i64 x.fFrame,.int .i64 x.fRights,.int .i64 x.fEnv,.int .i64 x.fSlot]
structure cu where
  fl:au
  fwhen:Int
def cu.C (x:cu):List Value:=[.int .i64 x.fl.fEnv,.int .i64 x.fl.fPage,.int .i64 x.fl.fFrame,.int .i64 x.fl.fRights,.int .i64 x.fwhen]
structure iW where
  e0:cu
  e1:cu
def iW.C (x:iW):List Value:=[.int .i64 x.e0.fl.fEnv,.int .i64 x.e0.fl.fPage,.int .i64 x.e0.fl.fFrame,.int .i64 x.e0.fl.fRights,.int .i64 x.e0.fwhen,.int .i64 x.e1.fl.fEnv,.int .i64 x.e1.fl.fPage,.int .i64 x.e1.fl.fFrame,.int .i64 x.e1.fl.fRights,.int .i64 x.e1.fwhen]
structure aR where
  fEnv:Int
  fSlot:Int
def aR.C (x:aR):List Value:=[.int .i64 x.fEnv,.int .i64 x.fSlot]
structure kv where
  fes:Sl
  fs:aH
  fk:Ptr
def kv.C (x:kv):List Value:=[sv x.fes,.int .i64 x.fs.fCores,.int .i64 x.fs.fEnvs,.int .i64 x.fs.fFrames,pv x.fk]
structure ck where
  fCode:Int
  fEnv:Int
  fCall:ap
  fErr:Value
def ck.C (x:ck):List Value:=[.int .i64 x.fCode,.int .i64 x.fEnv,.int .u64 x.fCall.e0,.int .u64 x.fCall.e1,.int .u64 x.fCall.e2,.int .u64 x.fCall.e3,.int .u64 x.fCall.e4,x.fErr]
structure aT where
  ftyp_:Ptr
  fptr:Ptr
  fflag:Int
def aT.C (x:aT):List Value:=[pv x.ftyp_,pv x.fptr,.int .u64 x.fflag]
structure nR where
  fv:Int
  fn:Int
def nR.C (x:nR):List Value:=[.int .u64 x.fv,.int .i64 x.fn]
structure ku where
  fdrawn:Ptr
  fpassed:Ptr
def ku.C (x:ku):List Value:=[pv x.fdrawn,pv x.fpassed]
def gY (r:Sl):Value:=(sv r)
abbrev kS:Nat:=23
abbrev dL:Nat:=41
def cJ (r:Sl):Value:=(sv r)
theorem iu:Slc Tryz.prog 41 3 1:=⟨Tryz.underlying41,bS (by kernel_rfl)⟩
theorem build_29_0_1 (y0:Int) (y1:Int):∀ w,(Instr.build 29 #[(0,(.int .i64 y0)),(1,(.int .i64 y1))]).run Tryz.prog w = .ok (.agg (bH.C (⟨y0,y1,0,(⟨0,0,0,0,0⟩:ap),0,0⟩:bH)).toArray) w:=fun _=>by kernel_rfl
theorem bj:Sc Tryz.prog 3:=⟨⟨_,Tryz.underlying3,rfl⟩,bS (by kernel_rfl)⟩
abbrev uB:Nat:=11
def dO (r:Int):Value:=(.int .i64 r)
theorem slc_23:Slc Tryz.prog 23 29 10:=⟨Tryz.underlying23,bS (by kernel_rfl)⟩
theorem zero_29:∃ i,Tryz.prog.info? 29 = some i∧i.zero = some (.agg (bH.C (⟨0,0,0,(⟨0,0,0,0,0⟩:ap),0,0⟩:bH)).toArray):=kF (by kernel_rfl)
theorem vt:Fld Tryz.prog 29 0 0:=cg (m:=1) Tryz.underlying29 rfl rfl (by kernel_rfl) (by decide)
theorem vr:Fld Tryz.prog 29 1 1:=cg (m:=1) Tryz.underlying29 rfl rfl (by kernel_rfl) (by decide)
theorem inf_29:∃ i,Tryz.prog.info? 29 = some i∧i.size = 10:=bS (by kernel_rfl)
theorem ag_29:Ag Tryz.prog 29 10:=⟨⟨_,Tryz.underlying29,rfl⟩,bS (by kernel_rfl)⟩
abbrev lu:Nat:=13
def aK (r:Bool):Value:=(.bool r)
theorem en_13:aU Tryz.prog 13:=⟨_,Tryz.func13,by decide,rfl⟩
abbrev uc:Nat:=12
theorem ta:Fld Tryz.prog 51 0 0:=cg (m:=1) Tryz.underlying51 rfl rfl (by kernel_rfl) (by decide)
theorem kj:Fld Tryz.prog 35 0 0:=cg (m:=1) Tryz.underlying35 rfl rfl (by kernel_rfl) (by decide)
theorem oL:Fld Tryz.prog 51 1 1:=cg (m:=1) Tryz.underlying51 rfl rfl (by kernel_rfl) (by decide)
theorem ki:Fld Tryz.prog 35 1 1:=cg (m:=1) Tryz.underlying35 rfl rfl (by kernel_rfl) (by decide)
theorem sZ:Fld Tryz.prog 51 3 7:=cg (m:=1) Tryz.underlying51 rfl rfl (by kernel_rfl) (by decide)
theorem iV:Fld Tryz.prog 51 4 8:=cg (m:=1) Tryz.underlying51 rfl rfl (by kernel_rfl) (by decide)
theorem qJ:Fld Tryz.prog 51 5 9:=cg (m:=1) Tryz.underlying51 rfl rfl (by kernel_rfl) (by decide)
abbrev n_hist_one:Nat:=52
abbrev jo:Nat:=86
def R_map_int_bool (r:(Option Nat)):Value:=(.map r)
abbrev gR:Nat:=87
def R_map_int_int (r:(Option Nat)):Value:=(.map r)
theorem sw:Slc Tryz.prog 39 51 16:=⟨Tryz.underlying39,bS (by kernel_rfl)⟩
theorem zero_51:∃ i,Tryz.prog.info? 51 = some i∧i.zero = some (.agg (aM.C (⟨0,0,(⟨0,0,0,0,0⟩:ap),0,0,0,(⟨0,0⟩:al),(⟨0,0,0,0⟩:au)⟩:aM)).toArray):=kF (by kernel_rfl)
theorem ag_51:Ag Tryz.prog 51 16:=⟨⟨_,Tryz.underlying51,rfl⟩,bS (by kernel_rfl)⟩
theorem pw:Ag Tryz.prog 35 3:=⟨⟨_,Tryz.underlying35,rfl⟩,bS (by kernel_rfl)⟩
def bW (r:Int × Bool):Value:=.tuple #[(.int .i64 r.1),(.bool r.2)]
theorem cy:Tryz.prog.follows .mixedOrders = true:=by kernel_rfl
theorem en_52:aU Tryz.prog 52:=⟨_,Tryz.func52,by decide,rfl⟩
theorem inf_51:∃ i,Tryz.prog.info? 51 = some i∧i.size = 16:=bS (by kernel_rfl)
abbrev wM:Nat:=19
abbrev qc:Nat:=53
abbrev mV:Nat:=56
def R_ (_:Unit):Value:=.tuple #[]
theorem qG:∃ i,Tryz.prog.info? 3 = some i∧i.size = 1:=bS (by kernel_rfl)
abbrev cj:Nat:=135
abbrev jZ:Nat:=136
theorem en_136:aU Tryz.prog 136:=⟨_,Tryz.func136,by decide,rfl⟩
theorem en_135:aU Tryz.prog 135:=⟨_,Tryz.func135,by decide,rfl⟩
abbrev lf:Nat:=88
theorem en_88:aU Tryz.prog 88:=⟨_,Tryz.func88,by decide,rfl⟩
abbrev fG:Nat:=57
abbrev n_cmp_isNaN_int:Nat:=89
theorem en_89:aU Tryz.prog 89:=⟨_,Tryz.func89,by decide,rfl⟩
abbrev ug:Nat:=59
theorem en_59:aU Tryz.prog 59:=⟨_,Tryz.func59,by decide,rfl⟩
theorem sc_39:Sc Tryz.prog 39:=⟨⟨_,Tryz.underlying39,rfl⟩,bS (by kernel_rfl)⟩
abbrev qY:Nat:=58
theorem en_57:aU Tryz.prog 57:=⟨_,Tryz.func57,by decide,rfl⟩
theorem en_53:aU Tryz.prog 53:=⟨_,Tryz.func53,by decide,rfl⟩
abbrev eM:Nat:=39
abbrev oH:Nat:=26
def tt (r:Ptr):Value:=(pv r)
theorem build_181  : ∀ w,(Instr.build 181 #[]).run Tryz.prog w = .ok (.agg (sk.C (⟨(⟨none,0,0,none⟩:Sl)⟩:sk)).toArray) w:=fun _=>by kernel_rfl
theorem si:Fld Tryz.prog 181 0 0:=cg (m:=1) Tryz.underlying181 rfl rfl (by kernel_rfl) (by decide)
abbrev bq:Nat:=80
def cn (r:Sl):Value:=(sv r)
abbrev pF:Nat:=135
def R_SSuint64 (r:Sl):Value:=(sv r)
theorem inf_135:∃ i,Tryz.prog.info? 135 = some i∧i.size = 1:=bS (by kernel_rfl)
theorem kU:Sc Tryz.prog 135:=⟨⟨_,Tryz.underlying135,rfl⟩,bS (by kernel_rfl)⟩
abbrev lF:Nat:=181
abbrev vn:Nat:=90
def rY (r:Ptr):Value:=(pv r)
theorem build_183_0 (y0:Sl):∀ w,(Instr.build 183 #[(0,(sv y0))]).run Tryz.prog w = .ok (.agg (nP.C (⟨y0⟩:nP)).toArray) w:=fun _=>by kernel_rfl
abbrev ql:Nat:=183
abbrev wL:Nat:=91
def rZ (r:Ptr):Value:=(pv r)
abbrev t_S_8_api_Cap:Nat:=184
def R_S_8_api_Cap (r:Sl):Value:=(sv r)
theorem build_186_0 (y0:Sl):∀ w,(Instr.build 186 #[(0,(sv y0))]).run Tryz.prog w = .ok (.agg (nS.C (⟨y0⟩:nS)).toArray) w:=fun _=>by kernel_rfl
abbrev nu:Nat:=186
abbrev wN:Nat:=92
def il (r:Ptr):Value:=(pv r)
abbrev kl:Nat:=189
abbrev lc:Nat:=93
def dP (r:Ptr):Value:=(pv r)
theorem vq:Fld Tryz.prog 35 2 2:=cg (m:=1) Tryz.underlying35 rfl rfl (by kernel_rfl) (by decide)
theorem build_132_0_1_3_4 (y0:aH) (y1:Ptr) (y3:Ptr) (y4:Ptr):∀ w,(Instr.build 132 #[(0,(.agg (aH.C y0).toArray)),(1,(pv y1)),(3,(pv y3)),(4,(pv y4))]).run Tryz.prog w = .ok (.agg (gc.C (⟨y0,y1,(⟨none,0,0,none⟩:Sl),y3,y4⟩:gc)).toArray) w:=fun _=>by kernel_rfl
theorem eY:Fld Tryz.prog 132 2 4:=cg (m:=1) Tryz.underlying132 rfl rfl (by kernel_rfl) (by decide)
abbrev eN:Nat:=130
def mW (r:Sl):Value:=(sv r)
theorem inf_130:∃ i,Tryz.prog.info? 130 = some i∧i.size = 1:=bS (by kernel_rfl)
theorem en_93:aU Tryz.prog 93:=⟨_,Tryz.func93,by decide,rfl⟩
theorem mi:Sc Tryz.prog 130:=⟨⟨_,Tryz.underlying130,rfl⟩,bS (by kernel_rfl)⟩
abbrev cG:Nat:=132
theorem en_92:aU Tryz.prog 92:=⟨_,Tryz.func92,by decide,rfl⟩
theorem en_91:aU Tryz.prog 91:=⟨_,Tryz.func91,by decide,rfl⟩
theorem en_90:aU Tryz.prog 90:=⟨_,Tryz.func90,by decide,rfl⟩
abbrev nE:Nat:=60
def oO (r:Ptr):Value:=(pv r)
theorem build_137_0 (y0:Sl):∀ w,(Instr.build 137 #[(0,(sv y0))]).run Tryz.prog w = .ok (.agg (nQ.C (⟨y0⟩:nQ)).toArray) w:=fun _=>by kernel_rfl
abbrev kR:Nat:=137
abbrev sR:Nat:=61
def iD (r:Ptr):Value:=(pv r)
theorem build_139_1 (y1:Sl):∀ w,(Instr.build 139 #[(1,(sv y1))]).run Tryz.prog w = .ok (.agg (jC.C (⟨(⟨none,0,0,none⟩:Sl),y1⟩:jC)).toArray) w:=fun _=>by kernel_rfl
abbrev hO:Nat:=139
abbrev nH:Nat:=62
def R_api_Line (r:au):Value:=(.agg (au.C r).toArray)
theorem kG:∃ i,Tryz.prog.info? 49 = some i∧i.zero = some (.agg (au.C (⟨0,0,0,0⟩:au)).toArray):=kF (by kernel_rfl)
theorem build_49_0 (y0:Int):∀ w,(Instr.build 49 #[(0,(.int .i64 y0))]).run Tryz.prog w = .ok (.agg (au.C (⟨y0,0,0,0⟩:au)).toArray) w:=fun _=>by kernel_rfl
theorem gX:Ag Tryz.prog 49 4:=⟨⟨_,Tryz.underlying49,rfl⟩,bS (by kernel_rfl)⟩
theorem fH:∃ i,Tryz.prog.info? 49 = some i∧i.size = 4:=bS (by kernel_rfl)
abbrev n_tlb_empty:Nat:=117
theorem fld_145_0:Fld Tryz.prog 145 0 0:=cg (m:=40) Tryz.underlying145 rfl rfl (by kernel_rfl) (by decide)
theorem arr_143:Arr Tryz.prog 143 4 142 10:=⟨Tryz.underlying143,bS (by kernel_rfl)⟩
theorem arr_142:Arr Tryz.prog 142 2 141 5:=⟨Tryz.underlying142,bS (by kernel_rfl)⟩
theorem pS:Fld Tryz.prog 141 0 0:=cg (m:=4) Tryz.underlying141 rfl rfl (by kernel_rfl) (by decide)
theorem en_117:aU Tryz.prog 117:=⟨_,Tryz.func117,by decide,rfl⟩
abbrev qV:Nat:=94
def gx (r:Ptr):Value:=(pv r)
abbrev pD:Nat:=145
theorem en_94:aU Tryz.prog 94:=⟨_,Tryz.func94,by decide,rfl⟩
abbrev iz:Nat:=63
def xi (r:Ptr):Value:=(pv r)
abbrev mH:Nat:=99
def qh (r:Sl):Value:=(sv r)
theorem mz (y0:Ptr) (y1:Int) (y3:Ptr) (y4:Ptr) (y5:Sl):∀ w,(Instr.build 102 #[(0,(pv y0)),(1,(.int .i64 y1)),(3,(pv y3)),(4,(pv y4)),(5,(sv y5))]).run Tryz.prog w = .ok (.agg (fE.C (⟨y0,y1,(⟨none,0,0,none⟩:Sl),y3,y4,y5,(⟨none,0,0,none⟩:Sl),0⟩:fE)).toArray) w:=fun _=>by kernel_rfl
theorem iB:Fld Tryz.prog 102 2 2:=cg (m:=1) Tryz.underlying102 rfl rfl (by kernel_rfl) (by decide)
abbrev cd:Nat:=100
def dS (r:Sl):Value:=(sv r)
theorem inf_100:∃ i,Tryz.prog.info? 100 = some i∧i.size = 1:=bS (by kernel_rfl)
theorem en_63:aU Tryz.prog 63:=⟨_,Tryz.func63,by decide,rfl⟩
theorem wE:Sc Tryz.prog 100:=⟨⟨_,Tryz.underlying100,rfl⟩,bS (by kernel_rfl)⟩
abbrev cr:Nat:=102
theorem en_62:aU Tryz.prog 62:=⟨_,Tryz.func62,by decide,rfl⟩
theorem en_61:aU Tryz.prog 61:=⟨_,Tryz.func61,by decide,rfl⟩
theorem en_60:aU Tryz.prog 60:=⟨_,Tryz.func60,by decide,rfl⟩
abbrev n_kern_New:Nat:=28
def eP (r:Sl):Value:=(sv r)
abbrev eR:Nat:=79
theorem vx:Fld Tryz.prog 102 6 6:=cg (m:=1) Tryz.underlying102 rfl rfl (by kernel_rfl) (by decide)
theorem en_79:aU Tryz.prog 79:=⟨_,Tryz.func79,by decide,rfl⟩
abbrev ic:Nat:=37
theorem pT:Fld Tryz.prog 102 5 5:=cg (m:=1) Tryz.underlying102 rfl rfl (by kernel_rfl) (by decide)
theorem sc_99:Sc Tryz.prog 99:=⟨⟨_,Tryz.underlying99,rfl⟩,bS (by kernel_rfl)⟩
abbrev ju:Nat:=74
theorem slc_99:Slc Tryz.prog 99 105 1:=⟨Tryz.underlying99,bS (by kernel_rfl)⟩
theorem sc_105:Sc Tryz.prog 105:=⟨⟨_,Tryz.underlying105,rfl⟩,bS (by kernel_rfl)⟩
theorem en_74:aU Tryz.prog 74:=⟨_,Tryz.func74,by decide,rfl⟩
abbrev fN:Nat:=34
theorem fld_102_1:Fld Tryz.prog 102 1 1:=cg (m:=1) Tryz.underlying102 rfl rfl (by kernel_rfl) (by decide)
theorem lY:Fld Tryz.prog 102 7 7:=cg (m:=1) Tryz.underlying102 rfl rfl (by kernel_rfl) (by decide)
theorem fw:Ag Tryz.prog 27 5:=⟨⟨_,Tryz.underlying27,rfl⟩,bS (by kernel_rfl)⟩
theorem build_51_0_1_2_3 (y0:Int) (y1:Int) (y2:ap) (y3:Int):∀ w,(Instr.build 51 #[(0,(.int .i64 y0)),(1,(.int .i64 y1)),(2,(.agg (ap.C y2).toArray)),(3,(.int .i64 y3))]).run Tryz.prog w = .ok (.agg (aM.C (⟨y0,y1,y2,y3,0,0,(⟨0,0⟩:al),(⟨0,0,0,0⟩:au)⟩:aM)).toArray) w:=fun _=>by kernel_rfl
theorem build_108_0_1_2 (y0:Int) (y1:Int) (y2:ap):∀ w,(Instr.build 108 #[(0,(.int .i64 y0)),(1,(.int .i64 y1)),(2,(.agg (ap.C y2).toArray))]).run Tryz.prog w = .ok (.agg (lD.C (⟨y0,y1,y2,false,0⟩:lD)).toArray) w:=fun _=>by kernel_rfl
theorem inf_105:∃ i,Tryz.prog.info? 105 = some i∧i.size = 1:=bS (by kernel_rfl)
abbrev cX:Nat:=108
theorem inf_39:∃ i,Tryz.prog.info? 39 = some i∧i.size = 1:=bS (by kernel_rfl)
theorem en_34:aU Tryz.prog 34:=⟨_,Tryz.func34,by decide,rfl⟩
abbrev oE:Nat:=33
theorem di:Arr Tryz.prog 27 5 25 1:=⟨Tryz.underlying27,bS (by kernel_rfl)⟩
theorem cE:Sc Tryz.prog 25:=⟨⟨_,Tryz.underlying25,rfl⟩,bS (by kernel_rfl)⟩
abbrev n_word_Kind:Nat:=64
abbrev n_word_User:Nat:=65
abbrev rM:Nat:=137
def ap.get (x:ap) (i:Int):Int:=match i.toNat with | 0=>x.e0 | 1=>x.e1 | 2=>x.e2 | 3=>x.e3 | 4=>x.e4 | _=>x.e4
theorem at_27 (x:ap) (i:Int) (h:0 ≤ i∧i < 5):(ap.C x)[0 + i.toNat * 1]? = some (.int .u64 (ap.get x i)):=by
  obtain ⟨n,rfl⟩:=Int.eq_ofNat_of_zero_le h.1
  have h2:n < 5:=by omega
  rcases n with _ | (_ | (_ | (_ | (_ | _)))) <;> first | rfl | omega
abbrev mY:Nat:=144
abbrev n_word_Rights:Nat:=176
theorem en_144:aU Tryz.prog 144:=⟨_,Tryz.func144,by decide,rfl⟩
theorem en_176:aU Tryz.prog 176:=⟨_,Tryz.func176,by decide,rfl⟩
abbrev n_word_fits:Nat:=138
def bv (r:Int):Value:=(.int .i64 r)
theorem en_138:aU Tryz.prog 138:=⟨_,Tryz.func138,by decide,rfl⟩
theorem en_137:aU Tryz.prog 137:=⟨_,Tryz.func137,by decide,rfl⟩
theorem en_64:aU Tryz.prog 64:=⟨_,Tryz.func64,by decide,rfl⟩
abbrev gM:Nat:=95
theorem vw:Fld Tryz.prog 132 0 0:=cg (m:=3) Tryz.underlying132 rfl rfl (by kernel_rfl) (by decide)
abbrev jS:Nat:=107
abbrev n_table_is:Nat:=140
def cH (r:ar × Bool):Value:=.tuple #[(.agg (ar.C r.1).toArray),(.bool r.2)]
theorem fT:∃ i,Tryz.prog.info? 74 = some i∧i.zero = some (.agg (ar.C (⟨0,0,0⟩:ar)).toArray):=kF (by kernel_rfl)
theorem mO  : ∀ w,(Instr.build 74 #[]).run Tryz.prog w = .ok (.agg (ar.C (⟨0,0,0⟩:ar)).toArray) w:=fun _=>by kernel_rfl
theorem fD:Ag Tryz.prog 74 3:=⟨⟨_,Tryz.underlying74,rfl⟩,bS (by kernel_rfl)⟩
theorem dV:∃ i,Tryz.prog.info? 74 = some i∧i.size = 3:=bS (by kernel_rfl)
theorem kq:Fld Tryz.prog 189 0 0:=cg (m:=24) Tryz.underlying189 rfl rfl (by kernel_rfl) (by decide)
theorem rX:Arr Tryz.prog 187 8 74 3:=⟨Tryz.underlying187,bS (by kernel_rfl)⟩
theorem eK:Fld Tryz.prog 74 2 2:=cg (m:=1) Tryz.underlying74 rfl rfl (by kernel_rfl) (by decide)
theorem en_140:aU Tryz.prog 140:=⟨_,Tryz.func140,by decide,rfl⟩
abbrev eU:Nat:=119
theorem mQ:Slc Tryz.prog 130 133 1:=⟨Tryz.underlying130,bS (by kernel_rfl)⟩
theorem en_119:aU Tryz.prog 119:=⟨_,Tryz.func119,by decide,rfl⟩
theorem qT:Sc Tryz.prog 133:=⟨⟨_,Tryz.underlying133,rfl⟩,bS (by kernel_rfl)⟩
theorem en_107:aU Tryz.prog 107:=⟨_,Tryz.func107,by decide,rfl⟩
abbrev fM:Nat:=81
theorem gZ:Fld Tryz.prog 186 0 0:=cg (m:=1) Tryz.underlying186 rfl rfl (by kernel_rfl) (by decide)
theorem pI:Sc Tryz.prog 184:=⟨⟨_,Tryz.underlying184,rfl⟩,bS (by kernel_rfl)⟩
abbrev ie:Nat:=162
def cU (r:aG × Bool):Value:=.tuple #[(.agg (aG.C r.1).toArray),(.bool r.2)]
theorem im:∃ i,Tryz.prog.info? 70 = some i∧i.zero = some (.agg (aG.C (⟨0,0,0,0⟩:aG)).toArray):=kF (by kernel_rfl)
theorem build_70  : ∀ w,(Instr.build 70 #[]).run Tryz.prog w = .ok (.agg (aG.C (⟨0,0,0,0⟩:aG)).toArray) w:=fun _=>by kernel_rfl
theorem ag_70:Ag Tryz.prog 70 4:=⟨⟨_,Tryz.underlying70,rfl⟩,bS (by kernel_rfl)⟩
theorem gw:∃ i,Tryz.prog.info? 70 = some i∧i.size = 4:=bS (by kernel_rfl)
theorem oa:Slc Tryz.prog 184 210 32:=⟨Tryz.underlying184,bS (by kernel_rfl)⟩
theorem qg:Arr Tryz.prog 210 8 70 4:=⟨Tryz.underlying210,bS (by kernel_rfl)⟩
theorem gF:Fld Tryz.prog 70 1 1:=cg (m:=1) Tryz.underlying70 rfl rfl (by kernel_rfl) (by decide)
theorem en_162:aU Tryz.prog 162:=⟨_,Tryz.func162,by decide,rfl⟩
abbrev eA:Nat:=118
theorem fy:Fld Tryz.prog 132 4 6:=cg (m:=1) Tryz.underlying132 rfl rfl (by kernel_rfl) (by decide)
theorem tf:aU Tryz.prog 118:=⟨_,Tryz.func118,by decide,rfl⟩
theorem hY:Sc Tryz.prog 128:=⟨⟨_,Tryz.underlying128,rfl⟩,bS (by kernel_rfl)⟩
abbrev ia:Nat:=80
abbrev n_pte_May:Nat:=150
theorem en_150:aU Tryz.prog 150:=⟨_,Tryz.func150,by decide,rfl⟩
abbrev n_pte_Within:Nat:=101
theorem eZ:Fld Tryz.prog 108 2 2:=cg (m:=5) Tryz.underlying108 rfl rfl (by kernel_rfl) (by decide)
theorem nO:Fld Tryz.prog 102 0 0:=cg (m:=1) Tryz.underlying102 rfl rfl (by kernel_rfl) (by decide)
theorem qI:Fld Tryz.prog 70 2 2:=cg (m:=1) Tryz.underlying70 rfl rfl (by kernel_rfl) (by decide)
theorem fld_70_3:Fld Tryz.prog 70 3 3:=cg (m:=1) Tryz.underlying70 rfl rfl (by kernel_rfl) (by decide)
theorem en_80:aU Tryz.prog 80:=⟨_,Tryz.func80,by decide,rfl⟩
theorem vh:Sc Tryz.prog 93:=⟨⟨_,Tryz.underlying93,rfl⟩,bS (by kernel_rfl)⟩
abbrev fK:Nat:=70
theorem sj:Fld Tryz.prog 108 1 1:=cg (m:=1) Tryz.underlying108 rfl rfl (by kernel_rfl) (by decide)
abbrev pL:Nat:=149
def vO (r:ar):Value:=(.agg (ar.C r).toArray)
theorem sX:Fld Tryz.prog 74 1 1:=cg (m:=1) Tryz.underlying74 rfl rfl (by kernel_rfl) (by decide)
theorem mw:aU Tryz.prog 101:=⟨_,Tryz.func101,by decide,rfl⟩
theorem en_149:aU Tryz.prog 149:=⟨_,Tryz.func149,by decide,rfl⟩
abbrev lR:Nat:=100
theorem en_100:aU Tryz.prog 100:=⟨_,Tryz.func100,by decide,rfl⟩
theorem fld_108_3:Fld Tryz.prog 108 3 7:=cg (m:=1) Tryz.underlying108 rfl rfl (by kernel_rfl) (by decide)
theorem sc_4:Sc Tryz.prog 4:=⟨⟨_,Tryz.underlying4,rfl⟩,bS (by kernel_rfl)⟩
theorem en_81:aU Tryz.prog 81:=⟨_,Tryz.func81,by decide,rfl⟩
abbrev lQ:Nat:=96
def bT (r:Int × Bool):Value:=.tuple #[(.int .u64 r.1),(.bool r.2)]
def ar.eqb (x y:ar):Bool:=((x.fFrame == y.fFrame) && ((x.fSlot == y.fSlot) && ((x.fRights == y.fRights) && true)))
theorem eqr_74 (n:Nat) (x y:ar):EqR Tryz.prog (n + 2) 74 (.agg (ar.C x).toArray) (.agg (ar.C y).toArray) (ar.eqb x y):=xe Tryz.underlying74 (by kernel_rfl) (lA (by decide) (gU bj rfl) (gU bj rfl) (jk (n:=n + 0) Tryz.underlying3) (lA (by decide) (gU bj rfl) (gU bj rfl) (jk (n:=n + 0) Tryz.underlying3) (lA (by decide) (gU bj rfl) (gU bj rfl) (jk (n:=n + 0) Tryz.underlying3) eqf_nil)))
theorem eqg_74:Tryz.prog.eqGuardType Tryz.prog.depth 74 = false:=by kernel_rfl
theorem qH:Fld Tryz.prog 74 0 0:=cg (m:=1) Tryz.underlying74 rfl rfl (by kernel_rfl) (by decide)
abbrev n_pte_Put:Nat:=139
theorem en_139:aU Tryz.prog 139:=⟨_,Tryz.func139,by decide,rfl⟩
abbrev eu:Nat:=97
def jK (r:Ptr):Value:=(pv r)
theorem kg:Fld Tryz.prog 49 0 0:=cg (m:=1) Tryz.underlying49 rfl rfl (by kernel_rfl) (by decide)
theorem mN:Fld Tryz.prog 49 1 1:=cg (m:=1) Tryz.underlying49 rfl rfl (by kernel_rfl) (by decide)
abbrev oA:Nat:=151
theorem en_151:aU Tryz.prog 151:=⟨_,Tryz.func151,by decide,rfl⟩
abbrev mS:Nat:=102
def fF (r:au × Bool):Value:=.tuple #[(.agg (au.C r.1).toArray),(.bool r.2)]
theorem lC  : ∀ w,(Instr.build 49 #[]).run Tryz.prog w = .ok (.agg (au.C (⟨0,0,0,0⟩:au)).toArray) w:=fun _=>by kernel_rfl
abbrev oB:Nat:=141
abbrev n_pte_Lets:Nat:=142
theorem fld_141_1:Fld Tryz.prog 141 1 4:=cg (m:=1) Tryz.underlying141 rfl rfl (by kernel_rfl) (by decide)
abbrev sO:Nat:=177
theorem ly:Fld Tryz.prog 49 2 2:=cg (m:=1) Tryz.underlying49 rfl rfl (by kernel_rfl) (by decide)
theorem qK:Fld Tryz.prog 49 3 3:=cg (m:=1) Tryz.underlying49 rfl rfl (by kernel_rfl) (by decide)
theorem fld_145_1:Fld Tryz.prog 145 1 40:=cg (m:=1) Tryz.underlying145 rfl rfl (by kernel_rfl) (by decide)
theorem build_141_0_1 (y0:au) (y1:Int):∀ w,(Instr.build 141 #[(0,(.agg (au.C y0).toArray)),(1,(.int .i64 y1))]).run Tryz.prog w = .ok (.agg (cu.C (⟨y0,y1⟩:cu)).toArray) w:=fun _=>by kernel_rfl
theorem inf_141:∃ i,Tryz.prog.info? 141 = some i∧i.size = 5:=bS (by kernel_rfl)
theorem en_177:aU Tryz.prog 177:=⟨_,Tryz.func177,by decide,rfl⟩
abbrev oC:Nat:=143
theorem en_102:aU Tryz.prog 102:=⟨_,Tryz.func102,by decide,rfl⟩
theorem vJ (y0:Int) (y1:Int) (y2:Int) (y3:Int):∀ w,(Instr.build 49 #[(0,(.int .i64 y0)),(1,(.int .i64 y1)),(2,(.int .i64 y2)),(3,(.int .i64 y3))]).run Tryz.prog w = .ok (.agg (au.C (⟨y0,y1,y2,y3⟩:au)).toArray) w:=fun _=>by kernel_rfl
theorem en_143:aU Tryz.prog 143:=⟨_,Tryz.func143,by decide,rfl⟩
theorem en_142:aU Tryz.prog 142:=⟨_,Tryz.func142,by decide,rfl⟩
theorem en_141:aU Tryz.prog 141:=⟨_,Tryz.func141,by decide,rfl⟩
abbrev tZ:Nat:=98
abbrev vo:Nat:=188
def sm (r:Ptr):Value:=(pv r)
theorem lH:Slc Tryz.prog 135 80 1:=⟨Tryz.underlying135,bS (by kernel_rfl)⟩
theorem wg:Slc Tryz.prog 80 25 1:=⟨Tryz.underlying80,bS (by kernel_rfl)⟩
theorem sc_80:Sc Tryz.prog 80:=⟨⟨_,Tryz.underlying80,rfl⟩,bS (by kernel_rfl)⟩
theorem en_188:aU Tryz.prog 188:=⟨_,Tryz.func188,by decide,rfl⟩
abbrev lO:Nat:=165
theorem en_165:aU Tryz.prog 165:=⟨_,Tryz.func165,by decide,rfl⟩
abbrev ib:Nat:=145
theorem inf_25:∃ i,Tryz.prog.info? 25 = some i∧i.size = 1:=bS (by kernel_rfl)
abbrev fB:Nat:=146
theorem en_146:aU Tryz.prog 146:=⟨_,Tryz.func146,by decide,rfl⟩
theorem en_145:aU Tryz.prog 145:=⟨_,Tryz.func145,by decide,rfl⟩
abbrev qa:Nat:=147
abbrev qb:Nat:=148
def bz (r:al × Bool):Value:=.tuple #[(.agg (al.C r.1).toArray),(.bool r.2)]
theorem dh:∃ i,Tryz.prog.info? 47 = some i∧i.zero = some (.agg (al.C (⟨0,0⟩:al)).toArray):=kF (by kernel_rfl)
theorem tj  : ∀ w,(Instr.build 47 #[]).run Tryz.prog w = .ok (.agg (al.C (⟨0,0⟩:al)).toArray) w:=fun _=>by kernel_rfl
theorem cL:Ag Tryz.prog 47 2:=⟨⟨_,Tryz.underlying47,rfl⟩,bS (by kernel_rfl)⟩
theorem bX:∃ i,Tryz.prog.info? 47 = some i∧i.size = 2:=bS (by kernel_rfl)
theorem jW (y1:Int):∀ w,(Instr.build 47 #[(1,(.int .u64 y1))]).run Tryz.prog w = .ok (.agg (al.C (⟨0,y1⟩:al)).toArray) w:=fun _=>by kernel_rfl
theorem lX:Fld Tryz.prog 132 1 3:=cg (m:=1) Tryz.underlying132 rfl rfl (by kernel_rfl) (by decide)
theorem wD:Sc Tryz.prog 124:=⟨⟨_,Tryz.underlying124,rfl⟩,bS (by kernel_rfl)⟩
theorem en_147:aU Tryz.prog 147:=⟨_,Tryz.func147,by decide,rfl⟩
theorem en_148:aU Tryz.prog 148:=⟨_,Tryz.func148,by decide,rfl⟩
theorem en_65:aU Tryz.prog 65:=⟨_,Tryz.func65,by decide,rfl⟩
abbrev eV:Nat:=99
def eI (r:al × au):Value:=.tuple #[(.agg (al.C r.1).toArray),(.agg (au.C r.2).toArray)]
theorem jf (y0:Int):∀ w,(Instr.build 47 #[(0,(.int .i64 y0))]).run Tryz.prog w = .ok (.agg (al.C (⟨y0,0⟩:al)).toArray) w:=fun _=>by kernel_rfl
theorem slc_100:Slc Tryz.prog 100 103 1:=⟨Tryz.underlying100,bS (by kernel_rfl)⟩
theorem en_99:aU Tryz.prog 99:=⟨_,Tryz.func99,by decide,rfl⟩
theorem en_98:aU Tryz.prog 98:=⟨_,Tryz.func98,by decide,rfl⟩
theorem sc_103:Sc Tryz.prog 103:=⟨⟨_,Tryz.underlying103,rfl⟩,bS (by kernel_rfl)⟩
theorem en_97:aU Tryz.prog 97:=⟨_,Tryz.func97,by decide,rfl⟩
theorem en_96:aU Tryz.prog 96:=⟨_,Tryz.func96,by decide,rfl⟩
theorem en_95:aU Tryz.prog 95:=⟨_,Tryz.func95,by decide,rfl⟩
abbrev ng:Nat:=66
theorem fld_108_0:Fld Tryz.prog 108 0 0:=cg (m:=1) Tryz.underlying108 rfl rfl (by kernel_rfl) (by decide)
theorem ke:Fld Tryz.prog 51 6 10:=cg (m:=2) Tryz.underlying51 rfl rfl (by kernel_rfl) (by decide)
theorem gb:Fld Tryz.prog 51 7 12:=cg (m:=4) Tryz.underlying51 rfl rfl (by kernel_rfl) (by decide)
abbrev lS:Nat:=67
abbrev oD:Nat:=68
def qN (r:Sl):Value:=(sv r)
abbrev t_2_tlb_line:Nat:=142
def R_tlb_line (r:cu):Value:=(.agg (cu.C r).toArray)
theorem zero_141:∃ i,Tryz.prog.info? 141 = some i∧i.zero = some (.agg (cu.C (⟨(⟨0,0,0,0⟩:au),0⟩:cu)).toArray):=kF (by kernel_rfl)
abbrev qo:Nat:=60
theorem ag_142:Ag Tryz.prog 142 10:=⟨⟨_,Tryz.underlying142,rfl⟩,bS (by kernel_rfl)⟩
abbrev qU:Nat:=77
theorem slc_60:Slc Tryz.prog 60 49 4:=⟨Tryz.underlying60,bS (by kernel_rfl)⟩
theorem en_77:aU Tryz.prog 77:=⟨_,Tryz.func77,by decide,rfl⟩
abbrev kL:Nat:=69
theorem fld_139_1:Fld Tryz.prog 139 1 1:=cg (m:=1) Tryz.underlying139 rfl rfl (by kernel_rfl) (by decide)
abbrev kM:Nat:=103
def gH (r:Int):Value:=(.int .u64 r)
theorem fld_139_0:Fld Tryz.prog 139 0 0:=cg (m:=1) Tryz.underlying139 rfl rfl (by kernel_rfl) (by decide)
theorem sc_41:Sc Tryz.prog 41:=⟨⟨_,Tryz.underlying41,rfl⟩,bS (by kernel_rfl)⟩
abbrev fO:Nat:=104
theorem en_104:aU Tryz.prog 104:=⟨_,Tryz.func104,by decide,rfl⟩
theorem inf_41:∃ i,Tryz.prog.info? 41 = some i∧i.size = 1:=bS (by kernel_rfl)
theorem en_103:aU Tryz.prog 103:=⟨_,Tryz.func103,by decide,rfl⟩
abbrev iP:Nat:=70
theorem lW:Fld Tryz.prog 137 0 0:=cg (m:=1) Tryz.underlying137 rfl rfl (by kernel_rfl) (by decide)
abbrev lp:Nat:=123
abbrev sT:Nat:=200
theorem en_200:aU Tryz.prog 200:=⟨_,Tryz.func200,by decide,rfl⟩
abbrev uf:Nat:=178
abbrev pu:Nat:=179
theorem en_178:aU Tryz.prog 178:=⟨_,Tryz.func178,by decide,rfl⟩
theorem en_179:aU Tryz.prog 179:=⟨_,Tryz.func179,by decide,rfl⟩
abbrev eJ:Nat:=152
abbrev rN:Nat:=181
abbrev kH:Nat:=3
abbrev uz:Nat:=180
theorem en_181:aU Tryz.prog 181:=⟨_,Tryz.func181,by decide,rfl⟩
abbrev dF:Nat:=153
theorem inf_80:∃ i,Tryz.prog.info? 80 = some i∧i.size = 1:=bS (by kernel_rfl)
theorem en_153:aU Tryz.prog 153:=⟨_,Tryz.func153,by decide,rfl⟩
theorem en_152:aU Tryz.prog 152:=⟨_,Tryz.func152,by decide,rfl⟩
theorem en_123:aU Tryz.prog 123:=⟨_,Tryz.func123,by decide,rfl⟩
abbrev pK:Nat:=105
theorem en_105:aU Tryz.prog 105:=⟨_,Tryz.func105,by decide,rfl⟩
abbrev mU:Nat:=71
abbrev iO:Nat:=106
theorem en_106:aU Tryz.prog 106:=⟨_,Tryz.func106,by decide,rfl⟩
abbrev jj:Nat:=72
abbrev n_plain_fails:Nat:=108
theorem build_70_0_1_2 (y0:Int) (y1:Int) (y2:Int):∀ w,(Instr.build 70 #[(0,(.int .i64 y0)),(1,(.int .i64 y1)),(2,(.int .i64 y2))]).run Tryz.prog w = .ok (.agg (aG.C (⟨y0,y1,y2,0⟩:aG)).toArray) w:=fun _=>by kernel_rfl
abbrev jw:Nat:=126
abbrev jQ:Nat:=182
theorem nM:Fld Tryz.prog 183 0 0:=cg (m:=1) Tryz.underlying183 rfl rfl (by kernel_rfl) (by decide)
theorem en_182:aU Tryz.prog 182:=⟨_,Tryz.func182,by decide,rfl⟩
abbrev js:Nat:=154
abbrev t_none:Nat:=0
abbrev sQ:Nat:=155
theorem nN:Fld Tryz.prog 132 3 5:=cg (m:=1) Tryz.underlying132 rfl rfl (by kernel_rfl) (by decide)
theorem en_126:aU Tryz.prog 126:=⟨_,Tryz.func126,by decide,rfl⟩
theorem en_155:aU Tryz.prog 155:=⟨_,Tryz.func155,by decide,rfl⟩
theorem en_154:aU Tryz.prog 154:=⟨_,Tryz.func154,by decide,rfl⟩
theorem sc_126:Sc Tryz.prog 126:=⟨⟨_,Tryz.underlying126,rfl⟩,bS (by kernel_rfl)⟩
abbrev lh:Nat:=109
theorem sY:Fld Tryz.prog 70 0 0:=cg (m:=1) Tryz.underlying70 rfl rfl (by kernel_rfl) (by decide)
theorem build_70_0_1_2_3 (y0:Int) (y1:Int) (y2:Int) (y3:Int):∀ w,(Instr.build 70 #[(0,(.int .i64 y0)),(1,(.int .i64 y1)),(2,(.int .i64 y2)),(3,(.int .i64 y3))]).run Tryz.prog w = .ok (.agg (aG.C (⟨y0,y1,y2,y3⟩:aG)).toArray) w:=fun _=>by kernel_rfl
abbrev ig:Nat:=127
abbrev jt:Nat:=183
theorem en_183:aU Tryz.prog 183:=⟨_,Tryz.func183,by decide,rfl⟩
abbrev lM:Nat:=156
def cZ (r:Sl):Value:=(sv r)
abbrev kT:Nat:=210
def R_api_Cap (r:aG):Value:=(.agg (aG.C r).toArray)
theorem uG (y0:Int) (y1:Int):∀ w,(Instr.build 208 #[(0,(.int .i64 y0)),(1,(.int .i64 y1))]).run Tryz.prog w = .ok (.agg (aR.C (⟨y0,y1⟩:aR)).toArray) w:=fun _=>by kernel_rfl
theorem zero_208:∃ i,Tryz.prog.info? 208 = some i∧i.zero = some (.agg (aR.C (⟨0,0⟩:aR)).toArray):=kF (by kernel_rfl)
theorem ag_208:Ag Tryz.prog 208 2:=⟨⟨_,Tryz.underlying208,rfl⟩,bS (by kernel_rfl)⟩
abbrev gS:Nat:=173
theorem inf_208:∃ i,Tryz.prog.info? 208 = some i∧i.size = 2:=bS (by kernel_rfl)
abbrev ka:Nat:=170
abbrev lU:Nat:=184
theorem slc_173:Slc Tryz.prog 173 208 2:=⟨Tryz.underlying173,bS (by kernel_rfl)⟩
theorem fld_208_0:Fld Tryz.prog 208 0 0:=cg (m:=1) Tryz.underlying208 rfl rfl (by kernel_rfl) (by decide)
theorem fld_208_1:Fld Tryz.prog 208 1 1:=cg (m:=1) Tryz.underlying208 rfl rfl (by kernel_rfl) (by decide)
abbrev gC:Nat:=185
abbrev kN:Nat:=172
def aR.eqb (x y:aR):Bool:=((x.fEnv == y.fEnv) && ((x.fSlot == y.fSlot) && true))
theorem eqr_208 (n:Nat) (x y:aR):EqR Tryz.prog (n + 2) 208 (.agg (aR.C x).toArray) (.agg (aR.C y).toArray) (aR.eqb x y):=xe Tryz.underlying208 (by kernel_rfl) (lA (by decide) (gU bj rfl) (gU bj rfl) (jk (n:=n + 0) Tryz.underlying3) (lA (by decide) (gU bj rfl) (gU bj rfl) (jk (n:=n + 0) Tryz.underlying3) eqf_nil))
theorem eqg_208:Tryz.prog.eqGuardType Tryz.prog.depth 208 = false:=by kernel_rfl
theorem en_172:aU Tryz.prog 172:=⟨_,Tryz.func172,by decide,rfl⟩
abbrev gD:Nat:=186
def dA (r:Sl × Int):Value:=.tuple #[(sv r.1),(.int .i64 r.2)]
theorem en_185:aU Tryz.prog 185:=⟨_,Tryz.func185,by decide,rfl⟩
theorem en_170:aU Tryz.prog 170:=⟨_,Tryz.func170,by decide,rfl⟩
abbrev rF:Nat:=208
theorem en_184:aU Tryz.prog 184:=⟨_,Tryz.func184,by decide,rfl⟩
abbrev rG:Nat:=128
abbrev lV:Nat:=157
theorem en_157:aU Tryz.prog 157:=⟨_,Tryz.func157,by decide,rfl⟩
theorem en_156:aU Tryz.prog 156:=⟨_,Tryz.func156,by decide,rfl⟩
theorem en_127:aU Tryz.prog 127:=⟨_,Tryz.func127,by decide,rfl⟩
abbrev io:Nat:=110
def jm (r:ar × Int):Value:=.tuple #[(.agg (ar.C r.1).toArray),(.int .i64 r.2)]
abbrev iN:Nat:=113
abbrev lv:Nat:=171
abbrev kO:Nat:=131
theorem en_131:aU Tryz.prog 131:=⟨_,Tryz.func131,by decide,rfl⟩
abbrev ni:Nat:=158
abbrev tz:Nat:=187
abbrev lL:Nat:=159
abbrev mT:Nat:=160
def gQ (r:al):Value:=(.agg (al.C r).toArray)
theorem en_113:aU Tryz.prog 113:=⟨_,Tryz.func113,by decide,rfl⟩
theorem en_160:aU Tryz.prog 160:=⟨_,Tryz.func160,by decide,rfl⟩
theorem en_159:aU Tryz.prog 159:=⟨_,Tryz.func159,by decide,rfl⟩
theorem en_158:aU Tryz.prog 158:=⟨_,Tryz.func158,by decide,rfl⟩
abbrev kx:Nat:=111
theorem oN (y0:Int) (y1:Int) (y2:Int):∀ w,(Instr.build 74 #[(0,(.int .i64 y0)),(1,(.int .i64 y1)),(2,(.int .i64 y2))]).run Tryz.prog w = .ok (.agg (ar.C (⟨y0,y1,y2⟩:ar)).toArray) w:=fun _=>by kernel_rfl
abbrev mq:Nat:=112
abbrev kw:Nat:=161
theorem en_161:aU Tryz.prog 161:=⟨_,Tryz.func161,by decide,rfl⟩
abbrev jR:Nat:=114
abbrev n_pred_Holds:Nat:=132
theorem rc:aU Tryz.prog 108:=⟨_,Tryz.func108,by decide,rfl⟩
theorem en_132:aU Tryz.prog 132:=⟨_,Tryz.func132,by decide,rfl⟩
abbrev lg:Nat:=115
abbrev mj:Nat:=116
theorem en_111:aU Tryz.prog 111:=⟨_,Tryz.func111,by decide,rfl⟩
theorem en_109:aU Tryz.prog 109:=⟨_,Tryz.func109,by decide,rfl⟩
theorem en_110:aU Tryz.prog 110:=⟨_,Tryz.func110,by decide,rfl⟩
theorem en_112:aU Tryz.prog 112:=⟨_,Tryz.func112,by decide,rfl⟩
theorem en_114:aU Tryz.prog 114:=⟨_,Tryz.func114,by decide,rfl⟩
theorem en_115:aU Tryz.prog 115:=⟨_,Tryz.func115,by decide,rfl⟩
theorem en_116:aU Tryz.prog 116:=⟨_,Tryz.func116,by decide,rfl⟩
abbrev dD:Nat:=73
theorem en_67:aU Tryz.prog 67:=⟨_,Tryz.func67,by decide,rfl⟩
theorem en_66:aU Tryz.prog 66:=⟨_,Tryz.func66,by decide,rfl⟩
theorem fld_102_4:Fld Tryz.prog 102 4 4:=cg (m:=1) Tryz.underlying102 rfl rfl (by kernel_rfl) (by decide)
theorem fld_108_4:Fld Tryz.prog 108 4 8:=cg (m:=1) Tryz.underlying108 rfl rfl (by kernel_rfl) (by decide)
theorem fld_102_3:Fld Tryz.prog 102 3 3:=cg (m:=1) Tryz.underlying102 rfl rfl (by kernel_rfl) (by decide)
theorem en_71:aU Tryz.prog 71:=⟨_,Tryz.func71,by decide,rfl⟩
theorem sc_95:Sc Tryz.prog 95:=⟨⟨_,Tryz.underlying95,rfl⟩,bS (by kernel_rfl)⟩
theorem en_70:aU Tryz.prog 70:=⟨_,Tryz.func70,by decide,rfl⟩
theorem sc_97:Sc Tryz.prog 97:=⟨⟨_,Tryz.underlying97,rfl⟩,bS (by kernel_rfl)⟩
theorem en_69:aU Tryz.prog 69:=⟨_,Tryz.func69,by decide,rfl⟩
theorem inf_4:∃ i,Tryz.prog.info? 4 = some i∧i.size = 1:=bS (by kernel_rfl)
theorem en_73:aU Tryz.prog 73:=⟨_,Tryz.func73,by decide,rfl⟩
theorem en_72:aU Tryz.prog 72:=⟨_,Tryz.func72,by decide,rfl⟩
theorem en_68:aU Tryz.prog 68:=⟨_,Tryz.func68,by decide,rfl⟩
abbrev pM:Nat:=30
abbrev kK:Nat:=83
theorem en_83:aU Tryz.prog 83:=⟨_,Tryz.func83,by decide,rfl⟩
abbrev lP:Nat:=75
abbrev jU:Nat:=76
theorem en_76:aU Tryz.prog 76:=⟨_,Tryz.func76,by decide,rfl⟩
theorem en_75:aU Tryz.prog 75:=⟨_,Tryz.func75,by decide,rfl⟩
abbrev pN:Nat:=31
abbrev pO:Nat:=45
theorem en_30:aU Tryz.prog 30:=⟨_,Tryz.func30,by decide,rfl⟩
theorem en_31:aU Tryz.prog 31:=⟨_,Tryz.func31,by decide,rfl⟩
theorem en_45:aU Tryz.prog 45:=⟨_,Tryz.func45,by decide,rfl⟩
abbrev gN:Nat:=39
theorem en_37:aU Tryz.prog 37:=⟨_,Tryz.func37,by decide,rfl⟩
theorem en_39:aU Tryz.prog 39:=⟨_,Tryz.func39,by decide,rfl⟩
theorem en_33:aU Tryz.prog 33:=⟨_,Tryz.func33,by decide,rfl⟩
abbrev eG:Nat:=38
theorem mM:Fld Tryz.prog 51 2 2:=cg (m:=5) Tryz.underlying51 rfl rfl (by kernel_rfl) (by decide)
abbrev n_judge_user:Nat:=120
abbrev sS:Nat:=54
abbrev n_hist_Over:Nat:=21
abbrev gt:Nat:=166
theorem en_166:aU Tryz.prog 166:=⟨_,Tryz.func166,by decide,rfl⟩
abbrev qW:Nat:=124
abbrev mo:Nat:=187
theorem en_124:aU Tryz.prog 124:=⟨_,Tryz.func124,by decide,rfl⟩
theorem en_187:aU Tryz.prog 187:=⟨_,Tryz.func187,by decide,rfl⟩
abbrev gB:Nat:=164
def pY (r:Sl):Value:=(sv r)
theorem vv:Fld Tryz.prog 168 2 4:=cg (m:=1) Tryz.underlying168 rfl rfl (by kernel_rfl) (by decide)
abbrev pE:Nat:=211
theorem fld_168_0:Fld Tryz.prog 168 0 0:=cg (m:=1) Tryz.underlying168 rfl rfl (by kernel_rfl) (by decide)
theorem en_164:aU Tryz.prog 164:=⟨_,Tryz.func164,by decide,rfl⟩
theorem en_21:aU Tryz.prog 21:=⟨_,Tryz.func21,by decide,rfl⟩
abbrev lq:Nat:=163
theorem fld_168_1:Fld Tryz.prog 168 1 1:=cg (m:=3) Tryz.underlying168 rfl rfl (by kernel_rfl) (by decide)
def al.eqb (x y:al):Bool:=((x.fErr == y.fErr) && ((x.fVal == y.fVal) && true))
theorem ov:Sc Tryz.prog 45:=⟨⟨_,Tryz.underlying45,rfl⟩,bS (by kernel_rfl)⟩
theorem eqr_47 (n:Nat) (x y:al):EqR Tryz.prog (n + 2) 47 (.agg (al.C x).toArray) (.agg (al.C y).toArray) (al.eqb x y):=xe Tryz.underlying47 (by kernel_rfl) (lA (by decide) (gU ov rfl) (gU ov rfl) (jk (n:=n + 0) Tryz.underlying45) (lA (by decide) (gU cE rfl) (gU cE rfl) (jk (n:=n + 0) Tryz.underlying25) eqf_nil))
theorem eqg_47:Tryz.prog.eqGuardType Tryz.prog.depth 47 = false:=by kernel_rfl
def au.eqb (x y:au):Bool:=((x.fEnv == y.fEnv) && ((x.fPage == y.fPage) && ((x.fFrame == y.fFrame) && ((x.fRights == y.fRights) && true))))
theorem eqr_49 (n:Nat) (x y:au):EqR Tryz.prog (n + 2) 49 (.agg (au.C x).toArray) (.agg (au.C y).toArray) (au.eqb x y):=xe Tryz.underlying49 (by kernel_rfl) (lA (by decide) (gU bj rfl) (gU bj rfl) (jk (n:=n + 0) Tryz.underlying3) (lA (by decide) (gU bj rfl) (gU bj rfl) (jk (n:=n + 0) Tryz.underlying3) (lA (by decide) (gU bj rfl) (gU bj rfl) (jk (n:=n + 0) Tryz.underlying3) (lA (by decide) (gU bj rfl) (gU bj rfl) (jk (n:=n + 0) Tryz.underlying3) eqf_nil))))
theorem eqg_49:Tryz.prog.eqGuardType Tryz.prog.depth 49 = false:=by kernel_rfl
theorem slc_211:Slc Tryz.prog 211 74 3:=⟨Tryz.underlying211,bS (by kernel_rfl)⟩
theorem kh:Fld Tryz.prog 47 0 0:=cg (m:=1) Tryz.underlying47 rfl rfl (by kernel_rfl) (by decide)
theorem fld_47_1:Fld Tryz.prog 47 1 1:=cg (m:=1) Tryz.underlying47 rfl rfl (by kernel_rfl) (by decide)
theorem en_163:aU Tryz.prog 163:=⟨_,Tryz.func163,by decide,rfl⟩
abbrev lr:Nat:=121
abbrev nh:Nat:=122
theorem build_168_0_1_2 (y0:Sl) (y1:aH) (y2:Ptr):∀ w,(Instr.build 168 #[(0,(sv y0)),(1,(.agg (aH.C y1).toArray)),(2,(pv y2))]).run Tryz.prog w = .ok (.agg (kv.C (⟨y0,y1,y2⟩:kv)).toArray) w:=fun _=>by kernel_rfl
theorem en_122:aU Tryz.prog 122:=⟨_,Tryz.func122,by decide,rfl⟩
theorem en_121:aU Tryz.prog 121:=⟨_,Tryz.func121,by decide,rfl⟩
theorem en_120:aU Tryz.prog 120:=⟨_,Tryz.func120,by decide,rfl⟩
theorem en_26:aU Tryz.prog 26:=⟨_,Tryz.func26,by decide,rfl⟩
abbrev dn:Nat:=168
theorem en_19:aU Tryz.prog 19:=⟨_,Tryz.func19,by decide,rfl⟩
abbrev ub:Nat:=82
theorem en_82:aU Tryz.prog 82:=⟨_,Tryz.func82,by decide,rfl⟩
abbrev oF:Nat:=44
abbrev oG:Nat:=49
theorem en_49:aU Tryz.prog 49:=⟨_,Tryz.func49,by decide,rfl⟩
theorem en_44:aU Tryz.prog 44:=⟨_,Tryz.func44,by decide,rfl⟩
abbrev uA:Nat:=41
abbrev lN:Nat:=125
theorem en_125:aU Tryz.prog 125:=⟨_,Tryz.func125,by decide,rfl⟩
abbrev ms:Nat:=85
abbrev wI:Nat:=167
theorem en_167:aU Tryz.prog 167:=⟨_,Tryz.func167,by decide,rfl⟩
abbrev n_user_Do:Nat:=128
def ip (r:Value):Value:=(r)
theorem build_228_0_1 (y0:Int) (y1:Int):∀ w,(Instr.build 228 #[(0,(.int .i64 y0)),(1,(.int .i64 y1))]).run Tryz.prog w = .ok (.agg (ck.C (⟨y0,y1,(⟨0,0,0,0,0⟩:ap),Value.nilIface⟩:ck)).toArray) w:=fun _=>by kernel_rfl
abbrev bt:Nat:=226
abbrev nt:Nat:=228
abbrev ko:Nat:=134
abbrev fY:Nat:=173
theorem ag_269:Ag Tryz.prog 269 3:=⟨⟨_,Tryz.underlying269,rfl⟩,bS (by kernel_rfl)⟩
abbrev fe:Nat:=213
def fz (r:aT):Value:=(.agg (aT.C r).toArray)
abbrev da:Nat:=209
abbrev fq:Nat:=214
abbrev gg:Nat:=171
abbrev iY:Nat:=250
def ge (r:Value × Bool):Value:=.tuple #[(r.1),(.bool r.2)]
abbrev ir:Nat:=252
def fS (r:Value × Bool):Value:=.tuple #[(r.1),(.bool r.2)]
def R_Serror (r:Sl):Value:=(sv r)
theorem slc_253:Slc Tryz.prog 253 171 1:=⟨Tryz.underlying253,bS (by kernel_rfl)⟩
abbrev ud:Nat:=212
theorem en_212:aU Tryz.prog 212:=⟨_,Tryz.func212,by decide,rfl⟩
theorem sc_171:Sc Tryz.prog 171:=⟨⟨_,Tryz.underlying171,rfl⟩,bS (by kernel_rfl)⟩
abbrev qm:Nat:=278
def nr (r:Value × Bool):Value:=.tuple #[(r.1),(.bool r.2)]
theorem zero_269:∃ i,Tryz.prog.info? 269 = some i∧i.zero = some (.agg (aT.C (⟨none,none,0⟩:aT)).toArray):=kF (by kernel_rfl)
abbrev iq:Nat:=210
def R_abi_Kind (r:Int):Value:=(.int .u8 r)
def str_6ae768b9:ByteArray:=⟨#[101,114,114,111,114,115,58,32,42,116,97,114,103,101,116,32,109,117,115,116,32,98,101,32,105,110,116,101,114,102,97,99,101,32,111,114,32,105,109,112,108,101,109,101,110,116,32,101,114,114,111,114]⟩
abbrev uI:Nat:=9
theorem sc_223:Sc Tryz.prog 223:=⟨⟨_,Tryz.underlying223,rfl⟩,bS (by kernel_rfl)⟩
abbrev eS:Nat:=211
def str_ae9b7a08:ByteArray:=⟨#[101,114,114,111,114,115,58,32,116,97,114,103,101,116,32,109,117,115,116,32,98,101,32,97,32,110,111,110,45,110,105,108,32,112,111,105,110,116,101,114]⟩
theorem inf_269:∃ i,Tryz.prog.info? 269 = some i∧i.size = 3:=bS (by kernel_rfl)
def str_53947bae:ByteArray:=⟨#[101,114,114,111,114,115,58,32,116,97,114,103,101,116,32,99,97,110,110,111,116,32,98,101,32,110,105,108]⟩
abbrev ue:Nat:=207
def eH (r:Ptr × Bool):Value:=.tuple #[(pv r.1),(.bool r.2)]
theorem zero_226:∃ i,Tryz.prog.info? 226 = some i∧i.zero = some (pv none):=kF (by kernel_rfl)
theorem sc_226:Sc Tryz.prog 226:=⟨⟨_,Tryz.underlying226,rfl⟩,bS (by kernel_rfl)⟩
abbrev bL:Nat:=263
theorem en_207:aU Tryz.prog 207:=⟨_,Tryz.func207,by decide,rfl⟩
abbrev jO:Nat:=202
theorem vu:Fld Tryz.prog 228 0 0:=cg (m:=1) Tryz.underlying228 rfl rfl (by kernel_rfl) (by decide)
theorem en_202:aU Tryz.prog 202:=⟨_,Tryz.func202,by decide,rfl⟩
abbrev ua:Nat:=189
def R_trap_Trap (r:ck):Value:=(.agg (ck.C r).toArray)
theorem en_189:aU Tryz.prog 189:=⟨_,Tryz.func189,by decide,rfl⟩
abbrev n_trap_In:Nat:=168
theorem xf:aU Tryz.prog 134:=⟨_,Tryz.func134,by decide,rfl⟩
theorem en_168:aU Tryz.prog 168:=⟨_,Tryz.func168,by decide,rfl⟩
abbrev ne:Nat:=129
def oP (r:Ptr):Value:=(pv r)
theorem build_258_0 (y0:Int):∀ w,(Instr.build 258 #[(0,(.int .u64 y0))]).run Tryz.prog w = .ok (.agg (nR.C (⟨y0,0⟩:nR)).toArray) w:=fun _=>by kernel_rfl
abbrev qn:Nat:=258
abbrev sU:Nat:=190
def tq (r:Ptr):Value:=(pv r)
theorem build_260_0_1 (y0:Ptr) (y1:Ptr):∀ w,(Instr.build 260 #[(0,(pv y0)),(1,(pv y1))]).run Tryz.prog w = .ok (.agg (ku.C (⟨y0,y1⟩:ku)).toArray) w:=fun _=>by kernel_rfl
abbrev mF:Nat:=260
theorem en_190:aU Tryz.prog 190:=⟨_,Tryz.func190,by decide,rfl⟩
abbrev wK:Nat:=191
theorem sg:Fld Tryz.prog 258 1 1:=cg (m:=1) Tryz.underlying258 rfl rfl (by kernel_rfl) (by decide)
theorem nL:Fld Tryz.prog 258 0 0:=cg (m:=1) Tryz.underlying258 rfl rfl (by kernel_rfl) (by decide)
abbrev oI:Nat:=192
theorem fld_260_0:Fld Tryz.prog 260 0 0:=cg (m:=1) Tryz.underlying260 rfl rfl (by kernel_rfl) (by decide)
theorem en_192:aU Tryz.prog 192:=⟨_,Tryz.func192,by decide,rfl⟩
theorem sc_239:Sc Tryz.prog 239:=⟨⟨_,Tryz.underlying239,rfl⟩,bS (by kernel_rfl)⟩
abbrev nc:Nat:=193
abbrev nF:Nat:=174
theorem en_174:aU Tryz.prog 174:=⟨_,Tryz.func174,by decide,rfl⟩
abbrev mb:Nat:=247
def jD (r:Value × Bool):Value:=.tuple #[(r.1),(.bool r.2)]
abbrev nG:Nat:=133
theorem fld_228_3:Fld Tryz.prog 228 3 7:=cg (m:=1) Tryz.underlying228 rfl rfl (by kernel_rfl) (by decide)
abbrev wJ:Nat:=208
theorem ma (y0:Int) (y1:Int):∀ w,(Instr.build 27 #[(0,(.int .u64 y0)),(1,(.int .u64 y1))]).run Tryz.prog w = .ok (.agg (ap.C (⟨y0,y1,0,0,0⟩:ap)).toArray) w:=fun _=>by kernel_rfl
theorem fld_228_1:Fld Tryz.prog 228 1 1:=cg (m:=1) Tryz.underlying228 rfl rfl (by kernel_rfl) (by decide)
theorem fld_228_2:Fld Tryz.prog 228 2 2:=cg (m:=5) Tryz.underlying228 rfl rfl (by kernel_rfl) (by decide)
def ap.eqb (x y:ap):Bool:=((x.e0 == y.e0) && ((x.e1 == y.e1) && ((x.e2 == y.e2) && ((x.e3 == y.e3) && ((x.e4 == y.e4) && true)))))
theorem eqr_27 (n:Nat) (x y:ap):EqR Tryz.prog (n + 2) 27 (.agg (ap.C x).toArray) (.agg (ap.C y).toArray) (ap.eqb x y):=eqr_arr Tryz.underlying27 inf_25 ⟨_,_,_,_,(gU cE rfl),(gU cE rfl),(jk (n:=n + 0) Tryz.underlying25),⟨_,_,_,_,(gU cE rfl),(gU cE rfl),(jk (n:=n + 0) Tryz.underlying25),⟨_,_,_,_,(gU cE rfl),(gU cE rfl),(jk (n:=n + 0) Tryz.underlying25),⟨_,_,_,_,(gU cE rfl),(gU cE rfl),(jk (n:=n + 0) Tryz.underlying25),⟨_,_,_,_,(gU cE rfl),(gU cE rfl),(jk (n:=n + 0) Tryz.underlying25),rfl,rfl⟩,rfl⟩,rfl⟩,rfl⟩,rfl⟩
theorem eqg_27:Tryz.prog.eqGuardType Tryz.prog.depth 27 = false:=by kernel_rfl
def dY (r:ByteArray):Value:=(.string r)
def nW:ByteArray:=⟨#[116,114,97,112,32,51,58,32,116,114,97,112,32,51]⟩
theorem en_133:aU Tryz.prog 133:=⟨_,Tryz.func133,by decide,rfl⟩
theorem en_208:aU Tryz.prog 208:=⟨_,Tryz.func208,by decide,rfl⟩
abbrev ll:Nat:=203
theorem en_203:aU Tryz.prog 203:=⟨_,Tryz.func203,by decide,rfl⟩
abbrev lm:Nat:=194
abbrev lT:Nat:=204
theorem fld_260_1:Fld Tryz.prog 260 1 1:=cg (m:=1) Tryz.underlying260 rfl rfl (by kernel_rfl) (by decide)
theorem en_204:aU Tryz.prog 204:=⟨_,Tryz.func204,by decide,rfl⟩
abbrev jP:Nat:=195
abbrev qZ:Nat:=205
theorem en_205:aU Tryz.prog 205:=⟨_,Tryz.func205,by decide,rfl⟩
theorem en_195:aU Tryz.prog 195:=⟨_,Tryz.func195,by decide,rfl⟩
abbrev na:Nat:=196
abbrev n_word_Args:Nat:=197
abbrev pJ:Nat:=198
theorem build_27_0 (y0:Int):∀ w,(Instr.build 27 #[(0,(.int .u64 y0))]).run Tryz.prog w = .ok (.agg (ap.C (⟨y0,0,0,0,0⟩:ap)).toArray) w:=fun _=>by kernel_rfl
theorem jB (y0:Int) (y1:Int) (y2:Int) (y3:Int):∀ w,(Instr.build 27 #[(0,(.int .u64 y0)),(1,(.int .u64 y1)),(2,(.int .u64 y2)),(3,(.int .u64 y3))]).run Tryz.prog w = .ok (.agg (ap.C (⟨y0,y1,y2,y3,0⟩:ap)).toArray) w:=fun _=>by kernel_rfl
theorem en_198:aU Tryz.prog 198:=⟨_,Tryz.func198,by decide,rfl⟩
theorem en_197:aU Tryz.prog 197:=⟨_,Tryz.func197,by decide,rfl⟩
theorem en_196:aU Tryz.prog 196:=⟨_,Tryz.func196,by decide,rfl⟩
theorem en_194:aU Tryz.prog 194:=⟨_,Tryz.func194,by decide,rfl⟩
theorem en_193:aU Tryz.prog 193:=⟨_,Tryz.func193,by decide,rfl⟩
theorem en_191:aU Tryz.prog 191:=⟨_,Tryz.func191,by decide,rfl⟩
abbrev li:Nat:=169
theorem en_169:aU Tryz.prog 169:=⟨_,Tryz.func169,by decide,rfl⟩
abbrev lj:Nat:=130
theorem build_35_0_1_2 (y0:Int) (y1:Int) (y2:Int):∀ w,(Instr.build 35 #[(0,(.int .i64 y0)),(1,(.int .i64 y1)),(2,(.int .i64 y2))]).run Tryz.prog w = .ok (.agg (aH.C (⟨y0,y1,y2⟩:aH)).toArray) w:=fun _=>by kernel_rfl
theorem tk (y0:Int) (y1:Int) (y2:Int):∀ w,(Instr.build 27 #[(0,(.int .u64 y0)),(1,(.int .u64 y1)),(2,(.int .u64 y2))]).run Tryz.prog w = .ok (.agg (ap.C (⟨y0,y1,y2,0,0⟩:ap)).toArray) w:=fun _=>by kernel_rfl
theorem en_85:aU Tryz.prog 85:=⟨_,Tryz.func85,by decide,rfl⟩
theorem en_130:aU Tryz.prog 130:=⟨_,Tryz.func130,by decide,rfl⟩
theorem en_129:aU Tryz.prog 129:=⟨_,Tryz.func129,by decide,rfl⟩
theorem en_128:aU Tryz.prog 128:=⟨_,Tryz.func128,by decide,rfl⟩
abbrev kz:Nat:=87
theorem en_87:aU Tryz.prog 87:=⟨_,Tryz.func87,by decide,rfl⟩
abbrev kA:Nat:=50
def mP (r:Sl):Value:=(sv r)
abbrev mG:Nat:=84
abbrev n_twin_View:Nat:=51
theorem zero_35:∃ i,Tryz.prog.info? 35 = some i∧i.zero = some (.agg (aH.C (⟨0,0,0⟩:aH)).toArray):=kF (by kernel_rfl)
theorem en_41:aU Tryz.prog 41:=⟨_,Tryz.func41,by decide,rfl⟩
theorem en_51:aU Tryz.prog 51:=⟨_,Tryz.func51,by decide,rfl⟩
theorem en_12:aU Tryz.prog 12:=⟨_,Tryz.func12,by decide,rfl⟩
theorem en_50:aU Tryz.prog 50:=⟨_,Tryz.func50,by decide,rfl⟩
theorem en_11:aU Tryz.prog 11:=⟨_,Tryz.func11,by decide,rfl⟩
theorem en_38:aU Tryz.prog 38:=⟨_,Tryz.func38,by decide,rfl⟩
theorem en_28:aU Tryz.prog 28:=⟨_,Tryz.func28,by decide,rfl⟩
theorem inf_35:∃ i,Tryz.prog.info? 35 = some i∧i.size = 3:=bS (by kernel_rfl)
abbrev ky:Nat:=10
def bH.eqb (x y:bH):Bool:=((x.fKind == y.fKind) && ((x.fCore == y.fCore) && ((x.fEnv == y.fEnv) && ((ap.eqb x.fCall y.fCall) && ((x.fSet == y.fSet) && ((x.fWay == y.fWay) && true))))))
theorem en_10:aU Tryz.prog 10:=⟨_,Tryz.func10,by decide,rfl⟩
abbrev mu:Nat:=14
theorem fld_29_2:Fld Tryz.prog 29 2 2:=cg (m:=1) Tryz.underlying29 rfl rfl (by kernel_rfl) (by decide)
theorem fld_29_4:Fld Tryz.prog 29 4 8:=cg (m:=1) Tryz.underlying29 rfl rfl (by kernel_rfl) (by decide)
theorem fld_29_5:Fld Tryz.prog 29 5 9:=cg (m:=1) Tryz.underlying29 rfl rfl (by kernel_rfl) (by decide)
abbrev n_fair_May:Nat:=15
abbrev jT:Nat:=16
abbrev fo:Nat:=17
theorem en_17:aU Tryz.prog 17:=⟨_,Tryz.func17,by decide,rfl⟩
abbrev mt:Nat:=18
theorem en_16:aU Tryz.prog 16:=⟨_,Tryz.func16,by decide,rfl⟩
theorem en_15:aU Tryz.prog 15:=⟨_,Tryz.func15,by decide,rfl⟩
theorem en_18:aU Tryz.prog 18:=⟨_,Tryz.func18,by decide,rfl⟩
theorem en_14:aU Tryz.prog 14:=⟨_,Tryz.func14,by decide,rfl⟩
abbrev mL:Nat:=5
abbrev t_api_Event:Nat:=51
abbrev t_api_Answer:Nat:=47
def str_73df774b:ByteArray:=⟨#[48,49,50,51,52,53,54,55,56,57,97,98,99,100,101,102,103,104,105,106,107,108,109,110,111,112,113,114,115,116,117,118,119,120,121,122]⟩
def str_e9752c08:ByteArray:=⟨#[48,48,48,49,48,50,48,51,48,52,48,53,48,54,48,55,48,56,48,57,49,48,49,49,49,50,49,51,49,52,49,53,49,54,49,55,49,56,49,57,50,48,50,49,50,50,50,51,50,52,50,53,50,54,50,55,50,56,50,57,51,48,51,49,51,50,51,51,51,52,51,53,51,54,51,55,51,56,51,57,52,48,52,49,52,50,52,51,52,52,52,53,52,54,52,55,52,56,52,57,53,48,53,49,53,50,53,51,53,52,53,53,53,54,53,55,53,56,53,57,54,48,54,49,54,50,54,51,54,52,54,53,54,54,54,55,54,56,54,57,55,48,55,49,55,50,55,51,55,52,55,53,55,54,55,55,55,56,55,57,56,48,56,49,56,50,56,51,56,52,56,53,56,54,56,55,56,56,56,57,57,48,57,49,57,50,57,51,57,52,57,53,57,54,57,55,57,56,57,57]⟩
abbrev ja:Nat:=239
abbrev qX:Nat:=240
theorem inf_5:∃ i,Tryz.prog.info? 5 = some i∧i.size = 1:=bS (by kernel_rfl)
abbrev oT:Nat:=241
def R_Suint8_string (r:Sl × ByteArray):Value:=.tuple #[(sv r.1),(.string r.2)]
def R_Suint8 (r:Sl):Value:=(sv r)
abbrev qE:Nat:=242
theorem en_239:aU Tryz.prog 239:=⟨_,Tryz.func239,by decide,rfl⟩
theorem zero_300:∃ i,Tryz.prog.info? 300 = some i∧i.zero = some (.agg [.int .u8 0,.int .u8 0,.int .u8 0,.int .u8 0,.int .u8 0,.int .u8 0,.int .u8 0,.int .u8 0,.int .u8 0,.int .u8 0,.int .u8 0,.int .u8 0,.int .u8 0,.int .u8 0,.int .u8 0,.int .u8 0,.int .u8 0,.int .u8 0,.int .u8 0,.int .u8 0,.int .u8 0,.int .u8 0,.int .u8 0,.int .u8 0].toArray):=kF (by kernel_rfl)
abbrev vX:Nat:=300
theorem arr_300:Arr Tryz.prog 300 24 5 1:=⟨Tryz.underlying300,bS (by kernel_rfl)⟩
theorem en_241:aU Tryz.prog 241:=⟨_,Tryz.func241,by decide,rfl⟩
theorem en_240:aU Tryz.prog 240:=⟨_,Tryz.func240,by decide,rfl⟩
theorem en_242:aU Tryz.prog 242:=⟨_,Tryz.func242,by decide,rfl⟩
abbrev gu:Nat:=238
theorem en_238:aU Tryz.prog 238:=⟨_,Tryz.func238,by decide,rfl⟩
abbrev jv:Nat:=237
theorem en_237:aU Tryz.prog 237:=⟨_,Tryz.func237,by decide,rfl⟩
abbrev sP:Nat:=236
theorem en_236:aU Tryz.prog 236:=⟨_,Tryz.func236,by decide,rfl⟩
abbrev iM:Nat:=233
abbrev sN:Nat:=234
abbrev mZ:Nat:=235
abbrev t_api_Pick:Nat:=29
abbrev t_api_Line:Nat:=49
abbrev t_uint64:Nat:=25
abbrev fh:Nat:=105
abbrev so:Nat:=103
abbrev eq:Nat:=133
abbrev t_api_Pte:Nat:=74
abbrev t_bool:Nat:=4
abbrev t_reflectlite_rtype:Nat:=245
abbrev t_tlb_line:Nat:=141
end Go.Proofs.YtniiiakkdoiaiaaGreatDoor
namespace Go.Proofs.YtniiiakkdoiaiaaGreatDoor
open Go Mb
set_option linter.unusedVariables false
theorem xg:El Tryz.prog kS t_api_Pick 10 80 [.int .i64 0,.int .i64 0,.int .i64 0,.int .u64 0,.int .u64 0,.int .u64 0,.int .u64 0,.int .u64 0,.int .i64 0,.int .i64 0]:=vC Tryz.underlying23 (by kernel_rfl) rfl
theorem qe:El Tryz.prog eM t_api_Event 16 128 [.int .i64 0,.int .i64 0,.int .u64 0,.int .u64 0,.int .u64 0,.int .u64 0,.int .u64 0,.int .i64 0,.int .i64 0,.int .i64 0,.int .i64 0,.int .u64 0,.int .i64 0,.int .i64 0,.int .i64 0,.int .i64 0]:=vC Tryz.underlying39 (by kernel_rfl) rfl
theorem el_Sint:El Tryz.prog dL kH 1 8 [.int .i64 0]:=vC Tryz.underlying41 (by kernel_rfl) rfl
theorem el_Sapi_Line:El Tryz.prog qo t_api_Line 4 32 [.int .i64 0,.int .i64 0,.int .i64 0,.int .i64 0]:=vC Tryz.underlying60 (by kernel_rfl) rfl
theorem fR:El Tryz.prog bq t_uint64 1 8 [.int .u64 0]:=vC Tryz.underlying80 (by kernel_rfl) rfl
theorem el_Sapi_Answer:El Tryz.prog mG t_api_Answer 2 16 [.int .i64 0,.int .u64 0]:=vC Tryz.underlying84 (by kernel_rfl) rfl
theorem el_SPkern_call:El Tryz.prog mH fh 1 8 [pv none]:=vC Tryz.underlying99 (by kernel_rfl) rfl
theorem el_SPtlb_Tlb:El Tryz.prog cd so 1 8 [pv none]:=vC Tryz.underlying100 (by kernel_rfl) rfl
theorem vD:El Tryz.prog eN eq 1 8 [pv none]:=vC Tryz.underlying130 (by kernel_rfl) rfl
theorem uj:El Tryz.prog pF bq 1 24 [sv (⟨none,0,0,none⟩:Sl)]:=vC Tryz.underlying135 (by kernel_rfl) rfl
theorem tg:El Tryz.prog gS rF 2 16 [.int .i64 0,.int .i64 0]:=vC Tryz.underlying173 (by kernel_rfl) rfl
theorem el_S_8_api_Cap:El Tryz.prog t_S_8_api_Cap kT 32 256 [.int .i64 0,.int .i64 0,.int .i64 0,.int .i64 0,.int .i64 0,.int .i64 0,.int .i64 0,.int .i64 0,.int .i64 0,.int .i64 0,.int .i64 0,.int .i64 0,.int .i64 0,.int .i64 0,.int .i64 0,.int .i64 0,.int .i64 0,.int .i64 0,.int .i64 0,.int .i64 0,.int .i64 0,.int .i64 0,.int .i64 0,.int .i64 0,.int .i64 0,.int .i64 0,.int .i64 0,.int .i64 0,.int .i64 0,.int .i64 0,.int .i64 0,.int .i64 0]:=vC Tryz.underlying184 (by kernel_rfl) rfl
theorem el_Sapi_Pte:El Tryz.prog pE t_api_Pte 3 24 [.int .i64 0,.int .i64 0,.int .i64 0]:=vC Tryz.underlying211 (by kernel_rfl) rfl
theorem enter_hist_Over_c1:aU Tryz.prog sS:=⟨_,Tryz.func54,by decide,rfl⟩
theorem enter_hist_Order_c1:aU Tryz.prog mV:=⟨_,Tryz.func56,by decide,rfl⟩
theorem enter_hist_Order_c2:aU Tryz.prog qY:=⟨_,Tryz.func58,by decide,rfl⟩
theorem uE:aU Tryz.prog lv:=⟨_,Tryz.func171,by decide,rfl⟩
theorem vB:aU Tryz.prog gD:=⟨_,Tryz.func186,by decide,rfl⟩
theorem mp_map_int_bool:Mp Tryz.prog jo kH t_bool (.bool false):=⟨Tryz.underlying86,⟨_,Tryz.underlying3⟩,kF (by kernel_rfl)⟩
theorem mp_map_int_int:Mp Tryz.prog gR kH kH (.int .i64 0):=⟨Tryz.underlying87,⟨_,Tryz.underlying3⟩,kF (by kernel_rfl)⟩
theorem arn_2_tlb_line:Tryz.prog.underlying t_2_tlb_line = some (.array 2 t_tlb_line):=Tryz.underlying142
theorem age_2_tlb_line:Ag Tryz.prog t_tlb_line 5:=⟨⟨_,Tryz.underlying141,rfl⟩,bS (by kernel_rfl)⟩
theorem agn_8_api_Pte:Ag Tryz.prog tz 24:=⟨⟨_,Tryz.underlying187,rfl⟩,bS (by kernel_rfl)⟩
theorem arn_8_api_Pte:Tryz.prog.underlying tz = some (.array 8 t_api_Pte):=Tryz.underlying187
theorem age_8_api_Pte:Ag Tryz.prog t_api_Pte 3:=⟨⟨_,Tryz.underlying74,rfl⟩,bS (by kernel_rfl)⟩
theorem agn_8_api_Cap:Ag Tryz.prog kT 32:=⟨⟨_,Tryz.underlying210,rfl⟩,bS (by kernel_rfl)⟩
theorem arn_8_api_Cap:Tryz.prog.underlying kT = some (.array 8 fK):=Tryz.underlying210
theorem age_8_api_Cap:Ag Tryz.prog fK 4:=⟨⟨_,Tryz.underlying70,rfl⟩,bS (by kernel_rfl)⟩
end Go.Proofs.YtniiiakkdoiaiaaGreatDoor
