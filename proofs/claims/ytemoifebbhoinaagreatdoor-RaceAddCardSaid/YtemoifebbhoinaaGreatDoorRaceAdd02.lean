/- Part of the proof of: The law RaceAdd returns true for every input, and leaves its arguments as they were. -/
import Derived.Test.YtemoifebbhoinaaGreatDoorRaceAdd01
set_option linter.all false
set_option maxRecDepth 20000
namespace Go.Proofs.YtemoifebbhoinaaGreatDoor
open Go.Proofs.Tryz
open Go.IntKind (i64 u64)
open _root_.List (replicate)
open _root_.Option (map_some)
section
open Go
namespace Mb
section
variable {l:List As} {h:Hp}
theorem get_nat' {α:Type} {xs:List α} {i:Nat} (h:i < xs.length):xs[i]? = some xs[i]:=List.getElem?_eq_some_iff.2 ⟨h,rfl⟩
def ex {α:Type} (A:α->As):As:=fun h=>∃ x,A x h
theorem op_ {α:Type} {φ:α->Prop} {m:α->List As} (s:aE ((fun h=>∃ x,φ x/\aE (m x) h)::l) h):∃ x,φ x/\aE (m x++l) h:=by
 obtain ⟨h1,h2,d,e,⟨x,f,s1⟩,s2⟩:=s
 exact ⟨x,f,eT.2 ⟨h1,h2,d,e,s1,s2⟩⟩
theorem cl_ {α:Type} {φ:α->Prop} {m:α->List As} (x:α) (f:φ x) (s:aE (m x++l) h):aE ((fun h=>∃ x,φ x/\aE (m x) h)::l) h:=by
 obtain ⟨h1,h2,d,e,s1,s2⟩:=eT.1 s
 exact ⟨h1,h2,d,e,⟨x,f,s1⟩,s2⟩
theorem star_cons {A:As} (a:∀ h,A h) (s:aE l h):aE (A::l) h:=⟨emp,h,Dj.emp_left _,rfl,a _,s⟩
theorem fL {τ:Type} {T m:Nat} {enc:τ->List Value} (s:aE l h):aE (vec T m enc (⟨none,0,0,none⟩:Sl) []::l) h :=
 star_cons (fun _=>⟨rfl,Nat.le_refl _,.inl rfl⟩) s
theorem dC {m:List As} (s:aE (aE m::l) h):aE (m++l) h:=by
 obtain ⟨h1,h2,d,e,a,s'⟩:=s
 exact eT.2 ⟨h1,h2,d,e,a,s'⟩
theorem star_tail {A:As} {m:List As} (s:aE (A::l) h) (hm:∀ h,aE l h->aE m h):aE (A::m) h:=by
 obtain ⟨h1,h2,d,e,a,s'⟩:=s
 exact ⟨h1,h2,d,e,a,hm _ s'⟩
theorem aX {φ:Prop} {m:List As} (f:φ) (s:aE m h):pa_ φ m h:=⟨f,s⟩
end
theorem vec_set_row {τ:Type} {T m i:Nat} {enc:τ->List Value} {s:Sl} {xs ys:List τ} {l:List As} {h:Hp} {K:Hp->Prop} {P:Program} (he:∀ x,(enc x).length = m) (ho:∀ x,dA (enc x) = true) (hlen:ys.length = xs.length) (st:aE l h) (hi:l[i]? = some (vec T m enc s xs)) {q:Nat × Nat} (hq:s.a = some q)
  (k:∀ h',aE (l.set i (vec T m enc s ys)) h'->K h'):hp P (storeCells ⟨q.1,q.2,none⟩ (ys.flatMap enc)) (fun _ h=>K h) h:=by
 obtain ⟨g1,g2,d,rfl,⟨e1,e2,e3⟩,s'⟩:=fO hi st
 rcases e3 with h4 | ⟨b,pre,rest,U,fr,h4,h5,hg,h6⟩
 ·have hny:ys = []:=List.eq_nil_of_length_eq_zero (by omega)
  have hnx:xs = []:=List.eq_nil_of_length_eq_zero (by omega)
  subst hny; subst hnx
  exact k _ (ee (List.getElem?_eq_some_iff.1 hi).1 ⟨g1,g2,d,rfl,⟨e1,e2,.inl h4⟩,s'⟩)
 ·rw [h4] at hq; cases hq
  have hfx:=dY he xs
  have hfy:=dY he ys
  have hoy:dA (ys.flatMap enc) = true:=by
   unfold dA
   rw [List.all_flatMap,List.all_eq_true]
   exact fun x _=>ho x
  have ew:wr (pre++(xs.flatMap enc++rest)) (pre.length + 0) (ys.flatMap enc) = pre++(ys.flatMap enc++rest):=by
   rw [qy,wr_left _ _ _ _ (by rw [hfx,hfy,hlen,Nat.zero_add]; exact Nat.le_refl _),wr_all (by rw [hfx,hfy,hlen])]
  have hcap:s.len * m <= s.cap * m:=Nat.mul_le_mul_right m e2
  have hlm:s.len * m = xs.length * m:=by rw [e1]
  refine lE (T:=U) (fr:=fr) (ys.flatMap enc) 0 pre.length (pre++(xs.flatMap enc++rest)) _ (un_left h6) (fun j j1 j2=>gh_nf hg j (by omega) (by rw [hfy,hlen] at j2; omega)) (by simp [hfx,hfy,hlen]) hoy ?_
  rw [ew]
  obtain ⟨d',e'⟩:=set_dj (o':=.cells (pre++(ys.flatMap enc++rest)).toArray U fr) d h6
  rw [e']
  exact k _ (ee (List.getElem?_eq_some_iff.1 hi).1 ⟨_,g2,d',rfl,⟨by rw [e1,hlen],e2,.inr ⟨b,pre,rest,U,fr,h4,h5,hg,iB _ _ _⟩⟩,s'⟩)
def encU (_:Unit):Value:=.tuple #[]
theorem clear_v {τ:Type} {S T m bys i R:Nat} {z:List Value} {enc:τ->List Value} {x0:τ} {s:Sl} {xs:List τ} {l:List As} {h:Hp} {K:Unit->Hp->Prop} {P:Program} (E:El P S T m bys z) (hz:enc x0 = z) (he:∀ x,(enc x).length = m) (ho:∀ x,dA (enc x) = true) (st:aE l h) (hi:l[i]? = some (vec T m enc s xs))
  (k:∀ h',aE (l.set i (vec T m enc s (replicate xs.length x0))) h'->K () h'):hpv P (Builtin.clear_ #[S] R #[sv s]) encU K h:=by
 refine ⟨?_⟩
 obtain ⟨_,es,_⟩:=dP hi st
 have hilt:=(List.getElem?_eq_some_iff.1 hi).1
 unfold Builtin.clear_
 simp only [List.getElem?_toArray,List.getElem?_cons_zero]
 refine bZ (cM E.sl ?_)
 have same:xs = []->aE (l.set i (vec T m enc s (replicate xs.length x0))) h:=by
  intro e
  subst e
  have:l.set i (vec T m enc s (replicate ([]:List τ).length x0)) = l:=by
   apply List.ext_getElem?
   intro n
   rw [List.getElem?_set]
   by_cases e:i = n
   ·subst e; rw [hi]; simp [hilt]
   ·simp [e]
  rw [this]; exact st
 cases ha:s.a with
 | none =>
  have hnil:xs = []:=by
   obtain ⟨e1,e2,e3⟩:=es
   rcases e3 with e3 | ⟨b,pre,rest,U,fr,h4,_⟩
   ·exact List.eq_nil_of_length_eq_zero (by omega)
   ·rw [h4] at ha; cases ha
  simp only [sv,ha,pa]
  exact ⟨(),rfl,k h (same hnil)⟩
 | some q =>
  simp only [sv,ha,pa]
  cases hn:s.len with
  | zero =>
   have hnil:xs = []:=List.eq_nil_of_length_eq_zero (by rw [← es.1]; exact hn)
   exact ⟨(),rfl,k h (same hnil)⟩
  | succ n =>
   obtain ⟨inf,hinf,h1,h2,h3⟩:=E.inf
   cases hzv:inf.zero with
   | none=>rw [hzv] at h3; cases h3
   | some zv =>
    rw [hzv] at h3
    simp only [map_some,Option.some.injEq] at h3
    refine bZ (oT hinf hzv ?_)
    refine bZ ?_
    have hzc:zv.cells = z.toArray:=by rw [← h3]
    have hrow:(Builtin.zeroCells zv.cells (n + 1)).toList = (replicate xs.length x0).flatMap enc:=by
     rw [hzc]; unfold Builtin.zeroCells
     have:=rep_flat z (n + 1)
     simp only [List.size_toArray] at this ⊢
     rw [this,← hz,rep_flat_map,← es.1,hn]
    rw [hrow]
    refine vec_set_row (K:=fun h'=>∃ r,Value.tuple #[] = encU r/\K r h') he ho (by simp) st hi ha fun h' s'=>?_
    exact ⟨(),rfl,k h' s'⟩
theorem oneI (k:IntKind) (x:Int):dA (cI k x) = true:=rfl
theorem oneS (x:Sl):dA (cS x) = true:=rfl
section
variable {τ:Type} {m:Nat} {enc:τ->List Value} {l:List As} {h:Hp}
theorem ld_a {σ:Type} {T j i k:Nat} {b:Nat} {pre rest:List Value} {xs:List τ} {enc':σ->List Value} {K:σ->Hp->Prop} {off:Nat} (y:σ) (he:∀ x,(enc x).length = m) (st:aE l h) (hj:l[j]? = some (blk b T (pre++(xs.flatMap enc++rest)))) (hoff:off = pre.length + i * m + k)
  {x:τ} (hx:xs[i]? = some x) (hy:∀ n v,(enc' y)[n]? = some v->(enc x)[k + n]? = some v) (kk:K y h):ld (b,off) enc' K h:=by
 refine ld_s y st hj (fun n v hn=>?_) kk
 have:=tq he xs i (k + n) x v hx (hy n v hn)
 have hlt:=(List.getElem?_eq_some_iff.1 this).1
 rw [hoff,List.getElem?_append_right (by omega),show pre.length + i * m + k + n - pre.length = i * m + (k + n) from by omega,List.getElem?_append_left hlt]
 exact this
theorem st_a {T j i k:Nat} {b:Nat} {pre rest:List Value} {xs:List τ} {vs:List Value} {K:Hp->Prop} {off:Nat} (y:τ) (he:∀ x,(enc x).length = m) (s0:aE l h) (hj:l[j]? = some (blk b T (pre++(xs.flatMap enc++rest)))) (hoff:off = pre.length + i * m + k)
  {x:τ} (hx:xs[i]? = some x) (hlen:k + vs.length <= m) (hy:enc y = wr (enc x) k vs) (kk:∀ h',aE (l.set j (blk b T (pre++((xs.set i y).flatMap enc++rest)))) h'->K h'):st (b,off) vs K h:=by
 have hi:=(List.getElem?_eq_some_iff.1 hx).1
 have hfl:=dY he xs
 have hm:(i + 1) * m <= xs.length * m:=Nat.mul_le_mul_right m hi
 rw [Nat.succ_mul] at hm
 refine uJ s0 hj (by simp [hoff,hfl]; omega) fun h' s'=>kk h' ?_
 have ew:wr (pre++(xs.flatMap enc++rest)) off vs = pre++((xs.set i y).flatMap enc++rest):=by
  rw [hoff,Nat.add_assoc,qy,wr_left _ _ _ _ (by rw [hfl]; omega),flat_wr he xs i k x y vs hx hlen hy]
 rw [ew] at s'
 exact s'
end
section
variable {P:Program} {l:List As} {h:Hp}
theorem hp_isAgg_ag {T n:Nat} (t:Ag P T n) {K:Bool->Hp->Prop} (k:K true h):hp P (isAgg T) K h:=by
 obtain ⟨D,h1,h2⟩:=t.und
 unfold isAgg
 refine bZ (cM h1 ?_)
 cases D <;> first | exact k | cases h2
theorem th {kd:IntKind} {n:Int} {K:IntKind × Int->Hp->Prop} (k:K (kd,n) h):hp P (asIntOf (.int kd n)) K h:=k
theorem loadAt_v {τ:Type} {T n b off:Nat} {cs:List Value} {enc:τ->Value} {r:τ} {K:τ->Hp->Prop} (t:Ag P T n) (hc:ro h (b,off) cs) (hn:cs.length = n) (hr:enc r = .agg cs.toArray) (k:K r h):hpv P (Instr.loadAt T (.pointer (some ⟨b,off,none⟩))) enc K h:=by
 refine ⟨?_⟩
 obtain ⟨inf,h1,h2⟩:=t.inf
 show hp P (loadVar T ⟨b,off,none⟩) _ h
 unfold loadVar
 refine bZ (hp_isAgg_ag t ?_)
 refine hp_yes rfl ?_
 refine bZ (nT h1 ?_)
 rw [h2]
 refine bZ (hp_loadCells hc hn ?_)
 exact ⟨r,hr.symm,k⟩
theorem index_v {τ:Type} {S T len m i:Nat} {enc:τ->List Value} {val:τ->Value} {xs:List τ} {x:τ} {K:τ->Hp->Prop} (hS:P.underlying S = some (.array len T)) (t:Ag P T m) (he:∀ x,(enc x).length = m) (hv:∀ x,val x = .agg (enc x).toArray) (hl:xs.length = len) (hx:xs[i]? = some x) (k:K x h) :
  hpv P (Instr.index S (.agg (xs.flatMap enc).toArray) (.int .i64 i)) val K h:=by
 refine ⟨?_⟩
 have hi:=(List.getElem?_eq_some_iff.1 hx).1
 obtain ⟨inf,h1,h2⟩:=t.inf
 unfold Instr.index
 refine bZ (th ?_)
 refine bZ (cM hS ?_)
 refine hp_yes ⟨by omega,by omega⟩ ?_
 refine bZ (nT h1 ?_)
 unfold part
 refine bZ (hp_isAgg_ag t ?_)
 refine bZ (nT h1 ?_)
 refine ⟨x,?_,k⟩
 rw [hv,h2]
 have:(xs.flatMap enc).toArray.extract ((i:Int).toNat * m) ((i:Int).toNat * m + m) = (enc x).toArray:=by
  apply Array.ext'
  rw [Array.toList_extract]
  simp only [Int.toNat_natCast,List.extract]
  rw [Nat.add_sub_cancel_left]
  apply List.ext_getElem?
  intro n
  rw [List.getElem?_take,List.getElem?_drop]
  by_cases hn:n < m
  ·rw [if_pos hn]
   have hlt:n < (enc x).length:=by rw [he]; exact hn
   rw [tq he xs i n x _ hx (get_nat' hlt)]
   exact (get_nat' hlt).symm
  ·rw [if_neg hn]
   exact (List.getElem?_eq_none (by rw [he]; omega)).symm
 rw [this]
end
theorem sliceFrom_v {τ:Type} {P:Program} {l:List As} {h:Hp} {S T m bys i:Nat} {z:List Value} {enc:τ->List Value} {R:Sl->Value} {s:Sl} {xs:List τ} {n:Nat} {K:Sl->Hp->Prop} (E:El P S T m bys z) (he:∀ x,(enc x).length = m) (hR:R = sv) (st:aE l h) (hi:l[i]? = some (vec T m enc s xs)) (hn:n <= xs.length)
  (k:∀ v,aE (l.set i (vec T m enc v (xs.drop n))) h->K v h):hpv P (Instr.sliceAt S (sv s) (some (.int .i64 n)) none none) R K h:=by
 subst hR
 refine ⟨?_⟩
 have hilt:=(List.getElem?_eq_some_iff.1 hi).1
 obtain ⟨g1,g2,d,rfl,⟨e1,e2,e3⟩,s'⟩:=fO hi st
 obtain ⟨inf,hinf,h1,h2,h3⟩:=E.inf
 unfold Instr.sliceAt
 refine bZ (cM E.sl ?_)
 show hp P (Instr.slice S (sv s) _ _ _) _ _
 unfold Instr.slice
 refine bZ (cM E.sl ?_)
 simp only [sv]
 refine bZ ?_
 unfold Instr.sliceBounds
 refine bZ ?_
 refine bZ ?_
 refine bZ ?_
 unfold Instr.sliceBound
 refine bZ (th ?_)
 refine hp_yes ⟨by omega,by omega⟩ ?_
 refine bZ (nT hinf ?_)
 rw [h1]
 rcases e3 with h5 | ⟨b,pre,rest,U,fr,h4,h5,hg,h6⟩
 ·have hn0:n = 0:=by omega
  subst hn0
  refine ⟨s,?_,k s ?_⟩
  ·simp [sv,h5]
  ·exact ee hilt ⟨g1,g2,d,rfl,⟨by simpa using e1,e2,.inl h5⟩,s'⟩
 ·by_cases hc:s.cap = n
  ·have hx:xs.drop n = []:=by apply List.drop_eq_nil_of_le; omega
   refine ⟨⟨s.a,s.len - n,s.cap - n,none⟩,?_,k _ (ee hilt ⟨g1,g2,d,rfl,⟨?_,by show s.len - n <= s.cap - n; omega,.inl (by show s.cap - n = 0; omega)⟩,s'⟩)⟩
   ·rw [if_pos (by simpa using hc)]; simp [sv]
   ·show s.len - n = _; rw [hx]; simp; omega
  ·refine ⟨⟨some (b,pre.length + n * m),s.len - n,s.cap - n,s.g.map fun _=>(pre++(xs.take n).flatMap enc,rest,U,fr)⟩,?_,k _ (ee hilt ⟨g1,g2,d,rfl,⟨?_,by show s.len - n <= s.cap - n; omega,.inr ⟨b,pre++(xs.take n).flatMap enc,rest,U,fr,?_,?_,?_,?_⟩⟩,s'⟩)⟩
   ·rw [if_neg (by simpa using hc)]; simp [sv,h4,pa,add_plain]
   ·show s.len - n = _; simp; omega
   ·show some (b,pre.length + n * m) = _
    rw [List.length_append,dY he]; simp; rw [Nat.min_eq_left hn]
   ·show (s.cap - n) * m <= (s.len - n) * m + rest.length
    rw [Nat.sub_mul,Nat.sub_mul]
    have:n * m <= s.len * m:=Nat.mul_le_mul_right m (by omega)
    omega
   ·have hpl:(pre++(xs.take n).flatMap enc).length = pre.length + n * m:=by rw [List.length_append,dY he]; simp; rw [Nat.min_eq_left hn]
    unfold gh at hg ⊢
    cases hsg:s.g with
    | none=>rw [hsg] at hg; exact hg
    | some x =>
     rw [hsg] at hg
     refine ⟨rfl,fun j j1 j2=>hg.2 j (by rw [hpl] at j1; omega) ?_⟩
     rw [hpl] at j2
     have j2':j < pre.length + n * m + (s.cap - n) * m:=j2
     have hnc:n <= s.cap:=by omega
     have:n * m + (s.cap - n) * m = s.cap * m:=by rw [← Nat.add_mul]; congr 1; omega
     omega
   ·have:pre++(xs.take n).flatMap enc++((xs.drop n).flatMap enc++rest) = pre++(xs.flatMap enc++rest):=by
     rw [List.append_assoc,← List.append_assoc ((xs.take n).flatMap enc),← List.flatMap_append,List.take_append_drop]
    rw [this]; exact h6
theorem kC {τ:Type} {P:Program} {l:List As} {h:Hp} {S T m bys i:Nat} {z:List Value} {enc:τ->List Value} {val:τ->Value} {R R':Sl->Value} {s:Sl} {xs:List τ} {x:τ} {K:Sl->Hp->Prop} {Q:Nat} (E:El P S T m bys z) (he:∀ x,(enc x).length = m) (ho:∀ x,dA (enc x) = true) (hv:∀ x,(val x).cells.toList = enc x)
  (hm:m <= 2 ^ 24) (hR:R = sv) (hR':R' = sv) (st:aE l h) (hi:l[i]? = some (vec T m enc s xs)) (hb:(2 * (xs.length + 1) + 512) * bys <= 2 ^ 48) (hb2:xs.length < 2 ^ 60)
  (k:∀ v h',aE (l.set i (vec T m enc v (xs++[x]))) h'->K v h'):hpv P (Instr.buildSlice S 1 #[(0,val x)]) R (fun y=>hpv P (Builtin.append_ #[S,S] Q #[sv s,sv y]) R' K) h:=by
 subst hR; subst hR'
 refine eN [x] (val:=val) (enc:=enc) E he hv st rfl rfl (by simpa using hm) fun y h' s1=>?_
 refine tC (i:=i + 1) (j:=0) (enc:=enc) (ys:=[x]) E E.sl he ho s1 (by simpa using hi) rfl (by omega) (by simpa using hb) (by simp; omega) fun v h2 s2=>?_
 exact k v h2 (cd (l:=[vec T m enc y [x]]) (by simpa using s2))
theorem c1 {c d:List Value} {u:Value} {k:Nat} (h1:d = [u]) (h2:c[k]? = some u):∀ (n:Nat) (v:Value),d[n]? = some v->c[k + n]? = some v:=by
 intro n v hv
 subst h1
 cases n with
 | zero=>simp at hv; subst hv; exact h2
 | succ n=>simp at hv
theorem aD {α:Type} {xs:List α} {i:Nat} (h:i < xs.length):xs[i]? = some xs[i]:=List.getElem?_eq_some_iff.2 ⟨h,rfl⟩
theorem cR (k:IntKind) (x:Int):(cI k x).length = 1:=rfl
end Mb
end
section
open Go
namespace Mb
structure Mp (P:Program) (S K E:TypeId) (z:Value):Prop where
 mp:P.underlying S = some (.map K E)
 key:∃ kd,P.underlying K = some (.int kd)
 inf:∃ i,P.info? E = some i/\i.zero = some z
section
variable {τ:Type}
def fi (x:Int):List (Int × τ)->Nat->Option (Nat × τ)
 | [],_=>none
 | p::m,i=>if x = p.1 then some (i,p.2) else fi x m (i + 1)
def ents (val:τ->Value) (es:List MapEntry) (m:List (Int × τ)):Prop:=es.map (fun e=>(e.key,e.val)) = m.map (fun p=>(Value.int .i64 p.1,val p.2))
def mapA (b:Nat) (val:τ->Value) (f:Int->Option τ):As:=fun h=>∃ (es:List MapEntry) (m:List (Int × τ)) (clock:Nat),h b = some (.map es.toArray clock)/\ents val es m/\∀ x,(fi x m 0).map (·.2) = f x
theorem vZ (x:Int):∀ (m:List (Int × τ)) (i:Nat),fi x m i = (fi x m 0).map (fun r=>(r.1 + i,r.2))
 | [],_=>rfl
 | p::m,i=>by
  unfold fi
  split
  ·simp
  ·rw [vZ x m (i + 1),vZ x m (0 + 1)]
   cases fi x m 0 with
   | none=>rfl
   | some r=>simp; omega
theorem fi_v (x:Int) (m:List (Int × τ)) (i:Nat):(fi x m i).map (·.2) = (fi x m 0).map (·.2):=by
 rw [vZ x m i]; cases fi x m 0 <;> rfl
theorem find_now {val:τ->Value} {kd:IntKind} (x:Int):∀ {es:List MapEntry} {m:List (Int × τ)} (i:Nat),ents val es m->Instr.findNow (.int kd) (.int .i64 x) es i = some ((fi x m i).map fun r=>(r.1,val r.2))
 | [],[],_,_=>rfl
 | [],_::_,_,h=>by simp [ents] at h
 | _::_,[],_,h=>by simp [ents] at h
 | e::es,p::m,i,h=>by
  simp only [ents,List.map_cons,List.cons.injEq,Prod.mk.injEq] at h
  obtain ⟨⟨h1,h2⟩,h3⟩:=h
  unfold Instr.findNow fi
  rw [h1,h2]
  by_cases hx:x = p.1
  ·subst hx; simp [Instr.sameNow]
  ·have:(x == p.1) = false:=by simpa using hx
   simp only [Instr.sameNow,this,if_true,if_neg hx]
   exact find_now x (i + 1) h3
theorem fi_get {x:Int} {v:τ} {i:Nat}:∀ {m:List (Int × τ)},fi x m 0 = some (i,v)->m[i]? = some (x,v)
 | [],h=>by cases h
 | p::m,h=>by
  unfold fi at h
  split at h
  ·rename_i hx
   cases h; subst hx; rfl
  ·rw [vZ] at h
   cases hm:fi x m 0 with
   | none=>rw [hm] at h; cases h
   | some r =>
    rw [hm] at h
    simp only [map_some,Option.some.injEq,Prod.mk.injEq] at h
    obtain ⟨h1,h2⟩:=h
    subst h2; subst h1
    simp only [List.getElem?_cons_succ]
    exact fi_get (m:=m) (by rw [hm])
theorem fi_set {x y:Int} {v w:τ} {i:Nat}:∀ {m:List (Int × τ)},fi x m 0 = some (i,v)->(fi y (m.set i (x,w)) 0).map (·.2) = if y = x then some w else (fi y m 0).map (·.2)
 | [],h=>by cases h
 | p::m,h=>by
  unfold fi at h
  split at h
  ·rename_i hx
   cases h; subst hx
   simp only [List.set_cons_zero,fi]
   by_cases hy:y = p.1
   ·simp [hy]
   ·simp [hy]
  ·rename_i hx
   rw [vZ] at h
   cases hm:fi x m 0 with
   | none=>rw [hm] at h; cases h
   | some r =>
    rw [hm] at h
    simp only [map_some,Option.some.injEq,Prod.mk.injEq] at h
    obtain ⟨h1,h2⟩:=h
    subst h2; subst h1
    have ih:=fi_set (x:=x) (y:=y) (v:=r.2) (w:=w) (i:=r.1) (m:=m) (by rw [hm])
    simp only [List.set_cons_succ,fi]
    by_cases hy:y = p.1
    ·have:y ≠ x:=fun e=>hx (e.symm.trans hy)
     simp [hy]
     intro e; exact absurd e.symm hx
    ·rw [if_neg hy,if_neg hy,fi_v y _ (0 + 1),fi_v y m (0 + 1)]
     exact ih
theorem fi_push {x y:Int} {w:τ}:∀ {m:List (Int × τ)},fi x m 0 = none->(fi y (m++[(x,w)]) 0).map (·.2) = if y = x then some w else (fi y m 0).map (·.2)
 | [],_=>by
  simp only [List.nil_append,fi]
  by_cases hy:y = x <;> simp [hy]
 | p::m,h=>by
  unfold fi at h
  split at h
  ·cases h
  ·rename_i hx
   rw [vZ] at h
   have hm:fi x m 0 = none:=by
    cases hm:fi x m 0 with
    | none=>rfl
    | some r=>rw [hm] at h; cases h
   have ih:=fi_push (y:=y) (w:=w) hm
   simp only [List.cons_append,fi]
   by_cases hy:y = p.1
   ·have:¬ y = x:=fun e=>hx (e.symm.trans hy)
    simp [hy]
    intro e; exact absurd e.symm hx
   ·rw [if_neg hy,if_neg hy,fi_v y _ (0 + 1),fi_v y m (0 + 1)]
    exact ih
theorem ents_set {val:τ->Value} {x:Int} {w:τ} {i:Nat} {es:List MapEntry} {m:List (Int × τ)} (h:ents val es m) (g:MapEntry->MapEntry) (hg:∀ e,es[i]? = some e->(g e).key = .int .i64 x/\(g e).val = val w):ents val (es.toArray.modify i g).toList (m.set i (x,w)):=by
 unfold ents at h ⊢
 apply List.ext_getElem?
 intro j
 have hj:(es.map (fun e=>(e.key,e.val)))[j]? = (m.map (fun p=>(Value.int .i64 p.1,val p.2)))[j]?:=by rw [h]
 simp only [List.getElem?_map] at hj ⊢
 rw [Array.getElem?_toList,Array.getElem?_modify,List.getElem?_set,List.getElem?_toArray]
 by_cases hij:i = j
 ·subst hij
  rw [if_pos rfl]
  cases he:es[i]? with
  | none =>
   rw [he] at hj
   have:m[i]? = none:=by cases hm:m[i]? with
    | none=>rfl
    | some p=>rw [hm] at hj; cases hj
   have hlt:¬ i < m.length:=by intro hlt; rw [List.getElem?_eq_getElem hlt] at this; cases this
   simp [hlt]
  | some e =>
   rw [he] at hj
   have hlt:i < m.length:=by
    cases hm:m[i]? with
    | none=>rw [hm] at hj; cases hj
    | some p=>exact (List.getElem?_eq_some_iff.1 hm).1
   obtain ⟨g1,g2⟩:=hg e he
   simp [hlt,g1,g2]
 ·rw [if_neg hij,if_neg hij]; exact hj
theorem ents_push {val:τ->Value} {x:Int} {w:τ} {es:List MapEntry} {m:List (Int × τ)} {c:Nat} (h:ents val es m):ents val (es.toArray.push { key:=.int .i64 x,val:=val w,born:=c }).toList (m++[(x,w)]):=by
 unfold ents at h ⊢
 simp [h]
end
section
variable {P:Program} {l:List As} {h:Hp} {τ:Type} {S K E:TypeId} {z:Value} {val:τ->Value}
theorem uA {kd k:IntKind} {b:Bool} {x:Int} {Q:Unit->Hp->Prop} (e:P.underlying K = some (.int kd)) (q:Q () h):hp P (Instr.checkKey b 10000 K (.int k x)) Q h:=by
 unfold Instr.checkKey
 refine bZ (cM e ?_)
 exact q
theorem hp_findKey {kd:IntKind} {x:Int} {es:List MapEntry} {m:List (Int × τ)} {Q:Option (Nat × Value)->Hp->Prop} (e:P.underlying K = some (.int kd)) (he:ents val es m) (q:Q ((fi x m 0).map fun r=>(r.1,val r.2)) h):hp P (Instr.findKey K (.int .i64 x) es) Q h:=by
 unfold Instr.findKey
 refine bZ (cM e ?_)
 rw [find_now x 0 he]
 exact q
theorem hp_getObj {b:Nat} {o:Obj} {Q:Obj->Hp->Prop} (e:h b = some o) (hc:xl o = false) (q:Q o h):hp P (getObj b) Q h:=⟨o,e,hc,q⟩
theorem makeMap_m {R:Option Nat->Value} {Q:Option Nat->Hp->Prop} (hR:R = fun r=>.map r) (st:aE l h) (k:∀ b h',aE (mapA b val (fun _=>none)::l) h'->Q (some b) h'):hpv P (Instr.makeMap S none) R Q h:=by
 subst hR
 refine ⟨?_⟩
 unfold Instr.makeMap
 refine bZ ?_
 refine ⟨rfl,fun b hb=>⟨some b,rfl,k b _ ?_⟩⟩
 obtain ⟨h1,h2,d,e,a,s⟩:=new_s (o:=.map #[] 0) st hb
 exact ⟨h1,h2,d,e,⟨[],[],0,a,rfl,fun x=>rfl⟩,s⟩
theorem lookup_m {σ:Type} {j b:Nat} {f:Int->Option τ} {x:Int} {ok:Bool} {R:σ->Value} {Q:σ->Hp->Prop} (M:Mp P S K E z) (st:aE l h) (hj:l[j]? = some (mapA b val f)) (r:σ) (hr:(if ok then .tuple #[((f x).map val).getD z,.bool (f x).isSome] else ((f x).map val).getD z) = R r) (q:Q r h):hpv P (Instr.lookup S (.map (some b)) (.int .i64 x) ok) R Q h:=by
 refine ⟨?_⟩
 obtain ⟨h1,⟨es,m,clock,a,he,hf⟩,sub⟩:=dP hj st
 obtain ⟨kd,hk⟩:=M.key
 obtain ⟨i,hi,hz⟩:=M.inf
 unfold Instr.lookup
 refine bZ (cM M.mp ?_)
 refine bZ (hp_getObj (sub _ _ a) rfl ?_)
 refine bZ ?_
 rw [xm]
 refine bZ (uA hk ?_)
 refine bZ (hp_findKey (val:=val) hk he ?_)
 have hfx:=hf x
 cases hm:fi x m 0 with
 | none =>
  rw [hm] at hfx
  rw [← hfx] at hr
  refine bZ (oT hi hz ?_)
  exact ⟨r,hr,q⟩
 | some p =>
  rw [hm] at hfx
  rw [← hfx] at hr
  refine bZ ?_
  exact ⟨r,hr,q⟩
theorem update_m {j b:Nat} {f:Int->Option τ} {x:Int} {w:τ} {v:Value} {Q:Hp->Prop} (M:Mp P S K E z) (st:aE l h) (hj:l[j]? = some (mapA b val f)) (hv:v = val w) (k:∀ h',aE (l.set j (mapA b val (fun y=>if y = x then some w else f y))) h'->Q h'):hpu P (Instr.mapUpdate S (.map (some b)) (.int .i64 x) v) Q h:=by
 subst hv
 refine ⟨?_⟩
 obtain ⟨h1,h2,d,rfl,⟨es,m,clock,a,he,hf⟩,s'⟩:=fO hj st
 have hjl:=(List.getElem?_eq_some_iff.1 hj).1
 obtain ⟨kd,hk⟩:=M.key
 unfold Instr.mapUpdate
 refine bZ (cM M.mp ?_)
 refine bZ (hp_getObj (un_left a) rfl ?_)
 refine bZ (uA hk ?_)
 refine bZ (hp_findKey (val:=val) hk he ?_)
 cases hm:fi x m 0 with
 | none =>
  refine ⟨rfl,⟨_,un_left a,rfl⟩,?_⟩
  obtain ⟨d',e'⟩:=set_dj (o':=.map (es.toArray.push { key:=.int .i64 x,val:=val w,born:=clock }) (clock + 1)) d a
  rw [e']
  refine k _ (ee hjl ⟨_,h2,d',rfl,⟨_,m++[(x,w)],clock + 1,?_,ents_push (c:=clock) he,fun y=>?_⟩,s'⟩)
  ·exact iB _ _ _
  ·rw [fi_push hm,hf]
 | some p =>
  obtain ⟨i,u⟩:=p
  have hg:=fi_get hm
  have hge:∃ e,es[i]? = some e/\e.key = .int .i64 x:=by
   have hi:(es.map (fun e=>(e.key,e.val)))[i]? = (m.map (fun p=>(Value.int .i64 p.1,val p.2)))[i]?:=by rw [he]
   simp only [List.getElem?_map,hg,map_some] at hi
   cases hs:es[i]? with
   | none=>rw [hs] at hi; cases hi
   | some e=>rw [hs] at hi; simp at hi; exact ⟨e,rfl,hi.1⟩
  obtain ⟨e,hge,hkey⟩:=hge
  refine bZ ?_
  have hks:Instr.keyThatStays (((es.toArray[i]?).map (·.key)).getD (.int .i64 x)) (.int .i64 x) = pure (.int .i64 x):=by
   unfold Instr.keyThatStays
   have:((es.toArray[i]?).map (·.key)).getD (.int .i64 x) = .int .i64 x:=by simp [hge,hkey]
   rw [this]
   have sb:Instr.sameBits 10000 (.int .i64 x) (.int .i64 x) = true:=by unfold Instr.sameBits; simp
   rw [if_pos sb]
  simp only [map_some]
  rw [hks,xm]
  refine ⟨rfl,⟨_,un_left a,rfl⟩,?_⟩
  obtain ⟨d',e'⟩:=set_dj (o':=.map (es.toArray.modify i fun e=>{ e with key:=.int .i64 x,val:=val w }) clock) d a
  rw [e']
  refine k _ (ee hjl ⟨_,h2,d',rfl,⟨_,m.set i (x,w),clock,?_,ents_set (x:=x) (w:=w) he (fun e=>{ e with key:=.int .i64 x,val:=val w }) (fun e' _=>⟨rfl,rfl⟩),fun y=>?_⟩,s'⟩)
  ·exact iB _ _ _
  ·rw [fi_set hm,hf]
end
end Mb
end
section
open Go Mb
structure ai where
 e0:Int
 e1:Int
 e2:Int
 e3:Int
 e4:Int
def ai.C (x:ai):List Value:=[.int .u64 x.e0,.int .u64 x.e1,.int .u64 x.e2,.int .u64 x.e3,.int .u64 x.e4]
structure ab where
 fXa:Int
 fHb:Int
def ab.C (x:ab):List Value:=[.int .i64 x.fXa,.int .u64 x.fHb]
structure ao where
 fCa:Int
 fOa:Int
 fEa:Int
 fBa:Int
def ao.C (x:ao):List Value:=[.int .i64 x.fCa,.int .i64 x.fOa,.int .i64 x.fEa,.int .i64 x.fBa]
structure aF where
 fQa:Int
 fCa:Int
 fKa:ai
 fRa:Int
 fHa:Int
 fYa:Int
 fVa:ab
 fTa:ao
def aF.C (x:aF):List Value:=[.int .i64 x.fQa,.int .i64 x.fCa,.int .u64 x.fKa.e0,.int .u64 x.fKa.e1,.int .u64 x.fKa.e2,.int .u64 x.fKa.e3,.int .u64 x.fKa.e4,.int .i64 x.fRa,.int .i64 x.fHa,.int .i64 x.fYa,.int .i64 x.fVa.fXa,.int .u64 x.fVa.fHb,.int .i64 x.fTa.fCa,.int .i64 x.fTa.fOa,.int .i64 x.fTa.fEa,.int .i64 x.fTa.fBa]
structure lN where
 fat:Int
 fGa:Int
 fc:ai
 fPa:Bool
 fAb:Int
def lN.C (x:lN):List Value:=[.int .i64 x.fat,.int .i64 x.fGa,.int .u64 x.fc.e0,.int .u64 x.fc.e1,.int .u64 x.fc.e2,.int .u64 x.fc.e3,.int .u64 x.fc.e4,.bool x.fPa,.int .u64 x.fAb]
structure an where
 fEa:Int
 fDa:Int
 fBa:Int
def an.C (x:an):List Value:=[.int .i64 x.fEa,.int .i64 x.fDa,.int .i64 x.fBa]
structure aA where
 fEa:Int
 fBa:Int
 fCa:Int
 fDa:Int
def aA.C (x:aA):List Value:=[.int .i64 x.fEa,.int .i64 x.fBa,.int .i64 x.fCa,.int .i64 x.fDa]
structure ck where
 fl:ao
 fwhen:Int
def ck.C (x:ck):List Value:=[.int .i64 x.fl.fCa,.int .i64 x.fl.fOa,.int .i64 x.fl.fEa,.int .i64 x.fl.fBa,.int .i64 x.fwhen]
structure jd where
 e0:ck
 e1:ck
def jd.C (x:jd):List Value:=[.int .i64 x.e0.fl.fCa,.int .i64 x.e0.fl.fOa,.int .i64 x.e0.fl.fEa,.int .i64 x.e0.fl.fBa,.int .i64 x.e0.fwhen,.int .i64 x.e1.fl.fCa,.int .i64 x.e1.fl.fOa,.int .i64 x.e1.fl.fEa,.int .i64 x.e1.fl.fBa,.int .i64 x.e1.fwhen]
structure aG where
 fCa:Int
 fDa:Int
def aG.C (x:aG):List Value:=[.int .i64 x.fCa,.int .i64 x.fDa]
structure aJ where
 fWa:Int
 fIa:Int
 fCb:Int
def aJ.C (x:aJ):List Value:=[.int .i64 x.fWa,.int .i64 x.fIa,.int .i64 x.fCb]
structure sB where
 fl:Sl
def sB.C (x:sB):List Value:=[sv x.fl]
structure nY where
 frefs:Sl
def nY.C (x:nY):List Value:=[sv x.frefs]
structure od where
 fl:Sl
def od.C (x:od):List Value:=[sv x.fl]
structure gl where
 fs:aJ
 fm:Ptr
 ftables:Sl
 fpool:Ptr
 fcaps:Ptr
def gl.C (x:gl):List Value:=[.int .i64 x.fs.fWa,.int .i64 x.fs.fIa,.int .i64 x.fs.fCb,pv x.fm,sv x.ftables,pv x.fpool,pv x.fcaps]
structure kE where
 fes:Sl
 fs:aJ
 fk:Ptr
def kE.C (x:kE):List Value:=[sv x.fes,.int .i64 x.fs.fWa,.int .i64 x.fs.fIa,.int .i64 x.fs.fCb,pv x.fk]
structure nZ where
 fl:Sl
def nZ.C (x:nZ):List Value:=[sv x.fl]
structure jN where
 fowner:Sl
 fheard:Sl
def jN.C (x:jN):List Value:=[sv x.fowner,sv x.fheard]
structure fH where
 fp:Ptr
 fenvs:Int
 ftlbs:Sl
 fboxes:Ptr
 fepochs:Ptr
 fcalls:Sl
 fevents:Sl
 fnow:Int
def fH.C (x:fH):List Value:=[pv x.fp,.int .i64 x.fenvs,sv x.ftlbs,pv x.fboxes,pv x.fepochs,sv x.fcalls,sv x.fevents,.int .i64 x.fnow]
structure dO where
 fKind:Int
 fQa:Int
 fCa:Int
 fKa:ai
 fSet:Int
 fWay:Int
def dO.C (x:dO):List Value:=[.int .i64 x.fKind,.int .i64 x.fQa,.int .i64 x.fCa,.int .u64 x.fKa.e0,.int .u64 x.fKa.e1,.int .u64 x.fKa.e2,.int .u64 x.fKa.e3,.int .u64 x.fKa.e4,.int .i64 x.fSet,.int .i64 x.fWay]
structure bX where
 fDb:Int
 fCa:Int
 fKa:ai
 fXa:Value
def bX.C (x:bX):List Value:=[.int .i64 x.fDb,.int .i64 x.fCa,.int .u64 x.fKa.e0,.int .u64 x.fKa.e1,.int .u64 x.fKa.e2,.int .u64 x.fKa.e3,.int .u64 x.fKa.e4,x.fXa]
structure aL where
 ftyp_:Ptr
 fptr:Ptr
 fflag:Int
def aL.C (x:aL):List Value:=[pv x.ftyp_,pv x.fptr,.int .u64 x.fflag]
structure oa where
 fv:Int
 fn:Int
def oa.C (x:oa):List Value:=[.int .u64 x.fv,.int .i64 x.fn]
structure kD where
 fdrawn:Ptr
 fpassed:Ptr
def kD.C (x:kD):List Value:=[pv x.fdrawn,pv x.fpassed]
structure ra where
 fIs:Bool
 fEa:Int
 fBa:Int
 fCa:Int
 fDa:Int
def ra.C (x:ra):List Value:=[.bool x.fIs,.int .i64 x.fEa,.int .i64 x.fBa,.int .i64 x.fCa,.int .i64 x.fDa]
structure ir where
 fCa:Int
 fDa:Int
def ir.C (x:ir):List Value:=[.int .i64 x.fCa,.int .i64 x.fDa]
def eu (r:Sl):Value:=(sv r)
abbrev eL:Nat:=42
abbrev eR:Nat:=55
theorem vY:Fld prog 109 6 6:=z_k 1 underlying109
theorem en_55:aK prog 55:=R func55
theorem sc_42:Sc prog 42:=⟨⟨_,underlying42,rfl⟩,bH (by kernel_rfl)⟩
abbrev fS:Nat:=20
def aB (r:Bool):Value:=(.bool r)
theorem qi:Fld prog 109 5 5:=z_k 1 underlying109
theorem sc_107:Sc prog 107:=⟨⟨_,underlying107,rfl⟩,bH (by kernel_rfl)⟩
abbrev jE:Nat:=62
theorem slc_107:Slc prog 107 118 1:=⟨underlying107,bH (by kernel_rfl)⟩
theorem sc_118:Sc prog 118:=⟨⟨_,underlying118,rfl⟩,bH (by kernel_rfl)⟩
theorem en_62:aK prog 62:=R func62
abbrev eW:Nat:=31
theorem fld_109_1:Fld prog 109 1 1:=z_k 1 underlying109
theorem mq:Fld prog 109 7 7:=z_k 1 underlying109
theorem cr:prog.follows .mixedOrders = true:=by kernel_rfl
theorem ff:Ag prog 34 5:=⟨⟨_,underlying34,rfl⟩,bH (by kernel_rfl)⟩
theorem build_56_0_1_2_3 (y0:Int) (y1:Int) (y2:ai) (y3:Int):∀ w,(Instr.build 56 #[(0,(.int .i64 y0)),(1,(.int .i64 y1)),(2,(.agg (ai.C y2).toArray)),(3,(.int .i64 y3))]).run prog w = .ok (.agg (aF.C (⟨y0,y1,y2,y3,0,0,(⟨0,0⟩:ab),(⟨0,0,0,0⟩:ao)⟩:aF)).toArray) w:=fun _=>by kernel_rfl
theorem build_120_0_1_2 (y0:Int) (y1:Int) (y2:ai):∀ w,(Instr.build 120 #[(0,(.int .i64 y0)),(1,(.int .i64 y1)),(2,(.agg (ai.C y2).toArray))]).run prog w = .ok (.agg (lN.C (⟨y0,y1,y2,false,0⟩:lN)).toArray) w:=fun _=>by kernel_rfl
theorem inf_118:∃ i,prog.info? 118 = some i/\i.size = 1:=bH (by kernel_rfl)
abbrev cT:Nat:=120
theorem inf_42:∃ i,prog.info? 42 = some i/\i.size = 1:=bH (by kernel_rfl)
theorem bb:Sc prog 3:=⟨⟨_,underlying3,rfl⟩,bH (by kernel_rfl)⟩
theorem pK:∃ i,prog.info? 3 = some i/\i.size = 1:=bH (by kernel_rfl)
theorem en_31:aK prog 31:=R func31
abbrev kW:Nat:=27
def bM (r:Int × Bool):Value:=.tuple #[(.int .i64 r.1),(.bool r.2)]
theorem dc:Arr prog 34 5 22 1:=⟨underlying34,bH (by kernel_rfl)⟩
theorem cn:Sc prog 22:=⟨⟨_,underlying22,rfl⟩,bH (by kernel_rfl)⟩
abbrev n_word_Kind:Nat:=63
abbrev n_word_User:Nat:=64
def io (r:Ptr):Value:=(pv r)
abbrev ky:Nat:=214
abbrev lp:Nat:=107
def cx (r:Sl):Value:=(sv r)
abbrev dD:Nat:=39
abbrev rZ:Nat:=153
def ai.get (x:ai) (i:Int):Int:=match i.toNat with | 0=>x.e0 | 1=>x.e1 | 2=>x.e2 | 3=>x.e3 | 4=>x.e4 | _=>x.e4
theorem at_34 (x:ai) (i:Int) (h:0 <= i/\i < 5):(ai.C x)[0 + i.toNat * 1]? = some (.int .u64 (ai.get x i)):=by
 obtain ⟨n,rfl⟩:=Int.eq_ofNat_of_zero_le h.1
 have h2:n < 5:=by omega
 rcases n with _ | (_ | (_ | (_ | (_ | _)))) <;> first | rfl | omega
abbrev nl:Nat:=160
abbrev n_word_Rights:Nat:=193
theorem en_160:aK prog 160:=R func160
theorem en_193:aK prog 193:=R func193
abbrev n_word_fits:Nat:=154
def bh (r:Int):Value:=(.int .i64 r)
theorem fP:Slc prog 39 3 1:=⟨underlying39,bH (by kernel_rfl)⟩
theorem en_154:aK prog 154:=R func154
theorem en_153:aK prog 153:=R func153
theorem en_63:aK prog 63:=R func63
abbrev gP:Nat:=110
theorem vX:Fld prog 157 0 0:=z_k 3 underlying157
theorem mX:Fld prog 25 1 1:=z_k 1 underlying25
abbrev ke:Nat:=122
abbrev n_table_is:Nat:=156
def cA (r:an × Bool):Value:=.tuple #[(.agg (an.C r.1).toArray),(.bool r.2)]
theorem fX:∃ i,prog.info? 79 = some i/\i.zero = some (.agg (an.C (⟨0,0,0⟩:an)).toArray):=jq (by kernel_rfl)
theorem mY  : ∀ w,(Instr.build 79 #[]).run prog w = .ok (.agg (an.C (⟨0,0,0⟩:an)).toArray) w:=fun _=>by kernel_rfl
theorem fG:Ag prog 79 3:=⟨⟨_,underlying79,rfl⟩,bH (by kernel_rfl)⟩
theorem dM:∃ i,prog.info? 79 = some i/\i.size = 3:=bH (by kernel_rfl)
theorem kB:Fld prog 214 0 0:=z_k 24 underlying214
theorem xC:Arr prog 80 8 79 3:=⟨underlying80,bH (by kernel_rfl)⟩
theorem eJ:Fld prog 79 2 2:=z_k 1 underlying79
theorem en_156:aK prog 156:=R func156
abbrev eU:Nat:=135
theorem eZ:Fld prog 157 2 4:=z_k 1 underlying157
theorem na:Slc prog 153 161 1:=⟨underlying153,bH (by kernel_rfl)⟩
theorem en_135:aK prog 135:=R func135
theorem rg:Sc prog 161:=⟨⟨_,underlying161,rfl⟩,bH (by kernel_rfl)⟩
theorem mz:Sc prog 153:=⟨⟨_,underlying153,rfl⟩,bH (by kernel_rfl)⟩
theorem en_122:aK prog 122:=R func122
abbrev fR:Nat:=89
theorem hH:Fld prog 208 0 0:=z_k 1 underlying208
theorem pW:Sc prog 206:=⟨⟨_,underlying206,rfl⟩,bH (by kernel_rfl)⟩
abbrev ii:Nat:=151
def cO (r:aA × Bool):Value:=.tuple #[(.agg (aA.C r.1).toArray),(.bool r.2)]
theorem ip:∃ i,prog.info? 36 = some i/\i.zero = some (.agg (aA.C (⟨0,0,0,0⟩:aA)).toArray):=jq (by kernel_rfl)
theorem build_36  : ∀ w,(Instr.build 36 #[]).run prog w = .ok (.agg (aA.C (⟨0,0,0,0⟩:aA)).toArray) w:=fun _=>by kernel_rfl
theorem ag_36:Ag prog 36 4:=⟨⟨_,underlying36,rfl⟩,bH (by kernel_rfl)⟩
theorem gD:∃ i,prog.info? 36 = some i/\i.size = 4:=bH (by kernel_rfl)
theorem ov:Slc prog 206 205 32:=⟨underlying206,bH (by kernel_rfl)⟩
theorem qw:Arr prog 205 8 36 4:=⟨underlying205,bH (by kernel_rfl)⟩
theorem gL:Fld prog 36 1 1:=z_k 1 underlying36
theorem en_151:aK prog 151:=R func151
abbrev dX:Nat:=102
theorem fC:Fld prog 157 4 6:=z_k 1 underlying157
theorem tw:aK prog 102:=R func102
theorem ia:Sc prog 155:=⟨⟨_,underlying155,rfl⟩,bH (by kernel_rfl)⟩
abbrev ie:Nat:=53
abbrev n_pte_May:Nat:=166
theorem en_166:aK prog 166:=R func166
abbrev n_pte_Within:Nat:=116
theorem fd:Fld prog 120 2 2:=z_k 5 underlying120
theorem nX:Fld prog 109 0 0:=z_k 1 underlying109
theorem qX:Fld prog 36 2 2:=z_k 1 underlying36
theorem fld_36_3:Fld prog 36 3 3:=z_k 1 underlying36
theorem en_53:aK prog 53:=R func53
theorem pX:Sc prog 103:=⟨⟨_,underlying103,rfl⟩,bH (by kernel_rfl)⟩
abbrev fN:Nat:=36
theorem sA:Fld prog 120 1 1:=z_k 1 underlying120
abbrev qa:Nat:=165
def wi (r:an):Value:=(.agg (an.C r).toArray)
theorem tj:Fld prog 79 1 1:=z_k 1 underlying79
theorem mF:aK prog 116:=R func116
theorem en_165:aK prog 165:=R func165
abbrev me:Nat:=115
theorem en_115:aK prog 115:=R func115
theorem fld_120_3:Fld prog 120 3 7:=z_k 1 underlying120
theorem sc_4:Sc prog 4:=⟨⟨_,underlying4,rfl⟩,bH (by kernel_rfl)⟩
theorem en_89:aK prog 89:=R func89
abbrev mb:Nat:=111
def bK (r:Int × Bool):Value:=.tuple #[(.int .u64 r.1),(.bool r.2)]
def an.eqb (x y:an):Bool:=((x.fEa == y.fEa) && ((x.fDa == y.fDa) && ((x.fBa == y.fBa) && true)))
theorem eqr_79 (n:Nat) (x y:an):EqR prog (n + 2) 79 (.agg (an.C x).toArray) (.agg (an.C y).toArray) (an.eqb x y):=xy underlying79 (by kernel_rfl) (lI (by decide) (gY bb rfl) (gY bb rfl) (ju (n:=n + 0) underlying3) (lI (by decide) (gY bb rfl) (gY bb rfl) (ju (n:=n + 0) underlying3) (lI (by decide) (gY bb rfl) (gY bb rfl) (ju (n:=n + 0) underlying3) eqf_nil)))
theorem eqg_79:prog.eqGuardType prog.depth 79 = false:=by kernel_rfl
theorem qU:Fld prog 79 0 0:=z_k 1 underlying79
abbrev n_pte_Put:Nat:=155
theorem en_155:aK prog 155:=R func155
abbrev dW:Nat:=112
def R_api_Line (r:ao):Value:=(.agg (ao.C r).toArray)
theorem kP:∃ i,prog.info? 54 = some i/\i.zero = some (.agg (ao.C (⟨0,0,0,0⟩:ao)).toArray):=jq (by kernel_rfl)
theorem build_54_0 (y0:Int):∀ w,(Instr.build 54 #[(0,(.int .i64 y0))]).run prog w = .ok (.agg (ao.C (⟨y0,0,0,0⟩:ao)).toArray) w:=fun _=>by kernel_rfl
theorem hG:Ag prog 54 4:=⟨⟨_,underlying54,rfl⟩,bH (by kernel_rfl)⟩
theorem fK:∃ i,prog.info? 54 = some i/\i.size = 4:=bH (by kernel_rfl)
abbrev n_tlb_empty:Nat:=152
def jT (r:Ptr):Value:=(pv r)
theorem fld_173_0:Fld prog 173 0 0:=z_k 40 underlying173
theorem arr_171:Arr prog 171 4 170 10:=⟨underlying171,bH (by kernel_rfl)⟩
theorem arr_170:Arr prog 170 2 169 5:=⟨underlying170,bH (by kernel_rfl)⟩
theorem qh:Fld prog 169 0 0:=z_k 4 underlying169
theorem kx:Fld prog 54 0 0:=z_k 1 underlying54
theorem mW:Fld prog 54 1 1:=z_k 1 underlying54
abbrev oI:Nat:=167
theorem en_152:aK prog 152:=R func152
theorem en_167:aK prog 167:=R func167
abbrev ne:Nat:=117
def fI (r:ao × Bool):Value:=.tuple #[(.agg (ao.C r.1).toArray),(.bool r.2)]
theorem lM  : ∀ w,(Instr.build 54 #[]).run prog w = .ok (.agg (ao.C (⟨0,0,0,0⟩:ao)).toArray) w:=fun _=>by kernel_rfl
abbrev oJ:Nat:=157
abbrev n_pte_Lets:Nat:=158
theorem fld_169_1:Fld prog 169 1 4:=z_k 1 underlying169
abbrev sZ:Nat:=194
theorem lG:Fld prog 54 2 2:=z_k 1 underlying54
theorem qW:Fld prog 54 3 3:=z_k 1 underlying54
theorem fld_173_1:Fld prog 173 1 40:=z_k 1 underlying173
theorem build_169_0_1 (y0:ao) (y1:Int):∀ w,(Instr.build 169 #[(0,(.agg (ao.C y0).toArray)),(1,(.int .i64 y1))]).run prog w = .ok (.agg (ck.C (⟨y0,y1⟩:ck)).toArray) w:=fun _=>by kernel_rfl
theorem inf_169:∃ i,prog.info? 169 = some i/\i.size = 5:=bH (by kernel_rfl)
theorem en_194:aK prog 194:=R func194
abbrev oK:Nat:=159
theorem en_117:aK prog 117:=R func117
theorem we (y0:Int) (y1:Int) (y2:Int) (y3:Int):∀ w,(Instr.build 54 #[(0,(.int .i64 y0)),(1,(.int .i64 y1)),(2,(.int .i64 y2)),(3,(.int .i64 y3))]).run prog w = .ok (.agg (ao.C (⟨y0,y1,y2,y3⟩:ao)).toArray) w:=fun _=>by kernel_rfl
theorem en_159:aK prog 159:=R func159
theorem en_158:aK prog 158:=R func158
theorem en_157:aK prog 157:=R func157
abbrev ur:Nat:=113
def eA (r:Int):Value:=(.int .i64 r)
theorem sy:Fld prog 212 0 0:=z_k 1 underlying212
theorem lf:Sc prog 163:=⟨⟨_,underlying163,rfl⟩,bH (by kernel_rfl)⟩
abbrev vM:Nat:=204
def sC (r:Ptr):Value:=(pv r)
theorem lR:Slc prog 163 93 1:=⟨underlying163,bH (by kernel_rfl)⟩
theorem wz:Slc prog 93 22 1:=⟨underlying93,bH (by kernel_rfl)⟩
theorem sc_93:Sc prog 93:=⟨⟨_,underlying93,rfl⟩,bH (by kernel_rfl)⟩
theorem en_204:aK prog 204:=R func204
abbrev lZ:Nat:=179
theorem en_179:aK prog 179:=R func179
abbrev ig:Nat:=161
theorem inf_22:∃ i,prog.info? 22 = some i/\i.size = 1:=bH (by kernel_rfl)
abbrev fE:Nat:=162
theorem en_162:aK prog 162:=R func162
theorem en_161:aK prog 161:=R func161
abbrev qo:Nat:=163
abbrev qp:Nat:=164
def bd (r:ab × Bool):Value:=.tuple #[(.agg (ab.C r.1).toArray),(.bool r.2)]
theorem cY:∃ i,prog.info? 30 = some i/\i.zero = some (.agg (ab.C (⟨0,0⟩:ab)).toArray):=jq (by kernel_rfl)
theorem tA  : ∀ w,(Instr.build 30 #[]).run prog w = .ok (.agg (ab.C (⟨0,0⟩:ab)).toArray) w:=fun _=>by kernel_rfl
theorem cz:Ag prog 30 2:=⟨⟨_,underlying30,rfl⟩,bH (by kernel_rfl)⟩
theorem bL:∃ i,prog.info? 30 = some i/\i.size = 2:=bH (by kernel_rfl)
theorem jm (y1:Int):∀ w,(Instr.build 30 #[(1,(.int .u64 y1))]).run prog w = .ok (.agg (ab.C (⟨0,y1⟩:ab)).toArray) w:=fun _=>by kernel_rfl
theorem mo:Fld prog 157 1 3:=z_k 1 underlying157
theorem wT:Sc prog 152:=⟨⟨_,underlying152,rfl⟩,bH (by kernel_rfl)⟩
theorem en_163:aK prog 163:=R func163
theorem en_164:aK prog 164:=R func164
theorem en_64:aK prog 64:=R func64
abbrev eV:Nat:=114
def eG (r:ab × ao):Value:=.tuple #[(.agg (ab.C r.1).toArray),(.agg (ao.C r.2).toArray)]
theorem jn (y0:Int):∀ w,(Instr.build 30 #[(0,(.int .i64 y0))]).run prog w = .ok (.agg (ab.C (⟨y0,0⟩:ab)).toArray) w:=fun _=>by kernel_rfl
theorem iD:Fld prog 109 2 2:=z_k 1 underlying109
theorem slc_104:Slc prog 104 114 1:=⟨underlying104,bH (by kernel_rfl)⟩
theorem uY:aK prog 114:=R func114
theorem en_113:aK prog 113:=R func113
theorem sc_114:Sc prog 114:=⟨⟨_,underlying114,rfl⟩,bH (by kernel_rfl)⟩
theorem wU:Sc prog 104:=⟨⟨_,underlying104,rfl⟩,bH (by kernel_rfl)⟩
theorem en_112:aK prog 112:=R func112
theorem en_111:aK prog 111:=R func111
theorem en_107:aK prog 107:=R func107
theorem en_110:aK prog 110:=R func110
abbrev nt:Nat:=65
def R_ (_:Unit):Value:=.tuple #[]
theorem fld_120_0:Fld prog 120 0 0:=z_k 1 underlying120
theorem re:Slc prog 42 56 16:=⟨underlying42,bH (by kernel_rfl)⟩
theorem iY:Fld prog 56 4 8:=z_k 1 underlying56
theorem qV:Fld prog 56 5 9:=z_k 1 underlying56
theorem gK:Fld prog 56 6 10:=z_k 2 underlying56
theorem gi:Fld prog 56 7 12:=z_k 4 underlying56
abbrev mf:Nat:=66
abbrev oL:Nat:=67
def rb (r:Sl):Value:=(sv r)
abbrev t_2_tlb_line:Nat:=170
def R_tlb_line (r:ck):Value:=(.agg (ck.C r).toArray)
theorem zero_169:∃ i,prog.info? 169 = some i/\i.zero = some (.agg (ck.C (⟨(⟨0,0,0,0⟩:ao),0⟩:ck)).toArray):=jq (by kernel_rfl)
abbrev qF:Nat:=76
theorem ag_170:Ag prog 170 10:=⟨⟨_,underlying170,rfl⟩,bH (by kernel_rfl)⟩
abbrev rh:Nat:=87
theorem slc_76:Slc prog 76 54 4:=⟨underlying76,bH (by kernel_rfl)⟩
theorem en_87:aK prog 87:=R func87
abbrev kV:Nat:=68
theorem fld_167_1:Fld prog 167 1 1:=z_k 1 underlying167
abbrev kX:Nat:=118
def gM (r:Int):Value:=(.int .u64 r)
theorem fld_167_0:Fld prog 167 0 0:=z_k 1 underlying167
theorem sc_39:Sc prog 39:=⟨⟨_,underlying39,rfl⟩,bH (by kernel_rfl)⟩
abbrev fT:Nat:=119
theorem en_119:aK prog 119:=R func119
theorem inf_39:∃ i,prog.info? 39 = some i/\i.size = 1:=bH (by kernel_rfl)
theorem en_118:aK prog 118:=R func118
abbrev iS:Nat:=69
theorem mn:Fld prog 165 0 0:=z_k 1 underlying165
abbrev lz:Nat:=168
abbrev te:Nat:=218
theorem en_218:aK prog 218:=R func218
abbrev uw:Nat:=195
abbrev pI:Nat:=196
theorem en_195:aK prog 195:=R func195
theorem en_196:aK prog 196:=R func196
abbrev eH:Nat:=169
abbrev bf:Nat:=93
def ce (r:Sl):Value:=(sv r)
abbrev sc:Nat:=198
abbrev kR:Nat:=3
abbrev uS:Nat:=197
theorem en_198:aK prog 198:=R func198
abbrev dB:Nat:=170
theorem inf_93:∃ i,prog.info? 93 = some i/\i.size = 1:=bH (by kernel_rfl)
theorem en_170:aK prog 170:=R func170
theorem en_169:aK prog 169:=R func169
theorem en_168:aK prog 168:=R func168
abbrev pZ:Nat:=120
theorem en_120:aK prog 120:=R func120
abbrev nh:Nat:=70
abbrev iR:Nat:=121
theorem en_121:aK prog 121:=R func121
abbrev jt:Nat:=71
abbrev n_plain_fails:Nat:=123
theorem build_36_0_1_2 (y0:Int) (y1:Int) (y2:Int):∀ w,(Instr.build 36 #[(0,(.int .i64 y0)),(1,(.int .i64 y1)),(2,(.int .i64 y2))]).run prog w = .ok (.agg (aA.C (⟨y0,y1,y2,0⟩:aA)).toArray) w:=fun _=>by kernel_rfl
abbrev jG:Nat:=142
abbrev jZ:Nat:=199
theorem nV:Fld prog 210 0 0:=z_k 1 underlying210
theorem en_199:aK prog 199:=R func199
abbrev jC:Nat:=171
abbrev t_none:Nat:=0
abbrev tb:Nat:=172
theorem nW:Fld prog 157 3 5:=z_k 1 underlying157
theorem en_142:aK prog 142:=R func142
theorem en_172:aK prog 172:=R func172
theorem en_171:aK prog 171:=R func171
theorem sc_154:Sc prog 154:=⟨⟨_,underlying154,rfl⟩,bH (by kernel_rfl)⟩
abbrev lu:Nat:=124
theorem tn:Fld prog 36 0 0:=z_k 1 underlying36
theorem build_36_0_1_2_3 (y0:Int) (y1:Int) (y2:Int) (y3:Int):∀ w,(Instr.build 36 #[(0,(.int .i64 y0)),(1,(.int .i64 y1)),(2,(.int .i64 y2)),(3,(.int .i64 y3))]).run prog w = .ok (.agg (aA.C (⟨y0,y1,y2,y3⟩:aA)).toArray) w:=fun _=>by kernel_rfl
abbrev ij:Nat:=143
abbrev jD:Nat:=200
theorem en_200:aK prog 200:=R func200
abbrev lX:Nat:=173
def cW (r:Sl):Value:=(sv r)
abbrev lc:Nat:=205
def R_api_Cap (r:aA):Value:=(.agg (aA.C r).toArray)
theorem va (y0:Int) (y1:Int):∀ w,(Instr.build 233 #[(0,(.int .i64 y0)),(1,(.int .i64 y1))]).run prog w = .ok (.agg (aG.C (⟨y0,y1⟩:aG)).toArray) w:=fun _=>by kernel_rfl
theorem zero_233:∃ i,prog.info? 233 = some i/\i.zero = some (.agg (aG.C (⟨0,0⟩:aG)).toArray):=jq (by kernel_rfl)
theorem ag_233:Ag prog 233 2:=⟨⟨_,underlying233,rfl⟩,bH (by kernel_rfl)⟩
abbrev gV:Nat:=201
theorem inf_233:∃ i,prog.info? 233 = some i/\i.size = 2:=bH (by kernel_rfl)
abbrev kw:Nat:=188
abbrev mi:Nat:=201
theorem slc_201:Slc prog 201 233 2:=⟨underlying201,bH (by kernel_rfl)⟩
theorem fld_233_0:Fld prog 233 0 0:=z_k 1 underlying233
theorem fld_233_1:Fld prog 233 1 1:=z_k 1 underlying233
abbrev gH:Nat:=202
abbrev kY:Nat:=190
def aG.eqb (x y:aG):Bool:=((x.fCa == y.fCa) && ((x.fDa == y.fDa) && true))
theorem eqr_233 (n:Nat) (x y:aG):EqR prog (n + 2) 233 (.agg (aG.C x).toArray) (.agg (aG.C y).toArray) (aG.eqb x y):=xy underlying233 (by kernel_rfl) (lI (by decide) (gY bb rfl) (gY bb rfl) (ju (n:=n + 0) underlying3) (lI (by decide) (gY bb rfl) (gY bb rfl) (ju (n:=n + 0) underlying3) eqf_nil))
theorem eqg_233:prog.eqGuardType prog.depth 233 = false:=by kernel_rfl
theorem en_190:aK prog 190:=R func190
abbrev gI:Nat:=203
def dy (r:Sl × Int):Value:=.tuple #[(sv r.1),(.int .i64 r.2)]
theorem en_202:aK prog 202:=R func202
theorem en_188:aK prog 188:=R func188
abbrev rQ:Nat:=233
theorem en_201:aK prog 201:=R func201
abbrev rR:Nat:=155
abbrev mj:Nat:=174
theorem en_174:aK prog 174:=R func174
theorem en_173:aK prog 173:=R func173
theorem en_143:aK prog 143:=R func143
abbrev iq:Nat:=125
def jw (r:an × Int):Value:=.tuple #[(.agg (an.C r.1).toArray),(.int .i64 r.2)]
abbrev iQ:Nat:=128
abbrev lC:Nat:=189
abbrev kZ:Nat:=147
theorem en_147:aK prog 147:=R func147
abbrev nv:Nat:=175
abbrev tO:Nat:=80
abbrev lW:Nat:=176
abbrev ng:Nat:=177
def gT (r:ab):Value:=(.agg (ab.C r).toArray)
theorem en_128:aK prog 128:=R func128
theorem en_177:aK prog 177:=R func177
theorem en_176:aK prog 176:=R func176
theorem en_175:aK prog 175:=R func175
abbrev kG:Nat:=126
theorem oX (y0:Int) (y1:Int) (y2:Int):∀ w,(Instr.build 79 #[(0,(.int .i64 y0)),(1,(.int .i64 y1)),(2,(.int .i64 y2))]).run prog w = .ok (.agg (an.C (⟨y0,y1,y2⟩:an)).toArray) w:=fun _=>by kernel_rfl
abbrev mC:Nat:=127
abbrev kF:Nat:=178
theorem en_178:aK prog 178:=R func178
abbrev ka:Nat:=129
abbrev n_pred_Holds:Nat:=148
theorem rq:aK prog 123:=R func123
theorem en_148:aK prog 148:=R func148
abbrev lr:Nat:=130
abbrev mA:Nat:=131
theorem en_126:aK prog 126:=R func126
theorem en_124:aK prog 124:=R func124
theorem en_125:aK prog 125:=R func125
theorem en_127:aK prog 127:=R func127
theorem en_129:aK prog 129:=R func129
theorem en_130:aK prog 130:=R func130
theorem en_131:aK prog 131:=R func131
abbrev dz:Nat:=72
theorem en_66:aK prog 66:=R func66
theorem en_65:aK prog 65:=R func65
theorem fld_109_4:Fld prog 109 4 4:=z_k 1 underlying109
theorem fld_120_4:Fld prog 120 4 8:=z_k 1 underlying120
theorem fld_109_3:Fld prog 109 3 3:=z_k 1 underlying109
theorem en_70:aK prog 70:=R func70
theorem sc_105:Sc prog 105:=⟨⟨_,underlying105,rfl⟩,bH (by kernel_rfl)⟩
theorem en_69:aK prog 69:=R func69
theorem sc_106:Sc prog 106:=⟨⟨_,underlying106,rfl⟩,bH (by kernel_rfl)⟩
theorem en_68:aK prog 68:=R func68
theorem inf_4:∃ i,prog.info? 4 = some i/\i.size = 1:=bH (by kernel_rfl)
theorem en_72:aK prog 72:=R func72
theorem en_71:aK prog 71:=R func71
theorem en_67:aK prog 67:=R func67
abbrev mg:Nat:=28
abbrev kU:Nat:=132
theorem en_132:aK prog 132:=R func132
abbrev ma:Nat:=97
abbrev kh:Nat:=98
theorem en_98:aK prog 98:=R func98
theorem en_97:aK prog 97:=R func97
abbrev qb:Nat:=46
abbrev qc:Nat:=73
theorem en_28:aK prog 28:=R func28
theorem en_46:aK prog 46:=R func46
theorem en_73:aK prog 73:=R func73
abbrev fy:Nat:=29
theorem tm:Fld prog 56 0 0:=z_k 1 underlying56
theorem en_20:aK prog 20:=R func20
theorem en_29:aK prog 29:=R func29
theorem en_27:aK prog 27:=R func27
abbrev de:Nat:=16
theorem oV:Fld prog 25 0 0:=z_k 1 underlying25
theorem oU:Fld prog 56 1 1:=z_k 1 underlying56
theorem tk:Fld prog 56 3 7:=z_k 1 underlying56
abbrev n_hist_one:Nat:=61
abbrev jz:Nat:=61
def R_map_int_bool (r:(Option Nat)):Value:=(.map r)
abbrev gU:Nat:=95
def R_map_int_int (r:(Option Nat)):Value:=(.map r)
theorem zero_56:∃ i,prog.info? 56 = some i/\i.zero = some (.agg (aF.C (⟨0,0,(⟨0,0,0,0,0⟩:ai),0,0,0,(⟨0,0⟩:ab),(⟨0,0,0,0⟩:ao)⟩:aF)).toArray):=jq (by kernel_rfl)
theorem ag_56:Ag prog 56 16:=⟨⟨_,underlying56,rfl⟩,bH (by kernel_rfl)⟩
theorem qZ:Ag prog 25 3:=⟨⟨_,underlying25,rfl⟩,bH (by kernel_rfl)⟩
theorem en_61:aK prog 61:=R func61
theorem inf_56:∃ i,prog.info? 56 = some i/\i.size = 16:=bH (by kernel_rfl)
abbrev xf:Nat:=25
abbrev qr:Nat:=92
abbrev ni:Nat:=93
abbrev bW:Nat:=181
abbrev kv:Nat:=182
theorem en_182:aK prog 182:=R func182
theorem en_181:aK prog 181:=R func181
abbrev lq:Nat:=137
theorem en_137:aK prog 137:=R func137
abbrev fJ:Nat:=94
abbrev n_cmp_isNaN_int:Nat:=138
theorem en_138:aK prog 138:=R func138
abbrev ux:Nat:=96
theorem en_96:aK prog 96:=R func96
abbrev rm:Nat:=95
theorem en_94:aK prog 94:=R func94
theorem en_92:aK prog 92:=R func92
abbrev oO:Nat:=44
def tE (r:Ptr):Value:=(pv r)
theorem build_212  : ∀ w,(Instr.build 212 #[]).run prog w = .ok (.agg (sB.C (⟨(⟨none,0,0,none⟩:Sl)⟩:sB)).toArray) w:=fun _=>by kernel_rfl
abbrev pT:Nat:=163
def R_SSuint64 (r:Sl):Value:=(sv r)
theorem inf_163:∃ i,prog.info? 163 = some i/\i.size = 1:=bH (by kernel_rfl)
abbrev lO:Nat:=212
abbrev vJ:Nat:=104
def sm (r:Ptr):Value:=(pv r)
theorem build_210_0 (y0:Sl):∀ w,(Instr.build 210 #[(0,(sv y0))]).run prog w = .ok (.agg (nY.C (⟨y0⟩:nY)).toArray) w:=fun _=>by kernel_rfl
abbrev qC:Nat:=210
abbrev xd:Nat:=105
def sn (r:Ptr):Value:=(pv r)
abbrev t_S_8_api_Cap:Nat:=206
def R_S_8_api_Cap (r:Sl):Value:=(sv r)
theorem build_208_0 (y0:Sl):∀ w,(Instr.build 208 #[(0,(sv y0))]).run prog w = .ok (.agg (od.C (⟨y0⟩:od)).toArray) w:=fun _=>by kernel_rfl
abbrev nF:Nat:=208
abbrev xg:Nat:=106
def dI (r:Ptr):Value:=(pv r)
theorem vS:Fld prog 25 2 2:=z_k 1 underlying25
theorem build_157_0_1_3_4 (y0:aJ) (y1:Ptr) (y3:Ptr) (y4:Ptr):∀ w,(Instr.build 157 #[(0,(.agg (aJ.C y0).toArray)),(1,(pv y1)),(3,(pv y3)),(4,(pv y4))]).run prog w = .ok (.agg (gl.C (⟨y0,y1,(⟨none,0,0,none⟩:Sl),y3,y4⟩:gl)).toArray) w:=fun _=>by kernel_rfl
abbrev eM:Nat:=153
def nj (r:Sl):Value:=(sv r)
theorem inf_153:∃ i,prog.info? 153 = some i/\i.size = 1:=bH (by kernel_rfl)
abbrev cy:Nat:=157
theorem en_106:aK prog 106:=R func106
theorem en_105:aK prog 105:=R func105
theorem en_104:aK prog 104:=R func104
abbrev nN:Nat:=56
theorem lF:Fld prog 56 2 2:=z_k 5 underlying56
abbrev n_judge_user:Nat:=139
abbrev gB:Nat:=180
theorem en_180:aK prog 180:=R func180
abbrev rj:Nat:=136
abbrev mB:Nat:=207
theorem en_136:aK prog 136:=R func136
theorem en_207:aK prog 207:=R func207
theorem en_56:aK prog 56:=R func56
abbrev gG:Nat:=184
abbrev td:Nat:=221
abbrev n_hist_Over:Nat:=206
def qn (r:Sl):Value:=(sv r)
theorem vW:Fld prog 196 2 4:=z_k 1 underlying196
abbrev pS:Nat:=240
theorem fld_196_0:Fld prog 196 0 0:=z_k 1 underlying196
theorem en_184:aK prog 184:=R func184
theorem en_206:aK prog 206:=R func206
abbrev lA:Nat:=183
theorem fld_196_1:Fld prog 196 1 1:=z_k 3 underlying196
def ab.eqb (x y:ab):Bool:=((x.fXa == y.fXa) && ((x.fHb == y.fHb) && true))
theorem mT:Sc prog 28:=⟨⟨_,underlying28,rfl⟩,bH (by kernel_rfl)⟩
theorem eqr_30 (n:Nat) (x y:ab):EqR prog (n + 2) 30 (.agg (ab.C x).toArray) (.agg (ab.C y).toArray) (ab.eqb x y):=xy underlying30 (by kernel_rfl) (lI (by decide) (gY mT rfl) (gY mT rfl) (ju (n:=n + 0) underlying28) (lI (by decide) (gY cn rfl) (gY cn rfl) (ju (n:=n + 0) underlying22) eqf_nil))
theorem eqg_30:prog.eqGuardType prog.depth 30 = false:=by kernel_rfl
def ao.eqb (x y:ao):Bool:=((x.fCa == y.fCa) && ((x.fOa == y.fOa) && ((x.fEa == y.fEa) && ((x.fBa == y.fBa) && true))))
theorem eqr_54 (n:Nat) (x y:ao):EqR prog (n + 2) 54 (.agg (ao.C x).toArray) (.agg (ao.C y).toArray) (ao.eqb x y):=xy underlying54 (by kernel_rfl) (lI (by decide) (gY bb rfl) (gY bb rfl) (ju (n:=n + 0) underlying3) (lI (by decide) (gY bb rfl) (gY bb rfl) (ju (n:=n + 0) underlying3) (lI (by decide) (gY bb rfl) (gY bb rfl) (ju (n:=n + 0) underlying3) (lI (by decide) (gY bb rfl) (gY bb rfl) (ju (n:=n + 0) underlying3) eqf_nil))))
theorem eqg_54:prog.eqGuardType prog.depth 54 = false:=by kernel_rfl
theorem slc_240:Slc prog 240 79 3:=⟨underlying240,bH (by kernel_rfl)⟩
theorem iZ:Fld prog 30 0 0:=z_k 1 underlying30
theorem vR:Fld prog 30 1 1:=z_k 1 underlying30
theorem en_183:aK prog 183:=R func183
abbrev lB:Nat:=140
abbrev nu:Nat:=141
theorem build_196_0_1_2 (y0:Sl) (y1:aJ) (y2:Ptr):∀ w,(Instr.build 196 #[(0,(sv y0)),(1,(.agg (aJ.C y1).toArray)),(2,(pv y2))]).run prog w = .ok (.agg (kE.C (⟨y0,y1,y2⟩:kE)).toArray) w:=fun _=>by kernel_rfl
theorem en_141:aK prog 141:=R func141
theorem en_140:aK prog 140:=R func140
theorem en_139:aK prog 139:=R func139
theorem en_44:aK prog 44:=R func44
abbrev dl:Nat:=196
theorem en_25:aK prog 25:=R func25
abbrev ut:Nat:=99
theorem en_99:aK prog 99:=R func99
abbrev oM:Nat:=47
abbrev oN:Nat:=48
theorem en_48:aK prog 48:=R func48
theorem en_47:aK prog 47:=R func47
abbrev uT:Nat:=19
def pb (r:Ptr):Value:=(pv r)
theorem build_165_0 (y0:Sl):∀ w,(Instr.build 165 #[(0,(sv y0))]).run prog w = .ok (.agg (nZ.C (⟨y0⟩:nZ)).toArray) w:=fun _=>by kernel_rfl
abbrev lb:Nat:=165
abbrev tc:Nat:=57
def iF (r:Ptr):Value:=(pv r)
theorem build_167_1 (y1:Sl):∀ w,(Instr.build 167 #[(1,(sv y1))]).run prog w = .ok (.agg (jN.C (⟨(⟨none,0,0,none⟩:Sl),y1⟩:jN)).toArray) w:=fun _=>by kernel_rfl
abbrev hY:Nat:=167
abbrev nR:Nat:=58
abbrev ri:Nat:=108
def gE (r:Ptr):Value:=(pv r)
abbrev pR:Nat:=173
theorem en_108:aK prog 108:=R func108
abbrev iA:Nat:=59
def ko (r:Ptr):Value:=(pv r)
abbrev mP:Nat:=107
def qx (r:Sl):Value:=(sv r)
theorem mG (y0:Ptr) (y1:Int) (y3:Ptr) (y4:Ptr) (y5:Sl):∀ w,(Instr.build 109 #[(0,(pv y0)),(1,(.int .i64 y1)),(3,(pv y3)),(4,(pv y4)),(5,(sv y5))]).run prog w = .ok (.agg (fH.C (⟨y0,y1,(⟨none,0,0,none⟩:Sl),y3,y4,y5,(⟨none,0,0,none⟩:Sl),0⟩:fH)).toArray) w:=fun _=>by kernel_rfl
abbrev bS:Nat:=104
def dJ (r:Sl):Value:=(sv r)
theorem inf_104:∃ i,prog.info? 104 = some i/\i.size = 1:=bH (by kernel_rfl)
theorem en_59:aK prog 59:=R func59
abbrev cj:Nat:=109
theorem en_58:aK prog 58:=R func58
theorem en_57:aK prog 57:=R func57
abbrev xe:Nat:=23
def oe (r:Sl):Value:=(sv r)
abbrev nG:Nat:=45
theorem build_51_0_1 (y0:Int) (y1:Int):∀ w,(Instr.build 51 #[(0,(.int .i64 y0)),(1,(.int .i64 y1))]).run prog w = .ok (.agg (dO.C (⟨y0,y1,0,(⟨0,0,0,0,0⟩:ai),0,0⟩:dO)).toArray) w:=fun _=>by kernel_rfl
abbrev uU:Nat:=49
abbrev lY:Nat:=103
theorem en_103:aK prog 103:=R func103
abbrev mD:Nat:=54
abbrev wZ:Nat:=185
theorem en_185:aK prog 185:=R func185
abbrev n_user_Do:Nat:=144
def iu (r:Value):Value:=(r)
theorem build_254_0_1 (y0:Int) (y1:Int):∀ w,(Instr.build 254 #[(0,(.int .i64 y0)),(1,(.int .i64 y1))]).run prog w = .ok (.agg (bX.C (⟨y0,y1,(⟨0,0,0,0,0⟩:ai),Value.nilIface⟩:bX)).toArray) w:=fun _=>by kernel_rfl
abbrev bg:Nat:=252
abbrev nE:Nat:=254
abbrev kA:Nat:=150
abbrev ge:Nat:=191
theorem ag_296:Ag prog 296 3:=⟨⟨_,underlying296,rfl⟩,bH (by kernel_rfl)⟩
abbrev ft:Nat:=233
def fD (r:aL):Value:=(.agg (aL.C r).toArray)
abbrev cX:Nat:=229
abbrev fz:Nat:=234
abbrev gq:Nat:=199
abbrev jf:Nat:=277
def gm (r:Value × Bool):Value:=.tuple #[(r.1),(.bool r.2)]
abbrev iw:Nat:=279
def fW (r:Value × Bool):Value:=.tuple #[(r.1),(.bool r.2)]
def R_Serror (r:Sl):Value:=(sv r)
theorem slc_280:Slc prog 280 199 1:=⟨underlying280,bH (by kernel_rfl)⟩
abbrev uu:Nat:=232
theorem en_232:aK prog 232:=R func232
theorem sc_199:Sc prog 199:=⟨⟨_,underlying199,rfl⟩,bH (by kernel_rfl)⟩
abbrev qD:Nat:=305
def nC (r:Value × Bool):Value:=.tuple #[(r.1),(.bool r.2)]
theorem zero_296:∃ i,prog.info? 296 = some i/\i.zero = some (.agg (aL.C (⟨none,none,0⟩:aL)).toArray):=jq (by kernel_rfl)
abbrev iv:Nat:=230
def R_abi_Kind (r:Int):Value:=(.int .u8 r)
def str_6ae768b9:ByteArray:=⟨#[101,114,114,111,114,115,58,32,42,116,97,114,103,101,116,32,109,117,115,116,32,98,101,32,105,110,116,101,114,102,97,99,101,32,111,114,32,105,109,112,108,101,109,101,110,116,32,101,114,114,111,114]⟩
abbrev vb:Nat:=9
theorem sc_249:Sc prog 249:=⟨⟨_,underlying249,rfl⟩,bH (by kernel_rfl)⟩
abbrev eS:Nat:=231
def str_ae9b7a08:ByteArray:=⟨#[101,114,114,111,114,115,58,32,116,97,114,103,101,116,32,109,117,115,116,32,98,101,32,97,32,110,111,110,45,110,105,108,32,112,111,105,110,116,101,114]⟩
theorem inf_296:∃ i,prog.info? 296 = some i/\i.size = 3:=bH (by kernel_rfl)
def str_53947bae:ByteArray:=⟨#[101,114,114,111,114,115,58,32,116,97,114,103,101,116,32,99,97,110,110,111,116,32,98,101,32,110,105,108]⟩
abbrev uv:Nat:=227
def eF (r:Ptr × Bool):Value:=.tuple #[(pv r.1),(.bool r.2)]
theorem zero_252:∃ i,prog.info? 252 = some i/\i.zero = some (pv none):=jq (by kernel_rfl)
theorem sc_252:Sc prog 252:=⟨⟨_,underlying252,rfl⟩,bH (by kernel_rfl)⟩
abbrev bB:Nat:=290
theorem en_227:aK prog 227:=R func227
abbrev jX:Nat:=222
theorem vV:Fld prog 254 0 0:=z_k 1 underlying254
theorem en_222:aK prog 222:=R func222
abbrev us:Nat:=208
def R_trap_Trap (r:bX):Value:=(.agg (bX.C r).toArray)
theorem en_208:aK prog 208:=R func208
abbrev n_trap_In:Nat:=186
theorem xz:aK prog 150:=R func150
theorem en_186:aK prog 186:=R func186
abbrev ns:Nat:=145
def pd (r:Ptr):Value:=(pv r)
theorem build_285_0 (y0:Int):∀ w,(Instr.build 285 #[(0,(.int .u64 y0))]).run prog w = .ok (.agg (oa.C (⟨y0,0⟩:oa)).toArray) w:=fun _=>by kernel_rfl
abbrev qE:Nat:=285
abbrev tf:Nat:=209
def tD (r:Ptr):Value:=(pv r)
theorem build_287_0_1 (y0:Ptr) (y1:Ptr):∀ w,(Instr.build 287 #[(0,(pv y0)),(1,(pv y1))]).run prog w = .ok (.agg (kD.C (⟨y0,y1⟩:kD)).toArray) w:=fun _=>by kernel_rfl
abbrev mN:Nat:=287
theorem en_209:aK prog 209:=R func209
abbrev xc:Nat:=210
theorem sx:Fld prog 285 1 1:=z_k 1 underlying285
theorem nU:Fld prog 285 0 0:=z_k 1 underlying285
abbrev oQ:Nat:=211
theorem fld_287_0:Fld prog 287 0 0:=z_k 1 underlying287
theorem en_211:aK prog 211:=R func211
theorem sc_266:Sc prog 266:=⟨⟨_,underlying266,rfl⟩,bH (by kernel_rfl)⟩
abbrev nr:Nat:=212
abbrev nP:Nat:=192
theorem en_192:aK prog 192:=R func192
abbrev mt:Nat:=274
def jO (r:Value × Bool):Value:=.tuple #[(r.1),(.bool r.2)]
abbrev nQ:Nat:=149
theorem fld_254_3:Fld prog 254 3 7:=z_k 1 underlying254
abbrev xa:Nat:=228
theorem kl (y0:Int) (y1:Int):∀ w,(Instr.build 34 #[(0,(.int .u64 y0)),(1,(.int .u64 y1))]).run prog w = .ok (.agg (ai.C (⟨y0,y1,0,0,0⟩:ai)).toArray) w:=fun _=>by kernel_rfl
theorem fld_254_1:Fld prog 254 1 1:=z_k 1 underlying254
theorem fld_254_2:Fld prog 254 2 2:=z_k 5 underlying254
def ai.eqb (x y:ai):Bool:=((x.e0 == y.e0) && ((x.e1 == y.e1) && ((x.e2 == y.e2) && ((x.e3 == y.e3) && ((x.e4 == y.e4) && true)))))
theorem eqr_34 (n:Nat) (x y:ai):EqR prog (n + 2) 34 (.agg (ai.C x).toArray) (.agg (ai.C y).toArray) (ai.eqb x y):=eqr_arr underlying34 inf_22 ⟨_,_,_,_,(gY cn rfl),(gY cn rfl),(ju (n:=n + 0) underlying22),⟨_,_,_,_,(gY cn rfl),(gY cn rfl),(ju (n:=n + 0) underlying22),⟨_,_,_,_,(gY cn rfl),(gY cn rfl),(ju (n:=n + 0) underlying22),⟨_,_,_,_,(gY cn rfl),(gY cn rfl),(ju (n:=n + 0) underlying22),⟨_,_,_,_,(gY cn rfl),(gY cn rfl),(ju (n:=n + 0) underlying22),rfl,rfl⟩,rfl⟩,rfl⟩,rfl⟩,rfl⟩
theorem eqg_34:prog.eqGuardType prog.depth 34 = false:=by kernel_rfl
def dQ (r:ByteArray):Value:=(.string r)
def oo:ByteArray:=⟨#[116,114,97,112,32,51,58,32,116,114,97,112,32,51]⟩
theorem en_149:aK prog 149:=R func149
theorem en_228:aK prog 228:=R func228
abbrev lx:Nat:=223
theorem en_223:aK prog 223:=R func223
abbrev ly:Nat:=213
abbrev mh:Nat:=224
theorem fld_287_1:Fld prog 287 1 1:=z_k 1 underlying287
theorem en_224:aK prog 224:=R func224
abbrev jY:Nat:=214
abbrev rn:Nat:=225
theorem en_225:aK prog 225:=R func225
theorem en_214:aK prog 214:=R func214
abbrev nq:Nat:=215
abbrev n_word_Args:Nat:=216
abbrev pY:Nat:=217
theorem build_34_0 (y0:Int):∀ w,(Instr.build 34 #[(0,(.int .u64 y0))]).run prog w = .ok (.agg (ai.C (⟨y0,0,0,0,0⟩:ai)).toArray) w:=fun _=>by kernel_rfl
theorem fe (y0:Int) (y1:Int) (y2:Int) (y3:Int):∀ w,(Instr.build 34 #[(0,(.int .u64 y0)),(1,(.int .u64 y1)),(2,(.int .u64 y2)),(3,(.int .u64 y3))]).run prog w = .ok (.agg (ai.C (⟨y0,y1,y2,y3,0⟩:ai)).toArray) w:=fun _=>by kernel_rfl
theorem en_217:aK prog 217:=R func217
theorem en_216:aK prog 216:=R func216
theorem en_215:aK prog 215:=R func215
theorem en_213:aK prog 213:=R func213
theorem en_212:aK prog 212:=R func212
theorem en_210:aK prog 210:=R func210
abbrev lv:Nat:=187
theorem en_187:aK prog 187:=R func187
abbrev lw:Nat:=146
theorem tB (y0:Int) (y1:Int) (y2:Int):∀ w,(Instr.build 25 #[(0,(.int .i64 y0)),(1,(.int .i64 y1)),(2,(.int .i64 y2))]).run prog w = .ok (.agg (aJ.C (⟨y0,y1,y2⟩:aJ)).toArray) w:=fun _=>by kernel_rfl
theorem oY (y0:Int) (y1:Int) (y2:Int):∀ w,(Instr.build 34 #[(0,(.int .u64 y0)),(1,(.int .u64 y1)),(2,(.int .u64 y2))]).run prog w = .ok (.agg (ai.C (⟨y0,y1,y2,0,0⟩:ai)).toArray) w:=fun _=>by kernel_rfl
theorem en_54:aK prog 54:=R func54
theorem en_146:aK prog 146:=R func146
theorem en_145:aK prog 145:=R func145
theorem en_144:aK prog 144:=R func144
abbrev kI:Nat:=100
theorem en_100:aK prog 100:=R func100
abbrev kJ:Nat:=50
theorem slc_45:Slc prog 45 51 10:=⟨underlying45,bH (by kernel_rfl)⟩
theorem zero_51:∃ i,prog.info? 51 = some i/\i.zero = some (.agg (dO.C (⟨0,0,0,(⟨0,0,0,0,0⟩:ai),0,0⟩:dO)).toArray):=jq (by kernel_rfl)
theorem fld_51_0:Fld prog 51 0 0:=z_k 1 underlying51
theorem fld_51_1:Fld prog 51 1 1:=z_k 1 underlying51
theorem inf_51:∃ i,prog.info? 51 = some i/\i.size = 10:=bH (by kernel_rfl)
theorem ag_51:Ag prog 51 10:=⟨⟨_,underlying51,rfl⟩,bH (by kernel_rfl)⟩
abbrev oP:Nat:=101
theorem en_101:aK prog 101:=R func101
abbrev n_fair_Fair:Nat:=51
def mZ (r:Sl):Value:=(sv r)
abbrev mO:Nat:=101
abbrev n_twin_View:Nat:=52
theorem zero_25:∃ i,prog.info? 25 = some i/\i.zero = some (.agg (aJ.C (⟨0,0,0⟩:aJ)).toArray):=jq (by kernel_rfl)
theorem en_19:aK prog 19:=R func19
theorem en_52:aK prog 52:=R func52
theorem en_51:aK prog 51:=R func51
theorem en_50:aK prog 50:=R func50
theorem en_49:aK prog 49:=R func49
theorem en_16:aK prog 16:=R func16
theorem en_23:aK prog 23:=R func23
theorem inf_25:∃ i,prog.info? 25 = some i/\i.size = 3:=bH (by kernel_rfl)
abbrev kH:Nat:=14
abbrev t_Sapi_Call:Nat:=69
def R_Sapi_Call (r:Sl):Value:=(sv r)
theorem slc_69:Slc prog 69 34 5:=⟨underlying69,bH (by kernel_rfl)⟩
theorem zero_34:∃ i,prog.info? 34 = some i/\i.zero = some (.agg (ai.C (⟨0,0,0,0,0⟩:ai)).toArray):=jq (by kernel_rfl)
theorem inf_34:∃ i,prog.info? 34 = some i/\i.size = 5:=bH (by kernel_rfl)
abbrev kg:Nat:=15
theorem en_15:aK prog 15:=R func15
theorem en_14:aK prog 14:=R func14
abbrev t_api_Event:Nat:=56
abbrev t_api_Answer:Nat:=30
abbrev kQ:Nat:=64
def R_map_uint64_bool (r:(Option Nat)):Value:=(.map r)
abbrev nO:Nat:=6
def ir.eqb (x y:ir):Bool:=((x.fCa == y.fCa) && ((x.fDa == y.fDa) && true))
def str_73df774b:ByteArray:=⟨#[48,49,50,51,52,53,54,55,56,57,97,98,99,100,101,102,103,104,105,106,107,108,109,110,111,112,113,114,115,116,117,118,119,120,121,122]⟩
def str_e9752c08:ByteArray:=⟨#[48,48,48,49,48,50,48,51,48,52,48,53,48,54,48,55,48,56,48,57,49,48,49,49,49,50,49,51,49,52,49,53,49,54,49,55,49,56,49,57,50,48,50,49,50,50,50,51,50,52,50,53,50,54,50,55,50,56,50,57,51,48,51,49,51,50,51,51,51,52,51,53,51,54,51,55,51,56,51,57,52,48,52,49,52,50,52,51,52,52,52,53,52,54,52,55,52,56,52,57,53,48,53,49,53,50,53,51,53,52,53,53,53,54,53,55,53,56,53,57,54,48,54,49,54,50,54,51,54,52,54,53,54,54,54,55,54,56,54,57,55,48,55,49,55,50,55,51,55,52,55,53,55,54,55,55,55,56,55,57,56,48,56,49,56,50,56,51,56,52,56,53,56,54,56,55,56,56,56,57,57,48,57,49,57,50,57,51,57,52,57,53,57,54,57,55,57,56,57,57]⟩
abbrev jh:Nat:=259
abbrev rl:Nat:=260
theorem inf_5:∃ i,prog.info? 5 = some i/\i.size = 1:=bH (by kernel_rfl)
abbrev pq:Nat:=261
def R_Suint8_string (r:Sl × ByteArray):Value:=.tuple #[(sv r.1),(.string r.2)]
def R_Suint8 (r:Sl):Value:=(sv r)
abbrev qS:Nat:=262
theorem en_259:aK prog 259:=R func259
theorem zero_326:∃ i,prog.info? 326 = some i/\i.zero = some (.agg [.int .u8 0,.int .u8 0,.int .u8 0,.int .u8 0,.int .u8 0,.int .u8 0,.int .u8 0,.int .u8 0,.int .u8 0,.int .u8 0,.int .u8 0,.int .u8 0,.int .u8 0,.int .u8 0,.int .u8 0,.int .u8 0,.int .u8 0,.int .u8 0,.int .u8 0,.int .u8 0,.int .u8 0,.int .u8 0,.int .u8 0,.int .u8 0].toArray):=jq (by kernel_rfl)
abbrev wm:Nat:=326
theorem arr_326:Arr prog 326 24 5 1:=⟨underlying326,bH (by kernel_rfl)⟩
theorem en_261:aK prog 261:=R func261
theorem en_260:aK prog 260:=R func260
theorem en_262:aK prog 262:=R func262
abbrev gC:Nat:=258
theorem en_258:aK prog 258:=R func258
abbrev jF:Nat:=257
theorem en_257:aK prog 257:=R func257
abbrev ta:Nat:=256
theorem en_256:aK prog 256:=R func256
abbrev iP:Nat:=253
abbrev sY:Nat:=254
abbrev np:Nat:=255
abbrev t_api_Pick:Nat:=51
abbrev t_api_Call:Nat:=34
abbrev t_api_Line:Nat:=54
abbrev t_uint64:Nat:=22
abbrev sE:Nat:=114
abbrev fx:Nat:=118
abbrev dV:Nat:=161
abbrev t_api_Pte:Nat:=79
abbrev t_bool:Nat:=4
abbrev rv:Nat:=272
abbrev t_tlb_line:Nat:=169
end
section
open Go Mb
theorem xA:El prog dD kR 1 8 [.int .i64 0]:=uC underlying39 (by kernel_rfl) rfl
theorem qu:El prog eL t_api_Event 16 128 [.int .i64 0,.int .i64 0,.int .u64 0,.int .u64 0,.int .u64 0,.int .u64 0,.int .u64 0,.int .i64 0,.int .i64 0,.int .i64 0,.int .i64 0,.int .u64 0,.int .i64 0,.int .i64 0,.int .i64 0,.int .i64 0]:=uC underlying42 (by kernel_rfl) rfl
theorem el_Sapi_Pick:El prog nG t_api_Pick 10 80 [.int .i64 0,.int .i64 0,.int .i64 0,.int .u64 0,.int .u64 0,.int .u64 0,.int .u64 0,.int .u64 0,.int .i64 0,.int .i64 0]:=uC underlying45 (by kernel_rfl) rfl
theorem el_Sapi_Call:El prog t_Sapi_Call t_api_Call 5 40 [.int .u64 0,.int .u64 0,.int .u64 0,.int .u64 0,.int .u64 0]:=uC underlying69 (by kernel_rfl) rfl
theorem el_Sapi_Line:El prog qF t_api_Line 4 32 [.int .i64 0,.int .i64 0,.int .i64 0,.int .i64 0]:=uC underlying76 (by kernel_rfl) rfl
theorem fV:El prog bf t_uint64 1 8 [.int .u64 0]:=uC underlying93 (by kernel_rfl) rfl
theorem el_Sapi_Answer:El prog mO t_api_Answer 2 16 [.int .i64 0,.int .u64 0]:=uC underlying101 (by kernel_rfl) rfl
theorem el_SPtlb_Tlb:El prog bS sE 1 8 [pv none]:=uC underlying104 (by kernel_rfl) rfl
theorem el_SPkern_call:El prog mP fx 1 8 [pv none]:=uC underlying107 (by kernel_rfl) rfl
theorem wb:El prog eM dV 1 8 [pv none]:=uC underlying153 (by kernel_rfl) rfl
theorem uD:El prog pT bf 1 24 [sv (⟨none,0,0,none⟩:Sl)]:=uC underlying163 (by kernel_rfl) rfl
theorem tx:El prog gV rQ 2 16 [.int .i64 0,.int .i64 0]:=uC underlying201 (by kernel_rfl) rfl
theorem el_S_8_api_Cap:El prog t_S_8_api_Cap lc 32 256 [.int .i64 0,.int .i64 0,.int .i64 0,.int .i64 0,.int .i64 0,.int .i64 0,.int .i64 0,.int .i64 0,.int .i64 0,.int .i64 0,.int .i64 0,.int .i64 0,.int .i64 0,.int .i64 0,.int .i64 0,.int .i64 0,.int .i64 0,.int .i64 0,.int .i64 0,.int .i64 0,.int .i64 0,.int .i64 0,.int .i64 0,.int .i64 0,.int .i64 0,.int .i64 0,.int .i64 0,.int .i64 0,.int .i64 0,.int .i64 0,.int .i64 0,.int .i64 0]:=uC underlying206 (by kernel_rfl) rfl
theorem el_Sapi_Pte:El prog pS t_api_Pte 3 24 [.int .i64 0,.int .i64 0,.int .i64 0]:=uC underlying240 (by kernel_rfl) rfl
theorem enter_hist_Order_c1:aK prog ni:=R func93
theorem enter_hist_Order_c2:aK prog rm:=R func95
theorem uX:aK prog lC:=R func189
theorem wa:aK prog gI:=R func203
theorem enter_hist_Over_c1:aK prog td:=R func221
theorem mp_map_int_bool:Mp prog jz kR t_bool (.bool false):=⟨underlying61,⟨_,underlying3⟩,jq (by kernel_rfl)⟩
theorem tg:Mp prog kQ t_uint64 t_bool (.bool false):=⟨underlying64,⟨_,underlying22⟩,jq (by kernel_rfl)⟩
theorem mp_map_int_int:Mp prog gU kR kR (.int .i64 0):=⟨underlying95,⟨_,underlying3⟩,jq (by kernel_rfl)⟩
theorem agn_8_api_Pte:Ag prog tO 24:=⟨⟨_,underlying80,rfl⟩,bH (by kernel_rfl)⟩
theorem arn_8_api_Pte:prog.underlying tO = some (.array 8 t_api_Pte):=underlying80
theorem age_8_api_Pte:Ag prog t_api_Pte 3:=⟨⟨_,underlying79,rfl⟩,bH (by kernel_rfl)⟩
theorem arn_2_tlb_line:prog.underlying t_2_tlb_line = some (.array 2 t_tlb_line):=underlying170
theorem age_2_tlb_line:Ag prog t_tlb_line 5:=⟨⟨_,underlying169,rfl⟩,bH (by kernel_rfl)⟩
theorem agn_8_api_Cap:Ag prog lc 32:=⟨⟨_,underlying205,rfl⟩,bH (by kernel_rfl)⟩
theorem arn_8_api_Cap:prog.underlying lc = some (.array 8 fN):=underlying205
theorem age_8_api_Cap:Ag prog fN 4:=⟨⟨_,underlying36,rfl⟩,bH (by kernel_rfl)⟩
end
end Go.Proofs.YtemoifebbhoinaaGreatDoor
