/- Part of the proof of: The law HistReal returns true for every input, and leaves its arguments as they were. -/
import Derived.Test.YtemoifebbhoinaaGreatDoorHistReal01
set_option linter.all false
set_option maxRecDepth 20000
namespace Go.Proofs.YtemoifebbhoinaaGreatDoor
open Go.Proofs.Tryz
open Go.IntKind (i64 u64)
open _root_.List (replicate)
open _root_.Option (map_some)
section
open Go
namespace Mb
section
variable {l:List As} {h:Hp}
theorem get_nat' {α:Type} {xs:List α} {i:Nat} (h:i < xs.length):xs[i]? = some xs[i]:=List.getElem?_eq_some_iff.2 ⟨h,rfl⟩
def ex {α:Type} (A:α->As):As:=fun h=>∃ x,A x h
theorem op_ {α:Type} {φ:α->Prop} {m:α->List As} (s:aB ((fun h=>∃ x,φ x/\aB (m x) h)::l) h):∃ x,φ x/\aB (m x++l) h:=by
 obtain ⟨h1,h2,d,e,⟨x,f,s1⟩,s2⟩:=s
 exact ⟨x,f,fx.2 ⟨h1,h2,d,e,s1,s2⟩⟩
theorem cl_ {α:Type} {φ:α->Prop} {m:α->List As} (x:α) (f:φ x) (s:aB (m x++l) h):aB ((fun h=>∃ x,φ x/\aB (m x) h)::l) h:=by
 obtain ⟨h1,h2,d,e,s1,s2⟩:=fx.1 s
 exact ⟨h1,h2,d,e,⟨x,f,s1⟩,s2⟩
theorem star_cons {A:As} (a:∀ h,A h) (s:aB l h):aB (A::l) h:=⟨emp,h,Dj.emp_left _,rfl,a _,s⟩
theorem fX {τ:Type} {T m:Nat} {enc:τ->List Value} (s:aB l h):aB (vec T m enc (⟨none,0,0,none⟩:Sl) []::l) h :=
 star_cons (fun _=>⟨rfl,Nat.le_refl _,.inl rfl⟩) s
theorem dE {m:List As} (s:aB (aB m::l) h):aB (m++l) h:=by
 obtain ⟨h1,h2,d,e,a,s'⟩:=s
 exact fx.2 ⟨h1,h2,d,e,a,s'⟩
theorem star_tail {A:As} {m:List As} (s:aB (A::l) h) (hm:∀ h,aB l h->aB m h):aB (A::m) h:=by
 obtain ⟨h1,h2,d,e,a,s'⟩:=s
 exact ⟨h1,h2,d,e,a,hm _ s'⟩
theorem aZ {φ:Prop} {m:List As} (f:φ) (s:aB m h):pa_ φ m h:=⟨f,s⟩
end
theorem vec_set_row {τ:Type} {T m i:Nat} {enc:τ->List Value} {s:Sl} {xs ys:List τ} {l:List As} {h:Hp} {K:Hp->Prop} {P:Program} (he:∀ x,(enc x).length = m) (ho:∀ x,dM (enc x) = true) (hlen:ys.length = xs.length) (st:aB l h) (hi:l[i]? = some (vec T m enc s xs)) {q:Nat × Nat} (hq:s.a = some q)
  (k:∀ h',aB (l.set i (vec T m enc s ys)) h'->K h'):hp P (storeCells ⟨q.1,q.2,none⟩ (ys.flatMap enc)) (fun _ h=>K h) h:=by
 obtain ⟨g1,g2,d,rfl,⟨e1,e2,e3⟩,s'⟩:=fj hi st
 rcases e3 with h4 | ⟨b,pre,rest,U,fr,h4,h5,hg,h6⟩
 ·have hny:ys = []:=List.eq_nil_of_length_eq_zero (by omega)
  have hnx:xs = []:=List.eq_nil_of_length_eq_zero (by omega)
  subst hny; subst hnx
  exact k _ (dP (List.getElem?_eq_some_iff.1 hi).1 ⟨g1,g2,d,rfl,⟨e1,e2,.inl h4⟩,s'⟩)
 ·rw [h4] at hq; cases hq
  have hfx:=dY he xs
  have hfy:=dY he ys
  have hoy:dM (ys.flatMap enc) = true:=by
   unfold dM
   rw [List.all_flatMap,List.all_eq_true]
   exact fun x _=>ho x
  have ew:wr (pre++(xs.flatMap enc++rest)) (pre.length + 0) (ys.flatMap enc) = pre++(ys.flatMap enc++rest):=by
   rw [rm,wr_left _ _ _ _ (by rw [hfx,hfy,hlen,Nat.zero_add]; exact Nat.le_refl _),wr_all (by rw [hfx,hfy,hlen])]
  have hcap:s.len * m <= s.cap * m:=Nat.mul_le_mul_right m e2
  have hlm:s.len * m = xs.length * m:=by rw [e1]
  refine mq (T:=U) (fr:=fr) (ys.flatMap enc) 0 pre.length (pre++(xs.flatMap enc++rest)) _ (un_left h6) (fun j j1 j2=>gh_nf hg j (by omega) (by rw [hfy,hlen] at j2; omega)) (by simp [hfx,hfy,hlen]) hoy ?_
  rw [ew]
  obtain ⟨d',e'⟩:=set_dj (o':=.cells (pre++(ys.flatMap enc++rest)).toArray U fr) d h6
  rw [e']
  exact k _ (dP (List.getElem?_eq_some_iff.1 hi).1 ⟨_,g2,d',rfl,⟨by rw [e1,hlen],e2,.inr ⟨b,pre,rest,U,fr,h4,h5,hg,jg _ _ _⟩⟩,s'⟩)
def encU (_:Unit):Value:=.tuple #[]
theorem clear_v {τ:Type} {S T m bys i R:Nat} {z:List Value} {enc:τ->List Value} {x0:τ} {s:Sl} {xs:List τ} {l:List As} {h:Hp} {K:Unit->Hp->Prop} {P:Program} (E:El P S T m bys z) (hz:enc x0 = z) (he:∀ x,(enc x).length = m) (ho:∀ x,dM (enc x) = true) (st:aB l h) (hi:l[i]? = some (vec T m enc s xs))
  (k:∀ h',aB (l.set i (vec T m enc s (replicate xs.length x0))) h'->K () h'):hpv P (Builtin.clear_ #[S] R #[sv s]) encU K h:=by
 refine ⟨?_⟩
 obtain ⟨_,es,_⟩:=dV hi st
 have hilt:=(List.getElem?_eq_some_iff.1 hi).1
 unfold Builtin.clear_
 simp only [List.getElem?_toArray,List.getElem?_cons_zero]
 refine cf (cU E.sl ?_)
 have same:xs = []->aB (l.set i (vec T m enc s (replicate xs.length x0))) h:=by
  intro e
  subst e
  have:l.set i (vec T m enc s (replicate ([]:List τ).length x0)) = l:=by
   apply List.ext_getElem?
   intro n
   rw [List.getElem?_set]
   by_cases e:i = n
   ·subst e; rw [hi]; simp [hilt]
   ·simp [e]
  rw [this]; exact st
 cases ha:s.a with
 | none =>
  have hnil:xs = []:=by
   obtain ⟨e1,e2,e3⟩:=es
   rcases e3 with e3 | ⟨b,pre,rest,U,fr,h4,_⟩
   ·exact List.eq_nil_of_length_eq_zero (by omega)
   ·rw [h4] at ha; cases ha
  simp only [sv,ha,pa]
  exact ⟨(),rfl,k h (same hnil)⟩
 | some q =>
  simp only [sv,ha,pa]
  cases hn:s.len with
  | zero =>
   have hnil:xs = []:=List.eq_nil_of_length_eq_zero (by rw [← es.1]; exact hn)
   exact ⟨(),rfl,k h (same hnil)⟩
  | succ n =>
   obtain ⟨inf,hinf,h1,h2,h3⟩:=E.inf
   cases hzv:inf.zero with
   | none=>rw [hzv] at h3; cases h3
   | some zv =>
    rw [hzv] at h3
    simp only [map_some,Option.some.injEq] at h3
    refine cf (pU hinf hzv ?_)
    refine cf ?_
    have hzc:zv.cells = z.toArray:=by rw [← h3]
    have hrow:(Builtin.zeroCells zv.cells (n + 1)).toList = (replicate xs.length x0).flatMap enc:=by
     rw [hzc]; unfold Builtin.zeroCells
     have:=rep_flat z (n + 1)
     simp only [List.size_toArray] at this ⊢
     rw [this,← hz,rep_flat_map,← es.1,hn]
    rw [hrow]
    refine vec_set_row (K:=fun h'=>∃ r,Value.tuple #[] = encU r/\K r h') he ho (by simp) st hi ha fun h' s'=>?_
    exact ⟨(),rfl,k h' s'⟩
theorem oneI (k:IntKind) (x:Int):dM (cI k x) = true:=rfl
theorem oneS (x:Sl):dM (cS x) = true:=rfl
section
variable {τ:Type} {m:Nat} {enc:τ->List Value} {l:List As} {h:Hp}
theorem ld_a {σ:Type} {T j i k:Nat} {b:Nat} {pre rest:List Value} {xs:List τ} {enc':σ->List Value} {K:σ->Hp->Prop} {off:Nat} (y:σ) (he:∀ x,(enc x).length = m) (st:aB l h) (hj:l[j]? = some (blk b T (pre++(xs.flatMap enc++rest)))) (hoff:off = pre.length + i * m + k)
  {x:τ} (hx:xs[i]? = some x) (hy:∀ n v,(enc' y)[n]? = some v->(enc x)[k + n]? = some v) (kk:K y h):ld (b,off) enc' K h:=by
 refine ld_s y st hj (fun n v hn=>?_) kk
 have:=ur he xs i (k + n) x v hx (hy n v hn)
 have hlt:=(List.getElem?_eq_some_iff.1 this).1
 rw [hoff,List.getElem?_append_right (by omega),show pre.length + i * m + k + n - pre.length = i * m + (k + n) from by omega,List.getElem?_append_left hlt]
 exact this
theorem st_a {T j i k:Nat} {b:Nat} {pre rest:List Value} {xs:List τ} {vs:List Value} {K:Hp->Prop} {off:Nat} (y:τ) (he:∀ x,(enc x).length = m) (s0:aB l h) (hj:l[j]? = some (blk b T (pre++(xs.flatMap enc++rest)))) (hoff:off = pre.length + i * m + k)
  {x:τ} (hx:xs[i]? = some x) (hlen:k + vs.length <= m) (hy:enc y = wr (enc x) k vs) (kk:∀ h',aB (l.set j (blk b T (pre++((xs.set i y).flatMap enc++rest)))) h'->K h'):st (b,off) vs K h:=by
 have hi:=(List.getElem?_eq_some_iff.1 hx).1
 have hfl:=dY he xs
 have hm:(i + 1) * m <= xs.length * m:=Nat.mul_le_mul_right m hi
 rw [Nat.succ_mul] at hm
 refine uG s0 hj (by simp [hoff,hfl]; omega) fun h' s'=>kk h' ?_
 have ew:wr (pre++(xs.flatMap enc++rest)) off vs = pre++((xs.set i y).flatMap enc++rest):=by
  rw [hoff,Nat.add_assoc,rm,wr_left _ _ _ _ (by rw [hfl]; omega),flat_wr he xs i k x y vs hx hlen hy]
 rw [ew] at s'
 exact s'
end
section
variable {P:Program} {l:List As} {h:Hp}
theorem hp_isAgg_ag {T n:Nat} (t:Ag P T n) {K:Bool->Hp->Prop} (k:K true h):hp P (isAgg T) K h:=by
 obtain ⟨D,h1,h2⟩:=t.und
 unfold isAgg
 refine cf (cU h1 ?_)
 cases D <;> first | exact k | cases h2
theorem uj {kd:IntKind} {n:Int} {K:IntKind × Int->Hp->Prop} (k:K (kd,n) h):hp P (asIntOf (.int kd n)) K h:=k
theorem loadAt_v {τ:Type} {T n b off:Nat} {cs:List Value} {enc:τ->Value} {r:τ} {K:τ->Hp->Prop} (t:Ag P T n) (hc:si h (b,off) cs) (hn:cs.length = n) (hr:enc r = .agg cs.toArray) (k:K r h):hpv P (Instr.loadAt T (.pointer (some ⟨b,off,none⟩))) enc K h:=by
 refine ⟨?_⟩
 obtain ⟨inf,h1,h2⟩:=t.inf
 show hp P (loadVar T ⟨b,off,none⟩) _ h
 unfold loadVar
 refine cf (hp_isAgg_ag t ?_)
 refine hp_yes rfl ?_
 refine cf (oQ h1 ?_)
 rw [h2]
 refine cf (hp_loadCells hc hn ?_)
 exact ⟨r,hr.symm,k⟩
theorem index_v {τ:Type} {S T len m i:Nat} {enc:τ->List Value} {val:τ->Value} {xs:List τ} {x:τ} {K:τ->Hp->Prop} (hS:P.underlying S = some (.array len T)) (t:Ag P T m) (he:∀ x,(enc x).length = m) (hv:∀ x,val x = .agg (enc x).toArray) (hl:xs.length = len) (hx:xs[i]? = some x) (k:K x h) :
  hpv P (Instr.index S (.agg (xs.flatMap enc).toArray) (.int .i64 i)) val K h:=by
 refine ⟨?_⟩
 have hi:=(List.getElem?_eq_some_iff.1 hx).1
 obtain ⟨inf,h1,h2⟩:=t.inf
 unfold Instr.index
 refine cf (uj ?_)
 refine cf (cU hS ?_)
 refine hp_yes ⟨by omega,by omega⟩ ?_
 refine cf (oQ h1 ?_)
 unfold part
 refine cf (hp_isAgg_ag t ?_)
 refine cf (oQ h1 ?_)
 refine ⟨x,?_,k⟩
 rw [hv,h2]
 have:(xs.flatMap enc).toArray.extract ((i:Int).toNat * m) ((i:Int).toNat * m + m) = (enc x).toArray:=by
  apply Array.ext'
  rw [Array.toList_extract]
  simp only [Int.toNat_natCast,List.extract]
  rw [Nat.add_sub_cancel_left]
  apply List.ext_getElem?
  intro n
  rw [List.getElem?_take,List.getElem?_drop]
  by_cases hn:n < m
  ·rw [if_pos hn]
   have hlt:n < (enc x).length:=by rw [he]; exact hn
   rw [ur he xs i n x _ hx (get_nat' hlt)]
   exact (get_nat' hlt).symm
  ·rw [if_neg hn]
   exact (List.getElem?_eq_none (by rw [he]; omega)).symm
 rw [this]
end
theorem sliceFrom_v {τ:Type} {P:Program} {l:List As} {h:Hp} {S T m bys i:Nat} {z:List Value} {enc:τ->List Value} {R:Sl->Value} {s:Sl} {xs:List τ} {n:Nat} {K:Sl->Hp->Prop} (E:El P S T m bys z) (he:∀ x,(enc x).length = m) (hR:R = sv) (st:aB l h) (hi:l[i]? = some (vec T m enc s xs)) (hn:n <= xs.length)
  (k:∀ v,aB (l.set i (vec T m enc v (xs.drop n))) h->K v h):hpv P (Instr.sliceAt S (sv s) (some (.int .i64 n)) none none) R K h:=by
 subst hR
 refine ⟨?_⟩
 have hilt:=(List.getElem?_eq_some_iff.1 hi).1
 obtain ⟨g1,g2,d,rfl,⟨e1,e2,e3⟩,s'⟩:=fj hi st
 obtain ⟨inf,hinf,h1,h2,h3⟩:=E.inf
 unfold Instr.sliceAt
 refine cf (cU E.sl ?_)
 show hp P (Instr.slice S (sv s) _ _ _) _ _
 unfold Instr.slice
 refine cf (cU E.sl ?_)
 simp only [sv]
 refine cf ?_
 unfold Instr.sliceBounds
 refine cf ?_
 refine cf ?_
 refine cf ?_
 unfold Instr.sliceBound
 refine cf (uj ?_)
 refine hp_yes ⟨by omega,by omega⟩ ?_
 refine cf (oQ hinf ?_)
 rw [h1]
 rcases e3 with h5 | ⟨b,pre,rest,U,fr,h4,h5,hg,h6⟩
 ·have hn0:n = 0:=by omega
  subst hn0
  refine ⟨s,?_,k s ?_⟩
  ·simp [sv,h5]
  ·exact dP hilt ⟨g1,g2,d,rfl,⟨by simpa using e1,e2,.inl h5⟩,s'⟩
 ·by_cases hc:s.cap = n
  ·have hx:xs.drop n = []:=by apply List.drop_eq_nil_of_le; omega
   refine ⟨⟨s.a,s.len - n,s.cap - n,none⟩,?_,k _ (dP hilt ⟨g1,g2,d,rfl,⟨?_,by show s.len - n <= s.cap - n; omega,.inl (by show s.cap - n = 0; omega)⟩,s'⟩)⟩
   ·rw [if_pos (by simpa using hc)]; simp [sv]
   ·show s.len - n = _; rw [hx]; simp; omega
  ·refine ⟨⟨some (b,pre.length + n * m),s.len - n,s.cap - n,s.g.map fun _=>(pre++(xs.take n).flatMap enc,rest,U,fr)⟩,?_,k _ (dP hilt ⟨g1,g2,d,rfl,⟨?_,by show s.len - n <= s.cap - n; omega,.inr ⟨b,pre++(xs.take n).flatMap enc,rest,U,fr,?_,?_,?_,?_⟩⟩,s'⟩)⟩
   ·rw [if_neg (by simpa using hc)]; simp [sv,h4,pa,add_plain]
   ·show s.len - n = _; simp; omega
   ·show some (b,pre.length + n * m) = _
    rw [List.length_append,dY he]; simp; rw [Nat.min_eq_left hn]
   ·show (s.cap - n) * m <= (s.len - n) * m + rest.length
    rw [Nat.sub_mul,Nat.sub_mul]
    have:n * m <= s.len * m:=Nat.mul_le_mul_right m (by omega)
    omega
   ·have hpl:(pre++(xs.take n).flatMap enc).length = pre.length + n * m:=by rw [List.length_append,dY he]; simp; rw [Nat.min_eq_left hn]
    unfold gh at hg ⊢
    cases hsg:s.g with
    | none=>rw [hsg] at hg; exact hg
    | some x =>
     rw [hsg] at hg
     refine ⟨rfl,fun j j1 j2=>hg.2 j (by rw [hpl] at j1; omega) ?_⟩
     rw [hpl] at j2
     have j2':j < pre.length + n * m + (s.cap - n) * m:=j2
     have hnc:n <= s.cap:=by omega
     have:n * m + (s.cap - n) * m = s.cap * m:=by rw [← Nat.add_mul]; congr 1; omega
     omega
   ·have:pre++(xs.take n).flatMap enc++((xs.drop n).flatMap enc++rest) = pre++(xs.flatMap enc++rest):=by
     rw [List.append_assoc,← List.append_assoc ((xs.take n).flatMap enc),← List.flatMap_append,List.take_append_drop]
    rw [this]; exact h6
theorem la {τ:Type} {P:Program} {l:List As} {h:Hp} {S T m bys i:Nat} {z:List Value} {enc:τ->List Value} {val:τ->Value} {R R':Sl->Value} {s:Sl} {xs:List τ} {x:τ} {K:Sl->Hp->Prop} {Q:Nat} (E:El P S T m bys z) (he:∀ x,(enc x).length = m) (ho:∀ x,dM (enc x) = true) (hv:∀ x,(val x).cells.toList = enc x)
  (hm:m <= 2 ^ 24) (hR:R = sv) (hR':R' = sv) (st:aB l h) (hi:l[i]? = some (vec T m enc s xs)) (hb:(2 * (xs.length + 1) + 512) * bys <= 2 ^ 48) (hb2:xs.length < 2 ^ 60)
  (k:∀ v h',aB (l.set i (vec T m enc v (xs++[x]))) h'->K v h'):hpv P (Instr.buildSlice S 1 #[(0,val x)]) R (fun y=>hpv P (Builtin.append_ #[S,S] Q #[sv s,sv y]) R' K) h:=by
 subst hR; subst hR'
 refine fP [x] (val:=val) (enc:=enc) E he hv st rfl rfl (by simpa using hm) fun y h' s1=>?_
 refine uB (i:=i + 1) (j:=0) (enc:=enc) (ys:=[x]) E E.sl he ho s1 (by simpa using hi) rfl (by omega) (by simpa using hb) (by simp; omega) fun v h2 s2=>?_
 exact k v h2 (cd (l:=[vec T m enc y [x]]) (by simpa using s2))
theorem c1 {c d:List Value} {u:Value} {k:Nat} (h1:d = [u]) (h2:c[k]? = some u):∀ (n:Nat) (v:Value),d[n]? = some v->c[k + n]? = some v:=by
 intro n v hv
 subst h1
 cases n with
 | zero=>simp at hv; subst hv; exact h2
 | succ n=>simp at hv
theorem aE {α:Type} {xs:List α} {i:Nat} (h:i < xs.length):xs[i]? = some xs[i]:=List.getElem?_eq_some_iff.2 ⟨h,rfl⟩
theorem ct (k:IntKind) (x:Int):(cI k x).length = 1:=rfl
end Mb
end
section
open Go
namespace Mb
structure Mp (P:Program) (S K E:TypeId) (z:Value):Prop where
 mp:P.underlying S = some (.map K E)
 key:∃ kd,P.underlying K = some (.int kd)
 inf:∃ i,P.info? E = some i/\i.zero = some z
section
variable {τ:Type}
def fi (x:Int):List (Int × τ)->Nat->Option (Nat × τ)
 | [],_=>none
 | p::m,i=>if x = p.1 then some (i,p.2) else fi x m (i + 1)
def ents (val:τ->Value) (es:List MapEntry) (m:List (Int × τ)):Prop:=es.map (fun e=>(e.key,e.val)) = m.map (fun p=>(Value.int .i64 p.1,val p.2))
def mapA (b:Nat) (val:τ->Value) (f:Int->Option τ):As:=fun h=>∃ (es:List MapEntry) (m:List (Int × τ)) (clock:Nat),h b = some (.map es.toArray clock)/\ents val es m/\∀ x,(fi x m 0).map (·.2) = f x
theorem xl (x:Int):∀ (m:List (Int × τ)) (i:Nat),fi x m i = (fi x m 0).map (fun r=>(r.1 + i,r.2))
 | [],_=>rfl
 | p::m,i=>by
  unfold fi
  split
  ·simp
  ·rw [xl x m (i + 1),xl x m (0 + 1)]
   cases fi x m 0 with
   | none=>rfl
   | some r=>simp; omega
theorem fi_v (x:Int) (m:List (Int × τ)) (i:Nat):(fi x m i).map (·.2) = (fi x m 0).map (·.2):=by
 rw [xl x m i]; cases fi x m 0 <;> rfl
theorem find_now {val:τ->Value} {kd:IntKind} (x:Int):∀ {es:List MapEntry} {m:List (Int × τ)} (i:Nat),ents val es m->Instr.findNow (.int kd) (.int .i64 x) es i = some ((fi x m i).map fun r=>(r.1,val r.2))
 | [],[],_,_=>rfl
 | [],_::_,_,h=>by simp [ents] at h
 | _::_,[],_,h=>by simp [ents] at h
 | e::es,p::m,i,h=>by
  simp only [ents,List.map_cons,List.cons.injEq,Prod.mk.injEq] at h
  obtain ⟨⟨h1,h2⟩,h3⟩:=h
  unfold Instr.findNow fi
  rw [h1,h2]
  by_cases hx:x = p.1
  ·subst hx; simp [Instr.sameNow]
  ·have:(x == p.1) = false:=by simpa using hx
   simp only [Instr.sameNow,this,if_true,if_neg hx]
   exact find_now x (i + 1) h3
theorem fi_get {x:Int} {v:τ} {i:Nat}:∀ {m:List (Int × τ)},fi x m 0 = some (i,v)->m[i]? = some (x,v)
 | [],h=>by cases h
 | p::m,h=>by
  unfold fi at h
  split at h
  ·rename_i hx
   cases h; subst hx; rfl
  ·rw [xl] at h
   cases hm:fi x m 0 with
   | none=>rw [hm] at h; cases h
   | some r =>
    rw [hm] at h
    simp only [map_some,Option.some.injEq,Prod.mk.injEq] at h
    obtain ⟨h1,h2⟩:=h
    subst h2; subst h1
    simp only [List.getElem?_cons_succ]
    exact fi_get (m:=m) (by rw [hm])
theorem fi_set {x y:Int} {v w:τ} {i:Nat}:∀ {m:List (Int × τ)},fi x m 0 = some (i,v)->(fi y (m.set i (x,w)) 0).map (·.2) = if y = x then some w else (fi y m 0).map (·.2)
 | [],h=>by cases h
 | p::m,h=>by
  unfold fi at h
  split at h
  ·rename_i hx
   cases h; subst hx
   simp only [List.set_cons_zero,fi]
   by_cases hy:y = p.1
   ·simp [hy]
   ·simp [hy]
  ·rename_i hx
   rw [xl] at h
   cases hm:fi x m 0 with
   | none=>rw [hm] at h; cases h
   | some r =>
    rw [hm] at h
    simp only [map_some,Option.some.injEq,Prod.mk.injEq] at h
    obtain ⟨h1,h2⟩:=h
    subst h2; subst h1
    have ih:=fi_set (x:=x) (y:=y) (v:=r.2) (w:=w) (i:=r.1) (m:=m) (by rw [hm])
    simp only [List.set_cons_succ,fi]
    by_cases hy:y = p.1
    ·have:y ≠ x:=fun e=>hx (e.symm.trans hy)
     simp [hy]
     intro e; exact absurd e.symm hx
    ·rw [if_neg hy,if_neg hy,fi_v y _ (0 + 1),fi_v y m (0 + 1)]
     exact ih
theorem fi_push {x y:Int} {w:τ}:∀ {m:List (Int × τ)},fi x m 0 = none->(fi y (m++[(x,w)]) 0).map (·.2) = if y = x then some w else (fi y m 0).map (·.2)
 | [],_=>by
  simp only [List.nil_append,fi]
  by_cases hy:y = x <;> simp [hy]
 | p::m,h=>by
  unfold fi at h
  split at h
  ·cases h
  ·rename_i hx
   rw [xl] at h
   have hm:fi x m 0 = none:=by
    cases hm:fi x m 0 with
    | none=>rfl
    | some r=>rw [hm] at h; cases h
   have ih:=fi_push (y:=y) (w:=w) hm
   simp only [List.cons_append,fi]
   by_cases hy:y = p.1
   ·have:¬ y = x:=fun e=>hx (e.symm.trans hy)
    simp [hy]
    intro e; exact absurd e.symm hx
   ·rw [if_neg hy,if_neg hy,fi_v y _ (0 + 1),fi_v y m (0 + 1)]
    exact ih
theorem ents_set {val:τ->Value} {x:Int} {w:τ} {i:Nat} {es:List MapEntry} {m:List (Int × τ)} (h:ents val es m) (g:MapEntry->MapEntry) (hg:∀ e,es[i]? = some e->(g e).key = .int .i64 x/\(g e).val = val w):ents val (es.toArray.modify i g).toList (m.set i (x,w)):=by
 unfold ents at h ⊢
 apply List.ext_getElem?
 intro j
 have hj:(es.map (fun e=>(e.key,e.val)))[j]? = (m.map (fun p=>(Value.int .i64 p.1,val p.2)))[j]?:=by rw [h]
 simp only [List.getElem?_map] at hj ⊢
 rw [Array.getElem?_toList,Array.getElem?_modify,List.getElem?_set,List.getElem?_toArray]
 by_cases hij:i = j
 ·subst hij
  rw [if_pos rfl]
  cases he:es[i]? with
  | none =>
   rw [he] at hj
   have:m[i]? = none:=by cases hm:m[i]? with
    | none=>rfl
    | some p=>rw [hm] at hj; cases hj
   have hlt:¬ i < m.length:=by intro hlt; rw [List.getElem?_eq_getElem hlt] at this; cases this
   simp [hlt]
  | some e =>
   rw [he] at hj
   have hlt:i < m.length:=by
    cases hm:m[i]? with
    | none=>rw [hm] at hj; cases hj
    | some p=>exact (List.getElem?_eq_some_iff.1 hm).1
   obtain ⟨g1,g2⟩:=hg e he
   simp [hlt,g1,g2]
 ·rw [if_neg hij,if_neg hij]; exact hj
theorem ents_push {val:τ->Value} {x:Int} {w:τ} {es:List MapEntry} {m:List (Int × τ)} {c:Nat} (h:ents val es m):ents val (es.toArray.push { key:=.int .i64 x,val:=val w,born:=c }).toList (m++[(x,w)]):=by
 unfold ents at h ⊢
 simp [h]
end
section
variable {P:Program} {l:List As} {h:Hp} {τ:Type} {S K E:TypeId} {z:Value} {val:τ->Value}
theorem vJ {kd k:IntKind} {b:Bool} {x:Int} {Q:Unit->Hp->Prop} (e:P.underlying K = some (.int kd)) (q:Q () h):hp P (Instr.checkKey b 10000 K (.int k x)) Q h:=by
 unfold Instr.checkKey
 refine cf (cU e ?_)
 exact q
theorem hp_findKey {kd:IntKind} {x:Int} {es:List MapEntry} {m:List (Int × τ)} {Q:Option (Nat × Value)->Hp->Prop} (e:P.underlying K = some (.int kd)) (he:ents val es m) (q:Q ((fi x m 0).map fun r=>(r.1,val r.2)) h):hp P (Instr.findKey K (.int .i64 x) es) Q h:=by
 unfold Instr.findKey
 refine cf (cU e ?_)
 rw [find_now x 0 he]
 exact q
theorem hp_getObj {b:Nat} {o:Obj} {Q:Obj->Hp->Prop} (e:h b = some o) (hc:yu o = false) (q:Q o h):hp P (getObj b) Q h:=⟨o,e,hc,q⟩
theorem makeMap_m {R:Option Nat->Value} {Q:Option Nat->Hp->Prop} (hR:R = fun r=>.map r) (st:aB l h) (k:∀ b h',aB (mapA b val (fun _=>none)::l) h'->Q (some b) h'):hpv P (Instr.makeMap S none) R Q h:=by
 subst hR
 refine ⟨?_⟩
 unfold Instr.makeMap
 refine cf ?_
 refine ⟨rfl,fun b hb=>⟨some b,rfl,k b _ ?_⟩⟩
 obtain ⟨h1,h2,d,e,a,s⟩:=new_s (o:=.map #[] 0) st hb
 exact ⟨h1,h2,d,e,⟨[],[],0,a,rfl,fun x=>rfl⟩,s⟩
theorem lookup_m {σ:Type} {j b:Nat} {f:Int->Option τ} {x:Int} {ok:Bool} {R:σ->Value} {Q:σ->Hp->Prop} (M:Mp P S K E z) (st:aB l h) (hj:l[j]? = some (mapA b val f)) (r:σ) (hr:(if ok then .tuple #[((f x).map val).getD z,.bool (f x).isSome] else ((f x).map val).getD z) = R r) (q:Q r h):hpv P (Instr.lookup S (.map (some b)) (.int .i64 x) ok) R Q h:=by
 refine ⟨?_⟩
 obtain ⟨h1,⟨es,m,clock,a,he,hf⟩,sub⟩:=dV hj st
 obtain ⟨kd,hk⟩:=M.key
 obtain ⟨i,hi,hz⟩:=M.inf
 unfold Instr.lookup
 refine cf (cU M.mp ?_)
 refine cf (hp_getObj (sub _ _ a) rfl ?_)
 refine cf ?_
 rw [yv]
 refine cf (vJ hk ?_)
 refine cf (hp_findKey (val:=val) hk he ?_)
 have hfx:=hf x
 cases hm:fi x m 0 with
 | none =>
  rw [hm] at hfx
  rw [← hfx] at hr
  refine cf (pU hi hz ?_)
  exact ⟨r,hr,q⟩
 | some p =>
  rw [hm] at hfx
  rw [← hfx] at hr
  refine cf ?_
  exact ⟨r,hr,q⟩
theorem update_m {j b:Nat} {f:Int->Option τ} {x:Int} {w:τ} {v:Value} {Q:Hp->Prop} (M:Mp P S K E z) (st:aB l h) (hj:l[j]? = some (mapA b val f)) (hv:v = val w) (k:∀ h',aB (l.set j (mapA b val (fun y=>if y = x then some w else f y))) h'->Q h'):hpu P (Instr.mapUpdate S (.map (some b)) (.int .i64 x) v) Q h:=by
 subst hv
 refine ⟨?_⟩
 obtain ⟨h1,h2,d,rfl,⟨es,m,clock,a,he,hf⟩,s'⟩:=fj hj st
 have hjl:=(List.getElem?_eq_some_iff.1 hj).1
 obtain ⟨kd,hk⟩:=M.key
 unfold Instr.mapUpdate
 refine cf (cU M.mp ?_)
 refine cf (hp_getObj (un_left a) rfl ?_)
 refine cf (vJ hk ?_)
 refine cf (hp_findKey (val:=val) hk he ?_)
 cases hm:fi x m 0 with
 | none =>
  refine ⟨rfl,⟨_,un_left a,rfl⟩,?_⟩
  obtain ⟨d',e'⟩:=set_dj (o':=.map (es.toArray.push { key:=.int .i64 x,val:=val w,born:=clock }) (clock + 1)) d a
  rw [e']
  refine k _ (dP hjl ⟨_,h2,d',rfl,⟨_,m++[(x,w)],clock + 1,?_,ents_push (c:=clock) he,fun y=>?_⟩,s'⟩)
  ·exact jg _ _ _
  ·rw [fi_push hm,hf]
 | some p =>
  obtain ⟨i,u⟩:=p
  have hg:=fi_get hm
  have hge:∃ e,es[i]? = some e/\e.key = .int .i64 x:=by
   have hi:(es.map (fun e=>(e.key,e.val)))[i]? = (m.map (fun p=>(Value.int .i64 p.1,val p.2)))[i]?:=by rw [he]
   simp only [List.getElem?_map,hg,map_some] at hi
   cases hs:es[i]? with
   | none=>rw [hs] at hi; cases hi
   | some e=>rw [hs] at hi; simp at hi; exact ⟨e,rfl,hi.1⟩
  obtain ⟨e,hge,hkey⟩:=hge
  refine cf ?_
  have hks:Instr.keyThatStays (((es.toArray[i]?).map (·.key)).getD (.int .i64 x)) (.int .i64 x) = pure (.int .i64 x):=by
   unfold Instr.keyThatStays
   have:((es.toArray[i]?).map (·.key)).getD (.int .i64 x) = .int .i64 x:=by simp [hge,hkey]
   rw [this]
   have sb:Instr.sameBits 10000 (.int .i64 x) (.int .i64 x) = true:=by unfold Instr.sameBits; simp
   rw [if_pos sb]
  simp only [map_some]
  rw [hks,yv]
  refine ⟨rfl,⟨_,un_left a,rfl⟩,?_⟩
  obtain ⟨d',e'⟩:=set_dj (o':=.map (es.toArray.modify i fun e=>{ e with key:=.int .i64 x,val:=val w }) clock) d a
  rw [e']
  refine k _ (dP hjl ⟨_,h2,d',rfl,⟨_,m.set i (x,w),clock,?_,ents_set (x:=x) (w:=w) he (fun e=>{ e with key:=.int .i64 x,val:=val w }) (fun e' _=>⟨rfl,rfl⟩),fun y=>?_⟩,s'⟩)
  ·exact jg _ _ _
  ·rw [fi_set hm,hf]
end
end Mb
end
section
open Go Mb
structure ak where
 e0:Int
 e1:Int
 e2:Int
 e3:Int
 e4:Int
def ak.C (x:ak):List Value:=[.int .u64 x.e0,.int .u64 x.e1,.int .u64 x.e2,.int .u64 x.e3,.int .u64 x.e4]
structure ad where
 fWa:Int
 fVal:Int
def ad.C (x:ad):List Value:=[.int .i64 x.fWa,.int .u64 x.fVal]
structure ao where
 fCa:Int
 fPa:Int
 fEa:Int
 fBa:Int
def ao.C (x:ao):List Value:=[.int .i64 x.fCa,.int .i64 x.fPa,.int .i64 x.fEa,.int .i64 x.fBa]
structure aA where
 fOa:Int
 fCa:Int
 fIa:ak
 fQa:Int
 fHa:Int
 fTa:Int
 fAb:ad
 fUa:ao
def aA.C (x:aA):List Value:=[.int .i64 x.fOa,.int .i64 x.fCa,.int .u64 x.fIa.e0,.int .u64 x.fIa.e1,.int .u64 x.fIa.e2,.int .u64 x.fIa.e3,.int .u64 x.fIa.e4,.int .i64 x.fQa,.int .i64 x.fHa,.int .i64 x.fTa,.int .i64 x.fAb.fWa,.int .u64 x.fAb.fVal,.int .i64 x.fUa.fCa,.int .i64 x.fUa.fPa,.int .i64 x.fUa.fEa,.int .i64 x.fUa.fBa]
structure mz where
 fat:Int
 fFa:Int
 fc:ak
 fRa:Bool
 fCb:Int
def mz.C (x:mz):List Value:=[.int .i64 x.fat,.int .i64 x.fFa,.int .u64 x.fc.e0,.int .u64 x.fc.e1,.int .u64 x.fc.e2,.int .u64 x.fc.e3,.int .u64 x.fc.e4,.bool x.fRa,.int .u64 x.fCb]
structure an where
 fEa:Int
 fDa:Int
 fBa:Int
def an.C (x:an):List Value:=[.int .i64 x.fEa,.int .i64 x.fDa,.int .i64 x.fBa]
structure aD where
 fEa:Int
 fBa:Int
 fCa:Int
 fDa:Int
def aD.C (x:aD):List Value:=[.int .i64 x.fEa,.int .i64 x.fBa,.int .i64 x.fCa,.int .i64 x.fDa]
structure cu where
 fl:ao
 fwhen:Int
def cu.C (x:cu):List Value:=[.int .i64 x.fl.fCa,.int .i64 x.fl.fPa,.int .i64 x.fl.fEa,.int .i64 x.fl.fBa,.int .i64 x.fwhen]
structure jD where
 e0:cu
 e1:cu
def jD.C (x:jD):List Value:=[.int .i64 x.e0.fl.fCa,.int .i64 x.e0.fl.fPa,.int .i64 x.e0.fl.fEa,.int .i64 x.e0.fl.fBa,.int .i64 x.e0.fwhen,.int .i64 x.e1.fl.fCa,.int .i64 x.e1.fl.fPa,.int .i64 x.e1.fl.fEa,.int .i64 x.e1.fl.fBa,.int .i64 x.e1.fwhen]
structure aH where
 fCa:Int
 fDa:Int
def aH.C (x:aH):List Value:=[.int .i64 x.fCa,.int .i64 x.fDa]
structure aF where
 fSa:Int
 fJa:Int
 fXa:Int
def aF.C (x:aF):List Value:=[.int .i64 x.fSa,.int .i64 x.fJa,.int .i64 x.fXa]
structure tA where
 fl:Sl
def tA.C (x:tA):List Value:=[sv x.fl]
structure oV where
 frefs:Sl
def oV.C (x:oV):List Value:=[sv x.frefs]
structure oY where
 fl:Sl
def oY.C (x:oY):List Value:=[sv x.fl]
structure gE where
 fs:aF
 fm:Ptr
 ftables:Sl
 fpool:Ptr
 fcaps:Ptr
def gE.C (x:gE):List Value:=[.int .i64 x.fs.fSa,.int .i64 x.fs.fJa,.int .i64 x.fs.fXa,pv x.fm,sv x.ftables,pv x.fpool,pv x.fcaps]
structure lf where
 fes:Sl
 fs:aF
 fk:Ptr
def lf.C (x:lf):List Value:=[sv x.fes,.int .i64 x.fs.fSa,.int .i64 x.fs.fJa,.int .i64 x.fs.fXa,pv x.fk]
structure oW where
 fl:Sl
def oW.C (x:oW):List Value:=[sv x.fl]
structure ko where
 fowner:Sl
 fheard:Sl
def ko.C (x:ko):List Value:=[sv x.fowner,sv x.fheard]
structure fV where
 fp:Ptr
 fenvs:Int
 ftlbs:Sl
 fboxes:Ptr
 fepochs:Ptr
 fcalls:Sl
 fevents:Sl
 fnow:Int
def fV.C (x:fV):List Value:=[pv x.fp,.int .i64 x.fenvs,sv x.ftlbs,pv x.fboxes,pv x.fepochs,sv x.fcalls,sv x.fevents,.int .i64 x.fnow]
structure cx where
 fEb:Int
 fOa:Int
 fCa:Int
 fIa:ak
 fSet:Int
 fWay:Int
def cx.C (x:cx):List Value:=[.int .i64 x.fEb,.int .i64 x.fOa,.int .i64 x.fCa,.int .u64 x.fIa.e0,.int .u64 x.fIa.e1,.int .u64 x.fIa.e2,.int .u64 x.fIa.e3,.int .u64 x.fIa.e4,.int .i64 x.fSet,.int .i64 x.fWay]
structure ce where
 fBb:Int
 fCa:Int
 fIa:ak
 fWa:Value
def ce.C (x:ce):List Value:=[.int .i64 x.fBb,.int .i64 x.fCa,.int .u64 x.fIa.e0,.int .u64 x.fIa.e1,.int .u64 x.fIa.e2,.int .u64 x.fIa.e3,.int .u64 x.fIa.e4,x.fWa]
structure aM where
 ftyp_:Ptr
 fptr:Ptr
 fflag:Int
def aM.C (x:aM):List Value:=[pv x.ftyp_,pv x.fptr,.int .u64 x.fflag]
structure oX where
 fv:Int
 fn:Int
def oX.C (x:oX):List Value:=[.int .u64 x.fv,.int .i64 x.fn]
structure lc where
 fdrawn:Ptr
 fpassed:Ptr
def lc.C (x:lc):List Value:=[pv x.fdrawn,pv x.fpassed]
structure rQ where
 fIs:Bool
 fEa:Int
 fBa:Int
 fCa:Int
 fDa:Int
def rQ.C (x:rQ):List Value:=[.bool x.fIs,.int .i64 x.fEa,.int .i64 x.fBa,.int .i64 x.fCa,.int .i64 x.fDa]
structure iR where
 fCa:Int
 fDa:Int
def iR.C (x:iR):List Value:=[.int .i64 x.fCa,.int .i64 x.fDa]
def eN (r:Sl):Value:=(sv r)
abbrev eu:Nat:=42
abbrev ft:Nat:=55
theorem xj:Fld prog 109 6 6:=z_k 1 underlying109
theorem en_55:aI prog 55:=R func55
theorem sc_42:Sc prog 42:=⟨⟨_,underlying42,rfl⟩,bM (by kernel_rfl)⟩
abbrev gf:Nat:=20
def aC (r:Bool):Value:=(.bool r)
theorem qZ:Fld prog 109 5 5:=z_k 1 underlying109
theorem sc_107:Sc prog 107:=⟨⟨_,underlying107,rfl⟩,bM (by kernel_rfl)⟩
abbrev iG:Nat:=62
theorem slc_107:Slc prog 107 118 1:=⟨underlying107,bM (by kernel_rfl)⟩
theorem sc_118:Sc prog 118:=⟨⟨_,underlying118,rfl⟩,bM (by kernel_rfl)⟩
theorem en_62:aI prog 62:=R func62
abbrev gg:Nat:=31
theorem fld_109_1:Fld prog 109 1 1:=z_k 1 underlying109
theorem kh:Fld prog 109 7 7:=z_k 1 underlying109
theorem ck:prog.follows .mixedOrders = true:=by kernel_rfl
theorem fH:Ag prog 34 5:=⟨⟨_,underlying34,rfl⟩,bM (by kernel_rfl)⟩
theorem build_56_0_1_2_3 (y0:Int) (y1:Int) (y2:ak) (y3:Int):∀ w,(Instr.build 56 #[(0,(.int .i64 y0)),(1,(.int .i64 y1)),(2,(.agg (ak.C y2).toArray)),(3,(.int .i64 y3))]).run prog w = .ok (.agg (aA.C (⟨y0,y1,y2,y3,0,0,(⟨0,0⟩:ad),(⟨0,0,0,0⟩:ao)⟩:aA)).toArray) w:=fun _=>by kernel_rfl
theorem build_120_0_1_2 (y0:Int) (y1:Int) (y2:ak):∀ w,(Instr.build 120 #[(0,(.int .i64 y0)),(1,(.int .i64 y1)),(2,(.agg (ak.C y2).toArray))]).run prog w = .ok (.agg (mz.C (⟨y0,y1,y2,false,0⟩:mz)).toArray) w:=fun _=>by kernel_rfl
theorem inf_118:∃ i,prog.info? 118 = some i/\i.size = 1:=bM (by kernel_rfl)
abbrev cY:Nat:=120
theorem inf_42:∃ i,prog.info? 42 = some i/\i.size = 1:=bM (by kernel_rfl)
theorem ba:Sc prog 3:=⟨⟨_,underlying3,rfl⟩,bM (by kernel_rfl)⟩
theorem lL:∃ i,prog.info? 3 = some i/\i.size = 1:=bM (by kernel_rfl)
theorem en_31:aI prog 31:=R func31
abbrev lH:Nat:=27
def bI (r:Int × Bool):Value:=.tuple #[(.int .i64 r.1),(.bool r.2)]
theorem du:Arr prog 34 5 22 1:=⟨underlying34,bM (by kernel_rfl)⟩
theorem cG:Sc prog 22:=⟨⟨_,underlying22,rfl⟩,bM (by kernel_rfl)⟩
abbrev n_word_Kind:Nat:=63
abbrev n_word_User:Nat:=64
def iO (r:Ptr):Value:=(pv r)
abbrev kW:Nat:=214
abbrev lX:Nat:=107
def cC (r:Sl):Value:=(sv r)
abbrev dU:Nat:=39
abbrev sZ:Nat:=153
def ak.get (x:ak) (i:Int):Int:=match i.toNat with | 0=>x.e0 | 1=>x.e1 | 2=>x.e2 | 3=>x.e3 | 4=>x.e4 | _=>x.e4
theorem at_34 (x:ak) (i:Int) (h:0 <= i/\i < 5):(ak.C x)[0 + i.toNat * 1]? = some (.int .u64 (ak.get x i)):=by
 obtain ⟨n,rfl⟩:=Int.eq_ofNat_of_zero_le h.1
 have h2:n < 5:=by omega
 rcases n with _ | (_ | (_ | (_ | (_ | _)))) <;> first | rfl | omega
abbrev oe:Nat:=160
abbrev n_word_Rights:Nat:=193
theorem en_160:aI prog 160:=R func160
theorem en_193:aI prog 193:=R func193
abbrev n_word_fits:Nat:=154
def bj (r:Int):Value:=(.int .i64 r)
theorem dF:Slc prog 39 3 1:=⟨underlying39,bM (by kernel_rfl)⟩
theorem en_154:aI prog 154:=R func154
theorem en_153:aI prog 153:=R func153
theorem en_63:aI prog 63:=R func63
abbrev ie:Nat:=110
theorem xi:Fld prog 157 0 0:=z_k 3 underlying157
theorem mt:Fld prog 25 1 1:=z_k 1 underlying25
abbrev kH:Nat:=122
abbrev n_table_is:Nat:=156
def cM (r:an × Bool):Value:=.tuple #[(.agg (an.C r.1).toArray),(.bool r.2)]
theorem gq:∃ i,prog.info? 79 = some i/\i.zero = some (.agg (an.C (⟨0,0,0⟩:an)).toArray):=lB (by kernel_rfl)
theorem nP  : ∀ w,(Instr.build 79 #[]).run prog w = .ok (.agg (an.C (⟨0,0,0⟩:an)).toArray) w:=fun _=>by kernel_rfl
theorem fU:Ag prog 79 3:=⟨⟨_,underlying79,rfl⟩,bM (by kernel_rfl)⟩
theorem eq:∃ i,prog.info? 79 = some i/\i.size = 3:=bM (by kernel_rfl)
theorem kZ:Fld prog 214 0 0:=z_k 24 underlying214
theorem yJ:Arr prog 80 8 79 3:=⟨underlying80,bM (by kernel_rfl)⟩
theorem fd:Fld prog 79 2 2:=z_k 1 underlying79
theorem en_156:aI prog 156:=R func156
abbrev fy:Nat:=135
theorem fC:Fld prog 157 2 4:=z_k 1 underlying157
theorem nR:Slc prog 153 161 1:=⟨underlying153,bM (by kernel_rfl)⟩
theorem en_135:aI prog 135:=R func135
theorem rX:Sc prog 161:=⟨⟨_,underlying161,rfl⟩,bM (by kernel_rfl)⟩
theorem nk:Sc prog 153:=⟨⟨_,underlying153,rfl⟩,bM (by kernel_rfl)⟩
theorem en_122:aI prog 122:=R func122
abbrev ge:Nat:=89
theorem ir:Fld prog 208 0 0:=z_k 1 underlying208
theorem qP:Sc prog 206:=⟨⟨_,underlying206,rfl⟩,bM (by kernel_rfl)⟩
abbrev iH:Nat:=151
def cX (r:aD × Bool):Value:=.tuple #[(.agg (aD.C r.1).toArray),(.bool r.2)]
theorem iP:∃ i,prog.info? 36 = some i/\i.zero = some (.agg (aD.C (⟨0,0,0,0⟩:aD)).toArray):=lB (by kernel_rfl)
theorem build_36  : ∀ w,(Instr.build 36 #[]).run prog w = .ok (.agg (aD.C (⟨0,0,0,0⟩:aD)).toArray) w:=fun _=>by kernel_rfl
theorem ag_36:Ag prog 36 4:=⟨⟨_,underlying36,rfl⟩,bM (by kernel_rfl)⟩
theorem gQ:∃ i,prog.info? 36 = some i/\i.size = 4:=bM (by kernel_rfl)
theorem pn:Slc prog 206 205 32:=⟨underlying206,bM (by kernel_rfl)⟩
theorem rj:Arr prog 205 8 36 4:=⟨underlying205,bM (by kernel_rfl)⟩
theorem hG:Fld prog 36 1 1:=z_k 1 underlying36
theorem en_151:aI prog 151:=R func151
abbrev eK:Nat:=102
theorem fR:Fld prog 157 4 6:=z_k 1 underlying157
theorem uv:aI prog 102:=R func102
theorem iA:Sc prog 155:=⟨⟨_,underlying155,rfl⟩,bM (by kernel_rfl)⟩
abbrev iE:Nat:=53
abbrev n_pte_May:Nat:=166
theorem en_166:aI prog 166:=R func166
abbrev n_pte_Within:Nat:=116
theorem fD:Fld prog 120 2 2:=z_k 5 underlying120
theorem oU:Fld prog 109 0 0:=z_k 1 underlying109
theorem rO:Fld prog 36 2 2:=z_k 1 underlying36
theorem fld_36_3:Fld prog 36 3 3:=z_k 1 underlying36
theorem en_53:aI prog 53:=R func53
theorem qQ:Sc prog 103:=⟨⟨_,underlying103,rfl⟩,bM (by kernel_rfl)⟩
abbrev fZ:Nat:=36
theorem tz:Fld prog 120 1 1:=z_k 1 underlying120
abbrev qT:Nat:=165
def xx (r:an):Value:=(.agg (an.C r).toArray)
theorem ul:Fld prog 79 1 1:=z_k 1 underlying79
theorem nu:aI prog 116:=R func116
theorem en_165:aI prog 165:=R func165
abbrev mN:Nat:=115
theorem en_115:aI prog 115:=R func115
theorem fld_120_3:Fld prog 120 3 7:=z_k 1 underlying120
theorem sc_4:Sc prog 4:=⟨⟨_,underlying4,rfl⟩,bM (by kernel_rfl)⟩
theorem en_89:aI prog 89:=R func89
abbrev mM:Nat:=111
def bN (r:Int × Bool):Value:=.tuple #[(.int .u64 r.1),(.bool r.2)]
def an.eqb (x y:an):Bool:=((x.fEa == y.fEa) && ((x.fDa == y.fDa) && ((x.fBa == y.fBa) && true)))
theorem eqr_79 (n:Nat) (x y:an):EqR prog (n + 2) 79 (.agg (an.C x).toArray) (.agg (an.C y).toArray) (an.eqb x y):=yF underlying79 (by kernel_rfl) (mu (by decide) (im ba rfl) (im ba rfl) (jQ (n:=n + 0) underlying3) (mu (by decide) (im ba rfl) (im ba rfl) (jQ (n:=n + 0) underlying3) (mu (by decide) (im ba rfl) (im ba rfl) (jQ (n:=n + 0) underlying3) eqf_nil)))
theorem eqg_79:prog.eqGuardType prog.depth 79 = false:=by kernel_rfl
theorem rL:Fld prog 79 0 0:=z_k 1 underlying79
abbrev n_pte_Put:Nat:=155
theorem en_155:aI prog 155:=R func155
abbrev eJ:Nat:=112
def R_api_Line (r:ao):Value:=(.agg (ao.C r).toArray)
theorem lC:∃ i,prog.info? 54 = some i/\i.zero = some (.agg (ao.C (⟨0,0,0,0⟩:ao)).toArray):=lB (by kernel_rfl)
theorem build_54_0 (y0:Int):∀ w,(Instr.build 54 #[(0,(.int .i64 y0))]).run prog w = .ok (.agg (ao.C (⟨y0,0,0,0⟩:ao)).toArray) w:=fun _=>by kernel_rfl
theorem ip:Ag prog 54 4:=⟨⟨_,underlying54,rfl⟩,bM (by kernel_rfl)⟩
theorem fN:∃ i,prog.info? 54 = some i/\i.size = 4:=bM (by kernel_rfl)
abbrev n_tlb_empty:Nat:=152
def kz (r:Ptr):Value:=(pv r)
theorem tx:Fld prog 173 0 0:=z_k 40 underlying173
theorem arr_171:Arr prog 171 4 170 10:=⟨underlying171,bM (by kernel_rfl)⟩
theorem arr_170:Arr prog 170 2 169 5:=⟨underlying170,bM (by kernel_rfl)⟩
theorem mU:Fld prog 169 0 0:=z_k 4 underlying169
theorem kg:Fld prog 54 0 0:=z_k 1 underlying54
theorem nN:Fld prog 54 1 1:=z_k 1 underlying54
abbrev pI:Nat:=167
theorem en_152:aI prog 152:=R func152
theorem en_167:aI prog 167:=R func167
abbrev nT:Nat:=117
def fW (r:ao × Bool):Value:=.tuple #[(.agg (ao.C r.1).toArray),(.bool r.2)]
theorem my  : ∀ w,(Instr.build 54 #[]).run prog w = .ok (.agg (ao.C (⟨0,0,0,0⟩:ao)).toArray) w:=fun _=>by kernel_rfl
abbrev pJ:Nat:=157
abbrev n_pte_Lets:Nat:=158
theorem fld_169_1:Fld prog 169 1 4:=z_k 1 underlying169
abbrev ub:Nat:=194
theorem ms:Fld prog 54 2 2:=z_k 1 underlying54
theorem rN:Fld prog 54 3 3:=z_k 1 underlying54
theorem fld_173_1:Fld prog 173 1 40:=z_k 1 underlying173
theorem build_169_0_1 (y0:ao) (y1:Int):∀ w,(Instr.build 169 #[(0,(.agg (ao.C y0).toArray)),(1,(.int .i64 y1))]).run prog w = .ok (.agg (cu.C (⟨y0,y1⟩:cu)).toArray) w:=fun _=>by kernel_rfl
theorem inf_169:∃ i,prog.info? 169 = some i/\i.size = 5:=bM (by kernel_rfl)
theorem en_194:aI prog 194:=R func194
abbrev pK:Nat:=159
theorem en_117:aI prog 117:=R func117
theorem xv (y0:Int) (y1:Int) (y2:Int) (y3:Int):∀ w,(Instr.build 54 #[(0,(.int .i64 y0)),(1,(.int .i64 y1)),(2,(.int .i64 y2)),(3,(.int .i64 y3))]).run prog w = .ok (.agg (ao.C (⟨y0,y1,y2,y3⟩:ao)).toArray) w:=fun _=>by kernel_rfl
theorem en_159:aI prog 159:=R func159
theorem en_158:aI prog 158:=R func158
theorem en_157:aI prog 157:=R func157
abbrev vx:Nat:=113
def eF (r:Int):Value:=(.int .i64 r)
theorem tw:Fld prog 212 0 0:=z_k 1 underlying212
theorem lR:Sc prog 163:=⟨⟨_,underlying163,rfl⟩,bM (by kernel_rfl)⟩
abbrev xc:Nat:=204
def tB (r:Ptr):Value:=(pv r)
theorem mD:Slc prog 163 93 1:=⟨underlying163,bM (by kernel_rfl)⟩
theorem xI:Slc prog 93 22 1:=⟨underlying93,bM (by kernel_rfl)⟩
theorem sc_93:Sc prog 93:=⟨⟨_,underlying93,rfl⟩,bM (by kernel_rfl)⟩
theorem en_204:aI prog 204:=R func204
abbrev mK:Nat:=179
theorem en_179:aI prog 179:=R func179
abbrev iF:Nat:=161
theorem inf_22:∃ i,prog.info? 22 = some i/\i.size = 1:=bM (by kernel_rfl)
abbrev fT:Nat:=162
theorem en_162:aI prog 162:=R func162
theorem en_161:aI prog 161:=R func161
abbrev re:Nat:=163
abbrev rf:Nat:=164
def bo (r:ad × Bool):Value:=.tuple #[(.agg (ad.C r.1).toArray),(.bool r.2)]
theorem dq:∃ i,prog.info? 30 = some i/\i.zero = some (.agg (ad.C (⟨0,0⟩:ad)).toArray):=lB (by kernel_rfl)
theorem uz  : ∀ w,(Instr.build 30 #[]).run prog w = .ok (.agg (ad.C (⟨0,0⟩:ad)).toArray) w:=fun _=>by kernel_rfl
theorem cO:Ag prog 30 2:=⟨⟨_,underlying30,rfl⟩,bM (by kernel_rfl)⟩
theorem bR:∃ i,prog.info? 30 = some i/\i.size = 2:=bM (by kernel_rfl)
theorem kO (y1:Int):∀ w,(Instr.build 30 #[(1,(.int .u64 y1))]).run prog w = .ok (.agg (ad.C (⟨0,y1⟩:ad)).toArray) w:=fun _=>by kernel_rfl
theorem mW:Fld prog 157 1 3:=z_k 1 underlying157
theorem yc:Sc prog 152:=⟨⟨_,underlying152,rfl⟩,bM (by kernel_rfl)⟩
theorem en_163:aI prog 163:=R func163
theorem en_164:aI prog 164:=R func164
theorem en_64:aI prog 64:=R func64
abbrev fz:Nat:=114
def eY (r:ad × ao):Value:=.tuple #[(.agg (ad.C r.1).toArray),(.agg (ao.C r.2).toArray)]
theorem jK (y0:Int):∀ w,(Instr.build 30 #[(0,(.int .i64 y0))]).run prog w = .ok (.agg (ad.C (⟨y0,0⟩:ad)).toArray) w:=fun _=>by kernel_rfl
theorem iu:Fld prog 109 2 2:=z_k 1 underlying109
theorem slc_104:Slc prog 104 114 1:=⟨underlying104,bM (by kernel_rfl)⟩
theorem wt:aI prog 114:=R func114
theorem en_113:aI prog 113:=R func113
theorem sc_114:Sc prog 114:=⟨⟨_,underlying114,rfl⟩,bM (by kernel_rfl)⟩
theorem wg:Sc prog 104:=⟨⟨_,underlying104,rfl⟩,bM (by kernel_rfl)⟩
theorem en_112:aI prog 112:=R func112
theorem en_111:aI prog 111:=R func111
theorem en_107:aI prog 107:=R func107
theorem en_110:aI prog 110:=R func110
abbrev ou:Nat:=65
def R_ (_:Unit):Value:=.tuple #[]
theorem fld_120_0:Fld prog 120 0 0:=z_k 1 underlying120
theorem qK:Slc prog 42 56 16:=⟨underlying42,bM (by kernel_rfl)⟩
theorem jA:Fld prog 56 4 8:=z_k 1 underlying56
theorem nL:Fld prog 56 5 9:=z_k 1 underlying56
theorem kU:Fld prog 56 6 10:=z_k 2 underlying56
theorem gD:Fld prog 56 7 12:=z_k 4 underlying56
abbrev mO:Nat:=66
abbrev pL:Nat:=67
def rR (r:Sl):Value:=(sv r)
abbrev t_2_tlb_line:Nat:=170
def R_tlb_line (r:cu):Value:=(.agg (cu.C r).toArray)
theorem zero_169:∃ i,prog.info? 169 = some i/\i.zero = some (.agg (cu.C (⟨(⟨0,0,0,0⟩:ao),0⟩:cu)).toArray):=lB (by kernel_rfl)
abbrev ru:Nat:=76
theorem ag_170:Ag prog 170 10:=⟨⟨_,underlying170,rfl⟩,bM (by kernel_rfl)⟩
abbrev rY:Nat:=87
theorem slc_76:Slc prog 76 54 4:=⟨underlying76,bM (by kernel_rfl)⟩
theorem en_87:aI prog 87:=R func87
abbrev lG:Nat:=68
theorem fld_167_1:Fld prog 167 1 1:=z_k 1 underlying167
abbrev lI:Nat:=118
def hH (r:Int):Value:=(.int .u64 r)
theorem fld_167_0:Fld prog 167 0 0:=z_k 1 underlying167
theorem sc_39:Sc prog 39:=⟨⟨_,underlying39,rfl⟩,bM (by kernel_rfl)⟩
abbrev gi:Nat:=119
theorem en_119:aI prog 119:=R func119
theorem inf_39:∃ i,prog.info? 39 = some i/\i.size = 1:=bM (by kernel_rfl)
theorem en_118:aI prog 118:=R func118
abbrev ju:Nat:=69
theorem mV:Fld prog 165 0 0:=z_k 1 underlying165
abbrev mg:Nat:=168
abbrev ug:Nat:=218
theorem en_218:aI prog 218:=R func218
abbrev vD:Nat:=195
abbrev qx:Nat:=196
theorem en_195:aI prog 195:=R func195
theorem en_196:aI prog 196:=R func196
abbrev eZ:Nat:=169
abbrev bf:Nat:=93
def ch (r:Sl):Value:=(sv r)
abbrev ta:Nat:=198
abbrev lD:Nat:=3
abbrev wi:Nat:=197
theorem en_198:aI prog 198:=R func198
abbrev dN:Nat:=170
theorem inf_93:∃ i,prog.info? 93 = some i/\i.size = 1:=bM (by kernel_rfl)
theorem en_170:aI prog 170:=R func170
theorem en_169:aI prog 169:=R func169
theorem en_168:aI prog 168:=R func168
abbrev qS:Nat:=120
theorem en_120:aI prog 120:=R func120
abbrev nV:Nat:=70
abbrev jt:Nat:=121
theorem en_121:aI prog 121:=R func121
abbrev jP:Nat:=71
abbrev n_plain_fails:Nat:=123
theorem build_36_0_1_2 (y0:Int) (y1:Int) (y2:Int):∀ w,(Instr.build 36 #[(0,(.int .i64 y0)),(1,(.int .i64 y1)),(2,(.int .i64 y2))]).run prog w = .ok (.agg (aD.C (⟨y0,y1,y2,0⟩:aD)).toArray) w:=fun _=>by kernel_rfl
abbrev jZ:Nat:=142
abbrev kF:Nat:=199
theorem oS:Fld prog 210 0 0:=z_k 1 underlying210
theorem en_199:aI prog 199:=R func199
abbrev jW:Nat:=171
abbrev t_none:Nat:=0
abbrev ud:Nat:=172
theorem oT:Fld prog 157 3 5:=z_k 1 underlying157
theorem en_142:aI prog 142:=R func142
theorem en_172:aI prog 172:=R func172
theorem en_171:aI prog 171:=R func171
theorem sc_154:Sc prog 154:=⟨⟨_,underlying154,rfl⟩,bM (by kernel_rfl)⟩
abbrev ma:Nat:=124
theorem uo:Fld prog 36 0 0:=z_k 1 underlying36
theorem build_36_0_1_2_3 (y0:Int) (y1:Int) (y2:Int) (y3:Int):∀ w,(Instr.build 36 #[(0,(.int .i64 y0)),(1,(.int .i64 y1)),(2,(.int .i64 y2)),(3,(.int .i64 y3))]).run prog w = .ok (.agg (aD.C (⟨y0,y1,y2,y3⟩:aD)).toArray) w:=fun _=>by kernel_rfl
abbrev iI:Nat:=143
abbrev jX:Nat:=200
theorem en_200:aI prog 200:=R func200
abbrev mI:Nat:=173
def db (r:Sl):Value:=(sv r)
abbrev lQ:Nat:=205
def R_api_Cap (r:aD):Value:=(.agg (aD.C r).toArray)
theorem ww (y0:Int) (y1:Int):∀ w,(Instr.build 233 #[(0,(.int .i64 y0)),(1,(.int .i64 y1))]).run prog w = .ok (.agg (aH.C (⟨y0,y1⟩:aH)).toArray) w:=fun _=>by kernel_rfl
theorem zero_233:∃ i,prog.info? 233 = some i/\i.zero = some (.agg (aH.C (⟨0,0⟩:aH)).toArray):=lB (by kernel_rfl)
theorem ag_233:Ag prog 233 2:=⟨⟨_,underlying233,rfl⟩,bM (by kernel_rfl)⟩
abbrev ik:Nat:=201
theorem inf_233:∃ i,prog.info? 233 = some i/\i.size = 2:=bM (by kernel_rfl)
abbrev kT:Nat:=188
abbrev mS:Nat:=201
theorem slc_201:Slc prog 201 233 2:=⟨underlying201,bM (by kernel_rfl)⟩
theorem fld_233_0:Fld prog 233 0 0:=z_k 1 underlying233
theorem fld_233_1:Fld prog 233 1 1:=z_k 1 underlying233
abbrev gX:Nat:=202
abbrev lJ:Nat:=190
def aH.eqb (x y:aH):Bool:=((x.fCa == y.fCa) && ((x.fDa == y.fDa) && true))
theorem eqr_233 (n:Nat) (x y:aH):EqR prog (n + 2) 233 (.agg (aH.C x).toArray) (.agg (aH.C y).toArray) (aH.eqb x y):=yF underlying233 (by kernel_rfl) (mu (by decide) (im ba rfl) (im ba rfl) (jQ (n:=n + 0) underlying3) (mu (by decide) (im ba rfl) (im ba rfl) (jQ (n:=n + 0) underlying3) eqf_nil))
theorem eqg_233:prog.eqGuardType prog.depth 233 = false:=by kernel_rfl
theorem en_190:aI prog 190:=R func190
abbrev gY:Nat:=203
def dH (r:Sl × Int):Value:=.tuple #[(sv r.1),(.int .i64 r.2)]
theorem en_202:aI prog 202:=R func202
theorem en_188:aI prog 188:=R func188
abbrev sR:Nat:=233
theorem en_201:aI prog 201:=R func201
abbrev sS:Nat:=155
abbrev mT:Nat:=174
theorem en_174:aI prog 174:=R func174
theorem en_173:aI prog 173:=R func173
theorem en_143:aI prog 143:=R func143
abbrev iQ:Nat:=125
def jR (r:an × Int):Value:=.tuple #[(.agg (an.C r.1).toArray),(.int .i64 r.2)]
abbrev js:Nat:=128
abbrev mj:Nat:=189
abbrev lK:Nat:=147
theorem en_147:aI prog 147:=R func147
abbrev ow:Nat:=175
abbrev uN:Nat:=80
abbrev mH:Nat:=176
abbrev nU:Nat:=177
def ij (r:ad):Value:=(.agg (ad.C r).toArray)
theorem en_128:aI prog 128:=R func128
theorem en_177:aI prog 177:=R func177
theorem en_176:aI prog 176:=R func176
theorem en_175:aI prog 175:=R func175
abbrev li:Nat:=126
theorem pX (y0:Int) (y1:Int) (y2:Int):∀ w,(Instr.build 79 #[(0,(.int .i64 y0)),(1,(.int .i64 y1)),(2,(.int .i64 y2))]).run prog w = .ok (.agg (an.C (⟨y0,y1,y2⟩:an)).toArray) w:=fun _=>by kernel_rfl
abbrev nq:Nat:=127
abbrev lh:Nat:=178
theorem en_178:aI prog 178:=R func178
abbrev kG:Nat:=129
abbrev n_pred_Holds:Nat:=148
theorem sk:aI prog 123:=R func123
theorem en_148:aI prog 148:=R func148
abbrev lZ:Nat:=130
abbrev nl:Nat:=131
theorem en_126:aI prog 126:=R func126
theorem en_124:aI prog 124:=R func124
theorem en_125:aI prog 125:=R func125
theorem en_127:aI prog 127:=R func127
theorem en_129:aI prog 129:=R func129
theorem en_130:aI prog 130:=R func130
theorem en_131:aI prog 131:=R func131
abbrev dI:Nat:=72
theorem en_66:aI prog 66:=R func66
theorem en_65:aI prog 65:=R func65
theorem fld_109_4:Fld prog 109 4 4:=z_k 1 underlying109
theorem fld_120_4:Fld prog 120 4 8:=z_k 1 underlying120
theorem fld_109_3:Fld prog 109 3 3:=z_k 1 underlying109
theorem en_70:aI prog 70:=R func70
theorem sc_105:Sc prog 105:=⟨⟨_,underlying105,rfl⟩,bM (by kernel_rfl)⟩
theorem en_69:aI prog 69:=R func69
theorem sc_106:Sc prog 106:=⟨⟨_,underlying106,rfl⟩,bM (by kernel_rfl)⟩
theorem en_68:aI prog 68:=R func68
theorem inf_4:∃ i,prog.info? 4 = some i/\i.size = 1:=bM (by kernel_rfl)
theorem en_72:aI prog 72:=R func72
theorem en_71:aI prog 71:=R func71
theorem en_67:aI prog 67:=R func67
abbrev mP:Nat:=28
abbrev lF:Nat:=132
theorem en_132:aI prog 132:=R func132
abbrev mL:Nat:=97
abbrev kJ:Nat:=98
theorem en_98:aI prog 98:=R func98
theorem en_97:aI prog 97:=R func97
abbrev mQ:Nat:=46
abbrev qU:Nat:=73
theorem en_28:aI prog 28:=R func28
theorem en_46:aI prog 46:=R func46
theorem en_73:aI prog 73:=R func73
abbrev ig:Nat:=29
theorem um:Fld prog 56 0 0:=z_k 1 underlying56
theorem en_20:aI prog 20:=R func20
theorem en_29:aI prog 29:=R func29
theorem en_27:aI prog 27:=R func27
abbrev eR:Nat:=16
theorem nO:Fld prog 25 0 0:=z_k 1 underlying25
theorem pV:Fld prog 56 1 1:=z_k 1 underlying56
theorem rM:Fld prog 56 3 7:=z_k 1 underlying56
abbrev n_hist_one:Nat:=61
abbrev jS:Nat:=61
def R_map_int_bool (r:(Option Nat)):Value:=(.map r)
abbrev eL:Nat:=95
def R_map_int_int (r:(Option Nat)):Value:=(.map r)
theorem zero_56:∃ i,prog.info? 56 = some i/\i.zero = some (.agg (aA.C (⟨0,0,(⟨0,0,0,0,0⟩:ak),0,0,0,(⟨0,0⟩:ad),(⟨0,0,0,0⟩:ao)⟩:aA)).toArray):=lB (by kernel_rfl)
theorem ag_56:Ag prog 56 16:=⟨⟨_,underlying56,rfl⟩,bM (by kernel_rfl)⟩
theorem pZ:Ag prog 25 3:=⟨⟨_,underlying25,rfl⟩,bM (by kernel_rfl)⟩
theorem en_61:aI prog 61:=R func61
theorem inf_56:∃ i,prog.info? 56 = some i/\i.size = 16:=bM (by kernel_rfl)
abbrev yn:Nat:=25
abbrev rg:Nat:=92
abbrev nW:Nat:=93
abbrev bT:Nat:=181
abbrev dk:Nat:=220
theorem en_220:aI prog 220:=R func220
abbrev dG:Nat:=205
abbrev cn:Nat:=182
theorem en_182:aI prog 182:=R func182
theorem en_205:aI prog 205:=R func205
theorem en_181:aI prog 181:=R func181
abbrev lY:Nat:=137
theorem en_137:aI prog 137:=R func137
abbrev eH:Nat:=94
abbrev n_cmp_isNaN_int:Nat:=138
theorem en_138:aI prog 138:=R func138
abbrev vF:Nat:=96
theorem en_96:aI prog 96:=R func96
abbrev sf:Nat:=95
theorem en_94:aI prog 94:=R func94
theorem en_92:aI prog 92:=R func92
abbrev kI:Nat:=44
def uE (r:Ptr):Value:=(pv r)
theorem build_212  : ∀ w,(Instr.build 212 #[]).run prog w = .ok (.agg (tA.C (⟨(⟨none,0,0,none⟩:Sl)⟩:tA)).toArray) w:=fun _=>by kernel_rfl
abbrev qI:Nat:=163
def R_SSuint64 (r:Sl):Value:=(sv r)
theorem inf_163:∃ i,prog.info? 163 = some i/\i.size = 1:=bM (by kernel_rfl)
abbrev mA:Nat:=212
abbrev xa:Nat:=104
def tk (r:Ptr):Value:=(pv r)
theorem build_210_0 (y0:Sl):∀ w,(Instr.build 210 #[(0,(sv y0))]).run prog w = .ok (.agg (oV.C (⟨y0⟩:oV)).toArray) w:=fun _=>by kernel_rfl
abbrev rp:Nat:=210
abbrev yl:Nat:=105
def tn (r:Ptr):Value:=(pv r)
abbrev t_S_8_api_Cap:Nat:=206
def R_S_8_api_Cap (r:Sl):Value:=(sv r)
theorem build_208_0 (y0:Sl):∀ w,(Instr.build 208 #[(0,(sv y0))]).run prog w = .ok (.agg (oY.C (⟨y0⟩:oY)).toArray) w:=fun _=>by kernel_rfl
abbrev oE:Nat:=208
abbrev yo:Nat:=106
def dX (r:Ptr):Value:=(pv r)
theorem uq:Fld prog 25 2 2:=z_k 1 underlying25
theorem build_157_0_1_3_4 (y0:aF) (y1:Ptr) (y3:Ptr) (y4:Ptr):∀ w,(Instr.build 157 #[(0,(.agg (aF.C y0).toArray)),(1,(pv y1)),(3,(pv y3)),(4,(pv y4))]).run prog w = .ok (.agg (gE.C (⟨y0,y1,(⟨none,0,0,none⟩:Sl),y3,y4⟩:gE)).toArray) w:=fun _=>by kernel_rfl
abbrev fh:Nat:=153
def nY (r:Sl):Value:=(sv r)
theorem inf_153:∃ i,prog.info? 153 = some i/\i.size = 1:=bM (by kernel_rfl)
abbrev cJ:Nat:=157
theorem en_106:aI prog 106:=R func106
theorem en_105:aI prog 105:=R func105
theorem en_104:aI prog 104:=R func104
abbrev oK:Nat:=56
theorem nM:Fld prog 56 2 2:=z_k 5 underlying56
abbrev n_judge_user:Nat:=139
abbrev gO:Nat:=180
theorem en_180:aI prog 180:=R func180
abbrev sd:Nat:=136
abbrev np:Nat:=207
theorem en_136:aI prog 136:=R func136
theorem en_207:aI prog 207:=R func207
theorem en_56:aI prog 56:=R func56
abbrev gV:Nat:=184
abbrev uf:Nat:=221
abbrev n_hist_Over:Nat:=206
def rd (r:Sl):Value:=(sv r)
theorem xh:Fld prog 196 2 4:=z_k 1 underlying196
abbrev qH:Nat:=240
theorem fld_196_0:Fld prog 196 0 0:=z_k 1 underlying196
theorem en_184:aI prog 184:=R func184
theorem en_206:aI prog 206:=R func206
abbrev mh:Nat:=183
theorem fld_196_1:Fld prog 196 1 1:=z_k 3 underlying196
def ad.eqb (x y:ad):Bool:=((x.fWa == y.fWa) && ((x.fVal == y.fVal) && true))
theorem pB:Sc prog 28:=⟨⟨_,underlying28,rfl⟩,bM (by kernel_rfl)⟩
theorem eqr_30 (n:Nat) (x y:ad):EqR prog (n + 2) 30 (.agg (ad.C x).toArray) (.agg (ad.C y).toArray) (ad.eqb x y):=yF underlying30 (by kernel_rfl) (mu (by decide) (im pB rfl) (im pB rfl) (jQ (n:=n + 0) underlying28) (mu (by decide) (im cG rfl) (im cG rfl) (jQ (n:=n + 0) underlying22) eqf_nil))
theorem eqg_30:prog.eqGuardType prog.depth 30 = false:=by kernel_rfl
def ao.eqb (x y:ao):Bool:=((x.fCa == y.fCa) && ((x.fPa == y.fPa) && ((x.fEa == y.fEa) && ((x.fBa == y.fBa) && true))))
theorem eqr_54 (n:Nat) (x y:ao):EqR prog (n + 2) 54 (.agg (ao.C x).toArray) (.agg (ao.C y).toArray) (ao.eqb x y):=yF underlying54 (by kernel_rfl) (mu (by decide) (im ba rfl) (im ba rfl) (jQ (n:=n + 0) underlying3) (mu (by decide) (im ba rfl) (im ba rfl) (jQ (n:=n + 0) underlying3) (mu (by decide) (im ba rfl) (im ba rfl) (jQ (n:=n + 0) underlying3) (mu (by decide) (im ba rfl) (im ba rfl) (jQ (n:=n + 0) underlying3) eqf_nil))))
theorem eqg_54:prog.eqGuardType prog.depth 54 = false:=by kernel_rfl
theorem slc_240:Slc prog 240 79 3:=⟨underlying240,bM (by kernel_rfl)⟩
theorem kV:Fld prog 30 0 0:=z_k 1 underlying30
theorem fld_30_1:Fld prog 30 1 1:=z_k 1 underlying30
theorem en_183:aI prog 183:=R func183
abbrev mi:Nat:=140
abbrev ov:Nat:=141
theorem build_196_0_1_2 (y0:Sl) (y1:aF) (y2:Ptr):∀ w,(Instr.build 196 #[(0,(sv y0)),(1,(.agg (aF.C y1).toArray)),(2,(pv y2))]).run prog w = .ok (.agg (lf.C (⟨y0,y1,y2⟩:lf)).toArray) w:=fun _=>by kernel_rfl
theorem en_141:aI prog 141:=R func141
theorem en_140:aI prog 140:=R func140
theorem en_139:aI prog 139:=R func139
theorem en_44:aI prog 44:=R func44
abbrev dx:Nat:=196
theorem en_25:aI prog 25:=R func25
abbrev vz:Nat:=99
theorem en_99:aI prog 99:=R func99
abbrev pN:Nat:=47
abbrev pO:Nat:=48
theorem en_48:aI prog 48:=R func48
theorem en_47:aI prog 47:=R func47
abbrev wj:Nat:=19
def qa (r:Ptr):Value:=(pv r)
theorem build_165_0 (y0:Sl):∀ w,(Instr.build 165 #[(0,(sv y0))]).run prog w = .ok (.agg (oW.C (⟨y0⟩:oW)).toArray) w:=fun _=>by kernel_rfl
abbrev lO:Nat:=165
abbrev ue:Nat:=57
def jj (r:Ptr):Value:=(pv r)
theorem build_167_1 (y1:Sl):∀ w,(Instr.build 167 #[(1,(sv y1))]).run prog w = .ok (.agg (ko.C (⟨(⟨none,0,0,none⟩:Sl),y1⟩:ko)).toArray) w:=fun _=>by kernel_rfl
abbrev iy:Nat:=167
abbrev oN:Nat:=58
abbrev sc:Nat:=108
def gT (r:Ptr):Value:=(pv r)
abbrev qG:Nat:=173
theorem en_108:aI prog 108:=R func108
abbrev jf:Nat:=59
def tm (r:Ptr):Value:=(pv r)
abbrev nG:Nat:=107
def rl (r:Sl):Value:=(sv r)
theorem nv (y0:Ptr) (y1:Int) (y3:Ptr) (y4:Ptr) (y5:Sl):∀ w,(Instr.build 109 #[(0,(pv y0)),(1,(.int .i64 y1)),(3,(pv y3)),(4,(pv y4)),(5,(sv y5))]).run prog w = .ok (.agg (fV.C (⟨y0,y1,(⟨none,0,0,none⟩:Sl),y3,y4,y5,(⟨none,0,0,none⟩:Sl),0⟩:fV)).toArray) w:=fun _=>by kernel_rfl
abbrev bV:Nat:=104
def dZ (r:Sl):Value:=(sv r)
theorem inf_104:∃ i,prog.info? 104 = some i/\i.size = 1:=bM (by kernel_rfl)
theorem en_59:aI prog 59:=R func59
abbrev cm:Nat:=109
theorem en_58:aI prog 58:=R func58
theorem en_57:aI prog 57:=R func57
abbrev ym:Nat:=23
def iq (r:Sl):Value:=(sv r)
abbrev lP:Nat:=45
theorem build_51_0_1 (y0:Int) (y1:Int):∀ w,(Instr.build 51 #[(0,(.int .i64 y0)),(1,(.int .i64 y1))]).run prog w = .ok (.agg (cx.C (⟨y0,y1,0,(⟨0,0,0,0,0⟩:ak),0,0⟩:cx)).toArray) w:=fun _=>by kernel_rfl
abbrev wk:Nat:=49
abbrev mJ:Nat:=103
theorem en_103:aI prog 103:=R func103
abbrev nr:Nat:=54
abbrev yi:Nat:=185
theorem en_185:aI prog 185:=R func185
abbrev n_user_Do:Nat:=144
def iS (r:Value):Value:=(r)
theorem build_254_0_1 (y0:Int) (y1:Int):∀ w,(Instr.build 254 #[(0,(.int .i64 y0)),(1,(.int .i64 y1))]).run prog w = .ok (.agg (ce.C (⟨y0,y1,(⟨0,0,0,0,0⟩:ak),Value.nilIface⟩:ce)).toArray) w:=fun _=>by kernel_rfl
abbrev bg:Nat:=252
abbrev oD:Nat:=254
abbrev kY:Nat:=150
abbrev gA:Nat:=191
theorem ag_296:Ag prog 296 3:=⟨⟨_,underlying296,rfl⟩,bM (by kernel_rfl)⟩
abbrev fF:Nat:=233
def fS (r:aM):Value:=(.agg (aM.C r).toArray)
abbrev dc:Nat:=229
abbrev fM:Nat:=234
abbrev gH:Nat:=199
abbrev jG:Nat:=277
def gF (r:Value × Bool):Value:=.tuple #[(r.1),(.bool r.2)]
abbrev iX:Nat:=279
def gn (r:Value × Bool):Value:=.tuple #[(r.1),(.bool r.2)]
def R_Serror (r:Sl):Value:=(sv r)
theorem slc_280:Slc prog 280 199 1:=⟨underlying280,bM (by kernel_rfl)⟩
abbrev vB:Nat:=232
theorem en_232:aI prog 232:=R func232
theorem sc_199:Sc prog 199:=⟨⟨_,underlying199,rfl⟩,bM (by kernel_rfl)⟩
abbrev rq:Nat:=305
def oB (r:Value × Bool):Value:=.tuple #[(r.1),(.bool r.2)]
theorem zero_296:∃ i,prog.info? 296 = some i/\i.zero = some (.agg (aM.C (⟨none,none,0⟩:aM)).toArray):=lB (by kernel_rfl)
abbrev iV:Nat:=230
def R_abi_Kind (r:Int):Value:=(.int .u8 r)
def str_6ae768b9:ByteArray:=⟨#[101,114,114,111,114,115,58,32,42,116,97,114,103,101,116,32,109,117,115,116,32,98,101,32,105,110,116,101,114,102,97,99,101,32,111,114,32,105,109,112,108,101,109,101,110,116,32,101,114,114,111,114]⟩
abbrev wz:Nat:=9
theorem sc_249:Sc prog 249:=⟨⟨_,underlying249,rfl⟩,bM (by kernel_rfl)⟩
abbrev fu:Nat:=231
def str_ae9b7a08:ByteArray:=⟨#[101,114,114,111,114,115,58,32,116,97,114,103,101,116,32,109,117,115,116,32,98,101,32,97,32,110,111,110,45,110,105,108,32,112,111,105,110,116,101,114]⟩
theorem inf_296:∃ i,prog.info? 296 = some i/\i.size = 3:=bM (by kernel_rfl)
def str_53947bae:ByteArray:=⟨#[101,114,114,111,114,115,58,32,116,97,114,103,101,116,32,99,97,110,110,111,116,32,98,101,32,110,105,108]⟩
abbrev vC:Nat:=227
def eX (r:Ptr × Bool):Value:=.tuple #[(pv r.1),(.bool r.2)]
theorem zero_252:∃ i,prog.info? 252 = some i/\i.zero = some (pv none):=lB (by kernel_rfl)
theorem sc_252:Sc prog 252:=⟨⟨_,underlying252,rfl⟩,bM (by kernel_rfl)⟩
abbrev bF:Nat:=290
theorem en_227:aI prog 227:=R func227
abbrev kD:Nat:=222
theorem xg:Fld prog 254 0 0:=z_k 1 underlying254
theorem en_222:aI prog 222:=R func222
abbrev vy:Nat:=208
def R_trap_Trap (r:ce):Value:=(.agg (ce.C r).toArray)
theorem en_208:aI prog 208:=R func208
abbrev n_trap_In:Nat:=186
theorem yG:aI prog 150:=R func150
theorem en_186:aI prog 186:=R func186
abbrev oo:Nat:=145
def qb (r:Ptr):Value:=(pv r)
theorem build_285_0 (y0:Int):∀ w,(Instr.build 285 #[(0,(.int .u64 y0))]).run prog w = .ok (.agg (oX.C (⟨y0,0⟩:oX)).toArray) w:=fun _=>by kernel_rfl
abbrev rr:Nat:=285
abbrev uh:Nat:=209
def uD (r:Ptr):Value:=(pv r)
theorem build_287_0_1 (y0:Ptr) (y1:Ptr):∀ w,(Instr.build 287 #[(0,(pv y0)),(1,(pv y1))]).run prog w = .ok (.agg (lc.C (⟨y0,y1⟩:lc)).toArray) w:=fun _=>by kernel_rfl
abbrev nE:Nat:=287
theorem en_209:aI prog 209:=R func209
abbrev yk:Nat:=210
theorem tv:Fld prog 285 1 1:=z_k 1 underlying285
theorem oR:Fld prog 285 0 0:=z_k 1 underlying285
abbrev pQ:Nat:=211
theorem fld_287_0:Fld prog 287 0 0:=z_k 1 underlying287
theorem en_211:aI prog 211:=R func211
theorem sc_266:Sc prog 266:=⟨⟨_,underlying266,rfl⟩,bM (by kernel_rfl)⟩
abbrev ol:Nat:=212
abbrev oL:Nat:=192
theorem en_192:aI prog 192:=R func192
abbrev na:Nat:=274
def kq (r:Value × Bool):Value:=.tuple #[(r.1),(.bool r.2)]
abbrev oM:Nat:=149
theorem fld_254_3:Fld prog 254 3 7:=z_k 1 underlying254
abbrev yj:Nat:=228
theorem mZ (y0:Int) (y1:Int):∀ w,(Instr.build 34 #[(0,(.int .u64 y0)),(1,(.int .u64 y1))]).run prog w = .ok (.agg (ak.C (⟨y0,y1,0,0,0⟩:ak)).toArray) w:=fun _=>by kernel_rfl
theorem fld_254_1:Fld prog 254 1 1:=z_k 1 underlying254
theorem fld_254_2:Fld prog 254 2 2:=z_k 5 underlying254
def ak.eqb (x y:ak):Bool:=((x.e0 == y.e0) && ((x.e1 == y.e1) && ((x.e2 == y.e2) && ((x.e3 == y.e3) && ((x.e4 == y.e4) && true)))))
theorem eqr_34 (n:Nat) (x y:ak):EqR prog (n + 2) 34 (.agg (ak.C x).toArray) (.agg (ak.C y).toArray) (ak.eqb x y):=eqr_arr underlying34 inf_22 ⟨_,_,_,_,(im cG rfl),(im cG rfl),(jQ (n:=n + 0) underlying22),⟨_,_,_,_,(im cG rfl),(im cG rfl),(jQ (n:=n + 0) underlying22),⟨_,_,_,_,(im cG rfl),(im cG rfl),(jQ (n:=n + 0) underlying22),⟨_,_,_,_,(im cG rfl),(im cG rfl),(jQ (n:=n + 0) underlying22),⟨_,_,_,_,(im cG rfl),(im cG rfl),(jQ (n:=n + 0) underlying22),rfl,rfl⟩,rfl⟩,rfl⟩,rfl⟩,rfl⟩
theorem eqg_34:prog.eqGuardType prog.depth 34 = false:=by kernel_rfl
def eB (r:ByteArray):Value:=(.string r)
def pd:ByteArray:=⟨#[116,114,97,112,32,51,58,32,116,114,97,112,32,51]⟩
theorem en_149:aI prog 149:=R func149
theorem en_228:aI prog 228:=R func228
abbrev me:Nat:=223
theorem en_223:aI prog 223:=R func223
abbrev mf:Nat:=213
abbrev mR:Nat:=224
theorem fld_287_1:Fld prog 287 1 1:=z_k 1 underlying287
theorem en_224:aI prog 224:=R func224
abbrev kE:Nat:=214
abbrev sg:Nat:=225
theorem en_225:aI prog 225:=R func225
theorem en_214:aI prog 214:=R func214
abbrev oh:Nat:=215
abbrev n_word_Args:Nat:=216
abbrev qR:Nat:=217
theorem build_34_0 (y0:Int):∀ w,(Instr.build 34 #[(0,(.int .u64 y0))]).run prog w = .ok (.agg (ak.C (⟨y0,0,0,0,0⟩:ak)).toArray) w:=fun _=>by kernel_rfl
theorem km (y0:Int) (y1:Int) (y2:Int) (y3:Int):∀ w,(Instr.build 34 #[(0,(.int .u64 y0)),(1,(.int .u64 y1)),(2,(.int .u64 y2)),(3,(.int .u64 y3))]).run prog w = .ok (.agg (ak.C (⟨y0,y1,y2,y3,0⟩:ak)).toArray) w:=fun _=>by kernel_rfl
theorem en_217:aI prog 217:=R func217
theorem en_216:aI prog 216:=R func216
theorem en_215:aI prog 215:=R func215
theorem en_213:aI prog 213:=R func213
theorem en_212:aI prog 212:=R func212
theorem en_210:aI prog 210:=R func210
abbrev mb:Nat:=187
theorem en_187:aI prog 187:=R func187
abbrev mc:Nat:=146
theorem uA (y0:Int) (y1:Int) (y2:Int):∀ w,(Instr.build 25 #[(0,(.int .i64 y0)),(1,(.int .i64 y1)),(2,(.int .i64 y2))]).run prog w = .ok (.agg (aF.C (⟨y0,y1,y2⟩:aF)).toArray) w:=fun _=>by kernel_rfl
theorem uy (y0:Int) (y1:Int) (y2:Int):∀ w,(Instr.build 34 #[(0,(.int .u64 y0)),(1,(.int .u64 y1)),(2,(.int .u64 y2))]).run prog w = .ok (.agg (ak.C (⟨y0,y1,y2,0,0⟩:ak)).toArray) w:=fun _=>by kernel_rfl
theorem en_54:aI prog 54:=R func54
theorem en_146:aI prog 146:=R func146
theorem en_145:aI prog 145:=R func145
theorem en_144:aI prog 144:=R func144
abbrev ll:Nat:=100
theorem en_100:aI prog 100:=R func100
abbrev lq:Nat:=50
theorem slc_45:Slc prog 45 51 10:=⟨underlying45,bM (by kernel_rfl)⟩
theorem zero_51:∃ i,prog.info? 51 = some i/\i.zero = some (.agg (cx.C (⟨0,0,0,(⟨0,0,0,0,0⟩:ak),0,0⟩:cx)).toArray):=lB (by kernel_rfl)
theorem fld_51_0:Fld prog 51 0 0:=z_k 1 underlying51
theorem fld_51_1:Fld prog 51 1 1:=z_k 1 underlying51
theorem inf_51:∃ i,prog.info? 51 = some i/\i.size = 10:=bM (by kernel_rfl)
theorem ag_51:Ag prog 51 10:=⟨⟨_,underlying51,rfl⟩,bM (by kernel_rfl)⟩
abbrev pP:Nat:=101
theorem en_101:aI prog 101:=R func101
abbrev n_fair_Fair:Nat:=51
def nQ (r:Sl):Value:=(sv r)
abbrev nF:Nat:=101
abbrev n_twin_View:Nat:=52
theorem zero_25:∃ i,prog.info? 25 = some i/\i.zero = some (.agg (aF.C (⟨0,0,0⟩:aF)).toArray):=lB (by kernel_rfl)
theorem en_19:aI prog 19:=R func19
theorem en_52:aI prog 52:=R func52
theorem en_51:aI prog 51:=R func51
theorem en_50:aI prog 50:=R func50
theorem en_49:aI prog 49:=R func49
theorem en_16:aI prog 16:=R func16
theorem en_23:aI prog 23:=R func23
theorem inf_25:∃ i,prog.info? 25 = some i/\i.size = 3:=bM (by kernel_rfl)
abbrev lj:Nat:=14
theorem en_14:aI prog 14:=R func14
def R_api_Size (r:aF):Value:=(.agg (aF.C r).toArray)
abbrev rI:Nat:=21
abbrev ns:Nat:=22
abbrev rZ:Nat:=109
theorem en_109:aI prog 109:=R func109
abbrev pM:Nat:=60
theorem fld_51_2:Fld prog 51 2 2:=z_k 1 underlying51
theorem fld_51_3:Fld prog 51 3 3:=z_k 5 underlying51
theorem fld_51_4:Fld prog 51 4 8:=z_k 1 underlying51
theorem fld_51_5:Fld prog 51 5 9:=z_k 1 underlying51
theorem en_60:aI prog 60:=R func60
abbrev oq:Nat:=24
theorem en_24:aI prog 24:=R func24
theorem en_22:aI prog 22:=R func22
theorem en_21:aI prog 21:=R func21
abbrev t_api_Event:Nat:=56
abbrev t_api_Answer:Nat:=30
def iR.eqb (x y:iR):Bool:=((x.fCa == y.fCa) && ((x.fDa == y.fDa) && true))
abbrev n_hist_Before:Nat:=45
theorem en_45:aI prog 45:=R func45
abbrev nK:Nat:=12
def str_73df774b:ByteArray:=⟨#[48,49,50,51,52,53,54,55,56,57,97,98,99,100,101,102,103,104,105,106,107,108,109,110,111,112,113,114,115,116,117,118,119,120,121,122]⟩
def str_e9752c08:ByteArray:=⟨#[48,48,48,49,48,50,48,51,48,52,48,53,48,54,48,55,48,56,48,57,49,48,49,49,49,50,49,51,49,52,49,53,49,54,49,55,49,56,49,57,50,48,50,49,50,50,50,51,50,52,50,53,50,54,50,55,50,56,50,57,51,48,51,49,51,50,51,51,51,52,51,53,51,54,51,55,51,56,51,57,52,48,52,49,52,50,52,51,52,52,52,53,52,54,52,55,52,56,52,57,53,48,53,49,53,50,53,51,53,52,53,53,53,54,53,55,53,56,53,57,54,48,54,49,54,50,54,51,54,52,54,53,54,54,54,55,54,56,54,57,55,48,55,49,55,50,55,51,55,52,55,53,55,54,55,55,55,56,55,57,56,48,56,49,56,50,56,51,56,52,56,53,56,54,56,55,56,56,56,57,57,48,57,49,57,50,57,51,57,52,57,53,57,54,57,55,57,56,57,57]⟩
abbrev jI:Nat:=259
abbrev se:Nat:=260
theorem inf_5:∃ i,prog.info? 5 = some i/\i.size = 1:=bM (by kernel_rfl)
abbrev qf:Nat:=261
def R_Suint8_string (r:Sl × ByteArray):Value:=.tuple #[(sv r.1),(.string r.2)]
def R_Suint8 (r:Sl):Value:=(sv r)
abbrev rJ:Nat:=262
theorem en_259:aI prog 259:=R func259
theorem zero_326:∃ i,prog.info? 326 = some i/\i.zero = some (.agg [.int .u8 0,.int .u8 0,.int .u8 0,.int .u8 0,.int .u8 0,.int .u8 0,.int .u8 0,.int .u8 0,.int .u8 0,.int .u8 0,.int .u8 0,.int .u8 0,.int .u8 0,.int .u8 0,.int .u8 0,.int .u8 0,.int .u8 0,.int .u8 0,.int .u8 0,.int .u8 0,.int .u8 0,.int .u8 0,.int .u8 0,.int .u8 0].toArray):=lB (by kernel_rfl)
abbrev xB:Nat:=326
theorem arr_326:Arr prog 326 24 5 1:=⟨underlying326,bM (by kernel_rfl)⟩
theorem en_261:aI prog 261:=R func261
theorem en_260:aI prog 260:=R func260
theorem en_262:aI prog 262:=R func262
abbrev gP:Nat:=258
theorem en_258:aI prog 258:=R func258
abbrev jY:Nat:=257
theorem en_257:aI prog 257:=R func257
abbrev uc:Nat:=256
theorem en_256:aI prog 256:=R func256
abbrev jr:Nat:=253
abbrev ua:Nat:=254
abbrev og:Nat:=255
abbrev t_api_Pick:Nat:=51
abbrev t_api_Line:Nat:=54
abbrev t_uint64:Nat:=22
abbrev tD:Nat:=114
abbrev fK:Nat:=118
abbrev eI:Nat:=161
abbrev t_api_Pte:Nat:=79
abbrev t_bool:Nat:=4
abbrev so:Nat:=272
abbrev t_tlb_line:Nat:=169
end
section
open Go Mb
theorem el_Sint:El prog dU lD 1 8 [.int .i64 0]:=xo underlying39 (by kernel_rfl) rfl
theorem rh:El prog eu t_api_Event 16 128 [.int .i64 0,.int .i64 0,.int .u64 0,.int .u64 0,.int .u64 0,.int .u64 0,.int .u64 0,.int .i64 0,.int .i64 0,.int .i64 0,.int .i64 0,.int .u64 0,.int .i64 0,.int .i64 0,.int .i64 0,.int .i64 0]:=xo underlying42 (by kernel_rfl) rfl
theorem yH:El prog lP t_api_Pick 10 80 [.int .i64 0,.int .i64 0,.int .i64 0,.int .u64 0,.int .u64 0,.int .u64 0,.int .u64 0,.int .u64 0,.int .i64 0,.int .i64 0]:=xo underlying45 (by kernel_rfl) rfl
theorem el_Sapi_Line:El prog ru t_api_Line 4 32 [.int .i64 0,.int .i64 0,.int .i64 0,.int .i64 0]:=xo underlying76 (by kernel_rfl) rfl
theorem gm:El prog bf t_uint64 1 8 [.int .u64 0]:=xo underlying93 (by kernel_rfl) rfl
theorem el_Sapi_Answer:El prog nF t_api_Answer 2 16 [.int .i64 0,.int .u64 0]:=xo underlying101 (by kernel_rfl) rfl
theorem el_SPtlb_Tlb:El prog bV tD 1 8 [pv none]:=xo underlying104 (by kernel_rfl) rfl
theorem el_SPkern_call:El prog nG fK 1 8 [pv none]:=xo underlying107 (by kernel_rfl) rfl
theorem xp:El prog fh eI 1 8 [pv none]:=xo underlying153 (by kernel_rfl) rfl
theorem vN:El prog qI bf 1 24 [sv (⟨none,0,0,none⟩:Sl)]:=xo underlying163 (by kernel_rfl) rfl
theorem uw:El prog ik sR 2 16 [.int .i64 0,.int .i64 0]:=xo underlying201 (by kernel_rfl) rfl
theorem el_S_8_api_Cap:El prog t_S_8_api_Cap lQ 32 256 [.int .i64 0,.int .i64 0,.int .i64 0,.int .i64 0,.int .i64 0,.int .i64 0,.int .i64 0,.int .i64 0,.int .i64 0,.int .i64 0,.int .i64 0,.int .i64 0,.int .i64 0,.int .i64 0,.int .i64 0,.int .i64 0,.int .i64 0,.int .i64 0,.int .i64 0,.int .i64 0,.int .i64 0,.int .i64 0,.int .i64 0,.int .i64 0,.int .i64 0,.int .i64 0,.int .i64 0,.int .i64 0,.int .i64 0,.int .i64 0,.int .i64 0,.int .i64 0]:=xo underlying206 (by kernel_rfl) rfl
theorem el_Sapi_Pte:El prog qH t_api_Pte 3 24 [.int .i64 0,.int .i64 0,.int .i64 0]:=xo underlying240 (by kernel_rfl) rfl
theorem sO:aI prog nW:=R func93
theorem sN:aI prog sf:=R func95
theorem wq:aI prog mj:=R func189
theorem xn:aI prog gY:=R func203
theorem enter_hist_Over_c1:aI prog uf:=R func221
theorem mp_map_int_bool:Mp prog jS lD t_bool (.bool false):=⟨underlying61,⟨_,underlying3⟩,lB (by kernel_rfl)⟩
theorem mo:Mp prog eL lD lD (.int .i64 0):=⟨underlying95,⟨_,underlying3⟩,lB (by kernel_rfl)⟩
theorem agn_8_api_Pte:Ag prog uN 24:=⟨⟨_,underlying80,rfl⟩,bM (by kernel_rfl)⟩
theorem arn_8_api_Pte:prog.underlying uN = some (.array 8 t_api_Pte):=underlying80
theorem age_8_api_Pte:Ag prog t_api_Pte 3:=⟨⟨_,underlying79,rfl⟩,bM (by kernel_rfl)⟩
theorem arn_2_tlb_line:prog.underlying t_2_tlb_line = some (.array 2 t_tlb_line):=underlying170
theorem age_2_tlb_line:Ag prog t_tlb_line 5:=⟨⟨_,underlying169,rfl⟩,bM (by kernel_rfl)⟩
theorem agn_8_api_Cap:Ag prog lQ 32:=⟨⟨_,underlying205,rfl⟩,bM (by kernel_rfl)⟩
theorem arn_8_api_Cap:prog.underlying lQ = some (.array 8 fZ):=underlying205
theorem age_8_api_Cap:Ag prog fZ 4:=⟨⟨_,underlying36,rfl⟩,bM (by kernel_rfl)⟩
end
end Go.Proofs.YtemoifebbhoinaaGreatDoor
