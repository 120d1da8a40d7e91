/- Part of the proof of: The law ShootOther returns true for every input, and leaves its arguments as they were. -/
import Derived.Test.YtemoifebbhoinabGreatDoorShootOther01
set_option linter.all false
set_option maxRecDepth 20000
namespace Go.Proofs.YtemoifebbhoinabGreatDoor
open Go.Proofs.Tryz
open Go.IntKind (i64 u64)
open _root_.List (replicate)
open _root_.Option (map_some)
section
open Go
namespace Mb
section
variable {l:List As} {h:Hp}
theorem get_nat' {α:Type} {xs:List α} {i:Nat} (h:i < xs.length):xs[i]? = some xs[i]:=List.getElem?_eq_some_iff.2 ⟨h,rfl⟩
def ex {α:Type} (A:α->As):As:=fun h=>∃ x,A x h
theorem op_ {α:Type} {φ:α->Prop} {m:α->List As} (s:az ((fun h=>∃ x,φ x/\az (m x) h)::l) h):∃ x,φ x/\az (m x++l) h:=by
 obtain ⟨h1,h2,d,e,⟨x,f,s1⟩,s2⟩:=s
 exact ⟨x,f,fA.2 ⟨h1,h2,d,e,s1,s2⟩⟩
theorem cl_ {α:Type} {φ:α->Prop} {m:α->List As} (x:α) (f:φ x) (s:az (m x++l) h):az ((fun h=>∃ x,φ x/\az (m x) h)::l) h:=by
 obtain ⟨h1,h2,d,e,s1,s2⟩:=fA.1 s
 exact ⟨h1,h2,d,e,⟨x,f,s1⟩,s2⟩
theorem star_cons {A:As} (a:∀ h,A h) (s:az l h):az (A::l) h:=⟨emp,h,Dj.emp_left _,rfl,a _,s⟩
theorem ga {τ:Type} {T m:Nat} {enc:τ->List Value} (s:az l h):az (vec T m enc (⟨none,0,0,none⟩:Sl) []::l) h :=
 star_cons (fun _=>⟨rfl,Nat.le_refl _,.inl rfl⟩) s
theorem dG {m:List As} (s:az (az m::l) h):az (m++l) h:=by
 obtain ⟨h1,h2,d,e,a,s'⟩:=s
 exact fA.2 ⟨h1,h2,d,e,a,s'⟩
theorem star_tail {A:As} {m:List As} (s:az (A::l) h) (hm:∀ h,az l h->az m h):az (A::m) h:=by
 obtain ⟨h1,h2,d,e,a,s'⟩:=s
 exact ⟨h1,h2,d,e,a,hm _ s'⟩
theorem aY {φ:Prop} {m:List As} (f:φ) (s:az m h):pa_ φ m h:=⟨f,s⟩
end
theorem vec_set_row {τ:Type} {T m i:Nat} {enc:τ->List Value} {s:Sl} {xs ys:List τ} {l:List As} {h:Hp} {K:Hp->Prop} {P:Program} (he:∀ x,(enc x).length = m) (ho:∀ x,dM (enc x) = true) (hlen:ys.length = xs.length) (st:az l h) (hi:l[i]? = some (vec T m enc s xs)) {q:Nat × Nat} (hq:s.a = some q)
  (k:∀ h',az (l.set i (vec T m enc s ys)) h'->K h'):hp P (storeCells ⟨q.1,q.2,none⟩ (ys.flatMap enc)) (fun _ h=>K h) h:=by
 obtain ⟨g1,g2,d,rfl,⟨e1,e2,e3⟩,s'⟩:=gS hi st
 rcases e3 with h4 | ⟨b,pre,rest,U,fr,h4,h5,hg,h6⟩
 ·have hny:ys = []:=List.eq_nil_of_length_eq_zero (by omega)
  have hnx:xs = []:=List.eq_nil_of_length_eq_zero (by omega)
  subst hny; subst hnx
  exact k _ (fd (List.getElem?_eq_some_iff.1 hi).1 ⟨g1,g2,d,rfl,⟨e1,e2,.inl h4⟩,s'⟩)
 ·rw [h4] at hq; cases hq
  have hfx:=eL he xs
  have hfy:=eL he ys
  have hoy:dM (ys.flatMap enc) = true:=by
   unfold dM
   rw [List.all_flatMap,List.all_eq_true]
   exact fun x _=>ho x
  have ew:wr (pre++(xs.flatMap enc++rest)) (pre.length + 0) (ys.flatMap enc) = pre++(ys.flatMap enc++rest):=by
   rw [rd,wr_left _ _ _ _ (by rw [hfx,hfy,hlen,Nat.zero_add]; exact Nat.le_refl _),wr_all (by rw [hfx,hfy,hlen])]
  have hcap:s.len * m <= s.cap * m:=Nat.mul_le_mul_right m e2
  have hlm:s.len * m = xs.length * m:=by rw [e1]
  refine mo (T:=U) (fr:=fr) (ys.flatMap enc) 0 pre.length (pre++(xs.flatMap enc++rest)) _ (un_left h6) (fun j j1 j2=>gh_nf hg j (by omega) (by rw [hfy,hlen] at j2; omega)) (by simp [hfx,hfy,hlen]) hoy ?_
  rw [ew]
  obtain ⟨d',e'⟩:=set_dj (o':=.cells (pre++(ys.flatMap enc++rest)).toArray U fr) d h6
  rw [e']
  exact k _ (fd (List.getElem?_eq_some_iff.1 hi).1 ⟨_,g2,d',rfl,⟨by rw [e1,hlen],e2,.inr ⟨b,pre,rest,U,fr,h4,h5,hg,kg _ _ _⟩⟩,s'⟩)
def encU (_:Unit):Value:=.tuple #[]
theorem clear_v {τ:Type} {S T m bys i R:Nat} {z:List Value} {enc:τ->List Value} {x0:τ} {s:Sl} {xs:List τ} {l:List As} {h:Hp} {K:Unit->Hp->Prop} {P:Program} (E:El P S T m bys z) (hz:enc x0 = z) (he:∀ x,(enc x).length = m) (ho:∀ x,dM (enc x) = true) (st:az l h) (hi:l[i]? = some (vec T m enc s xs))
  (k:∀ h',az (l.set i (vec T m enc s (replicate xs.length x0))) h'->K () h'):hpv P (Builtin.clear_ #[S] R #[sv s]) encU K h:=by
 refine ⟨?_⟩
 obtain ⟨_,es,_⟩:=eI hi st
 have hilt:=(List.getElem?_eq_some_iff.1 hi).1
 unfold Builtin.clear_
 simp only [List.getElem?_toArray,List.getElem?_cons_zero]
 refine cC (dx E.sl ?_)
 have same:xs = []->az (l.set i (vec T m enc s (replicate xs.length x0))) h:=by
  intro e
  subst e
  have:l.set i (vec T m enc s (replicate ([]:List τ).length x0)) = l:=by
   apply List.ext_getElem?
   intro n
   rw [List.getElem?_set]
   by_cases e:i = n
   ·subst e; rw [hi]; simp [hilt]
   ·simp [e]
  rw [this]; exact st
 cases ha:s.a with
 | none =>
  have hnil:xs = []:=by
   obtain ⟨e1,e2,e3⟩:=es
   rcases e3 with e3 | ⟨b,pre,rest,U,fr,h4,_⟩
   ·exact List.eq_nil_of_length_eq_zero (by omega)
   ·rw [h4] at ha; cases ha
  simp only [sv,ha,pa]
  exact ⟨(),rfl,k h (same hnil)⟩
 | some q =>
  simp only [sv,ha,pa]
  cases hn:s.len with
  | zero =>
   have hnil:xs = []:=List.eq_nil_of_length_eq_zero (by rw [← es.1]; exact hn)
   exact ⟨(),rfl,k h (same hnil)⟩
  | succ n =>
   obtain ⟨inf,hinf,h1,h2,h3⟩:=E.inf
   cases hzv:inf.zero with
   | none=>rw [hzv] at h3; cases h3
   | some zv =>
    rw [hzv] at h3
    simp only [map_some,Option.some.injEq] at h3
    refine cC (sS hinf hzv ?_)
    refine cC ?_
    have hzc:zv.cells = z.toArray:=by rw [← h3]
    have hrow:(Builtin.zeroCells zv.cells (n + 1)).toList = (replicate xs.length x0).flatMap enc:=by
     rw [hzc]; unfold Builtin.zeroCells
     have:=rep_flat z (n + 1)
     simp only [List.size_toArray] at this ⊢
     rw [this,← hz,rep_flat_map,← es.1,hn]
    rw [hrow]
    refine vec_set_row (K:=fun h'=>∃ r,Value.tuple #[] = encU r/\K r h') he ho (by simp) st hi ha fun h' s'=>?_
    exact ⟨(),rfl,k h' s'⟩
theorem oneI (k:IntKind) (x:Int):dM (cI k x) = true:=rfl
theorem oneS (x:Sl):dM (cS x) = true:=rfl
section
variable {τ:Type} {m:Nat} {enc:τ->List Value} {l:List As} {h:Hp}
theorem ld_a {σ:Type} {T j i k:Nat} {b:Nat} {pre rest:List Value} {xs:List τ} {enc':σ->List Value} {K:σ->Hp->Prop} {off:Nat} (y:σ) (he:∀ x,(enc x).length = m) (st:az l h) (hj:l[j]? = some (blk b T (pre++(xs.flatMap enc++rest)))) (hoff:off = pre.length + i * m + k)
  {x:τ} (hx:xs[i]? = some x) (hy:∀ n v,(enc' y)[n]? = some v->(enc x)[k + n]? = some v) (kk:K y h):ld (b,off) enc' K h:=by
 refine ld_s y st hj (fun n v hn=>?_) kk
 have:=tW he xs i (k + n) x v hx (hy n v hn)
 have hlt:=(List.getElem?_eq_some_iff.1 this).1
 rw [hoff,List.getElem?_append_right (by omega),show pre.length + i * m + k + n - pre.length = i * m + (k + n) from by omega,List.getElem?_append_left hlt]
 exact this
theorem st_a {T j i k:Nat} {b:Nat} {pre rest:List Value} {xs:List τ} {vs:List Value} {K:Hp->Prop} {off:Nat} (y:τ) (he:∀ x,(enc x).length = m) (s0:az l h) (hj:l[j]? = some (blk b T (pre++(xs.flatMap enc++rest)))) (hoff:off = pre.length + i * m + k)
  {x:τ} (hx:xs[i]? = some x) (hlen:k + vs.length <= m) (hy:enc y = wr (enc x) k vs) (kk:∀ h',az (l.set j (blk b T (pre++((xs.set i y).flatMap enc++rest)))) h'->K h'):st (b,off) vs K h:=by
 have hi:=(List.getElem?_eq_some_iff.1 hx).1
 have hfl:=eL he xs
 have hm:(i + 1) * m <= xs.length * m:=Nat.mul_le_mul_right m hi
 rw [Nat.succ_mul] at hm
 refine vu s0 hj (by simp [hoff,hfl]; omega) fun h' s'=>kk h' ?_
 have ew:wr (pre++(xs.flatMap enc++rest)) off vs = pre++((xs.set i y).flatMap enc++rest):=by
  rw [hoff,Nat.add_assoc,rd,wr_left _ _ _ _ (by rw [hfl]; omega),flat_wr he xs i k x y vs hx hlen hy]
 rw [ew] at s'
 exact s'
end
section
variable {P:Program} {l:List As} {h:Hp}
theorem hp_isAgg_ag {T n:Nat} (t:Ag P T n) {K:Bool->Hp->Prop} (k:K true h):hp P (isAgg T) K h:=by
 obtain ⟨D,h1,h2⟩:=t.und
 unfold isAgg
 refine cC (dx h1 ?_)
 cases D <;> first | exact k | cases h2
theorem tR {kd:IntKind} {n:Int} {K:IntKind × Int->Hp->Prop} (k:K (kd,n) h):hp P (asIntOf (.int kd n)) K h:=k
theorem loadAt_v {τ:Type} {T n b off:Nat} {cs:List Value} {enc:τ->Value} {r:τ} {K:τ->Hp->Prop} (t:Ag P T n) (hc:rT h (b,off) cs) (hn:cs.length = n) (hr:enc r = .agg cs.toArray) (k:K r h):hpv P (Instr.loadAt T (.pointer (some ⟨b,off,none⟩))) enc K h:=by
 refine ⟨?_⟩
 obtain ⟨inf,h1,h2⟩:=t.inf
 show hp P (loadVar T ⟨b,off,none⟩) _ h
 unfold loadVar
 refine cC (hp_isAgg_ag t ?_)
 refine hp_yes rfl ?_
 refine cC (oG h1 ?_)
 rw [h2]
 refine cC (hp_loadCells hc hn ?_)
 exact ⟨r,hr.symm,k⟩
theorem index_v {τ:Type} {S T len m i:Nat} {enc:τ->List Value} {val:τ->Value} {xs:List τ} {x:τ} {K:τ->Hp->Prop} (hS:P.underlying S = some (.array len T)) (t:Ag P T m) (he:∀ x,(enc x).length = m) (hv:∀ x,val x = .agg (enc x).toArray) (hl:xs.length = len) (hx:xs[i]? = some x) (k:K x h) :
  hpv P (Instr.index S (.agg (xs.flatMap enc).toArray) (.int .i64 i)) val K h:=by
 refine ⟨?_⟩
 have hi:=(List.getElem?_eq_some_iff.1 hx).1
 obtain ⟨inf,h1,h2⟩:=t.inf
 unfold Instr.index
 refine cC (tR ?_)
 refine cC (dx hS ?_)
 refine hp_yes ⟨by omega,by omega⟩ ?_
 refine cC (oG h1 ?_)
 unfold part
 refine cC (hp_isAgg_ag t ?_)
 refine cC (oG h1 ?_)
 refine ⟨x,?_,k⟩
 rw [hv,h2]
 have:(xs.flatMap enc).toArray.extract ((i:Int).toNat * m) ((i:Int).toNat * m + m) = (enc x).toArray:=by
  apply Array.ext'
  rw [Array.toList_extract]
  simp only [Int.toNat_natCast,List.extract]
  rw [Nat.add_sub_cancel_left]
  apply List.ext_getElem?
  intro n
  rw [List.getElem?_take,List.getElem?_drop]
  by_cases hn:n < m
  ·rw [if_pos hn]
   have hlt:n < (enc x).length:=by rw [he]; exact hn
   rw [tW he xs i n x _ hx (get_nat' hlt)]
   exact (get_nat' hlt).symm
  ·rw [if_neg hn]
   exact (List.getElem?_eq_none (by rw [he]; omega)).symm
 rw [this]
end
theorem sliceFrom_v {τ:Type} {P:Program} {l:List As} {h:Hp} {S T m bys i:Nat} {z:List Value} {enc:τ->List Value} {R:Sl->Value} {s:Sl} {xs:List τ} {n:Nat} {K:Sl->Hp->Prop} (E:El P S T m bys z) (he:∀ x,(enc x).length = m) (hR:R = sv) (st:az l h) (hi:l[i]? = some (vec T m enc s xs)) (hn:n <= xs.length)
  (k:∀ v,az (l.set i (vec T m enc v (xs.drop n))) h->K v h):hpv P (Instr.sliceAt S (sv s) (some (.int .i64 n)) none none) R K h:=by
 subst hR
 refine ⟨?_⟩
 have hilt:=(List.getElem?_eq_some_iff.1 hi).1
 obtain ⟨g1,g2,d,rfl,⟨e1,e2,e3⟩,s'⟩:=gS hi st
 obtain ⟨inf,hinf,h1,h2,h3⟩:=E.inf
 unfold Instr.sliceAt
 refine cC (dx E.sl ?_)
 show hp P (Instr.slice S (sv s) _ _ _) _ _
 unfold Instr.slice
 refine cC (dx E.sl ?_)
 simp only [sv]
 refine cC ?_
 unfold Instr.sliceBounds
 refine cC ?_
 refine cC ?_
 refine cC ?_
 unfold Instr.sliceBound
 refine cC (tR ?_)
 refine hp_yes ⟨by omega,by omega⟩ ?_
 refine cC (oG hinf ?_)
 rw [h1]
 rcases e3 with h5 | ⟨b,pre,rest,U,fr,h4,h5,hg,h6⟩
 ·have hn0:n = 0:=by omega
  subst hn0
  refine ⟨s,?_,k s ?_⟩
  ·simp [sv,h5]
  ·exact fd hilt ⟨g1,g2,d,rfl,⟨by simpa using e1,e2,.inl h5⟩,s'⟩
 ·by_cases hc:s.cap = n
  ·have hx:xs.drop n = []:=by apply List.drop_eq_nil_of_le; omega
   refine ⟨⟨s.a,s.len - n,s.cap - n,none⟩,?_,k _ (fd hilt ⟨g1,g2,d,rfl,⟨?_,by show s.len - n <= s.cap - n; omega,.inl (by show s.cap - n = 0; omega)⟩,s'⟩)⟩
   ·rw [if_pos (by simpa using hc)]; simp [sv]
   ·show s.len - n = _; rw [hx]; simp; omega
  ·refine ⟨⟨some (b,pre.length + n * m),s.len - n,s.cap - n,s.g.map fun _=>(pre++(xs.take n).flatMap enc,rest,U,fr)⟩,?_,k _ (fd hilt ⟨g1,g2,d,rfl,⟨?_,by show s.len - n <= s.cap - n; omega,.inr ⟨b,pre++(xs.take n).flatMap enc,rest,U,fr,?_,?_,?_,?_⟩⟩,s'⟩)⟩
   ·rw [if_neg (by simpa using hc)]; simp [sv,h4,pa,add_plain]
   ·show s.len - n = _; simp; omega
   ·show some (b,pre.length + n * m) = _
    rw [List.length_append,eL he]; simp; rw [Nat.min_eq_left hn]
   ·show (s.cap - n) * m <= (s.len - n) * m + rest.length
    rw [Nat.sub_mul,Nat.sub_mul]
    have:n * m <= s.len * m:=Nat.mul_le_mul_right m (by omega)
    omega
   ·have hpl:(pre++(xs.take n).flatMap enc).length = pre.length + n * m:=by rw [List.length_append,eL he]; simp; rw [Nat.min_eq_left hn]
    unfold gh at hg ⊢
    cases hsg:s.g with
    | none=>rw [hsg] at hg; exact hg
    | some x =>
     rw [hsg] at hg
     refine ⟨rfl,fun j j1 j2=>hg.2 j (by rw [hpl] at j1; omega) ?_⟩
     rw [hpl] at j2
     have j2':j < pre.length + n * m + (s.cap - n) * m:=j2
     have hnc:n <= s.cap:=by omega
     have:n * m + (s.cap - n) * m = s.cap * m:=by rw [← Nat.add_mul]; congr 1; omega
     omega
   ·have:pre++(xs.take n).flatMap enc++((xs.drop n).flatMap enc++rest) = pre++(xs.flatMap enc++rest):=by
     rw [List.append_assoc,← List.append_assoc ((xs.take n).flatMap enc),← List.flatMap_append,List.take_append_drop]
    rw [this]; exact h6
theorem lh {τ:Type} {P:Program} {l:List As} {h:Hp} {S T m bys i:Nat} {z:List Value} {enc:τ->List Value} {val:τ->Value} {R R':Sl->Value} {s:Sl} {xs:List τ} {x:τ} {K:Sl->Hp->Prop} {Q:Nat} (E:El P S T m bys z) (he:∀ x,(enc x).length = m) (ho:∀ x,dM (enc x) = true) (hv:∀ x,(val x).cells.toList = enc x)
  (hm:m <= 2 ^ 24) (hR:R = sv) (hR':R' = sv) (st:az l h) (hi:l[i]? = some (vec T m enc s xs)) (hb:(2 * (xs.length + 1) + 512) * bys <= 2 ^ 48) (hb2:xs.length < 2 ^ 60)
  (k:∀ v h',az (l.set i (vec T m enc v (xs++[x]))) h'->K v h'):hpv P (Instr.buildSlice S 1 #[(0,val x)]) R (fun y=>hpv P (Builtin.append_ #[S,S] Q #[sv s,sv y]) R' K) h:=by
 subst hR; subst hR'
 refine eQ [x] (val:=val) (enc:=enc) E he hv st rfl rfl (by simpa using hm) fun y h' s1=>?_
 refine uf (i:=i + 1) (j:=0) (enc:=enc) (ys:=[x]) E E.sl he ho s1 (by simpa using hi) rfl (by omega) (by simpa using hb) (by simp; omega) fun v h2 s2=>?_
 exact k v h2 (bX (l:=[vec T m enc y [x]]) (by simpa using s2))
theorem c1 {c d:List Value} {u:Value} {k:Nat} (h1:d = [u]) (h2:c[k]? = some u):∀ (n:Nat) (v:Value),d[n]? = some v->c[k + n]? = some v:=by
 intro n v hv
 subst h1
 cases n with
 | zero=>simp at hv; subst hv; exact h2
 | succ n=>simp at hv
theorem aD {α:Type} {xs:List α} {i:Nat} (h:i < xs.length):xs[i]? = some xs[i]:=List.getElem?_eq_some_iff.2 ⟨h,rfl⟩
theorem cq (k:IntKind) (x:Int):(cI k x).length = 1:=rfl
end Mb
end
section
open Go
namespace Mb
structure Mp (P:Program) (S K E:TypeId) (z:Value):Prop where
 mp:P.underlying S = some (.map K E)
 key:∃ kd,P.underlying K = some (.int kd)
 inf:∃ i,P.info? E = some i/\i.zero = some z
section
variable {τ:Type}
def fi (x:Int):List (Int × τ)->Nat->Option (Nat × τ)
 | [],_=>none
 | p::m,i=>if x = p.1 then some (i,p.2) else fi x m (i + 1)
def ents (val:τ->Value) (es:List MapEntry) (m:List (Int × τ)):Prop:=es.map (fun e=>(e.key,e.val)) = m.map (fun p=>(Value.int .i64 p.1,val p.2))
def mapA (b:Nat) (val:τ->Value) (f:Int->Option τ):As:=fun h=>∃ (es:List MapEntry) (m:List (Int × τ)) (clock:Nat),h b = some (.map es.toArray clock)/\ents val es m/\∀ x,(fi x m 0).map (·.2) = f x
theorem wQ (x:Int):∀ (m:List (Int × τ)) (i:Nat),fi x m i = (fi x m 0).map (fun r=>(r.1 + i,r.2))
 | [],_=>rfl
 | p::m,i=>by
  unfold fi
  split
  ·simp
  ·rw [wQ x m (i + 1),wQ x m (0 + 1)]
   cases fi x m 0 with
   | none=>rfl
   | some r=>simp; omega
theorem fi_v (x:Int) (m:List (Int × τ)) (i:Nat):(fi x m i).map (·.2) = (fi x m 0).map (·.2):=by
 rw [wQ x m i]; cases fi x m 0 <;> rfl
theorem find_now {val:τ->Value} {kd:IntKind} (x:Int):∀ {es:List MapEntry} {m:List (Int × τ)} (i:Nat),ents val es m->Instr.findNow (.int kd) (.int .i64 x) es i = some ((fi x m i).map fun r=>(r.1,val r.2))
 | [],[],_,_=>rfl
 | [],_::_,_,h=>by simp [ents] at h
 | _::_,[],_,h=>by simp [ents] at h
 | e::es,p::m,i,h=>by
  simp only [ents,List.map_cons,List.cons.injEq,Prod.mk.injEq] at h
  obtain ⟨⟨h1,h2⟩,h3⟩:=h
  unfold Instr.findNow fi
  rw [h1,h2]
  by_cases hx:x = p.1
  ·subst hx; simp [Instr.sameNow]
  ·have:(x == p.1) = false:=by simpa using hx
   simp only [Instr.sameNow,this,if_true,if_neg hx]
   exact find_now x (i + 1) h3
theorem fi_get {x:Int} {v:τ} {i:Nat}:∀ {m:List (Int × τ)},fi x m 0 = some (i,v)->m[i]? = some (x,v)
 | [],h=>by cases h
 | p::m,h=>by
  unfold fi at h
  split at h
  ·rename_i hx
   cases h; subst hx; rfl
  ·rw [wQ] at h
   cases hm:fi x m 0 with
   | none=>rw [hm] at h; cases h
   | some r =>
    rw [hm] at h
    simp only [map_some,Option.some.injEq,Prod.mk.injEq] at h
    obtain ⟨h1,h2⟩:=h
    subst h2; subst h1
    simp only [List.getElem?_cons_succ]
    exact fi_get (m:=m) (by rw [hm])
theorem fi_set {x y:Int} {v w:τ} {i:Nat}:∀ {m:List (Int × τ)},fi x m 0 = some (i,v)->(fi y (m.set i (x,w)) 0).map (·.2) = if y = x then some w else (fi y m 0).map (·.2)
 | [],h=>by cases h
 | p::m,h=>by
  unfold fi at h
  split at h
  ·rename_i hx
   cases h; subst hx
   simp only [List.set_cons_zero,fi]
   by_cases hy:y = p.1
   ·simp [hy]
   ·simp [hy]
  ·rename_i hx
   rw [wQ] at h
   cases hm:fi x m 0 with
   | none=>rw [hm] at h; cases h
   | some r =>
    rw [hm] at h
    simp only [map_some,Option.some.injEq,Prod.mk.injEq] at h
    obtain ⟨h1,h2⟩:=h
    subst h2; subst h1
    have ih:=fi_set (x:=x) (y:=y) (v:=r.2) (w:=w) (i:=r.1) (m:=m) (by rw [hm])
    simp only [List.set_cons_succ,fi]
    by_cases hy:y = p.1
    ·have:y ≠ x:=fun e=>hx (e.symm.trans hy)
     simp [hy]
     intro e; exact absurd e.symm hx
    ·rw [if_neg hy,if_neg hy,fi_v y _ (0 + 1),fi_v y m (0 + 1)]
     exact ih
theorem fi_push {x y:Int} {w:τ}:∀ {m:List (Int × τ)},fi x m 0 = none->(fi y (m++[(x,w)]) 0).map (·.2) = if y = x then some w else (fi y m 0).map (·.2)
 | [],_=>by
  simp only [List.nil_append,fi]
  by_cases hy:y = x <;> simp [hy]
 | p::m,h=>by
  unfold fi at h
  split at h
  ·cases h
  ·rename_i hx
   rw [wQ] at h
   have hm:fi x m 0 = none:=by
    cases hm:fi x m 0 with
    | none=>rfl
    | some r=>rw [hm] at h; cases h
   have ih:=fi_push (y:=y) (w:=w) hm
   simp only [List.cons_append,fi]
   by_cases hy:y = p.1
   ·have:¬ y = x:=fun e=>hx (e.symm.trans hy)
    simp [hy]
    intro e; exact absurd e.symm hx
   ·rw [if_neg hy,if_neg hy,fi_v y _ (0 + 1),fi_v y m (0 + 1)]
    exact ih
theorem ents_set {val:τ->Value} {x:Int} {w:τ} {i:Nat} {es:List MapEntry} {m:List (Int × τ)} (h:ents val es m) (g:MapEntry->MapEntry) (hg:∀ e,es[i]? = some e->(g e).key = .int .i64 x/\(g e).val = val w):ents val (es.toArray.modify i g).toList (m.set i (x,w)):=by
 unfold ents at h ⊢
 apply List.ext_getElem?
 intro j
 have hj:(es.map (fun e=>(e.key,e.val)))[j]? = (m.map (fun p=>(Value.int .i64 p.1,val p.2)))[j]?:=by rw [h]
 simp only [List.getElem?_map] at hj ⊢
 rw [Array.getElem?_toList,Array.getElem?_modify,List.getElem?_set,List.getElem?_toArray]
 by_cases hij:i = j
 ·subst hij
  rw [if_pos rfl]
  cases he:es[i]? with
  | none =>
   rw [he] at hj
   have:m[i]? = none:=by cases hm:m[i]? with
    | none=>rfl
    | some p=>rw [hm] at hj; cases hj
   have hlt:¬ i < m.length:=by intro hlt; rw [List.getElem?_eq_getElem hlt] at this; cases this
   simp [hlt]
  | some e =>
   rw [he] at hj
   have hlt:i < m.length:=by
    cases hm:m[i]? with
    | none=>rw [hm] at hj; cases hj
    | some p=>exact (List.getElem?_eq_some_iff.1 hm).1
   obtain ⟨g1,g2⟩:=hg e he
   simp [hlt,g1,g2]
 ·rw [if_neg hij,if_neg hij]; exact hj
theorem ents_push {val:τ->Value} {x:Int} {w:τ} {es:List MapEntry} {m:List (Int × τ)} {c:Nat} (h:ents val es m):ents val (es.toArray.push { key:=.int .i64 x,val:=val w,born:=c }).toList (m++[(x,w)]):=by
 unfold ents at h ⊢
 simp [h]
end
section
variable {P:Program} {l:List As} {h:Hp} {τ:Type} {S K E:TypeId} {z:Value} {val:τ->Value}
theorem hp_checkKey {kd k:IntKind} {b:Bool} {x:Int} {Q:Unit->Hp->Prop} (e:P.underlying K = some (.int kd)) (q:Q () h):hp P (Instr.checkKey b 10000 K (.int k x)) Q h:=by
 unfold Instr.checkKey
 refine cC (dx e ?_)
 exact q
theorem hp_findKey {kd:IntKind} {x:Int} {es:List MapEntry} {m:List (Int × τ)} {Q:Option (Nat × Value)->Hp->Prop} (e:P.underlying K = some (.int kd)) (he:ents val es m) (q:Q ((fi x m 0).map fun r=>(r.1,val r.2)) h):hp P (Instr.findKey K (.int .i64 x) es) Q h:=by
 unfold Instr.findKey
 refine cC (dx e ?_)
 rw [find_now x 0 he]
 exact q
theorem hp_getObj {b:Nat} {o:Obj} {Q:Obj->Hp->Prop} (e:h b = some o) (hc:xY o = false) (q:Q o h):hp P (getObj b) Q h:=⟨o,e,hc,q⟩
theorem makeMap_m {R:Option Nat->Value} {Q:Option Nat->Hp->Prop} (hR:R = fun r=>.map r) (st:az l h) (k:∀ b h',az (mapA b val (fun _=>none)::l) h'->Q (some b) h'):hpv P (Instr.makeMap S none) R Q h:=by
 subst hR
 refine ⟨?_⟩
 unfold Instr.makeMap
 refine cC ?_
 refine ⟨rfl,fun b hb=>⟨some b,rfl,k b _ ?_⟩⟩
 obtain ⟨h1,h2,d,e,a,s⟩:=new_s (o:=.map #[] 0) st hb
 exact ⟨h1,h2,d,e,⟨[],[],0,a,rfl,fun x=>rfl⟩,s⟩
theorem lookup_m {σ:Type} {j b:Nat} {f:Int->Option τ} {x:Int} {ok:Bool} {R:σ->Value} {Q:σ->Hp->Prop} (M:Mp P S K E z) (st:az l h) (hj:l[j]? = some (mapA b val f)) (r:σ) (hr:(if ok then .tuple #[((f x).map val).getD z,.bool (f x).isSome] else ((f x).map val).getD z) = R r) (q:Q r h):hpv P (Instr.lookup S (.map (some b)) (.int .i64 x) ok) R Q h:=by
 refine ⟨?_⟩
 obtain ⟨h1,⟨es,m,clock,a,he,hf⟩,sub⟩:=eI hj st
 obtain ⟨kd,hk⟩:=M.key
 obtain ⟨i,hi,hz⟩:=M.inf
 unfold Instr.lookup
 refine cC (dx M.mp ?_)
 refine cC (hp_getObj (sub _ _ a) rfl ?_)
 refine cC ?_
 rw [hp_pure]
 refine cC (hp_checkKey hk ?_)
 refine cC (hp_findKey (val:=val) hk he ?_)
 have hfx:=hf x
 cases hm:fi x m 0 with
 | none =>
  rw [hm] at hfx
  rw [← hfx] at hr
  refine cC (sS hi hz ?_)
  exact ⟨r,hr,q⟩
 | some p =>
  rw [hm] at hfx
  rw [← hfx] at hr
  refine cC ?_
  exact ⟨r,hr,q⟩
theorem update_m {j b:Nat} {f:Int->Option τ} {x:Int} {w:τ} {v:Value} {Q:Hp->Prop} (M:Mp P S K E z) (st:az l h) (hj:l[j]? = some (mapA b val f)) (hv:v = val w) (k:∀ h',az (l.set j (mapA b val (fun y=>if y = x then some w else f y))) h'->Q h'):hpu P (Instr.mapUpdate S (.map (some b)) (.int .i64 x) v) Q h:=by
 subst hv
 refine ⟨?_⟩
 obtain ⟨h1,h2,d,rfl,⟨es,m,clock,a,he,hf⟩,s'⟩:=gS hj st
 have hjl:=(List.getElem?_eq_some_iff.1 hj).1
 obtain ⟨kd,hk⟩:=M.key
 unfold Instr.mapUpdate
 refine cC (dx M.mp ?_)
 refine cC (hp_getObj (un_left a) rfl ?_)
 refine cC (hp_checkKey hk ?_)
 refine cC (hp_findKey (val:=val) hk he ?_)
 cases hm:fi x m 0 with
 | none =>
  refine ⟨rfl,⟨_,un_left a,rfl⟩,?_⟩
  obtain ⟨d',e'⟩:=set_dj (o':=.map (es.toArray.push { key:=.int .i64 x,val:=val w,born:=clock }) (clock + 1)) d a
  rw [e']
  refine k _ (fd hjl ⟨_,h2,d',rfl,⟨_,m++[(x,w)],clock + 1,?_,ents_push (c:=clock) he,fun y=>?_⟩,s'⟩)
  ·exact kg _ _ _
  ·rw [fi_push hm,hf]
 | some p =>
  obtain ⟨i,u⟩:=p
  have hg:=fi_get hm
  have hge:∃ e,es[i]? = some e/\e.key = .int .i64 x:=by
   have hi:(es.map (fun e=>(e.key,e.val)))[i]? = (m.map (fun p=>(Value.int .i64 p.1,val p.2)))[i]?:=by rw [he]
   simp only [List.getElem?_map,hg,map_some] at hi
   cases hs:es[i]? with
   | none=>rw [hs] at hi; cases hi
   | some e=>rw [hs] at hi; simp at hi; exact ⟨e,rfl,hi.1⟩
  obtain ⟨e,hge,hkey⟩:=hge
  refine cC ?_
  have hks:Instr.keyThatStays (((es.toArray[i]?).map (·.key)).getD (.int .i64 x)) (.int .i64 x) = pure (.int .i64 x):=by
   unfold Instr.keyThatStays
   have:((es.toArray[i]?).map (·.key)).getD (.int .i64 x) = .int .i64 x:=by simp [hge,hkey]
   rw [this]
   have sb:Instr.sameBits 10000 (.int .i64 x) (.int .i64 x) = true:=by unfold Instr.sameBits; simp
   rw [if_pos sb]
  simp only [map_some]
  rw [hks,hp_pure]
  refine ⟨rfl,⟨_,un_left a,rfl⟩,?_⟩
  obtain ⟨d',e'⟩:=set_dj (o':=.map (es.toArray.modify i fun e=>{ e with key:=.int .i64 x,val:=val w }) clock) d a
  rw [e']
  refine k _ (fd hjl ⟨_,h2,d',rfl,⟨_,m.set i (x,w),clock,?_,ents_set (x:=x) (w:=w) he (fun e=>{ e with key:=.int .i64 x,val:=val w }) (fun e' _=>⟨rfl,rfl⟩),fun y=>?_⟩,s'⟩)
  ·exact kg _ _ _
  ·rw [fi_set hm,hf]
end
end Mb
end
section
open Go Mb
structure ah where
 e0:Int
 e1:Int
 e2:Int
 e3:Int
 e4:Int
def ah.C (x:ah):List Value:=[.int .u64 x.e0,.int .u64 x.e1,.int .u64 x.e2,.int .u64 x.e3,.int .u64 x.e4]
structure ab where
 fWa:Int
 fVal:Int
def ab.C (x:ab):List Value:=[.int .i64 x.fWa,.int .u64 x.fVal]
structure ao where
 fCa:Int
 fOa:Int
 fEa:Int
 fBa:Int
def ao.C (x:ao):List Value:=[.int .i64 x.fCa,.int .i64 x.fOa,.int .i64 x.fEa,.int .i64 x.fBa]
structure aE where
 fQa:Int
 fCa:Int
 fIa:ah
 fRa:Int
 fHa:Int
 fYa:Int
 fXa:ab
 fTa:ao
def aE.C (x:aE):List Value:=[.int .i64 x.fQa,.int .i64 x.fCa,.int .u64 x.fIa.e0,.int .u64 x.fIa.e1,.int .u64 x.fIa.e2,.int .u64 x.fIa.e3,.int .u64 x.fIa.e4,.int .i64 x.fRa,.int .i64 x.fHa,.int .i64 x.fYa,.int .i64 x.fXa.fWa,.int .u64 x.fXa.fVal,.int .i64 x.fTa.fCa,.int .i64 x.fTa.fOa,.int .i64 x.fTa.fEa,.int .i64 x.fTa.fBa]
structure mz where
 fat:Int
 fGa:Int
 fc:ah
 fPa:Bool
 fAb:Int
def mz.C (x:mz):List Value:=[.int .i64 x.fat,.int .i64 x.fGa,.int .u64 x.fc.e0,.int .u64 x.fc.e1,.int .u64 x.fc.e2,.int .u64 x.fc.e3,.int .u64 x.fc.e4,.bool x.fPa,.int .u64 x.fAb]
structure ct where
 fl:ao
 fwhen:Int
def ct.C (x:ct):List Value:=[.int .i64 x.fl.fCa,.int .i64 x.fl.fOa,.int .i64 x.fl.fEa,.int .i64 x.fl.fBa,.int .i64 x.fwhen]
structure jz where
 e0:ct
 e1:ct
def jz.C (x:jz):List Value:=[.int .i64 x.e0.fl.fCa,.int .i64 x.e0.fl.fOa,.int .i64 x.e0.fl.fEa,.int .i64 x.e0.fl.fBa,.int .i64 x.e0.fwhen,.int .i64 x.e1.fl.fCa,.int .i64 x.e1.fl.fOa,.int .i64 x.e1.fl.fEa,.int .i64 x.e1.fl.fBa,.int .i64 x.e1.fwhen]
structure am where
 fEa:Int
 fDa:Int
 fBa:Int
def am.C (x:am):List Value:=[.int .i64 x.fEa,.int .i64 x.fDa,.int .i64 x.fBa]
structure aA where
 fEa:Int
 fBa:Int
 fCa:Int
 fDa:Int
def aA.C (x:aA):List Value:=[.int .i64 x.fEa,.int .i64 x.fBa,.int .i64 x.fCa,.int .i64 x.fDa]
structure aG where
 fCa:Int
 fDa:Int
def aG.C (x:aG):List Value:=[.int .i64 x.fCa,.int .i64 x.fDa]
structure aF where
 fVa:Int
 fKa:Int
 fCb:Int
def aF.C (x:aF):List Value:=[.int .i64 x.fVa,.int .i64 x.fKa,.int .i64 x.fCb]
structure tg where
 fl:Sl
def tg.C (x:tg):List Value:=[sv x.fl]
structure oM where
 frefs:Sl
def oM.C (x:oM):List Value:=[sv x.frefs]
structure oP where
 fl:Sl
def oP.C (x:oP):List Value:=[sv x.fl]
structure gH where
 fs:aF
 fm:Ptr
 ftables:Sl
 fpool:Ptr
 fcaps:Ptr
def gH.C (x:gH):List Value:=[.int .i64 x.fs.fVa,.int .i64 x.fs.fKa,.int .i64 x.fs.fCb,pv x.fm,sv x.ftables,pv x.fpool,pv x.fcaps]
structure lj where
 fes:Sl
 fs:aF
 fk:Ptr
def lj.C (x:lj):List Value:=[sv x.fes,.int .i64 x.fs.fVa,.int .i64 x.fs.fKa,.int .i64 x.fs.fCb,pv x.fk]
structure oN where
 fl:Sl
def oN.C (x:oN):List Value:=[sv x.fl]
structure ko where
 fowner:Sl
 fheard:Sl
def ko.C (x:ko):List Value:=[sv x.fowner,sv x.fheard]
structure fX where
 fp:Ptr
 fenvs:Int
 ftlbs:Sl
 fboxes:Ptr
 fepochs:Ptr
 fcalls:Sl
 fevents:Sl
 fnow:Int
def fX.C (x:fX):List Value:=[pv x.fp,.int .i64 x.fenvs,sv x.ftlbs,pv x.fboxes,pv x.fepochs,sv x.fcalls,sv x.fevents,.int .i64 x.fnow]
structure eo where
 fKind:Int
 fQa:Int
 fCa:Int
 fIa:ah
 fSet:Int
 fWay:Int
def eo.C (x:eo):List Value:=[.int .i64 x.fKind,.int .i64 x.fQa,.int .i64 x.fCa,.int .u64 x.fIa.e0,.int .u64 x.fIa.e1,.int .u64 x.fIa.e2,.int .u64 x.fIa.e3,.int .u64 x.fIa.e4,.int .i64 x.fSet,.int .i64 x.fWay]
structure bY where
 fDb:Int
 fCa:Int
 fIa:ah
 fWa:Value
def bY.C (x:bY):List Value:=[.int .i64 x.fDb,.int .i64 x.fCa,.int .u64 x.fIa.e0,.int .u64 x.fIa.e1,.int .u64 x.fIa.e2,.int .u64 x.fIa.e3,.int .u64 x.fIa.e4,x.fWa]
structure aK where
 ftyp_:Ptr
 fptr:Ptr
 fflag:Int
def aK.C (x:aK):List Value:=[pv x.ftyp_,pv x.fptr,.int .u64 x.fflag]
structure oO where
 fv:Int
 fn:Int
def oO.C (x:oO):List Value:=[.int .u64 x.fv,.int .i64 x.fn]
structure li where
 fdrawn:Ptr
 fpassed:Ptr
def li.C (x:li):List Value:=[pv x.fdrawn,pv x.fpassed]
def aB (r:Bool):Value:=(.bool r)
theorem tT:Fld prog 63 5 5:=z_k 1 underlying63
theorem sc_61:Sc prog 61:=⟨⟨_,underlying61,rfl⟩,bH (by kernel_rfl)⟩
abbrev jW:Nat:=23
theorem slc_61:Slc prog 61 64 1:=⟨underlying61,bH (by kernel_rfl)⟩
theorem sc_64:Sc prog 64:=⟨⟨_,underlying64,rfl⟩,bH (by kernel_rfl)⟩
theorem en_23:aI prog 23:=R func23
abbrev fD:Nat:=9
theorem fld_63_1:Fld prog 63 1 1:=z_k 1 underlying63
theorem pL:Fld prog 63 7 7:=z_k 1 underlying63
theorem ck:prog.follows .mixedOrders = true:=by kernel_rfl
theorem eY:Ag prog 30 5:=⟨⟨_,underlying30,rfl⟩,bH (by kernel_rfl)⟩
theorem fld_63_6:Fld prog 63 6 6:=z_k 1 underlying63
theorem build_45_0_1_2_3 (y0:Int) (y1:Int) (y2:ah) (y3:Int):∀ w,(Instr.build 45 #[(0,(.int .i64 y0)),(1,(.int .i64 y1)),(2,(.agg (ah.C y2).toArray)),(3,(.int .i64 y3))]).run prog w = .ok (.agg (aE.C (⟨y0,y1,y2,y3,0,0,(⟨0,0⟩:ab),(⟨0,0,0,0⟩:ao)⟩:aE)).toArray) w:=fun _=>by kernel_rfl
abbrev eq:Nat:=40
def eB (r:Sl):Value:=(sv r)
theorem build_66_0_1_2 (y0:Int) (y1:Int) (y2:ah):∀ w,(Instr.build 66 #[(0,(.int .i64 y0)),(1,(.int .i64 y1)),(2,(.agg (ah.C y2).toArray))]).run prog w = .ok (.agg (mz.C (⟨y0,y1,y2,false,0⟩:mz)).toArray) w:=fun _=>by kernel_rfl
theorem inf_64:∃ i,prog.info? 64 = some i/\i.size = 1:=bH (by kernel_rfl)
abbrev cY:Nat:=66
theorem sc_40:Sc prog 40:=⟨⟨_,underlying40,rfl⟩,bH (by kernel_rfl)⟩
theorem inf_40:∃ i,prog.info? 40 = some i/\i.size = 1:=bH (by kernel_rfl)
theorem ba:Sc prog 3:=⟨⟨_,underlying3,rfl⟩,bH (by kernel_rfl)⟩
theorem mn:∃ i,prog.info? 3 = some i/\i.size = 1:=bH (by kernel_rfl)
theorem en_9:aI prog 9:=R func9
abbrev jo:Nat:=7
theorem mW:Fld prog 100 0 0:=z_k 1 underlying100
theorem rz:Sc prog 98:=⟨⟨_,underlying98,rfl⟩,bH (by kernel_rfl)⟩
abbrev mg:Nat:=96
def eE (r:Int):Value:=(.int .i64 r)
theorem qy:Slc prog 98 97 1:=⟨underlying98,bH (by kernel_rfl)⟩
theorem sc_97:Sc prog 97:=⟨⟨_,underlying97,rfl⟩,bH (by kernel_rfl)⟩
theorem en_96:aI prog 96:=R func96
abbrev lJ:Nat:=51
def bK (r:Int × Bool):Value:=.tuple #[(.int .u64 r.1),(.bool r.2)]
theorem xo:Slc prog 97 22 1:=⟨underlying97,bH (by kernel_rfl)⟩
abbrev be:Nat:=97
def ce (r:Sl):Value:=(sv r)
theorem inf_97:∃ i,prog.info? 97 = some i/\i.size = 1:=bH (by kernel_rfl)
theorem cG:Sc prog 22:=⟨⟨_,underlying22,rfl⟩,bH (by kernel_rfl)⟩
theorem en_51:aI prog 51:=R func51
abbrev mL:Nat:=24
def rG (r:Sl):Value:=(sv r)
theorem fld_144_0:Fld prog 144 0 0:=z_k 40 underlying144
theorem arr_142:Arr prog 142 4 141 10:=⟨underlying142,bH (by kernel_rfl)⟩
abbrev t_2_tlb_line:Nat:=141
def R_tlb_line (r:ct):Value:=(.agg (ct.C r).toArray)
theorem zero_140:∃ i,prog.info? 140 = some i/\i.zero = some (.agg (ct.C (⟨(⟨0,0,0,0⟩:ao),0⟩:ct)).toArray):=kB (by kernel_rfl)
theorem qN:Fld prog 140 0 0:=z_k 4 underlying140
theorem iz:Ag prog 43 4:=⟨⟨_,underlying43,rfl⟩,bH (by kernel_rfl)⟩
abbrev ri:Nat:=101
theorem inf_140:∃ i,prog.info? 140 = some i/\i.size = 5:=bH (by kernel_rfl)
theorem ag_141:Ag prog 141 10:=⟨⟨_,underlying141,rfl⟩,bH (by kernel_rfl)⟩
abbrev rN:Nat:=52
theorem wP:Fld prog 127 0 0:=z_k 3 underlying127
theorem nG:Fld prog 26 1 1:=z_k 1 underlying26
abbrev kK:Nat:=67
abbrev n_table_is:Nat:=103
def cK (r:am × Bool):Value:=.tuple #[(.agg (am.C r.1).toArray),(.bool r.2)]
theorem ff:∃ i,prog.info? 104 = some i/\i.zero = some (.agg (am.C (⟨0,0,0⟩:am)).toArray):=kB (by kernel_rfl)
theorem lf  : ∀ w,(Instr.build 104 #[]).run prog w = .ok (.agg (am.C (⟨0,0,0⟩:am)).toArray) w:=fun _=>by kernel_rfl
theorem dV:Ag prog 104 3:=⟨⟨_,underlying104,rfl⟩,bH (by kernel_rfl)⟩
theorem dk:∃ i,prog.info? 104 = some i/\i.size = 3:=bH (by kernel_rfl)
theorem lc:Fld prog 166 0 0:=z_k 24 underlying166
theorem sX:Arr prog 164 8 104 3:=⟨underlying164,bH (by kernel_rfl)⟩
theorem dX:Fld prog 104 2 2:=z_k 1 underlying104
theorem en_103:aI prog 103:=R func103
abbrev fB:Nat:=106
theorem fG:Fld prog 127 2 4:=z_k 1 underlying127
theorem nI:Slc prog 123 112 1:=⟨underlying123,bH (by kernel_rfl)⟩
theorem en_106:aI prog 106:=R func106
theorem rM:Sc prog 112:=⟨⟨_,underlying112,rfl⟩,bH (by kernel_rfl)⟩
theorem ng:Sc prog 123:=⟨⟨_,underlying123,rfl⟩,bH (by kernel_rfl)⟩
theorem en_67:aI prog 67:=R func67
abbrev gj:Nat:=63
abbrev n_pte_May:Nat:=97
theorem en_97:aI prog 97:=R func97
abbrev n_pte_Within:Nat:=54
theorem iA:Fld prog 194 0 0:=z_k 1 underlying194
theorem qD:Sc prog 192:=⟨⟨_,underlying192,rfl⟩,bH (by kernel_rfl)⟩
abbrev iK:Nat:=128
def cX (r:aA × Bool):Value:=.tuple #[(.agg (aA.C r.1).toArray),(.bool r.2)]
theorem gb:∃ i,prog.info? 176 = some i/\i.zero = some (.agg (aA.C (⟨0,0,0,0⟩:aA)).toArray):=kB (by kernel_rfl)
theorem build_176  : ∀ w,(Instr.build 176 #[]).run prog w = .ok (.agg (aA.C (⟨0,0,0,0⟩:aA)).toArray) w:=fun _=>by kernel_rfl
theorem ug:Ag prog 176 4:=⟨⟨_,underlying176,rfl⟩,bH (by kernel_rfl)⟩
theorem fo:∃ i,prog.info? 176 = some i/\i.size = 4:=bH (by kernel_rfl)
theorem oZ:Slc prog 192 198 32:=⟨underlying192,bH (by kernel_rfl)⟩
theorem rb:Arr prog 198 8 176 4:=⟨underlying198,bH (by kernel_rfl)⟩
theorem fS:Fld prog 176 1 1:=z_k 1 underlying176
theorem en_128:aI prog 128:=R func128
abbrev eK:Nat:=117
theorem fT:Fld prog 127 4 6:=z_k 1 underlying127
theorem ua:aI prog 117:=R func117
theorem iF:Sc prog 125:=⟨⟨_,underlying125,rfl⟩,bH (by kernel_rfl)⟩
abbrev iI:Nat:=113
theorem gF:Fld prog 66 2 2:=z_k 5 underlying66
theorem dq:Arr prog 30 5 22 1:=⟨underlying30,bH (by kernel_rfl)⟩
theorem rC:Fld prog 63 0 0:=z_k 1 underlying63
theorem oJ:Fld prog 176 2 2:=z_k 1 underlying176
theorem wN:Fld prog 176 3 3:=z_k 1 underlying176
theorem en_113:aI prog 113:=R func113
theorem wz:Sc prog 57:=⟨⟨_,underlying57,rfl⟩,bH (by kernel_rfl)⟩
abbrev ge:Nat:=176
theorem wK:Fld prog 66 1 1:=z_k 1 underlying66
abbrev qG:Nat:=114
def xa (r:am):Value:=(.agg (am.C r).toArray)
theorem qO:Fld prog 104 1 1:=z_k 1 underlying104
theorem sB:aI prog 54:=R func54
theorem en_114:aI prog 114:=R func114
abbrev mN:Nat:=64
theorem en_64:aI prog 64:=R func64
theorem fld_66_3:Fld prog 66 3 7:=z_k 1 underlying66
theorem sc_4:Sc prog 4:=⟨⟨_,underlying4,rfl⟩,bH (by kernel_rfl)⟩
theorem en_63:aI prog 63:=R func63
abbrev mM:Nat:=53
def kA (r:Ptr):Value:=(pv r)
theorem arr_141:Arr prog 141 2 140 5:=⟨underlying141,bH (by kernel_rfl)⟩
theorem kX:Fld prog 43 0 0:=z_k 1 underlying43
theorem nF:Fld prog 43 1 1:=z_k 1 underlying43
abbrev pA:Nat:=98
def R_api_Line (r:ao):Value:=(.agg (ao.C r).toArray)
theorem lF:∃ i,prog.info? 43 = some i/\i.zero = some (.agg (ao.C (⟨0,0,0,0⟩:ao)).toArray):=kB (by kernel_rfl)
theorem build_43_0 (y0:Int):∀ w,(Instr.build 43 #[(0,(.int .i64 y0))]).run prog w = .ok (.agg (ao.C (⟨y0,0,0,0⟩:ao)).toArray) w:=fun _=>by kernel_rfl
theorem fZ:∃ i,prog.info? 43 = some i/\i.size = 4:=bH (by kernel_rfl)
abbrev n_tlb_empty:Nat:=99
theorem en_99:aI prog 99:=R func99
theorem en_98:aI prog 98:=R func98
abbrev nK:Nat:=55
def R_ (_:Unit):Value:=.tuple #[]
theorem kW:Fld prog 63 2 2:=z_k 1 underlying63
theorem slc_58:Slc prog 58 84 1:=⟨underlying58,bH (by kernel_rfl)⟩
theorem slc_101:Slc prog 101 43 4:=⟨underlying101,bH (by kernel_rfl)⟩
theorem oL:Fld prog 104 0 0:=z_k 1 underlying104
theorem ms:Fld prog 43 2 2:=z_k 1 underlying43
theorem rE:Fld prog 43 3 3:=z_k 1 underlying43
theorem en_55:aI prog 55:=R func55
theorem sc_84:Sc prog 84:=⟨⟨_,underlying84,rfl⟩,bH (by kernel_rfl)⟩
theorem sc_58:Sc prog 58:=⟨⟨_,underlying58,rfl⟩,bH (by kernel_rfl)⟩
theorem en_53:aI prog 53:=R func53
theorem en_52:aI prog 52:=R func52
abbrev lK:Nat:=25
theorem fld_110_1:Fld prog 110 1 1:=z_k 1 underlying110
abbrev lL:Nat:=56
def hO (r:Int):Value:=(.int .u64 r)
theorem fld_110_0:Fld prog 110 0 0:=z_k 1 underlying110
theorem sc_23:Sc prog 23:=⟨⟨_,underlying23,rfl⟩,bH (by kernel_rfl)⟩
abbrev gm:Nat:=57
theorem inf_22:∃ i,prog.info? 22 = some i/\i.size = 1:=bH (by kernel_rfl)
theorem en_57:aI prog 57:=R func57
theorem en_56:aI prog 56:=R func56
abbrev kM:Nat:=26
theorem fld_63_3:Fld prog 63 3 3:=z_k 1 underlying63
theorem fld_63_4:Fld prog 63 4 4:=z_k 1 underlying63
theorem en_26:aI prog 26:=R func26
theorem sc_60:Sc prog 60:=⟨⟨_,underlying60,rfl⟩,bH (by kernel_rfl)⟩
theorem en_25:aI prog 25:=R func25
theorem en_24:aI prog 24:=R func24
theorem sc_59:Sc prog 59:=⟨⟨_,underlying59,rfl⟩,bH (by kernel_rfl)⟩
abbrev mQ:Nat:=8
def bM (r:Int × Bool):Value:=.tuple #[(.int .i64 r.1),(.bool r.2)]
abbrev n_word_Kind:Nat:=27
abbrev n_word_User:Nat:=28
def cF (r:Sl):Value:=(sv r)
abbrev dR:Nat:=23
abbrev sN:Nat:=100
def ah.get (x:ah) (i:Int):Int:=match i.toNat with | 0=>x.e0 | 1=>x.e1 | 2=>x.e2 | 3=>x.e3 | 4=>x.e4 | _=>x.e4
theorem at_30 (x:ah) (i:Int) (h:0 <= i/\i < 5):(ah.C x)[0 + i.toNat * 1]? = some (.int .u64 (ah.get x i)):=by
 obtain ⟨n,rfl⟩:=Int.eq_ofNat_of_zero_le h.1
 have h2:n < 5:=by omega
 rcases n with _ | (_ | (_ | (_ | (_ | _)))) <;> first | rfl | omega
abbrev nR:Nat:=108
abbrev n_word_Rights:Nat:=140
theorem en_108:aI prog 108:=R func108
theorem en_140:aI prog 140:=R func140
abbrev n_word_fits:Nat:=101
def bi (r:Int):Value:=(.int .i64 r)
theorem dz:Slc prog 23 3 1:=⟨underlying23,bH (by kernel_rfl)⟩
theorem en_101:aI prog 101:=R func101
theorem en_100:aI prog 100:=R func100
theorem en_27:aI prog 27:=R func27
abbrev ie:Nat:=58
def iQ (r:Ptr):Value:=(pv r)
abbrev kY:Nat:=166
abbrev lW:Nat:=59
def am.eqb (x y:am):Bool:=((x.fEa == y.fEa) && ((x.fDa == y.fDa) && ((x.fBa == y.fBa) && true)))
theorem eqr_104 (n:Nat) (x y:am):EqR prog (n + 2) 104 (.agg (am.C x).toArray) (.agg (am.C y).toArray) (am.eqb x y):=yj underlying104 (by kernel_rfl) (mt (by decide) (iw ba rfl) (iw ba rfl) (jM (n:=n + 0) underlying3) (mt (by decide) (iw ba rfl) (iw ba rfl) (jM (n:=n + 0) underlying3) (mt (by decide) (iw ba rfl) (iw ba rfl) (jM (n:=n + 0) underlying3) eqf_nil)))
theorem eqg_104:prog.eqGuardType prog.depth 104 = false:=by kernel_rfl
abbrev n_pte_Put:Nat:=102
theorem en_102:aI prog 102:=R func102
abbrev eJ:Nat:=60
def fY (r:ao × Bool):Value:=.tuple #[(.agg (ao.C r.1).toArray),(.bool r.2)]
theorem my  : ∀ w,(Instr.build 43 #[]).run prog w = .ok (.agg (ao.C (⟨0,0,0,0⟩:ao)).toArray) w:=fun _=>by kernel_rfl
abbrev pB:Nat:=104
abbrev n_pte_Lets:Nat:=105
theorem fld_140_1:Fld prog 140 1 4:=z_k 1 underlying140
abbrev tJ:Nat:=141
theorem fld_144_1:Fld prog 144 1 40:=z_k 1 underlying144
theorem build_140_0_1 (y0:ao) (y1:Int):∀ w,(Instr.build 140 #[(0,(.agg (ao.C y0).toArray)),(1,(.int .i64 y1))]).run prog w = .ok (.agg (ct.C (⟨y0,y1⟩:ct)).toArray) w:=fun _=>by kernel_rfl
theorem en_141:aI prog 141:=R func141
abbrev pC:Nat:=107
theorem wX (y0:Int) (y1:Int) (y2:Int) (y3:Int):∀ w,(Instr.build 43 #[(0,(.int .i64 y0)),(1,(.int .i64 y1)),(2,(.int .i64 y2)),(3,(.int .i64 y3))]).run prog w = .ok (.agg (ao.C (⟨y0,y1,y2,y3⟩:ao)).toArray) w:=fun _=>by kernel_rfl
theorem en_107:aI prog 107:=R func107
theorem en_105:aI prog 105:=R func105
theorem en_104:aI prog 104:=R func104
abbrev uX:Nat:=61
theorem tf:Fld prog 189 0 0:=z_k 1 underlying189
abbrev wH:Nat:=166
def th (r:Ptr):Value:=(pv r)
theorem en_166:aI prog 166:=R func166
abbrev mK:Nat:=142
theorem en_142:aI prog 142:=R func142
abbrev iJ:Nat:=109
abbrev fV:Nat:=110
theorem en_110:aI prog 110:=R func110
theorem en_109:aI prog 109:=R func109
abbrev qU:Nat:=111
abbrev qV:Nat:=112
def bb (r:ab × Bool):Value:=.tuple #[(.agg (ab.C r.1).toArray),(.bool r.2)]
theorem de:∃ i,prog.info? 34 = some i/\i.zero = some (.agg (ab.C (⟨0,0⟩:ab)).toArray):=kB (by kernel_rfl)
theorem ud  : ∀ w,(Instr.build 34 #[]).run prog w = .ok (.agg (ab.C (⟨0,0⟩:ab)).toArray) w:=fun _=>by kernel_rfl
theorem cJ:Ag prog 34 2:=⟨⟨_,underlying34,rfl⟩,bH (by kernel_rfl)⟩
theorem bL:∃ i,prog.info? 34 = some i/\i.size = 2:=bH (by kernel_rfl)
theorem jF (y1:Int):∀ w,(Instr.build 34 #[(1,(.int .u64 y1))]).run prog w = .ok (.agg (ab.C (⟨0,y1⟩:ab)).toArray) w:=fun _=>by kernel_rfl
theorem mV:Fld prog 127 1 3:=z_k 1 underlying127
theorem xI:Sc prog 122:=⟨⟨_,underlying122,rfl⟩,bH (by kernel_rfl)⟩
theorem en_111:aI prog 111:=R func111
theorem en_112:aI prog 112:=R func112
theorem en_28:aI prog 28:=R func28
abbrev fC:Nat:=62
def fe (r:ab × ao):Value:=.tuple #[(.agg (ab.C r.1).toArray),(.agg (ao.C r.2).toArray)]
theorem jG (y0:Int):∀ w,(Instr.build 34 #[(0,(.int .i64 y0))]).run prog w = .ok (.agg (ab.C (⟨y0,0⟩:ab)).toArray) w:=fun _=>by kernel_rfl
theorem en_62:aI prog 62:=R func62
theorem en_61:aI prog 61:=R func61
theorem en_60:aI prog 60:=R func60
theorem en_59:aI prog 59:=R func59
theorem en_58:aI prog 58:=R func58
abbrev nW:Nat:=29
theorem fld_66_0:Fld prog 66 0 0:=z_k 1 underlying66
theorem rJ:Slc prog 40 45 16:=⟨underlying40,bH (by kernel_rfl)⟩
theorem jw:Fld prog 45 4 8:=z_k 1 underlying45
theorem rD:Fld prog 45 5 9:=z_k 1 underlying45
theorem kh:Fld prog 45 6 10:=z_k 2 underlying45
theorem gG:Fld prog 45 7 12:=z_k 4 underlying45
abbrev mO:Nat:=30
abbrev pD:Nat:=31
theorem inf_23:∃ i,prog.info? 23 = some i/\i.size = 1:=bH (by kernel_rfl)
abbrev jq:Nat:=32
abbrev tO:Nat:=167
theorem en_167:aI prog 167:=R func167
abbrev vd:Nat:=143
abbrev ql:Nat:=144
theorem en_143:aI prog 143:=R func143
theorem en_144:aI prog 144:=R func144
abbrev fh:Nat:=115
abbrev sO:Nat:=146
abbrev lG:Nat:=3
abbrev vJ:Nat:=145
theorem en_146:aI prog 146:=R func146
abbrev dN:Nat:=116
theorem en_116:aI prog 116:=R func116
theorem en_115:aI prog 115:=R func115
abbrev qF:Nat:=65
theorem en_65:aI prog 65:=R func65
abbrev nM:Nat:=33
abbrev jp:Nat:=66
theorem en_66:aI prog 66:=R func66
abbrev jL:Nat:=34
abbrev n_plain_fails:Nat:=68
theorem build_176_0_1_2 (y0:Int) (y1:Int) (y2:Int):∀ w,(Instr.build 176 #[(0,(.int .i64 y0)),(1,(.int .i64 y1)),(2,(.int .i64 y2))]).run prog w = .ok (.agg (aA.C (⟨y0,y1,y2,0⟩:aA)).toArray) w:=fun _=>by kernel_rfl
abbrev jY:Nat:=84
abbrev kI:Nat:=147
theorem oI:Fld prog 191 0 0:=z_k 1 underlying191
theorem en_147:aI prog 147:=R func147
abbrev jU:Nat:=118
abbrev t_none:Nat:=0
abbrev tL:Nat:=119
theorem oK:Fld prog 127 3 5:=z_k 1 underlying127
theorem en_84:aI prog 84:=R func84
theorem en_119:aI prog 119:=R func119
theorem en_118:aI prog 118:=R func118
theorem sc_124:Sc prog 124:=⟨⟨_,underlying124,rfl⟩,bH (by kernel_rfl)⟩
abbrev lZ:Nat:=69
theorem qM:Fld prog 176 0 0:=z_k 1 underlying176
theorem build_176_0_1_2_3 (y0:Int) (y1:Int) (y2:Int) (y3:Int):∀ w,(Instr.build 176 #[(0,(.int .i64 y0)),(1,(.int .i64 y1)),(2,(.int .i64 y2)),(3,(.int .i64 y3))]).run prog w = .ok (.agg (aA.C (⟨y0,y1,y2,y3⟩:aA)).toArray) w:=fun _=>by kernel_rfl
abbrev iL:Nat:=85
abbrev jV:Nat:=148
theorem en_148:aI prog 148:=R func148
abbrev mI:Nat:=120
def da (r:Sl):Value:=(sv r)
abbrev lQ:Nat:=198
def R_api_Cap (r:aA):Value:=(.agg (aA.C r).toArray)
theorem vV (y0:Int) (y1:Int):∀ w,(Instr.build 186 #[(0,(.int .i64 y0)),(1,(.int .i64 y1))]).run prog w = .ok (.agg (aG.C (⟨y0,y1⟩:aG)).toArray) w:=fun _=>by kernel_rfl
theorem zero_186:∃ i,prog.info? 186 = some i/\i.zero = some (.agg (aG.C (⟨0,0⟩:aG)).toArray):=kB (by kernel_rfl)
theorem ag_186:Ag prog 186 2:=⟨⟨_,underlying186,rfl⟩,bH (by kernel_rfl)⟩
abbrev iu:Nat:=152
theorem inf_186:∃ i,prog.info? 186 = some i/\i.size = 2:=bH (by kernel_rfl)
abbrev kV:Nat:=132
abbrev mT:Nat:=149
theorem slc_152:Slc prog 152 186 2:=⟨underlying152,bH (by kernel_rfl)⟩
theorem fld_186_0:Fld prog 186 0 0:=z_k 1 underlying186
theorem fld_186_1:Fld prog 186 1 1:=z_k 1 underlying186
abbrev gZ:Nat:=150
abbrev lM:Nat:=134
def aG.eqb (x y:aG):Bool:=((x.fCa == y.fCa) && ((x.fDa == y.fDa) && true))
theorem eqr_186 (n:Nat) (x y:aG):EqR prog (n + 2) 186 (.agg (aG.C x).toArray) (.agg (aG.C y).toArray) (aG.eqb x y):=yj underlying186 (by kernel_rfl) (mt (by decide) (iw ba rfl) (iw ba rfl) (jM (n:=n + 0) underlying3) (mt (by decide) (iw ba rfl) (iw ba rfl) (jM (n:=n + 0) underlying3) eqf_nil))
theorem eqg_186:prog.eqGuardType prog.depth 186 = false:=by kernel_rfl
theorem en_134:aI prog 134:=R func134
abbrev hG:Nat:=151
def dI (r:Sl × Int):Value:=.tuple #[(sv r.1),(.int .i64 r.2)]
theorem en_150:aI prog 150:=R func150
theorem en_132:aI prog 132:=R func132
abbrev sE:Nat:=186
theorem en_149:aI prog 149:=R func149
abbrev sF:Nat:=125
abbrev mU:Nat:=121
theorem en_121:aI prog 121:=R func121
theorem en_120:aI prog 120:=R func120
theorem en_85:aI prog 85:=R func85
abbrev iR:Nat:=70
def jO (r:am × Int):Value:=.tuple #[(.agg (am.C r.1).toArray),(.int .i64 r.2)]
abbrev jn:Nat:=73
abbrev mj:Nat:=133
abbrev lN:Nat:=89
theorem en_89:aI prog 89:=R func89
abbrev nY:Nat:=122
abbrev uv:Nat:=164
abbrev mH:Nat:=123
abbrev nL:Nat:=124
def iq (r:ab):Value:=(.agg (ab.C r).toArray)
theorem en_73:aI prog 73:=R func73
theorem en_124:aI prog 124:=R func124
theorem en_123:aI prog 123:=R func123
theorem en_122:aI prog 122:=R func122
abbrev lq:Nat:=71
theorem nO (y0:Int) (y1:Int) (y2:Int):∀ w,(Instr.build 104 #[(0,(.int .i64 y0)),(1,(.int .i64 y1)),(2,(.int .i64 y2))]).run prog w = .ok (.agg (am.C (⟨y0,y1,y2⟩:am)).toArray) w:=fun _=>by kernel_rfl
abbrev nj:Nat:=72
abbrev ll:Nat:=125
theorem en_125:aI prog 125:=R func125
abbrev kJ:Nat:=74
abbrev n_pred_Holds:Nat:=90
theorem en_68:aI prog 68:=R func68
theorem en_90:aI prog 90:=R func90
abbrev lY:Nat:=75
abbrev nh:Nat:=76
theorem en_71:aI prog 71:=R func71
theorem en_69:aI prog 69:=R func69
theorem en_70:aI prog 70:=R func70
theorem en_72:aI prog 72:=R func72
theorem en_74:aI prog 74:=R func74
theorem en_75:aI prog 75:=R func75
theorem en_76:aI prog 76:=R func76
abbrev dJ:Nat:=35
theorem en_30:aI prog 30:=R func30
theorem en_29:aI prog 29:=R func29
theorem fld_66_4:Fld prog 66 4 8:=z_k 1 underlying66
theorem en_33:aI prog 33:=R func33
theorem en_32:aI prog 32:=R func32
theorem inf_4:∃ i,prog.info? 4 = some i/\i.size = 1:=bH (by kernel_rfl)
theorem en_35:aI prog 35:=R func35
theorem en_34:aI prog 34:=R func34
theorem en_31:aI prog 31:=R func31
abbrev mP:Nat:=10
abbrev qH:Nat:=36
theorem en_10:aI prog 10:=R func10
theorem en_8:aI prog 8:=R func8
theorem en_36:aI prog 36:=R func36
abbrev fP:Nat:=11
abbrev fu:Nat:=37
theorem en_37:aI prog 37:=R func37
abbrev fw:Nat:=12
theorem tV:Fld prog 45 0 0:=z_k 1 underlying45
theorem en_12:aI prog 12:=R func12
theorem en_11:aI prog 11:=R func11
theorem en_7:aI prog 7:=R func7
abbrev cA:Nat:=6
theorem pN:Fld prog 26 0 0:=z_k 1 underlying26
theorem pM:Fld prog 45 1 1:=z_k 1 underlying45
theorem tU:Fld prog 45 3 7:=z_k 1 underlying45
abbrev n_hist_one:Nat:=44
abbrev jQ:Nat:=89
def R_map_int_bool (r:(Option Nat)):Value:=(.map r)
abbrev ir:Nat:=90
def R_map_int_int (r:(Option Nat)):Value:=(.map r)
theorem zero_45:∃ i,prog.info? 45 = some i/\i.zero = some (.agg (aE.C (⟨0,0,(⟨0,0,0,0,0⟩:ah),0,0,0,(⟨0,0⟩:ab),(⟨0,0,0,0⟩:ao)⟩:aE)).toArray):=kB (by kernel_rfl)
theorem ag_45:Ag prog 45 16:=⟨⟨_,underlying45,rfl⟩,bH (by kernel_rfl)⟩
theorem pQ:Ag prog 26 3:=⟨⟨_,underlying26,rfl⟩,bH (by kernel_rfl)⟩
theorem en_44:aI prog 44:=R func44
theorem inf_45:∃ i,prog.info? 45 = some i/\i.size = 16:=bH (by kernel_rfl)
abbrev xS:Nat:=19
abbrev qX:Nat:=45
abbrev nN:Nat:=46
abbrev bQ:Nat:=138
abbrev dl:Nat:=175
theorem en_175:aI prog 175:=R func175
abbrev dH:Nat:=165
abbrev cm:Nat:=139
theorem en_139:aI prog 139:=R func139
theorem en_165:aI prog 165:=R func165
theorem en_138:aI prog 138:=R func138
abbrev lX:Nat:=94
theorem en_94:aI prog 94:=R func94
abbrev eG:Nat:=47
abbrev n_cmp_isNaN_int:Nat:=95
theorem en_95:aI prog 95:=R func95
abbrev vg:Nat:=49
theorem en_49:aI prog 49:=R func49
abbrev rR:Nat:=48
theorem en_47:aI prog 47:=R func47
theorem en_45:aI prog 45:=R func45
abbrev mR:Nat:=20
def ui (r:Ptr):Value:=(pv r)
theorem build_189  : ∀ w,(Instr.build 189 #[]).run prog w = .ok (.agg (tg.C (⟨(⟨none,0,0,none⟩:Sl)⟩:tg)).toArray) w:=fun _=>by kernel_rfl
abbrev qw:Nat:=98
def R_SSuint64 (r:Sl):Value:=(sv r)
theorem inf_98:∃ i,prog.info? 98 = some i/\i.size = 1:=bH (by kernel_rfl)
abbrev mA:Nat:=189
abbrev wG:Nat:=77
def sY (r:Ptr):Value:=(pv r)
theorem build_191_0 (y0:Sl):∀ w,(Instr.build 191 #[(0,(sv y0))]).run prog w = .ok (.agg (oM.C (⟨y0⟩:oM)).toArray) w:=fun _=>by kernel_rfl
abbrev rf:Nat:=191
abbrev xQ:Nat:=78
def sZ (r:Ptr):Value:=(pv r)
abbrev t_S_8_api_Cap:Nat:=192
def R_S_8_api_Cap (r:Sl):Value:=(sv r)
theorem build_194_0 (y0:Sl):∀ w,(Instr.build 194 #[(0,(sv y0))]).run prog w = .ok (.agg (oP.C (⟨y0⟩:oP)).toArray) w:=fun _=>by kernel_rfl
abbrev oq:Nat:=194
abbrev xT:Nat:=79
def dW (r:Ptr):Value:=(pv r)
theorem wL:Fld prog 26 2 2:=z_k 1 underlying26
theorem build_127_0_1_3_4 (y0:aF) (y1:Ptr) (y3:Ptr) (y4:Ptr):∀ w,(Instr.build 127 #[(0,(.agg (aF.C y0).toArray)),(1,(pv y1)),(3,(pv y3)),(4,(pv y4))]).run prog w = .ok (.agg (gH.C (⟨y0,y1,(⟨none,0,0,none⟩:Sl),y3,y4⟩:gH)).toArray) w:=fun _=>by kernel_rfl
abbrev fj:Nat:=123
def nP (r:Sl):Value:=(sv r)
theorem inf_123:∃ i,prog.info? 123 = some i/\i.size = 1:=bH (by kernel_rfl)
abbrev cH:Nat:=127
theorem en_79:aI prog 79:=R func79
theorem en_78:aI prog 78:=R func78
theorem en_77:aI prog 77:=R func77
abbrev oA:Nat:=38
theorem mq:Fld prog 45 2 2:=z_k 5 underlying45
abbrev n_judge_user:Nat:=81
abbrev gT:Nat:=170
theorem en_170:aI prog 170:=R func170
abbrev rP:Nat:=153
abbrev ni:Nat:=154
theorem en_153:aI prog 153:=R func153
theorem en_154:aI prog 154:=R func154
theorem en_38:aI prog 38:=R func38
abbrev gY:Nat:=127
abbrev tN:Nat:=169
abbrev n_hist_Over:Nat:=152
def qT (r:Sl):Value:=(sv r)
theorem wO:Fld prog 147 2 4:=z_k 1 underlying147
abbrev qv:Nat:=195
theorem fld_147_0:Fld prog 147 0 0:=z_k 1 underlying147
theorem en_127:aI prog 127:=R func127
theorem en_152:aI prog 152:=R func152
abbrev mh:Nat:=126
theorem fld_147_1:Fld prog 147 1 1:=z_k 3 underlying147
def ab.eqb (x y:ab):Bool:=((x.fWa == y.fWa) && ((x.fVal == y.fVal) && true))
theorem nC:Sc prog 32:=⟨⟨_,underlying32,rfl⟩,bH (by kernel_rfl)⟩
theorem eqr_34 (n:Nat) (x y:ab):EqR prog (n + 2) 34 (.agg (ab.C x).toArray) (.agg (ab.C y).toArray) (ab.eqb x y):=yj underlying34 (by kernel_rfl) (mt (by decide) (iw nC rfl) (iw nC rfl) (jM (n:=n + 0) underlying32) (mt (by decide) (iw cG rfl) (iw cG rfl) (jM (n:=n + 0) underlying22) eqf_nil))
theorem eqg_34:prog.eqGuardType prog.depth 34 = false:=by kernel_rfl
def ao.eqb (x y:ao):Bool:=((x.fCa == y.fCa) && ((x.fOa == y.fOa) && ((x.fEa == y.fEa) && ((x.fBa == y.fBa) && true))))
theorem eqr_43 (n:Nat) (x y:ao):EqR prog (n + 2) 43 (.agg (ao.C x).toArray) (.agg (ao.C y).toArray) (ao.eqb x y):=yj underlying43 (by kernel_rfl) (mt (by decide) (iw ba rfl) (iw ba rfl) (jM (n:=n + 0) underlying3) (mt (by decide) (iw ba rfl) (iw ba rfl) (jM (n:=n + 0) underlying3) (mt (by decide) (iw ba rfl) (iw ba rfl) (jM (n:=n + 0) underlying3) (mt (by decide) (iw ba rfl) (iw ba rfl) (jM (n:=n + 0) underlying3) eqf_nil))))
theorem eqg_43:prog.eqGuardType prog.depth 43 = false:=by kernel_rfl
theorem slc_195:Slc prog 195 104 3:=⟨underlying195,bH (by kernel_rfl)⟩
theorem jx:Fld prog 34 0 0:=z_k 1 underlying34
theorem fld_34_1:Fld prog 34 1 1:=z_k 1 underlying34
theorem en_126:aI prog 126:=R func126
abbrev mi:Nat:=82
abbrev nX:Nat:=83
theorem build_147_0_1_2 (y0:Sl) (y1:aF) (y2:Ptr):∀ w,(Instr.build 147 #[(0,(sv y0)),(1,(.agg (aF.C y1).toArray)),(2,(pv y2))]).run prog w = .ok (.agg (lj.C (⟨y0,y1,y2⟩:lj)).toArray) w:=fun _=>by kernel_rfl
theorem en_83:aI prog 83:=R func83
theorem en_82:aI prog 82:=R func82
theorem en_81:aI prog 81:=R func81
theorem en_20:aI prog 20:=R func20
abbrev dw:Nat:=147
theorem en_19:aI prog 19:=R func19
abbrev uZ:Nat:=42
theorem en_42:aI prog 42:=R func42
abbrev pE:Nat:=15
abbrev pF:Nat:=16
theorem en_16:aI prog 16:=R func16
theorem en_15:aI prog 15:=R func15
abbrev qW:Nat:=13
def pR (r:Ptr):Value:=(pv r)
theorem build_100_0 (y0:Sl):∀ w,(Instr.build 100 #[(0,(sv y0))]).run prog w = .ok (.agg (oN.C (⟨y0⟩:oN)).toArray) w:=fun _=>by kernel_rfl
abbrev lP:Nat:=100
abbrev tM:Nat:=39
def je (r:Ptr):Value:=(pv r)
theorem build_110_1 (y1:Sl):∀ w,(Instr.build 110 #[(1,(sv y1))]).run prog w = .ok (.agg (ko.C (⟨(⟨none,0,0,none⟩:Sl),y1⟩:ko)).toArray) w:=fun _=>by kernel_rfl
abbrev iD:Nat:=110
abbrev oD:Nat:=40
abbrev rO:Nat:=80
def gV (r:Ptr):Value:=(pv r)
abbrev qu:Nat:=144
theorem en_80:aI prog 80:=R func80
abbrev iZ:Nat:=41
def kQ (r:Ptr):Value:=(pv r)
abbrev nz:Nat:=61
def rc (r:Sl):Value:=(sv r)
theorem og (y0:Ptr) (y1:Int) (y3:Ptr) (y4:Ptr) (y5:Sl):∀ w,(Instr.build 63 #[(0,(pv y0)),(1,(.int .i64 y1)),(3,(pv y3)),(4,(pv y4)),(5,(sv y5))]).run prog w = .ok (.agg (fX.C (⟨y0,y1,(⟨none,0,0,none⟩:Sl),y3,y4,y5,(⟨none,0,0,none⟩:Sl),0⟩:fX)).toArray) w:=fun _=>by kernel_rfl
abbrev bR:Nat:=58
def dY (r:Sl):Value:=(sv r)
theorem inf_58:∃ i,prog.info? 58 = some i/\i.size = 1:=bH (by kernel_rfl)
theorem en_41:aI prog 41:=R func41
abbrev cj:Nat:=63
theorem en_40:aI prog 40:=R func40
theorem en_39:aI prog 39:=R func39
abbrev xR:Nat:=14
def oQ (r:Sl):Value:=(sv r)
abbrev ou:Nat:=51
theorem build_88_0_1 (y0:Int) (y1:Int):∀ w,(Instr.build 88 #[(0,(.int .i64 y0)),(1,(.int .i64 y1))]).run prog w = .ok (.agg (eo.C (⟨y0,y1,0,(⟨0,0,0,0,0⟩:ah),0,0⟩:eo)).toArray) w:=fun _=>by kernel_rfl
abbrev vM:Nat:=17
abbrev xN:Nat:=129
theorem en_129:aI prog 129:=R func129
abbrev n_user_Do:Nat:=86
def iS (r:Value):Value:=(r)
theorem build_210_0_1 (y0:Int) (y1:Int):∀ w,(Instr.build 210 #[(0,(.int .i64 y0)),(1,(.int .i64 y1))]).run prog w = .ok (.agg (bY.C (⟨y0,y1,(⟨0,0,0,0,0⟩:ah),Value.nilIface⟩:bY)).toArray) w:=fun _=>by kernel_rfl
abbrev bg:Nat:=208
abbrev oo:Nat:=210
abbrev la:Nat:=92
abbrev gC:Nat:=135
theorem ag_259:Ag prog 259 3:=⟨⟨_,underlying259,rfl⟩,bH (by kernel_rfl)⟩
abbrev fK:Nat:=183
def fU (r:aK):Value:=(.agg (aK.C r).toArray)
abbrev db:Nat:=179
abbrev fQ:Nat:=184
abbrev gL:Nat:=150
abbrev jB:Nat:=238
def gI (r:Value × Bool):Value:=.tuple #[(r.1),(.bool r.2)]
abbrev iW:Nat:=240
def gr (r:Value × Bool):Value:=.tuple #[(r.1),(.bool r.2)]
def R_Serror (r:Sl):Value:=(sv r)
theorem slc_241:Slc prog 241 150 1:=⟨underlying241,bH (by kernel_rfl)⟩
abbrev va:Nat:=182
theorem en_182:aI prog 182:=R func182
theorem sc_150:Sc prog 150:=⟨⟨_,underlying150,rfl⟩,bH (by kernel_rfl)⟩
abbrev rg:Nat:=268
def oh (r:Value × Bool):Value:=.tuple #[(r.1),(.bool r.2)]
theorem zero_259:∃ i,prog.info? 259 = some i/\i.zero = some (.agg (aK.C (⟨none,none,0⟩:aK)).toArray):=kB (by kernel_rfl)
abbrev iV:Nat:=180
def R_abi_Kind (r:Int):Value:=(.int .u8 r)
def str_6ae768b9:ByteArray:=⟨#[101,114,114,111,114,115,58,32,42,116,97,114,103,101,116,32,109,117,115,116,32,98,101,32,105,110,116,101,114,102,97,99,101,32,111,114,32,105,109,112,108,101,109,101,110,116,32,101,114,114,111,114]⟩
abbrev vW:Nat:=9
theorem sc_205:Sc prog 205:=⟨⟨_,underlying205,rfl⟩,bH (by kernel_rfl)⟩
abbrev fx:Nat:=181
def str_ae9b7a08:ByteArray:=⟨#[101,114,114,111,114,115,58,32,116,97,114,103,101,116,32,109,117,115,116,32,98,101,32,97,32,110,111,110,45,110,105,108,32,112,111,105,110,116,101,114]⟩
theorem inf_259:∃ i,prog.info? 259 = some i/\i.size = 3:=bH (by kernel_rfl)
def str_53947bae:ByteArray:=⟨#[101,114,114,111,114,115,58,32,116,97,114,103,101,116,32,99,97,110,110,111,116,32,98,101,32,110,105,108]⟩
abbrev vb:Nat:=177
def eZ (r:Ptr × Bool):Value:=.tuple #[(pv r.1),(.bool r.2)]
theorem zero_208:∃ i,prog.info? 208 = some i/\i.zero = some (pv none):=kB (by kernel_rfl)
theorem sc_208:Sc prog 208:=⟨⟨_,underlying208,rfl⟩,bH (by kernel_rfl)⟩
abbrev bE:Nat:=253
theorem en_177:aI prog 177:=R func177
abbrev kG:Nat:=171
theorem wM:Fld prog 210 0 0:=z_k 1 underlying210
theorem en_171:aI prog 171:=R func171
abbrev uY:Nat:=155
def R_trap_Trap (r:bY):Value:=(.agg (bY.C r).toArray)
theorem en_155:aI prog 155:=R func155
abbrev n_trap_In:Nat:=130
theorem en_92:aI prog 92:=R func92
theorem en_130:aI prog 130:=R func130
abbrev nV:Nat:=87
def pS (r:Ptr):Value:=(pv r)
theorem build_248_0 (y0:Int):∀ w,(Instr.build 248 #[(0,(.int .u64 y0))]).run prog w = .ok (.agg (oO.C (⟨y0,0⟩:oO)).toArray) w:=fun _=>by kernel_rfl
abbrev rh:Nat:=248
abbrev tP:Nat:=156
def uh (r:Ptr):Value:=(pv r)
theorem build_250_0_1 (y0:Ptr) (y1:Ptr):∀ w,(Instr.build 250 #[(0,(pv y0)),(1,(pv y1))]).run prog w = .ok (.agg (li.C (⟨y0,y1⟩:li)).toArray) w:=fun _=>by kernel_rfl
abbrev nv:Nat:=250
theorem en_156:aI prog 156:=R func156
abbrev xP:Nat:=157
theorem te:Fld prog 248 1 1:=z_k 1 underlying248
theorem oH:Fld prog 248 0 0:=z_k 1 underlying248
abbrev pH:Nat:=158
theorem fld_250_0:Fld prog 250 0 0:=z_k 1 underlying250
theorem en_158:aI prog 158:=R func158
theorem sc_227:Sc prog 227:=⟨⟨_,underlying227,rfl⟩,bH (by kernel_rfl)⟩
abbrev nU:Nat:=159
abbrev oB:Nat:=136
theorem en_136:aI prog 136:=R func136
abbrev mY:Nat:=235
def kq (r:Value × Bool):Value:=.tuple #[(r.1),(.bool r.2)]
abbrev oC:Nat:=91
theorem fld_210_3:Fld prog 210 3 7:=z_k 1 underlying210
abbrev xO:Nat:=178
theorem io (y0:Int) (y1:Int):∀ w,(Instr.build 30 #[(0,(.int .u64 y0)),(1,(.int .u64 y1))]).run prog w = .ok (.agg (ah.C (⟨y0,y1,0,0,0⟩:ah)).toArray) w:=fun _=>by kernel_rfl
theorem fld_210_1:Fld prog 210 1 1:=z_k 1 underlying210
theorem fld_210_2:Fld prog 210 2 2:=z_k 5 underlying210
def ah.eqb (x y:ah):Bool:=((x.e0 == y.e0) && ((x.e1 == y.e1) && ((x.e2 == y.e2) && ((x.e3 == y.e3) && ((x.e4 == y.e4) && true)))))
theorem eqr_30 (n:Nat) (x y:ah):EqR prog (n + 2) 30 (.agg (ah.C x).toArray) (.agg (ah.C y).toArray) (ah.eqb x y):=eqr_arr underlying30 inf_22 ⟨_,_,_,_,(iw cG rfl),(iw cG rfl),(jM (n:=n + 0) underlying22),⟨_,_,_,_,(iw cG rfl),(iw cG rfl),(jM (n:=n + 0) underlying22),⟨_,_,_,_,(iw cG rfl),(iw cG rfl),(jM (n:=n + 0) underlying22),⟨_,_,_,_,(iw cG rfl),(iw cG rfl),(jM (n:=n + 0) underlying22),⟨_,_,_,_,(iw cG rfl),(iw cG rfl),(jM (n:=n + 0) underlying22),rfl,rfl⟩,rfl⟩,rfl⟩,rfl⟩,rfl⟩
theorem eqg_30:prog.eqGuardType prog.depth 30 = false:=by kernel_rfl
def eA (r:ByteArray):Value:=(.string r)
def oV:ByteArray:=⟨#[116,114,97,112,32,51,58,32,116,114,97,112,32,51]⟩
theorem en_91:aI prog 91:=R func91
theorem en_178:aI prog 178:=R func178
abbrev mc:Nat:=172
theorem en_172:aI prog 172:=R func172
abbrev me:Nat:=160
abbrev mS:Nat:=173
theorem fld_250_1:Fld prog 250 1 1:=z_k 1 underlying250
theorem en_173:aI prog 173:=R func173
abbrev kH:Nat:=161
abbrev rS:Nat:=174
theorem en_174:aI prog 174:=R func174
theorem en_161:aI prog 161:=R func161
abbrev nT:Nat:=162
abbrev n_word_Args:Nat:=163
abbrev mJ:Nat:=137
theorem en_137:aI prog 137:=R func137
abbrev qE:Nat:=164
theorem build_30_0 (y0:Int):∀ w,(Instr.build 30 #[(0,(.int .u64 y0))]).run prog w = .ok (.agg (ah.C (⟨y0,0,0,0,0⟩:ah)).toArray) w:=fun _=>by kernel_rfl
theorem eP (y0:Int) (y1:Int) (y2:Int) (y3:Int):∀ w,(Instr.build 30 #[(0,(.int .u64 y0)),(1,(.int .u64 y1)),(2,(.int .u64 y2)),(3,(.int .u64 y3))]).run prog w = .ok (.agg (ah.C (⟨y0,y1,y2,y3,0⟩:ah)).toArray) w:=fun _=>by kernel_rfl
theorem en_164:aI prog 164:=R func164
theorem en_163:aI prog 163:=R func163
theorem en_162:aI prog 162:=R func162
theorem en_160:aI prog 160:=R func160
theorem en_159:aI prog 159:=R func159
theorem en_157:aI prog 157:=R func157
abbrev ma:Nat:=131
theorem en_131:aI prog 131:=R func131
abbrev mb:Nat:=88
abbrev nk:Nat:=93
theorem ue (y0:Int) (y1:Int) (y2:Int):∀ w,(Instr.build 26 #[(0,(.int .i64 y0)),(1,(.int .i64 y1)),(2,(.int .i64 y2))]).run prog w = .ok (.agg (aF.C (⟨y0,y1,y2⟩:aF)).toArray) w:=fun _=>by kernel_rfl
theorem iP (y0:Int) (y1:Int) (y2:Int):∀ w,(Instr.build 30 #[(0,(.int .u64 y0)),(1,(.int .u64 y1)),(2,(.int .u64 y2))]).run prog w = .ok (.agg (ah.C (⟨y0,y1,y2,0,0⟩:ah)).toArray) w:=fun _=>by kernel_rfl
theorem en_93:aI prog 93:=R func93
theorem en_88:aI prog 88:=R func88
theorem en_87:aI prog 87:=R func87
theorem en_86:aI prog 86:=R func86
abbrev lx:Nat:=43
theorem en_43:aI prog 43:=R func43
abbrev ly:Nat:=18
theorem slc_51:Slc prog 51 88 10:=⟨underlying51,bH (by kernel_rfl)⟩
theorem zero_88:∃ i,prog.info? 88 = some i/\i.zero = some (.agg (eo.C (⟨0,0,0,(⟨0,0,0,0,0⟩:ah),0,0⟩:eo)).toArray):=kB (by kernel_rfl)
theorem fld_88_0:Fld prog 88 0 0:=z_k 1 underlying88
theorem fld_88_1:Fld prog 88 1 1:=z_k 1 underlying88
theorem inf_88:∃ i,prog.info? 88 = some i/\i.size = 10:=bH (by kernel_rfl)
theorem ag_88:Ag prog 88 10:=⟨⟨_,underlying88,rfl⟩,bH (by kernel_rfl)⟩
abbrev pG:Nat:=50
theorem en_50:aI prog 50:=R func50
abbrev n_fair_Fair:Nat:=21
def nH (r:Sl):Value:=(sv r)
abbrev ny:Nat:=55
abbrev n_twin_View:Nat:=22
theorem zero_26:∃ i,prog.info? 26 = some i/\i.zero = some (.agg (aF.C (⟨0,0,0⟩:aF)).toArray):=kB (by kernel_rfl)
theorem en_13:aI prog 13:=R func13
theorem en_22:aI prog 22:=R func22
theorem en_21:aI prog 21:=R func21
theorem en_18:aI prog 18:=R func18
theorem en_17:aI prog 17:=R func17
theorem en_6:aI prog 6:=R func6
theorem en_14:aI prog 14:=R func14
theorem inf_26:∃ i,prog.info? 26 = some i/\i.size = 3:=bH (by kernel_rfl)
abbrev lr:Nat:=4
abbrev t_Sapi_Call:Nat:=31
def R_Sapi_Call (r:Sl):Value:=(sv r)
theorem slc_31:Slc prog 31 30 5:=⟨underlying31,bH (by kernel_rfl)⟩
theorem zero_30:∃ i,prog.info? 30 = some i/\i.zero = some (.agg (ah.C (⟨0,0,0,0,0⟩:ah)).toArray):=kB (by kernel_rfl)
theorem inf_30:∃ i,prog.info? 30 = some i/\i.size = 5:=bH (by kernel_rfl)
abbrev kL:Nat:=5
theorem en_5:aI prog 5:=R func5
theorem en_4:aI prog 4:=R func4
abbrev mf:Nat:=3
def str_73df774b:ByteArray:=⟨#[48,49,50,51,52,53,54,55,56,57,97,98,99,100,101,102,103,104,105,106,107,108,109,110,111,112,113,114,115,116,117,118,119,120,121,122]⟩
def str_e9752c08:ByteArray:=⟨#[48,48,48,49,48,50,48,51,48,52,48,53,48,54,48,55,48,56,48,57,49,48,49,49,49,50,49,51,49,52,49,53,49,54,49,55,49,56,49,57,50,48,50,49,50,50,50,51,50,52,50,53,50,54,50,55,50,56,50,57,51,48,51,49,51,50,51,51,51,52,51,53,51,54,51,55,51,56,51,57,52,48,52,49,52,50,52,51,52,52,52,53,52,54,52,55,52,56,52,57,53,48,53,49,53,50,53,51,53,52,53,53,53,54,53,55,53,56,53,57,54,48,54,49,54,50,54,51,54,52,54,53,54,54,54,55,54,56,54,57,55,48,55,49,55,50,55,51,55,52,55,53,55,54,55,55,55,56,55,57,56,48,56,49,56,50,56,51,56,52,56,53,56,54,56,55,56,56,56,57,57,48,57,49,57,50,57,51,57,52,57,53,57,54,57,55,57,56,57,57]⟩
abbrev jD:Nat:=210
abbrev rQ:Nat:=211
theorem inf_5:∃ i,prog.info? 5 = some i/\i.size = 1:=bH (by kernel_rfl)
abbrev pW:Nat:=212
def R_Suint8_string (r:Sl × ByteArray):Value:=.tuple #[(sv r.1),(.string r.2)]
def R_Suint8 (r:Sl):Value:=(sv r)
abbrev rA:Nat:=213
theorem en_210:aI prog 210:=R func210
theorem zero_290:∃ i,prog.info? 290 = some i/\i.zero = some (.agg [.int .u8 0,.int .u8 0,.int .u8 0,.int .u8 0,.int .u8 0,.int .u8 0,.int .u8 0,.int .u8 0,.int .u8 0,.int .u8 0,.int .u8 0,.int .u8 0,.int .u8 0,.int .u8 0,.int .u8 0,.int .u8 0,.int .u8 0,.int .u8 0,.int .u8 0,.int .u8 0,.int .u8 0,.int .u8 0,.int .u8 0,.int .u8 0].toArray):=kB (by kernel_rfl)
abbrev xf:Nat:=290
theorem arr_290:Arr prog 290 24 5 1:=⟨underlying290,bH (by kernel_rfl)⟩
theorem en_212:aI prog 212:=R func212
theorem en_211:aI prog 211:=R func211
theorem en_213:aI prog 213:=R func213
abbrev gU:Nat:=209
theorem en_209:aI prog 209:=R func209
abbrev jX:Nat:=208
theorem en_208:aI prog 208:=R func208
abbrev tK:Nat:=207
theorem en_207:aI prog 207:=R func207
abbrev jm:Nat:=204
abbrev tI:Nat:=205
abbrev nS:Nat:=206
abbrev kC:Nat:=30
abbrev t_api_Event:Nat:=45
abbrev t_api_Pick:Nat:=88
abbrev t_api_Answer:Nat:=34
abbrev tj:Nat:=84
abbrev fN:Nat:=64
abbrev t_uint64:Nat:=22
abbrev t_api_Line:Nat:=43
abbrev eH:Nat:=112
abbrev t_api_Pte:Nat:=104
abbrev t_bool:Nat:=4
abbrev rX:Nat:=233
abbrev t_tlb_line:Nat:=140
end
section
open Go Mb
theorem el_Sint:El prog dR lG 1 8 [.int .i64 0]:=vm underlying23 (by kernel_rfl) rfl
theorem el_Sapi_Call:El prog t_Sapi_Call kC 5 40 [.int .u64 0,.int .u64 0,.int .u64 0,.int .u64 0,.int .u64 0]:=vm underlying31 (by kernel_rfl) rfl
theorem qZ:El prog eq t_api_Event 16 128 [.int .i64 0,.int .i64 0,.int .u64 0,.int .u64 0,.int .u64 0,.int .u64 0,.int .u64 0,.int .i64 0,.int .i64 0,.int .i64 0,.int .i64 0,.int .u64 0,.int .i64 0,.int .i64 0,.int .i64 0,.int .i64 0]:=vm underlying40 (by kernel_rfl) rfl
theorem el_Sapi_Pick:El prog ou t_api_Pick 10 80 [.int .i64 0,.int .i64 0,.int .i64 0,.int .u64 0,.int .u64 0,.int .u64 0,.int .u64 0,.int .u64 0,.int .i64 0,.int .i64 0]:=vm underlying51 (by kernel_rfl) rfl
theorem el_Sapi_Answer:El prog ny t_api_Answer 2 16 [.int .i64 0,.int .u64 0]:=vm underlying55 (by kernel_rfl) rfl
theorem el_SPtlb_Tlb:El prog bR tj 1 8 [pv none]:=vm underlying58 (by kernel_rfl) rfl
theorem el_SPkern_call:El prog nz fN 1 8 [pv none]:=vm underlying61 (by kernel_rfl) rfl
theorem gq:El prog be t_uint64 1 8 [.int .u64 0]:=vm underlying97 (by kernel_rfl) rfl
theorem vn:El prog qw be 1 24 [sv (⟨none,0,0,none⟩:Sl)]:=vm underlying98 (by kernel_rfl) rfl
theorem el_Sapi_Line:El prog ri t_api_Line 4 32 [.int .i64 0,.int .i64 0,.int .i64 0,.int .i64 0]:=vm underlying101 (by kernel_rfl) rfl
theorem wS:El prog fj eH 1 8 [pv none]:=vm underlying123 (by kernel_rfl) rfl
theorem ub:El prog iu sE 2 16 [.int .i64 0,.int .i64 0]:=vm underlying152 (by kernel_rfl) rfl
theorem el_S_8_api_Cap:El prog t_S_8_api_Cap lQ 32 256 [.int .i64 0,.int .i64 0,.int .i64 0,.int .i64 0,.int .i64 0,.int .i64 0,.int .i64 0,.int .i64 0,.int .i64 0,.int .i64 0,.int .i64 0,.int .i64 0,.int .i64 0,.int .i64 0,.int .i64 0,.int .i64 0,.int .i64 0,.int .i64 0,.int .i64 0,.int .i64 0,.int .i64 0,.int .i64 0,.int .i64 0,.int .i64 0,.int .i64 0,.int .i64 0,.int .i64 0,.int .i64 0,.int .i64 0,.int .i64 0,.int .i64 0,.int .i64 0]:=vm underlying192 (by kernel_rfl) rfl
theorem el_Sapi_Pte:El prog qv t_api_Pte 3 24 [.int .i64 0,.int .i64 0,.int .i64 0]:=vm underlying195 (by kernel_rfl) rfl
theorem sA:aI prog nN:=R func46
theorem sy:aI prog rR:=R func48
theorem vR:aI prog mj:=R func133
theorem wR:aI prog hG:=R func151
theorem enter_hist_Over_c1:aI prog tN:=R func169
theorem mp_map_int_bool:Mp prog jQ lG t_bool (.bool false):=⟨underlying89,⟨_,underlying3⟩,kB (by kernel_rfl)⟩
theorem mp_map_int_int:Mp prog ir lG lG (.int .i64 0):=⟨underlying90,⟨_,underlying3⟩,kB (by kernel_rfl)⟩
theorem arn_2_tlb_line:prog.underlying t_2_tlb_line = some (.array 2 t_tlb_line):=underlying141
theorem age_2_tlb_line:Ag prog t_tlb_line 5:=⟨⟨_,underlying140,rfl⟩,bH (by kernel_rfl)⟩
theorem agn_8_api_Pte:Ag prog uv 24:=⟨⟨_,underlying164,rfl⟩,bH (by kernel_rfl)⟩
theorem arn_8_api_Pte:prog.underlying uv = some (.array 8 t_api_Pte):=underlying164
theorem age_8_api_Pte:Ag prog t_api_Pte 3:=⟨⟨_,underlying104,rfl⟩,bH (by kernel_rfl)⟩
theorem agn_8_api_Cap:Ag prog lQ 32:=⟨⟨_,underlying198,rfl⟩,bH (by kernel_rfl)⟩
theorem arn_8_api_Cap:prog.underlying lQ = some (.array 8 ge):=underlying198
theorem age_8_api_Cap:Ag prog ge 4:=⟨⟨_,underlying176,rfl⟩,bH (by kernel_rfl)⟩
end
section
open Go Mb
def sh_table_is (a0:Int) (K:Bool->Hp->Prop):Hp->Prop:=K ((decide (a0 >= 0)) && (decide (a0 < 8)))
theorem sim_table_is (a0:Int) {K:Bool->Hp->Prop} {h:Hp} (H:sh_table_is a0 K h):cl prog n_table_is [(.int .i64 a0)] aB K h:=z_i func103 p p fun _=>O<|U p<|O<|M p<|J (kr p p)<|M p<|W p p (ax _) (fun g1=>wv<|ai p)<|W p p (ax _) (fun g2=>wv<|ci (aC p g2) p)<|J (bN p p)<|U p<|aj<|Z ⟨((decide (a0 >= 0)) && (decide (a0 < 8))),p,H⟩
def bz (a0:Int):Bool:=(((decide (a0 >= 0)) && (decide (a0 < 8))))
theorem pr_table_is (a0:Int) {K:Bool->Hp->Prop} {h:Hp} (k:K (bz a0) h):sh_table_is a0 K h:=(fun k=>k) k
theorem vo (a0:Int) (h:Hp):Ct prog n_table_is #[(.int .i64 a0)] h fun v h'=>∃ r,v = aB r/\(r = bz a0/\h' = h):=sim_table_is a0 (pr_table_is a0 ⟨rfl,rfl⟩)
def sh_pte_May (a0:Int) (K:Bool->Hp->Prop):Hp->Prop:=K ((decide (a0 >= 1)) && (decide (a0 <= 3)))
theorem sim_pte_May (a0:Int) {K:Bool->Hp->Prop} {h:Hp} (H:sh_pte_May a0 K h):cl prog n_pte_May [(.int .i64 a0)] aB K h:=z_i func97 p p fun _=>O<|U p<|O<|M p<|J (kr p p)<|M p<|W p p (ax _) (fun g1=>wv<|ai p)<|W p p (ax _) (fun g2=>wv<|v_le (aC p g2) p)<|J (bN p p)<|U p<|aj<|Z ⟨((decide (a0 >= 1)) && (decide (a0 <= 3))),p,H⟩
def cg (a0:Int):Bool:=(((decide (a0 >= 1)) && (decide (a0 <= 3))))
theorem pr_pte_May (a0:Int) {K:Bool->Hp->Prop} {h:Hp} (k:K (cg a0) h):sh_pte_May a0 K h:=(fun k=>k) k
theorem qQ (a0:Int) (h:Hp):Ct prog n_pte_May #[(.int .i64 a0)] h fun v h'=>∃ r,v = aB r/\(r = cg a0/\h' = h):=sim_pte_May a0 (pr_pte_May a0 ⟨rfl,rfl⟩)
def sh_pte_Within (a0:Int) (a1:Int) (K:Bool->Hp->Prop):Hp->Prop:=K (((cg a0) && (cg a1)) && ((iandnot .i64 a0 a1) == 0))
theorem sim_pte_Within (a0:Int) (a1:Int) {K:Bool->Hp->Prop} {h:Hp} (H:sh_pte_Within a0 a1 K h):cl prog n_pte_Within [(.int .i64 a0),(.int .i64 a1)] aB K h:=z_i func54 p p fun _=>O<|U p<|O<|M p<|aa<|cT (vs:=[(.int .i64 a0)]) (bA<|qQ a0 _) en_97 p p<|M p<|W p p (ax _) (fun g1=>wv<|ai p)<|di (vs:=[(.int .i64 a1)]) p p p (ax _) (fun g2=>bA<|qQ a1 _) en_97 (fun g2=>aS (aC p g2) bT) p<|J (bN p p)<|M p<|W p p (ax _) (fun g3=>wv<|ai p)<|W p p (ax _) (fun g4=>wv<|ai p)<|W p p (ax _) (fun g5=>wv<|v_iandnot (aC p g5)<|aC p g5)<|W p p (ax _) (fun g6=>wv<|bP (aC p g6) p)<|J (bN p p)<|U p<|aj<|Z ⟨(((cg a0) && (cg a1)) && ((iandnot .i64 a0 a1) == 0)),p,H⟩
def aP (a0:Int) (a1:Int):Bool:=((((cg a0) && (cg a1)) && ((iandnot .i64 a0 a1) == 0)))
theorem pr_pte_Within (a0:Int) (a1:Int) {K:Bool->Hp->Prop} {h:Hp} (k:K (aP a0 a1) h):sh_pte_Within a0 a1 K h:=(fun k=>k) k
theorem dm (a0:Int) (a1:Int) (h:Hp):Ct prog n_pte_Within #[(.int .i64 a0),(.int .i64 a1)] h fun v h'=>∃ r,v = aB r/\(r = aP a0 a1/\h' = h):=sim_pte_Within a0 a1 (pr_pte_Within a0 a1 ⟨rfl,rfl⟩)
def sh_tlb_empty (K:ao->Hp->Prop):Hp->Prop:=K (⟨(-1),0,0,0⟩:ao)
theorem sim_tlb_empty {K:ao->Hp->Prop} {h:Hp} (H:sh_tlb_empty K h):cl prog n_tlb_empty [] R_api_Line K h:=z_i func99 p p fun _=>O<|aa<|aL (l:=ao.C (⟨0,0,0,0⟩:ao)) lF p p fun b0=>ad<|O<|J (aZ p<|build_43_0 (-1))<|aa<|aO (k:=0) (vs:=ao.C (⟨(-1),0,0,0⟩:ao)) fZ p p p p p p p<|ad<|aj<|bB (nD p<|bF (k:=0) p iz p p) ⟨(⟨(-1),0,0,0⟩:ao),p,H⟩
def gu:ao:=((⟨(-1),0,0,0⟩:ao))
theorem pr_tlb_empty {K:ao->Hp->Prop} {h:Hp} (k:K (gu) h):sh_tlb_empty K h:=(fun k=>k) k
theorem ct_tlb_empty (h:Hp):Ct prog n_tlb_empty #[] h fun v h'=>∃ r,v = R_api_Line r/\(r = gu/\h' = h):=sim_tlb_empty (pr_tlb_empty ⟨rfl,rfl⟩)
def sh_word_Kind (a0:ah) (K:(Int × Bool)->Hp->Prop):Hp->Prop:=br (((decide (a0.e0 >= 1)) && (decide (a0.e0 <= 10))) || ((decide (a0.e0 >= 20)) && (decide (a0.e0 <= 23)))) ( K ((i64.wrap a0.e0),true)) ( K (0,false))
theorem sim_word_Kind (a0:ah) {K:(Int × Bool)->Hp->Prop} {h:Hp} (H:sh_word_Kind a0 K h):cl prog n_word_Kind [(.agg (ah.C a0).toArray)] bM K h:=z_i func27 p p fun _=>O<|aa<|cU (l:=ah.C a0) p p p fun b1=>J (au p)<|U p<|al<|O<|J (bC dq p p (by decide))<|bk (bh (k:=0) cG p p p) p<|U p<|O<|M p<|J (kr p p)<|M p<|W p p (ax _) (fun g1=>wv<|ai p)<|W p p (ax _) (fun g2=>wv<|v_le (aC p g2) p)<|J (bN p p)<|M p<|W p p (aM _) (fun g3=>wv<|ai p)<|W p p (aM _) (fun g4=>wv<|kr (aC p g4) p)<|W p p (aM _) (fun g5=>wv<|ai<|aC p g5)<|W p p (rW _ _) (fun g6=>wv<|ai p)<|W p p (rW _ _) (fun g7=>wv<|v_le (aC p g7) p)<|W p p (aM _) (fun g8=>wv<|bN (aC p g8)<|aH p<|ya g8)<|J (dC p p)<|ad<|aw p H (fun k9 H10=>O<|M p<|J (dv ⟨_,underlying22⟩ underlying3 p)<|J (au p)<|U p<|aj<|bB (bS p (bZ p)<|bZ p) ⟨((i64.wrap a0.e0),true),p,H10⟩) fun k9 H10=>an<|O<|J (au p)<|U p<|aj<|bB (bS p (bZ p)<|bZ p) ⟨(0,false),p,H10⟩
def ay (a0:ah):Int × Bool:=(bif (((decide (a0.e0 >= 1)) && (decide (a0.e0 <= 10))) || ((decide (a0.e0 >= 20)) && (decide (a0.e0 <= 23)))) then (((i64.wrap a0.e0),true)) else ((0,false)))
theorem pr_word_Kind (a0:ah) {K:(Int × Bool)->Hp->Prop} {h:Hp} (k:K (ay a0) h):sh_word_Kind a0 K h:=(kP (K:=K) (fun k=>k) (fun k=>k)) k
theorem kO (a0:ah) (h:Hp):Ct prog n_word_Kind #[(.agg (ah.C a0).toArray)] h fun v h'=>∃ r,v = bM r/\(r = ay a0/\h' = h):=sim_word_Kind a0 (pr_word_Kind a0 ⟨rfl,rfl⟩)
def sh_word_User (a0:Int) (K:Bool->Hp->Prop):Hp->Prop:=K ((decide (a0 >= 20)) && (decide (a0 <= 23)))
theorem sim_word_User (a0:Int) {K:Bool->Hp->Prop} {h:Hp} (H:sh_word_User a0 K h):cl prog n_word_User [(.int .i64 a0)] aB K h:=z_i func28 p p fun _=>O<|U p<|O<|M p<|J (kr p p)<|M p<|W p p (ax _) (fun g1=>wv<|ai p)<|W p p (ax _) (fun g2=>wv<|v_le (aC p g2) p)<|J (bN p p)<|U p<|aj<|Z ⟨((decide (a0 >= 20)) && (decide (a0 <= 23))),p,H⟩
def bG (a0:Int):Bool:=(((decide (a0 >= 20)) && (decide (a0 <= 23))))
theorem pr_word_User (a0:Int) {K:Bool->Hp->Prop} {h:Hp} (k:K (bG a0) h):sh_word_User a0 K h:=(fun k=>k) k
theorem sW (a0:Int) (h:Hp):Ct prog n_word_User #[(.int .i64 a0)] h fun v h'=>∃ r,v = aB r/\(r = bG a0/\h' = h):=sim_word_User a0 (pr_word_User a0 ⟨rfl,rfl⟩)
def sh_word_Rights (a0:Int) (K:(Int × Bool)->Hp->Prop):Hp->Prop:=br ((decide (a0 < 1)) || (decide (a0 > 3))) ( K (0,false)) ( K ((i64.wrap a0),true))
theorem sim_word_Rights (a0:Int) {K:(Int × Bool)->Hp->Prop} {h:Hp} (H:sh_word_Rights a0 K h):cl prog n_word_Rights [(.int .u64 a0)] bM K h:=z_i func140 p p fun _=>O<|J (au p)<|U p<|al<|O<|M p<|J (ci p p)<|M p<|W p p (aM _) (fun g1=>wv<|ai p)<|W p p (aM _) (fun g2=>wv<|oR (aC p g2) p)<|J (dC p p)<|ad<|aw p H (fun k3 H4=>O<|J (au p)<|U p<|aj<|bB (bS p (bZ p)<|bZ p) ⟨(0,false),p,H4⟩) fun k3 H4=>an<|O<|M p<|J (dv ⟨_,underlying22⟩ underlying3 p)<|J (au p)<|U p<|aj<|bB (bS p (bZ p)<|bZ p) ⟨((i64.wrap a0),true),p,H4⟩
def iG (a0:Int):Int × Bool:=(bif ((decide (a0 < 1)) || (decide (a0 > 3))) then ((0,false)) else (((i64.wrap a0),true)))
theorem pr_word_Rights (a0:Int) {K:(Int × Bool)->Hp->Prop} {h:Hp} (k:K (iG a0) h):sh_word_Rights a0 K h:=(kP (K:=K) (fun k=>k) (fun k=>k)) k
theorem ct_word_Rights (a0:Int) (h:Hp):Ct prog n_word_Rights #[(.int .u64 a0)] h fun v h'=>∃ r,v = bM r/\(r = iG a0/\h' = h):=sim_word_Rights a0 (pr_word_Rights a0 ⟨rfl,rfl⟩)
def sh_pte_Put (a0:am) (K:(Int × Bool)->Hp->Prop):Hp->Prop:=br (am.eqb a0 (⟨0,0,0⟩:am)) ( K (0,true)) ( br (((((decide (a0.fEa < 0)) || (decide (a0.fEa >= 16))) || (decide (a0.fDa < 0))) || (decide (a0.fDa >= 8))) || (!(cg a0.fBa))) ( K (0,false)) ( K ((u64.wrap (i64.wrap ((i64.wrap ((i64.wrap (32768 + (i64.wrap (256 * a0.fEa)))) + (i64.wrap (16 * a0.fDa)))) + a0.fBa))),true)))
theorem sim_pte_Put (a0:am) {K:(Int × Bool)->Hp->Prop} {h:Hp} (H:sh_pte_Put a0 K h):cl prog n_pte_Put [(.agg (am.C a0).toArray)] bK K h:=z_i func102 p p fun _=>O<|aa<|cU (l:=am.C a0) p p p fun b1=>J (au p)<|U p<|al<|O<|bk (bD (k:=0) dV p p p p) p<|J (aZ (vs:=[]) p lf)<|J (v_eqA eqg_104 (eqr_104 9998 _ _) p p)<|ad<|aw p H (fun k1 H2=>O<|J (au p)<|U p<|aj<|bB (bS p (bZ p)<|bZ p) ⟨(0,true),p,H2⟩) fun k1 H2=>an<|al<|O<|J (ae oL p)<|bk (bh (k:=0) ba p p p) p<|J (ci p p)<|M p<|W p p (aM _) (fun g3=>wv<|ae oL p)<|W p p (aM _) (fun g4=>cv<|bh (k:=0) ba (aC p g4) p p)<|W p p (aM _) (fun g5=>wv<|kr (aC p g5) p)<|J (dC p p)<|M p<|W p p (aM _) (fun g6=>wv<|ae qO p)<|W p p (aM _) (fun g7=>cv<|bh (k:=0) ba (aC p g7) p p)<|W p p (aM _) (fun g8=>wv<|ci (aC p g8) p)<|J (dC p p)<|M p<|W p p (aM _) (fun g9=>wv<|ae qO p)<|W p p (aM _) (fun g10=>cv<|bh (k:=0) ba (aC p g10) p p)<|W p p (aM _) (fun g11=>wv<|kr (aC p g11) p)<|J (dC p p)<|M p<|W p p (aM _) (fun g12=>wv<|ae dX p)<|W p p (aM _) (fun g13=>cv<|bh (k:=0) ba (aC p g13) p p)<|di (vs:=[(.int .i64 a0.fBa)]) p p p (aM _) (fun g14=>bA<|qQ a0.fBa _) en_97 (fun g14=>aS (aC p g14) bT) p<|W p p (aM _) (fun g15=>wv<|cu<|aC p g15)<|J (dC p p)<|ad<|aw p H2 (fun k16 H17=>O<|J (au p)<|U p<|aj<|bB (bS p (bZ p)<|bZ p) ⟨(0,false),p,H17⟩) fun k16 H17=>an<|O<|J (ae oL p)<|bk (bh (k:=0) ba p p p) p<|J (v_mul p p)<|J (bj p p)<|J (ae qO p)<|bk (bh (k:=0) ba p p p) p<|J (v_mul p p)<|J (bj p p)<|J (ae dX p)<|bk (bh (k:=0) ba p p p) p<|J (bj p p)<|J (dv ⟨_,underlying3⟩ underlying22 p)<|J (au p)<|U p<|aj<|bB (bS p (bZ p)<|bZ p) ⟨((u64.wrap (i64.wrap ((i64.wrap ((i64.wrap (32768 + (i64.wrap (256 * a0.fEa)))) + (i64.wrap (16 * a0.fDa)))) + a0.fBa))),true),p,H17⟩
def ft (a0:am):Int × Bool:=(bif (am.eqb a0 (⟨0,0,0⟩:am)) then ((0,true)) else (bif (((((decide (a0.fEa < 0)) || (decide (a0.fEa >= 16))) || (decide (a0.fDa < 0))) || (decide (a0.fDa >= 8))) || (!(cg a0.fBa))) then ((0,false)) else (((u64.wrap (i64.wrap ((i64.wrap ((i64.wrap (32768 + (i64.wrap (256 * a0.fEa)))) + (i64.wrap (16 * a0.fDa)))) + a0.fBa))),true))))
theorem pr_pte_Put (a0:am) {K:(Int × Bool)->Hp->Prop} {h:Hp} (k:K (ft a0) h):sh_pte_Put a0 K h:=(kP (K:=K) (fun k=>k) (kP (K:=K) (fun k=>k) (fun k=>k))) k
theorem ct_pte_Put (a0:am) (h:Hp):Ct prog n_pte_Put #[(.agg (am.C a0).toArray)] h fun v h'=>∃ r,v = bK r/\(r = ft a0/\h' = h):=sim_pte_Put a0 (pr_pte_Put a0 ⟨rfl,rfl⟩)
def sh_pte_Lets (a0:Int) (a1:Int) (K:Bool->Hp->Prop):Hp->Prop:=br (a1 == 20) ( K (aP 1 a0)) ( br (a1 == 21) ( K (aP 2 a0)) ( br (a1 == 22) ( K (aP 3 a0)) ( br (a1 == 23) ( K (aP 3 a0)) ( K (aP 0 a0)))))
theorem sim_pte_Lets (a0:Int) (a1:Int) {K:Bool->Hp->Prop} {h:Hp} (H:sh_pte_Lets a0 a1 K h):cl prog n_pte_Lets [(.int .i64 a0),(.int .i64 a1)] aB K h:=z_i func105 p p fun _=>O<|U p<|O<|U p<|al<|O<|M p<|ad<|av<|O<|J (bP p p)<|U p<|aw p H (fun k1 H2=>ap<|U p<|O<|M p<|M p<|aa<|cT (vs:=[(.int .i64 1),(.int .i64 a0)]) (bA<|dm 1 a0 _) sB p p<|U p<|aj<|Z ⟨aP 1 a0,p,H2⟩) fun k1 H2=>O<|J (bP p p)<|U p<|aw p H2 (fun k3 H4=>ap<|U p<|O<|M p<|M p<|aa<|cT (vs:=[(.int .i64 2),(.int .i64 a0)]) (bA<|dm 2 a0 _) sB p p<|U p<|aj<|Z ⟨aP 2 a0,p,H4⟩) fun k3 H4=>al<|O<|J (bP p p)<|U p<|aw p H4 (fun k5 H6=>an<|nl p k5<|ap<|U p<|O<|M p<|M p<|aa<|cT (vs:=[(.int .i64 3),(.int .i64 a0)]) (bA<|dm 3 a0 _) sB p p<|U p<|aj<|Z ⟨aP 3 a0,p,H6⟩) fun k5 H6=>ap<|J (bP p p)<|U p<|aw p H6 (fun k7 H8=>ap<|U p<|O<|M p<|M p<|aa<|cT (vs:=[(.int .i64 3),(.int .i64 a0)]) (bA<|dm 3 a0 _) sB p p<|U p<|aj<|Z ⟨aP 3 a0,p,H8⟩) fun k7 H8=>an<|O<|M p<|M p<|aa<|cT (vs:=[(.int .i64 0),(.int .i64 a0)]) (bA<|dm 0 a0 _) sB p p<|U p<|aj<|Z ⟨aP 0 a0,p,H8⟩
def cz (a0:Int) (a1:Int):Bool:=(bif (a1 == 20) then ((aP 1 a0)) else (bif (a1 == 21) then ((aP 2 a0)) else (bif (a1 == 22) then ((aP 3 a0)) else (bif (a1 == 23) then ((aP 3 a0)) else ((aP 0 a0))))))
theorem pr_pte_Lets (a0:Int) (a1:Int) {K:Bool->Hp->Prop} {h:Hp} (k:K (cz a0 a1) h):sh_pte_Lets a0 a1 K h:=(kP (K:=K) (fun k=>k) (kP (K:=K) (fun k=>k) (kP (K:=K) (fun k=>k) (kP (K:=K) (fun k=>k) (fun k=>k))))) k
theorem kz (a0:Int) (a1:Int) (h:Hp):Ct prog n_pte_Lets #[(.int .i64 a0),(.int .i64 a1)] h fun v h'=>∃ r,v = aB r/\(r = cz a0 a1/\h' = h):=sim_pte_Lets a0 a1 (pr_pte_Lets a0 a1 ⟨rfl,rfl⟩)
def su (a0:Int) (K:Bool->Hp->Prop):Hp->Prop:=K (a0 != a0)
theorem sim_cmp_isNaN_uint64 (a0:Int) {K:Bool->Hp->Prop} {h:Hp} (H:su a0 K h):cl prog tO [(.int .u64 a0)] aB K h:=z_i func167 p p fun _=>O<|U p<|O<|M p<|M p<|J (oS p p)<|U p<|aj<|Z ⟨(a0 != a0),p,H⟩
def dD (a0:Int):Bool:=((a0 != a0))
theorem pr_cmp_isNaN_uint64 (a0:Int) {K:Bool->Hp->Prop} {h:Hp} (k:K (dD a0) h):su a0 K h:=(fun k=>k) k
theorem sC (a0:Int) (h:Hp):Ct prog tO #[(.int .u64 a0)] h fun v h'=>∃ r,v = aB r/\(r = dD a0/\h' = h):=sim_cmp_isNaN_uint64 a0 (pr_cmp_isNaN_uint64 a0 ⟨rfl,rfl⟩)
def tA (a0:Int) (a1:Int) (K:Bool->Hp->Prop):Hp->Prop:=K (((dD a0) && (!(dD a1))) || (decide (a0 < a1)))
theorem sim_cmp_Less_uint64 (a0:Int) (a1:Int) {K:Bool->Hp->Prop} {h:Hp} (H:tA a0 a1 K h):cl prog vd [(.int .u64 a0),(.int .u64 a1)] aB K h:=z_i func143 p p fun _=>O<|U p<|O<|M p<|aa<|cT (vs:=[(.int .u64 a0)]) (bA<|sC a0 _) en_167 p p<|M p<|W p p (ax _) (fun g1=>wv<|ai p)<|di (vs:=[(.int .u64 a1)]) p p p (ax _) (fun g2=>bA<|sC a1 _) en_167 (fun g2=>aS (aC p g2) bT) p<|W p p (ax _) (fun g3=>wv<|cu<|aC p g3)<|J (bN p p)<|M p<|W p p (aM _) (fun g4=>wv<|ai p)<|W p p (aM _) (fun g5=>wv<|ai p)<|W p p (aM _) (fun g6=>wv<|ci (aC p g6)<|aC p g6)<|J (dC p p)<|U p<|aj<|Z ⟨(((dD a0) && (!(dD a1))) || (decide (a0 < a1))),p,H⟩
def iH (a0:Int) (a1:Int):Bool:=((((dD a0) && (!(dD a1))) || (decide (a0 < a1))))
theorem pr_cmp_Less_uint64 (a0:Int) (a1:Int) {K:Bool->Hp->Prop} {h:Hp} (k:K (iH a0 a1) h):tA a0 a1 K h:=(fun k=>k) k
theorem ct_cmp_Less_uint64 (a0:Int) (a1:Int) (h:Hp):Ct prog vd #[(.int .u64 a0),(.int .u64 a1)] h fun v h'=>∃ r,v = aB r/\(r = iH a0 a1/\h' = h):=sim_cmp_Less_uint64 a0 a1 (pr_cmp_Less_uint64 a0 a1 ⟨rfl,rfl⟩)
def pd (a0:Int) (K:Bool->Hp->Prop):Hp->Prop:=K (a0 != a0)
theorem vZ (a0:Int) {K:Bool->Hp->Prop} {h:Hp} (H:pd a0 K h):cl prog ql [(.int .u64 a0)] aB K h:=z_i func144 p p fun _=>O<|U p<|O<|M p<|M p<|J (oS p p)<|U p<|aj<|Z ⟨(a0 != a0),p,H⟩
def dP (a0:Int):Bool:=((a0 != a0))
theorem xJ (a0:Int) {K:Bool->Hp->Prop} {h:Hp} (k:K (dP a0) h):pd a0 K h:=(fun k=>k) k
theorem pO (a0:Int) (h:Hp):Ct prog ql #[(.int .u64 a0)] h fun v h'=>∃ r,v = aB r/\(r = dP a0/\h' = h):=vZ a0 (xJ a0 ⟨rfl,rfl⟩)
def sh_plain_fails (a0:Int) (K:(ab × Bool)->Hp->Prop):Hp->Prop:=K ((⟨a0,0⟩:ab),true)
theorem sim_plain_fails (a0:Int) {K:(ab × Bool)->Hp->Prop} {h:Hp} (H:sh_plain_fails a0 K h):cl prog n_plain_fails [(.int .i64 a0)] bb K h:=z_i func68 p p fun _=>O<|aa<|aL (l:=ab.C (⟨0,0⟩:ab)) de p p fun b2=>U p<|O<|M p<|J (aZ p<|jG a0)<|aa<|aO (k:=0) (vs:=ab.C (⟨a0,0⟩:ab)) bL p p p p p p p<|U p<|aj<|bB (bS p (bF (k:=0) p cJ p p)<|bZ p) ⟨((⟨a0,0⟩:ab),true),p,H⟩
def aN (a0:Int):ab × Bool:=(((⟨a0,0⟩:ab),true))
theorem pr_plain_fails (a0:Int) {K:(ab × Bool)->Hp->Prop} {h:Hp} (k:K (aN a0) h):sh_plain_fails a0 K h:=(fun k=>k) k
theorem dT (a0:Int) (h:Hp):Ct prog n_plain_fails #[(.int .i64 a0)] h fun v h'=>∃ r,v = bb r/\(r = aN a0/\h' = h):=sim_plain_fails a0 (pr_plain_fails a0 ⟨rfl,rfl⟩)
def sh_pred_Holds (a0:Int) (a1:Int) (a2:Int) (K:Bool->Hp->Prop):Hp->Prop:=br (a0 == 1) ( K (a1 == a2)) ( br (a0 == 2) ( K (a1 != a2)) ( br (a0 == 3) ( K (decide (a1 < a2))) ( br (a0 == 4) ( K (decide (a1 > a2))) ( K false))))
theorem sim_pred_Holds (a0:Int) (a1:Int) (a2:Int) {K:Bool->Hp->Prop} {h:Hp} (H:sh_pred_Holds a0 a1 a2 K h):cl prog n_pred_Holds [(.int .i64 a0),(.int .u64 a1),(.int .u64 a2)] aB K h:=z_i func90 p p fun _=>O<|U p<|al<|O<|M p<|ad<|av<|O<|J (bP p p)<|U p<|aw p H (fun k1 H2=>O<|M p<|M p<|J (bP p p)<|U p<|aj<|Z ⟨(a1 == a2),p,H2⟩) fun k1 H2=>O<|J (bP p p)<|U p<|aw p H2 (fun k3 H4=>O<|M p<|M p<|J (oS p p)<|U p<|aj<|Z ⟨(a1 != a2),p,H4⟩) fun k3 H4=>O<|J (bP p p)<|U p<|aw p H4 (fun k5 H6=>O<|M p<|M p<|J (ci p p)<|U p<|aj<|Z ⟨decide (a1 < a2),p,H6⟩) fun k5 H6=>O<|J (bP p p)<|U p<|aw p H6 (fun k7 H8=>O<|M p<|M p<|J (oR p p)<|U p<|aj<|Z ⟨decide (a1 > a2),p,H8⟩) fun k7 H8=>an<|O<|U p<|aj<|Z ⟨false,p,H8⟩
def nE (a0:Int) (a1:Int) (a2:Int):Bool:=(bif (a0 == 1) then ((a1 == a2)) else (bif (a0 == 2) then ((a1 != a2)) else (bif (a0 == 3) then ((decide (a1 < a2))) else (bif (a0 == 4) then ((decide (a1 > a2))) else (false)))))
theorem pr_pred_Holds (a0:Int) (a1:Int) (a2:Int) {K:Bool->Hp->Prop} {h:Hp} (k:K (nE a0 a1 a2) h):sh_pred_Holds a0 a1 a2 K h:=(kP (K:=K) (fun k=>k) (kP (K:=K) (fun k=>k) (kP (K:=K) (fun k=>k) (kP (K:=K) (fun k=>k) (fun k=>k))))) k
theorem vS (a0:Int) (a1:Int) (a2:Int) (h:Hp):Ct prog n_pred_Holds #[(.int .i64 a0),(.int .u64 a1),(.int .u64 a2)] h fun v h'=>∃ r,v = aB r/\(r = nE a0 a1 a2/\h' = h):=sim_pred_Holds a0 a1 a2 (pr_pred_Holds a0 a1 a2 ⟨rfl,rfl⟩)
def sh_hist_one (a0:aE) (a1:aF) (a2:Int) (K:Bool->Hp->Prop):Hp->Prop:=br (((((decide (a0.fQa < 0)) || (decide (a0.fQa >= a1.fVa))) || (decide (a0.fCa < 0))) || (decide (a0.fCa >= a1.fKa))) || (decide (a0.fRa <= a2))) ( K false) ( br (a0.fHa == 0) ( K (a0.fYa == 0)) ( K ((decide (a0.fHa >= a0.fRa)) && ((a0.fYa == 0) || (decide (a0.fYa >= a0.fHa))))))
theorem sim_hist_one (a0:aE) (a1:aF) (a2:Int) {K:Bool->Hp->Prop} {h:Hp} (H:sh_hist_one a0 a1 a2 K h):cl prog n_hist_one [(.agg (aE.C a0).toArray),(.agg (aF.C a1).toArray),(.int .i64 a2)] aB K h:=z_i func44 p p fun _=>O<|aa<|cU (l:=aE.C a0) p p p fun b3=>aa<|cU (l:=aF.C a1) p p p fun b4=>U p<|al<|av<|O<|J (ae tV p)<|bk (bh (k:=1) ba p p p) p<|J (ci p p)<|M p<|W p p (aM _) (fun g1=>wv<|ae tV p)<|W p p (aM _) (fun g2=>cv<|bh (k:=1) ba (aC p g2) p p)<|W p p (aM _) (fun g3=>wv<|ae pN p)<|W p p (aM _) (fun g4=>cv<|bh (k:=0) ba (aC p g4) p p)<|W p p (aM _) (fun g5=>wv<|kr (aC p g5)<|aC p g5)<|J (dC p p)<|M p<|W p p (aM _) (fun g6=>wv<|ae pM p)<|W p p (aM _) (fun g7=>cv<|bh (k:=1) ba (aC p g7) p p)<|W p p (aM _) (fun g8=>wv<|ci (aC p g8) p)<|J (dC p p)<|M p<|W p p (aM _) (fun g9=>wv<|ae pM p)<|W p p (aM _) (fun g10=>cv<|bh (k:=1) ba (aC p g10) p p)<|W p p (aM _) (fun g11=>wv<|ae nG p)<|W p p (aM _) (fun g12=>cv<|bh (k:=0) ba (aC p g12) p p)<|W p p (aM _) (fun g13=>wv<|kr (aC p g13)<|aC p g13)<|J (dC p p)<|M p<|W p p (aM _) (fun g14=>wv<|ae tU p)<|W p p (aM _) (fun g15=>cv<|bh (k:=1) ba (aC p g15) p p)<|W p p (aM _) (fun g16=>wv<|ai p)<|W p p (aM _) (fun g17=>wv<|v_le (aC p g17)<|aC p g17)<|J (dC p p)<|U p<|aw p H (fun k18 H19=>O<|U p<|aj<|Z ⟨false,p,H19⟩) fun k18 H19=>O<|J (ae jw p)<|bk (bh (k:=1) ba p p p) p<|J (bP p p)<|U p<|aw p H19 (fun k20 H21=>O<|J (ae rD p)<|bk (bh (k:=1) ba p p p) p<|J (bP p p)<|U p<|aj<|Z ⟨(a0.fYa == 0),p,H21⟩) fun k20 H21=>an<|O<|J (ae jw p)<|bk (bh (k:=1) ba p p p) p<|J (ae tU p)<|bk (bh (k:=1) ba p p p) p<|J (kr p p)<|M p<|W p p (ax _) (fun g22=>wv<|ae rD p)<|W p p (ax _) (fun g23=>cv<|bh (k:=1) ba (aC p g23) p p)<|W p p (ax _) (fun g24=>wv<|bP (aC p g24) p)<|W p p (ax _) (fun g25=>wv<|ai<|aC p g25)<|W p p (eD _ _) (fun g26=>wv<|ae rD p)<|W p p (eD _ _) (fun g27=>cv<|bh (k:=1) ba (aC p g27) p p)<|W p p (eD _ _) (fun g28=>wv<|ae jw p)<|W p p (eD _ _) (fun g29=>cv<|bh (k:=1) ba (aC p g29) p p)<|W p p (eD _ _) (fun g30=>wv<|kr (aC p g30)<|aC p g30)<|W p p (ax _) (fun g31=>wv<|dC (aC p g31)<|aH p<|ya g31)<|J (bN p p)<|U p<|aj<|Z ⟨((decide (a0.fHa >= a0.fRa)) && ((a0.fYa == 0) || (decide (a0.fYa >= a0.fHa)))),p,H21⟩
def eX (a0:aE) (a1:aF) (a2:Int):Bool:=(bif (((((decide (a0.fQa < 0)) || (decide (a0.fQa >= a1.fVa))) || (decide (a0.fCa < 0))) || (decide (a0.fCa >= a1.fKa))) || (decide (a0.fRa <= a2))) then (false) else (bif (a0.fHa == 0) then ((a0.fYa == 0)) else (((decide (a0.fHa >= a0.fRa)) && ((a0.fYa == 0) || (decide (a0.fYa >= a0.fHa)))))))
theorem pr_hist_one (a0:aE) (a1:aF) (a2:Int) {K:Bool->Hp->Prop} {h:Hp} (k:K (eX a0 a1 a2) h):sh_hist_one a0 a1 a2 K h:=(kP (K:=K) (fun k=>k) (kP (K:=K) (fun k=>k) (fun k=>k))) k
theorem ct_hist_one (a0:aE) (a1:aF) (a2:Int) (h:Hp):Ct prog n_hist_one #[(.agg (aE.C a0).toArray),(.agg (aF.C a1).toArray),(.int .i64 a2)] h fun v h'=>∃ r,v = aB r/\(r = eX a0 a1 a2/\h' = h):=sim_hist_one a0 a1 a2 (pr_hist_one a0 a1 a2 ⟨rfl,rfl⟩)
def wt (a0:aE) (K:Bool->Hp->Prop):Hp->Prop:=K (decide (a0.fHa > 0))
theorem sim_hist_Order_c1 (a0:aE) {K:Bool->Hp->Prop} {h:Hp} (H:wt a0 K h):cl prog nN [(.agg (aE.C a0).toArray)] aB K h:=z_i func46 p p fun _=>O<|aa<|cU (l:=aE.C a0) p p p fun b1=>U p<|O<|J (ae jw p)<|bk (bh (k:=0) ba p p p) p<|J (oR p p)<|U p<|aj<|Z ⟨decide (a0.fHa > 0),p,H⟩
def wD (a0:aE):Bool:=((decide (a0.fHa > 0)))
theorem pr_hist_Order_c1 (a0:aE) {K:Bool->Hp->Prop} {h:Hp} (k:K (wD a0) h):wt a0 K h:=(fun k=>k) k
theorem wT (a0:aE) (h:Hp):Ct prog nN #[(.agg (aE.C a0).toArray)] h fun v h'=>∃ r,v = aB r/\(r = wD a0/\h' = h):=sim_hist_Order_c1 a0 (pr_hist_Order_c1 a0 ⟨rfl,rfl⟩)
def wu (a0:Int) (K:Bool->Hp->Prop):Hp->Prop:=K (a0 != a0)
theorem sim_cmp_isNaN_int (a0:Int) {K:Bool->Hp->Prop} {h:Hp} (H:wu a0 K h):cl prog n_cmp_isNaN_int [(.int .i64 a0)] aB K h:=z_i func95 p p fun _=>O<|U p<|O<|M p<|M p<|J (oS p p)<|U p<|aj<|Z ⟨(a0 != a0),p,H⟩
def eO (a0:Int):Bool:=((a0 != a0))
theorem pr_cmp_isNaN_int (a0:Int) {K:Bool->Hp->Prop} {h:Hp} (k:K (eO a0) h):wu a0 K h:=(fun k=>k) k
theorem wU (a0:Int) (h:Hp):Ct prog n_cmp_isNaN_int #[(.int .i64 a0)] h fun v h'=>∃ r,v = aB r/\(r = eO a0/\h' = h):=sim_cmp_isNaN_int a0 (pr_cmp_isNaN_int a0 ⟨rfl,rfl⟩)
def tB (a0:Int) (a1:Int) (K:Int->Hp->Prop):Hp->Prop:=br (eO a0) ( br (eO a1) ( K 0) ( K (-1))) ( br (eO a1) ( K 1) ( br (decide (a0 < a1)) ( K (-1)) ( br (decide (a0 > a1)) ( K 1) ( K 0))))
theorem sim_cmp_Compare_int (a0:Int) (a1:Int) {K:Int->Hp->Prop} {h:Hp} (H:tB a0 a1 K h):cl prog vg [(.int .i64 a0),(.int .i64 a1)] eE K h:=z_i func49 p p fun _=>O<|U p<|O<|M p<|aa<|cT (vs:=[(.int .i64 a0)]) (bA<|wU a0 _) en_95 p p<|U p<|O<|M p<|aa<|cT (vs:=[(.int .i64 a1)]) (bA<|wU a1 _) en_95 p p<|U p<|al<|O<|M p<|ad<|aw p H (fun k1 H2=>al<|O<|M p<|ad<|aw p H2 (fun k3 H4=>O<|U p<|aj<|Z ⟨0,p,H4⟩) fun k3 H4=>an<|O<|U p<|aj<|Z ⟨(-1),p,H4⟩) fun k1 H2=>an<|al<|O<|M p<|ad<|aw p H2 (fun k5 H6=>O<|U p<|aj<|Z ⟨1,p,H6⟩) fun k5 H6=>an<|al<|O<|M p<|M p<|J (ci p p)<|ad<|aw p H6 (fun k7 H8=>O<|U p<|aj<|Z ⟨(-1),p,H8⟩) fun k7 H8=>an<|al<|O<|M p<|M p<|J (oR p p)<|ad<|aw p H8 (fun k9 H10=>O<|U p<|aj<|Z ⟨1,p,H10⟩) fun k9 H10=>an<|O<|U p<|aj<|Z ⟨0,p,H10⟩
def gi (a0:Int) (a1:Int):Int:=(bif (eO a0) then (bif (eO a1) then (0) else ((-1))) else (bif (eO a1) then (1) else (bif (decide (a0 < a1)) then ((-1)) else (bif (decide (a0 > a1)) then (1) else (0)))))
theorem pr_cmp_Compare_int (a0:Int) (a1:Int) {K:Int->Hp->Prop} {h:Hp} (k:K (gi a0 a1) h):tB a0 a1 K h:=(kP (K:=K) (kP (K:=K) (fun k=>k) (fun k=>k)) (kP (K:=K) (fun k=>k) (kP (K:=K) (fun k=>k) (kP (K:=K) (fun k=>k) (fun k=>k))))) k
theorem ct_cmp_Compare_int (a0:Int) (a1:Int) (h:Hp):Ct prog vg #[(.int .i64 a0),(.int .i64 a1)] h fun v h'=>∃ r,v = eE r/\(r = gi a0 a1/\h' = h):=sim_cmp_Compare_int a0 a1 (pr_cmp_Compare_int a0 a1 ⟨rfl,rfl⟩)
def sh_judge_user (a0:aE) (K:Bool->Hp->Prop):Hp->Prop:=K (bG ((ay a0.fIa).1))
theorem sim_judge_user (a0:aE) {K:Bool->Hp->Prop} {h:Hp} (H:sh_judge_user a0 K h):cl prog n_judge_user [(.agg (aE.C a0).toArray)] aB K h:=z_i func81 p p fun _=>O<|aa<|cU (l:=aE.C a0) p p p fun b1=>U p<|O<|J (ae mq p)<|bk (bD (k:=0) eY p p p p) p<|aa<|cT (vs:=[(.agg (ah.C a0.fIa).toArray)]) (bA<|kO a0.fIa _) en_27 p p<|M p<|J (ak p p)<|J (ak p p)<|J (au p)<|U p<|O<|M p<|aa<|cT (vs:=[(.int .i64 ((ay a0.fIa).1))]) (bA<|sW (ay a0.fIa).1 _) en_28 p p<|U p<|aj<|Z ⟨bG (ay a0.fIa).1,p,H⟩
def fM (a0:aE):Bool:=((bG ((ay a0.fIa).1)))
theorem pr_judge_user (a0:aE) {K:Bool->Hp->Prop} {h:Hp} (k:K (fM a0) h):sh_judge_user a0 K h:=(fun k=>k) k
theorem ct_judge_user (a0:aE) (h:Hp):Ct prog n_judge_user #[(.agg (aE.C a0).toArray)] h fun v h'=>∃ r,v = aB r/\(r = fM a0/\h' = h):=sim_judge_user a0 (pr_judge_user a0 ⟨rfl,rfl⟩)
end
end Go.Proofs.YtemoifebbhoinabGreatDoor
