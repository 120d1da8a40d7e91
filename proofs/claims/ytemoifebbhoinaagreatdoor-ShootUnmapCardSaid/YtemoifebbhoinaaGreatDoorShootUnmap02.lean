/- Part of the proof of: The law ShootUnmap returns true for every input, and leaves its arguments as they were. -/
import Derived.Test.YtemoifebbhoinaaGreatDoorShootUnmap01
set_option linter.all false
set_option maxRecDepth 20000
namespace Go.Proofs.YtemoifebbhoinaaGreatDoor
open Go.Proofs.Tryz
open Go.IntKind (i64 u64)
open _root_.List (replicate)
open _root_.Option (map_some)
section
open Go
namespace Mb
section
variable {l:List As} {h:Hp}
theorem get_nat' {α:Type} {xs:List α} {i:Nat} (h:i < xs.length):xs[i]? = some xs[i]:=List.getElem?_eq_some_iff.2 ⟨h,rfl⟩
def ex {α:Type} (A:α->As):As:=fun h=>∃ x,A x h
theorem op_ {α:Type} {φ:α->Prop} {m:α->List As} (s:az ((fun h=>∃ x,φ x/\az (m x) h)::l) h):∃ x,φ x/\az (m x++l) h:=by
 obtain ⟨h1,h2,d,e,⟨x,f,s1⟩,s2⟩:=s;exact ⟨x,f,fu.2 ⟨h1,h2,d,e,s1,s2⟩⟩
theorem cl_ {α:Type} {φ:α->Prop} {m:α->List As} (x:α) (f:φ x) (s:az (m x++l) h):az ((fun h=>∃ x,φ x/\az (m x) h)::l) h:=by
 obtain ⟨h1,h2,d,e,s1,s2⟩:=fu.1 s;exact ⟨h1,h2,d,e,⟨x,f,s1⟩,s2⟩
theorem star_cons {A:As} (a:∀ h,A h) (s:az l h):az (A::l) h:=⟨emp,h,Dj.emp_left _,rfl,a _,s⟩
theorem fJ {τ:Type} {T m:Nat} {enc:τ->List Value} (s:az l h):az (vec T m enc (⟨none,0,0,none⟩:Sl) []::l) h :=
 star_cons (fun _=>⟨rfl,Nat.le_refl _,.inl rfl⟩) s
theorem dE {m:List As} (s:az (az m::l) h):az (m++l) h:=by
 obtain ⟨h1,h2,d,e,a,s'⟩:=s;exact fu.2 ⟨h1,h2,d,e,a,s'⟩
theorem wk {A:As} {m:List As} (s:az (A::l) h) (hm:∀ h,az l h->az m h):az (A::m) h:=by
 obtain ⟨h1,h2,d,e,a,s'⟩:=s;exact ⟨h1,h2,d,e,a,hm _ s'⟩
theorem aY {φ:Prop} {m:List As} (f:φ) (s:az m h):pa_ φ m h:=⟨f,s⟩
end
theorem vec_set_row {τ:Type} {T m i:Nat} {enc:τ->List Value} {s:Sl} {xs ys:List τ} {l:List As} {h:Hp} {K:Hp->Prop} {P:Program} (he:∀ x,(enc x).length = m) (ho:∀ x,dL (enc x) = true) (hlen:ys.length = xs.length) (st:az l h) (hi:l[i]? = some (vec T m enc s xs)) {q:Nat × Nat} (hq:s.a = some q)
  (k:∀ h',az (l.set i (vec T m enc s ys)) h'->K h'):hp P (storeCells ⟨q.1,q.2,none⟩ (ys.flatMap enc)) (fun _ h=>K h) h:=by
 obtain ⟨g1,g2,d,rfl,⟨e1,e2,e3⟩,s'⟩:=gP hi st;rcases e3 with h4 | ⟨b,pre,rest,U,fr,h4,h5,hg,h6⟩
 ·have hny:ys = []:=List.eq_nil_of_length_eq_zero (by omega);have hnx:xs = []:=List.eq_nil_of_length_eq_zero (by omega);subst hny; subst hnx;exact k _ (eW (List.getElem?_eq_some_iff.1 hi).1 ⟨g1,g2,d,rfl,⟨e1,e2,.inl h4⟩,s'⟩)
 ·rw [h4] at hq; cases hq;have hfx:=eI he xs;have hfy:=eI he ys;have hoy:dL (ys.flatMap enc) = true:=by
   unfold dL;rw [List.all_flatMap,List.all_eq_true];exact fun x _=>ho x
  have ew:wr (pre++(xs.flatMap enc++rest)) (pre.length + 0) (ys.flatMap enc) = pre++(ys.flatMap enc++rest):=by
   rw [ri,wr_left _ _ _ _ (by rw [hfx,hfy,hlen,Nat.zero_add]; exact Nat.le_refl _),wr_all (by rw [hfx,hfy,hlen])]
  have hcap:s.len * m <= s.cap * m:=Nat.mul_le_mul_right m e2;have hlm:s.len * m = xs.length * m:=by rw [e1]
  refine mq (T:=U) (fr:=fr) (ys.flatMap enc) 0 pre.length (pre++(xs.flatMap enc++rest)) _ (un_left h6) (fun j j1 j2=>gh_nf hg j (by omega) (by rw [hfy,hlen] at j2; omega)) (by simp [hfx,hfy,hlen]) hoy ?_;rw [ew];obtain ⟨d',e'⟩:=set_dj (o':=.cells (pre++(ys.flatMap enc++rest)).toArray U fr) d h6;rw [e'];exact k _ (eW (List.getElem?_eq_some_iff.1 hi).1 ⟨_,g2,d',rfl,⟨by rw [e1,hlen],e2,.inr ⟨b,pre,rest,U,fr,h4,h5,hg,ki _ _ _⟩⟩,s'⟩)
def encU (_:Unit):Value:=.tuple #[]
theorem clear_v {τ:Type} {S T m bys i R:Nat} {z:List Value} {enc:τ->List Value} {x0:τ} {s:Sl} {xs:List τ} {l:List As} {h:Hp} {K:Unit->Hp->Prop} {P:Program} (E:El P S T m bys z) (hz:enc x0 = z) (he:∀ x,(enc x).length = m) (ho:∀ x,dL (enc x) = true) (st:az l h) (hi:l[i]? = some (vec T m enc s xs))
  (k:∀ h',az (l.set i (vec T m enc s (replicate xs.length x0))) h'->K () h'):hpv P (Builtin.clear_ #[S] R #[sv s]) encU K h:=by
 refine ⟨?_⟩;obtain ⟨_,es,_⟩:=eF hi st;have hilt:=(List.getElem?_eq_some_iff.1 hi).1;unfold Builtin.clear_;simp only [List.getElem?_toArray,List.getElem?_cons_zero];refine cA (dw E.sl ?_);have same:xs = []->az (l.set i (vec T m enc s (replicate xs.length x0))) h:=by
  intro e;subst e;have:l.set i (vec T m enc s (replicate ([]:List τ).length x0)) = l:=by
   apply List.ext_getElem?;intro n;rw [List.getElem?_set];by_cases e:i = n
   ·subst e; rw [hi]; simp [hilt]
   ·simp [e]
  rw [this]; exact st
 cases ha:s.a with
 | none =>
  have hnil:xs = []:=by
   obtain ⟨e1,e2,e3⟩:=es;rcases e3 with e3 | ⟨b,pre,rest,U,fr,h4,_⟩
   ·exact List.eq_nil_of_length_eq_zero (by omega)
   ·rw [h4] at ha; cases ha
  simp only [sv,ha,pa];exact ⟨(),rfl,k h (same hnil)⟩
 | some q =>
  simp only [sv,ha,pa];cases hn:s.len with
  | zero =>
   have hnil:xs = []:=List.eq_nil_of_length_eq_zero (by rw [← es.1]; exact hn);exact ⟨(),rfl,k h (same hnil)⟩
  | succ n =>
   obtain ⟨inf,hinf,h1,h2,h3⟩:=E.inf;cases hzv:inf.zero with
   | none=>rw [hzv] at h3; cases h3
   | some zv =>
    rw [hzv] at h3;simp only [map_some,Option.some.injEq] at h3;refine cA (sX hinf hzv ?_);refine cA ?_;have hzc:zv.cells = z.toArray:=by rw [← h3]
    have hrow:(Builtin.zeroCells zv.cells (n + 1)).toList = (replicate xs.length x0).flatMap enc:=by
     rw [hzc]; unfold Builtin.zeroCells;have:=rep_flat z (n + 1);simp only [List.size_toArray] at this ⊢;rw [this,← hz,rep_flat_map,← es.1,hn]
    rw [hrow];refine vec_set_row (K:=fun h'=>∃ r,Value.tuple #[] = encU r/\K r h') he ho (by simp) st hi ha fun h' s'=>?_;exact ⟨(),rfl,k h' s'⟩
theorem oneI (k:IntKind) (x:Int):dL (cI k x) = true:=rfl
theorem oneS (x:Sl):dL (cS x) = true:=rfl
section
variable {τ:Type} {m:Nat} {enc:τ->List Value} {l:List As} {h:Hp}
theorem ld_a {σ:Type} {T j i k:Nat} {b:Nat} {pre rest:List Value} {xs:List τ} {enc':σ->List Value} {K:σ->Hp->Prop} {off:Nat} (y:σ) (he:∀ x,(enc x).length = m) (st:az l h) (hj:l[j]? = some (blk b T (pre++(xs.flatMap enc++rest)))) (hoff:off = pre.length + i * m + k)
  {x:τ} (hx:xs[i]? = some x) (hy:∀ n v,(enc' y)[n]? = some v->(enc x)[k + n]? = some v) (kk:K y h):ld (b,off) enc' K h:=by
 refine ld_s y st hj (fun n v hn=>?_) kk;have:=ug he xs i (k + n) x v hx (hy n v hn);have hlt:=(List.getElem?_eq_some_iff.1 this).1;rw [hoff,List.getElem?_append_right (by omega),show pre.length + i * m + k + n - pre.length = i * m + (k + n) from by omega,List.getElem?_append_left hlt];exact this
theorem st_a {T j i k:Nat} {b:Nat} {pre rest:List Value} {xs:List τ} {vs:List Value} {K:Hp->Prop} {off:Nat} (y:τ) (he:∀ x,(enc x).length = m) (s0:az l h) (hj:l[j]? = some (blk b T (pre++(xs.flatMap enc++rest)))) (hoff:off = pre.length + i * m + k)
  {x:τ} (hx:xs[i]? = some x) (hlen:k + vs.length <= m) (hy:enc y = wr (enc x) k vs) (kk:∀ h',az (l.set j (blk b T (pre++((xs.set i y).flatMap enc++rest)))) h'->K h'):st (b,off) vs K h:=by
 have hi:=(List.getElem?_eq_some_iff.1 hx).1;have hfl:=eI he xs;have hm:(i + 1) * m <= xs.length * m:=Nat.mul_le_mul_right m hi;rw [Nat.succ_mul] at hm;refine vD s0 hj (by simp [hoff,hfl]; omega) fun h' s'=>kk h' ?_;have ew:wr (pre++(xs.flatMap enc++rest)) off vs = pre++((xs.set i y).flatMap enc++rest):=by
  rw [hoff,Nat.add_assoc,ri,wr_left _ _ _ _ (by rw [hfl]; omega),flat_wr he xs i k x y vs hx hlen hy]
 rw [ew] at s';exact s'
end
section
variable {P:Program} {l:List As} {h:Hp}
theorem hp_isAgg_ag {T n:Nat} (t:Ag P T n) {K:Bool->Hp->Prop} (k:K true h):hp P (isAgg T) K h:=by
 obtain ⟨D,h1,h2⟩:=t.und;unfold isAgg;refine cA (dw h1 ?_);cases D <;> first | exact k | cases h2
theorem ua {kd:IntKind} {n:Int} {K:IntKind × Int->Hp->Prop} (k:K (kd,n) h):hp P (asIntOf (.int kd n)) K h:=k
theorem loadAt_v {τ:Type} {T n b off:Nat} {cs:List Value} {enc:τ->Value} {r:τ} {K:τ->Hp->Prop} (t:Ag P T n) (hc:rX h (b,off) cs) (hn:cs.length = n) (hr:enc r = .agg cs.toArray) (k:K r h):hpv P (Instr.loadAt T (.pointer (some ⟨b,off,none⟩))) enc K h:=by
 refine ⟨?_⟩;obtain ⟨inf,h1,h2⟩:=t.inf;show hp P (loadVar T ⟨b,off,none⟩) _ h;unfold loadVar;refine cA (hp_isAgg_ag t ?_);refine hp_yes rfl ?_;refine cA (oN h1 ?_);rw [h2];refine cA (hp_loadCells hc hn ?_);exact ⟨r,hr.symm,k⟩
theorem index_v {τ:Type} {S T len m i:Nat} {enc:τ->List Value} {val:τ->Value} {xs:List τ} {x:τ} {K:τ->Hp->Prop} (hS:P.underlying S = some (.array len T)) (t:Ag P T m) (he:∀ x,(enc x).length = m) (hv:∀ x,val x = .agg (enc x).toArray) (hl:xs.length = len) (hx:xs[i]? = some x) (k:K x h) :
  hpv P (Instr.index S (.agg (xs.flatMap enc).toArray) (.int .i64 i)) val K h:=by
 refine ⟨?_⟩;have hi:=(List.getElem?_eq_some_iff.1 hx).1;obtain ⟨inf,h1,h2⟩:=t.inf;unfold Instr.index;refine cA (ua ?_);refine cA (dw hS ?_);refine hp_yes ⟨by omega,by omega⟩ ?_;refine cA (oN h1 ?_);unfold part;refine cA (hp_isAgg_ag t ?_);refine cA (oN h1 ?_);refine ⟨x,?_,k⟩;rw [hv,h2];have:(xs.flatMap enc).toArray.extract ((i:Int).toNat * m) ((i:Int).toNat * m + m) = (enc x).toArray:=by
  apply Array.ext';rw [Array.toList_extract];simp only [Int.toNat_natCast,List.extract];rw [Nat.add_sub_cancel_left];apply List.ext_getElem?;intro n;rw [List.getElem?_take,List.getElem?_drop];by_cases hn:n < m
  ·rw [if_pos hn];have hlt:n < (enc x).length:=by rw [he]; exact hn
   rw [ug he xs i n x _ hx (get_nat' hlt)];exact (get_nat' hlt).symm
  ·rw [if_neg hn];exact (List.getElem?_eq_none (by rw [he]; omega)).symm
 rw [this]
end
theorem sliceFrom_v {τ:Type} {P:Program} {l:List As} {h:Hp} {S T m bys i:Nat} {z:List Value} {enc:τ->List Value} {R:Sl->Value} {s:Sl} {xs:List τ} {n:Nat} {K:Sl->Hp->Prop} (E:El P S T m bys z) (he:∀ x,(enc x).length = m) (hR:R = sv) (st:az l h) (hi:l[i]? = some (vec T m enc s xs)) (hn:n <= xs.length)
  (k:∀ v,az (l.set i (vec T m enc v (xs.drop n))) h->K v h):hpv P (Instr.sliceAt S (sv s) (some (.int .i64 n)) none none) R K h:=by
 subst hR;refine ⟨?_⟩;have hilt:=(List.getElem?_eq_some_iff.1 hi).1;obtain ⟨g1,g2,d,rfl,⟨e1,e2,e3⟩,s'⟩:=gP hi st;obtain ⟨inf,hinf,h1,h2,h3⟩:=E.inf;unfold Instr.sliceAt;refine cA (dw E.sl ?_);show hp P (Instr.slice S (sv s) _ _ _) _ _;unfold Instr.slice;refine cA (dw E.sl ?_);simp only [sv];refine cA ?_;unfold Instr.sliceBounds;refine cA ?_;refine cA ?_;refine cA ?_;unfold Instr.sliceBound;refine cA (ua ?_);refine hp_yes ⟨by omega,by omega⟩ ?_;refine cA (oN hinf ?_);rw [h1];rcases e3 with h5 | ⟨b,pre,rest,U,fr,h4,h5,hg,h6⟩
 ·have hn0:n = 0:=by omega
  subst hn0;refine ⟨s,?_,k s ?_⟩
  ·simp [sv,h5]
  ·exact eW hilt ⟨g1,g2,d,rfl,⟨by simpa using e1,e2,.inl h5⟩,s'⟩
 ·by_cases hc:s.cap = n
  ·have hx:xs.drop n = []:=by apply List.drop_eq_nil_of_le; omega
   refine ⟨⟨s.a,s.len - n,s.cap - n,none⟩,?_,k _ (eW hilt ⟨g1,g2,d,rfl,⟨?_,by show s.len - n <= s.cap - n; omega,.inl (by show s.cap - n = 0; omega)⟩,s'⟩)⟩
   ·rw [if_pos (by simpa using hc)]; simp [sv]
   ·show s.len - n = _; rw [hx]; simp; omega
  ·refine ⟨⟨some (b,pre.length + n * m),s.len - n,s.cap - n,s.g.map fun _=>(pre++(xs.take n).flatMap enc,rest,U,fr)⟩,?_,k _ (eW hilt ⟨g1,g2,d,rfl,⟨?_,by show s.len - n <= s.cap - n; omega,.inr ⟨b,pre++(xs.take n).flatMap enc,rest,U,fr,?_,?_,?_,?_⟩⟩,s'⟩)⟩
   ·rw [if_neg (by simpa using hc)]; simp [sv,h4,pa,add_plain]
   ·show s.len - n = _; simp; omega
   ·show some (b,pre.length + n * m) = _;rw [List.length_append,eI he]; simp; rw [Nat.min_eq_left hn]
   ·show (s.cap - n) * m <= (s.len - n) * m + rest.length;rw [Nat.sub_mul,Nat.sub_mul];have:n * m <= s.len * m:=Nat.mul_le_mul_right m (by omega);omega
   ·have hpl:(pre++(xs.take n).flatMap enc).length = pre.length + n * m:=by rw [List.length_append,eI he]; simp; rw [Nat.min_eq_left hn]
    unfold gh at hg ⊢;cases hsg:s.g with
    | none=>rw [hsg] at hg; exact hg
    | some x =>
     rw [hsg] at hg;refine ⟨rfl,fun j j1 j2=>hg.2 j (by rw [hpl] at j1; omega) ?_⟩;rw [hpl] at j2;have j2':j < pre.length + n * m + (s.cap - n) * m:=j2;have hnc:n <= s.cap:=by omega
     have:n * m + (s.cap - n) * m = s.cap * m:=by rw [← Nat.add_mul]; congr 1; omega
     omega
   ·have:pre++(xs.take n).flatMap enc++((xs.drop n).flatMap enc++rest) = pre++(xs.flatMap enc++rest):=by
     rw [List.append_assoc,← List.append_assoc ((xs.take n).flatMap enc),← List.flatMap_append,List.take_append_drop]
    rw [this]; exact h6
theorem lj {τ:Type} {P:Program} {l:List As} {h:Hp} {S T m bys i:Nat} {z:List Value} {enc:τ->List Value} {val:τ->Value} {R R':Sl->Value} {s:Sl} {xs:List τ} {x:τ} {K:Sl->Hp->Prop} {Q:Nat} (E:El P S T m bys z) (he:∀ x,(enc x).length = m) (ho:∀ x,dL (enc x) = true) (hv:∀ x,(val x).cells.toList = enc x)
  (hm:m <= 2 ^ 24) (hR:R = sv) (hR':R' = sv) (st:az l h) (hi:l[i]? = some (vec T m enc s xs)) (hb:(2 * (xs.length + 1) + 512) * bys <= 2 ^ 48) (hb2:xs.length < 2 ^ 60)
  (k:∀ v h',az (l.set i (vec T m enc v (xs++[x]))) h'->K v h'):hpv P (Instr.buildSlice S 1 #[(0,val x)]) R (fun y=>hpv P (Builtin.append_ #[S,S] Q #[sv s,sv y]) R' K) h:=by
 subst hR; subst hR';refine fe [x] (val:=val) (enc:=enc) E he hv st rfl rfl (by simpa using hm) fun y h' s1=>?_;refine ur (i:=i + 1) (j:=0) (enc:=enc) (ys:=[x]) E E.sl he ho s1 (by simpa using hi) rfl (by omega) (by simpa using hb) (by simp; omega) fun v h2 s2=>?_;exact k v h2 (bX (l:=[vec T m enc y [x]]) (by simpa using s2))
theorem c1 {c d:List Value} {u:Value} {k:Nat} (h1:d = [u]) (h2:c[k]? = some u):∀ (n:Nat) (v:Value),d[n]? = some v->c[k + n]? = some v:=by
 intro n v hv;subst h1;cases n with
 | zero=>simp at hv; subst hv; exact h2
 | succ n=>simp at hv
theorem aC {α:Type} {xs:List α} {i:Nat} (h:i < xs.length):xs[i]? = some xs[i]:=List.getElem?_eq_some_iff.2 ⟨h,rfl⟩
theorem cn (k:IntKind) (x:Int):(cI k x).length = 1:=rfl
end Mb
end
section
open Go
namespace Mb
structure Mp (P:Program) (S K E:TypeId) (z:Value):Prop where
 mp:P.underlying S = some (.map K E)
 key:∃ kd,P.underlying K = some (.int kd)
 inf:∃ i,P.info? E = some i/\i.zero = some z
section
variable {τ:Type}
def fi (x:Int):List (Int × τ)->Nat->Option (Nat × τ)
 | [],_=>none
 | p::m,i=>if x = p.1 then some (i,p.2) else fi x m (i + 1)
def ents (val:τ->Value) (es:List MapEntry) (m:List (Int × τ)):Prop:=es.map (fun e=>(e.key,e.val)) = m.map (fun p=>(Value.int .i64 p.1,val p.2))
def mapA (b:Nat) (val:τ->Value) (f:Int->Option τ):As:=fun h=>∃ (es:List MapEntry) (m:List (Int × τ)) (clock:Nat),h b = some (.map es.toArray clock)/\ents val es m/\∀ x,(fi x m 0).map (·.2) = f x
theorem xc (x:Int):∀ (m:List (Int × τ)) (i:Nat),fi x m i = (fi x m 0).map (fun r=>(r.1 + i,r.2))
 | [],_=>rfl
 | p::m,i=>by
  unfold fi;split
  ·simp
  ·rw [xc x m (i + 1),xc x m (0 + 1)];cases fi x m 0 with
   | none=>rfl
   | some r=>simp; omega
theorem fi_v (x:Int) (m:List (Int × τ)) (i:Nat):(fi x m i).map (·.2) = (fi x m 0).map (·.2):=by
 rw [xc x m i]; cases fi x m 0 <;> rfl
theorem find_now {val:τ->Value} {kd:IntKind} (x:Int):∀ {es:List MapEntry} {m:List (Int × τ)} (i:Nat),ents val es m->Instr.findNow (.int kd) (.int .i64 x) es i = some ((fi x m i).map fun r=>(r.1,val r.2))
 | [],[],_,_=>rfl
 | [],_::_,_,h=>by simp [ents] at h
 | _::_,[],_,h=>by simp [ents] at h
 | e::es,p::m,i,h=>by
  simp only [ents,List.map_cons,List.cons.injEq,Prod.mk.injEq] at h;obtain ⟨⟨h1,h2⟩,h3⟩:=h;unfold Instr.findNow fi;rw [h1,h2];by_cases hx:x = p.1
  ·subst hx; simp [Instr.sameNow]
  ·have:(x == p.1) = false:=by simpa using hx
   simp only [Instr.sameNow,this,if_true,if_neg hx];exact find_now x (i + 1) h3
theorem fi_get {x:Int} {v:τ} {i:Nat}:∀ {m:List (Int × τ)},fi x m 0 = some (i,v)->m[i]? = some (x,v)
 | [],h=>by cases h
 | p::m,h=>by
  unfold fi at h;split at h
  ·rename_i hx;cases h; subst hx; rfl
  ·rw [xc] at h;cases hm:fi x m 0 with
   | none=>rw [hm] at h; cases h
   | some r =>
    rw [hm] at h;simp only [map_some,Option.some.injEq,Prod.mk.injEq] at h;obtain ⟨h1,h2⟩:=h;subst h2; subst h1;simp only [List.getElem?_cons_succ];exact fi_get (m:=m) (by rw [hm])
theorem fi_set {x y:Int} {v w:τ} {i:Nat}:∀ {m:List (Int × τ)},fi x m 0 = some (i,v)->(fi y (m.set i (x,w)) 0).map (·.2) = if y = x then some w else (fi y m 0).map (·.2)
 | [],h=>by cases h
 | p::m,h=>by
  unfold fi at h;split at h
  ·rename_i hx;cases h; subst hx;simp only [List.set_cons_zero,fi];by_cases hy:y = p.1
   ·simp [hy]
   ·simp [hy]
  ·rename_i hx;rw [xc] at h;cases hm:fi x m 0 with
   | none=>rw [hm] at h; cases h
   | some r =>
    rw [hm] at h;simp only [map_some,Option.some.injEq,Prod.mk.injEq] at h;obtain ⟨h1,h2⟩:=h;subst h2; subst h1;have ih:=fi_set (x:=x) (y:=y) (v:=r.2) (w:=w) (i:=r.1) (m:=m) (by rw [hm]);simp only [List.set_cons_succ,fi];by_cases hy:y = p.1
    ·have:y ≠ x:=fun e=>hx (e.symm.trans hy);simp [hy];intro e; exact absurd e.symm hx
    ·rw [if_neg hy,if_neg hy,fi_v y _ (0 + 1),fi_v y m (0 + 1)];exact ih
theorem fi_push {x y:Int} {w:τ}:∀ {m:List (Int × τ)},fi x m 0 = none->(fi y (m++[(x,w)]) 0).map (·.2) = if y = x then some w else (fi y m 0).map (·.2)
 | [],_=>by
  simp only [List.nil_append,fi];by_cases hy:y = x <;> simp [hy]
 | p::m,h=>by
  unfold fi at h;split at h
  ·cases h
  ·rename_i hx;rw [xc] at h;have hm:fi x m 0 = none:=by
    cases hm:fi x m 0 with
    | none=>rfl
    | some r=>rw [hm] at h; cases h
   have ih:=fi_push (y:=y) (w:=w) hm;simp only [List.cons_append,fi];by_cases hy:y = p.1
   ·have:¬ y = x:=fun e=>hx (e.symm.trans hy);simp [hy];intro e; exact absurd e.symm hx
   ·rw [if_neg hy,if_neg hy,fi_v y _ (0 + 1),fi_v y m (0 + 1)];exact ih
theorem ents_set {val:τ->Value} {x:Int} {w:τ} {i:Nat} {es:List MapEntry} {m:List (Int × τ)} (h:ents val es m) (g:MapEntry->MapEntry) (hg:∀ e,es[i]? = some e->(g e).key = .int .i64 x/\(g e).val = val w):ents val (es.toArray.modify i g).toList (m.set i (x,w)):=by
 unfold ents at h ⊢;apply List.ext_getElem?;intro j;have hj:(es.map (fun e=>(e.key,e.val)))[j]? = (m.map (fun p=>(Value.int .i64 p.1,val p.2)))[j]?:=by rw [h]
 simp only [List.getElem?_map] at hj ⊢;rw [Array.getElem?_toList,Array.getElem?_modify,List.getElem?_set,List.getElem?_toArray];by_cases hij:i = j
 ·subst hij;rw [if_pos rfl];cases he:es[i]? with
  | none =>
   rw [he] at hj;have:m[i]? = none:=by cases hm:m[i]? with
    | none=>rfl
    | some p=>rw [hm] at hj; cases hj
   have hlt:¬ i < m.length:=by intro hlt; rw [List.getElem?_eq_getElem hlt] at this; cases this
   simp [hlt]
  | some e =>
   rw [he] at hj;have hlt:i < m.length:=by
    cases hm:m[i]? with
    | none=>rw [hm] at hj; cases hj
    | some p=>exact (List.getElem?_eq_some_iff.1 hm).1
   obtain ⟨g1,g2⟩:=hg e he;simp [hlt,g1,g2]
 ·rw [if_neg hij,if_neg hij]; exact hj
theorem ents_push {val:τ->Value} {x:Int} {w:τ} {es:List MapEntry} {m:List (Int × τ)} {c:Nat} (h:ents val es m):ents val (es.toArray.push { key:=.int .i64 x,val:=val w,born:=c }).toList (m++[(x,w)]):=by
 unfold ents at h ⊢;simp [h]
end
section
variable {P:Program} {l:List As} {h:Hp} {τ:Type} {S K E:TypeId} {z:Value} {val:τ->Value}
theorem hp_checkKey {kd k:IntKind} {b:Bool} {x:Int} {Q:Unit->Hp->Prop} (e:P.underlying K = some (.int kd)) (q:Q () h):hp P (Instr.checkKey b 10000 K (.int k x)) Q h:=by
 unfold Instr.checkKey;refine cA (dw e ?_);exact q
theorem hp_findKey {kd:IntKind} {x:Int} {es:List MapEntry} {m:List (Int × τ)} {Q:Option (Nat × Value)->Hp->Prop} (e:P.underlying K = some (.int kd)) (he:ents val es m) (q:Q ((fi x m 0).map fun r=>(r.1,val r.2)) h):hp P (Instr.findKey K (.int .i64 x) es) Q h:=by
 unfold Instr.findKey;refine cA (dw e ?_);rw [find_now x 0 he];exact q
theorem hp_getObj {b:Nat} {o:Obj} {Q:Obj->Hp->Prop} (e:h b = some o) (hc:yf o = false) (q:Q o h):hp P (getObj b) Q h:=⟨o,e,hc,q⟩
theorem makeMap_m {R:Option Nat->Value} {Q:Option Nat->Hp->Prop} (hR:R = fun r=>.map r) (st:az l h) (k:∀ b h',az (mapA b val (fun _=>none)::l) h'->Q (some b) h'):hpv P (Instr.makeMap S none) R Q h:=by
 subst hR;refine ⟨?_⟩;unfold Instr.makeMap;refine cA ?_;refine ⟨rfl,fun b hb=>⟨some b,rfl,k b _ ?_⟩⟩;obtain ⟨h1,h2,d,e,a,s⟩:=new_s (o:=.map #[] 0) st hb;exact ⟨h1,h2,d,e,⟨[],[],0,a,rfl,fun x=>rfl⟩,s⟩
theorem lookup_m {σ:Type} {j b:Nat} {f:Int->Option τ} {x:Int} {ok:Bool} {R:σ->Value} {Q:σ->Hp->Prop} (M:Mp P S K E z) (st:az l h) (hj:l[j]? = some (mapA b val f)) (r:σ) (hr:(if ok then .tuple #[((f x).map val).getD z,.bool (f x).isSome] else ((f x).map val).getD z) = R r) (q:Q r h):hpv P (Instr.lookup S (.map (some b)) (.int .i64 x) ok) R Q h:=by
 refine ⟨?_⟩;obtain ⟨h1,⟨es,m,clock,a,he,hf⟩,sub⟩:=eF hj st;obtain ⟨kd,hk⟩:=M.key;obtain ⟨i,hi,hz⟩:=M.inf;unfold Instr.lookup;refine cA (dw M.mp ?_);refine cA (hp_getObj (sub _ _ a) rfl ?_);refine cA ?_;rw [hp_pure];refine cA (hp_checkKey hk ?_);refine cA (hp_findKey (val:=val) hk he ?_);have hfx:=hf x;cases hm:fi x m 0 with
 | none =>
  rw [hm] at hfx;rw [← hfx] at hr;refine cA (sX hi hz ?_);exact ⟨r,hr,q⟩
 | some p =>
  rw [hm] at hfx;rw [← hfx] at hr;refine cA ?_;exact ⟨r,hr,q⟩
theorem update_m {j b:Nat} {f:Int->Option τ} {x:Int} {w:τ} {v:Value} {Q:Hp->Prop} (M:Mp P S K E z) (st:az l h) (hj:l[j]? = some (mapA b val f)) (hv:v = val w) (k:∀ h',az (l.set j (mapA b val (fun y=>if y = x then some w else f y))) h'->Q h'):hpu P (Instr.mapUpdate S (.map (some b)) (.int .i64 x) v) Q h:=by
 subst hv;refine ⟨?_⟩;obtain ⟨h1,h2,d,rfl,⟨es,m,clock,a,he,hf⟩,s'⟩:=gP hj st;have hjl:=(List.getElem?_eq_some_iff.1 hj).1;obtain ⟨kd,hk⟩:=M.key;unfold Instr.mapUpdate;refine cA (dw M.mp ?_);refine cA (hp_getObj (un_left a) rfl ?_);refine cA (hp_checkKey hk ?_);refine cA (hp_findKey (val:=val) hk he ?_);cases hm:fi x m 0 with
 | none =>
  refine ⟨rfl,⟨_,un_left a,rfl⟩,?_⟩;obtain ⟨d',e'⟩:=set_dj (o':=.map (es.toArray.push { key:=.int .i64 x,val:=val w,born:=clock }) (clock + 1)) d a;rw [e'];refine k _ (eW hjl ⟨_,h2,d',rfl,⟨_,m++[(x,w)],clock + 1,?_,ents_push (c:=clock) he,fun y=>?_⟩,s'⟩)
  ·exact ki _ _ _
  ·rw [fi_push hm,hf]
 | some p =>
  obtain ⟨i,u⟩:=p;have hg:=fi_get hm;have hge:∃ e,es[i]? = some e/\e.key = .int .i64 x:=by
   have hi:(es.map (fun e=>(e.key,e.val)))[i]? = (m.map (fun p=>(Value.int .i64 p.1,val p.2)))[i]?:=by rw [he]
   simp only [List.getElem?_map,hg,map_some] at hi;cases hs:es[i]? with
   | none=>rw [hs] at hi; cases hi
   | some e=>rw [hs] at hi; simp at hi; exact ⟨e,rfl,hi.1⟩
  obtain ⟨e,hge,hkey⟩:=hge;refine cA ?_;have hks:Instr.keyThatStays (((es.toArray[i]?).map (·.key)).getD (.int .i64 x)) (.int .i64 x) = pure (.int .i64 x):=by
   unfold Instr.keyThatStays;have:((es.toArray[i]?).map (·.key)).getD (.int .i64 x) = .int .i64 x:=by simp [hge,hkey]
   rw [this];have sb:Instr.sameBits 10000 (.int .i64 x) (.int .i64 x) = true:=by unfold Instr.sameBits; simp
   rw [if_pos sb]
  simp only [map_some];rw [hks,hp_pure];refine ⟨rfl,⟨_,un_left a,rfl⟩,?_⟩;obtain ⟨d',e'⟩:=set_dj (o':=.map (es.toArray.modify i fun e=>{ e with key:=.int .i64 x,val:=val w }) clock) d a;rw [e'];refine k _ (eW hjl ⟨_,h2,d',rfl,⟨_,m.set i (x,w),clock,?_,ents_set (x:=x) (w:=w) he (fun e=>{ e with key:=.int .i64 x,val:=val w }) (fun e' _=>⟨rfl,rfl⟩),fun y=>?_⟩,s'⟩)
  ·exact ki _ _ _
  ·rw [fi_set hm,hf]
end
end Mb
end
section
open Go Mb
structure ai where
 e0:Int
 e1:Int
 e2:Int
 e3:Int
 e4:Int
def ai.C (x:ai):List Value:=[.int .u64 x.e0,.int .u64 x.e1,.int .u64 x.e2,.int .u64 x.e3,.int .u64 x.e4]
structure ab where
 fWa:Int
 fVal:Int
def ab.C (x:ab):List Value:=[.int .i64 x.fWa,.int .u64 x.fVal]
structure am where
 fCa:Int
 fOa:Int
 fEa:Int
 fBa:Int
def am.C (x:am):List Value:=[.int .i64 x.fCa,.int .i64 x.fOa,.int .i64 x.fEa,.int .i64 x.fBa]
structure aE where
 fQa:Int
 fCa:Int
 fKa:ai
 fRa:Int
 fHa:Int
 fXa:Int
 fZa:ab
 fTa:am
def aE.C (x:aE):List Value:=[.int .i64 x.fQa,.int .i64 x.fCa,.int .u64 x.fKa.e0,.int .u64 x.fKa.e1,.int .u64 x.fKa.e2,.int .u64 x.fKa.e3,.int .u64 x.fKa.e4,.int .i64 x.fRa,.int .i64 x.fHa,.int .i64 x.fXa,.int .i64 x.fZa.fWa,.int .u64 x.fZa.fVal,.int .i64 x.fTa.fCa,.int .i64 x.fTa.fOa,.int .i64 x.fTa.fEa,.int .i64 x.fTa.fBa]
structure mA where
 fat:Int
 fGa:Int
 fc:ai
 fPa:Bool
 fAb:Int
def mA.C (x:mA):List Value:=[.int .i64 x.fat,.int .i64 x.fGa,.int .u64 x.fc.e0,.int .u64 x.fc.e1,.int .u64 x.fc.e2,.int .u64 x.fc.e3,.int .u64 x.fc.e4,.bool x.fPa,.int .u64 x.fAb]
structure ao where
 fEa:Int
 fDa:Int
 fBa:Int
def ao.C (x:ao):List Value:=[.int .i64 x.fEa,.int .i64 x.fDa,.int .i64 x.fBa]
structure aA where
 fEa:Int
 fBa:Int
 fCa:Int
 fDa:Int
def aA.C (x:aA):List Value:=[.int .i64 x.fEa,.int .i64 x.fBa,.int .i64 x.fCa,.int .i64 x.fDa]
structure ct where
 fl:am
 fwhen:Int
def ct.C (x:ct):List Value:=[.int .i64 x.fl.fCa,.int .i64 x.fl.fOa,.int .i64 x.fl.fEa,.int .i64 x.fl.fBa,.int .i64 x.fwhen]
structure jC where
 e0:ct
 e1:ct
def jC.C (x:jC):List Value:=[.int .i64 x.e0.fl.fCa,.int .i64 x.e0.fl.fOa,.int .i64 x.e0.fl.fEa,.int .i64 x.e0.fl.fBa,.int .i64 x.e0.fwhen,.int .i64 x.e1.fl.fCa,.int .i64 x.e1.fl.fOa,.int .i64 x.e1.fl.fEa,.int .i64 x.e1.fl.fBa,.int .i64 x.e1.fwhen]
structure aF where
 fCa:Int
 fDa:Int
def aF.C (x:aF):List Value:=[.int .i64 x.fCa,.int .i64 x.fDa]
structure aH where
 fVa:Int
 fIa:Int
 fCb:Int
def aH.C (x:aH):List Value:=[.int .i64 x.fVa,.int .i64 x.fIa,.int .i64 x.fCb]
structure tk where
 fl:Sl
def tk.C (x:tk):List Value:=[sv x.fl]
structure oS where
 frefs:Sl
def oS.C (x:oS):List Value:=[sv x.frefs]
structure oV where
 fl:Sl
def oV.C (x:oV):List Value:=[sv x.fl]
structure gD where
 fs:aH
 fm:Ptr
 ftables:Sl
 fpool:Ptr
 fcaps:Ptr
def gD.C (x:gD):List Value:=[.int .i64 x.fs.fVa,.int .i64 x.fs.fIa,.int .i64 x.fs.fCb,pv x.fm,sv x.ftables,pv x.fpool,pv x.fcaps]
structure lq where
 fes:Sl
 fs:aH
 fk:Ptr
def lq.C (x:lq):List Value:=[sv x.fes,.int .i64 x.fs.fVa,.int .i64 x.fs.fIa,.int .i64 x.fs.fCb,pv x.fk]
structure oT where
 fl:Sl
def oT.C (x:oT):List Value:=[sv x.fl]
structure ku where
 fowner:Sl
 fheard:Sl
def ku.C (x:ku):List Value:=[sv x.fowner,sv x.fheard]
structure fW where
 fp:Ptr
 fenvs:Int
 ftlbs:Sl
 fboxes:Ptr
 fepochs:Ptr
 fcalls:Sl
 fevents:Sl
 fnow:Int
def fW.C (x:fW):List Value:=[pv x.fp,.int .i64 x.fenvs,sv x.ftlbs,pv x.fboxes,pv x.fepochs,sv x.fcalls,sv x.fevents,.int .i64 x.fnow]
structure dY where
 fKind:Int
 fQa:Int
 fCa:Int
 fKa:ai
 fSet:Int
 fWay:Int
def dY.C (x:dY):List Value:=[.int .i64 x.fKind,.int .i64 x.fQa,.int .i64 x.fCa,.int .u64 x.fKa.e0,.int .u64 x.fKa.e1,.int .u64 x.fKa.e2,.int .u64 x.fKa.e3,.int .u64 x.fKa.e4,.int .i64 x.fSet,.int .i64 x.fWay]
structure bY where
 fDb:Int
 fCa:Int
 fKa:ai
 fWa:Value
def bY.C (x:bY):List Value:=[.int .i64 x.fDb,.int .i64 x.fCa,.int .u64 x.fKa.e0,.int .u64 x.fKa.e1,.int .u64 x.fKa.e2,.int .u64 x.fKa.e3,.int .u64 x.fKa.e4,x.fWa]
structure aK where
 ftyp_:Ptr
 fptr:Ptr
 fflag:Int
def aK.C (x:aK):List Value:=[pv x.ftyp_,pv x.fptr,.int .u64 x.fflag]
structure oU where
 fv:Int
 fn:Int
def oU.C (x:oU):List Value:=[.int .u64 x.fv,.int .i64 x.fn]
structure ll where
 fdrawn:Ptr
 fpassed:Ptr
def ll.C (x:ll):List Value:=[pv x.fdrawn,pv x.fpassed]
structure rM where
 fIs:Bool
 fEa:Int
 fBa:Int
 fCa:Int
 fDa:Int
def rM.C (x:rM):List Value:=[.bool x.fIs,.int .i64 x.fEa,.int .i64 x.fBa,.int .i64 x.fCa,.int .i64 x.fDa]
structure iS where
 fCa:Int
 fDa:Int
def iS.C (x:iS):List Value:=[.int .i64 x.fCa,.int .i64 x.fDa]
def eK (r:Sl):Value:=(sv r)
abbrev dZ:Nat:=42
abbrev fj:Nat:=55
theorem xa:Fld prog 109 6 6:=z_k 1 underlying109
theorem en_55:aI prog 55:=R func55
theorem sc_42:Sc prog 42:=⟨⟨_,underlying42,rfl⟩,bI (by kernel_rfl)⟩
abbrev ge:Nat:=20
def aB (r:Bool):Value:=(.bool r)
theorem qU:Fld prog 109 5 5:=z_k 1 underlying109
theorem sc_107:Sc prog 107:=⟨⟨_,underlying107,rfl⟩,bI (by kernel_rfl)⟩
abbrev iJ:Nat:=62
theorem slc_107:Slc prog 107 118 1:=⟨underlying107,bI (by kernel_rfl)⟩
theorem sc_118:Sc prog 118:=⟨⟨_,underlying118,rfl⟩,bI (by kernel_rfl)⟩
theorem en_62:aI prog 62:=R func62
abbrev fy:Nat:=31
theorem fld_109_1:Fld prog 109 1 1:=z_k 1 underlying109
theorem na:Fld prog 109 7 7:=z_k 1 underlying109
theorem cq:prog.follows .mixedOrders = true:=by kernel_rfl
theorem fD:Ag prog 34 5:=⟨⟨_,underlying34,rfl⟩,bI (by kernel_rfl)⟩
theorem build_56_0_1_2_3 (y0:Int) (y1:Int) (y2:ai) (y3:Int):∀ w,(Instr.build 56 #[(0,(.int .i64 y0)),(1,(.int .i64 y1)),(2,(.agg (ai.C y2).toArray)),(3,(.int .i64 y3))]).run prog w = .ok (.agg (aE.C (⟨y0,y1,y2,y3,0,0,(⟨0,0⟩:ab),(⟨0,0,0,0⟩:am)⟩:aE)).toArray) w:=fun _=>by kernel_rfl
theorem build_120_0_1_2 (y0:Int) (y1:Int) (y2:ai):∀ w,(Instr.build 120 #[(0,(.int .i64 y0)),(1,(.int .i64 y1)),(2,(.agg (ai.C y2).toArray))]).run prog w = .ok (.agg (mA.C (⟨y0,y1,y2,false,0⟩:mA)).toArray) w:=fun _=>by kernel_rfl
theorem inf_118:∃ i,prog.info? 118 = some i/\i.size = 1:=bI (by kernel_rfl)
abbrev cZ:Nat:=120
theorem inf_42:∃ i,prog.info? 42 = some i/\i.size = 1:=bI (by kernel_rfl)
theorem aZ:Sc prog 3:=⟨⟨_,underlying3,rfl⟩,bI (by kernel_rfl)⟩
theorem mo:∃ i,prog.info? 3 = some i/\i.size = 1:=bI (by kernel_rfl)
theorem en_31:aI prog 31:=R func31
abbrev jp:Nat:=27
def bM (r:Int × Bool):Value:=.tuple #[(.int .i64 r.1),(.bool r.2)]
theorem dp:Arr prog 34 5 22 1:=⟨underlying34,bI (by kernel_rfl)⟩
theorem cC:Sc prog 22:=⟨⟨_,underlying22,rfl⟩,bI (by kernel_rfl)⟩
abbrev n_word_Kind:Nat:=63
abbrev n_word_User:Nat:=64
def iP (r:Ptr):Value:=(pv r)
abbrev lc:Nat:=214
abbrev lX:Nat:=107
def cF (r:Sl):Value:=(sv r)
abbrev dQ:Nat:=39
abbrev sR:Nat:=153
def ai.get (x:ai) (i:Int):Int:=match i.toNat with | 0=>x.e0 | 1=>x.e1 | 2=>x.e2 | 3=>x.e3 | 4=>x.e4 | _=>x.e4
theorem at_34 (x:ai) (i:Int) (h:0 <= i/\i < 5):(ai.C x)[0 + i.toNat * 1]? = some (.int .u64 (ai.get x i)):=by
 obtain ⟨n,rfl⟩:=Int.eq_ofNat_of_zero_le h.1;have h2:n < 5:=by omega
 rcases n with _ | (_ | (_ | (_ | (_ | _)))) <;> first | rfl | omega
abbrev nZ:Nat:=160
abbrev n_word_Rights:Nat:=193
theorem en_160:aI prog 160:=R func160
theorem en_193:aI prog 193:=R func193
abbrev n_word_fits:Nat:=154
def bi (r:Int):Value:=(.int .i64 r)
theorem dz:Slc prog 39 3 1:=⟨underlying39,bI (by kernel_rfl)⟩
theorem en_154:aI prog 154:=R func154
theorem en_153:aI prog 153:=R func153
theorem en_63:aI prog 63:=R func63
abbrev ig:Nat:=110
theorem wZ:Fld prog 157 0 0:=z_k 3 underlying157
theorem nN:Fld prog 25 1 1:=z_k 1 underlying25
abbrev kM:Nat:=122
abbrev n_table_is:Nat:=156
def cH (r:ao × Bool):Value:=.tuple #[(.agg (ao.C r.1).toArray),(.bool r.2)]
theorem gn:∃ i,prog.info? 79 = some i/\i.zero = some (.agg (ao.C (⟨0,0,0⟩:ao)).toArray):=kD (by kernel_rfl)
theorem nO  : ∀ w,(Instr.build 79 #[]).run prog w = .ok (.agg (ao.C (⟨0,0,0⟩:ao)).toArray) w:=fun _=>by kernel_rfl
theorem fV:Ag prog 79 3:=⟨⟨_,underlying79,rfl⟩,bI (by kernel_rfl)⟩
theorem dX:∃ i,prog.info? 79 = some i/\i.size = 3:=bI (by kernel_rfl)
theorem li:Fld prog 214 0 0:=z_k 24 underlying214
theorem yt:Arr prog 80 8 79 3:=⟨underlying80,bI (by kernel_rfl)⟩
theorem eZ:Fld prog 79 2 2:=z_k 1 underlying79
theorem en_156:aI prog 156:=R func156
abbrev fw:Nat:=135
theorem fB:Fld prog 157 2 4:=z_k 1 underlying157
theorem nQ:Slc prog 153 161 1:=⟨underlying153,bI (by kernel_rfl)⟩
theorem en_135:aI prog 135:=R func135
theorem rR:Sc prog 161:=⟨⟨_,underlying161,rfl⟩,bI (by kernel_rfl)⟩
theorem nk:Sc prog 153:=⟨⟨_,underlying153,rfl⟩,bI (by kernel_rfl)⟩
theorem en_122:aI prog 122:=R func122
abbrev gc:Nat:=89
theorem iy:Fld prog 208 0 0:=z_k 1 underlying208
theorem qJ:Sc prog 206:=⟨⟨_,underlying206,rfl⟩,bI (by kernel_rfl)⟩
abbrev iK:Nat:=151
def cX (r:aA × Bool):Value:=.tuple #[(.agg (aA.C r.1).toArray),(.bool r.2)]
theorem iQ:∃ i,prog.info? 36 = some i/\i.zero = some (.agg (aA.C (⟨0,0,0,0⟩:aA)).toArray):=kD (by kernel_rfl)
theorem build_36  : ∀ w,(Instr.build 36 #[]).run prog w = .ok (.agg (aA.C (⟨0,0,0,0⟩:aA)).toArray) w:=fun _=>by kernel_rfl
theorem ag_36:Ag prog 36 4:=⟨⟨_,underlying36,rfl⟩,bI (by kernel_rfl)⟩
theorem gS:∃ i,prog.info? 36 = some i/\i.size = 4:=bI (by kernel_rfl)
theorem pj:Slc prog 206 205 32:=⟨underlying206,bI (by kernel_rfl)⟩
theorem rg:Arr prog 205 8 36 4:=⟨underlying205,bI (by kernel_rfl)⟩
theorem hH:Fld prog 36 1 1:=z_k 1 underlying36
theorem en_151:aI prog 151:=R func151
abbrev eH:Nat:=102
theorem fR:Fld prog 157 4 6:=z_k 1 underlying157
theorem uk:aI prog 102:=R func102
theorem iE:Sc prog 155:=⟨⟨_,underlying155,rfl⟩,bI (by kernel_rfl)⟩
abbrev iH:Nat:=53
abbrev n_pte_May:Nat:=166
theorem en_166:aI prog 166:=R func166
abbrev n_pte_Within:Nat:=116
theorem fC:Fld prog 120 2 2:=z_k 5 underlying120
theorem oR:Fld prog 109 0 0:=z_k 1 underlying109
theorem rJ:Fld prog 36 2 2:=z_k 1 underlying36
theorem fld_36_3:Fld prog 36 3 3:=z_k 1 underlying36
theorem en_53:aI prog 53:=R func53
theorem qK:Sc prog 103:=⟨⟨_,underlying103,rfl⟩,bI (by kernel_rfl)⟩
abbrev fZ:Nat:=36
theorem tj:Fld prog 120 1 1:=z_k 1 underlying120
abbrev qN:Nat:=165
def xk (r:ao):Value:=(.agg (ao.C r).toArray)
theorem uc:Fld prog 79 1 1:=z_k 1 underlying79
theorem nt:aI prog 116:=R func116
theorem en_165:aI prog 165:=R func165
abbrev mQ:Nat:=115
theorem en_115:aI prog 115:=R func115
theorem fld_120_3:Fld prog 120 3 7:=z_k 1 underlying120
theorem sc_4:Sc prog 4:=⟨⟨_,underlying4,rfl⟩,bI (by kernel_rfl)⟩
theorem en_89:aI prog 89:=R func89
abbrev mP:Nat:=111
def bK (r:Int × Bool):Value:=.tuple #[(.int .u64 r.1),(.bool r.2)]
def ao.eqb (x y:ao):Bool:=((x.fEa == y.fEa) && ((x.fDa == y.fDa) && ((x.fBa == y.fBa) && true)))
theorem eqr_79 (n:Nat) (x y:ao):EqR prog (n + 2) 79 (.agg (ao.C x).toArray) (.agg (ao.C y).toArray) (ao.eqb x y):=yq underlying79 (by kernel_rfl) (mu (by decide) (iv aZ rfl) (iv aZ rfl) (jQ (n:=n + 0) underlying3) (mu (by decide) (iv aZ rfl) (iv aZ rfl) (jQ (n:=n + 0) underlying3) (mu (by decide) (iv aZ rfl) (iv aZ rfl) (jQ (n:=n + 0) underlying3) eqf_nil)))
theorem eqg_79:prog.eqGuardType prog.depth 79 = false:=by kernel_rfl
theorem rG:Fld prog 79 0 0:=z_k 1 underlying79
abbrev n_pte_Put:Nat:=155
theorem en_155:aI prog 155:=R func155
abbrev eG:Nat:=112
def R_api_Line (r:am):Value:=(.agg (am.C r).toArray)
theorem kE:∃ i,prog.info? 54 = some i/\i.zero = some (.agg (am.C (⟨0,0,0,0⟩:am)).toArray):=kD (by kernel_rfl)
theorem build_54_0 (y0:Int):∀ w,(Instr.build 54 #[(0,(.int .i64 y0))]).run prog w = .ok (.agg (am.C (⟨y0,0,0,0⟩:am)).toArray) w:=fun _=>by kernel_rfl
theorem hO:Ag prog 54 4:=⟨⟨_,underlying54,rfl⟩,bI (by kernel_rfl)⟩
theorem fO:∃ i,prog.info? 54 = some i/\i.size = 4:=bI (by kernel_rfl)
abbrev n_tlb_empty:Nat:=152
def kC (r:Ptr):Value:=(pv r)
theorem fld_173_0:Fld prog 173 0 0:=z_k 40 underlying173
theorem arr_171:Arr prog 171 4 170 10:=⟨underlying171,bI (by kernel_rfl)⟩
theorem arr_170:Arr prog 170 2 169 5:=⟨underlying170,bI (by kernel_rfl)⟩
theorem qT:Fld prog 169 0 0:=z_k 4 underlying169
theorem kj:Fld prog 54 0 0:=z_k 1 underlying54
theorem nM:Fld prog 54 1 1:=z_k 1 underlying54
abbrev pF:Nat:=167
theorem en_152:aI prog 152:=R func152
theorem en_167:aI prog 167:=R func167
abbrev nT:Nat:=117
def fX (r:am × Bool):Value:=.tuple #[(.agg (am.C r.1).toArray),(.bool r.2)]
theorem mz  : ∀ w,(Instr.build 54 #[]).run prog w = .ok (.agg (am.C (⟨0,0,0,0⟩:am)).toArray) w:=fun _=>by kernel_rfl
abbrev pG:Nat:=157
abbrev n_pte_Lets:Nat:=158
theorem fld_169_1:Fld prog 169 1 4:=z_k 1 underlying169
abbrev tS:Nat:=194
theorem ms:Fld prog 54 2 2:=z_k 1 underlying54
theorem rI:Fld prog 54 3 3:=z_k 1 underlying54
theorem fld_173_1:Fld prog 173 1 40:=z_k 1 underlying173
theorem build_169_0_1 (y0:am) (y1:Int):∀ w,(Instr.build 169 #[(0,(.agg (am.C y0).toArray)),(1,(.int .i64 y1))]).run prog w = .ok (.agg (ct.C (⟨y0,y1⟩:ct)).toArray) w:=fun _=>by kernel_rfl
theorem inf_169:∃ i,prog.info? 169 = some i/\i.size = 5:=bI (by kernel_rfl)
theorem en_194:aI prog 194:=R func194
abbrev pH:Nat:=159
theorem en_117:aI prog 117:=R func117
theorem xi (y0:Int) (y1:Int) (y2:Int) (y3:Int):∀ w,(Instr.build 54 #[(0,(.int .i64 y0)),(1,(.int .i64 y1)),(2,(.int .i64 y2)),(3,(.int .i64 y3))]).run prog w = .ok (.agg (am.C (⟨y0,y1,y2,y3⟩:am)).toArray) w:=fun _=>by kernel_rfl
theorem en_159:aI prog 159:=R func159
theorem en_158:aI prog 158:=R func158
theorem en_157:aI prog 157:=R func157
abbrev vj:Nat:=113
def eB (r:Int):Value:=(.int .i64 r)
theorem ti:Fld prog 212 0 0:=z_k 1 underlying212
theorem lR:Sc prog 163:=⟨⟨_,underlying163,rfl⟩,bI (by kernel_rfl)⟩
abbrev wS:Nat:=204
def tm (r:Ptr):Value:=(pv r)
theorem mF:Slc prog 163 93 1:=⟨underlying163,bI (by kernel_rfl)⟩
theorem xw:Slc prog 93 22 1:=⟨underlying93,bI (by kernel_rfl)⟩
theorem sc_93:Sc prog 93:=⟨⟨_,underlying93,rfl⟩,bI (by kernel_rfl)⟩
theorem en_204:aI prog 204:=R func204
abbrev mN:Nat:=179
theorem en_179:aI prog 179:=R func179
abbrev iI:Nat:=161
theorem inf_22:∃ i,prog.info? 22 = some i/\i.size = 1:=bI (by kernel_rfl)
abbrev fT:Nat:=162
theorem en_162:aI prog 162:=R func162
theorem en_161:aI prog 161:=R func161
abbrev ra:Nat:=163
abbrev rb:Nat:=164
def bc (r:ab × Bool):Value:=.tuple #[(.agg (ab.C r.1).toArray),(.bool r.2)]
theorem cY:∃ i,prog.info? 30 = some i/\i.zero = some (.agg (ab.C (⟨0,0⟩:ab)).toArray):=kD (by kernel_rfl)
theorem uq  : ∀ w,(Instr.build 30 #[]).run prog w = .ok (.agg (ab.C (⟨0,0⟩:ab)).toArray) w:=fun _=>by kernel_rfl
theorem cL:Ag prog 30 2:=⟨⟨_,underlying30,rfl⟩,bI (by kernel_rfl)⟩
theorem bL:∃ i,prog.info? 30 = some i/\i.size = 2:=bI (by kernel_rfl)
theorem kR (y1:Int):∀ w,(Instr.build 30 #[(1,(.int .u64 y1))]).run prog w = .ok (.agg (ab.C (⟨0,y1⟩:ab)).toArray) w:=fun _=>by kernel_rfl
theorem mZ:Fld prog 157 1 3:=z_k 1 underlying157
theorem xP:Sc prog 152:=⟨⟨_,underlying152,rfl⟩,bI (by kernel_rfl)⟩
theorem en_163:aI prog 163:=R func163
theorem en_164:aI prog 164:=R func164
theorem en_64:aI prog 64:=R func64
abbrev fx:Nat:=114
def eX (r:ab × am):Value:=.tuple #[(.agg (ab.C r.1).toArray),(.agg (am.C r.2).toArray)]
theorem jL (y0:Int):∀ w,(Instr.build 30 #[(0,(.int .i64 y0))]).run prog w = .ok (.agg (ab.C (⟨y0,0⟩:ab)).toArray) w:=fun _=>by kernel_rfl
theorem iz:Fld prog 109 2 2:=z_k 1 underlying109
theorem slc_104:Slc prog 104 114 1:=⟨underlying104,bI (by kernel_rfl)⟩
theorem wd:aI prog 114:=R func114
theorem en_113:aI prog 113:=R func113
theorem sc_114:Sc prog 114:=⟨⟨_,underlying114,rfl⟩,bI (by kernel_rfl)⟩
theorem vW:Sc prog 104:=⟨⟨_,underlying104,rfl⟩,bI (by kernel_rfl)⟩
theorem en_112:aI prog 112:=R func112
theorem en_111:aI prog 111:=R func111
theorem en_107:aI prog 107:=R func107
theorem en_110:aI prog 110:=R func110
abbrev oh:Nat:=65
def R_ (_:Unit):Value:=.tuple #[]
theorem fld_120_0:Fld prog 120 0 0:=z_k 1 underlying120
theorem tz:Slc prog 42 56 16:=⟨underlying42,bI (by kernel_rfl)⟩
theorem jx:Fld prog 56 4 8:=z_k 1 underlying56
theorem rH:Fld prog 56 5 9:=z_k 1 underlying56
theorem la:Fld prog 56 6 10:=z_k 2 underlying56
theorem gC:Fld prog 56 7 12:=z_k 4 underlying56
abbrev mR:Nat:=66
abbrev pI:Nat:=67
def jD (r:Sl):Value:=(sv r)
abbrev t_2_tlb_line:Nat:=170
def R_tlb_line (r:ct):Value:=(.agg (ct.C r).toArray)
theorem zero_169:∃ i,prog.info? 169 = some i/\i.zero = some (.agg (ct.C (⟨(⟨0,0,0,0⟩:am),0⟩:ct)).toArray):=kD (by kernel_rfl)
abbrev ro:Nat:=76
theorem ag_170:Ag prog 170 10:=⟨⟨_,underlying170,rfl⟩,bI (by kernel_rfl)⟩
abbrev nS:Nat:=87
theorem slc_76:Slc prog 76 54 4:=⟨underlying76,bI (by kernel_rfl)⟩
theorem en_87:aI prog 87:=R func87
abbrev lK:Nat:=68
theorem fld_167_1:Fld prog 167 1 1:=z_k 1 underlying167
abbrev lL:Nat:=118
def hY (r:Int):Value:=(.int .u64 r)
theorem fld_167_0:Fld prog 167 0 0:=z_k 1 underlying167
theorem sc_39:Sc prog 39:=⟨⟨_,underlying39,rfl⟩,bI (by kernel_rfl)⟩
abbrev gf:Nat:=119
theorem en_119:aI prog 119:=R func119
theorem inf_39:∃ i,prog.info? 39 = some i/\i.size = 1:=bI (by kernel_rfl)
theorem en_118:aI prog 118:=R func118
abbrev jr:Nat:=69
theorem mY:Fld prog 165 0 0:=z_k 1 underlying165
abbrev mh:Nat:=168
abbrev tX:Nat:=218
theorem en_218:aI prog 218:=R func218
abbrev vq:Nat:=195
abbrev qu:Nat:=196
theorem en_195:aI prog 195:=R func195
theorem en_196:aI prog 196:=R func196
abbrev eY:Nat:=169
abbrev be:Nat:=93
def ce (r:Sl):Value:=(sv r)
abbrev sS:Nat:=198
abbrev lG:Nat:=3
abbrev vY:Nat:=197
theorem en_198:aI prog 198:=R func198
abbrev dM:Nat:=170
theorem inf_93:∃ i,prog.info? 93 = some i/\i.size = 1:=bI (by kernel_rfl)
theorem en_170:aI prog 170:=R func170
theorem en_169:aI prog 169:=R func169
theorem en_168:aI prog 168:=R func168
abbrev qM:Nat:=120
theorem en_120:aI prog 120:=R func120
abbrev nV:Nat:=70
abbrev jq:Nat:=121
theorem en_121:aI prog 121:=R func121
abbrev jP:Nat:=71
abbrev n_plain_fails:Nat:=123
theorem build_36_0_1_2 (y0:Int) (y1:Int) (y2:Int):∀ w,(Instr.build 36 #[(0,(.int .i64 y0)),(1,(.int .i64 y1)),(2,(.int .i64 y2))]).run prog w = .ok (.agg (aA.C (⟨y0,y1,y2,0⟩:aA)).toArray) w:=fun _=>by kernel_rfl
abbrev ke:Nat:=142
abbrev kK:Nat:=199
theorem oP:Fld prog 210 0 0:=z_k 1 underlying210
theorem en_199:aI prog 199:=R func199
abbrev jY:Nat:=171
abbrev t_none:Nat:=0
abbrev tU:Nat:=172
theorem oQ:Fld prog 157 3 5:=z_k 1 underlying157
theorem en_142:aI prog 142:=R func142
theorem en_172:aI prog 172:=R func172
theorem en_171:aI prog 171:=R func171
theorem sc_154:Sc prog 154:=⟨⟨_,underlying154,rfl⟩,bI (by kernel_rfl)⟩
abbrev ma:Nat:=124
theorem uf:Fld prog 36 0 0:=z_k 1 underlying36
theorem build_36_0_1_2_3 (y0:Int) (y1:Int) (y2:Int) (y3:Int):∀ w,(Instr.build 36 #[(0,(.int .i64 y0)),(1,(.int .i64 y1)),(2,(.int .i64 y2)),(3,(.int .i64 y3))]).run prog w = .ok (.agg (aA.C (⟨y0,y1,y2,y3⟩:aA)).toArray) w:=fun _=>by kernel_rfl
abbrev iL:Nat:=143
abbrev jZ:Nat:=200
theorem en_200:aI prog 200:=R func200
abbrev mL:Nat:=173
def db (r:Sl):Value:=(sv r)
abbrev lQ:Nat:=205
def R_api_Cap (r:aA):Value:=(.agg (aA.C r).toArray)
theorem wi (y0:Int) (y1:Int):∀ w,(Instr.build 233 #[(0,(.int .i64 y0)),(1,(.int .i64 y1))]).run prog w = .ok (.agg (aF.C (⟨y0,y1⟩:aF)).toArray) w:=fun _=>by kernel_rfl
theorem zero_233:∃ i,prog.info? 233 = some i/\i.zero = some (.agg (aF.C (⟨0,0⟩:aF)).toArray):=kD (by kernel_rfl)
theorem ag_233:Ag prog 233 2:=⟨⟨_,underlying233,rfl⟩,bI (by kernel_rfl)⟩
abbrev ir:Nat:=201
theorem inf_233:∃ i,prog.info? 233 = some i/\i.size = 2:=bI (by kernel_rfl)
abbrev kZ:Nat:=188
abbrev mW:Nat:=201
theorem slc_201:Slc prog 201 233 2:=⟨underlying201,bI (by kernel_rfl)⟩
theorem fld_233_0:Fld prog 233 0 0:=z_k 1 underlying233
theorem fld_233_1:Fld prog 233 1 1:=z_k 1 underlying233
abbrev gY:Nat:=202
abbrev lM:Nat:=190
def aF.eqb (x y:aF):Bool:=((x.fCa == y.fCa) && ((x.fDa == y.fDa) && true))
theorem eqr_233 (n:Nat) (x y:aF):EqR prog (n + 2) 233 (.agg (aF.C x).toArray) (.agg (aF.C y).toArray) (aF.eqb x y):=yq underlying233 (by kernel_rfl) (mu (by decide) (iv aZ rfl) (iv aZ rfl) (jQ (n:=n + 0) underlying3) (mu (by decide) (iv aZ rfl) (iv aZ rfl) (jQ (n:=n + 0) underlying3) eqf_nil))
theorem eqg_233:prog.eqGuardType prog.depth 233 = false:=by kernel_rfl
theorem en_190:aI prog 190:=R func190
abbrev gZ:Nat:=203
def dG (r:Sl × Int):Value:=.tuple #[(sv r.1),(.int .i64 r.2)]
theorem en_202:aI prog 202:=R func202
theorem en_188:aI prog 188:=R func188
abbrev sI:Nat:=233
theorem en_201:aI prog 201:=R func201
abbrev sJ:Nat:=155
abbrev mX:Nat:=174
theorem en_174:aI prog 174:=R func174
theorem en_173:aI prog 173:=R func173
theorem en_143:aI prog 143:=R func143
abbrev iR:Nat:=125
def jR (r:ao × Int):Value:=.tuple #[(.agg (ao.C r.1).toArray),(.int .i64 r.2)]
abbrev jo:Nat:=128
abbrev mn:Nat:=189
abbrev lN:Nat:=147
theorem en_147:aI prog 147:=R func147
abbrev oo:Nat:=175
abbrev uE:Nat:=80
abbrev mK:Nat:=176
abbrev nU:Nat:=177
def ip (r:ab):Value:=(.agg (ab.C r).toArray)
theorem en_128:aI prog 128:=R func128
theorem en_177:aI prog 177:=R func177
theorem en_176:aI prog 176:=R func176
theorem en_175:aI prog 175:=R func175
abbrev lx:Nat:=126
theorem pV (y0:Int) (y1:Int) (y2:Int):∀ w,(Instr.build 79 #[(0,(.int .i64 y0)),(1,(.int .i64 y1)),(2,(.int .i64 y2))]).run prog w = .ok (.agg (ao.C (⟨y0,y1,y2⟩:ao)).toArray) w:=fun _=>by kernel_rfl
abbrev nq:Nat:=127
abbrev lr:Nat:=178
theorem en_178:aI prog 178:=R func178
abbrev kL:Nat:=129
abbrev n_pred_Holds:Nat:=148
theorem rZ:aI prog 123:=R func123
theorem en_148:aI prog 148:=R func148
abbrev lZ:Nat:=130
abbrev nl:Nat:=131
theorem en_126:aI prog 126:=R func126
theorem en_124:aI prog 124:=R func124
theorem en_125:aI prog 125:=R func125
theorem en_127:aI prog 127:=R func127
theorem en_129:aI prog 129:=R func129
theorem en_130:aI prog 130:=R func130
theorem en_131:aI prog 131:=R func131
abbrev dI:Nat:=72
theorem en_66:aI prog 66:=R func66
theorem en_65:aI prog 65:=R func65
theorem fld_109_4:Fld prog 109 4 4:=z_k 1 underlying109
theorem fld_120_4:Fld prog 120 4 8:=z_k 1 underlying120
theorem fld_109_3:Fld prog 109 3 3:=z_k 1 underlying109
theorem en_70:aI prog 70:=R func70
theorem sc_105:Sc prog 105:=⟨⟨_,underlying105,rfl⟩,bI (by kernel_rfl)⟩
theorem en_69:aI prog 69:=R func69
theorem sc_106:Sc prog 106:=⟨⟨_,underlying106,rfl⟩,bI (by kernel_rfl)⟩
theorem en_68:aI prog 68:=R func68
theorem inf_4:∃ i,prog.info? 4 = some i/\i.size = 1:=bI (by kernel_rfl)
theorem en_72:aI prog 72:=R func72
theorem en_71:aI prog 71:=R func71
theorem en_67:aI prog 67:=R func67
abbrev mS:Nat:=28
abbrev lJ:Nat:=132
theorem en_132:aI prog 132:=R func132
abbrev mO:Nat:=97
abbrev kO:Nat:=98
theorem en_98:aI prog 98:=R func98
theorem en_97:aI prog 97:=R func97
abbrev mT:Nat:=46
abbrev qO:Nat:=73
theorem en_28:aI prog 28:=R func28
theorem en_46:aI prog 46:=R func46
theorem en_73:aI prog 73:=R func73
abbrev fM:Nat:=29
theorem ue:Fld prog 56 0 0:=z_k 1 underlying56
theorem en_20:aI prog 20:=R func20
theorem en_29:aI prog 29:=R func29
theorem en_27:aI prog 27:=R func27
abbrev cU:Nat:=16
theorem pT:Fld prog 25 0 0:=z_k 1 underlying25
theorem pS:Fld prog 56 1 1:=z_k 1 underlying56
theorem ud:Fld prog 56 3 7:=z_k 1 underlying56
abbrev n_hist_one:Nat:=61
abbrev jU:Nat:=61
def R_map_int_bool (r:(Option Nat)):Value:=(.map r)
abbrev iq:Nat:=95
def R_map_int_int (r:(Option Nat)):Value:=(.map r)
theorem zero_56:∃ i,prog.info? 56 = some i/\i.zero = some (.agg (aE.C (⟨0,0,(⟨0,0,0,0,0⟩:ai),0,0,0,(⟨0,0⟩:ab),(⟨0,0,0,0⟩:am)⟩:aE)).toArray):=kD (by kernel_rfl)
theorem ag_56:Ag prog 56 16:=⟨⟨_,underlying56,rfl⟩,bI (by kernel_rfl)⟩
theorem rL:Ag prog 25 3:=⟨⟨_,underlying25,rfl⟩,bI (by kernel_rfl)⟩
theorem en_61:aI prog 61:=R func61
theorem inf_56:∃ i,prog.info? 56 = some i/\i.size = 16:=bI (by kernel_rfl)
abbrev xZ:Nat:=25
abbrev rd:Nat:=92
abbrev nW:Nat:=93
abbrev bQ:Nat:=181
abbrev dk:Nat:=220
theorem en_220:aI prog 220:=R func220
abbrev dF:Nat:=205
abbrev ck:Nat:=182
theorem en_182:aI prog 182:=R func182
theorem en_205:aI prog 205:=R func205
theorem en_181:aI prog 181:=R func181
abbrev lY:Nat:=137
theorem en_137:aI prog 137:=R func137
abbrev eD:Nat:=94
abbrev n_cmp_isNaN_int:Nat:=138
theorem en_138:aI prog 138:=R func138
abbrev vr:Nat:=96
theorem en_96:aI prog 96:=R func96
abbrev rV:Nat:=95
theorem en_94:aI prog 94:=R func94
theorem en_92:aI prog 92:=R func92
abbrev mU:Nat:=44
def uu (r:Ptr):Value:=(pv r)
theorem build_212  : ∀ w,(Instr.build 212 #[]).run prog w = .ok (.agg (tk.C (⟨(⟨none,0,0,none⟩:Sl)⟩:tk)).toArray) w:=fun _=>by kernel_rfl
abbrev qD:Nat:=163
def R_SSuint64 (r:Sl):Value:=(sv r)
theorem inf_163:∃ i,prog.info? 163 = some i/\i.size = 1:=bI (by kernel_rfl)
abbrev mB:Nat:=212
abbrev wR:Nat:=104
def tc (r:Ptr):Value:=(pv r)
theorem build_210_0 (y0:Sl):∀ w,(Instr.build 210 #[(0,(sv y0))]).run prog w = .ok (.agg (oS.C (⟨y0⟩:oS)).toArray) w:=fun _=>by kernel_rfl
abbrev rl:Nat:=210
abbrev xX:Nat:=105
def td (r:Ptr):Value:=(pv r)
abbrev t_S_8_api_Cap:Nat:=206
def R_S_8_api_Cap (r:Sl):Value:=(sv r)
theorem build_208_0 (y0:Sl):∀ w,(Instr.build 208 #[(0,(sv y0))]).run prog w = .ok (.agg (oV.C (⟨y0⟩:oV)).toArray) w:=fun _=>by kernel_rfl
abbrev oA:Nat:=208
abbrev ya:Nat:=106
def dT (r:Ptr):Value:=(pv r)
theorem wW:Fld prog 25 2 2:=z_k 1 underlying25
theorem build_157_0_1_3_4 (y0:aH) (y1:Ptr) (y3:Ptr) (y4:Ptr):∀ w,(Instr.build 157 #[(0,(.agg (aH.C y0).toArray)),(1,(pv y1)),(3,(pv y3)),(4,(pv y4))]).run prog w = .ok (.agg (gD.C (⟨y0,y1,(⟨none,0,0,none⟩:Sl),y3,y4⟩:gD)).toArray) w:=fun _=>by kernel_rfl
abbrev fd:Nat:=153
def nX (r:Sl):Value:=(sv r)
theorem inf_153:∃ i,prog.info? 153 = some i/\i.size = 1:=bI (by kernel_rfl)
abbrev cG:Nat:=157
theorem en_106:aI prog 106:=R func106
theorem en_105:aI prog 105:=R func105
theorem en_104:aI prog 104:=R func104
abbrev oH:Nat:=56
theorem nL:Fld prog 56 2 2:=z_k 5 underlying56
abbrev n_judge_user:Nat:=139
abbrev gQ:Nat:=180
theorem en_180:aI prog 180:=R func180
abbrev rT:Nat:=136
abbrev np:Nat:=207
theorem en_136:aI prog 136:=R func136
theorem en_207:aI prog 207:=R func207
theorem en_56:aI prog 56:=R func56
abbrev gX:Nat:=184
abbrev tW:Nat:=221
abbrev n_hist_Over:Nat:=206
def qZ (r:Sl):Value:=(sv r)
theorem wY:Fld prog 196 2 4:=z_k 1 underlying196
abbrev qC:Nat:=240
theorem fld_196_0:Fld prog 196 0 0:=z_k 1 underlying196
theorem en_184:aI prog 184:=R func184
theorem en_206:aI prog 206:=R func206
abbrev mi:Nat:=183
theorem fld_196_1:Fld prog 196 1 1:=z_k 3 underlying196
def ab.eqb (x y:ab):Bool:=((x.fWa == y.fWa) && ((x.fVal == y.fVal) && true))
theorem nI:Sc prog 28:=⟨⟨_,underlying28,rfl⟩,bI (by kernel_rfl)⟩
theorem eqr_30 (n:Nat) (x y:ab):EqR prog (n + 2) 30 (.agg (ab.C x).toArray) (.agg (ab.C y).toArray) (ab.eqb x y):=yq underlying30 (by kernel_rfl) (mu (by decide) (iv nI rfl) (iv nI rfl) (jQ (n:=n + 0) underlying28) (mu (by decide) (iv cC rfl) (iv cC rfl) (jQ (n:=n + 0) underlying22) eqf_nil))
theorem eqg_30:prog.eqGuardType prog.depth 30 = false:=by kernel_rfl
def am.eqb (x y:am):Bool:=((x.fCa == y.fCa) && ((x.fOa == y.fOa) && ((x.fEa == y.fEa) && ((x.fBa == y.fBa) && true))))
theorem eqr_54 (n:Nat) (x y:am):EqR prog (n + 2) 54 (.agg (am.C x).toArray) (.agg (am.C y).toArray) (am.eqb x y):=yq underlying54 (by kernel_rfl) (mu (by decide) (iv aZ rfl) (iv aZ rfl) (jQ (n:=n + 0) underlying3) (mu (by decide) (iv aZ rfl) (iv aZ rfl) (jQ (n:=n + 0) underlying3) (mu (by decide) (iv aZ rfl) (iv aZ rfl) (jQ (n:=n + 0) underlying3) (mu (by decide) (iv aZ rfl) (iv aZ rfl) (jQ (n:=n + 0) underlying3) eqf_nil))))
theorem eqg_54:prog.eqGuardType prog.depth 54 = false:=by kernel_rfl
theorem slc_240:Slc prog 240 79 3:=⟨underlying240,bI (by kernel_rfl)⟩
theorem jy:Fld prog 30 0 0:=z_k 1 underlying30
theorem fld_30_1:Fld prog 30 1 1:=z_k 1 underlying30
theorem en_183:aI prog 183:=R func183
abbrev mj:Nat:=140
abbrev ol:Nat:=141
theorem build_196_0_1_2 (y0:Sl) (y1:aH) (y2:Ptr):∀ w,(Instr.build 196 #[(0,(sv y0)),(1,(.agg (aH.C y1).toArray)),(2,(pv y2))]).run prog w = .ok (.agg (lq.C (⟨y0,y1,y2⟩:lq)).toArray) w:=fun _=>by kernel_rfl
theorem en_141:aI prog 141:=R func141
theorem en_140:aI prog 140:=R func140
theorem en_139:aI prog 139:=R func139
theorem en_44:aI prog 44:=R func44
abbrev dv:Nat:=196
theorem en_25:aI prog 25:=R func25
abbrev vn:Nat:=99
theorem en_99:aI prog 99:=R func99
abbrev pK:Nat:=47
abbrev pL:Nat:=48
theorem en_48:aI prog 48:=R func48
theorem en_47:aI prog 47:=R func47
abbrev rc:Nat:=19
def pY (r:Ptr):Value:=(pv r)
theorem build_165_0 (y0:Sl):∀ w,(Instr.build 165 #[(0,(sv y0))]).run prog w = .ok (.agg (oT.C (⟨y0⟩:oT)).toArray) w:=fun _=>by kernel_rfl
abbrev lP:Nat:=165
abbrev tV:Nat:=57
def jf (r:Ptr):Value:=(pv r)
theorem build_167_1 (y1:Sl):∀ w,(Instr.build 167 #[(1,(sv y1))]).run prog w = .ok (.agg (ku.C (⟨(⟨none,0,0,none⟩:Sl),y1⟩:ku)).toArray) w:=fun _=>by kernel_rfl
abbrev iC:Nat:=167
abbrev oK:Nat:=58
abbrev rS:Nat:=108
def gU (r:Ptr):Value:=(pv r)
abbrev qB:Nat:=173
theorem en_108:aI prog 108:=R func108
abbrev ja:Nat:=59
def kU (r:Ptr):Value:=(pv r)
abbrev nF:Nat:=107
def rh (r:Sl):Value:=(sv r)
theorem nu (y0:Ptr) (y1:Int) (y3:Ptr) (y4:Ptr) (y5:Sl):∀ w,(Instr.build 109 #[(0,(pv y0)),(1,(.int .i64 y1)),(3,(pv y3)),(4,(pv y4)),(5,(sv y5))]).run prog w = .ok (.agg (fW.C (⟨y0,y1,(⟨none,0,0,none⟩:Sl),y3,y4,y5,(⟨none,0,0,none⟩:Sl),0⟩:fW)).toArray) w:=fun _=>by kernel_rfl
abbrev bR:Nat:=104
def dU (r:Sl):Value:=(sv r)
theorem inf_104:∃ i,prog.info? 104 = some i/\i.size = 1:=bI (by kernel_rfl)
theorem en_59:aI prog 59:=R func59
abbrev cj:Nat:=109
theorem en_58:aI prog 58:=R func58
theorem en_57:aI prog 57:=R func57
abbrev xY:Nat:=23
def oW (r:Sl):Value:=(sv r)
abbrev oB:Nat:=45
theorem build_51_0_1 (y0:Int) (y1:Int):∀ w,(Instr.build 51 #[(0,(.int .i64 y0)),(1,(.int .i64 y1))]).run prog w = .ok (.agg (dY.C (⟨y0,y1,0,(⟨0,0,0,0,0⟩:ai),0,0⟩:dY)).toArray) w:=fun _=>by kernel_rfl
abbrev vZ:Nat:=49
abbrev mM:Nat:=103
theorem en_103:aI prog 103:=R func103
abbrev nr:Nat:=54
abbrev xU:Nat:=185
theorem en_185:aI prog 185:=R func185
abbrev n_user_Do:Nat:=144
def iT (r:Value):Value:=(r)
theorem build_254_0_1 (y0:Int) (y1:Int):∀ w,(Instr.build 254 #[(0,(.int .i64 y0)),(1,(.int .i64 y1))]).run prog w = .ok (.agg (bY.C (⟨y0,y1,(⟨0,0,0,0,0⟩:ai),Value.nilIface⟩:bY)).toArray) w:=fun _=>by kernel_rfl
abbrev bh:Nat:=252
abbrev oz:Nat:=254
abbrev lh:Nat:=150
abbrev gy:Nat:=191
theorem ag_296:Ag prog 296 3:=⟨⟨_,underlying296,rfl⟩,bI (by kernel_rfl)⟩
abbrev fG:Nat:=233
def fS (r:aK):Value:=(.agg (aK.C r).toArray)
abbrev dc:Nat:=229
abbrev fN:Nat:=234
abbrev gH:Nat:=199
abbrev jG:Nat:=277
def gE (r:Value × Bool):Value:=.tuple #[(r.1),(.bool r.2)]
abbrev iX:Nat:=279
def gm (r:Value × Bool):Value:=.tuple #[(r.1),(.bool r.2)]
def R_Serror (r:Sl):Value:=(sv r)
theorem slc_280:Slc prog 280 199 1:=⟨underlying280,bI (by kernel_rfl)⟩
abbrev vo:Nat:=232
theorem en_232:aI prog 232:=R func232
theorem sc_199:Sc prog 199:=⟨⟨_,underlying199,rfl⟩,bI (by kernel_rfl)⟩
abbrev rm:Nat:=305
def ox (r:Value × Bool):Value:=.tuple #[(r.1),(.bool r.2)]
theorem zero_296:∃ i,prog.info? 296 = some i/\i.zero = some (.agg (aK.C (⟨none,none,0⟩:aK)).toArray):=kD (by kernel_rfl)
abbrev iW:Nat:=230
def R_abi_Kind (r:Int):Value:=(.int .u8 r)
def str_6ae768b9:ByteArray:=⟨#[101,114,114,111,114,115,58,32,42,116,97,114,103,101,116,32,109,117,115,116,32,98,101,32,105,110,116,101,114,102,97,99,101,32,111,114,32,105,109,112,108,101,109,101,110,116,32,101,114,114,111,114]⟩
abbrev wj:Nat:=9
theorem sc_249:Sc prog 249:=⟨⟨_,underlying249,rfl⟩,bI (by kernel_rfl)⟩
abbrev fo:Nat:=231
def str_ae9b7a08:ByteArray:=⟨#[101,114,114,111,114,115,58,32,116,97,114,103,101,116,32,109,117,115,116,32,98,101,32,97,32,110,111,110,45,110,105,108,32,112,111,105,110,116,101,114]⟩
theorem inf_296:∃ i,prog.info? 296 = some i/\i.size = 3:=bI (by kernel_rfl)
def str_53947bae:ByteArray:=⟨#[101,114,114,111,114,115,58,32,116,97,114,103,101,116,32,99,97,110,110,111,116,32,98,101,32,110,105,108]⟩
abbrev vp:Nat:=227
def eU (r:Ptr × Bool):Value:=.tuple #[(pv r.1),(.bool r.2)]
theorem zero_252:∃ i,prog.info? 252 = some i/\i.zero = some (pv none):=kD (by kernel_rfl)
theorem sc_252:Sc prog 252:=⟨⟨_,underlying252,rfl⟩,bI (by kernel_rfl)⟩
abbrev bD:Nat:=290
theorem en_227:aI prog 227:=R func227
abbrev kI:Nat:=222
theorem wX:Fld prog 254 0 0:=z_k 1 underlying254
theorem en_222:aI prog 222:=R func222
abbrev vm:Nat:=208
def R_trap_Trap (r:bY):Value:=(.agg (bY.C r).toArray)
theorem en_208:aI prog 208:=R func208
abbrev n_trap_In:Nat:=186
theorem yr:aI prog 150:=R func150
theorem en_186:aI prog 186:=R func186
abbrev og:Nat:=145
def pZ (r:Ptr):Value:=(pv r)
theorem build_285_0 (y0:Int):∀ w,(Instr.build 285 #[(0,(.int .u64 y0))]).run prog w = .ok (.agg (oU.C (⟨y0,0⟩:oU)).toArray) w:=fun _=>by kernel_rfl
abbrev rn:Nat:=285
abbrev tY:Nat:=209
def ut (r:Ptr):Value:=(pv r)
theorem build_287_0_1 (y0:Ptr) (y1:Ptr):∀ w,(Instr.build 287 #[(0,(pv y0)),(1,(pv y1))]).run prog w = .ok (.agg (ll.C (⟨y0,y1⟩:ll)).toArray) w:=fun _=>by kernel_rfl
abbrev nD:Nat:=287
theorem en_209:aI prog 209:=R func209
abbrev xW:Nat:=210
theorem th:Fld prog 285 1 1:=z_k 1 underlying285
theorem oO:Fld prog 285 0 0:=z_k 1 underlying285
abbrev pN:Nat:=211
theorem fld_287_0:Fld prog 287 0 0:=z_k 1 underlying287
theorem en_211:aI prog 211:=R func211
theorem sc_266:Sc prog 266:=⟨⟨_,underlying266,rfl⟩,bI (by kernel_rfl)⟩
abbrev oe:Nat:=212
abbrev oI:Nat:=192
theorem en_192:aI prog 192:=R func192
abbrev ne:Nat:=274
def kv (r:Value × Bool):Value:=.tuple #[(r.1),(.bool r.2)]
abbrev oJ:Nat:=149
theorem fld_254_3:Fld prog 254 3 7:=z_k 1 underlying254
abbrev xV:Nat:=228
theorem jA (y0:Int) (y1:Int):∀ w,(Instr.build 34 #[(0,(.int .u64 y0)),(1,(.int .u64 y1))]).run prog w = .ok (.agg (ai.C (⟨y0,y1,0,0,0⟩:ai)).toArray) w:=fun _=>by kernel_rfl
theorem fld_254_1:Fld prog 254 1 1:=z_k 1 underlying254
theorem fld_254_2:Fld prog 254 2 2:=z_k 5 underlying254
def ai.eqb (x y:ai):Bool:=((x.e0 == y.e0) && ((x.e1 == y.e1) && ((x.e2 == y.e2) && ((x.e3 == y.e3) && ((x.e4 == y.e4) && true)))))
theorem eqr_34 (n:Nat) (x y:ai):EqR prog (n + 2) 34 (.agg (ai.C x).toArray) (.agg (ai.C y).toArray) (ai.eqb x y):=eqr_arr underlying34 inf_22 ⟨_,_,_,_,(iv cC rfl),(iv cC rfl),(jQ (n:=n + 0) underlying22),⟨_,_,_,_,(iv cC rfl),(iv cC rfl),(jQ (n:=n + 0) underlying22),⟨_,_,_,_,(iv cC rfl),(iv cC rfl),(jQ (n:=n + 0) underlying22),⟨_,_,_,_,(iv cC rfl),(iv cC rfl),(jQ (n:=n + 0) underlying22),⟨_,_,_,_,(iv cC rfl),(iv cC rfl),(jQ (n:=n + 0) underlying22),rfl,rfl⟩,rfl⟩,rfl⟩,rfl⟩,rfl⟩
theorem eqg_34:prog.eqGuardType prog.depth 34 = false:=by kernel_rfl
def eq (r:ByteArray):Value:=(.string r)
def pd:ByteArray:=⟨#[116,114,97,112,32,51,58,32,116,114,97,112,32,51]⟩
theorem en_149:aI prog 149:=R func149
theorem en_228:aI prog 228:=R func228
abbrev me:Nat:=223
theorem en_223:aI prog 223:=R func223
abbrev mf:Nat:=213
abbrev mV:Nat:=224
theorem fld_287_1:Fld prog 287 1 1:=z_k 1 underlying287
theorem en_224:aI prog 224:=R func224
abbrev kJ:Nat:=214
abbrev rW:Nat:=225
theorem en_225:aI prog 225:=R func225
theorem en_214:aI prog 214:=R func214
abbrev od:Nat:=215
abbrev n_word_Args:Nat:=216
abbrev qL:Nat:=217
theorem build_34_0 (y0:Int):∀ w,(Instr.build 34 #[(0,(.int .u64 y0))]).run prog w = .ok (.agg (ai.C (⟨y0,0,0,0,0⟩:ai)).toArray) w:=fun _=>by kernel_rfl
theorem gj (y0:Int) (y1:Int) (y2:Int) (y3:Int):∀ w,(Instr.build 34 #[(0,(.int .u64 y0)),(1,(.int .u64 y1)),(2,(.int .u64 y2)),(3,(.int .u64 y3))]).run prog w = .ok (.agg (ai.C (⟨y0,y1,y2,y3,0⟩:ai)).toArray) w:=fun _=>by kernel_rfl
theorem en_217:aI prog 217:=R func217
theorem en_216:aI prog 216:=R func216
theorem en_215:aI prog 215:=R func215
theorem en_213:aI prog 213:=R func213
theorem en_212:aI prog 212:=R func212
theorem en_210:aI prog 210:=R func210
abbrev mb:Nat:=187
theorem en_187:aI prog 187:=R func187
abbrev mc:Nat:=146
theorem pW (y0:Int) (y1:Int) (y2:Int):∀ w,(Instr.build 25 #[(0,(.int .i64 y0)),(1,(.int .i64 y1)),(2,(.int .i64 y2))]).run prog w = .ok (.agg (aH.C (⟨y0,y1,y2⟩:aH)).toArray) w:=fun _=>by kernel_rfl
theorem kr (y0:Int) (y1:Int) (y2:Int):∀ w,(Instr.build 34 #[(0,(.int .u64 y0)),(1,(.int .u64 y1)),(2,(.int .u64 y2))]).run prog w = .ok (.agg (ai.C (⟨y0,y1,y2,0,0⟩:ai)).toArray) w:=fun _=>by kernel_rfl
theorem en_54:aI prog 54:=R func54
theorem en_146:aI prog 146:=R func146
theorem en_145:aI prog 145:=R func145
theorem en_144:aI prog 144:=R func144
abbrev lz:Nat:=100
theorem en_100:aI prog 100:=R func100
abbrev lA:Nat:=50
theorem slc_45:Slc prog 45 51 10:=⟨underlying45,bI (by kernel_rfl)⟩
theorem zero_51:∃ i,prog.info? 51 = some i/\i.zero = some (.agg (dY.C (⟨0,0,0,(⟨0,0,0,0,0⟩:ai),0,0⟩:dY)).toArray):=kD (by kernel_rfl)
theorem fld_51_0:Fld prog 51 0 0:=z_k 1 underlying51
theorem fld_51_1:Fld prog 51 1 1:=z_k 1 underlying51
theorem inf_51:∃ i,prog.info? 51 = some i/\i.size = 10:=bI (by kernel_rfl)
theorem ag_51:Ag prog 51 10:=⟨⟨_,underlying51,rfl⟩,bI (by kernel_rfl)⟩
abbrev pM:Nat:=101
theorem en_101:aI prog 101:=R func101
abbrev n_fair_Fair:Nat:=51
def nP (r:Sl):Value:=(sv r)
abbrev nE:Nat:=101
abbrev n_twin_View:Nat:=52
theorem zero_25:∃ i,prog.info? 25 = some i/\i.zero = some (.agg (aH.C (⟨0,0,0⟩:aH)).toArray):=kD (by kernel_rfl)
theorem en_19:aI prog 19:=R func19
theorem en_52:aI prog 52:=R func52
theorem en_51:aI prog 51:=R func51
theorem en_50:aI prog 50:=R func50
theorem en_49:aI prog 49:=R func49
theorem en_16:aI prog 16:=R func16
theorem en_23:aI prog 23:=R func23
theorem inf_25:∃ i,prog.info? 25 = some i/\i.size = 3:=bI (by kernel_rfl)
abbrev ly:Nat:=14
abbrev t_Sapi_Call:Nat:=69
def R_Sapi_Call (r:Sl):Value:=(sv r)
theorem slc_69:Slc prog 69 34 5:=⟨underlying69,bI (by kernel_rfl)⟩
theorem zero_34:∃ i,prog.info? 34 = some i/\i.zero = some (.agg (ai.C (⟨0,0,0,0,0⟩:ai)).toArray):=kD (by kernel_rfl)
theorem inf_34:∃ i,prog.info? 34 = some i/\i.size = 5:=bI (by kernel_rfl)
abbrev kN:Nat:=15
theorem en_15:aI prog 15:=R func15
theorem en_14:aI prog 14:=R func14
abbrev t_api_Event:Nat:=56
abbrev t_api_Answer:Nat:=30
def iS.eqb (x y:iS):Bool:=((x.fCa == y.fCa) && ((x.fDa == y.fDa) && true))
abbrev pJ:Nat:=38
theorem en_38:aI prog 38:=R func38
abbrev mg:Nat:=13
def str_73df774b:ByteArray:=⟨#[48,49,50,51,52,53,54,55,56,57,97,98,99,100,101,102,103,104,105,106,107,108,109,110,111,112,113,114,115,116,117,118,119,120,121,122]⟩
def str_e9752c08:ByteArray:=⟨#[48,48,48,49,48,50,48,51,48,52,48,53,48,54,48,55,48,56,48,57,49,48,49,49,49,50,49,51,49,52,49,53,49,54,49,55,49,56,49,57,50,48,50,49,50,50,50,51,50,52,50,53,50,54,50,55,50,56,50,57,51,48,51,49,51,50,51,51,51,52,51,53,51,54,51,55,51,56,51,57,52,48,52,49,52,50,52,51,52,52,52,53,52,54,52,55,52,56,52,57,53,48,53,49,53,50,53,51,53,52,53,53,53,54,53,55,53,56,53,57,54,48,54,49,54,50,54,51,54,52,54,53,54,54,54,55,54,56,54,57,55,48,55,49,55,50,55,51,55,52,55,53,55,54,55,55,55,56,55,57,56,48,56,49,56,50,56,51,56,52,56,53,56,54,56,55,56,56,56,57,57,48,57,49,57,50,57,51,57,52,57,53,57,54,57,55,57,56,57,57]⟩
abbrev jI:Nat:=259
abbrev rU:Nat:=260
theorem inf_5:∃ i,prog.info? 5 = some i/\i.size = 1:=bI (by kernel_rfl)
abbrev qd:Nat:=261
def R_Suint8_string (r:Sl × ByteArray):Value:=.tuple #[(sv r.1),(.string r.2)]
def R_Suint8 (r:Sl):Value:=(sv r)
abbrev rE:Nat:=262
theorem en_259:aI prog 259:=R func259
theorem zero_326:∃ i,prog.info? 326 = some i/\i.zero = some (.agg [.int .u8 0,.int .u8 0,.int .u8 0,.int .u8 0,.int .u8 0,.int .u8 0,.int .u8 0,.int .u8 0,.int .u8 0,.int .u8 0,.int .u8 0,.int .u8 0,.int .u8 0,.int .u8 0,.int .u8 0,.int .u8 0,.int .u8 0,.int .u8 0,.int .u8 0,.int .u8 0,.int .u8 0,.int .u8 0,.int .u8 0,.int .u8 0].toArray):=kD (by kernel_rfl)
abbrev xo:Nat:=326
theorem arr_326:Arr prog 326 24 5 1:=⟨underlying326,bI (by kernel_rfl)⟩
theorem en_261:aI prog 261:=R func261
theorem en_260:aI prog 260:=R func260
theorem en_262:aI prog 262:=R func262
abbrev gR:Nat:=258
theorem en_258:aI prog 258:=R func258
abbrev ka:Nat:=257
theorem en_257:aI prog 257:=R func257
abbrev tT:Nat:=256
theorem en_256:aI prog 256:=R func256
abbrev jn:Nat:=253
abbrev tR:Nat:=254
abbrev oa:Nat:=255
abbrev t_api_Pick:Nat:=51
abbrev t_api_Call:Nat:=34
abbrev t_api_Line:Nat:=54
abbrev t_uint64:Nat:=22
abbrev tq:Nat:=114
abbrev fK:Nat:=118
abbrev eE:Nat:=161
abbrev t_api_Pte:Nat:=79
abbrev t_bool:Nat:=4
abbrev se:Nat:=272
abbrev t_tlb_line:Nat:=169
end
section
open Go Mb
theorem el_Sint:El prog dQ lG 1 8 [.int .i64 0]:=vv underlying39 (by kernel_rfl) rfl
theorem re:El prog dZ t_api_Event 16 128 [.int .i64 0,.int .i64 0,.int .u64 0,.int .u64 0,.int .u64 0,.int .u64 0,.int .u64 0,.int .i64 0,.int .i64 0,.int .i64 0,.int .i64 0,.int .u64 0,.int .i64 0,.int .i64 0,.int .i64 0,.int .i64 0]:=vv underlying42 (by kernel_rfl) rfl
theorem el_Sapi_Pick:El prog oB t_api_Pick 10 80 [.int .i64 0,.int .i64 0,.int .i64 0,.int .u64 0,.int .u64 0,.int .u64 0,.int .u64 0,.int .u64 0,.int .i64 0,.int .i64 0]:=vv underlying45 (by kernel_rfl) rfl
theorem el_Sapi_Call:El prog t_Sapi_Call t_api_Call 5 40 [.int .u64 0,.int .u64 0,.int .u64 0,.int .u64 0,.int .u64 0]:=vv underlying69 (by kernel_rfl) rfl
theorem el_Sapi_Line:El prog ro t_api_Line 4 32 [.int .i64 0,.int .i64 0,.int .i64 0,.int .i64 0]:=vv underlying76 (by kernel_rfl) rfl
theorem gi:El prog be t_uint64 1 8 [.int .u64 0]:=vv underlying93 (by kernel_rfl) rfl
theorem el_Sapi_Answer:El prog nE t_api_Answer 2 16 [.int .i64 0,.int .u64 0]:=vv underlying101 (by kernel_rfl) rfl
theorem el_SPtlb_Tlb:El prog bR tq 1 8 [pv none]:=vv underlying104 (by kernel_rfl) rfl
theorem el_SPkern_call:El prog nF fK 1 8 [pv none]:=vv underlying107 (by kernel_rfl) rfl
theorem xe:El prog fd eE 1 8 [pv none]:=vv underlying153 (by kernel_rfl) rfl
theorem vw:El prog qD be 1 24 [sv (⟨none,0,0,none⟩:Sl)]:=vv underlying163 (by kernel_rfl) rfl
theorem ul:El prog ir sI 2 16 [.int .i64 0,.int .i64 0]:=vv underlying201 (by kernel_rfl) rfl
theorem el_S_8_api_Cap:El prog t_S_8_api_Cap lQ 32 256 [.int .i64 0,.int .i64 0,.int .i64 0,.int .i64 0,.int .i64 0,.int .i64 0,.int .i64 0,.int .i64 0,.int .i64 0,.int .i64 0,.int .i64 0,.int .i64 0,.int .i64 0,.int .i64 0,.int .i64 0,.int .i64 0,.int .i64 0,.int .i64 0,.int .i64 0,.int .i64 0,.int .i64 0,.int .i64 0,.int .i64 0,.int .i64 0,.int .i64 0,.int .i64 0,.int .i64 0,.int .i64 0,.int .i64 0,.int .i64 0,.int .i64 0,.int .i64 0]:=vv underlying206 (by kernel_rfl) rfl
theorem el_Sapi_Pte:El prog qC t_api_Pte 3 24 [.int .i64 0,.int .i64 0,.int .i64 0]:=vv underlying240 (by kernel_rfl) rfl
theorem sF:aI prog nW:=R func93
theorem sE:aI prog rV:=R func95
theorem wc:aI prog mn:=R func189
theorem xd:aI prog gZ:=R func203
theorem enter_hist_Over_c1:aI prog tW:=R func221
theorem mp_map_int_bool:Mp prog jU lG t_bool (.bool false):=⟨underlying61,⟨_,underlying3⟩,kD (by kernel_rfl)⟩
theorem mp_map_int_int:Mp prog iq lG lG (.int .i64 0):=⟨underlying95,⟨_,underlying3⟩,kD (by kernel_rfl)⟩
theorem agn_8_api_Pte:Ag prog uE 24:=⟨⟨_,underlying80,rfl⟩,bI (by kernel_rfl)⟩
theorem arn_8_api_Pte:prog.underlying uE = some (.array 8 t_api_Pte):=underlying80
theorem age_8_api_Pte:Ag prog t_api_Pte 3:=⟨⟨_,underlying79,rfl⟩,bI (by kernel_rfl)⟩
theorem arn_2_tlb_line:prog.underlying t_2_tlb_line = some (.array 2 t_tlb_line):=underlying170
theorem age_2_tlb_line:Ag prog t_tlb_line 5:=⟨⟨_,underlying169,rfl⟩,bI (by kernel_rfl)⟩
theorem agn_8_api_Cap:Ag prog lQ 32:=⟨⟨_,underlying205,rfl⟩,bI (by kernel_rfl)⟩
theorem arn_8_api_Cap:prog.underlying lQ = some (.array 8 fZ):=underlying205
theorem age_8_api_Cap:Ag prog fZ 4:=⟨⟨_,underlying36,rfl⟩,bI (by kernel_rfl)⟩
end
section
open Go Mb
def sh_word_Kind (a0:ai) (K:kT (Int × Bool)):hT:=br (((decide (a0.e0 >= 1)) && (decide (a0.e0 <= 10))) || ((decide (a0.e0 >= 20)) && (decide (a0.e0 <= 23)))) ( K ((i64.wrap a0.e0),true)) ( K (0,false))
theorem sim_word_Kind (a0:ai) {K:kT (Int × Bool)} {h:Hp} (H:sh_word_Kind a0 K h):cl prog n_word_Kind [(.agg (ai.C a0).toArray)] bM K h:=z_i func63 p p fun _=>O<|aa<|cR (l:=ai.C a0) p p p fun b1=>J (au p)<|U p<|al<|O<|J (bC dp p p (by decide))<|bm (bg (k:=0) cC p p p) p<|U p<|O<|M p<|J (jS p p)<|M p<|W p p (ax _) (fun g1=>wv<|ah p)<|W p p (ax _) (fun g2=>wv<|v_le (aD p g2) p)<|J (bO p p)<|M p<|W p p (aL _) (fun g3=>wv<|ah p)<|W p p (aL _) (fun g4=>wv<|jS (aD p g4) p)<|W p p (aL _) (fun g5=>wv<|ah<|aD p g5)<|W p p (sd _ _) (fun g6=>wv<|ah p)<|W p p (sd _ _) (fun g7=>wv<|v_le (aD p g7) p)<|W p p (aL _) (fun g8=>wv<|bO (aD p g8)<|aG p<|yh g8)<|J (dy p p)<|ad<|av p H (fun k9 H10=>O<|M p<|J (du ⟨_,underlying22⟩ underlying3 p)<|J (au p)<|U p<|aj<|bB (bS p (bZ p)<|bZ p) ⟨((i64.wrap a0.e0),true),p,H10⟩) fun k9 H10=>an<|O<|J (au p)<|U p<|aj<|bB (bS p (bZ p)<|bZ p) ⟨(0,false),p,H10⟩
def ay (a0:ai):Int × Bool:=(bif (((decide (a0.e0 >= 1)) && (decide (a0.e0 <= 10))) || ((decide (a0.e0 >= 20)) && (decide (a0.e0 <= 23)))) then (((i64.wrap a0.e0),true)) else ((0,false)))
theorem pr_word_Kind (a0:ai) {K:kT (Int × Bool)} {h:Hp} (k:K (ay a0) h):sh_word_Kind a0 K h:=(kS (K:=K) (fun k=>k) (fun k=>k)) k
theorem kQ (a0:ai) (h:Hp):Ct prog n_word_Kind #[(.agg (ai.C a0).toArray)] h fun v h'=>∃ r,v = bM r/\(r = ay a0/\h' = h):=sim_word_Kind a0 (pr_word_Kind a0 ⟨rfl,rfl⟩)
def sh_word_User (a0:Int) (K:kT Bool):hT:=K ((decide (a0 >= 20)) && (decide (a0 <= 23)))
theorem sim_word_User (a0:Int) {K:kT Bool} {h:Hp} (H:sh_word_User a0 K h):cl prog n_word_User [(.int .i64 a0)] aB K h:=z_i func64 p p fun _=>O<|U p<|O<|M p<|J (jS p p)<|M p<|W p p (ax _) (fun g1=>wv<|ah p)<|W p p (ax _) (fun g2=>wv<|v_le (aD p g2) p)<|J (bO p p)<|U p<|aj<|Z ⟨((decide (a0 >= 20)) && (decide (a0 <= 23))),p,H⟩
def bF (a0:Int):Bool:=(((decide (a0 >= 20)) && (decide (a0 <= 23))))
theorem pr_word_User (a0:Int) {K:kT Bool} {h:Hp} (k:K (bF a0) h):sh_word_User a0 K h:=(fun k=>k) k
theorem tb (a0:Int) (h:Hp):Ct prog n_word_User #[(.int .i64 a0)] h fun v h'=>∃ r,v = aB r/\(r = bF a0/\h' = h):=sim_word_User a0 (pr_word_User a0 ⟨rfl,rfl⟩)
def sh_word_Rights (a0:Int) (K:kT (Int × Bool)):hT:=br ((decide (a0 < 1)) || (decide (a0 > 3))) ( K (0,false)) ( K ((i64.wrap a0),true))
theorem sim_word_Rights (a0:Int) {K:kT (Int × Bool)} {h:Hp} (H:sh_word_Rights a0 K h):cl prog n_word_Rights [(.int .u64 a0)] bM K h:=z_i func193 p p fun _=>O<|J (au p)<|U p<|al<|O<|M p<|J (ci p p)<|M p<|W p p (aL _) (fun g1=>wv<|ah p)<|W p p (aL _) (fun g2=>wv<|oY (aD p g2) p)<|J (dy p p)<|ad<|av p H (fun k3 H4=>O<|J (au p)<|U p<|aj<|bB (bS p (bZ p)<|bZ p) ⟨(0,false),p,H4⟩) fun k3 H4=>an<|O<|M p<|J (du ⟨_,underlying22⟩ underlying3 p)<|J (au p)<|U p<|aj<|bB (bS p (bZ p)<|bZ p) ⟨((i64.wrap a0),true),p,H4⟩
def iF (a0:Int):Int × Bool:=(bif ((decide (a0 < 1)) || (decide (a0 > 3))) then ((0,false)) else (((i64.wrap a0),true)))
theorem pr_word_Rights (a0:Int) {K:kT (Int × Bool)} {h:Hp} (k:K (iF a0) h):sh_word_Rights a0 K h:=(kS (K:=K) (fun k=>k) (fun k=>k)) k
theorem ct_word_Rights (a0:Int) (h:Hp):Ct prog n_word_Rights #[(.int .u64 a0)] h fun v h'=>∃ r,v = bM r/\(r = iF a0/\h' = h):=sim_word_Rights a0 (pr_word_Rights a0 ⟨rfl,rfl⟩)
def sh_table_is (a0:Int) (K:kT Bool):hT:=K ((decide (a0 >= 0)) && (decide (a0 < 8)))
theorem sim_table_is (a0:Int) {K:kT Bool} {h:Hp} (H:sh_table_is a0 K h):cl prog n_table_is [(.int .i64 a0)] aB K h:=z_i func156 p p fun _=>O<|U p<|O<|M p<|J (jS p p)<|M p<|W p p (ax _) (fun g1=>wv<|ah p)<|W p p (ax _) (fun g2=>wv<|ci (aD p g2) p)<|J (bO p p)<|U p<|aj<|Z ⟨((decide (a0 >= 0)) && (decide (a0 < 8))),p,H⟩
def bq (a0:Int):Bool:=(((decide (a0 >= 0)) && (decide (a0 < 8))))
theorem pr_table_is (a0:Int) {K:kT Bool} {h:Hp} (k:K (bq a0) h):sh_table_is a0 K h:=(fun k=>k) k
theorem vx (a0:Int) (h:Hp):Ct prog n_table_is #[(.int .i64 a0)] h fun v h'=>∃ r,v = aB r/\(r = bq a0/\h' = h):=sim_table_is a0 (pr_table_is a0 ⟨rfl,rfl⟩)
def sh_pte_May (a0:Int) (K:kT Bool):hT:=K ((decide (a0 >= 1)) && (decide (a0 <= 3)))
theorem sim_pte_May (a0:Int) {K:kT Bool} {h:Hp} (H:sh_pte_May a0 K h):cl prog n_pte_May [(.int .i64 a0)] aB K h:=z_i func166 p p fun _=>O<|U p<|O<|M p<|J (jS p p)<|M p<|W p p (ax _) (fun g1=>wv<|ah p)<|W p p (ax _) (fun g2=>wv<|v_le (aD p g2) p)<|J (bO p p)<|U p<|aj<|Z ⟨((decide (a0 >= 1)) && (decide (a0 <= 3))),p,H⟩
def cg (a0:Int):Bool:=(((decide (a0 >= 1)) && (decide (a0 <= 3))))
theorem pr_pte_May (a0:Int) {K:kT Bool} {h:Hp} (k:K (cg a0) h):sh_pte_May a0 K h:=(fun k=>k) k
theorem qW (a0:Int) (h:Hp):Ct prog n_pte_May #[(.int .i64 a0)] h fun v h'=>∃ r,v = aB r/\(r = cg a0/\h' = h):=sim_pte_May a0 (pr_pte_May a0 ⟨rfl,rfl⟩)
def sh_pte_Within (a0:Int) (a1:Int) (K:kT Bool):hT:=K (((cg a0) && (cg a1)) && ((iandnot .i64 a0 a1) == 0))
theorem sim_pte_Within (a0:Int) (a1:Int) {K:kT Bool} {h:Hp} (H:sh_pte_Within a0 a1 K h):cl prog n_pte_Within [(.int .i64 a0),(.int .i64 a1)] aB K h:=z_i func116 p p fun _=>O<|U p<|O<|M p<|aa<|cQ (vs:=[(.int .i64 a0)]) (bA<|qW a0 _) en_166 p p<|M p<|W p p (ax _) (fun g1=>wv<|ah p)<|di (vs:=[(.int .i64 a1)]) p p p (ax _) (fun g2=>bA<|qW a1 _) en_166 (fun g2=>aT (aD p g2) bT) p<|J (bO p p)<|M p<|W p p (ax _) (fun g3=>wv<|ah p)<|W p p (ax _) (fun g4=>wv<|ah p)<|W p p (ax _) (fun g5=>wv<|v_iandnot (aD p g5)<|aD p g5)<|W p p (ax _) (fun g6=>wv<|bP (aD p g6) p)<|J (bO p p)<|U p<|aj<|Z ⟨(((cg a0) && (cg a1)) && ((iandnot .i64 a0 a1) == 0)),p,H⟩
def aO (a0:Int) (a1:Int):Bool:=((((cg a0) && (cg a1)) && ((iandnot .i64 a0 a1) == 0)))
theorem pr_pte_Within (a0:Int) (a1:Int) {K:kT Bool} {h:Hp} (k:K (aO a0 a1) h):sh_pte_Within a0 a1 K h:=(fun k=>k) k
theorem dl (a0:Int) (a1:Int) (h:Hp):Ct prog n_pte_Within #[(.int .i64 a0),(.int .i64 a1)] h fun v h'=>∃ r,v = aB r/\(r = aO a0 a1/\h' = h):=sim_pte_Within a0 a1 (pr_pte_Within a0 a1 ⟨rfl,rfl⟩)
def sh_pte_Put (a0:ao) (K:kT (Int × Bool)):hT:=br (ao.eqb a0 (⟨0,0,0⟩:ao)) ( K (0,true)) ( br (((((decide (a0.fEa < 0)) || (decide (a0.fEa >= 16))) || (decide (a0.fDa < 0))) || (decide (a0.fDa >= 8))) || (!(cg a0.fBa))) ( K (0,false)) ( K ((u64.wrap (i64.wrap ((i64.wrap ((i64.wrap (32768 + (i64.wrap (256 * a0.fEa)))) + (i64.wrap (16 * a0.fDa)))) + a0.fBa))),true)))
theorem sim_pte_Put (a0:ao) {K:kT (Int × Bool)} {h:Hp} (H:sh_pte_Put a0 K h):cl prog n_pte_Put [(.agg (ao.C a0).toArray)] bK K h:=z_i func155 p p fun _=>O<|aa<|cR (l:=ao.C a0) p p p fun b1=>J (au p)<|U p<|al<|O<|bm (bG (k:=0) fV p p p p) p<|J (ba (vs:=[]) p nO)<|J (v_eqA eqg_79 (eqr_79 9998 _ _) p p)<|ad<|av p H (fun k1 H2=>O<|J (au p)<|U p<|aj<|bB (bS p (bZ p)<|bZ p) ⟨(0,true),p,H2⟩) fun k1 H2=>an<|al<|O<|J (ae rG p)<|bm (bg (k:=0) aZ p p p) p<|J (ci p p)<|M p<|W p p (aL _) (fun g3=>wv<|ae rG p)<|W p p (aL _) (fun g4=>cv<|bg (k:=0) aZ (aD p g4) p p)<|W p p (aL _) (fun g5=>wv<|jS (aD p g5) p)<|J (dy p p)<|M p<|W p p (aL _) (fun g6=>wv<|ae uc p)<|W p p (aL _) (fun g7=>cv<|bg (k:=0) aZ (aD p g7) p p)<|W p p (aL _) (fun g8=>wv<|ci (aD p g8) p)<|J (dy p p)<|M p<|W p p (aL _) (fun g9=>wv<|ae uc p)<|W p p (aL _) (fun g10=>cv<|bg (k:=0) aZ (aD p g10) p p)<|W p p (aL _) (fun g11=>wv<|jS (aD p g11) p)<|J (dy p p)<|M p<|W p p (aL _) (fun g12=>wv<|ae eZ p)<|W p p (aL _) (fun g13=>cv<|bg (k:=0) aZ (aD p g13) p p)<|di (vs:=[(.int .i64 a0.fBa)]) p p p (aL _) (fun g14=>bA<|qW a0.fBa _) en_166 (fun g14=>aT (aD p g14) bT) p<|W p p (aL _) (fun g15=>wv<|cu<|aD p g15)<|J (dy p p)<|ad<|av p H2 (fun k16 H17=>O<|J (au p)<|U p<|aj<|bB (bS p (bZ p)<|bZ p) ⟨(0,false),p,H17⟩) fun k16 H17=>an<|O<|J (ae rG p)<|bm (bg (k:=0) aZ p p p) p<|J (v_mul p p)<|J (bj p p)<|J (ae uc p)<|bm (bg (k:=0) aZ p p p) p<|J (v_mul p p)<|J (bj p p)<|J (ae eZ p)<|bm (bg (k:=0) aZ p p p) p<|J (bj p p)<|J (du ⟨_,underlying3⟩ underlying22 p)<|J (au p)<|U p<|aj<|bB (bS p (bZ p)<|bZ p) ⟨((u64.wrap (i64.wrap ((i64.wrap ((i64.wrap (32768 + (i64.wrap (256 * a0.fEa)))) + (i64.wrap (16 * a0.fDa)))) + a0.fBa))),true),p,H17⟩
def fh (a0:ao):Int × Bool:=(bif (ao.eqb a0 (⟨0,0,0⟩:ao)) then ((0,true)) else (bif (((((decide (a0.fEa < 0)) || (decide (a0.fEa >= 16))) || (decide (a0.fDa < 0))) || (decide (a0.fDa >= 8))) || (!(cg a0.fBa))) then ((0,false)) else (((u64.wrap (i64.wrap ((i64.wrap ((i64.wrap (32768 + (i64.wrap (256 * a0.fEa)))) + (i64.wrap (16 * a0.fDa)))) + a0.fBa))),true))))
theorem pr_pte_Put (a0:ao) {K:kT (Int × Bool)} {h:Hp} (k:K (fh a0) h):sh_pte_Put a0 K h:=(kS (K:=K) (fun k=>k) (kS (K:=K) (fun k=>k) (fun k=>k))) k
theorem ct_pte_Put (a0:ao) (h:Hp):Ct prog n_pte_Put #[(.agg (ao.C a0).toArray)] h fun v h'=>∃ r,v = bK r/\(r = fh a0/\h' = h):=sim_pte_Put a0 (pr_pte_Put a0 ⟨rfl,rfl⟩)
def sh_tlb_empty (K:kT am):hT:=K (⟨(-1),0,0,0⟩:am)
theorem sim_tlb_empty {K:kT am} {h:Hp} (H:sh_tlb_empty K h):cl prog n_tlb_empty [] R_api_Line K h:=z_i func152 p p fun _=>O<|aa<|aM (l:=am.C (⟨0,0,0,0⟩:am)) kE p p fun b0=>ad<|O<|J (ba p<|build_54_0 (-1))<|aa<|aP (k:=0) (vs:=am.C (⟨(-1),0,0,0⟩:am)) fO p p p p p p p<|ad<|aj<|bB (nJ p<|bE (k:=0) p hO p p) ⟨(⟨(-1),0,0,0⟩:am),p,H⟩
def gr:am:=((⟨(-1),0,0,0⟩:am))
theorem pr_tlb_empty {K:kT am} {h:Hp} (k:K (gr) h):sh_tlb_empty K h:=(fun k=>k) k
theorem ct_tlb_empty (h:Hp):Ct prog n_tlb_empty #[] h fun v h'=>∃ r,v = R_api_Line r/\(r = gr/\h' = h):=sim_tlb_empty (pr_tlb_empty ⟨rfl,rfl⟩)
def sh_pte_Lets (a0:Int) (a1:Int) (K:kT Bool):hT:=br (a1 == 20) ( K (aO 1 a0)) ( br (a1 == 21) ( K (aO 2 a0)) ( br (a1 == 22) ( K (aO 3 a0)) ( br (a1 == 23) ( K (aO 3 a0)) ( K (aO 0 a0)))))
theorem sim_pte_Lets (a0:Int) (a1:Int) {K:kT Bool} {h:Hp} (H:sh_pte_Lets a0 a1 K h):cl prog n_pte_Lets [(.int .i64 a0),(.int .i64 a1)] aB K h:=z_i func158 p p fun _=>O<|U p<|O<|U p<|al<|O<|M p<|ad<|aw<|O<|J (bP p p)<|U p<|av p H (fun k1 H2=>ap<|U p<|O<|M p<|M p<|aa<|cQ (vs:=[(.int .i64 1),(.int .i64 a0)]) (bA<|dl 1 a0 _) nt p p<|U p<|aj<|Z ⟨aO 1 a0,p,H2⟩) fun k1 H2=>O<|J (bP p p)<|U p<|av p H2 (fun k3 H4=>ap<|U p<|O<|M p<|M p<|aa<|cQ (vs:=[(.int .i64 2),(.int .i64 a0)]) (bA<|dl 2 a0 _) nt p p<|U p<|aj<|Z ⟨aO 2 a0,p,H4⟩) fun k3 H4=>al<|O<|J (bP p p)<|U p<|av p H4 (fun k5 H6=>an<|ns p k5<|ap<|U p<|O<|M p<|M p<|aa<|cQ (vs:=[(.int .i64 3),(.int .i64 a0)]) (bA<|dl 3 a0 _) nt p p<|U p<|aj<|Z ⟨aO 3 a0,p,H6⟩) fun k5 H6=>ap<|J (bP p p)<|U p<|av p H6 (fun k7 H8=>ap<|U p<|O<|M p<|M p<|aa<|cQ (vs:=[(.int .i64 3),(.int .i64 a0)]) (bA<|dl 3 a0 _) nt p p<|U p<|aj<|Z ⟨aO 3 a0,p,H8⟩) fun k7 H8=>an<|O<|M p<|M p<|aa<|cQ (vs:=[(.int .i64 0),(.int .i64 a0)]) (bA<|dl 0 a0 _) nt p p<|U p<|aj<|Z ⟨aO 0 a0,p,H8⟩
def cy (a0:Int) (a1:Int):Bool:=(bif (a1 == 20) then ((aO 1 a0)) else (bif (a1 == 21) then ((aO 2 a0)) else (bif (a1 == 22) then ((aO 3 a0)) else (bif (a1 == 23) then ((aO 3 a0)) else ((aO 0 a0))))))
theorem pr_pte_Lets (a0:Int) (a1:Int) {K:kT Bool} {h:Hp} (k:K (cy a0 a1) h):sh_pte_Lets a0 a1 K h:=(kS (K:=K) (fun k=>k) (kS (K:=K) (fun k=>k) (kS (K:=K) (fun k=>k) (kS (K:=K) (fun k=>k) (fun k=>k))))) k
theorem kB (a0:Int) (a1:Int) (h:Hp):Ct prog n_pte_Lets #[(.int .i64 a0),(.int .i64 a1)] h fun v h'=>∃ r,v = aB r/\(r = cy a0 a1/\h' = h):=sim_pte_Lets a0 a1 (pr_pte_Lets a0 a1 ⟨rfl,rfl⟩)
def sB (a0:Int) (K:kT Bool):hT:=K (a0 != a0)
theorem sim_cmp_isNaN_uint64 (a0:Int) {K:kT Bool} {h:Hp} (H:sB a0 K h):cl prog tX [(.int .u64 a0)] aB K h:=z_i func218 p p fun _=>O<|U p<|O<|M p<|M p<|J (oX p p)<|U p<|aj<|Z ⟨(a0 != a0),p,H⟩
def dC (a0:Int):Bool:=((a0 != a0))
theorem pr_cmp_isNaN_uint64 (a0:Int) {K:kT Bool} {h:Hp} (k:K (dC a0) h):sB a0 K h:=(fun k=>k) k
theorem sG (a0:Int) (h:Hp):Ct prog tX #[(.int .u64 a0)] h fun v h'=>∃ r,v = aB r/\(r = dC a0/\h' = h):=sim_cmp_isNaN_uint64 a0 (pr_cmp_isNaN_uint64 a0 ⟨rfl,rfl⟩)
def tI (a0:Int) (a1:Int) (K:kT Bool):hT:=K (((dC a0) && (!(dC a1))) || (decide (a0 < a1)))
theorem sim_cmp_Less_uint64 (a0:Int) (a1:Int) {K:kT Bool} {h:Hp} (H:tI a0 a1 K h):cl prog vq [(.int .u64 a0),(.int .u64 a1)] aB K h:=z_i func195 p p fun _=>O<|U p<|O<|M p<|aa<|cQ (vs:=[(.int .u64 a0)]) (bA<|sG a0 _) en_218 p p<|M p<|W p p (ax _) (fun g1=>wv<|ah p)<|di (vs:=[(.int .u64 a1)]) p p p (ax _) (fun g2=>bA<|sG a1 _) en_218 (fun g2=>aT (aD p g2) bT) p<|W p p (ax _) (fun g3=>wv<|cu<|aD p g3)<|J (bO p p)<|M p<|W p p (aL _) (fun g4=>wv<|ah p)<|W p p (aL _) (fun g5=>wv<|ah p)<|W p p (aL _) (fun g6=>wv<|ci (aD p g6)<|aD p g6)<|J (dy p p)<|U p<|aj<|Z ⟨(((dC a0) && (!(dC a1))) || (decide (a0 < a1))),p,H⟩
def iG (a0:Int) (a1:Int):Bool:=((((dC a0) && (!(dC a1))) || (decide (a0 < a1))))
theorem pr_cmp_Less_uint64 (a0:Int) (a1:Int) {K:kT Bool} {h:Hp} (k:K (iG a0 a1) h):tI a0 a1 K h:=(fun k=>k) k
theorem ct_cmp_Less_uint64 (a0:Int) (a1:Int) (h:Hp):Ct prog vq #[(.int .u64 a0),(.int .u64 a1)] h fun v h'=>∃ r,v = aB r/\(r = iG a0 a1/\h' = h):=sim_cmp_Less_uint64 a0 a1 (pr_cmp_Less_uint64 a0 a1 ⟨rfl,rfl⟩)
def pq (a0:Int) (K:kT Bool):hT:=K (a0 != a0)
theorem wq (a0:Int) {K:kT Bool} {h:Hp} (H:pq a0 K h):cl prog qu [(.int .u64 a0)] aB K h:=z_i func196 p p fun _=>O<|U p<|O<|M p<|M p<|J (oX p p)<|U p<|aj<|Z ⟨(a0 != a0),p,H⟩
def dO (a0:Int):Bool:=((a0 != a0))
theorem xQ (a0:Int) {K:kT Bool} {h:Hp} (k:K (dO a0) h):pq a0 K h:=(fun k=>k) k
theorem pU (a0:Int) (h:Hp):Ct prog qu #[(.int .u64 a0)] h fun v h'=>∃ r,v = aB r/\(r = dO a0/\h' = h):=wq a0 (xQ a0 ⟨rfl,rfl⟩)
def sh_plain_fails (a0:Int) (K:kT (ab × Bool)):hT:=K ((⟨a0,0⟩:ab),true)
theorem sim_plain_fails (a0:Int) {K:kT (ab × Bool)} {h:Hp} (H:sh_plain_fails a0 K h):cl prog n_plain_fails [(.int .i64 a0)] bc K h:=z_i func123 p p fun _=>O<|aa<|aM (l:=ab.C (⟨0,0⟩:ab)) cY p p fun b2=>U p<|O<|M p<|J (ba p<|jL a0)<|aa<|aP (k:=0) (vs:=ab.C (⟨a0,0⟩:ab)) bL p p p p p p p<|U p<|aj<|bB (bS p (bE (k:=0) p cL p p)<|bZ p) ⟨((⟨a0,0⟩:ab),true),p,H⟩
def aN (a0:Int):ab × Bool:=(((⟨a0,0⟩:ab),true))
theorem pr_plain_fails (a0:Int) {K:kT (ab × Bool)} {h:Hp} (k:K (aN a0) h):sh_plain_fails a0 K h:=(fun k=>k) k
theorem dS (a0:Int) (h:Hp):Ct prog n_plain_fails #[(.int .i64 a0)] h fun v h'=>∃ r,v = bc r/\(r = aN a0/\h' = h):=sim_plain_fails a0 (pr_plain_fails a0 ⟨rfl,rfl⟩)
def sh_pred_Holds (a0:Int) (a1:Int) (a2:Int) (K:kT Bool):hT:=br (a0 == 1) ( K (a1 == a2)) ( br (a0 == 2) ( K (a1 != a2)) ( br (a0 == 3) ( K (decide (a1 < a2))) ( br (a0 == 4) ( K (decide (a1 > a2))) ( K false))))
theorem sim_pred_Holds (a0:Int) (a1:Int) (a2:Int) {K:kT Bool} {h:Hp} (H:sh_pred_Holds a0 a1 a2 K h):cl prog n_pred_Holds [(.int .i64 a0),(.int .u64 a1),(.int .u64 a2)] aB K h:=z_i func148 p p fun _=>O<|U p<|al<|O<|M p<|ad<|aw<|O<|J (bP p p)<|U p<|av p H (fun k1 H2=>O<|M p<|M p<|J (bP p p)<|U p<|aj<|Z ⟨(a1 == a2),p,H2⟩) fun k1 H2=>O<|J (bP p p)<|U p<|av p H2 (fun k3 H4=>O<|M p<|M p<|J (oX p p)<|U p<|aj<|Z ⟨(a1 != a2),p,H4⟩) fun k3 H4=>O<|J (bP p p)<|U p<|av p H4 (fun k5 H6=>O<|M p<|M p<|J (ci p p)<|U p<|aj<|Z ⟨decide (a1 < a2),p,H6⟩) fun k5 H6=>O<|J (bP p p)<|U p<|av p H6 (fun k7 H8=>O<|M p<|M p<|J (oY p p)<|U p<|aj<|Z ⟨decide (a1 > a2),p,H8⟩) fun k7 H8=>an<|O<|U p<|aj<|Z ⟨false,p,H8⟩
def nK (a0:Int) (a1:Int) (a2:Int):Bool:=(bif (a0 == 1) then ((a1 == a2)) else (bif (a0 == 2) then ((a1 != a2)) else (bif (a0 == 3) then ((decide (a1 < a2))) else (bif (a0 == 4) then ((decide (a1 > a2))) else (false)))))
theorem pr_pred_Holds (a0:Int) (a1:Int) (a2:Int) {K:kT Bool} {h:Hp} (k:K (nK a0 a1 a2) h):sh_pred_Holds a0 a1 a2 K h:=(kS (K:=K) (fun k=>k) (kS (K:=K) (fun k=>k) (kS (K:=K) (fun k=>k) (kS (K:=K) (fun k=>k) (fun k=>k))))) k
theorem wg (a0:Int) (a1:Int) (a2:Int) (h:Hp):Ct prog n_pred_Holds #[(.int .i64 a0),(.int .u64 a1),(.int .u64 a2)] h fun v h'=>∃ r,v = aB r/\(r = nK a0 a1 a2/\h' = h):=sim_pred_Holds a0 a1 a2 (pr_pred_Holds a0 a1 a2 ⟨rfl,rfl⟩)
def sh_hist_one (a0:aE) (a1:aH) (a2:Int) (K:kT Bool):hT:=br (((((decide (a0.fQa < 0)) || (decide (a0.fQa >= a1.fVa))) || (decide (a0.fCa < 0))) || (decide (a0.fCa >= a1.fIa))) || (decide (a0.fRa <= a2))) ( K false) ( br (a0.fHa == 0) ( K (a0.fXa == 0)) ( K ((decide (a0.fHa >= a0.fRa)) && ((a0.fXa == 0) || (decide (a0.fXa >= a0.fHa))))))
theorem sim_hist_one (a0:aE) (a1:aH) (a2:Int) {K:kT Bool} {h:Hp} (H:sh_hist_one a0 a1 a2 K h):cl prog n_hist_one [(.agg (aE.C a0).toArray),(.agg (aH.C a1).toArray),(.int .i64 a2)] aB K h:=z_i func61 p p fun _=>O<|aa<|cR (l:=aE.C a0) p p p fun b3=>aa<|cR (l:=aH.C a1) p p p fun b4=>U p<|al<|aw<|O<|J (ae ue p)<|bm (bg (k:=1) aZ p p p) p<|J (ci p p)<|M p<|W p p (aL _) (fun g1=>wv<|ae ue p)<|W p p (aL _) (fun g2=>cv<|bg (k:=1) aZ (aD p g2) p p)<|W p p (aL _) (fun g3=>wv<|ae pT p)<|W p p (aL _) (fun g4=>cv<|bg (k:=0) aZ (aD p g4) p p)<|W p p (aL _) (fun g5=>wv<|jS (aD p g5)<|aD p g5)<|J (dy p p)<|M p<|W p p (aL _) (fun g6=>wv<|ae pS p)<|W p p (aL _) (fun g7=>cv<|bg (k:=1) aZ (aD p g7) p p)<|W p p (aL _) (fun g8=>wv<|ci (aD p g8) p)<|J (dy p p)<|M p<|W p p (aL _) (fun g9=>wv<|ae pS p)<|W p p (aL _) (fun g10=>cv<|bg (k:=1) aZ (aD p g10) p p)<|W p p (aL _) (fun g11=>wv<|ae nN p)<|W p p (aL _) (fun g12=>cv<|bg (k:=0) aZ (aD p g12) p p)<|W p p (aL _) (fun g13=>wv<|jS (aD p g13)<|aD p g13)<|J (dy p p)<|M p<|W p p (aL _) (fun g14=>wv<|ae ud p)<|W p p (aL _) (fun g15=>cv<|bg (k:=1) aZ (aD p g15) p p)<|W p p (aL _) (fun g16=>wv<|ah p)<|W p p (aL _) (fun g17=>wv<|v_le (aD p g17)<|aD p g17)<|J (dy p p)<|U p<|av p H (fun k18 H19=>O<|U p<|aj<|Z ⟨false,p,H19⟩) fun k18 H19=>O<|J (ae jx p)<|bm (bg (k:=1) aZ p p p) p<|J (bP p p)<|U p<|av p H19 (fun k20 H21=>O<|J (ae rH p)<|bm (bg (k:=1) aZ p p p) p<|J (bP p p)<|U p<|aj<|Z ⟨(a0.fXa == 0),p,H21⟩) fun k20 H21=>an<|O<|J (ae jx p)<|bm (bg (k:=1) aZ p p p) p<|J (ae ud p)<|bm (bg (k:=1) aZ p p p) p<|J (jS p p)<|M p<|W p p (ax _) (fun g22=>wv<|ae rH p)<|W p p (ax _) (fun g23=>cv<|bg (k:=1) aZ (aD p g23) p p)<|W p p (ax _) (fun g24=>wv<|bP (aD p g24) p)<|W p p (ax _) (fun g25=>wv<|ah<|aD p g25)<|W p p (eA _ _) (fun g26=>wv<|ae rH p)<|W p p (eA _ _) (fun g27=>cv<|bg (k:=1) aZ (aD p g27) p p)<|W p p (eA _ _) (fun g28=>wv<|ae jx p)<|W p p (eA _ _) (fun g29=>cv<|bg (k:=1) aZ (aD p g29) p p)<|W p p (eA _ _) (fun g30=>wv<|jS (aD p g30)<|aD p g30)<|W p p (ax _) (fun g31=>wv<|dy (aD p g31)<|aG p<|yh g31)<|J (bO p p)<|U p<|aj<|Z ⟨((decide (a0.fHa >= a0.fRa)) && ((a0.fXa == 0) || (decide (a0.fXa >= a0.fHa)))),p,H21⟩
def eS (a0:aE) (a1:aH) (a2:Int):Bool:=(bif (((((decide (a0.fQa < 0)) || (decide (a0.fQa >= a1.fVa))) || (decide (a0.fCa < 0))) || (decide (a0.fCa >= a1.fIa))) || (decide (a0.fRa <= a2))) then (false) else (bif (a0.fHa == 0) then ((a0.fXa == 0)) else (((decide (a0.fHa >= a0.fRa)) && ((a0.fXa == 0) || (decide (a0.fXa >= a0.fHa)))))))
theorem pr_hist_one (a0:aE) (a1:aH) (a2:Int) {K:kT Bool} {h:Hp} (k:K (eS a0 a1 a2) h):sh_hist_one a0 a1 a2 K h:=(kS (K:=K) (fun k=>k) (kS (K:=K) (fun k=>k) (fun k=>k))) k
theorem ct_hist_one (a0:aE) (a1:aH) (a2:Int) (h:Hp):Ct prog n_hist_one #[(.agg (aE.C a0).toArray),(.agg (aH.C a1).toArray),(.int .i64 a2)] h fun v h'=>∃ r,v = aB r/\(r = eS a0 a1 a2/\h' = h):=sim_hist_one a0 a1 a2 (pr_hist_one a0 a1 a2 ⟨rfl,rfl⟩)
def wI (a0:aE) (K:kT Bool):hT:=K (decide (a0.fHa > 0))
theorem sim_hist_Order_c1 (a0:aE) {K:kT Bool} {h:Hp} (H:wI a0 K h):cl prog nW [(.agg (aE.C a0).toArray)] aB K h:=z_i func93 p p fun _=>O<|aa<|cR (l:=aE.C a0) p p p fun b1=>U p<|O<|J (ae jx p)<|bm (bg (k:=0) aZ p p p) p<|J (oY p p)<|U p<|aj<|Z ⟨decide (a0.fHa > 0),p,H⟩
def wO (a0:aE):Bool:=((decide (a0.fHa > 0)))
theorem pr_hist_Order_c1 (a0:aE) {K:kT Bool} {h:Hp} (k:K (wO a0) h):wI a0 K h:=(fun k=>k) k
theorem xf (a0:aE) (h:Hp):Ct prog nW #[(.agg (aE.C a0).toArray)] h fun v h'=>∃ r,v = aB r/\(r = wO a0/\h' = h):=sim_hist_Order_c1 a0 (pr_hist_Order_c1 a0 ⟨rfl,rfl⟩)
def wJ (a0:Int) (K:kT Bool):hT:=K (a0 != a0)
theorem sim_cmp_isNaN_int (a0:Int) {K:kT Bool} {h:Hp} (H:wJ a0 K h):cl prog n_cmp_isNaN_int [(.int .i64 a0)] aB K h:=z_i func138 p p fun _=>O<|U p<|O<|M p<|M p<|J (oX p p)<|U p<|aj<|Z ⟨(a0 != a0),p,H⟩
def eJ (a0:Int):Bool:=((a0 != a0))
theorem pr_cmp_isNaN_int (a0:Int) {K:kT Bool} {h:Hp} (k:K (eJ a0) h):wJ a0 K h:=(fun k=>k) k
theorem xg (a0:Int) (h:Hp):Ct prog n_cmp_isNaN_int #[(.int .i64 a0)] h fun v h'=>∃ r,v = aB r/\(r = eJ a0/\h' = h):=sim_cmp_isNaN_int a0 (pr_cmp_isNaN_int a0 ⟨rfl,rfl⟩)
def tJ (a0:Int) (a1:Int) (K:kT Int):hT:=br (eJ a0) ( br (eJ a1) ( K 0) ( K (-1))) ( br (eJ a1) ( K 1) ( br (decide (a0 < a1)) ( K (-1)) ( br (decide (a0 > a1)) ( K 1) ( K 0))))
theorem sim_cmp_Compare_int (a0:Int) (a1:Int) {K:kT Int} {h:Hp} (H:tJ a0 a1 K h):cl prog vr [(.int .i64 a0),(.int .i64 a1)] eB K h:=z_i func96 p p fun _=>O<|U p<|O<|M p<|aa<|cQ (vs:=[(.int .i64 a0)]) (bA<|xg a0 _) en_138 p p<|U p<|O<|M p<|aa<|cQ (vs:=[(.int .i64 a1)]) (bA<|xg a1 _) en_138 p p<|U p<|al<|O<|M p<|ad<|av p H (fun k1 H2=>al<|O<|M p<|ad<|av p H2 (fun k3 H4=>O<|U p<|aj<|Z ⟨0,p,H4⟩) fun k3 H4=>an<|O<|U p<|aj<|Z ⟨(-1),p,H4⟩) fun k1 H2=>an<|al<|O<|M p<|ad<|av p H2 (fun k5 H6=>O<|U p<|aj<|Z ⟨1,p,H6⟩) fun k5 H6=>an<|al<|O<|M p<|M p<|J (ci p p)<|ad<|av p H6 (fun k7 H8=>O<|U p<|aj<|Z ⟨(-1),p,H8⟩) fun k7 H8=>an<|al<|O<|M p<|M p<|J (oY p p)<|ad<|av p H8 (fun k9 H10=>O<|U p<|aj<|Z ⟨1,p,H10⟩) fun k9 H10=>an<|O<|U p<|aj<|Z ⟨0,p,H10⟩
def gb (a0:Int) (a1:Int):Int:=(bif (eJ a0) then (bif (eJ a1) then (0) else ((-1))) else (bif (eJ a1) then (1) else (bif (decide (a0 < a1)) then ((-1)) else (bif (decide (a0 > a1)) then (1) else (0)))))
theorem pr_cmp_Compare_int (a0:Int) (a1:Int) {K:kT Int} {h:Hp} (k:K (gb a0 a1) h):tJ a0 a1 K h:=(kS (K:=K) (kS (K:=K) (fun k=>k) (fun k=>k)) (kS (K:=K) (fun k=>k) (kS (K:=K) (fun k=>k) (kS (K:=K) (fun k=>k) (fun k=>k))))) k
theorem ct_cmp_Compare_int (a0:Int) (a1:Int) (h:Hp):Ct prog vr #[(.int .i64 a0),(.int .i64 a1)] h fun v h'=>∃ r,v = eB r/\(r = gb a0 a1/\h' = h):=sim_cmp_Compare_int a0 a1 (pr_cmp_Compare_int a0 a1 ⟨rfl,rfl⟩)
def sh_judge_user (a0:aE) (K:kT Bool):hT:=K (bF ((ay a0.fKa).1))
theorem sim_judge_user (a0:aE) {K:kT Bool} {h:Hp} (H:sh_judge_user a0 K h):cl prog n_judge_user [(.agg (aE.C a0).toArray)] aB K h:=z_i func139 p p fun _=>O<|aa<|cR (l:=aE.C a0) p p p fun b1=>U p<|O<|J (ae nL p)<|bm (bG (k:=0) fD p p p p) p<|aa<|cQ (vs:=[(.agg (ai.C a0.fKa).toArray)]) (bA<|kQ a0.fKa _) en_63 p p<|M p<|J (ak p p)<|J (ak p p)<|J (au p)<|U p<|O<|M p<|aa<|cQ (vs:=[(.int .i64 ((ay a0.fKa).1))]) (bA<|tb (ay a0.fKa).1 _) en_64 p p<|U p<|aj<|Z ⟨bF (ay a0.fKa).1,p,H⟩
def fI (a0:aE):Bool:=((bF ((ay a0.fKa).1)))
theorem pr_judge_user (a0:aE) {K:kT Bool} {h:Hp} (k:K (fI a0) h):sh_judge_user a0 K h:=(fun k=>k) k
theorem ct_judge_user (a0:aE) (h:Hp):Ct prog n_judge_user #[(.agg (aE.C a0).toArray)] h fun v h'=>∃ r,v = aB r/\(r = fI a0/\h' = h):=sim_judge_user a0 (pr_judge_user a0 ⟨rfl,rfl⟩)
end
end Go.Proofs.YtemoifebbhoinaaGreatDoor
