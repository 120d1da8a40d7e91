/- Part of the proof of: The law ShootFrame returns true for every input, and leaves its arguments as they were. -/
import Derived.Test.YtochchocdckegaaGreatDoorShootFrame01
set_option linter.all false
set_option maxRecDepth 20000
namespace Go.Proofs.YtochchocdckegaaGreatDoor
open Go.Proofs.Tryz
open Go.IntKind (i64 u64)
open _root_.List (replicate)
open _root_.Option (map_some)
section
open Go
namespace Mb
section
variable {l:List As} {h:Hp}
theorem get_nat' {α:Type} {xs:List α} {i:Nat} (h:i < xs.length):xs[i]? = some xs[i]:=List.getElem?_eq_some_iff.2 ⟨h,rfl⟩
def ex {α:Type} (A:α->As):As:=fun h=>∃ x,A x h
theorem op_ {α:Type} {φ:α->Prop} {m:α->List As} (s:aB ((fun h=>∃ x,φ x/\aB (m x) h)::l) h):∃ x,φ x/\aB (m x++l) h:=by
 obtain ⟨h1,h2,d,e,⟨x,f,s1⟩,s2⟩:=s;exact ⟨x,f,fB.2 ⟨h1,h2,d,e,s1,s2⟩⟩
theorem cl_ {α:Type} {φ:α->Prop} {m:α->List As} (x:α) (f:φ x) (s:aB (m x++l) h):aB ((fun h=>∃ x,φ x/\aB (m x) h)::l) h:=by
 obtain ⟨h1,h2,d,e,s1,s2⟩:=fB.1 s;exact ⟨h1,h2,d,e,⟨x,f,s1⟩,s2⟩
theorem star_cons {A:As} (a:∀ h,A h) (s:aB l h):aB (A::l) h:=⟨emp,h,Dj.emp_left _,rfl,a _,s⟩
theorem gg {τ:Type} {T m:Nat} {enc:τ->List Value} (s:aB l h):aB (vec T m enc (⟨none,0,0,none⟩:Sl) []::l) h :=
 star_cons (fun _=>⟨rfl,Nat.le_refl _,.inl rfl⟩) s
theorem dH {m:List As} (s:aB (aB m::l) h):aB (m++l) h:=by
 obtain ⟨h1,h2,d,e,a,s'⟩:=s;exact fB.2 ⟨h1,h2,d,e,a,s'⟩
theorem star_tail {A:As} {m:List As} (s:aB (A::l) h) (hm:∀ h,aB l h->aB m h):aB (A::m) h:=by
 obtain ⟨h1,h2,d,e,a,s'⟩:=s;exact ⟨h1,h2,d,e,a,hm _ s'⟩
theorem ba {φ:Prop} {m:List As} (f:φ) (s:aB m h):pa_ φ m h:=⟨f,s⟩
end
theorem vec_set_row {τ:Type} {T m i:Nat} {enc:τ->List Value} {s:Sl} {xs ys:List τ} {l:List As} {h:Hp} {K:Hp->Prop} {P:Program} (he:∀ x,(enc x).length = m) (ho:∀ x,dO (enc x) = true) (hlen:ys.length = xs.length) (st:aB l h) (hi:l[i]? = some (vec T m enc s xs)) {q:Nat × Nat} (hq:s.a = some q)
  (k:∀ h',aB (l.set i (vec T m enc s ys)) h'->K h'):hp P (storeCells ⟨q.1,q.2,none⟩ (ys.flatMap enc)) (fun _ h=>K h) h:=by
 obtain ⟨g1,g2,d,rfl,⟨e1,e2,e3⟩,s'⟩:=hH hi st;rcases e3 with h4 | ⟨b,pre,rest,U,fr,h4,h5,hg,h6⟩
 ·have hny:ys = []:=List.eq_nil_of_length_eq_zero (by omega);have hnx:xs = []:=List.eq_nil_of_length_eq_zero (by omega);subst hny; subst hnx;exact k _ (ff (List.getElem?_eq_some_iff.1 hi).1 ⟨g1,g2,d,rfl,⟨e1,e2,.inl h4⟩,s'⟩)
 ·rw [h4] at hq; cases hq;have hfx:=eP he xs;have hfy:=eP he ys;have hoy:dO (ys.flatMap enc) = true:=by
   unfold dO;rw [List.all_flatMap,List.all_eq_true];exact fun x _=>ho x
  have ew:wr (pre++(xs.flatMap enc++rest)) (pre.length + 0) (ys.flatMap enc) = pre++(ys.flatMap enc++rest):=by
   rw [ru,wr_left _ _ _ _ (by rw [hfx,hfy,hlen,Nat.zero_add]; exact Nat.le_refl _),wr_all (by rw [hfx,hfy,hlen])]
  have hcap:s.len * m <= s.cap * m:=Nat.mul_le_mul_right m e2;have hlm:s.len * m = xs.length * m:=by rw [e1]
  refine my (T:=U) (fr:=fr) (ys.flatMap enc) 0 pre.length (pre++(xs.flatMap enc++rest)) _ (un_left h6) (fun j j1 j2=>gh_nf hg j (by omega) (by rw [hfy,hlen] at j2; omega)) (by simp [hfx,hfy,hlen]) hoy ?_;rw [ew];obtain ⟨d',e'⟩:=set_dj (o':=.cells (pre++(ys.flatMap enc++rest)).toArray U fr) d h6;rw [e'];exact k _ (ff (List.getElem?_eq_some_iff.1 hi).1 ⟨_,g2,d',rfl,⟨by rw [e1,hlen],e2,.inr ⟨b,pre,rest,U,fr,h4,h5,hg,ko _ _ _⟩⟩,s'⟩)
def encU (_:Unit):Value:=.tuple #[]
theorem clear_v {τ:Type} {S T m bys i R:Nat} {z:List Value} {enc:τ->List Value} {x0:τ} {s:Sl} {xs:List τ} {l:List As} {h:Hp} {K:Unit->Hp->Prop} {P:Program} (E:El P S T m bys z) (hz:enc x0 = z) (he:∀ x,(enc x).length = m) (ho:∀ x,dO (enc x) = true) (st:aB l h) (hi:l[i]? = some (vec T m enc s xs))
  (k:∀ h',aB (l.set i (vec T m enc s (replicate xs.length x0))) h'->K () h'):hpv P (Builtin.clear_ #[S] R #[sv s]) encU K h:=by
 refine ⟨?_⟩;obtain ⟨_,es,_⟩:=eM hi st;have hilt:=(List.getElem?_eq_some_iff.1 hi).1;unfold Builtin.clear_;simp only [List.getElem?_toArray,List.getElem?_cons_zero];refine cH (dB E.sl ?_);have same:xs = []->aB (l.set i (vec T m enc s (replicate xs.length x0))) h:=by
  intro e;subst e;have:l.set i (vec T m enc s (replicate ([]:List τ).length x0)) = l:=by
   apply List.ext_getElem?;intro n;rw [List.getElem?_set];by_cases e:i = n
   ·subst e; rw [hi]; simp [hilt]
   ·simp [e]
  rw [this]; exact st
 cases ha:s.a with
 | none =>
  have hnil:xs = []:=by
   obtain ⟨e1,e2,e3⟩:=es;rcases e3 with e3 | ⟨b,pre,rest,U,fr,h4,_⟩
   ·exact List.eq_nil_of_length_eq_zero (by omega)
   ·rw [h4] at ha; cases ha
  simp only [sv,ha,pa];exact ⟨(),rfl,k h (same hnil)⟩
 | some q =>
  simp only [sv,ha,pa];cases hn:s.len with
  | zero =>
   have hnil:xs = []:=List.eq_nil_of_length_eq_zero (by rw [← es.1]; exact hn);exact ⟨(),rfl,k h (same hnil)⟩
  | succ n =>
   obtain ⟨inf,hinf,h1,h2,h3⟩:=E.inf;cases hzv:inf.zero with
   | none=>rw [hzv] at h3; cases h3
   | some zv =>
    rw [hzv] at h3;simp only [map_some,Option.some.injEq] at h3;refine cH (tw hinf hzv ?_);refine cH ?_;have hzc:zv.cells = z.toArray:=by rw [← h3]
    have hrow:(Builtin.zeroCells zv.cells (n + 1)).toList = (replicate xs.length x0).flatMap enc:=by
     rw [hzc]; unfold Builtin.zeroCells;have:=rep_flat z (n + 1);simp only [List.size_toArray] at this ⊢;rw [this,← hz,rep_flat_map,← es.1,hn]
    rw [hrow];refine vec_set_row (K:=fun h'=>∃ r,Value.tuple #[] = encU r/\K r h') he ho (by simp) st hi ha fun h' s'=>?_;exact ⟨(),rfl,k h' s'⟩
theorem oneI (k:IntKind) (x:Int):dO (cI k x) = true:=rfl
theorem oneS (x:Sl):dO (cS x) = true:=rfl
section
variable {τ:Type} {m:Nat} {enc:τ->List Value} {l:List As} {h:Hp}
theorem ld_a {σ:Type} {T j i k:Nat} {b:Nat} {pre rest:List Value} {xs:List τ} {enc':σ->List Value} {K:σ->Hp->Prop} {off:Nat} (y:σ) (he:∀ x,(enc x).length = m) (st:aB l h) (hj:l[j]? = some (blk b T (pre++(xs.flatMap enc++rest)))) (hoff:off = pre.length + i * m + k)
  {x:τ} (hx:xs[i]? = some x) (hy:∀ n v,(enc' y)[n]? = some v->(enc x)[k + n]? = some v) (kk:K y h):ld (b,off) enc' K h:=by
 refine ld_s y st hj (fun n v hn=>?_) kk;have:=uz he xs i (k + n) x v hx (hy n v hn);have hlt:=(List.getElem?_eq_some_iff.1 this).1;rw [hoff,List.getElem?_append_right (by omega),show pre.length + i * m + k + n - pre.length = i * m + (k + n) from by omega,List.getElem?_append_left hlt];exact this
theorem st_a {T j i k:Nat} {b:Nat} {pre rest:List Value} {xs:List τ} {vs:List Value} {K:Hp->Prop} {off:Nat} (y:τ) (he:∀ x,(enc x).length = m) (s0:aB l h) (hj:l[j]? = some (blk b T (pre++(xs.flatMap enc++rest)))) (hoff:off = pre.length + i * m + k)
  {x:τ} (hx:xs[i]? = some x) (hlen:k + vs.length <= m) (hy:enc y = wr (enc x) k vs) (kk:∀ h',aB (l.set j (blk b T (pre++((xs.set i y).flatMap enc++rest)))) h'->K h'):st (b,off) vs K h:=by
 have hi:=(List.getElem?_eq_some_iff.1 hx).1;have hfl:=eP he xs;have hm:(i + 1) * m <= xs.length * m:=Nat.mul_le_mul_right m hi;rw [Nat.succ_mul] at hm;refine vZ s0 hj (by simp [hoff,hfl]; omega) fun h' s'=>kk h' ?_;have ew:wr (pre++(xs.flatMap enc++rest)) off vs = pre++((xs.set i y).flatMap enc++rest):=by
  rw [hoff,Nat.add_assoc,ru,wr_left _ _ _ _ (by rw [hfl]; omega),flat_wr he xs i k x y vs hx hlen hy]
 rw [ew] at s';exact s'
end
section
variable {P:Program} {l:List As} {h:Hp}
theorem hp_isAgg_ag {T n:Nat} (t:Ag P T n) {K:Bool->Hp->Prop} (k:K true h):hp P (isAgg T) K h:=by
 obtain ⟨D,h1,h2⟩:=t.und;unfold isAgg;refine cH (dB h1 ?_);cases D <;> first | exact k | cases h2
theorem ut {kd:IntKind} {n:Int} {K:IntKind × Int->Hp->Prop} (k:K (kd,n) h):hp P (asIntOf (.int kd n)) K h:=k
theorem loadAt_v {τ:Type} {T n b off:Nat} {cs:List Value} {enc:τ->Value} {r:τ} {K:τ->Hp->Prop} (t:Ag P T n) (hc:so h (b,off) cs) (hn:cs.length = n) (hr:enc r = .agg cs.toArray) (k:K r h):hpv P (Instr.loadAt T (.pointer (some ⟨b,off,none⟩))) enc K h:=by
 refine ⟨?_⟩;obtain ⟨inf,h1,h2⟩:=t.inf;show hp P (loadVar T ⟨b,off,none⟩) _ h;unfold loadVar;refine cH (hp_isAgg_ag t ?_);refine hp_yes rfl ?_;refine cH (oQ h1 ?_);rw [h2];refine cH (hp_loadCells hc hn ?_);exact ⟨r,hr.symm,k⟩
theorem index_v {τ:Type} {S T len m i:Nat} {enc:τ->List Value} {val:τ->Value} {xs:List τ} {x:τ} {K:τ->Hp->Prop} (hS:P.underlying S = some (.array len T)) (t:Ag P T m) (he:∀ x,(enc x).length = m) (hv:∀ x,val x = .agg (enc x).toArray) (hl:xs.length = len) (hx:xs[i]? = some x) (k:K x h) :
  hpv P (Instr.index S (.agg (xs.flatMap enc).toArray) (.int .i64 i)) val K h:=by
 refine ⟨?_⟩;have hi:=(List.getElem?_eq_some_iff.1 hx).1;obtain ⟨inf,h1,h2⟩:=t.inf;unfold Instr.index;refine cH (ut ?_);refine cH (dB hS ?_);refine hp_yes ⟨by omega,by omega⟩ ?_;refine cH (oQ h1 ?_);unfold part;refine cH (hp_isAgg_ag t ?_);refine cH (oQ h1 ?_);refine ⟨x,?_,k⟩;rw [hv,h2];have:(xs.flatMap enc).toArray.extract ((i:Int).toNat * m) ((i:Int).toNat * m + m) = (enc x).toArray:=by
  apply Array.ext';rw [Array.toList_extract];simp only [Int.toNat_natCast,List.extract];rw [Nat.add_sub_cancel_left];apply List.ext_getElem?;intro n;rw [List.getElem?_take,List.getElem?_drop];by_cases hn:n < m
  ·rw [if_pos hn];have hlt:n < (enc x).length:=by rw [he]; exact hn
   rw [uz he xs i n x _ hx (get_nat' hlt)];exact (get_nat' hlt).symm
  ·rw [if_neg hn];exact (List.getElem?_eq_none (by rw [he]; omega)).symm
 rw [this]
end
theorem sliceFrom_v {τ:Type} {P:Program} {l:List As} {h:Hp} {S T m bys i:Nat} {z:List Value} {enc:τ->List Value} {R:Sl->Value} {s:Sl} {xs:List τ} {n:Nat} {K:Sl->Hp->Prop} (E:El P S T m bys z) (he:∀ x,(enc x).length = m) (hR:R = sv) (st:aB l h) (hi:l[i]? = some (vec T m enc s xs)) (hn:n <= xs.length)
  (k:∀ v,aB (l.set i (vec T m enc v (xs.drop n))) h->K v h):hpv P (Instr.sliceAt S (sv s) (some (.int .i64 n)) none none) R K h:=by
 subst hR;refine ⟨?_⟩;have hilt:=(List.getElem?_eq_some_iff.1 hi).1;obtain ⟨g1,g2,d,rfl,⟨e1,e2,e3⟩,s'⟩:=hH hi st;obtain ⟨inf,hinf,h1,h2,h3⟩:=E.inf;unfold Instr.sliceAt;refine cH (dB E.sl ?_);show hp P (Instr.slice S (sv s) _ _ _) _ _;unfold Instr.slice;refine cH (dB E.sl ?_);simp only [sv];refine cH ?_;unfold Instr.sliceBounds;refine cH ?_;refine cH ?_;refine cH ?_;unfold Instr.sliceBound;refine cH (ut ?_);refine hp_yes ⟨by omega,by omega⟩ ?_;refine cH (oQ hinf ?_);rw [h1];rcases e3 with h5 | ⟨b,pre,rest,U,fr,h4,h5,hg,h6⟩
 ·have hn0:n = 0:=by omega
  subst hn0;refine ⟨s,?_,k s ?_⟩
  ·simp [sv,h5]
  ·exact ff hilt ⟨g1,g2,d,rfl,⟨by simpa using e1,e2,.inl h5⟩,s'⟩
 ·by_cases hc:s.cap = n
  ·have hx:xs.drop n = []:=by apply List.drop_eq_nil_of_le; omega
   refine ⟨⟨s.a,s.len - n,s.cap - n,none⟩,?_,k _ (ff hilt ⟨g1,g2,d,rfl,⟨?_,by show s.len - n <= s.cap - n; omega,.inl (by show s.cap - n = 0; omega)⟩,s'⟩)⟩
   ·rw [if_pos (by simpa using hc)]; simp [sv]
   ·show s.len - n = _; rw [hx]; simp; omega
  ·refine ⟨⟨some (b,pre.length + n * m),s.len - n,s.cap - n,s.g.map fun _=>(pre++(xs.take n).flatMap enc,rest,U,fr)⟩,?_,k _ (ff hilt ⟨g1,g2,d,rfl,⟨?_,by show s.len - n <= s.cap - n; omega,.inr ⟨b,pre++(xs.take n).flatMap enc,rest,U,fr,?_,?_,?_,?_⟩⟩,s'⟩)⟩
   ·rw [if_neg (by simpa using hc)]; simp [sv,h4,pa,add_plain]
   ·show s.len - n = _; simp; omega
   ·show some (b,pre.length + n * m) = _;rw [List.length_append,eP he]; simp; rw [Nat.min_eq_left hn]
   ·show (s.cap - n) * m <= (s.len - n) * m + rest.length;rw [Nat.sub_mul,Nat.sub_mul];have:n * m <= s.len * m:=Nat.mul_le_mul_right m (by omega);omega
   ·have hpl:(pre++(xs.take n).flatMap enc).length = pre.length + n * m:=by rw [List.length_append,eP he]; simp; rw [Nat.min_eq_left hn]
    unfold gh at hg ⊢;cases hsg:s.g with
    | none=>rw [hsg] at hg; exact hg
    | some x =>
     rw [hsg] at hg;refine ⟨rfl,fun j j1 j2=>hg.2 j (by rw [hpl] at j1; omega) ?_⟩;rw [hpl] at j2;have j2':j < pre.length + n * m + (s.cap - n) * m:=j2;have hnc:n <= s.cap:=by omega
     have:n * m + (s.cap - n) * m = s.cap * m:=by rw [← Nat.add_mul]; congr 1; omega
     omega
   ·have:pre++(xs.take n).flatMap enc++((xs.drop n).flatMap enc++rest) = pre++(xs.flatMap enc++rest):=by
     rw [List.append_assoc,← List.append_assoc ((xs.take n).flatMap enc),← List.flatMap_append,List.take_append_drop]
    rw [this]; exact h6
theorem lr {τ:Type} {P:Program} {l:List As} {h:Hp} {S T m bys i:Nat} {z:List Value} {enc:τ->List Value} {val:τ->Value} {R R':Sl->Value} {s:Sl} {xs:List τ} {x:τ} {K:Sl->Hp->Prop} {Q:Nat} (E:El P S T m bys z) (he:∀ x,(enc x).length = m) (ho:∀ x,dO (enc x) = true) (hv:∀ x,(val x).cells.toList = enc x)
  (hm:m <= 2 ^ 24) (hR:R = sv) (hR':R' = sv) (st:aB l h) (hi:l[i]? = some (vec T m enc s xs)) (hb:(2 * (xs.length + 1) + 512) * bys <= 2 ^ 48) (hb2:xs.length < 2 ^ 60)
  (k:∀ v h',aB (l.set i (vec T m enc v (xs++[x]))) h'->K v h'):hpv P (Instr.buildSlice S 1 #[(0,val x)]) R (fun y=>hpv P (Builtin.append_ #[S,S] Q #[sv s,sv y]) R' K) h:=by
 subst hR; subst hR';refine ft [x] (val:=val) (enc:=enc) E he hv st rfl rfl (by simpa using hm) fun y h' s1=>?_;refine uG (i:=i + 1) (j:=0) (enc:=enc) (ys:=[x]) E E.sl he ho s1 (by simpa using hi) rfl (by omega) (by simpa using hb) (by simp; omega) fun v h2 s2=>?_;exact k v h2 (bY (l:=[vec T m enc y [x]]) (by simpa using s2))
theorem c1 {c d:List Value} {u:Value} {k:Nat} (h1:d = [u]) (h2:c[k]? = some u):∀ (n:Nat) (v:Value),d[n]? = some v->c[k + n]? = some v:=by
 intro n v hv;subst h1;cases n with
 | zero=>simp at hv; subst hv; exact h2
 | succ n=>simp at hv
theorem aF {α:Type} {xs:List α} {i:Nat} (h:i < xs.length):xs[i]? = some xs[i]:=List.getElem?_eq_some_iff.2 ⟨h,rfl⟩
theorem ck (k:IntKind) (x:Int):(cI k x).length = 1:=rfl
end Mb
end
section
open Go
namespace Mb
structure Mp (P:Program) (S K E:TypeId) (z:Value):Prop where
 mp:P.underlying S = some (.map K E)
 key:∃ kd,P.underlying K = some (.int kd)
 inf:∃ i,P.info? E = some i/\i.zero = some z
section
variable {τ:Type}
def fi (x:Int):List (Int × τ)->Nat->Option (Nat × τ)
 | [],_=>none
 | p::m,i=>if x = p.1 then some (i,p.2) else fi x m (i + 1)
def ents (val:τ->Value) (es:List MapEntry) (m:List (Int × τ)):Prop:=es.map (fun e=>(e.key,e.val)) = m.map (fun p=>(Value.int .i64 p.1,val p.2))
def mapA (b:Nat) (val:τ->Value) (f:Int->Option τ):As:=fun h=>∃ (es:List MapEntry) (m:List (Int × τ)) (clock:Nat),h b = some (.map es.toArray clock)/\ents val es m/\∀ x,(fi x m 0).map (·.2) = f x
theorem xj (x:Int):∀ (m:List (Int × τ)) (i:Nat),fi x m i = (fi x m 0).map (fun r=>(r.1 + i,r.2))
 | [],_=>rfl
 | p::m,i=>by
  unfold fi;split
  ·simp
  ·rw [xj x m (i + 1),xj x m (0 + 1)];cases fi x m 0 with
   | none=>rfl
   | some r=>simp; omega
theorem fi_v (x:Int) (m:List (Int × τ)) (i:Nat):(fi x m i).map (·.2) = (fi x m 0).map (·.2):=by
 rw [xj x m i]; cases fi x m 0 <;> rfl
theorem find_now {val:τ->Value} {kd:IntKind} (x:Int):∀ {es:List MapEntry} {m:List (Int × τ)} (i:Nat),ents val es m->Instr.findNow (.int kd) (.int .i64 x) es i = some ((fi x m i).map fun r=>(r.1,val r.2))
 | [],[],_,_=>rfl
 | [],_::_,_,h=>by simp [ents] at h
 | _::_,[],_,h=>by simp [ents] at h
 | e::es,p::m,i,h=>by
  simp only [ents,List.map_cons,List.cons.injEq,Prod.mk.injEq] at h;obtain ⟨⟨h1,h2⟩,h3⟩:=h;unfold Instr.findNow fi;rw [h1,h2];by_cases hx:x = p.1
  ·subst hx; simp [Instr.sameNow]
  ·have:(x == p.1) = false:=by simpa using hx
   simp only [Instr.sameNow,this,if_true,if_neg hx];exact find_now x (i + 1) h3
theorem fi_get {x:Int} {v:τ} {i:Nat}:∀ {m:List (Int × τ)},fi x m 0 = some (i,v)->m[i]? = some (x,v)
 | [],h=>by cases h
 | p::m,h=>by
  unfold fi at h;split at h
  ·rename_i hx;cases h; subst hx; rfl
  ·rw [xj] at h;cases hm:fi x m 0 with
   | none=>rw [hm] at h; cases h
   | some r =>
    rw [hm] at h;simp only [map_some,Option.some.injEq,Prod.mk.injEq] at h;obtain ⟨h1,h2⟩:=h;subst h2; subst h1;simp only [List.getElem?_cons_succ];exact fi_get (m:=m) (by rw [hm])
theorem fi_set {x y:Int} {v w:τ} {i:Nat}:∀ {m:List (Int × τ)},fi x m 0 = some (i,v)->(fi y (m.set i (x,w)) 0).map (·.2) = if y = x then some w else (fi y m 0).map (·.2)
 | [],h=>by cases h
 | p::m,h=>by
  unfold fi at h;split at h
  ·rename_i hx;cases h; subst hx;simp only [List.set_cons_zero,fi];by_cases hy:y = p.1
   ·simp [hy]
   ·simp [hy]
  ·rename_i hx;rw [xj] at h;cases hm:fi x m 0 with
   | none=>rw [hm] at h; cases h
   | some r =>
    rw [hm] at h;simp only [map_some,Option.some.injEq,Prod.mk.injEq] at h;obtain ⟨h1,h2⟩:=h;subst h2; subst h1;have ih:=fi_set (x:=x) (y:=y) (v:=r.2) (w:=w) (i:=r.1) (m:=m) (by rw [hm]);simp only [List.set_cons_succ,fi];by_cases hy:y = p.1
    ·have:y ≠ x:=fun e=>hx (e.symm.trans hy);simp [hy];intro e; exact absurd e.symm hx
    ·rw [if_neg hy,if_neg hy,fi_v y _ (0 + 1),fi_v y m (0 + 1)];exact ih
theorem fi_push {x y:Int} {w:τ}:∀ {m:List (Int × τ)},fi x m 0 = none->(fi y (m++[(x,w)]) 0).map (·.2) = if y = x then some w else (fi y m 0).map (·.2)
 | [],_=>by
  simp only [List.nil_append,fi];by_cases hy:y = x <;> simp [hy]
 | p::m,h=>by
  unfold fi at h;split at h
  ·cases h
  ·rename_i hx;rw [xj] at h;have hm:fi x m 0 = none:=by
    cases hm:fi x m 0 with
    | none=>rfl
    | some r=>rw [hm] at h; cases h
   have ih:=fi_push (y:=y) (w:=w) hm;simp only [List.cons_append,fi];by_cases hy:y = p.1
   ·have:¬ y = x:=fun e=>hx (e.symm.trans hy);simp [hy];intro e; exact absurd e.symm hx
   ·rw [if_neg hy,if_neg hy,fi_v y _ (0 + 1),fi_v y m (0 + 1)];exact ih
theorem ents_set {val:τ->Value} {x:Int} {w:τ} {i:Nat} {es:List MapEntry} {m:List (Int × τ)} (h:ents val es m) (g:MapEntry->MapEntry) (hg:∀ e,es[i]? = some e->(g e).key = .int .i64 x/\(g e).val = val w):ents val (es.toArray.modify i g).toList (m.set i (x,w)):=by
 unfold ents at h ⊢;apply List.ext_getElem?;intro j;have hj:(es.map (fun e=>(e.key,e.val)))[j]? = (m.map (fun p=>(Value.int .i64 p.1,val p.2)))[j]?:=by rw [h]
 simp only [List.getElem?_map] at hj ⊢;rw [Array.getElem?_toList,Array.getElem?_modify,List.getElem?_set,List.getElem?_toArray];by_cases hij:i = j
 ·subst hij;rw [if_pos rfl];cases he:es[i]? with
  | none =>
   rw [he] at hj;have:m[i]? = none:=by cases hm:m[i]? with
    | none=>rfl
    | some p=>rw [hm] at hj; cases hj
   have hlt:¬ i < m.length:=by intro hlt; rw [List.getElem?_eq_getElem hlt] at this; cases this
   simp [hlt]
  | some e =>
   rw [he] at hj;have hlt:i < m.length:=by
    cases hm:m[i]? with
    | none=>rw [hm] at hj; cases hj
    | some p=>exact (List.getElem?_eq_some_iff.1 hm).1
   obtain ⟨g1,g2⟩:=hg e he;simp [hlt,g1,g2]
 ·rw [if_neg hij,if_neg hij]; exact hj
theorem ents_push {val:τ->Value} {x:Int} {w:τ} {es:List MapEntry} {m:List (Int × τ)} {c:Nat} (h:ents val es m):ents val (es.toArray.push { key:=.int .i64 x,val:=val w,born:=c }).toList (m++[(x,w)]):=by
 unfold ents at h ⊢;simp [h]
end
section
variable {P:Program} {l:List As} {h:Hp} {τ:Type} {S K E:TypeId} {z:Value} {val:τ->Value}
theorem hp_checkKey {kd k:IntKind} {b:Bool} {x:Int} {Q:Unit->Hp->Prop} (e:P.underlying K = some (.int kd)) (q:Q () h):hp P (Instr.checkKey b 10000 K (.int k x)) Q h:=by
 unfold Instr.checkKey;refine cH (dB e ?_);exact q
theorem hp_findKey {kd:IntKind} {x:Int} {es:List MapEntry} {m:List (Int × τ)} {Q:Option (Nat × Value)->Hp->Prop} (e:P.underlying K = some (.int kd)) (he:ents val es m) (q:Q ((fi x m 0).map fun r=>(r.1,val r.2)) h):hp P (Instr.findKey K (.int .i64 x) es) Q h:=by
 unfold Instr.findKey;refine cH (dB e ?_);rw [find_now x 0 he];exact q
theorem hp_getObj {b:Nat} {o:Obj} {Q:Obj->Hp->Prop} (e:h b = some o) (hc:yp o = false) (q:Q o h):hp P (getObj b) Q h:=⟨o,e,hc,q⟩
theorem makeMap_m {R:Option Nat->Value} {Q:Option Nat->Hp->Prop} (hR:R = fun r=>.map r) (st:aB l h) (k:∀ b h',aB (mapA b val (fun _=>none)::l) h'->Q (some b) h'):hpv P (Instr.makeMap S none) R Q h:=by
 subst hR;refine ⟨?_⟩;unfold Instr.makeMap;refine cH ?_;refine ⟨rfl,fun b hb=>⟨some b,rfl,k b _ ?_⟩⟩;obtain ⟨h1,h2,d,e,a,s⟩:=new_s (o:=.map #[] 0) st hb;exact ⟨h1,h2,d,e,⟨[],[],0,a,rfl,fun x=>rfl⟩,s⟩
theorem lookup_m {σ:Type} {j b:Nat} {f:Int->Option τ} {x:Int} {ok:Bool} {R:σ->Value} {Q:σ->Hp->Prop} (M:Mp P S K E z) (st:aB l h) (hj:l[j]? = some (mapA b val f)) (r:σ) (hr:(if ok then .tuple #[((f x).map val).getD z,.bool (f x).isSome] else ((f x).map val).getD z) = R r) (q:Q r h):hpv P (Instr.lookup S (.map (some b)) (.int .i64 x) ok) R Q h:=by
 refine ⟨?_⟩;obtain ⟨h1,⟨es,m,clock,a,he,hf⟩,sub⟩:=eM hj st;obtain ⟨kd,hk⟩:=M.key;obtain ⟨i,hi,hz⟩:=M.inf;unfold Instr.lookup;refine cH (dB M.mp ?_);refine cH (hp_getObj (sub _ _ a) rfl ?_);refine cH ?_;rw [hp_pure];refine cH (hp_checkKey hk ?_);refine cH (hp_findKey (val:=val) hk he ?_);have hfx:=hf x;cases hm:fi x m 0 with
 | none =>
  rw [hm] at hfx;rw [← hfx] at hr;refine cH (tw hi hz ?_);exact ⟨r,hr,q⟩
 | some p =>
  rw [hm] at hfx;rw [← hfx] at hr;refine cH ?_;exact ⟨r,hr,q⟩
theorem update_m {j b:Nat} {f:Int->Option τ} {x:Int} {w:τ} {v:Value} {Q:Hp->Prop} (M:Mp P S K E z) (st:aB l h) (hj:l[j]? = some (mapA b val f)) (hv:v = val w) (k:∀ h',aB (l.set j (mapA b val (fun y=>if y = x then some w else f y))) h'->Q h'):hpu P (Instr.mapUpdate S (.map (some b)) (.int .i64 x) v) Q h:=by
 subst hv;refine ⟨?_⟩;obtain ⟨h1,h2,d,rfl,⟨es,m,clock,a,he,hf⟩,s'⟩:=hH hj st;have hjl:=(List.getElem?_eq_some_iff.1 hj).1;obtain ⟨kd,hk⟩:=M.key;unfold Instr.mapUpdate;refine cH (dB M.mp ?_);refine cH (hp_getObj (un_left a) rfl ?_);refine cH (hp_checkKey hk ?_);refine cH (hp_findKey (val:=val) hk he ?_);cases hm:fi x m 0 with
 | none =>
  refine ⟨rfl,⟨_,un_left a,rfl⟩,?_⟩;obtain ⟨d',e'⟩:=set_dj (o':=.map (es.toArray.push { key:=.int .i64 x,val:=val w,born:=clock }) (clock + 1)) d a;rw [e'];refine k _ (ff hjl ⟨_,h2,d',rfl,⟨_,m++[(x,w)],clock + 1,?_,ents_push (c:=clock) he,fun y=>?_⟩,s'⟩)
  ·exact ko _ _ _
  ·rw [fi_push hm,hf]
 | some p =>
  obtain ⟨i,u⟩:=p;have hg:=fi_get hm;have hge:∃ e,es[i]? = some e/\e.key = .int .i64 x:=by
   have hi:(es.map (fun e=>(e.key,e.val)))[i]? = (m.map (fun p=>(Value.int .i64 p.1,val p.2)))[i]?:=by rw [he]
   simp only [List.getElem?_map,hg,map_some] at hi;cases hs:es[i]? with
   | none=>rw [hs] at hi; cases hi
   | some e=>rw [hs] at hi; simp at hi; exact ⟨e,rfl,hi.1⟩
  obtain ⟨e,hge,hkey⟩:=hge;refine cH ?_;have hks:Instr.keyThatStays (((es.toArray[i]?).map (·.key)).getD (.int .i64 x)) (.int .i64 x) = pure (.int .i64 x):=by
   unfold Instr.keyThatStays;have:((es.toArray[i]?).map (·.key)).getD (.int .i64 x) = .int .i64 x:=by simp [hge,hkey]
   rw [this];have sb:Instr.sameBits 10000 (.int .i64 x) (.int .i64 x) = true:=by unfold Instr.sameBits; simp
   rw [if_pos sb]
  simp only [map_some];rw [hks,hp_pure];refine ⟨rfl,⟨_,un_left a,rfl⟩,?_⟩;obtain ⟨d',e'⟩:=set_dj (o':=.map (es.toArray.modify i fun e=>{ e with key:=.int .i64 x,val:=val w }) clock) d a;rw [e'];refine k _ (ff hjl ⟨_,h2,d',rfl,⟨_,m.set i (x,w),clock,?_,ents_set (x:=x) (w:=w) he (fun e=>{ e with key:=.int .i64 x,val:=val w }) (fun e' _=>⟨rfl,rfl⟩),fun y=>?_⟩,s'⟩)
  ·exact ko _ _ _
  ·rw [fi_set hm,hf]
end
end Mb
end
section
open Go Mb
structure ah where
 e0:Int
 e1:Int
 e2:Int
 e3:Int
 e4:Int
def ah.C (x:ah):List Value:=[.int .u64 x.e0,.int .u64 x.e1,.int .u64 x.e2,.int .u64 x.e3,.int .u64 x.e4]
structure ab where
 fRa:Int
 fVal:Int
def ab.C (x:ab):List Value:=[.int .i64 x.fRa,.int .u64 x.fVal]
structure ap where
 fCa:Int
 fOa:Int
 fEa:Int
 fBa:Int
def ap.C (x:ap):List Value:=[.int .i64 x.fCa,.int .i64 x.fOa,.int .i64 x.fEa,.int .i64 x.fBa]
structure aG where
 fQa:Int
 fCa:Int
 fIa:ah
 fSa:Int
 fHa:Int
 fXa:Int
 fYa:ab
 fUa:ap
def aG.C (x:aG):List Value:=[.int .i64 x.fQa,.int .i64 x.fCa,.int .u64 x.fIa.e0,.int .u64 x.fIa.e1,.int .u64 x.fIa.e2,.int .u64 x.fIa.e3,.int .u64 x.fIa.e4,.int .i64 x.fSa,.int .i64 x.fHa,.int .i64 x.fXa,.int .i64 x.fYa.fRa,.int .u64 x.fYa.fVal,.int .i64 x.fUa.fCa,.int .i64 x.fUa.fOa,.int .i64 x.fUa.fEa,.int .i64 x.fUa.fBa]
structure aE where
 fWa:Int
 fJa:Int
 fCb:Int
def aE.C (x:aE):List Value:=[.int .i64 x.fWa,.int .i64 x.fJa,.int .i64 x.fCb]
structure mH where
 fat:Int
 fGa:Int
 fc:ah
 fPa:Bool
 fAb:Int
def mH.C (x:mH):List Value:=[.int .i64 x.fat,.int .i64 x.fGa,.int .u64 x.fc.e0,.int .u64 x.fc.e1,.int .u64 x.fc.e2,.int .u64 x.fc.e3,.int .u64 x.fc.e4,.bool x.fPa,.int .u64 x.fAb]
structure cA where
 fl:ap
 fwhen:Int
def cA.C (x:cA):List Value:=[.int .i64 x.fl.fCa,.int .i64 x.fl.fOa,.int .i64 x.fl.fEa,.int .i64 x.fl.fBa,.int .i64 x.fwhen]
structure jG where
 e0:cA
 e1:cA
def jG.C (x:jG):List Value:=[.int .i64 x.e0.fl.fCa,.int .i64 x.e0.fl.fOa,.int .i64 x.e0.fl.fEa,.int .i64 x.e0.fl.fBa,.int .i64 x.e0.fwhen,.int .i64 x.e1.fl.fCa,.int .i64 x.e1.fl.fOa,.int .i64 x.e1.fl.fEa,.int .i64 x.e1.fl.fBa,.int .i64 x.e1.fwhen]
structure ao where
 fEa:Int
 fDa:Int
 fBa:Int
def ao.C (x:ao):List Value:=[.int .i64 x.fEa,.int .i64 x.fDa,.int .i64 x.fBa]
structure aA where
 fEa:Int
 fBa:Int
 fCa:Int
 fDa:Int
def aA.C (x:aA):List Value:=[.int .i64 x.fEa,.int .i64 x.fBa,.int .i64 x.fCa,.int .i64 x.fDa]
structure aH where
 fCa:Int
 fDa:Int
def aH.C (x:aH):List Value:=[.int .i64 x.fCa,.int .i64 x.fDa]
structure tK where
 fl:Sl
def tK.C (x:tK):List Value:=[sv x.fl]
structure oV where
 frefs:Sl
def oV.C (x:oV):List Value:=[sv x.frefs]
structure oY where
 fl:Sl
def oY.C (x:oY):List Value:=[sv x.fl]
structure gM where
 fs:aE
 fm:Ptr
 ftables:Sl
 fpool:Ptr
 fcaps:Ptr
def gM.C (x:gM):List Value:=[.int .i64 x.fs.fWa,.int .i64 x.fs.fJa,.int .i64 x.fs.fCb,pv x.fm,sv x.ftables,pv x.fpool,pv x.fcaps]
structure ly where
 fes:Sl
 fs:aE
 fk:Ptr
def ly.C (x:ly):List Value:=[sv x.fes,.int .i64 x.fs.fWa,.int .i64 x.fs.fJa,.int .i64 x.fs.fCb,pv x.fk]
structure oW where
 fl:Sl
def oW.C (x:oW):List Value:=[sv x.fl]
structure kv where
 fowner:Sl
 fheard:Sl
def kv.C (x:kv):List Value:=[sv x.fowner,sv x.fheard]
structure gb where
 fp:Ptr
 fenvs:Int
 ftlbs:Sl
 fboxes:Ptr
 fepochs:Ptr
 fcalls:Sl
 fevents:Sl
 fnow:Int
def gb.C (x:gb):List Value:=[pv x.fp,.int .i64 x.fenvs,sv x.ftlbs,pv x.fboxes,pv x.fepochs,sv x.fcalls,sv x.fevents,.int .i64 x.fnow]
structure eA where
 fKind:Int
 fQa:Int
 fCa:Int
 fIa:ah
 fSet:Int
 fWay:Int
def eA.C (x:eA):List Value:=[.int .i64 x.fKind,.int .i64 x.fQa,.int .i64 x.fCa,.int .u64 x.fIa.e0,.int .u64 x.fIa.e1,.int .u64 x.fIa.e2,.int .u64 x.fIa.e3,.int .u64 x.fIa.e4,.int .i64 x.fSet,.int .i64 x.fWay]
structure bZ where
 fDb:Int
 fCa:Int
 fIa:ah
 fRa:Value
def bZ.C (x:bZ):List Value:=[.int .i64 x.fDb,.int .i64 x.fCa,.int .u64 x.fIa.e0,.int .u64 x.fIa.e1,.int .u64 x.fIa.e2,.int .u64 x.fIa.e3,.int .u64 x.fIa.e4,x.fRa]
structure aM where
 ftyp_:Ptr
 fptr:Ptr
 fflag:Int
def aM.C (x:aM):List Value:=[pv x.ftyp_,pv x.fptr,.int .u64 x.fflag]
structure oX where
 fv:Int
 fn:Int
def oX.C (x:oX):List Value:=[.int .u64 x.fv,.int .i64 x.fn]
structure lx where
 fdrawn:Ptr
 fpassed:Ptr
def lx.C (x:lx):List Value:=[pv x.fdrawn,pv x.fpassed]
def aC (r:Bool):Value:=(.bool r)
theorem uy:Fld prog 40 0 0:=z_k 1 underlying40
theorem bc:Sc prog 3:=⟨⟨_,underlying3,rfl⟩,bJ (by kernel_rfl)⟩
theorem qb:Fld prog 24 0 0:=z_k 1 underlying24
theorem nM:Fld prog 40 1 1:=z_k 1 underlying40
theorem nO:Fld prog 24 1 1:=z_k 1 underlying24
theorem ux:Fld prog 40 3 7:=z_k 1 underlying40
theorem jE:Fld prog 40 4 8:=z_k 1 underlying40
theorem rQ:Fld prog 40 5 9:=z_k 1 underlying40
abbrev n_hist_one:Nat:=32
abbrev jW:Nat:=64
def R_map_int_bool (r:(Option Nat)):Value:=(.map r)
abbrev iC:Nat:=65
def R_map_int_int (r:(Option Nat)):Value:=(.map r)
theorem rY:Slc prog 22 40 16:=⟨underlying22,bJ (by kernel_rfl)⟩
theorem zero_40:∃ i,prog.info? 40 = some i/\i.zero = some (.agg (aG.C (⟨0,0,(⟨0,0,0,0,0⟩:ah),0,0,0,(⟨0,0⟩:ab),(⟨0,0,0,0⟩:ap)⟩:aG)).toArray):=kF (by kernel_rfl)
theorem ag_40:Ag prog 40 16:=⟨⟨_,underlying40,rfl⟩,bJ (by kernel_rfl)⟩
theorem qe:Ag prog 24 3:=⟨⟨_,underlying24,rfl⟩,bJ (by kernel_rfl)⟩
def bQ (r:Int × Bool):Value:=.tuple #[(.int .i64 r.1),(.bool r.2)]
theorem cu:prog.follows .mixedOrders = true:=by kernel_rfl
theorem en_32:aK prog 32:=R func32
theorem inf_40:∃ i,prog.info? 40 = some i/\i.size = 16:=bJ (by kernel_rfl)
abbrev yj:Nat:=6
def cJ (r:Sl):Value:=(sv r)
abbrev dT:Nat:=27
abbrev rn:Nat:=33
abbrev nV:Nat:=36
def R_ (_:Unit):Value:=.tuple #[]
theorem dA:Slc prog 27 3 1:=⟨underlying27,bJ (by kernel_rfl)⟩
def eH (r:Int):Value:=(.int .i64 r)
theorem mw:∃ i,prog.info? 3 = some i/\i.size = 1:=bJ (by kernel_rfl)
abbrev bS:Nat:=109
abbrev dp:Nat:=176
theorem en_176:aK prog 176:=R func176
abbrev dI:Nat:=151
abbrev cx:Nat:=110
theorem en_110:aK prog 110:=R func110
theorem en_151:aK prog 151:=R func151
theorem en_109:aK prog 109:=R func109
abbrev mf:Nat:=63
theorem en_63:aK prog 63:=R func63
abbrev eJ:Nat:=37
abbrev n_cmp_isNaN_int:Nat:=64
theorem en_64:aK prog 64:=R func64
abbrev vJ:Nat:=39
theorem en_39:aK prog 39:=R func39
theorem sc_22:Sc prog 22:=⟨⟨_,underlying22,rfl⟩,bJ (by kernel_rfl)⟩
abbrev sm:Nat:=38
theorem en_37:aK prog 37:=R func37
theorem en_33:aK prog 33:=R func33
abbrev eB:Nat:=22
abbrev mZ:Nat:=13
theorem uv:Fld prog 78 5 5:=z_k 1 underlying78
theorem sc_76:Sc prog 76:=⟨⟨_,underlying76,rfl⟩,bJ (by kernel_rfl)⟩
abbrev kg:Nat:=40
theorem slc_76:Slc prog 76 79 1:=⟨underlying76,bJ (by kernel_rfl)⟩
theorem sc_79:Sc prog 79:=⟨⟨_,underlying79,rfl⟩,bJ (by kernel_rfl)⟩
theorem en_40:aK prog 40:=R func40
abbrev fE:Nat:=20
theorem fld_78_1:Fld prog 78 1 1:=z_k 1 underlying78
theorem pZ:Fld prog 78 7 7:=z_k 1 underlying78
theorem fI:Ag prog 33 5:=⟨⟨_,underlying33,rfl⟩,bJ (by kernel_rfl)⟩
theorem fld_78_6:Fld prog 78 6 6:=z_k 1 underlying78
theorem build_40_0_1_2_3 (y0:Int) (y1:Int) (y2:ah) (y3:Int):∀ w,(Instr.build 40 #[(0,(.int .i64 y0)),(1,(.int .i64 y1)),(2,(.agg (ah.C y2).toArray)),(3,(.int .i64 y3))]).run prog w = .ok (.agg (aG.C (⟨y0,y1,y2,y3,0,0,(⟨0,0⟩:ab),(⟨0,0,0,0⟩:ap)⟩:aG)).toArray) w:=fun _=>by kernel_rfl
def eF (r:Sl):Value:=(sv r)
theorem build_81_0_1_2 (y0:Int) (y1:Int) (y2:ah):∀ w,(Instr.build 81 #[(0,(.int .i64 y0)),(1,(.int .i64 y1)),(2,(.agg (ah.C y2).toArray))]).run prog w = .ok (.agg (mH.C (⟨y0,y1,y2,false,0⟩:mH)).toArray) w:=fun _=>by kernel_rfl
theorem inf_79:∃ i,prog.info? 79 = some i/\i.size = 1:=bJ (by kernel_rfl)
abbrev db:Nat:=81
theorem inf_22:∃ i,prog.info? 22 = some i/\i.size = 1:=bJ (by kernel_rfl)
theorem en_20:aK prog 20:=R func20
abbrev gS:Nat:=17
theorem nh:Fld prog 109 0 0:=z_k 1 underlying109
theorem lX:Sc prog 107:=⟨⟨_,underlying107,rfl⟩,bJ (by kernel_rfl)⟩
abbrev ms:Nat:=111
theorem mM:Slc prog 107 106 1:=⟨underlying107,bJ (by kernel_rfl)⟩
theorem se:Sc prog 106:=⟨⟨_,underlying106,rfl⟩,bJ (by kernel_rfl)⟩
theorem en_111:aK prog 111:=R func111
abbrev lP:Nat:=65
def bN (r:Int × Bool):Value:=.tuple #[(.int .u64 r.1),(.bool r.2)]
theorem th:Slc prog 106 31 1:=⟨underlying106,bJ (by kernel_rfl)⟩
abbrev bg:Nat:=106
def cg (r:Sl):Value:=(sv r)
theorem inf_106:∃ i,prog.info? 106 = some i/\i.size = 1:=bJ (by kernel_rfl)
theorem cG:Sc prog 31:=⟨⟨_,underlying31,rfl⟩,bJ (by kernel_rfl)⟩
theorem en_65:aK prog 65:=R func65
abbrev mU:Nat:=41
def rU (r:Sl):Value:=(sv r)
theorem fld_153_0:Fld prog 153 0 0:=z_k 40 underlying153
theorem arr_151:Arr prog 151 4 150 10:=⟨underlying151,bJ (by kernel_rfl)⟩
abbrev t_2_tlb_line:Nat:=150
def R_tlb_line (r:cA):Value:=(.agg (cA.C r).toArray)
theorem zero_149:∃ i,prog.info? 149 = some i/\i.zero = some (.agg (cA.C (⟨(⟨0,0,0,0⟩:ap),0⟩:cA)).toArray):=kF (by kernel_rfl)
theorem rc:Fld prog 149 0 0:=z_k 4 underlying149
theorem iH:Ag prog 38 4:=⟨⟨_,underlying38,rfl⟩,bJ (by kernel_rfl)⟩
abbrev rA:Nat:=110
theorem inf_149:∃ i,prog.info? 149 = some i/\i.size = 5:=bJ (by kernel_rfl)
theorem ag_150:Ag prog 150 10:=⟨⟨_,underlying150,rfl⟩,bJ (by kernel_rfl)⟩
abbrev sf:Nat:=66
theorem xi:Fld prog 136 0 0:=z_k 3 underlying136
abbrev kN:Nat:=81
abbrev n_table_is:Nat:=118
def cN (r:ao × Bool):Value:=.tuple #[(.agg (ao.C r.1).toArray),(.bool r.2)]
theorem fj:∃ i,prog.info? 113 = some i/\i.zero = some (.agg (ao.C (⟨0,0,0⟩:ao)).toArray):=kF (by kernel_rfl)
theorem lq  : ∀ w,(Instr.build 113 #[]).run prog w = .ok (.agg (ao.C (⟨0,0,0⟩:ao)).toArray) w:=fun _=>by kernel_rfl
theorem dX:Ag prog 113 3:=⟨⟨_,underlying113,rfl⟩,bJ (by kernel_rfl)⟩
theorem dn:∃ i,prog.info? 113 = some i/\i.size = 3:=bJ (by kernel_rfl)
theorem ll:Fld prog 176 0 0:=z_k 24 underlying176
theorem tC:Arr prog 174 8 113 3:=⟨underlying174,bJ (by kernel_rfl)⟩
theorem dZ:Fld prog 113 2 2:=z_k 1 underlying113
theorem en_118:aK prog 118:=R func118
abbrev fC:Nat:=121
theorem fH:Fld prog 136 2 4:=z_k 1 underlying136
theorem nQ:Slc prog 132 121 1:=⟨underlying132,bJ (by kernel_rfl)⟩
theorem en_121:aK prog 121:=R func121
theorem sd:Sc prog 121:=⟨⟨_,underlying121,rfl⟩,bJ (by kernel_rfl)⟩
theorem nr:Sc prog 132:=⟨⟨_,underlying132,rfl⟩,bJ (by kernel_rfl)⟩
theorem en_81:aK prog 81:=R func81
abbrev gq:Nat:=77
theorem iJ:Fld prog 197 0 0:=z_k 1 underlying197
theorem qT:Sc prog 195:=⟨⟨_,underlying195,rfl⟩,bJ (by kernel_rfl)⟩
abbrev iS:Nat:=139
def cC (r:aA × Bool):Value:=.tuple #[(.agg (aA.C r.1).toArray),(.bool r.2)]
theorem gO:∃ i,prog.info? 51 = some i/\i.zero = some (.agg (aA.C (⟨0,0,0,0⟩:aA)).toArray):=kF (by kernel_rfl)
theorem build_51  : ∀ w,(Instr.build 51 #[]).run prog w = .ok (.agg (aA.C (⟨0,0,0,0⟩:aA)).toArray) w:=fun _=>by kernel_rfl
theorem xu:Ag prog 51 4:=⟨⟨_,underlying51,rfl⟩,bJ (by kernel_rfl)⟩
theorem ge:∃ i,prog.info? 51 = some i/\i.size = 4:=bJ (by kernel_rfl)
theorem pt:Slc prog 195 194 32:=⟨underlying195,bJ (by kernel_rfl)⟩
theorem rq:Arr prog 194 8 51 4:=⟨underlying194,bJ (by kernel_rfl)⟩
theorem ij:Fld prog 51 1 1:=z_k 1 underlying51
theorem en_139:aK prog 139:=R func139
abbrev eO:Nat:=91
theorem fW:Fld prog 136 4 6:=z_k 1 underlying136
theorem en_91:aK prog 91:=R func91
theorem iO:Sc prog 134:=⟨⟨_,underlying134,rfl⟩,bJ (by kernel_rfl)⟩
abbrev gr:Nat:=54
abbrev n_pte_May:Nat:=112
theorem en_112:aK prog 112:=R func112
abbrev n_pte_Within:Nat:=68
theorem gJ:Fld prog 81 2 2:=z_k 5 underlying81
theorem dq:Arr prog 33 5 31 1:=⟨underlying33,bJ (by kernel_rfl)⟩
theorem qa:Fld prog 78 0 0:=z_k 1 underlying78
theorem rP:Fld prog 51 2 2:=z_k 1 underlying51
theorem fld_51_3:Fld prog 51 3 3:=z_k 1 underlying51
theorem en_54:aK prog 54:=R func54
theorem vw:Sc prog 72:=⟨⟨_,underlying72,rfl⟩,bJ (by kernel_rfl)⟩
abbrev gj:Nat:=51
theorem xe:Fld prog 81 1 1:=z_k 1 underlying81
abbrev qW:Nat:=128
def xv (r:ao):Value:=(.agg (ao.C r).toArray)
theorem rd:Fld prog 113 1 1:=z_k 1 underlying113
theorem sV:aK prog 68:=R func68
theorem en_128:aK prog 128:=R func128
abbrev mW:Nat:=78
theorem en_78:aK prog 78:=R func78
theorem fld_81_3:Fld prog 81 3 7:=z_k 1 underlying81
theorem sc_4:Sc prog 4:=⟨⟨_,underlying4,rfl⟩,bJ (by kernel_rfl)⟩
theorem en_77:aK prog 77:=R func77
abbrev mV:Nat:=67
def kE (r:Ptr):Value:=(pv r)
theorem arr_150:Arr prog 150 2 149 5:=⟨underlying150,bJ (by kernel_rfl)⟩
theorem lf:Fld prog 38 0 0:=z_k 1 underlying38
theorem nN:Fld prog 38 1 1:=z_k 1 underlying38
abbrev pN:Nat:=113
def R_api_Line (r:ap):Value:=(.agg (ap.C r).toArray)
theorem lK:∃ i,prog.info? 38 = some i/\i.zero = some (.agg (ap.C (⟨0,0,0,0⟩:ap)).toArray):=kF (by kernel_rfl)
theorem build_38_0 (y0:Int):∀ w,(Instr.build 38 #[(0,(.int .i64 y0))]).run prog w = .ok (.agg (ap.C (⟨y0,0,0,0⟩:ap)).toArray) w:=fun _=>by kernel_rfl
theorem gf:∃ i,prog.info? 38 = some i/\i.size = 4:=bJ (by kernel_rfl)
abbrev n_tlb_empty:Nat:=114
theorem en_114:aK prog 114:=R func114
theorem en_113:aK prog 113:=R func113
abbrev nS:Nat:=69
theorem lc:Fld prog 78 2 2:=z_k 1 underlying78
theorem slc_73:Slc prog 73 99 1:=⟨underlying73,bJ (by kernel_rfl)⟩
theorem slc_110:Slc prog 110 38 4:=⟨underlying110,bJ (by kernel_rfl)⟩
theorem oU:Fld prog 113 0 0:=z_k 1 underlying113
theorem mB:Fld prog 38 2 2:=z_k 1 underlying38
theorem rR:Fld prog 38 3 3:=z_k 1 underlying38
theorem en_69:aK prog 69:=R func69
theorem sc_99:Sc prog 99:=⟨⟨_,underlying99,rfl⟩,bJ (by kernel_rfl)⟩
theorem sc_73:Sc prog 73:=⟨⟨_,underlying73,rfl⟩,bJ (by kernel_rfl)⟩
theorem en_67:aK prog 67:=R func67
theorem en_66:aK prog 66:=R func66
abbrev lQ:Nat:=42
theorem fld_119_1:Fld prog 119 1 1:=z_k 1 underlying119
abbrev lR:Nat:=70
def ik (r:Int):Value:=(.int .u64 r)
theorem fld_119_0:Fld prog 119 0 0:=z_k 1 underlying119
theorem sc_27:Sc prog 27:=⟨⟨_,underlying27,rfl⟩,bJ (by kernel_rfl)⟩
abbrev gt:Nat:=71
theorem inf_31:∃ i,prog.info? 31 = some i/\i.size = 1:=bJ (by kernel_rfl)
theorem en_71:aK prog 71:=R func71
theorem en_70:aK prog 70:=R func70
abbrev kP:Nat:=43
theorem fld_78_3:Fld prog 78 3 3:=z_k 1 underlying78
theorem fld_78_4:Fld prog 78 4 4:=z_k 1 underlying78
theorem en_43:aK prog 43:=R func43
theorem sc_75:Sc prog 75:=⟨⟨_,underlying75,rfl⟩,bJ (by kernel_rfl)⟩
theorem en_42:aK prog 42:=R func42
theorem en_41:aK prog 41:=R func41
theorem sc_74:Sc prog 74:=⟨⟨_,underlying74,rfl⟩,bJ (by kernel_rfl)⟩
abbrev mY:Nat:=18
abbrev n_word_Kind:Nat:=44
abbrev n_word_User:Nat:=45
abbrev tm:Nat:=115
def ah.get (x:ah) (i:Int):Int:=match i.toNat with | 0=>x.e0 | 1=>x.e1 | 2=>x.e2 | 3=>x.e3 | 4=>x.e4 | _=>x.e4
theorem at_33 (x:ah) (i:Int) (h:0 <= i/\i < 5):(ah.C x)[0 + i.toNat * 1]? = some (.int .u64 (ah.get x i)):=by
 obtain ⟨n,rfl⟩:=Int.eq_ofNat_of_zero_le h.1;have h2:n < 5:=by omega
 rcases n with _ | (_ | (_ | (_ | (_ | _)))) <;> first | rfl | omega
abbrev oa:Nat:=123
abbrev n_word_Rights:Nat:=152
theorem en_123:aK prog 123:=R func123
theorem en_152:aK prog 152:=R func152
abbrev n_word_fits:Nat:=116
def bj (r:Int):Value:=(.int .i64 r)
theorem en_116:aK prog 116:=R func116
theorem en_115:aK prog 115:=R func115
theorem en_44:aK prog 44:=R func44
abbrev ir:Nat:=72
def iY (r:Ptr):Value:=(pv r)
abbrev lh:Nat:=176
abbrev me:Nat:=73
def ao.eqb (x y:ao):Bool:=((x.fEa == y.fEa) && ((x.fDa == y.fDa) && ((x.fBa == y.fBa) && true)))
theorem eqr_113 (n:Nat) (x y:ao):EqR prog (n + 2) 113 (.agg (ao.C x).toArray) (.agg (ao.C y).toArray) (ao.eqb x y):=yB underlying113 (by kernel_rfl) (mC (by decide) (iF bc rfl) (iF bc rfl) (jS (n:=n + 0) underlying3) (mC (by decide) (iF bc rfl) (iF bc rfl) (jS (n:=n + 0) underlying3) (mC (by decide) (iF bc rfl) (iF bc rfl) (jS (n:=n + 0) underlying3) eqf_nil)))
theorem eqg_113:prog.eqGuardType prog.depth 113 = false:=by kernel_rfl
abbrev n_pte_Put:Nat:=117
theorem en_117:aK prog 117:=R func117
abbrev eN:Nat:=74
def gc (r:ap × Bool):Value:=.tuple #[(.agg (ap.C r.1).toArray),(.bool r.2)]
theorem mG  : ∀ w,(Instr.build 38 #[]).run prog w = .ok (.agg (ap.C (⟨0,0,0,0⟩:ap)).toArray) w:=fun _=>by kernel_rfl
abbrev pO:Nat:=119
abbrev n_pte_Lets:Nat:=120
theorem fld_149_1:Fld prog 149 1 4:=z_k 1 underlying149
abbrev ui:Nat:=153
theorem fld_153_1:Fld prog 153 1 40:=z_k 1 underlying153
theorem build_149_0_1 (y0:ap) (y1:Int):∀ w,(Instr.build 149 #[(0,(.agg (ap.C y0).toArray)),(1,(.int .i64 y1))]).run prog w = .ok (.agg (cA.C (⟨y0,y1⟩:cA)).toArray) w:=fun _=>by kernel_rfl
theorem en_153:aK prog 153:=R func153
abbrev pP:Nat:=122
theorem xq (y0:Int) (y1:Int) (y2:Int) (y3:Int):∀ w,(Instr.build 38 #[(0,(.int .i64 y0)),(1,(.int .i64 y1)),(2,(.int .i64 y2)),(3,(.int .i64 y3))]).run prog w = .ok (.agg (ap.C (⟨y0,y1,y2,y3⟩:ap)).toArray) w:=fun _=>by kernel_rfl
theorem en_122:aK prog 122:=R func122
theorem en_120:aK prog 120:=R func120
theorem en_119:aK prog 119:=R func119
abbrev vz:Nat:=75
theorem tJ:Fld prog 199 0 0:=z_k 1 underlying199
abbrev xc:Nat:=177
def tL (r:Ptr):Value:=(pv r)
theorem en_177:aK prog 177:=R func177
abbrev mT:Nat:=154
theorem en_154:aK prog 154:=R func154
abbrev iR:Nat:=124
abbrev fY:Nat:=125
theorem en_125:aK prog 125:=R func125
theorem en_124:aK prog 124:=R func124
abbrev rj:Nat:=126
abbrev rl:Nat:=127
def bb (r:ab × Bool):Value:=.tuple #[(.agg (ab.C r.1).toArray),(.bool r.2)]
theorem cY:∃ i,prog.info? 36 = some i/\i.zero = some (.agg (ab.C (⟨0,0⟩:ab)).toArray):=kF (by kernel_rfl)
theorem rT  : ∀ w,(Instr.build 36 #[]).run prog w = .ok (.agg (ab.C (⟨0,0⟩:ab)).toArray) w:=fun _=>by kernel_rfl
theorem cM:Ag prog 36 2:=⟨⟨_,underlying36,rfl⟩,bJ (by kernel_rfl)⟩
theorem bL:∃ i,prog.info? 36 = some i/\i.size = 2:=bJ (by kernel_rfl)
theorem kS (y1:Int):∀ w,(Instr.build 36 #[(1,(.int .u64 y1))]).run prog w = .ok (.agg (ab.C (⟨0,y1⟩:ab)).toArray) w:=fun _=>by kernel_rfl
theorem ng:Fld prog 136 1 3:=z_k 1 underlying136
theorem xZ:Sc prog 131:=⟨⟨_,underlying131,rfl⟩,bJ (by kernel_rfl)⟩
theorem en_126:aK prog 126:=R func126
theorem en_127:aK prog 127:=R func127
theorem en_45:aK prog 45:=R func45
abbrev fD:Nat:=76
def fh (r:ab × ap):Value:=.tuple #[(.agg (ab.C r.1).toArray),(.agg (ap.C r.2).toArray)]
theorem jM (y0:Int):∀ w,(Instr.build 36 #[(0,(.int .i64 y0))]).run prog w = .ok (.agg (ab.C (⟨y0,0⟩:ab)).toArray) w:=fun _=>by kernel_rfl
theorem en_76:aK prog 76:=R func76
theorem en_75:aK prog 75:=R func75
theorem en_74:aK prog 74:=R func74
theorem en_73:aK prog 73:=R func73
theorem en_72:aK prog 72:=R func72
abbrev ol:Nat:=46
theorem fld_81_0:Fld prog 81 0 0:=z_k 1 underlying81
theorem jD:Fld prog 40 6 10:=z_k 2 underlying40
theorem gK:Fld prog 40 7 12:=z_k 4 underlying40
abbrev mX:Nat:=47
abbrev pQ:Nat:=48
theorem inf_27:∃ i,prog.info? 27 = some i/\i.size = 1:=bJ (by kernel_rfl)
abbrev jx:Nat:=49
abbrev uo:Nat:=178
theorem en_178:aK prog 178:=R func178
abbrev vH:Nat:=155
abbrev qE:Nat:=156
theorem en_155:aK prog 155:=R func155
theorem en_156:aK prog 156:=R func156
abbrev fo:Nat:=129
abbrev tn:Nat:=158
abbrev lL:Nat:=3
abbrev wm:Nat:=157
theorem en_158:aK prog 158:=R func158
abbrev dP:Nat:=130
theorem en_130:aK prog 130:=R func130
theorem en_129:aK prog 129:=R func129
abbrev qV:Nat:=79
theorem en_79:aK prog 79:=R func79
abbrev nU:Nat:=50
abbrev jw:Nat:=80
theorem en_80:aK prog 80:=R func80
abbrev jR:Nat:=51
abbrev n_plain_fails:Nat:=82
theorem build_51_0_1_2 (y0:Int) (y1:Int) (y2:Int):∀ w,(Instr.build 51 #[(0,(.int .i64 y0)),(1,(.int .i64 y1)),(2,(.int .i64 y2))]).run prog w = .ok (.agg (aA.C (⟨y0,y1,y2,0⟩:aA)).toArray) w:=fun _=>by kernel_rfl
abbrev kj:Nat:=99
abbrev kL:Nat:=159
theorem oS:Fld prog 201 0 0:=z_k 1 underlying201
theorem en_159:aK prog 159:=R func159
abbrev ka:Nat:=131
abbrev t_none:Nat:=0
abbrev uk:Nat:=132
theorem oT:Fld prog 136 3 5:=z_k 1 underlying136
theorem en_99:aK prog 99:=R func99
theorem en_132:aK prog 132:=R func132
theorem en_131:aK prog 131:=R func131
theorem sc_133:Sc prog 133:=⟨⟨_,underlying133,rfl⟩,bJ (by kernel_rfl)⟩
abbrev mh:Nat:=83
theorem uw:Fld prog 51 0 0:=z_k 1 underlying51
theorem build_51_0_1_2_3 (y0:Int) (y1:Int) (y2:Int) (y3:Int):∀ w,(Instr.build 51 #[(0,(.int .i64 y0)),(1,(.int .i64 y1)),(2,(.int .i64 y2)),(3,(.int .i64 y3))]).run prog w = .ok (.agg (aA.C (⟨y0,y1,y2,y3⟩:aA)).toArray) w:=fun _=>by kernel_rfl
abbrev iT:Nat:=100
abbrev ke:Nat:=160
theorem en_160:aK prog 160:=R func160
abbrev mR:Nat:=133
def df (r:Sl):Value:=(sv r)
abbrev lW:Nat:=194
def R_api_Cap (r:aA):Value:=(.agg (aA.C r).toArray)
theorem wx (y0:Int) (y1:Int):∀ w,(Instr.build 192 #[(0,(.int .i64 y0)),(1,(.int .i64 y1))]).run prog w = .ok (.agg (aH.C (⟨y0,y1⟩:aH)).toArray) w:=fun _=>by kernel_rfl
theorem zero_192:∃ i,prog.info? 192 = some i/\i.zero = some (.agg (aH.C (⟨0,0⟩:aH)).toArray):=kF (by kernel_rfl)
theorem ag_192:Ag prog 192 2:=⟨⟨_,underlying192,rfl⟩,bJ (by kernel_rfl)⟩
abbrev iD:Nat:=161
theorem inf_192:∃ i,prog.info? 192 = some i/\i.size = 2:=bJ (by kernel_rfl)
abbrev la:Nat:=145
abbrev nc:Nat:=161
theorem slc_161:Slc prog 161 192 2:=⟨underlying161,bJ (by kernel_rfl)⟩
theorem fld_192_0:Fld prog 192 0 0:=z_k 1 underlying192
theorem fld_192_1:Fld prog 192 1 1:=z_k 1 underlying192
abbrev ie:Nat:=162
abbrev lS:Nat:=147
def aH.eqb (x y:aH):Bool:=((x.fCa == y.fCa) && ((x.fDa == y.fDa) && true))
theorem eqr_192 (n:Nat) (x y:aH):EqR prog (n + 2) 192 (.agg (aH.C x).toArray) (.agg (aH.C y).toArray) (aH.eqb x y):=yB underlying192 (by kernel_rfl) (mC (by decide) (iF bc rfl) (iF bc rfl) (jS (n:=n + 0) underlying3) (mC (by decide) (iF bc rfl) (iF bc rfl) (jS (n:=n + 0) underlying3) eqf_nil))
theorem eqg_192:prog.eqGuardType prog.depth 192 = false:=by kernel_rfl
theorem en_147:aK prog 147:=R func147
abbrev ig:Nat:=163
def dJ (r:Sl × Int):Value:=.tuple #[(sv r.1),(.int .i64 r.2)]
theorem en_162:aK prog 162:=R func162
theorem en_145:aK prog 145:=R func145
abbrev sZ:Nat:=192
theorem en_161:aK prog 161:=R func161
abbrev ta:Nat:=134
abbrev ne:Nat:=134
theorem en_134:aK prog 134:=R func134
theorem en_133:aK prog 133:=R func133
theorem en_100:aK prog 100:=R func100
abbrev iZ:Nat:=84
def jU (r:ao × Int):Value:=.tuple #[(.agg (ao.C r.1).toArray),(.int .i64 r.2)]
abbrev jv:Nat:=87
abbrev mv:Nat:=146
abbrev lT:Nat:=104
theorem en_104:aK prog 104:=R func104
abbrev oq:Nat:=135
abbrev uR:Nat:=174
abbrev mQ:Nat:=136
abbrev nT:Nat:=137
def iB (r:ab):Value:=(.agg (ab.C r).toArray)
theorem en_87:aK prog 87:=R func87
theorem en_137:aK prog 137:=R func137
theorem en_136:aK prog 136:=R func136
theorem en_135:aK prog 135:=R func135
abbrev lA:Nat:=85
theorem nW (y0:Int) (y1:Int) (y2:Int):∀ w,(Instr.build 113 #[(0,(.int .i64 y0)),(1,(.int .i64 y1)),(2,(.int .i64 y2))]).run prog w = .ok (.agg (ao.C (⟨y0,y1,y2⟩:ao)).toArray) w:=fun _=>by kernel_rfl
abbrev nu:Nat:=86
abbrev lz:Nat:=138
theorem en_138:aK prog 138:=R func138
abbrev kM:Nat:=88
abbrev n_pred_Holds:Nat:=105
theorem en_82:aK prog 82:=R func82
theorem en_105:aK prog 105:=R func105
abbrev mg:Nat:=89
abbrev ns:Nat:=90
theorem en_85:aK prog 85:=R func85
theorem en_83:aK prog 83:=R func83
theorem en_84:aK prog 84:=R func84
theorem en_86:aK prog 86:=R func86
theorem en_88:aK prog 88:=R func88
theorem en_89:aK prog 89:=R func89
theorem en_90:aK prog 90:=R func90
abbrev dL:Nat:=52
theorem en_47:aK prog 47:=R func47
theorem en_46:aK prog 46:=R func46
theorem fld_81_4:Fld prog 81 4 8:=z_k 1 underlying81
theorem en_50:aK prog 50:=R func50
theorem en_49:aK prog 49:=R func49
theorem inf_4:∃ i,prog.info? 4 = some i/\i.size = 1:=bJ (by kernel_rfl)
theorem en_52:aK prog 52:=R func52
theorem en_51:aK prog 51:=R func51
theorem en_48:aK prog 48:=R func48
abbrev kh:Nat:=19
abbrev qX:Nat:=53
theorem en_19:aK prog 19:=R func19
theorem en_18:aK prog 18:=R func18
theorem en_53:aK prog 53:=R func53
abbrev fS:Nat:=21
abbrev fx:Nat:=55
theorem en_55:aK prog 55:=R func55
abbrev fy:Nat:=23
theorem en_23:aK prog 23:=R func23
theorem en_21:aK prog 21:=R func21
theorem en_17:aK prog 17:=R func17
abbrev ci:Nat:=16
def uI (r:Ptr):Value:=(pv r)
theorem build_199  : ∀ w,(Instr.build 199 #[]).run prog w = .ok (.agg (tK.C (⟨(⟨none,0,0,none⟩:Sl)⟩:tK)).toArray) w:=fun _=>by kernel_rfl
abbrev qN:Nat:=107
def R_SSuint64 (r:Sl):Value:=(sv r)
theorem inf_107:∃ i,prog.info? 107 = some i/\i.size = 1:=bJ (by kernel_rfl)
abbrev mI:Nat:=199
abbrev xa:Nat:=92
def tD (r:Ptr):Value:=(pv r)
theorem build_201_0 (y0:Sl):∀ w,(Instr.build 201 #[(0,(sv y0))]).run prog w = .ok (.agg (oV.C (⟨y0⟩:oV)).toArray) w:=fun _=>by kernel_rfl
abbrev rx:Nat:=201
abbrev yh:Nat:=93
def tE (r:Ptr):Value:=(pv r)
abbrev t_S_8_api_Cap:Nat:=195
def R_S_8_api_Cap (r:Sl):Value:=(sv r)
theorem build_197_0 (y0:Sl):∀ w,(Instr.build 197 #[(0,(sv y0))]).run prog w = .ok (.agg (oY.C (⟨y0⟩:oY)).toArray) w:=fun _=>by kernel_rfl
abbrev oD:Nat:=197
abbrev yk:Nat:=94
def dY (r:Ptr):Value:=(pv r)
theorem xf:Fld prog 24 2 2:=z_k 1 underlying24
theorem build_136_0_1_3_4 (y0:aE) (y1:Ptr) (y3:Ptr) (y4:Ptr):∀ w,(Instr.build 136 #[(0,(.agg (aE.C y0).toArray)),(1,(pv y1)),(3,(pv y3)),(4,(pv y4))]).run prog w = .ok (.agg (gM.C (⟨y0,y1,(⟨none,0,0,none⟩:Sl),y3,y4⟩:gM)).toArray) w:=fun _=>by kernel_rfl
abbrev fq:Nat:=132
def nX (r:Sl):Value:=(sv r)
theorem inf_132:∃ i,prog.info? 132 = some i/\i.size = 1:=bJ (by kernel_rfl)
abbrev cL:Nat:=136
theorem en_94:aK prog 94:=R func94
theorem en_93:aK prog 93:=R func93
theorem en_92:aK prog 92:=R func92
abbrev oK:Nat:=56
theorem mz:Fld prog 40 2 2:=z_k 5 underlying40
abbrev n_judge_user:Nat:=96
abbrev um:Nat:=34
abbrev n_hist_Over:Nat:=8
abbrev hO:Nat:=180
theorem en_180:aK prog 180:=R func180
abbrev si:Nat:=164
abbrev nt:Nat:=165
theorem en_164:aK prog 164:=R func164
theorem en_165:aK prog 165:=R func165
theorem en_56:aK prog 56:=R func56
abbrev ic:Nat:=141
def rh (r:Sl):Value:=(sv r)
theorem xh:Fld prog 156 2 4:=z_k 1 underlying156
abbrev qM:Nat:=202
theorem fld_156_0:Fld prog 156 0 0:=z_k 1 underlying156
theorem en_141:aK prog 141:=R func141
theorem en_8:aK prog 8:=R func8
abbrev mt:Nat:=140
theorem fld_156_1:Fld prog 156 1 1:=z_k 3 underlying156
def ab.eqb (x y:ab):Bool:=((x.fRa == y.fRa) && ((x.fVal == y.fVal) && true))
theorem lO:Sc prog 34:=⟨⟨_,underlying34,rfl⟩,bJ (by kernel_rfl)⟩
theorem eqr_36 (n:Nat) (x y:ab):EqR prog (n + 2) 36 (.agg (ab.C x).toArray) (.agg (ab.C y).toArray) (ab.eqb x y):=yB underlying36 (by kernel_rfl) (mC (by decide) (iF lO rfl) (iF lO rfl) (jS (n:=n + 0) underlying34) (mC (by decide) (iF cG rfl) (iF cG rfl) (jS (n:=n + 0) underlying31) eqf_nil))
theorem eqg_36:prog.eqGuardType prog.depth 36 = false:=by kernel_rfl
def ap.eqb (x y:ap):Bool:=((x.fCa == y.fCa) && ((x.fOa == y.fOa) && ((x.fEa == y.fEa) && ((x.fBa == y.fBa) && true))))
theorem eqr_38 (n:Nat) (x y:ap):EqR prog (n + 2) 38 (.agg (ap.C x).toArray) (.agg (ap.C y).toArray) (ap.eqb x y):=yB underlying38 (by kernel_rfl) (mC (by decide) (iF bc rfl) (iF bc rfl) (jS (n:=n + 0) underlying3) (mC (by decide) (iF bc rfl) (iF bc rfl) (jS (n:=n + 0) underlying3) (mC (by decide) (iF bc rfl) (iF bc rfl) (jS (n:=n + 0) underlying3) (mC (by decide) (iF bc rfl) (iF bc rfl) (jS (n:=n + 0) underlying3) eqf_nil))))
theorem eqg_38:prog.eqGuardType prog.depth 38 = false:=by kernel_rfl
theorem slc_202:Slc prog 202 113 3:=⟨underlying202,bJ (by kernel_rfl)⟩
theorem gL:Fld prog 36 0 0:=z_k 1 underlying36
theorem fld_36_1:Fld prog 36 1 1:=z_k 1 underlying36
theorem en_140:aK prog 140:=R func140
abbrev mu:Nat:=97
abbrev oo:Nat:=98
theorem build_156_0_1_2 (y0:Sl) (y1:aE) (y2:Ptr):∀ w,(Instr.build 156 #[(0,(sv y0)),(1,(.agg (aE.C y1).toArray)),(2,(pv y2))]).run prog w = .ok (.agg (ly.C (⟨y0,y1,y2⟩:ly)).toArray) w:=fun _=>by kernel_rfl
theorem en_98:aK prog 98:=R func98
theorem en_97:aK prog 97:=R func97
theorem en_96:aK prog 96:=R func96
theorem en_13:aK prog 13:=R func13
abbrev dz:Nat:=156
theorem en_6:aK prog 6:=R func6
abbrev vC:Nat:=60
theorem en_60:aK prog 60:=R func60
abbrev pR:Nat:=26
abbrev pS:Nat:=27
theorem en_27:aK prog 27:=R func27
theorem en_26:aK prog 26:=R func26
abbrev rm:Nat:=24
def qf (r:Ptr):Value:=(pv r)
theorem build_109_0 (y0:Sl):∀ w,(Instr.build 109 #[(0,(sv y0))]).run prog w = .ok (.agg (oW.C (⟨y0⟩:oW)).toArray) w:=fun _=>by kernel_rfl
abbrev lV:Nat:=109
abbrev ul:Nat:=57
def jm (r:Ptr):Value:=(pv r)
theorem build_119_1 (y1:Sl):∀ w,(Instr.build 119 #[(1,(sv y1))]).run prog w = .ok (.agg (kv.C (⟨(⟨none,0,0,none⟩:Sl),y1⟩:kv)).toArray) w:=fun _=>by kernel_rfl
abbrev iM:Nat:=119
abbrev oN:Nat:=58
abbrev sg:Nat:=95
def hZ (r:Ptr):Value:=(pv r)
abbrev qL:Nat:=153
theorem en_95:aK prog 95:=R func95
abbrev jj:Nat:=59
def kV (r:Ptr):Value:=(pv r)
abbrev nH:Nat:=76
def rr (r:Sl):Value:=(sv r)
theorem oz (y0:Ptr) (y1:Int) (y3:Ptr) (y4:Ptr) (y5:Sl):∀ w,(Instr.build 78 #[(0,(pv y0)),(1,(.int .i64 y1)),(3,(pv y3)),(4,(pv y4)),(5,(sv y5))]).run prog w = .ok (.agg (gb.C (⟨y0,y1,(⟨none,0,0,none⟩:Sl),y3,y4,y5,(⟨none,0,0,none⟩:Sl),0⟩:gb)).toArray) w:=fun _=>by kernel_rfl
abbrev bT:Nat:=73
def ee (r:Sl):Value:=(sv r)
theorem inf_73:∃ i,prog.info? 73 = some i/\i.size = 1:=bJ (by kernel_rfl)
theorem en_59:aK prog 59:=R func59
abbrev cq:Nat:=78
theorem en_58:aK prog 58:=R func58
theorem en_57:aK prog 57:=R func57
abbrev yi:Nat:=25
def oZ (r:Sl):Value:=(sv r)
abbrev oE:Nat:=59
theorem build_103_0_1 (y0:Int) (y1:Int):∀ w,(Instr.build 103 #[(0,(.int .i64 y0)),(1,(.int .i64 y1))]).run prog w = .ok (.agg (eA.C (⟨y0,y1,0,(⟨0,0,0,0,0⟩:ah),0,0⟩:eA)).toArray) w:=fun _=>by kernel_rfl
abbrev wo:Nat:=28
abbrev ye:Nat:=142
theorem en_142:aK prog 142:=R func142
abbrev n_user_Do:Nat:=101
def ja (r:Value):Value:=(r)
theorem build_216_0_1 (y0:Int) (y1:Int):∀ w,(Instr.build 216 #[(0,(.int .i64 y0)),(1,(.int .i64 y1))]).run prog w = .ok (.agg (bZ.C (⟨y0,y1,(⟨0,0,0,0,0⟩:ah),Value.nilIface⟩:bZ)).toArray) w:=fun _=>by kernel_rfl
abbrev bi:Nat:=214
abbrev oC:Nat:=216
abbrev lj:Nat:=107
abbrev gG:Nat:=148
theorem ag_262:Ag prog 262 3:=⟨⟨_,underlying262,rfl⟩,bJ (by kernel_rfl)⟩
abbrev fN:Nat:=192
def fX (r:aM):Value:=(.agg (aM.C r).toArray)
abbrev dh:Nat:=188
abbrev fT:Nat:=193
abbrev gR:Nat:=159
abbrev jI:Nat:=241
def gN (r:Value × Bool):Value:=.tuple #[(r.1),(.bool r.2)]
abbrev jf:Nat:=243
def gx (r:Value × Bool):Value:=.tuple #[(r.1),(.bool r.2)]
def R_Serror (r:Sl):Value:=(sv r)
theorem slc_244:Slc prog 244 159 1:=⟨underlying244,bJ (by kernel_rfl)⟩
abbrev vD:Nat:=191
theorem en_191:aK prog 191:=R func191
theorem sc_159:Sc prog 159:=⟨⟨_,underlying159,rfl⟩,bJ (by kernel_rfl)⟩
abbrev ry:Nat:=271
def oA (r:Value × Bool):Value:=.tuple #[(r.1),(.bool r.2)]
theorem zero_262:∃ i,prog.info? 262 = some i/\i.zero = some (.agg (aM.C (⟨none,none,0⟩:aM)).toArray):=kF (by kernel_rfl)
abbrev je:Nat:=189
def R_abi_Kind (r:Int):Value:=(.int .u8 r)
def str_6ae768b9:ByteArray:=⟨#[101,114,114,111,114,115,58,32,42,116,97,114,103,101,116,32,109,117,115,116,32,98,101,32,105,110,116,101,114,102,97,99,101,32,111,114,32,105,109,112,108,101,109,101,110,116,32,101,114,114,111,114]⟩
abbrev wz:Nat:=9
theorem sc_211:Sc prog 211:=⟨⟨_,underlying211,rfl⟩,bJ (by kernel_rfl)⟩
abbrev fz:Nat:=190
def str_ae9b7a08:ByteArray:=⟨#[101,114,114,111,114,115,58,32,116,97,114,103,101,116,32,109,117,115,116,32,98,101,32,97,32,110,111,110,45,110,105,108,32,112,111,105,110,116,101,114]⟩
theorem inf_262:∃ i,prog.info? 262 = some i/\i.size = 3:=bJ (by kernel_rfl)
def str_53947bae:ByteArray:=⟨#[101,114,114,111,114,115,58,32,116,97,114,103,101,116,32,99,97,110,110,111,116,32,98,101,32,110,105,108]⟩
abbrev vF:Nat:=186
def fe (r:Ptr × Bool):Value:=.tuple #[(pv r.1),(.bool r.2)]
theorem zero_214:∃ i,prog.info? 214 = some i/\i.zero = some (pv none):=kF (by kernel_rfl)
theorem sc_214:Sc prog 214:=⟨⟨_,underlying214,rfl⟩,bJ (by kernel_rfl)⟩
abbrev bF:Nat:=256
theorem en_186:aK prog 186:=R func186
abbrev kJ:Nat:=181
theorem xg:Fld prog 216 0 0:=z_k 1 underlying216
theorem en_181:aK prog 181:=R func181
abbrev vB:Nat:=166
def R_trap_Trap (r:bZ):Value:=(.agg (bZ.C r).toArray)
theorem en_166:aK prog 166:=R func166
abbrev n_trap_In:Nat:=143
theorem yC:aK prog 107:=R func107
theorem en_143:aK prog 143:=R func143
abbrev oh:Nat:=102
def qg (r:Ptr):Value:=(pv r)
theorem build_251_0 (y0:Int):∀ w,(Instr.build 251 #[(0,(.int .u64 y0))]).run prog w = .ok (.agg (oX.C (⟨y0,0⟩:oX)).toArray) w:=fun _=>by kernel_rfl
abbrev rz:Nat:=251
abbrev uq:Nat:=167
def uH (r:Ptr):Value:=(pv r)
theorem build_253_0_1 (y0:Ptr) (y1:Ptr):∀ w,(Instr.build 253 #[(0,(pv y0)),(1,(pv y1))]).run prog w = .ok (.agg (lx.C (⟨y0,y1⟩:lx)).toArray) w:=fun _=>by kernel_rfl
abbrev nF:Nat:=253
theorem en_167:aK prog 167:=R func167
abbrev yg:Nat:=168
theorem tI:Fld prog 251 1 1:=z_k 1 underlying251
theorem oR:Fld prog 251 0 0:=z_k 1 underlying251
abbrev pU:Nat:=169
theorem fld_253_0:Fld prog 253 0 0:=z_k 1 underlying253
theorem en_169:aK prog 169:=R func169
theorem sc_230:Sc prog 230:=⟨⟨_,underlying230,rfl⟩,bJ (by kernel_rfl)⟩
abbrev og:Nat:=170
abbrev oL:Nat:=149
theorem en_149:aK prog 149:=R func149
abbrev nj:Nat:=238
def kw (r:Value × Bool):Value:=.tuple #[(r.1),(.bool r.2)]
abbrev oM:Nat:=106
theorem fld_216_3:Fld prog 216 3 7:=z_k 1 underlying216
abbrev yf:Nat:=187
theorem gB (y0:Int) (y1:Int):∀ w,(Instr.build 33 #[(0,(.int .u64 y0)),(1,(.int .u64 y1))]).run prog w = .ok (.agg (ah.C (⟨y0,y1,0,0,0⟩:ah)).toArray) w:=fun _=>by kernel_rfl
theorem fld_216_1:Fld prog 216 1 1:=z_k 1 underlying216
theorem fld_216_2:Fld prog 216 2 2:=z_k 5 underlying216
def ah.eqb (x y:ah):Bool:=((x.e0 == y.e0) && ((x.e1 == y.e1) && ((x.e2 == y.e2) && ((x.e3 == y.e3) && ((x.e4 == y.e4) && true)))))
theorem eqr_33 (n:Nat) (x y:ah):EqR prog (n + 2) 33 (.agg (ah.C x).toArray) (.agg (ah.C y).toArray) (ah.eqb x y):=eqr_arr underlying33 inf_31 ⟨_,_,_,_,(iF cG rfl),(iF cG rfl),(jS (n:=n + 0) underlying31),⟨_,_,_,_,(iF cG rfl),(iF cG rfl),(jS (n:=n + 0) underlying31),⟨_,_,_,_,(iF cG rfl),(iF cG rfl),(jS (n:=n + 0) underlying31),⟨_,_,_,_,(iF cG rfl),(iF cG rfl),(jS (n:=n + 0) underlying31),⟨_,_,_,_,(iF cG rfl),(iF cG rfl),(jS (n:=n + 0) underlying31),rfl,rfl⟩,rfl⟩,rfl⟩,rfl⟩,rfl⟩
theorem eqg_33:prog.eqGuardType prog.depth 33 = false:=by kernel_rfl
def eE (r:ByteArray):Value:=(.string r)
def ph:ByteArray:=⟨#[116,114,97,112,32,51,58,32,116,114,97,112,32,51]⟩
theorem en_106:aK prog 106:=R func106
theorem en_187:aK prog 187:=R func187
abbrev mn:Nat:=182
theorem en_182:aK prog 182:=R func182
abbrev mo:Nat:=171
abbrev na:Nat:=183
theorem fld_253_1:Fld prog 253 1 1:=z_k 1 underlying253
theorem en_183:aK prog 183:=R func183
abbrev kK:Nat:=172
abbrev sn:Nat:=184
theorem en_184:aK prog 184:=R func184
theorem en_172:aK prog 172:=R func172
abbrev oe:Nat:=173
abbrev n_word_Args:Nat:=174
abbrev mS:Nat:=150
theorem en_150:aK prog 150:=R func150
abbrev qU:Nat:=175
theorem build_33_0 (y0:Int):∀ w,(Instr.build 33 #[(0,(.int .u64 y0))]).run prog w = .ok (.agg (ah.C (⟨y0,0,0,0,0⟩:ah)).toArray) w:=fun _=>by kernel_rfl
theorem eU (y0:Int) (y1:Int) (y2:Int) (y3:Int):∀ w,(Instr.build 33 #[(0,(.int .u64 y0)),(1,(.int .u64 y1)),(2,(.int .u64 y2)),(3,(.int .u64 y3))]).run prog w = .ok (.agg (ah.C (⟨y0,y1,y2,y3,0⟩:ah)).toArray) w:=fun _=>by kernel_rfl
theorem en_175:aK prog 175:=R func175
theorem en_174:aK prog 174:=R func174
theorem en_173:aK prog 173:=R func173
theorem en_171:aK prog 171:=R func171
theorem en_170:aK prog 170:=R func170
theorem en_168:aK prog 168:=R func168
abbrev mi:Nat:=144
theorem en_144:aK prog 144:=R func144
abbrev mj:Nat:=103
abbrev nv:Nat:=108
theorem uF (y0:Int) (y1:Int) (y2:Int):∀ w,(Instr.build 24 #[(0,(.int .i64 y0)),(1,(.int .i64 y1)),(2,(.int .i64 y2))]).run prog w = .ok (.agg (aE.C (⟨y0,y1,y2⟩:aE)).toArray) w:=fun _=>by kernel_rfl
theorem iX (y0:Int) (y1:Int) (y2:Int):∀ w,(Instr.build 33 #[(0,(.int .u64 y0)),(1,(.int .u64 y1)),(2,(.int .u64 y2))]).run prog w = .ok (.agg (ah.C (⟨y0,y1,y2,0,0⟩:ah)).toArray) w:=fun _=>by kernel_rfl
theorem en_108:aK prog 108:=R func108
theorem en_103:aK prog 103:=R func103
theorem en_102:aK prog 102:=R func102
theorem en_101:aK prog 101:=R func101
abbrev lC:Nat:=61
theorem en_61:aK prog 61:=R func61
abbrev lD:Nat:=29
theorem slc_59:Slc prog 59 103 10:=⟨underlying59,bJ (by kernel_rfl)⟩
theorem zero_103:∃ i,prog.info? 103 = some i/\i.zero = some (.agg (eA.C (⟨0,0,0,(⟨0,0,0,0,0⟩:ah),0,0⟩:eA)).toArray):=kF (by kernel_rfl)
theorem fld_103_0:Fld prog 103 0 0:=z_k 1 underlying103
theorem fld_103_1:Fld prog 103 1 1:=z_k 1 underlying103
theorem inf_103:∃ i,prog.info? 103 = some i/\i.size = 10:=bJ (by kernel_rfl)
theorem ag_103:Ag prog 103 10:=⟨⟨_,underlying103,rfl⟩,bJ (by kernel_rfl)⟩
abbrev pT:Nat:=62
theorem en_62:aK prog 62:=R func62
abbrev n_fair_Fair:Nat:=30
def nP (r:Sl):Value:=(sv r)
abbrev nG:Nat:=62
abbrev n_twin_View:Nat:=31
theorem zero_24:∃ i,prog.info? 24 = some i/\i.zero = some (.agg (aE.C (⟨0,0,0⟩:aE)).toArray):=kF (by kernel_rfl)
theorem en_24:aK prog 24:=R func24
theorem en_31:aK prog 31:=R func31
theorem en_30:aK prog 30:=R func30
theorem en_29:aK prog 29:=R func29
theorem en_28:aK prog 28:=R func28
theorem en_16:aK prog 16:=R func16
theorem en_25:aK prog 25:=R func25
theorem inf_24:∃ i,prog.info? 24 = some i/\i.size = 3:=bJ (by kernel_rfl)
abbrev lB:Nat:=5
theorem en_5:aK prog 5:=R func5
abbrev t_Sapi_Call:Nat:=71
def R_Sapi_Call (r:Sl):Value:=(sv r)
theorem slc_71:Slc prog 71 33 5:=⟨underlying71,bJ (by kernel_rfl)⟩
theorem zero_33:∃ i,prog.info? 33 = some i/\i.zero = some (.agg (ah.C (⟨0,0,0,0,0⟩:ah)).toArray):=kF (by kernel_rfl)
theorem inf_33:∃ i,prog.info? 33 = some i/\i.size = 5:=bJ (by kernel_rfl)
abbrev kO:Nat:=15
abbrev sj:Nat:=22
theorem en_22:aK prog 22:=R func22
theorem en_15:aK prog 15:=R func15
abbrev mq:Nat:=4
def str_73df774b:ByteArray:=⟨#[48,49,50,51,52,53,54,55,56,57,97,98,99,100,101,102,103,104,105,106,107,108,109,110,111,112,113,114,115,116,117,118,119,120,121,122]⟩
def str_e9752c08:ByteArray:=⟨#[48,48,48,49,48,50,48,51,48,52,48,53,48,54,48,55,48,56,48,57,49,48,49,49,49,50,49,51,49,52,49,53,49,54,49,55,49,56,49,57,50,48,50,49,50,50,50,51,50,52,50,53,50,54,50,55,50,56,50,57,51,48,51,49,51,50,51,51,51,52,51,53,51,54,51,55,51,56,51,57,52,48,52,49,52,50,52,51,52,52,52,53,52,54,52,55,52,56,52,57,53,48,53,49,53,50,53,51,53,52,53,53,53,54,53,55,53,56,53,57,54,48,54,49,54,50,54,51,54,52,54,53,54,54,54,55,54,56,54,57,55,48,55,49,55,50,55,51,55,52,55,53,55,54,55,55,55,56,55,57,56,48,56,49,56,50,56,51,56,52,56,53,56,54,56,55,56,56,56,57,57,48,57,49,57,50,57,51,57,52,57,53,57,54,57,55,57,56,57,57]⟩
abbrev jK:Nat:=219
abbrev sk:Nat:=220
theorem inf_5:∃ i,prog.info? 5 = some i/\i.size = 1:=bJ (by kernel_rfl)
abbrev qk:Nat:=221
def R_Suint8_string (r:Sl × ByteArray):Value:=.tuple #[(sv r.1),(.string r.2)]
def R_Suint8 (r:Sl):Value:=(sv r)
abbrev rN:Nat:=222
theorem en_219:aK prog 219:=R func219
theorem zero_293:∃ i,prog.info? 293 = some i/\i.zero = some (.agg [.int .u8 0,.int .u8 0,.int .u8 0,.int .u8 0,.int .u8 0,.int .u8 0,.int .u8 0,.int .u8 0,.int .u8 0,.int .u8 0,.int .u8 0,.int .u8 0,.int .u8 0,.int .u8 0,.int .u8 0,.int .u8 0,.int .u8 0,.int .u8 0,.int .u8 0,.int .u8 0,.int .u8 0,.int .u8 0,.int .u8 0,.int .u8 0].toArray):=kF (by kernel_rfl)
abbrev xz:Nat:=293
theorem arr_293:Arr prog 293 24 5 1:=⟨underlying293,bJ (by kernel_rfl)⟩
theorem en_221:aK prog 221:=R func221
theorem en_220:aK prog 220:=R func220
theorem en_222:aK prog 222:=R func222
abbrev hY:Nat:=218
theorem en_218:aK prog 218:=R func218
abbrev ki:Nat:=217
theorem en_217:aK prog 217:=R func217
abbrev uj:Nat:=216
theorem en_216:aK prog 216:=R func216
abbrev ju:Nat:=213
abbrev uh:Nat:=214
abbrev od:Nat:=215
abbrev t_api_Event:Nat:=40
abbrev t_api_Pick:Nat:=103
abbrev t_api_Answer:Nat:=36
abbrev t_api_Call:Nat:=33
abbrev tN:Nat:=99
abbrev fQ:Nat:=79
abbrev t_uint64:Nat:=31
abbrev t_api_Line:Nat:=38
abbrev eL:Nat:=121
abbrev t_api_Pte:Nat:=113
abbrev t_bool:Nat:=4
abbrev sx:Nat:=236
abbrev t_tlb_line:Nat:=149
end
section
open Go Mb
theorem ro:El prog eB t_api_Event 16 128 [.int .i64 0,.int .i64 0,.int .u64 0,.int .u64 0,.int .u64 0,.int .u64 0,.int .u64 0,.int .i64 0,.int .i64 0,.int .i64 0,.int .i64 0,.int .u64 0,.int .i64 0,.int .i64 0,.int .i64 0,.int .i64 0]:=vO underlying22 (by kernel_rfl) rfl
theorem el_Sint:El prog dT lL 1 8 [.int .i64 0]:=vO underlying27 (by kernel_rfl) rfl
theorem el_Sapi_Pick:El prog oE t_api_Pick 10 80 [.int .i64 0,.int .i64 0,.int .i64 0,.int .u64 0,.int .u64 0,.int .u64 0,.int .u64 0,.int .u64 0,.int .i64 0,.int .i64 0]:=vO underlying59 (by kernel_rfl) rfl
theorem el_Sapi_Answer:El prog nG t_api_Answer 2 16 [.int .i64 0,.int .u64 0]:=vO underlying62 (by kernel_rfl) rfl
theorem el_Sapi_Call:El prog t_Sapi_Call t_api_Call 5 40 [.int .u64 0,.int .u64 0,.int .u64 0,.int .u64 0,.int .u64 0]:=vO underlying71 (by kernel_rfl) rfl
theorem el_SPtlb_Tlb:El prog bT tN 1 8 [pv none]:=vO underlying73 (by kernel_rfl) rfl
theorem el_SPkern_call:El prog nH fQ 1 8 [pv none]:=vO underlying76 (by kernel_rfl) rfl
theorem gw:El prog bg t_uint64 1 8 [.int .u64 0]:=vO underlying106 (by kernel_rfl) rfl
theorem vR:El prog qN bg 1 24 [sv (⟨none,0,0,none⟩:Sl)]:=vO underlying107 (by kernel_rfl) rfl
theorem el_Sapi_Line:El prog rA t_api_Line 4 32 [.int .i64 0,.int .i64 0,.int .i64 0,.int .i64 0]:=vO underlying110 (by kernel_rfl) rfl
theorem xl:El prog fq eL 1 8 [pv none]:=vO underlying132 (by kernel_rfl) rfl
theorem uD:El prog iD sZ 2 16 [.int .i64 0,.int .i64 0]:=vO underlying161 (by kernel_rfl) rfl
theorem el_S_8_api_Cap:El prog t_S_8_api_Cap lW 32 256 [.int .i64 0,.int .i64 0,.int .i64 0,.int .i64 0,.int .i64 0,.int .i64 0,.int .i64 0,.int .i64 0,.int .i64 0,.int .i64 0,.int .i64 0,.int .i64 0,.int .i64 0,.int .i64 0,.int .i64 0,.int .i64 0,.int .i64 0,.int .i64 0,.int .i64 0,.int .i64 0,.int .i64 0,.int .i64 0,.int .i64 0,.int .i64 0,.int .i64 0,.int .i64 0,.int .i64 0,.int .i64 0,.int .i64 0,.int .i64 0,.int .i64 0,.int .i64 0]:=vO underlying195 (by kernel_rfl) rfl
theorem el_Sapi_Pte:El prog qM t_api_Pte 3 24 [.int .i64 0,.int .i64 0,.int .i64 0]:=vO underlying202 (by kernel_rfl) rfl
theorem enter_hist_Over_c1:aK prog um:=R func34
theorem sU:aK prog nV:=R func36
theorem sT:aK prog sm:=R func38
theorem wu:aK prog mv:=R func146
theorem xk:aK prog ig:=R func163
theorem mp_map_int_bool:Mp prog jW lL t_bool (.bool false):=⟨underlying64,⟨_,underlying3⟩,kF (by kernel_rfl)⟩
theorem mp_map_int_int:Mp prog iC lL lL (.int .i64 0):=⟨underlying65,⟨_,underlying3⟩,kF (by kernel_rfl)⟩
theorem arn_2_tlb_line:prog.underlying t_2_tlb_line = some (.array 2 t_tlb_line):=underlying150
theorem age_2_tlb_line:Ag prog t_tlb_line 5:=⟨⟨_,underlying149,rfl⟩,bJ (by kernel_rfl)⟩
theorem agn_8_api_Pte:Ag prog uR 24:=⟨⟨_,underlying174,rfl⟩,bJ (by kernel_rfl)⟩
theorem arn_8_api_Pte:prog.underlying uR = some (.array 8 t_api_Pte):=underlying174
theorem age_8_api_Pte:Ag prog t_api_Pte 3:=⟨⟨_,underlying113,rfl⟩,bJ (by kernel_rfl)⟩
theorem agn_8_api_Cap:Ag prog lW 32:=⟨⟨_,underlying194,rfl⟩,bJ (by kernel_rfl)⟩
theorem arn_8_api_Cap:prog.underlying lW = some (.array 8 gj):=underlying194
theorem age_8_api_Cap:Ag prog gj 4:=⟨⟨_,underlying51,rfl⟩,bJ (by kernel_rfl)⟩
end
section
open Go Mb
def sh_hist_one (a0:aG) (a1:aE) (a2:Int) (K:kT Bool):hT:=br (((((decide (a0.fQa < 0)) || (decide (a0.fQa >= a1.fWa))) || (decide (a0.fCa < 0))) || (decide (a0.fCa >= a1.fJa))) || (decide (a0.fSa <= a2))) ( K false) ( br (a0.fHa == 0) ( K (a0.fXa == 0)) ( K ((decide (a0.fHa >= a0.fSa)) && ((a0.fXa == 0) || (decide (a0.fXa >= a0.fHa))))))
theorem sim_hist_one (a0:aG) (a1:aE) (a2:Int) {K:kT Bool} {h:Hp} (H:sh_hist_one a0 a1 a2 K h):cl prog n_hist_one [(.agg (aG.C a0).toArray),(.agg (aE.C a1).toArray),(.int .i64 a2)] aC K h:=z_i func32 p p fun _=>O<|aa<|cX (l:=aG.C a0) p p p fun b3=>aa<|cX (l:=aE.C a1) p p p fun b4=>U p<|am<|ax<|O<|J (ae uy p)<|bn (be (k:=1) bc p p p) p<|J (cn p p)<|M p<|W p p (aN _) (fun g1=>wv<|ae uy p)<|W p p (aN _) (fun g2=>cv<|be (k:=1) bc (aD p g2) p p)<|W p p (aN _) (fun g3=>wv<|ae qb p)<|W p p (aN _) (fun g4=>cv<|be (k:=0) bc (aD p g4) p p)<|W p p (aN _) (fun g5=>wv<|kx (aD p g5)<|aD p g5)<|J (dC p p)<|M p<|W p p (aN _) (fun g6=>wv<|ae nM p)<|W p p (aN _) (fun g7=>cv<|be (k:=1) bc (aD p g7) p p)<|W p p (aN _) (fun g8=>wv<|cn (aD p g8) p)<|J (dC p p)<|M p<|W p p (aN _) (fun g9=>wv<|ae nM p)<|W p p (aN _) (fun g10=>cv<|be (k:=1) bc (aD p g10) p p)<|W p p (aN _) (fun g11=>wv<|ae nO p)<|W p p (aN _) (fun g12=>cv<|be (k:=0) bc (aD p g12) p p)<|W p p (aN _) (fun g13=>wv<|kx (aD p g13)<|aD p g13)<|J (dC p p)<|M p<|W p p (aN _) (fun g14=>wv<|ae ux p)<|W p p (aN _) (fun g15=>cv<|be (k:=1) bc (aD p g15) p p)<|W p p (aN _) (fun g16=>wv<|ai p)<|W p p (aN _) (fun g17=>wv<|v_le (aD p g17)<|aD p g17)<|J (dC p p)<|U p<|aw p H (fun k18 H19=>O<|U p<|aj<|Z ⟨false,p,H19⟩) fun k18 H19=>O<|J (ae jE p)<|bn (be (k:=1) bc p p p) p<|J (bP p p)<|U p<|aw p H19 (fun k20 H21=>O<|J (ae rQ p)<|bn (be (k:=1) bc p p p) p<|J (bP p p)<|U p<|aj<|Z ⟨(a0.fXa == 0),p,H21⟩) fun k20 H21=>an<|O<|J (ae jE p)<|bn (be (k:=1) bc p p p) p<|J (ae ux p)<|bn (be (k:=1) bc p p p) p<|J (kx p p)<|M p<|W p p (ay _) (fun g22=>wv<|ae rQ p)<|W p p (ay _) (fun g23=>cv<|be (k:=1) bc (aD p g23) p p)<|W p p (ay _) (fun g24=>wv<|bP (aD p g24) p)<|W p p (ay _) (fun g25=>wv<|ai<|aD p g25)<|W p p (eG _ _) (fun g26=>wv<|ae rQ p)<|W p p (eG _ _) (fun g27=>cv<|be (k:=1) bc (aD p g27) p p)<|W p p (eG _ _) (fun g28=>wv<|ae jE p)<|W p p (eG _ _) (fun g29=>cv<|be (k:=1) bc (aD p g29) p p)<|W p p (eG _ _) (fun g30=>wv<|kx (aD p g30)<|aD p g30)<|W p p (ay _) (fun g31=>wv<|dC (aD p g31)<|aJ p<|yr g31)<|J (bO p p)<|U p<|aj<|Z ⟨((decide (a0.fHa >= a0.fSa)) && ((a0.fXa == 0) || (decide (a0.fXa >= a0.fHa)))),p,H21⟩
def fd (a0:aG) (a1:aE) (a2:Int):Bool:=(bif (((((decide (a0.fQa < 0)) || (decide (a0.fQa >= a1.fWa))) || (decide (a0.fCa < 0))) || (decide (a0.fCa >= a1.fJa))) || (decide (a0.fSa <= a2))) then (false) else (bif (a0.fHa == 0) then ((a0.fXa == 0)) else (((decide (a0.fHa >= a0.fSa)) && ((a0.fXa == 0) || (decide (a0.fXa >= a0.fHa)))))))
theorem pr_hist_one (a0:aG) (a1:aE) (a2:Int) {K:kT Bool} {h:Hp} (k:K (fd a0 a1 a2) h):sh_hist_one a0 a1 a2 K h:=(kU (K:=K) (fun k=>k) (kU (K:=K) (fun k=>k) (fun k=>k))) k
theorem ct_hist_one (a0:aG) (a1:aE) (a2:Int) (h:Hp):Ct prog n_hist_one #[(.agg (aG.C a0).toArray),(.agg (aE.C a1).toArray),(.int .i64 a2)] h fun v h'=>∃ r,v = aC r/\(r = fd a0 a1 a2/\h' = h):=sim_hist_one a0 a1 a2 (pr_hist_one a0 a1 a2 ⟨rfl,rfl⟩)
def wR (a0:aG) (K:kT Bool):hT:=K (decide (a0.fHa > 0))
theorem sim_hist_Order_c1 (a0:aG) {K:kT Bool} {h:Hp} (H:wR a0 K h):cl prog nV [(.agg (aG.C a0).toArray)] aC K h:=z_i func36 p p fun _=>O<|aa<|cX (l:=aG.C a0) p p p fun b1=>U p<|O<|J (ae jE p)<|bn (be (k:=0) bc p p p) p<|J (pb p p)<|U p<|aj<|Z ⟨decide (a0.fHa > 0),p,H⟩
def wX (a0:aG):Bool:=((decide (a0.fHa > 0)))
theorem pr_hist_Order_c1 (a0:aG) {K:kT Bool} {h:Hp} (k:K (wX a0) h):wR a0 K h:=(fun k=>k) k
theorem xm (a0:aG) (h:Hp):Ct prog nV #[(.agg (aG.C a0).toArray)] h fun v h'=>∃ r,v = aC r/\(r = wX a0/\h' = h):=sim_hist_Order_c1 a0 (pr_hist_Order_c1 a0 ⟨rfl,rfl⟩)
def wS (a0:Int) (K:kT Bool):hT:=K (a0 != a0)
theorem sim_cmp_isNaN_int (a0:Int) {K:kT Bool} {h:Hp} (H:wS a0 K h):cl prog n_cmp_isNaN_int [(.int .i64 a0)] aC K h:=z_i func64 p p fun _=>O<|U p<|O<|M p<|M p<|J (nY p p)<|U p<|aj<|Z ⟨(a0 != a0),p,H⟩
def eS (a0:Int):Bool:=((a0 != a0))
theorem pr_cmp_isNaN_int (a0:Int) {K:kT Bool} {h:Hp} (k:K (eS a0) h):wS a0 K h:=(fun k=>k) k
theorem xn (a0:Int) (h:Hp):Ct prog n_cmp_isNaN_int #[(.int .i64 a0)] h fun v h'=>∃ r,v = aC r/\(r = eS a0/\h' = h):=sim_cmp_isNaN_int a0 (pr_cmp_isNaN_int a0 ⟨rfl,rfl⟩)
def tZ (a0:Int) (a1:Int) (K:kT Int):hT:=br (eS a0) ( br (eS a1) ( K 0) ( K (-1))) ( br (eS a1) ( K 1) ( br (decide (a0 < a1)) ( K (-1)) ( br (decide (a0 > a1)) ( K 1) ( K 0))))
theorem sim_cmp_Compare_int (a0:Int) (a1:Int) {K:kT Int} {h:Hp} (H:tZ a0 a1 K h):cl prog vJ [(.int .i64 a0),(.int .i64 a1)] eH K h:=z_i func39 p p fun _=>O<|U p<|O<|M p<|aa<|cW (vs:=[(.int .i64 a0)]) (bC<|xn a0 _) en_64 p p<|U p<|O<|M p<|aa<|cW (vs:=[(.int .i64 a1)]) (bC<|xn a1 _) en_64 p p<|U p<|am<|O<|M p<|ad<|aw p H (fun k1 H2=>am<|O<|M p<|ad<|aw p H2 (fun k3 H4=>O<|U p<|aj<|Z ⟨0,p,H4⟩) fun k3 H4=>an<|O<|U p<|aj<|Z ⟨(-1),p,H4⟩) fun k1 H2=>an<|am<|O<|M p<|ad<|aw p H2 (fun k5 H6=>O<|U p<|aj<|Z ⟨1,p,H6⟩) fun k5 H6=>an<|am<|O<|M p<|M p<|J (cn p p)<|ad<|aw p H6 (fun k7 H8=>O<|U p<|aj<|Z ⟨(-1),p,H8⟩) fun k7 H8=>an<|am<|O<|M p<|M p<|J (pb p p)<|ad<|aw p H8 (fun k9 H10=>O<|U p<|aj<|Z ⟨1,p,H10⟩) fun k9 H10=>an<|O<|U p<|aj<|Z ⟨0,p,H10⟩
def gn (a0:Int) (a1:Int):Int:=(bif (eS a0) then (bif (eS a1) then (0) else ((-1))) else (bif (eS a1) then (1) else (bif (decide (a0 < a1)) then ((-1)) else (bif (decide (a0 > a1)) then (1) else (0)))))
theorem pr_cmp_Compare_int (a0:Int) (a1:Int) {K:kT Int} {h:Hp} (k:K (gn a0 a1) h):tZ a0 a1 K h:=(kU (K:=K) (kU (K:=K) (fun k=>k) (fun k=>k)) (kU (K:=K) (fun k=>k) (kU (K:=K) (fun k=>k) (kU (K:=K) (fun k=>k) (fun k=>k))))) k
theorem ct_cmp_Compare_int (a0:Int) (a1:Int) (h:Hp):Ct prog vJ #[(.int .i64 a0),(.int .i64 a1)] h fun v h'=>∃ r,v = eH r/\(r = gn a0 a1/\h' = h):=sim_cmp_Compare_int a0 a1 (pr_cmp_Compare_int a0 a1 ⟨rfl,rfl⟩)
def sh_table_is (a0:Int) (K:kT Bool):hT:=K ((decide (a0 >= 0)) && (decide (a0 < 8)))
theorem sim_table_is (a0:Int) {K:kT Bool} {h:Hp} (H:sh_table_is a0 K h):cl prog n_table_is [(.int .i64 a0)] aC K h:=z_i func118 p p fun _=>O<|U p<|O<|M p<|J (kx p p)<|M p<|W p p (ay _) (fun g1=>wv<|ai p)<|W p p (ay _) (fun g2=>wv<|cn (aD p g2) p)<|J (bO p p)<|U p<|aj<|Z ⟨((decide (a0 >= 0)) && (decide (a0 < 8))),p,H⟩
def bA (a0:Int):Bool:=(((decide (a0 >= 0)) && (decide (a0 < 8))))
theorem pr_table_is (a0:Int) {K:kT Bool} {h:Hp} (k:K (bA a0) h):sh_table_is a0 K h:=(fun k=>k) k
theorem vS (a0:Int) (h:Hp):Ct prog n_table_is #[(.int .i64 a0)] h fun v h'=>∃ r,v = aC r/\(r = bA a0/\h' = h):=sim_table_is a0 (pr_table_is a0 ⟨rfl,rfl⟩)
def sh_pte_May (a0:Int) (K:kT Bool):hT:=K ((decide (a0 >= 1)) && (decide (a0 <= 3)))
theorem sim_pte_May (a0:Int) {K:kT Bool} {h:Hp} (H:sh_pte_May a0 K h):cl prog n_pte_May [(.int .i64 a0)] aC K h:=z_i func112 p p fun _=>O<|U p<|O<|M p<|J (kx p p)<|M p<|W p p (ay _) (fun g1=>wv<|ai p)<|W p p (ay _) (fun g2=>wv<|v_le (aD p g2) p)<|J (bO p p)<|U p<|aj<|Z ⟨((decide (a0 >= 1)) && (decide (a0 <= 3))),p,H⟩
def ch (a0:Int):Bool:=(((decide (a0 >= 1)) && (decide (a0 <= 3))))
theorem pr_pte_May (a0:Int) {K:kT Bool} {h:Hp} (k:K (ch a0) h):sh_pte_May a0 K h:=(fun k=>k) k
theorem re (a0:Int) (h:Hp):Ct prog n_pte_May #[(.int .i64 a0)] h fun v h'=>∃ r,v = aC r/\(r = ch a0/\h' = h):=sim_pte_May a0 (pr_pte_May a0 ⟨rfl,rfl⟩)
def sh_pte_Within (a0:Int) (a1:Int) (K:kT Bool):hT:=K (((ch a0) && (ch a1)) && ((iandnot .i64 a0 a1) == 0))
theorem sim_pte_Within (a0:Int) (a1:Int) {K:kT Bool} {h:Hp} (H:sh_pte_Within a0 a1 K h):cl prog n_pte_Within [(.int .i64 a0),(.int .i64 a1)] aC K h:=z_i func68 p p fun _=>O<|U p<|O<|M p<|aa<|cW (vs:=[(.int .i64 a0)]) (bC<|re a0 _) en_112 p p<|M p<|W p p (ay _) (fun g1=>wv<|ai p)<|dm (vs:=[(.int .i64 a1)]) p p p (ay _) (fun g2=>bC<|re a1 _) en_112 (fun g2=>aV (aD p g2) bU) p<|J (bO p p)<|M p<|W p p (ay _) (fun g3=>wv<|ai p)<|W p p (ay _) (fun g4=>wv<|ai p)<|W p p (ay _) (fun g5=>wv<|v_iandnot (aD p g5)<|aD p g5)<|W p p (ay _) (fun g6=>wv<|bP (aD p g6) p)<|J (bO p p)<|U p<|aj<|Z ⟨(((ch a0) && (ch a1)) && ((iandnot .i64 a0 a1) == 0)),p,H⟩
def aO (a0:Int) (a1:Int):Bool:=((((ch a0) && (ch a1)) && ((iandnot .i64 a0 a1) == 0)))
theorem pr_pte_Within (a0:Int) (a1:Int) {K:kT Bool} {h:Hp} (k:K (aO a0 a1) h):sh_pte_Within a0 a1 K h:=(fun k=>k) k
theorem du (a0:Int) (a1:Int) (h:Hp):Ct prog n_pte_Within #[(.int .i64 a0),(.int .i64 a1)] h fun v h'=>∃ r,v = aC r/\(r = aO a0 a1/\h' = h):=sim_pte_Within a0 a1 (pr_pte_Within a0 a1 ⟨rfl,rfl⟩)
def sh_tlb_empty (K:kT ap):hT:=K (⟨(-1),0,0,0⟩:ap)
theorem sim_tlb_empty {K:kT ap} {h:Hp} (H:sh_tlb_empty K h):cl prog n_tlb_empty [] R_api_Line K h:=z_i func114 p p fun _=>O<|aa<|aI (l:=ap.C (⟨0,0,0,0⟩:ap)) lK p p fun b0=>ad<|O<|J (aZ p<|build_38_0 (-1))<|aa<|aP (k:=0) (vs:=ap.C (⟨(-1),0,0,0⟩:ap)) gf p p p p p p p<|ad<|aj<|bB (nK p<|bG (k:=0) p iH p p) ⟨(⟨(-1),0,0,0⟩:ap),p,H⟩
def gA:ap:=((⟨(-1),0,0,0⟩:ap))
theorem pr_tlb_empty {K:kT ap} {h:Hp} (k:K (gA) h):sh_tlb_empty K h:=(fun k=>k) k
theorem ct_tlb_empty (h:Hp):Ct prog n_tlb_empty #[] h fun v h'=>∃ r,v = R_api_Line r/\(r = gA/\h' = h):=sim_tlb_empty (pr_tlb_empty ⟨rfl,rfl⟩)
def sh_word_Kind (a0:ah) (K:kT (Int × Bool)):hT:=br (((decide (a0.e0 >= 1)) && (decide (a0.e0 <= 10))) || ((decide (a0.e0 >= 20)) && (decide (a0.e0 <= 23)))) ( K ((i64.wrap a0.e0),true)) ( K (0,false))
theorem sim_word_Kind (a0:ah) {K:kT (Int × Bool)} {h:Hp} (H:sh_word_Kind a0 K h):cl prog n_word_Kind [(.agg (ah.C a0).toArray)] bQ K h:=z_i func44 p p fun _=>O<|aa<|cX (l:=ah.C a0) p p p fun b1=>J (av p)<|U p<|am<|O<|J (bD dq p p (by decide))<|bn (be (k:=0) cG p p p) p<|U p<|O<|M p<|J (kx p p)<|M p<|W p p (ay _) (fun g1=>wv<|ai p)<|W p p (ay _) (fun g2=>wv<|v_le (aD p g2) p)<|J (bO p p)<|M p<|W p p (aN _) (fun g3=>wv<|ai p)<|W p p (aN _) (fun g4=>wv<|kx (aD p g4) p)<|W p p (aN _) (fun g5=>wv<|ai<|aD p g5)<|W p p (sw _ _) (fun g6=>wv<|ai p)<|W p p (sw _ _) (fun g7=>wv<|v_le (aD p g7) p)<|W p p (aN _) (fun g8=>wv<|bO (aD p g8)<|aJ p<|yr g8)<|J (dC p p)<|ad<|aw p H (fun k9 H10=>O<|M p<|J (dy ⟨_,underlying31⟩ underlying3 p)<|J (av p)<|U p<|aj<|bB (bR p (cd p)<|cd p) ⟨((i64.wrap a0.e0),true),p,H10⟩) fun k9 H10=>an<|O<|J (av p)<|U p<|aj<|bB (bR p (cd p)<|cd p) ⟨(0,false),p,H10⟩
def az (a0:ah):Int × Bool:=(bif (((decide (a0.e0 >= 1)) && (decide (a0.e0 <= 10))) || ((decide (a0.e0 >= 20)) && (decide (a0.e0 <= 23)))) then (((i64.wrap a0.e0),true)) else ((0,false)))
theorem pr_word_Kind (a0:ah) {K:kT (Int × Bool)} {h:Hp} (k:K (az a0) h):sh_word_Kind a0 K h:=(kU (K:=K) (fun k=>k) (fun k=>k)) k
theorem kR (a0:ah) (h:Hp):Ct prog n_word_Kind #[(.agg (ah.C a0).toArray)] h fun v h'=>∃ r,v = bQ r/\(r = az a0/\h' = h):=sim_word_Kind a0 (pr_word_Kind a0 ⟨rfl,rfl⟩)
def sh_word_User (a0:Int) (K:kT Bool):hT:=K ((decide (a0 >= 20)) && (decide (a0 <= 23)))
theorem sim_word_User (a0:Int) {K:kT Bool} {h:Hp} (H:sh_word_User a0 K h):cl prog n_word_User [(.int .i64 a0)] aC K h:=z_i func45 p p fun _=>O<|U p<|O<|M p<|J (kx p p)<|M p<|W p p (ay _) (fun g1=>wv<|ai p)<|W p p (ay _) (fun g2=>wv<|v_le (aD p g2) p)<|J (bO p p)<|U p<|aj<|Z ⟨((decide (a0 >= 20)) && (decide (a0 <= 23))),p,H⟩
def bE (a0:Int):Bool:=(((decide (a0 >= 20)) && (decide (a0 <= 23))))
theorem pr_word_User (a0:Int) {K:kT Bool} {h:Hp} (k:K (bE a0) h):sh_word_User a0 K h:=(fun k=>k) k
theorem tB (a0:Int) (h:Hp):Ct prog n_word_User #[(.int .i64 a0)] h fun v h'=>∃ r,v = aC r/\(r = bE a0/\h' = h):=sim_word_User a0 (pr_word_User a0 ⟨rfl,rfl⟩)
def sh_word_Rights (a0:Int) (K:kT (Int × Bool)):hT:=br ((decide (a0 < 1)) || (decide (a0 > 3))) ( K (0,false)) ( K ((i64.wrap a0),true))
theorem sim_word_Rights (a0:Int) {K:kT (Int × Bool)} {h:Hp} (H:sh_word_Rights a0 K h):cl prog n_word_Rights [(.int .u64 a0)] bQ K h:=z_i func152 p p fun _=>O<|J (av p)<|U p<|am<|O<|M p<|J (cn p p)<|M p<|W p p (aN _) (fun g1=>wv<|ai p)<|W p p (aN _) (fun g2=>wv<|pb (aD p g2) p)<|J (dC p p)<|ad<|aw p H (fun k3 H4=>O<|J (av p)<|U p<|aj<|bB (bR p (cd p)<|cd p) ⟨(0,false),p,H4⟩) fun k3 H4=>an<|O<|M p<|J (dy ⟨_,underlying31⟩ underlying3 p)<|J (av p)<|U p<|aj<|bB (bR p (cd p)<|cd p) ⟨((i64.wrap a0),true),p,H4⟩
def iP (a0:Int):Int × Bool:=(bif ((decide (a0 < 1)) || (decide (a0 > 3))) then ((0,false)) else (((i64.wrap a0),true)))
theorem pr_word_Rights (a0:Int) {K:kT (Int × Bool)} {h:Hp} (k:K (iP a0) h):sh_word_Rights a0 K h:=(kU (K:=K) (fun k=>k) (fun k=>k)) k
theorem ct_word_Rights (a0:Int) (h:Hp):Ct prog n_word_Rights #[(.int .u64 a0)] h fun v h'=>∃ r,v = bQ r/\(r = iP a0/\h' = h):=sim_word_Rights a0 (pr_word_Rights a0 ⟨rfl,rfl⟩)
def sh_pte_Put (a0:ao) (K:kT (Int × Bool)):hT:=br (ao.eqb a0 (⟨0,0,0⟩:ao)) ( K (0,true)) ( br (((((decide (a0.fEa < 0)) || (decide (a0.fEa >= 16))) || (decide (a0.fDa < 0))) || (decide (a0.fDa >= 8))) || (!(ch a0.fBa))) ( K (0,false)) ( K ((u64.wrap (i64.wrap ((i64.wrap ((i64.wrap (32768 + (i64.wrap (256 * a0.fEa)))) + (i64.wrap (16 * a0.fDa)))) + a0.fBa))),true)))
theorem sim_pte_Put (a0:ao) {K:kT (Int × Bool)} {h:Hp} (H:sh_pte_Put a0 K h):cl prog n_pte_Put [(.agg (ao.C a0).toArray)] bN K h:=z_i func117 p p fun _=>O<|aa<|cX (l:=ao.C a0) p p p fun b1=>J (av p)<|U p<|am<|O<|bn (bH (k:=0) dX p p p p) p<|J (aZ (vs:=[]) p lq)<|J (v_eqA eqg_113 (eqr_113 9998 _ _) p p)<|ad<|aw p H (fun k1 H2=>O<|J (av p)<|U p<|aj<|bB (bR p (cd p)<|cd p) ⟨(0,true),p,H2⟩) fun k1 H2=>an<|am<|O<|J (ae oU p)<|bn (be (k:=0) bc p p p) p<|J (cn p p)<|M p<|W p p (aN _) (fun g3=>wv<|ae oU p)<|W p p (aN _) (fun g4=>cv<|be (k:=0) bc (aD p g4) p p)<|W p p (aN _) (fun g5=>wv<|kx (aD p g5) p)<|J (dC p p)<|M p<|W p p (aN _) (fun g6=>wv<|ae rd p)<|W p p (aN _) (fun g7=>cv<|be (k:=0) bc (aD p g7) p p)<|W p p (aN _) (fun g8=>wv<|cn (aD p g8) p)<|J (dC p p)<|M p<|W p p (aN _) (fun g9=>wv<|ae rd p)<|W p p (aN _) (fun g10=>cv<|be (k:=0) bc (aD p g10) p p)<|W p p (aN _) (fun g11=>wv<|kx (aD p g11) p)<|J (dC p p)<|M p<|W p p (aN _) (fun g12=>wv<|ae dZ p)<|W p p (aN _) (fun g13=>cv<|be (k:=0) bc (aD p g13) p p)<|dm (vs:=[(.int .i64 a0.fBa)]) p p p (aN _) (fun g14=>bC<|re a0.fBa _) en_112 (fun g14=>aV (aD p g14) bU) p<|W p p (aN _) (fun g15=>wv<|cy<|aD p g15)<|J (dC p p)<|ad<|aw p H2 (fun k16 H17=>O<|J (av p)<|U p<|aj<|bB (bR p (cd p)<|cd p) ⟨(0,false),p,H17⟩) fun k16 H17=>an<|O<|J (ae oU p)<|bn (be (k:=0) bc p p p) p<|J (v_mul p p)<|J (bk p p)<|J (ae rd p)<|bn (be (k:=0) bc p p p) p<|J (v_mul p p)<|J (bk p p)<|J (ae dZ p)<|bn (be (k:=0) bc p p p) p<|J (bk p p)<|J (dy ⟨_,underlying3⟩ underlying31 p)<|J (av p)<|U p<|aj<|bB (bR p (cd p)<|cd p) ⟨((u64.wrap (i64.wrap ((i64.wrap ((i64.wrap (32768 + (i64.wrap (256 * a0.fEa)))) + (i64.wrap (16 * a0.fDa)))) + a0.fBa))),true),p,H17⟩
def fw (a0:ao):Int × Bool:=(bif (ao.eqb a0 (⟨0,0,0⟩:ao)) then ((0,true)) else (bif (((((decide (a0.fEa < 0)) || (decide (a0.fEa >= 16))) || (decide (a0.fDa < 0))) || (decide (a0.fDa >= 8))) || (!(ch a0.fBa))) then ((0,false)) else (((u64.wrap (i64.wrap ((i64.wrap ((i64.wrap (32768 + (i64.wrap (256 * a0.fEa)))) + (i64.wrap (16 * a0.fDa)))) + a0.fBa))),true))))
theorem pr_pte_Put (a0:ao) {K:kT (Int × Bool)} {h:Hp} (k:K (fw a0) h):sh_pte_Put a0 K h:=(kU (K:=K) (fun k=>k) (kU (K:=K) (fun k=>k) (fun k=>k))) k
theorem ct_pte_Put (a0:ao) (h:Hp):Ct prog n_pte_Put #[(.agg (ao.C a0).toArray)] h fun v h'=>∃ r,v = bN r/\(r = fw a0/\h' = h):=sim_pte_Put a0 (pr_pte_Put a0 ⟨rfl,rfl⟩)
def sh_pte_Lets (a0:Int) (a1:Int) (K:kT Bool):hT:=br (a1 == 20) ( K (aO 1 a0)) ( br (a1 == 21) ( K (aO 2 a0)) ( br (a1 == 22) ( K (aO 3 a0)) ( br (a1 == 23) ( K (aO 3 a0)) ( K (aO 0 a0)))))
theorem sim_pte_Lets (a0:Int) (a1:Int) {K:kT Bool} {h:Hp} (H:sh_pte_Lets a0 a1 K h):cl prog n_pte_Lets [(.int .i64 a0),(.int .i64 a1)] aC K h:=z_i func120 p p fun _=>O<|U p<|O<|U p<|am<|O<|M p<|ad<|ax<|O<|J (bP p p)<|U p<|aw p H (fun k1 H2=>aq<|U p<|O<|M p<|M p<|aa<|cW (vs:=[(.int .i64 1),(.int .i64 a0)]) (bC<|du 1 a0 _) sV p p<|U p<|aj<|Z ⟨aO 1 a0,p,H2⟩) fun k1 H2=>O<|J (bP p p)<|U p<|aw p H2 (fun k3 H4=>aq<|U p<|O<|M p<|M p<|aa<|cW (vs:=[(.int .i64 2),(.int .i64 a0)]) (bC<|du 2 a0 _) sV p p<|U p<|aj<|Z ⟨aO 2 a0,p,H4⟩) fun k3 H4=>am<|O<|J (bP p p)<|U p<|aw p H4 (fun k5 H6=>an<|ny p k5<|aq<|U p<|O<|M p<|M p<|aa<|cW (vs:=[(.int .i64 3),(.int .i64 a0)]) (bC<|du 3 a0 _) sV p p<|U p<|aj<|Z ⟨aO 3 a0,p,H6⟩) fun k5 H6=>aq<|J (bP p p)<|U p<|aw p H6 (fun k7 H8=>aq<|U p<|O<|M p<|M p<|aa<|cW (vs:=[(.int .i64 3),(.int .i64 a0)]) (bC<|du 3 a0 _) sV p p<|U p<|aj<|Z ⟨aO 3 a0,p,H8⟩) fun k7 H8=>an<|O<|M p<|M p<|aa<|cW (vs:=[(.int .i64 0),(.int .i64 a0)]) (bC<|du 0 a0 _) sV p p<|U p<|aj<|Z ⟨aO 0 a0,p,H8⟩
def ct (a0:Int) (a1:Int):Bool:=(bif (a1 == 20) then ((aO 1 a0)) else (bif (a1 == 21) then ((aO 2 a0)) else (bif (a1 == 22) then ((aO 3 a0)) else (bif (a1 == 23) then ((aO 3 a0)) else ((aO 0 a0))))))
theorem pr_pte_Lets (a0:Int) (a1:Int) {K:kT Bool} {h:Hp} (k:K (ct a0 a1) h):sh_pte_Lets a0 a1 K h:=(kU (K:=K) (fun k=>k) (kU (K:=K) (fun k=>k) (kU (K:=K) (fun k=>k) (kU (K:=K) (fun k=>k) (fun k=>k))))) k
theorem kD (a0:Int) (a1:Int) (h:Hp):Ct prog n_pte_Lets #[(.int .i64 a0),(.int .i64 a1)] h fun v h'=>∃ r,v = aC r/\(r = ct a0 a1/\h' = h):=sim_pte_Lets a0 a1 (pr_pte_Lets a0 a1 ⟨rfl,rfl⟩)
def sQ (a0:Int) (K:kT Bool):hT:=K (a0 != a0)
theorem sim_cmp_isNaN_uint64 (a0:Int) {K:kT Bool} {h:Hp} (H:sQ a0 K h):cl prog uo [(.int .u64 a0)] aC K h:=z_i func178 p p fun _=>O<|U p<|O<|M p<|M p<|J (nY p p)<|U p<|aj<|Z ⟨(a0 != a0),p,H⟩
def dF (a0:Int):Bool:=((a0 != a0))
theorem pr_cmp_isNaN_uint64 (a0:Int) {K:kT Bool} {h:Hp} (k:K (dF a0) h):sQ a0 K h:=(fun k=>k) k
theorem sW (a0:Int) (h:Hp):Ct prog uo #[(.int .u64 a0)] h fun v h'=>∃ r,v = aC r/\(r = dF a0/\h' = h):=sim_cmp_isNaN_uint64 a0 (pr_cmp_isNaN_uint64 a0 ⟨rfl,rfl⟩)
def tY (a0:Int) (a1:Int) (K:kT Bool):hT:=K (((dF a0) && (!(dF a1))) || (decide (a0 < a1)))
theorem sim_cmp_Less_uint64 (a0:Int) (a1:Int) {K:kT Bool} {h:Hp} (H:tY a0 a1 K h):cl prog vH [(.int .u64 a0),(.int .u64 a1)] aC K h:=z_i func155 p p fun _=>O<|U p<|O<|M p<|aa<|cW (vs:=[(.int .u64 a0)]) (bC<|sW a0 _) en_178 p p<|M p<|W p p (ay _) (fun g1=>wv<|ai p)<|dm (vs:=[(.int .u64 a1)]) p p p (ay _) (fun g2=>bC<|sW a1 _) en_178 (fun g2=>aV (aD p g2) bU) p<|W p p (ay _) (fun g3=>wv<|cy<|aD p g3)<|J (bO p p)<|M p<|W p p (aN _) (fun g4=>wv<|ai p)<|W p p (aN _) (fun g5=>wv<|ai p)<|W p p (aN _) (fun g6=>wv<|cn (aD p g6)<|aD p g6)<|J (dC p p)<|U p<|aj<|Z ⟨(((dF a0) && (!(dF a1))) || (decide (a0 < a1))),p,H⟩
def iQ (a0:Int) (a1:Int):Bool:=((((dF a0) && (!(dF a1))) || (decide (a0 < a1))))
theorem pr_cmp_Less_uint64 (a0:Int) (a1:Int) {K:kT Bool} {h:Hp} (k:K (iQ a0 a1) h):tY a0 a1 K h:=(fun k=>k) k
theorem ct_cmp_Less_uint64 (a0:Int) (a1:Int) (h:Hp):Ct prog vH #[(.int .u64 a0),(.int .u64 a1)] h fun v h'=>∃ r,v = aC r/\(r = iQ a0 a1/\h' = h):=sim_cmp_Less_uint64 a0 a1 (pr_cmp_Less_uint64 a0 a1 ⟨rfl,rfl⟩)
def pw (a0:Int) (K:kT Bool):hT:=K (a0 != a0)
theorem wD (a0:Int) {K:kT Bool} {h:Hp} (H:pw a0 K h):cl prog qE [(.int .u64 a0)] aC K h:=z_i func156 p p fun _=>O<|U p<|O<|M p<|M p<|J (nY p p)<|U p<|aj<|Z ⟨(a0 != a0),p,H⟩
def dR (a0:Int):Bool:=((a0 != a0))
theorem ya (a0:Int) {K:kT Bool} {h:Hp} (k:K (dR a0) h):pw a0 K h:=(fun k=>k) k
theorem qc (a0:Int) (h:Hp):Ct prog qE #[(.int .u64 a0)] h fun v h'=>∃ r,v = aC r/\(r = dR a0/\h' = h):=wD a0 (ya a0 ⟨rfl,rfl⟩)
def sh_plain_fails (a0:Int) (K:kT (ab × Bool)):hT:=K ((⟨a0,0⟩:ab),true)
theorem sim_plain_fails (a0:Int) {K:kT (ab × Bool)} {h:Hp} (H:sh_plain_fails a0 K h):cl prog n_plain_fails [(.int .i64 a0)] bb K h:=z_i func82 p p fun _=>O<|aa<|aI (l:=ab.C (⟨0,0⟩:ab)) cY p p fun b2=>U p<|O<|M p<|J (aZ p<|jM a0)<|aa<|aP (k:=0) (vs:=ab.C (⟨a0,0⟩:ab)) bL p p p p p p p<|U p<|aj<|bB (bR p (bG (k:=0) p cM p p)<|cd p) ⟨((⟨a0,0⟩:ab),true),p,H⟩
def aQ (a0:Int):ab × Bool:=(((⟨a0,0⟩:ab),true))
theorem pr_plain_fails (a0:Int) {K:kT (ab × Bool)} {h:Hp} (k:K (aQ a0) h):sh_plain_fails a0 K h:=(fun k=>k) k
theorem dV (a0:Int) (h:Hp):Ct prog n_plain_fails #[(.int .i64 a0)] h fun v h'=>∃ r,v = bb r/\(r = aQ a0/\h' = h):=sim_plain_fails a0 (pr_plain_fails a0 ⟨rfl,rfl⟩)
def sh_pred_Holds (a0:Int) (a1:Int) (a2:Int) (K:kT Bool):hT:=br (a0 == 1) ( K (a1 == a2)) ( br (a0 == 2) ( K (a1 != a2)) ( br (a0 == 3) ( K (decide (a1 < a2))) ( br (a0 == 4) ( K (decide (a1 > a2))) ( K false))))
theorem sim_pred_Holds (a0:Int) (a1:Int) (a2:Int) {K:kT Bool} {h:Hp} (H:sh_pred_Holds a0 a1 a2 K h):cl prog n_pred_Holds [(.int .i64 a0),(.int .u64 a1),(.int .u64 a2)] aC K h:=z_i func105 p p fun _=>O<|U p<|am<|O<|M p<|ad<|ax<|O<|J (bP p p)<|U p<|aw p H (fun k1 H2=>O<|M p<|M p<|J (bP p p)<|U p<|aj<|Z ⟨(a1 == a2),p,H2⟩) fun k1 H2=>O<|J (bP p p)<|U p<|aw p H2 (fun k3 H4=>O<|M p<|M p<|J (nY p p)<|U p<|aj<|Z ⟨(a1 != a2),p,H4⟩) fun k3 H4=>O<|J (bP p p)<|U p<|aw p H4 (fun k5 H6=>O<|M p<|M p<|J (cn p p)<|U p<|aj<|Z ⟨decide (a1 < a2),p,H6⟩) fun k5 H6=>O<|J (bP p p)<|U p<|aw p H6 (fun k7 H8=>O<|M p<|M p<|J (pb p p)<|U p<|aj<|Z ⟨decide (a1 > a2),p,H8⟩) fun k7 H8=>an<|O<|U p<|aj<|Z ⟨false,p,H8⟩
def nL (a0:Int) (a1:Int) (a2:Int):Bool:=(bif (a0 == 1) then ((a1 == a2)) else (bif (a0 == 2) then ((a1 != a2)) else (bif (a0 == 3) then ((decide (a1 < a2))) else (bif (a0 == 4) then ((decide (a1 > a2))) else (false)))))
theorem pr_pred_Holds (a0:Int) (a1:Int) (a2:Int) {K:kT Bool} {h:Hp} (k:K (nL a0 a1 a2) h):sh_pred_Holds a0 a1 a2 K h:=(kU (K:=K) (fun k=>k) (kU (K:=K) (fun k=>k) (kU (K:=K) (fun k=>k) (kU (K:=K) (fun k=>k) (fun k=>k))))) k
theorem ww (a0:Int) (a1:Int) (a2:Int) (h:Hp):Ct prog n_pred_Holds #[(.int .i64 a0),(.int .u64 a1),(.int .u64 a2)] h fun v h'=>∃ r,v = aC r/\(r = nL a0 a1 a2/\h' = h):=sim_pred_Holds a0 a1 a2 (pr_pred_Holds a0 a1 a2 ⟨rfl,rfl⟩)
def sh_judge_user (a0:aG) (K:kT Bool):hT:=K (bE ((az a0.fIa).1))
theorem sim_judge_user (a0:aG) {K:kT Bool} {h:Hp} (H:sh_judge_user a0 K h):cl prog n_judge_user [(.agg (aG.C a0).toArray)] aC K h:=z_i func96 p p fun _=>O<|aa<|cX (l:=aG.C a0) p p p fun b1=>U p<|O<|J (ae mz p)<|bn (bH (k:=0) fI p p p p) p<|aa<|cW (vs:=[(.agg (ah.C a0.fIa).toArray)]) (bC<|kR a0.fIa _) en_44 p p<|M p<|J (ak p p)<|J (ak p p)<|J (av p)<|U p<|O<|M p<|aa<|cW (vs:=[(.int .i64 ((az a0.fIa).1))]) (bC<|tB (az a0.fIa).1 _) en_45 p p<|U p<|aj<|Z ⟨bE (az a0.fIa).1,p,H⟩
def fP (a0:aG):Bool:=((bE ((az a0.fIa).1)))
theorem pr_judge_user (a0:aG) {K:kT Bool} {h:Hp} (k:K (fP a0) h):sh_judge_user a0 K h:=(fun k=>k) k
theorem ct_judge_user (a0:aG) (h:Hp):Ct prog n_judge_user #[(.agg (aG.C a0).toArray)] h fun v h'=>∃ r,v = aC r/\(r = fP a0/\h' = h):=sim_judge_user a0 (pr_judge_user a0 ⟨rfl,rfl⟩)
end
end Go.Proofs.YtochchocdckegaaGreatDoor
