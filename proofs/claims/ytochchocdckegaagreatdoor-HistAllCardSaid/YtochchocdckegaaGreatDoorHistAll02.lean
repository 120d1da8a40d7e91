/- Part of the proof of: The law HistAll returns true for every input, and leaves its arguments as they were. -/
import Derived.Test.YtochchocdckegaaGreatDoorHistAll01
set_option linter.all false
set_option maxRecDepth 20000
namespace Go.Proofs.YtochchocdckegaaGreatDoor
open Go.Proofs.Tryz
open Go.IntKind (i64 u64)
open _root_.Array (ext' range)
open _root_.List (eq_nil_of_length_eq_zero ext_getElem? flatMap_cons getElem?_append_left getElem?_append_right getElem?_toArray length_cons replicate)
open _root_.Nat (add_assoc add_mul le_refl mul_le_mul_right succ_mul zero_add zero_mul)
open _root_.Option (map_some)
section
open Go
namespace Mb
def gh (s:Sl) (T m:Nat) (pre rest:List Value) (U:TypeId) (fr:Nat × Nat):Prop :=
 match s.g with
 | none=>U = T/\fr = (0,0)
 | some g=>g = (pre,rest,U,fr)/\nf fr pre.length (s.cap * m)
def bkF (b:Nat) (T:TypeId) (fr:Nat × Nat) (c:List Value):As:=fun h=>h b = some (.cells c.toArray T fr)
def vec {τ:Type} (T:TypeId) (m:Nat) (enc:τ->List Value) (s:Sl) (xs:List τ):As:=fun h =>
 s.len = xs.length/\s.len <= s.cap/\(s.cap = 0\/∃ b pre rest U fr,s.a = some (b,pre.length)/\s.cap * m <= s.len * m + rest.length/\gh s T m pre rest U fr/\bkF b U fr (pre++(xs.flatMap enc++rest)) h)
theorem gh_nf {s:Sl} {T m:Nat} {pre rest:List Value} {U:TypeId} {fr:Nat × Nat} (g:gh s T m pre rest U fr):nf fr pre.length (s.cap * m):=by
 unfold gh at g;split at g
 ·rw [g.2]; exact nf0 _ _
 ·exact g.2
section
variable {τ:Type} {T m:Nat} {enc:τ->List Value}
theorem dG (he:∀ x,(enc x).length = m) (xs:List τ):(xs.flatMap enc).length = xs.length * m:=by
 induction xs with
 | nil=>simp
 | cons x xs ih=>simp [ih,he,succ_mul,Nat.add_comm]
theorem uc (he:∀ x,(enc x).length = m):∀ (xs:List τ) (i j:Nat) (x:τ) (v:Value),xs[i]? = some x->(enc x)[j]? = some v->(xs.flatMap enc)[i * m + j]? = some v
 | [],i,_,_,_,h,_=>by simp at h
 | y::xs,0,j,x,v,h,hv=>by
  simp at h; subst h;have:=(List.getElem?_eq_some_iff.1 hv).1;simp only [flatMap_cons,zero_mul,zero_add];rw [getElem?_append_left this]; exact hv
 | y::xs,i + 1,j,x,v,h,hv=>by
  simp only [List.getElem?_cons_succ] at h;simp only [flatMap_cons];rw [getElem?_append_right (by rw [he,succ_mul]; omega),he,show (i + 1) * m + j - m = i * m + j from by rw [succ_mul]; omega];exact uc he xs i j x v h hv
theorem wr_left:∀ (vs a b:List Value) (i:Nat),i + vs.length <= a.length->wr (a++b) i vs = wr a i vs++b
 | [],_,_,_,_=>rfl
 | v::vs,a,b,i,h=>by
  simp only [length_cons] at h;rw [wr,wr,List.set_append_left _ _ (by omega),wr_left vs (a.set i v) b (i + 1) (by simp; omega)]
theorem rg:∀ (vs a b:List Value) (i:Nat),wr (a++b) (a.length + i) vs = a++wr b i vs
 | [],_,_,_=>rfl
 | v::vs,a,b,i=>by
  rw [wr,wr,List.set_append_right _ _ (by omega),show a.length + i - a.length = i from by omega,add_assoc,rg vs a (b.set i v) (i + 1)]
theorem flat_wr (he:∀ x,(enc x).length = m):∀ (xs:List τ) (i k:Nat) (x y:τ) (vs:List Value),xs[i]? = some x->k + vs.length <= m->enc y = wr (enc x) k vs->wr (xs.flatMap enc) (i * m + k) vs = (xs.set i y).flatMap enc
 | [],i,_,_,_,_,h,_,_=>by simp at h
 | z::xs,0,k,x,y,vs,h,hl,hy=>by
  simp at h; subst h;simp only [flatMap_cons,zero_mul,zero_add,List.set_cons_zero];rw [wr_left _ _ _ _ (by rw [he]; exact hl),hy]
 | z::xs,i + 1,k,x,y,vs,h,hl,hy=>by
  simp only [List.getElem?_cons_succ] at h;simp only [flatMap_cons,List.set_cons_succ];rw [show (i + 1) * m + k = (enc z).length + (i * m + k) from by rw [he,succ_mul]; omega,rg,flat_wr he xs i k x y vs h hl hy]
variable {P:Program} {l:List As} {h:Hp}
theorem bY {j:Nat} {s:Sl} {xs:List τ} (st:ay l h) (hj:l[j]? = some (vec T m enc s xs)):s.len = xs.length/\(0 < xs.length->∃ q,s.a = some q):=by
 obtain ⟨h1,⟨e,h2,h3⟩,_⟩:=dZ hj st;refine ⟨e,fun hp=>?_⟩;rcases h3 with h4 | ⟨b,pre,rest,U,fr,h4,_⟩
 ·omega
 ·exact ⟨_,h4⟩
theorem cU {j:Nat} {s:Sl} {xs:List τ} {i:Int} {K:Nat × Nat->Hp->Prop} (st:ay l h) (hj:l[j]? = some (vec T m enc s xs)) (h0:0 <= i) (h1:i < xs.length) (k:∀ q,s.a = some q->K q h):ix s i K h:=by
 obtain ⟨e,hq⟩:=bY st hj;obtain ⟨q,hq⟩:=hq (by omega);exact ⟨q,hq,⟨h0,by omega⟩,k q hq⟩
theorem cX {σ:Type} {j i k:Nat} {s:Sl} {xs:List τ} {q:Nat × Nat} {enc':σ->List Value} {K:σ->Hp->Prop} {off:Nat} (y:σ) (he:∀ x,(enc x).length = m) (st:ay l h) (hj:l[j]? = some (vec T m enc s xs)) (hq:s.a = some q) (hoff:off = q.2 + i * m + k)
  {x:τ} (hx:xs[i]? = some x) (hy:∀ n v,(enc' y)[n]? = some v->(enc x)[k + n]? = some v) (kk:K y h):ld (q.1,off) enc' K h:=by
 obtain ⟨h1,⟨e,h2,h3⟩,sub⟩:=dZ hj st;have hil:=(List.getElem?_eq_some_iff.1 hx).1;rcases h3 with h4 | ⟨b,pre,rest,U,fr,h4,h5,_,h6⟩
 ·omega
 ·rw [h4] at hq; cases hq;refine ⟨y,⟨_,_,_,sub _ _ h6,fun n v hn=>?_⟩,kk⟩;have:=uc he xs i (k + n) x v hx (hy n v hn);have hlt:=(List.getElem?_eq_some_iff.1 this).1;simp only [hoff,getElem?_toArray];rw [getElem?_append_right (by omega),show pre.length + i * m + k + n - pre.length = i * m + (k + n) from by omega,getElem?_append_left hlt];exact this
theorem uq {j i k:Nat} {s:Sl} {xs:List τ} {q:Nat × Nat} {vs:List Value} {K:Hp->Prop} {off:Nat} (y:τ) (he:∀ x,(enc x).length = m) (s0:ay l h) (hj:l[j]? = some (vec T m enc s xs)) (hq:s.a = some q) (hoff:off = q.2 + i * m + k)
  {x:τ} (hx:xs[i]? = some x) (hlen:k + vs.length <= m) (hy:enc y = wr (enc x) k vs) (kk:∀ h',ay (l.set j (vec T m enc s (xs.set i y))) h'->K h'):st (q.1,off) vs K h:=by
 obtain ⟨h1,h2,d,rfl,⟨e,e2,h3⟩,s'⟩:=fN hj s0;have hi:=(List.getElem?_eq_some_iff.1 hx).1;rcases h3 with h4 | ⟨b,pre,rest,U,fr,h4,h5,hg,h6⟩
 ·omega
 ·rw [h4] at hq; cases hq;have hfl:=dG he xs;have hm:(i + 1) * m <= xs.length * m:=mul_le_mul_right m hi;rw [succ_mul] at hm;have ew:wr (pre++(xs.flatMap enc++rest)) (pre.length + i * m + k) vs = pre++((xs.set i y).flatMap enc++rest):=by
   rw [add_assoc,rg,wr_left _ _ _ _ (by rw [hfl]; omega),flat_wr he xs i k x y vs hx hlen hy]
  have hcap:s.len * m <= s.cap * m:=mul_le_mul_right m e2;have hlm:s.len * m = xs.length * m:=by rw [e]
  refine ⟨_,U,fr,un_left h6,fun j j1 j2=>gh_nf hg j (by show pre.length <= j; have j1':pre.length + i * m + k <= j:=(hoff ▸ j1); omega) (by show j < pre.length + s.cap * m; have j2':j < pre.length + i * m + k + vs.length:=(hoff ▸ j2); omega),by simp [hoff,hfl]; omega,kk _ ?_⟩;obtain ⟨d',e'⟩:=set_dj (o':=.cells (pre++((xs.set i y).flatMap enc++rest)).toArray U fr) d h6;simp only [hoff,ew];rw [e'];exact eB (List.getElem?_eq_some_iff.1 hj).1 ⟨_,h2,d',rfl,⟨by simpa using e,e2,.inr ⟨b,pre,rest,U,fr,h4,h5,hg,kg _ _ _⟩⟩,s'⟩
end
section
variable {P:Program} {l:List As} {h:Hp}
structure El (P:Program) (S T m bys:Nat) (z:List Value):Prop where
 sl:P.underlying S = some (.slice T)
 inf:∃ i,P.info? T = some i/\i.size = m/\i.bytes = bys/\i.zero.map (fun v=>v.cells.toList) = some z
 len:z.length = m
theorem dD {S:TypeId} {D:TypeDesc} {K:TypeDesc->Hp->Prop} (e:P.underlying S = some D) (k:K D h):hp P (underlying S) K h:=by
 unfold underlying;rw [db,xU];simp only [e];exact k
theorem oK {T:TypeId} {i:TypeInfo} {K:TypeInfo->Hp->Prop} (e:P.info? T = some i) (k:K i h):hp P (typeInfo T) K h:=by
 unfold typeInfo;rw [db,xU];simp only [e];exact k
theorem oL {T:TypeId} {i:TypeInfo} {K:Nat->Hp->Prop} (e:P.info? T = some i) (k:K i.size h):hp P (sizeOf T) K h:=by
 unfold sizeOf;rw [db];exact oK e k
theorem sX {T:TypeId} {i:TypeInfo} {v:Value} {K:Value->Hp->Prop} (e:P.info? T = some i) (ez:i.zero = some v) (k:K v h):hp P (zeroValue T) K h:=by
 unfold zeroValue;rw [db];refine oK e ?_;simp only [ez];exact k
theorem hp_asInt {kd:IntKind} {n:Int} {K:Int->Hp->Prop} (k:K n h):hp P (asInt (.int kd n)) K h:=k
theorem cx {α β:Type} {m:Sem α} {f:α->Sem β} {K:β->Hp->Prop} (H:hp P m (fun a h=>hp P (f a) K h) h):hp P (m >>= f) K h:=(db m f K h).2 H
theorem hp_newRow {T:TypeId} {c:List Value} {K:Addr->Hp->Prop} (s:ay l h) (k:∀ b h',ay (blk b T c::l) h'->K ⟨b,0,none⟩ h'):hp P (newRow T c.toArray) K h:=by
 unfold newRow;refine cx ?_;exact ⟨by simp [calm],fun b hb=>k b _ (new_s s hb)⟩
theorem hp_askRoom {n:Nat} {K:Unit->Hp->Prop} (k:K () h):hp P (askRoom n) K h:=by
 unfold askRoom; split <;> exact k
theorem bp {n:Int} (h0:-2^63 <= n) (h1:n < 2^63):i64.wrap n = n:=by
 simp only [IntKind.wrap]; first | omega | (simp [IntKind.bits,IntKind.signed]; omega)
theorem rep_flat (z:List Value) (n:Nat):((range (n * z.length)).map fun i=>(z.toArray)[i % z.toArray.size]!) = ((replicate n z).flatMap id).toArray:=by
 apply ext';simp only [Array.toList_map,Array.toList_range,List.size_toArray];apply ext_getElem?;intro i;have hfl:((replicate n z).flatMap id).length = n * z.length:=by
  simp [List.length_flatMap]
 by_cases hi:i < n * z.length
 ·have hz:0 < z.length:=by
   rcases Nat.eq_zero_or_pos z.length with e | e
   ·rw [e] at hi; omega
   ·exact e
  have hd:i / z.length < n:=(Nat.div_lt_iff_lt_mul hz).2 hi;have hmod:=Nat.mod_lt i hz;rw [List.getElem?_map,List.getElem?_range hi];have key:∀ (n q r:Nat),q < n->r < z.length->((replicate n z).flatMap id)[q * z.length + r]? = z[r]?:=by
   intro n
   induction n with
   | zero=>intro q r h; omega
   | succ n ih =>
    intro q r hq hr;rw [List.replicate_succ,flatMap_cons];cases q with
    | zero=>rw [zero_mul,zero_add,getElem?_append_left (by simpa using hr)]; rfl
    | succ q =>
     rw [getElem?_append_right (by rw [succ_mul]; simp; omega)];have e:(q + 1) * z.length + r - (id z).length = q * z.length + r:=by rw [succ_mul]; simp; omega
     rw [e];exact ih q r (by omega) hr
  have:=key n (i / z.length) (i % z.length) hd hmod;rw [Nat.mul_comm,Nat.div_add_mod] at this;rw [this];simp [hmod]
 ·rw [List.getElem?_eq_none (by simp; omega),List.getElem?_eq_none (by rw [hfl]; omega)]
theorem rep_flat_map {τ:Type} {enc:τ->List Value} (x:τ) (n:Nat):(replicate n (enc x)).flatMap id = (replicate n x).flatMap enc:=by
 induction n with
 | zero=>rfl
 | succ n ih=>simp only [List.replicate_succ,flatMap_cons,ih]; rfl
theorem hp_zc {α:Type} {T:TypeId} {i:TypeInfo} {z:List Value} {n:Nat} {f:Array Value->Sem α} {K:α->Hp->Prop} (e:P.info? T = some i) (ez:i.zero.map (fun v=>v.cells.toList) = some z) (hn:n = 0->z = []\/True)
  (k:∀ c:Array Value,(n = 0/\c = #[]\/n ≠ 0/\c = z.toArray)->hp P (f c) K h) :
  hp P (if n = 0 then (do let z ← (pure #[]:Sem (Array Value)); f z) else (do let v ← zeroValue T; let z ← (pure v.cells:Sem (Array Value)); f z)) K h:=by
 cases hz:i.zero with
 | none=>rw [hz] at ez; cases ez
 | some v =>
  rw [hz] at ez;simp only [map_some,Option.some.injEq] at ez;by_cases h0:n = 0
  ·rw [if_pos h0]; exact k _ (.inl ⟨h0,rfl⟩)
  ·rw [if_neg h0];refine cx (sX e hz ?_);exact k _ (.inr ⟨h0,by rw [← ez]⟩)
theorem wQ {S T m bys:Nat} {z:List Value} (h1:P.underlying S = some (.slice T)) (h2:(P.info? T).map (fun i=>(i.size,i.bytes,i.zero.map (fun v=>v.cells.toList))) = some (m,bys,some z)) (h3:z.length = m):El P S T m bys z:=by
 refine ⟨h1,?_,h3⟩;cases h:P.info? T with
 | none=>rw [h] at h2; cases h2
 | some i =>
  rw [h] at h2;simp only [map_some,Option.some.injEq,Prod.mk.injEq] at h2;exact ⟨i,rfl,h2.1,h2.2.1,h2.2.2⟩
theorem oJ {τ:Type} {S T m bys:Nat} {z:List Value} {enc:τ->List Value} {x0:τ} {n:Nat} {K:Sl->Hp->Prop} (E:El P S T m bys z) (hz:enc x0 = z) (s:ay l h) (hn:bys * n <= 2 ^ 48) (hn2:n < 2 ^ 62)
  (k:∀ v h',ay (vec T m enc v (replicate n x0)::l) h'->K v h'):hpv P (Instr.makeSlice S (.int .i64 n) (.int .i64 n)) sv K h:=by
 refine ⟨?_⟩;unfold Instr.makeSlice;obtain ⟨i,hi,h1,h2,h3⟩:=E.inf;refine cx (dD E.sl ?_);refine cx (hp_asInt ?_);refine cx (hp_asInt ?_);refine cx (oK hi ?_);simp only [h2];have hw:i64.wrap (n:Int) = n:=bp (by omega) (by omega);rw [hw];have hlarge:¬ ((decide ((n:Int) < 0) || decide ((bys:Int) * n > 2 ^ 48) || decide ((n:Int) < 0) || decide ((n:Int) > n)) = true):=by
  have:((bys:Int) * n) <= 2 ^ 48:=by exact_mod_cast hn
  simp; omega
 rw [if_neg hlarge];refine cx ?_;refine hp_askRoom ?_;refine cx (oL hi ?_);rw [h1];refine hp_zc hi h3 (fun _=>.inr trivial) fun c hc=>?_;have harr:((range ((n:Int).toNat * m)).map fun i=>c[i % c.size]!) = ((replicate n x0).flatMap enc).toArray:=by
  rw [← rep_flat_map,hz,Int.toNat_natCast];rcases hc with ⟨h0,rfl⟩ | ⟨h0,rfl⟩
  ·rw [Int.toNat_natCast] at h0;rw [h0];have:((replicate n z).flatMap id) = []:=by
    apply eq_nil_of_length_eq_zero;simp [List.length_flatMap,E.len,h0]
   rw [this]; simp
  ·rw [← E.len]; exact rep_flat z n
 rw [harr];refine cx (hp_newRow s fun b h' s'=>?_);refine ⟨⟨some (b,0),n,n,none⟩,by simp [sv,pa,Int.toNat_natCast],k _ _ ?_⟩;refine kV (.refl _) ?_;obtain ⟨h1',h2',d,e,a,s2⟩:=s';exact ⟨h1',h2',d,e,⟨by simp,le_refl _,.inr ⟨b,[],[],T,(0,0),rfl,by simp,⟨rfl,rfl⟩,by simpa [bkF,blk] using a⟩⟩,s2⟩
theorem wr_two:∀ (a b c:List Value) (i:Nat),wr c i (a++b) = wr (wr c i a) (i + a.length) b
 | [],_,_,_=>rfl
 | v::a,b,c,i=>by
  simp only [List.cons_append,length_cons];rw [wr,wr,wr_two a b _ (i + 1),show i + 1 + a.length = i + (a.length + 1) from by omega]
theorem fold_wr:∀ (vs:List Value) (off j:Nat) (c:Array Value),((vs.zipIdx j).foldl (fun cs (p:Value × Nat)=>cs.setIfInBounds (off + p.2) p.1) c) = (wr c.toList (off + j) vs).toArray
 | [],_,_,_=>rfl
 | v::vs,off,j,c=>by
  simp only [List.zipIdx_cons,List.foldl_cons];rw [fold_wr vs off (j + 1),wr];simp [add_assoc]
def pts {τ:Type} (val:τ->Value):Nat->List τ->List (Nat × Value)
 | _,[]=>[]
 | i,x::xs=>(i,val x)::pts val (i + 1) xs
theorem fill_pts {τ:Type} {m:Nat} {enc:τ->List Value} {val:τ->Value} (he:∀ x,(enc x).length = m) (hv:∀ x,(val x).cells.toList = enc x):∀ (xs:List τ) (i:Nat) (c:List Value),(i + xs.length) * m <= c.length ->
  Instr.fill (fun i=>some (i * m,m)) c.toArray (pts val i xs) = some (wr c (i * m) (xs.flatMap enc)).toArray
 | [],_,_,_=>rfl
 | x::xs,i,c,h=>by
  have hs:(val x).cells.size = m:=by rw [← Array.length_toList,hv,he]
  have h1:i * m + m <= c.length:=by
   refine Nat.le_trans ?_ h;rw [← succ_mul];exact mul_le_mul_right m (by simp)
  have hc:((val x).cells.size ≠ m || decide (i * m + (val x).cells.size > c.toArray.size)) = false:=by
   rw [hs]; simp; omega
  rw [pts,Instr.fill];simp only [hc,Bool.false_eq_true,if_false];have e:((val x).cells.zipIdx.foldl (fun cs (p:Value × Nat)=>cs.setIfInBounds (i * m + p.2) p.1) c.toArray) = (wr c (i * m) (enc x)).toArray:=by
   have h0:(val x).cells = (enc x).toArray:=by rw [← hv]
   rw [h0];have:=fold_wr (enc x) (i * m) 0 c.toArray;simp only [Nat.add_zero] at this;rw [← this];simp
  rw [e,fill_pts he hv xs (i + 1) _ (by rw [wr_length]; simpa [add_assoc,Nat.add_comm 1] using h),flatMap_cons,wr_two,he,succ_mul]
theorem fy {τ:Type} {S T m bys:Nat} {z:List Value} {enc:τ->List Value} {val:τ->Value} (xs:List τ) {parts:Array (Nat × Value)} {n:Nat} {K:Sl->Hp->Prop} (E:El P S T m bys z) (he:∀ x,(enc x).length = m) (hv:∀ x,(val x).cells.toList = enc x)
  (s:ay l h) (hp_:parts = (pts val 0 xs).toArray) (hn:n = xs.length) (hb:n * m <= 2 ^ 24)
  (k:∀ v h',ay (vec T m enc v xs::l) h'->K v h'):hpv P (Instr.buildSlice S n parts) sv K h:=by
 subst hp_; subst hn;refine ⟨?_⟩;unfold Instr.buildSlice;obtain ⟨i,hi,h1,h2,h3⟩:=E.inf;refine cx (dD E.sl ?_);refine cx (oL hi ?_);rw [h1,if_neg (by omega)];refine hp_zc hi h3 (fun _=>.inr trivial) fun c hc=>?_;have hlen:((range (xs.length * m)).map fun i=>c[i % c.size]!).size = xs.length * m:=by simp
 have hf:=fill_pts he hv xs 0 (((range (xs.length * m)).map fun i=>c[i % c.size]!)).toList (by simp);simp only [zero_mul,Array.toArray_toList] at hf;rw [wr_all (by rw [dG he]; simp)] at hf;simp only [hf];refine cx (hp_newRow s fun b h' s'=>?_);refine ⟨⟨some (b,0),xs.length,xs.length,none⟩,rfl,k _ _ ?_⟩;obtain ⟨h1',h2',d,e,a,s2⟩:=s';exact ⟨h1',h2',d,e,⟨rfl,le_refl _,.inr ⟨b,[],[],T,(0,0),rfl,by simp,⟨rfl,rfl⟩,by simpa [bkF,blk] using a⟩⟩,s2⟩
theorem hp_loadFrom {b off:Nat} {K:Array Value->Hp->Prop}:∀ (cs:List Value) (i:Nat) (acc:Array Value),(∀ j v,cs[j]? = some v->lL h ⟨b,off + (i + j),none⟩ = some v)->K (acc++cs.toArray) h->hp P (loadCellsFrom ⟨b,off,none⟩ i cs.length acc) K h
 | [],_,acc,_,k=>by
  have e:acc++([]:List Value).toArray = acc:=by simp
  rw [e] at k;exact k
 | v::cs,i,acc,hc,k=>by
  simp only [length_cons,loadCellsFrom];refine cx ?_;rw [add_plain];refine ⟨v,hc 0 v rfl,?_⟩;refine hp_loadFrom cs (i + 1) _ (fun j u hj=>by rw [show i + 1 + j = i + (j + 1) from by omega]; exact hc (j + 1) u (by simpa using hj)) ?_;simpa using k
theorem hp_loadCells {b off n:Nat} {cs:List Value} {K:Array Value->Hp->Prop} (hc:rX h (b,off) cs) (hn:cs.length = n) (k:K cs.toArray h):hp P (loadCells ⟨b,off,none⟩ n) K h:=by
 subst hn;obtain ⟨c,T,fr,h1,h2⟩:=hc;refine hp_loadFrom cs 0 #[] (fun j v hj=>?_) (by simpa using k);unfold lL;simp only [h1];simpa using h2 j v hj
theorem star_swap {B:As} {i:Nat} (hi:i < l.length) (s:ay (B::l) h):ay (l.set i B) h:=by
 have hi':(B::l)[i + 1]? = some l[i]:=by simp [hi]
 obtain ⟨h1,h2,d,rfl,_,s'⟩:=fN hi' s;simp only [List.eraseIdx_cons_succ] at s';have:=eB hi s';rw [un_comm d];exact qE this d.symm
theorem grow_le:∀ (k need c:Nat),c < need->Builtin.growBy need k c <= 2 * need + 512
 | 0,need,c,h=>by unfold Builtin.growBy; omega
 | k + 1,need,c,h=>by
  unfold Builtin.growBy;rw [if_neg (by omega)];by_cases h2:c + (c + 768) / 4 < need
  ·exact grow_le k need _ h2
  ·cases k with
   | zero=>unfold Builtin.growBy; omega
   | succ k=>unfold Builtin.growBy; rw [if_pos (by omega)]; omega
theorem next_le {need c:Nat} (h:c < need):Builtin.nextslicecap need c <= 2 * need + 512:=by
 unfold Builtin.nextslicecap;split
 ·omega
 ·split
  ·omega
  ·exact grow_le 4 need c h
theorem vec_cells {τ:Type} {T m:Nat} {enc:τ->List Value} {s:Sl} {xs:List τ} {q:Nat × Nat} (he:∀ x,(enc x).length = m) (H:vec T m enc s xs h) (hq:s.a = some q) (hx:s.cap ≠ 0):rX h q (xs.flatMap enc):=by
 obtain ⟨_,_,h3⟩:=H;rcases h3 with h4 | ⟨b,pre,rest,U,fr,h4,h5,_,h6⟩
 ·exact absurd h4 hx
 ·rw [h4] at hq; cases hq;refine ⟨_,_,_,h6,fun i v hv=>?_⟩;have:=(List.getElem?_eq_some_iff.1 hv).1;rw [getElem?_toArray,getElem?_append_right (by omega),show pre.length + i - pre.length = i from by omega,getElem?_append_left this];exact hv
theorem hcells_sub {h g:Hp} {q:Nat × Nat} {cs:List Value} (hc:rX h q cs) (sub:∀ b o,h b = some o->g b = some o):rX g q cs:=by
 obtain ⟨c,T,fr,h1,h2⟩:=hc;exact ⟨c,T,fr,sub _ _ h1,h2⟩
theorem vR {τ:Type} {T m j:Nat} {enc:τ->List Value} {s:Sl} {xs:List τ} {K:Array Value->Hp->Prop} {B:As} (hB:∀ h,B h->vec T m enc s xs h) (he:∀ x,(enc x).length = m) (st:ay l h) (hj:l[j]? = some B) (k:K (xs.flatMap enc).toArray h):hp P (Builtin.firstCells m s.len (sv s)) K h:=by
 obtain ⟨h1,H,sub⟩:=dZ hj st
 replace H:=hB _ H
 cases ha:s.a with
 | none =>
  obtain ⟨e1,e2,h3⟩:=H;have:xs = []:=by
   apply eq_nil_of_length_eq_zero;rcases h3 with e3 | ⟨b,pre,rest,U,fr,h4,_⟩
   ·omega
   ·rw [h4] at ha; cases ha
  subst this;unfold sv; rw [ha];exact k
 | some q =>
  have e:sv s = .slice (some ⟨q.1,q.2,none⟩) s.len s.cap:=aM ha;rw [e];by_cases hc:s.cap = 0
  ·have hn:xs = []:=eq_nil_of_length_eq_zero (by have:=H.1; have:=H.2.1; omega);have hl:s.len = 0:=by have:=H.2.1; omega
   subst hn;rw [hl];show hp P (loadCellsFrom ⟨q.1,q.2,none⟩ 0 (0 * m) #[]) K h;rw [zero_mul];exact k
  ·exact hp_loadCells (hcells_sub (vec_cells he H ha hc) sub) (by rw [dG he,H.1]) k
theorem hp_no {α:Type} {c:Prop} [Decidable c] {x y:Sem α} {K:α->Hp->Prop} (hc:¬ c) (k:hp P y K h):hp P (if c then x else y) K h:=by rw [if_neg hc]; exact k
theorem hp_yes {α:Type} {c:Prop} [Decidable c] {x y:Sem α} {K:α->Hp->Prop} (hc:c) (k:hp P x K h):hp P (if c then x else y) K h:=by rw [if_pos hc]; exact k
theorem gh_app {s:Sl} {T m n:Nat} {pre rest rest':List Value} {U:TypeId} {fr:Nat × Nat} {a:Ptr} (g:gh s T m pre rest U fr):gh ⟨a,n,s.cap,s.g.map fun _=>(pre,rest',U,fr)⟩ T m pre rest' U fr:=by
 unfold gh at g ⊢;cases h:s.g with
 | none=>rw [h] at g; exact g
 | some x=>rw [h] at g; exact ⟨rfl,g.2⟩
theorem append_w {τ:Type} {S S' E' T m bys i j:Nat} {z:List Value} {enc:τ->List Value} {s y:Sl} {xs ys:List τ} {R:Nat} {K:Sl->Hp->Prop} {B:As} (hB:∀ h,B h->vec T m enc y ys h) (E:El P S T m bys z) (hS':P.underlying S' = some (.slice E')) (he:∀ x,(enc x).length = m) (ho:∀ x,dS (enc x) = true)
  (st:ay l h) (hi:l[i]? = some (vec T m enc s xs)) (hj:l[j]? = some B) (hij:i ≠ j) (hb:(2 * (xs.length + ys.length) + 512) * bys <= 2 ^ 48) (hb2:xs.length + ys.length < 2 ^ 62)
  (k:∀ v h',ay (l.set i (vec T m enc v (xs++ys))) h'->K v h'):hpv P (Builtin.append_ #[S,S'] R #[sv s,sv y]) sv K h:=by
 refine ⟨?_⟩;unfold Builtin.append_;obtain ⟨inf,hinf,h1,h2,h3⟩:=E.inf;obtain ⟨_,es,_⟩:=dZ hi st;obtain ⟨_,ey,_⟩:=dZ hj st
 replace ey:=hB _ ey
 have hsl:=es.1;have hyl:=ey.1;have hilt:=(List.getElem?_eq_some_iff.1 hi).1;simp only [getElem?_toArray,List.getElem?_cons_zero,List.getElem?_cons_succ];refine cx (dD E.sl ?_);simp only [sv];refine cx (oL hinf ?_);refine cx (cx (dD hS' ?_));rw [h1];by_cases hfit:s.len + y.len <= s.cap
 ·refine hp_yes hfit ?_;refine cx (vR hB he st hj ?_);cases ha:s.a with
  | none =>
   have hnil:xs = []/\ys = []:=by
    obtain ⟨e1,e2,e3⟩:=es;rcases e3 with e3 | ⟨b,pre,rest,U,fr,h4,_⟩
    ·exact ⟨eq_nil_of_length_eq_zero (by omega),eq_nil_of_length_eq_zero (by omega)⟩
    ·rw [h4] at ha; cases ha
   refine ⟨s,?_,k s h ?_⟩
   ·have:y.len = 0:=by rw [hyl,hnil.2]; rfl
    simp [sv,ha,pa,this]
   ·rw [hnil.1,hnil.2];have fx:l.set i (vec T m enc s ([]++[])) = l:=by
     apply ext_getElem?;intro n;rw [List.getElem?_set];by_cases e:i = n
     ·subst e; rw [hi,hnil.1]; simp [hilt]
     ·simp [e]
    rw [fx]; exact st
  | some q =>
   simp only [pa];obtain ⟨g1,g2,d,rfl,H,s'⟩:=fN hi st;obtain ⟨e1,e2,e3⟩:=H;rcases e3 with h4 | ⟨b,pre,rest,U,fr,h4,h5,hg,h6⟩
   ·have hnx:xs = []:=eq_nil_of_length_eq_zero (by omega);have hny:ys = []:=eq_nil_of_length_eq_zero (by omega);subst hnx; subst hny;refine cx ?_;refine ⟨s,?_,k s _ (eB hilt ⟨g1,g2,d,rfl,⟨e1,e2,.inl h4⟩,s'⟩)⟩;have:y.len = 0:=hyl;simp [sv,ha,pa,this]
   ·rw [h4] at ha; cases ha;have hfx:=dG he xs;have hfy:=dG he ys;have hroom:(s.len + y.len) * m <= s.cap * m:=mul_le_mul_right m hfit;rw [add_mul] at hroom;have hr:ys.length * m <= rest.length:=by rw [← hyl]; omega
    have ew:wr (pre++(xs.flatMap enc++rest)) (pre.length + s.len * m + 0) (ys.flatMap enc) = pre++((xs++ys).flatMap enc++rest.drop (ys.length * m)):=by
     rw [Nat.add_zero,rg,show s.len * m = (xs.flatMap enc).length + 0 from by rw [hfx,hsl]; rfl,rg,List.flatMap_append,List.append_assoc]
     congr 2
     rw [wr_app _ _ _ (by rw [hfy]; omega),zero_add,hfy];simp
    have hsm:s.len * m = xs.length * m:=by rw [hsl]
    have hym:y.len * m = ys.length * m:=by rw [hyl]
    have hoy:dS (ys.flatMap enc) = true:=by
     unfold dS;rw [List.all_flatMap,List.all_eq_true];exact fun x _=>ho x
    refine cx ?_;rw [add_plain];refine mq (T:=U) (fr:=fr) (ys.flatMap enc) 0 (pre.length + s.len * m) (pre++(xs.flatMap enc++rest)) _ (un_left h6) (fun j j1 j2=>gh_nf hg j (by omega) (by rw [hfy] at j2; omega)) (by simp [hfx,hfy]; omega) hoy ?_;rw [ew];obtain ⟨d',e'⟩:=set_dj (o':=.cells (pre++((xs++ys).flatMap enc++rest.drop (ys.length * m))).toArray U fr) d h6;rw [e'];refine ⟨⟨some (b,pre.length),s.len + y.len,s.cap,s.g.map fun _=>(pre,rest.drop (ys.length * m),U,fr)⟩,rfl,k _ _ (eB hilt ⟨_,g2,d',rfl,⟨?_,hfit,.inr ⟨b,pre,_,U,fr,rfl,?_,gh_app hg,kg _ _ _⟩⟩,s'⟩)⟩
    ·simp [hsl,hyl]
    ·simp only [List.length_drop]; rw [add_mul,hyl]; omega
 ·refine hp_no hfit ?_;have hov:¬ ((s.len + y.len:Nat):Int) > i64.max:=by
   have:(i64.max:Int) = 2 ^ 63 - 1:=by rfl
   rw [this]; omega
  refine cx (oK hinf ?_);refine hp_no (fun hh=>hov hh.1) ?_;refine cx (oK hinf ?_);have hnx:=next_le (need:=s.len + y.len) (c:=s.cap) (by omega);have hle:Builtin.nextslicecap (s.len + y.len) s.cap * inf.bytes <= 2 ^ 48:=by
   rw [h2];refine Nat.le_trans (mul_le_mul_right bys hnx) ?_;rw [hsl,hyl]; exact hb
  refine hp_no (by omega) ?_;refine cx ?_;simp only [choose,hp];rw [if_neg (by simp [Question.forced])];intro t;generalize hcap:(Question.appendCap (s.len + y.len) s.cap T).cut t = newCap;have hge:s.len + y.len <= newCap:=by rw [← hcap]; simp [Question.cut]
  refine cx (oK hinf ?_);refine cx (hp_askRoom ?_);refine cx (vR (fun _ x=>x) he st hi ?_);refine cx (vR hB he st hj ?_);cases hz:inf.zero with
  | none=>rw [hz] at h3; cases h3
  | some zv =>
   rw [hz] at h3;simp only [map_some,Option.some.injEq] at h3;refine cx (sX hinf hz ?_);have hzc:zv.cells = z.toArray:=by rw [← h3]
   have hrest:Builtin.zeroCells zv.cells (newCap - (s.len + y.len)) = ((replicate (newCap - (s.len + y.len)) z).flatMap id).toArray:=by
    rw [hzc]; unfold Builtin.zeroCells; exact rep_flat z _
   rw [hrest];have hrl:((replicate (newCap - (s.len + y.len)) z).flatMap id).length = (newCap - (s.len + y.len)) * m:=by simp [List.length_flatMap,E.len]
   have hrow:(xs.flatMap enc).toArray++(ys.flatMap enc).toArray++((replicate (newCap - (s.len + y.len)) z).flatMap id).toArray = ([]++((xs++ys).flatMap enc++(replicate (newCap - (s.len + y.len)) z).flatMap id)).toArray:=by simp
   rw [hrow];refine cx (hp_newRow st fun b h' s'=>?_);refine ⟨⟨some (b,0),s.len + y.len,newCap,none⟩,rfl,k _ _ (star_swap hilt ?_)⟩;obtain ⟨g1,g2,d,e,a,s2⟩:=s';refine ⟨g1,g2,d,e,⟨by simp [hsl,hyl],hge,.inr ⟨b,[],_,T,(0,0),rfl,?_,⟨rfl,rfl⟩,a⟩⟩,s2⟩;rw [hrl,← add_mul];exact mul_le_mul_right m (show newCap <= s.len + y.len + _ by omega)
theorem rK {τ:Type} {S S' E' T m bys i j:Nat} {z:List Value} {enc:τ->List Value} {s y:Sl} {xs ys:List τ} {R:Nat} {K:Sl->Hp->Prop} (E:El P S T m bys z) (hS':P.underlying S' = some (.slice E')) (he:∀ x,(enc x).length = m) (ho:∀ x,dS (enc x) = true)
  (st:ay l h) (hi:l[i]? = some (vec T m enc s xs)) (hj:l[j]? = some (vec T m enc y ys)) (hij:i ≠ j) (hb:(2 * (xs.length + ys.length) + 512) * bys <= 2 ^ 48) (hb2:xs.length + ys.length < 2 ^ 62)
  (k:∀ v h',ay (l.set i (vec T m enc v (xs++ys))) h'->K v h'):hpv P (Builtin.append_ #[S,S'] R #[sv s,sv y]) sv K h:=append_w (fun _ x=>x) E hS' he ho st hi hj hij hb hb2 k
end
end Mb
end
section
open Go
namespace Mb
section
variable {l:List As} {h:Hp}
theorem get_nat' {α:Type} {xs:List α} {i:Nat} (h:i < xs.length):xs[i]? = some xs[i]:=List.getElem?_eq_some_iff.2 ⟨h,rfl⟩
def ex {α:Type} (A:α->As):As:=fun h=>∃ x,A x h
theorem op_ {α:Type} {φ:α->Prop} {m:α->List As} (s:ay ((fun h=>∃ x,φ x/\ay (m x) h)::l) h):∃ x,φ x/\ay (m x++l) h:=by
 obtain ⟨h1,h2,d,e,⟨x,f,s1⟩,s2⟩:=s;exact ⟨x,f,fC.2 ⟨h1,h2,d,e,s1,s2⟩⟩
theorem cl_ {α:Type} {φ:α->Prop} {m:α->List As} (x:α) (f:φ x) (s:ay (m x++l) h):ay ((fun h=>∃ x,φ x/\ay (m x) h)::l) h:=by
 obtain ⟨h1,h2,d,e,s1,s2⟩:=fC.1 s;exact ⟨h1,h2,d,e,⟨x,f,s1⟩,s2⟩
theorem star_cons {A:As} (a:∀ h,A h) (s:ay l h):ay (A::l) h:=⟨emp,h,Dj.emp_left _,rfl,a _,s⟩
theorem fu {τ:Type} {T m:Nat} {enc:τ->List Value} (s:ay l h):ay (vec T m enc (⟨none,0,0,none⟩:Sl) []::l) h :=
 star_cons (fun _=>⟨rfl,le_refl _,.inl rfl⟩) s
theorem dq {m:List As} (s:ay (ay m::l) h):ay (m++l) h:=by
 obtain ⟨h1,h2,d,e,a,s'⟩:=s;exact fC.2 ⟨h1,h2,d,e,a,s'⟩
theorem star_tail {A:As} {m:List As} (s:ay (A::l) h) (hm:∀ h,ay l h->ay m h):ay (A::m) h:=by
 obtain ⟨h1,h2,d,e,a,s'⟩:=s;exact ⟨h1,h2,d,e,a,hm _ s'⟩
theorem ba {φ:Prop} {m:List As} (f:φ) (s:ay m h):pa_ φ m h:=⟨f,s⟩
end
theorem vec_set_row {τ:Type} {T m i:Nat} {enc:τ->List Value} {s:Sl} {xs ys:List τ} {l:List As} {h:Hp} {K:Hp->Prop} {P:Program} (he:∀ x,(enc x).length = m) (ho:∀ x,dS (enc x) = true) (hlen:ys.length = xs.length) (st:ay l h) (hi:l[i]? = some (vec T m enc s xs)) {q:Nat × Nat} (hq:s.a = some q)
  (k:∀ h',ay (l.set i (vec T m enc s ys)) h'->K h'):hp P (storeCells ⟨q.1,q.2,none⟩ (ys.flatMap enc)) (fun _ h=>K h) h:=by
 obtain ⟨g1,g2,d,rfl,⟨e1,e2,e3⟩,s'⟩:=fN hi st;rcases e3 with h4 | ⟨b,pre,rest,U,fr,h4,h5,hg,h6⟩
 ·have hny:ys = []:=eq_nil_of_length_eq_zero (by omega);have hnx:xs = []:=eq_nil_of_length_eq_zero (by omega);subst hny; subst hnx;exact k _ (eB (List.getElem?_eq_some_iff.1 hi).1 ⟨g1,g2,d,rfl,⟨e1,e2,.inl h4⟩,s'⟩)
 ·rw [h4] at hq; cases hq;have hfx:=dG he xs;have hfy:=dG he ys;have hoy:dS (ys.flatMap enc) = true:=by
   unfold dS;rw [List.all_flatMap,List.all_eq_true];exact fun x _=>ho x
  have ew:wr (pre++(xs.flatMap enc++rest)) (pre.length + 0) (ys.flatMap enc) = pre++(ys.flatMap enc++rest):=by
   rw [rg,wr_left _ _ _ _ (by rw [hfx,hfy,hlen,zero_add]; exact le_refl _),wr_all (by rw [hfx,hfy,hlen])]
  have hcap:s.len * m <= s.cap * m:=mul_le_mul_right m e2;have hlm:s.len * m = xs.length * m:=by rw [e1]
  refine mq (T:=U) (fr:=fr) (ys.flatMap enc) 0 pre.length (pre++(xs.flatMap enc++rest)) _ (un_left h6) (fun j j1 j2=>gh_nf hg j (by omega) (by rw [hfy,hlen] at j2; omega)) (by simp [hfx,hfy,hlen]) hoy ?_;rw [ew];obtain ⟨d',e'⟩:=set_dj (o':=.cells (pre++(ys.flatMap enc++rest)).toArray U fr) d h6;rw [e'];exact k _ (eB (List.getElem?_eq_some_iff.1 hi).1 ⟨_,g2,d',rfl,⟨by rw [e1,hlen],e2,.inr ⟨b,pre,rest,U,fr,h4,h5,hg,kg _ _ _⟩⟩,s'⟩)
def encU (_:Unit):Value:=.tuple #[]
theorem clear_v {τ:Type} {S T m bys i R:Nat} {z:List Value} {enc:τ->List Value} {x0:τ} {s:Sl} {xs:List τ} {l:List As} {h:Hp} {K:Unit->Hp->Prop} {P:Program} (E:El P S T m bys z) (hz:enc x0 = z) (he:∀ x,(enc x).length = m) (ho:∀ x,dS (enc x) = true) (st:ay l h) (hi:l[i]? = some (vec T m enc s xs))
  (k:∀ h',ay (l.set i (vec T m enc s (replicate xs.length x0))) h'->K () h'):hpv P (Builtin.clear_ #[S] R #[sv s]) encU K h:=by
 refine ⟨?_⟩;obtain ⟨_,es,_⟩:=dZ hi st;have hilt:=(List.getElem?_eq_some_iff.1 hi).1;unfold Builtin.clear_;simp only [getElem?_toArray,List.getElem?_cons_zero];refine cx (dD E.sl ?_);have same:xs = []->ay (l.set i (vec T m enc s (replicate xs.length x0))) h:=by
  intro e;subst e;have:l.set i (vec T m enc s (replicate ([]:List τ).length x0)) = l:=by
   apply ext_getElem?;intro n;rw [List.getElem?_set];by_cases e:i = n
   ·subst e; rw [hi]; simp [hilt]
   ·simp [e]
  rw [this]; exact st
 cases ha:s.a with
 | none =>
  have hnil:xs = []:=by
   obtain ⟨e1,e2,e3⟩:=es;rcases e3 with e3 | ⟨b,pre,rest,U,fr,h4,_⟩
   ·exact eq_nil_of_length_eq_zero (by omega)
   ·rw [h4] at ha; cases ha
  simp only [sv,ha,pa];exact ⟨(),rfl,k h (same hnil)⟩
 | some q =>
  simp only [sv,ha,pa];cases hn:s.len with
  | zero =>
   have hnil:xs = []:=eq_nil_of_length_eq_zero (by rw [← es.1]; exact hn);exact ⟨(),rfl,k h (same hnil)⟩
  | succ n =>
   obtain ⟨inf,hinf,h1,h2,h3⟩:=E.inf;cases hzv:inf.zero with
   | none=>rw [hzv] at h3; cases h3
   | some zv =>
    rw [hzv] at h3;simp only [map_some,Option.some.injEq] at h3;refine cx (sX hinf hzv ?_);refine cx ?_;have hzc:zv.cells = z.toArray:=by rw [← h3]
    have hrow:(Builtin.zeroCells zv.cells (n + 1)).toList = (replicate xs.length x0).flatMap enc:=by
     rw [hzc]; unfold Builtin.zeroCells;have:=rep_flat z (n + 1);simp only [List.size_toArray] at this ⊢;rw [this,← hz,rep_flat_map,← es.1,hn]
    rw [hrow];refine vec_set_row (K:=fun h'=>∃ r,Value.tuple #[] = encU r/\K r h') he ho (by simp) st hi ha fun h' s'=>?_;exact ⟨(),rfl,k h' s'⟩
theorem oneI (k:IntKind) (x:Int):dS (cI k x) = true:=rfl
theorem oneS (x:Sl):dS (cS x) = true:=rfl
section
variable {τ:Type} {m:Nat} {enc:τ->List Value} {l:List As} {h:Hp}
theorem ld_a {σ:Type} {T j i k:Nat} {b:Nat} {pre rest:List Value} {xs:List τ} {enc':σ->List Value} {K:σ->Hp->Prop} {off:Nat} (y:σ) (he:∀ x,(enc x).length = m) (st:ay l h) (hj:l[j]? = some (blk b T (pre++(xs.flatMap enc++rest)))) (hoff:off = pre.length + i * m + k)
  {x:τ} (hx:xs[i]? = some x) (hy:∀ n v,(enc' y)[n]? = some v->(enc x)[k + n]? = some v) (kk:K y h):ld (b,off) enc' K h:=by
 refine ld_s y st hj (fun n v hn=>?_) kk;have:=uc he xs i (k + n) x v hx (hy n v hn);have hlt:=(List.getElem?_eq_some_iff.1 this).1;rw [hoff,getElem?_append_right (by omega),show pre.length + i * m + k + n - pre.length = i * m + (k + n) from by omega,getElem?_append_left hlt];exact this
theorem st_a {T j i k:Nat} {b:Nat} {pre rest:List Value} {xs:List τ} {vs:List Value} {K:Hp->Prop} {off:Nat} (y:τ) (he:∀ x,(enc x).length = m) (s0:ay l h) (hj:l[j]? = some (blk b T (pre++(xs.flatMap enc++rest)))) (hoff:off = pre.length + i * m + k)
  {x:τ} (hx:xs[i]? = some x) (hlen:k + vs.length <= m) (hy:enc y = wr (enc x) k vs) (kk:∀ h',ay (l.set j (blk b T (pre++((xs.set i y).flatMap enc++rest)))) h'->K h'):st (b,off) vs K h:=by
 have hi:=(List.getElem?_eq_some_iff.1 hx).1;have hfl:=dG he xs;have hm:(i + 1) * m <= xs.length * m:=mul_le_mul_right m hi;rw [succ_mul] at hm;refine vv s0 hj (by simp [hoff,hfl]; omega) fun h' s'=>kk h' ?_;have ew:wr (pre++(xs.flatMap enc++rest)) off vs = pre++((xs.set i y).flatMap enc++rest):=by
  rw [hoff,add_assoc,rg,wr_left _ _ _ _ (by rw [hfl]; omega),flat_wr he xs i k x y vs hx hlen hy]
 rw [ew] at s';exact s'
end
section
variable {P:Program} {l:List As} {h:Hp}
theorem hp_isAgg_ag {T n:Nat} (t:Ag P T n) {K:Bool->Hp->Prop} (k:K true h):hp P (isAgg T) K h:=by
 obtain ⟨D,h1,h2⟩:=t.und;unfold isAgg;refine cx (dD h1 ?_);cases D <;> first | exact k | cases h2
theorem tY {kd:IntKind} {n:Int} {K:IntKind × Int->Hp->Prop} (k:K (kd,n) h):hp P (asIntOf (.int kd n)) K h:=k
theorem loadAt_v {τ:Type} {T n b off:Nat} {cs:List Value} {enc:τ->Value} {r:τ} {K:τ->Hp->Prop} (t:Ag P T n) (hc:rX h (b,off) cs) (hn:cs.length = n) (hr:enc r = .agg cs.toArray) (k:K r h):hpv P (Instr.loadAt T (.pointer (some ⟨b,off,none⟩))) enc K h:=by
 refine ⟨?_⟩;obtain ⟨inf,h1,h2⟩:=t.inf;show hp P (loadVar T ⟨b,off,none⟩) _ h;unfold loadVar;refine cx (hp_isAgg_ag t ?_);refine hp_yes rfl ?_;refine cx (oL h1 ?_);rw [h2];refine cx (hp_loadCells hc hn ?_);exact ⟨r,hr.symm,k⟩
theorem index_v {τ:Type} {S T len m i:Nat} {enc:τ->List Value} {val:τ->Value} {xs:List τ} {x:τ} {K:τ->Hp->Prop} (hS:P.underlying S = some (.array len T)) (t:Ag P T m) (he:∀ x,(enc x).length = m) (hv:∀ x,val x = .agg (enc x).toArray) (hl:xs.length = len) (hx:xs[i]? = some x) (k:K x h) :
  hpv P (Instr.index S (.agg (xs.flatMap enc).toArray) (.int .i64 i)) val K h:=by
 refine ⟨?_⟩;have hi:=(List.getElem?_eq_some_iff.1 hx).1;obtain ⟨inf,h1,h2⟩:=t.inf;unfold Instr.index;refine cx (tY ?_);refine cx (dD hS ?_);refine hp_yes ⟨by omega,by omega⟩ ?_;refine cx (oL h1 ?_);unfold part;refine cx (hp_isAgg_ag t ?_);refine cx (oL h1 ?_);refine ⟨x,?_,k⟩;rw [hv,h2];have:(xs.flatMap enc).toArray.extract ((i:Int).toNat * m) ((i:Int).toNat * m + m) = (enc x).toArray:=by
  apply ext';rw [Array.toList_extract];simp only [Int.toNat_natCast,List.extract];rw [Nat.add_sub_cancel_left];apply ext_getElem?;intro n;rw [List.getElem?_take,List.getElem?_drop];by_cases hn:n < m
  ·rw [if_pos hn];have hlt:n < (enc x).length:=by rw [he]; exact hn
   rw [uc he xs i n x _ hx (get_nat' hlt)];exact (get_nat' hlt).symm
  ·rw [if_neg hn];exact (List.getElem?_eq_none (by rw [he]; omega)).symm
 rw [this]
end
theorem sliceFrom_v {τ:Type} {P:Program} {l:List As} {h:Hp} {S T m bys i:Nat} {z:List Value} {enc:τ->List Value} {R:Sl->Value} {s:Sl} {xs:List τ} {n:Nat} {K:Sl->Hp->Prop} (E:El P S T m bys z) (he:∀ x,(enc x).length = m) (hR:R = sv) (st:ay l h) (hi:l[i]? = some (vec T m enc s xs)) (hn:n <= xs.length)
  (k:∀ v,ay (l.set i (vec T m enc v (xs.drop n))) h->K v h):hpv P (Instr.sliceAt S (sv s) (some (.int .i64 n)) none none) R K h:=by
 subst hR;refine ⟨?_⟩;have hilt:=(List.getElem?_eq_some_iff.1 hi).1;obtain ⟨g1,g2,d,rfl,⟨e1,e2,e3⟩,s'⟩:=fN hi st;obtain ⟨inf,hinf,h1,h2,h3⟩:=E.inf;unfold Instr.sliceAt;refine cx (dD E.sl ?_);show hp P (Instr.slice S (sv s) _ _ _) _ _;unfold Instr.slice;refine cx (dD E.sl ?_);simp only [sv];refine cx ?_;unfold Instr.sliceBounds;refine cx ?_;refine cx ?_;refine cx ?_;unfold Instr.sliceBound;refine cx (tY ?_);refine hp_yes ⟨by omega,by omega⟩ ?_;refine cx (oL hinf ?_);rw [h1];rcases e3 with h5 | ⟨b,pre,rest,U,fr,h4,h5,hg,h6⟩
 ·have hn0:n = 0:=by omega
  subst hn0;refine ⟨s,?_,k s ?_⟩
  ·simp [sv,h5]
  ·exact eB hilt ⟨g1,g2,d,rfl,⟨by simpa using e1,e2,.inl h5⟩,s'⟩
 ·by_cases hc:s.cap = n
  ·have hx:xs.drop n = []:=by apply List.drop_eq_nil_of_le; omega
   refine ⟨⟨s.a,s.len - n,s.cap - n,none⟩,?_,k _ (eB hilt ⟨g1,g2,d,rfl,⟨?_,by show s.len - n <= s.cap - n; omega,.inl (by show s.cap - n = 0; omega)⟩,s'⟩)⟩
   ·rw [if_pos (by simpa using hc)]; simp [sv]
   ·show s.len - n = _; rw [hx]; simp; omega
  ·refine ⟨⟨some (b,pre.length + n * m),s.len - n,s.cap - n,s.g.map fun _=>(pre++(xs.take n).flatMap enc,rest,U,fr)⟩,?_,k _ (eB hilt ⟨g1,g2,d,rfl,⟨?_,by show s.len - n <= s.cap - n; omega,.inr ⟨b,pre++(xs.take n).flatMap enc,rest,U,fr,?_,?_,?_,?_⟩⟩,s'⟩)⟩
   ·rw [if_neg (by simpa using hc)]; simp [sv,h4,pa,add_plain]
   ·show s.len - n = _; simp; omega
   ·show some (b,pre.length + n * m) = _;rw [List.length_append,dG he]; simp; rw [Nat.min_eq_left hn]
   ·show (s.cap - n) * m <= (s.len - n) * m + rest.length;rw [Nat.sub_mul,Nat.sub_mul];have:n * m <= s.len * m:=mul_le_mul_right m (by omega);omega
   ·have hpl:(pre++(xs.take n).flatMap enc).length = pre.length + n * m:=by rw [List.length_append,dG he]; simp; rw [Nat.min_eq_left hn]
    unfold gh at hg ⊢;cases hsg:s.g with
    | none=>rw [hsg] at hg; exact hg
    | some x =>
     rw [hsg] at hg;refine ⟨rfl,fun j j1 j2=>hg.2 j (by rw [hpl] at j1; omega) ?_⟩;rw [hpl] at j2;have j2':j < pre.length + n * m + (s.cap - n) * m:=j2;have hnc:n <= s.cap:=by omega
     have:n * m + (s.cap - n) * m = s.cap * m:=by rw [← add_mul]; congr 1; omega
     omega
   ·have:pre++(xs.take n).flatMap enc++((xs.drop n).flatMap enc++rest) = pre++(xs.flatMap enc++rest):=by
     rw [List.append_assoc,← List.append_assoc ((xs.take n).flatMap enc),← List.flatMap_append,List.take_append_drop]
    rw [this]; exact h6
theorem kZ {τ:Type} {P:Program} {l:List As} {h:Hp} {S T m bys i:Nat} {z:List Value} {enc:τ->List Value} {val:τ->Value} {R R':Sl->Value} {s:Sl} {xs:List τ} {x:τ} {K:Sl->Hp->Prop} {Q:Nat} (E:El P S T m bys z) (he:∀ x,(enc x).length = m) (ho:∀ x,dS (enc x) = true) (hv:∀ x,(val x).cells.toList = enc x)
  (hm:m <= 2 ^ 24) (hR:R = sv) (hR':R' = sv) (st:ay l h) (hi:l[i]? = some (vec T m enc s xs)) (hb:(2 * (xs.length + 1) + 512) * bys <= 2 ^ 48) (hb2:xs.length < 2 ^ 60)
  (k:∀ v h',ay (l.set i (vec T m enc v (xs++[x]))) h'->K v h'):hpv P (Instr.buildSlice S 1 #[(0,val x)]) R (fun y=>hpv P (Builtin.append_ #[S,S] Q #[sv s,sv y]) R' K) h:=by
 subst hR; subst hR';refine fy [x] (val:=val) (enc:=enc) E he hv st rfl rfl (by simpa using hm) fun y h' s1=>?_;refine rK (i:=i + 1) (j:=0) (enc:=enc) (ys:=[x]) E E.sl he ho s1 (by simpa using hi) rfl (by omega) (by simpa using hb) (by simp; omega) fun v h2 s2=>?_;exact k v h2 (ce (l:=[vec T m enc y [x]]) (by simpa using s2))
theorem c1 {c d:List Value} {u:Value} {k:Nat} (h1:d = [u]) (h2:c[k]? = some u):∀ (n:Nat) (v:Value),d[n]? = some v->c[k + n]? = some v:=by
 intro n v hv;subst h1;cases n with
 | zero=>simp at hv; subst hv; exact h2
 | succ n=>simp at hv
theorem aB {α:Type} {xs:List α} {i:Nat} (h:i < xs.length):xs[i]? = some xs[i]:=List.getElem?_eq_some_iff.2 ⟨h,rfl⟩
theorem cf (k:IntKind) (x:Int):(cI k x).length = 1:=rfl
end Mb
end
section
open Go
namespace Mb
structure Mp (P:Program) (S K E:TypeId) (z:Value):Prop where
 mp:P.underlying S = some (.map K E)
 key:∃ kd,P.underlying K = some (.int kd)
 inf:∃ i,P.info? E = some i/\i.zero = some z
section
variable {τ:Type}
def fi (x:Int):List (Int × τ)->Nat->Option (Nat × τ)
 | [],_=>none
 | p::m,i=>if x = p.1 then some (i,p.2) else fi x m (i + 1)
def ents (val:τ->Value) (es:List MapEntry) (m:List (Int × τ)):Prop:=es.map (fun e=>(e.key,e.val)) = m.map (fun p=>(Value.int .i64 p.1,val p.2))
def mapA (b:Nat) (val:τ->Value) (f:Int->Option τ):As:=fun h=>∃ (es:List MapEntry) (m:List (Int × τ)) (clock:Nat),h b = some (.map es.toArray clock)/\ents val es m/\∀ x,(fi x m 0).map (·.2) = f x
theorem wO (x:Int):∀ (m:List (Int × τ)) (i:Nat),fi x m i = (fi x m 0).map (fun r=>(r.1 + i,r.2))
 | [],_=>rfl
 | p::m,i=>by
  unfold fi;split
  ·simp
  ·rw [wO x m (i + 1),wO x m (0 + 1)];cases fi x m 0 with
   | none=>rfl
   | some r=>simp; omega
theorem fi_v (x:Int) (m:List (Int × τ)) (i:Nat):(fi x m i).map (·.2) = (fi x m 0).map (·.2):=by
 rw [wO x m i]; cases fi x m 0 <;> rfl
theorem find_now {val:τ->Value} {kd:IntKind} (x:Int):∀ {es:List MapEntry} {m:List (Int × τ)} (i:Nat),ents val es m->Instr.findNow (.int kd) (.int .i64 x) es i = some ((fi x m i).map fun r=>(r.1,val r.2))
 | [],[],_,_=>rfl
 | [],_::_,_,h=>by simp [ents] at h
 | _::_,[],_,h=>by simp [ents] at h
 | e::es,p::m,i,h=>by
  simp only [ents,List.map_cons,List.cons.injEq,Prod.mk.injEq] at h;obtain ⟨⟨h1,h2⟩,h3⟩:=h;unfold Instr.findNow fi;rw [h1,h2];by_cases hx:x = p.1
  ·subst hx; simp [Instr.sameNow]
  ·have:(x == p.1) = false:=by simpa using hx
   simp only [Instr.sameNow,this,if_true,if_neg hx];exact find_now x (i + 1) h3
theorem fi_get {x:Int} {v:τ} {i:Nat}:∀ {m:List (Int × τ)},fi x m 0 = some (i,v)->m[i]? = some (x,v)
 | [],h=>by cases h
 | p::m,h=>by
  unfold fi at h;split at h
  ·rename_i hx;cases h; subst hx; rfl
  ·rw [wO] at h;cases hm:fi x m 0 with
   | none=>rw [hm] at h; cases h
   | some r =>
    rw [hm] at h;simp only [map_some,Option.some.injEq,Prod.mk.injEq] at h;obtain ⟨h1,h2⟩:=h;subst h2; subst h1;simp only [List.getElem?_cons_succ];exact fi_get (m:=m) (by rw [hm])
theorem fi_set {x y:Int} {v w:τ} {i:Nat}:∀ {m:List (Int × τ)},fi x m 0 = some (i,v)->(fi y (m.set i (x,w)) 0).map (·.2) = if y = x then some w else (fi y m 0).map (·.2)
 | [],h=>by cases h
 | p::m,h=>by
  unfold fi at h;split at h
  ·rename_i hx;cases h; subst hx;simp only [List.set_cons_zero,fi];by_cases hy:y = p.1
   ·simp [hy]
   ·simp [hy]
  ·rename_i hx;rw [wO] at h;cases hm:fi x m 0 with
   | none=>rw [hm] at h; cases h
   | some r =>
    rw [hm] at h;simp only [map_some,Option.some.injEq,Prod.mk.injEq] at h;obtain ⟨h1,h2⟩:=h;subst h2; subst h1;have ih:=fi_set (x:=x) (y:=y) (v:=r.2) (w:=w) (i:=r.1) (m:=m) (by rw [hm]);simp only [List.set_cons_succ,fi];by_cases hy:y = p.1
    ·have:y ≠ x:=fun e=>hx (e.symm.trans hy);simp [hy];intro e; exact absurd e.symm hx
    ·rw [if_neg hy,if_neg hy,fi_v y _ (0 + 1),fi_v y m (0 + 1)];exact ih
theorem fi_push {x y:Int} {w:τ}:∀ {m:List (Int × τ)},fi x m 0 = none->(fi y (m++[(x,w)]) 0).map (·.2) = if y = x then some w else (fi y m 0).map (·.2)
 | [],_=>by
  simp only [List.nil_append,fi];by_cases hy:y = x <;> simp [hy]
 | p::m,h=>by
  unfold fi at h;split at h
  ·cases h
  ·rename_i hx;rw [wO] at h;have hm:fi x m 0 = none:=by
    cases hm:fi x m 0 with
    | none=>rfl
    | some r=>rw [hm] at h; cases h
   have ih:=fi_push (y:=y) (w:=w) hm;simp only [List.cons_append,fi];by_cases hy:y = p.1
   ·have:¬ y = x:=fun e=>hx (e.symm.trans hy);simp [hy];intro e; exact absurd e.symm hx
   ·rw [if_neg hy,if_neg hy,fi_v y _ (0 + 1),fi_v y m (0 + 1)];exact ih
theorem ents_set {val:τ->Value} {x:Int} {w:τ} {i:Nat} {es:List MapEntry} {m:List (Int × τ)} (h:ents val es m) (g:MapEntry->MapEntry) (hg:∀ e,es[i]? = some e->(g e).key = .int .i64 x/\(g e).val = val w):ents val (es.toArray.modify i g).toList (m.set i (x,w)):=by
 unfold ents at h ⊢;apply ext_getElem?;intro j;have hj:(es.map (fun e=>(e.key,e.val)))[j]? = (m.map (fun p=>(Value.int .i64 p.1,val p.2)))[j]?:=by rw [h]
 simp only [List.getElem?_map] at hj ⊢;rw [Array.getElem?_toList,Array.getElem?_modify,List.getElem?_set,getElem?_toArray];by_cases hij:i = j
 ·subst hij;rw [if_pos rfl];cases he:es[i]? with
  | none =>
   rw [he] at hj;have:m[i]? = none:=by cases hm:m[i]? with
    | none=>rfl
    | some p=>rw [hm] at hj; cases hj
   have hlt:¬ i < m.length:=by intro hlt; rw [List.getElem?_eq_getElem hlt] at this; cases this
   simp [hlt]
  | some e =>
   rw [he] at hj;have hlt:i < m.length:=by
    cases hm:m[i]? with
    | none=>rw [hm] at hj; cases hj
    | some p=>exact (List.getElem?_eq_some_iff.1 hm).1
   obtain ⟨g1,g2⟩:=hg e he;simp [hlt,g1,g2]
 ·rw [if_neg hij,if_neg hij]; exact hj
theorem ents_push {val:τ->Value} {x:Int} {w:τ} {es:List MapEntry} {m:List (Int × τ)} {c:Nat} (h:ents val es m):ents val (es.toArray.push { key:=.int .i64 x,val:=val w,born:=c }).toList (m++[(x,w)]):=by
 unfold ents at h ⊢;simp [h]
end
section
variable {P:Program} {l:List As} {h:Hp} {τ:Type} {S K E:TypeId} {z:Value} {val:τ->Value}
theorem hp_checkKey {kd k:IntKind} {b:Bool} {x:Int} {Q:Unit->Hp->Prop} (e:P.underlying K = some (.int kd)) (q:Q () h):hp P (Instr.checkKey b 10000 K (.int k x)) Q h:=by
 unfold Instr.checkKey;refine cx (dD e ?_);exact q
theorem hp_findKey {kd:IntKind} {x:Int} {es:List MapEntry} {m:List (Int × τ)} {Q:Option (Nat × Value)->Hp->Prop} (e:P.underlying K = some (.int kd)) (he:ents val es m) (q:Q ((fi x m 0).map fun r=>(r.1,val r.2)) h):hp P (Instr.findKey K (.int .i64 x) es) Q h:=by
 unfold Instr.findKey;refine cx (dD e ?_);rw [find_now x 0 he];exact q
theorem hp_getObj {b:Nat} {o:Obj} {Q:Obj->Hp->Prop} (e:h b = some o) (hc:xT o = false) (q:Q o h):hp P (getObj b) Q h:=⟨o,e,hc,q⟩
theorem makeMap_m {R:Option Nat->Value} {Q:Option Nat->Hp->Prop} (hR:R = fun r=>.map r) (st:ay l h) (k:∀ b h',ay (mapA b val (fun _=>none)::l) h'->Q (some b) h'):hpv P (Instr.makeMap S none) R Q h:=by
 subst hR;refine ⟨?_⟩;unfold Instr.makeMap;refine cx ?_;refine ⟨rfl,fun b hb=>⟨some b,rfl,k b _ ?_⟩⟩;obtain ⟨h1,h2,d,e,a,s⟩:=new_s (o:=.map #[] 0) st hb;exact ⟨h1,h2,d,e,⟨[],[],0,a,rfl,fun x=>rfl⟩,s⟩
theorem lookup_m {σ:Type} {j b:Nat} {f:Int->Option τ} {x:Int} {ok:Bool} {R:σ->Value} {Q:σ->Hp->Prop} (M:Mp P S K E z) (st:ay l h) (hj:l[j]? = some (mapA b val f)) (r:σ) (hr:(if ok then .tuple #[((f x).map val).getD z,.bool (f x).isSome] else ((f x).map val).getD z) = R r) (q:Q r h):hpv P (Instr.lookup S (.map (some b)) (.int .i64 x) ok) R Q h:=by
 refine ⟨?_⟩;obtain ⟨h1,⟨es,m,clock,a,he,hf⟩,sub⟩:=dZ hj st;obtain ⟨kd,hk⟩:=M.key;obtain ⟨i,hi,hz⟩:=M.inf;unfold Instr.lookup;refine cx (dD M.mp ?_);refine cx (hp_getObj (sub _ _ a) rfl ?_);refine cx ?_;rw [hp_pure];refine cx (hp_checkKey hk ?_);refine cx (hp_findKey (val:=val) hk he ?_);have hfx:=hf x;cases hm:fi x m 0 with
 | none =>
  rw [hm] at hfx;rw [← hfx] at hr;refine cx (sX hi hz ?_);exact ⟨r,hr,q⟩
 | some p =>
  rw [hm] at hfx;rw [← hfx] at hr;refine cx ?_;exact ⟨r,hr,q⟩
theorem update_m {j b:Nat} {f:Int->Option τ} {x:Int} {w:τ} {v:Value} {Q:Hp->Prop} (M:Mp P S K E z) (st:ay l h) (hj:l[j]? = some (mapA b val f)) (hv:v = val w) (k:∀ h',ay (l.set j (mapA b val (fun y=>if y = x then some w else f y))) h'->Q h'):hpu P (Instr.mapUpdate S (.map (some b)) (.int .i64 x) v) Q h:=by
 subst hv;refine ⟨?_⟩;obtain ⟨h1,h2,d,rfl,⟨es,m,clock,a,he,hf⟩,s'⟩:=fN hj st;have hjl:=(List.getElem?_eq_some_iff.1 hj).1;obtain ⟨kd,hk⟩:=M.key;unfold Instr.mapUpdate;refine cx (dD M.mp ?_);refine cx (hp_getObj (un_left a) rfl ?_);refine cx (hp_checkKey hk ?_);refine cx (hp_findKey (val:=val) hk he ?_);cases hm:fi x m 0 with
 | none =>
  refine ⟨rfl,⟨_,un_left a,rfl⟩,?_⟩;obtain ⟨d',e'⟩:=set_dj (o':=.map (es.toArray.push { key:=.int .i64 x,val:=val w,born:=clock }) (clock + 1)) d a;rw [e'];refine k _ (eB hjl ⟨_,h2,d',rfl,⟨_,m++[(x,w)],clock + 1,?_,ents_push (c:=clock) he,fun y=>?_⟩,s'⟩)
  ·exact kg _ _ _
  ·rw [fi_push hm,hf]
 | some p =>
  obtain ⟨i,u⟩:=p;have hg:=fi_get hm;have hge:∃ e,es[i]? = some e/\e.key = .int .i64 x:=by
   have hi:(es.map (fun e=>(e.key,e.val)))[i]? = (m.map (fun p=>(Value.int .i64 p.1,val p.2)))[i]?:=by rw [he]
   simp only [List.getElem?_map,hg,map_some] at hi;cases hs:es[i]? with
   | none=>rw [hs] at hi; cases hi
   | some e=>rw [hs] at hi; simp at hi; exact ⟨e,rfl,hi.1⟩
  obtain ⟨e,hge,hkey⟩:=hge;refine cx ?_;have hks:Instr.keyThatStays (((es.toArray[i]?).map (·.key)).getD (.int .i64 x)) (.int .i64 x) = pure (.int .i64 x):=by
   unfold Instr.keyThatStays;have:((es.toArray[i]?).map (·.key)).getD (.int .i64 x) = .int .i64 x:=by simp [hge,hkey]
   rw [this];have sb:Instr.sameBits 10000 (.int .i64 x) (.int .i64 x) = true:=by unfold Instr.sameBits; simp
   rw [if_pos sb]
  simp only [map_some];rw [hks,hp_pure];refine ⟨rfl,⟨_,un_left a,rfl⟩,?_⟩;obtain ⟨d',e'⟩:=set_dj (o':=.map (es.toArray.modify i fun e=>{ e with key:=.int .i64 x,val:=val w }) clock) d a;rw [e'];refine k _ (eB hjl ⟨_,h2,d',rfl,⟨_,m.set i (x,w),clock,?_,ents_set (x:=x) (w:=w) he (fun e=>{ e with key:=.int .i64 x,val:=val w }) (fun e' _=>⟨rfl,rfl⟩),fun y=>?_⟩,s'⟩)
  ·exact kg _ _ _
  ·rw [fi_set hm,hf]
end
end Mb
end
section
open Go Mb
structure al where
 e0:Int
 e1:Int
 e2:Int
 e3:Int
 e4:Int
def al.C (x:al):List Value:=[.int .u64 x.e0,.int .u64 x.e1,.int .u64 x.e2,.int .u64 x.e3,.int .u64 x.e4]
structure ac where
 fSa:Int
 fVal:Int
def ac.C (x:ac):List Value:=[.int .i64 x.fSa,.int .u64 x.fVal]
structure ao where
 fCa:Int
 fVa:Int
 fFa:Int
 fBa:Int
def ao.C (x:ao):List Value:=[.int .i64 x.fCa,.int .i64 x.fVa,.int .i64 x.fFa,.int .i64 x.fBa]
structure aq where
 fJa:Int
 fCa:Int
 fHa:al
 fLa:Int
 fDa:Int
 fGa:Int
 fWa:ac
 fPa:ao
def aq.C (x:aq):List Value:=[.int .i64 x.fJa,.int .i64 x.fCa,.int .u64 x.fHa.e0,.int .u64 x.fHa.e1,.int .u64 x.fHa.e2,.int .u64 x.fHa.e3,.int .u64 x.fHa.e4,.int .i64 x.fLa,.int .i64 x.fDa,.int .i64 x.fGa,.int .i64 x.fWa.fSa,.int .u64 x.fWa.fVal,.int .i64 x.fPa.fCa,.int .i64 x.fPa.fVa,.int .i64 x.fPa.fFa,.int .i64 x.fPa.fBa]
structure aK where
 fOa:Int
 fIa:Int
 fYa:Int
def aK.C (x:aK):List Value:=[.int .i64 x.fOa,.int .i64 x.fIa,.int .i64 x.fYa]
structure mz where
 fat:Int
 fNa:Int
 fc:al
 fZa:Bool
 fCb:Int
def mz.C (x:mz):List Value:=[.int .i64 x.fat,.int .i64 x.fNa,.int .u64 x.fc.e0,.int .u64 x.fc.e1,.int .u64 x.fc.e2,.int .u64 x.fc.e3,.int .u64 x.fc.e4,.bool x.fZa,.int .u64 x.fCb]
structure cq where
 fl:ao
 fwhen:Int
def cq.C (x:cq):List Value:=[.int .i64 x.fl.fCa,.int .i64 x.fl.fVa,.int .i64 x.fl.fFa,.int .i64 x.fl.fBa,.int .i64 x.fwhen]
structure jy where
 e0:cq
 e1:cq
def jy.C (x:jy):List Value:=[.int .i64 x.e0.fl.fCa,.int .i64 x.e0.fl.fVa,.int .i64 x.e0.fl.fFa,.int .i64 x.e0.fl.fBa,.int .i64 x.e0.fwhen,.int .i64 x.e1.fl.fCa,.int .i64 x.e1.fl.fVa,.int .i64 x.e1.fl.fFa,.int .i64 x.e1.fl.fBa,.int .i64 x.e1.fwhen]
structure an where
 fFa:Int
 fEa:Int
 fBa:Int
def an.C (x:an):List Value:=[.int .i64 x.fFa,.int .i64 x.fEa,.int .i64 x.fBa]
structure aE where
 fFa:Int
 fBa:Int
 fCa:Int
 fEa:Int
def aE.C (x:aE):List Value:=[.int .i64 x.fFa,.int .i64 x.fBa,.int .i64 x.fCa,.int .i64 x.fEa]
structure aO where
 fCa:Int
 fEa:Int
def aO.C (x:aO):List Value:=[.int .i64 x.fCa,.int .i64 x.fEa]
structure tm where
 fl:Sl
def tm.C (x:tm):List Value:=[sv x.fl]
structure oQ where
 frefs:Sl
def oQ.C (x:oQ):List Value:=[sv x.frefs]
structure oT where
 fl:Sl
def oT.C (x:oT):List Value:=[sv x.fl]
structure gI where
 fs:aK
 fm:Ptr
 ftables:Sl
 fpool:Ptr
 fcaps:Ptr
def gI.C (x:gI):List Value:=[.int .i64 x.fs.fOa,.int .i64 x.fs.fIa,.int .i64 x.fs.fYa,pv x.fm,sv x.ftables,pv x.fpool,pv x.fcaps]
structure lc where
 fes:Sl
 fs:aK
 fk:Ptr
def lc.C (x:lc):List Value:=[sv x.fes,.int .i64 x.fs.fOa,.int .i64 x.fs.fIa,.int .i64 x.fs.fYa,pv x.fk]
structure oR where
 fl:Sl
def oR.C (x:oR):List Value:=[sv x.fl]
structure ki where
 fowner:Sl
 fheard:Sl
def ki.C (x:ki):List Value:=[sv x.fowner,sv x.fheard]
structure fY where
 fp:Ptr
 fenvs:Int
 ftlbs:Sl
 fboxes:Ptr
 fepochs:Ptr
 fcalls:Sl
 fevents:Sl
 fnow:Int
def fY.C (x:fY):List Value:=[pv x.fp,.int .i64 x.fenvs,sv x.ftlbs,pv x.fboxes,pv x.fepochs,sv x.fcalls,sv x.fevents,.int .i64 x.fnow]
structure eH where
 fKind:Int
 fJa:Int
 fCa:Int
 fHa:al
 fSet:Int
 fWay:Int
def eH.C (x:eH):List Value:=[.int .i64 x.fKind,.int .i64 x.fJa,.int .i64 x.fCa,.int .u64 x.fHa.e0,.int .u64 x.fHa.e1,.int .u64 x.fHa.e2,.int .u64 x.fHa.e3,.int .u64 x.fHa.e4,.int .i64 x.fSet,.int .i64 x.fWay]
structure ci where
 fUa:Int
 fCa:Int
 fHa:al
 fSa:Value
def ci.C (x:ci):List Value:=[.int .i64 x.fUa,.int .i64 x.fCa,.int .u64 x.fHa.e0,.int .u64 x.fHa.e1,.int .u64 x.fHa.e2,.int .u64 x.fHa.e3,.int .u64 x.fHa.e4,x.fSa]
structure aQ where
 ftyp_:Ptr
 fptr:Ptr
 fflag:Int
def aQ.C (x:aQ):List Value:=[pv x.ftyp_,pv x.fptr,.int .u64 x.fflag]
structure oS where
 fv:Int
 fn:Int
def oS.C (x:oS):List Value:=[.int .u64 x.fv,.int .i64 x.fn]
structure la where
 fdrawn:Ptr
 fpassed:Ptr
def la.C (x:la):List Value:=[pv x.fdrawn,pv x.fpassed]
def aD (r:Bool):Value:=(.bool r)
theorem gH:Fld prog 40 0 0:=z_k 1 underlying40
theorem aR:Sc prog 3:=⟨⟨_,underlying3,rfl⟩,bO (by kernel_rfl)⟩
theorem nH:Fld prog 24 0 0:=z_k 1 underlying24
theorem ms:Fld prog 40 1 1:=z_k 1 underlying40
theorem mu:Fld prog 24 1 1:=z_k 1 underlying24
theorem ee:Fld prog 40 3 7:=z_k 1 underlying40
theorem cR:Fld prog 40 4 8:=z_k 1 underlying40
theorem cM:Fld prog 40 5 9:=z_k 1 underlying40
abbrev n_hist_one:Nat:=32
abbrev jP:Nat:=64
def R_map_int_bool (r:(Option Nat)):Value:=(.map r)
abbrev iu:Nat:=65
def R_map_int_int (r:(Option Nat)):Value:=(.map r)
theorem cQ:Slc prog 22 40 16:=⟨underlying22,bO (by kernel_rfl)⟩
theorem zero_40:∃ i,prog.info? 40 = some i/\i.zero = some (.agg (aq.C (⟨0,0,(⟨0,0,0,0,0⟩:al),0,0,0,(⟨0,0⟩:ac),(⟨0,0,0,0⟩:ao)⟩:aq)).toArray):=lC (by kernel_rfl)
theorem pV:Ag prog 40 16:=⟨⟨_,underlying40,rfl⟩,bO (by kernel_rfl)⟩
theorem pW:Ag prog 24 3:=⟨⟨_,underlying24,rfl⟩,bO (by kernel_rfl)⟩
def bQ (r:Int × Bool):Value:=.tuple #[(.int .i64 r.1),(.bool r.2)]
theorem ch:prog.follows .mixedOrders = true:=by kernel_rfl
theorem en_32:aN prog 32:=z_j func32
theorem inf_40:∃ i,prog.info? 40 = some i/\i.size = 16:=bO (by kernel_rfl)
abbrev tU:Nat:=6
def aU (r:Sl):Value:=(sv r)
abbrev az:Nat:=27
abbrev nE:Nat:=33
abbrev nP:Nat:=36
def R_ (_:Unit):Value:=.tuple #[]
theorem dz:Slc prog 27 3 1:=⟨underlying27,bO (by kernel_rfl)⟩
def eN (r:Int):Value:=(.int .i64 r)
theorem mo:∃ i,prog.info? 3 = some i/\i.size = 1:=bO (by kernel_rfl)
abbrev bT:Nat:=109
abbrev dr:Nat:=176
theorem en_176:aN prog 176:=z_j func176
abbrev dL:Nat:=151
abbrev co:Nat:=110
theorem en_110:aN prog 110:=z_j func110
theorem en_151:aN prog 151:=z_j func151
theorem en_109:aN prog 109:=z_j func109
abbrev lW:Nat:=63
theorem en_63:aN prog 63:=z_j func63
abbrev eO:Nat:=37
abbrev n_cmp_isNaN_int:Nat:=64
theorem en_64:aN prog 64:=z_j func64
abbrev vm:Nat:=39
theorem en_39:aN prog 39:=z_j func39
theorem sc_22:Sc prog 22:=⟨⟨_,underlying22,rfl⟩,bO (by kernel_rfl)⟩
abbrev rV:Nat:=38
theorem en_37:aN prog 37:=z_j func37
theorem en_33:aN prog 33:=z_j func33
abbrev dU:Nat:=22
abbrev kF:Nat:=13
theorem ua:Fld prog 78 5 5:=z_k 1 underlying78
theorem sc_76:Sc prog 76:=⟨⟨_,underlying76,rfl⟩,bO (by kernel_rfl)⟩
abbrev jW:Nat:=40
theorem slc_76:Slc prog 76 79 1:=⟨underlying76,bO (by kernel_rfl)⟩
theorem sc_79:Sc prog 79:=⟨⟨_,underlying79,rfl⟩,bO (by kernel_rfl)⟩
theorem en_40:aN prog 40:=z_j func40
abbrev gm:Nat:=20
theorem fld_78_1:Fld prog 78 1 1:=z_k 1 underlying78
theorem pR:Fld prog 78 7 7:=z_k 1 underlying78
theorem fS:Ag prog 33 5:=⟨⟨_,underlying33,rfl⟩,bO (by kernel_rfl)⟩
theorem fld_78_6:Fld prog 78 6 6:=z_k 1 underlying78
theorem build_40_0_1_2_3 (y0:Int) (y1:Int) (y2:al) (y3:Int):∀ w,(Instr.build 40 #[(0,(.int .i64 y0)),(1,(.int .i64 y1)),(2,(.agg (al.C y2).toArray)),(3,(.int .i64 y3))]).run prog w = .ok (.agg (aq.C (⟨y0,y1,y2,y3,0,0,(⟨0,0⟩:ac),(⟨0,0,0,0⟩:ao)⟩:aq)).toArray) w:=fun _=>by kernel_rfl
def eV (r:Sl):Value:=(sv r)
theorem build_81_0_1_2 (y0:Int) (y1:Int) (y2:al):∀ w,(Instr.build 81 #[(0,(.int .i64 y0)),(1,(.int .i64 y1)),(2,(.agg (al.C y2).toArray))]).run prog w = .ok (.agg (mz.C (⟨y0,y1,y2,false,0⟩:mz)).toArray) w:=fun _=>by kernel_rfl
theorem inf_79:∃ i,prog.info? 79 = some i/\i.size = 1:=bO (by kernel_rfl)
abbrev da:Nat:=81
theorem inf_22:∃ i,prog.info? 22 = some i/\i.size = 1:=bO (by kernel_rfl)
theorem en_20:aN prog 20:=z_j func20
abbrev pI:Nat:=17
theorem mT:Fld prog 109 0 0:=z_k 1 underlying109
theorem lO:Sc prog 107:=⟨⟨_,underlying107,rfl⟩,bO (by kernel_rfl)⟩
abbrev mf:Nat:=111
theorem mD:Slc prog 107 106 1:=⟨underlying107,bO (by kernel_rfl)⟩
theorem rQ:Sc prog 106:=⟨⟨_,underlying106,rfl⟩,bO (by kernel_rfl)⟩
theorem en_111:aN prog 111:=z_j func111
abbrev lG:Nat:=65
def bP (r:Int × Bool):Value:=.tuple #[(.int .u64 r.1),(.bool r.2)]
theorem sQ:Slc prog 106 31 1:=⟨underlying106,bO (by kernel_rfl)⟩
abbrev bi:Nat:=106
def ck (r:Sl):Value:=(sv r)
theorem inf_106:∃ i,prog.info? 106 = some i/\i.size = 1:=bO (by kernel_rfl)
theorem cC:Sc prog 31:=⟨⟨_,underlying31,rfl⟩,bO (by kernel_rfl)⟩
theorem en_65:aN prog 65:=z_j func65
abbrev mL:Nat:=41
def rL (r:Sl):Value:=(sv r)
theorem fld_153_0:Fld prog 153 0 0:=z_k 40 underlying153
theorem arr_151:Arr prog 151 4 150 10:=⟨underlying151,bO (by kernel_rfl)⟩
abbrev t_2_tlb_line:Nat:=150
def R_tlb_line (r:cq):Value:=(.agg (cq.C r).toArray)
theorem zero_149:∃ i,prog.info? 149 = some i/\i.zero = some (.agg (cq.C (⟨(⟨0,0,0,0⟩:ao),0⟩:cq)).toArray):=lC (by kernel_rfl)
theorem qT:Fld prog 149 0 0:=z_k 4 underlying149
theorem iA:Ag prog 38 4:=⟨⟨_,underlying38,rfl⟩,bO (by kernel_rfl)⟩
abbrev rm:Nat:=110
theorem inf_149:∃ i,prog.info? 149 = some i/\i.size = 5:=bO (by kernel_rfl)
theorem ag_150:Ag prog 150 10:=⟨⟨_,underlying150,rfl⟩,bO (by kernel_rfl)⟩
abbrev rR:Nat:=66
theorem wN:Fld prog 136 0 0:=z_k 3 underlying136
abbrev kE:Nat:=81
abbrev n_table_is:Nat:=118
def cF (r:an × Bool):Value:=.tuple #[(.agg (an.C r.1).toArray),(.bool r.2)]
theorem fo:∃ i,prog.info? 113 = some i/\i.zero = some (.agg (an.C (⟨0,0,0⟩:an)).toArray):=lC (by kernel_rfl)
theorem kY  : ∀ w,(Instr.build 113 #[]).run prog w = .ok (.agg (an.C (⟨0,0,0⟩:an)).toArray) w:=fun _=>by kernel_rfl
theorem eu:Ag prog 113 3:=⟨⟨_,underlying113,rfl⟩,bO (by kernel_rfl)⟩
theorem dp:∃ i,prog.info? 113 = some i/\i.size = 3:=bO (by kernel_rfl)
theorem kX:Fld prog 176 0 0:=z_k 24 underlying176
theorem tc:Arr prog 174 8 113 3:=⟨underlying174,bO (by kernel_rfl)⟩
theorem eC:Fld prog 113 2 2:=z_k 1 underlying113
theorem en_118:aN prog 118:=z_j func118
abbrev fD:Nat:=121
theorem fI:Fld prog 136 2 4:=z_k 1 underlying136
theorem nK:Slc prog 132 121 1:=⟨underlying132,bO (by kernel_rfl)⟩
theorem en_121:aN prog 121:=z_j func121
theorem rP:Sc prog 121:=⟨⟨_,underlying121,rfl⟩,bO (by kernel_rfl)⟩
theorem nc:Sc prog 132:=⟨⟨_,underlying132,rfl⟩,bO (by kernel_rfl)⟩
theorem en_81:aN prog 81:=z_j func81
abbrev gj:Nat:=77
theorem iB:Fld prog 197 0 0:=z_k 1 underlying197
theorem qJ:Sc prog 195:=⟨⟨_,underlying195,rfl⟩,bO (by kernel_rfl)⟩
abbrev iN:Nat:=139
def cZ (r:aE × Bool):Value:=.tuple #[(.agg (aE.C r.1).toArray),(.bool r.2)]
theorem iU:∃ i,prog.info? 51 = some i/\i.zero = some (.agg (aE.C (⟨0,0,0,0⟩:aE)).toArray):=lC (by kernel_rfl)
theorem build_51  : ∀ w,(Instr.build 51 #[]).run prog w = .ok (.agg (aE.C (⟨0,0,0,0⟩:aE)).toArray) w:=fun _=>by kernel_rfl
theorem ag_51:Ag prog 51 4:=⟨⟨_,underlying51,rfl⟩,bO (by kernel_rfl)⟩
theorem gV:∃ i,prog.info? 51 = some i/\i.size = 4:=bO (by kernel_rfl)
theorem pf:Slc prog 195 194 32:=⟨underlying195,bO (by kernel_rfl)⟩
theorem re:Arr prog 194 8 51 4:=⟨underlying194,bO (by kernel_rfl)⟩
theorem ib:Fld prog 51 1 1:=z_k 1 underlying51
theorem en_139:aN prog 139:=z_j func139
abbrev eS:Nat:=91
theorem fU:Fld prog 136 4 6:=z_k 1 underlying136
theorem en_91:aN prog 91:=z_j func91
theorem iI:Sc prog 134:=⟨⟨_,underlying134,rfl⟩,bO (by kernel_rfl)⟩
abbrev iK:Nat:=54
abbrev n_pte_May:Nat:=112
theorem en_112:aN prog 112:=z_j func112
abbrev n_pte_Within:Nat:=68
theorem gF:Fld prog 81 2 2:=z_k 5 underlying81
theorem dw:Arr prog 33 5 31 1:=⟨underlying33,bO (by kernel_rfl)⟩
theorem rE:Fld prog 78 0 0:=z_k 1 underlying78
theorem rF:Fld prog 51 2 2:=z_k 1 underlying51
theorem fld_51_3:Fld prog 51 3 3:=z_k 1 underlying51
theorem en_54:aN prog 54:=z_j func54
theorem wA:Sc prog 72:=⟨⟨_,underlying72,rfl⟩,bO (by kernel_rfl)⟩
abbrev gf:Nat:=51
theorem wJ:Fld prog 81 1 1:=z_k 1 underlying81
abbrev qM:Nat:=128
def wX (r:an):Value:=(.agg (an.C r).toArray)
theorem qU:Fld prog 113 1 1:=z_k 1 underlying113
theorem sH:aN prog 68:=z_j func68
theorem en_128:aN prog 128:=z_j func128
abbrev mN:Nat:=78
theorem en_78:aN prog 78:=z_j func78
theorem fld_81_3:Fld prog 81 3 7:=z_k 1 underlying81
theorem sc_4:Sc prog 4:=⟨⟨_,underlying4,rfl⟩,bO (by kernel_rfl)⟩
theorem en_77:aN prog 77:=z_j func77
abbrev mM:Nat:=67
def kw (r:Ptr):Value:=(pv r)
theorem arr_150:Arr prog 150 2 149 5:=⟨underlying150,bO (by kernel_rfl)⟩
theorem kR:Fld prog 38 0 0:=z_k 1 underlying38
theorem nG:Fld prog 38 1 1:=z_k 1 underlying38
abbrev pE:Nat:=113
def R_api_Line (r:ao):Value:=(.agg (ao.C r).toArray)
theorem lD:∃ i,prog.info? 38 = some i/\i.zero = some (.agg (ao.C (⟨0,0,0,0⟩:ao)).toArray):=lC (by kernel_rfl)
theorem build_38_0 (y0:Int):∀ w,(Instr.build 38 #[(0,(.int .i64 y0))]).run prog w = .ok (.agg (ao.C (⟨y0,0,0,0⟩:ao)).toArray) w:=fun _=>by kernel_rfl
theorem gb:∃ i,prog.info? 38 = some i/\i.size = 4:=bO (by kernel_rfl)
abbrev n_tlb_empty:Nat:=114
theorem en_114:aN prog 114:=z_j func114
theorem en_113:aN prog 113:=z_j func113
abbrev nM:Nat:=69
theorem kP:Fld prog 78 2 2:=z_k 1 underlying78
theorem slc_73:Slc prog 73 99 1:=⟨underlying73,bO (by kernel_rfl)⟩
theorem slc_110:Slc prog 110 38 4:=⟨underlying110,bO (by kernel_rfl)⟩
theorem oP:Fld prog 113 0 0:=z_k 1 underlying113
theorem mt:Fld prog 38 2 2:=z_k 1 underlying38
theorem rG:Fld prog 38 3 3:=z_k 1 underlying38
theorem en_69:aN prog 69:=z_j func69
theorem sc_99:Sc prog 99:=⟨⟨_,underlying99,rfl⟩,bO (by kernel_rfl)⟩
theorem sc_73:Sc prog 73:=⟨⟨_,underlying73,rfl⟩,bO (by kernel_rfl)⟩
theorem en_67:aN prog 67:=z_j func67
theorem en_66:aN prog 66:=z_j func66
abbrev lH:Nat:=42
theorem fld_119_1:Fld prog 119 1 1:=z_k 1 underlying119
abbrev lI:Nat:=70
def ic (r:Int):Value:=(.int .u64 r)
theorem fld_119_0:Fld prog 119 0 0:=z_k 1 underlying119
theorem sc_27:Sc prog 27:=⟨⟨_,underlying27,rfl⟩,bO (by kernel_rfl)⟩
abbrev gn:Nat:=71
theorem inf_31:∃ i,prog.info? 31 = some i/\i.size = 1:=bO (by kernel_rfl)
theorem en_71:aN prog 71:=z_j func71
theorem en_70:aN prog 70:=z_j func70
abbrev kG:Nat:=43
theorem fld_78_3:Fld prog 78 3 3:=z_k 1 underlying78
theorem fld_78_4:Fld prog 78 4 4:=z_k 1 underlying78
theorem en_43:aN prog 43:=z_j func43
theorem sc_75:Sc prog 75:=⟨⟨_,underlying75,rfl⟩,bO (by kernel_rfl)⟩
theorem en_42:aN prog 42:=z_j func42
theorem en_41:aN prog 41:=z_j func41
theorem sc_74:Sc prog 74:=⟨⟨_,underlying74,rfl⟩,bO (by kernel_rfl)⟩
abbrev qO:Nat:=18
abbrev n_word_Kind:Nat:=44
abbrev n_word_User:Nat:=45
abbrev sS:Nat:=115
def al.get (x:al) (i:Int):Int:=match i.toNat with | 0=>x.e0 | 1=>x.e1 | 2=>x.e2 | 3=>x.e3 | 4=>x.e4 | _=>x.e4
theorem at_33 (x:al) (i:Int) (h:0 <= i/\i < 5):(al.C x)[0 + i.toNat * 1]? = some (.int .u64 (al.get x i)):=by
 obtain ⟨n,rfl⟩:=Int.eq_ofNat_of_zero_le h.1;have h2:n < 5:=by omega
 rcases n with _ | (_ | (_ | (_ | (_ | _)))) <;> first | rfl | omega
abbrev nU:Nat:=123
abbrev n_word_Rights:Nat:=152
theorem en_123:aN prog 123:=z_j func123
theorem en_152:aN prog 152:=z_j func152
abbrev n_word_fits:Nat:=116
def bn (r:Int):Value:=(.int .i64 r)
theorem en_116:aN prog 116:=z_j func116
theorem en_115:aN prog 115:=z_j func115
theorem en_44:aN prog 44:=z_j func44
abbrev im:Nat:=72
def iT (r:Ptr):Value:=(pv r)
abbrev kU:Nat:=176
abbrev lV:Nat:=73
def an.eqb (x y:an):Bool:=((x.fFa == y.fFa) && ((x.fEa == y.fEa) && ((x.fBa == y.fBa) && true)))
theorem eqr_113 (n:Nat) (x y:an):EqR prog (n + 2) 113 (.agg (an.C x).toArray) (.agg (an.C y).toArray) (an.eqb x y):=yd underlying113 (by kernel_rfl) (mv (by decide) (iy aR rfl) (iy aR rfl) (jL (n:=n + 0) underlying3) (mv (by decide) (iy aR rfl) (iy aR rfl) (jL (n:=n + 0) underlying3) (mv (by decide) (iy aR rfl) (iy aR rfl) (jL (n:=n + 0) underlying3) eqf_nil)))
theorem eqg_113:prog.eqGuardType prog.depth 113 = false:=by kernel_rfl
abbrev n_pte_Put:Nat:=117
theorem en_117:aN prog 117:=z_j func117
abbrev eR:Nat:=74
def fZ (r:ao × Bool):Value:=.tuple #[(.agg (ao.C r.1).toArray),(.bool r.2)]
theorem my  : ∀ w,(Instr.build 38 #[]).run prog w = .ok (.agg (ao.C (⟨0,0,0,0⟩:ao)).toArray) w:=fun _=>by kernel_rfl
abbrev pF:Nat:=119
abbrev n_pte_Lets:Nat:=120
theorem fld_149_1:Fld prog 149 1 4:=z_k 1 underlying149
abbrev tP:Nat:=153
theorem fld_153_1:Fld prog 153 1 40:=z_k 1 underlying153
theorem build_149_0_1 (y0:ao) (y1:Int):∀ w,(Instr.build 149 #[(0,(.agg (ao.C y0).toArray)),(1,(.int .i64 y1))]).run prog w = .ok (.agg (cq.C (⟨y0,y1⟩:cq)).toArray) w:=fun _=>by kernel_rfl
theorem en_153:aN prog 153:=z_j func153
abbrev pG:Nat:=122
theorem wV (y0:Int) (y1:Int) (y2:Int) (y3:Int):∀ w,(Instr.build 38 #[(0,(.int .i64 y0)),(1,(.int .i64 y1)),(2,(.int .i64 y2)),(3,(.int .i64 y3))]).run prog w = .ok (.agg (ao.C (⟨y0,y1,y2,y3⟩:ao)).toArray) w:=fun _=>by kernel_rfl
theorem en_122:aN prog 122:=z_j func122
theorem en_120:aN prog 120:=z_j func120
theorem en_119:aN prog 119:=z_j func119
abbrev uY:Nat:=75
theorem tj:Fld prog 199 0 0:=z_k 1 underlying199
abbrev wH:Nat:=177
def tn (r:Ptr):Value:=(pv r)
theorem en_177:aN prog 177:=z_j func177
abbrev mK:Nat:=154
theorem en_154:aN prog 154:=z_j func154
abbrev iL:Nat:=124
abbrev fW:Nat:=125
theorem en_125:aN prog 125:=z_j func125
theorem en_124:aN prog 124:=z_j func124
abbrev ra:Nat:=126
abbrev rb:Nat:=127
def bq (r:ac × Bool):Value:=.tuple #[(.agg (ac.C r.1).toArray),(.bool r.2)]
theorem dv:∃ i,prog.info? 36 = some i/\i.zero = some (.agg (ac.C (⟨0,0⟩:ac)).toArray):=lC (by kernel_rfl)
theorem uj  : ∀ w,(Instr.build 36 #[]).run prog w = .ok (.agg (ac.C (⟨0,0⟩:ac)).toArray) w:=fun _=>by kernel_rfl
theorem cJ:Ag prog 36 2:=⟨⟨_,underlying36,rfl⟩,bO (by kernel_rfl)⟩
theorem bR:∃ i,prog.info? 36 = some i/\i.size = 2:=bO (by kernel_rfl)
theorem kJ (y1:Int):∀ w,(Instr.build 36 #[(1,(.int .u64 y1))]).run prog w = .ok (.agg (ac.C (⟨0,y1⟩:ac)).toArray) w:=fun _=>by kernel_rfl
theorem mS:Fld prog 136 1 3:=z_k 1 underlying136
theorem xG:Sc prog 131:=⟨⟨_,underlying131,rfl⟩,bO (by kernel_rfl)⟩
theorem en_126:aN prog 126:=z_j func126
theorem en_127:aN prog 127:=z_j func127
theorem en_45:aN prog 45:=z_j func45
abbrev fE:Nat:=76
def fj (r:ac × ao):Value:=.tuple #[(.agg (ac.C r.1).toArray),(.agg (ao.C r.2).toArray)]
theorem jH (y0:Int):∀ w,(Instr.build 36 #[(0,(.int .i64 y0))]).run prog w = .ok (.agg (ac.C (⟨y0,0⟩:ac)).toArray) w:=fun _=>by kernel_rfl
theorem en_76:aN prog 76:=z_j func76
theorem en_75:aN prog 75:=z_j func75
theorem en_74:aN prog 74:=z_j func74
theorem en_73:aN prog 73:=z_j func73
theorem en_72:aN prog 72:=z_j func72
abbrev nZ:Nat:=46
theorem fld_81_0:Fld prog 81 0 0:=z_k 1 underlying81
theorem kQ:Fld prog 40 6 10:=z_k 2 underlying40
theorem gG:Fld prog 40 7 12:=z_k 4 underlying40
abbrev mO:Nat:=47
abbrev pH:Nat:=48
theorem inf_27:∃ i,prog.info? 27 = some i/\i.size = 1:=bO (by kernel_rfl)
abbrev js:Nat:=49
abbrev tV:Nat:=178
theorem en_178:aN prog 178:=z_j func178
abbrev vj:Nat:=155
abbrev qu:Nat:=156
theorem en_155:aN prog 155:=z_j func155
theorem en_156:aN prog 156:=z_j func156
abbrev fq:Nat:=129
abbrev sT:Nat:=158
abbrev lE:Nat:=3
abbrev vJ:Nat:=157
theorem en_158:aN prog 158:=z_j func158
abbrev dT:Nat:=130
theorem en_130:aN prog 130:=z_j func130
theorem en_129:aN prog 129:=z_j func129
abbrev qL:Nat:=79
theorem en_79:aN prog 79:=z_j func79
abbrev nO:Nat:=50
abbrev jr:Nat:=80
theorem en_80:aN prog 80:=z_j func80
abbrev jK:Nat:=51
abbrev n_plain_fails:Nat:=82
theorem build_51_0_1_2 (y0:Int) (y1:Int) (y2:Int):∀ w,(Instr.build 51 #[(0,(.int .i64 y0)),(1,(.int .i64 y1)),(2,(.int .i64 y2))]).run prog w = .ok (.agg (aE.C (⟨y0,y1,y2,0⟩:aE)).toArray) w:=fun _=>by kernel_rfl
abbrev jY:Nat:=99
abbrev kC:Nat:=159
theorem oN:Fld prog 201 0 0:=z_k 1 underlying201
theorem en_159:aN prog 159:=z_j func159
abbrev jU:Nat:=131
abbrev t_none:Nat:=0
abbrev tR:Nat:=132
theorem oO:Fld prog 136 3 5:=z_k 1 underlying136
theorem en_99:aN prog 99:=z_j func99
theorem en_132:aN prog 132:=z_j func132
theorem en_131:aN prog 131:=z_j func131
theorem sc_133:Sc prog 133:=⟨⟨_,underlying133,rfl⟩,bO (by kernel_rfl)⟩
abbrev lY:Nat:=83
theorem ub:Fld prog 51 0 0:=z_k 1 underlying51
theorem build_51_0_1_2_3 (y0:Int) (y1:Int) (y2:Int) (y3:Int):∀ w,(Instr.build 51 #[(0,(.int .i64 y0)),(1,(.int .i64 y1)),(2,(.int .i64 y2)),(3,(.int .i64 y3))]).run prog w = .ok (.agg (aE.C (⟨y0,y1,y2,y3⟩:aE)).toArray) w:=fun _=>by kernel_rfl
abbrev iO:Nat:=100
abbrev jV:Nat:=160
theorem en_160:aN prog 160:=z_j func160
abbrev mI:Nat:=133
def dc (r:Sl):Value:=(sv r)
abbrev lN:Nat:=194
def R_api_Cap (r:aE):Value:=(.agg (aE.C r).toArray)
theorem vW (y0:Int) (y1:Int):∀ w,(Instr.build 192 #[(0,(.int .i64 y0)),(1,(.int .i64 y1))]).run prog w = .ok (.agg (aO.C (⟨y0,y1⟩:aO)).toArray) w:=fun _=>by kernel_rfl
theorem zero_192:∃ i,prog.info? 192 = some i/\i.zero = some (.agg (aO.C (⟨0,0⟩:aO)).toArray):=lC (by kernel_rfl)
theorem ag_192:Ag prog 192 2:=⟨⟨_,underlying192,rfl⟩,bO (by kernel_rfl)⟩
abbrev iv:Nat:=161
theorem inf_192:∃ i,prog.info? 192 = some i/\i.size = 2:=bO (by kernel_rfl)
abbrev kO:Nat:=145
abbrev mQ:Nat:=161
theorem slc_161:Slc prog 161 192 2:=⟨underlying161,bO (by kernel_rfl)⟩
theorem fld_192_0:Fld prog 192 0 0:=z_k 1 underlying192
theorem fld_192_1:Fld prog 192 1 1:=z_k 1 underlying192
abbrev hY:Nat:=162
abbrev lJ:Nat:=147
def aO.eqb (x y:aO):Bool:=((x.fCa == y.fCa) && ((x.fEa == y.fEa) && true))
theorem eqr_192 (n:Nat) (x y:aO):EqR prog (n + 2) 192 (.agg (aO.C x).toArray) (.agg (aO.C y).toArray) (aO.eqb x y):=yd underlying192 (by kernel_rfl) (mv (by decide) (iy aR rfl) (iy aR rfl) (jL (n:=n + 0) underlying3) (mv (by decide) (iy aR rfl) (iy aR rfl) (jL (n:=n + 0) underlying3) eqf_nil))
theorem eqg_192:prog.eqGuardType prog.depth 192 = false:=by kernel_rfl
theorem en_147:aN prog 147:=z_j func147
abbrev hZ:Nat:=163
def dO (r:Sl × Int):Value:=.tuple #[(sv r.1),(.int .i64 r.2)]
theorem en_162:aN prog 162:=z_j func162
theorem en_145:aN prog 145:=z_j func145
abbrev sK:Nat:=192
theorem en_161:aN prog 161:=z_j func161
abbrev sL:Nat:=134
abbrev mR:Nat:=134
theorem en_134:aN prog 134:=z_j func134
theorem en_133:aN prog 133:=z_j func133
theorem en_100:aN prog 100:=z_j func100
abbrev iV:Nat:=84
def jN (r:an × Int):Value:=.tuple #[(.agg (an.C r.1).toArray),(.int .i64 r.2)]
abbrev jp:Nat:=87
abbrev mi:Nat:=146
abbrev lK:Nat:=104
theorem en_104:aN prog 104:=z_j func104
abbrev od:Nat:=135
abbrev ux:Nat:=174
abbrev mH:Nat:=136
abbrev nN:Nat:=137
def ir (r:ac):Value:=(.agg (ac.C r).toArray)
theorem en_87:aN prog 87:=z_j func87
theorem en_137:aN prog 137:=z_j func137
theorem en_136:aN prog 136:=z_j func136
theorem en_135:aN prog 135:=z_j func135
abbrev lg:Nat:=85
theorem nQ (y0:Int) (y1:Int) (y2:Int):∀ w,(Instr.build 113 #[(0,(.int .i64 y0)),(1,(.int .i64 y1)),(2,(.int .i64 y2))]).run prog w = .ok (.agg (an.C (⟨y0,y1,y2⟩:an)).toArray) w:=fun _=>by kernel_rfl
abbrev nh:Nat:=86
abbrev lf:Nat:=138
theorem en_138:aN prog 138:=z_j func138
abbrev kD:Nat:=88
abbrev n_pred_Holds:Nat:=105
theorem en_82:aN prog 82:=z_j func82
theorem en_105:aN prog 105:=z_j func105
abbrev lX:Nat:=89
abbrev ne:Nat:=90
theorem en_85:aN prog 85:=z_j func85
theorem en_83:aN prog 83:=z_j func83
theorem en_84:aN prog 84:=z_j func84
theorem en_86:aN prog 86:=z_j func86
theorem en_88:aN prog 88:=z_j func88
theorem en_89:aN prog 89:=z_j func89
theorem en_90:aN prog 90:=z_j func90
abbrev dP:Nat:=52
theorem en_47:aN prog 47:=z_j func47
theorem en_46:aN prog 46:=z_j func46
theorem fld_81_4:Fld prog 81 4 8:=z_k 1 underlying81
theorem en_50:aN prog 50:=z_j func50
theorem en_49:aN prog 49:=z_j func49
theorem inf_4:∃ i,prog.info? 4 = some i/\i.size = 1:=bO (by kernel_rfl)
theorem en_52:aN prog 52:=z_j func52
theorem en_51:aN prog 51:=z_j func51
theorem en_48:aN prog 48:=z_j func48
abbrev qN:Nat:=19
abbrev qP:Nat:=53
theorem en_19:aN prog 19:=z_j func19
theorem en_18:aN prog 18:=z_j func18
theorem en_53:aN prog 53:=z_j func53
abbrev io:Nat:=21
abbrev fA:Nat:=55
theorem en_55:aN prog 55:=z_j func55
abbrev iM:Nat:=23
theorem en_23:aN prog 23:=z_j func23
theorem en_21:aN prog 21:=z_j func21
theorem en_17:aN prog 17:=z_j func17
abbrev eY:Nat:=16
def uo (r:Ptr):Value:=(pv r)
theorem build_199  : ∀ w,(Instr.build 199 #[]).run prog w = .ok (.agg (tm.C (⟨(⟨none,0,0,none⟩:Sl)⟩:tm)).toArray) w:=fun _=>by kernel_rfl
abbrev qD:Nat:=107
def R_SSuint64 (r:Sl):Value:=(sv r)
theorem inf_107:∃ i,prog.info? 107 = some i/\i.size = 1:=bO (by kernel_rfl)
abbrev mA:Nat:=199
abbrev wG:Nat:=92
def td (r:Ptr):Value:=(pv r)
theorem build_201_0 (y0:Sl):∀ w,(Instr.build 201 #[(0,(sv y0))]).run prog w = .ok (.agg (oQ.C (⟨y0⟩:oQ)).toArray) w:=fun _=>by kernel_rfl
abbrev ri:Nat:=201
abbrev xN:Nat:=93
def te (r:Ptr):Value:=(pv r)
abbrev t_S_8_api_Cap:Nat:=195
def R_S_8_api_Cap (r:Sl):Value:=(sv r)
theorem build_197_0 (y0:Sl):∀ w,(Instr.build 197 #[(0,(sv y0))]).run prog w = .ok (.agg (oT.C (⟨y0⟩:oT)).toArray) w:=fun _=>by kernel_rfl
abbrev ox:Nat:=197
abbrev xO:Nat:=94
def eA (r:Ptr):Value:=(pv r)
theorem wK:Fld prog 24 2 2:=z_k 1 underlying24
theorem build_136_0_1_3_4 (y0:aK) (y1:Ptr) (y3:Ptr) (y4:Ptr):∀ w,(Instr.build 136 #[(0,(.agg (aK.C y0).toArray)),(1,(pv y1)),(3,(pv y3)),(4,(pv y4))]).run prog w = .ok (.agg (gI.C (⟨y0,y1,(⟨none,0,0,none⟩:Sl),y3,y4⟩:gI)).toArray) w:=fun _=>by kernel_rfl
abbrev fw:Nat:=132
def nR (r:Sl):Value:=(sv r)
theorem inf_132:∃ i,prog.info? 132 = some i/\i.size = 1:=bO (by kernel_rfl)
abbrev cE:Nat:=136
theorem en_94:aN prog 94:=z_j func94
theorem en_93:aN prog 93:=z_j func93
theorem en_92:aN prog 92:=z_j func92
abbrev oE:Nat:=56
theorem nF:Fld prog 40 2 2:=z_k 5 underlying40
abbrev n_judge_user:Nat:=96
abbrev tT:Nat:=34
abbrev vg:Nat:=8
abbrev gT:Nat:=180
theorem en_180:aN prog 180:=z_j func180
abbrev rT:Nat:=164
abbrev ng:Nat:=165
theorem en_164:aN prog 164:=z_j func164
theorem en_165:aN prog 165:=z_j func165
theorem en_56:aN prog 56:=z_j func56
abbrev hO:Nat:=141
def qY (r:Sl):Value:=(sv r)
theorem wM:Fld prog 156 2 4:=z_k 1 underlying156
abbrev qC:Nat:=202
theorem fld_156_0:Fld prog 156 0 0:=z_k 1 underlying156
theorem en_141:aN prog 141:=z_j func141
theorem en_8:aN prog 8:=z_j func8
abbrev mg:Nat:=140
theorem fld_156_1:Fld prog 156 1 1:=z_k 3 underlying156
def ac.eqb (x y:ac):Bool:=((x.fSa == y.fSa) && ((x.fVal == y.fVal) && true))
theorem py:Sc prog 34:=⟨⟨_,underlying34,rfl⟩,bO (by kernel_rfl)⟩
theorem eqr_36 (n:Nat) (x y:ac):EqR prog (n + 2) 36 (.agg (ac.C x).toArray) (.agg (ac.C y).toArray) (ac.eqb x y):=yd underlying36 (by kernel_rfl) (mv (by decide) (iy py rfl) (iy py rfl) (jL (n:=n + 0) underlying34) (mv (by decide) (iy cC rfl) (iy cC rfl) (jL (n:=n + 0) underlying31) eqf_nil))
theorem eqg_36:prog.eqGuardType prog.depth 36 = false:=by kernel_rfl
def ao.eqb (x y:ao):Bool:=((x.fCa == y.fCa) && ((x.fVa == y.fVa) && ((x.fFa == y.fFa) && ((x.fBa == y.fBa) && true))))
theorem eqr_38 (n:Nat) (x y:ao):EqR prog (n + 2) 38 (.agg (ao.C x).toArray) (.agg (ao.C y).toArray) (ao.eqb x y):=yd underlying38 (by kernel_rfl) (mv (by decide) (iy aR rfl) (iy aR rfl) (jL (n:=n + 0) underlying3) (mv (by decide) (iy aR rfl) (iy aR rfl) (jL (n:=n + 0) underlying3) (mv (by decide) (iy aR rfl) (iy aR rfl) (jL (n:=n + 0) underlying3) (mv (by decide) (iy aR rfl) (iy aR rfl) (jL (n:=n + 0) underlying3) eqf_nil))))
theorem eqg_38:prog.eqGuardType prog.depth 38 = false:=by kernel_rfl
theorem slc_202:Slc prog 202 113 3:=⟨underlying202,bO (by kernel_rfl)⟩
theorem kS:Fld prog 36 0 0:=z_k 1 underlying36
theorem fld_36_1:Fld prog 36 1 1:=z_k 1 underlying36
theorem en_140:aN prog 140:=z_j func140
abbrev mh:Nat:=97
abbrev oa:Nat:=98
theorem build_156_0_1_2 (y0:Sl) (y1:aK) (y2:Ptr):∀ w,(Instr.build 156 #[(0,(sv y0)),(1,(.agg (aK.C y1).toArray)),(2,(pv y2))]).run prog w = .ok (.agg (lc.C (⟨y0,y1,y2⟩:lc)).toArray) w:=fun _=>by kernel_rfl
theorem en_98:aN prog 98:=z_j func98
theorem en_97:aN prog 97:=z_j func97
theorem en_96:aN prog 96:=z_j func96
theorem en_13:aN prog 13:=z_j func13
abbrev dC:Nat:=156
theorem en_6:aN prog 6:=z_j func6
abbrev vd:Nat:=60
theorem en_60:aN prog 60:=z_j func60
abbrev pJ:Nat:=26
abbrev pK:Nat:=27
theorem en_27:aN prog 27:=z_j func27
theorem en_26:aN prog 26:=z_j func26
abbrev vM:Nat:=24
def pX (r:Ptr):Value:=(pv r)
theorem build_109_0 (y0:Sl):∀ w,(Instr.build 109 #[(0,(sv y0))]).run prog w = .ok (.agg (oR.C (⟨y0⟩:oR)).toArray) w:=fun _=>by kernel_rfl
abbrev lM:Nat:=109
abbrev tS:Nat:=57
def jg (r:Ptr):Value:=(pv r)
theorem build_119_1 (y1:Sl):∀ w,(Instr.build 119 #[(1,(sv y1))]).run prog w = .ok (.agg (ki.C (⟨(⟨none,0,0,none⟩:Sl),y1⟩:ki)).toArray) w:=fun _=>by kernel_rfl
abbrev iG:Nat:=119
abbrev oI:Nat:=58
abbrev rS:Nat:=95
def gY (r:Ptr):Value:=(pv r)
abbrev qB:Nat:=153
theorem en_95:aN prog 95:=z_j func95
abbrev jd:Nat:=59
def yg (r:Ptr):Value:=(pv r)
abbrev ny:Nat:=76
def rf (r:Sl):Value:=(sv r)
theorem oq (y0:Ptr) (y1:Int) (y3:Ptr) (y4:Ptr) (y5:Sl):∀ w,(Instr.build 78 #[(0,(pv y0)),(1,(.int .i64 y1)),(3,(pv y3)),(4,(pv y4)),(5,(sv y5))]).run prog w = .ok (.agg (fY.C (⟨y0,y1,(⟨none,0,0,none⟩:Sl),y3,y4,y5,(⟨none,0,0,none⟩:Sl),0⟩:fY)).toArray) w:=fun _=>by kernel_rfl
abbrev bV:Nat:=73
def eD (r:Sl):Value:=(sv r)
theorem inf_73:∃ i,prog.info? 73 = some i/\i.size = 1:=bO (by kernel_rfl)
theorem en_59:aN prog 59:=z_j func59
abbrev cn:Nat:=78
theorem en_58:aN prog 58:=z_j func58
theorem en_57:aN prog 57:=z_j func57
abbrev n_kern_New:Nat:=25
def oU (r:Sl):Value:=(sv r)
abbrev oy:Nat:=59
theorem build_103_0_1 (y0:Int) (y1:Int):∀ w,(Instr.build 103 #[(0,(.int .i64 y0)),(1,(.int .i64 y1))]).run prog w = .ok (.agg (eH.C (⟨y0,y1,0,(⟨0,0,0,0,0⟩:al),0,0⟩:eH)).toArray) w:=fun _=>by kernel_rfl
abbrev vN:Nat:=28
abbrev xK:Nat:=142
theorem en_142:aN prog 142:=z_j func142
abbrev n_user_Do:Nat:=101
def iW (r:Value):Value:=(r)
theorem build_216_0_1 (y0:Int) (y1:Int):∀ w,(Instr.build 216 #[(0,(.int .i64 y0)),(1,(.int .i64 y1))]).run prog w = .ok (.agg (ci.C (⟨y0,y1,(⟨0,0,0,0,0⟩:al),Value.nilIface⟩:ci)).toArray) w:=fun _=>by kernel_rfl
abbrev bj:Nat:=214
abbrev ow:Nat:=216
abbrev kW:Nat:=107
abbrev gC:Nat:=148
theorem ag_262:Ag prog 262 3:=⟨⟨_,underlying262,rfl⟩,bO (by kernel_rfl)⟩
abbrev fK:Nat:=192
def fV (r:aQ):Value:=(.agg (aQ.C r).toArray)
abbrev de:Nat:=188
abbrev fQ:Nat:=193
abbrev gM:Nat:=159
abbrev jA:Nat:=241
def gJ (r:Value × Bool):Value:=.tuple #[(r.1),(.bool r.2)]
abbrev iZ:Nat:=243
def gt (r:Value × Bool):Value:=.tuple #[(r.1),(.bool r.2)]
def R_Serror (r:Sl):Value:=(sv r)
theorem slc_244:Slc prog 244 159 1:=⟨underlying244,bO (by kernel_rfl)⟩
abbrev vh:Nat:=191
theorem en_191:aN prog 191:=z_j func191
theorem sc_159:Sc prog 159:=⟨⟨_,underlying159,rfl⟩,bO (by kernel_rfl)⟩
abbrev rj:Nat:=271
def ou (r:Value × Bool):Value:=.tuple #[(r.1),(.bool r.2)]
theorem zero_262:∃ i,prog.info? 262 = some i/\i.zero = some (.agg (aQ.C (⟨none,none,0⟩:aQ)).toArray):=lC (by kernel_rfl)
abbrev iY:Nat:=189
def R_abi_Kind (r:Int):Value:=(.int .u8 r)
def str_6ae768b9:ByteArray:=⟨#[101,114,114,111,114,115,58,32,42,116,97,114,103,101,116,32,109,117,115,116,32,98,101,32,105,110,116,101,114,102,97,99,101,32,111,114,32,105,109,112,108,101,109,101,110,116,32,101,114,114,111,114]⟩
abbrev vY:Nat:=9
theorem sc_211:Sc prog 211:=⟨⟨_,underlying211,rfl⟩,bO (by kernel_rfl)⟩
abbrev fB:Nat:=190
def str_ae9b7a08:ByteArray:=⟨#[101,114,114,111,114,115,58,32,116,97,114,103,101,116,32,109,117,115,116,32,98,101,32,97,32,110,111,110,45,110,105,108,32,112,111,105,110,116,101,114]⟩
theorem inf_262:∃ i,prog.info? 262 = some i/\i.size = 3:=bO (by kernel_rfl)
def str_53947bae:ByteArray:=⟨#[101,114,114,111,114,115,58,32,116,97,114,103,101,116,32,99,97,110,110,111,116,32,98,101,32,110,105,108]⟩
abbrev vi:Nat:=186
def ff (r:Ptr × Bool):Value:=.tuple #[(pv r.1),(.bool r.2)]
theorem zero_214:∃ i,prog.info? 214 = some i/\i.zero = some (pv none):=lC (by kernel_rfl)
theorem sc_214:Sc prog 214:=⟨⟨_,underlying214,rfl⟩,bO (by kernel_rfl)⟩
abbrev bI:Nat:=256
theorem en_186:aN prog 186:=z_j func186
abbrev kA:Nat:=181
theorem wL:Fld prog 216 0 0:=z_k 1 underlying216
theorem en_181:aN prog 181:=z_j func181
abbrev uZ:Nat:=166
def R_trap_Trap (r:ci):Value:=(.agg (ci.C r).toArray)
theorem en_166:aN prog 166:=z_j func166
abbrev n_trap_In:Nat:=143
theorem ye:aN prog 107:=z_j func107
theorem en_143:aN prog 143:=z_j func143
abbrev nY:Nat:=102
def pY (r:Ptr):Value:=(pv r)
theorem build_251_0 (y0:Int):∀ w,(Instr.build 251 #[(0,(.int .u64 y0))]).run prog w = .ok (.agg (oS.C (⟨y0,0⟩:oS)).toArray) w:=fun _=>by kernel_rfl
abbrev rl:Nat:=251
abbrev tW:Nat:=167
def um (r:Ptr):Value:=(pv r)
theorem build_253_0_1 (y0:Ptr) (y1:Ptr):∀ w,(Instr.build 253 #[(0,(pv y0)),(1,(pv y1))]).run prog w = .ok (.agg (la.C (⟨y0,y1⟩:la)).toArray) w:=fun _=>by kernel_rfl
abbrev nu:Nat:=253
theorem en_167:aN prog 167:=z_j func167
abbrev xM:Nat:=168
theorem ti:Fld prog 251 1 1:=z_k 1 underlying251
theorem oM:Fld prog 251 0 0:=z_k 1 underlying251
abbrev pN:Nat:=169
theorem fld_253_0:Fld prog 253 0 0:=z_k 1 underlying253
theorem en_169:aN prog 169:=z_j func169
theorem sc_230:Sc prog 230:=⟨⟨_,underlying230,rfl⟩,bO (by kernel_rfl)⟩
abbrev nX:Nat:=170
abbrev oG:Nat:=149
theorem en_149:aN prog 149:=z_j func149
abbrev mW:Nat:=238
def kj (r:Value × Bool):Value:=.tuple #[(r.1),(.bool r.2)]
abbrev oH:Nat:=106
theorem fld_216_3:Fld prog 216 3 7:=z_k 1 underlying216
abbrev xL:Nat:=187
theorem mU (y0:Int) (y1:Int):∀ w,(Instr.build 33 #[(0,(.int .u64 y0)),(1,(.int .u64 y1))]).run prog w = .ok (.agg (al.C (⟨y0,y1,0,0,0⟩:al)).toArray) w:=fun _=>by kernel_rfl
theorem fld_216_1:Fld prog 216 1 1:=z_k 1 underlying216
theorem fld_216_2:Fld prog 216 2 2:=z_k 5 underlying216
def al.eqb (x y:al):Bool:=((x.e0 == y.e0) && ((x.e1 == y.e1) && ((x.e2 == y.e2) && ((x.e3 == y.e3) && ((x.e4 == y.e4) && true)))))
theorem eqr_33 (n:Nat) (x y:al):EqR prog (n + 2) 33 (.agg (al.C x).toArray) (.agg (al.C y).toArray) (al.eqb x y):=eqr_arr underlying33 inf_31 ⟨_,_,_,_,(iy cC rfl),(iy cC rfl),(jL (n:=n + 0) underlying31),⟨_,_,_,_,(iy cC rfl),(iy cC rfl),(jL (n:=n + 0) underlying31),⟨_,_,_,_,(iy cC rfl),(iy cC rfl),(jL (n:=n + 0) underlying31),⟨_,_,_,_,(iy cC rfl),(iy cC rfl),(jL (n:=n + 0) underlying31),⟨_,_,_,_,(iy cC rfl),(iy cC rfl),(jL (n:=n + 0) underlying31),rfl,rfl⟩,rfl⟩,rfl⟩,rfl⟩,rfl⟩
theorem eqg_33:prog.eqGuardType prog.depth 33 = false:=by kernel_rfl
def eJ (r:ByteArray):Value:=(.string r)
def oX:ByteArray:=⟨#[116,114,97,112,32,51,58,32,116,114,97,112,32,51]⟩
theorem en_106:aN prog 106:=z_j func106
theorem en_187:aN prog 187:=z_j func187
abbrev mc:Nat:=182
theorem en_182:aN prog 182:=z_j func182
abbrev me:Nat:=171
abbrev mP:Nat:=183
theorem fld_253_1:Fld prog 253 1 1:=z_k 1 underlying253
theorem en_183:aN prog 183:=z_j func183
abbrev kB:Nat:=172
abbrev rW:Nat:=184
theorem en_184:aN prog 184:=z_j func184
theorem en_172:aN prog 172:=z_j func172
abbrev nW:Nat:=173
abbrev n_word_Args:Nat:=174
abbrev mJ:Nat:=150
theorem en_150:aN prog 150:=z_j func150
abbrev qK:Nat:=175
theorem build_33_0 (y0:Int):∀ w,(Instr.build 33 #[(0,(.int .u64 y0))]).run prog w = .ok (.agg (al.C (⟨y0,0,0,0,0⟩:al)).toArray) w:=fun _=>by kernel_rfl
theorem kh (y0:Int) (y1:Int) (y2:Int) (y3:Int):∀ w,(Instr.build 33 #[(0,(.int .u64 y0)),(1,(.int .u64 y1)),(2,(.int .u64 y2)),(3,(.int .u64 y3))]).run prog w = .ok (.agg (al.C (⟨y0,y1,y2,y3,0⟩:al)).toArray) w:=fun _=>by kernel_rfl
theorem en_175:aN prog 175:=z_j func175
theorem en_174:aN prog 174:=z_j func174
theorem en_173:aN prog 173:=z_j func173
theorem en_171:aN prog 171:=z_j func171
theorem en_170:aN prog 170:=z_j func170
theorem en_168:aN prog 168:=z_j func168
abbrev ma:Nat:=144
theorem en_144:aN prog 144:=z_j func144
abbrev mb:Nat:=103
abbrev ni:Nat:=108
theorem build_24_0_1_2 (y0:Int) (y1:Int) (y2:Int):∀ w,(Instr.build 24 #[(0,(.int .i64 y0)),(1,(.int .i64 y1)),(2,(.int .i64 y2))]).run prog w = .ok (.agg (aK.C (⟨y0,y1,y2⟩:aK)).toArray) w:=fun _=>by kernel_rfl
theorem uk (y0:Int) (y1:Int) (y2:Int):∀ w,(Instr.build 33 #[(0,(.int .u64 y0)),(1,(.int .u64 y1)),(2,(.int .u64 y2))]).run prog w = .ok (.agg (al.C (⟨y0,y1,y2,0,0⟩:al)).toArray) w:=fun _=>by kernel_rfl
theorem en_108:aN prog 108:=z_j func108
theorem en_103:aN prog 103:=z_j func103
theorem en_102:aN prog 102:=z_j func102
theorem en_101:aN prog 101:=z_j func101
abbrev li:Nat:=61
theorem en_61:aN prog 61:=z_j func61
abbrev lj:Nat:=29
theorem slc_59:Slc prog 59 103 10:=⟨underlying59,bO (by kernel_rfl)⟩
theorem zero_103:∃ i,prog.info? 103 = some i/\i.zero = some (.agg (eH.C (⟨0,0,0,(⟨0,0,0,0,0⟩:al),0,0⟩:eH)).toArray):=lC (by kernel_rfl)
theorem fld_103_0:Fld prog 103 0 0:=z_k 1 underlying103
theorem fld_103_1:Fld prog 103 1 1:=z_k 1 underlying103
theorem inf_103:∃ i,prog.info? 103 = some i/\i.size = 10:=bO (by kernel_rfl)
theorem ag_103:Ag prog 103 10:=⟨⟨_,underlying103,rfl⟩,bO (by kernel_rfl)⟩
abbrev pM:Nat:=62
theorem en_62:aN prog 62:=z_j func62
abbrev n_fair_Fair:Nat:=30
def nJ (r:Sl):Value:=(sv r)
abbrev nv:Nat:=62
abbrev n_twin_View:Nat:=31
theorem zero_24:∃ i,prog.info? 24 = some i/\i.zero = some (.agg (aK.C (⟨0,0,0⟩:aK)).toArray):=lC (by kernel_rfl)
theorem en_24:aN prog 24:=z_j func24
theorem en_31:aN prog 31:=z_j func31
theorem en_30:aN prog 30:=z_j func30
theorem en_29:aN prog 29:=z_j func29
theorem en_28:aN prog 28:=z_j func28
theorem en_16:aN prog 16:=z_j func16
theorem en_25:aN prog 25:=z_j func25
theorem inf_24:∃ i,prog.info? 24 = some i/\i.size = 3:=bO (by kernel_rfl)
abbrev lh:Nat:=5
abbrev fP:Nat:=7
abbrev nj:Nat:=9
abbrev jq:Nat:=10
abbrev pL:Nat:=35
abbrev n_hist_Done:Nat:=11
abbrev n_hist_Before:Nat:=12
abbrev lZ:Nat:=14
theorem en_12:aN prog 12:=z_j func12
theorem en_10:aN prog 10:=z_j func10
theorem en_14:aN prog 14:=z_j func14
theorem en_11:aN prog 11:=z_j func11
theorem en_7:aN prog 7:=z_j func7
theorem en_9:aN prog 9:=z_j func9
theorem en_5:aN prog 5:=z_j func5
abbrev oF:Nat:=3
def str_73df774b:ByteArray:=⟨#[48,49,50,51,52,53,54,55,56,57,97,98,99,100,101,102,103,104,105,106,107,108,109,110,111,112,113,114,115,116,117,118,119,120,121,122]⟩
def str_e9752c08:ByteArray:=⟨#[48,48,48,49,48,50,48,51,48,52,48,53,48,54,48,55,48,56,48,57,49,48,49,49,49,50,49,51,49,52,49,53,49,54,49,55,49,56,49,57,50,48,50,49,50,50,50,51,50,52,50,53,50,54,50,55,50,56,50,57,51,48,51,49,51,50,51,51,51,52,51,53,51,54,51,55,51,56,51,57,52,48,52,49,52,50,52,51,52,52,52,53,52,54,52,55,52,56,52,57,53,48,53,49,53,50,53,51,53,52,53,53,53,54,53,55,53,56,53,57,54,48,54,49,54,50,54,51,54,52,54,53,54,54,54,55,54,56,54,57,55,48,55,49,55,50,55,51,55,52,55,53,55,54,55,55,55,56,55,57,56,48,56,49,56,50,56,51,56,52,56,53,56,54,56,55,56,56,56,57,57,48,57,49,57,50,57,51,57,52,57,53,57,54,57,55,57,56,57,57]⟩
abbrev jC:Nat:=219
abbrev rU:Nat:=220
theorem inf_5:∃ i,prog.info? 5 = some i/\i.size = 1:=bO (by kernel_rfl)
abbrev qc:Nat:=221
def R_Suint8_string (r:Sl × ByteArray):Value:=.tuple #[(sv r.1),(.string r.2)]
def R_Suint8 (r:Sl):Value:=(sv r)
abbrev rC:Nat:=222
theorem en_219:aN prog 219:=z_j func219
theorem zero_293:∃ i,prog.info? 293 = some i/\i.zero = some (.agg [.int .u8 0,.int .u8 0,.int .u8 0,.int .u8 0,.int .u8 0,.int .u8 0,.int .u8 0,.int .u8 0,.int .u8 0,.int .u8 0,.int .u8 0,.int .u8 0,.int .u8 0,.int .u8 0,.int .u8 0,.int .u8 0,.int .u8 0,.int .u8 0,.int .u8 0,.int .u8 0,.int .u8 0,.int .u8 0,.int .u8 0,.int .u8 0].toArray):=lC (by kernel_rfl)
abbrev xe:Nat:=293
theorem arr_293:Arr prog 293 24 5 1:=⟨underlying293,bO (by kernel_rfl)⟩
theorem en_221:aN prog 221:=z_j func221
theorem en_220:aN prog 220:=z_j func220
theorem en_222:aN prog 222:=z_j func222
abbrev gU:Nat:=218
theorem en_218:aN prog 218:=z_j func218
abbrev jX:Nat:=217
theorem en_217:aN prog 217:=z_j func217
abbrev tQ:Nat:=216
theorem en_216:aN prog 216:=z_j func216
abbrev jo:Nat:=213
abbrev tO:Nat:=214
abbrev nV:Nat:=215
abbrev t_api_Event:Nat:=40
abbrev t_api_Pick:Nat:=103
abbrev t_api_Answer:Nat:=36
abbrev tu:Nat:=99
abbrev fM:Nat:=79
abbrev t_uint64:Nat:=31
abbrev t_api_Line:Nat:=38
abbrev eQ:Nat:=121
abbrev t_api_Pte:Nat:=113
abbrev t_bool:Nat:=4
abbrev se:Nat:=236
abbrev t_tlb_line:Nat:=149
end
end Go.Proofs.YtochchocdckegaaGreatDoor
