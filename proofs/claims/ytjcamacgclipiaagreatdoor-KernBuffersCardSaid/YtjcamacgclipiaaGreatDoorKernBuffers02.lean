/- Part of the proof of: The law KernBuffers returns true for every input, and leaves its arguments as they were. -/
import Derived.Test.YtjcamacgclipiaaGreatDoorKernBuffers01
set_option linter.all false
set_option maxRecDepth 20000
set_option maxHeartbeats 4000000
namespace Go.Proofs.YtjcamacgclipiaaGreatDoor
open Go.Proofs.Tryz
open Go.IntKind (i64 u64)
open _root_.Array (ext' range)
open _root_.List (eq_nil_of_length_eq_zero ext_getElem? flatMap_cons getElem?_append_left getElem?_append_right getElem?_toArray length_cons replicate)
open _root_.Nat (add_assoc add_mul le_refl mul_le_mul_right succ_mul zero_add zero_mul)
open _root_.Option (map_some)
section
open Go
namespace Mb
def gh (s:Sl) (T m:Nat) (pre rest:List Value) (U:TypeId) (fr:Nat × Nat):Prop :=
 match s.g with
 | none=>U = T/\fr = (0,0)
 | some g=>g = (pre,rest,U,fr)/\nf fr pre.length (s.cap * m)
def bkF (b:Nat) (T:TypeId) (fr:Nat × Nat) (c:List Value):As:=fun h=>h b = some (.cells c.toArray T fr)
def vec {τ:Type} (T:TypeId) (m:Nat) (enc:τ->List Value) (s:Sl) (xs:List τ):As:=fun h =>
 s.len = xs.length/\s.len <= s.cap/\(s.cap = 0\/∃ b pre rest U fr,s.a = some (b,pre.length)/\s.cap * m <= s.len * m + rest.length/\gh s T m pre rest U fr/\bkF b U fr (pre++(xs.flatMap enc++rest)) h)
theorem gh_nf {s:Sl} {T m:Nat} {pre rest:List Value} {U:TypeId} {fr:Nat × Nat} (g:gh s T m pre rest U fr):nf fr pre.length (s.cap * m):=by
 unfold gh at g;split at g
 ·rw [g.2]; exact nf0 _ _
 ·exact g.2
section
variable {τ:Type} {T m:Nat} {enc:τ->List Value}
theorem bR (he:∀ x,(enc x).length = m) (xs:List τ):(xs.flatMap enc).length = xs.length * m:=by
 induction xs with
 | nil=>simp
 | cons x xs ih=>simp [ih,he,succ_mul,Nat.add_comm]
theorem mK (he:∀ x,(enc x).length = m):∀ (xs:List τ) (i j:Nat) (x:τ) (v:Value),xs[i]? = some x->(enc x)[j]? = some v->(xs.flatMap enc)[i * m + j]? = some v
 | [],i,_,_,_,h,_=>by simp at h
 | y::xs,0,j,x,v,h,hv=>by
  simp at h; subst h;have:=(List.getElem?_eq_some_iff.1 hv).1;simp only [flatMap_cons,zero_mul,zero_add];rw [getElem?_append_left this]; exact hv
 | y::xs,i + 1,j,x,v,h,hv=>by
  simp only [List.getElem?_cons_succ] at h;simp only [flatMap_cons];rw [getElem?_append_right (by rw [he,succ_mul]; omega),he,show (i + 1) * m + j - m = i * m + j from by rw [succ_mul]; omega];exact mK he xs i j x v h hv
theorem wr_left:∀ (vs a b:List Value) (i:Nat),i + vs.length <= a.length->wr (a++b) i vs = wr a i vs++b
 | [],_,_,_,_=>rfl
 | v::vs,a,b,i,h=>by
  simp only [length_cons] at h;rw [wr,wr,List.set_append_left _ _ (by omega),wr_left vs (a.set i v) b (i + 1) (by simp; omega)]
theorem qC:∀ (vs a b:List Value) (i:Nat),wr (a++b) (a.length + i) vs = a++wr b i vs
 | [],_,_,_=>rfl
 | v::vs,a,b,i=>by
  rw [wr,wr,List.set_append_right _ _ (by omega),show a.length + i - a.length = i from by omega,add_assoc,qC vs a (b.set i v) (i + 1)]
theorem flat_wr (he:∀ x,(enc x).length = m):∀ (xs:List τ) (i k:Nat) (x y:τ) (vs:List Value),xs[i]? = some x->k + vs.length <= m->enc y = wr (enc x) k vs->wr (xs.flatMap enc) (i * m + k) vs = (xs.set i y).flatMap enc
 | [],i,_,_,_,_,h,_,_=>by simp at h
 | z::xs,0,k,x,y,vs,h,hl,hy=>by
  simp at h; subst h;simp only [flatMap_cons,zero_mul,zero_add,List.set_cons_zero];rw [wr_left _ _ _ _ (by rw [he]; exact hl),hy]
 | z::xs,i + 1,k,x,y,vs,h,hl,hy=>by
  simp only [List.getElem?_cons_succ] at h;simp only [flatMap_cons,List.set_cons_succ];rw [show (i + 1) * m + k = (enc z).length + (i * m + k) from by rw [he,succ_mul]; omega,qC,flat_wr he xs i k x y vs h hl hy]
variable {P:Program} {l:List As} {h:Hp}
theorem aX {j:Nat} {s:Sl} {xs:List τ} (st:ah l h) (hj:l[j]? = some (vec T m enc s xs)):s.len = xs.length/\(0 < xs.length->∃ q,s.a = some q):=by
 obtain ⟨h1,⟨e,h2,h3⟩,_⟩:=cL hj st;refine ⟨e,fun hp=>?_⟩;rcases h3 with h4 | ⟨b,pre,rest,U,fr,h4,_⟩
 ·omega
 ·exact ⟨_,h4⟩
theorem bE {j:Nat} {s:Sl} {xs:List τ} {i:Int} {K:Nat × Nat->Hp->Prop} (st:ah l h) (hj:l[j]? = some (vec T m enc s xs)) (h0:0 <= i) (h1:i < xs.length) (k:∀ q,s.a = some q->K q h):ix s i K h:=by
 obtain ⟨e,hq⟩:=aX st hj;obtain ⟨q,hq⟩:=hq (by omega);exact ⟨q,hq,⟨h0,by omega⟩,k q hq⟩
theorem bK {σ:Type} {j i k:Nat} {s:Sl} {xs:List τ} {q:Nat × Nat} {enc':σ->List Value} {K:σ->Hp->Prop} {off:Nat} (y:σ) (he:∀ x,(enc x).length = m) (st:ah l h) (hj:l[j]? = some (vec T m enc s xs)) (hq:s.a = some q) (hoff:off = q.2 + i * m + k)
  {x:τ} (hx:xs[i]? = some x) (hy:∀ n v,(enc' y)[n]? = some v->(enc x)[k + n]? = some v) (kk:K y h):ld (q.1,off) enc' K h:=by
 obtain ⟨h1,⟨e,h2,h3⟩,sub⟩:=cL hj st;have hil:=(List.getElem?_eq_some_iff.1 hx).1;rcases h3 with h4 | ⟨b,pre,rest,U,fr,h4,h5,_,h6⟩
 ·omega
 ·rw [h4] at hq; cases hq;refine ⟨y,⟨_,_,_,sub _ _ h6,fun n v hn=>?_⟩,kk⟩;have:=mK he xs i (k + n) x v hx (hy n v hn);have hlt:=(List.getElem?_eq_some_iff.1 this).1;simp only [hoff,getElem?_toArray];rw [getElem?_append_right (by omega),show pre.length + i * m + k + n - pre.length = i * m + (k + n) from by omega,getElem?_append_left hlt];exact this
theorem tZ {j i k:Nat} {s:Sl} {xs:List τ} {q:Nat × Nat} {vs:List Value} {K:Hp->Prop} {off:Nat} (y:τ) (he:∀ x,(enc x).length = m) (s0:ah l h) (hj:l[j]? = some (vec T m enc s xs)) (hq:s.a = some q) (hoff:off = q.2 + i * m + k)
  {x:τ} (hx:xs[i]? = some x) (hlen:k + vs.length <= m) (hy:enc y = wr (enc x) k vs) (kk:∀ h',ah (l.set j (vec T m enc s (xs.set i y))) h'->K h'):st (q.1,off) vs K h:=by
 obtain ⟨h1,h2,d,rfl,⟨e,e2,h3⟩,s'⟩:=eu hj s0;have hi:=(List.getElem?_eq_some_iff.1 hx).1;rcases h3 with h4 | ⟨b,pre,rest,U,fr,h4,h5,hg,h6⟩
 ·omega
 ·rw [h4] at hq; cases hq;have hfl:=bR he xs;have hm:(i + 1) * m <= xs.length * m:=mul_le_mul_right m hi;rw [succ_mul] at hm;have ew:wr (pre++(xs.flatMap enc++rest)) (pre.length + i * m + k) vs = pre++((xs.set i y).flatMap enc++rest):=by
   rw [add_assoc,qC,wr_left _ _ _ _ (by rw [hfl]; omega),flat_wr he xs i k x y vs hx hlen hy]
  have hcap:s.len * m <= s.cap * m:=mul_le_mul_right m e2;have hlm:s.len * m = xs.length * m:=by rw [e]
  refine ⟨_,U,fr,un_left h6,fun j j1 j2=>gh_nf hg j (by show pre.length <= j; have j1':pre.length + i * m + k <= j:=(hoff ▸ j1); omega) (by show j < pre.length + s.cap * m; have j2':j < pre.length + i * m + k + vs.length:=(hoff ▸ j2); omega),by simp [hoff,hfl]; omega,kk _ ?_⟩;obtain ⟨d',e'⟩:=set_dj (o':=.cells (pre++((xs.set i y).flatMap enc++rest)).toArray U fr) d h6;simp only [hoff,ew];rw [e'];exact cO (List.getElem?_eq_some_iff.1 hj).1 ⟨_,h2,d',rfl,⟨by simpa using e,e2,.inr ⟨b,pre,rest,U,fr,h4,h5,hg,iR _ _ _⟩⟩,s'⟩
end
section
variable {P:Program} {l:List As} {h:Hp}
structure El (P:Program) (S T m bys:Nat) (z:List Value):Prop where
 sl:P.underlying S = some (.slice T)
 inf:∃ i,P.info? T = some i/\i.size = m/\i.bytes = bys/\i.zero.map (fun v=>v.cells.toList) = some z
 len:z.length = m
theorem ci {S:TypeId} {D:TypeDesc} {K:TypeDesc->Hp->Prop} (e:P.underlying S = some D) (k:K D h):hp P (underlying S) K h:=by
 unfold underlying;rw [bF,tQ];simp only [e];exact k
theorem nJ {T:TypeId} {i:TypeInfo} {K:TypeInfo->Hp->Prop} (e:P.info? T = some i) (k:K i h):hp P (typeInfo T) K h:=by
 unfold typeInfo;rw [bF,tQ];simp only [e];exact k
theorem nK {T:TypeId} {i:TypeInfo} {K:Nat->Hp->Prop} (e:P.info? T = some i) (k:K i.size h):hp P (sizeOf T) K h:=by
 unfold sizeOf;rw [bF];exact nJ e k
theorem sJ {T:TypeId} {i:TypeInfo} {v:Value} {K:Value->Hp->Prop} (e:P.info? T = some i) (ez:i.zero = some v) (k:K v h):hp P (zeroValue T) K h:=by
 unfold zeroValue;rw [bF];refine nJ e ?_;simp only [ez];exact k
theorem hp_asInt {kd:IntKind} {n:Int} {K:Int->Hp->Prop} (k:K n h):hp P (asInt (.int kd n)) K h:=k
theorem bt {α β:Type} {m:Sem α} {f:α->Sem β} {K:β->Hp->Prop} (H:hp P m (fun a h=>hp P (f a) K h) h):hp P (m >>= f) K h:=(bF m f K h).2 H
theorem hp_newRow {T:TypeId} {c:List Value} {K:Addr->Hp->Prop} (s:ah l h) (k:∀ b h',ah (blk b T c::l) h'->K ⟨b,0,none⟩ h'):hp P (newRow T c.toArray) K h:=by
 unfold newRow;refine bt ?_;exact ⟨by simp [calm],fun b hb=>k b _ (new_s s hb)⟩
theorem hp_askRoom {n:Nat} {K:Unit->Hp->Prop} (k:K () h):hp P (askRoom n) K h:=by
 unfold askRoom; split <;> exact k
theorem aE {n:Int} (h0:-2^63 <= n) (h1:n < 2^63):i64.wrap n = n:=by
 simp only [IntKind.wrap]; first | omega | (simp [IntKind.bits,IntKind.signed]; omega)
theorem rep_flat (z:List Value) (n:Nat):((range (n * z.length)).map fun i=>(z.toArray)[i % z.toArray.size]!) = ((replicate n z).flatMap id).toArray:=by
 apply ext';simp only [Array.toList_map,Array.toList_range,List.size_toArray];apply ext_getElem?;intro i;have hfl:((replicate n z).flatMap id).length = n * z.length:=by
  simp [List.length_flatMap]
 by_cases hi:i < n * z.length
 ·have hz:0 < z.length:=by
   rcases Nat.eq_zero_or_pos z.length with e | e
   ·rw [e] at hi; omega
   ·exact e
  have hd:i / z.length < n:=(Nat.div_lt_iff_lt_mul hz).2 hi;have hmod:=Nat.mod_lt i hz;rw [List.getElem?_map,List.getElem?_range hi];have key:∀ (n q r:Nat),q < n->r < z.length->((replicate n z).flatMap id)[q * z.length + r]? = z[r]?:=by
   intro n
   induction n with
   | zero=>intro q r h; omega
   | succ n ih =>
    intro q r hq hr;rw [List.replicate_succ,flatMap_cons];cases q with
    | zero=>rw [zero_mul,zero_add,getElem?_append_left (by simpa using hr)]; rfl
    | succ q =>
     rw [getElem?_append_right (by rw [succ_mul]; simp; omega)];have e:(q + 1) * z.length + r - (id z).length = q * z.length + r:=by rw [succ_mul]; simp; omega
     rw [e];exact ih q r (by omega) hr
  have:=key n (i / z.length) (i % z.length) hd hmod;rw [Nat.mul_comm,Nat.div_add_mod] at this;rw [this];simp [hmod]
 ·rw [List.getElem?_eq_none (by simp; omega),List.getElem?_eq_none (by rw [hfl]; omega)]
theorem rep_flat_map {τ:Type} {enc:τ->List Value} (x:τ) (n:Nat):(replicate n (enc x)).flatMap id = (replicate n x).flatMap enc:=by
 induction n with
 | zero=>rfl
 | succ n ih=>simp only [List.replicate_succ,flatMap_cons,ih]; rfl
theorem hp_zc {α:Type} {T:TypeId} {i:TypeInfo} {z:List Value} {n:Nat} {f:Array Value->Sem α} {K:α->Hp->Prop} (e:P.info? T = some i) (ez:i.zero.map (fun v=>v.cells.toList) = some z) (hn:n = 0->z = []\/True)
  (k:∀ c:Array Value,(n = 0/\c = #[]\/n ≠ 0/\c = z.toArray)->hp P (f c) K h) :
  hp P (if n = 0 then (do let z ← (pure #[]:Sem (Array Value)); f z) else (do let v ← zeroValue T; let z ← (pure v.cells:Sem (Array Value)); f z)) K h:=by
 cases hz:i.zero with
 | none=>rw [hz] at ez; cases ez
 | some v =>
  rw [hz] at ez;simp only [map_some,Option.some.injEq] at ez;by_cases h0:n = 0
  ·rw [if_pos h0]; exact k _ (.inl ⟨h0,rfl⟩)
  ·rw [if_neg h0];refine bt (sJ e hz ?_);exact k _ (.inr ⟨h0,by rw [← ez]⟩)
theorem tT {S T m bys:Nat} {z:List Value} (h1:P.underlying S = some (.slice T)) (h2:(P.info? T).map (fun i=>(i.size,i.bytes,i.zero.map (fun v=>v.cells.toList))) = some (m,bys,some z)) (h3:z.length = m):El P S T m bys z:=by
 refine ⟨h1,?_,h3⟩;cases h:P.info? T with
 | none=>rw [h] at h2; cases h2
 | some i =>
  rw [h] at h2;simp only [map_some,Option.some.injEq,Prod.mk.injEq] at h2;exact ⟨i,rfl,h2.1,h2.2.1,h2.2.2⟩
theorem nI {τ:Type} {S T m bys:Nat} {z:List Value} {enc:τ->List Value} {x0:τ} {n:Nat} {K:Sl->Hp->Prop} (E:El P S T m bys z) (hz:enc x0 = z) (s:ah l h) (hn:bys * n <= 2 ^ 48) (hn2:n < 2 ^ 62)
  (k:∀ v h',ah (vec T m enc v (replicate n x0)::l) h'->K v h'):hpv P (Instr.makeSlice S (.int .i64 n) (.int .i64 n)) sv K h:=by
 refine ⟨?_⟩;unfold Instr.makeSlice;obtain ⟨i,hi,h1,h2,h3⟩:=E.inf;refine bt (ci E.sl ?_);refine bt (hp_asInt ?_);refine bt (hp_asInt ?_);refine bt (nJ hi ?_);simp only [h2];have hw:i64.wrap (n:Int) = n:=aE (by omega) (by omega);rw [hw];have hlarge:¬ ((decide ((n:Int) < 0) || decide ((bys:Int) * n > 2 ^ 48) || decide ((n:Int) < 0) || decide ((n:Int) > n)) = true):=by
  have:((bys:Int) * n) <= 2 ^ 48:=by exact_mod_cast hn
  simp; omega
 rw [if_neg hlarge];refine bt ?_;refine hp_askRoom ?_;refine bt (nK hi ?_);rw [h1];refine hp_zc hi h3 (fun _=>.inr trivial) fun c hc=>?_;have harr:((range ((n:Int).toNat * m)).map fun i=>c[i % c.size]!) = ((replicate n x0).flatMap enc).toArray:=by
  rw [← rep_flat_map,hz,Int.toNat_natCast];rcases hc with ⟨h0,rfl⟩ | ⟨h0,rfl⟩
  ·rw [Int.toNat_natCast] at h0;rw [h0];have:((replicate n z).flatMap id) = []:=by
    apply eq_nil_of_length_eq_zero;simp [List.length_flatMap,E.len,h0]
   rw [this]; simp
  ·rw [← E.len]; exact rep_flat z n
 rw [harr];refine bt (hp_newRow s fun b h' s'=>?_);refine ⟨⟨some (b,0),n,n,none⟩,by simp [sv,pa,Int.toNat_natCast],k _ _ ?_⟩;refine jY (.refl _) ?_;obtain ⟨h1',h2',d,e,a,s2⟩:=s';exact ⟨h1',h2',d,e,⟨by simp,le_refl _,.inr ⟨b,[],[],T,(0,0),rfl,by simp,⟨rfl,rfl⟩,by simpa [bkF,blk] using a⟩⟩,s2⟩
theorem wr_two:∀ (a b c:List Value) (i:Nat),wr c i (a++b) = wr (wr c i a) (i + a.length) b
 | [],_,_,_=>rfl
 | v::a,b,c,i=>by
  simp only [List.cons_append,length_cons];rw [wr,wr,wr_two a b _ (i + 1),show i + 1 + a.length = i + (a.length + 1) from by omega]
theorem fold_wr:∀ (vs:List Value) (off j:Nat) (c:Array Value),((vs.zipIdx j).foldl (fun cs (p:Value × Nat)=>cs.setIfInBounds (off + p.2) p.1) c) = (wr c.toList (off + j) vs).toArray
 | [],_,_,_=>rfl
 | v::vs,off,j,c=>by
  simp only [List.zipIdx_cons,List.foldl_cons];rw [fold_wr vs off (j + 1),wr];simp [add_assoc]
def pts {τ:Type} (val:τ->Value):Nat->List τ->List (Nat × Value)
 | _,[]=>[]
 | i,x::xs=>(i,val x)::pts val (i + 1) xs
theorem fill_pts {τ:Type} {m:Nat} {enc:τ->List Value} {val:τ->Value} (he:∀ x,(enc x).length = m) (hv:∀ x,(val x).cells.toList = enc x):∀ (xs:List τ) (i:Nat) (c:List Value),(i + xs.length) * m <= c.length ->
  Instr.fill (fun i=>some (i * m,m)) c.toArray (pts val i xs) = some (wr c (i * m) (xs.flatMap enc)).toArray
 | [],_,_,_=>rfl
 | x::xs,i,c,h=>by
  have hs:(val x).cells.size = m:=by rw [← Array.length_toList,hv,he]
  have h1:i * m + m <= c.length:=by
   refine Nat.le_trans ?_ h;rw [← succ_mul];exact mul_le_mul_right m (by simp)
  have hc:((val x).cells.size ≠ m || decide (i * m + (val x).cells.size > c.toArray.size)) = false:=by
   rw [hs]; simp; omega
  rw [pts,Instr.fill];simp only [hc,Bool.false_eq_true,if_false];have e:((val x).cells.zipIdx.foldl (fun cs (p:Value × Nat)=>cs.setIfInBounds (i * m + p.2) p.1) c.toArray) = (wr c (i * m) (enc x)).toArray:=by
   have h0:(val x).cells = (enc x).toArray:=by rw [← hv]
   rw [h0];have:=fold_wr (enc x) (i * m) 0 c.toArray;simp only [Nat.add_zero] at this;rw [← this];simp
  rw [e,fill_pts he hv xs (i + 1) _ (by rw [sQ]; simpa [add_assoc,Nat.add_comm 1] using h),flatMap_cons,wr_two,he,succ_mul]
theorem db {τ:Type} {S T m bys:Nat} {z:List Value} {enc:τ->List Value} {val:τ->Value} (xs:List τ) {parts:Array (Nat × Value)} {n:Nat} {K:Sl->Hp->Prop} (E:El P S T m bys z) (he:∀ x,(enc x).length = m) (hv:∀ x,(val x).cells.toList = enc x)
  (s:ah l h) (hp_:parts = (pts val 0 xs).toArray) (hn:n = xs.length) (hb:n * m <= 2 ^ 24)
  (k:∀ v h',ah (vec T m enc v xs::l) h'->K v h'):hpv P (Instr.buildSlice S n parts) sv K h:=by
 subst hp_; subst hn;refine ⟨?_⟩;unfold Instr.buildSlice;obtain ⟨i,hi,h1,h2,h3⟩:=E.inf;refine bt (ci E.sl ?_);refine bt (nK hi ?_);rw [h1,if_neg (by omega)];refine hp_zc hi h3 (fun _=>.inr trivial) fun c hc=>?_;have hlen:((range (xs.length * m)).map fun i=>c[i % c.size]!).size = xs.length * m:=by simp
 have hf:=fill_pts he hv xs 0 (((range (xs.length * m)).map fun i=>c[i % c.size]!)).toList (by simp);simp only [zero_mul,Array.toArray_toList] at hf;rw [wr_all (by rw [bR he]; simp)] at hf;simp only [hf];refine bt (hp_newRow s fun b h' s'=>?_);refine ⟨⟨some (b,0),xs.length,xs.length,none⟩,rfl,k _ _ ?_⟩;obtain ⟨h1',h2',d,e,a,s2⟩:=s';exact ⟨h1',h2',d,e,⟨rfl,le_refl _,.inr ⟨b,[],[],T,(0,0),rfl,by simp,⟨rfl,rfl⟩,by simpa [bkF,blk] using a⟩⟩,s2⟩
theorem hp_loadFrom {b off:Nat} {K:Array Value->Hp->Prop}:∀ (cs:List Value) (i:Nat) (acc:Array Value),(∀ j v,cs[j]? = some v->kG h ⟨b,off + (i + j),none⟩ = some v)->K (acc++cs.toArray) h->hp P (loadCellsFrom ⟨b,off,none⟩ i cs.length acc) K h
 | [],_,acc,_,k=>by
  have e:acc++([]:List Value).toArray = acc:=by simp
  rw [e] at k;exact k
 | v::cs,i,acc,hc,k=>by
  simp only [length_cons,loadCellsFrom];refine bt ?_;rw [add_plain];refine ⟨v,hc 0 v rfl,?_⟩;refine hp_loadFrom cs (i + 1) _ (fun j u hj=>by rw [show i + 1 + j = i + (j + 1) from by omega]; exact hc (j + 1) u (by simpa using hj)) ?_;simpa using k
theorem hp_loadCells {b off n:Nat} {cs:List Value} {K:Array Value->Hp->Prop} (hc:rI h (b,off) cs) (hn:cs.length = n) (k:K cs.toArray h):hp P (loadCells ⟨b,off,none⟩ n) K h:=by
 subst hn;obtain ⟨c,T,fr,h1,h2⟩:=hc;refine hp_loadFrom cs 0 #[] (fun j v hj=>?_) (by simpa using k);unfold kG;simp only [h1];simpa using h2 j v hj
theorem star_swap {B:As} {i:Nat} (hi:i < l.length) (s:ah (B::l) h):ah (l.set i B) h:=by
 have hi':(B::l)[i + 1]? = some l[i]:=by simp [hi]
 obtain ⟨h1,h2,d,rfl,_,s'⟩:=eu hi' s;simp only [List.eraseIdx_cons_succ] at s';have:=cO hi s';rw [un_comm d];exact pS this d.symm
theorem grow_le:∀ (k xQ c:Nat),c < xQ->Builtin.growBy xQ k c <= 2 * xQ + 512
 | 0,xQ,c,h=>by unfold Builtin.growBy; omega
 | k + 1,xQ,c,h=>by
  unfold Builtin.growBy;rw [if_neg (by omega)];by_cases h2:c + (c + 768) / 4 < xQ
  ·exact grow_le k xQ _ h2
  ·cases k with
   | zero=>unfold Builtin.growBy; omega
   | succ k=>unfold Builtin.growBy; rw [if_pos (by omega)]; omega
theorem next_le {xQ c:Nat} (h:c < xQ):Builtin.nextslicecap xQ c <= 2 * xQ + 512:=by
 unfold Builtin.nextslicecap;split
 ·omega
 ·split
  ·omega
  ·exact grow_le 4 xQ c h
theorem vec_cells {τ:Type} {T m:Nat} {enc:τ->List Value} {s:Sl} {xs:List τ} {q:Nat × Nat} (he:∀ x,(enc x).length = m) (H:vec T m enc s xs h) (hq:s.a = some q) (hx:s.cap ≠ 0):rI h q (xs.flatMap enc):=by
 obtain ⟨_,_,h3⟩:=H;rcases h3 with h4 | ⟨b,pre,rest,U,fr,h4,h5,_,h6⟩
 ·exact absurd h4 hx
 ·rw [h4] at hq; cases hq;refine ⟨_,_,_,h6,fun i v hv=>?_⟩;have:=(List.getElem?_eq_some_iff.1 hv).1;rw [getElem?_toArray,getElem?_append_right (by omega),show pre.length + i - pre.length = i from by omega,getElem?_append_left this];exact hv
theorem hcells_sub {h g:Hp} {q:Nat × Nat} {cs:List Value} (hc:rI h q cs) (sub:∀ b o,h b = some o->g b = some o):rI g q cs:=by
 obtain ⟨c,T,fr,h1,h2⟩:=hc;exact ⟨c,T,fr,sub _ _ h1,h2⟩
theorem vB {τ:Type} {T m j:Nat} {enc:τ->List Value} {s:Sl} {xs:List τ} {K:Array Value->Hp->Prop} {B:As} (hB:∀ h,B h->vec T m enc s xs h) (he:∀ x,(enc x).length = m) (st:ah l h) (hj:l[j]? = some B) (k:K (xs.flatMap enc).toArray h):hp P (Builtin.firstCells m s.len (sv s)) K h:=by
 obtain ⟨h1,H,sub⟩:=cL hj st
 replace H:=hB _ H
 cases ha:s.a with
 | none =>
  obtain ⟨e1,e2,h3⟩:=H;have:xs = []:=by
   apply eq_nil_of_length_eq_zero;rcases h3 with e3 | ⟨b,pre,rest,U,fr,h4,_⟩
   ·omega
   ·rw [h4] at ha; cases ha
  subst this;unfold sv; rw [ha];exact k
 | some q =>
  have e:sv s = .slice (some ⟨q.1,q.2,none⟩) s.len s.cap:=cN ha;rw [e];by_cases hc:s.cap = 0
  ·have hn:xs = []:=eq_nil_of_length_eq_zero (by have:=H.1; have:=H.2.1; omega);have hl:s.len = 0:=by have:=H.2.1; omega
   subst hn;rw [hl];show hp P (loadCellsFrom ⟨q.1,q.2,none⟩ 0 (0 * m) #[]) K h;rw [zero_mul];exact k
  ·exact hp_loadCells (hcells_sub (vec_cells he H ha hc) sub) (by rw [bR he,H.1]) k
theorem hp_no {α:Type} {c:Prop} [Decidable c] {x y:Sem α} {K:α->Hp->Prop} (hc:¬ c) (k:hp P y K h):hp P (if c then x else y) K h:=by rw [if_neg hc]; exact k
theorem hp_yes {α:Type} {c:Prop} [Decidable c] {x y:Sem α} {K:α->Hp->Prop} (hc:c) (k:hp P x K h):hp P (if c then x else y) K h:=by rw [if_pos hc]; exact k
theorem gh_app {s:Sl} {T m n:Nat} {pre rest rest':List Value} {U:TypeId} {fr:Nat × Nat} {a:Ptr} (g:gh s T m pre rest U fr):gh ⟨a,n,s.cap,s.g.map fun _=>(pre,rest',U,fr)⟩ T m pre rest' U fr:=by
 unfold gh at g ⊢;cases h:s.g with
 | none=>rw [h] at g; exact g
 | some x=>rw [h] at g; exact ⟨rfl,g.2⟩
theorem append_w {τ:Type} {S S' E' T m bys i j:Nat} {z:List Value} {enc:τ->List Value} {s y:Sl} {xs ys:List τ} {R:Nat} {K:Sl->Hp->Prop} {B:As} (hB:∀ h,B h->vec T m enc y ys h) (E:El P S T m bys z) (hS':P.underlying S' = some (.slice E')) (he:∀ x,(enc x).length = m) (ho:∀ x,ce (enc x) = true)
  (st:ah l h) (hi:l[i]? = some (vec T m enc s xs)) (hj:l[j]? = some B) (hij:i ≠ j) (hb:(2 * (xs.length + ys.length) + 512) * bys <= 2 ^ 48) (hb2:xs.length + ys.length < 2 ^ 62)
  (k:∀ v h',ah (l.set i (vec T m enc v (xs++ys))) h'->K v h'):hpv P (Builtin.append_ #[S,S'] R #[sv s,sv y]) sv K h:=by
 refine ⟨?_⟩;unfold Builtin.append_;obtain ⟨inf,hinf,h1,h2,h3⟩:=E.inf;obtain ⟨_,es,_⟩:=cL hi st;obtain ⟨_,ey,_⟩:=cL hj st
 replace ey:=hB _ ey
 have hsl:=es.1;have hyl:=ey.1;have hilt:=(List.getElem?_eq_some_iff.1 hi).1;simp only [getElem?_toArray,List.getElem?_cons_zero,List.getElem?_cons_succ];refine bt (ci E.sl ?_);simp only [sv];refine bt (nK hinf ?_);refine bt (bt (ci hS' ?_));rw [h1];by_cases hfit:s.len + y.len <= s.cap
 ·refine hp_yes hfit ?_;refine bt (vB hB he st hj ?_);cases ha:s.a with
  | none =>
   have hnil:xs = []/\ys = []:=by
    obtain ⟨e1,e2,e3⟩:=es;rcases e3 with e3 | ⟨b,pre,rest,U,fr,h4,_⟩
    ·exact ⟨eq_nil_of_length_eq_zero (by omega),eq_nil_of_length_eq_zero (by omega)⟩
    ·rw [h4] at ha; cases ha
   refine ⟨s,?_,k s h ?_⟩
   ·have:y.len = 0:=by rw [hyl,hnil.2]; rfl
    simp [sv,ha,pa,this]
   ·rw [hnil.1,hnil.2];have dh:l.set i (vec T m enc s ([]++[])) = l:=by
     apply ext_getElem?;intro n;rw [List.getElem?_set];by_cases e:i = n
     ·subst e; rw [hi,hnil.1]; simp [hilt]
     ·simp [e]
    rw [dh]; exact st
  | some q =>
   simp only [pa];obtain ⟨g1,g2,d,rfl,H,s'⟩:=eu hi st;obtain ⟨e1,e2,e3⟩:=H;rcases e3 with h4 | ⟨b,pre,rest,U,fr,h4,h5,hg,h6⟩
   ·have hnx:xs = []:=eq_nil_of_length_eq_zero (by omega);have hny:ys = []:=eq_nil_of_length_eq_zero (by omega);subst hnx; subst hny;refine bt ?_;refine ⟨s,?_,k s _ (cO hilt ⟨g1,g2,d,rfl,⟨e1,e2,.inl h4⟩,s'⟩)⟩;have:y.len = 0:=hyl;simp [sv,ha,pa,this]
   ·rw [h4] at ha; cases ha;have hfx:=bR he xs;have hfy:=bR he ys;have hroom:(s.len + y.len) * m <= s.cap * m:=mul_le_mul_right m hfit;rw [add_mul] at hroom;have hr:ys.length * m <= rest.length:=by rw [← hyl]; omega
    have ew:wr (pre++(xs.flatMap enc++rest)) (pre.length + s.len * m + 0) (ys.flatMap enc) = pre++((xs++ys).flatMap enc++rest.drop (ys.length * m)):=by
     rw [Nat.add_zero,qC,show s.len * m = (xs.flatMap enc).length + 0 from by rw [hfx,hsl]; rfl,qC,List.flatMap_append,List.append_assoc]
     congr 2
     rw [wr_app _ _ _ (by rw [hfy]; omega),zero_add,hfy];simp
    have hsm:s.len * m = xs.length * m:=by rw [hsl]
    have hym:y.len * m = ys.length * m:=by rw [hyl]
    have hoy:ce (ys.flatMap enc) = true:=by
     unfold ce;rw [List.all_flatMap,List.all_eq_true];exact fun x _=>ho x
    refine bt ?_;rw [add_plain];refine iS (T:=U) (fr:=fr) (ys.flatMap enc) 0 (pre.length + s.len * m) (pre++(xs.flatMap enc++rest)) _ (un_left h6) (fun j j1 j2=>gh_nf hg j (by omega) (by rw [hfy] at j2; omega)) (by simp [hfx,hfy]; omega) hoy ?_;rw [ew];obtain ⟨d',e'⟩:=set_dj (o':=.cells (pre++((xs++ys).flatMap enc++rest.drop (ys.length * m))).toArray U fr) d h6;rw [e'];refine ⟨⟨some (b,pre.length),s.len + y.len,s.cap,s.g.map fun _=>(pre,rest.drop (ys.length * m),U,fr)⟩,rfl,k _ _ (cO hilt ⟨_,g2,d',rfl,⟨?_,hfit,.inr ⟨b,pre,_,U,fr,rfl,?_,gh_app hg,iR _ _ _⟩⟩,s'⟩)⟩
    ·simp [hsl,hyl]
    ·simp only [List.length_drop]; rw [add_mul,hyl]; omega
 ·refine hp_no hfit ?_;have hov:¬ ((s.len + y.len:Nat):Int) > i64.max:=by
   have:(i64.max:Int) = 2 ^ 63 - 1:=by rfl
   rw [this]; omega
  refine bt (nJ hinf ?_);refine hp_no (fun hh=>hov hh.1) ?_;refine bt (nJ hinf ?_);have hnx:=next_le (xQ:=s.len + y.len) (c:=s.cap) (by omega);have hle:Builtin.nextslicecap (s.len + y.len) s.cap * inf.bytes <= 2 ^ 48:=by
   rw [h2];refine Nat.le_trans (mul_le_mul_right bys hnx) ?_;rw [hsl,hyl]; exact hb
  refine hp_no (by omega) ?_;refine bt ?_;simp only [choose,hp];rw [if_neg (by simp [Question.forced])];intro t;generalize hcap:(Question.appendCap (s.len + y.len) s.cap T).cut t = newCap;have hge:s.len + y.len <= newCap:=by rw [← hcap]; simp [Question.cut]
  refine bt (nJ hinf ?_);refine bt (hp_askRoom ?_);refine bt (vB (fun _ x=>x) he st hi ?_);refine bt (vB hB he st hj ?_);cases hz:inf.zero with
  | none=>rw [hz] at h3; cases h3
  | some zv =>
   rw [hz] at h3;simp only [map_some,Option.some.injEq] at h3;refine bt (sJ hinf hz ?_);have hzc:zv.cells = z.toArray:=by rw [← h3]
   have hrest:Builtin.zeroCells zv.cells (newCap - (s.len + y.len)) = ((replicate (newCap - (s.len + y.len)) z).flatMap id).toArray:=by
    rw [hzc]; unfold Builtin.zeroCells; exact rep_flat z _
   rw [hrest];have hrl:((replicate (newCap - (s.len + y.len)) z).flatMap id).length = (newCap - (s.len + y.len)) * m:=by simp [List.length_flatMap,E.len]
   have hrow:(xs.flatMap enc).toArray++(ys.flatMap enc).toArray++((replicate (newCap - (s.len + y.len)) z).flatMap id).toArray = ([]++((xs++ys).flatMap enc++(replicate (newCap - (s.len + y.len)) z).flatMap id)).toArray:=by simp
   rw [hrow];refine bt (hp_newRow st fun b h' s'=>?_);refine ⟨⟨some (b,0),s.len + y.len,newCap,none⟩,rfl,k _ _ (star_swap hilt ?_)⟩;obtain ⟨g1,g2,d,e,a,s2⟩:=s';refine ⟨g1,g2,d,e,⟨by simp [hsl,hyl],hge,.inr ⟨b,[],_,T,(0,0),rfl,?_,⟨rfl,rfl⟩,a⟩⟩,s2⟩;rw [hrl,← add_mul];exact mul_le_mul_right m (show newCap <= s.len + y.len + _ by omega)
theorem ru {τ:Type} {S S' E' T m bys i j:Nat} {z:List Value} {enc:τ->List Value} {s y:Sl} {xs ys:List τ} {R:Nat} {K:Sl->Hp->Prop} (E:El P S T m bys z) (hS':P.underlying S' = some (.slice E')) (he:∀ x,(enc x).length = m) (ho:∀ x,ce (enc x) = true)
  (st:ah l h) (hi:l[i]? = some (vec T m enc s xs)) (hj:l[j]? = some (vec T m enc y ys)) (hij:i ≠ j) (hb:(2 * (xs.length + ys.length) + 512) * bys <= 2 ^ 48) (hb2:xs.length + ys.length < 2 ^ 62)
  (k:∀ v h',ah (l.set i (vec T m enc v (xs++ys))) h'->K v h'):hpv P (Builtin.append_ #[S,S'] R #[sv s,sv y]) sv K h:=append_w (fun _ x=>x) E hS' he ho st hi hj hij hb hb2 k
end
end Mb
end
section
open Go
namespace Mb
section
variable {l:List As} {h:Hp}
theorem get_nat' {α:Type} {xs:List α} {i:Nat} (h:i < xs.length):xs[i]? = some xs[i]:=List.getElem?_eq_some_iff.2 ⟨h,rfl⟩
def ex {α:Type} (A:α->As):As:=fun h=>∃ x,A x h
theorem op_ {α:Type} {φ:α->Prop} {m:α->List As} (s:ah ((fun h=>∃ x,φ x/\ah (m x) h)::l) h):∃ x,φ x/\ah (m x++l) h:=by
 obtain ⟨h1,h2,d,e,⟨x,f,s1⟩,s2⟩:=s;exact ⟨x,f,dP.2 ⟨h1,h2,d,e,s1,s2⟩⟩
theorem cl_ {α:Type} {φ:α->Prop} {m:α->List As} (x:α) (f:φ x) (s:ah (m x++l) h):ah ((fun h=>∃ x,φ x/\ah (m x) h)::l) h:=by
 obtain ⟨h1,h2,d,e,s1,s2⟩:=dP.1 s;exact ⟨h1,h2,d,e,⟨x,f,s1⟩,s2⟩
theorem star_cons {A:As} (a:∀ h,A h) (s:ah l h):ah (A::l) h:=⟨emp,h,Dj.emp_left _,rfl,a _,s⟩
theorem dp {τ:Type} {T m:Nat} {enc:τ->List Value} (s:ah l h):ah (vec T m enc (⟨none,0,0,none⟩:Sl) []::l) h :=
 star_cons (fun _=>⟨rfl,le_refl _,.inl rfl⟩) s
theorem bT {m:List As} (s:ah (ah m::l) h):ah (m++l) h:=by
 obtain ⟨h1,h2,d,e,a,s'⟩:=s;exact dP.2 ⟨h1,h2,d,e,a,s'⟩
theorem vV {A:As} {m:List As} (s:ah (A::l) h) (hm:∀ h,ah l h->ah m h):ah (A::m) h:=by
 obtain ⟨h1,h2,d,e,a,s'⟩:=s;exact ⟨h1,h2,d,e,a,hm _ s'⟩
theorem aw {φ:Prop} {m:List As} (f:φ) (s:ah m h):pa_ φ m h:=⟨f,s⟩
end
theorem vec_set_row {τ:Type} {T m i:Nat} {enc:τ->List Value} {s:Sl} {xs ys:List τ} {l:List As} {h:Hp} {K:Hp->Prop} {P:Program} (he:∀ x,(enc x).length = m) (ho:∀ x,ce (enc x) = true) (hlen:ys.length = xs.length) (st:ah l h) (hi:l[i]? = some (vec T m enc s xs)) {q:Nat × Nat} (hq:s.a = some q)
  (k:∀ h',ah (l.set i (vec T m enc s ys)) h'->K h'):hp P (storeCells ⟨q.1,q.2,none⟩ (ys.flatMap enc)) (fun _ h=>K h) h:=by
 obtain ⟨g1,g2,d,rfl,⟨e1,e2,e3⟩,s'⟩:=eu hi st;rcases e3 with h4 | ⟨b,pre,rest,U,fr,h4,h5,hg,h6⟩
 ·have hny:ys = []:=eq_nil_of_length_eq_zero (by omega);have hnx:xs = []:=eq_nil_of_length_eq_zero (by omega);subst hny; subst hnx;exact k _ (cO (List.getElem?_eq_some_iff.1 hi).1 ⟨g1,g2,d,rfl,⟨e1,e2,.inl h4⟩,s'⟩)
 ·rw [h4] at hq; cases hq;have hfx:=bR he xs;have hfy:=bR he ys;have hoy:ce (ys.flatMap enc) = true:=by
   unfold ce;rw [List.all_flatMap,List.all_eq_true];exact fun x _=>ho x
  have ew:wr (pre++(xs.flatMap enc++rest)) (pre.length + 0) (ys.flatMap enc) = pre++(ys.flatMap enc++rest):=by
   rw [qC,wr_left _ _ _ _ (by rw [hfx,hfy,hlen,zero_add]; exact le_refl _),wr_all (by rw [hfx,hfy,hlen])]
  have hcap:s.len * m <= s.cap * m:=mul_le_mul_right m e2;have hlm:s.len * m = xs.length * m:=by rw [e1]
  refine iS (T:=U) (fr:=fr) (ys.flatMap enc) 0 pre.length (pre++(xs.flatMap enc++rest)) _ (un_left h6) (fun j j1 j2=>gh_nf hg j (by omega) (by rw [hfy,hlen] at j2; omega)) (by simp [hfx,hfy,hlen]) hoy ?_;rw [ew];obtain ⟨d',e'⟩:=set_dj (o':=.cells (pre++(ys.flatMap enc++rest)).toArray U fr) d h6;rw [e'];exact k _ (cO (List.getElem?_eq_some_iff.1 hi).1 ⟨_,g2,d',rfl,⟨by rw [e1,hlen],e2,.inr ⟨b,pre,rest,U,fr,h4,h5,hg,iR _ _ _⟩⟩,s'⟩)
def encU (_:Unit):Value:=.tuple #[]
theorem clear_v {τ:Type} {S T m bys i R:Nat} {z:List Value} {enc:τ->List Value} {x0:τ} {s:Sl} {xs:List τ} {l:List As} {h:Hp} {K:Unit->Hp->Prop} {P:Program} (E:El P S T m bys z) (hz:enc x0 = z) (he:∀ x,(enc x).length = m) (ho:∀ x,ce (enc x) = true) (st:ah l h) (hi:l[i]? = some (vec T m enc s xs))
  (k:∀ h',ah (l.set i (vec T m enc s (replicate xs.length x0))) h'->K () h'):hpv P (Builtin.clear_ #[S] R #[sv s]) encU K h:=by
 refine ⟨?_⟩;obtain ⟨_,es,_⟩:=cL hi st;have hilt:=(List.getElem?_eq_some_iff.1 hi).1;unfold Builtin.clear_;simp only [getElem?_toArray,List.getElem?_cons_zero];refine bt (ci E.sl ?_);have same:xs = []->ah (l.set i (vec T m enc s (replicate xs.length x0))) h:=by
  intro e;subst e;have:l.set i (vec T m enc s (replicate ([]:List τ).length x0)) = l:=by
   apply ext_getElem?;intro n;rw [List.getElem?_set];by_cases e:i = n
   ·subst e; rw [hi]; simp [hilt]
   ·simp [e]
  rw [this]; exact st
 cases ha:s.a with
 | none =>
  have hnil:xs = []:=by
   obtain ⟨e1,e2,e3⟩:=es;rcases e3 with e3 | ⟨b,pre,rest,U,fr,h4,_⟩
   ·exact eq_nil_of_length_eq_zero (by omega)
   ·rw [h4] at ha; cases ha
  simp only [sv,ha,pa];exact ⟨(),rfl,k h (same hnil)⟩
 | some q =>
  simp only [sv,ha,pa];cases hn:s.len with
  | zero =>
   have hnil:xs = []:=eq_nil_of_length_eq_zero (by rw [← es.1]; exact hn);exact ⟨(),rfl,k h (same hnil)⟩
  | succ n =>
   obtain ⟨inf,hinf,h1,h2,h3⟩:=E.inf;cases hzv:inf.zero with
   | none=>rw [hzv] at h3; cases h3
   | some zv =>
    rw [hzv] at h3;simp only [map_some,Option.some.injEq] at h3;refine bt (sJ hinf hzv ?_);refine bt ?_;have hzc:zv.cells = z.toArray:=by rw [← h3]
    have hrow:(Builtin.zeroCells zv.cells (n + 1)).toList = (replicate xs.length x0).flatMap enc:=by
     rw [hzc]; unfold Builtin.zeroCells;have:=rep_flat z (n + 1);simp only [List.size_toArray] at this ⊢;rw [this,← hz,rep_flat_map,← es.1,hn]
    rw [hrow];refine vec_set_row (K:=fun h'=>∃ r,Value.tuple #[] = encU r/\K r h') he ho (by simp) st hi ha fun h' s'=>?_;exact ⟨(),rfl,k h' s'⟩
theorem oneI (k:IntKind) (x:Int):ce (cI k x) = true:=rfl
theorem oneS (x:Sl):ce (cS x) = true:=rfl
section
variable {τ:Type} {m:Nat} {enc:τ->List Value} {l:List As} {h:Hp}
theorem ld_a {σ:Type} {T j i k:Nat} {b:Nat} {pre rest:List Value} {xs:List τ} {enc':σ->List Value} {K:σ->Hp->Prop} {off:Nat} (y:σ) (he:∀ x,(enc x).length = m) (st:ah l h) (hj:l[j]? = some (blk b T (pre++(xs.flatMap enc++rest)))) (hoff:off = pre.length + i * m + k)
  {x:τ} (hx:xs[i]? = some x) (hy:∀ n v,(enc' y)[n]? = some v->(enc x)[k + n]? = some v) (kk:K y h):ld (b,off) enc' K h:=by
 refine ld_s y st hj (fun n v hn=>?_) kk;have:=mK he xs i (k + n) x v hx (hy n v hn);have hlt:=(List.getElem?_eq_some_iff.1 this).1;rw [hoff,getElem?_append_right (by omega),show pre.length + i * m + k + n - pre.length = i * m + (k + n) from by omega,getElem?_append_left hlt];exact this
theorem st_a {T j i k:Nat} {b:Nat} {pre rest:List Value} {xs:List τ} {vs:List Value} {K:Hp->Prop} {off:Nat} (y:τ) (he:∀ x,(enc x).length = m) (s0:ah l h) (hj:l[j]? = some (blk b T (pre++(xs.flatMap enc++rest)))) (hoff:off = pre.length + i * m + k)
  {x:τ} (hx:xs[i]? = some x) (hlen:k + vs.length <= m) (hy:enc y = wr (enc x) k vs) (kk:∀ h',ah (l.set j (blk b T (pre++((xs.set i y).flatMap enc++rest)))) h'->K h'):st (b,off) vs K h:=by
 have hi:=(List.getElem?_eq_some_iff.1 hx).1;have hfl:=bR he xs;have hm:(i + 1) * m <= xs.length * m:=mul_le_mul_right m hi;rw [succ_mul] at hm;refine mX s0 hj (by simp [hoff,hfl]; omega) fun h' s'=>kk h' ?_;have ew:wr (pre++(xs.flatMap enc++rest)) off vs = pre++((xs.set i y).flatMap enc++rest):=by
  rw [hoff,add_assoc,qC,wr_left _ _ _ _ (by rw [hfl]; omega),flat_wr he xs i k x y vs hx hlen hy]
 rw [ew] at s';exact s'
end
section
variable {P:Program} {l:List As} {h:Hp}
theorem hp_isAgg_ag {T n:Nat} (t:Ag P T n) {K:Bool->Hp->Prop} (k:K true h):hp P (isAgg T) K h:=by
 obtain ⟨D,h1,h2⟩:=t.und;unfold isAgg;refine bt (ci h1 ?_);cases D <;> first | exact k | cases h2
theorem tR {kd:IntKind} {n:Int} {K:IntKind × Int->Hp->Prop} (k:K (kd,n) h):hp P (asIntOf (.int kd n)) K h:=k
theorem loadAt_v {τ:Type} {T n b off:Nat} {cs:List Value} {enc:τ->Value} {r:τ} {K:τ->Hp->Prop} (t:Ag P T n) (hc:rI h (b,off) cs) (hn:cs.length = n) (hr:enc r = .agg cs.toArray) (k:K r h):hpv P (Instr.loadAt T (.pointer (some ⟨b,off,none⟩))) enc K h:=by
 refine ⟨?_⟩;obtain ⟨inf,h1,h2⟩:=t.inf;show hp P (loadVar T ⟨b,off,none⟩) _ h;unfold loadVar;refine bt (hp_isAgg_ag t ?_);refine hp_yes rfl ?_;refine bt (nK h1 ?_);rw [h2];refine bt (hp_loadCells hc hn ?_);exact ⟨r,hr.symm,k⟩
theorem index_v {τ:Type} {S T len m i:Nat} {enc:τ->List Value} {val:τ->Value} {xs:List τ} {x:τ} {K:τ->Hp->Prop} (hS:P.underlying S = some (.array len T)) (t:Ag P T m) (he:∀ x,(enc x).length = m) (hv:∀ x,val x = .agg (enc x).toArray) (hl:xs.length = len) (hx:xs[i]? = some x) (k:K x h) :
  hpv P (Instr.index S (.agg (xs.flatMap enc).toArray) (.int .i64 i)) val K h:=by
 refine ⟨?_⟩;have hi:=(List.getElem?_eq_some_iff.1 hx).1;obtain ⟨inf,h1,h2⟩:=t.inf;unfold Instr.index;refine bt (tR ?_);refine bt (ci hS ?_);refine hp_yes ⟨by omega,by omega⟩ ?_;refine bt (nK h1 ?_);unfold part;refine bt (hp_isAgg_ag t ?_);refine bt (nK h1 ?_);refine ⟨x,?_,k⟩;rw [hv,h2];have:(xs.flatMap enc).toArray.extract ((i:Int).toNat * m) ((i:Int).toNat * m + m) = (enc x).toArray:=by
  apply ext';rw [Array.toList_extract];simp only [Int.toNat_natCast,List.extract];rw [Nat.add_sub_cancel_left];apply ext_getElem?;intro n;rw [List.getElem?_take,List.getElem?_drop];by_cases hn:n < m
  ·rw [if_pos hn];have hlt:n < (enc x).length:=by rw [he]; exact hn
   rw [mK he xs i n x _ hx (get_nat' hlt)];exact (get_nat' hlt).symm
  ·rw [if_neg hn];exact (List.getElem?_eq_none (by rw [he]; omega)).symm
 rw [this]
end
theorem sliceFrom_v {τ:Type} {P:Program} {l:List As} {h:Hp} {S T m bys i:Nat} {z:List Value} {enc:τ->List Value} {R:Sl->Value} {s:Sl} {xs:List τ} {n:Nat} {K:Sl->Hp->Prop} (E:El P S T m bys z) (he:∀ x,(enc x).length = m) (hR:R = sv) (st:ah l h) (hi:l[i]? = some (vec T m enc s xs)) (hn:n <= xs.length)
  (k:∀ v,ah (l.set i (vec T m enc v (xs.drop n))) h->K v h):hpv P (Instr.sliceAt S (sv s) (some (.int .i64 n)) none none) R K h:=by
 subst hR;refine ⟨?_⟩;have hilt:=(List.getElem?_eq_some_iff.1 hi).1;obtain ⟨g1,g2,d,rfl,⟨e1,e2,e3⟩,s'⟩:=eu hi st;obtain ⟨inf,hinf,h1,h2,h3⟩:=E.inf;unfold Instr.sliceAt;refine bt (ci E.sl ?_);show hp P (Instr.slice S (sv s) _ _ _) _ _;unfold Instr.slice;refine bt (ci E.sl ?_);simp only [sv];refine bt ?_;unfold Instr.sliceBounds;refine bt ?_;refine bt ?_;refine bt ?_;unfold Instr.sliceBound;refine bt (tR ?_);refine hp_yes ⟨by omega,by omega⟩ ?_;refine bt (nK hinf ?_);rw [h1];rcases e3 with h5 | ⟨b,pre,rest,U,fr,h4,h5,hg,h6⟩
 ·have hn0:n = 0:=by omega
  subst hn0;refine ⟨s,?_,k s ?_⟩
  ·simp [sv,h5]
  ·exact cO hilt ⟨g1,g2,d,rfl,⟨by simpa using e1,e2,.inl h5⟩,s'⟩
 ·by_cases hc:s.cap = n
  ·have hx:xs.drop n = []:=by apply List.drop_eq_nil_of_le; omega
   refine ⟨⟨s.a,s.len - n,s.cap - n,none⟩,?_,k _ (cO hilt ⟨g1,g2,d,rfl,⟨?_,by show s.len - n <= s.cap - n; omega,.inl (by show s.cap - n = 0; omega)⟩,s'⟩)⟩
   ·rw [if_pos (by simpa using hc)]; simp [sv]
   ·show s.len - n = _; rw [hx]; simp; omega
  ·refine ⟨⟨some (b,pre.length + n * m),s.len - n,s.cap - n,s.g.map fun _=>(pre++(xs.take n).flatMap enc,rest,U,fr)⟩,?_,k _ (cO hilt ⟨g1,g2,d,rfl,⟨?_,by show s.len - n <= s.cap - n; omega,.inr ⟨b,pre++(xs.take n).flatMap enc,rest,U,fr,?_,?_,?_,?_⟩⟩,s'⟩)⟩
   ·rw [if_neg (by simpa using hc)]; simp [sv,h4,pa,add_plain]
   ·show s.len - n = _; simp; omega
   ·show some (b,pre.length + n * m) = _;rw [List.length_append,bR he]; simp; rw [Nat.min_eq_left hn]
   ·show (s.cap - n) * m <= (s.len - n) * m + rest.length;rw [Nat.sub_mul,Nat.sub_mul];have:n * m <= s.len * m:=mul_le_mul_right m (by omega);omega
   ·have hpl:(pre++(xs.take n).flatMap enc).length = pre.length + n * m:=by rw [List.length_append,bR he]; simp; rw [Nat.min_eq_left hn]
    unfold gh at hg ⊢;cases hsg:s.g with
    | none=>rw [hsg] at hg; exact hg
    | some x =>
     rw [hsg] at hg;refine ⟨rfl,fun j j1 j2=>hg.2 j (by rw [hpl] at j1; omega) ?_⟩;rw [hpl] at j2;have j2':j < pre.length + n * m + (s.cap - n) * m:=j2;have hnc:n <= s.cap:=by omega
     have:n * m + (s.cap - n) * m = s.cap * m:=by rw [← add_mul]; congr 1; omega
     omega
   ·have:pre++(xs.take n).flatMap enc++((xs.drop n).flatMap enc++rest) = pre++(xs.flatMap enc++rest):=by
     rw [List.append_assoc,← List.append_assoc ((xs.take n).flatMap enc),← List.flatMap_append,List.take_append_drop]
    rw [this]; exact h6
theorem iX {τ:Type} {P:Program} {l:List As} {h:Hp} {S T m bys i:Nat} {z:List Value} {enc:τ->List Value} {val:τ->Value} {R R':Sl->Value} {s:Sl} {xs:List τ} {x:τ} {K:Sl->Hp->Prop} {Q:Nat} (E:El P S T m bys z) (he:∀ x,(enc x).length = m) (ho:∀ x,ce (enc x) = true) (hv:∀ x,(val x).cells.toList = enc x)
  (hm:m <= 2 ^ 24) (hR:R = sv) (hR':R' = sv) (st:ah l h) (hi:l[i]? = some (vec T m enc s xs)) (hb:(2 * (xs.length + 1) + 512) * bys <= 2 ^ 48) (hb2:xs.length < 2 ^ 60)
  (k:∀ v h',ah (l.set i (vec T m enc v (xs++[x]))) h'->K v h'):hpv P (Instr.buildSlice S 1 #[(0,val x)]) R (fun y=>hpv P (Builtin.append_ #[S,S] Q #[sv s,sv y]) R' K) h:=by
 subst hR; subst hR';refine db [x] (val:=val) (enc:=enc) E he hv st rfl rfl (by simpa using hm) fun y h' s1=>?_;refine ru (i:=i + 1) (j:=0) (enc:=enc) (ys:=[x]) E E.sl he ho s1 (by simpa using hi) rfl (by omega) (by simpa using hb) (by simp; omega) fun v h2 s2=>?_;exact k v h2 (aT (l:=[vec T m enc y [x]]) (by simpa using s2))
theorem c1 {c d:List Value} {u:Value} {k:Nat} (h1:d = [u]) (h2:c[k]? = some u):∀ (n:Nat) (v:Value),d[n]? = some v->c[k + n]? = some v:=by
 intro n v hv;subst h1;cases n with
 | zero=>simp at hv; subst hv; exact h2
 | succ n=>simp at hv
theorem al {α:Type} {xs:List α} {i:Nat} (h:i < xs.length):xs[i]? = some xs[i]:=List.getElem?_eq_some_iff.2 ⟨h,rfl⟩
theorem bd (k:IntKind) (x:Int):(cI k x).length = 1:=rfl
end Mb
end
section
open Go
namespace Mb
structure Mp (P:Program) (S K E:TypeId) (z:Value):Prop where
 mp:P.underlying S = some (.map K E)
 key:∃ kd,P.underlying K = some (.int kd)
 inf:∃ i,P.info? E = some i/\i.zero = some z
section
variable {τ:Type}
def fi (x:Int):List (Int × τ)->Nat->Option (Nat × τ)
 | [],_=>none
 | p::m,i=>if x = p.1 then some (i,p.2) else fi x m (i + 1)
def ents (val:τ->Value) (es:List MapEntry) (m:List (Int × τ)):Prop:=es.map (fun e=>(e.key,e.val)) = m.map (fun p=>(Value.int .i64 p.1,val p.2))
def mapA (b:Nat) (val:τ->Value) (f:Int->Option τ):As:=fun h=>∃ (es:List MapEntry) (m:List (Int × τ)) (clock:Nat),h b = some (.map es.toArray clock)/\ents val es m/\∀ x,(fi x m 0).map (·.2) = f x
theorem wQ (x:Int):∀ (m:List (Int × τ)) (i:Nat),fi x m i = (fi x m 0).map (fun r=>(r.1 + i,r.2))
 | [],_=>rfl
 | p::m,i=>by
  unfold fi;split
  ·simp
  ·rw [wQ x m (i + 1),wQ x m (0 + 1)];cases fi x m 0 with
   | none=>rfl
   | some r=>simp; omega
theorem fi_v (x:Int) (m:List (Int × τ)) (i:Nat):(fi x m i).map (·.2) = (fi x m 0).map (·.2):=by
 rw [wQ x m i]; cases fi x m 0 <;> rfl
theorem find_now {val:τ->Value} {kd:IntKind} (x:Int):∀ {es:List MapEntry} {m:List (Int × τ)} (i:Nat),ents val es m->Instr.findNow (.int kd) (.int .i64 x) es i = some ((fi x m i).map fun r=>(r.1,val r.2))
 | [],[],_,_=>rfl
 | [],_::_,_,h=>by simp [ents] at h
 | _::_,[],_,h=>by simp [ents] at h
 | e::es,p::m,i,h=>by
  simp only [ents,List.map_cons,List.cons.injEq,Prod.mk.injEq] at h;obtain ⟨⟨h1,h2⟩,h3⟩:=h;unfold Instr.findNow fi;rw [h1,h2];by_cases hx:x = p.1
  ·subst hx; simp [Instr.sameNow]
  ·have:(x == p.1) = false:=by simpa using hx
   simp only [Instr.sameNow,this,if_true,if_neg hx];exact find_now x (i + 1) h3
theorem fi_get {x:Int} {v:τ} {i:Nat}:∀ {m:List (Int × τ)},fi x m 0 = some (i,v)->m[i]? = some (x,v)
 | [],h=>by cases h
 | p::m,h=>by
  unfold fi at h;split at h
  ·rename_i hx;cases h; subst hx; rfl
  ·rw [wQ] at h;cases hm:fi x m 0 with
   | none=>rw [hm] at h; cases h
   | some r =>
    rw [hm] at h;simp only [map_some,Option.some.injEq,Prod.mk.injEq] at h;obtain ⟨h1,h2⟩:=h;subst h2; subst h1;simp only [List.getElem?_cons_succ];exact fi_get (m:=m) (by rw [hm])
theorem fi_set {x y:Int} {v w:τ} {i:Nat}:∀ {m:List (Int × τ)},fi x m 0 = some (i,v)->(fi y (m.set i (x,w)) 0).map (·.2) = if y = x then some w else (fi y m 0).map (·.2)
 | [],h=>by cases h
 | p::m,h=>by
  unfold fi at h;split at h
  ·rename_i hx;cases h; subst hx;simp only [List.set_cons_zero,fi];by_cases hy:y = p.1
   ·simp [hy]
   ·simp [hy]
  ·rename_i hx;rw [wQ] at h;cases hm:fi x m 0 with
   | none=>rw [hm] at h; cases h
   | some r =>
    rw [hm] at h;simp only [map_some,Option.some.injEq,Prod.mk.injEq] at h;obtain ⟨h1,h2⟩:=h;subst h2; subst h1;have ih:=fi_set (x:=x) (y:=y) (v:=r.2) (w:=w) (i:=r.1) (m:=m) (by rw [hm]);simp only [List.set_cons_succ,fi];by_cases hy:y = p.1
    ·have:y ≠ x:=fun e=>hx (e.symm.trans hy);simp [hy];intro e; exact absurd e.symm hx
    ·rw [if_neg hy,if_neg hy,fi_v y _ (0 + 1),fi_v y m (0 + 1)];exact ih
theorem fi_push {x y:Int} {w:τ}:∀ {m:List (Int × τ)},fi x m 0 = none->(fi y (m++[(x,w)]) 0).map (·.2) = if y = x then some w else (fi y m 0).map (·.2)
 | [],_=>by
  simp only [List.nil_append,fi];by_cases hy:y = x <;> simp [hy]
 | p::m,h=>by
  unfold fi at h;split at h
  ·cases h
  ·rename_i hx;rw [wQ] at h;have hm:fi x m 0 = none:=by
    cases hm:fi x m 0 with
    | none=>rfl
    | some r=>rw [hm] at h; cases h
   have ih:=fi_push (y:=y) (w:=w) hm;simp only [List.cons_append,fi];by_cases hy:y = p.1
   ·have:¬ y = x:=fun e=>hx (e.symm.trans hy);simp [hy];intro e; exact absurd e.symm hx
   ·rw [if_neg hy,if_neg hy,fi_v y _ (0 + 1),fi_v y m (0 + 1)];exact ih
theorem ents_set {val:τ->Value} {x:Int} {w:τ} {i:Nat} {es:List MapEntry} {m:List (Int × τ)} (h:ents val es m) (g:MapEntry->MapEntry) (hg:∀ e,es[i]? = some e->(g e).key = .int .i64 x/\(g e).val = val w):ents val (es.toArray.modify i g).toList (m.set i (x,w)):=by
 unfold ents at h ⊢;apply ext_getElem?;intro j;have hj:(es.map (fun e=>(e.key,e.val)))[j]? = (m.map (fun p=>(Value.int .i64 p.1,val p.2)))[j]?:=by rw [h]
 simp only [List.getElem?_map] at hj ⊢;rw [Array.getElem?_toList,Array.getElem?_modify,List.getElem?_set,getElem?_toArray];by_cases hij:i = j
 ·subst hij;rw [if_pos rfl];cases he:es[i]? with
  | none =>
   rw [he] at hj;have:m[i]? = none:=by cases hm:m[i]? with
    | none=>rfl
    | some p=>rw [hm] at hj; cases hj
   have hlt:¬ i < m.length:=by intro hlt; rw [List.getElem?_eq_getElem hlt] at this; cases this
   simp [hlt]
  | some e =>
   rw [he] at hj;have hlt:i < m.length:=by
    cases hm:m[i]? with
    | none=>rw [hm] at hj; cases hj
    | some p=>exact (List.getElem?_eq_some_iff.1 hm).1
   obtain ⟨g1,g2⟩:=hg e he;simp [hlt,g1,g2]
 ·rw [if_neg hij,if_neg hij]; exact hj
theorem ents_push {val:τ->Value} {x:Int} {w:τ} {es:List MapEntry} {m:List (Int × τ)} {c:Nat} (h:ents val es m):ents val (es.toArray.push { key:=.int .i64 x,val:=val w,born:=c }).toList (m++[(x,w)]):=by
 unfold ents at h ⊢;simp [h]
end
section
variable {P:Program} {l:List As} {h:Hp} {τ:Type} {S K E:TypeId} {z:Value} {val:τ->Value}
theorem hp_checkKey {kd k:IntKind} {b:Bool} {x:Int} {Q:Unit->Hp->Prop} (e:P.underlying K = some (.int kd)) (q:Q () h):hp P (Instr.checkKey b 10000 K (.int k x)) Q h:=by
 unfold Instr.checkKey;refine bt (ci e ?_);exact q
theorem hp_findKey {kd:IntKind} {x:Int} {es:List MapEntry} {m:List (Int × τ)} {Q:Option (Nat × Value)->Hp->Prop} (e:P.underlying K = some (.int kd)) (he:ents val es m) (q:Q ((fi x m 0).map fun r=>(r.1,val r.2)) h):hp P (Instr.findKey K (.int .i64 x) es) Q h:=by
 unfold Instr.findKey;refine bt (ci e ?_);rw [find_now x 0 he];exact q
theorem hp_getObj {b:Nat} {o:Obj} {Q:Obj->Hp->Prop} (e:h b = some o) (hc:ye o = false) (q:Q o h):hp P (getObj b) Q h:=⟨o,e,hc,q⟩
theorem makeMap_m {R:Option Nat->Value} {Q:Option Nat->Hp->Prop} (hR:R = fun r=>.map r) (st:ah l h) (k:∀ b h',ah (mapA b val (fun _=>none)::l) h'->Q (some b) h'):hpv P (Instr.makeMap S none) R Q h:=by
 subst hR;refine ⟨?_⟩;unfold Instr.makeMap;refine bt ?_;refine ⟨rfl,fun b hb=>⟨some b,rfl,k b _ ?_⟩⟩;obtain ⟨h1,h2,d,e,a,s⟩:=new_s (o:=.map #[] 0) st hb;exact ⟨h1,h2,d,e,⟨[],[],0,a,rfl,fun x=>rfl⟩,s⟩
theorem lookup_m {σ:Type} {j b:Nat} {f:Int->Option τ} {x:Int} {ok:Bool} {R:σ->Value} {Q:σ->Hp->Prop} (M:Mp P S K E z) (st:ah l h) (hj:l[j]? = some (mapA b val f)) (r:σ) (hr:(if ok then .tuple #[((f x).map val).getD z,.bool (f x).isSome] else ((f x).map val).getD z) = R r) (q:Q r h):hpv P (Instr.lookup S (.map (some b)) (.int .i64 x) ok) R Q h:=by
 refine ⟨?_⟩;obtain ⟨h1,⟨es,m,clock,a,he,hf⟩,sub⟩:=cL hj st;obtain ⟨kd,hk⟩:=M.key;obtain ⟨i,hi,hz⟩:=M.inf;unfold Instr.lookup;refine bt (ci M.mp ?_);refine bt (hp_getObj (sub _ _ a) rfl ?_);refine bt ?_;rw [yf];refine bt (hp_checkKey hk ?_);refine bt (hp_findKey (val:=val) hk he ?_);have hfx:=hf x;cases hm:fi x m 0 with
 | none =>
  rw [hm] at hfx;rw [← hfx] at hr;refine bt (sJ hi hz ?_);exact ⟨r,hr,q⟩
 | some p =>
  rw [hm] at hfx;rw [← hfx] at hr;refine bt ?_;exact ⟨r,hr,q⟩
theorem update_m {j b:Nat} {f:Int->Option τ} {x:Int} {w:τ} {v:Value} {Q:Hp->Prop} (M:Mp P S K E z) (st:ah l h) (hj:l[j]? = some (mapA b val f)) (hv:v = val w) (k:∀ h',ah (l.set j (mapA b val (fun y=>if y = x then some w else f y))) h'->Q h'):hpu P (Instr.mapUpdate S (.map (some b)) (.int .i64 x) v) Q h:=by
 subst hv;refine ⟨?_⟩;obtain ⟨h1,h2,d,rfl,⟨es,m,clock,a,he,hf⟩,s'⟩:=eu hj st;have hjl:=(List.getElem?_eq_some_iff.1 hj).1;obtain ⟨kd,hk⟩:=M.key;unfold Instr.mapUpdate;refine bt (ci M.mp ?_);refine bt (hp_getObj (un_left a) rfl ?_);refine bt (hp_checkKey hk ?_);refine bt (hp_findKey (val:=val) hk he ?_);cases hm:fi x m 0 with
 | none =>
  refine ⟨rfl,⟨_,un_left a,rfl⟩,?_⟩;obtain ⟨d',e'⟩:=set_dj (o':=.map (es.toArray.push { key:=.int .i64 x,val:=val w,born:=clock }) (clock + 1)) d a;rw [e'];refine k _ (cO hjl ⟨_,h2,d',rfl,⟨_,m++[(x,w)],clock + 1,?_,ents_push (c:=clock) he,fun y=>?_⟩,s'⟩)
  ·exact iR _ _ _
  ·rw [fi_push hm,hf]
 | some p =>
  obtain ⟨i,u⟩:=p;have hg:=fi_get hm;have hge:∃ e,es[i]? = some e/\e.key = .int .i64 x:=by
   have hi:(es.map (fun e=>(e.key,e.val)))[i]? = (m.map (fun p=>(Value.int .i64 p.1,val p.2)))[i]?:=by rw [he]
   simp only [List.getElem?_map,hg,map_some] at hi;cases hs:es[i]? with
   | none=>rw [hs] at hi; cases hi
   | some e=>rw [hs] at hi; simp at hi; exact ⟨e,rfl,hi.1⟩
  obtain ⟨e,hge,hkey⟩:=hge;refine bt ?_;have hks:Instr.keyThatStays (((es.toArray[i]?).map (·.key)).getD (.int .i64 x)) (.int .i64 x) = pure (.int .i64 x):=by
   unfold Instr.keyThatStays;have:((es.toArray[i]?).map (·.key)).getD (.int .i64 x) = .int .i64 x:=by simp [hge,hkey]
   rw [this];have sb:Instr.sameBits 10000 (.int .i64 x) (.int .i64 x) = true:=by unfold Instr.sameBits; simp
   rw [if_pos sb]
  simp only [map_some];rw [hks,yf];refine ⟨rfl,⟨_,un_left a,rfl⟩,?_⟩;obtain ⟨d',e'⟩:=set_dj (o':=.map (es.toArray.modify i fun e=>{ e with key:=.int .i64 x,val:=val w }) clock) d a;rw [e'];refine k _ (cO hjl ⟨_,h2,d',rfl,⟨_,m.set i (x,w),clock,?_,ents_set (x:=x) (w:=w) he (fun e=>{ e with key:=.int .i64 x,val:=val w }) (fun e' _=>⟨rfl,rfl⟩),fun y=>?_⟩,s'⟩)
  ·exact iR _ _ _
  ·rw [fi_set hm,hf]
end
end Mb
end
end Go.Proofs.YtjcamacgclipiaaGreatDoor
