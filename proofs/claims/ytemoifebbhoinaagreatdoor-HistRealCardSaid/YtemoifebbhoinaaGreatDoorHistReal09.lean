/- Part of the proof of: The law HistReal returns true for every input, and leaves its arguments as they were. -/
import Derived.Test.YtemoifebbhoinaaGreatDoorHistReal08
set_option linter.all false
set_option maxRecDepth 20000
namespace Go.Proofs.YtemoifebbhoinaaGreatDoor
open Go.Proofs.Tryz
open Go.IntKind (i64 u64)
open _root_.List (cons_append getElem_mem replicate take_length)
open _root_.Nat (zero_le)
section
open Go Mb
abbrev vT (s:Sl) (t:fAa.T):As:=vec lQ 32 enc8 s t
abbrev vP (s:Sl) (l:List bZ):As:=vec sR 2 aH.C s l
def cT (x:Ptr) (t:fAa.T):As:=fun h=>∃ z:Nat × Sl,(x = some (z.1,0)/\fAa.Ok t)/\aB [blk z.1 oE [sv z.2],vT z.2 t] h
theorem jN {x:Ptr} {t:fAa.T} {l:List As} {h:Hp} (s0:aB (cT x t::l) h):∃ b s,x = some (b,0)/\fAa.Ok t/\s.len = t.length/\aB (blk b oE [sv s]::vT s t::l) h:=by
 obtain ⟨⟨b,s⟩,⟨hx,h1⟩,st⟩:=op_ s0
 exact ⟨b,s,hx,h1,(cc (j:=1) st rfl).1,st⟩
theorem tree_cl {b:Nat} {s:Sl} {t:fAa.T} {l:List As} {h:Hp} (h1:fAa.Ok t) (st:aB (blk b oE [sv s]::vT s t::l) h):aB (cT (some (b,0)) t::l) h :=
 cl_ (m:=fun z:Nat × Sl=>[blk z.1 oE [sv z.2],vT z.2 t]) (b,s) ⟨rfl,h1⟩ st
theorem enc8_get {r:List Cap} (h:r.length = 8) {n:Nat} {c:Cap} (hn:r[n]? = some c) (j:Nat) (v:Value) (hv:c.C[j]? = some v):(enc8 r)[n * 4 + j]? = some v:=by
 rw [enc8_eq h]; exact ur ri r n j c v hn hv
theorem enc8_set {r:List Cap} (h:r.length = 8) {n:Nat} {c:Cap} (hn:r[n]? = some c) (d:Cap):enc8 (r.set n d) = wr (enc8 r) (n * 4) d.C:=by
 rw [enc8_eq h,enc8_eq (by simpa using h)]
 exact (flat_wr ri r n 0 c d d.C hn (by simp [ri]) (wr_all rfl).symm).symm
theorem yr {σ:Type} {l:List As} {h:Hp} {j k off:Nat} {s:Sl} {t:fAa.T} {q:Nat × Nat} {enc':σ->List Value} {K:σ->Hp->Prop} {e i:Int} (y:σ) (ok:fAa.Ok t) (he:fAa.has t e i = true) (st:aB l h) (hj:l[j]? = some (vT s t)) (hq:s.a = some q) (hoff:off = q.2 + Int.toNat e * 32 + Int.toNat i * 4 + k)
  (hy:∀ n v,(enc' y)[n]? = some v->(fAa.get t e i).C[k + n]? = some v) (kk:K y h):ld (q.1,off) enc' K h:=by
 obtain ⟨m,n,rfl,rfl,hm,hn⟩:=fAa.has_nat he
 obtain ⟨hn',hg⟩:=fAa.get_nat' ok.row hm hn
 rw [hg] at hy
 refine dz (j:=j) (i:=m) (k:=n * 4 + k) (x:=t[m]) y enc8_len st hj hq (by simp at hoff; omega) (aE hm) (fun a v hv=>?_) kk
 rw [Nat.add_assoc]
 exact enc8_get (ok.row _ (getElem_mem hm)) (aE hn') _ _ (hy a v hv)
theorem st_tree {l:List As} {h:Hp} {j off:Nat} {s:Sl} {t:fAa.T} {q:Nat × Nat} {K:Hp->Prop} {e i:Int} (c:Cap) (row:∀ r ∈ t,r.length = 8) (he:fAa.has t e i = true) (st:aB l h) (hj:l[j]? = some (vT s t)) (hq:s.a = some q) (hoff:off = q.2 + Int.toNat e * 32 + Int.toNat i * 4)
  (kk:∀ h',aB (l.set j (vT s (fAa.put t e i c))) h'->K h'):Mb.st (q.1,off) c.C K h:=by
 obtain ⟨m,n,rfl,rfl,hm,hn⟩:=fAa.has_nat he
 obtain ⟨hn',hg⟩:=fAa.get_nat' row hm hn
 refine uF (j:=j) (i:=m) (k:=n * 4) (x:=t[m]) (t[m].set n c) enc8_len st hj hq (by simp at hoff; omega) (aE hm) (by simp [ri]; omega) (enc8_set (row _ (getElem_mem hm)) (aE hn') c) fun h' s'=>?_
 refine kk h' ?_
 rw [fAa.put_nat hm]; exact s'
theorem rep8:enc8 (replicate 8 mw) = [.int .i64 0,.int .i64 0,.int .i64 0,.int .i64 0,.int .i64 0,.int .i64 0,.int .i64 0,.int .i64 0,.int .i64 0,.int .i64 0,.int .i64 0,.int .i64 0,.int .i64 0,.int .i64 0,.int .i64 0,.int .i64 0,.int .i64 0,.int .i64 0,.int .i64 0,.int .i64 0,.int .i64 0,.int .i64 0,.int .i64 0,.int .i64 0,.int .i64 0,.int .i64 0,.int .i64 0,.int .i64 0,.int .i64 0,.int .i64 0,.int .i64 0,.int .i64 0]:=rfl
theorem sp_caps_New (n:Int) (h1:¬ n < 1) (h2:¬ n > 4):Sp prog yo [.int .i64 n] tn [] (fun r=>aB [cT r (replicate n.toNat (replicate 8 mw))]):=by
 intro h st
 refine sim_caps_New _ ?_
 unfold sh_caps_New
 obtain ⟨m,rfl⟩:=Int.eq_ofNat_of_zero_le (show 0 <= n by omega)
 refine dO (by simp; omega) ?_
 refine oO (τ:=List Cap) (x0:=replicate 8 mw) (enc:=enc8) (n:=m) (T:=lQ) (m:=32) el_S_8_api_Cap rep8 st ?_ ?_ ?_
 ·omega
 ·omega
 ·intro v h' s1
  refine pG s1 fun b h'' s2=>?_
  exact tree_cl (fAa.ok_new _ (by omega)) s2
theorem tH (x:Ptr) (t:fAa.T) (e s:Int):Sp prog iH [pv x,.int .i64 e,.int .i64 s] aC [cT x t] (fun r=>pa_ (r = fAa.has t e s) [cT x t]):=by
 intro h s0
 obtain ⟨b,sl,rfl,ok,hl,st⟩:=jN s0
 refine sim_caps_Tree_is _ _ _ ?_
 unfold sh_caps_Tree_is
 refine aY (fun k=>?_) (fun k=>?_)
 ·have k':0 <= e:=by simpa using k
  refine cL (bp sl st (i:=0) rfl rfl rfl ?_)
  exact aZ (by rw [hl]; simp [fAa.has,k',Bool.and_assoc]) s0
 ·have k':¬ 0 <= e:=by simpa using k
  exact aZ (by simp [fAa.has]; intro h; exact absurd h k') s0
theorem kA (x:Ptr) (t:fAa.T) (e s:Int):Sp prog eK [pv x,.int .i64 e,.int .i64 s] cX [cT x t] (fun r=>pa_ (r = fAa.at_ t e s) [cT x t]):=by
 intro h s0
 obtain ⟨b,sl,rfl,ok,hl,st⟩:=jN s0
 refine sim_caps_Tree_At _ _ _ ?_
 unfold sh_caps_Tree_At
 refine eD rfl ?_
 refine cW [0] (tH _ t e s) s0 rfl fun r h1 s1=>?_
 obtain ⟨rfl,s2⟩:=bt.1 s1
 refine aY (fun k=>?_) (fun k=>?_)
 ·have k':fAa.has t e s = true:=by simpa using k
  obtain ⟨m,n,rfl,rfl,hm,hn⟩:=fAa.has_nat k'
  obtain ⟨b',sl,hb',ok,hl,st⟩:=jN s2
  cases hb'
  refine cL (bp sl st (i:=0) rfl rfl rfl ?_)
  refine cZ st (j:=1) rfl (by omega) (by omega) fun q hq=>⟨⟨by omega,by omega⟩,?_⟩
  refine yr (j:=1) (k:=1) (fAa.get t m n).fBa ok k' st rfl hq rfl (c1 rfl rfl) ?_
  unfold ji
  refine aY (fun k2=>?_) (fun k2=>?_)
  ·have k2':(fAa.get t m n).fBa = 0:=by simpa using k2
   exact aZ (by unfold fAa.at_; rw [if_neg (fun hh=>hh.2 k2')]) s2
  ·have k2':¬ (fAa.get t m n).fBa = 0:=by simpa using k2
   refine cL (bp sl st (i:=0) rfl rfl rfl ?_)
   refine cZ st (j:=1) rfl (by omega) (by omega) fun q2 hq2=>⟨⟨by omega,by omega⟩,?_⟩
   refine yr (j:=1) (k:=0) (fAa.get t m n) ok k' st rfl hq2 rfl (by simp) ?_
   exact aZ (by unfold fAa.at_; rw [if_pos ⟨k',k2'⟩]) s2
 ·have k':fAa.has t e s = false:=by simpa using k
  unfold ji
  exact eD rfl (aZ (by unfold fAa.at_; rw [if_neg (by simp [k'])]) s2)
theorem xH (x:Ptr) (t:fAa.T) (e s f:Int):Sp prog jZ [pv x,.int .i64 e,.int .i64 s,.int .i64 f] bj [cT x t] (fun r=>pa_ (r = (fAa.root t e s f).1) [cT x (fAa.root t e s f).2]):=by
 intro h s0
 obtain ⟨b,sl,rfl,ok,hl,st⟩:=jN s0
 refine sim_caps_Tree_Root _ _ _ _ ?_
 unfold vq
 refine dO rfl ?_
 refine cW [0] (tH _ t e s) s0 rfl fun r h1 s1=>?_
 obtain ⟨rfl,s2⟩:=bt.1 s1
 have hok:=fAa.ok_root ok e s f
 refine aY (fun k=>?_) (fun k=>?_)
 ·have k':fAa.has t e s = false\/f < 0\/f >= 16:=by simpa [or_assoc] using k
  have e1:fAa.root t e s f = (2,t):=if_pos k'
  rw [e1]; exact aZ rfl s2
 ·have k':¬ (fAa.has t e s = false\/f < 0\/f >= 16):=by simp at k; simp [k]
  have hh:fAa.has t e s = true:=by simp at k'; exact k'.1
  obtain ⟨m,n,rfl,rfl,hm,hn⟩:=fAa.has_nat hh
  obtain ⟨b',sl,hb',ok,hl,st⟩:=jN s2
  cases hb'
  refine cL (bp sl st (i:=0) rfl rfl rfl ?_)
  refine cZ st (j:=1) rfl (by omega) (by omega) fun q hq=>⟨⟨by omega,by omega⟩,?_⟩
  refine yr (j:=1) (k:=1) (fAa.get t m n).fBa ok hh st rfl hq rfl (c1 rfl rfl) ?_
  refine aY (fun k2=>?_) (fun k2=>?_)
  ·have k2':(fAa.get t m n).fBa ≠ 0:=by simpa using k2
   have e1:fAa.root t m n f = (4,t):=by unfold fAa.root; rw [if_neg k',if_pos k2']
   rw [e1]; exact aZ rfl s2
  ·have k2':¬ (fAa.get t m n).fBa ≠ 0:=by simpa using k2
   have e1:fAa.root t m n f = (0,fAa.put t m n ⟨f,3,-1,0⟩):=by unfold fAa.root; rw [if_neg k',if_neg k2']
   rw [e1] at hok ⊢
   refine bp sl st (i:=0) rfl rfl rfl ?_
   refine cZ st (j:=1) rfl (by omega) (by omega) fun q2 hq2=>?_
   refine st_tree (j:=1) ⟨f,3,-1,0⟩ ok.row hh st rfl hq2 rfl fun h3 s3=>?_
   exact aZ rfl (tree_cl hok s3)
theorem tI (x:Ptr) (t:fAa.T) (e src to dst r:Int):Sp prog iI [pv x,.int .i64 e,.int .i64 src,.int .i64 to,.int .i64 dst,.int .i64 r] bj [cT x t] (fun v=>pa_ (v = (fAa.derive t e src to dst r).1) [cT x (fAa.derive t e src to dst r).2]):=by
 intro h s0
 obtain ⟨b,sl,rfl,ok,hl,st⟩:=jN s0
 refine sim_caps_Tree_Derive _ _ _ _ _ _ ?_
 unfold sM
 refine dO rfl ?_
 refine cW [0] (tH _ t e src) s0 rfl fun r1 h1 s1=>?_
 obtain ⟨rfl,s2⟩:=bt.1 s1
 have hok:=fAa.ok_derive ok e src to dst r
 have no:(fAa.has t e src = false\/fAa.has t to dst = false\/ci r = false)->fAa.derive t e src to dst r = (2,t):=fun hh=>if_pos hh
 refine aY (fun k=>?_) (fun k=>?_)
 ·have k':fAa.has t e src = true:=by simpa using k
  refine cW [0] (tH _ t to dst) s2 rfl fun r3 h3 s3=>?_
  obtain ⟨rfl,s4⟩:=bt.1 s3
  refine aY (fun k2=>?_) (fun k2=>?_)
  ·rw [no (.inr (by simpa using k2))]; exact aZ rfl s4
  ·have k2':fAa.has t to dst = true/\ci r = true:=by simpa using k2
   have hno:¬ (fAa.has t e src = false\/fAa.has t to dst = false\/ci r = false):=by simp [k',k2'.1,k2'.2]
   obtain ⟨m,n,rfl,rfl,hm,hn⟩:=fAa.has_nat k'
   obtain ⟨i,j,rfl,rfl,hi,hj⟩:=fAa.has_nat k2'.1
   obtain ⟨b',sl,hb',ok,hl,st⟩:=jN s4
   cases hb'
   refine cL (bp sl st (i:=0) rfl rfl rfl ?_)
   refine cZ st (j:=1) rfl (by omega) (by omega) fun q hq=>⟨⟨by omega,by omega⟩,?_⟩
   refine yr (j:=1) (k:=0) (fAa.get t m n) ok k' st rfl hq rfl (by simp) ?_
   refine aY (fun k3=>?_) (fun k3=>?_)
   ·have k3':(fAa.get t m n).fBa = 0:=by simpa using k3
    have e1:fAa.derive t m n i j r = (3,t):=by unfold fAa.derive; rw [if_neg hno,if_pos k3']
    rw [e1]; exact aZ rfl s4
   ·have k3':¬ (fAa.get t m n).fBa = 0:=by simpa using k3
    refine bp sl st (i:=0) rfl rfl rfl ?_
    refine cZ st (j:=1) rfl (by omega) (by omega) fun q2 hq2=>⟨⟨by omega,by omega⟩,?_⟩
    refine yr (j:=1) (k:=1) (fAa.get t i j).fBa ok k2'.1 st rfl hq2 rfl (c1 rfl rfl) ?_
    refine aY (fun k4=>?_) (fun k4=>?_)
    ·have k4':(fAa.get t i j).fBa ≠ 0:=by simpa using k4
     have e1:fAa.derive t m n i j r = (4,t):=by unfold fAa.derive; rw [if_neg hno,if_neg k3',if_pos k4']
     rw [e1]; exact aZ rfl s4
    ·have k4':¬ (fAa.get t i j).fBa ≠ 0:=by simpa using k4
     refine aY (fun k5=>?_) (fun k5=>?_)
     ·have k5':aP r (fAa.get t m n).fBa = false:=by simpa using k5
      have e1:fAa.derive t m n i j r = (5,t):=by unfold fAa.derive; rw [if_neg hno,if_neg k3',if_neg k4',if_pos k5']
      rw [e1]; exact aZ rfl s4
     ·have k5':¬ aP r (fAa.get t m n).fBa = false:=by simpa using k5
      have e1:fAa.derive t m n i j r = (0,fAa.put t i j ⟨(fAa.get t m n).fEa,r,m,n⟩):=by unfold fAa.derive; rw [if_neg hno,if_neg k3',if_neg k4',if_neg k5']
      rw [e1] at hok ⊢
      refine bp sl st (i:=0) rfl rfl rfl ?_
      refine cZ st (j:=1) rfl (by omega) (by omega) fun q3 hq3=>?_
      refine st_tree (j:=1) ⟨(fAa.get t m n).fEa,r,m,n⟩ ok.row k2'.1 st rfl hq3 rfl fun h6 s6=>?_
      exact aZ rfl (tree_cl hok s6)
 ·have k':fAa.has t e src = false:=by simpa using k
  rw [no (.inl k')]; exact aZ rfl s2
theorem sp_caps_under (x:Ptr) (t:fAa.T) (e s:Int) (p:bZ) (he:fAa.has t e s = true):Sp prog lJ [pv x,.agg (fAa.get t e s).C.toArray,.agg p.C.toArray] aC [cT x t] (fun r=>pa_ (r = fAa.under t (fAa.get t e s) p) [cT x t]):=by
 intro h s0
 obtain ⟨b,sl,rfl,ok,hl,st⟩:=jN s0
 refine sim_caps_Tree_under _ _ _ ?_
 unfold tU
 refine Lp.intro (fun (c:Cap) h=>∃ a i,c = fAa.get t a i/\fAa.has t a i = true/\fAa.under t c p = fAa.under t (fAa.get t e s) p/\aB [cT (some (b,0)) t] h) (fun (c:Cap) _=>fAa.deep 40 t c) ⟨e,s,rfl,he,rfl,s0⟩ ?_
 rintro c h ⟨a,i,rfl,ha,hu,s1⟩
 unfold oA
 have step:=fAa.under_step ok ha p
 refine aY (fun k=>?_) (fun k=>?_)
 ·have k':(fAa.get t a i).fBa ≠ 0/\0 <= (fAa.get t a i).fCa:=by simpa using k
  rw [if_pos k'] at step
  refine aY (fun k2=>?_) (fun k2=>?_)
  ·have k2':(fAa.get t a i).fCa = p.fCa/\(fAa.get t a i).fDa = p.fDa:=by simpa using k2
   rw [if_pos k2'] at step
   exact aZ (by rw [← hu,step]) s1
  ·have k2':¬ ((fAa.get t a i).fCa = p.fCa/\(fAa.get t a i).fDa = p.fDa):=by simpa using k2
   rw [if_neg k2'] at step
   have dd:=fAa.deep_step ok ha k'
   obtain ⟨rank,hr⟩:=ok.rk
   obtain ⟨hp,_,_⟩:=hr a i ha k'.1 k'.2
   have hp':=hp
   obtain ⟨m,n,em,en,hm,hn⟩:=fAa.has_nat hp'
   obtain ⟨b',sl,hb',ok,hl,st⟩:=jN s1
   cases hb'
   refine cL (bp sl st (i:=0) rfl rfl rfl ?_)
   refine cZ st (j:=1) rfl (by omega) (by omega) fun q hq=>⟨⟨by omega,by omega⟩,?_⟩
   refine yr (j:=1) (k:=0) (fAa.get t (fAa.get t a i).fCa (fAa.get t a i).fDa) ok hp st rfl hq rfl (by simp) ?_
   exact ⟨⟨_,_,rfl,hp,by rw [← step]; exact hu,s1⟩,dd⟩
 ·have k':¬ ((fAa.get t a i).fBa ≠ 0/\0 <= (fAa.get t a i).fCa):=by simpa using k
  rw [if_neg k'] at step
  exact aZ (by rw [← hu,step]) s1
theorem row_app (P:Int->Int->Cap->Bool) (e:Int):∀ (cs:List Cap) (s:Int) (c:Cap),fAa.rowOf P e (cs++[c]) s = fAa.rowOf P e cs s++(if c.fBa ≠ 0/\P e (s + cs.length) c = true then [⟨e,s + cs.length⟩] else [])
 | [],s,c=>by simp [fAa.rowOf]
 | d::cs,s,c=>by
  rw [cons_append,fAa.rowOf_c,fAa.rowOf_c,row_app P e cs (s + 1) c]
  have e1:s + 1 + (cs.length:Int) = s + ((d::cs).length:Int):=by simp; omega
  rw [e1]
  split <;> simp
theorem all_app (P:Int->Int->Cap->Bool):∀ (t:fAa.T) (e:Int) (r:List Cap),fAa.allOf P (t++[r]) e = fAa.allOf P t e++fAa.rowOf P (e + t.length) r 0
 | [],e,r=>by simp [fAa.allOf]
 | d::t,e,r=>by
  have e1:e + 1 + (t.length:Int) = e + ((d::t).length:Int):=by simp; omega
  rw [cons_append,fAa.allOf,fAa.allOf,all_app P t (e + 1) r,List.append_assoc,e1]
theorem row_len (P:Int->Int->Cap->Bool) (e:Int):∀ (cs:List Cap) (s:Int),(fAa.rowOf P e cs s).length <= cs.length
 | [],_=>Nat.le_refl _
 | c::cs,s=>by rw [fAa.rowOf_c]; have:=row_len P e cs (s + 1); split <;> simp <;> omega
theorem all_len (P:Int->Int->Cap->Bool):∀ (t:fAa.T) (e:Int),(∀ r ∈ t,r.length = 8)->(fAa.allOf P t e).length <= 8 * t.length
 | [],_,_=>Nat.le_refl _
 | r::t,e,h=>by
  have h1:=row_len P e r 0
  have h2:=h r (by simp)
  have h3:=all_len P t (e + 1) (fun r hr=>h r (by simp [hr]))
  rw [fAa.allOf,List.length_append,List.length_cons]
  omega
theorem sp_caps_all (x:Ptr) (t:fAa.T) (v:Value) (P:Int->Int->Cap->Bool) (A:List As)
  (hv:∀ e s,fAa.has t e s = true->(fAa.get t e s).fBa ≠ 0->SpV prog v [.agg (⟨e,s⟩:bZ).C.toArray,.agg (fAa.get t e s).C.toArray] aC (cT x t::A) (fun r=>pa_ (r = P e s (fAa.get t e s)) (cT x t::A))) :
  Sp prog kT [pv x,v] db (cT x t::A) (fun r=>aB (vP r (fAa.allOf P t 0)::cT x t::A)):=by
 intro h s0
 obtain ⟨b,sl,rfl,ok,hl,st⟩:=jN s0
 have h4:=ok.len
 refine sim_caps_Tree_all _ _ ?_
 unfold wU
 refine dO rfl (cL (bp sl st (i:=0) rfl rfl rfl ?_))
 refine Lp.intro (fun (z:Sl × Int) h=>∃ n:Nat,z.2 = n/\n <= t.length/\aB (vP z.1 (fAa.allOf P (t.take n) 0)::cT (some (b,0)) t::A) h) (fun (z:Sl × Int) _=>t.length - z.2.toNat) ⟨0,rfl,zero_le _,fX s0⟩ ?_
 rintro ⟨z,i⟩ h ⟨n,rfl,hn,s1⟩
 unfold rc
 refine aY (fun k=>?_) (fun k=>?_)
 ·have hlt:n < t.length:=by rw [hl] at k; simpa using k
  have hrow:=ok.row _ (getElem_mem hlt)
  have hw:i64.wrap ((n:Int) + 1) = ((n + 1:Nat):Int):=by rw [bm (by omega) (by omega)]; rfl
  obtain ⟨b',sl',hb',_,hl',st1⟩:=jN (bb [1] s1 rfl)
  cases hb'
  refine bp sl' st1 (i:=0) rfl rfl rfl ?_
  refine cZ st1 (j:=1) rfl (by omega) (by show (n:Int) < _; omega) fun q hq=>?_
  have hfl:(t[n].flatMap aD.C).length = 32:=by rw [dY ri,hrow]
  have hld:ld (q.1,q.2 + Int.toNat (n:Int) * 32 + 0) (fun _:Unit=>t[n].flatMap aD.C) (fun _ _=>True) h :=
   dz (j:=1) (i:=n) (k:=0) (x:=t[n]) (enc':=fun _:Unit=>t[n].flatMap aD.C) () enc8_len st1 rfl hq rfl (aE hlt) (fun m v hv=>by rw [Nat.zero_add,enc8_eq hrow]; exact hv) trivial
  obtain ⟨_,si,_⟩:=hld
  refine loadAt_v (r:=t[n].flatMap aD.C) (cs:=t[n].flatMap aD.C) agn_8_api_Cap (by simpa using si) hfl rfl ?_
  refine Lp.intro (fun (y:Sl × Int) h=>∃ m:Nat,y.2 = m/\m <= 8/\aB (vP y.1 (fAa.allOf P (t.take n) 0++fAa.rowOf P n (t[n].take m) 0)::cT (some (b,0)) t::A) h) (fun (y:Sl × Int) _=>8 - y.2.toNat) ⟨0,rfl,zero_le _,by simpa [fAa.rowOf] using s1⟩ ?_
  rintro ⟨y,j⟩ h ⟨m,rfl,hm,s2⟩
  have hal:=all_len P (t.take n) 0 (fun r hr=>ok.row r (List.mem_of_mem_take hr))
  have hrl:=row_len P n (t[n].take m) 0
  simp at hal hrl
  unfold rb
  refine aY (fun k2=>?_) (fun k2=>?_)
  ·have hlt2:m < 8:=by have:=of_decide_eq_true k2; omega
   have hm':m < t[n].length:=by omega
   have hw2:i64.wrap ((m:Int) + 1) = ((m + 1:Nat):Int):=by rw [bm (by omega) (by omega)]; rfl
   have ht:t[n].take (m + 1) = t[n].take m++[t[n][m]]:=by simp
   have hlen:((t[n].take m).length:Int) = m:=by simp; omega
   have hg:fAa.get t n m = t[n][m]:=(fAa.get_nat' ok.row hlt hlt2).2
   have hrap:=row_app P n (t[n].take m) 0 t[n][m]
   rw [hlen,Int.zero_add] at hrap
   refine index_v (enc:=aD.C) (m:=4) arn_8_api_Cap age_8_api_Cap ri (fun _=>rfl) hrow (aE hm') ?_
   have next:¬ (t[n][m].fBa ≠ 0/\P n m t[n][m] = true)->∀ h,aB (vP y (fAa.allOf P (t.take n) 0++fAa.rowOf P n (t[n].take m) 0)::cT (some (b,0)) t::A) h->iv (z,(n:Int)) (fun s' h'=>(∃ m:Nat,s'.2 = m/\m <= 8/\aB (vP s'.1 (fAa.allOf P (t.take n) 0++fAa.rowOf P n (t[n].take m) 0)::cT (some (b,0)) t::A) h')/\8 - s'.2.toNat < 8 - (m:Int).toNat) (y,(m:Int)) false h:=by
    intro hno h s3
    unfold iv
    refine dO rfl ?_
    rw [hw2]
    refine ⟨⟨m + 1,rfl,hlt2,?_⟩,by simp; omega⟩
    rw [ht,hrap,if_neg hno,List.append_nil]
    exact s3
   refine aY (fun k3=>?_) (fun k3=>?_)
   ·have k3':t[n][m].fBa ≠ 0:=by simpa using k3
    have hc:=hv n m (fAa.has_of hlt hlt2) (by rw [hg]; exact k3')
    rw [hg] at hc
    refine clv_t hc s2 fun r h3 s3=>?_
    obtain ⟨hr,s4⟩:=bt.1 s3
    have s5:=wA s4
    subst hr
    cases hP:P n m t[n][m] with
    | false=>exact next (by simp [hP]) _ s5
    | true =>
     unfold iv
     refine eD rfl ?_
     refine la (τ:=bZ) (i:=0) (enc:=aH.C) (val:=fun x=>.agg x.C.toArray) uw wW place_one (fun _=>rfl) (by omega) rfl rfl s5 rfl (by simp; omega) (by simp; omega) fun v h' s6=>?_
     rw [hw2]
     refine ⟨⟨m + 1,rfl,hlt2,?_⟩,by simp; omega⟩
     rw [ht,hrap,if_pos ⟨k3',hP⟩,← List.append_assoc]
     exact s6
   ·have k3':¬ t[n][m].fBa ≠ 0:=by simpa using k3
    exact next (fun hh=>k3' hh.1) _ s2
  ·have:m = 8:=by have:=of_decide_eq_false k2; omega
   subst this
   rw [hw]
   refine ⟨⟨n + 1,rfl,hlt,?_⟩,by simp; omega⟩
   have ht:t.take (n + 1) = t.take n++[t[n]]:=by simp
   have hlen:((t.take n).length:Int) = n:=by simp; omega
   rw [ht,all_app,hlen,Int.zero_add]
   rw [show t[n].take 8 = t[n] from by rw [← hrow]; exact take_length] at s2
   exact s2
 ·have:n = t.length:=by rw [hl] at k; simp at k; omega
  subst this
  rw [take_length] at s1
  exact s1
theorem sp_caps_look (x:Ptr) (t:fAa.T) (e s:Int):Sp prog mS [pv x,.int .i64 e,.int .i64 s] bj [cT x t] (fun r=>pa_ (r = fAa.look t e s) [cT x t]):=by
 intro h s0
 obtain ⟨b,sl,rfl,ok,hl,st⟩:=jN s0
 refine sim_caps_Tree_look _ _ _ ?_
 unfold vp
 refine dO rfl ?_
 refine cW [0] (tH _ t e s) s0 rfl fun r h1 s1=>?_
 obtain ⟨rfl,s2⟩:=bt.1 s1
 refine aY (fun k=>?_) (fun k=>?_)
 ·have k':fAa.has t e s = false:=by simpa using k
  exact aZ (by unfold fAa.look; rw [if_pos k']) s2
 ·have k':fAa.has t e s = true:=by simpa using k
  obtain ⟨m,n,rfl,rfl,hm,hn⟩:=fAa.has_nat k'
  obtain ⟨b',sl,hb',ok,hl,st⟩:=jN s2
  cases hb'
  refine cL (bp sl st (i:=0) rfl rfl rfl ?_)
  refine cZ st (j:=1) rfl (by omega) (by omega) fun q hq=>⟨⟨by omega,by omega⟩,?_⟩
  refine yr (j:=1) (k:=1) (fAa.get t m n).fBa ok k' st rfl hq rfl (c1 rfl rfl) ?_
  refine aY (fun k2=>?_) (fun k2=>?_)
  ·have k2':(fAa.get t m n).fBa = 0:=by simpa using k2
   exact aZ (by unfold fAa.look; rw [if_neg (by simp [k']),if_pos k2']) s2
  ·have k2':¬ (fAa.get t m n).fBa = 0:=by simpa using k2
   exact aZ (by unfold fAa.look; rw [if_neg (by simp [k']),if_neg k2']) s2
theorem rP:∀ (l:List bZ) (t:fAa.T) (p:bZ),fAa.fVa t (l++[p]) = fAa.put (fAa.fVa t l) p.fCa p.fDa mw
 | [],_,_=>rfl
 | q::l,t,p=>by rw [cons_append,fAa.fVa,fAa.fVa,rP l]
theorem rV (x:Ptr) (t:fAa.T) (s:Sl) (l:List bZ) (hl:∀ p ∈ l,fAa.has t p.fCa p.fDa = true) (hb:l.length <= 64) (hok:fAa.Ok (fAa.fVa t l)) :
  Sp prog gX [pv x,sv s] db [cT x t,vP s l] (fun r=>aB [vP r l,cT x (fAa.fVa t l)]):=by
 intro h s0
 obtain ⟨b,sl,rfl,ok,htl,st⟩:=jN s0
 have hsl:=(cc (j:=1) s0 rfl).1
 refine sim_caps_Tree_empties _ _ ?_
 unfold rG
 refine Lp.intro (fun (i:Int) h=>∃ n:Nat,i = n/\n <= l.length/\aB [blk b oE [sv sl],vT sl (fAa.fVa t (l.take n)),vP s l] h) (fun (i:Int) _=>l.length - i.toNat) ⟨0,rfl,zero_le _,st⟩ ?_
 rintro i h ⟨n,rfl,hn,s1⟩
 unfold mv
 refine aY (fun k=>?_) (fun k=>?_)
 ·have hlt:n < l.length:=by rw [hsl] at k; simpa using k
  have hw:i64.wrap ((n:Int) + 1) = ((n + 1:Nat):Int):=by rw [bm (by omega) (by omega)]; rfl
  refine cZ s1 (j:=2) rfl (by omega) (by omega) fun q hq=>?_
  refine dz (j:=2) (i:=n) (k:=0) l[n] wW s1 rfl hq rfl (aE hlt) (by simp) ?_
  have hh:=hl _ (getElem_mem hlt)
  have hh2:fAa.has (fAa.fVa t (l.take n)) l[n].fCa l[n].fDa = true:=by rw [fAa.empties_has]; exact hh
  have hh3:=hh2
  obtain ⟨i,j,ei,ej,hi,hj⟩:=fAa.has_nat hh3
  refine cL (bp sl s1 (i:=0) rfl rfl rfl ?_)
  refine cZ s1 (j:=1) rfl (by omega) (by omega) fun q2 hq2=>⟨⟨by omega,by omega⟩,?_⟩
  refine st_tree (j:=1) mw (fAa.empties_row _ _ ok.row) hh2 s1 rfl hq2 rfl fun h3 s3=>?_
  rw [hw]
  refine ⟨⟨n + 1,rfl,hlt,?_⟩,by simp; omega⟩
  have ht:l.take (n + 1) = l.take n++[l[n]]:=by simp
  rw [ht,rP]
  exact s3
 ·have:n = l.length:=by rw [hsl] at k; simp at k; omega
  subst this
  rw [take_length] at s1
  have s2:=tree_cl hok s1
  exact bb [1] s2 rfl
theorem sp_caps_Below (x:Ptr) (t:fAa.T) (e s:Int):Sp prog lK [pv x,.int .i64 e,.int .i64 s] db [cT x t] (fun r=>aB [vP r (fAa.below t e s),cT x t]):=by
 intro h s0
 refine sim_caps_Tree_Below _ _ _ ?_
 unfold tV
 refine pG s0 fun b3 h1 s1=>?_
 refine pG s1 fun b4 h2 s2=>?_
 refine pG s2 fun b5 h3 s3=>?_
 refine bp x s3 (i:=2) rfl rfl rfl ?_
 refine cW [3,2,1,0] (sp_caps_all x t _ (fun _ _ c=>fAa.under t c ⟨e,s⟩) [blk b3 sS [pv x],blk b4 lD [.int .i64 e],blk b5 lD [.int .i64 s]] ?_) s3 rfl fun r h4 s4=>?_
 ·intro a i ha hne
  refine ⟨_,_,_,rfl,wq,fun h s5=>?_⟩
  refine xX ⟨a,i⟩ (fAa.get t a i) b3 b4 b5 ?_
  unfold qw
  refine bp x s5 (i:=1) rfl rfl rfl ?_
  refine bp e s5 (i:=2) rfl rfl rfl ?_
  refine bp s s5 (i:=3) rfl rfl rfl ?_
  refine cW [0] (sp_caps_under x t a i ⟨e,s⟩ ha) s5 rfl fun r h6 s6=>?_
  obtain ⟨rfl,s7⟩:=bt.1 s6
  exact aZ rfl s7
 ·have s5:=dE s4
  exact mB (l:=[vP r (fAa.below t e s),cT x t]) s5
theorem sp_caps_Revoke (x:Ptr) (t:fAa.T) (e s:Int):Sp prog ow [pv x,.int .i64 e,.int .i64 s] dH [cT x t] (fun r=>pa_ (r.2 = (fAa.revoke t e s).1.2) [vP r.1 (fAa.revoke t e s).1.1,cT x (fAa.revoke t e s).2]):=by
 intro h s0
 have ok:fAa.Ok t:=by obtain ⟨_,_,_,ok,_⟩:=jN s0; exact ok
 refine sim_caps_Tree_Revoke _ _ _ ?_
 unfold sL
 refine cW [0] (sp_caps_look x t e s) s0 rfl fun r h1 s1=>?_
 obtain ⟨rfl,s2⟩:=bt.1 s1
 refine aY (fun k=>?_) (fun k=>?_)
 ·have k':fAa.look t e s ≠ 0:=by simpa using k
  have e1:fAa.revoke t e s = (([],fAa.look t e s),t):=if_pos k'
  rw [e1]
  exact aZ rfl (fX s2)
 ·have k':¬ fAa.look t e s ≠ 0:=by simpa using k
  have e1:fAa.revoke t e s = ((fAa.below t e s,0),fAa.fVa t (fAa.below t e s)):=if_neg k'
  rw [e1]
  refine cW [0] (sp_caps_Below x t e s) s2 rfl fun r h3 s3=>?_
  have s4:=dE s3
  have h8:(fAa.below t e s).length <= 64:=by
   have:=all_len (fun _ _ c=>fAa.under t c ⟨e,s⟩) t 0 ok.row
   have:=ok.len
   unfold fAa.below; omega
  refine cW [1,0] (rV x t r (fAa.below t e s) (fun p hp=>((fAa.mem_below ok).1 hp).1) h8 (fAa.ok_below ok e s)) s4 rfl fun v h5 s5=>?_
  exact aZ rfl (dE s5)
theorem sp_caps_Drop (x:Ptr) (t:fAa.T) (e s:Int):Sp prog mT [pv x,.int .i64 e,.int .i64 s] dH [cT x t] (fun r=>pa_ (r.2 = (fAa.drop t e s).1.2) [vP r.1 (fAa.drop t e s).1.1,cT x (fAa.drop t e s).2]):=by
 intro h s0
 have ok:fAa.Ok t:=by obtain ⟨_,_,_,ok,_⟩:=jN s0; exact ok
 refine sim_caps_Tree_Drop _ _ _ ?_
 unfold vr
 refine pG s0 fun b3 h1 s1=>?_
 refine bp x s1 (i:=0) rfl rfl rfl ?_
 refine cW [1] (sp_caps_look x t e s) s1 rfl fun r h2 s2=>?_
 obtain ⟨rfl,s3⟩:=bt.1 s2
 refine aY (fun k=>?_) (fun k=>?_)
 ·have k':fAa.look t e s ≠ 0:=by simpa using k
  have e1:fAa.drop t e s = (([],fAa.look t e s),t):=if_pos k'
  rw [e1]
  exact aZ rfl (fX (mB (l:=[cT x t]) s3))
 ·have k':¬ fAa.look t e s ≠ 0:=by simpa using k
  have e1:fAa.drop t e s = ((fAa.own t e s,0),fAa.fVa t (fAa.own t e s)):=if_neg k'
  rw [e1]
  have h8:(fAa.own t e s).length <= 64:=by
   have:=all_len (fun a b c=>aH.eqb ⟨a,b⟩ ⟨e,s⟩ || fAa.under t c ⟨e,s⟩) t 0 ok.row
   have:=ok.len
   unfold fAa.own; omega
  refine pG s3 fun b9 h4 s4=>?_
  refine uG (i:=0) s4 rfl (by simp [wW]) fun h5 s5=>?_
  refine bp x s5 (i:=2) rfl rfl rfl ?_
  have hall:=sp_caps_all x t (.func (.func gY) #[] #[(.pointer (some ⟨b9,0,none⟩)),(.pointer (some ⟨b3,0,none⟩))]) (fun a b c=>aH.eqb ⟨a,b⟩ ⟨e,s⟩ || fAa.under t c ⟨e,s⟩) [blk b9 sR (⟨e,s⟩:bZ).C,blk b3 sS [pv x]] ?_
  ·refine ⟨?_,?_⟩
   ·refine bp x s5 (i:=2) rfl rfl rfl ?_
    refine cW [1,0,0] hall s5 rfl fun r h6 s6=>?_
    have s7:=dE s6
    refine cW [1,0] (rV x t r (fAa.own t e s) (fun p hp=>((fAa.mem_own ok).1 hp).1) h8 (fAa.ok_own ok e s)) s7 rfl fun v h8 s8=>?_
    exact aZ rfl (mB (l:=[vP v (fAa.own t e s),cT x (fAa.fVa t (fAa.own t e s))]) (dE s8))
   ·refine cW [1,0,0] hall s5 rfl fun r h6 s6=>?_
    have s7:=dE s6
    refine bp x s7 (i:=3) rfl rfl rfl ?_
    refine cW [1,0] (rV x t r (fAa.own t e s) (fun p hp=>((fAa.mem_own ok).1 hp).1) h8 (fAa.ok_own ok e s)) s7 rfl fun v h8 s8=>?_
    exact aZ rfl (mB (l:=[vP v (fAa.own t e s),cT x (fAa.fVa t (fAa.own t e s))]) (dE s8))
  ·intro a i ha hne
   refine ⟨_,_,_,rfl,xn,fun h s6=>?_⟩
   refine sim_caps_Tree_Drop_c1 ⟨a,i⟩ (fAa.get t a i) b9 b3 ?_
   unfold rH
   refine ld_s (i:=1) (⟨e,s⟩:bZ) s6 rfl (by simp) ?_
   refine aY (fun k=>?_) (fun k=>?_)
   ·have k':aH.eqb ⟨a,i⟩ ⟨e,s⟩ = false:=by simpa using k
    refine bp x s6 (i:=2) rfl rfl rfl ?_
    refine ld_s (i:=1) (⟨e,s⟩:bZ) s6 rfl (by simp) ?_
    refine cW [0] (sp_caps_under x t a i ⟨e,s⟩ ha) s6 rfl fun r h7 s7=>?_
    obtain ⟨rfl,s8⟩:=bt.1 s7
    exact aZ (by rw [k']; rfl) s8
   ·have k':aH.eqb ⟨a,i⟩ ⟨e,s⟩ = true:=by simpa using k
    exact aZ (by rw [k']; rfl) s6
end
end Go.Proofs.YtemoifebbhoinaaGreatDoor
