/- Part of the proof of: The law HistAll returns true for every input, and leaves its arguments as they were. -/
import Derived.Test.YtochchocdckegaaGreatDoorHistAll04
set_option linter.all false
set_option maxRecDepth 20000
namespace Go.Proofs.YtochchocdckegaaGreatDoor
open Go.Proofs.Tryz
open Go.IntKind (i64 u64)
open _root_.Int (toNat_natCast)
open _root_.List (append_assoc append_nil cons_append getElem?_cons_succ getElem_mem pairwise_append replicate set_cons_succ take_length)
open _root_.Nat (add_comm le_refl zero_le)
section
open Go Mb
abbrev vT (s:Sl) (t:fAa.T):As:=vec lN 32 enc8 s t
abbrev vP (s:Sl) (l:List dA):As:=vec sK 2 aO.C s l
def cO (x:Ptr) (t:fAa.T):As:=fun h=>∃ z:Nat × Sl,(x = some (z.1,0)/\fAa.Ok t)/\ay [blk z.1 ox [sv z.2],vT z.2 t] h
theorem jI {x:Ptr} {t:fAa.T} {l:List As} {h:Hp} (s0:ay (cO x t::l) h):∃ b s,x = some (b,0)/\fAa.Ok t/\s.len = t.length/\ay (blk b ox [sv s]::vT s t::l) h:=by
 obtain ⟨⟨b,s⟩,⟨hx,h1⟩,st⟩:=op_ s0;exact ⟨b,s,hx,h1,(bY (j:=1) st rfl).1,st⟩
theorem tree_cl {b:Nat} {s:Sl} {t:fAa.T} {l:List As} {h:Hp} (h1:fAa.Ok t) (st:ay (blk b ox [sv s]::vT s t::l) h):ay (cO (some (b,0)) t::l) h :=
 cl_ (m:=fun z:Nat × Sl=>[blk z.1 ox [sv z.2],vT z.2 t]) (b,s) ⟨rfl,h1⟩ st
theorem enc8_get {r:List Cap} (h:r.length = 8) {n:Nat} {c:Cap} (hn:r[n]? = some c) (j:Nat) (v:Value) (hv:c.C[j]? = some v):(enc8 r)[n * 4 + j]? = some v:=by
 rw [enc8_eq h]; exact uc rd r n j c v hn hv
theorem enc8_set {r:List Cap} (h:r.length = 8) {n:Nat} {c:Cap} (hn:r[n]? = some c) (d:Cap):enc8 (r.set n d) = wr (enc8 r) (n * 4) d.C:=by
 rw [enc8_eq h,enc8_eq (by simpa using h)];exact (flat_wr rd r n 0 c d d.C hn (by simp [rd]) (wr_all rfl).symm).symm
theorem xR {σ:Type} {l:List As} {h:Hp} {j k off:Nat} {s:Sl} {t:fAa.T} {q:Nat × Nat} {enc':σ->List Value} {K:σ->Hp->Prop} {e i:Int} (y:σ) (ok:fAa.Ok t) (he:fAa.has t e i = true) (st:ay l h) (hj:l[j]? = some (vT s t)) (hq:s.a = some q) (hoff:off = q.2 + Int.toNat e * 32 + Int.toNat i * 4 + k)
  (hy:∀ n v,(enc' y)[n]? = some v->(fAa.get t e i).C[k + n]? = some v) (kk:K y h):ld (q.1,off) enc' K h:=by
 obtain ⟨m,n,rfl,rfl,hm,hn⟩:=fAa.has_nat he;obtain ⟨hn',hg⟩:=fAa.get_nat' ok.row hm hn;rw [hg] at hy;refine cX (j:=j) (i:=m) (k:=n * 4 + k) (x:=t[m]) y enc8_len st hj hq (by simp at hoff; omega) (aB hm) (fun a v hv=>?_) kk;rw [Nat.add_assoc];exact enc8_get (ok.row _ (getElem_mem hm)) (aB hn') _ _ (hy a v hv)
theorem st_tree {l:List As} {h:Hp} {j off:Nat} {s:Sl} {t:fAa.T} {q:Nat × Nat} {K:Hp->Prop} {e i:Int} (c:Cap) (row:∀ r ∈ t,r.length = 8) (he:fAa.has t e i = true) (st:ay l h) (hj:l[j]? = some (vT s t)) (hq:s.a = some q) (hoff:off = q.2 + Int.toNat e * 32 + Int.toNat i * 4)
  (kk:∀ h',ay (l.set j (vT s (fAa.put t e i c))) h'->K h'):Mb.st (q.1,off) c.C K h:=by
 obtain ⟨m,n,rfl,rfl,hm,hn⟩:=fAa.has_nat he;obtain ⟨hn',hg⟩:=fAa.get_nat' row hm hn;refine uq (j:=j) (i:=m) (k:=n * 4) (x:=t[m]) (t[m].set n c) enc8_len st hj hq (by simp at hoff; omega) (aB hm) (by simp [rd]; omega) (enc8_set (row _ (getElem_mem hm)) (aB hn') c) fun h' s'=>?_;refine kk h' ?_;rw [fAa.put_nat hm]; exact s'
theorem rep8:enc8 (replicate 8 rZ) = [.int .i64 0,.int .i64 0,.int .i64 0,.int .i64 0,.int .i64 0,.int .i64 0,.int .i64 0,.int .i64 0,.int .i64 0,.int .i64 0,.int .i64 0,.int .i64 0,.int .i64 0,.int .i64 0,.int .i64 0,.int .i64 0,.int .i64 0,.int .i64 0,.int .i64 0,.int .i64 0,.int .i64 0,.int .i64 0,.int .i64 0,.int .i64 0,.int .i64 0,.int .i64 0,.int .i64 0,.int .i64 0,.int .i64 0,.int .i64 0,.int .i64 0,.int .i64 0]:=rfl
theorem sp_caps_New (n:Int) (h1:¬ n < 1) (h2:¬ n > 4):Sp prog xO [.int .i64 n] te [] (fun r=>ay [cO r (replicate n.toNat (replicate 8 rZ))]):=by
 intro h st;refine sim_caps_New _ ?_;unfold sh_caps_New;obtain ⟨m,rfl⟩:=Int.eq_ofNat_of_zero_le (show 0 <= n by omega);refine dN (by simp; omega) ?_;refine oJ (τ:=List Cap) (x0:=replicate 8 rZ) (enc:=enc8) (n:=m) (T:=lN) (m:=32) el_S_8_api_Cap rep8 st ?_ ?_ ?_
 ·omega
 ·omega
 ·intro v h' s1;refine pC s1 fun b h'' s2=>?_;exact tree_cl (fAa.ok_new _ (by omega)) s2
theorem tv (x:Ptr) (t:fAa.T) (e s:Int):Sp prog iN [pv x,.int .i64 e,.int .i64 s] aD [cO x t] (fun r=>pa_ (r = fAa.has t e s) [cO x t]):=by
 intro h s0;obtain ⟨b,sl,rfl,ok,hl,st⟩:=jI s0;refine sim_caps_Tree_is _ _ _ ?_;unfold sh_caps_Tree_is;refine aX (fun k=>?_) (fun k=>?_)
 ·have k':0 <= e:=by simpa using k
  refine cL (bt sl st (i:=0) rfl rfl rfl ?_);exact ba (by rw [hl]; simp [fAa.has,k',Bool.and_assoc]) s0
 ·have k':¬ 0 <= e:=by simpa using k
  exact ba (by simp [fAa.has]; intro h; exact absurd h k') s0
theorem kx (x:Ptr) (t:fAa.T) (e s:Int):Sp prog eS [pv x,.int .i64 e,.int .i64 s] cZ [cO x t] (fun r=>pa_ (r = fAa.at_ t e s) [cO x t]):=by
 intro h s0;obtain ⟨b,sl,rfl,ok,hl,st⟩:=jI s0;refine sim_caps_Tree_At _ _ _ ?_;unfold sh_caps_Tree_At;refine eG rfl ?_;refine cW [0] (tv _ t e s) s0 rfl fun r h1 s1=>?_;obtain ⟨rfl,s2⟩:=bA.1 s1;refine aX (fun k=>?_) (fun k=>?_)
 ·have k':fAa.has t e s = true:=by simpa using k
  obtain ⟨m,n,rfl,rfl,hm,hn⟩:=fAa.has_nat k';obtain ⟨b',sl,hb',ok,hl,st⟩:=jI s2;cases hb';refine cL (bt sl st (i:=0) rfl rfl rfl ?_);refine cU st (j:=1) rfl (by omega) (by omega) fun q hq=>⟨⟨by omega,by omega⟩,?_⟩
  refine xR (j:=1) (k:=1) (fAa.get t m n).fBa ok k' st rfl hq rfl (c1 rfl rfl) ?_;unfold jf;refine aX (fun k2=>?_) (fun k2=>?_)
  ·have k2':(fAa.get t m n).fBa = 0:=by simpa using k2
   exact ba (by unfold fAa.at_; rw [if_neg (fun hh=>hh.2 k2')]) s2
  ·have k2':¬ (fAa.get t m n).fBa = 0:=by simpa using k2
   refine cL (bt sl st (i:=0) rfl rfl rfl ?_);refine cU st (j:=1) rfl (by omega) (by omega) fun q2 hq2=>⟨⟨by omega,by omega⟩,?_⟩
   refine xR (j:=1) (k:=0) (fAa.get t m n) ok k' st rfl hq2 rfl (by simp) ?_;exact ba (by unfold fAa.at_; rw [if_pos ⟨k',k2'⟩]) s2
 ·have k':fAa.has t e s = false:=by simpa using k
  unfold jf;exact eG rfl (ba (by unfold fAa.at_; rw [if_neg (by simp [k'])]) s2)
theorem xl (x:Ptr) (t:fAa.T) (e s f:Int):Sp prog jY [pv x,.int .i64 e,.int .i64 s,.int .i64 f] bn [cO x t] (fun r=>pa_ (r = (fAa.root t e s f).1) [cO x (fAa.root t e s f).2]):=by
 intro h s0;obtain ⟨b,sl,rfl,ok,hl,st⟩:=jI s0;refine sim_caps_Tree_Root _ _ _ _ ?_;unfold uT;refine dN rfl ?_;refine cW [0] (tv _ t e s) s0 rfl fun r h1 s1=>?_;obtain ⟨rfl,s2⟩:=bA.1 s1;have hok:=fAa.ok_root ok e s f;refine aX (fun k=>?_) (fun k=>?_)
 ·have k':fAa.has t e s = false\/f < 0\/f >= 16:=by simpa [or_assoc] using k
  have e1:fAa.root t e s f = (2,t):=if_pos k';rw [e1]; exact ba rfl s2
 ·have k':¬ (fAa.has t e s = false\/f < 0\/f >= 16):=by simp at k; simp [k]
  have hh:fAa.has t e s = true:=by simp at k'; exact k'.1
  obtain ⟨m,n,rfl,rfl,hm,hn⟩:=fAa.has_nat hh;obtain ⟨b',sl,hb',ok,hl,st⟩:=jI s2;cases hb';refine cL (bt sl st (i:=0) rfl rfl rfl ?_);refine cU st (j:=1) rfl (by omega) (by omega) fun q hq=>⟨⟨by omega,by omega⟩,?_⟩
  refine xR (j:=1) (k:=1) (fAa.get t m n).fBa ok hh st rfl hq rfl (c1 rfl rfl) ?_;refine aX (fun k2=>?_) (fun k2=>?_)
  ·have k2':(fAa.get t m n).fBa ≠ 0:=by simpa using k2
   have e1:fAa.root t m n f = (4,t):=by unfold fAa.root; rw [if_neg k',if_pos k2']
   rw [e1]; exact ba rfl s2
  ·have k2':¬ (fAa.get t m n).fBa ≠ 0:=by simpa using k2
   have e1:fAa.root t m n f = (0,fAa.put t m n ⟨f,3,-1,0⟩):=by unfold fAa.root; rw [if_neg k',if_neg k2']
   rw [e1] at hok ⊢;refine bt sl st (i:=0) rfl rfl rfl ?_;refine cU st (j:=1) rfl (by omega) (by omega) fun q2 hq2=>?_;refine st_tree (j:=1) ⟨f,3,-1,0⟩ ok.row hh st rfl hq2 rfl fun h3 s3=>?_;exact ba rfl (tree_cl hok s3)
theorem tw (x:Ptr) (t:fAa.T) (e src to dst r:Int):Sp prog iO [pv x,.int .i64 e,.int .i64 src,.int .i64 to,.int .i64 dst,.int .i64 r] bn [cO x t] (fun v=>pa_ (v = (fAa.derive t e src to dst r).1) [cO x (fAa.derive t e src to dst r).2]):=by
 intro h s0;obtain ⟨b,sl,rfl,ok,hl,st⟩:=jI s0;refine sim_caps_Tree_Derive _ _ _ _ _ _ ?_;unfold sE;refine dN rfl ?_;refine cW [0] (tv _ t e src) s0 rfl fun r1 h1 s1=>?_;obtain ⟨rfl,s2⟩:=bA.1 s1;have hok:=fAa.ok_derive ok e src to dst r;have no:(fAa.has t e src = false\/fAa.has t to dst = false\/cK r = false)->fAa.derive t e src to dst r = (2,t):=fun hh=>if_pos hh;refine aX (fun k=>?_) (fun k=>?_)
 ·have k':fAa.has t e src = true:=by simpa using k
  refine cW [0] (tv _ t to dst) s2 rfl fun r3 h3 s3=>?_;obtain ⟨rfl,s4⟩:=bA.1 s3;refine aX (fun k2=>?_) (fun k2=>?_)
  ·rw [no (.inr (by simpa using k2))]; exact ba rfl s4
  ·have k2':fAa.has t to dst = true/\cK r = true:=by simpa using k2
   have hno:¬ (fAa.has t e src = false\/fAa.has t to dst = false\/cK r = false):=by simp [k',k2'.1,k2'.2]
   obtain ⟨m,n,rfl,rfl,hm,hn⟩:=fAa.has_nat k';obtain ⟨i,j,rfl,rfl,hi,hj⟩:=fAa.has_nat k2'.1;obtain ⟨b',sl,hb',ok,hl,st⟩:=jI s4;cases hb';refine cL (bt sl st (i:=0) rfl rfl rfl ?_);refine cU st (j:=1) rfl (by omega) (by omega) fun q hq=>⟨⟨by omega,by omega⟩,?_⟩
   refine xR (j:=1) (k:=0) (fAa.get t m n) ok k' st rfl hq rfl (by simp) ?_;refine aX (fun k3=>?_) (fun k3=>?_)
   ·have k3':(fAa.get t m n).fBa = 0:=by simpa using k3
    have e1:fAa.derive t m n i j r = (3,t):=by unfold fAa.derive; rw [if_neg hno,if_pos k3']
    rw [e1]; exact ba rfl s4
   ·have k3':¬ (fAa.get t m n).fBa = 0:=by simpa using k3
    refine bt sl st (i:=0) rfl rfl rfl ?_;refine cU st (j:=1) rfl (by omega) (by omega) fun q2 hq2=>⟨⟨by omega,by omega⟩,?_⟩
    refine xR (j:=1) (k:=1) (fAa.get t i j).fBa ok k2'.1 st rfl hq2 rfl (c1 rfl rfl) ?_;refine aX (fun k4=>?_) (fun k4=>?_)
    ·have k4':(fAa.get t i j).fBa ≠ 0:=by simpa using k4
     have e1:fAa.derive t m n i j r = (4,t):=by unfold fAa.derive; rw [if_neg hno,if_neg k3',if_pos k4']
     rw [e1]; exact ba rfl s4
    ·have k4':¬ (fAa.get t i j).fBa ≠ 0:=by simpa using k4
     refine aX (fun k5=>?_) (fun k5=>?_)
     ·have k5':bm r (fAa.get t m n).fBa = false:=by simpa using k5
      have e1:fAa.derive t m n i j r = (5,t):=by unfold fAa.derive; rw [if_neg hno,if_neg k3',if_neg k4',if_pos k5']
      rw [e1]; exact ba rfl s4
     ·have k5':¬ bm r (fAa.get t m n).fBa = false:=by simpa using k5
      have e1:fAa.derive t m n i j r = (0,fAa.put t i j ⟨(fAa.get t m n).fFa,r,m,n⟩):=by unfold fAa.derive; rw [if_neg hno,if_neg k3',if_neg k4',if_neg k5']
      rw [e1] at hok ⊢;refine bt sl st (i:=0) rfl rfl rfl ?_;refine cU st (j:=1) rfl (by omega) (by omega) fun q3 hq3=>?_;refine st_tree (j:=1) ⟨(fAa.get t m n).fFa,r,m,n⟩ ok.row k2'.1 st rfl hq3 rfl fun h6 s6=>?_;exact ba rfl (tree_cl hok s6)
 ·have k':fAa.has t e src = false:=by simpa using k
  rw [no (.inl k')]; exact ba rfl s2
theorem sp_caps_under (x:Ptr) (t:fAa.T) (e s:Int) (p:dA) (he:fAa.has t e s = true):Sp prog lJ [pv x,.agg (fAa.get t e s).C.toArray,.agg p.C.toArray] aD [cO x t] (fun r=>pa_ (r = fAa.under t (fAa.get t e s) p) [cO x t]):=by
 intro h s0;obtain ⟨b,sl,rfl,ok,hl,st⟩:=jI s0;refine sim_caps_Tree_under _ _ _ ?_;unfold tH;refine Lp.intro (fun (c:Cap) h=>∃ a i,c = fAa.get t a i/\fAa.has t a i = true/\fAa.under t c p = fAa.under t (fAa.get t e s) p/\ay [cO (some (b,0)) t] h) (fun (c:Cap) _=>fAa.deep 40 t c) ⟨e,s,rfl,he,rfl,s0⟩ ?_;rintro c h ⟨a,i,rfl,ha,hu,s1⟩;unfold oo;have step:=fAa.under_step ok ha p;refine aX (fun k=>?_) (fun k=>?_)
 ·have k':(fAa.get t a i).fBa ≠ 0/\0 <= (fAa.get t a i).fCa:=by simpa using k
  rw [if_pos k'] at step;refine aX (fun k2=>?_) (fun k2=>?_)
  ·have k2':(fAa.get t a i).fCa = p.fCa/\(fAa.get t a i).fEa = p.fEa:=by simpa using k2
   rw [if_pos k2'] at step;exact ba (by rw [← hu,step]) s1
  ·have k2':¬ ((fAa.get t a i).fCa = p.fCa/\(fAa.get t a i).fEa = p.fEa):=by simpa using k2
   rw [if_neg k2'] at step;have dd:=fAa.deep_step ok ha k';obtain ⟨rank,hr⟩:=ok.rk;obtain ⟨hp,_,_⟩:=hr a i ha k'.1 k'.2;have hp':=hp;obtain ⟨m,n,em,en,hm,hn⟩:=fAa.has_nat hp';obtain ⟨b',sl,hb',ok,hl,st⟩:=jI s1;cases hb';refine cL (bt sl st (i:=0) rfl rfl rfl ?_);refine cU st (j:=1) rfl (by omega) (by omega) fun q hq=>⟨⟨by omega,by omega⟩,?_⟩
   refine xR (j:=1) (k:=0) (fAa.get t (fAa.get t a i).fCa (fAa.get t a i).fEa) ok hp st rfl hq rfl (by simp) ?_;exact ⟨⟨_,_,rfl,hp,by rw [← step]; exact hu,s1⟩,dd⟩
 ·have k':¬ ((fAa.get t a i).fBa ≠ 0/\0 <= (fAa.get t a i).fCa):=by simpa using k
  rw [if_neg k'] at step;exact ba (by rw [← hu,step]) s1
theorem row_app (P:Int->Int->Cap->Bool) (e:Int):∀ (cs:List Cap) (s:Int) (c:Cap),fAa.rowOf P e (cs++[c]) s = fAa.rowOf P e cs s++(if c.fBa ≠ 0/\P e (s + cs.length) c = true then [⟨e,s + cs.length⟩] else [])
 | [],s,c=>by simp [fAa.rowOf]
 | d::cs,s,c=>by
  rw [cons_append,fAa.rowOf_c,fAa.rowOf_c,row_app P e cs (s + 1) c];have e1:s + 1 + (cs.length:Int) = s + ((d::cs).length:Int):=by simp; omega
  rw [e1];split <;> simp
theorem all_app (P:Int->Int->Cap->Bool):∀ (t:fAa.T) (e:Int) (r:List Cap),fAa.allOf P (t++[r]) e = fAa.allOf P t e++fAa.rowOf P (e + t.length) r 0
 | [],e,r=>by simp [fAa.allOf]
 | d::t,e,r=>by
  have e1:e + 1 + (t.length:Int) = e + ((d::t).length:Int):=by simp; omega
  rw [cons_append,fAa.allOf,fAa.allOf,all_app P t (e + 1) r,append_assoc,e1]
theorem row_len (P:Int->Int->Cap->Bool) (e:Int):∀ (cs:List Cap) (s:Int),(fAa.rowOf P e cs s).length <= cs.length
 | [],_=>le_refl _
 | c::cs,s=>by rw [fAa.rowOf_c]; have:=row_len P e cs (s + 1); split <;> simp <;> omega
theorem all_len (P:Int->Int->Cap->Bool):∀ (t:fAa.T) (e:Int),(∀ r ∈ t,r.length = 8)->(fAa.allOf P t e).length <= 8 * t.length
 | [],_,_=>le_refl _
 | r::t,e,h=>by
  have h1:=row_len P e r 0;have h2:=h r (by simp);have h3:=all_len P t (e + 1) (fun r hr=>h r (by simp [hr]));rw [fAa.allOf,List.length_append,List.length_cons];omega
theorem sp_caps_all (x:Ptr) (t:fAa.T) (v:Value) (P:Int->Int->Cap->Bool) (A:List As)
  (hv:∀ e s,fAa.has t e s = true->(fAa.get t e s).fBa ≠ 0->SpV prog v [.agg (⟨e,s⟩:dA).C.toArray,.agg (fAa.get t e s).C.toArray] aD (cO x t::A) (fun r=>pa_ (r = P e s (fAa.get t e s)) (cO x t::A))) :
  Sp prog kO [pv x,v] dc (cO x t::A) (fun r=>ay (vP r (fAa.allOf P t 0)::cO x t::A)):=by
 intro h s0;obtain ⟨b,sl,rfl,ok,hl,st⟩:=jI s0;have h4:=ok.len;refine sim_caps_Tree_all _ _ ?_;unfold wz;refine dN rfl (cL (bt sl st (i:=0) rfl rfl rfl ?_));refine Lp.intro (fun (z:Sl × Int) h=>∃ n:Nat,z.2 = n/\n <= t.length/\ay (vP z.1 (fAa.allOf P (t.take n) 0)::cO (some (b,0)) t::A) h) (fun (z:Sl × Int) _=>t.length - z.2.toNat) ⟨0,rfl,zero_le _,fu s0⟩ ?_;rintro ⟨z,i⟩ h ⟨n,rfl,hn,s1⟩;unfold qX;refine aX (fun k=>?_) (fun k=>?_)
 ·have hlt:n < t.length:=by rw [hl] at k; simpa using k
  have hrow:=ok.row _ (getElem_mem hlt);have hw:i64.wrap ((n:Int) + 1) = ((n + 1:Nat):Int):=by rw [bp (by omega) (by omega)]; rfl
  obtain ⟨b',sl',hb',_,hl',st1⟩:=jI (bd [1] s1 rfl);cases hb';refine bt sl' st1 (i:=0) rfl rfl rfl ?_;refine cU st1 (j:=1) rfl (by omega) (by show (n:Int) < _; omega) fun q hq=>?_;have hfl:(t[n].flatMap aE.C).length = 32:=by rw [dG rd,hrow]
  have hld:ld (q.1,q.2 + Int.toNat (n:Int) * 32 + 0) (fun _:Unit=>t[n].flatMap aE.C) (fun _ _=>True) h :=
   cX (j:=1) (i:=n) (k:=0) (x:=t[n]) (enc':=fun _:Unit=>t[n].flatMap aE.C) () enc8_len st1 rfl hq rfl (aB hlt) (fun m v hv=>by rw [Nat.zero_add,enc8_eq hrow]; exact hv) trivial
  obtain ⟨_,rX,_⟩:=hld;refine loadAt_v (r:=t[n].flatMap aE.C) (cs:=t[n].flatMap aE.C) agn_8_api_Cap (by simpa using rX) hfl rfl ?_;refine Lp.intro (fun (y:Sl × Int) h=>∃ m:Nat,y.2 = m/\m <= 8/\ay (vP y.1 (fAa.allOf P (t.take n) 0++fAa.rowOf P n (t[n].take m) 0)::cO (some (b,0)) t::A) h) (fun (y:Sl × Int) _=>8 - y.2.toNat) ⟨0,rfl,zero_le _,by simpa [fAa.rowOf] using s1⟩ ?_;rintro ⟨y,j⟩ h ⟨m,rfl,hm,s2⟩;have hal:=all_len P (t.take n) 0 (fun r hr=>ok.row r (List.mem_of_mem_take hr));have hrl:=row_len P n (t[n].take m) 0;simp at hal hrl;unfold qW;refine aX (fun k2=>?_) (fun k2=>?_)
  ·have hlt2:m < 8:=by have:=of_decide_eq_true k2; omega
   have hm':m < t[n].length:=by omega
   have hw2:i64.wrap ((m:Int) + 1) = ((m + 1:Nat):Int):=by rw [bp (by omega) (by omega)]; rfl
   have ht:t[n].take (m + 1) = t[n].take m++[t[n][m]]:=by simp
   have hlen:((t[n].take m).length:Int) = m:=by simp; omega
   have hg:fAa.get t n m = t[n][m]:=(fAa.get_nat' ok.row hlt hlt2).2;have hrap:=row_app P n (t[n].take m) 0 t[n][m];rw [hlen,Int.zero_add] at hrap;refine index_v (enc:=aE.C) (m:=4) arn_8_api_Cap age_8_api_Cap rd (fun _=>rfl) hrow (aB hm') ?_;have next:¬ (t[n][m].fBa ≠ 0/\P n m t[n][m] = true)->∀ h,ay (vP y (fAa.allOf P (t.take n) 0++fAa.rowOf P n (t[n].take m) 0)::cO (some (b,0)) t::A) h->iC (z,(n:Int)) (fun s' h'=>(∃ m:Nat,s'.2 = m/\m <= 8/\ay (vP s'.1 (fAa.allOf P (t.take n) 0++fAa.rowOf P n (t[n].take m) 0)::cO (some (b,0)) t::A) h')/\8 - s'.2.toNat < 8 - (m:Int).toNat) (y,(m:Int)) false h:=by
    intro hno h s3;unfold iC;refine dN rfl ?_;rw [hw2];refine ⟨⟨m + 1,rfl,hlt2,?_⟩,by simp; omega⟩;rw [ht,hrap,if_neg hno,append_nil];exact s3
   refine aX (fun k3=>?_) (fun k3=>?_)
   ·have k3':t[n][m].fBa ≠ 0:=by simpa using k3
    have hc:=hv n m (fAa.has_of hlt hlt2) (by rw [hg]; exact k3');rw [hg] at hc;refine clv_t hc s2 fun r h3 s3=>?_;obtain ⟨hr,s4⟩:=bA.1 s3;have s5:=vZ s4;subst hr;cases hP:P n m t[n][m] with
    | false=>exact next (by simp [hP]) _ s5
    | true =>
     unfold iC;refine eG rfl ?_;refine kZ (τ:=dA) (i:=0) (enc:=aO.C) (val:=fun x=>.agg x.C.toArray) ug wD place_one (fun _=>rfl) (by omega) rfl rfl s5 rfl (by simp; omega) (by simp; omega) fun v h' s6=>?_;rw [hw2];refine ⟨⟨m + 1,rfl,hlt2,?_⟩,by simp; omega⟩;rw [ht,hrap,if_pos ⟨k3',hP⟩,← append_assoc];exact s6
   ·have k3':¬ t[n][m].fBa ≠ 0:=by simpa using k3
    exact next (fun hh=>k3' hh.1) _ s2
  ·have:m = 8:=by have:=of_decide_eq_false k2; omega
   subst this;rw [hw];refine ⟨⟨n + 1,rfl,hlt,?_⟩,by simp; omega⟩;have ht:t.take (n + 1) = t.take n++[t[n]]:=by simp
   have hlen:((t.take n).length:Int) = n:=by simp; omega
   rw [ht,all_app,hlen,Int.zero_add];rw [show t[n].take 8 = t[n] from by rw [← hrow]; exact take_length] at s2;exact s2
 ·have:n = t.length:=by rw [hl] at k; simp at k; omega
  subst this;rw [take_length] at s1;exact s1
theorem sp_caps_look (x:Ptr) (t:fAa.T) (e s:Int):Sp prog mQ [pv x,.int .i64 e,.int .i64 s] bn [cO x t] (fun r=>pa_ (r = fAa.look t e s) [cO x t]):=by
 intro h s0;obtain ⟨b,sl,rfl,ok,hl,st⟩:=jI s0;refine sim_caps_Tree_look _ _ _ ?_;unfold uS;refine dN rfl ?_;refine cW [0] (tv _ t e s) s0 rfl fun r h1 s1=>?_;obtain ⟨rfl,s2⟩:=bA.1 s1;refine aX (fun k=>?_) (fun k=>?_)
 ·have k':fAa.has t e s = false:=by simpa using k
  exact ba (by unfold fAa.look; rw [if_pos k']) s2
 ·have k':fAa.has t e s = true:=by simpa using k
  obtain ⟨m,n,rfl,rfl,hm,hn⟩:=fAa.has_nat k';obtain ⟨b',sl,hb',ok,hl,st⟩:=jI s2;cases hb';refine cL (bt sl st (i:=0) rfl rfl rfl ?_);refine cU st (j:=1) rfl (by omega) (by omega) fun q hq=>⟨⟨by omega,by omega⟩,?_⟩
  refine xR (j:=1) (k:=1) (fAa.get t m n).fBa ok k' st rfl hq rfl (c1 rfl rfl) ?_;refine aX (fun k2=>?_) (fun k2=>?_)
  ·have k2':(fAa.get t m n).fBa = 0:=by simpa using k2
   exact ba (by unfold fAa.look; rw [if_neg (by simp [k']),if_pos k2']) s2
  ·have k2':¬ (fAa.get t m n).fBa = 0:=by simpa using k2
   exact ba (by unfold fAa.look; rw [if_neg (by simp [k']),if_neg k2']) s2
theorem empties_app:∀ (l:List dA) (t:fAa.T) (p:dA),fAa.fAb t (l++[p]) = fAa.put (fAa.fAb t l) p.fCa p.fEa rZ
 | [],_,_=>rfl
 | q::l,t,p=>by rw [cons_append,fAa.fAb,fAa.fAb,empties_app l]
theorem rN (x:Ptr) (t:fAa.T) (s:Sl) (l:List dA) (hl:∀ p ∈ l,fAa.has t p.fCa p.fEa = true) (hb:l.length <= 64) (hok:fAa.Ok (fAa.fAb t l)) :
  Sp prog hY [pv x,sv s] dc [cO x t,vP s l] (fun r=>ay [vP r l,cO x (fAa.fAb t l)]):=by
 intro h s0;obtain ⟨b,sl,rfl,ok,htl,st⟩:=jI s0;have hsl:=(bY (j:=1) s0 rfl).1;refine sim_caps_Tree_empties _ _ ?_;unfold rA;refine Lp.intro (fun (i:Int) h=>∃ n:Nat,i = n/\n <= l.length/\ay [blk b ox [sv sl],vT sl (fAa.fAb t (l.take n)),vP s l] h) (fun (i:Int) _=>l.length - i.toNat) ⟨0,rfl,zero_le _,st⟩ ?_;rintro i h ⟨n,rfl,hn,s1⟩;unfold mw;refine aX (fun k=>?_) (fun k=>?_)
 ·have hlt:n < l.length:=by rw [hsl] at k; simpa using k
  have hw:i64.wrap ((n:Int) + 1) = ((n + 1:Nat):Int):=by rw [bp (by omega) (by omega)]; rfl
  refine cU s1 (j:=2) rfl (by omega) (by omega) fun q hq=>?_;refine cX (j:=2) (i:=n) (k:=0) l[n] wD s1 rfl hq rfl (aB hlt) (by simp) ?_;have hh:=hl _ (getElem_mem hlt);have hh2:fAa.has (fAa.fAb t (l.take n)) l[n].fCa l[n].fEa = true:=by rw [fAa.empties_has]; exact hh
  have hh3:=hh2;obtain ⟨i,j,ei,ej,hi,hj⟩:=fAa.has_nat hh3;refine cL (bt sl s1 (i:=0) rfl rfl rfl ?_);refine cU s1 (j:=1) rfl (by omega) (by omega) fun q2 hq2=>⟨⟨by omega,by omega⟩,?_⟩
  refine st_tree (j:=1) rZ (fAa.empties_row _ _ ok.row) hh2 s1 rfl hq2 rfl fun h3 s3=>?_;rw [hw];refine ⟨⟨n + 1,rfl,hlt,?_⟩,by simp; omega⟩;have ht:l.take (n + 1) = l.take n++[l[n]]:=by simp
  rw [ht,empties_app];exact s3
 ·have:n = l.length:=by rw [hsl] at k; simp at k; omega
  subst this;rw [take_length] at s1;have s2:=tree_cl hok s1;exact bd [1] s2 rfl
theorem sp_caps_Below (x:Ptr) (t:fAa.T) (e s:Int):Sp prog lK [pv x,.int .i64 e,.int .i64 s] dc [cO x t] (fun r=>ay [vP r (fAa.below t e s),cO x t]):=by
 intro h s0;refine sim_caps_Tree_Below _ _ _ ?_;unfold tI;refine pC s0 fun b3 h1 s1=>?_;refine pC s1 fun b4 h2 s2=>?_;refine pC s2 fun b5 h3 s3=>?_;refine bt x s3 (i:=2) rfl rfl rfl ?_;refine cW [3,2,1,0] (sp_caps_all x t _ (fun _ _ c=>fAa.under t c ⟨e,s⟩) [blk b3 sL [pv x],blk b4 lE [.int .i64 e],blk b5 lE [.int .i64 s]] ?_) s3 rfl fun r h4 s4=>?_
 ·intro a i ha hne;refine ⟨_,_,_,rfl,vS,fun h s5=>?_⟩;refine xC ⟨a,i⟩ (fAa.get t a i) b3 b4 b5 ?_;unfold qt;refine bt x s5 (i:=1) rfl rfl rfl ?_;refine bt e s5 (i:=2) rfl rfl rfl ?_;refine bt s s5 (i:=3) rfl rfl rfl ?_;refine cW [0] (sp_caps_under x t a i ⟨e,s⟩ ha) s5 rfl fun r h6 s6=>?_;obtain ⟨rfl,s7⟩:=bA.1 s6;exact ba rfl s7
 ·have s5:=dq s4;exact mB (l:=[vP r (fAa.below t e s),cO x t]) s5
theorem sp_caps_Revoke (x:Ptr) (t:fAa.T) (e s:Int):Sp prog od [pv x,.int .i64 e,.int .i64 s] dO [cO x t] (fun r=>pa_ (r.2 = (fAa.revoke t e s).1.2) [vP r.1 (fAa.revoke t e s).1.1,cO x (fAa.revoke t e s).2]):=by
 intro h s0;have ok:fAa.Ok t:=by obtain ⟨_,_,_,ok,_⟩:=jI s0; exact ok
 refine sim_caps_Tree_Revoke _ _ _ ?_;unfold sD;refine cW [0] (sp_caps_look x t e s) s0 rfl fun r h1 s1=>?_;obtain ⟨rfl,s2⟩:=bA.1 s1;refine aX (fun k=>?_) (fun k=>?_)
 ·have k':fAa.look t e s ≠ 0:=by simpa using k
  have e1:fAa.revoke t e s = (([],fAa.look t e s),t):=if_pos k';rw [e1];exact ba rfl (fu s2)
 ·have k':¬ fAa.look t e s ≠ 0:=by simpa using k
  have e1:fAa.revoke t e s = ((fAa.below t e s,0),fAa.fAb t (fAa.below t e s)):=if_neg k';rw [e1];refine cW [0] (sp_caps_Below x t e s) s2 rfl fun r h3 s3=>?_;have s4:=dq s3;have h8:(fAa.below t e s).length <= 64:=by
   have:=all_len (fun _ _ c=>fAa.under t c ⟨e,s⟩) t 0 ok.row;have:=ok.len;unfold fAa.below; omega
  refine cW [1,0] (rN x t r (fAa.below t e s) (fun p hp=>((fAa.mem_below ok).1 hp).1) h8 (fAa.ok_below ok e s)) s4 rfl fun v h5 s5=>?_;exact ba rfl (dq s5)
theorem sp_caps_Drop (x:Ptr) (t:fAa.T) (e s:Int):Sp prog mR [pv x,.int .i64 e,.int .i64 s] dO [cO x t] (fun r=>pa_ (r.2 = (fAa.drop t e s).1.2) [vP r.1 (fAa.drop t e s).1.1,cO x (fAa.drop t e s).2]):=by
 intro h s0;have ok:fAa.Ok t:=by obtain ⟨_,_,_,ok,_⟩:=jI s0; exact ok
 refine sim_caps_Tree_Drop _ _ _ ?_;unfold uU;refine pC s0 fun b3 h1 s1=>?_;refine bt x s1 (i:=0) rfl rfl rfl ?_;refine cW [1] (sp_caps_look x t e s) s1 rfl fun r h2 s2=>?_;obtain ⟨rfl,s3⟩:=bA.1 s2;refine aX (fun k=>?_) (fun k=>?_)
 ·have k':fAa.look t e s ≠ 0:=by simpa using k
  have e1:fAa.drop t e s = (([],fAa.look t e s),t):=if_pos k';rw [e1];exact ba rfl (fu (mB (l:=[cO x t]) s3))
 ·have k':¬ fAa.look t e s ≠ 0:=by simpa using k
  have e1:fAa.drop t e s = ((fAa.own t e s,0),fAa.fAb t (fAa.own t e s)):=if_neg k';rw [e1];have h8:(fAa.own t e s).length <= 64:=by
   have:=all_len (fun a b c=>aO.eqb ⟨a,b⟩ ⟨e,s⟩ || fAa.under t c ⟨e,s⟩) t 0 ok.row;have:=ok.len;unfold fAa.own; omega
  refine pC s3 fun b9 h4 s4=>?_;refine vv (i:=0) s4 rfl (by simp [wD]) fun h5 s5=>?_;refine bt x s5 (i:=2) rfl rfl rfl ?_;have hall:=sp_caps_all x t (.func (.func hZ) #[] #[(.pointer (some ⟨b9,0,none⟩)),(.pointer (some ⟨b3,0,none⟩))]) (fun a b c=>aO.eqb ⟨a,b⟩ ⟨e,s⟩ || fAa.under t c ⟨e,s⟩) [blk b9 sK (⟨e,s⟩:dA).C,blk b3 sL [pv x]] ?_
  ·refine ⟨?_,?_⟩
   ·refine bt x s5 (i:=2) rfl rfl rfl ?_;refine cW [1,0,0] hall s5 rfl fun r h6 s6=>?_;have s7:=dq s6;refine cW [1,0] (rN x t r (fAa.own t e s) (fun p hp=>((fAa.mem_own ok).1 hp).1) h8 (fAa.ok_own ok e s)) s7 rfl fun v h8 s8=>?_;exact ba rfl (mB (l:=[vP v (fAa.own t e s),cO x (fAa.fAb t (fAa.own t e s))]) (dq s8))
   ·refine cW [1,0,0] hall s5 rfl fun r h6 s6=>?_;have s7:=dq s6;refine bt x s7 (i:=3) rfl rfl rfl ?_;refine cW [1,0] (rN x t r (fAa.own t e s) (fun p hp=>((fAa.mem_own ok).1 hp).1) h8 (fAa.ok_own ok e s)) s7 rfl fun v h8 s8=>?_;exact ba rfl (mB (l:=[vP v (fAa.own t e s),cO x (fAa.fAb t (fAa.own t e s))]) (dq s8))
  ·intro a i ha hne;refine ⟨_,_,_,rfl,wP,fun h s6=>?_⟩;refine sim_caps_Tree_Drop_c1 ⟨a,i⟩ (fAa.get t a i) b9 b3 ?_;unfold rB;refine ld_s (i:=1) (⟨e,s⟩:dA) s6 rfl (by simp) ?_;refine aX (fun k=>?_) (fun k=>?_)
   ·have k':aO.eqb ⟨a,i⟩ ⟨e,s⟩ = false:=by simpa using k
    refine bt x s6 (i:=2) rfl rfl rfl ?_;refine ld_s (i:=1) (⟨e,s⟩:dA) s6 rfl (by simp) ?_;refine cW [0] (sp_caps_under x t a i ⟨e,s⟩ ha) s6 rfl fun r h7 s7=>?_;obtain ⟨rfl,s8⟩:=bA.1 s7;exact ba (by rw [k']; rfl) s8
   ·have k':aO.eqb ⟨a,i⟩ ⟨e,s⟩ = true:=by simpa using k
    exact ba (by rw [k']; rfl) s6
end
section
open Go Mb
def CmpOk (v:Value) (A:List As) (key:Int->Int) (S:Int->Prop):Prop :=
 ∀ x y,S x->S y->SpV prog v [.int .i64 x,.int .i64 y] eN A (fun r=>pa_ (r < 0↔key x < key y) A)
abbrev Up (key:Int->Int) (l:List Int):Prop:=l.Pairwise fun x y=>key x <= key y
theorem pO {L R:List Int} {x:Int}:(L++x::R)[L.length]? = some x:=by simp
theorem tX {L R:List Int} {x y:Int}:(L++x::y::R)[L.length + 1]? = some y:=by
 rw [List.getElem?_append_right (by omega),show L.length + 1 - L.length = 1 from by omega]; rfl
theorem mid_set {L R:List Int} {x v:Int}:(L++x::R).set L.length v = L++v::R:=by simp
theorem mid_set1 {L R:List Int} {x y v:Int}:(L++x::y::R).set (L.length + 1) v = L++x::v::R:=by
 rw [List.set_append_right _ _ (by omega),show L.length + 1 - L.length = 1 from by omega]; rfl
theorem up_insert {key:Int->Int} {a1 a2:List Int} {y:Int} (h:Up key (a1++a2)) (h1:∀ x ∈ a1,key x <= key y) (h2:∀ x ∈ a2,key y < key x):Up key (a1++y::a2):=by
 obtain ⟨p1,p2,p3⟩:=pairwise_append.1 h;refine pairwise_append.2 ⟨p1,List.pairwise_cons.2 ⟨fun x hx=>Int.le_of_lt (h2 x hx),p2⟩,fun x hx z hz=>?_⟩;rcases List.mem_cons.1 hz with rfl | hz
 ·exact h1 x hx
 ·exact p3 x hx z hz
theorem sp_insertion (s:Sl) (v:Value) (A:List As) (key:Int->Int) (S:Int->Prop) (hv:CmpOk v A key S) (p m q:List Int) (hS:∀ x ∈ m,S x) (hb:p.length + m.length + q.length < 2 ^ 60) :
  Sp prog bT [sv s,.int .i64 p.length,.int .i64 (p.length + m.length:Nat),v] R_ (vI s (p++(m++q))::A) (fun _ h=>∃ m',(m'.Perm m/\Up key m')/\ay (vI s (p++(m'++q))::A) h):=by
 intro h s0;have hl:=(bY (j:=0) s0 rfl).1;refine nz _ _ _ _ ?_;unfold iH;have hw0:i64.wrap ((p.length:Int) + 1) = ((p.length + 1:Nat):Int):=by rw [bp (by omega) (by omega)]; rfl
 rw [hw0];cases m with
 | nil =>
  refine Lp.intro (fun (i:Int) h=>i = ((p.length + 1:Nat):Int)/\ay (vI s (p++([]++q))::A) h) (fun _ _=>0) ⟨rfl,s0⟩ ?_;rintro i h ⟨rfl,s1⟩;unfold dV;refine dN (by simp; omega) ?_;exact ⟨[],⟨.refl _,.nil⟩,s1⟩
 | cons x0 t0 =>
  refine Lp.intro (fun (i:Int) h=>∃ a b:List Int,i = ((p.length + a.length:Nat):Int)/\Up key a/\(a++b).Perm (x0::t0)/\ay (vI s (p++((a++b)++q))::A) h) (fun (i:Int) _=>p.length + (x0::t0).length - i.toNat) ⟨[x0],t0,rfl,List.pairwise_singleton _ _,.refl _,s0⟩ ?_;rintro i h ⟨a,b,rfl,ha,hp,s1⟩;have hlen:=hp.length_eq;simp only [List.length_append] at hlen;have hsl:=(bY (j:=0) s1 rfl).1;unfold dV;refine aX (fun k=>?_) (fun k=>?_)
  ·have hbp:0 < b.length:=by have:=of_decide_eq_true k; omega
   obtain ⟨y,b',rfl⟩:=List.exists_cons_of_length_pos hbp;have hS':∀ x ∈ a++y::b',S x:=fun x hx=>hS x (hp.subset hx);have hw1:i64.wrap (((p.length + a.length:Nat):Int) + 1) = ((p.length + a.length + 1:Nat):Int):=by rw [bp (by omega) (by omega)]; rfl
   have out:∀ (a1 a2:List Int) (h:Hp),a1++a2 = a->(∀ x ∈ a1,key x <= key y)->(∀ x ∈ a2,key y < key x)->ay (vI s (p++((a1++y::(a2++b'))++q))::A) h ->
     (fun (s':Int) h'=>(∃ a b:List Int,s' = ((p.length + a.length:Nat):Int)/\Up key a/\(a++b).Perm (x0::t0)/\ay (vI s (p++((a++b)++q))::A) h')/\p.length + (x0::t0).length - s'.toNat < p.length + (x0::t0).length - ((p.length + a.length:Nat):Int).toNat) (i64.wrap (((p.length + a.length:Nat):Int) + 1)) h:=by
    intro a1 a2 h he h1 h2 s2;subst he;rw [hw1];refine ⟨⟨a1++y::a2,b',by simp; omega,up_insert ha h1 h2,?_,?_⟩,by simp at hlen ⊢; omega⟩
    ·refine List.Perm.trans ?_ hp;have:(a1++y::a2++b').Perm (a1++a2++y::b'):=by
      rw [append_assoc,append_assoc];refine List.Perm.append_left a1 ?_;simpa using (List.perm_middle (a:=y) (l₁:=a2) (l₂:=b')).symm
     exact this
    ·have:a1++y::a2++b' = a1++y::(a2++b'):=by simp
     rw [this]; exact s2
   refine Lp.intro (fun (j:Int) h=>∃ a1 a2:List Int,a1++a2 = a/\j = ((p.length + a1.length:Nat):Int)/\(∀ x ∈ a2,key y < key x)/\ay (vI s (p++((a1++y::(a2++b'))++q))::A) h) (fun (j:Int) _=>j.toNat) ⟨a,[],by simp,rfl,fun x hx=>(by cases hx),by simpa using s1⟩ ?_;rintro j h ⟨a1,a2,he,rfl,h2,s2⟩;unfold fz;refine aX (fun k2=>?_) (fun k2=>?_)
   ·have hne:a1 ≠ []:=by
     intro e; subst e; simp at k2
    obtain ⟨L0,z,rfl⟩:∃ L z,a1 = L++[z]:=⟨a1.dropLast,a1.getLast hne,(List.dropLast_concat_getLast hne).symm⟩
    have hal:a.length = L0.length + 1 + a2.length:=by rw [← he]; simp; omega
    have hdec:p++((L0++[z]++y::(a2++b'))++q) = (p++L0)++z::y::(a2++b'++q):=by simp
    rw [hdec] at s2;have hlL:(p++L0).length = p.length + L0.length:=by simp
    have hj:((p.length + (L0++[z]).length:Nat):Int) = (((p++L0).length + 1:Nat):Int):=by simp; omega
    rw [hj];have hsl2:=(bY (j:=0) s2 rfl).1;have hw2:i64.wrap ((((p++L0).length + 1:Nat):Int) - 1) = (((p++L0).length:Nat):Int):=by rw [bp (by omega) (by omega)]; omega
    rw [hw2];refine cU s2 (j:=0) rfl (by omega) (by simp; omega) fun q1 hq1=>?_;refine cU s2 (j:=0) rfl (by omega) (by simp; omega) fun q2 hq2=>?_;refine cX (j:=0) (i:=(p++L0).length + 1) (k:=0) y (cf _) s2 rfl hq1 (by rw [toNat_natCast]; rfl) tX (by simp) ?_;refine cX (j:=0) (i:=(p++L0).length) (k:=0) z (cf _) s2 rfl hq2 (by rw [toNat_natCast]; rfl) pO (by simp) ?_;have hSy:S y:=hS' y (by simp);have hSz:S z:=hS' z (by rw [← he]; simp);refine clv_t (hv y z hSy hSz) s2 fun r h3 s3=>?_;obtain ⟨hr,s4⟩:=bA.1 s3;have s5:=vZ s4;refine aX (fun k3=>?_) (fun k3=>?_)
    ·have k3':key y < key z:=hr.1 (of_decide_eq_true k3);refine cX (j:=0) (i:=(p++L0).length) (k:=0) z (cf _) s5 rfl hq2 (by rw [toNat_natCast]; rfl) pO (by simp) ?_;refine cX (j:=0) (i:=(p++L0).length + 1) (k:=0) y (cf _) s5 rfl hq1 (by rw [toNat_natCast]; rfl) tX (by simp) ?_;refine uq (j:=0) (i:=(p++L0).length + 1) (k:=0) z (cf _) s5 rfl hq1 (by rw [toNat_natCast]; rfl) tX (by simp) rfl fun h6 s6=>?_;rw [mid_set1] at s6;refine uq (j:=0) (i:=(p++L0).length) (k:=0) y (cf _) s6 rfl hq2 (by rw [toNat_natCast]; rfl) pO (by simp) rfl fun h7 s7=>?_;refine ⟨⟨L0,z::a2,by rw [← he]; simp,by rw [hlL],fun x hx=>?_,?_⟩,by simp only [toNat_natCast]; omega⟩
     ·rcases List.mem_cons.1 hx with rfl | hx
      ·exact k3'
      ·exact h2 x hx
     ·have e2:p++((L0++y::(z::a2++b'))++q) = (p++L0)++y::z::(a2++b'++q):=by simp
      rw [e2];have s8:ay (vI s (((p++L0)++z::z::(a2++b'++q)).set (p++L0).length y)::A) h7:=s7;rw [mid_set] at s8;exact s8
    ·have k3':key z <= key y:=by
      have:¬ key y < key z:=fun hh=>by have:=hr.2 hh; simp at k3; omega
      omega
     refine out (L0++[z]) a2 h3 he (fun x hx=>?_) h2 (by rw [hdec]; exact s5);have hup:Up key (L0++[z]):=by
      rw [← he] at ha;exact (pairwise_append.1 ha).1
     rcases List.mem_append.1 hx with hx | hx
     ·have:=(pairwise_append.1 hup).2.2 x hx z (by simp);omega
     ·rw [List.mem_singleton.1 hx]; exact k3'
   ·have e:a1 = []:=by
     have:=of_decide_eq_false k2;exact List.eq_nil_of_length_eq_zero (by omega)
    subst e;exact out [] a2 h he (fun x hx=>by cases hx) h2 s2
  ·have hb0:b = []:=by
    have:=of_decide_eq_false k;exact List.eq_nil_of_length_eq_zero (by omega)
   subst hb0;rw [append_nil] at hp s1;exact ⟨a,⟨hp,ha⟩,s1⟩
theorem sp_SortStable20 (s:Sl) (v:Value) (A:List As) (key:Int->Int) (S:Int->Prop) (hv:CmpOk v A key S) (m:List Int) (hS:∀ x ∈ m,S x) (hb:m.length <= 20) :
  Sp prog eO [sv s,v] R_ (vI s m::A) (fun _ h=>∃ m',(m'.Perm m/\Up key m')/\ay (vI s m'::A) h):=by
 intro h s0;have hl:=(bY (j:=0) s0 rfl).1;refine iX _ _ ?_;unfold fO;unfold cl;refine kN _ _ _ ?_;unfold ii;rw [hl];have ins:∀ (p m q:List Int) (h:Hp) (K:Unit->Hp->Prop),(∀ x ∈ m,S x)->p.length + m.length + q.length < 2 ^ 60->ay (vI s (p++(m++q))::A) h->(∀ m' h',m'.Perm m->Up key m'->ay (vI s (p++(m'++q))::A) h'->K () h') ->
   cl prog bT [sv s,.int .i64 p.length,.int .i64 (p.length + m.length:Nat),v] R_ K h:=by
  intro p m q h K h1 h2 s1 k;refine (sp_insertion s v A key S hv p m q h1 h2 h s1).mono ?_;rintro u h' ⟨r,e,m',⟨p1,p2⟩,s2⟩;exact ⟨r,e,k m' h' p1 p2 s2⟩
 have tail:∀ (m':List Int) (h:Hp),m'.length = m.length->Up key m'->m'.Perm m->ay (vI s m'::A) h->Lp (cG (s) (m.length:Int) v (fun _ h'=>∃ m',(m'.Perm m/\Up key m')/\ay (vI s m'::A) h')) 20 h:=by
  intro m' h hlm hu hp s1;refine Lp.intro (fun (i:Int) h=>i = 20/\ay (vI s m'::A) h) (fun _ _=>0) ⟨rfl,s1⟩ ?_;rintro i h ⟨rfl,s2⟩;unfold cG;refine dN (by simp; omega) ?_;exact ⟨m',⟨hp,hu⟩,s2⟩
 refine Lp.intro (fun (z:Int × Int) h=>(z = (0,20)/\ay (vI s m::A) h)\/(z = (20,40)/\m.length = 20/\∃ m',(m'.Perm m/\Up key m')/\ay (vI s m'::A) h)) (fun (z:Int × Int) _=>(40 - z.2).toNat) (.inl ⟨rfl,s0⟩) ?_;rintro z h (⟨rfl,s1⟩ | ⟨rfl,h20,m',⟨hp,hu⟩,s1⟩)
 ·unfold eI;refine aX (fun k=>?_) (fun k=>?_)
  ·have h20:m.length = 20:=by have:=of_decide_eq_true k; omega
   have e:(20:Int) = ((([]:List Int).length + m.length:Nat):Int):=by simp [h20]
   show cl prog bT [sv s,.int .i64 0,.int .i64 20,v] R_ _ h;rw [e];refine ins [] m [] h _ hS (by simp; omega) (by simpa using s1) fun m' h' hp hu s2=>?_;refine ⟨.inr ⟨?_,h20,m',⟨hp,hu⟩,by simpa using s2⟩,?_⟩
   ·rw [← e]; rw [bp (by omega) (by omega)]; rfl
   ·rw [← e]; rw [bp (by omega) (by omega)]; decide
  ·have e:(m.length:Int) = ((([]:List Int).length + m.length:Nat):Int):=by simp
   show cl prog bT [sv s,.int .i64 0,.int .i64 (m.length:Int),v] R_ _ h;have:=ins [] m [] h (fun _=>Lp (cG s (m.length:Int) v (fun _ h'=>∃ m',(m'.Perm m/\Up key m')/\ay (vI s m'::A) h')) 20) hS (by simp; omega) (by simpa using s1) fun m' h' hp hu s2=>tail m' h' hp.length_eq hu hp (by simpa using s2);rw [← e] at this;exact this
 ·unfold eI;refine dN (by rw [h20]; rfl) ?_;have hml:m'.length = 20:=hp.length_eq.trans h20;have e:(m.length:Int) = ((m'.length + ([]:List Int).length:Nat):Int):=by simp [h20,hml]
  have e2:(20:Int) = (m'.length:Int):=by omega
  show cl prog bT [sv s,.int .i64 20,.int .i64 (m.length:Int),v] R_ _ h;have:=ins m' [] [] h (fun _=>Lp (cG s (m.length:Int) v (fun _ h'=>∃ m',(m'.Perm m/\Up key m')/\ay (vI s m'::A) h')) 20) (fun x hx=>by cases hx) (by simp; omega) (by simpa using s1) fun m2 h' hp2 hu2 s2=>by
   have:m2 = []:=hp2.eq_nil;subst this;exact tail m' h' hp.length_eq hu hp (by simpa using s2)
  rw [← e,← e2] at this;exact this
end
section
open Go Mb
def uG (a0:Ptr) (K:kT Int):hT:=br a0.isNone ( K 0) ( nn a0 fun q6=>ld (q6.1,q6.2 + 0) cS fun x8=>K (x8.len:Int))
theorem sim_mem_Mem_Frames (a0:Ptr) {K:kT Int} {h:Hp} (H:uG a0 K h):cl prog wH [(pv a0)] eN K h:=z_i func177 p p fun _=>O<|U p<|ai<|O<|M p<|J (cy underlying131 p)<|ad<|av p H (fun k1 H2=>O<|U p<|ah<|F ⟨0,p,H2⟩) fun k1 H2=>ak<|O<|M p<|bL H2 fun q6 e3 H4=>J (aP<|aJ p<|au e3)<|J (ae tj p)<|aa<|aY H4 lO p (fun _=>p) p fun x8 H5=>J (dh p underlying107 p)<|U p<|ah<|F ⟨(x8.len:Int),p,H5⟩
def sh_mem_Mem_at (a0:Ptr) (a1:Int) (a2:Int) (K:kT Ptr):hT:=br (!(decide (a1 < 0))) ( cl prog wH [(pv a0)] eN fun r12=>br (((decide (a1 >= r12)) || (decide (a2 < 0))) || (decide (a2 >= 16))) ( K none) ( nn a0 fun q24=>ld (q24.1,q24.2 + 0) cS fun x26=>ix x26 a1 fun q28=>ld (q28.1,q28.2 + Int.toNat a1 * 1) cS fun x29=>ix x29 a2 fun q31=>K (some (q31.1,q31.2 + Int.toNat a2 * 1)))) ( K none)
theorem sim_mem_Mem_at (a0:Ptr) (a1:Int) (a2:Int) {K:kT Ptr} {h:Hp} (H:sh_mem_Mem_at a0 a1 a2 K h):cl prog mK [(pv a0),(.int .i64 a1),(.int .i64 a2)] tn K h:=z_i func154 p p fun _=>O<|U p<|ai<|O<|M p<|J (bZ p p)<|M p<|W p p (aL _) (fun g1=>wv<|ag p)<|W p p (aL _) (fun g2=>wv<|ag p)<|bS H (fun k4 H5=>z_O (Z<|cg k4)<|gz H5 en_177 (aZ (aC p k4) bX) p fun r12 _ H6=>z_O (Z<|cg k4)<|z_p (iE (aC p k4) p)<|J (ap p (cg k4) p)<|M p<|W p p (aL _) (fun g7=>wv<|ag p)<|W p p (aL _) (fun g8=>wv<|bZ (aC p g8) p)<|J (dy p p)<|M p<|W p p (aL _) (fun g9=>wv<|ag p)<|W p p (aL _) (fun g10=>wv<|iE (aC p g10) p)<|J (dy p p)<|ad<|av p H6 (fun k11 H12=>O<|U p<|ah<|F ⟨none,p,H12⟩) fun k11 H12=>ak<|O<|M p<|bL H12 fun q24 e13 H14=>J (aP<|aJ p<|au e13)<|J (ae tj p)<|aa<|aY H14 lO p (fun _=>p) p fun x26 H15=>M p<|cm H15 fun q28 e16 h17 H18=>J (aW mD (aJ p<|aM e16) p h17)<|aa<|aY H18 rQ p (fun _=>p) p fun x29 H19=>M p<|cm H19 fun q31 e20 h21 H22=>J (aW sQ (aJ p<|aM e20) p h21)<|U p<|ah<|F ⟨some (q31.1,q31.2 + Int.toNat a2 * 1),p,H22⟩) fun k4 H5=>Y (be<|bG k4)<|Y (be<|bG k4)<|J (aI p (bG k4) p)<|M p<|Y p<|Y p<|J (aI p p p)<|M p<|Y p<|Y p<|J (aI p p p)<|ad<|gc p p<|O<|U p<|ah<|F ⟨none,p,H5⟩
def sh_mem_Mem_Load (a0:Ptr) (a1:Int) (a2:Int) (K:kT (Int × Bool)):hT:=cl prog mK [(pv a0),(.int .i64 a1),(.int .i64 a2)] tn fun r12=>br r12.isNone ( K (0,false)) ( nn r12 fun q16=>ld (q16.1,q16.2) (cI .u64) fun x17=>K (x17,true))
theorem sim_mem_Mem_Load (a0:Ptr) (a1:Int) (a2:Int) {K:kT (Int × Bool)} {h:Hp} (H:sh_mem_Mem_Load a0 a1 a2 K h):cl prog iL [(pv a0),(.int .i64 a1),(.int .i64 a2)] bP K h:=z_i func124 p p fun _=>O<|J (ar p)<|U p<|O<|M p<|M p<|M p<|aa<|G H en_154 fun r12 _ H1=>U p<|ai<|O<|M p<|J (cy underlying220 p)<|ad<|av p H1 (fun k2 H3=>O<|J (ar p)<|U p<|ah<|bE (bW p (cj p)<|cj p) ⟨(0,false),p,H3⟩) fun k2 H3=>ak<|O<|M p<|bL H3 fun q16 e4 H5=>J (aP<|aJ p<|au e4)<|aa<|aY H5 cC p (fun _=>p) p fun x17 H6=>J (ar p)<|U p<|ah<|bE (bW p (cj p)<|cj p) ⟨(x17,true),p,H6⟩
def wq (a0:Ptr) (a1:Int) (a2:Int) (a3:Int) (K:kT Bool):hT:=cl prog mK [(pv a0),(.int .i64 a1),(.int .i64 a2)] tn fun r13=>br r13.isNone ( K false) ( nn r13 fun q18=>st (q18.1,q18.2) [.int .u64 a3]<|K true)
theorem sim_mem_Mem_Store (a0:Ptr) (a1:Int) (a2:Int) (a3:Int) {K:kT Bool} {h:Hp} (H:wq a0 a1 a2 a3 K h):cl prog fW [(pv a0),(.int .i64 a1),(.int .i64 a2),(.int .u64 a3)] aD K h:=z_i func125 p p fun _=>O<|U p<|O<|M p<|M p<|M p<|aa<|G H en_154 fun r13 _ H1=>U p<|ai<|O<|M p<|J (cy underlying220 p)<|ad<|av p H1 (fun k2 H3=>O<|U p<|ah<|F ⟨false,p,H3⟩) fun k2 H3=>ak<|O<|M p<|M p<|bL H3 fun q18 e4 H5=>J (aP<|aJ p<|au e4)<|aa<|dx inf_31 p p p p p H5 fun _ H6=>ad<|O<|U p<|ah<|F ⟨true,p,H6⟩
def sh_mem_Mem_Cas (a0:Ptr) (a1:Int) (a2:Int) (a3:Int) (a4:Int) (K:kT (Int × Bool)):hT:=cl prog iL [(pv a0),(.int .i64 a1),(.int .i64 a2)] bP fun r18=>br (r18.2 && (r18.1 == a3)) ( cl prog fW [(pv a0),(.int .i64 a1),(.int .i64 a2),(.int .u64 a4)] aD fun r31=>K (r18.1,r18.2)) ( K (r18.1,r18.2))
theorem sim_mem_Mem_Cas (a0:Ptr) (a1:Int) (a2:Int) (a3:Int) (a4:Int) {K:kT (Int × Bool)} {h:Hp} (H:sh_mem_Mem_Cas a0 a1 a2 a3 a4 K h):cl prog ra [(pv a0),(.int .i64 a1),(.int .i64 a2),(.int .u64 a3),(.int .u64 a4)] bP K h:=z_i func126 p p fun _=>O<|J (ar p)<|U p<|O<|M p<|M p<|M p<|aa<|G H en_124 fun r18 _ H1=>M p<|J (aj p p)<|J (aj p p)<|J (ar p)<|U p<|ai<|O<|M p<|M p<|W p p (aA _) (fun g2=>wv<|ag p)<|W p p (aA _) (fun g3=>wv<|ag p)<|W p p (aA _) (fun g4=>wv<|bM (aC p g4)<|aC p g4)<|J (bN p p)<|ad<|av p H1 (fun k5 H6=>am<|M p<|M p<|M p<|M p<|aa<|G H6 en_125 fun r31 _ H7=>ad<|O<|M p<|M p<|J (ar p)<|U p<|ah<|bE (bW p (cj p)<|cj p) ⟨(r18.1,r18.2),p,H7⟩) fun k5 H6=>ak<|O<|M p<|M p<|J (ar p)<|U p<|ah<|bE (bW p (cj p)<|cj p) ⟨(r18.1,r18.2),p,H6⟩
def sh_mem_Mem_Add (a0:Ptr) (a1:Int) (a2:Int) (a3:Int) (K:kT (Int × Bool)):hT:=cl prog iL [(pv a0),(.int .i64 a1),(.int .i64 a2)] bP fun r16=>cl prog fW [(pv a0),(.int .i64 a1),(.int .i64 a2),(.int .u64 (u64.wrap (r16.1 + a3)))] aD fun r25=>K (r16.1,r16.2)
theorem sim_mem_Mem_Add (a0:Ptr) (a1:Int) (a2:Int) (a3:Int) {K:kT (Int × Bool)} {h:Hp} (H:sh_mem_Mem_Add a0 a1 a2 a3 K h):cl prog rb [(pv a0),(.int .i64 a1),(.int .i64 a2),(.int .u64 a3)] bP K h:=z_i func127 p p fun _=>O<|J (ar p)<|U p<|O<|M p<|M p<|M p<|aa<|G H en_124 fun r16 _ H1=>M p<|J (aj p p)<|J (aj p p)<|J (ar p)<|U p<|O<|M p<|M p<|M p<|M p<|M p<|J (bb p p)<|aa<|G H1 en_125 fun r25 _ H2=>ad<|O<|M p<|M p<|J (ar p)<|U p<|ah<|bE (bW p (cj p)<|cj p) ⟨(r16.1,r16.2),p,H2⟩
def sh_mem_Mem_Zero (a0:Ptr) (a1:Int) (K:kT Bool):hT:=cl prog mK [(pv a0),(.int .i64 a1),(.int .i64 0)] tn fun r7=>br r7.isNone ( K false) ( nn a0 fun q10=>ld (q10.1,q10.2 + 0) cS fun x12=>ix x12 a1 fun q14=>ld (q14.1,q14.2 + Int.toNat a1 * 1) cS fun x15=>hpv prog (Builtin.clear_ #[bi] t_none #[(sv x15)]) R_ fun (_:Unit)=>K true)
theorem sim_mem_Mem_Zero (a0:Ptr) (a1:Int) {K:kT Bool} {h:Hp} (H:sh_mem_Mem_Zero a0 a1 K h):cl prog tR [(pv a0),(.int .i64 a1)] aD K h:=z_i func132 p p fun _=>O<|U p<|ai<|O<|M p<|M p<|aa<|G H en_154 fun r7 _ H1=>J (cy underlying220 p)<|ad<|av p H1 (fun k2 H3=>O<|U p<|ah<|F ⟨false,p,H3⟩) fun k2 H3=>ak<|O<|M p<|bL H3 fun q10 e4 H5=>J (aP<|aJ p<|au e4)<|J (ae tj p)<|aa<|aY H5 lO p (fun _=>p) p fun x12 H6=>M p<|cm H6 fun q14 e7 h8 H9=>J (aW mD (aJ p<|aM e7) p h8)<|aa<|aY H9 rQ p (fun _=>p) p fun x15 H10=>aa<|to_hpv0 H10 (x_clear p) fun _ _ H11=>ad<|O<|U p<|ah<|F ⟨true,p,H11⟩
def mem_New_l1 (a0:Int) (K:kT Ptr) (b11:Nat) (Rec7:kT Int) (s6:Int):hT:=br (decide (s6 < a0)) ( ld (b11,0) cS fun x19=>hpv prog (Instr.makeSlice bi (.int .i64 16) (.int .i64 16)) ck fun (v20:Sl)=>hpv prog (Instr.buildSlice qD 1 #[(0,(sv v20))]) R_SSuint64 fun (v21:Sl)=>hpv prog (Builtin.append_ #[qD,qD] qD #[(sv x19),(sv v21)]) R_SSuint64 fun (v22:Sl)=>st (b11,0) [sv v22]<|Rec7 (i64.wrap (s6 + 1))) ( K (some (b11,0)))
def sh_mem_New (a0:Int) (K:kT Ptr):hT:=br ((decide (a0 < 1)) || (decide (a0 > 16))) ( K none) ( nw mA (tm.C (⟨(⟨none,0,0,none⟩:Sl)⟩:tm)) fun b11=>Lp (mem_New_l1 a0 K b11) 0)
theorem sim_mem_New (a0:Int) {K:kT Ptr} {h:Hp} (H:sh_mem_New a0 K h):cl prog wG [(.int .i64 a0)] uo K h:=z_i func92 p p fun _=>O<|U p<|ai<|O<|M p<|J (bZ p p)<|M p<|W p p (aL _) (fun g1=>wv<|ag p)<|W p p (aL _) (fun g2=>wv<|hG (aC p g2) p)<|J (dy p p)<|ad<|av p H (fun k3 H4=>O<|U p<|ah<|F ⟨none,p,H4⟩) fun k3 H4=>ak<|O<|J (bg (vs:=[]) p build_199)<|aa<|iF p p p H4 fun b11 _ H5=>U p<|ai<|O<|M p<|M p<|ad<|aw<|bv (step:=mem_New_l1 a0 K b11) (fun s6=>[(3,(.pointer (some ⟨b11,0,none⟩))),(12,(.int .i64 a0)),(13,(.int .i64 s6))]) (fun s6=>[]) H5 (.cons p<|.cons p<|.cons p<|.nil _) .slnil fun Rec7 s6 _ H8=>O<|J (bZ p p)<|ad<|ai<|av p H8 (fun k9 H10=>ak<|ai<|aw<|bk (n:=11) [] ch p .slnil<|V 0 p (ag p)<|V 1 p (ag p)<|V 2 p (aP p)<|V 3 p (ae tj p)<|bw (i:=4) (fun _ _ _ _ hh=>hh) H10 p (by kernel_rfl) lO p (fun _=>p) p fun x19 H11=>R 5 p<|aF H11 (km p p) p fun v20 _ H12=>⟨.slnil,R 6 p<|aF H12 (bh (vs:=[(sv v20)]) p) p fun v21 _ H13=>⟨.slnil,R 7 p<|aF H13 (bz p p) p fun v22 _ H14=>⟨.slnil,V 8 p (aP p)<|V 9 p (ae tj p)<|R 10 p<|dx inf_107 p p p p p H14 fun _ H15=>⟨.slnil,aG (by kernel_rfl)<|am<|J (bb p p)<|M p<|ad<|bU (i64.wrap (s6 + 1)) H15 (.cons p<|.cons p<|.cons p<|.nil _) .slnil⟩⟩⟩⟩) fun k9 H10=>bf<|O<|M p<|U p<|ah<|F ⟨some (b11,0),p,H10⟩
def wt (a0:Ptr) (a1:Int) (K:kT Sl):hT:=cl prog mK [(pv a0),(.int .i64 a1),(.int .i64 0)] tn fun r7=>br r7.isNone ( K (⟨none,0,0,none⟩:Sl)) ( nn a0 fun q10=>ld (q10.1,q10.2 + 0) cS fun x12=>ix x12 a1 fun q14=>ld (q14.1,q14.2 + Int.toNat a1 * 1) cS fun x15=>cl prog gT [(sv x15)] ck fun r16=>K r16)
theorem sim_mem_Mem_Frame (a0:Ptr) (a1:Int) {K:kT Sl} {h:Hp} (H:wt a0 a1 K h):cl prog rT [(pv a0),(.int .i64 a1)] ck K h:=z_i func164 p p fun _=>O<|U p<|ai<|O<|M p<|M p<|aa<|G H en_154 fun r7 _ H1=>J (cy underlying220 p)<|ad<|av p H1 (fun k2 H3=>O<|U p<|ah<|F ⟨(⟨none,0,0,none⟩:Sl),p,H3⟩) fun k2 H3=>ak<|O<|M p<|bL H3 fun q10 e4 H5=>J (aP<|aJ p<|au e4)<|J (ae tj p)<|aa<|aY H5 lO p (fun _=>p) p fun x12 H6=>M p<|cm H6 fun q14 e7 h8 H9=>J (aW mD (aJ p<|aM e7) p h8)<|aa<|aY H9 rQ p (fun _=>p) p fun x15 H10=>aa<|G H10 en_180 fun r16 _ H11=>U p<|ah<|F ⟨r16,p,H11⟩
end
section
open Go Mb
abbrev vU (s:Sl) (xs:List Int):As:=vec t_uint64 1 (cI .u64) s xs
def rows:List Sl->List (List Int)->List As
 | s::ss,f::fs=>vU s f::rows ss fs
 | _,_=>[]
theorem rows_get:∀ (ss:List Sl) (fs:List (List Int)) (i:Nat) (s:Sl) (f:List Int),ss[i]? = some s->fs[i]? = some f->(rows ss fs)[i]? = some (vU s f)
 | [],_,_,_,_,h,_=>by simp at h
 | _::_,[],_,_,_,_,h=>by simp at h
 | s::ss,f::fs,0,_,_,h1,h2=>by simp at h1 h2; subst h1; subst h2; rfl
 | s::ss,f::fs,i + 1,_,_,h1,h2=>by simpa [rows] using rows_get ss fs i _ _ (by simpa using h1) (by simpa using h2)
theorem rows_set:∀ (ss:List Sl) (fs:List (List Int)) (i:Nat) (s:Sl) (f:List Int),ss[i]? = some s->(rows ss fs).set i (vU s f) = rows ss (fs.set i f)
 | [],_,_,_,_,h=>by simp at h
 | s::ss,[],i,_,_,_=>by simp [rows]
 | s::ss,g::fs,0,_,_,h1=>by simp at h1; subst h1; rfl
 | s::ss,g::fs,i + 1,_,_,h1=>by simp only [rows,set_cons_succ]; rw [rows_set ss fs i _ _ (by simpa using h1)]
theorem rows_app (s:Sl) (f:List Int):∀ (ss:List Sl) (fs:List (List Int)),ss.length = fs.length->rows (ss++[s]) (fs++[f]) = rows ss fs++[vU s f]
 | [],[],_=>rfl
 | [],_::_,h=>by simp at h
 | _::_,[],h=>by simp at h
 | a::ss,b::fs,h=>by simp only [cons_append,rows]; rw [rows_app s f ss fs (by simpa using h)]
def xP (b:Nat) (s:Sl) (ss:List Sl) (fs:List (List Int)):List As:=blk b mA [sv s]::vec bi 1 cS s ss::rows ss fs
structure MemOk (ss:List Sl) (fs:List (List Int)):Prop where
 len:ss.length = fs.length
 le:fs.length <= 16
 row:∀ f ∈ fs,f.length = 16
def iQ (x:Ptr) (fs:List (List Int)):As:=fun h=>∃ bs:Nat × Sl × List Sl,(x = some (bs.1,0)/\MemOk bs.2.2 fs)/\ay (xP bs.1 bs.2.1 bs.2.2 fs) h
theorem mem_op {x:Ptr} {fs:List (List Int)} {l:List As} {h:Hp} (s0:ay (iQ x fs::l) h):∃ b s ss,x = some (b,0)/\MemOk ss fs/\s.len = fs.length/\ay (xP b s ss fs++l) h:=by
 obtain ⟨⟨b,s,ss⟩,⟨hx,hb⟩,st⟩:=op_ s0;exact ⟨b,s,ss,hx,hb,(bY (j:=1) st rfl).1.trans hb.len,st⟩
theorem mem_cl {b:Nat} {s:Sl} {ss:List Sl} {fs:List (List Int)} {l:List As} {h:Hp} (hb:MemOk ss fs) (st:ay (xP b s ss fs++l) h):ay (iQ (some (b,0)) fs::l) h:=cl_ (b,s,ss) ⟨rfl,hb⟩ st
theorem sU {b:Nat} {s:Sl} {ss:List Sl} {fs:List (List Int)} {h:Hp} (hb:MemOk ss fs) (st:ay (xP b s ss fs) h):ay [iQ (some (b,0)) fs] h:=mem_cl hb (by rw [append_nil]; exact st)
namespace Mem
def has (fs:List (List Int)) (f a:Int):Prop:=0 <= f/\f < fs.length/\0 <= a/\a < 16
instance (fs:List (List Int)) (f a:Int):Decidable (has fs f a):=by unfold has; infer_instance
def word (fs:List (List Int)) (f a:Int):Int:=(fs.getD f.toNat []).getD a.toNat 0
def load (fs:List (List Int)) (f a:Int):Int × Bool:=if has fs f a then (word fs f a,true) else (0,false)
def put (fs:List (List Int)) (f a v:Int):List (List Int):=fs.set f.toNat ((fs.getD f.toNat []).set a.toNat v)
def store (fs:List (List Int)) (f a v:Int):Bool × List (List Int):=if has fs f a then (true,put fs f a v) else (false,fs)
end Mem
theorem sc (x:Sl):(cS x).length = 1:=rfl
def memAt (ss:List Sl) (fs:List (List Int)) (f a:Int) (r:Ptr):Prop :=
 if Mem.has fs f a then ∃ s q,ss[f.toNat]? = some s/\s.a = some q/\r = some (q.1,q.2 + a.toNat * 1) else r = none
theorem sp_mem_at (b:Nat) (s:Sl) (ss:List Sl) (fs:List (List Int)) (hb:MemOk ss fs) (f a:Int):Sp prog mK [pv (some (b,0)),.int .i64 f,.int .i64 a] tn (xP b s ss fs) (fun r=>pa_ (memAt ss fs f a r) (xP b s ss fs)):=by
 intro h st;refine sim_mem_Mem_at _ _ _ ?_;unfold sh_mem_Mem_at;have hno:∀ {p:Prop},¬ p->(Mem.has fs f a->p)->memAt ss fs f a none:=fun hp himp=>by unfold memAt; rw [if_neg (fun hh=>hp (himp hh))]
 have hl:s.len = fs.length:=(bY (j:=1) st rfl).1.trans hb.len;refine aX (fun k=>?_) (fun k=>?_)
 ·have h0:0 <= f:=by simpa using k
  unfold cl;refine sim_mem_Mem_Frames _ ?_;unfold uG;refine dN rfl (cL (bt s st (i:=0) rfl rfl rfl ?_));refine aX (fun k2=>?_) (fun k2=>?_)
  ·have k2':¬ (f < fs.length/\0 <= a/\a < 16):=by simp [hl] at k2; omega
   exact ba (hno k2' (fun hh=>hh.2)) st
  ·have k2':f < fs.length/\0 <= a/\a < 16:=by simp [hl] at k2; omega
   obtain ⟨n,rfl⟩:=Int.eq_ofNat_of_zero_le h0;have hn:n < ss.length:=by rw [hb.len]; omega
   have hf:n < fs.length:=by omega
   refine cL (bt s st (i:=0) rfl rfl rfl ?_);refine cU st (j:=1) rfl (by omega) (by omega) fun q hq=>?_;refine cX (j:=1) (i:=n) (k:=0) ss[n] sc st rfl hq (by simp) (aB hn) (by simp) ?_;have hr:(xP b s ss fs)[2 + n]? = some (vU ss[n] fs[n]):=by
    show (blk b mA [sv s]::vec bi 1 cS s ss::rows ss fs)[2 + n]? = _;rw [add_comm,getElem?_cons_succ,getElem?_cons_succ];exact rows_get ss fs n _ _ (aB hn) (aB hf)
   have hlen:fs[n].length = 16:=hb.row _ (getElem_mem hf);refine cU st (j:=2 + n) hr (by omega) (by omega) fun q2 hq2=>?_;refine ba ?_ st;unfold memAt;rw [if_pos ⟨h0,k2'⟩];exact ⟨ss[n],q2,by simp [hn],hq2,rfl⟩
 ·have k':¬ 0 <= f:=by simpa using k
  exact ba (hno k' (fun hh=>hh.1)) st
theorem ro (x:Ptr) (fs:List (List Int)) (f a:Int):Sp prog iL [pv x,.int .i64 f,.int .i64 a] bP [iQ x fs] (fun r=>pa_ (r = Mem.load fs f a) [iQ x fs]):=by
 intro h s0;obtain ⟨b,s,ss,rfl,hb,hl,st⟩:=mem_op s0;refine sim_mem_Mem_Load _ _ _ ?_;unfold sh_mem_Mem_Load;rw [append_nil] at st;refine cW (rest:=[]) [] (sp_mem_at b s ss fs hb f a) st (append_nil _).symm fun r h' s1=>?_;obtain ⟨hr,s2⟩:=bA.1 s1;rw [append_nil] at s2;by_cases hh:Mem.has fs f a
 ·unfold memAt at hr;rw [if_pos hh] at hr;obtain ⟨sr,q,h1,h2,rfl⟩:=hr;obtain ⟨g1,g2,g3,g4⟩:=hh;have hf:f.toNat < fs.length:=by omega
  have hrow:(xP b s ss fs)[2 + f.toNat]? = some (vU sr fs[f.toNat]):=by
   show (blk b mA [sv s]::vec bi 1 cS s ss::rows ss fs)[2 + f.toNat]? = _;rw [add_comm,getElem?_cons_succ,getElem?_cons_succ];exact rows_get ss fs _ _ _ h1 (aB hf)
  have hlen:fs[f.toNat].length = 16:=hb.row _ (getElem_mem hf);have ha:a.toNat < fs[f.toNat].length:=by omega
  refine dN rfl (cL ?_);refine cX (j:=2 + f.toNat) (i:=a.toNat) (k:=0) (q:=q) fs[f.toNat][a.toNat] (cf _) s2 hrow h2 (by simp) (aB ha) (by simp) ?_;refine ba ?_ (sU hb s2);unfold Mem.load;rw [if_pos ⟨g1,g2,g3,g4⟩];simp [Mem.word,hf,ha]
 ·unfold memAt at hr;rw [if_neg hh] at hr;subst hr;refine eG rfl ?_;refine ba ?_ (sU hb s2);unfold Mem.load;rw [if_neg hh]
theorem mC (x:Ptr) (fs:List (List Int)) (f a v:Int):Sp prog fW [pv x,.int .i64 f,.int .i64 a,.int .u64 v] aD [iQ x fs] (fun r=>pa_ (r = (Mem.store fs f a v).1) [iQ x (Mem.store fs f a v).2]):=by
 intro h s0;obtain ⟨b,s,ss,rfl,hb,hl,st⟩:=mem_op s0;refine sim_mem_Mem_Store _ _ _ _ ?_;unfold wq;rw [append_nil] at st;refine cW (rest:=[]) [] (sp_mem_at b s ss fs hb f a) st (append_nil _).symm fun r h' s1=>?_;obtain ⟨hr,s2⟩:=bA.1 s1;rw [append_nil] at s2;by_cases hh:Mem.has fs f a
 ·unfold memAt at hr;rw [if_pos hh] at hr;obtain ⟨sr,q,h1,h2,rfl⟩:=hr;have e:Mem.store fs f a v = (true,Mem.put fs f a v):=if_pos hh;rw [e];obtain ⟨g1,g2,g3,g4⟩:=hh;have hf:f.toNat < fs.length:=by omega
  have hrow:(xP b s ss fs)[2 + f.toNat]? = some (vU sr fs[f.toNat]):=by
   show (blk b mA [sv s]::vec bi 1 cS s ss::rows ss fs)[2 + f.toNat]? = _;rw [add_comm,getElem?_cons_succ,getElem?_cons_succ];exact rows_get ss fs _ _ _ h1 (aB hf)
  have hlen:fs[f.toNat].length = 16:=hb.row _ (getElem_mem hf);have ha:a.toNat < fs[f.toNat].length:=by omega
  refine dN rfl (cL ?_);refine uq (j:=2 + f.toNat) (i:=a.toNat) (k:=0) (q:=q) v (cf _) s2 hrow h2 (by simp) (aB ha) (by simp) rfl fun h3 s3=>?_;have fx:(xP b s ss fs).set (2 + f.toNat) (vU sr (fs[f.toNat].set a.toNat v)) = xP b s ss (Mem.put fs f a v):=by
   show (blk b mA [sv s]::vec bi 1 cS s ss::rows ss fs).set (2 + f.toNat) _ = _;rw [add_comm,set_cons_succ,set_cons_succ,rows_set ss fs _ _ _ h1];simp [xP,Mem.put,hf]
  rw [fx] at s3;refine ba rfl (sU ⟨by simp [Mem.put,hb.len],by simpa [Mem.put] using hb.le,?_⟩ s3);intro g hg;unfold Mem.put at hg;rcases List.mem_or_eq_of_mem_set hg with h4 | h4
  ·exact hb.row _ h4
  ·rw [h4]; simp [hf,hlen]
 ·unfold memAt at hr;rw [if_neg hh] at hr;subst hr;have e:Mem.store fs f a v = (false,fs):=if_neg hh;rw [e];exact eG rfl (ba rfl (sU hb s2))
namespace Mem
def cas (fs:List (List Int)) (f a o v:Int):(Int × Bool) × List (List Int) :=
 (load fs f a,if (load fs f a).2 && ((load fs f a).1 == o) then (store fs f a v).2 else fs)
def add (fs:List (List Int)) (f a v:Int):(Int × Bool) × List (List Int) :=
 (load fs f a,(store fs f a (u64.wrap ((load fs f a).1 + v))).2)
def zero (fs:List (List Int)) (f:Int):Bool × List (List Int) :=
 if has fs f 0 then (true,fs.set f.toNat (replicate 16 0)) else (false,fs)
def frame (fs:List (List Int)) (f:Int):List Int:=if has fs f 0 then fs.getD f.toNat [] else []
end Mem
theorem sp_mem_Cas (x:Ptr) (fs:List (List Int)) (f a o v:Int):Sp prog ra [pv x,.int .i64 f,.int .i64 a,.int .u64 o,.int .u64 v] bP [iQ x fs] (fun r=>pa_ (r = (Mem.cas fs f a o v).1) [iQ x (Mem.cas fs f a o v).2]):=by
 intro h s0;refine sim_mem_Mem_Cas _ _ _ _ _ ?_;unfold sh_mem_Mem_Cas;refine cW [0] (ro x fs f a) s0 rfl fun r h' s1=>?_;obtain ⟨hr,s2⟩:=bA.1 s1;subst hr;refine aX (fun k=>?_) (fun k=>?_)
 ·refine cW [0] (mC x fs f a v) s2 rfl fun r h' s3=>?_;obtain ⟨_,s4⟩:=bA.1 s3;refine ba rfl ?_;simp only [Mem.cas,k,if_true];exact s4
 ·refine ba rfl ?_;simp only [Mem.cas,k,Bool.false_eq_true,if_false];exact s2
theorem sp_mem_Add (x:Ptr) (fs:List (List Int)) (f a v:Int):Sp prog rb [pv x,.int .i64 f,.int .i64 a,.int .u64 v] bP [iQ x fs] (fun r=>pa_ (r = (Mem.add fs f a v).1) [iQ x (Mem.add fs f a v).2]):=by
 intro h s0;refine sim_mem_Mem_Add _ _ _ _ ?_;unfold sh_mem_Mem_Add;refine cW [0] (ro x fs f a) s0 rfl fun r h' s1=>?_;obtain ⟨hr,s2⟩:=bA.1 s1;subst hr;refine cW [0] (mC x fs f a _) s2 rfl fun r h' s3=>?_;obtain ⟨_,s4⟩:=bA.1 s3;exact ba rfl s4
theorem sp_slices_Clone (s:Sl) (xs:List Int) (hb:xs.length < 2 ^ 40):Sp prog gT [sv s] ck [vU s xs] (fun r=>ay [vU r xs,vU s xs]):=by
 intro h s0;refine qG _ ?_;unfold kr;refine aX (fun k=>?_) (fun k=>?_)
 ·have hn:xs = []:=by
   obtain ⟨_,⟨e1,e2,e3⟩,_⟩:=dZ (i:=0) rfl s0;rcases e3 with e3 | ⟨b,pre,rest,U,fr,h4,_⟩
   ·exact List.eq_nil_of_length_eq_zero (by omega)
   ·rw [h4] at k; cases k
  subst hn;exact fu s0
 ·refine fy (τ:=Int) [] (val:=fun x=>.int .u64 x) (enc:=cI .u64) gr (cf _) (fun _=>rfl) s0 rfl rfl (by simp) fun y h' s1=>?_;refine rK (τ:=Int) (i:=0) (j:=1) (enc:=cI .u64) (xs:=[]) (ys:=xs) gr gr.sl (cf _) (oneI _) s1 rfl rfl (by omega) (by simp; omega) (by simp; omega) fun v h2 s2=>?_;exact s2
theorem mem_has {ss:List Sl} {fs:List (List Int)} {f a:Int} {r:Ptr} (hr:memAt ss fs f a r):(Mem.has fs f a↔r ≠ none):=by
 unfold memAt at hr;split at hr
 ·obtain ⟨s,q,_,_,rfl⟩:=hr; simp [*]
 ·simp [*]
theorem mem_row {b:Nat} {s:Sl} {ss:List Sl} {fs:List (List Int)} {i:Nat} (hb:MemOk ss fs) (hi:i < fs.length):∃ sr,ss[i]? = some sr/\(xP b s ss fs)[2 + i]? = some (vU sr fs[i]):=by
 have hn:i < ss.length:=by rw [hb.len]; exact hi
 refine ⟨ss[i],aB hn,?_⟩;show (blk b mA [sv s]::vec bi 1 cS s ss::rows ss fs)[2 + i]? = _;rw [add_comm,getElem?_cons_succ,getElem?_cons_succ];exact rows_get ss fs i _ _ (aB hn) (aB hi)
theorem mem_set {b:Nat} {s:Sl} {ss:List Sl} {fs:List (List Int)} {i:Nat} {sr:Sl} {g:List Int} (h1:ss[i]? = some sr):(xP b s ss fs).set (2 + i) (vU sr g) = xP b s ss (fs.set i g):=by
 show (blk b mA [sv s]::vec bi 1 cS s ss::rows ss fs).set (2 + i) _ = _;rw [add_comm,set_cons_succ,set_cons_succ,rows_set ss fs _ _ _ h1]; rfl
theorem mem_ok_set {ss:List Sl} {fs:List (List Int)} {i:Nat} {g:List Int} (hb:MemOk ss fs) (hg:g.length = 16):MemOk ss (fs.set i g) :=
 ⟨by simp [hb.len],by simpa using hb.le,fun f hf=>by
  rcases List.mem_or_eq_of_mem_set hf with h4 | h4
  ·exact hb.row _ h4
  ·rw [h4]; exact hg⟩
theorem sp_mem_Zero (x:Ptr) (fs:List (List Int)) (f:Int):Sp prog tR [pv x,.int .i64 f] aD [iQ x fs] (fun r=>pa_ (r = (Mem.zero fs f).1) [iQ x (Mem.zero fs f).2]):=by
 intro h s0;obtain ⟨b,s,ss,rfl,hb,hl,st⟩:=mem_op s0;refine sim_mem_Mem_Zero _ _ ?_;unfold sh_mem_Mem_Zero;rw [append_nil] at st;refine cW (rest:=[]) [] (sp_mem_at b s ss fs hb f 0) st (append_nil _).symm fun r h' s1=>?_;obtain ⟨hr,s2⟩:=bA.1 s1;rw [append_nil] at s2;have hh:=mem_has hr;refine aX (fun k=>?_) (fun k=>?_)
 ·have:¬ Mem.has fs f 0:=by rw [hh]; cases r <;> simp_all
  have e:Mem.zero fs f = (false,fs):=if_neg this;rw [e];exact ba rfl (sU hb s2)
 ·have hy:Mem.has fs f 0:=by rw [hh]; cases r <;> simp_all
  have e:Mem.zero fs f = (true,fs.set f.toNat (replicate 16 0)):=if_pos hy;rw [e];obtain ⟨g1,g2,_⟩:=hy;obtain ⟨n,rfl⟩:=Int.eq_ofNat_of_zero_le g1;have hf:n < fs.length:=by omega
  obtain ⟨sr,h1,hrow⟩:=mem_row (b:=b) (s:=s) hb hf;have hn:n < ss.length:=by rw [hb.len]; exact hf
  refine cL (bt s s2 (i:=0) rfl rfl rfl ?_);refine cU s2 (j:=1) rfl (by omega) (by omega) fun q hq=>?_;refine cX (j:=1) (i:=n) (k:=0) sr sc s2 rfl hq (by simp) h1 (by simp) ?_;refine clear_v (τ:=Int) (x0:=0) (enc:=cI .u64) gr rfl (cf _) (oneI _) s2 hrow fun h3 s3=>?_;rw [mem_set h1,hb.row _ (getElem_mem hf)] at s3;exact ba rfl (sU (mem_ok_set hb (by simp)) s3)
theorem sp_mem_Frame (x:Ptr) (fs:List (List Int)) (f:Int):Sp prog rT [pv x,.int .i64 f] ck [iQ x fs] (fun r=>ay [vU r (Mem.frame fs f),iQ x fs]):=by
 intro h s0;obtain ⟨b,s,ss,rfl,hb,hl,st⟩:=mem_op s0;refine sim_mem_Mem_Frame _ _ ?_;unfold wt;rw [append_nil] at st;refine cW (rest:=[]) [] (sp_mem_at b s ss fs hb f 0) st (append_nil _).symm fun r h' s1=>?_;obtain ⟨hr,s2⟩:=bA.1 s1;rw [append_nil] at s2;have hh:=mem_has hr;refine aX (fun k=>?_) (fun k=>?_)
 ·have:¬ Mem.has fs f 0:=by rw [hh]; cases r <;> simp_all
  have e:Mem.frame fs f = []:=if_neg this;rw [e];exact fu (sU hb s2)
 ·have hy:Mem.has fs f 0:=by rw [hh]; cases r <;> simp_all
  have e:Mem.frame fs f = fs.getD f.toNat []:=if_pos hy;rw [e];obtain ⟨g1,g2,_⟩:=hy;obtain ⟨n,rfl⟩:=Int.eq_ofNat_of_zero_le g1;have hf:n < fs.length:=by omega
  obtain ⟨sr,h1,hrow⟩:=mem_row (b:=b) (s:=s) hb hf;have hn:n < ss.length:=by rw [hb.len]; exact hf
  have hlen:=hb.row _ (getElem_mem hf);refine cL (bt s s2 (i:=0) rfl rfl rfl ?_);refine cU s2 (j:=1) rfl (by omega) (by omega) fun q hq=>?_;refine cX (j:=1) (i:=n) (k:=0) sr sc s2 rfl hq (by simp) h1 (by simp) ?_;have hp:pick [2 + n] (xP b s ss fs) = [vU sr fs[n]]++(xP b s ss fs).eraseIdx (2 + n):=by
   unfold pick; rw [hrow]; rfl
  refine cW [2 + n] (sp_slices_Clone sr fs[n] (by omega)) s2 hp fun r2 h3 s3=>?_;have e2:fs.getD (n:Int).toNat [] = fs[n]:=by simp [hf]
  rw [e2];have hlt:=(List.getElem?_eq_some_iff.1 hrow).1;refine star_tail (dq s3) fun h4 s4=>?_;have s5:=eB hlt s4;rw [mem_set h1] at s5;exact sU hb (by simpa using s5)
theorem sp_mem_New (n:Int) (h1:¬ n < 1) (h2:¬ n > 16):Sp prog wG [.int .i64 n] uo [] (fun r=>ay [iQ r (replicate n.toNat (replicate 16 0))]):=by
 intro h st;refine sim_mem_New _ ?_;unfold sh_mem_New;obtain ⟨m,rfl⟩:=Int.eq_ofNat_of_zero_le (show 0 <= n by omega);refine dN (by simp; omega) ?_;refine pC st fun b h' s1=>?_;refine Lp.intro (fun (i:Int) h=>∃ (k:Nat) (s:Sl) (ss:List Sl),i = k/\k <= m/\ss.length = k/\ay (xP b s ss (replicate k (replicate 16 0))) h) (fun (i:Int) _=>m - i.toNat)
  ⟨0,⟨none,0,0,none⟩,[],rfl,zero_le _,rfl,bd [1] (fu s1) rfl⟩ ?_
 rintro i h ⟨k,s,ss,rfl,hk,hss,s2⟩;unfold mem_New_l1;refine aX (fun c=>?_) (fun c=>?_)
 ·have hlt:k < m:=by simpa using c
  have hw:i64.wrap ((k:Int) + 1) = ((k + 1:Nat):Int):=by rw [bp (by omega) (by omega)]; rfl
  refine bt s s2 (i:=0) rfl rfl rfl ?_;refine oJ (τ:=Int) (x0:=0) (enc:=cI .u64) (n:=16) gr rfl s2 (by omega) (by omega) fun v h3 s3=>?_;refine fy (τ:=Sl) [v] (val:=sv) (enc:=cS) vp sc (fun _=>rfl) s3 rfl rfl (by simp) fun y h4 s4=>?_;refine rK (τ:=Sl) (i:=3) (j:=0) (enc:=cS) (xs:=ss) (ys:=[v]) vp vp.sl sc oneS s4 rfl rfl (by omega) (by simp; omega) (by simp; omega) fun w h5 s5=>?_;refine vv (i:=2) s5 rfl (le_refl _) fun h6 s6=>?_;rw [hw];refine ⟨⟨k + 1,w,ss++[v],rfl,hlt,by simp [hss],?_⟩,by simp; omega⟩;have s7:ay (vU v (replicate 16 0)::blk b mA [sv w]::vec bi 1 cS w (ss++[v])::rows ss (replicate k (replicate 16 0))) h6:=ce (l:=[vec bi 1 cS y [v]]) s6;have s8:=bd [1,1] s7 rfl;unfold xP;rw [show replicate (k + 1) (replicate 16 (0:Int)) = replicate k (replicate 16 0)++[replicate 16 0] from by simp [List.replicate_succ'],rows_app _ _ _ _ (by simp [hss])];exact kV (.cons _ (.cons _ (List.perm_append_comm (l₁:=[_])))) s8
 ·have:k = m:=by simp at c; omega
  subst this;exact sU ⟨by simp [hss],by simp; omega,fun f hf=>by rw [(List.mem_replicate.1 hf).2]; simp⟩ s2
end
section
open Go Mb
def np (a0:Int) (K:kT Sl) (s27:Bool):hT:=br s27 ( hpv prog (Instr.buildSlice az 3 #[(0,(.int .i64 1)),(1,(.int .i64 2)),(2,(.int .i64 6))]) aU fun (v33:Sl)=>K v33) ( br (a0 == 22) ( hpv prog (Instr.buildSlice az 4 #[(0,(.int .i64 1)),(1,(.int .i64 2)),(2,(.int .i64 6)),(3,(.int .i64 6))]) aU fun (v36:Sl)=>K v36) ( K (⟨none,0,0,none⟩:Sl)))
def jz (a0:Int) (K:kT Sl) (s1:Bool):hT:=br s1 ( hpv prog (Instr.buildSlice az 1 #[(0,(.int .i64 0))]) aU fun (v8:Sl)=>K v8) ( br (a0 == 2) ( hpv prog (Instr.buildSlice az 3 #[(0,(.int .i64 0)),(1,(.int .i64 0)),(2,(.int .i64 4))]) aU fun (v11:Sl)=>K v11) ( br (a0 == 3) ( hpv prog (Instr.buildSlice az 4 #[(0,(.int .i64 0)),(1,(.int .i64 3)),(2,(.int .i64 0)),(3,(.int .i64 4))]) aU fun (v14:Sl)=>K v14) ( br (a0 == 6) ( hpv prog (Instr.buildSlice az 3 #[(0,(.int .i64 1)),(1,(.int .i64 0)),(2,(.int .i64 4))]) aU fun (v17:Sl)=>K v17) ( br (a0 == 7) ( hpv prog (Instr.buildSlice az 1 #[(0,(.int .i64 1))]) aU fun (v20:Sl)=>K v20) ( br (a0 == 8) ( hpv prog (Instr.buildSlice az 2 #[(0,(.int .i64 1)),(1,(.int .i64 4))]) aU fun (v23:Sl)=>K v23) ( br (a0 == 9) ( hpv prog (Instr.buildSlice az 4 #[(0,(.int .i64 0)),(1,(.int .i64 2)),(2,(.int .i64 5)),(3,(.int .i64 6))]) aU fun (v26:Sl)=>K v26) ( br (a0 == 20) ( hpv prog (Instr.buildSlice az 2 #[(0,(.int .i64 1)),(1,(.int .i64 2))]) aU fun (v29:Sl)=>K v29) ( br (a0 == 21) ( np a0 K (a0 == 21)) ( np a0 K (a0 == 23))))))))))
def sh_word_kinds (a0:Int) (K:kT Sl):hT:=br (a0 == 1) ( jz a0 K (a0 == 1)) ( br (a0 == 4) ( jz a0 K (a0 == 4)) ( jz a0 K (a0 == 5)))
theorem sim_word_kinds (a0:Int) {K:kT Sl} {h:Hp} (H:sh_word_kinds a0 K h):cl prog sS [(.int .i64 a0)] aU K h:=z_i func115 p p fun _=>O<|U p<|ai<|O<|M p<|ad<|aw<|dY (jz a0 K) (fun s1=>[(3,(.int .i64 a0)),(4,(.bool s1))]) (fun s1=>[]) (O<|J (bM p p)<|U p<|av p H (fun k37 H38=>ak<|ct (a0 == 1) H38 (.cons p<|.cons p<|.nil _) .slnil) fun k37 H38=>O<|J (bM p p)<|U p<|av p H38 (fun k39 H40=>ak<|ct (a0 == 4) H40 (.cons p<|.cons p<|.nil _) .slnil) fun k39 H40=>am<|J (bM p p)<|U p<|ct (a0 == 5) H40 (.cons p<|.cons p<|.nil _) .slnil) fun s1 _ H2=>av p H2 (fun k3 H4=>O<|aa<|aF H4 (bh (vs:=[(.int .i64 0)]) p) p fun v8 _ H5=>U p<|ah<|F ⟨v8,p,H5⟩) fun k3 H4=>O<|J (bM p p)<|U p<|av p H4 (fun k6 H7=>O<|aa<|aF H7 (bh (vs:=[(.int .i64 0),(.int .i64 0),(.int .i64 4)]) p) p fun v11 _ H8=>U p<|ah<|F ⟨v11,p,H8⟩) fun k6 H7=>O<|J (bM p p)<|U p<|av p H7 (fun k9 H10=>O<|aa<|aF H10 (bh (vs:=[(.int .i64 0),(.int .i64 3),(.int .i64 0),(.int .i64 4)]) p) p fun v14 _ H11=>U p<|ah<|F ⟨v14,p,H11⟩) fun k9 H10=>O<|J (bM p p)<|U p<|av p H10 (fun k12 H13=>O<|aa<|aF H13 (bh (vs:=[(.int .i64 1),(.int .i64 0),(.int .i64 4)]) p) p fun v17 _ H14=>U p<|ah<|F ⟨v17,p,H14⟩) fun k12 H13=>O<|J (bM p p)<|U p<|av p H13 (fun k15 H16=>O<|aa<|aF H16 (bh (vs:=[(.int .i64 1)]) p) p fun v20 _ H17=>U p<|ah<|F ⟨v20,p,H17⟩) fun k15 H16=>O<|J (bM p p)<|U p<|av p H16 (fun k18 H19=>O<|aa<|aF H19 (bh (vs:=[(.int .i64 1),(.int .i64 4)]) p) p fun v23 _ H20=>U p<|ah<|F ⟨v23,p,H20⟩) fun k18 H19=>O<|J (bM p p)<|U p<|av p H19 (fun k21 H22=>O<|aa<|aF H22 (bh (vs:=[(.int .i64 0),(.int .i64 2),(.int .i64 5),(.int .i64 6)]) p) p fun v26 _ H23=>U p<|ah<|F ⟨v26,p,H23⟩) fun k21 H22=>O<|J (bM p p)<|U p<|av p H22 (fun k24 H25=>O<|aa<|aF H25 (bh (vs:=[(.int .i64 1),(.int .i64 2)]) p) p fun v29 _ H26=>U p<|ah<|F ⟨v29,p,H26⟩) fun k24 H25=>dY (np a0 K) (fun s27=>[(3,(.int .i64 a0)),(30,(.bool s27))]) (fun s27=>[]) (O<|J (bM p p)<|U p<|av p H25 (fun k35 H36=>ak<|ct (a0 == 21) H36 (.cons p<|.cons p<|.nil _) .slnil) fun k35 H36=>am<|J (bM p p)<|U p<|ct (a0 == 23) H36 (.cons p<|.cons p<|.nil _) .slnil) fun s27 _ H28=>av p H28 (fun k29 H30=>O<|aa<|aF H30 (bh (vs:=[(.int .i64 1),(.int .i64 2),(.int .i64 6)]) p) p fun v33 _ H31=>U p<|ah<|F ⟨v33,p,H31⟩) fun k29 H30=>O<|J (bM p p)<|U p<|av p H30 (fun k32 H33=>O<|aa<|aF H33 (bh (vs:=[(.int .i64 1),(.int .i64 2),(.int .i64 6),(.int .i64 6)]) p) p fun v36 _ H34=>U p<|ah<|F ⟨v36,p,H34⟩) fun k32 H33=>ak<|O<|U p<|ah<|F ⟨(⟨none,0,0,none⟩:Sl),p,H33⟩
def uu (a0:al) (a1:Int) (K:kT (Int × Bool)) (s1:Bool):hT:=br s1 ( K (0,false)) ( gd (0 <= a1/\a1 < 5)<|K ((i64.wrap (al.get a0 a1)),true))
def sh_word_Arg (a0:al) (a1:Int) (a2:Int) (K:kT (Int × Bool)):hT:=br (!(((decide (a1 < 1)) || (decide (a1 >= 5))) || (decide (a2 <= 0)))) ( gd (0 <= a1/\a1 < 5)<|uu a0 a1 K (decide ((al.get a0 a1) >= (u64.wrap a2)))) ( uu a0 a1 K true)
theorem sim_word_Arg (a0:al) (a1:Int) (a2:Int) {K:kT (Int × Bool)} {h:Hp} (H:sh_word_Arg a0 a1 a2 K h):cl prog nU [(.agg (al.C a0).toArray),(.int .i64 a1),(.int .i64 a2)] bQ K h:=z_i func123 p p fun _=>O<|aa<|cz (l:=al.C a0) p p p fun b3=>J (ar p)<|U p<|ai<|dY (uu a0 a1 K) (fun s1=>[(1,(.int .i64 a1)),(3,(.pointer (some ⟨b3,0,none⟩))),(25,(.bool s1))]) (fun s1=>[bx b3 33 (al.C a0)]) (am<|M p<|J (bZ p p)<|M p<|W p p (aL _) (fun g7=>wv<|ag p)<|W p p (aL _) (fun g8=>wv<|iE (aC p g8) p)<|J (dy p p)<|M p<|W p p (aL _) (fun g9=>wv<|ag p)<|W p p (aL _) (fun g10=>wv<|vX (aC p g10) p)<|J (dy p p)<|M p<|W p p (aL _) (fun g11=>wv<|ag p)<|bS H (fun k13 H14=>jG H14 fun h15 H16=>z_O (Z<|cg k13)<|z_p (bH dw p (aC p k13) h15)<|z_O (Z<|cg k13)<|tM (cv<|bc (k:=0) cC p p<|at_33 _ _ h15) p<|z_O (Z<|cg k13)<|z_p (ag p)<|z_O (Z<|cg k13)<|z_p (dB ⟨_,underlying3⟩ underlying31 p)<|z_O (Z<|cg k13)<|z_p (iE p p)<|J (ap p (cg k13) p)<|ad<|ct (decide ((al.get a0 a1) >= (u64.wrap a2))) H16 (.cons p<|.cons p<|.cons p<|.nil _)<|.cons_cons _ .slnil) fun k13 H14=>Y (be<|bG k13)<|Y (be<|bG k13)<|Y (be<|bG k13)<|Y (be<|bG k13)<|Y (be<|bG k13)<|J (aI p (bG k13) p)<|ad<|ct true H14 (.cons p<|.cons p<|.cons p<|.nil _)<|.cons_cons _ .slnil) fun s1 _ H2=>av p H2 (fun k3 H4=>O<|J (ar p)<|U p<|ah<|bE (bW p (cj p)<|cj p) ⟨(0,false),p,H4⟩) fun k3 H4=>ak<|O<|M p<|jG H4 fun h5 H6=>J (bH dw p p h5)<|bo (bc (k:=0) cC p p<|at_33 _ _ h5) p<|J (dB ⟨_,underlying31⟩ underlying3 p)<|J (ar p)<|U p<|ah<|bE (bW p (cj p)<|cj p) ⟨((i64.wrap (al.get a0 a1)),true),p,H6⟩
def sh_word_fits (a0:al) (a1:Int) (a2:Int) (a3:Int) (K:kT Bool):hT:=br (a2 == 0) ( cl prog nU [(.agg (al.C a0).toArray),(.int .i64 a1),(.int .i64 8)] bQ fun r16=>K r16.2) ( br (a2 == 1) ( cl prog nU [(.agg (al.C a0).toArray),(.int .i64 a1),(.int .i64 8)] bQ fun r24=>K r24.2) ( br (a2 == 2) ( cl prog nU [(.agg (al.C a0).toArray),(.int .i64 a1),(.int .i64 16)] bQ fun r32=>K r32.2) ( br (a2 == 3) ( cl prog nU [(.agg (al.C a0).toArray),(.int .i64 a1),(.int .i64 a3)] bQ fun r41=>K r41.2) ( br (a2 == 4) ( gd (0 <= a1/\a1 < 5)<|K ((lU (al.get a0 a1)).2)) ( br (a2 == 5) ( gd (0 <= a1/\a1 < 5)<|K ((decide ((al.get a0 a1) >= 1)) && (decide ((al.get a0 a1) <= 4)))) ( K true))))))
theorem sim_word_fits (a0:al) (a1:Int) (a2:Int) (a3:Int) {K:kT Bool} {h:Hp} (H:sh_word_fits a0 a1 a2 a3 K h):cl prog n_word_fits [(.agg (al.C a0).toArray),(.int .i64 a1),(.int .i64 a2),(.int .i64 a3)] aD K h:=z_i func116 p p fun _=>O<|aa<|cz (l:=al.C a0) p p p fun b4=>U p<|O<|U p<|ai<|O<|M p<|ad<|aw<|O<|J (bM p p)<|U p<|av p H (fun k1 H2=>am<|bo (bK (k:=0) fS p p p p) p<|M p<|aa<|G H2 en_123 fun r16 _ H3=>M p<|J (aj p p)<|J (aj p p)<|U p<|O<|M p<|U p<|ah<|F ⟨r16.2,p,H3⟩) fun k1 H2=>O<|J (bM p p)<|U p<|av p H2 (fun k4 H5=>am<|bo (bK (k:=0) fS p p p p) p<|M p<|aa<|G H5 en_123 fun r24 _ H6=>M p<|J (aj p p)<|J (aj p p)<|U p<|O<|M p<|U p<|ah<|F ⟨r24.2,p,H6⟩) fun k4 H5=>O<|J (bM p p)<|U p<|av p H5 (fun k7 H8=>am<|bo (bK (k:=0) fS p p p p) p<|M p<|aa<|G H8 en_123 fun r32 _ H9=>M p<|J (aj p p)<|J (aj p p)<|U p<|O<|M p<|U p<|ah<|F ⟨r32.2,p,H9⟩) fun k7 H8=>O<|J (bM p p)<|U p<|av p H8 (fun k10 H11=>am<|bo (bK (k:=0) fS p p p p) p<|M p<|M p<|aa<|G H11 en_123 fun r41 _ H12=>M p<|J (aj p p)<|J (aj p p)<|U p<|O<|M p<|U p<|ah<|F ⟨r41.2,p,H12⟩) fun k10 H11=>O<|J (bM p p)<|U p<|av p H11 (fun k13 H14=>am<|M p<|jG H14 fun h15 H16=>J (bH dw p p h15)<|bo (bc (k:=0) cC p p<|at_33 _ _ h15) p<|aa<|cu (vs:=[(.int .u64 (al.get a0 a1))]) (bu<|ct_word_Rights (al.get a0 a1) _) en_152 p p<|M p<|J (aj p p)<|J (aj p p)<|U p<|O<|M p<|U p<|ah<|F ⟨(lU (al.get a0 a1)).2,p,H16⟩) fun k13 H14=>O<|J (bM p p)<|U p<|av p H14 (fun k17 H18=>am<|M p<|jG H18 fun h19 H20=>J (bH dw p p h19)<|bo (bc (k:=0) cC p p<|at_33 _ _ h19) p<|J (iE p p)<|M p<|W p p (aA _) (fun g21=>wv<|ag p)<|W p p (aA _) (fun g22=>wv<|bH dw p (aC p g22) h19)<|W p p (aA _) (fun g23=>cv<|bc (k:=0) cC (aC p g23) p<|at_33 _ _ h19)<|W p p (aA _) (fun g24=>wv<|vX (aC p g24) p)<|J (bN p p)<|U p<|O<|M p<|U p<|ah<|F ⟨((decide ((al.get a0 a1) >= 1)) && (decide ((al.get a0 a1) <= 4))),p,H20⟩) fun k17 H18=>ak<|O<|M p<|U p<|ah<|F ⟨true,p,H18⟩
def vr (a0:al) (a1:Int) (K:kT Int) (r17:Sl) (Rec5:kT Int) (s4:Int):hT:=br (decide (s4 < (r17.len:Int))) ( ix r17 s4 fun q22=>ld (q22.1,q22.2 + Int.toNat s4 * 1) (cI .i64) fun x23=>cl prog n_word_fits [(.agg (al.C a0).toArray),(.int .i64 (i64.wrap (s4 + 1))),(.int .i64 x23),(.int .i64 a1)] aD fun r29=>br (!r29) ( K 2) ( Rec5 (i64.wrap (s4 + 1)))) ( K 0)
def sh_word_Check (a0:al) (a1:Int) (K:kT Int):hT:=br (!(aH a0).2) ( K 1) ( cl prog sS [(.int .i64 ((aH a0).1))] aU fun r17=>Lp (vr a0 a1 K r17) 0)
theorem sim_word_Check (a0:al) (a1:Int) {K:kT Int} {h:Hp} (H:sh_word_Check a0 a1 K h):cl prog im [(.agg (al.C a0).toArray),(.int .i64 a1)] bn K h:=z_i func72 p p fun _=>O<|aa<|cz (l:=al.C a0) p p p fun b2=>U p<|O<|bo (bK (k:=0) fS p p p p) p<|aa<|cu (vs:=[(.agg (al.C a0).toArray)]) (bu<|kI a0 _) en_44 p p<|M p<|J (aj p p)<|J (aj p p)<|J (ar p)<|U p<|ai<|O<|M p<|J (cw p)<|ad<|av p H (fun k1 H2=>O<|U p<|ah<|F ⟨1,p,H2⟩) fun k1 H2=>ak<|ai<|O<|M p<|aa<|G H2 en_115 fun r17 _ H3=>J (dh p underlying27 p)<|M p<|ad<|aw<|bv (step:=vr a0 a1 K r17) (fun s4=>[(1,(.int .i64 a1)),(2,(.pointer (some ⟨b2,0,none⟩))),(17,(sv r17)),(18,(.int .i64 (r17.len:Int))),(19,(.int .i64 s4))]) (fun s4=>[bx b2 33 (al.C a0)]) H3 (.cons p<|.cons p<|.cons p<|.cons p<|.cons p<|.nil _) (.cons_cons _ .slnil) fun Rec5 s4 _ H6=>O<|J (bZ p p)<|ad<|ai<|av p H6 (fun k7 H8=>ak<|ai<|aw<|O<|M p<|cm H8 fun q22 e9 h10 H11=>J (aW dz (aJ p<|aM e9) p h10)<|aa<|aY H11 aR p (fun _=>p) p fun x23 H12=>J (ar p)<|U p<|O<|bo (bK (k:=0) fS p p p p) p<|M p<|J (bb p p)<|M p<|M p<|aa<|G H12 en_116 fun r29 _ H13=>J (cw p)<|ad<|av p H13 (fun k14 H15=>O<|U p<|ah<|F ⟨2,p,H15⟩) fun k14 H15=>ak<|am<|J (bb p p)<|M p<|ad<|bU (i64.wrap (s4 + 1)) H15 (.cons p<|.cons p<|.cons p<|.cons p<|.cons p<|.nil _)<|.cons_cons _ .slnil) fun k7 H8=>bf<|O<|U p<|ah<|F ⟨0,p,H8⟩
def sh_word_Args (a0:Int) (K:kT Int):hT:=cl prog sS [(.int .i64 a0)] aU fun r4=>K (r4.len:Int)
theorem sim_word_Args (a0:Int) {K:kT Int} {h:Hp} (H:sh_word_Args a0 K h):cl prog n_word_Args [(.int .i64 a0)] eN K h:=z_i func174 p p fun _=>O<|U p<|O<|M p<|aa<|G H en_115 fun r4 _ H1=>J (dh p underlying27 p)<|U p<|ah<|F ⟨(r4.len:Int),p,H1⟩
end
section
open Go Mb
abbrev kl:=al
namespace Word
def kinds (k:Int):List Int :=
 if k = 1\/k = 4\/k = 5 then [0] else if k = 2 then [0,0,4] else if k = 3 then [0,3,0,4] else if k = 6 then [1,0,4] else if k = 7 then [1] else if k = 8 then [1,4]
 else if k = 9 then [0,2,5,6] else if k = 20 then [1,2] else if k = 21\/k = 23 then [1,2,6] else if k = 22 then [1,2,6,6] else []
def arg (c:kl) (i m:Int):Int × Bool:=if i < 1\/i >= 5\/m <= 0\/al.get c i >= u64.wrap m then (0,false) else (i64.wrap (al.get c i),true)
def fits (c:kl) (i k envs:Int):Bool :=
 if k = 0 then (arg c i 8).2 else if k = 1 then (arg c i 8).2 else if k = 2 then (arg c i 16).2 else if k = 3 then (arg c i envs).2
 else if k = 4 then (lU (al.get c i)).2 else if k = 5 then decide (al.get c i >= 1) && decide (al.get c i <= 4) else true
def checks (c:kl) (envs:Int):List Int->Int->Int
 | [],_=>0
 | k::ks,i=>if fits c i k envs = true then checks c envs ks (i + 1) else 2
def check (c:kl) (envs:Int):Int:=if (aH c).2 = false then 1 else checks c envs (kinds (aH c).1) 1
theorem kinds_len (k:Int):(kinds k).length <= 4:=by
 unfold kinds; repeat' split
 all_goals simp
end Word
theorem vec_nil' {xs:List Int} (hx:xs = []) {l:List As} {h:Hp} (s:ay l h):ay (vI (⟨none,0,0,none⟩:Sl) xs::l) h:=by subst hx; exact fu s
theorem iS {l:List As} {h:Hp} {K:Sl->Hp->Prop} (xs:List Int) (s:ay l h) {n:Nat} {ps:Array (Nat × Value)} (hps:ps = (pts (fun x=>.int .i64 x) 0 xs).toArray) (hn:n = xs.length) (hb:n <= 2 ^ 24)
  (k:∀ v h',ay (vI v xs::l) h'->K v h'):hpv prog (Instr.buildSlice az n ps) aU K h :=
 fy (τ:=Int) xs (val:=fun x=>.int .i64 x) (enc:=cI .i64) kH (cf _) (fun _=>rfl) s hps hn (by omega) k
theorem sp_word_kinds (k:Int):Sp prog sS [.int .i64 k] aU [] (fun r=>ay [vI r (Word.kinds k)]):=by
 intro h st;refine sim_word_kinds _ ?_;unfold sh_word_kinds;have one:∀ (xs:List Int) (v:Sl) (h':Hp),Word.kinds k = xs->ay [vI v xs] h'->ay [vI v (Word.kinds k)] h':=by
  intro xs v h' e s; rw [e]; exact s
 have j1:k = 1\/k = 4\/k = 5->jz k (fun r=>ay [vI r (Word.kinds k)]) true h:=by
  intro hk;unfold jz;exact eG rfl (iS [0] st rfl rfl (by decide) fun v h' s=>one _ v h' (if_pos hk) s)
 refine aX (fun c=>?_) (fun c=>?_)
 ·rw [c]; exact j1 (.inl (by simpa using c))
 have n1:k ≠ 1:=by simpa using c
 refine aX (fun c4=>?_) (fun c4=>?_)
 ·rw [c4]; exact j1 (.inr (.inl (by simpa using c4)))
 have n4:k ≠ 4:=by simpa using c4
 by_cases h5:k = 5
 ·have:(k == 5) = true:=by simpa using h5
  rw [this]; exact j1 (.inr (.inr h5))
 have:(k == 5) = false:=by simpa using h5
 rw [this];have hu:∀ {xs:List Int},xs = Word.kinds k->Word.kinds k = xs:=fun e=>e.symm;unfold jz;refine dN rfl ?_;refine aX (fun c=>?_) (fun c=>?_)
 ·have e:k = 2:=by simpa using c
  subst e; exact iS [0,0,4] st rfl rfl (by decide) fun v h' s=>s
 refine aX (fun c=>?_) (fun c=>?_)
 ·have e:k = 3:=by simpa using c
  subst e; exact iS [0,3,0,4] st rfl rfl (by decide) fun v h' s=>s
 refine aX (fun c=>?_) (fun c=>?_)
 ·have e:k = 6:=by simpa using c
  subst e; exact iS [1,0,4] st rfl rfl (by decide) fun v h' s=>s
 refine aX (fun c=>?_) (fun c=>?_)
 ·have e:k = 7:=by simpa using c
  subst e; exact iS [1] st rfl rfl (by decide) fun v h' s=>s
 refine aX (fun c=>?_) (fun c=>?_)
 ·have e:k = 8:=by simpa using c
  subst e; exact iS [1,4] st rfl rfl (by decide) fun v h' s=>s
 refine aX (fun c=>?_) (fun c=>?_)
 ·have e:k = 9:=by simpa using c
  subst e; exact iS [0,2,5,6] st rfl rfl (by decide) fun v h' s=>s
 refine aX (fun c=>?_) (fun c=>?_)
 ·have e:k = 20:=by simpa using c
  subst e; exact iS [1,2] st rfl rfl (by decide) fun v h' s=>s
 refine aX (fun c=>?_) (fun c=>?_)
 ·have e:k = 21:=by simpa using c
  subst e;unfold np;exact eG rfl (iS [1,2,6] st rfl rfl (by decide) fun v h' s=>s)
 unfold np;refine aX (fun c=>?_) (fun c=>?_)
 ·have e:k = 23:=by simpa using c
  subst e; exact iS [1,2,6] st rfl rfl (by decide) fun v h' s=>s
 refine aX (fun c=>?_) (fun c=>?_)
 ·have e:k = 22:=by simpa using c
  subst e; exact iS [1,2,6,6] st rfl rfl (by decide) fun v h' s=>s
 refine vec_nil' ?_ st
 simp_all [Word.kinds]
theorem rn (c:kl) (i m:Int):Sp prog nU [.agg c.C.toArray,.int .i64 i,.int .i64 m] bQ [] (fun r=>pa_ (r = Word.arg c i m) []):=by
 intro h st;refine sim_word_Arg _ _ _ ?_;unfold sh_word_Arg;unfold uu;refine aX (fun k=>?_) (fun k=>?_)
 ·have k':¬ (i < 1\/i >= 5\/m <= 0):=by simp at k; omega
  refine ⟨⟨by omega,by omega⟩,aX (fun k2=>?_) (fun k2=>⟨⟨by omega,by omega⟩,?_⟩)⟩
  ·exact ba (by unfold Word.arg; rw [if_pos (by right; right; right; simpa using k2)]) st
  ·refine ba ?_ st;unfold Word.arg;have k2':¬ al.get c i >= u64.wrap m:=by simpa using k2
   rw [if_neg (by omega)]
 ·have k':i < 1\/i >= 5\/m <= 0:=by simp at k; omega
  exact eG rfl (ba (by unfold Word.arg; rw [if_pos (by omega)]) st)
theorem sp_word_fits (c:kl) (i k e:Int) (h0:0 <= i) (h5:i < 5):Sp prog n_word_fits [.agg c.C.toArray,.int .i64 i,.int .i64 k,.int .i64 e] aD [] (fun r=>pa_ (r = Word.fits c i k e) []):=by
 intro h st;refine sim_word_fits _ _ _ _ ?_;unfold sh_word_fits;refine aX (fun k0=>?_) (fun k0=>?_)
 ·have e0:k = 0:=by simpa using k0
  subst e0;exact ut (rn c i 8) st fun r h' hr s=>ba (by rw [hr]; rfl) s
 refine aX (fun k1=>?_) (fun k1=>?_)
 ·have e0:k = 1:=by simpa using k1
  subst e0;exact ut (rn c i 8) st fun r h' hr s=>ba (by rw [hr]; rfl) s
 refine aX (fun k2=>?_) (fun k2=>?_)
 ·have e0:k = 2:=by simpa using k2
  subst e0;exact ut (rn c i 16) st fun r h' hr s=>ba (by rw [hr]; rfl) s
 refine aX (fun k3=>?_) (fun k3=>?_)
 ·have e0:k = 3:=by simpa using k3
  subst e0;exact ut (rn c i e) st fun r h' hr s=>ba (by rw [hr]; rfl) s
 refine aX (fun k4=>⟨⟨h0,h5⟩,?_⟩) (fun k4=>?_)
 ·have e0:k = 4:=by simpa using k4
  subst e0;exact ba rfl st
 refine aX (fun k5=>⟨⟨h0,h5⟩,?_⟩) (fun k5=>?_)
 ·have e0:k = 5:=by simpa using k5
  subst e0;exact ba rfl st
 refine ba ?_ st;simp at k0 k1 k2 k3 k4 k5;simp [Word.fits,k0,k1,k2,k3,k4,k5]
theorem checks_drop (c:kl) (e:Int) (ks:List Int) (n:Nat) (h:n < ks.length):Word.checks c e (ks.drop n) ((n:Int) + 1) = if Word.fits c ((n:Int) + 1) ks[n] e = true then Word.checks c e (ks.drop (n + 1)) (((n + 1:Nat):Int) + 1) else 2:=by
 rw [List.drop_eq_getElem_cons h,Word.checks]; rfl
theorem jB (c:kl) (e:Int):Sp prog im [.agg c.C.toArray,.int .i64 e] bn [] (fun r=>pa_ (r = Word.check c e) []):=by
 intro h st;refine sim_word_Check _ _ ?_;unfold sh_word_Check;refine aX (fun k=>?_) (fun k=>?_)
 ·exact ba (by unfold Word.check; rw [if_pos (by simpa using k)]) st
 ·have hc:Word.check c e = Word.checks c e (Word.kinds (aH c).1) 1:=by unfold Word.check; rw [if_neg (by simpa using k)]
  rw [hc];refine nl (sp_word_kinds _) st fun r h1 s1=>?_;have hl:=(bY (j:=0) s1 rfl).1;have h4:=Word.kinds_len (aH c).1;refine Lp.intro (fun (i:Int) h=>∃ n:Nat,i = n/\n <= (Word.kinds (aH c).1).length/\Word.checks c e ((Word.kinds (aH c).1).drop n) ((n:Int) + 1) = Word.checks c e (Word.kinds (aH c).1) 1/\ay [vI r (Word.kinds (aH c).1)] h) (fun (i:Int) _=>(Word.kinds (aH c).1).length - i.toNat) ⟨0,rfl,zero_le _,rfl,s1⟩ ?_;rintro i h ⟨n,rfl,hn,he,s2⟩;unfold vr;refine aX (fun k2=>?_) (fun k2=>?_)
  ·have hlt:n < (Word.kinds (aH c).1).length:=by rw [hl] at k2; simpa using k2
   have hw:i64.wrap ((n:Int) + 1) = ((n + 1:Nat):Int):=by rw [bp (by omega) (by omega)]; rfl
   rw [checks_drop c e _ n hlt] at he;refine cU s2 (j:=0) rfl (by omega) (by omega) fun q hq=>?_;refine cX (j:=0) (i:=n) (k:=0) (Word.kinds (aH c).1)[n] (cf _) s2 rfl hq (by simp) (aB hlt) (by simp) ?_;rw [hw];refine ut (sp_word_fits c ((n + 1:Nat):Int) _ e (by omega) (by omega)) s2 fun r2 h3 hr s3=>?_;subst hr;refine aX (fun k3=>?_) (fun k3=>?_)
   ·have k3':¬ Word.fits c ((n:Int) + 1) (Word.kinds (aH c).1)[n] e = true:=by simpa using k3
    rw [if_neg k3'] at he;exact ba he trivial
   ·have k3':Word.fits c ((n:Int) + 1) (Word.kinds (aH c).1)[n] e = true:=by simpa using k3
    rw [if_pos k3'] at he;exact ⟨⟨n + 1,rfl,hlt,he,s3⟩,by simp; omega⟩
  ·have:n = (Word.kinds (aH c).1).length:=by rw [hl] at k2; simp at k2; omega
   subst this;rw [List.drop_length] at he;exact ba he trivial
theorem sp_word_Args (k:Int):Sp prog n_word_Args [.int .i64 k] eN [] (fun r=>pa_ (r = (Word.kinds k).length) []):=by
 intro h st;refine sim_word_Args _ ?_;unfold sh_word_Args;refine nl (sp_word_kinds k) st fun r h1 s1=>?_;have hl:=(bY (j:=0) s1 rfl).1;exact ba (by rw [hl]) trivial
end
end Go.Proofs.YtochchocdckegaaGreatDoor
