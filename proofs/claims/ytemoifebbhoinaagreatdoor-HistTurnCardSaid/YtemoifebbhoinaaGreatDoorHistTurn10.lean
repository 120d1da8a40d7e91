/- Part of the proof of: The law HistTurn returns true for every input, and leaves its arguments as they were. -/
import Derived.Test.YtemoifebbhoinaaGreatDoorHistTurn09
set_option linter.all false
set_option maxRecDepth 20000
namespace Go.Proofs.YtemoifebbhoinaaGreatDoor
open Go Mb
abbrev vT (s:Sl) (t:Caps.T):As:=vec lw 32 enc8 s t
abbrev vP (s:Sl) (l:List bY):As:=vec rZ 2 aH.C s l
def cN (x:Ptr) (t:Caps.T):As:=fun h=>∃ z:Nat × Sl,(x = some (z.1,0)∧Caps.Ok t)∧aF [blk z.1 nU [sv z.2],vT z.2 t] h
theorem jz {x:Ptr} {t:Caps.T} {l:List As} {h:Hp} (s0:aF (cN x t::l) h):∃ b s,x = some (b,0)∧Caps.Ok t∧s.len = t.length∧aF (blk b nU [sv s]::vT s t::l) h:=by
  obtain ⟨⟨b,s⟩,⟨hx,h1⟩,st⟩:=op_ s0
  exact ⟨b,s,hx,h1,(ce (j:=1) st rfl).1,st⟩
theorem tree_cl {b:Nat} {s:Sl} {t:Caps.T} {l:List As} {h:Hp} (h1:Caps.Ok t) (st:aF (blk b nU [sv s]::vT s t::l) h):aF (cN (some (b,0)) t::l) h :=
  cl_ (m:=fun z:Nat × Sl=>[blk z.1 nU [sv z.2],vT z.2 t]) (b,s) ⟨rfl,h1⟩ st
theorem enc8_get {r:List Cap} (h:r.length = 8) {n:Nat} {c:Cap} (hn:r[n]? = some c) (j:Nat) (v:Value) (hv:c.C[j]? = some v):(enc8 r)[n * 4 + j]? = some v:=by
  rw [enc8_eq h]; exact tF qC r n j c v hn hv
theorem enc8_set {r:List Cap} (h:r.length = 8) {n:Nat} {c:Cap} (hn:r[n]? = some c) (d:Cap):enc8 (r.set n d) = wr (enc8 r) (n * 4) d.C:=by
  rw [enc8_eq h,enc8_eq (by simpa using h)]
  exact (flat_wr qC r n 0 c d d.C hn (by simp [qC]) (wr_all rfl).symm).symm
theorem xp {σ:Type} {l:List As} {h:Hp} {j k off:Nat} {s:Sl} {t:Caps.T} {q:Nat × Nat} {enc':σ→List Value} {K:σ→Hp→Prop} {e i:Int} (y:σ) (ok:Caps.Ok t) (he:Caps.has t e i = true) (st:aF l h) (hj:l[j]? = some (vT s t)) (hq:s.a = some q) (hoff:off = q.2 + Int.toNat e * 32 + Int.toNat i * 4 + k)
    (hy:∀ n v,(enc' y)[n]? = some v→(Caps.get t e i).C[k + n]? = some v) (kk:K y h):ld (q.1,off) enc' K h:=by
  obtain ⟨m,n,rfl,rfl,hm,hn⟩:=Caps.has_nat he
  obtain ⟨hn',hg⟩:=Caps.get_nat' ok.row hm hn
  rw [hg] at hy
  refine dU (j:=j) (i:=m) (k:=n * 4 + k) (x:=t[m]) y enc8_len st hj hq (by simp at hoff; omega) (aD hm) (fun a v hv=>?_) kk
  rw [Nat.add_assoc]
  exact enc8_get (ok.row _ (List.getElem_mem hm)) (aD hn') _ _ (hy a v hv)
theorem st_tree {l:List As} {h:Hp} {j off:Nat} {s:Sl} {t:Caps.T} {q:Nat × Nat} {K:Hp→Prop} {e i:Int} (c:Cap) (row:∀ r ∈ t,r.length = 8) (he:Caps.has t e i = true) (st:aF l h) (hj:l[j]? = some (vT s t)) (hq:s.a = some q) (hoff:off = q.2 + Int.toNat e * 32 + Int.toNat i * 4)
    (kk:∀ h',aF (l.set j (vT s (Caps.put t e i c))) h'→K h'):Mb.st (q.1,off) c.C K h:=by
  obtain ⟨m,n,rfl,rfl,hm,hn⟩:=Caps.has_nat he
  obtain ⟨hn',hg⟩:=Caps.get_nat' row hm hn
  refine st_v (j:=j) (i:=m) (k:=n * 4) (x:=t[m]) (t[m].set n c) enc8_len st hj hq (by simp at hoff; omega) (aD hm) (by simp [qC]; omega) (enc8_set (row _ (List.getElem_mem hm)) (aD hn') c) fun h' s'=>?_
  refine kk h' ?_
  rw [Caps.put_nat hm]; exact s'
theorem rep8:enc8 (List.replicate 8 lV) = [.int .i64 0,.int .i64 0,.int .i64 0,.int .i64 0,.int .i64 0,.int .i64 0,.int .i64 0,.int .i64 0,.int .i64 0,.int .i64 0,.int .i64 0,.int .i64 0,.int .i64 0,.int .i64 0,.int .i64 0,.int .i64 0,.int .i64 0,.int .i64 0,.int .i64 0,.int .i64 0,.int .i64 0,.int .i64 0,.int .i64 0,.int .i64 0,.int .i64 0,.int .i64 0,.int .i64 0,.int .i64 0,.int .i64 0,.int .i64 0,.int .i64 0,.int .i64 0]:=rfl
theorem sp_caps_New (n:Int) (h1:¬ n < 1) (h2:¬ n > 4):Sp Tryz.prog xl [.int .i64 n] sE [] (fun r=>aF [cN r (List.replicate n.toNat (List.replicate 8 lV))]):=by
  intro h st
  refine sim_caps_New _ ?_
  unfold sh_caps_New
  obtain ⟨m,rfl⟩:=Int.eq_ofNat_of_zero_le (show 0 ≤ n by omega)
  refine dI (by simp; omega) ?_
  refine ol (τ:=List Cap) (x0:=List.replicate 8 lV) (enc:=enc8) (n:=m) (T:=lw) (m:=32) el_S_8_api_Cap rep8 st ?_ ?_ ?_
  · omega
  · omega
  · intro v h' s1
    refine pD s1 fun b h'' s2=>?_
    exact tree_cl (Caps.ok_new _ (by omega)) s2
theorem sT (x:Ptr) (t:Caps.T) (e s:Int):Sp Tryz.prog iA [pv x,.int .i64 e,.int .i64 s] aA [cN x t] (fun r=>pa_ (r = Caps.has t e s) [cN x t]):=by
  intro h s0
  obtain ⟨b,sl,rfl,ok,hl,st⟩:=jz s0
  refine sim_caps_Tree_is _ _ _ ?_
  unfold sh_caps_Tree_is
  refine aY (fun k=>?_) (fun k=>?_)
  · have k':0 ≤ e:=by simpa using k
    refine cE (bp sl st (i:=0) rfl rfl rfl ?_)
    exact aZ (by rw [hl]; simp [Caps.has,k',Bool.and_assoc]) s0
  · have k':¬ 0 ≤ e:=by simpa using k
    exact aZ (by simp [Caps.has]; intro h; exact absurd h k') s0
theorem ki (x:Ptr) (t:Caps.T) (e s:Int):Sp Tryz.prog eE [pv x,.int .i64 e,.int .i64 s] cQ [cN x t] (fun r=>pa_ (r = Caps.at_ t e s) [cN x t]):=by
  intro h s0
  obtain ⟨b,sl,rfl,ok,hl,st⟩:=jz s0
  refine sim_caps_Tree_At _ _ _ ?_
  unfold sh_caps_Tree_At
  refine dZ rfl ?_
  refine cR [0] (sT _ t e s) s0 rfl fun r h1 s1=>?_
  obtain ⟨rfl,s2⟩:=bu.1 s1
  refine aY (fun k=>?_) (fun k=>?_)
  · have k':Caps.has t e s = true:=by simpa using k
    obtain ⟨m,n,rfl,rfl,hm,hn⟩:=Caps.has_nat k'
    obtain ⟨b',sl,hb',ok,hl,st⟩:=jz s2
    cases hb'
    refine cE (bp sl st (i:=0) rfl rfl rfl ?_)
    refine du st (j:=1) rfl (by omega) (by omega) fun q hq=>⟨⟨by omega,by omega⟩,?_⟩
    refine xp (j:=1) (k:=1) (Caps.get t m n).fRights ok k' st rfl hq rfl (c1 rfl rfl) ?_
    unfold iU
    refine aY (fun k2=>?_) (fun k2=>?_)
    · have k2':(Caps.get t m n).fRights = 0:=by simpa using k2
      exact aZ (by unfold Caps.at_; rw [if_neg (fun hh=>hh.2 k2')]) s2
    · have k2':¬ (Caps.get t m n).fRights = 0:=by simpa using k2
      refine cE (bp sl st (i:=0) rfl rfl rfl ?_)
      refine du st (j:=1) rfl (by omega) (by omega) fun q2 hq2=>⟨⟨by omega,by omega⟩,?_⟩
      refine xp (j:=1) (k:=0) (Caps.get t m n) ok k' st rfl hq2 rfl (by simp) ?_
      exact aZ (by unfold Caps.at_; rw [if_pos ⟨k',k2'⟩]) s2
  · have k':Caps.has t e s = false:=by simpa using k
    unfold iU
    exact dZ rfl (aZ (by unfold Caps.at_; rw [if_neg (by simp [k'])]) s2)
theorem wG (x:Ptr) (t:Caps.T) (e s f:Int):Sp Tryz.prog jK [pv x,.int .i64 e,.int .i64 s,.int .i64 f] bi [cN x t] (fun r=>pa_ (r = (Caps.root t e s f).1) [cN x (Caps.root t e s f).2]):=by
  intro h s0
  obtain ⟨b,sl,rfl,ok,hl,st⟩:=jz s0
  refine sim_caps_Tree_Root _ _ _ _ ?_
  unfold ux
  refine dI rfl ?_
  refine cR [0] (sT _ t e s) s0 rfl fun r h1 s1=>?_
  obtain ⟨rfl,s2⟩:=bu.1 s1
  have hok:=Caps.ok_root ok e s f
  refine aY (fun k=>?_) (fun k=>?_)
  · have k':Caps.has t e s = false∨f < 0∨f ≥ 16:=by simpa [or_assoc] using k
    have e1:Caps.root t e s f = (2,t):=if_pos k'
    rw [e1]; exact aZ rfl s2
  · have k':¬ (Caps.has t e s = false∨f < 0∨f ≥ 16):=by simp at k; simp [k]
    have hh:Caps.has t e s = true:=by simp at k'; exact k'.1
    obtain ⟨m,n,rfl,rfl,hm,hn⟩:=Caps.has_nat hh
    obtain ⟨b',sl,hb',ok,hl,st⟩:=jz s2
    cases hb'
    refine cE (bp sl st (i:=0) rfl rfl rfl ?_)
    refine du st (j:=1) rfl (by omega) (by omega) fun q hq=>⟨⟨by omega,by omega⟩,?_⟩
    refine xp (j:=1) (k:=1) (Caps.get t m n).fRights ok hh st rfl hq rfl (c1 rfl rfl) ?_
    refine aY (fun k2=>?_) (fun k2=>?_)
    · have k2':(Caps.get t m n).fRights ≠ 0:=by simpa using k2
      have e1:Caps.root t m n f = (4,t):=by unfold Caps.root; rw [if_neg k',if_pos k2']
      rw [e1]; exact aZ rfl s2
    · have k2':¬ (Caps.get t m n).fRights ≠ 0:=by simpa using k2
      have e1:Caps.root t m n f = (0,Caps.put t m n ⟨f,3,-1,0⟩):=by unfold Caps.root; rw [if_neg k',if_neg k2']
      rw [e1] at hok ⊢
      refine bp sl st (i:=0) rfl rfl rfl ?_
      refine du st (j:=1) rfl (by omega) (by omega) fun q2 hq2=>?_
      refine st_tree (j:=1) ⟨f,3,-1,0⟩ ok.row hh st rfl hq2 rfl fun h3 s3=>?_
      exact aZ rfl (tree_cl hok s3)
theorem sU (x:Ptr) (t:Caps.T) (e src to dst r:Int):Sp Tryz.prog iB [pv x,.int .i64 e,.int .i64 src,.int .i64 to,.int .i64 dst,.int .i64 r] bi [cN x t] (fun v=>pa_ (v = (Caps.derive t e src to dst r).1) [cN x (Caps.derive t e src to dst r).2]):=by
  intro h s0
  obtain ⟨b,sl,rfl,ok,hl,st⟩:=jz s0
  refine sim_caps_Tree_Derive _ _ _ _ _ _ ?_
  unfold rV
  refine dI rfl ?_
  refine cR [0] (sT _ t e src) s0 rfl fun r1 h1 s1=>?_
  obtain ⟨rfl,s2⟩:=bu.1 s1
  have hok:=Caps.ok_derive ok e src to dst r
  have no:(Caps.has t e src = false∨Caps.has t to dst = false∨ch r = false)→Caps.derive t e src to dst r = (2,t):=fun hh=>if_pos hh
  refine aY (fun k=>?_) (fun k=>?_)
  · have k':Caps.has t e src = true:=by simpa using k
    refine cR [0] (sT _ t to dst) s2 rfl fun r3 h3 s3=>?_
    obtain ⟨rfl,s4⟩:=bu.1 s3
    refine aY (fun k2=>?_) (fun k2=>?_)
    · rw [no (.inr (by simpa using k2))]; exact aZ rfl s4
    · have k2':Caps.has t to dst = true∧ch r = true:=by simpa using k2
      have hno:¬ (Caps.has t e src = false∨Caps.has t to dst = false∨ch r = false):=by simp [k',k2'.1,k2'.2]
      obtain ⟨m,n,rfl,rfl,hm,hn⟩:=Caps.has_nat k'
      obtain ⟨i,j,rfl,rfl,hi,hj⟩:=Caps.has_nat k2'.1
      obtain ⟨b',sl,hb',ok,hl,st⟩:=jz s4
      cases hb'
      refine cE (bp sl st (i:=0) rfl rfl rfl ?_)
      refine du st (j:=1) rfl (by omega) (by omega) fun q hq=>⟨⟨by omega,by omega⟩,?_⟩
      refine xp (j:=1) (k:=0) (Caps.get t m n) ok k' st rfl hq rfl (by simp) ?_
      refine aY (fun k3=>?_) (fun k3=>?_)
      · have k3':(Caps.get t m n).fRights = 0:=by simpa using k3
        have e1:Caps.derive t m n i j r = (3,t):=by unfold Caps.derive; rw [if_neg hno,if_pos k3']
        rw [e1]; exact aZ rfl s4
      · have k3':¬ (Caps.get t m n).fRights = 0:=by simpa using k3
        refine bp sl st (i:=0) rfl rfl rfl ?_
        refine du st (j:=1) rfl (by omega) (by omega) fun q2 hq2=>⟨⟨by omega,by omega⟩,?_⟩
        refine xp (j:=1) (k:=1) (Caps.get t i j).fRights ok k2'.1 st rfl hq2 rfl (c1 rfl rfl) ?_
        refine aY (fun k4=>?_) (fun k4=>?_)
        · have k4':(Caps.get t i j).fRights ≠ 0:=by simpa using k4
          have e1:Caps.derive t m n i j r = (4,t):=by unfold Caps.derive; rw [if_neg hno,if_neg k3',if_pos k4']
          rw [e1]; exact aZ rfl s4
        · have k4':¬ (Caps.get t i j).fRights ≠ 0:=by simpa using k4
          refine aY (fun k5=>?_) (fun k5=>?_)
          · have k5':aV r (Caps.get t m n).fRights = false:=by simpa using k5
            have e1:Caps.derive t m n i j r = (5,t):=by unfold Caps.derive; rw [if_neg hno,if_neg k3',if_neg k4',if_pos k5']
            rw [e1]; exact aZ rfl s4
          · have k5':¬ aV r (Caps.get t m n).fRights = false:=by simpa using k5
            have e1:Caps.derive t m n i j r = (0,Caps.put t i j ⟨(Caps.get t m n).fFrame,r,m,n⟩):=by unfold Caps.derive; rw [if_neg hno,if_neg k3',if_neg k4',if_neg k5']
            rw [e1] at hok ⊢
            refine bp sl st (i:=0) rfl rfl rfl ?_
            refine du st (j:=1) rfl (by omega) (by omega) fun q3 hq3=>?_
            refine st_tree (j:=1) ⟨(Caps.get t m n).fFrame,r,m,n⟩ ok.row k2'.1 st rfl hq3 rfl fun h6 s6=>?_
            exact aZ rfl (tree_cl hok s6)
  · have k':Caps.has t e src = false:=by simpa using k
    rw [no (.inl k')]; exact aZ rfl s2
theorem sp_caps_under (x:Ptr) (t:Caps.T) (e s:Int) (p:bY) (he:Caps.has t e s = true):Sp Tryz.prog lp [pv x,.agg (Caps.get t e s).C.toArray,.agg p.C.toArray] aA [cN x t] (fun r=>pa_ (r = Caps.under t (Caps.get t e s) p) [cN x t]):=by
  intro h s0
  obtain ⟨b,sl,rfl,ok,hl,st⟩:=jz s0
  refine sim_caps_Tree_under _ _ _ ?_
  unfold tg
  refine Lp.intro (fun (c:Cap) h=>∃ a i,c = Caps.get t a i∧Caps.has t a i = true∧Caps.under t c p = Caps.under t (Caps.get t e s) p∧aF [cN (some (b,0)) t] h) (fun (c:Cap) _=>Caps.deep 40 t c) ⟨e,s,rfl,he,rfl,s0⟩ ?_
  rintro c h ⟨a,i,rfl,ha,hu,s1⟩
  unfold nQ
  have step:=Caps.under_step ok ha p
  refine aY (fun k=>?_) (fun k=>?_)
  · have k':(Caps.get t a i).fRights ≠ 0∧0 ≤ (Caps.get t a i).fEnv:=by simpa using k
    rw [if_pos k'] at step
    refine aY (fun k2=>?_) (fun k2=>?_)
    · have k2':(Caps.get t a i).fEnv = p.fEnv∧(Caps.get t a i).fSlot = p.fSlot:=by simpa using k2
      rw [if_pos k2'] at step
      exact aZ (by rw [← hu,step]) s1
    · have k2':¬ ((Caps.get t a i).fEnv = p.fEnv∧(Caps.get t a i).fSlot = p.fSlot):=by simpa using k2
      rw [if_neg k2'] at step
      have dd:=Caps.deep_step ok ha k'
      obtain ⟨rank,hr⟩:=ok.rk
      obtain ⟨hp,_,_⟩:=hr a i ha k'.1 k'.2
      have hp':=hp
      obtain ⟨m,n,em,en,hm,hn⟩:=Caps.has_nat hp'
      obtain ⟨b',sl,hb',ok,hl,st⟩:=jz s1
      cases hb'
      refine cE (bp sl st (i:=0) rfl rfl rfl ?_)
      refine du st (j:=1) rfl (by omega) (by omega) fun q hq=>⟨⟨by omega,by omega⟩,?_⟩
      refine xp (j:=1) (k:=0) (Caps.get t (Caps.get t a i).fEnv (Caps.get t a i).fSlot) ok hp st rfl hq rfl (by simp) ?_
      exact ⟨⟨_,_,rfl,hp,by rw [← step]; exact hu,s1⟩,dd⟩
  · have k':¬ ((Caps.get t a i).fRights ≠ 0∧0 ≤ (Caps.get t a i).fEnv):=by simpa using k
    rw [if_neg k'] at step
    exact aZ (by rw [← hu,step]) s1
theorem row_app (P:Int→Int→Cap→Bool) (e:Int):∀ (cs:List Cap) (s:Int) (c:Cap),Caps.rowOf P e (cs++[c]) s = Caps.rowOf P e cs s++(if c.fRights ≠ 0∧P e (s + cs.length) c = true then [⟨e,s + cs.length⟩] else [])
  | [],s,c=>by simp [Caps.rowOf]
  | d::cs,s,c=>by
    rw [List.cons_append,Caps.rowOf_c,Caps.rowOf_c,row_app P e cs (s + 1) c]
    have e1:s + 1 + (cs.length:Int) = s + ((d::cs).length:Int):=by simp; omega
    rw [e1]
    split <;> simp
theorem all_app (P:Int→Int→Cap→Bool):∀ (t:Caps.T) (e:Int) (r:List Cap),Caps.allOf P (t++[r]) e = Caps.allOf P t e++Caps.rowOf P (e + t.length) r 0
  | [],e,r=>by simp [Caps.allOf]
  | d::t,e,r=>by
    have e1:e + 1 + (t.length:Int) = e + ((d::t).length:Int):=by simp; omega
    rw [List.cons_append,Caps.allOf,Caps.allOf,all_app P t (e + 1) r,List.append_assoc,e1]
theorem row_len (P:Int→Int→Cap→Bool) (e:Int):∀ (cs:List Cap) (s:Int),(Caps.rowOf P e cs s).length ≤ cs.length
  | [],_=>Nat.le_refl _
  | c::cs,s=>by rw [Caps.rowOf_c]; have:=row_len P e cs (s + 1); split <;> simp <;> omega
theorem all_len (P:Int→Int→Cap→Bool):∀ (t:Caps.T) (e:Int),(∀ r ∈ t,r.length = 8)→(Caps.allOf P t e).length ≤ 8 * t.length
  | [],_,_=>Nat.le_refl _
  | r::t,e,h=>by
    have h1:=row_len P e r 0
    have h2:=h r (by simp)
    have h3:=all_len P t (e + 1) (fun r hr=>h r (by simp [hr]))
    rw [Caps.allOf,List.length_append,List.length_cons]
    omega
theorem sp_caps_all (x:Ptr) (t:Caps.T) (v:Value) (P:Int→Int→Cap→Bool) (A:List As)
    (hv:∀ e s,Caps.has t e s = true→(Caps.get t e s).fRights ≠ 0→SpV Tryz.prog v [.agg (⟨e,s⟩:bY).C.toArray,.agg (Caps.get t e s).C.toArray] aA (cN x t::A) (fun r=>pa_ (r = P e s (Caps.get t e s)) (cN x t::A))) :
    Sp Tryz.prog kD [pv x,v] cW (cN x t::A) (fun r=>aF (vP r (Caps.allOf P t 0)::cN x t::A)):=by
  intro h s0
  obtain ⟨b,sl,rfl,ok,hl,st⟩:=jz s0
  have h4:=ok.len
  refine sim_caps_Tree_all _ _ ?_
  unfold vV
  refine dI rfl (cE (bp sl st (i:=0) rfl rfl rfl ?_))
  refine Lp.intro (fun (z:Sl × Int) h=>∃ n:Nat,z.2 = n∧n ≤ t.length∧aF (vP z.1 (Caps.allOf P (t.take n) 0)::cN (some (b,0)) t::A) h) (fun (z:Sl × Int) _=>t.length - z.2.toNat) ⟨0,rfl,Nat.zero_le _,fR s0⟩ ?_
  rintro ⟨z,i⟩ h ⟨n,rfl,hn,s1⟩
  unfold qw
  refine aY (fun k=>?_) (fun k=>?_)
  · have hlt:n < t.length:=by rw [hl] at k; simpa using k
    have hrow:=ok.row _ (List.getElem_mem hlt)
    have hw:IntKind.i64.wrap ((n:Int) + 1) = ((n + 1:Nat):Int):=by rw [bP (by omega) (by omega)]; rfl
    obtain ⟨b',sl',hb',_,hl',st1⟩:=jz (bc [1] s1 rfl)
    cases hb'
    refine bp sl' st1 (i:=0) rfl rfl rfl ?_
    refine du st1 (j:=1) rfl (by omega) (by show (n:Int) < _; omega) fun q hq=>?_
    have hfl:(t[n].flatMap aC.C).length = 32:=by rw [dR qC,hrow]
    have hld:ld (q.1,q.2 + Int.toNat (n:Int) * 32 + 0) (fun _:Unit=>t[n].flatMap aC.C) (fun _ _=>True) h :=
      dU (j:=1) (i:=n) (k:=0) (x:=t[n]) (enc':=fun _:Unit=>t[n].flatMap aC.C) () enc8_len st1 rfl hq rfl (aD hlt) (fun m v hv=>by rw [Nat.zero_add,enc8_eq hrow]; exact hv) trivial
    obtain ⟨_,rz,_⟩:=hld
    refine loadAt_v (r:=t[n].flatMap aC.C) (cs:=t[n].flatMap aC.C) agn_8_api_Cap (by simpa using rz) hfl rfl ?_
    refine Lp.intro (fun (y:Sl × Int) h=>∃ m:Nat,y.2 = m∧m ≤ 8∧aF (vP y.1 (Caps.allOf P (t.take n) 0++Caps.rowOf P n (t[n].take m) 0)::cN (some (b,0)) t::A) h) (fun (y:Sl × Int) _=>8 - y.2.toNat) ⟨0,rfl,Nat.zero_le _,by simpa [Caps.rowOf] using s1⟩ ?_
    rintro ⟨y,j⟩ h ⟨m,rfl,hm,s2⟩
    have hal:=all_len P (t.take n) 0 (fun r hr=>ok.row r (List.mem_of_mem_take hr))
    have hrl:=row_len P n (t[n].take m) 0
    simp at hal hrl
    unfold qv
    refine aY (fun k2=>?_) (fun k2=>?_)
    · have hlt2:m < 8:=by have:=of_decide_eq_true k2; omega
      have hm':m < t[n].length:=by omega
      have hw2:IntKind.i64.wrap ((m:Int) + 1) = ((m + 1:Nat):Int):=by rw [bP (by omega) (by omega)]; rfl
      have ht:t[n].take (m + 1) = t[n].take m++[t[n][m]]:=by simp
      have hlen:((t[n].take m).length:Int) = m:=by simp; omega
      have hg:Caps.get t n m = t[n][m]:=(Caps.get_nat' ok.row hlt hlt2).2
      have hrap:=row_app P n (t[n].take m) 0 t[n][m]
      rw [hlen,Int.zero_add] at hrap
      refine index_v (enc:=aC.C) (m:=4) arn_8_api_Cap age_8_api_Cap qC (fun _=>rfl) hrow (aD hm') ?_
      have next:¬ (t[n][m].fRights ≠ 0∧P n m t[n][m] = true)→∀ h,aF (vP y (Caps.allOf P (t.take n) 0++Caps.rowOf P n (t[n].take m) 0)::cN (some (b,0)) t::A) h→im (z,(n:Int)) (fun s' h'=>(∃ m:Nat,s'.2 = m∧m ≤ 8∧aF (vP s'.1 (Caps.allOf P (t.take n) 0++Caps.rowOf P n (t[n].take m) 0)::cN (some (b,0)) t::A) h')∧8 - s'.2.toNat < 8 - (m:Int).toNat) (y,(m:Int)) false h:=by
        intro hno h s3
        unfold im
        refine dI rfl ?_
        rw [hw2]
        refine ⟨⟨m + 1,rfl,hlt2,?_⟩,by simp; omega⟩
        rw [ht,hrap,if_neg hno,List.append_nil]
        exact s3
      refine aY (fun k3=>?_) (fun k3=>?_)
      · have k3':t[n][m].fRights ≠ 0:=by simpa using k3
        have hc:=hv n m (Caps.has_of hlt hlt2) (by rw [hg]; exact k3')
        rw [hg] at hc
        refine clv_t hc s2 fun r h3 s3=>?_
        obtain ⟨hr,s4⟩:=bu.1 s3
        have s5:=star_rot s4
        subst hr
        cases hP:P n m t[n][m] with
        | false=>exact next (by simp [hP]) _ s5
        | true =>
          unfold im
          refine dZ rfl ?_
          refine kM (τ:=bY) (i:=0) (enc:=aH.C) (val:=fun x=>.agg x.C.toArray) tK vW place_one (fun _=>rfl) (by omega) rfl rfl s5 rfl (by simp; omega) (by simp; omega) fun v h' s6=>?_
          rw [hw2]
          refine ⟨⟨m + 1,rfl,hlt2,?_⟩,by simp; omega⟩
          rw [ht,hrap,if_pos ⟨k3',hP⟩,← List.append_assoc]
          exact s6
      · have k3':¬ t[n][m].fRights ≠ 0:=by simpa using k3
        exact next (fun hh=>k3' hh.1) _ s2
    · have:m = 8:=by have:=of_decide_eq_false k2; omega
      subst this
      rw [hw]
      refine ⟨⟨n + 1,rfl,hlt,?_⟩,by simp; omega⟩
      have ht:t.take (n + 1) = t.take n++[t[n]]:=by simp
      have hlen:((t.take n).length:Int) = n:=by simp; omega
      rw [ht,all_app,hlen,Int.zero_add]
      rw [show t[n].take 8 = t[n] from by rw [← hrow]; exact List.take_length] at s2
      exact s2
  · have:n = t.length:=by rw [hl] at k; simp at k; omega
    subst this
    rw [List.take_length] at s1
    exact s1
theorem sp_caps_look (x:Ptr) (t:Caps.T) (e s:Int):Sp Tryz.prog mw [pv x,.int .i64 e,.int .i64 s] bi [cN x t] (fun r=>pa_ (r = Caps.look t e s) [cN x t]):=by
  intro h s0
  obtain ⟨b,sl,rfl,ok,hl,st⟩:=jz s0
  refine sim_caps_Tree_look _ _ _ ?_
  unfold uw
  refine dI rfl ?_
  refine cR [0] (sT _ t e s) s0 rfl fun r h1 s1=>?_
  obtain ⟨rfl,s2⟩:=bu.1 s1
  refine aY (fun k=>?_) (fun k=>?_)
  · have k':Caps.has t e s = false:=by simpa using k
    exact aZ (by unfold Caps.look; rw [if_pos k']) s2
  · have k':Caps.has t e s = true:=by simpa using k
    obtain ⟨m,n,rfl,rfl,hm,hn⟩:=Caps.has_nat k'
    obtain ⟨b',sl,hb',ok,hl,st⟩:=jz s2
    cases hb'
    refine cE (bp sl st (i:=0) rfl rfl rfl ?_)
    refine du st (j:=1) rfl (by omega) (by omega) fun q hq=>⟨⟨by omega,by omega⟩,?_⟩
    refine xp (j:=1) (k:=1) (Caps.get t m n).fRights ok k' st rfl hq rfl (c1 rfl rfl) ?_
    refine aY (fun k2=>?_) (fun k2=>?_)
    · have k2':(Caps.get t m n).fRights = 0:=by simpa using k2
      exact aZ (by unfold Caps.look; rw [if_neg (by simp [k']),if_pos k2']) s2
    · have k2':¬ (Caps.get t m n).fRights = 0:=by simpa using k2
      exact aZ (by unfold Caps.look; rw [if_neg (by simp [k']),if_neg k2']) s2
theorem rf:∀ (l:List bY) (t:Caps.T) (p:bY),Caps.empties t (l++[p]) = Caps.put (Caps.empties t l) p.fEnv p.fSlot lV
  | [],_,_=>rfl
  | q::l,t,p=>by rw [List.cons_append,Caps.empties,Caps.empties,rf l]
theorem rm (x:Ptr) (t:Caps.T) (s:Sl) (l:List bY) (hl:∀ p ∈ l,Caps.has t p.fEnv p.fSlot = true) (hb:l.length ≤ 64) (hok:Caps.Ok (Caps.empties t l)) :
    Sp Tryz.prog gQ [pv x,sv s] cW [cN x t,vP s l] (fun r=>aF [vP r l,cN x (Caps.empties t l)]):=by
  intro h s0
  obtain ⟨b,sl,rfl,ok,htl,st⟩:=jz s0
  have hsl:=(ce (j:=1) s0 rfl).1
  refine sim_caps_Tree_empties _ _ ?_
  unfold qX
  refine Lp.intro (fun (i:Int) h=>∃ n:Nat,i = n∧n ≤ l.length∧aF [blk b nU [sv sl],vT sl (Caps.empties t (l.take n)),vP s l] h) (fun (i:Int) _=>l.length - i.toNat) ⟨0,rfl,Nat.zero_le _,st⟩ ?_
  rintro i h ⟨n,rfl,hn,s1⟩
  unfold lU
  refine aY (fun k=>?_) (fun k=>?_)
  · have hlt:n < l.length:=by rw [hsl] at k; simpa using k
    have hw:IntKind.i64.wrap ((n:Int) + 1) = ((n + 1:Nat):Int):=by rw [bP (by omega) (by omega)]; rfl
    refine du s1 (j:=2) rfl (by omega) (by omega) fun q hq=>?_
    refine dU (j:=2) (i:=n) (k:=0) l[n] vW s1 rfl hq rfl (aD hlt) (by simp) ?_
    have hh:=hl _ (List.getElem_mem hlt)
    have hh2:Caps.has (Caps.empties t (l.take n)) l[n].fEnv l[n].fSlot = true:=by rw [Caps.empties_has]; exact hh
    have hh3:=hh2
    obtain ⟨i,j,ei,ej,hi,hj⟩:=Caps.has_nat hh3
    refine cE (bp sl s1 (i:=0) rfl rfl rfl ?_)
    refine du s1 (j:=1) rfl (by omega) (by omega) fun q2 hq2=>⟨⟨by omega,by omega⟩,?_⟩
    refine st_tree (j:=1) lV (Caps.empties_row _ _ ok.row) hh2 s1 rfl hq2 rfl fun h3 s3=>?_
    rw [hw]
    refine ⟨⟨n + 1,rfl,hlt,?_⟩,by simp; omega⟩
    have ht:l.take (n + 1) = l.take n++[l[n]]:=by simp
    rw [ht,rf]
    exact s3
  · have:n = l.length:=by rw [hsl] at k; simp at k; omega
    subst this
    rw [List.take_length] at s1
    have s2:=tree_cl hok s1
    exact bc [1] s2 rfl
theorem sp_caps_Below (x:Ptr) (t:Caps.T) (e s:Int):Sp Tryz.prog lq [pv x,.int .i64 e,.int .i64 s] cW [cN x t] (fun r=>aF [vP r (Caps.below t e s),cN x t]):=by
  intro h s0
  refine sim_caps_Tree_Below _ _ _ ?_
  unfold th
  refine pD s0 fun b3 h1 s1=>?_
  refine pD s1 fun b4 h2 s2=>?_
  refine pD s2 fun b5 h3 s3=>?_
  refine bp x s3 (i:=2) rfl rfl rfl ?_
  refine cR [3,2,1,0] (sp_caps_all x t _ (fun _ _ c=>Caps.under t c ⟨e,s⟩) [blk b3 sc [pv x],blk b4 lf [.int .i64 e],blk b5 lf [.int .i64 s]] ?_) s3 rfl fun r h4 s4=>?_
  · intro a i ha hne
    refine ⟨_,_,_,rfl,vi,fun h s5=>?_⟩
    refine wW ⟨a,i⟩ (Caps.get t a i) b3 b4 b5 ?_
    unfold pT
    refine bp x s5 (i:=1) rfl rfl rfl ?_
    refine bp e s5 (i:=2) rfl rfl rfl ?_
    refine bp s s5 (i:=3) rfl rfl rfl ?_
    refine cR [0] (sp_caps_under x t a i ⟨e,s⟩ ha) s5 rfl fun r h6 s6=>?_
    obtain ⟨rfl,s7⟩:=bu.1 s6
    exact aZ rfl s7
  · have s5:=dE s4
    exact nV (l:=[vP r (Caps.below t e s),cN x t]) s5
theorem sp_caps_Revoke (x:Ptr) (t:Caps.T) (e s:Int):Sp Tryz.prog nL [pv x,.int .i64 e,.int .i64 s] dA [cN x t] (fun r=>pa_ (r.2 = (Caps.revoke t e s).1.2) [vP r.1 (Caps.revoke t e s).1.1,cN x (Caps.revoke t e s).2]):=by
  intro h s0
  have ok:Caps.Ok t:=by obtain ⟨_,_,_,ok,_⟩:=jz s0; exact ok
  refine sim_caps_Tree_Revoke _ _ _ ?_
  unfold rU
  refine cR [0] (sp_caps_look x t e s) s0 rfl fun r h1 s1=>?_
  obtain ⟨rfl,s2⟩:=bu.1 s1
  refine aY (fun k=>?_) (fun k=>?_)
  · have k':Caps.look t e s ≠ 0:=by simpa using k
    have e1:Caps.revoke t e s = (([],Caps.look t e s),t):=if_pos k'
    rw [e1]
    exact aZ rfl (fR s2)
  · have k':¬ Caps.look t e s ≠ 0:=by simpa using k
    have e1:Caps.revoke t e s = ((Caps.below t e s,0),Caps.empties t (Caps.below t e s)):=if_neg k'
    rw [e1]
    refine cR [0] (sp_caps_Below x t e s) s2 rfl fun r h3 s3=>?_
    have s4:=dE s3
    have h8:(Caps.below t e s).length ≤ 64:=by
      have:=all_len (fun _ _ c=>Caps.under t c ⟨e,s⟩) t 0 ok.row
      have:=ok.len
      unfold Caps.below; omega
    refine cR [1,0] (rm x t r (Caps.below t e s) (fun p hp=>((Caps.mem_below ok).1 hp).1) h8 (Caps.ok_below ok e s)) s4 rfl fun v h5 s5=>?_
    exact aZ rfl (dE s5)
theorem sp_caps_Drop (x:Ptr) (t:Caps.T) (e s:Int):Sp Tryz.prog my [pv x,.int .i64 e,.int .i64 s] dA [cN x t] (fun r=>pa_ (r.2 = (Caps.drop t e s).1.2) [vP r.1 (Caps.drop t e s).1.1,cN x (Caps.drop t e s).2]):=by
  intro h s0
  have ok:Caps.Ok t:=by obtain ⟨_,_,_,ok,_⟩:=jz s0; exact ok
  refine sim_caps_Tree_Drop _ _ _ ?_
  unfold uy
  refine pD s0 fun b3 h1 s1=>?_
  refine bp x s1 (i:=0) rfl rfl rfl ?_
  refine cR [1] (sp_caps_look x t e s) s1 rfl fun r h2 s2=>?_
  obtain ⟨rfl,s3⟩:=bu.1 s2
  refine aY (fun k=>?_) (fun k=>?_)
  · have k':Caps.look t e s ≠ 0:=by simpa using k
    have e1:Caps.drop t e s = (([],Caps.look t e s),t):=if_pos k'
    rw [e1]
    exact aZ rfl (fR (nV (l:=[cN x t]) s3))
  · have k':¬ Caps.look t e s ≠ 0:=by simpa using k
    have e1:Caps.drop t e s = ((Caps.own t e s,0),Caps.empties t (Caps.own t e s)):=if_neg k'
    rw [e1]
    have h8:(Caps.own t e s).length ≤ 64:=by
      have:=all_len (fun a b c=>aH.eqb ⟨a,b⟩ ⟨e,s⟩ || Caps.under t c ⟨e,s⟩) t 0 ok.row
      have:=ok.len
      unfold Caps.own; omega
    refine pD s3 fun b9 h4 s4=>?_
    refine tT (i:=0) s4 rfl (by simp [vW]) fun h5 s5=>?_
    refine bp x s5 (i:=2) rfl rfl rfl ?_
    have hall:=sp_caps_all x t (.func (.func gR) #[] #[(.pointer (some ⟨b9,0,none⟩)),(.pointer (some ⟨b3,0,none⟩))]) (fun a b c=>aH.eqb ⟨a,b⟩ ⟨e,s⟩ || Caps.under t c ⟨e,s⟩) [blk b9 rZ (⟨e,s⟩:bY).C,blk b3 sc [pv x]] ?_
    · refine ⟨?_,?_⟩
      · refine bp x s5 (i:=2) rfl rfl rfl ?_
        refine cR [1,0,0] hall s5 rfl fun r h6 s6=>?_
        have s7:=dE s6
        refine cR [1,0] (rm x t r (Caps.own t e s) (fun p hp=>((Caps.mem_own ok).1 hp).1) h8 (Caps.ok_own ok e s)) s7 rfl fun v h8 s8=>?_
        exact aZ rfl (nV (l:=[vP v (Caps.own t e s),cN x (Caps.empties t (Caps.own t e s))]) (dE s8))
      · refine cR [1,0,0] hall s5 rfl fun r h6 s6=>?_
        have s7:=dE s6
        refine bp x s7 (i:=3) rfl rfl rfl ?_
        refine cR [1,0] (rm x t r (Caps.own t e s) (fun p hp=>((Caps.mem_own ok).1 hp).1) h8 (Caps.ok_own ok e s)) s7 rfl fun v h8 s8=>?_
        exact aZ rfl (nV (l:=[vP v (Caps.own t e s),cN x (Caps.empties t (Caps.own t e s))]) (dE s8))
    · intro a i ha hne
      refine ⟨_,_,_,rfl,wk,fun h s6=>?_⟩
      refine sim_caps_Tree_Drop_c1 ⟨a,i⟩ (Caps.get t a i) b9 b3 ?_
      unfold qY
      refine ld_s (i:=1) (⟨e,s⟩:bY) s6 rfl (by simp) ?_
      refine aY (fun k=>?_) (fun k=>?_)
      · have k':aH.eqb ⟨a,i⟩ ⟨e,s⟩ = false:=by simpa using k
        refine bp x s6 (i:=2) rfl rfl rfl ?_
        refine ld_s (i:=1) (⟨e,s⟩:bY) s6 rfl (by simp) ?_
        refine cR [0] (sp_caps_under x t a i ⟨e,s⟩ ha) s6 rfl fun r h7 s7=>?_
        obtain ⟨rfl,s8⟩:=bu.1 s7
        exact aZ (by rw [k']; rfl) s8
      · have k':aH.eqb ⟨a,i⟩ ⟨e,s⟩ = true:=by simpa using k
        exact aZ (by rw [k']; rfl) s6
end Go.Proofs.YtemoifebbhoinaaGreatDoor
