/- Part of the proof of: The law RaceGrant returns true for every input, and leaves its arguments as they were. -/
import Derived.Test.YtmggcfijlpldpaaGreatDoorRaceGrant07
set_option linter.all false
set_option maxRecDepth 20000
namespace Go.Proofs.YtmggcfijlpldpaaGreatDoor
open Go Mb
abbrev vT (s:Sl) (t:Caps.T):As:=vec kO 32 enc8 s t
abbrev vP (s:Sl) (l:List cY):As:=vec rB 2 aF.C s l
def cC (x:Ptr) (t:Caps.T):As:=fun h=>∃ z:Nat × Sl,(x = some (z.1,0)∧Caps.Ok t)∧aE [blk z.1 nj [sv z.2],vT z.2 t] h
theorem iX {x:Ptr} {t:Caps.T} {l:List As} {h:Hp} (s0:aE (cC x t::l) h):∃ b s,x = some (b,0)∧Caps.Ok t∧s.len = t.length∧aE (blk b nj [sv s]::vT s t::l) h:=by
  obtain ⟨⟨b,s⟩,⟨hx,h1⟩,st⟩:=op_ s0
  exact ⟨b,s,hx,h1,(cd (j:=1) st rfl).1,st⟩
theorem tree_cl {b:Nat} {s:Sl} {t:Caps.T} {l:List As} {h:Hp} (h1:Caps.Ok t) (st:aE (blk b nj [sv s]::vT s t::l) h):aE (cC (some (b,0)) t::l) h :=
  cl_ (m:=fun z:Nat × Sl=>[blk z.1 nj [sv z.2],vT z.2 t]) (b,s) ⟨rfl,h1⟩ st
theorem enc8_get {r:List Cap} (h:r.length = 8) {n:Nat} {c:Cap} (hn:r[n]? = some c) (j:Nat) (v:Value) (hv:c.C[j]? = some v):(enc8 r)[n * 4 + j]? = some v:=by
  rw [enc8_eq h]; exact sZ qd r n j c v hn hv
theorem enc8_set {r:List Cap} (h:r.length = 8) {n:Nat} {c:Cap} (hn:r[n]? = some c) (d:Cap):enc8 (r.set n d) = wr (enc8 r) (n * 4) d.C:=by
  rw [enc8_eq h,enc8_eq (by simpa using h)]
  exact (flat_wr qd r n 0 c d d.C hn (by simp [qd]) (wr_all rfl).symm).symm
theorem wM {σ:Type} {l:List As} {h:Hp} {j k off:Nat} {s:Sl} {t:Caps.T} {q:Nat × Nat} {enc':σ→List Value} {K:σ→Hp→Prop} {e i:Int} (y:σ) (ok:Caps.Ok t) (he:Caps.has t e i = true) (st:aE l h) (hj:l[j]? = some (vT s t)) (hq:s.a = some q) (hoff:off = q.2 + Int.toNat e * 32 + Int.toNat i * 4 + k)
    (hy:∀ n v,(enc' y)[n]? = some v→(Caps.get t e i).C[k + n]? = some v) (kk:K y h):ld (q.1,off) enc' K h:=by
  obtain ⟨m,n,rfl,rfl,hm,hn⟩:=Caps.has_nat he
  obtain ⟨hn',hg⟩:=Caps.get_nat' ok.row hm hn
  rw [hg] at hy
  refine ef (j:=j) (i:=m) (k:=n * 4 + k) (x:=t[m]) y enc8_len st hj hq (by simp at hoff; omega) (aD hm) (fun a v hv=>?_) kk
  rw [Nat.add_assoc]
  exact enc8_get (ok.row _ (List.getElem_mem hm)) (aD hn') _ _ (hy a v hv)
theorem st_tree {l:List As} {h:Hp} {j off:Nat} {s:Sl} {t:Caps.T} {q:Nat × Nat} {K:Hp→Prop} {e i:Int} (c:Cap) (row:∀ r ∈ t,r.length = 8) (he:Caps.has t e i = true) (st:aE l h) (hj:l[j]? = some (vT s t)) (hq:s.a = some q) (hoff:off = q.2 + Int.toNat e * 32 + Int.toNat i * 4)
    (kk:∀ h',aE (l.set j (vT s (Caps.put t e i c))) h'→K h'):Mb.st (q.1,off) c.C K h:=by
  obtain ⟨m,n,rfl,rfl,hm,hn⟩:=Caps.has_nat he
  obtain ⟨hn',hg⟩:=Caps.get_nat' row hm hn
  refine st_v (j:=j) (i:=m) (k:=n * 4) (x:=t[m]) (t[m].set n c) enc8_len st hj hq (by simp at hoff; omega) (aD hm) (by simp [qd]; omega) (enc8_set (row _ (List.getElem_mem hm)) (aD hn') c) fun h' s'=>?_
  refine kk h' ?_
  rw [Caps.put_nat hm]; exact s'
theorem rep8:enc8 (List.replicate 8 qY) = [.int .i64 0,.int .i64 0,.int .i64 0,.int .i64 0,.int .i64 0,.int .i64 0,.int .i64 0,.int .i64 0,.int .i64 0,.int .i64 0,.int .i64 0,.int .i64 0,.int .i64 0,.int .i64 0,.int .i64 0,.int .i64 0,.int .i64 0,.int .i64 0,.int .i64 0,.int .i64 0,.int .i64 0,.int .i64 0,.int .i64 0,.int .i64 0,.int .i64 0,.int .i64 0,.int .i64 0,.int .i64 0,.int .i64 0,.int .i64 0,.int .i64 0,.int .i64 0]:=rfl
theorem sp_caps_New (n:Int) (h1:¬ n < 1) (h2:¬ n > 4):Sp Tryz.prog wJ [.int .i64 n] rZ [] (fun r=>aE [cC r (List.replicate n.toNat (List.replicate 8 qY))]):=by
  intro h st
  refine sim_caps_New _ ?_
  unfold sh_caps_New
  obtain ⟨m,rfl⟩:=Int.eq_ofNat_of_zero_le (show 0 ≤ n by omega)
  refine cZ (by simp; omega) ?_
  refine nB (τ:=List Cap) (x0:=List.replicate 8 qY) (enc:=enc8) (n:=m) (T:=kO) (m:=32) el_S_8_api_Cap rep8 st ?_ ?_ ?_
  · omega
  · omega
  · intro v h' s1
    refine oR s1 fun b h'' s2=>?_
    exact tree_cl (Caps.ok_new _ (by omega)) s2
theorem sq (x:Ptr) (t:Caps.T) (e s:Int):Sp Tryz.prog hH [pv x,.int .i64 e,.int .i64 s] az [cC x t] (fun r=>pa_ (r = Caps.has t e s) [cC x t]):=by
  intro h s0
  obtain ⟨b,sl,rfl,ok,hl,st⟩:=iX s0
  refine sim_caps_Tree_is _ _ _ ?_
  unfold sh_caps_Tree_is
  refine aV (fun k=>?_) (fun k=>?_)
  · have k':0 ≤ e:=by simpa using k
    refine cu (bi sl st (i:=0) rfl rfl rfl ?_)
    exact aU (by rw [hl]; simp [Caps.has,k',Bool.and_assoc]) s0
  · have k':¬ 0 ≤ e:=by simpa using k
    exact aU (by simp [Caps.has]; intro h; exact absurd h k') s0
theorem jF (x:Ptr) (t:Caps.T) (e s:Int):Sp Tryz.prog dT [pv x,.int .i64 e,.int .i64 s] bZ [cC x t] (fun r=>pa_ (r = Caps.at_ t e s) [cC x t]):=by
  intro h s0
  obtain ⟨b,sl,rfl,ok,hl,st⟩:=iX s0
  refine sim_caps_Tree_At _ _ _ ?_
  unfold sh_caps_Tree_At
  refine dc rfl ?_
  refine cG [0] (sq _ t e s) s0 rfl fun r h1 s1=>?_
  obtain ⟨rfl,s2⟩:=bn.1 s1
  refine aV (fun k=>?_) (fun k=>?_)
  · have k':Caps.has t e s = true:=by simpa using k
    obtain ⟨m,n,rfl,rfl,hm,hn⟩:=Caps.has_nat k'
    obtain ⟨b',sl,hb',ok,hl,st⟩:=iX s2
    cases hb'
    refine cu (bi sl st (i:=0) rfl rfl rfl ?_)
    refine du st (j:=1) rfl (by omega) (by omega) fun q hq=>⟨⟨by omega,by omega⟩,?_⟩
    refine wM (j:=1) (k:=1) (Caps.get t m n).fRights ok k' st rfl hq rfl (c1 rfl rfl) ?_
    unfold iq
    refine aV (fun k2=>?_) (fun k2=>?_)
    · have k2':(Caps.get t m n).fRights = 0:=by simpa using k2
      exact aU (by unfold Caps.at_; rw [if_neg (fun hh=>hh.2 k2')]) s2
    · have k2':¬ (Caps.get t m n).fRights = 0:=by simpa using k2
      refine cu (bi sl st (i:=0) rfl rfl rfl ?_)
      refine du st (j:=1) rfl (by omega) (by omega) fun q2 hq2=>⟨⟨by omega,by omega⟩,?_⟩
      refine wM (j:=1) (k:=0) (Caps.get t m n) ok k' st rfl hq2 rfl (by simp) ?_
      exact aU (by unfold Caps.at_; rw [if_pos ⟨k',k2'⟩]) s2
  · have k':Caps.has t e s = false:=by simpa using k
    unfold iq
    exact dc rfl (aU (by unfold Caps.at_; rw [if_neg (by simp [k'])]) s2)
theorem wa (x:Ptr) (t:Caps.T) (e s f:Int):Sp Tryz.prog jo [pv x,.int .i64 e,.int .i64 s,.int .i64 f] aZ [cC x t] (fun r=>pa_ (r = (Caps.root t e s f).1) [cC x (Caps.root t e s f).2]):=by
  intro h s0
  obtain ⟨b,sl,rfl,ok,hl,st⟩:=iX s0
  refine sim_caps_Tree_Root _ _ _ _ ?_
  unfold tV
  refine cZ rfl ?_
  refine cG [0] (sq _ t e s) s0 rfl fun r h1 s1=>?_
  obtain ⟨rfl,s2⟩:=bn.1 s1
  have hok:=Caps.ok_root ok e s f
  refine aV (fun k=>?_) (fun k=>?_)
  · have k':Caps.has t e s = false∨f < 0∨f ≥ 16:=by simpa [or_assoc] using k
    have e1:Caps.root t e s f = (2,t):=if_pos k'
    rw [e1]; exact aU rfl s2
  · have k':¬ (Caps.has t e s = false∨f < 0∨f ≥ 16):=by simp at k; simp [k]
    have hh:Caps.has t e s = true:=by simp at k'; exact k'.1
    obtain ⟨m,n,rfl,rfl,hm,hn⟩:=Caps.has_nat hh
    obtain ⟨b',sl,hb',ok,hl,st⟩:=iX s2
    cases hb'
    refine cu (bi sl st (i:=0) rfl rfl rfl ?_)
    refine du st (j:=1) rfl (by omega) (by omega) fun q hq=>⟨⟨by omega,by omega⟩,?_⟩
    refine wM (j:=1) (k:=1) (Caps.get t m n).fRights ok hh st rfl hq rfl (c1 rfl rfl) ?_
    refine aV (fun k2=>?_) (fun k2=>?_)
    · have k2':(Caps.get t m n).fRights ≠ 0:=by simpa using k2
      have e1:Caps.root t m n f = (4,t):=by unfold Caps.root; rw [if_neg k',if_pos k2']
      rw [e1]; exact aU rfl s2
    · have k2':¬ (Caps.get t m n).fRights ≠ 0:=by simpa using k2
      have e1:Caps.root t m n f = (0,Caps.put t m n ⟨f,3,-1,0⟩):=by unfold Caps.root; rw [if_neg k',if_neg k2']
      rw [e1] at hok ⊢
      refine bi sl st (i:=0) rfl rfl rfl ?_
      refine du st (j:=1) rfl (by omega) (by omega) fun q2 hq2=>?_
      refine st_tree (j:=1) ⟨f,3,-1,0⟩ ok.row hh st rfl hq2 rfl fun h3 s3=>?_
      exact aU rfl (tree_cl hok s3)
theorem su (x:Ptr) (t:Caps.T) (e src to dst r:Int):Sp Tryz.prog hO [pv x,.int .i64 e,.int .i64 src,.int .i64 to,.int .i64 dst,.int .i64 r] aZ [cC x t] (fun v=>pa_ (v = (Caps.derive t e src to dst r).1) [cC x (Caps.derive t e src to dst r).2]):=by
  intro h s0
  obtain ⟨b,sl,rfl,ok,hl,st⟩:=iX s0
  refine sim_caps_Tree_Derive _ _ _ _ _ _ ?_
  unfold ry
  refine cZ rfl ?_
  refine cG [0] (sq _ t e src) s0 rfl fun r1 h1 s1=>?_
  obtain ⟨rfl,s2⟩:=bn.1 s1
  have hok:=Caps.ok_derive ok e src to dst r
  have no:(Caps.has t e src = false∨Caps.has t to dst = false∨cz r = false)→Caps.derive t e src to dst r = (2,t):=fun hh=>if_pos hh
  refine aV (fun k=>?_) (fun k=>?_)
  · have k':Caps.has t e src = true:=by simpa using k
    refine cG [0] (sq _ t to dst) s2 rfl fun r3 h3 s3=>?_
    obtain ⟨rfl,s4⟩:=bn.1 s3
    refine aV (fun k2=>?_) (fun k2=>?_)
    · rw [no (.inr (by simpa using k2))]; exact aU rfl s4
    · have k2':Caps.has t to dst = true∧cz r = true:=by simpa using k2
      have hno:¬ (Caps.has t e src = false∨Caps.has t to dst = false∨cz r = false):=by simp [k',k2'.1,k2'.2]
      obtain ⟨m,n,rfl,rfl,hm,hn⟩:=Caps.has_nat k'
      obtain ⟨i,j,rfl,rfl,hi,hj⟩:=Caps.has_nat k2'.1
      obtain ⟨b',sl,hb',ok,hl,st⟩:=iX s4
      cases hb'
      refine cu (bi sl st (i:=0) rfl rfl rfl ?_)
      refine du st (j:=1) rfl (by omega) (by omega) fun q hq=>⟨⟨by omega,by omega⟩,?_⟩
      refine wM (j:=1) (k:=0) (Caps.get t m n) ok k' st rfl hq rfl (by simp) ?_
      refine aV (fun k3=>?_) (fun k3=>?_)
      · have k3':(Caps.get t m n).fRights = 0:=by simpa using k3
        have e1:Caps.derive t m n i j r = (3,t):=by unfold Caps.derive; rw [if_neg hno,if_pos k3']
        rw [e1]; exact aU rfl s4
      · have k3':¬ (Caps.get t m n).fRights = 0:=by simpa using k3
        refine bi sl st (i:=0) rfl rfl rfl ?_
        refine du st (j:=1) rfl (by omega) (by omega) fun q2 hq2=>⟨⟨by omega,by omega⟩,?_⟩
        refine wM (j:=1) (k:=1) (Caps.get t i j).fRights ok k2'.1 st rfl hq2 rfl (c1 rfl rfl) ?_
        refine aV (fun k4=>?_) (fun k4=>?_)
        · have k4':(Caps.get t i j).fRights ≠ 0:=by simpa using k4
          have e1:Caps.derive t m n i j r = (4,t):=by unfold Caps.derive; rw [if_neg hno,if_neg k3',if_pos k4']
          rw [e1]; exact aU rfl s4
        · have k4':¬ (Caps.get t i j).fRights ≠ 0:=by simpa using k4
          refine aV (fun k5=>?_) (fun k5=>?_)
          · have k5':be r (Caps.get t m n).fRights = false:=by simpa using k5
            have e1:Caps.derive t m n i j r = (5,t):=by unfold Caps.derive; rw [if_neg hno,if_neg k3',if_neg k4',if_pos k5']
            rw [e1]; exact aU rfl s4
          · have k5':¬ be r (Caps.get t m n).fRights = false:=by simpa using k5
            have e1:Caps.derive t m n i j r = (0,Caps.put t i j ⟨(Caps.get t m n).fFrame,r,m,n⟩):=by unfold Caps.derive; rw [if_neg hno,if_neg k3',if_neg k4',if_neg k5']
            rw [e1] at hok ⊢
            refine bi sl st (i:=0) rfl rfl rfl ?_
            refine du st (j:=1) rfl (by omega) (by omega) fun q3 hq3=>?_
            refine st_tree (j:=1) ⟨(Caps.get t m n).fFrame,r,m,n⟩ ok.row k2'.1 st rfl hq3 rfl fun h6 s6=>?_
            exact aU rfl (tree_cl hok s6)
  · have k':Caps.has t e src = false:=by simpa using k
    rw [no (.inl k')]; exact aU rfl s2
theorem sp_caps_under (x:Ptr) (t:Caps.T) (e s:Int) (p:cY) (he:Caps.has t e s = true):Sp Tryz.prog kK [pv x,.agg (Caps.get t e s).C.toArray,.agg p.C.toArray] az [cC x t] (fun r=>pa_ (r = Caps.under t (Caps.get t e s) p) [cC x t]):=by
  intro h s0
  obtain ⟨b,sl,rfl,ok,hl,st⟩:=iX s0
  refine sim_caps_Tree_under _ _ _ ?_
  unfold sG
  refine Lp.intro (fun (c:Cap) h=>∃ a i,c = Caps.get t a i∧Caps.has t a i = true∧Caps.under t c p = Caps.under t (Caps.get t e s) p∧aE [cC (some (b,0)) t] h) (fun (c:Cap) _=>Caps.deep 40 t c) ⟨e,s,rfl,he,rfl,s0⟩ ?_
  rintro c h ⟨a,i,rfl,ha,hu,s1⟩
  unfold nc
  have step:=Caps.under_step ok ha p
  refine aV (fun k=>?_) (fun k=>?_)
  · have k':(Caps.get t a i).fRights ≠ 0∧0 ≤ (Caps.get t a i).fEnv:=by simpa using k
    rw [if_pos k'] at step
    refine aV (fun k2=>?_) (fun k2=>?_)
    · have k2':(Caps.get t a i).fEnv = p.fEnv∧(Caps.get t a i).fSlot = p.fSlot:=by simpa using k2
      rw [if_pos k2'] at step
      exact aU (by rw [← hu,step]) s1
    · have k2':¬ ((Caps.get t a i).fEnv = p.fEnv∧(Caps.get t a i).fSlot = p.fSlot):=by simpa using k2
      rw [if_neg k2'] at step
      have dd:=Caps.deep_step ok ha k'
      obtain ⟨rank,hr⟩:=ok.rk
      obtain ⟨hp,_,_⟩:=hr a i ha k'.1 k'.2
      have hp':=hp
      obtain ⟨m,n,em,en,hm,hn⟩:=Caps.has_nat hp'
      obtain ⟨b',sl,hb',ok,hl,st⟩:=iX s1
      cases hb'
      refine cu (bi sl st (i:=0) rfl rfl rfl ?_)
      refine du st (j:=1) rfl (by omega) (by omega) fun q hq=>⟨⟨by omega,by omega⟩,?_⟩
      refine wM (j:=1) (k:=0) (Caps.get t (Caps.get t a i).fEnv (Caps.get t a i).fSlot) ok hp st rfl hq rfl (by simp) ?_
      exact ⟨⟨_,_,rfl,hp,by rw [← step]; exact hu,s1⟩,dd⟩
  · have k':¬ ((Caps.get t a i).fRights ≠ 0∧0 ≤ (Caps.get t a i).fEnv):=by simpa using k
    rw [if_neg k'] at step
    exact aU (by rw [← hu,step]) s1
theorem row_app (P:Int→Int→Cap→Bool) (e:Int):∀ (cs:List Cap) (s:Int) (c:Cap),Caps.rowOf P e (cs++[c]) s = Caps.rowOf P e cs s++(if c.fRights ≠ 0∧P e (s + cs.length) c = true then [⟨e,s + cs.length⟩] else [])
  | [],s,c=>by simp [Caps.rowOf]
  | d::cs,s,c=>by
    rw [List.cons_append,Caps.rowOf_c,Caps.rowOf_c,row_app P e cs (s + 1) c]
    have e1:s + 1 + (cs.length:Int) = s + ((d::cs).length:Int):=by simp; omega
    rw [e1]
    split <;> simp
theorem all_app (P:Int→Int→Cap→Bool):∀ (t:Caps.T) (e:Int) (r:List Cap),Caps.allOf P (t++[r]) e = Caps.allOf P t e++Caps.rowOf P (e + t.length) r 0
  | [],e,r=>by simp [Caps.allOf]
  | d::t,e,r=>by
    have e1:e + 1 + (t.length:Int) = e + ((d::t).length:Int):=by simp; omega
    rw [List.cons_append,Caps.allOf,Caps.allOf,all_app P t (e + 1) r,List.append_assoc,e1]
theorem row_len (P:Int→Int→Cap→Bool) (e:Int):∀ (cs:List Cap) (s:Int),(Caps.rowOf P e cs s).length ≤ cs.length
  | [],_=>Nat.le_refl _
  | c::cs,s=>by rw [Caps.rowOf_c]; have:=row_len P e cs (s + 1); split <;> simp <;> omega
theorem all_len (P:Int→Int→Cap→Bool):∀ (t:Caps.T) (e:Int),(∀ r ∈ t,r.length = 8)→(Caps.allOf P t e).length ≤ 8 * t.length
  | [],_,_=>Nat.le_refl _
  | r::t,e,h=>by
    have h1:=row_len P e r 0
    have h2:=h r (by simp)
    have h3:=all_len P t (e + 1) (fun r hr=>h r (by simp [hr]))
    rw [Caps.allOf,List.length_append,List.length_cons]
    omega
theorem sp_caps_all (x:Ptr) (t:Caps.T) (v:Value) (P:Int→Int→Cap→Bool) (A:List As)
    (hv:∀ e s,Caps.has t e s = true→(Caps.get t e s).fRights ≠ 0→SpV Tryz.prog v [.agg (⟨e,s⟩:cY).C.toArray,.agg (Caps.get t e s).C.toArray] az (cC x t::A) (fun r=>pa_ (r = P e s (Caps.get t e s)) (cC x t::A))) :
    Sp Tryz.prog jV [pv x,v] cK (cC x t::A) (fun r=>aE (vP r (Caps.allOf P t 0)::cC x t::A)):=by
  intro h s0
  obtain ⟨b,sl,rfl,ok,hl,st⟩:=iX s0
  have h4:=ok.len
  refine sim_caps_Tree_all _ _ ?_
  unfold vd
  refine cZ rfl (cu (bi sl st (i:=0) rfl rfl rfl ?_))
  refine Lp.intro (fun (z:Sl × Int) h=>∃ n:Nat,z.2 = n∧n ≤ t.length∧aE (vP z.1 (Caps.allOf P (t.take n) 0)::cC (some (b,0)) t::A) h) (fun (z:Sl × Int) _=>t.length - z.2.toNat) ⟨0,rfl,Nat.zero_le _,fC s0⟩ ?_
  rintro ⟨z,i⟩ h ⟨n,rfl,hn,s1⟩
  unfold pV
  refine aV (fun k=>?_) (fun k=>?_)
  · have hlt:n < t.length:=by rw [hl] at k; simpa using k
    have hrow:=ok.row _ (List.getElem_mem hlt)
    have hw:IntKind.i64.wrap ((n:Int) + 1) = ((n + 1:Nat):Int):=by rw [bR (by omega) (by omega)]; rfl
    obtain ⟨b',sl',hb',_,hl',st1⟩:=iX (ba [1] s1 rfl)
    cases hb'
    refine bi sl' st1 (i:=0) rfl rfl rfl ?_
    refine du st1 (j:=1) rfl (by omega) (by show (n:Int) < _; omega) fun q hq=>?_
    have hfl:(t[n].flatMap au.C).length = 32:=by rw [dW qd,hrow]
    have hld:ld (q.1,q.2 + Int.toNat (n:Int) * 32 + 0) (fun _:Unit=>t[n].flatMap au.C) (fun _ _=>True) h :=
      ef (j:=1) (i:=n) (k:=0) (x:=t[n]) (enc':=fun _:Unit=>t[n].flatMap au.C) () enc8_len st1 rfl hq rfl (aD hlt) (fun m v hv=>by rw [Nat.zero_add,enc8_eq hrow]; exact hv) trivial
    obtain ⟨_,qV,_⟩:=hld
    refine loadAt_v (r:=t[n].flatMap au.C) (cs:=t[n].flatMap au.C) agn_8_api_Cap (by simpa using qV) hfl rfl ?_
    refine Lp.intro (fun (y:Sl × Int) h=>∃ m:Nat,y.2 = m∧m ≤ 8∧aE (vP y.1 (Caps.allOf P (t.take n) 0++Caps.rowOf P n (t[n].take m) 0)::cC (some (b,0)) t::A) h) (fun (y:Sl × Int) _=>8 - y.2.toNat) ⟨0,rfl,Nat.zero_le _,by simpa [Caps.rowOf] using s1⟩ ?_
    rintro ⟨y,j⟩ h ⟨m,rfl,hm,s2⟩
    have hal:=all_len P (t.take n) 0 (fun r hr=>ok.row r (List.mem_of_mem_take hr))
    have hrl:=row_len P n (t[n].take m) 0
    simp at hal hrl
    unfold pU
    refine aV (fun k2=>?_) (fun k2=>?_)
    · have hlt2:m < 8:=by have:=of_decide_eq_true k2; omega
      have hm':m < t[n].length:=by omega
      have hw2:IntKind.i64.wrap ((m:Int) + 1) = ((m + 1:Nat):Int):=by rw [bR (by omega) (by omega)]; rfl
      have ht:t[n].take (m + 1) = t[n].take m++[t[n][m]]:=by simp
      have hlen:((t[n].take m).length:Int) = m:=by simp; omega
      have hg:Caps.get t n m = t[n][m]:=(Caps.get_nat' ok.row hlt hlt2).2
      have hrap:=row_app P n (t[n].take m) 0 t[n][m]
      rw [hlen,Int.zero_add] at hrap
      refine index_v (enc:=au.C) (m:=4) arn_8_api_Cap age_8_api_Cap qd (fun _=>rfl) hrow (aD hm') ?_
      have next:¬ (t[n][m].fRights ≠ 0∧P n m t[n][m] = true)→∀ h,aE (vP y (Caps.allOf P (t.take n) 0++Caps.rowOf P n (t[n].take m) 0)::cC (some (b,0)) t::A) h→gS (z,(n:Int)) (fun s' h'=>(∃ m:Nat,s'.2 = m∧m ≤ 8∧aE (vP s'.1 (Caps.allOf P (t.take n) 0++Caps.rowOf P n (t[n].take m) 0)::cC (some (b,0)) t::A) h')∧8 - s'.2.toNat < 8 - (m:Int).toNat) (y,(m:Int)) false h:=by
        intro hno h s3
        unfold gS
        refine cZ rfl ?_
        rw [hw2]
        refine ⟨⟨m + 1,rfl,hlt2,?_⟩,by simp; omega⟩
        rw [ht,hrap,if_neg hno,List.append_nil]
        exact s3
      refine aV (fun k3=>?_) (fun k3=>?_)
      · have k3':t[n][m].fRights ≠ 0:=by simpa using k3
        have hc:=hv n m (Caps.has_of hlt hlt2) (by rw [hg]; exact k3')
        rw [hg] at hc
        refine clv_t hc s2 fun r h3 s3=>?_
        obtain ⟨hr,s4⟩:=bn.1 s3
        have s5:=star_rot s4
        subst hr
        cases hP:P n m t[n][m] with
        | false=>exact next (by simp [hP]) _ s5
        | true =>
          unfold gS
          refine dc rfl ?_
          refine kj (τ:=cY) (i:=0) (enc:=aF.C) (val:=fun x=>.agg x.C.toArray) td vg place_one (fun _=>rfl) (by omega) rfl rfl s5 rfl (by simp; omega) (by simp; omega) fun v h' s6=>?_
          rw [hw2]
          refine ⟨⟨m + 1,rfl,hlt2,?_⟩,by simp; omega⟩
          rw [ht,hrap,if_pos ⟨k3',hP⟩,← List.append_assoc]
          exact s6
      · have k3':¬ t[n][m].fRights ≠ 0:=by simpa using k3
        exact next (fun hh=>k3' hh.1) _ s2
    · have:m = 8:=by have:=of_decide_eq_false k2; omega
      subst this
      rw [hw]
      refine ⟨⟨n + 1,rfl,hlt,?_⟩,by simp; omega⟩
      have ht:t.take (n + 1) = t.take n++[t[n]]:=by simp
      have hlen:((t.take n).length:Int) = n:=by simp; omega
      rw [ht,all_app,hlen,Int.zero_add]
      rw [show t[n].take 8 = t[n] from by rw [← hrow]; exact List.take_length] at s2
      exact s2
  · have:n = t.length:=by rw [hl] at k; simp at k; omega
    subst this
    rw [List.take_length] at s1
    exact s1
theorem sp_caps_look (x:Ptr) (t:Caps.T) (e s:Int):Sp Tryz.prog lO [pv x,.int .i64 e,.int .i64 s] aZ [cC x t] (fun r=>pa_ (r = Caps.look t e s) [cC x t]):=by
  intro h s0
  obtain ⟨b,sl,rfl,ok,hl,st⟩:=iX s0
  refine sim_caps_Tree_look _ _ _ ?_
  unfold tU
  refine cZ rfl ?_
  refine cG [0] (sq _ t e s) s0 rfl fun r h1 s1=>?_
  obtain ⟨rfl,s2⟩:=bn.1 s1
  refine aV (fun k=>?_) (fun k=>?_)
  · have k':Caps.has t e s = false:=by simpa using k
    exact aU (by unfold Caps.look; rw [if_pos k']) s2
  · have k':Caps.has t e s = true:=by simpa using k
    obtain ⟨m,n,rfl,rfl,hm,hn⟩:=Caps.has_nat k'
    obtain ⟨b',sl,hb',ok,hl,st⟩:=iX s2
    cases hb'
    refine cu (bi sl st (i:=0) rfl rfl rfl ?_)
    refine du st (j:=1) rfl (by omega) (by omega) fun q hq=>⟨⟨by omega,by omega⟩,?_⟩
    refine wM (j:=1) (k:=1) (Caps.get t m n).fRights ok k' st rfl hq rfl (c1 rfl rfl) ?_
    refine aV (fun k2=>?_) (fun k2=>?_)
    · have k2':(Caps.get t m n).fRights = 0:=by simpa using k2
      exact aU (by unfold Caps.look; rw [if_neg (by simp [k']),if_pos k2']) s2
    · have k2':¬ (Caps.get t m n).fRights = 0:=by simpa using k2
      exact aU (by unfold Caps.look; rw [if_neg (by simp [k']),if_neg k2']) s2
theorem empties_app:∀ (l:List cY) (t:Caps.T) (p:cY),Caps.empties t (l++[p]) = Caps.put (Caps.empties t l) p.fEnv p.fSlot qY
  | [],_,_=>rfl
  | q::l,t,p=>by rw [List.cons_append,Caps.empties,Caps.empties,empties_app l]
theorem qK (x:Ptr) (t:Caps.T) (s:Sl) (l:List cY) (hl:∀ p ∈ l,Caps.has t p.fEnv p.fSlot = true) (hb:l.length ≤ 64) (hok:Caps.Ok (Caps.empties t l)) :
    Sp Tryz.prog gz [pv x,sv s] cK [cC x t,vP s l] (fun r=>aE [vP r l,cC x (Caps.empties t l)]):=by
  intro h s0
  obtain ⟨b,sl,rfl,ok,htl,st⟩:=iX s0
  have hsl:=(cd (j:=1) s0 rfl).1
  refine sim_caps_Tree_empties _ _ ?_
  unfold qx
  refine Lp.intro (fun (i:Int) h=>∃ n:Nat,i = n∧n ≤ l.length∧aE [blk b nj [sv sl],vT sl (Caps.empties t (l.take n)),vP s l] h) (fun (i:Int) _=>l.length - i.toNat) ⟨0,rfl,Nat.zero_le _,st⟩ ?_
  rintro i h ⟨n,rfl,hn,s1⟩
  unfold lu
  refine aV (fun k=>?_) (fun k=>?_)
  · have hlt:n < l.length:=by rw [hsl] at k; simpa using k
    have hw:IntKind.i64.wrap ((n:Int) + 1) = ((n + 1:Nat):Int):=by rw [bR (by omega) (by omega)]; rfl
    refine du s1 (j:=2) rfl (by omega) (by omega) fun q hq=>?_
    refine ef (j:=2) (i:=n) (k:=0) l[n] vg s1 rfl hq rfl (aD hlt) (by simp) ?_
    have hh:=hl _ (List.getElem_mem hlt)
    have hh2:Caps.has (Caps.empties t (l.take n)) l[n].fEnv l[n].fSlot = true:=by rw [Caps.empties_has]; exact hh
    have hh3:=hh2
    obtain ⟨i,j,ei,ej,hi,hj⟩:=Caps.has_nat hh3
    refine cu (bi sl s1 (i:=0) rfl rfl rfl ?_)
    refine du s1 (j:=1) rfl (by omega) (by omega) fun q2 hq2=>⟨⟨by omega,by omega⟩,?_⟩
    refine st_tree (j:=1) qY (Caps.empties_row _ _ ok.row) hh2 s1 rfl hq2 rfl fun h3 s3=>?_
    rw [hw]
    refine ⟨⟨n + 1,rfl,hlt,?_⟩,by simp; omega⟩
    have ht:l.take (n + 1) = l.take n++[l[n]]:=by simp
    rw [ht,empties_app]
    exact s3
  · have:n = l.length:=by rw [hsl] at k; simp at k; omega
    subst this
    rw [List.take_length] at s1
    have s2:=tree_cl hok s1
    exact ba [1] s2 rfl
theorem sp_caps_Below (x:Ptr) (t:Caps.T) (e s:Int):Sp Tryz.prog kL [pv x,.int .i64 e,.int .i64 s] cK [cC x t] (fun r=>aE [vP r (Caps.below t e s),cC x t]):=by
  intro h s0
  refine sim_caps_Tree_Below _ _ _ ?_
  unfold sH
  refine oR s0 fun b3 h1 s1=>?_
  refine oR s1 fun b4 h2 s2=>?_
  refine oR s2 fun b5 h3 s3=>?_
  refine bi x s3 (i:=2) rfl rfl rfl ?_
  refine cG [3,2,1,0] (sp_caps_all x t _ (fun _ _ c=>Caps.under t c ⟨e,s⟩) [blk b3 rC [pv x],blk b4 kE [.int .i64 e],blk b5 kE [.int .i64 s]] ?_) s3 rfl fun r h4 s4=>?_
  · intro a i ha hne
    refine ⟨_,_,_,rfl,uE,fun h s5=>?_⟩
    refine wt ⟨a,i⟩ (Caps.get t a i) b3 b4 b5 ?_
    unfold pt
    refine bi x s5 (i:=1) rfl rfl rfl ?_
    refine bi e s5 (i:=2) rfl rfl rfl ?_
    refine bi s s5 (i:=3) rfl rfl rfl ?_
    refine cG [0] (sp_caps_under x t a i ⟨e,s⟩ ha) s5 rfl fun r h6 s6=>?_
    obtain ⟨rfl,s7⟩:=bn.1 s6
    exact aU rfl s7
  · have s5:=dx s4
    exact np (l:=[vP r (Caps.below t e s),cC x t]) s5
theorem sp_caps_Revoke (x:Ptr) (t:Caps.T) (e s:Int):Sp Tryz.prog mX [pv x,.int .i64 e,.int .i64 s] dp [cC x t] (fun r=>pa_ (r.2 = (Caps.revoke t e s).1.2) [vP r.1 (Caps.revoke t e s).1.1,cC x (Caps.revoke t e s).2]):=by
  intro h s0
  have ok:Caps.Ok t:=by obtain ⟨_,_,_,ok,_⟩:=iX s0; exact ok
  refine sim_caps_Tree_Revoke _ _ _ ?_
  unfold rx
  refine cG [0] (sp_caps_look x t e s) s0 rfl fun r h1 s1=>?_
  obtain ⟨rfl,s2⟩:=bn.1 s1
  refine aV (fun k=>?_) (fun k=>?_)
  · have k':Caps.look t e s ≠ 0:=by simpa using k
    have e1:Caps.revoke t e s = (([],Caps.look t e s),t):=if_pos k'
    rw [e1]
    exact aU rfl (fC s2)
  · have k':¬ Caps.look t e s ≠ 0:=by simpa using k
    have e1:Caps.revoke t e s = ((Caps.below t e s,0),Caps.empties t (Caps.below t e s)):=if_neg k'
    rw [e1]
    refine cG [0] (sp_caps_Below x t e s) s2 rfl fun r h3 s3=>?_
    have s4:=dx s3
    have h8:(Caps.below t e s).length ≤ 64:=by
      have:=all_len (fun _ _ c=>Caps.under t c ⟨e,s⟩) t 0 ok.row
      have:=ok.len
      unfold Caps.below; omega
    refine cG [1,0] (qK x t r (Caps.below t e s) (fun p hp=>((Caps.mem_below ok).1 hp).1) h8 (Caps.ok_below ok e s)) s4 rfl fun v h5 s5=>?_
    exact aU rfl (dx s5)
theorem sp_caps_Drop (x:Ptr) (t:Caps.T) (e s:Int):Sp Tryz.prog lP [pv x,.int .i64 e,.int .i64 s] dp [cC x t] (fun r=>pa_ (r.2 = (Caps.drop t e s).1.2) [vP r.1 (Caps.drop t e s).1.1,cC x (Caps.drop t e s).2]):=by
  intro h s0
  have ok:Caps.Ok t:=by obtain ⟨_,_,_,ok,_⟩:=iX s0; exact ok
  refine sim_caps_Tree_Drop _ _ _ ?_
  unfold tW
  refine oR s0 fun b3 h1 s1=>?_
  refine bi x s1 (i:=0) rfl rfl rfl ?_
  refine cG [1] (sp_caps_look x t e s) s1 rfl fun r h2 s2=>?_
  obtain ⟨rfl,s3⟩:=bn.1 s2
  refine aV (fun k=>?_) (fun k=>?_)
  · have k':Caps.look t e s ≠ 0:=by simpa using k
    have e1:Caps.drop t e s = (([],Caps.look t e s),t):=if_pos k'
    rw [e1]
    exact aU rfl (fC (np (l:=[cC x t]) s3))
  · have k':¬ Caps.look t e s ≠ 0:=by simpa using k
    have e1:Caps.drop t e s = ((Caps.own t e s,0),Caps.empties t (Caps.own t e s)):=if_neg k'
    rw [e1]
    have h8:(Caps.own t e s).length ≤ 64:=by
      have:=all_len (fun a b c=>aF.eqb ⟨a,b⟩ ⟨e,s⟩ || Caps.under t c ⟨e,s⟩) t 0 ok.row
      have:=ok.len
      unfold Caps.own; omega
    refine oR s3 fun b9 h4 s4=>?_
    refine us (i:=0) s4 rfl (by simp [vg]) fun h5 s5=>?_
    refine bi x s5 (i:=2) rfl rfl rfl ?_
    have hall:=sp_caps_all x t (.func (.func gA) #[] #[(.pointer (some ⟨b9,0,none⟩)),(.pointer (some ⟨b3,0,none⟩))]) (fun a b c=>aF.eqb ⟨a,b⟩ ⟨e,s⟩ || Caps.under t c ⟨e,s⟩) [blk b9 rB (⟨e,s⟩:cY).C,blk b3 rC [pv x]] ?_
    · refine ⟨?_,?_⟩
      · refine bi x s5 (i:=2) rfl rfl rfl ?_
        refine cG [1,0,0] hall s5 rfl fun r h6 s6=>?_
        have s7:=dx s6
        refine cG [1,0] (qK x t r (Caps.own t e s) (fun p hp=>((Caps.mem_own ok).1 hp).1) h8 (Caps.ok_own ok e s)) s7 rfl fun v h8 s8=>?_
        exact aU rfl (np (l:=[vP v (Caps.own t e s),cC x (Caps.empties t (Caps.own t e s))]) (dx s8))
      · refine cG [1,0,0] hall s5 rfl fun r h6 s6=>?_
        have s7:=dx s6
        refine bi x s7 (i:=3) rfl rfl rfl ?_
        refine cG [1,0] (qK x t r (Caps.own t e s) (fun p hp=>((Caps.mem_own ok).1 hp).1) h8 (Caps.ok_own ok e s)) s7 rfl fun v h8 s8=>?_
        exact aU rfl (np (l:=[vP v (Caps.own t e s),cC x (Caps.empties t (Caps.own t e s))]) (dx s8))
    · intro a i ha hne
      refine ⟨_,_,_,rfl,vv,fun h s6=>?_⟩
      refine sim_caps_Tree_Drop_c1 ⟨a,i⟩ (Caps.get t a i) b9 b3 ?_
      unfold qy
      refine ld_s (i:=1) (⟨e,s⟩:cY) s6 rfl (by simp) ?_
      refine aV (fun k=>?_) (fun k=>?_)
      · have k':aF.eqb ⟨a,i⟩ ⟨e,s⟩ = false:=by simpa using k
        refine bi x s6 (i:=2) rfl rfl rfl ?_
        refine ld_s (i:=1) (⟨e,s⟩:cY) s6 rfl (by simp) ?_
        refine cG [0] (sp_caps_under x t a i ⟨e,s⟩ ha) s6 rfl fun r h7 s7=>?_
        obtain ⟨rfl,s8⟩:=bn.1 s7
        exact aU (by rw [k']; rfl) s8
      · have k':aF.eqb ⟨a,i⟩ ⟨e,s⟩ = true:=by simpa using k
        exact aU (by rw [k']; rfl) s6
end Go.Proofs.YtmggcfijlpldpaaGreatDoor
