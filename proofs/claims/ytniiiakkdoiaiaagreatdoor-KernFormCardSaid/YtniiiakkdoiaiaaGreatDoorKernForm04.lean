/- Part of the proof of: The law KernForm returns true for every input, and leaves its arguments as they were. -/
import Derived.Test.YtniiiakkdoiaiaaGreatDoorKernForm03
set_option linter.all false
namespace Go.Proofs.YtniiiakkdoiaiaaGreatDoor
open Go Mb
abbrev vI (s:Sl) (xs:List Int):As:=vec kJ 1 (cI .i64) s xs
def fW (a:Int):List Int→Int→Int
  | [],_=>-1
  | x::xs,i=>if a = x then i else fW a xs (i + 1)
theorem sp_slices_Index (s:Sl) (a:Int) (xs:List Int) (hb:xs.length < 2^62) :
    Sp Tryz.prog jT [sv s,.int .i64 a] dW [vI s xs] (fun r=>pa_ (r = fW a xs 0) [vI s xs]):=by
  intro h st
  refine us _ _ ?_
  unfold nz
  refine Lp.intro (fun (i:Int) h=>∃ n:Nat,i = n∧n ≤ xs.length∧fW a (xs.drop n) n = fW a xs 0∧aQ [vI s xs] h) (fun (i:Int) _=>xs.length - i.toNat) ⟨0,rfl,Nat.zero_le _,by simp,st⟩ ?_
  rintro i h ⟨n,rfl,hn,he,st⟩
  have hl:=(cn st (j:=0) rfl).1
  unfold jr
  refine bk (fun k=>?_) (fun k=>?_)
  · have hlt:n < xs.length:=by simp [hl] at k; exact k
    refine dF st (j:=0) rfl (by omega) (by omega) fun q hq=>?_
    refine eB (j:=0) (i:=n) (k:=0) xs[n] (dl _) st rfl hq (by simp) (aL hlt) (by simp) ?_
    have hd:xs.drop n = xs[n]::xs.drop (n + 1):=List.drop_eq_getElem_cons hlt
    rw [hd] at he
    refine bk (fun k2=>?_) (fun k2=>?_)
    · have k2':a = xs[n]:=by simpa using k2
      rw [fW,if_pos k2'] at he
      exact ⟨he,st⟩
    · have k2':¬ a = xs[n]:=by simpa using k2
      rw [fW,if_neg k2'] at he
      have hw:IntKind.i64.wrap ((n:Int) + 1) = ((n + 1:Nat):Int):=by rw [cm (by omega) (by omega)]; rfl
      rw [hw]
      exact ⟨⟨n + 1,rfl,hlt,by simpa using he,st⟩,by simp; omega⟩
  · have:n = xs.length:=by simp [hl] at k; omega
    subst this
    simp only [List.drop_length,fW] at he
    exact ⟨he,st⟩
def fQ (x:Ptr) (p:List Int):As:=fun h=>∃ bs:Nat × Sl,(x = some (bs.1,0)∧p.length ≤ 16)∧aQ [blk bs.1 qm [sv bs.2],vI bs.2 p] h
namespace Pool
def refs (p:List Int) (i:Int):Int:=if i < 0 then 0 else p.getD i.toNat 0
def take (p:List Int):Int × Bool × List Int :=
  if fW 0 p 0 < 0 then (0,false,p) else (fW 0 p 0,true,p.set (fW 0 p 0).toNat 1)
def hold (p:List Int) (i:Int):Bool × List Int :=
  if refs p i = 0∨refs p i ≥ 7 then (false,p) else (true,p.set i.toNat (IntKind.i64.wrap (refs p i + 1)))
def lets (p:List Int) (i:Int):Int × Bool × List Int :=
  if refs p i = 0 then (0,false,p) else (IntKind.i64.wrap (refs p i - 1),true,p.set i.toNat (IntKind.i64.wrap (refs p i - 1)))
def freeFrom:List Int→Int→List Int
  | [],_=>[]
  | x::xs,i=>if x = 0 then i::freeFrom xs (i + 1) else freeFrom xs (i + 1)
def free (p:List Int):List Int:=freeFrom p 0
end Pool
theorem idx_lt (a:Int):∀ (xs:List Int) (i:Int),fW a xs i = -1∨∃ n:Nat,n < xs.length∧fW a xs i = i + n
  | [],_=>.inl rfl
  | x::xs,i=>by
    unfold fW
    split
    · exact .inr ⟨0,by simp,by simp⟩
    · rcases idx_lt a xs (i + 1) with h | ⟨n,h1,h2⟩
      · exact .inl h
      · exact .inr ⟨n + 1,by simp; omega,by rw [h2]; omega⟩
theorem pool_op {x:Ptr} {p:List Int} {l:List As} {h:Hp} (s0:aQ (fQ x p::l) h):∃ b s,x = some (b,0)∧p.length ≤ 16∧s.len = p.length∧aQ (blk b qm [sv s]::vI s p::l) h:=by
  obtain ⟨⟨b,s⟩,⟨hx,hb⟩,st⟩:=op_ s0
  exact ⟨b,s,hx,hb,(cn (j:=1) st rfl).1,st⟩
theorem rI {b:Nat} {s:Sl} {p:List Int} {l:List As} {h:Hp} (hb:p.length ≤ 16) (st:aQ (blk b qm [sv s]::vI s p::l) h):aQ (fQ (some (b,0)) p::l) h:=cl_ (b,s) ⟨rfl,hb⟩ st
theorem sp_pool_New (n:Int) (h1:¬ n < 1) (h2:¬ n > 16):Sp Tryz.prog wD [.int .i64 n] rW [] (fun r=>aQ [fQ r (List.replicate n.toNat 0)]):=by
  intro h st
  refine sim_pool_New _ ?_
  unfold sh_pool_New
  obtain ⟨m,rfl⟩:=Int.eq_ofNat_of_zero_le (show 0 ≤ n by omega)
  refine dv (by simp; omega) ?_
  refine nF (τ:=Int) (x0:=0) (enc:=cI .i64) (n:=m) (T:=kJ) (m:=1) el_Sint rfl st ?_ ?_ ?_
  · omega
  · omega
  · intro v h' s1
    refine oT s1 fun b h'' s2=>?_
    exact rI (by simp; omega) s2
theorem vS (x:Ptr) (p:List Int) (i:Int):Sp Tryz.prog ju [pv x,.int .i64 i] dW [fQ x p] (fun r=>pa_ (r = Pool.refs p i) [fQ x p]):=by
  intro h s0
  obtain ⟨b,s,rfl,hb,hl,st⟩:=pool_op s0
  refine sim_pool_Pool_Refs _ _ ?_
  unfold tG
  refine bk (fun k=>?_) (fun k=>?_)
  · have h0:0 ≤ i:=by simpa using k
    obtain ⟨n,rfl⟩:=Int.eq_ofNat_of_zero_le h0
    refine cC ?_
    refine bB s st (i:=0) rfl rfl rfl ?_
    refine bk (fun k2=>?_) (fun k2=>?_)
    · have:p.length ≤ n:=by rw [hl] at k2; simpa using k2
      exact bh (by simp [Pool.refs,this]) (rI hb st)
    · have hlt:n < p.length:=by rw [hl] at k2; simpa using k2
      refine bB s st (i:=0) rfl rfl rfl ?_
      refine dF st (j:=1) rfl (by omega) (by omega) fun q hq=>?_
      refine eB (j:=1) (i:=n) (k:=0) p[n] (dl _) st rfl hq (by simp) (aL hlt) (by simp) ?_
      refine bh ?_ (rI hb st)
      have:¬ ((n:Int) < 0):=by omega
      simp [Pool.refs,hlt,this]
  · have h0:i < 0:=by simpa using k
    exact bh (by simp [Pool.refs,h0]) (rI hb st)
theorem vR (x:Ptr) (p:List Int):Sp Tryz.prog jt [pv x] bZ [fQ x p] (fun r=>pa_ (r = ((Pool.take p).1,(Pool.take p).2.1)) [fQ x (Pool.take p).2.2]):=by
  intro h s0
  obtain ⟨b,s,rfl,hb,hl,st⟩:=pool_op s0
  refine sim_pool_Pool_Take _ ?_
  unfold tF
  refine dv rfl (cC ?_)
  refine bB s st (i:=0) rfl rfl rfl ?_
  refine cT [1] (sp_slices_Index s 0 p (by omega)) st rfl fun r h' s1=>?_
  obtain ⟨hr,s2⟩:=bH.1 s1
  subst hr
  refine bk (fun k=>?_) (fun k=>?_)
  · have k':fW 0 p 0 < 0:=by simpa using k
    have e:Pool.take p = (0,false,p):=if_pos k'
    rw [e]
    exact bh rfl (rI hb (bn [1] s2 rfl))
  · have k':¬ fW 0 p 0 < 0:=by simpa using k
    have e0:Pool.take p = (fW 0 p 0,true,p.set (fW 0 p 0).toNat 1):=if_neg k'
    rw [e0]
    rcases idx_lt 0 p 0 with e | ⟨n,h1,e⟩
    · omega
    · rw [Int.zero_add] at e
      refine bB s s2 (i:=1) rfl rfl rfl ?_
      rw [e]
      refine dF s2 (j:=0) rfl (by omega) (by omega) fun q hq=>?_
      refine st_v (j:=0) (i:=n) (k:=0) (1:Int) (dl _) s2 rfl hq (by simp) (aL h1) (by simp) rfl fun h2 s3=>?_
      exact bh rfl (rI (by simpa using hb) (bn [1] s3 rfl))
theorem refs_get {p:List Int} {i:Int} (h:Pool.refs p i ≠ 0):∃ n:Nat,i = n∧∃ hn:n < p.length,Pool.refs p i = p[n]:=by
  unfold Pool.refs at h ⊢
  by_cases h0:i < 0
  · rw [if_pos h0] at h; exact absurd rfl h
  · rw [if_neg h0] at h ⊢
    obtain ⟨n,rfl⟩:=Int.eq_ofNat_of_zero_le (show 0 ≤ i by omega)
    refine ⟨n,rfl,?_⟩
    by_cases hn:n < p.length
    · exact ⟨hn,by simp [hn]⟩
    · simp [List.getD_eq_getElem?_getD,List.getElem?_eq_none (Nat.le_of_not_lt hn)] at h
theorem sp_pool_Hold (x:Ptr) (p:List Int) (i:Int):Sp Tryz.prog lK [pv x,.int .i64 i] aG [fQ x p] (fun r=>pa_ (r = (Pool.hold p i).1) [fQ x (Pool.hold p i).2]):=by
  intro h s0
  refine sim_pool_Pool_Hold _ _ ?_
  unfold tH
  refine cT [0] (vS x p i) s0 rfl fun r h' s1=>?_
  obtain ⟨hr,s2⟩:=bH.1 s1
  subst hr
  refine bk (fun k=>?_) (fun k=>?_)
  · have k':Pool.refs p i = 0∨Pool.refs p i ≥ 7:=by simpa using k
    have e:Pool.hold p i = (false,p):=if_pos k'
    rw [e]
    exact bh rfl s2
  · have k':¬ (Pool.refs p i = 0∨Pool.refs p i ≥ 7):=by simpa using k
    have e:Pool.hold p i = (true,p.set i.toNat (IntKind.i64.wrap (Pool.refs p i + 1))):=if_neg k'
    rw [e]
    obtain ⟨n,rfl,hn,hg⟩:=refs_get (p:=p) (i:=i) (by omega)
    obtain ⟨b,s,rfl,hb,hl,st⟩:=pool_op s2
    refine cC ?_
    refine bB s st (i:=0) rfl rfl rfl ?_
    refine dF st (j:=1) rfl (by omega) (by omega) fun q hq=>?_
    refine eB (j:=1) (i:=n) (k:=0) p[n] (dl _) st rfl hq (by simp) (aL hn) (by simp) ?_
    refine st_v (j:=1) (i:=n) (k:=0) (IntKind.i64.wrap (p[n] + 1)) (dl _) st rfl hq (by simp) (aL hn) (by simp) rfl fun h2 s3=>?_
    rw [hg]
    exact bh rfl (rI (by simpa using hb) s3)
theorem sp_pool_Let (x:Ptr) (p:List Int) (i:Int):Sp Tryz.prog mR [pv x,.int .i64 i] bZ [fQ x p] (fun r=>pa_ (r = ((Pool.lets p i).1,(Pool.lets p i).2.1)) [fQ x (Pool.lets p i).2.2]):=by
  intro h s0
  refine sim_pool_Pool_Let _ _ ?_
  unfold uT
  refine cT [0] (vS x p i) s0 rfl fun r h' s1=>?_
  obtain ⟨hr,s2⟩:=bH.1 s1
  subst hr
  refine bk (fun k=>?_) (fun k=>?_)
  · have k':Pool.refs p i = 0:=by simpa using k
    have e:Pool.lets p i = (0,false,p):=if_pos k'
    rw [e]
    exact bh rfl s2
  · have k':¬ (Pool.refs p i = 0):=by simpa using k
    have e:Pool.lets p i = (IntKind.i64.wrap (Pool.refs p i - 1),true,p.set i.toNat (IntKind.i64.wrap (Pool.refs p i - 1))):=if_neg k'
    rw [e]
    obtain ⟨n,rfl,hn,hg⟩:=refs_get (p:=p) (i:=i) k'
    obtain ⟨b,s,rfl,hb,hl,st⟩:=pool_op s2
    refine cC ?_
    refine bB s st (i:=0) rfl rfl rfl ?_
    refine dF st (j:=1) rfl (by omega) (by omega) fun q hq=>?_
    refine eB (j:=1) (i:=n) (k:=0) p[n] (dl _) st rfl hq (by simp) (aL hn) (by simp) ?_
    refine st_v (j:=1) (i:=n) (k:=0) (IntKind.i64.wrap (p[n] - 1)) (dl _) st rfl hq (by simp) (aL hn) (by simp) rfl fun h2 s3=>?_
    refine bB s s3 (i:=0) rfl rfl rfl ?_
    refine dF s3 (j:=1) rfl (by omega) (by simp; omega) fun q2 hq2=>?_
    refine eB (j:=1) (i:=n) (k:=0) (IntKind.i64.wrap (p[n] - 1)) (dl _) s3 rfl hq2 (by simp) (x:=IntKind.i64.wrap (p[n] - 1)) (by simp [hn]) (by simp) ?_
    rw [hg]
    exact bh rfl (rI (by simpa using hb) s3)
theorem free_append:∀ (xs:List Int) (i:Int) (x:Int),Pool.freeFrom (xs++[x]) i = Pool.freeFrom xs i++(if x = 0 then [i + xs.length] else [])
  | [],i,x=>by simp only [List.nil_append,Pool.freeFrom]; split <;> simp
  | y::xs,i,x=>by
    simp only [List.cons_append,Pool.freeFrom]
    rw [free_append xs (i + 1) x]
    have e:i + 1 + (xs.length:Int) = i + ((y::xs).length:Int):=by simp; omega
    rw [e]
    split <;> simp
theorem free_len:∀ (xs:List Int) (i:Int),(Pool.freeFrom xs i).length ≤ xs.length
  | [],_=>Nat.le_refl _
  | x::xs,i=>by unfold Pool.freeFrom; have:=free_len xs (i + 1); split <;> simp <;> omega
theorem vC {l:List As} {h:Hp} {i:Nat} {s:Sl} {xs:List Int} {x:Int} {K:Sl→Hp→Prop} (st:aQ l h) (hi:l[i]? = some (vI s xs)) (hb:xs.length < 2 ^ 40)
    (k:∀ v h',aQ (l.set i (vI v (xs++[x]))) h'→K v h'):hpv Tryz.prog (Instr.buildSlice dN 1 #[(0,.int .i64 x)]) cG (fun y=>hpv Tryz.prog (Builtin.append_ #[dN,dN] dN #[sv s,sv y]) cG K) h:=by
  refine fz (τ:=Int) [x] (val:=fun x=>.int .i64 x) (enc:=cI .i64) el_Sint (dl _) (fun _=>rfl) st rfl rfl (by simp) fun y h' s1=>?_
  have hlt:=(List.getElem?_eq_some_iff.1 hi).1
  refine tq (τ:=Int) (i:=i + 1) (j:=0) (enc:=cI .i64) (ys:=[x]) el_Sint el_Sint.sl (dl _) (oneI _) s1 (by simpa using hi) rfl (by omega) (by simp; omega) (by simp; omega) fun v h2 s2=>?_
  exact k v h2 (cj (l:=[vI y [x]]) (by simpa using s2))
theorem sp_pool_Free (x:Ptr) (p:List Int):Sp Tryz.prog lL [pv x] cG [fQ x p] (fun r=>aQ [vI r (Pool.free p),fQ x p]):=by
  intro h s0
  obtain ⟨b,s,rfl,hb,hl,st⟩:=pool_op s0
  refine sim_pool_Pool_Free _ ?_
  unfold tI
  refine dv rfl (cC ?_)
  refine bB s st (i:=0) rfl rfl rfl ?_
  refine Lp.intro (fun (z:Sl × Int) h=>∃ n:Nat,z.2 = n∧n ≤ p.length∧aQ [vI z.1 (Pool.freeFrom (p.take n) 0),blk b qm [sv s],vI s p] h) (fun (z:Sl × Int) _=>p.length - z.2.toNat) ⟨0,rfl,Nat.zero_le _,ft st⟩ ?_
  rintro ⟨z,i⟩ h ⟨n,rfl,hn,s1⟩
  unfold ov
  refine bk (fun k=>?_) (fun k=>?_)
  · have hlt:n < p.length:=by rw [hl] at k; simpa using k
    have hw:IntKind.i64.wrap ((n:Int) + 1) = ((n + 1:Nat):Int):=by rw [cm (by omega) (by omega)]; rfl
    have ht:p.take (n + 1) = p.take n++[p[n]]:=by simp
    have hlen:((p.take n).length:Int) = n:=by simp; omega
    refine dF s1 (j:=2) rfl (by omega) (by show (n:Int) < _; omega) fun q hq=>?_
    refine eB (j:=2) (i:=n) (k:=0) p[n] (dl _) s1 rfl hq (by simp) (aL hlt) (by simp) ?_
    refine bk (fun k2=>?_) (fun k2=>?_)
    · have k2':p[n] = 0:=by simpa using k2
      refine vC s1 (i:=0) rfl ?_ fun v h' s2=>?_
      · have:=free_len (p.take n) 0; simp at this ⊢; omega
      · rw [hw]
        refine ⟨⟨n + 1,rfl,hlt,?_⟩,by simp; omega⟩
        rw [ht,free_append,if_pos k2',hlen,Int.zero_add]
        exact s2
    · have k2':¬ p[n] = 0:=by simpa using k2
      rw [hw]
      refine ⟨⟨n + 1,rfl,hlt,?_⟩,by simp; omega⟩
      rw [ht,free_append,if_neg k2',List.append_nil]
      exact s1
  · have:n = p.length:=by rw [hl] at k; simp at k; omega
    subst this
    rw [List.take_length] at s1
    exact ko (.cons _ (.refl _)) (bn (l:=[vI z (Pool.freeFrom p 0),fQ (some (b,0)) p]) [0] (by
      have:=bn [1,1] s1 rfl
      exact bn [1] (rI hb this) rfl) rfl)
def Pool.bitsOf (w:Int):List Int→Int
  | []=>w
  | i::l=>Pool.bitsOf (ior .u64 w (IntKind.u64.wrap (1 * 2 ^ (min (Int.toNat i) (IntKind.bits .u64))))) l
def Pool.bits (p:List Int):Int:=Pool.bitsOf 0 (Pool.free p)
theorem free_ge:∀ (xs:List Int) (i:Int),0 ≤ i→∀ j ∈ Pool.freeFrom xs i,0 ≤ j
  | [],_,_,_,h=>by cases h
  | x::xs,i,hi,j,h=>by
    unfold Pool.freeFrom at h
    split at h
    · rcases List.mem_cons.1 h with rfl | h
      · exact hi
      · exact free_ge xs (i + 1) (by omega) j h
    · exact free_ge xs (i + 1) (by omega) j h
theorem bits_append (a:Int):∀ (l:List Int) (w:Int),Pool.bitsOf w (l++[a]) = ior .u64 (Pool.bitsOf w l) (IntKind.u64.wrap (1 * 2 ^ (min (Int.toNat a) (IntKind.bits .u64))))
  | [],_=>rfl
  | _::l,w=>by simp only [List.cons_append,Pool.bitsOf]; exact bits_append a l _
theorem sp_pool_Bits (x:Ptr) (p:List Int):Sp Tryz.prog pO [pv x] gK [fQ x p] (fun r=>pa_ (r = Pool.bits p) [fQ x p]):=by
  intro h s0
  have hp16:p.length ≤ 16:=by obtain ⟨_,_,_,hb,_⟩:=pool_op s0; exact hb
  refine sim_pool_Pool_Bits _ ?_
  unfold tJ
  refine cT [0] (sp_pool_Free x p) s0 rfl fun r h1 s1=>?_
  have s2:=dJ s1
  have hl:=(cn (j:=0) s2 rfl).1
  have hfl:=free_len p 0
  refine Lp.intro (fun (z:Int × Int) h=>∃ n:Nat,z.2 = n∧n ≤ (Pool.free p).length∧z.1 = Pool.bitsOf 0 ((Pool.free p).take n)∧aQ [vI r (Pool.free p),fQ x p] h) (fun (z:Int × Int) _=>(Pool.free p).length - z.2.toNat) ⟨0,rfl,Nat.zero_le _,rfl,s2⟩ ?_
  rintro ⟨w,i⟩ h ⟨n,rfl,hn,rfl,s3⟩
  unfold ow
  refine bk (fun k=>?_) (fun k=>?_)
  · have hlt:n < (Pool.free p).length:=by rw [hl] at k; simpa using k
    have hw:IntKind.i64.wrap ((n:Int) + 1) = ((n + 1:Nat):Int):=by
      have:(Pool.free p).length ≤ 16:=by unfold Pool.free; omega
      rw [cm (by omega) (by omega)]; rfl
    refine dF s3 (j:=0) rfl (by omega) (by show (n:Int) < _; omega) fun q hq=>?_
    refine eB (j:=0) (i:=n) (k:=0) (Pool.free p)[n] (dl _) s3 rfl hq (by simp) (aL hlt) (by simp) ?_
    refine ⟨free_ge p 0 (Int.le_refl _) _ (List.getElem_mem hlt),?_⟩
    rw [hw]
    refine ⟨⟨n + 1,rfl,hlt,?_,s3⟩,by simp; omega⟩
    have ht:(Pool.free p).take (n + 1) = (Pool.free p).take n++[(Pool.free p)[n]]:=by simp
    rw [ht,bits_append]
  · have:n = (Pool.free p).length:=by rw [hl] at k; simp at k; omega
    subst this
    refine bh ?_ (cj (l:=[vI r (Pool.free p)]) s3)
    rw [List.take_length]; rfl
end Go.Proofs.YtniiiakkdoiaiaaGreatDoor
namespace Go.Proofs.YtniiiakkdoiaiaaGreatDoor
open Go Mb
set_option linter.unusedVariables false
def sh_table_New (K:Ptr→Hp→Prop):Hp→Prop:=hpv Tryz.prog (Instr.build km #[]) encL fun (v1:(List Value))=>nw km v1 fun b2=>K (some (b2,0))
set_option maxRecDepth 20000 in
theorem sim_table_New {K:Ptr→Hp→Prop} {h:Hp} (H:sh_table_New K h):Ct Tryz.prog lb #[] h fun v h'=>∃ r,v = ip r∧K r h':=aC [] Tryz.func93 rfl rfl rfl fun _=>ag<|ab<|aa (ae rfl) rfl<|ad<|ag<|ab<|aj (be H (x_build (vs:=[]) rfl) rfl fun v1 _ H1=>aj (hU rfl rfl rfl H1 fun b2 _ H2=>aa (ae rfl) rfl<|ad<|an<|av (az rfl (aE rfl)) ⟨(some (b2,0)),rfl,H2⟩))
def iK (a0:Ptr) (a1:Int) (K:(aq × Bool)→Hp→Prop) (s1:Bool):Hp→Prop:=br s1 ( K ((⟨0,0,0⟩:aq),false)) ( nn a0 fun q26=>gd (0 ≤ a1∧a1 < 8)<|ld (q26.1,q26.2 + 0 + Int.toNat a1 * 3) aq.C fun x29=>K (x29,true))
def tE (a0:Ptr) (a1:Int) (K:(aq × Bool)→Hp→Prop):Hp→Prop:=br (!(a0.isNone || (!(cJ a1)))) ( nn a0 fun q16=>gd (0 ≤ a1∧a1 < 8)<|ld (q16.1,q16.2 + 0 + Int.toNat a1 * 3 + 2) (cI .i64) fun x20=>iK a0 a1 K (x20 == 0)) ( iK a0 a1 K true)
set_option maxRecDepth 20000 in
theorem sim_table_Table_At (a0:Ptr) (a1:Int) {K:(aq × Bool)→Hp→Prop} {h:Hp} (H:tE a0 a1 K h):Ct Tryz.prog eV #[(pv a0),(.int .i64 a1)] h fun v h'=>∃ r,v = cF r∧K r h':=aC [(pv a0),(.int .i64 a1)] Tryz.func119 rfl rfl rfl fun _=>ag<|ab<|aj (bb (l:=(aq.C (⟨0,0,0⟩:aq))) fU rfl rfl fun b4=>aa (ae rfl) rfl<|ad<|ag<|eG (iK a0 a1 K) (fun s1=>[(0,(pv a0)),(1,(.int .i64 a1)),(4,(.pointer (some ⟨b4,0,none⟩))),(22,(.bool s1))]) (fun s1=>[bx b4 74 (aq.C (⟨0,0,0⟩:aq))]) ( ab<|aa (ac rfl) rfl<|aa (ct Tryz.underlying133 rfl) rfl<|aa (ac rfl) rfl<|ai rfl rfl rfl (aS _) (fun g10=>wv (ac rfl)) rfl<|de (vs:=[(.int .i64 a1)]) rfl rfl rfl (aS _) (fun g11=>(bI (ul a1 _))) en_140 (fun g11=>(aY (aK rfl g11) bU)) rfl<|ai rfl rfl rfl (aS _) (fun g12=>wv (cw (aK rfl g12))) rfl<|aa (du rfl rfl) rfl<|aa (ac rfl) rfl<|ai rfl rfl rfl (aS _) (fun g13=>wv (ac rfl)) rfl<|ai rfl rfl rfl (aS _) (fun g14=>wv (ac rfl)) rfl<|bW H (fun k16 H17=>bP H17 fun q16 e18 H19=>aI rfl rfl rfl (congrArg Value.bool (bL k16)) (aN (wv (aU (aX (aK rfl k16) (ay e18)))) rfl<|aI rfl rfl rfl (congrArg Value.bool (bL k16)) (aN (wv (am kr rfl)) rfl<|il H19 fun h20 H21=>aI rfl rfl rfl (congrArg Value.bool (bL k16)) (aN (wv (bJ rV rfl (aK rfl k16) h20)) rfl<|aI rfl rfl rfl (congrArg Value.bool (bL k16)) (aN (wv (am eM rfl)) rfl<|aI rfl rfl rfl (congrArg Value.bool (bL k16)) (bf H21 bj rfl (fun _=>rfl) rfl fun x20 H22=>aI rfl rfl rfl (congrArg Value.bool (bL k16)) (aN (wv (cc rfl rfl)) rfl<|aa (ax rfl (bL k16) rfl) rfl<|ad<|cQ (x20 == 0) H22 (.cons rfl (.cons rfl (.cons rfl (.cons rfl (.nil _))))) (.cons_cons _ .slnil)))))))) (fun k16 H17=>al rfl rfl rfl (bF (bp k16)) rfl<|al rfl rfl rfl (bF (bp k16)) rfl<|al rfl rfl rfl (bF (bp k16)) rfl<|al rfl rfl rfl (bF (bp k16)) rfl<|al rfl rfl rfl (bF (bp k16)) rfl<|al rfl rfl rfl (bF (bp k16)) rfl<|aa (aT rfl (bp k16) rfl) rfl<|ad<|cQ true H17 (.cons rfl (.cons rfl (.cons rfl (.cons rfl (.nil _))))) (.cons_cons _ .slnil))) (fun s1 _ H2=>aD rfl H2 (fun k3 H4=>ag<|ab<|aa (bo (vs:=[]) rfl mL) rfl<|aj (bc (k:=0) (vs:=(aq.C (⟨0,0,0⟩:aq))) dT rfl rfl rfl rfl rfl rfl rfl<|aa (ae rfl) rfl<|ad<|an<|av (cf rfl (bQ (k:=0) rfl fF rfl rfl) (aE rfl)) ⟨((⟨0,0,0⟩:aq),false),rfl,H4⟩)) (fun k3 H4=>au<|ag<|ab<|aa (ac rfl) rfl<|aa (ac rfl) rfl<|bP H4 fun q26 e5 H6=>aa (aU (aX rfl (ay e5))) rfl<|aa (am kr rfl) rfl<|il H6 fun h7 H8=>aa (bJ rV rfl rfl h7) rfl<|aj (gL H8 fF rfl (fun _=>rfl) rfl fun x29 H9=>aj (bc (k:=0) (vs:=(aq.C x29)) dT rfl rfl rfl rfl rfl rfl rfl<|aa (ae rfl) rfl<|ad<|an<|av (cf rfl (bQ (k:=0) rfl fF rfl rfl) (aE rfl)) ⟨(x29,true),rfl,H9⟩)))))
def oW (a0:Ptr) (a1:Int) (a2:aq) (K:Int→Hp→Prop):Hp→Prop:=br a0.isNone ( K 10) ( br (((!(gy a2).2) || (a2.fRights == 0)) || (!(cJ a1))) ( K 2) ( nn a0 fun q30=>gd (0 ≤ a1∧a1 < 8)<|ld (q30.1,q30.2 + 0 + Int.toNat a1 * 3 + 2) (cI .i64) fun x34=>br (x34 != 0) ( K 4) ( st (q30.1,q30.2 + 0 + Int.toNat a1 * 3) (aq.C a2)<|K 0)))
set_option maxRecDepth 20000 in
theorem vZ (a0:Ptr) (a1:Int) (a2:aq) {K:Int→Hp→Prop} {h:Hp} (H:oW a0 a1 a2 K h):Ct Tryz.prog ef #[(pv a0),(.int .i64 a1),(.agg (aq.C a2).toArray)] h fun v h'=>∃ r,v = bw r∧K r h':=aC [(pv a0),(.int .i64 a1),(.agg (aq.C a2).toArray)] Tryz.func97 rfl rfl rfl fun _=>ag<|ab<|aj (cH (l:=(aq.C a2)) rfl rfl rfl fun b5=>aa (ae rfl) rfl<|ad<|ag<|ag<|ab<|aa (ac rfl) rfl<|aa (ct Tryz.underlying133 rfl) rfl<|ad<|aD rfl H (fun k1 H2=>ag<|ab<|aa (ae rfl) rfl<|ad<|an<|av (az rfl (aE rfl)) ⟨10,rfl,H2⟩) (fun k1 H2=>au<|ag<|ag<|ab<|bz (bO (k:=0) fF rfl rfl rfl rfl) rfl<|aj (cL (vs:=[(.agg (aq.C a2).toArray)]) (bI (ct_pte_Put a2 _)) en_139 rfl rfl<|aa (ac rfl) rfl<|aa (ap rfl rfl) rfl<|aa (ap rfl rfl) rfl<|aa (ae rfl) rfl<|aa (ae rfl) rfl<|ad<|ag<|ab<|aa (ac rfl) rfl<|aa (cw rfl) rfl<|aa (ac rfl) rfl<|ai rfl rfl rfl (aS _) (fun g3=>wv (am eM rfl)) rfl<|ai rfl rfl rfl (aS _) (fun g4=>cv (bq (k:=0) bj (aK rfl g4) rfl rfl)) rfl<|ai rfl rfl rfl (aS _) (fun g5=>wv (cc (aK rfl g5) rfl)) rfl<|aa (du rfl rfl) rfl<|aa (ac rfl) rfl<|ai rfl rfl rfl (aS _) (fun g6=>wv (ac rfl)) rfl<|de (vs:=[(.int .i64 a1)]) rfl rfl rfl (aS _) (fun g7=>(bI (ul a1 _))) en_140 (fun g7=>(aY (aK rfl g7) bU)) rfl<|ai rfl rfl rfl (aS _) (fun g8=>wv (cw (aK rfl g8))) rfl<|aa (du rfl rfl) rfl<|ad<|aD rfl H2 (fun k9 H10=>ag<|ab<|aa (ae rfl) rfl<|ad<|an<|av (az rfl (aE rfl)) ⟨2,rfl,H10⟩) (fun k9 H10=>au<|ag<|ag<|ab<|aa (ac rfl) rfl<|aa (ac rfl) rfl<|bP H10 fun q30 e11 H12=>aa (aU (aX rfl (ay e11))) rfl<|aa (am kr rfl) rfl<|il H12 fun h13 H14=>aa (bJ rV rfl rfl h13) rfl<|aa (am eM rfl) rfl<|aj (bf H14 bj rfl (fun _=>rfl) rfl fun x34 H15=>aa (pA rfl rfl) rfl<|ad<|aD rfl H15 (fun k16 H17=>ag<|ab<|aa (ae rfl) rfl<|ad<|an<|av (az rfl (aE rfl)) ⟨4,rfl,H17⟩) (fun k16 H17=>au<|ag<|bE (n:=7) [bx b5 74 (aq.C a2)] cy rfl (.cons_cons _ .slnil)<|ah (i:=0) (fun _ _ _ _=>id) rfl (by kernel_rfl) rfl (ve (ac (aX rfl (ay e11))))<|ah (i:=1) (fun _ _ _ _=>id) rfl (by kernel_rfl) rfl (ve (ac rfl))<|ah (i:=2) (fun _ _ _ _=>id) rfl (by kernel_rfl) rfl (eu (k:=0) fF rfl rfl rfl rfl)<|ah (i:=3) (fun _ _ _ _=>id) rfl (by kernel_rfl) rfl (ve (aU rfl))<|ah (i:=4) (fun _ _ _ _=>id) rfl (by kernel_rfl) rfl (ve (am kr rfl))<|ah (i:=5) (fun _ _ _ _=>id) rfl (by kernel_rfl) rfl (ve (bJ rV rfl rfl h13))<|bg (i:=6) (by kernel_rfl) (aJ rfl rfl (dw dT rfl rfl rfl rfl rfl H17 fun _ H18=>⟨(.cons_cons _ .slnil),bd (by kernel_rfl)<|ag<|ab<|aa (ae rfl) rfl<|ad<|an<|av (az rfl (aE rfl)) ⟨0,rfl,H18⟩⟩))))))))
def oV (a0:Ptr) (a1:Int) (K:(aq × Int)→Hp→Prop):Hp→Prop:=br a0.isNone ( K ((⟨0,0,0⟩:aq),10)) ( br (!(cJ a1)) ( K ((⟨0,0,0⟩:aq),2)) ( nn a0 fun q19=>gd (0 ≤ a1∧a1 < 8)<|ld (q19.1,q19.2 + 0 + Int.toNat a1 * 3 + 2) (cI .i64) fun x23=>br (x23 == 0) ( K ((⟨0,0,0⟩:aq),3)) ( ld (q19.1,q19.2 + 0 + Int.toNat a1 * 3) aq.C fun x31=>st (q19.1,q19.2 + 0 + Int.toNat a1 * 3) (aq.C (⟨0,0,0⟩:aq))<|K (x31,0))))
set_option maxRecDepth 20000 in
theorem vY (a0:Ptr) (a1:Int) {K:(aq × Int)→Hp→Prop} {h:Hp} (H:oV a0 a1 K h):Ct Tryz.prog iS #[(pv a0),(.int .i64 a1)] h fun v h'=>∃ r,v = jp r∧K r h':=aC [(pv a0),(.int .i64 a1)] Tryz.func113 rfl rfl rfl fun _=>ag<|ab<|aj (bb (l:=(aq.C (⟨0,0,0⟩:aq))) fU rfl rfl fun b4=>aa (ae rfl) rfl<|ad<|ag<|aF<|ag<|ab<|aa (ac rfl) rfl<|aa (ct Tryz.underlying133 rfl) rfl<|aa (ae rfl) rfl<|ad<|aD rfl H (fun k1 H2=>ag<|ab<|aa (bo (vs:=[]) rfl mL) rfl<|aj (bc (k:=0) (vs:=(aq.C (⟨0,0,0⟩:aq))) dT rfl rfl rfl rfl rfl rfl rfl<|aa (ae rfl) rfl<|ad<|an<|av (cf rfl (bQ (k:=0) rfl fF rfl rfl) (aE rfl)) ⟨((⟨0,0,0⟩:aq),10),rfl,H2⟩)) (fun k1 H2=>ag<|ab<|aa (ac rfl) rfl<|aj (cL (vs:=[(.int .i64 a1)]) (bI (ul a1 _)) en_140 rfl rfl<|aa (cw rfl) rfl<|aa (ae rfl) rfl<|ad<|aD rfl H2 (fun k3 H4=>ag<|ab<|aa (bo (vs:=[]) rfl mL) rfl<|aj (bc (k:=0) (vs:=(aq.C (⟨0,0,0⟩:aq))) dT rfl rfl rfl rfl rfl rfl rfl<|aa (ae rfl) rfl<|ad<|an<|av (cf rfl (bQ (k:=0) rfl fF rfl rfl) (aE rfl)) ⟨((⟨0,0,0⟩:aq),2),rfl,H4⟩)) (fun k3 H4=>ag<|ab<|aa (ac rfl) rfl<|aa (ac rfl) rfl<|bP H4 fun q19 e5 H6=>aa (aU (aX rfl (ay e5))) rfl<|aa (am kr rfl) rfl<|il H6 fun h7 H8=>aa (bJ rV rfl rfl h7) rfl<|aa (am eM rfl) rfl<|aj (bf H8 bj rfl (fun _=>rfl) rfl fun x23 H9=>aa (cc rfl rfl) rfl<|aa (ae rfl) rfl<|ad<|aD rfl H9 (fun k10 H11=>ag<|ab<|aa (bo (vs:=[]) rfl mL) rfl<|aj (bc (k:=0) (vs:=(aq.C (⟨0,0,0⟩:aq))) dT rfl rfl rfl rfl rfl rfl rfl<|aa (ae rfl) rfl<|ad<|an<|av (cf rfl (bQ (k:=0) rfl fF rfl rfl) (aE rfl)) ⟨((⟨0,0,0⟩:aq),3),rfl,H11⟩)) (fun k10 H11=>au<|ag<|ab<|aa (ac (aX rfl (ay e5))) rfl<|aa (ac rfl) rfl<|aa (aU rfl) rfl<|aa (am kr rfl) rfl<|aa (bJ rV rfl rfl h7) rfl<|aj (gL H11 fF rfl (fun _=>rfl) rfl fun x31 H12=>aj (bb (l:=(aq.C (⟨0,0,0⟩:aq))) fU rfl rfl fun b6=>aj (bc (k:=0) (vs:=(aq.C x31)) dT rfl rfl rfl rfl rfl rfl rfl<|ad<|ag<|ab<|aa (ac (aX rfl (ay e5))) rfl<|aa (ac rfl) rfl<|aa (bo (vs:=[]) rfl mL) rfl<|aa (aU rfl) rfl<|aa (am kr rfl) rfl<|aa (bJ rV rfl rfl h7) rfl<|aj (dw dT rfl rfl rfl rfl rfl H12 fun _ H13=>ad<|ag<|ab<|bz (bO (k:=0) fF rfl rfl rfl rfl) rfl<|aj (bc (k:=1) (vs:=(aq.C x31)) dT rfl rfl rfl rfl rfl rfl rfl<|aa (ae rfl) rfl<|ad<|an<|av (cf rfl (bQ (k:=1) rfl fF rfl rfl) (aE rfl)) ⟨(x31,0),rfl,H13⟩)))))))))))
def nT (a1:Int) (K:Sl→Hp→Prop) (v13:(List Value)) (Rec8:(Sl × Int)→Hp→Prop) (s7:Sl × Int):Hp→Prop:=br (decide (s7.2 < 8)) ( hpv Tryz.prog (Instr.index tC (.agg v13.toArray) (.int .i64 s7.2)) vD fun (v17:aq)=>br ((v17.fRights != 0) && (v17.fSlot == a1)) ( hpv Tryz.prog (Instr.buildSlice dN 1 #[(0,(.int .i64 s7.2))]) cG fun (v29:Sl)=>hpv Tryz.prog (Builtin.append_ #[dN,dN] dN #[(sv s7.1),(sv v29)]) cG fun (v30:Sl)=>Rec8 (v30,(IntKind.i64.wrap (s7.2 + 1)))) ( Rec8 (s7.1,(IntKind.i64.wrap (s7.2 + 1))))) ( K s7.1)
def tD (a0:Ptr) (a1:Int) (K:Sl→Hp→Prop):Hp→Prop:=br a0.isNone ( K (⟨none,0,0,none⟩:Sl)) ( nn a0 fun q11=>hpv Tryz.prog (Instr.loadAt tC (.pointer (some ⟨q11.1,q11.2 + 0,none⟩))) encL fun (v13:(List Value))=>Lp (nT a1 K v13) ((⟨none,0,0,none⟩:Sl),0))
set_option maxRecDepth 20000 in
theorem sim_table_Table_By (a0:Ptr) (a1:Int) {K:Sl→Hp→Prop} {h:Hp} (H:tD a0 a1 K h):Ct Tryz.prog lJ #[(pv a0),(.int .i64 a1)] h fun v h'=>∃ r,v = cG r∧K r h':=aC [(pv a0),(.int .i64 a1)] Tryz.func159 rfl rfl rfl fun _=>ag<|ab<|aa (ae rfl) rfl<|ad<|ag<|ag<|ab<|aa (ac rfl) rfl<|aa (ct Tryz.underlying133 rfl) rfl<|ad<|aD rfl H (fun k1 H2=>ag<|ab<|aa (ae rfl) rfl<|ad<|an<|av (az rfl (aE rfl)) ⟨(⟨none,0,0,none⟩:Sl),rfl,H2⟩) (fun k1 H2=>au<|ag<|ab<|aa (ae rfl) rfl<|ad<|ag<|ag<|ab<|aa (ac rfl) rfl<|bP H2 fun q11 e3 H4=>aa (aU (aX rfl (ay e3))) rfl<|aa (am kr rfl) rfl<|aj (be H4 (x_load rfl) rfl fun v13 _ H6=>aa (ac rfl) rfl<|ad<|aF<|bS (step:=nT a1 K v13) (fun s7=>[(1,(.int .i64 a1)),(5,(sv s7.1)),(13,(.agg v13.toArray)),(14,(.int .i64 s7.2))]) (fun s7=>[]) H6 (.cons rfl (.cons rfl (.cons rfl (.cons rfl (.nil _))))) .slnil (fun Rec8 s7 _ H9=>ag<|ab<|aa (cA rfl rfl) rfl<|ad<|ag<|aD rfl H9 (fun k10 H11=>au<|ag<|aF<|ag<|ab<|aa (ac rfl) rfl<|aj (be H11 (x_index rfl rfl) rfl fun v17 _ H12=>aj (bb (l:=(aq.C (⟨0,0,0⟩:aq))) fU rfl rfl fun b7=>aa (ae rfl) rfl<|aj (bc (k:=0) (vs:=(aq.C v17)) dT rfl rfl rfl rfl rfl rfl rfl<|ad<|ag<|ab<|aa (am eM rfl) rfl<|bz (bq (k:=0) bj rfl rfl rfl) rfl<|aa (pA rfl rfl) rfl<|aa (ac rfl) rfl<|ai rfl rfl rfl (aB _) (fun g13=>wv (am ta rfl)) rfl<|ai rfl rfl rfl (aB _) (fun g14=>cv (bq (k:=0) bj (aK rfl g14) rfl rfl)) rfl<|ai rfl rfl rfl (aB _) (fun g15=>wv (ac rfl)) rfl<|ai rfl rfl rfl (aB _) (fun g16=>wv (cc (aK rfl g16) (aK rfl g16))) rfl<|aa (bX rfl rfl) rfl<|ad<|aD rfl H12 (fun k17 H18=>ab<|aa (ac rfl) rfl<|aa (ac rfl) rfl<|aj (be H18 (bK (vs:=[(.int .i64 s7.2)]) rfl) rfl fun v29 _ H19=>aj (be H19 (dM rfl rfl) rfl fun v30 _ H20=>aa (ae rfl) rfl<|ad<|ab<|aa (bM rfl rfl) rfl<|aa (ac rfl) rfl<|ad<|cW (v30,(IntKind.i64.wrap (s7.2 + 1))) H20 (.cons rfl (.cons rfl (.cons rfl (.cons rfl (.nil _))))) (.cons _ .slnil)))) (fun k17 H18=>au<|ab<|aa (bM rfl rfl) rfl<|aa (ac rfl) rfl<|ad<|cW (s7.1,(IntKind.i64.wrap (s7.2 + 1))) H18 (.cons rfl (.cons rfl (.cons rfl (.cons rfl (.nil _))))) (.cons _ .slnil)))))) (fun k10 H11=>bD<|ag<|ab<|aa (ac rfl) rfl<|aa (ae rfl) rfl<|ad<|an<|av (az rfl (aE rfl)) ⟨s7.1,rfl,H11⟩))))
def nZ (a0:Ptr) (a1:Int) (a2:Int) (K:Int→Hp→Prop):Hp→Prop:=br a0.isNone ( K 10) ( br ((!(cJ a1)) || (!(cM a2))) ( K 2) ( nn a0 fun q22=>gd (0 ≤ a1∧a1 < 8)<|ld (q22.1,q22.2 + 0 + Int.toNat a1 * 3 + 2) (cI .i64) fun x26=>br (x26 == 0) ( K 3) ( st (q22.1,q22.2 + 0 + Int.toNat a1 * 3 + 2) [.int .i64 a2]<|K 0)))
set_option maxRecDepth 20000 in
theorem uI (a0:Ptr) (a1:Int) (a2:Int) {K:Int→Hp→Prop} {h:Hp} (H:nZ a0 a1 a2 K h):Ct Tryz.prog ky #[(pv a0),(.int .i64 a1),(.int .i64 a2)] h fun v h'=>∃ r,v = bw r∧K r h':=aC [(pv a0),(.int .i64 a1),(.int .i64 a2)] Tryz.func161 rfl rfl rfl fun _=>ag<|ab<|aa (ae rfl) rfl<|ad<|ag<|aF<|ag<|ab<|aa (ac rfl) rfl<|aa (ct Tryz.underlying133 rfl) rfl<|aa (ae rfl) rfl<|ad<|aD rfl H (fun k1 H2=>ag<|ab<|aa (ae rfl) rfl<|ad<|an<|av (az rfl (aE rfl)) ⟨10,rfl,H2⟩) (fun k1 H2=>ag<|ab<|aa (ac rfl) rfl<|aj (cL (vs:=[(.int .i64 a1)]) (bI (ul a1 _)) en_140 rfl rfl<|aa (cw rfl) rfl<|aa (ac rfl) rfl<|ai rfl rfl rfl (aS _) (fun g3=>wv (ac rfl)) rfl<|de (vs:=[(.int .i64 a2)]) rfl rfl rfl (aS _) (fun g4=>(bI (pW a2 _))) en_150 (fun g4=>(aY (aK rfl g4) bU)) rfl<|ai rfl rfl rfl (aS _) (fun g5=>wv (cw (aK rfl g5))) rfl<|aa (du rfl rfl) rfl<|aa (ae rfl) rfl<|ad<|aD rfl H2 (fun k6 H7=>ag<|ab<|aa (ae rfl) rfl<|ad<|an<|av (az rfl (aE rfl)) ⟨2,rfl,H7⟩) (fun k6 H7=>ag<|ab<|aa (ac rfl) rfl<|aa (ac rfl) rfl<|bP H7 fun q22 e8 H9=>aa (aU (aX rfl (ay e8))) rfl<|aa (am kr rfl) rfl<|il H9 fun h10 H11=>aa (bJ rV rfl rfl h10) rfl<|aa (am eM rfl) rfl<|aj (bf H11 bj rfl (fun _=>rfl) rfl fun x26 H12=>aa (cc rfl rfl) rfl<|aa (ae rfl) rfl<|ad<|aD rfl H12 (fun k13 H14=>ag<|ab<|aa (ae rfl) rfl<|ad<|an<|av (az rfl (aE rfl)) ⟨3,rfl,H14⟩) (fun k13 H14=>au<|ag<|ab<|aa (ac (aX rfl (ay e8))) rfl<|aa (ac rfl) rfl<|aa (ac rfl) rfl<|aa (aU rfl) rfl<|aa (am kr rfl) rfl<|aa (bJ rV rfl rfl h10) rfl<|aa (am eM rfl) rfl<|aj (dw px rfl rfl rfl rfl rfl H14 fun _ H15=>ad<|ag<|ab<|aa (ae rfl) rfl<|ad<|an<|av (az rfl (aE rfl)) ⟨0,rfl,H15⟩))))))
end Go.Proofs.YtniiiakkdoiaiaaGreatDoor
namespace Go.Proofs.YtniiiakkdoiaiaaGreatDoor
open Go Mb
abbrev Pte:=aq
theorem jm (p:Pte):p.C.length = 3:=rfl
abbrev eD:Pte:=⟨0,0,0⟩
def da (x:Ptr) (ps:List Pte):As:=fun h=>∃ b:Nat,(x = some (b,0)∧ps.length = 8)∧aQ [blk b km ([]++(ps.flatMap aq.C++[]))] h
theorem table_op {x:Ptr} {ps:List Pte} {l:List As} {h:Hp} (s0:aQ (da x ps::l) h):∃ b,x = some (b,0)∧ps.length = 8∧aQ (blk b km ([]++(ps.flatMap aq.C++[]))::l) h:=by
  obtain ⟨b,⟨hx,hb⟩,st⟩:=op_ s0
  exact ⟨b,hx,hb,st⟩
theorem iJ {b:Nat} {ps:List Pte} {l:List As} {h:Hp} (hb:ps.length = 8) (st:aQ (blk b km ([]++(ps.flatMap aq.C++[]))::l) h):aQ (da (some (b,0)) ps::l) h:=cl_ b ⟨rfl,hb⟩ st
namespace Table
def at_ (ps:List Pte) (i:Int):Pte:=ps.getD i.toNat eD
def get (ps:List Pte) (i:Int):Pte × Bool:=if cJ i = true∧(at_ ps i).fRights ≠ 0 then (at_ ps i,true) else (eD,false)
def insert (ps:List Pte) (i:Int) (p:Pte):Int × List Pte :=
  if (gy p).2 = false∨p.fRights = 0∨cJ i = false then (2,ps) else if (at_ ps i).fRights ≠ 0 then (4,ps) else (0,ps.set i.toNat p)
def protect (ps:List Pte) (i r:Int):Int × List Pte :=
  if cJ i = false∨cM r = false then (2,ps) else if (at_ ps i).fRights = 0 then (3,ps) else (0,ps.set i.toNat { at_ ps i with fRights:=r })
def remove (ps:List Pte) (i:Int):(Pte × Int) × List Pte :=
  if cJ i = false then ((eD,2),ps) else if (at_ ps i).fRights = 0 then ((eD,3),ps) else ((at_ ps i,0),ps.set i.toNat eD)
def byFrom (s:Int):List Pte→Int→List Int
  | [],_=>[]
  | p::ps,i=>if p.fRights ≠ 0∧p.fSlot = s then i::byFrom s ps (i + 1) else byFrom s ps (i + 1)
def by_ (ps:List Pte) (s:Int):List Int:=byFrom s ps 0
end Table
theorem table_is {i:Int} (h:cJ i = true):∃ n:Nat,i = n∧n < 8:=by
  unfold cJ at h
  simp at h
  exact ⟨i.toNat,by omega,by omega⟩
theorem table_new_run (K:Value→Hp→Prop) (h:Hp):hp Tryz.prog (Instr.build km #[]) K h = K (.agg ((List.replicate 8 eD).flatMap aq.C).toArray) h:=by kernel_rfl
theorem nV:Sp Tryz.prog lb [] ip [] (fun r=>aQ [da r (List.replicate 8 eD)]):=by
  intro h st
  refine sim_table_New ?_
  unfold sh_table_New
  refine ⟨?_⟩
  rw [table_new_run]
  refine ⟨_,rfl,?_⟩
  refine oT st fun b h' s1=>?_
  exact iJ rfl s1
theorem ke (x:Ptr) (ps:List Pte) (i:Int) (p:Pte):Sp Tryz.prog ef [pv x,.int .i64 i,.agg p.C.toArray] bw [da x ps] (fun r=>pa_ (r = (Table.insert ps i p).1) [da x (Table.insert ps i p).2]):=by
  intro h s0
  obtain ⟨b,rfl,hb,st⟩:=table_op s0
  refine vZ _ _ _ ?_
  unfold oW
  refine dv rfl ?_
  refine bk (fun k=>?_) (fun k=>?_)
  · have k':(gy p).2 = false∨p.fRights = 0∨cJ i = false:=by simpa [or_assoc] using k
    have e:Table.insert ps i p = (2,ps):=if_pos k'
    rw [e]
    exact bh rfl (iJ hb st)
  · have k':¬ ((gy p).2 = false∨p.fRights = 0∨cJ i = false):=by simp at k; simp [k]
    obtain ⟨n,rfl,hn⟩:=table_is (i:=i) (by simp at k'; exact k'.2.2)
    have hn':n < ps.length:=by omega
    have hat:Table.at_ ps n = ps[n]:=by simp [Table.at_,hn']
    refine cC ⟨⟨by omega,by omega⟩,?_⟩
    refine ld_a (j:=0) (i:=n) (k:=2) ps[n].fRights jm st rfl (by simp) (aL hn') (c1 rfl rfl) ?_
    refine bk (fun k2=>?_) (fun k2=>?_)
    · have k2':(Table.at_ ps n).fRights ≠ 0:=by rw [hat]; simpa using k2
      have e:Table.insert ps n p = (4,ps):=by unfold Table.insert; rw [if_neg k',if_pos k2']
      rw [e]
      exact bh rfl (iJ hb st)
    · have k2':¬ (Table.at_ ps n).fRights ≠ 0:=by rw [hat]; simpa using k2
      have e:Table.insert ps n p = (0,ps.set n p):=by unfold Table.insert; rw [if_neg k',if_neg k2']; rfl
      rw [e]
      refine st_a (j:=0) (i:=n) (k:=0) p jm st rfl (by simp) (aL hn') (by simp [jm]) rfl fun h2 s2=>?_
      exact bh rfl (iJ (by simpa using hb) s2)
theorem sp_table_Protect (x:Ptr) (ps:List Pte) (i r:Int):Sp Tryz.prog ky [pv x,.int .i64 i,.int .i64 r] bw [da x ps] (fun v=>pa_ (v = (Table.protect ps i r).1) [da x (Table.protect ps i r).2]):=by
  intro h s0
  obtain ⟨b,rfl,hb,st⟩:=table_op s0
  refine uI _ _ _ ?_
  unfold nZ
  refine dv rfl ?_
  refine bk (fun k=>?_) (fun k=>?_)
  · have k':cJ i = false∨cM r = false:=by simpa using k
    have e:Table.protect ps i r = (2,ps):=if_pos k'
    rw [e]
    exact bh rfl (iJ hb st)
  · have k':¬ (cJ i = false∨cM r = false):=by simp at k; simp [k]
    obtain ⟨n,rfl,hn⟩:=table_is (i:=i) (by simp at k'; exact k'.1)
    have hn':n < ps.length:=by omega
    have hat:Table.at_ ps n = ps[n]:=by simp [Table.at_,hn']
    refine cC ⟨⟨by omega,by omega⟩,?_⟩
    refine ld_a (j:=0) (i:=n) (k:=2) ps[n].fRights jm st rfl (by simp) (aL hn') (c1 rfl rfl) ?_
    refine bk (fun k2=>?_) (fun k2=>?_)
    · have k2':(Table.at_ ps n).fRights = 0:=by rw [hat]; simpa using k2
      have e:Table.protect ps n r = (3,ps):=by unfold Table.protect; rw [if_neg k',if_pos k2']
      rw [e]
      exact bh rfl (iJ hb st)
    · have k2':¬ (Table.at_ ps n).fRights = 0:=by rw [hat]; simpa using k2
      have e:Table.protect ps n r = (0,ps.set n { ps[n] with fRights:=r }):=by unfold Table.protect; rw [if_neg k',if_neg k2',hat]; rfl
      rw [e]
      refine st_a (j:=0) (i:=n) (k:=2) { ps[n] with fRights:=r } jm st rfl (by simp) (aL hn') (by simp) rfl fun h2 s2=>?_
      exact bh rfl (iJ (by simpa using hb) s2)
theorem sp_table_Remove (x:Ptr) (ps:List Pte) (i:Int):Sp Tryz.prog iS [pv x,.int .i64 i] jp [da x ps] (fun v=>pa_ (v = (Table.remove ps i).1) [da x (Table.remove ps i).2]):=by
  intro h s0
  obtain ⟨b,rfl,hb,st⟩:=table_op s0
  refine vY _ _ ?_
  unfold oV
  refine dv rfl ?_
  refine bk (fun k=>?_) (fun k=>?_)
  · have k':cJ i = false:=by simpa using k
    have e:Table.remove ps i = ((eD,2),ps):=if_pos k'
    rw [e]
    exact bh rfl (iJ hb st)
  · have k':¬ (cJ i = false):=by simp at k; simp [k]
    obtain ⟨n,rfl,hn⟩:=table_is (i:=i) (by simp at k'; exact k')
    have hn':n < ps.length:=by omega
    have hat:Table.at_ ps n = ps[n]:=by simp [Table.at_,hn']
    refine cC ⟨⟨by omega,by omega⟩,?_⟩
    refine ld_a (j:=0) (i:=n) (k:=2) ps[n].fRights jm st rfl (by simp) (aL hn') (c1 rfl rfl) ?_
    refine bk (fun k2=>?_) (fun k2=>?_)
    · have k2':(Table.at_ ps n).fRights = 0:=by rw [hat]; simpa using k2
      have e:Table.remove ps n = ((eD,3),ps):=by unfold Table.remove; rw [if_neg k',if_pos k2']
      rw [e]
      exact bh rfl (iJ hb st)
    · have k2':¬ (Table.at_ ps n).fRights = 0:=by rw [hat]; simpa using k2
      have e:Table.remove ps n = ((ps[n],0),ps.set n eD):=by unfold Table.remove; rw [if_neg k',if_neg k2',hat]; rfl
      rw [e]
      refine ld_a (j:=0) (i:=n) (k:=0) ps[n] jm st rfl (by simp) (aL hn') (by simp) ?_
      refine st_a (j:=0) (i:=n) (k:=0) eD jm st rfl (by simp) (aL hn') (by simp [jm]) rfl fun h2 s2=>?_
      exact bh rfl (iJ (by simpa using hb) s2)
theorem ny (x:Ptr) (ps:List Pte) (i:Int):Sp Tryz.prog eV [pv x,.int .i64 i] cF [da x ps] (fun v=>pa_ (v = Table.get ps i) [da x ps]):=by
  intro h s0
  obtain ⟨b,rfl,hb,st⟩:=table_op s0
  refine sim_table_Table_At _ _ ?_
  unfold tE
  refine bk (fun k=>?_) (fun k=>?_)
  · have k':cJ i = true:=by simpa using k
    obtain ⟨n,rfl,hn⟩:=table_is k'
    have hn':n < ps.length:=by omega
    have hat:Table.at_ ps n = ps[n]:=by simp [Table.at_,hn']
    refine cC ⟨⟨by omega,by omega⟩,?_⟩
    refine ld_a (j:=0) (i:=n) (k:=2) ps[n].fRights jm st rfl (by simp) (aL hn') (c1 rfl rfl) ?_
    unfold iK
    refine bk (fun k2=>?_) (fun k2=>?_)
    · have k2':(Table.at_ ps n).fRights = 0:=by rw [hat]; simpa using k2
      have e:Table.get ps n = (eD,false):=if_neg (fun hh=>hh.2 k2')
      rw [e]
      exact bh rfl (iJ hb st)
    · have k2':¬ (Table.at_ ps n).fRights = 0:=by rw [hat]; simpa using k2
      have e:Table.get ps n = (ps[n],true):=by unfold Table.get; rw [if_pos ⟨k',k2'⟩,hat]
      rw [e]
      refine cC ⟨⟨by omega,by omega⟩,?_⟩
      refine ld_a (j:=0) (i:=n) (k:=0) ps[n] jm st rfl (by simp) (aL hn') (by simp) ?_
      exact bh rfl (iJ hb st)
  · have k':¬ cJ i = true:=by simpa using k
    have e:Table.get ps i = (eD,false):=if_neg (fun hh=>k' hh.1)
    rw [e]
    unfold iK
    exact df rfl (bh rfl (iJ hb st))
theorem by_append (s:Int):∀ (ps:List Pte) (i:Int) (p:Pte),Table.byFrom s (ps++[p]) i = Table.byFrom s ps i++(if p.fRights ≠ 0∧p.fSlot = s then [i + ps.length] else [])
  | [],i,p=>by simp only [List.nil_append,Table.byFrom]; split <;> simp
  | y::ps,i,p=>by
    simp only [List.cons_append,Table.byFrom]
    rw [by_append s ps (i + 1) p]
    have e:i + 1 + (ps.length:Int) = i + ((y::ps).length:Int):=by simp; omega
    rw [e]
    split <;> simp
theorem by_len (s:Int):∀ (ps:List Pte) (i:Int),(Table.byFrom s ps i).length ≤ ps.length
  | [],_=>Nat.le_refl _
  | p::ps,i=>by unfold Table.byFrom; have:=by_len s ps (i + 1); split <;> simp <;> omega
theorem sp_table_By (x:Ptr) (ps:List Pte) (s:Int):Sp Tryz.prog lJ [pv x,.int .i64 s] cG [da x ps] (fun r=>aQ [vI r (Table.by_ ps s),da x ps]):=by
  intro h s0
  obtain ⟨b,rfl,hb,st⟩:=table_op s0
  refine sim_table_Table_By _ _ ?_
  unfold tD
  refine dv rfl (cC ?_)
  obtain ⟨h1,a,sub⟩:=ee (i:=0) rfl st
  have hfl:(ps.flatMap aq.C).length = 24:=by rw [eq jm,hb]
  refine loadAt_v (r:=ps.flatMap aq.C) (cs:=ps.flatMap aq.C) agn_8_api_Pte ⟨_,_,_,sub _ _ a,fun i v hv=>by simpa using hv⟩ hfl rfl ?_
  refine Lp.intro (fun (z:Sl × Int) h=>∃ n:Nat,z.2 = n∧n ≤ 8∧aQ [vI z.1 (Table.byFrom s (ps.take n) 0),da (some (b,0)) ps] h) (fun (z:Sl × Int) _=>8 - z.2.toNat) ⟨0,rfl,Nat.zero_le _,ft (iJ hb st)⟩ ?_
  rintro ⟨z,i⟩ h ⟨n,rfl,hn,s1⟩
  unfold nT
  refine bk (fun k=>?_) (fun k=>?_)
  · have hlt:n < 8:=by have:=of_decide_eq_true k; omega
    have hn':n < ps.length:=by omega
    have hw:IntKind.i64.wrap ((n:Int) + 1) = ((n + 1:Nat):Int):=by rw [cm (by omega) (by omega)]; rfl
    have ht:ps.take (n + 1) = ps.take n++[ps[n]]:=by simp
    have hlen:((ps.take n).length:Int) = n:=by simp; omega
    refine index_v (enc:=aq.C) (m:=3) arn_8_api_Pte age_8_api_Pte jm (fun _=>rfl) hb (aL hn') ?_
    refine bk (fun k2=>?_) (fun k2=>?_)
    · have k2':ps[n].fRights ≠ 0∧ps[n].fSlot = s:=by simpa using k2
      refine vC s1 (i:=0) rfl ?_ fun v h' s2=>?_
      · have:=by_len s (ps.take n) 0; simp at this ⊢; omega
      · rw [hw]
        refine ⟨⟨n + 1,rfl,hlt,?_⟩,by simp; omega⟩
        rw [ht,by_append,if_pos k2',hlen,Int.zero_add]
        exact s2
    · have k2':¬ (ps[n].fRights ≠ 0∧ps[n].fSlot = s):=by simpa using k2
      rw [hw]
      refine ⟨⟨n + 1,rfl,hlt,?_⟩,by simp; omega⟩
      rw [ht,by_append,if_neg k2',List.append_nil]
      exact s1
  · have:n = 8:=by have:=of_decide_eq_false k; omega
    subst this
    rw [show ps.take 8 = ps from by rw [← hb]; exact List.take_length] at s1
    exact s1
end Go.Proofs.YtniiiakkdoiaiaaGreatDoor
namespace Go.Proofs.YtniiiakkdoiaiaaGreatDoor
open Go
namespace Mb
def vj {σ α:Type} (A:σ→α→As):List σ→List α→List As
  | p::ps,x::xs=>A p x::vj A ps xs
  | _,_=>[]
section
variable {σ α:Type} {A:σ→α→As}
theorem objs_get:∀ {ps:List σ} {xs:List α} {i:Nat} {p:σ} {x:α},ps[i]? = some p→xs[i]? = some x→(vj A ps xs)[i]? = some (A p x)
  | [],_,_,_,_,h,_=>by simp at h
  | _::_,[],_,_,_,_,h=>by simp at h
  | p::ps,x::xs,0,_,_,h1,h2=>by simp at h1 h2; subst h1; subst h2; rfl
  | p::ps,x::xs,i + 1,_,_,h1,h2=>by simpa [vj] using objs_get (ps:=ps) (xs:=xs) (i:=i) (by simpa using h1) (by simpa using h2)
theorem objs_set:∀ {ps:List σ} {xs:List α} {i:Nat} {p:σ} {x:α},ps[i]? = some p→(vj A ps xs).set i (A p x) = vj A ps (xs.set i x)
  | [],_,_,_,_,h=>by simp at h
  | p::ps,[],i,_,_,_=>by simp [vj]
  | p::ps,y::xs,0,_,_,h=>by simp at h; subst h; rfl
  | p::ps,y::xs,i + 1,_,_,h=>by simp only [vj,List.set_cons_succ]; rw [objs_set (ps:=ps) (xs:=xs) (i:=i) (by simpa using h)]
theorem objs_set2:∀ {ps:List σ} {xs:List α} {i:Nat} {p:σ} {x:α},i < xs.length→(vj A ps xs).set i (A p x) = vj A (ps.set i p) (xs.set i x)
  | [],_,_,_,_,_=>by simp [vj]
  | p::ps,[],i,_,_,h=>by simp at h
  | p::ps,y::xs,0,_,_,_=>rfl
  | p::ps,y::xs,i + 1,_,_,h=>by simp only [vj,List.set_cons_succ]; rw [objs_set2 (ps:=ps) (xs:=xs) (i:=i) (by simpa using h)]
theorem objs_append (p:σ) (x:α):∀ {ps:List σ} {xs:List α},ps.length = xs.length→vj A (ps++[p]) (xs++[x]) = vj A ps xs++[A p x]
  | [],[],_=>rfl
  | [],_::_,h=>by simp at h
  | _::_,[],h=>by simp at h
  | a::ps,b::xs,h=>by simp only [List.cons_append,vj]; rw [objs_append p x (by simpa using h)]
theorem objs_len:∀ {ps:List σ} {xs:List α},ps.length = xs.length→(vj A ps xs).length = xs.length
  | [],[],_=>rfl
  | [],_::_,h=>by simp at h
  | _::_,[],h=>by simp at h
  | a::ps,b::xs,h=>by simp only [vj,List.length_cons]; rw [objs_len (by simpa using h)]
def all (A:σ→α→As) (ps:List σ) (xs:List α):As:=aQ (vj A ps xs)
def but (A:σ→α→As) (ps:List σ) (xs:List α) (i:Nat):As:=aQ ((vj A ps xs).eraseIdx i)
variable {l:List As} {h:Hp} {ps:List σ} {xs:List α}
theorem star_shut {m:List As} (s:aQ (m++l) h):aQ (aQ m::l) h:=by
  obtain ⟨h1,h2,d,e,s1,s2⟩:=eH.1 s
  exact ⟨h1,h2,d,e,s1,s2⟩
theorem iw {i:Nat} {p:σ} {x:α} (hp:ps[i]? = some p) (hx:xs[i]? = some x) (s:aQ (all A ps xs::l) h):aQ (A p x::but A ps xs i::l) h:=by
  obtain ⟨h1,h2,d,e,a,s'⟩:=s
  have:=gx (objs_get (A:=A) hp hx) a
  obtain ⟨h3,h4,d',e',a',s4⟩:=this
  subst e'
  obtain ⟨d1,d2⟩:=Dj.of_un_left d
  exact ⟨h3,un h4 h2,Dj.un_right d' d1,by rw [e,my],a',h4,h2,d2,rfl,s4,s'⟩
theorem uE {i:Nat} {p:σ} {y:α} (hp:ps[i]? = some p) (hi:i < xs.length) (hl:ps.length = xs.length) (s:aQ (A p y::but A ps xs i::l) h):aQ (all A ps (xs.set i y)::l) h:=by
  obtain ⟨h1,h2,d,e,a,h3,h4,d',e',b,s'⟩:=s
  subst e'
  obtain ⟨d1,d2⟩:=Dj.of_un_right d
  refine ⟨un h1 h3,h4,Dj.un_left d2 d',by rw [e,my],?_,s'⟩
  have:=eJ (A:=A p y) (l:=vj A ps xs) (i:=i) (by rw [objs_len hl]; exact hi) ⟨h1,h3,d1,rfl,a,b⟩
  rw [objs_set hp] at this
  exact this
theorem all_in2 {i:Nat} {p:σ} {y:α} (hi:i < xs.length) (hl:ps.length = xs.length) (s:aQ (A p y::but A ps xs i::l) h):aQ (all A (ps.set i p) (xs.set i y)::l) h:=by
  obtain ⟨h1,h2,d,e,a,h3,h4,d',e',b,s'⟩:=s
  subst e'
  obtain ⟨d1,d2⟩:=Dj.of_un_right d
  refine ⟨un h1 h3,h4,Dj.un_left d2 d',by rw [e,my],?_,s'⟩
  have:=eJ (A:=A p y) (l:=vj A ps xs) (i:=i) (by rw [objs_len hl]; exact hi) ⟨h1,h3,d1,rfl,a,b⟩
  rw [objs_set2 hi] at this
  exact this
theorem iM {α:Type} {xs:List α} {i:Nat} {x:α} (hx:xs[i]? = some x):xs.set i x = xs:=by
  apply List.ext_getElem?
  intro n
  rw [List.getElem?_set]
  by_cases e:i = n
  · subst e
    obtain ⟨h1,h2⟩:=List.getElem?_eq_some_iff.1 hx
    simp [h1,h2]
  · simp [e]
theorem qN {i:Nat} {p:σ} {x:α} (hp:ps[i]? = some p) (hx:xs[i]? = some x) (hl:ps.length = xs.length) (s:aQ (A p x::but A ps xs i::l) h):aQ (all A ps xs::l) h:=by
  have:=uE hp (List.getElem?_eq_some_iff.1 hx).1 hl s
  rwa [iM hx] at this
theorem all_nil:aQ l h→aQ (all A [] []::l) h:=fun s=>star_cons (fun _=>trivial) s
theorem all_push {p:σ} {x:α} (hl:ps.length = xs.length) (s:aQ (A p x::all A ps xs::l) h):aQ (all A (ps++[p]) (xs++[x])::l) h:=by
  refine star_shut ?_
  rw [objs_append p x hl]
  have s1:=ko (.swap _ _ _) s
  have s2:=dJ s1
  exact ko (by simp) s2
end
theorem so {A:As} {h:Hp} (a:A h):aQ [A] h:=⟨h,emp,Dj.emp_right _,(un_emp _).symm,a,trivial⟩
section
variable {P:Program} {l:List As} {h:Hp} {τ:Type} {f:FuncId} {args:List Value} {enc:τ→Value} {K:τ→Hp→Prop} {i:Nat} {A:As}
theorem bY {φ:τ→Prop} {A':τ→As} (c:Sp P f args enc [A] (fun r=>pa_ (φ r) [A' r])) (hi:l[i]? = some A) (s:aQ l h) (k:∀ r h',φ r→aQ (l.set i (A' r)) h'→K r h'):cl P f args enc K h:=by
  obtain ⟨h1,h2,d,rfl,a,s'⟩:=gx hi s
  refine (c h1 (so a)).frame_mono d rfl fun v h' ⟨r,hv,q⟩ dj=>⟨r,hv,?_⟩
  obtain ⟨g1,q⟩:=q
  refine k r _ g1 (eJ (List.getElem?_eq_some_iff.1 hi).1 ?_)
  exact nv (l:=[A' r]++l.eraseIdx i) (by rw [List.append_nil]; exact eH.2 ⟨h',h2,dj,rfl,q,s'⟩)
theorem tj {B A':τ→As} (c:Sp P f args enc [A] (fun r=>aQ [B r,A' r])) (hi:l[i]? = some A) (s:aQ l h) (k:∀ r h',aQ (B r::l.set i (A' r)) h'→K r h'):cl P f args enc K h:=by
  obtain ⟨h1,h2,d,rfl,a,s'⟩:=gx hi s
  refine (c h1 (so a)).frame_mono d rfl fun v h' ⟨r,hv,q⟩ dj=>⟨r,hv,k r _ ?_⟩
  have s1:aQ (B r::A' r::l.eraseIdx i) (un h' h2):=(eH (l:=[B r,A' r])).2 ⟨h',h2,dj,rfl,q,s'⟩
  obtain ⟨g1,g2,d2,e2,b,s2⟩:=s1
  exact ⟨g1,g2,d2,e2,b,eJ (List.getElem?_eq_some_iff.1 hi).1 s2⟩
theorem cl_p {φ:τ→Prop} {B A':τ→As} (c:Sp P f args enc [A] (fun r=>pa_ (φ r) [B r,A' r])) (hi:l[i]? = some A) (s:aQ l h) (k:∀ r h',φ r→aQ (B r::l.set i (A' r)) h'→K r h'):cl P f args enc K h:=by
  obtain ⟨h1,h2,d,rfl,a,s'⟩:=gx hi s
  refine (c h1 (so a)).frame_mono d rfl fun v h' ⟨r,hv,q⟩ dj=>⟨r,hv,?_⟩
  obtain ⟨g0,q⟩:=q
  refine k r _ g0 ?_
  have s1:aQ (B r::A' r::l.eraseIdx i) (un h' h2):=(eH (l:=[B r,A' r])).2 ⟨h',h2,dj,rfl,q,s'⟩
  obtain ⟨g1,g2,d2,e2,b,s2⟩:=s1
  exact ⟨g1,g2,d2,e2,b,eJ (List.getElem?_eq_some_iff.1 hi).1 s2⟩
theorem rT {φ:τ→Prop} (c:Sp P f args enc [] (fun r=>pa_ (φ r) [])) (s:aQ l h) (k:∀ r h',φ r→aQ l h'→K r h'):cl P f args enc K h :=
  cT [] c s rfl fun r h' s1=>by
    obtain ⟨f1,s2⟩:=bH.1 s1
    exact k r h' f1 s2
theorem ma {B:τ→As} (c:Sp P f args enc [] (fun r=>aQ [B r])) (s:aQ l h) (k:∀ r h',aQ (B r::l) h'→K r h'):cl P f args enc K h :=
  cT [] c s rfl fun r h' s1=>k r h' (dJ s1)
end
end Mb
end Go.Proofs.YtniiiakkdoiaiaaGreatDoor
namespace Go.Proofs.YtniiiakkdoiaiaaGreatDoor
open Go Mb
set_option linter.unusedVariables false
def sh_caps_New (a0:Int) (K:Ptr→Hp→Prop):Hp→Prop:=br ((decide (a0 < 1)) || (decide (a0 > 4))) ( K none) ( hpv Tryz.prog (Instr.makeSlice t_S_8_api_Cap (.int .i64 a0) (.int .i64 a0)) R_S_8_api_Cap fun (v10:Sl)=>nw nt (nQ.C (⟨v10⟩:nQ)) fun b12=>K (some (b12,0)))
set_option maxRecDepth 20000 in
theorem sim_caps_New (a0:Int) {K:Ptr→Hp→Prop} {h:Hp} (H:sh_caps_New a0 K h):Ct Tryz.prog wF #[(.int .i64 a0)] h fun v h'=>∃ r,v = rX r∧K r h':=aC [(.int .i64 a0)] Tryz.func92 rfl rfl rfl fun _=>ag<|ab<|aa (ae rfl) rfl<|ad<|ag<|ag<|ab<|aa (ac rfl) rfl<|aa (cA rfl rfl) rfl<|aa (ac rfl) rfl<|ai rfl rfl rfl (aS _) (fun g1=>wv (ac rfl)) rfl<|ai rfl rfl rfl (aS _) (fun g2=>wv (ql (aK rfl g2) rfl)) rfl<|aa (du rfl rfl) rfl<|ad<|aD rfl H (fun k3 H4=>ag<|ab<|aa (ae rfl) rfl<|ad<|an<|av (az rfl (aE rfl)) ⟨none,rfl,H4⟩) (fun k3 H4=>au<|ag<|ab<|aa (ac rfl) rfl<|aj (be H4 (jH rfl rfl) rfl fun v10 _ H5=>aa (bo rfl (build_186_0 v10)) rfl<|aj (hU rfl rfl rfl H5 fun b12 _ H6=>aa (ae rfl) rfl<|ad<|an<|av (az rfl (aE rfl)) ⟨(some (b12,0)),rfl,H6⟩)))
def sh_caps_Tree_is (a0:Ptr) (a1:Int) (a2:Int) (K:Bool→Hp→Prop):Hp→Prop:=br (decide (a1 ≥ 0)) ( nn a0 fun q12=>ld (q12.1,q12.2 + 0) cS fun x14=>K (((decide (a1 < (x14.len:Int))) && (decide (a2 ≥ 0))) && (decide (a2 < 8)))) ( K false)
set_option maxRecDepth 20000 in
theorem sim_caps_Tree_is (a0:Ptr) (a1:Int) (a2:Int) {K:Bool→Hp→Prop} {h:Hp} (H:sh_caps_Tree_is a0 a1 a2 K h):Ct Tryz.prog ie #[(pv a0),(.int .i64 a1),(.int .i64 a2)] h fun v h'=>∃ r,v = aG r∧K r h':=aC [(pv a0),(.int .i64 a1),(.int .i64 a2)] Tryz.func162 rfl rfl rfl fun _=>ag<|ab<|aa (ae rfl) rfl<|ad<|ag<|ab<|aa (ac rfl) rfl<|aa (hO rfl rfl) rfl<|aa (ac rfl) rfl<|ai rfl rfl rfl (aB _) (fun g1=>wv (ac rfl)) rfl<|ai rfl rfl rfl (aB _) (fun g2=>wv (ac rfl)) rfl<|bW H (fun k4 H5=>bP H5 fun q12 e6 H7=>aI rfl rfl rfl (congrArg Value.bool k4) (aN (wv (aU (aX (aK rfl k4) (ay e6)))) rfl<|aI rfl rfl rfl (congrArg Value.bool k4) (aN (wv (am hG rfl)) rfl<|aI rfl rfl rfl (congrArg Value.bool k4) (bf H7 pN rfl (fun _=>rfl) rfl fun x14 H8=>aI rfl rfl rfl (congrArg Value.bool k4) (aN (wv (dH rfl Tryz.underlying184 rfl)) rfl<|aI rfl rfl rfl (congrArg Value.bool k4) (aN (wv (cA (aK rfl k4) rfl)) rfl<|aa (aT rfl k4 rfl) rfl<|aa (ac rfl) rfl<|ai rfl rfl rfl (aB _) (fun g9=>wv (ac rfl)) rfl<|ai rfl rfl rfl (aB _) (fun g10=>wv (hO (aK rfl g10) rfl)) rfl<|aa (bX rfl rfl) rfl<|aa (ac rfl) rfl<|ai rfl rfl rfl (aB _) (fun g11=>wv (ac rfl)) rfl<|ai rfl rfl rfl (aB _) (fun g12=>wv (cA (aK rfl g12) rfl)) rfl<|aa (bX rfl rfl) rfl<|aa (ae rfl) rfl<|ad<|an<|av (az rfl (aE rfl)) ⟨(((decide (a1 < (x14.len:Int))) && (decide (a2 ≥ 0))) && (decide (a2 < 8))),rfl,H8⟩)))))) (fun k4 H5=>al rfl rfl rfl (aZ k4) rfl<|al rfl rfl rfl (aZ k4) rfl<|al rfl rfl rfl (aZ k4) rfl<|al rfl rfl rfl (aZ k4) rfl<|al rfl rfl rfl (aZ k4) rfl<|aa (ax rfl k4 rfl) rfl<|aa (ac rfl) rfl<|al rfl rfl rfl rfl rfl<|al rfl rfl rfl rfl rfl<|aa (ax rfl rfl rfl) rfl<|aa (ac rfl) rfl<|al rfl rfl rfl rfl rfl<|al rfl rfl rfl rfl rfl<|aa (ax rfl rfl rfl) rfl<|aa (ae rfl) rfl<|ad<|an<|av (az rfl (aE rfl)) ⟨false,rfl,H5⟩)
def iH (a0:Ptr) (a1:Int) (a2:Int) (K:(aH × Bool)→Hp→Prop) (s1:Bool):Hp→Prop:=br s1 ( K ((⟨0,0,0,0⟩:aH),false)) ( nn a0 fun q32=>ld (q32.1,q32.2 + 0) cS fun x34=>ix x34 a1 fun q37=>gd (0 ≤ a2∧a2 < 8)<|ld (q37.1,q37.2 + Int.toNat a1 * 32 + Int.toNat a2 * 4) aH.C fun x39=>K (x39,true))
def sh_caps_Tree_At (a0:Ptr) (a1:Int) (a2:Int) (K:(aH × Bool)→Hp→Prop):Hp→Prop:=br (!a0.isNone) ( cl Tryz.prog ie [(pv a0),(.int .i64 a1),(.int .i64 a2)] aG fun r14=>br (!(!r14)) ( nn a0 fun q19=>ld (q19.1,q19.2 + 0) cS fun x21=>ix x21 a1 fun q24=>gd (0 ≤ a2∧a2 < 8)<|ld (q24.1,q24.2 + Int.toNat a1 * 32 + Int.toNat a2 * 4 + 1) (cI .i64) fun x27=>iH a0 a1 a2 K (x27 == 0)) ( iH a0 a1 a2 K true)) ( iH a0 a1 a2 K true)
set_option maxRecDepth 20000 in
theorem sim_caps_Tree_At (a0:Ptr) (a1:Int) (a2:Int) {K:(aH × Bool)→Hp→Prop} {h:Hp} (H:sh_caps_Tree_At a0 a1 a2 K h):Ct Tryz.prog eo #[(pv a0),(.int .i64 a1),(.int .i64 a2)] h fun v h'=>∃ r,v = cR r∧K r h':=aC [(pv a0),(.int .i64 a1),(.int .i64 a2)] Tryz.func118 rfl rfl rfl fun _=>ag<|ab<|aj (bb (l:=(aH.C (⟨0,0,0,0⟩:aH))) ir rfl rfl fun b6=>aa (ae rfl) rfl<|ad<|ag<|eG (iH a0 a1 a2 K) (fun s1=>[(0,(pv a0)),(1,(.int .i64 a1)),(2,(.int .i64 a2)),(6,(.pointer (some ⟨b6,0,none⟩))),(29,(.bool s1))]) (fun s1=>[bx b6 70 (aH.C (⟨0,0,0,0⟩:aH))]) ( ab<|aa (ac rfl) rfl<|aa (ct Tryz.underlying128 rfl) rfl<|aa (ac rfl) rfl<|ai rfl rfl rfl (aS _) (fun g14=>wv (ac rfl)) rfl<|ai rfl rfl rfl (aS _) (fun g15=>wv (ac rfl)) rfl<|ai rfl rfl rfl (aS _) (fun g16=>wv (ac rfl)) rfl<|bW H (fun k18 H19=>aI rfl rfl rfl (congrArg Value.bool (bL k18)) (aA H19 en_162 (aY (aK rfl k18) (aY (aK rfl k18) (aY (aK rfl k18) bU))) rfl fun r14 _ H20=>aI rfl rfl rfl (congrArg Value.bool (bL k18)) (aN (wv (cw rfl)) rfl<|aa (ax rfl (bL k18) rfl) rfl<|aa (ac rfl) rfl<|ai rfl rfl rfl (aS _) (fun g21=>wv (ac rfl)) rfl<|bW H20 (fun k23 H24=>bP H24 fun q19 e25 H26=>aI rfl rfl rfl (congrArg Value.bool (bL k23)) (aN (wv (aU (aX (aK rfl k23) (ay e25)))) rfl<|aI rfl rfl rfl (congrArg Value.bool (bL k23)) (aN (wv (am hG rfl)) rfl<|aI rfl rfl rfl (congrArg Value.bool (bL k23)) (bf H26 pN rfl (fun _=>rfl) rfl fun x21 H27=>aI rfl rfl rfl (congrArg Value.bool (bL k23)) (aN (wv (ac rfl)) rfl<|aI rfl rfl rfl (congrArg Value.bool (bL k23)) (aN (wv (ac rfl)) rfl<|cu H27 fun q24 e28 h29 H30=>aI rfl rfl rfl (congrArg Value.bool (bL k23)) (aN (wv (bC nY (aX rfl (bm e28)) rfl h29)) rfl<|il H30 fun h31 H32=>aI rfl rfl rfl (congrArg Value.bool (bL k23)) (aN (wv (bJ qh rfl rfl h31)) rfl<|aI rfl rfl rfl (congrArg Value.bool (bL k23)) (aN (wv (am gJ rfl)) rfl<|aI rfl rfl rfl (congrArg Value.bool (bL k23)) (bf H32 bj rfl (fun _=>rfl) rfl fun x27 H33=>aI rfl rfl rfl (congrArg Value.bool (bL k23)) (aN (wv (cc rfl rfl)) rfl<|aa (ax rfl (bL k23) rfl) rfl<|ad<|cQ (x27 == 0) H33 (.cons rfl (.cons rfl (.cons rfl (.cons rfl (.cons rfl (.nil _)))))) (.cons_cons _ .slnil)))))))))))) (fun k23 H24=>al rfl rfl rfl (bF (bp k23)) rfl<|al rfl rfl rfl (bF (bp k23)) rfl<|al rfl rfl rfl (bF (bp k23)) rfl<|al rfl rfl rfl (bF (bp k23)) rfl<|al rfl rfl rfl (bF (bp k23)) rfl<|al rfl rfl rfl (bF (bp k23)) rfl<|al rfl rfl rfl (bF (bp k23)) rfl<|al rfl rfl rfl (bF (bp k23)) rfl<|al rfl rfl rfl (bF (bp k23)) rfl<|al rfl rfl rfl (bF (bp k23)) rfl<|aa (aT rfl (bp k23) rfl) rfl<|ad<|cQ true H24 (.cons rfl (.cons rfl (.cons rfl (.cons rfl (.cons rfl (.nil _)))))) (.cons_cons _ .slnil))))) (fun k18 H19=>al rfl rfl rfl (bF (bp k18)) rfl<|al rfl rfl rfl (bF (bp k18)) rfl<|aa (aT rfl (bp k18) rfl) rfl<|aa (ac rfl) rfl<|al rfl rfl rfl rfl rfl<|al rfl rfl rfl rfl rfl<|al rfl rfl rfl rfl rfl<|al rfl rfl rfl rfl rfl<|al rfl rfl rfl rfl rfl<|al rfl rfl rfl rfl rfl<|al rfl rfl rfl rfl rfl<|al rfl rfl rfl rfl rfl<|al rfl rfl rfl rfl rfl<|al rfl rfl rfl rfl rfl<|al rfl rfl rfl rfl rfl<|aa (aT rfl rfl rfl) rfl<|ad<|cQ true H19 (.cons rfl (.cons rfl (.cons rfl (.cons rfl (.cons rfl (.nil _)))))) (.cons_cons _ .slnil))) (fun s1 _ H2=>aD rfl H2 (fun k3 H4=>ag<|ab<|aa (bo (vs:=[]) rfl build_70) rfl<|aj (bc (k:=0) (vs:=(aH.C (⟨0,0,0,0⟩:aH))) gB rfl rfl rfl rfl rfl rfl rfl<|aa (ae rfl) rfl<|ad<|an<|av (cf rfl (bQ (k:=0) rfl ag_70 rfl rfl) (aE rfl)) ⟨((⟨0,0,0,0⟩:aH),false),rfl,H4⟩)) (fun k3 H4=>au<|ag<|ab<|aa (ac rfl) rfl<|bP H4 fun q32 e5 H6=>aa (aU (aX rfl (ay e5))) rfl<|aa (am hG rfl) rfl<|aj (bf H6 pN rfl (fun _=>rfl) rfl fun x34 H7=>aa (ac rfl) rfl<|aa (ac rfl) rfl<|cu H7 fun q37 e8 h9 H10=>aa (bC nY (aX rfl (bm e8)) rfl h9) rfl<|il H10 fun h11 H12=>aa (bJ qh rfl rfl h11) rfl<|aj (gL H12 ag_70 rfl (fun _=>rfl) rfl fun x39 H13=>aj (bc (k:=0) (vs:=(aH.C x39)) gB rfl rfl rfl rfl rfl rfl rfl<|aa (ae rfl) rfl<|ad<|an<|av (cf rfl (bQ (k:=0) rfl ag_70 rfl rfl) (aE rfl)) ⟨(x39,true),rfl,H13⟩))))))
def tX (a0:Ptr) (a1:Int) (a2:Int) (a3:Int) (K:Int→Hp→Prop):Hp→Prop:=br a0.isNone ( K 10) ( cl Tryz.prog ie [(pv a0),(.int .i64 a1),(.int .i64 a2)] aG fun r16=>br (((!r16) || (decide (a3 < 0))) || (decide (a3 ≥ 16))) ( K 2) ( nn a0 fun q28=>ld (q28.1,q28.2 + 0) cS fun x30=>ix x30 a1 fun q33=>gd (0 ≤ a2∧a2 < 8)<|ld (q33.1,q33.2 + Int.toNat a1 * 32 + Int.toNat a2 * 4 + 1) (cI .i64) fun x36=>br (x36 != 0) ( K 4) ( ld (q28.1,q28.2 + 0) cS fun x41=>ix x41 a1 fun q46=>st (q46.1,q46.2 + Int.toNat a1 * 32 + Int.toNat a2 * 4) (aH.C (⟨a3,3,(-1),0⟩:aH))<|K 0)))
set_option maxRecDepth 20000 in
theorem sim_caps_Tree_Root (a0:Ptr) (a1:Int) (a2:Int) (a3:Int) {K:Int→Hp→Prop} {h:Hp} (H:tX a0 a1 a2 a3 K h):Ct Tryz.prog jw #[(pv a0),(.int .i64 a1),(.int .i64 a2),(.int .i64 a3)] h fun v h'=>∃ r,v = bw r∧K r h':=aC [(pv a0),(.int .i64 a1),(.int .i64 a2),(.int .i64 a3)] Tryz.func126 rfl rfl rfl fun _=>ag<|ab<|aa (ae rfl) rfl<|ad<|ag<|aF<|ag<|ab<|aa (ac rfl) rfl<|aa (ct Tryz.underlying128 rfl) rfl<|aa (ae rfl) rfl<|ad<|aD rfl H (fun k1 H2=>ag<|ab<|aa (ae rfl) rfl<|ad<|an<|av (az rfl (aE rfl)) ⟨10,rfl,H2⟩) (fun k1 H2=>ag<|ab<|aa (ac rfl) rfl<|aa (ac rfl) rfl<|aa (ac rfl) rfl<|aj (aA H2 en_162 rfl rfl fun r16 _ H3=>aa (cw rfl) rfl<|aa (ac rfl) rfl<|ai rfl rfl rfl (aS _) (fun g4=>wv (ac rfl)) rfl<|ai rfl rfl rfl (aS _) (fun g5=>wv (cA (aK rfl g5) rfl)) rfl<|aa (du rfl rfl) rfl<|aa (ac rfl) rfl<|ai rfl rfl rfl (aS _) (fun g6=>wv (ac rfl)) rfl<|ai rfl rfl rfl (aS _) (fun g7=>wv (hO (aK rfl g7) rfl)) rfl<|aa (du rfl rfl) rfl<|aa (ae rfl) rfl<|ad<|aD rfl H3 (fun k8 H9=>ag<|ab<|aa (ae rfl) rfl<|ad<|an<|av (az rfl (aE rfl)) ⟨2,rfl,H9⟩) (fun k8 H9=>ag<|ab<|aa (ac rfl) rfl<|bP H9 fun q28 e10 H11=>aa (aU (aX rfl (ay e10))) rfl<|aa (am hG rfl) rfl<|aj (bf H11 pN rfl (fun _=>rfl) rfl fun x30 H12=>aa (ac rfl) rfl<|aa (ac rfl) rfl<|cu H12 fun q33 e13 h14 H15=>aa (bC nY (aX rfl (bm e13)) rfl h14) rfl<|il H15 fun h16 H17=>aa (bJ qh rfl rfl h16) rfl<|aa (am gJ rfl) rfl<|aj (bf H17 bj rfl (fun _=>rfl) rfl fun x36 H18=>aa (pA rfl rfl) rfl<|aa (ae rfl) rfl<|ad<|aD rfl H18 (fun k19 H20=>ag<|ab<|aa (ae rfl) rfl<|ad<|an<|av (az rfl (aE rfl)) ⟨4,rfl,H20⟩) (fun k19 H20=>au<|ag<|ab<|aa (ac (aX rfl (ay e10))) rfl<|aa (aU rfl) rfl<|aa (am hG rfl) rfl<|aj (bf H20 pN rfl (fun _=>rfl) rfl fun x41 H21=>aa (ac rfl) rfl<|aa (ac rfl) rfl<|aa (ac rfl) rfl<|aa (bo rfl (build_70_0_1_2 a3 3 (-1))) rfl<|cu H21 fun q46 e22 h23 H24=>aa (bC nY (aX rfl (bm e22)) rfl h23) rfl<|aa (bJ qh rfl rfl h16) rfl<|aj (dw gB rfl rfl rfl rfl rfl H24 fun _ H25=>ad<|ag<|ab<|aa (ae rfl) rfl<|ad<|an<|av (az rfl (aE rfl)) ⟨0,rfl,H25⟩))))))))
def ry (a0:Ptr) (a1:Int) (a2:Int) (a3:Int) (a4:Int) (a5:Int) (K:Int→Hp→Prop):Hp→Prop:=br a0.isNone ( K 10) ( cl Tryz.prog ie [(pv a0),(.int .i64 a1),(.int .i64 a2)] aG fun r19=>br (!(!r19)) ( cl Tryz.prog ie [(pv a0),(.int .i64 a3),(.int .i64 a4)] aG fun r25=>br ((!r25) || (!(cM a5))) ( K 2) ( nn a0 fun q34=>ld (q34.1,q34.2 + 0) cS fun x36=>ix x36 a1 fun q39=>gd (0 ≤ a2∧a2 < 8)<|ld (q39.1,q39.2 + Int.toNat a1 * 32 + Int.toNat a2 * 4) aH.C fun x41=>br (x41.fRights == 0) ( K 3) ( ld (q34.1,q34.2 + 0) cS fun x50=>ix x50 a3 fun q53=>gd (0 ≤ a4∧a4 < 8)<|ld (q53.1,q53.2 + Int.toNat a3 * 32 + Int.toNat a4 * 4 + 1) (cI .i64) fun x56=>br (x56 != 0) ( K 4) ( br (!(bv a5 x41.fRights)) ( K 5) ( ld (q34.1,q34.2 + 0) cS fun x67=>ix x67 a3 fun q76=>st (q76.1,q76.2 + Int.toNat a3 * 32 + Int.toNat a4 * 4) (aH.C (⟨x41.fFrame,a5,a1,a2⟩:aH))<|K 0))))) ( K 2))
set_option maxRecDepth 20000 in
theorem sim_caps_Tree_Derive (a0:Ptr) (a1:Int) (a2:Int) (a3:Int) (a4:Int) (a5:Int) {K:Int→Hp→Prop} {h:Hp} (H:ry a0 a1 a2 a3 a4 a5 K h):Ct Tryz.prog ig #[(pv a0),(.int .i64 a1),(.int .i64 a2),(.int .i64 a3),(.int .i64 a4),(.int .i64 a5)] h fun v h'=>∃ r,v = bw r∧K r h':=aC [(pv a0),(.int .i64 a1),(.int .i64 a2),(.int .i64 a3),(.int .i64 a4),(.int .i64 a5)] Tryz.func127 rfl rfl rfl fun _=>ag<|ab<|aa (ae rfl) rfl<|ad<|ag<|ag<|ab<|aa (ac rfl) rfl<|aa (ct Tryz.underlying128 rfl) rfl<|ad<|aD rfl H (fun k1 H2=>ag<|ab<|aa (ae rfl) rfl<|ad<|an<|av (az rfl (aE rfl)) ⟨10,rfl,H2⟩) (fun k1 H2=>au<|ag<|ag<|ab<|aa (ac rfl) rfl<|aa (ac rfl) rfl<|aa (ac rfl) rfl<|aj (aA H2 en_162 rfl rfl fun r19 _ H3=>aa (cw rfl) rfl<|aa (ac rfl) rfl<|ai rfl rfl rfl (aS _) (fun g4=>wv (ac rfl)) rfl<|ai rfl rfl rfl (aS _) (fun g5=>wv (ac rfl)) rfl<|ai rfl rfl rfl (aS _) (fun g6=>wv (ac rfl)) rfl<|bW H3 (fun k8 H9=>aI rfl rfl rfl (congrArg Value.bool (bL k8)) (aA H9 en_162 (aY (aK rfl k8) (aY (aK rfl k8) (aY (aK rfl k8) bU))) rfl fun r25 _ H10=>aI rfl rfl rfl (congrArg Value.bool (bL k8)) (aN (wv (cw rfl)) rfl<|aa (ax rfl (bL k8) rfl) rfl<|aa (ac rfl) rfl<|ai rfl rfl rfl (aS _) (fun g11=>wv (ac rfl)) rfl<|de (vs:=[(.int .i64 a5)]) rfl rfl rfl (aS _) (fun g12=>(bI (pW a5 _))) en_150 (fun g12=>(aY (aK rfl g12) bU)) rfl<|ai rfl rfl rfl (aS _) (fun g13=>wv (cw (aK rfl g13))) rfl<|aa (du rfl rfl) rfl<|ad<|aD rfl H10 (fun k14 H15=>ag<|ab<|aa (ae rfl) rfl<|ad<|an<|av (az rfl (aE rfl)) ⟨2,rfl,H15⟩) (fun k14 H15=>au<|ag<|ab<|aa (ac rfl) rfl<|bP H15 fun q34 e16 H17=>aa (aU (aX rfl (ay e16))) rfl<|aa (am hG rfl) rfl<|aj (bf H17 pN rfl (fun _=>rfl) rfl fun x36 H18=>aa (ac rfl) rfl<|aa (ac rfl) rfl<|cu H18 fun q39 e19 h20 H21=>aa (bC nY (aX rfl (bm e19)) rfl h20) rfl<|il H21 fun h22 H23=>aa (bJ qh rfl rfl h22) rfl<|aj (gL H23 ag_70 rfl (fun _=>rfl) rfl fun x41 H24=>aj (bb (l:=(aH.C (⟨0,0,0,0⟩:aH))) ir rfl rfl fun b13=>aj (bc (k:=0) (vs:=(aH.C x41)) gB rfl rfl rfl rfl rfl rfl rfl<|ad<|ag<|aF<|ag<|ab<|aa (am gJ rfl) rfl<|bz (bq (k:=0) bj rfl rfl rfl) rfl<|aa (cc rfl rfl) rfl<|aa (ae rfl) rfl<|ad<|aD rfl H24 (fun k25 H26=>ag<|ab<|aa (ae rfl) rfl<|ad<|an<|av (az rfl (aE rfl)) ⟨3,rfl,H26⟩) (fun k25 H26=>ag<|ab<|aa (ac (aX rfl (ay e16))) rfl<|aa (aU rfl) rfl<|aa (am hG rfl) rfl<|aj (bf H26 pN rfl (fun _=>rfl) rfl fun x50 H27=>aa (ac rfl) rfl<|aa (ac rfl) rfl<|cu H27 fun q53 e28 h29 H30=>aa (bC nY (aX rfl (bm e28)) rfl h29) rfl<|il H30 fun h31 H32=>aa (bJ qh rfl rfl h31) rfl<|aa (am gJ rfl) rfl<|aj (bf H32 bj rfl (fun _=>rfl) rfl fun x56 H33=>aa (pA rfl rfl) rfl<|aa (ae rfl) rfl<|ad<|aD rfl H33 (fun k34 H35=>ag<|ab<|aa (ae rfl) rfl<|ad<|an<|av (az rfl (aE rfl)) ⟨4,rfl,H35⟩) (fun k34 H35=>ag<|ab<|aa (ac rfl) rfl<|aa (am gJ rfl) rfl<|bz (bq (k:=0) bj rfl rfl rfl) rfl<|aj (cL (vs:=[(.int .i64 a5),(.int .i64 x41.fRights)]) (bI (dh a5 x41.fRights _)) mu rfl rfl<|aa (cw rfl) rfl<|aa (ae rfl) rfl<|ad<|aD rfl H35 (fun k36 H37=>ag<|ab<|aa (ae rfl) rfl<|ad<|an<|av (az rfl (aE rfl)) ⟨5,rfl,H37⟩) (fun k36 H37=>au<|ag<|bE (n:=15) [bx b13 70 (aH.C x41)] cy rfl (.cons_cons _ .slnil)<|ah (i:=0) (fun _ _ _ _=>id) rfl (by kernel_rfl) rfl (ve (ac (aX rfl (ay e16))))<|ah (i:=1) (fun _ _ _ _=>id) rfl (by kernel_rfl) rfl (ve (aU rfl))<|ah (i:=2) (fun _ _ _ _=>id) rfl (by kernel_rfl) rfl (ve (am hG rfl))<|ah (i:=4) (fun _ _ _ _=>id) rfl (by kernel_rfl) rfl (ve (ac rfl))<|ah (i:=5) (fun _ _ _ _=>id) rfl (by kernel_rfl) rfl (ve (ac rfl))<|ah (i:=6) (fun _ _ _ _=>id) rfl (by kernel_rfl) rfl (ve (am tb rfl))<|ah (i:=7) (fun _ _ _ _=>id) rfl (by kernel_rfl) rfl (dn (k:=0) bj rfl rfl rfl)<|ah (i:=8) (fun _ _ _ _=>id) rfl (by kernel_rfl) rfl (ve (ac rfl))<|ah (i:=9) (fun _ _ _ _=>id) rfl (by kernel_rfl) rfl (ve (ac rfl))<|ah (i:=10) (fun _ _ _ _=>id) rfl (by kernel_rfl) rfl (ve (ac rfl))<|ah (i:=11) (fun _ _ _ _=>id) rfl (by kernel_rfl) rfl (ve (bo rfl (build_70_0_1_2_3 x41.fFrame a5 a1 a2)))<|bR (i:=3) (fun _ _ _ _=>id) H37 rfl (by kernel_rfl) pN rfl (fun _=>rfl) rfl fun x67 H38=>fR H38 fun q76 e39 h40 H41=>ah (i:=12) (fun _ _ _ _=>id) rfl (by kernel_rfl) rfl (ve (bC nY (aX rfl (bm e39)) rfl h40))<|ah (i:=13) (fun _ _ _ _=>id) rfl (by kernel_rfl) rfl (ve (bJ qh rfl rfl h31))<|bg (i:=14) (by kernel_rfl) (aJ rfl rfl (dw gB rfl rfl rfl rfl rfl H41 fun _ H42=>⟨(.cons_cons _ .slnil),bd (by kernel_rfl)<|ag<|ab<|aa (ae rfl) rfl<|ad<|an<|av (az rfl (aE rfl)) ⟨0,rfl,H42⟩⟩)))))))))))))))) (fun k8 H9=>al rfl rfl rfl (bF (bp k8)) rfl<|al rfl rfl rfl (bF (bp k8)) rfl<|aa (aT rfl (bp k8) rfl) rfl<|aa (ac rfl) rfl<|al rfl rfl rfl rfl rfl<|al rfl rfl rfl rfl rfl<|al rfl rfl rfl rfl rfl<|aa (aT rfl rfl rfl) rfl<|ad<|gR rfl rfl<|ag<|ab<|aa (ae rfl) rfl<|ad<|an<|av (az rfl (aE rfl)) ⟨2,rfl,H9⟩)))
def hH (s6:Sl × Int) (Rec18:(Sl × Int)→Hp→Prop) (s17:Sl × Int) (s23:Bool):Hp→Prop:=br s23 ( hpv Tryz.prog (Instr.buildSlice gU 1 #[(0,(.agg (aR.C (⟨s6.2,s17.2⟩:aR)).toArray))]) cY fun (v45:Sl)=>hpv Tryz.prog (Builtin.append_ #[gU,gU] gU #[(sv s17.1),(sv v45)]) cY fun (v46:Sl)=>Rec18 (v46,(IntKind.i64.wrap (s17.2 + 1)))) ( Rec18 (s17.1,(IntKind.i64.wrap (s17.2 + 1))))
def pX (a1:Value) (Rec7:(Sl × Int)→Hp→Prop) (s6:Sl × Int) (v26:(List Value)) (Rec18:(Sl × Int)→Hp→Prop) (s17:Sl × Int):Hp→Prop:=br (decide (s17.2 < 8)) ( hpv Tryz.prog (Instr.index kS (.agg v26.toArray) (.int .i64 s17.2)) R_api_Cap fun (v30:aH)=>br (v30.fRights != 0) ( clv Tryz.prog a1 [(.agg (aR.C (⟨s6.2,s17.2⟩:aR)).toArray),(.agg (aH.C v30).toArray)] aG fun r41=>hH s6 Rec18 s17 r41) ( hH s6 Rec18 s17 false)) ( Rec7 (s17.1,(IntKind.i64.wrap (s6.2 + 1))))
def pY (a1:Value) (K:Sl→Hp→Prop) (q13:Nat × Nat) (x15:Sl) (Rec7:(Sl × Int)→Hp→Prop) (s6:Sl × Int):Hp→Prop:=br (decide (s6.2 < (x15.len:Int))) ( ld (q13.1,q13.2 + 0) cS fun x23=>ix x23 s6.2 fun q25=>hpv Tryz.prog (Instr.loadAt kS (.pointer (some ⟨q25.1,q25.2 + Int.toNat s6.2 * 32,none⟩))) encL fun (v26:(List Value))=>Lp (pX a1 Rec7 s6 v26) (s6.1,0)) ( K s6.1)
def vd (a0:Ptr) (a1:Value) (K:Sl→Hp→Prop):Hp→Prop:=br a0.isNone ( K (⟨none,0,0,none⟩:Sl)) ( nn a0 fun q13=>ld (q13.1,q13.2 + 0) cS fun x15=>Lp (pY a1 K q13 x15) ((⟨none,0,0,none⟩:Sl),0))
set_option maxRecDepth 20000 in
theorem sim_caps_Tree_all (a0:Ptr) (a1:Value) {K:Sl→Hp→Prop} {h:Hp} (H:vd a0 a1 K h):Ct Tryz.prog kh #[(pv a0),a1] h fun v h'=>∃ r,v = cY r∧K r h':=aC [(pv a0),a1] Tryz.func170 rfl rfl rfl fun _=>ag<|ab<|aa (ae rfl) rfl<|ad<|ag<|ag<|ab<|aa (ac rfl) rfl<|aa (ct Tryz.underlying128 rfl) rfl<|ad<|aD rfl H (fun k1 H2=>ag<|ab<|aa (ae rfl) rfl<|ad<|an<|av (az rfl (aE rfl)) ⟨(⟨none,0,0,none⟩:Sl),rfl,H2⟩) (fun k1 H2=>au<|ag<|ab<|aa (ae rfl) rfl<|ad<|ag<|ag<|ab<|aa (ac rfl) rfl<|bP H2 fun q13 e3 H4=>aa (aU (aX rfl (ay e3))) rfl<|aa (am hG rfl) rfl<|aj (bf H4 pN rfl (fun _=>rfl) rfl fun x15 H5=>aa (dH rfl Tryz.underlying184 rfl) rfl<|aa (ac rfl) rfl<|ad<|aF<|bS (step:=pY a1 K q13 x15) (fun s6=>[(0,(pv a0)),(1,a1),(5,(sv s6.1)),(16,(.int .i64 (x15.len:Int))),(17,(.int .i64 s6.2))]) (fun s6=>[]) H5 (.cons rfl (.cons rfl (.cons rfl (.cons rfl (.cons rfl (.nil _)))))) .slnil (fun Rec7 s6 _ H8=>ag<|ab<|aa (cA rfl rfl) rfl<|ad<|ag<|aD rfl H8 (fun k9 H10=>au<|ag<|aF<|ag<|ab<|aa (ac rfl) rfl<|aa (ae rfl) rfl<|ad<|ag<|ab<|aa (ac (aX rfl (ay e3))) rfl<|aa (aU rfl) rfl<|aa (am hG rfl) rfl<|aj (bf H10 pN rfl (fun _=>rfl) rfl fun x23 H11=>aa (ac rfl) rfl<|cu H11 fun q25 e12 h13 H14=>aa (bC nY (aX rfl (bm e12)) rfl h13) rfl<|aj (be H14 (x_load rfl) rfl fun v26 _ H16=>aa (ac rfl) rfl<|ad<|aF<|bS (step:=pX a1 Rec7 s6 v26) (fun s17=>[(0,(pv a0)),(1,a1),(5,(sv s17.1)),(6,(.int .i64 s6.2)),(16,(.int .i64 (x15.len:Int))),(17,(.int .i64 s6.2)),(26,(.agg v26.toArray)),(27,(.int .i64 s17.2))]) (fun s17=>[]) H16 (.cons rfl (.cons rfl (.cons rfl (.cons rfl (.cons rfl (.cons rfl (.cons rfl (.cons rfl (.nil _))))))))) .slnil (fun Rec18 s17 _ H19=>ag<|ab<|aa (cA rfl rfl) rfl<|ad<|ag<|aD rfl H19 (fun k20 H21=>au<|ag<|aF<|ag<|ab<|aa (ac rfl) rfl<|aj (be H21 (x_index rfl rfl) rfl fun v30 _ H22=>aj (bb (l:=(aH.C (⟨0,0,0,0⟩:aH))) ir rfl rfl fun b8=>aa (ae rfl) rfl<|aj (bc (k:=0) (vs:=(aH.C v30)) gB rfl rfl rfl rfl rfl rfl rfl<|ad<|ag<|ab<|aa (ac rfl) rfl<|aa (ac rfl) rfl<|aa (bo rfl (uD s6.2 s17.2)) rfl<|aj (bb (l:=(aR.C (⟨0,0⟩:aR))) zero_208 rfl rfl fun b9=>aj (bc (k:=0) (vs:=(aR.C (⟨s6.2,s17.2⟩:aR))) inf_208 rfl rfl rfl rfl rfl rfl rfl<|ad<|eG (hH s6 Rec18 s17) (fun s23=>[(0,(pv a0)),(1,a1),(5,(sv s17.1)),(6,(.int .i64 s6.2)),(9,(.pointer (some ⟨b9,0,none⟩))),(16,(.int .i64 (x15.len:Int))),(17,(.int .i64 s6.2)),(26,(.agg v26.toArray)),(27,(.int .i64 s17.2)),(42,(.bool s23))]) (fun s23=>[bx b9 208 (aR.C (⟨s6.2,s17.2⟩:aR))]) ( ab<|aa (am gJ rfl) rfl<|bz (bq (k:=1) bj rfl rfl rfl) rfl<|aa (pA rfl rfl) rfl<|aa (ac rfl) rfl<|ai rfl rfl rfl (aB _) (fun g29=>wv (ac rfl)) rfl<|ai rfl rfl rfl (aB _) (fun g30=>cv (bO (k:=0) ag_208 rfl rfl rfl rfl)) rfl<|ai rfl rfl rfl (aB _) (fun g31=>cv (bO (k:=1) ag_70 rfl rfl rfl rfl)) rfl<|bW H22 (fun k33 H34=>aI rfl rfl rfl (congrArg Value.bool k33) (to_clv H34 (aK rfl k33) (aY (aK rfl k33) (aY (aK rfl k33) bU)) rfl fun r41 _ H35=>aa (aT rfl k33 rfl) rfl<|ad<|cQ r41 H35 (.cons rfl (.cons rfl (.cons rfl (.cons rfl (.cons rfl (.cons rfl (.cons rfl (.cons rfl (.cons rfl (.cons rfl (.nil _))))))))))) (.cons_cons _ (.cons _ .slnil)))) (fun k33 H34=>al rfl rfl rfl (aZ k33) rfl<|aa (ax rfl k33 rfl) rfl<|ad<|cQ false H34 (.cons rfl (.cons rfl (.cons rfl (.cons rfl (.cons rfl (.cons rfl (.cons rfl (.cons rfl (.cons rfl (.cons rfl (.nil _))))))))))) (.cons_cons _ (.cons _ .slnil)))) (fun s23 _ H24=>aD rfl H24 (fun k25 H26=>ab<|aa (ac rfl) rfl<|bz (bO (k:=0) ag_208 rfl rfl rfl rfl) rfl<|aj (be H26 (bK (vs:=[(.agg (aR.C (⟨s6.2,s17.2⟩:aR)).toArray)]) rfl) rfl fun v45 _ H27=>aj (be H27 (dM rfl rfl) rfl fun v46 _ H28=>aa (ae rfl) rfl<|ad<|ab<|aa (bM rfl rfl) rfl<|aa (ac rfl) rfl<|ad<|cW (v46,(IntKind.i64.wrap (s17.2 + 1))) H28 (.cons rfl (.cons rfl (.cons rfl (.cons rfl (.cons rfl (.cons rfl (.cons rfl (.cons rfl (.nil _))))))))) (.cons _ .slnil)))) (fun k25 H26=>au<|ab<|aa (bM rfl rfl) rfl<|aa (ac rfl) rfl<|ad<|cW (s17.1,(IntKind.i64.wrap (s17.2 + 1))) H26 (.cons rfl (.cons rfl (.cons rfl (.cons rfl (.cons rfl (.cons rfl (.cons rfl (.cons rfl (.nil _))))))))) (.cons _ .slnil))))))))) (fun k20 H21=>bD<|ab<|aa (bM rfl rfl) rfl<|aa (ac rfl) rfl<|ad<|cW (s17.1,(IntKind.i64.wrap (s6.2 + 1))) H21 (.cons rfl (.cons rfl (.cons rfl (.cons rfl (.cons rfl (.nil _)))))) .slnil))))) (fun k9 H10=>bD<|ag<|ab<|aa (ac rfl) rfl<|aa (ae rfl) rfl<|ad<|an<|av (az rfl (aE rfl)) ⟨s6.1,rfl,H10⟩))))
def tW (a0:Ptr) (a1:Int) (a2:Int) (K:Int→Hp→Prop):Hp→Prop:=br a0.isNone ( K 10) ( cl Tryz.prog ie [(pv a0),(.int .i64 a1),(.int .i64 a2)] aG fun r14=>br (!r14) ( K 2) ( nn a0 fun q18=>ld (q18.1,q18.2 + 0) cS fun x20=>ix x20 a1 fun q23=>gd (0 ≤ a2∧a2 < 8)<|ld (q23.1,q23.2 + Int.toNat a1 * 32 + Int.toNat a2 * 4 + 1) (cI .i64) fun x26=>br (x26 == 0) ( K 3) ( K 0)))
set_option maxRecDepth 20000 in
theorem sim_caps_Tree_look (a0:Ptr) (a1:Int) (a2:Int) {K:Int→Hp→Prop} {h:Hp} (H:tW a0 a1 a2 K h):Ct Tryz.prog lU #[(pv a0),(.int .i64 a1),(.int .i64 a2)] h fun v h'=>∃ r,v = bw r∧K r h':=aC [(pv a0),(.int .i64 a1),(.int .i64 a2)] Tryz.func184 rfl rfl rfl fun _=>ag<|ab<|aa (ae rfl) rfl<|ad<|ag<|aF<|ag<|ab<|aa (ac rfl) rfl<|aa (ct Tryz.underlying128 rfl) rfl<|aa (ae rfl) rfl<|ad<|aD rfl H (fun k1 H2=>ag<|ab<|aa (ae rfl) rfl<|ad<|an<|av (az rfl (aE rfl)) ⟨10,rfl,H2⟩) (fun k1 H2=>ag<|ab<|aa (ac rfl) rfl<|aa (ac rfl) rfl<|aa (ac rfl) rfl<|aj (aA H2 en_162 rfl rfl fun r14 _ H3=>aa (cw rfl) rfl<|aa (ae rfl) rfl<|ad<|aD rfl H3 (fun k4 H5=>ag<|ab<|aa (ae rfl) rfl<|ad<|an<|av (az rfl (aE rfl)) ⟨2,rfl,H5⟩) (fun k4 H5=>ag<|ab<|aa (ac rfl) rfl<|bP H5 fun q18 e6 H7=>aa (aU (aX rfl (ay e6))) rfl<|aa (am hG rfl) rfl<|aj (bf H7 pN rfl (fun _=>rfl) rfl fun x20 H8=>aa (ac rfl) rfl<|aa (ac rfl) rfl<|cu H8 fun q23 e9 h10 H11=>aa (bC nY (aX rfl (bm e9)) rfl h10) rfl<|il H11 fun h12 H13=>aa (bJ qh rfl rfl h12) rfl<|aa (am gJ rfl) rfl<|aj (bf H13 bj rfl (fun _=>rfl) rfl fun x26 H14=>aa (cc rfl rfl) rfl<|aa (ae rfl) rfl<|ad<|aD rfl H14 (fun k15 H16=>ag<|ab<|aa (ae rfl) rfl<|ad<|an<|av (az rfl (aE rfl)) ⟨3,rfl,H16⟩) (fun k15 H16=>au<|ag<|ab<|aa (ae rfl) rfl<|ad<|an<|av (az rfl (aE rfl)) ⟨0,rfl,H16⟩))))))
def lz (a0:Ptr) (a1:Sl) (K:Sl→Hp→Prop) (Rec2:Int→Hp→Prop) (s1:Int):Hp→Prop:=br (decide (s1 < (a1.len:Int))) ( ix a1 s1 fun q11=>ld (q11.1,q11.2 + Int.toNat s1 * 2) aR.C fun x12=>nn a0 fun q14=>ld (q14.1,q14.2 + 0) cS fun x16=>ix x16 x12.fEnv fun q22=>gd (0 ≤ x12.fSlot∧x12.fSlot < 8)<|st (q22.1,q22.2 + Int.toNat x12.fEnv * 32 + Int.toNat x12.fSlot * 4) (aH.C (⟨0,0,0,0⟩:aH))<|Rec2 (IntKind.i64.wrap (s1 + 1))) ( K a1)
def qB (a0:Ptr) (a1:Sl) (K:Sl→Hp→Prop):Hp→Prop:=Lp (lz a0 a1 K) 0
set_option maxRecDepth 20000 in
theorem sim_caps_Tree_empties (a0:Ptr) (a1:Sl) {K:Sl→Hp→Prop} {h:Hp} (H:qB a0 a1 K h):Ct Tryz.prog gG #[(pv a0),(sv a1)] h fun v h'=>∃ r,v = cY r∧K r h':=aC [(pv a0),(sv a1)] Tryz.func185 rfl rfl rfl fun _=>ag<|ab<|aa (ae rfl) rfl<|ad<|ag<|ag<|ab<|aa (ac rfl) rfl<|aa (dH rfl Tryz.underlying173 rfl) rfl<|aa (ac rfl) rfl<|ad<|aF<|bS (step:=lz a0 a1 K) (fun s1=>[(0,(pv a0)),(1,(sv a1)),(7,(sv a1)),(8,(.int .i64 (a1.len:Int))),(9,(.int .i64 s1))]) (fun s1=>[]) H (.cons rfl (.cons rfl (.cons rfl (.cons rfl (.cons rfl (.nil _)))))) .slnil (fun Rec2 s1 _ H3=>ag<|ab<|aa (cA rfl rfl) rfl<|ad<|ag<|aD rfl H3 (fun k4 H5=>au<|ag<|aF<|ag<|ab<|cu H5 fun q11 e6 h7 H8=>aa (bC slc_173 (aX rfl (bm e6)) rfl h7) rfl<|aj (gL H8 ag_208 rfl (fun _=>rfl) rfl fun x12 H9=>aj (bb (l:=(aR.C (⟨0,0⟩:aR))) zero_208 rfl rfl fun b6=>aj (bc (k:=0) (vs:=(aR.C x12)) inf_208 rfl rfl rfl rfl rfl rfl rfl<|ad<|bE (n:=12) [bx b6 208 (aR.C x12)] cy rfl (.cons_cons _ .slnil)<|ah (i:=0) (fun _ _ _ _=>id) rfl (by kernel_rfl) rfl (ve (ac rfl))<|ah (i:=4) (fun _ _ _ _=>id) rfl (by kernel_rfl) rfl (ve (am fld_208_0 rfl))<|ah (i:=5) (fun _ _ _ _=>id) rfl (by kernel_rfl) rfl (dn (k:=0) bj rfl rfl rfl)<|ah (i:=6) (fun _ _ _ _=>id) rfl (by kernel_rfl) rfl (ve (am fld_208_1 rfl))<|ah (i:=7) (fun _ _ _ _=>id) rfl (by kernel_rfl) rfl (dn (k:=0) bj rfl rfl rfl)<|ah (i:=8) (fun _ _ _ _=>id) rfl (by kernel_rfl) rfl (ve (bo (vs:=[]) rfl build_70))<|gQ H9 fun q14 e10 H11=>ah (i:=1) (fun _ _ _ _=>id) rfl (by kernel_rfl) rfl (ve (aU (aX rfl (ay e10))))<|ah (i:=2) (fun _ _ _ _=>id) rfl (by kernel_rfl) rfl (ve (am hG rfl))<|bR (i:=3) (fun _ _ _ _=>id) H11 rfl (by kernel_rfl) pN rfl (fun _=>rfl) rfl fun x16 H12=>fR H12 fun q22 e13 h14 H15=>ah (i:=9) (fun _ _ _ _=>id) rfl (by kernel_rfl) rfl (ve (bC nY (aX rfl (bm e13)) rfl h14))<|eva_gd H15 fun h16 H17=>ah (i:=10) (fun _ _ _ _=>id) rfl (by kernel_rfl) rfl (ve (bJ qh rfl rfl h16))<|bg (i:=11) (by kernel_rfl) (aJ rfl rfl (dw gB rfl rfl rfl rfl rfl H17 fun _ H18=>⟨(.cons_cons _ .slnil),bd (by kernel_rfl)<|ab<|aa (bM rfl rfl) rfl<|aa (ac rfl) rfl<|ad<|cW (IntKind.i64.wrap (s1 + 1)) H18 (.cons rfl (.cons rfl (.cons rfl (.cons rfl (.cons rfl (.nil _)))))) (.cons _ .slnil)⟩)))))) (fun k4 H5=>bD<|ag<|ab<|aa (ac rfl) rfl<|aa (ae rfl) rfl<|ad<|an<|av (az rfl (aE rfl)) ⟨a1,rfl,H5⟩))
def np (a0:Ptr) (a2:aR) (K:Bool→Hp→Prop) (Rec2:aH→Hp→Prop) (s1:aH):Hp→Prop:=br ((s1.fRights != 0) && (decide (s1.fEnv ≥ 0))) ( br ((s1.fEnv == a2.fEnv) && (s1.fSlot == a2.fSlot)) ( K true) ( nn a0 fun q28=>ld (q28.1,q28.2 + 0) cS fun x30=>ix x30 s1.fEnv fun q35=>gd (0 ≤ s1.fSlot∧s1.fSlot < 8)<|ld (q35.1,q35.2 + Int.toNat s1.fEnv * 32 + Int.toNat s1.fSlot * 4) aH.C fun x37=>Rec2 x37)) ( K false)
def sJ (a0:Ptr) (a1:aH) (a2:aR) (K:Bool→Hp→Prop):Hp→Prop:=Lp (np a0 a2 K) a1
set_option maxRecDepth 20000 in
theorem sim_caps_Tree_under (a0:Ptr) (a1:aH) (a2:aR) {K:Bool→Hp→Prop} {h:Hp} (H:sJ a0 a1 a2 K h):Ct Tryz.prog kP #[(pv a0),(.agg (aH.C a1).toArray),(.agg (aR.C a2).toArray)] h fun v h'=>∃ r,v = aG r∧K r h':=aC [(pv a0),(.agg (aH.C a1).toArray),(.agg (aR.C a2).toArray)] Tryz.func172 rfl rfl rfl fun _=>ag<|ab<|aj (cH (l:=(aH.C a1)) rfl rfl rfl fun b4=>aj (cH (l:=(aR.C a2)) rfl rfl rfl fun b5=>aa (ae rfl) rfl<|ad<|ag<|aF<|bS (step:=np a0 a2 K) (fun s1=>[(0,(pv a0)),(4,(.pointer (some ⟨b4,0,none⟩))),(5,(.pointer (some ⟨b5,0,none⟩)))]) (fun s1=>[bx b5 208 (aR.C a2),bx b4 70 (aH.C s1)]) H (.cons rfl (.cons rfl (.cons rfl (.nil _)))) (.cons_cons _ (.cons_cons _ .slnil)) (fun Rec2 s1 _ H3=>ag<|ag<|ab<|aa (am gJ rfl) rfl<|bz (bq (k:=1) bj rfl rfl rfl) rfl<|aa (pA rfl rfl) rfl<|aa (ac rfl) rfl<|ai rfl rfl rfl (aB _) (fun g4=>wv (am qG rfl)) rfl<|ai rfl rfl rfl (aB _) (fun g5=>cv (bq (k:=1) bj (aK rfl g5) rfl rfl)) rfl<|ai rfl rfl rfl (aB _) (fun g6=>wv (hO (aK rfl g6) rfl)) rfl<|aa (bX rfl rfl) rfl<|ad<|aD rfl H3 (fun k7 H8=>au<|aF<|ag<|ag<|ab<|aa (am qG rfl) rfl<|bz (bq (k:=1) bj rfl rfl rfl) rfl<|aa (am fld_208_0 rfl) rfl<|bz (bq (k:=0) bj rfl rfl rfl) rfl<|aa (cc rfl rfl) rfl<|aa (ac rfl) rfl<|ai rfl rfl rfl (aB _) (fun g9=>wv (am fld_70_3 rfl)) rfl<|ai rfl rfl rfl (aB _) (fun g10=>cv (bq (k:=1) bj (aK rfl g10) rfl rfl)) rfl<|ai rfl rfl rfl (aB _) (fun g11=>wv (am fld_208_1 rfl)) rfl<|ai rfl rfl rfl (aB _) (fun g12=>cv (bq (k:=0) bj (aK rfl g12) rfl rfl)) rfl<|ai rfl rfl rfl (aB _) (fun g13=>wv (cc (aK rfl g13) (aK rfl g13))) rfl<|aa (bX rfl rfl) rfl<|ad<|aD rfl H8 (fun k14 H15=>ag<|ab<|aa (ae rfl) rfl<|ad<|an<|av (az rfl (aE rfl)) ⟨true,rfl,H15⟩) (fun k14 H15=>au<|bE (n:=12) [] cy rfl (.cons _ (.cons _ .slnil))<|ah (i:=0) (fun _ _ _ _=>id) rfl (by kernel_rfl) rfl (ve (ac rfl))<|ah (i:=4) (fun _ _ _ _=>id) rfl (by kernel_rfl) rfl (ve (am qG rfl))<|ah (i:=6) (fun _ _ _ _=>id) rfl (by kernel_rfl) rfl (ve (am fld_70_3 rfl))<|gQ H15 fun q28 e16 H17=>ah (i:=1) (fun _ _ _ _=>id) rfl (by kernel_rfl) rfl (ve (aU (aX rfl (ay e16))))<|ah (i:=2) (fun _ _ _ _=>id) rfl (by kernel_rfl) rfl (ve (am hG rfl))<|bR (i:=3) (fun _ _ _ _=>id) H17 rfl (by kernel_rfl) pN rfl (fun _=>rfl) rfl fun x30 H18=>eva_load (i:=5) (fun _ _ _ _=>id) rfl (by kernel_rfl) rfl (bq (k:=1) bj rfl rfl rfl)<|fR H18 fun q35 e19 h20 H21=>ah (i:=8) (fun _ _ _ _=>id) rfl (by kernel_rfl) rfl (ve (bC nY (aX rfl (bm e19)) rfl h20))<|eva_load (i:=7) (fun _ _ _ _=>id) rfl (by kernel_rfl) rfl (bq (k:=1) bj rfl rfl rfl)<|eva_gd H21 fun h22 H23=>ah (i:=9) (fun _ _ _ _=>id) rfl (by kernel_rfl) rfl (ve (bJ qh rfl rfl h22))<|wP (i:=10) (fun _ _ _ _=>id) H23 rfl (by kernel_rfl) ag_70 rfl (fun _=>rfl) rfl fun x37 H24=>bg (i:=11) (by kernel_rfl) (aJ rfl rfl (bc (k:=1) (vs:=(aH.C x37)) gB rfl rfl rfl rfl rfl rfl rfl<|⟨(.cons _ (.cons _ .slnil)),bd (by kernel_rfl)<|cW x37 H24 (.cons rfl (.cons rfl (.cons rfl (.nil _)))) (.cons_cons _ (.cons_cons _ .slnil))⟩)))) (fun k7 H8=>bD<|ag<|ab<|aa (ae rfl) rfl<|ad<|an<|av (az rfl (aE rfl)) ⟨false,rfl,H8⟩))))
def qC (a0:aR) (a1:aH) (c0:Nat) (c1:Nat) (K:Bool→Hp→Prop):Hp→Prop:=ld (c0,0) aR.C fun x8=>br (!(aR.eqb a0 x8)) ( ld (c1,0) cP fun x11=>ld (c0,0) aR.C fun x13=>cl Tryz.prog kP [(pv x11),(.agg (aH.C a1).toArray),(.agg (aR.C x13).toArray)] aG fun r14=>K r14) ( K true)
set_option maxRecDepth 20000 in
theorem sim_caps_Tree_Drop_c1 (a0:aR) (a1:aH) (c0:Nat) (c1:Nat) {K:Bool→Hp→Prop} {h:Hp} (H:qC a0 a1 c0 c1 K h):Ct Tryz.prog gH #[(.agg (aR.C a0).toArray),(.agg (aH.C a1).toArray),(.pointer (some ⟨c0,0,none⟩)),(.pointer (some ⟨c1,0,none⟩))] h fun v h'=>∃ r,v = aG r∧K r h':=aC [(.agg (aR.C a0).toArray),(.agg (aH.C a1).toArray),(.pointer (some ⟨c0,0,none⟩)),(.pointer (some ⟨c1,0,none⟩))] Tryz.func186 rfl rfl rfl fun _=>ag<|ab<|aj (cH (l:=(aR.C a0)) rfl rfl rfl fun b4=>aj (cH (l:=(aH.C a1)) rfl rfl rfl fun b5=>aa (ae rfl) rfl<|ad<|ag<|ab<|bz (bO (k:=1) ag_208 rfl rfl rfl rfl) rfl<|aj (gL H ag_208 rfl (fun _=>rfl) rfl fun x8 H1=>aa (v_eqA eqg_208 (eqr_208 9998 _ _) rfl rfl) rfl<|aa (ac rfl) rfl<|bW H1 (fun k3 H4=>aI rfl rfl rfl (congrArg Value.bool (bL k3)) (bf H4 hZ rfl (fun _=>rfl) rfl fun x11 H5=>aI rfl rfl rfl (congrArg Value.bool (bL k3)) (aN (cv (bO (k:=0) ag_70 rfl rfl rfl rfl)) rfl<|aI rfl rfl rfl (congrArg Value.bool (bL k3)) (gL H5 ag_208 rfl (fun _=>rfl) rfl fun x13 H6=>aI rfl rfl rfl (congrArg Value.bool (bL k3)) (aA H6 en_172 rfl rfl fun r14 _ H7=>aa (ax rfl (bL k3) rfl) rfl<|aa (ae rfl) rfl<|ad<|an<|av (az rfl (aE rfl)) ⟨r14,rfl,H7⟩))))) (fun k3 H4=>al rfl rfl rfl (bF (bp k3)) rfl<|al rfl rfl rfl (bF (bp k3)) rfl<|al rfl rfl rfl (bF (bp k3)) rfl<|al rfl rfl rfl (bF (bp k3)) rfl<|aa (aT rfl (bp k3) rfl) rfl<|aa (ae rfl) rfl<|ad<|an<|av (az rfl (aE rfl)) ⟨true,rfl,H4⟩))))
def tY (a0:Ptr) (a1:Int) (a2:Int) (K:(Sl × Int)→Hp→Prop):Hp→Prop:=nw rD [pv a0] fun b3=>ld (b3,0) cP fun x10=>cl Tryz.prog lU [(pv x10),(.int .i64 a1),(.int .i64 a2)] bw fun r13=>br (r13 != 0) ( K ((⟨none,0,0,none⟩:Sl),r13)) ( nw rC (aR.C (⟨0,0⟩:aR)) fun b9=>st (b9,0) (aR.C (⟨a1,a2⟩:aR))<|ld (b3,0) cP fun x21=>both ( ld (b3,0) cP fun x20=>cl Tryz.prog kh [(pv x21),(.func (.func gH) #[] #[(.pointer (some ⟨b9,0,none⟩)),(.pointer (some ⟨b3,0,none⟩))])] cY fun r23=>cl Tryz.prog gG [(pv x20),(sv r23)] cY fun r24=>K (r24,0)) ( cl Tryz.prog kh [(pv x21),(.func (.func gH) #[] #[(.pointer (some ⟨b9,0,none⟩)),(.pointer (some ⟨b3,0,none⟩))])] cY fun r23=>ld (b3,0) cP fun x20=>cl Tryz.prog gG [(pv x20),(sv r23)] cY fun r24=>K (r24,0)))
set_option maxRecDepth 20000 in
theorem sim_caps_Tree_Drop (a0:Ptr) (a1:Int) (a2:Int) {K:(Sl × Int)→Hp→Prop} {h:Hp} (H:tY a0 a1 a2 K h):Ct Tryz.prog lV #[(pv a0),(.int .i64 a1),(.int .i64 a2)] h fun v h'=>∃ r,v = dE r∧K r h':=aC [(pv a0),(.int .i64 a1),(.int .i64 a2)] Tryz.func157 rfl rfl rfl fun _=>ag<|ab<|aj (hU rfl rfl rfl H fun b3 _ H1=>aa (ae rfl) rfl<|aa (ae rfl) rfl<|ad<|ag<|ag<|ab<|aj (bf H1 hZ rfl (fun _=>rfl) rfl fun x10 H2=>aa (ac rfl) rfl<|aa (ac rfl) rfl<|aj (aA H2 en_184 rfl rfl fun r13 _ H3=>aa (ae rfl) rfl<|ad<|ag<|ab<|aa (ac rfl) rfl<|aa (pA rfl rfl) rfl<|ad<|aD rfl H3 (fun k4 H5=>ag<|ab<|aa (ac rfl) rfl<|aa (ae rfl) rfl<|aa (ae rfl) rfl<|ad<|an<|av (cf rfl (aE rfl) (aE rfl)) ⟨((⟨none,0,0,none⟩:Sl),r13),rfl,H5⟩) (fun k4 H5=>au<|ag<|ab<|aa (ac rfl) rfl<|aa (ac rfl) rfl<|aa (bo rfl (uD a1 a2)) rfl<|aj (to_alloc zero_208 rfl rfl H5 fun b9 _ H6=>aj (dw inf_208 rfl rfl rfl rfl rfl H6 fun _ H7=>ad<|ag<|bE (n:=7) [] cy rfl .slnil<|ah (i:=2) (fun _ _ _ _=>id) rfl (by kernel_rfl) rfl (ve (v_func rfl rfl))<|bR (i:=1) (fun _ _ _ _=>id) H7 rfl (by kernel_rfl) hZ rfl (fun _=>rfl) rfl fun x21 H8=>jC H8 fun H9_1 H9_2=>jD (i:=0) (j:=3) (by kernel_rfl) (aJ rfl rfl (bf H9_1 hZ rfl (fun _=>rfl) rfl fun x20 H10=>⟨.slnil,bg (i:=3) (by kernel_rfl) (aJ rfl rfl (aA H10 en_170 rfl rfl fun r23 _ H11=>⟨.slnil,bg (i:=4) (by kernel_rfl) (aJ rfl rfl (aA H11 en_185 rfl rfl fun r24 _ H12=>⟨.slnil,ah (i:=5) (fun _ _ _ _=>id) rfl (by kernel_rfl) rfl (ve (ae rfl))<|ah (i:=6) (fun _ _ _ _=>id) rfl (by kernel_rfl) rfl (ve (ae rfl))<|bd (by kernel_rfl)<|an<|av (cf rfl (aE rfl) (aE rfl)) ⟨(r24,0),rfl,H12⟩⟩))⟩))⟩)) (aJ rfl rfl (aA H9_2 en_170 rfl rfl fun r23 _ H10=>⟨.slnil,bR (i:=0) (fun _ _ _ _=>id) H10 rfl (by kernel_rfl) hZ rfl (fun _=>rfl) rfl fun x20 H11=>bg (i:=4) (by kernel_rfl) (aJ rfl rfl (aA H11 en_185 rfl rfl fun r24 _ H12=>⟨.slnil,ah (i:=5) (fun _ _ _ _=>id) rfl (by kernel_rfl) rfl (ve (ae rfl))<|ah (i:=6) (fun _ _ _ _=>id) rfl (by kernel_rfl) rfl (ve (ae rfl))<|bd (by kernel_rfl)<|an<|av (cf rfl (aE rfl) (aE rfl)) ⟨(r24,0),rfl,H12⟩⟩))⟩))))))))
def pu (a0:aR) (a1:aH) (c0:Nat) (c1:Nat) (c2:Nat) (K:Bool→Hp→Prop):Hp→Prop:=ld (c0,0) cP fun x8=>ld (c1,0) (cI .i64) fun x10=>ld (c2,0) (cI .i64) fun x11=>cl Tryz.prog kP [(pv x8),(.agg (aH.C a1).toArray),(.agg (aR.C (⟨x10,x11⟩:aR)).toArray)] aG fun r13=>K r13
set_option maxRecDepth 20000 in
theorem wm (a0:aR) (a1:aH) (c0:Nat) (c1:Nat) (c2:Nat) {K:Bool→Hp→Prop} {h:Hp} (H:pu a0 a1 c0 c1 c2 K h):Ct Tryz.prog lu #[(.agg (aR.C a0).toArray),(.agg (aH.C a1).toArray),(.pointer (some ⟨c0,0,none⟩)),(.pointer (some ⟨c1,0,none⟩)),(.pointer (some ⟨c2,0,none⟩))] h fun v h'=>∃ r,v = aG r∧K r h':=aC [(.agg (aR.C a0).toArray),(.agg (aH.C a1).toArray),(.pointer (some ⟨c0,0,none⟩)),(.pointer (some ⟨c1,0,none⟩)),(.pointer (some ⟨c2,0,none⟩))] Tryz.func171 rfl rfl rfl fun _=>ag<|ab<|aj (cH (l:=(aR.C a0)) rfl rfl rfl fun b5=>aj (cH (l:=(aH.C a1)) rfl rfl rfl fun b6=>aa (ae rfl) rfl<|ad<|ag<|ab<|aj (bf H hZ rfl (fun _=>rfl) rfl fun x8 H1=>bz (bO (k:=0) ag_70 rfl rfl rfl rfl) rfl<|aj (bf H1 bj rfl (fun _=>rfl) rfl fun x10 H2=>aj (bf H2 bj rfl (fun _=>rfl) rfl fun x11 H3=>aa (bo rfl (uD x10 x11)) rfl<|aj (aA H3 en_172 rfl rfl fun r13 _ H4=>aa (ae rfl) rfl<|ad<|an<|av (az rfl (aE rfl)) ⟨r13,rfl,H4⟩))))))
def sK (a0:Ptr) (a1:Int) (a2:Int) (K:Sl→Hp→Prop):Hp→Prop:=nw rD [pv a0] fun b3=>nw kJ [.int .i64 a1] fun b4=>nw kJ [.int .i64 a2] fun b5=>ld (b3,0) cP fun x7=>cl Tryz.prog kh [(pv x7),(.func (.func lu) #[] #[(.pointer (some ⟨b3,0,none⟩)),(.pointer (some ⟨b4,0,none⟩)),(.pointer (some ⟨b5,0,none⟩))])] cY fun r9=>K r9
set_option maxRecDepth 20000 in
theorem sim_caps_Tree_Below (a0:Ptr) (a1:Int) (a2:Int) {K:Sl→Hp→Prop} {h:Hp} (H:sK a0 a1 a2 K h):Ct Tryz.prog kQ #[(pv a0),(.int .i64 a1),(.int .i64 a2)] h fun v h'=>∃ r,v = cY r∧K r h':=aC [(pv a0),(.int .i64 a1),(.int .i64 a2)] Tryz.func131 rfl rfl rfl fun _=>ag<|ab<|aj (hU rfl rfl rfl H fun b3 _ H1=>aj (hU rfl rfl rfl H1 fun b4 _ H2=>aj (hU rfl rfl rfl H2 fun b5 _ H3=>aa (ae rfl) rfl<|ad<|ag<|ab<|aj (bf H3 hZ rfl (fun _=>rfl) rfl fun x7 H4=>aa (v_func rfl rfl) rfl<|aj (aA H4 en_170 rfl rfl fun r9 _ H5=>aa (ae rfl) rfl<|ad<|an<|av (az rfl (aE rfl)) ⟨r9,rfl,H5⟩)))))
def rx (a0:Ptr) (a1:Int) (a2:Int) (K:(Sl × Int)→Hp→Prop):Hp→Prop:=cl Tryz.prog lU [(pv a0),(.int .i64 a1),(.int .i64 a2)] bw fun r12=>br (r12 != 0) ( K ((⟨none,0,0,none⟩:Sl),r12)) ( cl Tryz.prog kQ [(pv a0),(.int .i64 a1),(.int .i64 a2)] cY fun r20=>cl Tryz.prog gG [(pv a0),(sv r20)] cY fun r21=>K (r21,0))
set_option maxRecDepth 20000 in
theorem sim_caps_Tree_Revoke (a0:Ptr) (a1:Int) (a2:Int) {K:(Sl × Int)→Hp→Prop} {h:Hp} (H:rx a0 a1 a2 K h):Ct Tryz.prog ni #[(pv a0),(.int .i64 a1),(.int .i64 a2)] h fun v h'=>∃ r,v = dE r∧K r h':=aC [(pv a0),(.int .i64 a1),(.int .i64 a2)] Tryz.func158 rfl rfl rfl fun _=>ag<|ab<|aa (ae rfl) rfl<|aa (ae rfl) rfl<|ad<|ag<|ag<|ab<|aa (ac rfl) rfl<|aa (ac rfl) rfl<|aa (ac rfl) rfl<|aj (aA H en_184 rfl rfl fun r12 _ H1=>aa (ae rfl) rfl<|ad<|ag<|ab<|aa (ac rfl) rfl<|aa (pA rfl rfl) rfl<|ad<|aD rfl H1 (fun k2 H3=>ag<|ab<|aa (ac rfl) rfl<|aa (ae rfl) rfl<|aa (ae rfl) rfl<|ad<|an<|av (cf rfl (aE rfl) (aE rfl)) ⟨((⟨none,0,0,none⟩:Sl),r12),rfl,H3⟩) (fun k2 H3=>au<|ag<|ab<|aa (ac rfl) rfl<|aa (ac rfl) rfl<|aa (ac rfl) rfl<|aa (ac rfl) rfl<|aj (aA H3 en_131 rfl rfl fun r20 _ H4=>aj (aA H4 en_185 rfl rfl fun r21 _ H5=>aa (ae rfl) rfl<|aa (ae rfl) rfl<|ad<|an<|av (cf rfl (aE rfl) (aE rfl)) ⟨(r21,0),rfl,H5⟩))))
end Go.Proofs.YtniiiakkdoiaiaaGreatDoor
