/- Part of the proof of: The law KernNone returns true for every input, and leaves its arguments as they were. -/
import Derived.Test.YtniiiakkdoiaiaaGreatDoorKernNone03
set_option linter.all false
namespace Go.Proofs.YtniiiakkdoiaiaaGreatDoor
open Go Mb
abbrev vI (s:Sl) (xs:List Int):As:=vec kJ 1 (cI .i64) s xs
def fX (a:Int):List Int→Int→Int
  | [],_=>-1
  | x::xs,i=>if a = x then i else fX a xs (i + 1)
theorem sp_slices_Index (s:Sl) (a:Int) (xs:List Int) (hb:xs.length < 2^62) :
    Sp Tryz.prog jT [sv s,.int .i64 a] dQ [vI s xs] (fun r=>pa_ (r = fX a xs 0) [vI s xs]):=by
  intro h st
  refine uC _ _ ?_
  unfold nz
  refine Lp.intro (fun (i:Int) h=>∃ n:Nat,i = n∧n ≤ xs.length∧fX a (xs.drop n) n = fX a xs 0∧aO [vI s xs] h) (fun (i:Int) _=>xs.length - i.toNat) ⟨0,rfl,Nat.zero_le _,by simp,st⟩ ?_
  rintro i h ⟨n,rfl,hn,he,st⟩
  have hl:=(cr st (j:=0) rfl).1
  unfold jq
  refine bi (fun k=>?_) (fun k=>?_)
  · have hlt:n < xs.length:=by simp [hl] at k; exact k
    refine dF st (j:=0) rfl (by omega) (by omega) fun q hq=>?_
    refine eC (j:=0) (i:=n) (k:=0) xs[n] (di _) st rfl hq (by simp) (aN hlt) (by simp) ?_
    have hd:xs.drop n = xs[n]::xs.drop (n + 1):=List.drop_eq_getElem_cons hlt
    rw [hd] at he
    refine bi (fun k2=>?_) (fun k2=>?_)
    · have k2':a = xs[n]:=by simpa using k2
      rw [fX,if_pos k2'] at he
      exact ⟨he,st⟩
    · have k2':¬ a = xs[n]:=by simpa using k2
      rw [fX,if_neg k2'] at he
      have hw:IntKind.i64.wrap ((n:Int) + 1) = ((n + 1:Nat):Int):=by rw [cj (by omega) (by omega)]; rfl
      rw [hw]
      exact ⟨⟨n + 1,rfl,hlt,by simpa using he,st⟩,by simp; omega⟩
  · have:n = xs.length:=by simp [hl] at k; omega
    subst this
    simp only [List.drop_length,fX] at he
    exact ⟨he,st⟩
def fS (x:Ptr) (p:List Int):As:=fun h=>∃ bs:Nat × Sl,(x = some (bs.1,0)∧p.length ≤ 16)∧aO [blk bs.1 qp [sv bs.2],vI bs.2 p] h
namespace Pool
def refs (p:List Int) (i:Int):Int:=if i < 0 then 0 else p.getD i.toNat 0
def take (p:List Int):Int × Bool × List Int :=
  if fX 0 p 0 < 0 then (0,false,p) else (fX 0 p 0,true,p.set (fX 0 p 0).toNat 1)
def hold (p:List Int) (i:Int):Bool × List Int :=
  if refs p i = 0∨refs p i ≥ 7 then (false,p) else (true,p.set i.toNat (IntKind.i64.wrap (refs p i + 1)))
def lets (p:List Int) (i:Int):Int × Bool × List Int :=
  if refs p i = 0 then (0,false,p) else (IntKind.i64.wrap (refs p i - 1),true,p.set i.toNat (IntKind.i64.wrap (refs p i - 1)))
def freeFrom:List Int→Int→List Int
  | [],_=>[]
  | x::xs,i=>if x = 0 then i::freeFrom xs (i + 1) else freeFrom xs (i + 1)
def free (p:List Int):List Int:=freeFrom p 0
end Pool
theorem idx_lt (a:Int):∀ (xs:List Int) (i:Int),fX a xs i = -1∨∃ n:Nat,n < xs.length∧fX a xs i = i + n
  | [],_=>.inl rfl
  | x::xs,i=>by
    unfold fX
    split
    · exact .inr ⟨0,by simp,by simp⟩
    · rcases idx_lt a xs (i + 1) with h | ⟨n,h1,h2⟩
      · exact .inl h
      · exact .inr ⟨n + 1,by simp; omega,by rw [h2]; omega⟩
theorem pool_op {x:Ptr} {p:List Int} {l:List As} {h:Hp} (s0:aO (fS x p::l) h):∃ b s,x = some (b,0)∧p.length ≤ 16∧s.len = p.length∧aO (blk b qp [sv s]::vI s p::l) h:=by
  obtain ⟨⟨b,s⟩,⟨hx,hb⟩,st⟩:=op_ s0
  exact ⟨b,s,hx,hb,(cr (j:=1) st rfl).1,st⟩
theorem rN {b:Nat} {s:Sl} {p:List Int} {l:List As} {h:Hp} (hb:p.length ≤ 16) (st:aO (blk b qp [sv s]::vI s p::l) h):aO (fS (some (b,0)) p::l) h:=cl_ (b,s) ⟨rfl,hb⟩ st
theorem sp_pool_New (n:Int) (h1:¬ n < 1) (h2:¬ n > 16):Sp Tryz.prog wN [.int .i64 n] sd [] (fun r=>aO [fS r (List.replicate n.toNat 0)]):=by
  intro h st
  refine sim_pool_New _ ?_
  unfold sh_pool_New
  obtain ⟨m,rfl⟩:=Int.eq_ofNat_of_zero_le (show 0 ≤ n by omega)
  refine dH (by simp; omega) ?_
  refine nF (τ:=Int) (x0:=0) (enc:=cI .i64) (n:=m) (T:=kJ) (m:=1) el_Sint rfl st ?_ ?_ ?_
  · omega
  · omega
  · intro v h' s1
    refine oW s1 fun b h'' s2=>?_
    exact rN (by simp; omega) s2
theorem we (x:Ptr) (p:List Int) (i:Int):Sp Tryz.prog ju [pv x,.int .i64 i] dQ [fS x p] (fun r=>pa_ (r = Pool.refs p i) [fS x p]):=by
  intro h s0
  obtain ⟨b,s,rfl,hb,hl,st⟩:=pool_op s0
  refine sim_pool_Pool_Refs _ _ ?_
  unfold tQ
  refine bi (fun k=>?_) (fun k=>?_)
  · have h0:0 ≤ i:=by simpa using k
    obtain ⟨n,rfl⟩:=Int.eq_ofNat_of_zero_le h0
    refine cK ?_
    refine bA s st (i:=0) rfl rfl rfl ?_
    refine bi (fun k2=>?_) (fun k2=>?_)
    · have:p.length ≤ n:=by rw [hl] at k2; simpa using k2
      exact bg (by simp [Pool.refs,this]) (rN hb st)
    · have hlt:n < p.length:=by rw [hl] at k2; simpa using k2
      refine bA s st (i:=0) rfl rfl rfl ?_
      refine dF st (j:=1) rfl (by omega) (by omega) fun q hq=>?_
      refine eC (j:=1) (i:=n) (k:=0) p[n] (di _) st rfl hq (by simp) (aN hlt) (by simp) ?_
      refine bg ?_ (rN hb st)
      have:¬ ((n:Int) < 0):=by omega
      simp [Pool.refs,hlt,this]
  · have h0:i < 0:=by simpa using k
    exact bg (by simp [Pool.refs,h0]) (rN hb st)
theorem wd (x:Ptr) (p:List Int):Sp Tryz.prog jt [pv x] bU [fS x p] (fun r=>pa_ (r = ((Pool.take p).1,(Pool.take p).2.1)) [fS x (Pool.take p).2.2]):=by
  intro h s0
  obtain ⟨b,s,rfl,hb,hl,st⟩:=pool_op s0
  refine sim_pool_Pool_Take _ ?_
  unfold tP
  refine dH rfl (cK ?_)
  refine bA s st (i:=0) rfl rfl rfl ?_
  refine cR [1] (sp_slices_Index s 0 p (by omega)) st rfl fun r h' s1=>?_
  obtain ⟨hr,s2⟩:=bD.1 s1
  subst hr
  refine bi (fun k=>?_) (fun k=>?_)
  · have k':fX 0 p 0 < 0:=by simpa using k
    have e:Pool.take p = (0,false,p):=if_pos k'
    rw [e]
    exact bg rfl (rN hb (bn [1] s2 rfl))
  · have k':¬ fX 0 p 0 < 0:=by simpa using k
    have e0:Pool.take p = (fX 0 p 0,true,p.set (fX 0 p 0).toNat 1):=if_neg k'
    rw [e0]
    rcases idx_lt 0 p 0 with e | ⟨n,h1,e⟩
    · omega
    · rw [Int.zero_add] at e
      refine bA s s2 (i:=1) rfl rfl rfl ?_
      rw [e]
      refine dF s2 (j:=0) rfl (by omega) (by omega) fun q hq=>?_
      refine st_v (j:=0) (i:=n) (k:=0) (1:Int) (di _) s2 rfl hq (by simp) (aN h1) (by simp) rfl fun h2 s3=>?_
      exact bg rfl (rN (by simpa using hb) (bn [1] s3 rfl))
theorem refs_get {p:List Int} {i:Int} (h:Pool.refs p i ≠ 0):∃ n:Nat,i = n∧∃ hn:n < p.length,Pool.refs p i = p[n]:=by
  unfold Pool.refs at h ⊢
  by_cases h0:i < 0
  · rw [if_pos h0] at h; exact absurd rfl h
  · rw [if_neg h0] at h ⊢
    obtain ⟨n,rfl⟩:=Int.eq_ofNat_of_zero_le (show 0 ≤ i by omega)
    refine ⟨n,rfl,?_⟩
    by_cases hn:n < p.length
    · exact ⟨hn,by simp [hn]⟩
    · simp [List.getD_eq_getElem?_getD,List.getElem?_eq_none (Nat.le_of_not_lt hn)] at h
theorem sp_pool_Hold (x:Ptr) (p:List Int) (i:Int):Sp Tryz.prog lO [pv x,.int .i64 i] aG [fS x p] (fun r=>pa_ (r = (Pool.hold p i).1) [fS x (Pool.hold p i).2]):=by
  intro h s0
  refine sim_pool_Pool_Hold _ _ ?_
  unfold tR
  refine cR [0] (we x p i) s0 rfl fun r h' s1=>?_
  obtain ⟨hr,s2⟩:=bD.1 s1
  subst hr
  refine bi (fun k=>?_) (fun k=>?_)
  · have k':Pool.refs p i = 0∨Pool.refs p i ≥ 7:=by simpa using k
    have e:Pool.hold p i = (false,p):=if_pos k'
    rw [e]
    exact bg rfl s2
  · have k':¬ (Pool.refs p i = 0∨Pool.refs p i ≥ 7):=by simpa using k
    have e:Pool.hold p i = (true,p.set i.toNat (IntKind.i64.wrap (Pool.refs p i + 1))):=if_neg k'
    rw [e]
    obtain ⟨n,rfl,hn,hg⟩:=refs_get (p:=p) (i:=i) (by omega)
    obtain ⟨b,s,rfl,hb,hl,st⟩:=pool_op s2
    refine cK ?_
    refine bA s st (i:=0) rfl rfl rfl ?_
    refine dF st (j:=1) rfl (by omega) (by omega) fun q hq=>?_
    refine eC (j:=1) (i:=n) (k:=0) p[n] (di _) st rfl hq (by simp) (aN hn) (by simp) ?_
    refine st_v (j:=1) (i:=n) (k:=0) (IntKind.i64.wrap (p[n] + 1)) (di _) st rfl hq (by simp) (aN hn) (by simp) rfl fun h2 s3=>?_
    rw [hg]
    exact bg rfl (rN (by simpa using hb) s3)
theorem sp_pool_Let (x:Ptr) (p:List Int) (i:Int):Sp Tryz.prog mR [pv x,.int .i64 i] bU [fS x p] (fun r=>pa_ (r = ((Pool.lets p i).1,(Pool.lets p i).2.1)) [fS x (Pool.lets p i).2.2]):=by
  intro h s0
  refine sim_pool_Pool_Let _ _ ?_
  unfold uZ
  refine cR [0] (we x p i) s0 rfl fun r h' s1=>?_
  obtain ⟨hr,s2⟩:=bD.1 s1
  subst hr
  refine bi (fun k=>?_) (fun k=>?_)
  · have k':Pool.refs p i = 0:=by simpa using k
    have e:Pool.lets p i = (0,false,p):=if_pos k'
    rw [e]
    exact bg rfl s2
  · have k':¬ (Pool.refs p i = 0):=by simpa using k
    have e:Pool.lets p i = (IntKind.i64.wrap (Pool.refs p i - 1),true,p.set i.toNat (IntKind.i64.wrap (Pool.refs p i - 1))):=if_neg k'
    rw [e]
    obtain ⟨n,rfl,hn,hg⟩:=refs_get (p:=p) (i:=i) k'
    obtain ⟨b,s,rfl,hb,hl,st⟩:=pool_op s2
    refine cK ?_
    refine bA s st (i:=0) rfl rfl rfl ?_
    refine dF st (j:=1) rfl (by omega) (by omega) fun q hq=>?_
    refine eC (j:=1) (i:=n) (k:=0) p[n] (di _) st rfl hq (by simp) (aN hn) (by simp) ?_
    refine st_v (j:=1) (i:=n) (k:=0) (IntKind.i64.wrap (p[n] - 1)) (di _) st rfl hq (by simp) (aN hn) (by simp) rfl fun h2 s3=>?_
    refine bA s s3 (i:=0) rfl rfl rfl ?_
    refine dF s3 (j:=1) rfl (by omega) (by simp; omega) fun q2 hq2=>?_
    refine eC (j:=1) (i:=n) (k:=0) (IntKind.i64.wrap (p[n] - 1)) (di _) s3 rfl hq2 (by simp) (x:=IntKind.i64.wrap (p[n] - 1)) (by simp [hn]) (by simp) ?_
    rw [hg]
    exact bg rfl (rN (by simpa using hb) s3)
theorem free_append:∀ (xs:List Int) (i:Int) (x:Int),Pool.freeFrom (xs++[x]) i = Pool.freeFrom xs i++(if x = 0 then [i + xs.length] else [])
  | [],i,x=>by simp only [List.nil_append,Pool.freeFrom]; split <;> simp
  | y::xs,i,x=>by
    simp only [List.cons_append,Pool.freeFrom]
    rw [free_append xs (i + 1) x]
    have e:i + 1 + (xs.length:Int) = i + ((y::xs).length:Int):=by simp; omega
    rw [e]
    split <;> simp
theorem free_len:∀ (xs:List Int) (i:Int),(Pool.freeFrom xs i).length ≤ xs.length
  | [],_=>Nat.le_refl _
  | x::xs,i=>by unfold Pool.freeFrom; have:=free_len xs (i + 1); split <;> simp <;> omega
theorem vR {l:List As} {h:Hp} {i:Nat} {s:Sl} {xs:List Int} {x:Int} {K:Sl→Hp→Prop} (st:aO l h) (hi:l[i]? = some (vI s xs)) (hb:xs.length < 2 ^ 40)
    (k:∀ v h',aO (l.set i (vI v (xs++[x]))) h'→K v h'):hpv Tryz.prog (Instr.buildSlice dN 1 #[(0,.int .i64 x)]) cz (fun y=>hpv Tryz.prog (Builtin.append_ #[dN,dN] dN #[sv s,sv y]) cz K) h:=by
  refine fz (τ:=Int) [x] (val:=fun x=>.int .i64 x) (enc:=cI .i64) el_Sint (di _) (fun _=>rfl) st rfl rfl (by simp) fun y h' s1=>?_
  have hlt:=(List.getElem?_eq_some_iff.1 hi).1
  refine tF (τ:=Int) (i:=i + 1) (j:=0) (enc:=cI .i64) (ys:=[x]) el_Sint el_Sint.sl (di _) (oneI _) s1 (by simpa using hi) rfl (by omega) (by simp; omega) (by simp; omega) fun v h2 s2=>?_
  exact k v h2 (co (l:=[vI y [x]]) (by simpa using s2))
theorem sp_pool_Free (x:Ptr) (p:List Int):Sp Tryz.prog lP [pv x] cz [fS x p] (fun r=>aO [vI r (Pool.free p),fS x p]):=by
  intro h s0
  obtain ⟨b,s,rfl,hb,hl,st⟩:=pool_op s0
  refine sim_pool_Pool_Free _ ?_
  unfold tS
  refine dH rfl (cK ?_)
  refine bA s st (i:=0) rfl rfl rfl ?_
  refine Lp.intro (fun (z:Sl × Int) h=>∃ n:Nat,z.2 = n∧n ≤ p.length∧aO [vI z.1 (Pool.freeFrom (p.take n) 0),blk b qp [sv s],vI s p] h) (fun (z:Sl × Int) _=>p.length - z.2.toNat) ⟨0,rfl,Nat.zero_le _,eN st⟩ ?_
  rintro ⟨z,i⟩ h ⟨n,rfl,hn,s1⟩
  unfold oy
  refine bi (fun k=>?_) (fun k=>?_)
  · have hlt:n < p.length:=by rw [hl] at k; simpa using k
    have hw:IntKind.i64.wrap ((n:Int) + 1) = ((n + 1:Nat):Int):=by rw [cj (by omega) (by omega)]; rfl
    have ht:p.take (n + 1) = p.take n++[p[n]]:=by simp
    have hlen:((p.take n).length:Int) = n:=by simp; omega
    refine dF s1 (j:=2) rfl (by omega) (by show (n:Int) < _; omega) fun q hq=>?_
    refine eC (j:=2) (i:=n) (k:=0) p[n] (di _) s1 rfl hq (by simp) (aN hlt) (by simp) ?_
    refine bi (fun k2=>?_) (fun k2=>?_)
    · have k2':p[n] = 0:=by simpa using k2
      refine vR s1 (i:=0) rfl ?_ fun v h' s2=>?_
      · have:=free_len (p.take n) 0; simp at this ⊢; omega
      · rw [hw]
        refine ⟨⟨n + 1,rfl,hlt,?_⟩,by simp; omega⟩
        rw [ht,free_append,if_pos k2',hlen,Int.zero_add]
        exact s2
    · have k2':¬ p[n] = 0:=by simpa using k2
      rw [hw]
      refine ⟨⟨n + 1,rfl,hlt,?_⟩,by simp; omega⟩
      rw [ht,free_append,if_neg k2',List.append_nil]
      exact s1
  · have:n = p.length:=by rw [hl] at k; simp at k; omega
    subst this
    rw [List.take_length] at s1
    exact ko (.cons _ (.refl _)) (bn (l:=[vI z (Pool.freeFrom p 0),fS (some (b,0)) p]) [0] (by
      have:=bn [1,1] s1 rfl
      exact bn [1] (rN hb this) rfl) rfl)
def Pool.bitsOf (w:Int):List Int→Int
  | []=>w
  | i::l=>Pool.bitsOf (ior .u64 w (IntKind.u64.wrap (1 * 2 ^ (min (Int.toNat i) (IntKind.bits .u64))))) l
def Pool.bits (p:List Int):Int:=Pool.bitsOf 0 (Pool.free p)
theorem free_ge:∀ (xs:List Int) (i:Int),0 ≤ i→∀ j ∈ Pool.freeFrom xs i,0 ≤ j
  | [],_,_,_,h=>by cases h
  | x::xs,i,hi,j,h=>by
    unfold Pool.freeFrom at h
    split at h
    · rcases List.mem_cons.1 h with rfl | h
      · exact hi
      · exact free_ge xs (i + 1) (by omega) j h
    · exact free_ge xs (i + 1) (by omega) j h
theorem bits_append (a:Int):∀ (l:List Int) (w:Int),Pool.bitsOf w (l++[a]) = ior .u64 (Pool.bitsOf w l) (IntKind.u64.wrap (1 * 2 ^ (min (Int.toNat a) (IntKind.bits .u64))))
  | [],_=>rfl
  | _::l,w=>by simp only [List.cons_append,Pool.bitsOf]; exact bits_append a l _
theorem sp_pool_Bits (x:Ptr) (p:List Int):Sp Tryz.prog pO [pv x] gJ [fS x p] (fun r=>pa_ (r = Pool.bits p) [fS x p]):=by
  intro h s0
  have hp16:p.length ≤ 16:=by obtain ⟨_,_,_,hb,_⟩:=pool_op s0; exact hb
  refine sim_pool_Pool_Bits _ ?_
  unfold tT
  refine cR [0] (sp_pool_Free x p) s0 rfl fun r h1 s1=>?_
  have s2:=dJ s1
  have hl:=(cr (j:=0) s2 rfl).1
  have hfl:=free_len p 0
  refine Lp.intro (fun (z:Int × Int) h=>∃ n:Nat,z.2 = n∧n ≤ (Pool.free p).length∧z.1 = Pool.bitsOf 0 ((Pool.free p).take n)∧aO [vI r (Pool.free p),fS x p] h) (fun (z:Int × Int) _=>(Pool.free p).length - z.2.toNat) ⟨0,rfl,Nat.zero_le _,rfl,s2⟩ ?_
  rintro ⟨w,i⟩ h ⟨n,rfl,hn,rfl,s3⟩
  unfold oz
  refine bi (fun k=>?_) (fun k=>?_)
  · have hlt:n < (Pool.free p).length:=by rw [hl] at k; simpa using k
    have hw:IntKind.i64.wrap ((n:Int) + 1) = ((n + 1:Nat):Int):=by
      have:(Pool.free p).length ≤ 16:=by unfold Pool.free; omega
      rw [cj (by omega) (by omega)]; rfl
    refine dF s3 (j:=0) rfl (by omega) (by show (n:Int) < _; omega) fun q hq=>?_
    refine eC (j:=0) (i:=n) (k:=0) (Pool.free p)[n] (di _) s3 rfl hq (by simp) (aN hlt) (by simp) ?_
    refine ⟨free_ge p 0 (Int.le_refl _) _ (List.getElem_mem hlt),?_⟩
    rw [hw]
    refine ⟨⟨n + 1,rfl,hlt,?_,s3⟩,by simp; omega⟩
    have ht:(Pool.free p).take (n + 1) = (Pool.free p).take n++[(Pool.free p)[n]]:=by simp
    rw [ht,bits_append]
  · have:n = (Pool.free p).length:=by rw [hl] at k; simp at k; omega
    subst this
    refine bg ?_ (co (l:=[vI r (Pool.free p)]) s3)
    rw [List.take_length]; rfl
end Go.Proofs.YtniiiakkdoiaiaaGreatDoor
namespace Go.Proofs.YtniiiakkdoiaiaaGreatDoor
open Go Mb
set_option linter.unusedVariables false
def sh_table_New (K:Ptr→Hp→Prop):Hp→Prop:=hpv Tryz.prog (Instr.build km #[]) encL fun (v1:(List Value))=>nw km v1 fun b2=>K (some (b2,0))
set_option maxRecDepth 20000 in
theorem sim_table_New {K:Ptr→Hp→Prop} {h:Hp} (H:sh_table_New K h):Ct Tryz.prog lc #[] h fun v h'=>∃ r,v = ij r∧K r h':=aA [] Tryz.func93 rfl rfl rfl fun _=>ag<|ab<|aa (ae rfl) rfl<|ad<|ag<|ab<|aj (be H (x_build (vs:=[]) rfl) rfl fun v1 _ H1=>aj (hO rfl rfl rfl H1 fun b2 _ H2=>aa (ae rfl) rfl<|ad<|ao<|aw (ay rfl (aD rfl)) ⟨(some (b2,0)),rfl,H2⟩))
def iC (a0:Ptr) (a1:Int) (K:(ar × Bool)→Hp→Prop) (s1:Bool):Hp→Prop:=br s1 ( K ((⟨0,0,0⟩:ar),false)) ( nn a0 fun q26=>gd (0 ≤ a1∧a1 < 8)<|ld (q26.1,q26.2 + 0 + Int.toNat a1 * 3) ar.C fun x29=>K (x29,true))
def tO (a0:Ptr) (a1:Int) (K:(ar × Bool)→Hp→Prop):Hp→Prop:=br (!(a0.isNone || (!(cG a1)))) ( nn a0 fun q16=>gd (0 ≤ a1∧a1 < 8)<|ld (q16.1,q16.2 + 0 + Int.toNat a1 * 3 + 2) (cI .i64) fun x20=>iC a0 a1 K (x20 == 0)) ( iC a0 a1 K true)
set_option maxRecDepth 20000 in
theorem sim_table_Table_At (a0:Ptr) (a1:Int) {K:(ar × Bool)→Hp→Prop} {h:Hp} (H:tO a0 a1 K h):Ct Tryz.prog eW #[(pv a0),(.int .i64 a1)] h fun v h'=>∃ r,v = cm r∧K r h':=aA [(pv a0),(.int .i64 a1)] Tryz.func119 rfl rfl rfl fun _=>ag<|ab<|aj (aW (l:=(ar.C (⟨0,0,0⟩:ar))) ft rfl rfl fun b4=>aa (ae rfl) rfl<|ad<|ag<|eG (iC a0 a1 K) (fun s1=>[(0,(pv a0)),(1,(.int .i64 a1)),(4,(.pointer (some ⟨b4,0,none⟩))),(22,(.bool s1))]) (fun s1=>[bx b4 74 (ar.C (⟨0,0,0⟩:ar))]) ( ab<|aa (ac rfl) rfl<|aa (ct Tryz.underlying133 rfl) rfl<|aa (ac rfl) rfl<|ak rfl rfl rfl (aX _) (fun g10=>wv (ac rfl)) rfl<|dc (vs:=[(.int .i64 a1)]) rfl rfl rfl (aX _) (fun g11=>(bG (uv a1 _))) en_140 (fun g11=>(aT (aK rfl g11) bM)) rfl<|ak rfl rfl rfl (aX _) (fun g12=>wv (cu (aK rfl g12))) rfl<|aa (dD rfl rfl) rfl<|aa (ac rfl) rfl<|ak rfl rfl rfl (aX _) (fun g13=>wv (ac rfl)) rfl<|ak rfl rfl rfl (aX _) (fun g14=>wv (ac rfl)) rfl<|bO H (fun k16 H17=>bJ H17 fun q16 e18 H19=>aF rfl rfl rfl (congrArg Value.bool (cf k16)) (aJ (wv (aS (aV (aK rfl k16) (ax e18)))) rfl<|aF rfl rfl rfl (congrArg Value.bool (cf k16)) (aJ (wv (am kr rfl)) rfl<|je H19 fun h20 H21=>aF rfl rfl rfl (congrArg Value.bool (cf k16)) (aJ (wv (bL sc rfl (aK rfl k16) h20)) rfl<|aF rfl rfl rfl (congrArg Value.bool (cf k16)) (aJ (wv (am eM rfl)) rfl<|aF rfl rfl rfl (congrArg Value.bool (cf k16)) (bd H21 bk rfl (fun _=>rfl) rfl fun x20 H22=>aF rfl rfl rfl (congrArg Value.bool (cf k16)) (aJ (wv (bV rfl rfl)) rfl<|aa (an rfl (cf k16) rfl) rfl<|ad<|cO (x20 == 0) H22 (.cons rfl (.cons rfl (.cons rfl (.cons rfl (.nil _))))) (.cons_cons _ .slnil)))))))) (fun k16 H17=>ah rfl rfl rfl (cc (bH k16)) rfl<|ah rfl rfl rfl (cc (bH k16)) rfl<|ah rfl rfl rfl (cc (bH k16)) rfl<|ah rfl rfl rfl (cc (bH k16)) rfl<|ah rfl rfl rfl (cc (bH k16)) rfl<|ah rfl rfl rfl (cc (bH k16)) rfl<|aa (ba rfl (bH k16) rfl) rfl<|ad<|cO true H17 (.cons rfl (.cons rfl (.cons rfl (.cons rfl (.nil _))))) (.cons_cons _ .slnil))) (fun s1 _ H2=>aE rfl H2 (fun k3 H4=>ag<|ab<|aa (bj (vs:=[]) rfl lC) rfl<|aj (bb (k:=0) (vs:=(ar.C (⟨0,0,0⟩:ar))) dG rfl rfl rfl rfl rfl rfl rfl<|aa (ae rfl) rfl<|ad<|ao<|aw (bW rfl (bI (k:=0) rfl fo rfl rfl) (aD rfl)) ⟨((⟨0,0,0⟩:ar),false),rfl,H4⟩)) (fun k3 H4=>av<|ag<|ab<|aa (ac rfl) rfl<|aa (ac rfl) rfl<|bJ H4 fun q26 e5 H6=>aa (aS (aV rfl (ax e5))) rfl<|aa (am kr rfl) rfl<|je H6 fun h7 H8=>aa (bL sc rfl rfl h7) rfl<|aj (hH H8 fo rfl (fun _=>rfl) rfl fun x29 H9=>aj (bb (k:=0) (vs:=(ar.C x29)) dG rfl rfl rfl rfl rfl rfl rfl<|aa (ae rfl) rfl<|ad<|ao<|aw (bW rfl (bI (k:=0) rfl fo rfl rfl) (aD rfl)) ⟨(x29,true),rfl,H9⟩)))))
def oZ (a0:Ptr) (a1:Int) (a2:ar) (K:Int→Hp→Prop):Hp→Prop:=br a0.isNone ( K 10) ( br (((!(gy a2).2) || (a2.fRights == 0)) || (!(cG a1))) ( K 2) ( nn a0 fun q30=>gd (0 ≤ a1∧a1 < 8)<|ld (q30.1,q30.2 + 0 + Int.toNat a1 * 3 + 2) (cI .i64) fun x34=>br (x34 != 0) ( K 4) ( st (q30.1,q30.2 + 0 + Int.toNat a1 * 3) (ar.C a2)<|K 0)))
set_option maxRecDepth 20000 in
theorem wl (a0:Ptr) (a1:Int) (a2:ar) {K:Int→Hp→Prop} {h:Hp} (H:oZ a0 a1 a2 K h):Ct Tryz.prog ee #[(pv a0),(.int .i64 a1),(.agg (ar.C a2).toArray)] h fun v h'=>∃ r,v = bu r∧K r h':=aA [(pv a0),(.int .i64 a1),(.agg (ar.C a2).toArray)] Tryz.func97 rfl rfl rfl fun _=>ag<|ab<|aj (cQ (l:=(ar.C a2)) rfl rfl rfl fun b5=>aa (ae rfl) rfl<|ad<|ag<|ag<|ab<|aa (ac rfl) rfl<|aa (ct Tryz.underlying133 rfl) rfl<|ad<|aE rfl H (fun k1 H2=>ag<|ab<|aa (ae rfl) rfl<|ad<|ao<|aw (ay rfl (aD rfl)) ⟨10,rfl,H2⟩) (fun k1 H2=>av<|ag<|ag<|ab<|bw (bP (k:=0) fo rfl rfl rfl rfl) rfl<|aj (cN (vs:=[(.agg (ar.C a2).toArray)]) (bG (ct_pte_Put a2 _)) en_139 rfl rfl<|aa (ac rfl) rfl<|aa (aq rfl rfl) rfl<|aa (aq rfl rfl) rfl<|aa (ae rfl) rfl<|aa (ae rfl) rfl<|ad<|ag<|ab<|aa (ac rfl) rfl<|aa (cu rfl) rfl<|aa (ac rfl) rfl<|ak rfl rfl rfl (aX _) (fun g3=>wv (am eM rfl)) rfl<|ak rfl rfl rfl (aX _) (fun g4=>cv (bt (k:=0) bk (aK rfl g4) rfl rfl)) rfl<|ak rfl rfl rfl (aX _) (fun g5=>wv (bV (aK rfl g5) rfl)) rfl<|aa (dD rfl rfl) rfl<|aa (ac rfl) rfl<|ak rfl rfl rfl (aX _) (fun g6=>wv (ac rfl)) rfl<|dc (vs:=[(.int .i64 a1)]) rfl rfl rfl (aX _) (fun g7=>(bG (uv a1 _))) en_140 (fun g7=>(aT (aK rfl g7) bM)) rfl<|ak rfl rfl rfl (aX _) (fun g8=>wv (cu (aK rfl g8))) rfl<|aa (dD rfl rfl) rfl<|ad<|aE rfl H2 (fun k9 H10=>ag<|ab<|aa (ae rfl) rfl<|ad<|ao<|aw (ay rfl (aD rfl)) ⟨2,rfl,H10⟩) (fun k9 H10=>av<|ag<|ag<|ab<|aa (ac rfl) rfl<|aa (ac rfl) rfl<|bJ H10 fun q30 e11 H12=>aa (aS (aV rfl (ax e11))) rfl<|aa (am kr rfl) rfl<|je H12 fun h13 H14=>aa (bL sc rfl rfl h13) rfl<|aa (am eM rfl) rfl<|aj (bd H14 bk rfl (fun _=>rfl) rfl fun x34 H15=>aa (pC rfl rfl) rfl<|ad<|aE rfl H15 (fun k16 H17=>ag<|ab<|aa (ae rfl) rfl<|ad<|ao<|aw (ay rfl (aD rfl)) ⟨4,rfl,H17⟩) (fun k16 H17=>av<|ag<|bB (n:=7) [bx b5 74 (ar.C a2)] cA rfl (.cons_cons _ .slnil)<|ai (i:=0) (fun _ _ _ _=>id) rfl (by kernel_rfl) rfl (ve (ac (aV rfl (ax e11))))<|ai (i:=1) (fun _ _ _ _=>id) rfl (by kernel_rfl) rfl (ve (ac rfl))<|ai (i:=2) (fun _ _ _ _=>id) rfl (by kernel_rfl) rfl (eD (k:=0) fo rfl rfl rfl rfl)<|ai (i:=3) (fun _ _ _ _=>id) rfl (by kernel_rfl) rfl (ve (aS rfl))<|ai (i:=4) (fun _ _ _ _=>id) rfl (by kernel_rfl) rfl (ve (am kr rfl))<|ai (i:=5) (fun _ _ _ _=>id) rfl (by kernel_rfl) rfl (ve (bL sc rfl rfl h13))<|bh (i:=6) (by kernel_rfl) (aI rfl rfl (dz dG rfl rfl rfl rfl rfl H17 fun _ H18=>⟨(.cons_cons _ .slnil),bf (by kernel_rfl)<|ag<|ab<|aa (ae rfl) rfl<|ad<|ao<|aw (ay rfl (aD rfl)) ⟨0,rfl,H18⟩⟩))))))))
def oY (a0:Ptr) (a1:Int) (K:(ar × Int)→Hp→Prop):Hp→Prop:=br a0.isNone ( K ((⟨0,0,0⟩:ar),10)) ( br (!(cG a1)) ( K ((⟨0,0,0⟩:ar),2)) ( nn a0 fun q19=>gd (0 ≤ a1∧a1 < 8)<|ld (q19.1,q19.2 + 0 + Int.toNat a1 * 3 + 2) (cI .i64) fun x23=>br (x23 == 0) ( K ((⟨0,0,0⟩:ar),3)) ( ld (q19.1,q19.2 + 0 + Int.toNat a1 * 3) ar.C fun x31=>st (q19.1,q19.2 + 0 + Int.toNat a1 * 3) (ar.C (⟨0,0,0⟩:ar))<|K (x31,0))))
set_option maxRecDepth 20000 in
theorem wk (a0:Ptr) (a1:Int) {K:(ar × Int)→Hp→Prop} {h:Hp} (H:oY a0 a1 K h):Ct Tryz.prog iK #[(pv a0),(.int .i64 a1)] h fun v h'=>∃ r,v = jn r∧K r h':=aA [(pv a0),(.int .i64 a1)] Tryz.func113 rfl rfl rfl fun _=>ag<|ab<|aj (aW (l:=(ar.C (⟨0,0,0⟩:ar))) ft rfl rfl fun b4=>aa (ae rfl) rfl<|ad<|ag<|aH<|ag<|ab<|aa (ac rfl) rfl<|aa (ct Tryz.underlying133 rfl) rfl<|aa (ae rfl) rfl<|ad<|aE rfl H (fun k1 H2=>ag<|ab<|aa (bj (vs:=[]) rfl lC) rfl<|aj (bb (k:=0) (vs:=(ar.C (⟨0,0,0⟩:ar))) dG rfl rfl rfl rfl rfl rfl rfl<|aa (ae rfl) rfl<|ad<|ao<|aw (bW rfl (bI (k:=0) rfl fo rfl rfl) (aD rfl)) ⟨((⟨0,0,0⟩:ar),10),rfl,H2⟩)) (fun k1 H2=>ag<|ab<|aa (ac rfl) rfl<|aj (cN (vs:=[(.int .i64 a1)]) (bG (uv a1 _)) en_140 rfl rfl<|aa (cu rfl) rfl<|aa (ae rfl) rfl<|ad<|aE rfl H2 (fun k3 H4=>ag<|ab<|aa (bj (vs:=[]) rfl lC) rfl<|aj (bb (k:=0) (vs:=(ar.C (⟨0,0,0⟩:ar))) dG rfl rfl rfl rfl rfl rfl rfl<|aa (ae rfl) rfl<|ad<|ao<|aw (bW rfl (bI (k:=0) rfl fo rfl rfl) (aD rfl)) ⟨((⟨0,0,0⟩:ar),2),rfl,H4⟩)) (fun k3 H4=>ag<|ab<|aa (ac rfl) rfl<|aa (ac rfl) rfl<|bJ H4 fun q19 e5 H6=>aa (aS (aV rfl (ax e5))) rfl<|aa (am kr rfl) rfl<|je H6 fun h7 H8=>aa (bL sc rfl rfl h7) rfl<|aa (am eM rfl) rfl<|aj (bd H8 bk rfl (fun _=>rfl) rfl fun x23 H9=>aa (bV rfl rfl) rfl<|aa (ae rfl) rfl<|ad<|aE rfl H9 (fun k10 H11=>ag<|ab<|aa (bj (vs:=[]) rfl lC) rfl<|aj (bb (k:=0) (vs:=(ar.C (⟨0,0,0⟩:ar))) dG rfl rfl rfl rfl rfl rfl rfl<|aa (ae rfl) rfl<|ad<|ao<|aw (bW rfl (bI (k:=0) rfl fo rfl rfl) (aD rfl)) ⟨((⟨0,0,0⟩:ar),3),rfl,H11⟩)) (fun k10 H11=>av<|ag<|ab<|aa (ac (aV rfl (ax e5))) rfl<|aa (ac rfl) rfl<|aa (aS rfl) rfl<|aa (am kr rfl) rfl<|aa (bL sc rfl rfl h7) rfl<|aj (hH H11 fo rfl (fun _=>rfl) rfl fun x31 H12=>aj (aW (l:=(ar.C (⟨0,0,0⟩:ar))) ft rfl rfl fun b6=>aj (bb (k:=0) (vs:=(ar.C x31)) dG rfl rfl rfl rfl rfl rfl rfl<|ad<|ag<|ab<|aa (ac (aV rfl (ax e5))) rfl<|aa (ac rfl) rfl<|aa (bj (vs:=[]) rfl lC) rfl<|aa (aS rfl) rfl<|aa (am kr rfl) rfl<|aa (bL sc rfl rfl h7) rfl<|aj (dz dG rfl rfl rfl rfl rfl H12 fun _ H13=>ad<|ag<|ab<|bw (bP (k:=0) fo rfl rfl rfl rfl) rfl<|aj (bb (k:=1) (vs:=(ar.C x31)) dG rfl rfl rfl rfl rfl rfl rfl<|aa (ae rfl) rfl<|ad<|ao<|aw (bW rfl (bI (k:=1) rfl fo rfl rfl) (aD rfl)) ⟨(x31,0),rfl,H13⟩)))))))))))
def nS (a1:Int) (K:Sl→Hp→Prop) (v13:(List Value)) (Rec8:(Sl × Int)→Hp→Prop) (s7:Sl × Int):Hp→Prop:=br (decide (s7.2 < 8)) ( hpv Tryz.prog (Instr.index tM (.agg v13.toArray) (.int .i64 s7.2)) vW fun (v17:ar)=>br ((v17.fRights != 0) && (v17.fSlot == a1)) ( hpv Tryz.prog (Instr.buildSlice dN 1 #[(0,(.int .i64 s7.2))]) cz fun (v29:Sl)=>hpv Tryz.prog (Builtin.append_ #[dN,dN] dN #[(sv s7.1),(sv v29)]) cz fun (v30:Sl)=>Rec8 (v30,(IntKind.i64.wrap (s7.2 + 1)))) ( Rec8 (s7.1,(IntKind.i64.wrap (s7.2 + 1))))) ( K s7.1)
def tN (a0:Ptr) (a1:Int) (K:Sl→Hp→Prop):Hp→Prop:=br a0.isNone ( K (⟨none,0,0,none⟩:Sl)) ( nn a0 fun q11=>hpv Tryz.prog (Instr.loadAt tM (.pointer (some ⟨q11.1,q11.2 + 0,none⟩))) encL fun (v13:(List Value))=>Lp (nS a1 K v13) ((⟨none,0,0,none⟩:Sl),0))
set_option maxRecDepth 20000 in
theorem sim_table_Table_By (a0:Ptr) (a1:Int) {K:Sl→Hp→Prop} {h:Hp} (H:tN a0 a1 K h):Ct Tryz.prog lN #[(pv a0),(.int .i64 a1)] h fun v h'=>∃ r,v = cz r∧K r h':=aA [(pv a0),(.int .i64 a1)] Tryz.func159 rfl rfl rfl fun _=>ag<|ab<|aa (ae rfl) rfl<|ad<|ag<|ag<|ab<|aa (ac rfl) rfl<|aa (ct Tryz.underlying133 rfl) rfl<|ad<|aE rfl H (fun k1 H2=>ag<|ab<|aa (ae rfl) rfl<|ad<|ao<|aw (ay rfl (aD rfl)) ⟨(⟨none,0,0,none⟩:Sl),rfl,H2⟩) (fun k1 H2=>av<|ag<|ab<|aa (ae rfl) rfl<|ad<|ag<|ag<|ab<|aa (ac rfl) rfl<|bJ H2 fun q11 e3 H4=>aa (aS (aV rfl (ax e3))) rfl<|aa (am kr rfl) rfl<|aj (be H4 (x_load rfl) rfl fun v13 _ H6=>aa (ac rfl) rfl<|ad<|aH<|bR (step:=nS a1 K v13) (fun s7=>[(1,(.int .i64 a1)),(5,(sv s7.1)),(13,(.agg v13.toArray)),(14,(.int .i64 s7.2))]) (fun s7=>[]) H6 (.cons rfl (.cons rfl (.cons rfl (.cons rfl (.nil _))))) .slnil (fun Rec8 s7 _ H9=>ag<|ab<|aa (cH rfl rfl) rfl<|ad<|ag<|aE rfl H9 (fun k10 H11=>av<|ag<|aH<|ag<|ab<|aa (ac rfl) rfl<|aj (be H11 (x_index rfl rfl) rfl fun v17 _ H12=>aj (aW (l:=(ar.C (⟨0,0,0⟩:ar))) ft rfl rfl fun b7=>aa (ae rfl) rfl<|aj (bb (k:=0) (vs:=(ar.C v17)) dG rfl rfl rfl rfl rfl rfl rfl<|ad<|ag<|ab<|aa (am eM rfl) rfl<|bw (bt (k:=0) bk rfl rfl rfl) rfl<|aa (pC rfl rfl) rfl<|aa (ac rfl) rfl<|ak rfl rfl rfl (aB _) (fun g13=>wv (am tk rfl)) rfl<|ak rfl rfl rfl (aB _) (fun g14=>cv (bt (k:=0) bk (aK rfl g14) rfl rfl)) rfl<|ak rfl rfl rfl (aB _) (fun g15=>wv (ac rfl)) rfl<|ak rfl rfl rfl (aB _) (fun g16=>wv (bV (aK rfl g16) (aK rfl g16))) rfl<|aa (bX rfl rfl) rfl<|ad<|aE rfl H12 (fun k17 H18=>ab<|aa (ac rfl) rfl<|aa (ac rfl) rfl<|aj (be H18 (bF (vs:=[(.int .i64 s7.2)]) rfl) rfl fun v29 _ H19=>aj (be H19 (dM rfl rfl) rfl fun v30 _ H20=>aa (ae rfl) rfl<|ad<|ab<|aa (bK rfl rfl) rfl<|aa (ac rfl) rfl<|ad<|cU (v30,(IntKind.i64.wrap (s7.2 + 1))) H20 (.cons rfl (.cons rfl (.cons rfl (.cons rfl (.nil _))))) (.cons _ .slnil)))) (fun k17 H18=>av<|ab<|aa (bK rfl rfl) rfl<|aa (ac rfl) rfl<|ad<|cU (s7.1,(IntKind.i64.wrap (s7.2 + 1))) H18 (.cons rfl (.cons rfl (.cons rfl (.cons rfl (.nil _))))) (.cons _ .slnil)))))) (fun k10 H11=>bz<|ag<|ab<|aa (ac rfl) rfl<|aa (ae rfl) rfl<|ad<|ao<|aw (ay rfl (aD rfl)) ⟨s7.1,rfl,H11⟩))))
def nY (a0:Ptr) (a1:Int) (a2:Int) (K:Int→Hp→Prop):Hp→Prop:=br a0.isNone ( K 10) ( br ((!(cG a1)) || (!(cJ a2))) ( K 2) ( nn a0 fun q22=>gd (0 ≤ a1∧a1 < 8)<|ld (q22.1,q22.2 + 0 + Int.toNat a1 * 3 + 2) (cI .i64) fun x26=>br (x26 == 0) ( K 3) ( st (q22.1,q22.2 + 0 + Int.toNat a1 * 3 + 2) [.int .i64 a2]<|K 0)))
set_option maxRecDepth 20000 in
theorem uO (a0:Ptr) (a1:Int) (a2:Int) {K:Int→Hp→Prop} {h:Hp} (H:nY a0 a1 a2 K h):Ct Tryz.prog ky #[(pv a0),(.int .i64 a1),(.int .i64 a2)] h fun v h'=>∃ r,v = bu r∧K r h':=aA [(pv a0),(.int .i64 a1),(.int .i64 a2)] Tryz.func161 rfl rfl rfl fun _=>ag<|ab<|aa (ae rfl) rfl<|ad<|ag<|aH<|ag<|ab<|aa (ac rfl) rfl<|aa (ct Tryz.underlying133 rfl) rfl<|aa (ae rfl) rfl<|ad<|aE rfl H (fun k1 H2=>ag<|ab<|aa (ae rfl) rfl<|ad<|ao<|aw (ay rfl (aD rfl)) ⟨10,rfl,H2⟩) (fun k1 H2=>ag<|ab<|aa (ac rfl) rfl<|aj (cN (vs:=[(.int .i64 a1)]) (bG (uv a1 _)) en_140 rfl rfl<|aa (cu rfl) rfl<|aa (ac rfl) rfl<|ak rfl rfl rfl (aX _) (fun g3=>wv (ac rfl)) rfl<|dc (vs:=[(.int .i64 a2)]) rfl rfl rfl (aX _) (fun g4=>(bG (pY a2 _))) en_150 (fun g4=>(aT (aK rfl g4) bM)) rfl<|ak rfl rfl rfl (aX _) (fun g5=>wv (cu (aK rfl g5))) rfl<|aa (dD rfl rfl) rfl<|aa (ae rfl) rfl<|ad<|aE rfl H2 (fun k6 H7=>ag<|ab<|aa (ae rfl) rfl<|ad<|ao<|aw (ay rfl (aD rfl)) ⟨2,rfl,H7⟩) (fun k6 H7=>ag<|ab<|aa (ac rfl) rfl<|aa (ac rfl) rfl<|bJ H7 fun q22 e8 H9=>aa (aS (aV rfl (ax e8))) rfl<|aa (am kr rfl) rfl<|je H9 fun h10 H11=>aa (bL sc rfl rfl h10) rfl<|aa (am eM rfl) rfl<|aj (bd H11 bk rfl (fun _=>rfl) rfl fun x26 H12=>aa (bV rfl rfl) rfl<|aa (ae rfl) rfl<|ad<|aE rfl H12 (fun k13 H14=>ag<|ab<|aa (ae rfl) rfl<|ad<|ao<|aw (ay rfl (aD rfl)) ⟨3,rfl,H14⟩) (fun k13 H14=>av<|ag<|ab<|aa (ac (aV rfl (ax e8))) rfl<|aa (ac rfl) rfl<|aa (ac rfl) rfl<|aa (aS rfl) rfl<|aa (am kr rfl) rfl<|aa (bL sc rfl rfl h10) rfl<|aa (am eM rfl) rfl<|aj (dz pA rfl rfl rfl rfl rfl H14 fun _ H15=>ad<|ag<|ab<|aa (ae rfl) rfl<|ad<|ao<|aw (ay rfl (aD rfl)) ⟨0,rfl,H15⟩))))))
end Go.Proofs.YtniiiakkdoiaiaaGreatDoor
namespace Go.Proofs.YtniiiakkdoiaiaaGreatDoor
open Go Mb
abbrev Pte:=ar
theorem ji (p:Pte):p.C.length = 3:=rfl
abbrev eB:Pte:=⟨0,0,0⟩
def da (x:Ptr) (ps:List Pte):As:=fun h=>∃ b:Nat,(x = some (b,0)∧ps.length = 8)∧aO [blk b km ([]++(ps.flatMap ar.C++[]))] h
theorem table_op {x:Ptr} {ps:List Pte} {l:List As} {h:Hp} (s0:aO (da x ps::l) h):∃ b,x = some (b,0)∧ps.length = 8∧aO (blk b km ([]++(ps.flatMap ar.C++[]))::l) h:=by
  obtain ⟨b,⟨hx,hb⟩,st⟩:=op_ s0
  exact ⟨b,hx,hb,st⟩
theorem iB {b:Nat} {ps:List Pte} {l:List As} {h:Hp} (hb:ps.length = 8) (st:aO (blk b km ([]++(ps.flatMap ar.C++[]))::l) h):aO (da (some (b,0)) ps::l) h:=cl_ b ⟨rfl,hb⟩ st
namespace Table
def at_ (ps:List Pte) (i:Int):Pte:=ps.getD i.toNat eB
def get (ps:List Pte) (i:Int):Pte × Bool:=if cG i = true∧(at_ ps i).fRights ≠ 0 then (at_ ps i,true) else (eB,false)
def insert (ps:List Pte) (i:Int) (p:Pte):Int × List Pte :=
  if (gy p).2 = false∨p.fRights = 0∨cG i = false then (2,ps) else if (at_ ps i).fRights ≠ 0 then (4,ps) else (0,ps.set i.toNat p)
def protect (ps:List Pte) (i r:Int):Int × List Pte :=
  if cG i = false∨cJ r = false then (2,ps) else if (at_ ps i).fRights = 0 then (3,ps) else (0,ps.set i.toNat { at_ ps i with fRights:=r })
def remove (ps:List Pte) (i:Int):(Pte × Int) × List Pte :=
  if cG i = false then ((eB,2),ps) else if (at_ ps i).fRights = 0 then ((eB,3),ps) else ((at_ ps i,0),ps.set i.toNat eB)
def byFrom (s:Int):List Pte→Int→List Int
  | [],_=>[]
  | p::ps,i=>if p.fRights ≠ 0∧p.fSlot = s then i::byFrom s ps (i + 1) else byFrom s ps (i + 1)
def by_ (ps:List Pte) (s:Int):List Int:=byFrom s ps 0
end Table
theorem table_is {i:Int} (h:cG i = true):∃ n:Nat,i = n∧n < 8:=by
  unfold cG at h
  simp at h
  exact ⟨i.toNat,by omega,by omega⟩
theorem table_new_run (K:Value→Hp→Prop) (h:Hp):hp Tryz.prog (Instr.build km #[]) K h = K (.agg ((List.replicate 8 eB).flatMap ar.C).toArray) h:=by kernel_rfl
theorem nU:Sp Tryz.prog lc [] ij [] (fun r=>aO [da r (List.replicate 8 eB)]):=by
  intro h st
  refine sim_table_New ?_
  unfold sh_table_New
  refine ⟨?_⟩
  rw [table_new_run]
  refine ⟨_,rfl,?_⟩
  refine oW st fun b h' s1=>?_
  exact iB rfl s1
theorem ke (x:Ptr) (ps:List Pte) (i:Int) (p:Pte):Sp Tryz.prog ee [pv x,.int .i64 i,.agg p.C.toArray] bu [da x ps] (fun r=>pa_ (r = (Table.insert ps i p).1) [da x (Table.insert ps i p).2]):=by
  intro h s0
  obtain ⟨b,rfl,hb,st⟩:=table_op s0
  refine wl _ _ _ ?_
  unfold oZ
  refine dH rfl ?_
  refine bi (fun k=>?_) (fun k=>?_)
  · have k':(gy p).2 = false∨p.fRights = 0∨cG i = false:=by simpa [or_assoc] using k
    have e:Table.insert ps i p = (2,ps):=if_pos k'
    rw [e]
    exact bg rfl (iB hb st)
  · have k':¬ ((gy p).2 = false∨p.fRights = 0∨cG i = false):=by simp at k; simp [k]
    obtain ⟨n,rfl,hn⟩:=table_is (i:=i) (by simp at k'; exact k'.2.2)
    have hn':n < ps.length:=by omega
    have hat:Table.at_ ps n = ps[n]:=by simp [Table.at_,hn']
    refine cK ⟨⟨by omega,by omega⟩,?_⟩
    refine ld_a (j:=0) (i:=n) (k:=2) ps[n].fRights ji st rfl (by simp) (aN hn') (c1 rfl rfl) ?_
    refine bi (fun k2=>?_) (fun k2=>?_)
    · have k2':(Table.at_ ps n).fRights ≠ 0:=by rw [hat]; simpa using k2
      have e:Table.insert ps n p = (4,ps):=by unfold Table.insert; rw [if_neg k',if_pos k2']
      rw [e]
      exact bg rfl (iB hb st)
    · have k2':¬ (Table.at_ ps n).fRights ≠ 0:=by rw [hat]; simpa using k2
      have e:Table.insert ps n p = (0,ps.set n p):=by unfold Table.insert; rw [if_neg k',if_neg k2']; rfl
      rw [e]
      refine st_a (j:=0) (i:=n) (k:=0) p ji st rfl (by simp) (aN hn') (by simp [ji]) rfl fun h2 s2=>?_
      exact bg rfl (iB (by simpa using hb) s2)
theorem sp_table_Protect (x:Ptr) (ps:List Pte) (i r:Int):Sp Tryz.prog ky [pv x,.int .i64 i,.int .i64 r] bu [da x ps] (fun v=>pa_ (v = (Table.protect ps i r).1) [da x (Table.protect ps i r).2]):=by
  intro h s0
  obtain ⟨b,rfl,hb,st⟩:=table_op s0
  refine uO _ _ _ ?_
  unfold nY
  refine dH rfl ?_
  refine bi (fun k=>?_) (fun k=>?_)
  · have k':cG i = false∨cJ r = false:=by simpa using k
    have e:Table.protect ps i r = (2,ps):=if_pos k'
    rw [e]
    exact bg rfl (iB hb st)
  · have k':¬ (cG i = false∨cJ r = false):=by simp at k; simp [k]
    obtain ⟨n,rfl,hn⟩:=table_is (i:=i) (by simp at k'; exact k'.1)
    have hn':n < ps.length:=by omega
    have hat:Table.at_ ps n = ps[n]:=by simp [Table.at_,hn']
    refine cK ⟨⟨by omega,by omega⟩,?_⟩
    refine ld_a (j:=0) (i:=n) (k:=2) ps[n].fRights ji st rfl (by simp) (aN hn') (c1 rfl rfl) ?_
    refine bi (fun k2=>?_) (fun k2=>?_)
    · have k2':(Table.at_ ps n).fRights = 0:=by rw [hat]; simpa using k2
      have e:Table.protect ps n r = (3,ps):=by unfold Table.protect; rw [if_neg k',if_pos k2']
      rw [e]
      exact bg rfl (iB hb st)
    · have k2':¬ (Table.at_ ps n).fRights = 0:=by rw [hat]; simpa using k2
      have e:Table.protect ps n r = (0,ps.set n { ps[n] with fRights:=r }):=by unfold Table.protect; rw [if_neg k',if_neg k2',hat]; rfl
      rw [e]
      refine st_a (j:=0) (i:=n) (k:=2) { ps[n] with fRights:=r } ji st rfl (by simp) (aN hn') (by simp) rfl fun h2 s2=>?_
      exact bg rfl (iB (by simpa using hb) s2)
theorem sp_table_Remove (x:Ptr) (ps:List Pte) (i:Int):Sp Tryz.prog iK [pv x,.int .i64 i] jn [da x ps] (fun v=>pa_ (v = (Table.remove ps i).1) [da x (Table.remove ps i).2]):=by
  intro h s0
  obtain ⟨b,rfl,hb,st⟩:=table_op s0
  refine wk _ _ ?_
  unfold oY
  refine dH rfl ?_
  refine bi (fun k=>?_) (fun k=>?_)
  · have k':cG i = false:=by simpa using k
    have e:Table.remove ps i = ((eB,2),ps):=if_pos k'
    rw [e]
    exact bg rfl (iB hb st)
  · have k':¬ (cG i = false):=by simp at k; simp [k]
    obtain ⟨n,rfl,hn⟩:=table_is (i:=i) (by simp at k'; exact k')
    have hn':n < ps.length:=by omega
    have hat:Table.at_ ps n = ps[n]:=by simp [Table.at_,hn']
    refine cK ⟨⟨by omega,by omega⟩,?_⟩
    refine ld_a (j:=0) (i:=n) (k:=2) ps[n].fRights ji st rfl (by simp) (aN hn') (c1 rfl rfl) ?_
    refine bi (fun k2=>?_) (fun k2=>?_)
    · have k2':(Table.at_ ps n).fRights = 0:=by rw [hat]; simpa using k2
      have e:Table.remove ps n = ((eB,3),ps):=by unfold Table.remove; rw [if_neg k',if_pos k2']
      rw [e]
      exact bg rfl (iB hb st)
    · have k2':¬ (Table.at_ ps n).fRights = 0:=by rw [hat]; simpa using k2
      have e:Table.remove ps n = ((ps[n],0),ps.set n eB):=by unfold Table.remove; rw [if_neg k',if_neg k2',hat]; rfl
      rw [e]
      refine ld_a (j:=0) (i:=n) (k:=0) ps[n] ji st rfl (by simp) (aN hn') (by simp) ?_
      refine st_a (j:=0) (i:=n) (k:=0) eB ji st rfl (by simp) (aN hn') (by simp [ji]) rfl fun h2 s2=>?_
      exact bg rfl (iB (by simpa using hb) s2)
theorem ny (x:Ptr) (ps:List Pte) (i:Int):Sp Tryz.prog eW [pv x,.int .i64 i] cm [da x ps] (fun v=>pa_ (v = Table.get ps i) [da x ps]):=by
  intro h s0
  obtain ⟨b,rfl,hb,st⟩:=table_op s0
  refine sim_table_Table_At _ _ ?_
  unfold tO
  refine bi (fun k=>?_) (fun k=>?_)
  · have k':cG i = true:=by simpa using k
    obtain ⟨n,rfl,hn⟩:=table_is k'
    have hn':n < ps.length:=by omega
    have hat:Table.at_ ps n = ps[n]:=by simp [Table.at_,hn']
    refine cK ⟨⟨by omega,by omega⟩,?_⟩
    refine ld_a (j:=0) (i:=n) (k:=2) ps[n].fRights ji st rfl (by simp) (aN hn') (c1 rfl rfl) ?_
    unfold iC
    refine bi (fun k2=>?_) (fun k2=>?_)
    · have k2':(Table.at_ ps n).fRights = 0:=by rw [hat]; simpa using k2
      have e:Table.get ps n = (eB,false):=if_neg (fun hh=>hh.2 k2')
      rw [e]
      exact bg rfl (iB hb st)
    · have k2':¬ (Table.at_ ps n).fRights = 0:=by rw [hat]; simpa using k2
      have e:Table.get ps n = (ps[n],true):=by unfold Table.get; rw [if_pos ⟨k',k2'⟩,hat]
      rw [e]
      refine cK ⟨⟨by omega,by omega⟩,?_⟩
      refine ld_a (j:=0) (i:=n) (k:=0) ps[n] ji st rfl (by simp) (aN hn') (by simp) ?_
      exact bg rfl (iB hb st)
  · have k':¬ cG i = true:=by simpa using k
    have e:Table.get ps i = (eB,false):=if_neg (fun hh=>k' hh.1)
    rw [e]
    unfold iC
    exact cT rfl (bg rfl (iB hb st))
theorem by_append (s:Int):∀ (ps:List Pte) (i:Int) (p:Pte),Table.byFrom s (ps++[p]) i = Table.byFrom s ps i++(if p.fRights ≠ 0∧p.fSlot = s then [i + ps.length] else [])
  | [],i,p=>by simp only [List.nil_append,Table.byFrom]; split <;> simp
  | y::ps,i,p=>by
    simp only [List.cons_append,Table.byFrom]
    rw [by_append s ps (i + 1) p]
    have e:i + 1 + (ps.length:Int) = i + ((y::ps).length:Int):=by simp; omega
    rw [e]
    split <;> simp
theorem by_len (s:Int):∀ (ps:List Pte) (i:Int),(Table.byFrom s ps i).length ≤ ps.length
  | [],_=>Nat.le_refl _
  | p::ps,i=>by unfold Table.byFrom; have:=by_len s ps (i + 1); split <;> simp <;> omega
theorem sp_table_By (x:Ptr) (ps:List Pte) (s:Int):Sp Tryz.prog lN [pv x,.int .i64 s] cz [da x ps] (fun r=>aO [vI r (Table.by_ ps s),da x ps]):=by
  intro h s0
  obtain ⟨b,rfl,hb,st⟩:=table_op s0
  refine sim_table_Table_By _ _ ?_
  unfold tN
  refine dH rfl (cK ?_)
  obtain ⟨h1,a,sub⟩:=dZ (i:=0) rfl st
  have hfl:(ps.flatMap ar.C).length = 24:=by rw [eo ji,hb]
  refine loadAt_v (r:=ps.flatMap ar.C) (cs:=ps.flatMap ar.C) agn_8_api_Pte ⟨_,_,_,sub _ _ a,fun i v hv=>by simpa using hv⟩ hfl rfl ?_
  refine Lp.intro (fun (z:Sl × Int) h=>∃ n:Nat,z.2 = n∧n ≤ 8∧aO [vI z.1 (Table.byFrom s (ps.take n) 0),da (some (b,0)) ps] h) (fun (z:Sl × Int) _=>8 - z.2.toNat) ⟨0,rfl,Nat.zero_le _,eN (iB hb st)⟩ ?_
  rintro ⟨z,i⟩ h ⟨n,rfl,hn,s1⟩
  unfold nS
  refine bi (fun k=>?_) (fun k=>?_)
  · have hlt:n < 8:=by have:=of_decide_eq_true k; omega
    have hn':n < ps.length:=by omega
    have hw:IntKind.i64.wrap ((n:Int) + 1) = ((n + 1:Nat):Int):=by rw [cj (by omega) (by omega)]; rfl
    have ht:ps.take (n + 1) = ps.take n++[ps[n]]:=by simp
    have hlen:((ps.take n).length:Int) = n:=by simp; omega
    refine index_v (enc:=ar.C) (m:=3) arn_8_api_Pte age_8_api_Pte ji (fun _=>rfl) hb (aN hn') ?_
    refine bi (fun k2=>?_) (fun k2=>?_)
    · have k2':ps[n].fRights ≠ 0∧ps[n].fSlot = s:=by simpa using k2
      refine vR s1 (i:=0) rfl ?_ fun v h' s2=>?_
      · have:=by_len s (ps.take n) 0; simp at this ⊢; omega
      · rw [hw]
        refine ⟨⟨n + 1,rfl,hlt,?_⟩,by simp; omega⟩
        rw [ht,by_append,if_pos k2',hlen,Int.zero_add]
        exact s2
    · have k2':¬ (ps[n].fRights ≠ 0∧ps[n].fSlot = s):=by simpa using k2
      rw [hw]
      refine ⟨⟨n + 1,rfl,hlt,?_⟩,by simp; omega⟩
      rw [ht,by_append,if_neg k2',List.append_nil]
      exact s1
  · have:n = 8:=by have:=of_decide_eq_false k; omega
    subst this
    rw [show ps.take 8 = ps from by rw [← hb]; exact List.take_length] at s1
    exact s1
end Go.Proofs.YtniiiakkdoiaiaaGreatDoor
namespace Go.Proofs.YtniiiakkdoiaiaaGreatDoor
open Go
namespace Mb
def vt {σ α:Type} (A:σ→α→As):List σ→List α→List As
  | p::ps,x::xs=>A p x::vt A ps xs
  | _,_=>[]
section
variable {σ α:Type} {A:σ→α→As}
theorem objs_get:∀ {ps:List σ} {xs:List α} {i:Nat} {p:σ} {x:α},ps[i]? = some p→xs[i]? = some x→(vt A ps xs)[i]? = some (A p x)
  | [],_,_,_,_,h,_=>by simp at h
  | _::_,[],_,_,_,_,h=>by simp at h
  | p::ps,x::xs,0,_,_,h1,h2=>by simp at h1 h2; subst h1; subst h2; rfl
  | p::ps,x::xs,i + 1,_,_,h1,h2=>by simpa [vt] using objs_get (ps:=ps) (xs:=xs) (i:=i) (by simpa using h1) (by simpa using h2)
theorem objs_set:∀ {ps:List σ} {xs:List α} {i:Nat} {p:σ} {x:α},ps[i]? = some p→(vt A ps xs).set i (A p x) = vt A ps (xs.set i x)
  | [],_,_,_,_,h=>by simp at h
  | p::ps,[],i,_,_,_=>by simp [vt]
  | p::ps,y::xs,0,_,_,h=>by simp at h; subst h; rfl
  | p::ps,y::xs,i + 1,_,_,h=>by simp only [vt,List.set_cons_succ]; rw [objs_set (ps:=ps) (xs:=xs) (i:=i) (by simpa using h)]
theorem objs_set2:∀ {ps:List σ} {xs:List α} {i:Nat} {p:σ} {x:α},i < xs.length→(vt A ps xs).set i (A p x) = vt A (ps.set i p) (xs.set i x)
  | [],_,_,_,_,_=>by simp [vt]
  | p::ps,[],i,_,_,h=>by simp at h
  | p::ps,y::xs,0,_,_,_=>rfl
  | p::ps,y::xs,i + 1,_,_,h=>by simp only [vt,List.set_cons_succ]; rw [objs_set2 (ps:=ps) (xs:=xs) (i:=i) (by simpa using h)]
theorem objs_append (p:σ) (x:α):∀ {ps:List σ} {xs:List α},ps.length = xs.length→vt A (ps++[p]) (xs++[x]) = vt A ps xs++[A p x]
  | [],[],_=>rfl
  | [],_::_,h=>by simp at h
  | _::_,[],h=>by simp at h
  | a::ps,b::xs,h=>by simp only [List.cons_append,vt]; rw [objs_append p x (by simpa using h)]
theorem objs_len:∀ {ps:List σ} {xs:List α},ps.length = xs.length→(vt A ps xs).length = xs.length
  | [],[],_=>rfl
  | [],_::_,h=>by simp at h
  | _::_,[],h=>by simp at h
  | a::ps,b::xs,h=>by simp only [vt,List.length_cons]; rw [objs_len (by simpa using h)]
def all (A:σ→α→As) (ps:List σ) (xs:List α):As:=aO (vt A ps xs)
def but (A:σ→α→As) (ps:List σ) (xs:List α) (i:Nat):As:=aO ((vt A ps xs).eraseIdx i)
variable {l:List As} {h:Hp} {ps:List σ} {xs:List α}
theorem star_shut {m:List As} (s:aO (m++l) h):aO (aO m::l) h:=by
  obtain ⟨h1,h2,d,e,s1,s2⟩:=eH.1 s
  exact ⟨h1,h2,d,e,s1,s2⟩
theorem jm {i:Nat} {p:σ} {x:α} (hp:ps[i]? = some p) (hx:xs[i]? = some x) (s:aO (all A ps xs::l) h):aO (A p x::but A ps xs i::l) h:=by
  obtain ⟨h1,h2,d,e,a,s'⟩:=s
  have:=gx (objs_get (A:=A) hp hx) a
  obtain ⟨h3,h4,d',e',a',s4⟩:=this
  subst e'
  obtain ⟨d1,d2⟩:=Dj.of_un_left d
  exact ⟨h3,un h4 h2,Dj.un_right d' d1,by rw [e,my],a',h4,h2,d2,rfl,s4,s'⟩
theorem xh {i:Nat} {p:σ} {y:α} (hp:ps[i]? = some p) (hi:i < xs.length) (hl:ps.length = xs.length) (s:aO (A p y::but A ps xs i::l) h):aO (all A ps (xs.set i y)::l) h:=by
  obtain ⟨h1,h2,d,e,a,h3,h4,d',e',b,s'⟩:=s
  subst e'
  obtain ⟨d1,d2⟩:=Dj.of_un_right d
  refine ⟨un h1 h3,h4,Dj.un_left d2 d',by rw [e,my],?_,s'⟩
  have:=eJ (A:=A p y) (l:=vt A ps xs) (i:=i) (by rw [objs_len hl]; exact hi) ⟨h1,h3,d1,rfl,a,b⟩
  rw [objs_set hp] at this
  exact this
theorem all_in2 {i:Nat} {p:σ} {y:α} (hi:i < xs.length) (hl:ps.length = xs.length) (s:aO (A p y::but A ps xs i::l) h):aO (all A (ps.set i p) (xs.set i y)::l) h:=by
  obtain ⟨h1,h2,d,e,a,h3,h4,d',e',b,s'⟩:=s
  subst e'
  obtain ⟨d1,d2⟩:=Dj.of_un_right d
  refine ⟨un h1 h3,h4,Dj.un_left d2 d',by rw [e,my],?_,s'⟩
  have:=eJ (A:=A p y) (l:=vt A ps xs) (i:=i) (by rw [objs_len hl]; exact hi) ⟨h1,h3,d1,rfl,a,b⟩
  rw [objs_set2 hi] at this
  exact this
theorem iE {α:Type} {xs:List α} {i:Nat} {x:α} (hx:xs[i]? = some x):xs.set i x = xs:=by
  apply List.ext_getElem?
  intro n
  rw [List.getElem?_set]
  by_cases e:i = n
  · subst e
    obtain ⟨h1,h2⟩:=List.getElem?_eq_some_iff.1 hx
    simp [h1,h2]
  · simp [e]
theorem vS {i:Nat} {p:σ} {x:α} (hp:ps[i]? = some p) (hx:xs[i]? = some x) (hl:ps.length = xs.length) (s:aO (A p x::but A ps xs i::l) h):aO (all A ps xs::l) h:=by
  have:=xh hp (List.getElem?_eq_some_iff.1 hx).1 hl s
  rwa [iE hx] at this
theorem all_nil:aO l h→aO (all A [] []::l) h:=fun s=>star_cons (fun _=>trivial) s
theorem all_push {p:σ} {x:α} (hl:ps.length = xs.length) (s:aO (A p x::all A ps xs::l) h):aO (all A (ps++[p]) (xs++[x])::l) h:=by
  refine star_shut ?_
  rw [objs_append p x hl]
  have s1:=ko (.swap _ _ _) s
  have s2:=dJ s1
  exact ko (by simp) s2
end
theorem sx {A:As} {h:Hp} (a:A h):aO [A] h:=⟨h,emp,Dj.emp_right _,(un_emp _).symm,a,trivial⟩
section
variable {P:Program} {l:List As} {h:Hp} {τ:Type} {f:FuncId} {args:List Value} {enc:τ→Value} {K:τ→Hp→Prop} {i:Nat} {A:As}
theorem ce {φ:τ→Prop} {A':τ→As} (c:Sp P f args enc [A] (fun r=>pa_ (φ r) [A' r])) (hi:l[i]? = some A) (s:aO l h) (k:∀ r h',φ r→aO (l.set i (A' r)) h'→K r h'):cl P f args enc K h:=by
  obtain ⟨h1,h2,d,rfl,a,s'⟩:=gx hi s
  refine (c h1 (sx a)).frame_mono d rfl fun v h' ⟨r,hv,q⟩ dj=>⟨r,hv,?_⟩
  obtain ⟨g1,q⟩:=q
  refine k r _ g1 (eJ (List.getElem?_eq_some_iff.1 hi).1 ?_)
  exact nv (l:=[A' r]++l.eraseIdx i) (by rw [List.append_nil]; exact eH.2 ⟨h',h2,dj,rfl,q,s'⟩)
theorem cl_n {B A':τ→As} (c:Sp P f args enc [A] (fun r=>aO [B r,A' r])) (hi:l[i]? = some A) (s:aO l h) (k:∀ r h',aO (B r::l.set i (A' r)) h'→K r h'):cl P f args enc K h:=by
  obtain ⟨h1,h2,d,rfl,a,s'⟩:=gx hi s
  refine (c h1 (sx a)).frame_mono d rfl fun v h' ⟨r,hv,q⟩ dj=>⟨r,hv,k r _ ?_⟩
  have s1:aO (B r::A' r::l.eraseIdx i) (un h' h2):=(eH (l:=[B r,A' r])).2 ⟨h',h2,dj,rfl,q,s'⟩
  obtain ⟨g1,g2,d2,e2,b,s2⟩:=s1
  exact ⟨g1,g2,d2,e2,b,eJ (List.getElem?_eq_some_iff.1 hi).1 s2⟩
theorem cl_p {φ:τ→Prop} {B A':τ→As} (c:Sp P f args enc [A] (fun r=>pa_ (φ r) [B r,A' r])) (hi:l[i]? = some A) (s:aO l h) (k:∀ r h',φ r→aO (B r::l.set i (A' r)) h'→K r h'):cl P f args enc K h:=by
  obtain ⟨h1,h2,d,rfl,a,s'⟩:=gx hi s
  refine (c h1 (sx a)).frame_mono d rfl fun v h' ⟨r,hv,q⟩ dj=>⟨r,hv,?_⟩
  obtain ⟨g0,q⟩:=q
  refine k r _ g0 ?_
  have s1:aO (B r::A' r::l.eraseIdx i) (un h' h2):=(eH (l:=[B r,A' r])).2 ⟨h',h2,dj,rfl,q,s'⟩
  obtain ⟨g1,g2,d2,e2,b,s2⟩:=s1
  exact ⟨g1,g2,d2,e2,b,eJ (List.getElem?_eq_some_iff.1 hi).1 s2⟩
theorem iU {φ:τ→Prop} (c:Sp P f args enc [] (fun r=>pa_ (φ r) [])) (s:aO l h) (k:∀ r h',φ r→aO l h'→K r h'):cl P f args enc K h :=
  cR [] c s rfl fun r h' s1=>by
    obtain ⟨f1,s2⟩:=bD.1 s1
    exact k r h' f1 s2
theorem mb {B:τ→As} (c:Sp P f args enc [] (fun r=>aO [B r])) (s:aO l h) (k:∀ r h',aO (B r::l) h'→K r h'):cl P f args enc K h :=
  cR [] c s rfl fun r h' s1=>k r h' (dJ s1)
end
end Mb
end Go.Proofs.YtniiiakkdoiaiaaGreatDoor
namespace Go.Proofs.YtniiiakkdoiaiaaGreatDoor
open Go Mb
set_option linter.unusedVariables false
def sh_caps_New (a0:Int) (K:Ptr→Hp→Prop):Hp→Prop:=br ((decide (a0 < 1)) || (decide (a0 > 4))) ( K none) ( hpv Tryz.prog (Instr.makeSlice t_S_8_api_Cap (.int .i64 a0) (.int .i64 a0)) R_S_8_api_Cap fun (v10:Sl)=>nw nt (nP.C (⟨v10⟩:nP)) fun b12=>K (some (b12,0)))
set_option maxRecDepth 20000 in
theorem sim_caps_New (a0:Int) {K:Ptr→Hp→Prop} {h:Hp} (H:sh_caps_New a0 K h):Ct Tryz.prog wO #[(.int .i64 a0)] h fun v h'=>∃ r,v = se r∧K r h':=aA [(.int .i64 a0)] Tryz.func92 rfl rfl rfl fun _=>ag<|ab<|aa (ae rfl) rfl<|ad<|ag<|ag<|ab<|aa (ac rfl) rfl<|aa (cH rfl rfl) rfl<|aa (ac rfl) rfl<|ak rfl rfl rfl (aX _) (fun g1=>wv (ac rfl)) rfl<|ak rfl rfl rfl (aX _) (fun g2=>wv (qo (aK rfl g2) rfl)) rfl<|aa (dD rfl rfl) rfl<|ad<|aE rfl H (fun k3 H4=>ag<|ab<|aa (ae rfl) rfl<|ad<|ao<|aw (ay rfl (aD rfl)) ⟨none,rfl,H4⟩) (fun k3 H4=>av<|ag<|ab<|aa (ac rfl) rfl<|aj (be H4 (jI rfl rfl) rfl fun v10 _ H5=>aa (bj rfl (build_186_0 v10)) rfl<|aj (hO rfl rfl rfl H5 fun b12 _ H6=>aa (ae rfl) rfl<|ad<|ao<|aw (ay rfl (aD rfl)) ⟨(some (b12,0)),rfl,H6⟩)))
def sh_caps_Tree_is (a0:Ptr) (a1:Int) (a2:Int) (K:Bool→Hp→Prop):Hp→Prop:=br (decide (a1 ≥ 0)) ( nn a0 fun q12=>ld (q12.1,q12.2 + 0) cS fun x14=>K (((decide (a1 < (x14.len:Int))) && (decide (a2 ≥ 0))) && (decide (a2 < 8)))) ( K false)
set_option maxRecDepth 20000 in
theorem sim_caps_Tree_is (a0:Ptr) (a1:Int) (a2:Int) {K:Bool→Hp→Prop} {h:Hp} (H:sh_caps_Tree_is a0 a1 a2 K h):Ct Tryz.prog ib #[(pv a0),(.int .i64 a1),(.int .i64 a2)] h fun v h'=>∃ r,v = aG r∧K r h':=aA [(pv a0),(.int .i64 a1),(.int .i64 a2)] Tryz.func162 rfl rfl rfl fun _=>ag<|ab<|aa (ae rfl) rfl<|ad<|ag<|ab<|aa (ac rfl) rfl<|aa (jH rfl rfl) rfl<|aa (ac rfl) rfl<|ak rfl rfl rfl (aB _) (fun g1=>wv (ac rfl)) rfl<|ak rfl rfl rfl (aB _) (fun g2=>wv (ac rfl)) rfl<|bO H (fun k4 H5=>bJ H5 fun q12 e6 H7=>aF rfl rfl rfl (congrArg Value.bool k4) (aJ (wv (aS (aV (aK rfl k4) (ax e6)))) rfl<|aF rfl rfl rfl (congrArg Value.bool k4) (aJ (wv (am gZ rfl)) rfl<|aF rfl rfl rfl (congrArg Value.bool k4) (bd H7 pN rfl (fun _=>rfl) rfl fun x14 H8=>aF rfl rfl rfl (congrArg Value.bool k4) (aJ (wv (dl rfl Tryz.underlying184 rfl)) rfl<|aF rfl rfl rfl (congrArg Value.bool k4) (aJ (wv (cH (aK rfl k4) rfl)) rfl<|aa (ba rfl k4 rfl) rfl<|aa (ac rfl) rfl<|ak rfl rfl rfl (aB _) (fun g9=>wv (ac rfl)) rfl<|ak rfl rfl rfl (aB _) (fun g10=>wv (jH (aK rfl g10) rfl)) rfl<|aa (bX rfl rfl) rfl<|aa (ac rfl) rfl<|ak rfl rfl rfl (aB _) (fun g11=>wv (ac rfl)) rfl<|ak rfl rfl rfl (aB _) (fun g12=>wv (cH (aK rfl g12) rfl)) rfl<|aa (bX rfl rfl) rfl<|aa (ae rfl) rfl<|ad<|ao<|aw (ay rfl (aD rfl)) ⟨(((decide (a1 < (x14.len:Int))) && (decide (a2 ≥ 0))) && (decide (a2 < 8))),rfl,H8⟩)))))) (fun k4 H5=>ah rfl rfl rfl (aY k4) rfl<|ah rfl rfl rfl (aY k4) rfl<|ah rfl rfl rfl (aY k4) rfl<|ah rfl rfl rfl (aY k4) rfl<|ah rfl rfl rfl (aY k4) rfl<|aa (an rfl k4 rfl) rfl<|aa (ac rfl) rfl<|ah rfl rfl rfl rfl rfl<|ah rfl rfl rfl rfl rfl<|aa (an rfl rfl rfl) rfl<|aa (ac rfl) rfl<|ah rfl rfl rfl rfl rfl<|ah rfl rfl rfl rfl rfl<|aa (an rfl rfl rfl) rfl<|aa (ae rfl) rfl<|ad<|ao<|aw (ay rfl (aD rfl)) ⟨false,rfl,H5⟩)
def iz (a0:Ptr) (a1:Int) (a2:Int) (K:(aC × Bool)→Hp→Prop) (s1:Bool):Hp→Prop:=br s1 ( K ((⟨0,0,0,0⟩:aC),false)) ( nn a0 fun q32=>ld (q32.1,q32.2 + 0) cS fun x34=>ix x34 a1 fun q37=>gd (0 ≤ a2∧a2 < 8)<|ld (q37.1,q37.2 + Int.toNat a1 * 32 + Int.toNat a2 * 4) aC.C fun x39=>K (x39,true))
def sh_caps_Tree_At (a0:Ptr) (a1:Int) (a2:Int) (K:(aC × Bool)→Hp→Prop):Hp→Prop:=br (!a0.isNone) ( cl Tryz.prog ib [(pv a0),(.int .i64 a1),(.int .i64 a2)] aG fun r14=>br (!(!r14)) ( nn a0 fun q19=>ld (q19.1,q19.2 + 0) cS fun x21=>ix x21 a1 fun q24=>gd (0 ≤ a2∧a2 < 8)<|ld (q24.1,q24.2 + Int.toNat a1 * 32 + Int.toNat a2 * 4 + 1) (cI .i64) fun x27=>iz a0 a1 a2 K (x27 == 0)) ( iz a0 a1 a2 K true)) ( iz a0 a1 a2 K true)
set_option maxRecDepth 20000 in
theorem sim_caps_Tree_At (a0:Ptr) (a1:Int) (a2:Int) {K:(aC × Bool)→Hp→Prop} {h:Hp} (H:sh_caps_Tree_At a0 a1 a2 K h):Ct Tryz.prog ef #[(pv a0),(.int .i64 a1),(.int .i64 a2)] h fun v h'=>∃ r,v = cy r∧K r h':=aA [(pv a0),(.int .i64 a1),(.int .i64 a2)] Tryz.func118 rfl rfl rfl fun _=>ag<|ab<|aj (aW (l:=(aC.C (⟨0,0,0,0⟩:aC))) gi rfl rfl fun b6=>aa (ae rfl) rfl<|ad<|ag<|eG (iz a0 a1 a2 K) (fun s1=>[(0,(pv a0)),(1,(.int .i64 a1)),(2,(.int .i64 a2)),(6,(.pointer (some ⟨b6,0,none⟩))),(29,(.bool s1))]) (fun s1=>[bx b6 70 (aC.C (⟨0,0,0,0⟩:aC))]) ( ab<|aa (ac rfl) rfl<|aa (ct Tryz.underlying128 rfl) rfl<|aa (ac rfl) rfl<|ak rfl rfl rfl (aX _) (fun g14=>wv (ac rfl)) rfl<|ak rfl rfl rfl (aX _) (fun g15=>wv (ac rfl)) rfl<|ak rfl rfl rfl (aX _) (fun g16=>wv (ac rfl)) rfl<|bO H (fun k18 H19=>aF rfl rfl rfl (congrArg Value.bool (cf k18)) (az H19 en_162 (aT (aK rfl k18) (aT (aK rfl k18) (aT (aK rfl k18) bM))) rfl fun r14 _ H20=>aF rfl rfl rfl (congrArg Value.bool (cf k18)) (aJ (wv (cu rfl)) rfl<|aa (an rfl (cf k18) rfl) rfl<|aa (ac rfl) rfl<|ak rfl rfl rfl (aX _) (fun g21=>wv (ac rfl)) rfl<|bO H20 (fun k23 H24=>bJ H24 fun q19 e25 H26=>aF rfl rfl rfl (congrArg Value.bool (cf k23)) (aJ (wv (aS (aV (aK rfl k23) (ax e25)))) rfl<|aF rfl rfl rfl (congrArg Value.bool (cf k23)) (aJ (wv (am gZ rfl)) rfl<|aF rfl rfl rfl (congrArg Value.bool (cf k23)) (bd H26 pN rfl (fun _=>rfl) rfl fun x21 H27=>aF rfl rfl rfl (congrArg Value.bool (cf k23)) (aJ (wv (ac rfl)) rfl<|aF rfl rfl rfl (congrArg Value.bool (cf k23)) (aJ (wv (ac rfl)) rfl<|cx H27 fun q24 e28 h29 H30=>aF rfl rfl rfl (congrArg Value.bool (cf k23)) (aJ (wv (bC nX (aV rfl (bm e28)) rfl h29)) rfl<|je H30 fun h31 H32=>aF rfl rfl rfl (congrArg Value.bool (cf k23)) (aJ (wv (bL qk rfl rfl h31)) rfl<|aF rfl rfl rfl (congrArg Value.bool (cf k23)) (aJ (wv (am gI rfl)) rfl<|aF rfl rfl rfl (congrArg Value.bool (cf k23)) (bd H32 bk rfl (fun _=>rfl) rfl fun x27 H33=>aF rfl rfl rfl (congrArg Value.bool (cf k23)) (aJ (wv (bV rfl rfl)) rfl<|aa (an rfl (cf k23) rfl) rfl<|ad<|cO (x27 == 0) H33 (.cons rfl (.cons rfl (.cons rfl (.cons rfl (.cons rfl (.nil _)))))) (.cons_cons _ .slnil)))))))))))) (fun k23 H24=>ah rfl rfl rfl (cc (bH k23)) rfl<|ah rfl rfl rfl (cc (bH k23)) rfl<|ah rfl rfl rfl (cc (bH k23)) rfl<|ah rfl rfl rfl (cc (bH k23)) rfl<|ah rfl rfl rfl (cc (bH k23)) rfl<|ah rfl rfl rfl (cc (bH k23)) rfl<|ah rfl rfl rfl (cc (bH k23)) rfl<|ah rfl rfl rfl (cc (bH k23)) rfl<|ah rfl rfl rfl (cc (bH k23)) rfl<|ah rfl rfl rfl (cc (bH k23)) rfl<|aa (ba rfl (bH k23) rfl) rfl<|ad<|cO true H24 (.cons rfl (.cons rfl (.cons rfl (.cons rfl (.cons rfl (.nil _)))))) (.cons_cons _ .slnil))))) (fun k18 H19=>ah rfl rfl rfl (cc (bH k18)) rfl<|ah rfl rfl rfl (cc (bH k18)) rfl<|aa (ba rfl (bH k18) rfl) rfl<|aa (ac rfl) rfl<|ah rfl rfl rfl rfl rfl<|ah rfl rfl rfl rfl rfl<|ah rfl rfl rfl rfl rfl<|ah rfl rfl rfl rfl rfl<|ah rfl rfl rfl rfl rfl<|ah rfl rfl rfl rfl rfl<|ah rfl rfl rfl rfl rfl<|ah rfl rfl rfl rfl rfl<|ah rfl rfl rfl rfl rfl<|ah rfl rfl rfl rfl rfl<|ah rfl rfl rfl rfl rfl<|aa (ba rfl rfl rfl) rfl<|ad<|cO true H19 (.cons rfl (.cons rfl (.cons rfl (.cons rfl (.cons rfl (.nil _)))))) (.cons_cons _ .slnil))) (fun s1 _ H2=>aE rfl H2 (fun k3 H4=>ag<|ab<|aa (bj (vs:=[]) rfl build_70) rfl<|aj (bb (k:=0) (vs:=(aC.C (⟨0,0,0,0⟩:aC))) fK rfl rfl rfl rfl rfl rfl rfl<|aa (ae rfl) rfl<|ad<|ao<|aw (bW rfl (bI (k:=0) rfl vV rfl rfl) (aD rfl)) ⟨((⟨0,0,0,0⟩:aC),false),rfl,H4⟩)) (fun k3 H4=>av<|ag<|ab<|aa (ac rfl) rfl<|bJ H4 fun q32 e5 H6=>aa (aS (aV rfl (ax e5))) rfl<|aa (am gZ rfl) rfl<|aj (bd H6 pN rfl (fun _=>rfl) rfl fun x34 H7=>aa (ac rfl) rfl<|aa (ac rfl) rfl<|cx H7 fun q37 e8 h9 H10=>aa (bC nX (aV rfl (bm e8)) rfl h9) rfl<|je H10 fun h11 H12=>aa (bL qk rfl rfl h11) rfl<|aj (hH H12 vV rfl (fun _=>rfl) rfl fun x39 H13=>aj (bb (k:=0) (vs:=(aC.C x39)) fK rfl rfl rfl rfl rfl rfl rfl<|aa (ae rfl) rfl<|ad<|ao<|aw (bW rfl (bI (k:=0) rfl vV rfl rfl) (aD rfl)) ⟨(x39,true),rfl,H13⟩))))))
def ue (a0:Ptr) (a1:Int) (a2:Int) (a3:Int) (K:Int→Hp→Prop):Hp→Prop:=br a0.isNone ( K 10) ( cl Tryz.prog ib [(pv a0),(.int .i64 a1),(.int .i64 a2)] aG fun r16=>br (((!r16) || (decide (a3 < 0))) || (decide (a3 ≥ 16))) ( K 2) ( nn a0 fun q28=>ld (q28.1,q28.2 + 0) cS fun x30=>ix x30 a1 fun q33=>gd (0 ≤ a2∧a2 < 8)<|ld (q33.1,q33.2 + Int.toNat a1 * 32 + Int.toNat a2 * 4 + 1) (cI .i64) fun x36=>br (x36 != 0) ( K 4) ( ld (q28.1,q28.2 + 0) cS fun x41=>ix x41 a1 fun q46=>st (q46.1,q46.2 + Int.toNat a1 * 32 + Int.toNat a2 * 4) (aC.C (⟨a3,3,(-1),0⟩:aC))<|K 0)))
set_option maxRecDepth 20000 in
theorem sim_caps_Tree_Root (a0:Ptr) (a1:Int) (a2:Int) (a3:Int) {K:Int→Hp→Prop} {h:Hp} (H:ue a0 a1 a2 a3 K h):Ct Tryz.prog jz #[(pv a0),(.int .i64 a1),(.int .i64 a2),(.int .i64 a3)] h fun v h'=>∃ r,v = bu r∧K r h':=aA [(pv a0),(.int .i64 a1),(.int .i64 a2),(.int .i64 a3)] Tryz.func126 rfl rfl rfl fun _=>ag<|ab<|aa (ae rfl) rfl<|ad<|ag<|aH<|ag<|ab<|aa (ac rfl) rfl<|aa (ct Tryz.underlying128 rfl) rfl<|aa (ae rfl) rfl<|ad<|aE rfl H (fun k1 H2=>ag<|ab<|aa (ae rfl) rfl<|ad<|ao<|aw (ay rfl (aD rfl)) ⟨10,rfl,H2⟩) (fun k1 H2=>ag<|ab<|aa (ac rfl) rfl<|aa (ac rfl) rfl<|aa (ac rfl) rfl<|aj (az H2 en_162 rfl rfl fun r16 _ H3=>aa (cu rfl) rfl<|aa (ac rfl) rfl<|ak rfl rfl rfl (aX _) (fun g4=>wv (ac rfl)) rfl<|ak rfl rfl rfl (aX _) (fun g5=>wv (cH (aK rfl g5) rfl)) rfl<|aa (dD rfl rfl) rfl<|aa (ac rfl) rfl<|ak rfl rfl rfl (aX _) (fun g6=>wv (ac rfl)) rfl<|ak rfl rfl rfl (aX _) (fun g7=>wv (jH (aK rfl g7) rfl)) rfl<|aa (dD rfl rfl) rfl<|aa (ae rfl) rfl<|ad<|aE rfl H3 (fun k8 H9=>ag<|ab<|aa (ae rfl) rfl<|ad<|ao<|aw (ay rfl (aD rfl)) ⟨2,rfl,H9⟩) (fun k8 H9=>ag<|ab<|aa (ac rfl) rfl<|bJ H9 fun q28 e10 H11=>aa (aS (aV rfl (ax e10))) rfl<|aa (am gZ rfl) rfl<|aj (bd H11 pN rfl (fun _=>rfl) rfl fun x30 H12=>aa (ac rfl) rfl<|aa (ac rfl) rfl<|cx H12 fun q33 e13 h14 H15=>aa (bC nX (aV rfl (bm e13)) rfl h14) rfl<|je H15 fun h16 H17=>aa (bL qk rfl rfl h16) rfl<|aa (am gI rfl) rfl<|aj (bd H17 bk rfl (fun _=>rfl) rfl fun x36 H18=>aa (pC rfl rfl) rfl<|aa (ae rfl) rfl<|ad<|aE rfl H18 (fun k19 H20=>ag<|ab<|aa (ae rfl) rfl<|ad<|ao<|aw (ay rfl (aD rfl)) ⟨4,rfl,H20⟩) (fun k19 H20=>av<|ag<|ab<|aa (ac (aV rfl (ax e10))) rfl<|aa (aS rfl) rfl<|aa (am gZ rfl) rfl<|aj (bd H20 pN rfl (fun _=>rfl) rfl fun x41 H21=>aa (ac rfl) rfl<|aa (ac rfl) rfl<|aa (ac rfl) rfl<|aa (bj rfl (build_70_0_1_2 a3 3 (-1))) rfl<|cx H21 fun q46 e22 h23 H24=>aa (bC nX (aV rfl (bm e22)) rfl h23) rfl<|aa (bL qk rfl rfl h16) rfl<|aj (dz fK rfl rfl rfl rfl rfl H24 fun _ H25=>ad<|ag<|ab<|aa (ae rfl) rfl<|ad<|ao<|aw (ay rfl (aD rfl)) ⟨0,rfl,H25⟩))))))))
def rD (a0:Ptr) (a1:Int) (a2:Int) (a3:Int) (a4:Int) (a5:Int) (K:Int→Hp→Prop):Hp→Prop:=br a0.isNone ( K 10) ( cl Tryz.prog ib [(pv a0),(.int .i64 a1),(.int .i64 a2)] aG fun r19=>br (!(!r19)) ( cl Tryz.prog ib [(pv a0),(.int .i64 a3),(.int .i64 a4)] aG fun r25=>br ((!r25) || (!(cJ a5))) ( K 2) ( nn a0 fun q34=>ld (q34.1,q34.2 + 0) cS fun x36=>ix x36 a1 fun q39=>gd (0 ≤ a2∧a2 < 8)<|ld (q39.1,q39.2 + Int.toNat a1 * 32 + Int.toNat a2 * 4) aC.C fun x41=>br (x41.fRights == 0) ( K 3) ( ld (q34.1,q34.2 + 0) cS fun x50=>ix x50 a3 fun q53=>gd (0 ≤ a4∧a4 < 8)<|ld (q53.1,q53.2 + Int.toNat a3 * 32 + Int.toNat a4 * 4 + 1) (cI .i64) fun x56=>br (x56 != 0) ( K 4) ( br (!(bq a5 x41.fRights)) ( K 5) ( ld (q34.1,q34.2 + 0) cS fun x67=>ix x67 a3 fun q76=>st (q76.1,q76.2 + Int.toNat a3 * 32 + Int.toNat a4 * 4) (aC.C (⟨x41.fFrame,a5,a1,a2⟩:aC))<|K 0))))) ( K 2))
set_option maxRecDepth 20000 in
theorem sim_caps_Tree_Derive (a0:Ptr) (a1:Int) (a2:Int) (a3:Int) (a4:Int) (a5:Int) {K:Int→Hp→Prop} {h:Hp} (H:rD a0 a1 a2 a3 a4 a5 K h):Ct Tryz.prog ic #[(pv a0),(.int .i64 a1),(.int .i64 a2),(.int .i64 a3),(.int .i64 a4),(.int .i64 a5)] h fun v h'=>∃ r,v = bu r∧K r h':=aA [(pv a0),(.int .i64 a1),(.int .i64 a2),(.int .i64 a3),(.int .i64 a4),(.int .i64 a5)] Tryz.func127 rfl rfl rfl fun _=>ag<|ab<|aa (ae rfl) rfl<|ad<|ag<|ag<|ab<|aa (ac rfl) rfl<|aa (ct Tryz.underlying128 rfl) rfl<|ad<|aE rfl H (fun k1 H2=>ag<|ab<|aa (ae rfl) rfl<|ad<|ao<|aw (ay rfl (aD rfl)) ⟨10,rfl,H2⟩) (fun k1 H2=>av<|ag<|ag<|ab<|aa (ac rfl) rfl<|aa (ac rfl) rfl<|aa (ac rfl) rfl<|aj (az H2 en_162 rfl rfl fun r19 _ H3=>aa (cu rfl) rfl<|aa (ac rfl) rfl<|ak rfl rfl rfl (aX _) (fun g4=>wv (ac rfl)) rfl<|ak rfl rfl rfl (aX _) (fun g5=>wv (ac rfl)) rfl<|ak rfl rfl rfl (aX _) (fun g6=>wv (ac rfl)) rfl<|bO H3 (fun k8 H9=>aF rfl rfl rfl (congrArg Value.bool (cf k8)) (az H9 en_162 (aT (aK rfl k8) (aT (aK rfl k8) (aT (aK rfl k8) bM))) rfl fun r25 _ H10=>aF rfl rfl rfl (congrArg Value.bool (cf k8)) (aJ (wv (cu rfl)) rfl<|aa (an rfl (cf k8) rfl) rfl<|aa (ac rfl) rfl<|ak rfl rfl rfl (aX _) (fun g11=>wv (ac rfl)) rfl<|dc (vs:=[(.int .i64 a5)]) rfl rfl rfl (aX _) (fun g12=>(bG (pY a5 _))) en_150 (fun g12=>(aT (aK rfl g12) bM)) rfl<|ak rfl rfl rfl (aX _) (fun g13=>wv (cu (aK rfl g13))) rfl<|aa (dD rfl rfl) rfl<|ad<|aE rfl H10 (fun k14 H15=>ag<|ab<|aa (ae rfl) rfl<|ad<|ao<|aw (ay rfl (aD rfl)) ⟨2,rfl,H15⟩) (fun k14 H15=>av<|ag<|ab<|aa (ac rfl) rfl<|bJ H15 fun q34 e16 H17=>aa (aS (aV rfl (ax e16))) rfl<|aa (am gZ rfl) rfl<|aj (bd H17 pN rfl (fun _=>rfl) rfl fun x36 H18=>aa (ac rfl) rfl<|aa (ac rfl) rfl<|cx H18 fun q39 e19 h20 H21=>aa (bC nX (aV rfl (bm e19)) rfl h20) rfl<|je H21 fun h22 H23=>aa (bL qk rfl rfl h22) rfl<|aj (hH H23 vV rfl (fun _=>rfl) rfl fun x41 H24=>aj (aW (l:=(aC.C (⟨0,0,0,0⟩:aC))) gi rfl rfl fun b13=>aj (bb (k:=0) (vs:=(aC.C x41)) fK rfl rfl rfl rfl rfl rfl rfl<|ad<|ag<|aH<|ag<|ab<|aa (am gI rfl) rfl<|bw (bt (k:=0) bk rfl rfl rfl) rfl<|aa (bV rfl rfl) rfl<|aa (ae rfl) rfl<|ad<|aE rfl H24 (fun k25 H26=>ag<|ab<|aa (ae rfl) rfl<|ad<|ao<|aw (ay rfl (aD rfl)) ⟨3,rfl,H26⟩) (fun k25 H26=>ag<|ab<|aa (ac (aV rfl (ax e16))) rfl<|aa (aS rfl) rfl<|aa (am gZ rfl) rfl<|aj (bd H26 pN rfl (fun _=>rfl) rfl fun x50 H27=>aa (ac rfl) rfl<|aa (ac rfl) rfl<|cx H27 fun q53 e28 h29 H30=>aa (bC nX (aV rfl (bm e28)) rfl h29) rfl<|je H30 fun h31 H32=>aa (bL qk rfl rfl h31) rfl<|aa (am gI rfl) rfl<|aj (bd H32 bk rfl (fun _=>rfl) rfl fun x56 H33=>aa (pC rfl rfl) rfl<|aa (ae rfl) rfl<|ad<|aE rfl H33 (fun k34 H35=>ag<|ab<|aa (ae rfl) rfl<|ad<|ao<|aw (ay rfl (aD rfl)) ⟨4,rfl,H35⟩) (fun k34 H35=>ag<|ab<|aa (ac rfl) rfl<|aa (am gI rfl) rfl<|bw (bt (k:=0) bk rfl rfl rfl) rfl<|aj (cN (vs:=[(.int .i64 a5),(.int .i64 x41.fRights)]) (bG (de a5 x41.fRights _)) mu rfl rfl<|aa (cu rfl) rfl<|aa (ae rfl) rfl<|ad<|aE rfl H35 (fun k36 H37=>ag<|ab<|aa (ae rfl) rfl<|ad<|ao<|aw (ay rfl (aD rfl)) ⟨5,rfl,H37⟩) (fun k36 H37=>av<|ag<|bB (n:=15) [bx b13 70 (aC.C x41)] cA rfl (.cons_cons _ .slnil)<|ai (i:=0) (fun _ _ _ _=>id) rfl (by kernel_rfl) rfl (ve (ac (aV rfl (ax e16))))<|ai (i:=1) (fun _ _ _ _=>id) rfl (by kernel_rfl) rfl (ve (aS rfl))<|ai (i:=2) (fun _ _ _ _=>id) rfl (by kernel_rfl) rfl (ve (am gZ rfl))<|ai (i:=4) (fun _ _ _ _=>id) rfl (by kernel_rfl) rfl (ve (ac rfl))<|ai (i:=5) (fun _ _ _ _=>id) rfl (by kernel_rfl) rfl (ve (ac rfl))<|ai (i:=6) (fun _ _ _ _=>id) rfl (by kernel_rfl) rfl (ve (am tm rfl))<|ai (i:=7) (fun _ _ _ _=>id) rfl (by kernel_rfl) rfl (dm (k:=0) bk rfl rfl rfl)<|ai (i:=8) (fun _ _ _ _=>id) rfl (by kernel_rfl) rfl (ve (ac rfl))<|ai (i:=9) (fun _ _ _ _=>id) rfl (by kernel_rfl) rfl (ve (ac rfl))<|ai (i:=10) (fun _ _ _ _=>id) rfl (by kernel_rfl) rfl (ve (ac rfl))<|ai (i:=11) (fun _ _ _ _=>id) rfl (by kernel_rfl) rfl (ve (bj rfl (build_70_0_1_2_3 x41.fFrame a5 a1 a2)))<|bQ (i:=3) (fun _ _ _ _=>id) H37 rfl (by kernel_rfl) pN rfl (fun _=>rfl) rfl fun x67 H38=>fM H38 fun q76 e39 h40 H41=>ai (i:=12) (fun _ _ _ _=>id) rfl (by kernel_rfl) rfl (ve (bC nX (aV rfl (bm e39)) rfl h40))<|ai (i:=13) (fun _ _ _ _=>id) rfl (by kernel_rfl) rfl (ve (bL qk rfl rfl h31))<|bh (i:=14) (by kernel_rfl) (aI rfl rfl (dz fK rfl rfl rfl rfl rfl H41 fun _ H42=>⟨(.cons_cons _ .slnil),bf (by kernel_rfl)<|ag<|ab<|aa (ae rfl) rfl<|ad<|ao<|aw (ay rfl (aD rfl)) ⟨0,rfl,H42⟩⟩)))))))))))))))) (fun k8 H9=>ah rfl rfl rfl (cc (bH k8)) rfl<|ah rfl rfl rfl (cc (bH k8)) rfl<|aa (ba rfl (bH k8) rfl) rfl<|aa (ac rfl) rfl<|ah rfl rfl rfl rfl rfl<|ah rfl rfl rfl rfl rfl<|ah rfl rfl rfl rfl rfl<|aa (ba rfl rfl rfl) rfl<|ad<|lz rfl rfl<|ag<|ab<|aa (ae rfl) rfl<|ad<|ao<|aw (ay rfl (aD rfl)) ⟨2,rfl,H9⟩)))
def hG (s6:Sl × Int) (Rec18:(Sl × Int)→Hp→Prop) (s17:Sl × Int) (s23:Bool):Hp→Prop:=br s23 ( hpv Tryz.prog (Instr.buildSlice gT 1 #[(0,(.agg (aQ.C (⟨s6.2,s17.2⟩:aQ)).toArray))]) cY fun (v45:Sl)=>hpv Tryz.prog (Builtin.append_ #[gT,gT] gT #[(sv s17.1),(sv v45)]) cY fun (v46:Sl)=>Rec18 (v46,(IntKind.i64.wrap (s17.2 + 1)))) ( Rec18 (s17.1,(IntKind.i64.wrap (s17.2 + 1))))
def pZ (a1:Value) (Rec7:(Sl × Int)→Hp→Prop) (s6:Sl × Int) (v26:(List Value)) (Rec18:(Sl × Int)→Hp→Prop) (s17:Sl × Int):Hp→Prop:=br (decide (s17.2 < 8)) ( hpv Tryz.prog (Instr.index kT (.agg v26.toArray) (.int .i64 s17.2)) R_api_Cap fun (v30:aC)=>br (v30.fRights != 0) ( clv Tryz.prog a1 [(.agg (aQ.C (⟨s6.2,s17.2⟩:aQ)).toArray),(.agg (aC.C v30).toArray)] aG fun r41=>hG s6 Rec18 s17 r41) ( hG s6 Rec18 s17 false)) ( Rec7 (s17.1,(IntKind.i64.wrap (s6.2 + 1))))
def qa (a1:Value) (K:Sl→Hp→Prop) (q13:Nat × Nat) (x15:Sl) (Rec7:(Sl × Int)→Hp→Prop) (s6:Sl × Int):Hp→Prop:=br (decide (s6.2 < (x15.len:Int))) ( ld (q13.1,q13.2 + 0) cS fun x23=>ix x23 s6.2 fun q25=>hpv Tryz.prog (Instr.loadAt kT (.pointer (some ⟨q25.1,q25.2 + Int.toNat s6.2 * 32,none⟩))) encL fun (v26:(List Value))=>Lp (pZ a1 Rec7 s6 v26) (s6.1,0)) ( K s6.1)
def vp (a0:Ptr) (a1:Value) (K:Sl→Hp→Prop):Hp→Prop:=br a0.isNone ( K (⟨none,0,0,none⟩:Sl)) ( nn a0 fun q13=>ld (q13.1,q13.2 + 0) cS fun x15=>Lp (qa a1 K q13 x15) ((⟨none,0,0,none⟩:Sl),0))
set_option maxRecDepth 20000 in
theorem sim_caps_Tree_all (a0:Ptr) (a1:Value) {K:Sl→Hp→Prop} {h:Hp} (H:vp a0 a1 K h):Ct Tryz.prog kh #[(pv a0),a1] h fun v h'=>∃ r,v = cY r∧K r h':=aA [(pv a0),a1] Tryz.func170 rfl rfl rfl fun _=>ag<|ab<|aa (ae rfl) rfl<|ad<|ag<|ag<|ab<|aa (ac rfl) rfl<|aa (ct Tryz.underlying128 rfl) rfl<|ad<|aE rfl H (fun k1 H2=>ag<|ab<|aa (ae rfl) rfl<|ad<|ao<|aw (ay rfl (aD rfl)) ⟨(⟨none,0,0,none⟩:Sl),rfl,H2⟩) (fun k1 H2=>av<|ag<|ab<|aa (ae rfl) rfl<|ad<|ag<|ag<|ab<|aa (ac rfl) rfl<|bJ H2 fun q13 e3 H4=>aa (aS (aV rfl (ax e3))) rfl<|aa (am gZ rfl) rfl<|aj (bd H4 pN rfl (fun _=>rfl) rfl fun x15 H5=>aa (dl rfl Tryz.underlying184 rfl) rfl<|aa (ac rfl) rfl<|ad<|aH<|bR (step:=qa a1 K q13 x15) (fun s6=>[(0,(pv a0)),(1,a1),(5,(sv s6.1)),(16,(.int .i64 (x15.len:Int))),(17,(.int .i64 s6.2))]) (fun s6=>[]) H5 (.cons rfl (.cons rfl (.cons rfl (.cons rfl (.cons rfl (.nil _)))))) .slnil (fun Rec7 s6 _ H8=>ag<|ab<|aa (cH rfl rfl) rfl<|ad<|ag<|aE rfl H8 (fun k9 H10=>av<|ag<|aH<|ag<|ab<|aa (ac rfl) rfl<|aa (ae rfl) rfl<|ad<|ag<|ab<|aa (ac (aV rfl (ax e3))) rfl<|aa (aS rfl) rfl<|aa (am gZ rfl) rfl<|aj (bd H10 pN rfl (fun _=>rfl) rfl fun x23 H11=>aa (ac rfl) rfl<|cx H11 fun q25 e12 h13 H14=>aa (bC nX (aV rfl (bm e12)) rfl h13) rfl<|aj (be H14 (x_load rfl) rfl fun v26 _ H16=>aa (ac rfl) rfl<|ad<|aH<|bR (step:=pZ a1 Rec7 s6 v26) (fun s17=>[(0,(pv a0)),(1,a1),(5,(sv s17.1)),(6,(.int .i64 s6.2)),(16,(.int .i64 (x15.len:Int))),(17,(.int .i64 s6.2)),(26,(.agg v26.toArray)),(27,(.int .i64 s17.2))]) (fun s17=>[]) H16 (.cons rfl (.cons rfl (.cons rfl (.cons rfl (.cons rfl (.cons rfl (.cons rfl (.cons rfl (.nil _))))))))) .slnil (fun Rec18 s17 _ H19=>ag<|ab<|aa (cH rfl rfl) rfl<|ad<|ag<|aE rfl H19 (fun k20 H21=>av<|ag<|aH<|ag<|ab<|aa (ac rfl) rfl<|aj (be H21 (x_index rfl rfl) rfl fun v30 _ H22=>aj (aW (l:=(aC.C (⟨0,0,0,0⟩:aC))) gi rfl rfl fun b8=>aa (ae rfl) rfl<|aj (bb (k:=0) (vs:=(aC.C v30)) fK rfl rfl rfl rfl rfl rfl rfl<|ad<|ag<|ab<|aa (ac rfl) rfl<|aa (ac rfl) rfl<|aa (bj rfl (uM s6.2 s17.2)) rfl<|aj (aW (l:=(aQ.C (⟨0,0⟩:aQ))) zero_208 rfl rfl fun b9=>aj (bb (k:=0) (vs:=(aQ.C (⟨s6.2,s17.2⟩:aQ))) inf_208 rfl rfl rfl rfl rfl rfl rfl<|ad<|eG (hG s6 Rec18 s17) (fun s23=>[(0,(pv a0)),(1,a1),(5,(sv s17.1)),(6,(.int .i64 s6.2)),(9,(.pointer (some ⟨b9,0,none⟩))),(16,(.int .i64 (x15.len:Int))),(17,(.int .i64 s6.2)),(26,(.agg v26.toArray)),(27,(.int .i64 s17.2)),(42,(.bool s23))]) (fun s23=>[bx b9 208 (aQ.C (⟨s6.2,s17.2⟩:aQ))]) ( ab<|aa (am gI rfl) rfl<|bw (bt (k:=1) bk rfl rfl rfl) rfl<|aa (pC rfl rfl) rfl<|aa (ac rfl) rfl<|ak rfl rfl rfl (aB _) (fun g29=>wv (ac rfl)) rfl<|ak rfl rfl rfl (aB _) (fun g30=>cv (bP (k:=0) ag_208 rfl rfl rfl rfl)) rfl<|ak rfl rfl rfl (aB _) (fun g31=>cv (bP (k:=1) vV rfl rfl rfl rfl)) rfl<|bO H22 (fun k33 H34=>aF rfl rfl rfl (congrArg Value.bool k33) (to_clv H34 (aK rfl k33) (aT (aK rfl k33) (aT (aK rfl k33) bM)) rfl fun r41 _ H35=>aa (ba rfl k33 rfl) rfl<|ad<|cO r41 H35 (.cons rfl (.cons rfl (.cons rfl (.cons rfl (.cons rfl (.cons rfl (.cons rfl (.cons rfl (.cons rfl (.cons rfl (.nil _))))))))))) (.cons_cons _ (.cons _ .slnil)))) (fun k33 H34=>ah rfl rfl rfl (aY k33) rfl<|aa (an rfl k33 rfl) rfl<|ad<|cO false H34 (.cons rfl (.cons rfl (.cons rfl (.cons rfl (.cons rfl (.cons rfl (.cons rfl (.cons rfl (.cons rfl (.cons rfl (.nil _))))))))))) (.cons_cons _ (.cons _ .slnil)))) (fun s23 _ H24=>aE rfl H24 (fun k25 H26=>ab<|aa (ac rfl) rfl<|bw (bP (k:=0) ag_208 rfl rfl rfl rfl) rfl<|aj (be H26 (bF (vs:=[(.agg (aQ.C (⟨s6.2,s17.2⟩:aQ)).toArray)]) rfl) rfl fun v45 _ H27=>aj (be H27 (dM rfl rfl) rfl fun v46 _ H28=>aa (ae rfl) rfl<|ad<|ab<|aa (bK rfl rfl) rfl<|aa (ac rfl) rfl<|ad<|cU (v46,(IntKind.i64.wrap (s17.2 + 1))) H28 (.cons rfl (.cons rfl (.cons rfl (.cons rfl (.cons rfl (.cons rfl (.cons rfl (.cons rfl (.nil _))))))))) (.cons _ .slnil)))) (fun k25 H26=>av<|ab<|aa (bK rfl rfl) rfl<|aa (ac rfl) rfl<|ad<|cU (s17.1,(IntKind.i64.wrap (s17.2 + 1))) H26 (.cons rfl (.cons rfl (.cons rfl (.cons rfl (.cons rfl (.cons rfl (.cons rfl (.cons rfl (.nil _))))))))) (.cons _ .slnil))))))))) (fun k20 H21=>bz<|ab<|aa (bK rfl rfl) rfl<|aa (ac rfl) rfl<|ad<|cU (s17.1,(IntKind.i64.wrap (s6.2 + 1))) H21 (.cons rfl (.cons rfl (.cons rfl (.cons rfl (.cons rfl (.nil _)))))) .slnil))))) (fun k9 H10=>bz<|ag<|ab<|aa (ac rfl) rfl<|aa (ae rfl) rfl<|ad<|ao<|aw (ay rfl (aD rfl)) ⟨s6.1,rfl,H10⟩))))
def ud (a0:Ptr) (a1:Int) (a2:Int) (K:Int→Hp→Prop):Hp→Prop:=br a0.isNone ( K 10) ( cl Tryz.prog ib [(pv a0),(.int .i64 a1),(.int .i64 a2)] aG fun r14=>br (!r14) ( K 2) ( nn a0 fun q18=>ld (q18.1,q18.2 + 0) cS fun x20=>ix x20 a1 fun q23=>gd (0 ≤ a2∧a2 < 8)<|ld (q23.1,q23.2 + Int.toNat a1 * 32 + Int.toNat a2 * 4 + 1) (cI .i64) fun x26=>br (x26 == 0) ( K 3) ( K 0)))
set_option maxRecDepth 20000 in
theorem sim_caps_Tree_look (a0:Ptr) (a1:Int) (a2:Int) {K:Int→Hp→Prop} {h:Hp} (H:ud a0 a1 a2 K h):Ct Tryz.prog lW #[(pv a0),(.int .i64 a1),(.int .i64 a2)] h fun v h'=>∃ r,v = bu r∧K r h':=aA [(pv a0),(.int .i64 a1),(.int .i64 a2)] Tryz.func184 rfl rfl rfl fun _=>ag<|ab<|aa (ae rfl) rfl<|ad<|ag<|aH<|ag<|ab<|aa (ac rfl) rfl<|aa (ct Tryz.underlying128 rfl) rfl<|aa (ae rfl) rfl<|ad<|aE rfl H (fun k1 H2=>ag<|ab<|aa (ae rfl) rfl<|ad<|ao<|aw (ay rfl (aD rfl)) ⟨10,rfl,H2⟩) (fun k1 H2=>ag<|ab<|aa (ac rfl) rfl<|aa (ac rfl) rfl<|aa (ac rfl) rfl<|aj (az H2 en_162 rfl rfl fun r14 _ H3=>aa (cu rfl) rfl<|aa (ae rfl) rfl<|ad<|aE rfl H3 (fun k4 H5=>ag<|ab<|aa (ae rfl) rfl<|ad<|ao<|aw (ay rfl (aD rfl)) ⟨2,rfl,H5⟩) (fun k4 H5=>ag<|ab<|aa (ac rfl) rfl<|bJ H5 fun q18 e6 H7=>aa (aS (aV rfl (ax e6))) rfl<|aa (am gZ rfl) rfl<|aj (bd H7 pN rfl (fun _=>rfl) rfl fun x20 H8=>aa (ac rfl) rfl<|aa (ac rfl) rfl<|cx H8 fun q23 e9 h10 H11=>aa (bC nX (aV rfl (bm e9)) rfl h10) rfl<|je H11 fun h12 H13=>aa (bL qk rfl rfl h12) rfl<|aa (am gI rfl) rfl<|aj (bd H13 bk rfl (fun _=>rfl) rfl fun x26 H14=>aa (bV rfl rfl) rfl<|aa (ae rfl) rfl<|ad<|aE rfl H14 (fun k15 H16=>ag<|ab<|aa (ae rfl) rfl<|ad<|ao<|aw (ay rfl (aD rfl)) ⟨3,rfl,H16⟩) (fun k15 H16=>av<|ag<|ab<|aa (ae rfl) rfl<|ad<|ao<|aw (ay rfl (aD rfl)) ⟨0,rfl,H16⟩))))))
def lB (a0:Ptr) (a1:Sl) (K:Sl→Hp→Prop) (Rec2:Int→Hp→Prop) (s1:Int):Hp→Prop:=br (decide (s1 < (a1.len:Int))) ( ix a1 s1 fun q11=>ld (q11.1,q11.2 + Int.toNat s1 * 2) aQ.C fun x12=>nn a0 fun q14=>ld (q14.1,q14.2 + 0) cS fun x16=>ix x16 x12.fEnv fun q22=>gd (0 ≤ x12.fSlot∧x12.fSlot < 8)<|st (q22.1,q22.2 + Int.toNat x12.fEnv * 32 + Int.toNat x12.fSlot * 4) (aC.C (⟨0,0,0,0⟩:aC))<|Rec2 (IntKind.i64.wrap (s1 + 1))) ( K a1)
def qE (a0:Ptr) (a1:Sl) (K:Sl→Hp→Prop):Hp→Prop:=Lp (lB a0 a1 K) 0
set_option maxRecDepth 20000 in
theorem sim_caps_Tree_empties (a0:Ptr) (a1:Sl) {K:Sl→Hp→Prop} {h:Hp} (H:qE a0 a1 K h):Ct Tryz.prog gF #[(pv a0),(sv a1)] h fun v h'=>∃ r,v = cY r∧K r h':=aA [(pv a0),(sv a1)] Tryz.func185 rfl rfl rfl fun _=>ag<|ab<|aa (ae rfl) rfl<|ad<|ag<|ag<|ab<|aa (ac rfl) rfl<|aa (dl rfl Tryz.underlying173 rfl) rfl<|aa (ac rfl) rfl<|ad<|aH<|bR (step:=lB a0 a1 K) (fun s1=>[(0,(pv a0)),(1,(sv a1)),(7,(sv a1)),(8,(.int .i64 (a1.len:Int))),(9,(.int .i64 s1))]) (fun s1=>[]) H (.cons rfl (.cons rfl (.cons rfl (.cons rfl (.cons rfl (.nil _)))))) .slnil (fun Rec2 s1 _ H3=>ag<|ab<|aa (cH rfl rfl) rfl<|ad<|ag<|aE rfl H3 (fun k4 H5=>av<|ag<|aH<|ag<|ab<|cx H5 fun q11 e6 h7 H8=>aa (bC slc_173 (aV rfl (bm e6)) rfl h7) rfl<|aj (hH H8 ag_208 rfl (fun _=>rfl) rfl fun x12 H9=>aj (aW (l:=(aQ.C (⟨0,0⟩:aQ))) zero_208 rfl rfl fun b6=>aj (bb (k:=0) (vs:=(aQ.C x12)) inf_208 rfl rfl rfl rfl rfl rfl rfl<|ad<|bB (n:=12) [bx b6 208 (aQ.C x12)] cA rfl (.cons_cons _ .slnil)<|ai (i:=0) (fun _ _ _ _=>id) rfl (by kernel_rfl) rfl (ve (ac rfl))<|ai (i:=4) (fun _ _ _ _=>id) rfl (by kernel_rfl) rfl (ve (am fld_208_0 rfl))<|ai (i:=5) (fun _ _ _ _=>id) rfl (by kernel_rfl) rfl (dm (k:=0) bk rfl rfl rfl)<|ai (i:=6) (fun _ _ _ _=>id) rfl (by kernel_rfl) rfl (ve (am fld_208_1 rfl))<|ai (i:=7) (fun _ _ _ _=>id) rfl (by kernel_rfl) rfl (dm (k:=0) bk rfl rfl rfl)<|ai (i:=8) (fun _ _ _ _=>id) rfl (by kernel_rfl) rfl (ve (bj (vs:=[]) rfl build_70))<|gP H9 fun q14 e10 H11=>ai (i:=1) (fun _ _ _ _=>id) rfl (by kernel_rfl) rfl (ve (aS (aV rfl (ax e10))))<|ai (i:=2) (fun _ _ _ _=>id) rfl (by kernel_rfl) rfl (ve (am gZ rfl))<|bQ (i:=3) (fun _ _ _ _=>id) H11 rfl (by kernel_rfl) pN rfl (fun _=>rfl) rfl fun x16 H12=>fM H12 fun q22 e13 h14 H15=>ai (i:=9) (fun _ _ _ _=>id) rfl (by kernel_rfl) rfl (ve (bC nX (aV rfl (bm e13)) rfl h14))<|eva_gd H15 fun h16 H17=>ai (i:=10) (fun _ _ _ _=>id) rfl (by kernel_rfl) rfl (ve (bL qk rfl rfl h16))<|bh (i:=11) (by kernel_rfl) (aI rfl rfl (dz fK rfl rfl rfl rfl rfl H17 fun _ H18=>⟨(.cons_cons _ .slnil),bf (by kernel_rfl)<|ab<|aa (bK rfl rfl) rfl<|aa (ac rfl) rfl<|ad<|cU (IntKind.i64.wrap (s1 + 1)) H18 (.cons rfl (.cons rfl (.cons rfl (.cons rfl (.cons rfl (.nil _)))))) (.cons _ .slnil)⟩)))))) (fun k4 H5=>bz<|ag<|ab<|aa (ac rfl) rfl<|aa (ae rfl) rfl<|ad<|ao<|aw (ay rfl (aD rfl)) ⟨a1,rfl,H5⟩))
def np (a0:Ptr) (a2:aQ) (K:Bool→Hp→Prop) (Rec2:aC→Hp→Prop) (s1:aC):Hp→Prop:=br ((s1.fRights != 0) && (decide (s1.fEnv ≥ 0))) ( br ((s1.fEnv == a2.fEnv) && (s1.fSlot == a2.fSlot)) ( K true) ( nn a0 fun q28=>ld (q28.1,q28.2 + 0) cS fun x30=>ix x30 s1.fEnv fun q35=>gd (0 ≤ s1.fSlot∧s1.fSlot < 8)<|ld (q35.1,q35.2 + Int.toNat s1.fEnv * 32 + Int.toNat s1.fSlot * 4) aC.C fun x37=>Rec2 x37)) ( K false)
def sS (a0:Ptr) (a1:aC) (a2:aQ) (K:Bool→Hp→Prop):Hp→Prop:=Lp (np a0 a2 K) a1
set_option maxRecDepth 20000 in
theorem sim_caps_Tree_under (a0:Ptr) (a1:aC) (a2:aQ) {K:Bool→Hp→Prop} {h:Hp} (H:sS a0 a1 a2 K h):Ct Tryz.prog kP #[(pv a0),(.agg (aC.C a1).toArray),(.agg (aQ.C a2).toArray)] h fun v h'=>∃ r,v = aG r∧K r h':=aA [(pv a0),(.agg (aC.C a1).toArray),(.agg (aQ.C a2).toArray)] Tryz.func172 rfl rfl rfl fun _=>ag<|ab<|aj (cQ (l:=(aC.C a1)) rfl rfl rfl fun b4=>aj (cQ (l:=(aQ.C a2)) rfl rfl rfl fun b5=>aa (ae rfl) rfl<|ad<|ag<|aH<|bR (step:=np a0 a2 K) (fun s1=>[(0,(pv a0)),(4,(.pointer (some ⟨b4,0,none⟩))),(5,(.pointer (some ⟨b5,0,none⟩)))]) (fun s1=>[bx b5 208 (aQ.C a2),bx b4 70 (aC.C s1)]) H (.cons rfl (.cons rfl (.cons rfl (.nil _)))) (.cons_cons _ (.cons_cons _ .slnil)) (fun Rec2 s1 _ H3=>ag<|ag<|ab<|aa (am gI rfl) rfl<|bw (bt (k:=1) bk rfl rfl rfl) rfl<|aa (pC rfl rfl) rfl<|aa (ac rfl) rfl<|ak rfl rfl rfl (aB _) (fun g4=>wv (am qK rfl)) rfl<|ak rfl rfl rfl (aB _) (fun g5=>cv (bt (k:=1) bk (aK rfl g5) rfl rfl)) rfl<|ak rfl rfl rfl (aB _) (fun g6=>wv (jH (aK rfl g6) rfl)) rfl<|aa (bX rfl rfl) rfl<|ad<|aE rfl H3 (fun k7 H8=>av<|aH<|ag<|ag<|ab<|aa (am qK rfl) rfl<|bw (bt (k:=1) bk rfl rfl rfl) rfl<|aa (am fld_208_0 rfl) rfl<|bw (bt (k:=0) bk rfl rfl rfl) rfl<|aa (bV rfl rfl) rfl<|aa (ac rfl) rfl<|ak rfl rfl rfl (aB _) (fun g9=>wv (am fld_70_3 rfl)) rfl<|ak rfl rfl rfl (aB _) (fun g10=>cv (bt (k:=1) bk (aK rfl g10) rfl rfl)) rfl<|ak rfl rfl rfl (aB _) (fun g11=>wv (am fld_208_1 rfl)) rfl<|ak rfl rfl rfl (aB _) (fun g12=>cv (bt (k:=0) bk (aK rfl g12) rfl rfl)) rfl<|ak rfl rfl rfl (aB _) (fun g13=>wv (bV (aK rfl g13) (aK rfl g13))) rfl<|aa (bX rfl rfl) rfl<|ad<|aE rfl H8 (fun k14 H15=>ag<|ab<|aa (ae rfl) rfl<|ad<|ao<|aw (ay rfl (aD rfl)) ⟨true,rfl,H15⟩) (fun k14 H15=>av<|bB (n:=12) [] cA rfl (.cons _ (.cons _ .slnil))<|ai (i:=0) (fun _ _ _ _=>id) rfl (by kernel_rfl) rfl (ve (ac rfl))<|ai (i:=4) (fun _ _ _ _=>id) rfl (by kernel_rfl) rfl (ve (am qK rfl))<|ai (i:=6) (fun _ _ _ _=>id) rfl (by kernel_rfl) rfl (ve (am fld_70_3 rfl))<|gP H15 fun q28 e16 H17=>ai (i:=1) (fun _ _ _ _=>id) rfl (by kernel_rfl) rfl (ve (aS (aV rfl (ax e16))))<|ai (i:=2) (fun _ _ _ _=>id) rfl (by kernel_rfl) rfl (ve (am gZ rfl))<|bQ (i:=3) (fun _ _ _ _=>id) H17 rfl (by kernel_rfl) pN rfl (fun _=>rfl) rfl fun x30 H18=>eva_load (i:=5) (fun _ _ _ _=>id) rfl (by kernel_rfl) rfl (bt (k:=1) bk rfl rfl rfl)<|fM H18 fun q35 e19 h20 H21=>ai (i:=8) (fun _ _ _ _=>id) rfl (by kernel_rfl) rfl (ve (bC nX (aV rfl (bm e19)) rfl h20))<|eva_load (i:=7) (fun _ _ _ _=>id) rfl (by kernel_rfl) rfl (bt (k:=1) bk rfl rfl rfl)<|eva_gd H21 fun h22 H23=>ai (i:=9) (fun _ _ _ _=>id) rfl (by kernel_rfl) rfl (ve (bL qk rfl rfl h22))<|rU (i:=10) (fun _ _ _ _=>id) H23 rfl (by kernel_rfl) vV rfl (fun _=>rfl) rfl fun x37 H24=>bh (i:=11) (by kernel_rfl) (aI rfl rfl (bb (k:=1) (vs:=(aC.C x37)) fK rfl rfl rfl rfl rfl rfl rfl<|⟨(.cons _ (.cons _ .slnil)),bf (by kernel_rfl)<|cU x37 H24 (.cons rfl (.cons rfl (.cons rfl (.nil _)))) (.cons_cons _ (.cons_cons _ .slnil))⟩)))) (fun k7 H8=>bz<|ag<|ab<|aa (ae rfl) rfl<|ad<|ao<|aw (ay rfl (aD rfl)) ⟨false,rfl,H8⟩))))
def qF (a0:aQ) (a1:aC) (c0:Nat) (c1:Nat) (K:Bool→Hp→Prop):Hp→Prop:=ld (c0,0) aQ.C fun x8=>br (!(aQ.eqb a0 x8)) ( ld (c1,0) cP fun x11=>ld (c0,0) aQ.C fun x13=>cl Tryz.prog kP [(pv x11),(.agg (aC.C a1).toArray),(.agg (aQ.C x13).toArray)] aG fun r14=>K r14) ( K true)
set_option maxRecDepth 20000 in
theorem sim_caps_Tree_Drop_c1 (a0:aQ) (a1:aC) (c0:Nat) (c1:Nat) {K:Bool→Hp→Prop} {h:Hp} (H:qF a0 a1 c0 c1 K h):Ct Tryz.prog gG #[(.agg (aQ.C a0).toArray),(.agg (aC.C a1).toArray),(.pointer (some ⟨c0,0,none⟩)),(.pointer (some ⟨c1,0,none⟩))] h fun v h'=>∃ r,v = aG r∧K r h':=aA [(.agg (aQ.C a0).toArray),(.agg (aC.C a1).toArray),(.pointer (some ⟨c0,0,none⟩)),(.pointer (some ⟨c1,0,none⟩))] Tryz.func186 rfl rfl rfl fun _=>ag<|ab<|aj (cQ (l:=(aQ.C a0)) rfl rfl rfl fun b4=>aj (cQ (l:=(aC.C a1)) rfl rfl rfl fun b5=>aa (ae rfl) rfl<|ad<|ag<|ab<|bw (bP (k:=1) ag_208 rfl rfl rfl rfl) rfl<|aj (hH H ag_208 rfl (fun _=>rfl) rfl fun x8 H1=>aa (v_eqA eqg_208 (eqr_208 9998 _ _) rfl rfl) rfl<|aa (ac rfl) rfl<|bO H1 (fun k3 H4=>aF rfl rfl rfl (congrArg Value.bool (cf k3)) (bd H4 hY rfl (fun _=>rfl) rfl fun x11 H5=>aF rfl rfl rfl (congrArg Value.bool (cf k3)) (aJ (cv (bP (k:=0) vV rfl rfl rfl rfl)) rfl<|aF rfl rfl rfl (congrArg Value.bool (cf k3)) (hH H5 ag_208 rfl (fun _=>rfl) rfl fun x13 H6=>aF rfl rfl rfl (congrArg Value.bool (cf k3)) (az H6 en_172 rfl rfl fun r14 _ H7=>aa (an rfl (cf k3) rfl) rfl<|aa (ae rfl) rfl<|ad<|ao<|aw (ay rfl (aD rfl)) ⟨r14,rfl,H7⟩))))) (fun k3 H4=>ah rfl rfl rfl (cc (bH k3)) rfl<|ah rfl rfl rfl (cc (bH k3)) rfl<|ah rfl rfl rfl (cc (bH k3)) rfl<|ah rfl rfl rfl (cc (bH k3)) rfl<|aa (ba rfl (bH k3) rfl) rfl<|aa (ae rfl) rfl<|ad<|ao<|aw (ay rfl (aD rfl)) ⟨true,rfl,H4⟩))))
def uf (a0:Ptr) (a1:Int) (a2:Int) (K:(Sl × Int)→Hp→Prop):Hp→Prop:=nw rI [pv a0] fun b3=>ld (b3,0) cP fun x10=>cl Tryz.prog lW [(pv x10),(.int .i64 a1),(.int .i64 a2)] bu fun r13=>br (r13 != 0) ( K ((⟨none,0,0,none⟩:Sl),r13)) ( nw rH (aQ.C (⟨0,0⟩:aQ)) fun b9=>st (b9,0) (aQ.C (⟨a1,a2⟩:aQ))<|ld (b3,0) cP fun x21=>both ( ld (b3,0) cP fun x20=>cl Tryz.prog kh [(pv x21),(.func (.func gG) #[] #[(.pointer (some ⟨b9,0,none⟩)),(.pointer (some ⟨b3,0,none⟩))])] cY fun r23=>cl Tryz.prog gF [(pv x20),(sv r23)] cY fun r24=>K (r24,0)) ( cl Tryz.prog kh [(pv x21),(.func (.func gG) #[] #[(.pointer (some ⟨b9,0,none⟩)),(.pointer (some ⟨b3,0,none⟩))])] cY fun r23=>ld (b3,0) cP fun x20=>cl Tryz.prog gF [(pv x20),(sv r23)] cY fun r24=>K (r24,0)))
set_option maxRecDepth 20000 in
theorem sim_caps_Tree_Drop (a0:Ptr) (a1:Int) (a2:Int) {K:(Sl × Int)→Hp→Prop} {h:Hp} (H:uf a0 a1 a2 K h):Ct Tryz.prog lX #[(pv a0),(.int .i64 a1),(.int .i64 a2)] h fun v h'=>∃ r,v = dC r∧K r h':=aA [(pv a0),(.int .i64 a1),(.int .i64 a2)] Tryz.func157 rfl rfl rfl fun _=>ag<|ab<|aj (hO rfl rfl rfl H fun b3 _ H1=>aa (ae rfl) rfl<|aa (ae rfl) rfl<|ad<|ag<|ag<|ab<|aj (bd H1 hY rfl (fun _=>rfl) rfl fun x10 H2=>aa (ac rfl) rfl<|aa (ac rfl) rfl<|aj (az H2 en_184 rfl rfl fun r13 _ H3=>aa (ae rfl) rfl<|ad<|ag<|ab<|aa (ac rfl) rfl<|aa (pC rfl rfl) rfl<|ad<|aE rfl H3 (fun k4 H5=>ag<|ab<|aa (ac rfl) rfl<|aa (ae rfl) rfl<|aa (ae rfl) rfl<|ad<|ao<|aw (bW rfl (aD rfl) (aD rfl)) ⟨((⟨none,0,0,none⟩:Sl),r13),rfl,H5⟩) (fun k4 H5=>av<|ag<|ab<|aa (ac rfl) rfl<|aa (ac rfl) rfl<|aa (bj rfl (uM a1 a2)) rfl<|aj (to_alloc zero_208 rfl rfl H5 fun b9 _ H6=>aj (dz inf_208 rfl rfl rfl rfl rfl H6 fun _ H7=>ad<|ag<|bB (n:=7) [] cA rfl .slnil<|ai (i:=2) (fun _ _ _ _=>id) rfl (by kernel_rfl) rfl (ve (v_func rfl rfl))<|bQ (i:=1) (fun _ _ _ _=>id) H7 rfl (by kernel_rfl) hY rfl (fun _=>rfl) rfl fun x21 H8=>jC H8 fun H9_1 H9_2=>jD (i:=0) (j:=3) (by kernel_rfl) (aI rfl rfl (bd H9_1 hY rfl (fun _=>rfl) rfl fun x20 H10=>⟨.slnil,bh (i:=3) (by kernel_rfl) (aI rfl rfl (az H10 en_170 rfl rfl fun r23 _ H11=>⟨.slnil,bh (i:=4) (by kernel_rfl) (aI rfl rfl (az H11 en_185 rfl rfl fun r24 _ H12=>⟨.slnil,ai (i:=5) (fun _ _ _ _=>id) rfl (by kernel_rfl) rfl (ve (ae rfl))<|ai (i:=6) (fun _ _ _ _=>id) rfl (by kernel_rfl) rfl (ve (ae rfl))<|bf (by kernel_rfl)<|ao<|aw (bW rfl (aD rfl) (aD rfl)) ⟨(r24,0),rfl,H12⟩⟩))⟩))⟩)) (aI rfl rfl (az H9_2 en_170 rfl rfl fun r23 _ H10=>⟨.slnil,bQ (i:=0) (fun _ _ _ _=>id) H10 rfl (by kernel_rfl) hY rfl (fun _=>rfl) rfl fun x20 H11=>bh (i:=4) (by kernel_rfl) (aI rfl rfl (az H11 en_185 rfl rfl fun r24 _ H12=>⟨.slnil,ai (i:=5) (fun _ _ _ _=>id) rfl (by kernel_rfl) rfl (ve (ae rfl))<|ai (i:=6) (fun _ _ _ _=>id) rfl (by kernel_rfl) rfl (ve (ae rfl))<|bf (by kernel_rfl)<|ao<|aw (bW rfl (aD rfl) (aD rfl)) ⟨(r24,0),rfl,H12⟩⟩))⟩))))))))
def py (a0:aQ) (a1:aC) (c0:Nat) (c1:Nat) (c2:Nat) (K:Bool→Hp→Prop):Hp→Prop:=ld (c0,0) cP fun x8=>ld (c1,0) (cI .i64) fun x10=>ld (c2,0) (cI .i64) fun x11=>cl Tryz.prog kP [(pv x8),(.agg (aC.C a1).toArray),(.agg (aQ.C (⟨x10,x11⟩:aQ)).toArray)] aG fun r13=>K r13
set_option maxRecDepth 20000 in
theorem wA (a0:aQ) (a1:aC) (c0:Nat) (c1:Nat) (c2:Nat) {K:Bool→Hp→Prop} {h:Hp} (H:py a0 a1 c0 c1 c2 K h):Ct Tryz.prog lw #[(.agg (aQ.C a0).toArray),(.agg (aC.C a1).toArray),(.pointer (some ⟨c0,0,none⟩)),(.pointer (some ⟨c1,0,none⟩)),(.pointer (some ⟨c2,0,none⟩))] h fun v h'=>∃ r,v = aG r∧K r h':=aA [(.agg (aQ.C a0).toArray),(.agg (aC.C a1).toArray),(.pointer (some ⟨c0,0,none⟩)),(.pointer (some ⟨c1,0,none⟩)),(.pointer (some ⟨c2,0,none⟩))] Tryz.func171 rfl rfl rfl fun _=>ag<|ab<|aj (cQ (l:=(aQ.C a0)) rfl rfl rfl fun b5=>aj (cQ (l:=(aC.C a1)) rfl rfl rfl fun b6=>aa (ae rfl) rfl<|ad<|ag<|ab<|aj (bd H hY rfl (fun _=>rfl) rfl fun x8 H1=>bw (bP (k:=0) vV rfl rfl rfl rfl) rfl<|aj (bd H1 bk rfl (fun _=>rfl) rfl fun x10 H2=>aj (bd H2 bk rfl (fun _=>rfl) rfl fun x11 H3=>aa (bj rfl (uM x10 x11)) rfl<|aj (az H3 en_172 rfl rfl fun r13 _ H4=>aa (ae rfl) rfl<|ad<|ao<|aw (ay rfl (aD rfl)) ⟨r13,rfl,H4⟩))))))
def sT (a0:Ptr) (a1:Int) (a2:Int) (K:Sl→Hp→Prop):Hp→Prop:=nw rI [pv a0] fun b3=>nw kJ [.int .i64 a1] fun b4=>nw kJ [.int .i64 a2] fun b5=>ld (b3,0) cP fun x7=>cl Tryz.prog kh [(pv x7),(.func (.func lw) #[] #[(.pointer (some ⟨b3,0,none⟩)),(.pointer (some ⟨b4,0,none⟩)),(.pointer (some ⟨b5,0,none⟩))])] cY fun r9=>K r9
set_option maxRecDepth 20000 in
theorem sim_caps_Tree_Below (a0:Ptr) (a1:Int) (a2:Int) {K:Sl→Hp→Prop} {h:Hp} (H:sT a0 a1 a2 K h):Ct Tryz.prog kQ #[(pv a0),(.int .i64 a1),(.int .i64 a2)] h fun v h'=>∃ r,v = cY r∧K r h':=aA [(pv a0),(.int .i64 a1),(.int .i64 a2)] Tryz.func131 rfl rfl rfl fun _=>ag<|ab<|aj (hO rfl rfl rfl H fun b3 _ H1=>aj (hO rfl rfl rfl H1 fun b4 _ H2=>aj (hO rfl rfl rfl H2 fun b5 _ H3=>aa (ae rfl) rfl<|ad<|ag<|ab<|aj (bd H3 hY rfl (fun _=>rfl) rfl fun x7 H4=>aa (v_func rfl rfl) rfl<|aj (az H4 en_170 rfl rfl fun r9 _ H5=>aa (ae rfl) rfl<|ad<|ao<|aw (ay rfl (aD rfl)) ⟨r9,rfl,H5⟩)))))
def rC (a0:Ptr) (a1:Int) (a2:Int) (K:(Sl × Int)→Hp→Prop):Hp→Prop:=cl Tryz.prog lW [(pv a0),(.int .i64 a1),(.int .i64 a2)] bu fun r12=>br (r12 != 0) ( K ((⟨none,0,0,none⟩:Sl),r12)) ( cl Tryz.prog kQ [(pv a0),(.int .i64 a1),(.int .i64 a2)] cY fun r20=>cl Tryz.prog gF [(pv a0),(sv r20)] cY fun r21=>K (r21,0))
set_option maxRecDepth 20000 in
theorem sim_caps_Tree_Revoke (a0:Ptr) (a1:Int) (a2:Int) {K:(Sl × Int)→Hp→Prop} {h:Hp} (H:rC a0 a1 a2 K h):Ct Tryz.prog nh #[(pv a0),(.int .i64 a1),(.int .i64 a2)] h fun v h'=>∃ r,v = dC r∧K r h':=aA [(pv a0),(.int .i64 a1),(.int .i64 a2)] Tryz.func158 rfl rfl rfl fun _=>ag<|ab<|aa (ae rfl) rfl<|aa (ae rfl) rfl<|ad<|ag<|ag<|ab<|aa (ac rfl) rfl<|aa (ac rfl) rfl<|aa (ac rfl) rfl<|aj (az H en_184 rfl rfl fun r12 _ H1=>aa (ae rfl) rfl<|ad<|ag<|ab<|aa (ac rfl) rfl<|aa (pC rfl rfl) rfl<|ad<|aE rfl H1 (fun k2 H3=>ag<|ab<|aa (ac rfl) rfl<|aa (ae rfl) rfl<|aa (ae rfl) rfl<|ad<|ao<|aw (bW rfl (aD rfl) (aD rfl)) ⟨((⟨none,0,0,none⟩:Sl),r12),rfl,H3⟩) (fun k2 H3=>av<|ag<|ab<|aa (ac rfl) rfl<|aa (ac rfl) rfl<|aa (ac rfl) rfl<|aa (ac rfl) rfl<|aj (az H3 en_131 rfl rfl fun r20 _ H4=>aj (az H4 en_185 rfl rfl fun r21 _ H5=>aa (ae rfl) rfl<|aa (ae rfl) rfl<|ad<|ao<|aw (bW rfl (aD rfl) (aD rfl)) ⟨(r21,0),rfl,H5⟩))))
end Go.Proofs.YtniiiakkdoiaiaaGreatDoor
