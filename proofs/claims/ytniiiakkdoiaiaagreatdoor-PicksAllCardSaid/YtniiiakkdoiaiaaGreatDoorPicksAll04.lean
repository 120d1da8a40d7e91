/- Part of the proof of: The law PicksAll returns true for every input, and leaves its arguments as they were. -/
import Derived.Test.YtniiiakkdoiaiaaGreatDoorPicksAll03
set_option linter.all false
namespace Go.Proofs.YtniiiakkdoiaiaaGreatDoor
open Go Mb
abbrev vI (s:Sl) (xs:List Int):As:=vec kH 1 (cI .i64) s xs
def fV (a:Int):List Int→Int→Int
  | [],_=>-1
  | x::xs,i=>if a = x then i else fV a xs (i + 1)
theorem sp_slices_Index (s:Sl) (a:Int) (xs:List Int) (hb:xs.length < 2^62) :
    Sp Tryz.prog jQ [sv s,.int .i64 a] dO [vI s xs] (fun r=>pa_ (r = fV a xs 0) [vI s xs]):=by
  intro h st
  refine ut _ _ ?_
  unfold nz
  refine Lp.intro (fun (i:Int) h=>∃ n:Nat,i = n∧n ≤ xs.length∧fV a (xs.drop n) n = fV a xs 0∧aP [vI s xs] h) (fun (i:Int) _=>xs.length - i.toNat) ⟨0,rfl,Nat.zero_le _,by simp,st⟩ ?_
  rintro i h ⟨n,rfl,hn,he,st⟩
  have hl:=(cq st (j:=0) rfl).1
  unfold jp
  refine bk (fun k=>?_) (fun k=>?_)
  · have hlt:n < xs.length:=by simp [hl] at k; exact k
    refine dE st (j:=0) rfl (by omega) (by omega) fun q hq=>?_
    refine eC (j:=0) (i:=n) (k:=0) xs[n] (dk _) st rfl hq (by simp) (aO hlt) (by simp) ?_
    have hd:xs.drop n = xs[n]::xs.drop (n + 1):=List.drop_eq_getElem_cons hlt
    rw [hd] at he
    refine bk (fun k2=>?_) (fun k2=>?_)
    · have k2':a = xs[n]:=by simpa using k2
      rw [fV,if_pos k2'] at he
      exact ⟨he,st⟩
    · have k2':¬ a = xs[n]:=by simpa using k2
      rw [fV,if_neg k2'] at he
      have hw:IntKind.i64.wrap ((n:Int) + 1) = ((n + 1:Nat):Int):=by rw [cf (by omega) (by omega)]; rfl
      rw [hw]
      exact ⟨⟨n + 1,rfl,hlt,by simpa using he,st⟩,by simp; omega⟩
  · have:n = xs.length:=by simp [hl] at k; omega
    subst this
    simp only [List.drop_length,fV] at he
    exact ⟨he,st⟩
def fP (x:Ptr) (p:List Int):As:=fun h=>∃ bs:Nat × Sl,(x = some (bs.1,0)∧p.length ≤ 16)∧aP [blk bs.1 ql [sv bs.2],vI bs.2 p] h
namespace Pool
def refs (p:List Int) (i:Int):Int:=if i < 0 then 0 else p.getD i.toNat 0
def take (p:List Int):Int × Bool × List Int :=
  if fV 0 p 0 < 0 then (0,false,p) else (fV 0 p 0,true,p.set (fV 0 p 0).toNat 1)
def hold (p:List Int) (i:Int):Bool × List Int :=
  if refs p i = 0∨refs p i ≥ 7 then (false,p) else (true,p.set i.toNat (IntKind.i64.wrap (refs p i + 1)))
def lets (p:List Int) (i:Int):Int × Bool × List Int :=
  if refs p i = 0 then (0,false,p) else (IntKind.i64.wrap (refs p i - 1),true,p.set i.toNat (IntKind.i64.wrap (refs p i - 1)))
def freeFrom:List Int→Int→List Int
  | [],_=>[]
  | x::xs,i=>if x = 0 then i::freeFrom xs (i + 1) else freeFrom xs (i + 1)
def free (p:List Int):List Int:=freeFrom p 0
end Pool
theorem idx_lt (a:Int):∀ (xs:List Int) (i:Int),fV a xs i = -1∨∃ n:Nat,n < xs.length∧fV a xs i = i + n
  | [],_=>.inl rfl
  | x::xs,i=>by
    unfold fV
    split
    · exact .inr ⟨0,by simp,by simp⟩
    · rcases idx_lt a xs (i + 1) with h | ⟨n,h1,h2⟩
      · exact .inl h
      · exact .inr ⟨n + 1,by simp; omega,by rw [h2]; omega⟩
theorem pool_op {x:Ptr} {p:List Int} {l:List As} {h:Hp} (s0:aP (fP x p::l) h):∃ b s,x = some (b,0)∧p.length ≤ 16∧s.len = p.length∧aP (blk b ql [sv s]::vI s p::l) h:=by
  obtain ⟨⟨b,s⟩,⟨hx,hb⟩,st⟩:=op_ s0
  exact ⟨b,s,hx,hb,(cq (j:=1) st rfl).1,st⟩
theorem rL {b:Nat} {s:Sl} {p:List Int} {l:List As} {h:Hp} (hb:p.length ≤ 16) (st:aP (blk b ql [sv s]::vI s p::l) h):aP (fP (some (b,0)) p::l) h:=cl_ (b,s) ⟨rfl,hb⟩ st
theorem sp_pool_New (n:Int) (h1:¬ n < 1) (h2:¬ n > 16):Sp Tryz.prog wL [.int .i64 n] rY [] (fun r=>aP [fP r (List.replicate n.toNat 0)]):=by
  intro h st
  refine sim_pool_New _ ?_
  unfold sh_pool_New
  obtain ⟨m,rfl⟩:=Int.eq_ofNat_of_zero_le (show 0 ≤ n by omega)
  refine dJ (by simp; omega) ?_
  refine nI (τ:=Int) (x0:=0) (enc:=cI .i64) (n:=m) (T:=kH) (m:=1) el_Sint rfl st ?_ ?_ ?_
  · omega
  · omega
  · intro v h' s1
    refine oS s1 fun b h'' s2=>?_
    exact rL (by simp; omega) s2
theorem wb (x:Ptr) (p:List Int) (i:Int):Sp Tryz.prog jt [pv x,.int .i64 i] dO [fP x p] (fun r=>pa_ (r = Pool.refs p i) [fP x p]):=by
  intro h s0
  obtain ⟨b,s,rfl,hb,hl,st⟩:=pool_op s0
  refine sim_pool_Pool_Refs _ _ ?_
  unfold tD
  refine bk (fun k=>?_) (fun k=>?_)
  · have h0:0 ≤ i:=by simpa using k
    obtain ⟨n,rfl⟩:=Int.eq_ofNat_of_zero_le h0
    refine cO ?_
    refine bB s st (i:=0) rfl rfl rfl ?_
    refine bk (fun k2=>?_) (fun k2=>?_)
    · have:p.length ≤ n:=by rw [hl] at k2; simpa using k2
      exact bi (by simp [Pool.refs,this]) (rL hb st)
    · have hlt:n < p.length:=by rw [hl] at k2; simpa using k2
      refine bB s st (i:=0) rfl rfl rfl ?_
      refine dE st (j:=1) rfl (by omega) (by omega) fun q hq=>?_
      refine eC (j:=1) (i:=n) (k:=0) p[n] (dk _) st rfl hq (by simp) (aO hlt) (by simp) ?_
      refine bi ?_ (rL hb st)
      have:¬ ((n:Int) < 0):=by omega
      simp [Pool.refs,hlt,this]
  · have h0:i < 0:=by simpa using k
    exact bi (by simp [Pool.refs,h0]) (rL hb st)
theorem wa (x:Ptr) (p:List Int):Sp Tryz.prog js [pv x] bW [fP x p] (fun r=>pa_ (r = ((Pool.take p).1,(Pool.take p).2.1)) [fP x (Pool.take p).2.2]):=by
  intro h s0
  obtain ⟨b,s,rfl,hb,hl,st⟩:=pool_op s0
  refine sim_pool_Pool_Take _ ?_
  unfold tC
  refine dJ rfl (cO ?_)
  refine bB s st (i:=0) rfl rfl rfl ?_
  refine cW [1] (sp_slices_Index s 0 p (by omega)) st rfl fun r h' s1=>?_
  obtain ⟨hr,s2⟩:=bF.1 s1
  subst hr
  refine bk (fun k=>?_) (fun k=>?_)
  · have k':fV 0 p 0 < 0:=by simpa using k
    have e:Pool.take p = (0,false,p):=if_pos k'
    rw [e]
    exact bi rfl (rL hb (bp [1] s2 rfl))
  · have k':¬ fV 0 p 0 < 0:=by simpa using k
    have e0:Pool.take p = (fV 0 p 0,true,p.set (fV 0 p 0).toNat 1):=if_neg k'
    rw [e0]
    rcases idx_lt 0 p 0 with e | ⟨n,h1,e⟩
    · omega
    · rw [Int.zero_add] at e
      refine bB s s2 (i:=1) rfl rfl rfl ?_
      rw [e]
      refine dE s2 (j:=0) rfl (by omega) (by omega) fun q hq=>?_
      refine st_v (j:=0) (i:=n) (k:=0) (1:Int) (dk _) s2 rfl hq (by simp) (aO h1) (by simp) rfl fun h2 s3=>?_
      exact bi rfl (rL (by simpa using hb) (bp [1] s3 rfl))
theorem refs_get {p:List Int} {i:Int} (h:Pool.refs p i ≠ 0):∃ n:Nat,i = n∧∃ hn:n < p.length,Pool.refs p i = p[n]:=by
  unfold Pool.refs at h ⊢
  by_cases h0:i < 0
  · rw [if_pos h0] at h; exact absurd rfl h
  · rw [if_neg h0] at h ⊢
    obtain ⟨n,rfl⟩:=Int.eq_ofNat_of_zero_le (show 0 ≤ i by omega)
    refine ⟨n,rfl,?_⟩
    by_cases hn:n < p.length
    · exact ⟨hn,by simp [hn]⟩
    · simp [List.getD_eq_getElem?_getD,List.getElem?_eq_none (Nat.le_of_not_lt hn)] at h
theorem sp_pool_Hold (x:Ptr) (p:List Int) (i:Int):Sp Tryz.prog lM [pv x,.int .i64 i] aK [fP x p] (fun r=>pa_ (r = (Pool.hold p i).1) [fP x (Pool.hold p i).2]):=by
  intro h s0
  refine sim_pool_Pool_Hold _ _ ?_
  unfold tE
  refine cW [0] (wb x p i) s0 rfl fun r h' s1=>?_
  obtain ⟨hr,s2⟩:=bF.1 s1
  subst hr
  refine bk (fun k=>?_) (fun k=>?_)
  · have k':Pool.refs p i = 0∨Pool.refs p i ≥ 7:=by simpa using k
    have e:Pool.hold p i = (false,p):=if_pos k'
    rw [e]
    exact bi rfl s2
  · have k':¬ (Pool.refs p i = 0∨Pool.refs p i ≥ 7):=by simpa using k
    have e:Pool.hold p i = (true,p.set i.toNat (IntKind.i64.wrap (Pool.refs p i + 1))):=if_neg k'
    rw [e]
    obtain ⟨n,rfl,hn,hg⟩:=refs_get (p:=p) (i:=i) (by omega)
    obtain ⟨b,s,rfl,hb,hl,st⟩:=pool_op s2
    refine cO ?_
    refine bB s st (i:=0) rfl rfl rfl ?_
    refine dE st (j:=1) rfl (by omega) (by omega) fun q hq=>?_
    refine eC (j:=1) (i:=n) (k:=0) p[n] (dk _) st rfl hq (by simp) (aO hn) (by simp) ?_
    refine st_v (j:=1) (i:=n) (k:=0) (IntKind.i64.wrap (p[n] + 1)) (dk _) st rfl hq (by simp) (aO hn) (by simp) rfl fun h2 s3=>?_
    rw [hg]
    exact bi rfl (rL (by simpa using hb) s3)
theorem sp_pool_Let (x:Ptr) (p:List Int) (i:Int):Sp Tryz.prog mT [pv x,.int .i64 i] bW [fP x p] (fun r=>pa_ (r = ((Pool.lets p i).1,(Pool.lets p i).2.1)) [fP x (Pool.lets p i).2.2]):=by
  intro h s0
  refine sim_pool_Pool_Let _ _ ?_
  unfold uT
  refine cW [0] (wb x p i) s0 rfl fun r h' s1=>?_
  obtain ⟨hr,s2⟩:=bF.1 s1
  subst hr
  refine bk (fun k=>?_) (fun k=>?_)
  · have k':Pool.refs p i = 0:=by simpa using k
    have e:Pool.lets p i = (0,false,p):=if_pos k'
    rw [e]
    exact bi rfl s2
  · have k':¬ (Pool.refs p i = 0):=by simpa using k
    have e:Pool.lets p i = (IntKind.i64.wrap (Pool.refs p i - 1),true,p.set i.toNat (IntKind.i64.wrap (Pool.refs p i - 1))):=if_neg k'
    rw [e]
    obtain ⟨n,rfl,hn,hg⟩:=refs_get (p:=p) (i:=i) k'
    obtain ⟨b,s,rfl,hb,hl,st⟩:=pool_op s2
    refine cO ?_
    refine bB s st (i:=0) rfl rfl rfl ?_
    refine dE st (j:=1) rfl (by omega) (by omega) fun q hq=>?_
    refine eC (j:=1) (i:=n) (k:=0) p[n] (dk _) st rfl hq (by simp) (aO hn) (by simp) ?_
    refine st_v (j:=1) (i:=n) (k:=0) (IntKind.i64.wrap (p[n] - 1)) (dk _) st rfl hq (by simp) (aO hn) (by simp) rfl fun h2 s3=>?_
    refine bB s s3 (i:=0) rfl rfl rfl ?_
    refine dE s3 (j:=1) rfl (by omega) (by simp; omega) fun q2 hq2=>?_
    refine eC (j:=1) (i:=n) (k:=0) (IntKind.i64.wrap (p[n] - 1)) (dk _) s3 rfl hq2 (by simp) (x:=IntKind.i64.wrap (p[n] - 1)) (by simp [hn]) (by simp) ?_
    rw [hg]
    exact bi rfl (rL (by simpa using hb) s3)
theorem free_append:∀ (xs:List Int) (i:Int) (x:Int),Pool.freeFrom (xs++[x]) i = Pool.freeFrom xs i++(if x = 0 then [i + xs.length] else [])
  | [],i,x=>by simp only [List.nil_append,Pool.freeFrom]; split <;> simp
  | y::xs,i,x=>by
    simp only [List.cons_append,Pool.freeFrom]
    rw [free_append xs (i + 1) x]
    have e:i + 1 + (xs.length:Int) = i + ((y::xs).length:Int):=by simp; omega
    rw [e]
    split <;> simp
theorem free_len:∀ (xs:List Int) (i:Int),(Pool.freeFrom xs i).length ≤ xs.length
  | [],_=>Nat.le_refl _
  | x::xs,i=>by unfold Pool.freeFrom; have:=free_len xs (i + 1); split <;> simp <;> omega
theorem vM {l:List As} {h:Hp} {i:Nat} {s:Sl} {xs:List Int} {x:Int} {K:Sl→Hp→Prop} (st:aP l h) (hi:l[i]? = some (vI s xs)) (hb:xs.length < 2 ^ 40)
    (k:∀ v h',aP (l.set i (vI v (xs++[x]))) h'→K v h'):hpv Tryz.prog (Instr.buildSlice dL 1 #[(0,.int .i64 x)]) cJ (fun y=>hpv Tryz.prog (Builtin.append_ #[dL,dL] dL #[sv s,sv y]) cJ K) h:=by
  refine fu (τ:=Int) [x] (val:=fun x=>.int .i64 x) (enc:=cI .i64) el_Sint (dk _) (fun _=>rfl) st rfl rfl (by simp) fun y h' s1=>?_
  have hlt:=(List.getElem?_eq_some_iff.1 hi).1
  refine tn (τ:=Int) (i:=i + 1) (j:=0) (enc:=cI .i64) (ys:=[x]) el_Sint el_Sint.sl (dk _) (oneI _) s1 (by simpa using hi) rfl (by omega) (by simp; omega) (by simp; omega) fun v h2 s2=>?_
  exact k v h2 (ct (l:=[vI y [x]]) (by simpa using s2))
theorem sp_pool_Free (x:Ptr) (p:List Int):Sp Tryz.prog lN [pv x] cJ [fP x p] (fun r=>aP [vI r (Pool.free p),fP x p]):=by
  intro h s0
  obtain ⟨b,s,rfl,hb,hl,st⟩:=pool_op s0
  refine sim_pool_Pool_Free _ ?_
  unfold tF
  refine dJ rfl (cO ?_)
  refine bB s st (i:=0) rfl rfl rfl ?_
  refine Lp.intro (fun (z:Sl × Int) h=>∃ n:Nat,z.2 = n∧n ≤ p.length∧aP [vI z.1 (Pool.freeFrom (p.take n) 0),blk b ql [sv s],vI s p] h) (fun (z:Sl × Int) _=>p.length - z.2.toNat) ⟨0,rfl,Nat.zero_le _,fI st⟩ ?_
  rintro ⟨z,i⟩ h ⟨n,rfl,hn,s1⟩
  unfold ox
  refine bk (fun k=>?_) (fun k=>?_)
  · have hlt:n < p.length:=by rw [hl] at k; simpa using k
    have hw:IntKind.i64.wrap ((n:Int) + 1) = ((n + 1:Nat):Int):=by rw [cf (by omega) (by omega)]; rfl
    have ht:p.take (n + 1) = p.take n++[p[n]]:=by simp
    have hlen:((p.take n).length:Int) = n:=by simp; omega
    refine dE s1 (j:=2) rfl (by omega) (by show (n:Int) < _; omega) fun q hq=>?_
    refine eC (j:=2) (i:=n) (k:=0) p[n] (dk _) s1 rfl hq (by simp) (aO hlt) (by simp) ?_
    refine bk (fun k2=>?_) (fun k2=>?_)
    · have k2':p[n] = 0:=by simpa using k2
      refine vM s1 (i:=0) rfl ?_ fun v h' s2=>?_
      · have:=free_len (p.take n) 0; simp at this ⊢; omega
      · rw [hw]
        refine ⟨⟨n + 1,rfl,hlt,?_⟩,by simp; omega⟩
        rw [ht,free_append,if_pos k2',hlen,Int.zero_add]
        exact s2
    · have k2':¬ p[n] = 0:=by simpa using k2
      rw [hw]
      refine ⟨⟨n + 1,rfl,hlt,?_⟩,by simp; omega⟩
      rw [ht,free_append,if_neg k2',List.append_nil]
      exact s1
  · have:n = p.length:=by rw [hl] at k; simp at k; omega
    subst this
    rw [List.take_length] at s1
    exact km (.cons _ (.refl _)) (bp (l:=[vI z (Pool.freeFrom p 0),fP (some (b,0)) p]) [0] (by
      have:=bp [1,1] s1 rfl
      exact bp [1] (rL hb this) rfl) rfl)
def Pool.bitsOf (w:Int):List Int→Int
  | []=>w
  | i::l=>Pool.bitsOf (ior .u64 w (IntKind.u64.wrap (1 * 2 ^ (min (Int.toNat i) (IntKind.bits .u64))))) l
def Pool.bits (p:List Int):Int:=Pool.bitsOf 0 (Pool.free p)
theorem free_ge:∀ (xs:List Int) (i:Int),0 ≤ i→∀ j ∈ Pool.freeFrom xs i,0 ≤ j
  | [],_,_,_,h=>by cases h
  | x::xs,i,hi,j,h=>by
    unfold Pool.freeFrom at h
    split at h
    · rcases List.mem_cons.1 h with rfl | h
      · exact hi
      · exact free_ge xs (i + 1) (by omega) j h
    · exact free_ge xs (i + 1) (by omega) j h
theorem bits_append (a:Int):∀ (l:List Int) (w:Int),Pool.bitsOf w (l++[a]) = ior .u64 (Pool.bitsOf w l) (IntKind.u64.wrap (1 * 2 ^ (min (Int.toNat a) (IntKind.bits .u64))))
  | [],_=>rfl
  | _::l,w=>by simp only [List.cons_append,Pool.bitsOf]; exact bits_append a l _
theorem sp_pool_Bits (x:Ptr) (p:List Int):Sp Tryz.prog pJ [pv x] gH [fP x p] (fun r=>pa_ (r = Pool.bits p) [fP x p]):=by
  intro h s0
  have hp16:p.length ≤ 16:=by obtain ⟨_,_,_,hb,_⟩:=pool_op s0; exact hb
  refine sim_pool_Pool_Bits _ ?_
  unfold tG
  refine cW [0] (sp_pool_Free x p) s0 rfl fun r h1 s1=>?_
  have s2:=dG s1
  have hl:=(cq (j:=0) s2 rfl).1
  have hfl:=free_len p 0
  refine Lp.intro (fun (z:Int × Int) h=>∃ n:Nat,z.2 = n∧n ≤ (Pool.free p).length∧z.1 = Pool.bitsOf 0 ((Pool.free p).take n)∧aP [vI r (Pool.free p),fP x p] h) (fun (z:Int × Int) _=>(Pool.free p).length - z.2.toNat) ⟨0,rfl,Nat.zero_le _,rfl,s2⟩ ?_
  rintro ⟨w,i⟩ h ⟨n,rfl,hn,rfl,s3⟩
  unfold oy
  refine bk (fun k=>?_) (fun k=>?_)
  · have hlt:n < (Pool.free p).length:=by rw [hl] at k; simpa using k
    have hw:IntKind.i64.wrap ((n:Int) + 1) = ((n + 1:Nat):Int):=by
      have:(Pool.free p).length ≤ 16:=by unfold Pool.free; omega
      rw [cf (by omega) (by omega)]; rfl
    refine dE s3 (j:=0) rfl (by omega) (by show (n:Int) < _; omega) fun q hq=>?_
    refine eC (j:=0) (i:=n) (k:=0) (Pool.free p)[n] (dk _) s3 rfl hq (by simp) (aO hlt) (by simp) ?_
    refine ⟨free_ge p 0 (Int.le_refl _) _ (List.getElem_mem hlt),?_⟩
    rw [hw]
    refine ⟨⟨n + 1,rfl,hlt,?_,s3⟩,by simp; omega⟩
    have ht:(Pool.free p).take (n + 1) = (Pool.free p).take n++[(Pool.free p)[n]]:=by simp
    rw [ht,bits_append]
  · have:n = (Pool.free p).length:=by rw [hl] at k; simp at k; omega
    subst this
    refine bi ?_ (ct (l:=[vI r (Pool.free p)]) s3)
    rw [List.take_length]; rfl
end Go.Proofs.YtniiiakkdoiaiaaGreatDoor
namespace Go.Proofs.YtniiiakkdoiaiaaGreatDoor
open Go Mb
set_option linter.unusedVariables false
def sh_table_New (K:Ptr→Hp→Prop):Hp→Prop:=hpv Tryz.prog (Instr.build kl #[]) encL fun (v1:(List Value))=>nw kl v1 fun b2=>K (some (b2,0))
set_option maxRecDepth 20000 in
theorem sim_table_New {K:Ptr→Hp→Prop} {h:Hp} (H:sh_table_New K h):Ct Tryz.prog lc #[] h fun v h'=>∃ r,v = il r∧K r h':=aD [] Tryz.func93 rfl rfl rfl fun _=>ah<|ac<|aa (ag rfl) rfl<|ae<|ah<|ac<|ak (be H (x_build (vs:=[]) rfl) rfl fun v1 _ H1=>ak (hH rfl rfl rfl H1 fun b2 _ H2=>aa (ag rfl) rfl<|ae<|ao<|aw (az rfl (aE rfl)) ⟨(some (b2,0)),rfl,H2⟩))
def iF (a0:Ptr) (a1:Int) (K:(ar × Bool)→Hp→Prop) (s1:Bool):Hp→Prop:=br s1 ( K ((⟨0,0,0⟩:ar),false)) ( nn a0 fun q26=>gd (0 ≤ a1∧a1 < 8)<|ld (q26.1,q26.2 + 0 + Int.toNat a1 * 3) ar.C fun x29=>K (x29,true))
def tB (a0:Ptr) (a1:Int) (K:(ar × Bool)→Hp→Prop):Hp→Prop:=br (!(a0.isNone || (!(cK a1)))) ( nn a0 fun q16=>gd (0 ≤ a1∧a1 < 8)<|ld (q16.1,q16.2 + 0 + Int.toNat a1 * 3 + 2) (cI .i64) fun x20=>iF a0 a1 K (x20 == 0)) ( iF a0 a1 K true)
set_option maxRecDepth 20000 in
theorem sim_table_Table_At (a0:Ptr) (a1:Int) {K:(ar × Bool)→Hp→Prop} {h:Hp} (H:tB a0 a1 K h):Ct Tryz.prog eU #[(pv a0),(.int .i64 a1)] h fun v h'=>∃ r,v = cH r∧K r h':=aD [(pv a0),(.int .i64 a1)] Tryz.func119 rfl rfl rfl fun _=>ah<|ac<|ak (aY (l:=(ar.C (⟨0,0,0⟩:ar))) fT rfl rfl fun b4=>aa (ag rfl) rfl<|ae<|ah<|eB (iF a0 a1 K) (fun s1=>[(0,(pv a0)),(1,(.int .i64 a1)),(4,(.pointer (some ⟨b4,0,none⟩))),(22,(.bool s1))]) (fun s1=>[bx b4 74 (ar.C (⟨0,0,0⟩:ar))]) ( ac<|aa (ad rfl) rfl<|aa (cA Tryz.underlying133 rfl) rfl<|aa (ad rfl) rfl<|aj rfl rfl rfl (aS _) (fun g10=>wv (ad rfl)) rfl<|de (vs:=[(.int .i64 a1)]) rfl rfl rfl (aS _) (fun g11=>(bG (uk a1 _))) en_140 (fun g11=>(ba (aJ rfl g11) bY)) rfl<|aj rfl rfl rfl (aS _) (fun g12=>wv (cD (aJ rfl g12))) rfl<|aa (dr rfl rfl) rfl<|aa (ad rfl) rfl<|aj rfl rfl rfl (aS _) (fun g13=>wv (ad rfl)) rfl<|aj rfl rfl rfl (aS _) (fun g14=>wv (ad rfl)) rfl<|cc H (fun k16 H17=>bQ H17 fun q16 e18 H19=>aL rfl rfl rfl (congrArg Value.bool (cm k16)) (aQ (wv (aV (aW (aJ rfl k16) (ax e18)))) rfl<|aL rfl rfl rfl (congrArg Value.bool (cm k16)) (aQ (wv (an kq rfl)) rfl<|je H19 fun h20 H21=>aL rfl rfl rfl (congrArg Value.bool (cm k16)) (aQ (wv (bK rX rfl (aJ rfl k16) h20)) rfl<|aL rfl rfl rfl (congrArg Value.bool (cm k16)) (aQ (wv (an eK rfl)) rfl<|aL rfl rfl rfl (congrArg Value.bool (cm k16)) (bg H21 bj rfl (fun _=>rfl) rfl fun x20 H22=>aL rfl rfl rfl (congrArg Value.bool (cm k16)) (aQ (wv (bV rfl rfl)) rfl<|aa (ay rfl (cm k16) rfl) rfl<|ae<|cF (x20 == 0) H22 (.cons rfl (.cons rfl (.cons rfl (.cons rfl (.nil _))))) (.cons_cons _ .slnil)))))))) (fun k16 H17=>am rfl rfl rfl (ci (bN k16)) rfl<|am rfl rfl rfl (ci (bN k16)) rfl<|am rfl rfl rfl (ci (bN k16)) rfl<|am rfl rfl rfl (ci (bN k16)) rfl<|am rfl rfl rfl (ci (bN k16)) rfl<|am rfl rfl rfl (ci (bN k16)) rfl<|aa (bd rfl (bN k16) rfl) rfl<|ae<|cF true H17 (.cons rfl (.cons rfl (.cons rfl (.cons rfl (.nil _))))) (.cons_cons _ .slnil))) (fun s1 _ H2=>aC rfl H2 (fun k3 H4=>ah<|ac<|aa (bo (vs:=[]) rfl mO) rfl<|ak (aZ (k:=0) (vs:=(ar.C (⟨0,0,0⟩:ar))) dV rfl rfl rfl rfl rfl rfl rfl<|aa (ag rfl) rfl<|ae<|ao<|aw (ce rfl (bM (k:=0) rfl fD rfl rfl) (aE rfl)) ⟨((⟨0,0,0⟩:ar),false),rfl,H4⟩)) (fun k3 H4=>av<|ah<|ac<|aa (ad rfl) rfl<|aa (ad rfl) rfl<|bQ H4 fun q26 e5 H6=>aa (aV (aW rfl (ax e5))) rfl<|aa (an kq rfl) rfl<|je H6 fun h7 H8=>aa (bK rX rfl rfl h7) rfl<|ak (gI H8 fD rfl (fun _=>rfl) rfl fun x29 H9=>ak (aZ (k:=0) (vs:=(ar.C x29)) dV rfl rfl rfl rfl rfl rfl rfl<|aa (ag rfl) rfl<|ae<|ao<|aw (ce rfl (bM (k:=0) rfl fD rfl rfl) (aE rfl)) ⟨(x29,true),rfl,H9⟩)))))
def oV (a0:Ptr) (a1:Int) (a2:ar) (K:Int→Hp→Prop):Hp→Prop:=br a0.isNone ( K 10) ( br (((!(gr a2).2) || (a2.fRights == 0)) || (!(cK a1))) ( K 2) ( nn a0 fun q30=>gd (0 ≤ a1∧a1 < 8)<|ld (q30.1,q30.2 + 0 + Int.toNat a1 * 3 + 2) (cI .i64) fun x34=>br (x34 != 0) ( K 4) ( st (q30.1,q30.2 + 0 + Int.toNat a1 * 3) (ar.C a2)<|K 0)))
set_option maxRecDepth 20000 in
theorem wi (a0:Ptr) (a1:Int) (a2:ar) {K:Int→Hp→Prop} {h:Hp} (H:oV a0 a1 a2 K h):Ct Tryz.prog eu #[(pv a0),(.int .i64 a1),(.agg (ar.C a2).toArray)] h fun v h'=>∃ r,v = bv r∧K r h':=aD [(pv a0),(.int .i64 a1),(.agg (ar.C a2).toArray)] Tryz.func97 rfl rfl rfl fun _=>ah<|ac<|ak (cC (l:=(ar.C a2)) rfl rfl rfl fun b5=>aa (ag rfl) rfl<|ae<|ah<|ah<|ac<|aa (ad rfl) rfl<|aa (cA Tryz.underlying133 rfl) rfl<|ae<|aC rfl H (fun k1 H2=>ah<|ac<|aa (ag rfl) rfl<|ae<|ao<|aw (az rfl (aE rfl)) ⟨10,rfl,H2⟩) (fun k1 H2=>av<|ah<|ah<|ac<|bw (bP (k:=0) fD rfl rfl rfl rfl) rfl<|ak (cM (vs:=[(.agg (ar.C a2).toArray)]) (bG (ct_pte_Put a2 _)) en_139 rfl rfl<|aa (ad rfl) rfl<|aa (aq rfl rfl) rfl<|aa (aq rfl rfl) rfl<|aa (ag rfl) rfl<|aa (ag rfl) rfl<|ae<|ah<|ac<|aa (ad rfl) rfl<|aa (cD rfl) rfl<|aa (ad rfl) rfl<|aj rfl rfl rfl (aS _) (fun g3=>wv (an eK rfl)) rfl<|aj rfl rfl rfl (aS _) (fun g4=>cv (bm (k:=0) bj (aJ rfl g4) rfl rfl)) rfl<|aj rfl rfl rfl (aS _) (fun g5=>wv (bV (aJ rfl g5) rfl)) rfl<|aa (dr rfl rfl) rfl<|aa (ad rfl) rfl<|aj rfl rfl rfl (aS _) (fun g6=>wv (ad rfl)) rfl<|de (vs:=[(.int .i64 a1)]) rfl rfl rfl (aS _) (fun g7=>(bG (uk a1 _))) en_140 (fun g7=>(ba (aJ rfl g7) bY)) rfl<|aj rfl rfl rfl (aS _) (fun g8=>wv (cD (aJ rfl g8))) rfl<|aa (dr rfl rfl) rfl<|ae<|aC rfl H2 (fun k9 H10=>ah<|ac<|aa (ag rfl) rfl<|ae<|ao<|aw (az rfl (aE rfl)) ⟨2,rfl,H10⟩) (fun k9 H10=>av<|ah<|ah<|ac<|aa (ad rfl) rfl<|aa (ad rfl) rfl<|bQ H10 fun q30 e11 H12=>aa (aV (aW rfl (ax e11))) rfl<|aa (an kq rfl) rfl<|je H12 fun h13 H14=>aa (bK rX rfl rfl h13) rfl<|aa (an eK rfl) rfl<|ak (bg H14 bj rfl (fun _=>rfl) rfl fun x34 H15=>aa (qk rfl rfl) rfl<|ae<|aC rfl H15 (fun k16 H17=>ah<|ac<|aa (ag rfl) rfl<|ae<|ao<|aw (az rfl (aE rfl)) ⟨4,rfl,H17⟩) (fun k16 H17=>av<|ah<|bC (n:=7) [bx b5 74 (ar.C a2)] cy rfl (.cons_cons _ .slnil)<|ai (i:=0) (fun _ _ _ _=>id) rfl (by kernel_rfl) rfl (ve (ad (aW rfl (ax e11))))<|ai (i:=1) (fun _ _ _ _=>id) rfl (by kernel_rfl) rfl (ve (ad rfl))<|ai (i:=2) (fun _ _ _ _=>id) rfl (by kernel_rfl) rfl (ef (k:=0) fD rfl rfl rfl rfl)<|ai (i:=3) (fun _ _ _ _=>id) rfl (by kernel_rfl) rfl (ve (aV rfl))<|ai (i:=4) (fun _ _ _ _=>id) rfl (by kernel_rfl) rfl (ve (an kq rfl))<|ai (i:=5) (fun _ _ _ _=>id) rfl (by kernel_rfl) rfl (ve (bK rX rfl rfl h13))<|bh (i:=6) (by kernel_rfl) (aI rfl rfl (dC dV rfl rfl rfl rfl rfl H17 fun _ H18=>⟨(.cons_cons _ .slnil),bf (by kernel_rfl)<|ah<|ac<|aa (ag rfl) rfl<|ae<|ao<|aw (az rfl (aE rfl)) ⟨0,rfl,H18⟩⟩))))))))
def oU (a0:Ptr) (a1:Int) (K:(ar × Int)→Hp→Prop):Hp→Prop:=br a0.isNone ( K ((⟨0,0,0⟩:ar),10)) ( br (!(cK a1)) ( K ((⟨0,0,0⟩:ar),2)) ( nn a0 fun q19=>gd (0 ≤ a1∧a1 < 8)<|ld (q19.1,q19.2 + 0 + Int.toNat a1 * 3 + 2) (cI .i64) fun x23=>br (x23 == 0) ( K ((⟨0,0,0⟩:ar),3)) ( ld (q19.1,q19.2 + 0 + Int.toNat a1 * 3) ar.C fun x31=>st (q19.1,q19.2 + 0 + Int.toNat a1 * 3) (ar.C (⟨0,0,0⟩:ar))<|K (x31,0))))
set_option maxRecDepth 20000 in
theorem wh (a0:Ptr) (a1:Int) {K:(ar × Int)→Hp→Prop} {h:Hp} (H:oU a0 a1 K h):Ct Tryz.prog iN #[(pv a0),(.int .i64 a1)] h fun v h'=>∃ r,v = jm r∧K r h':=aD [(pv a0),(.int .i64 a1)] Tryz.func113 rfl rfl rfl fun _=>ah<|ac<|ak (aY (l:=(ar.C (⟨0,0,0⟩:ar))) fT rfl rfl fun b4=>aa (ag rfl) rfl<|ae<|ah<|aF<|ah<|ac<|aa (ad rfl) rfl<|aa (cA Tryz.underlying133 rfl) rfl<|aa (ag rfl) rfl<|ae<|aC rfl H (fun k1 H2=>ah<|ac<|aa (bo (vs:=[]) rfl mO) rfl<|ak (aZ (k:=0) (vs:=(ar.C (⟨0,0,0⟩:ar))) dV rfl rfl rfl rfl rfl rfl rfl<|aa (ag rfl) rfl<|ae<|ao<|aw (ce rfl (bM (k:=0) rfl fD rfl rfl) (aE rfl)) ⟨((⟨0,0,0⟩:ar),10),rfl,H2⟩)) (fun k1 H2=>ah<|ac<|aa (ad rfl) rfl<|ak (cM (vs:=[(.int .i64 a1)]) (bG (uk a1 _)) en_140 rfl rfl<|aa (cD rfl) rfl<|aa (ag rfl) rfl<|ae<|aC rfl H2 (fun k3 H4=>ah<|ac<|aa (bo (vs:=[]) rfl mO) rfl<|ak (aZ (k:=0) (vs:=(ar.C (⟨0,0,0⟩:ar))) dV rfl rfl rfl rfl rfl rfl rfl<|aa (ag rfl) rfl<|ae<|ao<|aw (ce rfl (bM (k:=0) rfl fD rfl rfl) (aE rfl)) ⟨((⟨0,0,0⟩:ar),2),rfl,H4⟩)) (fun k3 H4=>ah<|ac<|aa (ad rfl) rfl<|aa (ad rfl) rfl<|bQ H4 fun q19 e5 H6=>aa (aV (aW rfl (ax e5))) rfl<|aa (an kq rfl) rfl<|je H6 fun h7 H8=>aa (bK rX rfl rfl h7) rfl<|aa (an eK rfl) rfl<|ak (bg H8 bj rfl (fun _=>rfl) rfl fun x23 H9=>aa (bV rfl rfl) rfl<|aa (ag rfl) rfl<|ae<|aC rfl H9 (fun k10 H11=>ah<|ac<|aa (bo (vs:=[]) rfl mO) rfl<|ak (aZ (k:=0) (vs:=(ar.C (⟨0,0,0⟩:ar))) dV rfl rfl rfl rfl rfl rfl rfl<|aa (ag rfl) rfl<|ae<|ao<|aw (ce rfl (bM (k:=0) rfl fD rfl rfl) (aE rfl)) ⟨((⟨0,0,0⟩:ar),3),rfl,H11⟩)) (fun k10 H11=>av<|ah<|ac<|aa (ad (aW rfl (ax e5))) rfl<|aa (ad rfl) rfl<|aa (aV rfl) rfl<|aa (an kq rfl) rfl<|aa (bK rX rfl rfl h7) rfl<|ak (gI H11 fD rfl (fun _=>rfl) rfl fun x31 H12=>ak (aY (l:=(ar.C (⟨0,0,0⟩:ar))) fT rfl rfl fun b6=>ak (aZ (k:=0) (vs:=(ar.C x31)) dV rfl rfl rfl rfl rfl rfl rfl<|ae<|ah<|ac<|aa (ad (aW rfl (ax e5))) rfl<|aa (ad rfl) rfl<|aa (bo (vs:=[]) rfl mO) rfl<|aa (aV rfl) rfl<|aa (an kq rfl) rfl<|aa (bK rX rfl rfl h7) rfl<|ak (dC dV rfl rfl rfl rfl rfl H12 fun _ H13=>ae<|ah<|ac<|bw (bP (k:=0) fD rfl rfl rfl rfl) rfl<|ak (aZ (k:=1) (vs:=(ar.C x31)) dV rfl rfl rfl rfl rfl rfl rfl<|aa (ag rfl) rfl<|ae<|ao<|aw (ce rfl (bM (k:=1) rfl fD rfl rfl) (aE rfl)) ⟨(x31,0),rfl,H13⟩)))))))))))
def nV (a1:Int) (K:Sl→Hp→Prop) (v13:(List Value)) (Rec8:(Sl × Int)→Hp→Prop) (s7:Sl × Int):Hp→Prop:=br (decide (s7.2 < 8)) ( hpv Tryz.prog (Instr.index tz (.agg v13.toArray) (.int .i64 s7.2)) vO fun (v17:ar)=>br ((v17.fRights != 0) && (v17.fSlot == a1)) ( hpv Tryz.prog (Instr.buildSlice dL 1 #[(0,(.int .i64 s7.2))]) cJ fun (v29:Sl)=>hpv Tryz.prog (Builtin.append_ #[dL,dL] dL #[(sv s7.1),(sv v29)]) cJ fun (v30:Sl)=>Rec8 (v30,(IntKind.i64.wrap (s7.2 + 1)))) ( Rec8 (s7.1,(IntKind.i64.wrap (s7.2 + 1))))) ( K s7.1)
def tA (a0:Ptr) (a1:Int) (K:Sl→Hp→Prop):Hp→Prop:=br a0.isNone ( K (⟨none,0,0,none⟩:Sl)) ( nn a0 fun q11=>hpv Tryz.prog (Instr.loadAt tz (.pointer (some ⟨q11.1,q11.2 + 0,none⟩))) encL fun (v13:(List Value))=>Lp (nV a1 K v13) ((⟨none,0,0,none⟩:Sl),0))
set_option maxRecDepth 20000 in
theorem sim_table_Table_By (a0:Ptr) (a1:Int) {K:Sl→Hp→Prop} {h:Hp} (H:tA a0 a1 K h):Ct Tryz.prog lL #[(pv a0),(.int .i64 a1)] h fun v h'=>∃ r,v = cJ r∧K r h':=aD [(pv a0),(.int .i64 a1)] Tryz.func159 rfl rfl rfl fun _=>ah<|ac<|aa (ag rfl) rfl<|ae<|ah<|ah<|ac<|aa (ad rfl) rfl<|aa (cA Tryz.underlying133 rfl) rfl<|ae<|aC rfl H (fun k1 H2=>ah<|ac<|aa (ag rfl) rfl<|ae<|ao<|aw (az rfl (aE rfl)) ⟨(⟨none,0,0,none⟩:Sl),rfl,H2⟩) (fun k1 H2=>av<|ah<|ac<|aa (ag rfl) rfl<|ae<|ah<|ah<|ac<|aa (ad rfl) rfl<|bQ H2 fun q11 e3 H4=>aa (aV (aW rfl (ax e3))) rfl<|aa (an kq rfl) rfl<|ak (be H4 (x_load rfl) rfl fun v13 _ H6=>aa (ad rfl) rfl<|ae<|aF<|bO (step:=nV a1 K v13) (fun s7=>[(1,(.int .i64 a1)),(5,(sv s7.1)),(13,(.agg v13.toArray)),(14,(.int .i64 s7.2))]) (fun s7=>[]) H6 (.cons rfl (.cons rfl (.cons rfl (.cons rfl (.nil _))))) .slnil (fun Rec8 s7 _ H9=>ah<|ac<|aa (cx rfl rfl) rfl<|ae<|ah<|aC rfl H9 (fun k10 H11=>av<|ah<|aF<|ah<|ac<|aa (ad rfl) rfl<|ak (be H11 (x_index rfl rfl) rfl fun v17 _ H12=>ak (aY (l:=(ar.C (⟨0,0,0⟩:ar))) fT rfl rfl fun b7=>aa (ag rfl) rfl<|ak (aZ (k:=0) (vs:=(ar.C v17)) dV rfl rfl rfl rfl rfl rfl rfl<|ae<|ah<|ac<|aa (an eK rfl) rfl<|bw (bm (k:=0) bj rfl rfl rfl) rfl<|aa (qk rfl rfl) rfl<|aa (ad rfl) rfl<|aj rfl rfl rfl (aA _) (fun g13=>wv (an sX rfl)) rfl<|aj rfl rfl rfl (aA _) (fun g14=>cv (bm (k:=0) bj (aJ rfl g14) rfl rfl)) rfl<|aj rfl rfl rfl (aA _) (fun g15=>wv (ad rfl)) rfl<|aj rfl rfl rfl (aA _) (fun g16=>wv (bV (aJ rfl g16) (aJ rfl g16))) rfl<|aa (bU rfl rfl) rfl<|ae<|aC rfl H12 (fun k17 H18=>ac<|aa (ad rfl) rfl<|aa (ad rfl) rfl<|ak (be H18 (bJ (vs:=[(.int .i64 s7.2)]) rfl) rfl fun v29 _ H19=>ak (be H19 (dK rfl rfl) rfl fun v30 _ H20=>aa (ag rfl) rfl<|ae<|ac<|aa (bI rfl rfl) rfl<|aa (ad rfl) rfl<|ae<|cT (v30,(IntKind.i64.wrap (s7.2 + 1))) H20 (.cons rfl (.cons rfl (.cons rfl (.cons rfl (.nil _))))) (.cons _ .slnil)))) (fun k17 H18=>av<|ac<|aa (bI rfl rfl) rfl<|aa (ad rfl) rfl<|ae<|cT (s7.1,(IntKind.i64.wrap (s7.2 + 1))) H18 (.cons rfl (.cons rfl (.cons rfl (.cons rfl (.nil _))))) (.cons _ .slnil)))))) (fun k10 H11=>bA<|ah<|ac<|aa (ad rfl) rfl<|aa (ag rfl) rfl<|ae<|ao<|aw (az rfl (aE rfl)) ⟨s7.1,rfl,H11⟩))))
def od (a0:Ptr) (a1:Int) (a2:Int) (K:Int→Hp→Prop):Hp→Prop:=br a0.isNone ( K 10) ( br ((!(cK a1)) || (!(cN a2))) ( K 2) ( nn a0 fun q22=>gd (0 ≤ a1∧a1 < 8)<|ld (q22.1,q22.2 + 0 + Int.toNat a1 * 3 + 2) (cI .i64) fun x26=>br (x26 == 0) ( K 3) ( st (q22.1,q22.2 + 0 + Int.toNat a1 * 3 + 2) [.int .i64 a2]<|K 0)))
set_option maxRecDepth 20000 in
theorem uJ (a0:Ptr) (a1:Int) (a2:Int) {K:Int→Hp→Prop} {h:Hp} (H:od a0 a1 a2 K h):Ct Tryz.prog kw #[(pv a0),(.int .i64 a1),(.int .i64 a2)] h fun v h'=>∃ r,v = bv r∧K r h':=aD [(pv a0),(.int .i64 a1),(.int .i64 a2)] Tryz.func161 rfl rfl rfl fun _=>ah<|ac<|aa (ag rfl) rfl<|ae<|ah<|aF<|ah<|ac<|aa (ad rfl) rfl<|aa (cA Tryz.underlying133 rfl) rfl<|aa (ag rfl) rfl<|ae<|aC rfl H (fun k1 H2=>ah<|ac<|aa (ag rfl) rfl<|ae<|ao<|aw (az rfl (aE rfl)) ⟨10,rfl,H2⟩) (fun k1 H2=>ah<|ac<|aa (ad rfl) rfl<|ak (cM (vs:=[(.int .i64 a1)]) (bG (uk a1 _)) en_140 rfl rfl<|aa (cD rfl) rfl<|aa (ad rfl) rfl<|aj rfl rfl rfl (aS _) (fun g3=>wv (ad rfl)) rfl<|de (vs:=[(.int .i64 a2)]) rfl rfl rfl (aS _) (fun g4=>(bG (pV a2 _))) en_150 (fun g4=>(ba (aJ rfl g4) bY)) rfl<|aj rfl rfl rfl (aS _) (fun g5=>wv (cD (aJ rfl g5))) rfl<|aa (dr rfl rfl) rfl<|aa (ag rfl) rfl<|ae<|aC rfl H2 (fun k6 H7=>ah<|ac<|aa (ag rfl) rfl<|ae<|ao<|aw (az rfl (aE rfl)) ⟨2,rfl,H7⟩) (fun k6 H7=>ah<|ac<|aa (ad rfl) rfl<|aa (ad rfl) rfl<|bQ H7 fun q22 e8 H9=>aa (aV (aW rfl (ax e8))) rfl<|aa (an kq rfl) rfl<|je H9 fun h10 H11=>aa (bK rX rfl rfl h10) rfl<|aa (an eK rfl) rfl<|ak (bg H11 bj rfl (fun _=>rfl) rfl fun x26 H12=>aa (bV rfl rfl) rfl<|aa (ag rfl) rfl<|ae<|aC rfl H12 (fun k13 H14=>ah<|ac<|aa (ag rfl) rfl<|ae<|ao<|aw (az rfl (aE rfl)) ⟨3,rfl,H14⟩) (fun k13 H14=>av<|ah<|ac<|aa (ad (aW rfl (ax e8))) rfl<|aa (ad rfl) rfl<|aa (ad rfl) rfl<|aa (aV rfl) rfl<|aa (an kq rfl) rfl<|aa (bK rX rfl rfl h10) rfl<|aa (an eK rfl) rfl<|ak (dC qG rfl rfl rfl rfl rfl H14 fun _ H15=>ae<|ah<|ac<|aa (ag rfl) rfl<|ae<|ao<|aw (az rfl (aE rfl)) ⟨0,rfl,H15⟩))))))
end Go.Proofs.YtniiiakkdoiaiaaGreatDoor
namespace Go.Proofs.YtniiiakkdoiaiaaGreatDoor
open Go Mb
abbrev Pte:=ar
theorem ji (p:Pte):p.C.length = 3:=rfl
abbrev eE:Pte:=⟨0,0,0⟩
def db (x:Ptr) (ps:List Pte):As:=fun h=>∃ b:Nat,(x = some (b,0)∧ps.length = 8)∧aP [blk b kl ([]++(ps.flatMap ar.C++[]))] h
theorem table_op {x:Ptr} {ps:List Pte} {l:List As} {h:Hp} (s0:aP (db x ps::l) h):∃ b,x = some (b,0)∧ps.length = 8∧aP (blk b kl ([]++(ps.flatMap ar.C++[]))::l) h:=by
  obtain ⟨b,⟨hx,hb⟩,st⟩:=op_ s0
  exact ⟨b,hx,hb,st⟩
theorem iE {b:Nat} {ps:List Pte} {l:List As} {h:Hp} (hb:ps.length = 8) (st:aP (blk b kl ([]++(ps.flatMap ar.C++[]))::l) h):aP (db (some (b,0)) ps::l) h:=cl_ b ⟨rfl,hb⟩ st
namespace Table
def at_ (ps:List Pte) (i:Int):Pte:=ps.getD i.toNat eE
def get (ps:List Pte) (i:Int):Pte × Bool:=if cK i = true∧(at_ ps i).fRights ≠ 0 then (at_ ps i,true) else (eE,false)
def insert (ps:List Pte) (i:Int) (p:Pte):Int × List Pte :=
  if (gr p).2 = false∨p.fRights = 0∨cK i = false then (2,ps) else if (at_ ps i).fRights ≠ 0 then (4,ps) else (0,ps.set i.toNat p)
def protect (ps:List Pte) (i r:Int):Int × List Pte :=
  if cK i = false∨cN r = false then (2,ps) else if (at_ ps i).fRights = 0 then (3,ps) else (0,ps.set i.toNat { at_ ps i with fRights:=r })
def remove (ps:List Pte) (i:Int):(Pte × Int) × List Pte :=
  if cK i = false then ((eE,2),ps) else if (at_ ps i).fRights = 0 then ((eE,3),ps) else ((at_ ps i,0),ps.set i.toNat eE)
def byFrom (s:Int):List Pte→Int→List Int
  | [],_=>[]
  | p::ps,i=>if p.fRights ≠ 0∧p.fSlot = s then i::byFrom s ps (i + 1) else byFrom s ps (i + 1)
def by_ (ps:List Pte) (s:Int):List Int:=byFrom s ps 0
end Table
theorem table_is {i:Int} (h:cK i = true):∃ n:Nat,i = n∧n < 8:=by
  unfold cK at h
  simp at h
  exact ⟨i.toNat,by omega,by omega⟩
theorem table_new_run (K:Value→Hp→Prop) (h:Hp):hp Tryz.prog (Instr.build kl #[]) K h = K (.agg ((List.replicate 8 eE).flatMap ar.C).toArray) h:=by kernel_rfl
theorem nX:Sp Tryz.prog lc [] il [] (fun r=>aP [db r (List.replicate 8 eE)]):=by
  intro h st
  refine sim_table_New ?_
  unfold sh_table_New
  refine ⟨?_⟩
  rw [table_new_run]
  refine ⟨_,rfl,?_⟩
  refine oS st fun b h' s1=>?_
  exact iE rfl s1
theorem jY (x:Ptr) (ps:List Pte) (i:Int) (p:Pte):Sp Tryz.prog eu [pv x,.int .i64 i,.agg p.C.toArray] bv [db x ps] (fun r=>pa_ (r = (Table.insert ps i p).1) [db x (Table.insert ps i p).2]):=by
  intro h s0
  obtain ⟨b,rfl,hb,st⟩:=table_op s0
  refine wi _ _ _ ?_
  unfold oV
  refine dJ rfl ?_
  refine bk (fun k=>?_) (fun k=>?_)
  · have k':(gr p).2 = false∨p.fRights = 0∨cK i = false:=by simpa [or_assoc] using k
    have e:Table.insert ps i p = (2,ps):=if_pos k'
    rw [e]
    exact bi rfl (iE hb st)
  · have k':¬ ((gr p).2 = false∨p.fRights = 0∨cK i = false):=by simp at k; simp [k]
    obtain ⟨n,rfl,hn⟩:=table_is (i:=i) (by simp at k'; exact k'.2.2)
    have hn':n < ps.length:=by omega
    have hat:Table.at_ ps n = ps[n]:=by simp [Table.at_,hn']
    refine cO ⟨⟨by omega,by omega⟩,?_⟩
    refine ld_a (j:=0) (i:=n) (k:=2) ps[n].fRights ji st rfl (by simp) (aO hn') (c1 rfl rfl) ?_
    refine bk (fun k2=>?_) (fun k2=>?_)
    · have k2':(Table.at_ ps n).fRights ≠ 0:=by rw [hat]; simpa using k2
      have e:Table.insert ps n p = (4,ps):=by unfold Table.insert; rw [if_neg k',if_pos k2']
      rw [e]
      exact bi rfl (iE hb st)
    · have k2':¬ (Table.at_ ps n).fRights ≠ 0:=by rw [hat]; simpa using k2
      have e:Table.insert ps n p = (0,ps.set n p):=by unfold Table.insert; rw [if_neg k',if_neg k2']; rfl
      rw [e]
      refine st_a (j:=0) (i:=n) (k:=0) p ji st rfl (by simp) (aO hn') (by simp [ji]) rfl fun h2 s2=>?_
      exact bi rfl (iE (by simpa using hb) s2)
theorem sp_table_Protect (x:Ptr) (ps:List Pte) (i r:Int):Sp Tryz.prog kw [pv x,.int .i64 i,.int .i64 r] bv [db x ps] (fun v=>pa_ (v = (Table.protect ps i r).1) [db x (Table.protect ps i r).2]):=by
  intro h s0
  obtain ⟨b,rfl,hb,st⟩:=table_op s0
  refine uJ _ _ _ ?_
  unfold od
  refine dJ rfl ?_
  refine bk (fun k=>?_) (fun k=>?_)
  · have k':cK i = false∨cN r = false:=by simpa using k
    have e:Table.protect ps i r = (2,ps):=if_pos k'
    rw [e]
    exact bi rfl (iE hb st)
  · have k':¬ (cK i = false∨cN r = false):=by simp at k; simp [k]
    obtain ⟨n,rfl,hn⟩:=table_is (i:=i) (by simp at k'; exact k'.1)
    have hn':n < ps.length:=by omega
    have hat:Table.at_ ps n = ps[n]:=by simp [Table.at_,hn']
    refine cO ⟨⟨by omega,by omega⟩,?_⟩
    refine ld_a (j:=0) (i:=n) (k:=2) ps[n].fRights ji st rfl (by simp) (aO hn') (c1 rfl rfl) ?_
    refine bk (fun k2=>?_) (fun k2=>?_)
    · have k2':(Table.at_ ps n).fRights = 0:=by rw [hat]; simpa using k2
      have e:Table.protect ps n r = (3,ps):=by unfold Table.protect; rw [if_neg k',if_pos k2']
      rw [e]
      exact bi rfl (iE hb st)
    · have k2':¬ (Table.at_ ps n).fRights = 0:=by rw [hat]; simpa using k2
      have e:Table.protect ps n r = (0,ps.set n { ps[n] with fRights:=r }):=by unfold Table.protect; rw [if_neg k',if_neg k2',hat]; rfl
      rw [e]
      refine st_a (j:=0) (i:=n) (k:=2) { ps[n] with fRights:=r } ji st rfl (by simp) (aO hn') (by simp) rfl fun h2 s2=>?_
      exact bi rfl (iE (by simpa using hb) s2)
theorem sp_table_Remove (x:Ptr) (ps:List Pte) (i:Int):Sp Tryz.prog iN [pv x,.int .i64 i] jm [db x ps] (fun v=>pa_ (v = (Table.remove ps i).1) [db x (Table.remove ps i).2]):=by
  intro h s0
  obtain ⟨b,rfl,hb,st⟩:=table_op s0
  refine wh _ _ ?_
  unfold oU
  refine dJ rfl ?_
  refine bk (fun k=>?_) (fun k=>?_)
  · have k':cK i = false:=by simpa using k
    have e:Table.remove ps i = ((eE,2),ps):=if_pos k'
    rw [e]
    exact bi rfl (iE hb st)
  · have k':¬ (cK i = false):=by simp at k; simp [k]
    obtain ⟨n,rfl,hn⟩:=table_is (i:=i) (by simp at k'; exact k')
    have hn':n < ps.length:=by omega
    have hat:Table.at_ ps n = ps[n]:=by simp [Table.at_,hn']
    refine cO ⟨⟨by omega,by omega⟩,?_⟩
    refine ld_a (j:=0) (i:=n) (k:=2) ps[n].fRights ji st rfl (by simp) (aO hn') (c1 rfl rfl) ?_
    refine bk (fun k2=>?_) (fun k2=>?_)
    · have k2':(Table.at_ ps n).fRights = 0:=by rw [hat]; simpa using k2
      have e:Table.remove ps n = ((eE,3),ps):=by unfold Table.remove; rw [if_neg k',if_pos k2']
      rw [e]
      exact bi rfl (iE hb st)
    · have k2':¬ (Table.at_ ps n).fRights = 0:=by rw [hat]; simpa using k2
      have e:Table.remove ps n = ((ps[n],0),ps.set n eE):=by unfold Table.remove; rw [if_neg k',if_neg k2',hat]; rfl
      rw [e]
      refine ld_a (j:=0) (i:=n) (k:=0) ps[n] ji st rfl (by simp) (aO hn') (by simp) ?_
      refine st_a (j:=0) (i:=n) (k:=0) eE ji st rfl (by simp) (aO hn') (by simp [ji]) rfl fun h2 s2=>?_
      exact bi rfl (iE (by simpa using hb) s2)
theorem ny (x:Ptr) (ps:List Pte) (i:Int):Sp Tryz.prog eU [pv x,.int .i64 i] cH [db x ps] (fun v=>pa_ (v = Table.get ps i) [db x ps]):=by
  intro h s0
  obtain ⟨b,rfl,hb,st⟩:=table_op s0
  refine sim_table_Table_At _ _ ?_
  unfold tB
  refine bk (fun k=>?_) (fun k=>?_)
  · have k':cK i = true:=by simpa using k
    obtain ⟨n,rfl,hn⟩:=table_is k'
    have hn':n < ps.length:=by omega
    have hat:Table.at_ ps n = ps[n]:=by simp [Table.at_,hn']
    refine cO ⟨⟨by omega,by omega⟩,?_⟩
    refine ld_a (j:=0) (i:=n) (k:=2) ps[n].fRights ji st rfl (by simp) (aO hn') (c1 rfl rfl) ?_
    unfold iF
    refine bk (fun k2=>?_) (fun k2=>?_)
    · have k2':(Table.at_ ps n).fRights = 0:=by rw [hat]; simpa using k2
      have e:Table.get ps n = (eE,false):=if_neg (fun hh=>hh.2 k2')
      rw [e]
      exact bi rfl (iE hb st)
    · have k2':¬ (Table.at_ ps n).fRights = 0:=by rw [hat]; simpa using k2
      have e:Table.get ps n = (ps[n],true):=by unfold Table.get; rw [if_pos ⟨k',k2'⟩,hat]
      rw [e]
      refine cO ⟨⟨by omega,by omega⟩,?_⟩
      refine ld_a (j:=0) (i:=n) (k:=0) ps[n] ji st rfl (by simp) (aO hn') (by simp) ?_
      exact bi rfl (iE hb st)
  · have k':¬ cK i = true:=by simpa using k
    have e:Table.get ps i = (eE,false):=if_neg (fun hh=>k' hh.1)
    rw [e]
    unfold iF
    exact dW rfl (bi rfl (iE hb st))
theorem by_append (s:Int):∀ (ps:List Pte) (i:Int) (p:Pte),Table.byFrom s (ps++[p]) i = Table.byFrom s ps i++(if p.fRights ≠ 0∧p.fSlot = s then [i + ps.length] else [])
  | [],i,p=>by simp only [List.nil_append,Table.byFrom]; split <;> simp
  | y::ps,i,p=>by
    simp only [List.cons_append,Table.byFrom]
    rw [by_append s ps (i + 1) p]
    have e:i + 1 + (ps.length:Int) = i + ((y::ps).length:Int):=by simp; omega
    rw [e]
    split <;> simp
theorem by_len (s:Int):∀ (ps:List Pte) (i:Int),(Table.byFrom s ps i).length ≤ ps.length
  | [],_=>Nat.le_refl _
  | p::ps,i=>by unfold Table.byFrom; have:=by_len s ps (i + 1); split <;> simp <;> omega
theorem sp_table_By (x:Ptr) (ps:List Pte) (s:Int):Sp Tryz.prog lL [pv x,.int .i64 s] cJ [db x ps] (fun r=>aP [vI r (Table.by_ ps s),db x ps]):=by
  intro h s0
  obtain ⟨b,rfl,hb,st⟩:=table_op s0
  refine sim_table_Table_By _ _ ?_
  unfold tA
  refine dJ rfl (cO ?_)
  obtain ⟨h1,a,sub⟩:=dX (i:=0) rfl st
  have hfl:(ps.flatMap ar.C).length = 24:=by rw [dR ji,hb]
  refine loadAt_v (r:=ps.flatMap ar.C) (cs:=ps.flatMap ar.C) agn_8_api_Pte ⟨_,_,_,sub _ _ a,fun i v hv=>by simpa using hv⟩ hfl rfl ?_
  refine Lp.intro (fun (z:Sl × Int) h=>∃ n:Nat,z.2 = n∧n ≤ 8∧aP [vI z.1 (Table.byFrom s (ps.take n) 0),db (some (b,0)) ps] h) (fun (z:Sl × Int) _=>8 - z.2.toNat) ⟨0,rfl,Nat.zero_le _,fI (iE hb st)⟩ ?_
  rintro ⟨z,i⟩ h ⟨n,rfl,hn,s1⟩
  unfold nV
  refine bk (fun k=>?_) (fun k=>?_)
  · have hlt:n < 8:=by have:=of_decide_eq_true k; omega
    have hn':n < ps.length:=by omega
    have hw:IntKind.i64.wrap ((n:Int) + 1) = ((n + 1:Nat):Int):=by rw [cf (by omega) (by omega)]; rfl
    have ht:ps.take (n + 1) = ps.take n++[ps[n]]:=by simp
    have hlen:((ps.take n).length:Int) = n:=by simp; omega
    refine index_v (enc:=ar.C) (m:=3) arn_8_api_Pte age_8_api_Pte ji (fun _=>rfl) hb (aO hn') ?_
    refine bk (fun k2=>?_) (fun k2=>?_)
    · have k2':ps[n].fRights ≠ 0∧ps[n].fSlot = s:=by simpa using k2
      refine vM s1 (i:=0) rfl ?_ fun v h' s2=>?_
      · have:=by_len s (ps.take n) 0; simp at this ⊢; omega
      · rw [hw]
        refine ⟨⟨n + 1,rfl,hlt,?_⟩,by simp; omega⟩
        rw [ht,by_append,if_pos k2',hlen,Int.zero_add]
        exact s2
    · have k2':¬ (ps[n].fRights ≠ 0∧ps[n].fSlot = s):=by simpa using k2
      rw [hw]
      refine ⟨⟨n + 1,rfl,hlt,?_⟩,by simp; omega⟩
      rw [ht,by_append,if_neg k2',List.append_nil]
      exact s1
  · have:n = 8:=by have:=of_decide_eq_false k; omega
    subst this
    rw [show ps.take 8 = ps from by rw [← hb]; exact List.take_length] at s1
    exact s1
end Go.Proofs.YtniiiakkdoiaiaaGreatDoor
namespace Go.Proofs.YtniiiakkdoiaiaaGreatDoor
open Go
namespace Mb
def vm {σ α:Type} (A:σ→α→As):List σ→List α→List As
  | p::ps,x::xs=>A p x::vm A ps xs
  | _,_=>[]
section
variable {σ α:Type} {A:σ→α→As}
theorem objs_get:∀ {ps:List σ} {xs:List α} {i:Nat} {p:σ} {x:α},ps[i]? = some p→xs[i]? = some x→(vm A ps xs)[i]? = some (A p x)
  | [],_,_,_,_,h,_=>by simp at h
  | _::_,[],_,_,_,_,h=>by simp at h
  | p::ps,x::xs,0,_,_,h1,h2=>by simp at h1 h2; subst h1; subst h2; rfl
  | p::ps,x::xs,i + 1,_,_,h1,h2=>by simpa [vm] using objs_get (ps:=ps) (xs:=xs) (i:=i) (by simpa using h1) (by simpa using h2)
theorem objs_set:∀ {ps:List σ} {xs:List α} {i:Nat} {p:σ} {x:α},ps[i]? = some p→(vm A ps xs).set i (A p x) = vm A ps (xs.set i x)
  | [],_,_,_,_,h=>by simp at h
  | p::ps,[],i,_,_,_=>by simp [vm]
  | p::ps,y::xs,0,_,_,h=>by simp at h; subst h; rfl
  | p::ps,y::xs,i + 1,_,_,h=>by simp only [vm,List.set_cons_succ]; rw [objs_set (ps:=ps) (xs:=xs) (i:=i) (by simpa using h)]
theorem objs_set2:∀ {ps:List σ} {xs:List α} {i:Nat} {p:σ} {x:α},i < xs.length→(vm A ps xs).set i (A p x) = vm A (ps.set i p) (xs.set i x)
  | [],_,_,_,_,_=>by simp [vm]
  | p::ps,[],i,_,_,h=>by simp at h
  | p::ps,y::xs,0,_,_,_=>rfl
  | p::ps,y::xs,i + 1,_,_,h=>by simp only [vm,List.set_cons_succ]; rw [objs_set2 (ps:=ps) (xs:=xs) (i:=i) (by simpa using h)]
theorem objs_append (p:σ) (x:α):∀ {ps:List σ} {xs:List α},ps.length = xs.length→vm A (ps++[p]) (xs++[x]) = vm A ps xs++[A p x]
  | [],[],_=>rfl
  | [],_::_,h=>by simp at h
  | _::_,[],h=>by simp at h
  | a::ps,b::xs,h=>by simp only [List.cons_append,vm]; rw [objs_append p x (by simpa using h)]
theorem objs_len:∀ {ps:List σ} {xs:List α},ps.length = xs.length→(vm A ps xs).length = xs.length
  | [],[],_=>rfl
  | [],_::_,h=>by simp at h
  | _::_,[],h=>by simp at h
  | a::ps,b::xs,h=>by simp only [vm,List.length_cons]; rw [objs_len (by simpa using h)]
def all (A:σ→α→As) (ps:List σ) (xs:List α):As:=aP (vm A ps xs)
def but (A:σ→α→As) (ps:List σ) (xs:List α) (i:Nat):As:=aP ((vm A ps xs).eraseIdx i)
variable {l:List As} {h:Hp} {ps:List σ} {xs:List α}
theorem star_shut {m:List As} (s:aP (m++l) h):aP (aP m::l) h:=by
  obtain ⟨h1,h2,d,e,s1,s2⟩:=eT.1 s
  exact ⟨h1,h2,d,e,s1,s2⟩
theorem jl {i:Nat} {p:σ} {x:α} (hp:ps[i]? = some p) (hx:xs[i]? = some x) (s:aP (all A ps xs::l) h):aP (A p x::but A ps xs i::l) h:=by
  obtain ⟨h1,h2,d,e,a,s'⟩:=s
  have:=fj (objs_get (A:=A) hp hx) a
  obtain ⟨h3,h4,d',e',a',s4⟩:=this
  subst e'
  obtain ⟨d1,d2⟩:=Dj.of_un_left d
  exact ⟨h3,un h4 h2,Dj.un_right d' d1,by rw [e,mB],a',h4,h2,d2,rfl,s4,s'⟩
theorem xh {i:Nat} {p:σ} {y:α} (hp:ps[i]? = some p) (hi:i < xs.length) (hl:ps.length = xs.length) (s:aP (A p y::but A ps xs i::l) h):aP (all A ps (xs.set i y)::l) h:=by
  obtain ⟨h1,h2,d,e,a,h3,h4,d',e',b,s'⟩:=s
  subst e'
  obtain ⟨d1,d2⟩:=Dj.of_un_right d
  refine ⟨un h1 h3,h4,Dj.un_left d2 d',by rw [e,mB],?_,s'⟩
  have:=dQ (A:=A p y) (l:=vm A ps xs) (i:=i) (by rw [objs_len hl]; exact hi) ⟨h1,h3,d1,rfl,a,b⟩
  rw [objs_set hp] at this
  exact this
theorem all_in2 {i:Nat} {p:σ} {y:α} (hi:i < xs.length) (hl:ps.length = xs.length) (s:aP (A p y::but A ps xs i::l) h):aP (all A (ps.set i p) (xs.set i y)::l) h:=by
  obtain ⟨h1,h2,d,e,a,h3,h4,d',e',b,s'⟩:=s
  subst e'
  obtain ⟨d1,d2⟩:=Dj.of_un_right d
  refine ⟨un h1 h3,h4,Dj.un_left d2 d',by rw [e,mB],?_,s'⟩
  have:=dQ (A:=A p y) (l:=vm A ps xs) (i:=i) (by rw [objs_len hl]; exact hi) ⟨h1,h3,d1,rfl,a,b⟩
  rw [objs_set2 hi] at this
  exact this
theorem iH {α:Type} {xs:List α} {i:Nat} {x:α} (hx:xs[i]? = some x):xs.set i x = xs:=by
  apply List.ext_getElem?
  intro n
  rw [List.getElem?_set]
  by_cases e:i = n
  · subst e
    obtain ⟨h1,h2⟩:=List.getElem?_eq_some_iff.1 hx
    simp [h1,h2]
  · simp [e]
theorem vN {i:Nat} {p:σ} {x:α} (hp:ps[i]? = some p) (hx:xs[i]? = some x) (hl:ps.length = xs.length) (s:aP (A p x::but A ps xs i::l) h):aP (all A ps xs::l) h:=by
  have:=xh hp (List.getElem?_eq_some_iff.1 hx).1 hl s
  rwa [iH hx] at this
theorem all_nil:aP l h→aP (all A [] []::l) h:=fun s=>star_cons (fun _=>trivial) s
theorem all_push {p:σ} {x:α} (hl:ps.length = xs.length) (s:aP (A p x::all A ps xs::l) h):aP (all A (ps++[p]) (xs++[x])::l) h:=by
  refine star_shut ?_
  rw [objs_append p x hl]
  have s1:=km (.swap _ _ _) s
  have s2:=dG s1
  exact km (by simp) s2
end
theorem vY {A:As} {h:Hp} (a:A h):aP [A] h:=⟨h,emp,Dj.emp_right _,(un_emp _).symm,a,trivial⟩
section
variable {P:Program} {l:List As} {h:Hp} {τ:Type} {f:FuncId} {args:List Value} {enc:τ→Value} {K:τ→Hp→Prop} {i:Nat} {A:As}
theorem bZ {φ:τ→Prop} {A':τ→As} (c:Sp P f args enc [A] (fun r=>pa_ (φ r) [A' r])) (hi:l[i]? = some A) (s:aP l h) (k:∀ r h',φ r→aP (l.set i (A' r)) h'→K r h'):cl P f args enc K h:=by
  obtain ⟨h1,h2,d,rfl,a,s'⟩:=fj hi s
  refine (c h1 (vY a)).frame_mono d rfl fun v h' ⟨r,hv,q⟩ dj=>⟨r,hv,?_⟩
  obtain ⟨g1,q⟩:=q
  refine k r _ g1 (dQ (List.getElem?_eq_some_iff.1 hi).1 ?_)
  exact nv (l:=[A' r]++l.eraseIdx i) (by rw [List.append_nil]; exact eT.2 ⟨h',h2,dj,rfl,q,s'⟩)
theorem cl_n {B A':τ→As} (c:Sp P f args enc [A] (fun r=>aP [B r,A' r])) (hi:l[i]? = some A) (s:aP l h) (k:∀ r h',aP (B r::l.set i (A' r)) h'→K r h'):cl P f args enc K h:=by
  obtain ⟨h1,h2,d,rfl,a,s'⟩:=fj hi s
  refine (c h1 (vY a)).frame_mono d rfl fun v h' ⟨r,hv,q⟩ dj=>⟨r,hv,k r _ ?_⟩
  have s1:aP (B r::A' r::l.eraseIdx i) (un h' h2):=(eT (l:=[B r,A' r])).2 ⟨h',h2,dj,rfl,q,s'⟩
  obtain ⟨g1,g2,d2,e2,b,s2⟩:=s1
  exact ⟨g1,g2,d2,e2,b,dQ (List.getElem?_eq_some_iff.1 hi).1 s2⟩
theorem cl_p {φ:τ→Prop} {B A':τ→As} (c:Sp P f args enc [A] (fun r=>pa_ (φ r) [B r,A' r])) (hi:l[i]? = some A) (s:aP l h) (k:∀ r h',φ r→aP (B r::l.set i (A' r)) h'→K r h'):cl P f args enc K h:=by
  obtain ⟨h1,h2,d,rfl,a,s'⟩:=fj hi s
  refine (c h1 (vY a)).frame_mono d rfl fun v h' ⟨r,hv,q⟩ dj=>⟨r,hv,?_⟩
  obtain ⟨g0,q⟩:=q
  refine k r _ g0 ?_
  have s1:aP (B r::A' r::l.eraseIdx i) (un h' h2):=(eT (l:=[B r,A' r])).2 ⟨h',h2,dj,rfl,q,s'⟩
  obtain ⟨g1,g2,d2,e2,b,s2⟩:=s1
  exact ⟨g1,g2,d2,e2,b,dQ (List.getElem?_eq_some_iff.1 hi).1 s2⟩
theorem ti {φ:τ→Prop} (c:Sp P f args enc [] (fun r=>pa_ (φ r) [])) (s:aP l h) (k:∀ r h',φ r→aP l h'→K r h'):cl P f args enc K h :=
  cW [] c s rfl fun r h' s1=>by
    obtain ⟨f1,s2⟩:=bF.1 s1
    exact k r h' f1 s2
theorem my {B:τ→As} (c:Sp P f args enc [] (fun r=>aP [B r])) (s:aP l h) (k:∀ r h',aP (B r::l) h'→K r h'):cl P f args enc K h :=
  cW [] c s rfl fun r h' s1=>k r h' (dG s1)
end
end Mb
end Go.Proofs.YtniiiakkdoiaiaaGreatDoor
namespace Go.Proofs.YtniiiakkdoiaiaaGreatDoor
open Go Mb
set_option linter.unusedVariables false
def sh_caps_New (a0:Int) (K:Ptr→Hp→Prop):Hp→Prop:=br ((decide (a0 < 1)) || (decide (a0 > 4))) ( K none) ( hpv Tryz.prog (Instr.makeSlice t_S_8_api_Cap (.int .i64 a0) (.int .i64 a0)) R_S_8_api_Cap fun (v10:Sl)=>nw nu (nS.C (⟨v10⟩:nS)) fun b12=>K (some (b12,0)))
set_option maxRecDepth 20000 in
theorem sim_caps_New (a0:Int) {K:Ptr→Hp→Prop} {h:Hp} (H:sh_caps_New a0 K h):Ct Tryz.prog wN #[(.int .i64 a0)] h fun v h'=>∃ r,v = rZ r∧K r h':=aD [(.int .i64 a0)] Tryz.func92 rfl rfl rfl fun _=>ah<|ac<|aa (ag rfl) rfl<|ae<|ah<|ah<|ac<|aa (ad rfl) rfl<|aa (cx rfl rfl) rfl<|aa (ad rfl) rfl<|aj rfl rfl rfl (aS _) (fun g1=>wv (ad rfl)) rfl<|aj rfl rfl rfl (aS _) (fun g2=>wv (oQ (aJ rfl g2) rfl)) rfl<|aa (dr rfl rfl) rfl<|ae<|aC rfl H (fun k3 H4=>ah<|ac<|aa (ag rfl) rfl<|ae<|ao<|aw (az rfl (aE rfl)) ⟨none,rfl,H4⟩) (fun k3 H4=>av<|ah<|ac<|aa (ad rfl) rfl<|ak (be H4 (jF rfl rfl) rfl fun v10 _ H5=>aa (bo rfl (build_186_0 v10)) rfl<|ak (hH rfl rfl rfl H5 fun b12 _ H6=>aa (ag rfl) rfl<|ae<|ao<|aw (az rfl (aE rfl)) ⟨(some (b12,0)),rfl,H6⟩)))
def sh_caps_Tree_is (a0:Ptr) (a1:Int) (a2:Int) (K:Bool→Hp→Prop):Hp→Prop:=br (decide (a1 ≥ 0)) ( nn a0 fun q12=>ld (q12.1,q12.2 + 0) cS fun x14=>K (((decide (a1 < (x14.len:Int))) && (decide (a2 ≥ 0))) && (decide (a2 < 8)))) ( K false)
set_option maxRecDepth 20000 in
theorem sim_caps_Tree_is (a0:Ptr) (a1:Int) (a2:Int) {K:Bool→Hp→Prop} {h:Hp} (H:sh_caps_Tree_is a0 a1 a2 K h):Ct Tryz.prog ie #[(pv a0),(.int .i64 a1),(.int .i64 a2)] h fun v h'=>∃ r,v = aK r∧K r h':=aD [(pv a0),(.int .i64 a1),(.int .i64 a2)] Tryz.func162 rfl rfl rfl fun _=>ah<|ac<|aa (ag rfl) rfl<|ae<|ah<|ac<|aa (ad rfl) rfl<|aa (gz rfl rfl) rfl<|aa (ad rfl) rfl<|aj rfl rfl rfl (aA _) (fun g1=>wv (ad rfl)) rfl<|aj rfl rfl rfl (aA _) (fun g2=>wv (ad rfl)) rfl<|cc H (fun k4 H5=>bQ H5 fun q12 e6 H7=>aL rfl rfl rfl (congrArg Value.bool k4) (aQ (wv (aV (aW (aJ rfl k4) (ax e6)))) rfl<|aL rfl rfl rfl (congrArg Value.bool k4) (aQ (wv (an gZ rfl)) rfl<|aL rfl rfl rfl (congrArg Value.bool k4) (bg H7 pI rfl (fun _=>rfl) rfl fun x14 H8=>aL rfl rfl rfl (congrArg Value.bool k4) (aQ (wv (dB rfl Tryz.underlying184 rfl)) rfl<|aL rfl rfl rfl (congrArg Value.bool k4) (aQ (wv (cx (aJ rfl k4) rfl)) rfl<|aa (bd rfl k4 rfl) rfl<|aa (ad rfl) rfl<|aj rfl rfl rfl (aA _) (fun g9=>wv (ad rfl)) rfl<|aj rfl rfl rfl (aA _) (fun g10=>wv (gz (aJ rfl g10) rfl)) rfl<|aa (bU rfl rfl) rfl<|aa (ad rfl) rfl<|aj rfl rfl rfl (aA _) (fun g11=>wv (ad rfl)) rfl<|aj rfl rfl rfl (aA _) (fun g12=>wv (cx (aJ rfl g12) rfl)) rfl<|aa (bU rfl rfl) rfl<|aa (ag rfl) rfl<|ae<|ao<|aw (az rfl (aE rfl)) ⟨(((decide (a1 < (x14.len:Int))) && (decide (a2 ≥ 0))) && (decide (a2 < 8))),rfl,H8⟩)))))) (fun k4 H5=>am rfl rfl rfl (bc k4) rfl<|am rfl rfl rfl (bc k4) rfl<|am rfl rfl rfl (bc k4) rfl<|am rfl rfl rfl (bc k4) rfl<|am rfl rfl rfl (bc k4) rfl<|aa (ay rfl k4 rfl) rfl<|aa (ad rfl) rfl<|am rfl rfl rfl rfl rfl<|am rfl rfl rfl rfl rfl<|aa (ay rfl rfl rfl) rfl<|aa (ad rfl) rfl<|am rfl rfl rfl rfl rfl<|am rfl rfl rfl rfl rfl<|aa (ay rfl rfl rfl) rfl<|aa (ag rfl) rfl<|ae<|ao<|aw (az rfl (aE rfl)) ⟨false,rfl,H5⟩)
def iC (a0:Ptr) (a1:Int) (a2:Int) (K:(aG × Bool)→Hp→Prop) (s1:Bool):Hp→Prop:=br s1 ( K ((⟨0,0,0,0⟩:aG),false)) ( nn a0 fun q32=>ld (q32.1,q32.2 + 0) cS fun x34=>ix x34 a1 fun q37=>gd (0 ≤ a2∧a2 < 8)<|ld (q37.1,q37.2 + Int.toNat a1 * 32 + Int.toNat a2 * 4) aG.C fun x39=>K (x39,true))
def sh_caps_Tree_At (a0:Ptr) (a1:Int) (a2:Int) (K:(aG × Bool)→Hp→Prop):Hp→Prop:=br (!a0.isNone) ( cl Tryz.prog ie [(pv a0),(.int .i64 a1),(.int .i64 a2)] aK fun r14=>br (!(!r14)) ( nn a0 fun q19=>ld (q19.1,q19.2 + 0) cS fun x21=>ix x21 a1 fun q24=>gd (0 ≤ a2∧a2 < 8)<|ld (q24.1,q24.2 + Int.toNat a1 * 32 + Int.toNat a2 * 4 + 1) (cI .i64) fun x27=>iC a0 a1 a2 K (x27 == 0)) ( iC a0 a1 a2 K true)) ( iC a0 a1 a2 K true)
set_option maxRecDepth 20000 in
theorem sim_caps_Tree_At (a0:Ptr) (a1:Int) (a2:Int) {K:(aG × Bool)→Hp→Prop} {h:Hp} (H:sh_caps_Tree_At a0 a1 a2 K h):Ct Tryz.prog eA #[(pv a0),(.int .i64 a1),(.int .i64 a2)] h fun v h'=>∃ r,v = cU r∧K r h':=aD [(pv a0),(.int .i64 a1),(.int .i64 a2)] Tryz.func118 rfl rfl rfl fun _=>ah<|ac<|ak (aY (l:=(aG.C (⟨0,0,0,0⟩:aG))) im rfl rfl fun b6=>aa (ag rfl) rfl<|ae<|ah<|eB (iC a0 a1 a2 K) (fun s1=>[(0,(pv a0)),(1,(.int .i64 a1)),(2,(.int .i64 a2)),(6,(.pointer (some ⟨b6,0,none⟩))),(29,(.bool s1))]) (fun s1=>[bx b6 70 (aG.C (⟨0,0,0,0⟩:aG))]) ( ac<|aa (ad rfl) rfl<|aa (cA Tryz.underlying128 rfl) rfl<|aa (ad rfl) rfl<|aj rfl rfl rfl (aS _) (fun g14=>wv (ad rfl)) rfl<|aj rfl rfl rfl (aS _) (fun g15=>wv (ad rfl)) rfl<|aj rfl rfl rfl (aS _) (fun g16=>wv (ad rfl)) rfl<|cc H (fun k18 H19=>aL rfl rfl rfl (congrArg Value.bool (cm k18)) (aB H19 en_162 (ba (aJ rfl k18) (ba (aJ rfl k18) (ba (aJ rfl k18) bY))) rfl fun r14 _ H20=>aL rfl rfl rfl (congrArg Value.bool (cm k18)) (aQ (wv (cD rfl)) rfl<|aa (ay rfl (cm k18) rfl) rfl<|aa (ad rfl) rfl<|aj rfl rfl rfl (aS _) (fun g21=>wv (ad rfl)) rfl<|cc H20 (fun k23 H24=>bQ H24 fun q19 e25 H26=>aL rfl rfl rfl (congrArg Value.bool (cm k23)) (aQ (wv (aV (aW (aJ rfl k23) (ax e25)))) rfl<|aL rfl rfl rfl (congrArg Value.bool (cm k23)) (aQ (wv (an gZ rfl)) rfl<|aL rfl rfl rfl (congrArg Value.bool (cm k23)) (bg H26 pI rfl (fun _=>rfl) rfl fun x21 H27=>aL rfl rfl rfl (congrArg Value.bool (cm k23)) (aQ (wv (ad rfl)) rfl<|aL rfl rfl rfl (congrArg Value.bool (cm k23)) (aQ (wv (ad rfl)) rfl<|cw H27 fun q24 e28 h29 H30=>aL rfl rfl rfl (congrArg Value.bool (cm k23)) (aQ (wv (bD oa (aW rfl (bn e28)) rfl h29)) rfl<|je H30 fun h31 H32=>aL rfl rfl rfl (congrArg Value.bool (cm k23)) (aQ (wv (bK qg rfl rfl h31)) rfl<|aL rfl rfl rfl (congrArg Value.bool (cm k23)) (aQ (wv (an gF rfl)) rfl<|aL rfl rfl rfl (congrArg Value.bool (cm k23)) (bg H32 bj rfl (fun _=>rfl) rfl fun x27 H33=>aL rfl rfl rfl (congrArg Value.bool (cm k23)) (aQ (wv (bV rfl rfl)) rfl<|aa (ay rfl (cm k23) rfl) rfl<|ae<|cF (x27 == 0) H33 (.cons rfl (.cons rfl (.cons rfl (.cons rfl (.cons rfl (.nil _)))))) (.cons_cons _ .slnil)))))))))))) (fun k23 H24=>am rfl rfl rfl (ci (bN k23)) rfl<|am rfl rfl rfl (ci (bN k23)) rfl<|am rfl rfl rfl (ci (bN k23)) rfl<|am rfl rfl rfl (ci (bN k23)) rfl<|am rfl rfl rfl (ci (bN k23)) rfl<|am rfl rfl rfl (ci (bN k23)) rfl<|am rfl rfl rfl (ci (bN k23)) rfl<|am rfl rfl rfl (ci (bN k23)) rfl<|am rfl rfl rfl (ci (bN k23)) rfl<|am rfl rfl rfl (ci (bN k23)) rfl<|aa (bd rfl (bN k23) rfl) rfl<|ae<|cF true H24 (.cons rfl (.cons rfl (.cons rfl (.cons rfl (.cons rfl (.nil _)))))) (.cons_cons _ .slnil))))) (fun k18 H19=>am rfl rfl rfl (ci (bN k18)) rfl<|am rfl rfl rfl (ci (bN k18)) rfl<|aa (bd rfl (bN k18) rfl) rfl<|aa (ad rfl) rfl<|am rfl rfl rfl rfl rfl<|am rfl rfl rfl rfl rfl<|am rfl rfl rfl rfl rfl<|am rfl rfl rfl rfl rfl<|am rfl rfl rfl rfl rfl<|am rfl rfl rfl rfl rfl<|am rfl rfl rfl rfl rfl<|am rfl rfl rfl rfl rfl<|am rfl rfl rfl rfl rfl<|am rfl rfl rfl rfl rfl<|am rfl rfl rfl rfl rfl<|aa (bd rfl rfl rfl) rfl<|ae<|cF true H19 (.cons rfl (.cons rfl (.cons rfl (.cons rfl (.cons rfl (.nil _)))))) (.cons_cons _ .slnil))) (fun s1 _ H2=>aC rfl H2 (fun k3 H4=>ah<|ac<|aa (bo (vs:=[]) rfl build_70) rfl<|ak (aZ (k:=0) (vs:=(aG.C (⟨0,0,0,0⟩:aG))) gw rfl rfl rfl rfl rfl rfl rfl<|aa (ag rfl) rfl<|ae<|ao<|aw (ce rfl (bM (k:=0) rfl ag_70 rfl rfl) (aE rfl)) ⟨((⟨0,0,0,0⟩:aG),false),rfl,H4⟩)) (fun k3 H4=>av<|ah<|ac<|aa (ad rfl) rfl<|bQ H4 fun q32 e5 H6=>aa (aV (aW rfl (ax e5))) rfl<|aa (an gZ rfl) rfl<|ak (bg H6 pI rfl (fun _=>rfl) rfl fun x34 H7=>aa (ad rfl) rfl<|aa (ad rfl) rfl<|cw H7 fun q37 e8 h9 H10=>aa (bD oa (aW rfl (bn e8)) rfl h9) rfl<|je H10 fun h11 H12=>aa (bK qg rfl rfl h11) rfl<|ak (gI H12 ag_70 rfl (fun _=>rfl) rfl fun x39 H13=>ak (aZ (k:=0) (vs:=(aG.C x39)) gw rfl rfl rfl rfl rfl rfl rfl<|aa (ag rfl) rfl<|ae<|ao<|aw (ce rfl (bM (k:=0) rfl ag_70 rfl rfl) (aE rfl)) ⟨(x39,true),rfl,H13⟩))))))
def tU (a0:Ptr) (a1:Int) (a2:Int) (a3:Int) (K:Int→Hp→Prop):Hp→Prop:=br a0.isNone ( K 10) ( cl Tryz.prog ie [(pv a0),(.int .i64 a1),(.int .i64 a2)] aK fun r16=>br (((!r16) || (decide (a3 < 0))) || (decide (a3 ≥ 16))) ( K 2) ( nn a0 fun q28=>ld (q28.1,q28.2 + 0) cS fun x30=>ix x30 a1 fun q33=>gd (0 ≤ a2∧a2 < 8)<|ld (q33.1,q33.2 + Int.toNat a1 * 32 + Int.toNat a2 * 4 + 1) (cI .i64) fun x36=>br (x36 != 0) ( K 4) ( ld (q28.1,q28.2 + 0) cS fun x41=>ix x41 a1 fun q46=>st (q46.1,q46.2 + Int.toNat a1 * 32 + Int.toNat a2 * 4) (aG.C (⟨a3,3,(-1),0⟩:aG))<|K 0)))
set_option maxRecDepth 20000 in
theorem sim_caps_Tree_Root (a0:Ptr) (a1:Int) (a2:Int) (a3:Int) {K:Int→Hp→Prop} {h:Hp} (H:tU a0 a1 a2 a3 K h):Ct Tryz.prog jw #[(pv a0),(.int .i64 a1),(.int .i64 a2),(.int .i64 a3)] h fun v h'=>∃ r,v = bv r∧K r h':=aD [(pv a0),(.int .i64 a1),(.int .i64 a2),(.int .i64 a3)] Tryz.func126 rfl rfl rfl fun _=>ah<|ac<|aa (ag rfl) rfl<|ae<|ah<|aF<|ah<|ac<|aa (ad rfl) rfl<|aa (cA Tryz.underlying128 rfl) rfl<|aa (ag rfl) rfl<|ae<|aC rfl H (fun k1 H2=>ah<|ac<|aa (ag rfl) rfl<|ae<|ao<|aw (az rfl (aE rfl)) ⟨10,rfl,H2⟩) (fun k1 H2=>ah<|ac<|aa (ad rfl) rfl<|aa (ad rfl) rfl<|aa (ad rfl) rfl<|ak (aB H2 en_162 rfl rfl fun r16 _ H3=>aa (cD rfl) rfl<|aa (ad rfl) rfl<|aj rfl rfl rfl (aS _) (fun g4=>wv (ad rfl)) rfl<|aj rfl rfl rfl (aS _) (fun g5=>wv (cx (aJ rfl g5) rfl)) rfl<|aa (dr rfl rfl) rfl<|aa (ad rfl) rfl<|aj rfl rfl rfl (aS _) (fun g6=>wv (ad rfl)) rfl<|aj rfl rfl rfl (aS _) (fun g7=>wv (gz (aJ rfl g7) rfl)) rfl<|aa (dr rfl rfl) rfl<|aa (ag rfl) rfl<|ae<|aC rfl H3 (fun k8 H9=>ah<|ac<|aa (ag rfl) rfl<|ae<|ao<|aw (az rfl (aE rfl)) ⟨2,rfl,H9⟩) (fun k8 H9=>ah<|ac<|aa (ad rfl) rfl<|bQ H9 fun q28 e10 H11=>aa (aV (aW rfl (ax e10))) rfl<|aa (an gZ rfl) rfl<|ak (bg H11 pI rfl (fun _=>rfl) rfl fun x30 H12=>aa (ad rfl) rfl<|aa (ad rfl) rfl<|cw H12 fun q33 e13 h14 H15=>aa (bD oa (aW rfl (bn e13)) rfl h14) rfl<|je H15 fun h16 H17=>aa (bK qg rfl rfl h16) rfl<|aa (an gF rfl) rfl<|ak (bg H17 bj rfl (fun _=>rfl) rfl fun x36 H18=>aa (qk rfl rfl) rfl<|aa (ag rfl) rfl<|ae<|aC rfl H18 (fun k19 H20=>ah<|ac<|aa (ag rfl) rfl<|ae<|ao<|aw (az rfl (aE rfl)) ⟨4,rfl,H20⟩) (fun k19 H20=>av<|ah<|ac<|aa (ad (aW rfl (ax e10))) rfl<|aa (aV rfl) rfl<|aa (an gZ rfl) rfl<|ak (bg H20 pI rfl (fun _=>rfl) rfl fun x41 H21=>aa (ad rfl) rfl<|aa (ad rfl) rfl<|aa (ad rfl) rfl<|aa (bo rfl (build_70_0_1_2 a3 3 (-1))) rfl<|cw H21 fun q46 e22 h23 H24=>aa (bD oa (aW rfl (bn e22)) rfl h23) rfl<|aa (bK qg rfl rfl h16) rfl<|ak (dC gw rfl rfl rfl rfl rfl H24 fun _ H25=>ae<|ah<|ac<|aa (ag rfl) rfl<|ae<|ao<|aw (az rfl (aE rfl)) ⟨0,rfl,H25⟩))))))))
def rC (a0:Ptr) (a1:Int) (a2:Int) (a3:Int) (a4:Int) (a5:Int) (K:Int→Hp→Prop):Hp→Prop:=br a0.isNone ( K 10) ( cl Tryz.prog ie [(pv a0),(.int .i64 a1),(.int .i64 a2)] aK fun r19=>br (!(!r19)) ( cl Tryz.prog ie [(pv a0),(.int .i64 a3),(.int .i64 a4)] aK fun r25=>br ((!r25) || (!(cN a5))) ( K 2) ( nn a0 fun q34=>ld (q34.1,q34.2 + 0) cS fun x36=>ix x36 a1 fun q39=>gd (0 ≤ a2∧a2 < 8)<|ld (q39.1,q39.2 + Int.toNat a1 * 32 + Int.toNat a2 * 4) aG.C fun x41=>br (x41.fRights == 0) ( K 3) ( ld (q34.1,q34.2 + 0) cS fun x50=>ix x50 a3 fun q53=>gd (0 ≤ a4∧a4 < 8)<|ld (q53.1,q53.2 + Int.toNat a3 * 32 + Int.toNat a4 * 4 + 1) (cI .i64) fun x56=>br (x56 != 0) ( K 4) ( br (!(bu a5 x41.fRights)) ( K 5) ( ld (q34.1,q34.2 + 0) cS fun x67=>ix x67 a3 fun q76=>st (q76.1,q76.2 + Int.toNat a3 * 32 + Int.toNat a4 * 4) (aG.C (⟨x41.fFrame,a5,a1,a2⟩:aG))<|K 0))))) ( K 2))
set_option maxRecDepth 20000 in
theorem sim_caps_Tree_Derive (a0:Ptr) (a1:Int) (a2:Int) (a3:Int) (a4:Int) (a5:Int) {K:Int→Hp→Prop} {h:Hp} (H:rC a0 a1 a2 a3 a4 a5 K h):Ct Tryz.prog ig #[(pv a0),(.int .i64 a1),(.int .i64 a2),(.int .i64 a3),(.int .i64 a4),(.int .i64 a5)] h fun v h'=>∃ r,v = bv r∧K r h':=aD [(pv a0),(.int .i64 a1),(.int .i64 a2),(.int .i64 a3),(.int .i64 a4),(.int .i64 a5)] Tryz.func127 rfl rfl rfl fun _=>ah<|ac<|aa (ag rfl) rfl<|ae<|ah<|ah<|ac<|aa (ad rfl) rfl<|aa (cA Tryz.underlying128 rfl) rfl<|ae<|aC rfl H (fun k1 H2=>ah<|ac<|aa (ag rfl) rfl<|ae<|ao<|aw (az rfl (aE rfl)) ⟨10,rfl,H2⟩) (fun k1 H2=>av<|ah<|ah<|ac<|aa (ad rfl) rfl<|aa (ad rfl) rfl<|aa (ad rfl) rfl<|ak (aB H2 en_162 rfl rfl fun r19 _ H3=>aa (cD rfl) rfl<|aa (ad rfl) rfl<|aj rfl rfl rfl (aS _) (fun g4=>wv (ad rfl)) rfl<|aj rfl rfl rfl (aS _) (fun g5=>wv (ad rfl)) rfl<|aj rfl rfl rfl (aS _) (fun g6=>wv (ad rfl)) rfl<|cc H3 (fun k8 H9=>aL rfl rfl rfl (congrArg Value.bool (cm k8)) (aB H9 en_162 (ba (aJ rfl k8) (ba (aJ rfl k8) (ba (aJ rfl k8) bY))) rfl fun r25 _ H10=>aL rfl rfl rfl (congrArg Value.bool (cm k8)) (aQ (wv (cD rfl)) rfl<|aa (ay rfl (cm k8) rfl) rfl<|aa (ad rfl) rfl<|aj rfl rfl rfl (aS _) (fun g11=>wv (ad rfl)) rfl<|de (vs:=[(.int .i64 a5)]) rfl rfl rfl (aS _) (fun g12=>(bG (pV a5 _))) en_150 (fun g12=>(ba (aJ rfl g12) bY)) rfl<|aj rfl rfl rfl (aS _) (fun g13=>wv (cD (aJ rfl g13))) rfl<|aa (dr rfl rfl) rfl<|ae<|aC rfl H10 (fun k14 H15=>ah<|ac<|aa (ag rfl) rfl<|ae<|ao<|aw (az rfl (aE rfl)) ⟨2,rfl,H15⟩) (fun k14 H15=>av<|ah<|ac<|aa (ad rfl) rfl<|bQ H15 fun q34 e16 H17=>aa (aV (aW rfl (ax e16))) rfl<|aa (an gZ rfl) rfl<|ak (bg H17 pI rfl (fun _=>rfl) rfl fun x36 H18=>aa (ad rfl) rfl<|aa (ad rfl) rfl<|cw H18 fun q39 e19 h20 H21=>aa (bD oa (aW rfl (bn e19)) rfl h20) rfl<|je H21 fun h22 H23=>aa (bK qg rfl rfl h22) rfl<|ak (gI H23 ag_70 rfl (fun _=>rfl) rfl fun x41 H24=>ak (aY (l:=(aG.C (⟨0,0,0,0⟩:aG))) im rfl rfl fun b13=>ak (aZ (k:=0) (vs:=(aG.C x41)) gw rfl rfl rfl rfl rfl rfl rfl<|ae<|ah<|aF<|ah<|ac<|aa (an gF rfl) rfl<|bw (bm (k:=0) bj rfl rfl rfl) rfl<|aa (bV rfl rfl) rfl<|aa (ag rfl) rfl<|ae<|aC rfl H24 (fun k25 H26=>ah<|ac<|aa (ag rfl) rfl<|ae<|ao<|aw (az rfl (aE rfl)) ⟨3,rfl,H26⟩) (fun k25 H26=>ah<|ac<|aa (ad (aW rfl (ax e16))) rfl<|aa (aV rfl) rfl<|aa (an gZ rfl) rfl<|ak (bg H26 pI rfl (fun _=>rfl) rfl fun x50 H27=>aa (ad rfl) rfl<|aa (ad rfl) rfl<|cw H27 fun q53 e28 h29 H30=>aa (bD oa (aW rfl (bn e28)) rfl h29) rfl<|je H30 fun h31 H32=>aa (bK qg rfl rfl h31) rfl<|aa (an gF rfl) rfl<|ak (bg H32 bj rfl (fun _=>rfl) rfl fun x56 H33=>aa (qk rfl rfl) rfl<|aa (ag rfl) rfl<|ae<|aC rfl H33 (fun k34 H35=>ah<|ac<|aa (ag rfl) rfl<|ae<|ao<|aw (az rfl (aE rfl)) ⟨4,rfl,H35⟩) (fun k34 H35=>ah<|ac<|aa (ad rfl) rfl<|aa (an gF rfl) rfl<|bw (bm (k:=0) bj rfl rfl rfl) rfl<|ak (cM (vs:=[(.int .i64 a5),(.int .i64 x41.fRights)]) (bG (df a5 x41.fRights _)) mw rfl rfl<|aa (cD rfl) rfl<|aa (ag rfl) rfl<|ae<|aC rfl H35 (fun k36 H37=>ah<|ac<|aa (ag rfl) rfl<|ae<|ao<|aw (az rfl (aE rfl)) ⟨5,rfl,H37⟩) (fun k36 H37=>av<|ah<|bC (n:=15) [bx b13 70 (aG.C x41)] cy rfl (.cons_cons _ .slnil)<|ai (i:=0) (fun _ _ _ _=>id) rfl (by kernel_rfl) rfl (ve (ad (aW rfl (ax e16))))<|ai (i:=1) (fun _ _ _ _=>id) rfl (by kernel_rfl) rfl (ve (aV rfl))<|ai (i:=2) (fun _ _ _ _=>id) rfl (by kernel_rfl) rfl (ve (an gZ rfl))<|ai (i:=4) (fun _ _ _ _=>id) rfl (by kernel_rfl) rfl (ve (ad rfl))<|ai (i:=5) (fun _ _ _ _=>id) rfl (by kernel_rfl) rfl (ve (ad rfl))<|ai (i:=6) (fun _ _ _ _=>id) rfl (by kernel_rfl) rfl (ve (an sY rfl))<|ai (i:=7) (fun _ _ _ _=>id) rfl (by kernel_rfl) rfl (dm (k:=0) bj rfl rfl rfl)<|ai (i:=8) (fun _ _ _ _=>id) rfl (by kernel_rfl) rfl (ve (ad rfl))<|ai (i:=9) (fun _ _ _ _=>id) rfl (by kernel_rfl) rfl (ve (ad rfl))<|ai (i:=10) (fun _ _ _ _=>id) rfl (by kernel_rfl) rfl (ve (ad rfl))<|ai (i:=11) (fun _ _ _ _=>id) rfl (by kernel_rfl) rfl (ve (bo rfl (build_70_0_1_2_3 x41.fFrame a5 a1 a2)))<|bR (i:=3) (fun _ _ _ _=>id) H37 rfl (by kernel_rfl) pI rfl (fun _=>rfl) rfl fun x67 H38=>fQ H38 fun q76 e39 h40 H41=>ai (i:=12) (fun _ _ _ _=>id) rfl (by kernel_rfl) rfl (ve (bD oa (aW rfl (bn e39)) rfl h40))<|ai (i:=13) (fun _ _ _ _=>id) rfl (by kernel_rfl) rfl (ve (bK qg rfl rfl h31))<|bh (i:=14) (by kernel_rfl) (aI rfl rfl (dC gw rfl rfl rfl rfl rfl H41 fun _ H42=>⟨(.cons_cons _ .slnil),bf (by kernel_rfl)<|ah<|ac<|aa (ag rfl) rfl<|ae<|ao<|aw (az rfl (aE rfl)) ⟨0,rfl,H42⟩⟩)))))))))))))))) (fun k8 H9=>am rfl rfl rfl (ci (bN k8)) rfl<|am rfl rfl rfl (ci (bN k8)) rfl<|aa (bd rfl (bN k8) rfl) rfl<|aa (ad rfl) rfl<|am rfl rfl rfl rfl rfl<|am rfl rfl rfl rfl rfl<|am rfl rfl rfl rfl rfl<|aa (bd rfl rfl rfl) rfl<|ae<|lz rfl rfl<|ah<|ac<|aa (ag rfl) rfl<|ae<|ao<|aw (az rfl (aE rfl)) ⟨2,rfl,H9⟩)))
def hG (s6:Sl × Int) (Rec18:(Sl × Int)→Hp→Prop) (s17:Sl × Int) (s23:Bool):Hp→Prop:=br s23 ( hpv Tryz.prog (Instr.buildSlice gS 1 #[(0,(.agg (aR.C (⟨s6.2,s17.2⟩:aR)).toArray))]) cZ fun (v45:Sl)=>hpv Tryz.prog (Builtin.append_ #[gS,gS] gS #[(sv s17.1),(sv v45)]) cZ fun (v46:Sl)=>Rec18 (v46,(IntKind.i64.wrap (s17.2 + 1)))) ( Rec18 (s17.1,(IntKind.i64.wrap (s17.2 + 1))))
def pW (a1:Value) (Rec7:(Sl × Int)→Hp→Prop) (s6:Sl × Int) (v26:(List Value)) (Rec18:(Sl × Int)→Hp→Prop) (s17:Sl × Int):Hp→Prop:=br (decide (s17.2 < 8)) ( hpv Tryz.prog (Instr.index kT (.agg v26.toArray) (.int .i64 s17.2)) R_api_Cap fun (v30:aG)=>br (v30.fRights != 0) ( clv Tryz.prog a1 [(.agg (aR.C (⟨s6.2,s17.2⟩:aR)).toArray),(.agg (aG.C v30).toArray)] aK fun r41=>hG s6 Rec18 s17 r41) ( hG s6 Rec18 s17 false)) ( Rec7 (s17.1,(IntKind.i64.wrap (s6.2 + 1))))
def pX (a1:Value) (K:Sl→Hp→Prop) (q13:Nat × Nat) (x15:Sl) (Rec7:(Sl × Int)→Hp→Prop) (s6:Sl × Int):Hp→Prop:=br (decide (s6.2 < (x15.len:Int))) ( ld (q13.1,q13.2 + 0) cS fun x23=>ix x23 s6.2 fun q25=>hpv Tryz.prog (Instr.loadAt kT (.pointer (some ⟨q25.1,q25.2 + Int.toNat s6.2 * 32,none⟩))) encL fun (v26:(List Value))=>Lp (pW a1 Rec7 s6 v26) (s6.1,0)) ( K s6.1)
def vg (a0:Ptr) (a1:Value) (K:Sl→Hp→Prop):Hp→Prop:=br a0.isNone ( K (⟨none,0,0,none⟩:Sl)) ( nn a0 fun q13=>ld (q13.1,q13.2 + 0) cS fun x15=>Lp (pX a1 K q13 x15) ((⟨none,0,0,none⟩:Sl),0))
set_option maxRecDepth 20000 in
theorem sim_caps_Tree_all (a0:Ptr) (a1:Value) {K:Sl→Hp→Prop} {h:Hp} (H:vg a0 a1 K h):Ct Tryz.prog ka #[(pv a0),a1] h fun v h'=>∃ r,v = cZ r∧K r h':=aD [(pv a0),a1] Tryz.func170 rfl rfl rfl fun _=>ah<|ac<|aa (ag rfl) rfl<|ae<|ah<|ah<|ac<|aa (ad rfl) rfl<|aa (cA Tryz.underlying128 rfl) rfl<|ae<|aC rfl H (fun k1 H2=>ah<|ac<|aa (ag rfl) rfl<|ae<|ao<|aw (az rfl (aE rfl)) ⟨(⟨none,0,0,none⟩:Sl),rfl,H2⟩) (fun k1 H2=>av<|ah<|ac<|aa (ag rfl) rfl<|ae<|ah<|ah<|ac<|aa (ad rfl) rfl<|bQ H2 fun q13 e3 H4=>aa (aV (aW rfl (ax e3))) rfl<|aa (an gZ rfl) rfl<|ak (bg H4 pI rfl (fun _=>rfl) rfl fun x15 H5=>aa (dB rfl Tryz.underlying184 rfl) rfl<|aa (ad rfl) rfl<|ae<|aF<|bO (step:=pX a1 K q13 x15) (fun s6=>[(0,(pv a0)),(1,a1),(5,(sv s6.1)),(16,(.int .i64 (x15.len:Int))),(17,(.int .i64 s6.2))]) (fun s6=>[]) H5 (.cons rfl (.cons rfl (.cons rfl (.cons rfl (.cons rfl (.nil _)))))) .slnil (fun Rec7 s6 _ H8=>ah<|ac<|aa (cx rfl rfl) rfl<|ae<|ah<|aC rfl H8 (fun k9 H10=>av<|ah<|aF<|ah<|ac<|aa (ad rfl) rfl<|aa (ag rfl) rfl<|ae<|ah<|ac<|aa (ad (aW rfl (ax e3))) rfl<|aa (aV rfl) rfl<|aa (an gZ rfl) rfl<|ak (bg H10 pI rfl (fun _=>rfl) rfl fun x23 H11=>aa (ad rfl) rfl<|cw H11 fun q25 e12 h13 H14=>aa (bD oa (aW rfl (bn e12)) rfl h13) rfl<|ak (be H14 (x_load rfl) rfl fun v26 _ H16=>aa (ad rfl) rfl<|ae<|aF<|bO (step:=pW a1 Rec7 s6 v26) (fun s17=>[(0,(pv a0)),(1,a1),(5,(sv s17.1)),(6,(.int .i64 s6.2)),(16,(.int .i64 (x15.len:Int))),(17,(.int .i64 s6.2)),(26,(.agg v26.toArray)),(27,(.int .i64 s17.2))]) (fun s17=>[]) H16 (.cons rfl (.cons rfl (.cons rfl (.cons rfl (.cons rfl (.cons rfl (.cons rfl (.cons rfl (.nil _))))))))) .slnil (fun Rec18 s17 _ H19=>ah<|ac<|aa (cx rfl rfl) rfl<|ae<|ah<|aC rfl H19 (fun k20 H21=>av<|ah<|aF<|ah<|ac<|aa (ad rfl) rfl<|ak (be H21 (x_index rfl rfl) rfl fun v30 _ H22=>ak (aY (l:=(aG.C (⟨0,0,0,0⟩:aG))) im rfl rfl fun b8=>aa (ag rfl) rfl<|ak (aZ (k:=0) (vs:=(aG.C v30)) gw rfl rfl rfl rfl rfl rfl rfl<|ae<|ah<|ac<|aa (ad rfl) rfl<|aa (ad rfl) rfl<|aa (bo rfl (uG s6.2 s17.2)) rfl<|ak (aY (l:=(aR.C (⟨0,0⟩:aR))) zero_208 rfl rfl fun b9=>ak (aZ (k:=0) (vs:=(aR.C (⟨s6.2,s17.2⟩:aR))) inf_208 rfl rfl rfl rfl rfl rfl rfl<|ae<|eB (hG s6 Rec18 s17) (fun s23=>[(0,(pv a0)),(1,a1),(5,(sv s17.1)),(6,(.int .i64 s6.2)),(9,(.pointer (some ⟨b9,0,none⟩))),(16,(.int .i64 (x15.len:Int))),(17,(.int .i64 s6.2)),(26,(.agg v26.toArray)),(27,(.int .i64 s17.2)),(42,(.bool s23))]) (fun s23=>[bx b9 208 (aR.C (⟨s6.2,s17.2⟩:aR))]) ( ac<|aa (an gF rfl) rfl<|bw (bm (k:=1) bj rfl rfl rfl) rfl<|aa (qk rfl rfl) rfl<|aa (ad rfl) rfl<|aj rfl rfl rfl (aA _) (fun g29=>wv (ad rfl)) rfl<|aj rfl rfl rfl (aA _) (fun g30=>cv (bP (k:=0) ag_208 rfl rfl rfl rfl)) rfl<|aj rfl rfl rfl (aA _) (fun g31=>cv (bP (k:=1) ag_70 rfl rfl rfl rfl)) rfl<|cc H22 (fun k33 H34=>aL rfl rfl rfl (congrArg Value.bool k33) (to_clv H34 (aJ rfl k33) (ba (aJ rfl k33) (ba (aJ rfl k33) bY)) rfl fun r41 _ H35=>aa (bd rfl k33 rfl) rfl<|ae<|cF r41 H35 (.cons rfl (.cons rfl (.cons rfl (.cons rfl (.cons rfl (.cons rfl (.cons rfl (.cons rfl (.cons rfl (.cons rfl (.nil _))))))))))) (.cons_cons _ (.cons _ .slnil)))) (fun k33 H34=>am rfl rfl rfl (bc k33) rfl<|aa (ay rfl k33 rfl) rfl<|ae<|cF false H34 (.cons rfl (.cons rfl (.cons rfl (.cons rfl (.cons rfl (.cons rfl (.cons rfl (.cons rfl (.cons rfl (.cons rfl (.nil _))))))))))) (.cons_cons _ (.cons _ .slnil)))) (fun s23 _ H24=>aC rfl H24 (fun k25 H26=>ac<|aa (ad rfl) rfl<|bw (bP (k:=0) ag_208 rfl rfl rfl rfl) rfl<|ak (be H26 (bJ (vs:=[(.agg (aR.C (⟨s6.2,s17.2⟩:aR)).toArray)]) rfl) rfl fun v45 _ H27=>ak (be H27 (dK rfl rfl) rfl fun v46 _ H28=>aa (ag rfl) rfl<|ae<|ac<|aa (bI rfl rfl) rfl<|aa (ad rfl) rfl<|ae<|cT (v46,(IntKind.i64.wrap (s17.2 + 1))) H28 (.cons rfl (.cons rfl (.cons rfl (.cons rfl (.cons rfl (.cons rfl (.cons rfl (.cons rfl (.nil _))))))))) (.cons _ .slnil)))) (fun k25 H26=>av<|ac<|aa (bI rfl rfl) rfl<|aa (ad rfl) rfl<|ae<|cT (s17.1,(IntKind.i64.wrap (s17.2 + 1))) H26 (.cons rfl (.cons rfl (.cons rfl (.cons rfl (.cons rfl (.cons rfl (.cons rfl (.cons rfl (.nil _))))))))) (.cons _ .slnil))))))))) (fun k20 H21=>bA<|ac<|aa (bI rfl rfl) rfl<|aa (ad rfl) rfl<|ae<|cT (s17.1,(IntKind.i64.wrap (s6.2 + 1))) H21 (.cons rfl (.cons rfl (.cons rfl (.cons rfl (.cons rfl (.nil _)))))) .slnil))))) (fun k9 H10=>bA<|ah<|ac<|aa (ad rfl) rfl<|aa (ag rfl) rfl<|ae<|ao<|aw (az rfl (aE rfl)) ⟨s6.1,rfl,H10⟩))))
def tT (a0:Ptr) (a1:Int) (a2:Int) (K:Int→Hp→Prop):Hp→Prop:=br a0.isNone ( K 10) ( cl Tryz.prog ie [(pv a0),(.int .i64 a1),(.int .i64 a2)] aK fun r14=>br (!r14) ( K 2) ( nn a0 fun q18=>ld (q18.1,q18.2 + 0) cS fun x20=>ix x20 a1 fun q23=>gd (0 ≤ a2∧a2 < 8)<|ld (q23.1,q23.2 + Int.toNat a1 * 32 + Int.toNat a2 * 4 + 1) (cI .i64) fun x26=>br (x26 == 0) ( K 3) ( K 0)))
set_option maxRecDepth 20000 in
theorem sim_caps_Tree_look (a0:Ptr) (a1:Int) (a2:Int) {K:Int→Hp→Prop} {h:Hp} (H:tT a0 a1 a2 K h):Ct Tryz.prog lU #[(pv a0),(.int .i64 a1),(.int .i64 a2)] h fun v h'=>∃ r,v = bv r∧K r h':=aD [(pv a0),(.int .i64 a1),(.int .i64 a2)] Tryz.func184 rfl rfl rfl fun _=>ah<|ac<|aa (ag rfl) rfl<|ae<|ah<|aF<|ah<|ac<|aa (ad rfl) rfl<|aa (cA Tryz.underlying128 rfl) rfl<|aa (ag rfl) rfl<|ae<|aC rfl H (fun k1 H2=>ah<|ac<|aa (ag rfl) rfl<|ae<|ao<|aw (az rfl (aE rfl)) ⟨10,rfl,H2⟩) (fun k1 H2=>ah<|ac<|aa (ad rfl) rfl<|aa (ad rfl) rfl<|aa (ad rfl) rfl<|ak (aB H2 en_162 rfl rfl fun r14 _ H3=>aa (cD rfl) rfl<|aa (ag rfl) rfl<|ae<|aC rfl H3 (fun k4 H5=>ah<|ac<|aa (ag rfl) rfl<|ae<|ao<|aw (az rfl (aE rfl)) ⟨2,rfl,H5⟩) (fun k4 H5=>ah<|ac<|aa (ad rfl) rfl<|bQ H5 fun q18 e6 H7=>aa (aV (aW rfl (ax e6))) rfl<|aa (an gZ rfl) rfl<|ak (bg H7 pI rfl (fun _=>rfl) rfl fun x20 H8=>aa (ad rfl) rfl<|aa (ad rfl) rfl<|cw H8 fun q23 e9 h10 H11=>aa (bD oa (aW rfl (bn e9)) rfl h10) rfl<|je H11 fun h12 H13=>aa (bK qg rfl rfl h12) rfl<|aa (an gF rfl) rfl<|ak (bg H13 bj rfl (fun _=>rfl) rfl fun x26 H14=>aa (bV rfl rfl) rfl<|aa (ag rfl) rfl<|ae<|aC rfl H14 (fun k15 H16=>ah<|ac<|aa (ag rfl) rfl<|ae<|ao<|aw (az rfl (aE rfl)) ⟨3,rfl,H16⟩) (fun k15 H16=>av<|ah<|ac<|aa (ag rfl) rfl<|ae<|ao<|aw (az rfl (aE rfl)) ⟨0,rfl,H16⟩))))))
def lB (a0:Ptr) (a1:Sl) (K:Sl→Hp→Prop) (Rec2:Int→Hp→Prop) (s1:Int):Hp→Prop:=br (decide (s1 < (a1.len:Int))) ( ix a1 s1 fun q11=>ld (q11.1,q11.2 + Int.toNat s1 * 2) aR.C fun x12=>nn a0 fun q14=>ld (q14.1,q14.2 + 0) cS fun x16=>ix x16 x12.fEnv fun q22=>gd (0 ≤ x12.fSlot∧x12.fSlot < 8)<|st (q22.1,q22.2 + Int.toNat x12.fEnv * 32 + Int.toNat x12.fSlot * 4) (aG.C (⟨0,0,0,0⟩:aG))<|Rec2 (IntKind.i64.wrap (s1 + 1))) ( K a1)
def qB (a0:Ptr) (a1:Sl) (K:Sl→Hp→Prop):Hp→Prop:=Lp (lB a0 a1 K) 0
set_option maxRecDepth 20000 in
theorem sim_caps_Tree_empties (a0:Ptr) (a1:Sl) {K:Sl→Hp→Prop} {h:Hp} (H:qB a0 a1 K h):Ct Tryz.prog gC #[(pv a0),(sv a1)] h fun v h'=>∃ r,v = cZ r∧K r h':=aD [(pv a0),(sv a1)] Tryz.func185 rfl rfl rfl fun _=>ah<|ac<|aa (ag rfl) rfl<|ae<|ah<|ah<|ac<|aa (ad rfl) rfl<|aa (dB rfl Tryz.underlying173 rfl) rfl<|aa (ad rfl) rfl<|ae<|aF<|bO (step:=lB a0 a1 K) (fun s1=>[(0,(pv a0)),(1,(sv a1)),(7,(sv a1)),(8,(.int .i64 (a1.len:Int))),(9,(.int .i64 s1))]) (fun s1=>[]) H (.cons rfl (.cons rfl (.cons rfl (.cons rfl (.cons rfl (.nil _)))))) .slnil (fun Rec2 s1 _ H3=>ah<|ac<|aa (cx rfl rfl) rfl<|ae<|ah<|aC rfl H3 (fun k4 H5=>av<|ah<|aF<|ah<|ac<|cw H5 fun q11 e6 h7 H8=>aa (bD slc_173 (aW rfl (bn e6)) rfl h7) rfl<|ak (gI H8 ag_208 rfl (fun _=>rfl) rfl fun x12 H9=>ak (aY (l:=(aR.C (⟨0,0⟩:aR))) zero_208 rfl rfl fun b6=>ak (aZ (k:=0) (vs:=(aR.C x12)) inf_208 rfl rfl rfl rfl rfl rfl rfl<|ae<|bC (n:=12) [bx b6 208 (aR.C x12)] cy rfl (.cons_cons _ .slnil)<|ai (i:=0) (fun _ _ _ _=>id) rfl (by kernel_rfl) rfl (ve (ad rfl))<|ai (i:=4) (fun _ _ _ _=>id) rfl (by kernel_rfl) rfl (ve (an fld_208_0 rfl))<|ai (i:=5) (fun _ _ _ _=>id) rfl (by kernel_rfl) rfl (dm (k:=0) bj rfl rfl rfl)<|ai (i:=6) (fun _ _ _ _=>id) rfl (by kernel_rfl) rfl (ve (an fld_208_1 rfl))<|ai (i:=7) (fun _ _ _ _=>id) rfl (by kernel_rfl) rfl (dm (k:=0) bj rfl rfl rfl)<|ai (i:=8) (fun _ _ _ _=>id) rfl (by kernel_rfl) rfl (ve (bo (vs:=[]) rfl build_70))<|gO H9 fun q14 e10 H11=>ai (i:=1) (fun _ _ _ _=>id) rfl (by kernel_rfl) rfl (ve (aV (aW rfl (ax e10))))<|ai (i:=2) (fun _ _ _ _=>id) rfl (by kernel_rfl) rfl (ve (an gZ rfl))<|bR (i:=3) (fun _ _ _ _=>id) H11 rfl (by kernel_rfl) pI rfl (fun _=>rfl) rfl fun x16 H12=>fQ H12 fun q22 e13 h14 H15=>ai (i:=9) (fun _ _ _ _=>id) rfl (by kernel_rfl) rfl (ve (bD oa (aW rfl (bn e13)) rfl h14))<|eva_gd H15 fun h16 H17=>ai (i:=10) (fun _ _ _ _=>id) rfl (by kernel_rfl) rfl (ve (bK qg rfl rfl h16))<|bh (i:=11) (by kernel_rfl) (aI rfl rfl (dC gw rfl rfl rfl rfl rfl H17 fun _ H18=>⟨(.cons_cons _ .slnil),bf (by kernel_rfl)<|ac<|aa (bI rfl rfl) rfl<|aa (ad rfl) rfl<|ae<|cT (IntKind.i64.wrap (s1 + 1)) H18 (.cons rfl (.cons rfl (.cons rfl (.cons rfl (.cons rfl (.nil _)))))) (.cons _ .slnil)⟩)))))) (fun k4 H5=>bA<|ah<|ac<|aa (ad rfl) rfl<|aa (ag rfl) rfl<|ae<|ao<|aw (az rfl (aE rfl)) ⟨a1,rfl,H5⟩))
def nq (a0:Ptr) (a2:aR) (K:Bool→Hp→Prop) (Rec2:aG→Hp→Prop) (s1:aG):Hp→Prop:=br ((s1.fRights != 0) && (decide (s1.fEnv ≥ 0))) ( br ((s1.fEnv == a2.fEnv) && (s1.fSlot == a2.fSlot)) ( K true) ( nn a0 fun q28=>ld (q28.1,q28.2 + 0) cS fun x30=>ix x30 s1.fEnv fun q35=>gd (0 ≤ s1.fSlot∧s1.fSlot < 8)<|ld (q35.1,q35.2 + Int.toNat s1.fEnv * 32 + Int.toNat s1.fSlot * 4) aG.C fun x37=>Rec2 x37)) ( K false)
def sI (a0:Ptr) (a1:aG) (a2:aR) (K:Bool→Hp→Prop):Hp→Prop:=Lp (nq a0 a2 K) a1
set_option maxRecDepth 20000 in
theorem sim_caps_Tree_under (a0:Ptr) (a1:aG) (a2:aR) {K:Bool→Hp→Prop} {h:Hp} (H:sI a0 a1 a2 K h):Ct Tryz.prog kN #[(pv a0),(.agg (aG.C a1).toArray),(.agg (aR.C a2).toArray)] h fun v h'=>∃ r,v = aK r∧K r h':=aD [(pv a0),(.agg (aG.C a1).toArray),(.agg (aR.C a2).toArray)] Tryz.func172 rfl rfl rfl fun _=>ah<|ac<|ak (cC (l:=(aG.C a1)) rfl rfl rfl fun b4=>ak (cC (l:=(aR.C a2)) rfl rfl rfl fun b5=>aa (ag rfl) rfl<|ae<|ah<|aF<|bO (step:=nq a0 a2 K) (fun s1=>[(0,(pv a0)),(4,(.pointer (some ⟨b4,0,none⟩))),(5,(.pointer (some ⟨b5,0,none⟩)))]) (fun s1=>[bx b5 208 (aR.C a2),bx b4 70 (aG.C s1)]) H (.cons rfl (.cons rfl (.cons rfl (.nil _)))) (.cons_cons _ (.cons_cons _ .slnil)) (fun Rec2 s1 _ H3=>ah<|ah<|ac<|aa (an gF rfl) rfl<|bw (bm (k:=1) bj rfl rfl rfl) rfl<|aa (qk rfl rfl) rfl<|aa (ad rfl) rfl<|aj rfl rfl rfl (aA _) (fun g4=>wv (an qI rfl)) rfl<|aj rfl rfl rfl (aA _) (fun g5=>cv (bm (k:=1) bj (aJ rfl g5) rfl rfl)) rfl<|aj rfl rfl rfl (aA _) (fun g6=>wv (gz (aJ rfl g6) rfl)) rfl<|aa (bU rfl rfl) rfl<|ae<|aC rfl H3 (fun k7 H8=>av<|aF<|ah<|ah<|ac<|aa (an qI rfl) rfl<|bw (bm (k:=1) bj rfl rfl rfl) rfl<|aa (an fld_208_0 rfl) rfl<|bw (bm (k:=0) bj rfl rfl rfl) rfl<|aa (bV rfl rfl) rfl<|aa (ad rfl) rfl<|aj rfl rfl rfl (aA _) (fun g9=>wv (an fld_70_3 rfl)) rfl<|aj rfl rfl rfl (aA _) (fun g10=>cv (bm (k:=1) bj (aJ rfl g10) rfl rfl)) rfl<|aj rfl rfl rfl (aA _) (fun g11=>wv (an fld_208_1 rfl)) rfl<|aj rfl rfl rfl (aA _) (fun g12=>cv (bm (k:=0) bj (aJ rfl g12) rfl rfl)) rfl<|aj rfl rfl rfl (aA _) (fun g13=>wv (bV (aJ rfl g13) (aJ rfl g13))) rfl<|aa (bU rfl rfl) rfl<|ae<|aC rfl H8 (fun k14 H15=>ah<|ac<|aa (ag rfl) rfl<|ae<|ao<|aw (az rfl (aE rfl)) ⟨true,rfl,H15⟩) (fun k14 H15=>av<|bC (n:=12) [] cy rfl (.cons _ (.cons _ .slnil))<|ai (i:=0) (fun _ _ _ _=>id) rfl (by kernel_rfl) rfl (ve (ad rfl))<|ai (i:=4) (fun _ _ _ _=>id) rfl (by kernel_rfl) rfl (ve (an qI rfl))<|ai (i:=6) (fun _ _ _ _=>id) rfl (by kernel_rfl) rfl (ve (an fld_70_3 rfl))<|gO H15 fun q28 e16 H17=>ai (i:=1) (fun _ _ _ _=>id) rfl (by kernel_rfl) rfl (ve (aV (aW rfl (ax e16))))<|ai (i:=2) (fun _ _ _ _=>id) rfl (by kernel_rfl) rfl (ve (an gZ rfl))<|bR (i:=3) (fun _ _ _ _=>id) H17 rfl (by kernel_rfl) pI rfl (fun _=>rfl) rfl fun x30 H18=>eva_load (i:=5) (fun _ _ _ _=>id) rfl (by kernel_rfl) rfl (bm (k:=1) bj rfl rfl rfl)<|fQ H18 fun q35 e19 h20 H21=>ai (i:=8) (fun _ _ _ _=>id) rfl (by kernel_rfl) rfl (ve (bD oa (aW rfl (bn e19)) rfl h20))<|eva_load (i:=7) (fun _ _ _ _=>id) rfl (by kernel_rfl) rfl (bm (k:=1) bj rfl rfl rfl)<|eva_gd H21 fun h22 H23=>ai (i:=9) (fun _ _ _ _=>id) rfl (by kernel_rfl) rfl (ve (bK qg rfl rfl h22))<|rS (i:=10) (fun _ _ _ _=>id) H23 rfl (by kernel_rfl) ag_70 rfl (fun _=>rfl) rfl fun x37 H24=>bh (i:=11) (by kernel_rfl) (aI rfl rfl (aZ (k:=1) (vs:=(aG.C x37)) gw rfl rfl rfl rfl rfl rfl rfl<|⟨(.cons _ (.cons _ .slnil)),bf (by kernel_rfl)<|cT x37 H24 (.cons rfl (.cons rfl (.cons rfl (.nil _)))) (.cons_cons _ (.cons_cons _ .slnil))⟩)))) (fun k7 H8=>bA<|ah<|ac<|aa (ag rfl) rfl<|ae<|ao<|aw (az rfl (aE rfl)) ⟨false,rfl,H8⟩))))
def qC (a0:aR) (a1:aG) (c0:Nat) (c1:Nat) (K:Bool→Hp→Prop):Hp→Prop:=ld (c0,0) aR.C fun x8=>br (!(aR.eqb a0 x8)) ( ld (c1,0) cP fun x11=>ld (c0,0) aR.C fun x13=>cl Tryz.prog kN [(pv x11),(.agg (aG.C a1).toArray),(.agg (aR.C x13).toArray)] aK fun r14=>K r14) ( K true)
set_option maxRecDepth 20000 in
theorem sim_caps_Tree_Drop_c1 (a0:aR) (a1:aG) (c0:Nat) (c1:Nat) {K:Bool→Hp→Prop} {h:Hp} (H:qC a0 a1 c0 c1 K h):Ct Tryz.prog gD #[(.agg (aR.C a0).toArray),(.agg (aG.C a1).toArray),(.pointer (some ⟨c0,0,none⟩)),(.pointer (some ⟨c1,0,none⟩))] h fun v h'=>∃ r,v = aK r∧K r h':=aD [(.agg (aR.C a0).toArray),(.agg (aG.C a1).toArray),(.pointer (some ⟨c0,0,none⟩)),(.pointer (some ⟨c1,0,none⟩))] Tryz.func186 rfl rfl rfl fun _=>ah<|ac<|ak (cC (l:=(aR.C a0)) rfl rfl rfl fun b4=>ak (cC (l:=(aG.C a1)) rfl rfl rfl fun b5=>aa (ag rfl) rfl<|ae<|ah<|ac<|bw (bP (k:=1) ag_208 rfl rfl rfl rfl) rfl<|ak (gI H ag_208 rfl (fun _=>rfl) rfl fun x8 H1=>aa (v_eqA eqg_208 (eqr_208 9998 _ _) rfl rfl) rfl<|aa (ad rfl) rfl<|cc H1 (fun k3 H4=>aL rfl rfl rfl (congrArg Value.bool (cm k3)) (bg H4 hY rfl (fun _=>rfl) rfl fun x11 H5=>aL rfl rfl rfl (congrArg Value.bool (cm k3)) (aQ (cv (bP (k:=0) ag_70 rfl rfl rfl rfl)) rfl<|aL rfl rfl rfl (congrArg Value.bool (cm k3)) (gI H5 ag_208 rfl (fun _=>rfl) rfl fun x13 H6=>aL rfl rfl rfl (congrArg Value.bool (cm k3)) (aB H6 en_172 rfl rfl fun r14 _ H7=>aa (ay rfl (cm k3) rfl) rfl<|aa (ag rfl) rfl<|ae<|ao<|aw (az rfl (aE rfl)) ⟨r14,rfl,H7⟩))))) (fun k3 H4=>am rfl rfl rfl (ci (bN k3)) rfl<|am rfl rfl rfl (ci (bN k3)) rfl<|am rfl rfl rfl (ci (bN k3)) rfl<|am rfl rfl rfl (ci (bN k3)) rfl<|aa (bd rfl (bN k3) rfl) rfl<|aa (ag rfl) rfl<|ae<|ao<|aw (az rfl (aE rfl)) ⟨true,rfl,H4⟩))))
def tV (a0:Ptr) (a1:Int) (a2:Int) (K:(Sl × Int)→Hp→Prop):Hp→Prop:=nw rG [pv a0] fun b3=>ld (b3,0) cP fun x10=>cl Tryz.prog lU [(pv x10),(.int .i64 a1),(.int .i64 a2)] bv fun r13=>br (r13 != 0) ( K ((⟨none,0,0,none⟩:Sl),r13)) ( nw rF (aR.C (⟨0,0⟩:aR)) fun b9=>st (b9,0) (aR.C (⟨a1,a2⟩:aR))<|ld (b3,0) cP fun x21=>both ( ld (b3,0) cP fun x20=>cl Tryz.prog ka [(pv x21),(.func (.func gD) #[] #[(.pointer (some ⟨b9,0,none⟩)),(.pointer (some ⟨b3,0,none⟩))])] cZ fun r23=>cl Tryz.prog gC [(pv x20),(sv r23)] cZ fun r24=>K (r24,0)) ( cl Tryz.prog ka [(pv x21),(.func (.func gD) #[] #[(.pointer (some ⟨b9,0,none⟩)),(.pointer (some ⟨b3,0,none⟩))])] cZ fun r23=>ld (b3,0) cP fun x20=>cl Tryz.prog gC [(pv x20),(sv r23)] cZ fun r24=>K (r24,0)))
set_option maxRecDepth 20000 in
theorem sim_caps_Tree_Drop (a0:Ptr) (a1:Int) (a2:Int) {K:(Sl × Int)→Hp→Prop} {h:Hp} (H:tV a0 a1 a2 K h):Ct Tryz.prog lV #[(pv a0),(.int .i64 a1),(.int .i64 a2)] h fun v h'=>∃ r,v = dA r∧K r h':=aD [(pv a0),(.int .i64 a1),(.int .i64 a2)] Tryz.func157 rfl rfl rfl fun _=>ah<|ac<|ak (hH rfl rfl rfl H fun b3 _ H1=>aa (ag rfl) rfl<|aa (ag rfl) rfl<|ae<|ah<|ah<|ac<|ak (bg H1 hY rfl (fun _=>rfl) rfl fun x10 H2=>aa (ad rfl) rfl<|aa (ad rfl) rfl<|ak (aB H2 en_184 rfl rfl fun r13 _ H3=>aa (ag rfl) rfl<|ae<|ah<|ac<|aa (ad rfl) rfl<|aa (qk rfl rfl) rfl<|ae<|aC rfl H3 (fun k4 H5=>ah<|ac<|aa (ad rfl) rfl<|aa (ag rfl) rfl<|aa (ag rfl) rfl<|ae<|ao<|aw (ce rfl (aE rfl) (aE rfl)) ⟨((⟨none,0,0,none⟩:Sl),r13),rfl,H5⟩) (fun k4 H5=>av<|ah<|ac<|aa (ad rfl) rfl<|aa (ad rfl) rfl<|aa (bo rfl (uG a1 a2)) rfl<|ak (to_alloc zero_208 rfl rfl H5 fun b9 _ H6=>ak (dC inf_208 rfl rfl rfl rfl rfl H6 fun _ H7=>ae<|ah<|bC (n:=7) [] cy rfl .slnil<|ai (i:=2) (fun _ _ _ _=>id) rfl (by kernel_rfl) rfl (ve (v_func rfl rfl))<|bR (i:=1) (fun _ _ _ _=>id) H7 rfl (by kernel_rfl) hY rfl (fun _=>rfl) rfl fun x21 H8=>jA H8 fun H9_1 H9_2=>jg (i:=0) (j:=3) (by kernel_rfl) (aI rfl rfl (bg H9_1 hY rfl (fun _=>rfl) rfl fun x20 H10=>⟨.slnil,bh (i:=3) (by kernel_rfl) (aI rfl rfl (aB H10 en_170 rfl rfl fun r23 _ H11=>⟨.slnil,bh (i:=4) (by kernel_rfl) (aI rfl rfl (aB H11 en_185 rfl rfl fun r24 _ H12=>⟨.slnil,ai (i:=5) (fun _ _ _ _=>id) rfl (by kernel_rfl) rfl (ve (ag rfl))<|ai (i:=6) (fun _ _ _ _=>id) rfl (by kernel_rfl) rfl (ve (ag rfl))<|bf (by kernel_rfl)<|ao<|aw (ce rfl (aE rfl) (aE rfl)) ⟨(r24,0),rfl,H12⟩⟩))⟩))⟩)) (aI rfl rfl (aB H9_2 en_170 rfl rfl fun r23 _ H10=>⟨.slnil,bR (i:=0) (fun _ _ _ _=>id) H10 rfl (by kernel_rfl) hY rfl (fun _=>rfl) rfl fun x20 H11=>bh (i:=4) (by kernel_rfl) (aI rfl rfl (aB H11 en_185 rfl rfl fun r24 _ H12=>⟨.slnil,ai (i:=5) (fun _ _ _ _=>id) rfl (by kernel_rfl) rfl (ve (ag rfl))<|ai (i:=6) (fun _ _ _ _=>id) rfl (by kernel_rfl) rfl (ve (ag rfl))<|bf (by kernel_rfl)<|ao<|aw (ce rfl (aE rfl) (aE rfl)) ⟨(r24,0),rfl,H12⟩⟩))⟩))))))))
def pt (a0:aR) (a1:aG) (c0:Nat) (c1:Nat) (c2:Nat) (K:Bool→Hp→Prop):Hp→Prop:=ld (c0,0) cP fun x8=>ld (c1,0) (cI .i64) fun x10=>ld (c2,0) (cI .i64) fun x11=>cl Tryz.prog kN [(pv x8),(.agg (aG.C a1).toArray),(.agg (aR.C (⟨x10,x11⟩:aR)).toArray)] aK fun r13=>K r13
set_option maxRecDepth 20000 in
theorem wy (a0:aR) (a1:aG) (c0:Nat) (c1:Nat) (c2:Nat) {K:Bool→Hp→Prop} {h:Hp} (H:pt a0 a1 c0 c1 c2 K h):Ct Tryz.prog lv #[(.agg (aR.C a0).toArray),(.agg (aG.C a1).toArray),(.pointer (some ⟨c0,0,none⟩)),(.pointer (some ⟨c1,0,none⟩)),(.pointer (some ⟨c2,0,none⟩))] h fun v h'=>∃ r,v = aK r∧K r h':=aD [(.agg (aR.C a0).toArray),(.agg (aG.C a1).toArray),(.pointer (some ⟨c0,0,none⟩)),(.pointer (some ⟨c1,0,none⟩)),(.pointer (some ⟨c2,0,none⟩))] Tryz.func171 rfl rfl rfl fun _=>ah<|ac<|ak (cC (l:=(aR.C a0)) rfl rfl rfl fun b5=>ak (cC (l:=(aG.C a1)) rfl rfl rfl fun b6=>aa (ag rfl) rfl<|ae<|ah<|ac<|ak (bg H hY rfl (fun _=>rfl) rfl fun x8 H1=>bw (bP (k:=0) ag_70 rfl rfl rfl rfl) rfl<|ak (bg H1 bj rfl (fun _=>rfl) rfl fun x10 H2=>ak (bg H2 bj rfl (fun _=>rfl) rfl fun x11 H3=>aa (bo rfl (uG x10 x11)) rfl<|ak (aB H3 en_172 rfl rfl fun r13 _ H4=>aa (ag rfl) rfl<|ae<|ao<|aw (az rfl (aE rfl)) ⟨r13,rfl,H4⟩))))))
def sJ (a0:Ptr) (a1:Int) (a2:Int) (K:Sl→Hp→Prop):Hp→Prop:=nw rG [pv a0] fun b3=>nw kH [.int .i64 a1] fun b4=>nw kH [.int .i64 a2] fun b5=>ld (b3,0) cP fun x7=>cl Tryz.prog ka [(pv x7),(.func (.func lv) #[] #[(.pointer (some ⟨b3,0,none⟩)),(.pointer (some ⟨b4,0,none⟩)),(.pointer (some ⟨b5,0,none⟩))])] cZ fun r9=>K r9
set_option maxRecDepth 20000 in
theorem sim_caps_Tree_Below (a0:Ptr) (a1:Int) (a2:Int) {K:Sl→Hp→Prop} {h:Hp} (H:sJ a0 a1 a2 K h):Ct Tryz.prog kO #[(pv a0),(.int .i64 a1),(.int .i64 a2)] h fun v h'=>∃ r,v = cZ r∧K r h':=aD [(pv a0),(.int .i64 a1),(.int .i64 a2)] Tryz.func131 rfl rfl rfl fun _=>ah<|ac<|ak (hH rfl rfl rfl H fun b3 _ H1=>ak (hH rfl rfl rfl H1 fun b4 _ H2=>ak (hH rfl rfl rfl H2 fun b5 _ H3=>aa (ag rfl) rfl<|ae<|ah<|ac<|ak (bg H3 hY rfl (fun _=>rfl) rfl fun x7 H4=>aa (v_func rfl rfl) rfl<|ak (aB H4 en_170 rfl rfl fun r9 _ H5=>aa (ag rfl) rfl<|ae<|ao<|aw (az rfl (aE rfl)) ⟨r9,rfl,H5⟩)))))
def rB (a0:Ptr) (a1:Int) (a2:Int) (K:(Sl × Int)→Hp→Prop):Hp→Prop:=cl Tryz.prog lU [(pv a0),(.int .i64 a1),(.int .i64 a2)] bv fun r12=>br (r12 != 0) ( K ((⟨none,0,0,none⟩:Sl),r12)) ( cl Tryz.prog kO [(pv a0),(.int .i64 a1),(.int .i64 a2)] cZ fun r20=>cl Tryz.prog gC [(pv a0),(sv r20)] cZ fun r21=>K (r21,0))
set_option maxRecDepth 20000 in
theorem sim_caps_Tree_Revoke (a0:Ptr) (a1:Int) (a2:Int) {K:(Sl × Int)→Hp→Prop} {h:Hp} (H:rB a0 a1 a2 K h):Ct Tryz.prog ni #[(pv a0),(.int .i64 a1),(.int .i64 a2)] h fun v h'=>∃ r,v = dA r∧K r h':=aD [(pv a0),(.int .i64 a1),(.int .i64 a2)] Tryz.func158 rfl rfl rfl fun _=>ah<|ac<|aa (ag rfl) rfl<|aa (ag rfl) rfl<|ae<|ah<|ah<|ac<|aa (ad rfl) rfl<|aa (ad rfl) rfl<|aa (ad rfl) rfl<|ak (aB H en_184 rfl rfl fun r12 _ H1=>aa (ag rfl) rfl<|ae<|ah<|ac<|aa (ad rfl) rfl<|aa (qk rfl rfl) rfl<|ae<|aC rfl H1 (fun k2 H3=>ah<|ac<|aa (ad rfl) rfl<|aa (ag rfl) rfl<|aa (ag rfl) rfl<|ae<|ao<|aw (ce rfl (aE rfl) (aE rfl)) ⟨((⟨none,0,0,none⟩:Sl),r12),rfl,H3⟩) (fun k2 H3=>av<|ah<|ac<|aa (ad rfl) rfl<|aa (ad rfl) rfl<|aa (ad rfl) rfl<|aa (ad rfl) rfl<|ak (aB H3 en_131 rfl rfl fun r20 _ H4=>ak (aB H4 en_185 rfl rfl fun r21 _ H5=>aa (ag rfl) rfl<|aa (ag rfl) rfl<|ae<|ao<|aw (ce rfl (aE rfl) (aE rfl)) ⟨(r21,0),rfl,H5⟩))))
end Go.Proofs.YtniiiakkdoiaiaaGreatDoor
