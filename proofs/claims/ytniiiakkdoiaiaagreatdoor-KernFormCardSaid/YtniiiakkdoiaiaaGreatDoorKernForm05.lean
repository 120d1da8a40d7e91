/- Part of the proof of: The law KernForm returns true for every input, and leaves its arguments as they were. -/
import Derived.Test.YtniiiakkdoiaiaaGreatDoorKernForm04
set_option linter.all false
namespace Go.Proofs.YtniiiakkdoiaiaaGreatDoor
open Go Mb
namespace Mb
def SpV {τ:Type} (P:Program) (c:Value) (args:List Value) (enc:τ→Value) (pre:List As) (post:τ→As):Prop :=
  ∃ f fi ca,c = .func (.func f) fi ca∧aW P f∧∀ h,aQ pre h→Ct P f ((fi++args.toArray)++ca) h fun v h'=>∃ r,v = enc r∧post r h'
theorem star_rot {m:List As} {B:As} {h:Hp} (s:aQ (m++[B]) h):aQ (B::m) h:=ko (List.perm_append_singleton _ _) s
theorem star_rot' {m:List As} {B:As} {h:Hp} (s:aQ (B::m) h):aQ (m++[B]) h:=ko (List.perm_append_singleton _ _).symm s
theorem clv_t {τ:Type} {P:Program} {c:Value} {args:List Value} {enc:τ→Value} {pre:List As} {B:As} {post:τ→As} {K:τ→Hp→Prop} {h:Hp} (H:SpV P c args enc pre post) (s:aQ (B::pre) h)
    (k:∀ r h',aQ [post r,B] h'→K r h'):clv P c args enc K h:=by
  obtain ⟨f,fi,ca,rfl,he,H⟩:=H
  obtain ⟨h1,h2,d,rfl,s1,s2⟩:=eH.1 (star_rot' s)
  exact ⟨f,fi,ca,rfl,he,(H h1 s1).frame_mono d rfl fun v h' ⟨r,hv,q⟩ dj=>⟨r,hv,k r _ ⟨h',h2,dj,rfl,q,s2⟩⟩⟩
end Mb
abbrev Cap:=aH
abbrev dm:=aR
abbrev rU:Cap:=⟨0,0,0,0⟩
theorem qg (c:Cap):c.C.length = 4:=rfl
theorem vh (c:dm):c.C.length = 2:=rfl
theorem place_one (c:dm):dO c.C = true:=rfl
instance:DecidableEq dm:=fun a b=>decidable_of_iff (a.fEnv = b.fEnv∧a.fSlot = b.fSlot) ⟨fun h=>by cases a; cases b; simp_all,fun h=>by subst h; exact ⟨rfl,rfl⟩⟩
def enc8 (r:List Cap):List Value:=((r++List.replicate 8 rU).take 8).flatMap aH.C
theorem enc8_len (r:List Cap):(enc8 r).length = 32:=by unfold enc8; rw [eq qg]; simp
theorem enc8_eq {r:List Cap} (h:r.length = 8):enc8 r = r.flatMap aH.C:=by
  unfold enc8; rw [List.take_append_of_le_length (by omega),← h,List.take_length]
namespace Caps
abbrev T:=List (List Cap)
def has (t:T) (e s:Int):Bool:=decide (0 ≤ e∧e < t.length∧0 ≤ s∧s < 8)
def get (t:T) (e s:Int):Cap:=(t.getD e.toNat []).getD s.toNat rU
def put (t:T) (e s:Int) (c:Cap):T:=t.set e.toNat ((t.getD e.toNat []).set s.toNat c)
def at_ (t:T) (e s:Int):Cap × Bool:=if has t e s = true∧(get t e s).fRights ≠ 0 then (get t e s,true) else (rU,false)
def root (t:T) (e s f:Int):Int × T :=
  if has t e s = false∨f < 0∨f ≥ 16 then (2,t) else if (get t e s).fRights ≠ 0 then (4,t) else (0,put t e s ⟨f,3,-1,0⟩)
def derive (t:T) (e src to dst r:Int):Int × T :=
  if has t e src = false∨has t to dst = false∨cM r = false then (2,t)
  else if (get t e src).fRights = 0 then (3,t) else if (get t to dst).fRights ≠ 0 then (4,t)
  else if bv r (get t e src).fRights = false then (5,t) else (0,put t to dst ⟨(get t e src).fFrame,r,e,src⟩)
def up:Nat→T→Cap→dm→Bool
  | 0,_,_,_=>false
  | n + 1,t,c,p=>if c.fRights ≠ 0∧0 ≤ c.fEnv then (if c.fEnv = p.fEnv∧c.fSlot = p.fSlot then true else up n t (get t c.fEnv c.fSlot) p) else false
def deep:Nat→T→Cap→Nat
  | 0,_,_=>0
  | n + 1,t,c=>if c.fRights ≠ 0∧0 ≤ c.fEnv then deep n t (get t c.fEnv c.fSlot) + 1 else 0
def under (t:T) (c:Cap) (p:dm):Bool:=up 40 t c p
def rowOf (P:Int→Int→Cap→Bool) (e:Int):List Cap→Int→List dm
  | [],_=>[]
  | c::cs,s=>if c.fRights ≠ 0∧P e s c = true then ⟨e,s⟩::rowOf P e cs (s + 1) else rowOf P e cs (s + 1)
def allOf (P:Int→Int→Cap→Bool):T→Int→List dm
  | [],_=>[]
  | r::rs,e=>rowOf P e r 0++allOf P rs (e + 1)
def below (t:T) (e s:Int):List dm:=allOf (fun _ _ c=>under t c ⟨e,s⟩) t 0
def own (t:T) (e s:Int):List dm:=allOf (fun a b c=>aR.eqb ⟨a,b⟩ ⟨e,s⟩ || under t c ⟨e,s⟩) t 0
def empties (t:T):List dm→T
  | []=>t
  | p::l=>empties (put t p.fEnv p.fSlot rU) l
def look (t:T) (e s:Int):Int:=if has t e s = false then 2 else if (get t e s).fRights = 0 then 3 else 0
def revoke (t:T) (e s:Int):(List dm × Int) × T:=if look t e s ≠ 0 then (([],look t e s),t) else ((below t e s,0),empties t (below t e s))
def drop (t:T) (e s:Int):(List dm × Int) × T:=if look t e s ≠ 0 then (([],look t e s),t) else ((own t e s,0),empties t (own t e s))
structure Ok (t:T):Prop where
  len:t.length ≤ 4
  row:∀ r ∈ t,r.length = 8
  rk:∃ rank:Int→Int→Nat,∀ e s,has t e s = true→(get t e s).fRights ≠ 0→0 ≤ (get t e s).fEnv →
    has t (get t e s).fEnv (get t e s).fSlot = true∧(get t (get t e s).fEnv (get t e s).fSlot).fRights ≠ 0∧rank (get t e s).fEnv (get t e s).fSlot < rank e s
theorem has_nat {t:T} {e s:Int} (h:has t e s = true):∃ m n:Nat,e = m∧s = n∧m < t.length∧n < 8:=by
  unfold has at h
  have:=of_decide_eq_true h
  exact ⟨e.toNat,s.toNat,by omega,by omega,by omega,by omega⟩
theorem has_of {t:T} {m n:Nat} (h1:m < t.length) (h2:n < 8):has t m n = true:=by
  unfold has; exact decide_eq_true ⟨by omega,by omega,by omega,by omega⟩
theorem get_nat' {t:T} (ok:∀ r ∈ t,r.length = 8) {m n:Nat} (h1:m < t.length) (h2:n < 8):∃ h3:n < t[m].length,get t m n = t[m][n]:=by
  have:=ok _ (List.getElem_mem h1)
  refine ⟨by omega,?_⟩
  have h3:n < t[m].length:=by omega
  simp [get,h1,h3]
theorem put_nat {t:T} {m n:Nat} (h1:m < t.length) (c:Cap):put t m n c = t.set m (t[m].set n c):=by simp [put,h1]
theorem put_len (t:T) (e s:Int) (c:Cap):(put t e s c).length = t.length:=by simp [put]
theorem tZ (t:T) (e s:Int) (c:Cap) (a b:Int):has (put t e s c) a b = has t a b:=by unfold has; rw [put_len]
theorem put_row {t:T} (ok:∀ r ∈ t,r.length = 8) (e s:Int) (c:Cap):∀ r ∈ put t e s c,r.length = 8:=by
  intro r hr
  unfold put at hr
  rcases List.mem_or_eq_of_mem_set hr with h | h
  · exact ok r h
  · subst h
    by_cases hm:e.toNat < t.length
    · simp [hm]; exact ok _ (List.getElem_mem hm)
    · rw [List.set_eq_of_length_le (by omega)] at hr; exact ok _ hr
theorem wN {t:T} (ok:∀ r ∈ t,r.length = 8) {e s a b:Int} (h:has t e s = true) (h2:has t a b = true) (c:Cap):get (put t e s c) a b = if a = e∧b = s then c else get t a b:=by
  obtain ⟨m,n,rfl,rfl,hm,hn⟩:=has_nat h
  obtain ⟨i,j,rfl,rfl,hi,hj⟩:=has_nat h2
  have hl:=ok _ (List.getElem_mem hm)
  rw [put_nat hm]
  simp only [get,Int.toNat_natCast,List.getD_eq_getElem?_getD,List.getElem?_set]
  by_cases e1:m = i
  · subst e1
    by_cases e2:n = j
    · subst e2; simp [hm,hl,hn]
    · have:¬ ((m:Int) = m∧(j:Int) = n):=by omega
      rw [if_neg this]; simp [hm,e2]
  · have:¬ ((i:Int) = m∧(j:Int) = n):=by omega
    rw [if_neg this]; simp [e1]
theorem pigeon:∀ (n:Nat) (l:List Nat),l.Nodup→(∀ x ∈ l,x < n)→l.length ≤ n
  | 0,l,_,h=>by
    cases l with
    | nil=>simp
    | cons a l=>exact absurd (h a (by simp)) (by omega)
  | n + 1,l,d,h=>by
    have h1:=pigeon n (l.erase n) (d.erase n) (fun x hx=>by
      have h2:=d.mem_erase_iff.1 hx
      have:=h x h2.2
      have:=h2.1
      omega)
    rw [List.length_erase] at h1
    split at h1 <;> omega
theorem path {t:T} (ok:Ok t) {rank:Int→Int→Nat} (hr:∀ e s,has t e s = true→(get t e s).fRights ≠ 0→0 ≤ (get t e s).fEnv →
    has t (get t e s).fEnv (get t e s).fSlot = true∧(get t (get t e s).fEnv (get t e s).fSlot).fRights ≠ 0∧rank (get t e s).fEnv (get t e s).fSlot < rank e s) :
    ∀ (n:Nat) (e s:Int),has t e s = true→∃ l:List Nat,l.length = deep n t (get t e s)∧l.Pairwise (fun a b=>rank (b / 8:Nat) (b % 8:Nat) < rank (a / 8:Nat) (a % 8:Nat))∧∀ a ∈ l,a < 32∧rank (a / 8:Nat) (a % 8:Nat) < rank e s
  | 0,_,_,_=>⟨[],rfl,.nil,fun a h=>by cases h⟩
  | n + 1,e,s,h=>by
    by_cases hc:(get t e s).fRights ≠ 0∧0 ≤ (get t e s).fEnv
    · obtain ⟨h1,h2,h3⟩:=hr e s h hc.1 hc.2
      obtain ⟨l,hl,hp,hb⟩:=path ok hr n _ _ h1
      obtain ⟨i,j,ei,ej,hi,hj⟩:=has_nat h1
      have hlen:=ok.len
      have e1:(i * 8 + j) / 8 = i:=by omega
      have e2:(i * 8 + j) % 8 = j:=by omega
      refine ⟨(i * 8 + j)::l,?_,?_,?_⟩
      · simp only [List.length_cons,deep]; rw [if_pos hc,hl]
      · refine List.pairwise_cons.2 ⟨fun b hb'=>?_,hp⟩
        have:=(hb b hb').2
        rw [e1,e2,← ei,← ej]; exact this
      · intro a ha
        rcases List.mem_cons.1 ha with rfl | ha
        · rw [e1,e2,← ei,← ej]; exact ⟨by omega,h3⟩
        · exact ⟨(hb a ha).1,Nat.lt_trans (hb a ha).2 h3⟩
    · exact ⟨[],by simp only [deep]; rw [if_neg hc]; rfl,.nil,fun a h=>by cases h⟩
theorem deep_le {t:T} (ok:Ok t) {e s:Int} (h:has t e s = true) (n:Nat):deep n t (get t e s) ≤ 32:=by
  obtain ⟨rank,hr⟩:=ok.rk
  obtain ⟨l,hl,hp,hb⟩:=path ok hr n e s h
  rw [← hl]
  refine pigeon 32 l (hp.imp ?_) (fun x hx=>(hb x hx).1)
  rintro a b hab rfl
  exact absurd hab (Nat.lt_irrefl _)
theorem deep_s (n:Nat) (t:T) (c:Cap):deep (n + 1) t c = if c.fRights ≠ 0∧0 ≤ c.fEnv then deep n t (get t c.fEnv c.fSlot) + 1 else 0:=rfl
theorem up_s (n:Nat) (t:T) (c:Cap) (p:dm):up (n + 1) t c p = if c.fRights ≠ 0∧0 ≤ c.fEnv then (if c.fEnv = p.fEnv∧c.fSlot = p.fSlot then true else up n t (get t c.fEnv c.fSlot) p) else false:=rfl
theorem deep_succ {t:T}:∀ {n:Nat} {c:Cap},deep n t c < n→deep (n + 1) t c = deep n t c
  | 0,_,h=>by omega
  | n + 1,c,h=>by
    rw [deep_s (n + 1) t c,deep_s n t c]
    rw [deep_s n] at h
    by_cases hc:c.fRights ≠ 0∧0 ≤ c.fEnv
    · rw [if_pos hc] at h
      rw [if_pos hc,if_pos hc,deep_succ (n:=n) (by omega)]
    · rw [if_neg hc,if_neg hc]
theorem up_succ {t:T} {p:dm}:∀ {n:Nat} {c:Cap},deep n t c < n→up (n + 1) t c p = up n t c p
  | 0,_,h=>by omega
  | n + 1,c,h=>by
    rw [up_s (n + 1) t c p,up_s n t c p]
    rw [deep_s n] at h
    by_cases hc:c.fRights ≠ 0∧0 ≤ c.fEnv
    · rw [if_pos hc] at h
      rw [if_pos hc,if_pos hc,up_succ (n:=n) (by omega)]
    · rw [if_neg hc,if_neg hc]
theorem under_step {t:T} (ok:Ok t) {e s:Int} (h:has t e s = true) (p:dm):under t (get t e s) p = if (get t e s).fRights ≠ 0∧0 ≤ (get t e s).fEnv then (if (get t e s).fEnv = p.fEnv∧(get t e s).fSlot = p.fSlot then true else under t (get t (get t e s).fEnv (get t e s).fSlot) p) else false:=by
  have h1:=deep_le ok h 40
  unfold under
  by_cases hc:(get t e s).fRights ≠ 0∧0 ≤ (get t e s).fEnv
  · rw [deep_s 39,if_pos hc] at h1
    rw [up_s 39,up_succ (n:=39) (by omega)]
  · rw [up_s 39,if_neg hc,if_neg hc]
theorem deep_step {t:T} (ok:Ok t) {e s:Int} (h:has t e s = true) (hc:(get t e s).fRights ≠ 0∧0 ≤ (get t e s).fEnv):deep 40 t (get t (get t e s).fEnv (get t e s).fSlot) < deep 40 t (get t e s):=by
  have h1:=deep_le ok h 40
  rw [deep_s 39,if_pos hc] at h1
  rw [deep_succ (n:=39) (by omega),deep_s 39,if_pos hc]
  omega
theorem ok_new (n:Nat) (h:n ≤ 4):Ok (List.replicate n (List.replicate 8 rU)):=by
  refine ⟨by simpa using h,fun r hr=>?_,fun _ _=>0,fun e s hh hne=>?_⟩
  · rw [(List.mem_replicate.1 hr).2]; rfl
  · exfalso
    apply hne
    obtain ⟨i,j,rfl,rfl,hi,hj⟩:=has_nat hh
    simp only [List.length_replicate] at hi
    simp only [get,Int.toNat_natCast,List.getD_eq_getElem?_getD,List.getElem?_replicate,if_pos hi,Option.getD_some,if_pos hj]
theorem ok_put {t:T} (ok:Ok t) {e s:Int} (h:has t e s = true) (h0:(get t e s).fRights = 0) (c:Cap) (hc:0 ≤ c.fEnv→has t c.fEnv c.fSlot = true∧(get t c.fEnv c.fSlot).fRights ≠ 0):Ok (put t e s c):=by
  obtain ⟨rank,hr⟩:=ok.rk
  refine ⟨by rw [put_len]; exact ok.len,put_row ok.row e s c,fun a b=>if a = e∧b = s then rank c.fEnv c.fSlot + 1 else rank a b,fun a b hab hne hen=>?_⟩
  rw [tZ] at hab
  have keep:∀ {i j:Int},has t i j = true→(get t i j).fRights ≠ 0→¬ (i = e∧j = s):=by
    rintro i j _ hn ⟨rfl,rfl⟩; exact hn h0
  have hg:=wN ok.row h hab c
  rw [hg] at hne hen ⊢
  by_cases hes:a = e∧b = s
  · rw [if_pos hes] at hne hen ⊢
    obtain ⟨h1,h2⟩:=hc hen
    have hk:=keep h1 h2
    refine ⟨by rw [tZ]; exact h1,by rw [wN ok.row h h1,if_neg hk]; exact h2,?_⟩
    show (if c.fEnv = e∧c.fSlot = s then _ else _) < (if a = e∧b = s then _ else _)
    rw [if_neg hk,if_pos hes]; omega
  · rw [if_neg hes] at hne hen ⊢
    obtain ⟨h1,h2,h3⟩:=hr a b hab hne hen
    have hk:=keep h1 h2
    refine ⟨by rw [tZ]; exact h1,by rw [wN ok.row h h1,if_neg hk]; exact h2,?_⟩
    show (if (get t a b).fEnv = e∧(get t a b).fSlot = s then _ else _) < (if a = e∧b = s then _ else _)
    rw [if_neg hk,if_neg hes]; exact h3
theorem qL:∀ (l:List dm) (t:T),(empties t l).length = t.length
  | [],_=>rfl
  | p::l,t=>by rw [empties,qL l,put_len]
theorem empties_has (t:T) (l:List dm) (a b:Int):has (empties t l) a b = has t a b:=by unfold has; rw [qL]
theorem empties_row:∀ (l:List dm) (t:T),(∀ r ∈ t,r.length = 8)→∀ r ∈ empties t l,r.length = 8
  | [],_,h=>h
  | p::l,t,h=>empties_row l _ (put_row h _ _ _)
theorem qM:∀ (l:List dm) (t:T),(∀ r ∈ t,r.length = 8)→(∀ p ∈ l,has t p.fEnv p.fSlot = true)→∀ a b,has t a b = true→get (empties t l) a b = if (⟨a,b⟩:dm) ∈ l then rU else get t a b
  | [],_,_,_,_,_,_=>by simp [empties]
  | p::l,t,h,hl,a,b,hab=>by
    rw [empties,qM l _ (put_row h _ _ _) (fun q hq=>by rw [tZ]; exact hl q (by simp [hq])) a b (by rw [tZ]; exact hab),wN h (hl p (by simp)) hab]
    by_cases h1:(⟨a,b⟩:dm) ∈ l
    · rw [if_pos h1,if_pos (by simp [h1])]
    · rw [if_neg h1]
      by_cases h2:a = p.fEnv∧b = p.fSlot
      · obtain ⟨rfl,rfl⟩:=h2
        rw [if_pos ⟨rfl,rfl⟩,if_pos (by simp)]
      · rw [if_neg h2,if_neg]
        intro hm
        rcases List.mem_cons.1 hm with hm | hm
        · subst hm; exact h2 ⟨rfl,rfl⟩
        · exact h1 hm
theorem rowOf_c (P:Int→Int→Cap→Bool) (e:Int) (c:Cap) (cs:List Cap) (s:Int):rowOf P e (c::cs) s = if c.fRights ≠ 0∧P e s c = true then ⟨e,s⟩::rowOf P e cs (s + 1) else rowOf P e cs (s + 1):=rfl
theorem mem_rowOf {P:Int→Int→Cap→Bool} {e:Int} {p:dm}:∀ {cs:List Cap} {s:Int},p ∈ rowOf P e cs s↔p.fEnv = e∧∃ (n:Nat) (c:Cap),cs[n]? = some c∧p.fSlot = s + n∧c.fRights ≠ 0∧P e (s + n) c = true
  | [],s=>by simp [rowOf]
  | c::cs,s=>by
    have ih:=mem_rowOf (P:=P) (e:=e) (p:=p) (cs:=cs) (s:=s + 1)
    have tail:(p.fEnv = e∧∃ (n:Nat) (c':Cap),cs[n]? = some c'∧p.fSlot = s + 1 + n∧c'.fRights ≠ 0∧P e (s + 1 + n) c' = true)↔(p.fEnv = e∧∃ (n:Nat) (c':Cap),(c::cs)[n + 1]? = some c'∧p.fSlot = s + ((n + 1:Nat):Int)∧c'.fRights ≠ 0∧P e (s + ((n + 1:Nat):Int)) c' = true):=by
      have:∀ n:Nat,s + ((n + 1:Nat):Int) = s + 1 + n:=fun n=>by omega
      simp only [this,List.getElem?_cons_succ]
    have split0:(p.fEnv = e∧∃ (n:Nat) (c':Cap),(c::cs)[n]? = some c'∧p.fSlot = s + n∧c'.fRights ≠ 0∧P e (s + n) c' = true)↔(p = ⟨e,s⟩∧c.fRights ≠ 0∧P e s c = true)∨(p.fEnv = e∧∃ (n:Nat) (c':Cap),(c::cs)[n + 1]? = some c'∧p.fSlot = s + ((n + 1:Nat):Int)∧c'.fRights ≠ 0∧P e (s + ((n + 1:Nat):Int)) c' = true):=by
      constructor
      · rintro ⟨he,n,c',h1,h2,h3,h4⟩
        cases n with
        | zero =>
          simp at h1; subst h1
          simp at h2 h4
          exact .inl ⟨by cases p; simp_all,h3,h4⟩
        | succ n=>exact .inr ⟨he,n,c',h1,h2,h3,h4⟩
      · rintro (⟨rfl,h3,h4⟩ | ⟨he,n,c',h1,h2,h3,h4⟩)
        · exact ⟨rfl,0,c,rfl,by simp,h3,by simpa using h4⟩
        · exact ⟨he,n + 1,c',h1,h2,h3,h4⟩
    rw [split0,← tail,← ih,rowOf_c]
    split
    · rename_i hc
      rw [List.mem_cons]
      constructor
      · rintro (h | h)
        · exact .inl ⟨h,hc⟩
        · exact .inr h
      · rintro (h | h)
        · exact .inl h.1
        · exact .inr h
    · rename_i hc
      constructor
      · exact .inr
      · rintro (h | h)
        · exact absurd h.2 hc
        · exact h
theorem mem_allOf {P:Int→Int→Cap→Bool} {p:dm}:∀ {t:T} {e:Int},p ∈ allOf P t e↔∃ (m n:Nat) (r:List Cap) (c:Cap),t[m]? = some r∧r[n]? = some c∧p = ⟨e + m,n⟩∧c.fRights ≠ 0∧P (e + m) n c = true
  | [],e=>by simp [allOf]
  | r::t,e=>by
    rw [allOf,List.mem_append,mem_rowOf,mem_allOf]
    constructor
    · rintro (⟨h1,n,c,h2,h3,h4,h5⟩ | ⟨m,n,r',c,h1,h2,rfl,h4,h5⟩)
      · refine ⟨0,n,r,c,rfl,h2,?_,h4,?_⟩
        · cases p; simp_all
        · simpa using h5
      · refine ⟨m + 1,n,r',c,by simpa using h1,h2,?_,h4,?_⟩
        · congr 1; omega
        · rw [show e + ((m + 1:Nat):Int) = e + 1 + m from by omega]; exact h5
    · rintro ⟨m,n,r',c,h1,h2,rfl,h4,h5⟩
      cases m with
      | zero =>
        simp at h1; subst h1
        exact .inl ⟨by simp,n,c,h2,by simp,h4,by simpa using h5⟩
      | succ m =>
        refine .inr ⟨m,n,r',c,by simpa using h1,h2,?_,h4,?_⟩
        · congr 1; omega
        · rw [show e + 1 + (m:Int) = e + ((m + 1:Nat):Int) from by omega]; exact h5
theorem mem_all {t:T} (row:∀ r ∈ t,r.length = 8) {P:Int→Int→Cap→Bool} {p:dm}:p ∈ allOf P t 0↔has t p.fEnv p.fSlot = true∧(get t p.fEnv p.fSlot).fRights ≠ 0∧P p.fEnv p.fSlot (get t p.fEnv p.fSlot) = true:=by
  rw [mem_allOf]
  constructor
  · rintro ⟨m,n,r,c,h1,h2,rfl,h4,h5⟩
    obtain ⟨hm,e1⟩:=List.getElem?_eq_some_iff.1 h1
    obtain ⟨hn,e2⟩:=List.getElem?_eq_some_iff.1 h2
    have h8:=row r (List.mem_of_getElem? h1)
    simp only [Int.zero_add] at h5 ⊢
    have hg:get t m n = c:=by simp [get,h1,h2]
    rw [hg]
    exact ⟨has_of hm (by omega),h4,h5⟩
  · rintro ⟨h1,h2,h3⟩
    obtain ⟨m,n,em,en,hm,hn⟩:=has_nat h1
    rw [em,en] at h2 h3
    obtain ⟨hn',hg⟩:=get_nat' row hm hn
    rw [hg] at h2 h3
    refine ⟨m,n,t[m],t[m][n],by simp [hm],by simp [hn'],?_,h2,by simpa using h3⟩
    cases p; simp_all
theorem mem_below {t:T} (ok:Ok t) {e s:Int} {p:dm}:p ∈ below t e s↔has t p.fEnv p.fSlot = true∧(get t p.fEnv p.fSlot).fRights ≠ 0∧under t (get t p.fEnv p.fSlot) ⟨e,s⟩ = true:=mem_all ok.row
theorem eqb_place (p q:dm):aR.eqb p q = true↔p = q:=by
  cases p; cases q; simp [aR.eqb]
theorem mem_own {t:T} (ok:Ok t) {e s:Int} {p:dm}:p ∈ own t e s↔has t p.fEnv p.fSlot = true∧(get t p.fEnv p.fSlot).fRights ≠ 0∧(p = ⟨e,s⟩∨under t (get t p.fEnv p.fSlot) ⟨e,s⟩ = true):=by
  unfold own
  rw [mem_all ok.row,Bool.or_eq_true,eqb_place]
theorem under_rights {t:T} {c:Cap} {p:dm} (h:under t c p = true):c.fRights ≠ 0:=by
  unfold under at h; rw [up_s 39] at h
  split at h
  · rename_i hc; exact hc.1
  · cases h
theorem ok_empties {t:T} (ok:Ok t) {l:List dm} (hl:∀ p ∈ l,has t p.fEnv p.fSlot = true)
    (cl:∀ e s,has t e s = true→(get t e s).fRights ≠ 0→0 ≤ (get t e s).fEnv→(⟨(get t e s).fEnv,(get t e s).fSlot⟩:dm) ∈ l→(⟨e,s⟩:dm) ∈ l):Ok (empties t l):=by
  obtain ⟨rank,hr⟩:=ok.rk
  refine ⟨by rw [qL]; exact ok.len,empties_row l t ok.row,rank,fun a b hab hne hen=>?_⟩
  rw [empties_has] at hab
  have hg:=qM l t ok.row hl a b hab
  by_cases hm:(⟨a,b⟩:dm) ∈ l
  · rw [if_pos hm] at hg; rw [hg] at hne; exact absurd rfl hne
  · rw [if_neg hm] at hg
    rw [hg] at hne hen ⊢
    obtain ⟨h1,h2,h3⟩:=hr a b hab hne hen
    have hp:(⟨(get t a b).fEnv,(get t a b).fSlot⟩:dm) ∉ l:=fun h=>hm (cl a b hab hne hen h)
    refine ⟨by rw [empties_has]; exact h1,?_,h3⟩
    rw [qM l t ok.row hl _ _ h1,if_neg hp]; exact h2
theorem ok_below {t:T} (ok:Ok t) (e s:Int):Ok (empties t (below t e s)):=by
  refine ok_empties ok (fun p hp=>((mem_below ok).1 hp).1) fun a b hab hne hen hp=>?_
  have h1:=(mem_below ok).1 hp
  refine (mem_below ok).2 ⟨hab,hne,?_⟩
  rw [under_step ok hab,if_pos ⟨hne,hen⟩]
  split
  · rfl
  · exact h1.2.2
theorem ok_own {t:T} (ok:Ok t) (e s:Int):Ok (empties t (own t e s)):=by
  refine ok_empties ok (fun p hp=>((mem_own ok).1 hp).1) fun a b hab hne hen hp=>?_
  have h1:=(mem_own ok).1 hp
  refine (mem_own ok).2 ⟨hab,hne,.inr ?_⟩
  rw [under_step ok hab,if_pos ⟨hne,hen⟩]
  split
  · rfl
  · rename_i hno
    rcases h1.2.2 with h | h
    · exact absurd ⟨congrArg aR.fEnv h,congrArg aR.fSlot h⟩ hno
    · exact h
theorem ok_root {t:T} (ok:Ok t) (e s f:Int):Ok (root t e s f).2:=by
  unfold root
  split
  · exact ok
  · split
    · exact ok
    · rename_i h1 h2
      refine ok_put ok (by simp at h1; exact h1.1) (by simpa using h2) _ (fun h=>?_)
      exact absurd h (by show ¬ (0:Int) ≤ -1; omega)
theorem ok_derive {t:T} (ok:Ok t) (e src to dst r:Int):Ok (derive t e src to dst r).2:=by
  unfold derive
  split
  · exact ok
  · split
    · exact ok
    · split
      · exact ok
      · split
        · exact ok
        · rename_i h1 h2 h3 h4
          simp at h1
          exact ok_put ok h1.2.1 (by simpa using h3) _ (fun _=>⟨h1.1,h2⟩)
theorem ok_revoke {t:T} (ok:Ok t) (e s:Int):Ok (revoke t e s).2:=by
  unfold revoke; split
  · exact ok
  · exact ok_below ok e s
theorem ok_drop {t:T} (ok:Ok t) (e s:Int):Ok (drop t e s).2:=by
  unfold drop; split
  · exact ok
  · exact ok_own ok e s
end Caps
end Go.Proofs.YtniiiakkdoiaiaaGreatDoor
namespace Go.Proofs.YtniiiakkdoiaiaaGreatDoor
open Go Mb
set_option linter.unusedVariables false
def mem_New_l1 (a0:Int) (K:Ptr→Hp→Prop) (b11:Nat) (Rec7:Int→Hp→Prop) (s6:Int):Hp→Prop:=br (decide (s6 < a0)) ( ld (b11,0) cS fun x19=>hpv Tryz.prog (Instr.makeSlice bt (.int .i64 16) (.int .i64 16)) ck fun (v20:Sl)=>hpv Tryz.prog (Instr.buildSlice pJ 1 #[(0,(sv v20))]) R_SSuint64 fun (v21:Sl)=>hpv Tryz.prog (Builtin.append_ #[pJ,pJ] pJ #[(sv x19),(sv v21)]) R_SSuint64 fun (v22:Sl)=>st (b11,0) [sv v22]<|Rec7 (IntKind.i64.wrap (s6 + 1))) ( K (some (b11,0)))
def sh_mem_New (a0:Int) (K:Ptr→Hp→Prop):Hp→Prop:=br ((decide (a0 < 1)) || (decide (a0 > 16))) ( K none) ( nw lD (sj.C (⟨(⟨none,0,0,none⟩:Sl)⟩:sj)) fun b11=>Lp (mem_New_l1 a0 K b11) 0)
set_option maxRecDepth 20000 in
theorem sim_mem_New (a0:Int) {K:Ptr→Hp→Prop} {h:Hp} (H:sh_mem_New a0 K h):Ct Tryz.prog vm #[(.int .i64 a0)] h fun v h'=>∃ r,v = tu r∧K r h':=aC [(.int .i64 a0)] Tryz.func90 rfl rfl rfl fun _=>ag<|ab<|aa (ae rfl) rfl<|ad<|ag<|ag<|ab<|aa (ac rfl) rfl<|aa (cA rfl rfl) rfl<|aa (ac rfl) rfl<|ai rfl rfl rfl (aS _) (fun g1=>wv (ac rfl)) rfl<|ai rfl rfl rfl (aS _) (fun g2=>wv (ql (aK rfl g2) rfl)) rfl<|aa (du rfl rfl) rfl<|ad<|aD rfl H (fun k3 H4=>ag<|ab<|aa (ae rfl) rfl<|ad<|an<|av (az rfl (aE rfl)) ⟨none,rfl,H4⟩) (fun k3 H4=>au<|ag<|ab<|aa (bo (vs:=[]) rfl build_181) rfl<|aj (hU rfl rfl rfl H4 fun b11 _ H5=>aa (ae rfl) rfl<|ad<|ag<|ag<|ab<|aa (ac rfl) rfl<|aa (ac rfl) rfl<|ad<|aF<|bS (step:=mem_New_l1 a0 K b11) (fun s6=>[(3,(.pointer (some ⟨b11,0,none⟩))),(12,(.int .i64 a0)),(13,(.int .i64 s6))]) (fun s6=>[]) H5 (.cons rfl (.cons rfl (.cons rfl (.nil _)))) .slnil (fun Rec7 s6 _ H8=>ag<|ab<|aa (cA rfl rfl) rfl<|ad<|ag<|aD rfl H8 (fun k9 H10=>au<|ag<|aF<|bE (n:=11) [] cy rfl .slnil<|ah (i:=0) (fun _ _ _ _=>id) rfl (by kernel_rfl) rfl (ve (ac rfl))<|ah (i:=1) (fun _ _ _ _=>id) rfl (by kernel_rfl) rfl (ve (ac rfl))<|ah (i:=2) (fun _ _ _ _=>id) rfl (by kernel_rfl) rfl (ve (aU rfl))<|ah (i:=3) (fun _ _ _ _=>id) rfl (by kernel_rfl) rfl (ve (am sf rfl))<|bR (i:=4) (fun _ _ _ _=>id) H10 rfl (by kernel_rfl) kU rfl (fun _=>rfl) rfl fun x19 H11=>bg (i:=5) (by kernel_rfl) (aJ rfl rfl (be H11 (jH rfl rfl) rfl fun v20 _ H12=>⟨.slnil,bg (i:=6) (by kernel_rfl) (aJ rfl rfl (be H12 (bK (vs:=[(sv v20)]) rfl) rfl fun v21 _ H13=>⟨.slnil,bg (i:=7) (by kernel_rfl) (aJ rfl rfl (be H13 (dM rfl rfl) rfl fun v22 _ H14=>⟨.slnil,ah (i:=8) (fun _ _ _ _=>id) rfl (by kernel_rfl) rfl (ve (aU rfl))<|ah (i:=9) (fun _ _ _ _=>id) rfl (by kernel_rfl) rfl (ve (am sf rfl))<|bg (i:=10) (by kernel_rfl) (aJ rfl rfl (dw inf_135 rfl rfl rfl rfl rfl H14 fun _ H15=>⟨.slnil,bd (by kernel_rfl)<|ab<|aa (bM rfl rfl) rfl<|aa (ac rfl) rfl<|ad<|cW (IntKind.i64.wrap (s6 + 1)) H15 (.cons rfl (.cons rfl (.cons rfl (.nil _)))) .slnil⟩))⟩))⟩))⟩))) (fun k9 H10=>bD<|ag<|ab<|aa (ac rfl) rfl<|aa (ae rfl) rfl<|ad<|an<|av (az rfl (aE rfl)) ⟨(some (b11,0)),rfl,H10⟩))))
def tK (a0:Ptr) (K:Int→Hp→Prop):Hp→Prop:=br a0.isNone ( K 0) ( nn a0 fun q6=>ld (q6.1,q6.2 + 0) cS fun x8=>K (x8.len:Int))
set_option maxRecDepth 20000 in
theorem sim_mem_Mem_Frames (a0:Ptr) {K:Int→Hp→Prop} {h:Hp} (H:tK a0 K h):Ct Tryz.prog vn #[(pv a0)] h fun v h'=>∃ r,v = dW r∧K r h':=aC [(pv a0)] Tryz.func188 rfl rfl rfl fun _=>ag<|ab<|aa (ae rfl) rfl<|ad<|ag<|ag<|ab<|aa (ac rfl) rfl<|aa (ct Tryz.underlying124 rfl) rfl<|ad<|aD rfl H (fun k1 H2=>ag<|ab<|aa (ae rfl) rfl<|ad<|an<|av (az rfl (aE rfl)) ⟨0,rfl,H2⟩) (fun k1 H2=>au<|ag<|ab<|aa (ac rfl) rfl<|bP H2 fun q6 e3 H4=>aa (aU (aX rfl (ay e3))) rfl<|aa (am sf rfl) rfl<|aj (bf H4 kU rfl (fun _=>rfl) rfl fun x8 H5=>aa (dH rfl Tryz.underlying135 rfl) rfl<|aa (ae rfl) rfl<|ad<|an<|av (az rfl (aE rfl)) ⟨(x8.len:Int),rfl,H5⟩))
def sh_mem_Mem_at (a0:Ptr) (a1:Int) (a2:Int) (K:Ptr→Hp→Prop):Hp→Prop:=br (!(decide (a1 < 0))) ( cl Tryz.prog vn [(pv a0)] dW fun r12=>br (((decide (a1 ≥ r12)) || (decide (a2 < 0))) || (decide (a2 ≥ 16))) ( K none) ( nn a0 fun q24=>ld (q24.1,q24.2 + 0) cS fun x26=>ix x26 a1 fun q28=>ld (q28.1,q28.2 + Int.toNat a1 * 1) cS fun x29=>ix x29 a2 fun q31=>K (some (q31.1,q31.2 + Int.toNat a2 * 1)))) ( K none)
set_option maxRecDepth 20000 in
theorem sim_mem_Mem_at (a0:Ptr) (a1:Int) (a2:Int) {K:Ptr→Hp→Prop} {h:Hp} (H:sh_mem_Mem_at a0 a1 a2 K h):Ct Tryz.prog lM #[(pv a0),(.int .i64 a1),(.int .i64 a2)] h fun v h'=>∃ r,v = sk r∧K r h':=aC [(pv a0),(.int .i64 a1),(.int .i64 a2)] Tryz.func165 rfl rfl rfl fun _=>ag<|ab<|aa (ae rfl) rfl<|ad<|ag<|ag<|ab<|aa (ac rfl) rfl<|aa (cA rfl rfl) rfl<|aa (ac rfl) rfl<|ai rfl rfl rfl (aS _) (fun g1=>wv (ac rfl)) rfl<|ai rfl rfl rfl (aS _) (fun g2=>wv (ac rfl)) rfl<|bW H (fun k4 H5=>aI rfl rfl rfl (congrArg Value.bool (bL k4)) (aA H5 en_188 (aY (aK rfl k4) bU) rfl fun r12 _ H6=>aI rfl rfl rfl (congrArg Value.bool (bL k4)) (aN (wv (hO (aK rfl k4) rfl)) rfl<|aa (ax rfl (bL k4) rfl) rfl<|aa (ac rfl) rfl<|ai rfl rfl rfl (aS _) (fun g7=>wv (ac rfl)) rfl<|ai rfl rfl rfl (aS _) (fun g8=>wv (cA (aK rfl g8) rfl)) rfl<|aa (du rfl rfl) rfl<|aa (ac rfl) rfl<|ai rfl rfl rfl (aS _) (fun g9=>wv (ac rfl)) rfl<|ai rfl rfl rfl (aS _) (fun g10=>wv (hO (aK rfl g10) rfl)) rfl<|aa (du rfl rfl) rfl<|ad<|aD rfl H6 (fun k11 H12=>ag<|ab<|aa (ae rfl) rfl<|ad<|an<|av (az rfl (aE rfl)) ⟨none,rfl,H12⟩) (fun k11 H12=>au<|ag<|ab<|aa (ac rfl) rfl<|bP H12 fun q24 e13 H14=>aa (aU (aX rfl (ay e13))) rfl<|aa (am sf rfl) rfl<|aj (bf H14 kU rfl (fun _=>rfl) rfl fun x26 H15=>aa (ac rfl) rfl<|cu H15 fun q28 e16 h17 H18=>aa (bC lF (aX rfl (bm e16)) rfl h17) rfl<|aj (bf H18 sc_80 rfl (fun _=>rfl) rfl fun x29 H19=>aa (ac rfl) rfl<|cu H19 fun q31 e20 h21 H22=>aa (bC vX (aX rfl (bm e20)) rfl h21) rfl<|aa (ae rfl) rfl<|ad<|an<|av (az rfl (aE rfl)) ⟨(some (q31.1,q31.2 + Int.toNat a2 * 1)),rfl,H22⟩)))))) (fun k4 H5=>al rfl rfl rfl (bF (bp k4)) rfl<|al rfl rfl rfl (bF (bp k4)) rfl<|aa (aT rfl (bp k4) rfl) rfl<|aa (ac rfl) rfl<|al rfl rfl rfl rfl rfl<|al rfl rfl rfl rfl rfl<|aa (aT rfl rfl rfl) rfl<|aa (ac rfl) rfl<|al rfl rfl rfl rfl rfl<|al rfl rfl rfl rfl rfl<|aa (aT rfl rfl rfl) rfl<|ad<|gR rfl rfl<|ag<|ab<|aa (ae rfl) rfl<|ad<|an<|av (az rfl (aE rfl)) ⟨none,rfl,H5⟩)
def sh_mem_Mem_Load (a0:Ptr) (a1:Int) (a2:Int) (K:(Int × Bool)→Hp→Prop):Hp→Prop:=cl Tryz.prog lM [(pv a0),(.int .i64 a1),(.int .i64 a2)] sk fun r12=>br r12.isNone ( K (0,false)) ( nn r12 fun q16=>ld (q16.1,q16.2) (cI .u64) fun x17=>K (x17,true))
set_option maxRecDepth 20000 in
theorem sim_mem_Mem_Load (a0:Ptr) (a1:Int) (a2:Int) {K:(Int × Bool)→Hp→Prop} {h:Hp} (H:sh_mem_Mem_Load a0 a1 a2 K h):Ct Tryz.prog ic #[(pv a0),(.int .i64 a1),(.int .i64 a2)] h fun v h'=>∃ r,v = bV r∧K r h':=aC [(pv a0),(.int .i64 a1),(.int .i64 a2)] Tryz.func145 rfl rfl rfl fun _=>ag<|ab<|aa (ae rfl) rfl<|aa (ae rfl) rfl<|ad<|ag<|ab<|aa (ac rfl) rfl<|aa (ac rfl) rfl<|aa (ac rfl) rfl<|aj (aA H en_165 rfl rfl fun r12 _ H1=>aa (ae rfl) rfl<|ad<|ag<|ag<|ab<|aa (ac rfl) rfl<|aa (ct Tryz.underlying214 rfl) rfl<|ad<|aD rfl H1 (fun k2 H3=>ag<|ab<|aa (ae rfl) rfl<|aa (ae rfl) rfl<|ad<|an<|av (cf rfl (aE rfl) (aE rfl)) ⟨(0,false),rfl,H3⟩) (fun k2 H3=>au<|ag<|ab<|aa (ac rfl) rfl<|bP H3 fun q16 e4 H5=>aa (aU (aX rfl (ay e4))) rfl<|aj (bf H5 cD rfl (fun _=>rfl) rfl fun x17 H6=>aa (ae rfl) rfl<|aa (ae rfl) rfl<|ad<|an<|av (cf rfl (aE rfl) (aE rfl)) ⟨(x17,true),rfl,H6⟩)))
def uU (a0:Ptr) (a1:Int) (a2:Int) (a3:Int) (K:Bool→Hp→Prop):Hp→Prop:=cl Tryz.prog lM [(pv a0),(.int .i64 a1),(.int .i64 a2)] sk fun r13=>br r13.isNone ( K false) ( nn r13 fun q18=>st (q18.1,q18.2) [.int .u64 a3]<|K true)
set_option maxRecDepth 20000 in
theorem sim_mem_Mem_Store (a0:Ptr) (a1:Int) (a2:Int) (a3:Int) {K:Bool→Hp→Prop} {h:Hp} (H:uU a0 a1 a2 a3 K h):Ct Tryz.prog fE #[(pv a0),(.int .i64 a1),(.int .i64 a2),(.int .u64 a3)] h fun v h'=>∃ r,v = aG r∧K r h':=aC [(pv a0),(.int .i64 a1),(.int .i64 a2),(.int .u64 a3)] Tryz.func146 rfl rfl rfl fun _=>ag<|ab<|aa (ae rfl) rfl<|ad<|ag<|ab<|aa (ac rfl) rfl<|aa (ac rfl) rfl<|aa (ac rfl) rfl<|aj (aA H en_165 rfl rfl fun r13 _ H1=>aa (ae rfl) rfl<|ad<|ag<|ag<|ab<|aa (ac rfl) rfl<|aa (ct Tryz.underlying214 rfl) rfl<|ad<|aD rfl H1 (fun k2 H3=>ag<|ab<|aa (ae rfl) rfl<|ad<|an<|av (az rfl (aE rfl)) ⟨false,rfl,H3⟩) (fun k2 H3=>au<|ag<|ab<|aa (ac rfl) rfl<|aa (ac rfl) rfl<|bP H3 fun q18 e4 H5=>aa (aU (aX rfl (ay e4))) rfl<|aj (dw inf_25 rfl rfl rfl rfl rfl H5 fun _ H6=>ad<|ag<|ab<|aa (ae rfl) rfl<|ad<|an<|av (az rfl (aE rfl)) ⟨true,rfl,H6⟩)))
def sh_mem_Mem_Cas (a0:Ptr) (a1:Int) (a2:Int) (a3:Int) (a4:Int) (K:(Int × Bool)→Hp→Prop):Hp→Prop:=cl Tryz.prog ic [(pv a0),(.int .i64 a1),(.int .i64 a2)] bV fun r18=>br (r18.2 && (r18.1 == a3)) ( cl Tryz.prog fE [(pv a0),(.int .i64 a1),(.int .i64 a2),(.int .u64 a4)] aG fun r31=>K (r18.1,r18.2)) ( K (r18.1,r18.2))
set_option maxRecDepth 20000 in
theorem sim_mem_Mem_Cas (a0:Ptr) (a1:Int) (a2:Int) (a3:Int) (a4:Int) {K:(Int × Bool)→Hp→Prop} {h:Hp} (H:sh_mem_Mem_Cas a0 a1 a2 a3 a4 K h):Ct Tryz.prog qc #[(pv a0),(.int .i64 a1),(.int .i64 a2),(.int .u64 a3),(.int .u64 a4)] h fun v h'=>∃ r,v = bV r∧K r h':=aC [(pv a0),(.int .i64 a1),(.int .i64 a2),(.int .u64 a3),(.int .u64 a4)] Tryz.func147 rfl rfl rfl fun _=>ag<|ab<|aa (ae rfl) rfl<|aa (ae rfl) rfl<|ad<|ag<|ab<|aa (ac rfl) rfl<|aa (ac rfl) rfl<|aa (ac rfl) rfl<|aj (aA H en_145 rfl rfl fun r18 _ H1=>aa (ac rfl) rfl<|aa (ap rfl rfl) rfl<|aa (ap rfl rfl) rfl<|aa (ae rfl) rfl<|aa (ae rfl) rfl<|ad<|ag<|ag<|ab<|aa (ac rfl) rfl<|aa (ac rfl) rfl<|ai rfl rfl rfl (aB _) (fun g2=>wv (ac rfl)) rfl<|ai rfl rfl rfl (aB _) (fun g3=>wv (ac rfl)) rfl<|ai rfl rfl rfl (aB _) (fun g4=>wv (cc (aK rfl g4) (aK rfl g4))) rfl<|aa (bX rfl rfl) rfl<|ad<|aD rfl H1 (fun k5 H6=>ab<|aa (ac rfl) rfl<|aa (ac rfl) rfl<|aa (ac rfl) rfl<|aa (ac rfl) rfl<|aj (aA H6 en_146 rfl rfl fun r31 _ H7=>ad<|ag<|ab<|aa (ac rfl) rfl<|aa (ac rfl) rfl<|aa (ae rfl) rfl<|aa (ae rfl) rfl<|ad<|an<|av (cf rfl (aE rfl) (aE rfl)) ⟨(r18.1,r18.2),rfl,H7⟩)) (fun k5 H6=>au<|ag<|ab<|aa (ac rfl) rfl<|aa (ac rfl) rfl<|aa (ae rfl) rfl<|aa (ae rfl) rfl<|ad<|an<|av (cf rfl (aE rfl) (aE rfl)) ⟨(r18.1,r18.2),rfl,H6⟩))
def sh_mem_Mem_Add (a0:Ptr) (a1:Int) (a2:Int) (a3:Int) (K:(Int × Bool)→Hp→Prop):Hp→Prop:=cl Tryz.prog ic [(pv a0),(.int .i64 a1),(.int .i64 a2)] bV fun r16=>cl Tryz.prog fE [(pv a0),(.int .i64 a1),(.int .i64 a2),(.int .u64 (IntKind.u64.wrap (r16.1 + a3)))] aG fun r25=>K (r16.1,r16.2)
set_option maxRecDepth 20000 in
theorem sim_mem_Mem_Add (a0:Ptr) (a1:Int) (a2:Int) (a3:Int) {K:(Int × Bool)→Hp→Prop} {h:Hp} (H:sh_mem_Mem_Add a0 a1 a2 a3 K h):Ct Tryz.prog qd #[(pv a0),(.int .i64 a1),(.int .i64 a2),(.int .u64 a3)] h fun v h'=>∃ r,v = bV r∧K r h':=aC [(pv a0),(.int .i64 a1),(.int .i64 a2),(.int .u64 a3)] Tryz.func148 rfl rfl rfl fun _=>ag<|ab<|aa (ae rfl) rfl<|aa (ae rfl) rfl<|ad<|ag<|ab<|aa (ac rfl) rfl<|aa (ac rfl) rfl<|aa (ac rfl) rfl<|aj (aA H en_145 rfl rfl fun r16 _ H1=>aa (ac rfl) rfl<|aa (ap rfl rfl) rfl<|aa (ap rfl rfl) rfl<|aa (ae rfl) rfl<|aa (ae rfl) rfl<|ad<|ag<|ab<|aa (ac rfl) rfl<|aa (ac rfl) rfl<|aa (ac rfl) rfl<|aa (ac rfl) rfl<|aa (ac rfl) rfl<|aa (bM rfl rfl) rfl<|aj (aA H1 en_146 rfl rfl fun r25 _ H2=>ad<|ag<|ab<|aa (ac rfl) rfl<|aa (ac rfl) rfl<|aa (ae rfl) rfl<|aa (ae rfl) rfl<|ad<|an<|av (cf rfl (aE rfl) (aE rfl)) ⟨(r16.1,r16.2),rfl,H2⟩))
def sh_mem_Mem_Zero (a0:Ptr) (a1:Int) (K:Bool→Hp→Prop):Hp→Prop:=cl Tryz.prog lM [(pv a0),(.int .i64 a1),(.int .i64 0)] sk fun r7=>br r7.isNone ( K false) ( nn a0 fun q10=>ld (q10.1,q10.2 + 0) cS fun x12=>ix x12 a1 fun q14=>ld (q14.1,q14.2 + Int.toNat a1 * 1) cS fun x15=>hpv Tryz.prog (Builtin.clear_ #[bt] t_none #[(sv x15)]) R_ fun (_:Unit)=>K true)
set_option maxRecDepth 20000 in
theorem sim_mem_Mem_Zero (a0:Ptr) (a1:Int) {K:Bool→Hp→Prop} {h:Hp} (H:sh_mem_Mem_Zero a0 a1 K h):Ct Tryz.prog sS #[(pv a0),(.int .i64 a1)] h fun v h'=>∃ r,v = aG r∧K r h':=aC [(pv a0),(.int .i64 a1)] Tryz.func155 rfl rfl rfl fun _=>ag<|ab<|aa (ae rfl) rfl<|ad<|ag<|ag<|ab<|aa (ac rfl) rfl<|aa (ac rfl) rfl<|aj (aA H en_165 rfl rfl fun r7 _ H1=>aa (ct Tryz.underlying214 rfl) rfl<|ad<|aD rfl H1 (fun k2 H3=>ag<|ab<|aa (ae rfl) rfl<|ad<|an<|av (az rfl (aE rfl)) ⟨false,rfl,H3⟩) (fun k2 H3=>au<|ag<|ab<|aa (ac rfl) rfl<|bP H3 fun q10 e4 H5=>aa (aU (aX rfl (ay e4))) rfl<|aa (am sf rfl) rfl<|aj (bf H5 kU rfl (fun _=>rfl) rfl fun x12 H6=>aa (ac rfl) rfl<|cu H6 fun q14 e7 h8 H9=>aa (bC lF (aX rfl (bm e7)) rfl h8) rfl<|aj (bf H9 sc_80 rfl (fun _=>rfl) rfl fun x15 H10=>aj (to_hpv0 H10 (x_clear rfl) fun _ _ H11=>ad<|ag<|ab<|aa (ae rfl) rfl<|ad<|an<|av (az rfl (aE rfl)) ⟨true,rfl,H11⟩)))))
def uV (a0:Ptr) (a1:Int) (K:Sl→Hp→Prop):Hp→Prop:=cl Tryz.prog lM [(pv a0),(.int .i64 a1),(.int .i64 0)] sk fun r7=>br r7.isNone ( K (⟨none,0,0,none⟩:Sl)) ( nn a0 fun q10=>ld (q10.1,q10.2 + 0) cS fun x12=>ix x12 a1 fun q14=>ld (q14.1,q14.2 + Int.toNat a1 * 1) cS fun x15=>cl Tryz.prog gz [(sv x15)] ck fun r16=>K r16)
set_option maxRecDepth 20000 in
theorem sim_mem_Mem_Frame (a0:Ptr) (a1:Int) {K:Sl→Hp→Prop} {h:Hp} (H:uV a0 a1 K h):Ct Tryz.prog qU #[(pv a0),(.int .i64 a1)] h fun v h'=>∃ r,v = ck r∧K r h':=aC [(pv a0),(.int .i64 a1)] Tryz.func124 rfl rfl rfl fun _=>ag<|ab<|aa (ae rfl) rfl<|ad<|ag<|ag<|ab<|aa (ac rfl) rfl<|aa (ac rfl) rfl<|aj (aA H en_165 rfl rfl fun r7 _ H1=>aa (ct Tryz.underlying214 rfl) rfl<|ad<|aD rfl H1 (fun k2 H3=>ag<|ab<|aa (ae rfl) rfl<|ad<|an<|av (az rfl (aE rfl)) ⟨(⟨none,0,0,none⟩:Sl),rfl,H3⟩) (fun k2 H3=>au<|ag<|ab<|aa (ac rfl) rfl<|bP H3 fun q10 e4 H5=>aa (aU (aX rfl (ay e4))) rfl<|aa (am sf rfl) rfl<|aj (bf H5 kU rfl (fun _=>rfl) rfl fun x12 H6=>aa (ac rfl) rfl<|cu H6 fun q14 e7 h8 H9=>aa (bC lF (aX rfl (bm e7)) rfl h8) rfl<|aj (bf H9 sc_80 rfl (fun _=>rfl) rfl fun x15 H10=>aj (aA H10 en_166 rfl rfl fun r16 _ H11=>aa (ae rfl) rfl<|ad<|an<|av (az rfl (aE rfl)) ⟨r16,rfl,H11⟩)))))
end Go.Proofs.YtniiiakkdoiaiaaGreatDoor
namespace Go.Proofs.YtniiiakkdoiaiaaGreatDoor
open Go Mb
abbrev vU (s:Sl) (xs:List Int):As:=vec t_uint64 1 (cI .u64) s xs
def rows:List Sl→List (List Int)→List As
  | s::ss,f::fs=>vU s f::rows ss fs
  | _,_=>[]
theorem rows_get:∀ (ss:List Sl) (fs:List (List Int)) (i:Nat) (s:Sl) (f:List Int),ss[i]? = some s→fs[i]? = some f→(rows ss fs)[i]? = some (vU s f)
  | [],_,_,_,_,h,_=>by simp at h
  | _::_,[],_,_,_,_,h=>by simp at h
  | s::ss,f::fs,0,_,_,h1,h2=>by simp at h1 h2; subst h1; subst h2; rfl
  | s::ss,f::fs,i + 1,_,_,h1,h2=>by simpa [rows] using rows_get ss fs i _ _ (by simpa using h1) (by simpa using h2)
theorem rows_set:∀ (ss:List Sl) (fs:List (List Int)) (i:Nat) (s:Sl) (f:List Int),ss[i]? = some s→(rows ss fs).set i (vU s f) = rows ss (fs.set i f)
  | [],_,_,_,_,h=>by simp at h
  | s::ss,[],i,_,_,_=>by simp [rows]
  | s::ss,g::fs,0,_,_,h1=>by simp at h1; subst h1; rfl
  | s::ss,g::fs,i + 1,_,_,h1=>by simp only [rows,List.set_cons_succ]; rw [rows_set ss fs i _ _ (by simpa using h1)]
theorem rows_app (s:Sl) (f:List Int):∀ (ss:List Sl) (fs:List (List Int)),ss.length = fs.length→rows (ss++[s]) (fs++[f]) = rows ss fs++[vU s f]
  | [],[],_=>rfl
  | [],_::_,h=>by simp at h
  | _::_,[],h=>by simp at h
  | a::ss,b::fs,h=>by simp only [List.cons_append,rows]; rw [rows_app s f ss fs (by simpa using h)]
def wG (b:Nat) (s:Sl) (ss:List Sl) (fs:List (List Int)):List As:=blk b lD [sv s]::vec bt 1 cS s ss::rows ss fs
structure MemOk (ss:List Sl) (fs:List (List Int)):Prop where
  len:ss.length = fs.length
  le:fs.length ≤ 16
  row:∀ f ∈ fs,f.length = 16
def ij (x:Ptr) (fs:List (List Int)):As:=fun h=>∃ bs:Nat × Sl × List Sl,(x = some (bs.1,0)∧MemOk bs.2.2 fs)∧aQ (wG bs.1 bs.2.1 bs.2.2 fs) h
theorem mem_op {x:Ptr} {fs:List (List Int)} {l:List As} {h:Hp} (s0:aQ (ij x fs::l) h):∃ b s ss,x = some (b,0)∧MemOk ss fs∧s.len = fs.length∧aQ (wG b s ss fs++l) h:=by
  obtain ⟨⟨b,s,ss⟩,⟨hx,hb⟩,st⟩:=op_ s0
  exact ⟨b,s,ss,hx,hb,(cn (j:=1) st rfl).1.trans hb.len,st⟩
theorem mem_cl {b:Nat} {s:Sl} {ss:List Sl} {fs:List (List Int)} {l:List As} {h:Hp} (hb:MemOk ss fs) (st:aQ (wG b s ss fs++l) h):aQ (ij (some (b,0)) fs::l) h:=cl_ (b,s,ss) ⟨rfl,hb⟩ st
theorem rL {b:Nat} {s:Sl} {ss:List Sl} {fs:List (List Int)} {h:Hp} (hb:MemOk ss fs) (st:aQ (wG b s ss fs) h):aQ [ij (some (b,0)) fs] h:=mem_cl hb (by rw [List.append_nil]; exact st)
namespace Mem
def has (fs:List (List Int)) (f a:Int):Prop:=0 ≤ f∧f < fs.length∧0 ≤ a∧a < 16
instance (fs:List (List Int)) (f a:Int):Decidable (has fs f a):=by unfold has; infer_instance
def word (fs:List (List Int)) (f a:Int):Int:=(fs.getD f.toNat []).getD a.toNat 0
def load (fs:List (List Int)) (f a:Int):Int × Bool:=if has fs f a then (word fs f a,true) else (0,false)
def put (fs:List (List Int)) (f a v:Int):List (List Int):=fs.set f.toNat ((fs.getD f.toNat []).set a.toNat v)
def store (fs:List (List Int)) (f a v:Int):Bool × List (List Int):=if has fs f a then (true,put fs f a v) else (false,fs)
end Mem
theorem rb (x:Sl):(cS x).length = 1:=rfl
def memAt (ss:List Sl) (fs:List (List Int)) (f a:Int) (r:Ptr):Prop :=
  if Mem.has fs f a then ∃ s q,ss[f.toNat]? = some s∧s.a = some q∧r = some (q.1,q.2 + a.toNat * 1) else r = none
theorem sp_mem_at (b:Nat) (s:Sl) (ss:List Sl) (fs:List (List Int)) (hb:MemOk ss fs) (f a:Int):Sp Tryz.prog lM [pv (some (b,0)),.int .i64 f,.int .i64 a] sk (wG b s ss fs) (fun r=>pa_ (memAt ss fs f a r) (wG b s ss fs)):=by
  intro h st
  refine sim_mem_Mem_at _ _ _ ?_
  unfold sh_mem_Mem_at
  have hno:∀ {p:Prop},¬ p→(Mem.has fs f a→p)→memAt ss fs f a none:=fun hp himp=>by unfold memAt; rw [if_neg (fun hh=>hp (himp hh))]
  have hl:s.len = fs.length:=(cn (j:=1) st rfl).1.trans hb.len
  refine bk (fun k=>?_) (fun k=>?_)
  · have h0:0 ≤ f:=by simpa using k
    unfold cl
    refine sim_mem_Mem_Frames _ ?_
    unfold tK
    refine dv rfl (cC (bB s st (i:=0) rfl rfl rfl ?_))
    refine bk (fun k2=>?_) (fun k2=>?_)
    · have k2':¬ (f < fs.length∧0 ≤ a∧a < 16):=by simp [hl] at k2; omega
      exact bh (hno k2' (fun hh=>hh.2)) st
    · have k2':f < fs.length∧0 ≤ a∧a < 16:=by simp [hl] at k2; omega
      obtain ⟨n,rfl⟩:=Int.eq_ofNat_of_zero_le h0
      have hn:n < ss.length:=by rw [hb.len]; omega
      have hf:n < fs.length:=by omega
      refine cC (bB s st (i:=0) rfl rfl rfl ?_)
      refine dF st (j:=1) rfl (by omega) (by omega) fun q hq=>?_
      refine eB (j:=1) (i:=n) (k:=0) ss[n] rb st rfl hq (by simp) (aL hn) (by simp) ?_
      have hr:(wG b s ss fs)[2 + n]? = some (vU ss[n] fs[n]):=by
        show (blk b lD [sv s]::vec bt 1 cS s ss::rows ss fs)[2 + n]? = _
        rw [Nat.add_comm,List.getElem?_cons_succ,List.getElem?_cons_succ]
        exact rows_get ss fs n _ _ (aL hn) (aL hf)
      have hlen:fs[n].length = 16:=hb.row _ (List.getElem_mem hf)
      refine dF st (j:=2 + n) hr (by omega) (by omega) fun q2 hq2=>?_
      refine bh ?_ st
      unfold memAt
      rw [if_pos ⟨h0,k2'⟩]
      exact ⟨ss[n],q2,by simp [hn],hq2,rfl⟩
  · have k':¬ 0 ≤ f:=by simpa using k
    exact bh (hno k' (fun hh=>hh.1)) st
theorem qr (x:Ptr) (fs:List (List Int)) (f a:Int):Sp Tryz.prog ic [pv x,.int .i64 f,.int .i64 a] bV [ij x fs] (fun r=>pa_ (r = Mem.load fs f a) [ij x fs]):=by
  intro h s0
  obtain ⟨b,s,ss,rfl,hb,hl,st⟩:=mem_op s0
  refine sim_mem_Mem_Load _ _ _ ?_
  unfold sh_mem_Mem_Load
  rw [List.append_nil] at st
  refine cT (rest:=[]) [] (sp_mem_at b s ss fs hb f a) st (List.append_nil _).symm fun r h' s1=>?_
  obtain ⟨hr,s2⟩:=bH.1 s1
  rw [List.append_nil] at s2
  by_cases hh:Mem.has fs f a
  · unfold memAt at hr
    rw [if_pos hh] at hr
    obtain ⟨sr,q,h1,h2,rfl⟩:=hr
    obtain ⟨g1,g2,g3,g4⟩:=hh
    have hf:f.toNat < fs.length:=by omega
    have hrow:(wG b s ss fs)[2 + f.toNat]? = some (vU sr fs[f.toNat]):=by
      show (blk b lD [sv s]::vec bt 1 cS s ss::rows ss fs)[2 + f.toNat]? = _
      rw [Nat.add_comm,List.getElem?_cons_succ,List.getElem?_cons_succ]
      exact rows_get ss fs _ _ _ h1 (aL hf)
    have hlen:fs[f.toNat].length = 16:=hb.row _ (List.getElem_mem hf)
    have ha:a.toNat < fs[f.toNat].length:=by omega
    refine dv rfl (cC ?_)
    refine eB (j:=2 + f.toNat) (i:=a.toNat) (k:=0) (q:=q) fs[f.toNat][a.toNat] (dl _) s2 hrow h2 (by simp) (aL ha) (by simp) ?_
    refine bh ?_ (rL hb s2)
    unfold Mem.load
    rw [if_pos ⟨g1,g2,g3,g4⟩]
    simp [Mem.word,hf,ha]
  · unfold memAt at hr
    rw [if_neg hh] at hr
    subst hr
    refine df rfl ?_
    refine bh ?_ (rL hb s2)
    unfold Mem.load
    rw [if_neg hh]
theorem lE (x:Ptr) (fs:List (List Int)) (f a v:Int):Sp Tryz.prog fE [pv x,.int .i64 f,.int .i64 a,.int .u64 v] aG [ij x fs] (fun r=>pa_ (r = (Mem.store fs f a v).1) [ij x (Mem.store fs f a v).2]):=by
  intro h s0
  obtain ⟨b,s,ss,rfl,hb,hl,st⟩:=mem_op s0
  refine sim_mem_Mem_Store _ _ _ _ ?_
  unfold uU
  rw [List.append_nil] at st
  refine cT (rest:=[]) [] (sp_mem_at b s ss fs hb f a) st (List.append_nil _).symm fun r h' s1=>?_
  obtain ⟨hr,s2⟩:=bH.1 s1
  rw [List.append_nil] at s2
  by_cases hh:Mem.has fs f a
  · unfold memAt at hr
    rw [if_pos hh] at hr
    obtain ⟨sr,q,h1,h2,rfl⟩:=hr
    have e:Mem.store fs f a v = (true,Mem.put fs f a v):=if_pos hh
    rw [e]
    obtain ⟨g1,g2,g3,g4⟩:=hh
    have hf:f.toNat < fs.length:=by omega
    have hrow:(wG b s ss fs)[2 + f.toNat]? = some (vU sr fs[f.toNat]):=by
      show (blk b lD [sv s]::vec bt 1 cS s ss::rows ss fs)[2 + f.toNat]? = _
      rw [Nat.add_comm,List.getElem?_cons_succ,List.getElem?_cons_succ]
      exact rows_get ss fs _ _ _ h1 (aL hf)
    have hlen:fs[f.toNat].length = 16:=hb.row _ (List.getElem_mem hf)
    have ha:a.toNat < fs[f.toNat].length:=by omega
    refine dv rfl (cC ?_)
    refine st_v (j:=2 + f.toNat) (i:=a.toNat) (k:=0) (q:=q) v (dl _) s2 hrow h2 (by simp) (aL ha) (by simp) rfl fun h3 s3=>?_
    have eQ:(wG b s ss fs).set (2 + f.toNat) (vU sr (fs[f.toNat].set a.toNat v)) = wG b s ss (Mem.put fs f a v):=by
      show (blk b lD [sv s]::vec bt 1 cS s ss::rows ss fs).set (2 + f.toNat) _ = _
      rw [Nat.add_comm,List.set_cons_succ,List.set_cons_succ,rows_set ss fs _ _ _ h1]
      simp [wG,Mem.put,hf]
    rw [eQ] at s3
    refine bh rfl (rL ⟨by simp [Mem.put,hb.len],by simpa [Mem.put] using hb.le,?_⟩ s3)
    intro g hg
    unfold Mem.put at hg
    rcases List.mem_or_eq_of_mem_set hg with h4 | h4
    · exact hb.row _ h4
    · rw [h4]; simp [hf,hlen]
  · unfold memAt at hr
    rw [if_neg hh] at hr
    subst hr
    have e:Mem.store fs f a v = (false,fs):=if_neg hh
    rw [e]
    exact df rfl (bh rfl (rL hb s2))
namespace Mem
def cas (fs:List (List Int)) (f a o v:Int):(Int × Bool) × List (List Int) :=
  (load fs f a,if (load fs f a).2 && ((load fs f a).1 == o) then (store fs f a v).2 else fs)
def add (fs:List (List Int)) (f a v:Int):(Int × Bool) × List (List Int) :=
  (load fs f a,(store fs f a (IntKind.u64.wrap ((load fs f a).1 + v))).2)
def zero (fs:List (List Int)) (f:Int):Bool × List (List Int) :=
  if has fs f 0 then (true,fs.set f.toNat (List.replicate 16 0)) else (false,fs)
def frame (fs:List (List Int)) (f:Int):List Int:=if has fs f 0 then fs.getD f.toNat [] else []
end Mem
theorem sp_mem_Cas (x:Ptr) (fs:List (List Int)) (f a o v:Int):Sp Tryz.prog qc [pv x,.int .i64 f,.int .i64 a,.int .u64 o,.int .u64 v] bV [ij x fs] (fun r=>pa_ (r = (Mem.cas fs f a o v).1) [ij x (Mem.cas fs f a o v).2]):=by
  intro h s0
  refine sim_mem_Mem_Cas _ _ _ _ _ ?_
  unfold sh_mem_Mem_Cas
  refine cT [0] (qr x fs f a) s0 rfl fun r h' s1=>?_
  obtain ⟨hr,s2⟩:=bH.1 s1
  subst hr
  refine bk (fun k=>?_) (fun k=>?_)
  · refine cT [0] (lE x fs f a v) s2 rfl fun r h' s3=>?_
    obtain ⟨_,s4⟩:=bH.1 s3
    refine bh rfl ?_
    simp only [Mem.cas,k,if_true]
    exact s4
  · refine bh rfl ?_
    simp only [Mem.cas,k,Bool.false_eq_true,if_false]
    exact s2
theorem sp_mem_Add (x:Ptr) (fs:List (List Int)) (f a v:Int):Sp Tryz.prog qd [pv x,.int .i64 f,.int .i64 a,.int .u64 v] bV [ij x fs] (fun r=>pa_ (r = (Mem.add fs f a v).1) [ij x (Mem.add fs f a v).2]):=by
  intro h s0
  refine sim_mem_Mem_Add _ _ _ _ ?_
  unfold sh_mem_Mem_Add
  refine cT [0] (qr x fs f a) s0 rfl fun r h' s1=>?_
  obtain ⟨hr,s2⟩:=bH.1 s1
  subst hr
  refine cT [0] (lE x fs f a _) s2 rfl fun r h' s3=>?_
  obtain ⟨_,s4⟩:=bH.1 s3
  exact bh rfl s4
theorem sp_slices_Clone (s:Sl) (xs:List Int) (hb:xs.length < 2 ^ 40):Sp Tryz.prog gz [sv s] ck [vU s xs] (fun r=>aQ [vU r xs,vU s xs]):=by
  intro h s0
  refine pL _ ?_
  unfold jJ
  refine bk (fun k=>?_) (fun k=>?_)
  · have hn:xs = []:=by
      obtain ⟨_,⟨e1,e2,e3⟩,_⟩:=ee (i:=0) rfl s0
      rcases e3 with e3 | ⟨b,pre,rest,U,fr,h4,_⟩
      · exact List.eq_nil_of_length_eq_zero (by omega)
      · rw [h4] at k; cases k
    subst hn
    exact ft s0
  · refine fz (τ:=Int) [] (val:=fun x=>.int .u64 x) (enc:=cI .u64) fS (dl _) (fun _=>rfl) s0 rfl rfl (by simp) fun y h' s1=>?_
    refine tq (τ:=Int) (i:=0) (j:=1) (enc:=cI .u64) (xs:=[]) (ys:=xs) fS fS.sl (dl _) (oneI _) s1 rfl rfl (by omega) (by simp; omega) (by simp; omega) fun v h2 s2=>?_
    exact s2
theorem mem_has {ss:List Sl} {fs:List (List Int)} {f a:Int} {r:Ptr} (hr:memAt ss fs f a r):(Mem.has fs f a↔r ≠ none):=by
  unfold memAt at hr
  split at hr
  · obtain ⟨s,q,_,_,rfl⟩:=hr; simp [*]
  · simp [*]
theorem mem_row {b:Nat} {s:Sl} {ss:List Sl} {fs:List (List Int)} {i:Nat} (hb:MemOk ss fs) (hi:i < fs.length):∃ sr,ss[i]? = some sr∧(wG b s ss fs)[2 + i]? = some (vU sr fs[i]):=by
  have hn:i < ss.length:=by rw [hb.len]; exact hi
  refine ⟨ss[i],aL hn,?_⟩
  show (blk b lD [sv s]::vec bt 1 cS s ss::rows ss fs)[2 + i]? = _
  rw [Nat.add_comm,List.getElem?_cons_succ,List.getElem?_cons_succ]
  exact rows_get ss fs i _ _ (aL hn) (aL hi)
theorem mem_set {b:Nat} {s:Sl} {ss:List Sl} {fs:List (List Int)} {i:Nat} {sr:Sl} {g:List Int} (h1:ss[i]? = some sr):(wG b s ss fs).set (2 + i) (vU sr g) = wG b s ss (fs.set i g):=by
  show (blk b lD [sv s]::vec bt 1 cS s ss::rows ss fs).set (2 + i) _ = _
  rw [Nat.add_comm,List.set_cons_succ,List.set_cons_succ,rows_set ss fs _ _ _ h1]; rfl
theorem mem_ok_set {ss:List Sl} {fs:List (List Int)} {i:Nat} {g:List Int} (hb:MemOk ss fs) (hg:g.length = 16):MemOk ss (fs.set i g) :=
  ⟨by simp [hb.len],by simpa using hb.le,fun f hf=>by
    rcases List.mem_or_eq_of_mem_set hf with h4 | h4
    · exact hb.row _ h4
    · rw [h4]; exact hg⟩
theorem sp_mem_Zero (x:Ptr) (fs:List (List Int)) (f:Int):Sp Tryz.prog sS [pv x,.int .i64 f] aG [ij x fs] (fun r=>pa_ (r = (Mem.zero fs f).1) [ij x (Mem.zero fs f).2]):=by
  intro h s0
  obtain ⟨b,s,ss,rfl,hb,hl,st⟩:=mem_op s0
  refine sim_mem_Mem_Zero _ _ ?_
  unfold sh_mem_Mem_Zero
  rw [List.append_nil] at st
  refine cT (rest:=[]) [] (sp_mem_at b s ss fs hb f 0) st (List.append_nil _).symm fun r h' s1=>?_
  obtain ⟨hr,s2⟩:=bH.1 s1
  rw [List.append_nil] at s2
  have hh:=mem_has hr
  refine bk (fun k=>?_) (fun k=>?_)
  · have:¬ Mem.has fs f 0:=by rw [hh]; cases r <;> simp_all
    have e:Mem.zero fs f = (false,fs):=if_neg this
    rw [e]
    exact bh rfl (rL hb s2)
  · have hy:Mem.has fs f 0:=by rw [hh]; cases r <;> simp_all
    have e:Mem.zero fs f = (true,fs.set f.toNat (List.replicate 16 0)):=if_pos hy
    rw [e]
    obtain ⟨g1,g2,_⟩:=hy
    obtain ⟨n,rfl⟩:=Int.eq_ofNat_of_zero_le g1
    have hf:n < fs.length:=by omega
    obtain ⟨sr,h1,hrow⟩:=mem_row (b:=b) (s:=s) hb hf
    have hn:n < ss.length:=by rw [hb.len]; exact hf
    refine cC (bB s s2 (i:=0) rfl rfl rfl ?_)
    refine dF s2 (j:=1) rfl (by omega) (by omega) fun q hq=>?_
    refine eB (j:=1) (i:=n) (k:=0) sr rb s2 rfl hq (by simp) h1 (by simp) ?_
    refine clear_v (τ:=Int) (x0:=0) (enc:=cI .u64) fS rfl (dl _) (oneI _) s2 hrow fun h3 s3=>?_
    rw [mem_set h1,hb.row _ (List.getElem_mem hf)] at s3
    exact bh rfl (rL (mem_ok_set hb (by simp)) s3)
theorem sp_mem_Frame (x:Ptr) (fs:List (List Int)) (f:Int):Sp Tryz.prog qU [pv x,.int .i64 f] ck [ij x fs] (fun r=>aQ [vU r (Mem.frame fs f),ij x fs]):=by
  intro h s0
  obtain ⟨b,s,ss,rfl,hb,hl,st⟩:=mem_op s0
  refine sim_mem_Mem_Frame _ _ ?_
  unfold uV
  rw [List.append_nil] at st
  refine cT (rest:=[]) [] (sp_mem_at b s ss fs hb f 0) st (List.append_nil _).symm fun r h' s1=>?_
  obtain ⟨hr,s2⟩:=bH.1 s1
  rw [List.append_nil] at s2
  have hh:=mem_has hr
  refine bk (fun k=>?_) (fun k=>?_)
  · have:¬ Mem.has fs f 0:=by rw [hh]; cases r <;> simp_all
    have e:Mem.frame fs f = []:=if_neg this
    rw [e]
    exact ft (rL hb s2)
  · have hy:Mem.has fs f 0:=by rw [hh]; cases r <;> simp_all
    have e:Mem.frame fs f = fs.getD f.toNat []:=if_pos hy
    rw [e]
    obtain ⟨g1,g2,_⟩:=hy
    obtain ⟨n,rfl⟩:=Int.eq_ofNat_of_zero_le g1
    have hf:n < fs.length:=by omega
    obtain ⟨sr,h1,hrow⟩:=mem_row (b:=b) (s:=s) hb hf
    have hn:n < ss.length:=by rw [hb.len]; exact hf
    have hlen:=hb.row _ (List.getElem_mem hf)
    refine cC (bB s s2 (i:=0) rfl rfl rfl ?_)
    refine dF s2 (j:=1) rfl (by omega) (by omega) fun q hq=>?_
    refine eB (j:=1) (i:=n) (k:=0) sr rb s2 rfl hq (by simp) h1 (by simp) ?_
    have hp:pick [2 + n] (wG b s ss fs) = [vU sr fs[n]]++(wG b s ss fs).eraseIdx (2 + n):=by
      unfold pick; rw [hrow]; rfl
    refine cT [2 + n] (sp_slices_Clone sr fs[n] (by omega)) s2 hp fun r2 h3 s3=>?_
    have e2:fs.getD (n:Int).toNat [] = fs[n]:=by simp [hf]
    rw [e2]
    have hlt:=(List.getElem?_eq_some_iff.1 hrow).1
    refine uH (dJ s3) fun h4 s4=>?_
    have s5:=eJ hlt s4
    rw [mem_set h1] at s5
    exact rL hb (by simpa using s5)
theorem sp_mem_New (n:Int) (h1:¬ n < 1) (h2:¬ n > 16):Sp Tryz.prog vm [.int .i64 n] tu [] (fun r=>aQ [ij r (List.replicate n.toNat (List.replicate 16 0))]):=by
  intro h st
  refine sim_mem_New _ ?_
  unfold sh_mem_New
  obtain ⟨m,rfl⟩:=Int.eq_ofNat_of_zero_le (show 0 ≤ n by omega)
  refine dv (by simp; omega) ?_
  refine oT st fun b h' s1=>?_
  refine Lp.intro (fun (i:Int) h=>∃ (k:Nat) (s:Sl) (ss:List Sl),i = k∧k ≤ m∧ss.length = k∧aQ (wG b s ss (List.replicate k (List.replicate 16 0))) h) (fun (i:Int) _=>m - i.toNat)
    ⟨0,⟨none,0,0,none⟩,[],rfl,Nat.zero_le _,rfl,bn [1] (ft s1) rfl⟩ ?_
  rintro i h ⟨k,s,ss,rfl,hk,hss,s2⟩
  unfold mem_New_l1
  refine bk (fun c=>?_) (fun c=>?_)
  · have hlt:k < m:=by simpa using c
    have hw:IntKind.i64.wrap ((k:Int) + 1) = ((k + 1:Nat):Int):=by rw [cm (by omega) (by omega)]; rfl
    refine bB s s2 (i:=0) rfl rfl rfl ?_
    refine nF (τ:=Int) (x0:=0) (enc:=cI .u64) (n:=16) fS rfl s2 (by omega) (by omega) fun v h3 s3=>?_
    refine fz (τ:=Sl) [v] (val:=sv) (enc:=cS) uk rb (fun _=>rfl) s3 rfl rfl (by simp) fun y h4 s4=>?_
    refine tq (τ:=Sl) (i:=3) (j:=0) (enc:=cS) (xs:=ss) (ys:=[v]) uk uk.sl rb oneS s4 rfl rfl (by omega) (by simp; omega) (by simp; omega) fun w h5 s5=>?_
    refine tw (i:=2) s5 rfl (Nat.le_refl _) fun h6 s6=>?_
    rw [hw]
    refine ⟨⟨k + 1,w,ss++[v],rfl,hlt,by simp [hss],?_⟩,by simp; omega⟩
    have s7:aQ (vU v (List.replicate 16 0)::blk b lD [sv w]::vec bt 1 cS w (ss++[v])::rows ss (List.replicate k (List.replicate 16 0))) h6:=cj (l:=[vec bt 1 cS y [v]]) s6
    have s8:=bn [1,1] s7 rfl
    unfold wG
    rw [show List.replicate (k + 1) (List.replicate 16 (0:Int)) = List.replicate k (List.replicate 16 0)++[List.replicate 16 0] from by simp [List.replicate_succ'],rows_app _ _ _ _ (by simp [hss])]
    exact ko (.cons _ (.cons _ (List.perm_append_comm (l₁:=[_])))) s8
  · have:k = m:=by simp at c; omega
    subst this
    exact rL ⟨by simp [hss],by simp; omega,fun f hf=>by rw [(List.mem_replicate.1 hf).2]; simp⟩ s2
end Go.Proofs.YtniiiakkdoiaiaaGreatDoor
namespace Go.Proofs.YtniiiakkdoiaiaaGreatDoor
open Go Mb
set_option linter.unusedVariables false
def mw (a0:Int) (K:Sl→Hp→Prop) (s27:Bool):Hp→Prop:=br s27 ( hpv Tryz.prog (Instr.buildSlice dN 3 #[(0,(.int .i64 1)),(1,(.int .i64 2)),(2,(.int .i64 6))]) cG fun (v33:Sl)=>K v33) ( br (a0 == 22) ( hpv Tryz.prog (Instr.buildSlice dN 4 #[(0,(.int .i64 1)),(1,(.int .i64 2)),(2,(.int .i64 6)),(3,(.int .i64 6))]) cG fun (v36:Sl)=>K v36) ( K (⟨none,0,0,none⟩:Sl)))
def jf (a0:Int) (K:Sl→Hp→Prop) (s1:Bool):Hp→Prop:=br s1 ( hpv Tryz.prog (Instr.buildSlice dN 1 #[(0,(.int .i64 0))]) cG fun (v8:Sl)=>K v8) ( br (a0 == 2) ( hpv Tryz.prog (Instr.buildSlice dN 3 #[(0,(.int .i64 0)),(1,(.int .i64 0)),(2,(.int .i64 4))]) cG fun (v11:Sl)=>K v11) ( br (a0 == 3) ( hpv Tryz.prog (Instr.buildSlice dN 4 #[(0,(.int .i64 0)),(1,(.int .i64 3)),(2,(.int .i64 0)),(3,(.int .i64 4))]) cG fun (v14:Sl)=>K v14) ( br (a0 == 6) ( hpv Tryz.prog (Instr.buildSlice dN 3 #[(0,(.int .i64 1)),(1,(.int .i64 0)),(2,(.int .i64 4))]) cG fun (v17:Sl)=>K v17) ( br (a0 == 7) ( hpv Tryz.prog (Instr.buildSlice dN 1 #[(0,(.int .i64 1))]) cG fun (v20:Sl)=>K v20) ( br (a0 == 8) ( hpv Tryz.prog (Instr.buildSlice dN 2 #[(0,(.int .i64 1)),(1,(.int .i64 4))]) cG fun (v23:Sl)=>K v23) ( br (a0 == 9) ( hpv Tryz.prog (Instr.buildSlice dN 4 #[(0,(.int .i64 0)),(1,(.int .i64 2)),(2,(.int .i64 5)),(3,(.int .i64 6))]) cG fun (v26:Sl)=>K v26) ( br (a0 == 20) ( hpv Tryz.prog (Instr.buildSlice dN 2 #[(0,(.int .i64 1)),(1,(.int .i64 2))]) cG fun (v29:Sl)=>K v29) ( br (a0 == 21) ( mw a0 K (a0 == 21)) ( mw a0 K (a0 == 23))))))))))
def sh_word_kinds (a0:Int) (K:Sl→Hp→Prop):Hp→Prop:=br (a0 == 1) ( jf a0 K (a0 == 1)) ( br (a0 == 4) ( jf a0 K (a0 == 4)) ( jf a0 K (a0 == 5)))
set_option maxRecDepth 20000 in
theorem sim_word_kinds (a0:Int) {K:Sl→Hp→Prop} {h:Hp} (H:sh_word_kinds a0 K h):Ct Tryz.prog rJ #[(.int .i64 a0)] h fun v h'=>∃ r,v = cG r∧K r h':=aC [(.int .i64 a0)] Tryz.func137 rfl rfl rfl fun _=>ag<|ab<|aa (ae rfl) rfl<|ad<|ag<|ag<|ab<|aa (ac rfl) rfl<|ad<|aF<|eG (jf a0 K) (fun s1=>[(3,(.int .i64 a0)),(4,(.bool s1))]) (fun s1=>[]) ( ag<|ab<|aa (cc rfl rfl) rfl<|aa (ae rfl) rfl<|ad<|aD rfl H (fun k37 H38=>au<|cQ (a0 == 1) H38 (.cons rfl (.cons rfl (.nil _))) .slnil) (fun k37 H38=>ag<|ab<|aa (cc rfl rfl) rfl<|aa (ae rfl) rfl<|ad<|aD rfl H38 (fun k39 H40=>au<|cQ (a0 == 4) H40 (.cons rfl (.cons rfl (.nil _))) .slnil) (fun k39 H40=>ab<|aa (cc rfl rfl) rfl<|aa (ae rfl) rfl<|ad<|cQ (a0 == 5) H40 (.cons rfl (.cons rfl (.nil _))) .slnil))) (fun s1 _ H2=>aD rfl H2 (fun k3 H4=>ag<|ab<|aj (be H4 (bK (vs:=[(.int .i64 0)]) rfl) rfl fun v8 _ H5=>aa (ae rfl) rfl<|ad<|an<|av (az rfl (aE rfl)) ⟨v8,rfl,H5⟩)) (fun k3 H4=>ag<|ab<|aa (cc rfl rfl) rfl<|aa (ae rfl) rfl<|ad<|aD rfl H4 (fun k6 H7=>ag<|ab<|aj (be H7 (bK (vs:=[(.int .i64 0),(.int .i64 0),(.int .i64 4)]) rfl) rfl fun v11 _ H8=>aa (ae rfl) rfl<|ad<|an<|av (az rfl (aE rfl)) ⟨v11,rfl,H8⟩)) (fun k6 H7=>ag<|ab<|aa (cc rfl rfl) rfl<|aa (ae rfl) rfl<|ad<|aD rfl H7 (fun k9 H10=>ag<|ab<|aj (be H10 (bK (vs:=[(.int .i64 0),(.int .i64 3),(.int .i64 0),(.int .i64 4)]) rfl) rfl fun v14 _ H11=>aa (ae rfl) rfl<|ad<|an<|av (az rfl (aE rfl)) ⟨v14,rfl,H11⟩)) (fun k9 H10=>ag<|ab<|aa (cc rfl rfl) rfl<|aa (ae rfl) rfl<|ad<|aD rfl H10 (fun k12 H13=>ag<|ab<|aj (be H13 (bK (vs:=[(.int .i64 1),(.int .i64 0),(.int .i64 4)]) rfl) rfl fun v17 _ H14=>aa (ae rfl) rfl<|ad<|an<|av (az rfl (aE rfl)) ⟨v17,rfl,H14⟩)) (fun k12 H13=>ag<|ab<|aa (cc rfl rfl) rfl<|aa (ae rfl) rfl<|ad<|aD rfl H13 (fun k15 H16=>ag<|ab<|aj (be H16 (bK (vs:=[(.int .i64 1)]) rfl) rfl fun v20 _ H17=>aa (ae rfl) rfl<|ad<|an<|av (az rfl (aE rfl)) ⟨v20,rfl,H17⟩)) (fun k15 H16=>ag<|ab<|aa (cc rfl rfl) rfl<|aa (ae rfl) rfl<|ad<|aD rfl H16 (fun k18 H19=>ag<|ab<|aj (be H19 (bK (vs:=[(.int .i64 1),(.int .i64 4)]) rfl) rfl fun v23 _ H20=>aa (ae rfl) rfl<|ad<|an<|av (az rfl (aE rfl)) ⟨v23,rfl,H20⟩)) (fun k18 H19=>ag<|ab<|aa (cc rfl rfl) rfl<|aa (ae rfl) rfl<|ad<|aD rfl H19 (fun k21 H22=>ag<|ab<|aj (be H22 (bK (vs:=[(.int .i64 0),(.int .i64 2),(.int .i64 5),(.int .i64 6)]) rfl) rfl fun v26 _ H23=>aa (ae rfl) rfl<|ad<|an<|av (az rfl (aE rfl)) ⟨v26,rfl,H23⟩)) (fun k21 H22=>ag<|ab<|aa (cc rfl rfl) rfl<|aa (ae rfl) rfl<|ad<|aD rfl H22 (fun k24 H25=>ag<|ab<|aj (be H25 (bK (vs:=[(.int .i64 1),(.int .i64 2)]) rfl) rfl fun v29 _ H26=>aa (ae rfl) rfl<|ad<|an<|av (az rfl (aE rfl)) ⟨v29,rfl,H26⟩)) (fun k24 H25=>eG (mw a0 K) (fun s27=>[(3,(.int .i64 a0)),(30,(.bool s27))]) (fun s27=>[]) ( ag<|ab<|aa (cc rfl rfl) rfl<|aa (ae rfl) rfl<|ad<|aD rfl H25 (fun k35 H36=>au<|cQ (a0 == 21) H36 (.cons rfl (.cons rfl (.nil _))) .slnil) (fun k35 H36=>ab<|aa (cc rfl rfl) rfl<|aa (ae rfl) rfl<|ad<|cQ (a0 == 23) H36 (.cons rfl (.cons rfl (.nil _))) .slnil)) (fun s27 _ H28=>aD rfl H28 (fun k29 H30=>ag<|ab<|aj (be H30 (bK (vs:=[(.int .i64 1),(.int .i64 2),(.int .i64 6)]) rfl) rfl fun v33 _ H31=>aa (ae rfl) rfl<|ad<|an<|av (az rfl (aE rfl)) ⟨v33,rfl,H31⟩)) (fun k29 H30=>ag<|ab<|aa (cc rfl rfl) rfl<|aa (ae rfl) rfl<|ad<|aD rfl H30 (fun k32 H33=>ag<|ab<|aj (be H33 (bK (vs:=[(.int .i64 1),(.int .i64 2),(.int .i64 6),(.int .i64 6)]) rfl) rfl fun v36 _ H34=>aa (ae rfl) rfl<|ad<|an<|av (az rfl (aE rfl)) ⟨v36,rfl,H34⟩)) (fun k32 H33=>au<|ag<|ab<|aa (ae rfl) rfl<|ad<|an<|av (az rfl (aE rfl)) ⟨(⟨none,0,0,none⟩:Sl),rfl,H33⟩))))))))))))
def tz (a0:ao) (a1:Int) (K:(Int × Bool)→Hp→Prop) (s1:Bool):Hp→Prop:=br s1 ( K (0,false)) ( gd (0 ≤ a1∧a1 < 5)<|K ((IntKind.i64.wrap (ao.get a0 a1)),true))
def sh_word_Arg (a0:ao) (a1:Int) (a2:Int) (K:(Int × Bool)→Hp→Prop):Hp→Prop:=br (!(((decide (a1 < 1)) || (decide (a1 ≥ 5))) || (decide (a2 ≤ 0)))) ( gd (0 ≤ a1∧a1 < 5)<|tz a0 a1 K (decide ((ao.get a0 a1) ≥ (IntKind.u64.wrap a2)))) ( tz a0 a1 K true)
set_option maxRecDepth 20000 in
theorem sim_word_Arg (a0:ao) (a1:Int) (a2:Int) {K:(Int × Bool)→Hp→Prop} {h:Hp} (H:sh_word_Arg a0 a1 a2 K h):Ct Tryz.prog mY #[(.agg (ao.C a0).toArray),(.int .i64 a1),(.int .i64 a2)] h fun v h'=>∃ r,v = bZ r∧K r h':=aC [(.agg (ao.C a0).toArray),(.int .i64 a1),(.int .i64 a2)] Tryz.func144 rfl rfl rfl fun _=>ag<|ab<|aj (cH (l:=(ao.C a0)) rfl rfl rfl fun b3=>aa (ae rfl) rfl<|aa (ae rfl) rfl<|ad<|ag<|eG (tz a0 a1 K) (fun s1=>[(1,(.int .i64 a1)),(3,(.pointer (some ⟨b3,0,none⟩))),(25,(.bool s1))]) (fun s1=>[bx b3 27 (ao.C a0)]) ( ab<|aa (ac rfl) rfl<|aa (cA rfl rfl) rfl<|aa (ac rfl) rfl<|ai rfl rfl rfl (aS _) (fun g7=>wv (ac rfl)) rfl<|ai rfl rfl rfl (aS _) (fun g8=>wv (hO (aK rfl g8) rfl)) rfl<|aa (du rfl rfl) rfl<|aa (ac rfl) rfl<|ai rfl rfl rfl (aS _) (fun g9=>wv (ac rfl)) rfl<|ai rfl rfl rfl (aS _) (fun g10=>wv (uF (aK rfl g10) rfl)) rfl<|aa (du rfl rfl) rfl<|aa (ac rfl) rfl<|ai rfl rfl rfl (aS _) (fun g11=>wv (ac rfl)) rfl<|bW H (fun k13 H14=>il H14 fun h15 H16=>aI rfl rfl rfl (congrArg Value.bool (bL k13)) (aN (wv (bJ dk rfl (aK rfl k13) h15)) rfl<|aI rfl rfl rfl (congrArg Value.bool (bL k13)) (aN (cv (bq (k:=0) cD rfl rfl (at_27 _ _ h15))) rfl<|aI rfl rfl rfl (congrArg Value.bool (bL k13)) (aN (wv (ac rfl)) rfl<|aI rfl rfl rfl (congrArg Value.bool (bL k13)) (aN (wv (dY ⟨_,Tryz.underlying3⟩ Tryz.underlying25 rfl)) rfl<|aI rfl rfl rfl (congrArg Value.bool (bL k13)) (aN (wv (hO rfl rfl)) rfl<|aa (ax rfl (bL k13) rfl) rfl<|ad<|cQ (decide ((ao.get a0 a1) ≥ (IntKind.u64.wrap a2))) H16 (.cons rfl (.cons rfl (.cons rfl (.nil _)))) (.cons_cons _ .slnil))))))) (fun k13 H14=>al rfl rfl rfl (bF (bp k13)) rfl<|al rfl rfl rfl (bF (bp k13)) rfl<|al rfl rfl rfl (bF (bp k13)) rfl<|al rfl rfl rfl (bF (bp k13)) rfl<|al rfl rfl rfl (bF (bp k13)) rfl<|aa (aT rfl (bp k13) rfl) rfl<|ad<|cQ true H14 (.cons rfl (.cons rfl (.cons rfl (.nil _)))) (.cons_cons _ .slnil))) (fun s1 _ H2=>aD rfl H2 (fun k3 H4=>ag<|ab<|aa (ae rfl) rfl<|aa (ae rfl) rfl<|ad<|an<|av (cf rfl (aE rfl) (aE rfl)) ⟨(0,false),rfl,H4⟩) (fun k3 H4=>au<|ag<|ab<|aa (ac rfl) rfl<|il H4 fun h5 H6=>aa (bJ dk rfl rfl h5) rfl<|bz (bq (k:=0) cD rfl rfl (at_27 _ _ h5)) rfl<|aa (dY ⟨_,Tryz.underlying25⟩ Tryz.underlying3 rfl) rfl<|aa (ae rfl) rfl<|aa (ae rfl) rfl<|ad<|an<|av (cf rfl (aE rfl) (aE rfl)) ⟨((IntKind.i64.wrap (ao.get a0 a1)),true),rfl,H6⟩)))
def sh_word_fits (a0:ao) (a1:Int) (a2:Int) (a3:Int) (K:Bool→Hp→Prop):Hp→Prop:=br (a2 == 0) ( cl Tryz.prog mY [(.agg (ao.C a0).toArray),(.int .i64 a1),(.int .i64 8)] bZ fun r16=>K r16.2) ( br (a2 == 1) ( cl Tryz.prog mY [(.agg (ao.C a0).toArray),(.int .i64 a1),(.int .i64 8)] bZ fun r24=>K r24.2) ( br (a2 == 2) ( cl Tryz.prog mY [(.agg (ao.C a0).toArray),(.int .i64 a1),(.int .i64 16)] bZ fun r32=>K r32.2) ( br (a2 == 3) ( cl Tryz.prog mY [(.agg (ao.C a0).toArray),(.int .i64 a1),(.int .i64 a3)] bZ fun r41=>K r41.2) ( br (a2 == 4) ( gd (0 ≤ a1∧a1 < 5)<|K ((la (ao.get a0 a1)).2)) ( br (a2 == 5) ( gd (0 ≤ a1∧a1 < 5)<|K ((decide ((ao.get a0 a1) ≥ 1)) && (decide ((ao.get a0 a1) ≤ 4)))) ( K true))))))
set_option maxRecDepth 20000 in
theorem sim_word_fits (a0:ao) (a1:Int) (a2:Int) (a3:Int) {K:Bool→Hp→Prop} {h:Hp} (H:sh_word_fits a0 a1 a2 a3 K h):Ct Tryz.prog n_word_fits #[(.agg (ao.C a0).toArray),(.int .i64 a1),(.int .i64 a2),(.int .i64 a3)] h fun v h'=>∃ r,v = aG r∧K r h':=aC [(.agg (ao.C a0).toArray),(.int .i64 a1),(.int .i64 a2),(.int .i64 a3)] Tryz.func138 rfl rfl rfl fun _=>ag<|ab<|aj (cH (l:=(ao.C a0)) rfl rfl rfl fun b4=>aa (ae rfl) rfl<|ad<|ag<|ab<|aa (ae rfl) rfl<|ad<|ag<|ag<|ab<|aa (ac rfl) rfl<|ad<|aF<|ag<|ab<|aa (cc rfl rfl) rfl<|aa (ae rfl) rfl<|ad<|aD rfl H (fun k1 H2=>ab<|bz (bO (k:=0) eN rfl rfl rfl rfl) rfl<|aa (ac rfl) rfl<|aj (aA H2 en_144 rfl rfl fun r16 _ H3=>aa (ac rfl) rfl<|aa (ap rfl rfl) rfl<|aa (ap rfl rfl) rfl<|aa (ae rfl) rfl<|ad<|ag<|ab<|aa (ac rfl) rfl<|aa (ae rfl) rfl<|ad<|an<|av (az rfl (aE rfl)) ⟨r16.2,rfl,H3⟩)) (fun k1 H2=>ag<|ab<|aa (cc rfl rfl) rfl<|aa (ae rfl) rfl<|ad<|aD rfl H2 (fun k4 H5=>ab<|bz (bO (k:=0) eN rfl rfl rfl rfl) rfl<|aa (ac rfl) rfl<|aj (aA H5 en_144 rfl rfl fun r24 _ H6=>aa (ac rfl) rfl<|aa (ap rfl rfl) rfl<|aa (ap rfl rfl) rfl<|aa (ae rfl) rfl<|ad<|ag<|ab<|aa (ac rfl) rfl<|aa (ae rfl) rfl<|ad<|an<|av (az rfl (aE rfl)) ⟨r24.2,rfl,H6⟩)) (fun k4 H5=>ag<|ab<|aa (cc rfl rfl) rfl<|aa (ae rfl) rfl<|ad<|aD rfl H5 (fun k7 H8=>ab<|bz (bO (k:=0) eN rfl rfl rfl rfl) rfl<|aa (ac rfl) rfl<|aj (aA H8 en_144 rfl rfl fun r32 _ H9=>aa (ac rfl) rfl<|aa (ap rfl rfl) rfl<|aa (ap rfl rfl) rfl<|aa (ae rfl) rfl<|ad<|ag<|ab<|aa (ac rfl) rfl<|aa (ae rfl) rfl<|ad<|an<|av (az rfl (aE rfl)) ⟨r32.2,rfl,H9⟩)) (fun k7 H8=>ag<|ab<|aa (cc rfl rfl) rfl<|aa (ae rfl) rfl<|ad<|aD rfl H8 (fun k10 H11=>ab<|bz (bO (k:=0) eN rfl rfl rfl rfl) rfl<|aa (ac rfl) rfl<|aa (ac rfl) rfl<|aj (aA H11 en_144 rfl rfl fun r41 _ H12=>aa (ac rfl) rfl<|aa (ap rfl rfl) rfl<|aa (ap rfl rfl) rfl<|aa (ae rfl) rfl<|ad<|ag<|ab<|aa (ac rfl) rfl<|aa (ae rfl) rfl<|ad<|an<|av (az rfl (aE rfl)) ⟨r41.2,rfl,H12⟩)) (fun k10 H11=>ag<|ab<|aa (cc rfl rfl) rfl<|aa (ae rfl) rfl<|ad<|aD rfl H11 (fun k13 H14=>ab<|aa (ac rfl) rfl<|il H14 fun h15 H16=>aa (bJ dk rfl rfl h15) rfl<|bz (bq (k:=0) cD rfl rfl (at_27 _ _ h15)) rfl<|aj (cL (vs:=[(.int .u64 (ao.get a0 a1))]) (bI (ct_word_Rights (ao.get a0 a1) _)) en_176 rfl rfl<|aa (ac rfl) rfl<|aa (ap rfl rfl) rfl<|aa (ap rfl rfl) rfl<|aa (ae rfl) rfl<|ad<|ag<|ab<|aa (ac rfl) rfl<|aa (ae rfl) rfl<|ad<|an<|av (az rfl (aE rfl)) ⟨(la (ao.get a0 a1)).2,rfl,H16⟩)) (fun k13 H14=>ag<|ab<|aa (cc rfl rfl) rfl<|aa (ae rfl) rfl<|ad<|aD rfl H14 (fun k17 H18=>ab<|aa (ac rfl) rfl<|il H18 fun h19 H20=>aa (bJ dk rfl rfl h19) rfl<|bz (bq (k:=0) cD rfl rfl (at_27 _ _ h19)) rfl<|aa (hO rfl rfl) rfl<|aa (ac rfl) rfl<|ai rfl rfl rfl (aB _) (fun g21=>wv (ac rfl)) rfl<|ai rfl rfl rfl (aB _) (fun g22=>wv (bJ dk rfl (aK rfl g22) h19)) rfl<|ai rfl rfl rfl (aB _) (fun g23=>cv (bq (k:=0) cD (aK rfl g23) rfl (at_27 _ _ h19))) rfl<|ai rfl rfl rfl (aB _) (fun g24=>wv (uF (aK rfl g24) rfl)) rfl<|aa (bX rfl rfl) rfl<|aa (ae rfl) rfl<|ad<|ag<|ab<|aa (ac rfl) rfl<|aa (ae rfl) rfl<|ad<|an<|av (az rfl (aE rfl)) ⟨((decide ((ao.get a0 a1) ≥ 1)) && (decide ((ao.get a0 a1) ≤ 4))),rfl,H20⟩) (fun k17 H18=>au<|ag<|ab<|aa (ac rfl) rfl<|aa (ae rfl) rfl<|ad<|an<|av (az rfl (aE rfl)) ⟨true,rfl,H18⟩)))))))
def um (a0:ao) (a1:Int) (K:Int→Hp→Prop) (r17:Sl) (Rec5:Int→Hp→Prop) (s4:Int):Hp→Prop:=br (decide (s4 < (r17.len:Int))) ( ix r17 s4 fun q22=>ld (q22.1,q22.2 + Int.toNat s4 * 1) (cI .i64) fun x23=>cl Tryz.prog n_word_fits [(.agg (ao.C a0).toArray),(.int .i64 (IntKind.i64.wrap (s4 + 1))),(.int .i64 x23),(.int .i64 a1)] aG fun r29=>br (!r29) ( K 2) ( Rec5 (IntKind.i64.wrap (s4 + 1)))) ( K 0)
def sh_word_Check (a0:ao) (a1:Int) (K:Int→Hp→Prop):Hp→Prop:=br (!(aP a0).2) ( K 1) ( cl Tryz.prog rJ [(.int .i64 ((aP a0).1))] cG fun r17=>Lp (um a0 a1 K r17) 0)
set_option maxRecDepth 20000 in
theorem sim_word_Check (a0:ao) (a1:Int) {K:Int→Hp→Prop} {h:Hp} (H:sh_word_Check a0 a1 K h):Ct Tryz.prog gO #[(.agg (ao.C a0).toArray),(.int .i64 a1)] h fun v h'=>∃ r,v = bw r∧K r h':=aC [(.agg (ao.C a0).toArray),(.int .i64 a1)] Tryz.func95 rfl rfl rfl fun _=>ag<|ab<|aj (cH (l:=(ao.C a0)) rfl rfl rfl fun b2=>aa (ae rfl) rfl<|ad<|ag<|ab<|bz (bO (k:=0) eN rfl rfl rfl rfl) rfl<|aj (cL (vs:=[(.agg (ao.C a0).toArray)]) (bI (jX a0 _)) en_64 rfl rfl<|aa (ac rfl) rfl<|aa (ap rfl rfl) rfl<|aa (ap rfl rfl) rfl<|aa (ae rfl) rfl<|aa (ae rfl) rfl<|ad<|ag<|ag<|ab<|aa (ac rfl) rfl<|aa (cw rfl) rfl<|ad<|aD rfl H (fun k1 H2=>ag<|ab<|aa (ae rfl) rfl<|ad<|an<|av (az rfl (aE rfl)) ⟨1,rfl,H2⟩) (fun k1 H2=>au<|ag<|ag<|ab<|aa (ac rfl) rfl<|aj (aA H2 en_137 rfl rfl fun r17 _ H3=>aa (dH rfl Tryz.underlying41 rfl) rfl<|aa (ac rfl) rfl<|ad<|aF<|bS (step:=um a0 a1 K r17) (fun s4=>[(1,(.int .i64 a1)),(2,(.pointer (some ⟨b2,0,none⟩))),(17,(sv r17)),(18,(.int .i64 (r17.len:Int))),(19,(.int .i64 s4))]) (fun s4=>[bx b2 27 (ao.C a0)]) H3 (.cons rfl (.cons rfl (.cons rfl (.cons rfl (.cons rfl (.nil _)))))) (.cons_cons _ .slnil) (fun Rec5 s4 _ H6=>ag<|ab<|aa (cA rfl rfl) rfl<|ad<|ag<|aD rfl H6 (fun k7 H8=>au<|ag<|aF<|ag<|ab<|aa (ac rfl) rfl<|cu H8 fun q22 e9 h10 H11=>aa (bC iC (aX rfl (bm e9)) rfl h10) rfl<|aj (bf H11 bj rfl (fun _=>rfl) rfl fun x23 H12=>aa (ae rfl) rfl<|aa (ae rfl) rfl<|ad<|ag<|ab<|bz (bO (k:=0) eN rfl rfl rfl rfl) rfl<|aa (ac rfl) rfl<|aa (bM rfl rfl) rfl<|aa (ac rfl) rfl<|aa (ac rfl) rfl<|aj (aA H12 en_138 rfl rfl fun r29 _ H13=>aa (cw rfl) rfl<|ad<|aD rfl H13 (fun k14 H15=>ag<|ab<|aa (ae rfl) rfl<|ad<|an<|av (az rfl (aE rfl)) ⟨2,rfl,H15⟩) (fun k14 H15=>au<|ab<|aa (bM rfl rfl) rfl<|aa (ac rfl) rfl<|ad<|cW (IntKind.i64.wrap (s4 + 1)) H15 (.cons rfl (.cons rfl (.cons rfl (.cons rfl (.cons rfl (.nil _)))))) (.cons_cons _ .slnil))))) (fun k7 H8=>bD<|ag<|ab<|aa (ae rfl) rfl<|ad<|an<|av (az rfl (aE rfl)) ⟨0,rfl,H8⟩))))))
def sh_word_Args (a0:Int) (K:Int→Hp→Prop):Hp→Prop:=cl Tryz.prog rJ [(.int .i64 a0)] cG fun r4=>K (r4.len:Int)
set_option maxRecDepth 20000 in
theorem sim_word_Args (a0:Int) {K:Int→Hp→Prop} {h:Hp} (H:sh_word_Args a0 K h):Ct Tryz.prog n_word_Args #[(.int .i64 a0)] h fun v h'=>∃ r,v = dW r∧K r h':=aC [(.int .i64 a0)] Tryz.func197 rfl rfl rfl fun _=>ag<|ab<|aa (ae rfl) rfl<|ad<|ag<|ab<|aa (ac rfl) rfl<|aj (aA H en_137 rfl rfl fun r4 _ H1=>aa (dH rfl Tryz.underlying41 rfl) rfl<|aa (ae rfl) rfl<|ad<|an<|av (az rfl (aE rfl)) ⟨(r4.len:Int),rfl,H1⟩)
end Go.Proofs.YtniiiakkdoiaiaaGreatDoor
namespace Go.Proofs.YtniiiakkdoiaiaaGreatDoor
open Go Mb
abbrev iq:=ao
namespace Word
def kinds (k:Int):List Int :=
  if k = 1∨k = 4∨k = 5 then [0] else if k = 2 then [0,0,4] else if k = 3 then [0,3,0,4] else if k = 6 then [1,0,4] else if k = 7 then [1] else if k = 8 then [1,4]
  else if k = 9 then [0,2,5,6] else if k = 20 then [1,2] else if k = 21∨k = 23 then [1,2,6] else if k = 22 then [1,2,6,6] else []
def arg (c:iq) (i m:Int):Int × Bool:=if i < 1∨i ≥ 5∨m ≤ 0∨ao.get c i ≥ IntKind.u64.wrap m then (0,false) else (IntKind.i64.wrap (ao.get c i),true)
def fits (c:iq) (i k envs:Int):Bool :=
  if k = 0 then (arg c i 8).2 else if k = 1 then (arg c i 8).2 else if k = 2 then (arg c i 16).2 else if k = 3 then (arg c i envs).2
  else if k = 4 then (la (ao.get c i)).2 else if k = 5 then decide (ao.get c i ≥ 1) && decide (ao.get c i ≤ 4) else true
def checks (c:iq) (envs:Int):List Int→Int→Int
  | [],_=>0
  | k::ks,i=>if fits c i k envs = true then checks c envs ks (i + 1) else 2
def check (c:iq) (envs:Int):Int:=if (aP c).2 = false then 1 else checks c envs (kinds (aP c).1) 1
theorem kinds_len (k:Int):(kinds k).length ≤ 4:=by
  unfold kinds; repeat' split
  all_goals simp
end Word
theorem vec_nil' {xs:List Int} (hx:xs = []) {l:List As} {h:Hp} (s:aQ l h):aQ (vI (⟨none,0,0,none⟩:Sl) xs::l) h:=by subst hx; exact ft s
theorem im {l:List As} {h:Hp} {K:Sl→Hp→Prop} (xs:List Int) (s:aQ l h) {n:Nat} {ps:Array (Nat × Value)} (hps:ps = (pts (fun x=>.int .i64 x) 0 xs).toArray) (hn:n = xs.length) (hb:n ≤ 2 ^ 24)
    (k:∀ v h',aQ (vI v xs::l) h'→K v h'):hpv Tryz.prog (Instr.buildSlice dN n ps) cG K h :=
  fz (τ:=Int) xs (val:=fun x=>.int .i64 x) (enc:=cI .i64) el_Sint (dl _) (fun _=>rfl) s hps hn (by omega) k
theorem sp_word_kinds (k:Int):Sp Tryz.prog rJ [.int .i64 k] cG [] (fun r=>aQ [vI r (Word.kinds k)]):=by
  intro h st
  refine sim_word_kinds _ ?_
  unfold sh_word_kinds
  have one:∀ (xs:List Int) (v:Sl) (h':Hp),Word.kinds k = xs→aQ [vI v xs] h'→aQ [vI v (Word.kinds k)] h':=by
    intro xs v h' e s; rw [e]; exact s
  have j1:k = 1∨k = 4∨k = 5→jf k (fun r=>aQ [vI r (Word.kinds k)]) true h:=by
    intro hk
    unfold jf
    exact df rfl (im [0] st rfl rfl (by decide) fun v h' s=>one _ v h' (if_pos hk) s)
  refine bk (fun c=>?_) (fun c=>?_)
  · rw [c]; exact j1 (.inl (by simpa using c))
  have n1:k ≠ 1:=by simpa using c
  refine bk (fun c4=>?_) (fun c4=>?_)
  · rw [c4]; exact j1 (.inr (.inl (by simpa using c4)))
  have n4:k ≠ 4:=by simpa using c4
  by_cases h5:k = 5
  · have:(k == 5) = true:=by simpa using h5
    rw [this]; exact j1 (.inr (.inr h5))
  have:(k == 5) = false:=by simpa using h5
  rw [this]
  have hu:∀ {xs:List Int},xs = Word.kinds k→Word.kinds k = xs:=fun e=>e.symm
  unfold jf
  refine dv rfl ?_
  refine bk (fun c=>?_) (fun c=>?_)
  · have e:k = 2:=by simpa using c
    subst e; exact im [0,0,4] st rfl rfl (by decide) fun v h' s=>s
  refine bk (fun c=>?_) (fun c=>?_)
  · have e:k = 3:=by simpa using c
    subst e; exact im [0,3,0,4] st rfl rfl (by decide) fun v h' s=>s
  refine bk (fun c=>?_) (fun c=>?_)
  · have e:k = 6:=by simpa using c
    subst e; exact im [1,0,4] st rfl rfl (by decide) fun v h' s=>s
  refine bk (fun c=>?_) (fun c=>?_)
  · have e:k = 7:=by simpa using c
    subst e; exact im [1] st rfl rfl (by decide) fun v h' s=>s
  refine bk (fun c=>?_) (fun c=>?_)
  · have e:k = 8:=by simpa using c
    subst e; exact im [1,4] st rfl rfl (by decide) fun v h' s=>s
  refine bk (fun c=>?_) (fun c=>?_)
  · have e:k = 9:=by simpa using c
    subst e; exact im [0,2,5,6] st rfl rfl (by decide) fun v h' s=>s
  refine bk (fun c=>?_) (fun c=>?_)
  · have e:k = 20:=by simpa using c
    subst e; exact im [1,2] st rfl rfl (by decide) fun v h' s=>s
  refine bk (fun c=>?_) (fun c=>?_)
  · have e:k = 21:=by simpa using c
    subst e
    unfold mw
    exact df rfl (im [1,2,6] st rfl rfl (by decide) fun v h' s=>s)
  unfold mw
  refine bk (fun c=>?_) (fun c=>?_)
  · have e:k = 23:=by simpa using c
    subst e; exact im [1,2,6] st rfl rfl (by decide) fun v h' s=>s
  refine bk (fun c=>?_) (fun c=>?_)
  · have e:k = 22:=by simpa using c
    subst e; exact im [1,2,6,6] st rfl rfl (by decide) fun v h' s=>s
  refine vec_nil' ?_ st
  simp_all [Word.kinds]
theorem qq (c:iq) (i m:Int):Sp Tryz.prog mY [.agg c.C.toArray,.int .i64 i,.int .i64 m] bZ [] (fun r=>pa_ (r = Word.arg c i m) []):=by
  intro h st
  refine sim_word_Arg _ _ _ ?_
  unfold sh_word_Arg
  unfold tz
  refine bk (fun k=>?_) (fun k=>?_)
  · have k':¬ (i < 1∨i ≥ 5∨m ≤ 0):=by simp at k; omega
    refine ⟨⟨by omega,by omega⟩,bk (fun k2=>?_) (fun k2=>⟨⟨by omega,by omega⟩,?_⟩)⟩
    · exact bh (by unfold Word.arg; rw [if_pos (by right; right; right; simpa using k2)]) st
    · refine bh ?_ st
      unfold Word.arg
      have k2':¬ ao.get c i ≥ IntKind.u64.wrap m:=by simpa using k2
      rw [if_neg (by omega)]
  · have k':i < 1∨i ≥ 5∨m ≤ 0:=by simp at k; omega
    exact df rfl (bh (by unfold Word.arg; rw [if_pos (by omega)]) st)
theorem sp_word_fits (c:iq) (i k e:Int) (h0:0 ≤ i) (h5:i < 5):Sp Tryz.prog n_word_fits [.agg c.C.toArray,.int .i64 i,.int .i64 k,.int .i64 e] aG [] (fun r=>pa_ (r = Word.fits c i k e) []):=by
  intro h st
  refine sim_word_fits _ _ _ _ ?_
  unfold sh_word_fits
  refine bk (fun k0=>?_) (fun k0=>?_)
  · have e0:k = 0:=by simpa using k0
    subst e0
    exact rT (qq c i 8) st fun r h' hr s=>bh (by rw [hr]; rfl) s
  refine bk (fun k1=>?_) (fun k1=>?_)
  · have e0:k = 1:=by simpa using k1
    subst e0
    exact rT (qq c i 8) st fun r h' hr s=>bh (by rw [hr]; rfl) s
  refine bk (fun k2=>?_) (fun k2=>?_)
  · have e0:k = 2:=by simpa using k2
    subst e0
    exact rT (qq c i 16) st fun r h' hr s=>bh (by rw [hr]; rfl) s
  refine bk (fun k3=>?_) (fun k3=>?_)
  · have e0:k = 3:=by simpa using k3
    subst e0
    exact rT (qq c i e) st fun r h' hr s=>bh (by rw [hr]; rfl) s
  refine bk (fun k4=>⟨⟨h0,h5⟩,?_⟩) (fun k4=>?_)
  · have e0:k = 4:=by simpa using k4
    subst e0
    exact bh rfl st
  refine bk (fun k5=>⟨⟨h0,h5⟩,?_⟩) (fun k5=>?_)
  · have e0:k = 5:=by simpa using k5
    subst e0
    exact bh rfl st
  refine bh ?_ st
  simp at k0 k1 k2 k3 k4 k5
  simp [Word.fits,k0,k1,k2,k3,k4,k5]
theorem checks_drop (c:iq) (e:Int) (ks:List Int) (n:Nat) (h:n < ks.length):Word.checks c e (ks.drop n) ((n:Int) + 1) = if Word.fits c ((n:Int) + 1) ks[n] e = true then Word.checks c e (ks.drop (n + 1)) (((n + 1:Nat):Int) + 1) else 2:=by
  rw [List.drop_eq_getElem_cons h,Word.checks]; rfl
theorem jh (c:iq) (e:Int):Sp Tryz.prog gO [.agg c.C.toArray,.int .i64 e] bw [] (fun r=>pa_ (r = Word.check c e) []):=by
  intro h st
  refine sim_word_Check _ _ ?_
  unfold sh_word_Check
  refine bk (fun k=>?_) (fun k=>?_)
  · exact bh (by unfold Word.check; rw [if_pos (by simpa using k)]) st
  · have hc:Word.check c e = Word.checks c e (Word.kinds (aP c).1) 1:=by unfold Word.check; rw [if_neg (by simpa using k)]
    rw [hc]
    refine ma (sp_word_kinds _) st fun r h1 s1=>?_
    have hl:=(cn (j:=0) s1 rfl).1
    have h4:=Word.kinds_len (aP c).1
    refine Lp.intro (fun (i:Int) h=>∃ n:Nat,i = n∧n ≤ (Word.kinds (aP c).1).length∧Word.checks c e ((Word.kinds (aP c).1).drop n) ((n:Int) + 1) = Word.checks c e (Word.kinds (aP c).1) 1∧aQ [vI r (Word.kinds (aP c).1)] h) (fun (i:Int) _=>(Word.kinds (aP c).1).length - i.toNat) ⟨0,rfl,Nat.zero_le _,rfl,s1⟩ ?_
    rintro i h ⟨n,rfl,hn,he,s2⟩
    unfold um
    refine bk (fun k2=>?_) (fun k2=>?_)
    · have hlt:n < (Word.kinds (aP c).1).length:=by rw [hl] at k2; simpa using k2
      have hw:IntKind.i64.wrap ((n:Int) + 1) = ((n + 1:Nat):Int):=by rw [cm (by omega) (by omega)]; rfl
      rw [checks_drop c e _ n hlt] at he
      refine dF s2 (j:=0) rfl (by omega) (by omega) fun q hq=>?_
      refine eB (j:=0) (i:=n) (k:=0) (Word.kinds (aP c).1)[n] (dl _) s2 rfl hq (by simp) (aL hlt) (by simp) ?_
      rw [hw]
      refine rT (sp_word_fits c ((n + 1:Nat):Int) _ e (by omega) (by omega)) s2 fun r2 h3 hr s3=>?_
      subst hr
      refine bk (fun k3=>?_) (fun k3=>?_)
      · have k3':¬ Word.fits c ((n:Int) + 1) (Word.kinds (aP c).1)[n] e = true:=by simpa using k3
        rw [if_neg k3'] at he
        exact bh he trivial
      · have k3':Word.fits c ((n:Int) + 1) (Word.kinds (aP c).1)[n] e = true:=by simpa using k3
        rw [if_pos k3'] at he
        exact ⟨⟨n + 1,rfl,hlt,he,s3⟩,by simp; omega⟩
    · have:n = (Word.kinds (aP c).1).length:=by rw [hl] at k2; simp at k2; omega
      subst this
      rw [List.drop_length] at he
      exact bh he trivial
theorem sp_word_Args (k:Int):Sp Tryz.prog n_word_Args [.int .i64 k] dW [] (fun r=>pa_ (r = (Word.kinds k).length) []):=by
  intro h st
  refine sim_word_Args _ ?_
  unfold sh_word_Args
  refine ma (sp_word_kinds k) st fun r h1 s1=>?_
  have hl:=(cn (j:=0) s1 rfl).1
  exact bh (by rw [hl]) trivial
end Go.Proofs.YtniiiakkdoiaiaaGreatDoor
