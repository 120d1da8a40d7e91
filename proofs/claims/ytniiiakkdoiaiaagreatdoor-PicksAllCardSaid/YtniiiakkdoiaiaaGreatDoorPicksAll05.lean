/- Part of the proof of: The law PicksAll returns true for every input, and leaves its arguments as they were. -/
import Derived.Test.YtniiiakkdoiaiaaGreatDoorPicksAll04
set_option linter.all false
namespace Go.Proofs.YtniiiakkdoiaiaaGreatDoor
open Go Mb
namespace Mb
def SpV {τ:Type} (P:Program) (c:Value) (args:List Value) (enc:τ→Value) (pre:List As) (post:τ→As):Prop :=
  ∃ f fi ca,c = .func (.func f) fi ca∧aU P f∧∀ h,aP pre h→Ct P f ((fi++args.toArray)++ca) h fun v h'=>∃ r,v = enc r∧post r h'
theorem star_rot {m:List As} {B:As} {h:Hp} (s:aP (m++[B]) h):aP (B::m) h:=km (List.perm_append_singleton _ _) s
theorem star_rot' {m:List As} {B:As} {h:Hp} (s:aP (B::m) h):aP (m++[B]) h:=km (List.perm_append_singleton _ _).symm s
theorem clv_t {τ:Type} {P:Program} {c:Value} {args:List Value} {enc:τ→Value} {pre:List As} {B:As} {post:τ→As} {K:τ→Hp→Prop} {h:Hp} (H:SpV P c args enc pre post) (s:aP (B::pre) h)
    (k:∀ r h',aP [post r,B] h'→K r h'):clv P c args enc K h:=by
  obtain ⟨f,fi,ca,rfl,he,H⟩:=H
  obtain ⟨h1,h2,d,rfl,s1,s2⟩:=eT.1 (star_rot' s)
  exact ⟨f,fi,ca,rfl,he,(H h1 s1).frame_mono d rfl fun v h' ⟨r,hv,q⟩ dj=>⟨r,hv,k r _ ⟨h',h2,dj,rfl,q,s2⟩⟩⟩
end Mb
abbrev Cap:=aG
abbrev dl:=aR
abbrev rd:Cap:=⟨0,0,0,0⟩
theorem qf (c:Cap):c.C.length = 4:=rfl
theorem vi (c:dl):c.C.length = 2:=rfl
theorem place_one (c:dl):dM c.C = true:=rfl
instance:DecidableEq dl:=fun a b=>decidable_of_iff (a.fEnv = b.fEnv∧a.fSlot = b.fSlot) ⟨fun h=>by cases a; cases b; simp_all,fun h=>by subst h; exact ⟨rfl,rfl⟩⟩
def enc8 (r:List Cap):List Value:=((r++List.replicate 8 rd).take 8).flatMap aG.C
theorem enc8_len (r:List Cap):(enc8 r).length = 32:=by unfold enc8; rw [dR qf]; simp
theorem enc8_eq {r:List Cap} (h:r.length = 8):enc8 r = r.flatMap aG.C:=by
  unfold enc8; rw [List.take_append_of_le_length (by omega),← h,List.take_length]
namespace Caps
abbrev T:=List (List Cap)
def has (t:T) (e s:Int):Bool:=decide (0 ≤ e∧e < t.length∧0 ≤ s∧s < 8)
def get (t:T) (e s:Int):Cap:=(t.getD e.toNat []).getD s.toNat rd
def put (t:T) (e s:Int) (c:Cap):T:=t.set e.toNat ((t.getD e.toNat []).set s.toNat c)
def at_ (t:T) (e s:Int):Cap × Bool:=if has t e s = true∧(get t e s).fRights ≠ 0 then (get t e s,true) else (rd,false)
def root (t:T) (e s f:Int):Int × T :=
  if has t e s = false∨f < 0∨f ≥ 16 then (2,t) else if (get t e s).fRights ≠ 0 then (4,t) else (0,put t e s ⟨f,3,-1,0⟩)
def derive (t:T) (e src to dst r:Int):Int × T :=
  if has t e src = false∨has t to dst = false∨cN r = false then (2,t)
  else if (get t e src).fRights = 0 then (3,t) else if (get t to dst).fRights ≠ 0 then (4,t)
  else if bu r (get t e src).fRights = false then (5,t) else (0,put t to dst ⟨(get t e src).fFrame,r,e,src⟩)
def up:Nat→T→Cap→dl→Bool
  | 0,_,_,_=>false
  | n + 1,t,c,p=>if c.fRights ≠ 0∧0 ≤ c.fEnv then (if c.fEnv = p.fEnv∧c.fSlot = p.fSlot then true else up n t (get t c.fEnv c.fSlot) p) else false
def deep:Nat→T→Cap→Nat
  | 0,_,_=>0
  | n + 1,t,c=>if c.fRights ≠ 0∧0 ≤ c.fEnv then deep n t (get t c.fEnv c.fSlot) + 1 else 0
def under (t:T) (c:Cap) (p:dl):Bool:=up 40 t c p
def rowOf (P:Int→Int→Cap→Bool) (e:Int):List Cap→Int→List dl
  | [],_=>[]
  | c::cs,s=>if c.fRights ≠ 0∧P e s c = true then ⟨e,s⟩::rowOf P e cs (s + 1) else rowOf P e cs (s + 1)
def allOf (P:Int→Int→Cap→Bool):T→Int→List dl
  | [],_=>[]
  | r::rs,e=>rowOf P e r 0++allOf P rs (e + 1)
def below (t:T) (e s:Int):List dl:=allOf (fun _ _ c=>under t c ⟨e,s⟩) t 0
def own (t:T) (e s:Int):List dl:=allOf (fun a b c=>aR.eqb ⟨a,b⟩ ⟨e,s⟩ || under t c ⟨e,s⟩) t 0
def empties (t:T):List dl→T
  | []=>t
  | p::l=>empties (put t p.fEnv p.fSlot rd) l
def look (t:T) (e s:Int):Int:=if has t e s = false then 2 else if (get t e s).fRights = 0 then 3 else 0
def revoke (t:T) (e s:Int):(List dl × Int) × T:=if look t e s ≠ 0 then (([],look t e s),t) else ((below t e s,0),empties t (below t e s))
def drop (t:T) (e s:Int):(List dl × Int) × T:=if look t e s ≠ 0 then (([],look t e s),t) else ((own t e s,0),empties t (own t e s))
structure Ok (t:T):Prop where
  len:t.length ≤ 4
  row:∀ r ∈ t,r.length = 8
  rk:∃ rank:Int→Int→Nat,∀ e s,has t e s = true→(get t e s).fRights ≠ 0→0 ≤ (get t e s).fEnv →
    has t (get t e s).fEnv (get t e s).fSlot = true∧(get t (get t e s).fEnv (get t e s).fSlot).fRights ≠ 0∧rank (get t e s).fEnv (get t e s).fSlot < rank e s
theorem has_nat {t:T} {e s:Int} (h:has t e s = true):∃ m n:Nat,e = m∧s = n∧m < t.length∧n < 8:=by
  unfold has at h
  have:=of_decide_eq_true h
  exact ⟨e.toNat,s.toNat,by omega,by omega,by omega,by omega⟩
theorem has_of {t:T} {m n:Nat} (h1:m < t.length) (h2:n < 8):has t m n = true:=by
  unfold has; exact decide_eq_true ⟨by omega,by omega,by omega,by omega⟩
theorem get_nat' {t:T} (ok:∀ r ∈ t,r.length = 8) {m n:Nat} (h1:m < t.length) (h2:n < 8):∃ h3:n < t[m].length,get t m n = t[m][n]:=by
  have:=ok _ (List.getElem_mem h1)
  refine ⟨by omega,?_⟩
  have h3:n < t[m].length:=by omega
  simp [get,h1,h3]
theorem put_nat {t:T} {m n:Nat} (h1:m < t.length) (c:Cap):put t m n c = t.set m (t[m].set n c):=by simp [put,h1]
theorem put_len (t:T) (e s:Int) (c:Cap):(put t e s c).length = t.length:=by simp [put]
theorem tW (t:T) (e s:Int) (c:Cap) (a b:Int):has (put t e s c) a b = has t a b:=by unfold has; rw [put_len]
theorem put_row {t:T} (ok:∀ r ∈ t,r.length = 8) (e s:Int) (c:Cap):∀ r ∈ put t e s c,r.length = 8:=by
  intro r hr
  unfold put at hr
  rcases List.mem_or_eq_of_mem_set hr with h | h
  · exact ok r h
  · subst h
    by_cases hm:e.toNat < t.length
    · simp [hm]; exact ok _ (List.getElem_mem hm)
    · rw [List.set_eq_of_length_le (by omega)] at hr; exact ok _ hr
theorem wV {t:T} (ok:∀ r ∈ t,r.length = 8) {e s a b:Int} (h:has t e s = true) (h2:has t a b = true) (c:Cap):get (put t e s c) a b = if a = e∧b = s then c else get t a b:=by
  obtain ⟨m,n,rfl,rfl,hm,hn⟩:=has_nat h
  obtain ⟨i,j,rfl,rfl,hi,hj⟩:=has_nat h2
  have hl:=ok _ (List.getElem_mem hm)
  rw [put_nat hm]
  simp only [get,Int.toNat_natCast,List.getD_eq_getElem?_getD,List.getElem?_set]
  by_cases e1:m = i
  · subst e1
    by_cases e2:n = j
    · subst e2; simp [hm,hl,hn]
    · have:¬ ((m:Int) = m∧(j:Int) = n):=by omega
      rw [if_neg this]; simp [hm,e2]
  · have:¬ ((i:Int) = m∧(j:Int) = n):=by omega
    rw [if_neg this]; simp [e1]
theorem pigeon:∀ (n:Nat) (l:List Nat),l.Nodup→(∀ x ∈ l,x < n)→l.length ≤ n
  | 0,l,_,h=>by
    cases l with
    | nil=>simp
    | cons a l=>exact absurd (h a (by simp)) (by omega)
  | n + 1,l,d,h=>by
    have h1:=pigeon n (l.erase n) (d.erase n) (fun x hx=>by
      have h2:=d.mem_erase_iff.1 hx
      have:=h x h2.2
      have:=h2.1
      omega)
    rw [List.length_erase] at h1
    split at h1 <;> omega
theorem path {t:T} (ok:Ok t) {rank:Int→Int→Nat} (hr:∀ e s,has t e s = true→(get t e s).fRights ≠ 0→0 ≤ (get t e s).fEnv →
    has t (get t e s).fEnv (get t e s).fSlot = true∧(get t (get t e s).fEnv (get t e s).fSlot).fRights ≠ 0∧rank (get t e s).fEnv (get t e s).fSlot < rank e s) :
    ∀ (n:Nat) (e s:Int),has t e s = true→∃ l:List Nat,l.length = deep n t (get t e s)∧l.Pairwise (fun a b=>rank (b / 8:Nat) (b % 8:Nat) < rank (a / 8:Nat) (a % 8:Nat))∧∀ a ∈ l,a < 32∧rank (a / 8:Nat) (a % 8:Nat) < rank e s
  | 0,_,_,_=>⟨[],rfl,.nil,fun a h=>by cases h⟩
  | n + 1,e,s,h=>by
    by_cases hc:(get t e s).fRights ≠ 0∧0 ≤ (get t e s).fEnv
    · obtain ⟨h1,h2,h3⟩:=hr e s h hc.1 hc.2
      obtain ⟨l,hl,hp,hb⟩:=path ok hr n _ _ h1
      obtain ⟨i,j,ei,ej,hi,hj⟩:=has_nat h1
      have hlen:=ok.len
      have e1:(i * 8 + j) / 8 = i:=by omega
      have e2:(i * 8 + j) % 8 = j:=by omega
      refine ⟨(i * 8 + j)::l,?_,?_,?_⟩
      · simp only [List.length_cons,deep]; rw [if_pos hc,hl]
      · refine List.pairwise_cons.2 ⟨fun b hb'=>?_,hp⟩
        have:=(hb b hb').2
        rw [e1,e2,← ei,← ej]; exact this
      · intro a ha
        rcases List.mem_cons.1 ha with rfl | ha
        · rw [e1,e2,← ei,← ej]; exact ⟨by omega,h3⟩
        · exact ⟨(hb a ha).1,Nat.lt_trans (hb a ha).2 h3⟩
    · exact ⟨[],by simp only [deep]; rw [if_neg hc]; rfl,.nil,fun a h=>by cases h⟩
theorem deep_le {t:T} (ok:Ok t) {e s:Int} (h:has t e s = true) (n:Nat):deep n t (get t e s) ≤ 32:=by
  obtain ⟨rank,hr⟩:=ok.rk
  obtain ⟨l,hl,hp,hb⟩:=path ok hr n e s h
  rw [← hl]
  refine pigeon 32 l (hp.imp ?_) (fun x hx=>(hb x hx).1)
  rintro a b hab rfl
  exact absurd hab (Nat.lt_irrefl _)
theorem deep_s (n:Nat) (t:T) (c:Cap):deep (n + 1) t c = if c.fRights ≠ 0∧0 ≤ c.fEnv then deep n t (get t c.fEnv c.fSlot) + 1 else 0:=rfl
theorem up_s (n:Nat) (t:T) (c:Cap) (p:dl):up (n + 1) t c p = if c.fRights ≠ 0∧0 ≤ c.fEnv then (if c.fEnv = p.fEnv∧c.fSlot = p.fSlot then true else up n t (get t c.fEnv c.fSlot) p) else false:=rfl
theorem deep_succ {t:T}:∀ {n:Nat} {c:Cap},deep n t c < n→deep (n + 1) t c = deep n t c
  | 0,_,h=>by omega
  | n + 1,c,h=>by
    rw [deep_s (n + 1) t c,deep_s n t c]
    rw [deep_s n] at h
    by_cases hc:c.fRights ≠ 0∧0 ≤ c.fEnv
    · rw [if_pos hc] at h
      rw [if_pos hc,if_pos hc,deep_succ (n:=n) (by omega)]
    · rw [if_neg hc,if_neg hc]
theorem up_succ {t:T} {p:dl}:∀ {n:Nat} {c:Cap},deep n t c < n→up (n + 1) t c p = up n t c p
  | 0,_,h=>by omega
  | n + 1,c,h=>by
    rw [up_s (n + 1) t c p,up_s n t c p]
    rw [deep_s n] at h
    by_cases hc:c.fRights ≠ 0∧0 ≤ c.fEnv
    · rw [if_pos hc] at h
      rw [if_pos hc,if_pos hc,up_succ (n:=n) (by omega)]
    · rw [if_neg hc,if_neg hc]
theorem under_step {t:T} (ok:Ok t) {e s:Int} (h:has t e s = true) (p:dl):under t (get t e s) p = if (get t e s).fRights ≠ 0∧0 ≤ (get t e s).fEnv then (if (get t e s).fEnv = p.fEnv∧(get t e s).fSlot = p.fSlot then true else under t (get t (get t e s).fEnv (get t e s).fSlot) p) else false:=by
  have h1:=deep_le ok h 40
  unfold under
  by_cases hc:(get t e s).fRights ≠ 0∧0 ≤ (get t e s).fEnv
  · rw [deep_s 39,if_pos hc] at h1
    rw [up_s 39,up_succ (n:=39) (by omega)]
  · rw [up_s 39,if_neg hc,if_neg hc]
theorem deep_step {t:T} (ok:Ok t) {e s:Int} (h:has t e s = true) (hc:(get t e s).fRights ≠ 0∧0 ≤ (get t e s).fEnv):deep 40 t (get t (get t e s).fEnv (get t e s).fSlot) < deep 40 t (get t e s):=by
  have h1:=deep_le ok h 40
  rw [deep_s 39,if_pos hc] at h1
  rw [deep_succ (n:=39) (by omega),deep_s 39,if_pos hc]
  omega
theorem ok_new (n:Nat) (h:n ≤ 4):Ok (List.replicate n (List.replicate 8 rd)):=by
  refine ⟨by simpa using h,fun r hr=>?_,fun _ _=>0,fun e s hh hne=>?_⟩
  · rw [(List.mem_replicate.1 hr).2]; rfl
  · exfalso
    apply hne
    obtain ⟨i,j,rfl,rfl,hi,hj⟩:=has_nat hh
    simp only [List.length_replicate] at hi
    simp only [get,Int.toNat_natCast,List.getD_eq_getElem?_getD,List.getElem?_replicate,if_pos hi,Option.getD_some,if_pos hj]
theorem ok_put {t:T} (ok:Ok t) {e s:Int} (h:has t e s = true) (h0:(get t e s).fRights = 0) (c:Cap) (hc:0 ≤ c.fEnv→has t c.fEnv c.fSlot = true∧(get t c.fEnv c.fSlot).fRights ≠ 0):Ok (put t e s c):=by
  obtain ⟨rank,hr⟩:=ok.rk
  refine ⟨by rw [put_len]; exact ok.len,put_row ok.row e s c,fun a b=>if a = e∧b = s then rank c.fEnv c.fSlot + 1 else rank a b,fun a b hab hne hen=>?_⟩
  rw [tW] at hab
  have keep:∀ {i j:Int},has t i j = true→(get t i j).fRights ≠ 0→¬ (i = e∧j = s):=by
    rintro i j _ hn ⟨rfl,rfl⟩; exact hn h0
  have hg:=wV ok.row h hab c
  rw [hg] at hne hen ⊢
  by_cases hes:a = e∧b = s
  · rw [if_pos hes] at hne hen ⊢
    obtain ⟨h1,h2⟩:=hc hen
    have hk:=keep h1 h2
    refine ⟨by rw [tW]; exact h1,by rw [wV ok.row h h1,if_neg hk]; exact h2,?_⟩
    show (if c.fEnv = e∧c.fSlot = s then _ else _) < (if a = e∧b = s then _ else _)
    rw [if_neg hk,if_pos hes]; omega
  · rw [if_neg hes] at hne hen ⊢
    obtain ⟨h1,h2,h3⟩:=hr a b hab hne hen
    have hk:=keep h1 h2
    refine ⟨by rw [tW]; exact h1,by rw [wV ok.row h h1,if_neg hk]; exact h2,?_⟩
    show (if (get t a b).fEnv = e∧(get t a b).fSlot = s then _ else _) < (if a = e∧b = s then _ else _)
    rw [if_neg hk,if_neg hes]; exact h3
theorem qL:∀ (l:List dl) (t:T),(empties t l).length = t.length
  | [],_=>rfl
  | p::l,t=>by rw [empties,qL l,put_len]
theorem empties_has (t:T) (l:List dl) (a b:Int):has (empties t l) a b = has t a b:=by unfold has; rw [qL]
theorem empties_row:∀ (l:List dl) (t:T),(∀ r ∈ t,r.length = 8)→∀ r ∈ empties t l,r.length = 8
  | [],_,h=>h
  | p::l,t,h=>empties_row l _ (put_row h _ _ _)
theorem qM:∀ (l:List dl) (t:T),(∀ r ∈ t,r.length = 8)→(∀ p ∈ l,has t p.fEnv p.fSlot = true)→∀ a b,has t a b = true→get (empties t l) a b = if (⟨a,b⟩:dl) ∈ l then rd else get t a b
  | [],_,_,_,_,_,_=>by simp [empties]
  | p::l,t,h,hl,a,b,hab=>by
    rw [empties,qM l _ (put_row h _ _ _) (fun q hq=>by rw [tW]; exact hl q (by simp [hq])) a b (by rw [tW]; exact hab),wV h (hl p (by simp)) hab]
    by_cases h1:(⟨a,b⟩:dl) ∈ l
    · rw [if_pos h1,if_pos (by simp [h1])]
    · rw [if_neg h1]
      by_cases h2:a = p.fEnv∧b = p.fSlot
      · obtain ⟨rfl,rfl⟩:=h2
        rw [if_pos ⟨rfl,rfl⟩,if_pos (by simp)]
      · rw [if_neg h2,if_neg]
        intro hm
        rcases List.mem_cons.1 hm with hm | hm
        · subst hm; exact h2 ⟨rfl,rfl⟩
        · exact h1 hm
theorem rowOf_c (P:Int→Int→Cap→Bool) (e:Int) (c:Cap) (cs:List Cap) (s:Int):rowOf P e (c::cs) s = if c.fRights ≠ 0∧P e s c = true then ⟨e,s⟩::rowOf P e cs (s + 1) else rowOf P e cs (s + 1):=rfl
theorem mem_rowOf {P:Int→Int→Cap→Bool} {e:Int} {p:dl}:∀ {cs:List Cap} {s:Int},p ∈ rowOf P e cs s↔p.fEnv = e∧∃ (n:Nat) (c:Cap),cs[n]? = some c∧p.fSlot = s + n∧c.fRights ≠ 0∧P e (s + n) c = true
  | [],s=>by simp [rowOf]
  | c::cs,s=>by
    have ih:=mem_rowOf (P:=P) (e:=e) (p:=p) (cs:=cs) (s:=s + 1)
    have tail:(p.fEnv = e∧∃ (n:Nat) (c':Cap),cs[n]? = some c'∧p.fSlot = s + 1 + n∧c'.fRights ≠ 0∧P e (s + 1 + n) c' = true)↔(p.fEnv = e∧∃ (n:Nat) (c':Cap),(c::cs)[n + 1]? = some c'∧p.fSlot = s + ((n + 1:Nat):Int)∧c'.fRights ≠ 0∧P e (s + ((n + 1:Nat):Int)) c' = true):=by
      have:∀ n:Nat,s + ((n + 1:Nat):Int) = s + 1 + n:=fun n=>by omega
      simp only [this,List.getElem?_cons_succ]
    have split0:(p.fEnv = e∧∃ (n:Nat) (c':Cap),(c::cs)[n]? = some c'∧p.fSlot = s + n∧c'.fRights ≠ 0∧P e (s + n) c' = true)↔(p = ⟨e,s⟩∧c.fRights ≠ 0∧P e s c = true)∨(p.fEnv = e∧∃ (n:Nat) (c':Cap),(c::cs)[n + 1]? = some c'∧p.fSlot = s + ((n + 1:Nat):Int)∧c'.fRights ≠ 0∧P e (s + ((n + 1:Nat):Int)) c' = true):=by
      constructor
      · rintro ⟨he,n,c',h1,h2,h3,h4⟩
        cases n with
        | zero =>
          simp at h1; subst h1
          simp at h2 h4
          exact .inl ⟨by cases p; simp_all,h3,h4⟩
        | succ n=>exact .inr ⟨he,n,c',h1,h2,h3,h4⟩
      · rintro (⟨rfl,h3,h4⟩ | ⟨he,n,c',h1,h2,h3,h4⟩)
        · exact ⟨rfl,0,c,rfl,by simp,h3,by simpa using h4⟩
        · exact ⟨he,n + 1,c',h1,h2,h3,h4⟩
    rw [split0,← tail,← ih,rowOf_c]
    split
    · rename_i hc
      rw [List.mem_cons]
      constructor
      · rintro (h | h)
        · exact .inl ⟨h,hc⟩
        · exact .inr h
      · rintro (h | h)
        · exact .inl h.1
        · exact .inr h
    · rename_i hc
      constructor
      · exact .inr
      · rintro (h | h)
        · exact absurd h.2 hc
        · exact h
theorem mem_allOf {P:Int→Int→Cap→Bool} {p:dl}:∀ {t:T} {e:Int},p ∈ allOf P t e↔∃ (m n:Nat) (r:List Cap) (c:Cap),t[m]? = some r∧r[n]? = some c∧p = ⟨e + m,n⟩∧c.fRights ≠ 0∧P (e + m) n c = true
  | [],e=>by simp [allOf]
  | r::t,e=>by
    rw [allOf,List.mem_append,mem_rowOf,mem_allOf]
    constructor
    · rintro (⟨h1,n,c,h2,h3,h4,h5⟩ | ⟨m,n,r',c,h1,h2,rfl,h4,h5⟩)
      · refine ⟨0,n,r,c,rfl,h2,?_,h4,?_⟩
        · cases p; simp_all
        · simpa using h5
      · refine ⟨m + 1,n,r',c,by simpa using h1,h2,?_,h4,?_⟩
        · congr 1; omega
        · rw [show e + ((m + 1:Nat):Int) = e + 1 + m from by omega]; exact h5
    · rintro ⟨m,n,r',c,h1,h2,rfl,h4,h5⟩
      cases m with
      | zero =>
        simp at h1; subst h1
        exact .inl ⟨by simp,n,c,h2,by simp,h4,by simpa using h5⟩
      | succ m =>
        refine .inr ⟨m,n,r',c,by simpa using h1,h2,?_,h4,?_⟩
        · congr 1; omega
        · rw [show e + 1 + (m:Int) = e + ((m + 1:Nat):Int) from by omega]; exact h5
theorem mem_all {t:T} (row:∀ r ∈ t,r.length = 8) {P:Int→Int→Cap→Bool} {p:dl}:p ∈ allOf P t 0↔has t p.fEnv p.fSlot = true∧(get t p.fEnv p.fSlot).fRights ≠ 0∧P p.fEnv p.fSlot (get t p.fEnv p.fSlot) = true:=by
  rw [mem_allOf]
  constructor
  · rintro ⟨m,n,r,c,h1,h2,rfl,h4,h5⟩
    obtain ⟨hm,e1⟩:=List.getElem?_eq_some_iff.1 h1
    obtain ⟨hn,e2⟩:=List.getElem?_eq_some_iff.1 h2
    have h8:=row r (List.mem_of_getElem? h1)
    simp only [Int.zero_add] at h5 ⊢
    have hg:get t m n = c:=by simp [get,h1,h2]
    rw [hg]
    exact ⟨has_of hm (by omega),h4,h5⟩
  · rintro ⟨h1,h2,h3⟩
    obtain ⟨m,n,em,en,hm,hn⟩:=has_nat h1
    rw [em,en] at h2 h3
    obtain ⟨hn',hg⟩:=get_nat' row hm hn
    rw [hg] at h2 h3
    refine ⟨m,n,t[m],t[m][n],by simp [hm],by simp [hn'],?_,h2,by simpa using h3⟩
    cases p; simp_all
theorem mem_below {t:T} (ok:Ok t) {e s:Int} {p:dl}:p ∈ below t e s↔has t p.fEnv p.fSlot = true∧(get t p.fEnv p.fSlot).fRights ≠ 0∧under t (get t p.fEnv p.fSlot) ⟨e,s⟩ = true:=mem_all ok.row
theorem eqb_place (p q:dl):aR.eqb p q = true↔p = q:=by
  cases p; cases q; simp [aR.eqb]
theorem mem_own {t:T} (ok:Ok t) {e s:Int} {p:dl}:p ∈ own t e s↔has t p.fEnv p.fSlot = true∧(get t p.fEnv p.fSlot).fRights ≠ 0∧(p = ⟨e,s⟩∨under t (get t p.fEnv p.fSlot) ⟨e,s⟩ = true):=by
  unfold own
  rw [mem_all ok.row,Bool.or_eq_true,eqb_place]
theorem under_rights {t:T} {c:Cap} {p:dl} (h:under t c p = true):c.fRights ≠ 0:=by
  unfold under at h; rw [up_s 39] at h
  split at h
  · rename_i hc; exact hc.1
  · cases h
theorem ok_empties {t:T} (ok:Ok t) {l:List dl} (hl:∀ p ∈ l,has t p.fEnv p.fSlot = true)
    (cl:∀ e s,has t e s = true→(get t e s).fRights ≠ 0→0 ≤ (get t e s).fEnv→(⟨(get t e s).fEnv,(get t e s).fSlot⟩:dl) ∈ l→(⟨e,s⟩:dl) ∈ l):Ok (empties t l):=by
  obtain ⟨rank,hr⟩:=ok.rk
  refine ⟨by rw [qL]; exact ok.len,empties_row l t ok.row,rank,fun a b hab hne hen=>?_⟩
  rw [empties_has] at hab
  have hg:=qM l t ok.row hl a b hab
  by_cases hm:(⟨a,b⟩:dl) ∈ l
  · rw [if_pos hm] at hg; rw [hg] at hne; exact absurd rfl hne
  · rw [if_neg hm] at hg
    rw [hg] at hne hen ⊢
    obtain ⟨h1,h2,h3⟩:=hr a b hab hne hen
    have hp:(⟨(get t a b).fEnv,(get t a b).fSlot⟩:dl) ∉ l:=fun h=>hm (cl a b hab hne hen h)
    refine ⟨by rw [empties_has]; exact h1,?_,h3⟩
    rw [qM l t ok.row hl _ _ h1,if_neg hp]; exact h2
theorem ok_below {t:T} (ok:Ok t) (e s:Int):Ok (empties t (below t e s)):=by
  refine ok_empties ok (fun p hp=>((mem_below ok).1 hp).1) fun a b hab hne hen hp=>?_
  have h1:=(mem_below ok).1 hp
  refine (mem_below ok).2 ⟨hab,hne,?_⟩
  rw [under_step ok hab,if_pos ⟨hne,hen⟩]
  split
  · rfl
  · exact h1.2.2
theorem ok_own {t:T} (ok:Ok t) (e s:Int):Ok (empties t (own t e s)):=by
  refine ok_empties ok (fun p hp=>((mem_own ok).1 hp).1) fun a b hab hne hen hp=>?_
  have h1:=(mem_own ok).1 hp
  refine (mem_own ok).2 ⟨hab,hne,.inr ?_⟩
  rw [under_step ok hab,if_pos ⟨hne,hen⟩]
  split
  · rfl
  · rename_i hno
    rcases h1.2.2 with h | h
    · exact absurd ⟨congrArg aR.fEnv h,congrArg aR.fSlot h⟩ hno
    · exact h
theorem ok_root {t:T} (ok:Ok t) (e s f:Int):Ok (root t e s f).2:=by
  unfold root
  split
  · exact ok
  · split
    · exact ok
    · rename_i h1 h2
      refine ok_put ok (by simp at h1; exact h1.1) (by simpa using h2) _ (fun h=>?_)
      exact absurd h (by show ¬ (0:Int) ≤ -1; omega)
theorem ok_derive {t:T} (ok:Ok t) (e src to dst r:Int):Ok (derive t e src to dst r).2:=by
  unfold derive
  split
  · exact ok
  · split
    · exact ok
    · split
      · exact ok
      · split
        · exact ok
        · rename_i h1 h2 h3 h4
          simp at h1
          exact ok_put ok h1.2.1 (by simpa using h3) _ (fun _=>⟨h1.1,h2⟩)
theorem ok_revoke {t:T} (ok:Ok t) (e s:Int):Ok (revoke t e s).2:=by
  unfold revoke; split
  · exact ok
  · exact ok_below ok e s
theorem ok_drop {t:T} (ok:Ok t) (e s:Int):Ok (drop t e s).2:=by
  unfold drop; split
  · exact ok
  · exact ok_own ok e s
end Caps
end Go.Proofs.YtniiiakkdoiaiaaGreatDoor
namespace Go.Proofs.YtniiiakkdoiaiaaGreatDoor
open Go Mb
set_option linter.unusedVariables false
def mem_New_l1 (a0:Int) (K:Ptr→Hp→Prop) (b11:Nat) (Rec7:Int→Hp→Prop) (s6:Int):Hp→Prop:=br (decide (s6 < a0)) ( ld (b11,0) cS fun x19=>hpv Tryz.prog (Instr.makeSlice bq (.int .i64 16) (.int .i64 16)) cn fun (v20:Sl)=>hpv Tryz.prog (Instr.buildSlice pF 1 #[(0,(sv v20))]) R_SSuint64 fun (v21:Sl)=>hpv Tryz.prog (Builtin.append_ #[pF,pF] pF #[(sv x19),(sv v21)]) R_SSuint64 fun (v22:Sl)=>st (b11,0) [sv v22]<|Rec7 (IntKind.i64.wrap (s6 + 1))) ( K (some (b11,0)))
def sh_mem_New (a0:Int) (K:Ptr→Hp→Prop):Hp→Prop:=br ((decide (a0 < 1)) || (decide (a0 > 16))) ( K none) ( nw lF (sk.C (⟨(⟨none,0,0,none⟩:Sl)⟩:sk)) fun b11=>Lp (mem_New_l1 a0 K b11) 0)
set_option maxRecDepth 20000 in
theorem sim_mem_New (a0:Int) {K:Ptr→Hp→Prop} {h:Hp} (H:sh_mem_New a0 K h):Ct Tryz.prog vn #[(.int .i64 a0)] h fun v h'=>∃ r,v = tt r∧K r h':=aD [(.int .i64 a0)] Tryz.func90 rfl rfl rfl fun _=>ah<|ac<|aa (ag rfl) rfl<|ae<|ah<|ah<|ac<|aa (ad rfl) rfl<|aa (cx rfl rfl) rfl<|aa (ad rfl) rfl<|aj rfl rfl rfl (aS _) (fun g1=>wv (ad rfl)) rfl<|aj rfl rfl rfl (aS _) (fun g2=>wv (oQ (aJ rfl g2) rfl)) rfl<|aa (dr rfl rfl) rfl<|ae<|aC rfl H (fun k3 H4=>ah<|ac<|aa (ag rfl) rfl<|ae<|ao<|aw (az rfl (aE rfl)) ⟨none,rfl,H4⟩) (fun k3 H4=>av<|ah<|ac<|aa (bo (vs:=[]) rfl build_181) rfl<|ak (hH rfl rfl rfl H4 fun b11 _ H5=>aa (ag rfl) rfl<|ae<|ah<|ah<|ac<|aa (ad rfl) rfl<|aa (ad rfl) rfl<|ae<|aF<|bO (step:=mem_New_l1 a0 K b11) (fun s6=>[(3,(.pointer (some ⟨b11,0,none⟩))),(12,(.int .i64 a0)),(13,(.int .i64 s6))]) (fun s6=>[]) H5 (.cons rfl (.cons rfl (.cons rfl (.nil _)))) .slnil (fun Rec7 s6 _ H8=>ah<|ac<|aa (cx rfl rfl) rfl<|ae<|ah<|aC rfl H8 (fun k9 H10=>av<|ah<|aF<|bC (n:=11) [] cy rfl .slnil<|ai (i:=0) (fun _ _ _ _=>id) rfl (by kernel_rfl) rfl (ve (ad rfl))<|ai (i:=1) (fun _ _ _ _=>id) rfl (by kernel_rfl) rfl (ve (ad rfl))<|ai (i:=2) (fun _ _ _ _=>id) rfl (by kernel_rfl) rfl (ve (aV rfl))<|ai (i:=3) (fun _ _ _ _=>id) rfl (by kernel_rfl) rfl (ve (an si rfl))<|bR (i:=4) (fun _ _ _ _=>id) H10 rfl (by kernel_rfl) kU rfl (fun _=>rfl) rfl fun x19 H11=>bh (i:=5) (by kernel_rfl) (aI rfl rfl (be H11 (jF rfl rfl) rfl fun v20 _ H12=>⟨.slnil,bh (i:=6) (by kernel_rfl) (aI rfl rfl (be H12 (bJ (vs:=[(sv v20)]) rfl) rfl fun v21 _ H13=>⟨.slnil,bh (i:=7) (by kernel_rfl) (aI rfl rfl (be H13 (dK rfl rfl) rfl fun v22 _ H14=>⟨.slnil,ai (i:=8) (fun _ _ _ _=>id) rfl (by kernel_rfl) rfl (ve (aV rfl))<|ai (i:=9) (fun _ _ _ _=>id) rfl (by kernel_rfl) rfl (ve (an si rfl))<|bh (i:=10) (by kernel_rfl) (aI rfl rfl (dC inf_135 rfl rfl rfl rfl rfl H14 fun _ H15=>⟨.slnil,bf (by kernel_rfl)<|ac<|aa (bI rfl rfl) rfl<|aa (ad rfl) rfl<|ae<|cT (IntKind.i64.wrap (s6 + 1)) H15 (.cons rfl (.cons rfl (.cons rfl (.nil _)))) .slnil⟩))⟩))⟩))⟩))) (fun k9 H10=>bA<|ah<|ac<|aa (ad rfl) rfl<|aa (ag rfl) rfl<|ae<|ao<|aw (az rfl (aE rfl)) ⟨(some (b11,0)),rfl,H10⟩))))
def tH (a0:Ptr) (K:Int→Hp→Prop):Hp→Prop:=br a0.isNone ( K 0) ( nn a0 fun q6=>ld (q6.1,q6.2 + 0) cS fun x8=>K (x8.len:Int))
set_option maxRecDepth 20000 in
theorem sim_mem_Mem_Frames (a0:Ptr) {K:Int→Hp→Prop} {h:Hp} (H:tH a0 K h):Ct Tryz.prog vo #[(pv a0)] h fun v h'=>∃ r,v = dO r∧K r h':=aD [(pv a0)] Tryz.func188 rfl rfl rfl fun _=>ah<|ac<|aa (ag rfl) rfl<|ae<|ah<|ah<|ac<|aa (ad rfl) rfl<|aa (cA Tryz.underlying124 rfl) rfl<|ae<|aC rfl H (fun k1 H2=>ah<|ac<|aa (ag rfl) rfl<|ae<|ao<|aw (az rfl (aE rfl)) ⟨0,rfl,H2⟩) (fun k1 H2=>av<|ah<|ac<|aa (ad rfl) rfl<|bQ H2 fun q6 e3 H4=>aa (aV (aW rfl (ax e3))) rfl<|aa (an si rfl) rfl<|ak (bg H4 kU rfl (fun _=>rfl) rfl fun x8 H5=>aa (dB rfl Tryz.underlying135 rfl) rfl<|aa (ag rfl) rfl<|ae<|ao<|aw (az rfl (aE rfl)) ⟨(x8.len:Int),rfl,H5⟩))
def sh_mem_Mem_at (a0:Ptr) (a1:Int) (a2:Int) (K:Ptr→Hp→Prop):Hp→Prop:=br (!(decide (a1 < 0))) ( cl Tryz.prog vo [(pv a0)] dO fun r12=>br (((decide (a1 ≥ r12)) || (decide (a2 < 0))) || (decide (a2 ≥ 16))) ( K none) ( nn a0 fun q24=>ld (q24.1,q24.2 + 0) cS fun x26=>ix x26 a1 fun q28=>ld (q28.1,q28.2 + Int.toNat a1 * 1) cS fun x29=>ix x29 a2 fun q31=>K (some (q31.1,q31.2 + Int.toNat a2 * 1)))) ( K none)
set_option maxRecDepth 20000 in
theorem sim_mem_Mem_at (a0:Ptr) (a1:Int) (a2:Int) {K:Ptr→Hp→Prop} {h:Hp} (H:sh_mem_Mem_at a0 a1 a2 K h):Ct Tryz.prog lO #[(pv a0),(.int .i64 a1),(.int .i64 a2)] h fun v h'=>∃ r,v = sm r∧K r h':=aD [(pv a0),(.int .i64 a1),(.int .i64 a2)] Tryz.func165 rfl rfl rfl fun _=>ah<|ac<|aa (ag rfl) rfl<|ae<|ah<|ah<|ac<|aa (ad rfl) rfl<|aa (cx rfl rfl) rfl<|aa (ad rfl) rfl<|aj rfl rfl rfl (aS _) (fun g1=>wv (ad rfl)) rfl<|aj rfl rfl rfl (aS _) (fun g2=>wv (ad rfl)) rfl<|cc H (fun k4 H5=>aL rfl rfl rfl (congrArg Value.bool (cm k4)) (aB H5 en_188 (ba (aJ rfl k4) bY) rfl fun r12 _ H6=>aL rfl rfl rfl (congrArg Value.bool (cm k4)) (aQ (wv (gz (aJ rfl k4) rfl)) rfl<|aa (ay rfl (cm k4) rfl) rfl<|aa (ad rfl) rfl<|aj rfl rfl rfl (aS _) (fun g7=>wv (ad rfl)) rfl<|aj rfl rfl rfl (aS _) (fun g8=>wv (cx (aJ rfl g8) rfl)) rfl<|aa (dr rfl rfl) rfl<|aa (ad rfl) rfl<|aj rfl rfl rfl (aS _) (fun g9=>wv (ad rfl)) rfl<|aj rfl rfl rfl (aS _) (fun g10=>wv (gz (aJ rfl g10) rfl)) rfl<|aa (dr rfl rfl) rfl<|ae<|aC rfl H6 (fun k11 H12=>ah<|ac<|aa (ag rfl) rfl<|ae<|ao<|aw (az rfl (aE rfl)) ⟨none,rfl,H12⟩) (fun k11 H12=>av<|ah<|ac<|aa (ad rfl) rfl<|bQ H12 fun q24 e13 H14=>aa (aV (aW rfl (ax e13))) rfl<|aa (an si rfl) rfl<|ak (bg H14 kU rfl (fun _=>rfl) rfl fun x26 H15=>aa (ad rfl) rfl<|cw H15 fun q28 e16 h17 H18=>aa (bD lH (aW rfl (bn e16)) rfl h17) rfl<|ak (bg H18 sc_80 rfl (fun _=>rfl) rfl fun x29 H19=>aa (ad rfl) rfl<|cw H19 fun q31 e20 h21 H22=>aa (bD wg (aW rfl (bn e20)) rfl h21) rfl<|aa (ag rfl) rfl<|ae<|ao<|aw (az rfl (aE rfl)) ⟨(some (q31.1,q31.2 + Int.toNat a2 * 1)),rfl,H22⟩)))))) (fun k4 H5=>am rfl rfl rfl (ci (bN k4)) rfl<|am rfl rfl rfl (ci (bN k4)) rfl<|aa (bd rfl (bN k4) rfl) rfl<|aa (ad rfl) rfl<|am rfl rfl rfl rfl rfl<|am rfl rfl rfl rfl rfl<|aa (bd rfl rfl rfl) rfl<|aa (ad rfl) rfl<|am rfl rfl rfl rfl rfl<|am rfl rfl rfl rfl rfl<|aa (bd rfl rfl rfl) rfl<|ae<|lz rfl rfl<|ah<|ac<|aa (ag rfl) rfl<|ae<|ao<|aw (az rfl (aE rfl)) ⟨none,rfl,H5⟩)
def sh_mem_Mem_Load (a0:Ptr) (a1:Int) (a2:Int) (K:(Int × Bool)→Hp→Prop):Hp→Prop:=cl Tryz.prog lO [(pv a0),(.int .i64 a1),(.int .i64 a2)] sm fun r12=>br r12.isNone ( K (0,false)) ( nn r12 fun q16=>ld (q16.1,q16.2) (cI .u64) fun x17=>K (x17,true))
set_option maxRecDepth 20000 in
theorem sim_mem_Mem_Load (a0:Ptr) (a1:Int) (a2:Int) {K:(Int × Bool)→Hp→Prop} {h:Hp} (H:sh_mem_Mem_Load a0 a1 a2 K h):Ct Tryz.prog ib #[(pv a0),(.int .i64 a1),(.int .i64 a2)] h fun v h'=>∃ r,v = bT r∧K r h':=aD [(pv a0),(.int .i64 a1),(.int .i64 a2)] Tryz.func145 rfl rfl rfl fun _=>ah<|ac<|aa (ag rfl) rfl<|aa (ag rfl) rfl<|ae<|ah<|ac<|aa (ad rfl) rfl<|aa (ad rfl) rfl<|aa (ad rfl) rfl<|ak (aB H en_165 rfl rfl fun r12 _ H1=>aa (ag rfl) rfl<|ae<|ah<|ah<|ac<|aa (ad rfl) rfl<|aa (cA Tryz.underlying214 rfl) rfl<|ae<|aC rfl H1 (fun k2 H3=>ah<|ac<|aa (ag rfl) rfl<|aa (ag rfl) rfl<|ae<|ao<|aw (ce rfl (aE rfl) (aE rfl)) ⟨(0,false),rfl,H3⟩) (fun k2 H3=>av<|ah<|ac<|aa (ad rfl) rfl<|bQ H3 fun q16 e4 H5=>aa (aV (aW rfl (ax e4))) rfl<|ak (bg H5 cE rfl (fun _=>rfl) rfl fun x17 H6=>aa (ag rfl) rfl<|aa (ag rfl) rfl<|ae<|ao<|aw (ce rfl (aE rfl) (aE rfl)) ⟨(x17,true),rfl,H6⟩)))
def uU (a0:Ptr) (a1:Int) (a2:Int) (a3:Int) (K:Bool→Hp→Prop):Hp→Prop:=cl Tryz.prog lO [(pv a0),(.int .i64 a1),(.int .i64 a2)] sm fun r13=>br r13.isNone ( K false) ( nn r13 fun q18=>st (q18.1,q18.2) [.int .u64 a3]<|K true)
set_option maxRecDepth 20000 in
theorem sim_mem_Mem_Store (a0:Ptr) (a1:Int) (a2:Int) (a3:Int) {K:Bool→Hp→Prop} {h:Hp} (H:uU a0 a1 a2 a3 K h):Ct Tryz.prog fB #[(pv a0),(.int .i64 a1),(.int .i64 a2),(.int .u64 a3)] h fun v h'=>∃ r,v = aK r∧K r h':=aD [(pv a0),(.int .i64 a1),(.int .i64 a2),(.int .u64 a3)] Tryz.func146 rfl rfl rfl fun _=>ah<|ac<|aa (ag rfl) rfl<|ae<|ah<|ac<|aa (ad rfl) rfl<|aa (ad rfl) rfl<|aa (ad rfl) rfl<|ak (aB H en_165 rfl rfl fun r13 _ H1=>aa (ag rfl) rfl<|ae<|ah<|ah<|ac<|aa (ad rfl) rfl<|aa (cA Tryz.underlying214 rfl) rfl<|ae<|aC rfl H1 (fun k2 H3=>ah<|ac<|aa (ag rfl) rfl<|ae<|ao<|aw (az rfl (aE rfl)) ⟨false,rfl,H3⟩) (fun k2 H3=>av<|ah<|ac<|aa (ad rfl) rfl<|aa (ad rfl) rfl<|bQ H3 fun q18 e4 H5=>aa (aV (aW rfl (ax e4))) rfl<|ak (dC inf_25 rfl rfl rfl rfl rfl H5 fun _ H6=>ae<|ah<|ac<|aa (ag rfl) rfl<|ae<|ao<|aw (az rfl (aE rfl)) ⟨true,rfl,H6⟩)))
def sh_mem_Mem_Cas (a0:Ptr) (a1:Int) (a2:Int) (a3:Int) (a4:Int) (K:(Int × Bool)→Hp→Prop):Hp→Prop:=cl Tryz.prog ib [(pv a0),(.int .i64 a1),(.int .i64 a2)] bT fun r18=>br (r18.2 && (r18.1 == a3)) ( cl Tryz.prog fB [(pv a0),(.int .i64 a1),(.int .i64 a2),(.int .u64 a4)] aK fun r31=>K (r18.1,r18.2)) ( K (r18.1,r18.2))
set_option maxRecDepth 20000 in
theorem sim_mem_Mem_Cas (a0:Ptr) (a1:Int) (a2:Int) (a3:Int) (a4:Int) {K:(Int × Bool)→Hp→Prop} {h:Hp} (H:sh_mem_Mem_Cas a0 a1 a2 a3 a4 K h):Ct Tryz.prog qa #[(pv a0),(.int .i64 a1),(.int .i64 a2),(.int .u64 a3),(.int .u64 a4)] h fun v h'=>∃ r,v = bT r∧K r h':=aD [(pv a0),(.int .i64 a1),(.int .i64 a2),(.int .u64 a3),(.int .u64 a4)] Tryz.func147 rfl rfl rfl fun _=>ah<|ac<|aa (ag rfl) rfl<|aa (ag rfl) rfl<|ae<|ah<|ac<|aa (ad rfl) rfl<|aa (ad rfl) rfl<|aa (ad rfl) rfl<|ak (aB H en_145 rfl rfl fun r18 _ H1=>aa (ad rfl) rfl<|aa (aq rfl rfl) rfl<|aa (aq rfl rfl) rfl<|aa (ag rfl) rfl<|aa (ag rfl) rfl<|ae<|ah<|ah<|ac<|aa (ad rfl) rfl<|aa (ad rfl) rfl<|aj rfl rfl rfl (aA _) (fun g2=>wv (ad rfl)) rfl<|aj rfl rfl rfl (aA _) (fun g3=>wv (ad rfl)) rfl<|aj rfl rfl rfl (aA _) (fun g4=>wv (bV (aJ rfl g4) (aJ rfl g4))) rfl<|aa (bU rfl rfl) rfl<|ae<|aC rfl H1 (fun k5 H6=>ac<|aa (ad rfl) rfl<|aa (ad rfl) rfl<|aa (ad rfl) rfl<|aa (ad rfl) rfl<|ak (aB H6 en_146 rfl rfl fun r31 _ H7=>ae<|ah<|ac<|aa (ad rfl) rfl<|aa (ad rfl) rfl<|aa (ag rfl) rfl<|aa (ag rfl) rfl<|ae<|ao<|aw (ce rfl (aE rfl) (aE rfl)) ⟨(r18.1,r18.2),rfl,H7⟩)) (fun k5 H6=>av<|ah<|ac<|aa (ad rfl) rfl<|aa (ad rfl) rfl<|aa (ag rfl) rfl<|aa (ag rfl) rfl<|ae<|ao<|aw (ce rfl (aE rfl) (aE rfl)) ⟨(r18.1,r18.2),rfl,H6⟩))
def sh_mem_Mem_Add (a0:Ptr) (a1:Int) (a2:Int) (a3:Int) (K:(Int × Bool)→Hp→Prop):Hp→Prop:=cl Tryz.prog ib [(pv a0),(.int .i64 a1),(.int .i64 a2)] bT fun r16=>cl Tryz.prog fB [(pv a0),(.int .i64 a1),(.int .i64 a2),(.int .u64 (IntKind.u64.wrap (r16.1 + a3)))] aK fun r25=>K (r16.1,r16.2)
set_option maxRecDepth 20000 in
theorem sim_mem_Mem_Add (a0:Ptr) (a1:Int) (a2:Int) (a3:Int) {K:(Int × Bool)→Hp→Prop} {h:Hp} (H:sh_mem_Mem_Add a0 a1 a2 a3 K h):Ct Tryz.prog qb #[(pv a0),(.int .i64 a1),(.int .i64 a2),(.int .u64 a3)] h fun v h'=>∃ r,v = bT r∧K r h':=aD [(pv a0),(.int .i64 a1),(.int .i64 a2),(.int .u64 a3)] Tryz.func148 rfl rfl rfl fun _=>ah<|ac<|aa (ag rfl) rfl<|aa (ag rfl) rfl<|ae<|ah<|ac<|aa (ad rfl) rfl<|aa (ad rfl) rfl<|aa (ad rfl) rfl<|ak (aB H en_145 rfl rfl fun r16 _ H1=>aa (ad rfl) rfl<|aa (aq rfl rfl) rfl<|aa (aq rfl rfl) rfl<|aa (ag rfl) rfl<|aa (ag rfl) rfl<|ae<|ah<|ac<|aa (ad rfl) rfl<|aa (ad rfl) rfl<|aa (ad rfl) rfl<|aa (ad rfl) rfl<|aa (ad rfl) rfl<|aa (bI rfl rfl) rfl<|ak (aB H1 en_146 rfl rfl fun r25 _ H2=>ae<|ah<|ac<|aa (ad rfl) rfl<|aa (ad rfl) rfl<|aa (ag rfl) rfl<|aa (ag rfl) rfl<|ae<|ao<|aw (ce rfl (aE rfl) (aE rfl)) ⟨(r16.1,r16.2),rfl,H2⟩))
def sh_mem_Mem_Zero (a0:Ptr) (a1:Int) (K:Bool→Hp→Prop):Hp→Prop:=cl Tryz.prog lO [(pv a0),(.int .i64 a1),(.int .i64 0)] sm fun r7=>br r7.isNone ( K false) ( nn a0 fun q10=>ld (q10.1,q10.2 + 0) cS fun x12=>ix x12 a1 fun q14=>ld (q14.1,q14.2 + Int.toNat a1 * 1) cS fun x15=>hpv Tryz.prog (Builtin.clear_ #[bq] t_none #[(sv x15)]) R_ fun (_:Unit)=>K true)
set_option maxRecDepth 20000 in
theorem sim_mem_Mem_Zero (a0:Ptr) (a1:Int) {K:Bool→Hp→Prop} {h:Hp} (H:sh_mem_Mem_Zero a0 a1 K h):Ct Tryz.prog sQ #[(pv a0),(.int .i64 a1)] h fun v h'=>∃ r,v = aK r∧K r h':=aD [(pv a0),(.int .i64 a1)] Tryz.func155 rfl rfl rfl fun _=>ah<|ac<|aa (ag rfl) rfl<|ae<|ah<|ah<|ac<|aa (ad rfl) rfl<|aa (ad rfl) rfl<|ak (aB H en_165 rfl rfl fun r7 _ H1=>aa (cA Tryz.underlying214 rfl) rfl<|ae<|aC rfl H1 (fun k2 H3=>ah<|ac<|aa (ag rfl) rfl<|ae<|ao<|aw (az rfl (aE rfl)) ⟨false,rfl,H3⟩) (fun k2 H3=>av<|ah<|ac<|aa (ad rfl) rfl<|bQ H3 fun q10 e4 H5=>aa (aV (aW rfl (ax e4))) rfl<|aa (an si rfl) rfl<|ak (bg H5 kU rfl (fun _=>rfl) rfl fun x12 H6=>aa (ad rfl) rfl<|cw H6 fun q14 e7 h8 H9=>aa (bD lH (aW rfl (bn e7)) rfl h8) rfl<|ak (bg H9 sc_80 rfl (fun _=>rfl) rfl fun x15 H10=>ak (to_hpv0 H10 (x_clear rfl) fun _ _ H11=>ae<|ah<|ac<|aa (ag rfl) rfl<|ae<|ao<|aw (az rfl (aE rfl)) ⟨true,rfl,H11⟩)))))
def uV (a0:Ptr) (a1:Int) (K:Sl→Hp→Prop):Hp→Prop:=cl Tryz.prog lO [(pv a0),(.int .i64 a1),(.int .i64 0)] sm fun r7=>br r7.isNone ( K (⟨none,0,0,none⟩:Sl)) ( nn a0 fun q10=>ld (q10.1,q10.2 + 0) cS fun x12=>ix x12 a1 fun q14=>ld (q14.1,q14.2 + Int.toNat a1 * 1) cS fun x15=>cl Tryz.prog gt [(sv x15)] cn fun r16=>K r16)
set_option maxRecDepth 20000 in
theorem sim_mem_Mem_Frame (a0:Ptr) (a1:Int) {K:Sl→Hp→Prop} {h:Hp} (H:uV a0 a1 K h):Ct Tryz.prog qW #[(pv a0),(.int .i64 a1)] h fun v h'=>∃ r,v = cn r∧K r h':=aD [(pv a0),(.int .i64 a1)] Tryz.func124 rfl rfl rfl fun _=>ah<|ac<|aa (ag rfl) rfl<|ae<|ah<|ah<|ac<|aa (ad rfl) rfl<|aa (ad rfl) rfl<|ak (aB H en_165 rfl rfl fun r7 _ H1=>aa (cA Tryz.underlying214 rfl) rfl<|ae<|aC rfl H1 (fun k2 H3=>ah<|ac<|aa (ag rfl) rfl<|ae<|ao<|aw (az rfl (aE rfl)) ⟨(⟨none,0,0,none⟩:Sl),rfl,H3⟩) (fun k2 H3=>av<|ah<|ac<|aa (ad rfl) rfl<|bQ H3 fun q10 e4 H5=>aa (aV (aW rfl (ax e4))) rfl<|aa (an si rfl) rfl<|ak (bg H5 kU rfl (fun _=>rfl) rfl fun x12 H6=>aa (ad rfl) rfl<|cw H6 fun q14 e7 h8 H9=>aa (bD lH (aW rfl (bn e7)) rfl h8) rfl<|ak (bg H9 sc_80 rfl (fun _=>rfl) rfl fun x15 H10=>ak (aB H10 en_166 rfl rfl fun r16 _ H11=>aa (ag rfl) rfl<|ae<|ao<|aw (az rfl (aE rfl)) ⟨r16,rfl,H11⟩)))))
end Go.Proofs.YtniiiakkdoiaiaaGreatDoor
namespace Go.Proofs.YtniiiakkdoiaiaaGreatDoor
open Go Mb
abbrev vU (s:Sl) (xs:List Int):As:=vec t_uint64 1 (cI .u64) s xs
def rows:List Sl→List (List Int)→List As
  | s::ss,f::fs=>vU s f::rows ss fs
  | _,_=>[]
theorem rows_get:∀ (ss:List Sl) (fs:List (List Int)) (i:Nat) (s:Sl) (f:List Int),ss[i]? = some s→fs[i]? = some f→(rows ss fs)[i]? = some (vU s f)
  | [],_,_,_,_,h,_=>by simp at h
  | _::_,[],_,_,_,_,h=>by simp at h
  | s::ss,f::fs,0,_,_,h1,h2=>by simp at h1 h2; subst h1; subst h2; rfl
  | s::ss,f::fs,i + 1,_,_,h1,h2=>by simpa [rows] using rows_get ss fs i _ _ (by simpa using h1) (by simpa using h2)
theorem rows_set:∀ (ss:List Sl) (fs:List (List Int)) (i:Nat) (s:Sl) (f:List Int),ss[i]? = some s→(rows ss fs).set i (vU s f) = rows ss (fs.set i f)
  | [],_,_,_,_,h=>by simp at h
  | s::ss,[],i,_,_,_=>by simp [rows]
  | s::ss,g::fs,0,_,_,h1=>by simp at h1; subst h1; rfl
  | s::ss,g::fs,i + 1,_,_,h1=>by simp only [rows,List.set_cons_succ]; rw [rows_set ss fs i _ _ (by simpa using h1)]
theorem rows_app (s:Sl) (f:List Int):∀ (ss:List Sl) (fs:List (List Int)),ss.length = fs.length→rows (ss++[s]) (fs++[f]) = rows ss fs++[vU s f]
  | [],[],_=>rfl
  | [],_::_,h=>by simp at h
  | _::_,[],h=>by simp at h
  | a::ss,b::fs,h=>by simp only [List.cons_append,rows]; rw [rows_app s f ss fs (by simpa using h)]
def wO (b:Nat) (s:Sl) (ss:List Sl) (fs:List (List Int)):List As:=blk b lF [sv s]::vec bq 1 cS s ss::rows ss fs
structure MemOk (ss:List Sl) (fs:List (List Int)):Prop where
  len:ss.length = fs.length
  le:fs.length ≤ 16
  row:∀ f ∈ fs,f.length = 16
def ij (x:Ptr) (fs:List (List Int)):As:=fun h=>∃ bs:Nat × Sl × List Sl,(x = some (bs.1,0)∧MemOk bs.2.2 fs)∧aP (wO bs.1 bs.2.1 bs.2.2 fs) h
theorem mem_op {x:Ptr} {fs:List (List Int)} {l:List As} {h:Hp} (s0:aP (ij x fs::l) h):∃ b s ss,x = some (b,0)∧MemOk ss fs∧s.len = fs.length∧aP (wO b s ss fs++l) h:=by
  obtain ⟨⟨b,s,ss⟩,⟨hx,hb⟩,st⟩:=op_ s0
  exact ⟨b,s,ss,hx,hb,(cq (j:=1) st rfl).1.trans hb.len,st⟩
theorem mem_cl {b:Nat} {s:Sl} {ss:List Sl} {fs:List (List Int)} {l:List As} {h:Hp} (hb:MemOk ss fs) (st:aP (wO b s ss fs++l) h):aP (ij (some (b,0)) fs::l) h:=cl_ (b,s,ss) ⟨rfl,hb⟩ st
theorem rO {b:Nat} {s:Sl} {ss:List Sl} {fs:List (List Int)} {h:Hp} (hb:MemOk ss fs) (st:aP (wO b s ss fs) h):aP [ij (some (b,0)) fs] h:=mem_cl hb (by rw [List.append_nil]; exact st)
namespace Mem
def has (fs:List (List Int)) (f a:Int):Prop:=0 ≤ f∧f < fs.length∧0 ≤ a∧a < 16
instance (fs:List (List Int)) (f a:Int):Decidable (has fs f a):=by unfold has; infer_instance
def word (fs:List (List Int)) (f a:Int):Int:=(fs.getD f.toNat []).getD a.toNat 0
def load (fs:List (List Int)) (f a:Int):Int × Bool:=if has fs f a then (word fs f a,true) else (0,false)
def put (fs:List (List Int)) (f a v:Int):List (List Int):=fs.set f.toNat ((fs.getD f.toNat []).set a.toNat v)
def store (fs:List (List Int)) (f a v:Int):Bool × List (List Int):=if has fs f a then (true,put fs f a v) else (false,fs)
end Mem
theorem re (x:Sl):(cS x).length = 1:=rfl
def memAt (ss:List Sl) (fs:List (List Int)) (f a:Int) (r:Ptr):Prop :=
  if Mem.has fs f a then ∃ s q,ss[f.toNat]? = some s∧s.a = some q∧r = some (q.1,q.2 + a.toNat * 1) else r = none
theorem sp_mem_at (b:Nat) (s:Sl) (ss:List Sl) (fs:List (List Int)) (hb:MemOk ss fs) (f a:Int):Sp Tryz.prog lO [pv (some (b,0)),.int .i64 f,.int .i64 a] sm (wO b s ss fs) (fun r=>pa_ (memAt ss fs f a r) (wO b s ss fs)):=by
  intro h st
  refine sim_mem_Mem_at _ _ _ ?_
  unfold sh_mem_Mem_at
  have hno:∀ {p:Prop},¬ p→(Mem.has fs f a→p)→memAt ss fs f a none:=fun hp himp=>by unfold memAt; rw [if_neg (fun hh=>hp (himp hh))]
  have hl:s.len = fs.length:=(cq (j:=1) st rfl).1.trans hb.len
  refine bk (fun k=>?_) (fun k=>?_)
  · have h0:0 ≤ f:=by simpa using k
    unfold cl
    refine sim_mem_Mem_Frames _ ?_
    unfold tH
    refine dJ rfl (cO (bB s st (i:=0) rfl rfl rfl ?_))
    refine bk (fun k2=>?_) (fun k2=>?_)
    · have k2':¬ (f < fs.length∧0 ≤ a∧a < 16):=by simp [hl] at k2; omega
      exact bi (hno k2' (fun hh=>hh.2)) st
    · have k2':f < fs.length∧0 ≤ a∧a < 16:=by simp [hl] at k2; omega
      obtain ⟨n,rfl⟩:=Int.eq_ofNat_of_zero_le h0
      have hn:n < ss.length:=by rw [hb.len]; omega
      have hf:n < fs.length:=by omega
      refine cO (bB s st (i:=0) rfl rfl rfl ?_)
      refine dE st (j:=1) rfl (by omega) (by omega) fun q hq=>?_
      refine eC (j:=1) (i:=n) (k:=0) ss[n] re st rfl hq (by simp) (aO hn) (by simp) ?_
      have hr:(wO b s ss fs)[2 + n]? = some (vU ss[n] fs[n]):=by
        show (blk b lF [sv s]::vec bq 1 cS s ss::rows ss fs)[2 + n]? = _
        rw [Nat.add_comm,List.getElem?_cons_succ,List.getElem?_cons_succ]
        exact rows_get ss fs n _ _ (aO hn) (aO hf)
      have hlen:fs[n].length = 16:=hb.row _ (List.getElem_mem hf)
      refine dE st (j:=2 + n) hr (by omega) (by omega) fun q2 hq2=>?_
      refine bi ?_ st
      unfold memAt
      rw [if_pos ⟨h0,k2'⟩]
      exact ⟨ss[n],q2,by simp [hn],hq2,rfl⟩
  · have k':¬ 0 ≤ f:=by simpa using k
    exact bi (hno k' (fun hh=>hh.1)) st
theorem qq (x:Ptr) (fs:List (List Int)) (f a:Int):Sp Tryz.prog ib [pv x,.int .i64 f,.int .i64 a] bT [ij x fs] (fun r=>pa_ (r = Mem.load fs f a) [ij x fs]):=by
  intro h s0
  obtain ⟨b,s,ss,rfl,hb,hl,st⟩:=mem_op s0
  refine sim_mem_Mem_Load _ _ _ ?_
  unfold sh_mem_Mem_Load
  rw [List.append_nil] at st
  refine cW (rest:=[]) [] (sp_mem_at b s ss fs hb f a) st (List.append_nil _).symm fun r h' s1=>?_
  obtain ⟨hr,s2⟩:=bF.1 s1
  rw [List.append_nil] at s2
  by_cases hh:Mem.has fs f a
  · unfold memAt at hr
    rw [if_pos hh] at hr
    obtain ⟨sr,q,h1,h2,rfl⟩:=hr
    obtain ⟨g1,g2,g3,g4⟩:=hh
    have hf:f.toNat < fs.length:=by omega
    have hrow:(wO b s ss fs)[2 + f.toNat]? = some (vU sr fs[f.toNat]):=by
      show (blk b lF [sv s]::vec bq 1 cS s ss::rows ss fs)[2 + f.toNat]? = _
      rw [Nat.add_comm,List.getElem?_cons_succ,List.getElem?_cons_succ]
      exact rows_get ss fs _ _ _ h1 (aO hf)
    have hlen:fs[f.toNat].length = 16:=hb.row _ (List.getElem_mem hf)
    have ha:a.toNat < fs[f.toNat].length:=by omega
    refine dJ rfl (cO ?_)
    refine eC (j:=2 + f.toNat) (i:=a.toNat) (k:=0) (q:=q) fs[f.toNat][a.toNat] (dk _) s2 hrow h2 (by simp) (aO ha) (by simp) ?_
    refine bi ?_ (rO hb s2)
    unfold Mem.load
    rw [if_pos ⟨g1,g2,g3,g4⟩]
    simp [Mem.word,hf,ha]
  · unfold memAt at hr
    rw [if_neg hh] at hr
    subst hr
    refine dW rfl ?_
    refine bi ?_ (rO hb s2)
    unfold Mem.load
    rw [if_neg hh]
theorem lG (x:Ptr) (fs:List (List Int)) (f a v:Int):Sp Tryz.prog fB [pv x,.int .i64 f,.int .i64 a,.int .u64 v] aK [ij x fs] (fun r=>pa_ (r = (Mem.store fs f a v).1) [ij x (Mem.store fs f a v).2]):=by
  intro h s0
  obtain ⟨b,s,ss,rfl,hb,hl,st⟩:=mem_op s0
  refine sim_mem_Mem_Store _ _ _ _ ?_
  unfold uU
  rw [List.append_nil] at st
  refine cW (rest:=[]) [] (sp_mem_at b s ss fs hb f a) st (List.append_nil _).symm fun r h' s1=>?_
  obtain ⟨hr,s2⟩:=bF.1 s1
  rw [List.append_nil] at s2
  by_cases hh:Mem.has fs f a
  · unfold memAt at hr
    rw [if_pos hh] at hr
    obtain ⟨sr,q,h1,h2,rfl⟩:=hr
    have e:Mem.store fs f a v = (true,Mem.put fs f a v):=if_pos hh
    rw [e]
    obtain ⟨g1,g2,g3,g4⟩:=hh
    have hf:f.toNat < fs.length:=by omega
    have hrow:(wO b s ss fs)[2 + f.toNat]? = some (vU sr fs[f.toNat]):=by
      show (blk b lF [sv s]::vec bq 1 cS s ss::rows ss fs)[2 + f.toNat]? = _
      rw [Nat.add_comm,List.getElem?_cons_succ,List.getElem?_cons_succ]
      exact rows_get ss fs _ _ _ h1 (aO hf)
    have hlen:fs[f.toNat].length = 16:=hb.row _ (List.getElem_mem hf)
    have ha:a.toNat < fs[f.toNat].length:=by omega
    refine dJ rfl (cO ?_)
    refine st_v (j:=2 + f.toNat) (i:=a.toNat) (k:=0) (q:=q) v (dk _) s2 hrow h2 (by simp) (aO ha) (by simp) rfl fun h3 s3=>?_
    have eO:(wO b s ss fs).set (2 + f.toNat) (vU sr (fs[f.toNat].set a.toNat v)) = wO b s ss (Mem.put fs f a v):=by
      show (blk b lF [sv s]::vec bq 1 cS s ss::rows ss fs).set (2 + f.toNat) _ = _
      rw [Nat.add_comm,List.set_cons_succ,List.set_cons_succ,rows_set ss fs _ _ _ h1]
      simp [wO,Mem.put,hf]
    rw [eO] at s3
    refine bi rfl (rO ⟨by simp [Mem.put,hb.len],by simpa [Mem.put] using hb.le,?_⟩ s3)
    intro g hg
    unfold Mem.put at hg
    rcases List.mem_or_eq_of_mem_set hg with h4 | h4
    · exact hb.row _ h4
    · rw [h4]; simp [hf,hlen]
  · unfold memAt at hr
    rw [if_neg hh] at hr
    subst hr
    have e:Mem.store fs f a v = (false,fs):=if_neg hh
    rw [e]
    exact dW rfl (bi rfl (rO hb s2))
namespace Mem
def cas (fs:List (List Int)) (f a o v:Int):(Int × Bool) × List (List Int) :=
  (load fs f a,if (load fs f a).2 && ((load fs f a).1 == o) then (store fs f a v).2 else fs)
def add (fs:List (List Int)) (f a v:Int):(Int × Bool) × List (List Int) :=
  (load fs f a,(store fs f a (IntKind.u64.wrap ((load fs f a).1 + v))).2)
def zero (fs:List (List Int)) (f:Int):Bool × List (List Int) :=
  if has fs f 0 then (true,fs.set f.toNat (List.replicate 16 0)) else (false,fs)
def frame (fs:List (List Int)) (f:Int):List Int:=if has fs f 0 then fs.getD f.toNat [] else []
end Mem
theorem sp_mem_Cas (x:Ptr) (fs:List (List Int)) (f a o v:Int):Sp Tryz.prog qa [pv x,.int .i64 f,.int .i64 a,.int .u64 o,.int .u64 v] bT [ij x fs] (fun r=>pa_ (r = (Mem.cas fs f a o v).1) [ij x (Mem.cas fs f a o v).2]):=by
  intro h s0
  refine sim_mem_Mem_Cas _ _ _ _ _ ?_
  unfold sh_mem_Mem_Cas
  refine cW [0] (qq x fs f a) s0 rfl fun r h' s1=>?_
  obtain ⟨hr,s2⟩:=bF.1 s1
  subst hr
  refine bk (fun k=>?_) (fun k=>?_)
  · refine cW [0] (lG x fs f a v) s2 rfl fun r h' s3=>?_
    obtain ⟨_,s4⟩:=bF.1 s3
    refine bi rfl ?_
    simp only [Mem.cas,k,if_true]
    exact s4
  · refine bi rfl ?_
    simp only [Mem.cas,k,Bool.false_eq_true,if_false]
    exact s2
theorem sp_mem_Add (x:Ptr) (fs:List (List Int)) (f a v:Int):Sp Tryz.prog qb [pv x,.int .i64 f,.int .i64 a,.int .u64 v] bT [ij x fs] (fun r=>pa_ (r = (Mem.add fs f a v).1) [ij x (Mem.add fs f a v).2]):=by
  intro h s0
  refine sim_mem_Mem_Add _ _ _ _ ?_
  unfold sh_mem_Mem_Add
  refine cW [0] (qq x fs f a) s0 rfl fun r h' s1=>?_
  obtain ⟨hr,s2⟩:=bF.1 s1
  subst hr
  refine cW [0] (lG x fs f a _) s2 rfl fun r h' s3=>?_
  obtain ⟨_,s4⟩:=bF.1 s3
  exact bi rfl s4
theorem sp_slices_Clone (s:Sl) (xs:List Int) (hb:xs.length < 2 ^ 40):Sp Tryz.prog gt [sv s] cn [vU s xs] (fun r=>aP [vU r xs,vU s xs]):=by
  intro h s0
  refine pG _ ?_
  unfold jH
  refine bk (fun k=>?_) (fun k=>?_)
  · have hn:xs = []:=by
      obtain ⟨_,⟨e1,e2,e3⟩,_⟩:=dX (i:=0) rfl s0
      rcases e3 with e3 | ⟨b,pre,rest,U,fr,h4,_⟩
      · exact List.eq_nil_of_length_eq_zero (by omega)
      · rw [h4] at k; cases k
    subst hn
    exact fI s0
  · refine fu (τ:=Int) [] (val:=fun x=>.int .u64 x) (enc:=cI .u64) fR (dk _) (fun _=>rfl) s0 rfl rfl (by simp) fun y h' s1=>?_
    refine tn (τ:=Int) (i:=0) (j:=1) (enc:=cI .u64) (xs:=[]) (ys:=xs) fR fR.sl (dk _) (oneI _) s1 rfl rfl (by omega) (by simp; omega) (by simp; omega) fun v h2 s2=>?_
    exact s2
theorem mem_has {ss:List Sl} {fs:List (List Int)} {f a:Int} {r:Ptr} (hr:memAt ss fs f a r):(Mem.has fs f a↔r ≠ none):=by
  unfold memAt at hr
  split at hr
  · obtain ⟨s,q,_,_,rfl⟩:=hr; simp [*]
  · simp [*]
theorem mem_row {b:Nat} {s:Sl} {ss:List Sl} {fs:List (List Int)} {i:Nat} (hb:MemOk ss fs) (hi:i < fs.length):∃ sr,ss[i]? = some sr∧(wO b s ss fs)[2 + i]? = some (vU sr fs[i]):=by
  have hn:i < ss.length:=by rw [hb.len]; exact hi
  refine ⟨ss[i],aO hn,?_⟩
  show (blk b lF [sv s]::vec bq 1 cS s ss::rows ss fs)[2 + i]? = _
  rw [Nat.add_comm,List.getElem?_cons_succ,List.getElem?_cons_succ]
  exact rows_get ss fs i _ _ (aO hn) (aO hi)
theorem mem_set {b:Nat} {s:Sl} {ss:List Sl} {fs:List (List Int)} {i:Nat} {sr:Sl} {g:List Int} (h1:ss[i]? = some sr):(wO b s ss fs).set (2 + i) (vU sr g) = wO b s ss (fs.set i g):=by
  show (blk b lF [sv s]::vec bq 1 cS s ss::rows ss fs).set (2 + i) _ = _
  rw [Nat.add_comm,List.set_cons_succ,List.set_cons_succ,rows_set ss fs _ _ _ h1]; rfl
theorem mem_ok_set {ss:List Sl} {fs:List (List Int)} {i:Nat} {g:List Int} (hb:MemOk ss fs) (hg:g.length = 16):MemOk ss (fs.set i g) :=
  ⟨by simp [hb.len],by simpa using hb.le,fun f hf=>by
    rcases List.mem_or_eq_of_mem_set hf with h4 | h4
    · exact hb.row _ h4
    · rw [h4]; exact hg⟩
theorem sp_mem_Zero (x:Ptr) (fs:List (List Int)) (f:Int):Sp Tryz.prog sQ [pv x,.int .i64 f] aK [ij x fs] (fun r=>pa_ (r = (Mem.zero fs f).1) [ij x (Mem.zero fs f).2]):=by
  intro h s0
  obtain ⟨b,s,ss,rfl,hb,hl,st⟩:=mem_op s0
  refine sim_mem_Mem_Zero _ _ ?_
  unfold sh_mem_Mem_Zero
  rw [List.append_nil] at st
  refine cW (rest:=[]) [] (sp_mem_at b s ss fs hb f 0) st (List.append_nil _).symm fun r h' s1=>?_
  obtain ⟨hr,s2⟩:=bF.1 s1
  rw [List.append_nil] at s2
  have hh:=mem_has hr
  refine bk (fun k=>?_) (fun k=>?_)
  · have:¬ Mem.has fs f 0:=by rw [hh]; cases r <;> simp_all
    have e:Mem.zero fs f = (false,fs):=if_neg this
    rw [e]
    exact bi rfl (rO hb s2)
  · have hy:Mem.has fs f 0:=by rw [hh]; cases r <;> simp_all
    have e:Mem.zero fs f = (true,fs.set f.toNat (List.replicate 16 0)):=if_pos hy
    rw [e]
    obtain ⟨g1,g2,_⟩:=hy
    obtain ⟨n,rfl⟩:=Int.eq_ofNat_of_zero_le g1
    have hf:n < fs.length:=by omega
    obtain ⟨sr,h1,hrow⟩:=mem_row (b:=b) (s:=s) hb hf
    have hn:n < ss.length:=by rw [hb.len]; exact hf
    refine cO (bB s s2 (i:=0) rfl rfl rfl ?_)
    refine dE s2 (j:=1) rfl (by omega) (by omega) fun q hq=>?_
    refine eC (j:=1) (i:=n) (k:=0) sr re s2 rfl hq (by simp) h1 (by simp) ?_
    refine clear_v (τ:=Int) (x0:=0) (enc:=cI .u64) fR rfl (dk _) (oneI _) s2 hrow fun h3 s3=>?_
    rw [mem_set h1,hb.row _ (List.getElem_mem hf)] at s3
    exact bi rfl (rO (mem_ok_set hb (by simp)) s3)
theorem sp_mem_Frame (x:Ptr) (fs:List (List Int)) (f:Int):Sp Tryz.prog qW [pv x,.int .i64 f] cn [ij x fs] (fun r=>aP [vU r (Mem.frame fs f),ij x fs]):=by
  intro h s0
  obtain ⟨b,s,ss,rfl,hb,hl,st⟩:=mem_op s0
  refine sim_mem_Mem_Frame _ _ ?_
  unfold uV
  rw [List.append_nil] at st
  refine cW (rest:=[]) [] (sp_mem_at b s ss fs hb f 0) st (List.append_nil _).symm fun r h' s1=>?_
  obtain ⟨hr,s2⟩:=bF.1 s1
  rw [List.append_nil] at s2
  have hh:=mem_has hr
  refine bk (fun k=>?_) (fun k=>?_)
  · have:¬ Mem.has fs f 0:=by rw [hh]; cases r <;> simp_all
    have e:Mem.frame fs f = []:=if_neg this
    rw [e]
    exact fI (rO hb s2)
  · have hy:Mem.has fs f 0:=by rw [hh]; cases r <;> simp_all
    have e:Mem.frame fs f = fs.getD f.toNat []:=if_pos hy
    rw [e]
    obtain ⟨g1,g2,_⟩:=hy
    obtain ⟨n,rfl⟩:=Int.eq_ofNat_of_zero_le g1
    have hf:n < fs.length:=by omega
    obtain ⟨sr,h1,hrow⟩:=mem_row (b:=b) (s:=s) hb hf
    have hn:n < ss.length:=by rw [hb.len]; exact hf
    have hlen:=hb.row _ (List.getElem_mem hf)
    refine cO (bB s s2 (i:=0) rfl rfl rfl ?_)
    refine dE s2 (j:=1) rfl (by omega) (by omega) fun q hq=>?_
    refine eC (j:=1) (i:=n) (k:=0) sr re s2 rfl hq (by simp) h1 (by simp) ?_
    have hp:pick [2 + n] (wO b s ss fs) = [vU sr fs[n]]++(wO b s ss fs).eraseIdx (2 + n):=by
      unfold pick; rw [hrow]; rfl
    refine cW [2 + n] (sp_slices_Clone sr fs[n] (by omega)) s2 hp fun r2 h3 s3=>?_
    have e2:fs.getD (n:Int).toNat [] = fs[n]:=by simp [hf]
    rw [e2]
    have hlt:=(List.getElem?_eq_some_iff.1 hrow).1
    refine star_tail (dG s3) fun h4 s4=>?_
    have s5:=dQ hlt s4
    rw [mem_set h1] at s5
    exact rO hb (by simpa using s5)
theorem sp_mem_New (n:Int) (h1:¬ n < 1) (h2:¬ n > 16):Sp Tryz.prog vn [.int .i64 n] tt [] (fun r=>aP [ij r (List.replicate n.toNat (List.replicate 16 0))]):=by
  intro h st
  refine sim_mem_New _ ?_
  unfold sh_mem_New
  obtain ⟨m,rfl⟩:=Int.eq_ofNat_of_zero_le (show 0 ≤ n by omega)
  refine dJ (by simp; omega) ?_
  refine oS st fun b h' s1=>?_
  refine Lp.intro (fun (i:Int) h=>∃ (k:Nat) (s:Sl) (ss:List Sl),i = k∧k ≤ m∧ss.length = k∧aP (wO b s ss (List.replicate k (List.replicate 16 0))) h) (fun (i:Int) _=>m - i.toNat)
    ⟨0,⟨none,0,0,none⟩,[],rfl,Nat.zero_le _,rfl,bp [1] (fI s1) rfl⟩ ?_
  rintro i h ⟨k,s,ss,rfl,hk,hss,s2⟩
  unfold mem_New_l1
  refine bk (fun c=>?_) (fun c=>?_)
  · have hlt:k < m:=by simpa using c
    have hw:IntKind.i64.wrap ((k:Int) + 1) = ((k + 1:Nat):Int):=by rw [cf (by omega) (by omega)]; rfl
    refine bB s s2 (i:=0) rfl rfl rfl ?_
    refine nI (τ:=Int) (x0:=0) (enc:=cI .u64) (n:=16) fR rfl s2 (by omega) (by omega) fun v h3 s3=>?_
    refine fu (τ:=Sl) [v] (val:=sv) (enc:=cS) uj re (fun _=>rfl) s3 rfl rfl (by simp) fun y h4 s4=>?_
    refine tn (τ:=Sl) (i:=3) (j:=0) (enc:=cS) (xs:=ss) (ys:=[v]) uj uj.sl re oneS s4 rfl rfl (by omega) (by simp; omega) (by simp; omega) fun w h5 s5=>?_
    refine uq (i:=2) s5 rfl (Nat.le_refl _) fun h6 s6=>?_
    rw [hw]
    refine ⟨⟨k + 1,w,ss++[v],rfl,hlt,by simp [hss],?_⟩,by simp; omega⟩
    have s7:aP (vU v (List.replicate 16 0)::blk b lF [sv w]::vec bq 1 cS w (ss++[v])::rows ss (List.replicate k (List.replicate 16 0))) h6:=ct (l:=[vec bq 1 cS y [v]]) s6
    have s8:=bp [1,1] s7 rfl
    unfold wO
    rw [show List.replicate (k + 1) (List.replicate 16 (0:Int)) = List.replicate k (List.replicate 16 0)++[List.replicate 16 0] from by simp [List.replicate_succ'],rows_app _ _ _ _ (by simp [hss])]
    exact km (.cons _ (.cons _ (List.perm_append_comm (l₁:=[_])))) s8
  · have:k = m:=by simp at c; omega
    subst this
    exact rO ⟨by simp [hss],by simp; omega,fun f hf=>by rw [(List.mem_replicate.1 hf).2]; simp⟩ s2
end Go.Proofs.YtniiiakkdoiaiaaGreatDoor
namespace Go.Proofs.YtniiiakkdoiaiaaGreatDoor
open Go Mb
set_option linter.unusedVariables false
def mA (a0:Int) (K:Sl→Hp→Prop) (s27:Bool):Hp→Prop:=br s27 ( hpv Tryz.prog (Instr.buildSlice dL 3 #[(0,(.int .i64 1)),(1,(.int .i64 2)),(2,(.int .i64 6))]) cJ fun (v33:Sl)=>K v33) ( br (a0 == 22) ( hpv Tryz.prog (Instr.buildSlice dL 4 #[(0,(.int .i64 1)),(1,(.int .i64 2)),(2,(.int .i64 6)),(3,(.int .i64 6))]) cJ fun (v36:Sl)=>K v36) ( K (⟨none,0,0,none⟩:Sl)))
def iX (a0:Int) (K:Sl→Hp→Prop) (s1:Bool):Hp→Prop:=br s1 ( hpv Tryz.prog (Instr.buildSlice dL 1 #[(0,(.int .i64 0))]) cJ fun (v8:Sl)=>K v8) ( br (a0 == 2) ( hpv Tryz.prog (Instr.buildSlice dL 3 #[(0,(.int .i64 0)),(1,(.int .i64 0)),(2,(.int .i64 4))]) cJ fun (v11:Sl)=>K v11) ( br (a0 == 3) ( hpv Tryz.prog (Instr.buildSlice dL 4 #[(0,(.int .i64 0)),(1,(.int .i64 3)),(2,(.int .i64 0)),(3,(.int .i64 4))]) cJ fun (v14:Sl)=>K v14) ( br (a0 == 6) ( hpv Tryz.prog (Instr.buildSlice dL 3 #[(0,(.int .i64 1)),(1,(.int .i64 0)),(2,(.int .i64 4))]) cJ fun (v17:Sl)=>K v17) ( br (a0 == 7) ( hpv Tryz.prog (Instr.buildSlice dL 1 #[(0,(.int .i64 1))]) cJ fun (v20:Sl)=>K v20) ( br (a0 == 8) ( hpv Tryz.prog (Instr.buildSlice dL 2 #[(0,(.int .i64 1)),(1,(.int .i64 4))]) cJ fun (v23:Sl)=>K v23) ( br (a0 == 9) ( hpv Tryz.prog (Instr.buildSlice dL 4 #[(0,(.int .i64 0)),(1,(.int .i64 2)),(2,(.int .i64 5)),(3,(.int .i64 6))]) cJ fun (v26:Sl)=>K v26) ( br (a0 == 20) ( hpv Tryz.prog (Instr.buildSlice dL 2 #[(0,(.int .i64 1)),(1,(.int .i64 2))]) cJ fun (v29:Sl)=>K v29) ( br (a0 == 21) ( mA a0 K (a0 == 21)) ( mA a0 K (a0 == 23))))))))))
def sh_word_kinds (a0:Int) (K:Sl→Hp→Prop):Hp→Prop:=br (a0 == 1) ( iX a0 K (a0 == 1)) ( br (a0 == 4) ( iX a0 K (a0 == 4)) ( iX a0 K (a0 == 5)))
set_option maxRecDepth 20000 in
theorem sim_word_kinds (a0:Int) {K:Sl→Hp→Prop} {h:Hp} (H:sh_word_kinds a0 K h):Ct Tryz.prog rM #[(.int .i64 a0)] h fun v h'=>∃ r,v = cJ r∧K r h':=aD [(.int .i64 a0)] Tryz.func137 rfl rfl rfl fun _=>ah<|ac<|aa (ag rfl) rfl<|ae<|ah<|ah<|ac<|aa (ad rfl) rfl<|ae<|aF<|eB (iX a0 K) (fun s1=>[(3,(.int .i64 a0)),(4,(.bool s1))]) (fun s1=>[]) ( ah<|ac<|aa (bV rfl rfl) rfl<|aa (ag rfl) rfl<|ae<|aC rfl H (fun k37 H38=>av<|cF (a0 == 1) H38 (.cons rfl (.cons rfl (.nil _))) .slnil) (fun k37 H38=>ah<|ac<|aa (bV rfl rfl) rfl<|aa (ag rfl) rfl<|ae<|aC rfl H38 (fun k39 H40=>av<|cF (a0 == 4) H40 (.cons rfl (.cons rfl (.nil _))) .slnil) (fun k39 H40=>ac<|aa (bV rfl rfl) rfl<|aa (ag rfl) rfl<|ae<|cF (a0 == 5) H40 (.cons rfl (.cons rfl (.nil _))) .slnil))) (fun s1 _ H2=>aC rfl H2 (fun k3 H4=>ah<|ac<|ak (be H4 (bJ (vs:=[(.int .i64 0)]) rfl) rfl fun v8 _ H5=>aa (ag rfl) rfl<|ae<|ao<|aw (az rfl (aE rfl)) ⟨v8,rfl,H5⟩)) (fun k3 H4=>ah<|ac<|aa (bV rfl rfl) rfl<|aa (ag rfl) rfl<|ae<|aC rfl H4 (fun k6 H7=>ah<|ac<|ak (be H7 (bJ (vs:=[(.int .i64 0),(.int .i64 0),(.int .i64 4)]) rfl) rfl fun v11 _ H8=>aa (ag rfl) rfl<|ae<|ao<|aw (az rfl (aE rfl)) ⟨v11,rfl,H8⟩)) (fun k6 H7=>ah<|ac<|aa (bV rfl rfl) rfl<|aa (ag rfl) rfl<|ae<|aC rfl H7 (fun k9 H10=>ah<|ac<|ak (be H10 (bJ (vs:=[(.int .i64 0),(.int .i64 3),(.int .i64 0),(.int .i64 4)]) rfl) rfl fun v14 _ H11=>aa (ag rfl) rfl<|ae<|ao<|aw (az rfl (aE rfl)) ⟨v14,rfl,H11⟩)) (fun k9 H10=>ah<|ac<|aa (bV rfl rfl) rfl<|aa (ag rfl) rfl<|ae<|aC rfl H10 (fun k12 H13=>ah<|ac<|ak (be H13 (bJ (vs:=[(.int .i64 1),(.int .i64 0),(.int .i64 4)]) rfl) rfl fun v17 _ H14=>aa (ag rfl) rfl<|ae<|ao<|aw (az rfl (aE rfl)) ⟨v17,rfl,H14⟩)) (fun k12 H13=>ah<|ac<|aa (bV rfl rfl) rfl<|aa (ag rfl) rfl<|ae<|aC rfl H13 (fun k15 H16=>ah<|ac<|ak (be H16 (bJ (vs:=[(.int .i64 1)]) rfl) rfl fun v20 _ H17=>aa (ag rfl) rfl<|ae<|ao<|aw (az rfl (aE rfl)) ⟨v20,rfl,H17⟩)) (fun k15 H16=>ah<|ac<|aa (bV rfl rfl) rfl<|aa (ag rfl) rfl<|ae<|aC rfl H16 (fun k18 H19=>ah<|ac<|ak (be H19 (bJ (vs:=[(.int .i64 1),(.int .i64 4)]) rfl) rfl fun v23 _ H20=>aa (ag rfl) rfl<|ae<|ao<|aw (az rfl (aE rfl)) ⟨v23,rfl,H20⟩)) (fun k18 H19=>ah<|ac<|aa (bV rfl rfl) rfl<|aa (ag rfl) rfl<|ae<|aC rfl H19 (fun k21 H22=>ah<|ac<|ak (be H22 (bJ (vs:=[(.int .i64 0),(.int .i64 2),(.int .i64 5),(.int .i64 6)]) rfl) rfl fun v26 _ H23=>aa (ag rfl) rfl<|ae<|ao<|aw (az rfl (aE rfl)) ⟨v26,rfl,H23⟩)) (fun k21 H22=>ah<|ac<|aa (bV rfl rfl) rfl<|aa (ag rfl) rfl<|ae<|aC rfl H22 (fun k24 H25=>ah<|ac<|ak (be H25 (bJ (vs:=[(.int .i64 1),(.int .i64 2)]) rfl) rfl fun v29 _ H26=>aa (ag rfl) rfl<|ae<|ao<|aw (az rfl (aE rfl)) ⟨v29,rfl,H26⟩)) (fun k24 H25=>eB (mA a0 K) (fun s27=>[(3,(.int .i64 a0)),(30,(.bool s27))]) (fun s27=>[]) ( ah<|ac<|aa (bV rfl rfl) rfl<|aa (ag rfl) rfl<|ae<|aC rfl H25 (fun k35 H36=>av<|cF (a0 == 21) H36 (.cons rfl (.cons rfl (.nil _))) .slnil) (fun k35 H36=>ac<|aa (bV rfl rfl) rfl<|aa (ag rfl) rfl<|ae<|cF (a0 == 23) H36 (.cons rfl (.cons rfl (.nil _))) .slnil)) (fun s27 _ H28=>aC rfl H28 (fun k29 H30=>ah<|ac<|ak (be H30 (bJ (vs:=[(.int .i64 1),(.int .i64 2),(.int .i64 6)]) rfl) rfl fun v33 _ H31=>aa (ag rfl) rfl<|ae<|ao<|aw (az rfl (aE rfl)) ⟨v33,rfl,H31⟩)) (fun k29 H30=>ah<|ac<|aa (bV rfl rfl) rfl<|aa (ag rfl) rfl<|ae<|aC rfl H30 (fun k32 H33=>ah<|ac<|ak (be H33 (bJ (vs:=[(.int .i64 1),(.int .i64 2),(.int .i64 6),(.int .i64 6)]) rfl) rfl fun v36 _ H34=>aa (ag rfl) rfl<|ae<|ao<|aw (az rfl (aE rfl)) ⟨v36,rfl,H34⟩)) (fun k32 H33=>av<|ah<|ac<|aa (ag rfl) rfl<|ae<|ao<|aw (az rfl (aE rfl)) ⟨(⟨none,0,0,none⟩:Sl),rfl,H33⟩))))))))))))
def tv (a0:ap) (a1:Int) (K:(Int × Bool)→Hp→Prop) (s1:Bool):Hp→Prop:=br s1 ( K (0,false)) ( gd (0 ≤ a1∧a1 < 5)<|K ((IntKind.i64.wrap (ap.get a0 a1)),true))
def sh_word_Arg (a0:ap) (a1:Int) (a2:Int) (K:(Int × Bool)→Hp→Prop):Hp→Prop:=br (!(((decide (a1 < 1)) || (decide (a1 ≥ 5))) || (decide (a2 ≤ 0)))) ( gd (0 ≤ a1∧a1 < 5)<|tv a0 a1 K (decide ((ap.get a0 a1) ≥ (IntKind.u64.wrap a2)))) ( tv a0 a1 K true)
set_option maxRecDepth 20000 in
theorem sim_word_Arg (a0:ap) (a1:Int) (a2:Int) {K:(Int × Bool)→Hp→Prop} {h:Hp} (H:sh_word_Arg a0 a1 a2 K h):Ct Tryz.prog mY #[(.agg (ap.C a0).toArray),(.int .i64 a1),(.int .i64 a2)] h fun v h'=>∃ r,v = bW r∧K r h':=aD [(.agg (ap.C a0).toArray),(.int .i64 a1),(.int .i64 a2)] Tryz.func144 rfl rfl rfl fun _=>ah<|ac<|ak (cC (l:=(ap.C a0)) rfl rfl rfl fun b3=>aa (ag rfl) rfl<|aa (ag rfl) rfl<|ae<|ah<|eB (tv a0 a1 K) (fun s1=>[(1,(.int .i64 a1)),(3,(.pointer (some ⟨b3,0,none⟩))),(25,(.bool s1))]) (fun s1=>[bx b3 27 (ap.C a0)]) ( ac<|aa (ad rfl) rfl<|aa (cx rfl rfl) rfl<|aa (ad rfl) rfl<|aj rfl rfl rfl (aS _) (fun g7=>wv (ad rfl)) rfl<|aj rfl rfl rfl (aS _) (fun g8=>wv (gz (aJ rfl g8) rfl)) rfl<|aa (dr rfl rfl) rfl<|aa (ad rfl) rfl<|aj rfl rfl rfl (aS _) (fun g9=>wv (ad rfl)) rfl<|aj rfl rfl rfl (aS _) (fun g10=>wv (v_le (aJ rfl g10) rfl)) rfl<|aa (dr rfl rfl) rfl<|aa (ad rfl) rfl<|aj rfl rfl rfl (aS _) (fun g11=>wv (ad rfl)) rfl<|cc H (fun k13 H14=>je H14 fun h15 H16=>aL rfl rfl rfl (congrArg Value.bool (cm k13)) (aQ (wv (bK di rfl (aJ rfl k13) h15)) rfl<|aL rfl rfl rfl (congrArg Value.bool (cm k13)) (aQ (cv (bm (k:=0) cE rfl rfl (at_27 _ _ h15))) rfl<|aL rfl rfl rfl (congrArg Value.bool (cm k13)) (aQ (wv (ad rfl)) rfl<|aL rfl rfl rfl (congrArg Value.bool (cm k13)) (aQ (wv (eo ⟨_,Tryz.underlying3⟩ Tryz.underlying25 rfl)) rfl<|aL rfl rfl rfl (congrArg Value.bool (cm k13)) (aQ (wv (gz rfl rfl)) rfl<|aa (ay rfl (cm k13) rfl) rfl<|ae<|cF (decide ((ap.get a0 a1) ≥ (IntKind.u64.wrap a2))) H16 (.cons rfl (.cons rfl (.cons rfl (.nil _)))) (.cons_cons _ .slnil))))))) (fun k13 H14=>am rfl rfl rfl (ci (bN k13)) rfl<|am rfl rfl rfl (ci (bN k13)) rfl<|am rfl rfl rfl (ci (bN k13)) rfl<|am rfl rfl rfl (ci (bN k13)) rfl<|am rfl rfl rfl (ci (bN k13)) rfl<|aa (bd rfl (bN k13) rfl) rfl<|ae<|cF true H14 (.cons rfl (.cons rfl (.cons rfl (.nil _)))) (.cons_cons _ .slnil))) (fun s1 _ H2=>aC rfl H2 (fun k3 H4=>ah<|ac<|aa (ag rfl) rfl<|aa (ag rfl) rfl<|ae<|ao<|aw (ce rfl (aE rfl) (aE rfl)) ⟨(0,false),rfl,H4⟩) (fun k3 H4=>av<|ah<|ac<|aa (ad rfl) rfl<|je H4 fun h5 H6=>aa (bK di rfl rfl h5) rfl<|bw (bm (k:=0) cE rfl rfl (at_27 _ _ h5)) rfl<|aa (eo ⟨_,Tryz.underlying25⟩ Tryz.underlying3 rfl) rfl<|aa (ag rfl) rfl<|aa (ag rfl) rfl<|ae<|ao<|aw (ce rfl (aE rfl) (aE rfl)) ⟨((IntKind.i64.wrap (ap.get a0 a1)),true),rfl,H6⟩)))
def sh_word_fits (a0:ap) (a1:Int) (a2:Int) (a3:Int) (K:Bool→Hp→Prop):Hp→Prop:=br (a2 == 0) ( cl Tryz.prog mY [(.agg (ap.C a0).toArray),(.int .i64 a1),(.int .i64 8)] bW fun r16=>K r16.2) ( br (a2 == 1) ( cl Tryz.prog mY [(.agg (ap.C a0).toArray),(.int .i64 a1),(.int .i64 8)] bW fun r24=>K r24.2) ( br (a2 == 2) ( cl Tryz.prog mY [(.agg (ap.C a0).toArray),(.int .i64 a1),(.int .i64 16)] bW fun r32=>K r32.2) ( br (a2 == 3) ( cl Tryz.prog mY [(.agg (ap.C a0).toArray),(.int .i64 a1),(.int .i64 a3)] bW fun r41=>K r41.2) ( br (a2 == 4) ( gd (0 ≤ a1∧a1 < 5)<|K ((la (ap.get a0 a1)).2)) ( br (a2 == 5) ( gd (0 ≤ a1∧a1 < 5)<|K ((decide ((ap.get a0 a1) ≥ 1)) && (decide ((ap.get a0 a1) ≤ 4)))) ( K true))))))
set_option maxRecDepth 20000 in
theorem sim_word_fits (a0:ap) (a1:Int) (a2:Int) (a3:Int) {K:Bool→Hp→Prop} {h:Hp} (H:sh_word_fits a0 a1 a2 a3 K h):Ct Tryz.prog n_word_fits #[(.agg (ap.C a0).toArray),(.int .i64 a1),(.int .i64 a2),(.int .i64 a3)] h fun v h'=>∃ r,v = aK r∧K r h':=aD [(.agg (ap.C a0).toArray),(.int .i64 a1),(.int .i64 a2),(.int .i64 a3)] Tryz.func138 rfl rfl rfl fun _=>ah<|ac<|ak (cC (l:=(ap.C a0)) rfl rfl rfl fun b4=>aa (ag rfl) rfl<|ae<|ah<|ac<|aa (ag rfl) rfl<|ae<|ah<|ah<|ac<|aa (ad rfl) rfl<|ae<|aF<|ah<|ac<|aa (bV rfl rfl) rfl<|aa (ag rfl) rfl<|ae<|aC rfl H (fun k1 H2=>ac<|bw (bP (k:=0) fw rfl rfl rfl rfl) rfl<|aa (ad rfl) rfl<|ak (aB H2 en_144 rfl rfl fun r16 _ H3=>aa (ad rfl) rfl<|aa (aq rfl rfl) rfl<|aa (aq rfl rfl) rfl<|aa (ag rfl) rfl<|ae<|ah<|ac<|aa (ad rfl) rfl<|aa (ag rfl) rfl<|ae<|ao<|aw (az rfl (aE rfl)) ⟨r16.2,rfl,H3⟩)) (fun k1 H2=>ah<|ac<|aa (bV rfl rfl) rfl<|aa (ag rfl) rfl<|ae<|aC rfl H2 (fun k4 H5=>ac<|bw (bP (k:=0) fw rfl rfl rfl rfl) rfl<|aa (ad rfl) rfl<|ak (aB H5 en_144 rfl rfl fun r24 _ H6=>aa (ad rfl) rfl<|aa (aq rfl rfl) rfl<|aa (aq rfl rfl) rfl<|aa (ag rfl) rfl<|ae<|ah<|ac<|aa (ad rfl) rfl<|aa (ag rfl) rfl<|ae<|ao<|aw (az rfl (aE rfl)) ⟨r24.2,rfl,H6⟩)) (fun k4 H5=>ah<|ac<|aa (bV rfl rfl) rfl<|aa (ag rfl) rfl<|ae<|aC rfl H5 (fun k7 H8=>ac<|bw (bP (k:=0) fw rfl rfl rfl rfl) rfl<|aa (ad rfl) rfl<|ak (aB H8 en_144 rfl rfl fun r32 _ H9=>aa (ad rfl) rfl<|aa (aq rfl rfl) rfl<|aa (aq rfl rfl) rfl<|aa (ag rfl) rfl<|ae<|ah<|ac<|aa (ad rfl) rfl<|aa (ag rfl) rfl<|ae<|ao<|aw (az rfl (aE rfl)) ⟨r32.2,rfl,H9⟩)) (fun k7 H8=>ah<|ac<|aa (bV rfl rfl) rfl<|aa (ag rfl) rfl<|ae<|aC rfl H8 (fun k10 H11=>ac<|bw (bP (k:=0) fw rfl rfl rfl rfl) rfl<|aa (ad rfl) rfl<|aa (ad rfl) rfl<|ak (aB H11 en_144 rfl rfl fun r41 _ H12=>aa (ad rfl) rfl<|aa (aq rfl rfl) rfl<|aa (aq rfl rfl) rfl<|aa (ag rfl) rfl<|ae<|ah<|ac<|aa (ad rfl) rfl<|aa (ag rfl) rfl<|ae<|ao<|aw (az rfl (aE rfl)) ⟨r41.2,rfl,H12⟩)) (fun k10 H11=>ah<|ac<|aa (bV rfl rfl) rfl<|aa (ag rfl) rfl<|ae<|aC rfl H11 (fun k13 H14=>ac<|aa (ad rfl) rfl<|je H14 fun h15 H16=>aa (bK di rfl rfl h15) rfl<|bw (bm (k:=0) cE rfl rfl (at_27 _ _ h15)) rfl<|ak (cM (vs:=[(.int .u64 (ap.get a0 a1))]) (bG (ct_word_Rights (ap.get a0 a1) _)) en_176 rfl rfl<|aa (ad rfl) rfl<|aa (aq rfl rfl) rfl<|aa (aq rfl rfl) rfl<|aa (ag rfl) rfl<|ae<|ah<|ac<|aa (ad rfl) rfl<|aa (ag rfl) rfl<|ae<|ao<|aw (az rfl (aE rfl)) ⟨(la (ap.get a0 a1)).2,rfl,H16⟩)) (fun k13 H14=>ah<|ac<|aa (bV rfl rfl) rfl<|aa (ag rfl) rfl<|ae<|aC rfl H14 (fun k17 H18=>ac<|aa (ad rfl) rfl<|je H18 fun h19 H20=>aa (bK di rfl rfl h19) rfl<|bw (bm (k:=0) cE rfl rfl (at_27 _ _ h19)) rfl<|aa (gz rfl rfl) rfl<|aa (ad rfl) rfl<|aj rfl rfl rfl (aA _) (fun g21=>wv (ad rfl)) rfl<|aj rfl rfl rfl (aA _) (fun g22=>wv (bK di rfl (aJ rfl g22) h19)) rfl<|aj rfl rfl rfl (aA _) (fun g23=>cv (bm (k:=0) cE (aJ rfl g23) rfl (at_27 _ _ h19))) rfl<|aj rfl rfl rfl (aA _) (fun g24=>wv (v_le (aJ rfl g24) rfl)) rfl<|aa (bU rfl rfl) rfl<|aa (ag rfl) rfl<|ae<|ah<|ac<|aa (ad rfl) rfl<|aa (ag rfl) rfl<|ae<|ao<|aw (az rfl (aE rfl)) ⟨((decide ((ap.get a0 a1) ≥ 1)) && (decide ((ap.get a0 a1) ≤ 4))),rfl,H20⟩) (fun k17 H18=>av<|ah<|ac<|aa (ad rfl) rfl<|aa (ag rfl) rfl<|ae<|ao<|aw (az rfl (aE rfl)) ⟨true,rfl,H18⟩)))))))
def ul (a0:ap) (a1:Int) (K:Int→Hp→Prop) (r17:Sl) (Rec5:Int→Hp→Prop) (s4:Int):Hp→Prop:=br (decide (s4 < (r17.len:Int))) ( ix r17 s4 fun q22=>ld (q22.1,q22.2 + Int.toNat s4 * 1) (cI .i64) fun x23=>cl Tryz.prog n_word_fits [(.agg (ap.C a0).toArray),(.int .i64 (IntKind.i64.wrap (s4 + 1))),(.int .i64 x23),(.int .i64 a1)] aK fun r29=>br (!r29) ( K 2) ( Rec5 (IntKind.i64.wrap (s4 + 1)))) ( K 0)
def sh_word_Check (a0:ap) (a1:Int) (K:Int→Hp→Prop):Hp→Prop:=br (!(aN a0).2) ( K 1) ( cl Tryz.prog rM [(.int .i64 ((aN a0).1))] cJ fun r17=>Lp (ul a0 a1 K r17) 0)
set_option maxRecDepth 20000 in
theorem sim_word_Check (a0:ap) (a1:Int) {K:Int→Hp→Prop} {h:Hp} (H:sh_word_Check a0 a1 K h):Ct Tryz.prog gM #[(.agg (ap.C a0).toArray),(.int .i64 a1)] h fun v h'=>∃ r,v = bv r∧K r h':=aD [(.agg (ap.C a0).toArray),(.int .i64 a1)] Tryz.func95 rfl rfl rfl fun _=>ah<|ac<|ak (cC (l:=(ap.C a0)) rfl rfl rfl fun b2=>aa (ag rfl) rfl<|ae<|ah<|ac<|bw (bP (k:=0) fw rfl rfl rfl rfl) rfl<|ak (cM (vs:=[(.agg (ap.C a0).toArray)]) (bG (jV a0 _)) en_64 rfl rfl<|aa (ad rfl) rfl<|aa (aq rfl rfl) rfl<|aa (aq rfl rfl) rfl<|aa (ag rfl) rfl<|aa (ag rfl) rfl<|ae<|ah<|ah<|ac<|aa (ad rfl) rfl<|aa (cD rfl) rfl<|ae<|aC rfl H (fun k1 H2=>ah<|ac<|aa (ag rfl) rfl<|ae<|ao<|aw (az rfl (aE rfl)) ⟨1,rfl,H2⟩) (fun k1 H2=>av<|ah<|ah<|ac<|aa (ad rfl) rfl<|ak (aB H2 en_137 rfl rfl fun r17 _ H3=>aa (dB rfl Tryz.underlying41 rfl) rfl<|aa (ad rfl) rfl<|ae<|aF<|bO (step:=ul a0 a1 K r17) (fun s4=>[(1,(.int .i64 a1)),(2,(.pointer (some ⟨b2,0,none⟩))),(17,(sv r17)),(18,(.int .i64 (r17.len:Int))),(19,(.int .i64 s4))]) (fun s4=>[bx b2 27 (ap.C a0)]) H3 (.cons rfl (.cons rfl (.cons rfl (.cons rfl (.cons rfl (.nil _)))))) (.cons_cons _ .slnil) (fun Rec5 s4 _ H6=>ah<|ac<|aa (cx rfl rfl) rfl<|ae<|ah<|aC rfl H6 (fun k7 H8=>av<|ah<|aF<|ah<|ac<|aa (ad rfl) rfl<|cw H8 fun q22 e9 h10 H11=>aa (bD iu (aW rfl (bn e9)) rfl h10) rfl<|ak (bg H11 bj rfl (fun _=>rfl) rfl fun x23 H12=>aa (ag rfl) rfl<|aa (ag rfl) rfl<|ae<|ah<|ac<|bw (bP (k:=0) fw rfl rfl rfl rfl) rfl<|aa (ad rfl) rfl<|aa (bI rfl rfl) rfl<|aa (ad rfl) rfl<|aa (ad rfl) rfl<|ak (aB H12 en_138 rfl rfl fun r29 _ H13=>aa (cD rfl) rfl<|ae<|aC rfl H13 (fun k14 H15=>ah<|ac<|aa (ag rfl) rfl<|ae<|ao<|aw (az rfl (aE rfl)) ⟨2,rfl,H15⟩) (fun k14 H15=>av<|ac<|aa (bI rfl rfl) rfl<|aa (ad rfl) rfl<|ae<|cT (IntKind.i64.wrap (s4 + 1)) H15 (.cons rfl (.cons rfl (.cons rfl (.cons rfl (.cons rfl (.nil _)))))) (.cons_cons _ .slnil))))) (fun k7 H8=>bA<|ah<|ac<|aa (ag rfl) rfl<|ae<|ao<|aw (az rfl (aE rfl)) ⟨0,rfl,H8⟩))))))
def sh_word_Args (a0:Int) (K:Int→Hp→Prop):Hp→Prop:=cl Tryz.prog rM [(.int .i64 a0)] cJ fun r4=>K (r4.len:Int)
set_option maxRecDepth 20000 in
theorem sim_word_Args (a0:Int) {K:Int→Hp→Prop} {h:Hp} (H:sh_word_Args a0 K h):Ct Tryz.prog n_word_Args #[(.int .i64 a0)] h fun v h'=>∃ r,v = dO r∧K r h':=aD [(.int .i64 a0)] Tryz.func197 rfl rfl rfl fun _=>ah<|ac<|aa (ag rfl) rfl<|ae<|ah<|ac<|aa (ad rfl) rfl<|ak (aB H en_137 rfl rfl fun r4 _ H1=>aa (dB rfl Tryz.underlying41 rfl) rfl<|aa (ag rfl) rfl<|ae<|ao<|aw (az rfl (aE rfl)) ⟨(r4.len:Int),rfl,H1⟩)
end Go.Proofs.YtniiiakkdoiaiaaGreatDoor
namespace Go.Proofs.YtniiiakkdoiaiaaGreatDoor
open Go Mb
abbrev jE:=ap
namespace Word
def kinds (k:Int):List Int :=
  if k = 1∨k = 4∨k = 5 then [0] else if k = 2 then [0,0,4] else if k = 3 then [0,3,0,4] else if k = 6 then [1,0,4] else if k = 7 then [1] else if k = 8 then [1,4]
  else if k = 9 then [0,2,5,6] else if k = 20 then [1,2] else if k = 21∨k = 23 then [1,2,6] else if k = 22 then [1,2,6,6] else []
def arg (c:jE) (i m:Int):Int × Bool:=if i < 1∨i ≥ 5∨m ≤ 0∨ap.get c i ≥ IntKind.u64.wrap m then (0,false) else (IntKind.i64.wrap (ap.get c i),true)
def fits (c:jE) (i k envs:Int):Bool :=
  if k = 0 then (arg c i 8).2 else if k = 1 then (arg c i 8).2 else if k = 2 then (arg c i 16).2 else if k = 3 then (arg c i envs).2
  else if k = 4 then (la (ap.get c i)).2 else if k = 5 then decide (ap.get c i ≥ 1) && decide (ap.get c i ≤ 4) else true
def checks (c:jE) (envs:Int):List Int→Int→Int
  | [],_=>0
  | k::ks,i=>if fits c i k envs = true then checks c envs ks (i + 1) else 2
def check (c:jE) (envs:Int):Int:=if (aN c).2 = false then 1 else checks c envs (kinds (aN c).1) 1
theorem kinds_len (k:Int):(kinds k).length ≤ 4:=by
  unfold kinds; repeat' split
  all_goals simp
end Word
theorem vec_nil' {xs:List Int} (hx:xs = []) {l:List As} {h:Hp} (s:aP l h):aP (vI (⟨none,0,0,none⟩:Sl) xs::l) h:=by subst hx; exact fI s
theorem ik {l:List As} {h:Hp} {K:Sl→Hp→Prop} (xs:List Int) (s:aP l h) {n:Nat} {ps:Array (Nat × Value)} (hps:ps = (pts (fun x=>.int .i64 x) 0 xs).toArray) (hn:n = xs.length) (hb:n ≤ 2 ^ 24)
    (k:∀ v h',aP (vI v xs::l) h'→K v h'):hpv Tryz.prog (Instr.buildSlice dL n ps) cJ K h :=
  fu (τ:=Int) xs (val:=fun x=>.int .i64 x) (enc:=cI .i64) el_Sint (dk _) (fun _=>rfl) s hps hn (by omega) k
theorem sp_word_kinds (k:Int):Sp Tryz.prog rM [.int .i64 k] cJ [] (fun r=>aP [vI r (Word.kinds k)]):=by
  intro h st
  refine sim_word_kinds _ ?_
  unfold sh_word_kinds
  have one:∀ (xs:List Int) (v:Sl) (h':Hp),Word.kinds k = xs→aP [vI v xs] h'→aP [vI v (Word.kinds k)] h':=by
    intro xs v h' e s; rw [e]; exact s
  have j1:k = 1∨k = 4∨k = 5→iX k (fun r=>aP [vI r (Word.kinds k)]) true h:=by
    intro hk
    unfold iX
    exact dW rfl (ik [0] st rfl rfl (by decide) fun v h' s=>one _ v h' (if_pos hk) s)
  refine bk (fun c=>?_) (fun c=>?_)
  · rw [c]; exact j1 (.inl (by simpa using c))
  have n1:k ≠ 1:=by simpa using c
  refine bk (fun c4=>?_) (fun c4=>?_)
  · rw [c4]; exact j1 (.inr (.inl (by simpa using c4)))
  have n4:k ≠ 4:=by simpa using c4
  by_cases h5:k = 5
  · have:(k == 5) = true:=by simpa using h5
    rw [this]; exact j1 (.inr (.inr h5))
  have:(k == 5) = false:=by simpa using h5
  rw [this]
  have hu:∀ {xs:List Int},xs = Word.kinds k→Word.kinds k = xs:=fun e=>e.symm
  unfold iX
  refine dJ rfl ?_
  refine bk (fun c=>?_) (fun c=>?_)
  · have e:k = 2:=by simpa using c
    subst e; exact ik [0,0,4] st rfl rfl (by decide) fun v h' s=>s
  refine bk (fun c=>?_) (fun c=>?_)
  · have e:k = 3:=by simpa using c
    subst e; exact ik [0,3,0,4] st rfl rfl (by decide) fun v h' s=>s
  refine bk (fun c=>?_) (fun c=>?_)
  · have e:k = 6:=by simpa using c
    subst e; exact ik [1,0,4] st rfl rfl (by decide) fun v h' s=>s
  refine bk (fun c=>?_) (fun c=>?_)
  · have e:k = 7:=by simpa using c
    subst e; exact ik [1] st rfl rfl (by decide) fun v h' s=>s
  refine bk (fun c=>?_) (fun c=>?_)
  · have e:k = 8:=by simpa using c
    subst e; exact ik [1,4] st rfl rfl (by decide) fun v h' s=>s
  refine bk (fun c=>?_) (fun c=>?_)
  · have e:k = 9:=by simpa using c
    subst e; exact ik [0,2,5,6] st rfl rfl (by decide) fun v h' s=>s
  refine bk (fun c=>?_) (fun c=>?_)
  · have e:k = 20:=by simpa using c
    subst e; exact ik [1,2] st rfl rfl (by decide) fun v h' s=>s
  refine bk (fun c=>?_) (fun c=>?_)
  · have e:k = 21:=by simpa using c
    subst e
    unfold mA
    exact dW rfl (ik [1,2,6] st rfl rfl (by decide) fun v h' s=>s)
  unfold mA
  refine bk (fun c=>?_) (fun c=>?_)
  · have e:k = 23:=by simpa using c
    subst e; exact ik [1,2,6] st rfl rfl (by decide) fun v h' s=>s
  refine bk (fun c=>?_) (fun c=>?_)
  · have e:k = 22:=by simpa using c
    subst e; exact ik [1,2,6,6] st rfl rfl (by decide) fun v h' s=>s
  refine vec_nil' ?_ st
  simp_all [Word.kinds]
theorem qp (c:jE) (i m:Int):Sp Tryz.prog mY [.agg c.C.toArray,.int .i64 i,.int .i64 m] bW [] (fun r=>pa_ (r = Word.arg c i m) []):=by
  intro h st
  refine sim_word_Arg _ _ _ ?_
  unfold sh_word_Arg
  unfold tv
  refine bk (fun k=>?_) (fun k=>?_)
  · have k':¬ (i < 1∨i ≥ 5∨m ≤ 0):=by simp at k; omega
    refine ⟨⟨by omega,by omega⟩,bk (fun k2=>?_) (fun k2=>⟨⟨by omega,by omega⟩,?_⟩)⟩
    · exact bi (by unfold Word.arg; rw [if_pos (by right; right; right; simpa using k2)]) st
    · refine bi ?_ st
      unfold Word.arg
      have k2':¬ ap.get c i ≥ IntKind.u64.wrap m:=by simpa using k2
      rw [if_neg (by omega)]
  · have k':i < 1∨i ≥ 5∨m ≤ 0:=by simp at k; omega
    exact dW rfl (bi (by unfold Word.arg; rw [if_pos (by omega)]) st)
theorem sp_word_fits (c:jE) (i k e:Int) (h0:0 ≤ i) (h5:i < 5):Sp Tryz.prog n_word_fits [.agg c.C.toArray,.int .i64 i,.int .i64 k,.int .i64 e] aK [] (fun r=>pa_ (r = Word.fits c i k e) []):=by
  intro h st
  refine sim_word_fits _ _ _ _ ?_
  unfold sh_word_fits
  refine bk (fun k0=>?_) (fun k0=>?_)
  · have e0:k = 0:=by simpa using k0
    subst e0
    exact ti (qp c i 8) st fun r h' hr s=>bi (by rw [hr]; rfl) s
  refine bk (fun k1=>?_) (fun k1=>?_)
  · have e0:k = 1:=by simpa using k1
    subst e0
    exact ti (qp c i 8) st fun r h' hr s=>bi (by rw [hr]; rfl) s
  refine bk (fun k2=>?_) (fun k2=>?_)
  · have e0:k = 2:=by simpa using k2
    subst e0
    exact ti (qp c i 16) st fun r h' hr s=>bi (by rw [hr]; rfl) s
  refine bk (fun k3=>?_) (fun k3=>?_)
  · have e0:k = 3:=by simpa using k3
    subst e0
    exact ti (qp c i e) st fun r h' hr s=>bi (by rw [hr]; rfl) s
  refine bk (fun k4=>⟨⟨h0,h5⟩,?_⟩) (fun k4=>?_)
  · have e0:k = 4:=by simpa using k4
    subst e0
    exact bi rfl st
  refine bk (fun k5=>⟨⟨h0,h5⟩,?_⟩) (fun k5=>?_)
  · have e0:k = 5:=by simpa using k5
    subst e0
    exact bi rfl st
  refine bi ?_ st
  simp at k0 k1 k2 k3 k4 k5
  simp [Word.fits,k0,k1,k2,k3,k4,k5]
theorem checks_drop (c:jE) (e:Int) (ks:List Int) (n:Nat) (h:n < ks.length):Word.checks c e (ks.drop n) ((n:Int) + 1) = if Word.fits c ((n:Int) + 1) ks[n] e = true then Word.checks c e (ks.drop (n + 1)) (((n + 1:Nat):Int) + 1) else 2:=by
  rw [List.drop_eq_getElem_cons h,Word.checks]; rfl
theorem iZ (c:jE) (e:Int):Sp Tryz.prog gM [.agg c.C.toArray,.int .i64 e] bv [] (fun r=>pa_ (r = Word.check c e) []):=by
  intro h st
  refine sim_word_Check _ _ ?_
  unfold sh_word_Check
  refine bk (fun k=>?_) (fun k=>?_)
  · exact bi (by unfold Word.check; rw [if_pos (by simpa using k)]) st
  · have hc:Word.check c e = Word.checks c e (Word.kinds (aN c).1) 1:=by unfold Word.check; rw [if_neg (by simpa using k)]
    rw [hc]
    refine my (sp_word_kinds _) st fun r h1 s1=>?_
    have hl:=(cq (j:=0) s1 rfl).1
    have h4:=Word.kinds_len (aN c).1
    refine Lp.intro (fun (i:Int) h=>∃ n:Nat,i = n∧n ≤ (Word.kinds (aN c).1).length∧Word.checks c e ((Word.kinds (aN c).1).drop n) ((n:Int) + 1) = Word.checks c e (Word.kinds (aN c).1) 1∧aP [vI r (Word.kinds (aN c).1)] h) (fun (i:Int) _=>(Word.kinds (aN c).1).length - i.toNat) ⟨0,rfl,Nat.zero_le _,rfl,s1⟩ ?_
    rintro i h ⟨n,rfl,hn,he,s2⟩
    unfold ul
    refine bk (fun k2=>?_) (fun k2=>?_)
    · have hlt:n < (Word.kinds (aN c).1).length:=by rw [hl] at k2; simpa using k2
      have hw:IntKind.i64.wrap ((n:Int) + 1) = ((n + 1:Nat):Int):=by rw [cf (by omega) (by omega)]; rfl
      rw [checks_drop c e _ n hlt] at he
      refine dE s2 (j:=0) rfl (by omega) (by omega) fun q hq=>?_
      refine eC (j:=0) (i:=n) (k:=0) (Word.kinds (aN c).1)[n] (dk _) s2 rfl hq (by simp) (aO hlt) (by simp) ?_
      rw [hw]
      refine ti (sp_word_fits c ((n + 1:Nat):Int) _ e (by omega) (by omega)) s2 fun r2 h3 hr s3=>?_
      subst hr
      refine bk (fun k3=>?_) (fun k3=>?_)
      · have k3':¬ Word.fits c ((n:Int) + 1) (Word.kinds (aN c).1)[n] e = true:=by simpa using k3
        rw [if_neg k3'] at he
        exact bi he trivial
      · have k3':Word.fits c ((n:Int) + 1) (Word.kinds (aN c).1)[n] e = true:=by simpa using k3
        rw [if_pos k3'] at he
        exact ⟨⟨n + 1,rfl,hlt,he,s3⟩,by simp; omega⟩
    · have:n = (Word.kinds (aN c).1).length:=by rw [hl] at k2; simp at k2; omega
      subst this
      rw [List.drop_length] at he
      exact bi he trivial
theorem sp_word_Args (k:Int):Sp Tryz.prog n_word_Args [.int .i64 k] dO [] (fun r=>pa_ (r = (Word.kinds k).length) []):=by
  intro h st
  refine sim_word_Args _ ?_
  unfold sh_word_Args
  refine my (sp_word_kinds k) st fun r h1 s1=>?_
  have hl:=(cq (j:=0) s1 rfl).1
  exact bi (by rw [hl]) trivial
end Go.Proofs.YtniiiakkdoiaiaaGreatDoor
