/- Part of the proof of: The law KernBuffers returns true for every input, and leaves its arguments as they were. -/
import Derived.Test.YtjcamacgclipiaaGreatDoorKernBuffers05
set_option linter.all false
set_option maxRecDepth 20000
set_option maxHeartbeats 4000000
namespace Go.Proofs.YtjcamacgclipiaaGreatDoor
open Go.Proofs.Tryz
open Go.IntKind (i64 u64)
open _root_.List (append_nil countP_cons getD_eq_getElem?_getD getElem?_cons_succ getElem_mem mem_cons mem_or_eq_of_mem_set mem_replicate replicate set_cons_succ)
open _root_.Nat (add_comm)
open _root_.Option (getD_some)
section
open Go Mb
namespace Mb
def SpV {τ:Type} (P:Program) (c:Value) (args:List Value) (enc:τ->Value) (pre:List As) (post:τ->As):Prop :=
 ∃ f fi ca,c = .func (.func f) fi ca/\iw P f/\∀ h,ah pre h->Ct P f ((fi++args.toArray)++ca) h fun v h'=>∃ r,v = enc r/\post r h'
theorem vW {m:List As} {B:As} {h:Hp} (s:ah (m++[B]) h):ah (B::m) h:=jY (List.perm_append_singleton _ _) s
theorem star_rot' {m:List As} {B:As} {h:Hp} (s:ah (B::m) h):ah (m++[B]) h:=jY (List.perm_append_singleton _ _).symm s
theorem clv_t {τ:Type} {P:Program} {c:Value} {args:List Value} {enc:τ->Value} {pre:List As} {B:As} {post:τ->As} {K:τ->Hp->Prop} {h:Hp} (H:SpV P c args enc pre post) (s:ah (B::pre) h)
  (k:∀ r h',ah [post r,B] h'->K r h'):clv P c args enc K h:=by
 obtain ⟨f,fi,ca,rfl,he,H⟩:=H;obtain ⟨h1,h2,d,rfl,s1,s2⟩:=dP.1 (star_rot' s);exact ⟨f,fi,ca,rfl,he,(H h1 s1).frame_mono d rfl fun v h' ⟨r,hv,q⟩ dj=>⟨r,hv,k r _ ⟨h',h2,dj,rfl,q,s2⟩⟩⟩
end Mb
abbrev Cap:=aH
abbrev ba:=au
abbrev jd:Cap:=⟨0,0,0,0⟩
theorem qz (c:Cap):c.C.length = 4:=rfl
theorem wF (c:ba):c.C.length = 2:=rfl
theorem place_one (c:ba):ce c.C = true:=rfl
instance:DecidableEq ba:=fun a b=>decidable_of_iff (a.fBa = b.fBa/\a.fDa = b.fDa) ⟨fun h=>by cases a; cases b; simp_all,fun h=>by subst h; exact ⟨rfl,rfl⟩⟩
def enc8 (r:List Cap):List Value:=((r++replicate 8 jd).take 8).flatMap aH.C
theorem enc8_len (r:List Cap):(enc8 r).length = 32:=by unfold enc8; rw [bR qz]; simp
theorem enc8_eq {r:List Cap} (h:r.length = 8):enc8 r = r.flatMap aH.C:=by
 unfold enc8; rw [List.take_append_of_le_length (by omega),← h,List.take_length]
namespace fAa
abbrev T:=List (List Cap)
def has (t:T) (e s:Int):Bool:=decide (0 <= e/\e < t.length/\0 <= s/\s < 8)
def get (t:T) (e s:Int):Cap:=(t.getD e.toNat []).getD s.toNat jd
def put (t:T) (e s:Int) (c:Cap):T:=t.set e.toNat ((t.getD e.toNat []).set s.toNat c)
def at_ (t:T) (e s:Int):Cap × Bool:=if has t e s = true/\(get t e s).fCa ≠ 0 then (get t e s,true) else (jd,false)
def root (t:T) (e s f:Int):Int × T :=
 if has t e s = false\/f < 0\/f >= 16 then (2,t) else if (get t e s).fCa ≠ 0 then (4,t) else (0,put t e s ⟨f,3,-1,0⟩)
def derive (t:T) (e src to dst r:Int):Int × T :=
 if has t e src = false\/has t to dst = false\/aS r = false then (2,t)
 else if (get t e src).fCa = 0 then (3,t) else if (get t to dst).fCa ≠ 0 then (4,t)
 else if ap r (get t e src).fCa = false then (5,t) else (0,put t to dst ⟨(get t e src).fEa,r,e,src⟩)
def up:Nat->T->Cap->ba->Bool
 | 0,_,_,_=>false
 | n + 1,t,c,p=>if c.fCa ≠ 0/\0 <= c.fBa then (if c.fBa = p.fBa/\c.fDa = p.fDa then true else up n t (get t c.fBa c.fDa) p) else false
def deep:Nat->T->Cap->Nat
 | 0,_,_=>0
 | n + 1,t,c=>if c.fCa ≠ 0/\0 <= c.fBa then deep n t (get t c.fBa c.fDa) + 1 else 0
def under (t:T) (c:Cap) (p:ba):Bool:=up 40 t c p
def rowOf (P:Int->Int->Cap->Bool) (e:Int):List Cap->Int->List ba
 | [],_=>[]
 | c::cs,s=>if c.fCa ≠ 0/\P e s c = true then ⟨e,s⟩::rowOf P e cs (s + 1) else rowOf P e cs (s + 1)
def allOf (P:Int->Int->Cap->Bool):T->Int->List ba
 | [],_=>[]
 | r::rs,e=>rowOf P e r 0++allOf P rs (e + 1)
def below (t:T) (e s:Int):List ba:=allOf (fun _ _ c=>under t c ⟨e,s⟩) t 0
def own (t:T) (e s:Int):List ba:=allOf (fun a b c=>au.eqb ⟨a,b⟩ ⟨e,s⟩ || under t c ⟨e,s⟩) t 0
def fSa (t:T):List ba->T
 | []=>t
 | p::l=>fSa (put t p.fBa p.fDa jd) l
def look (t:T) (e s:Int):Int:=if has t e s = false then 2 else if (get t e s).fCa = 0 then 3 else 0
def revoke (t:T) (e s:Int):(List ba × Int) × T:=if look t e s ≠ 0 then (([],look t e s),t) else ((below t e s,0),fSa t (below t e s))
def drop (t:T) (e s:Int):(List ba × Int) × T:=if look t e s ≠ 0 then (([],look t e s),t) else ((own t e s,0),fSa t (own t e s))
structure Ok (t:T):Prop where
 len:t.length <= 4
 row:∀ r ∈ t,r.length = 8
 rk:∃ rank:Int->Int->Nat,∀ e s,has t e s = true->(get t e s).fCa ≠ 0->0 <= (get t e s).fBa ->
  has t (get t e s).fBa (get t e s).fDa = true/\(get t (get t e s).fBa (get t e s).fDa).fCa ≠ 0/\rank (get t e s).fBa (get t e s).fDa < rank e s
theorem has_nat {t:T} {e s:Int} (h:has t e s = true):∃ m n:Nat,e = m/\s = n/\m < t.length/\n < 8:=by
 unfold has at h;have:=of_decide_eq_true h;exact ⟨e.toNat,s.toNat,by omega,by omega,by omega,by omega⟩
theorem has_of {t:T} {m n:Nat} (h1:m < t.length) (h2:n < 8):has t m n = true:=by
 unfold has; exact decide_eq_true ⟨by omega,by omega,by omega,by omega⟩
theorem get_nat' {t:T} (ok:∀ r ∈ t,r.length = 8) {m n:Nat} (h1:m < t.length) (h2:n < 8):∃ h3:n < t[m].length,get t m n = t[m][n]:=by
 have:=ok _ (getElem_mem h1);refine ⟨by omega,?_⟩;have h3:n < t[m].length:=by omega
 simp [get,h1,h3]
theorem put_nat {t:T} {m n:Nat} (h1:m < t.length) (c:Cap):put t m n c = t.set m (t[m].set n c):=by simp [put,h1]
theorem put_len (t:T) (e s:Int) (c:Cap):(put t e s c).length = t.length:=by simp [put]
theorem put_has (t:T) (e s:Int) (c:Cap) (a b:Int):has (put t e s c) a b = has t a b:=by unfold has; rw [put_len]
theorem put_row {t:T} (ok:∀ r ∈ t,r.length = 8) (e s:Int) (c:Cap):∀ r ∈ put t e s c,r.length = 8:=by
 intro r hr;unfold put at hr;rcases mem_or_eq_of_mem_set hr with h | h
 ·exact ok r h
 ·subst h;by_cases hm:e.toNat < t.length
  ·simp [hm]; exact ok _ (getElem_mem hm)
  ·rw [List.set_eq_of_length_le (by omega)] at hr; exact ok _ hr
theorem get_put {t:T} (ok:∀ r ∈ t,r.length = 8) {e s a b:Int} (h:has t e s = true) (h2:has t a b = true) (c:Cap):get (put t e s c) a b = if a = e/\b = s then c else get t a b:=by
 obtain ⟨m,n,rfl,rfl,hm,hn⟩:=has_nat h;obtain ⟨i,j,rfl,rfl,hi,hj⟩:=has_nat h2;have hl:=ok _ (getElem_mem hm);rw [put_nat hm];simp only [get,Int.toNat_natCast,getD_eq_getElem?_getD,List.getElem?_set];by_cases e1:m = i
 ·subst e1;by_cases e2:n = j
  ·subst e2; simp [hm,hl,hn]
  ·have:¬ ((m:Int) = m/\(j:Int) = n):=by omega
   rw [if_neg this]; simp [hm,e2]
 ·have:¬ ((i:Int) = m/\(j:Int) = n):=by omega
  rw [if_neg this]; simp [e1]
theorem pigeon:∀ (n:Nat) (l:List Nat),l.Nodup->(∀ x ∈ l,x < n)->l.length <= n
 | 0,l,_,h=>by
  cases l with
  | nil=>simp
  | cons a l=>exact absurd (h a (by simp)) (by omega)
 | n + 1,l,d,h=>by
  have h1:=pigeon n (l.erase n) (d.erase n) (fun x hx=>by
   have h2:=d.mem_erase_iff.1 hx;have:=h x h2.2;have:=h2.1;omega)
  rw [List.length_erase] at h1;split at h1 <;> omega
theorem path {t:T} (ok:Ok t) {rank:Int->Int->Nat} (hr:∀ e s,has t e s = true->(get t e s).fCa ≠ 0->0 <= (get t e s).fBa ->
  has t (get t e s).fBa (get t e s).fDa = true/\(get t (get t e s).fBa (get t e s).fDa).fCa ≠ 0/\rank (get t e s).fBa (get t e s).fDa < rank e s) :
  ∀ (n:Nat) (e s:Int),has t e s = true->∃ l:List Nat,l.length = deep n t (get t e s)/\l.Pairwise (fun a b=>rank (b / 8:Nat) (b % 8:Nat) < rank (a / 8:Nat) (a % 8:Nat))/\∀ a ∈ l,a < 32/\rank (a / 8:Nat) (a % 8:Nat) < rank e s
 | 0,_,_,_=>⟨[],rfl,.nil,fun a h=>by cases h⟩
 | n + 1,e,s,h=>by
  by_cases hc:(get t e s).fCa ≠ 0/\0 <= (get t e s).fBa
  ·obtain ⟨h1,h2,h3⟩:=hr e s h hc.1 hc.2;obtain ⟨l,hl,hp,hb⟩:=path ok hr n _ _ h1;obtain ⟨i,j,ei,ej,hi,hj⟩:=has_nat h1;have hlen:=ok.len;have e1:(i * 8 + j) / 8 = i:=by omega
   have e2:(i * 8 + j) % 8 = j:=by omega
   refine ⟨(i * 8 + j)::l,?_,?_,?_⟩
   ·simp only [List.length_cons,deep]; rw [if_pos hc,hl]
   ·refine List.pairwise_cons.2 ⟨fun b hb'=>?_,hp⟩;have:=(hb b hb').2;rw [e1,e2,← ei,← ej]; exact this
   ·intro a ha;rcases mem_cons.1 ha with rfl | ha
    ·rw [e1,e2,← ei,← ej]; exact ⟨by omega,h3⟩
    ·exact ⟨(hb a ha).1,Nat.lt_trans (hb a ha).2 h3⟩
  ·exact ⟨[],by simp only [deep]; rw [if_neg hc]; rfl,.nil,fun a h=>by cases h⟩
theorem deep_le {t:T} (ok:Ok t) {e s:Int} (h:has t e s = true) (n:Nat):deep n t (get t e s) <= 32:=by
 obtain ⟨rank,hr⟩:=ok.rk;obtain ⟨l,hl,hp,hb⟩:=path ok hr n e s h;rw [← hl];refine pigeon 32 l (hp.imp ?_) (fun x hx=>(hb x hx).1);rintro a b hab rfl;exact absurd hab (Nat.lt_irrefl _)
theorem deep_s (n:Nat) (t:T) (c:Cap):deep (n + 1) t c = if c.fCa ≠ 0/\0 <= c.fBa then deep n t (get t c.fBa c.fDa) + 1 else 0:=rfl
theorem up_s (n:Nat) (t:T) (c:Cap) (p:ba):up (n + 1) t c p = if c.fCa ≠ 0/\0 <= c.fBa then (if c.fBa = p.fBa/\c.fDa = p.fDa then true else up n t (get t c.fBa c.fDa) p) else false:=rfl
theorem deep_succ {t:T}:∀ {n:Nat} {c:Cap},deep n t c < n->deep (n + 1) t c = deep n t c
 | 0,_,h=>by omega
 | n + 1,c,h=>by
  rw [deep_s (n + 1) t c,deep_s n t c];rw [deep_s n] at h;by_cases hc:c.fCa ≠ 0/\0 <= c.fBa
  ·rw [if_pos hc] at h;rw [if_pos hc,if_pos hc,deep_succ (n:=n) (by omega)]
  ·rw [if_neg hc,if_neg hc]
theorem qo {t:T} {p:ba}:∀ {n:Nat} {c:Cap},deep n t c < n->up (n + 1) t c p = up n t c p
 | 0,_,h=>by omega
 | n + 1,c,h=>by
  rw [up_s (n + 1) t c p,up_s n t c p];rw [deep_s n] at h;by_cases hc:c.fCa ≠ 0/\0 <= c.fBa
  ·rw [if_pos hc] at h;rw [if_pos hc,if_pos hc,qo (n:=n) (by omega)]
  ·rw [if_neg hc,if_neg hc]
theorem under_step {t:T} (ok:Ok t) {e s:Int} (h:has t e s = true) (p:ba):under t (get t e s) p = if (get t e s).fCa ≠ 0/\0 <= (get t e s).fBa then (if (get t e s).fBa = p.fBa/\(get t e s).fDa = p.fDa then true else under t (get t (get t e s).fBa (get t e s).fDa) p) else false:=by
 have h1:=deep_le ok h 40;unfold under;by_cases hc:(get t e s).fCa ≠ 0/\0 <= (get t e s).fBa
 ·rw [deep_s 39,if_pos hc] at h1;rw [up_s 39,qo (n:=39) (by omega)]
 ·rw [up_s 39,if_neg hc,if_neg hc]
theorem deep_step {t:T} (ok:Ok t) {e s:Int} (h:has t e s = true) (hc:(get t e s).fCa ≠ 0/\0 <= (get t e s).fBa):deep 40 t (get t (get t e s).fBa (get t e s).fDa) < deep 40 t (get t e s):=by
 have h1:=deep_le ok h 40;rw [deep_s 39,if_pos hc] at h1;rw [deep_succ (n:=39) (by omega),deep_s 39,if_pos hc];omega
theorem ok_new (n:Nat) (h:n <= 4):Ok (replicate n (replicate 8 jd)):=by
 refine ⟨by simpa using h,fun r hr=>?_,fun _ _=>0,fun e s hh hne=>?_⟩
 ·rw [(mem_replicate.1 hr).2]; rfl
 ·exfalso
  apply hne;obtain ⟨i,j,rfl,rfl,hi,hj⟩:=has_nat hh;simp only [List.length_replicate] at hi;simp only [get,Int.toNat_natCast,getD_eq_getElem?_getD,List.getElem?_replicate,if_pos hi,getD_some,if_pos hj]
theorem ok_put {t:T} (ok:Ok t) {e s:Int} (h:has t e s = true) (h0:(get t e s).fCa = 0) (c:Cap) (hc:0 <= c.fBa->has t c.fBa c.fDa = true/\(get t c.fBa c.fDa).fCa ≠ 0):Ok (put t e s c):=by
 obtain ⟨rank,hr⟩:=ok.rk;refine ⟨by rw [put_len]; exact ok.len,put_row ok.row e s c,fun a b=>if a = e/\b = s then rank c.fBa c.fDa + 1 else rank a b,fun a b hab hne hen=>?_⟩;rw [put_has] at hab;have keep:∀ {i j:Int},has t i j = true->(get t i j).fCa ≠ 0->¬ (i = e/\j = s):=by
  rintro i j _ hn ⟨rfl,rfl⟩; exact hn h0
 have hg:=get_put ok.row h hab c;rw [hg] at hne hen ⊢;by_cases hes:a = e/\b = s
 ·rw [if_pos hes] at hne hen ⊢;obtain ⟨h1,h2⟩:=hc hen;have hk:=keep h1 h2;refine ⟨by rw [put_has]; exact h1,by rw [get_put ok.row h h1,if_neg hk]; exact h2,?_⟩;show (if c.fBa = e/\c.fDa = s then _ else _) < (if a = e/\b = s then _ else _)
  rw [if_neg hk,if_pos hes]; omega
 ·rw [if_neg hes] at hne hen ⊢;obtain ⟨h1,h2,h3⟩:=hr a b hab hne hen;have hk:=keep h1 h2;refine ⟨by rw [put_has]; exact h1,by rw [get_put ok.row h h1,if_neg hk]; exact h2,?_⟩;show (if (get t a b).fBa = e/\(get t a b).fDa = s then _ else _) < (if a = e/\b = s then _ else _)
  rw [if_neg hk,if_neg hes]; exact h3
theorem empties_len:∀ (l:List ba) (t:T),(fSa t l).length = t.length
 | [],_=>rfl
 | p::l,t=>by rw [fSa,empties_len l,put_len]
theorem empties_has (t:T) (l:List ba) (a b:Int):has (fSa t l) a b = has t a b:=by unfold has; rw [empties_len]
theorem empties_row:∀ (l:List ba) (t:T),(∀ r ∈ t,r.length = 8)->∀ r ∈ fSa t l,r.length = 8
 | [],_,h=>h
 | p::l,t,h=>empties_row l _ (put_row h _ _ _)
theorem empties_get:∀ (l:List ba) (t:T),(∀ r ∈ t,r.length = 8)->(∀ p ∈ l,has t p.fBa p.fDa = true)->∀ a b,has t a b = true->get (fSa t l) a b = if (⟨a,b⟩:ba) ∈ l then jd else get t a b
 | [],_,_,_,_,_,_=>by simp [fSa]
 | p::l,t,h,hl,a,b,hab=>by
  rw [fSa,empties_get l _ (put_row h _ _ _) (fun q hq=>by rw [put_has]; exact hl q (by simp [hq])) a b (by rw [put_has]; exact hab),get_put h (hl p (by simp)) hab];by_cases h1:(⟨a,b⟩:ba) ∈ l
  ·rw [if_pos h1,if_pos (by simp [h1])]
  ·rw [if_neg h1];by_cases h2:a = p.fBa/\b = p.fDa
   ·obtain ⟨rfl,rfl⟩:=h2;rw [if_pos ⟨rfl,rfl⟩,if_pos (by simp)]
   ·rw [if_neg h2,if_neg];intro hm;rcases mem_cons.1 hm with hm | hm
    ·subst hm; exact h2 ⟨rfl,rfl⟩
    ·exact h1 hm
theorem rowOf_c (P:Int->Int->Cap->Bool) (e:Int) (c:Cap) (cs:List Cap) (s:Int):rowOf P e (c::cs) s = if c.fCa ≠ 0/\P e s c = true then ⟨e,s⟩::rowOf P e cs (s + 1) else rowOf P e cs (s + 1):=rfl
theorem mem_rowOf {P:Int->Int->Cap->Bool} {e:Int} {p:ba}:∀ {cs:List Cap} {s:Int},p ∈ rowOf P e cs s↔p.fBa = e/\∃ (n:Nat) (c:Cap),cs[n]? = some c/\p.fDa = s + n/\c.fCa ≠ 0/\P e (s + n) c = true
 | [],s=>by simp [rowOf]
 | c::cs,s=>by
  have ih:=mem_rowOf (P:=P) (e:=e) (p:=p) (cs:=cs) (s:=s + 1);have tail:(p.fBa = e/\∃ (n:Nat) (c':Cap),cs[n]? = some c'/\p.fDa = s + 1 + n/\c'.fCa ≠ 0/\P e (s + 1 + n) c' = true)↔(p.fBa = e/\∃ (n:Nat) (c':Cap),(c::cs)[n + 1]? = some c'/\p.fDa = s + ((n + 1:Nat):Int)/\c'.fCa ≠ 0/\P e (s + ((n + 1:Nat):Int)) c' = true):=by
   have:∀ n:Nat,s + ((n + 1:Nat):Int) = s + 1 + n:=fun n=>by omega
   simp only [this,getElem?_cons_succ]
  have split0:(p.fBa = e/\∃ (n:Nat) (c':Cap),(c::cs)[n]? = some c'/\p.fDa = s + n/\c'.fCa ≠ 0/\P e (s + n) c' = true)↔(p = ⟨e,s⟩/\c.fCa ≠ 0/\P e s c = true)\/(p.fBa = e/\∃ (n:Nat) (c':Cap),(c::cs)[n + 1]? = some c'/\p.fDa = s + ((n + 1:Nat):Int)/\c'.fCa ≠ 0/\P e (s + ((n + 1:Nat):Int)) c' = true):=by
   constructor
   ·rintro ⟨he,n,c',h1,h2,h3,h4⟩;cases n with
    | zero =>
     simp at h1; subst h1;simp at h2 h4;exact .inl ⟨by cases p; simp_all,h3,h4⟩
    | succ n=>exact .inr ⟨he,n,c',h1,h2,h3,h4⟩
   ·rintro (⟨rfl,h3,h4⟩ | ⟨he,n,c',h1,h2,h3,h4⟩)
    ·exact ⟨rfl,0,c,rfl,by simp,h3,by simpa using h4⟩
    ·exact ⟨he,n + 1,c',h1,h2,h3,h4⟩
  rw [split0,← tail,← ih,rowOf_c];split
  ·rename_i hc;rw [mem_cons];constructor
   ·rintro (h | h)
    ·exact .inl ⟨h,hc⟩
    ·exact .inr h
   ·rintro (h | h)
    ·exact .inl h.1
    ·exact .inr h
  ·rename_i hc;constructor
   ·exact .inr
   ·rintro (h | h)
    ·exact absurd h.2 hc
    ·exact h
theorem mem_allOf {P:Int->Int->Cap->Bool} {p:ba}:∀ {t:T} {e:Int},p ∈ allOf P t e↔∃ (m n:Nat) (r:List Cap) (c:Cap),t[m]? = some r/\r[n]? = some c/\p = ⟨e + m,n⟩/\c.fCa ≠ 0/\P (e + m) n c = true
 | [],e=>by simp [allOf]
 | r::t,e=>by
  rw [allOf,List.mem_append,mem_rowOf,mem_allOf];constructor
  ·rintro (⟨h1,n,c,h2,h3,h4,h5⟩ | ⟨m,n,r',c,h1,h2,rfl,h4,h5⟩)
   ·refine ⟨0,n,r,c,rfl,h2,?_,h4,?_⟩
    ·cases p; simp_all
    ·simpa using h5
   ·refine ⟨m + 1,n,r',c,by simpa using h1,h2,?_,h4,?_⟩
    ·congr 1; omega
    ·rw [show e + ((m + 1:Nat):Int) = e + 1 + m from by omega]; exact h5
  ·rintro ⟨m,n,r',c,h1,h2,rfl,h4,h5⟩;cases m with
   | zero =>
    simp at h1; subst h1;exact .inl ⟨by simp,n,c,h2,by simp,h4,by simpa using h5⟩
   | succ m =>
    refine .inr ⟨m,n,r',c,by simpa using h1,h2,?_,h4,?_⟩
    ·congr 1; omega
    ·rw [show e + 1 + (m:Int) = e + ((m + 1:Nat):Int) from by omega]; exact h5
theorem mem_all {t:T} (row:∀ r ∈ t,r.length = 8) {P:Int->Int->Cap->Bool} {p:ba}:p ∈ allOf P t 0↔has t p.fBa p.fDa = true/\(get t p.fBa p.fDa).fCa ≠ 0/\P p.fBa p.fDa (get t p.fBa p.fDa) = true:=by
 rw [mem_allOf];constructor
 ·rintro ⟨m,n,r,c,h1,h2,rfl,h4,h5⟩;obtain ⟨hm,e1⟩:=List.getElem?_eq_some_iff.1 h1;obtain ⟨hn,e2⟩:=List.getElem?_eq_some_iff.1 h2;have h8:=row r (List.mem_of_getElem? h1);simp only [Int.zero_add] at h5 ⊢;have hg:get t m n = c:=by simp [get,h1,h2]
  rw [hg];exact ⟨has_of hm (by omega),h4,h5⟩
 ·rintro ⟨h1,h2,h3⟩;obtain ⟨m,n,em,en,hm,hn⟩:=has_nat h1;rw [em,en] at h2 h3;obtain ⟨hn',hg⟩:=get_nat' row hm hn;rw [hg] at h2 h3;refine ⟨m,n,t[m],t[m][n],by simp [hm],by simp [hn'],?_,h2,by simpa using h3⟩;cases p; simp_all
theorem mem_below {t:T} (ok:Ok t) {e s:Int} {p:ba}:p ∈ below t e s↔has t p.fBa p.fDa = true/\(get t p.fBa p.fDa).fCa ≠ 0/\under t (get t p.fBa p.fDa) ⟨e,s⟩ = true:=mem_all ok.row
theorem eqb_place (p q:ba):au.eqb p q = true↔p = q:=by
 cases p; cases q; simp [au.eqb]
theorem mem_own {t:T} (ok:Ok t) {e s:Int} {p:ba}:p ∈ own t e s↔has t p.fBa p.fDa = true/\(get t p.fBa p.fDa).fCa ≠ 0/\(p = ⟨e,s⟩\/under t (get t p.fBa p.fDa) ⟨e,s⟩ = true):=by
 unfold own;rw [mem_all ok.row,Bool.or_eq_true,eqb_place]
theorem under_rights {t:T} {c:Cap} {p:ba} (h:under t c p = true):c.fCa ≠ 0:=by
 unfold under at h; rw [up_s 39] at h;split at h
 ·rename_i hc; exact hc.1
 ·cases h
theorem ok_empties {t:T} (ok:Ok t) {l:List ba} (hl:∀ p ∈ l,has t p.fBa p.fDa = true)
  (cl:∀ e s,has t e s = true->(get t e s).fCa ≠ 0->0 <= (get t e s).fBa->(⟨(get t e s).fBa,(get t e s).fDa⟩:ba) ∈ l->(⟨e,s⟩:ba) ∈ l):Ok (fSa t l):=by
 obtain ⟨rank,hr⟩:=ok.rk;refine ⟨by rw [empties_len]; exact ok.len,empties_row l t ok.row,rank,fun a b hab hne hen=>?_⟩;rw [empties_has] at hab;have hg:=empties_get l t ok.row hl a b hab;by_cases hm:(⟨a,b⟩:ba) ∈ l
 ·rw [if_pos hm] at hg; rw [hg] at hne; exact absurd rfl hne
 ·rw [if_neg hm] at hg;rw [hg] at hne hen ⊢;obtain ⟨h1,h2,h3⟩:=hr a b hab hne hen;have hp:(⟨(get t a b).fBa,(get t a b).fDa⟩:ba) ∉ l:=fun h=>hm (cl a b hab hne hen h);refine ⟨by rw [empties_has]; exact h1,?_,h3⟩;rw [empties_get l t ok.row hl _ _ h1,if_neg hp]; exact h2
theorem ok_below {t:T} (ok:Ok t) (e s:Int):Ok (fSa t (below t e s)):=by
 refine ok_empties ok (fun p hp=>((mem_below ok).1 hp).1) fun a b hab hne hen hp=>?_;have h1:=(mem_below ok).1 hp;refine (mem_below ok).2 ⟨hab,hne,?_⟩;rw [under_step ok hab,if_pos ⟨hne,hen⟩];split
 ·rfl
 ·exact h1.2.2
theorem ok_own {t:T} (ok:Ok t) (e s:Int):Ok (fSa t (own t e s)):=by
 refine ok_empties ok (fun p hp=>((mem_own ok).1 hp).1) fun a b hab hne hen hp=>?_;have h1:=(mem_own ok).1 hp;refine (mem_own ok).2 ⟨hab,hne,.inr ?_⟩;rw [under_step ok hab,if_pos ⟨hne,hen⟩];split
 ·rfl
 ·rename_i hno;rcases h1.2.2 with h | h
  ·exact absurd ⟨congrArg au.fBa h,congrArg au.fDa h⟩ hno
  ·exact h
theorem ok_root {t:T} (ok:Ok t) (e s f:Int):Ok (root t e s f).2:=by
 unfold root;split
 ·exact ok
 ·split
  ·exact ok
  ·rename_i h1 h2;refine ok_put ok (by simp at h1; exact h1.1) (by simpa using h2) _ (fun h=>?_);exact absurd h (by show ¬ (0:Int) <= -1; omega)
theorem ok_derive {t:T} (ok:Ok t) (e src to dst r:Int):Ok (derive t e src to dst r).2:=by
 unfold derive;split
 ·exact ok
 ·split
  ·exact ok
  ·split
   ·exact ok
   ·split
    ·exact ok
    ·rename_i h1 h2 h3 h4;simp at h1;exact ok_put ok h1.2.1 (by simpa using h3) _ (fun _=>⟨h1.1,h2⟩)
theorem ok_revoke {t:T} (ok:Ok t) (e s:Int):Ok (revoke t e s).2:=by
 unfold revoke; split
 ·exact ok
 ·exact ok_below ok e s
theorem ok_drop {t:T} (ok:Ok t) (e s:Int):Ok (drop t e s).2:=by
 unfold drop; split
 ·exact ok
 ·exact ok_own ok e s
end fAa
end
section
open Go Mb
attribute [local irreducible] bM gR il Val Tx Tu Tn RV Res br nn ix gd ld st nw cl clv dL Lp ct
def mem_New_l1 (a0:Int) (K:kT Ptr) (b11:Nat) (Rec7:kT Int) (s6:Int):hT:=br (decide (s6 < a0)) ( ld (b11,0) cS fun x19=>hpv prog (Instr.makeSlice aG (.int .i64 16) (.int .i64 16)) bi fun (v20:Sl)=>hpv prog (Instr.buildSlice pR 1 #[(0,(sv v20))]) R_SSuint64 fun (v21:Sl)=>hpv prog (Builtin.append_ #[pR,pR] pR #[(sv x19),(sv v21)]) R_SSuint64 fun (v22:Sl)=>st (b11,0) [sv v22]<|Rec7 (i64.wrap (s6 + 1))) ( K (some (b11,0)))
def sh_mem_New (a0:Int) (K:kT Ptr):hT:=br ((decide (a0 < 1)) || (decide (a0 > 16))) ( K none) ( nw lC (sX.C (⟨(⟨none,0,0,none⟩:Sl)⟩:sX)) fun b11=>Lp (mem_New_l1 a0 K b11) 0)
theorem sim_mem_New (a0:Int) {K:kT Ptr} {h:Hp} (H:sh_mem_New a0 K h):cl prog wK [(.int .i64 a0)] tY K h:=have z0:LH (σ:=Int) 5 0 (fun s6 r=>(13,(.int .i64 s6))::r) [13] [3,12] (fun _ l=>l):=⟨⟩; have z1:OH 6 [0,4,8,12,17,22,26,30,32,36,42] .e []:=⟨⟩; J [] func103 H
def us (a0:Ptr) (K:kT Int):hT:=br a0.isNone ( K 0) ( nn a0 fun q6=>ld (q6.1,q6.2 + 0) cS fun x8=>K (x8.len:Int))
theorem sim_mem_Mem_Frames (a0:Ptr) {K:kT Int} {h:Hp} (H:us a0 K h):cl prog wL [(pv a0)] cH K h:=J [] func195 H
def sh_mem_Mem_at (a0:Ptr) (a1:Int) (a2:Int) (K:kT Ptr):hT:=br (!(decide (a1 < 0))) ( cl prog wL [(pv a0)] cH fun r12=>br (((decide (a1 >= r12)) || (decide (a2 < 0))) || (decide (a2 >= 16))) ( K none) ( nn a0 fun q24=>ld (q24.1,q24.2 + 0) cS fun x26=>ix x26 a1 fun q28=>ld (q28.1,q28.2 + Int.toNat a1 * 1) cS fun x29=>ix x29 a2 fun q31=>K (some (q31.1,q31.2 + Int.toNat a2 * 1)))) ( K none)
theorem sim_mem_Mem_at (a0:Ptr) (a1:Int) (a2:Int) {K:kT Ptr} {h:Hp} (H:sh_mem_Mem_at a0 a1 a2 K h):cl prog lK [(pv a0),(.int .i64 a1),(.int .i64 a2)] sY K h:=J [] func157 H
def sh_mem_Mem_Load (a0:Ptr) (a1:Int) (a2:Int) (K:kT (Int × Bool)):hT:=cl prog lK [(pv a0),(.int .i64 a1),(.int .i64 a2)] sY fun r12=>br r12.isNone ( K (0,false)) ( nn r12 fun q16=>ld (q16.1,q16.2) (cI .u64) fun x17=>K (x17,true))
theorem sim_mem_Mem_Load (a0:Ptr) (a1:Int) (a2:Int) {K:kT (Int × Bool)} {h:Hp} (H:sh_mem_Mem_Load a0 a1 a2 K h):cl prog gx [(pv a0),(.int .i64 a1),(.int .i64 a2)] aU K h:=J [] func166 H
def wu (a0:Ptr) (a1:Int) (a2:Int) (a3:Int) (K:kT Bool):hT:=cl prog lK [(pv a0),(.int .i64 a1),(.int .i64 a2)] sY fun r13=>br r13.isNone ( K false) ( nn r13 fun q18=>st (q18.1,q18.2) [.int .u64 a3]<|K true)
theorem sim_mem_Mem_Store (a0:Ptr) (a1:Int) (a2:Int) (a3:Int) {K:kT Bool} {h:Hp} (H:wu a0 a1 a2 a3 K h):cl prog eH [(pv a0),(.int .i64 a1),(.int .i64 a2),(.int .u64 a3)] ai K h:=J [] func167 H
def sh_mem_Mem_Cas (a0:Ptr) (a1:Int) (a2:Int) (a3:Int) (a4:Int) (K:kT (Int × Bool)):hT:=cl prog gx [(pv a0),(.int .i64 a1),(.int .i64 a2)] aU fun r18=>br (r18.2 && (r18.1 == a3)) ( cl prog eH [(pv a0),(.int .i64 a1),(.int .i64 a2),(.int .u64 a4)] ai fun r31=>K (r18.1,r18.2)) ( K (r18.1,r18.2))
theorem sim_mem_Mem_Cas (a0:Ptr) (a1:Int) (a2:Int) (a3:Int) (a4:Int) {K:kT (Int × Bool)} {h:Hp} (H:sh_mem_Mem_Cas a0 a1 a2 a3 a4 K h):cl prog qt [(pv a0),(.int .i64 a1),(.int .i64 a2),(.int .u64 a3),(.int .u64 a4)] aU K h:=J [] func168 H
def sh_mem_Mem_Add (a0:Ptr) (a1:Int) (a2:Int) (a3:Int) (K:kT (Int × Bool)):hT:=cl prog gx [(pv a0),(.int .i64 a1),(.int .i64 a2)] aU fun r16=>cl prog eH [(pv a0),(.int .i64 a1),(.int .i64 a2),(.int .u64 (u64.wrap (r16.1 + a3)))] ai fun r25=>K (r16.1,r16.2)
theorem sim_mem_Mem_Add (a0:Ptr) (a1:Int) (a2:Int) (a3:Int) {K:kT (Int × Bool)} {h:Hp} (H:sh_mem_Mem_Add a0 a1 a2 a3 K h):cl prog qu [(pv a0),(.int .i64 a1),(.int .i64 a2),(.int .u64 a3)] aU K h:=J [] func169 H
def sh_mem_Mem_Zero (a0:Ptr) (a1:Int) (K:kT Bool):hT:=cl prog lK [(pv a0),(.int .i64 a1),(.int .i64 0)] sY fun r7=>br r7.isNone ( K false) ( nn a0 fun q10=>ld (q10.1,q10.2 + 0) cS fun x12=>ix x12 a1 fun q14=>ld (q14.1,q14.2 + Int.toNat a1 * 1) cS fun x15=>hpv prog (Builtin.clear_ #[aG] t_none #[(sv x15)]) R_ fun (_:Unit)=>K true)
theorem sim_mem_Mem_Zero (a0:Ptr) (a1:Int) {K:kT Bool} {h:Hp} (H:sh_mem_Mem_Zero a0 a1 K h):cl prog tG [(pv a0),(.int .i64 a1)] ai K h:=J [] func176 H
def ww (a0:Ptr) (a1:Int) (K:kT Sl):hT:=cl prog lK [(pv a0),(.int .i64 a1),(.int .i64 0)] sY fun r7=>br r7.isNone ( K (⟨none,0,0,none⟩:Sl)) ( nn a0 fun q10=>ld (q10.1,q10.2 + 0) cS fun x12=>ix x12 a1 fun q14=>ld (q14.1,q14.2 + Int.toNat a1 * 1) cS fun x15=>cl prog fB [(sv x15)] bi fun r16=>K r16)
theorem sim_mem_Mem_Frame (a0:Ptr) (a1:Int) {K:kT Sl} {h:Hp} (H:ww a0 a1 K h):cl prog rC [(pv a0),(.int .i64 a1)] bi K h:=J [] func114 H
end
section
open Go Mb
abbrev vU (s:Sl) (xs:List Int):As:=vec t_uint64 1 (cI .u64) s xs
def rows:List Sl->List (List Int)->List As
 | s::ss,f::fs=>vU s f::rows ss fs
 | _,_=>[]
theorem rows_get:∀ (ss:List Sl) (fs:List (List Int)) (i:Nat) (s:Sl) (f:List Int),ss[i]? = some s->fs[i]? = some f->(rows ss fs)[i]? = some (vU s f)
 | [],_,_,_,_,h,_=>by simp at h
 | _::_,[],_,_,_,_,h=>by simp at h
 | s::ss,f::fs,0,_,_,h1,h2=>by simp at h1 h2; subst h1; subst h2; rfl
 | s::ss,f::fs,i + 1,_,_,h1,h2=>by simpa [rows] using rows_get ss fs i _ _ (by simpa using h1) (by simpa using h2)
theorem rows_set:∀ (ss:List Sl) (fs:List (List Int)) (i:Nat) (s:Sl) (f:List Int),ss[i]? = some s->(rows ss fs).set i (vU s f) = rows ss (fs.set i f)
 | [],_,_,_,_,h=>by simp at h
 | s::ss,[],i,_,_,_=>by simp [rows]
 | s::ss,g::fs,0,_,_,h1=>by simp at h1; subst h1; rfl
 | s::ss,g::fs,i + 1,_,_,h1=>by simp only [rows,set_cons_succ]; rw [rows_set ss fs i _ _ (by simpa using h1)]
theorem rows_app (s:Sl) (f:List Int):∀ (ss:List Sl) (fs:List (List Int)),ss.length = fs.length->rows (ss++[s]) (fs++[f]) = rows ss fs++[vU s f]
 | [],[],_=>rfl
 | [],_::_,h=>by simp at h
 | _::_,[],h=>by simp at h
 | a::ss,b::fs,h=>by simp only [List.cons_append,rows]; rw [rows_app s f ss fs (by simpa using h)]
def yb (b:Nat) (s:Sl) (ss:List Sl) (fs:List (List Int)):List As:=blk b lC [sv s]::vec aG 1 cS s ss::rows ss fs
structure MemOk (ss:List Sl) (fs:List (List Int)):Prop where
 len:ss.length = fs.length
 le:fs.length <= 16
 row:∀ f ∈ fs,f.length = 16
def gC (x:Ptr) (fs:List (List Int)):As:=fun h=>∃ bs:Nat × Sl × List Sl,(x = some (bs.1,0)/\MemOk bs.2.2 fs)/\ah (yb bs.1 bs.2.1 bs.2.2 fs) h
theorem mem_op {x:Ptr} {fs:List (List Int)} {l:List As} {h:Hp} (s0:ah (gC x fs::l) h):∃ b s ss,x = some (b,0)/\MemOk ss fs/\s.len = fs.length/\ah (yb b s ss fs++l) h:=by
 obtain ⟨⟨b,s,ss⟩,⟨hx,hb⟩,st⟩:=op_ s0;exact ⟨b,s,ss,hx,hb,(aX (j:=1) st rfl).1.trans hb.len,st⟩
theorem mem_cl {b:Nat} {s:Sl} {ss:List Sl} {fs:List (List Int)} {l:List As} {h:Hp} (hb:MemOk ss fs) (st:ah (yb b s ss fs++l) h):ah (gC (some (b,0)) fs::l) h:=cl_ (b,s,ss) ⟨rfl,hb⟩ st
theorem sG {b:Nat} {s:Sl} {ss:List Sl} {fs:List (List Int)} {h:Hp} (hb:MemOk ss fs) (st:ah (yb b s ss fs) h):ah [gC (some (b,0)) fs] h:=mem_cl hb (by rw [append_nil]; exact st)
namespace Mem
def has (fs:List (List Int)) (f a:Int):Prop:=0 <= f/\f < fs.length/\0 <= a/\a < 16
instance (fs:List (List Int)) (f a:Int):Decidable (has fs f a):=by unfold has; infer_instance
def word (fs:List (List Int)) (f a:Int):Int:=(fs.getD f.toNat []).getD a.toNat 0
def load (fs:List (List Int)) (f a:Int):Int × Bool:=if has fs f a then (word fs f a,true) else (0,false)
def put (fs:List (List Int)) (f a v:Int):List (List Int):=fs.set f.toNat ((fs.getD f.toNat []).set a.toNat v)
def store (fs:List (List Int)) (f a v:Int):Bool × List (List Int):=if has fs f a then (true,put fs f a v) else (false,fs)
end Mem
theorem rJ (x:Sl):(cS x).length = 1:=rfl
def memAt (ss:List Sl) (fs:List (List Int)) (f a:Int) (r:Ptr):Prop :=
 if Mem.has fs f a then ∃ s q,ss[f.toNat]? = some s/\s.a = some q/\r = some (q.1,q.2 + a.toNat * 1) else r = none
theorem sp_mem_at (b:Nat) (s:Sl) (ss:List Sl) (fs:List (List Int)) (hb:MemOk ss fs) (f a:Int):Sp prog lK [pv (some (b,0)),.int .i64 f,.int .i64 a] sY (yb b s ss fs) (fun r=>pa_ (memAt ss fs f a r) (yb b s ss fs)):=by
 intro h st;refine sim_mem_Mem_at _ _ _ ?_;unfold sh_mem_Mem_at;have hno:∀ {p:Prop},¬ p->(Mem.has fs f a->p)->memAt ss fs f a none:=fun hp himp=>by unfold memAt; rw [if_neg (fun hh=>hp (himp hh))]
 have hl:s.len = fs.length:=(aX (j:=1) st rfl).1.trans hb.len;refine ar (fun k=>?_) (fun k=>?_)
 ·have h0:0 <= f:=by simpa using k
  unfold cl;refine sim_mem_Mem_Frames _ ?_;unfold us;refine bB rfl (bn (aJ s st (i:=0) rfl rfl rfl ?_));refine ar (fun k2=>?_) (fun k2=>?_)
  ·have k2':¬ (f < fs.length/\0 <= a/\a < 16):=by simp [hl] at k2; omega
   exact aw (hno k2' (fun hh=>hh.2)) st
  ·have k2':f < fs.length/\0 <= a/\a < 16:=by simp [hl] at k2; omega
   obtain ⟨n,rfl⟩:=Int.eq_ofNat_of_zero_le h0;have hn:n < ss.length:=by rw [hb.len]; omega
   have hf:n < fs.length:=by omega
   refine bn (aJ s st (i:=0) rfl rfl rfl ?_);refine bE st (j:=1) rfl (by omega) (by omega) fun q hq=>?_;refine bK (j:=1) (i:=n) (k:=0) ss[n] rJ st rfl hq (by simp) (al hn) (by simp) ?_;have hr:(yb b s ss fs)[2 + n]? = some (vU ss[n] fs[n]):=by
    show (blk b lC [sv s]::vec aG 1 cS s ss::rows ss fs)[2 + n]? = _;rw [add_comm,getElem?_cons_succ,getElem?_cons_succ];exact rows_get ss fs n _ _ (al hn) (al hf)
   have hlen:fs[n].length = 16:=hb.row _ (getElem_mem hf);refine bE st (j:=2 + n) hr (by omega) (by omega) fun q2 hq2=>?_;refine aw ?_ st;unfold memAt;rw [if_pos ⟨h0,k2'⟩];exact ⟨ss[n],q2,by simp [hn],hq2,rfl⟩
 ·have k':¬ 0 <= f:=by simpa using k
  exact aw (hno k' (fun hh=>hh.1)) st
theorem qK (x:Ptr) (fs:List (List Int)) (f a:Int):Sp prog gx [pv x,.int .i64 f,.int .i64 a] aU [gC x fs] (fun r=>pa_ (r = Mem.load fs f a) [gC x fs]):=by
 intro h s0;obtain ⟨b,s,ss,rfl,hb,hl,st⟩:=mem_op s0;refine sim_mem_Mem_Load _ _ _ ?_;unfold sh_mem_Mem_Load;rw [append_nil] at st;refine bG (rest:=[]) [] (sp_mem_at b s ss fs hb f a) st (append_nil _).symm fun r h' s1=>?_;obtain ⟨hr,s2⟩:=aM.1 s1;rw [append_nil] at s2;by_cases hh:Mem.has fs f a
 ·unfold memAt at hr;rw [if_pos hh] at hr;obtain ⟨sr,q,h1,h2,rfl⟩:=hr;obtain ⟨g1,g2,g3,g4⟩:=hh;have hf:f.toNat < fs.length:=by omega
  have hrow:(yb b s ss fs)[2 + f.toNat]? = some (vU sr fs[f.toNat]):=by
   show (blk b lC [sv s]::vec aG 1 cS s ss::rows ss fs)[2 + f.toNat]? = _;rw [add_comm,getElem?_cons_succ,getElem?_cons_succ];exact rows_get ss fs _ _ _ h1 (al hf)
  have hlen:fs[f.toNat].length = 16:=hb.row _ (getElem_mem hf);have ha:a.toNat < fs[f.toNat].length:=by omega
  refine bB rfl (bn ?_);refine bK (j:=2 + f.toNat) (i:=a.toNat) (k:=0) (q:=q) fs[f.toNat][a.toNat] (bd _) s2 hrow h2 (by simp) (al ha) (by simp) ?_;refine aw ?_ (sG hb s2);unfold Mem.load;rw [if_pos ⟨g1,g2,g3,g4⟩];simp [Mem.word,hf,ha]
 ·unfold memAt at hr;rw [if_neg hh] at hr;subst hr;refine cg rfl ?_;refine aw ?_ (sG hb s2);unfold Mem.load;rw [if_neg hh]
theorem lE (x:Ptr) (fs:List (List Int)) (f a v:Int):Sp prog eH [pv x,.int .i64 f,.int .i64 a,.int .u64 v] ai [gC x fs] (fun r=>pa_ (r = (Mem.store fs f a v).1) [gC x (Mem.store fs f a v).2]):=by
 intro h s0;obtain ⟨b,s,ss,rfl,hb,hl,st⟩:=mem_op s0;refine sim_mem_Mem_Store _ _ _ _ ?_;unfold wu;rw [append_nil] at st;refine bG (rest:=[]) [] (sp_mem_at b s ss fs hb f a) st (append_nil _).symm fun r h' s1=>?_;obtain ⟨hr,s2⟩:=aM.1 s1;rw [append_nil] at s2;by_cases hh:Mem.has fs f a
 ·unfold memAt at hr;rw [if_pos hh] at hr;obtain ⟨sr,q,h1,h2,rfl⟩:=hr;have e:Mem.store fs f a v = (true,Mem.put fs f a v):=if_pos hh;rw [e];obtain ⟨g1,g2,g3,g4⟩:=hh;have hf:f.toNat < fs.length:=by omega
  have hrow:(yb b s ss fs)[2 + f.toNat]? = some (vU sr fs[f.toNat]):=by
   show (blk b lC [sv s]::vec aG 1 cS s ss::rows ss fs)[2 + f.toNat]? = _;rw [add_comm,getElem?_cons_succ,getElem?_cons_succ];exact rows_get ss fs _ _ _ h1 (al hf)
  have hlen:fs[f.toNat].length = 16:=hb.row _ (getElem_mem hf);have ha:a.toNat < fs[f.toNat].length:=by omega
  refine bB rfl (bn ?_);refine tZ (j:=2 + f.toNat) (i:=a.toNat) (k:=0) (q:=q) v (bd _) s2 hrow h2 (by simp) (al ha) (by simp) rfl fun h3 s3=>?_;have dh:(yb b s ss fs).set (2 + f.toNat) (vU sr (fs[f.toNat].set a.toNat v)) = yb b s ss (Mem.put fs f a v):=by
   show (blk b lC [sv s]::vec aG 1 cS s ss::rows ss fs).set (2 + f.toNat) _ = _;rw [add_comm,set_cons_succ,set_cons_succ,rows_set ss fs _ _ _ h1];simp [yb,Mem.put,hf]
  rw [dh] at s3;refine aw rfl (sG ⟨by simp [Mem.put,hb.len],by simpa [Mem.put] using hb.le,?_⟩ s3);intro g hg;unfold Mem.put at hg;rcases mem_or_eq_of_mem_set hg with h4 | h4
  ·exact hb.row _ h4
  ·rw [h4]; simp [hf,hlen]
 ·unfold memAt at hr;rw [if_neg hh] at hr;subst hr;have e:Mem.store fs f a v = (false,fs):=if_neg hh;rw [e];exact cg rfl (aw rfl (sG hb s2))
namespace Mem
def cas (fs:List (List Int)) (f a o v:Int):(Int × Bool) × List (List Int) :=
 (load fs f a,if (load fs f a).2 && ((load fs f a).1 == o) then (store fs f a v).2 else fs)
def add (fs:List (List Int)) (f a v:Int):(Int × Bool) × List (List Int) :=
 (load fs f a,(store fs f a (u64.wrap ((load fs f a).1 + v))).2)
def zero (fs:List (List Int)) (f:Int):Bool × List (List Int) :=
 if has fs f 0 then (true,fs.set f.toNat (replicate 16 0)) else (false,fs)
def frame (fs:List (List Int)) (f:Int):List Int:=if has fs f 0 then fs.getD f.toNat [] else []
end Mem
theorem sp_mem_Cas (x:Ptr) (fs:List (List Int)) (f a o v:Int):Sp prog qt [pv x,.int .i64 f,.int .i64 a,.int .u64 o,.int .u64 v] aU [gC x fs] (fun r=>pa_ (r = (Mem.cas fs f a o v).1) [gC x (Mem.cas fs f a o v).2]):=by
 intro h s0;refine sim_mem_Mem_Cas _ _ _ _ _ ?_;unfold sh_mem_Mem_Cas;refine bG [0] (qK x fs f a) s0 rfl fun r h' s1=>?_;obtain ⟨hr,s2⟩:=aM.1 s1;subst hr;refine ar (fun k=>?_) (fun k=>?_)
 ·refine bG [0] (lE x fs f a v) s2 rfl fun r h' s3=>?_;obtain ⟨_,s4⟩:=aM.1 s3;refine aw rfl ?_;simp only [Mem.cas,k,if_true];exact s4
 ·refine aw rfl ?_;simp only [Mem.cas,k,Bool.false_eq_true,if_false];exact s2
theorem sp_mem_Add (x:Ptr) (fs:List (List Int)) (f a v:Int):Sp prog qu [pv x,.int .i64 f,.int .i64 a,.int .u64 v] aU [gC x fs] (fun r=>pa_ (r = (Mem.add fs f a v).1) [gC x (Mem.add fs f a v).2]):=by
 intro h s0;refine sim_mem_Mem_Add _ _ _ _ ?_;unfold sh_mem_Mem_Add;refine bG [0] (qK x fs f a) s0 rfl fun r h' s1=>?_;obtain ⟨hr,s2⟩:=aM.1 s1;subst hr;refine bG [0] (lE x fs f a _) s2 rfl fun r h' s3=>?_;obtain ⟨_,s4⟩:=aM.1 s3;exact aw rfl s4
theorem sp_slices_Clone (s:Sl) (xs:List Int) (hb:xs.length < 2 ^ 40):Sp prog fB [sv s] bi [vU s xs] (fun r=>ah [vU r xs,vU s xs]):=by
 intro h s0;refine pV _ ?_;unfold jg;refine ar (fun k=>?_) (fun k=>?_)
 ·have hn:xs = []:=by
   obtain ⟨_,⟨e1,e2,e3⟩,_⟩:=cL (i:=0) rfl s0;rcases e3 with e3 | ⟨b,pre,rest,U,fr,h4,_⟩
   ·exact List.eq_nil_of_length_eq_zero (by omega)
   ·rw [h4] at k; cases k
  subst hn;exact dp s0
 ·refine db (τ:=Int) [] (val:=fun x=>.int .u64 x) (enc:=cI .u64) eX (bd _) (fun _=>rfl) s0 rfl rfl (by simp) fun y h' s1=>?_;refine ru (τ:=Int) (i:=0) (j:=1) (enc:=cI .u64) (xs:=[]) (ys:=xs) eX eX.sl (bd _) (oneI _) s1 rfl rfl (by omega) (by simp; omega) (by simp; omega) fun v h2 s2=>?_;exact s2
theorem mem_has {ss:List Sl} {fs:List (List Int)} {f a:Int} {r:Ptr} (hr:memAt ss fs f a r):(Mem.has fs f a↔r ≠ none):=by
 unfold memAt at hr;split at hr
 ·obtain ⟨s,q,_,_,rfl⟩:=hr; simp [*]
 ·simp [*]
theorem mem_row {b:Nat} {s:Sl} {ss:List Sl} {fs:List (List Int)} {i:Nat} (hb:MemOk ss fs) (hi:i < fs.length):∃ sr,ss[i]? = some sr/\(yb b s ss fs)[2 + i]? = some (vU sr fs[i]):=by
 have hn:i < ss.length:=by rw [hb.len]; exact hi
 refine ⟨ss[i],al hn,?_⟩;show (blk b lC [sv s]::vec aG 1 cS s ss::rows ss fs)[2 + i]? = _;rw [add_comm,getElem?_cons_succ,getElem?_cons_succ];exact rows_get ss fs i _ _ (al hn) (al hi)
theorem mem_set {b:Nat} {s:Sl} {ss:List Sl} {fs:List (List Int)} {i:Nat} {sr:Sl} {g:List Int} (h1:ss[i]? = some sr):(yb b s ss fs).set (2 + i) (vU sr g) = yb b s ss (fs.set i g):=by
 show (blk b lC [sv s]::vec aG 1 cS s ss::rows ss fs).set (2 + i) _ = _;rw [add_comm,set_cons_succ,set_cons_succ,rows_set ss fs _ _ _ h1]; rfl
theorem mem_ok_set {ss:List Sl} {fs:List (List Int)} {i:Nat} {g:List Int} (hb:MemOk ss fs) (hg:g.length = 16):MemOk ss (fs.set i g) :=
 ⟨by simp [hb.len],by simpa using hb.le,fun f hf=>by
  rcases mem_or_eq_of_mem_set hf with h4 | h4
  ·exact hb.row _ h4
  ·rw [h4]; exact hg⟩
theorem sp_mem_Zero (x:Ptr) (fs:List (List Int)) (f:Int):Sp prog tG [pv x,.int .i64 f] ai [gC x fs] (fun r=>pa_ (r = (Mem.zero fs f).1) [gC x (Mem.zero fs f).2]):=by
 intro h s0;obtain ⟨b,s,ss,rfl,hb,hl,st⟩:=mem_op s0;refine sim_mem_Mem_Zero _ _ ?_;unfold sh_mem_Mem_Zero;rw [append_nil] at st;refine bG (rest:=[]) [] (sp_mem_at b s ss fs hb f 0) st (append_nil _).symm fun r h' s1=>?_;obtain ⟨hr,s2⟩:=aM.1 s1;rw [append_nil] at s2;have hh:=mem_has hr;refine ar (fun k=>?_) (fun k=>?_)
 ·have:¬ Mem.has fs f 0:=by rw [hh]; cases r <;> simp_all
  have e:Mem.zero fs f = (false,fs):=if_neg this;rw [e];exact aw rfl (sG hb s2)
 ·have hy:Mem.has fs f 0:=by rw [hh]; cases r <;> simp_all
  have e:Mem.zero fs f = (true,fs.set f.toNat (replicate 16 0)):=if_pos hy;rw [e];obtain ⟨g1,g2,_⟩:=hy;obtain ⟨n,rfl⟩:=Int.eq_ofNat_of_zero_le g1;have hf:n < fs.length:=by omega
  obtain ⟨sr,h1,hrow⟩:=mem_row (b:=b) (s:=s) hb hf;have hn:n < ss.length:=by rw [hb.len]; exact hf
  refine bn (aJ s s2 (i:=0) rfl rfl rfl ?_);refine bE s2 (j:=1) rfl (by omega) (by omega) fun q hq=>?_;refine bK (j:=1) (i:=n) (k:=0) sr rJ s2 rfl hq (by simp) h1 (by simp) ?_;refine clear_v (τ:=Int) (x0:=0) (enc:=cI .u64) eX rfl (bd _) (oneI _) s2 hrow fun h3 s3=>?_;rw [mem_set h1,hb.row _ (getElem_mem hf)] at s3;exact aw rfl (sG (mem_ok_set hb (by simp)) s3)
theorem sp_mem_Frame (x:Ptr) (fs:List (List Int)) (f:Int):Sp prog rC [pv x,.int .i64 f] bi [gC x fs] (fun r=>ah [vU r (Mem.frame fs f),gC x fs]):=by
 intro h s0;obtain ⟨b,s,ss,rfl,hb,hl,st⟩:=mem_op s0;refine sim_mem_Mem_Frame _ _ ?_;unfold ww;rw [append_nil] at st;refine bG (rest:=[]) [] (sp_mem_at b s ss fs hb f 0) st (append_nil _).symm fun r h' s1=>?_;obtain ⟨hr,s2⟩:=aM.1 s1;rw [append_nil] at s2;have hh:=mem_has hr;refine ar (fun k=>?_) (fun k=>?_)
 ·have:¬ Mem.has fs f 0:=by rw [hh]; cases r <;> simp_all
  have e:Mem.frame fs f = []:=if_neg this;rw [e];exact dp (sG hb s2)
 ·have hy:Mem.has fs f 0:=by rw [hh]; cases r <;> simp_all
  have e:Mem.frame fs f = fs.getD f.toNat []:=if_pos hy;rw [e];obtain ⟨g1,g2,_⟩:=hy;obtain ⟨n,rfl⟩:=Int.eq_ofNat_of_zero_le g1;have hf:n < fs.length:=by omega
  obtain ⟨sr,h1,hrow⟩:=mem_row (b:=b) (s:=s) hb hf;have hn:n < ss.length:=by rw [hb.len]; exact hf
  have hlen:=hb.row _ (getElem_mem hf);refine bn (aJ s s2 (i:=0) rfl rfl rfl ?_);refine bE s2 (j:=1) rfl (by omega) (by omega) fun q hq=>?_;refine bK (j:=1) (i:=n) (k:=0) sr rJ s2 rfl hq (by simp) h1 (by simp) ?_;have hp:pick [2 + n] (yb b s ss fs) = [vU sr fs[n]]++(yb b s ss fs).eraseIdx (2 + n):=by
   unfold pick; rw [hrow]; rfl
  refine bG [2 + n] (sp_slices_Clone sr fs[n] (by omega)) s2 hp fun r2 h3 s3=>?_;have e2:fs.getD (n:Int).toNat [] = fs[n]:=by simp [hf]
  rw [e2];have hlt:=(List.getElem?_eq_some_iff.1 hrow).1;refine vV (bT s3) fun h4 s4=>?_;have s5:=cO hlt s4;rw [mem_set h1] at s5;exact sG hb (by simpa using s5)
theorem sp_mem_New (n:Int) (h1:¬ n < 1) (h2:¬ n > 16):Sp prog wK [.int .i64 n] tY [] (fun r=>ah [gC r (replicate n.toNat (replicate 16 0))]):=by
 intro h st;refine sim_mem_New _ ?_;unfold sh_mem_New;obtain ⟨m,rfl⟩:=Int.eq_ofNat_of_zero_le (show 0 <= n by omega);refine bB (by simp; omega) ?_;refine nP st fun b h' s1=>?_;refine Lp.intro (fun (i:Int) h=>∃ (k:Nat) (s:Sl) (ss:List Sl),i = k/\k <= m/\ss.length = k/\ah (yb b s ss (replicate k (replicate 16 0))) h) (fun (i:Int) _=>m - i.toNat)
  ⟨0,⟨none,0,0,none⟩,[],rfl,Nat.zero_le _,rfl,aA [1] (dp s1) rfl⟩ ?_
 rintro i h ⟨k,s,ss,rfl,hk,hss,s2⟩;unfold mem_New_l1;refine ar (fun c=>?_) (fun c=>?_)
 ·have hlt:k < m:=by simpa using c
  have hw:i64.wrap ((k:Int) + 1) = ((k + 1:Nat):Int):=by rw [aE (by omega) (by omega)]; rfl
  refine aJ s s2 (i:=0) rfl rfl rfl ?_;refine nI (τ:=Int) (x0:=0) (enc:=cI .u64) (n:=16) eX rfl s2 (by omega) (by omega) fun v h3 s3=>?_;refine db (τ:=Sl) [v] (val:=sv) (enc:=cS) uV rJ (fun _=>rfl) s3 rfl rfl (by simp) fun y h4 s4=>?_;refine ru (τ:=Sl) (i:=3) (j:=0) (enc:=cS) (xs:=ss) (ys:=[v]) uV uV.sl rJ oneS s4 rfl rfl (by omega) (by simp; omega) (by simp; omega) fun w h5 s5=>?_;refine mX (i:=2) s5 rfl (Nat.le_refl _) fun h6 s6=>?_;rw [hw];refine ⟨⟨k + 1,w,ss++[v],rfl,hlt,by simp [hss],?_⟩,by simp; omega⟩;have s7:ah (vU v (replicate 16 0)::blk b lC [sv w]::vec aG 1 cS w (ss++[v])::rows ss (replicate k (replicate 16 0))) h6:=aT (l:=[vec aG 1 cS y [v]]) s6;have s8:=aA [1,1] s7 rfl;unfold yb;rw [show replicate (k + 1) (replicate 16 (0:Int)) = replicate k (replicate 16 0)++[replicate 16 0] from by simp [List.replicate_succ'],rows_app _ _ _ _ (by simp [hss])];exact jY (.cons _ (.cons _ (List.perm_append_comm (l₁:=[_])))) s8
 ·have:k = m:=by simp at c; omega
  subst this;exact sG ⟨by simp [hss],by simp; omega,fun f hf=>by rw [(mem_replicate.1 hf).2]; simp⟩ s2
end
section
open Go Mb
attribute [local irreducible] bM gR il Val Tx Tu Tn RV Res br nn ix gd ld st nw cl clv dL Lp ct
def mA (a0:Int) (K:kT Sl) (s27:Bool):hT:=br s27 ( hpv prog (Instr.buildSlice aj 3 #[(0,(.int .i64 1)),(1,(.int .i64 2)),(2,(.int .i64 6))]) av fun (v33:Sl)=>K v33) ( br (a0 == 22) ( hpv prog (Instr.buildSlice aj 4 #[(0,(.int .i64 1)),(1,(.int .i64 2)),(2,(.int .i64 6)),(3,(.int .i64 6))]) av fun (v36:Sl)=>K v36) ( K (⟨none,0,0,none⟩:Sl)))
def ip (a0:Int) (K:kT Sl) (s1:Bool):hT:=br s1 ( hpv prog (Instr.buildSlice aj 1 #[(0,(.int .i64 0))]) av fun (v8:Sl)=>K v8) ( br (a0 == 2) ( hpv prog (Instr.buildSlice aj 3 #[(0,(.int .i64 0)),(1,(.int .i64 0)),(2,(.int .i64 4))]) av fun (v11:Sl)=>K v11) ( br (a0 == 3) ( hpv prog (Instr.buildSlice aj 4 #[(0,(.int .i64 0)),(1,(.int .i64 3)),(2,(.int .i64 0)),(3,(.int .i64 4))]) av fun (v14:Sl)=>K v14) ( br (a0 == 6) ( hpv prog (Instr.buildSlice aj 3 #[(0,(.int .i64 1)),(1,(.int .i64 0)),(2,(.int .i64 4))]) av fun (v17:Sl)=>K v17) ( br (a0 == 7) ( hpv prog (Instr.buildSlice aj 1 #[(0,(.int .i64 1))]) av fun (v20:Sl)=>K v20) ( br (a0 == 8) ( hpv prog (Instr.buildSlice aj 2 #[(0,(.int .i64 1)),(1,(.int .i64 4))]) av fun (v23:Sl)=>K v23) ( br (a0 == 9) ( hpv prog (Instr.buildSlice aj 4 #[(0,(.int .i64 0)),(1,(.int .i64 2)),(2,(.int .i64 5)),(3,(.int .i64 6))]) av fun (v26:Sl)=>K v26) ( br (a0 == 20) ( hpv prog (Instr.buildSlice aj 2 #[(0,(.int .i64 1)),(1,(.int .i64 2))]) av fun (v29:Sl)=>K v29) ( ct (mA a0 K)<|br (a0 == 21) ( mA a0 K (a0 == 21)) ( mA a0 K (a0 == 23))))))))))
def sh_word_kinds (a0:Int) (K:kT Sl):hT:=ct (ip a0 K)<|br (a0 == 1) ( ip a0 K (a0 == 1)) ( br (a0 == 4) ( ip a0 K (a0 == 4)) ( ip a0 K (a0 == 5)))
theorem sim_word_kinds (a0:Int) {K:kT Sl} {h:Hp} (H:sh_word_kinds a0 K h):cl prog sE [(.int .i64 a0)] av K h:=have z0:LH (σ:=Bool) 102005 0 (fun s1 r=>(4,(.bool s1))::r) [4] [3] (fun _ l=>l):=⟨⟩; have z1:LH (σ:=Bool) 102022 0 (fun s27 r=>(30,(.bool s27))::r) [30] [3] (fun _ l=>l):=⟨⟩; J [2005,2022] func159 H
def ue (a0:aa) (a1:Int) (K:kT (Int × Bool)) (s1:Bool):hT:=br s1 ( K (0,false)) ( gd (0 <= a1/\a1 < 5)<|K ((i64.wrap (aa.get a0 a1)),true))
def sh_word_Arg (a0:aa) (a1:Int) (a2:Int) (K:kT (Int × Bool)):hT:=ct (ue a0 a1 K)<|br (!(((decide (a1 < 1)) || (decide (a1 >= 5))) || (decide (a2 <= 0)))) ( gd (0 <= a1/\a1 < 5)<|ue a0 a1 K (decide ((aa.get a0 a1) >= (u64.wrap a2)))) ( ue a0 a1 K true)
theorem sim_word_Arg (a0:aa) (a1:Int) (a2:Int) {K:kT (Int × Bool)} {h:Hp} (H:sh_word_Arg a0 a1 a2 K h):cl prog mZ [(.agg (aa.C a0).toArray),(.int .i64 a1),(.int .i64 a2)] aR K h:=have z0:LH (σ:=Bool) 102002 1 (fun s1 r=>(25,(.bool s1))::r) [25] [1,3] (fun _ l=>l):=⟨⟩; J [2002] func165 H
def sh_word_fits (a0:aa) (a1:Int) (a2:Int) (a3:Int) (K:kT Bool):hT:=br (a2 == 0) ( cl prog mZ [(.agg (aa.C a0).toArray),(.int .i64 a1),(.int .i64 8)] aR fun r16=>K r16.2) ( br (a2 == 1) ( cl prog mZ [(.agg (aa.C a0).toArray),(.int .i64 a1),(.int .i64 8)] aR fun r24=>K r24.2) ( br (a2 == 2) ( cl prog mZ [(.agg (aa.C a0).toArray),(.int .i64 a1),(.int .i64 16)] aR fun r32=>K r32.2) ( br (a2 == 3) ( cl prog mZ [(.agg (aa.C a0).toArray),(.int .i64 a1),(.int .i64 a3)] aR fun r41=>K r41.2) ( br (a2 == 4) ( gd (0 <= a1/\a1 < 5)<|K ((gt (aa.get a0 a1)).2)) ( br (a2 == 5) ( gd (0 <= a1/\a1 < 5)<|K ((decide ((aa.get a0 a1) >= 1)) && (decide ((aa.get a0 a1) <= 4)))) ( K true))))))
theorem sim_word_fits (a0:aa) (a1:Int) (a2:Int) (a3:Int) {K:kT Bool} {h:Hp} (H:sh_word_fits a0 a1 a2 a3 K h):cl prog n_word_fits [(.agg (aa.C a0).toArray),(.int .i64 a1),(.int .i64 a2),(.int .i64 a3)] ai K h:=J [] func160 H
def word_Check_l1 (a0:aa) (a1:Int) (K:kT Int) (r17:Sl) (Rec5:kT Int) (s4:Int):hT:=br (decide (s4 < (r17.len:Int))) ( ix r17 s4 fun q22=>ld (q22.1,q22.2 + Int.toNat s4 * 1) (cI .i64) fun x23=>cl prog n_word_fits [(.agg (aa.C a0).toArray),(.int .i64 (i64.wrap (s4 + 1))),(.int .i64 x23),(.int .i64 a1)] ai fun r29=>br (!r29) ( K 2) ( Rec5 (i64.wrap (s4 + 1)))) ( K 0)
def sh_word_Check (a0:aa) (a1:Int) (K:kT Int):hT:=br (!(am a0).2) ( K 1) ( cl prog sE [(.int .i64 ((am a0).1))] av fun r17=>Lp (word_Check_l1 a0 a1 K r17) 0)
theorem sim_word_Check (a0:aa) (a1:Int) {K:kT Int} {h:Hp} (H:sh_word_Check a0 a1 K h):cl prog fT [(.agg (aa.C a0).toArray),(.int .i64 a1)] aC K h:=have z0:LH (σ:=Int) 5 1 (fun s4 r=>(19,(.int .i64 s4))::r) [19] [1,2,17,18] (fun _ l=>l):=⟨⟩; J [] func117 H
def sh_word_Args (a0:Int) (K:kT Int):hT:=cl prog sE [(.int .i64 a0)] av fun r4=>K (r4.len:Int)
theorem sim_word_Args (a0:Int) {K:kT Int} {h:Hp} (H:sh_word_Args a0 K h):cl prog n_word_Args [(.int .i64 a0)] cH K h:=J [] func217 H
end
section
open Go Mb
abbrev bv:=aa
namespace Word
def kinds (k:Int):List Int :=
 if k = 1\/k = 4\/k = 5 then [0] else if k = 2 then [0,0,4] else if k = 3 then [0,3,0,4] else if k = 6 then [1,0,4] else if k = 7 then [1] else if k = 8 then [1,4]
 else if k = 9 then [0,2,5,6] else if k = 20 then [1,2] else if k = 21\/k = 23 then [1,2,6] else if k = 22 then [1,2,6,6] else []
def arg (c:bv) (i m:Int):Int × Bool:=if i < 1\/i >= 5\/m <= 0\/aa.get c i >= u64.wrap m then (0,false) else (i64.wrap (aa.get c i),true)
def fits (c:bv) (i k envs:Int):Bool :=
 if k = 0 then (arg c i 8).2 else if k = 1 then (arg c i 8).2 else if k = 2 then (arg c i 16).2 else if k = 3 then (arg c i envs).2
 else if k = 4 then (gt (aa.get c i)).2 else if k = 5 then decide (aa.get c i >= 1) && decide (aa.get c i <= 4) else true
def checks (c:bv) (envs:Int):List Int->Int->Int
 | [],_=>0
 | k::ks,i=>if fits c i k envs = true then checks c envs ks (i + 1) else 2
def check (c:bv) (envs:Int):Int:=if (am c).2 = false then 1 else checks c envs (kinds (am c).1) 1
theorem kinds_len (k:Int):(kinds k).length <= 4:=by
 unfold kinds; repeat' split
 all_goals simp
end Word
theorem vec_nil' {xs:List Int} (hx:xs = []) {l:List As} {h:Hp} (s:ah l h):ah (vI (⟨none,0,0,none⟩:Sl) xs::l) h:=by subst hx; exact dp s
theorem gE {l:List As} {h:Hp} {K:Sl->Hp->Prop} (xs:List Int) (s:ah l h) {n:Nat} {ps:Array (Nat × Value)} (hps:ps = (pts (fun x=>.int .i64 x) 0 xs).toArray) (hn:n = xs.length) (hb:n <= 2 ^ 24)
  (k:∀ v h',ah (vI v xs::l) h'->K v h'):hpv prog (Instr.buildSlice aj n ps) av K h :=
 db (τ:=Int) xs (val:=fun x=>.int .i64 x) (enc:=cI .i64) jB (bd _) (fun _=>rfl) s hps hn (by omega) k
theorem sp_word_kinds (k:Int):Sp prog sE [.int .i64 k] av [] (fun r=>ah [vI r (Word.kinds k)]):=by
 intro h st;refine sim_word_kinds _ ?_;unfold sh_word_kinds;have one:∀ (xs:List Int) (v:Sl) (h':Hp),Word.kinds k = xs->ah [vI v xs] h'->ah [vI v (Word.kinds k)] h':=by
  intro xs v h' e s; rw [e]; exact s
 have j1:k = 1\/k = 4\/k = 5->ip k (fun r=>ah [vI r (Word.kinds k)]) true h:=by
  intro hk;unfold ip;exact cg rfl (gE [0] st rfl rfl (by decide) fun v h' s=>one _ v h' (if_pos hk) s)
 refine ar (fun c=>?_) (fun c=>?_)
 ·rw [c]; exact j1 (.inl (by simpa using c))
 have n1:k ≠ 1:=by simpa using c
 refine ar (fun c4=>?_) (fun c4=>?_)
 ·rw [c4]; exact j1 (.inr (.inl (by simpa using c4)))
 have n4:k ≠ 4:=by simpa using c4
 by_cases h5:k = 5
 ·have:(k == 5) = true:=by simpa using h5
  rw [this]; exact j1 (.inr (.inr h5))
 have:(k == 5) = false:=by simpa using h5
 rw [this];have hu:∀ {xs:List Int},xs = Word.kinds k->Word.kinds k = xs:=fun e=>e.symm;unfold ip;refine bB rfl ?_;refine ar (fun c=>?_) (fun c=>?_)
 ·have e:k = 2:=by simpa using c
  subst e; exact gE [0,0,4] st rfl rfl (by decide) fun v h' s=>s
 refine ar (fun c=>?_) (fun c=>?_)
 ·have e:k = 3:=by simpa using c
  subst e; exact gE [0,3,0,4] st rfl rfl (by decide) fun v h' s=>s
 refine ar (fun c=>?_) (fun c=>?_)
 ·have e:k = 6:=by simpa using c
  subst e; exact gE [1,0,4] st rfl rfl (by decide) fun v h' s=>s
 refine ar (fun c=>?_) (fun c=>?_)
 ·have e:k = 7:=by simpa using c
  subst e; exact gE [1] st rfl rfl (by decide) fun v h' s=>s
 refine ar (fun c=>?_) (fun c=>?_)
 ·have e:k = 8:=by simpa using c
  subst e; exact gE [1,4] st rfl rfl (by decide) fun v h' s=>s
 refine ar (fun c=>?_) (fun c=>?_)
 ·have e:k = 9:=by simpa using c
  subst e; exact gE [0,2,5,6] st rfl rfl (by decide) fun v h' s=>s
 refine ar (fun c=>?_) (fun c=>?_)
 ·have e:k = 20:=by simpa using c
  subst e; exact gE [1,2] st rfl rfl (by decide) fun v h' s=>s
 refine ar (fun c=>?_) (fun c=>?_)
 ·have e:k = 21:=by simpa using c
  subst e;unfold mA;exact cg rfl (gE [1,2,6] st rfl rfl (by decide) fun v h' s=>s)
 unfold mA;refine ar (fun c=>?_) (fun c=>?_)
 ·have e:k = 23:=by simpa using c
  subst e; exact gE [1,2,6] st rfl rfl (by decide) fun v h' s=>s
 refine ar (fun c=>?_) (fun c=>?_)
 ·have e:k = 22:=by simpa using c
  subst e; exact gE [1,2,6,6] st rfl rfl (by decide) fun v h' s=>s
 refine vec_nil' ?_ st
 simp_all [Word.kinds]
theorem qJ (c:bv) (i m:Int):Sp prog mZ [.agg c.C.toArray,.int .i64 i,.int .i64 m] aR [] (fun r=>pa_ (r = Word.arg c i m) []):=by
 intro h st;refine sim_word_Arg _ _ _ ?_;unfold sh_word_Arg;unfold ue;refine ar (fun k=>?_) (fun k=>?_)
 ·have k':¬ (i < 1\/i >= 5\/m <= 0):=by simp at k; omega
  refine ⟨⟨by omega,by omega⟩,ar (fun k2=>?_) (fun k2=>⟨⟨by omega,by omega⟩,?_⟩)⟩
  ·exact aw (by unfold Word.arg; rw [if_pos (by right; right; right; simpa using k2)]) st
  ·refine aw ?_ st;unfold Word.arg;have k2':¬ aa.get c i >= u64.wrap m:=by simpa using k2
   rw [if_neg (by omega)]
 ·have k':i < 1\/i >= 5\/m <= 0:=by simp at k; omega
  exact cg rfl (aw (by unfold Word.arg; rw [if_pos (by omega)]) st)
theorem sp_word_fits (c:bv) (i k e:Int) (h0:0 <= i) (h5:i < 5):Sp prog n_word_fits [.agg c.C.toArray,.int .i64 i,.int .i64 k,.int .i64 e] ai [] (fun r=>pa_ (r = Word.fits c i k e) []):=by
 intro h st;refine sim_word_fits _ _ _ _ ?_;unfold sh_word_fits;refine ar (fun k0=>?_) (fun k0=>?_)
 ·have e0:k = 0:=by simpa using k0
  subst e0;exact ud (qJ c i 8) st fun r h' hr s=>aw (by rw [hr]; rfl) s
 refine ar (fun k1=>?_) (fun k1=>?_)
 ·have e0:k = 1:=by simpa using k1
  subst e0;exact ud (qJ c i 8) st fun r h' hr s=>aw (by rw [hr]; rfl) s
 refine ar (fun k2=>?_) (fun k2=>?_)
 ·have e0:k = 2:=by simpa using k2
  subst e0;exact ud (qJ c i 16) st fun r h' hr s=>aw (by rw [hr]; rfl) s
 refine ar (fun k3=>?_) (fun k3=>?_)
 ·have e0:k = 3:=by simpa using k3
  subst e0;exact ud (qJ c i e) st fun r h' hr s=>aw (by rw [hr]; rfl) s
 refine ar (fun k4=>⟨⟨h0,h5⟩,?_⟩) (fun k4=>?_)
 ·have e0:k = 4:=by simpa using k4
  subst e0;exact aw rfl st
 refine ar (fun k5=>⟨⟨h0,h5⟩,?_⟩) (fun k5=>?_)
 ·have e0:k = 5:=by simpa using k5
  subst e0;exact aw rfl st
 refine aw ?_ st;simp at k0 k1 k2 k3 k4 k5;simp [Word.fits,k0,k1,k2,k3,k4,k5]
theorem checks_drop (c:bv) (e:Int) (ks:List Int) (n:Nat) (h:n < ks.length):Word.checks c e (ks.drop n) ((n:Int) + 1) = if Word.fits c ((n:Int) + 1) ks[n] e = true then Word.checks c e (ks.drop (n + 1)) (((n + 1:Nat):Int) + 1) else 2:=by
 rw [List.drop_eq_getElem_cons h,Word.checks]; rfl
theorem ir (c:bv) (e:Int):Sp prog fT [.agg c.C.toArray,.int .i64 e] aC [] (fun r=>pa_ (r = Word.check c e) []):=by
 intro h st;refine sim_word_Check _ _ ?_;unfold sh_word_Check;refine ar (fun k=>?_) (fun k=>?_)
 ·exact aw (by unfold Word.check; rw [if_pos (by simpa using k)]) st
 ·have hc:Word.check c e = Word.checks c e (Word.kinds (am c).1) 1:=by unfold Word.check; rw [if_neg (by simpa using k)]
  rw [hc];refine lW (sp_word_kinds _) st fun r h1 s1=>?_;have hl:=(aX (j:=0) s1 rfl).1;have h4:=Word.kinds_len (am c).1;refine Lp.intro (fun (i:Int) h=>∃ n:Nat,i = n/\n <= (Word.kinds (am c).1).length/\Word.checks c e ((Word.kinds (am c).1).drop n) ((n:Int) + 1) = Word.checks c e (Word.kinds (am c).1) 1/\ah [vI r (Word.kinds (am c).1)] h) (fun (i:Int) _=>(Word.kinds (am c).1).length - i.toNat) ⟨0,rfl,Nat.zero_le _,rfl,s1⟩ ?_;rintro i h ⟨n,rfl,hn,he,s2⟩;unfold word_Check_l1;refine ar (fun k2=>?_) (fun k2=>?_)
  ·have hlt:n < (Word.kinds (am c).1).length:=by rw [hl] at k2; simpa using k2
   have hw:i64.wrap ((n:Int) + 1) = ((n + 1:Nat):Int):=by rw [aE (by omega) (by omega)]; rfl
   rw [checks_drop c e _ n hlt] at he;refine bE s2 (j:=0) rfl (by omega) (by omega) fun q hq=>?_;refine bK (j:=0) (i:=n) (k:=0) (Word.kinds (am c).1)[n] (bd _) s2 rfl hq (by simp) (al hlt) (by simp) ?_;rw [hw];refine ud (sp_word_fits c ((n + 1:Nat):Int) _ e (by omega) (by omega)) s2 fun r2 h3 hr s3=>?_;subst hr;refine ar (fun k3=>?_) (fun k3=>?_)
   ·have k3':¬ Word.fits c ((n:Int) + 1) (Word.kinds (am c).1)[n] e = true:=by simpa using k3
    rw [if_neg k3'] at he;exact aw he trivial
   ·have k3':Word.fits c ((n:Int) + 1) (Word.kinds (am c).1)[n] e = true:=by simpa using k3
    rw [if_pos k3'] at he;exact ⟨⟨n + 1,rfl,hlt,he,s3⟩,by simp; omega⟩
  ·have:n = (Word.kinds (am c).1).length:=by rw [hl] at k2; simp at k2; omega
   subst this;rw [List.drop_length] at he;exact aw he trivial
theorem sp_word_Args (k:Int):Sp prog n_word_Args [.int .i64 k] cH [] (fun r=>pa_ (r = (Word.kinds k).length) []):=by
 intro h st;refine sim_word_Args _ ?_;unfold sh_word_Args;refine lW (sp_word_kinds k) st fun r h1 s1=>?_;have hl:=(aX (j:=0) s1 rfl).1;exact aw (by rw [hl]) trivial
end
section
open Go Mb
structure PK where
 s:ao
 m:List (List Int)
 tabs:List (List Pte)
 pool:List Int
 caps:fAa.T
abbrev bY:=ad
abbrev dc:=ao
namespace PK
def off (k:PK) (e:Int):Bool:=decide (e < 0) || decide (e >= k.s.fHa)
def tab (k:PK) (e:Int):List Pte:=k.tabs.getD e.toNat []
def pte (k:PK) (e p:Int):Pte × Bool:=if off k e = true then (cc,false) else Table.get (tab k e) p
def touch (k:PK) (f:Int) (c:bv):(bY × Bool) × PK :=
 if (Word.arg c 2 16).2 = false\/aQ (am c).1 = false then ((⟨0,0⟩,false),k)
 else if (am c).1 = 20 then ((⟨0,(Mem.load k.m f (Word.arg c 2 16).1).1⟩,(Mem.load k.m f (Word.arg c 2 16).1).2),k)
 else if (am c).1 = 21 then ((⟨0,0⟩,(Mem.store k.m f (Word.arg c 2 16).1 c.e3).1),{ k with m:=(Mem.store k.m f (Word.arg c 2 16).1 c.e3).2 })
 else if (am c).1 = 22 then ((⟨0,(Mem.cas k.m f (Word.arg c 2 16).1 c.e3 c.e4).1.1⟩,(Mem.cas k.m f (Word.arg c 2 16).1 c.e3 c.e4).1.2),{ k with m:=(Mem.cas k.m f (Word.arg c 2 16).1 c.e3 c.e4).2 })
 else ((⟨0,(Mem.add k.m f (Word.arg c 2 16).1 c.e3).1.1⟩,(Mem.add k.m f (Word.arg c 2 16).1 c.e3).1.2),{ k with m:=(Mem.add k.m f (Word.arg c 2 16).1 c.e3).2 })
def alloc (k:PK) (e s:Int):Int × PK :=
 if (fAa.at_ k.caps e s).2 = true then (4,k) else if (Pool.take k.pool).2.1 = false then (6,k)
 else ((fAa.root k.caps e s (Pool.take k.pool).1).1,{ k with pool:=(Pool.take k.pool).2.2,m:=(Mem.zero k.m (Pool.take k.pool).1).2,caps:=(fAa.root k.caps e s (Pool.take k.pool).1).2 })
def derive (k:PK) (e src to dst r:Int):Int × PK :=
 if (fAa.derive k.caps e src to dst r).1 ≠ 0 then ((fAa.derive k.caps e src to dst r).1,k)
 else if (Pool.hold k.pool (fAa.at_ (fAa.derive k.caps e src to dst r).2 to dst).1.fEa).1 = false then (6,{ k with caps:=(fAa.drop (fAa.derive k.caps e src to dst r).2 to dst).2 })
 else (0,{ k with caps:=(fAa.derive k.caps e src to dst r).2,pool:=(Pool.hold k.pool (fAa.at_ (fAa.derive k.caps e src to dst r).2 to dst).1.fEa).2 })
def unmaps (ps:List Pte):List Int->List Pte
 | []=>ps
 | i::l=>unmaps (Table.remove ps i).2 l
def unmap (ps:List Pte) (s:Int):List Pte:=unmaps ps (Table.by_ ps s)
def gone (k:PK) (f:Int):List ba->PK
 | []=>k
 | p::l=>gone { k with tabs:=k.tabs.set p.fBa.toNat (unmap (tab k p.fBa) p.fDa),pool:=(Pool.lets k.pool f).2.2 } f l
def revoke (k:PK) (e s:Int) (w:Bool):bY × PK :=
 if (fAa.revoke k.caps e s).1.2 ≠ 0 then (⟨(fAa.revoke k.caps e s).1.2,0⟩,k)
 else if w = true then (⟨0,u64.wrap ((fAa.revoke k.caps e s).1.1++(fAa.drop (fAa.revoke k.caps e s).2 e s).1.1).length⟩,
  gone { k with caps:=(fAa.drop (fAa.revoke k.caps e s).2 e s).2 } (fAa.at_ k.caps e s).1.fEa ((fAa.revoke k.caps e s).1.1++(fAa.drop (fAa.revoke k.caps e s).2 e s).1.1))
 else (⟨0,u64.wrap (fAa.revoke k.caps e s).1.1.length⟩,gone { k with caps:=(fAa.revoke k.caps e s).2 } (fAa.at_ k.caps e s).1.fEa (fAa.revoke k.caps e s).1.1)
def maps (k:PK) (e pg s r:Int):Int × PK :=
 if (fAa.at_ k.caps e s).2 = false then (3,k) else if (Table.get (tab k e) pg).2 = true then (4,k) else if ap r (fAa.at_ k.caps e s).1.fCa = false then (5,k)
 else ((Table.insert (tab k e) pg ⟨(fAa.at_ k.caps e s).1.fEa,s,r⟩).1,{ k with tabs:=k.tabs.set e.toNat (Table.insert (tab k e) pg ⟨(fAa.at_ k.caps e s).1.fEa,s,r⟩).2 })
def protect (k:PK) (e pg r:Int):Int × PK :=
 if (Table.get (tab k e) pg).2 = false then (3,k) else if ap r (fAa.at_ k.caps e (Table.get (tab k e) pg).1.fDa).1.fCa = false then (5,k)
 else ((Table.protect (tab k e) pg r).1,{ k with tabs:=k.tabs.set e.toNat (Table.protect (tab k e) pg r).2 })
def remove (k:PK) (e pg:Int):Int × PK:=((Table.remove (tab k e) pg).1.2,{ k with tabs:=k.tabs.set e.toNat (Table.remove (tab k e) pg).2 })
def sleep (k:PK) (e:Int) (c:bv):bY × Bool :=
 if (fAa.at_ k.caps e (i64.wrap c.e1)).2 = false then (⟨3,0⟩,true) else if ap 1 (fAa.at_ k.caps e (i64.wrap c.e1)).1.fCa = false then (⟨5,0⟩,true)
 else if eo (i64.wrap c.e3) (Mem.load k.m (fAa.at_ k.caps e (i64.wrap c.e1)).1.fEa (i64.wrap c.e2)).1 c.e4 = false then (⟨0,0⟩,false)
 else (⟨0,(Mem.load k.m (fAa.at_ k.caps e (i64.wrap c.e1)).1.fEa (i64.wrap c.e2)).1⟩,true)
def user (k:PK) (e:Int) (c:bv):bY × PK :=
 if (Table.get (tab k e) (i64.wrap c.e1)).2 = false\/bk (Table.get (tab k e) (i64.wrap c.e1)).1.fCa (i64.wrap c.e0) = false then (⟨7,0⟩,k)
 else ((touch k (Table.get (tab k e) (i64.wrap c.e1)).1.fEa c).1.1,(touch k (Table.get (tab k e) (i64.wrap c.e1)).1.fEa c).2)
def errs (r:Int × PK):(bY × Bool) × PK:=((⟨r.1,0⟩,true),r.2)
def does (k:PK) (e:Int) (c:bv):(bY × Bool) × PK :=
 if i64.wrap c.e0 = 1 then errs (alloc k e (i64.wrap c.e1))
 else if i64.wrap c.e0 = 2 then errs (derive k e (i64.wrap c.e1) e (i64.wrap c.e2) (i64.wrap c.e3))
 else if i64.wrap c.e0 = 3 then errs (derive k e (i64.wrap c.e1) (i64.wrap c.e2) (i64.wrap c.e3) (i64.wrap c.e4))
 else if i64.wrap c.e0 = 5 then (((revoke k e (i64.wrap c.e1) true).1,true),(revoke k e (i64.wrap c.e1) true).2)
 else if i64.wrap c.e0 = 4 then (((revoke k e (i64.wrap c.e1) false).1,true),(revoke k e (i64.wrap c.e1) false).2)
 else if i64.wrap c.e0 = 6 then errs (maps k e (i64.wrap c.e1) (i64.wrap c.e2) (i64.wrap c.e3))
 else if i64.wrap c.e0 = 7 then errs (remove k e (i64.wrap c.e1))
 else if i64.wrap c.e0 = 8 then errs (protect k e (i64.wrap c.e1) (i64.wrap c.e2))
 else if i64.wrap c.e0 = 9 then (sleep k e c,k)
 else if i64.wrap c.e0 = 10 then ((⟨0,0⟩,true),k)
 else (((user k e c).1,true),(user k e c).2)
def do_ (k:PK) (e:Int) (c:bv):(bY × Bool) × PK :=
 if off k e = true then ((⟨10,0⟩,true),k) else if Word.check c k.s.fHa ≠ 0 then ((⟨Word.check c k.s.fHa,0⟩,true),k) else does k e c
def new (s:dc):PK:=⟨s,replicate s.fUa.toNat (replicate 16 0),replicate s.fHa.toNat (replicate 8 cc),replicate s.fUa.toNat 0,replicate s.fHa.toNat (replicate 8 jd)⟩
def sized (s:dc):Bool:=!(decide (s.fRa < 1) || decide (s.fRa > 8) || decide (s.fHa < 1) || decide (s.fHa > 4) || decide (s.fUa < 1) || decide (s.fUa > 16))
end PK
def PteFine (p:Pte):Prop:=p = cc\/(0 <= p.fEa/\p.fEa < 16/\0 <= p.fDa/\p.fDa < 8/\aS p.fCa = true)
def CapFine (n:Int) (t:fAa.T) (c:Cap):Prop :=
 c = jd\/(c.fCa = 3/\c.fBa = -1/\c.fDa = 0/\0 <= c.fEa/\c.fEa < n) \/
 (0 <= c.fBa/\0 <= c.fEa/\c.fEa < n/\ap c.fCa (fAa.get t c.fBa c.fDa).fCa = true/\(fAa.get t c.fBa c.fDa).fEa = c.fEa)
def dw (n:Int) (t:fAa.T):Prop:=∀ e s,fAa.has t e s = true->CapFine n t (fAa.get t e s)
structure PK.Ok (k:PK):Prop where
 sz:PK.sized k.s = true
 ml:(k.m.length:Int) = k.s.fUa
 mr:∀ r ∈ k.m,r.length = 16
 tl:(k.tabs.length:Int) = k.s.fHa
 tr:∀ ps ∈ k.tabs,ps.length = 8/\∀ p ∈ ps,PteFine p
 pl:(k.pool.length:Int) = k.s.fUa
 pr:∀ n ∈ k.pool,0 <= n/\n <= 7
 cl:(k.caps.length:Int) = k.s.fHa
 tree:fAa.Ok k.caps
 fine:dw k.s.fUa k.caps
theorem cQ {s:dc}:PK.sized s = true↔1 <= s.fRa/\s.fRa <= 8/\1 <= s.fHa/\s.fHa <= 4/\1 <= s.fUa/\s.fUa <= 16:=by
 unfold PK.sized; simp; omega
theorem oM {r:Int}:aS r = true↔1 <= r/\r <= 3:=by unfold aS; simp
theorem bI {a b:Int} (h:ap a b = true):(1 <= a/\a <= 3)/\(1 <= b/\b <= 3):=by
 unfold ap at h; simp only [Bool.and_eq_true,oM] at h; exact h.1
theorem wrapR {n:Int} (h0:-2^63 <= n) (h1:n < 2^63):i64.wrap n = n:=aE h0 h1
theorem ok_new {s:dc} (h:PK.sized s = true):PK.Ok (PK.new s):=by
 have hs:=cQ.1 h;refine ⟨h,by simp [PK.new]; omega,?_,by simp [PK.new]; omega,?_,by simp [PK.new]; omega,?_,by simp [PK.new]; omega,fAa.ok_new _ (by omega),?_⟩
 ·intro r hr; rw [(mem_replicate.1 hr).2]; rfl
 ·intro r hr; rw [(mem_replicate.1 hr).2];exact ⟨rfl,fun p hp=>.inl (mem_replicate.1 hp).2⟩
 ·intro r hr; rw [(mem_replicate.1 hr).2]; omega
 ·intro e i hh;obtain ⟨a,b,rfl,rfl,ha,hb⟩:=fAa.has_nat hh;simp only [PK.new,List.length_replicate] at ha
  left
  simp only [fAa.get,PK.new,Int.toNat_natCast,getD_eq_getElem?_getD,List.getElem?_replicate,if_pos ha,getD_some,if_pos hb]
def pL (ps:List Pte):Prop:=ps.length = 8/\∀ p ∈ ps,PteFine p
theorem tab_set {ps:List Pte} (h:pL ps) (n:Nat) {p:Pte} (hp:PteFine p):pL (ps.set n p) :=
 ⟨by simpa using h.1,fun q hq=>by
  rcases mem_or_eq_of_mem_set hq with h1 | h1
  ·exact h.2 q h1
  ·subst h1; exact hp⟩
theorem tab_at {ps:List Pte} (h:pL ps) (i:Int):PteFine (Table.at_ ps i):=by
 unfold Table.at_;by_cases hi:i.toNat < ps.length
 ·simp [hi]; exact h.2 _ (getElem_mem hi)
 ·simp [getD_eq_getElem?_getD,List.getElem?_eq_none (Nat.le_of_not_lt hi)]; exact .inl rfl
theorem put_fine {p:Pte} (h:(cK p).2 = true) (h0:p.fCa ≠ 0):PteFine p:=by
 unfold cK at h;cases hq:ak.eqb p ⟨0,0,0⟩ with
 | true =>
  exfalso; apply h0
  unfold ak.eqb at hq;simp at hq; exact hq.2.2
 | false =>
  rw [hq] at h;simp only [cond_false] at h;cases hb:(((((decide (p.fEa < 0)) || (decide (p.fEa >= 16))) || (decide (p.fDa < 0))) || (decide (p.fDa >= 8))) || (!(aS p.fCa))) with
  | true=>rw [hb] at h; simp at h
  | false =>
   simp at hb;obtain ⟨⟨⟨⟨h1,h2⟩,h3⟩,h4⟩,h5⟩:=hb;exact .inr ⟨h1,h2,h3,h4,h5⟩
theorem tab_insert {ps:List Pte} (h:pL ps) (i:Int) (p:Pte):pL (Table.insert ps i p).2:=by
 unfold Table.insert;split
 ·exact h
 ·split
  ·exact h
  ·rename_i h1 _;simp at h1;exact tab_set h _ (put_fine h1.1 h1.2.1)
theorem tab_remove {ps:List Pte} (h:pL ps) (i:Int):pL (Table.remove ps i).2:=by
 unfold Table.remove;split
 ·exact h
 ·split
  ·exact h
  ·exact tab_set h _ (.inl rfl)
theorem tab_protect {ps:List Pte} (h:pL ps) (i r:Int):pL (Table.protect ps i r).2:=by
 unfold Table.protect;split
 ·exact h
 ·split
  ·exact h
  ·rename_i h1 h2;simp at h1;refine tab_set h _ (.inr ?_);rcases tab_at h i with e | e
   ·rw [e] at h2; exact absurd rfl h2
   ·exact ⟨e.1,e.2.1,e.2.2.1,e.2.2.2.1,h1.2⟩
theorem tab_unmaps:∀ (l:List Int) {ps:List Pte},pL ps->pL (PK.unmaps ps l)
 | [],_,h=>h
 | i::l,_,h=>tab_unmaps l (tab_remove h i)
theorem tab_of {k:PK} (ok:PK.Ok k) {n:Nat} (h:n < k.tabs.length):PK.tab k n = k.tabs[n]/\pL k.tabs[n]:=by
 refine ⟨by simp [PK.tab,h],ok.tr _ (getElem_mem h)⟩
theorem tab_ok {k:PK} (ok:PK.Ok k) (e:Int) (h:e.toNat < k.tabs.length):pL (PK.tab k e):=by
 have:PK.tab k e = k.tabs[e.toNat]:=by simp [PK.tab,h]
 rw [this]; exact ok.tr _ (getElem_mem h)
theorem tabs_set {k:PK} (ok:PK.Ok k) (e:Int) {ps:List Pte} (h:e.toNat < k.tabs.length->pL ps):∀ qs ∈ k.tabs.set e.toNat ps,pL qs:=by
 intro qs hq;by_cases he:e.toNat < k.tabs.length
 ·rcases mem_or_eq_of_mem_set hq with h1 | h1
  ·exact ok.tr _ h1
  ·subst h1; exact h he
 ·rw [List.set_eq_of_length_le (by omega)] at hq; exact ok.tr _ hq
theorem ok_tabs {k:PK} (ok:PK.Ok k) (e:Int) {ps:List Pte} (h:e.toNat < k.tabs.length->pL ps):PK.Ok { k with tabs:=k.tabs.set e.toNat ps } :=
 ⟨ok.sz,ok.ml,ok.mr,by simpa using ok.tl,tabs_set ok e h,ok.pl,ok.pr,ok.cl,ok.tree,ok.fine⟩
theorem pool_set {p:List Int} (h:∀ n ∈ p,0 <= n/\n <= 7) (i:Nat) {v:Int} (hv:0 <= v/\v <= 7):∀ n ∈ p.set i v,0 <= n/\n <= 7:=by
 intro n hn;rcases mem_or_eq_of_mem_set hn with h1 | h1
 ·exact h n h1
 ·subst h1; exact hv
theorem refs_fine {p:List Int} (h:∀ n ∈ p,0 <= n/\n <= 7) (i:Int):0 <= Pool.refs p i/\Pool.refs p i <= 7:=by
 unfold Pool.refs;split
 ·omega
 ·by_cases hi:i.toNat < p.length
  ·simp [hi]; exact h _ (getElem_mem hi)
  ·simp [getD_eq_getElem?_getD,List.getElem?_eq_none (Nat.le_of_not_lt hi)]
theorem lets_fine {p:List Int} (h:∀ n ∈ p,0 <= n/\n <= 7) (i:Int):(Pool.lets p i).2.2.length = p.length/\∀ n ∈ (Pool.lets p i).2.2,0 <= n/\n <= 7:=by
 have hr:=refs_fine h i;unfold Pool.lets;split
 ·exact ⟨rfl,h⟩
 ·refine ⟨by simp,pool_set h _ ?_⟩;rw [wrapR (by omega) (by omega)]; omega
theorem hold_fine {p:List Int} (h:∀ n ∈ p,0 <= n/\n <= 7) (i:Int):(Pool.hold p i).2.length = p.length/\∀ n ∈ (Pool.hold p i).2,0 <= n/\n <= 7:=by
 have hr:=refs_fine h i;unfold Pool.hold;split
 ·exact ⟨rfl,h⟩
 ·refine ⟨by simp,pool_set h _ ?_⟩;rw [wrapR (by omega) (by omega)]; omega
theorem take_fine {p:List Int} (h:∀ n ∈ p,0 <= n/\n <= 7):(Pool.take p).2.2.length = p.length/\∀ n ∈ (Pool.take p).2.2,0 <= n/\n <= 7:=by
 unfold Pool.take;split
 ·exact ⟨rfl,h⟩
 ·exact ⟨by simp,pool_set h _ (by omega)⟩
theorem take_in {p:List Int} (h:(Pool.take p).2.1 = true):0 <= (Pool.take p).1/\(Pool.take p).1 < p.length:=by
 unfold Pool.take at h ⊢;split at h
 ·cases h
 ·rename_i h1;rw [if_neg h1];rcases idx_lt 0 p 0 with e | ⟨n,h2,e⟩
  ·omega
  ·simp only; omega
namespace fAa
theorem cf_root {n:Int} {t:T} {f:Int} (h0:0 <= f) (h1:f < n):CapFine n t ⟨f,3,-1,0⟩:=.inr (.inl ⟨rfl,rfl,rfl,h0,h1⟩)
theorem parent_has {t:T} (ok:Ok t) {e s:Int} (h:has t e s = true) (h1:(get t e s).fCa ≠ 0) (h2:0 <= (get t e s).fBa):has t (get t e s).fBa (get t e s).fDa = true/\(get t (get t e s).fBa (get t e s).fDa).fCa ≠ 0:=by
 obtain ⟨rank,hr⟩:=ok.rk;exact ⟨(hr e s h h1 h2).1,(hr e s h h1 h2).2.1⟩
theorem fine_put {n:Int} {t:T} (ok:Ok t) (F:dw n t) {e s:Int} (h:has t e s = true) (h0:(get t e s).fCa = 0) {c:Cap} (hc:CapFine n t c) (hc2:0 <= c.fBa->has t c.fBa c.fDa = true/\(get t c.fBa c.fDa).fCa ≠ 0):dw n (put t e s c):=by
 intro a b hab;rw [put_has] at hab;have keep:∀ {i j:Int},has t i j = true->(get t i j).fCa ≠ 0->get (put t e s c) i j = get t i j:=by
  intro i j hij hn;rw [get_put ok.row h hij,if_neg];rintro ⟨rfl,rfl⟩; exact hn h0
 rw [get_put ok.row h hab];split
 ·rcases hc with e1 | e1 | e1
  ·exact .inl e1
  ·exact .inr (.inl e1)
  ·obtain ⟨p1,p2⟩:=hc2 e1.1;exact .inr (.inr ⟨e1.1,e1.2.1,e1.2.2.1,by rw [keep p1 p2]; exact e1.2.2.2.1,by rw [keep p1 p2]; exact e1.2.2.2.2⟩)
 ·rcases F a b hab with e1 | e1 | e1
  ·exact .inl e1
  ·exact .inr (.inl e1)
  ·have hm:=(bI e1.2.2.2.1).1;obtain ⟨p1,p2⟩:=parent_has ok hab (by omega) e1.1;exact .inr (.inr ⟨e1.1,e1.2.1,e1.2.2.1,by rw [keep p1 p2]; exact e1.2.2.2.1,by rw [keep p1 p2]; exact e1.2.2.2.2⟩)
theorem fine_empties {n:Int} {t:T} (ok:Ok t) (F:dw n t) {l:List ba} (hl:∀ p ∈ l,has t p.fBa p.fDa = true)
  (cl:∀ e s,has t e s = true->(get t e s).fCa ≠ 0->0 <= (get t e s).fBa->(⟨(get t e s).fBa,(get t e s).fDa⟩:ba) ∈ l->(⟨e,s⟩:ba) ∈ l):dw n (fSa t l):=by
 intro a b hab;rw [empties_has] at hab;rw [empties_get l t ok.row hl a b hab];split
 ·exact .inl rfl
 ·rename_i hm;rcases F a b hab with e1 | e1 | e1
  ·exact .inl e1
  ·exact .inr (.inl e1)
  ·have hmy:=(bI e1.2.2.2.1).1;obtain ⟨p1,p2⟩:=parent_has ok hab (by omega) e1.1;have hp:(⟨(get t a b).fBa,(get t a b).fDa⟩:ba) ∉ l:=fun h=>hm (cl a b hab (by omega) e1.1 h);have hg:=empties_get l t ok.row hl _ _ p1;rw [if_neg hp] at hg;exact .inr (.inr ⟨e1.1,e1.2.1,e1.2.2.1,by rw [hg]; exact e1.2.2.2.1,by rw [hg]; exact e1.2.2.2.2⟩)
theorem below_closed {t:T} (ok:Ok t) (e s:Int):∀ a b,has t a b = true->(get t a b).fCa ≠ 0->0 <= (get t a b).fBa->(⟨(get t a b).fBa,(get t a b).fDa⟩:ba) ∈ below t e s->(⟨a,b⟩:ba) ∈ below t e s:=by
 intro a b hab hne hen hp;have h1:=(mem_below ok).1 hp;refine (mem_below ok).2 ⟨hab,hne,?_⟩;rw [under_step ok hab,if_pos ⟨hne,hen⟩];split
 ·rfl
 ·exact h1.2.2
theorem own_closed {t:T} (ok:Ok t) (e s:Int):∀ a b,has t a b = true->(get t a b).fCa ≠ 0->0 <= (get t a b).fBa->(⟨(get t a b).fBa,(get t a b).fDa⟩:ba) ∈ own t e s->(⟨a,b⟩:ba) ∈ own t e s:=by
 intro a b hab hne hen hp;have h1:=(mem_own ok).1 hp;refine (mem_own ok).2 ⟨hab,hne,.inr ?_⟩;rw [under_step ok hab,if_pos ⟨hne,hen⟩];split
 ·rfl
 ·rename_i hno;rcases h1.2.2 with h | h
  ·exact absurd ⟨congrArg au.fBa h,congrArg au.fDa h⟩ hno
  ·exact h
theorem fine_revoke {n:Int} {t:T} (ok:Ok t) (F:dw n t) (e s:Int):dw n (revoke t e s).2:=by
 unfold revoke; split
 ·exact F
 ·exact fine_empties ok F (fun p hp=>((mem_below ok).1 hp).1) (below_closed ok e s)
theorem fine_drop {n:Int} {t:T} (ok:Ok t) (F:dw n t) (e s:Int):dw n (drop t e s).2:=by
 unfold drop; split
 ·exact F
 ·exact fine_empties ok F (fun p hp=>((mem_own ok).1 hp).1) (own_closed ok e s)
theorem fine_rootc {n:Int} {t:T} (ok:Ok t) (F:dw n t) (e s:Int) {f:Int} (h1:f < n) (h0:0 <= f):dw n (root t e s f).2:=by
 unfold root; split
 ·exact F
 ·split
  ·exact F
  ·rename_i c1 c2;simp at c1;exact fine_put ok F c1.1 (by simpa using c2) (cf_root h0 h1) (fun h=>absurd h (by show ¬ (0:Int) <= -1; omega))
theorem fine_derive {n:Int} {t:T} (ok:Ok t) (F:dw n t) (e src to dst r:Int):dw n (derive t e src to dst r).2:=by
 unfold derive;split
 ·exact F
 ·split
  ·exact F
  ·split
   ·exact F
   ·split
    ·exact F
    ·rename_i h1 h2 h3 h4;simp at h1;have hw:ap r (get t e src).fCa = true:=by simpa using h4
     have hf:0 <= (get t e src).fEa/\(get t e src).fEa < n:=by
      rcases F e src h1.1 with e1 | e1 | e1
      ·rw [e1] at h2; exact absurd rfl h2
      ·exact ⟨e1.2.2.2.1,e1.2.2.2.2⟩
      ·exact ⟨e1.2.1,e1.2.2.1⟩
     have h0:0 <= e:=by
      obtain ⟨a,b,rfl,_,_,_⟩:=has_nat h1.1;omega
     exact fine_put ok F h1.2.1 (by simpa using h3) (.inr (.inr ⟨h0,hf.1,hf.2,hw,rfl⟩)) (fun _=>⟨h1.1,h2⟩)
theorem root_len (t:T) (e s f:Int):(root t e s f).2.length = t.length:=by
 unfold root; split
 ·rfl
 ·split
  ·rfl
  ·exact put_len _ _ _ _
theorem derive_len (t:T) (e src to dst r:Int):(derive t e src to dst r).2.length = t.length:=by
 unfold derive; repeat' split
 all_goals first | rfl | exact put_len _ _ _ _
theorem revoke_len (t:T) (e s:Int):(revoke t e s).2.length = t.length:=by
 unfold revoke; split
 ·rfl
 ·exact empties_len _ _
theorem drop_len (t:T) (e s:Int):(drop t e s).2.length = t.length:=by
 unfold drop; split
 ·rfl
 ·exact empties_len _ _
end fAa
theorem put_row16 {m:List (List Int)} (h:∀ r ∈ m,r.length = 16) (i:Nat) {r:List Int} (hr:i < m.length->r.length = 16):∀ q ∈ m.set i r,q.length = 16:=by
 intro q hq;by_cases hi:i < m.length
 ·rcases mem_or_eq_of_mem_set hq with h1 | h1
  ·exact h q h1
  ·subst h1; exact hr hi
 ·rw [List.set_eq_of_length_le (by omega)] at hq; exact h q hq
theorem mput {m:List (List Int)} (h:∀ r ∈ m,r.length = 16) (f a v:Int):(Mem.put m f a v).length = m.length/\∀ r ∈ Mem.put m f a v,r.length = 16:=by
 refine ⟨by simp [Mem.put],put_row16 h _ fun hi=>?_⟩;simp [hi]; exact h _ (getElem_mem hi)
theorem mstore {m:List (List Int)} (h:∀ r ∈ m,r.length = 16) (f a v:Int):(Mem.store m f a v).2.length = m.length/\∀ r ∈ (Mem.store m f a v).2,r.length = 16:=by
 unfold Mem.store; split
 ·exact mput h f a v
 ·exact ⟨rfl,h⟩
theorem mcas {m:List (List Int)} (h:∀ r ∈ m,r.length = 16) (f a o v:Int):(Mem.cas m f a o v).2.length = m.length/\∀ r ∈ (Mem.cas m f a o v).2,r.length = 16:=by
 unfold Mem.cas; split
 ·exact mstore h f a v
 ·exact ⟨rfl,h⟩
theorem madd {m:List (List Int)} (h:∀ r ∈ m,r.length = 16) (f a v:Int):(Mem.add m f a v).2.length = m.length/\∀ r ∈ (Mem.add m f a v).2,r.length = 16:=by
 unfold Mem.add;exact mstore h f a _
theorem mzero {m:List (List Int)} (h:∀ r ∈ m,r.length = 16) (f:Int):(Mem.zero m f).2.length = m.length/\∀ r ∈ (Mem.zero m f).2,r.length = 16:=by
 unfold Mem.zero; split
 ·refine ⟨by simp,put_row16 h _ fun hi=>by simp⟩
 ·exact ⟨rfl,h⟩
theorem ok_mem {k:PK} (ok:PK.Ok k) {m:List (List Int)} (h:m.length = k.m.length/\∀ r ∈ m,r.length = 16):PK.Ok { k with m:=m } :=
 ⟨ok.sz,by rw [← ok.ml,← h.1],h.2,ok.tl,ok.tr,ok.pl,ok.pr,ok.cl,ok.tree,ok.fine⟩
theorem ok_touch {k:PK} (ok:PK.Ok k) (f:Int) (c:bv):PK.Ok (PK.touch k f c).2:=by
 unfold PK.touch;split
 ·exact ok
 ·split
  ·exact ok
  ·split
   ·exact ok_mem ok (mstore ok.mr _ _ _)
   ·split
    ·exact ok_mem ok (mcas ok.mr _ _ _ _)
    ·exact ok_mem ok (madd ok.mr _ _ _)
theorem ok_alloc {k:PK} (ok:PK.Ok k) (e s:Int):PK.Ok (PK.alloc k e s).2:=by
 unfold PK.alloc;split
 ·exact ok
 ·split
  ·exact ok
  ·rename_i h;have ht:=take_in (by simpa using h);have h1:=take_fine ok.pr;have h2:=mzero ok.mr (Pool.take k.pool).1;refine ⟨ok.sz,by rw [← ok.ml,← h2.1],h2.2,ok.tl,ok.tr,by rw [← ok.pl,← h1.1],h1.2,by rw [← ok.cl]; simp only [fAa.root_len],fAa.ok_root ok.tree _ _ _,?_⟩;exact fAa.fine_rootc ok.tree ok.fine _ _ (by rw [← ok.pl]; exact ht.2) ht.1
theorem ok_derive {k:PK} (ok:PK.Ok k) (e src to dst r:Int):PK.Ok (PK.derive k e src to dst r).2:=by
 have o1:=fAa.ok_derive ok.tree e src to dst r;have f1:=fAa.fine_derive ok.tree ok.fine e src to dst r;unfold PK.derive;split
 ·exact ok
 ·split
  ·exact ⟨ok.sz,ok.ml,ok.mr,ok.tl,ok.tr,ok.pl,ok.pr,by rw [← ok.cl]; simp only [fAa.drop_len,fAa.derive_len],fAa.ok_drop o1 _ _,fAa.fine_drop o1 f1 _ _⟩
  ·have h1:=hold_fine ok.pr (fAa.at_ (fAa.derive k.caps e src to dst r).2 to dst).1.fEa;exact ⟨ok.sz,ok.ml,ok.mr,ok.tl,ok.tr,by rw [← ok.pl,← h1.1],h1.2,by rw [← ok.cl]; simp only [fAa.derive_len],o1,f1⟩
theorem ok_gone:∀ (l:List ba) {k:PK} (_:PK.Ok k) (f:Int),PK.Ok (PK.gone k f l)
 | [],_,ok,_=>ok
 | p::l,k,ok,f=>by
  have h1:=lets_fine ok.pr f;have h2:=ok_tabs ok p.fBa (ps:=PK.unmap (PK.tab k p.fBa) p.fDa) (fun h=>tab_unmaps _ (tab_ok ok _ h));have h3:PK.Ok { k with tabs:=k.tabs.set p.fBa.toNat (PK.unmap (PK.tab k p.fBa) p.fDa),pool:=(Pool.lets k.pool f).2.2 } :=
   ⟨h2.sz,h2.ml,h2.mr,h2.tl,h2.tr,by rw [← ok.pl]; exact congrArg Int.ofNat h1.1,h1.2,h2.cl,h2.tree,h2.fine⟩
  exact ok_gone l h3 f
theorem ok_caps {k:PK} (ok:PK.Ok k) {t:fAa.T} (h:t.length = k.caps.length) (o:fAa.Ok t) (f:dw k.s.fUa t):PK.Ok { k with caps:=t } :=
 ⟨ok.sz,ok.ml,ok.mr,ok.tl,ok.tr,ok.pl,ok.pr,by rw [← ok.cl,← h],o,f⟩
theorem ok_revoke {k:PK} (ok:PK.Ok k) (e s:Int) (w:Bool):PK.Ok (PK.revoke k e s w).2:=by
 have o1:=fAa.ok_revoke ok.tree e s;have f1:=fAa.fine_revoke ok.tree ok.fine e s;unfold PK.revoke;split
 ·exact ok
 ·split
  ·exact ok_gone _ (ok_caps ok (by rw [fAa.drop_len,fAa.revoke_len]) (fAa.ok_drop o1 _ _) (fAa.fine_drop o1 f1 _ _)) _
  ·exact ok_gone _ (ok_caps ok (by rw [fAa.revoke_len]) o1 f1) _
theorem ok_maps {k:PK} (ok:PK.Ok k) (e pg s r:Int):PK.Ok (PK.maps k e pg s r).2:=by
 unfold PK.maps
 repeat' split
 all_goals first | exact ok | exact ok_tabs ok e fun h=>tab_insert (tab_ok ok _ h) _ _
theorem ok_protect {k:PK} (ok:PK.Ok k) (e pg r:Int):PK.Ok (PK.protect k e pg r).2:=by
 unfold PK.protect
 repeat' split
 all_goals first | exact ok | exact ok_tabs ok e fun h=>tab_protect (tab_ok ok _ h) _ _
theorem ok_remove {k:PK} (ok:PK.Ok k) (e pg:Int):PK.Ok (PK.remove k e pg).2:=ok_tabs ok e fun h=>tab_remove (tab_ok ok _ h) _
theorem ok_user {k:PK} (ok:PK.Ok k) (e:Int) (c:bv):PK.Ok (PK.user k e c).2:=by
 unfold PK.user;split
 ·exact ok
 ·exact ok_touch ok _ _
theorem ok_does {k:PK} (ok:PK.Ok k) (e:Int) (c:bv):PK.Ok (PK.does k e c).2:=by
 unfold PK.does PK.errs
 repeat' split
 all_goals first | exact ok | exact ok_alloc ok _ _ | exact ok_derive ok _ _ _ _ _ | exact ok_revoke ok _ _ _ | exact ok_maps ok _ _ _ _ | exact ok_remove ok _ _ | exact ok_protect ok _ _ _ | exact ok_user ok _ _
theorem ok_do {k:PK} (ok:PK.Ok k) (e:Int) (c:bv):PK.Ok (PK.do_ k e c).2:=by
 unfold PK.do_;split
 ·exact ok
 ·split
  ·exact ok
  ·exact ok_does ok e c
end
section
open Go Mb
namespace fAa
theorem under_put {t:T} (ok:Ok t) {e s:Int} (h:has t e s = true) (h0:(get t e s).fCa = 0) {c:Cap} (hc:0 <= c.fBa->has t c.fBa c.fDa = true/\(get t c.fBa c.fDa).fCa ≠ 0) (p:ba) :
  ∀ (n:Nat) (a b:Int),deep 40 t (get t a b) <= n->has t a b = true->(get t a b).fCa ≠ 0->under (put t e s c) (get t a b) p = under t (get t a b) p:=by
 have ok':=ok_put ok h h0 c hc;intro n
 induction n with
 | zero =>
  intro a b hd hab hne;have hk:get (put t e s c) a b = get t a b:=by rw [get_put ok.row h hab,if_neg]; rintro ⟨rfl,rfl⟩; exact hne h0
  have s1:=under_step ok' (by rw [put_has]; exact hab) (e:=a) (s:=b) p;rw [hk] at s1;rw [s1,under_step ok hab];by_cases hen:(get t a b).fCa ≠ 0/\0 <= (get t a b).fBa
  ·have:=deep_step ok hab hen; omega
  ·rw [if_neg hen,if_neg hen]
 | succ n ih =>
  intro a b hd hab hne;have hk:get (put t e s c) a b = get t a b:=by rw [get_put ok.row h hab,if_neg]; rintro ⟨rfl,rfl⟩; exact hne h0
  have s1:=under_step ok' (by rw [put_has]; exact hab) (e:=a) (s:=b) p;rw [hk] at s1;rw [s1,under_step ok hab];by_cases hen:(get t a b).fCa ≠ 0/\0 <= (get t a b).fBa
  ·have hd2:=deep_step ok hab hen;obtain ⟨p1,p2⟩:=parent_has ok hab hen.1 hen.2;have hkp:get (put t e s c) (get t a b).fBa (get t a b).fDa = get t (get t a b).fBa (get t a b).fDa:=by
    rw [get_put ok.row h p1,if_neg]; rintro ⟨e1,e2⟩; rw [e1,e2] at p2; exact p2 h0
   rw [if_pos hen,if_pos hen,hkp,ih _ _ (by omega) p1 p2]
  ·rw [if_neg hen,if_neg hen]
theorem under_empties {t:T} (ok:Ok t) {l:List ba} (hl:∀ p ∈ l,has t p.fBa p.fDa = true)
  (cl:∀ e s,has t e s = true->(get t e s).fCa ≠ 0->0 <= (get t e s).fBa->(⟨(get t e s).fBa,(get t e s).fDa⟩:ba) ∈ l->(⟨e,s⟩:ba) ∈ l) (p:ba) :
  ∀ (n:Nat) (a b:Int),deep 40 t (get t a b) <= n->has t a b = true->(get t a b).fCa ≠ 0->(⟨a,b⟩:ba) ∉ l->under (fSa t l) (get t a b) p = under t (get t a b) p:=by
 have ok':=ok_empties ok hl cl;have hkeep:∀ a b,has t a b = true->(⟨a,b⟩:ba) ∉ l->get (fSa t l) a b = get t a b:=fun a b hab hm=>by
  rw [empties_get l t ok.row hl a b hab,if_neg hm]
 intro n
 induction n with
 | zero =>
  intro a b hd hab hne hm;have s1:=under_step ok' (by rw [empties_has]; exact hab) (e:=a) (s:=b) p;rw [hkeep a b hab hm] at s1;rw [s1,under_step ok hab];by_cases hen:(get t a b).fCa ≠ 0/\0 <= (get t a b).fBa
  ·have:=deep_step ok hab hen; omega
  ·rw [if_neg hen,if_neg hen]
 | succ n ih =>
  intro a b hd hab hne hm;have s1:=under_step ok' (by rw [empties_has]; exact hab) (e:=a) (s:=b) p;rw [hkeep a b hab hm] at s1;rw [s1,under_step ok hab];by_cases hen:(get t a b).fCa ≠ 0/\0 <= (get t a b).fBa
  ·have hd2:=deep_step ok hab hen;obtain ⟨p1,p2⟩:=parent_has ok hab hen.1 hen.2;have hpm:(⟨(get t a b).fBa,(get t a b).fDa⟩:ba) ∉ l:=fun h=>hm (cl a b hab hen.1 hen.2 h);rw [if_pos hen,if_pos hen,hkeep _ _ p1 hpm,ih _ _ (by omega) p1 p2 hpm]
  ·rw [if_neg hen,if_neg hen]
theorem under_self {t:T} (ok:Ok t):∀ (n:Nat) (a b:Int),deep 40 t (get t a b) <= n->has t a b = true->∀ p:ba,under t (get t a b) p = true->has t p.fBa p.fDa = true->deep 40 t (get t p.fBa p.fDa) < deep 40 t (get t a b):=by
 intro n
 induction n with
 | zero =>
  intro a b hd hab p hu hp;rw [under_step ok hab] at hu;by_cases hen:(get t a b).fCa ≠ 0/\0 <= (get t a b).fBa
  ·have:=deep_step ok hab hen; omega
  ·rw [if_neg hen] at hu; cases hu
 | succ n ih =>
  intro a b hd hab p hu hp;rw [under_step ok hab] at hu;by_cases hen:(get t a b).fCa ≠ 0/\0 <= (get t a b).fBa
  ·have hd2:=deep_step ok hab hen;rw [if_pos hen] at hu;by_cases he:(get t a b).fBa = p.fBa/\(get t a b).fDa = p.fDa
   ·rw [← he.1,← he.2]; exact hd2
   ·rw [if_neg he] at hu;obtain ⟨p1,p2⟩:=parent_has ok hab hen.1 hen.2;have:=ih _ _ (by omega) p1 p hu hp;omega
  ·rw [if_neg hen] at hu; cases hu
theorem not_under_self {t:T} (ok:Ok t) {a b:Int} (h:has t a b = true):under t (get t a b) ⟨a,b⟩ = false:=by
 cases hu:under t (get t a b) ⟨a,b⟩ with
 | false=>rfl
 | true=>exact absurd (under_self ok _ a b (Nat.le_refl _) h ⟨a,b⟩ hu h) (Nat.lt_irrefl _)
theorem under_frame {n:Int} {t:T} (ok:Ok t) (F:dw n t):∀ (m:Nat) (a b:Int),deep 40 t (get t a b) <= m->has t a b = true->∀ p:ba,under t (get t a b) p = true->(get t a b).fEa = (get t p.fBa p.fDa).fEa:=by
 intro m
 induction m with
 | zero =>
  intro a b hd hab p hu;rw [under_step ok hab] at hu;by_cases hen:(get t a b).fCa ≠ 0/\0 <= (get t a b).fBa
  ·have:=deep_step ok hab hen; omega
  ·rw [if_neg hen] at hu; cases hu
 | succ m ih =>
  intro a b hd hab p hu;rw [under_step ok hab] at hu;by_cases hen:(get t a b).fCa ≠ 0/\0 <= (get t a b).fBa
  ·have hd2:=deep_step ok hab hen;obtain ⟨p1,p2⟩:=parent_has ok hab hen.1 hen.2;have hfr:(get t (get t a b).fBa (get t a b).fDa).fEa = (get t a b).fEa:=by
    rcases F a b hab with e1 | e1 | e1
    ·rw [e1] at hen; exact absurd rfl hen.1
    ·have:=hen.2; omega
    ·exact e1.2.2.2.2
   rw [if_pos hen] at hu;by_cases he:(get t a b).fBa = p.fBa/\(get t a b).fDa = p.fDa
   ·rw [← he.1,← he.2,hfr]
   ·rw [if_neg he] at hu;rw [← hfr];exact ih _ _ (by omega) p1 p hu
  ·rw [if_neg hen] at hu; cases hu
def isF (f:Int) (c:Cap):Bool:=decide (c.fCa ≠ 0) && decide (c.fEa = f)
def cnt (f:Int):T->Nat
 | []=>0
 | r::t=>r.countP (isF f) + cnt f t
def b2n (b:Bool):Nat:=if b then 1 else 0
theorem countP_set {α:Type} (P:α->Bool):∀ (l:List α) (i:Nat) (a:α) (h:i < l.length),(l.set i a).countP P + b2n (P l[i]) = l.countP P + b2n (P a)
 | [],i,_,h=>by simp at h
 | x::l,0,a,_=>by simp [b2n,countP_cons]; omega
 | x::l,i + 1,a,h=>by
  have:=countP_set P l i a (by simpa using h);simp only [set_cons_succ,countP_cons,List.getElem_cons_succ];omega
theorem cnt_set (f:Int):∀ (t:T) (i:Nat) (r:List Cap) (h:i < t.length),cnt f (t.set i r) + t[i].countP (isF f) = cnt f t + r.countP (isF f)
 | [],i,_,h=>by simp at h
 | x::t,0,r,_=>by simp [cnt]; omega
 | x::t,i + 1,r,h=>by
  have:=cnt_set f t i r (by simpa using h);simp only [set_cons_succ,cnt,List.getElem_cons_succ];omega
theorem cnt_put (f:Int) {t:T} (row:∀ r ∈ t,r.length = 8) {e s:Int} (h:has t e s = true) (c:Cap):cnt f (put t e s c) + b2n (isF f (get t e s)) = cnt f t + b2n (isF f c):=by
 obtain ⟨m,n,rfl,rfl,hm,hn⟩:=has_nat h;obtain ⟨h3,hg⟩:=get_nat' row hm hn;rw [put_nat hm,hg];have h1:=cnt_set f t m (t[m].set n c) hm;have h2:=countP_set (isF f) t[m] n c h3;omega
theorem cnt_empties (f:Int):∀ (l:List ba) {t:T},(∀ r ∈ t,r.length = 8)->l.Nodup->(∀ p ∈ l,has t p.fBa p.fDa = true/\(get t p.fBa p.fDa).fCa ≠ 0) ->
  cnt f (fSa t l) + (l.countP fun p=>decide ((get t p.fBa p.fDa).fEa = f)) = cnt f t
 | [],_,_,_,_=>by simp [fSa]
 | p::l,t,row,nd,hl=>by
  obtain ⟨nd1,nd2⟩:=List.nodup_cons.1 nd;obtain ⟨hp1,hp2⟩:=hl p (by simp);have row':=put_row row p.fBa p.fDa jd;have hk:∀ q ∈ l,get (put t p.fBa p.fDa jd) q.fBa q.fDa = get t q.fBa q.fDa:=fun q hq=>by
   rw [get_put row hp1 (hl q (by simp [hq])).1,if_neg];rintro ⟨e1,e2⟩;apply nd1;have:q = p:=by cases p; cases q; simp_all
   exact this ▸ hq
  have ih:=cnt_empties f l row' nd2 (fun q hq=>by rw [put_has,hk q hq]; exact hl q (by simp [hq]));have h1:=cnt_put f row hp1 jd;have h0:b2n (isF f jd) = 0:=rfl;have h2:b2n (isF f (get t p.fBa p.fDa)) = if (get t p.fBa p.fDa).fEa = f then 1 else 0:=by
   unfold b2n isF;by_cases hf:(get t p.fBa p.fDa).fEa = f <;> simp [hp2,hf]
  have h3:(l.countP fun q=>decide ((get (put t p.fBa p.fDa jd) q.fBa q.fDa).fEa = f)) = l.countP fun q=>decide ((get t q.fBa q.fDa).fEa = f):=by
   refine List.countP_congr fun q hq=>?_;rw [hk q hq]
  rw [h3] at ih;rw [fSa,countP_cons];simp only [decide_eq_true_eq];omega
theorem cnt_pos {f:Int} {t:T} (row:∀ r ∈ t,r.length = 8) {e s:Int} (h:has t e s = true) (hr:(get t e s).fCa ≠ 0) (hf:(get t e s).fEa = f):0 < cnt f t:=by
 have:=cnt_put f row h jd;have h0:b2n (isF f jd) = 0:=rfl;have h1:b2n (isF f (get t e s)) = 1:=by unfold b2n isF; simp [hr,hf]
 omega
theorem cnt_new (f:Int) (n:Nat):cnt f (replicate n (replicate 8 jd)) = 0:=by
 induction n with
 | zero=>rfl
 | succ n ih=>rw [List.replicate_succ,cnt,ih]; rfl
theorem rowOf_nodup (P:Int->Int->Cap->Bool) (e:Int):∀ (cs:List Cap) (s:Int),(rowOf P e cs s).Nodup
 | [],_=>.nil
 | c::cs,s=>by
  rw [rowOf_c];split
  ·refine List.nodup_cons.2 ⟨fun h=>?_,rowOf_nodup P e cs (s + 1)⟩;obtain ⟨_,n,_,_,h2,_⟩:=mem_rowOf.1 h;simp only at h2;omega
  ·exact rowOf_nodup P e cs (s + 1)
theorem uW (P:Int->Int->Cap->Bool):∀ (t:T) (e:Int),(allOf P t e).Nodup
 | [],_=>.nil
 | r::t,e=>by
  rw [allOf,List.nodup_append];refine ⟨rowOf_nodup P e r 0,uW P t (e + 1),fun a ha b hb hab=>?_⟩;subst hab;obtain ⟨h1,_⟩:=mem_rowOf.1 ha;obtain ⟨m,n,r',c,_,_,h2,_⟩:=mem_allOf.1 hb;rw [h2] at h1;simp only at h1;omega
end fAa
end
end Go.Proofs.YtjcamacgclipiaaGreatDoor
