/- The law ShootUnmap returns true for every input, and leaves its arguments as they were. -/
import Derived.Test.YtemoifebbhoinaaGreatDoorShootUnmap16
import Derived.Test.YtemoifebbhoinaaGreatDoorCards
import Derived.Test.YtemoifebbhoinaaGreatDoorRows
import Derived.Test.YtemoifebbhoinaaGreatDoorTie
set_option linter.all false
set_option maxRecDepth 20000
namespace Go.Proofs.YtemoifebbhoinaaGreatDoor
open Go.Proofs.Tryz
open Go.IntKind (i64 u64)
open _root_.Array (ext')
open _root_.Bool (and_eq_true)
open _root_.List (all_eq_true drop_drop getElem?_eq_getElem length_append mem_range range take_append_drop)
open _root_.Nat (le_refl succ_mul zero_le)
open _root_.Option (bind_eq_some_iff)
section
open Go Mb
abbrev Pick:=dY
abbrev vK (s:Sl) (xs:List Pick):As:=vec t_api_Pick 10 dY.C s xs
theorem pick_len (p:Pick):p.C.length = 10:=rfl
theorem pick_one (p:Pick):dL p.C = true:=rfl
namespace Fair
def longFrom (kind core:Int):List Pick->Int->Int->Int
 | [],best,_=>best
 | p::ps,best,now=>if p.fKind = kind/\p.fQa = core then longFrom kind core ps (mx best 0) 0 else longFrom kind core ps (mx best (i64.wrap (now + 1))) (i64.wrap (now + 1))
def longest (ps:List Pick) (kind core:Int):Int:=longFrom kind core ps 0 0
def okCore (ps:List Pick) (b:Int) (c:Nat):Bool:=decide (longest ps 2 c < b) && decide (longest ps 3 c < b)
def fair (ps:List Pick) (cores b:Int):Bool:=(range cores.toNat).all (okCore ps b)
def pk (kind:Int) (c:Nat):Pick:=⟨kind,c,0,⟨0,0,0,0,0⟩,0,0⟩
def line (kind:Int) (c:Nat):List Pick:=(range c).map (pk kind)
def lines (c:Nat) (kinds:List Int):List Pick:=kinds.flatMap fun k=>line k c
def turns (c n:Nat):List Pick:=(range n).flatMap fun _=>lines c [3,2]
def rounds (cores n:Int):List Pick:=if cores < 1\/cores > 8\/n < 0\/n > 500 then [] else turns cores.toNat n.toNat
theorem line_len (kind:Int) (c:Nat):(line kind c).length = c:=by simp [line]
theorem line_succ (kind:Int) (c:Nat):line kind (c + 1) = line kind c++[pk kind c]:=by simp [line,List.range_succ]
theorem turns_succ (c n:Nat):turns c (n + 1) = turns c n++lines c [3,2]:=by simp [turns,List.range_succ]
theorem lines_len (c:Nat):∀ (ks:List Int),(lines c ks).length = ks.length * c
 | []=>by simp [lines]
 | k::ks=>by
  have:=lines_len c ks;simp only [lines,List.flatMap_cons,length_append,line_len,List.length_cons,succ_mul] at this ⊢;omega
theorem turns_len (c n:Nat):(turns c n).length = n * (2 * c):=by
 induction n with
 | zero=>simp [turns]
 | succ n ih=>rw [turns_succ,length_append,ih,lines_len,Nat.add_mul n 1,Nat.one_mul]; rfl
end Fair
theorem sp_fair_Longest (s:Sl) (ps:List Pick) (kind core:Int) (hb:ps.length < 2 ^ 40):Sp prog pM [sv s,.int .i64 kind,.int .i64 core] eB [vK s ps] (fun r=>pa_ (r = Fair.longest ps kind core) [vK s ps]):=by
 intro h s0;have hl:=(cf (j:=0) s0 rfl).1;refine sim_fair_Longest _ _ _ ?_;unfold sh_fair_Longest;refine Lp.intro (fun (z:Int × Int × Int) h=>∃ n:Nat,z.2.2 = n/\n <= ps.length/\Fair.longFrom kind core (ps.drop n) z.1 z.2.1 = Fair.longest ps kind core/\az [vK s ps] h) (fun (z:Int × Int × Int) _=>ps.length - z.2.2.toNat) ⟨0,rfl,zero_le _,rfl,s0⟩ ?_;rintro ⟨best,now,i⟩ h ⟨n,rfl,hn,he,s1⟩;unfold rY;simp only at he ⊢;refine aX (fun k=>?_) (fun k=>?_)
 ·have hlt:n < ps.length:=by rw [hl] at k; simpa using k
  have hw:i64.wrap ((n:Int) + 1) = ((n + 1:Nat):Int):=by rw [bk (by omega) (by omega)]; rfl
  rw [List.drop_eq_getElem_cons hlt,Fair.longFrom] at he;refine de s1 (j:=0) rfl (by omega) (by omega) fun q hq=>?_;refine dA (j:=0) (i:=n) (k:=0) ps[n] pick_len s1 rfl hq rfl (aC hlt) (by simp) ?_;rw [hw];refine aX (fun k2=>?_) (fun k2=>?_)
  ·have k2':ps[n].fKind = kind/\ps[n].fQa = core:=by simpa using k2
   rw [if_pos k2'] at he;exact ⟨⟨n + 1,rfl,hlt,he,s1⟩,by simp; omega⟩
  ·have k2':¬ (ps[n].fKind = kind/\ps[n].fQa = core):=by simpa using k2
   rw [if_neg k2'] at he;exact ⟨⟨n + 1,rfl,hlt,he,s1⟩,by simp; omega⟩
 ·have:n = ps.length:=by rw [hl] at k; simp at k; omega
  subst this;rw [List.drop_length] at he;exact aY he s1
theorem sp_fair_Fair (s:Sl) (ps:List Pick) (cores b:Int) (hb:ps.length < 2 ^ 40) (hc:cores < 2 ^ 62):Sp prog n_fair_Fair [sv s,.int .i64 cores,.int .i64 b] aB [vK s ps] (fun r=>pa_ (r = Fair.fair ps cores b) [vK s ps]):=by
 intro h s0;refine sim_fair_Fair _ _ _ ?_;unfold sh_fair_Fair;refine Lp.intro (fun (i:Int) h=>∃ n:Nat,i = n/\n <= cores.toNat/\(∀ c,c < n->Fair.okCore ps b c = true)/\az [vK s ps] h) (fun (i:Int) _=>cores.toNat - i.toNat) ⟨0,rfl,zero_le _,fun c hc=>by omega,s0⟩ ?_;rintro i h ⟨n,rfl,hn,ho,s1⟩;unfold yi;refine aX (fun k=>?_) (fun k=>?_)
 ·have hlt:n < cores.toNat:=by have:=of_decide_eq_true k; omega
  have hw:i64.wrap ((n:Int) + 1) = ((n + 1:Nat):Int):=by rw [bk (by omega) (by omega)]; rfl
  have no:Fair.okCore ps b n = false->Fair.fair ps cores b = false:=fun hf=>by
   unfold Fair.fair;cases ha:(range cores.toNat).all (Fair.okCore ps b) with
   | false=>rfl
   | true=>rw [all_eq_true.1 ha n (mem_range.2 hlt)] at hf; cases hf
  refine bN (sp_fair_Longest s ps 2 n hb) (i:=0) rfl s1 fun r h2 hr s2=>?_;subst hr;refine aX (fun k2=>?_) (fun k2=>?_)
  ·have k2':Fair.longest ps 2 n < b:=by simpa using k2
   refine bN (sp_fair_Longest s ps 3 n hb) (i:=0) rfl s2 fun r h3 hr s3=>?_;subst hr;refine aX (fun k3=>?_) (fun k3=>?_)
   ·have k3':¬ Fair.longest ps 3 n < b:=by simp at k3; omega
    exact aY (no (by simp [Fair.okCore,k3'])).symm s3
   ·have k3':Fair.longest ps 3 n < b:=by simp at k3; omega
    rw [hw];refine ⟨⟨n + 1,rfl,hlt,fun c hc=>?_,s3⟩,by simp; omega⟩;by_cases e:c = n
    ·subst e; simp [Fair.okCore,k2',k3']
    ·exact ho c (by omega)
  ·have k2':¬ Fair.longest ps 2 n < b:=by simp at k2; omega
   exact aY (no (by simp [Fair.okCore,k2'])).symm s2
 ·have:n = cores.toNat:=by have:=of_decide_eq_false k; omega
  subst this;refine aY ?_ s1;unfold Fair.fair;exact (all_eq_true.2 fun c hc=>ho c (mem_range.1 hc)).symm
theorem sp_fair_Rounds (cores n:Int):Sp prog vZ [.int .i64 cores,.int .i64 n] oW [] (fun r=>az [vK r (Fair.rounds cores n)]):=by
 intro h s0;refine sim_fair_Rounds _ _ ?_;unfold sh_fair_Rounds;refine aX (fun k=>?_) (fun k=>?_)
 ·have e1:Fair.rounds cores n = []:=if_pos (by simpa [or_assoc] using k);rw [e1]; exact fJ s0
 ·have k':¬ (cores < 1\/cores > 8\/n < 0\/n > 500):=by simp at k; omega
  have e1:Fair.rounds cores n = Fair.turns cores.toNat n.toNat:=if_neg k';rw [e1];obtain ⟨C,rfl⟩:=Int.eq_ofNat_of_zero_le (show 0 <= cores by omega);obtain ⟨N,rfl⟩:=Int.eq_ofNat_of_zero_le (show 0 <= n by omega);simp only [Int.toNat_natCast];refine fe (τ:=Pick) [] (val:=fun x=>.agg x.C.toArray) (enc:=dY.C) el_Sapi_Pick pick_len (fun _=>rfl) s0 rfl rfl (by simp) fun v h1 s1=>?_;refine Lp.intro (fun (z:Sl × Int) h=>∃ j:Nat,z.2 = j/\j <= N/\az [vK z.1 (Fair.turns C j)] h) (fun (z:Sl × Int) _=>N - z.2.toNat) ⟨0,rfl,zero_le _,s1⟩ ?_;rintro ⟨z,i⟩ h ⟨j,rfl,hj,s2⟩;unfold uj;refine aX (fun k2=>?_) (fun k2=>?_)
  ·have hlt:j < N:=by have:=of_decide_eq_true k2; simp at this; exact this
   have hw:i64.wrap ((j:Int) + 1) = ((j + 1:Nat):Int):=by rw [bk (by omega) (by omega)]; rfl
   have htl:=Fair.turns_len C j;have hC:C <= 8:=by omega
   have hjb:j * (2 * C) <= 500 * 16:=Nat.mul_le_mul (by omega) (by omega);refine fe (τ:=Int) [3,2] (val:=fun x=>.int .i64 x) (enc:=cI .i64) el_Sint (cn _) (fun _=>rfl) s2 rfl rfl (by decide) fun vk h3 s3=>?_;have hvl:=(cf (j:=0) s3 rfl).1;refine Lp.intro (fun (y:Sl × Int) h=>∃ m:Nat,y.2 = m/\m <= 2/\az [vK y.1 (Fair.turns C j++Fair.lines C (([3,2]:List Int).take m)),vec lG 1 (cI .i64) vk [3,2]] h) (fun (y:Sl × Int) _=>2 - y.2.toNat) ⟨0,rfl,zero_le _,by
    have s4:=bb (m:=[vK z (Fair.turns C j),vec lG 1 (cI .i64) vk [3,2]]) [1] s3 rfl;simpa [Fair.lines] using s4⟩ ?_
   rintro ⟨y,i2⟩ h ⟨m,rfl,hm,s4⟩;unfold ui;refine aX (fun k3=>?_) (fun k3=>?_)
   ·have hlt2:m < 2:=by rw [hvl] at k3; have:=of_decide_eq_true k3; simp at this; omega
    have hw2:i64.wrap ((m:Int) + 1) = ((m + 1:Nat):Int):=by rw [bk (by omega) (by omega)]; rfl
    have hkl:m < ([3,2]:List Int).length:=hlt2;refine de s4 (j:=1) rfl (by omega) (by simp; omega) fun q hq=>?_;refine dA (j:=1) (i:=m) (k:=0) ([3,2]:List Int)[m] (cn _) s4 rfl hq (by simp) (aC hkl) (by simp) ?_;have hll:=Fair.lines_len C (([3,2]:List Int).take m);have hlb:(([3,2]:List Int).take m).length * C <= 2 * 8:=Nat.mul_le_mul (by simp; omega) (by omega);refine Lp.intro (fun (x:Sl × Int) h=>∃ p:Nat,x.2 = p/\p <= C/\az [vK x.1 (Fair.turns C j++Fair.lines C (([3,2]:List Int).take m)++Fair.line ([3,2]:List Int)[m] p),vec lG 1 (cI .i64) vk [3,2]] h) (fun (x:Sl × Int) _=>C - x.2.toNat) ⟨0,rfl,zero_le _,by simpa [Fair.line] using s4⟩ ?_;rintro ⟨x,i3⟩ h ⟨p,rfl,hp,s5⟩;have hpl:=Fair.line_len ([3,2]:List Int)[m] p;unfold uh;refine aX (fun k4=>?_) (fun k4=>?_)
    ·have hlt3:p < C:=by have:=of_decide_eq_true k4; simp at this; exact this
     have hw3:i64.wrap ((p:Int) + 1) = ((p + 1:Nat):Int):=by rw [bk (by omega) (by omega)]; rfl
     refine lj (τ:=Pick) (i:=0) (enc:=dY.C) (val:=fun x=>.agg x.C.toArray) (x:=Fair.pk ([3,2]:List Int)[m] p) el_Sapi_Pick pick_len pick_one (fun _=>rfl) (by omega) rfl rfl s5 rfl (by simp only [length_append]; omega) (by simp only [length_append]; omega) fun v h6 s6=>?_;rw [hw3];refine ⟨⟨p + 1,rfl,hlt3,?_⟩,by simp; omega⟩;rw [Fair.line_succ,← List.append_assoc];exact s6
    ·have:p = C:=by have:=of_decide_eq_false k4; simp at this; omega
     subst this;rw [hw2];refine ⟨⟨m + 1,rfl,hlt2,?_⟩,by simp; omega⟩;have et:([3,2]:List Int).take (m + 1) = ([3,2]:List Int).take m++[([3,2]:List Int)[m]]:=by rw [List.take_add_one,aC hkl]; rfl
     have el:Fair.lines p (([3,2]:List Int).take (m + 1)) = Fair.lines p (([3,2]:List Int).take m)++Fair.line ([3,2]:List Int)[m] p:=by
      rw [et]; unfold Fair.lines; rw [List.flatMap_append]; simp
     rw [el,← List.append_assoc];exact s5
   ·have:m = 2:=by rw [hvl] at k3; have:=of_decide_eq_false k3; simp at this; omega
    subst this;rw [hw];refine ⟨⟨j + 1,rfl,hlt,?_⟩,by simp; omega⟩;rw [Fair.turns_succ];exact mC (l:=[vK y (Fair.turns C j++Fair.lines C [3,2])]) s4
  ·have:j = N:=by have:=of_decide_eq_false k2; simp at this; omega
   subst this;exact s2
end
section
open Go Mb
def xn (a0:Sl) (a1:Int) (K:kT Sl) (Rec2:kT (Sl × Int)) (s1:Sl × Int):hT:=br (decide (s1.2 < (a0.len:Int))) ( ix a0 s1.2 fun q12=>ld (q12.1,q12.2 + Int.toNat s1.2 * 16) aE.C fun x13=>br ((x13.fCa == a1) && (decide (x13.fXa > 0))) ( hpv prog (Instr.buildSlice nE 1 #[(0,(.agg (ab.C x13.fZa).toArray))]) nP fun (v26:Sl)=>hpv prog (Builtin.append_ #[nE,nE] nE #[(sv s1.1),(sv v26)]) nP fun (v27:Sl)=>Rec2 (v27,(i64.wrap (s1.2 + 1)))) ( Rec2 (s1.1,(i64.wrap (s1.2 + 1))))) ( K s1.1)
def sh_twin_View (a0:Sl) (a1:Int) (K:kT Sl):hT:=Lp (xn a0 a1 K) ((⟨none,0,0,none⟩:Sl),0)
theorem sim_twin_View (a0:Sl) (a1:Int) {K:kT Sl} {h:Hp} (H:sh_twin_View a0 a1 K h):cl prog n_twin_View [(sv a0),(.int .i64 a1)] nP K h:=z_i func52 p p fun _=>O<|U p<|O<|U p<|al<|O<|M p<|J (dH p underlying42 p)<|M p<|ad<|aw<|bv (step:=xn a0 a1 K) (fun s1=>[(1,(.int .i64 a1)),(5,(sv s1.1)),(8,(sv a0)),(9,(.int .i64 (a0.len:Int))),(10,(.int .i64 s1.2))]) (fun s1=>[]) H (.cons p<|.cons p<|.cons p<|.cons p<|.cons p<|.nil _) .slnil fun Rec2 s1 _ H3=>O<|J (ci p p)<|ad<|al<|av p H3 (fun k4 H5=>an<|al<|aw<|O<|cm H5 fun q12 e6 h7 H8=>J (bd tz (aG p<|aW e6) p h7)<|aa<|gO H8 ag_56 p (fun _=>p) p fun x13 H9=>aa<|aM (l:=aE.C (⟨0,0,(⟨0,0,0,0,0⟩:ai),0,0,0,(⟨0,0⟩:ab),(⟨0,0,0,0⟩:am)⟩:aE)) zero_56 p p fun b7=>aa<|aP (k:=0) (vs:=aE.C x13) inf_56 p p p p p p p<|ad<|O<|J (ae pS p)<|bm (bg (k:=0) aZ p p p) p<|M p<|J (bP p p)<|M p<|W p p (ax _) (fun g10=>wv<|ae rH p)<|W p p (ax _) (fun g11=>cv<|bg (k:=0) aZ (aD p g11) p p)<|W p p (ax _) (fun g12=>wv<|oY (aD p g12) p)<|J (bO p p)<|ad<|av p H9 (fun k13 H14=>ap<|M p<|J (ae la p)<|bm (bG (k:=0) cL p p p p) p<|aa<|aR H14 (bw (vs:=[(.agg (ab.C x13.fZa).toArray)]) p) p fun v26 _ H15=>aa<|aR H15 (dP p p) p fun v27 _ H16=>U p<|ap<|J (bj p p)<|M p<|ad<|cD (v27,(i64.wrap (s1.2 + 1))) H16 (.cons p<|.cons p<|.cons p<|.cons p<|.cons p<|.nil _)<|.cons _ .slnil) fun k13 H14=>an<|ap<|J (bj p p)<|M p<|ad<|cD (s1.1,(i64.wrap (s1.2 + 1))) H14 (.cons p<|.cons p<|.cons p<|.cons p<|.cons p<|.nil _)<|.cons _ .slnil) fun k4 H5=>bf<|O<|M p<|U p<|aj<|Z ⟨s1.1,p,H5⟩
end
section
open Go Mb
abbrev vA (s:Sl) (xs:List eO):As:=vec t_api_Answer 2 ab.C s xs
theorem ans_len (p:eO):p.C.length = 2:=rfl
theorem ans_one (p:eO):dL p.C = true:=rfl
namespace Twin
def view (env:Int):List bt->List eO
 | []=>[]
 | e::es=>if e.fCa = env/\e.fXa > 0 then e.fZa::view env es else view env es
def same:List eO->List eO->Bool
 | [],[]=>true
 | a::l,b::r=>ab.eqb a b && same l r
 | _,_=>false
theorem view_app (env:Int) (e:bt):∀ es,view env (es++[e]) = view env es++(if e.fCa = env/\e.fXa > 0 then [e.fZa] else [])
 | []=>by simp only [List.nil_append,view]
 | d::es=>by
  simp only [List.cons_append,view,view_app env e es];split <;> simp
theorem view_len (env:Int):∀ es,(view env es).length <= es.length
 | []=>le_refl _
 | e::es=>by unfold view; have:=view_len env es; split <;> simp <;> omega
end Twin
theorem sp_twin_View (s:Sl) (es:List bt) (env:Int) (hb:es.length < 2 ^ 38):Sp prog n_twin_View [sv s,.int .i64 env] nP [vE s es] (fun r=>az [vA r (Twin.view env es),vE s es]):=by
 intro h s0;have hl:=(cf (j:=0) s0 rfl).1;refine sim_twin_View _ _ ?_;unfold sh_twin_View;refine Lp.intro (fun (z:Sl × Int) h=>∃ n:Nat,z.2 = n/\n <= es.length/\az [vA z.1 (Twin.view env (es.take n)),vE s es] h) (fun (z:Sl × Int) _=>es.length - z.2.toNat) ⟨0,rfl,zero_le _,fJ s0⟩ ?_;rintro ⟨z,i⟩ h ⟨n,rfl,hn,s1⟩;unfold xn;refine aX (fun k=>?_) (fun k=>?_)
 ·have hlt:n < es.length:=by rw [hl] at k; simpa using k
  have hw:i64.wrap ((n:Int) + 1) = ((n + 1:Nat):Int):=by rw [bk (by omega) (by omega)]; rfl
  have ht:es.take (n + 1) = es.take n++[es[n]]:=by simp
  refine de s1 (j:=1) rfl (by omega) (by show (n:Int) < _; omega) fun q hq=>?_;refine dA (j:=1) (i:=n) (k:=0) es[n] mt s1 rfl hq rfl (aC hlt) (by simp) ?_;rw [hw];refine aX (fun k2=>?_) (fun k2=>?_)
  ·have k2':es[n].fCa = env/\es[n].fXa > 0:=by simpa using k2
   have hvl:=Twin.view_len env (es.take n);simp at hvl;refine lj (τ:=eO) (i:=0) (enc:=ab.C) (val:=fun x=>.agg x.C.toArray) el_Sapi_Answer ans_len ans_one (fun _=>rfl) (by omega) rfl rfl s1 rfl (by omega) (by omega) fun v h2 s2=>?_;refine ⟨⟨n + 1,rfl,hlt,?_⟩,by simp; omega⟩;rw [ht,Twin.view_app,if_pos k2'];exact s2
  ·have k2':¬ (es[n].fCa = env/\es[n].fXa > 0):=by simpa using k2
   refine ⟨⟨n + 1,rfl,hlt,?_⟩,by simp; omega⟩;rw [ht,Twin.view_app,if_neg k2',List.append_nil];exact s1
 ·have:n = es.length:=by rw [hl] at k; simp at k; omega
  subst this;rw [List.take_length] at s1;exact s1
end
section
open Go Mb
variable {ET:Nat} {EF:Nat × Nat}
theorem kern_nn {l:List As} {h:Hp} {x:Ptr} {k:KK} (s:az (cz x k::l) h):x.isNone = false:=nn_of (fun _ e=>by rw [e.1]; rfl) s
namespace B16
abbrev sz:eV:=⟨2,2,3⟩
def r1:=KK.run (KK.new ⟨2,2,3⟩) 0 0 ⟨1,1,0,0,0⟩
def r2:=KK.run r1.2 0 0 ⟨6,4,1,3,0⟩
def r3:=KK.run r2.2 1 0 ⟨21,4,2,9,0⟩
def r4:=KK.run r3.2 0 0 ⟨20,4,2,0,0⟩
def r5:=KK.run r4.2 0 0 ⟨7,4,0,0,0⟩
def es:=r5.2.events
theorem es_len:es.length = 5:=by kernel_rfl
theorem apart:Hist.may es sz = true:=by kernel_rfl
theorem now1:r1.2.now < 1000:=of_decide_eq_true (by kernel_rfl)
theorem now2:r2.2.now < 1000:=of_decide_eq_true (by kernel_rfl)
theorem now3:r3.2.now < 1000:=of_decide_eq_true (by kernel_rfl)
theorem now4:r4.2.now < 1000:=of_decide_eq_true (by kernel_rfl)
theorem now5:r5.2.now < 1000:=of_decide_eq_true (by kernel_rfl)
theorem lin:fMa.linear es sz = (-1,true):=by kernel_rfl
theorem acc:fMa.accesses es sz = (-1,true):=by kernel_rfl
theorem rgt:fMa.right es sz = true:=by kernel_rfl
end B16
theorem ord20 {es:List bt} (s:Sl) (h:es.length <= 20):Hist.Apart es->OrdOk s es:=fun ha=>sp_hist_OrderN s es (by omega) ha
theorem sp_begun16:Sp prog ly [] aB [(etB ET EF)] (fun r=>pa_ (r = true) [(etB ET EF)]):=by
 intro h st;refine ww ?_;unfold pw;refine mv (sp_kern_New ⟨2,2,3⟩ (by decide)) st fun x h1 s1=>?_;refine dx (kern_nn s1) ?_;refine bN (i:=0) (sp_Run x _ 0 0 ⟨1,1,0,0,0⟩ (by decide)) rfl s1 fun a1 h2 e1 s2=>?_;refine bN (i:=0) (sp_Run x B16.r1.2 0 0 ⟨6,4,1,3,0⟩ (by have:=B16.now1; omega)) rfl s2 fun a2 h3 e2 s3=>?_;refine bN (i:=0) (sp_Run x B16.r2.2 1 0 ⟨21,4,2,9,0⟩ (by have:=B16.now2; omega)) rfl s3 fun a3 h4 e3 s4=>?_;refine bN (i:=0) (sp_Run x B16.r3.2 0 0 ⟨20,4,2,0,0⟩ (by have:=B16.now3; omega)) rfl s4 fun a4 h5 e4 s5=>?_;refine bN (i:=0) (sp_Run x B16.r4.2 0 0 ⟨7,4,0,0,0⟩ (by have:=B16.now4; omega)) rfl s5 fun a5 h6 e5 s6=>?_;refine wh (i:=0) (tu x B16.r5.2 (by have:=B16.now5; omega)) rfl s6 fun s h7 s7=>?_;have hes:B16.es.length < 2 ^ 38:=by rw [B16.es_len]; decide
 have hes20:B16.es.length <= 20:=by rw [B16.es_len]; decide
 refine bN (i:=0) (sp_judge_Linear s B16.es B16.sz (by decide) hes (ord20 s hes20)) rfl s7 fun r1 h8 f1 s8=>?_;refine bN (i:=0) (sp_judge_Access s B16.es B16.sz (by decide) hes (ord20 s hes20)) rfl s8 fun r2 h9 f2 s9=>?_;refine mv (sp_fair_Rounds 2 3) s9 fun t h10 s10=>?_;refine bN (i:=3) sp_Begun11 rfl s10 fun r3 h11 f3 s11=>?_;have hl:((s.len:Int) == 5) = true:=by rw [(cf (j:=1) s11 rfl).1]; kernel_rfl
 have htl:((t.len:Int) == 12) = true:=by rw [(cf (j:=0) s11 rfl).1]; kernel_rfl
 have g1:a1 = B16.r1.1:=e1.1;have g2:a2 = B16.r2.1:=e2.1;have g3:a3 = B16.r3.1:=e3.1;have g4:a4 = B16.r4.1:=e4.1;have g5:a5 = B16.r5.1:=e5.1;rw [B16.lin] at f1;rw [B16.acc] at f2;rw [f1,f2,f3,g1,g2,g3,g4,g5,hl];refine eo (by kernel_rfl) ?_;refine bN (i:=1) (sp_hist_May s B16.es B16.sz hes) rfl s11 fun r4 h12 f4 s12=>?_;refine eo (f4.trans B16.apart) ?_;refine wh (i:=1) (sp_hist_Order20 s B16.es hes20 (Hist.may_apart B16.apart)) rfl s12 fun o h13 s13=>?_;have hol:((o.len:Int) == 5) = true:=by rw [(cf (j:=0) s13 rfl).1]; kernel_rfl
 refine eo (by rw [hol,htl]; rfl) ?_;refine bN (i:=1) (sp_fair_Fair t _ 2 5 (by decide) (by decide)) rfl s13 fun r5 h14 f5 s14=>?_;refine eo (f5.trans (by kernel_rfl)) ?_;refine wh (i:=2) (sp_twin_View s B16.es 0 hes) rfl s14 fun v h15 s15=>?_;have hvl:((v.len:Int) == 5) = true:=by rw [(cf (j:=0) s15 rfl).1]; kernel_rfl
 refine eo hvl ?_;refine bN (i:=3) (sp_judge_Right s B16.es B16.sz (by decide) hes (ord20 s hes20)) rfl s15 fun r6 h16 f6 s16=>?_;exact aY (f6.trans B16.rgt) (bX (l:=[_,_,_,_,_]) s16)
end
section
open Go Mb Go.ChangeShapes Go.WideShapes Go.RowKit
theorem Tryz.own:ownKnob prog.godebug = none:=by kernel_rfl
theorem Tryz.et:prog.globalNamed "errors.errorType" = some 0:=by kernel_rfl
theorem Tryz.rt:(prog.cutTypes.find? (·.1 == "internal/reflectlite.rtype")).map (·.2) = some se:=by kernel_rfl
abbrev laid:List (String × DataW Unit) := [("errors.errorType",Rows.laid_errors_errorType)]
theorem block_of_laid {W:World} (h:laidMetH prog laid W):∃ T F,W.heap[0]? = some (.cells #[rtV gH] T F):=by
 have h':laidMet prog [] W/\handlesMet prog laid W:=h;obtain ⟨name,u,ty,e1,e2,e3,e4,e5⟩:=h'.2 _ (List.mem_singleton.2 rfl);have en:name = [101,114,114,111,114]:=(Option.some.inj e1).symm;subst en;obtain rfl:=Option.some.inj (Tryz.rt.symm.trans e2);have hm:ty ∈ (range 351).filter fun t=>prog.rowNamed t [101,114,114,111,114]:=List.mem_filter.2 ⟨mem_range.2 (by rw [← g4]; exact e3),e4⟩;rw [oneErr] at hm;obtain rfl:=List.mem_singleton.1 hm;have hh:typeHandle prog 199 = .pointer (some ⟨4,199,none⟩):=by kernel_rfl
 rw [hh] at e5;unfold World.var? at e5;rw [Tryz.et] at e5;simp only [Option.bind_some] at e5;split at e5
 ·rename_i cs T F hq;cases e5;exact ⟨T,F,hq⟩
 ·cases e5
noncomputable def laidWorld (os:Os):World :=
 let w0:=World.holding prog os ⟨#[],#[],[]⟩
 { w0 with heap:=w0.heap.modify 0 fun
   | .cells _ t frozen=>.cells #[rtV gH] t frozen
   | o=>o }
theorem laidWorld_met (os:Os) (args:Array Value):laidMetH prog laid ((laidWorld os).forCall (fun _ _=>0) ⟨#[],args,[]⟩).memory :=
 laidMetH_of_parts (laidMet_nil _ _) (by kernel_rfl)
theorem keptBut_same {w w':World} {may:MemPlace->Prop} (h1:w'.os = w.os) (h2:w'.output = w.output) (h:∀ i,i < w.heap.size->w'.heap[i]? = w.heap[i]?):w.keptBut w' may:=by
 refine ⟨h1,h2,fun i hi=>?_⟩;have:=(World.keptBut_refl w may).2.2 i hi;rw [h i hi];exact this
def kindsB (P:Program) (fn:Func) (c:OpenClaim):Bool:=c.kinds == (if c.domain.isEmpty then [] else fn.params.toList.map fun t=>match P.underlying t with | some (.int k)=>some k | _=>none)
theorem joined_split {P:Program} {f:FuncId} {fn:Func} {s:ChangeSpec} {c:OpenClaim} (h1:(c.wf (OpenSpec.ofChange s) && laidOutB P && mapsRowed P) = true)
  (h2:(fn.params.all (P.readableRec ·) && namedTie P c.named s.vars && (c.stops == []) && (P.stops == []) && (c.knobs == []) && (P.stopKnobs == [])) = true)
  (h3:(c.inPlace == P.inPlace f) = true) (h4:(c.unfollowed == P.unfollowed f) = true) (h5:(c.recurses == P.recurses f) = true) (h6:(c.named == P.varsNamed f) = true)
  (h7:((c.maps == (fn.params.toList++s.plain.varTypes P).any (P.mapsRec ·)) && (c.ifaces == (fn.params.toList++s.plain.varTypes P).any (P.ifacesRec ·)) && (c.mapsOut == P.mapsAmong fn.resultTypes.toList) &&
 (c.loops == (fn.params.toList++s.plain.varTypes P).any (P.loopsFrom ·)) && (c.wideKeys == (fn.params.toList++s.plain.varTypes P++fn.resultTypes.toList).any (P.wideKeysFrom ·)) &&
 s.vars.all (P.varReadable ·) && fn.resultTypes.all (fun t=>P.readableRec t && decide (t < P.types.size)) && (c.ifacesOut == fn.resultTypes.toList.any (P.ifacesRec ·)) && (c.loopsOut == fn.resultTypes.toList.any (P.loopsFrom ·))) = true)
  (h8:(c.plainKeys == P.plainKeys) = true) (h9:(c.shortTexts.isNone && P.stopsHeard && P.mayEnter && (c.lifted == P.liftsFinal) && (P.make == some c.make) && kindsB P fn c && (c.pinned == c.pinnedBy) &&
 (c.veiled == (fn.params.toList++s.plain.varTypes P++fn.resultTypes.toList).any (P.veiledRec ·)) && c.veiledFits P fn.params.toList (fn.params.toList++s.plain.varTypes P++fn.resultTypes.toList)) = true):joinedFacts P f fn s c = true:=by
 unfold joinedFacts;unfold kindsB at h9;rw [and_eq_true] at h1 h2 h7 h9;simp only [and_eq_true] at h1 h2 h7 h9;obtain ⟨⟨a1,a2⟩,a3⟩:=h1;obtain ⟨⟨⟨⟨⟨b1,b2⟩,b3⟩,b4⟩,b5⟩,b6⟩:=h2;obtain ⟨⟨⟨⟨⟨⟨⟨⟨c1,c2⟩,c3⟩,c4⟩,c5⟩,c6⟩,c7⟩,c8⟩,c9⟩:=h7;obtain ⟨⟨⟨⟨⟨⟨⟨⟨d1,d2⟩,d3⟩,d4⟩,d5⟩,d6⟩,d7⟩,d8⟩,d9⟩:=h9;simp only [and_eq_true];exact ⟨⟨⟨⟨⟨⟨⟨⟨⟨⟨⟨⟨⟨⟨⟨⟨⟨⟨⟨⟨⟨⟨⟨⟨⟨⟨⟨⟨⟨⟨⟨a1,a2⟩,a3⟩,b1⟩,b2⟩,b3⟩,b4⟩,b5⟩,b6⟩,h3⟩,h4⟩,h5⟩,h6⟩,c1⟩,c2⟩,c3⟩,c4⟩,c5⟩,c6⟩,c7⟩,c8⟩,c9⟩,h8⟩,d1⟩,d2⟩,d3⟩,d4⟩,d5⟩,d6⟩,d7⟩,d8⟩,d9⟩
end
section
open Go Mb Go.ChangeShapes Go.WideShapes Go.RowKit
inductive FK where
 | i (k:IntKind)
 | b
def FK.ok:FK->Value->Prop
 | .i k,v=>∃ n,v = .int k n/\(Lit.int k n).wf = true
 | .b,v=>∃ x,v = .bool x
def uz:List FK->List Value->Prop
 | [],[]=>True
 | k::ks,v::vs=>k.ok v/\uz ks vs
 | _,_=>False
theorem uz.app:∀ {ks ls:List FK} {vs ws:List Value},uz ks vs->uz ls ws->uz (ks++ls) (vs++ws)
 | [],_,[],_,_,h=>h
 | _::_,_,_::_,_,h,g=>⟨h.1,h.2.app g⟩
 | [],_,_::_,_,h,_=>h.elim
 | _::_,_,[],_,h,_=>h.elim
theorem uz.len:∀ {ks:List FK} {vs:List Value},uz ks vs->vs.length = ks.length
 | [],[],_=>rfl
 | _::_,_::_,h=>by simp [h.2.len]
 | [],_::_,h=>h.elim
 | _::_,[],h=>h.elim
def fldK (P:Program) (r:TypeId->Option (List FK)):Nat->List Field->Option (List FK)
 | _,[]=>some []
 | o,f::fs=>if f.offset = o then (r f.type).bind fun ks=>if ks.length = P.cellsOf f.type then (fldK P r (o + ks.length) fs).map (ks++·) else none else none
def flatK (P:Program):Nat->TypeId->Option (List FK)
 | 0,_=>none
 | n + 1,t=>match P.underlying t with
  | some (.int k)=>some [.i k]
  | some .bool=>some [.b]
  | some (.struct fs)=>(fldK P (flatK P n) 0 fs.toList).bind fun ks=>if ks.length = P.cellsOf t then some ks else none
  | some (.array m e)=>(flatK P n e).bind fun ks=>if ks.length = P.cellsOf e/\m * ks.length = P.cellsOf t then some (List.replicate m ks).flatten else none
  | _=>none
section
variable {H:Type} {enc:TypeId × Value->H} {P:Program} {W:World} {base:Nat} {sp:Nat->Bool} {held:Bool}
theorem trod_array {t e m fuel:Nat} {cs:List Value} {x:DataW H × List MemPlace} (ht:P.underlying t = some (.array m e)) (h:DataW.trod enc P W base sp held fuel t cs = some x) :
  ∃ (xs:List (DataW H × List MemPlace)) (n:Nat),fuel = n + 1/\x = (.agg (xs.map (·.1)),xs.flatMap (·.2))/\cs.length = P.cellsOf t/\xs.length = m /\
   ∀ i,i < m->DataW.trod enc P W base sp held n e ((cs.drop (i * P.cellsOf e)).take (P.cellsOf e)) = xs[i]?:=by
 cases fuel with
 | zero=>simp [DataW.trod] at h
 | succ n =>
  unfold DataW.trod at h;rw [ht] at h;split at h <;> simp_all;obtain ⟨hl,xs,hp,hd⟩:=h;refine ⟨xs,hd.symm,by simpa using mapM_some_length hp,fun i hi=>mapM_some_get hp i i (by simp [hi])⟩
theorem flatMap_nil {α β:Type} {f:α->List β} {xs:List α} (h:∀ x ∈ xs,f x = []):xs.flatMap f = []:=by
 rw [List.flatMap_eq_nil_iff]; exact h
theorem take_drop_take (cs:List Value) (o n:Nat):(cs.drop o).take n++cs.drop (o + n) = cs.drop o:=by
 rw [← drop_drop,take_append_drop]
theorem fld_fits {r:TypeId->Option (List FK)} {cs:List Value} {g:TypeId->List Value->Option (DataW H × List MemPlace)} (hr:∀ t ks cs x,r t = some ks->g t cs = some x->uz ks cs/\x.2 = []) :
  ∀ (fs:List Field) (o:Nat) (ks:List FK),fldK P r o fs = some ks->(∀ f ∈ fs,∃ x,g f.type ((cs.drop f.offset).take (P.cellsOf f.type)) = some x)->o + ks.length = cs.length->uz ks (cs.drop o)
 | [],o,ks,h,_,hl=>by
  simp only [fldK,Option.some.injEq] at h;subst h;have:cs.drop o = []:=List.drop_eq_nil_of_le (by simp at hl; omega);rw [this]; trivial
 | f::fs,o,ks,h,hx,hl=>by
  unfold fldK at h;split at h
  ·rename_i ho;obtain ⟨ks1,h1,h2⟩:=bind_eq_some_iff.1 h;split at h2
   ·rename_i hc;obtain ⟨ks2,h3,rfl⟩:=Option.map_eq_some_iff.1 h2;obtain ⟨x,hx1⟩:=hx f (by simp);have f1:=(hr _ _ _ _ h1 hx1).1;have f2:=fld_fits hr fs (o + ks1.length) ks2 h3 (fun f' hf'=>hx f' (by simp [hf'])) (by simp at hl; omega);rw [ho,← hc] at f1;have:=f1.app f2
    rwa [take_drop_take] at this
   ·cases h2
  ·cases h
theorem arr_fits {ks:List FK} {c:Nat} (hc:ks.length = c):∀ (m:Nat) (cs:List Value),cs.length = m * c->(∀ i,i < m->uz ks ((cs.drop (i * c)).take c))->uz (List.replicate m ks).flatten cs
 | 0,cs,hl,_=>by
  have:cs = []:=List.eq_nil_of_length_eq_zero (by simpa using hl);subst this; trivial
 | m + 1,cs,hl,h=>by
  rw [List.replicate_succ,List.flatten_cons];have h0:=h 0 (by omega);simp only [Nat.zero_mul,List.drop_zero] at h0;have h1:=arr_fits hc m (cs.drop c) (by rw [List.length_drop,hl,succ_mul]; omega) (fun i hi=>by
   have:=h (i + 1) (by omega)
   rwa [drop_drop,Nat.add_comm,← succ_mul])
  have:=h0.app h1
  rwa [take_append_drop] at this
theorem trod_flat:∀ (n t:Nat) (ks:List FK),flatK P n t = some ks->∀ (fuel:Nat) (cs:List Value) (x:DataW H × List MemPlace),DataW.trod enc P W base sp held fuel t cs = some x->uz ks cs/\x.2 = []
 | 0,_,_,h,_,_,_,_=>by cases h
 | n + 1,t,ks,h,fuel,cs,x,hx=>by
  have ih:=trod_flat n;unfold flatK at h;split at h
  ·rename_i k hu;cases h;obtain ⟨m,rfl,rfl,hw⟩:=DataW.trod_int hu hx;exact ⟨⟨⟨m,rfl,hw⟩,trivial⟩,rfl⟩
  ·rename_i hu;cases h;obtain ⟨b,rfl,rfl⟩:=DataW.trod_bool hu hx;exact ⟨⟨⟨b,rfl⟩,trivial⟩,rfl⟩
  ·rename_i fs hu;obtain ⟨ks',h1,h2⟩:=bind_eq_some_iff.1 h;split at h2
   ·rename_i hc;cases h2;obtain ⟨xs,f,rfl,rfl,hl,hxl,hi⟩:=DataW.trod_struct hu hx;have hall:∀ fl ∈ fs.toList,∃ x,DataW.trod enc P W base sp held f fl.type ((cs.drop fl.offset).take (P.cellsOf fl.type)) = some x:=by
     intro fl hfl;obtain ⟨i,hi1,hi2⟩:=List.getElem_of_mem hfl;have:=hi i fl (by rw [← Array.getElem?_toList,getElem?_eq_getElem hi1,hi2]);have hlt:i < xs.length:=by rw [hxl]; simpa using hi1
     rw [getElem?_eq_getElem hlt] at this;exact ⟨_,this⟩
    refine ⟨?_,flatMap_nil fun y hy=>?_⟩
    ·have:=fld_fits (P:=P) (cs:=cs) (fun t ks cs x h=>ih t ks h f cs x) fs.toList 0 ks h1 hall (by rw [hc,hl]; omega);simpa using this
    ·obtain ⟨i,hi1,rfl⟩:=List.getElem_of_mem hy;have hif:i < fs.size:=by rw [← hxl]; exact hi1
     have h3:=hi i fs[i] (by simp [hif]);rw [getElem?_eq_getElem hi1] at h3;have key:∀ (l:List Field) (o:Nat) (ks:List FK),fldK P (flatK P n) o l = some ks->∀ fl ∈ l,∃ ks,flatK P n fl.type = some ks:=by
      intro l
      induction l with
      | nil=>intro _ _ _ fl h; cases h
      | cons a l ihl =>
       intro o ks hk fl hfl;unfold fldK at hk;split at hk
       ·obtain ⟨k1,hk1,hk2⟩:=bind_eq_some_iff.1 hk;rcases List.mem_cons.1 hfl with rfl | hfl
        ·exact ⟨_,hk1⟩
        ·split at hk2
         ·obtain ⟨k2,hk3,_⟩:=Option.map_eq_some_iff.1 hk2;exact ihl _ _ hk3 fl hfl
         ·cases hk2
       ·cases hk
     obtain ⟨ks2,hks2⟩:=key _ _ _ h1 fs[i] (by simp);exact (ih _ _ hks2 _ _ _ h3).2
   ·cases h2
  ·rename_i m e hu;obtain ⟨ks',h1,h2⟩:=bind_eq_some_iff.1 h;split at h2
   ·rename_i hc;cases h2;obtain ⟨xs,f,rfl,rfl,hl,hxl,hi⟩:=trod_array hu hx;have hat:∀ i,i < m->∃ x,xs[i]? = some x/\DataW.trod enc P W base sp held f e ((cs.drop (i * P.cellsOf e)).take (P.cellsOf e)) = some x:=fun i him=>by
     have:=hi i him;rw [getElem?_eq_getElem (by omega)] at this;exact ⟨_,getElem?_eq_getElem (by omega),this⟩
    refine ⟨arr_fits (by exact hc.1) m cs (by rw [hl,← hc.2,hc.1]) (fun i him=>?_),flatMap_nil fun y hy=>?_⟩
    ·obtain ⟨x,_,hx2⟩:=hat i him;exact (ih _ _ h1 _ _ _ hx2).1
    ·obtain ⟨i,hi1,rfl⟩:=List.getElem_of_mem hy;obtain ⟨x,hx1,hx2⟩:=hat i (by omega);rw [getElem?_eq_getElem hi1] at hx1;cases hx1;exact (ih _ _ h1 _ _ _ hx2).2
   ·cases h2
  ·cases h
end
structure Arg {τ:Type} (W:World) (m:Nat) (enc:τ->List Value) (s:Sl) (xs:List τ):Prop where
 len:s.len = xs.length
 cap:s.len <= s.cap
 row:s.cap = 0\/∃ b pre rest U fr,s.a = some (b,pre.length)/\s.cap * m <= s.len * m + rest.length/\s.g = some (pre,rest,U,fr)/\nf fr pre.length (s.cap * m)/\b ≠ 0/\W.heap[b]? = some (.cells (pre++(xs.flatMap enc++rest)).toArray U fr)
section
variable {H:Type} {enc:TypeId × Value->H} {P:Program} {W:World}
theorem has_spot {r:Reach} {b0:Nat} {t e:TypeId} {a:Addr} {len cap:Nat} (ht:P.underlying t = some (.slice e)) (h:Value.okWide P W r b0 t (.slice (some a) len cap)):a.spot = none/\∃ c T fr,W.heap[a.block]? = some (.cells c T fr):=by
 unfold Value.okWide at h;rw [ht] at h;unfold Cell.okWide at h;rw [ht] at h;simp only at h;unfold Cell.ok at h;rw [ht] at h;simp only at h;obtain ⟨_,_,_,hs,row,cells,h1,_⟩:=h;refine ⟨hs,?_⟩;unfold World.shape? at h1;split at h1
 ·rename_i c T fr hq;exact ⟨_,_,_,hq⟩
 ·cases h1
theorem open_arg {τ:Type} {b0 m:Nat} {t e:TypeId} {ks:List FK} {enc':τ->List Value} {v:Value} {d:DataW H} {ps:List MemPlace} {ET:Nat} {EF:Nat × Nat} {X:Value} (ht:P.underlying t = some (.slice e)) (hm:P.cellsOf e = m) (hk:flatK P 9 e = some ks) (hpos:0 < m)
  (dec:∀ cs,uz ks cs->∃ x:τ,enc' x = cs) (hval:Value.okWide P W .any b0 t v) (hd:DataW.Trod enc P W 0 (fun _=>true) true t v d ps) (hz:W.noneFrozen ps)
  (hw:W.heap[0]? = some (.cells #[X] ET EF)) (hX:∀ k,¬ FK.ok k X):∃ (s:Sl) (xs:List τ),v = sv s/\Arg W m enc' s xs:=by
 obtain ⟨a0,len0,my,rfl⟩:=okWide_slice ht hval;obtain ⟨fuel,hf⟩:=hd;rcases Go.Deep.open_slice ht hf with ⟨h1,_⟩ | ⟨a,len,cap,mm,n,D,Pl,h1,_,hl,_,hmm,hx,hi⟩
 ·simp only [Value.cells,List.cons.injEq,Value.slice.injEq,and_true] at h1;obtain ⟨rfl,rfl,rfl⟩:=h1;exact ⟨⟨none,0,0,none⟩,[],rfl,rfl,le_refl _,.inl rfl⟩
 ·simp only [Value.cells,List.cons.injEq,Value.slice.injEq,and_true] at h1;obtain ⟨rfl,rfl,rfl⟩:=h1;simp only [if_true] at hmm;subst hmm;obtain ⟨hs,c,T,fr,hb⟩:=has_spot ht hval;obtain ⟨b,off,spot⟩:=a;simp only at hs hb;subst hs;by_cases hc0:mm = 0
  ·subst hc0;obtain rfl:len0 = 0:=by omega
   exact ⟨⟨some (b,off),0,0,none⟩,[],rfl,rfl,le_refl _,.inl rfl⟩
  rw [hm] at hi hx;have lO:∀ i,i < mm->∃ x:τ,(enc' x).length = m/\uz ks (enc' x)/\∀ j,j < m->c.toList[off + i * m + j]? = (enc' x)[j]?:=by
   intro i him;obtain ⟨cs',h2,h3⟩:=hi i him;obtain ⟨_,hlen,hget⟩:=World.cells?_some h2;have hfit:=(trod_flat 9 e ks hk _ _ _ h3).1;obtain ⟨x,rfl⟩:=dec cs' hfit;refine ⟨x,hlen,hfit,fun j hj=>?_⟩;have:=hget j hj;rw [WideShapes.add_plain,WideShapes.add_plain] at this;rw [← this];unfold World.cell?;rw [hb];simp
  have hsize:off + mm * m <= c.toList.length:=by
   obtain ⟨x,hxl,_,hj⟩:=lO (mm - 1) (by omega);have h4:=hj (m - 1) (by omega);have h5:=(List.getElem?_eq_some_iff.1 (h4.trans (getElem?_eq_getElem (by omega)))).1;have:mm * m = (mm - 1) * m + m:=by rw [← succ_mul]; congr 1; omega
   omega
  have hflat:∀ k,k <= mm->∃ ys:List τ,ys.length = k/\(c.toList.drop off).take (k * m) = ys.flatMap enc':=by
   intro k
   induction k with
   | zero=>exact fun _=>⟨[],rfl,by simp⟩
   | succ k ih =>
    intro hk1;obtain ⟨ys,hy1,hy2⟩:=ih (by omega);obtain ⟨x,hxl,_,hj⟩:=lO k (by omega);refine ⟨ys++[x],by simp [hy1],?_⟩;rw [succ_mul,List.take_add,hy2,List.flatMap_append]
    congr 1
    simp only [List.flatMap_cons,List.flatMap_nil,List.append_nil];apply List.ext_getElem?;intro j;rw [drop_drop,List.getElem?_take,List.getElem?_drop];by_cases hjm:j < m
    ·rw [if_pos hjm,← hj j hjm]
    ·rw [if_neg hjm,List.getElem?_eq_none (by omega)]
  obtain ⟨xs,hx1,hx2⟩:=hflat len0 hl;have hlm:len0 * m <= mm * m:=Nat.mul_le_mul_right m hl;refine ⟨⟨some (b,off),len0,mm,some (c.toList.take off,c.toList.drop (off + len0 * m),T,fr)⟩,xs,rfl,hx1.symm,hl,.inr ⟨b,c.toList.take off,c.toList.drop (off + len0 * m),T,fr,?_,?_,rfl,?_,?_,?_⟩⟩
  ·rw [List.length_take,Nat.min_eq_left (by omega)]
  ·show mm * m <= len0 * m + _;rw [List.length_drop]; omega
  ·rw [List.length_take,Nat.min_eq_left (by omega)];intro j j1 j2;have j2':j < off + mm * m:=j2;have hp:MemPlace.cell b j ∈ ps:=by
    have hps:=congrArg Prod.snd hx;simp only at hps;rw [hps];refine List.mem_append_left _ (List.mem_map.2 ⟨j - off,mem_range.2 (by omega),?_⟩);show MemPlace.cell b (off + (j - off)) = _
    congr 1; omega
   have:=hz b j hp;unfold World.frozen? at this;simp only [hb] at this;exact this
  ·rintro rfl;rw [hw] at hb;cases hb;obtain ⟨x,hxl,hfit,hj⟩:=lO 0 (by omega);have h4:=hj 0 hpos;simp only [Nat.zero_mul,Nat.add_zero] at h4;cases hks:ks with
   | nil=>subst hks; have:=hfit.len; simp at this; simp [this] at hxl; omega
   | cons k ks' =>
    subst hks;cases hex:enc' x with
    | nil=>rw [hex] at hxl; simp at hxl; omega
    | cons y ys =>
     rw [hex] at hfit h4;simp only [List.getElem?_cons_zero] at h4;have h5:y = X:=by
      cases off with
      | zero=>simpa using h4.symm
      | succ o=>simp at h4
     exact hX k (h5 ▸ hfit.1)
  ·rw [hb]
   congr 2
   apply ext';show c.toList = c.toList.take off++(xs.flatMap enc'++c.toList.drop (off + len0 * m))
   rw [← hx2,← drop_drop,take_append_drop,take_append_drop]
theorem trodAll_stays (hl:laidOutB P = true) {W':World} {sp':Nat->Bool}:∀ {ts:List TypeId} {vs:List Value} {ds:List (DataW H)} {ps:List MemPlace},(∀ t ∈ ts,P.readableRec t = true/\t < P.types.size) ->
  DataW.TrodAll enc P W 0 (fun _=>true) true ts vs ds ps->(∀ p ∈ ps,W.sameAt W' p)->(∀ p ∈ ps,sp' p.block = true)->DataW.TrodAll enc P W' 0 sp' true ts vs ds ps
 | [],_,_,_,_,h,_,_=>by
  obtain ⟨rfl,rfl,rfl⟩:=trodAll_nil h
  rfl
 | t::ts,_,_,_,hr,h,hs,hp=>by
  obtain ⟨v,vs,d,ds,a,b,rfl,rfl,rfl,h1,h2⟩:=trodAll_cons h;exact ⟨a,b,Go.WideElems.Trod_stays hl (hr t (by simp)).1 (hr t (by simp)).2 h1 (fun p q=>hs p (by simp [q])) (fun p q=>hp p (by simp [q])),trodAll_stays hl (fun t q=>hr t (by simp [q])) h2 (fun p q=>hs p (by simp [q])) (fun p q=>hp p (by simp [q])),rfl⟩
end
end
section
open Go Mb Go.ChangeShapes Go.WideShapes Go.RowKit
theorem no_iface (k:FK):¬ FK.ok k (rtV gH):=by
 cases k with
 | i k=>rintro ⟨n,h,_⟩; cases h
 | b=>rintro ⟨x,h⟩; cases h
theorem fit_cons {k:FK} {ks:List FK} {cs:List Value} (h:uz (k::ks) cs):∃ v vs,cs = v::vs/\k.ok v/\uz ks vs:=by
 cases cs with
 | nil=>exact h.elim
 | cons v vs=>exact ⟨v,vs,rfl,h.1,h.2⟩
theorem fit_i {k:IntKind} {ks:List FK} {cs:List Value} (h:uz (.i k::ks) cs):∃ (n:Int) (vs:List Value),cs = .int k n::vs/\(Lit.int k n).wf = true/\uz ks vs:=by
 obtain ⟨v,vs,rfl,⟨n,rfl,hw⟩,hf⟩:=fit_cons h;exact ⟨n,vs,rfl,hw,hf⟩
theorem fit_nil {cs:List Value} (h:uz [] cs):cs = []:=by
 cases cs with
 | nil=>rfl
 | cons v vs=>exact h.elim
theorem wf_u {n:Int} (h:(Lit.int .u64 n).wf = true):0 <= n/\n < 2 ^ 64:=by
 have:=(Lit.wf_int_iff .u64 n).1 h;simp [IntKind.has,IntKind.min,IntKind.max,IntKind.signed,IntKind.bits] at this;omega
theorem Arg.sub {τ:Type} {P:τ->Prop} {W:World} {m:Nat} {C:τ->List Value} {s:Sl} {xs:List {x:τ // P x}} (A:Arg W m (fun x=>C x.1) s xs):Arg W m C s (xs.map (·.1))/\∀ x ∈ xs.map (·.1),P x:=by
 refine ⟨⟨by simpa using A.len,A.cap,?_⟩,fun x hx=>?_⟩
 ·have e:(xs.map (·.1)).flatMap C = xs.flatMap (fun x=>C x.1):=by rw [List.flatMap_map]
  rw [e]; exact A.row
 ·obtain ⟨y,_,rfl⟩:=List.mem_map.1 hx;exact y.2
structure Same (W W':World):Prop where
 os:W'.os = W.os
 out:W'.output = W.output
 heap:∀ i,i < W.heap.size->W'.heap[i]? = W.heap[i]?
theorem Same.cell {W W':World} (s:Same W W') {p:MemPlace} (h:p.block < W.heap.size):W.sameAt W' p:=by
 cases p with
 | cell b off =>
  show W'.cell? _ = W.cell? _;unfold World.cell?;rw [s.heap b h]
 | map b=>exact s.heap b h
theorem run_spV {τ:Type} {T m:Nat} {enc:τ->List Value} {s:Sl} {xs:List τ} {f:FuncId} {vs:List Value} {ET:Nat} {EF:Nat × Nat} {W:World} (A:Arg W m enc s xs)
  (c:Sp prog f vs aB [etB ET EF,vec T m enc s xs] (fun r=>pa_ (r = true) [etB ET EF,vec T m enc s xs])) (hw:W.heap[0]? = some (.cells #[rtV gH] ET EF)) :
  Calls prog f vs.toArray W fun e W'=>e = .returned (.bool true)/\Same W W':=by
 have key:∀ (g:Hp),g 0 = none->(∀ b o,g b = some o->W.heap[b]? = some o)->vec T m enc s xs g->(∀ g',vec T m enc s xs g'->∀ b o,g b = some o->g' b = some o) ->
   Calls prog f vs.toArray W fun e W'=>e = .returned (.bool true)/\Same W W':=by
  intro g g0 gW gv gk;have hs:Sub (un (eC emp 0 (.cells #[rtV gH] ET EF)) g) W:=by
   intro b o ho;by_cases hb:b = 0
   ·subst hb; rw [un_left (ki _ _ _)] at ho; rw [hw]; exact ho
   ·rw [un_right (qS _ _ _ hb)] at ho; exact gW b o ho
  have hd:Dj (eC emp 0 (.cells #[rtV gH] ET EF)) g:=fun b=>by
   by_cases hb:b = 0
   ·subst hb; exact .inr g0
   ·exact .inl (qS _ _ _ hb)
  have hst:az [etB ET EF,vec T m enc s xs] (un (eC emp 0 (.cells #[rtV gH] ET EF)) g):=⟨_,_,hd,rfl,ki _ _ _,xp gv⟩
  refine (c _ hst W hs).mono ?_;rintro e W' ⟨v,h',rfl,⟨r,rfl,q⟩,s',fr⟩;obtain ⟨rfl,q⟩:=q;obtain ⟨g1,a1,sub1⟩:=eF (i:=0) (A:=etB ET EF) rfl q;obtain ⟨g2,a2,sub2⟩:=eF (i:=1) (A:=vec T m enc s xs) rfl q;refine ⟨rfl,fr.os,fr.out,fun i hi=>?_⟩;rcases Nat.eq_zero_or_pos i with rfl | hp
  ·rw [s' _ _ (sub1 _ _ a1),hw]
  ·cases hg:g i with
   | none=>exact fr.same i hi (uC.2 ⟨qS _ _ _ (by omega),hg⟩)
   | some o=>rw [s' _ _ (sub2 _ _ (gk g2 a2 i o hg)),gW i o hg]
 rcases A.row with h0 | ⟨b,pre,rest,U,fr,h1,h2,h3,h4,h5,h6⟩
 ·exact key emp rfl (fun b o h=>by cases h) ⟨A.len,A.cap,.inl h0⟩ (fun _ _ b o h=>by cases h)
 ·by_cases h0:s.cap = 0
  ·exact key emp rfl (fun b o h=>by cases h) ⟨A.len,A.cap,.inl h0⟩ (fun _ _ b o h=>by cases h)
  ·refine key (eC emp b (.cells (pre++(xs.flatMap enc++rest)).toArray U fr)) (qS _ _ _ (Ne.symm h5)) ?_ ⟨A.len,A.cap,.inr ⟨b,pre,rest,U,fr,h1,h2,?_,ki _ _ _⟩⟩ ?_
   ·intro b' o ho;unfold eC at ho;split at ho
    ·rename_i hb; subst hb; rw [h6]; exact ho
    ·cases ho
   ·unfold gh; rw [h3]; exact ⟨rfl,h4⟩
   ·rintro g' ⟨_,_,r⟩ b' o ho;rcases r with r | ⟨c',pre',rest',U',fr',r1,_,r3,r4⟩
    ·exact absurd r h0
    ·rw [h1] at r1;unfold gh at r3;rw [h3] at r3;obtain ⟨r5,_⟩:=r3;simp only [Prod.mk.injEq] at r5;obtain ⟨rfl,rfl,rfl,rfl⟩:=r5;simp only [Option.some.injEq,Prod.mk.injEq] at r1;obtain ⟨rfl,_⟩:=r1;unfold eC at ho;split at ho
     ·rename_i hb; subst hb; cases ho; exact r4
     ·cases ho
theorem same_post {H:Type} {enc:TypeId × Value->H} {W W':World} {ts:List TypeId} {vs:List Value} {ds:List (DataW H)} {ps:List MemPlace} {sp:Nat->Bool} (hl:laidOutB prog = true) (hr:(ts.all fun t=>prog.readableRec t && decide (t < prog.types.size)) = true)
  (h:DataW.TrodAll enc prog W 0 (fun _=>true) true ts vs ds ps) (hlt:∀ p ∈ ps,p.block < W.heap.size) (s:Same W W') (hs:∀ p ∈ ps,sp p.block = true):DataW.TrodAll enc prog W' 0 sp true ts vs ds ps :=
 trodAll_stays hl (fun t ht=>by
  have:=all_eq_true.1 hr t ht;simp only [and_eq_true,decide_eq_true_eq] at this;exact this) h (fun p hp=>s.cell (hlt p hp)) hs
theorem want_all {ts:List TypeId} (h:(ts.all fun t=>!(prog.wantsStandIn t)) = true) {j:Nat} {t:TypeId} (ht:ts.toArray[j]? = some t):prog.wantsStandIn t = false:=by
 have:=all_eq_true.1 h t (List.mem_of_getElem? (by simpa using ht));simpa using this
end
section
open Go Mb
variable {ET:Nat} {EF:Nat × Nat}
namespace Shared
def r1 (s:eV):=KK.run (KK.new s) 0 0 ⟨1,0,0,0,0⟩
def r2 (s:eV):=KK.run (r1 s).2 0 0 ⟨6,0,0,3,0⟩
def r3 (s:eV) (v:Int):=KK.run (r2 s).2 0 0 ⟨21,0,0,v,0⟩
structure Fine (s:eV) (v:Int):Prop where
 sz:PK.sized s = true
 a1:(r1 s).1 = (⟨0,0⟩,true)
 a2:(r2 s).1 = (⟨0,0⟩,true)
 a3:(r3 s v).1 = (⟨0,0⟩,true)
 n1:(r1 s).2.now < 1000
 n2:(r2 s).2.now < 1000
end Shared
theorem call_len (c:cT):(ai.C c).length = 5:=rfl
open Shared in
theorem sp_shared (s:eV) (v:Int) (F:Fine s v):Sp prog kN [.agg s.C.toArray,.int .u64 v] kU [] (fun r=>az [cz r (r3 s v).2]):=by
 intro h st;refine vO _ _ ?_;unfold oF;refine mv (sp_kern_New s F.sz) st fun x h1 s1=>?_;refine dx (kern_nn s1) ?_;refine fe (τ:=cT) [⟨1,0,0,0,0⟩,⟨6,0,0,3,0⟩,⟨21,0,0,v,0⟩] (val:=fun x=>.agg x.C.toArray) (enc:=ai.C) el_Sapi_Call call_len (fun _=>rfl) s1 rfl rfl (by decide) fun y h2 s2=>?_;have hl:=(cf (j:=0) s2 rfl).1;have hl3:y.len = 3:=hl;refine Lp.intro (fun (i:Int) h=>∃ (n:Nat) (k:KK),i = n/\(n = 0/\k = KK.new s\/n = 1/\k = (r1 s).2\/n = 2/\k = (r2 s).2\/n = 3/\k = (r3 s v).2)/\az [vec t_api_Call 5 ai.C y [⟨1,0,0,0,0⟩,⟨6,0,0,3,0⟩,⟨21,0,0,v,0⟩],cz x k] h) (fun (i:Int) _=>3 - i.toNat) ⟨0,_,rfl,.inl ⟨rfl,rfl⟩,s2⟩ ?_;rintro i h3 ⟨n,k,rfl,hn,s3⟩;unfold kg;have lk:∀ (m:Nat) (c:cT) (k':KK),n = m->m < 3->([⟨1,0,0,0,0⟩,⟨6,0,0,3,0⟩,⟨21,0,0,v,0⟩]:List cT)[m]? = some c->(KK.run k 0 0 c).1 = (⟨0,0⟩,true)->(KK.run k 0 0 c).2 = k'->k.now < 1000 ->
   (n + 1 = 0/\k' = KK.new s\/n + 1 = 1/\k' = (r1 s).2\/n + 1 = 2/\k' = (r2 s).2\/n + 1 = 3/\k' = (r3 s v).2) ->
   (br (decide ((n:Int) < (y.len:Int))) (ix y n fun q22=>ld (q22.1,q22.2 + Int.toNat (n:Int) * 5) ai.C fun x23=>cl prog cU [(pv x),(.int .i64 0),(.int .i64 0),(.agg (ai.C x23).toArray)] bc fun r27 =>
    br ((!r27.2) || (r27.1.fWa != 0)) ((fun r=>az [cz r (r3 s v).2]) none) ((fun (s':Int) h'=>(∃ (n:Nat) (k:KK),s' = n/\(n = 0/\k = KK.new s\/n = 1/\k = (r1 s).2\/n = 2/\k = (r2 s).2\/n = 3/\k = (r3 s v).2)/\az [vec t_api_Call 5 ai.C y [⟨1,0,0,0,0⟩,⟨6,0,0,3,0⟩,⟨21,0,0,v,0⟩],cz x k] h')/\3 - s'.toNat < 3 - (n:Int).toNat) (i64.wrap ((n:Int) + 1)))) ((fun r=>az [cz r (r3 s v).2]) x)) h3:=by
  intro m c k' e hm hc hr hk hnow hq;subst e;have hw:i64.wrap ((n:Int) + 1) = ((n + 1:Nat):Int):=by rw [bk (by omega) (by omega)]; rfl
  refine eo (by rw [hl3]; exact decide_eq_true (by omega)) ?_;refine de s3 (j:=0) rfl (by omega) (by omega) fun q hq'=>?_;refine dA (j:=0) (i:=n) (k:=0) c call_len s3 rfl hq' rfl hc (by simp) ?_;refine bN (i:=1) (sp_Run x k 0 0 c (by omega)) rfl s3 fun r h4 hr2 s4=>?_;have hr3:r = (KK.run k 0 0 c).1:=hr2.1;rw [hr] at hr3;subst hr3;refine dx rfl ?_;rw [hw];rw [hk] at s4;exact ⟨⟨n + 1,k',rfl,hq,s4⟩,by simp; omega⟩
 rcases hn with ⟨e,ek⟩ | ⟨e,ek⟩ | ⟨e,ek⟩ | ⟨e,ek⟩
 ·exact lk 0 _ (r1 s).2 e (by decide) rfl (by rw [ek]; exact F.a1) (by rw [ek,r1]) (by rw [ek]; show (0:Int) < 1000; decide) (.inr (.inl ⟨by omega,rfl⟩))
 ·exact lk 1 _ (r2 s).2 e (by decide) rfl (by rw [ek]; exact F.a2) (by rw [ek,r2]) (by rw [ek]; exact F.n1) (.inr (.inr (.inl ⟨by omega,rfl⟩)))
 ·exact lk 2 _ (r3 s v).2 e (by decide) rfl (by rw [ek]; exact F.a3) (by rw [ek,r3]) (by rw [ek]; exact F.n2) (.inr (.inr (.inr ⟨by omega,rfl⟩)))
 ·subst e;refine dx (by rw [hl3]; rfl) ?_;rw [ek] at s3;exact bX (l:=[_]) s3
end
section
open Go Mb
theorem mod_in (x:Int) {n:Int} (h:1 <= n/\n <= 100):0 <= (i64.wrap (x.tmod n + n)).tmod n/\(i64.wrap (x.tmod n + n)).tmod n < n:=by
 have h1:=Int.tmod_lt_of_pos x (show (0:Int) < n by omega);have h2:-n < x.tmod n:=by
  have:=Int.tmod_lt_of_pos (-x) (show (0:Int) < n by omega);rw [Int.neg_tmod] at this;omega
 rw [bk (by omega) (by omega)];exact ⟨Int.tmod_nonneg _ (by omega),Int.tmod_lt_of_pos _ (by omega)⟩
end
section
open Go Mb
namespace Unmap
open Shared
def sz (n:Int):eV:=⟨n,1,1⟩
abbrev ld:cT:=⟨20,0,0,0,0⟩
abbrev um:cT:=⟨7,0,0,0,0⟩
def kl (n v:Int):Nat->KK
 | 0=>(r3 (sz n) v).2
 | m + 1=>(KK.run (kl n v m) m 0 ld).2
abbrev AB:=eO × Bool
abbrev ok:AB:=(⟨0,0⟩,true)
def q0s (k:KK):Bool:=(range 8).all fun pg=>(pg == 0) || (PK.q k.p 0 pg).fBa == 0
def tab (n v:Int):(AB × AB × AB) × List AB × Bool × Nat × eV × Bool :=
 (((r1 (sz n)).1,(r2 (sz n)).1,(r3 (sz n) v).1),(range n.toNat).map (fun m=>(KK.run (kl n v m) m 0 ld).1),q0s (kl n v n.toNat),(kl n v n.toNat).events.length,(kl n v n.toNat).p.s,
 PK.sized (sz n) && decide ((r1 (sz n)).2.now < 1000) && decide ((r2 (sz n)).2.now < 1000))
def ft (n v:Int):(AB × AB × AB) × List AB × Bool × Nat × eV × Bool :=
 ((ok,ok,ok),(range n.toNat).map (fun _=>(⟨0,v⟩,true)),true,3 + n.toNat,sz n,true)
theorem of_map {α:Type} {f:Nat->α} {a:α} {n:Nat} (h:(range n).map f = (range n).map (fun _=>a)) (m:Nat) (hm:m < n):f m = a:=by
 have:=congrArg (fun l=>l[m]?) h;simpa [hm] using this
theorem tabs (v:Int):tab 2 v = ft 2 v/\tab 3 v = ft 3 v/\tab 4 v = ft 4 v/\tab 5 v = ft 5 v:=by
 refine ⟨?_,?_,?_,?_⟩ <;> kernel_rfl
structure Fine (n v:Int):Prop where
 sh:Shared.Fine (sz n) v
 l1:∀ m:Nat,m < n.toNat->(KK.run (kl n v m) m 0 ld).1 = (⟨0,v⟩,true)
 q0:q0s (kl n v n.toNat) = true
 evs:(kl n v n.toNat).events.length = 3 + n.toNat
 s:(kl n v n.toNat).p.s = sz n
theorem fine (n v:Int) (h:2 <= n/\n <= 5):Fine n v:=by
 have h:tab n v = ft n v:=by
  obtain ⟨t1,t2,t3,t4⟩:=tabs v;have:n = 2\/n = 3\/n = 4\/n = 5:=by omega
  rcases this with h | h | h | h
  ·rw [h]; exact t1
  ·rw [h]; exact t2
  ·rw [h]; exact t3
  ·rw [h]; exact t4
 unfold tab ft at h;simp only [Prod.mk.injEq] at h;obtain ⟨⟨b1,b2,b3⟩,c1,c2,c3,c4,e⟩:=h;simp only [and_eq_true,decide_eq_true_eq] at e;exact ⟨⟨e.1.1,b1,b2,b3,e.1.2,e.2⟩,of_map c1,c2,c3,c4⟩
theorem cwld:Cw ld:=⟨by decide,by decide,by decide,by decide,by decide⟩
theorem cwum:Cw um:=⟨by decide,by decide,by decide,by decide,by decide⟩
theorem usr:Usr ld 1:=⟨by decide,by decide,⟨by decide,by decide⟩,cwld,by decide⟩
theorem calm3 {n v:Int} (h:PK.sized (sz n) = true) (hv:0 <= v):Calm 3 (r3 (sz n) v).2 :=
 (((calm_new h).run (by decide) 0 0 ⟨by decide,by decide,by decide,by decide,by decide⟩ (by decide)).run (by decide) 0 0 ⟨by decide,by decide,by decide,by decide,by decide⟩ (by decide)).run (by decide) 0 0 (c:=⟨21,0,0,v,0⟩) ⟨show (0:Int) <= 21 by decide,Int.le_refl _,Int.le_refl _,hv,Int.le_refl _⟩ (show (21:Int) ≠ 9 by decide)
theorem calml {n v:Int} (h:PK.sized (sz n) = true) (hv:0 <= v):∀ m:Nat,m <= 8->Calm (3 + m) (kl n v m)
 | 0,_=>calm3 h hv
 | m + 1,hm=>(calml h hv m (by omega)).run (by omega) m 0 cwld (by decide)
structure J (n:Int) (u:Nat) (k:KK):Prop extends All k where
 s:k.p.s = sz n
 q:∀ e pg,(PK.q k.p e pg).fBa ≠ 0->e = 0/\pg = 0
 call:∀ (d:Nat) x,k.calls[d]? = some (some x)->x.fGa = 0/\(x.fc = ld\/x.fc = um/\x.fat = u)
 um:∃ e,k.events[u]? = some e/\e.fKa = Unmap.um/\(e.fHa ≠ 0->∀ a pg,(PK.q k.p a pg).fBa = 0)
theorem J.post {n:Int} {u:Nat} {k:KK} (H:J n u k) (hn:k.now < 2 ^ 40) (c:Int):J n u (KK.post k c).2:=by
 obtain ⟨h1,h2,h3⟩:=post_same k c;exact ⟨H.toAll.post hn c,by rw [h2]; exact H.s,by rw [h2]; exact H.q,by rw [h3]; exact H.call,by rw [h1,h2]; exact H.um⟩
theorem J.begin {n:Int} {u:Nat} {k:KK} (H:J n u k) (hn:k.now < 2 ^ 40) (c:Int):J n u (KK.begin_ k c 0 ld).2:=by
 have hA:=H.toAll.begin hn c 0 cwld;rcases begin_or H.toIE hn c 0 ld with ⟨_,h⟩ | ⟨_,d,rfl,hd,_,_,_,he,hp,hc,_⟩
 ·rw [h]; exact H
 ·refine ⟨hA,by rw [hp]; exact H.s,by rw [hp]; exact H.q,?_,?_⟩
  ·rw [hc];exact mH (P:=fun _ x=>x.fGa = 0/\(x.fc = ld\/x.fc = Unmap.um/\x.fat = u)) H.call fun x hx=>by cases hx; exact ⟨rfl,.inl rfl⟩
  ·obtain ⟨e,h1,h2,h3⟩:=H.um;rw [he,hp];exact ⟨e,by rw [List.getElem?_append_left (List.getElem?_eq_some_iff.1 h1).1]; exact h1,h2,h3⟩
theorem J.step {n:Int} {u:Nat} {k:KK} (H:J n u k) (hn:k.now < 2 ^ 40) (c:Int):J n u (KK.step k c).2:=by
 rcases step_or H.toIE hn c with h | ⟨d,x,rfl,hx,st⟩
 ·rw [h]; exact H
 have hA:=H.toAll.step hn d;obtain ⟨hc1,hc2⟩:=H.call d x hx;have hdl:=(List.getElem?_eq_some_iff.1 hx).1;obtain ⟨e,g1,g2,g3⟩:=H.um;have hs1:k.p.s.fIa = 1:=by rw [H.s]; rfl
 cases st with
 | wait y he hp hc h1 h2 h3 =>
  refine ⟨hA,by rw [hp]; exact H.s,by rw [hp]; exact H.q,?_,by rw [he,hp]; exact ⟨e,g1,g2,g3⟩⟩;rw [hc];refine mH (P:=fun _ x=>x.fGa = 0/\(x.fc = ld\/x.fc = Unmap.um/\x.fat = u)) H.call fun z hz=>?_;cases hz;rw [h1,h2,h3]; exact ⟨hc1,hc2⟩
 | user m e0 h0 hm hz hcl hen hco hu he hp hc =>
  have hld:x.fc = ld:=by
   rcases hc2 with h | h
   ·exact h
   ·rw [h.1] at hu; cases hu
  have I:=H.inv.tick hn;have hqs:∀ a pg,PK.q (KK.step k d).2.p a pg = PK.q k.p a pg/\(KK.step k d).2.p.s = k.p.s:=by
   intro a pg;rw [hp];rcases access_or I (c:=d) hdl (x:=x) (by rw [hld]; show Word.check ld k.p.s.fIa = 0; rw [hs1]; exact usr.chk) (by rw [hld]; exact usr.kind) with h | ⟨l,_,_,_,h⟩
   ·rw [h.2.1]; exact ⟨rfl,rfl⟩
   ·rw [h];have t:=PK.touch_same (KK.tick k).p (PK.q (KK.tick k).p x.fGa (i64.wrap x.fc.e1)).fEa x.fc;exact ⟨PK.q_same t.2.1 t.2.2.2 a pg,t.2.2.2⟩
  have hmu:u ≠ m:=by
   rintro rfl;rw [h0] at g1; cases g1;rw [g2] at hcl;rw [← hcl] at hld; cases hld
  refine ⟨hA,by rw [(hqs 0 0).2]; exact H.s,fun a pg=>by rw [(hqs a pg).1]; exact H.q a pg,?_,?_⟩
  ·rw [hc];exact mH (P:=fun _ x=>x.fGa = 0/\(x.fc = ld\/x.fc = Unmap.um/\x.fat = u)) H.call fun z hz=>by cases hz
  ·refine ⟨e,by rw [he,List.getElem?_set,if_neg (fun h=>hmu h.symm)]; exact g1,g2,fun h a pg=>?_⟩;rw [(hqs a pg).1]; exact g3 h a pg
 | does m e0 h0 hm hz hcl hen hco hu he hp hc =>
  have hum:x.fc = Unmap.um/\x.fat = u:=by
   rcases hc2 with h | h
   ·rw [h] at hu; cases hu
   ·exact h
  have hmu:m = u:=by have:=hum.2; omega
  subst hmu;rw [h0] at g1; cases g1;have hoff:PK.off k.p x.fGa = false:=PK.off_iff.2 (by rw [hc1,hs1]; decide);have hq:∀ a pg,(PK.q (PK.do_ k.p x.fGa x.fc).2 a pg).fBa = 0:=by
   intro a pg;rw [PK.do_q H.inv.F (by rw [hum.1]; exact cwum) hoff (by rw [hum.1,hs1]; decide) (by rw [hum.1]; exact .inr (.inr (.inl rfl)))];unfold PK.aft;rw [hum.1,hc1];rw [if_pos rfl];split
   ·rfl
   ·rename_i hne;by_cases hz:(PK.q k.p a pg).fBa = 0
    ·exact hz
    ·exact absurd (H.q a pg hz) (fun h=>hne ⟨h.1.symm,h.2.symm⟩)
  have hss:(PK.do_ k.p x.fGa x.fc).2.s = k.p.s:=do_s _ _ _;refine ⟨hA,by rw [hp,hss]; exact H.s,fun a pg h=>?_,?_,?_⟩
  ·rw [hp] at h; exact absurd (hq a pg) h
  ·rw [hc];exact mH (P:=fun _ x=>x.fGa = 0/\(x.fc = ld\/x.fc = Unmap.um/\x.fat = m)) H.call fun z hz=>by cases hz
  ·refine ⟨KK.evend e (k.now + 1) (PK.do_ k.p x.fGa x.fc).1.1 jJ,by rw [he,List.getElem?_set,if_pos rfl,if_pos (List.getElem?_eq_some_iff.1 h0).1],g2,fun _ a pg=>?_⟩;rw [hp]; exact hq a pg
theorem closed {n:Int} {u:Nat}:Closed (J n u):=⟨fun A=>A.inv,fun A hn c=>A.post hn c,fun A hn c=>A.step hn c⟩
theorem J.awake {n:Int} {u:Nat} {k:KK} (H:J n u k):∀ (d:Nat) x,k.calls[d]? = some (some x)->x.fc.e0 ≠ 9:=fun d x h=>by
 rcases (H.call d x h).2 with e | e
 ·rw [e]; decide
 ·rw [e.1]; decide
theorem J.clear {n:Int} {u:Nat} {k:KK} (H:J n u k) (hi:∀ (d:Nat) x,k.calls[d]? ≠ some (some x)) (a pg:Int):(PK.q k.p a pg).fBa = 0:=by
 obtain ⟨e,g1,_,g3⟩:=H.um;exact g3 (H.toIE.ended hi e (List.mem_of_getElem? g1)).2 a pg
theorem q_page {k:PK} {e pg:Int} (h:(PK.q k e pg).fBa ≠ 0):0 <= pg/\pg < 8:=by
 obtain ⟨_,h2,_⟩:=PK.q_on h;cases ht:bq pg with
 | true=>unfold bq at ht; simp at ht; omega
 | false =>
  rw [Table.get_no (by rw [ht]; simp)] at h2;cases h2
theorem j0 {n v:Int} {m:Nat} (F:Fine n v) (C:Calm m (kl n v n.toNat)) (hm:m <= 100) (hb:(KK.begin_ (kl n v n.toNat) 0 0 Unmap.um).1 = true):J n (3 + n.toNat) (KK.begin_ (kl n v n.toNat) 0 0 Unmap.um).2:=by
 have hnow:=C.now;have hA:=C.toAll.begin (by omega) 0 0 cwum;rcases begin_or C.toIE (by omega) 0 0 Unmap.um with ⟨h,_⟩ | ⟨_,d,hd0,hd,_,_,_,he,hp,hc,_⟩
 ·rw [h] at hb; cases hb
 ·refine ⟨hA,by rw [hp]; exact F.s,fun e pg h=>?_,?_,?_⟩
  ·rw [hp] at h;have hs1:(kl n v n.toNat).p.s.fIa = 1:=by rw [F.s]; rfl
   have h1:=(PK.q_on h).1;rw [PK.off_iff,hs1] at h1;have h2:=q_page h;have e0:e = 0:=by omega
   subst e0;refine ⟨rfl,?_⟩;have:=F.q0;unfold q0s at this;rw [all_eq_true] at this;have:=this pg.toNat (mem_range.2 (by omega));rw [show ((pg.toNat:Nat):Int) = pg by omega] at this;simp only [Bool.or_eq_true,beq_iff_eq] at this;rcases this with h3 | h3
   ·omega
   ·exact absurd h3 h
  ·rw [hc];exact mH (P:=fun _ x=>x.fGa = 0/\(x.fc = ld\/x.fc = Unmap.um/\x.fat = ((3 + n.toNat:Nat):Int))) (fun d x h=>absurd h (C.idle d x)) fun x hx=>by
    cases hx;exact ⟨rfl,.inr ⟨rfl,by show ((kl n v n.toNat).events.length:Int) = _; rw [F.evs]⟩⟩
  ·rw [he];exact ⟨_,by rw [List.getElem?_append_right (by rw [F.evs]; exact le_refl _),F.evs]; simp; rfl,rfl,fun h=>absurd rfl h⟩
end Unmap
end
section
open Go Mb
theorem sp_kern_Lines (x:Ptr) (k:KK) (c:Int):Sp prog pJ [pv x,.int .i64 c] jD [cz x k] (fun r=>az [vL r (KK.lines k c),cz x k]):=by
 intro h s0;refine sim_kern_Kern_Lines _ _ ?_;unfold tF;refine bN (tt x k c) (i:=0) rfl s0 fun r h1 hr s1=>?_;subst hr;refine aX (fun d=>?_) (fun d=>?_)
 ·have e1:KK.lines k c = []:=by unfold KK.lines; rw [if_neg (by simpa using d)]
  rw [e1]; exact fJ s1
 ·have d':KK.is k c = true:=by simpa using d
  have e1:KK.lines k c = Tlb.lines (KK.buf k c):=by unfold KK.lines; rw [if_pos d']
  rw [e1];obtain ⟨z,rfl,zo,ok,st⟩:=sU s1;obtain ⟨n,rfl,hnc⟩:=is_nat d';obtain ⟨l1,l2,l3,l4,l5⟩:=kk_len ok;have hct:n < k.fNa.length:=by omega
  have hcp:n < z.tp.length:=by rw [zo.t]; exact hct
  have hts:=(cf (j:=2) st rfl).1;rw [buf_nat hct];refine cJ (bo z.ts st (i:=0) rfl rfl rfl ?_);refine de st (j:=2) rfl (by omega) (by omega) fun q hq=>?_;refine dA (j:=2) (i:=n) (k:=0) z.tp[n] gT st rfl hq (by simp) (aC hcp) (by simp) ?_;have s2:=jB (aC hcp) (aC hct) (bb [3] st rfl);refine wh (sp_tlb_Lines z.tp[n] k.fNa[n]) (i:=0) rfl s2 fun r h3 s3=>?_;refine wk s3 fun h4 s4=>?_;exact pP zo ok (bb [1,1,1] (us (aC hcp) (aC hct) zo.t s4) rfl)
end
section
open Go Mb
variable {ET:Nat} {EF:Nat × Nat}
theorem ln_len (c:jE):(am.C c).length = 4:=rfl
open Unmap in
theorem sp_ShootUnmap (c v:Int) (s:Sl) (xs:List Int) (hv:0 <= v):Sp prog mg [.int .i64 c,.int .u64 v,sv s] aB [etB ET EF,vI s xs] (fun r=>pa_ (r = true) [etB ET EF,vI s xs]):=by
 intro h st;refine rQ _ _ _ ?_;unfold lI;refine bN (i:=0) sp_begun16 rfl st fun r h1 hr s1=>?_;subst hr;refine dx rfl ?_;have m1:=mod_in c (n:=4) (by decide);have hw1:i64.wrap (2 + (i64.wrap (c.tmod 4 + 4)).tmod 4) = 2 + (i64.wrap (c.tmod 4 + 4)).tmod 4:=bk (by omega) (by omega);obtain ⟨n,hn⟩:∃ n:Nat,2 + (i64.wrap (c.tmod 4 + 4)).tmod 4 = n:=⟨(2 + (i64.wrap (c.tmod 4 + 4)).tmod 4).toNat,by omega⟩
 have hn2:2 <= n/\n <= 5:=by omega
 have F:=fine n v (by omega);have ent:(n:Int).toNat = n:=Int.toNat_natCast n;have cl:=calml (n:=n) (v:=v) F.sh.sz hv;rw [hw1,hn];refine mv (sp_shared (sz n) v F.sh) s1 fun x h2 s2=>?_;refine dx (kern_nn s2) ?_;have s2:az [cz x (kl n v 0),etB ET EF,vI s xs] h2:=s2;have hl:=(cf (j:=2) s2 rfl).1;refine Lp.intro (fun (i:Int) h=>∃ m:Nat,i = m/\m <= n/\az [cz x (kl n v m),etB ET EF,vI s xs] h) (fun (i:Int) _=>n - i.toNat) ⟨0,rfl,zero_le _,s2⟩ ?_;rintro i h5 ⟨m,rfl,hm,s5⟩;unfold il;rw [hw1,hn];have hnm:=(cl m (by omega)).now;refine aX (fun k=>?_) (fun k=>?_)
 ·have hlt:m < n:=by simpa using k
  have hw:i64.wrap ((m:Int) + 1) = ((m + 1:Nat):Int):=by rw [bk (by omega) (by omega)]; rfl
  refine bN (i:=0) (sp_Run x (kl n v m) m 0 ld (by omega)) rfl s5 fun r h6 hr s6=>?_;have e1:r = (⟨0,v⟩,true):=hr.1.trans (F.l1 m (by omega));subst e1;refine dx (by simp) ?_;rw [hw];exact ⟨⟨m + 1,rfl,hlt,s6⟩,by simp; omega⟩
 ·have hmn:m = n:=by simp at k; omega
  subst hmn;have C:=cl m (by omega);have C':Calm (3 + m) (kl m v (m:Int).toNat):=by rw [ent]; exact C
  have hcl0:((kl m v m).calls.length:Int) = m:=by
   have h1:=C.inv.ok.cl;have h2:=F.s;rw [ent] at h2;rw [h2] at h1;exact h1
  have hs0:(kl m v m).p.s = sz m:=by have h2:=F.s; rw [ent] at h2; exact h2
  have hbz:KK.busy (kl m v m) 0 = false:=by
   cases hb:KK.busy (kl m v m) 0 with
   | false=>rfl
   | true =>
    obtain ⟨x,hx⟩:=(busy_nat (c:=0) (by omega)).1 hb;exact absurd hx (C.idle 0 x)
  have hbt:(KK.begin_ (kl m v m) 0 0 Unmap.um).1 = true:=begin_does (by unfold KK.is; exact decide_eq_true (by omega)) hbz (Int.le_refl _) (by rw [hs0]; show (0:Int) < 1; decide);have hJ0:=j0 (m:=3 + m) F C' (by omega) (by rw [ent]; exact hbt);rw [ent] at hJ0;have hbn:=KK.begin_now C.inv.ok.n0 (by omega) 0 0 Unmap.um;have hbe:=begin_ep (kl m v m) 0 0 Unmap.um;have hep0:=C.ep;refine bN (i:=0) (vH x (kl m v m) 0 0 Unmap.um (by omega)) rfl s5 fun r h6 hr s6=>?_;rw [hbt] at hr;subst hr;refine dx rfl ?_;have s6:az [cz x (KK.begin_ (kl m v m) 0 0 Unmap.um).2,etB ET EF,vI s xs] h6:=s6;generalize (KK.begin_ (kl m v m) 0 0 Unmap.um).2 = k0 at s6 hJ0 hbn hbe;have hn0:k0.now <= 8 * 120100 + 1:=by omega
  have he0:k0.fFa.1.length <= 24 * 8:=by rw [hbe]; omega
  refine Lp.intro (fun (i:Int) h=>∃ (a:Nat) (k:KK),i = a/\a <= xs.length/\a <= 80/\J m (3 + m) k/\k.now <= 8 * 120100 + 1 + a/\k.fFa.1.length <= 192 + a/\az [cz x k,etB ET EF,vI s xs] h) (fun (i:Int) _=>xs.length - i.toNat) ⟨0,k0,rfl,zero_le _,zero_le _,hJ0,by omega,by omega,s6⟩ ?_;rintro i h7 ⟨a,k,rfl,ha,ha80,H,hk,hep,s7⟩;unfold ik;rw [hw1,hn];refine aX (fun d=>?_) (fun d=>?_)
  ·have hc:a < xs.length/\a < 80:=by rw [hl] at d; simp at d; omega
   have hlt:=hc.1;have hw:i64.wrap ((a:Int) + 1) = ((a + 1:Nat):Int):=by rw [bk (by omega) (by omega)]; rfl
   refine de s7 (j:=2) rfl (by omega) (by omega) fun q hq=>?_;refine dA (j:=2) (i:=a) (k:=0) xs[a] (cn _) s7 rfl hq rfl (aC hlt) (by simp) ?_;refine ⟨by omega,?_⟩;refine dA (j:=2) (i:=a) (k:=0) xs[a] (cn _) s7 rfl hq rfl (aC hlt) (by simp) ?_;rw [hw];generalize (i64.wrap (xs[a].tmod m + m)).tmod m = cc;refine aX (fun _=>?_) (fun _=>?_)
   ·refine bN (i:=0) (sp_kern_Post x k cc (by omega)) rfl s7 fun _ h8 _ s8=>?_;have hb:=KK.post_now H.inv.ok.n0 (by omega) cc;exact ⟨⟨a + 1,_,rfl,hlt,by omega,H.post (by omega) cc,by omega,by rw [post_ep]; omega,s8⟩,by simp; omega⟩
   ·refine bN (i:=0) (mE x k cc) rfl s7 fun r h8 hr s8=>?_;have s8:az [cz x k,etB ET EF,vI s xs] h8:=s8;refine aX (fun _=>?_) (fun _=>?_)
    ·refine bN (i:=0) (sp_kern_Step x k cc (by omega)) rfl s8 fun _ h9 _ s9=>?_;have hb:=KK.step_now H.inv.ok.n0 (by omega) cc;have hepn:=step_ep H.toIE (by omega) cc;exact ⟨⟨a + 1,_,rfl,hlt,by omega,H.step (by omega) cc,by omega,by omega,s9⟩,by simp; omega⟩
    ·refine bN (i:=0) (vH x k cc 0 ld (by omega)) rfl s8 fun _ h9 _ s9=>?_;have hb:=KK.begin_now H.inv.ok.n0 (by omega) cc 0 ld;exact ⟨⟨a + 1,_,rfl,hlt,by omega,H.begin (by omega) cc,by omega,by rw [begin_ep]; omega,s9⟩,by simp; omega⟩
  ·have hcl:(k.calls.length:Int) = m:=by
    have h1:=H.inv.ok.cl;rw [H.s] at h1;exact h1
   have S:=tM (m:=997) (closed (n:=m) (u:=3 + m)) (cores:=m) H (by omega) (by omega) (by omega) (by omega) H.awake;refine bN (i:=0) (sp_Settle x k m 1000 (by omega) (le_refl _) (by omega)) rfl s7 fun r h8 hr s8=>?_;have hr1:r = (KK.settle m (997 + 3) k).1:=hr.1;rw [S.1] at hr1;subst hr1;refine dx rfl ?_;have s8:az [cz x (KK.settle m (997 + 3) k).2,etB ET EF,vI s xs] h8:=s8;have H':=S.2.all;have hid:=S.2.idle;have hno:=S.2.now;have how:=S.2.own;have hsl:=S.2.len;generalize (KK.settle m (997 + 3) k).2 = k' at s8 H' hid hno how hsl;have hR0:Rest (sz m) 2000000 400 k':=⟨H'.toAll,H'.s,hid,by omega,by omega⟩
   have hq0:=H'.clear hid;have hcl':k'.calls.length = m:=by omega
   refine Lp.intro (fun (i:Int) h=>∃ (a:Nat) (k:KK),i = a/\a <= m/\Rest (sz m) (2000000 + a * 120100) (400 + a * 24) k/\(∀ e pg,(PK.q k.p e pg).fBa = 0)/\k.calls.length = m/\az [cz x k,etB ET EF,vI s xs] h) (fun (i:Int) _=>m - i.toNat) ⟨0,k',rfl,zero_le _,by simpa using hR0,hq0,hcl',s8⟩ ?_;rintro i h9 ⟨a,k,rfl,ha,R,hq,hcl,s9⟩;have hRn:=R.now;have hRe:=R.ep;unfold ij;rw [hw1,hn];refine aX (fun d2=>?_) (fun d2=>?_)
   ·have hlt:a < m:=by simpa using d2
    have hw:i64.wrap ((a:Int) + 1) = ((a + 1:Nat):Int):=by rw [bk (by omega) (by omega)]; rfl
    refine wh (i:=0) (sp_kern_Lines x k a) rfl s9 fun u h10 s10=>?_;have hul:=(cf (j:=0) s10 rfl).1;have s10:az [vL u (KK.lines k a),cz x k,etB ET EF,vI s xs] h10:=s10;refine Lp.intro (fun (z:Int) h=>∃ t:Nat,z = t/\t <= (KK.lines k a).length/\az [vL u (KK.lines k a),cz x k,etB ET EF,vI s xs] h) (fun (z:Int) _=>(KK.lines k a).length - z.toNat) ⟨0,rfl,zero_le _,s10⟩ ?_;rintro z h11 ⟨t,rfl,ht,s11⟩;unfold ii;have hll:=lines_len R.inv (c:=a) (by omega);refine aX (fun d3=>?_) (fun d3=>?_)
    ·have hlt2:t < (KK.lines k a).length:=by rw [hul] at d3; simpa using d3
     have hw2:i64.wrap ((t:Int) + 1) = ((t + 1:Nat):Int):=by rw [bk (by omega) (by omega)]; rfl
     refine de s11 (j:=0) rfl (by omega) (by omega) fun q hq1=>?_;refine dA (j:=0) (i:=t) (k:=0) (KK.lines k a)[t] ln_len s11 rfl hq1 rfl (aC hlt2) (by simp) ?_;have hneg:¬ 0 <= (KK.lines k a)[t].fCa:=fun h0=>no_line R.inv (by omega) (List.getElem_mem hlt2) h0 (hq _ _);refine dx (decide_eq_false hneg) ?_;rw [hw2];exact ⟨⟨t + 1,rfl,hlt2,s11⟩,by simp; omega⟩
    ·have s12:az [cz x k,etB ET EF,vI s xs] h11:=bX (l:=[_]) s11;obtain ⟨k2,r1,r2,r3,r4,r5,r6⟩:=run_fault R (by omega) (by omega) (c:=a) (by omega) (a:=0) ⟨Int.le_refl _,show (0:Int) < 1 by decide⟩ usr (hq _ _);refine bN (i:=0) (sp_Run x k a 0 ld (by omega)) rfl s12 fun r h12 hr s13=>?_;have e1:r = (⟨7,0⟩,true):=hr.1.trans r2;subst e1;refine dx rfl ?_;rw [hw];have s13:az [cz x (KK.run k a 0 ld).2,etB ET EF,vI s xs] h12:=s13;rw [r1] at s13;exact ⟨⟨a + 1,k2,rfl,hlt,by rw [show 2000000 + ((a + 1:Nat):Int) * 120100 = 2000000 + (a:Int) * 120100 + 120100 by omega,show 400 + (a + 1) * 24 = 400 + a * 24 + 24 by omega]; exact r3,by rw [r6]; exact hq,by rw [r4,hcl],s13⟩,by simp; omega⟩
   ·refine wh (i:=0) (tu x k (by omega)) rfl s9 fun u h10 s10=>?_;have hev:=R.inv.ok.evn;refine bN (i:=0) (sp_judge_Right u k.events (sz m) F.sh.sz (by omega) (ordN u (by omega))) rfl s10 fun r h11 hr s11=>?_;have hRt:=R.toAll.right.1;rw [R.sz] at hRt;exact aY (hr.trans hRt) (bX (l:=[_,_]) s11)
end
section
open Go Mb Go.ChangeShapes Go.WideShapes Go.RowKit
theorem decShootUnmap3 (cs:List Value) (h:uz [.i .i64] cs):∃ x:{x:Int // uz [.i .i64] ((cI .i64) x)},(cI .i64) x.1 = cs:=by
 have h0:=h;obtain ⟨a0,r0,rfl,_,h⟩:=fit_i h;obtain rfl:=fit_nil h;exact ⟨⟨a0,h0⟩,rfl⟩
set_option maxRecDepth 100000 in
theorem lifted_13 (os:Os) (started:os.Started) (H:Type) (enc:TypeId × Value->H) :
  ReturnsInHanded {} Tryz.checked os 13 .any (fun w args=>(Rows.shootUnmapSpec.pre enc prog Tryz.f13 [] false w args/\laidMetH prog laid w)/\sizedMet enc prog Tryz.f13 (OpenSpec.ofChange Rows.shootUnmapSpec) false w args)
   (Rows.shootUnmapSpec.post enc prog Tryz.f13 false true false false):=by
 refine returnsInHanded_of_change_and (C:=Tryz.checked) (X:=fun w _=>laidMetH prog laid w) (fun _ _ _ hh h=>h.of_heap hh) Tryz.own started (by kernel_rfl) func13
  (ChangeSpec.witness_at (enc:=enc) (C:=Tryz.checked) (os:=os) (X:=fun w _=>laidMetH prog laid w) false (laidWorld os) #[.int .i64 0,.int .u64 0,.slice none 0 0] 8 rfl (by kernel_rfl) (by kernel_rfl) (by kernel_rfl) (by kernel_rfl) (by kernel_rfl) (laidWorld_met os _)) ?_
 intro W base args ds gs before hval0 hW _ _ hL _;have hval:∀ (j:Nat) t v,Tryz.f13.params[j]? = some t->args[j]? = some v->Value.okWide prog W .any base t v:=hval0;have hW':=hW;obtain ⟨p,q,hA0,hV0,rfl,hfz,hnd⟩:=hW;have hA:DataW.TrodAll enc prog W 0 (fun _=>true) true Tryz.f13.params.toList args.toList ds p:=hA0;have hV:DataW.TrodVars enc prog W (fun _=>true) [] gs q:=hV0;rw [Tryz.params13] at hA hval;have hst:=hA;obtain ⟨T,F,hb⟩:=block_of_laid hL;obtain ⟨rfl,rfl⟩:gs = []/\q = []:=by
  cases gs with
  | nil=>exact ⟨rfl,hV⟩
  | cons g r=>exact absurd hV (by intro h; cases h)
 obtain ⟨v0,w0,d0,e0,p0,q0,hx0,rfl,rfl,h0,hA0⟩:=trodAll_cons hA;obtain ⟨v1,w1,d1,e1,p1,q1,hx1,rfl,rfl,h1,hA1⟩:=trodAll_cons hA0;obtain ⟨v2,w2,d2,e2,p2,q2,hx2,rfl,rfl,h2,hA2⟩:=trodAll_cons hA1;obtain ⟨hy,rfl,rfl⟩:=trodAll_nil hA2;subst hy;subst hx2;subst hx1;obtain rfl:args = #[v0,v1,v2]:=by apply ext'; exact hx0
 obtain ⟨n0,rfl,rfl,rfl,hw0⟩:=open_int underlying3 (hval 0 3 v0 rfl rfl) h0;obtain ⟨n1,rfl,rfl,rfl,hw1⟩:=open_int underlying22 (hval 1 22 v1 rfl rfl) h1;obtain ⟨s2,ys2,rfl,A2⟩:=open_arg (m:=1) (ks:=[.i .i64]) (enc':=fun x:{x:Int // uz [.i .i64] ((cI .i64) x)}=>(cI .i64) x.1) underlying39 (by kernel_rfl) (by kernel_rfl) (by decide) decShootUnmap3 (hval 2 39 v2 rfl rfl) h2 (fun b o hb=>hfz b o (by simp [hb])) hb no_iface;obtain ⟨A2,hf2⟩:=A2.sub;generalize ys2.map (·.1) = xs2 at A2 hf2;refine (run_spV A2 (ET:=T) (EF:=F) (sp_ShootUnmap n0 n1 s2 xs2 (wf_u hw1).1) hb).mono fun e W' ⟨he,hk⟩=>?_;subst he;refine ⟨_,rfl,_,_,_,[],(([]:List MemPlace)++(([]:List MemPlace)++(p2++[]))),[],hW',?_,?_,?_,keptBut_same hk.os hk.out hk.heap,fun h=>by cases h⟩
 ·exact trodAll_mk1 (shut_bool underlying4 true)
 ·exact same_post (by kernel_rfl) (by kernel_rfl) hst (fun p hp=>hW'.lt p (List.mem_append_left _ hp)) hk (fun p hp=>by simpa using hW'.lt p (List.mem_append_left _ hp))
 ·rfl
end
section
open Go Mb Go.ChangeShapes Go.WideShapes Go.RowKit
theorem jf0:Tryz.pinned.checked.prog.funcNamed Rows.shootUnmapRow.func = some 13:=by kernel_rfl
theorem jf1:(Rows.shootUnmapRow.wf (OpenSpec.ofChange Rows.shootUnmapSpec) && laidOutB Tryz.pinned.checked.prog && mapsRowed Tryz.pinned.checked.prog) = true:=by kernel_rfl
theorem jf2:(Tryz.f13.params.all (Tryz.pinned.checked.prog.readableRec ·) && namedTie Tryz.pinned.checked.prog Rows.shootUnmapRow.named Rows.shootUnmapSpec.vars && (Rows.shootUnmapRow.stops == []) && (Tryz.pinned.checked.prog.stops == []) && (Rows.shootUnmapRow.knobs == []) && (Tryz.pinned.checked.prog.stopKnobs == [])) = true:=by kernel_rfl
theorem jf3:(Rows.shootUnmapRow.inPlace == Tryz.pinned.checked.prog.inPlace 13) = true:=by kernel_rfl
theorem jf4:(Rows.shootUnmapRow.unfollowed == Tryz.pinned.checked.prog.unfollowed 13) = true:=by kernel_rfl
theorem jf5:(Rows.shootUnmapRow.recurses == Tryz.pinned.checked.prog.recurses 13) = true:=by kernel_rfl
theorem jf6:(Rows.shootUnmapRow.named == Tryz.pinned.checked.prog.varsNamed 13) = true:=by kernel_rfl
theorem jf7:((Rows.shootUnmapRow.maps == (Tryz.f13.params.toList++Rows.shootUnmapSpec.plain.varTypes Tryz.pinned.checked.prog).any (Tryz.pinned.checked.prog.mapsRec ·)) && (Rows.shootUnmapRow.ifaces == (Tryz.f13.params.toList++Rows.shootUnmapSpec.plain.varTypes Tryz.pinned.checked.prog).any (Tryz.pinned.checked.prog.ifacesRec ·)) && (Rows.shootUnmapRow.mapsOut == Tryz.pinned.checked.prog.mapsAmong Tryz.f13.resultTypes.toList) &&
 (Rows.shootUnmapRow.loops == (Tryz.f13.params.toList++Rows.shootUnmapSpec.plain.varTypes Tryz.pinned.checked.prog).any (Tryz.pinned.checked.prog.loopsFrom ·)) && (Rows.shootUnmapRow.wideKeys == (Tryz.f13.params.toList++Rows.shootUnmapSpec.plain.varTypes Tryz.pinned.checked.prog++Tryz.f13.resultTypes.toList).any (Tryz.pinned.checked.prog.wideKeysFrom ·)) &&
 Rows.shootUnmapSpec.vars.all (Tryz.pinned.checked.prog.varReadable ·) && Tryz.f13.resultTypes.all (fun t=>Tryz.pinned.checked.prog.readableRec t && decide (t < Tryz.pinned.checked.prog.types.size)) && (Rows.shootUnmapRow.ifacesOut == Tryz.f13.resultTypes.toList.any (Tryz.pinned.checked.prog.ifacesRec ·)) && (Rows.shootUnmapRow.loopsOut == Tryz.f13.resultTypes.toList.any (Tryz.pinned.checked.prog.loopsFrom ·))) = true:=by kernel_rfl
theorem jf8:(Rows.shootUnmapRow.plainKeys == Tryz.pinned.checked.prog.plainKeys) = true:=by kernel_rfl
theorem jf9:(Rows.shootUnmapRow.shortTexts.isNone && Tryz.pinned.checked.prog.stopsHeard && Tryz.pinned.checked.prog.mayEnter && (Rows.shootUnmapRow.lifted == Tryz.pinned.checked.prog.liftsFinal) && (Tryz.pinned.checked.prog.make == some Rows.shootUnmapRow.make) && kindsB Tryz.pinned.checked.prog Tryz.f13 Rows.shootUnmapRow && (Rows.shootUnmapRow.pinned == Rows.shootUnmapRow.pinnedBy) &&
 (Rows.shootUnmapRow.veiled == (Tryz.f13.params.toList++Rows.shootUnmapSpec.plain.varTypes Tryz.pinned.checked.prog++Tryz.f13.resultTypes.toList).any (Tryz.pinned.checked.prog.veiledRec ·)) && Rows.shootUnmapRow.veiledFits Tryz.pinned.checked.prog Tryz.f13.params.toList (Tryz.f13.params.toList++Rows.shootUnmapSpec.plain.varTypes Tryz.pinned.checked.prog++Tryz.f13.resultTypes.toList)) = true:=by kernel_rfl
theorem said_13:Rows.ShootUnmapSaid :=
 OpenClaim.holds_of_wide 13 Tryz.f13 rfl rfl rfl rfl rfl rfl rfl ⟨rfl,rfl,rfl,rfl,rfl⟩ rfl rfl rfl rfl rfl jf0 func13 (joined_split jf1 jf2 jf3 jf4 jf5 jf6 jf7 jf8 jf9)
  (of_decide_eq_true (by kernel_rfl)) (by unfold Func.isWrapper; rw [if_neg (of_decide_eq_false (by kernel_rfl))]; exact ⟨rfl,rfl⟩)
  (fun os started H enc _=>lifted_13 os started H enc)
theorem shootUnmap_holds:Rows.ShootUnmapCardSaid :=
 Claim7.holds_tied_plain_at .later [] [.handle] true (true, "a63c83af46769ae5b2e0de3169bc55eed442217913052e397606a55bd0c0baed") true
  said_13 (fun _ h=>by cases h) (by kernel_rfl) (fun _ h=>by cases h) shootUnmap_row_tie rfl ⟨rfl,rfl⟩ (by kernel_rfl) rfl
  (fun f fn hf hfn=>by
   obtain rfl:f = 13:=Option.some.inj ((show prog.funcNamed "messuage/messuagelaw16.ShootUnmap" = some 13 by kernel_rfl).symm.trans hf) |>.symm;obtain rfl:fn = Tryz.f13:=(Option.some.inj (func13.symm.trans hfn)).symm;exact ⟨by kernel_rfl,fun j t ht=>by
    rw [Tryz.params13] at ht;exact want_all (by kernel_rfl) (j:=j) (t:=t) ht⟩)
  (by kernel_rfl)
end
end Go.Proofs.YtemoifebbhoinaaGreatDoor
