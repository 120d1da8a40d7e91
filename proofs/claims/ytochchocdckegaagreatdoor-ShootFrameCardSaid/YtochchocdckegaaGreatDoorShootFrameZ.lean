/- The law ShootFrame returns true for every input, and leaves its arguments as they were. -/
import Derived.Test.YtochchocdckegaaGreatDoorShootFrame16
import Derived.Test.YtochchocdckegaaGreatDoorCards
import Derived.Test.YtochchocdckegaaGreatDoorRows
import Derived.Test.YtochchocdckegaaGreatDoorTie
set_option linter.all false
set_option maxRecDepth 20000
namespace Go.Proofs.YtochchocdckegaaGreatDoor
open Go.Proofs.Tryz
open Go.IntKind (i64 u64)
open _root_.Array (ext')
open _root_.Bool (and_eq_true)
open _root_.Int (le_refl)
open _root_.List (all_eq_true drop_drop getElem?_eq_getElem getElem?_set length_append mem_range range take_append_drop)
open _root_.Nat (succ_mul zero_le)
open _root_.Option (bind_eq_some_iff)
section
open Go Mb
abbrev Pick:=eA
abbrev vK (s:Sl) (xs:List Pick):As:=vec t_api_Pick 10 eA.C s xs
theorem pick_len (p:Pick):p.C.length = 10:=rfl
theorem pick_one (p:Pick):dO p.C = true:=rfl
namespace Fair
def longFrom (kind core:Int):List Pick->Int->Int->Int
 | [],best,_=>best
 | p::ps,best,now=>if p.fKind = kind/\p.fQa = core then longFrom kind core ps (mx best 0) 0 else longFrom kind core ps (mx best (i64.wrap (now + 1))) (i64.wrap (now + 1))
def longest (ps:List Pick) (kind core:Int):Int:=longFrom kind core ps 0 0
def okCore (ps:List Pick) (b:Int) (c:Nat):Bool:=decide (longest ps 2 c < b) && decide (longest ps 3 c < b)
def fair (ps:List Pick) (cores b:Int):Bool:=(range cores.toNat).all (okCore ps b)
def pk (kind:Int) (c:Nat):Pick:=⟨kind,c,0,⟨0,0,0,0,0⟩,0,0⟩
def line (kind:Int) (c:Nat):List Pick:=(range c).map (pk kind)
def lines (c:Nat) (kinds:List Int):List Pick:=kinds.flatMap fun k=>line k c
def turns (c n:Nat):List Pick:=(range n).flatMap fun _=>lines c [3,2]
def rounds (cores n:Int):List Pick:=if cores < 1\/cores > 8\/n < 0\/n > 500 then [] else turns cores.toNat n.toNat
theorem line_len (kind:Int) (c:Nat):(line kind c).length = c:=by simp [line]
theorem line_succ (kind:Int) (c:Nat):line kind (c + 1) = line kind c++[pk kind c]:=by simp [line,List.range_succ]
theorem turns_succ (c n:Nat):turns c (n + 1) = turns c n++lines c [3,2]:=by simp [turns,List.range_succ]
theorem lines_len (c:Nat):∀ (ks:List Int),(lines c ks).length = ks.length * c
 | []=>by simp [lines]
 | k::ks=>by
  have:=lines_len c ks;simp only [lines,List.flatMap_cons,length_append,line_len,List.length_cons,succ_mul] at this ⊢;omega
theorem turns_len (c n:Nat):(turns c n).length = n * (2 * c):=by
 induction n with
 | zero=>simp [turns]
 | succ n ih=>rw [turns_succ,length_append,ih,lines_len,Nat.add_mul n 1,Nat.one_mul]; rfl
end Fair
theorem sp_fair_Longest (s:Sl) (ps:List Pick) (kind core:Int) (hb:ps.length < 2 ^ 40):Sp prog pT [sv s,.int .i64 kind,.int .i64 core] eH [vK s ps] (fun r=>pa_ (r = Fair.longest ps kind core) [vK s ps]):=by
 intro h s0;have hl:=(cj (j:=0) s0 rfl).1;refine sim_fair_Longest _ _ _ ?_;unfold sh_fair_Longest;refine Lp.intro (fun (z:Int × Int × Int) h=>∃ n:Nat,z.2.2 = n/\n <= ps.length/\Fair.longFrom kind core (ps.drop n) z.1 z.2.1 = Fair.longest ps kind core/\aB [vK s ps] h) (fun (z:Int × Int × Int) _=>ps.length - z.2.2.toNat) ⟨0,rfl,zero_le _,rfl,s0⟩ ?_;rintro ⟨best,now,i⟩ h ⟨n,rfl,hn,he,s1⟩;unfold sq;simp only at he ⊢;refine aY (fun k=>?_) (fun k=>?_)
 ·have hlt:n < ps.length:=by rw [hl] at k; simpa using k
  have hw:i64.wrap ((n:Int) + 1) = ((n + 1:Nat):Int):=by rw [bm (by omega) (by omega)]; rfl
  rw [List.drop_eq_getElem_cons hlt,Fair.longFrom] at he;refine dk s1 (j:=0) rfl (by omega) (by omega) fun q hq=>?_;refine dD (j:=0) (i:=n) (k:=0) ps[n] pick_len s1 rfl hq rfl (aF hlt) (by simp) ?_;rw [hw];refine aY (fun k2=>?_) (fun k2=>?_)
  ·have k2':ps[n].fKind = kind/\ps[n].fQa = core:=by simpa using k2
   rw [if_pos k2'] at he;exact ⟨⟨n + 1,rfl,hlt,he,s1⟩,by simp; omega⟩
  ·have k2':¬ (ps[n].fKind = kind/\ps[n].fQa = core):=by simpa using k2
   rw [if_neg k2'] at he;exact ⟨⟨n + 1,rfl,hlt,he,s1⟩,by simp; omega⟩
 ·have:n = ps.length:=by rw [hl] at k; simp at k; omega
  subst this;rw [List.drop_length] at he;exact ba he s1
theorem sp_fair_Fair (s:Sl) (ps:List Pick) (cores b:Int) (hb:ps.length < 2 ^ 40) (hc:cores < 2 ^ 62):Sp prog n_fair_Fair [sv s,.int .i64 cores,.int .i64 b] aC [vK s ps] (fun r=>pa_ (r = Fair.fair ps cores b) [vK s ps]):=by
 intro h s0;refine sim_fair_Fair _ _ _ ?_;unfold sh_fair_Fair;refine Lp.intro (fun (i:Int) h=>∃ n:Nat,i = n/\n <= cores.toNat/\(∀ c,c < n->Fair.okCore ps b c = true)/\aB [vK s ps] h) (fun (i:Int) _=>cores.toNat - i.toNat) ⟨0,rfl,zero_le _,fun c hc=>by omega,s0⟩ ?_;rintro i h ⟨n,rfl,hn,ho,s1⟩;unfold yt;refine aY (fun k=>?_) (fun k=>?_)
 ·have hlt:n < cores.toNat:=by have:=of_decide_eq_true k; omega
  have hw:i64.wrap ((n:Int) + 1) = ((n + 1:Nat):Int):=by rw [bm (by omega) (by omega)]; rfl
  have no:Fair.okCore ps b n = false->Fair.fair ps cores b = false:=fun hf=>by
   unfold Fair.fair;cases ha:(range cores.toNat).all (Fair.okCore ps b) with
   | false=>rfl
   | true=>rw [all_eq_true.1 ha n (mem_range.2 hlt)] at hf; cases hf
  refine bM (sp_fair_Longest s ps 2 n hb) (i:=0) rfl s1 fun r h2 hr s2=>?_;subst hr;refine aY (fun k2=>?_) (fun k2=>?_)
  ·have k2':Fair.longest ps 2 n < b:=by simpa using k2
   refine bM (sp_fair_Longest s ps 3 n hb) (i:=0) rfl s2 fun r h3 hr s3=>?_;subst hr;refine aY (fun k3=>?_) (fun k3=>?_)
   ·have k3':¬ Fair.longest ps 3 n < b:=by simp at k3; omega
    exact ba (no (by simp [Fair.okCore,k3'])).symm s3
   ·have k3':Fair.longest ps 3 n < b:=by simp at k3; omega
    rw [hw];refine ⟨⟨n + 1,rfl,hlt,fun c hc=>?_,s3⟩,by simp; omega⟩;by_cases e:c = n
    ·subst e; simp [Fair.okCore,k2',k3']
    ·exact ho c (by omega)
  ·have k2':¬ Fair.longest ps 2 n < b:=by simp at k2; omega
   exact ba (no (by simp [Fair.okCore,k2'])).symm s2
 ·have:n = cores.toNat:=by have:=of_decide_eq_false k; omega
  subst this;refine ba ?_ s1;unfold Fair.fair;exact (all_eq_true.2 fun c hc=>ho c (mem_range.1 hc)).symm
theorem sp_fair_Rounds (cores n:Int):Sp prog wo [.int .i64 cores,.int .i64 n] oZ [] (fun r=>aB [vK r (Fair.rounds cores n)]):=by
 intro h s0;refine sim_fair_Rounds _ _ ?_;unfold sh_fair_Rounds;refine aY (fun k=>?_) (fun k=>?_)
 ·have e1:Fair.rounds cores n = []:=if_pos (by simpa [or_assoc] using k);rw [e1]; exact gg s0
 ·have k':¬ (cores < 1\/cores > 8\/n < 0\/n > 500):=by simp at k; omega
  have e1:Fair.rounds cores n = Fair.turns cores.toNat n.toNat:=if_neg k';rw [e1];obtain ⟨C,rfl⟩:=Int.eq_ofNat_of_zero_le (show 0 <= cores by omega);obtain ⟨N,rfl⟩:=Int.eq_ofNat_of_zero_le (show 0 <= n by omega);simp only [Int.toNat_natCast];refine ft (τ:=Pick) [] (val:=fun x=>.agg x.C.toArray) (enc:=eA.C) el_Sapi_Pick pick_len (fun _=>rfl) s0 rfl rfl (by simp) fun v h1 s1=>?_;refine Lp.intro (fun (z:Sl × Int) h=>∃ j:Nat,z.2 = j/\j <= N/\aB [vK z.1 (Fair.turns C j)] h) (fun (z:Sl × Int) _=>N - z.2.toNat) ⟨0,rfl,zero_le _,s1⟩ ?_;rintro ⟨z,i⟩ h ⟨j,rfl,hj,s2⟩;unfold uC;refine aY (fun k2=>?_) (fun k2=>?_)
  ·have hlt:j < N:=by have:=of_decide_eq_true k2; simp at this; exact this
   have hw:i64.wrap ((j:Int) + 1) = ((j + 1:Nat):Int):=by rw [bm (by omega) (by omega)]; rfl
   have htl:=Fair.turns_len C j;have hC:C <= 8:=by omega
   have hjb:j * (2 * C) <= 500 * 16:=Nat.mul_le_mul (by omega) (by omega);refine ft (τ:=Int) [3,2] (val:=fun x=>.int .i64 x) (enc:=cI .i64) el_Sint (ck _) (fun _=>rfl) s2 rfl rfl (by decide) fun vk h3 s3=>?_;have hvl:=(cj (j:=0) s3 rfl).1;refine Lp.intro (fun (y:Sl × Int) h=>∃ m:Nat,y.2 = m/\m <= 2/\aB [vK y.1 (Fair.turns C j++Fair.lines C (([3,2]:List Int).take m)),vec lL 1 (cI .i64) vk [3,2]] h) (fun (y:Sl × Int) _=>2 - y.2.toNat) ⟨0,rfl,zero_le _,by
    have s4:=bd (m:=[vK z (Fair.turns C j),vec lL 1 (cI .i64) vk [3,2]]) [1] s3 rfl;simpa [Fair.lines] using s4⟩ ?_
   rintro ⟨y,i2⟩ h ⟨m,rfl,hm,s4⟩;unfold uB;refine aY (fun k3=>?_) (fun k3=>?_)
   ·have hlt2:m < 2:=by rw [hvl] at k3; have:=of_decide_eq_true k3; simp at this; omega
    have hw2:i64.wrap ((m:Int) + 1) = ((m + 1:Nat):Int):=by rw [bm (by omega) (by omega)]; rfl
    have hkl:m < ([3,2]:List Int).length:=hlt2;refine dk s4 (j:=1) rfl (by omega) (by simp; omega) fun q hq=>?_;refine dD (j:=1) (i:=m) (k:=0) ([3,2]:List Int)[m] (ck _) s4 rfl hq (by simp) (aF hkl) (by simp) ?_;have hll:=Fair.lines_len C (([3,2]:List Int).take m);have hlb:(([3,2]:List Int).take m).length * C <= 2 * 8:=Nat.mul_le_mul (by simp; omega) (by omega);refine Lp.intro (fun (x:Sl × Int) h=>∃ p:Nat,x.2 = p/\p <= C/\aB [vK x.1 (Fair.turns C j++Fair.lines C (([3,2]:List Int).take m)++Fair.line ([3,2]:List Int)[m] p),vec lL 1 (cI .i64) vk [3,2]] h) (fun (x:Sl × Int) _=>C - x.2.toNat) ⟨0,rfl,zero_le _,by simpa [Fair.line] using s4⟩ ?_;rintro ⟨x,i3⟩ h ⟨p,rfl,hp,s5⟩;have hpl:=Fair.line_len ([3,2]:List Int)[m] p;unfold uA;refine aY (fun k4=>?_) (fun k4=>?_)
    ·have hlt3:p < C:=by have:=of_decide_eq_true k4; simp at this; exact this
     have hw3:i64.wrap ((p:Int) + 1) = ((p + 1:Nat):Int):=by rw [bm (by omega) (by omega)]; rfl
     refine lr (τ:=Pick) (i:=0) (enc:=eA.C) (val:=fun x=>.agg x.C.toArray) (x:=Fair.pk ([3,2]:List Int)[m] p) el_Sapi_Pick pick_len pick_one (fun _=>rfl) (by omega) rfl rfl s5 rfl (by simp only [length_append]; omega) (by simp only [length_append]; omega) fun v h6 s6=>?_;rw [hw3];refine ⟨⟨p + 1,rfl,hlt3,?_⟩,by simp; omega⟩;rw [Fair.line_succ,← List.append_assoc];exact s6
    ·have:p = C:=by have:=of_decide_eq_false k4; simp at this; omega
     subst this;rw [hw2];refine ⟨⟨m + 1,rfl,hlt2,?_⟩,by simp; omega⟩;have et:([3,2]:List Int).take (m + 1) = ([3,2]:List Int).take m++[([3,2]:List Int)[m]]:=by rw [List.take_add_one,aF hkl]; rfl
     have el:Fair.lines p (([3,2]:List Int).take (m + 1)) = Fair.lines p (([3,2]:List Int).take m)++Fair.line ([3,2]:List Int)[m] p:=by
      rw [et]; unfold Fair.lines; rw [List.flatMap_append]; simp
     rw [el,← List.append_assoc];exact s5
   ·have:m = 2:=by rw [hvl] at k3; have:=of_decide_eq_false k3; simp at this; omega
    subst this;rw [hw];refine ⟨⟨j + 1,rfl,hlt,?_⟩,by simp; omega⟩;rw [Fair.turns_succ];exact mJ (l:=[vK y (Fair.turns C j++Fair.lines C [3,2])]) s4
  ·have:j = N:=by have:=of_decide_eq_false k2; simp at this; omega
   subst this;exact s2
end
section
open Go Mb
def xy (a0:Sl) (a1:Int) (K:kT Sl) (Rec2:kT (Sl × Int)) (s1:Sl × Int):hT:=br (decide (s1.2 < (a0.len:Int))) ( ix a0 s1.2 fun q12=>ld (q12.1,q12.2 + Int.toNat s1.2 * 16) aG.C fun x13=>br ((x13.fCa == a1) && (decide (x13.fXa > 0))) ( hpv prog (Instr.buildSlice nG 1 #[(0,(.agg (ab.C x13.fYa).toArray))]) nP fun (v26:Sl)=>hpv prog (Builtin.append_ #[nG,nG] nG #[(sv s1.1),(sv v26)]) nP fun (v27:Sl)=>Rec2 (v27,(i64.wrap (s1.2 + 1)))) ( Rec2 (s1.1,(i64.wrap (s1.2 + 1))))) ( K s1.1)
def sh_twin_View (a0:Sl) (a1:Int) (K:kT Sl):hT:=Lp (xy a0 a1 K) ((⟨none,0,0,none⟩:Sl),0)
theorem sim_twin_View (a0:Sl) (a1:Int) {K:kT Sl} {h:Hp} (H:sh_twin_View a0 a1 K h):cl prog n_twin_View [(sv a0),(.int .i64 a1)] nP K h:=z_i func31 p p fun _=>O<|U p<|O<|U p<|am<|O<|M p<|J (dK p underlying22 p)<|M p<|ad<|ax<|bv (step:=xy a0 a1 K) (fun s1=>[(1,(.int .i64 a1)),(5,(sv s1.1)),(8,(sv a0)),(9,(.int .i64 (a0.len:Int))),(10,(.int .i64 s1.2))]) (fun s1=>[]) H (.cons p<|.cons p<|.cons p<|.cons p<|.cons p<|.nil _) .slnil fun Rec2 s1 _ H3=>O<|J (cn p p)<|ad<|am<|aw p H3 (fun k4 H5=>an<|am<|ax<|O<|cz H5 fun q12 e6 h7 H8=>J (bf rY (aJ p<|aX e6) p h7)<|aa<|hG H8 ag_40 p (fun _=>p) p fun x13 H9=>aa<|aI (l:=aG.C (⟨0,0,(⟨0,0,0,0,0⟩:ah),0,0,0,(⟨0,0⟩:ab),(⟨0,0,0,0⟩:ap)⟩:aG)) zero_40 p p fun b7=>aa<|aP (k:=0) (vs:=aG.C x13) inf_40 p p p p p p p<|ad<|O<|J (ae nM p)<|bn (be (k:=0) bc p p p) p<|M p<|J (bP p p)<|M p<|W p p (ay _) (fun g10=>wv<|ae rQ p)<|W p p (ay _) (fun g11=>cv<|be (k:=0) bc (aD p g11) p p)<|W p p (ay _) (fun g12=>wv<|pb (aD p g12) p)<|J (bO p p)<|ad<|aw p H9 (fun k13 H14=>aq<|M p<|J (ae jD p)<|bn (bH (k:=0) cM p p p p) p<|aa<|aT H14 (bw (vs:=[(.agg (ab.C x13.fYa).toArray)]) p) p fun v26 _ H15=>aa<|aT H15 (dS p p) p fun v27 _ H16=>U p<|aq<|J (bk p p)<|M p<|ad<|cF (v27,(i64.wrap (s1.2 + 1))) H16 (.cons p<|.cons p<|.cons p<|.cons p<|.cons p<|.nil _)<|.cons _ .slnil) fun k13 H14=>an<|aq<|J (bk p p)<|M p<|ad<|cF (s1.1,(i64.wrap (s1.2 + 1))) H14 (.cons p<|.cons p<|.cons p<|.cons p<|.cons p<|.nil _)<|.cons _ .slnil) fun k4 H5=>bh<|O<|M p<|U p<|aj<|Z ⟨s1.1,p,H5⟩
end
section
open Go Mb
abbrev vA (s:Sl) (xs:List eQ):As:=vec t_api_Answer 2 ab.C s xs
theorem ans_len (p:eQ):p.C.length = 2:=rfl
theorem ans_one (p:eQ):dO p.C = true:=rfl
namespace Twin
def view (env:Int):List bp->List eQ
 | []=>[]
 | e::es=>if e.fCa = env/\e.fXa > 0 then e.fYa::view env es else view env es
def same:List eQ->List eQ->Bool
 | [],[]=>true
 | a::l,b::r=>ab.eqb a b && same l r
 | _,_=>false
theorem view_app (env:Int) (e:bp):∀ es,view env (es++[e]) = view env es++(if e.fCa = env/\e.fXa > 0 then [e.fYa] else [])
 | []=>by simp only [List.nil_append,view]
 | d::es=>by
  simp only [List.cons_append,view,view_app env e es];split <;> simp
theorem view_len (env:Int):∀ es,(view env es).length <= es.length
 | []=>Nat.le_refl _
 | e::es=>by unfold view; have:=view_len env es; split <;> simp <;> omega
end Twin
theorem sp_twin_View (s:Sl) (es:List bp) (env:Int) (hb:es.length < 2 ^ 38):Sp prog n_twin_View [sv s,.int .i64 env] nP [vE s es] (fun r=>aB [vA r (Twin.view env es),vE s es]):=by
 intro h s0;have hl:=(cj (j:=0) s0 rfl).1;refine sim_twin_View _ _ ?_;unfold sh_twin_View;refine Lp.intro (fun (z:Sl × Int) h=>∃ n:Nat,z.2 = n/\n <= es.length/\aB [vA z.1 (Twin.view env (es.take n)),vE s es] h) (fun (z:Sl × Int) _=>es.length - z.2.toNat) ⟨0,rfl,zero_le _,gg s0⟩ ?_;rintro ⟨z,i⟩ h ⟨n,rfl,hn,s1⟩;unfold xy;refine aY (fun k=>?_) (fun k=>?_)
 ·have hlt:n < es.length:=by rw [hl] at k; simpa using k
  have hw:i64.wrap ((n:Int) + 1) = ((n + 1:Nat):Int):=by rw [bm (by omega) (by omega)]; rfl
  have ht:es.take (n + 1) = es.take n++[es[n]]:=by simp
  refine dk s1 (j:=1) rfl (by omega) (by show (n:Int) < _; omega) fun q hq=>?_;refine dD (j:=1) (i:=n) (k:=0) es[n] lH s1 rfl hq rfl (aF hlt) (by simp) ?_;rw [hw];refine aY (fun k2=>?_) (fun k2=>?_)
  ·have k2':es[n].fCa = env/\es[n].fXa > 0:=by simpa using k2
   have hvl:=Twin.view_len env (es.take n);simp at hvl;refine lr (τ:=eQ) (i:=0) (enc:=ab.C) (val:=fun x=>.agg x.C.toArray) el_Sapi_Answer ans_len ans_one (fun _=>rfl) (by omega) rfl rfl s1 rfl (by omega) (by omega) fun v h2 s2=>?_;refine ⟨⟨n + 1,rfl,hlt,?_⟩,by simp; omega⟩;rw [ht,Twin.view_app,if_pos k2'];exact s2
  ·have k2':¬ (es[n].fCa = env/\es[n].fXa > 0):=by simpa using k2
   refine ⟨⟨n + 1,rfl,hlt,?_⟩,by simp; omega⟩;rw [ht,Twin.view_app,if_neg k2',List.append_nil];exact s1
 ·have:n = es.length:=by rw [hl] at k; simp at k; omega
  subst this;rw [List.take_length] at s1;exact s1
end
section
open Go Mb
variable {ET:Nat} {EF:Nat × Nat}
theorem kern_nn {l:List As} {h:Hp} {x:Ptr} {k:KK} (s:aB (ce x k::l) h):x.isNone = false:=nn_of (fun _ e=>by rw [e.1]; rfl) s
namespace B16
abbrev sz:eR:=⟨2,2,3⟩
def r1:=KK.run (KK.new ⟨2,2,3⟩) 0 0 ⟨1,1,0,0,0⟩
def r2:=KK.run r1.2 0 0 ⟨6,4,1,3,0⟩
def r3:=KK.run r2.2 1 0 ⟨21,4,2,9,0⟩
def r4:=KK.run r3.2 0 0 ⟨20,4,2,0,0⟩
def r5:=KK.run r4.2 0 0 ⟨7,4,0,0,0⟩
def es:=r5.2.events
theorem es_len:es.length = 5:=by kernel_rfl
theorem apart:Hist.may es sz = true:=by kernel_rfl
theorem now1:r1.2.now < 1000:=of_decide_eq_true (by kernel_rfl)
theorem now2:r2.2.now < 1000:=of_decide_eq_true (by kernel_rfl)
theorem now3:r3.2.now < 1000:=of_decide_eq_true (by kernel_rfl)
theorem now4:r4.2.now < 1000:=of_decide_eq_true (by kernel_rfl)
theorem now5:r5.2.now < 1000:=of_decide_eq_true (by kernel_rfl)
theorem lin:fMa.linear es sz = (-1,true):=by kernel_rfl
theorem acc:fMa.accesses es sz = (-1,true):=by kernel_rfl
theorem rgt:fMa.right es sz = true:=by kernel_rfl
end B16
theorem ord20 {es:List bp} (s:Sl) (h:es.length <= 20):Hist.Apart es->OrdOk s es:=fun ha=>sp_hist_OrderN s es (by omega) ha
theorem sp_begun16:Sp prog lB [] aC [(etB ET EF)] (fun r=>pa_ (r = true) [(etB ET EF)]):=by
 intro h st;refine wG ?_;unfold pz;refine mD (sp_kern_New ⟨2,2,3⟩ (by decide)) st fun x h1 s1=>?_;refine dx (kern_nn s1) ?_;refine bM (i:=0) (rX x _ 0 0 ⟨1,1,0,0,0⟩ (by decide)) rfl s1 fun a1 h2 e1 s2=>?_;refine bM (i:=0) (rX x B16.r1.2 0 0 ⟨6,4,1,3,0⟩ (by have:=B16.now1; omega)) rfl s2 fun a2 h3 e2 s3=>?_;refine bM (i:=0) (rX x B16.r2.2 1 0 ⟨21,4,2,9,0⟩ (by have:=B16.now2; omega)) rfl s3 fun a3 h4 e3 s4=>?_;refine bM (i:=0) (rX x B16.r3.2 0 0 ⟨20,4,2,0,0⟩ (by have:=B16.now3; omega)) rfl s4 fun a4 h5 e4 s5=>?_;refine bM (i:=0) (rX x B16.r4.2 0 0 ⟨7,4,0,0,0⟩ (by have:=B16.now4; omega)) rfl s5 fun a5 h6 e5 s6=>?_;refine xo (i:=0) (pq x B16.r5.2 (by have:=B16.now5; omega)) rfl s6 fun s h7 s7=>?_;have hes:B16.es.length < 2 ^ 38:=by rw [B16.es_len]; decide
 have hes20:B16.es.length <= 20:=by rw [B16.es_len]; decide
 refine bM (i:=0) (sp_judge_Linear s B16.es B16.sz (by decide) hes (ord20 s hes20)) rfl s7 fun r1 h8 f1 s8=>?_;refine bM (i:=0) (sp_judge_Access s B16.es B16.sz (by decide) hes (ord20 s hes20)) rfl s8 fun r2 h9 f2 s9=>?_;refine mD (sp_fair_Rounds 2 3) s9 fun t h10 s10=>?_;refine bM (i:=3) sp_Begun11 rfl s10 fun r3 h11 f3 s11=>?_;have hl:((s.len:Int) == 5) = true:=by rw [(cj (j:=1) s11 rfl).1]; kernel_rfl
 have htl:((t.len:Int) == 12) = true:=by rw [(cj (j:=0) s11 rfl).1]; kernel_rfl
 have g1:a1 = B16.r1.1:=e1.1;have g2:a2 = B16.r2.1:=e2.1;have g3:a3 = B16.r3.1:=e3.1;have g4:a4 = B16.r4.1:=e4.1;have g5:a5 = B16.r5.1:=e5.1;rw [B16.lin] at f1;rw [B16.acc] at f2;rw [f1,f2,f3,g1,g2,g3,g4,g5,hl];refine dW (by kernel_rfl) ?_;refine bM (i:=1) (sp_hist_May s B16.es B16.sz hes) rfl s11 fun r4 h12 f4 s12=>?_;refine dW (f4.trans B16.apart) ?_;refine xo (i:=1) (sp_hist_Order20 s B16.es hes20 (Hist.may_apart B16.apart)) rfl s12 fun o h13 s13=>?_;have hol:((o.len:Int) == 5) = true:=by rw [(cj (j:=0) s13 rfl).1]; kernel_rfl
 refine dW (by rw [hol,htl]; rfl) ?_;refine bM (i:=1) (sp_fair_Fair t _ 2 5 (by decide) (by decide)) rfl s13 fun r5 h14 f5 s14=>?_;refine dW (f5.trans (by kernel_rfl)) ?_;refine xo (i:=2) (sp_twin_View s B16.es 0 hes) rfl s14 fun v h15 s15=>?_;have hvl:((v.len:Int) == 5) = true:=by rw [(cj (j:=0) s15 rfl).1]; kernel_rfl
 refine dW hvl ?_;refine bM (i:=3) (sp_judge_Right s B16.es B16.sz (by decide) hes (ord20 s hes20)) rfl s15 fun r6 h16 f6 s16=>?_;exact ba (f6.trans B16.rgt) (bY (l:=[_,_,_,_,_]) s16)
end
section
open Go Mb Go.ChangeShapes Go.WideShapes Go.RowKit
theorem Tryz.own:ownKnob prog.godebug = none:=by kernel_rfl
theorem Tryz.et:prog.globalNamed "errors.errorType" = some 0:=by kernel_rfl
theorem Tryz.rt:(prog.cutTypes.find? (·.1 == "internal/reflectlite.rtype")).map (·.2) = some sx:=by kernel_rfl
abbrev laid:List (String × DataW Unit) := [("errors.errorType",Rows.laid_errors_errorType)]
theorem block_of_laid {W:World} (h:laidMetH prog laid W):∃ T F,W.heap[0]? = some (.cells #[rtV gR] T F):=by
 have h':laidMet prog [] W/\handlesMet prog laid W:=h;obtain ⟨name,u,ty,e1,e2,e3,e4,e5⟩:=h'.2 _ (List.mem_singleton.2 rfl);have en:name = [101,114,114,111,114]:=(Option.some.inj e1).symm;subst en;obtain rfl:=Option.some.inj (Tryz.rt.symm.trans e2);have hm:ty ∈ (range 318).filter fun t=>prog.rowNamed t [101,114,114,111,114]:=List.mem_filter.2 ⟨mem_range.2 (by rw [← g4]; exact e3),e4⟩;rw [oneErr] at hm;obtain rfl:=List.mem_singleton.1 hm;have hh:typeHandle prog 159 = .pointer (some ⟨4,159,none⟩):=by kernel_rfl
 rw [hh] at e5;unfold World.var? at e5;rw [Tryz.et] at e5;simp only [Option.bind_some] at e5;split at e5
 ·rename_i cs T F hq;cases e5;exact ⟨T,F,hq⟩
 ·cases e5
noncomputable def laidWorld (os:Os):World :=
 let w0:=World.holding prog os ⟨#[],#[],[]⟩
 { w0 with heap:=w0.heap.modify 0 fun
   | .cells _ t frozen=>.cells #[rtV gR] t frozen
   | o=>o }
theorem laidWorld_met (os:Os) (args:Array Value):laidMetH prog laid ((laidWorld os).forCall (fun _ _=>0) ⟨#[],args,[]⟩).memory :=
 laidMetH_of_parts (laidMet_nil _ _) (by kernel_rfl)
theorem keptBut_same {w w':World} {may:MemPlace->Prop} (h1:w'.os = w.os) (h2:w'.output = w.output) (h:∀ i,i < w.heap.size->w'.heap[i]? = w.heap[i]?):w.keptBut w' may:=by
 refine ⟨h1,h2,fun i hi=>?_⟩;have:=(World.keptBut_refl w may).2.2 i hi;rw [h i hi];exact this
def kindsB (P:Program) (fn:Func) (c:OpenClaim):Bool:=c.kinds == (if c.domain.isEmpty then [] else fn.params.toList.map fun t=>match P.underlying t with | some (.int k)=>some k | _=>none)
theorem joined_split {P:Program} {f:FuncId} {fn:Func} {s:ChangeSpec} {c:OpenClaim} (h1:(c.wf (OpenSpec.ofChange s) && laidOutB P && mapsRowed P) = true)
  (h2:(fn.params.all (P.readableRec ·) && namedTie P c.named s.vars && (c.stops == []) && (P.stops == []) && (c.knobs == []) && (P.stopKnobs == [])) = true)
  (h3:(c.inPlace == P.inPlace f) = true) (h4:(c.unfollowed == P.unfollowed f) = true) (h5:(c.recurses == P.recurses f) = true) (h6:(c.named == P.varsNamed f) = true)
  (h7:((c.maps == (fn.params.toList++s.plain.varTypes P).any (P.mapsRec ·)) && (c.ifaces == (fn.params.toList++s.plain.varTypes P).any (P.ifacesRec ·)) && (c.mapsOut == P.mapsAmong fn.resultTypes.toList) &&
 (c.loops == (fn.params.toList++s.plain.varTypes P).any (P.loopsFrom ·)) && (c.wideKeys == (fn.params.toList++s.plain.varTypes P++fn.resultTypes.toList).any (P.wideKeysFrom ·)) &&
 s.vars.all (P.varReadable ·) && fn.resultTypes.all (fun t=>P.readableRec t && decide (t < P.types.size)) && (c.ifacesOut == fn.resultTypes.toList.any (P.ifacesRec ·)) && (c.loopsOut == fn.resultTypes.toList.any (P.loopsFrom ·))) = true)
  (h8:(c.plainKeys == P.plainKeys) = true) (h9:(c.shortTexts.isNone && P.stopsHeard && P.mayEnter && (c.lifted == P.liftsFinal) && (P.make == some c.make) && kindsB P fn c && (c.pinned == c.pinnedBy) &&
 (c.veiled == (fn.params.toList++s.plain.varTypes P++fn.resultTypes.toList).any (P.veiledRec ·)) && c.veiledFits P fn.params.toList (fn.params.toList++s.plain.varTypes P++fn.resultTypes.toList)) = true):joinedFacts P f fn s c = true:=by
 unfold joinedFacts;unfold kindsB at h9;rw [and_eq_true] at h1 h2 h7 h9;simp only [and_eq_true] at h1 h2 h7 h9;obtain ⟨⟨a1,a2⟩,a3⟩:=h1;obtain ⟨⟨⟨⟨⟨b1,b2⟩,b3⟩,b4⟩,b5⟩,b6⟩:=h2;obtain ⟨⟨⟨⟨⟨⟨⟨⟨c1,c2⟩,c3⟩,c4⟩,c5⟩,c6⟩,c7⟩,c8⟩,c9⟩:=h7;obtain ⟨⟨⟨⟨⟨⟨⟨⟨d1,d2⟩,d3⟩,d4⟩,d5⟩,d6⟩,d7⟩,d8⟩,d9⟩:=h9;simp only [and_eq_true];exact ⟨⟨⟨⟨⟨⟨⟨⟨⟨⟨⟨⟨⟨⟨⟨⟨⟨⟨⟨⟨⟨⟨⟨⟨⟨⟨⟨⟨⟨⟨⟨a1,a2⟩,a3⟩,b1⟩,b2⟩,b3⟩,b4⟩,b5⟩,b6⟩,h3⟩,h4⟩,h5⟩,h6⟩,c1⟩,c2⟩,c3⟩,c4⟩,c5⟩,c6⟩,c7⟩,c8⟩,c9⟩,h8⟩,d1⟩,d2⟩,d3⟩,d4⟩,d5⟩,d6⟩,d7⟩,d8⟩,d9⟩
end
section
open Go Mb Go.ChangeShapes Go.WideShapes Go.RowKit
inductive FK where
 | i (k:IntKind)
 | b
def FK.ok:FK->Value->Prop
 | .i k,v=>∃ n,v = .int k n/\(Lit.int k n).wf = true
 | .b,v=>∃ x,v = .bool x
def uN:List FK->List Value->Prop
 | [],[]=>True
 | k::ks,v::vs=>k.ok v/\uN ks vs
 | _,_=>False
theorem uN.app:∀ {ks ls:List FK} {vs ws:List Value},uN ks vs->uN ls ws->uN (ks++ls) (vs++ws)
 | [],_,[],_,_,h=>h
 | _::_,_,_::_,_,h,g=>⟨h.1,h.2.app g⟩
 | [],_,_::_,_,h,_=>h.elim
 | _::_,_,[],_,h,_=>h.elim
theorem uN.len:∀ {ks:List FK} {vs:List Value},uN ks vs->vs.length = ks.length
 | [],[],_=>rfl
 | _::_,_::_,h=>by simp [h.2.len]
 | [],_::_,h=>h.elim
 | _::_,[],h=>h.elim
def fldK (P:Program) (r:TypeId->Option (List FK)):Nat->List Field->Option (List FK)
 | _,[]=>some []
 | o,f::fs=>if f.offset = o then (r f.type).bind fun ks=>if ks.length = P.cellsOf f.type then (fldK P r (o + ks.length) fs).map (ks++·) else none else none
def flatK (P:Program):Nat->TypeId->Option (List FK)
 | 0,_=>none
 | n + 1,t=>match P.underlying t with
  | some (.int k)=>some [.i k]
  | some .bool=>some [.b]
  | some (.struct fs)=>(fldK P (flatK P n) 0 fs.toList).bind fun ks=>if ks.length = P.cellsOf t then some ks else none
  | some (.array m e)=>(flatK P n e).bind fun ks=>if ks.length = P.cellsOf e/\m * ks.length = P.cellsOf t then some (List.replicate m ks).flatten else none
  | _=>none
section
variable {H:Type} {enc:TypeId × Value->H} {P:Program} {W:World} {base:Nat} {sp:Nat->Bool} {held:Bool}
theorem trod_array {t e m fuel:Nat} {cs:List Value} {x:DataW H × List MemPlace} (ht:P.underlying t = some (.array m e)) (h:DataW.trod enc P W base sp held fuel t cs = some x) :
  ∃ (xs:List (DataW H × List MemPlace)) (n:Nat),fuel = n + 1/\x = (.agg (xs.map (·.1)),xs.flatMap (·.2))/\cs.length = P.cellsOf t/\xs.length = m /\
   ∀ i,i < m->DataW.trod enc P W base sp held n e ((cs.drop (i * P.cellsOf e)).take (P.cellsOf e)) = xs[i]?:=by
 cases fuel with
 | zero=>simp [DataW.trod] at h
 | succ n =>
  unfold DataW.trod at h;rw [ht] at h;split at h <;> simp_all;obtain ⟨hl,xs,hp,hd⟩:=h;refine ⟨xs,hd.symm,by simpa using mapM_some_length hp,fun i hi=>mapM_some_get hp i i (by simp [hi])⟩
theorem flatMap_nil {α β:Type} {f:α->List β} {xs:List α} (h:∀ x ∈ xs,f x = []):xs.flatMap f = []:=by
 rw [List.flatMap_eq_nil_iff]; exact h
theorem take_drop_take (cs:List Value) (o n:Nat):(cs.drop o).take n++cs.drop (o + n) = cs.drop o:=by
 rw [← drop_drop,take_append_drop]
theorem fld_fits {r:TypeId->Option (List FK)} {cs:List Value} {g:TypeId->List Value->Option (DataW H × List MemPlace)} (hr:∀ t ks cs x,r t = some ks->g t cs = some x->uN ks cs/\x.2 = []) :
  ∀ (fs:List Field) (o:Nat) (ks:List FK),fldK P r o fs = some ks->(∀ f ∈ fs,∃ x,g f.type ((cs.drop f.offset).take (P.cellsOf f.type)) = some x)->o + ks.length = cs.length->uN ks (cs.drop o)
 | [],o,ks,h,_,hl=>by
  simp only [fldK,Option.some.injEq] at h;subst h;have:cs.drop o = []:=List.drop_eq_nil_of_le (by simp at hl; omega);rw [this]; trivial
 | f::fs,o,ks,h,hx,hl=>by
  unfold fldK at h;split at h
  ·rename_i ho;obtain ⟨ks1,h1,h2⟩:=bind_eq_some_iff.1 h;split at h2
   ·rename_i hc;obtain ⟨ks2,h3,rfl⟩:=Option.map_eq_some_iff.1 h2;obtain ⟨x,hx1⟩:=hx f (by simp);have f1:=(hr _ _ _ _ h1 hx1).1;have f2:=fld_fits hr fs (o + ks1.length) ks2 h3 (fun f' hf'=>hx f' (by simp [hf'])) (by simp at hl; omega);rw [ho,← hc] at f1;have:=f1.app f2
    rwa [take_drop_take] at this
   ·cases h2
  ·cases h
theorem arr_fits {ks:List FK} {c:Nat} (hc:ks.length = c):∀ (m:Nat) (cs:List Value),cs.length = m * c->(∀ i,i < m->uN ks ((cs.drop (i * c)).take c))->uN (List.replicate m ks).flatten cs
 | 0,cs,hl,_=>by
  have:cs = []:=List.eq_nil_of_length_eq_zero (by simpa using hl);subst this; trivial
 | m + 1,cs,hl,h=>by
  rw [List.replicate_succ,List.flatten_cons];have h0:=h 0 (by omega);simp only [Nat.zero_mul,List.drop_zero] at h0;have h1:=arr_fits hc m (cs.drop c) (by rw [List.length_drop,hl,succ_mul]; omega) (fun i hi=>by
   have:=h (i + 1) (by omega)
   rwa [drop_drop,Nat.add_comm,← succ_mul])
  have:=h0.app h1
  rwa [take_append_drop] at this
theorem trod_flat:∀ (n t:Nat) (ks:List FK),flatK P n t = some ks->∀ (fuel:Nat) (cs:List Value) (x:DataW H × List MemPlace),DataW.trod enc P W base sp held fuel t cs = some x->uN ks cs/\x.2 = []
 | 0,_,_,h,_,_,_,_=>by cases h
 | n + 1,t,ks,h,fuel,cs,x,hx=>by
  have ih:=trod_flat n;unfold flatK at h;split at h
  ·rename_i k hu;cases h;obtain ⟨m,rfl,rfl,hw⟩:=DataW.trod_int hu hx;exact ⟨⟨⟨m,rfl,hw⟩,trivial⟩,rfl⟩
  ·rename_i hu;cases h;obtain ⟨b,rfl,rfl⟩:=DataW.trod_bool hu hx;exact ⟨⟨⟨b,rfl⟩,trivial⟩,rfl⟩
  ·rename_i fs hu;obtain ⟨ks',h1,h2⟩:=bind_eq_some_iff.1 h;split at h2
   ·rename_i hc;cases h2;obtain ⟨xs,f,rfl,rfl,hl,hxl,hi⟩:=DataW.trod_struct hu hx;have hall:∀ fl ∈ fs.toList,∃ x,DataW.trod enc P W base sp held f fl.type ((cs.drop fl.offset).take (P.cellsOf fl.type)) = some x:=by
     intro fl hfl;obtain ⟨i,hi1,hi2⟩:=List.getElem_of_mem hfl;have:=hi i fl (by rw [← Array.getElem?_toList,getElem?_eq_getElem hi1,hi2]);have hlt:i < xs.length:=by rw [hxl]; simpa using hi1
     rw [getElem?_eq_getElem hlt] at this;exact ⟨_,this⟩
    refine ⟨?_,flatMap_nil fun y hy=>?_⟩
    ·have:=fld_fits (P:=P) (cs:=cs) (fun t ks cs x h=>ih t ks h f cs x) fs.toList 0 ks h1 hall (by rw [hc,hl]; omega);simpa using this
    ·obtain ⟨i,hi1,rfl⟩:=List.getElem_of_mem hy;have hif:i < fs.size:=by rw [← hxl]; exact hi1
     have h3:=hi i fs[i] (by simp [hif]);rw [getElem?_eq_getElem hi1] at h3;have key:∀ (l:List Field) (o:Nat) (ks:List FK),fldK P (flatK P n) o l = some ks->∀ fl ∈ l,∃ ks,flatK P n fl.type = some ks:=by
      intro l
      induction l with
      | nil=>intro _ _ _ fl h; cases h
      | cons a l ihl =>
       intro o ks hk fl hfl;unfold fldK at hk;split at hk
       ·obtain ⟨k1,hk1,hk2⟩:=bind_eq_some_iff.1 hk;rcases List.mem_cons.1 hfl with rfl | hfl
        ·exact ⟨_,hk1⟩
        ·split at hk2
         ·obtain ⟨k2,hk3,_⟩:=Option.map_eq_some_iff.1 hk2;exact ihl _ _ hk3 fl hfl
         ·cases hk2
       ·cases hk
     obtain ⟨ks2,hks2⟩:=key _ _ _ h1 fs[i] (by simp);exact (ih _ _ hks2 _ _ _ h3).2
   ·cases h2
  ·rename_i m e hu;obtain ⟨ks',h1,h2⟩:=bind_eq_some_iff.1 h;split at h2
   ·rename_i hc;cases h2;obtain ⟨xs,f,rfl,rfl,hl,hxl,hi⟩:=trod_array hu hx;have hat:∀ i,i < m->∃ x,xs[i]? = some x/\DataW.trod enc P W base sp held f e ((cs.drop (i * P.cellsOf e)).take (P.cellsOf e)) = some x:=fun i him=>by
     have:=hi i him;rw [getElem?_eq_getElem (by omega)] at this;exact ⟨_,getElem?_eq_getElem (by omega),this⟩
    refine ⟨arr_fits (by exact hc.1) m cs (by rw [hl,← hc.2,hc.1]) (fun i him=>?_),flatMap_nil fun y hy=>?_⟩
    ·obtain ⟨x,_,hx2⟩:=hat i him;exact (ih _ _ h1 _ _ _ hx2).1
    ·obtain ⟨i,hi1,rfl⟩:=List.getElem_of_mem hy;obtain ⟨x,hx1,hx2⟩:=hat i (by omega);rw [getElem?_eq_getElem hi1] at hx1;cases hx1;exact (ih _ _ h1 _ _ _ hx2).2
   ·cases h2
  ·cases h
end
structure Arg {τ:Type} (W:World) (m:Nat) (enc:τ->List Value) (s:Sl) (xs:List τ):Prop where
 len:s.len = xs.length
 cap:s.len <= s.cap
 row:s.cap = 0\/∃ b pre rest U fr,s.a = some (b,pre.length)/\s.cap * m <= s.len * m + rest.length/\s.g = some (pre,rest,U,fr)/\nf fr pre.length (s.cap * m)/\b ≠ 0/\W.heap[b]? = some (.cells (pre++(xs.flatMap enc++rest)).toArray U fr)
section
variable {H:Type} {enc:TypeId × Value->H} {P:Program} {W:World}
theorem has_spot {r:Reach} {b0:Nat} {t e:TypeId} {a:Addr} {len cap:Nat} (ht:P.underlying t = some (.slice e)) (h:Value.okWide P W r b0 t (.slice (some a) len cap)):a.spot = none/\∃ c T fr,W.heap[a.block]? = some (.cells c T fr):=by
 unfold Value.okWide at h;rw [ht] at h;unfold Cell.okWide at h;rw [ht] at h;simp only at h;unfold Cell.ok at h;rw [ht] at h;simp only at h;obtain ⟨_,_,_,hs,row,cells,h1,_⟩:=h;refine ⟨hs,?_⟩;unfold World.shape? at h1;split at h1
 ·rename_i c T fr hq;exact ⟨_,_,_,hq⟩
 ·cases h1
theorem open_arg {τ:Type} {b0 m:Nat} {t e:TypeId} {ks:List FK} {enc':τ->List Value} {v:Value} {d:DataW H} {ps:List MemPlace} {ET:Nat} {EF:Nat × Nat} {X:Value} (ht:P.underlying t = some (.slice e)) (hm:P.cellsOf e = m) (hk:flatK P 9 e = some ks) (hpos:0 < m)
  (dec:∀ cs,uN ks cs->∃ x:τ,enc' x = cs) (hval:Value.okWide P W .any b0 t v) (hd:DataW.Trod enc P W 0 (fun _=>true) true t v d ps) (hz:W.noneFrozen ps)
  (hw:W.heap[0]? = some (.cells #[X] ET EF)) (hX:∀ k,¬ FK.ok k X):∃ (s:Sl) (xs:List τ),v = sv s/\Arg W m enc' s xs:=by
 obtain ⟨a0,len0,mF,rfl⟩:=okWide_slice ht hval;obtain ⟨fuel,hf⟩:=hd;rcases Go.Deep.open_slice ht hf with ⟨h1,_⟩ | ⟨a,len,cap,mm,n,D,Pl,h1,_,hl,_,hmm,hx,hi⟩
 ·simp only [Value.cells,List.cons.injEq,Value.slice.injEq,and_true] at h1;obtain ⟨rfl,rfl,rfl⟩:=h1;exact ⟨⟨none,0,0,none⟩,[],rfl,rfl,Nat.le_refl _,.inl rfl⟩
 ·simp only [Value.cells,List.cons.injEq,Value.slice.injEq,and_true] at h1;obtain ⟨rfl,rfl,rfl⟩:=h1;simp only [if_true] at hmm;subst hmm;obtain ⟨hs,c,T,fr,hb⟩:=has_spot ht hval;obtain ⟨b,off,spot⟩:=a;simp only at hs hb;subst hs;by_cases hc0:mm = 0
  ·subst hc0;obtain rfl:len0 = 0:=by omega
   exact ⟨⟨some (b,off),0,0,none⟩,[],rfl,rfl,Nat.le_refl _,.inl rfl⟩
  rw [hm] at hi hx;have lU:∀ i,i < mm->∃ x:τ,(enc' x).length = m/\uN ks (enc' x)/\∀ j,j < m->c.toList[off + i * m + j]? = (enc' x)[j]?:=by
   intro i him;obtain ⟨cs',h2,h3⟩:=hi i him;obtain ⟨_,hlen,hget⟩:=World.cells?_some h2;have hfit:=(trod_flat 9 e ks hk _ _ _ h3).1;obtain ⟨x,rfl⟩:=dec cs' hfit;refine ⟨x,hlen,hfit,fun j hj=>?_⟩;have:=hget j hj;rw [WideShapes.add_plain,WideShapes.add_plain] at this;rw [← this];unfold World.cell?;rw [hb];simp
  have hsize:off + mm * m <= c.toList.length:=by
   obtain ⟨x,hxl,_,hj⟩:=lU (mm - 1) (by omega);have h4:=hj (m - 1) (by omega);have h5:=(List.getElem?_eq_some_iff.1 (h4.trans (getElem?_eq_getElem (by omega)))).1;have:mm * m = (mm - 1) * m + m:=by rw [← succ_mul]; congr 1; omega
   omega
  have hflat:∀ k,k <= mm->∃ ys:List τ,ys.length = k/\(c.toList.drop off).take (k * m) = ys.flatMap enc':=by
   intro k
   induction k with
   | zero=>exact fun _=>⟨[],rfl,by simp⟩
   | succ k ih =>
    intro hk1;obtain ⟨ys,hy1,hy2⟩:=ih (by omega);obtain ⟨x,hxl,_,hj⟩:=lU k (by omega);refine ⟨ys++[x],by simp [hy1],?_⟩;rw [succ_mul,List.take_add,hy2,List.flatMap_append]
    congr 1
    simp only [List.flatMap_cons,List.flatMap_nil,List.append_nil];apply List.ext_getElem?;intro j;rw [drop_drop,List.getElem?_take,List.getElem?_drop];by_cases hjm:j < m
    ·rw [if_pos hjm,← hj j hjm]
    ·rw [if_neg hjm,List.getElem?_eq_none (by omega)]
  obtain ⟨xs,hx1,hx2⟩:=hflat len0 hl;have hlm:len0 * m <= mm * m:=Nat.mul_le_mul_right m hl;refine ⟨⟨some (b,off),len0,mm,some (c.toList.take off,c.toList.drop (off + len0 * m),T,fr)⟩,xs,rfl,hx1.symm,hl,.inr ⟨b,c.toList.take off,c.toList.drop (off + len0 * m),T,fr,?_,?_,rfl,?_,?_,?_⟩⟩
  ·rw [List.length_take,Nat.min_eq_left (by omega)]
  ·show mm * m <= len0 * m + _;rw [List.length_drop]; omega
  ·rw [List.length_take,Nat.min_eq_left (by omega)];intro j j1 j2;have j2':j < off + mm * m:=j2;have hp:MemPlace.cell b j ∈ ps:=by
    have hps:=congrArg Prod.snd hx;simp only at hps;rw [hps];refine List.mem_append_left _ (List.mem_map.2 ⟨j - off,mem_range.2 (by omega),?_⟩);show MemPlace.cell b (off + (j - off)) = _
    congr 1; omega
   have:=hz b j hp;unfold World.frozen? at this;simp only [hb] at this;exact this
  ·rintro rfl;rw [hw] at hb;cases hb;obtain ⟨x,hxl,hfit,hj⟩:=lU 0 (by omega);have h4:=hj 0 hpos;simp only [Nat.zero_mul,Nat.add_zero] at h4;cases hks:ks with
   | nil=>subst hks; have:=hfit.len; simp at this; simp [this] at hxl; omega
   | cons k ks' =>
    subst hks;cases hex:enc' x with
    | nil=>rw [hex] at hxl; simp at hxl; omega
    | cons y ys =>
     rw [hex] at hfit h4;simp only [List.getElem?_cons_zero] at h4;have h5:y = X:=by
      cases off with
      | zero=>simpa using h4.symm
      | succ o=>simp at h4
     exact hX k (h5 ▸ hfit.1)
  ·rw [hb]
   congr 2
   apply ext';show c.toList = c.toList.take off++(xs.flatMap enc'++c.toList.drop (off + len0 * m))
   rw [← hx2,← drop_drop,take_append_drop,take_append_drop]
theorem trodAll_stays (hl:laidOutB P = true) {W':World} {sp':Nat->Bool}:∀ {ts:List TypeId} {vs:List Value} {ds:List (DataW H)} {ps:List MemPlace},(∀ t ∈ ts,P.readableRec t = true/\t < P.types.size) ->
  DataW.TrodAll enc P W 0 (fun _=>true) true ts vs ds ps->(∀ p ∈ ps,W.sameAt W' p)->(∀ p ∈ ps,sp' p.block = true)->DataW.TrodAll enc P W' 0 sp' true ts vs ds ps
 | [],_,_,_,_,h,_,_=>by
  obtain ⟨rfl,rfl,rfl⟩:=trodAll_nil h
  rfl
 | t::ts,_,_,_,hr,h,hs,hp=>by
  obtain ⟨v,vs,d,ds,a,b,rfl,rfl,rfl,h1,h2⟩:=trodAll_cons h;exact ⟨a,b,Go.WideElems.Trod_stays hl (hr t (by simp)).1 (hr t (by simp)).2 h1 (fun p q=>hs p (by simp [q])) (fun p q=>hp p (by simp [q])),trodAll_stays hl (fun t q=>hr t (by simp [q])) h2 (fun p q=>hs p (by simp [q])) (fun p q=>hp p (by simp [q])),rfl⟩
end
end
section
open Go Mb Go.ChangeShapes Go.WideShapes Go.RowKit
theorem no_iface (k:FK):¬ FK.ok k (rtV gR):=by
 cases k with
 | i k=>rintro ⟨n,h,_⟩; cases h
 | b=>rintro ⟨x,h⟩; cases h
theorem fit_cons {k:FK} {ks:List FK} {cs:List Value} (h:uN (k::ks) cs):∃ v vs,cs = v::vs/\k.ok v/\uN ks vs:=by
 cases cs with
 | nil=>exact h.elim
 | cons v vs=>exact ⟨v,vs,rfl,h.1,h.2⟩
theorem fit_i {k:IntKind} {ks:List FK} {cs:List Value} (h:uN (.i k::ks) cs):∃ (n:Int) (vs:List Value),cs = .int k n::vs/\(Lit.int k n).wf = true/\uN ks vs:=by
 obtain ⟨v,vs,rfl,⟨n,rfl,hw⟩,hf⟩:=fit_cons h;exact ⟨n,vs,rfl,hw,hf⟩
theorem fit_nil {cs:List Value} (h:uN [] cs):cs = []:=by
 cases cs with
 | nil=>rfl
 | cons v vs=>exact h.elim
theorem Arg.sub {τ:Type} {P:τ->Prop} {W:World} {m:Nat} {C:τ->List Value} {s:Sl} {xs:List {x:τ // P x}} (A:Arg W m (fun x=>C x.1) s xs):Arg W m C s (xs.map (·.1))/\∀ x ∈ xs.map (·.1),P x:=by
 refine ⟨⟨by simpa using A.len,A.cap,?_⟩,fun x hx=>?_⟩
 ·have e:(xs.map (·.1)).flatMap C = xs.flatMap (fun x=>C x.1):=by rw [List.flatMap_map]
  rw [e]; exact A.row
 ·obtain ⟨y,_,rfl⟩:=List.mem_map.1 hx;exact y.2
structure Same (W W':World):Prop where
 os:W'.os = W.os
 out:W'.output = W.output
 heap:∀ i,i < W.heap.size->W'.heap[i]? = W.heap[i]?
theorem Same.cell {W W':World} (s:Same W W') {p:MemPlace} (h:p.block < W.heap.size):W.sameAt W' p:=by
 cases p with
 | cell b off =>
  show W'.cell? _ = W.cell? _;unfold World.cell?;rw [s.heap b h]
 | map b=>exact s.heap b h
theorem run_spV {τ:Type} {T m:Nat} {enc:τ->List Value} {s:Sl} {xs:List τ} {f:FuncId} {vs:List Value} {ET:Nat} {EF:Nat × Nat} {W:World} (A:Arg W m enc s xs)
  (c:Sp prog f vs aC [etB ET EF,vec T m enc s xs] (fun r=>pa_ (r = true) [etB ET EF,vec T m enc s xs])) (hw:W.heap[0]? = some (.cells #[rtV gR] ET EF)) :
  Calls prog f vs.toArray W fun e W'=>e = .returned (.bool true)/\Same W W':=by
 have key:∀ (g:Hp),g 0 = none->(∀ b o,g b = some o->W.heap[b]? = some o)->vec T m enc s xs g->(∀ g',vec T m enc s xs g'->∀ b o,g b = some o->g' b = some o) ->
   Calls prog f vs.toArray W fun e W'=>e = .returned (.bool true)/\Same W W':=by
  intro g g0 gW gv gk;have hs:Sub (un (eI emp 0 (.cells #[rtV gR] ET EF)) g) W:=by
   intro b o ho;by_cases hb:b = 0
   ·subst hb; rw [un_left (ko _ _ _)] at ho; rw [hw]; exact ho
   ·rw [un_right (rb _ _ _ hb)] at ho; exact gW b o ho
  have hd:Dj (eI emp 0 (.cells #[rtV gR] ET EF)) g:=fun b=>by
   by_cases hb:b = 0
   ·subst hb; exact .inr g0
   ·exact .inl (rb _ _ _ hb)
  have hst:aB [etB ET EF,vec T m enc s xs] (un (eI emp 0 (.cells #[rtV gR] ET EF)) g):=⟨_,_,hd,rfl,ko _ _ _,xA gv⟩
  refine (c _ hst W hs).mono ?_;rintro e W' ⟨v,h',rfl,⟨r,rfl,q⟩,s',fr⟩;obtain ⟨rfl,q⟩:=q;obtain ⟨g1,a1,sub1⟩:=eM (i:=0) (A:=etB ET EF) rfl q;obtain ⟨g2,a2,sub2⟩:=eM (i:=1) (A:=vec T m enc s xs) rfl q;refine ⟨rfl,fr.os,fr.out,fun i hi=>?_⟩;rcases Nat.eq_zero_or_pos i with rfl | hp
  ·rw [s' _ _ (sub1 _ _ a1),hw]
  ·cases hg:g i with
   | none=>exact fr.same i hi (uP.2 ⟨rb _ _ _ (by omega),hg⟩)
   | some o=>rw [s' _ _ (sub2 _ _ (gk g2 a2 i o hg)),gW i o hg]
 rcases A.row with h0 | ⟨b,pre,rest,U,fr,h1,h2,h3,h4,h5,h6⟩
 ·exact key emp rfl (fun b o h=>by cases h) ⟨A.len,A.cap,.inl h0⟩ (fun _ _ b o h=>by cases h)
 ·by_cases h0:s.cap = 0
  ·exact key emp rfl (fun b o h=>by cases h) ⟨A.len,A.cap,.inl h0⟩ (fun _ _ b o h=>by cases h)
  ·refine key (eI emp b (.cells (pre++(xs.flatMap enc++rest)).toArray U fr)) (rb _ _ _ (Ne.symm h5)) ?_ ⟨A.len,A.cap,.inr ⟨b,pre,rest,U,fr,h1,h2,?_,ko _ _ _⟩⟩ ?_
   ·intro b' o ho;unfold eI at ho;split at ho
    ·rename_i hb; subst hb; rw [h6]; exact ho
    ·cases ho
   ·unfold gh; rw [h3]; exact ⟨rfl,h4⟩
   ·rintro g' ⟨_,_,r⟩ b' o ho;rcases r with r | ⟨c',pre',rest',U',fr',r1,_,r3,r4⟩
    ·exact absurd r h0
    ·rw [h1] at r1;unfold gh at r3;rw [h3] at r3;obtain ⟨r5,_⟩:=r3;simp only [Prod.mk.injEq] at r5;obtain ⟨rfl,rfl,rfl,rfl⟩:=r5;simp only [Option.some.injEq,Prod.mk.injEq] at r1;obtain ⟨rfl,_⟩:=r1;unfold eI at ho;split at ho
     ·rename_i hb; subst hb; cases ho; exact r4
     ·cases ho
theorem same_post {H:Type} {enc:TypeId × Value->H} {W W':World} {ts:List TypeId} {vs:List Value} {ds:List (DataW H)} {ps:List MemPlace} {sp:Nat->Bool} (hl:laidOutB prog = true) (hr:(ts.all fun t=>prog.readableRec t && decide (t < prog.types.size)) = true)
  (h:DataW.TrodAll enc prog W 0 (fun _=>true) true ts vs ds ps) (hlt:∀ p ∈ ps,p.block < W.heap.size) (s:Same W W') (hs:∀ p ∈ ps,sp p.block = true):DataW.TrodAll enc prog W' 0 sp true ts vs ds ps :=
 trodAll_stays hl (fun t ht=>by
  have:=all_eq_true.1 hr t ht;simp only [and_eq_true,decide_eq_true_eq] at this;exact this) h (fun p hp=>s.cell (hlt p hp)) hs
theorem want_all {ts:List TypeId} (h:(ts.all fun t=>!(prog.wantsStandIn t)) = true) {j:Nat} {t:TypeId} (ht:ts.toArray[j]? = some t):prog.wantsStandIn t = false:=by
 have:=all_eq_true.1 h t (List.mem_of_getElem? (by simpa using ht));simpa using this
end
section
open Go Mb
variable {ET:Nat} {EF:Nat × Nat}
namespace Shared
def r1 (s:eR):=KK.run (KK.new s) 0 0 ⟨1,0,0,0,0⟩
def r2 (s:eR):=KK.run (r1 s).2 0 0 ⟨6,0,0,3,0⟩
def r3 (s:eR) (v:Int):=KK.run (r2 s).2 0 0 ⟨21,0,0,v,0⟩
structure Fine (s:eR) (v:Int):Prop where
 sz:PK.sized s = true
 a1:(r1 s).1 = (⟨0,0⟩,true)
 a2:(r2 s).1 = (⟨0,0⟩,true)
 a3:(r3 s v).1 = (⟨0,0⟩,true)
 n1:(r1 s).2.now < 1000
 n2:(r2 s).2.now < 1000
end Shared
theorem call_len (c:cK):(ah.C c).length = 5:=rfl
open Shared in
theorem sp_shared (s:eR) (v:Int) (F:Fine s v):Sp prog kO [.agg s.C.toArray,.int .u64 v] kV [] (fun r=>aB [ce r (r3 s v).2]):=by
 intro h st;refine wg _ _ ?_;unfold oI;refine mD (sp_kern_New s F.sz) st fun x h1 s1=>?_;refine dx (kern_nn s1) ?_;refine ft (τ:=cK) [⟨1,0,0,0,0⟩,⟨6,0,0,3,0⟩,⟨21,0,0,v,0⟩] (val:=fun x=>.agg x.C.toArray) (enc:=ah.C) el_Sapi_Call call_len (fun _=>rfl) s1 rfl rfl (by decide) fun y h2 s2=>?_;have hl:=(cj (j:=0) s2 rfl).1;have hl3:y.len = 3:=hl;refine Lp.intro (fun (i:Int) h=>∃ (n:Nat) (k:KK),i = n/\(n = 0/\k = KK.new s\/n = 1/\k = (r1 s).2\/n = 2/\k = (r2 s).2\/n = 3/\k = (r3 s v).2)/\aB [vec t_api_Call 5 ah.C y [⟨1,0,0,0,0⟩,⟨6,0,0,3,0⟩,⟨21,0,0,v,0⟩],ce x k] h) (fun (i:Int) _=>3 - i.toNat) ⟨0,_,rfl,.inl ⟨rfl,rfl⟩,s2⟩ ?_;rintro i h3 ⟨n,k,rfl,hn,s3⟩;unfold kl;have lk:∀ (m:Nat) (c:cK) (k':KK),n = m->m < 3->([⟨1,0,0,0,0⟩,⟨6,0,0,3,0⟩,⟨21,0,0,v,0⟩]:List cK)[m]? = some c->(KK.run k 0 0 c).1 = (⟨0,0⟩,true)->(KK.run k 0 0 c).2 = k'->k.now < 1000 ->
   (n + 1 = 0/\k' = KK.new s\/n + 1 = 1/\k' = (r1 s).2\/n + 1 = 2/\k' = (r2 s).2\/n + 1 = 3/\k' = (r3 s v).2) ->
   (br (decide ((n:Int) < (y.len:Int))) (ix y n fun q22=>ld (q22.1,q22.2 + Int.toNat (n:Int) * 5) ah.C fun x23=>cl prog ci [(pv x),(.int .i64 0),(.int .i64 0),(.agg (ah.C x23).toArray)] bb fun r27 =>
    br ((!r27.2) || (r27.1.fRa != 0)) ((fun r=>aB [ce r (r3 s v).2]) none) ((fun (s':Int) h'=>(∃ (n:Nat) (k:KK),s' = n/\(n = 0/\k = KK.new s\/n = 1/\k = (r1 s).2\/n = 2/\k = (r2 s).2\/n = 3/\k = (r3 s v).2)/\aB [vec t_api_Call 5 ah.C y [⟨1,0,0,0,0⟩,⟨6,0,0,3,0⟩,⟨21,0,0,v,0⟩],ce x k] h')/\3 - s'.toNat < 3 - (n:Int).toNat) (i64.wrap ((n:Int) + 1)))) ((fun r=>aB [ce r (r3 s v).2]) x)) h3:=by
  intro m c k' e hm hc hr hk hnow hq;subst e;have hw:i64.wrap ((n:Int) + 1) = ((n + 1:Nat):Int):=by rw [bm (by omega) (by omega)]; rfl
  refine dW (by rw [hl3]; exact decide_eq_true (by omega)) ?_;refine dk s3 (j:=0) rfl (by omega) (by omega) fun q hq'=>?_;refine dD (j:=0) (i:=n) (k:=0) c call_len s3 rfl hq' rfl hc (by simp) ?_;refine bM (i:=1) (rX x k 0 0 c (by omega)) rfl s3 fun r h4 hr2 s4=>?_;have hr3:r = (KK.run k 0 0 c).1:=hr2.1;rw [hr] at hr3;subst hr3;refine dx rfl ?_;rw [hw];rw [hk] at s4;exact ⟨⟨n + 1,k',rfl,hq,s4⟩,by simp; omega⟩
 rcases hn with ⟨e,ek⟩ | ⟨e,ek⟩ | ⟨e,ek⟩ | ⟨e,ek⟩
 ·exact lk 0 _ (r1 s).2 e (by decide) rfl (by rw [ek]; exact F.a1) (by rw [ek,r1]) (by rw [ek]; show (0:Int) < 1000; decide) (.inr (.inl ⟨by omega,rfl⟩))
 ·exact lk 1 _ (r2 s).2 e (by decide) rfl (by rw [ek]; exact F.a2) (by rw [ek,r2]) (by rw [ek]; exact F.n1) (.inr (.inr (.inl ⟨by omega,rfl⟩)))
 ·exact lk 2 _ (r3 s v).2 e (by decide) rfl (by rw [ek]; exact F.a3) (by rw [ek,r3]) (by rw [ek]; exact F.n2) (.inr (.inr (.inr ⟨by omega,rfl⟩)))
 ·subst e;refine dx (by rw [hl3]; rfl) ?_;rw [ek] at s3;exact bY (l:=[_]) s3
end
section
open Go Mb
theorem mod_in (x:Int) {n:Int} (h:1 <= n/\n <= 100):0 <= (i64.wrap (x.tmod n + n)).tmod n/\(i64.wrap (x.tmod n + n)).tmod n < n:=by
 have h1:=Int.tmod_lt_of_pos x (show (0:Int) < n by omega);have h2:-n < x.tmod n:=by
  have:=Int.tmod_lt_of_pos (-x) (show (0:Int) < n by omega);rw [Int.neg_tmod] at this;omega
 rw [bm (by omega) (by omega)];exact ⟨Int.tmod_nonneg _ (by omega),Int.tmod_lt_of_pos _ (by omega)⟩
end
section
open Go Mb
namespace Frm
open Shared
def sz (n:Int):eR:=⟨n,2,1⟩
abbrev ld:cK:=⟨20,0,0,0,0⟩
abbrev dr:cK:=⟨5,0,0,0,0⟩
abbrev al:cK:=⟨1,2,0,0,0⟩
abbrev mp:cK:=⟨6,7,2,3,0⟩
abbrev l7:cK:=⟨20,7,0,0,0⟩
abbrev s7 (w:Int):cK:=⟨21,7,0,w,0⟩
def pA (n v:Int):PK:=(PK.do_ (PK.do_ (PK.do_ (PK.new (sz n)) 0 ⟨1,0,0,0,0⟩).2 0 ⟨6,0,0,3,0⟩).2 0 ⟨21,0,0,v,0⟩).2
def pB (n v:Int):PK:=(PK.do_ (pA n v) 0 dr).2
def pC (n v:Int):PK:=(PK.do_ (pB n v) 1 al).2
def pD (n v:Int):PK:=(PK.do_ (pC n v) 1 mp).2
def pE (n v w:Int):PK:=(PK.do_ (pD n v) 1 (s7 w)).2
abbrev AB:=eQ × Bool
abbrev ok:AB:=(⟨0,0⟩,true)
def tab (n v w:Int):(AB × AB × AB × Bool) × (PK × Pte × (Int × Bool) × eR) × ((AB × PK) × (AB × PK) × (AB × PK) × PK × PK × PK) × (AB × AB × (AB × PK) × (AB × PK)) × (Pte × Pte × Bool × Bool) × (eR × eR) :=
 (((r1 (sz n)).1,(r2 (sz n)).1,(r3 (sz n) v).1,PK.sized (sz n) && decide ((r1 (sz n)).2.now < 1000) && decide ((r2 (sz n)).2.now < 1000) && (r3 (sz n) v).2.events.all fun e=>decide (e.fIa.e0 ≠ 20)),
 ((r3 (sz n) v).2.p,PK.q (pA n v) 0 0,Mem.load (pA n v).m 0 0,(pA n v).s),
 (PK.do_ (pA n v) 0 ld,PK.do_ (pA n v) 1 al,((PK.do_ (pB n v) 1 al).1,pC n v),(PK.do_ (pB n v) 0 dr).2,(PK.do_ (pC n v) 0 dr).2,(PK.do_ (pC n v) 1 al).2),
 ((PK.do_ (pC n v) 1 mp).1,(PK.do_ (pD n v) 1 (s7 w)).1,PK.do_ (pD n v) 1 l7,PK.do_ (pE n v w) 0 ld),
 (PK.q (pB n v) 0 0,PK.q (pC n v) 0 0,(fAa.at_ (pB n v).caps 1 2).2,(fAa.at_ (pC n v).caps 1 2).2),
 ((pB n v).s,(pC n v).s))
def fM (n v w:Int):(AB × AB × AB × Bool) × (PK × Pte × (Int × Bool) × eR) × ((AB × PK) × (AB × PK) × (AB × PK) × PK × PK × PK) × (AB × AB × (AB × PK) × (AB × PK)) × (Pte × Pte × Bool × Bool) × (eR × eR) :=
 ((ok,ok,ok,true),(pA n v,⟨0,0,3⟩,(v,true),sz n),
 (((⟨0,v⟩,true),pA n v),((⟨6,0⟩,true),pA n v),(ok,pC n v),pB n v,pC n v,pC n v),
 (ok,ok,(ok,pD n v),((⟨7,0⟩,true),pE n v w)),
 (dc,dc,false,true),(sz n,sz n))
theorem tabs (v w:Int):tab 2 v w = fM 2 v w/\tab 3 v w = fM 3 v w/\tab 4 v w = fM 4 v w:=by
 refine ⟨?_,?_,?_⟩ <;> kernel_rfl
structure Fine (n v w:Int):Prop where
 sh:Shared.Fine (sz n) v
 e3:∀ e ∈ (r3 (sz n) v).2.events,e.fIa.e0 ≠ 20
 p:(r3 (sz n) v).2.p = pA n v
 qA:PK.q (pA n v) 0 0 = ⟨0,0,3⟩
 mA:Mem.load (pA n v).m 0 0 = (v,true)
 sA:(pA n v).s = sz n
 ldA:PK.do_ (pA n v) 0 ld = ((⟨0,v⟩,true),pA n v)
 alA:PK.do_ (pA n v) 1 al = ((⟨6,0⟩,true),pA n v)
 alB:(PK.do_ (pB n v) 1 al).1 = ok
 drB:(PK.do_ (pB n v) 0 dr).2 = pB n v
 drC:(PK.do_ (pC n v) 0 dr).2 = pC n v
 alC:(PK.do_ (pC n v) 1 al).2 = pC n v
 mpC:(PK.do_ (pC n v) 1 mp).1 = ok
 s7D:(PK.do_ (pD n v) 1 (s7 w)).1 = ok
 l7D:PK.do_ (pD n v) 1 l7 = (ok,pD n v)
 ldE:PK.do_ (pE n v w) 0 ld = ((⟨7,0⟩,true),pE n v w)
 qB:PK.q (pB n v) 0 0 = dc
 qC:PK.q (pC n v) 0 0 = dc
 capB:(fAa.at_ (pB n v).caps 1 2).2 = false
 capC:(fAa.at_ (pC n v).caps 1 2).2 = true
 sB:(pB n v).s = sz n
 sC:(pC n v).s = sz n
theorem fine (n v w:Int) (h:2 <= n/\n <= 4):Fine n v w:=by
 have h:tab n v w = fM n v w:=by
  obtain ⟨t1,t2,t3⟩:=tabs v w;have:n = 2\/n = 3\/n = 4:=by omega
  rcases this with h | h | h
  ·rw [h]; exact t1
  ·rw [h]; exact t2
  ·rw [h]; exact t3
 unfold tab fM at h;simp only [Prod.mk.injEq] at h;obtain ⟨⟨b1,b2,b3,e⟩,⟨c1,c2,c3,c4⟩,⟨d1,d2,⟨d3,_⟩,d4,d5,d6⟩,⟨f1,f2,f3,f4⟩,⟨g1,g2,g3,g4⟩,k1,k2⟩:=h;simp only [and_eq_true,decide_eq_true_eq] at e;exact ⟨⟨e.1.1.1,b1,b2,b3,e.1.1.2,e.1.2⟩,fun x hx=>of_decide_eq_true (all_eq_true.1 e.2 x hx),c1,c2,c3,c4,d1,d2,d3,d4,d5,d6,f1,f2,f3,f4,g1,g2,g3,g4,k1,k2⟩
theorem cwld:Cw ld:=⟨by decide,by decide,by decide,by decide,by decide⟩
theorem cwdr:Cw dr:=⟨by decide,by decide,by decide,by decide,by decide⟩
theorem cwal:Cw al:=⟨by decide,by decide,by decide,by decide,by decide⟩
theorem cwmp:Cw mp:=⟨by decide,by decide,by decide,by decide,by decide⟩
theorem cwl7:Cw l7:=⟨by decide,by decide,by decide,by decide,by decide⟩
theorem cws7 {w:Int} (h:0 <= w):Cw (s7 w):=⟨show (0:Int) <= 21 by decide,show (0:Int) <= 7 by decide,le_refl _,h,le_refl _⟩
theorem calm3 {n v:Int} (h:PK.sized (sz n) = true) (hv:0 <= v):Calm 3 (r3 (sz n) v).2 :=
 (((calm_new h).run (by decide) 0 0 ⟨by decide,by decide,by decide,by decide,by decide⟩ (by decide)).run (by decide) 0 0 ⟨by decide,by decide,by decide,by decide,by decide⟩ (by decide)).run (by decide) 0 0 (c:=⟨21,0,0,v,0⟩) ⟨show (0:Int) <= 21 by decide,le_refl _,le_refl _,hv,le_refl _⟩ (show (21:Int) ≠ 9 by decide)
def Told (v:Int) (e:bp):Prop:=e.fCa = 0->e.fIa.e0 = 20->e.fHa ≠ 0->e.fYa.fRa = 0->e.fYa.fVal = v
def Evs (v:Int) (k:KK):Prop:=∀ (i:Nat) e,k.events[i]? = some e->Told v e
theorem evs_app {v:Int} {k q:KK} {e:bp} (H:Evs v k) (he:q.events = k.events++[e]) (ht:Told v e):Evs v q:=by
 intro i d hi;rw [he] at hi;rcases Nat.lt_or_ge i k.events.length with h | h
 ·rw [List.getElem?_append_left h] at hi; exact H i d hi
 ·rw [List.getElem?_append_right h] at hi;by_cases h0:i - k.events.length = 0
  ·rw [h0] at hi; simp at hi; rw [← hi]; exact ht
  ·rw [List.getElem?_eq_none (by simp; omega)] at hi; cases hi
structure J (n v:Int) (u:Nat) (k:KK):Prop extends All k where
 st:k.p = pA n v\/k.p = pB n v\/k.p = pC n v
 call:∀ (d:Nat) x,k.calls[d]? = some (some x)->(x.fGa = 0/\x.fc = ld)\/(x.fGa = 0/\x.fc = dr/\x.fat = u)\/(x.fGa = 1/\x.fc = al)
 dr:∃ e,k.events[u]? = some e/\e.fIa = Frm.dr/\(e.fHa ≠ 0->k.p = pB n v\/k.p = pC n v)
 evs:Evs v k
theorem J.s {n v w:Int} {u:Nat} {k:KK} (F:Fine n v w) (H:J n v u k):k.p.s = sz n:=by
 rcases H.st with h | h | h
 ·rw [h]; exact F.sA
 ·rw [h]; exact F.sB
 ·rw [h]; exact F.sC
theorem J.post {n v:Int} {u:Nat} {k:KK} (H:J n v u k) (hn:k.now < 2 ^ 40) (c:Int):J n v u (KK.post k c).2:=by
 obtain ⟨h1,h2,h3⟩:=post_same k c;exact ⟨H.toAll.post hn c,by rw [h2]; exact H.st,by rw [h3]; exact H.call,by rw [h1,h2]; exact H.dr,by unfold Evs; rw [h1]; exact H.evs⟩
theorem J.begin {n v:Int} {u:Nat} {k:KK} (H:J n v u k) (hn:k.now < 2 ^ 40) (c a:Int) {fc:cK} (cw:Cw fc) (hf:(a = 0/\fc = ld)\/(a = 1/\fc = al)):J n v u (KK.begin_ k c a fc).2:=by
 have hA:=H.toAll.begin hn c a cw;rcases begin_or H.toIE hn c a fc with ⟨_,h⟩ | ⟨_,d,rfl,hd,_,_,_,he,hp,hc,_⟩
 ·rw [h]; exact H
 ·refine ⟨hA,by rw [hp]; exact H.st,?_,?_,evs_app H.evs he (fun _ _ h=>absurd rfl h)⟩
  ·rw [hc];exact iI (P:=fun _ x=>(x.fGa = 0/\x.fc = ld)\/(x.fGa = 0/\x.fc = Frm.dr/\x.fat = u)\/(x.fGa = 1/\x.fc = al)) H.call fun x hx=>by
    cases hx;rcases hf with h | h
    ·exact .inl h
    ·exact .inr (.inr h)
  ·obtain ⟨e,h1,h2,h3⟩:=H.dr;rw [he,hp];exact ⟨e,by rw [List.getElem?_append_left (List.getElem?_eq_some_iff.1 h1).1]; exact h1,h2,h3⟩
theorem load_ld' (k:PK) (f:Int):PK.touch k f ld = ((⟨0,(Mem.load k.m f 0).1⟩,(Mem.load k.m f 0).2),k):=by unfold PK.touch; rfl
theorem evs_set' {v:Int} {k q:KK} {m:Nat} {e:bp} (H:Evs v k) (he:q.events = k.events.set m e) (ht:Told v e):Evs v q:=by
 intro i d hi;rw [he,getElem?_set] at hi;split at hi
 ·split at hi
  ·cases hi; exact ht
  ·cases hi
 ·exact H i d hi
theorem J.step {n v w:Int} {u:Nat} {k:KK} (F:Fine n v w) (H:J n v u k) (hn:k.now < 2 ^ 40) (c:Int):J n v u (KK.step k c).2:=by
 rcases step_or H.toIE hn c with h | ⟨d,x,rfl,hx,st⟩
 ·rw [h]; exact H
 have hA:=H.toAll.step hn d;have hcx:=H.call d x hx;have hdl:=(List.getElem?_eq_some_iff.1 hx).1;have hs2:k.p.s.fJa = 2:=by rw [H.s F]; rfl
 obtain ⟨e,g1,g2,g3⟩:=H.dr;cases st with
 | wait y he hp hc h1 h2 h3 =>
  refine ⟨hA,by rw [hp]; exact H.st,?_,by rw [he,hp]; exact ⟨e,g1,g2,g3⟩,by unfold Evs; rw [he]; exact H.evs⟩;rw [hc];refine iI (P:=fun _ x=>(x.fGa = 0/\x.fc = ld)\/(x.fGa = 0/\x.fc = Frm.dr/\x.fat = u)\/(x.fGa = 1/\x.fc = al)) H.call fun z hz=>?_;cases hz;rw [h1,h2,h3]; exact hcx
 | user m e0 h0 hm hz hcl hen hco hu he hp hc =>
  have hld:x.fGa = 0/\x.fc = ld:=by
   rcases hcx with h | h | h
   ·exact h
   ·rw [h.2.1] at hu; cases hu
   ·rw [h.2] at hu; cases hu
  have I:=H.inv.tick hn;have hk:20 <= i64.wrap x.fc.e0/\i64.wrap x.fc.e0 <= 23:=by rw [hld.2]; decide
  have hac:((KK.access (KK.tick k) d x).1.1 = ⟨7,0⟩\/(KK.access (KK.tick k) d x).1.1 = ⟨0,v⟩)/\(KK.access (KK.tick k) d x).2.p = k.p:=by
   rcases access_or I (c:=d) hdl (x:=x) (by rw [hld.2]; show Word.check ld k.p.s.fJa = 0; rw [hs2]; decide) hk with h | ⟨l,h1,_,h3,h4⟩
   ·exact ⟨.inl h.1,h.2.1⟩
   ·rw [hld.1,hld.2] at h1 h3 h4;have hpA:k.p = pA n v:=by
     rcases H.st with h | h | h
     ·exact h
     ·exfalso
      have h5:=h1.r;rw [tick_p,h,show PK.q (pB n v) 0 (i64.wrap ld.e1) = dc from F.qB] at h5;exact absurd h5.1 (by decide)
     ·exfalso
      have h5:=h1.r;rw [tick_p,h,show PK.q (pC n v) 0 (i64.wrap ld.e1) = dc from F.qC] at h5;exact absurd h5.1 (by decide)
    rw [tick_p,hpA,show PK.q (pA n v) 0 (i64.wrap ld.e1) = ⟨0,0,3⟩ from F.qA,load_ld'] at h3 h4;refine ⟨.inr ?_,by rw [h4,hpA]⟩;rw [h3];show (⟨0,(Mem.load (pA n v).m 0 0).1⟩:eQ) = _;rw [F.mA]
  have hmu:u ≠ m:=by
   rintro rfl;rw [h0] at g1; cases g1;rw [g2] at hcl;rw [← hcl] at hld; cases hld.2
  refine ⟨hA,by rw [hp,hac.2]; exact H.st,?_,?_,evs_set' H.evs he ?_⟩
  ·rw [hc];exact iI (P:=fun _ x=>(x.fGa = 0/\x.fc = ld)\/(x.fGa = 0/\x.fc = Frm.dr/\x.fat = u)\/(x.fGa = 1/\x.fc = al)) H.call fun z hz=>by cases hz
  ·refine ⟨e,by rw [he,getElem?_set,if_neg (fun h=>hmu h.symm)]; exact g1,g2,?_⟩;rw [hp,hac.2]; exact g3
  ·intro _ _ _ h;have h:(KK.access (KK.tick k) d x).1.1.fRa = 0:=h;show (KK.access (KK.tick k) d x).1.1.fVal = v;rcases hac.1 with h1 | h1
   ·rw [h1] at h; exact absurd h (by decide)
   ·rw [h1]
 | does m e0 h0 hm hz hcl hen hco hu he hp hc =>
  have cs:∀ z,(none:Option KC) = some z->((z.fGa = 0/\z.fc = ld)\/(z.fGa = 0/\z.fc = Frm.dr/\z.fat = u)\/(z.fGa = 1/\z.fc = al)):=fun z hz=>by cases hz
  rcases hcx with h | h | h
  ·rw [h.2] at hu; cases hu
  ·have hmu:m = u:=by have:=h.2.2; omega
   subst hmu;rw [h.1,h.2.1] at hp;have hst:(KK.step k d).2.p = pB n v\/(KK.step k d).2.p = pC n v:=by
    rcases H.st with g | g | g
    ·rw [hp,g]; exact .inl rfl
    ·rw [hp,g,F.drB]; exact .inl rfl
    ·rw [hp,g,F.drC]; exact .inr rfl
   refine ⟨hA,.inr hst,?_,?_,evs_set' H.evs he ?_⟩
   ·rw [hc]; exact iI (P:=fun _ x=>(x.fGa = 0/\x.fc = ld)\/(x.fGa = 0/\x.fc = Frm.dr/\x.fat = m)\/(x.fGa = 1/\x.fc = al)) H.call cs
   ·rw [h0] at g1; cases g1;exact ⟨KK.evend e (k.now + 1) (PK.do_ k.p x.fGa x.fc).1.1 jg,by rw [he,getElem?_set,if_pos rfl,if_pos (List.getElem?_eq_some_iff.1 h0).1],g2,fun _=>hst⟩
   ·intro _ h2;have h2:e0.fIa.e0 = 20:=h2;rw [hcl,h.2.1] at h2; exact absurd h2 (by decide)
  ·have hmu:u ≠ m:=by
    rintro rfl;rw [h0] at g1; cases g1;rw [g2] at hcl;rw [← hcl] at h; cases h.2
   rw [h.1,h.2] at hp;have hst:(k.p = pA n v/\(KK.step k d).2.p = pA n v)\/(KK.step k d).2.p = pC n v:=by
    rcases H.st with g | g | g
    ·rw [hp,g,F.alA]; exact .inl ⟨rfl,rfl⟩
    ·rw [hp,g]; exact .inr rfl
    ·rw [hp,g,F.alC]; exact .inr rfl
   refine ⟨hA,?_,?_,?_,evs_set' H.evs he ?_⟩
   ·rcases hst with g | g
    ·exact .inl g.2
    ·exact .inr (.inr g)
   ·rw [hc]; exact iI (P:=fun _ x=>(x.fGa = 0/\x.fc = ld)\/(x.fGa = 0/\x.fc = Frm.dr/\x.fat = u)\/(x.fGa = 1/\x.fc = al)) H.call cs
   ·refine ⟨e,by rw [he,getElem?_set,if_neg (fun h=>hmu h.symm)]; exact g1,g2,fun hx=>?_⟩;rcases hst with g | g
    ·rcases g3 hx with q | q
     ·rw [← g.1,q] at g; exact .inl g.2
     ·rw [← g.1,q] at g; exact .inr g.2
    ·exact .inr g
   ·intro _ h2;have h2:e0.fIa.e0 = 20:=h2;rw [hcl,h.2] at h2; exact absurd h2 (by decide)
theorem closed {n v w:Int} {u:Nat} (F:Fine n v w):Closed (J n v u):=⟨fun A=>A.inv,fun A hn c=>A.post hn c,fun A hn c=>A.step F hn c⟩
theorem J.awake {n v:Int} {u:Nat} {k:KK} (H:J n v u k):∀ (d:Nat) x,k.calls[d]? = some (some x)->x.fc.e0 ≠ 9:=fun d x h=>by
 rcases H.call d x h with e | e | e
 ·rw [e.2]; decide
 ·rw [e.2.1]; decide
 ·rw [e.2]; decide
theorem J.gone {n v:Int} {u:Nat} {k:KK} (H:J n v u k) (hi:∀ (d:Nat) x,k.calls[d]? ≠ some (some x)):k.p = pB n v\/k.p = pC n v:=by
 obtain ⟨e,g1,_,g3⟩:=H.dr;exact g3 (H.toIE.ended hi e (List.mem_of_getElem? g1)).2
theorem j0 {n v w:Int} {k:KK} (F:Fine n v w) (A:All k) (hn:k.now < 2 ^ 40) (hi:∀ (d:Nat) x,k.calls[d]? ≠ some (some x)) (hp:k.p = pA n v) (hev:Evs v k) (hb:(KK.begin_ k 0 0 Frm.dr).1 = true):J n v k.events.length (KK.begin_ k 0 0 Frm.dr).2:=by
 have hA:=A.begin hn 0 0 cwdr;rcases begin_or A.toIE hn 0 0 Frm.dr with ⟨h,_⟩ | ⟨_,d,hd0,hd,_,_,_,he,hp',hc,_⟩
 ·rw [h] at hb; cases hb
 ·refine ⟨hA,.inl (by rw [hp']; exact hp),?_,?_,evs_app hev he (fun _ _ h=>absurd rfl h)⟩
  ·rw [hc];exact iI (P:=fun _ x=>(x.fGa = 0/\x.fc = ld)\/(x.fGa = 0/\x.fc = Frm.dr/\x.fat = ((k.events.length:Nat):Int))\/(x.fGa = 1/\x.fc = al)) (fun d x h=>absurd h (hi d x)) fun x hx=>by
    cases hx;exact .inr (.inl ⟨rfl,rfl,rfl⟩)
  ·rw [he];exact ⟨KK.ev0 0 0 Frm.dr (k.now + 1),by rw [List.getElem?_append_right (Nat.le_refl _)]; simp,rfl,fun h=>absurd rfl h⟩
structure Tl (n:Nat) (v:Int) (a:Nat) (p:PK) (k:KK):Prop where
 r:Rest (sz n) (3000000 + a * 120100) (500 + a * 24) k
 pe:k.p = p
 evs:Evs v k
 len:k.calls.length = n
theorem Tl.run {n:Nat} {v:Int} {a:Nat} {p p':PK} {k:KK} {A:eQ} (T:Tl n v a p k) (ha:a <= 20) {core:Nat} (hc:core < n) {env:Int} (he:0 <= env/\env < 2) {fc:cK} (cw:Cw fc) (h9:fc.e0 ≠ 9) (h1:(PK.do_ p env fc).1 = (A,true)) (h2:(PK.do_ p env fc).2 = p') (ht:env = 0->fc.e0 = 20->A.fRa = 0->A.fVal = v) :
  ∃ q,(KK.run k core env fc).2 = q/\(KK.run k core env fc).1 = (A,true)/\Tl n v (a + 1) p' q:=by
 obtain ⟨q,g1,g2,g3,g4,g5,e,g6,g7,g8,g9⟩:=run_do T.r (by omega) (by omega) (c:=core) (by rw [T.len]; exact hc) (a:=env) he cw h9;rw [T.pe,h1] at g2 g9;rw [T.pe,h2] at g3;refine ⟨q,g1,g2,?_,g3,?_,by rw [g5,T.len]⟩
 ·rw [show 3000000 + ((a + 1:Nat):Int) * 120100 = 3000000 + (a:Int) * 120100 + 120100 by omega,show 500 + (a + 1) * 24 = 500 + a * 24 + 24 by omega];exact g4
 ·refine evs_app T.evs g6 fun x1 x2 _ x3=>?_;rw [g9] at x3 ⊢;exact ht (by rw [← g7]; exact x1) (by rw [← g8]; exact x2) x3
theorem Tl.now {n:Nat} {v:Int} {a:Nat} {p:PK} {k:KK} (T:Tl n v a p k):k.now <= 3000000 + a * 120100:=T.r.now
theorem Tl.ep {n:Nat} {v:Int} {a:Nat} {p:PK} {k:KK} (T:Tl n v a p k):k.fFa.1.length <= 500 + a * 24:=T.r.ep
theorem t0 {n:Nat} {v:Int} (F:∃ w,Fine n v w) (hv:0 <= v):Tl n v 0 (pA n v) (r3 (sz n) v).2:=by
 obtain ⟨w,F⟩:=F;have C:=calm3 F.sh.sz hv;have h1:=C.now;have h2:=C.ep;have hs:(r3 (sz n) v).2.p.s = sz n:=by rw [F.p]; exact F.sA
 refine ⟨⟨C.toAll,hs,C.idle,by omega,by omega⟩,F.p,fun i e hi _ h=>absurd h (F.e3 e (List.mem_of_getElem? hi)),?_⟩;have h3:=C.inv.ok.cl;rw [hs] at h3;have h4:((r3 (sz n) v).2.calls.length:Int) = (n:Int):=h3;omega
end Frm
end
section
open Go Mb
theorem sp_kern_Cap (x:Ptr) (k:KK) (e s:Int):Sp prog sj [pv x,.int .i64 e,.int .i64 s] cC [ce x k] (fun r=>pa_ (r = fAa.at_ k.p.caps e s) [ce x k]):=by
 intro h s0;obtain ⟨z,rfl,zo,ok,st⟩:=tt s0;refine sim_kern_Kern_Cap _ _ _ ?_;unfold wQ;refine dx rfl (cO (bq z.pp st (i:=0) rfl rfl rfl ?_));exact bM (te z.pp k.p e s) (i:=1) rfl st fun r h1 hr s1=>ba hr (pW zo ok s1)
end
section
open Go Mb
variable {ET:Nat} {EF:Nat × Nat}
theorem u64_pos (x:Int):0 <= u64.wrap x:=by
 unfold IntKind.wrap;show 0 <= (if (IntKind.signed .u64 && _) = true then _ else x % 2 ^ (IntKind.bits .u64))
 rw [if_neg (by simp [IntKind.signed])];exact Int.emod_nonneg _ (by decide)
namespace Frm
theorem Tl.up {n:Nat} {v:Int} {a b:Nat} {p:PK} {k:KK} (T:Tl n v a p k) (h:a <= b):Tl n v b p k:=by
 have h1:=T.now;have h2:=T.ep;exact ⟨⟨T.r.toAll,T.r.sz,T.r.idle,by omega,by omega⟩,T.pe,T.evs,T.len⟩
theorem Tl.told {n:Nat} {v:Int} {a:Nat} {p:PK} {k:KK} (T:Tl n v a p k) {e:bp} (he:e ∈ k.events):((((e.fCa == 0) && (e.fIa.e0 == 20)) && (e.fYa.fRa == 0)) && (e.fYa.fVal != v)) = false:=by
 obtain ⟨i,hi⟩:=List.getElem?_of_mem he;have h:=T.evs i e hi;have hen:=(T.r.toIE.ended T.r.idle e he).2;by_cases h1:e.fCa = 0
 ·by_cases h2:e.fIa.e0 = 20
  ·by_cases h3:e.fYa.fRa = 0
   ·simp [h h1 h2 hen h3]
   ·simp [h3]
  ·simp [h2]
 ·simp [h1]
end Frm
open Frm in
theorem frame_j1 {a0 a1 a2:Int} {n:Nat} {v w:Int} (F:Fine n v w) (hn2:2 <= n/\n <= 4) (hw1:i64.wrap (2 + (i64.wrap (a0.tmod 3 + 3)).tmod 3) = n) (hv0:ior .u64 a1 1 = v) (hw0:ior .u64 a2 2 = w) (hwn:0 <= w) {x:Ptr} {s:Sl} {xs:List Int} {k:KK} {h:Hp} (T:Tl n v 13 (pC n v) k) (st:aB [ce x k,etB ET EF,vI s xs] h) :
  eD a0 a1 a2 (fun r=>pa_ (r = true) [etB ET EF,vI s xs]) x () h:=by
 unfold eD;obtain ⟨k1,g1,g2,T1⟩:=T.run (by omega) (core:=1) (by omega) (env:=1) (by decide) cwmp (by decide) F.mpC rfl (fun h=>absurd h (by decide));have hn0:=T.now;refine bM (i:=0) (rX x k 1 1 mp (by omega)) rfl st fun r1 h1 hr1 s1=>?_;have e1:r1 = (⟨0,0⟩,true):=hr1.1.trans g2;subst e1;have s1:aB [ce x (KK.run k 1 1 mp).2,etB ET EF,vI s xs] h1:=s1;have g1:(KK.run k 1 1 mp).2 = k1:=g1;rw [g1] at s1;obtain ⟨k2,q1,q2,T2⟩:=T1.run (by omega) (core:=1) (by omega) (env:=1) (by decide) cwl7 (by decide) (congrArg Prod.fst F.l7D) (congrArg Prod.snd F.l7D) (fun h=>absurd h (by decide));have hn1:=T1.now;refine bM (i:=0) (rX x k1 1 1 l7 (by omega)) rfl s1 fun r2 h2 hr2 s2=>?_;have e2:r2 = (⟨0,0⟩,true):=hr2.1.trans q2;subst e2;have s2:aB [ce x (KK.run k1 1 1 l7).2,etB ET EF,vI s xs] h2:=s2;have q1:(KK.run k1 1 1 l7).2 = k2:=q1;rw [q1] at s2;obtain ⟨k3,p1,p2,T3⟩:=T2.run (by omega) (core:=1) (by omega) (env:=1) (by decide) (cws7 hwn) (show (21:Int) ≠ 9 by decide) F.s7D rfl (fun h=>absurd h (by decide));have hn3:=T2.now;rw [hw0];refine bM (i:=0) (rX x k2 1 1 (s7 w) (by omega)) rfl s2 fun r3 h3 _ s3=>?_;have s3:aB [ce x (KK.run k2 1 1 (s7 w)).2,etB ET EF,vI s xs] h3:=s3;have p1:(KK.run k2 1 1 (s7 w)).2 = k3:=p1;rw [p1] at s3;have T3:Tl n v 16 (pE n v w) k3:=T3;refine Lp.intro (fun (i:Int) h=>∃ (m:Nat) (k:KK),i = m/\m <= n/\Tl n v (16 + m) (pE n v w) k/\aB [ce x k,etB ET EF,vI s xs] h) (fun (i:Int) _=>n - i.toNat) ⟨0,_,rfl,zero_le _,T3,s3⟩ ?_;rintro i h4 ⟨m,q,rfl,hm,T4,s4⟩;unfold iv;rw [hw1];have hn4:=T4.now;refine aY (fun d=>?_) (fun d=>?_)
 ·have hlt:m < n:=by simpa using d
  have hw:i64.wrap ((m:Int) + 1) = ((m + 1:Nat):Int):=by rw [bm (by omega) (by omega)]; rfl
  obtain ⟨q',c1,c2,T5⟩:=T4.run (by omega) hlt (env:=0) (by decide) cwld (by decide) (congrArg Prod.fst F.ldE) (congrArg Prod.snd F.ldE) (fun _ _ h=>absurd h (by decide));refine bM (i:=0) (rX x q m 0 ld (by omega)) rfl s4 fun r5 h5 hr5 s5=>?_;have e5:r5 = (⟨7,0⟩,true):=hr5.1.trans c2;subst e5;refine dx rfl ?_;have s5:aB [ce x (KK.run q m 0 ld).2,etB ET EF,vI s xs] h5:=s5;rw [c1] at s5;rw [hw];exact ⟨⟨m + 1,q',rfl,hlt,T5,s5⟩,by simp; omega⟩
 ·have hmn:m = n:=by simp at d; omega
  subst hmn;have hev:=T4.r.inv.ok.evn;refine xo (i:=0) (pq x q (by omega)) rfl s4 fun u h6 s6=>?_;have hul:=(cj (j:=0) s6 rfl).1;have s6:aB [vE u q.events,ce x q,etB ET EF,vI s xs] h6:=s6;refine Lp.intro (fun (z:Int) h=>∃ t:Nat,z = t/\t <= q.events.length/\aB [vE u q.events,ce x q,etB ET EF,vI s xs] h) (fun (z:Int) _=>q.events.length - z.toNat) ⟨0,rfl,zero_le _,s6⟩ ?_;rintro z h7 ⟨t,rfl,ht,s7⟩;unfold iu;rw [hw1,hv0];refine aY (fun d2=>?_) (fun d2=>?_)
  ·have hlt:t < q.events.length:=by rw [hul] at d2; simpa using d2
   have hw:i64.wrap ((t:Int) + 1) = ((t + 1:Nat):Int):=by rw [bm (by omega) (by omega)]; rfl
   refine dk s7 (j:=0) rfl (by omega) (by omega) fun q1 hq1=>?_;refine dD (j:=0) (i:=t) (k:=0) q.events[t] lH s7 rfl hq1 rfl (aF hlt) (by simp) ?_;refine dx (T4.told (List.getElem_mem hlt)) ?_;rw [hw];exact ⟨⟨t + 1,rfl,hlt,s7⟩,by simp; omega⟩
  ·refine dW rfl (dW rfl ?_);have s8:aB [ce x q,etB ET EF,vI s xs] h7:=bY (l:=[_]) s7;refine xo (i:=0) (pq x q (by omega)) rfl s8 fun u2 h9 s9=>?_;refine bM (i:=0) (sp_judge_Right u2 q.events (sz m) F.sh.sz (by omega) (ordN u2 (by omega))) rfl s9 fun r h10 hr s10=>?_;have hRt:=T4.r.toAll.right.1;rw [T4.r.sz] at hRt;exact ba (hr.trans hRt) (bY (l:=[_,_]) s10)
open Frm in
theorem frame_l2 {a0 a1 a2:Int} {n:Nat} {v w:Int} (F:Fine n v w) (hn2:2 <= n/\n <= 4) (hw1:i64.wrap (2 + (i64.wrap (a0.tmod 3 + 3)).tmod 3) = n) (hv0:ior .u64 a1 1 = v) (hw0:ior .u64 a2 2 = w) (hwn:0 <= w) {x:Ptr} {s:Sl} {xs:List Int} {k0:KK} {u:Nat} {h:Hp} (H0:J n v u k0) (hn0:k0.now <= 3600000) (he0:k0.fFa.1.length <= 600) (st:aB [ce x k0,etB ET EF,vI s xs] h) :
  Lp (fK a0 a1 a2 s (fun r=>pa_ (r = true) [etB ET EF,vI s xs]) x) (false,0) h:=by
 have hl:=(cj (j:=2) st rfl).1;refine Lp.intro (fun (z:Bool × Int) h=>∃ (a:Nat) (k:KK),z.2 = a/\a <= xs.length/\a <= 100/\J n v u k/\k.now <= 3600000 + a/\k.fFa.1.length <= 600 + a/\aB [ce x k,etB ET EF,vI s xs] h) (fun (z:Bool × Int) _=>xs.length - z.2.toNat) ⟨0,k0,rfl,zero_le _,zero_le _,H0,by omega,by omega,st⟩ ?_;rintro ⟨td,i⟩ h7 ⟨a,k,rfl,ha,ha100,H,hk,hep,s7⟩;unfold fK;rw [hw1];simp only;refine aY (fun d=>?_) (fun d=>?_)
 ·have hc:a < xs.length/\a < 100:=by rw [hl] at d; simp at d; omega
  have hlt:=hc.1;have hw:i64.wrap ((a:Int) + 1) = ((a + 1:Nat):Int):=by rw [bm (by omega) (by omega)]; rfl
  refine dk s7 (j:=2) rfl (by omega) (by omega) fun q hq=>?_;refine dD (j:=2) (i:=a) (k:=0) xs[a] (ck _) s7 rfl hq rfl (aF hlt) (by simp) ?_;refine ⟨by rw [bm (by omega) (by omega)]; omega,?_⟩;refine dD (j:=2) (i:=a) (k:=0) xs[a] (ck _) s7 rfl hq rfl (aF hlt) (by simp) ?_;rw [hw];generalize (i64.wrap (1 + (i64.wrap (i64.wrap (xs[a].tmod (i64.wrap ((n:Int) - 1)) + (n:Int)) - 1)).tmod (i64.wrap ((n:Int) - 1)))) = cc;refine aY (fun _=>?_) (fun _=>?_)
  ·refine bM (i:=0) (sp_kern_Post x k cc (by omega)) rfl s7 fun _ h8 _ s8=>?_;have hb:=KK.post_now H.inv.ok.n0 (by omega) cc;exact ⟨⟨a + 1,_,rfl,hlt,by omega,H.post (by omega) cc,by omega,by rw [post_ep]; omega,s8⟩,by simp; omega⟩
  ·refine dD (j:=2) (i:=a) (k:=0) xs[a] (ck _) s7 rfl hq rfl (aF hlt) (by simp) ?_;have stp:∀ (d:Int) (t:Bool) (h':Hp),aB [ce x (KK.step k d).2,etB ET EF,vI s xs] h'->(fun (z:Bool × Int) h=>(∃ (a:Nat) (k:KK),z.2 = a/\a <= xs.length/\a <= 100/\J n v u k/\k.now <= 3600000 + a/\k.fFa.1.length <= 600 + a/\aB [ce x k,etB ET EF,vI s xs] h)/\xs.length - z.2.toNat < xs.length - (a:Int).toNat) (t,((a + 1:Nat):Int)) h':=by
    intro d t h' s';have hb:=KK.step_now H.inv.ok.n0 (by omega) d;have hepn:=step_ep H.toIE (by omega) d;exact ⟨⟨a + 1,_,rfl,hlt,by omega,H.step F (by omega) d,by omega,by omega,s'⟩,by simp; omega⟩
   refine aY (fun _=>?_) (fun _=>?_)
   ·refine bM (i:=0) (xF x k 0 (by omega)) rfl s7 fun _ h9 _ s9=>?_;exact stp 0 td h9 s9
   ·refine bM (i:=0) (mL x k cc) rfl s7 fun r h8 hr s8=>?_;have s8:aB [ce x k,etB ET EF,vI s xs] h8:=s8;refine aY (fun _=>?_) (fun _=>?_)
    ·refine bM (i:=0) (xF x k cc (by omega)) rfl s8 fun _ h9 _ s9=>?_;exact stp cc td h9 s9
    ·refine aY (fun _=>?_) (fun _=>?_)
     ·refine bM (i:=0) (ri x k cc 1 al (by omega)) rfl s8 fun _ h9 _ s9=>?_;have hb:=KK.begin_now H.inv.ok.n0 (by omega) cc 1 al;exact ⟨⟨a + 1,_,rfl,hlt,by omega,H.begin (by omega) cc 1 cwal (.inr ⟨rfl,rfl⟩),by omega,by rw [begin_ep]; omega,s9⟩,by simp; omega⟩
     ·refine bM (i:=0) (ri x k cc 0 ld (by omega)) rfl s8 fun _ h9 _ s9=>?_;have hb:=KK.begin_now H.inv.ok.n0 (by omega) cc 0 ld;exact ⟨⟨a + 1,_,rfl,hlt,by omega,H.begin (by omega) cc 0 cwld (.inl ⟨rfl,rfl⟩),by omega,by rw [begin_ep]; omega,s9⟩,by simp; omega⟩
 ·have hcl:(k.calls.length:Int) = n:=by
   have h1:=H.inv.ok.cl;rw [H.s F] at h1;exact h1
  have S:=uc (m:=997) (closed (n:=n) (u:=u) F) (cores:=n) H (by omega) (by omega) (by omega) (by omega) H.awake;refine bM (i:=0) (sp_Settle x k n 1000 (by omega) (Nat.le_refl _) (by omega)) rfl s7 fun r h8 hr s8=>?_;have hr1:r = (KK.settle n (997 + 3) k).1:=hr.1;rw [S.1] at hr1;subst hr1;refine dx rfl ?_;have s8:aB [ce x (KK.settle n (997 + 3) k).2,etB ET EF,vI s xs] h8:=s8;have H':=S.2.all;have hid:=S.2.idle;have hno:=S.2.now;have how:=S.2.own;have hsl:=S.2.len;generalize (KK.settle n (997 + 3) k).2 = k' at s8 H' hid hno how hsl;have T0:Tl n v 12 k'.p k':=⟨⟨H'.toAll,H'.s F,hid,by omega,by omega⟩,rfl,H'.evs,by omega⟩
  refine bM (i:=0) (sp_kern_Cap x k' 1 2) rfl s8 fun r h9 hr s9=>?_;have s9:aB [ce x k',etB ET EF,vI s xs] h9:=s9;have hno9:=T0.now;rcases H'.gone hid with e | e
  ·rw [e] at T0 hr;have hr2:r.2 = false:=by rw [hr]; exact F.capB
   refine dW (by rw [hr2]; rfl) ?_;obtain ⟨k1,g1,g2,T1⟩:=T0.run (by omega) (core:=1) (by omega) (env:=1) (by decide) cwal (by decide) F.alB rfl (fun h=>absurd h (by decide));refine bM (i:=0) (rX x k' 1 1 al (by omega)) rfl s9 fun r1 h1 hr1 s1=>?_;have e1:r1 = (⟨0,0⟩,true):=hr1.1.trans g2;subst e1;refine dx rfl ?_;have s1:aB [ce x (KK.run k' 1 1 al).2,etB ET EF,vI s xs] h1:=s1;have g1:(KK.run k' 1 1 al).2 = k1:=g1;rw [g1] at s1;exact frame_j1 F hn2 hw1 hv0 hw0 hwn T1 s1
  ·rw [e] at T0 hr;have hr2:r.2 = true:=by rw [hr]; exact F.capC
   refine dx (by rw [hr2]; rfl) ?_;exact frame_j1 F hn2 hw1 hv0 hw0 hwn (T0.up (by omega)) s9
open Frm in
theorem sp_ShootFrame (c v0 w0:Int) (s:Sl) (xs:List Int):Sp prog mq [.int .i64 c,.int .u64 v0,.int .u64 w0,sv s] aC [etB ET EF,vI s xs] (fun r=>pa_ (r = true) [etB ET EF,vI s xs]):=by
 intro h st;refine sc _ _ _ _ ?_;unfold lN;refine bM (i:=0) sp_begun16 rfl st fun r h1 hr s1=>?_;subst hr;refine dx rfl ?_;have m1:=mod_in c (n:=3) (by decide);obtain ⟨n,hn⟩:∃ n:Nat,2 + (i64.wrap (c.tmod 3 + 3)).tmod 3 = n:=⟨(2 + (i64.wrap (c.tmod 3 + 3)).tmod 3).toNat,by omega⟩
 have hn2:2 <= n/\n <= 4:=by omega
 have hw1:i64.wrap (2 + (i64.wrap (c.tmod 3 + 3)).tmod 3) = n:=(bm (by omega) (by omega)).trans hn;obtain ⟨v,hv0⟩:∃ v,ior .u64 v0 1 = v:=⟨_,rfl⟩
 obtain ⟨w,hw0⟩:∃ w,ior .u64 w0 2 = w:=⟨_,rfl⟩
 have hv:0 <= v:=by rw [← hv0]; exact u64_pos _
 have hwn:0 <= w:=by rw [← hw0]; exact u64_pos _
 have F:=fine n v w (by omega);rw [hw1,hv0];refine mD (sp_shared (sz n) v F.sh) s1 fun x h2 s2=>?_;refine dx (kern_nn s2) ?_;have s2:aB [ce x (Shared.r3 (sz n) v).2,etB ET EF,vI s xs] h2:=s2;refine Lp.intro (fun (i:Int) h=>∃ (m:Nat) (k:KK),i = m/\m <= n/\Tl n v m (pA n v) k/\aB [ce x k,etB ET EF,vI s xs] h) (fun (i:Int) _=>n - i.toNat) ⟨0,_,rfl,zero_le _,t0 ⟨w,F⟩ hv,s2⟩ ?_;rintro i h3 ⟨m,k,rfl,hm,T,s3⟩;unfold iw;rw [hw1];have hnow:=T.now;refine aY (fun d=>?_) (fun d=>?_)
 ·have hlt:m < n:=by simpa using d
  have hw:i64.wrap ((m:Int) + 1) = ((m + 1:Nat):Int):=by rw [bm (by omega) (by omega)]; rfl
  obtain ⟨q,g1,g2,T'⟩:=T.run (by omega) hlt (env:=0) (by decide) cwld (by decide) (congrArg Prod.fst F.ldA) (congrArg Prod.snd F.ldA) (fun _ _ _=>rfl);refine bM (i:=0) (rX x k m 0 ld (by omega)) rfl s3 fun _ h4 _ s4=>?_;have s4:aB [ce x (KK.run k m 0 ld).2,etB ET EF,vI s xs] h4:=s4;rw [g1] at s4;rw [hw];exact ⟨⟨m + 1,q,rfl,hlt,T',s4⟩,by simp; omega⟩
 ·have hmn:m = n:=by simp at d; omega
  subst hmn;have hcl0:=T.len;have hb:(KK.begin_ k 0 0 Frm.dr).1 = true:=by
   refine begin_does (by unfold KK.is; exact decide_eq_true (by omega)) ?_ (le_refl _) (by rw [T.r.sz]; show (0:Int) < 2; decide);cases hb:KK.busy k 0 with
   | false=>rfl
   | true =>
    obtain ⟨x,hx⟩:=(busy_nat (c:=0) (by omega)).1 hb;exact absurd hx (T.r.idle 0 x)
  have hJ0:=j0 F T.r.toAll (by omega) T.r.idle T.pe T.evs hb;have hbn:=KK.begin_now T.r.inv.ok.n0 (by omega) 0 0 Frm.dr;have hbe:=begin_ep k 0 0 Frm.dr;have hep0:=T.ep;refine bM (i:=0) (ri x k 0 0 Frm.dr (by omega)) rfl s3 fun r h6 hr s6=>?_;rw [hb] at hr;subst hr;refine dx rfl ?_;exact frame_l2 F hn2 hw1 hv0 hw0 hwn hJ0 (by omega) (by rw [hbe]; omega) s6
end
section
open Go Mb Go.ChangeShapes Go.WideShapes Go.RowKit
theorem decShootFrame3 (cs:List Value) (h:uN [.i .i64] cs):∃ x:{x:Int // uN [.i .i64] ((cI .i64) x)},(cI .i64) x.1 = cs:=by
 have h0:=h;obtain ⟨a0,r0,rfl,_,h⟩:=fit_i h;obtain rfl:=fit_nil h;exact ⟨⟨a0,h0⟩,rfl⟩
set_option maxRecDepth 100000 in
theorem lifted_4 (os:Os) (started:os.Started) (H:Type) (enc:TypeId × Value->H) :
  ReturnsInHanded {} Tryz.checked os 4 .any (fun w args=>(Rows.shootFrameSpec.pre enc prog Tryz.f4 [] false w args/\laidMetH prog laid w)/\sizedMet enc prog Tryz.f4 (OpenSpec.ofChange Rows.shootFrameSpec) false w args)
   (Rows.shootFrameSpec.post enc prog Tryz.f4 false true false false):=by
 refine returnsInHanded_of_change_and (C:=Tryz.checked) (X:=fun w _=>laidMetH prog laid w) (fun _ _ _ hh h=>h.of_heap hh) Tryz.own started (by kernel_rfl) func4
  (ChangeSpec.witness_at (enc:=enc) (C:=Tryz.checked) (os:=os) (X:=fun w _=>laidMetH prog laid w) false (laidWorld os) #[.int .i64 0,.int .u64 0,.int .u64 0,.slice none 0 0] 8 rfl (by kernel_rfl) (by kernel_rfl) (by kernel_rfl) (by kernel_rfl) (by kernel_rfl) (laidWorld_met os _)) ?_
 intro W base args ds gs before hval0 hW _ _ hL _;have hval:∀ (j:Nat) t v,Tryz.f4.params[j]? = some t->args[j]? = some v->Value.okWide prog W .any base t v:=hval0;have hW':=hW;obtain ⟨p,q,hA0,hV0,rfl,hfz,hnd⟩:=hW;have hA:DataW.TrodAll enc prog W 0 (fun _=>true) true Tryz.f4.params.toList args.toList ds p:=hA0;have hV:DataW.TrodVars enc prog W (fun _=>true) [] gs q:=hV0;rw [Tryz.params4] at hA hval;have hst:=hA;obtain ⟨T,F,hb⟩:=block_of_laid hL;obtain ⟨rfl,rfl⟩:gs = []/\q = []:=by
  cases gs with
  | nil=>exact ⟨rfl,hV⟩
  | cons g r=>exact absurd hV (by intro h; cases h)
 obtain ⟨v0,w0,d0,e0,p0,q0,hx0,rfl,rfl,h0,hA0⟩:=trodAll_cons hA;obtain ⟨v1,w1,d1,e1,p1,q1,hx1,rfl,rfl,h1,hA1⟩:=trodAll_cons hA0;obtain ⟨v2,w2,d2,e2,p2,q2,hx2,rfl,rfl,h2,hA2⟩:=trodAll_cons hA1;obtain ⟨v3,w3,d3,e3,p3,q3,hx3,rfl,rfl,h3,hA3⟩:=trodAll_cons hA2;obtain ⟨hy,rfl,rfl⟩:=trodAll_nil hA3;subst hy;subst hx3;subst hx2;subst hx1;obtain rfl:args = #[v0,v1,v2,v3]:=by apply ext'; exact hx0
 obtain ⟨n0,rfl,rfl,rfl,hw0⟩:=open_int underlying3 (hval 0 3 v0 rfl rfl) h0;obtain ⟨n1,rfl,rfl,rfl,hw1⟩:=open_int underlying31 (hval 1 31 v1 rfl rfl) h1;obtain ⟨n2,rfl,rfl,rfl,hw2⟩:=open_int underlying31 (hval 2 31 v2 rfl rfl) h2;obtain ⟨s3,ys3,rfl,A3⟩:=open_arg (m:=1) (ks:=[.i .i64]) (enc':=fun x:{x:Int // uN [.i .i64] ((cI .i64) x)}=>(cI .i64) x.1) underlying27 (by kernel_rfl) (by kernel_rfl) (by decide) decShootFrame3 (hval 3 27 v3 rfl rfl) h3 (fun b o hb=>hfz b o (by simp [hb])) hb no_iface;obtain ⟨A3,hf3⟩:=A3.sub;generalize ys3.map (·.1) = xs3 at A3 hf3;refine (run_spV A3 (ET:=T) (EF:=F) (sp_ShootFrame n0 n1 n2 s3 xs3) hb).mono fun e W' ⟨he,hk⟩=>?_;subst he;refine ⟨_,rfl,_,_,_,[],(([]:List MemPlace)++(([]:List MemPlace)++(([]:List MemPlace)++(p3++[])))),[],hW',?_,?_,?_,keptBut_same hk.os hk.out hk.heap,fun h=>by cases h⟩
 ·exact trodAll_mk1 (shut_bool underlying4 true)
 ·exact same_post (by kernel_rfl) (by kernel_rfl) hst (fun p hp=>hW'.lt p (List.mem_append_left _ hp)) hk (fun p hp=>by simpa using hW'.lt p (List.mem_append_left _ hp))
 ·rfl
end
section
open Go Mb Go.ChangeShapes Go.WideShapes Go.RowKit
theorem jf0:Tryz.pinned.checked.prog.funcNamed Rows.shootFrameRow.func = some 4:=by kernel_rfl
theorem jf1:(Rows.shootFrameRow.wf (OpenSpec.ofChange Rows.shootFrameSpec) && laidOutB Tryz.pinned.checked.prog && mapsRowed Tryz.pinned.checked.prog) = true:=by kernel_rfl
theorem jf2:(Tryz.f4.params.all (Tryz.pinned.checked.prog.readableRec ·) && namedTie Tryz.pinned.checked.prog Rows.shootFrameRow.named Rows.shootFrameSpec.vars && (Rows.shootFrameRow.stops == []) && (Tryz.pinned.checked.prog.stops == []) && (Rows.shootFrameRow.knobs == []) && (Tryz.pinned.checked.prog.stopKnobs == [])) = true:=by kernel_rfl
theorem jf3:(Rows.shootFrameRow.inPlace == Tryz.pinned.checked.prog.inPlace 4) = true:=by kernel_rfl
theorem jf4:(Rows.shootFrameRow.unfollowed == Tryz.pinned.checked.prog.unfollowed 4) = true:=by kernel_rfl
theorem jf5:(Rows.shootFrameRow.recurses == Tryz.pinned.checked.prog.recurses 4) = true:=by kernel_rfl
theorem jf6:(Rows.shootFrameRow.named == Tryz.pinned.checked.prog.varsNamed 4) = true:=by kernel_rfl
theorem jf7:((Rows.shootFrameRow.maps == (Tryz.f4.params.toList++Rows.shootFrameSpec.plain.varTypes Tryz.pinned.checked.prog).any (Tryz.pinned.checked.prog.mapsRec ·)) && (Rows.shootFrameRow.ifaces == (Tryz.f4.params.toList++Rows.shootFrameSpec.plain.varTypes Tryz.pinned.checked.prog).any (Tryz.pinned.checked.prog.ifacesRec ·)) && (Rows.shootFrameRow.mapsOut == Tryz.pinned.checked.prog.mapsAmong Tryz.f4.resultTypes.toList) &&
 (Rows.shootFrameRow.loops == (Tryz.f4.params.toList++Rows.shootFrameSpec.plain.varTypes Tryz.pinned.checked.prog).any (Tryz.pinned.checked.prog.loopsFrom ·)) && (Rows.shootFrameRow.wideKeys == (Tryz.f4.params.toList++Rows.shootFrameSpec.plain.varTypes Tryz.pinned.checked.prog++Tryz.f4.resultTypes.toList).any (Tryz.pinned.checked.prog.wideKeysFrom ·)) &&
 Rows.shootFrameSpec.vars.all (Tryz.pinned.checked.prog.varReadable ·) && Tryz.f4.resultTypes.all (fun t=>Tryz.pinned.checked.prog.readableRec t && decide (t < Tryz.pinned.checked.prog.types.size)) && (Rows.shootFrameRow.ifacesOut == Tryz.f4.resultTypes.toList.any (Tryz.pinned.checked.prog.ifacesRec ·)) && (Rows.shootFrameRow.loopsOut == Tryz.f4.resultTypes.toList.any (Tryz.pinned.checked.prog.loopsFrom ·))) = true:=by kernel_rfl
theorem jf8:(Rows.shootFrameRow.plainKeys == Tryz.pinned.checked.prog.plainKeys) = true:=by kernel_rfl
theorem jf9:(Rows.shootFrameRow.shortTexts.isNone && Tryz.pinned.checked.prog.stopsHeard && Tryz.pinned.checked.prog.mayEnter && (Rows.shootFrameRow.lifted == Tryz.pinned.checked.prog.liftsFinal) && (Tryz.pinned.checked.prog.make == some Rows.shootFrameRow.make) && kindsB Tryz.pinned.checked.prog Tryz.f4 Rows.shootFrameRow && (Rows.shootFrameRow.pinned == Rows.shootFrameRow.pinnedBy) &&
 (Rows.shootFrameRow.veiled == (Tryz.f4.params.toList++Rows.shootFrameSpec.plain.varTypes Tryz.pinned.checked.prog++Tryz.f4.resultTypes.toList).any (Tryz.pinned.checked.prog.veiledRec ·)) && Rows.shootFrameRow.veiledFits Tryz.pinned.checked.prog Tryz.f4.params.toList (Tryz.f4.params.toList++Rows.shootFrameSpec.plain.varTypes Tryz.pinned.checked.prog++Tryz.f4.resultTypes.toList)) = true:=by kernel_rfl
theorem said_4:Rows.ShootFrameSaid :=
 OpenClaim.holds_of_wide 4 Tryz.f4 rfl rfl rfl rfl rfl rfl rfl ⟨rfl,rfl,rfl,rfl,rfl⟩ rfl rfl rfl rfl rfl jf0 func4 (joined_split jf1 jf2 jf3 jf4 jf5 jf6 jf7 jf8 jf9)
  (of_decide_eq_true (by kernel_rfl)) (by unfold Func.isWrapper; rw [if_neg (of_decide_eq_false (by kernel_rfl))]; exact ⟨rfl,rfl⟩)
  (fun os started H enc _=>lifted_4 os started H enc)
theorem shootFrame_holds:Rows.ShootFrameCardSaid :=
 Claim7.holds_tied_plain_at .later [] [.handle] true (true, "40798a6ac0d80a7f6cda2fa5a230fce821d92e44fca2d767fd684b4a67c4b18b") true
  said_4 (fun _ h=>by cases h) (by kernel_rfl) (fun _ h=>by cases h) shootFrame_row_tie rfl ⟨rfl,rfl⟩ (by kernel_rfl) rfl
  (fun f fn hf hfn=>by
   obtain rfl:f = 4:=Option.some.inj ((show prog.funcNamed "messuage/messuagelaw16.ShootFrame" = some 4 by kernel_rfl).symm.trans hf) |>.symm;obtain rfl:fn = Tryz.f4:=(Option.some.inj (func4.symm.trans hfn)).symm;exact ⟨by kernel_rfl,fun j t ht=>by
    rw [Tryz.params4] at ht;exact want_all (by kernel_rfl) (j:=j) (t:=t) ht⟩)
  (by kernel_rfl)
end
end Go.Proofs.YtochchocdckegaaGreatDoor
