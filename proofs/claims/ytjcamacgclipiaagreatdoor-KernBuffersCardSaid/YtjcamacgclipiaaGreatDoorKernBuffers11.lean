/- Part of the proof of: The law KernBuffers returns true for every input, and leaves its arguments as they were. -/
import Derived.Test.YtjcamacgclipiaaGreatDoorKernBuffers10
set_option linter.all false
set_option maxRecDepth 20000
set_option maxHeartbeats 4000000
namespace Go.Proofs.YtjcamacgclipiaaGreatDoor
open Go.Proofs.Tryz
open Go.IntKind (i64 u64)
open _root_.Bool (and_eq_true)
open _root_.Int (toNat_natCast)
open _root_.List (mem_cons pairwise_append pairwise_cons range)
open _root_.Nat (zero_le)
section
open Go Mb
def CmpOk (v:Value) (A:List As) (key:Int->Int) (S:Int->Prop):Prop :=
 ∀ x y,S x->S y->SpV prog v [.int .i64 x,.int .i64 y] cH A (fun r=>pa_ (r < 0↔key x < key y) A)
abbrev Up (key:Int->Int) (l:List Int):Prop:=l.Pairwise fun x y=>key x <= key y
theorem oL {L R:List Int} {x:Int}:(L++x::R)[L.length]? = some x:=by simp
theorem tK {L R:List Int} {x y:Int}:(L++x::y::R)[L.length + 1]? = some y:=by
 rw [List.getElem?_append_right (by omega),show L.length + 1 - L.length = 1 from by omega]; rfl
theorem mid_set {L R:List Int} {x v:Int}:(L++x::R).set L.length v = L++v::R:=by simp
theorem mid_set1 {L R:List Int} {x y v:Int}:(L++x::y::R).set (L.length + 1) v = L++x::v::R:=by
 rw [List.set_append_right _ _ (by omega),show L.length + 1 - L.length = 1 from by omega]; rfl
theorem up_insert {key:Int->Int} {a1 a2:List Int} {y:Int} (h:Up key (a1++a2)) (h1:∀ x ∈ a1,key x <= key y) (h2:∀ x ∈ a2,key y < key x):Up key (a1++y::a2):=by
 obtain ⟨p1,p2,p3⟩:=pairwise_append.1 h;refine pairwise_append.2 ⟨p1,pairwise_cons.2 ⟨fun x hx=>Int.le_of_lt (h2 x hx),p2⟩,fun x hx z hz=>?_⟩;rcases mem_cons.1 hz with rfl | hz
 ·exact h1 x hx
 ·exact p3 x hx z hz
theorem sp_insertion (s:Sl) (v:Value) (A:List As) (key:Int->Int) (S:Int->Prop) (hv:CmpOk v A key S) (p m q:List Int) (hS:∀ x ∈ m,S x) (hb:p.length + m.length + q.length < 2 ^ 60) :
  Sp prog aY [sv s,.int .i64 p.length,.int .i64 (p.length + m.length:Nat),v] R_ (vI s (p++(m++q))::A) (fun _ h=>∃ m',(m'.Perm m/\Up key m')/\ah (vI s (p++(m'++q))::A) h):=by
 intro h s0;have hl:=(aX (j:=0) s0 rfl).1;refine mI _ _ _ _ ?_;unfold gq;have hw0:i64.wrap ((p.length:Int) + 1) = ((p.length + 1:Nat):Int):=by rw [aE (by omega) (by omega)]; rfl
 rw [hw0];cases m with
 | nil =>
  refine Lp.intro (fun (i:Int) h=>i = ((p.length + 1:Nat):Int)/\ah (vI s (p++([]++q))::A) h) (fun _ _=>0) ⟨rfl,s0⟩ ?_;rintro i h ⟨rfl,s1⟩;unfold cJ;refine bB (by simp; omega) ?_;exact ⟨[],⟨.refl _,.nil⟩,s1⟩
 | cons x0 t0 =>
  refine Lp.intro (fun (i:Int) h=>∃ a b:List Int,i = ((p.length + a.length:Nat):Int)/\Up key a/\(a++b).Perm (x0::t0)/\ah (vI s (p++((a++b)++q))::A) h) (fun (i:Int) _=>p.length + (x0::t0).length - i.toNat) ⟨[x0],t0,rfl,List.pairwise_singleton _ _,.refl _,s0⟩ ?_;rintro i h ⟨a,b,rfl,ha,hp,s1⟩;have hlen:=hp.length_eq;simp only [List.length_append] at hlen;have hsl:=(aX (j:=0) s1 rfl).1;unfold cJ;refine ar (fun k=>?_) (fun k=>?_)
  ·have hbp:0 < b.length:=by have:=of_decide_eq_true k; omega
   obtain ⟨y,b',rfl⟩:=List.exists_cons_of_length_pos hbp;have hS':∀ x ∈ a++y::b',S x:=fun x hx=>hS x (hp.subset hx);have hw1:i64.wrap (((p.length + a.length:Nat):Int) + 1) = ((p.length + a.length + 1:Nat):Int):=by rw [aE (by omega) (by omega)]; rfl
   have out:∀ (a1 a2:List Int) (h:Hp),a1++a2 = a->(∀ x ∈ a1,key x <= key y)->(∀ x ∈ a2,key y < key x)->ah (vI s (p++((a1++y::(a2++b'))++q))::A) h ->
     (fun (s':Int) h'=>(∃ a b:List Int,s' = ((p.length + a.length:Nat):Int)/\Up key a/\(a++b).Perm (x0::t0)/\ah (vI s (p++((a++b)++q))::A) h')/\p.length + (x0::t0).length - s'.toNat < p.length + (x0::t0).length - ((p.length + a.length:Nat):Int).toNat) (i64.wrap (((p.length + a.length:Nat):Int) + 1)) h:=by
    intro a1 a2 h he h1 h2 s2;subst he;rw [hw1];refine ⟨⟨a1++y::a2,b',by simp; omega,up_insert ha h1 h2,?_,?_⟩,by simp at hlen ⊢; omega⟩
    ·refine List.Perm.trans ?_ hp;have:(a1++y::a2++b').Perm (a1++a2++y::b'):=by
      rw [List.append_assoc,List.append_assoc];refine List.Perm.append_left a1 ?_;simpa using (List.perm_middle (a:=y) (l₁:=a2) (l₂:=b')).symm
     exact this
    ·have:a1++y::a2++b' = a1++y::(a2++b'):=by simp
     rw [this]; exact s2
   refine Lp.intro (fun (j:Int) h=>∃ a1 a2:List Int,a1++a2 = a/\j = ((p.length + a1.length:Nat):Int)/\(∀ x ∈ a2,key y < key x)/\ah (vI s (p++((a1++y::(a2++b'))++q))::A) h) (fun (j:Int) _=>j.toNat) ⟨a,[],by simp,rfl,fun x hx=>(by cases hx),by simpa using s1⟩ ?_;rintro j h ⟨a1,a2,he,rfl,h2,s2⟩;unfold dM;refine ar (fun k2=>?_) (fun k2=>?_)
   ·have hne:a1 ≠ []:=by
     intro e; subst e; simp at k2
    obtain ⟨L0,z,rfl⟩:∃ L z,a1 = L++[z]:=⟨a1.dropLast,a1.getLast hne,(List.dropLast_concat_getLast hne).symm⟩
    have hal:a.length = L0.length + 1 + a2.length:=by rw [← he]; simp; omega
    have hdec:p++((L0++[z]++y::(a2++b'))++q) = (p++L0)++z::y::(a2++b'++q):=by simp
    rw [hdec] at s2;have hlL:(p++L0).length = p.length + L0.length:=by simp
    have hj:((p.length + (L0++[z]).length:Nat):Int) = (((p++L0).length + 1:Nat):Int):=by simp; omega
    rw [hj];have hsl2:=(aX (j:=0) s2 rfl).1;have hw2:i64.wrap ((((p++L0).length + 1:Nat):Int) - 1) = (((p++L0).length:Nat):Int):=by rw [aE (by omega) (by omega)]; omega
    rw [hw2];refine bE s2 (j:=0) rfl (by omega) (by simp; omega) fun q1 hq1=>?_;refine bE s2 (j:=0) rfl (by omega) (by simp; omega) fun q2 hq2=>?_;refine bK (j:=0) (i:=(p++L0).length + 1) (k:=0) y (bd _) s2 rfl hq1 (by rw [toNat_natCast]; rfl) tK (by simp) ?_;refine bK (j:=0) (i:=(p++L0).length) (k:=0) z (bd _) s2 rfl hq2 (by rw [toNat_natCast]; rfl) oL (by simp) ?_;have hSy:S y:=hS' y (by simp);have hSz:S z:=hS' z (by rw [← he]; simp);refine clv_t (hv y z hSy hSz) s2 fun r h3 s3=>?_;obtain ⟨hr,s4⟩:=aM.1 s3;have s5:=vW s4;refine ar (fun k3=>?_) (fun k3=>?_)
    ·have k3':key y < key z:=hr.1 (of_decide_eq_true k3);refine bK (j:=0) (i:=(p++L0).length) (k:=0) z (bd _) s5 rfl hq2 (by rw [toNat_natCast]; rfl) oL (by simp) ?_;refine bK (j:=0) (i:=(p++L0).length + 1) (k:=0) y (bd _) s5 rfl hq1 (by rw [toNat_natCast]; rfl) tK (by simp) ?_;refine tZ (j:=0) (i:=(p++L0).length + 1) (k:=0) z (bd _) s5 rfl hq1 (by rw [toNat_natCast]; rfl) tK (by simp) rfl fun h6 s6=>?_;rw [mid_set1] at s6;refine tZ (j:=0) (i:=(p++L0).length) (k:=0) y (bd _) s6 rfl hq2 (by rw [toNat_natCast]; rfl) oL (by simp) rfl fun h7 s7=>?_;refine ⟨⟨L0,z::a2,by rw [← he]; simp,by rw [hlL],fun x hx=>?_,?_⟩,by simp only [toNat_natCast]; omega⟩
     ·rcases mem_cons.1 hx with rfl | hx
      ·exact k3'
      ·exact h2 x hx
     ·have e2:p++((L0++y::(z::a2++b'))++q) = (p++L0)++y::z::(a2++b'++q):=by simp
      rw [e2];have s8:ah (vI s (((p++L0)++z::z::(a2++b'++q)).set (p++L0).length y)::A) h7:=s7;rw [mid_set] at s8;exact s8
    ·have k3':key z <= key y:=by
      have:¬ key y < key z:=fun hh=>by have:=hr.2 hh; simp at k3; omega
      omega
     refine out (L0++[z]) a2 h3 he (fun x hx=>?_) h2 (by rw [hdec]; exact s5);have hup:Up key (L0++[z]):=by
      rw [← he] at ha;exact (pairwise_append.1 ha).1
     rcases List.mem_append.1 hx with hx | hx
     ·have:=(pairwise_append.1 hup).2.2 x hx z (by simp);omega
     ·rw [List.mem_singleton.1 hx]; exact k3'
   ·have e:a1 = []:=by
     have:=of_decide_eq_false k2;exact List.eq_nil_of_length_eq_zero (by omega)
    subst e;exact out [] a2 h he (fun x hx=>by cases hx) h2 s2
  ·have hb0:b = []:=by
    have:=of_decide_eq_false k;exact List.eq_nil_of_length_eq_zero (by omega)
   subst hb0;rw [List.append_nil] at hp s1;exact ⟨a,⟨hp,ha⟩,s1⟩
theorem sp_SortStable20 (s:Sl) (v:Value) (A:List As) (key:Int->Int) (S:Int->Prop) (hv:CmpOk v A key S) (m:List Int) (hS:∀ x ∈ m,S x) (hb:m.length <= 20) :
  Sp prog di [sv s,v] R_ (vI s m::A) (fun _ h=>∃ m',(m'.Perm m/\Up key m')/\ah (vI s m'::A) h):=by
 intro h s0;have hl:=(aX (j:=0) s0 rfl).1;refine gL _ _ ?_;unfold eA;unfold cl;refine jG _ _ _ ?_;unfold fQ;rw [hl];have ins:∀ (p m q:List Int) (h:Hp) (K:Unit->Hp->Prop),(∀ x ∈ m,S x)->p.length + m.length + q.length < 2 ^ 60->ah (vI s (p++(m++q))::A) h->(∀ m' h',m'.Perm m->Up key m'->ah (vI s (p++(m'++q))::A) h'->K () h') ->
   cl prog aY [sv s,.int .i64 p.length,.int .i64 (p.length + m.length:Nat),v] R_ K h:=by
  intro p m q h K h1 h2 s1 k;refine (sp_insertion s v A key S hv p m q h1 h2 h s1).mono ?_;rintro u h' ⟨r,e,m',⟨p1,p2⟩,s2⟩;exact ⟨r,e,k m' h' p1 p2 s2⟩
 have tail:∀ (m':List Int) (h:Hp),m'.length = m.length->Up key m'->m'.Perm m->ah (vI s m'::A) h->Lp (bN (s) (m.length:Int) v (fun _ h'=>∃ m',(m'.Perm m/\Up key m')/\ah (vI s m'::A) h')) 20 h:=by
  intro m' h hlm hu hp s1;refine Lp.intro (fun (i:Int) h=>i = 20/\ah (vI s m'::A) h) (fun _ _=>0) ⟨rfl,s1⟩ ?_;rintro i h ⟨rfl,s2⟩;unfold bN;refine bB (by simp; omega) ?_;exact ⟨m',⟨hp,hu⟩,s2⟩
 refine Lp.intro (fun (z:Int × Int) h=>(z = (0,20)/\ah (vI s m::A) h)\/(z = (20,40)/\m.length = 20/\∃ m',(m'.Perm m/\Up key m')/\ah (vI s m'::A) h)) (fun (z:Int × Int) _=>(40 - z.2).toNat) (.inl ⟨rfl,s0⟩) ?_;rintro z h (⟨rfl,s1⟩ | ⟨rfl,h20,m',⟨hp,hu⟩,s1⟩)
 ·unfold dV;refine ar (fun k=>?_) (fun k=>?_)
  ·have h20:m.length = 20:=by have:=of_decide_eq_true k; omega
   have e:(20:Int) = ((([]:List Int).length + m.length:Nat):Int):=by simp [h20]
   show cl prog aY [sv s,.int .i64 0,.int .i64 20,v] R_ _ h;rw [e];refine ins [] m [] h _ hS (by simp; omega) (by simpa using s1) fun m' h' hp hu s2=>?_;refine ⟨.inr ⟨?_,h20,m',⟨hp,hu⟩,by simpa using s2⟩,?_⟩
   ·rw [← e]; rw [aE (by omega) (by omega)]; rfl
   ·rw [← e]; rw [aE (by omega) (by omega)]; decide
  ·have e:(m.length:Int) = ((([]:List Int).length + m.length:Nat):Int):=by simp
   show cl prog aY [sv s,.int .i64 0,.int .i64 (m.length:Int),v] R_ _ h;have:=ins [] m [] h (fun _=>Lp (bN s (m.length:Int) v (fun _ h'=>∃ m',(m'.Perm m/\Up key m')/\ah (vI s m'::A) h')) 20) hS (by simp; omega) (by simpa using s1) fun m' h' hp hu s2=>tail m' h' hp.length_eq hu hp (by simpa using s2);rw [← e] at this;exact this
 ·unfold dV;refine bB (by rw [h20]; rfl) ?_;have hml:m'.length = 20:=hp.length_eq.trans h20;have e:(m.length:Int) = ((m'.length + ([]:List Int).length:Nat):Int):=by simp [h20,hml]
  have e2:(20:Int) = (m'.length:Int):=by omega
  show cl prog aY [sv s,.int .i64 20,.int .i64 (m.length:Int),v] R_ _ h;have:=ins m' [] [] h (fun _=>Lp (bN s (m.length:Int) v (fun _ h'=>∃ m',(m'.Perm m/\Up key m')/\ah (vI s m'::A) h')) 20) (fun x hx=>by cases hx) (by simp; omega) (by simpa using s1) fun m2 h' hp2 hu2 s2=>by
   have:m2 = []:=hp2.eq_nil;subst this;exact tail m' h' hp.length_eq hu hp (by simpa using s2)
  rw [← e,← e2] at this;exact this
end
section
open Go Mb
attribute [local irreducible] bM gR il Val Tx Tu Tn RV Res br nn ix gd ld st nw cl clv dL Lp ct
def kern_New_l1 (a0:ao) (K:kT Ptr) (b22:Nat) (Rec11:kT Int) (s10:Int):hT:=br (decide (s10 < a0.fRa)) ( dL ( ld (b22,2) cS fun x31=>cl prog gS [] fG fun r32=>hpv prog (Instr.buildSlice aZ 1 #[(0,(pv r32))]) cX fun (v33:Sl)=>hpv prog (Builtin.append_ #[aZ,aZ] aZ #[(sv x31),(sv v33)]) cX fun (v34:Sl)=>st (b22,2) [sv v34]<|Rec11 (i64.wrap (s10 + 1))) ( cl prog gS [] fG fun r32=>ld (b22,2) cS fun x31=>hpv prog (Instr.buildSlice aZ 1 #[(0,(pv r32))]) cX fun (v33:Sl)=>hpv prog (Builtin.append_ #[aZ,aZ] aZ #[(sv x31),(sv v33)]) cX fun (v34:Sl)=>st (b22,2) [sv v34]<|Rec11 (i64.wrap (s10 + 1)))) ( K (some (b22,0)))
def kern_New_l2 (a0:ao) (K:kT Ptr) (b22:Nat) (Rec11:kT Int) (s10:Int):hT:=br (decide (s10 < a0.fRa)) ( dL ( ld (b22,2) cS fun x31=>cl prog gS [] fG fun r32=>hpv prog (Instr.buildSlice aZ 1 #[(0,(pv r32))]) cX fun (v33:Sl)=>hpv prog (Builtin.append_ #[aZ,aZ] aZ #[(sv x31),(sv v33)]) cX fun (v34:Sl)=>st (b22,2) [sv v34]<|Rec11 (i64.wrap (s10 + 1))) ( cl prog gS [] fG fun r32=>ld (b22,2) cS fun x31=>hpv prog (Instr.buildSlice aZ 1 #[(0,(pv r32))]) cX fun (v33:Sl)=>hpv prog (Builtin.append_ #[aZ,aZ] aZ #[(sv x31),(sv v33)]) cX fun (v34:Sl)=>st (b22,2) [sv v34]<|Rec11 (i64.wrap (s10 + 1)))) ( K (some (b22,0)))
def kern_New_l3 (a0:ao) (K:kT Ptr) (b22:Nat) (Rec10:kT Int) (s9:Int):hT:=br (decide (s9 < a0.fRa)) ( dL ( ld (b22,2) cS fun x31=>cl prog gS [] fG fun r32=>hpv prog (Instr.buildSlice aZ 1 #[(0,(pv r32))]) cX fun (v33:Sl)=>hpv prog (Builtin.append_ #[aZ,aZ] aZ #[(sv x31),(sv v33)]) cX fun (v34:Sl)=>st (b22,2) [sv v34]<|Rec10 (i64.wrap (s9 + 1))) ( cl prog gS [] fG fun r32=>ld (b22,2) cS fun x31=>hpv prog (Instr.buildSlice aZ 1 #[(0,(pv r32))]) cX fun (v33:Sl)=>hpv prog (Builtin.append_ #[aZ,aZ] aZ #[(sv x31),(sv v33)]) cX fun (v34:Sl)=>st (b22,2) [sv v34]<|Rec10 (i64.wrap (s9 + 1)))) ( K (some (b22,0)))
def sh_kern_New (a0:ao) (K:kT Ptr):hT:=cl prog nC [(.agg (ao.C a0).toArray)] cM fun r6=>br r6.isNone ( K none) ( dL ( cl prog tH [(.int .i64 a0.fRa)] oR fun r14=>dL ( cl prog nF [(.int .i64 a0.fRa)] gV fun r17=>hpv prog (Instr.makeSlice mH (.int .i64 a0.fRa) (.int .i64 a0.fRa)) qB fun (v20:Sl)=>nw bj (eI.C (⟨r6,a0.fHa,(⟨none,0,0,none⟩:Sl),r14,r17,v20,(⟨none,0,0,none⟩:Sl),0⟩:eI)) fun b22=>Lp (kern_New_l1 a0 K b22) 0) ( hpv prog (Instr.makeSlice mH (.int .i64 a0.fRa) (.int .i64 a0.fRa)) qB fun (v20:Sl)=>cl prog nF [(.int .i64 a0.fRa)] gV fun r17=>nw bj (eI.C (⟨r6,a0.fHa,(⟨none,0,0,none⟩:Sl),r14,r17,v20,(⟨none,0,0,none⟩:Sl),0⟩:eI)) fun b22=>Lp (kern_New_l2 a0 K b22) 0)) ( hpv prog (Instr.makeSlice mH (.int .i64 a0.fRa) (.int .i64 a0.fRa)) qB fun (v20:Sl)=>cl prog tH [(.int .i64 a0.fRa)] oR fun r14=>cl prog nF [(.int .i64 a0.fRa)] gV fun r17=>nw bj (eI.C (⟨r6,a0.fHa,(⟨none,0,0,none⟩:Sl),r14,r17,v20,(⟨none,0,0,none⟩:Sl),0⟩:eI)) fun b22=>Lp (kern_New_l3 a0 K b22) 0))
theorem sim_kern_New (a0:ao) {K:kT Ptr} {h:Hp} (H:sh_kern_New a0 K h):cl prog xX [(.agg (ao.C a0).toArray)] sO K h:=have z0:LH (σ:=Int) 6 1 (fun s10 r=>(25,(.int .i64 s10))::r) [25] [4,24] (fun _ l=>l):=⟨⟩; have z1:OH 7 [0,4,8,12] (.b 4 5 [22,26,30,32,36,42] .e [17,26,30,32,36,42] .e) []:=⟨⟩; have z2:LH (σ:=Int) 6 1 (fun s9 r=>(25,(.int .i64 s9))::r) [25] [4,24] (fun _ l=>l):=⟨⟩; have z3:OH 4 [0,4,8,12,16,24,28,36,40] (.b 5 11 [] (.b 8 11 [46,48,54,56] .e [34,48,54,56] .e) [22,34,48,54,56] .e) []:=⟨⟩; J [] func14 H
def rY (a0:Ptr) (K:kT Sl):hT:=br a0.isNone ( K (⟨none,0,0,none⟩:Sl)) ( nn a0 fun q6=>ld (q6.1,q6.2 + 6) cS fun x8=>cl prog dN [(sv x8)] dv fun r9=>K r9)
theorem sim_kern_Kern_Events (a0:Ptr) {K:kT Sl} {h:Hp} (H:rY a0 K h):cl prog eS [(pv a0)] dv K h:=J [] func18 H
def sh_kern_Kern_is (a0:Ptr) (a1:Int) (K:kT Bool):hT:=br ((!a0.isNone) && (decide (a1 >= 0))) ( nn a0 fun q14=>ld (q14.1,q14.2 + 5) cS fun x16=>K (decide (a1 < (x16.len:Int)))) ( K false)
theorem sim_kern_Kern_is (a0:Ptr) (a1:Int) {K:kT Bool} {h:Hp} (H:sh_kern_Kern_is a0 a1 K h):cl prog fj [(pv a0),(.int .i64 a1)] ai K h:=J [] func64 H
def uC (a0:Ptr) (a1:Int) (K:kT Bool):hT:=cl prog fj [(pv a0),(.int .i64 a1)] ai fun r7=>br r7 ( nn a0 fun q10=>ld (q10.1,q10.2 + 5) cS fun x12=>ix x12 a1 fun q14=>ld (q14.1,q14.2 + Int.toNat a1 * 1) cP fun x15=>K (!x15.isNone)) ( K false)
theorem sim_kern_Kern_Busy (a0:Ptr) (a1:Int) {K:kT Bool} {h:Hp} (H:uC a0 a1 K h):cl prog eU [(pv a0),(.int .i64 a1)] ai K h:=J [] func35 H
def ic (q39:Nat × Nat) (b10:Nat) (Rec13:kT (Ptr × Bool)) (q49:Nat × Nat) (s23:Unit):hT:=ld (q49.1,q49.2) aH.C fun x78=>nw eN (aH.C (⟨0,0,0,0⟩:aH)) fun b10=>st (b10,0) (aH.C x78)<|ld (q39.1,q39.2 + 0) cP fun x57=>ld (b10,2) (cI .i64) fun x59=>ld (b10,3) (cI .i64) fun x61=>cl prog gw [(pv x57),(.int .i64 x59),(.int .i64 x61)] bL fun r62=>st (b10,0) (aH.C r62.1)<|Rec13 ((some (b10,0)),r62.2)
def uT (K:kT Bool) (q13:Nat × Nat) (x16:Int) (q39:Nat × Nat) (b10:Nat) (Rec13:kT (Ptr × Bool)) (s12:Ptr × Bool):hT:=br s12.2 ( nn s12.1 fun q49=>ld (q49.1,q49.2 + 2) (cI .i64) fun x50=>br (decide (x50 >= 0)) ( ct (ic q39 b10 Rec13 q49)<|ld (q49.1,q49.2 + 2) (cI .i64) fun x66=>ld (q13.1,q13.2 + 1) (cI .i64) fun x70=>br (x66 == x70) ( ld (q49.1,q49.2 + 3) (cI .i64) fun x74=>br (x74 == (i64.wrap x16)) ( K true) ( ic q39 b10 Rec13 q49 ())) ( ic q39 b10 Rec13 q49 ())) ( K false)) ( K false)
def ig (a0:Ptr) (a2:Int) (a3:Int) (K:kT Bool) (q13:Nat × Nat) (x16:Int) (s4:Unit):hT:=nn a0 fun q39=>ld (q39.1,q39.2 + 0) cP fun x41=>cl prog gw [(pv x41),(.int .i64 a2),(.int .i64 a3)] bL fun r44=>nw eN (aH.C (⟨0,0,0,0⟩:aH)) fun b10=>st (b10,0) (aH.C r44.1)<|Lp (uT K q13 x16 q39 b10) ((some (b10,0)),r44.2)
def ux (a0:Ptr) (a1:Ptr) (a2:Int) (a3:Int) (K:kT Bool):hT:=nn a1 fun q13=>ld (q13.1,q13.2 + 2 + 1) (cI .u64) fun x16=>ct (ig a0 a2 a3 K q13 x16)<|ld (q13.1,q13.2 + 2 + 0) (cI .u64) fun x22=>br (x22 == 5) ( ld (q13.1,q13.2 + 1) (cI .i64) fun x29=>br ((a2 == x29) && (a3 == (i64.wrap x16))) ( K true) ( ig a0 a2 a3 K q13 x16 ())) ( ig a0 a2 a3 K q13 x16 ())
theorem sim_kern_Kern_goes (a0:Ptr) (a1:Ptr) (a2:Int) (a3:Int) {K:kT Bool} {h:Hp} (H:ux a0 a1 a2 a3 K h):cl prog qg [(pv a0),(pv a1),(.int .i64 a2),(.int .i64 a3)] ai K h:=have z0:LH (σ:=Unit) 100004 0 (fun _ r=>r) [] [0,1,2,3,9] (fun _ l=>l):=⟨⟩; have z1:LH (σ:=Ptr × Bool) 5 0 (fun s12 r=>(10,(pv s12.1))::(11,(.bool s12.2))::r) [10,11] [0,1,9] (fun _ l=>l):=⟨⟩; have z2:LH (σ:=Unit) 100009 0 (fun _ r=>r) [] [0,1,9,10] (fun _ l=>l):=⟨⟩; have z3:OH 6 [0,4,8,16,24,13,21,29,34,36,40,44,50,52] .e []:=⟨⟩; have z4:OH 7 [0,8,12,16,5,21,24,28,32,40,37,44,48] .e []:=⟨⟩; J [4,9] func170 H
def ib (a0:Ptr) (a1:Ptr) (a2:Int) (a4:ak) (K:kT ak) (s1:Bool):hT:=nn a1 fun q32=>ld (q32.1,q32.2 + 2 + 0) (cI .u64) fun x35=>br (x35 == 7) ( br s1 ( K (⟨0,0,0⟩:ak)) ( K a4)) ( br (x35 == 8) ( nn a0 fun q51=>ld (q51.1,q51.2 + 0) cP fun x53=>cl prog gw [(pv x53),(.int .i64 a2),(.int .i64 a4.fDa)] bL fun r57=>ld (q32.1,q32.2 + 2 + 2) (cI .u64) fun x64=>br (s1 && (ap (i64.wrap x64) r57.1.fCa)) ( K ({ a4 with fCa:=(iand .i64 a4.fCa (i64.wrap x64)) }:ak)) ( K a4)) ( cl prog qg [(pv a0),(.pointer (some ⟨q32.1,q32.2,none⟩)),(.int .i64 a2),(.int .i64 a4.fDa)] ai fun r41=>br r41 ( K (⟨0,0,0⟩:ak)) ( K a4)))
def uw (a0:Ptr) (a1:Ptr) (a2:Int) (a3:Int) (a4:ak) (K:kT ak):hT:=ct (ib a0 a1 a2 a4 K)<|nn a1 fun q16=>ld (q16.1,q16.2 + 1) (cI .i64) fun x18=>br (x18 == a2) ( ld (q16.1,q16.2 + 2 + 1) (cI .u64) fun x26=>ib a0 a1 a2 a4 K ((i64.wrap x26) == a3)) ( ib a0 a1 a2 a4 K false)
theorem sim_kern_Kern_left (a0:Ptr) (a1:Ptr) (a2:Int) (a3:Int) (a4:ak) {K:kT ak} {h:Hp} (H:uw a0 a1 a2 a3 a4 K h):cl prog lN [(pv a0),(pv a1),(.int .i64 a2),(.int .i64 a3),(.agg (ak.C a4).toArray)] wY K h:=have z0:LH (σ:=Bool) 100002 2 (fun s1 r=>(11,(.bool s1))::r) [11] [0,1,2,9,10] (fun _ l=>l):=⟨⟩; have z1:OH 9 [0,16,20,24,4,8,13] (.b 7 11 [32,36,40,46,50,52] .e [30,32,36,40,50,52] .e) []:=⟨⟩; J [2] func122 H
def fz (a1:Int) (a2:Int) (q14:Nat × Nat) (Rec7:kT (Bool × Int × ak)) (s6:Bool × Int × ak) (x30:Ptr) (s15:Bool):hT:=br s15 ( cl prog lN [(.pointer (some ⟨q14.1,q14.2,none⟩)),(pv x30),(.int .i64 a1),(.int .i64 a2),(.agg (ak.C s6.2.2).toArray)] wY fun r47=>Rec7 ((r47.fCa != 0),(i64.wrap (s6.2.1 + 1)),r47)) ( Rec7 (s6.1,(i64.wrap (s6.2.1 + 1)),s6.2.2))
def uS (a1:Int) (a2:Int) (K:kT (ak × Bool)) (q14:Nat × Nat) (x25:Sl) (Rec7:kT (Bool × Int × ak)) (s6:Bool × Int × ak):hT:=br (decide (s6.2.1 < (x25.len:Int))) ( ix x25 s6.2.1 fun q29=>ld (q29.1,q29.2 + Int.toNat s6.2.1 * 1) cP fun x30=>ct (fz a1 a2 q14 Rec7 s6 x30)<|br (s6.1 && (!x30.isNone)) ( nn x30 fun q38=>ld (q38.1,q38.2 + 7) cB fun x40=>fz a1 a2 q14 Rec7 s6 x30 x40) ( fz a1 a2 q14 Rec7 s6 x30 false)) ( K (s6.2.2,s6.1))
def uv (a0:Ptr) (a1:Int) (a2:Int) (K:kT (ak × Bool)):hT:=nn a0 fun q14=>ld (q14.1,q14.2 + 0) cP fun x16=>cl prog eR [(pv x16),(.int .i64 a1),(.int .i64 a2)] bA fun r19=>ld (q14.1,q14.2 + 5) cS fun x25=>Lp (uS a1 a2 K q14 x25) (r19.2,0,r19.1)
theorem sim_kern_Kern_seen (a0:Ptr) (a1:Int) (a2:Int) {K:kT (ak × Bool)} {h:Hp} (H:uv a0 a1 a2 K h):cl prog lM [(pv a0),(.int .i64 a1),(.int .i64 a2)] bA K h:=have z0:LH (σ:=Bool × Int × ak) 3 2 (fun s6 r=>(9,(.bool s6.1))::(27,(.int .i64 s6.2.1))::r) [9,27] [0,1,2,6,8,25,26] (fun s6 l=>(setB l 0 (ak.C s6.2.2))):=⟨⟩; have z1:LH (σ:=Bool) 102006 2 (fun s15 r=>(41,(.bool s15))::r) [41] [0,1,2,6,8,9,11,25,26,27] (fun _ l=>l):=⟨⟩; J [2006] func118 H
def fO (a1:Int) (K:kT (ad × an)) (q18:Nat × Nat) (q22:Nat × Nat) (x35:Int) (r37:Ptr) (s12:Unit):hT:=ld (q18.1,q18.2 + 2 + 0) (cI .u64) fun x71=>ld (q22.1,q22.2 + 2) cS fun x57=>ix x57 a1 fun q59=>ld (q59.1,q59.2 + Int.toNat a1 * 1) cP fun x60=>ld (q18.1,q18.2 + 1) (cI .i64) fun x65=>cl prog uN [(pv x60),(pv r37),(.int .i64 x65),(.int .i64 (i64.wrap x35)),(.int .i64 (i64.wrap x71))] eJ fun r73=>br (!r73.2) ( K ((⟨7,0⟩:ad),(⟨0,0,0,0⟩:an))) ( ld (q22.1,q22.2 + 0) cP fun x84=>ld (q18.1,q18.2 + 2) aa.C fun x90=>cl prog dS [(pv x84),(.int .i64 r73.1.fEa),(.agg (aa.C x90).toArray)] aD fun r91=>K (r91.1,r73.1))
def rX (a0:Ptr) (a1:Int) (a2:Ptr) (K:kT (ad × an)):hT:=nn a2 fun q18=>nn a0 fun q22=>ld (q18.1,q18.2 + 2) aa.C fun x20=>ld (q22.1,q22.2 + 1) (cI .i64) fun x24=>cl prog fT [(.agg (aa.C x20).toArray),(.int .i64 x24)] aC fun r25=>br (r25 != 0) ( K ((⟨r25,0⟩:ad),(⟨0,0,0,0⟩:an))) ( ld (q18.1,q18.2 + 2 + 1) (cI .u64) fun x35=>cl prog kU [] gF fun r37=>ct (fO a1 K q18 q22 x35 r37)<|ld (q18.1,q18.2 + 1) (cI .i64) fun x43=>cl prog lM [(.pointer (some ⟨q22.1,q22.2,none⟩)),(.int .i64 x43),(.int .i64 (i64.wrap x35))] bA fun r45=>br r45.2 ( cl prog dl [(pv r37),(.int .i64 (i64.wrap x35)),(.agg (ak.C r45.1).toArray)] aC fun r52=>fO a1 K q18 q22 x35 r37 ()) ( fO a1 K q18 q22 x35 r37 ()))
theorem sim_kern_Kern_access (a0:Ptr) (a1:Int) (a2:Ptr) {K:kT (ad × an)} {h:Hp} (H:rX a0 a1 a2 K h):cl prog nj [(pv a0),(.int .i64 a1),(pv a2)] dH K h:=have z0:LH (σ:=Unit) 100009 2 (fun _ r=>r) [] [0,1,2,6,7,9,10] (fun _ l=>l):=⟨⟩; have z1:OH 13 [0,4,10,14] .e [1,1,0,0]:=⟨⟩; have z2:OH 12 [0,4,8,16,20,24,28,32,13,37] (.b 10 14 [44,48,52,58,62,64] .e [42,44,48,52,62,64] .e) []:=⟨⟩; have z3:OH 9 [0,4,8,16,28,32,36,40,48,52,56,60,64,69,72,13,20,25,45] (.b 19 23 [80,84,88,94,98,100] .e [78,80,84,88,98,100] .e) []:=⟨⟩; have z4:OH 1 [0,16,4,8,20,24,13,29,34,36] .e []:=⟨⟩; J [9] func80 H
def uy (a0:Ptr) (a1:Int) (a2:ad) (a3:an) (K:kT Unit):hT:=nn a0 fun q10=>ld (q10.1,q10.2 + 6) cS fun x12=>ld (q10.1,q10.2 + 5) cS fun x16=>ix x16 a1 fun q18=>ld (q18.1,q18.2 + Int.toNat a1 * 1) cP fun x19=>nn x19 fun q20=>ld (q20.1,q20.2 + 0) (cI .i64) fun x22=>ix x12 x22 fun q23=>ld (q10.1,q10.2 + 7) (cI .i64) fun x31=>ld (q10.1,q10.2 + 7) (cI .i64) fun x35=>st (q23.1,q23.2 + Int.toNat x22 * 16 + 8) [.int .i64 x31]<|st (q23.1,q23.2 + Int.toNat x22 * 16 + 9) [.int .i64 x35]<|st (q23.1,q23.2 + Int.toNat x22 * 16 + 10) (ad.C a2)<|st (q23.1,q23.2 + Int.toNat x22 * 16 + 12) (an.C a3)<|ld (q10.1,q10.2 + 5) cS fun x49=>ix x49 a1 fun q51=>st (q51.1,q51.2 + Int.toNat a1 * 1) [pv none]<|K ()
theorem sim_kern_Kern_ends (a0:Ptr) (a1:Int) (a2:ad) (a3:an) {K:kT Unit} {h:Hp} (H:uy a0 a1 a2 a3 K h):cl prog lO [(pv a0),(.int .i64 a1),(.agg (ad.C a2).toArray),(.agg (an.C a3).toArray)] R_ K h:=have z0:OH 2 [0,4,8,12,16,20,24,32,36,40,48,52,29,45,56,60,66,68,72,78,80,84,90,92,96,102] .e []:=⟨⟩; have z1:OH 1 [0,16,32,4,8,20,24,13,29,36,41,44,48,53,56,60] .e []:=⟨⟩; J [] func81 H
def tL (K:kT Bool) (q10:Nat × Nat) (q14:Nat × Nat) (Rec21:kT Int) (s20:Int) (Rec26:kT Int) (s25:Int):hT:=br (decide (s25 < 8)) ( ld (q14.1,q14.2 + 0) cP fun x57=>cl prog eR [(pv x57),(.int .i64 s20),(.int .i64 s25)] bA fun r60=>br r60.2 ( cl prog lN [(.pointer (some ⟨q14.1,q14.2,none⟩)),(.pointer (some ⟨q10.1,q10.2,none⟩)),(.int .i64 s20),(.int .i64 s25),(.agg (ak.C r60.1).toArray)] wY fun r70=>br (!(ak.eqb r70 r60.1)) ( K true) ( Rec26 (i64.wrap (s25 + 1)))) ( Rec26 (i64.wrap (s25 + 1)))) ( Rec21 (i64.wrap (s20 + 1)))
def tM (K:kT Bool) (q10:Nat × Nat) (q14:Nat × Nat) (x46:Int) (Rec21:kT Int) (s20:Int):hT:=br (decide (s20 < x46)) ( Lp (tL K q10 q14 Rec21 s20) 0) ( K false)
def tk (a0:Ptr) (a1:Ptr) (K:kT Bool):hT:=nn a1 fun q10=>nn a0 fun q14=>ld (q10.1,q10.2 + 2) aa.C fun x12=>ld (q14.1,q14.2 + 1) (cI .i64) fun x16=>cl prog fT [(.agg (aa.C x12).toArray),(.int .i64 x16)] aC fun r17=>br (r17 != 0) ( K false) ( ld (q10.1,q10.2 + 2 + 0) (cI .u64) fun x24=>br (decide (x24 < 4)) ( K false) ( ld (q10.1,q10.2 + 2 + 0) (cI .u64) fun x32=>br (decide (x32 > 8)) ( K false) ( ld (q10.1,q10.2 + 2 + 0) (cI .u64) fun x40=>br (x40 == 6) ( K false) ( ld (q14.1,q14.2 + 1) (cI .i64) fun x46=>Lp (tM K q10 q14 x46) 0))))
theorem sim_kern_Kern_takes (a0:Ptr) (a1:Ptr) {K:kT Bool} {h:Hp} (H:tk a0 a1 K h):cl prog oC [(pv a0),(pv a1)] ai K h:=have z0:LH (σ:=Int) 4 0 (fun s20 r=>(47,(.int .i64 s20))::r) [47] [0,1,46] (fun _ l=>l):=⟨⟩; have z1:LH (σ:=Int) 7 0 (fun s25 r=>(50,(.int .i64 s25))::r) [50] [0,1,5,46,47] (fun _ l=>l):=⟨⟩; have z2:OH 10 [0,4,8,12,16,20,24,32,30,36,40] .e []:=⟨⟩; have z3:OH 1 [0,16,4,8,20,24,13,29,34,36,40,44,48,52,56,61,64,68,72,76,80,84,88,93,96,100,104,108,112,116,120,125,128,132] .e []:=⟨⟩; J [] func82 H
def gB (a1:Int) (q9:Nat × Nat) (Rec10:kT Int) (s9:Int) (x20:an) (s18:Bool × ak):hT:=br ((decide (x20.fBa >= 0)) && (((!s18.1) || (s18.2.fEa != x20.fEa)) || (!(ap x20.fCa s18.2.fCa)))) ( ld (q9.1,q9.2 + 2) cS fun x59=>ix x59 a1 fun q61=>ld (q61.1,q61.2 + Int.toNat a1 * 1) cP fun x62=>cl prog mO [(pv x62),(.int .i64 x20.fBa),(.int .i64 x20.fPa)] ai fun r67=>Rec10 (i64.wrap (s9 + 1))) ( Rec10 (i64.wrap (s9 + 1)))
def tN (a1:Int) (K:kT Unit) (q9:Nat × Nat) (r15:Sl) (Rec10:kT Int) (s9:Int):hT:=br (decide (s9 < (r15.len:Int))) ( ix r15 s9 fun q19=>ld (q19.1,q19.2 + Int.toNat s9 * 4) an.C fun x20=>ct (gB a1 q9 Rec10 s9 x20)<|br (decide (x20.fBa >= 0)) ( cl prog lM [(.pointer (some ⟨q9.1,q9.2,none⟩)),(.int .i64 x20.fBa),(.int .i64 x20.fPa)] bA fun r31=>gB a1 q9 Rec10 s9 x20 (r31.2,r31.1)) ( gB a1 q9 Rec10 s9 x20 (false,(⟨0,0,0⟩:ak)))) ( K ())
def tm (a0:Ptr) (a1:Int) (K:kT Unit):hT:=nn a0 fun q9=>ld (q9.1,q9.2 + 2) cS fun x11=>ix x11 a1 fun q13=>ld (q13.1,q13.2 + Int.toNat a1 * 1) cP fun x14=>cl prog mN [(pv x14)] im fun r15=>Lp (tN a1 K q9 r15) 0
theorem sim_kern_Kern_clean (a0:Ptr) (a1:Int) {K:kT Unit} {h:Hp} (H:tm a0 a1 K h):cl prog kB [(pv a0),(.int .i64 a1)] R_ K h:=have z0:LH (σ:=Int) 1 0 (fun s9 r=>(17,(.int .i64 s9))::r) [17] [0,1,15,16] (fun _ l=>l):=⟨⟩; have z1:LH (σ:=Bool × ak) 100006 2 (fun s18 r=>(7,(.bool s18.1))::r) [7] [0,1,5,6,15,16,17] (fun s18 l=>(setB l 0 (ak.C s18.2))):=⟨⟩; have z2:OH 7 [0,4,8,16,28,32,36,40,13,20,25,46] .e []:=⟨⟩; J [6] func83 H
def ii (a1:Int) (K:kT Bool) (q17:Nat × Nat) (q32:Nat × Nat) (s32:Bool):hT:=br s32 ( K true) ( ld (q17.1,q17.2 + 0) cP fun x42=>ld (q32.1,q32.2 + 1) (cI .i64) fun x46=>ld (q32.1,q32.2 + 2) aa.C fun x50=>cl prog cD [(pv x42),(.int .i64 x46),(.agg (aa.C x50).toArray)] aD fun r51=>br r51.2 ( cl prog lO [(.pointer (some ⟨q17.1,q17.2,none⟩)),(.int .i64 a1),(.agg (ad.C r51.1).toArray),(.agg (an.C (⟨0,0,0,0⟩:an)).toArray)] R_ fun (_:Unit)=>K true) ( K true))
def ij (a1:Int) (K:kT Bool) (q17:Nat × Nat) (q32:Nat × Nat) (s20:Bool):hT:=br s20 ( st (q32.1,q32.2 + 7) [.bool true]<|cl prog kB [(.pointer (some ⟨q17.1,q17.2,none⟩)),(.int .i64 a1)] R_ fun (_:Unit)=>ld (q17.1,q17.2 + 4) cP fun x97=>cl prog hZ [(pv x97),(.int .i64 a1)] aU fun r99=>st (q32.1,q32.2 + 8) [.int .u64 r99.1]<|ld (q17.1,q17.2 + 3) cP fun x107=>ld (q32.1,q32.2 + 8) (cI .u64) fun x112=>cl prog mR [(pv x107),(.int .i64 a1),(.int .u64 x112)] cH fun r113=>K true) ( ct (ii a1 K q17 q32)<|ld (q32.1,q32.2 + 7) cB fun x118=>br x118 ( ld (q17.1,q17.2 + 4) cP fun x123=>ld (q32.1,q32.2 + 8) (cI .u64) fun x127=>cl prog iB [(pv x123),(.int .u64 x127)] ai fun r128=>ii a1 K q17 q32 (!r128)) ( ii a1 K q17 q32 false))
def uz (a0:Ptr) (a1:Int) (K:kT Bool):hT:=cl prog eU [(pv a0),(.int .i64 a1)] ai fun r14=>br (!r14) ( K false) ( nn a0 fun q17=>ld (q17.1,q17.2 + 7) (cI .i64) fun x19=>st (q17.1,q17.2 + 7) [.int .i64 (i64.wrap (x19 + 1))]<|ld (q17.1,q17.2 + 5) cS fun x26=>ix x26 a1 fun q28=>ld (q28.1,q28.2 + Int.toNat a1 * 1) cP fun x29=>nn x29 fun q32=>ld (q32.1,q32.2 + 2) aa.C fun x34=>br (aQ ((am x34).1)) ( cl prog nj [(.pointer (some ⟨q17.1,q17.2,none⟩)),(.int .i64 a1),(.pointer (some ⟨q32.1,q32.2,none⟩))] dH fun r67=>cl prog lO [(.pointer (some ⟨q17.1,q17.2,none⟩)),(.int .i64 a1),(.agg (ad.C r67.1).toArray),(.agg (an.C r67.2).toArray)] R_ fun (_:Unit)=>K true) ( ct (ij a1 K q17 q32)<|ld (q32.1,q32.2 + 7) cB fun x79=>br (!x79) ( cl prog oC [(.pointer (some ⟨q17.1,q17.2,none⟩)),(.pointer (some ⟨q32.1,q32.2,none⟩))] ai fun r84=>ij a1 K q17 q32 r84) ( ij a1 K q17 q32 false)))
theorem sim_kern_Kern_Step (a0:Ptr) (a1:Int) {K:kT Bool} {h:Hp} (H:uz a0 a1 K h):cl prog lP [(pv a0),(.int .i64 a1)] ai K h:=have z0:LH (σ:=Bool) 102013 0 (fun s20 r=>(75,(.bool s20))::r) [75] [0,1,5] (fun _ l=>l):=⟨⟩; have z1:OH 16 [0,4,8,16,20,24,28,13,33,38] .e []:=⟨⟩; have z2:LH (σ:=Bool) 103006 0 (fun s32 r=>(114,(.bool s32))::r) [114] [0,1,5] (fun _ l=>l):=⟨⟩; have z3:OH 6 [0,4,8,16,20,24,32,36,40,13,29,45] (.b 12 16 [52,56,60,66,70,72] .e [50,52,56,60,70,72] .e) []:=⟨⟩; have z4:OH 17 [0,4,8,13,16,20,24,28,36,40,44,33,49,54,56,60,64] .e []:=⟨⟩; J [2013,3006] func36 H
def uA (a0:Ptr) (a1:Int) (K:kT Bool):hT:=cl prog fj [(pv a0),(.int .i64 a1)] ai fun r9=>br (!r9) ( K false) ( nn a0 fun q13=>ld (q13.1,q13.2 + 3) cP fun x15=>cl prog lL [(pv x15),(.int .i64 a1)] aU fun r17=>br (!r17.2) ( K false) ( ld (q13.1,q13.2 + 7) (cI .i64) fun x25=>st (q13.1,q13.2 + 7) [.int .i64 (i64.wrap (x25 + 1))]<|cl prog kB [(.pointer (some ⟨q13.1,q13.2,none⟩)),(.int .i64 a1)] R_ fun (_:Unit)=>ld (q13.1,q13.2 + 4) cP fun x35=>cl prog jz [(pv x35),(.int .i64 a1),(.int .u64 r17.1)] ai fun r38=>K true))
theorem sim_kern_Kern_Post (a0:Ptr) (a1:Int) {K:kT Bool} {h:Hp} (H:uA a0 a1 K h):cl prog lQ [(pv a0),(.int .i64 a1)] ai K h:=J [] func37 H
def uB (a0:Ptr) (a1:Int) (K:kT Int):hT:=cl prog fj [(pv a0),(.int .i64 a1)] ai fun r7=>br (!r7) ( K 0) ( nn a0 fun q10=>ld (q10.1,q10.2 + 3) cP fun x12=>cl prog kA [(pv x12),(.int .i64 a1)] cH fun r14=>K r14)
theorem sim_kern_Kern_Mail (a0:Ptr) (a1:Int) {K:kT Int} {h:Hp} (H:uB a0 a1 K h):cl prog qh [(pv a0),(.int .i64 a1)] cH K h:=J [] func55 H
def tt (a0:Ptr) (a1:Int) (a2:Int) (a3:aa) (K:kT Bool):hT:=cl prog fj [(pv a0),(.int .i64 a1)] ai fun r11=>br (!(!r11)) ( cl prog eU [(pv a0),(.int .i64 a1)] ai fun r16=>br (!(r16 || (decide (a2 < 0)))) ( nn a0 fun q25=>ld (q25.1,q25.2 + 1) (cI .i64) fun x27=>br (decide (a2 >= x27)) ( K false) ( ld (q25.1,q25.2 + 7) (cI .i64) fun x33=>st (q25.1,q25.2 + 7) [.int .i64 (i64.wrap (x33 + 1))]<|ld (q25.1,q25.2 + 7) (cI .i64) fun x48=>ld (q25.1,q25.2 + 6) cS fun x41=>hpv prog (Instr.buildSlice da 1 #[(0,(.agg (ax.C (⟨a1,a2,a3,x48,0,0,(⟨0,0⟩:ad),(⟨0,0,0,0⟩:an)⟩:ax)).toArray))]) dv fun (v50:Sl)=>hpv prog (Builtin.append_ #[da,da] da #[(sv x41),(sv v50)]) dv fun (v51:Sl)=>st (q25.1,q25.2 + 6) [sv v51]<|ld (q25.1,q25.2 + 6) cS fun x62=>ld (q25.1,q25.2 + 5) cS fun x57=>nw bP (lA.C (⟨(i64.wrap ((x62.len:Int) - 1)),a2,a3,false,0⟩:lA)) fun b68=>ix x57 a1 fun q69=>st (q69.1,q69.2 + Int.toNat a1 * 1) [(.pointer (some ⟨b68,0,none⟩))]<|K true)) ( K false)) ( K false)
theorem sim_kern_Kern_Begin (a0:Ptr) (a1:Int) (a2:Int) (a3:aa) {K:kT Bool} {h:Hp} (H:tt a0 a1 a2 a3 K h):cl prog kC [(pv a0),(.int .i64 a1),(.int .i64 a2),(.agg (aa.C a3).toArray)] ai K h:=have z0:OH 5 [0,4,8,16,20,24,28,44,48,33,36,40,52,13,58,60,66] .e []:=⟨⟩; have z1:OH 4 [0,4,8,12,20,24,28,32,36,40,45,48,17,54,58,60,64,70] .e []:=⟨⟩; J [] func34 H
def tq (a0:Ptr) (a1:Int) (a2:Int) (a3:Int) (K:kT Bool):hT:=cl prog fj [(pv a0),(.int .i64 a1)] ai fun r11=>br (!(!r11)) ( nn a0 fun q15=>ld (q15.1,q15.2 + 2) cS fun x17=>ix x17 a1 fun q19=>ld (q19.1,q19.2 + Int.toNat a1 * 1) cP fun x20=>cl prog rA [(pv x20),(.int .i64 a2),(.int .i64 a3)] ai fun r23=>br (!r23) ( K false) ( ld (q15.1,q15.2 + 7) (cI .i64) fun x29=>st (q15.1,q15.2 + 7) [.int .i64 (i64.wrap (x29 + 1))]<|K true)) ( K false)
theorem sim_kern_Kern_Evict (a0:Ptr) (a1:Int) (a2:Int) (a3:Int) {K:kT Bool} {h:Hp} (H:tq a0 a1 a2 a3 K h):cl prog oE [(pv a0),(.int .i64 a1),(.int .i64 a2),(.int .i64 a3)] ai K h:=J [] func54 H
def tn (a0:Ptr) (a1:Int) (K:kT Sl):hT:=cl prog fj [(pv a0),(.int .i64 a1)] ai fun r7=>br (!r7) ( K (⟨none,0,0,none⟩:Sl)) ( nn a0 fun q10=>ld (q10.1,q10.2 + 2) cS fun x12=>ix x12 a1 fun q14=>ld (q14.1,q14.2 + Int.toNat a1 * 1) cP fun x15=>cl prog mN [(pv x15)] im fun r16=>K r16)
theorem sim_kern_Kern_Lines (a0:Ptr) (a1:Int) {K:kT Sl} {h:Hp} (H:tn a0 a1 K h):cl prog oD [(pv a0),(.int .i64 a1)] im K h:=J [] func24 H
end
section
open Go Mb
theorem fZ (e:aL):e.C.length = 16:=rfl
theorem ev_one (e:aL):ce e.C = true:=rfl
abbrev vE (s:Sl) (xs:List aL):As:=vec t_api_Event 16 ax.C s xs
def gQ (x:Ptr):Option KC->As
 | none=>fun _=>x = none
 | some c=>fun h=>∃ b:Nat,x = some (b,0)/\blk b bP c.C h
section
variable {l:List As} {h:Hp} {cp:List Ptr} {cs:List (Option KC)} {n:Nat}
theorem all_get {σ α:Type} {A:σ->α->As} {ps:List σ} {xs:List α} {i j:Nat} {p:σ} {x:α} (st:ah l h) (hj:l[j]? = some (all A ps xs)) (hp:ps[i]? = some p) (hx:xs[i]? = some x):∃ h1,A p x h1/\∀ b o,h1 b = some o->h b = some o:=by
 obtain ⟨h1,a,sub⟩:=cL hj st;obtain ⟨h2,a2,sub2⟩:=cL (objs_get hp hx) a;exact ⟨h2,a2,fun b o e=>sub _ _ (sub2 _ _ e)⟩
theorem call_none {j:Nat} {p:Ptr} (st:ah l h) (hj:l[j]? = some (all gQ cp cs)) (hp:cp[n]? = some p) (hx:cs[n]? = some none):p = none:=by
 obtain ⟨_,a,_⟩:=all_get st hj hp hx; exact a
theorem wX {j:Nat} {p:Ptr} {x:KC} (st:ah l h) (hj:l[j]? = some (all gQ cp cs)) (hp:cp[n]? = some p) (hx:cs[n]? = some (some x)):∃ b,p = some (b,0)/\h b = some (.cells x.C.toArray bP (0,0)):=by
 obtain ⟨_,⟨b,e,a⟩,sub⟩:=all_get st hj hp hx;exact ⟨b,e,sub _ _ a⟩
theorem all_but {σ α:Type} {A:σ->α->As} {ps:List σ} {xs:List α} {i:Nat} {p:σ} {x:α} (hp:ps[i]? = some p) (hx:xs[i]? = some x) (s:ah (all A ps xs::l) h):ah (but A ps xs i::l) h:=by
 obtain ⟨h1,h2,d,e,_,s'⟩:=gJ hp hx s;rw [e,un_comm d]; exact pS s' d.symm
theorem call_mk {b:Nat} {y:KC} (s:ah (blk b bP y.C::l) h):ah (gQ (some (b,0)) (some y)::l) h:=by
 obtain ⟨h1,h2,d,e,a,s'⟩:=s;exact ⟨h1,h2,d,e,⟨b,rfl,a⟩,s'⟩
theorem ld_c {τ:Type} {j b off:Nat} {x:KC} {enc:τ->List Value} {K:τ->Hp->Prop} (y:τ) (st:ah l h) (hj:l[j]? = some (all gQ cp cs)) (hp:cp[n]? = some (some (b,0))) (hx:cs[n]? = some (some x)) (hy:∀ i v,(enc y)[i]? = some v->x.C[off + i]? = some v) (k:K y h):ld (b,off) enc K h:=by
 obtain ⟨b',e,a⟩:=wX st hj hp hx;cases e;exact ⟨y,⟨_,_,_,a,fun i v hv=>by simpa using hy i v hv⟩,k⟩
theorem ld_c1 {τ:Type} {j b off:Nat} {x:KC} {enc:τ->List Value} {K:τ->Hp->Prop} {v:Value} (y:τ) (st:ah l h) (hj:l[j]? = some (all gQ cp cs)) (hp:cp[n]? = some (some (b,0))) (hx:cs[n]? = some (some x)) (he:enc y = [v]) (hv:x.C[off]? = some v) (k:K y h):ld (b,off) enc K h :=
 ld_c y st hj hp hx (c1 he hv) k
theorem call_out {p:Ptr} {x:KC} (hp:cp[n]? = some p) (hx:cs[n]? = some (some x)) (s:ah (all gQ cp cs::l) h):∃ b,p = some (b,0)/\ah (blk b bP x.C::but gQ cp cs n::l) h:=by
 obtain ⟨h1,h2,d,e,⟨b,e1,a⟩,s'⟩:=gJ hp hx s;exact ⟨b,e1,h1,h2,d,e,a,s'⟩
theorem call_in {b:Nat} {y:KC} (hp:cp[n]? = some (some (b,0))) (hn:n < cs.length) (hl:cp.length = cs.length) (s:ah (blk b bP y.C::but gQ cp cs n::l) h):ah (all gQ cp (cs.set n (some y))::l) h:=by
 obtain ⟨h1,h2,d,e,a,s'⟩:=s;exact vF (A:=gQ) hp hn hl ⟨h1,h2,d,e,⟨b,rfl,a⟩,s'⟩
end
def capOf (h:Hp) (x:Ptr):Cap:=match x with
 | some q=>(match h q.1 with
  | some (.cells c _ _)=>(match c.toList with
   | [.int _ a,.int _ b,.int _ d,.int _ e]=>⟨a,b,d,e⟩
   | _=>jd)
  | _=>jd)
 | none=>jd
theorem capOf_eq {l:List As} {h:Hp} {i b T:Nat} {c:Cap} (st:ah l h) (hi:l[i]? = some (blk b T c.C)):capOf h (some (b,0)) = c:=by
 obtain ⟨h1,a,sub⟩:=cL hi st;unfold capOf;rw [show (some (b,0):Ptr) = some (b,0) from rfl];simp only [sub _ _ a]
 rfl
theorem at_get {t:fAa.T} {e s:Int} (h1:fAa.has t e s = true) (h2:(fAa.get t e s).fCa ≠ 0):fAa.at_ t e s = (fAa.get t e s,true):=if_pos ⟨h1,h2⟩
def xe (t:fAa.T) (x:KC) (r:Cap × Bool):Bool:=if r.2 = true then fAa.under t r.1 ⟨x.fFa,i64.wrap x.fc.e1⟩ else false
theorem up_at {t:fAa.T} (x:KC) (e s:Int):xe t x (fAa.at_ t e s) = (if fAa.has t e s = true then fAa.under t (fAa.get t e s) ⟨x.fFa,i64.wrap x.fc.e1⟩ else false):=by
 unfold xe;by_cases h1:fAa.has t e s = true
 ·by_cases h2:(fAa.get t e s).fCa ≠ 0
  ·rw [at_get h1 h2,if_pos rfl,if_pos h1]
  ·have ea:fAa.at_ t e s = (jd,false):=if_neg (fun hh=>h2 hh.2);rw [ea,if_neg Bool.false_ne_true,if_pos h1];cases hu:fAa.under t (fAa.get t e s) ⟨x.fFa,i64.wrap x.fc.e1⟩ with
   | false=>rfl
   | true=>exact absurd (fAa.under_rights hu) h2
 ·have ea:fAa.at_ t e s = (jd,false):=if_neg (fun hh=>h1 hh.1);rw [ea,if_neg Bool.false_ne_true,if_neg h1]
theorem sp_kern_goes (kb xb:Nat) (pp:Ptr) (kc:List Value) (p:PK) (x:KC) (e s:Int) (h0:kc[0]? = some (pv pp)) :
  Sp prog qg [pv (some (kb,0)),pv (some (xb,0)),.int .i64 e,.int .i64 s] ai [blk kb bj kc,blk xb bP x.C,aO pp p] (fun r=>pa_ (r = KK.goes p x e s) [blk kb bj kc,blk xb bP x.C,aO pp p]):=by
 intro h s0;have tok:fAa.Ok p.caps:=by
  obtain ⟨_,_,_,ok,_⟩:=eL (aA [2] s0 rfl); exact ok.tree
 refine sim_kern_Kern_goes _ _ _ _ ?_;unfold ux;have j1:¬ (x.fc.e0 = 5/\e = x.fFa/\s = i64.wrap x.fc.e1)->ig (some (kb,0)) e s (fun r=>pa_ (r = KK.goes p x e s) [blk kb bj kc,blk xb bP x.C,aO pp p]) (xb,0) x.fc.e1 () h:=by
  intro hno;have eg:KK.goes p x e s = xe p.caps x (fAa.at_ p.caps e s):=by unfold KK.goes; rw [if_neg hno,up_at]
  rw [eg];unfold ig;refine bn (aJ pp s0 (i:=0) rfl rfl h0 ?_);refine aW (xk pp p e s) (i:=2) rfl s0 fun r h1 hr s1=>?_;subst hr;refine nP s1 fun b h2 s2=>?_;refine mX (i:=0) s2 rfl (by simp [qz]) fun h3 s3=>?_;have s3':ah [blk b eN (fAa.at_ p.caps e s).1.C,blk kb bj kc,blk xb bP x.C,aO pp p] h3:=s3;refine Lp.intro (fun (z:Ptr × Bool) h=>∃ (b:Nat) (a i:Int),z = (some (b,0),(fAa.at_ p.caps a i).2)/\xe p.caps x (fAa.at_ p.caps a i) = xe p.caps x (fAa.at_ p.caps e s)/\ah [blk b eN (fAa.at_ p.caps a i).1.C,blk kb bj kc,blk xb bP x.C,aO pp p] h)
   (fun (z:Ptr × Bool) h=>fAa.deep 40 p.caps (capOf h z.1)) ⟨b,e,s,rfl,rfl,s3'⟩ ?_
  rintro z h ⟨b,a,i,rfl,hu,s4⟩;unfold uT;rw [capOf_eq (i:=0) s4 rfl];refine ar (fun k=>?_) (fun k=>?_)
  ·have hat:fAa.has p.caps a i = true/\(fAa.get p.caps a i).fCa ≠ 0:=by
    unfold fAa.at_ at k; split at k
    ·assumption
    ·cases k
   have e1:=at_get hat.1 hat.2;rw [e1] at s4 hu ⊢;have step:=fAa.under_step tok hat.1 ⟨x.fFa,i64.wrap x.fc.e1⟩;have hu':xe p.caps x (fAa.get p.caps a i,true) = fAa.under p.caps (fAa.get p.caps a i) ⟨x.fFa,i64.wrap x.fc.e1⟩:=rfl;rw [hu'] at hu;refine bn (aJ (fAa.get p.caps a i).fBa s4 (i:=0) rfl rfl rfl ?_);refine ar (fun k2=>?_) (fun k2=>?_)
   ·have k2':0 <= (fAa.get p.caps a i).fBa:=by simpa using k2
    rw [if_pos ⟨hat.2,k2'⟩] at step;have dd:=fAa.deep_step tok hat.1 ⟨hat.2,k2'⟩;obtain ⟨q1,q2⟩:=fAa.parent_has tok hat.1 hat.2 k2';have next:¬ ((fAa.get p.caps a i).fBa = x.fFa/\(fAa.get p.caps a i).fDa = i64.wrap x.fc.e1) ->
      ic (kb,0) b (fun s' h'=>(∃ (b:Nat) (a i:Int),s' = (some (b,0),(fAa.at_ p.caps a i).2)/\xe p.caps x (fAa.at_ p.caps a i) = xe p.caps x (fAa.at_ p.caps e s)/\ah [blk b eN (fAa.at_ p.caps a i).1.C,blk kb bj kc,blk xb bP x.C,aO pp p] h')/\fAa.deep 40 p.caps (capOf h' s'.1) < fAa.deep 40 p.caps (fAa.get p.caps a i)) (b,0) () h:=by
     intro hne;unfold ic;refine ld_s (i:=0) (fAa.get p.caps a i) s4 rfl (by simp) ?_;refine nP s4 fun b2 h5 s5=>?_;refine mX (i:=0) s5 rfl (by simp [qz]) fun h6 s6=>?_;have s6':ah [blk b2 eN (fAa.get p.caps a i).C,blk b eN (fAa.get p.caps a i).C,blk kb bj kc,blk xb bP x.C,aO pp p] h6:=s6;refine aJ pp s6' (i:=2) rfl rfl h0 ?_;refine aJ (fAa.get p.caps a i).fBa s6' (i:=0) rfl rfl rfl ?_;refine aJ (fAa.get p.caps a i).fDa s6' (i:=0) rfl rfl rfl ?_;refine aW (xk pp p _ _) (i:=4) rfl s6' fun r h7 hr s7=>?_;subst hr;refine mX (i:=0) s7 rfl (by simp [qz]) fun h8 s8=>?_;have s8':ah [blk b2 eN (fAa.at_ p.caps (fAa.get p.caps a i).fBa (fAa.get p.caps a i).fDa).1.C,blk b eN (fAa.get p.caps a i).C,blk kb bj kc,blk xb bP x.C,aO pp p] h8:=s8;have e2:=at_get q1 q2;refine ⟨⟨b2,_,_,rfl,?_,aT (l:=[blk b eN (fAa.get p.caps a i).C]) (aA [1] s8' rfl)⟩,?_⟩
     ·rw [e2,← hu,step,if_neg hne]; rfl
     ·rw [capOf_eq (i:=0) s8' rfl,e2]; exact dd
    refine aJ (fAa.get p.caps a i).fBa s4 (i:=0) rfl rfl rfl ?_;refine aJ x.fFa s4 (i:=2) rfl rfl rfl ?_;refine ar (fun k3=>?_) (fun k3=>?_)
    ·have k3':(fAa.get p.caps a i).fBa = x.fFa:=by simpa using k3
     refine aJ (fAa.get p.caps a i).fDa s4 (i:=0) rfl rfl rfl ?_;refine ar (fun k4=>?_) (fun k4=>?_)
     ·have k4':(fAa.get p.caps a i).fDa = i64.wrap x.fc.e1:=by simpa using k4
      rw [if_pos ⟨k3',k4'⟩] at step;exact aw (by rw [← hu,step]) (aT (l:=[blk b eN (fAa.get p.caps a i).C]) s4)
     ·exact next (fun hh=>by simp [hh.2] at k4)
    ·exact next (fun hh=>by simp [hh.1] at k3)
   ·have k2':¬ 0 <= (fAa.get p.caps a i).fBa:=by simpa using k2
    rw [if_neg (fun hh=>k2' hh.2)] at step;exact aw (by rw [← hu,step]) (aT (l:=[blk b eN (fAa.get p.caps a i).C]) s4)
  ·refine aw ?_ (aT (l:=[blk b eN (fAa.at_ p.caps a i).1.C]) s4);rw [← hu]; unfold xe;have k':(fAa.at_ p.caps a i).2 = false:=k;rw [k']; rfl
 refine bn (aJ x.fc.e1 s0 (i:=1) rfl rfl rfl ?_);refine aJ x.fc.e0 s0 (i:=1) rfl rfl rfl ?_;refine ar (fun k=>?_) (fun k=>?_)
 ·have k':x.fc.e0 = 5:=by simpa using k
  refine aJ x.fFa s0 (i:=1) rfl rfl rfl ?_;refine ar (fun k2=>?_) (fun k2=>?_)
  ·have k2':e = x.fFa/\s = i64.wrap x.fc.e1:=by simpa using k2
   exact aw (by unfold KK.goes; rw [if_pos ⟨k',k2'⟩]) s0
  ·exact j1 (fun hh=>by simp [hh.2.1,hh.2.2] at k2)
 ·exact j1 (fun hh=>by simp [hh.1] at k)
theorem sp_kern_left (kb xb:Nat) (pp:Ptr) (kc:List Value) (p:PK) (x:KC) (e pg:Int) (q:Pte) (h0:kc[0]? = some (pv pp)) :
  Sp prog lN [pv (some (kb,0)),pv (some (xb,0)),.int .i64 e,.int .i64 pg,.agg q.C.toArray] wY [blk kb bj kc,blk xb bP x.C,aO pp p] (fun r=>pa_ (r = KK.left p x e pg q) [blk kb bj kc,blk xb bP x.C,aO pp p]):=by
 intro h s0;refine sim_kern_Kern_left _ _ _ _ _ ?_;unfold uw;have j1:∀ o:Bool,o = decide (x.fFa = e/\i64.wrap x.fc.e1 = pg)->ib (some (kb,0)) (some (xb,0)) e q (fun r=>pa_ (r = KK.left p x e pg q) [blk kb bj kc,blk xb bP x.C,aO pp p]) o h:=by
  intro o ho;unfold ib;refine bn (aJ x.fc.e0 s0 (i:=1) rfl rfl rfl ?_);refine ar (fun k=>?_) (fun k=>?_)
  ·have k':x.fc.e0 = 7:=by simpa using k
   refine ar (fun k2=>?_) (fun k2=>?_)
   ·have k2':x.fFa = e/\i64.wrap x.fc.e1 = pg:=of_decide_eq_true (ho ▸ k2);exact aw (by unfold KK.left; rw [if_pos k',if_pos k2']) s0
   ·have k2':¬ (x.fFa = e/\i64.wrap x.fc.e1 = pg):=of_decide_eq_false (ho ▸ k2);exact aw (by unfold KK.left; rw [if_pos k',if_neg k2']) s0
  ·have k':¬ x.fc.e0 = 7:=by simpa using k
   refine ar (fun k2=>?_) (fun k2=>?_)
   ·have k2':x.fc.e0 = 8:=by simpa using k2
    refine bn (aJ pp s0 (i:=0) rfl rfl h0 ?_);refine aW (xk pp p e q.fDa) (i:=2) rfl s0 fun r h1 hr s1=>?_;subst hr;refine aJ x.fc.e2 s1 (i:=1) rfl rfl rfl ?_;refine ar (fun k3=>?_) (fun k3=>?_)
    ·rw [and_eq_true] at k3;have k3':x.fFa = e/\i64.wrap x.fc.e1 = pg:=of_decide_eq_true (ho ▸ k3.1);exact aw (by unfold KK.left; rw [if_neg k',if_pos k2',if_pos ⟨k3',k3.2⟩]) s1
    ·have k3':¬ ((x.fFa = e/\i64.wrap x.fc.e1 = pg)/\ap (i64.wrap x.fc.e2) (fAa.at_ p.caps e q.fDa).1.fCa = true):=by
      rintro ⟨h3,h4⟩;rw [ho,decide_eq_true h3,h4] at k3; cases k3
     exact aw (by unfold KK.left; rw [if_neg k',if_pos k2',if_neg k3']) s1
   ·have k2':¬ x.fc.e0 = 8:=by simpa using k2
    refine bG [0,0,0] (sp_kern_goes kb xb pp kc p x e q.fDa h0) s0 rfl fun r h1 s1=>?_;obtain ⟨rfl,s2⟩:=aM.1 s1;refine ar (fun k3=>?_) (fun k3=>?_)
    ·exact aw (by unfold KK.left; rw [if_neg k',if_neg k2',if_pos k3]) s2
    ·exact aw (by unfold KK.left; rw [if_neg k',if_neg k2',if_neg (by rw [k3]; exact Bool.false_ne_true)]) s2
 refine bn (aJ x.fFa s0 (i:=1) rfl rfl rfl ?_);refine ar (fun k=>?_) (fun k=>?_)
 ·have k':x.fFa = e:=by simpa using k
  refine aJ x.fc.e1 s0 (i:=1) rfl rfl rfl ?_;refine j1 _ ?_;by_cases h1:i64.wrap x.fc.e1 = pg <;> simp [k',h1]
 ·have k':¬ x.fFa = e:=by simpa using k
  exact j1 false (by simp [k'])
theorem sp_kern_seen (kb:Nat) (pp:Ptr) (kc:List Value) (p:PK) (cs:Sl) (cp:List Ptr) (calls:List (Option KC)) (e pg:Int) (h0:kc[0]? = some (pv pp)) (h5:kc[5]? = some (sv cs)) (hl:cp.length = calls.length) (hb:calls.length <= 8) :
  Sp prog lM [pv (some (kb,0)),.int .i64 e,.int .i64 pg] bA [blk kb bj kc,aO pp p,vQ eq cs cp,all gQ cp calls] (fun r=>pa_ (r = KK.fDb p e pg calls (PK.pte p e pg).2 (PK.pte p e pg).1) [blk kb bj kc,aO pp p,vQ eq cs cp,all gQ cp calls]):=by
 intro h s0;refine sim_kern_Kern_seen _ _ _ ?_;unfold uv;refine bn (aJ pp s0 (i:=0) rfl rfl h0 ?_);refine aW (su pp p e pg) (i:=1) rfl s0 fun r h1 hr s1=>?_;subst hr;refine aJ cs s1 (i:=0) rfl rfl h5 ?_;have hcs:=(aX (j:=2) s1 rfl).1;refine Lp.intro (fun (z:Bool × Int × Pte) h=>∃ n:Nat,z.2.1 = n/\n <= calls.length/\KK.fDb p e pg (calls.drop n) z.1 z.2.2 = KK.fDb p e pg calls (PK.pte p e pg).2 (PK.pte p e pg).1/\ah [blk kb bj kc,aO pp p,vQ eq cs cp,all gQ cp calls] h) (fun (z:Bool × Int × Pte) _=>calls.length - z.2.1.toNat) ⟨0,rfl,zero_le _,rfl,s1⟩ ?_;rintro ⟨b,i,q⟩ h ⟨n,rfl,hn,he,s2⟩;unfold uS;simp only at he ⊢;refine ar (fun k=>?_) (fun k=>?_)
 ·have hlt:n < calls.length:=by rw [hcs,hl] at k; simpa using k
  have hlp:n < cp.length:=by omega
  have hw:i64.wrap ((n:Int) + 1) = ((n + 1:Nat):Int):=by rw [aE (by omega) (by omega)]; rfl
  rw [List.drop_eq_getElem_cons hlt] at he;refine bE s2 (j:=2) rfl (by omega) (by show (n:Int) < _; omega) fun q0 hq0=>?_;refine bK (j:=2) (i:=n) (k:=0) cp[n] fu s2 rfl hq0 (by simp) (al hlp) (by simp) ?_;have skip:KK.fDb p e pg (calls.drop (n + 1)) b q = KK.fDb p e pg calls (PK.pte p e pg).2 (PK.pte p e pg).1->fz e pg (kb,0) (fun s' h'=>(∃ n:Nat,s'.2.1 = n/\n <= calls.length/\KK.fDb p e pg (calls.drop n) s'.1 s'.2.2 = KK.fDb p e pg calls (PK.pte p e pg).2 (PK.pte p e pg).1/\ah [blk kb bj kc,aO pp p,vQ eq cs cp,all gQ cp calls] h')/\calls.length - s'.2.1.toNat < calls.length - (n:Int).toNat) (b,(n:Int),q) cp[n] false h:=by
   intro hs;unfold fz;refine bB rfl ?_;rw [hw];exact ⟨⟨n + 1,rfl,hlt,hs,s2⟩,by simp; omega⟩
  cases hc:calls[n] with
  | none =>
   have hcn:calls[n]? = some none:=by rw [al hlt,hc]
   have hp:=call_none (j:=3) s2 rfl (al hlp) hcn;rw [hc] at he;refine bB (by rw [hp]; simp) ?_;exact skip he
  | some x =>
   have hcn:calls[n]? = some (some x):=by rw [al hlt,hc]
   obtain ⟨xb,hp,hbx⟩:=wX (j:=3) s2 rfl (al hlp) hcn;rw [hc,KK.fDb] at he;have hcp:cp[n]? = some (some (xb,0)):=by rw [al hlp,hp]
   rw [hp] at skip ⊢;refine ar (fun k2=>?_) (fun k2=>?_)
   ·have k2':b = true:=by simpa using k2
    subst k2';refine bn (ld_c1 (j:=3) x.fQa s2 rfl hcp hcn rfl rfl ?_);cases ht:x.fQa with
    | false =>
     rw [ht,if_neg (by simp)] at he;exact skip he
    | true =>
     rw [ht,if_pos ⟨rfl,rfl⟩] at he;unfold fz;refine cg rfl ?_;obtain ⟨xb',hp',s3⟩:=call_out hcp hcn (aA [3] s2 rfl);cases hp';refine bG [2,0,1] (sp_kern_left kb xb pp kc p x e pg q h0) s3 rfl fun r h4 s4=>?_;obtain ⟨rfl,s5⟩:=aM.1 s4;rw [hw];have s6:=call_in (y:=x) hcp hlt hl (aA [1,2] s5 rfl);rw [hG hcn] at s6;refine ⟨⟨n + 1,rfl,hlt,he,aA [1,1,1] s6 rfl⟩,by simp; omega⟩
   ·have k2':b = false:=by simpa using k2
    subst k2';rw [if_neg (by simp)] at he;exact skip he
 ·have:n = calls.length:=by rw [hcs,hl] at k; simp at k; omega
  subst this;rw [List.drop_length] at he;exact aw he s2
theorem any_succ (f:Nat->Bool) (n:Nat):(range (n + 1)).any f = ((range n).any f || f n):=by
 rw [List.range_succ,List.any_append]; simp
theorem any_true {f:Nat->Bool} {n N:Nat} (h:n < N) (hf:f n = true):(range N).any f = true:=List.any_eq_true.2 ⟨n,List.mem_range.2 h,hf⟩
theorem sp_kern_takes (kb xb:Nat) (pp:Ptr) (kc:List Value) (p:PK) (x:KC) (h0:kc[0]? = some (pv pp)) (h1:kc[1]? = some (.int .i64 p.s.fHa)) :
  Sp prog oC [pv (some (kb,0)),pv (some (xb,0))] ai [blk kb bj kc,blk xb bP x.C,aO pp p] (fun r=>pa_ (r = KK.takes p x) [blk kb bj kc,blk xb bP x.C,aO pp p]):=by
 intro h s0;have hsz:1 <= p.s.fHa/\p.s.fHa <= 4:=by
  obtain ⟨_,_,_,ok,_⟩:=eL (aA [2] s0 rfl); have:=cQ.1 ok.sz; omega
 refine sim_kern_Kern_takes _ _ ?_;unfold tk;have no:(Word.check x.fc p.s.fHa ≠ 0\/x.fc.e0 < 4\/x.fc.e0 > 8\/x.fc.e0 = 6)->KK.takes p x = false:=fun hh=>if_pos hh;refine bn (bn ?_);refine ld_s (i:=1) x.fc s0 rfl ?_ ?_
 ·intro j v hv;have:j < 5:=(List.getElem?_eq_some_iff.1 hv).1
  match j,this with
  | 0,_=>exact hv
  | 1,_=>exact hv
  | 2,_=>exact hv
  | 3,_=>exact hv
  | 4,_=>exact hv
 refine aJ p.s.fHa s0 (i:=0) rfl rfl h1 ?_;refine ud (ir x.fc _) s0 fun r h2 hr s1=>?_;subst hr;refine ar (fun k=>?_) (fun k=>?_)
 ·exact aw (no (.inl (by simpa using k))).symm s1
 have k0:¬ Word.check x.fc p.s.fHa ≠ 0:=by simpa using k
 refine aJ x.fc.e0 s1 (i:=1) rfl rfl rfl ?_;refine ar (fun k1=>?_) (fun k1=>?_)
 ·exact aw (no (.inr (.inl (by simpa using k1)))).symm s1
 refine aJ x.fc.e0 s1 (i:=1) rfl rfl rfl ?_;refine ar (fun k2=>?_) (fun k2=>?_)
 ·exact aw (no (.inr (.inr (.inl (by simpa using k2))))).symm s1
 refine aJ x.fc.e0 s1 (i:=1) rfl rfl rfl ?_;refine ar (fun k3=>?_) (fun k3=>?_)
 ·exact aw (no (.inr (.inr (.inr (by simpa using k3))))).symm s1
 have yes:KK.takes p x = (range p.s.fHa.toNat).any fun e=>(range 8).any fun pg=>KK.hits p x e pg:=by
  unfold KK.takes;rw [if_neg];rintro (h | h | h | h)
  ·exact k0 h
  ·simp at k1; omega
  ·simp at k2; omega
  ·simp at k3; exact k3 h
 rw [yes];obtain ⟨N,hN⟩:=Int.eq_ofNat_of_zero_le (show 0 <= p.s.fHa by omega);have hNt:p.s.fHa.toNat = N:=by omega
 rw [hNt];refine aJ p.s.fHa s1 (i:=0) rfl rfl h1 ?_;refine Lp.intro (fun (i:Int) h=>∃ n:Nat,i = n/\n <= N/\((range n).any fun e=>(range 8).any fun pg=>KK.hits p x e pg) = false/\ah [blk kb bj kc,blk xb bP x.C,aO pp p] h) (fun (i:Int) _=>N - i.toNat) ⟨0,rfl,zero_le _,rfl,s1⟩ ?_;rintro i h ⟨n,rfl,hn,ha,s2⟩;unfold tM;refine ar (fun k4=>?_) (fun k4=>?_)
 ·have hlt:n < N:=by rw [hN] at k4; simpa using k4
  have hw:i64.wrap ((n:Int) + 1) = ((n + 1:Nat):Int):=by rw [aE (by omega) (by omega)]; rfl
  refine Lp.intro (fun (i:Int) h=>∃ m:Nat,i = m/\m <= 8/\((range m).any fun pg=>KK.hits p x n pg) = false/\ah [blk kb bj kc,blk xb bP x.C,aO pp p] h) (fun (i:Int) _=>8 - i.toNat) ⟨0,rfl,zero_le _,rfl,s2⟩ ?_;rintro i h ⟨m,rfl,hm,ha2,s3⟩;unfold tL;refine ar (fun k5=>?_) (fun k5=>?_)
  ·have hlt2:m < 8:=by have:=of_decide_eq_true k5; omega
   have hw2:i64.wrap ((m:Int) + 1) = ((m + 1:Nat):Int):=by rw [aE (by omega) (by omega)]; rfl
   refine aJ pp s3 (i:=0) rfl rfl h0 ?_;refine aW (su pp p n m) (i:=2) rfl s3 fun r h4 hr s4=>?_;subst hr;refine ar (fun k6=>?_) (fun k6=>?_)
   ·refine bG [0,0,0] (sp_kern_left kb xb pp kc p x n m (PK.pte p n m).1 h0) s4 rfl fun r h5 s5=>?_;obtain ⟨rfl,s6⟩:=aM.1 s5;refine ar (fun k7=>?_) (fun k7=>?_)
    ·have hh:KK.hits p x n m = true:=by unfold KK.hits; rw [k6,k7]; rfl
     exact aw (any_true hlt (any_true hlt2 hh)).symm s6
    ·have hh:KK.hits p x n m = false:=by unfold KK.hits; rw [k6,k7]; rfl
     rw [hw2];exact ⟨⟨m + 1,rfl,hlt2,by rw [any_succ,ha2,hh]; rfl,s6⟩,by simp; omega⟩
   ·have hh:KK.hits p x n m = false:=by unfold KK.hits; rw [k6]; rfl
    rw [hw2];exact ⟨⟨m + 1,rfl,hlt2,by rw [any_succ,ha2,hh]; rfl,s4⟩,by simp; omega⟩
  ·have:m = 8:=by have:=of_decide_eq_false k5; omega
   subst this;rw [hw];exact ⟨⟨n + 1,rfl,hlt,by rw [any_succ,ha,ha2]; rfl,s3⟩,by simp; omega⟩
 ·have:n = N:=by rw [hN] at k4; simp at k4; omega
  subst this;exact aw ha.symm s2
end
section
open Go Mb
attribute [local irreducible] bM gR il Val Tx Tu Tn RV Res br nn ix gd ld st nw cl clv dL Lp ct
def hist_May_l1 (a0:Sl) (a1:ao) (K:kT Bool) (v12:(Option Nat)) (v13:(Option Nat)) (Rec4:kT (Int × Int)) (s3:Int × Int):hT:=br (decide (s3.2 < (a0.len:Int))) ( ix a0 s3.2 fun q18=>ld (q18.1,q18.2 + Int.toNat s3.2 * 16) ax.C fun x19=>br ((!(!(dD x19 a1 s3.1))) && (decide (x19.fIa > 0))) ( hpv prog (Instr.lookup iD (.map v12) (.int .i64 x19.fIa) false) ai fun (v33:Bool)=>br v33 ( K false) ( hpv prog (Instr.lookup gc (.map v13) (.int .i64 x19.fOa) true) aR fun (v40:Int × Bool)=>br (v40.2 && ((decide (v40.1 <= 0)) || (decide (x19.fTa <= v40.1)))) ( K false) ( hpu prog (Instr.mapUpdate iD (.map v12) (.int .i64 x19.fIa) (.bool true))<|hpu prog (Instr.mapUpdate gc (.map v13) (.int .i64 x19.fOa) (.int .i64 x19.fXa))<|Rec4 (x19.fTa,(i64.wrap (s3.2 + 1)))))) ( br ((!(dD x19 a1 s3.1)) || false) ( K false) ( hpv prog (Instr.lookup gc (.map v13) (.int .i64 x19.fOa) true) aR fun (v40:Int × Bool)=>br (v40.2 && ((decide (v40.1 <= 0)) || (decide (x19.fTa <= v40.1)))) ( K false) ( hpu prog (Instr.mapUpdate iD (.map v12) (.int .i64 x19.fIa) (.bool true))<|hpu prog (Instr.mapUpdate gc (.map v13) (.int .i64 x19.fOa) (.int .i64 x19.fXa))<|Rec4 (x19.fTa,(i64.wrap (s3.2 + 1))))))) ( K true)
def sh_hist_May (a0:Sl) (a1:ao) (K:kT Bool):hT:=hpv prog (Instr.makeMap iD none) R_map_int_bool fun (v12:(Option Nat))=>hpv prog (Instr.makeMap gc none) R_map_int_int fun (v13:(Option Nat))=>Lp (hist_May_l1 a0 a1 K v12 v13) (0,0)
theorem sim_hist_May (a0:Sl) (a1:ao) {K:kT Bool} {h:Hp} (H:sh_hist_May a0 a1 K h):cl prog xZ [(sv a0),(.agg (ao.C a1).toArray)] ai K h:=z_i func46 p p fun _=>V<|jA<|to_boxB (l:=ao.C a1) p p p fun b3=>W p<|V<|jA<|to_hpv H x_makeMap0 p fun v12 _ H1=>jA<|to_hpv H1 x_makeMap0 p fun v13 _ H2=>U (mB p)<|U (mB p)<|W p<|dy<|V<|O p<|U (v_len p underlying39 p)<|O p<|du<|eD<|qx (step:=hist_May_l1 a0 a1 K v12 v13) (fun s3=>[(3,(.pointer (some ⟨b3,0,none⟩))),(5,(.int .i64 s3.1)),(6,(.map v12)),(7,(.map v13)),(14,(sv a0)),(15,(.int .i64 (a0.len:Int))),(16,(.int .i64 s3.2))]) (fun s3=>[bx b3 23 (ao.C a1)]) H2 (.cons p<|.cons p<|.cons p<|.cons p<|.cons p<|.cons p<|.cons p<|.nil _) (.cons_cons _ .slnil) fun Rec4 s3 _ H5=>V<|U (xc p p)<|du<|dy<|mb p H5 (fun k6 H7=>fY<|dy<|eD<|V<|evl_ix H7 fun q18 e8 h9 H10=>U (fd slc_39.ok (kH p<|cN e8) p h9)<|jA<|to_lds H10 ag_68.ok p (fun _=>p) p fun x19 H11=>jA<|to_allocB (l:=ax.C (⟨0,0,(⟨0,0,0,0,0⟩:aa),0,0,0,(⟨0,0⟩:ad),(⟨0,0,0,0⟩:an)⟩:ax)) zero_68.ok p p fun b9=>jA<|to_stW (k:=0) (vs:=ax.C x19) inf_68.ok p p p p p p p<|du<|dy<|V<|evl_c (v_ldBs (k:=0) ag_68.ok p p p p) p<|evl_c (v_ldBs (k:=1) ag_23.ok p p p p) p<|O p<|jA<|to_clp (vs:=[(.agg (ax.C x19).toArray),(.agg (ao.C a1).toArray),(.int .i64 s3.1)]) (dC<|ct_hist_one x19 a1 s3.1 _) en_96.ok p p<|U (v_not p)<|O p<|Y p p (asB_f _) (fun g12=>wv<|gG wO.ok p)<|Y p p (asB_f _) (fun g13=>cv<|v_ldB (k:=0) eK.ok (iQ p g13) p p)<|Y p p (asB_f _) (fun g14=>wv<|v_gt (iQ p g14) p)<|Y p p (asB_f _) (fun g15=>wv<|aV<|iQ p g15)<|Y p p (asB_gt _ _) (fun g16=>wv<|aV p)<|Y p p (asB_gt _ _) (fun g17=>wv<|gG wO.ok p)<|Y p p (asB_gt _ _) (fun g18=>cv<|v_ldB (k:=0) eK.ok (iQ p g18) p p)<|evl_br H11 (fun k20 H21=>z_O ((gv_t (b_l k20) _).trans<|Z<|b_r k20)<|to_hpv H21 (x_lookup (iQ p k20)<|iQ p k20) p fun v33 _ H22=>z_O (Z<|b_not<|b_l k20)<|z_p (nQ (iQ p<|b_l k20) (b_r k20) p)<|U (nR p (b_not<|b_l k20) p)<|du<|mb p H22 (fun k23 H24=>V<|W p<|vC<|z_r ⟨false,p,H24⟩) fun k23 H24=>fY<|dy<|V<|O p<|U (gG fld_68_0.ok p)<|evl_c (v_ldB (k:=0) eK.ok p p p) p<|jA<|to_hpv H24 (x_lookup p p) p fun v40 _ H25=>O p<|U (sR p p)<|U (sR p p)<|U (mB p)<|W p<|V<|O p<|O p<|Y p p (lz _) (fun g26=>wv<|aV p)<|Y p p (lz _) (fun g27=>wv<|v_le (iQ p g27) p)<|Y p p (lz _) (fun g28=>wv<|aV<|iQ p g28)<|Y p p (ql _ _) (fun g29=>wv<|gG fld_68_3.ok p)<|Y p p (ql _ _) (fun g30=>cv<|v_ldB (k:=0) eK.ok (iQ p g30) p p)<|Y p p (ql _ _) (fun g31=>wv<|aV p)<|Y p p (ql _ _) (fun g32=>wv<|v_le (iQ p g32)<|iQ p g32)<|Y p p (lz _) (fun g33=>wv<|v_or (iQ p g33)<|kH p<|gv_and g33)<|U (v_and p p)<|du<|mb p H25 (fun k34 H35=>V<|W p<|vC<|z_r ⟨false,p,H35⟩) fun k34 H35=>fY<|oQ (n:=13) [bx b9 68 (ax.C x19),bx b3 23 (ao.C a1)] mixed p (.cons_cons _<|.cons_cons _ .slnil)<|M 0 p (aV p)<|M 1 p (gG wO.ok p)<|R 2 p (v_ldE (k:=0) eK.ok p p p)<|M 3 p (aV p)<|M 4 p (gG fld_68_0.ok p)<|R 5 p (v_ldE (k:=0) eK.ok p p p)<|M 6 p (gG fld_68_3.ok p)<|R 7 p (v_ldE (k:=0) eK.ok p p p)<|M 8 p (gG fld_68_5.ok p)<|R 9 p (v_ldE (k:=0) eK.ok p p p)<|M 10 p (mB p)<|F 11 p<|to_hpu H35 (qE p p p) fun _ H36=>⟨.cons_cons _<|.cons_cons _ .slnil,F 12 p<|to_hpu H36 (qE p p p) fun _ H37=>⟨.cons_cons _<|.cons_cons _ .slnil,mU (by kernel_rfl)<|cU<|U (kI p p)<|O p<|du<|lp_i (x19.fTa,(i64.wrap (s3.2 + 1))) H37 (.cons p<|.cons p<|.cons p<|.cons p<|.cons p<|.cons p<|.cons p<|.nil _)<|.cons _<|.cons_cons _ .slnil⟩⟩) fun k20 H21=>z_o ((asB_gt _ _).trans k20)<|Y p p (asB_f _) (fun g38=>wv<|nR (iQ p g38) (b_andr k20 g38) p)<|U (v_or p p)<|du<|mb p H21 (fun k39 H40=>V<|W p<|vC<|z_r ⟨false,p,H40⟩) fun k39 H40=>fY<|dy<|V<|O p<|U (gG fld_68_0.ok p)<|evl_c (v_ldB (k:=0) eK.ok p p p) p<|jA<|to_hpv H40 (x_lookup p p) p fun v40 _ H41=>O p<|U (sR p p)<|U (sR p p)<|U (mB p)<|W p<|V<|O p<|O p<|Y p p (lz _) (fun g42=>wv<|aV p)<|Y p p (lz _) (fun g43=>wv<|v_le (iQ p g43) p)<|Y p p (lz _) (fun g44=>wv<|aV<|iQ p g44)<|Y p p (ql _ _) (fun g45=>wv<|gG fld_68_3.ok p)<|Y p p (ql _ _) (fun g46=>cv<|v_ldB (k:=0) eK.ok (iQ p g46) p p)<|Y p p (ql _ _) (fun g47=>wv<|aV p)<|Y p p (ql _ _) (fun g48=>wv<|v_le (iQ p g48)<|iQ p g48)<|Y p p (lz _) (fun g49=>wv<|v_or (iQ p g49)<|kH p<|gv_and g49)<|U (v_and p p)<|du<|mb p H41 (fun k50 H51=>V<|W p<|vC<|z_r ⟨false,p,H51⟩) fun k50 H51=>fY<|oQ (n:=13) [bx b9 68 (ax.C x19),bx b3 23 (ao.C a1)] mixed p (.cons_cons _<|.cons_cons _ .slnil)<|M 0 p (aV p)<|M 1 p (gG wO.ok p)<|R 2 p (v_ldE (k:=0) eK.ok p p p)<|M 3 p (aV p)<|M 4 p (gG fld_68_0.ok p)<|R 5 p (v_ldE (k:=0) eK.ok p p p)<|M 6 p (gG fld_68_3.ok p)<|R 7 p (v_ldE (k:=0) eK.ok p p p)<|M 8 p (gG fld_68_5.ok p)<|R 9 p (v_ldE (k:=0) eK.ok p p p)<|M 10 p (mB p)<|F 11 p<|to_hpu H51 (qE p p p) fun _ H52=>⟨.cons_cons _<|.cons_cons _ .slnil,F 12 p<|to_hpu H52 (qE p p p) fun _ H53=>⟨.cons_cons _<|.cons_cons _ .slnil,mU (by kernel_rfl)<|cU<|U (kI p p)<|O p<|du<|lp_i (x19.fTa,(i64.wrap (s3.2 + 1))) H53 (.cons p<|.cons p<|.cons p<|.cons p<|.cons p<|.cons p<|.cons p<|.nil _)<|.cons _<|.cons_cons _ .slnil⟩⟩) fun k6 H7=>oP<|V<|W p<|vC<|z_r ⟨true,p,H7⟩
def hist_places_l1 (a0:Sl) (a1:Value) (K:kT Sl) (Rec2:kT (Sl × Int)) (s1:Sl × Int):hT:=br (decide (s1.2 < (a0.len:Int))) ( ix a0 s1.2 fun q13=>ld (q13.1,q13.2 + Int.toNat s1.2 * 16) ax.C fun x14=>clv prog a1 [(.agg (ax.C x14).toArray)] ai fun r17=>br r17 ( hpv prog (Instr.buildSlice aj 1 #[(0,(.int .i64 s1.2))]) av fun (v20:Sl)=>hpv prog (Builtin.append_ #[aj,aj] aj #[(sv s1.1),(sv v20)]) av fun (v21:Sl)=>Rec2 (v21,(i64.wrap (s1.2 + 1)))) ( Rec2 (s1.1,(i64.wrap (s1.2 + 1))))) ( K s1.1)
def sh_hist_places (a0:Sl) (a1:Value) (K:kT Sl):hT:=Lp (hist_places_l1 a0 a1 K) ((⟨none,0,0,none⟩:Sl),0)
theorem sim_hist_places (a0:Sl) (a1:Value) {K:kT Sl} {h:Hp} (H:sh_hist_places a0 a1 K h):cl prog qv [(sv a0),a1] av K h:=have z0:LH (σ:=Sl × Int) 3 0 (fun s1 r=>(5,(sv s1.1))::(10,(.int .i64 s1.2))::r) [5,10] [1,8,9] (fun _ l=>l):=⟨⟩; J [] func97 H
def pZ (a0:Int) (a1:Int) (c0:Nat) (K:kT Int):hT:=ld (c0,0) cS fun x6=>ix x6 a0 fun q8=>ld (q8.1,q8.2 + Int.toNat a0 * 16 + 8) (cI .i64) fun x10=>ld (c0,0) cS fun x11=>ix x11 a1 fun q13=>ld (q13.1,q13.2 + Int.toNat a1 * 16 + 8) (cI .i64) fun x15=>K (eQ x10 x15)
theorem ui (a0:Int) (a1:Int) (c0:Nat) {K:kT Int} {h:Hp} (H:pZ a0 a1 c0 K h):cl prog rE [(.int .i64 a0),(.int .i64 a1),(.pointer (some ⟨c0,0,none⟩))] cH K h:=have z0:OH 1 [4,24,1,8,12,17,21,28,32,37,42,44] .e []:=⟨⟩; J [] func100 H
def vn (a0:Sl) (K:kT Sl):hT:=nw da [sv a0] fun b1=>ld (b1,0) cS fun x4=>cl prog qv [(sv x4),(.func (.func mT) #[] #[])] av fun r5=>cl prog di [(sv r5),(.func (.func rE) #[] #[(.pointer (some ⟨b1,0,none⟩))])] R_ fun (_:Unit)=>K r5
theorem sim_hist_Order (a0:Sl) {K:kT Sl} {h:Hp} (H:vn a0 K h):cl prog lR [(sv a0)] av K h:=J [] func47 H
def sh_hist_Over_c1 (a0:ax) (c0:Nat) (K:kT Bool):hT:=ld (c0,0) (cI .i64) fun x6=>br ((decide (a0.fTa <= x6)) && (!(a0.fIa == 0))) ( ld (c0,0) (cI .i64) fun x15=>K (decide (a0.fIa > x15))) ( K ((decide (a0.fTa <= x6)) && true))
theorem sim_hist_Over_c1 (a0:ax) (c0:Nat) {K:kT Bool} {h:Hp} (H:sh_hist_Over_c1 a0 c0 K h):cl prog tI [(.agg (ax.C a0).toArray),(.pointer (some ⟨c0,0,none⟩))] ai K h:=z_i func222 p p fun _=>V<|jA<|to_boxB (l:=ax.C a0) p p p fun b2=>W p<|V<|U (gG fld_68_3.ok p)<|evl_c (v_ldB (k:=0) eK.ok p p p) p<|jA<|to_ld H eK.ok p (fun _=>p) p fun x6 H1=>U (v_le p p)<|O p<|Y p p (lz _) (fun g2=>wv<|gG wO.ok p)<|Y p p (lz _) (fun g3=>cv<|v_ldB (k:=0) eK.ok (iQ p g3) p p)<|Y p p (lz _) (fun g4=>wv<|v_eq (iQ p g4) p)<|Y p p (lz _) (fun g5=>wv<|aV<|iQ p g5)<|Y p p (ql _ _) (fun g6=>wv<|gG wO.ok p)<|Y p p (ql _ _) (fun g7=>cv<|v_ldB (k:=0) eK.ok (iQ p g7) p p)<|evl_br H1 (fun k9 H10=>z_O ((gv_t (b_l k9) _).trans<|Z<|b_not<|b_r k9)<|to_ld H10 eK.ok p (fun _=>p) p fun x15 H11=>z_O ((gv_t (b_l k9) _).trans<|Z<|b_not<|b_r k9)<|z_p (v_gt (iQ p k9) p)<|z_O (Z<|b_l k9)<|z_p (nR (iQ p<|b_l k9) (b_not<|b_r k9) p)<|U (nQ p (b_l k9) p)<|W p<|vC<|z_r ⟨decide (a0.fIa > x15),p,H11⟩) fun k9 H10=>z_o ((ql _ _).trans k9)<|z_o ((ql _ _).trans k9)<|Y p p (lz _) (fun g12=>wv<|nQ (iQ p g12) (b_not2<|b_andr k9 g12) p)<|U (v_and p p)<|W p<|vC<|z_r ⟨((decide (a0.fTa <= x6)) && true),p,H10⟩
def sh_hist_Over (a0:Sl) (a1:Int) (K:kT Sl):hT:=nw kv [.int .i64 a1] fun b3=>cl prog qv [(sv a0),(.func (.func tI) #[] #[(.pointer (some ⟨b3,0,none⟩))])] av fun r7=>K r7
theorem sim_hist_Over (a0:Sl) (a1:Int) {K:kT Sl} {h:Hp} (H:sh_hist_Over a0 a1 K h):cl prog n_hist_Over [(sv a0),(.int .i64 a1)] av K h:=J [] func207 H
end
section
open Go Mb
namespace Hist
def fEb (P:aL->Bool):List aL->Int->List Int
 | [],_=>[]
 | e::es,i=>if P e = true then i::fEb P es (i + 1) else fEb P es (i + 1)
def places (P:aL->Bool) (es:List aL):List Int:=fEb P es 0
def ev00:aL:=KK.ev0 0 0 ⟨0,0,0,0,0⟩ 0
def eff (es:List aL) (i:Int):Int:=(es.getD i.toNat ev00).fIa
def ins (key:Int->Int) (x:Int):List Int->List Int
 | []=>[x]
 | y::l=>if key x < key y then x::y::l else y::ins key x l
def isort (key:Int->Int):List Int->List Int
 | []=>[]
 | x::l=>ins key x (isort key l)
def effs (es:List aL):List Int:=places (fun e=>decide (e.fIa > 0)) es
def order (es:List aL):List Int:=isort (eff es) (effs es)
def over (es:List aL) (at_:Int):List Int:=places (fun e=>decide (e.fTa <= at_) && (e.fIa == 0 || decide (e.fIa > at_))) es
def done (es:List aL):List Int:=places (fun e=>e.fXa != 0) es
def endOf (ends:List (Int × Int)) (c:Int):Option Int:=(ends.find? (fun p=>p.1 == c)).map (·.2)
def stops (ends:List (Int × Int)) (e:aL):Bool:=match endOf ends e.fOa with
 | some n=>decide (n <= 0) || decide (e.fTa <= n)
 | none=>false
def mayFrom (s:dc):List aL->Int->List Int->List (Int × Int)->Bool
 | [],_,_,_=>true
 | e::es,uc,seen,ends=>if dD e s uc = false\/(e.fIa > 0/\e.fIa ∈ seen) then false else if stops ends e = true then false else mayFrom s es e.fTa (e.fIa::seen) ((e.fOa,e.fXa)::ends)
def may (es:List aL) (s:dc):Bool:=mayFrom s es 0 [] []
theorem placesFrom_app (P:aL->Bool) (e:aL):∀ (es:List aL) (i:Int),fEb P (es++[e]) i = fEb P es i++(if P e = true then [i + es.length] else [])
 | [],i=>by simp only [List.nil_append,fEb]; split <;> simp
 | d::es,i=>by
  simp only [List.cons_append,fEb];rw [placesFrom_app P e es (i + 1)];have e1:i + 1 + (es.length:Int) = i + ((d::es).length:Int):=by simp; omega
  rw [e1];split <;> simp
theorem placesFrom_len (P:aL->Bool):∀ (es:List aL) (i:Int),(fEb P es i).length <= es.length
 | [],_=>Nat.le_refl _
 | e::es,i=>by unfold fEb; have:=placesFrom_len P es (i + 1); split <;> simp <;> omega
theorem placesFrom_c (P:aL->Bool) (d:aL) (es:List aL) (i:Int):fEb P (d::es) i = if P d = true then i::fEb P es (i + 1) else fEb P es (i + 1):=rfl
theorem mem_placesFrom {P:aL->Bool} {x:Int}:∀ {es:List aL} {i:Int},x ∈ fEb P es i↔∃ (n:Nat) (e:aL),es[n]? = some e/\x = i + n/\P e = true
 | [],i=>by simp [fEb]
 | d::es,i=>by
  have ih:=mem_placesFrom (P:=P) (x:=x) (es:=es) (i:=i + 1);have sp:(∃ (n:Nat) (e:aL),(d::es)[n]? = some e/\x = i + n/\P e = true)↔(x = i/\P d = true)\/∃ (n:Nat) (e:aL),es[n]? = some e/\x = i + 1 + n/\P e = true:=by
   constructor
   ·rintro ⟨n,e,h1,h2,h3⟩;cases n with
    | zero=>simp at h1; subst h1; exact .inl ⟨by simpa using h2,h3⟩
    | succ n=>exact .inr ⟨n,e,by simpa using h1,by omega,h3⟩
   ·rintro (⟨h2,h3⟩ | ⟨n,e,h1,h2,h3⟩)
    ·exact ⟨0,d,rfl,by simpa using h2,h3⟩
    ·exact ⟨n + 1,e,by simpa using h1,by omega,h3⟩
  rw [sp,← ih,placesFrom_c];split
  ·rename_i hd;rw [mem_cons];constructor
   ·rintro (h | h)
    ·exact .inl ⟨h,hd⟩
    ·exact .inr h
   ·rintro (h | h)
    ·exact .inl h.1
    ·exact .inr h
  ·rename_i hd;constructor
   ·exact .inr
   ·rintro (h | h)
    ·exact absurd h.2 hd
    ·exact h
theorem mem_places {P:aL->Bool} {x:Int} {es:List aL}:x ∈ places P es↔∃ (n:Nat) (e:aL),es[n]? = some e/\x = n/\P e = true:=by
 unfold places;rw [mem_placesFrom];simp
theorem places_in {P:aL->Bool} {x:Int} {es:List aL} (h:x ∈ places P es):0 <= x/\x < es.length:=by
 obtain ⟨n,e,h1,rfl,_⟩:=mem_places.1 h;have:=(List.getElem?_eq_some_iff.1 h1).1;omega
theorem ins_perm (key:Int->Int) (x:Int):∀ l,(ins key x l).Perm (x::l)
 | []=>.refl _
 | y::l=>by
  unfold ins; split
  ·exact .refl _
  ·exact ((ins_perm key x l).cons y).trans (.swap _ _ _)
theorem isort_perm (key:Int->Int):∀ l,(isort key l).Perm l
 | []=>.refl _
 | x::l=>(ins_perm key x _).trans ((isort_perm key l).cons x)
theorem ins_up (key:Int->Int) (x:Int):∀ l,Up key l->Up key (ins key x l)
 | [],_=>List.pairwise_singleton _ _
 | y::l,h=>by
  obtain ⟨h1,h2⟩:=pairwise_cons.1 h;unfold ins; split
  ·rename_i hx;refine pairwise_cons.2 ⟨fun z hz=>?_,h⟩;rcases mem_cons.1 hz with rfl | hz
   ·omega
   ·have:=h1 z hz; omega
  ·rename_i hx;refine pairwise_cons.2 ⟨fun z hz=>?_,ins_up key x l h2⟩;rcases mem_cons.1 ((ins_perm key x l).subset hz) with rfl | hz
   ·omega
   ·exact h1 z hz
theorem isort_up (key:Int->Int):∀ l,Up key (isort key l)
 | []=>.nil
 | x::l=>ins_up key x _ (isort_up key l)
def Apart (es:List aL):Prop:=∀ a b,a ∈ effs es->b ∈ effs es->eff es a = eff es b->a = b
theorem order_of {es:List aL} (ha:Apart es) {l:List Int} (hp:l.Perm (effs es)) (hu:Up (eff es) l):l = order es:=by
 refine List.Perm.eq_of_pairwise (le:=fun x y=>eff es x <= eff es y) (fun a b h1 h2 h3 h4=>?_) hu (isort_up _ _) (hp.trans (isort_perm _ _).symm);exact ha a b (hp.subset h1) ((isort_perm _ _).subset h2) (by omega)
theorem mayFrom_apart {s:dc}:∀ {es:List aL} {uc:Int} {seen:List Int} {ends:List (Int × Int)},mayFrom s es uc seen ends = true ->
  (∀ (n:Nat) e,es[n]? = some e->e.fIa > 0->e.fIa ∉ seen)/\∀ (n m:Nat) e d,es[n]? = some e->es[m]? = some d->e.fIa > 0->e.fIa = d.fIa->n = m
 | [],_,_,_,_=>⟨fun n e h=>by simp at h,fun n m e d h=>by simp at h⟩
 | e0::es,uc,seen,ends,h=>by
  unfold mayFrom at h;split at h
  ·cases h
  ·split at h
   ·cases h
   ·rename_i h1 _;obtain ⟨i1,i2⟩:=mayFrom_apart h;have h0:e0.fIa > 0->e0.fIa ∉ seen:=fun hp hm=>h1 (.inr ⟨hp,hm⟩);refine ⟨fun n e hn hp=>?_,fun n m e d hn hm hp he=>?_⟩
    ·cases n with
     | zero=>simp at hn; subst hn; exact h0 hp
     | succ n=>exact fun hm=>i1 n e (by simpa using hn) hp (by simp [hm])
    ·cases n with
     | zero =>
      cases m with
      | zero=>rfl
      | succ m =>
       simp at hn; subst hn;exact absurd (by simp [he]) (i1 m d (by simpa using hm) (by omega))
     | succ n =>
      cases m with
      | zero =>
       simp at hm; subst hm;exact absurd (by simp [he]) (i1 n e (by simpa using hn) hp)
      | succ m=>rw [i2 n m e d (by simpa using hn) (by simpa using hm) hp he]
theorem eff_nat {es:List aL} {n:Nat} {e:aL} (h:es[n]? = some e):eff es n = e.fIa:=by simp [eff,h]
theorem may_apart {es:List aL} {s:dc} (h:may es s = true):Apart es:=by
 intro a b ha hb he;obtain ⟨n,e,h1,rfl,h2⟩:=mem_places.1 ha;obtain ⟨m,d,h3,rfl,h4⟩:=mem_places.1 hb;rw [eff_nat h1,eff_nat h3] at he;rw [(mayFrom_apart h).2 n m e d h1 h3 (by simpa using h2) he]
end Hist
theorem td (s:Sl) (es:List aL) (v:Value) (P:aL->Bool) (A:List As) (hb:es.length < 2 ^ 38)
  (hv:∀ e ∈ es,SpV prog v [.agg e.C.toArray] ai (vE s es::A) (fun r=>pa_ (r = P e) (vE s es::A))) :
  Sp prog qv [sv s,v] av (vE s es::A) (fun r=>ah (vI r (Hist.places P es)::vE s es::A)):=by
 intro h s0;have hl:=(aX (j:=0) s0 rfl).1;refine sim_hist_places _ _ ?_;unfold sh_hist_places;refine Lp.intro (fun (z:Sl × Int) h=>∃ n:Nat,z.2 = n/\n <= es.length/\ah (vI z.1 (Hist.fEb P (es.take n) 0)::vE s es::A) h) (fun (z:Sl × Int) _=>es.length - z.2.toNat) ⟨0,rfl,zero_le _,dp s0⟩ ?_;rintro ⟨z,i⟩ h ⟨n,rfl,hn,s1⟩;unfold hist_places_l1;refine ar (fun k=>?_) (fun k=>?_)
 ·have hlt:n < es.length:=by rw [hl] at k; simpa using k
  have hw:i64.wrap ((n:Int) + 1) = ((n + 1:Nat):Int):=by rw [aE (by omega) (by omega)]; rfl
  have ht:es.take (n + 1) = es.take n++[es[n]]:=by simp
  have hlen:((es.take n).length:Int) = n:=by simp; omega
  have hpl:=Hist.placesFrom_len P (es.take n) 0;simp at hpl;refine bE s1 (j:=1) rfl (by omega) (by show (n:Int) < _; omega) fun q hq=>?_;refine bK (j:=1) (i:=n) (k:=0) es[n] fZ s1 rfl hq rfl (al hlt) (by simp) ?_;refine clv_t (hv es[n] (List.getElem_mem hlt)) s1 fun r h2 s2=>?_;obtain ⟨hr,s3⟩:=aM.1 s2;have s4:=vW s3;rw [hw];refine ar (fun k2=>?_) (fun k2=>?_)
  ·refine sW s4 (i:=0) rfl (by omega) fun v h' s5=>?_;refine ⟨⟨n + 1,rfl,hlt,?_⟩,by simp; omega⟩;rw [ht,Hist.placesFrom_app,if_pos (by rw [← hr,k2]),hlen,Int.zero_add];exact s5
  ·refine ⟨⟨n + 1,rfl,hlt,?_⟩,by simp; omega⟩;rw [ht,Hist.placesFrom_app,if_neg (by rw [← hr,k2]; exact Bool.false_ne_true),List.append_nil];exact s4
 ·have:n = es.length:=by rw [hl] at k; simp at k; omega
  subst this;rw [List.take_length] at s1;exact s1
theorem cmp_neg (x y:Int):eQ x y < 0↔x < y:=by
 unfold eQ cR;simp only [bne_self_eq_false,cond_false];by_cases h1:x < y
 ·simp [h1]
 ·by_cases h2:x > y
  ·simp [h1,h2]
  ·simp [h1,h2]
theorem sp_hist_Over (s:Sl) (es:List aL) (a:Int) (hb:es.length < 2 ^ 38):Sp prog n_hist_Over [sv s,.int .i64 a] av [vE s es] (fun r=>ah [vI r (Hist.over es a),vE s es]):=by
 intro h s0;refine sim_hist_Over _ _ ?_;unfold sh_hist_Over;refine nP s0 fun b3 h1 s1=>?_;refine bG [1,0] (td s es _ (fun e=>decide (e.fTa <= a) && (e.fIa == 0 || decide (e.fIa > a))) [blk b3 kv [.int .i64 a]] hb ?_) s1 rfl fun r h2 s2=>?_
 ·intro e he;refine ⟨_,_,_,rfl,enter_hist_Over_c1,fun h s3=>?_⟩;refine sim_hist_Over_c1 e b3 ?_;unfold sh_hist_Over_c1;refine aJ a s3 (i:=1) rfl rfl rfl ?_;refine ar (fun k=>?_) (fun k=>?_)
  ·refine aJ a s3 (i:=1) rfl rfl rfl ?_;rw [and_eq_true] at k;refine aw ?_ s3;have k2:(e.fIa == 0) = false:=by simpa using k.2
   rw [k.1,k2]; rfl
  ·refine aw ?_ s3;cases k1:decide (e.fTa <= a) with
   | false=>rfl
   | true =>
    rw [k1] at k;have k2:(e.fIa == 0) = true:=by simpa using k
    rw [k2]; rfl
 ·have s3:=bT s2;exact lD (l:=[vI r (Hist.over es a),vE s es]) s3
theorem sp_hist_Order20 (s:Sl) (es:List aL) (hb:es.length <= 20) (ha:Hist.Apart es):Sp prog lR [sv s] av [vE s es] (fun r=>ah [vI r (Hist.order es),vE s es]):=by
 intro h s0;refine sim_hist_Order _ ?_;unfold vn;refine nP s0 fun b1 h1 s1=>?_;refine aJ s s1 (i:=0) rfl rfl rfl ?_;refine bG [1,0] (td s es _ (fun e=>decide (e.fIa > 0)) [blk b1 da [sv s]] (by omega) ?_) s1 rfl fun r h2 s2=>?_
 ·intro e he;refine ⟨_,_,_,rfl,sk,fun h s3=>?_⟩;exact (wU e h).mono fun v h' ⟨r,hv,hr,hh⟩=>⟨r,hv,hr,by rw [hh]; exact s3⟩
 ·have s3:=bT s2;have hpl:=Hist.placesFrom_len (fun e=>decide (e.fIa > 0)) es 0;refine bG [0,0,0] (sp_SortStable20 r _ [vE s es,blk b1 da [sv s]] (Hist.eff es) (fun x=>0 <= x/\x < es.length) ?_ (Hist.effs es) (fun x hx=>Hist.places_in hx) (by unfold Hist.effs Hist.places; omega)) s3 rfl fun u h4 s4=>?_
  ·rintro x y ⟨hx0,hx⟩ ⟨hy0,hy⟩;refine ⟨_,_,_,rfl,sj,fun h s5=>?_⟩;obtain ⟨n,rfl⟩:=Int.eq_ofNat_of_zero_le hx0;obtain ⟨m,rfl⟩:=Int.eq_ofNat_of_zero_le hy0;have hn:n < es.length:=by omega
   have hm:m < es.length:=by omega
   refine ui n m b1 ?_;unfold pZ;refine aJ s s5 (i:=1) rfl rfl rfl ?_;refine bE s5 (j:=0) rfl (by omega) (by omega) fun q hq=>?_;refine bK (j:=0) (i:=n) (k:=8) es[n].fIa fZ s5 rfl hq rfl (al hn) (c1 rfl rfl) ?_;refine aJ s s5 (i:=1) rfl rfl rfl ?_;refine bE s5 (j:=0) rfl (by omega) (by omega) fun q2 hq2=>?_;refine bK (j:=0) (i:=m) (k:=8) es[m].fIa fZ s5 rfl hq2 rfl (al hm) (c1 rfl rfl) ?_;refine aw ?_ s5;rw [cmp_neg,Hist.eff_nat (al hn),Hist.eff_nat (al hm)]
  ·obtain ⟨g1,g2,d,rfl,⟨m',⟨p1,p2⟩,s5⟩,s6⟩:=s4;rw [Hist.order_of ha p1 p2] at s5;exact pS (lD (l:=[vI r (Hist.order es),vE s es]) s5) d
theorem sp_hist_May (s:Sl) (es:List aL) (z:dc) (hb:es.length < 2 ^ 38):Sp prog xZ [sv s,.agg z.C.toArray] ai [vE s es] (fun r=>pa_ (r = Hist.may es z) [vE s es]):=by
 intro h s0;have hl:=(aX (j:=0) s0 rfl).1;refine sim_hist_May _ _ ?_;unfold sh_hist_May;refine makeMap_m (τ:=Bool) (val:=fun x=>.bool x) rfl s0 fun b1 h1 s1=>?_;refine makeMap_m (τ:=Int) (val:=fun x=>.int .i64 x) rfl s1 fun b2 h2 s2=>?_;refine Lp.intro (fun (y:Int × Int) h=>∃ (n:Nat) (seen:List Int) (ends:List (Int × Int)),y.2 = n/\n <= es.length/\Hist.mayFrom z (es.drop n) y.1 seen ends = Hist.may es z/\ah [mapA b2 (fun x=>Value.int .i64 x) (Hist.endOf ends),mapA b1 (fun x=>Value.bool x) (fun x=>if x ∈ seen then some true else none),vE s es] h) (fun (y:Int × Int) _=>es.length - y.2.toNat) ⟨0,[],[],rfl,zero_le _,rfl,?_⟩ ?_
 ·have e1:(fun x:Int=>if x ∈ ([]:List Int) then some true else none) = fun _=>none:=by funext x; simp
  have e2:Hist.endOf [] = fun _=>none:=by funext x; rfl
  rw [e1,e2]; exact s2
 rintro ⟨uc,i⟩ h ⟨n,seen,ends,rfl,hn,he,s3⟩;unfold hist_May_l1;simp only at he ⊢;refine ar (fun k=>?_) (fun k=>?_)
 ·have hlt:n < es.length:=by rw [hl] at k; simpa using k
  have hw:i64.wrap ((n:Int) + 1) = ((n + 1:Nat):Int):=by rw [aE (by omega) (by omega)]; rfl
  rw [List.drop_eq_getElem_cons hlt,Hist.mayFrom] at he;refine bE s3 (j:=2) rfl (by omega) (by omega) fun q hq=>?_;refine bK (j:=2) (i:=n) (k:=0) es[n] fZ s3 rfl hq rfl (al hlt) (by simp) ?_;have rest:¬ (dD es[n] z uc = false\/(es[n].fIa > 0/\es[n].fIa ∈ seen))->∀ K:(Int × Int)->Hp->Prop,
    (∀ (s':Int × Int) h',s'.1 = es[n].fTa/\s'.2 = ((n + 1:Nat):Int)->Hist.stops ends es[n] = false->ah [mapA b2 (fun x=>Value.int .i64 x) (Hist.endOf ((es[n].fOa,es[n].fXa)::ends)),mapA b1 (fun x=>Value.bool x) (fun x=>if x ∈ es[n].fIa::seen then some true else none),vE s es] h'->K s' h') ->
    hpv prog (Instr.lookup gc (.map (some b2)) (.int .i64 es[n].fOa) true) aR (fun (v40:Int × Bool) =>
     br (v40.2 && ((decide (v40.1 <= 0)) || (decide (es[n].fTa <= v40.1)))) (pa_ (false = Hist.may es z) [vE s es]) (
     hpu prog (Instr.mapUpdate iD (.map (some b1)) (.int .i64 es[n].fIa) (.bool true)) <|
     hpu prog (Instr.mapUpdate gc (.map (some b2)) (.int .i64 es[n].fOa) (.int .i64 es[n].fXa)) <|
     K (es[n].fTa,((n + 1:Nat):Int)))) h:=by
   intro hno K hK;rw [if_neg hno] at he;refine lookup_m (j:=0) mp_map_int_int s3 rfl ((Hist.endOf ends es[n].fOa).getD 0,(Hist.endOf ends es[n].fOa).isSome) ?_ ?_
   ·rw [if_pos rfl]; unfold aR;cases Hist.endOf ends es[n].fOa <;> rfl
   ·have hst:((Hist.endOf ends es[n].fOa).isSome && ((decide ((Hist.endOf ends es[n].fOa).getD 0 <= 0)) || (decide (es[n].fTa <= (Hist.endOf ends es[n].fOa).getD 0)))) = Hist.stops ends es[n]:=by
     unfold Hist.stops;cases Hist.endOf ends es[n].fOa <;> simp
    show br ((Hist.endOf ends es[n].fOa).isSome && ((decide ((Hist.endOf ends es[n].fOa).getD 0 <= 0)) || (decide (es[n].fTa <= (Hist.endOf ends es[n].fOa).getD 0)))) _ _ h;rw [hst];refine ar (fun k2=>?_) (fun k2=>?_)
    ·rw [if_pos k2] at he;exact aw he (aT (l:=[_,_]) s3)
    ·refine update_m (j:=1) (w:=true) mp_map_int_bool s3 rfl rfl fun h4 s4=>?_;refine update_m (j:=0) (w:=es[n].fXa) mp_map_int_int s4 rfl rfl fun h5 s5=>?_;refine hK _ _ ⟨rfl,rfl⟩ k2 ?_;have e1:(fun y=>if y = es[n].fOa then some es[n].fXa else Hist.endOf ends y) = Hist.endOf ((es[n].fOa,es[n].fXa)::ends):=by
      funext y;unfold Hist.endOf;by_cases hy:y = es[n].fOa
      ·subst hy; simp
      ·have:(es[n].fOa == y) = false:=by simpa using fun e=>hy e.symm
       simp [hy,this]
     have e2:(fun y=>if y = es[n].fIa then some true else if y ∈ seen then some true else none) = fun x=>if x ∈ es[n].fIa::seen then some true else none:=by
      funext y;by_cases hy:y = es[n].fIa <;> simp [hy]
     rw [← e1,← e2];exact s5
  have go:¬ (dD es[n] z uc = false\/(es[n].fIa > 0/\es[n].fIa ∈ seen))->∀ (s':Int × Int) h',s'.1 = es[n].fTa/\s'.2 = ((n + 1:Nat):Int)->Hist.stops ends es[n] = false->ah [mapA b2 (fun x=>Value.int .i64 x) (Hist.endOf ((es[n].fOa,es[n].fXa)::ends)),mapA b1 (fun x=>Value.bool x) (fun x=>if x ∈ es[n].fIa::seen then some true else none),vE s es] h' ->
    (∃ (n:Nat) (seen:List Int) (ends:List (Int × Int)),s'.2 = n/\n <= es.length/\Hist.mayFrom z (es.drop n) s'.1 seen ends = Hist.may es z/\ah [mapA b2 (fun x=>Value.int .i64 x) (Hist.endOf ends),mapA b1 (fun x=>Value.bool x) (fun x=>if x ∈ seen then some true else none),vE s es] h')/\es.length - s'.2.toNat < es.length - (n:Int).toNat:=by
   rintro hno ⟨u,w⟩ h' ⟨h4,h5⟩ hst s4;simp only at h4 h5;subst h4; subst h5;rw [if_neg hno,if_neg (by rw [hst]; exact Bool.false_ne_true)] at he;exact ⟨⟨n + 1,_,_,rfl,hlt,he,s4⟩,by simp; omega⟩
  rw [hw];refine ar (fun k2=>?_) (fun k2=>?_)
  ·rw [and_eq_true] at k2;have k1:dD es[n] z uc = true:=by simpa using k2.1
   have kp:es[n].fIa > 0:=by simpa using k2.2
   refine lookup_m (j:=1) mp_map_int_bool s3 rfl (decide (es[n].fIa ∈ seen)) ?_ ?_
   ·rw [if_neg Bool.false_ne_true]; unfold ai;by_cases hm:es[n].fIa ∈ seen <;> simp [hm]
   ·refine ar (fun k3=>?_) (fun k3=>?_)
    ·have hm:es[n].fIa ∈ seen:=of_decide_eq_true k3;rw [if_pos (.inr ⟨kp,hm⟩)] at he;exact aw he (aT (l:=[_,_]) s3)
    ·have hm:es[n].fIa ∉ seen:=of_decide_eq_false k3;have hno:¬ (dD es[n] z uc = false\/(es[n].fIa > 0/\es[n].fIa ∈ seen)):=by simp [k1,hm]
     exact rest hno _ (go hno)
  ·refine ar (fun k3=>?_) (fun k3=>?_)
   ·have k1:dD es[n] z uc = false:=by simpa using k3
    rw [if_pos (.inl k1)] at he;exact aw he (aT (l:=[_,_]) s3)
   ·have k1:dD es[n] z uc = true:=by simpa using k3
    have kp:¬ es[n].fIa > 0:=by simp [k1] at k2; omega
    have hno:¬ (dD es[n] z uc = false\/(es[n].fIa > 0/\es[n].fIa ∈ seen)):=by simp [k1]; intro hh; exact absurd hh kp
    exact rest hno _ (go hno)
 ·have:n = es.length:=by rw [hl] at k; simp at k; omega
  subst this;rw [List.drop_length] at he;exact aw he (aT (l:=[_,_]) s3)
end
section
open Go Mb
attribute [local irreducible] bM gR il Val Tx Tu Tn RV Res br nn ix gd ld st nw cl clv dL Lp ct
def cZ (a2:Int) (a3:Int) (q22:Nat × Nat) (Rec9:kT (Sl × Int)) (s8:Sl × Int) (x49:ax) (s22:Bool):hT:=br s22 ( ld (q22.1,q22.2 + 4) cP fun x65=>cl prog fL [(pv x65)] cM fun r66=>cl prog cD [(pv r66),(.int .i64 x49.fBa),(.agg (aa.C x49.fJa).toArray)] aD fun r72=>cl prog eR [(pv r66),(.int .i64 a2),(.int .i64 a3)] bA fun r77=>hpv prog (Instr.buildSlice pQ 1 #[(0,(.agg (ak.C r77.1).toArray))]) qm fun (v82:Sl)=>hpv prog (Builtin.append_ #[pQ,pQ] pQ #[(sv s8.1),(sv v82)]) qm fun (v83:Sl)=>Rec9 (v83,(i64.wrap (s8.2 + 1)))) ( Rec9 (s8.1,(i64.wrap (s8.2 + 1))))
def pI (a2:Int) (a3:Int) (K:kT Sl) (q22:Nat × Nat) (r37:Sl) (Rec9:kT (Sl × Int)) (s8:Sl × Int):hT:=br (decide (s8.2 < (r37.len:Int))) ( ix r37 s8.2 fun q41=>ld (q41.1,q41.2 + Int.toNat s8.2 * 1) (cI .i64) fun x42=>ld (q22.1,q22.2 + 0) cS fun x46=>ix x46 x42 fun q48=>ld (q48.1,q48.2 + Int.toNat x42 * 16) ax.C fun x49=>ct (cZ a2 a3 q22 Rec9 s8 x49)<|br (((am x49.fJa).1) == 7) ( cZ a2 a3 q22 Rec9 s8 x49 (((am x49.fJa).1) == 7)) ( br (((am x49.fJa).1) == 8) ( cZ a2 a3 q22 Rec9 s8 x49 (((am x49.fJa).1) == 8)) ( br (((am x49.fJa).1) == 4) ( cZ a2 a3 q22 Rec9 s8 x49 (((am x49.fJa).1) == 4)) ( cZ a2 a3 q22 Rec9 s8 x49 (((am x49.fJa).1) == 5))))) ( K s8.1)
def pA (a0:Ptr) (a1:Int) (a2:Int) (a3:Int) (K:kT Sl):hT:=nn a0 fun q22=>ld (q22.1,q22.2 + 4) cP fun x24=>cl prog eR [(pv x24),(.int .i64 a2),(.int .i64 a3)] bA fun r27=>hpv prog (Instr.buildSlice pQ 1 #[(0,(.agg (ak.C r27.1).toArray))]) qm fun (v31:Sl)=>ld (q22.1,q22.2 + 0) cS fun x35=>cl prog n_hist_Over [(sv x35),(.int .i64 a1)] av fun r37=>Lp (pI a2 a3 K q22 r37) (v31,0)
theorem xA (a0:Ptr) (a1:Int) (a2:Int) (a3:Int) {K:kT Sl} {h:Hp} (H:pA a0 a1 a2 a3 K h):cl prog lq [(pv a0),(.int .i64 a1),(.int .i64 a2),(.int .i64 a3)] qm K h:=have z0:LH (σ:=Sl × Int) 4 1 (fun s8 r=>(11,(sv s8.1))::(39,(.int .i64 s8.2))::r) [11,39] [0,2,3,37,38] (fun _ l=>l):=⟨⟩; have z1:LH (σ:=Bool) 102013 2 (fun s22 r=>(57,(.bool s22))::r) [57] [0,2,3,11,14,37,38,39] (fun _ l=>l):=⟨⟩; J [2013] func183 H
def pJ (a1:ax) (K:kT Bool) (q18:Nat × Nat) (r50:Sl) (Rec13:kT (Bool × Bool × Int)) (s12:Bool × Bool × Int):hT:=br (decide (s12.2.2 < (r50.len:Int))) ( ix r50 s12.2.2 fun q54=>ld (q54.1,q54.2 + Int.toNat s12.2.2 * 3) ak.C fun x55=>Rec13 ((s12.1 || (!(bk x55.fCa (i64.wrap a1.fJa.e0)))),(s12.2.1 || ((x55.fEa == a1.fAb.fEa) && (ap a1.fAb.fCa x55.fCa))),(i64.wrap (s12.2.2 + 1)))) ( br (a1.fCb.fWa == 7) ( K ((s12.1 && (a1.fCb.fVal == 0)) && (an.eqb a1.fAb (⟨0,0,0,0⟩:an)))) ( ld (q18.1,q18.2 + 4) cP fun x103=>cl prog fL [(pv x103)] cM fun r104=>cl prog dS [(pv r104),(.int .i64 a1.fAb.fEa),(.agg (aa.C a1.fJa).toArray)] aD fun r110=>K (((s12.2.1 && (((a1.fAb.fBa == a1.fBa) && (a1.fAb.fPa == (i64.wrap a1.fJa.e1))) && (bk a1.fAb.fCa (i64.wrap a1.fJa.e0)))) && r110.2) && (ad.eqb r110.1 a1.fCb))))
def pB (a0:Ptr) (a1:ax) (K:kT Bool):hT:=nn a0 fun q18=>ld (q18.1,q18.2 + 1 + 1) (cI .i64) fun x21=>cl prog fT [(.agg (aa.C a1.fJa).toArray),(.int .i64 x21)] aC fun r22=>br (r22 != 0) ( K ((ad.eqb a1.fCb (⟨r22,0⟩:ad)) && (an.eqb a1.fAb (⟨0,0,0,0⟩:an)))) ( cl prog lq [(.pointer (some ⟨q18.1,q18.2,none⟩)),(.int .i64 a1.fIa),(.int .i64 a1.fBa),(.int .i64 (i64.wrap a1.fJa.e1))] qm fun r50=>Lp (pJ a1 K q18 r50) (false,false,0))
theorem xB (a0:Ptr) (a1:ax) {K:kT Bool} {h:Hp} (H:pB a0 a1 K h):cl prog lr [(pv a0),(.agg (ax.C a1).toArray)] ai K h:=have z0:LH (σ:=Bool × Bool × Int) 7 1 (fun s12 r=>(8,(.bool s12.1))::(9,(.bool s12.2.1))::(52,(.int .i64 s12.2.2))::r) [8,9,52] [0,3,6,7,50,51] (fun _ l=>l):=⟨⟩; have z1:OH 14 [0,4,8,20,24,28,32,36,13] (.b 4 14 [] (.b 10 14 [44,48,52,58,62,64] .e [42,44,48,52,62,64] .e) [18,42,44,48,52,62,64] .e) []:=⟨⟩; have z2:OH 4 [0,4,8,12,16,20,24,28,32,36] .e []:=⟨⟩; have z3:OH 1 [0,4,8,12,16,20,25,30,32] .e []:=⟨⟩; J [] func140 H
def rZ (a0:Ptr) (a1:ax) (K:kT Bool):hT:=br (a1.fCb.fWa == 0) ( nn a0 fun q13=>ld (q13.1,q13.2 + 1 + 1) (cI .i64) fun x16=>cl prog fT [(.agg (aa.C a1.fJa).toArray),(.int .i64 x16)] aC fun r17=>br (r17 == 0) ( K (a1.fAb.fCa != 0)) ( K false)) ( K false)
theorem sim_judge_judge_well (a0:Ptr) (a1:ax) {K:kT Bool} {h:Hp} (H:rZ a0 a1 K h):cl prog nk [(pv a0),(.agg (ax.C a1).toArray)] ai K h:=have z0:OH 1 [0,4,8,12,16,20,24,28,32,36,40,45,50,52,56,60,64,68,72,76,80,84] .e []:=⟨⟩; J [] func141 H
def sI (b25:Nat) (Rec8:kT Int) (s7:Int) (x36:ax) (s22:Unit):hT:=cl prog nk [(.pointer (some ⟨b25,0,none⟩)),(.agg (ax.C x36).toArray)] ai fun r49=>br r49 ( ld (b25,4) cP fun x53=>cl prog dS [(pv x53),(.int .i64 x36.fAb.fEa),(.agg (aa.C x36.fJa).toArray)] aD fun r59=>Rec8 (i64.wrap (s7 + 1))) ( Rec8 (i64.wrap (s7 + 1)))
def sH (K:kT (Int × Bool)) (b25:Nat) (Rec8:kT Int) (s7:Int) (x32:Int) (x36:ax) (s29:Bool):hT:=br s29 ( K (x32,false)) ( sI b25 Rec8 s7 x36 ())
def judge_run_l1 (a0:Sl) (a2:Bool) (a3:Bool) (K:kT (Int × Bool)) (b25:Nat) (r27:Sl) (Rec8:kT Int) (s7:Int):hT:=br (decide (s7 < (r27.len:Int))) ( ix r27 s7 fun q31=>ld (q31.1,q31.2 + Int.toNat s7 * 1) (cI .i64) fun x32=>ix a0 x32 fun q35=>ld (q35.1,q35.2 + Int.toNat x32 * 16) ax.C fun x36=>br (bQ x36) ( ct (sI b25 Rec8 s7 x36)<|ct (sH K b25 Rec8 s7 x32 x36)<|br a3 ( cl prog lr [(.pointer (some ⟨b25,0,none⟩)),(.agg (ax.C x36).toArray)] ai fun r43=>sH K b25 Rec8 s7 x32 x36 (!r43)) ( sH K b25 Rec8 s7 x32 x36 false)) ( ld (b25,4) cP fun x64=>cl prog cD [(pv x64),(.int .i64 x36.fBa),(.agg (aa.C x36.fJa).toArray)] aD fun r69=>br (a2 && ((!r69.2) || (!(ad.eqb r69.1 x36.fCb)))) ( K (x32,false)) ( Rec8 (i64.wrap (s7 + 1))))) ( K ((-1),true))
def sh_judge_run (a0:Sl) (a1:ao) (a2:Bool) (a3:Bool) (K:kT (Int × Bool)):hT:=cl prog xZ [(sv a0),(.agg (ao.C a1).toArray)] ai fun r18=>br (!r18) ( K ((-1),false)) ( cl prog nC [(.agg (ao.C a1).toArray)] cM fun r23=>nw ch (ke.C (⟨a0,a1,r23⟩:ke)) fun b25=>cl prog lR [(sv a0)] av fun r27=>Lp (judge_run_l1 a0 a2 a3 K b25 r27) 0)
theorem sim_judge_run (a0:Sl) (a1:ao) (a2:Bool) (a3:Bool) {K:kT (Int × Bool)} {h:Hp} (H:sh_judge_run a0 a1 a2 a3 K h):cl prog uP [(sv a0),(.agg (ao.C a1).toArray),(.bool a2),(.bool a3)] aR K h:=have z0:LH (σ:=Int) 5 1 (fun s7 r=>(29,(.int .i64 s7))::r) [29] [0,2,3,10,27,28] (fun _ l=>l):=⟨⟩; have z1:LH (σ:=Unit) 100011 2 (fun _ r=>r) [] [0,2,3,10,13,27,28,29] (fun _ l=>l):=⟨⟩; have z2:OH 12 [0,4,8,16,20,24,28,32,13,38] .e []:=⟨⟩; have z3:LH (σ:=Bool) 102010 2 (fun s29 r=>(45,(.bool s29))::r) [45] [0,2,3,10,12,13,27,28,29] (fun _ l=>l):=⟨⟩; have z4:OH 13 [0,4,8,16,20,24,28,13] (.b 8 12 [36,40,44,50,54,56] .e [34,36,40,44,54,56] .e) []:=⟨⟩; have z5:OH 3 [0,4,8,14,16,22,24] .e []:=⟨⟩; J [11,2010] func94 H
def sh_judge_Linear (a0:Sl) (a1:ao) (K:kT (Int × Bool)):hT:=cl prog uP [(sv a0),(.agg (ao.C a1).toArray),(.bool true),(.bool false)] aR fun r8=>K (r8.1,r8.2)
theorem sim_judge_Linear (a0:Sl) (a1:ao) {K:kT (Int × Bool)} {h:Hp} (H:sh_judge_Linear a0 a1 K h):cl prog oF [(sv a0),(.agg (ao.C a1).toArray)] aR K h:=J [] func42 H
def sh_judge_Access (a0:Sl) (a1:ao) (K:kT (Int × Bool)):hT:=cl prog uP [(sv a0),(.agg (ao.C a1).toArray),(.bool false),(.bool true)] aR fun r8=>K (r8.1,r8.2)
theorem sim_judge_Access (a0:Sl) (a1:ao) {K:kT (Int × Bool)} {h:Hp} (H:sh_judge_Access a0 a1 K h):cl prog oG [(sv a0),(.agg (ao.C a1).toArray)] aR K h:=J [] func43 H
def sh_judge_Right (a0:Sl) (a1:ao) (K:kT Bool):hT:=cl prog oF [(sv a0),(.agg (ao.C a1).toArray)] aR fun r12=>cl prog oG [(sv a0),(.agg (ao.C a1).toArray)] aR fun r18=>K (r12.2 && r18.2)
theorem sim_judge_Right (a0:Sl) (a1:ao) {K:kT Bool} {h:Hp} (H:sh_judge_Right a0 a1 K h):cl prog vx [(sv a0),(.agg (ao.C a1).toArray)] ai K h:=J [] func49 H
end
end Go.Proofs.YtjcamacgclipiaaGreatDoor
