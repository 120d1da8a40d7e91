/- Part of the proof of: The law KernForm returns true for every input, and leaves its arguments as they were. -/
import Derived.Test.YtniiiakkdoiaiaaGreatDoorKernForm15
set_option linter.all false
namespace Go.Proofs.YtniiiakkdoiaiaaGreatDoor
open Go Mb
variable {ET:Nat} {EF:Nat × Nat}
section
variable {l:List As} {h:Hp} {x:Ptr}
theorem plain_nn {k:PK} (s:aQ (bG x k::l) h):x.isNone = false:=nn_of (fun _ e=>by rw [e.1]; rfl) s
theorem tree_nn {k:Caps.T} (s:aQ (cO x k::l) h):x.isNone = false:=nn_of (fun _ e=>by rw [e.1]; rfl) s
theorem epochs_nn {k:List Int × List Int} (s:aQ (eZ x k::l) h):x.isNone = false:=nn_of (fun _ e=>by rw [e.1]; rfl) s
end
theorem sp_plain_Err (x:Ptr) (k:PK) (e:Int) (c:ao) (h1:(PK.do_ k e c).1.2 = true) (h2:(PK.do_ k e c).1.1.fErr ≠ 0):Sp Tryz.prog ne [pv x,.int .i64 e,.agg c.C.toArray] iy [(etB ET EF),bG x k]
    (fun r=>ex fun b:Nat × Nat=>pa_ (r = dC b.1) [trB b.1 ⟨(PK.do_ k e c).1.1.fErr,e,c,dC b.2⟩,(etB ET EF),bG x k]):=by
  intro h st
  have hn:=plain_nn (bn [1] st rfl)
  refine sim_plain_Kernel_Err _ _ _ ?_
  unfold rm
  refine dv hn ?_
  refine tj (i:=1) (uq x k) rfl st fun y g1 s1=>?_
  refine bY (i:=0) (jI y k e c) rfl s1 fun r g2 hr s2=>?_
  subst hr
  refine dv (by rw [h1]; rfl) ?_
  refine cT [] (rest:=[_,_,_]) (sp_Of _ h2) s2 rfl fun r g3 s3=>?_
  obtain ⟨b,x3⟩:=uj s3
  obtain ⟨rfl,y3⟩:=bH.1 x3
  refine cT [2,0] (rest:=[_,_]) (sp_In e c b _) y3 rfl fun r g4 s4=>?_
  obtain ⟨d,x4⟩:=uj s4
  obtain ⟨rfl,y4⟩:=bH.1 x4
  refine ⟨(d,b),bh rfl (cj (l:=[_,_]) (bn [2,2] y4 rfl))⟩
theorem sp_begun11:Sp Tryz.prog kB [] aG [(etB ET EF)] (fun r=>pa_ (r = true) [(etB ET EF)]):=by
  intro h st
  refine uN ?_
  unfold oh
  refine ma (rF ⟨1,2,2⟩ (by decide)) st fun a1 h1 s1=>?_
  refine ma (sp_caps_New 2 (by decide) (by decide)) s1 fun a2 h2 s2=>?_
  refine ma (rH 3 (by decide) (by decide)) s2 fun a3 h3 s3=>?_
  refine ma vO s3 fun a4 h4 s4=>?_
  refine ma nV s4 fun a5 h5 s5=>?_
  refine ma (sp_mem_New 2 (by decide) (by decide)) s5 fun a6 h6 s6=>?_
  have n1:=plain_nn s1
  have n2:=tree_nn s2
  have n3:=epochs_nn s3
  have n4:=tlb_nn s4
  have n5:=table_nn s5
  have n6:=mem_nn s6
  rw [n1,n2,n3,n4,n5,n6]
  refine dv rfl ?_
  refine bY (i:=5) (jI a1 _ 0 ⟨1,1,0,0,0⟩) rfl s6 fun r1 h7 e1 s7=>?_
  refine bY (i:=5) (jI a1 _ 0 ⟨6,2,1,3,0⟩) rfl s7 fun r2 h8 e2 s8=>?_
  refine bY (i:=5) (jI a1 _ 0 ⟨21,2,5,77,0⟩) rfl s8 fun r3 h9 e3 s9=>?_
  refine bY (i:=5) (jI a1 _ 0 ⟨20,2,5,0,0⟩) rfl s9 fun r4 h10 e4 s10=>?_
  refine bY (i:=4) (vW a2 _ 0 1 1) rfl s10 fun r5 h11 e5 s11=>?_
  refine bY (i:=4) (su a2 _ 0 1 1 3 1) rfl s11 fun r6 h12 e6 s12=>?_
  refine bY (i:=3) (sp_epoch_Begin a3 _ 0 (by decide)) rfl s12 fun r7 h13 e7 s13=>?_
  subst e7
  refine bY (i:=3) (sp_epoch_Ack a3 _ 1 _) rfl s13 fun r8 h14 e8 s14=>?_
  refine bY (i:=1) (ke a5 _ 2 ⟨1,1,1⟩) rfl s14 fun r9 h15 e9 s15=>?_
  refine cT [2,1,0] (rest:=[_,_,_,_]) (sp_user_Do a4 a5 a6 _ _ _ 0 ⟨20,2,3,0,0⟩) s15 rfl fun r10 h16 x16=>?_
  obtain ⟨e10,s16⟩:=bH.1 x16
  subst e1 e2 e3 e4 e5 e6 e8 e9 e10
  refine cT [6,5] (rest:=[_,_,_,_,_]) (sp_plain_Err a1 _ 0 ⟨7,5,0,0,0⟩ (by kernel_rfl) (by decide)) s16 rfl fun r11 h17 x17=>?_
  obtain ⟨⟨b,b'⟩,z17⟩:=uj x17
  obtain ⟨rfl,s17⟩:=bH.1 z17
  refine bY (i:=1) sp_Begun2 rfl s17 fun r12 h18 e12 s18=>?_
  subst e12
  refine df (by kernel_rfl) ?_
  refine tj (i:=7) (sp_caps_Below a2 _ 0 1) rfl s18 fun r13 h19 s19=>?_
  have e13:((r13.len:Int) == 1) = true:=by
    rw [(cn (j:=0) s19 rfl).1]
    kernel_rfl
  rw [e13]
  refine df (by kernel_rfl) ?_
  refine bY (i:=7) (sp_epoch_Done a3 _ 1) rfl s19 fun r14 h20 e14 s20=>?_
  subst e14
  refine df (by kernel_rfl) ?_
  refine tj (i:=7) (sp_epoch_Waits a3 _ 1) rfl s20 fun r15 h21 s21=>?_
  have e15:((r15.len:Int) == 1) = true:=by
    rw [(cn (j:=0) s21 rfl).1]
    kernel_rfl
  rw [e15]
  refine df (by kernel_rfl) ?_
  refine cT [] (rest:=[_,_,_,_,_,_,_,_,_,_]) (sp_Of 3 (by decide)) s21 rfl fun r16 h22 x22=>?_
  obtain ⟨d,z22⟩:=uj x22
  obtain ⟨rfl,s22⟩:=bH.1 z22
  refine cT [3,0] (rest:=[_,_,_,_,_,_,_,_,_]) (sp_Is1 b d _ tr3 (by kernel_rfl) (.inr ⟨b',by kernel_rfl⟩)) s22 rfl fun r17 h23 x23=>?_
  obtain ⟨rfl,s23⟩:=bH.1 x23
  refine df rfl ?_
  refine tj (i:=5) (sp_plain_Free a1 _) rfl s23 fun r18 h24 s24=>?_
  have e18:((r18.len:Int) == 1) = true:=by
    rw [(cn (j:=0) s24 rfl).1]
    kernel_rfl
  exact bh e18 (cj (l:=[_,_,_,_,_,_,_,_,_,_,_]) (bn [0,0,0,0,0,1,1,1,1,1,1] s24 rfl))
theorem sp_Begun11:Sp Tryz.prog kC [] aG [(etB ET EF)] (fun r=>pa_ (r = true) [(etB ET EF)]):=by
  intro h st
  refine uO ?_
  unfold ol
  exact bY (i:=0) sp_begun11 rfl st fun r h' hr s=>bh hr s
end Go.Proofs.YtniiiakkdoiaiaaGreatDoor
namespace Go.Proofs.YtniiiakkdoiaiaaGreatDoor
open Go Mb
theorem calls_nil:∀ (n:Nat) {l:List As} {h:Hp},aQ l h→aQ (all iD (List.replicate n (none:Ptr)) (List.replicate n (none:Option KC))::l) h
  | 0,_,_,s=>all_nil s
  | n + 1,l,h,s=>by
    have s1:=star_cons (A:=iD none none) (fun _=>rfl) (calls_nil n s)
    rw [List.replicate_succ,List.replicate_succ]
    obtain ⟨h1,h2,d,e,a,h3,h4,d2,e2,b,s'⟩:=s1
    subst e2
    obtain ⟨d3,d4⟩:=Dj.of_un_right d
    exact ⟨un h1 h3,h4,Dj.un_left d4 d2,by rw [e,my],⟨h1,h3,d3,rfl,a,b⟩,s'⟩
def newI (s:gj) (b n:Nat) (pp pm pe:Ptr) (cs:Sl) (i:Int) (h:Hp):Prop:=∃ (j:Nat) (ts:Sl) (tp:List Ptr),i = j∧j ≤ n∧tp.length = j∧aQ [blk b cq [pv pp,.int .i64 s.fEnvs,sv ts,pv pm,pv pe,sv cs,sv (⟨none,0,0,none⟩:Sl),.int .i64 0],bG pp (PK.new s),vQ sn ts tp,all fo tp (List.replicate j tlb0),jj pm (List.replicate n []),eZ pe ([],List.replicate n 0),vQ fu cs (List.replicate n none),all iD (List.replicate n none) (List.replicate n none),vE (⟨none,0,0,none⟩:Sl) []] h
theorem new_round {s:gj} {b n:Nat} {pp pm pe:Ptr} {cs:Sl} (hn8:n ≤ 8) {i:Int} {h:Hp} (H:newI s b n pp pm pe cs i h) (hi:i < n) :
    (both (ld (b,2) cS fun x31=>cl Tryz.prog iE [] gC fun r32=>hpv Tryz.prog (Instr.buildSlice ce 1 #[(0,(pv r32))]) dQ fun (v33:Sl)=>hpv Tryz.prog (Builtin.append_ #[ce,ce] ce #[(sv x31),(sv v33)]) dQ fun (v34:Sl)=>Mb.st (b,2) [sv v34] fun h'=>newI s b n pp pm pe cs (IntKind.i64.wrap (i + 1)) h'∧n - (IntKind.i64.wrap (i + 1)).toNat < n - i.toNat)
     (cl Tryz.prog iE [] gC fun r32=>ld (b,2) cS fun x31=>hpv Tryz.prog (Instr.buildSlice ce 1 #[(0,(pv r32))]) dQ fun (v33:Sl)=>hpv Tryz.prog (Builtin.append_ #[ce,ce] ce #[(sv x31),(sv v33)]) dQ fun (v34:Sl)=>Mb.st (b,2) [sv v34] fun h'=>newI s b n pp pm pe cs (IntKind.i64.wrap (i + 1)) h'∧n - (IntKind.i64.wrap (i + 1)).toNat < n - i.toNat)) h:=by
  obtain ⟨j,ts,tp,rfl,hj,htp,s6⟩:=H
  have hlt:j < n:=by omega
  have hw:IntKind.i64.wrap ((j:Int) + 1) = ((j + 1:Nat):Int):=by rw [cm (by omega) (by omega)]; rfl
  rw [hw]
  have fin:∀ (r:Ptr) (v:Sl) (h:Hp),aQ [fo r tlb0,blk b cq [pv pp,.int .i64 s.fEnvs,sv ts,pv pm,pv pe,sv cs,sv (⟨none,0,0,none⟩:Sl),.int .i64 0],bG pp (PK.new s),vQ sn v (tp++[r]),all fo tp (List.replicate j tlb0),jj pm (List.replicate n []),eZ pe ([],List.replicate n 0),vQ fu cs (List.replicate n none),all iD (List.replicate n none) (List.replicate n none),vE (⟨none,0,0,none⟩:Sl) []] h →
      Mb.st (b,2) [sv v] (fun h'=>newI s b n pp pm pe cs ((j + 1:Nat):Int) h'∧n - ((j + 1:Nat):Int).toNat < n - (j:Int).toNat) h:=by
    intro r v h s7
    refine tw (i:=1) s7 rfl (Nat.le_of_ble_eq_true rfl) fun h8 s8=>?_
    refine ⟨⟨j + 1,v,tp++[r],rfl,hlt,by simp [htp],?_⟩,by simp; omega⟩
    have s9:=all_push (by simp [htp]) (bn [0,3] s8 rfl)
    have e:List.replicate j tlb0++[tlb0] = List.replicate (j + 1) tlb0:=List.replicate_succ'.symm
    rw [e] at s9
    exact bn [1,1,1,0] s9 rfl
  refine ⟨?_,?_⟩
  · refine bB ts s6 (i:=0) rfl rfl rfl ?_
    refine ma vO s6 fun r h7 s7=>?_
    refine ku (τ:=Ptr) (i:=3) (enc:=cP) (val:=fun x=>pv x) el_SPtlb_Tlb gf cP_one (fun _=>rfl) (by omega) rfl rfl s7 rfl (by omega) (by omega) fun v h8 s8=>?_
    exact fin r v h8 s8
  · refine ma vO s6 fun r h7 s7=>?_
    refine bB ts s7 (i:=1) rfl rfl rfl ?_
    refine ku (τ:=Ptr) (i:=3) (enc:=cP) (val:=fun x=>pv x) el_SPtlb_Tlb gf cP_one (fun _=>rfl) (by omega) rfl rfl s7 rfl (by omega) (by omega) fun v h8 s8=>?_
    exact fin r v h8 s8
theorem new_start {s:gj} {b n:Nat} {pp pm pe:Ptr} {cs:Sl} {h:Hp}
    (st:aQ [blk b cq (fG.C (⟨pp,s.fEnvs,(⟨none,0,0,none⟩:Sl),pm,pe,cs,(⟨none,0,0,none⟩:Sl),0⟩:fG)),bG pp (PK.new s),jj pm (List.replicate n []),eZ pe ([],List.replicate n 0),vQ fu cs (List.replicate n none)] h):newI s b n pp pm pe cs 0 h:=by
  have s1:=ft (τ:=co) (T:=t_api_Event) (m:=16) (enc:=aO.C) (calls_nil n (ft (τ:=Ptr) (T:=sn) (m:=1) (enc:=cP) (all_nil (A:=fo) st)))
  exact ⟨0,⟨none,0,0,none⟩,[],rfl,Nat.zero_le _,rfl,bn [4,4,2,2,2,2,2,1] s1 rfl⟩
theorem new_end {s:gj} (hs:PK.sized s = true) {b n:Nat} (hn:s.fCores = n) {pp pm pe:Ptr} {cs:Sl} {h:Hp} (H:newI s b n pp pm pe cs n h):aQ [dc (some (b,0)) (KK.new s)] h:=by
  obtain ⟨j,ts,tp,hj,hj2,htp,s6⟩:=H
  have:j = n:=by omega
  subst this
  have ok:=kok_new hs
  have e:KK.new s = ⟨PK.new s,List.replicate j tlb0,List.replicate j [],([],List.replicate j 0),List.replicate j none,[],0⟩:=by unfold KK.new; rw [hn]; rfl
  rw [e] at ok ⊢
  exact lW (z:=⟨b,pp,ts,tp,pm,pe,cs,List.replicate j none,⟨none,0,0,none⟩⟩) ⟨by simpa using htp,by simp⟩ ok s6
theorem sp_kern_NewNo (s:gj) (hs:PK.sized s = false):Sp Tryz.prog sU [.agg s.C.toArray] oQ [] (fun r=>pa_ (r = none) []):=by
  intro h st
  refine sim_kern_New _ ?_
  unfold sh_kern_New
  refine rT (sp_plain_NewNo s hs) st fun r h1 hr s1=>?_
  subst hr
  exact df rfl (bh rfl trivial)
theorem sp_kern_New (s:gj) (hs:PK.sized s = true):Sp Tryz.prog sU [.agg s.C.toArray] oQ [] (fun r=>aQ [dc r (KK.new s)]):=by
  intro h st
  have hz:=fL.1 hs
  obtain ⟨n,hn⟩:=Int.eq_ofNat_of_zero_le (show 0 ≤ s.fCores by omega)
  have hn8:n ≤ 8:=by omega
  refine sim_kern_New _ ?_
  unfold sh_kern_New
  refine ma (rF s hs) st fun pp h1 s1=>?_
  have hpp:pp.isNone = false:=by
    obtain ⟨_,h2,_⟩:=fJ s1; rw [h2]; rfl
  refine dv hpp ?_
  have mk:∀ {l:List As} {h:Hp} {K:Sl→Hp→Prop},aQ l h→(∀ v h',aQ (vQ fu v (List.replicate n none)::l) h'→K v h')→hpv Tryz.prog (Instr.makeSlice mE (.int .i64 s.fCores) (.int .i64 s.fCores)) qi K h:=by
    intro l h K s2 k
    rw [hn]
    exact nF (τ:=Ptr) (x0:=none) (enc:=cP) (n:=n) (T:=fu) (m:=1) el_SPkern_call rfl s2 (by omega) (by omega) k
  have em:s.fCores.toNat = n:=by omega
  refine ⟨?_,?_⟩
  · refine ma (sp_mail_New s.fCores (by omega) (by omega)) s1 fun pm h2 s2=>?_
    refine ⟨?_,?_⟩
    · refine ma (rH s.fCores (by omega) (by omega)) s2 fun pe h3 s3=>?_
      rw [em] at s3
      refine mk s3 fun cs h4 s4=>?_
      refine oT s4 fun b h5 s5=>?_
      refine Lp.intro (fun (i:Int) h=>newI s b n pp pm pe cs i h) (fun (i:Int) _=>n - i.toNat) (new_start (bn [0,4,3,2,1] s5 rfl)) ?_
      intro i h H
      unfold kern_New_l1
      refine bk (fun d=>new_round hn8 H (by have:=of_decide_eq_true d; omega)) (fun d=>?_)
      have:i = n:=by obtain ⟨j,_,_,e,hj,_⟩:=H; have:=of_decide_eq_false d; omega
      subst this
      exact new_end hs hn H
    · refine mk s2 fun cs h3 s3=>?_
      refine ma (rH s.fCores (by omega) (by omega)) s3 fun pe h4 s4=>?_
      rw [em] at s4
      refine oT s4 fun b h5 s5=>?_
      refine Lp.intro (fun (i:Int) h=>newI s b n pp pm pe cs i h) (fun (i:Int) _=>n - i.toNat) (new_start (bn [0,3,2,0,0] s5 rfl)) ?_
      intro i h H
      unfold kern_New_l2
      refine bk (fun d=>new_round hn8 H (by have:=of_decide_eq_true d; omega)) (fun d=>?_)
      have:i = n:=by obtain ⟨j,_,_,e,hj,_⟩:=H; have:=of_decide_eq_false d; omega
      subst this
      exact new_end hs hn H
  · refine mk s1 fun cs h2 s2=>?_
    refine ma (sp_mail_New s.fCores (by omega) (by omega)) s2 fun pm h3 s3=>?_
    refine ma (rH s.fCores (by omega) (by omega)) s3 fun pe h4 s4=>?_
    rw [em] at s4
    refine oT s4 fun b h5 s5=>?_
    refine Lp.intro (fun (i:Int) h=>newI s b n pp pm pe cs i h) (fun (i:Int) _=>n - i.toNat) (new_start (bn [0,3,1,0,0] s5 rfl)) ?_
    intro i h H
    unfold kern_New_l3
    refine bk (fun d=>new_round hn8 H (by have:=of_decide_eq_true d; omega)) (fun d=>?_)
    have:i = n:=by obtain ⟨j,_,_,e,hj,_⟩:=H; have:=of_decide_eq_false d; omega
    subst this
    exact new_end hs hn H
end Go.Proofs.YtniiiakkdoiaiaaGreatDoor
namespace Go.Proofs.YtniiiakkdoiaiaaGreatDoor
open Go Mb
def CmpOk (v:Value) (A:List As) (key:Int→Int) (S:Int→Prop):Prop :=
  ∀ x y,S x→S y→SpV Tryz.prog v [.int .i64 x,.int .i64 y] dW A (fun r=>pa_ (r < 0↔key x < key y) A)
abbrev Up (key:Int→Int) (l:List Int):Prop:=l.Pairwise fun x y=>key x ≤ key y
theorem mid_get {L R:List Int} {x:Int}:(L++x::R)[L.length]? = some x:=by simp
theorem mid_get1 {L R:List Int} {x y:Int}:(L++x::y::R)[L.length + 1]? = some y:=by
  rw [List.getElem?_append_right (by omega),show L.length + 1 - L.length = 1 from by omega]; rfl
theorem mid_set {L R:List Int} {x v:Int}:(L++x::R).set L.length v = L++v::R:=by simp
theorem mid_set1 {L R:List Int} {x y v:Int}:(L++x::y::R).set (L.length + 1) v = L++x::v::R:=by
  rw [List.set_append_right _ _ (by omega),show L.length + 1 - L.length = 1 from by omega]; rfl
theorem up_insert {key:Int→Int} {a1 a2:List Int} {y:Int} (h:Up key (a1++a2)) (h1:∀ x ∈ a1,key x ≤ key y) (h2:∀ x ∈ a2,key y < key x):Up key (a1++y::a2):=by
  obtain ⟨p1,p2,p3⟩:=List.pairwise_append.1 h
  refine List.pairwise_append.2 ⟨p1,List.pairwise_cons.2 ⟨fun x hx=>Int.le_of_lt (h2 x hx),p2⟩,fun x hx z hz=>?_⟩
  rcases List.mem_cons.1 hz with rfl | hz
  · exact h1 x hx
  · exact p3 x hx z hz
theorem sp_insertion (s:Sl) (v:Value) (A:List As) (key:Int→Int) (S:Int→Prop) (hv:CmpOk v A key S) (p m q:List Int) (hS:∀ x ∈ m,S x) (hb:p.length + m.length + q.length < 2 ^ 60) :
    Sp Tryz.prog cg [sv s,.int .i64 p.length,.int .i64 (p.length + m.length:Nat),v] R_ (vI s (p++(m++q))::A) (fun _ h=>∃ m',(m'.Perm m∧Up key m')∧aQ (vI s (p++(m'++q))::A) h):=by
  intro h s0
  have hl:=(cn (j:=0) s0 rfl).1
  refine mF _ _ _ _ ?_
  unfold hY
  have hw0:IntKind.i64.wrap ((p.length:Int) + 1) = ((p.length + 1:Nat):Int):=by rw [cm (by omega) (by omega)]; rfl
  rw [hw0]
  cases m with
  | nil =>
    refine Lp.intro (fun (i:Int) h=>i = ((p.length + 1:Nat):Int)∧aQ (vI s (p++([]++q))::A) h) (fun _ _=>0) ⟨rfl,s0⟩ ?_
    rintro i h ⟨rfl,s1⟩
    unfold dK
    refine dv (by simp; omega) ?_
    exact ⟨[],⟨.refl _,.nil⟩,s1⟩
  | cons x0 t0 =>
    refine Lp.intro (fun (i:Int) h=>∃ a b:List Int,i = ((p.length + a.length:Nat):Int)∧Up key a∧(a++b).Perm (x0::t0)∧aQ (vI s (p++((a++b)++q))::A) h) (fun (i:Int) _=>p.length + (x0::t0).length - i.toNat) ⟨[x0],t0,rfl,List.pairwise_singleton _ _,.refl _,s0⟩ ?_
    rintro i h ⟨a,b,rfl,ha,hp,s1⟩
    have hlen:=hp.length_eq
    simp only [List.length_append] at hlen
    have hsl:=(cn (j:=0) s1 rfl).1
    unfold dK
    refine bk (fun k=>?_) (fun k=>?_)
    · have hbp:0 < b.length:=by have:=of_decide_eq_true k; omega
      obtain ⟨y,b',rfl⟩:=List.exists_cons_of_length_pos hbp
      have hS':∀ x ∈ a++y::b',S x:=fun x hx=>hS x (hp.subset hx)
      have hw1:IntKind.i64.wrap (((p.length + a.length:Nat):Int) + 1) = ((p.length + a.length + 1:Nat):Int):=by rw [cm (by omega) (by omega)]; rfl
      have out:∀ (a1 a2:List Int) (h:Hp),a1++a2 = a→(∀ x ∈ a1,key x ≤ key y)→(∀ x ∈ a2,key y < key x)→aQ (vI s (p++((a1++y::(a2++b'))++q))::A) h →
          (fun (s':Int) h'=>(∃ a b:List Int,s' = ((p.length + a.length:Nat):Int)∧Up key a∧(a++b).Perm (x0::t0)∧aQ (vI s (p++((a++b)++q))::A) h')∧p.length + (x0::t0).length - s'.toNat < p.length + (x0::t0).length - ((p.length + a.length:Nat):Int).toNat) (IntKind.i64.wrap (((p.length + a.length:Nat):Int) + 1)) h:=by
        intro a1 a2 h he h1 h2 s2
        subst he
        rw [hw1]
        refine ⟨⟨a1++y::a2,b',by simp; omega,up_insert ha h1 h2,?_,?_⟩,by simp at hlen ⊢; omega⟩
        · refine List.Perm.trans ?_ hp
          have:(a1++y::a2++b').Perm (a1++a2++y::b'):=by
            rw [List.append_assoc,List.append_assoc]
            refine List.Perm.append_left a1 ?_
            simpa using (List.perm_middle (a:=y) (l₁:=a2) (l₂:=b')).symm
          exact this
        · have:a1++y::a2++b' = a1++y::(a2++b'):=by simp
          rw [this]; exact s2
      refine Lp.intro (fun (j:Int) h=>∃ a1 a2:List Int,a1++a2 = a∧j = ((p.length + a1.length:Nat):Int)∧(∀ x ∈ a2,key y < key x)∧aQ (vI s (p++((a1++y::(a2++b'))++q))::A) h) (fun (j:Int) _=>j.toNat) ⟨a,[],by simp,rfl,fun x hx=>(by cases hx),by simpa using s1⟩ ?_
      rintro j h ⟨a1,a2,he,rfl,h2,s2⟩
      unfold eR
      refine bk (fun k2=>?_) (fun k2=>?_)
      · have hne:a1 ≠ []:=by
          intro e; subst e; simp at k2
        obtain ⟨L0,z,rfl⟩:∃ L z,a1 = L++[z]:=⟨a1.dropLast,a1.getLast hne,(List.dropLast_concat_getLast hne).symm⟩
        have hal:a.length = L0.length + 1 + a2.length:=by rw [← he]; simp; omega
        have hdec:p++((L0++[z]++y::(a2++b'))++q) = (p++L0)++z::y::(a2++b'++q):=by simp
        rw [hdec] at s2
        have hlL:(p++L0).length = p.length + L0.length:=by simp
        have hj:((p.length + (L0++[z]).length:Nat):Int) = (((p++L0).length + 1:Nat):Int):=by simp; omega
        rw [hj]
        have hsl2:=(cn (j:=0) s2 rfl).1
        have hw2:IntKind.i64.wrap ((((p++L0).length + 1:Nat):Int) - 1) = (((p++L0).length:Nat):Int):=by rw [cm (by omega) (by omega)]; omega
        rw [hw2]
        refine dF s2 (j:=0) rfl (by omega) (by simp; omega) fun q1 hq1=>?_
        refine dF s2 (j:=0) rfl (by omega) (by simp; omega) fun q2 hq2=>?_
        refine eB (j:=0) (i:=(p++L0).length + 1) (k:=0) y (dl _) s2 rfl hq1 (by rw [Int.toNat_natCast]; rfl) mid_get1 (by simp) ?_
        refine eB (j:=0) (i:=(p++L0).length) (k:=0) z (dl _) s2 rfl hq2 (by rw [Int.toNat_natCast]; rfl) mid_get (by simp) ?_
        have hSy:S y:=hS' y (by simp)
        have hSz:S z:=hS' z (by rw [← he]; simp)
        refine clv_t (hv y z hSy hSz) s2 fun r h3 s3=>?_
        obtain ⟨hr,s4⟩:=bH.1 s3
        have s5:=star_rot s4
        refine bk (fun k3=>?_) (fun k3=>?_)
        · have k3':key y < key z:=hr.1 (of_decide_eq_true k3)
          refine eB (j:=0) (i:=(p++L0).length) (k:=0) z (dl _) s5 rfl hq2 (by rw [Int.toNat_natCast]; rfl) mid_get (by simp) ?_
          refine eB (j:=0) (i:=(p++L0).length + 1) (k:=0) y (dl _) s5 rfl hq1 (by rw [Int.toNat_natCast]; rfl) mid_get1 (by simp) ?_
          refine st_v (j:=0) (i:=(p++L0).length + 1) (k:=0) z (dl _) s5 rfl hq1 (by rw [Int.toNat_natCast]; rfl) mid_get1 (by simp) rfl fun h6 s6=>?_
          rw [mid_set1] at s6
          refine st_v (j:=0) (i:=(p++L0).length) (k:=0) y (dl _) s6 rfl hq2 (by rw [Int.toNat_natCast]; rfl) mid_get (by simp) rfl fun h7 s7=>?_
          refine ⟨⟨L0,z::a2,by rw [← he]; simp,by rw [hlL],fun x hx=>?_,?_⟩,by simp only [Int.toNat_natCast]; omega⟩
          · rcases List.mem_cons.1 hx with rfl | hx
            · exact k3'
            · exact h2 x hx
          · have e2:p++((L0++y::(z::a2++b'))++q) = (p++L0)++y::z::(a2++b'++q):=by simp
            rw [e2]
            have s8:aQ (vI s (((p++L0)++z::z::(a2++b'++q)).set (p++L0).length y)::A) h7:=s7
            rw [mid_set] at s8
            exact s8
        · have k3':key z ≤ key y:=by
            have:¬ key y < key z:=fun hh=>by have:=hr.2 hh; simp at k3; omega
            omega
          refine out (L0++[z]) a2 h3 he (fun x hx=>?_) h2 (by rw [hdec]; exact s5)
          have hup:Up key (L0++[z]):=by
            rw [← he] at ha
            exact (List.pairwise_append.1 ha).1
          rcases List.mem_append.1 hx with hx | hx
          · have:=(List.pairwise_append.1 hup).2.2 x hx z (by simp)
            omega
          · rw [List.mem_singleton.1 hx]; exact k3'
      · have e:a1 = []:=by
          have:=of_decide_eq_false k2
          exact List.eq_nil_of_length_eq_zero (by omega)
        subst e
        exact out [] a2 h he (fun x hx=>by cases hx) h2 s2
    · have hb0:b = []:=by
        have:=of_decide_eq_false k
        exact List.eq_nil_of_length_eq_zero (by omega)
      subst hb0
      rw [List.append_nil] at hp s1
      exact ⟨a,⟨hp,ha⟩,s1⟩
theorem sp_SortStable20 (s:Sl) (v:Value) (A:List As) (key:Int→Int) (S:Int→Prop) (hv:CmpOk v A key S) (m:List Int) (hS:∀ x ∈ m,S x) (hb:m.length ≤ 20) :
    Sp Tryz.prog fI [sv s,v] R_ (vI s m::A) (fun _ h=>∃ m',(m'.Perm m∧Up key m')∧aQ (vI s m'::A) h):=by
  intro h s0
  have hl:=(cn (j:=0) s0 rfl).1
  refine nS _ _ ?_
  unfold iL
  unfold cl
  refine qQ _ _ _ ?_
  unfold kL
  rw [hl]
  have ins:∀ (p m q:List Int) (h:Hp) (K:Unit→Hp→Prop),(∀ x ∈ m,S x)→p.length + m.length + q.length < 2 ^ 60→aQ (vI s (p++(m++q))::A) h→(∀ m' h',m'.Perm m→Up key m'→aQ (vI s (p++(m'++q))::A) h'→K () h') →
      cl Tryz.prog cg [sv s,.int .i64 p.length,.int .i64 (p.length + m.length:Nat),v] R_ K h:=by
    intro p m q h K h1 h2 s1 k
    refine (sp_insertion s v A key S hv p m q h1 h2 h s1).mono ?_
    rintro u h' ⟨r,e,m',⟨p1,p2⟩,s2⟩
    exact ⟨r,e,k m' h' p1 p2 s2⟩
  have tail:∀ (m':List Int) (h:Hp),m'.length = m.length→Up key m'→m'.Perm m→aQ (vI s m'::A) h→Lp (dr (s) (m.length:Int) v (fun _ h'=>∃ m',(m'.Perm m∧Up key m')∧aQ (vI s m'::A) h')) 20 h:=by
    intro m' h hlm hu hp s1
    refine Lp.intro (fun (i:Int) h=>i = 20∧aQ (vI s m'::A) h) (fun _ _=>0) ⟨rfl,s1⟩ ?_
    rintro i h ⟨rfl,s2⟩
    unfold dr
    refine dv (by simp; omega) ?_
    exact ⟨m',⟨hp,hu⟩,s2⟩
  refine Lp.intro (fun (z:Int × Int) h=>(z = (0,20)∧aQ (vI s m::A) h)∨(z = (20,40)∧m.length = 20∧∃ m',(m'.Perm m∧Up key m')∧aQ (vI s m'::A) h)) (fun (z:Int × Int) _=>(40 - z.2).toNat) (.inl ⟨rfl,s0⟩) ?_
  rintro z h (⟨rfl,s1⟩ | ⟨rfl,h20,m',⟨hp,hu⟩,s1⟩)
  · unfold fh
    refine bk (fun k=>?_) (fun k=>?_)
    · have h20:m.length = 20:=by have:=of_decide_eq_true k; omega
      have e:(20:Int) = ((([]:List Int).length + m.length:Nat):Int):=by simp [h20]
      show cl Tryz.prog cg [sv s,.int .i64 0,.int .i64 20,v] R_ _ h
      rw [e]
      refine ins [] m [] h _ hS (by simp; omega) (by simpa using s1) fun m' h' hp hu s2=>?_
      refine ⟨.inr ⟨?_,h20,m',⟨hp,hu⟩,by simpa using s2⟩,?_⟩
      · rw [← e]; rw [cm (by omega) (by omega)]; rfl
      · rw [← e]; rw [cm (by omega) (by omega)]; decide
    · have e:(m.length:Int) = ((([]:List Int).length + m.length:Nat):Int):=by simp
      show cl Tryz.prog cg [sv s,.int .i64 0,.int .i64 (m.length:Int),v] R_ _ h
      have:=ins [] m [] h (fun _=>Lp (dr s (m.length:Int) v (fun _ h'=>∃ m',(m'.Perm m∧Up key m')∧aQ (vI s m'::A) h')) 20) hS (by simp; omega) (by simpa using s1) fun m' h' hp hu s2=>tail m' h' hp.length_eq hu hp (by simpa using s2)
      rw [← e] at this
      exact this
  · unfold fh
    refine dv (by rw [h20]; rfl) ?_
    have hml:m'.length = 20:=hp.length_eq.trans h20
    have e:(m.length:Int) = ((m'.length + ([]:List Int).length:Nat):Int):=by simp [h20,hml]
    have e2:(20:Int) = (m'.length:Int):=by omega
    show cl Tryz.prog cg [sv s,.int .i64 20,.int .i64 (m.length:Int),v] R_ _ h
    have:=ins m' [] [] h (fun _=>Lp (dr s (m.length:Int) v (fun _ h'=>∃ m',(m'.Perm m∧Up key m')∧aQ (vI s m'::A) h')) 20) (fun x hx=>by cases hx) (by simp; omega) (by simpa using s1) fun m2 h' hp2 hu2 s2=>by
      have:m2 = []:=hp2.eq_nil
      subst this
      exact tail m' h' hp.length_eq hu hp (by simpa using s2)
    rw [← e,← e2] at this
    exact this
end Go.Proofs.YtniiiakkdoiaiaaGreatDoor
namespace Go.Proofs.YtniiiakkdoiaiaaGreatDoor
open Go Mb
set_option linter.unusedVariables false
def hist_May_l1 (a0:Sl) (a1:aM) (K:Bool→Hp→Prop) (v12:(Option Nat)) (v13:(Option Nat)) (Rec4:(Int × Int)→Hp→Prop) (s3:Int × Int):Hp→Prop:=br (decide (s3.2 < (a0.len:Int))) ( ix a0 s3.2 fun q18=>ld (q18.1,q18.2 + Int.toNat s3.2 * 16) aO.C fun x19=>br ((!(!(fD x19 a1 s3.1))) && (decide (x19.fEffect > 0))) ( hpv Tryz.prog (Instr.lookup jq (.map v12) (.int .i64 x19.fEffect) false) aG fun (v33:Bool)=>br v33 ( K false) ( hpv Tryz.prog (Instr.lookup gT (.map v13) (.int .i64 x19.fCore) true) bZ fun (v40:Int × Bool)=>br (v40.2 && ((decide (v40.1 ≤ 0)) || (decide (x19.fBegin ≤ v40.1)))) ( K false) ( hpu Tryz.prog (Instr.mapUpdate jq (.map v12) (.int .i64 x19.fEffect) (.bool true))<|hpu Tryz.prog (Instr.mapUpdate gT (.map v13) (.int .i64 x19.fCore) (.int .i64 x19.fEnd))<|Rec4 (x19.fBegin,(IntKind.i64.wrap (s3.2 + 1)))))) ( br ((!(fD x19 a1 s3.1)) || false) ( K false) ( hpv Tryz.prog (Instr.lookup gT (.map v13) (.int .i64 x19.fCore) true) bZ fun (v40:Int × Bool)=>br (v40.2 && ((decide (v40.1 ≤ 0)) || (decide (x19.fBegin ≤ v40.1)))) ( K false) ( hpu Tryz.prog (Instr.mapUpdate jq (.map v12) (.int .i64 x19.fEffect) (.bool true))<|hpu Tryz.prog (Instr.mapUpdate gT (.map v13) (.int .i64 x19.fCore) (.int .i64 x19.fEnd))<|Rec4 (x19.fBegin,(IntKind.i64.wrap (s3.2 + 1))))))) ( K true)
def sh_hist_May (a0:Sl) (a1:aM) (K:Bool→Hp→Prop):Hp→Prop:=hpv Tryz.prog (Instr.makeMap jq none) R_map_int_bool fun (v12:(Option Nat))=>hpv Tryz.prog (Instr.makeMap gT none) R_map_int_int fun (v13:(Option Nat))=>Lp (hist_May_l1 a0 a1 K v12 v13) (0,0)
set_option maxRecDepth 20000 in
theorem sim_hist_May (a0:Sl) (a1:aM) {K:Bool→Hp→Prop} {h:Hp} (H:sh_hist_May a0 a1 K h):Ct Tryz.prog wE #[(sv a0),(.agg (aM.C a1).toArray)] h fun v h'=>∃ r,v = aG r∧K r h':=aC [(sv a0),(.agg (aM.C a1).toArray)] Tryz.func19 rfl rfl rfl fun _=>ag<|ab<|aj (cH (l:=(aM.C a1)) rfl rfl rfl fun b3=>aa (ae rfl) rfl<|ad<|ag<|ab<|aj (be H (x_makeMap0) rfl fun v12 _ H1=>aj (be H1 (x_makeMap0) rfl fun v13 _ H2=>aa (ae rfl) rfl<|aa (ae rfl) rfl<|aa (ae rfl) rfl<|ad<|ag<|ag<|ab<|aa (ac rfl) rfl<|aa (dH rfl Tryz.underlying39 rfl) rfl<|aa (ac rfl) rfl<|ad<|aF<|bS (step:=hist_May_l1 a0 a1 K v12 v13) (fun s3=>[(3,(.pointer (some ⟨b3,0,none⟩))),(5,(.int .i64 s3.1)),(6,(.map v12)),(7,(.map v13)),(14,(sv a0)),(15,(.int .i64 (a0.len:Int))),(16,(.int .i64 s3.2))]) (fun s3=>[bx b3 35 (aM.C a1)]) H2 (.cons rfl (.cons rfl (.cons rfl (.cons rfl (.cons rfl (.cons rfl (.cons rfl (.nil _)))))))) (.cons_cons _ .slnil) (fun Rec4 s3 _ H5=>ag<|ab<|aa (cA rfl rfl) rfl<|ad<|ag<|aD rfl H5 (fun k6 H7=>au<|ag<|aF<|ag<|ab<|cu H7 fun q18 e8 h9 H10=>aa (bC kT (aX rfl (bm e8)) rfl h9) rfl<|aj (gL H10 ag_51 rfl (fun _=>rfl) rfl fun x19 H11=>aj (bb (l:=(aO.C (⟨0,0,(⟨0,0,0,0,0⟩:ao),0,0,0,(⟨0,0⟩:ak),(⟨0,0,0,0⟩:ar)⟩:aO))) zero_51 rfl rfl fun b9=>aj (bc (k:=0) (vs:=(aO.C x19)) inf_51 rfl rfl rfl rfl rfl rfl rfl<|ad<|ag<|ag<|ab<|bz (bO (k:=0) ag_51 rfl rfl rfl rfl) rfl<|bz (bO (k:=1) py rfl rfl rfl rfl) rfl<|aa (ac rfl) rfl<|aj (cL (vs:=[(.agg (aO.C x19).toArray),(.agg (aM.C a1).toArray),(.int .i64 s3.1)]) (bI (ct_hist_one x19 a1 s3.1 _)) en_52 rfl rfl<|aa (cw rfl) rfl<|aa (ac rfl) rfl<|ai rfl rfl rfl (aS _) (fun g12=>wv (am ik rfl)) rfl<|ai rfl rfl rfl (aS _) (fun g13=>cv (bq (k:=0) bj (aK rfl g13) rfl rfl)) rfl<|ai rfl rfl rfl (aS _) (fun g14=>wv (ql (aK rfl g14) rfl)) rfl<|ai rfl rfl rfl (aS _) (fun g15=>wv (ac (aK rfl g15))) rfl<|ai rfl rfl rfl (rc _ _) (fun g16=>wv (ac rfl)) rfl<|ai rfl rfl rfl (rc _ _) (fun g17=>wv (am ik rfl)) rfl<|ai rfl rfl rfl (rc _ _) (fun g18=>cv (bq (k:=0) bj (aK rfl g18) rfl rfl)) rfl<|bW H11 (fun k20 H21=>aI rfl rfl rfl ((gv_t (b_l k20) _).trans (congrArg Value.bool (b_r k20))) (be H21 (x_lookup (aK rfl k20) (aK rfl k20)) rfl fun v33 _ H22=>aI rfl rfl rfl (congrArg Value.bool (bL (b_l k20))) (aN (wv (aT (aK rfl (b_l k20)) (b_r k20) rfl)) rfl<|aa (ax rfl (bL (b_l k20)) rfl) rfl<|ad<|aD rfl H22 (fun k23 H24=>ag<|ab<|aa (ae rfl) rfl<|ad<|an<|av (az rfl (aE rfl)) ⟨false,rfl,H24⟩) (fun k23 H24=>au<|ag<|ag<|ab<|aa (ac rfl) rfl<|aa (am qI rfl) rfl<|bz (bq (k:=0) bj rfl rfl rfl) rfl<|aj (be H24 (x_lookup rfl rfl) rfl fun v40 _ H25=>aa (ac rfl) rfl<|aa (ap rfl rfl) rfl<|aa (ap rfl rfl) rfl<|aa (ae rfl) rfl<|aa (ae rfl) rfl<|ad<|ag<|ab<|aa (ac rfl) rfl<|aa (ac rfl) rfl<|ai rfl rfl rfl (aB _) (fun g26=>wv (ac rfl)) rfl<|ai rfl rfl rfl (aB _) (fun g27=>wv (uF (aK rfl g27) rfl)) rfl<|ai rfl rfl rfl (aB _) (fun g28=>wv (ac (aK rfl g28))) rfl<|ai rfl rfl rfl (dX _ _) (fun g29=>wv (am qH rfl)) rfl<|ai rfl rfl rfl (dX _ _) (fun g30=>cv (bq (k:=0) bj (aK rfl g30) rfl rfl)) rfl<|ai rfl rfl rfl (dX _ _) (fun g31=>wv (ac rfl)) rfl<|ai rfl rfl rfl (dX _ _) (fun g32=>wv (uF (aK rfl g32) (aK rfl g32))) rfl<|ai rfl rfl rfl (aB _) (fun g33=>wv (du (aK rfl g33) (aX rfl (wM g33)))) rfl<|aa (bX rfl rfl) rfl<|ad<|aD rfl H25 (fun k34 H35=>ag<|ab<|aa (ae rfl) rfl<|ad<|an<|av (az rfl (aE rfl)) ⟨false,rfl,H35⟩) (fun k34 H35=>au<|bE (n:=13) [bx b9 51 (aO.C x19)] cy rfl (.cons_cons _ (.cons _ .slnil))<|ah (i:=0) (fun _ _ _ _=>id) rfl (by kernel_rfl) rfl (ve (ac rfl))<|ah (i:=1) (fun _ _ _ _=>id) rfl (by kernel_rfl) rfl (ve (am ik rfl))<|ah (i:=2) (fun _ _ _ _=>id) rfl (by kernel_rfl) rfl (dn (k:=0) bj rfl rfl rfl)<|ah (i:=3) (fun _ _ _ _=>id) rfl (by kernel_rfl) rfl (ve (ac rfl))<|ah (i:=4) (fun _ _ _ _=>id) rfl (by kernel_rfl) rfl (ve (am qI rfl))<|ah (i:=5) (fun _ _ _ _=>id) rfl (by kernel_rfl) rfl (dn (k:=0) bj rfl rfl rfl)<|ah (i:=6) (fun _ _ _ _=>id) rfl (by kernel_rfl) rfl (ve (am qH rfl))<|ah (i:=7) (fun _ _ _ _=>id) rfl (by kernel_rfl) rfl (dn (k:=0) bj rfl rfl rfl)<|ah (i:=8) (fun _ _ _ _=>id) rfl (by kernel_rfl) rfl (ve (am oM rfl))<|ah (i:=9) (fun _ _ _ _=>id) rfl (by kernel_rfl) rfl (dn (k:=0) bj rfl rfl rfl)<|ah (i:=10) (fun _ _ _ _=>id) rfl (by kernel_rfl) rfl (ve (ae rfl))<|bg (i:=11) (by kernel_rfl) (aJ rfl rfl (to_hpu H35 (tB rfl rfl rfl) fun _ H36=>⟨(.cons_cons _ (.cons _ .slnil)),bg (i:=12) (by kernel_rfl) (aJ rfl rfl (to_hpu H36 (tB rfl rfl rfl) fun _ H37=>⟨(.cons_cons _ (.cons _ .slnil)),bd (by kernel_rfl)<|ab<|aa (bM rfl rfl) rfl<|aa (ac rfl) rfl<|ad<|cW (x19.fBegin,(IntKind.i64.wrap (s3.2 + 1))) H37 (.cons rfl (.cons rfl (.cons rfl (.cons rfl (.cons rfl (.cons rfl (.cons rfl (.nil _)))))))) (.cons _ (.cons_cons _ .slnil))⟩))⟩)))))))) (fun k20 H21=>al rfl rfl rfl ((rc _ _).trans k20) rfl<|ai rfl rfl rfl (aS _) (fun g38=>wv (ax (aK rfl g38) (b_andr k20 g38) rfl)) rfl<|aa (du rfl rfl) rfl<|ad<|aD rfl H21 (fun k39 H40=>ag<|ab<|aa (ae rfl) rfl<|ad<|an<|av (az rfl (aE rfl)) ⟨false,rfl,H40⟩) (fun k39 H40=>au<|ag<|ag<|ab<|aa (ac rfl) rfl<|aa (am qI rfl) rfl<|bz (bq (k:=0) bj rfl rfl rfl) rfl<|aj (be H40 (x_lookup rfl rfl) rfl fun v40 _ H41=>aa (ac rfl) rfl<|aa (ap rfl rfl) rfl<|aa (ap rfl rfl) rfl<|aa (ae rfl) rfl<|aa (ae rfl) rfl<|ad<|ag<|ab<|aa (ac rfl) rfl<|aa (ac rfl) rfl<|ai rfl rfl rfl (aB _) (fun g42=>wv (ac rfl)) rfl<|ai rfl rfl rfl (aB _) (fun g43=>wv (uF (aK rfl g43) rfl)) rfl<|ai rfl rfl rfl (aB _) (fun g44=>wv (ac (aK rfl g44))) rfl<|ai rfl rfl rfl (dX _ _) (fun g45=>wv (am qH rfl)) rfl<|ai rfl rfl rfl (dX _ _) (fun g46=>cv (bq (k:=0) bj (aK rfl g46) rfl rfl)) rfl<|ai rfl rfl rfl (dX _ _) (fun g47=>wv (ac rfl)) rfl<|ai rfl rfl rfl (dX _ _) (fun g48=>wv (uF (aK rfl g48) (aK rfl g48))) rfl<|ai rfl rfl rfl (aB _) (fun g49=>wv (du (aK rfl g49) (aX rfl (wM g49)))) rfl<|aa (bX rfl rfl) rfl<|ad<|aD rfl H41 (fun k50 H51=>ag<|ab<|aa (ae rfl) rfl<|ad<|an<|av (az rfl (aE rfl)) ⟨false,rfl,H51⟩) (fun k50 H51=>au<|bE (n:=13) [bx b9 51 (aO.C x19)] cy rfl (.cons_cons _ (.cons _ .slnil))<|ah (i:=0) (fun _ _ _ _=>id) rfl (by kernel_rfl) rfl (ve (ac rfl))<|ah (i:=1) (fun _ _ _ _=>id) rfl (by kernel_rfl) rfl (ve (am ik rfl))<|ah (i:=2) (fun _ _ _ _=>id) rfl (by kernel_rfl) rfl (dn (k:=0) bj rfl rfl rfl)<|ah (i:=3) (fun _ _ _ _=>id) rfl (by kernel_rfl) rfl (ve (ac rfl))<|ah (i:=4) (fun _ _ _ _=>id) rfl (by kernel_rfl) rfl (ve (am qI rfl))<|ah (i:=5) (fun _ _ _ _=>id) rfl (by kernel_rfl) rfl (dn (k:=0) bj rfl rfl rfl)<|ah (i:=6) (fun _ _ _ _=>id) rfl (by kernel_rfl) rfl (ve (am qH rfl))<|ah (i:=7) (fun _ _ _ _=>id) rfl (by kernel_rfl) rfl (dn (k:=0) bj rfl rfl rfl)<|ah (i:=8) (fun _ _ _ _=>id) rfl (by kernel_rfl) rfl (ve (am oM rfl))<|ah (i:=9) (fun _ _ _ _=>id) rfl (by kernel_rfl) rfl (dn (k:=0) bj rfl rfl rfl)<|ah (i:=10) (fun _ _ _ _=>id) rfl (by kernel_rfl) rfl (ve (ae rfl))<|bg (i:=11) (by kernel_rfl) (aJ rfl rfl (to_hpu H51 (tB rfl rfl rfl) fun _ H52=>⟨(.cons_cons _ (.cons _ .slnil)),bg (i:=12) (by kernel_rfl) (aJ rfl rfl (to_hpu H52 (tB rfl rfl rfl) fun _ H53=>⟨(.cons_cons _ (.cons _ .slnil)),bd (by kernel_rfl)<|ab<|aa (bM rfl rfl) rfl<|aa (ac rfl) rfl<|ad<|cW (x19.fBegin,(IntKind.i64.wrap (s3.2 + 1))) H53 (.cons rfl (.cons rfl (.cons rfl (.cons rfl (.cons rfl (.cons rfl (.cons rfl (.nil _)))))))) (.cons _ (.cons_cons _ .slnil))⟩))⟩))))))))))) (fun k6 H7=>bD<|ag<|ab<|aa (ae rfl) rfl<|ad<|an<|av (az rfl (aE rfl)) ⟨true,rfl,H7⟩)))))
def sZ (a0:Sl) (a1:Value) (K:Sl→Hp→Prop) (Rec2:(Sl × Int)→Hp→Prop) (s1:Sl × Int):Hp→Prop:=br (decide (s1.2 < (a0.len:Int))) ( ix a0 s1.2 fun q13=>ld (q13.1,q13.2 + Int.toNat s1.2 * 16) aO.C fun x14=>clv Tryz.prog a1 [(.agg (aO.C x14).toArray)] aG fun r17=>br r17 ( hpv Tryz.prog (Instr.buildSlice dN 1 #[(0,(.int .i64 s1.2))]) cG fun (v20:Sl)=>hpv Tryz.prog (Builtin.append_ #[dN,dN] dN #[(sv s1.1),(sv v20)]) cG fun (v21:Sl)=>Rec2 (v21,(IntKind.i64.wrap (s1.2 + 1)))) ( Rec2 (s1.1,(IntKind.i64.wrap (s1.2 + 1))))) ( K s1.1)
def sh_hist_places (a0:Sl) (a1:Value) (K:Sl→Hp→Prop):Hp→Prop:=Lp (sZ a0 a1 K) ((⟨none,0,0,none⟩:Sl),0)
set_option maxRecDepth 20000 in
theorem sim_hist_places (a0:Sl) (a1:Value) {K:Sl→Hp→Prop} {h:Hp} (H:sh_hist_places a0 a1 K h):Ct Tryz.prog qe #[(sv a0),a1] h fun v h'=>∃ r,v = cG r∧K r h':=aC [(sv a0),a1] Tryz.func53 rfl rfl rfl fun _=>ag<|ab<|aa (ae rfl) rfl<|ad<|ag<|ab<|aa (ae rfl) rfl<|ad<|ag<|ag<|ab<|aa (ac rfl) rfl<|aa (dH rfl Tryz.underlying39 rfl) rfl<|aa (ac rfl) rfl<|ad<|aF<|bS (step:=sZ a0 a1 K) (fun s1=>[(1,a1),(5,(sv s1.1)),(8,(sv a0)),(9,(.int .i64 (a0.len:Int))),(10,(.int .i64 s1.2))]) (fun s1=>[]) H (.cons rfl (.cons rfl (.cons rfl (.cons rfl (.cons rfl (.nil _)))))) .slnil (fun Rec2 s1 _ H3=>ag<|ab<|aa (cA rfl rfl) rfl<|ad<|ag<|aD rfl H3 (fun k4 H5=>au<|ag<|aF<|ag<|ab<|aa (ac rfl) rfl<|cu H5 fun q13 e6 h7 H8=>aa (bC kT (aX rfl (bm e6)) rfl h7) rfl<|aj (gL H8 ag_51 rfl (fun _=>rfl) rfl fun x14 H9=>aj (bb (l:=(aO.C (⟨0,0,(⟨0,0,0,0,0⟩:ao),0,0,0,(⟨0,0⟩:ak),(⟨0,0,0,0⟩:ar)⟩:aO))) zero_51 rfl rfl fun b7=>aa (ae rfl) rfl<|aj (bc (k:=0) (vs:=(aO.C x14)) inf_51 rfl rfl rfl rfl rfl rfl rfl<|ad<|ag<|ab<|aa (ac rfl) rfl<|bz (bO (k:=0) ag_51 rfl rfl rfl rfl) rfl<|aj (to_clv H9 rfl rfl rfl fun r17 _ H10=>ad<|aD rfl H10 (fun k11 H12=>ab<|aa (ac rfl) rfl<|aa (ac rfl) rfl<|aj (be H12 (bK (vs:=[(.int .i64 s1.2)]) rfl) rfl fun v20 _ H13=>aj (be H13 (dM rfl rfl) rfl fun v21 _ H14=>aa (ae rfl) rfl<|ad<|ab<|aa (bM rfl rfl) rfl<|aa (ac rfl) rfl<|ad<|cW (v21,(IntKind.i64.wrap (s1.2 + 1))) H14 (.cons rfl (.cons rfl (.cons rfl (.cons rfl (.cons rfl (.nil _)))))) (.cons _ .slnil)))) (fun k11 H12=>au<|ab<|aa (bM rfl rfl) rfl<|aa (ac rfl) rfl<|ad<|cW (s1.1,(IntKind.i64.wrap (s1.2 + 1))) H12 (.cons rfl (.cons rfl (.cons rfl (.cons rfl (.cons rfl (.nil _)))))) (.cons _ .slnil))))))) (fun k4 H5=>bD<|ag<|ab<|aa (ac rfl) rfl<|aa (ae rfl) rfl<|ad<|an<|av (az rfl (aE rfl)) ⟨s1.1,rfl,H5⟩))
def uY (a0:Int) (a1:Int) (c0:Nat) (K:Int→Hp→Prop):Hp→Prop:=ld (c0,0) cS fun x6=>ix x6 a0 fun q8=>ld (q8.1,q8.2 + Int.toNat a0 * 16 + 8) (cI .i64) fun x10=>ld (c0,0) cS fun x11=>ix x11 a1 fun q13=>ld (q13.1,q13.2 + Int.toNat a1 * 16 + 8) (cI .i64) fun x15=>K (fM x10 x15)
set_option maxRecDepth 20000 in
theorem sim_hist_Order_c2 (a0:Int) (a1:Int) (c0:Nat) {K:Int→Hp→Prop} {h:Hp} (H:uY a0 a1 c0 K h):Ct Tryz.prog qW #[(.int .i64 a0),(.int .i64 a1),(.pointer (some ⟨c0,0,none⟩))] h fun v h'=>∃ r,v = dW r∧K r h':=aC [(.int .i64 a0),(.int .i64 a1),(.pointer (some ⟨c0,0,none⟩))] Tryz.func58 rfl rfl rfl fun _=>ag<|ab<|aa (ae rfl) rfl<|ad<|ag<|bE (n:=12) [] cy rfl .slnil<|ah (i:=1) (fun _ _ _ _=>id) rfl (by kernel_rfl) rfl (ve (ac rfl))<|ah (i:=6) (fun _ _ _ _=>id) rfl (by kernel_rfl) rfl (ve (ac rfl))<|bR (i:=0) (fun _ _ _ _=>id) H rfl (by kernel_rfl) sc_39 rfl (fun _=>rfl) rfl fun x6 H1=>fR H1 fun q8 e2 h3 H4=>ah (i:=2) (fun _ _ _ _=>id) rfl (by kernel_rfl) rfl (ve (bC kT (aX rfl (bm e2)) rfl h3))<|ah (i:=3) (fun _ _ _ _=>id) rfl (by kernel_rfl) rfl (ve (am ik rfl))<|bR (i:=4) (fun _ _ _ _=>id) H4 rfl (by kernel_rfl) bj rfl (fun _=>rfl) rfl fun x10 H5=>bR (i:=5) (fun _ _ _ _=>id) H5 rfl (by kernel_rfl) sc_39 rfl (fun _=>rfl) rfl fun x11 H6=>fR H6 fun q13 e7 h8 H9=>ah (i:=7) (fun _ _ _ _=>id) rfl (by kernel_rfl) rfl (ve (bC kT (aX rfl (bm e7)) rfl h8))<|ah (i:=8) (fun _ _ _ _=>id) rfl (by kernel_rfl) rfl (ve (am ik rfl))<|bR (i:=9) (fun _ _ _ _=>id) H9 rfl (by kernel_rfl) bj rfl (fun _=>rfl) rfl fun x15 H10=>bg (i:=10) (by kernel_rfl) (aJ rfl rfl (cL (vs:=[(.int .i64 x10),(.int .i64 x15)]) (bI (ct_cmp_Compare_int x10 x15 _)) en_59 rfl rfl<|⟨.slnil,ah (i:=11) (fun _ _ _ _=>id) rfl (by kernel_rfl) rfl (ve (ae rfl))<|bd (by kernel_rfl)<|an<|av (az rfl (aE rfl)) ⟨(fM x10 x15),rfl,H10⟩⟩))
def sh_hist_Order (a0:Sl) (K:Sl→Hp→Prop):Hp→Prop:=nw eO [sv a0] fun b1=>ld (b1,0) cS fun x4=>cl Tryz.prog qe [(sv x4),(.func (.func mU) #[] #[])] cG fun r5=>cl Tryz.prog fI [(sv r5),(.func (.func qW) #[] #[(.pointer (some ⟨b1,0,none⟩))])] R_ fun (_:Unit)=>K r5
set_option maxRecDepth 20000 in
theorem sim_hist_Order (a0:Sl) {K:Sl→Hp→Prop} {h:Hp} (H:sh_hist_Order a0 K h):Ct Tryz.prog oG #[(sv a0)] h fun v h'=>∃ r,v = cG r∧K r h':=aC [(sv a0)] Tryz.func26 rfl rfl rfl fun _=>ag<|ab<|aj (hU rfl rfl rfl H fun b1 _ H1=>aa (ae rfl) rfl<|ad<|ag<|ab<|aj (bf H1 sc_39 rfl (fun _=>rfl) rfl fun x4 H2=>aj (aA H2 en_53 rfl rfl fun r5 _ H3=>aa (ae rfl) rfl<|ad<|ag<|ab<|aa (ac rfl) rfl<|aa (v_func rfl rfl) rfl<|aj (aA H3 en_57 rfl rfl fun r8 _ H4=>ad<|ag<|ab<|aa (ac rfl) rfl<|aa (ae rfl) rfl<|ad<|an<|av (az rfl (aE rfl)) ⟨r5,rfl,H4⟩))))
def sh_hist_Over_c1 (a0:aO) (c0:Nat) (K:Bool→Hp→Prop):Hp→Prop:=ld (c0,0) (cI .i64) fun x6=>br ((decide (a0.fBegin ≤ x6)) && (!(a0.fEffect == 0))) ( ld (c0,0) (cI .i64) fun x15=>K (decide (a0.fEffect > x15))) ( K ((decide (a0.fBegin ≤ x6)) && true))
set_option maxRecDepth 20000 in
theorem sim_hist_Over_c1 (a0:aO) (c0:Nat) {K:Bool→Hp→Prop} {h:Hp} (H:sh_hist_Over_c1 a0 c0 K h):Ct Tryz.prog sV #[(.agg (aO.C a0).toArray),(.pointer (some ⟨c0,0,none⟩))] h fun v h'=>∃ r,v = aG r∧K r h':=aC [(.agg (aO.C a0).toArray),(.pointer (some ⟨c0,0,none⟩))] Tryz.func54 rfl rfl rfl fun _=>ag<|ab<|aj (cH (l:=(aO.C a0)) rfl rfl rfl fun b2=>aa (ae rfl) rfl<|ad<|ag<|ab<|aa (am qH rfl) rfl<|bz (bq (k:=0) bj rfl rfl rfl) rfl<|aj (bf H bj rfl (fun _=>rfl) rfl fun x6 H1=>aa (uF rfl rfl) rfl<|aa (ac rfl) rfl<|ai rfl rfl rfl (aB _) (fun g2=>wv (am ik rfl)) rfl<|ai rfl rfl rfl (aB _) (fun g3=>cv (bq (k:=0) bj (aK rfl g3) rfl rfl)) rfl<|ai rfl rfl rfl (aB _) (fun g4=>wv (cc (aK rfl g4) rfl)) rfl<|ai rfl rfl rfl (aB _) (fun g5=>wv (ac (aK rfl g5))) rfl<|ai rfl rfl rfl (dX _ _) (fun g6=>wv (am ik rfl)) rfl<|ai rfl rfl rfl (dX _ _) (fun g7=>cv (bq (k:=0) bj (aK rfl g7) rfl rfl)) rfl<|bW H1 (fun k9 H10=>aI rfl rfl rfl ((gv_t (b_l k9) _).trans (congrArg Value.bool (bL (b_r k9)))) (bf H10 bj rfl (fun _=>rfl) rfl fun x15 H11=>aI rfl rfl rfl ((gv_t (b_l k9) _).trans (congrArg Value.bool (bL (b_r k9)))) (aN (wv (ql (aK rfl k9) rfl)) rfl<|aI rfl rfl rfl (congrArg Value.bool (b_l k9)) (aN (wv (ax (aK rfl (b_l k9)) (bL (b_r k9)) rfl)) rfl<|aa (aT rfl (b_l k9) rfl) rfl<|aa (ae rfl) rfl<|ad<|an<|av (az rfl (aE rfl)) ⟨(decide (a0.fEffect > x15)),rfl,H11⟩)))) (fun k9 H10=>al rfl rfl rfl ((dX _ _).trans k9) rfl<|al rfl rfl rfl ((dX _ _).trans k9) rfl<|ai rfl rfl rfl (aB _) (fun g12=>wv (aT (aK rfl g12) (bp (b_andr k9 g12)) rfl)) rfl<|aa (bX rfl rfl) rfl<|aa (ae rfl) rfl<|ad<|an<|av (az rfl (aE rfl)) ⟨((decide (a0.fBegin ≤ x6)) && true),rfl,H10⟩)))
def sh_hist_Over (a0:Sl) (a1:Int) (K:Sl→Hp→Prop):Hp→Prop:=nw kJ [.int .i64 a1] fun b3=>cl Tryz.prog qe [(sv a0),(.func (.func sV) #[] #[(.pointer (some ⟨b3,0,none⟩))])] cG fun r7=>K r7
set_option maxRecDepth 20000 in
theorem sim_hist_Over (a0:Sl) (a1:Int) {K:Sl→Hp→Prop} {h:Hp} (H:sh_hist_Over a0 a1 K h):Ct Tryz.prog n_hist_Over #[(sv a0),(.int .i64 a1)] h fun v h'=>∃ r,v = cG r∧K r h':=aC [(sv a0),(.int .i64 a1)] Tryz.func21 rfl rfl rfl fun _=>ag<|ab<|aj (hU rfl rfl rfl H fun b3 _ H1=>aa (ae rfl) rfl<|ad<|ag<|ab<|aa (ac rfl) rfl<|aa (v_func rfl rfl) rfl<|aj (aA H1 en_53 rfl rfl fun r7 _ H2=>aa (ae rfl) rfl<|ad<|an<|av (az rfl (aE rfl)) ⟨r7,rfl,H2⟩))
end Go.Proofs.YtniiiakkdoiaiaaGreatDoor
namespace Go.Proofs.YtniiiakkdoiaiaaGreatDoor
open Go Mb
namespace Hist
def placesFrom (P:co→Bool):List co→Int→List Int
  | [],_=>[]
  | e::es,i=>if P e = true then i::placesFrom P es (i + 1) else placesFrom P es (i + 1)
def places (P:co→Bool) (es:List co):List Int:=placesFrom P es 0
def ev00:co:=KK.ev0 0 0 ⟨0,0,0,0,0⟩ 0
def eff (es:List co) (i:Int):Int:=(es.getD i.toNat ev00).fEffect
def ins (key:Int→Int) (x:Int):List Int→List Int
  | []=>[x]
  | y::l=>if key x < key y then x::y::l else y::ins key x l
def isort (key:Int→Int):List Int→List Int
  | []=>[]
  | x::l=>ins key x (isort key l)
def effs (es:List co):List Int:=places (fun e=>decide (e.fEffect > 0)) es
def order (es:List co):List Int:=isort (eff es) (effs es)
def over (es:List co) (at_:Int):List Int:=places (fun e=>decide (e.fBegin ≤ at_) && (e.fEffect == 0 || decide (e.fEffect > at_))) es
def done (es:List co):List Int:=places (fun e=>e.fEnd != 0) es
def endOf (ends:List (Int × Int)) (c:Int):Option Int:=(ends.find? (fun p=>p.1 == c)).map (·.2)
def stops (ends:List (Int × Int)) (e:co):Bool:=match endOf ends e.fCore with
  | some n=>decide (n ≤ 0) || decide (e.fBegin ≤ n)
  | none=>false
def mayFrom (s:gj):List co→Int→List Int→List (Int × Int)→Bool
  | [],_,_,_=>true
  | e::es,last,seen,ends=>if fD e s last = false∨(e.fEffect > 0∧e.fEffect ∈ seen) then false else if stops ends e = true then false else mayFrom s es e.fBegin (e.fEffect::seen) ((e.fCore,e.fEnd)::ends)
def may (es:List co) (s:gj):Bool:=mayFrom s es 0 [] []
theorem placesFrom_app (P:co→Bool) (e:co):∀ (es:List co) (i:Int),placesFrom P (es++[e]) i = placesFrom P es i++(if P e = true then [i + es.length] else [])
  | [],i=>by simp only [List.nil_append,placesFrom]; split <;> simp
  | d::es,i=>by
    simp only [List.cons_append,placesFrom]
    rw [placesFrom_app P e es (i + 1)]
    have e1:i + 1 + (es.length:Int) = i + ((d::es).length:Int):=by simp; omega
    rw [e1]
    split <;> simp
theorem placesFrom_len (P:co→Bool):∀ (es:List co) (i:Int),(placesFrom P es i).length ≤ es.length
  | [],_=>Nat.le_refl _
  | e::es,i=>by unfold placesFrom; have:=placesFrom_len P es (i + 1); split <;> simp <;> omega
theorem placesFrom_c (P:co→Bool) (d:co) (es:List co) (i:Int):placesFrom P (d::es) i = if P d = true then i::placesFrom P es (i + 1) else placesFrom P es (i + 1):=rfl
theorem mem_placesFrom {P:co→Bool} {x:Int}:∀ {es:List co} {i:Int},x ∈ placesFrom P es i↔∃ (n:Nat) (e:co),es[n]? = some e∧x = i + n∧P e = true
  | [],i=>by simp [placesFrom]
  | d::es,i=>by
    have ih:=mem_placesFrom (P:=P) (x:=x) (es:=es) (i:=i + 1)
    have sp:(∃ (n:Nat) (e:co),(d::es)[n]? = some e∧x = i + n∧P e = true)↔(x = i∧P d = true)∨∃ (n:Nat) (e:co),es[n]? = some e∧x = i + 1 + n∧P e = true:=by
      constructor
      · rintro ⟨n,e,h1,h2,h3⟩
        cases n with
        | zero=>simp at h1; subst h1; exact .inl ⟨by simpa using h2,h3⟩
        | succ n=>exact .inr ⟨n,e,by simpa using h1,by omega,h3⟩
      · rintro (⟨h2,h3⟩ | ⟨n,e,h1,h2,h3⟩)
        · exact ⟨0,d,rfl,by simpa using h2,h3⟩
        · exact ⟨n + 1,e,by simpa using h1,by omega,h3⟩
    rw [sp,← ih,placesFrom_c]
    split
    · rename_i hd
      rw [List.mem_cons]
      constructor
      · rintro (h | h)
        · exact .inl ⟨h,hd⟩
        · exact .inr h
      · rintro (h | h)
        · exact .inl h.1
        · exact .inr h
    · rename_i hd
      constructor
      · exact .inr
      · rintro (h | h)
        · exact absurd h.2 hd
        · exact h
theorem mem_places {P:co→Bool} {x:Int} {es:List co}:x ∈ places P es↔∃ (n:Nat) (e:co),es[n]? = some e∧x = n∧P e = true:=by
  unfold places
  rw [mem_placesFrom]
  simp
theorem places_in {P:co→Bool} {x:Int} {es:List co} (h:x ∈ places P es):0 ≤ x∧x < es.length:=by
  obtain ⟨n,e,h1,rfl,_⟩:=mem_places.1 h
  have:=(List.getElem?_eq_some_iff.1 h1).1
  omega
theorem ins_perm (key:Int→Int) (x:Int):∀ l,(ins key x l).Perm (x::l)
  | []=>.refl _
  | y::l=>by
    unfold ins; split
    · exact .refl _
    · exact ((ins_perm key x l).cons y).trans (.swap _ _ _)
theorem isort_perm (key:Int→Int):∀ l,(isort key l).Perm l
  | []=>.refl _
  | x::l=>(ins_perm key x _).trans ((isort_perm key l).cons x)
theorem ins_up (key:Int→Int) (x:Int):∀ l,Up key l→Up key (ins key x l)
  | [],_=>List.pairwise_singleton _ _
  | y::l,h=>by
    obtain ⟨h1,h2⟩:=List.pairwise_cons.1 h
    unfold ins; split
    · rename_i hx
      refine List.pairwise_cons.2 ⟨fun z hz=>?_,h⟩
      rcases List.mem_cons.1 hz with rfl | hz
      · omega
      · have:=h1 z hz; omega
    · rename_i hx
      refine List.pairwise_cons.2 ⟨fun z hz=>?_,ins_up key x l h2⟩
      rcases List.mem_cons.1 ((ins_perm key x l).subset hz) with rfl | hz
      · omega
      · exact h1 z hz
theorem isort_up (key:Int→Int):∀ l,Up key (isort key l)
  | []=>.nil
  | x::l=>ins_up key x _ (isort_up key l)
def Apart (es:List co):Prop:=∀ a b,a ∈ effs es→b ∈ effs es→eff es a = eff es b→a = b
theorem order_of {es:List co} (ha:Apart es) {l:List Int} (hp:l.Perm (effs es)) (hu:Up (eff es) l):l = order es:=by
  refine List.Perm.eq_of_pairwise (le:=fun x y=>eff es x ≤ eff es y) (fun a b h1 h2 h3 h4=>?_) hu (isort_up _ _) (hp.trans (isort_perm _ _).symm)
  exact ha a b (hp.subset h1) ((isort_perm _ _).subset h2) (by omega)
theorem mayFrom_apart {s:gj}:∀ {es:List co} {last:Int} {seen:List Int} {ends:List (Int × Int)},mayFrom s es last seen ends = true →
    (∀ (n:Nat) e,es[n]? = some e→e.fEffect > 0→e.fEffect ∉ seen)∧∀ (n m:Nat) e d,es[n]? = some e→es[m]? = some d→e.fEffect > 0→e.fEffect = d.fEffect→n = m
  | [],_,_,_,_=>⟨fun n e h=>by simp at h,fun n m e d h=>by simp at h⟩
  | e0::es,last,seen,ends,h=>by
    unfold mayFrom at h
    split at h
    · cases h
    · split at h
      · cases h
      · rename_i h1 _
        obtain ⟨i1,i2⟩:=mayFrom_apart h
        have h0:e0.fEffect > 0→e0.fEffect ∉ seen:=fun hp hm=>h1 (.inr ⟨hp,hm⟩)
        refine ⟨fun n e hn hp=>?_,fun n m e d hn hm hp he=>?_⟩
        · cases n with
          | zero=>simp at hn; subst hn; exact h0 hp
          | succ n=>exact fun hm=>i1 n e (by simpa using hn) hp (by simp [hm])
        · cases n with
          | zero =>
            cases m with
            | zero=>rfl
            | succ m =>
              simp at hn; subst hn
              exact absurd (by simp [he]) (i1 m d (by simpa using hm) (by omega))
          | succ n =>
            cases m with
            | zero =>
              simp at hm; subst hm
              exact absurd (by simp [he]) (i1 n e (by simpa using hn) hp)
            | succ m=>rw [i2 n m e d (by simpa using hn) (by simpa using hm) hp he]
theorem eff_nat {es:List co} {n:Nat} {e:co} (h:es[n]? = some e):eff es n = e.fEffect:=by simp [eff,h]
theorem may_apart {es:List co} {s:gj} (h:may es s = true):Apart es:=by
  intro a b ha hb he
  obtain ⟨n,e,h1,rfl,h2⟩:=mem_places.1 ha
  obtain ⟨m,d,h3,rfl,h4⟩:=mem_places.1 hb
  rw [eff_nat h1,eff_nat h3] at he
  rw [(mayFrom_apart h).2 n m e d h1 h3 (by simpa using h2) he]
end Hist
theorem sp_hist_places (s:Sl) (es:List co) (v:Value) (P:co→Bool) (A:List As) (hb:es.length < 2 ^ 38)
    (hv:∀ e ∈ es,SpV Tryz.prog v [.agg e.C.toArray] aG (vE s es::A) (fun r=>pa_ (r = P e) (vE s es::A))) :
    Sp Tryz.prog qe [sv s,v] cG (vE s es::A) (fun r=>aQ (vI r (Hist.places P es)::vE s es::A)):=by
  intro h s0
  have hl:=(cn (j:=0) s0 rfl).1
  refine sim_hist_places _ _ ?_
  unfold sh_hist_places
  refine Lp.intro (fun (z:Sl × Int) h=>∃ n:Nat,z.2 = n∧n ≤ es.length∧aQ (vI z.1 (Hist.placesFrom P (es.take n) 0)::vE s es::A) h) (fun (z:Sl × Int) _=>es.length - z.2.toNat) ⟨0,rfl,Nat.zero_le _,ft s0⟩ ?_
  rintro ⟨z,i⟩ h ⟨n,rfl,hn,s1⟩
  unfold sZ
  refine bk (fun k=>?_) (fun k=>?_)
  · have hlt:n < es.length:=by rw [hl] at k; simpa using k
    have hw:IntKind.i64.wrap ((n:Int) + 1) = ((n + 1:Nat):Int):=by rw [cm (by omega) (by omega)]; rfl
    have ht:es.take (n + 1) = es.take n++[es[n]]:=by simp
    have hlen:((es.take n).length:Int) = n:=by simp; omega
    have hpl:=Hist.placesFrom_len P (es.take n) 0
    simp at hpl
    refine dF s1 (j:=1) rfl (by omega) (by show (n:Int) < _; omega) fun q hq=>?_
    refine eB (j:=1) (i:=n) (k:=0) es[n] mt s1 rfl hq rfl (aL hlt) (by simp) ?_
    refine clv_t (hv es[n] (List.getElem_mem hlt)) s1 fun r h2 s2=>?_
    obtain ⟨hr,s3⟩:=bH.1 s2
    have s4:=star_rot s3
    rw [hw]
    refine bk (fun k2=>?_) (fun k2=>?_)
    · refine vC s4 (i:=0) rfl (by omega) fun v h' s5=>?_
      refine ⟨⟨n + 1,rfl,hlt,?_⟩,by simp; omega⟩
      rw [ht,Hist.placesFrom_app,if_pos (by rw [← hr,k2]),hlen,Int.zero_add]
      exact s5
    · refine ⟨⟨n + 1,rfl,hlt,?_⟩,by simp; omega⟩
      rw [ht,Hist.placesFrom_app,if_neg (by rw [← hr,k2]; exact Bool.false_ne_true),List.append_nil]
      exact s4
  · have:n = es.length:=by rw [hl] at k; simp at k; omega
    subst this
    rw [List.take_length] at s1
    exact s1
theorem cmp_neg (x y:Int):fM x y < 0↔x < y:=by
  unfold fM eA
  simp only [bne_self_eq_false,cond_false]
  by_cases h1:x < y
  · simp [h1]
  · by_cases h2:x > y
    · simp [h1,h2]
    · simp [h1,h2]
theorem sp_hist_Over (s:Sl) (es:List co) (a:Int) (hb:es.length < 2 ^ 38):Sp Tryz.prog n_hist_Over [sv s,.int .i64 a] cG [vE s es] (fun r=>aQ [vI r (Hist.over es a),vE s es]):=by
  intro h s0
  refine sim_hist_Over _ _ ?_
  unfold sh_hist_Over
  refine oT s0 fun b3 h1 s1=>?_
  refine cT [1,0] (sp_hist_places s es _ (fun e=>decide (e.fBegin ≤ a) && (e.fEffect == 0 || decide (e.fEffect > a))) [blk b3 kJ [.int .i64 a]] hb ?_) s1 rfl fun r h2 s2=>?_
  · intro e he
    refine ⟨_,_,_,rfl,enter_hist_Over_c1,fun h s3=>?_⟩
    refine sim_hist_Over_c1 e b3 ?_
    unfold sh_hist_Over_c1
    refine bB a s3 (i:=1) rfl rfl rfl ?_
    refine bk (fun k=>?_) (fun k=>?_)
    · refine bB a s3 (i:=1) rfl rfl rfl ?_
      rw [Bool.and_eq_true] at k
      refine bh ?_ s3
      have k2:(e.fEffect == 0) = false:=by simpa using k.2
      rw [k.1,k2]; rfl
    · refine bh ?_ s3
      cases k1:decide (e.fBegin ≤ a) with
      | false=>rfl
      | true =>
        rw [k1] at k
        have k2:(e.fEffect == 0) = true:=by simpa using k
        rw [k2]; rfl
  · have s3:=dJ s2
    exact nv (l:=[vI r (Hist.over es a),vE s es]) s3
theorem sp_hist_Order20 (s:Sl) (es:List co) (hb:es.length ≤ 20) (ha:Hist.Apart es):Sp Tryz.prog oG [sv s] cG [vE s es] (fun r=>aQ [vI r (Hist.order es),vE s es]):=by
  intro h s0
  refine sim_hist_Order _ ?_
  unfold sh_hist_Order
  refine oT s0 fun b1 h1 s1=>?_
  refine bB s s1 (i:=0) rfl rfl rfl ?_
  refine cT [1,0] (sp_hist_places s es _ (fun e=>decide (e.fEffect > 0)) [blk b1 eO [sv s]] (by omega) ?_) s1 rfl fun r h2 s2=>?_
  · intro e he
    refine ⟨_,_,_,rfl,enter_hist_Order_c1,fun h s3=>?_⟩
    exact (ct_hist_Order_c1 e h).mono fun v h' ⟨r,hv,hr,hh⟩=>⟨r,hv,hr,by rw [hh]; exact s3⟩
  · have s3:=dJ s2
    have hpl:=Hist.placesFrom_len (fun e=>decide (e.fEffect > 0)) es 0
    refine cT [0,0,0] (sp_SortStable20 r _ [vE s es,blk b1 eO [sv s]] (Hist.eff es) (fun x=>0 ≤ x∧x < es.length) ?_ (Hist.effs es) (fun x hx=>Hist.places_in hx) (by unfold Hist.effs Hist.places; omega)) s3 rfl fun u h4 s4=>?_
    · rintro x y ⟨hx0,hx⟩ ⟨hy0,hy⟩
      refine ⟨_,_,_,rfl,enter_hist_Order_c2,fun h s5=>?_⟩
      obtain ⟨n,rfl⟩:=Int.eq_ofNat_of_zero_le hx0
      obtain ⟨m,rfl⟩:=Int.eq_ofNat_of_zero_le hy0
      have hn:n < es.length:=by omega
      have hm:m < es.length:=by omega
      refine sim_hist_Order_c2 n m b1 ?_
      unfold uY
      refine bB s s5 (i:=1) rfl rfl rfl ?_
      refine dF s5 (j:=0) rfl (by omega) (by omega) fun q hq=>?_
      refine eB (j:=0) (i:=n) (k:=8) es[n].fEffect mt s5 rfl hq rfl (aL hn) (c1 rfl rfl) ?_
      refine bB s s5 (i:=1) rfl rfl rfl ?_
      refine dF s5 (j:=0) rfl (by omega) (by omega) fun q2 hq2=>?_
      refine eB (j:=0) (i:=m) (k:=8) es[m].fEffect mt s5 rfl hq2 rfl (aL hm) (c1 rfl rfl) ?_
      refine bh ?_ s5
      rw [cmp_neg,Hist.eff_nat (aL hn),Hist.eff_nat (aL hm)]
    · obtain ⟨g1,g2,d,rfl,⟨m',⟨p1,p2⟩,s5⟩,s6⟩:=s4
      rw [Hist.order_of ha p1 p2] at s5
      exact rY (nv (l:=[vI r (Hist.order es),vE s es]) s5) d
theorem sp_hist_May (s:Sl) (es:List co) (z:gj) (hb:es.length < 2 ^ 38):Sp Tryz.prog wE [sv s,.agg z.C.toArray] aG [vE s es] (fun r=>pa_ (r = Hist.may es z) [vE s es]):=by
  intro h s0
  have hl:=(cn (j:=0) s0 rfl).1
  refine sim_hist_May _ _ ?_
  unfold sh_hist_May
  refine makeMap_m (τ:=Bool) (val:=fun x=>.bool x) rfl s0 fun b1 h1 s1=>?_
  refine makeMap_m (τ:=Int) (val:=fun x=>.int .i64 x) rfl s1 fun b2 h2 s2=>?_
  refine Lp.intro (fun (y:Int × Int) h=>∃ (n:Nat) (seen:List Int) (ends:List (Int × Int)),y.2 = n∧n ≤ es.length∧Hist.mayFrom z (es.drop n) y.1 seen ends = Hist.may es z∧aQ [mapA b2 (fun x=>Value.int .i64 x) (Hist.endOf ends),mapA b1 (fun x=>Value.bool x) (fun x=>if x ∈ seen then some true else none),vE s es] h) (fun (y:Int × Int) _=>es.length - y.2.toNat) ⟨0,[],[],rfl,Nat.zero_le _,rfl,?_⟩ ?_
  · have e1:(fun x:Int=>if x ∈ ([]:List Int) then some true else none) = fun _=>none:=by funext x; simp
    have e2:Hist.endOf [] = fun _=>none:=by funext x; rfl
    rw [e1,e2]; exact s2
  rintro ⟨last,i⟩ h ⟨n,seen,ends,rfl,hn,he,s3⟩
  unfold hist_May_l1
  simp only at he ⊢
  refine bk (fun k=>?_) (fun k=>?_)
  · have hlt:n < es.length:=by rw [hl] at k; simpa using k
    have hw:IntKind.i64.wrap ((n:Int) + 1) = ((n + 1:Nat):Int):=by rw [cm (by omega) (by omega)]; rfl
    rw [List.drop_eq_getElem_cons hlt,Hist.mayFrom] at he
    refine dF s3 (j:=2) rfl (by omega) (by omega) fun q hq=>?_
    refine eB (j:=2) (i:=n) (k:=0) es[n] mt s3 rfl hq rfl (aL hlt) (by simp) ?_
    have rest:¬ (fD es[n] z last = false∨(es[n].fEffect > 0∧es[n].fEffect ∈ seen))→∀ K:(Int × Int)→Hp→Prop,
        (∀ (s':Int × Int) h',s'.1 = es[n].fBegin∧s'.2 = ((n + 1:Nat):Int)→Hist.stops ends es[n] = false→aQ [mapA b2 (fun x=>Value.int .i64 x) (Hist.endOf ((es[n].fCore,es[n].fEnd)::ends)),mapA b1 (fun x=>Value.bool x) (fun x=>if x ∈ es[n].fEffect::seen then some true else none),vE s es] h'→K s' h') →
        hpv Tryz.prog (Instr.lookup gT (.map (some b2)) (.int .i64 es[n].fCore) true) bZ (fun (v40:Int × Bool) =>
          br (v40.2 && ((decide (v40.1 ≤ 0)) || (decide (es[n].fBegin ≤ v40.1)))) (pa_ (false = Hist.may es z) [vE s es]) (
          hpu Tryz.prog (Instr.mapUpdate jq (.map (some b1)) (.int .i64 es[n].fEffect) (.bool true)) <|
          hpu Tryz.prog (Instr.mapUpdate gT (.map (some b2)) (.int .i64 es[n].fCore) (.int .i64 es[n].fEnd)) <|
          K (es[n].fBegin,((n + 1:Nat):Int)))) h:=by
      intro hno K hK
      rw [if_neg hno] at he
      refine lookup_m (j:=0) mp_map_int_int s3 rfl ((Hist.endOf ends es[n].fCore).getD 0,(Hist.endOf ends es[n].fCore).isSome) ?_ ?_
      · rw [if_pos rfl]; unfold bZ
        cases Hist.endOf ends es[n].fCore <;> rfl
      · have hst:((Hist.endOf ends es[n].fCore).isSome && ((decide ((Hist.endOf ends es[n].fCore).getD 0 ≤ 0)) || (decide (es[n].fBegin ≤ (Hist.endOf ends es[n].fCore).getD 0)))) = Hist.stops ends es[n]:=by
          unfold Hist.stops
          cases Hist.endOf ends es[n].fCore <;> simp
        show br ((Hist.endOf ends es[n].fCore).isSome && ((decide ((Hist.endOf ends es[n].fCore).getD 0 ≤ 0)) || (decide (es[n].fBegin ≤ (Hist.endOf ends es[n].fCore).getD 0)))) _ _ h
        rw [hst]
        refine bk (fun k2=>?_) (fun k2=>?_)
        · rw [if_pos k2] at he
          exact bh he (cj (l:=[_,_]) s3)
        · refine update_m (j:=1) (w:=true) mp_map_int_bool s3 rfl rfl fun h4 s4=>?_
          refine update_m (j:=0) (w:=es[n].fEnd) mp_map_int_int s4 rfl rfl fun h5 s5=>?_
          refine hK _ _ ⟨rfl,rfl⟩ k2 ?_
          have e1:(fun y=>if y = es[n].fCore then some es[n].fEnd else Hist.endOf ends y) = Hist.endOf ((es[n].fCore,es[n].fEnd)::ends):=by
            funext y
            unfold Hist.endOf
            by_cases hy:y = es[n].fCore
            · subst hy; simp
            · have:(es[n].fCore == y) = false:=by simpa using fun e=>hy e.symm
              simp [hy,this]
          have e2:(fun y=>if y = es[n].fEffect then some true else if y ∈ seen then some true else none) = fun x=>if x ∈ es[n].fEffect::seen then some true else none:=by
            funext y
            by_cases hy:y = es[n].fEffect <;> simp [hy]
          rw [← e1,← e2]
          exact s5
    have go:¬ (fD es[n] z last = false∨(es[n].fEffect > 0∧es[n].fEffect ∈ seen))→∀ (s':Int × Int) h',s'.1 = es[n].fBegin∧s'.2 = ((n + 1:Nat):Int)→Hist.stops ends es[n] = false→aQ [mapA b2 (fun x=>Value.int .i64 x) (Hist.endOf ((es[n].fCore,es[n].fEnd)::ends)),mapA b1 (fun x=>Value.bool x) (fun x=>if x ∈ es[n].fEffect::seen then some true else none),vE s es] h' →
        (∃ (n:Nat) (seen:List Int) (ends:List (Int × Int)),s'.2 = n∧n ≤ es.length∧Hist.mayFrom z (es.drop n) s'.1 seen ends = Hist.may es z∧aQ [mapA b2 (fun x=>Value.int .i64 x) (Hist.endOf ends),mapA b1 (fun x=>Value.bool x) (fun x=>if x ∈ seen then some true else none),vE s es] h')∧es.length - s'.2.toNat < es.length - (n:Int).toNat:=by
      rintro hno ⟨u,w⟩ h' ⟨h4,h5⟩ hst s4
      simp only at h4 h5
      subst h4; subst h5
      rw [if_neg hno,if_neg (by rw [hst]; exact Bool.false_ne_true)] at he
      exact ⟨⟨n + 1,_,_,rfl,hlt,he,s4⟩,by simp; omega⟩
    rw [hw]
    refine bk (fun k2=>?_) (fun k2=>?_)
    · rw [Bool.and_eq_true] at k2
      have k1:fD es[n] z last = true:=by simpa using k2.1
      have kp:es[n].fEffect > 0:=by simpa using k2.2
      refine lookup_m (j:=1) mp_map_int_bool s3 rfl (decide (es[n].fEffect ∈ seen)) ?_ ?_
      · rw [if_neg Bool.false_ne_true]; unfold aG
        by_cases hm:es[n].fEffect ∈ seen <;> simp [hm]
      · refine bk (fun k3=>?_) (fun k3=>?_)
        · have hm:es[n].fEffect ∈ seen:=of_decide_eq_true k3
          rw [if_pos (.inr ⟨kp,hm⟩)] at he
          exact bh he (cj (l:=[_,_]) s3)
        · have hm:es[n].fEffect ∉ seen:=of_decide_eq_false k3
          have hno:¬ (fD es[n] z last = false∨(es[n].fEffect > 0∧es[n].fEffect ∈ seen)):=by simp [k1,hm]
          exact rest hno _ (go hno)
    · refine bk (fun k3=>?_) (fun k3=>?_)
      · have k1:fD es[n] z last = false:=by simpa using k3
        rw [if_pos (.inl k1)] at he
        exact bh he (cj (l:=[_,_]) s3)
      · have k1:fD es[n] z last = true:=by simpa using k3
        have kp:¬ es[n].fEffect > 0:=by simp [k1] at k2; omega
        have hno:¬ (fD es[n] z last = false∨(es[n].fEffect > 0∧es[n].fEffect ∈ seen)):=by simp [k1]; intro hh; exact absurd hh kp
        exact rest hno _ (go hno)
  · have:n = es.length:=by rw [hl] at k; simp at k; omega
    subst this
    rw [List.drop_length] at he
    exact bh he (cj (l:=[_,_]) s3)
end Go.Proofs.YtniiiakkdoiaiaaGreatDoor
