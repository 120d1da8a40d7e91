/- Part of the proof of: The law RaceSlot returns true for every input, and leaves its arguments as they were. -/
import Derived.Test.YtniiiakkdoiaiaaGreatDoorRaceSlot16
import Derived.Test.YtniiiakkdoiaiaaGreatDoorCards
import Derived.Test.YtniiiakkdoiaiaaGreatDoorRows
import Derived.Test.YtniiiakkdoiaiaaGreatDoorTie
set_option linter.all false
set_option maxRecDepth 20000
namespace Go.Proofs.YtniiiakkdoiaiaaGreatDoor
open Go Mb
theorem calls_nil:∀ (n:Nat) {l:List As} {h:Hp},aG l h→aG (all iz (List.replicate n (none:Ptr)) (List.replicate n (none:Option KC))::l) h
  | 0,_,_,s=>all_nil s
  | n + 1,l,h,s=>by
    have s1:=star_cons (A:=iz none none) (fun _=>rfl) (calls_nil n s)
    rw [List.replicate_succ,List.replicate_succ]
    obtain ⟨h1,h2,d,e,a,h3,h4,d2,e2,b,s'⟩:=s1
    subst e2
    obtain ⟨d3,d4⟩:=Dj.of_un_right d
    exact ⟨un h1 h3,h4,Dj.un_left d4 d2,by rw [e,mA],⟨h1,h3,d3,rfl,a,b⟩,s'⟩
def newI (s:fK) (b n:Nat) (pp pm pe:Ptr) (cs:Sl) (i:Int) (h:Hp):Prop:=∃ (j:Nat) (ts:Sl) (tp:List Ptr),i = j∧j ≤ n∧tp.length = j∧aG [blk b cg [pv pp,.int .i64 s.fEnvs,sv ts,pv pm,pv pe,sv cs,sv (⟨none,0,0,none⟩:Sl),.int .i64 0],bn pp (PK.new s),vQ sA ts tp,all fC tp (List.replicate j tlb0),jh pm (List.replicate n []),eW pe ([],List.replicate n 0),vQ ft cs (List.replicate n none),all iz (List.replicate n none) (List.replicate n none),vE (⟨none,0,0,none⟩:Sl) []] h
theorem new_round {s:fK} {b n:Nat} {pp pm pe:Ptr} {cs:Sl} (hn8:n ≤ 8) {i:Int} {h:Hp} (H:newI s b n pp pm pe cs i h) (hi:i < n) :
    (both (ld (b,2) cS fun x31=>cl Tryz.prog iB [] gB fun r32=>hpv Tryz.prog (Instr.buildSlice bQ 1 #[(0,(pv r32))]) dL fun (v33:Sl)=>hpv Tryz.prog (Builtin.append_ #[bQ,bQ] bQ #[(sv x31),(sv v33)]) dL fun (v34:Sl)=>Mb.st (b,2) [sv v34] fun h'=>newI s b n pp pm pe cs (IntKind.i64.wrap (i + 1)) h'∧n - (IntKind.i64.wrap (i + 1)).toNat < n - i.toNat)
     (cl Tryz.prog iB [] gB fun r32=>ld (b,2) cS fun x31=>hpv Tryz.prog (Instr.buildSlice bQ 1 #[(0,(pv r32))]) dL fun (v33:Sl)=>hpv Tryz.prog (Builtin.append_ #[bQ,bQ] bQ #[(sv x31),(sv v33)]) dL fun (v34:Sl)=>Mb.st (b,2) [sv v34] fun h'=>newI s b n pp pm pe cs (IntKind.i64.wrap (i + 1)) h'∧n - (IntKind.i64.wrap (i + 1)).toNat < n - i.toNat)) h:=by
  obtain ⟨j,ts,tp,rfl,hj,htp,s6⟩:=H
  have hlt:j < n:=by omega
  have hw:IntKind.i64.wrap ((j:Int) + 1) = ((j + 1:Nat):Int):=by rw [bN (by omega) (by omega)]; rfl
  rw [hw]
  have fin:∀ (r:Ptr) (v:Sl) (h:Hp),aG [fC r tlb0,blk b cg [pv pp,.int .i64 s.fEnvs,sv ts,pv pm,pv pe,sv cs,sv (⟨none,0,0,none⟩:Sl),.int .i64 0],bn pp (PK.new s),vQ sA v (tp++[r]),all fC tp (List.replicate j tlb0),jh pm (List.replicate n []),eW pe ([],List.replicate n 0),vQ ft cs (List.replicate n none),all iz (List.replicate n none) (List.replicate n none),vE (⟨none,0,0,none⟩:Sl) []] h →
      Mb.st (b,2) [sv v] (fun h'=>newI s b n pp pm pe cs ((j + 1:Nat):Int) h'∧n - ((j + 1:Nat):Int).toNat < n - (j:Int).toNat) h:=by
    intro r v h s7
    refine uB (i:=1) s7 rfl (Nat.le_of_ble_eq_true rfl) fun h8 s8=>?_
    refine ⟨⟨j + 1,v,tp++[r],rfl,hlt,by simp [htp],?_⟩,by simp; omega⟩
    have s9:=all_push (by simp [htp]) (bb [0,3] s8 rfl)
    have e:List.replicate j tlb0++[tlb0] = List.replicate (j + 1) tlb0:=List.replicate_succ'.symm
    rw [e] at s9
    exact bb [1,1,1,0] s9 rfl
  refine ⟨?_,?_⟩
  · refine bk ts s6 (i:=0) rfl rfl rfl ?_
    refine mb wg s6 fun r h7 s7=>?_
    refine kw (τ:=Ptr) (i:=3) (enc:=cP) (val:=fun x=>pv x) el_SPtlb_Tlb gO cP_one (fun _=>rfl) (by omega) rfl rfl s7 rfl (by omega) (by omega) fun v h8 s8=>?_
    exact fin r v h8 s8
  · refine mb wg s6 fun r h7 s7=>?_
    refine bk ts s7 (i:=1) rfl rfl rfl ?_
    refine kw (τ:=Ptr) (i:=3) (enc:=cP) (val:=fun x=>pv x) el_SPtlb_Tlb gO cP_one (fun _=>rfl) (by omega) rfl rfl s7 rfl (by omega) (by omega) fun v h8 s8=>?_
    exact fin r v h8 s8
theorem new_start {s:fK} {b n:Nat} {pp pm pe:Ptr} {cs:Sl} {h:Hp}
    (st:aG [blk b cg (fE.C (⟨pp,s.fEnvs,(⟨none,0,0,none⟩:Sl),pm,pe,cs,(⟨none,0,0,none⟩:Sl),0⟩:fE)),bn pp (PK.new s),jh pm (List.replicate n []),eW pe ([],List.replicate n 0),vQ ft cs (List.replicate n none)] h):newI s b n pp pm pe cs 0 h:=by
  have s1:=fI (τ:=bj) (T:=qw) (m:=16) (enc:=au.C) (calls_nil n (fI (τ:=Ptr) (T:=sA) (m:=1) (enc:=cP) (all_nil (A:=fC) st)))
  exact ⟨0,⟨none,0,0,none⟩,[],rfl,Nat.zero_le _,rfl,bb [4,4,2,2,2,2,2,1] s1 rfl⟩
theorem new_end {s:fK} (hs:PK.sized s = true) {b n:Nat} (hn:s.fCores = n) {pp pm pe:Ptr} {cs:Sl} {h:Hp} (H:newI s b n pp pm pe cs n h):aG [cL (some (b,0)) (KK.new s)] h:=by
  obtain ⟨j,ts,tp,hj,hj2,htp,s6⟩:=H
  have:j = n:=by omega
  subst this
  have ok:=kok_new hs
  have e:KK.new s = ⟨PK.new s,List.replicate j tlb0,List.replicate j [],([],List.replicate j 0),List.replicate j none,[],0⟩:=by unfold KK.new; rw [hn]; rfl
  rw [e] at ok ⊢
  exact qj (z:=⟨b,pp,ts,tp,pm,pe,cs,List.replicate j none,⟨none,0,0,none⟩⟩) ⟨by simpa using htp,by simp⟩ ok s6
theorem sp_kern_New (s:fK) (hs:PK.sized s = true):Sp Tryz.prog wW [.agg s.C.toArray] sg [] (fun r=>aG [cL r (KK.new s)]):=by
  intro h st
  have hz:=fM.1 hs
  obtain ⟨n,hn⟩:=Int.eq_ofNat_of_zero_le (show 0 ≤ s.fCores by omega)
  have hn8:n ≤ 8:=by omega
  refine sim_kern_New _ ?_
  unfold sh_kern_New
  refine mb (rM s hs) st fun pp h1 s1=>?_
  have hpp:pp.isNone = false:=by
    obtain ⟨_,h2,_⟩:=fJ s1; rw [h2]; rfl
  refine dr hpp ?_
  have mk:∀ {l:List As} {h:Hp} {K:Sl→Hp→Prop},aG l h→(∀ v h',aG (vQ ft v (List.replicate n none)::l) h'→K v h')→hpv Tryz.prog (Instr.makeSlice mI (.int .i64 s.fCores) (.int .i64 s.fCores)) qn K h:=by
    intro l h K s2 k
    rw [hn]
    exact nJ (τ:=Ptr) (x0:=none) (enc:=cP) (n:=n) (T:=ft) (m:=1) el_SPkern_call rfl s2 (by omega) (by omega) k
  have em:s.fCores.toNat = n:=by omega
  refine ⟨?_,?_⟩
  · refine mb (sp_mail_New s.fCores (by omega) (by omega)) s1 fun pm h2 s2=>?_
    refine ⟨?_,?_⟩
    · refine mb (rO s.fCores (by omega) (by omega)) s2 fun pe h3 s3=>?_
      rw [em] at s3
      refine mk s3 fun cs h4 s4=>?_
      refine oY s4 fun b h5 s5=>?_
      refine Lp.intro (fun (i:Int) h=>newI s b n pp pm pe cs i h) (fun (i:Int) _=>n - i.toNat) (new_start (bb [0,4,3,2,1] s5 rfl)) ?_
      intro i h H
      unfold kern_New_l1
      refine aX (fun d=>new_round hn8 H (by have:=of_decide_eq_true d; omega)) (fun d=>?_)
      have:i = n:=by obtain ⟨j,_,_,e,hj,_⟩:=H; have:=of_decide_eq_false d; omega
      subst this
      exact new_end hs hn H
    · refine mk s2 fun cs h3 s3=>?_
      refine mb (rO s.fCores (by omega) (by omega)) s3 fun pe h4 s4=>?_
      rw [em] at s4
      refine oY s4 fun b h5 s5=>?_
      refine Lp.intro (fun (i:Int) h=>newI s b n pp pm pe cs i h) (fun (i:Int) _=>n - i.toNat) (new_start (bb [0,3,2,0,0] s5 rfl)) ?_
      intro i h H
      unfold kern_New_l2
      refine aX (fun d=>new_round hn8 H (by have:=of_decide_eq_true d; omega)) (fun d=>?_)
      have:i = n:=by obtain ⟨j,_,_,e,hj,_⟩:=H; have:=of_decide_eq_false d; omega
      subst this
      exact new_end hs hn H
  · refine mk s1 fun cs h2 s2=>?_
    refine mb (sp_mail_New s.fCores (by omega) (by omega)) s2 fun pm h3 s3=>?_
    refine mb (rO s.fCores (by omega) (by omega)) s3 fun pe h4 s4=>?_
    rw [em] at s4
    refine oY s4 fun b h5 s5=>?_
    refine Lp.intro (fun (i:Int) h=>newI s b n pp pm pe cs i h) (fun (i:Int) _=>n - i.toNat) (new_start (bb [0,3,1,0,0] s5 rfl)) ?_
    intro i h H
    unfold kern_New_l3
    refine aX (fun d=>new_round hn8 H (by have:=of_decide_eq_true d; omega)) (fun d=>?_)
    have:i = n:=by obtain ⟨j,_,_,e,hj,_⟩:=H; have:=of_decide_eq_false d; omega
    subst this
    exact new_end hs hn H
end Go.Proofs.YtniiiakkdoiaiaaGreatDoor
namespace Go.Proofs.YtniiiakkdoiaiaaGreatDoor
open Go Mb
set_option linter.unusedVariables false
def th (a0:Int) (Rec17:(Sl × Int)→Hp→Prop) (s16:Sl × Int) (x32:Int) (Rec26:(Sl × Int)→Hp→Prop) (s25:Sl × Int):Hp→Prop:=br (decide (s25.2 < a0)) ( hpv Tryz.prog (Instr.buildSlice ny 1 #[(0,(.agg (du.C (⟨x32,s25.2,0,(⟨0,0,0,0,0⟩:ae),0,0⟩:du)).toArray))]) nU fun (v41:Sl)=>hpv Tryz.prog (Builtin.append_ #[ny,ny] ny #[(sv s25.1),(sv v41)]) nU fun (v42:Sl)=>Rec26 (v42,(IntKind.i64.wrap (s25.2 + 1)))) ( Rec17 (s25.1,(IntKind.i64.wrap (s16.2 + 1))))
def ti (a0:Int) (Rec11:(Sl × Int)→Hp→Prop) (s10:Sl × Int) (v27:Sl) (Rec17:(Sl × Int)→Hp→Prop) (s16:Sl × Int):Hp→Prop:=br (decide (s16.2 < (v27.len:Int))) ( ix v27 s16.2 fun q31=>ld (q31.1,q31.2 + Int.toNat s16.2 * 1) (cI .i64) fun x32=>Lp (th a0 Rec17 s16 x32) (s16.1,0)) ( Rec11 (s16.1,(IntKind.i64.wrap (s10.2 + 1))))
def tj (a0:Int) (a1:Int) (K:Sl→Hp→Prop) (Rec11:(Sl × Int)→Hp→Prop) (s10:Sl × Int):Hp→Prop:=br (decide (s10.2 < a1)) ( hpv Tryz.prog (Instr.buildSlice dF 2 #[(0,(.int .i64 3)),(1,(.int .i64 2))]) cz fun (v27:Sl)=>Lp (ti a0 Rec11 s10 v27) (s10.1,0)) ( K s10.1)
def sh_fair_Rounds (a0:Int) (a1:Int) (K:Sl→Hp→Prop):Hp→Prop:=br ((((decide (a0 < 1)) || (decide (a0 > 8))) || (decide (a1 < 0))) || (decide (a1 > 500))) ( K (⟨none,0,0,none⟩:Sl)) ( hpv Tryz.prog (Instr.buildSlice ny 0 #[]) nU fun (v23:Sl)=>Lp (tj a0 a1 K) (v23,0))
theorem sim_fair_Rounds (a0:Int) (a1:Int) {K:Sl→Hp→Prop} {h:Hp} (H:sh_fair_Rounds a0 a1 K h):Ct Tryz.prog uK #[(.int .i64 a0),(.int .i64 a1)] h fun v h'=>∃ r,v = nU r∧K r h':=aw [(.int .i64 a0),(.int .i64 a1)] Tryz.func11 c c c fun _=>M<|O c<|ak<|M<|J c<|p (ct c c)<|J c<|V c c (aM _) (fun g1=>wv<|ah c)<|V c c (aM _) (fun g2=>wv<|qr (aD c g2) c)<|p (dp c c)<|J c<|V c c (aM _) (fun g3=>wv<|ah c)<|V c c (aM _) (fun g4=>wv<|ct (aD c g4) c)<|p (dp c c)<|J c<|V c c (aM _) (fun g5=>wv<|ah c)<|V c c (aM _) (fun g6=>wv<|qr (aD c g6) c)<|p (dp c c)<|ac<|av c H (fun k7 H8=>M<|O c<|ai<|Y ⟨(⟨none,0,0,none⟩:Sl),c,H8⟩) fun k7 H8=>an<|M<|aa<|aR H8 (bu (vs:=[]) c) c fun v23 _ H9=>O c<|ak<|M<|J c<|J c<|ac<|ax<|bD (step:=tj a0 a1 K) (fun s10=>[(0,(.int .i64 a0)),(5,(sv s10.1)),(24,(.int .i64 a1)),(25,(.int .i64 s10.2))]) (fun s10=>[]) H9 (.cons c<|.cons c<|.cons c<|.cons c<|.nil _) .slnil fun Rec11 s10 _ H12=>M<|p (ct c c)<|ac<|ak<|av c H12 (fun k13 H14=>an<|ak<|ax<|M<|aa<|aR H14 (bu (vs:=[(.int .i64 3),(.int .i64 2)]) c) c fun v27 _ H15=>p (dz c Tryz.underlying41 c)<|J c<|ac<|ax<|bD (step:=ti a0 Rec11 s10 v27) (fun s16=>[(0,(.int .i64 a0)),(5,(sv s16.1)),(24,(.int .i64 a1)),(25,(.int .i64 s10.2)),(27,(sv v27)),(28,(.int .i64 (v27.len:Int))),(29,(.int .i64 s16.2))]) (fun s16=>[]) H15 (.cons c<|.cons c<|.cons c<|.cons c<|.cons c<|.cons c<|.cons c<|.nil _) .slnil fun Rec17 s16 _ H18=>M<|p (ct c c)<|ac<|ak<|av c H18 (fun k19 H20=>an<|ak<|ax<|M<|cj H20 fun q31 e21 h22 H23=>p (bo hO (aL c<|ba e21) c h22)<|aa<|aV H23 aY c (fun _=>c) c fun x32 H24=>O c<|M<|J c<|J c<|ac<|ax<|bD (step:=th a0 Rec17 s16 x32) (fun s25=>[(0,(.int .i64 a0)),(5,(sv s25.1)),(7,(.int .i64 x32)),(24,(.int .i64 a1)),(25,(.int .i64 s10.2)),(27,(sv v27)),(28,(.int .i64 (v27.len:Int))),(29,(.int .i64 s16.2)),(33,(.int .i64 a0)),(34,(.int .i64 s25.2))]) (fun s25=>[]) H24 (.cons c<|.cons c<|.cons c<|.cons c<|.cons c<|.cons c<|.cons c<|.cons c<|.cons c<|.cons c<|.nil _) .slnil fun Rec26 s25 _ H27=>M<|p (ct c c)<|ac<|ak<|av c H27 (fun k28 H29=>an<|ak<|ax<|M<|J c<|O c<|ao<|J c<|J c<|J c<|p (aZ c<|build_29_0_1 x32 s25.2)<|aa<|aR H29 (bu (vs:=[(.agg (du.C (⟨x32,s25.2,0,(⟨0,0,0,0,0⟩:ae),0,0⟩:du)).toArray)]) c) c fun v41 _ H30=>aa<|aR H30 (dE c c) c fun v42 _ H31=>O c<|ao<|p (bp c c)<|J c<|ac<|cK (v42,(IntKind.i64.wrap (s25.2 + 1))) H31 (.cons c<|.cons c<|.cons c<|.cons c<|.cons c<|.cons c<|.cons c<|.cons c<|.cons c<|.cons c<|.nil _) .slnil) fun k28 H29=>bi<|ao<|p (bp c c)<|J c<|ac<|cK (s25.1,(IntKind.i64.wrap (s16.2 + 1))) H29 (.cons c<|.cons c<|.cons c<|.cons c<|.cons c<|.cons c<|.cons c<|.nil _) .slnil) fun k19 H20=>bi<|ao<|p (bp c c)<|J c<|ac<|cK (s16.1,(IntKind.i64.wrap (s10.2 + 1))) H20 (.cons c<|.cons c<|.cons c<|.cons c<|.nil _) .slnil) fun k13 H14=>bi<|M<|J c<|O c<|ai<|Y ⟨s10.1,c,H14⟩
def rg (a0:Sl) (a1:Int) (a2:Int) (K:Int→Hp→Prop) (Rec2:(Int × Int × Int)→Hp→Prop) (s1:Int × Int × Int):Hp→Prop:=br (decide (s1.2.2 < (a0.len:Int))) ( ix a0 s1.2.2 fun q15=>ld (q15.1,q15.2 + Int.toNat s1.2.2 * 10) du.C fun x16=>br ((x16.fKind == a1) && (x16.fCore == a2)) ( Rec2 ((mx s1.1 0),0,(IntKind.i64.wrap (s1.2.2 + 1)))) ( Rec2 ((mx s1.1 (IntKind.i64.wrap (s1.2.1 + 1))),(IntKind.i64.wrap (s1.2.1 + 1)),(IntKind.i64.wrap (s1.2.2 + 1))))) ( K s1.1)
def sh_fair_Longest (a0:Sl) (a1:Int) (a2:Int) (K:Int→Hp→Prop):Hp→Prop:=Lp (rg a0 a1 a2 K) (0,0,0)
theorem sim_fair_Longest (a0:Sl) (a1:Int) (a2:Int) {K:Int→Hp→Prop} {h:Hp} (H:sh_fair_Longest a0 a1 a2 K h):Ct Tryz.prog oK #[(sv a0),(.int .i64 a1),(.int .i64 a2)] h fun v h'=>∃ r,v = eA r∧K r h':=aw [(sv a0),(.int .i64 a1),(.int .i64 a2)] Tryz.func13 c c c fun _=>M<|O c<|M<|p (ar c)<|O c<|ak<|M<|J c<|p (dz c Tryz.underlying23 c)<|J c<|ac<|ax<|bD (step:=rg a0 a1 a2 K) (fun s1=>[(1,(.int .i64 a1)),(2,(.int .i64 a2)),(7,(.int .i64 s1.1)),(8,(.int .i64 s1.2.1)),(11,(sv a0)),(12,(.int .i64 (a0.len:Int))),(13,(.int .i64 s1.2.2))]) (fun s1=>[]) H (.cons c<|.cons c<|.cons c<|.cons c<|.cons c<|.cons c<|.cons c<|.nil _) .slnil fun Rec2 s1 _ H3=>M<|p (ct c c)<|ac<|ak<|av c H3 (fun k4 H5=>an<|ak<|ax<|M<|cj H5 fun q15 e6 h7 H8=>p (bo slc_23 (aL c<|ba e6) c h7)<|aa<|gJ H8 ag_29 c (fun _=>c) c fun x16 H9=>aa<|aK (l:=du.C (⟨0,0,0,(⟨0,0,0,0,0⟩:ae),0,0⟩:du)) zero_29 c c fun b10=>aa<|aO (k:=0) (vs:=du.C x16) inf_29 c c c c c c c<|ac<|M<|J c<|p (bp c c)<|O c<|ak<|M<|p (ad fld_29_0 c)<|bh (bf (k:=0) aY c c c) c<|J c<|p (bM c c)<|J c<|V c c (ay _) (fun g10=>wv<|ad fld_29_1 c)<|V c c (ay _) (fun g11=>cv<|bf (k:=0) aY (aD c g11) c c)<|V c c (ay _) (fun g12=>wv<|ah c)<|V c c (ay _) (fun g13=>wv<|bM (aD c g13)<|aD c g13)<|p (bP c c)<|ac<|av c H9 (fun k14 H15=>ao<|O c<|ao<|J c<|J c<|p (v_maxT c c)<|O c<|ao<|p (bp c c)<|J c<|ac<|cK ((mx s1.1 0),0,(IntKind.i64.wrap (s1.2.2 + 1))) H15 (.cons c<|.cons c<|.cons c<|.cons c<|.cons c<|.cons c<|.cons c<|.nil _)<|.cons _ .slnil) fun k14 H15=>an<|ao<|J c<|J c<|p (v_maxT c c)<|O c<|ao<|p (bp c c)<|J c<|ac<|cK ((mx s1.1 (IntKind.i64.wrap (s1.2.1 + 1))),(IntKind.i64.wrap (s1.2.1 + 1)),(IntKind.i64.wrap (s1.2.2 + 1))) H15 (.cons c<|.cons c<|.cons c<|.cons c<|.cons c<|.cons c<|.cons c<|.nil _)<|.cons _ .slnil) fun k4 H5=>bi<|M<|J c<|O c<|ai<|Y ⟨s1.1,c,H5⟩
def xh (a0:Sl) (a1:Int) (a2:Int) (K:Bool→Hp→Prop) (Rec2:Int→Hp→Prop) (s1:Int):Hp→Prop:=br (decide (s1 < a1)) ( cl Tryz.prog oK [(sv a0),(.int .i64 2),(.int .i64 s1)] eA fun r14=>br (!(decide (r14 ≥ a2))) ( cl Tryz.prog oK [(sv a0),(.int .i64 3),(.int .i64 s1)] eA fun r20=>br (decide (r20 ≥ a2)) ( K false) ( Rec2 (IntKind.i64.wrap (s1 + 1)))) ( K false)) ( K true)
def sh_fair_Fair (a0:Sl) (a1:Int) (a2:Int) (K:Bool→Hp→Prop):Hp→Prop:=Lp (xh a0 a1 a2 K) 0
theorem sim_fair_Fair (a0:Sl) (a1:Int) (a2:Int) {K:Bool→Hp→Prop} {h:Hp} (H:sh_fair_Fair a0 a1 a2 K h):Ct Tryz.prog n_fair_Fair #[(sv a0),(.int .i64 a1),(.int .i64 a2)] h fun v h'=>∃ r,v = aB r∧K r h':=aw [(sv a0),(.int .i64 a1),(.int .i64 a2)] Tryz.func12 c c c fun _=>M<|O c<|ak<|M<|J c<|J c<|ac<|ax<|bD (step:=xh a0 a1 a2 K) (fun s1=>[(0,(sv a0)),(2,(.int .i64 a2)),(8,(.int .i64 a1)),(9,(.int .i64 s1))]) (fun s1=>[]) H (.cons c<|.cons c<|.cons c<|.cons c<|.nil _) .slnil fun Rec2 s1 _ H3=>M<|p (ct c c)<|ac<|ak<|av c H3 (fun k4 H5=>an<|ak<|ax<|M<|J c<|O c<|M<|J c<|J c<|aa<|Z H5 en_13 fun r14 _ H6=>J c<|p (jH c c)<|J c<|V c c (aM _) (fun g7=>wv<|ah c)<|V c c (aM _) (fun g8=>wv<|ah c)<|bT H6 (fun k10 H11=>F (D<|cf k10)<|gj H11 en_13 (aS (aD c k10)<|aS c<|aS (aD c k10) bS) c fun r20 _ H12=>F (D<|cf k10)<|R (ah c)<|F (D<|cf k10)<|R (jH c c)<|p (aq c (cf k10) c)<|ac<|av c H12 (fun k13 H14=>M<|O c<|ai<|Y ⟨false,c,H14⟩) fun k13 H14=>an<|ao<|p (bp c c)<|J c<|ac<|cK (IntKind.i64.wrap (s1 + 1)) H14 (.cons c<|.cons c<|.cons c<|.cons c<|.nil _) .slnil) fun k10 H11=>W (cc<|bH k10)<|W (cc<|bH k10)<|W (cc<|bH k10)<|p (aT c (bH k10) c)<|ac<|mu c c<|M<|O c<|ai<|Y ⟨false,c,H11⟩) fun k4 H5=>bi<|M<|O c<|ai<|Y ⟨true,c,H5⟩
end Go.Proofs.YtniiiakkdoiaiaaGreatDoor
namespace Go.Proofs.YtniiiakkdoiaiaaGreatDoor
open Go Mb
abbrev Pick:=du
abbrev vK (s:Sl) (xs:List Pick):As:=vec t_api_Pick 10 du.C s xs
theorem pick_len (p:Pick):p.C.length = 10:=rfl
theorem pick_one (p:Pick):dG p.C = true:=rfl
namespace Fair
def longFrom (kind core:Int):List Pick→Int→Int→Int
  | [],best,_=>best
  | p::ps,best,now=>if p.fKind = kind∧p.fCore = core then longFrom kind core ps (mx best 0) 0 else longFrom kind core ps (mx best (IntKind.i64.wrap (now + 1))) (IntKind.i64.wrap (now + 1))
def longest (ps:List Pick) (kind core:Int):Int:=longFrom kind core ps 0 0
def okCore (ps:List Pick) (b:Int) (c:Nat):Bool:=decide (longest ps 2 c < b) && decide (longest ps 3 c < b)
def fair (ps:List Pick) (cores b:Int):Bool:=(List.range cores.toNat).all (okCore ps b)
def pk (kind:Int) (c:Nat):Pick:=⟨kind,c,0,⟨0,0,0,0,0⟩,0,0⟩
def line (kind:Int) (c:Nat):List Pick:=(List.range c).map (pk kind)
def lines (c:Nat) (kinds:List Int):List Pick:=kinds.flatMap fun k=>line k c
def turns (c n:Nat):List Pick:=(List.range n).flatMap fun _=>lines c [3,2]
def rounds (cores n:Int):List Pick:=if cores < 1∨cores > 8∨n < 0∨n > 500 then [] else turns cores.toNat n.toNat
theorem line_len (kind:Int) (c:Nat):(line kind c).length = c:=by simp [line]
theorem line_succ (kind:Int) (c:Nat):line kind (c + 1) = line kind c++[pk kind c]:=by simp [line,List.range_succ]
theorem turns_succ (c n:Nat):turns c (n + 1) = turns c n++lines c [3,2]:=by simp [turns,List.range_succ]
theorem lines_len (c:Nat):∀ (ks:List Int),(lines c ks).length = ks.length * c
  | []=>by simp [lines]
  | k::ks=>by
    have:=lines_len c ks
    simp only [lines,List.flatMap_cons,List.length_append,line_len,List.length_cons,Nat.succ_mul] at this ⊢
    omega
theorem turns_len (c n:Nat):(turns c n).length = n * (2 * c):=by
  induction n with
  | zero=>simp [turns]
  | succ n ih=>rw [turns_succ,List.length_append,ih,lines_len,Nat.add_mul n 1,Nat.one_mul]; rfl
end Fair
theorem sp_fair_Longest (s:Sl) (ps:List Pick) (kind core:Int) (hb:ps.length < 2 ^ 40):Sp Tryz.prog oK [sv s,.int .i64 kind,.int .i64 core] eA [vK s ps] (fun r=>pa_ (r = Fair.longest ps kind core) [vK s ps]):=by
  intro h s0
  have hl:=(ch (j:=0) s0 rfl).1
  refine sim_fair_Longest _ _ _ ?_
  unfold sh_fair_Longest
  refine Lp.intro (fun (z:Int × Int × Int) h=>∃ n:Nat,z.2.2 = n∧n ≤ ps.length∧Fair.longFrom kind core (ps.drop n) z.1 z.2.1 = Fair.longest ps kind core∧aG [vK s ps] h) (fun (z:Int × Int × Int) _=>ps.length - z.2.2.toNat) ⟨0,rfl,Nat.zero_le _,rfl,s0⟩ ?_
  rintro ⟨best,now,i⟩ h ⟨n,rfl,hn,he,s1⟩
  unfold rg
  simp only at he ⊢
  refine aX (fun k=>?_) (fun k=>?_)
  · have hlt:n < ps.length:=by rw [hl] at k; simpa using k
    have hw:IntKind.i64.wrap ((n:Int) + 1) = ((n + 1:Nat):Int):=by rw [bN (by omega) (by omega)]; rfl
    rw [List.drop_eq_getElem_cons hlt,Fair.longFrom] at he
    refine dy s1 (j:=0) rfl (by omega) (by omega) fun q hq=>?_
    refine eu (j:=0) (i:=n) (k:=0) ps[n] pick_len s1 rfl hq rfl (aF hlt) (by simp) ?_
    rw [hw]
    refine aX (fun k2=>?_) (fun k2=>?_)
    · have k2':ps[n].fKind = kind∧ps[n].fCore = core:=by simpa using k2
      rw [if_pos k2'] at he
      exact ⟨⟨n + 1,rfl,hlt,he,s1⟩,by simp; omega⟩
    · have k2':¬ (ps[n].fKind = kind∧ps[n].fCore = core):=by simpa using k2
      rw [if_neg k2'] at he
      exact ⟨⟨n + 1,rfl,hlt,he,s1⟩,by simp; omega⟩
  · have:n = ps.length:=by rw [hl] at k; simp at k; omega
    subst this
    rw [List.drop_length] at he
    exact aW he s1
theorem sp_fair_Fair (s:Sl) (ps:List Pick) (cores b:Int) (hb:ps.length < 2 ^ 40) (hc:cores < 2 ^ 62):Sp Tryz.prog n_fair_Fair [sv s,.int .i64 cores,.int .i64 b] aB [vK s ps] (fun r=>pa_ (r = Fair.fair ps cores b) [vK s ps]):=by
  intro h s0
  refine sim_fair_Fair _ _ _ ?_
  unfold sh_fair_Fair
  refine Lp.intro (fun (i:Int) h=>∃ n:Nat,i = n∧n ≤ cores.toNat∧(∀ c,c < n→Fair.okCore ps b c = true)∧aG [vK s ps] h) (fun (i:Int) _=>cores.toNat - i.toNat) ⟨0,rfl,Nat.zero_le _,fun c hc=>by omega,s0⟩ ?_
  rintro i h ⟨n,rfl,hn,ho,s1⟩
  unfold xh
  refine aX (fun k=>?_) (fun k=>?_)
  · have hlt:n < cores.toNat:=by have:=of_decide_eq_true k; omega
    have hw:IntKind.i64.wrap ((n:Int) + 1) = ((n + 1:Nat):Int):=by rw [bN (by omega) (by omega)]; rfl
    have no:Fair.okCore ps b n = false→Fair.fair ps cores b = false:=fun hf=>by
      unfold Fair.fair
      cases ha:(List.range cores.toNat).all (Fair.okCore ps b) with
      | false=>rfl
      | true=>rw [List.all_eq_true.1 ha n (List.mem_range.2 hlt)] at hf; cases hf
    refine bO (sp_fair_Longest s ps 2 n hb) (i:=0) rfl s1 fun r h2 hr s2=>?_
    subst hr
    refine aX (fun k2=>?_) (fun k2=>?_)
    · have k2':Fair.longest ps 2 n < b:=by simpa using k2
      refine bO (sp_fair_Longest s ps 3 n hb) (i:=0) rfl s2 fun r h3 hr s3=>?_
      subst hr
      refine aX (fun k3=>?_) (fun k3=>?_)
      · have k3':¬ Fair.longest ps 3 n < b:=by simp at k3; omega
        exact aW (no (by simp [Fair.okCore,k3'])).symm s3
      · have k3':Fair.longest ps 3 n < b:=by simp at k3; omega
        rw [hw]
        refine ⟨⟨n + 1,rfl,hlt,fun c hc=>?_,s3⟩,by simp; omega⟩
        by_cases e:c = n
        · subst e; simp [Fair.okCore,k2',k3']
        · exact ho c (by omega)
    · have k2':¬ Fair.longest ps 2 n < b:=by simp at k2; omega
      exact aW (no (by simp [Fair.okCore,k2'])).symm s2
  · have:n = cores.toNat:=by have:=of_decide_eq_false k; omega
    subst this
    refine aW ?_ s1
    unfold Fair.fair
    exact (List.all_eq_true.2 fun c hc=>ho c (List.mem_range.1 hc)).symm
theorem sp_fair_Rounds (cores n:Int):Sp Tryz.prog uK [.int .i64 cores,.int .i64 n] nU [] (fun r=>aG [vK r (Fair.rounds cores n)]):=by
  intro h s0
  refine sim_fair_Rounds _ _ ?_
  unfold sh_fair_Rounds
  refine aX (fun k=>?_) (fun k=>?_)
  · have e1:Fair.rounds cores n = []:=if_pos (by simpa [or_assoc] using k)
    rw [e1]; exact fI s0
  · have k':¬ (cores < 1∨cores > 8∨n < 0∨n > 500):=by simp at k; omega
    have e1:Fair.rounds cores n = Fair.turns cores.toNat n.toNat:=if_neg k'
    rw [e1]
    obtain ⟨C,rfl⟩:=Int.eq_ofNat_of_zero_le (show 0 ≤ cores by omega)
    obtain ⟨N,rfl⟩:=Int.eq_ofNat_of_zero_le (show 0 ≤ n by omega)
    simp only [Int.toNat_natCast]
    refine fx (τ:=Pick) [] (val:=fun x=>.agg x.C.toArray) (enc:=du.C) el_Sapi_Pick pick_len (fun _=>rfl) s0 rfl rfl (by simp) fun v h1 s1=>?_
    refine Lp.intro (fun (z:Sl × Int) h=>∃ j:Nat,z.2 = j∧j ≤ N∧aG [vK z.1 (Fair.turns C j)] h) (fun (z:Sl × Int) _=>N - z.2.toNat) ⟨0,rfl,Nat.zero_le _,s1⟩ ?_
    rintro ⟨z,i⟩ h ⟨j,rfl,hj,s2⟩
    unfold tj
    refine aX (fun k2=>?_) (fun k2=>?_)
    · have hlt:j < N:=by have:=of_decide_eq_true k2; simp at this; exact this
      have hw:IntKind.i64.wrap ((j:Int) + 1) = ((j + 1:Nat):Int):=by rw [bN (by omega) (by omega)]; rfl
      have htl:=Fair.turns_len C j
      have hC:C ≤ 8:=by omega
      have hjb:j * (2 * C) ≤ 500 * 16:=Nat.mul_le_mul (by omega) (by omega)
      refine fx (τ:=Int) [3,2] (val:=fun x=>.int .i64 x) (enc:=cI .i64) el_Sint (dc _) (fun _=>rfl) s2 rfl rfl (by decide) fun vk h3 s3=>?_
      have hvl:=(ch (j:=0) s3 rfl).1
      refine Lp.intro (fun (y:Sl × Int) h=>∃ m:Nat,y.2 = m∧m ≤ 2∧aG [vK y.1 (Fair.turns C j++Fair.lines C (([3,2]:List Int).take m)),vec kL 1 (cI .i64) vk [3,2]] h) (fun (y:Sl × Int) _=>2 - y.2.toNat) ⟨0,rfl,Nat.zero_le _,by
        have s4:=bb (m:=[vK z (Fair.turns C j),vec kL 1 (cI .i64) vk [3,2]]) [1] s3 rfl
        simpa [Fair.lines] using s4⟩ ?_
      rintro ⟨y,i2⟩ h ⟨m,rfl,hm,s4⟩
      unfold ti
      refine aX (fun k3=>?_) (fun k3=>?_)
      · have hlt2:m < 2:=by rw [hvl] at k3; have:=of_decide_eq_true k3; simp at this; omega
        have hw2:IntKind.i64.wrap ((m:Int) + 1) = ((m + 1:Nat):Int):=by rw [bN (by omega) (by omega)]; rfl
        have hkl:m < ([3,2]:List Int).length:=hlt2
        refine dy s4 (j:=1) rfl (by omega) (by simp; omega) fun q hq=>?_
        refine eu (j:=1) (i:=m) (k:=0) ([3,2]:List Int)[m] (dc _) s4 rfl hq (by simp) (aF hkl) (by simp) ?_
        have hll:=Fair.lines_len C (([3,2]:List Int).take m)
        have hlb:(([3,2]:List Int).take m).length * C ≤ 2 * 8:=Nat.mul_le_mul (by simp; omega) (by omega)
        refine Lp.intro (fun (x:Sl × Int) h=>∃ p:Nat,x.2 = p∧p ≤ C∧aG [vK x.1 (Fair.turns C j++Fair.lines C (([3,2]:List Int).take m)++Fair.line ([3,2]:List Int)[m] p),vec kL 1 (cI .i64) vk [3,2]] h) (fun (x:Sl × Int) _=>C - x.2.toNat) ⟨0,rfl,Nat.zero_le _,by simpa [Fair.line] using s4⟩ ?_
        rintro ⟨x,i3⟩ h ⟨p,rfl,hp,s5⟩
        have hpl:=Fair.line_len ([3,2]:List Int)[m] p
        unfold th
        refine aX (fun k4=>?_) (fun k4=>?_)
        · have hlt3:p < C:=by have:=of_decide_eq_true k4; simp at this; exact this
          have hw3:IntKind.i64.wrap ((p:Int) + 1) = ((p + 1:Nat):Int):=by rw [bN (by omega) (by omega)]; rfl
          refine kw (τ:=Pick) (i:=0) (enc:=du.C) (val:=fun x=>.agg x.C.toArray) (x:=Fair.pk ([3,2]:List Int)[m] p) el_Sapi_Pick pick_len pick_one (fun _=>rfl) (by omega) rfl rfl s5 rfl (by simp only [List.length_append]; omega) (by simp only [List.length_append]; omega) fun v h6 s6=>?_
          rw [hw3]
          refine ⟨⟨p + 1,rfl,hlt3,?_⟩,by simp; omega⟩
          rw [Fair.line_succ,← List.append_assoc]
          exact s6
        · have:p = C:=by have:=of_decide_eq_false k4; simp at this; omega
          subst this
          rw [hw2]
          refine ⟨⟨m + 1,rfl,hlt2,?_⟩,by simp; omega⟩
          have et:([3,2]:List Int).take (m + 1) = ([3,2]:List Int).take m++[([3,2]:List Int)[m]]:=by rw [List.take_add_one,aF hkl]; rfl
          have el:Fair.lines p (([3,2]:List Int).take (m + 1)) = Fair.lines p (([3,2]:List Int).take m)++Fair.line ([3,2]:List Int)[m] p:=by
            rw [et]; unfold Fair.lines; rw [List.flatMap_append]; simp
          rw [el,← List.append_assoc]
          exact s5
      · have:m = 2:=by rw [hvl] at k3; have:=of_decide_eq_false k3; simp at this; omega
        subst this
        rw [hw]
        refine ⟨⟨j + 1,rfl,hlt,?_⟩,by simp; omega⟩
        rw [Fair.turns_succ]
        exact nz (l:=[vK y (Fair.turns C j++Fair.lines C [3,2])]) s4
    · have:j = N:=by have:=of_decide_eq_false k2; simp at this; omega
      subst this
      exact s2
end Go.Proofs.YtniiiakkdoiaiaaGreatDoor
namespace Go.Proofs.YtniiiakkdoiaiaaGreatDoor
open Go Mb
set_option linter.unusedVariables false
def wc (a0:Sl) (a1:Int) (K:Sl→Hp→Prop) (Rec2:(Sl × Int)→Hp→Prop) (s1:Sl × Int):Hp→Prop:=br (decide (s1.2 < (a0.len:Int))) ( ix a0 s1.2 fun q12=>ld (q12.1,q12.2 + Int.toNat s1.2 * 16) au.C fun x13=>br ((x13.fEnv == a1) && (decide (x13.fEnd > 0))) ( hpv Tryz.prog (Instr.buildSlice mH 1 #[(0,(.agg (ab.C x13.fAnswer).toArray))]) mR fun (v26:Sl)=>hpv Tryz.prog (Builtin.append_ #[mH,mH] mH #[(sv s1.1),(sv v26)]) mR fun (v27:Sl)=>Rec2 (v27,(IntKind.i64.wrap (s1.2 + 1)))) ( Rec2 (s1.1,(IntKind.i64.wrap (s1.2 + 1))))) ( K s1.1)
def sh_twin_View (a0:Sl) (a1:Int) (K:Sl→Hp→Prop):Hp→Prop:=Lp (wc a0 a1 K) ((⟨none,0,0,none⟩:Sl),0)
theorem sim_twin_View (a0:Sl) (a1:Int) {K:Sl→Hp→Prop} {h:Hp} (H:sh_twin_View a0 a1 K h):Ct Tryz.prog n_twin_View #[(sv a0),(.int .i64 a1)] h fun v h'=>∃ r,v = mR r∧K r h':=aw [(sv a0),(.int .i64 a1)] Tryz.func51 c c c fun _=>M<|O c<|M<|O c<|ak<|M<|J c<|p (dz c Tryz.underlying39 c)<|J c<|ac<|ax<|bD (step:=wc a0 a1 K) (fun s1=>[(1,(.int .i64 a1)),(5,(sv s1.1)),(8,(sv a0)),(9,(.int .i64 (a0.len:Int))),(10,(.int .i64 s1.2))]) (fun s1=>[]) H (.cons c<|.cons c<|.cons c<|.cons c<|.cons c<|.nil _) .slnil fun Rec2 s1 _ H3=>M<|p (ct c c)<|ac<|ak<|av c H3 (fun k4 H5=>an<|ak<|ax<|M<|cj H5 fun q12 e6 h7 H8=>p (bo qW (aL c<|ba e6) c h7)<|aa<|gJ H8 ux c (fun _=>c) c fun x13 H9=>aa<|aK (l:=au.C (⟨0,0,(⟨0,0,0,0,0⟩:ae),0,0,0,(⟨0,0⟩:ab),(⟨0,0,0,0⟩:al)⟩:au)) tC c c fun b7=>aa<|aO (k:=0) (vs:=au.C x13) inf_51 c c c c c c c<|ac<|M<|p (ad oO c)<|bh (bf (k:=0) aY c c c) c<|J c<|p (bM c c)<|J c<|V c c (ay _) (fun g10=>wv<|ad qP c)<|V c c (ay _) (fun g11=>cv<|bf (k:=0) aY (aD c g11) c c)<|V c c (ay _) (fun g12=>wv<|qr (aD c g12) c)<|p (bP c c)<|ac<|av c H9 (fun k13 H14=>ao<|J c<|p (ad km c)<|bh (bB (k:=0) cA c c c c) c<|aa<|aR H14 (bu (vs:=[(.agg (ab.C x13.fAnswer).toArray)]) c) c fun v26 _ H15=>aa<|aR H15 (dE c c) c fun v27 _ H16=>O c<|ao<|p (bp c c)<|J c<|ac<|cK (v27,(IntKind.i64.wrap (s1.2 + 1))) H16 (.cons c<|.cons c<|.cons c<|.cons c<|.cons c<|.nil _)<|.cons _ .slnil) fun k13 H14=>an<|ao<|p (bp c c)<|J c<|ac<|cK (s1.1,(IntKind.i64.wrap (s1.2 + 1))) H14 (.cons c<|.cons c<|.cons c<|.cons c<|.cons c<|.nil _)<|.cons _ .slnil) fun k4 H5=>bi<|M<|J c<|O c<|ai<|Y ⟨s1.1,c,H5⟩
end Go.Proofs.YtniiiakkdoiaiaaGreatDoor
namespace Go.Proofs.YtniiiakkdoiaiaaGreatDoor
open Go Mb
abbrev vA (s:Sl) (xs:List eJ):As:=vec rJ 2 ab.C s xs
theorem ans_len (p:eJ):p.C.length = 2:=rfl
theorem ans_one (p:eJ):dG p.C = true:=rfl
namespace Twin
def view (env:Int):List bj→List eJ
  | []=>[]
  | e::es=>if e.fEnv = env∧e.fEnd > 0 then e.fAnswer::view env es else view env es
def same:List eJ→List eJ→Bool
  | [],[]=>true
  | a::l,b::r=>ab.eqb a b && same l r
  | _,_=>false
theorem view_app (env:Int) (e:bj):∀ es,view env (es++[e]) = view env es++(if e.fEnv = env∧e.fEnd > 0 then [e.fAnswer] else [])
  | []=>by simp only [List.nil_append,view]
  | d::es=>by
    simp only [List.cons_append,view,view_app env e es]
    split <;> simp
theorem view_len (env:Int):∀ es,(view env es).length ≤ es.length
  | []=>Nat.le_refl _
  | e::es=>by unfold view; have:=view_len env es; split <;> simp <;> omega
end Twin
theorem sp_twin_View (s:Sl) (es:List bj) (env:Int) (hb:es.length < 2 ^ 38):Sp Tryz.prog n_twin_View [sv s,.int .i64 env] mR [vE s es] (fun r=>aG [vA r (Twin.view env es),vE s es]):=by
  intro h s0
  have hl:=(ch (j:=0) s0 rfl).1
  refine sim_twin_View _ _ ?_
  unfold sh_twin_View
  refine Lp.intro (fun (z:Sl × Int) h=>∃ n:Nat,z.2 = n∧n ≤ es.length∧aG [vA z.1 (Twin.view env (es.take n)),vE s es] h) (fun (z:Sl × Int) _=>es.length - z.2.toNat) ⟨0,rfl,Nat.zero_le _,fI s0⟩ ?_
  rintro ⟨z,i⟩ h ⟨n,rfl,hn,s1⟩
  unfold wc
  refine aX (fun k=>?_) (fun k=>?_)
  · have hlt:n < es.length:=by rw [hl] at k; simpa using k
    have hw:IntKind.i64.wrap ((n:Int) + 1) = ((n + 1:Nat):Int):=by rw [bN (by omega) (by omega)]; rfl
    have ht:es.take (n + 1) = es.take n++[es[n]]:=by simp
    refine dy s1 (j:=1) rfl (by omega) (by show (n:Int) < _; omega) fun q hq=>?_
    refine eu (j:=1) (i:=n) (k:=0) es[n] mv s1 rfl hq rfl (aF hlt) (by simp) ?_
    rw [hw]
    refine aX (fun k2=>?_) (fun k2=>?_)
    · have k2':es[n].fEnv = env∧es[n].fEnd > 0:=by simpa using k2
      have hvl:=Twin.view_len env (es.take n)
      simp at hvl
      refine kw (τ:=eJ) (i:=0) (enc:=ab.C) (val:=fun x=>.agg x.C.toArray) el_Sapi_Answer ans_len ans_one (fun _=>rfl) (by omega) rfl rfl s1 rfl (by omega) (by omega) fun v h2 s2=>?_
      refine ⟨⟨n + 1,rfl,hlt,?_⟩,by simp; omega⟩
      rw [ht,Twin.view_app,if_pos k2']
      exact s2
    · have k2':¬ (es[n].fEnv = env∧es[n].fEnd > 0):=by simpa using k2
      refine ⟨⟨n + 1,rfl,hlt,?_⟩,by simp; omega⟩
      rw [ht,Twin.view_app,if_neg k2',List.append_nil]
      exact s1
  · have:n = es.length:=by rw [hl] at k; simp at k; omega
    subst this
    rw [List.take_length] at s1
    exact s1
end Go.Proofs.YtniiiakkdoiaiaaGreatDoor
namespace Go.Proofs.YtniiiakkdoiaiaaGreatDoor
open Go Mb
variable {ET:Nat} {EF:Nat × Nat}
theorem kern_nn {l:List As} {h:Hp} {x:Ptr} {k:KK} (s:aG (cL x k::l) h):x.isNone = false:=nn_of (fun _ e=>by rw [e.1]; rfl) s
namespace B16
abbrev sz:fK:=⟨2,2,3⟩
def r1:=KK.run (KK.new ⟨2,2,3⟩) 0 0 ⟨1,1,0,0,0⟩
def r2:=KK.run r1.2 0 0 ⟨6,4,1,3,0⟩
def r3:=KK.run r2.2 1 0 ⟨21,4,2,9,0⟩
def r4:=KK.run r3.2 0 0 ⟨20,4,2,0,0⟩
def r5:=KK.run r4.2 0 0 ⟨7,4,0,0,0⟩
def es:=r5.2.events
theorem es_len:es.length = 5:=by kernel_rfl
theorem apart:Hist.may es sz = true:=by kernel_rfl
theorem now1:r1.2.now < 1000:=of_decide_eq_true (by kernel_rfl)
theorem now2:r2.2.now < 1000:=of_decide_eq_true (by kernel_rfl)
theorem now3:r3.2.now < 1000:=of_decide_eq_true (by kernel_rfl)
theorem now4:r4.2.now < 1000:=of_decide_eq_true (by kernel_rfl)
theorem now5:r5.2.now < 1000:=of_decide_eq_true (by kernel_rfl)
theorem lin:Judge.linear es sz = (-1,true):=by kernel_rfl
theorem acc:Judge.accesses es sz = (-1,true):=by kernel_rfl
theorem rgt:Judge.right es sz = true:=by kernel_rfl
end B16
theorem ord20 {es:List bj} (s:Sl) (h:es.length ≤ 20):Hist.Apart es→OrdOk s es:=fun ha=>sp_hist_Order20 s es h ha
theorem sp_begun16:Sp Tryz.prog kB [] aB [(etB ET EF)] (fun r=>pa_ (r = true) [(etB ET EF)]):=by
  intro h st
  refine uV ?_
  unfold ov
  refine mb (sp_kern_New ⟨2,2,3⟩ (by decide)) st fun x h1 s1=>?_
  refine dr (kern_nn s1) ?_
  refine bO (i:=0) (sp_Run x _ 0 0 ⟨1,1,0,0,0⟩ (by decide)) rfl s1 fun a1 h2 e1 s2=>?_
  refine bO (i:=0) (sp_Run x B16.r1.2 0 0 ⟨6,4,1,3,0⟩ (by have:=B16.now1; omega)) rfl s2 fun a2 h3 e2 s3=>?_
  refine bO (i:=0) (sp_Run x B16.r2.2 1 0 ⟨21,4,2,9,0⟩ (by have:=B16.now2; omega)) rfl s3 fun a3 h4 e3 s4=>?_
  refine bO (i:=0) (sp_Run x B16.r3.2 0 0 ⟨20,4,2,0,0⟩ (by have:=B16.now3; omega)) rfl s4 fun a4 h5 e4 s5=>?_
  refine bO (i:=0) (sp_Run x B16.r4.2 0 0 ⟨7,4,0,0,0⟩ (by have:=B16.now4; omega)) rfl s5 fun a5 h6 e5 s6=>?_
  refine vS (i:=0) (oe x B16.r5.2 (by have:=B16.now5; omega)) rfl s6 fun s h7 s7=>?_
  have hes:B16.es.length < 2 ^ 38:=by rw [B16.es_len]; decide
  have hes20:B16.es.length ≤ 20:=by rw [B16.es_len]; decide
  refine bO (i:=0) (sp_judge_Linear s B16.es B16.sz (by decide) hes (ord20 s hes20)) rfl s7 fun r1 h8 f1 s8=>?_
  refine bO (i:=0) (sp_judge_Access s B16.es B16.sz (by decide) hes (ord20 s hes20)) rfl s8 fun r2 h9 f2 s9=>?_
  refine mb (sp_fair_Rounds 2 3) s9 fun t h10 s10=>?_
  refine bO (i:=3) sp_Begun11 rfl s10 fun r3 h11 f3 s11=>?_
  have hl:((s.len:Int) == 5) = true:=by rw [(ch (j:=1) s11 rfl).1]; kernel_rfl
  have htl:((t.len:Int) == 12) = true:=by rw [(ch (j:=0) s11 rfl).1]; kernel_rfl
  have g1:a1 = B16.r1.1:=e1.1
  have g2:a2 = B16.r2.1:=e2.1
  have g3:a3 = B16.r3.1:=e3.1
  have g4:a4 = B16.r4.1:=e4.1
  have g5:a5 = B16.r5.1:=e5.1
  rw [B16.lin] at f1
  rw [B16.acc] at f2
  rw [f1,f2,f3,g1,g2,g3,g4,g5,hl]
  refine dI (by kernel_rfl) ?_
  refine bO (i:=1) (sp_hist_May s B16.es B16.sz hes) rfl s11 fun r4 h12 f4 s12=>?_
  refine dI (f4.trans B16.apart) ?_
  refine vS (i:=1) (sp_hist_Order20 s B16.es hes20 (Hist.may_apart B16.apart)) rfl s12 fun o h13 s13=>?_
  have hol:((o.len:Int) == 5) = true:=by rw [(ch (j:=0) s13 rfl).1]; kernel_rfl
  refine dI (by rw [hol,htl]; rfl) ?_
  refine bO (i:=1) (sp_fair_Fair t _ 2 5 (by decide) (by decide)) rfl s13 fun r5 h14 f5 s14=>?_
  refine dI (f5.trans (by kernel_rfl)) ?_
  refine vS (i:=2) (sp_twin_View s B16.es 0 hes) rfl s14 fun v h15 s15=>?_
  have hvl:((v.len:Int) == 5) = true:=by rw [(ch (j:=0) s15 rfl).1]; kernel_rfl
  refine dI hvl ?_
  refine bO (i:=3) (sp_judge_Right s B16.es B16.sz (by decide) hes (ord20 s hes20)) rfl s15 fun r6 h16 f6 s16=>?_
  exact aW (f6.trans B16.rgt) (bZ (l:=[_,_,_,_,_]) s16)
end Go.Proofs.YtniiiakkdoiaiaaGreatDoor
namespace Go.Proofs.YtniiiakkdoiaiaaGreatDoor
open Go Mb
namespace KK
def lastE (c:Int):List bj→bj→bj
  | [],e=>e
  | x::es,e=>lastE c es (if x.fCore = c then x else e)
def last (k:KK) (c:Int):bj:=lastE c k.events ⟨0,0,⟨0,0,0,0,0⟩,0,0,0,⟨0,0⟩,⟨0,0,0,0⟩⟩
end KK
theorem field_ans (e:bj) (K:Value→Hp→Prop) (h:Hp):hp Tryz.prog (Instr.field qw (.agg (au.C e).toArray) 6) K h = K (fy e.fAnswer) h:=by kernel_rfl
theorem field_err (a:eJ) (K:Value→Hp→Prop) (h:Hp):hp Tryz.prog (Instr.field rJ (.agg (ab.C a).toArray) 0) K h = K (bc a.fErr) h:=by kernel_rfl
theorem sp_last (x:Ptr) (k:KK) (c:Int) (hn:k.now < 2 ^ 37):Sp Tryz.prog lr [pv x,.int .i64 c] R_api_Event [cL x k] (fun r=>pa_ (r = KK.last k c) [cL x k]):=by
  intro h st
  refine wB _ _ ?_
  unfold pw
  have n0:=kern_n0 st
  refine vS (i:=0) (oe x k (by omega)) rfl st fun v h1 s1=>?_
  have hl:=(ch (j:=0) s1 rfl).1
  have s1:aG [vE v k.events,cL x k] h1:=s1
  refine Lp.intro (fun (z:Int × bj) h=>∃ n:Nat,z.1 = n∧n ≤ k.events.length∧KK.lastE c (k.events.drop n) z.2 = KK.last k c∧aG [vE v k.events,cL x k] h) (fun (z:Int × bj) _=>k.events.length - z.1.toNat) ⟨0,rfl,Nat.zero_le _,rfl,s1⟩ ?_
  rintro ⟨i,e⟩ h2 ⟨n,rfl,hn2,he,s2⟩
  unfold kE
  simp only at he ⊢
  have n2:=n0.2
  refine aX (fun d=>?_) (fun d=>?_)
  · have hlt:n < k.events.length:=by rw [hl] at d; simpa using d
    have hw:IntKind.i64.wrap ((n:Int) + 1) = ((n + 1:Nat):Int):=by rw [bN (by omega) (by omega)]; rfl
    rw [List.drop_eq_getElem_cons hlt,KK.lastE] at he
    refine dy s2 (j:=0) rfl (by omega) (by omega) fun q hq=>?_
    refine eu (j:=0) (i:=n) (k:=0) k.events[n] mv s2 rfl hq rfl (aF hlt) (by simp) ?_
    rw [hw]
    refine aX (fun d2=>?_) (fun d2=>?_)
    · rw [if_pos (by simpa using d2)] at he
      exact ⟨⟨n + 1,rfl,hlt,he,s2⟩,by simp; omega⟩
    · rw [if_neg (by simpa using d2)] at he
      exact ⟨⟨n + 1,rfl,hlt,he,s2⟩,by simp; omega⟩
  · have:n = k.events.length:=by rw [hl] at d; simp at d; omega
    subst this
    rw [List.drop_length] at he
    exact aW he (bZ (l:=[_]) s2)
end Go.Proofs.YtniiiakkdoiaiaaGreatDoor
namespace Go.Proofs.YtniiiakkdoiaiaaGreatDoor
open Go Mb
theorem mod_in (x:Int) {n:Int} (h:1 ≤ n∧n ≤ 100):0 ≤ (IntKind.i64.wrap (x.tmod n + n)).tmod n∧(IntKind.i64.wrap (x.tmod n + n)).tmod n < n:=by
  have h1:=Int.tmod_lt_of_pos x (show (0:Int) < n by omega)
  have h2:-n < x.tmod n:=by
    have:=Int.tmod_lt_of_pos (-x) (show (0:Int) < n by omega)
    rw [Int.neg_tmod] at this
    omega
  rw [bN (by omega) (by omega)]
  exact ⟨Int.tmod_nonneg _ (by omega),Int.tmod_lt_of_pos _ (by omega)⟩
end Go.Proofs.YtniiiakkdoiaiaaGreatDoor
namespace Go.Proofs.YtniiiakkdoiaiaaGreatDoor
open Go Mb
variable {ET:Nat} {EF:Nat × Nat}
theorem all_closed:Closed All:=⟨fun A=>A.inv,fun A hn c=>A.post hn c,fun A hn c=>A.step hn c⟩
theorem post_keep (k:KK) (c:Int):(KK.post k c).2.events = k.events∧(KK.post k c).2.p = k.p∧(KK.post k c).2.calls = k.calls:=by
  unfold KK.post
  split
  · exact ⟨rfl,rfl,rfl⟩
  · split <;> exact ⟨rfl,rfl,rfl⟩
theorem step_plain {k:KK} (A:IE k) (hn:k.now < 2 ^ 40) {c:Nat} {x:KC} (hc:c < k.calls.length) (hx:k.calls[c]? = some (some x)) (hu:bJ (az x.fc).1 = false) (ht:KK.takes k.p x = false) (hf:x.ftold = false) (hd:(PK.do_ k.p x.fenv x.fc).1.2 = true) :
    ∃ m e0,k.events[m]? = some e0∧x.fat = (m:Nat)∧e0.fEffect = 0∧(KK.step k c).2.events = k.events.set m (KK.evend e0 (k.now + 1) (PK.do_ k.p x.fenv x.fc).1.1 ii)∧(KK.step k c).2.p = (PK.do_ k.p x.fenv x.fc).2∧(KK.step k c).2.calls = k.calls.set c none:=by
  obtain ⟨m,hm,e0,g1,_,_,_,g5⟩:=A.ev.call c x hx
  have hi:KK.is k c = true:=by unfold KK.is; exact decide_eq_true (by omega)
  have hcall:KK.call k c = some x:=by unfold KK.call; rw [Int.toNat_natCast,List.getD_eq_getElem?_getD,hx]; rfl
  have hb:KK.busy k c = true:=by unfold KK.busy; rw [hi,hcall]; rfl
  have hnow:=tick_now A.inv.ok hn
  have hst:(KK.step k c).2 = KK.ends { KK.tick k with p:=(PK.do_ k.p x.fenv x.fc).2 } c x (PK.do_ k.p x.fenv x.fc).1.1 ii:=by
    unfold KK.step
    rw [if_neg (by rw [hb]; simp),hcall]
    show KK.work (KK.tick k) c x = _
    unfold KK.work
    rw [if_neg (by rw [hu]; simp),if_neg (fun h=>by rw [show KK.takes (KK.tick k).p x = KK.takes k.p x from rfl,ht] at h; cases h.2),if_neg (fun h=>by rw [hf] at h; cases h.1)]
    rw [if_pos (show (PK.do_ (KK.tick k).p x.fenv x.fc).1.2 = true from hd)]; rfl
  refine ⟨m,e0,g1,hm,g5,?_,?_,?_⟩
  · rw [hst]
    unfold KK.ends
    show (k.events.set x.fat.toNat (KK.evend (k.events.getD x.fat.toNat _) (KK.tick k).now _ _)) = _
    rw [hm,hnow]
    simp only [Int.toNat_natCast,List.getD_eq_getElem?_getD,g1,Option.getD_some]
  · rw [hst]; rfl
  · rw [hst]
    show k.calls.set (c:Int).toNat none = _
    rw [Int.toNat_natCast]
theorem lastE_of {c:Int}:∀ {es:List bj} {i:Nat} {e d:bj},es[i]? = some e→e.fCore = c→(∀ (j:Nat) e',i < j→es[j]? = some e'→e'.fCore ≠ c)→KK.lastE c es d = e
  | [],_,_,_,h,_,_=>by simp at h
  | x::es,0,e,d,h,hc,hl=>by
    simp at h
    subst h
    rw [KK.lastE,if_pos hc]
    have:∀ (es:List bj) (d:bj),(∀ e' ∈ es,e'.fCore ≠ c)→KK.lastE c es d = d:=by
      intro es
      induction es with
      | nil=>intro d _; rfl
      | cons y es ih=>intro d h; rw [KK.lastE,if_neg (h y List.mem_cons_self)]; exact ih d fun e he=>h e (List.mem_cons_of_mem _ he)
    refine this es x fun e' he=>?_
    obtain ⟨j,hj⟩:=List.getElem?_of_mem he
    exact hl (j + 1) e' (by omega) (by simpa using hj)
  | x::es,i + 1,e,d,h,hc,hl=>by
    rw [KK.lastE]
    exact lastE_of (i:=i) (by simpa using h) hc fun j e' hj he=>hl (j + 1) e' (by omega) (by simpa using he)
namespace Slot
def sz (n:Int):fK:=⟨n,1,8⟩
def cal (b:Bool):df:=if b then ⟨6,2,1,3,0⟩ else ⟨1,3,0,0,0⟩
def pre (n:Int):=KK.run (KK.new (sz n)) 0 0 ⟨1,1,0,0,0⟩
def k0 (n:Int) (b:Bool):KK:=if b then (pre n).2 else KK.new (sz n)
def p0 (n:Int) (b:Bool):PK:=(k0 n b).p
def p1 (n:Int) (b:Bool):PK:=(PK.do_ (p0 n b) 0 (cal b)).2
def nW (b:Bool):Nat:=if b then 1 else 0
structure Facts (n:Int) (b:Bool):Prop where
  sz:PK.sized (sz n) = true
  pre:b = true→(pre n).1 = (⟨0,0⟩,true)
  now:(k0 n b).now ≤ 1000
  calls:(k0 n b).calls = List.replicate n.toNat none
  evs:(k0 n b).events.length = nW b
  s:(p0 n b).s = Slot.sz n
  d0:(PK.do_ (p0 n b) 0 (cal b)).1 = (⟨0,(PK.do_ (p0 n b) 0 (cal b)).1.1.fVal⟩,true)
  d1:(PK.do_ (p1 n b) 0 (cal b)).1 = (⟨4,(PK.do_ (p1 n b) 0 (cal b)).1.1.fVal⟩,true)
  d2:(PK.do_ (p1 n b) 0 (cal b)).2 = p1 n b
theorem facts_t (n:Int) (h:2 ≤ n∧n ≤ 7):Facts n true:=by
  have:n = 2∨n = 3∨n = 4∨n = 5∨n = 6∨n = 7:=by omega
  rcases this with h | h | h | h | h | h <;> rw [h] <;> exact ⟨by kernel_rfl,fun _=>by kernel_rfl,of_decide_eq_true (by kernel_rfl),by kernel_rfl,by kernel_rfl,by kernel_rfl,by kernel_rfl,by kernel_rfl,by kernel_rfl⟩
theorem facts_f (n:Int) (h:2 ≤ n∧n ≤ 7):Facts n false:=by
  have:n = 2∨n = 3∨n = 4∨n = 5∨n = 6∨n = 7:=by omega
  rcases this with h | h | h | h | h | h <;> rw [h] <;> exact ⟨by kernel_rfl,fun h=>(by cases h),of_decide_eq_true (by kernel_rfl),by kernel_rfl,by kernel_rfl,by kernel_rfl,by kernel_rfl,by kernel_rfl,by kernel_rfl⟩
theorem user (b:Bool):bJ (az (cal b)).1 = false:=by cases b <;> kernel_rfl
theorem takes (b:Bool) (p:PK) (x:KC) (h:x.fc = cal b):KK.takes p x = false:=by
  unfold KK.takes
  rw [if_pos]
  rw [h]
  cases b
  · exact .inr (.inl (by decide))
  · exact .inr (.inr (.inr rfl))
theorem cw (b:Bool):Cw (cal b):=by cases b <;> exact ⟨by decide,by decide,by decide,by decide,by decide⟩
theorem awake (b:Bool):(cal b).e0 ≠ 9:=by cases b <;> decide
structure J (n:Nat) (b:Bool) (m:Nat) (k:KK):Prop extends All k where
  s:k.p.s = sz n
  evl:k.events.length = nW b + m
  core:∀ d:Nat,d < m→∃ e,k.events[nW b + d]? = some e∧e.fCore = (d:Int)
  call:∀ (d:Nat) x,k.calls[d]? = some (some x)→d < m∧x.fc = cal b∧x.fenv = 0∧x.ftold = false
  old:∀ (i:Nat) e,i < nW b→k.events[i]? = some e→e.fEffect ≠ 0
  st:(k.p = p0 n b∧∀ (i:Nat) e,nW b ≤ i→k.events[i]? = some e→e.fEffect = 0) ∨
    (k.p = p1 n b∧∃ (w:Nat) (e:bj),nW b ≤ w∧k.events[w]? = some e∧e.fEffect ≠ 0∧e.fAnswer.fErr = 0∧∀ (i:Nat) e',nW b ≤ i→i ≠ w→k.events[i]? = some e'→e'.fEffect ≠ 0→e'.fAnswer.fErr = 4)
theorem J.post {n:Nat} {b:Bool} {m:Nat} {k:KK} (H:J n b m k) (hn:k.now < 2 ^ 40) (c:Int):J n b m (KK.post k c).2:=by
  obtain ⟨h1,h2,h3⟩:=post_keep k c
  exact ⟨H.toAll.post hn c,by rw [h2]; exact H.s,by rw [h1]; exact H.evl,by rw [h1]; exact H.core,by rw [h3]; exact H.call,by rw [h1]; exact H.old,by rw [h1,h2]; exact H.st⟩
theorem J.step {n:Nat} {b:Bool} {m:Nat} {k:KK} (F:Facts n b) (H:J n b m k) (hn:k.now < 2 ^ 40) (c:Int):J n b m (KK.step k c).2:=by
  by_cases hb:KK.busy k c = true
  · obtain ⟨hi,x,hx⟩:=busy_is hb
    obtain ⟨c,rfl,hlt⟩:=mD hi
    have hcx:=vz hx
    obtain ⟨hcm,e1,e2,e3⟩:=H.call c x hcx
    have hdd:PK.do_ k.p x.fenv x.fc = PK.do_ k.p 0 (cal b):=by rw [e1,e2]
    have hdone:(PK.do_ k.p 0 (cal b)).1.2 = true:=by
      rcases H.st with ⟨hp,_⟩ | ⟨hp,_⟩
      · rw [hp,F.d0]
      · rw [hp,F.d1]
    obtain ⟨a,e0,g1,g2,g3,g4,g5,g6⟩:=step_plain H.toIE hn hlt hcx (by rw [e1]; exact user b) (takes b k.p x e1) e3 (by rw [hdd]; exact hdone)
    rw [hdd] at g4 g5
    have hab:nW b ≤ a:=by
      rcases Nat.lt_or_ge a (nW b) with h | h
      · exact absurd g3 (H.old a e0 h g1)
      · exact h
    have hal:=(List.getElem?_eq_some_iff.1 g1).1
    have n0:=H.inv.ok.n0
    have at_a:∀ e,(KK.step k c).2.events[a]? = some e→e = KK.evend e0 (k.now + 1) (PK.do_ k.p 0 (cal b)).1.1 ii:=fun e h=>by
      rw [g4,List.getElem?_set,if_pos rfl,if_pos hal] at h
      exact (Option.some.inj h).symm
    have at_o:∀ (i:Nat),i ≠ a→(KK.step k c).2.events[i]? = k.events[i]?:=fun i h=>by rw [g4,List.getElem?_set,if_neg (fun e=>h e.symm)]
    refine ⟨H.toAll.step hn c,by rw [g5,do_s]; exact H.s,by rw [g4,List.length_set]; exact H.evl,fun d hd=>?_,fun d y hy=>?_,fun i e hi he=>?_,.inr ⟨?_,?_⟩⟩
    · obtain ⟨e,q1,q2⟩:=H.core d hd
      by_cases h:nW b + d = a
      · rw [h] at q1
        rw [g1] at q1
        cases q1
        refine ⟨KK.evend e0 (k.now + 1) (PK.do_ k.p 0 (cal b)).1.1 ii,?_,q2⟩
        rw [h,g4,List.getElem?_set,if_pos rfl,if_pos hal]
      · exact ⟨e,by rw [at_o _ h]; exact q1,q2⟩
    · rw [g6,List.getElem?_set] at hy
      by_cases hcd:c = d
      · rw [if_pos hcd] at hy
        split at hy <;> cases hy
      · rw [if_neg hcd] at hy; exact H.call d y hy
    · rw [at_o i (by omega)] at he
      exact H.old i e hi he
    · rw [g5]
      rcases H.st with ⟨hp,_⟩ | ⟨hp,_⟩
      · rw [hp]; rfl
      · rw [hp]; exact F.d2
    · rcases H.st with ⟨hp,hz⟩ | ⟨hp,w,e,q1,q2,q3,q4,q5⟩
      · refine ⟨a,_,hab,by rw [g4,List.getElem?_set,if_pos rfl,if_pos hal],by show k.now + 1 ≠ 0; omega,?_,fun i e' h1 h2 h3 h4=>?_⟩
        · show (PK.do_ k.p 0 (cal b)).1.1.fErr = 0
          rw [hp,F.d0]
        · rw [at_o i h2] at h3
          exact absurd (hz i e' h1 h3) h4
      · have hwa:w ≠ a:=by
          rintro rfl
          rw [q2] at g1; cases g1; exact q3 g3
        refine ⟨w,e,q1,by rw [at_o w hwa]; exact q2,q3,q4,fun i e' h1 h2 h3 h4=>?_⟩
        by_cases h:i = a
        · subst h
          rw [at_a e' h3]
          show (PK.do_ k.p 0 (cal b)).1.1.fErr = 4
          rw [hp,F.d1]
        · rw [at_o i h] at h3
          exact q5 i e' h1 h2 h3 h4
  · have e:KK.step k c = (false,k):=by unfold KK.step; rw [if_pos (by simpa using hb)]
    rw [e]; exact H
theorem J.clen {n:Nat} {b:Bool} {m:Nat} {k:KK} (H:J n b m k):k.calls.length = n:=by
  have h1:=H.inv.ok.cl
  rw [H.s] at h1
  have h2:(sz n).fCores = n:=rfl
  omega
theorem J.begin {n:Nat} {b:Bool} {m:Nat} {k:KK} (H:J n b m k) (hn:k.now < 2 ^ 40) (hm:m < n):J n b (m + 1) (KK.begin_ k m 0 (cal b)).2:=by
  have hA:=H.toAll.begin hn m 0 (cw b)
  have hcl:=H.clen
  have hi:KK.is k m = true:=by unfold KK.is; exact decide_eq_true (by omega)
  have hnb:KK.busy k m = false:=by
    cases hb:KK.busy k m with
    | false=>rfl
    | true =>
      obtain ⟨x,hx⟩:=(busy_nat (by omega)).1 hb
      have:=(H.call m x hx).1
      omega
  have e:KK.begin_ k m 0 (cal b) = (true,{ k with now:=IntKind.i64.wrap (k.now + 1),events:=k.events++[KK.ev0 m 0 (cal b) (IntKind.i64.wrap (k.now + 1))],calls:=k.calls.set m (some ⟨k.events.length,0,cal b,false,0⟩) }):=by
    unfold KK.begin_
    rw [if_neg,Int.toNat_natCast]
    rw [hi,hnb,H.s]
    rintro (h | h | h | h)
    · cases h
    · cases h
    · omega
    · exact absurd h (by show ¬ (0:Int) ≥ 1; decide)
  rw [e] at hA ⊢
  have hev:=H.evl
  have at_l:∀ (i:Nat) (e:bj),i < k.events.length→(k.events++[KK.ev0 m 0 (cal b) (IntKind.i64.wrap (k.now + 1))])[i]? = some e→k.events[i]? = some e:=fun i e h he=>by rw [List.getElem?_append_left h] at he; exact he
  have at_n:∀ (i:Nat) (e:bj),k.events.length ≤ i→(k.events++[KK.ev0 m 0 (cal b) (IntKind.i64.wrap (k.now + 1))])[i]? = some e→e.fEffect = 0:=fun i e h he=>by
    rw [List.getElem?_append_right h] at he
    by_cases h0:i - k.events.length = 0
    · rw [h0] at he; simp at he; rw [← he]; rfl
    · rw [List.getElem?_eq_none (by simp; omega)] at he; cases he
  refine ⟨hA,H.s,by show (k.events++[_]).length = _; rw [List.length_append,hev]; rfl,fun d hd=>?_,fun d y hy=>?_,fun i e hi he=>?_,?_⟩
  · by_cases h:d = m
    · subst h
      refine ⟨KK.ev0 d 0 (cal b) (IntKind.i64.wrap (k.now + 1)),?_,rfl⟩
      show (k.events++[KK.ev0 d 0 (cal b) (IntKind.i64.wrap (k.now + 1))])[nW b + d]? = some (KK.ev0 d 0 (cal b) (IntKind.i64.wrap (k.now + 1)))
      rw [List.getElem?_append_right (by omega),hev]
      simp
    · obtain ⟨e,q1,q2⟩:=H.core d (by omega)
      exact ⟨e,by show (k.events++[_])[nW b + d]? = some e; rw [List.getElem?_append_left (by omega)]; exact q1,q2⟩
  · have hy':(k.calls.set m (some ⟨k.events.length,0,cal b,false,0⟩))[d]? = some (some y):=hy
    rw [List.getElem?_set] at hy'
    split at hy'
    · rename_i hdm
      split at hy'
      · simp only [Option.some.injEq] at hy'
        rw [← hy']
        exact ⟨by omega,rfl,rfl,rfl⟩
      · cases hy'
    · obtain ⟨q1,q2⟩:=H.call d y hy'
      exact ⟨by omega,q2⟩
  · exact H.old i e hi (at_l i e (by omega) he)
  · rcases H.st with ⟨hp,hz⟩ | ⟨hp,w,e,q1,q2,q3,q4,q5⟩
    · refine .inl ⟨hp,fun i e h1 h2=>?_⟩
      rcases Nat.lt_or_ge i k.events.length with h | h
      · exact hz i e h1 (at_l i e h h2)
      · exact at_n i e h h2
    · have hw:=(List.getElem?_eq_some_iff.1 q2).1
      refine .inr ⟨hp,w,e,q1,by show (k.events++[_])[w]? = some e; rw [List.getElem?_append_left hw]; exact q2,q3,q4,fun i e' h1 h2 h3 h4=>?_⟩
      rcases Nat.lt_or_ge i k.events.length with h | h
      · exact q5 i e' h1 h2 (at_l i e' h h3) h4
      · exact absurd (at_n i e' h h3) h4
theorem run_all {k:KK} (A:All k) (idle:∀ (d:Nat) x,k.calls[d]? ≠ some (some x)) (hl:k.epochs.1.length ≤ 4800) (hn:k.now < 2 ^ 33) (core env:Int) {c:df} (cw:Cw c) (h9:c.e0 ≠ 9):All (KK.run k core env c).2:=by
  have B:=A.begin (by omega) core env cw
  have hb:=KK.begin_now A.inv.ok.n0 (by omega) core env c
  have h8:=B.inv.ok.cl
  have h88:=fM.1 B.inv.ok.p.sz
  have he:(KK.begin_ k core env c).2.epochs = k.epochs∧∀ (d:Nat) x,(KK.begin_ k core env c).2.calls[d]? = some (some x)→x.fc.e0 ≠ 9:=by
    unfold KK.begin_
    split
    · exact ⟨rfl,fun d x h=>absurd h (idle d x)⟩
    · refine ⟨rfl,fun d x h=>?_⟩
      have h':(k.calls.set core.toNat (some ⟨k.events.length,env,c,false,0⟩))[d]? = some (some x):=h
      rw [List.getElem?_set] at h'
      split at h'
      · split at h'
        · simp only [Option.some.injEq] at h'
          rw [← h']; exact h9
        · cases h'
      · exact absurd h' (idle d x)
  have S:=settle_settled (m:=997) all_closed (cores:=8) B (by omega) (Nat.le_refl _) (by rw [he.1]; omega) (by omega) he.2
  have S:=S.2.all
  rw [show (997 + 3:Nat) = 1000 from rfl] at S
  unfold KK.run
  split
  · exact B
  · split
    · dsimp only; exact S
    · dsimp only; exact S
theorem idle_new (s:fK) (d:Nat) (x:KC):(KK.new s).calls[d]? ≠ some (some x):=fun h=>absurd h (rR s d x)
theorem j0 {n:Nat} {b:Bool} (F:Facts n b):J n b 0 (k0 n b):=by
  have hA:All (k0 n b):=by
    unfold k0
    split
    · exact run_all (all_new F.sz) (idle_new _) (Nat.zero_le _) (show (0:Int) < 2 ^ 33 by decide) 0 0 ⟨by decide,by decide,by decide,by decide,by decide⟩ (by decide)
    · exact all_new F.sz
  have hid:∀ (d:Nat) x,(k0 n b).calls[d]? ≠ some (some x):=fun d x h=>by
    rw [F.calls,List.getElem?_replicate] at h
    split at h <;> cases h
  refine ⟨hA,F.s,by rw [F.evs]; rfl,fun d h=>by omega,fun d x h=>absurd h (hid d x),fun i e _ he=>(hA.toIE.ended hid e (List.mem_of_getElem? he)).2,.inl ⟨rfl,fun i e h he=>?_⟩⟩
  have:=(List.getElem?_eq_some_iff.1 he).1
  have:=F.evs
  omega
theorem J.closed {n:Nat} {b:Bool} {m:Nat} (F:Facts n b):Closed (J n b m):=⟨fun A=>A.inv,fun A hn c=>A.post hn c,fun A hn c=>A.step F hn c⟩
theorem J.last {n:Nat} {b:Bool} {k:KK} (H:J n b n k) {d:Nat} (hd:d < n):∃ e,k.events[nW b + d]? = some e∧KK.last k d = e:=by
  obtain ⟨e,q1,q2⟩:=H.core d hd
  refine ⟨e,q1,lastE_of q1 q2 fun j e' hj he=>?_⟩
  have hlt:=(List.getElem?_eq_some_iff.1 he).1
  have hev:=H.evl
  obtain ⟨e2,q3,q4⟩:=H.core (j - nW b) (by omega)
  rw [show nW b + (j - nW b) = j by omega,he] at q3
  cases q3
  omega
end Slot
open Slot in
theorem sp_RaceSlot (c:Int) (s:Sl) (xs:List Int) (b:Bool):Sp Tryz.prog mM [.int .i64 c,sv s,.bool b] aB [etB ET EF,vI s xs] (fun r=>pa_ (r = true) [etB ET EF,vI s xs]):=by
  intro h st
  refine sD _ _ _ ?_
  unfold me
  refine bO (i:=0) sp_begun16 rfl st fun r h1 hr s1=>?_
  subst hr
  refine dr rfl ?_
  have m1:=mod_in c (n:=6) (by decide)
  have hw1:IntKind.i64.wrap (2 + (IntKind.i64.wrap (c.tmod 6 + 6)).tmod 6) = 2 + (IntKind.i64.wrap (c.tmod 6 + 6)).tmod 6:=bN (by omega) (by omega)
  obtain ⟨n,hn⟩:∃ n:Nat,2 + (IntKind.i64.wrap (c.tmod 6 + 6)).tmod 6 = n:=⟨(2 + (IntKind.i64.wrap (c.tmod 6 + 6)).tmod 6).toNat,by omega⟩
  have hn2:2 ≤ n∧n ≤ 7:=by omega
  rw [hw1,hn]
  have F:∀ b,Facts n b:=fun b=>by cases b; exact facts_f n (by omega); exact facts_t n (by omega)
  refine mb (sp_kern_New (sz n) (F b).sz) s1 fun x h2 s2=>?_
  refine dr (kern_nn s2) ?_
  have s2:aG [cL x (KK.new (sz n)),etB ET EF,vI s xs] h2:=s2
  have hl:=(ch (j:=2) s2 rfl).1
  have rest:∀ {h':Hp},aG [cL x (k0 n b),etB ET EF,vI s xs] h'→eq c s (fun r=>pa_ (r = true) [etB ET EF,vI s xs]) x (cal b) h':=by
    intro h3 s3
    have F:=F b
    unfold eq
    refine Lp.intro (fun (i:Int) h=>∃ (m:Nat) (k:KK),i = m∧m ≤ n∧J n b m k∧k.now ≤ 1000 + m∧aG [cL x k,etB ET EF,vI s xs] h) (fun (i:Int) _=>n - i.toNat) ⟨0,_,rfl,Nat.zero_le _,j0 F,by have:=F.now; omega,s3⟩ ?_
    rintro i h4 ⟨m,k,rfl,hm,H,hk,s4⟩
    unfold iy
    rw [hw1,hn]
    refine aX (fun d=>?_) (fun d=>?_)
    · have hlt:m < n:=by simpa using d
      have hw:IntKind.i64.wrap ((m:Int) + 1) = ((m + 1:Nat):Int):=by rw [bN (by omega) (by omega)]; rfl
      refine bO (i:=0) (sp_kern_Begin x k m 0 (cal b) (by omega)) rfl s4 fun _ h5 _ s5=>?_
      have hb:=KK.begin_now H.inv.ok.n0 (by omega) m 0 (cal b)
      rw [hw]
      exact ⟨⟨m + 1,_,rfl,hlt,H.begin (by omega) hlt,by omega,s5⟩,by simp; omega⟩
    · have hmn:m = n:=by simp at d; omega
      subst hmn
      refine Lp.intro (fun (i:Int) h=>∃ (a:Nat) (k:KK),i = a∧a ≤ xs.length∧a ≤ 60∧J m b m k∧k.now ≤ 2000 + a∧aG [cL x k,etB ET EF,vI s xs] h) (fun (i:Int) _=>xs.length - i.toNat) ⟨0,_,rfl,Nat.zero_le _,Nat.zero_le _,H,by omega,s4⟩ ?_
      rintro i h5 ⟨a,k,rfl,ha,ha60,H,hk,s5⟩
      unfold iw
      rw [hw1,hn]
      refine aX (fun d=>?_) (fun d=>?_)
      · have hc:a < xs.length∧a < 60:=by rw [hl] at d; simp at d; omega
        have hlt:=hc.1
        have hw:IntKind.i64.wrap ((a:Int) + 1) = ((a + 1:Nat):Int):=by rw [bN (by omega) (by omega)]; rfl
        refine dy s5 (j:=2) rfl (by omega) (by omega) fun q hq=>?_
        refine eu (j:=2) (i:=a) (k:=0) xs[a] (dc _) s5 rfl hq rfl (aF hlt) (by simp) ?_
        refine ⟨by omega,?_⟩
        refine bO (i:=0) (sp_kern_Step x k _ (by omega)) rfl s5 fun _ h6 _ s6=>?_
        have hb:=KK.step_now H.inv.ok.n0 (by omega) ((IntKind.i64.wrap (xs[a].tmod m + m)).tmod m)
        rw [hw]
        exact ⟨⟨a + 1,_,rfl,hlt,by omega,H.step F (by omega) _,by omega,s6⟩,by simp; omega⟩
      · have hep:(k.epochs.1.length:Int) ≤ 2060:=by have:=H.inv.ok.epn; omega
        have S:=settle_settled (m:=997) (J.closed F) (cores:=m) H (by rw [H.clen]; exact Nat.le_refl _) (by omega) (by omega) (by omega) (fun d y hy=>by rw [(H.call d y hy).2.1]; exact awake b)
        refine bO (i:=0) (sp_Settle x k m 1000 (by omega) (Nat.le_refl _) (by omega)) rfl s5 fun r h6 hr s6=>?_
        have hr1:r = (KK.settle m (997 + 3) k).1:=hr.1
        rw [S.1] at hr1
        subst hr1
        refine dr rfl ?_
        have s6:aG [cL x (KK.settle m (997 + 3) k).2,etB ET EF,vI s xs] h6:=s6
        have H':=S.2.all
        have hen:=H'.toIE.ended S.2.idle
        have hno:=S.2.now
        generalize (KK.settle m (997 + 3) k).2 = k' at s6 H' hen hno
        have hno':k'.now < 2 ^ 36:=by omega
        have hst:∃ (w:Nat) (e:bj),nW b ≤ w∧k'.events[w]? = some e∧e.fEffect ≠ 0∧e.fAnswer.fErr = 0∧∀ (i:Nat) e',nW b ≤ i→i ≠ w→k'.events[i]? = some e'→e'.fEffect ≠ 0→e'.fAnswer.fErr = 4:=by
          rcases H'.st with ⟨_,hz⟩ | ⟨_,q⟩
          · obtain ⟨e,q1,_⟩:=H'.core 0 (by omega)
            exact absurd (hz _ e (by omega) q1) (hen e (List.mem_of_getElem? q1)).2
          · exact q
        obtain ⟨w,ew,w1,w2,w3,w4,w5⟩:=hst
        have hwl:=(List.getElem?_eq_some_iff.1 w2).1
        have hev:=H'.evl
        refine Lp.intro (fun (z:Int × Int) h=>∃ t:Nat,z = ((if w - nW b < t then 1 else 0),(t:Int))∧t ≤ m∧aG [cL x k',etB ET EF,vI s xs] h) (fun (z:Int × Int) _=>m - z.2.toNat) ⟨0,by rw [if_neg (by omega)]; rfl,Nat.zero_le _,s6⟩ ?_
        rintro z h7 ⟨t,rfl,ht,s7⟩
        unfold iv
        rw [hw1,hn]
        simp only
        refine aX (fun d=>?_) (fun d=>?_)
        · have hlt:t < m:=by simpa using d
          have hw:IntKind.i64.wrap ((t:Int) + 1) = ((t + 1:Nat):Int):=by rw [bN (by omega) (by omega)]; rfl
          obtain ⟨e,q1,q2⟩:=H'.last hlt
          refine bO (i:=0) (sp_last x k' t (by omega)) rfl s7 fun r h8 hr s8=>?_
          rw [q2] at hr
          subst hr
          refine eR _ (field_ans _) (eR _ (field_err _) ?_)
          by_cases hwt:w = nW b + t
          · have:ew = r:=by rw [hwt,q1] at w2; exact (Option.some.inj w2).symm
            rw [this] at w4
            refine dI (by rw [w4]; rfl) ?_
            rw [hw]
            refine ⟨⟨t + 1,?_,hlt,s8⟩,by simp; omega⟩
            rw [if_neg (by omega),if_pos (by omega)]
            kernel_rfl
          · have h4:=w5 _ _ (by omega) (fun h=>hwt h.symm) q1 (hen _ (List.mem_of_getElem? q1)).2
            refine dr (by rw [h4]; rfl) (dI (by rw [h4]; rfl) ?_)
            rw [hw]
            refine ⟨⟨t + 1,?_,hlt,s8⟩,by simp; omega⟩
            by_cases h1:w - nW b < t
            · rw [if_pos h1,if_pos (by omega)]
            · rw [if_neg h1,if_neg (by omega)]
        · have htm:t = m:=by simp at d; omega
          subst htm
          refine dI (by rw [if_pos (by omega)]; rfl) ?_
          refine vS (i:=0) (oe x k' (by omega)) rfl s7 fun v h8 s8=>?_
          have hb20:k'.events.length ≤ 20:=by rw [hev]; unfold nW; split <;> omega
          refine bO (i:=0) (sp_judge_Right v k'.events (sz t) F.sz (by omega) (ord20 v hb20)) rfl s8 fun r h9 hr s9=>?_
          have hR:=H'.toAll.right.1
          rw [H'.s] at hR
          exact aW (hr.trans hR) (bZ (l:=[_,_]) s9)
  cases b
  · exact dr rfl (rest s2)
  · refine dI rfl ?_
    refine bO (i:=0) (sp_Run x (KK.new (sz n)) 0 0 ⟨1,1,0,0,0⟩ (show (0:Int) < 2 ^ 35 by decide)) rfl s2 fun r h3 hr s3=>?_
    have e1:r = (⟨0,0⟩,true):=hr.1.trans ((F true).pre rfl)
    subst e1
    refine dr rfl ?_
    exact rest s3
end Go.Proofs.YtniiiakkdoiaiaaGreatDoor
namespace Go.Proofs.YtniiiakkdoiaiaaGreatDoor
open Go Mb Go.ChangeShapes Go.WideShapes Go.RowKit
theorem Tryz.own:ownKnob Tryz.prog.godebug = none:=by kernel_rfl
theorem Tryz.et:Tryz.prog.globalNamed "errors.errorType" = some 0:=by kernel_rfl
theorem Tryz.rt:(Tryz.prog.cutTypes.find? (·.1 == "internal/reflectlite.rtype")).map (·.2) = some rl:=by kernel_rfl
abbrev laid:List (String × DataW Unit) := [("errors.errorType",Rows.laid_errors_errorType)]
theorem block_of_laid {W:World} (h:laidMetH Tryz.prog laid W):∃ T F,W.heap[0]? = some (.cells #[rtV gl] T F):=by
  have h':laidMet Tryz.prog [] W∧handlesMet Tryz.prog laid W:=h
  obtain ⟨name,u,ty,e1,e2,e3,e4,e5⟩:=h'.2 _ (List.mem_singleton.2 rfl)
  have en:name = [101,114,114,111,114]:=(Option.some.inj e1).symm
  subst en
  obtain rfl:=Option.some.inj (Tryz.rt.symm.trans e2)
  have hm:ty ∈ (List.range 325).filter fun t=>Tryz.prog.rowNamed t [101,114,114,111,114]:=List.mem_filter.2 ⟨List.mem_range.2 (by rw [← g4]; exact e3),e4⟩
  rw [oneErr] at hm
  obtain rfl:=List.mem_singleton.1 hm
  have hh:typeHandle Tryz.prog 171 = .pointer (some ⟨4,171,none⟩):=by kernel_rfl
  rw [hh] at e5
  unfold World.var? at e5
  rw [Tryz.et] at e5
  simp only [Option.bind_some] at e5
  split at e5
  · rename_i cs T F hq
    cases e5
    exact ⟨T,F,hq⟩
  · cases e5
noncomputable def laidWorld (os:Os):World :=
  let w0:=World.holding Tryz.prog os ⟨#[],#[],[]⟩
  { w0 with heap:=w0.heap.modify 0 fun
      | .cells _ t frozen=>.cells #[rtV gl] t frozen
      | o=>o }
theorem laidWorld_met (os:Os) (args:Array Value):laidMetH Tryz.prog laid ((laidWorld os).forCall (fun _ _=>0) ⟨#[],args,[]⟩).memory :=
  laidMetH_of_parts (laidMet_nil _ _) (by kernel_rfl)
theorem keptBut_same {w w':World} {may:MemPlace→Prop} (h1:w'.os = w.os) (h2:w'.output = w.output) (h:∀ i,i < w.heap.size→w'.heap[i]? = w.heap[i]?):w.keptBut w' may:=by
  refine ⟨h1,h2,fun i hi=>?_⟩
  have:=(World.keptBut_refl w may).2.2 i hi
  rw [h i hi]
  exact this
def kindsB (P:Program) (fn:Func) (c:OpenClaim):Bool:=c.kinds == (if c.domain.isEmpty then [] else fn.params.toList.map fun t=>match P.underlying t with | some (.int k)=>some k | _=>none)
theorem joined_split {P:Program} {f:FuncId} {fn:Func} {s:ChangeSpec} {c:OpenClaim} (h1:(c.wf (OpenSpec.ofChange s) && laidOutB P && mapsRowed P) = true)
    (h2:(fn.params.all (P.readableRec ·) && namedTie P c.named s.vars && (c.stops == []) && (P.stops == []) && (c.knobs == []) && (P.stopKnobs == [])) = true)
    (h3:(c.inPlace == P.inPlace f) = true) (h4:(c.unfollowed == P.unfollowed f) = true) (h5:(c.recurses == P.recurses f) = true) (h6:(c.named == P.varsNamed f) = true)
    (h7:((c.maps == (fn.params.toList++s.plain.varTypes P).any (P.mapsRec ·)) && (c.ifaces == (fn.params.toList++s.plain.varTypes P).any (P.ifacesRec ·)) && (c.mapsOut == P.mapsAmong fn.resultTypes.toList) &&
  (c.loops == (fn.params.toList++s.plain.varTypes P).any (P.loopsFrom ·)) && (c.wideKeys == (fn.params.toList++s.plain.varTypes P++fn.resultTypes.toList).any (P.wideKeysFrom ·)) &&
  s.vars.all (P.varReadable ·) && fn.resultTypes.all (fun t=>P.readableRec t && decide (t < P.types.size)) && (c.ifacesOut == fn.resultTypes.toList.any (P.ifacesRec ·)) && (c.loopsOut == fn.resultTypes.toList.any (P.loopsFrom ·))) = true)
    (h8:(c.plainKeys == P.plainKeys) = true) (h9:(c.shortTexts.isNone && P.stopsHeard && P.mayEnter && (c.lifted == P.liftsFinal) && (P.make == some c.make) && kindsB P fn c && (c.pinned == c.pinnedBy) &&
  (c.veiled == (fn.params.toList++s.plain.varTypes P++fn.resultTypes.toList).any (P.veiledRec ·)) && c.veiledFits P fn.params.toList (fn.params.toList++s.plain.varTypes P++fn.resultTypes.toList)) = true):joinedFacts P f fn s c = true:=by
  unfold joinedFacts
  unfold kindsB at h9
  rw [Bool.and_eq_true] at h1 h2 h7 h9
  simp only [Bool.and_eq_true] at h1 h2 h7 h9
  obtain ⟨⟨a1,a2⟩,a3⟩:=h1
  obtain ⟨⟨⟨⟨⟨b1,b2⟩,b3⟩,b4⟩,b5⟩,b6⟩:=h2
  obtain ⟨⟨⟨⟨⟨⟨⟨⟨c1,c2⟩,c3⟩,c4⟩,c5⟩,c6⟩,c7⟩,c8⟩,c9⟩:=h7
  obtain ⟨⟨⟨⟨⟨⟨⟨⟨d1,d2⟩,d3⟩,d4⟩,d5⟩,d6⟩,d7⟩,d8⟩,d9⟩:=h9
  simp only [Bool.and_eq_true]
  exact ⟨⟨⟨⟨⟨⟨⟨⟨⟨⟨⟨⟨⟨⟨⟨⟨⟨⟨⟨⟨⟨⟨⟨⟨⟨⟨⟨⟨⟨⟨⟨a1,a2⟩,a3⟩,b1⟩,b2⟩,b3⟩,b4⟩,b5⟩,b6⟩,h3⟩,h4⟩,h5⟩,h6⟩,c1⟩,c2⟩,c3⟩,c4⟩,c5⟩,c6⟩,c7⟩,c8⟩,c9⟩,h8⟩,d1⟩,d2⟩,d3⟩,d4⟩,d5⟩,d6⟩,d7⟩,d8⟩,d9⟩
end Go.Proofs.YtniiiakkdoiaiaaGreatDoor
namespace Go.Proofs.YtniiiakkdoiaiaaGreatDoor
open Go Mb Go.ChangeShapes Go.WideShapes Go.RowKit
inductive FK where
  | i (k:IntKind)
  | b
def FK.ok:FK→Value→Prop
  | .i k,v=>∃ n,v = .int k n∧(Lit.int k n).wf = true
  | .b,v=>∃ x,v = .bool x
def tB:List FK→List Value→Prop
  | [],[]=>True
  | k::ks,v::vs=>k.ok v∧tB ks vs
  | _,_=>False
theorem tB.app:∀ {ks ls:List FK} {vs ws:List Value},tB ks vs→tB ls ws→tB (ks++ls) (vs++ws)
  | [],_,[],_,_,h=>h
  | _::_,_,_::_,_,h,g=>⟨h.1,h.2.app g⟩
  | [],_,_::_,_,h,_=>h.elim
  | _::_,_,[],_,h,_=>h.elim
theorem tB.len:∀ {ks:List FK} {vs:List Value},tB ks vs→vs.length = ks.length
  | [],[],_=>rfl
  | _::_,_::_,h=>by simp [h.2.len]
  | [],_::_,h=>h.elim
  | _::_,[],h=>h.elim
def fldK (P:Program) (r:TypeId→Option (List FK)):Nat→List Field→Option (List FK)
  | _,[]=>some []
  | o,f::fs=>if f.offset = o then (r f.type).bind fun ks=>if ks.length = P.cellsOf f.type then (fldK P r (o + ks.length) fs).map (ks++·) else none else none
def flatK (P:Program):Nat→TypeId→Option (List FK)
  | 0,_=>none
  | n + 1,t=>match P.underlying t with
    | some (.int k)=>some [.i k]
    | some .bool=>some [.b]
    | some (.struct fs)=>(fldK P (flatK P n) 0 fs.toList).bind fun ks=>if ks.length = P.cellsOf t then some ks else none
    | some (.array m e)=>(flatK P n e).bind fun ks=>if ks.length = P.cellsOf e∧m * ks.length = P.cellsOf t then some (List.replicate m ks).flatten else none
    | _=>none
section
variable {H:Type} {enc:TypeId × Value→H} {P:Program} {W:World} {nW:Nat} {sp:Nat→Bool} {held:Bool}
theorem trod_array {t e m fuel:Nat} {cs:List Value} {x:DataW H × List MemPlace} (ht:P.underlying t = some (.array m e)) (h:DataW.trod enc P W nW sp held fuel t cs = some x) :
    ∃ (xs:List (DataW H × List MemPlace)) (n:Nat),fuel = n + 1∧x = (.agg (xs.map (·.1)),xs.flatMap (·.2))∧cs.length = P.cellsOf t∧xs.length = m ∧
      ∀ i,i < m→DataW.trod enc P W nW sp held n e ((cs.drop (i * P.cellsOf e)).take (P.cellsOf e)) = xs[i]?:=by
  cases fuel with
  | zero=>simp [DataW.trod] at h
  | succ n =>
    unfold DataW.trod at h
    rw [ht] at h
    split at h <;> simp_all
    obtain ⟨hl,xs,hp,hd⟩:=h
    refine ⟨xs,hd.symm,by simpa using mapM_some_length hp,fun i hi=>mapM_some_get hp i i (by simp [hi])⟩
theorem flatMap_nil {α β:Type} {f:α→List β} {xs:List α} (h:∀ x ∈ xs,f x = []):xs.flatMap f = []:=by
  rw [List.flatMap_eq_nil_iff]; exact h
theorem take_drop_take (cs:List Value) (o n:Nat):(cs.drop o).take n++cs.drop (o + n) = cs.drop o:=by
  rw [← List.drop_drop,List.take_append_drop]
theorem fld_fits {r:TypeId→Option (List FK)} {cs:List Value} {g:TypeId→List Value→Option (DataW H × List MemPlace)} (hr:∀ t ks cs x,r t = some ks→g t cs = some x→tB ks cs∧x.2 = []) :
    ∀ (fs:List Field) (o:Nat) (ks:List FK),fldK P r o fs = some ks→(∀ f ∈ fs,∃ x,g f.type ((cs.drop f.offset).take (P.cellsOf f.type)) = some x)→o + ks.length = cs.length→tB ks (cs.drop o)
  | [],o,ks,h,_,hl=>by
    simp only [fldK,Option.some.injEq] at h
    subst h
    have:cs.drop o = []:=List.drop_eq_nil_of_le (by simp at hl; omega)
    rw [this]; trivial
  | f::fs,o,ks,h,hx,hl=>by
    unfold fldK at h
    split at h
    · rename_i ho
      obtain ⟨ks1,h1,h2⟩:=Option.bind_eq_some_iff.1 h
      split at h2
      · rename_i hc
        obtain ⟨ks2,h3,rfl⟩:=Option.map_eq_some_iff.1 h2
        obtain ⟨x,hx1⟩:=hx f (by simp)
        have f1:=(hr _ _ _ _ h1 hx1).1
        have f2:=fld_fits hr fs (o + ks1.length) ks2 h3 (fun f' hf'=>hx f' (by simp [hf'])) (by simp at hl; omega)
        rw [ho,← hc] at f1
        have:=f1.app f2
        rwa [take_drop_take] at this
      · cases h2
    · cases h
theorem arr_fits {ks:List FK} {c:Nat} (hc:ks.length = c):∀ (m:Nat) (cs:List Value),cs.length = m * c→(∀ i,i < m→tB ks ((cs.drop (i * c)).take c))→tB (List.replicate m ks).flatten cs
  | 0,cs,hl,_=>by
    have:cs = []:=List.eq_nil_of_length_eq_zero (by simpa using hl)
    subst this; trivial
  | m + 1,cs,hl,h=>by
    rw [List.replicate_succ,List.flatten_cons]
    have h0:=h 0 (by omega)
    simp only [Nat.zero_mul,List.drop_zero] at h0
    have h1:=arr_fits hc m (cs.drop c) (by rw [List.length_drop,hl,Nat.succ_mul]; omega) (fun i hi=>by
      have:=h (i + 1) (by omega)
      rwa [List.drop_drop,Nat.add_comm,← Nat.succ_mul])
    have:=h0.app h1
    rwa [List.take_append_drop] at this
theorem trod_flat:∀ (n t:Nat) (ks:List FK),flatK P n t = some ks→∀ (fuel:Nat) (cs:List Value) (x:DataW H × List MemPlace),DataW.trod enc P W nW sp held fuel t cs = some x→tB ks cs∧x.2 = []
  | 0,_,_,h,_,_,_,_=>by cases h
  | n + 1,t,ks,h,fuel,cs,x,hx=>by
    have ih:=trod_flat n
    unfold flatK at h
    split at h
    · rename_i k hu
      cases h
      obtain ⟨m,rfl,rfl,hw⟩:=DataW.trod_int hu hx
      exact ⟨⟨⟨m,rfl,hw⟩,trivial⟩,rfl⟩
    · rename_i hu
      cases h
      obtain ⟨b,rfl,rfl⟩:=DataW.trod_bool hu hx
      exact ⟨⟨⟨b,rfl⟩,trivial⟩,rfl⟩
    · rename_i fs hu
      obtain ⟨ks',h1,h2⟩:=Option.bind_eq_some_iff.1 h
      split at h2
      · rename_i hc
        cases h2
        obtain ⟨xs,f,rfl,rfl,hl,hxl,hi⟩:=DataW.trod_struct hu hx
        have hall:∀ fl ∈ fs.toList,∃ x,DataW.trod enc P W nW sp held f fl.type ((cs.drop fl.offset).take (P.cellsOf fl.type)) = some x:=by
          intro fl hfl
          obtain ⟨i,hi1,hi2⟩:=List.getElem_of_mem hfl
          have:=hi i fl (by rw [← Array.getElem?_toList,List.getElem?_eq_getElem hi1,hi2])
          have hlt:i < xs.length:=by rw [hxl]; simpa using hi1
          rw [List.getElem?_eq_getElem hlt] at this
          exact ⟨_,this⟩
        refine ⟨?_,flatMap_nil fun y hy=>?_⟩
        · have:=fld_fits (P:=P) (cs:=cs) (fun t ks cs x h=>ih t ks h f cs x) fs.toList 0 ks h1 hall (by rw [hc,hl]; omega)
          simpa using this
        · obtain ⟨i,hi1,rfl⟩:=List.getElem_of_mem hy
          have hif:i < fs.size:=by rw [← hxl]; exact hi1
          have h3:=hi i fs[i] (by simp [hif])
          rw [List.getElem?_eq_getElem hi1] at h3
          have key:∀ (l:List Field) (o:Nat) (ks:List FK),fldK P (flatK P n) o l = some ks→∀ fl ∈ l,∃ ks,flatK P n fl.type = some ks:=by
            intro l
            induction l with
            | nil=>intro _ _ _ fl h; cases h
            | cons a l ihl =>
              intro o ks hk fl hfl
              unfold fldK at hk
              split at hk
              · obtain ⟨k1,hk1,hk2⟩:=Option.bind_eq_some_iff.1 hk
                rcases List.mem_cons.1 hfl with rfl | hfl
                · exact ⟨_,hk1⟩
                · split at hk2
                  · obtain ⟨k2,hk3,_⟩:=Option.map_eq_some_iff.1 hk2
                    exact ihl _ _ hk3 fl hfl
                  · cases hk2
              · cases hk
          obtain ⟨ks2,hks2⟩:=key _ _ _ h1 fs[i] (by simp)
          exact (ih _ _ hks2 _ _ _ h3).2
      · cases h2
    · rename_i m e hu
      obtain ⟨ks',h1,h2⟩:=Option.bind_eq_some_iff.1 h
      split at h2
      · rename_i hc
        cases h2
        obtain ⟨xs,f,rfl,rfl,hl,hxl,hi⟩:=trod_array hu hx
        have hat:∀ i,i < m→∃ x,xs[i]? = some x∧DataW.trod enc P W nW sp held f e ((cs.drop (i * P.cellsOf e)).take (P.cellsOf e)) = some x:=fun i him=>by
          have:=hi i him
          rw [List.getElem?_eq_getElem (by omega)] at this
          exact ⟨_,List.getElem?_eq_getElem (by omega),this⟩
        refine ⟨arr_fits (by exact hc.1) m cs (by rw [hl,← hc.2,hc.1]) (fun i him=>?_),flatMap_nil fun y hy=>?_⟩
        · obtain ⟨x,_,hx2⟩:=hat i him
          exact (ih _ _ h1 _ _ _ hx2).1
        · obtain ⟨i,hi1,rfl⟩:=List.getElem_of_mem hy
          obtain ⟨x,hx1,hx2⟩:=hat i (by omega)
          rw [List.getElem?_eq_getElem hi1] at hx1
          cases hx1
          exact (ih _ _ h1 _ _ _ hx2).2
      · cases h2
    · cases h
end
structure Arg {τ:Type} (W:World) (m:Nat) (enc:τ→List Value) (s:Sl) (xs:List τ):Prop where
  len:s.len = xs.length
  cap:s.len ≤ s.cap
  row:s.cap = 0∨∃ b pre rest U fr,s.a = some (b,pre.length)∧s.cap * m ≤ s.len * m + rest.length∧s.g = some (pre,rest,U,fr)∧nf fr pre.length (s.cap * m)∧b ≠ 0∧W.heap[b]? = some (.cells (pre++(xs.flatMap enc++rest)).toArray U fr)
section
variable {H:Type} {enc:TypeId × Value→H} {P:Program} {W:World}
theorem has_spot {r:Reach} {b0:Nat} {t e:TypeId} {a:Addr} {len cap:Nat} (ht:P.underlying t = some (.slice e)) (h:Value.okWide P W r b0 t (.slice (some a) len cap)):a.spot = none∧∃ c T fr,W.heap[a.block]? = some (.cells c T fr):=by
  unfold Value.okWide at h
  rw [ht] at h
  unfold Cell.okWide at h
  rw [ht] at h
  simp only at h
  unfold Cell.ok at h
  rw [ht] at h
  simp only at h
  obtain ⟨_,_,_,hs,row,cells,h1,_⟩:=h
  refine ⟨hs,?_⟩
  unfold World.shape? at h1
  split at h1
  · rename_i c T fr hq
    exact ⟨_,_,_,hq⟩
  · cases h1
theorem open_arg {τ:Type} {b0 m:Nat} {t e:TypeId} {ks:List FK} {enc':τ→List Value} {v:Value} {d:DataW H} {ps:List MemPlace} {ET:Nat} {EF:Nat × Nat} {X:Value} (ht:P.underlying t = some (.slice e)) (hm:P.cellsOf e = m) (hk:flatK P 9 e = some ks) (hpos:0 < m)
    (dec:∀ cs,tB ks cs→∃ x:τ,enc' x = cs) (hval:Value.okWide P W .any b0 t v) (hd:DataW.Trod enc P W 0 (fun _=>true) true t v d ps) (hz:W.noneFrozen ps)
    (hw:W.heap[0]? = some (.cells #[X] ET EF)) (hX:∀ k,¬ FK.ok k X):∃ (s:Sl) (xs:List τ),v = sv s∧Arg W m enc' s xs:=by
  obtain ⟨a0,len0,lC,rfl⟩:=okWide_slice ht hval
  obtain ⟨fuel,hf⟩:=hd
  rcases Go.Deep.open_slice ht hf with ⟨h1,_⟩ | ⟨a,len,cap,mm,n,D,Pl,h1,_,hl,_,hmm,hx,hi⟩
  · simp only [Value.cells,List.cons.injEq,Value.slice.injEq,and_true] at h1
    obtain ⟨rfl,rfl,rfl⟩:=h1
    exact ⟨⟨none,0,0,none⟩,[],rfl,rfl,Nat.le_refl _,.inl rfl⟩
  · simp only [Value.cells,List.cons.injEq,Value.slice.injEq,and_true] at h1
    obtain ⟨rfl,rfl,rfl⟩:=h1
    simp only [if_true] at hmm
    subst hmm
    obtain ⟨hs,c,T,fr,hb⟩:=has_spot ht hval
    obtain ⟨b,off,spot⟩:=a
    simp only at hs hb
    subst hs
    by_cases hc0:mm = 0
    · subst hc0
      obtain rfl:len0 = 0:=by omega
      exact ⟨⟨some (b,off),0,0,none⟩,[],rfl,rfl,Nat.le_refl _,.inl rfl⟩
    rw [hm] at hi hx
    have kU:∀ i,i < mm→∃ x:τ,(enc' x).length = m∧tB ks (enc' x)∧∀ j,j < m→c.toList[off + i * m + j]? = (enc' x)[j]?:=by
      intro i him
      obtain ⟨cs',h2,h3⟩:=hi i him
      obtain ⟨_,hlen,hget⟩:=World.cells?_some h2
      have hfit:=(trod_flat 9 e ks hk _ _ _ h3).1
      obtain ⟨x,rfl⟩:=dec cs' hfit
      refine ⟨x,hlen,hfit,fun j hj=>?_⟩
      have:=hget j hj
      rw [WideShapes.add_plain,WideShapes.add_plain] at this
      rw [← this]
      unfold World.cell?
      rw [hb]
      simp
    have hsize:off + mm * m ≤ c.toList.length:=by
      obtain ⟨x,hxl,_,hj⟩:=kU (mm - 1) (by omega)
      have h4:=hj (m - 1) (by omega)
      have h5:=(List.getElem?_eq_some_iff.1 (h4.trans (List.getElem?_eq_getElem (by omega)))).1
      have:mm * m = (mm - 1) * m + m:=by rw [← Nat.succ_mul]; congr 1; omega
      omega
    have hflat:∀ k,k ≤ mm→∃ ys:List τ,ys.length = k∧(c.toList.drop off).take (k * m) = ys.flatMap enc':=by
      intro k
      induction k with
      | zero=>exact fun _=>⟨[],rfl,by simp⟩
      | succ k ih =>
        intro hk1
        obtain ⟨ys,hy1,hy2⟩:=ih (by omega)
        obtain ⟨x,hxl,_,hj⟩:=kU k (by omega)
        refine ⟨ys++[x],by simp [hy1],?_⟩
        rw [Nat.succ_mul,List.take_add,hy2,List.flatMap_append]
        congr 1
        simp only [List.flatMap_cons,List.flatMap_nil,List.append_nil]
        apply List.ext_getElem?
        intro j
        rw [List.drop_drop,List.getElem?_take,List.getElem?_drop]
        by_cases hjm:j < m
        · rw [if_pos hjm,← hj j hjm]
        · rw [if_neg hjm,List.getElem?_eq_none (by omega)]
    obtain ⟨xs,hx1,hx2⟩:=hflat len0 hl
    have hlm:len0 * m ≤ mm * m:=Nat.mul_le_mul_right m hl
    refine ⟨⟨some (b,off),len0,mm,some (c.toList.take off,c.toList.drop (off + len0 * m),T,fr)⟩,xs,rfl,hx1.symm,hl,.inr ⟨b,c.toList.take off,c.toList.drop (off + len0 * m),T,fr,?_,?_,rfl,?_,?_,?_⟩⟩
    · rw [List.length_take,Nat.min_eq_left (by omega)]
    · show mm * m ≤ len0 * m + _
      rw [List.length_drop]; omega
    · rw [List.length_take,Nat.min_eq_left (by omega)]
      intro j j1 j2
      have j2':j < off + mm * m:=j2
      have hp:MemPlace.cell b j ∈ ps:=by
        have hps:=congrArg Prod.snd hx
        simp only at hps
        rw [hps]
        refine List.mem_append_left _ (List.mem_map.2 ⟨j - off,List.mem_range.2 (by omega),?_⟩)
        show MemPlace.cell b (off + (j - off)) = _
        congr 1; omega
      have:=hz b j hp
      unfold World.frozen? at this
      simp only [hb] at this
      exact this
    · rintro rfl
      rw [hw] at hb
      cases hb
      obtain ⟨x,hxl,hfit,hj⟩:=kU 0 (by omega)
      have h4:=hj 0 hpos
      simp only [Nat.zero_mul,Nat.add_zero] at h4
      cases hks:ks with
      | nil=>subst hks; have:=hfit.len; simp at this; simp [this] at hxl; omega
      | cons k ks' =>
        subst hks
        cases hex:enc' x with
        | nil=>rw [hex] at hxl; simp at hxl; omega
        | cons y ys =>
          rw [hex] at hfit h4
          simp only [List.getElem?_cons_zero] at h4
          have h5:y = X:=by
            cases off with
            | zero=>simpa using h4.symm
            | succ o=>simp at h4
          exact hX k (h5 ▸ hfit.1)
    · rw [hb]
      congr 2
      apply Array.ext'
      show c.toList = c.toList.take off++(xs.flatMap enc'++c.toList.drop (off + len0 * m))
      rw [← hx2,← List.drop_drop,List.take_append_drop,List.take_append_drop]
theorem open_bool {b0:Nat} {t:TypeId} {v:Value} {d:DataW H} {ps:List MemPlace} (ht:P.underlying t = some .bool) (hval:Value.okWide P W .any b0 t v) (hd:DataW.Trod enc P W 0 (fun _=>true) true t v d ps):∃ b,v = .bool b:=okWide_bool ht hval
theorem trodAll_stays (hl:laidOutB P = true) {W':World} {sp':Nat→Bool}:∀ {ts:List TypeId} {vs:List Value} {ds:List (DataW H)} {ps:List MemPlace},(∀ t ∈ ts,P.readableRec t = true∧t < P.types.size) →
    DataW.TrodAll enc P W 0 (fun _=>true) true ts vs ds ps→(∀ p ∈ ps,W.sameAt W' p)→(∀ p ∈ ps,sp' p.block = true)→DataW.TrodAll enc P W' 0 sp' true ts vs ds ps
  | [],_,_,_,_,h,_,_=>by
    obtain ⟨rfl,rfl,rfl⟩:=trodAll_nil h
    rfl
  | t::ts,_,_,_,hr,h,hs,hp=>by
    obtain ⟨v,vs,d,ds,a,b,rfl,rfl,rfl,h1,h2⟩:=trodAll_cons h
    exact ⟨a,b,Go.WideElems.Trod_stays hl (hr t (by simp)).1 (hr t (by simp)).2 h1 (fun p q=>hs p (by simp [q])) (fun p q=>hp p (by simp [q])),trodAll_stays hl (fun t q=>hr t (by simp [q])) h2 (fun p q=>hs p (by simp [q])) (fun p q=>hp p (by simp [q])),rfl⟩
end
end Go.Proofs.YtniiiakkdoiaiaaGreatDoor
namespace Go.Proofs.YtniiiakkdoiaiaaGreatDoor
open Go Mb Go.ChangeShapes Go.WideShapes Go.RowKit
theorem no_iface (k:FK):¬ FK.ok k (rtV gl):=by
  cases k with
  | i k=>rintro ⟨n,h,_⟩; cases h
  | b=>rintro ⟨x,h⟩; cases h
theorem fit_cons {k:FK} {ks:List FK} {cs:List Value} (h:tB (k::ks) cs):∃ v vs,cs = v::vs∧k.ok v∧tB ks vs:=by
  cases cs with
  | nil=>exact h.elim
  | cons v vs=>exact ⟨v,vs,rfl,h.1,h.2⟩
theorem fit_i {k:IntKind} {ks:List FK} {cs:List Value} (h:tB (.i k::ks) cs):∃ (n:Int) (vs:List Value),cs = .int k n::vs∧(Lit.int k n).wf = true∧tB ks vs:=by
  obtain ⟨v,vs,rfl,⟨n,rfl,hw⟩,hf⟩:=fit_cons h
  exact ⟨n,vs,rfl,hw,hf⟩
theorem fit_nil {cs:List Value} (h:tB [] cs):cs = []:=by
  cases cs with
  | nil=>rfl
  | cons v vs=>exact h.elim
theorem Arg.sub {τ:Type} {P:τ→Prop} {W:World} {m:Nat} {C:τ→List Value} {s:Sl} {xs:List {x:τ // P x}} (A:Arg W m (fun x=>C x.1) s xs):Arg W m C s (xs.map (·.1))∧∀ x ∈ xs.map (·.1),P x:=by
  refine ⟨⟨by simpa using A.len,A.cap,?_⟩,fun x hx=>?_⟩
  · have e:(xs.map (·.1)).flatMap C = xs.flatMap (fun x=>C x.1):=by rw [List.flatMap_map]
    rw [e]; exact A.row
  · obtain ⟨y,_,rfl⟩:=List.mem_map.1 hx
    exact y.2
structure Same (W W':World):Prop where
  os:W'.os = W.os
  out:W'.output = W.output
  heap:∀ i,i < W.heap.size→W'.heap[i]? = W.heap[i]?
theorem Same.cell {W W':World} (s:Same W W') {p:MemPlace} (h:p.block < W.heap.size):W.sameAt W' p:=by
  cases p with
  | cell b off =>
    show W'.cell? _ = W.cell? _
    unfold World.cell?
    rw [s.heap b h]
  | map b=>exact s.heap b h
theorem run_spV {τ:Type} {T m:Nat} {enc:τ→List Value} {s:Sl} {xs:List τ} {f:FuncId} {vs:List Value} {ET:Nat} {EF:Nat × Nat} {W:World} (A:Arg W m enc s xs)
    (c:Sp Tryz.prog f vs aB [etB ET EF,vec T m enc s xs] (fun r=>pa_ (r = true) [etB ET EF,vec T m enc s xs])) (hw:W.heap[0]? = some (.cells #[rtV gl] ET EF)) :
    Calls Tryz.prog f vs.toArray W fun e W'=>e = .returned (.bool true)∧Same W W':=by
  have key:∀ (g:Hp),g 0 = none→(∀ b o,g b = some o→W.heap[b]? = some o)→vec T m enc s xs g→(∀ g',vec T m enc s xs g'→∀ b o,g b = some o→g' b = some o) →
      Calls Tryz.prog f vs.toArray W fun e W'=>e = .returned (.bool true)∧Same W W':=by
    intro g g0 gW gv gk
    have hs:Sub (un (dS emp 0 (.cells #[rtV gl] ET EF)) g) W:=by
      intro b o ho
      by_cases hb:b = 0
      · subst hb; rw [un_left (jA _ _ _)] at ho; rw [hw]; exact ho
      · rw [un_right (pY _ _ _ hb)] at ho; exact gW b o ho
    have hd:Dj (dS emp 0 (.cells #[rtV gl] ET EF)) g:=fun b=>by
      by_cases hb:b = 0
      · subst hb; exact .inr g0
      · exact .inl (pY _ _ _ hb)
    have hst:aG [etB ET EF,vec T m enc s xs] (un (dS emp 0 (.cells #[rtV gl] ET EF)) g):=⟨_,_,hd,rfl,jA _ _ _,we gv⟩
    refine (c _ hst W hs).mono ?_
    rintro e W' ⟨v,h',rfl,⟨r,rfl,q⟩,s',fr⟩
    obtain ⟨rfl,q⟩:=q
    obtain ⟨g1,a1,sub1⟩:=dV (i:=0) (A:=etB ET EF) rfl q
    obtain ⟨g2,a2,sub2⟩:=dV (i:=1) (A:=vec T m enc s xs) rfl q
    refine ⟨rfl,fr.os,fr.out,fun i hi=>?_⟩
    rcases Nat.eq_zero_or_pos i with rfl | hp
    · rw [s' _ _ (sub1 _ _ a1),hw]
    · cases hg:g i with
      | none=>exact fr.same i hi (tF.2 ⟨pY _ _ _ (by omega),hg⟩)
      | some o=>rw [s' _ _ (sub2 _ _ (gk g2 a2 i o hg)),gW i o hg]
  rcases A.row with h0 | ⟨b,pre,rest,U,fr,h1,h2,h3,h4,h5,h6⟩
  · exact key emp rfl (fun b o h=>by cases h) ⟨A.len,A.cap,.inl h0⟩ (fun _ _ b o h=>by cases h)
  · by_cases h0:s.cap = 0
    · exact key emp rfl (fun b o h=>by cases h) ⟨A.len,A.cap,.inl h0⟩ (fun _ _ b o h=>by cases h)
    · refine key (dS emp b (.cells (pre++(xs.flatMap enc++rest)).toArray U fr)) (pY _ _ _ (Ne.symm h5)) ?_ ⟨A.len,A.cap,.inr ⟨b,pre,rest,U,fr,h1,h2,?_,jA _ _ _⟩⟩ ?_
      · intro b' o ho
        unfold dS at ho
        split at ho
        · rename_i hb; subst hb; rw [h6]; exact ho
        · cases ho
      · unfold gh; rw [h3]; exact ⟨rfl,h4⟩
      · rintro g' ⟨_,_,r⟩ b' o ho
        rcases r with r | ⟨c',pre',rest',U',fr',r1,_,r3,r4⟩
        · exact absurd r h0
        · rw [h1] at r1
          unfold gh at r3
          rw [h3] at r3
          obtain ⟨r5,_⟩:=r3
          simp only [Prod.mk.injEq] at r5
          obtain ⟨rfl,rfl,rfl,rfl⟩:=r5
          simp only [Option.some.injEq,Prod.mk.injEq] at r1
          obtain ⟨rfl,_⟩:=r1
          unfold dS at ho
          split at ho
          · rename_i hb; subst hb; cases ho; exact r4
          · cases ho
theorem same_post {H:Type} {enc:TypeId × Value→H} {W W':World} {ts:List TypeId} {vs:List Value} {ds:List (DataW H)} {ps:List MemPlace} {sp:Nat→Bool} (hl:laidOutB Tryz.prog = true) (hr:(ts.all fun t=>Tryz.prog.readableRec t && decide (t < Tryz.prog.types.size)) = true)
    (h:DataW.TrodAll enc Tryz.prog W 0 (fun _=>true) true ts vs ds ps) (hlt:∀ p ∈ ps,p.block < W.heap.size) (s:Same W W') (hs:∀ p ∈ ps,sp p.block = true):DataW.TrodAll enc Tryz.prog W' 0 sp true ts vs ds ps :=
  trodAll_stays hl (fun t ht=>by
    have:=List.all_eq_true.1 hr t ht
    simp only [Bool.and_eq_true,decide_eq_true_eq] at this
    exact this) h (fun p hp=>s.cell (hlt p hp)) hs
theorem want_all {ts:List TypeId} (h:(ts.all fun t=>!(Tryz.prog.wantsStandIn t)) = true) {j:Nat} {t:TypeId} (ht:ts.toArray[j]? = some t):Tryz.prog.wantsStandIn t = false:=by
  have:=List.all_eq_true.1 h t (List.mem_of_getElem? (by simpa using ht))
  simpa using this
end Go.Proofs.YtniiiakkdoiaiaaGreatDoor
namespace Go.Proofs.YtniiiakkdoiaiaaGreatDoor
open Go Mb Go.ChangeShapes Go.WideShapes Go.RowKit
theorem decRaceSlot3 (cs:List Value) (h:tB [.i .i64] cs):∃ x:{x:Int // tB [.i .i64] ((cI .i64) x)},(cI .i64) x.1 = cs:=by
  have h0:=h
  obtain ⟨a0,r0,rfl,_,h⟩:=fit_i h
  obtain rfl:=fit_nil h
  exact ⟨⟨a0,h0⟩,rfl⟩
set_option maxRecDepth 100000 in
theorem lifted_8 (os:Os) (started:os.Started) (H:Type) (enc:TypeId × Value→H) :
    ReturnsInHanded {} Tryz.checked os 8 .any (fun w args=>(Rows.raceSlotSpec.pre enc Tryz.prog Tryz.f8 [] false w args∧laidMetH Tryz.prog laid w)∧sizedMet enc Tryz.prog Tryz.f8 (OpenSpec.ofChange Rows.raceSlotSpec) false w args)
      (Rows.raceSlotSpec.post enc Tryz.prog Tryz.f8 false true false false):=by
  refine returnsInHanded_of_change_and (C:=Tryz.checked) (X:=fun w _=>laidMetH Tryz.prog laid w) (fun _ _ _ hh h=>h.of_heap hh) Tryz.own started (by kernel_rfl) Tryz.func8
    (ChangeSpec.witness_at (enc:=enc) (C:=Tryz.checked) (os:=os) (X:=fun w _=>laidMetH Tryz.prog laid w) false (laidWorld os) #[.int .i64 0,.slice none 0 0,.bool false] 8 rfl (by kernel_rfl) (by kernel_rfl) (by kernel_rfl) (by kernel_rfl) (by kernel_rfl) (laidWorld_met os _)) ?_
  intro W nW args ds gs before hval0 hW _ _ hL _
  have hval:∀ (j:Nat) t v,Tryz.f8.params[j]? = some t→args[j]? = some v→Value.okWide Tryz.prog W .any nW t v:=hval0
  have hW':=hW
  obtain ⟨p,q,hA0,hV0,rfl,hfz,hnd⟩:=hW
  have hA:DataW.TrodAll enc Tryz.prog W 0 (fun _=>true) true Tryz.f8.params.toList args.toList ds p:=hA0
  have hV:DataW.TrodVars enc Tryz.prog W (fun _=>true) [] gs q:=hV0
  rw [Tryz.params8] at hA hval
  have hst:=hA
  obtain ⟨T,F,hb⟩:=block_of_laid hL
  obtain ⟨rfl,rfl⟩:gs = []∧q = []:=by
    cases gs with
    | nil=>exact ⟨rfl,hV⟩
    | cons g r=>exact absurd hV (by intro h; cases h)
  obtain ⟨v0,w0,d0,e0,p0,q0,hx0,rfl,rfl,h0,hA0⟩:=trodAll_cons hA
  obtain ⟨v1,w1,d1,e1,p1,q1,hx1,rfl,rfl,h1,hA1⟩:=trodAll_cons hA0
  obtain ⟨v2,w2,d2,e2,p2,q2,hx2,rfl,rfl,h2,hA2⟩:=trodAll_cons hA1
  obtain ⟨hy,rfl,rfl⟩:=trodAll_nil hA2
  subst hy
  subst hx2
  subst hx1
  obtain rfl:args = #[v0,v1,v2]:=by apply Array.ext'; exact hx0
  obtain ⟨n0,rfl,rfl,rfl,hw0⟩:=open_int Tryz.underlying3 (hval 0 3 v0 rfl rfl) h0
  obtain ⟨s1,ys1,rfl,A1⟩:=open_arg (m:=1) (ks:=[.i .i64]) (enc':=fun x:{x:Int // tB [.i .i64] ((cI .i64) x)}=>(cI .i64) x.1) Tryz.underlying41 (by kernel_rfl) (by kernel_rfl) (by decide) decRaceSlot3 (hval 1 41 v1 rfl rfl) h1 (fun b o hb=>hfz b o (by simp [hb])) hb no_iface
  obtain ⟨A1,hf1⟩:=A1.sub
  generalize ys1.map (·.1) = xs1 at A1 hf1
  obtain ⟨b2,rfl⟩:=open_bool Tryz.underlying4 (hval 2 4 v2 rfl rfl) h2
  refine (run_spV A1 (ET:=T) (EF:=F) (sp_RaceSlot n0 s1 xs1 b2) hb).mono fun e W' ⟨he,hk⟩=>?_
  subst he
  refine ⟨_,rfl,_,_,_,[],(([]:List MemPlace)++(p1++(p2++[]))),[],hW',?_,?_,?_,keptBut_same hk.os hk.out hk.heap,fun h=>by cases h⟩
  · exact trodAll_mk1 (shut_bool Tryz.underlying4 true)
  · exact same_post (by kernel_rfl) (by kernel_rfl) hst (fun p hp=>hW'.lt p (List.mem_append_left _ hp)) hk (fun p hp=>by simpa using hW'.lt p (List.mem_append_left _ hp))
  · rfl
end Go.Proofs.YtniiiakkdoiaiaaGreatDoor
